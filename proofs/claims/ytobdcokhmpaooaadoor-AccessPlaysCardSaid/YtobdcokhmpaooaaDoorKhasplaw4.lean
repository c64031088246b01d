/- Codes of functions, resolved: by a program of this session. -/
import Derived.Test.YtobdcokhmpaooaaDoorProg
import Derived.Test.YtobdcokhmpaooaaDoorM10
namespace Go.HM
open Go Go.Proofs
set_option linter.unusedVariables false
set_option maxRecDepth 100000
/-- hasp/hasplaw4.MemPlays -/
def c_hasplaw4_MemPlays : MFn := ⟨232, 2, [.tmp 4],
 (.seq
 (.o 4 (.mov (.const (.bool false))) <|
 .nil)
 (.seq
 (.seq
 (.o 23 (.call 5 []) <|
 (.o 24 (.bnot (.tmp 23)) <|
 .nil))
 (.cond (.tmp 24)
 (.seq
 (.o 4 (.mov (.const (.bool false))) <|
 .nil)
 .ret)
 .nil))
 (.seq
 (.seq
 (.o 25 (.mov (.tmp 1)) <|
 (.o 26 (.lenS (.tmp 25)) <|
 (.o 27 (.icmp .gtr (.tmp 26) (.const (.int .i64 60))) <|
 .nil)))
 (.cond (.tmp 27)
 (.seq
 (.o 4 (.mov (.const (.bool true))) <|
 .nil)
 .ret)
 .nil))
 (.seq
 (.o 29 (.mov (.tmp 0)) <|
 (.o 30 (.call 6 [(.tmp 29)]) <|
 (.o 28 (.mov (.tmp 30)) <|
 (.o 31 (.ext (.tmp 28) 0) <|
 (.o 32 (.ext (.tmp 28) 1) <|
 (.o 5 (.mov (.tmp 31)) <|
 (.o 6 (.mov (.tmp 32)) <|
 .nil)))))))
 (.seq
 (.o 34 (.mov (.tmp 0)) <|
 (.o 35 (.call 7 [(.tmp 34)]) <|
 (.o 33 (.mov (.tmp 35)) <|
 (.o 36 (.ext (.tmp 33) 0) <|
 (.o 37 (.ext (.tmp 33) 1) <|
 (.o 8 (.al 31 [(.string ⟨#[]⟩), (.int .i64 0), (.int .i64 0)]) <|
 (.o 7 (.mov (.tmp 36)) <|
 (.op none none (.stn 3 (.tmp 8) (.tmp 37)) <|
 .nil))))))))
 (.seq
 (.seq
 (.o 38 (.mov (.tmp 6)) <|
 (.o 39 (.ldn 3 (.tmp 8)) <|
 (.o 40 (.call 8 [(.tmp 38), (.tmp 39)]) <|
 (.o 41 (.bnot (.tmp 40)) <|
 (.o 42 (.mov (.tmp 41)) <|
 (.op (some (42, false)) (some 43) (.mov (.tmp 5)) <|
 (.op (some (42, false)) (some 44) (.ptnil true (.tmp 43)) <|
 (.op (some (42, false)) (some 45) (.mov (.tmp 7)) <|
 (.op (some (42, false)) (some 46) (.ptnil true (.tmp 45)) <|
 (.op (some (42, false)) (some 47) (.beq true (.tmp 44) (.tmp 46)) <|
 (.o 48 (.pick (.tmp 42) (.const (.bool true)) (.tmp 47)) <|
 .nil)))))))))))
 (.cond (.tmp 48)
 (.seq
 (.o 4 (.mov (.const (.bool false))) <|
 .nil)
 .ret)
 .nil))
 (.seq
 (.seq
 (.o 49 (.mov (.tmp 7)) <|
 (.o 50 (.ptnil false (.tmp 49)) <|
 .nil))
 (.cond (.tmp 50)
 (.seq
 (.o 4 (.mov (.const (.bool true))) <|
 .nil)
 .ret)
 .nil))
 (.seq
 (.seq
 (.o 9 (.mov (.const (.int .i64 0))) <|
 .nil)
 (.block 0
 (.loop
 (.seq
 (.seq
 (.o 51 (.mov (.tmp 9)) <|
 (.o 52 (.mov (.tmp 1)) <|
 (.o 53 (.lenS (.tmp 52)) <|
 (.o 54 (.icmp .lss (.tmp 51) (.tmp 53)) <|
 .nil))))
 (.cond (.tmp 54)
 .nil
 (.exit 0)))
 (.seq
 (.block 1
 (.seq
 (.o 57 (.mov (.tmp 1)) <|
 (.o 58 (.mov (.tmp 9)) <|
 (.o 59 (.idxS 10 (.tmp 57) (.tmp 58)) <|
 (.o 60 (.ldn 10 (.tmp 59)) <|
 (.o 10 (.al 41 [(.int .i64 0), (.int .i64 0), (.int .i64 0), (.slice none 0 0), (.bool false), (.int .u32 0), (.int .u32 0), (.int .u32 0), (.int .u16 0), (.int .u16 0)]) <|
 (.op none none (.stn 10 (.tmp 10) (.tmp 60)) <|
 .nil))))))
 (.seq
 (.seq
 (.o 61 (.fadr 3 (.tmp 10)) <|
 (.o 62 (.ld1 (.tmp 61)) <|
 (.o 63 (.lenS (.tmp 62)) <|
 (.o 64 (.icmp .gtr (.tmp 63) (.const (.int .i64 200))) <|
 .nil))))
 (.cond (.tmp 64)
 (.seq
 (.o 4 (.mov (.const (.bool true))) <|
 .nil)
 .ret)
 .nil))
 (.seq
 (.o 65 (.fadr 0 (.tmp 10)) <|
 (.o 66 (.ld1 (.tmp 65)) <|
 .nil))
 (.block 2
 (.seq
 (.o 68 (.icmp .eql (.tmp 66) (.const (.int .i64 1))) <|
 (.o 67 (.mov (.tmp 68)) <|
 .nil))
 (.cond (.tmp 67)
 (.seq
 (.draw
 (.o 69 (.mov (.tmp 5)) <|
 (.o 70 (.fadr 1 (.tmp 10)) <|
 (.o 71 (.ld1 (.tmp 70)) <|
 (.o 72 (.fadr 3 (.tmp 10)) <|
 (.o 73 (.ld1 (.tmp 72)) <|
 (.o 75 (.mov (.tmp 7)) <|
 (.o 76 (.fadr 1 (.tmp 10)) <|
 (.o 77 (.ld1 (.tmp 76)) <|
 (.o 78 (.fadr 3 (.tmp 10)) <|
 (.o 79 (.ld1 (.tmp 78)) <|
 (.o 74 (.call 9 [(.tmp 69), (.tmp 71), (.tmp 73)]) <|
 (.o 80 (.call 10 [(.tmp 75), (.tmp 77), (.tmp 79)]) <|
 (.o 81 (.call 8 [(.tmp 74), (.tmp 80)]) <|
 (.o 82 (.bnot (.tmp 81)) <|
 .nil)))))))))))))))
 (.cond (.tmp 82)
 (.seq
 (.o 4 (.mov (.const (.bool false))) <|
 .nil)
 .ret)
 .nil))
 (.seq
 (.o 84 (.icmp .eql (.tmp 66) (.const (.int .i64 2))) <|
 (.o 83 (.mov (.tmp 84)) <|
 .nil))
 (.cond (.tmp 83)
 (.seq
 (.draw
 (.o 85 (.mov (.tmp 5)) <|
 (.o 86 (.fadr 1 (.tmp 10)) <|
 (.o 87 (.ld1 (.tmp 86)) <|
 (.o 88 (.fadr 4 (.tmp 10)) <|
 (.o 89 (.ldn 6 (.tmp 88)) <|
 (.o 91 (.mov (.tmp 7)) <|
 (.o 92 (.fadr 1 (.tmp 10)) <|
 (.o 93 (.ld1 (.tmp 92)) <|
 (.o 94 (.fadr 4 (.tmp 10)) <|
 (.o 95 (.ldn 6 (.tmp 94)) <|
 (.o 90 (.call 11 [(.tmp 85), (.tmp 87), (.tmp 89)]) <|
 (.o 96 (.call 13 [(.tmp 95)]) <|
 (.o 97 (.call 12 [(.tmp 91), (.tmp 93), (.tmp 96)]) <|
 (.o 98 (.call 8 [(.tmp 90), (.tmp 97)]) <|
 (.o 99 (.bnot (.tmp 98)) <|
 .nil))))))))))))))))
 (.cond (.tmp 99)
 (.seq
 (.o 4 (.mov (.const (.bool false))) <|
 .nil)
 .ret)
 .nil))
 (.seq
 (.o 101 (.icmp .eql (.tmp 66) (.const (.int .i64 3))) <|
 (.o 100 (.mov (.tmp 101)) <|
 .nil))
 (.cond (.tmp 100)
 (.seq
 (.o 103 (.mov (.tmp 5)) <|
 (.o 104 (.fadr 1 (.tmp 10)) <|
 (.o 105 (.ld1 (.tmp 104)) <|
 (.o 106 (.fadr 2 (.tmp 10)) <|
 (.o 107 (.ld1 (.tmp 106)) <|
 (.o 108 (.call 14 [(.tmp 103), (.tmp 105), (.tmp 107)]) <|
 (.o 102 (.mov (.tmp 108)) <|
 (.o 109 (.ext (.tmp 102) 0) <|
 (.o 110 (.ext (.tmp 102) 1) <|
 (.o 11 (.mov (.tmp 109)) <|
 (.o 12 (.mov (.tmp 110)) <|
 .nil)))))))))))
 (.seq
 (.o 112 (.mov (.tmp 7)) <|
 (.o 113 (.fadr 1 (.tmp 10)) <|
 (.o 114 (.ld1 (.tmp 113)) <|
 (.o 115 (.fadr 2 (.tmp 10)) <|
 (.o 116 (.ld1 (.tmp 115)) <|
 (.o 117 (.call 15 [(.tmp 112), (.tmp 114), (.tmp 116)]) <|
 (.o 111 (.mov (.tmp 117)) <|
 (.o 118 (.ext (.tmp 111) 0) <|
 (.o 119 (.ext (.tmp 111) 1) <|
 (.o 14 (.al 31 [(.string ⟨#[]⟩), (.int .i64 0), (.int .i64 0)]) <|
 (.o 13 (.mov (.tmp 118)) <|
 (.op none none (.stn 3 (.tmp 14) (.tmp 119)) <|
 .nil))))))))))))
 (.seq
 (.o 120 (.mov (.tmp 12)) <|
 (.o 121 (.ldn 3 (.tmp 14)) <|
 (.o 122 (.call 8 [(.tmp 120), (.tmp 121)]) <|
 (.o 123 (.bnot (.tmp 122)) <|
 (.o 124 (.mov (.tmp 123)) <|
 (.op (some (124, false)) (some 125) (.mov (.tmp 11)) <|
 (.op (some (124, false)) (some 126) (.cvBS (.tmp 125)) <|
 (.op (some (124, false)) (some 127) (.mov (.tmp 13)) <|
 (.op (some (124, false)) (some 128) (.cvBS (.tmp 127)) <|
 (.op (some (124, false)) (some 129) (.scmp .neq (.tmp 126) (.tmp 128)) <|
 (.o 130 (.pick (.tmp 124) (.const (.bool true)) (.tmp 129)) <|
 .nil)))))))))))
 (.cond (.tmp 130)
 (.seq
 (.o 4 (.mov (.const (.bool false))) <|
 .nil)
 .ret)
 .nil))))
 (.seq
 (.o 132 (.icmp .eql (.tmp 66) (.const (.int .i64 4))) <|
 (.o 131 (.mov (.tmp 132)) <|
 .nil))
 (.cond (.tmp 131)
 (.seq
 (.o 134 (.mov (.tmp 5)) <|
 (.o 135 (.fadr 1 (.tmp 10)) <|
 (.o 136 (.ld1 (.tmp 135)) <|
 (.o 137 (.call 16 [(.tmp 134), (.tmp 136)]) <|
 (.o 133 (.mov (.tmp 137)) <|
 (.o 138 (.ext (.tmp 133) 0) <|
 (.o 139 (.ext (.tmp 133) 1) <|
 (.o 15 (.al 39 [(.bool false), (.int .u32 0), (.int .u32 0), (.int .u32 0), (.int .u16 0), (.int .u16 0)]) <|
 (.op none none (.stn 6 (.tmp 15) (.tmp 138)) <|
 (.o 16 (.mov (.tmp 139)) <|
 .nil))))))))))
 (.seq
 (.o 141 (.mov (.tmp 7)) <|
 (.o 142 (.fadr 1 (.tmp 10)) <|
 (.o 143 (.ld1 (.tmp 142)) <|
 (.o 144 (.call 17 [(.tmp 141), (.tmp 143)]) <|
 (.o 140 (.mov (.tmp 144)) <|
 (.o 145 (.ext (.tmp 140) 0) <|
 (.o 146 (.ext (.tmp 140) 1) <|
 (.o 17 (.al 46 [(.bool false), (.int .u32 0), (.int .u32 0), (.int .u32 0), (.int .u16 0), (.int .u16 0)]) <|
 (.o 18 (.al 31 [(.string ⟨#[]⟩), (.int .i64 0), (.int .i64 0)]) <|
 (.op none none (.stn 6 (.tmp 17) (.tmp 145)) <|
 (.op none none (.stn 3 (.tmp 18) (.tmp 146)) <|
 .nil)))))))))))
 (.seq
 (.draw
 (.o 147 (.mov (.tmp 16)) <|
 (.o 148 (.ldn 3 (.tmp 18)) <|
 (.o 149 (.call 8 [(.tmp 147), (.tmp 148)]) <|
 (.o 150 (.bnot (.tmp 149)) <|
 (.o 151 (.mov (.tmp 150)) <|
 (.op (some (151, false)) (some 152) (.ldn 6 (.tmp 15)) <|
 (.op (some (151, false)) (some 154) (.ldn 6 (.tmp 17)) <|
 (.op (some (151, false)) (some 153) (.call 13 [(.tmp 152)]) <|
 (.op (some (151, false)) (some 155) (.aeq true [.bool, .int, .int, .int, .int, .int] (.tmp 153) (.tmp 154)) <|
 (.o 156 (.pick (.tmp 151) (.const (.bool true)) (.tmp 155)) <|
 .nil)))))))))))
 (.cond (.tmp 156)
 (.seq
 (.o 4 (.mov (.const (.bool false))) <|
 .nil)
 .ret)
 .nil))))
 (.seq
 (.o 158 (.icmp .eql (.tmp 66) (.const (.int .i64 5))) <|
 (.o 157 (.mov (.tmp 158)) <|
 .nil))
 (.cond (.tmp 157)
 (.seq
 (.o 159 (.fadr 2 (.tmp 10)) <|
 (.o 160 (.ld1 (.tmp 159)) <|
 (.o 19 (.mov (.tmp 160)) <|
 .nil)))
 (.seq
 (.seq
 (.o 161 (.mov (.tmp 19)) <|
 (.o 162 (.mov (.tmp 0)) <|
 (.o 163 (.icmp .gtr (.tmp 161) (.tmp 162)) <|
 .nil)))
 (.cond (.tmp 163)
 (.o 164 (.mov (.tmp 0)) <|
 (.o 165 (.iar .add (.tmp 164) (.const (.int .i64 1))) <|
 (.o 19 (.mov (.tmp 165)) <|
 .nil)))
 .nil))
 (.seq
 (.o 166 (.fadr 1 (.tmp 10)) <|
 (.o 167 (.ld1 (.tmp 166)) <|
 (.o 168 (.bld [(.string ⟨#[]⟩), (.int .i64 0), (.int .i64 0)] [(0, 1, (.const (.string ⟨#[109, 101, 109]⟩))), (1, 1, (.tmp 167)), (2, 1, (.const (.int .i64 6)))]) <|
 (.o 20 (.al 31 [(.string ⟨#[]⟩), (.int .i64 0), (.int .i64 0)]) <|
 (.op none none (.stn 3 (.tmp 20) (.tmp 168)) <|
 .nil)))))
 (.seq
 (.seq
 (.o 169 (.mov (.tmp 19)) <|
 (.o 170 (.icmp .geq (.tmp 169) (.const (.int .i64 0))) <|
 .nil))
 (.cond (.tmp 170)
 (.draw
 (.o 171 (.mov (.tmp 7)) <|
 (.o 172 (.fadr 1 (.tmp 10)) <|
 (.o 173 (.ld1 (.tmp 172)) <|
 (.o 174 (.mov (.tmp 19)) <|
 (.o 175 (.mkSl 35 (.tmp 174) (.tmp 174)) <|
 (.o 176 (.call 10 [(.tmp 171), (.tmp 173), (.tmp 175)]) <|
 (.op none none (.stn 3 (.tmp 20) (.tmp 176)) <|
 .nil))))))))
 .nil))
 (.seq
 (.draw
 (.o 177 (.mov (.tmp 5)) <|
 (.o 178 (.fadr 1 (.tmp 10)) <|
 (.o 179 (.ld1 (.tmp 178)) <|
 (.o 180 (.mov (.tmp 19)) <|
 (.o 182 (.ldn 3 (.tmp 20)) <|
 (.o 181 (.call 18 [(.tmp 177), (.tmp 179), (.tmp 180)]) <|
 (.o 183 (.call 8 [(.tmp 181), (.tmp 182)]) <|
 (.o 184 (.bnot (.tmp 183)) <|
 .nil)))))))))
 (.cond (.tmp 184)
 (.seq
 (.o 4 (.mov (.const (.bool false))) <|
 .nil)
 .ret)
 .nil))))))
 (.seq
 (.o 186 (.icmp .eql (.tmp 66) (.const (.int .i64 6))) <|
 (.o 185 (.mov (.tmp 186)) <|
 .nil))
 (.cond (.tmp 185)
 (.seq
 (.o 187 (.mov (.tmp 5)) <|
 (.o 188 (.call 19 [(.tmp 187)]) <|
 (.o 21 (.mov (.tmp 188)) <|
 .nil)))
 (.seq
 (.seq
 (.o 189 (.mov (.tmp 21)) <|
 (.o 190 (.ptnil false (.tmp 189)) <|
 (.o 191 (.mov (.tmp 190)) <|
 (.op (some (191, false)) (some 192) (.mov (.tmp 21)) <|
 (.op (some (191, false)) (some 193) (.mov (.tmp 5)) <|
 (.op (some (191, false)) (some 194) (.call 20 [(.tmp 192), (.tmp 193)]) <|
 (.op (some (191, false)) (some 195) (.bnot (.tmp 194)) <|
 (.o 196 (.pick (.tmp 191) (.const (.bool true)) (.tmp 195)) <|
 .nil))))))))
 (.cond (.tmp 196)
 (.seq
 (.o 4 (.mov (.const (.bool false))) <|
 .nil)
 .ret)
 .nil))
 (.seq
 (.o 197 (.mov (.tmp 5)) <|
 (.o 198 (.mov (.tmp 0)) <|
 (.o 199 (.call 18 [(.tmp 197), (.const (.int .i64 0)), (.tmp 198)]) <|
 .nil)))
 (.o 200 (.mov (.tmp 21)) <|
 (.o 5 (.mov (.tmp 200)) <|
 .nil)))))
 (.seq
 (.o 202 (.icmp .eql (.tmp 66) (.const (.int .i64 7))) <|
 (.o 201 (.mov (.tmp 202)) <|
 .nil))
 (.cond (.tmp 201)
 (.seq
 (.draw
 (.o 203 (.fadr 1 (.tmp 10)) <|
 (.o 204 (.ld1 (.tmp 203)) <|
 (.o 205 (.icmp .geq (.tmp 204) (.const (.int .i64 0))) <|
 (.o 206 (.mov (.tmp 205)) <|
 (.op (some (206, true)) (some 207) (.fadr 1 (.tmp 10)) <|
 (.op (some (206, true)) (some 208) (.ld1 (.tmp 207)) <|
 (.op (some (206, true)) (some 209) (.mov (.tmp 0)) <|
 (.op (some (206, true)) (some 210) (.icmp .lss (.tmp 208) (.tmp 209)) <|
 (.o 211 (.pick (.tmp 206) (.tmp 210) (.const (.bool false))) <|
 (.o 212 (.mov (.tmp 211)) <|
 (.op (some (212, true)) (some 213) (.mov (.tmp 7)) <|
 (.op (some (212, true)) (some 214) (.nilchk (.tmp 213)) <|
 (.op (some (212, true)) (some 215) (.fadr 1 (.tmp 214)) <|
 (.op (some (212, true)) (some 216) (.ld1 (.tmp 215)) <|
 (.op (some (212, true)) (some 217) (.fadr 1 (.tmp 10)) <|
 (.op (some (212, true)) (some 218) (.ld1 (.tmp 217)) <|
 (.op (some (212, true)) (some 219) (.idivC .quo (.tmp 218) .i64 16) <|
 (.op (some (212, true)) (some 220) (.idxS 1 (.tmp 216) (.tmp 219)) <|
 (.op (some (212, true)) (some 221) (.ld1 (.tmp 220)) <|
 (.o 222 (.pick (.tmp 212) (.tmp 221) (.const (.bool false))) <|
 (.o 22 (.mov (.tmp 222)) <|
 .nil))))))))))))))))))))))
 (.seq
 (.o 223 (.mov (.tmp 5)) <|
 (.o 224 (.fadr 1 (.tmp 10)) <|
 (.o 225 (.ld1 (.tmp 224)) <|
 (.o 226 (.call 21 [(.tmp 223), (.tmp 225)]) <|
 (.o 227 (.mov (.tmp 22)) <|
 (.o 228 (.beq true (.tmp 226) (.tmp 227)) <|
 .nil))))))
 (.cond (.tmp 228)
 (.seq
 (.o 4 (.mov (.const (.bool false))) <|
 .nil)
 .ret)
 .nil)))
 .nil)))))))))))))))))))
 (.o 55 (.mov (.tmp 9)) <|
 (.o 56 (.iar .add (.tmp 55) (.const (.int .i64 1))) <|
 (.o 9 (.mov (.tmp 56)) <|
 .nil))))))))
 (.seq
 (.o 229 (.mov (.tmp 5)) <|
 (.o 230 (.mov (.tmp 7)) <|
 (.o 231 (.call 22 [(.tmp 229), (.tmp 230)]) <|
 (.o 4 (.mov (.tmp 231)) <|
 .nil))))
 .ret)))))))))⟩
theorem m_hasplaw4_MemPlays : toFn Tryd.prog 3 = some c_hasplaw4_MemPlays := by kernel_rfl
abbrev n_hasplaw4_MemPlays : FuncId := 3
/-- hasp/hasplaw4.known -/
def c_hasplaw4_known : MFn := ⟨153, 0, [.tmp 0],
 (.seq
 (.o 0 (.mov (.const (.bool false))) <|
 .nil)
 (.seq
 (.o 19 (.call 6 [(.const (.int .i64 64))]) <|
 (.o 18 (.mov (.tmp 19)) <|
 (.o 20 (.ext (.tmp 18) 0) <|
 (.o 21 (.ext (.tmp 18) 1) <|
 (.o 1 (.mov (.tmp 20)) <|
 (.o 2 (.mov (.tmp 21)) <|
 .nil))))))
 (.seq
 (.o 23 (.call 6 [(.const (.int .i64 17))]) <|
 (.o 22 (.mov (.tmp 23)) <|
 (.o 24 (.ext (.tmp 22) 0) <|
 (.o 25 (.ext (.tmp 22) 1) <|
 (.o 3 (.mov (.tmp 24)) <|
 (.o 4 (.mov (.tmp 25)) <|
 .nil))))))
 (.seq
 (.seq
 (.o 26 (.mov (.tmp 2)) <|
 (.o 27 (.ifnil true (.tmp 26)) <|
 (.o 28 (.mov (.tmp 27)) <|
 (.op (some (28, false)) (some 29) (.mov (.tmp 1)) <|
 (.op (some (28, false)) (some 30) (.ptnil false (.tmp 29)) <|
 (.o 31 (.pick (.tmp 28) (.const (.bool true)) (.tmp 30)) <|
 (.o 32 (.mov (.tmp 31)) <|
 (.op (some (32, false)) (some 33) (.mov (.tmp 4)) <|
 (.op (some (32, false)) (some 34) (.bld [(.string ⟨#[]⟩), (.int .i64 0), (.int .i64 0)] [(0, 1, (.const (.string ⟨#[115, 105, 122, 101]⟩))), (1, 1, (.const (.int .i64 17))), (2, 1, (.const (.int .i64 5)))]) <|
 (.op (some (32, false)) (some 35) (.call 8 [(.tmp 33), (.tmp 34)]) <|
 (.op (some (32, false)) (some 36) (.bnot (.tmp 35)) <|
 (.o 37 (.pick (.tmp 32) (.const (.bool true)) (.tmp 36)) <|
 .nil))))))))))))
 (.cond (.tmp 37)
 (.seq
 (.o 0 (.mov (.const (.bool false))) <|
 .nil)
 .ret)
 .nil))
 (.seq
 (.o 38 (.call 33 [(.const (.int .u32 64))]) <|
 (.o 5 (.al 39 [(.bool false), (.int .u32 0), (.int .u32 0), (.int .u32 0), (.int .u16 0), (.int .u16 0)]) <|
 (.op none none (.stn 6 (.tmp 5) (.tmp 38)) <|
 .nil)))
 (.seq
 (.o 39 (.mov (.tmp 1)) <|
 (.o 40 (.ldn 6 (.tmp 5)) <|
 (.o 41 (.call 11 [(.tmp 39), (.const (.int .i64 16)), (.tmp 40)]) <|
 (.o 6 (.mov (.tmp 41)) <|
 .nil))))
 (.seq
 (.o 43 (.mov (.tmp 1)) <|
 (.o 44 (.call 16 [(.tmp 43), (.const (.int .i64 16))]) <|
 (.o 42 (.mov (.tmp 44)) <|
 (.o 45 (.ext (.tmp 42) 0) <|
 (.o 46 (.ext (.tmp 42) 1) <|
 (.o 7 (.al 39 [(.bool false), (.int .u32 0), (.int .u32 0), (.int .u32 0), (.int .u16 0), (.int .u16 0)]) <|
 (.op none none (.stn 6 (.tmp 7) (.tmp 45)) <|
 (.o 8 (.mov (.tmp 46)) <|
 .nil))))))))
 (.seq
 (.o 47 (.mov (.tmp 1)) <|
 (.o 48 (.call 34 [(.tmp 47)]) <|
 (.o 9 (.mov (.tmp 48)) <|
 .nil)))
 (.seq
 (.o 49 (.mov (.tmp 1)) <|
 (.o 50 (.call 19 [(.tmp 49)]) <|
 (.o 10 (.mov (.tmp 50)) <|
 .nil)))
 (.seq
 (.o 51 (.mov (.tmp 1)) <|
 (.o 52 (.bldS 5 1 [(.int .u8 0)] [(0, 1, (.const (.int .u8 9)))]) <|
 (.o 53 (.call 9 [(.tmp 51), (.const (.int .i64 31)), (.tmp 52)]) <|
 (.o 11 (.mov (.tmp 53)) <|
 .nil))))
 (.seq
 (.o 55 (.mov (.tmp 1)) <|
 (.o 56 (.call 16 [(.tmp 55), (.const (.int .i64 16))]) <|
 (.o 54 (.mov (.tmp 56)) <|
 (.o 57 (.ext (.tmp 54) 0) <|
 (.o 58 (.ext (.tmp 54) 1) <|
 (.o 12 (.al 39 [(.bool false), (.int .u32 0), (.int .u32 0), (.int .u32 0), (.int .u16 0), (.int .u16 0)]) <|
 (.op none none (.stn 6 (.tmp 12) (.tmp 57)) <|
 (.o 13 (.mov (.tmp 58)) <|
 .nil))))))))
 (.seq
 (.o 60 (.mov (.tmp 1)) <|
 (.o 61 (.call 14 [(.tmp 60), (.const (.int .i64 31)), (.const (.int .i64 1))]) <|
 (.o 59 (.mov (.tmp 61)) <|
 (.o 62 (.ext (.tmp 59) 0) <|
 (.o 63 (.ext (.tmp 59) 1) <|
 (.o 14 (.mov (.tmp 62)) <|
 (.o 15 (.mov (.tmp 63)) <|
 .nil)))))))
 (.seq
 (.o 65 (.mov (.tmp 1)) <|
 (.o 66 (.call 14 [(.tmp 65), (.const (.int .i64 60)), (.const (.int .i64 5))]) <|
 (.o 64 (.mov (.tmp 66)) <|
 (.o 67 (.ext (.tmp 64) 0) <|
 (.o 68 (.ext (.tmp 64) 1) <|
 (.o 16 (.mov (.tmp 67)) <|
 (.o 17 (.mov (.tmp 68)) <|
 .nil)))))))
 (.seq
 (.o 69 (.mov (.tmp 6)) <|
 (.o 70 (.ifnil false (.tmp 69)) <|
 (.o 71 (.mov (.tmp 70)) <|
 (.op (some (71, true)) (some 72) (.mov (.tmp 8)) <|
 (.op (some (71, true)) (some 73) (.ifnil false (.tmp 72)) <|
 (.o 74 (.pick (.tmp 71) (.tmp 73) (.const (.bool false))) <|
 (.o 75 (.mov (.tmp 74)) <|
 (.op (some (75, true)) (some 76) (.ldn 6 (.tmp 7)) <|
 (.op (some (75, true)) (some 77) (.ldn 6 (.tmp 5)) <|
 (.op (some (75, true)) (some 78) (.aeq false [.bool, .int, .int, .int, .int, .int] (.tmp 76) (.tmp 77)) <|
 (.o 79 (.pick (.tmp 75) (.tmp 78) (.const (.bool false))) <|
 (.o 80 (.mov (.tmp 79)) <|
 (.op (some (80, true)) (some 81) (.mov (.tmp 9)) <|
 (.op (some (80, true)) (some 82) (.lenS (.tmp 81)) <|
 (.op (some (80, true)) (some 83) (.icmp .eql (.tmp 82) (.const (.int .i64 1))) <|
 (.o 84 (.pick (.tmp 80) (.tmp 83) (.const (.bool false))) <|
 (.o 85 (.mov (.tmp 84)) <|
 (.op (some (85, true)) (some 86) (.mov (.tmp 9)) <|
 (.op (some (85, true)) (some 87) (.idxS 1 (.tmp 86) (.const (.int .i64 0))) <|
 (.op (some (85, true)) (some 88) (.ld1 (.tmp 87)) <|
 (.op (some (85, true)) (some 89) (.icmp .eql (.tmp 88) (.const (.int .i64 16))) <|
 (.o 90 (.pick (.tmp 85) (.tmp 89) (.const (.bool false))) <|
 (.o 91 (.mov (.tmp 90)) <|
 (.op (some (91, true)) (some 92) (.mov (.tmp 1)) <|
 (.op (some (91, true)) (some 93) (.call 35 [(.tmp 92)]) <|
 (.op (some (91, true)) (some 94) (.icmp .eql (.tmp 93) (.const (.int .i64 64))) <|
 (.o 95 (.pick (.tmp 91) (.tmp 94) (.const (.bool false))) <|
 (.o 96 (.mov (.tmp 95)) <|
 (.op (some (96, true)) (some 97) (.mov (.tmp 11)) <|
 (.op (some (96, true)) (some 98) (.ifnil false (.tmp 97)) <|
 (.o 99 (.pick (.tmp 96) (.tmp 98) (.const (.bool false))) <|
 (.o 100 (.mov (.tmp 99)) <|
 (.op (some (100, true)) (some 101) (.mov (.tmp 13)) <|
 (.op (some (100, true)) (some 102) (.ifnil false (.tmp 101)) <|
 (.o 103 (.pick (.tmp 100) (.tmp 102) (.const (.bool false))) <|
 (.o 104 (.mov (.tmp 103)) <|
 (.op (some (104, true)) (some 105) (.fadr 0 (.tmp 12)) <|
 (.op (some (104, true)) (some 106) (.ld1 (.tmp 105)) <|
 (.op (some (104, true)) (some 107) (.bnot (.tmp 106)) <|
 (.o 108 (.pick (.tmp 104) (.tmp 107) (.const (.bool false))) <|
 (.o 109 (.mov (.tmp 108)) <|
 (.op (some (109, true)) (some 110) (.mov (.tmp 15)) <|
 (.op (some (109, true)) (some 111) (.ifnil false (.tmp 110)) <|
 (.o 112 (.pick (.tmp 109) (.tmp 111) (.const (.bool false))) <|
 (.o 113 (.mov (.tmp 112)) <|
 (.op (some (113, true)) (some 114) (.mov (.tmp 14)) <|
 (.op (some (113, true)) (some 115) (.lenS (.tmp 114)) <|
 (.op (some (113, true)) (some 116) (.icmp .eql (.tmp 115) (.const (.int .i64 1))) <|
 (.o 117 (.pick (.tmp 113) (.tmp 116) (.const (.bool false))) <|
 (.o 118 (.mov (.tmp 117)) <|
 (.op (some (118, true)) (some 119) (.mov (.tmp 14)) <|
 (.op (some (118, true)) (some 120) (.idxS 1 (.tmp 119) (.const (.int .i64 0))) <|
 (.op (some (118, true)) (some 121) (.ld1 (.tmp 120)) <|
 (.op (some (118, true)) (some 122) (.icmp .eql (.tmp 121) (.const (.int .u8 9))) <|
 (.o 123 (.pick (.tmp 118) (.tmp 122) (.const (.bool false))) <|
 (.o 124 (.mov (.tmp 123)) <|
 (.op (some (124, true)) (some 125) (.mov (.tmp 17)) <|
 (.op (some (124, true)) (some 126) (.bld [(.string ⟨#[]⟩), (.int .i64 0), (.int .i64 0)] [(0, 1, (.const (.string ⟨#[109, 101, 109]⟩))), (1, 1, (.const (.int .i64 60))), (2, 1, (.const (.int .i64 6)))]) <|
 (.op (some (124, true)) (some 127) (.call 8 [(.tmp 125), (.tmp 126)]) <|
 (.o 128 (.pick (.tmp 124) (.tmp 127) (.const (.bool false))) <|
 (.o 129 (.mov (.tmp 128)) <|
 (.op (some (129, true)) (some 130) (.mov (.tmp 10)) <|
 (.op (some (129, true)) (some 131) (.ptnil true (.tmp 130)) <|
 (.o 132 (.pick (.tmp 129) (.tmp 131) (.const (.bool false))) <|
 (.o 133 (.mov (.tmp 132)) <|
 (.op (some (133, true)) (some 134) (.mov (.tmp 10)) <|
 (.op (some (133, true)) (some 135) (.call 21 [(.tmp 134), (.const (.int .i64 31))]) <|
 (.o 136 (.pick (.tmp 133) (.tmp 135) (.const (.bool false))) <|
 (.o 137 (.mov (.tmp 136)) <|
 (.op (some (137, true)) (some 138) (.mov (.tmp 1)) <|
 (.op (some (137, true)) (some 139) (.call 21 [(.tmp 138), (.const (.int .i64 31))]) <|
 (.op (some (137, true)) (some 140) (.bnot (.tmp 139)) <|
 (.o 141 (.pick (.tmp 137) (.tmp 140) (.const (.bool false))) <|
 (.o 142 (.mov (.tmp 141)) <|
 (.op (some (142, true)) (some 143) (.mov (.tmp 10)) <|
 (.op (some (142, true)) (some 144) (.mov (.tmp 1)) <|
 (.op (some (142, true)) (some 145) (.call 20 [(.tmp 143), (.tmp 144)]) <|
 (.op (some (142, true)) (some 146) (.bnot (.tmp 145)) <|
 (.o 147 (.pick (.tmp 142) (.tmp 146) (.const (.bool false))) <|
 (.o 148 (.mov (.tmp 147)) <|
 (.op (some (148, true)) (some 149) (.mov (.tmp 10)) <|
 (.op (some (148, true)) (some 150) (.mov (.tmp 10)) <|
 (.op (some (148, true)) (some 151) (.call 20 [(.tmp 149), (.tmp 150)]) <|
 (.o 152 (.pick (.tmp 148) (.tmp 151) (.const (.bool false))) <|
 (.o 0 (.mov (.tmp 152)) <|
 .nil)))))))))))))))))))))))))))))))))))))))))))))))))))))))))))))))))))))))))))))))))))))
 .ret))))))))))))))⟩
theorem m_hasplaw4_known : toFn Tryd.prog 5 = some c_hasplaw4_known := by kernel_rfl
abbrev n_hasplaw4_known : FuncId := 5
/-- hasp/hasplaw4.Tells -/
def c_hasplaw4_Tells : MFn := ⟨47, 2, [.tmp 4],
 (.seq
 (.o 3 (.bx 31 true (.tmp 1)) <|
 (.o 4 (.mov (.const (.bool false))) <|
 .nil))
 (.seq
 (.seq
 (.o 6 (.fadr 2 (.tmp 3)) <|
 (.o 7 (.ld1 (.tmp 6)) <|
 (.o 8 (.icmp .eql (.tmp 7) (.const (.int .i64 0))) <|
 .nil)))
 (.cond (.tmp 8)
 (.seq
 (.o 9 (.mov (.tmp 0)) <|
 (.o 10 (.ifnil false (.tmp 9)) <|
 (.o 4 (.mov (.tmp 10)) <|
 .nil)))
 .ret)
 .nil))
 (.seq
 (.o 5 (.al 86 [(.pointer none)]) <|
 .nil)
 (.seq
 (.draw
 (.o 11 (.mov (.tmp 0)) <|
 (.o 12 (.ifnil true (.tmp 11)) <|
 (.o 13 (.mov (.tmp 12)) <|
 (.op (some (13, true)) (some 14) (.mov (.tmp 0)) <|
 (.op (some (13, true)) (some 15) (.mkif 88 (.tmp 5)) <|
 (.op (some (13, true)) (some 16) (.call 37 [(.tmp 14), (.tmp 15)]) <|
 (.o 17 (.pick (.tmp 13) (.tmp 16) (.const (.bool false))) <|
 (.o 18 (.mov (.tmp 17)) <|
 (.op (some (18, true)) (some 19) (.ld1 (.tmp 5)) <|
 (.op (some (18, true)) (some 20) (.ptnil true (.tmp 19)) <|
 (.o 21 (.pick (.tmp 18) (.tmp 20) (.const (.bool false))) <|
 (.o 22 (.mov (.tmp 21)) <|
 (.op (some (22, true)) (some 23) (.ld1 (.tmp 5)) <|
 (.op (some (22, true)) (some 24) (.nilchk (.tmp 23)) <|
 (.op (some (22, true)) (some 25) (.fadr 0 (.tmp 24)) <|
 (.op (some (22, true)) (some 26) (.ld1 (.tmp 25)) <|
 (.op (some (22, true)) (some 27) (.fadr 0 (.tmp 3)) <|
 (.op (some (22, true)) (some 28) (.ld1 (.tmp 27)) <|
 (.op (some (22, true)) (some 29) (.scmp .eql (.tmp 26) (.tmp 28)) <|
 (.o 30 (.pick (.tmp 22) (.tmp 29) (.const (.bool false))) <|
 (.o 31 (.mov (.tmp 30)) <|
 (.op (some (31, true)) (some 32) (.ld1 (.tmp 5)) <|
 (.op (some (31, true)) (some 33) (.nilchk (.tmp 32)) <|
 (.op (some (31, true)) (some 34) (.fadr 1 (.tmp 33)) <|
 (.op (some (31, true)) (some 35) (.ld1 (.tmp 34)) <|
 (.op (some (31, true)) (some 36) (.fadr 1 (.tmp 3)) <|
 (.op (some (31, true)) (some 37) (.ld1 (.tmp 36)) <|
 (.op (some (31, true)) (some 38) (.icmp .eql (.tmp 35) (.tmp 37)) <|
 (.o 39 (.pick (.tmp 31) (.tmp 38) (.const (.bool false))) <|
 (.o 40 (.mov (.tmp 39)) <|
 (.op (some (40, true)) (some 41) (.mov (.tmp 0)) <|
 (.op (some (40, true)) (some 42) (.fadr 2 (.tmp 3)) <|
 (.op (some (40, true)) (some 43) (.ld1 (.tmp 42)) <|
 (.op (some (40, true)) (some 44) (.mkif 83 (.tmp 43)) <|
 (.op (some (40, true)) (some 45) (.call 38 [(.tmp 41), (.tmp 44)]) <|
 (.o 46 (.pick (.tmp 40) (.tmp 45) (.const (.bool false))) <|
 (.o 4 (.mov (.tmp 46)) <|
 .nil))))))))))))))))))))))))))))))))))))))
 .ret))))⟩
theorem m_hasplaw4_Tells : toFn Tryd.prog 8 = some c_hasplaw4_Tells := by kernel_rfl
abbrev n_hasplaw4_Tells : FuncId := 8
/-- hasp/hasplaw4.Same -/
def c_hasplaw4_Same : MFn := ⟨70, 2, [.tmp 4],
 (.seq
 (.o 4 (.mov (.const (.bool false))) <|
 .nil)
 (.seq
 (.seq
 (.draw
 (.o 10 (.mov (.tmp 0)) <|
 (.o 11 (.ptnil false (.tmp 10)) <|
 (.o 12 (.mov (.tmp 11)) <|
 (.op (some (12, false)) (some 13) (.mov (.tmp 0)) <|
 (.op (some (12, false)) (some 15) (.mov (.tmp 1)) <|
 (.op (some (12, false)) (some 16) (.nilchk (.tmp 15)) <|
 (.op (some (12, false)) (some 17) (.fadr 0 (.tmp 16)) <|
 (.op (some (12, false)) (some 18) (.ld1 (.tmp 17)) <|
 (.op (some (12, false)) (some 19) (.lenS (.tmp 18)) <|
 (.op (some (12, false)) (some 14) (.call 35 [(.tmp 13)]) <|
 (.op (some (12, false)) (some 20) (.icmp .neq (.tmp 14) (.tmp 19)) <|
 (.o 21 (.pick (.tmp 12) (.const (.bool true)) (.tmp 20)) <|
 .nil)))))))))))))
 (.cond (.tmp 21)
 (.seq
 (.o 4 (.mov (.const (.bool false))) <|
 .nil)
 .ret)
 .nil))
 (.seq
 (.o 23 (.mov (.tmp 0)) <|
 (.o 24 (.mov (.tmp 1)) <|
 (.o 25 (.nilchk (.tmp 24)) <|
 (.o 26 (.fadr 0 (.tmp 25)) <|
 (.o 27 (.ld1 (.tmp 26)) <|
 (.o 28 (.lenS (.tmp 27)) <|
 (.o 29 (.call 14 [(.tmp 23), (.const (.int .i64 0)), (.tmp 28)]) <|
 (.o 22 (.mov (.tmp 29)) <|
 (.o 30 (.ext (.tmp 22) 0) <|
 (.o 31 (.ext (.tmp 22) 1) <|
 (.o 5 (.mov (.tmp 30)) <|
 (.o 6 (.mov (.tmp 31)) <|
 .nil))))))))))))
 (.seq
 (.o 32 (.mov (.tmp 0)) <|
 (.o 33 (.call 34 [(.tmp 32)]) <|
 (.o 7 (.mov (.tmp 33)) <|
 .nil)))
 (.seq
 (.o 34 (.mov (.tmp 1)) <|
 (.o 35 (.call 51 [(.tmp 34)]) <|
 (.o 8 (.mov (.tmp 35)) <|
 .nil)))
 (.seq
 (.seq
 (.draw
 (.o 36 (.mov (.tmp 6)) <|
 (.o 37 (.ifnil true (.tmp 36)) <|
 (.o 38 (.mov (.tmp 37)) <|
 (.op (some (38, false)) (some 39) (.mov (.tmp 5)) <|
 (.op (some (38, false)) (some 41) (.mov (.tmp 1)) <|
 (.op (some (38, false)) (some 42) (.nilchk (.tmp 41)) <|
 (.op (some (38, false)) (some 43) (.fadr 0 (.tmp 42)) <|
 (.op (some (38, false)) (some 44) (.ld1 (.tmp 43)) <|
 (.both
 (.op (some (38, false)) (some 40) (.cvBS (.tmp 39)) <|
 (.op (some (38, false)) (some 45) (.cvBS (.tmp 44)) <|
 (.op (some (38, false)) (some 46) (.scmp .neq (.tmp 40) (.tmp 45)) <|
 (.o 47 (.pick (.tmp 38) (.const (.bool true)) (.tmp 46)) <|
 (.o 48 (.mov (.tmp 47)) <|
 (.op (some (48, false)) (some 49) (.mov (.tmp 7)) <|
 (.op (some (48, false)) (some 50) (.lenS (.tmp 49)) <|
 (.op (some (48, false)) (some 51) (.mov (.tmp 8)) <|
 (.op (some (48, false)) (some 52) (.lenS (.tmp 51)) <|
 (.op (some (48, false)) (some 53) (.icmp .neq (.tmp 50) (.tmp 52)) <|
 (.o 54 (.pick (.tmp 48) (.const (.bool true)) (.tmp 53)) <|
 .nil)))))))))))
 (.op (some (38, false)) (some 45) (.cvBS (.tmp 44)) <|
 (.op (some (38, false)) (some 40) (.cvBS (.tmp 39)) <|
 (.op (some (38, false)) (some 46) (.scmp .neq (.tmp 40) (.tmp 45)) <|
 (.o 47 (.pick (.tmp 38) (.const (.bool true)) (.tmp 46)) <|
 (.o 48 (.mov (.tmp 47)) <|
 (.op (some (48, false)) (some 49) (.mov (.tmp 7)) <|
 (.op (some (48, false)) (some 50) (.lenS (.tmp 49)) <|
 (.op (some (48, false)) (some 51) (.mov (.tmp 8)) <|
 (.op (some (48, false)) (some 52) (.lenS (.tmp 51)) <|
 (.op (some (48, false)) (some 53) (.icmp .neq (.tmp 50) (.tmp 52)) <|
 (.o 54 (.pick (.tmp 48) (.const (.bool true)) (.tmp 53)) <|
 .nil)))))))))))))))))))))
 (.cond (.tmp 54)
 (.seq
 (.o 4 (.mov (.const (.bool false))) <|
 .nil)
 .ret)
 .nil))
 (.seq
 (.seq
 (.o 9 (.mov (.const (.int .i64 0))) <|
 .nil)
 (.block 0
 (.loop
 (.seq
 (.seq
 (.o 55 (.mov (.tmp 9)) <|
 (.o 56 (.mov (.tmp 7)) <|
 (.o 57 (.lenS (.tmp 56)) <|
 (.o 58 (.icmp .lss (.tmp 55) (.tmp 57)) <|
 .nil))))
 (.cond (.tmp 58)
 .nil
 (.exit 0)))
 (.seq
 (.block 1
 (.seq
 (.draw
 (.o 61 (.mov (.tmp 7)) <|
 (.o 62 (.mov (.tmp 9)) <|
 (.o 63 (.idxS 1 (.tmp 61) (.tmp 62)) <|
 (.o 64 (.ld1 (.tmp 63)) <|
 (.o 65 (.mov (.tmp 8)) <|
 (.o 66 (.mov (.tmp 9)) <|
 (.o 67 (.idxS 1 (.tmp 65) (.tmp 66)) <|
 (.o 68 (.ld1 (.tmp 67)) <|
 (.o 69 (.icmp .neq (.tmp 64) (.tmp 68)) <|
 .nil))))))))))
 (.cond (.tmp 69)
 (.seq
 (.o 4 (.mov (.const (.bool false))) <|
 .nil)
 .ret)
 .nil)))
 (.o 59 (.mov (.tmp 9)) <|
 (.o 60 (.iar .add (.tmp 59) (.const (.int .i64 1))) <|
 (.o 9 (.mov (.tmp 60)) <|
 .nil))))))))
 (.seq
 (.o 4 (.mov (.const (.bool true))) <|
 .nil)
 .ret))))))))⟩
theorem m_hasplaw4_Same : toFn Tryd.prog 22 = some c_hasplaw4_Same := by kernel_rfl
abbrev n_hasplaw4_Same : FuncId := 22
end Go.HM
