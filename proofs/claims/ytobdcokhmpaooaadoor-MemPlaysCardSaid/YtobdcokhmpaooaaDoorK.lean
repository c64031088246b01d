/- Codes of functions, resolved: by a program of this session. -/
import Derived.Test.YtobdcokhmpaooaaDoorProg
import Derived.Test.YtobdcokhmpaooaaDoorM10
namespace Go.HM
open Go Go.Proofs
set_option linter.unusedVariables false
set_option maxRecDepth 100000
/-- hasp/hasplaw4.MemPlays -/
def c_hasplaw4_MemPlays : MFn := ⟨232, 2, [.tmp 4],
  (.seq
    (.op none (some 4) (.mov (.const (.bool false))) <|
    .nil)
    (.seq
      (.seq
        (.op none (some 23) (.call 5 []) <|
        (.op none (some 24) (.bnot (.tmp 23)) <|
        .nil))
        (.cond (.tmp 24)
          (.seq
            (.op none (some 4) (.mov (.const (.bool false))) <|
            .nil)
            .ret)
          .nil))
      (.seq
        (.seq
          (.op none (some 25) (.mov (.tmp 1)) <|
          (.op none (some 26) (.lenS (.tmp 25)) <|
          (.op none (some 27) (.icmp .gtr (.tmp 26) (.const (.int .i64 60))) <|
          .nil)))
          (.cond (.tmp 27)
            (.seq
              (.op none (some 4) (.mov (.const (.bool true))) <|
              .nil)
              .ret)
            .nil))
        (.seq
          (.op none (some 29) (.mov (.tmp 0)) <|
          (.op none (some 30) (.call 6 [(.tmp 29)]) <|
          (.op none (some 28) (.mov (.tmp 30)) <|
          (.op none (some 31) (.ext (.tmp 28) 0) <|
          (.op none (some 32) (.ext (.tmp 28) 1) <|
          (.op none (some 5) (.mov (.tmp 31)) <|
          (.op none (some 6) (.mov (.tmp 32)) <|
          .nil)))))))
          (.seq
            (.op none (some 34) (.mov (.tmp 0)) <|
            (.op none (some 35) (.call 7 [(.tmp 34)]) <|
            (.op none (some 33) (.mov (.tmp 35)) <|
            (.op none (some 36) (.ext (.tmp 33) 0) <|
            (.op none (some 37) (.ext (.tmp 33) 1) <|
            (.op none (some 8) (.al 31 [(.string ⟨#[]⟩), (.int .i64 0), (.int .i64 0)]) <|
            (.op none (some 7) (.mov (.tmp 36)) <|
            (.op none none (.stn 3 (.tmp 8) (.tmp 37)) <|
            .nil))))))))
            (.seq
              (.seq
                (.op none (some 38) (.mov (.tmp 6)) <|
                (.op none (some 39) (.ldn 3 (.tmp 8)) <|
                (.op none (some 40) (.call 8 [(.tmp 38), (.tmp 39)]) <|
                (.op none (some 41) (.bnot (.tmp 40)) <|
                (.op none (some 42) (.mov (.tmp 41)) <|
                (.op (some (42, false)) (some 43) (.mov (.tmp 5)) <|
                (.op (some (42, false)) (some 44) (.ptnil true (.tmp 43)) <|
                (.op (some (42, false)) (some 45) (.mov (.tmp 7)) <|
                (.op (some (42, false)) (some 46) (.ptnil true (.tmp 45)) <|
                (.op (some (42, false)) (some 47) (.beq true (.tmp 44) (.tmp 46)) <|
                (.op none (some 48) (.pick (.tmp 42) (.const (.bool true)) (.tmp 47)) <|
                .nil)))))))))))
                (.cond (.tmp 48)
                  (.seq
                    (.op none (some 4) (.mov (.const (.bool false))) <|
                    .nil)
                    .ret)
                  .nil))
              (.seq
                (.seq
                  (.op none (some 49) (.mov (.tmp 7)) <|
                  (.op none (some 50) (.ptnil false (.tmp 49)) <|
                  .nil))
                  (.cond (.tmp 50)
                    (.seq
                      (.op none (some 4) (.mov (.const (.bool true))) <|
                      .nil)
                      .ret)
                    .nil))
                (.seq
                  (.seq
                    (.op none (some 9) (.mov (.const (.int .i64 0))) <|
                    .nil)
                    (.block 0
                      (.loop
                        (.seq
                          (.seq
                            (.op none (some 51) (.mov (.tmp 9)) <|
                            (.op none (some 52) (.mov (.tmp 1)) <|
                            (.op none (some 53) (.lenS (.tmp 52)) <|
                            (.op none (some 54) (.icmp .lss (.tmp 51) (.tmp 53)) <|
                            .nil))))
                            (.cond (.tmp 54)
                              .nil
                              (.exit 0)))
                          (.seq
                            (.block 1
                              (.seq
                                (.op none (some 57) (.mov (.tmp 1)) <|
                                (.op none (some 58) (.mov (.tmp 9)) <|
                                (.op none (some 59) (.idxS 10 (.tmp 57) (.tmp 58)) <|
                                (.op none (some 60) (.ldn 10 (.tmp 59)) <|
                                (.op none (some 10) (.al 41 [(.int .i64 0), (.int .i64 0), (.int .i64 0), (.slice none 0 0), (.bool false), (.int .u32 0), (.int .u32 0), (.int .u32 0), (.int .u16 0), (.int .u16 0)]) <|
                                (.op none none (.stn 10 (.tmp 10) (.tmp 60)) <|
                                .nil))))))
                                (.seq
                                  (.seq
                                    (.op none (some 61) (.fadr 3 (.tmp 10)) <|
                                    (.op none (some 62) (.ld1 (.tmp 61)) <|
                                    (.op none (some 63) (.lenS (.tmp 62)) <|
                                    (.op none (some 64) (.icmp .gtr (.tmp 63) (.const (.int .i64 200))) <|
                                    .nil))))
                                    (.cond (.tmp 64)
                                      (.seq
                                        (.op none (some 4) (.mov (.const (.bool true))) <|
                                        .nil)
                                        .ret)
                                      .nil))
                                  (.seq
                                    (.op none (some 65) (.fadr 0 (.tmp 10)) <|
                                    (.op none (some 66) (.ld1 (.tmp 65)) <|
                                    .nil))
                                    (.block 2
                                      (.seq
                                        (.op none (some 68) (.icmp .eql (.tmp 66) (.const (.int .i64 1))) <|
                                        (.op none (some 67) (.mov (.tmp 68)) <|
                                        .nil))
                                        (.cond (.tmp 67)
                                          (.seq
                                            (.draw
                                              (.op none (some 69) (.mov (.tmp 5)) <|
                                              (.op none (some 70) (.fadr 1 (.tmp 10)) <|
                                              (.op none (some 71) (.ld1 (.tmp 70)) <|
                                              (.op none (some 72) (.fadr 3 (.tmp 10)) <|
                                              (.op none (some 73) (.ld1 (.tmp 72)) <|
                                              (.op none (some 75) (.mov (.tmp 7)) <|
                                              (.op none (some 76) (.fadr 1 (.tmp 10)) <|
                                              (.op none (some 77) (.ld1 (.tmp 76)) <|
                                              (.op none (some 78) (.fadr 3 (.tmp 10)) <|
                                              (.op none (some 79) (.ld1 (.tmp 78)) <|
                                              (.op none (some 74) (.call 9 [(.tmp 69), (.tmp 71), (.tmp 73)]) <|
                                              (.op none (some 80) (.call 10 [(.tmp 75), (.tmp 77), (.tmp 79)]) <|
                                              (.op none (some 81) (.call 8 [(.tmp 74), (.tmp 80)]) <|
                                              (.op none (some 82) (.bnot (.tmp 81)) <|
                                              .nil)))))))))))))))
                                            (.cond (.tmp 82)
                                              (.seq
                                                (.op none (some 4) (.mov (.const (.bool false))) <|
                                                .nil)
                                                .ret)
                                              .nil))
                                          (.seq
                                            (.op none (some 84) (.icmp .eql (.tmp 66) (.const (.int .i64 2))) <|
                                            (.op none (some 83) (.mov (.tmp 84)) <|
                                            .nil))
                                            (.cond (.tmp 83)
                                              (.seq
                                                (.draw
                                                  (.op none (some 85) (.mov (.tmp 5)) <|
                                                  (.op none (some 86) (.fadr 1 (.tmp 10)) <|
                                                  (.op none (some 87) (.ld1 (.tmp 86)) <|
                                                  (.op none (some 88) (.fadr 4 (.tmp 10)) <|
                                                  (.op none (some 89) (.ldn 6 (.tmp 88)) <|
                                                  (.op none (some 91) (.mov (.tmp 7)) <|
                                                  (.op none (some 92) (.fadr 1 (.tmp 10)) <|
                                                  (.op none (some 93) (.ld1 (.tmp 92)) <|
                                                  (.op none (some 94) (.fadr 4 (.tmp 10)) <|
                                                  (.op none (some 95) (.ldn 6 (.tmp 94)) <|
                                                  (.op none (some 90) (.call 11 [(.tmp 85), (.tmp 87), (.tmp 89)]) <|
                                                  (.op none (some 96) (.call 13 [(.tmp 95)]) <|
                                                  (.op none (some 97) (.call 12 [(.tmp 91), (.tmp 93), (.tmp 96)]) <|
                                                  (.op none (some 98) (.call 8 [(.tmp 90), (.tmp 97)]) <|
                                                  (.op none (some 99) (.bnot (.tmp 98)) <|
                                                  .nil))))))))))))))))
                                                (.cond (.tmp 99)
                                                  (.seq
                                                    (.op none (some 4) (.mov (.const (.bool false))) <|
                                                    .nil)
                                                    .ret)
                                                  .nil))
                                              (.seq
                                                (.op none (some 101) (.icmp .eql (.tmp 66) (.const (.int .i64 3))) <|
                                                (.op none (some 100) (.mov (.tmp 101)) <|
                                                .nil))
                                                (.cond (.tmp 100)
                                                  (.seq
                                                    (.op none (some 103) (.mov (.tmp 5)) <|
                                                    (.op none (some 104) (.fadr 1 (.tmp 10)) <|
                                                    (.op none (some 105) (.ld1 (.tmp 104)) <|
                                                    (.op none (some 106) (.fadr 2 (.tmp 10)) <|
                                                    (.op none (some 107) (.ld1 (.tmp 106)) <|
                                                    (.op none (some 108) (.call 14 [(.tmp 103), (.tmp 105), (.tmp 107)]) <|
                                                    (.op none (some 102) (.mov (.tmp 108)) <|
                                                    (.op none (some 109) (.ext (.tmp 102) 0) <|
                                                    (.op none (some 110) (.ext (.tmp 102) 1) <|
                                                    (.op none (some 11) (.mov (.tmp 109)) <|
                                                    (.op none (some 12) (.mov (.tmp 110)) <|
                                                    .nil)))))))))))
                                                    (.seq
                                                      (.op none (some 112) (.mov (.tmp 7)) <|
                                                      (.op none (some 113) (.fadr 1 (.tmp 10)) <|
                                                      (.op none (some 114) (.ld1 (.tmp 113)) <|
                                                      (.op none (some 115) (.fadr 2 (.tmp 10)) <|
                                                      (.op none (some 116) (.ld1 (.tmp 115)) <|
                                                      (.op none (some 117) (.call 15 [(.tmp 112), (.tmp 114), (.tmp 116)]) <|
                                                      (.op none (some 111) (.mov (.tmp 117)) <|
                                                      (.op none (some 118) (.ext (.tmp 111) 0) <|
                                                      (.op none (some 119) (.ext (.tmp 111) 1) <|
                                                      (.op none (some 14) (.al 31 [(.string ⟨#[]⟩), (.int .i64 0), (.int .i64 0)]) <|
                                                      (.op none (some 13) (.mov (.tmp 118)) <|
                                                      (.op none none (.stn 3 (.tmp 14) (.tmp 119)) <|
                                                      .nil))))))))))))
                                                      (.seq
                                                        (.op none (some 120) (.mov (.tmp 12)) <|
                                                        (.op none (some 121) (.ldn 3 (.tmp 14)) <|
                                                        (.op none (some 122) (.call 8 [(.tmp 120), (.tmp 121)]) <|
                                                        (.op none (some 123) (.bnot (.tmp 122)) <|
                                                        (.op none (some 124) (.mov (.tmp 123)) <|
                                                        (.op (some (124, false)) (some 125) (.mov (.tmp 11)) <|
                                                        (.op (some (124, false)) (some 126) (.cvBS (.tmp 125)) <|
                                                        (.op (some (124, false)) (some 127) (.mov (.tmp 13)) <|
                                                        (.op (some (124, false)) (some 128) (.cvBS (.tmp 127)) <|
                                                        (.op (some (124, false)) (some 129) (.scmp .neq (.tmp 126) (.tmp 128)) <|
                                                        (.op none (some 130) (.pick (.tmp 124) (.const (.bool true)) (.tmp 129)) <|
                                                        .nil)))))))))))
                                                        (.cond (.tmp 130)
                                                          (.seq
                                                            (.op none (some 4) (.mov (.const (.bool false))) <|
                                                            .nil)
                                                            .ret)
                                                          .nil))))
                                                  (.seq
                                                    (.op none (some 132) (.icmp .eql (.tmp 66) (.const (.int .i64 4))) <|
                                                    (.op none (some 131) (.mov (.tmp 132)) <|
                                                    .nil))
                                                    (.cond (.tmp 131)
                                                      (.seq
                                                        (.op none (some 134) (.mov (.tmp 5)) <|
                                                        (.op none (some 135) (.fadr 1 (.tmp 10)) <|
                                                        (.op none (some 136) (.ld1 (.tmp 135)) <|
                                                        (.op none (some 137) (.call 16 [(.tmp 134), (.tmp 136)]) <|
                                                        (.op none (some 133) (.mov (.tmp 137)) <|
                                                        (.op none (some 138) (.ext (.tmp 133) 0) <|
                                                        (.op none (some 139) (.ext (.tmp 133) 1) <|
                                                        (.op none (some 15) (.al 39 [(.bool false), (.int .u32 0), (.int .u32 0), (.int .u32 0), (.int .u16 0), (.int .u16 0)]) <|
                                                        (.op none none (.stn 6 (.tmp 15) (.tmp 138)) <|
                                                        (.op none (some 16) (.mov (.tmp 139)) <|
                                                        .nil))))))))))
                                                        (.seq
                                                          (.op none (some 141) (.mov (.tmp 7)) <|
                                                          (.op none (some 142) (.fadr 1 (.tmp 10)) <|
                                                          (.op none (some 143) (.ld1 (.tmp 142)) <|
                                                          (.op none (some 144) (.call 17 [(.tmp 141), (.tmp 143)]) <|
                                                          (.op none (some 140) (.mov (.tmp 144)) <|
                                                          (.op none (some 145) (.ext (.tmp 140) 0) <|
                                                          (.op none (some 146) (.ext (.tmp 140) 1) <|
                                                          (.op none (some 17) (.al 46 [(.bool false), (.int .u32 0), (.int .u32 0), (.int .u32 0), (.int .u16 0), (.int .u16 0)]) <|
                                                          (.op none (some 18) (.al 31 [(.string ⟨#[]⟩), (.int .i64 0), (.int .i64 0)]) <|
                                                          (.op none none (.stn 6 (.tmp 17) (.tmp 145)) <|
                                                          (.op none none (.stn 3 (.tmp 18) (.tmp 146)) <|
                                                          .nil)))))))))))
                                                          (.seq
                                                            (.draw
                                                              (.op none (some 147) (.mov (.tmp 16)) <|
                                                              (.op none (some 148) (.ldn 3 (.tmp 18)) <|
                                                              (.op none (some 149) (.call 8 [(.tmp 147), (.tmp 148)]) <|
                                                              (.op none (some 150) (.bnot (.tmp 149)) <|
                                                              (.op none (some 151) (.mov (.tmp 150)) <|
                                                              (.op (some (151, false)) (some 152) (.ldn 6 (.tmp 15)) <|
                                                              (.op (some (151, false)) (some 154) (.ldn 6 (.tmp 17)) <|
                                                              (.op (some (151, false)) (some 153) (.call 13 [(.tmp 152)]) <|
                                                              (.op (some (151, false)) (some 155) (.aeq true [.bool, .int, .int, .int, .int, .int] (.tmp 153) (.tmp 154)) <|
                                                              (.op none (some 156) (.pick (.tmp 151) (.const (.bool true)) (.tmp 155)) <|
                                                              .nil)))))))))))
                                                            (.cond (.tmp 156)
                                                              (.seq
                                                                (.op none (some 4) (.mov (.const (.bool false))) <|
                                                                .nil)
                                                                .ret)
                                                              .nil))))
                                                      (.seq
                                                        (.op none (some 158) (.icmp .eql (.tmp 66) (.const (.int .i64 5))) <|
                                                        (.op none (some 157) (.mov (.tmp 158)) <|
                                                        .nil))
                                                        (.cond (.tmp 157)
                                                          (.seq
                                                            (.op none (some 159) (.fadr 2 (.tmp 10)) <|
                                                            (.op none (some 160) (.ld1 (.tmp 159)) <|
                                                            (.op none (some 19) (.mov (.tmp 160)) <|
                                                            .nil)))
                                                            (.seq
                                                              (.seq
                                                                (.op none (some 161) (.mov (.tmp 19)) <|
                                                                (.op none (some 162) (.mov (.tmp 0)) <|
                                                                (.op none (some 163) (.icmp .gtr (.tmp 161) (.tmp 162)) <|
                                                                .nil)))
                                                                (.cond (.tmp 163)
                                                                  (.op none (some 164) (.mov (.tmp 0)) <|
                                                                  (.op none (some 165) (.iar .add (.tmp 164) (.const (.int .i64 1))) <|
                                                                  (.op none (some 19) (.mov (.tmp 165)) <|
                                                                  .nil)))
                                                                  .nil))
                                                              (.seq
                                                                (.op none (some 166) (.fadr 1 (.tmp 10)) <|
                                                                (.op none (some 167) (.ld1 (.tmp 166)) <|
                                                                (.op none (some 168) (.bld [(.string ⟨#[]⟩), (.int .i64 0), (.int .i64 0)] [(0, 1, (.const (.string ⟨#[109, 101, 109]⟩))), (1, 1, (.tmp 167)), (2, 1, (.const (.int .i64 6)))]) <|
                                                                (.op none (some 20) (.al 31 [(.string ⟨#[]⟩), (.int .i64 0), (.int .i64 0)]) <|
                                                                (.op none none (.stn 3 (.tmp 20) (.tmp 168)) <|
                                                                .nil)))))
                                                                (.seq
                                                                  (.seq
                                                                    (.op none (some 169) (.mov (.tmp 19)) <|
                                                                    (.op none (some 170) (.icmp .geq (.tmp 169) (.const (.int .i64 0))) <|
                                                                    .nil))
                                                                    (.cond (.tmp 170)
                                                                      (.draw
                                                                        (.op none (some 171) (.mov (.tmp 7)) <|
                                                                        (.op none (some 172) (.fadr 1 (.tmp 10)) <|
                                                                        (.op none (some 173) (.ld1 (.tmp 172)) <|
                                                                        (.op none (some 174) (.mov (.tmp 19)) <|
                                                                        (.op none (some 175) (.mkSl 35 (.tmp 174) (.tmp 174)) <|
                                                                        (.op none (some 176) (.call 10 [(.tmp 171), (.tmp 173), (.tmp 175)]) <|
                                                                        (.op none none (.stn 3 (.tmp 20) (.tmp 176)) <|
                                                                        .nil))))))))
                                                                      .nil))
                                                                  (.seq
                                                                    (.draw
                                                                      (.op none (some 177) (.mov (.tmp 5)) <|
                                                                      (.op none (some 178) (.fadr 1 (.tmp 10)) <|
                                                                      (.op none (some 179) (.ld1 (.tmp 178)) <|
                                                                      (.op none (some 180) (.mov (.tmp 19)) <|
                                                                      (.op none (some 182) (.ldn 3 (.tmp 20)) <|
                                                                      (.op none (some 181) (.call 18 [(.tmp 177), (.tmp 179), (.tmp 180)]) <|
                                                                      (.op none (some 183) (.call 8 [(.tmp 181), (.tmp 182)]) <|
                                                                      (.op none (some 184) (.bnot (.tmp 183)) <|
                                                                      .nil)))))))))
                                                                    (.cond (.tmp 184)
                                                                      (.seq
                                                                        (.op none (some 4) (.mov (.const (.bool false))) <|
                                                                        .nil)
                                                                        .ret)
                                                                      .nil))))))
                                                          (.seq
                                                            (.op none (some 186) (.icmp .eql (.tmp 66) (.const (.int .i64 6))) <|
                                                            (.op none (some 185) (.mov (.tmp 186)) <|
                                                            .nil))
                                                            (.cond (.tmp 185)
                                                              (.seq
                                                                (.op none (some 187) (.mov (.tmp 5)) <|
                                                                (.op none (some 188) (.call 19 [(.tmp 187)]) <|
                                                                (.op none (some 21) (.mov (.tmp 188)) <|
                                                                .nil)))
                                                                (.seq
                                                                  (.seq
                                                                    (.op none (some 189) (.mov (.tmp 21)) <|
                                                                    (.op none (some 190) (.ptnil false (.tmp 189)) <|
                                                                    (.op none (some 191) (.mov (.tmp 190)) <|
                                                                    (.op (some (191, false)) (some 192) (.mov (.tmp 21)) <|
                                                                    (.op (some (191, false)) (some 193) (.mov (.tmp 5)) <|
                                                                    (.op (some (191, false)) (some 194) (.call 20 [(.tmp 192), (.tmp 193)]) <|
                                                                    (.op (some (191, false)) (some 195) (.bnot (.tmp 194)) <|
                                                                    (.op none (some 196) (.pick (.tmp 191) (.const (.bool true)) (.tmp 195)) <|
                                                                    .nil))))))))
                                                                    (.cond (.tmp 196)
                                                                      (.seq
                                                                        (.op none (some 4) (.mov (.const (.bool false))) <|
                                                                        .nil)
                                                                        .ret)
                                                                      .nil))
                                                                  (.seq
                                                                    (.op none (some 197) (.mov (.tmp 5)) <|
                                                                    (.op none (some 198) (.mov (.tmp 0)) <|
                                                                    (.op none (some 199) (.call 18 [(.tmp 197), (.const (.int .i64 0)), (.tmp 198)]) <|
                                                                    .nil)))
                                                                    (.op none (some 200) (.mov (.tmp 21)) <|
                                                                    (.op none (some 5) (.mov (.tmp 200)) <|
                                                                    .nil)))))
                                                              (.seq
                                                                (.op none (some 202) (.icmp .eql (.tmp 66) (.const (.int .i64 7))) <|
                                                                (.op none (some 201) (.mov (.tmp 202)) <|
                                                                .nil))
                                                                (.cond (.tmp 201)
                                                                  (.seq
                                                                    (.draw
                                                                      (.op none (some 203) (.fadr 1 (.tmp 10)) <|
                                                                      (.op none (some 204) (.ld1 (.tmp 203)) <|
                                                                      (.op none (some 205) (.icmp .geq (.tmp 204) (.const (.int .i64 0))) <|
                                                                      (.op none (some 206) (.mov (.tmp 205)) <|
                                                                      (.op (some (206, true)) (some 207) (.fadr 1 (.tmp 10)) <|
                                                                      (.op (some (206, true)) (some 208) (.ld1 (.tmp 207)) <|
                                                                      (.op (some (206, true)) (some 209) (.mov (.tmp 0)) <|
                                                                      (.op (some (206, true)) (some 210) (.icmp .lss (.tmp 208) (.tmp 209)) <|
                                                                      (.op none (some 211) (.pick (.tmp 206) (.tmp 210) (.const (.bool false))) <|
                                                                      (.op none (some 212) (.mov (.tmp 211)) <|
                                                                      (.op (some (212, true)) (some 213) (.mov (.tmp 7)) <|
                                                                      (.op (some (212, true)) (some 214) (.nilchk (.tmp 213)) <|
                                                                      (.op (some (212, true)) (some 215) (.fadr 1 (.tmp 214)) <|
                                                                      (.op (some (212, true)) (some 216) (.ld1 (.tmp 215)) <|
                                                                      (.op (some (212, true)) (some 217) (.fadr 1 (.tmp 10)) <|
                                                                      (.op (some (212, true)) (some 218) (.ld1 (.tmp 217)) <|
                                                                      (.op (some (212, true)) (some 219) (.idivC .quo (.tmp 218) .i64 16) <|
                                                                      (.op (some (212, true)) (some 220) (.idxS 1 (.tmp 216) (.tmp 219)) <|
                                                                      (.op (some (212, true)) (some 221) (.ld1 (.tmp 220)) <|
                                                                      (.op none (some 222) (.pick (.tmp 212) (.tmp 221) (.const (.bool false))) <|
                                                                      (.op none (some 22) (.mov (.tmp 222)) <|
                                                                      .nil))))))))))))))))))))))
                                                                    (.seq
                                                                      (.op none (some 223) (.mov (.tmp 5)) <|
                                                                      (.op none (some 224) (.fadr 1 (.tmp 10)) <|
                                                                      (.op none (some 225) (.ld1 (.tmp 224)) <|
                                                                      (.op none (some 226) (.call 21 [(.tmp 223), (.tmp 225)]) <|
                                                                      (.op none (some 227) (.mov (.tmp 22)) <|
                                                                      (.op none (some 228) (.beq true (.tmp 226) (.tmp 227)) <|
                                                                      .nil))))))
                                                                      (.cond (.tmp 228)
                                                                        (.seq
                                                                          (.op none (some 4) (.mov (.const (.bool false))) <|
                                                                          .nil)
                                                                          .ret)
                                                                        .nil)))
                                                                  .nil)))))))))))))))))))
                            (.op none (some 55) (.mov (.tmp 9)) <|
                            (.op none (some 56) (.iar .add (.tmp 55) (.const (.int .i64 1))) <|
                            (.op none (some 9) (.mov (.tmp 56)) <|
                            .nil))))))))
                  (.seq
                    (.op none (some 229) (.mov (.tmp 5)) <|
                    (.op none (some 230) (.mov (.tmp 7)) <|
                    (.op none (some 231) (.call 22 [(.tmp 229), (.tmp 230)]) <|
                    (.op none (some 4) (.mov (.tmp 231)) <|
                    .nil))))
                    .ret)))))))))⟩
theorem m_hasplaw4_MemPlays : toFn Tryd.prog 3 = some c_hasplaw4_MemPlays := by kernel_rfl
abbrev n_hasplaw4_MemPlays : FuncId := 3
/-- hasp/hasplaw5.AccessPlays -/
def c_hasplaw5_AccessPlays : MFn := ⟨148, 6, [.tmp 12],
  (.seq
    (.op none (some 7) (.bx 39 true (.tmp 1)) <|
    (.op none (some 11) (.bx 39 true (.tmp 5)) <|
    (.op none (some 12) (.mov (.const (.bool false))) <|
    .nil)))
    (.seq
      (.seq
        (.op none (some 30) (.call 23 []) <|
        (.op none (some 31) (.bnot (.tmp 30)) <|
        .nil))
        (.cond (.tmp 31)
          (.seq
            (.op none (some 12) (.mov (.const (.bool false))) <|
            .nil)
            .ret)
          .nil))
      (.seq
        (.seq
          (.op none (some 32) (.mov (.tmp 0)) <|
          (.op none (some 33) (.lenS (.tmp 32)) <|
          (.op none (some 34) (.icmp .gtr (.tmp 33) (.const (.int .i64 128))) <|
          .nil)))
          (.cond (.tmp 34)
            (.seq
              (.op none (some 12) (.mov (.const (.bool true))) <|
              .nil)
              .ret)
            .nil))
        (.seq
          (.op none (some 36) (.mov (.tmp 0)) <|
          (.op none (some 37) (.ldn 6 (.tmp 11)) <|
          (.op none (some 38) (.call 24 [(.tmp 36), (.tmp 37)]) <|
          (.op none (some 35) (.mov (.tmp 38)) <|
          (.op none (some 39) (.ext (.tmp 35) 0) <|
          (.op none (some 40) (.ext (.tmp 35) 1) <|
          (.op none (some 41) (.ext (.tmp 35) 2) <|
          (.op none (some 13) (.mov (.tmp 39)) <|
          (.op none (some 14) (.mov (.tmp 40)) <|
          (.op none (some 15) (.mov (.tmp 41)) <|
          .nil))))))))))
          (.seq
            (.seq
              (.op none (some 42) (.mov (.tmp 15)) <|
              (.op none (some 43) (.bnot (.tmp 42)) <|
              .nil))
              (.cond (.tmp 43)
                (.seq
                  (.op none (some 12) (.mov (.const (.bool false))) <|
                  .nil)
                  .ret)
                .nil))
            (.seq
              (.op none (some 44) (.ldn 6 (.tmp 7)) <|
              (.op none (some 45) (.call 13 [(.tmp 44)]) <|
              (.op none (some 16) (.al 46 [(.bool false), (.int .u32 0), (.int .u32 0), (.int .u32 0), (.int .u16 0), (.int .u16 0)]) <|
              (.op none none (.stn 6 (.tmp 16) (.tmp 45)) <|
              .nil))))
              (.seq
                (.seq
                  (.op none (some 17) (.mov (.const (.int .i64 0))) <|
                  .nil)
                  (.block 0
                    (.loop
                      (.seq
                        (.seq
                          (.op none (some 46) (.mov (.tmp 17)) <|
                          (.op none (some 47) (.icmp .lss (.tmp 46) (.const (.int .i64 2))) <|
                          .nil))
                          (.cond (.tmp 47)
                            .nil
                            (.exit 0)))
                        (.seq
                          (.block 1
                            (.seq
                              (.op none (some 51) (.mov (.tmp 13)) <|
                              (.op none (some 52) (.ldn 6 (.tmp 7)) <|
                              (.op none (some 53) (.mov (.tmp 2)) <|
                              (.op none (some 54) (.mov (.tmp 3)) <|
                              (.op none (some 55) (.mov (.tmp 17)) <|
                              (.op none (some 56) (.icmp .eql (.tmp 55) (.const (.int .i64 0))) <|
                              (.op none (some 57) (.call 25 [(.tmp 51), (.tmp 52), (.tmp 53), (.tmp 54), (.tmp 56)]) <|
                              (.op none (some 50) (.mov (.tmp 57)) <|
                              (.op none (some 58) (.ext (.tmp 50) 0) <|
                              (.op none (some 59) (.ext (.tmp 50) 1) <|
                              (.op none (some 18) (.mov (.tmp 58)) <|
                              (.op none (some 19) (.mov (.tmp 59)) <|
                              .nil))))))))))))
                              (.seq
                                (.op none (some 61) (.mov (.tmp 14)) <|
                                (.op none (some 62) (.ldn 6 (.tmp 16)) <|
                                (.op none (some 63) (.mov (.tmp 2)) <|
                                (.op none (some 64) (.mov (.tmp 3)) <|
                                (.op none (some 65) (.mov (.tmp 17)) <|
                                (.op none (some 66) (.icmp .eql (.tmp 65) (.const (.int .i64 0))) <|
                                (.op none (some 67) (.call 26 [(.tmp 61), (.tmp 62), (.tmp 63), (.tmp 64), (.tmp 66)]) <|
                                (.op none (some 60) (.mov (.tmp 67)) <|
                                (.op none (some 68) (.ext (.tmp 60) 0) <|
                                (.op none (some 69) (.ext (.tmp 60) 1) <|
                                (.op none (some 21) (.al 31 [(.string ⟨#[]⟩), (.int .i64 0), (.int .i64 0)]) <|
                                (.op none (some 20) (.mov (.tmp 68)) <|
                                (.op none none (.stn 3 (.tmp 21) (.tmp 69)) <|
                                .nil)))))))))))))
                                (.seq
                                  (.op none (some 71) (.mov (.tmp 13)) <|
                                  (.op none (some 72) (.ldn 6 (.tmp 7)) <|
                                  (.op none (some 73) (.mov (.tmp 2)) <|
                                  (.op none (some 74) (.call 27 [(.tmp 71), (.tmp 72), (.tmp 73)]) <|
                                  (.op none (some 70) (.mov (.tmp 74)) <|
                                  (.op none (some 75) (.ext (.tmp 70) 0) <|
                                  (.op none (some 76) (.ext (.tmp 70) 1) <|
                                  (.op none (some 22) (.al 39 [(.bool false), (.int .u32 0), (.int .u32 0), (.int .u32 0), (.int .u16 0), (.int .u16 0)]) <|
                                  (.op none none (.stn 6 (.tmp 22) (.tmp 75)) <|
                                  (.op none (some 23) (.mov (.tmp 76)) <|
                                  .nil))))))))))
                                  (.seq
                                    (.op none (some 78) (.mov (.tmp 14)) <|
                                    (.op none (some 79) (.ldn 6 (.tmp 16)) <|
                                    (.op none (some 80) (.mov (.tmp 2)) <|
                                    (.op none (some 81) (.call 28 [(.tmp 78), (.tmp 79), (.tmp 80)]) <|
                                    (.op none (some 77) (.mov (.tmp 81)) <|
                                    (.op none (some 82) (.ext (.tmp 77) 0) <|
                                    (.op none (some 83) (.ext (.tmp 77) 1) <|
                                    (.op none (some 24) (.al 46 [(.bool false), (.int .u32 0), (.int .u32 0), (.int .u32 0), (.int .u16 0), (.int .u16 0)]) <|
                                    (.op none (some 25) (.al 31 [(.string ⟨#[]⟩), (.int .i64 0), (.int .i64 0)]) <|
                                    (.op none none (.stn 6 (.tmp 24) (.tmp 82)) <|
                                    (.op none none (.stn 3 (.tmp 25) (.tmp 83)) <|
                                    .nil)))))))))))
                                    (.seq
                                      (.seq
                                        (.draw
                                          (.op none (some 84) (.mov (.tmp 18)) <|
                                          (.op none (some 85) (.mov (.tmp 20)) <|
                                          (.op none (some 86) (.icmp .neq (.tmp 84) (.tmp 85)) <|
                                          (.op none (some 87) (.mov (.tmp 86)) <|
                                          (.op (some (87, false)) (some 88) (.mov (.tmp 19)) <|
                                          (.op (some (87, false)) (some 89) (.ldn 3 (.tmp 21)) <|
                                          (.op (some (87, false)) (some 90) (.call 8 [(.tmp 88), (.tmp 89)]) <|
                                          (.op (some (87, false)) (some 91) (.bnot (.tmp 90)) <|
                                          (.op none (some 92) (.pick (.tmp 87) (.const (.bool true)) (.tmp 91)) <|
                                          (.op none (some 93) (.mov (.tmp 92)) <|
                                          (.op (some (93, false)) (some 94) (.ldn 6 (.tmp 22)) <|
                                          (.op (some (93, false)) (some 96) (.ldn 6 (.tmp 24)) <|
                                          (.op (some (93, false)) (some 95) (.call 13 [(.tmp 94)]) <|
                                          (.op (some (93, false)) (some 97) (.aeq true [.bool, .int, .int, .int, .int, .int] (.tmp 95) (.tmp 96)) <|
                                          (.op none (some 98) (.pick (.tmp 93) (.const (.bool true)) (.tmp 97)) <|
                                          (.op none (some 99) (.mov (.tmp 98)) <|
                                          (.op (some (99, false)) (some 100) (.mov (.tmp 23)) <|
                                          (.op (some (99, false)) (some 101) (.ldn 3 (.tmp 25)) <|
                                          (.op (some (99, false)) (some 102) (.call 8 [(.tmp 100), (.tmp 101)]) <|
                                          (.op (some (99, false)) (some 103) (.bnot (.tmp 102)) <|
                                          (.op none (some 104) (.pick (.tmp 99) (.const (.bool true)) (.tmp 103)) <|
                                          .nil))))))))))))))))))))))
                                        (.cond (.tmp 104)
                                          (.seq
                                            (.op none (some 12) (.mov (.const (.bool false))) <|
                                            .nil)
                                            .ret)
                                          .nil))
                                      (.seq
                                        (.op none (some 105) (.mov (.tmp 13)) <|
                                        (.op none (some 106) (.ldn 6 (.tmp 7)) <|
                                        (.op none (some 107) (.mov (.tmp 2)) <|
                                        (.op none (some 108) (.mov (.tmp 3)) <|
                                        (.op none (some 109) (.mov (.tmp 4)) <|
                                        (.op none (some 110) (.call 29 [(.tmp 105), (.tmp 106), (.tmp 107), (.tmp 108), (.tmp 109)]) <|
                                        (.op none (some 26) (.mov (.tmp 110)) <|
                                        .nil)))))))
                                        (.seq
                                          (.op none (some 111) (.mov (.tmp 14)) <|
                                          (.op none (some 112) (.ldn 6 (.tmp 16)) <|
                                          (.op none (some 113) (.mov (.tmp 2)) <|
                                          (.op none (some 114) (.mov (.tmp 3)) <|
                                          (.op none (some 115) (.mov (.tmp 4)) <|
                                          (.op none (some 116) (.call 30 [(.tmp 111), (.tmp 112), (.tmp 113), (.tmp 114), (.tmp 115)]) <|
                                          (.op none (some 27) (.al 31 [(.string ⟨#[]⟩), (.int .i64 0), (.int .i64 0)]) <|
                                          (.op none none (.stn 3 (.tmp 27) (.tmp 116)) <|
                                          .nil))))))))
                                          (.seq
                                            (.seq
                                              (.op none (some 117) (.mov (.tmp 26)) <|
                                              (.op none (some 118) (.ldn 3 (.tmp 27)) <|
                                              (.op none (some 119) (.call 8 [(.tmp 117), (.tmp 118)]) <|
                                              (.op none (some 120) (.bnot (.tmp 119)) <|
                                              (.op none (some 121) (.mov (.tmp 120)) <|
                                              (.op (some (121, false)) (some 122) (.mov (.tmp 13)) <|
                                              (.op (some (121, false)) (some 123) (.mov (.tmp 14)) <|
                                              (.op (some (121, false)) (some 124) (.call 22 [(.tmp 122), (.tmp 123)]) <|
                                              (.op (some (121, false)) (some 125) (.bnot (.tmp 124)) <|
                                              (.op none (some 126) (.pick (.tmp 121) (.const (.bool true)) (.tmp 125)) <|
                                              .nil))))))))))
                                              (.cond (.tmp 126)
                                                (.seq
                                                  (.op none (some 12) (.mov (.const (.bool false))) <|
                                                  .nil)
                                                  .ret)
                                                .nil))
                                            (.seq
                                              (.op none (some 127) (.mov (.tmp 13)) <|
                                              (.op none (some 128) (.ldn 6 (.tmp 7)) <|
                                              (.op none (some 129) (.mov (.tmp 2)) <|
                                              (.op none (some 130) (.ldn 6 (.tmp 11)) <|
                                              (.op none (some 131) (.call 31 [(.tmp 127), (.tmp 128), (.tmp 129), (.tmp 130)]) <|
                                              (.op none (some 28) (.mov (.tmp 131)) <|
                                              .nil))))))
                                              (.seq
                                                (.draw
                                                  (.op none (some 132) (.mov (.tmp 14)) <|
                                                  (.op none (some 133) (.ldn 6 (.tmp 16)) <|
                                                  (.op none (some 134) (.mov (.tmp 2)) <|
                                                  (.op none (some 135) (.ldn 6 (.tmp 11)) <|
                                                  (.both
                                                    (.op none (some 136) (.call 13 [(.tmp 135)]) <|
                                                    (.both
                                                      (.op none (some 137) (.call 32 [(.tmp 132), (.tmp 133), (.tmp 134), (.tmp 136)]) <|
                                                      (.op none (some 29) (.al 31 [(.string ⟨#[]⟩), (.int .i64 0), (.int .i64 0)]) <|
                                                      (.op none none (.stn 3 (.tmp 29) (.tmp 137)) <|
                                                      .nil)))
                                                      (.op none (some 29) (.al 31 [(.string ⟨#[]⟩), (.int .i64 0), (.int .i64 0)]) <|
                                                      (.op none (some 137) (.call 32 [(.tmp 132), (.tmp 133), (.tmp 134), (.tmp 136)]) <|
                                                      (.op none none (.stn 3 (.tmp 29) (.tmp 137)) <|
                                                      .nil)))))
                                                    (.op none (some 29) (.al 31 [(.string ⟨#[]⟩), (.int .i64 0), (.int .i64 0)]) <|
                                                    (.op none (some 136) (.call 13 [(.tmp 135)]) <|
                                                    (.op none (some 137) (.call 32 [(.tmp 132), (.tmp 133), (.tmp 134), (.tmp 136)]) <|
                                                    (.op none none (.stn 3 (.tmp 29) (.tmp 137)) <|
                                                    .nil))))))))))
                                                (.seq
                                                  (.op none (some 138) (.mov (.tmp 28)) <|
                                                  (.op none (some 139) (.ldn 3 (.tmp 29)) <|
                                                  (.op none (some 140) (.call 8 [(.tmp 138), (.tmp 139)]) <|
                                                  (.op none (some 141) (.bnot (.tmp 140)) <|
                                                  (.op none (some 142) (.mov (.tmp 141)) <|
                                                  (.op (some (142, false)) (some 143) (.mov (.tmp 13)) <|
                                                  (.op (some (142, false)) (some 144) (.mov (.tmp 14)) <|
                                                  (.op (some (142, false)) (some 145) (.call 22 [(.tmp 143), (.tmp 144)]) <|
                                                  (.op (some (142, false)) (some 146) (.bnot (.tmp 145)) <|
                                                  (.op none (some 147) (.pick (.tmp 142) (.const (.bool true)) (.tmp 146)) <|
                                                  .nil))))))))))
                                                  (.cond (.tmp 147)
                                                    (.seq
                                                      (.op none (some 12) (.mov (.const (.bool false))) <|
                                                      .nil)
                                                      .ret)
                                                    .nil)))))))))))))
                          (.op none (some 48) (.mov (.tmp 17)) <|
                          (.op none (some 49) (.iar .add (.tmp 48) (.const (.int .i64 1))) <|
                          (.op none (some 17) (.mov (.tmp 49)) <|
                          .nil))))))))
                (.seq
                  (.op none (some 12) (.mov (.const (.bool true))) <|
                  .nil)
                  .ret))))))))⟩
theorem m_hasplaw5_AccessPlays : toFn Tryd.prog 4 = some c_hasplaw5_AccessPlays := by kernel_rfl
abbrev n_hasplaw5_AccessPlays : FuncId := 4
/-- hasp/hasplaw4.known -/
def c_hasplaw4_known : MFn := ⟨153, 0, [.tmp 0],
  (.seq
    (.op none (some 0) (.mov (.const (.bool false))) <|
    .nil)
    (.seq
      (.op none (some 19) (.call 6 [(.const (.int .i64 64))]) <|
      (.op none (some 18) (.mov (.tmp 19)) <|
      (.op none (some 20) (.ext (.tmp 18) 0) <|
      (.op none (some 21) (.ext (.tmp 18) 1) <|
      (.op none (some 1) (.mov (.tmp 20)) <|
      (.op none (some 2) (.mov (.tmp 21)) <|
      .nil))))))
      (.seq
        (.op none (some 23) (.call 6 [(.const (.int .i64 17))]) <|
        (.op none (some 22) (.mov (.tmp 23)) <|
        (.op none (some 24) (.ext (.tmp 22) 0) <|
        (.op none (some 25) (.ext (.tmp 22) 1) <|
        (.op none (some 3) (.mov (.tmp 24)) <|
        (.op none (some 4) (.mov (.tmp 25)) <|
        .nil))))))
        (.seq
          (.seq
            (.op none (some 26) (.mov (.tmp 2)) <|
            (.op none (some 27) (.ifnil true (.tmp 26)) <|
            (.op none (some 28) (.mov (.tmp 27)) <|
            (.op (some (28, false)) (some 29) (.mov (.tmp 1)) <|
            (.op (some (28, false)) (some 30) (.ptnil false (.tmp 29)) <|
            (.op none (some 31) (.pick (.tmp 28) (.const (.bool true)) (.tmp 30)) <|
            (.op none (some 32) (.mov (.tmp 31)) <|
            (.op (some (32, false)) (some 33) (.mov (.tmp 4)) <|
            (.op (some (32, false)) (some 34) (.bld [(.string ⟨#[]⟩), (.int .i64 0), (.int .i64 0)] [(0, 1, (.const (.string ⟨#[115, 105, 122, 101]⟩))), (1, 1, (.const (.int .i64 17))), (2, 1, (.const (.int .i64 5)))]) <|
            (.op (some (32, false)) (some 35) (.call 8 [(.tmp 33), (.tmp 34)]) <|
            (.op (some (32, false)) (some 36) (.bnot (.tmp 35)) <|
            (.op none (some 37) (.pick (.tmp 32) (.const (.bool true)) (.tmp 36)) <|
            .nil))))))))))))
            (.cond (.tmp 37)
              (.seq
                (.op none (some 0) (.mov (.const (.bool false))) <|
                .nil)
                .ret)
              .nil))
          (.seq
            (.op none (some 38) (.call 33 [(.const (.int .u32 64))]) <|
            (.op none (some 5) (.al 39 [(.bool false), (.int .u32 0), (.int .u32 0), (.int .u32 0), (.int .u16 0), (.int .u16 0)]) <|
            (.op none none (.stn 6 (.tmp 5) (.tmp 38)) <|
            .nil)))
            (.seq
              (.op none (some 39) (.mov (.tmp 1)) <|
              (.op none (some 40) (.ldn 6 (.tmp 5)) <|
              (.op none (some 41) (.call 11 [(.tmp 39), (.const (.int .i64 16)), (.tmp 40)]) <|
              (.op none (some 6) (.mov (.tmp 41)) <|
              .nil))))
              (.seq
                (.op none (some 43) (.mov (.tmp 1)) <|
                (.op none (some 44) (.call 16 [(.tmp 43), (.const (.int .i64 16))]) <|
                (.op none (some 42) (.mov (.tmp 44)) <|
                (.op none (some 45) (.ext (.tmp 42) 0) <|
                (.op none (some 46) (.ext (.tmp 42) 1) <|
                (.op none (some 7) (.al 39 [(.bool false), (.int .u32 0), (.int .u32 0), (.int .u32 0), (.int .u16 0), (.int .u16 0)]) <|
                (.op none none (.stn 6 (.tmp 7) (.tmp 45)) <|
                (.op none (some 8) (.mov (.tmp 46)) <|
                .nil))))))))
                (.seq
                  (.op none (some 47) (.mov (.tmp 1)) <|
                  (.op none (some 48) (.call 34 [(.tmp 47)]) <|
                  (.op none (some 9) (.mov (.tmp 48)) <|
                  .nil)))
                  (.seq
                    (.op none (some 49) (.mov (.tmp 1)) <|
                    (.op none (some 50) (.call 19 [(.tmp 49)]) <|
                    (.op none (some 10) (.mov (.tmp 50)) <|
                    .nil)))
                    (.seq
                      (.op none (some 51) (.mov (.tmp 1)) <|
                      (.op none (some 52) (.bldS 5 1 [(.int .u8 0)] [(0, 1, (.const (.int .u8 9)))]) <|
                      (.op none (some 53) (.call 9 [(.tmp 51), (.const (.int .i64 31)), (.tmp 52)]) <|
                      (.op none (some 11) (.mov (.tmp 53)) <|
                      .nil))))
                      (.seq
                        (.op none (some 55) (.mov (.tmp 1)) <|
                        (.op none (some 56) (.call 16 [(.tmp 55), (.const (.int .i64 16))]) <|
                        (.op none (some 54) (.mov (.tmp 56)) <|
                        (.op none (some 57) (.ext (.tmp 54) 0) <|
                        (.op none (some 58) (.ext (.tmp 54) 1) <|
                        (.op none (some 12) (.al 39 [(.bool false), (.int .u32 0), (.int .u32 0), (.int .u32 0), (.int .u16 0), (.int .u16 0)]) <|
                        (.op none none (.stn 6 (.tmp 12) (.tmp 57)) <|
                        (.op none (some 13) (.mov (.tmp 58)) <|
                        .nil))))))))
                        (.seq
                          (.op none (some 60) (.mov (.tmp 1)) <|
                          (.op none (some 61) (.call 14 [(.tmp 60), (.const (.int .i64 31)), (.const (.int .i64 1))]) <|
                          (.op none (some 59) (.mov (.tmp 61)) <|
                          (.op none (some 62) (.ext (.tmp 59) 0) <|
                          (.op none (some 63) (.ext (.tmp 59) 1) <|
                          (.op none (some 14) (.mov (.tmp 62)) <|
                          (.op none (some 15) (.mov (.tmp 63)) <|
                          .nil)))))))
                          (.seq
                            (.op none (some 65) (.mov (.tmp 1)) <|
                            (.op none (some 66) (.call 14 [(.tmp 65), (.const (.int .i64 60)), (.const (.int .i64 5))]) <|
                            (.op none (some 64) (.mov (.tmp 66)) <|
                            (.op none (some 67) (.ext (.tmp 64) 0) <|
                            (.op none (some 68) (.ext (.tmp 64) 1) <|
                            (.op none (some 16) (.mov (.tmp 67)) <|
                            (.op none (some 17) (.mov (.tmp 68)) <|
                            .nil)))))))
                            (.seq
                              (.op none (some 69) (.mov (.tmp 6)) <|
                              (.op none (some 70) (.ifnil false (.tmp 69)) <|
                              (.op none (some 71) (.mov (.tmp 70)) <|
                              (.op (some (71, true)) (some 72) (.mov (.tmp 8)) <|
                              (.op (some (71, true)) (some 73) (.ifnil false (.tmp 72)) <|
                              (.op none (some 74) (.pick (.tmp 71) (.tmp 73) (.const (.bool false))) <|
                              (.op none (some 75) (.mov (.tmp 74)) <|
                              (.op (some (75, true)) (some 76) (.ldn 6 (.tmp 7)) <|
                              (.op (some (75, true)) (some 77) (.ldn 6 (.tmp 5)) <|
                              (.op (some (75, true)) (some 78) (.aeq false [.bool, .int, .int, .int, .int, .int] (.tmp 76) (.tmp 77)) <|
                              (.op none (some 79) (.pick (.tmp 75) (.tmp 78) (.const (.bool false))) <|
                              (.op none (some 80) (.mov (.tmp 79)) <|
                              (.op (some (80, true)) (some 81) (.mov (.tmp 9)) <|
                              (.op (some (80, true)) (some 82) (.lenS (.tmp 81)) <|
                              (.op (some (80, true)) (some 83) (.icmp .eql (.tmp 82) (.const (.int .i64 1))) <|
                              (.op none (some 84) (.pick (.tmp 80) (.tmp 83) (.const (.bool false))) <|
                              (.op none (some 85) (.mov (.tmp 84)) <|
                              (.op (some (85, true)) (some 86) (.mov (.tmp 9)) <|
                              (.op (some (85, true)) (some 87) (.idxS 1 (.tmp 86) (.const (.int .i64 0))) <|
                              (.op (some (85, true)) (some 88) (.ld1 (.tmp 87)) <|
                              (.op (some (85, true)) (some 89) (.icmp .eql (.tmp 88) (.const (.int .i64 16))) <|
                              (.op none (some 90) (.pick (.tmp 85) (.tmp 89) (.const (.bool false))) <|
                              (.op none (some 91) (.mov (.tmp 90)) <|
                              (.op (some (91, true)) (some 92) (.mov (.tmp 1)) <|
                              (.op (some (91, true)) (some 93) (.call 35 [(.tmp 92)]) <|
                              (.op (some (91, true)) (some 94) (.icmp .eql (.tmp 93) (.const (.int .i64 64))) <|
                              (.op none (some 95) (.pick (.tmp 91) (.tmp 94) (.const (.bool false))) <|
                              (.op none (some 96) (.mov (.tmp 95)) <|
                              (.op (some (96, true)) (some 97) (.mov (.tmp 11)) <|
                              (.op (some (96, true)) (some 98) (.ifnil false (.tmp 97)) <|
                              (.op none (some 99) (.pick (.tmp 96) (.tmp 98) (.const (.bool false))) <|
                              (.op none (some 100) (.mov (.tmp 99)) <|
                              (.op (some (100, true)) (some 101) (.mov (.tmp 13)) <|
                              (.op (some (100, true)) (some 102) (.ifnil false (.tmp 101)) <|
                              (.op none (some 103) (.pick (.tmp 100) (.tmp 102) (.const (.bool false))) <|
                              (.op none (some 104) (.mov (.tmp 103)) <|
                              (.op (some (104, true)) (some 105) (.fadr 0 (.tmp 12)) <|
                              (.op (some (104, true)) (some 106) (.ld1 (.tmp 105)) <|
                              (.op (some (104, true)) (some 107) (.bnot (.tmp 106)) <|
                              (.op none (some 108) (.pick (.tmp 104) (.tmp 107) (.const (.bool false))) <|
                              (.op none (some 109) (.mov (.tmp 108)) <|
                              (.op (some (109, true)) (some 110) (.mov (.tmp 15)) <|
                              (.op (some (109, true)) (some 111) (.ifnil false (.tmp 110)) <|
                              (.op none (some 112) (.pick (.tmp 109) (.tmp 111) (.const (.bool false))) <|
                              (.op none (some 113) (.mov (.tmp 112)) <|
                              (.op (some (113, true)) (some 114) (.mov (.tmp 14)) <|
                              (.op (some (113, true)) (some 115) (.lenS (.tmp 114)) <|
                              (.op (some (113, true)) (some 116) (.icmp .eql (.tmp 115) (.const (.int .i64 1))) <|
                              (.op none (some 117) (.pick (.tmp 113) (.tmp 116) (.const (.bool false))) <|
                              (.op none (some 118) (.mov (.tmp 117)) <|
                              (.op (some (118, true)) (some 119) (.mov (.tmp 14)) <|
                              (.op (some (118, true)) (some 120) (.idxS 1 (.tmp 119) (.const (.int .i64 0))) <|
                              (.op (some (118, true)) (some 121) (.ld1 (.tmp 120)) <|
                              (.op (some (118, true)) (some 122) (.icmp .eql (.tmp 121) (.const (.int .u8 9))) <|
                              (.op none (some 123) (.pick (.tmp 118) (.tmp 122) (.const (.bool false))) <|
                              (.op none (some 124) (.mov (.tmp 123)) <|
                              (.op (some (124, true)) (some 125) (.mov (.tmp 17)) <|
                              (.op (some (124, true)) (some 126) (.bld [(.string ⟨#[]⟩), (.int .i64 0), (.int .i64 0)] [(0, 1, (.const (.string ⟨#[109, 101, 109]⟩))), (1, 1, (.const (.int .i64 60))), (2, 1, (.const (.int .i64 6)))]) <|
                              (.op (some (124, true)) (some 127) (.call 8 [(.tmp 125), (.tmp 126)]) <|
                              (.op none (some 128) (.pick (.tmp 124) (.tmp 127) (.const (.bool false))) <|
                              (.op none (some 129) (.mov (.tmp 128)) <|
                              (.op (some (129, true)) (some 130) (.mov (.tmp 10)) <|
                              (.op (some (129, true)) (some 131) (.ptnil true (.tmp 130)) <|
                              (.op none (some 132) (.pick (.tmp 129) (.tmp 131) (.const (.bool false))) <|
                              (.op none (some 133) (.mov (.tmp 132)) <|
                              (.op (some (133, true)) (some 134) (.mov (.tmp 10)) <|
                              (.op (some (133, true)) (some 135) (.call 21 [(.tmp 134), (.const (.int .i64 31))]) <|
                              (.op none (some 136) (.pick (.tmp 133) (.tmp 135) (.const (.bool false))) <|
                              (.op none (some 137) (.mov (.tmp 136)) <|
                              (.op (some (137, true)) (some 138) (.mov (.tmp 1)) <|
                              (.op (some (137, true)) (some 139) (.call 21 [(.tmp 138), (.const (.int .i64 31))]) <|
                              (.op (some (137, true)) (some 140) (.bnot (.tmp 139)) <|
                              (.op none (some 141) (.pick (.tmp 137) (.tmp 140) (.const (.bool false))) <|
                              (.op none (some 142) (.mov (.tmp 141)) <|
                              (.op (some (142, true)) (some 143) (.mov (.tmp 10)) <|
                              (.op (some (142, true)) (some 144) (.mov (.tmp 1)) <|
                              (.op (some (142, true)) (some 145) (.call 20 [(.tmp 143), (.tmp 144)]) <|
                              (.op (some (142, true)) (some 146) (.bnot (.tmp 145)) <|
                              (.op none (some 147) (.pick (.tmp 142) (.tmp 146) (.const (.bool false))) <|
                              (.op none (some 148) (.mov (.tmp 147)) <|
                              (.op (some (148, true)) (some 149) (.mov (.tmp 10)) <|
                              (.op (some (148, true)) (some 150) (.mov (.tmp 10)) <|
                              (.op (some (148, true)) (some 151) (.call 20 [(.tmp 149), (.tmp 150)]) <|
                              (.op none (some 152) (.pick (.tmp 148) (.tmp 151) (.const (.bool false))) <|
                              (.op none (some 0) (.mov (.tmp 152)) <|
                              .nil)))))))))))))))))))))))))))))))))))))))))))))))))))))))))))))))))))))))))))))))))))))
                              .ret))))))))))))))⟩
theorem m_hasplaw4_known : toFn Tryd.prog 5 = some c_hasplaw4_known := by kernel_rfl
abbrev n_hasplaw4_known : FuncId := 5
/-- hasp/mem.New -/
def c_mem_New : MFn := ⟨26, 1, [.tmp 2, .tmp 3],
  (.seq
    (.op none (some 2) (.mov (.const (.pointer none))) <|
    (.op none (some 3) (.mov (.const .nilIface)) <|
    .nil))
    (.seq
      (.block 0
        (.seq
          (.op none (some 5) (.mov (.tmp 0)) <|
          (.op none (some 6) (.icmp .lss (.tmp 5) (.const (.int .i64 16))) <|
          (.op none (some 7) (.mov (.tmp 6)) <|
          (.op (some (7, false)) (some 8) (.mov (.tmp 0)) <|
          (.op (some (7, false)) (some 9) (.icmp .gtr (.tmp 8) (.const (.int .i64 65536))) <|
          (.op none (some 10) (.pick (.tmp 7) (.const (.bool true)) (.tmp 9)) <|
          (.op none (some 4) (.mov (.tmp 10)) <|
          .nil)))))))
          (.cond (.tmp 4)
            (.seq
              (.op none (some 11) (.mov (.tmp 0)) <|
              (.op none (some 12) (.call 36 [(.const (.string ⟨#[115, 105, 122, 101]⟩)), (.tmp 11), (.const (.int .i64 6))]) <|
              (.op none (some 2) (.mov (.const (.pointer none))) <|
              (.op none (some 3) (.mov (.tmp 12)) <|
              .nil))))
              .ret)
            (.seq
              (.op none (some 14) (.mov (.tmp 0)) <|
              (.op none (some 15) (.idivC .rem (.tmp 14) .i64 16) <|
              (.op none (some 16) (.icmp .neq (.tmp 15) (.const (.int .i64 0))) <|
              (.op none (some 13) (.mov (.tmp 16)) <|
              .nil))))
              (.cond (.tmp 13)
                (.seq
                  (.op none (some 17) (.mov (.tmp 0)) <|
                  (.op none (some 18) (.call 36 [(.const (.string ⟨#[115, 105, 122, 101]⟩)), (.tmp 17), (.const (.int .i64 5))]) <|
                  (.op none (some 2) (.mov (.const (.pointer none))) <|
                  (.op none (some 3) (.mov (.tmp 18)) <|
                  .nil))))
                  .ret)
                .nil)))))
      (.seq
        (.draw
          (.op none (some 19) (.mov (.tmp 0)) <|
          (.op none (some 21) (.mov (.tmp 0)) <|
          (.op none (some 22) (.idivC .quo (.tmp 21) .i64 16) <|
          (.both
            (.op none (some 20) (.mkSl 35 (.tmp 19) (.tmp 19)) <|
            (.op none (some 23) (.mkSl 59 (.tmp 22) (.tmp 22)) <|
            (.op none (some 24) (.bld [(.slice none 0 0), (.slice none 0 0)] [(0, 1, (.tmp 20)), (1, 1, (.tmp 23))]) <|
            (.op none (some 25) (.bx 85 true (.tmp 24)) <|
            (.op none (some 2) (.mov (.tmp 25)) <|
            (.op none (some 3) (.mov (.const .nilIface)) <|
            .nil))))))
            (.op none (some 23) (.mkSl 59 (.tmp 22) (.tmp 22)) <|
            (.op none (some 20) (.mkSl 35 (.tmp 19) (.tmp 19)) <|
            (.op none (some 24) (.bld [(.slice none 0 0), (.slice none 0 0)] [(0, 1, (.tmp 20)), (1, 1, (.tmp 23))]) <|
            (.op none (some 25) (.bx 85 true (.tmp 24)) <|
            (.op none (some 2) (.mov (.tmp 25)) <|
            (.op none (some 3) (.mov (.const .nilIface)) <|
            .nil)))))))))))
        .ret)))⟩
theorem m_mem_New : toFn Tryd.prog 6 = some c_mem_New := by kernel_rfl
abbrev n_mem_New : FuncId := 6
/-- hasp/haspref11.NewMem -/
def c_haspref11_NewMem : MFn := ⟨27, 1, [.tmp 2, .cn 3 3],
  (.seq
    (.op none (some 2) (.mov (.const (.pointer none))) <|
    (.op none (some 3) (.al 31 [(.string ⟨#[]⟩), (.int .i64 0), (.int .i64 0)]) <|
    .nil))
    (.seq
      (.block 0
        (.seq
          (.op none (some 5) (.mov (.tmp 0)) <|
          (.op none (some 6) (.icmp .lss (.tmp 5) (.const (.int .i64 16))) <|
          (.op none (some 7) (.mov (.tmp 6)) <|
          (.op (some (7, false)) (some 8) (.mov (.tmp 0)) <|
          (.op (some (7, false)) (some 9) (.icmp .gtr (.tmp 8) (.const (.int .i64 65536))) <|
          (.op none (some 10) (.pick (.tmp 7) (.const (.bool true)) (.tmp 9)) <|
          (.op none (some 4) (.mov (.tmp 10)) <|
          .nil)))))))
          (.cond (.tmp 4)
            (.seq
              (.op none (some 11) (.mov (.tmp 0)) <|
              (.op none (some 12) (.bld [(.string ⟨#[]⟩), (.int .i64 0), (.int .i64 0)] [(0, 1, (.const (.string ⟨#[115, 105, 122, 101]⟩))), (1, 1, (.tmp 11)), (2, 1, (.const (.int .i64 6)))]) <|
              (.op none (some 2) (.mov (.const (.pointer none))) <|
              (.op none none (.stn 3 (.tmp 3) (.tmp 12)) <|
              .nil))))
              .ret)
            (.seq
              (.op none (some 14) (.mov (.tmp 0)) <|
              (.op none (some 15) (.idivC .rem (.tmp 14) .i64 16) <|
              (.op none (some 16) (.icmp .neq (.tmp 15) (.const (.int .i64 0))) <|
              (.op none (some 13) (.mov (.tmp 16)) <|
              .nil))))
              (.cond (.tmp 13)
                (.seq
                  (.op none (some 17) (.mov (.tmp 0)) <|
                  (.op none (some 18) (.bld [(.string ⟨#[]⟩), (.int .i64 0), (.int .i64 0)] [(0, 1, (.const (.string ⟨#[115, 105, 122, 101]⟩))), (1, 1, (.tmp 17)), (2, 1, (.const (.int .i64 5)))]) <|
                  (.op none (some 2) (.mov (.const (.pointer none))) <|
                  (.op none none (.stn 3 (.tmp 3) (.tmp 18)) <|
                  .nil))))
                  .ret)
                .nil)))))
      (.seq
        (.draw
          (.op none (some 19) (.mov (.tmp 0)) <|
          (.op none (some 21) (.mov (.tmp 0)) <|
          (.op none (some 22) (.idivC .quo (.tmp 21) .i64 16) <|
          (.op none (some 26) (.bld [(.string ⟨#[]⟩), (.int .i64 0), (.int .i64 0)] []) <|
          (.both
            (.op none (some 20) (.mkSl 35 (.tmp 19) (.tmp 19)) <|
            (.op none (some 23) (.mkSl 59 (.tmp 22) (.tmp 22)) <|
            (.op none (some 24) (.bld [(.slice none 0 0), (.slice none 0 0)] [(0, 1, (.tmp 20)), (1, 1, (.tmp 23))]) <|
            (.op none (some 25) (.bx 61 true (.tmp 24)) <|
            (.op none (some 2) (.mov (.tmp 25)) <|
            (.op none none (.stn 3 (.tmp 3) (.tmp 26)) <|
            .nil))))))
            (.op none (some 23) (.mkSl 59 (.tmp 22) (.tmp 22)) <|
            (.op none (some 20) (.mkSl 35 (.tmp 19) (.tmp 19)) <|
            (.op none (some 24) (.bld [(.slice none 0 0), (.slice none 0 0)] [(0, 1, (.tmp 20)), (1, 1, (.tmp 23))]) <|
            (.op none (some 25) (.bx 61 true (.tmp 24)) <|
            (.op none (some 2) (.mov (.tmp 25)) <|
            (.op none none (.stn 3 (.tmp 3) (.tmp 26)) <|
            .nil))))))))))))
        .ret)))⟩
theorem m_haspref11_NewMem : toFn Tryd.prog 7 = some c_haspref11_NewMem := by kernel_rfl
abbrev n_haspref11_NewMem : FuncId := 7
/-- hasp/hasplaw4.Tells -/
def c_hasplaw4_Tells : MFn := ⟨47, 2, [.tmp 4],
  (.seq
    (.op none (some 3) (.bx 31 true (.tmp 1)) <|
    (.op none (some 4) (.mov (.const (.bool false))) <|
    .nil))
    (.seq
      (.seq
        (.op none (some 6) (.fadr 2 (.tmp 3)) <|
        (.op none (some 7) (.ld1 (.tmp 6)) <|
        (.op none (some 8) (.icmp .eql (.tmp 7) (.const (.int .i64 0))) <|
        .nil)))
        (.cond (.tmp 8)
          (.seq
            (.op none (some 9) (.mov (.tmp 0)) <|
            (.op none (some 10) (.ifnil false (.tmp 9)) <|
            (.op none (some 4) (.mov (.tmp 10)) <|
            .nil)))
            .ret)
          .nil))
      (.seq
        (.op none (some 5) (.al 86 [(.pointer none)]) <|
        .nil)
        (.seq
          (.draw
            (.op none (some 11) (.mov (.tmp 0)) <|
            (.op none (some 12) (.ifnil true (.tmp 11)) <|
            (.op none (some 13) (.mov (.tmp 12)) <|
            (.op (some (13, true)) (some 14) (.mov (.tmp 0)) <|
            (.op (some (13, true)) (some 15) (.mkif 88 (.tmp 5)) <|
            (.op (some (13, true)) (some 16) (.call 37 [(.tmp 14), (.tmp 15)]) <|
            (.op none (some 17) (.pick (.tmp 13) (.tmp 16) (.const (.bool false))) <|
            (.op none (some 18) (.mov (.tmp 17)) <|
            (.op (some (18, true)) (some 19) (.ld1 (.tmp 5)) <|
            (.op (some (18, true)) (some 20) (.ptnil true (.tmp 19)) <|
            (.op none (some 21) (.pick (.tmp 18) (.tmp 20) (.const (.bool false))) <|
            (.op none (some 22) (.mov (.tmp 21)) <|
            (.op (some (22, true)) (some 23) (.ld1 (.tmp 5)) <|
            (.op (some (22, true)) (some 24) (.nilchk (.tmp 23)) <|
            (.op (some (22, true)) (some 25) (.fadr 0 (.tmp 24)) <|
            (.op (some (22, true)) (some 26) (.ld1 (.tmp 25)) <|
            (.op (some (22, true)) (some 27) (.fadr 0 (.tmp 3)) <|
            (.op (some (22, true)) (some 28) (.ld1 (.tmp 27)) <|
            (.op (some (22, true)) (some 29) (.scmp .eql (.tmp 26) (.tmp 28)) <|
            (.op none (some 30) (.pick (.tmp 22) (.tmp 29) (.const (.bool false))) <|
            (.op none (some 31) (.mov (.tmp 30)) <|
            (.op (some (31, true)) (some 32) (.ld1 (.tmp 5)) <|
            (.op (some (31, true)) (some 33) (.nilchk (.tmp 32)) <|
            (.op (some (31, true)) (some 34) (.fadr 1 (.tmp 33)) <|
            (.op (some (31, true)) (some 35) (.ld1 (.tmp 34)) <|
            (.op (some (31, true)) (some 36) (.fadr 1 (.tmp 3)) <|
            (.op (some (31, true)) (some 37) (.ld1 (.tmp 36)) <|
            (.op (some (31, true)) (some 38) (.icmp .eql (.tmp 35) (.tmp 37)) <|
            (.op none (some 39) (.pick (.tmp 31) (.tmp 38) (.const (.bool false))) <|
            (.op none (some 40) (.mov (.tmp 39)) <|
            (.op (some (40, true)) (some 41) (.mov (.tmp 0)) <|
            (.op (some (40, true)) (some 42) (.fadr 2 (.tmp 3)) <|
            (.op (some (40, true)) (some 43) (.ld1 (.tmp 42)) <|
            (.op (some (40, true)) (some 44) (.mkif 83 (.tmp 43)) <|
            (.op (some (40, true)) (some 45) (.call 38 [(.tmp 41), (.tmp 44)]) <|
            (.op none (some 46) (.pick (.tmp 40) (.tmp 45) (.const (.bool false))) <|
            (.op none (some 4) (.mov (.tmp 46)) <|
            .nil))))))))))))))))))))))))))))))))))))))
          .ret))))⟩
theorem m_hasplaw4_Tells : toFn Tryd.prog 8 = some c_hasplaw4_Tells := by kernel_rfl
abbrev n_hasplaw4_Tells : FuncId := 8
/-- (*hasp/mem.Mem).Store -/
def c_mem_Mem_Store : MFn := ⟨40, 3, [.tmp 6],
  (.seq
    (.op none (some 6) (.mov (.const .nilIface)) <|
    .nil)
    (.seq
      (.op none (some 10) (.mov (.tmp 0)) <|
      (.op none (some 11) (.mov (.tmp 1)) <|
      (.op none (some 12) (.mov (.tmp 2)) <|
      (.op none (some 13) (.lenS (.tmp 12)) <|
      (.op none (some 14) (.call 39 [(.tmp 10), (.tmp 11), (.tmp 13)]) <|
      (.op none (some 9) (.mov (.tmp 14)) <|
      (.op none (some 15) (.ext (.tmp 9) 0) <|
      (.op none (some 16) (.ext (.tmp 9) 1) <|
      (.op none (some 7) (.mov (.tmp 15)) <|
      (.op none (some 8) (.mov (.tmp 16)) <|
      .nil))))))))))
      (.seq
        (.seq
          (.op none (some 17) (.mov (.tmp 8)) <|
          (.op none (some 18) (.ifnil true (.tmp 17)) <|
          .nil))
          (.cond (.tmp 18)
            (.seq
              (.op none (some 19) (.mov (.tmp 8)) <|
              (.op none (some 6) (.mov (.tmp 19)) <|
              .nil))
              .ret)
            .nil))
        (.seq
          (.op none (some 20) (.mov (.tmp 7)) <|
          (.op none (some 21) (.mov (.tmp 2)) <|
          (.op none (some 22) (.bi .copy [35, 35] 3 [(.tmp 20), (.tmp 21)]) <|
          .nil)))
          (.seq
            (.seq
              (.op none (some 23) (.mov (.tmp 2)) <|
              (.op none (some 24) (.lenS (.tmp 23)) <|
              (.op none (some 25) (.icmp .gtr (.tmp 24) (.const (.int .i64 0))) <|
              .nil)))
              (.cond (.tmp 25)
                (.op none (some 26) (.mov (.tmp 0)) <|
                (.op none (some 27) (.nilchk (.tmp 26)) <|
                (.op none (some 28) (.fadr 1 (.tmp 27)) <|
                (.op none (some 29) (.ld1 (.tmp 28)) <|
                (.op none (some 30) (.mov (.tmp 1)) <|
                (.op none (some 31) (.idivC .quo (.tmp 30) .i64 16) <|
                (.op none (some 32) (.mov (.tmp 1)) <|
                (.op none (some 33) (.mov (.tmp 2)) <|
                (.op none (some 34) (.lenS (.tmp 33)) <|
                (.op none (some 35) (.iar .add (.tmp 32) (.tmp 34)) <|
                (.op none (some 36) (.iar .sub (.tmp 35) (.const (.int .i64 1))) <|
                (.op none (some 37) (.idivC .quo (.tmp 36) .i64 16) <|
                (.op none (some 38) (.iar .add (.tmp 37) (.const (.int .i64 1))) <|
                (.op none (some 39) (.slS 1 (.tmp 29) (some (.tmp 31)) (some (.tmp 38)) none) <|
                (.op none none (.bi .clear [59] 0 [(.tmp 39)]) <|
                .nil)))))))))))))))
                .nil))
            (.seq
              (.op none (some 6) (.mov (.const .nilIface)) <|
              .nil)
              .ret))))))⟩
theorem m_mem_Mem_Store : toFn Tryd.prog 9 = some c_mem_Mem_Store := by kernel_rfl
abbrev n_mem_Mem_Store : FuncId := 9
/-- (*hasp/haspref11.Mem).Store -/
def c_haspref11_Mem_Store : MFn := ⟨46, 3, [.cn 6 3],
  (.seq
    (.op none (some 6) (.al 31 [(.string ⟨#[]⟩), (.int .i64 0), (.int .i64 0)]) <|
    .nil)
    (.seq
      (.op none (some 9) (.mov (.tmp 0)) <|
      (.op none (some 10) (.mov (.tmp 1)) <|
      (.op none (some 11) (.mov (.tmp 2)) <|
      (.op none (some 12) (.lenS (.tmp 11)) <|
      (.op none (some 13) (.call 40 [(.tmp 9), (.tmp 10), (.tmp 12)]) <|
      (.op none (some 7) (.al 31 [(.string ⟨#[]⟩), (.int .i64 0), (.int .i64 0)]) <|
      (.op none none (.stn 3 (.tmp 7) (.tmp 13)) <|
      .nil)))))))
      (.seq
        (.seq
          (.op none (some 14) (.fadr 2 (.tmp 7)) <|
          (.op none (some 15) (.ld1 (.tmp 14)) <|
          (.op none (some 16) (.icmp .neq (.tmp 15) (.const (.int .i64 0))) <|
          .nil)))
          (.cond (.tmp 16)
            (.seq
              (.op none (some 17) (.ldn 3 (.tmp 7)) <|
              (.op none none (.stn 3 (.tmp 6) (.tmp 17)) <|
              .nil))
              .ret)
            .nil))
        (.seq
          (.seq
            (.op none (some 8) (.mov (.const (.int .i64 0))) <|
            .nil)
            (.block 0
              (.loop
                (.seq
                  (.seq
                    (.op none (some 18) (.mov (.tmp 8)) <|
                    (.op none (some 19) (.mov (.tmp 2)) <|
                    (.op none (some 20) (.lenS (.tmp 19)) <|
                    (.op none (some 21) (.icmp .lss (.tmp 18) (.tmp 20)) <|
                    .nil))))
                    (.cond (.tmp 21)
                      .nil
                      (.exit 0)))
                  (.seq
                    (.block 1
                      (.seq
                        (.draw
                          (.op none (some 24) (.mov (.tmp 0)) <|
                          (.op none (some 25) (.nilchk (.tmp 24)) <|
                          (.op none (some 26) (.fadr 0 (.tmp 25)) <|
                          (.op none (some 27) (.ld1 (.tmp 26)) <|
                          (.op none (some 28) (.mov (.tmp 1)) <|
                          (.op none (some 29) (.mov (.tmp 8)) <|
                          (.op none (some 30) (.iar .add (.tmp 28) (.tmp 29)) <|
                          (.op none (some 31) (.mov (.tmp 2)) <|
                          (.op none (some 32) (.mov (.tmp 8)) <|
                          (.op none (some 33) (.idxS 1 (.tmp 31) (.tmp 32)) <|
                          (.op none (some 34) (.ld1 (.tmp 33)) <|
                          (.op none (some 35) (.idxS 1 (.tmp 27) (.tmp 30)) <|
                          (.op none none (.st1 (.tmp 35) (.tmp 34)) <|
                          .nil))))))))))))))
                        (.op none (some 36) (.mov (.tmp 0)) <|
                        (.op none (some 37) (.nilchk (.tmp 36)) <|
                        (.op none (some 38) (.fadr 1 (.tmp 37)) <|
                        (.op none (some 39) (.ld1 (.tmp 38)) <|
                        (.op none (some 40) (.mov (.tmp 1)) <|
                        (.op none (some 41) (.mov (.tmp 8)) <|
                        (.op none (some 42) (.iar .add (.tmp 40) (.tmp 41)) <|
                        (.op none (some 43) (.idivC .quo (.tmp 42) .i64 16) <|
                        (.op none (some 44) (.idxS 1 (.tmp 39) (.tmp 43)) <|
                        (.op none none (.st1 (.tmp 44) (.const (.bool false))) <|
                        .nil))))))))))))
                    (.op none (some 22) (.mov (.tmp 8)) <|
                    (.op none (some 23) (.iar .add (.tmp 22) (.const (.int .i64 1))) <|
                    (.op none (some 8) (.mov (.tmp 23)) <|
                    .nil))))))))
          (.seq
            (.op none (some 45) (.bld [(.string ⟨#[]⟩), (.int .i64 0), (.int .i64 0)] []) <|
            (.op none none (.stn 3 (.tmp 6) (.tmp 45)) <|
            .nil))
            .ret)))))⟩
theorem m_haspref11_Mem_Store : toFn Tryd.prog 10 = some c_haspref11_Mem_Store := by kernel_rfl
abbrev n_haspref11_Mem_Store : FuncId := 10
/-- (*hasp/mem.Mem).StoreCap -/
def c_mem_Mem_StoreCap : MFn := ⟨33, 3, [.tmp 6],
  (.seq
    (.op none (some 5) (.bx 39 true (.tmp 2)) <|
    (.op none (some 6) (.mov (.const .nilIface)) <|
    .nil))
    (.seq
      (.op none (some 11) (.mov (.tmp 0)) <|
      (.op none (some 12) (.mov (.tmp 1)) <|
      (.op none (some 13) (.call 41 [(.tmp 11), (.tmp 12)]) <|
      (.op none (some 10) (.mov (.tmp 13)) <|
      (.op none (some 14) (.ext (.tmp 10) 0) <|
      (.op none (some 15) (.ext (.tmp 10) 1) <|
      (.op none (some 7) (.mov (.tmp 14)) <|
      (.op none (some 8) (.mov (.tmp 15)) <|
      .nil))))))))
      (.seq
        (.seq
          (.op none (some 16) (.mov (.tmp 8)) <|
          (.op none (some 17) (.ifnil true (.tmp 16)) <|
          .nil))
          (.cond (.tmp 17)
            (.seq
              (.op none (some 18) (.mov (.tmp 8)) <|
              (.op none (some 6) (.mov (.tmp 18)) <|
              .nil))
              .ret)
            .nil))
        (.seq
          (.op none (some 19) (.ldn 6 (.tmp 5)) <|
          (.op none (some 20) (.call 42 [(.tmp 19)]) <|
          (.op none (some 9) (.al 94 [(.int .u8 0), (.int .u8 0), (.int .u8 0), (.int .u8 0), (.int .u8 0), (.int .u8 0), (.int .u8 0), (.int .u8 0), (.int .u8 0), (.int .u8 0), (.int .u8 0), (.int .u8 0), (.int .u8 0), (.int .u8 0), (.int .u8 0), (.int .u8 0)]) <|
          (.op none none (.stn 16 (.tmp 9) (.tmp 20)) <|
          .nil))))
          (.seq
            (.op none (some 21) (.mov (.tmp 7)) <|
            (.op none (some 22) (.slA 16 1 (.tmp 9) none none none) <|
            (.op none (some 23) (.bi .copy [35, 35] 3 [(.tmp 21), (.tmp 22)]) <|
            .nil)))
            (.seq
              (.draw
                (.op none (some 24) (.mov (.tmp 0)) <|
                (.op none (some 25) (.nilchk (.tmp 24)) <|
                (.op none (some 26) (.fadr 1 (.tmp 25)) <|
                (.op none (some 27) (.ld1 (.tmp 26)) <|
                (.op none (some 28) (.mov (.tmp 1)) <|
                (.op none (some 29) (.idivC .quo (.tmp 28) .i64 16) <|
                (.op none (some 30) (.fadr 0 (.tmp 5)) <|
                (.op none (some 31) (.ld1 (.tmp 30)) <|
                (.op none (some 32) (.idxS 1 (.tmp 27) (.tmp 29)) <|
                (.op none none (.st1 (.tmp 32) (.tmp 31)) <|
                .nil)))))))))))
              (.seq
                (.op none (some 6) (.mov (.const .nilIface)) <|
                .nil)
                .ret)))))))⟩
theorem m_mem_Mem_StoreCap : toFn Tryd.prog 11 = some c_mem_Mem_StoreCap := by kernel_rfl
abbrev n_mem_Mem_StoreCap : FuncId := 11
/-- (*hasp/haspref11.Mem).StoreCap -/
def c_haspref11_Mem_StoreCap : MFn := ⟨34, 3, [.cn 6 3],
  (.seq
    (.op none (some 5) (.bx 46 true (.tmp 2)) <|
    (.op none (some 6) (.al 31 [(.string ⟨#[]⟩), (.int .i64 0), (.int .i64 0)]) <|
    .nil))
    (.seq
      (.op none (some 10) (.mov (.tmp 0)) <|
      (.op none (some 11) (.mov (.tmp 1)) <|
      (.op none (some 12) (.call 17 [(.tmp 10), (.tmp 11)]) <|
      (.op none (some 9) (.mov (.tmp 12)) <|
      (.op none (some 13) (.ext (.tmp 9) 0) <|
      (.op none (some 14) (.ext (.tmp 9) 1) <|
      (.op none (some 7) (.al 46 [(.bool false), (.int .u32 0), (.int .u32 0), (.int .u32 0), (.int .u16 0), (.int .u16 0)]) <|
      (.op none (some 8) (.al 31 [(.string ⟨#[]⟩), (.int .i64 0), (.int .i64 0)]) <|
      (.op none none (.stn 6 (.tmp 7) (.tmp 13)) <|
      (.op none none (.stn 3 (.tmp 8) (.tmp 14)) <|
      .nil))))))))))
      (.seq
        (.seq
          (.op none (some 15) (.fadr 2 (.tmp 8)) <|
          (.op none (some 16) (.ld1 (.tmp 15)) <|
          (.op none (some 17) (.icmp .neq (.tmp 16) (.const (.int .i64 0))) <|
          .nil)))
          (.cond (.tmp 17)
            (.seq
              (.op none (some 18) (.ldn 3 (.tmp 8)) <|
              (.op none none (.stn 3 (.tmp 6) (.tmp 18)) <|
              .nil))
              .ret)
            .nil))
        (.seq
          (.op none (some 19) (.mov (.tmp 0)) <|
          (.op none (some 20) (.mov (.tmp 1)) <|
          (.op none (some 21) (.ldn 6 (.tmp 5)) <|
          (.op none (some 22) (.call 43 [(.tmp 21)]) <|
          (.op none (some 23) (.call 10 [(.tmp 19), (.tmp 20), (.tmp 22)]) <|
          .nil)))))
          (.seq
            (.draw
              (.op none (some 24) (.mov (.tmp 0)) <|
              (.op none (some 25) (.nilchk (.tmp 24)) <|
              (.op none (some 26) (.fadr 1 (.tmp 25)) <|
              (.op none (some 27) (.ld1 (.tmp 26)) <|
              (.op none (some 28) (.mov (.tmp 1)) <|
              (.op none (some 29) (.idivC .quo (.tmp 28) .i64 16) <|
              (.op none (some 30) (.fadr 0 (.tmp 5)) <|
              (.op none (some 31) (.ld1 (.tmp 30)) <|
              (.op none (some 32) (.idxS 1 (.tmp 27) (.tmp 29)) <|
              (.op none none (.st1 (.tmp 32) (.tmp 31)) <|
              .nil)))))))))))
            (.seq
              (.op none (some 33) (.bld [(.string ⟨#[]⟩), (.int .i64 0), (.int .i64 0)] []) <|
              (.op none none (.stn 3 (.tmp 6) (.tmp 33)) <|
              .nil))
              .ret))))))⟩
theorem m_haspref11_Mem_StoreCap : toFn Tryd.prog 12 = some c_haspref11_Mem_StoreCap := by kernel_rfl
abbrev n_haspref11_Mem_StoreCap : FuncId := 12
/-- hasp/hasplaw2.Of -/
def c_hasplaw2_Of : MFn := ⟨16, 1, [.cn 2 6],
  (.seq
    (.op none (some 1) (.bx 39 true (.tmp 0)) <|
    (.op none (some 2) (.al 46 [(.bool false), (.int .u32 0), (.int .u32 0), (.int .u32 0), (.int .u16 0), (.int .u16 0)]) <|
    .nil))
    (.seq
      (.op none (some 3) (.fadr 0 (.tmp 1)) <|
      (.op none (some 4) (.ld1 (.tmp 3)) <|
      (.op none (some 5) (.fadr 1 (.tmp 1)) <|
      (.op none (some 6) (.ld1 (.tmp 5)) <|
      (.op none (some 7) (.fadr 2 (.tmp 1)) <|
      (.op none (some 8) (.ld1 (.tmp 7)) <|
      (.op none (some 9) (.fadr 3 (.tmp 1)) <|
      (.op none (some 10) (.ld1 (.tmp 9)) <|
      (.op none (some 11) (.fadr 4 (.tmp 1)) <|
      (.op none (some 12) (.ld1 (.tmp 11)) <|
      (.op none (some 13) (.fadr 5 (.tmp 1)) <|
      (.op none (some 14) (.ld1 (.tmp 13)) <|
      (.op none (some 15) (.bld [(.bool false), (.int .u32 0), (.int .u32 0), (.int .u32 0), (.int .u16 0), (.int .u16 0)] [(0, 1, (.tmp 4)), (1, 1, (.tmp 6)), (2, 1, (.tmp 8)), (3, 1, (.tmp 10)), (4, 1, (.tmp 12)), (5, 1, (.tmp 14))]) <|
      (.op none none (.stn 6 (.tmp 2) (.tmp 15)) <|
      .nil))))))))))))))
      .ret))⟩
theorem m_hasplaw2_Of : toFn Tryd.prog 13 = some c_hasplaw2_Of := by kernel_rfl
abbrev n_hasplaw2_Of : FuncId := 13
/-- (*hasp/mem.Mem).Load -/
def c_mem_Mem_Load : MFn := ⟨23, 3, [.tmp 6, .tmp 7],
  (.seq
    (.op none (some 6) (.mov (.const (.slice none 0 0))) <|
    (.op none (some 7) (.mov (.const .nilIface)) <|
    .nil))
    (.seq
      (.op none (some 11) (.mov (.tmp 0)) <|
      (.op none (some 12) (.mov (.tmp 1)) <|
      (.op none (some 13) (.mov (.tmp 2)) <|
      (.op none (some 14) (.call 39 [(.tmp 11), (.tmp 12), (.tmp 13)]) <|
      (.op none (some 10) (.mov (.tmp 14)) <|
      (.op none (some 15) (.ext (.tmp 10) 0) <|
      (.op none (some 16) (.ext (.tmp 10) 1) <|
      (.op none (some 8) (.mov (.tmp 15)) <|
      (.op none (some 9) (.mov (.tmp 16)) <|
      .nil)))))))))
      (.seq
        (.seq
          (.op none (some 17) (.mov (.tmp 9)) <|
          (.op none (some 18) (.ifnil true (.tmp 17)) <|
          .nil))
          (.cond (.tmp 18)
            (.seq
              (.op none (some 19) (.mov (.tmp 9)) <|
              (.op none (some 6) (.mov (.const (.slice none 0 0))) <|
              (.op none (some 7) (.mov (.tmp 19)) <|
              .nil)))
              .ret)
            .nil))
        (.seq
          (.op none (some 20) (.mov (.tmp 8)) <|
          (.op none (some 21) (.call 45 [(.tmp 20)]) <|
          (.op none (some 22) (.call 44 [(.tmp 21)]) <|
          (.op none (some 6) (.mov (.tmp 22)) <|
          (.op none (some 7) (.mov (.const .nilIface)) <|
          .nil)))))
          .ret))))⟩
theorem m_mem_Mem_Load : toFn Tryd.prog 14 = some c_mem_Mem_Load := by kernel_rfl
abbrev n_mem_Mem_Load : FuncId := 14
/-- (*hasp/haspref11.Mem).Load -/
def c_haspref11_Mem_Load : MFn := ⟨29, 3, [.tmp 6, .cn 7 3],
  (.seq
    (.op none (some 6) (.mov (.const (.slice none 0 0))) <|
    (.op none (some 7) (.al 31 [(.string ⟨#[]⟩), (.int .i64 0), (.int .i64 0)]) <|
    .nil))
    (.seq
      (.op none (some 9) (.mov (.tmp 0)) <|
      (.op none (some 10) (.mov (.tmp 1)) <|
      (.op none (some 11) (.mov (.tmp 2)) <|
      (.op none (some 12) (.call 40 [(.tmp 9), (.tmp 10), (.tmp 11)]) <|
      (.op none (some 8) (.al 31 [(.string ⟨#[]⟩), (.int .i64 0), (.int .i64 0)]) <|
      (.op none none (.stn 3 (.tmp 8) (.tmp 12)) <|
      .nil))))))
      (.seq
        (.seq
          (.op none (some 13) (.fadr 2 (.tmp 8)) <|
          (.op none (some 14) (.ld1 (.tmp 13)) <|
          (.op none (some 15) (.icmp .neq (.tmp 14) (.const (.int .i64 0))) <|
          .nil)))
          (.cond (.tmp 15)
            (.seq
              (.draw
                (.op none (some 16) (.ldn 3 (.tmp 8)) <|
                (.op none (some 6) (.mov (.const (.slice none 0 0))) <|
                (.op none none (.stn 3 (.tmp 7) (.tmp 16)) <|
                .nil))))
              .ret)
            .nil))
        (.seq
          (.op none (some 17) (.bldS 5 0 [] []) <|
          (.op none (some 18) (.mov (.tmp 0)) <|
          (.op none (some 19) (.nilchk (.tmp 18)) <|
          (.op none (some 20) (.fadr 0 (.tmp 19)) <|
          (.op none (some 21) (.ld1 (.tmp 20)) <|
          (.op none (some 22) (.mov (.tmp 1)) <|
          (.op none (some 23) (.mov (.tmp 1)) <|
          (.op none (some 24) (.mov (.tmp 2)) <|
          (.op none (some 25) (.iar .add (.tmp 23) (.tmp 24)) <|
          (.op none (some 26) (.slS 1 (.tmp 21) (some (.tmp 22)) (some (.tmp 25)) none) <|
          (.op none (some 27) (.bi .append [35, 35] 35 [(.tmp 17), (.tmp 26)]) <|
          (.op none (some 28) (.bld [(.string ⟨#[]⟩), (.int .i64 0), (.int .i64 0)] []) <|
          (.op none (some 6) (.mov (.tmp 27)) <|
          (.op none none (.stn 3 (.tmp 7) (.tmp 28)) <|
          .nil))))))))))))))
          .ret))))⟩
theorem m_haspref11_Mem_Load : toFn Tryd.prog 15 = some c_haspref11_Mem_Load := by kernel_rfl
abbrev n_haspref11_Mem_Load : FuncId := 15
/-- (*hasp/mem.Mem).LoadCap -/
def c_mem_Mem_LoadCap : MFn := ⟨30, 2, [.cn 4 6, .tmp 5],
  (.seq
    (.op none (some 4) (.al 39 [(.bool false), (.int .u32 0), (.int .u32 0), (.int .u32 0), (.int .u16 0), (.int .u16 0)]) <|
    (.op none (some 5) (.mov (.const .nilIface)) <|
    .nil))
    (.seq
      (.op none (some 9) (.mov (.tmp 0)) <|
      (.op none (some 10) (.mov (.tmp 1)) <|
      (.op none (some 11) (.call 41 [(.tmp 9), (.tmp 10)]) <|
      (.op none (some 8) (.mov (.tmp 11)) <|
      (.op none (some 12) (.ext (.tmp 8) 0) <|
      (.op none (some 13) (.ext (.tmp 8) 1) <|
      (.op none (some 6) (.mov (.tmp 12)) <|
      (.op none (some 7) (.mov (.tmp 13)) <|
      .nil))))))))
      (.seq
        (.seq
          (.op none (some 14) (.mov (.tmp 7)) <|
          (.op none (some 15) (.ifnil true (.tmp 14)) <|
          .nil))
          (.cond (.tmp 15)
            (.seq
              (.op none (some 16) (.bld [(.bool false), (.int .u32 0), (.int .u32 0), (.int .u32 0), (.int .u16 0), (.int .u16 0)] []) <|
              (.op none (some 17) (.mov (.tmp 7)) <|
              (.op none none (.stn 6 (.tmp 4) (.tmp 16)) <|
              (.op none (some 5) (.mov (.tmp 17)) <|
              .nil))))
              .ret)
            .nil))
        (.seq
          (.draw
            (.op none (some 18) (.mov (.tmp 6)) <|
            (.op none (some 19) (.arA 16 (.tmp 18)) <|
            (.op none (some 20) (.ldn 16 (.tmp 19)) <|
            (.op none (some 21) (.mov (.tmp 0)) <|
            (.op none (some 22) (.nilchk (.tmp 21)) <|
            (.op none (some 23) (.fadr 1 (.tmp 22)) <|
            (.op none (some 24) (.ld1 (.tmp 23)) <|
            (.op none (some 25) (.mov (.tmp 1)) <|
            (.op none (some 26) (.idivC .quo (.tmp 25) .i64 16) <|
            (.op none (some 27) (.idxS 1 (.tmp 24) (.tmp 26)) <|
            (.op none (some 28) (.ld1 (.tmp 27)) <|
            (.op none (some 29) (.call 46 [(.tmp 20), (.tmp 28)]) <|
            (.op none none (.stn 6 (.tmp 4) (.tmp 29)) <|
            (.op none (some 5) (.mov (.const .nilIface)) <|
            .nil)))))))))))))))
          .ret))))⟩
theorem m_mem_Mem_LoadCap : toFn Tryd.prog 16 = some c_mem_Mem_LoadCap := by kernel_rfl
abbrev n_mem_Mem_LoadCap : FuncId := 16
/-- (*hasp/haspref11.Mem).LoadCap -/
def c_haspref11_Mem_LoadCap : MFn := ⟨40, 2, [.cn 4 6, .cn 5 3],
  (.seq
    (.op none (some 4) (.al 46 [(.bool false), (.int .u32 0), (.int .u32 0), (.int .u32 0), (.int .u16 0), (.int .u16 0)]) <|
    (.op none (some 5) (.al 31 [(.string ⟨#[]⟩), (.int .i64 0), (.int .i64 0)]) <|
    .nil))
    (.seq
      (.op none (some 9) (.mov (.tmp 0)) <|
      (.op none (some 10) (.mov (.tmp 1)) <|
      (.op none (some 11) (.call 15 [(.tmp 9), (.tmp 10), (.const (.int .i64 16))]) <|
      (.op none (some 8) (.mov (.tmp 11)) <|
      (.op none (some 12) (.ext (.tmp 8) 0) <|
      (.op none (some 13) (.ext (.tmp 8) 1) <|
      (.op none (some 7) (.al 31 [(.string ⟨#[]⟩), (.int .i64 0), (.int .i64 0)]) <|
      (.op none (some 6) (.mov (.tmp 12)) <|
      (.op none none (.stn 3 (.tmp 7) (.tmp 13)) <|
      .nil)))))))))
      (.seq
        (.seq
          (.op none (some 14) (.fadr 2 (.tmp 7)) <|
          (.op none (some 15) (.ld1 (.tmp 14)) <|
          (.op none (some 16) (.icmp .eql (.tmp 15) (.const (.int .i64 0))) <|
          (.op none (some 17) (.mov (.tmp 16)) <|
          (.op (some (17, true)) (some 18) (.mov (.tmp 1)) <|
          (.op (some (17, true)) (some 19) (.idivC .rem (.tmp 18) .i64 16) <|
          (.op (some (17, true)) (some 20) (.icmp .neq (.tmp 19) (.const (.int .i64 0))) <|
          (.op none (some 21) (.pick (.tmp 17) (.tmp 20) (.const (.bool false))) <|
          .nil))))))))
          (.cond (.tmp 21)
            (.op none (some 22) (.mov (.tmp 1)) <|
            (.op none (some 23) (.bld [(.string ⟨#[]⟩), (.int .i64 0), (.int .i64 0)] [(0, 1, (.const (.string ⟨#[109, 101, 109]⟩))), (1, 1, (.tmp 22)), (2, 1, (.const (.int .i64 5)))]) <|
            (.op none none (.stn 3 (.tmp 7) (.tmp 23)) <|
            .nil)))
            .nil))
        (.seq
          (.seq
            (.op none (some 24) (.fadr 2 (.tmp 7)) <|
            (.op none (some 25) (.ld1 (.tmp 24)) <|
            (.op none (some 26) (.icmp .neq (.tmp 25) (.const (.int .i64 0))) <|
            .nil)))
            (.cond (.tmp 26)
              (.seq
                (.draw
                  (.op none (some 27) (.bld [(.bool false), (.int .u32 0), (.int .u32 0), (.int .u32 0), (.int .u16 0), (.int .u16 0)] []) <|
                  (.op none (some 28) (.ldn 3 (.tmp 7)) <|
                  (.op none none (.stn 6 (.tmp 4) (.tmp 27)) <|
                  (.op none none (.stn 3 (.tmp 5) (.tmp 28)) <|
                  .nil)))))
                .ret)
              .nil))
          (.seq
            (.op none (some 29) (.mov (.tmp 6)) <|
            (.op none (some 30) (.mov (.tmp 0)) <|
            (.op none (some 31) (.nilchk (.tmp 30)) <|
            (.op none (some 32) (.fadr 1 (.tmp 31)) <|
            (.op none (some 33) (.ld1 (.tmp 32)) <|
            (.op none (some 34) (.mov (.tmp 1)) <|
            (.op none (some 35) (.idivC .quo (.tmp 34) .i64 16) <|
            (.op none (some 36) (.idxS 1 (.tmp 33) (.tmp 35)) <|
            (.op none (some 37) (.ld1 (.tmp 36)) <|
            (.op none (some 38) (.call 47 [(.tmp 29), (.tmp 37)]) <|
            (.op none (some 39) (.bld [(.string ⟨#[]⟩), (.int .i64 0), (.int .i64 0)] []) <|
            (.op none none (.stn 6 (.tmp 4) (.tmp 38)) <|
            (.op none none (.stn 3 (.tmp 5) (.tmp 39)) <|
            .nil)))))))))))))
            .ret)))))⟩
theorem m_haspref11_Mem_LoadCap : toFn Tryd.prog 17 = some c_haspref11_Mem_LoadCap := by kernel_rfl
abbrev n_haspref11_Mem_LoadCap : FuncId := 17
/-- (*hasp/mem.Mem).Zero -/
def c_mem_Mem_Zero : MFn := ⟨24, 3, [.tmp 6],
  (.seq
    (.op none (some 6) (.mov (.const .nilIface)) <|
    .nil)
    (.seq
      (.op none (some 10) (.mov (.tmp 0)) <|
      (.op none (some 11) (.mov (.tmp 1)) <|
      (.op none (some 12) (.mov (.tmp 2)) <|
      (.op none (some 13) (.call 14 [(.tmp 10), (.tmp 11), (.tmp 12)]) <|
      (.op none (some 9) (.mov (.tmp 13)) <|
      (.op none (some 14) (.ext (.tmp 9) 0) <|
      (.op none (some 15) (.ext (.tmp 9) 1) <|
      (.op none (some 7) (.mov (.tmp 14)) <|
      (.op none (some 8) (.mov (.tmp 15)) <|
      .nil)))))))))
      (.seq
        (.seq
          (.op none (some 16) (.mov (.tmp 8)) <|
          (.op none (some 17) (.ifnil true (.tmp 16)) <|
          .nil))
          (.cond (.tmp 17)
            (.seq
              (.op none (some 18) (.mov (.tmp 8)) <|
              (.op none (some 6) (.mov (.tmp 18)) <|
              .nil))
              .ret)
            .nil))
        (.seq
          (.op none (some 19) (.mov (.tmp 7)) <|
          (.op none none (.bi .clear [35] 0 [(.tmp 19)]) <|
          .nil))
          (.seq
            (.op none (some 20) (.mov (.tmp 0)) <|
            (.op none (some 21) (.mov (.tmp 1)) <|
            (.op none (some 22) (.mov (.tmp 7)) <|
            (.op none (some 23) (.call 9 [(.tmp 20), (.tmp 21), (.tmp 22)]) <|
            (.op none (some 6) (.mov (.tmp 23)) <|
            .nil)))))
            .ret)))))⟩
theorem m_mem_Mem_Zero : toFn Tryd.prog 18 = some c_mem_Mem_Zero := by kernel_rfl
abbrev n_mem_Mem_Zero : FuncId := 18
/-- (*hasp/mem.Mem).Twin -/
def c_mem_Mem_Twin : MFn := ⟨15, 1, [.tmp 2],
  (.seq
    (.op none (some 2) (.mov (.const (.pointer none))) <|
    .nil)
    (.seq
      (.draw
        (.op none (some 3) (.mov (.tmp 0)) <|
        (.op none (some 4) (.nilchk (.tmp 3)) <|
        (.op none (some 5) (.fadr 0 (.tmp 4)) <|
        (.op none (some 6) (.ld1 (.tmp 5)) <|
        (.op none (some 8) (.mov (.tmp 0)) <|
        (.op none (some 9) (.nilchk (.tmp 8)) <|
        (.op none (some 10) (.fadr 1 (.tmp 9)) <|
        (.op none (some 11) (.ld1 (.tmp 10)) <|
        (.op none (some 7) (.call 45 [(.tmp 6)]) <|
        (.op none (some 12) (.call 48 [(.tmp 11)]) <|
        (.op none (some 13) (.bld [(.slice none 0 0), (.slice none 0 0)] [(0, 1, (.tmp 7)), (1, 1, (.tmp 12))]) <|
        (.op none (some 14) (.bx 85 true (.tmp 13)) <|
        (.op none (some 2) (.mov (.tmp 14)) <|
        .nil))))))))))))))
      .ret))⟩
theorem m_mem_Mem_Twin : toFn Tryd.prog 19 = some c_mem_Mem_Twin := by kernel_rfl
abbrev n_mem_Mem_Twin : FuncId := 19
/-- (*hasp/mem.Mem).Same -/
def c_mem_Mem_Same : MFn := ⟨25, 2, [.tmp 4],
  (.seq
    (.op none (some 4) (.mov (.const (.bool false))) <|
    .nil)
    (.seq
      (.draw
        (.op none (some 5) (.mov (.tmp 0)) <|
        (.op none (some 6) (.nilchk (.tmp 5)) <|
        (.op none (some 7) (.fadr 0 (.tmp 6)) <|
        (.op none (some 8) (.ld1 (.tmp 7)) <|
        (.op none (some 9) (.mov (.tmp 1)) <|
        (.op none (some 10) (.nilchk (.tmp 9)) <|
        (.op none (some 11) (.fadr 0 (.tmp 10)) <|
        (.op none (some 12) (.ld1 (.tmp 11)) <|
        (.op none (some 13) (.call 49 [(.tmp 8), (.tmp 12)]) <|
        (.op none (some 14) (.mov (.tmp 13)) <|
        (.op (some (14, true)) (some 15) (.mov (.tmp 0)) <|
        (.op (some (14, true)) (some 16) (.nilchk (.tmp 15)) <|
        (.op (some (14, true)) (some 17) (.fadr 1 (.tmp 16)) <|
        (.op (some (14, true)) (some 18) (.ld1 (.tmp 17)) <|
        (.op (some (14, true)) (some 19) (.mov (.tmp 1)) <|
        (.op (some (14, true)) (some 20) (.nilchk (.tmp 19)) <|
        (.op (some (14, true)) (some 21) (.fadr 1 (.tmp 20)) <|
        (.op (some (14, true)) (some 22) (.ld1 (.tmp 21)) <|
        (.op (some (14, true)) (some 23) (.call 50 [(.tmp 18), (.tmp 22)]) <|
        (.op none (some 24) (.pick (.tmp 14) (.tmp 23) (.const (.bool false))) <|
        (.op none (some 4) (.mov (.tmp 24)) <|
        .nil))))))))))))))))))))))
      .ret))⟩
theorem m_mem_Mem_Same : toFn Tryd.prog 20 = some c_mem_Mem_Same := by kernel_rfl
abbrev n_mem_Mem_Same : FuncId := 20
/-- (*hasp/mem.Mem).Tag -/
def c_mem_Mem_Tag : MFn := ⟨26, 2, [.tmp 4],
  (.seq
    (.op none (some 4) (.mov (.const (.bool false))) <|
    .nil)
    (.seq
      (.op none (some 5) (.mov (.tmp 1)) <|
      (.op none (some 6) (.icmp .geq (.tmp 5) (.const (.int .i64 0))) <|
      (.op none (some 7) (.mov (.tmp 6)) <|
      (.op (some (7, true)) (some 8) (.mov (.tmp 1)) <|
      (.op (some (7, true)) (some 9) (.mov (.tmp 0)) <|
      (.op (some (7, true)) (some 10) (.nilchk (.tmp 9)) <|
      (.op (some (7, true)) (some 11) (.fadr 0 (.tmp 10)) <|
      (.op (some (7, true)) (some 12) (.ld1 (.tmp 11)) <|
      (.op (some (7, true)) (some 13) (.lenS (.tmp 12)) <|
      (.op (some (7, true)) (some 14) (.icmp .lss (.tmp 8) (.tmp 13)) <|
      (.op none (some 15) (.pick (.tmp 7) (.tmp 14) (.const (.bool false))) <|
      (.op none (some 16) (.mov (.tmp 15)) <|
      (.op (some (16, true)) (some 17) (.mov (.tmp 0)) <|
      (.op (some (16, true)) (some 18) (.nilchk (.tmp 17)) <|
      (.op (some (16, true)) (some 19) (.fadr 1 (.tmp 18)) <|
      (.op (some (16, true)) (some 20) (.ld1 (.tmp 19)) <|
      (.op (some (16, true)) (some 21) (.mov (.tmp 1)) <|
      (.op (some (16, true)) (some 22) (.idivC .quo (.tmp 21) .i64 16) <|
      (.op (some (16, true)) (some 23) (.idxS 1 (.tmp 20) (.tmp 22)) <|
      (.op (some (16, true)) (some 24) (.ld1 (.tmp 23)) <|
      (.op none (some 25) (.pick (.tmp 16) (.tmp 24) (.const (.bool false))) <|
      (.op none (some 4) (.mov (.tmp 25)) <|
      .nil))))))))))))))))))))))
      .ret))⟩
theorem m_mem_Mem_Tag : toFn Tryd.prog 21 = some c_mem_Mem_Tag := by kernel_rfl
abbrev n_mem_Mem_Tag : FuncId := 21
/-- hasp/hasplaw4.Same -/
def c_hasplaw4_Same : MFn := ⟨70, 2, [.tmp 4],
  (.seq
    (.op none (some 4) (.mov (.const (.bool false))) <|
    .nil)
    (.seq
      (.seq
        (.draw
          (.op none (some 10) (.mov (.tmp 0)) <|
          (.op none (some 11) (.ptnil false (.tmp 10)) <|
          (.op none (some 12) (.mov (.tmp 11)) <|
          (.op (some (12, false)) (some 13) (.mov (.tmp 0)) <|
          (.op (some (12, false)) (some 15) (.mov (.tmp 1)) <|
          (.op (some (12, false)) (some 16) (.nilchk (.tmp 15)) <|
          (.op (some (12, false)) (some 17) (.fadr 0 (.tmp 16)) <|
          (.op (some (12, false)) (some 18) (.ld1 (.tmp 17)) <|
          (.op (some (12, false)) (some 19) (.lenS (.tmp 18)) <|
          (.op (some (12, false)) (some 14) (.call 35 [(.tmp 13)]) <|
          (.op (some (12, false)) (some 20) (.icmp .neq (.tmp 14) (.tmp 19)) <|
          (.op none (some 21) (.pick (.tmp 12) (.const (.bool true)) (.tmp 20)) <|
          .nil)))))))))))))
        (.cond (.tmp 21)
          (.seq
            (.op none (some 4) (.mov (.const (.bool false))) <|
            .nil)
            .ret)
          .nil))
      (.seq
        (.op none (some 23) (.mov (.tmp 0)) <|
        (.op none (some 24) (.mov (.tmp 1)) <|
        (.op none (some 25) (.nilchk (.tmp 24)) <|
        (.op none (some 26) (.fadr 0 (.tmp 25)) <|
        (.op none (some 27) (.ld1 (.tmp 26)) <|
        (.op none (some 28) (.lenS (.tmp 27)) <|
        (.op none (some 29) (.call 14 [(.tmp 23), (.const (.int .i64 0)), (.tmp 28)]) <|
        (.op none (some 22) (.mov (.tmp 29)) <|
        (.op none (some 30) (.ext (.tmp 22) 0) <|
        (.op none (some 31) (.ext (.tmp 22) 1) <|
        (.op none (some 5) (.mov (.tmp 30)) <|
        (.op none (some 6) (.mov (.tmp 31)) <|
        .nil))))))))))))
        (.seq
          (.op none (some 32) (.mov (.tmp 0)) <|
          (.op none (some 33) (.call 34 [(.tmp 32)]) <|
          (.op none (some 7) (.mov (.tmp 33)) <|
          .nil)))
          (.seq
            (.op none (some 34) (.mov (.tmp 1)) <|
            (.op none (some 35) (.call 51 [(.tmp 34)]) <|
            (.op none (some 8) (.mov (.tmp 35)) <|
            .nil)))
            (.seq
              (.seq
                (.draw
                  (.op none (some 36) (.mov (.tmp 6)) <|
                  (.op none (some 37) (.ifnil true (.tmp 36)) <|
                  (.op none (some 38) (.mov (.tmp 37)) <|
                  (.op (some (38, false)) (some 39) (.mov (.tmp 5)) <|
                  (.op (some (38, false)) (some 41) (.mov (.tmp 1)) <|
                  (.op (some (38, false)) (some 42) (.nilchk (.tmp 41)) <|
                  (.op (some (38, false)) (some 43) (.fadr 0 (.tmp 42)) <|
                  (.op (some (38, false)) (some 44) (.ld1 (.tmp 43)) <|
                  (.both
                    (.op (some (38, false)) (some 40) (.cvBS (.tmp 39)) <|
                    (.op (some (38, false)) (some 45) (.cvBS (.tmp 44)) <|
                    (.op (some (38, false)) (some 46) (.scmp .neq (.tmp 40) (.tmp 45)) <|
                    (.op none (some 47) (.pick (.tmp 38) (.const (.bool true)) (.tmp 46)) <|
                    (.op none (some 48) (.mov (.tmp 47)) <|
                    (.op (some (48, false)) (some 49) (.mov (.tmp 7)) <|
                    (.op (some (48, false)) (some 50) (.lenS (.tmp 49)) <|
                    (.op (some (48, false)) (some 51) (.mov (.tmp 8)) <|
                    (.op (some (48, false)) (some 52) (.lenS (.tmp 51)) <|
                    (.op (some (48, false)) (some 53) (.icmp .neq (.tmp 50) (.tmp 52)) <|
                    (.op none (some 54) (.pick (.tmp 48) (.const (.bool true)) (.tmp 53)) <|
                    .nil)))))))))))
                    (.op (some (38, false)) (some 45) (.cvBS (.tmp 44)) <|
                    (.op (some (38, false)) (some 40) (.cvBS (.tmp 39)) <|
                    (.op (some (38, false)) (some 46) (.scmp .neq (.tmp 40) (.tmp 45)) <|
                    (.op none (some 47) (.pick (.tmp 38) (.const (.bool true)) (.tmp 46)) <|
                    (.op none (some 48) (.mov (.tmp 47)) <|
                    (.op (some (48, false)) (some 49) (.mov (.tmp 7)) <|
                    (.op (some (48, false)) (some 50) (.lenS (.tmp 49)) <|
                    (.op (some (48, false)) (some 51) (.mov (.tmp 8)) <|
                    (.op (some (48, false)) (some 52) (.lenS (.tmp 51)) <|
                    (.op (some (48, false)) (some 53) (.icmp .neq (.tmp 50) (.tmp 52)) <|
                    (.op none (some 54) (.pick (.tmp 48) (.const (.bool true)) (.tmp 53)) <|
                    .nil)))))))))))))))))))))
                (.cond (.tmp 54)
                  (.seq
                    (.op none (some 4) (.mov (.const (.bool false))) <|
                    .nil)
                    .ret)
                  .nil))
              (.seq
                (.seq
                  (.op none (some 9) (.mov (.const (.int .i64 0))) <|
                  .nil)
                  (.block 0
                    (.loop
                      (.seq
                        (.seq
                          (.op none (some 55) (.mov (.tmp 9)) <|
                          (.op none (some 56) (.mov (.tmp 7)) <|
                          (.op none (some 57) (.lenS (.tmp 56)) <|
                          (.op none (some 58) (.icmp .lss (.tmp 55) (.tmp 57)) <|
                          .nil))))
                          (.cond (.tmp 58)
                            .nil
                            (.exit 0)))
                        (.seq
                          (.block 1
                            (.seq
                              (.draw
                                (.op none (some 61) (.mov (.tmp 7)) <|
                                (.op none (some 62) (.mov (.tmp 9)) <|
                                (.op none (some 63) (.idxS 1 (.tmp 61) (.tmp 62)) <|
                                (.op none (some 64) (.ld1 (.tmp 63)) <|
                                (.op none (some 65) (.mov (.tmp 8)) <|
                                (.op none (some 66) (.mov (.tmp 9)) <|
                                (.op none (some 67) (.idxS 1 (.tmp 65) (.tmp 66)) <|
                                (.op none (some 68) (.ld1 (.tmp 67)) <|
                                (.op none (some 69) (.icmp .neq (.tmp 64) (.tmp 68)) <|
                                .nil))))))))))
                              (.cond (.tmp 69)
                                (.seq
                                  (.op none (some 4) (.mov (.const (.bool false))) <|
                                  .nil)
                                  .ret)
                                .nil)))
                          (.op none (some 59) (.mov (.tmp 9)) <|
                          (.op none (some 60) (.iar .add (.tmp 59) (.const (.int .i64 1))) <|
                          (.op none (some 9) (.mov (.tmp 60)) <|
                          .nil))))))))
                (.seq
                  (.op none (some 4) (.mov (.const (.bool true))) <|
                  .nil)
                  .ret))))))))⟩
theorem m_hasplaw4_Same : toFn Tryd.prog 22 = some c_hasplaw4_Same := by kernel_rfl
abbrev n_hasplaw4_Same : FuncId := 22
/-- hasp/hasplaw5.known -/
def c_hasplaw5_known : MFn := ⟨111, 0, [.tmp 0],
  (.seq
    (.op none (some 0) (.mov (.const (.bool false))) <|
    .nil)
    (.seq
      (.op none (some 16) (.call 6 [(.const (.int .i64 64))]) <|
      (.op none (some 15) (.mov (.tmp 16)) <|
      (.op none (some 17) (.ext (.tmp 15) 0) <|
      (.op none (some 18) (.ext (.tmp 15) 1) <|
      (.op none (some 1) (.mov (.tmp 17)) <|
      (.op none (some 2) (.mov (.tmp 18)) <|
      .nil))))))
      (.seq
        (.seq
          (.op none (some 19) (.mov (.tmp 2)) <|
          (.op none (some 20) (.ifnil true (.tmp 19)) <|
          (.op none (some 21) (.mov (.tmp 20)) <|
          (.op (some (21, false)) (some 22) (.mov (.tmp 1)) <|
          (.op (some (21, false)) (some 23) (.ptnil false (.tmp 22)) <|
          (.op none (some 24) (.pick (.tmp 21) (.const (.bool true)) (.tmp 23)) <|
          .nil))))))
          (.cond (.tmp 24)
            (.seq
              (.op none (some 0) (.mov (.const (.bool false))) <|
              .nil)
              .ret)
            .nil))
        (.seq
          (.op none (some 25) (.call 33 [(.const (.int .u32 64))]) <|
          (.op none (some 26) (.call 53 [(.tmp 25), (.const (.int .u32 16))]) <|
          (.op none (some 27) (.call 52 [(.tmp 26), (.const (.int .u32 16))]) <|
          (.op none (some 3) (.al 39 [(.bool false), (.int .u32 0), (.int .u32 0), (.int .u32 0), (.int .u16 0), (.int .u16 0)]) <|
          (.op none none (.stn 6 (.tmp 3) (.tmp 27)) <|
          .nil)))))
          (.seq
            (.op none (some 28) (.mov (.tmp 1)) <|
            (.op none (some 29) (.ldn 6 (.tmp 3)) <|
            (.op none (some 30) (.call 29 [(.tmp 28), (.tmp 29), (.const (.int .i32 4)), (.const (.int .i64 2)), (.const (.int .u32 65534))]) <|
            (.op none (some 4) (.mov (.tmp 30)) <|
            .nil))))
            (.seq
              (.op none (some 32) (.mov (.tmp 1)) <|
              (.op none (some 33) (.ldn 6 (.tmp 3)) <|
              (.op none (some 34) (.call 25 [(.tmp 32), (.tmp 33), (.const (.int .i32 4)), (.const (.int .i64 2)), (.const (.bool true))]) <|
              (.op none (some 31) (.mov (.tmp 34)) <|
              (.op none (some 35) (.ext (.tmp 31) 0) <|
              (.op none (some 36) (.ext (.tmp 31) 1) <|
              (.op none (some 5) (.mov (.tmp 35)) <|
              (.op none (some 6) (.mov (.tmp 36)) <|
              .nil))))))))
              (.seq
                (.op none (some 38) (.mov (.tmp 1)) <|
                (.op none (some 39) (.ldn 6 (.tmp 3)) <|
                (.op none (some 40) (.call 25 [(.tmp 38), (.tmp 39), (.const (.int .i32 16)), (.const (.int .i64 1)), (.const (.bool false))]) <|
                (.op none (some 37) (.mov (.tmp 40)) <|
                (.op none (some 41) (.ext (.tmp 37) 0) <|
                (.op none (some 42) (.ext (.tmp 37) 1) <|
                (.op none (some 7) (.mov (.tmp 41)) <|
                (.op none (some 8) (.mov (.tmp 42)) <|
                .nil))))))))
                (.seq
                  (.op none (some 43) (.mov (.tmp 1)) <|
                  (.op none (some 44) (.ldn 6 (.tmp 3)) <|
                  (.op none (some 45) (.call 54 [(.tmp 44), (.const (.int .u16 1))]) <|
                  (.op none (some 46) (.call 29 [(.tmp 43), (.tmp 45), (.const (.int .i32 0)), (.const (.int .i64 1)), (.const (.int .u32 0))]) <|
                  (.op none (some 9) (.mov (.tmp 46)) <|
                  .nil)))))
                  (.seq
                    (.op none (some 47) (.mov (.tmp 1)) <|
                    (.op none (some 48) (.ldn 6 (.tmp 3)) <|
                    (.op none (some 49) (.ldn 6 (.tmp 3)) <|
                    (.op none (some 50) (.call 31 [(.tmp 47), (.tmp 48), (.const (.int .i32 0)), (.tmp 49)]) <|
                    (.op none (some 10) (.mov (.tmp 50)) <|
                    .nil)))))
                    (.seq
                      (.op none (some 52) (.mov (.tmp 1)) <|
                      (.op none (some 53) (.ldn 6 (.tmp 3)) <|
                      (.op none (some 54) (.call 27 [(.tmp 52), (.tmp 53), (.const (.int .i32 0))]) <|
                      (.op none (some 51) (.mov (.tmp 54)) <|
                      (.op none (some 55) (.ext (.tmp 51) 0) <|
                      (.op none (some 56) (.ext (.tmp 51) 1) <|
                      (.op none (some 11) (.al 39 [(.bool false), (.int .u32 0), (.int .u32 0), (.int .u32 0), (.int .u16 0), (.int .u16 0)]) <|
                      (.op none none (.stn 6 (.tmp 11) (.tmp 55)) <|
                      (.op none (some 12) (.mov (.tmp 56)) <|
                      .nil)))))))))
                      (.seq
                        (.op none (some 58) (.mov (.tmp 1)) <|
                        (.op none (some 59) (.ldn 6 (.tmp 3)) <|
                        (.op none (some 60) (.call 54 [(.tmp 59), (.const (.int .u16 1))]) <|
                        (.op none (some 61) (.call 27 [(.tmp 58), (.tmp 60), (.const (.int .i32 0))]) <|
                        (.op none (some 57) (.mov (.tmp 61)) <|
                        (.op none (some 62) (.ext (.tmp 57) 0) <|
                        (.op none (some 63) (.ext (.tmp 57) 1) <|
                        (.op none (some 13) (.al 39 [(.bool false), (.int .u32 0), (.int .u32 0), (.int .u32 0), (.int .u16 0), (.int .u16 0)]) <|
                        (.op none none (.stn 6 (.tmp 13) (.tmp 62)) <|
                        (.op none (some 14) (.mov (.tmp 63)) <|
                        .nil))))))))))
                        (.seq
                          (.op none (some 64) (.mov (.tmp 4)) <|
                          (.op none (some 65) (.ifnil false (.tmp 64)) <|
                          (.op none (some 66) (.mov (.tmp 65)) <|
                          (.op (some (66, true)) (some 67) (.mov (.tmp 6)) <|
                          (.op (some (66, true)) (some 68) (.ifnil false (.tmp 67)) <|
                          (.op none (some 69) (.pick (.tmp 66) (.tmp 68) (.const (.bool false))) <|
                          (.op none (some 70) (.mov (.tmp 69)) <|
                          (.op (some (70, true)) (some 71) (.mov (.tmp 5)) <|
                          (.op (some (70, true)) (some 72) (.icmp .eql (.tmp 71) (.const (.int .u32 4294967294))) <|
                          (.op none (some 73) (.pick (.tmp 70) (.tmp 72) (.const (.bool false))) <|
                          (.op none (some 74) (.mov (.tmp 73)) <|
                          (.op (some (74, true)) (some 75) (.mov (.tmp 8)) <|
                          (.op (some (74, true)) (some 76) (.bld [(.string ⟨#[]⟩), (.int .i64 0), (.int .i64 0)] [(0, 1, (.const (.string ⟨#[97, 99, 99, 101, 115, 115]⟩))), (1, 1, (.const (.int .i64 32))), (2, 1, (.const (.int .i64 4)))]) <|
                          (.op (some (74, true)) (some 77) (.call 8 [(.tmp 75), (.tmp 76)]) <|
                          (.op none (some 78) (.pick (.tmp 74) (.tmp 77) (.const (.bool false))) <|
                          (.op none (some 79) (.mov (.tmp 78)) <|
                          (.op (some (79, true)) (some 80) (.mov (.tmp 9)) <|
                          (.op (some (79, true)) (some 81) (.bld [(.string ⟨#[]⟩), (.int .i64 0), (.int .i64 0)] [(0, 1, (.const (.string ⟨#[97, 99, 99, 101, 115, 115]⟩))), (1, 1, (.const (.int .i64 16))), (2, 1, (.const (.int .i64 3)))]) <|
                          (.op (some (79, true)) (some 82) (.call 8 [(.tmp 80), (.tmp 81)]) <|
                          (.op none (some 83) (.pick (.tmp 79) (.tmp 82) (.const (.bool false))) <|
                          (.op none (some 84) (.mov (.tmp 83)) <|
                          (.op (some (84, true)) (some 85) (.mov (.tmp 10)) <|
                          (.op (some (84, true)) (some 86) (.ifnil false (.tmp 85)) <|
                          (.op none (some 87) (.pick (.tmp 84) (.tmp 86) (.const (.bool false))) <|
                          (.op none (some 88) (.mov (.tmp 87)) <|
                          (.op (some (88, true)) (some 89) (.mov (.tmp 12)) <|
                          (.op (some (88, true)) (some 90) (.ifnil false (.tmp 89)) <|
                          (.op none (some 91) (.pick (.tmp 88) (.tmp 90) (.const (.bool false))) <|
                          (.op none (some 92) (.mov (.tmp 91)) <|
                          (.op (some (92, true)) (some 93) (.ldn 6 (.tmp 11)) <|
                          (.op (some (92, true)) (some 94) (.ldn 6 (.tmp 3)) <|
                          (.op (some (92, true)) (some 95) (.aeq false [.bool, .int, .int, .int, .int, .int] (.tmp 93) (.tmp 94)) <|
                          (.op none (some 96) (.pick (.tmp 92) (.tmp 95) (.const (.bool false))) <|
                          (.op none (some 97) (.mov (.tmp 96)) <|
                          (.op (some (97, true)) (some 98) (.mov (.tmp 14)) <|
                          (.op (some (97, true)) (some 99) (.ifnil false (.tmp 98)) <|
                          (.op none (some 100) (.pick (.tmp 97) (.tmp 99) (.const (.bool false))) <|
                          (.op none (some 101) (.mov (.tmp 100)) <|
                          (.op (some (101, true)) (some 102) (.fadr 0 (.tmp 13)) <|
                          (.op (some (101, true)) (some 103) (.ld1 (.tmp 102)) <|
                          (.op (some (101, true)) (some 104) (.bnot (.tmp 103)) <|
                          (.op none (some 105) (.pick (.tmp 101) (.tmp 104) (.const (.bool false))) <|
                          (.op none (some 106) (.mov (.tmp 105)) <|
                          (.op (some (106, true)) (some 107) (.ldn 6 (.tmp 3)) <|
                          (.op (some (106, true)) (some 108) (.call 55 [(.tmp 107), (.const (.int .u32 16)), (.const (.int .u32 16)), (.const (.int .u16 1))]) <|
                          (.op (some (106, true)) (some 109) (.ifnil false (.tmp 108)) <|
                          (.op none (some 110) (.pick (.tmp 106) (.tmp 109) (.const (.bool false))) <|
                          (.op none (some 0) (.mov (.tmp 110)) <|
                          .nil))))))))))))))))))))))))))))))))))))))))))))))))
                          .ret))))))))))))⟩
theorem m_hasplaw5_known : toFn Tryd.prog 23 = some c_hasplaw5_known := by kernel_rfl
abbrev n_hasplaw5_known : FuncId := 23
/-- hasp/hasplaw5.filled -/
def c_hasplaw5_filled : MFn := ⟨55, 2, [.tmp 4, .tmp 5, .tmp 6],
  (.seq
    (.op none (some 3) (.bx 39 true (.tmp 1)) <|
    (.op none (some 4) (.mov (.const (.pointer none))) <|
    (.op none (some 5) (.mov (.const (.pointer none))) <|
    (.op none (some 6) (.mov (.const (.bool false))) <|
    .nil))))
    (.seq
      (.op none (some 13) (.call 6 [(.const (.int .i64 128))]) <|
      (.op none (some 12) (.mov (.tmp 13)) <|
      (.op none (some 14) (.ext (.tmp 12) 0) <|
      (.op none (some 15) (.ext (.tmp 12) 1) <|
      (.op none (some 7) (.mov (.tmp 14)) <|
      (.op none (some 8) (.mov (.tmp 15)) <|
      .nil))))))
      (.seq
        (.op none (some 17) (.call 7 [(.const (.int .i64 128))]) <|
        (.op none (some 16) (.mov (.tmp 17)) <|
        (.op none (some 18) (.ext (.tmp 16) 0) <|
        (.op none (some 19) (.ext (.tmp 16) 1) <|
        (.op none (some 10) (.al 31 [(.string ⟨#[]⟩), (.int .i64 0), (.int .i64 0)]) <|
        (.op none (some 9) (.mov (.tmp 18)) <|
        (.op none none (.stn 3 (.tmp 10) (.tmp 19)) <|
        .nil)))))))
        (.seq
          (.seq
            (.op none (some 20) (.mov (.tmp 8)) <|
            (.op none (some 21) (.ifnil true (.tmp 20)) <|
            (.op none (some 22) (.mov (.tmp 21)) <|
            (.op (some (22, false)) (some 23) (.mov (.tmp 7)) <|
            (.op (some (22, false)) (some 24) (.ptnil false (.tmp 23)) <|
            (.op none (some 25) (.pick (.tmp 22) (.const (.bool true)) (.tmp 24)) <|
            .nil))))))
            (.cond (.tmp 25)
              (.seq
                (.op none (some 4) (.mov (.const (.pointer none))) <|
                (.op none (some 5) (.mov (.const (.pointer none))) <|
                (.op none (some 6) (.mov (.const (.bool false))) <|
                .nil)))
                .ret)
              .nil))
          (.seq
            (.op none (some 26) (.mov (.tmp 7)) <|
            (.op none (some 27) (.mov (.tmp 0)) <|
            (.op none (some 28) (.call 9 [(.tmp 26), (.const (.int .i64 0)), (.tmp 27)]) <|
            (.op none (some 29) (.ifnil false (.tmp 28)) <|
            (.op none (some 30) (.mov (.tmp 29)) <|
            (.op (some (30, true)) (some 31) (.mov (.tmp 7)) <|
            (.op (some (30, true)) (some 32) (.ldn 6 (.tmp 3)) <|
            (.op (some (30, true)) (some 33) (.call 11 [(.tmp 31), (.const (.int .i64 64)), (.tmp 32)]) <|
            (.op (some (30, true)) (some 34) (.ifnil false (.tmp 33)) <|
            (.op none (some 35) (.pick (.tmp 30) (.tmp 34) (.const (.bool false))) <|
            (.op none (some 36) (.mov (.tmp 35)) <|
            (.op (some (36, true)) (some 37) (.mov (.tmp 7)) <|
            (.op (some (36, true)) (some 38) (.call 33 [(.const (.int .u32 128))]) <|
            (.op (some (36, true)) (some 39) (.call 11 [(.tmp 37), (.const (.int .i64 96)), (.tmp 38)]) <|
            (.op (some (36, true)) (some 40) (.ifnil false (.tmp 39)) <|
            (.op none (some 41) (.pick (.tmp 36) (.tmp 40) (.const (.bool false))) <|
            (.op none (some 11) (.mov (.tmp 41)) <|
            .nil)))))))))))))))))
            (.seq
              (.op none (some 42) (.mov (.tmp 9)) <|
              (.op none (some 43) (.mov (.tmp 0)) <|
              (.op none (some 44) (.call 10 [(.tmp 42), (.const (.int .i64 0)), (.tmp 43)]) <|
              .nil)))
              (.seq
                (.op none (some 45) (.mov (.tmp 9)) <|
                (.op none (some 46) (.ldn 6 (.tmp 3)) <|
                (.op none (some 47) (.call 13 [(.tmp 46)]) <|
                (.op none (some 48) (.call 12 [(.tmp 45), (.const (.int .i64 64)), (.tmp 47)]) <|
                .nil))))
                (.seq
                  (.op none (some 49) (.mov (.tmp 9)) <|
                  (.op none (some 50) (.call 56 [(.const (.int .u32 128))]) <|
                  (.op none (some 51) (.call 12 [(.tmp 49), (.const (.int .i64 96)), (.tmp 50)]) <|
                  .nil)))
                  (.seq
                    (.op none (some 52) (.mov (.tmp 7)) <|
                    (.op none (some 53) (.mov (.tmp 9)) <|
                    (.op none (some 54) (.mov (.tmp 11)) <|
                    (.op none (some 4) (.mov (.tmp 52)) <|
                    (.op none (some 5) (.mov (.tmp 53)) <|
                    (.op none (some 6) (.mov (.tmp 54)) <|
                    .nil))))))
                    .ret)))))))))⟩
theorem m_hasplaw5_filled : toFn Tryd.prog 24 = some c_hasplaw5_filled := by kernel_rfl
abbrev n_hasplaw5_filled : FuncId := 24
/-- hasp/access.Load -/
def c_access_Load : MFn := ⟨64, 5, [.tmp 10, .tmp 11],
  (.seq
    (.op none (some 6) (.bx 39 true (.tmp 1)) <|
    (.op none (some 10) (.mov (.const (.int .u32 0))) <|
    (.op none (some 11) (.mov (.const .nilIface)) <|
    .nil)))
    (.seq
      (.seq
        (.op none (some 18) (.mov (.tmp 3)) <|
        (.op none (some 19) (.call 57 [(.tmp 18)]) <|
        (.op none (some 12) (.mov (.tmp 19)) <|
        .nil)))
        (.seq
          (.op none (some 20) (.mov (.tmp 12)) <|
          (.op none (some 21) (.ifnil true (.tmp 20)) <|
          .nil))
          (.cond (.tmp 21)
            (.seq
              (.op none (some 22) (.mov (.tmp 12)) <|
              (.op none (some 10) (.mov (.const (.int .u32 0))) <|
              (.op none (some 11) (.mov (.tmp 22)) <|
              .nil)))
              .ret)
            .nil)))
      (.seq
        (.op none (some 24) (.ldn 6 (.tmp 6)) <|
        (.op none (some 25) (.mov (.tmp 2)) <|
        (.op none (some 26) (.mov (.tmp 3)) <|
        (.op none (some 27) (.conv .u32 (.tmp 26)) <|
        (.op none (some 28) (.call 58 [(.tmp 24), (.tmp 25), (.tmp 27), (.const (.int .u16 1))]) <|
        (.op none (some 23) (.mov (.tmp 28)) <|
        (.op none (some 29) (.ext (.tmp 23) 0) <|
        (.op none (some 30) (.ext (.tmp 23) 1) <|
        (.op none (some 13) (.mov (.tmp 29)) <|
        (.op none (some 14) (.mov (.tmp 30)) <|
        .nil))))))))))
        (.seq
          (.seq
            (.op none (some 31) (.mov (.tmp 14)) <|
            (.op none (some 32) (.ifnil true (.tmp 31)) <|
            .nil))
            (.cond (.tmp 32)
              (.seq
                (.op none (some 33) (.mov (.tmp 14)) <|
                (.op none (some 10) (.mov (.const (.int .u32 0))) <|
                (.op none (some 11) (.mov (.tmp 33)) <|
                .nil)))
                .ret)
              .nil))
          (.seq
            (.op none (some 35) (.mov (.tmp 0)) <|
            (.op none (some 36) (.mov (.tmp 13)) <|
            (.op none (some 37) (.mov (.tmp 3)) <|
            (.op none (some 38) (.call 14 [(.tmp 35), (.tmp 36), (.tmp 37)]) <|
            (.op none (some 34) (.mov (.tmp 38)) <|
            (.op none (some 39) (.ext (.tmp 34) 0) <|
            (.op none (some 40) (.ext (.tmp 34) 1) <|
            (.op none (some 15) (.mov (.tmp 39)) <|
            (.op none (some 14) (.mov (.tmp 40)) <|
            .nil)))))))))
            (.seq
              (.seq
                (.op none (some 41) (.mov (.tmp 14)) <|
                (.op none (some 42) (.ifnil true (.tmp 41)) <|
                .nil))
                (.cond (.tmp 42)
                  (.seq
                    (.op none (some 43) (.mov (.tmp 14)) <|
                    (.op none (some 10) (.mov (.const (.int .u32 0))) <|
                    (.op none (some 11) (.mov (.tmp 43)) <|
                    .nil)))
                    .ret)
                  .nil))
              (.seq
                (.op none (some 16) (.mov (.const (.int .u32 0))) <|
                .nil)
                (.seq
                  (.seq
                    (.op none (some 44) (.mov (.tmp 3)) <|
                    (.op none (some 45) (.iar .sub (.tmp 44) (.const (.int .i64 1))) <|
                    (.op none (some 17) (.mov (.tmp 45)) <|
                    .nil)))
                    (.block 0
                      (.loop
                        (.seq
                          (.seq
                            (.op none (some 46) (.mov (.tmp 17)) <|
                            (.op none (some 47) (.icmp .geq (.tmp 46) (.const (.int .i64 0))) <|
                            .nil))
                            (.cond (.tmp 47)
                              .nil
                              (.exit 0)))
                          (.seq
                            (.block 1
                              (.op none (some 50) (.mov (.tmp 16)) <|
                              (.op none (some 51) (.ishC .shl (.tmp 50) 8) <|
                              (.op none (some 52) (.mov (.tmp 15)) <|
                              (.op none (some 53) (.mov (.tmp 17)) <|
                              (.op none (some 54) (.idxS 1 (.tmp 52) (.tmp 53)) <|
                              (.op none (some 55) (.ld1 (.tmp 54)) <|
                              (.op none (some 56) (.conv .u32 (.tmp 55)) <|
                              (.op none (some 57) (.iar .or (.tmp 51) (.tmp 56)) <|
                              (.op none (some 16) (.mov (.tmp 57)) <|
                              .nil))))))))))
                            (.op none (some 48) (.mov (.tmp 17)) <|
                            (.op none (some 49) (.iar .sub (.tmp 48) (.const (.int .i64 1))) <|
                            (.op none (some 17) (.mov (.tmp 49)) <|
                            .nil))))))))
                  (.seq
                    (.seq
                      (.op none (some 58) (.mov (.tmp 4)) <|
                      .nil)
                      (.cond (.tmp 58)
                        (.op none (some 59) (.mov (.tmp 16)) <|
                        (.op none (some 60) (.mov (.tmp 3)) <|
                        (.op none (some 61) (.iar .mul (.const (.int .i64 8)) (.tmp 60)) <|
                        (.op none (some 62) (.call 59 [(.tmp 59), (.tmp 61)]) <|
                        (.op none (some 16) (.mov (.tmp 62)) <|
                        .nil)))))
                        .nil))
                    (.seq
                      (.op none (some 63) (.mov (.tmp 16)) <|
                      (.op none (some 10) (.mov (.tmp 63)) <|
                      (.op none (some 11) (.mov (.const .nilIface)) <|
                      .nil)))
                      .ret))))))))))⟩
theorem m_access_Load : toFn Tryd.prog 25 = some c_access_Load := by kernel_rfl
abbrev n_access_Load : FuncId := 25
/-- hasp/haspref11.Read -/
def c_haspref11_Read : MFn := ⟨57, 5, [.tmp 10, .cn 11 3],
  (.seq
    (.op none (some 6) (.bx 46 true (.tmp 1)) <|
    (.op none (some 10) (.mov (.const (.int .u32 0))) <|
    (.op none (some 11) (.al 31 [(.string ⟨#[]⟩), (.int .i64 0), (.int .i64 0)]) <|
    .nil)))
    (.seq
      (.op none (some 17) (.fadr 3 (.tmp 6)) <|
      (.op none (some 18) (.ld1 (.tmp 17)) <|
      (.op none (some 19) (.mov (.tmp 2)) <|
      (.op none (some 20) (.conv .u32 (.tmp 19)) <|
      (.op none (some 21) (.iar .add (.tmp 18) (.tmp 20)) <|
      (.op none (some 12) (.mov (.tmp 21)) <|
      .nil))))))
      (.seq
        (.op none (some 22) (.mov (.tmp 3)) <|
        (.op none (some 23) (.call 60 [(.tmp 22)]) <|
        (.op none (some 13) (.al 31 [(.string ⟨#[]⟩), (.int .i64 0), (.int .i64 0)]) <|
        (.op none none (.stn 3 (.tmp 13) (.tmp 23)) <|
        .nil))))
        (.seq
          (.seq
            (.op none (some 24) (.fadr 2 (.tmp 13)) <|
            (.op none (some 25) (.ld1 (.tmp 24)) <|
            (.op none (some 26) (.icmp .eql (.tmp 25) (.const (.int .i64 0))) <|
            .nil)))
            (.cond (.tmp 26)
              (.op none (some 27) (.ldn 6 (.tmp 6)) <|
              (.op none (some 28) (.mov (.tmp 12)) <|
              (.op none (some 29) (.mov (.tmp 3)) <|
              (.op none (some 30) (.conv .u32 (.tmp 29)) <|
              (.op none (some 31) (.call 61 [(.tmp 27), (.tmp 28), (.tmp 30), (.const (.int .u16 1))]) <|
              (.op none none (.stn 3 (.tmp 13) (.tmp 31)) <|
              .nil))))))
              .nil))
          (.seq
            (.seq
              (.op none (some 32) (.fadr 2 (.tmp 13)) <|
              (.op none (some 33) (.ld1 (.tmp 32)) <|
              (.op none (some 34) (.icmp .neq (.tmp 33) (.const (.int .i64 0))) <|
              .nil)))
              (.cond (.tmp 34)
                (.seq
                  (.draw
                    (.op none (some 35) (.ldn 3 (.tmp 13)) <|
                    (.op none (some 10) (.mov (.const (.int .u32 0))) <|
                    (.op none none (.stn 3 (.tmp 11) (.tmp 35)) <|
                    .nil))))
                  .ret)
                .nil))
            (.seq
              (.op none (some 37) (.mov (.tmp 0)) <|
              (.op none (some 38) (.mov (.tmp 12)) <|
              (.op none (some 39) (.conv .i64 (.tmp 38)) <|
              (.op none (some 40) (.mov (.tmp 3)) <|
              (.op none (some 41) (.call 15 [(.tmp 37), (.tmp 39), (.tmp 40)]) <|
              (.op none (some 36) (.mov (.tmp 41)) <|
              (.op none (some 42) (.ext (.tmp 36) 0) <|
              (.op none (some 43) (.ext (.tmp 36) 1) <|
              (.op none (some 15) (.al 31 [(.string ⟨#[]⟩), (.int .i64 0), (.int .i64 0)]) <|
              (.op none (some 14) (.mov (.tmp 42)) <|
              (.op none none (.stn 3 (.tmp 15) (.tmp 43)) <|
              .nil)))))))))))
              (.seq
                (.seq
                  (.op none (some 44) (.fadr 2 (.tmp 15)) <|
                  (.op none (some 45) (.ld1 (.tmp 44)) <|
                  (.op none (some 46) (.icmp .neq (.tmp 45) (.const (.int .i64 0))) <|
                  .nil)))
                  (.cond (.tmp 46)
                    (.seq
                      (.draw
                        (.op none (some 47) (.ldn 3 (.tmp 15)) <|
                        (.op none (some 10) (.mov (.const (.int .u32 0))) <|
                        (.op none none (.stn 3 (.tmp 11) (.tmp 47)) <|
                        .nil))))
                      .ret)
                    .nil))
                (.seq
                  (.op none (some 48) (.mov (.tmp 14)) <|
                  (.op none (some 49) (.call 62 [(.tmp 48)]) <|
                  (.op none (some 16) (.mov (.tmp 49)) <|
                  .nil)))
                  (.seq
                    (.seq
                      (.op none (some 50) (.mov (.tmp 4)) <|
                      .nil)
                      (.cond (.tmp 50)
                        (.op none (some 51) (.mov (.tmp 16)) <|
                        (.op none (some 52) (.mov (.tmp 3)) <|
                        (.op none (some 53) (.iar .mul (.const (.int .i64 8)) (.tmp 52)) <|
                        (.op none (some 54) (.call 63 [(.tmp 51), (.tmp 53)]) <|
                        (.op none (some 16) (.mov (.tmp 54)) <|
                        .nil)))))
                        .nil))
                    (.seq
                      (.op none (some 55) (.mov (.tmp 16)) <|
                      (.op none (some 56) (.bld [(.string ⟨#[]⟩), (.int .i64 0), (.int .i64 0)] []) <|
                      (.op none (some 10) (.mov (.tmp 55)) <|
                      (.op none none (.stn 3 (.tmp 11) (.tmp 56)) <|
                      .nil))))
                      .ret))))))))))⟩
theorem m_haspref11_Read : toFn Tryd.prog 26 = some c_haspref11_Read := by kernel_rfl
abbrev n_haspref11_Read : FuncId := 26
/-- hasp/access.LoadCap -/
def c_access_LoadCap : MFn := ⟨35, 3, [.cn 6 6, .tmp 7],
  (.seq
    (.op none (some 4) (.bx 39 true (.tmp 1)) <|
    (.op none (some 6) (.al 39 [(.bool false), (.int .u32 0), (.int .u32 0), (.int .u32 0), (.int .u16 0), (.int .u16 0)]) <|
    (.op none (some 7) (.mov (.const .nilIface)) <|
    .nil)))
    (.seq
      (.op none (some 12) (.ldn 6 (.tmp 4)) <|
      (.op none (some 13) (.mov (.tmp 2)) <|
      (.op none (some 14) (.call 58 [(.tmp 12), (.tmp 13), (.const (.int .u32 16)), (.const (.int .u16 1))]) <|
      (.op none (some 11) (.mov (.tmp 14)) <|
      (.op none (some 15) (.ext (.tmp 11) 0) <|
      (.op none (some 16) (.ext (.tmp 11) 1) <|
      (.op none (some 8) (.mov (.tmp 15)) <|
      (.op none (some 9) (.mov (.tmp 16)) <|
      .nil))))))))
      (.seq
        (.seq
          (.op none (some 17) (.mov (.tmp 9)) <|
          (.op none (some 18) (.ifnil true (.tmp 17)) <|
          .nil))
          (.cond (.tmp 18)
            (.seq
              (.op none (some 19) (.bld [(.bool false), (.int .u32 0), (.int .u32 0), (.int .u32 0), (.int .u16 0), (.int .u16 0)] []) <|
              (.op none (some 20) (.mov (.tmp 9)) <|
              (.op none none (.stn 6 (.tmp 6) (.tmp 19)) <|
              (.op none (some 7) (.mov (.tmp 20)) <|
              .nil))))
              .ret)
            .nil))
        (.seq
          (.op none (some 22) (.mov (.tmp 0)) <|
          (.op none (some 23) (.mov (.tmp 8)) <|
          (.op none (some 24) (.call 16 [(.tmp 22), (.tmp 23)]) <|
          (.op none (some 21) (.mov (.tmp 24)) <|
          (.op none (some 25) (.ext (.tmp 21) 0) <|
          (.op none (some 26) (.ext (.tmp 21) 1) <|
          (.op none (some 10) (.al 39 [(.bool false), (.int .u32 0), (.int .u32 0), (.int .u32 0), (.int .u16 0), (.int .u16 0)]) <|
          (.op none none (.stn 6 (.tmp 10) (.tmp 25)) <|
          (.op none (some 9) (.mov (.tmp 26)) <|
          .nil)))))))))
          (.seq
            (.seq
              (.op none (some 27) (.fadr 4 (.tmp 4)) <|
              (.op none (some 28) (.ld1 (.tmp 27)) <|
              (.op none (some 29) (.iar .and (.tmp 28) (.const (.int .u16 8))) <|
              (.op none (some 30) (.icmp .eql (.tmp 29) (.const (.int .u16 0))) <|
              .nil))))
              (.cond (.tmp 30)
                (.op none (some 31) (.ldn 6 (.tmp 10)) <|
                (.op none (some 32) (.call 64 [(.tmp 31)]) <|
                (.op none none (.stn 6 (.tmp 10) (.tmp 32)) <|
                .nil)))
                .nil))
            (.seq
              (.op none (some 33) (.ldn 6 (.tmp 10)) <|
              (.op none (some 34) (.mov (.tmp 9)) <|
              (.op none none (.stn 6 (.tmp 6) (.tmp 33)) <|
              (.op none (some 7) (.mov (.tmp 34)) <|
              .nil))))
              .ret))))))⟩
theorem m_access_LoadCap : toFn Tryd.prog 27 = some c_access_LoadCap := by kernel_rfl
abbrev n_access_LoadCap : FuncId := 27
/-- hasp/haspref11.ReadCap -/
def c_haspref11_ReadCap : MFn := ⟨44, 3, [.cn 6 6, .cn 7 3],
  (.seq
    (.op none (some 4) (.bx 46 true (.tmp 1)) <|
    (.op none (some 6) (.al 46 [(.bool false), (.int .u32 0), (.int .u32 0), (.int .u32 0), (.int .u16 0), (.int .u16 0)]) <|
    (.op none (some 7) (.al 31 [(.string ⟨#[]⟩), (.int .i64 0), (.int .i64 0)]) <|
    .nil)))
    (.seq
      (.op none (some 12) (.fadr 3 (.tmp 4)) <|
      (.op none (some 13) (.ld1 (.tmp 12)) <|
      (.op none (some 14) (.mov (.tmp 2)) <|
      (.op none (some 15) (.conv .u32 (.tmp 14)) <|
      (.op none (some 16) (.iar .add (.tmp 13) (.tmp 15)) <|
      (.op none (some 8) (.mov (.tmp 16)) <|
      .nil))))))
      (.seq
        (.op none (some 17) (.ldn 6 (.tmp 4)) <|
        (.op none (some 18) (.mov (.tmp 8)) <|
        (.op none (some 19) (.call 61 [(.tmp 17), (.tmp 18), (.const (.int .u32 16)), (.const (.int .u16 1))]) <|
        (.op none (some 9) (.al 31 [(.string ⟨#[]⟩), (.int .i64 0), (.int .i64 0)]) <|
        (.op none none (.stn 3 (.tmp 9) (.tmp 19)) <|
        .nil)))))
        (.seq
          (.seq
            (.op none (some 20) (.fadr 2 (.tmp 9)) <|
            (.op none (some 21) (.ld1 (.tmp 20)) <|
            (.op none (some 22) (.icmp .neq (.tmp 21) (.const (.int .i64 0))) <|
            .nil)))
            (.cond (.tmp 22)
              (.seq
                (.draw
                  (.op none (some 23) (.bld [(.bool false), (.int .u32 0), (.int .u32 0), (.int .u32 0), (.int .u16 0), (.int .u16 0)] []) <|
                  (.op none (some 24) (.ldn 3 (.tmp 9)) <|
                  (.op none none (.stn 6 (.tmp 6) (.tmp 23)) <|
                  (.op none none (.stn 3 (.tmp 7) (.tmp 24)) <|
                  .nil)))))
                .ret)
              .nil))
          (.seq
            (.op none (some 26) (.mov (.tmp 0)) <|
            (.op none (some 27) (.mov (.tmp 8)) <|
            (.op none (some 28) (.conv .i64 (.tmp 27)) <|
            (.op none (some 29) (.call 17 [(.tmp 26), (.tmp 28)]) <|
            (.op none (some 25) (.mov (.tmp 29)) <|
            (.op none (some 30) (.ext (.tmp 25) 0) <|
            (.op none (some 31) (.ext (.tmp 25) 1) <|
            (.op none (some 10) (.al 46 [(.bool false), (.int .u32 0), (.int .u32 0), (.int .u32 0), (.int .u16 0), (.int .u16 0)]) <|
            (.op none (some 11) (.al 31 [(.string ⟨#[]⟩), (.int .i64 0), (.int .i64 0)]) <|
            (.op none none (.stn 6 (.tmp 10) (.tmp 30)) <|
            (.op none none (.stn 3 (.tmp 11) (.tmp 31)) <|
            .nil)))))))))))
            (.seq
              (.seq
                (.op none (some 32) (.fadr 2 (.tmp 11)) <|
                (.op none (some 33) (.ld1 (.tmp 32)) <|
                (.op none (some 34) (.icmp .neq (.tmp 33) (.const (.int .i64 0))) <|
                .nil)))
                (.cond (.tmp 34)
                  (.seq
                    (.draw
                      (.op none (some 35) (.bld [(.bool false), (.int .u32 0), (.int .u32 0), (.int .u32 0), (.int .u16 0), (.int .u16 0)] []) <|
                      (.op none (some 36) (.ldn 3 (.tmp 11)) <|
                      (.op none none (.stn 6 (.tmp 6) (.tmp 35)) <|
                      (.op none none (.stn 3 (.tmp 7) (.tmp 36)) <|
                      .nil)))))
                    .ret)
                  .nil))
              (.seq
                (.op none (some 37) (.ldn 6 (.tmp 10)) <|
                (.op none (some 38) (.fadr 4 (.tmp 4)) <|
                (.op none (some 39) (.ld1 (.tmp 38)) <|
                (.op none (some 40) (.iar .and (.tmp 39) (.const (.int .u16 8))) <|
                (.op none (some 41) (.icmp .neq (.tmp 40) (.const (.int .u16 0))) <|
                (.op none (some 42) (.call 65 [(.tmp 37), (.tmp 41)]) <|
                (.op none (some 43) (.bld [(.string ⟨#[]⟩), (.int .i64 0), (.int .i64 0)] []) <|
                (.op none none (.stn 6 (.tmp 6) (.tmp 42)) <|
                (.op none none (.stn 3 (.tmp 7) (.tmp 43)) <|
                .nil)))))))))
                .ret)))))))⟩
theorem m_haspref11_ReadCap : toFn Tryd.prog 28 = some c_haspref11_ReadCap := by kernel_rfl
abbrev n_haspref11_ReadCap : FuncId := 28
/-- hasp/access.Store -/
def c_access_Store : MFn := ⟨51, 5, [.tmp 10],
  (.seq
    (.op none (some 6) (.bx 39 true (.tmp 1)) <|
    (.op none (some 10) (.mov (.const .nilIface)) <|
    .nil))
    (.seq
      (.seq
        (.op none (some 16) (.mov (.tmp 3)) <|
        (.op none (some 17) (.call 57 [(.tmp 16)]) <|
        (.op none (some 11) (.mov (.tmp 17)) <|
        .nil)))
        (.seq
          (.op none (some 18) (.mov (.tmp 11)) <|
          (.op none (some 19) (.ifnil true (.tmp 18)) <|
          .nil))
          (.cond (.tmp 19)
            (.seq
              (.op none (some 20) (.mov (.tmp 11)) <|
              (.op none (some 10) (.mov (.tmp 20)) <|
              .nil))
              .ret)
            .nil)))
      (.seq
        (.op none (some 22) (.ldn 6 (.tmp 6)) <|
        (.op none (some 23) (.mov (.tmp 2)) <|
        (.op none (some 24) (.mov (.tmp 3)) <|
        (.op none (some 25) (.conv .u32 (.tmp 24)) <|
        (.op none (some 26) (.call 58 [(.tmp 22), (.tmp 23), (.tmp 25), (.const (.int .u16 2))]) <|
        (.op none (some 21) (.mov (.tmp 26)) <|
        (.op none (some 27) (.ext (.tmp 21) 0) <|
        (.op none (some 28) (.ext (.tmp 21) 1) <|
        (.op none (some 12) (.mov (.tmp 27)) <|
        (.op none (some 13) (.mov (.tmp 28)) <|
        .nil))))))))))
        (.seq
          (.seq
            (.op none (some 29) (.mov (.tmp 13)) <|
            (.op none (some 30) (.ifnil true (.tmp 29)) <|
            .nil))
            (.cond (.tmp 30)
              (.seq
                (.op none (some 31) (.mov (.tmp 13)) <|
                (.op none (some 10) (.mov (.tmp 31)) <|
                .nil))
                .ret)
              .nil))
          (.seq
            (.op none (some 32) (.mov (.tmp 3)) <|
            (.op none (some 33) (.mkSl 35 (.tmp 32) (.tmp 32)) <|
            (.op none (some 14) (.mov (.tmp 33)) <|
            .nil)))
            (.seq
              (.seq
                (.op none (some 34) (.mov (.tmp 14)) <|
                (.op none (some 35) (.lenS (.tmp 34)) <|
                (.op none (some 36) (.mov (.const (.int .i64 0))) <|
                .nil)))
                (.block 0
                  (.loop
                    (.seq
                      (.op none (some 37) (.icmp .lss (.tmp 36) (.tmp 35)) <|
                      .nil)
                      (.seq
                        (.cond (.tmp 37)
                          .nil
                          (.exit 0))
                        (.seq
                          (.block 1
                            (.seq
                              (.op none (some 38) (.mov (.tmp 36)) <|
                              (.op none (some 15) (.mov (.tmp 38)) <|
                              .nil))
                              (.op none (some 39) (.mov (.tmp 14)) <|
                              (.op none (some 40) (.mov (.tmp 15)) <|
                              (.op none (some 41) (.mov (.tmp 4)) <|
                              (.op none (some 42) (.conv .u8 (.tmp 41)) <|
                              (.op none (some 43) (.mov (.tmp 4)) <|
                              (.op none (some 44) (.ishC .shr (.tmp 43) 8) <|
                              (.op none (some 45) (.idxS 1 (.tmp 39) (.tmp 40)) <|
                              (.op none none (.st1 (.tmp 45) (.tmp 42)) <|
                              (.op none (some 4) (.mov (.tmp 44)) <|
                              .nil)))))))))))
                          (.op none (some 46) (.iar .add (.tmp 36) (.const (.int .i64 1))) <|
                          (.op none (some 36) (.mov (.tmp 46)) <|
                          .nil))))))))
              (.seq
                (.op none (some 47) (.mov (.tmp 0)) <|
                (.op none (some 48) (.mov (.tmp 12)) <|
                (.op none (some 49) (.mov (.tmp 14)) <|
                (.op none (some 50) (.call 9 [(.tmp 47), (.tmp 48), (.tmp 49)]) <|
                (.op none (some 10) (.mov (.tmp 50)) <|
                .nil)))))
                .ret)))))))⟩
theorem m_access_Store : toFn Tryd.prog 29 = some c_access_Store := by kernel_rfl
abbrev n_access_Store : FuncId := 29
/-- hasp/haspref11.Write -/
def c_haspref11_Write : MFn := ⟨40, 5, [.cn 10 3],
  (.seq
    (.op none (some 6) (.bx 46 true (.tmp 1)) <|
    (.op none (some 10) (.al 31 [(.string ⟨#[]⟩), (.int .i64 0), (.int .i64 0)]) <|
    .nil))
    (.seq
      (.op none (some 13) (.fadr 3 (.tmp 6)) <|
      (.op none (some 14) (.ld1 (.tmp 13)) <|
      (.op none (some 15) (.mov (.tmp 2)) <|
      (.op none (some 16) (.conv .u32 (.tmp 15)) <|
      (.op none (some 17) (.iar .add (.tmp 14) (.tmp 16)) <|
      (.op none (some 11) (.mov (.tmp 17)) <|
      .nil))))))
      (.seq
        (.op none (some 18) (.mov (.tmp 3)) <|
        (.op none (some 19) (.call 60 [(.tmp 18)]) <|
        (.op none (some 12) (.al 31 [(.string ⟨#[]⟩), (.int .i64 0), (.int .i64 0)]) <|
        (.op none none (.stn 3 (.tmp 12) (.tmp 19)) <|
        .nil))))
        (.seq
          (.seq
            (.op none (some 20) (.fadr 2 (.tmp 12)) <|
            (.op none (some 21) (.ld1 (.tmp 20)) <|
            (.op none (some 22) (.icmp .eql (.tmp 21) (.const (.int .i64 0))) <|
            .nil)))
            (.cond (.tmp 22)
              (.op none (some 23) (.ldn 6 (.tmp 6)) <|
              (.op none (some 24) (.mov (.tmp 11)) <|
              (.op none (some 25) (.mov (.tmp 3)) <|
              (.op none (some 26) (.conv .u32 (.tmp 25)) <|
              (.op none (some 27) (.call 61 [(.tmp 23), (.tmp 24), (.tmp 26), (.const (.int .u16 2))]) <|
              (.op none none (.stn 3 (.tmp 12) (.tmp 27)) <|
              .nil))))))
              .nil))
          (.seq
            (.seq
              (.op none (some 28) (.fadr 2 (.tmp 12)) <|
              (.op none (some 29) (.ld1 (.tmp 28)) <|
              (.op none (some 30) (.icmp .neq (.tmp 29) (.const (.int .i64 0))) <|
              .nil)))
              (.cond (.tmp 30)
                (.seq
                  (.op none (some 31) (.ldn 3 (.tmp 12)) <|
                  (.op none none (.stn 3 (.tmp 10) (.tmp 31)) <|
                  .nil))
                  .ret)
                .nil))
            (.seq
              (.op none (some 32) (.mov (.tmp 0)) <|
              (.op none (some 33) (.mov (.tmp 11)) <|
              (.op none (some 34) (.conv .i64 (.tmp 33)) <|
              (.op none (some 35) (.mov (.tmp 4)) <|
              (.op none (some 36) (.call 66 [(.tmp 35)]) <|
              (.op none (some 37) (.mov (.tmp 3)) <|
              (.op none (some 38) (.slS 1 (.tmp 36) none (some (.tmp 37)) none) <|
              (.op none (some 39) (.call 10 [(.tmp 32), (.tmp 34), (.tmp 38)]) <|
              (.op none none (.stn 3 (.tmp 10) (.tmp 39)) <|
              .nil)))))))))
              .ret))))))⟩
theorem m_haspref11_Write : toFn Tryd.prog 30 = some c_haspref11_Write := by kernel_rfl
abbrev n_haspref11_Write : FuncId := 30
/-- hasp/access.StoreCap -/
def c_access_StoreCap : MFn := ⟨30, 4, [.tmp 8],
  (.seq
    (.op none (some 5) (.bx 39 true (.tmp 1)) <|
    (.op none (some 7) (.bx 39 true (.tmp 3)) <|
    (.op none (some 8) (.mov (.const .nilIface)) <|
    .nil)))
    (.seq
      (.op none (some 9) (.mov (.const (.int .u16 2))) <|
      .nil)
      (.seq
        (.seq
          (.op none (some 12) (.fadr 0 (.tmp 7)) <|
          (.op none (some 13) (.ld1 (.tmp 12)) <|
          .nil))
          (.cond (.tmp 13)
            (.op none (some 14) (.mov (.tmp 9)) <|
            (.op none (some 15) (.iar .or (.tmp 14) (.const (.int .u16 16))) <|
            (.op none (some 9) (.mov (.tmp 15)) <|
            .nil)))
            .nil))
        (.seq
          (.op none (some 17) (.ldn 6 (.tmp 5)) <|
          (.op none (some 18) (.mov (.tmp 2)) <|
          (.op none (some 19) (.mov (.tmp 9)) <|
          (.op none (some 20) (.call 58 [(.tmp 17), (.tmp 18), (.const (.int .u32 16)), (.tmp 19)]) <|
          (.op none (some 16) (.mov (.tmp 20)) <|
          (.op none (some 21) (.ext (.tmp 16) 0) <|
          (.op none (some 22) (.ext (.tmp 16) 1) <|
          (.op none (some 10) (.mov (.tmp 21)) <|
          (.op none (some 11) (.mov (.tmp 22)) <|
          .nil)))))))))
          (.seq
            (.seq
              (.op none (some 23) (.mov (.tmp 11)) <|
              (.op none (some 24) (.ifnil true (.tmp 23)) <|
              .nil))
              (.cond (.tmp 24)
                (.seq
                  (.op none (some 25) (.mov (.tmp 11)) <|
                  (.op none (some 8) (.mov (.tmp 25)) <|
                  .nil))
                  .ret)
                .nil))
            (.seq
              (.op none (some 26) (.mov (.tmp 0)) <|
              (.op none (some 27) (.mov (.tmp 10)) <|
              (.op none (some 28) (.ldn 6 (.tmp 7)) <|
              (.op none (some 29) (.call 11 [(.tmp 26), (.tmp 27), (.tmp 28)]) <|
              (.op none (some 8) (.mov (.tmp 29)) <|
              .nil)))))
              .ret))))))⟩
theorem m_access_StoreCap : toFn Tryd.prog 31 = some c_access_StoreCap := by kernel_rfl
abbrev n_access_StoreCap : FuncId := 31
/-- hasp/haspref11.WriteCap -/
def c_haspref11_WriteCap : MFn := ⟨32, 4, [.cn 8 3],
  (.seq
    (.op none (some 5) (.bx 46 true (.tmp 1)) <|
    (.op none (some 7) (.bx 46 true (.tmp 3)) <|
    (.op none (some 8) (.al 31 [(.string ⟨#[]⟩), (.int .i64 0), (.int .i64 0)]) <|
    .nil)))
    (.seq
      (.op none (some 12) (.fadr 3 (.tmp 5)) <|
      (.op none (some 13) (.ld1 (.tmp 12)) <|
      (.op none (some 14) (.mov (.tmp 2)) <|
      (.op none (some 15) (.conv .u32 (.tmp 14)) <|
      (.op none (some 16) (.iar .add (.tmp 13) (.tmp 15)) <|
      (.op none (some 9) (.mov (.tmp 16)) <|
      .nil))))))
      (.seq
        (.op none (some 10) (.mov (.const (.int .u16 2))) <|
        .nil)
        (.seq
          (.seq
            (.op none (some 17) (.fadr 0 (.tmp 7)) <|
            (.op none (some 18) (.ld1 (.tmp 17)) <|
            .nil))
            (.cond (.tmp 18)
              (.op none (some 10) (.mov (.const (.int .u16 18))) <|
              .nil)
              .nil))
          (.seq
            (.op none (some 19) (.ldn 6 (.tmp 5)) <|
            (.op none (some 20) (.mov (.tmp 9)) <|
            (.op none (some 21) (.mov (.tmp 10)) <|
            (.op none (some 22) (.call 61 [(.tmp 19), (.tmp 20), (.const (.int .u32 16)), (.tmp 21)]) <|
            (.op none (some 11) (.al 31 [(.string ⟨#[]⟩), (.int .i64 0), (.int .i64 0)]) <|
            (.op none none (.stn 3 (.tmp 11) (.tmp 22)) <|
            .nil))))))
            (.seq
              (.seq
                (.op none (some 23) (.fadr 2 (.tmp 11)) <|
                (.op none (some 24) (.ld1 (.tmp 23)) <|
                (.op none (some 25) (.icmp .neq (.tmp 24) (.const (.int .i64 0))) <|
                .nil)))
                (.cond (.tmp 25)
                  (.seq
                    (.op none (some 26) (.ldn 3 (.tmp 11)) <|
                    (.op none none (.stn 3 (.tmp 8) (.tmp 26)) <|
                    .nil))
                    .ret)
                  .nil))
              (.seq
                (.op none (some 27) (.mov (.tmp 0)) <|
                (.op none (some 28) (.mov (.tmp 9)) <|
                (.op none (some 29) (.conv .i64 (.tmp 28)) <|
                (.op none (some 30) (.ldn 6 (.tmp 7)) <|
                (.op none (some 31) (.call 12 [(.tmp 27), (.tmp 29), (.tmp 30)]) <|
                (.op none none (.stn 3 (.tmp 8) (.tmp 31)) <|
                .nil))))))
                .ret)))))))⟩
theorem m_haspref11_WriteCap : toFn Tryd.prog 32 = some c_haspref11_WriteCap := by kernel_rfl
abbrev n_haspref11_WriteCap : FuncId := 32
/-- hasp/cap.Root -/
def c_cap_Root : MFn := ⟨5, 1, [.cn 2 6],
  (.seq
    (.op none (some 2) (.al 39 [(.bool false), (.int .u32 0), (.int .u32 0), (.int .u32 0), (.int .u16 0), (.int .u16 0)]) <|
    .nil)
    (.seq
      (.op none (some 3) (.mov (.tmp 0)) <|
      (.op none (some 4) (.bld [(.bool false), (.int .u32 0), (.int .u32 0), (.int .u32 0), (.int .u16 0), (.int .u16 0)] [(0, 1, (.const (.bool true))), (2, 1, (.tmp 3)), (4, 1, (.const (.int .u16 127))), (5, 1, (.const (.int .u16 0)))]) <|
      (.op none none (.stn 6 (.tmp 2) (.tmp 4)) <|
      .nil)))
      .ret))⟩
theorem m_cap_Root : toFn Tryd.prog 33 = some c_cap_Root := by kernel_rfl
abbrev n_cap_Root : FuncId := 33
/-- (*hasp/mem.Mem).Tags -/
def c_mem_Mem_Tags : MFn := ⟨24, 1, [.tmp 2],
  (.seq
    (.op none (some 2) (.mov (.const (.slice none 0 0))) <|
    .nil)
    (.seq
      (.op none (some 3) (.mov (.const (.slice none 0 0))) <|
      .nil)
      (.seq
        (.seq
          (.op none (some 6) (.mov (.tmp 0)) <|
          (.op none (some 7) (.nilchk (.tmp 6)) <|
          (.op none (some 8) (.fadr 1 (.tmp 7)) <|
          (.op none (some 9) (.ld1 (.tmp 8)) <|
          (.op none (some 10) (.lenS (.tmp 9)) <|
          (.op none (some 11) (.mov (.const (.int .i64 0))) <|
          .nil))))))
          (.block 0
            (.loop
              (.seq
                (.op none (some 12) (.icmp .lss (.tmp 11) (.tmp 10)) <|
                .nil)
                (.seq
                  (.cond (.tmp 12)
                    .nil
                    (.exit 0))
                  (.seq
                    (.block 1
                      (.seq
                        (.op none (some 13) (.mov (.tmp 11)) <|
                        (.op none (some 14) (.idxS 1 (.tmp 9) (.tmp 11)) <|
                        (.op none (some 15) (.ld1 (.tmp 14)) <|
                        (.op none (some 4) (.mov (.tmp 13)) <|
                        (.op none (some 5) (.mov (.tmp 15)) <|
                        .nil)))))
                        (.seq
                          (.op none (some 16) (.mov (.tmp 5)) <|
                          .nil)
                          (.cond (.tmp 16)
                            (.op none (some 17) (.mov (.tmp 3)) <|
                            (.op none (some 18) (.mov (.tmp 4)) <|
                            (.op none (some 19) (.iar .mul (.tmp 18) (.const (.int .i64 16))) <|
                            (.op none (some 20) (.bldS 3 1 [(.int .i64 0)] [(0, 1, (.tmp 19))]) <|
                            (.op none (some 21) (.bi .append [79, 79] 79 [(.tmp 17), (.tmp 20)]) <|
                            (.op none (some 3) (.mov (.tmp 21)) <|
                            .nil))))))
                            .nil))))
                    (.op none (some 22) (.iar .add (.tmp 11) (.const (.int .i64 1))) <|
                    (.op none (some 11) (.mov (.tmp 22)) <|
                    .nil))))))))
        (.seq
          (.op none (some 23) (.mov (.tmp 3)) <|
          (.op none (some 2) (.mov (.tmp 23)) <|
          .nil))
          .ret))))⟩
theorem m_mem_Mem_Tags : toFn Tryd.prog 34 = some c_mem_Mem_Tags := by kernel_rfl
abbrev n_mem_Mem_Tags : FuncId := 34
/-- (*hasp/mem.Mem).Size -/
def c_mem_Mem_Size : MFn := ⟨8, 1, [.tmp 2],
  (.seq
    (.op none (some 2) (.mov (.const (.int .i64 0))) <|
    .nil)
    (.seq
      (.op none (some 3) (.mov (.tmp 0)) <|
      (.op none (some 4) (.nilchk (.tmp 3)) <|
      (.op none (some 5) (.fadr 0 (.tmp 4)) <|
      (.op none (some 6) (.ld1 (.tmp 5)) <|
      (.op none (some 7) (.lenS (.tmp 6)) <|
      (.op none (some 2) (.mov (.tmp 7)) <|
      .nil))))))
      .ret))⟩
theorem m_mem_Mem_Size : toFn Tryd.prog 35 = some c_mem_Mem_Size := by kernel_rfl
abbrev n_mem_Mem_Size : FuncId := 35
/-- hasp/mem.fault -/
def c_mem_fault : MFn := ⟨14, 3, [.tmp 6],
  (.seq
    (.op none (some 6) (.mov (.const .nilIface)) <|
    .nil)
    (.seq
      (.op none (some 7) (.mov (.tmp 0)) <|
      (.op none (some 8) (.mov (.tmp 1)) <|
      (.op none (some 9) (.mov (.tmp 2)) <|
      (.op none (some 10) (.mkif 83 (.tmp 9)) <|
      (.op none (some 11) (.bld [(.string ⟨#[]⟩), (.int .i64 0), .nilIface] [(0, 1, (.tmp 7)), (1, 1, (.tmp 8)), (2, 1, (.tmp 10))]) <|
      (.op none (some 12) (.bx 90 true (.tmp 11)) <|
      (.op none (some 13) (.mkif 86 (.tmp 12)) <|
      (.op none (some 6) (.mov (.tmp 13)) <|
      .nil))))))))
      .ret))⟩
theorem m_mem_fault : toFn Tryd.prog 36 = some c_mem_fault := by kernel_rfl
abbrev n_mem_fault : FuncId := 36
/-- (*hasp/mem.Mem).span -/
def c_mem_Mem_span : MFn := ⟨45, 3, [.tmp 6, .tmp 7],
  (.seq
    (.op none (some 6) (.mov (.const (.slice none 0 0))) <|
    (.op none (some 7) (.mov (.const .nilIface)) <|
    .nil))
    (.seq
      (.seq
        (.op none (some 8) (.mov (.tmp 1)) <|
        (.op none (some 9) (.icmp .lss (.tmp 8) (.const (.int .i64 0))) <|
        (.op none (some 10) (.mov (.tmp 9)) <|
        (.op (some (10, false)) (some 11) (.mov (.tmp 2)) <|
        (.op (some (10, false)) (some 12) (.icmp .lss (.tmp 11) (.const (.int .i64 0))) <|
        (.op none (some 13) (.pick (.tmp 10) (.const (.bool true)) (.tmp 12)) <|
        (.op none (some 14) (.mov (.tmp 13)) <|
        (.op (some (14, false)) (some 15) (.mov (.tmp 1)) <|
        (.op (some (14, false)) (some 16) (.mov (.tmp 0)) <|
        (.op (some (14, false)) (some 17) (.nilchk (.tmp 16)) <|
        (.op (some (14, false)) (some 18) (.fadr 0 (.tmp 17)) <|
        (.op (some (14, false)) (some 19) (.ld1 (.tmp 18)) <|
        (.op (some (14, false)) (some 20) (.lenS (.tmp 19)) <|
        (.op (some (14, false)) (some 21) (.icmp .gtr (.tmp 15) (.tmp 20)) <|
        (.op none (some 22) (.pick (.tmp 14) (.const (.bool true)) (.tmp 21)) <|
        (.op none (some 23) (.mov (.tmp 22)) <|
        (.op (some (23, false)) (some 24) (.mov (.tmp 2)) <|
        (.op (some (23, false)) (some 25) (.mov (.tmp 0)) <|
        (.op (some (23, false)) (some 26) (.nilchk (.tmp 25)) <|
        (.op (some (23, false)) (some 27) (.fadr 0 (.tmp 26)) <|
        (.op (some (23, false)) (some 28) (.ld1 (.tmp 27)) <|
        (.op (some (23, false)) (some 29) (.lenS (.tmp 28)) <|
        (.op (some (23, false)) (some 30) (.mov (.tmp 1)) <|
        (.op (some (23, false)) (some 31) (.iar .sub (.tmp 29) (.tmp 30)) <|
        (.op (some (23, false)) (some 32) (.icmp .gtr (.tmp 24) (.tmp 31)) <|
        (.op none (some 33) (.pick (.tmp 23) (.const (.bool true)) (.tmp 32)) <|
        .nil))))))))))))))))))))))))))
        (.cond (.tmp 33)
          (.seq
            (.op none (some 34) (.mov (.tmp 1)) <|
            (.op none (some 35) (.call 36 [(.const (.string ⟨#[109, 101, 109]⟩)), (.tmp 34), (.const (.int .i64 6))]) <|
            (.op none (some 6) (.mov (.const (.slice none 0 0))) <|
            (.op none (some 7) (.mov (.tmp 35)) <|
            .nil))))
            .ret)
          .nil))
      (.seq
        (.op none (some 36) (.mov (.tmp 0)) <|
        (.op none (some 37) (.nilchk (.tmp 36)) <|
        (.op none (some 38) (.fadr 0 (.tmp 37)) <|
        (.op none (some 39) (.ld1 (.tmp 38)) <|
        (.op none (some 40) (.mov (.tmp 1)) <|
        (.op none (some 41) (.mov (.tmp 1)) <|
        (.op none (some 42) (.mov (.tmp 2)) <|
        (.op none (some 43) (.iar .add (.tmp 41) (.tmp 42)) <|
        (.op none (some 44) (.slS 1 (.tmp 39) (some (.tmp 40)) (some (.tmp 43)) none) <|
        (.op none (some 6) (.mov (.tmp 44)) <|
        (.op none (some 7) (.mov (.const .nilIface)) <|
        .nil)))))))))))
        .ret)))⟩
theorem m_mem_Mem_span : toFn Tryd.prog 39 = some c_mem_Mem_span := by kernel_rfl
abbrev n_mem_Mem_span : FuncId := 39
/-- (*hasp/haspref11.Mem).reach -/
def c_haspref11_Mem_reach : MFn := ⟨36, 3, [.cn 6 3],
  (.seq
    (.op none (some 6) (.al 31 [(.string ⟨#[]⟩), (.int .i64 0), (.int .i64 0)]) <|
    .nil)
    (.seq
      (.seq
        (.op none (some 7) (.mov (.tmp 1)) <|
        (.op none (some 8) (.icmp .lss (.tmp 7) (.const (.int .i64 0))) <|
        (.op none (some 9) (.mov (.tmp 8)) <|
        (.op (some (9, false)) (some 10) (.mov (.tmp 2)) <|
        (.op (some (9, false)) (some 11) (.icmp .lss (.tmp 10) (.const (.int .i64 0))) <|
        (.op none (some 12) (.pick (.tmp 9) (.const (.bool true)) (.tmp 11)) <|
        (.op none (some 13) (.mov (.tmp 12)) <|
        (.op (some (13, false)) (some 14) (.mov (.tmp 1)) <|
        (.op (some (13, false)) (some 15) (.mov (.tmp 0)) <|
        (.op (some (13, false)) (some 16) (.nilchk (.tmp 15)) <|
        (.op (some (13, false)) (some 17) (.fadr 0 (.tmp 16)) <|
        (.op (some (13, false)) (some 18) (.ld1 (.tmp 17)) <|
        (.op (some (13, false)) (some 19) (.lenS (.tmp 18)) <|
        (.op (some (13, false)) (some 20) (.icmp .gtr (.tmp 14) (.tmp 19)) <|
        (.op none (some 21) (.pick (.tmp 13) (.const (.bool true)) (.tmp 20)) <|
        (.op none (some 22) (.mov (.tmp 21)) <|
        (.op (some (22, false)) (some 23) (.mov (.tmp 2)) <|
        (.op (some (22, false)) (some 24) (.mov (.tmp 0)) <|
        (.op (some (22, false)) (some 25) (.nilchk (.tmp 24)) <|
        (.op (some (22, false)) (some 26) (.fadr 0 (.tmp 25)) <|
        (.op (some (22, false)) (some 27) (.ld1 (.tmp 26)) <|
        (.op (some (22, false)) (some 28) (.lenS (.tmp 27)) <|
        (.op (some (22, false)) (some 29) (.mov (.tmp 1)) <|
        (.op (some (22, false)) (some 30) (.iar .sub (.tmp 28) (.tmp 29)) <|
        (.op (some (22, false)) (some 31) (.icmp .gtr (.tmp 23) (.tmp 30)) <|
        (.op none (some 32) (.pick (.tmp 22) (.const (.bool true)) (.tmp 31)) <|
        .nil))))))))))))))))))))))))))
        (.cond (.tmp 32)
          (.seq
            (.op none (some 33) (.mov (.tmp 1)) <|
            (.op none (some 34) (.bld [(.string ⟨#[]⟩), (.int .i64 0), (.int .i64 0)] [(0, 1, (.const (.string ⟨#[109, 101, 109]⟩))), (1, 1, (.tmp 33)), (2, 1, (.const (.int .i64 6)))]) <|
            (.op none none (.stn 3 (.tmp 6) (.tmp 34)) <|
            .nil)))
            .ret)
          .nil))
      (.seq
        (.op none (some 35) (.bld [(.string ⟨#[]⟩), (.int .i64 0), (.int .i64 0)] []) <|
        (.op none none (.stn 3 (.tmp 6) (.tmp 35)) <|
        .nil))
        .ret)))⟩
theorem m_haspref11_Mem_reach : toFn Tryd.prog 40 = some c_haspref11_Mem_reach := by kernel_rfl
abbrev n_haspref11_Mem_reach : FuncId := 40
/-- (*hasp/mem.Mem).granule -/
def c_mem_Mem_granule : MFn := ⟨26, 2, [.tmp 4, .tmp 5],
  (.seq
    (.op none (some 4) (.mov (.const (.slice none 0 0))) <|
    (.op none (some 5) (.mov (.const .nilIface)) <|
    .nil))
    (.seq
      (.op none (some 10) (.mov (.tmp 0)) <|
      (.op none (some 11) (.mov (.tmp 1)) <|
      (.op none (some 12) (.call 39 [(.tmp 10), (.tmp 11), (.const (.int .i64 16))]) <|
      (.op none (some 9) (.mov (.tmp 12)) <|
      (.op none (some 13) (.ext (.tmp 9) 0) <|
      (.op none (some 14) (.ext (.tmp 9) 1) <|
      (.op none (some 6) (.mov (.tmp 13)) <|
      (.op none (some 7) (.mov (.tmp 14)) <|
      .nil))))))))
      (.seq
        (.op none (some 8) (.al 86 [(.pointer none)]) <|
        .nil)
        (.seq
          (.seq
            (.op none (some 15) (.mov (.tmp 7)) <|
            (.op none (some 16) (.mkif 88 (.tmp 8)) <|
            (.op none (some 17) (.call 37 [(.tmp 15), (.tmp 16)]) <|
            .nil)))
            (.cond (.tmp 17)
              (.seq
                (.draw
                  (.op none (some 18) (.ld1 (.tmp 8)) <|
                  (.op none (some 19) (.mkif 86 (.tmp 18)) <|
                  (.op none (some 4) (.mov (.const (.slice none 0 0))) <|
                  (.op none (some 5) (.mov (.tmp 19)) <|
                  .nil)))))
                .ret)
              .nil))
          (.seq
            (.seq
              (.op none (some 20) (.mov (.tmp 1)) <|
              (.op none (some 21) (.idivC .rem (.tmp 20) .i64 16) <|
              (.op none (some 22) (.icmp .neq (.tmp 21) (.const (.int .i64 0))) <|
              .nil)))
              (.cond (.tmp 22)
                (.seq
                  (.op none (some 23) (.mov (.tmp 1)) <|
                  (.op none (some 24) (.call 36 [(.const (.string ⟨#[109, 101, 109]⟩)), (.tmp 23), (.const (.int .i64 5))]) <|
                  (.op none (some 4) (.mov (.const (.slice none 0 0))) <|
                  (.op none (some 5) (.mov (.tmp 24)) <|
                  .nil))))
                  .ret)
                .nil))
            (.seq
              (.op none (some 25) (.mov (.tmp 6)) <|
              (.op none (some 4) (.mov (.tmp 25)) <|
              (.op none (some 5) (.mov (.const .nilIface)) <|
              .nil)))
              .ret))))))⟩
theorem m_mem_Mem_granule : toFn Tryd.prog 41 = some c_mem_Mem_granule := by kernel_rfl
abbrev n_mem_Mem_granule : FuncId := 41
/-- hasp/pack.Put -/
def c_pack_Put : MFn := ⟨42, 1, [.cn 2 16],
  (.seq
    (.op none (some 1) (.bx 39 true (.tmp 0)) <|
    (.op none (some 2) (.al 94 [(.int .u8 0), (.int .u8 0), (.int .u8 0), (.int .u8 0), (.int .u8 0), (.int .u8 0), (.int .u8 0), (.int .u8 0), (.int .u8 0), (.int .u8 0), (.int .u8 0), (.int .u8 0), (.int .u8 0), (.int .u8 0), (.int .u8 0), (.int .u8 0)]) <|
    .nil))
    (.seq
      (.op none (some 3) (.mov (.const (.slice none 0 0))) <|
      .nil)
      (.seq
        (.seq
          (.op none (some 8) (.fadr 1 (.tmp 1)) <|
          (.op none (some 9) (.ld1 (.tmp 8)) <|
          (.op none (some 10) (.fadr 2 (.tmp 1)) <|
          (.op none (some 11) (.ld1 (.tmp 10)) <|
          (.op none (some 12) (.fadr 3 (.tmp 1)) <|
          (.op none (some 13) (.ld1 (.tmp 12)) <|
          (.op none (some 14) (.bldS 36 3 [(.int .u32 0), (.int .u32 0), (.int .u32 0)] [(0, 1, (.tmp 9)), (1, 1, (.tmp 11)), (2, 1, (.tmp 13))]) <|
          (.op none (some 15) (.lenS (.tmp 14)) <|
          (.op none (some 16) (.mov (.const (.int .i64 0))) <|
          .nil)))))))))
          (.block 0
            (.loop
              (.seq
                (.op none (some 17) (.icmp .lss (.tmp 16) (.tmp 15)) <|
                .nil)
                (.seq
                  (.cond (.tmp 17)
                    .nil
                    (.exit 0))
                  (.seq
                    (.block 1
                      (.seq
                        (.op none (some 18) (.idxS 1 (.tmp 14) (.tmp 16)) <|
                        (.op none (some 19) (.ld1 (.tmp 18)) <|
                        (.op none (some 5) (.mov (.tmp 19)) <|
                        .nil)))
                        (.op none (some 20) (.mov (.tmp 3)) <|
                        (.op none (some 21) (.mov (.tmp 5)) <|
                        (.op none (some 22) (.call 73 [(.tmp 20), (.tmp 21), (.const (.int .i64 4))]) <|
                        (.op none (some 3) (.mov (.tmp 22)) <|
                        .nil))))))
                    (.op none (some 23) (.iar .add (.tmp 16) (.const (.int .i64 1))) <|
                    (.op none (some 16) (.mov (.tmp 23)) <|
                    .nil))))))))
        (.seq
          (.seq
            (.op none (some 24) (.fadr 4 (.tmp 1)) <|
            (.op none (some 25) (.ld1 (.tmp 24)) <|
            (.op none (some 26) (.fadr 5 (.tmp 1)) <|
            (.op none (some 27) (.ld1 (.tmp 26)) <|
            (.op none (some 28) (.bldS 37 2 [(.int .u16 0), (.int .u16 0)] [(0, 1, (.tmp 25)), (1, 1, (.tmp 27))]) <|
            (.op none (some 29) (.lenS (.tmp 28)) <|
            (.op none (some 30) (.mov (.const (.int .i64 0))) <|
            .nil)))))))
            (.block 2
              (.loop
                (.seq
                  (.op none (some 31) (.icmp .lss (.tmp 30) (.tmp 29)) <|
                  .nil)
                  (.seq
                    (.cond (.tmp 31)
                      .nil
                      (.exit 2))
                    (.seq
                      (.block 3
                        (.seq
                          (.op none (some 32) (.idxS 1 (.tmp 28) (.tmp 30)) <|
                          (.op none (some 33) (.ld1 (.tmp 32)) <|
                          (.op none (some 7) (.mov (.tmp 33)) <|
                          .nil)))
                          (.op none (some 34) (.mov (.tmp 3)) <|
                          (.op none (some 35) (.mov (.tmp 7)) <|
                          (.op none (some 36) (.conv .u32 (.tmp 35)) <|
                          (.op none (some 37) (.call 73 [(.tmp 34), (.tmp 36), (.const (.int .i64 2))]) <|
                          (.op none (some 3) (.mov (.tmp 37)) <|
                          .nil)))))))
                      (.op none (some 38) (.iar .add (.tmp 30) (.const (.int .i64 1))) <|
                      (.op none (some 30) (.mov (.tmp 38)) <|
                      .nil))))))))
          (.seq
            (.op none (some 39) (.mov (.tmp 3)) <|
            (.op none (some 40) (.arA 16 (.tmp 39)) <|
            (.op none (some 41) (.ldn 16 (.tmp 40)) <|
            (.op none none (.stn 16 (.tmp 2) (.tmp 41)) <|
            .nil))))
            .ret)))))⟩
theorem m_pack_Put : toFn Tryd.prog 42 = some c_pack_Put := by kernel_rfl
abbrev n_pack_Put : FuncId := 42
/-- hasp/haspref11.Put -/
def c_haspref11_Put : MFn := ⟨33, 1, [.tmp 2],
  (.seq
    (.op none (some 1) (.bx 46 true (.tmp 0)) <|
    (.op none (some 2) (.mov (.const (.slice none 0 0))) <|
    .nil))
    (.seq
      (.draw
        (.op none (some 4) (.fadr 1 (.tmp 1)) <|
        (.op none (some 5) (.ld1 (.tmp 4)) <|
        (.op none (some 7) (.fadr 2 (.tmp 1)) <|
        (.op none (some 8) (.ld1 (.tmp 7)) <|
        (.op none (some 6) (.call 66 [(.tmp 5)]) <|
        (.op none (some 9) (.call 66 [(.tmp 8)]) <|
        (.op none (some 10) (.bi .append [35, 35] 35 [(.tmp 6), (.tmp 9)]) <|
        (.op none (some 3) (.mov (.tmp 10)) <|
        .nil)))))))))
      (.seq
        (.op none (some 11) (.mov (.tmp 3)) <|
        (.op none (some 12) (.fadr 3 (.tmp 1)) <|
        (.op none (some 13) (.ld1 (.tmp 12)) <|
        (.op none (some 14) (.call 66 [(.tmp 13)]) <|
        (.op none (some 15) (.bi .append [35, 35] 35 [(.tmp 11), (.tmp 14)]) <|
        (.op none (some 3) (.mov (.tmp 15)) <|
        .nil))))))
        (.seq
          (.op none (some 16) (.mov (.tmp 3)) <|
          (.op none (some 17) (.fadr 4 (.tmp 1)) <|
          (.op none (some 18) (.ld1 (.tmp 17)) <|
          (.op none (some 19) (.conv .u8 (.tmp 18)) <|
          (.op none (some 20) (.fadr 4 (.tmp 1)) <|
          (.op none (some 21) (.ld1 (.tmp 20)) <|
          (.op none (some 22) (.ishC .shr (.tmp 21) 8) <|
          (.op none (some 23) (.conv .u8 (.tmp 22)) <|
          (.op none (some 24) (.fadr 5 (.tmp 1)) <|
          (.op none (some 25) (.ld1 (.tmp 24)) <|
          (.op none (some 26) (.conv .u8 (.tmp 25)) <|
          (.op none (some 27) (.fadr 5 (.tmp 1)) <|
          (.op none (some 28) (.ld1 (.tmp 27)) <|
          (.op none (some 29) (.ishC .shr (.tmp 28) 8) <|
          (.op none (some 30) (.conv .u8 (.tmp 29)) <|
          (.op none (some 31) (.bldS 5 4 [(.int .u8 0), (.int .u8 0), (.int .u8 0), (.int .u8 0)] [(0, 1, (.tmp 19)), (1, 1, (.tmp 23)), (2, 1, (.tmp 26)), (3, 1, (.tmp 30))]) <|
          (.op none (some 32) (.bi .append [35, 35] 35 [(.tmp 16), (.tmp 31)]) <|
          (.op none (some 2) (.mov (.tmp 32)) <|
          .nil))))))))))))))))))
          .ret))))⟩
theorem m_haspref11_Put : toFn Tryd.prog 43 = some c_haspref11_Put := by kernel_rfl
abbrev n_haspref11_Put : FuncId := 43
/-- slices.Clip[[]byte,byte] -/
def c_slices_Clip_bytebyte : MFn := ⟨9, 1, [.tmp 2],
  (.seq
    (.op none (some 2) (.mov (.const (.slice none 0 0))) <|
    .nil)
    (.seq
      (.op none (some 3) (.mov (.tmp 0)) <|
      (.op none (some 4) (.mov (.tmp 0)) <|
      (.op none (some 5) (.lenS (.tmp 4)) <|
      (.op none (some 6) (.mov (.tmp 0)) <|
      (.op none (some 7) (.lenS (.tmp 6)) <|
      (.op none (some 8) (.slS 1 (.tmp 3) none (some (.tmp 5)) (some (.tmp 7))) <|
      (.op none (some 2) (.mov (.tmp 8)) <|
      .nil)))))))
      .ret))⟩
theorem m_slices_Clip_bytebyte : toFn Tryd.prog 44 = some c_slices_Clip_bytebyte := by kernel_rfl
abbrev n_slices_Clip_bytebyte : FuncId := 44
/-- slices.Clone[[]byte,byte] -/
def c_slices_Clone_bytebyte : MFn := ⟨8, 1, [.tmp 2],
  (.seq
    (.op none (some 2) (.mov (.const (.slice none 0 0))) <|
    .nil)
    (.seq
      (.seq
        (.op none (some 3) (.mov (.tmp 0)) <|
        (.op none (some 4) (.slnil false (.tmp 3)) <|
        .nil))
        (.cond (.tmp 4)
          (.seq
            (.op none (some 2) (.mov (.const (.slice none 0 0))) <|
            .nil)
            .ret)
          .nil))
      (.seq
        (.op none (some 5) (.bldS 5 0 [] []) <|
        (.op none (some 6) (.mov (.tmp 0)) <|
        (.op none (some 7) (.bi .append [35, 35] 35 [(.tmp 5), (.tmp 6)]) <|
        (.op none (some 2) (.mov (.tmp 7)) <|
        .nil))))
        .ret)))⟩
theorem m_slices_Clone_bytebyte : toFn Tryd.prog 45 = some c_slices_Clone_bytebyte := by kernel_rfl
abbrev n_slices_Clone_bytebyte : FuncId := 45
/-- hasp/pack.Get -/
def c_pack_Get : MFn := ⟨51, 2, [.cn 4 6],
  (.seq
    (.op none (some 2) (.bx 94 true (.tmp 0)) <|
    (.op none (some 4) (.al 39 [(.bool false), (.int .u32 0), (.int .u32 0), (.int .u32 0), (.int .u16 0), (.int .u16 0)]) <|
    .nil))
    (.seq
      (.op none (some 12) (.mov (.tmp 1)) <|
      (.op none (some 13) (.bld [(.bool false), (.int .u32 0), (.int .u32 0), (.int .u32 0), (.int .u16 0), (.int .u16 0)] [(0, 1, (.tmp 12))]) <|
      (.op none (some 5) (.al 39 [(.bool false), (.int .u32 0), (.int .u32 0), (.int .u32 0), (.int .u16 0), (.int .u16 0)]) <|
      (.op none none (.stn 6 (.tmp 5) (.tmp 13)) <|
      .nil))))
      (.seq
        (.op none (some 14) (.slA 16 1 (.tmp 2) none none none) <|
        (.op none (some 6) (.mov (.tmp 14)) <|
        .nil))
        (.seq
          (.seq
            (.op none (some 15) (.fadr 1 (.tmp 5)) <|
            (.op none (some 16) (.fadr 2 (.tmp 5)) <|
            (.op none (some 17) (.fadr 3 (.tmp 5)) <|
            (.op none (some 18) (.bldS 135 3 [(.pointer none), (.pointer none), (.pointer none)] [(0, 1, (.tmp 15)), (1, 1, (.tmp 16)), (2, 1, (.tmp 17))]) <|
            (.op none (some 19) (.lenS (.tmp 18)) <|
            (.op none (some 20) (.mov (.const (.int .i64 0))) <|
            .nil))))))
            (.block 0
              (.loop
                (.seq
                  (.op none (some 21) (.icmp .lss (.tmp 20) (.tmp 19)) <|
                  .nil)
                  (.seq
                    (.cond (.tmp 21)
                      .nil
                      (.exit 0))
                    (.seq
                      (.block 1
                        (.seq
                          (.op none (some 22) (.idxS 1 (.tmp 18) (.tmp 20)) <|
                          (.op none (some 23) (.ld1 (.tmp 22)) <|
                          (.op none (some 8) (.mov (.tmp 23)) <|
                          .nil)))
                          (.op none (some 25) (.mov (.tmp 8)) <|
                          (.op none (some 26) (.mov (.tmp 6)) <|
                          (.op none (some 27) (.call 74 [(.tmp 26), (.const (.int .i64 4))]) <|
                          (.op none (some 24) (.mov (.tmp 27)) <|
                          (.op none (some 28) (.ext (.tmp 24) 0) <|
                          (.op none (some 29) (.ext (.tmp 24) 1) <|
                          (.op none (some 30) (.nilchk (.tmp 25)) <|
                          (.op none none (.st1 (.tmp 30) (.tmp 28)) <|
                          (.op none (some 6) (.mov (.tmp 29)) <|
                          .nil)))))))))))
                      (.op none (some 31) (.iar .add (.tmp 20) (.const (.int .i64 1))) <|
                      (.op none (some 20) (.mov (.tmp 31)) <|
                      .nil))))))))
          (.seq
            (.seq
              (.op none (some 32) (.fadr 4 (.tmp 5)) <|
              (.op none (some 33) (.fadr 5 (.tmp 5)) <|
              (.op none (some 34) (.bldS 139 2 [(.pointer none), (.pointer none)] [(0, 1, (.tmp 32)), (1, 1, (.tmp 33))]) <|
              (.op none (some 35) (.lenS (.tmp 34)) <|
              (.op none (some 36) (.mov (.const (.int .i64 0))) <|
              .nil)))))
              (.block 2
                (.loop
                  (.seq
                    (.op none (some 37) (.icmp .lss (.tmp 36) (.tmp 35)) <|
                    .nil)
                    (.seq
                      (.cond (.tmp 37)
                        .nil
                        (.exit 2))
                      (.seq
                        (.block 3
                          (.seq
                            (.op none (some 38) (.idxS 1 (.tmp 34) (.tmp 36)) <|
                            (.op none (some 39) (.ld1 (.tmp 38)) <|
                            (.op none (some 10) (.mov (.tmp 39)) <|
                            .nil)))
                            (.seq
                              (.op none (some 11) (.mov (.const (.int .u32 0))) <|
                              .nil)
                              (.seq
                                (.op none (some 41) (.mov (.tmp 6)) <|
                                (.op none (some 42) (.call 74 [(.tmp 41), (.const (.int .i64 2))]) <|
                                (.op none (some 40) (.mov (.tmp 42)) <|
                                (.op none (some 43) (.ext (.tmp 40) 0) <|
                                (.op none (some 44) (.ext (.tmp 40) 1) <|
                                (.op none (some 11) (.mov (.tmp 43)) <|
                                (.op none (some 6) (.mov (.tmp 44)) <|
                                .nil)))))))
                                (.op none (some 45) (.mov (.tmp 10)) <|
                                (.op none (some 46) (.mov (.tmp 11)) <|
                                (.op none (some 47) (.conv .u16 (.tmp 46)) <|
                                (.op none (some 48) (.nilchk (.tmp 45)) <|
                                (.op none none (.st1 (.tmp 48) (.tmp 47)) <|
                                .nil)))))))))
                        (.op none (some 49) (.iar .add (.tmp 36) (.const (.int .i64 1))) <|
                        (.op none (some 36) (.mov (.tmp 49)) <|
                        .nil))))))))
            (.seq
              (.op none (some 50) (.ldn 6 (.tmp 5)) <|
              (.op none none (.stn 6 (.tmp 4) (.tmp 50)) <|
              .nil))
              .ret))))))⟩
theorem m_pack_Get : toFn Tryd.prog 46 = some c_pack_Get := by kernel_rfl
abbrev n_pack_Get : FuncId := 46
/-- hasp/haspref11.Get -/
def c_haspref11_Get : MFn := ⟨24, 2, [.cn 4 6],
  (.seq
    (.op none (some 4) (.al 46 [(.bool false), (.int .u32 0), (.int .u32 0), (.int .u32 0), (.int .u16 0), (.int .u16 0)]) <|
    .nil)
    (.seq
      (.draw
        (.op none (some 5) (.mov (.tmp 1)) <|
        (.op none (some 6) (.mov (.tmp 0)) <|
        (.op none (some 7) (.slS 1 (.tmp 6) none (some (.const (.int .i64 4))) none) <|
        (.op none (some 9) (.mov (.tmp 0)) <|
        (.op none (some 10) (.slS 1 (.tmp 9) (some (.const (.int .i64 4))) (some (.const (.int .i64 8))) none) <|
        (.op none (some 12) (.mov (.tmp 0)) <|
        (.op none (some 13) (.slS 1 (.tmp 12) (some (.const (.int .i64 8))) (some (.const (.int .i64 12))) none) <|
        (.op none (some 15) (.mov (.tmp 0)) <|
        (.op none (some 16) (.slS 1 (.tmp 15) (some (.const (.int .i64 12))) (some (.const (.int .i64 14))) none) <|
        (.op none (some 19) (.mov (.tmp 0)) <|
        (.op none (some 20) (.slS 1 (.tmp 19) (some (.const (.int .i64 14))) (some (.const (.int .i64 16))) none) <|
        (.op none (some 8) (.call 62 [(.tmp 7)]) <|
        (.op none (some 11) (.call 62 [(.tmp 10)]) <|
        (.op none (some 14) (.call 62 [(.tmp 13)]) <|
        (.op none (some 17) (.call 62 [(.tmp 16)]) <|
        (.op none (some 18) (.conv .u16 (.tmp 17)) <|
        (.op none (some 21) (.call 62 [(.tmp 20)]) <|
        (.op none (some 22) (.conv .u16 (.tmp 21)) <|
        (.op none (some 23) (.bld [(.bool false), (.int .u32 0), (.int .u32 0), (.int .u32 0), (.int .u16 0), (.int .u16 0)] [(0, 1, (.tmp 5)), (1, 1, (.tmp 8)), (2, 1, (.tmp 11)), (3, 1, (.tmp 14)), (4, 1, (.tmp 18)), (5, 1, (.tmp 22))]) <|
        (.op none none (.stn 6 (.tmp 4) (.tmp 23)) <|
        .nil)))))))))))))))))))))
      .ret))⟩
theorem m_haspref11_Get : toFn Tryd.prog 47 = some c_haspref11_Get := by kernel_rfl
abbrev n_haspref11_Get : FuncId := 47
/-- slices.Clone[[]bool,bool] -/
def c_slices_Clone_boolbool : MFn := ⟨8, 1, [.tmp 2],
  (.seq
    (.op none (some 2) (.mov (.const (.slice none 0 0))) <|
    .nil)
    (.seq
      (.seq
        (.op none (some 3) (.mov (.tmp 0)) <|
        (.op none (some 4) (.slnil false (.tmp 3)) <|
        .nil))
        (.cond (.tmp 4)
          (.seq
            (.op none (some 2) (.mov (.const (.slice none 0 0))) <|
            .nil)
            .ret)
          .nil))
      (.seq
        (.op none (some 5) (.bldS 4 0 [] []) <|
        (.op none (some 6) (.mov (.tmp 0)) <|
        (.op none (some 7) (.bi .append [59, 59] 59 [(.tmp 5), (.tmp 6)]) <|
        (.op none (some 2) (.mov (.tmp 7)) <|
        .nil))))
        .ret)))⟩
theorem m_slices_Clone_boolbool : toFn Tryd.prog 48 = some c_slices_Clone_boolbool := by kernel_rfl
abbrev n_slices_Clone_boolbool : FuncId := 48
/-- bytes.Equal -/
def c_bytes_Equal : MFn := ⟨10, 2, [.tmp 4],
  (.seq
    (.op none (some 4) (.mov (.const (.bool false))) <|
    .nil)
    (.seq
      (.op none (some 5) (.mov (.tmp 0)) <|
      (.op none (some 6) (.cvBS (.tmp 5)) <|
      (.op none (some 7) (.mov (.tmp 1)) <|
      (.op none (some 8) (.cvBS (.tmp 7)) <|
      (.op none (some 9) (.scmp .eql (.tmp 6) (.tmp 8)) <|
      (.op none (some 4) (.mov (.tmp 9)) <|
      .nil))))))
      .ret))⟩
theorem m_bytes_Equal : toFn Tryd.prog 49 = some c_bytes_Equal := by kernel_rfl
abbrev n_bytes_Equal : FuncId := 49
/-- slices.Equal[[]bool,bool] -/
def c_slices_Equal_boolbool : MFn := ⟨26, 2, [.tmp 4],
  (.seq
    (.op none (some 4) (.mov (.const (.bool false))) <|
    .nil)
    (.seq
      (.seq
        (.op none (some 6) (.mov (.tmp 0)) <|
        (.op none (some 7) (.lenS (.tmp 6)) <|
        (.op none (some 8) (.mov (.tmp 1)) <|
        (.op none (some 9) (.lenS (.tmp 8)) <|
        (.op none (some 10) (.icmp .neq (.tmp 7) (.tmp 9)) <|
        .nil)))))
        (.cond (.tmp 10)
          (.seq
            (.op none (some 4) (.mov (.const (.bool false))) <|
            .nil)
            .ret)
          .nil))
      (.seq
        (.seq
          (.op none (some 11) (.mov (.tmp 0)) <|
          (.op none (some 12) (.lenS (.tmp 11)) <|
          (.op none (some 13) (.mov (.const (.int .i64 0))) <|
          .nil)))
          (.block 0
            (.loop
              (.seq
                (.op none (some 14) (.icmp .lss (.tmp 13) (.tmp 12)) <|
                .nil)
                (.seq
                  (.cond (.tmp 14)
                    .nil
                    (.exit 0))
                  (.seq
                    (.block 1
                      (.seq
                        (.op none (some 15) (.mov (.tmp 13)) <|
                        (.op none (some 5) (.mov (.tmp 15)) <|
                        .nil))
                        (.seq
                          (.draw
                            (.op none (some 16) (.mov (.tmp 0)) <|
                            (.op none (some 17) (.mov (.tmp 5)) <|
                            (.op none (some 18) (.idxS 1 (.tmp 16) (.tmp 17)) <|
                            (.op none (some 19) (.ld1 (.tmp 18)) <|
                            (.op none (some 20) (.mov (.tmp 1)) <|
                            (.op none (some 21) (.mov (.tmp 5)) <|
                            (.op none (some 22) (.idxS 1 (.tmp 20) (.tmp 21)) <|
                            (.op none (some 23) (.ld1 (.tmp 22)) <|
                            (.op none (some 24) (.beq true (.tmp 19) (.tmp 23)) <|
                            .nil))))))))))
                          (.cond (.tmp 24)
                            (.seq
                              (.op none (some 4) (.mov (.const (.bool false))) <|
                              .nil)
                              .ret)
                            .nil))))
                    (.op none (some 25) (.iar .add (.tmp 13) (.const (.int .i64 1))) <|
                    (.op none (some 13) (.mov (.tmp 25)) <|
                    .nil))))))))
        (.seq
          (.op none (some 4) (.mov (.const (.bool true))) <|
          .nil)
          .ret))))⟩
theorem m_slices_Equal_boolbool : toFn Tryd.prog 50 = some c_slices_Equal_boolbool := by kernel_rfl
abbrev n_slices_Equal_boolbool : FuncId := 50
/-- (*hasp/haspref11.Mem).Tags -/
def c_haspref11_Mem_Tags : MFn := ⟨27, 1, [.tmp 2],
  (.seq
    (.op none (some 2) (.mov (.const (.slice none 0 0))) <|
    .nil)
    (.seq
      (.op none (some 3) (.mov (.const (.slice none 0 0))) <|
      .nil)
      (.seq
        (.seq
          (.op none (some 4) (.mov (.const (.int .i64 0))) <|
          .nil)
          (.block 0
            (.loop
              (.seq
                (.seq
                  (.op none (some 5) (.mov (.tmp 4)) <|
                  (.op none (some 6) (.mov (.tmp 0)) <|
                  (.op none (some 7) (.nilchk (.tmp 6)) <|
                  (.op none (some 8) (.fadr 1 (.tmp 7)) <|
                  (.op none (some 9) (.ld1 (.tmp 8)) <|
                  (.op none (some 10) (.lenS (.tmp 9)) <|
                  (.op none (some 11) (.icmp .lss (.tmp 5) (.tmp 10)) <|
                  .nil)))))))
                  (.cond (.tmp 11)
                    .nil
                    (.exit 0)))
                (.seq
                  (.block 1
                    (.seq
                      (.op none (some 14) (.mov (.tmp 0)) <|
                      (.op none (some 15) (.nilchk (.tmp 14)) <|
                      (.op none (some 16) (.fadr 1 (.tmp 15)) <|
                      (.op none (some 17) (.ld1 (.tmp 16)) <|
                      (.op none (some 18) (.mov (.tmp 4)) <|
                      (.op none (some 19) (.idxS 1 (.tmp 17) (.tmp 18)) <|
                      (.op none (some 20) (.ld1 (.tmp 19)) <|
                      .nil)))))))
                      (.cond (.tmp 20)
                        (.op none (some 21) (.mov (.tmp 3)) <|
                        (.op none (some 22) (.mov (.tmp 4)) <|
                        (.op none (some 23) (.iar .mul (.const (.int .i64 16)) (.tmp 22)) <|
                        (.op none (some 24) (.bldS 3 1 [(.int .i64 0)] [(0, 1, (.tmp 23))]) <|
                        (.op none (some 25) (.bi .append [79, 79] 79 [(.tmp 21), (.tmp 24)]) <|
                        (.op none (some 3) (.mov (.tmp 25)) <|
                        .nil))))))
                        .nil)))
                  (.op none (some 12) (.mov (.tmp 4)) <|
                  (.op none (some 13) (.iar .add (.tmp 12) (.const (.int .i64 1))) <|
                  (.op none (some 4) (.mov (.tmp 13)) <|
                  .nil))))))))
        (.seq
          (.op none (some 26) (.mov (.tmp 3)) <|
          (.op none (some 2) (.mov (.tmp 26)) <|
          .nil))
          .ret))))⟩
theorem m_haspref11_Mem_Tags : toFn Tryd.prog 51 = some c_haspref11_Mem_Tags := by kernel_rfl
abbrev n_haspref11_Mem_Tags : FuncId := 51
/-- hasp/cap.Bounds -/
def c_cap_Bounds : MFn := ⟨26, 2, [.cn 4 6],
  (.seq
    (.op none (some 2) (.bx 39 true (.tmp 0)) <|
    (.op none (some 4) (.al 39 [(.bool false), (.int .u32 0), (.int .u32 0), (.int .u32 0), (.int .u16 0), (.int .u16 0)]) <|
    .nil))
    (.seq
      (.op none (some 6) (.ldn 6 (.tmp 2)) <|
      (.op none (some 7) (.call 75 [(.tmp 6), (.const (.int .i64 0)), (.const (.int .u16 0))]) <|
      (.op none (some 8) (.mov (.tmp 7)) <|
      (.op (some (8, true)) (some 9) (.ldn 6 (.tmp 2)) <|
      (.op (some (8, true)) (some 10) (.fadr 3 (.tmp 2)) <|
      (.op (some (8, true)) (some 11) (.ld1 (.tmp 10)) <|
      (.op (some (8, true)) (some 12) (.mov (.tmp 1)) <|
      (.op (some (8, true)) (some 13) (.call 76 [(.tmp 9), (.tmp 11), (.tmp 12)]) <|
      (.op none (some 14) (.pick (.tmp 8) (.tmp 13) (.const (.bool false))) <|
      (.op none (some 5) (.mov (.tmp 14)) <|
      .nil))))))))))
      (.seq
        (.op none (some 15) (.fadr 3 (.tmp 2)) <|
        (.op none (some 16) (.ld1 (.tmp 15)) <|
        (.op none (some 17) (.fadr 3 (.tmp 2)) <|
        (.op none (some 18) (.ld1 (.tmp 17)) <|
        (.op none (some 19) (.mov (.tmp 1)) <|
        (.op none (some 20) (.iar .add (.tmp 18) (.tmp 19)) <|
        (.op none (some 21) (.fadr 1 (.tmp 2)) <|
        (.op none none (.st1 (.tmp 21) (.tmp 16)) <|
        (.op none (some 22) (.fadr 2 (.tmp 2)) <|
        (.op none none (.st1 (.tmp 22) (.tmp 20)) <|
        .nil))))))))))
        (.seq
          (.op none (some 23) (.ldn 6 (.tmp 2)) <|
          (.op none (some 24) (.mov (.tmp 5)) <|
          (.op none (some 25) (.call 77 [(.tmp 23), (.tmp 24)]) <|
          (.op none none (.stn 6 (.tmp 4) (.tmp 25)) <|
          .nil))))
          .ret))))⟩
theorem m_cap_Bounds : toFn Tryd.prog 52 = some c_cap_Bounds := by kernel_rfl
abbrev n_cap_Bounds : FuncId := 52
/-- hasp/cap.SetAddr -/
def c_cap_SetAddr : MFn := ⟨11, 2, [.cn 4 6],
  (.seq
    (.op none (some 2) (.bx 39 true (.tmp 0)) <|
    (.op none (some 4) (.al 39 [(.bool false), (.int .u32 0), (.int .u32 0), (.int .u32 0), (.int .u16 0), (.int .u16 0)]) <|
    .nil))
    (.seq
      (.op none (some 5) (.mov (.tmp 1)) <|
      (.op none (some 6) (.fadr 3 (.tmp 2)) <|
      (.op none none (.st1 (.tmp 6) (.tmp 5)) <|
      .nil)))
      (.seq
        (.draw
          (.op none (some 7) (.ldn 6 (.tmp 2)) <|
          (.op none (some 8) (.ldn 6 (.tmp 2)) <|
          (.op none (some 9) (.call 75 [(.tmp 8), (.const (.int .i64 0)), (.const (.int .u16 0))]) <|
          (.op none (some 10) (.call 77 [(.tmp 7), (.tmp 9)]) <|
          (.op none none (.stn 6 (.tmp 4) (.tmp 10)) <|
          .nil))))))
        .ret)))⟩
theorem m_cap_SetAddr : toFn Tryd.prog 53 = some c_cap_SetAddr := by kernel_rfl
abbrev n_cap_SetAddr : FuncId := 53
/-- hasp/cap.AndPerm -/
def c_cap_AndPerm : MFn := ⟨14, 2, [.cn 4 6],
  (.seq
    (.op none (some 2) (.bx 39 true (.tmp 0)) <|
    (.op none (some 4) (.al 39 [(.bool false), (.int .u32 0), (.int .u32 0), (.int .u32 0), (.int .u16 0), (.int .u16 0)]) <|
    .nil))
    (.seq
      (.op none (some 5) (.fadr 4 (.tmp 2)) <|
      (.op none (some 6) (.ld1 (.tmp 5)) <|
      (.op none (some 7) (.mov (.tmp 1)) <|
      (.op none (some 8) (.iar .and (.tmp 6) (.tmp 7)) <|
      (.op none (some 9) (.fadr 4 (.tmp 2)) <|
      (.op none none (.st1 (.tmp 9) (.tmp 8)) <|
      .nil))))))
      (.seq
        (.draw
          (.op none (some 10) (.ldn 6 (.tmp 2)) <|
          (.op none (some 11) (.ldn 6 (.tmp 2)) <|
          (.op none (some 12) (.call 75 [(.tmp 11), (.const (.int .i64 0)), (.const (.int .u16 0))]) <|
          (.op none (some 13) (.call 77 [(.tmp 10), (.tmp 12)]) <|
          (.op none none (.stn 6 (.tmp 4) (.tmp 13)) <|
          .nil))))))
        .ret)))⟩
theorem m_cap_AndPerm : toFn Tryd.prog 54 = some c_cap_AndPerm := by kernel_rfl
abbrev n_cap_AndPerm : FuncId := 54
/-- hasp/access.Check -/
def c_access_Check : MFn := ⟨27, 4, [.tmp 8],
  (.seq
    (.op none (some 4) (.bx 39 true (.tmp 0)) <|
    (.op none (some 8) (.mov (.const .nilIface)) <|
    .nil))
    (.seq
      (.seq
        (.op none (some 10) (.ldn 6 (.tmp 4)) <|
        (.op none (some 11) (.mov (.tmp 1)) <|
        (.op none (some 12) (.mov (.tmp 2)) <|
        (.op none (some 13) (.mov (.tmp 3)) <|
        (.op none (some 14) (.call 78 [(.tmp 10), (.tmp 11), (.tmp 12), (.tmp 13)]) <|
        (.op none (some 9) (.mov (.tmp 14)) <|
        .nil))))))
        (.seq
          (.op none (some 15) (.mov (.tmp 9)) <|
          (.op none (some 16) (.mkif 83 (.tmp 15)) <|
          (.op none (some 17) (.mkif 83 (.const (.int .i64 0))) <|
          (.op none (some 18) (.call 38 [(.tmp 16), (.tmp 17)]) <|
          (.op none (some 19) (.bnot (.tmp 18)) <|
          .nil)))))
          (.cond (.tmp 19)
            (.seq
              (.op none (some 20) (.mov (.tmp 1)) <|
              (.op none (some 21) (.conv .i64 (.tmp 20)) <|
              (.op none (some 22) (.mov (.tmp 9)) <|
              (.op none (some 23) (.mkif 83 (.tmp 22)) <|
              (.op none (some 24) (.bld [(.string ⟨#[]⟩), (.int .i64 0), .nilIface] [(0, 1, (.const (.string ⟨#[97, 99, 99, 101, 115, 115]⟩))), (1, 1, (.tmp 21)), (2, 1, (.tmp 23))]) <|
              (.op none (some 25) (.bx 90 true (.tmp 24)) <|
              (.op none (some 26) (.mkif 86 (.tmp 25)) <|
              (.op none (some 8) (.mov (.tmp 26)) <|
              .nil))))))))
              .ret)
            .nil)))
      (.seq
        (.op none (some 8) (.mov (.const .nilIface)) <|
        .nil)
        .ret)))⟩
theorem m_access_Check : toFn Tryd.prog 55 = some c_access_Check := by kernel_rfl
abbrev n_access_Check : FuncId := 55
/-- hasp/haspref11.Root -/
def c_haspref11_Root : MFn := ⟨5, 1, [.cn 2 6],
  (.seq
    (.op none (some 2) (.al 46 [(.bool false), (.int .u32 0), (.int .u32 0), (.int .u32 0), (.int .u16 0), (.int .u16 0)]) <|
    .nil)
    (.seq
      (.op none (some 3) (.mov (.tmp 0)) <|
      (.op none (some 4) (.bld [(.bool false), (.int .u32 0), (.int .u32 0), (.int .u32 0), (.int .u16 0), (.int .u16 0)] [(0, 1, (.const (.bool true))), (1, 1, (.const (.int .u32 0))), (2, 1, (.tmp 3)), (3, 1, (.const (.int .u32 0))), (4, 1, (.const (.int .u16 127))), (5, 1, (.const (.int .u16 0)))]) <|
      (.op none none (.stn 6 (.tmp 2) (.tmp 4)) <|
      .nil)))
      .ret))⟩
theorem m_haspref11_Root : toFn Tryd.prog 56 = some c_haspref11_Root := by kernel_rfl
abbrev n_haspref11_Root : FuncId := 56
/-- hasp/access.size -/
def c_access_size : MFn := ⟨13, 1, [.tmp 2],
  (.seq
    (.op none (some 2) (.mov (.const .nilIface)) <|
    .nil)
    (.seq
      (.seq
        (.op none (some 3) (.mov (.tmp 0)) <|
        .nil)
        (.block 0
          (.seq
            (.seq
              (.op none (some 5) (.icmp .eql (.tmp 3) (.const (.int .i64 1))) <|
              (.op none (some 4) (.mov (.tmp 5)) <|
              .nil))
              (.cond (.tmp 4)
                .nil
                (.seq
                  (.op none (some 6) (.icmp .eql (.tmp 3) (.const (.int .i64 2))) <|
                  (.op none (some 4) (.mov (.tmp 6)) <|
                  .nil))
                  (.cond (.tmp 4)
                    .nil
                    (.op none (some 7) (.icmp .eql (.tmp 3) (.const (.int .i64 4))) <|
                    (.op none (some 4) (.mov (.tmp 7)) <|
                    .nil))))))
            (.cond (.tmp 4)
              (.seq
                (.op none (some 2) (.mov (.const .nilIface)) <|
                .nil)
                .ret)
              .nil))))
      (.seq
        (.op none (some 8) (.mov (.tmp 0)) <|
        (.op none (some 9) (.mkif 83 (.const (.int .i64 7))) <|
        (.op none (some 10) (.bld [(.string ⟨#[]⟩), (.int .i64 0), .nilIface] [(0, 1, (.const (.string ⟨#[115, 105, 122, 101]⟩))), (1, 1, (.tmp 8)), (2, 1, (.tmp 9))]) <|
        (.op none (some 11) (.bx 90 true (.tmp 10)) <|
        (.op none (some 12) (.mkif 86 (.tmp 11)) <|
        (.op none (some 2) (.mov (.tmp 12)) <|
        .nil))))))
        .ret)))⟩
theorem m_access_size : toFn Tryd.prog 57 = some c_access_size := by kernel_rfl
abbrev n_access_size : FuncId := 57
/-- hasp/access.place -/
def c_access_place : MFn := ⟨23, 4, [.tmp 8, .tmp 9],
  (.seq
    (.op none (some 4) (.bx 39 true (.tmp 0)) <|
    (.op none (some 8) (.mov (.const (.int .i64 0))) <|
    (.op none (some 9) (.mov (.const .nilIface)) <|
    .nil)))
    (.seq
      (.op none (some 11) (.fadr 3 (.tmp 4)) <|
      (.op none (some 12) (.ld1 (.tmp 11)) <|
      (.op none (some 13) (.mov (.tmp 1)) <|
      (.op none (some 14) (.conv .u32 (.tmp 13)) <|
      (.op none (some 15) (.iar .add (.tmp 12) (.tmp 14)) <|
      (.op none (some 10) (.mov (.tmp 15)) <|
      .nil))))))
      (.seq
        (.op none (some 16) (.mov (.tmp 10)) <|
        (.op none (some 17) (.conv .i64 (.tmp 16)) <|
        (.op none (some 18) (.ldn 6 (.tmp 4)) <|
        (.op none (some 19) (.mov (.tmp 10)) <|
        (.op none (some 20) (.mov (.tmp 2)) <|
        (.op none (some 21) (.mov (.tmp 3)) <|
        (.op none (some 22) (.call 55 [(.tmp 18), (.tmp 19), (.tmp 20), (.tmp 21)]) <|
        (.op none (some 8) (.mov (.tmp 17)) <|
        (.op none (some 9) (.mov (.tmp 22)) <|
        .nil)))))))))
        .ret)))⟩
theorem m_access_place : toFn Tryd.prog 58 = some c_access_place := by kernel_rfl
abbrev n_access_place : FuncId := 58
/-- hasp/word.Signed -/
def c_word_Signed : MFn := ⟨17, 2, [.tmp 4],
  (.seq
    (.op none (some 4) (.mov (.const (.int .u32 0))) <|
    .nil)
    (.seq
      (.op none (some 6) (.mov (.tmp 1)) <|
      (.op none (some 7) (.mnmx false (.tmp 6) (.const (.int .i64 1))) <|
      (.op none (some 8) (.mnmx true (.tmp 7) (.const (.int .i64 32))) <|
      (.op none (some 9) (.iar .sub (.const (.int .i64 32)) (.tmp 8)) <|
      (.op none (some 5) (.mov (.tmp 9)) <|
      .nil)))))
      (.seq
        (.op none (some 10) (.mov (.tmp 0)) <|
        (.op none (some 11) (.mov (.tmp 5)) <|
        (.op none (some 12) (.ish .shl (.tmp 10) (.tmp 11)) <|
        (.op none (some 13) (.conv .i32 (.tmp 12)) <|
        (.op none (some 14) (.mov (.tmp 5)) <|
        (.op none (some 15) (.ish .shr (.tmp 13) (.tmp 14)) <|
        (.op none (some 16) (.conv .u32 (.tmp 15)) <|
        (.op none (some 4) (.mov (.tmp 16)) <|
        .nil))))))))
        .ret)))⟩
theorem m_word_Signed : toFn Tryd.prog 59 = some c_word_Signed := by kernel_rfl
abbrev n_word_Signed : FuncId := 59
/-- hasp/haspref11.sized -/
def c_haspref11_sized : MFn := ⟨16, 1, [.cn 2 3],
  (.seq
    (.op none (some 2) (.al 31 [(.string ⟨#[]⟩), (.int .i64 0), (.int .i64 0)]) <|
    .nil)
    (.seq
      (.seq
        (.op none (some 3) (.mov (.tmp 0)) <|
        (.op none (some 4) (.icmp .eql (.tmp 3) (.const (.int .i64 1))) <|
        (.op none (some 5) (.mov (.tmp 4)) <|
        (.op (some (5, false)) (some 6) (.mov (.tmp 0)) <|
        (.op (some (5, false)) (some 7) (.icmp .eql (.tmp 6) (.const (.int .i64 2))) <|
        (.op none (some 8) (.pick (.tmp 5) (.const (.bool true)) (.tmp 7)) <|
        (.op none (some 9) (.mov (.tmp 8)) <|
        (.op (some (9, false)) (some 10) (.mov (.tmp 0)) <|
        (.op (some (9, false)) (some 11) (.icmp .eql (.tmp 10) (.const (.int .i64 4))) <|
        (.op none (some 12) (.pick (.tmp 9) (.const (.bool true)) (.tmp 11)) <|
        .nil))))))))))
        (.cond (.tmp 12)
          (.seq
            (.op none (some 13) (.bld [(.string ⟨#[]⟩), (.int .i64 0), (.int .i64 0)] []) <|
            (.op none none (.stn 3 (.tmp 2) (.tmp 13)) <|
            .nil))
            .ret)
          .nil))
      (.seq
        (.op none (some 14) (.mov (.tmp 0)) <|
        (.op none (some 15) (.bld [(.string ⟨#[]⟩), (.int .i64 0), (.int .i64 0)] [(0, 1, (.const (.string ⟨#[115, 105, 122, 101]⟩))), (1, 1, (.tmp 14)), (2, 1, (.const (.int .i64 7)))]) <|
        (.op none none (.stn 3 (.tmp 2) (.tmp 15)) <|
        .nil)))
        .ret)))⟩
theorem m_haspref11_sized : toFn Tryd.prog 60 = some c_haspref11_sized := by kernel_rfl
abbrev n_haspref11_sized : FuncId := 60
/-- hasp/haspref11.CheckAccess -/
def c_haspref11_CheckAccess : MFn := ⟨47, 4, [.cn 8 3],
  (.seq
    (.op none (some 4) (.bx 46 true (.tmp 0)) <|
    (.op none (some 8) (.al 31 [(.string ⟨#[]⟩), (.int .i64 0), (.int .i64 0)]) <|
    .nil))
    (.seq
      (.op none (some 9) (.mov (.const (.int .i64 0))) <|
      .nil)
      (.seq
        (.block 0
          (.seq
            (.op none (some 11) (.fadr 0 (.tmp 4)) <|
            (.op none (some 12) (.ld1 (.tmp 11)) <|
            (.op none (some 13) (.bnot (.tmp 12)) <|
            (.op none (some 10) (.mov (.tmp 13)) <|
            .nil))))
            (.cond (.tmp 10)
              (.op none (some 9) (.mov (.const (.int .i64 1))) <|
              .nil)
              (.seq
                (.op none (some 15) (.fadr 5 (.tmp 4)) <|
                (.op none (some 16) (.ld1 (.tmp 15)) <|
                (.op none (some 17) (.icmp .neq (.tmp 16) (.const (.int .u16 0))) <|
                (.op none (some 14) (.mov (.tmp 17)) <|
                .nil))))
                (.cond (.tmp 14)
                  (.op none (some 9) (.mov (.const (.int .i64 2))) <|
                  .nil)
                  (.seq
                    (.op none (some 19) (.fadr 4 (.tmp 4)) <|
                    (.op none (some 20) (.ld1 (.tmp 19)) <|
                    (.op none (some 21) (.mov (.tmp 3)) <|
                    (.op none (some 22) (.iar .and (.tmp 20) (.tmp 21)) <|
                    (.op none (some 23) (.mov (.tmp 3)) <|
                    (.op none (some 24) (.icmp .neq (.tmp 22) (.tmp 23)) <|
                    (.op none (some 18) (.mov (.tmp 24)) <|
                    .nil)))))))
                    (.cond (.tmp 18)
                      (.op none (some 9) (.mov (.const (.int .i64 3))) <|
                      .nil)
                      (.seq
                        (.op none (some 26) (.ldn 6 (.tmp 4)) <|
                        (.op none (some 27) (.mov (.tmp 1)) <|
                        (.op none (some 28) (.mov (.tmp 2)) <|
                        (.op none (some 29) (.call 79 [(.tmp 26), (.tmp 27), (.tmp 28)]) <|
                        (.op none (some 30) (.bnot (.tmp 29)) <|
                        (.op none (some 25) (.mov (.tmp 30)) <|
                        .nil))))))
                        (.cond (.tmp 25)
                          (.op none (some 9) (.mov (.const (.int .i64 4))) <|
                          .nil)
                          (.seq
                            (.op none (some 32) (.mov (.tmp 2)) <|
                            (.op none (some 33) (.icmp .gtr (.tmp 32) (.const (.int .u32 0))) <|
                            (.op none (some 34) (.mov (.tmp 33)) <|
                            (.op (some (34, true)) (some 35) (.mov (.tmp 1)) <|
                            (.op (some (34, true)) (some 36) (.mov (.tmp 2)) <|
                            (.op (some (34, true)) (some 37) (.idiv .rem (.tmp 35) (.tmp 36)) <|
                            (.op (some (34, true)) (some 38) (.icmp .neq (.tmp 37) (.const (.int .u32 0))) <|
                            (.op none (some 39) (.pick (.tmp 34) (.tmp 38) (.const (.bool false))) <|
                            (.op none (some 31) (.mov (.tmp 39)) <|
                            .nil)))))))))
                            (.cond (.tmp 31)
                              (.op none (some 9) (.mov (.const (.int .i64 5))) <|
                              .nil)
                              .nil)))))))))))
        (.seq
          (.seq
            (.op none (some 40) (.mov (.tmp 9)) <|
            (.op none (some 41) (.icmp .eql (.tmp 40) (.const (.int .i64 0))) <|
            .nil))
            (.cond (.tmp 41)
              (.seq
                (.op none (some 42) (.bld [(.string ⟨#[]⟩), (.int .i64 0), (.int .i64 0)] []) <|
                (.op none none (.stn 3 (.tmp 8) (.tmp 42)) <|
                .nil))
                .ret)
              .nil))
          (.seq
            (.op none (some 43) (.mov (.tmp 1)) <|
            (.op none (some 44) (.conv .i64 (.tmp 43)) <|
            (.op none (some 45) (.mov (.tmp 9)) <|
            (.op none (some 46) (.bld [(.string ⟨#[]⟩), (.int .i64 0), (.int .i64 0)] [(0, 1, (.const (.string ⟨#[97, 99, 99, 101, 115, 115]⟩))), (1, 1, (.tmp 44)), (2, 1, (.tmp 45))]) <|
            (.op none none (.stn 3 (.tmp 8) (.tmp 46)) <|
            .nil)))))
            .ret)))))⟩
theorem m_haspref11_CheckAccess : toFn Tryd.prog 61 = some c_haspref11_CheckAccess := by kernel_rfl
abbrev n_haspref11_CheckAccess : FuncId := 61
/-- hasp/haspref11.Word -/
def c_haspref11_Word : MFn := ⟨21, 1, [.tmp 2],
  (.seq
    (.op none (some 2) (.mov (.const (.int .u32 0))) <|
    .nil)
    (.seq
      (.op none (some 3) (.mov (.const (.int .u32 0))) <|
      .nil)
      (.seq
        (.seq
          (.op none (some 5) (.mov (.tmp 0)) <|
          (.op none (some 6) (.lenS (.tmp 5)) <|
          (.op none (some 7) (.iar .sub (.tmp 6) (.const (.int .i64 1))) <|
          (.op none (some 4) (.mov (.tmp 7)) <|
          .nil))))
          (.block 0
            (.loop
              (.seq
                (.seq
                  (.op none (some 8) (.mov (.tmp 4)) <|
                  (.op none (some 9) (.icmp .geq (.tmp 8) (.const (.int .i64 0))) <|
                  .nil))
                  (.cond (.tmp 9)
                    .nil
                    (.exit 0)))
                (.seq
                  (.block 1
                    (.op none (some 12) (.mov (.tmp 3)) <|
                    (.op none (some 13) (.ishC .shl (.tmp 12) 8) <|
                    (.op none (some 14) (.mov (.tmp 0)) <|
                    (.op none (some 15) (.mov (.tmp 4)) <|
                    (.op none (some 16) (.idxS 1 (.tmp 14) (.tmp 15)) <|
                    (.op none (some 17) (.ld1 (.tmp 16)) <|
                    (.op none (some 18) (.conv .u32 (.tmp 17)) <|
                    (.op none (some 19) (.iar .or (.tmp 13) (.tmp 18)) <|
                    (.op none (some 3) (.mov (.tmp 19)) <|
                    .nil))))))))))
                  (.op none (some 10) (.mov (.tmp 4)) <|
                  (.op none (some 11) (.iar .sub (.tmp 10) (.const (.int .i64 1))) <|
                  (.op none (some 4) (.mov (.tmp 11)) <|
                  .nil))))))))
        (.seq
          (.op none (some 20) (.mov (.tmp 3)) <|
          (.op none (some 2) (.mov (.tmp 20)) <|
          .nil))
          .ret))))⟩
theorem m_haspref11_Word : toFn Tryd.prog 62 = some c_haspref11_Word := by kernel_rfl
abbrev n_haspref11_Word : FuncId := 62
/-- hasp/haspref11.Signed -/
def c_haspref11_Signed : MFn := ⟨20, 2, [.tmp 4],
  (.seq
    (.op none (some 4) (.mov (.const (.int .u32 0))) <|
    .nil)
    (.seq
      (.seq
        (.op none (some 6) (.mov (.tmp 1)) <|
        (.op none (some 7) (.icmp .lss (.tmp 6) (.const (.int .i64 1))) <|
        .nil))
        (.cond (.tmp 7)
          (.op none (some 1) (.mov (.const (.int .i64 1))) <|
          .nil)
          .nil))
      (.seq
        (.seq
          (.op none (some 8) (.mov (.tmp 1)) <|
          (.op none (some 9) (.icmp .gtr (.tmp 8) (.const (.int .i64 32))) <|
          .nil))
          (.cond (.tmp 9)
            (.op none (some 1) (.mov (.const (.int .i64 32))) <|
            .nil)
            .nil))
        (.seq
          (.op none (some 10) (.mov (.tmp 1)) <|
          (.op none (some 11) (.iar .sub (.const (.int .i64 32)) (.tmp 10)) <|
          (.op none (some 12) (.conv .u64 (.tmp 11)) <|
          (.op none (some 5) (.mov (.tmp 12)) <|
          .nil))))
          (.seq
            (.op none (some 13) (.mov (.tmp 0)) <|
            (.op none (some 14) (.mov (.tmp 5)) <|
            (.op none (some 15) (.ish .shl (.tmp 13) (.tmp 14)) <|
            (.op none (some 16) (.conv .i32 (.tmp 15)) <|
            (.op none (some 17) (.mov (.tmp 5)) <|
            (.op none (some 18) (.ish .shr (.tmp 16) (.tmp 17)) <|
            (.op none (some 19) (.conv .u32 (.tmp 18)) <|
            (.op none (some 4) (.mov (.tmp 19)) <|
            .nil))))))))
            .ret)))))⟩
theorem m_haspref11_Signed : toFn Tryd.prog 63 = some c_haspref11_Signed := by kernel_rfl
abbrev n_haspref11_Signed : FuncId := 63
/-- hasp/cap.Clear -/
def c_cap_Clear : MFn := ⟨5, 1, [.cn 2 6],
  (.seq
    (.op none (some 1) (.bx 39 true (.tmp 0)) <|
    (.op none (some 2) (.al 39 [(.bool false), (.int .u32 0), (.int .u32 0), (.int .u32 0), (.int .u16 0), (.int .u16 0)]) <|
    .nil))
    (.seq
      (.op none (some 3) (.ldn 6 (.tmp 1)) <|
      (.op none (some 4) (.call 77 [(.tmp 3), (.const (.bool false))]) <|
      (.op none none (.stn 6 (.tmp 2) (.tmp 4)) <|
      .nil)))
      .ret))⟩
theorem m_cap_Clear : toFn Tryd.prog 64 = some c_cap_Clear := by kernel_rfl
abbrev n_cap_Clear : FuncId := 64
/-- hasp/haspref11.asks -/
def c_haspref11_asks : MFn := ⟨12, 2, [.cn 4 6],
  (.seq
    (.op none (some 2) (.bx 46 true (.tmp 0)) <|
    (.op none (some 4) (.al 46 [(.bool false), (.int .u32 0), (.int .u32 0), (.int .u32 0), (.int .u16 0), (.int .u16 0)]) <|
    .nil))
    (.seq
      (.op none (some 5) (.fadr 0 (.tmp 2)) <|
      (.op none (some 6) (.ld1 (.tmp 5)) <|
      (.op none (some 7) (.mov (.tmp 6)) <|
      (.op (some (7, true)) (some 8) (.mov (.tmp 1)) <|
      (.op none (some 9) (.pick (.tmp 7) (.tmp 8) (.const (.bool false))) <|
      (.op none (some 10) (.fadr 0 (.tmp 2)) <|
      (.op none none (.st1 (.tmp 10) (.tmp 9)) <|
      .nil)))))))
      (.seq
        (.op none (some 11) (.ldn 6 (.tmp 2)) <|
        (.op none none (.stn 6 (.tmp 4) (.tmp 11)) <|
        .nil))
        .ret)))⟩
theorem m_haspref11_asks : toFn Tryd.prog 65 = some c_haspref11_asks := by kernel_rfl
abbrev n_haspref11_asks : FuncId := 65
/-- hasp/haspref11.word -/
def c_haspref11_word : MFn := ⟨15, 1, [.tmp 2],
  (.seq
    (.op none (some 2) (.mov (.const (.slice none 0 0))) <|
    .nil)
    (.seq
      (.op none (some 3) (.mov (.tmp 0)) <|
      (.op none (some 4) (.conv .u8 (.tmp 3)) <|
      (.op none (some 5) (.mov (.tmp 0)) <|
      (.op none (some 6) (.ishC .shr (.tmp 5) 8) <|
      (.op none (some 7) (.conv .u8 (.tmp 6)) <|
      (.op none (some 8) (.mov (.tmp 0)) <|
      (.op none (some 9) (.ishC .shr (.tmp 8) 16) <|
      (.op none (some 10) (.conv .u8 (.tmp 9)) <|
      (.op none (some 11) (.mov (.tmp 0)) <|
      (.op none (some 12) (.ishC .shr (.tmp 11) 24) <|
      (.op none (some 13) (.conv .u8 (.tmp 12)) <|
      (.op none (some 14) (.bldS 5 4 [(.int .u8 0), (.int .u8 0), (.int .u8 0), (.int .u8 0)] [(0, 1, (.tmp 4)), (1, 1, (.tmp 7)), (2, 1, (.tmp 10)), (3, 1, (.tmp 13))]) <|
      (.op none (some 2) (.mov (.tmp 14)) <|
      .nil)))))))))))))
      .ret))⟩
theorem m_haspref11_word : toFn Tryd.prog 66 = some c_haspref11_word := by kernel_rfl
abbrev n_haspref11_word : FuncId := 66
/-- hasp/pack.put -/
def c_pack_put : MFn := ⟨22, 3, [.tmp 6],
  (.seq
    (.op none (some 6) (.mov (.const (.slice none 0 0))) <|
    .nil)
    (.seq
      (.seq
        (.op none (some 8) (.mov (.tmp 2)) <|
        (.op none (some 9) (.mov (.const (.int .i64 0))) <|
        .nil))
        (.block 0
          (.loop
            (.seq
              (.op none (some 10) (.icmp .lss (.tmp 9) (.tmp 8)) <|
              .nil)
              (.seq
                (.cond (.tmp 10)
                  .nil
                  (.exit 0))
                (.seq
                  (.block 1
                    (.seq
                      (.op none (some 11) (.mov (.tmp 9)) <|
                      (.op none (some 7) (.mov (.tmp 11)) <|
                      .nil))
                      (.op none (some 12) (.mov (.tmp 0)) <|
                      (.op none (some 13) (.mov (.tmp 1)) <|
                      (.op none (some 14) (.mov (.tmp 7)) <|
                      (.op none (some 15) (.iar .mul (.const (.int .i64 8)) (.tmp 14)) <|
                      (.op none (some 16) (.ish .shr (.tmp 13) (.tmp 15)) <|
                      (.op none (some 17) (.conv .u8 (.tmp 16)) <|
                      (.op none (some 18) (.bldS 5 1 [(.int .u8 0)] [(0, 1, (.tmp 17))]) <|
                      (.op none (some 19) (.bi .append [35, 35] 35 [(.tmp 12), (.tmp 18)]) <|
                      (.op none (some 0) (.mov (.tmp 19)) <|
                      .nil)))))))))))
                  (.op none (some 20) (.iar .add (.tmp 9) (.const (.int .i64 1))) <|
                  (.op none (some 9) (.mov (.tmp 20)) <|
                  .nil))))))))
      (.seq
        (.op none (some 21) (.mov (.tmp 0)) <|
        (.op none (some 6) (.mov (.tmp 21)) <|
        .nil))
        .ret)))⟩
theorem m_pack_put : toFn Tryd.prog 73 = some c_pack_put := by kernel_rfl
abbrev n_pack_put : FuncId := 73
/-- hasp/pack.get -/
def c_pack_get : MFn := ⟨27, 2, [.tmp 4, .tmp 5],
  (.seq
    (.op none (some 4) (.mov (.const (.int .u32 0))) <|
    (.op none (some 5) (.mov (.const (.slice none 0 0))) <|
    .nil))
    (.seq
      (.op none (some 6) (.mov (.const (.int .u32 0))) <|
      .nil)
      (.seq
        (.seq
          (.op none (some 8) (.mov (.tmp 1)) <|
          (.op none (some 9) (.mov (.const (.int .i64 0))) <|
          .nil))
          (.block 0
            (.loop
              (.seq
                (.op none (some 10) (.icmp .lss (.tmp 9) (.tmp 8)) <|
                .nil)
                (.seq
                  (.cond (.tmp 10)
                    .nil
                    (.exit 0))
                  (.seq
                    (.block 1
                      (.seq
                        (.op none (some 11) (.mov (.tmp 9)) <|
                        (.op none (some 7) (.mov (.tmp 11)) <|
                        .nil))
                        (.op none (some 12) (.mov (.tmp 6)) <|
                        (.op none (some 13) (.mov (.tmp 0)) <|
                        (.op none (some 14) (.mov (.tmp 7)) <|
                        (.op none (some 15) (.idxS 1 (.tmp 13) (.tmp 14)) <|
                        (.op none (some 16) (.ld1 (.tmp 15)) <|
                        (.op none (some 17) (.conv .u32 (.tmp 16)) <|
                        (.op none (some 18) (.mov (.tmp 7)) <|
                        (.op none (some 19) (.iar .mul (.const (.int .i64 8)) (.tmp 18)) <|
                        (.op none (some 20) (.ish .shl (.tmp 17) (.tmp 19)) <|
                        (.op none (some 21) (.iar .or (.tmp 12) (.tmp 20)) <|
                        (.op none (some 6) (.mov (.tmp 21)) <|
                        .nil)))))))))))))
                    (.op none (some 22) (.iar .add (.tmp 9) (.const (.int .i64 1))) <|
                    (.op none (some 9) (.mov (.tmp 22)) <|
                    .nil))))))))
        (.seq
          (.draw
            (.op none (some 23) (.mov (.tmp 6)) <|
            (.op none (some 24) (.mov (.tmp 0)) <|
            (.op none (some 25) (.mov (.tmp 1)) <|
            (.op none (some 26) (.slS 1 (.tmp 24) (some (.tmp 25)) none none) <|
            (.op none (some 4) (.mov (.tmp 23)) <|
            (.op none (some 5) (.mov (.tmp 26)) <|
            .nil)))))))
          .ret))))⟩
theorem m_pack_get : toFn Tryd.prog 74 = some c_pack_get := by kernel_rfl
abbrev n_pack_get : FuncId := 74
/-- (hasp/cap.Cap).may -/
def c_cap_Cap_may : MFn := ⟨35, 3, [.tmp 6],
  (.seq
    (.op none (some 3) (.bx 39 true (.tmp 0)) <|
    (.op none (some 6) (.mov (.const (.bool false))) <|
    .nil))
    (.seq
      (.op none (some 7) (.mov (.const (.bool true))) <|
      .nil)
      (.seq
        (.seq
          (.op none (some 8) (.mov (.tmp 1)) <|
          .nil)
          (.block 0
            (.seq
              (.block 3
                (.seq
                  (.block 2
                    (.seq
                      (.block 1
                        (.seq
                          (.seq
                            (.seq
                              (.op none (some 10) (.icmp .eql (.tmp 8) (.const (.int .i64 2))) <|
                              (.op none (some 9) (.mov (.tmp 10)) <|
                              .nil))
                              (.cond (.tmp 9)
                                (.exit 1)
                                .nil))
                            (.seq
                              (.seq
                                (.op none (some 12) (.icmp .eql (.tmp 8) (.const (.int .i64 1))) <|
                                (.op none (some 11) (.mov (.tmp 12)) <|
                                .nil))
                                (.cond (.tmp 11)
                                  (.exit 2)
                                  .nil))
                              (.seq
                                (.op none (some 14) (.icmp .eql (.tmp 8) (.const (.int .i64 0))) <|
                                (.op none (some 13) (.mov (.tmp 14)) <|
                                .nil))
                                (.cond (.tmp 13)
                                  (.exit 3)
                                  .nil))))
                          (.exit 0)))
                      (.op none (some 15) (.ldn 6 (.tmp 3)) <|
                      (.op none (some 16) (.fadr 3 (.tmp 3)) <|
                      (.op none (some 17) (.ld1 (.tmp 16)) <|
                      (.op none (some 18) (.call 76 [(.tmp 15), (.tmp 17), (.const (.int .u32 1))]) <|
                      (.op none (some 7) (.mov (.tmp 18)) <|
                      .nil)))))))
                  (.op none (some 19) (.mov (.tmp 7)) <|
                  (.op none (some 20) (.mov (.tmp 19)) <|
                  (.op (some (20, true)) (some 21) (.fadr 4 (.tmp 3)) <|
                  (.op (some (20, true)) (some 22) (.ld1 (.tmp 21)) <|
                  (.op (some (20, true)) (some 23) (.mov (.tmp 2)) <|
                  (.op (some (20, true)) (some 24) (.iar .and (.tmp 22) (.tmp 23)) <|
                  (.op (some (20, true)) (some 25) (.mov (.tmp 2)) <|
                  (.op (some (20, true)) (some 26) (.icmp .eql (.tmp 24) (.tmp 25)) <|
                  (.op none (some 27) (.pick (.tmp 20) (.tmp 26) (.const (.bool false))) <|
                  (.op none (some 7) (.mov (.tmp 27)) <|
                  .nil))))))))))))
              (.seq
                (.op none (some 28) (.mov (.tmp 7)) <|
                (.op none (some 29) (.mov (.tmp 28)) <|
                (.op (some (29, true)) (some 30) (.fadr 5 (.tmp 3)) <|
                (.op (some (29, true)) (some 31) (.ld1 (.tmp 30)) <|
                (.op (some (29, true)) (some 32) (.icmp .eql (.tmp 31) (.const (.int .u16 0))) <|
                (.op none (some 33) (.pick (.tmp 29) (.tmp 32) (.const (.bool false))) <|
                (.op none (some 7) (.mov (.tmp 33)) <|
                .nil)))))))
                (.exit 0)))))
        (.seq
          (.op none (some 34) (.mov (.tmp 7)) <|
          (.op none (some 6) (.mov (.tmp 34)) <|
          .nil))
          .ret))))⟩
theorem m_cap_Cap_may : toFn Tryd.prog 75 = some c_cap_Cap_may := by kernel_rfl
abbrev n_cap_Cap_may : FuncId := 75
/-- hasp/cap.Has -/
def c_cap_Has : MFn := ⟨22, 3, [.tmp 6],
  (.seq
    (.op none (some 3) (.bx 39 true (.tmp 0)) <|
    (.op none (some 6) (.mov (.const (.bool false))) <|
    .nil))
    (.seq
      (.op none (some 7) (.fadr 1 (.tmp 3)) <|
      (.op none (some 8) (.ld1 (.tmp 7)) <|
      (.op none (some 9) (.mov (.tmp 1)) <|
      (.op none (some 10) (.icmp .leq (.tmp 8) (.tmp 9)) <|
      (.op none (some 11) (.mov (.tmp 10)) <|
      (.op (some (11, true)) (some 12) (.mov (.tmp 1)) <|
      (.op (some (11, true)) (some 13) (.conv .u64 (.tmp 12)) <|
      (.op (some (11, true)) (some 14) (.mov (.tmp 2)) <|
      (.op (some (11, true)) (some 15) (.conv .u64 (.tmp 14)) <|
      (.op (some (11, true)) (some 16) (.iar .add (.tmp 13) (.tmp 15)) <|
      (.op (some (11, true)) (some 17) (.fadr 2 (.tmp 3)) <|
      (.op (some (11, true)) (some 18) (.ld1 (.tmp 17)) <|
      (.op (some (11, true)) (some 19) (.conv .u64 (.tmp 18)) <|
      (.op (some (11, true)) (some 20) (.icmp .leq (.tmp 16) (.tmp 19)) <|
      (.op none (some 21) (.pick (.tmp 11) (.tmp 20) (.const (.bool false))) <|
      (.op none (some 6) (.mov (.tmp 21)) <|
      .nil))))))))))))))))
      .ret))⟩
theorem m_cap_Has : toFn Tryd.prog 76 = some c_cap_Has := by kernel_rfl
abbrev n_cap_Has : FuncId := 76
/-- (hasp/cap.Cap).kept -/
def c_cap_Cap_kept : MFn := ⟨12, 2, [.cn 4 6],
  (.seq
    (.op none (some 2) (.bx 39 true (.tmp 0)) <|
    (.op none (some 4) (.al 39 [(.bool false), (.int .u32 0), (.int .u32 0), (.int .u32 0), (.int .u16 0), (.int .u16 0)]) <|
    .nil))
    (.seq
      (.op none (some 5) (.fadr 0 (.tmp 2)) <|
      (.op none (some 6) (.ld1 (.tmp 5)) <|
      (.op none (some 7) (.mov (.tmp 6)) <|
      (.op (some (7, true)) (some 8) (.mov (.tmp 1)) <|
      (.op none (some 9) (.pick (.tmp 7) (.tmp 8) (.const (.bool false))) <|
      (.op none (some 10) (.fadr 0 (.tmp 2)) <|
      (.op none none (.st1 (.tmp 10) (.tmp 9)) <|
      .nil)))))))
      (.seq
        (.op none (some 11) (.ldn 6 (.tmp 2)) <|
        (.op none none (.stn 6 (.tmp 4) (.tmp 11)) <|
        .nil))
        .ret)))⟩
theorem m_cap_Cap_kept : toFn Tryd.prog 77 = some c_cap_Cap_kept := by kernel_rfl
abbrev n_cap_Cap_kept : FuncId := 77
/-- hasp/access.first -/
def c_access_first : MFn := ⟨39, 4, [.tmp 8],
  (.seq
    (.op none (some 4) (.bx 39 true (.tmp 0)) <|
    (.op none (some 8) (.mov (.const (.int .i64 0))) <|
    .nil))
    (.seq
      (.block 0
        (.seq
          (.op none (some 10) (.fadr 0 (.tmp 4)) <|
          (.op none (some 11) (.ld1 (.tmp 10)) <|
          (.op none (some 12) (.bnot (.tmp 11)) <|
          (.op none (some 9) (.mov (.tmp 12)) <|
          .nil))))
          (.cond (.tmp 9)
            (.seq
              (.op none (some 8) (.mov (.const (.int .i64 1))) <|
              .nil)
              .ret)
            (.seq
              (.op none (some 14) (.fadr 5 (.tmp 4)) <|
              (.op none (some 15) (.ld1 (.tmp 14)) <|
              (.op none (some 16) (.icmp .neq (.tmp 15) (.const (.int .u16 0))) <|
              (.op none (some 13) (.mov (.tmp 16)) <|
              .nil))))
              (.cond (.tmp 13)
                (.seq
                  (.op none (some 8) (.mov (.const (.int .i64 2))) <|
                  .nil)
                  .ret)
                (.seq
                  (.op none (some 18) (.fadr 4 (.tmp 4)) <|
                  (.op none (some 19) (.ld1 (.tmp 18)) <|
                  (.op none (some 20) (.mov (.tmp 3)) <|
                  (.op none (some 21) (.iar .and (.tmp 19) (.tmp 20)) <|
                  (.op none (some 22) (.mov (.tmp 3)) <|
                  (.op none (some 23) (.icmp .neq (.tmp 21) (.tmp 22)) <|
                  (.op none (some 17) (.mov (.tmp 23)) <|
                  .nil)))))))
                  (.cond (.tmp 17)
                    (.seq
                      (.op none (some 8) (.mov (.const (.int .i64 3))) <|
                      .nil)
                      .ret)
                    (.seq
                      (.op none (some 25) (.ldn 6 (.tmp 4)) <|
                      (.op none (some 26) (.mov (.tmp 1)) <|
                      (.op none (some 27) (.mov (.tmp 2)) <|
                      (.op none (some 28) (.call 76 [(.tmp 25), (.tmp 26), (.tmp 27)]) <|
                      (.op none (some 29) (.bnot (.tmp 28)) <|
                      (.op none (some 24) (.mov (.tmp 29)) <|
                      .nil))))))
                      (.cond (.tmp 24)
                        (.seq
                          (.op none (some 8) (.mov (.const (.int .i64 4))) <|
                          .nil)
                          .ret)
                        (.seq
                          (.op none (some 31) (.mov (.tmp 2)) <|
                          (.op none (some 32) (.icmp .gtr (.tmp 31) (.const (.int .u32 0))) <|
                          (.op none (some 33) (.mov (.tmp 32)) <|
                          (.op (some (33, true)) (some 34) (.mov (.tmp 1)) <|
                          (.op (some (33, true)) (some 35) (.mov (.tmp 2)) <|
                          (.op (some (33, true)) (some 36) (.idiv .rem (.tmp 34) (.tmp 35)) <|
                          (.op (some (33, true)) (some 37) (.icmp .neq (.tmp 36) (.const (.int .u32 0))) <|
                          (.op none (some 38) (.pick (.tmp 33) (.tmp 37) (.const (.bool false))) <|
                          (.op none (some 30) (.mov (.tmp 38)) <|
                          .nil)))))))))
                          (.cond (.tmp 30)
                            (.seq
                              (.op none (some 8) (.mov (.const (.int .i64 5))) <|
                              .nil)
                              .ret)
                            .nil)))))))))))
      (.seq
        (.op none (some 8) (.mov (.const (.int .i64 0))) <|
        .nil)
        .ret)))⟩
theorem m_access_first : toFn Tryd.prog 78 = some c_access_first := by kernel_rfl
abbrev n_access_first : FuncId := 78
/-- hasp/haspref11.Has -/
def c_haspref11_Has : MFn := ⟨22, 3, [.tmp 6],
  (.seq
    (.op none (some 3) (.bx 46 true (.tmp 0)) <|
    (.op none (some 6) (.mov (.const (.bool false))) <|
    .nil))
    (.seq
      (.op none (some 7) (.fadr 1 (.tmp 3)) <|
      (.op none (some 8) (.ld1 (.tmp 7)) <|
      (.op none (some 9) (.mov (.tmp 1)) <|
      (.op none (some 10) (.icmp .leq (.tmp 8) (.tmp 9)) <|
      (.op none (some 11) (.mov (.tmp 10)) <|
      (.op (some (11, true)) (some 12) (.mov (.tmp 1)) <|
      (.op (some (11, true)) (some 13) (.conv .u64 (.tmp 12)) <|
      (.op (some (11, true)) (some 14) (.mov (.tmp 2)) <|
      (.op (some (11, true)) (some 15) (.conv .u64 (.tmp 14)) <|
      (.op (some (11, true)) (some 16) (.iar .add (.tmp 13) (.tmp 15)) <|
      (.op (some (11, true)) (some 17) (.fadr 2 (.tmp 3)) <|
      (.op (some (11, true)) (some 18) (.ld1 (.tmp 17)) <|
      (.op (some (11, true)) (some 19) (.conv .u64 (.tmp 18)) <|
      (.op (some (11, true)) (some 20) (.icmp .leq (.tmp 16) (.tmp 19)) <|
      (.op none (some 21) (.pick (.tmp 11) (.tmp 20) (.const (.bool false))) <|
      (.op none (some 6) (.mov (.tmp 21)) <|
      .nil))))))))))))))))
      .ret))⟩
theorem m_haspref11_Has : toFn Tryd.prog 79 = some c_haspref11_Has := by kernel_rfl
abbrev n_haspref11_Has : FuncId := 79
/-- (*hasp/api.Fault).Unwrap -/
def c_api_Fault_Unwrap : MFn := ⟨7, 1, [.tmp 2],
  (.seq
    (.op none (some 2) (.mov (.const .nilIface)) <|
    .nil)
    (.seq
      (.op none (some 3) (.mov (.tmp 0)) <|
      (.op none (some 4) (.nilchk (.tmp 3)) <|
      (.op none (some 5) (.fadr 2 (.tmp 4)) <|
      (.op none (some 6) (.ld1 (.tmp 5)) <|
      (.op none (some 2) (.mov (.tmp 6)) <|
      .nil)))))
      .ret))⟩
theorem m_api_Fault_Unwrap : toFn Tryd.prog 101 = some c_api_Fault_Unwrap := by kernel_rfl
abbrev n_api_Fault_Unwrap : FuncId := 101
end Go.HM
