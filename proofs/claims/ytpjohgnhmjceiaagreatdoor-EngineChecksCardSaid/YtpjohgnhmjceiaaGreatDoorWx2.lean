/- The program's functions in the evaluator's terms, part 2: what each of them answers, whatever comes in.
   Conditions: those of each theorem. -/
import Derived.Test.YtpjohgnhmjceiaaGreatDoorWx1
set_option linter.all false
set_option linter.unusedVariables false
set_option linter.unusedSectionVars false
set_option maxRecDepth 100000
open Go Go.Proofs.YtpjohgnhmjceiaaGreatDoor.AX Go.Proofs
namespace Go.Proofs.YtpjohgnhmjceiaaGreatDoor.WX
def is__r0 : List Ins := [⟨(some 2), none, (.op (.mov (.c (.int .i64 0))))⟩]
def is__r1 : List Ins := [⟨(some 3), none, (.op (.mov (.t 0)))⟩]
def is__r2 : List Ins := [⟨(some 2), none, (.op (.mov (.c (.int .i64 1))))⟩]
def is__r3 : List Ins := [⟨(some 2), none, (.op (.mov (.c (.int .i64 0))))⟩]
def is__c : IC := (.seq (.reg is__r0) (.seq (.seq (.reg is__r1) (.cond (.t 3) (.seq (.reg is__r2) .ret) .skip)) (.seq (.reg is__r3) .ret)))
theorem is__tab : tb 196 = some (.code 1 4 is__c [.tmp 2]) := by kernel_rfl
def operated_r0 : List Ins := [⟨(some 2), none, (.op (.box (.t 0)))⟩,
  ⟨(some 4), none, (.op (.mov (.c (.int .i64 0))))⟩]
def operated_r1 : List Ins := [⟨(some 10), none, (.op (.mov (.t 1)))⟩,
  ⟨(some 11), none, (.op (.len .slc (.t 10)))⟩,
  ⟨(some 5), none, (.op (.mov (.t 11)))⟩]
def operated_r2 : List Ins := [⟨(some 12), none, (.op (.faddr (.t 2) 1))⟩,
  ⟨(some 13), none, (.op (.load (.t 12)))⟩,
  ⟨(some 6), none, (.op (.mov (.t 13)))⟩]
def operated_r3 : List Ins := [⟨(some 15), none, (.op (.mov (.t 6)))⟩,
  ⟨(some 16), none, (.op (.bin .eql (.t 15) (.c (.int .i64 7))))⟩,
  ⟨(some 17), none, (.op (.mov (.t 16)))⟩,
  ⟨(some 18), (some (17, false)), (.op (.mov (.t 6)))⟩,
  ⟨(some 19), (some (17, false)), (.op (.bin .eql (.t 18) (.c (.int .i64 9))))⟩,
  ⟨(some 20), none, (.op (.pick (.t 17) (.c (.bool true)) (.t 19)))⟩,
  ⟨(some 14), none, (.op (.mov (.t 20)))⟩]
def operated_r4 : List Ins := [⟨(some 21), none, (.op (.mov (.t 5)))⟩,
  ⟨(some 22), none, (.op (.bin .eql (.t 21) (.c (.int .i64 1))))⟩]
def operated_r5 : List Ins := [⟨(some 23), none, (.op (.mov (.t 1)))⟩,
  ⟨(some 24), none, (.op (.iaddr 1 (.t 23) (.c (.int .i64 0))))⟩,
  ⟨(some 25), none, (.op (.load (.t 24)))⟩,
  ⟨(some 4), none, (.op (.mov (.t 25)))⟩]
def operated_r6 : List Ins := [⟨(some 27), none, (.op (.mov (.t 6)))⟩,
  ⟨(some 28), none, (.op (.bin .geq (.t 27) (.c (.int .i64 7))))⟩,
  ⟨(some 29), none, (.op (.mov (.t 28)))⟩,
  ⟨(some 30), (some (29, true)), (.op (.mov (.t 6)))⟩,
  ⟨(some 31), (some (29, true)), (.op (.bin .leq (.t 30) (.c (.int .i64 12))))⟩,
  ⟨(some 32), none, (.op (.pick (.t 29) (.t 31) (.c (.bool false))))⟩,
  ⟨(some 26), none, (.op (.mov (.t 32)))⟩]
def operated_r7 : List Ins := [⟨(some 33), none, (.op (.mov (.t 5)))⟩,
  ⟨(some 34), none, (.op (.bin .eql (.t 33) (.c (.int .i64 1))))⟩,
  ⟨(some 35), none, (.callF 196 [(.t 34)])⟩,
  ⟨(some 4), none, (.op (.mov (.t 35)))⟩]
def operated_r8 : List Ins := [⟨(some 37), none, (.op (.mov (.t 6)))⟩,
  ⟨(some 38), none, (.op (.bin .eql (.t 37) (.c (.int .i64 15))))⟩,
  ⟨(some 39), none, (.op (.mov (.t 38)))⟩,
  ⟨(some 40), (some (39, false)), (.op (.mov (.t 6)))⟩,
  ⟨(some 41), (some (39, false)), (.op (.bin .eql (.t 40) (.c (.int .i64 16))))⟩,
  ⟨(some 42), none, (.op (.pick (.t 39) (.c (.bool true)) (.t 41)))⟩,
  ⟨(some 36), none, (.op (.mov (.t 42)))⟩]
def operated_r9 : List Ins := [⟨(some 43), none, (.op (.mov (.t 5)))⟩,
  ⟨(some 44), none, (.op (.bin .eql (.t 43) (.c (.int .i64 2))))⟩]
def operated_r10 : List Ins := [⟨(some 45), none, (.op (.mov (.t 1)))⟩,
  ⟨(some 46), none, (.op (.iaddr 1 (.t 45) (.c (.int .i64 0))))⟩,
  ⟨(some 47), none, (.op (.load (.t 46)))⟩,
  ⟨(some 4), none, (.op (.mov (.t 47)))⟩]
def operated_r11 : List Ins := [⟨(some 49), none, (.op (.mov (.t 6)))⟩,
  ⟨(some 50), none, (.op (.bin .eql (.t 49) (.c (.int .i64 13))))⟩,
  ⟨(some 51), none, (.op (.mov (.t 50)))⟩,
  ⟨(some 52), (some (51, false)), (.op (.mov (.t 6)))⟩,
  ⟨(some 53), (some (51, false)), (.op (.bin .eql (.t 52) (.c (.int .i64 14))))⟩,
  ⟨(some 54), none, (.op (.pick (.t 51) (.c (.bool true)) (.t 53)))⟩,
  ⟨(some 55), none, (.op (.mov (.t 54)))⟩,
  ⟨(some 56), (some (55, false)), (.op (.mov (.t 6)))⟩,
  ⟨(some 57), (some (55, false)), (.op (.bin .eql (.t 56) (.c (.int .i64 23))))⟩,
  ⟨(some 58), none, (.op (.pick (.t 55) (.c (.bool true)) (.t 57)))⟩,
  ⟨(some 59), none, (.op (.mov (.t 58)))⟩,
  ⟨(some 60), (some (59, false)), (.op (.mov (.t 6)))⟩,
  ⟨(some 61), (some (59, false)), (.op (.bin .eql (.t 60) (.c (.int .i64 25))))⟩,
  ⟨(some 62), none, (.op (.pick (.t 59) (.c (.bool true)) (.t 61)))⟩,
  ⟨(some 63), none, (.op (.mov (.t 62)))⟩,
  ⟨(some 64), (some (63, false)), (.op (.mov (.t 6)))⟩,
  ⟨(some 65), (some (63, false)), (.op (.bin .eql (.t 64) (.c (.int .i64 24))))⟩,
  ⟨(some 66), none, (.op (.pick (.t 63) (.c (.bool true)) (.t 65)))⟩,
  ⟨(some 48), none, (.op (.mov (.t 66)))⟩]
def operated_r12 : List DIns := [⟨0, [], ⟨(some 67), none, (.op (.mov (.t 5)))⟩⟩,
  ⟨1, [0], ⟨(some 68), none, (.op (.bin .eql (.t 67) (.c (.int .i64 2))))⟩⟩,
  ⟨2, [1], ⟨(some 69), none, (.op (.mov (.t 68)))⟩⟩,
  ⟨3, [2], ⟨(some 70), (some (69, true)), (.op (.mov (.t 1)))⟩⟩,
  ⟨4, [3, 2], ⟨(some 71), (some (69, true)), (.op (.iaddr 1 (.t 70) (.c (.int .i64 0))))⟩⟩,
  ⟨5, [4, 2], ⟨(some 72), (some (69, true)), (.op (.load (.t 71)))⟩⟩,
  ⟨6, [2], ⟨(some 73), (some (69, true)), (.op (.mov (.t 1)))⟩⟩,
  ⟨7, [6, 2], ⟨(some 74), (some (69, true)), (.op (.iaddr 1 (.t 73) (.c (.int .i64 1))))⟩⟩,
  ⟨8, [7, 2], ⟨(some 75), (some (69, true)), (.op (.load (.t 74)))⟩⟩,
  ⟨9, [5, 8, 2], ⟨(some 76), (some (69, true)), (.op (.bin .eql (.t 72) (.t 75)))⟩⟩,
  ⟨10, [2, 9], ⟨(some 77), none, (.op (.pick (.t 69) (.t 76) (.c (.bool false))))⟩⟩]
def operated_r13 : List Ins := [⟨(some 78), none, (.op (.mov (.t 1)))⟩,
  ⟨(some 79), none, (.op (.iaddr 1 (.t 78) (.c (.int .i64 0))))⟩,
  ⟨(some 80), none, (.op (.load (.t 79)))⟩,
  ⟨(some 4), none, (.op (.mov (.t 80)))⟩]
def operated_r14 : List Ins := [⟨(some 82), none, (.op (.mov (.t 6)))⟩,
  ⟨(some 83), none, (.op (.bin .geq (.t 82) (.c (.int .i64 17))))⟩,
  ⟨(some 84), none, (.op (.mov (.t 83)))⟩,
  ⟨(some 85), (some (84, true)), (.op (.mov (.t 6)))⟩,
  ⟨(some 86), (some (84, true)), (.op (.bin .leq (.t 85) (.c (.int .i64 22))))⟩,
  ⟨(some 87), none, (.op (.pick (.t 84) (.t 86) (.c (.bool false))))⟩,
  ⟨(some 81), none, (.op (.mov (.t 87)))⟩]
def operated_r15 : List DIns := [⟨0, [], ⟨(some 88), none, (.op (.mov (.t 5)))⟩⟩,
  ⟨1, [0], ⟨(some 89), none, (.op (.bin .eql (.t 88) (.c (.int .i64 2))))⟩⟩,
  ⟨2, [1], ⟨(some 90), none, (.op (.mov (.t 89)))⟩⟩,
  ⟨3, [2], ⟨(some 91), (some (90, true)), (.op (.mov (.t 1)))⟩⟩,
  ⟨4, [3, 2], ⟨(some 92), (some (90, true)), (.op (.iaddr 1 (.t 91) (.c (.int .i64 0))))⟩⟩,
  ⟨5, [4, 2], ⟨(some 93), (some (90, true)), (.op (.load (.t 92)))⟩⟩,
  ⟨6, [2], ⟨(some 94), (some (90, true)), (.op (.mov (.t 1)))⟩⟩,
  ⟨7, [6, 2], ⟨(some 95), (some (90, true)), (.op (.iaddr 1 (.t 94) (.c (.int .i64 1))))⟩⟩,
  ⟨8, [7, 2], ⟨(some 96), (some (90, true)), (.op (.load (.t 95)))⟩⟩,
  ⟨9, [5, 8, 2], ⟨(some 97), (some (90, true)), (.op (.bin .eql (.t 93) (.t 96)))⟩⟩,
  ⟨10, [2, 9], ⟨(some 98), none, (.op (.pick (.t 90) (.t 97) (.c (.bool false))))⟩⟩,
  ⟨11, [10, 2], ⟨(some 99), none, (.callF 196 [(.t 98)])⟩⟩,
  ⟨12, [11, 11, 0, 1, 2, 3, 4, 5, 6, 7, 8, 9, 10, 11], ⟨(some 4), none, (.op (.mov (.t 99)))⟩⟩]
def operated_r16 : List Ins := [⟨(some 101), none, (.op (.mov (.t 6)))⟩,
  ⟨(some 102), none, (.op (.bin .eql (.t 101) (.c (.int .i64 26))))⟩,
  ⟨(some 103), none, (.op (.mov (.t 102)))⟩,
  ⟨(some 104), (some (103, false)), (.op (.mov (.t 6)))⟩,
  ⟨(some 105), (some (103, false)), (.op (.bin .eql (.t 104) (.c (.int .i64 27))))⟩,
  ⟨(some 106), none, (.op (.pick (.t 103) (.c (.bool true)) (.t 105)))⟩,
  ⟨(some 107), none, (.op (.mov (.t 106)))⟩,
  ⟨(some 108), (some (107, false)), (.op (.mov (.t 6)))⟩,
  ⟨(some 109), (some (107, false)), (.op (.bin .eql (.t 108) (.c (.int .i64 3))))⟩,
  ⟨(some 110), none, (.op (.pick (.t 107) (.c (.bool true)) (.t 109)))⟩,
  ⟨(some 100), none, (.op (.mov (.t 110)))⟩]
def operated_r17 : List Ins := [⟨(some 111), none, (.op (.mov (.t 5)))⟩,
  ⟨(some 112), none, (.op (.bin .eql (.t 111) (.c (.int .i64 2))))⟩,
  ⟨(some 113), none, (.callF 196 [(.t 112)])⟩,
  ⟨(some 4), none, (.op (.mov (.t 113)))⟩]
def operated_r18 : List Ins := [⟨(some 115), none, (.op (.mov (.t 6)))⟩,
  ⟨(some 116), none, (.op (.bin .eql (.t 115) (.c (.int .i64 6))))⟩,
  ⟨(some 114), none, (.op (.mov (.t 116)))⟩]
def operated_r19 : List DIns := [⟨0, [], ⟨(some 117), none, (.op (.mov (.t 5)))⟩⟩,
  ⟨1, [0], ⟨(some 118), none, (.op (.bin .eql (.t 117) (.c (.int .i64 3))))⟩⟩,
  ⟨2, [1], ⟨(some 119), none, (.op (.mov (.t 118)))⟩⟩,
  ⟨3, [2], ⟨(some 120), (some (119, true)), (.op (.mov (.t 1)))⟩⟩,
  ⟨4, [3, 2], ⟨(some 121), (some (119, true)), (.op (.iaddr 1 (.t 120) (.c (.int .i64 1))))⟩⟩,
  ⟨5, [4, 2], ⟨(some 122), (some (119, true)), (.op (.load (.t 121)))⟩⟩,
  ⟨6, [2], ⟨(some 123), (some (119, true)), (.op (.mov (.t 1)))⟩⟩,
  ⟨7, [6, 2], ⟨(some 124), (some (119, true)), (.op (.iaddr 1 (.t 123) (.c (.int .i64 2))))⟩⟩,
  ⟨8, [7, 2], ⟨(some 125), (some (119, true)), (.op (.load (.t 124)))⟩⟩,
  ⟨9, [5, 8, 2], ⟨(some 126), (some (119, true)), (.op (.bin .eql (.t 122) (.t 125)))⟩⟩,
  ⟨10, [2, 9], ⟨(some 127), none, (.op (.pick (.t 119) (.t 126) (.c (.bool false))))⟩⟩]
def operated_r20 : List Ins := [⟨(some 128), none, (.op (.mov (.t 1)))⟩,
  ⟨(some 129), none, (.op (.iaddr 1 (.t 128) (.c (.int .i64 1))))⟩,
  ⟨(some 130), none, (.op (.load (.t 129)))⟩,
  ⟨(some 4), none, (.op (.mov (.t 130)))⟩]
def operated_r21 : List Ins := [⟨(some 132), none, (.op (.mov (.t 6)))⟩,
  ⟨(some 133), none, (.op (.bin .eql (.t 132) (.c (.int .i64 4))))⟩,
  ⟨(some 131), none, (.op (.mov (.t 133)))⟩]
def operated_r22 : List DIns := [⟨0, [], ⟨(some 134), none, (.op (.mov (.t 5)))⟩⟩,
  ⟨1, [0], ⟨(some 135), none, (.op (.bin .eql (.t 134) (.c (.int .i64 1))))⟩⟩,
  ⟨2, [1], ⟨(some 136), none, (.op (.mov (.t 135)))⟩⟩,
  ⟨3, [2], ⟨(some 137), (some (136, true)), (.op (.faddr (.t 2) 6))⟩⟩,
  ⟨4, [3, 2], ⟨(some 138), (some (136, true)), (.op (.load (.t 137)))⟩⟩,
  ⟨5, [4, 2], ⟨(some 139), (some (136, true)), (.op (.bin .geq (.t 138) (.c (.int .i64 0))))⟩⟩,
  ⟨6, [2, 5], ⟨(some 140), none, (.op (.pick (.t 136) (.t 139) (.c (.bool false))))⟩⟩,
  ⟨7, [6, 2], ⟨(some 141), none, (.op (.mov (.t 140)))⟩⟩,
  ⟨8, [7], ⟨(some 142), (some (141, true)), (.op (.faddr (.t 2) 5))⟩⟩,
  ⟨9, [8, 7], ⟨(some 143), (some (141, true)), (.op (.load (.t 142)))⟩⟩,
  ⟨10, [7], ⟨(some 144), (some (141, true)), (.op (.faddr (.t 2) 6))⟩⟩,
  ⟨11, [10, 7], ⟨(some 145), (some (141, true)), (.op (.load (.t 144)))⟩⟩,
  ⟨12, [9, 11, 7], ⟨(some 146), (some (141, true)), (.op (.bin .geq (.t 143) (.t 145)))⟩⟩,
  ⟨13, [7, 12], ⟨(some 147), none, (.op (.pick (.t 141) (.t 146) (.c (.bool false))))⟩⟩,
  ⟨14, [13, 7], ⟨(some 148), none, (.op (.mov (.t 147)))⟩⟩,
  ⟨15, [14], ⟨(some 149), (some (148, true)), (.op (.faddr (.t 2) 5))⟩⟩,
  ⟨16, [15, 14], ⟨(some 150), (some (148, true)), (.op (.load (.t 149)))⟩⟩,
  ⟨17, [14], ⟨(some 151), (some (148, true)), (.op (.mov (.t 1)))⟩⟩,
  ⟨18, [17, 14], ⟨(some 152), (some (148, true)), (.op (.iaddr 1 (.t 151) (.c (.int .i64 0))))⟩⟩,
  ⟨19, [18, 14], ⟨(some 153), (some (148, true)), (.op (.load (.t 152)))⟩⟩,
  ⟨20, [16, 19, 14], ⟨(some 154), (some (148, true)), (.op (.bin .lss (.t 150) (.t 153)))⟩⟩,
  ⟨21, [14, 20], ⟨(some 155), none, (.op (.pick (.t 148) (.t 154) (.c (.bool false))))⟩⟩]
def operated_r23 : List Ins := [⟨(some 156), none, (.op (.faddr (.t 2) 5))⟩,
  ⟨(some 157), none, (.op (.load (.t 156)))⟩,
  ⟨(some 158), none, (.op (.faddr (.t 2) 6))⟩,
  ⟨(some 159), none, (.op (.load (.t 158)))⟩,
  ⟨(some 160), none, (.op (.bin .sub (.t 157) (.t 159)))⟩,
  ⟨(some 161), none, (.op (.bin .add (.t 160) (.c (.int .i64 1))))⟩,
  ⟨(some 4), none, (.op (.mov (.t 161)))⟩]
def operated_r24 : List Ins := [⟨(some 163), none, (.op (.mov (.t 6)))⟩,
  ⟨(some 164), none, (.op (.bin .eql (.t 163) (.c (.int .i64 5))))⟩,
  ⟨(some 162), none, (.op (.mov (.t 164)))⟩]
def operated_r25 : List Ins := [⟨(some 7), none, (.op (.mov (.c (.int .i64 0))))⟩]
def operated_r26 : List Ins := [⟨(some 165), none, (.op (.mov (.t 1)))⟩,
  ⟨(some 166), none, (.op (.len .slc (.t 165)))⟩,
  ⟨(some 167), none, (.op (.mov (.c (.int .i64 0))))⟩]
def operated_r27 : List Ins := [⟨(some 168), none, (.op (.bin .lss (.t 167) (.t 166)))⟩]
def operated_r28 : List Ins := [⟨(some 169), none, (.op (.iaddr 1 (.t 165) (.t 167)))⟩,
  ⟨(some 170), none, (.op (.load (.t 169)))⟩,
  ⟨(some 9), none, (.op (.mov (.t 170)))⟩]
def operated_r29 : List Ins := [⟨(some 171), none, (.op (.mov (.t 7)))⟩,
  ⟨(some 172), none, (.op (.mov (.t 9)))⟩,
  ⟨(some 173), none, (.op (.bin .add (.t 171) (.t 172)))⟩,
  ⟨(some 7), none, (.op (.mov (.t 173)))⟩]
def operated_r30 : List Ins := [⟨(some 174), none, (.op (.bin .add (.t 167) (.c (.int .i64 1))))⟩,
  ⟨(some 167), none, (.op (.mov (.t 174)))⟩]
def operated_r31 : List Ins := [⟨(some 175), none, (.op (.mov (.t 7)))⟩,
  ⟨(some 4), none, (.op (.mov (.t 175)))⟩]
def operated_r32 : List Ins := [⟨(some 4), none, (.op (.mov (.c (.int .i64 0))))⟩]
def operated_c : IC := (.seq (.reg operated_r0) (.seq (.reg operated_r1) (.seq (.seq (.reg operated_r2) (.block 0 (.seq (.reg operated_r3) (.cond (.t 14) (.seq (.reg operated_r4) (.cond (.t 22) (.seq (.reg operated_r5) .ret) .skip)) (.seq (.reg operated_r6) (.cond (.t 26) (.seq (.reg operated_r7) .ret) (.seq (.reg operated_r8) (.cond (.t 36) (.seq (.reg operated_r9) (.cond (.t 44) (.seq (.reg operated_r10) .ret) .skip)) (.seq (.reg operated_r11) (.cond (.t 48) (.seq (.draw operated_r12) (.cond (.t 77) (.seq (.reg operated_r13) .ret) .skip)) (.seq (.reg operated_r14) (.cond (.t 81) (.seq (.draw operated_r15) .ret) (.seq (.reg operated_r16) (.cond (.t 100) (.seq (.reg operated_r17) .ret) (.seq (.reg operated_r18) (.cond (.t 114) (.seq (.draw operated_r19) (.cond (.t 127) (.seq (.reg operated_r20) .ret) .skip)) (.seq (.reg operated_r21) (.cond (.t 131) (.seq (.draw operated_r22) (.cond (.t 155) (.seq (.reg operated_r23) .ret) .skip)) (.seq (.reg operated_r24) (.cond (.t 162) (.seq (.reg operated_r25) (.seq (.seq (.reg operated_r26) (.block 1 (.loop (.seq (.reg operated_r27) (.seq (.cond (.t 168) .skip (.exit 1)) (.seq (.block 2 (.seq (.reg operated_r28) (.reg operated_r29))) (.reg operated_r30))))))) (.seq (.reg operated_r31) .ret))) .skip)))))))))))))))))))) (.seq (.reg operated_r32) .ret))))
theorem operated_tab : tb 150 = some (.code 2 176 operated_c [.tmp 4]) := by kernel_rfl
def lcheck_r0 : List Ins := [⟨(some 2), none, (.op (.mov (.c (.int .i64 0))))⟩]
def lcheck_r1 : List Ins := [⟨(some 3), none, (.op (.mov (.t 0)))⟩,
  ⟨(some 4), none, (.op (.len .str (.t 3)))⟩,
  ⟨(some 5), none, (.op (.bin .lss (.t 4) (.c (.int .i64 1))))⟩,
  ⟨(some 6), none, (.op (.mov (.t 5)))⟩,
  ⟨(some 7), (some (6, false)), (.op (.mov (.t 0)))⟩,
  ⟨(some 8), (some (6, false)), (.op (.len .str (.t 7)))⟩,
  ⟨(some 9), (some (6, false)), (.op (.bin .gtr (.t 8) (.c (.int .i64 256))))⟩,
  ⟨(some 10), none, (.op (.pick (.t 6) (.c (.bool true)) (.t 9)))⟩,
  ⟨(some 11), none, (.op (.mov (.t 10)))⟩,
  ⟨(some 12), (some (11, false)), (.op (.mov (.t 0)))⟩,
  ⟨(some 13), (some (11, false)), (.callF 104 [(.t 12), (.c (.str [48, 49, 120, 122]))])⟩,
  ⟨(some 14), (some (11, false)), (.op (.bin .neq (.t 13) (.c (.str []))))⟩,
  ⟨(some 15), none, (.op (.pick (.t 11) (.c (.bool true)) (.t 14)))⟩]
def lcheck_r2 : List Ins := [⟨(some 2), none, (.op (.mov (.c (.int .i64 10))))⟩]
def lcheck_r3 : List Ins := [⟨(some 2), none, (.op (.mov (.c (.int .i64 0))))⟩]
def lcheck_c : IC := (.seq (.reg lcheck_r0) (.seq (.seq (.reg lcheck_r1) (.cond (.t 15) (.seq (.reg lcheck_r2) .ret) .skip)) (.seq (.reg lcheck_r3) .ret)))
theorem lcheck_tab : tb 49 = some (.code 1 16 lcheck_c [.tmp 2]) := by kernel_rfl
def may_r0 : List Ins := [⟨(some 2), none, (.op (.box (.t 0)))⟩,
  ⟨(some 3), none, (.op (.box (.t 1)))⟩,
  ⟨(some 4), none, (.op (.mov (.c (.bool false))))⟩]
def may_r1 : List Ins := [⟨(some 5), none, (.op (.mov (.c .nslice)))⟩]
def may_r2 : List Ins := [⟨(some 10), none, (.op (.faddr (.t 3) 3))⟩,
  ⟨(some 11), none, (.op (.load (.t 10)))⟩,
  ⟨(some 12), none, (.op (.len .slc (.t 11)))⟩,
  ⟨(some 13), none, (.op (.mov (.c (.int .i64 0))))⟩]
def may_r3 : List Ins := [⟨(some 14), none, (.op (.bin .lss (.t 13) (.t 12)))⟩]
def may_r4 : List Ins := [⟨(some 15), none, (.op (.iaddr 1 (.t 11) (.t 13)))⟩,
  ⟨(some 16), none, (.op (.load (.t 15)))⟩,
  ⟨(some 7), none, (.op (.mov (.t 16)))⟩]
def may_r5 : List Ins := [⟨(some 17), none, (.op (.mov (.t 5)))⟩,
  ⟨(some 18), none, (.op (.faddr (.t 2) 0))⟩,
  ⟨(some 19), none, (.op (.load (.t 18)))⟩,
  ⟨(some 20), none, (.op (.mov (.t 7)))⟩,
  ⟨(some 21), none, (.op (.iaddr 8 (.t 19) (.t 20)))⟩,
  ⟨(some 22), none, (.op (.faddr (.t 21) 2))⟩,
  ⟨(some 23), none, (.op (.load (.t 22)))⟩,
  ⟨(some 24), none, (.op (.bslice 1 1 [(.int .i64 0)] [(0, 1, (.t 23))]))⟩,
  ⟨(some 25), none, (.op (.app 1 (.t 17) (.t 24)))⟩,
  ⟨(some 5), none, (.op (.mov (.t 25)))⟩]
def may_r6 : List Ins := [⟨(some 26), none, (.op (.bin .add (.t 13) (.c (.int .i64 1))))⟩,
  ⟨(some 13), none, (.op (.mov (.t 26)))⟩]
def may_r7 : List Ins := [⟨(some 27), none, (.op (.loadA 8 (.t 3)))⟩,
  ⟨(some 8), none, (.op (.alloc [(.int .i64 0), (.int .i64 0), (.int .i64 0), .nslice, (.str []), (.int .i64 0), (.int .i64 0), (.int .i64 0)]))⟩,
  ⟨none, none, (.op (.store 8 (.t 8) (.t 27)))⟩]
def may_r8 : List Ins := [⟨(some 28), none, (.op (.faddr (.t 8) 3))⟩,
  ⟨none, none, (.op (.store 1 (.t 28) (.c .nslice)))⟩,
  ⟨(some 29), none, (.op (.faddr (.t 8) 2))⟩,
  ⟨none, none, (.op (.store 1 (.t 29) (.c (.int .i64 0))))⟩,
  ⟨(some 30), none, (.op (.faddr (.t 8) 0))⟩,
  ⟨none, none, (.op (.store 1 (.t 30) (.c (.int .i64 0))))⟩]
def may_r9 : List Ins := [⟨(some 9), none, (.op (.mov (.c (.bool false))))⟩]
def may_r10 : List Ins := [⟨(some 31), none, (.op (.faddr (.t 3) 0))⟩,
  ⟨(some 32), none, (.op (.load (.t 31)))⟩]
def may_r11 : List Ins := [⟨(some 34), none, (.op (.bin .eql (.t 32) (.c (.int .i64 1))))⟩,
  ⟨(some 33), none, (.op (.mov (.t 34)))⟩]
def may_r12 : List Ins := [⟨(some 35), none, (.op (.mov (.t 5)))⟩,
  ⟨(some 36), none, (.op (.len .slc (.t 35)))⟩,
  ⟨(some 37), none, (.op (.bin .eql (.t 36) (.c (.int .i64 0))))⟩,
  ⟨(some 38), none, (.op (.mov (.t 37)))⟩,
  ⟨(some 39), (some (38, true)), (.op (.faddr (.t 3) 4))⟩,
  ⟨(some 40), (some (38, true)), (.op (.load (.t 39)))⟩,
  ⟨(some 41), (some (38, true)), (.callF 49 [(.t 40)])⟩,
  ⟨(some 42), (some (38, true)), (.op (.bin .eql (.t 41) (.c (.int .i64 0))))⟩,
  ⟨(some 43), none, (.op (.pick (.t 38) (.t 42) (.c (.bool false))))⟩,
  ⟨(some 44), none, (.op (.mov (.t 43)))⟩,
  ⟨(some 45), (some (44, true)), (.op (.faddr (.t 3) 4))⟩,
  ⟨(some 46), (some (44, true)), (.op (.load (.t 45)))⟩,
  ⟨(some 47), (some (44, true)), (.op (.len .str (.t 46)))⟩,
  ⟨(some 48), (some (44, true)), (.op (.faddr (.t 3) 2))⟩,
  ⟨(some 49), (some (44, true)), (.op (.load (.t 48)))⟩,
  ⟨(some 50), (some (44, true)), (.op (.bin .eql (.t 47) (.t 49)))⟩,
  ⟨(some 51), none, (.op (.pick (.t 44) (.t 50) (.c (.bool false))))⟩,
  ⟨(some 9), none, (.op (.mov (.t 51)))⟩]
def may_r13 : List Ins := [⟨(some 52), none, (.op (.faddr (.t 8) 4))⟩,
  ⟨none, none, (.op (.store 1 (.t 52) (.c (.str []))))⟩]
def may_r14 : List Ins := [⟨(some 54), none, (.op (.bin .eql (.t 32) (.c (.int .i64 2))))⟩,
  ⟨(some 53), none, (.op (.mov (.t 54)))⟩]
def may_r15 : List Ins := [⟨(some 55), none, (.op (.mov (.t 5)))⟩,
  ⟨(some 56), none, (.op (.len .slc (.t 55)))⟩,
  ⟨(some 57), none, (.op (.bin .eql (.t 56) (.c (.int .i64 0))))⟩,
  ⟨(some 9), none, (.op (.mov (.t 57)))⟩]
def may_r16 : List Ins := [⟨(some 59), none, (.op (.bin .eql (.t 32) (.c (.int .i64 3))))⟩,
  ⟨(some 58), none, (.op (.mov (.t 59)))⟩]
def may_r17 : List DIns := [⟨0, [], ⟨(some 60), none, (.op (.loadA 8 (.t 3)))⟩⟩,
  ⟨1, [], ⟨(some 61), none, (.op (.mov (.t 5)))⟩⟩,
  ⟨2, [0, 1], ⟨(some 62), none, (.callF 150 [(.t 60), (.t 61)])⟩⟩,
  ⟨3, [], ⟨(some 63), none, (.op (.faddr (.t 3) 2))⟩⟩,
  ⟨4, [3], ⟨(some 64), none, (.op (.load (.t 63)))⟩⟩,
  ⟨5, [2, 4], ⟨(some 65), none, (.op (.bin .eql (.t 62) (.t 64)))⟩⟩,
  ⟨6, [5, 2, 0, 1, 2, 3, 4, 5], ⟨(some 9), none, (.op (.mov (.t 65)))⟩⟩]
def may_r18 : List Ins := [⟨(some 66), none, (.op (.faddr (.t 8) 1))⟩,
  ⟨none, none, (.op (.store 1 (.t 66) (.c (.int .i64 0))))⟩]
def may_r19 : List Ins := [⟨(some 67), none, (.op (.faddr (.t 3) 1))⟩,
  ⟨(some 68), none, (.op (.load (.t 67)))⟩,
  ⟨(some 69), none, (.op (.bin .eql (.t 68) (.c (.int .i64 4))))⟩]
def may_r20 : List Ins := [⟨(some 70), none, (.op (.faddr (.t 8) 5))⟩,
  ⟨none, none, (.op (.store 1 (.t 70) (.c (.int .i64 0))))⟩,
  ⟨(some 71), none, (.op (.faddr (.t 8) 6))⟩,
  ⟨none, none, (.op (.store 1 (.t 71) (.c (.int .i64 0))))⟩]
def may_r21 : List Ins := [⟨(some 73), none, (.op (.bin .eql (.t 32) (.c (.int .i64 4))))⟩,
  ⟨(some 72), none, (.op (.mov (.t 73)))⟩]
def may_r22 : List DIns := [⟨0, [], ⟨(some 74), none, (.op (.mov (.t 5)))⟩⟩,
  ⟨1, [0], ⟨(some 75), none, (.op (.len .slc (.t 74)))⟩⟩,
  ⟨2, [1], ⟨(some 76), none, (.op (.bin .eql (.t 75) (.c (.int .i64 3))))⟩⟩,
  ⟨3, [2], ⟨(some 77), none, (.op (.mov (.t 76)))⟩⟩,
  ⟨4, [3], ⟨(some 78), (some (77, true)), (.op (.mov (.t 5)))⟩⟩,
  ⟨5, [4, 3], ⟨(some 79), (some (77, true)), (.op (.iaddr 1 (.t 78) (.c (.int .i64 1))))⟩⟩,
  ⟨6, [5, 3], ⟨(some 80), (some (77, true)), (.op (.load (.t 79)))⟩⟩,
  ⟨7, [3], ⟨(some 81), (some (77, true)), (.op (.faddr (.t 3) 2))⟩⟩,
  ⟨8, [7, 3], ⟨(some 82), (some (77, true)), (.op (.load (.t 81)))⟩⟩,
  ⟨9, [6, 8, 3], ⟨(some 83), (some (77, true)), (.op (.bin .eql (.t 80) (.t 82)))⟩⟩,
  ⟨10, [3, 9], ⟨(some 84), none, (.op (.pick (.t 77) (.t 83) (.c (.bool false))))⟩⟩,
  ⟨11, [10, 3], ⟨(some 85), none, (.op (.mov (.t 84)))⟩⟩,
  ⟨12, [11], ⟨(some 86), (some (85, true)), (.op (.mov (.t 5)))⟩⟩,
  ⟨13, [12, 11], ⟨(some 87), (some (85, true)), (.op (.iaddr 1 (.t 86) (.c (.int .i64 2))))⟩⟩,
  ⟨14, [13, 11], ⟨(some 88), (some (85, true)), (.op (.load (.t 87)))⟩⟩,
  ⟨15, [11], ⟨(some 89), (some (85, true)), (.op (.faddr (.t 3) 2))⟩⟩,
  ⟨16, [15, 11], ⟨(some 90), (some (85, true)), (.op (.load (.t 89)))⟩⟩,
  ⟨17, [14, 16, 11], ⟨(some 91), (some (85, true)), (.op (.bin .eql (.t 88) (.t 90)))⟩⟩,
  ⟨18, [11, 17], ⟨(some 92), none, (.op (.pick (.t 85) (.t 91) (.c (.bool false))))⟩⟩,
  ⟨19, [18, 11, 0, 1, 2, 3, 4, 5, 6, 7, 8, 9, 10, 11, 12, 13, 14, 15, 16, 17, 18], ⟨(some 9), none, (.op (.mov (.t 92)))⟩⟩]
def may_r23 : List Ins := [⟨(some 94), none, (.op (.bin .eql (.t 32) (.c (.int .i64 5))))⟩,
  ⟨(some 93), none, (.op (.mov (.t 94)))⟩]
def may_r24 : List DIns := [⟨0, [], ⟨(some 95), none, (.op (.mov (.t 5)))⟩⟩,
  ⟨1, [0], ⟨(some 96), none, (.op (.len .slc (.t 95)))⟩⟩,
  ⟨2, [1], ⟨(some 97), none, (.op (.bin .eql (.t 96) (.c (.int .i64 2))))⟩⟩,
  ⟨3, [2], ⟨(some 98), none, (.op (.mov (.t 97)))⟩⟩,
  ⟨4, [3], ⟨(some 99), (some (98, true)), (.op (.mov (.t 5)))⟩⟩,
  ⟨5, [4, 3], ⟨(some 100), (some (98, true)), (.op (.iaddr 1 (.t 99) (.c (.int .i64 0))))⟩⟩,
  ⟨6, [5, 3], ⟨(some 101), (some (98, true)), (.op (.load (.t 100)))⟩⟩,
  ⟨7, [3], ⟨(some 102), (some (98, true)), (.op (.mov (.t 5)))⟩⟩,
  ⟨8, [7, 3], ⟨(some 103), (some (98, true)), (.op (.iaddr 1 (.t 102) (.c (.int .i64 1))))⟩⟩,
  ⟨9, [8, 3], ⟨(some 104), (some (98, true)), (.op (.load (.t 103)))⟩⟩,
  ⟨10, [6, 9, 3], ⟨(some 105), (some (98, true)), (.op (.bin .eql (.t 101) (.t 104)))⟩⟩,
  ⟨11, [3, 10], ⟨(some 106), none, (.op (.pick (.t 98) (.t 105) (.c (.bool false))))⟩⟩,
  ⟨12, [11, 3], ⟨(some 107), none, (.op (.mov (.t 106)))⟩⟩,
  ⟨13, [12], ⟨(some 108), (some (107, true)), (.op (.faddr (.t 3) 2))⟩⟩,
  ⟨14, [13, 12], ⟨(some 109), (some (107, true)), (.op (.load (.t 108)))⟩⟩,
  ⟨15, [14, 12], ⟨(some 110), (some (107, true)), (.op (.bin .eql (.t 109) (.c (.int .i64 1))))⟩⟩,
  ⟨16, [12, 15], ⟨(some 111), none, (.op (.pick (.t 107) (.t 110) (.c (.bool false))))⟩⟩,
  ⟨17, [16, 12, 0, 1, 2, 3, 4, 5, 6, 7, 8, 9, 10, 11, 12, 13, 14, 15, 16], ⟨(some 9), none, (.op (.mov (.t 111)))⟩⟩]
def may_r25 : List Ins := [⟨(some 113), none, (.op (.bin .eql (.t 32) (.c (.int .i64 6))))⟩,
  ⟨(some 112), none, (.op (.mov (.t 113)))⟩]
def may_r26 : List Ins := [⟨(some 114), none, (.op (.mov (.t 5)))⟩,
  ⟨(some 115), none, (.op (.len .slc (.t 114)))⟩,
  ⟨(some 116), none, (.op (.bin .eql (.t 115) (.c (.int .i64 1))))⟩,
  ⟨(some 9), none, (.op (.mov (.t 116)))⟩]
def may_r27 : List Ins := [⟨(some 118), none, (.op (.bin .eql (.t 32) (.c (.int .i64 7))))⟩,
  ⟨(some 117), none, (.op (.mov (.t 118)))⟩]
def may_r28 : List DIns := [⟨0, [], ⟨(some 119), none, (.op (.mov (.t 5)))⟩⟩,
  ⟨1, [0], ⟨(some 120), none, (.op (.len .slc (.t 119)))⟩⟩,
  ⟨2, [1], ⟨(some 121), none, (.op (.bin .eql (.t 120) (.c (.int .i64 2))))⟩⟩,
  ⟨3, [2], ⟨(some 122), none, (.op (.mov (.t 121)))⟩⟩,
  ⟨4, [3], ⟨(some 123), (some (122, true)), (.op (.mov (.t 5)))⟩⟩,
  ⟨5, [4, 3], ⟨(some 124), (some (122, true)), (.op (.iaddr 1 (.t 123) (.c (.int .i64 1))))⟩⟩,
  ⟨6, [5, 3], ⟨(some 125), (some (122, true)), (.op (.load (.t 124)))⟩⟩,
  ⟨7, [3], ⟨(some 126), (some (122, true)), (.op (.faddr (.t 3) 2))⟩⟩,
  ⟨8, [7, 3], ⟨(some 127), (some (122, true)), (.op (.load (.t 126)))⟩⟩,
  ⟨9, [6, 8, 3], ⟨(some 128), (some (122, true)), (.op (.bin .eql (.t 125) (.t 127)))⟩⟩,
  ⟨10, [3, 9], ⟨(some 129), none, (.op (.pick (.t 122) (.t 128) (.c (.bool false))))⟩⟩,
  ⟨11, [10, 3, 0, 1, 2, 3, 4, 5, 6, 7, 8, 9, 10], ⟨(some 9), none, (.op (.mov (.t 129)))⟩⟩]
def may_r29 : List Ins := [⟨(some 131), none, (.op (.bin .eql (.t 32) (.c (.int .i64 8))))⟩,
  ⟨(some 130), none, (.op (.mov (.t 131)))⟩]
def may_r30 : List DIns := [⟨0, [], ⟨(some 132), none, (.op (.mov (.t 5)))⟩⟩,
  ⟨1, [0], ⟨(some 133), none, (.op (.len .slc (.t 132)))⟩⟩,
  ⟨2, [1], ⟨(some 134), none, (.op (.bin .eql (.t 133) (.c (.int .i64 1))))⟩⟩,
  ⟨3, [2], ⟨(some 135), none, (.op (.mov (.t 134)))⟩⟩,
  ⟨4, [3], ⟨(some 136), (some (135, true)), (.op (.mov (.t 5)))⟩⟩,
  ⟨5, [4, 3], ⟨(some 137), (some (135, true)), (.op (.iaddr 1 (.t 136) (.c (.int .i64 0))))⟩⟩,
  ⟨6, [5, 3], ⟨(some 138), (some (135, true)), (.op (.load (.t 137)))⟩⟩,
  ⟨7, [3], ⟨(some 139), (some (135, true)), (.op (.faddr (.t 3) 2))⟩⟩,
  ⟨8, [7, 3], ⟨(some 140), (some (135, true)), (.op (.load (.t 139)))⟩⟩,
  ⟨9, [6, 8, 3], ⟨(some 141), (some (135, true)), (.op (.bin .eql (.t 138) (.t 140)))⟩⟩,
  ⟨10, [3, 9], ⟨(some 142), none, (.op (.pick (.t 135) (.t 141) (.c (.bool false))))⟩⟩,
  ⟨11, [10, 3], ⟨(some 143), none, (.op (.mov (.t 142)))⟩⟩,
  ⟨12, [11], ⟨(some 144), (some (143, true)), (.op (.faddr (.t 3) 7))⟩⟩,
  ⟨13, [12, 11], ⟨(some 145), (some (143, true)), (.op (.load (.t 144)))⟩⟩,
  ⟨14, [13, 11], ⟨(some 146), (some (143, true)), (.op (.bin .geq (.t 145) (.c (.int .i64 1))))⟩⟩,
  ⟨15, [11, 14], ⟨(some 147), none, (.op (.pick (.t 143) (.t 146) (.c (.bool false))))⟩⟩,
  ⟨16, [15, 11], ⟨(some 148), none, (.op (.mov (.t 147)))⟩⟩,
  ⟨17, [16], ⟨(some 149), (some (148, true)), (.op (.faddr (.t 3) 7))⟩⟩,
  ⟨18, [17, 16], ⟨(some 150), (some (148, true)), (.op (.load (.t 149)))⟩⟩,
  ⟨19, [18, 16], ⟨(some 151), (some (148, true)), (.op (.bin .leq (.t 150) (.c (.int .i64 1048576))))⟩⟩,
  ⟨20, [16, 19], ⟨(some 152), none, (.op (.pick (.t 148) (.t 151) (.c (.bool false))))⟩⟩,
  ⟨21, [20, 16, 0, 1, 2, 3, 4, 5, 6, 7, 8, 9, 10, 11, 12, 13, 14, 15, 16, 17, 18, 19, 20], ⟨(some 9), none, (.op (.mov (.t 152)))⟩⟩]
def may_r31 : List Ins := [⟨(some 153), none, (.op (.faddr (.t 8) 7))⟩,
  ⟨none, none, (.op (.store 1 (.t 153) (.c (.int .i64 0))))⟩]
def may_r32 : List Ins := [⟨(some 154), none, (.op (.mov (.t 9)))⟩,
  ⟨(some 155), none, (.op (.mov (.t 154)))⟩,
  ⟨(some 156), (some (155, true)), (.op (.faddr (.t 8) 1))⟩,
  ⟨(some 157), (some (155, true)), (.op (.load (.t 156)))⟩,
  ⟨(some 158), (some (155, true)), (.op (.bin .eql (.t 157) (.c (.int .i64 0))))⟩,
  ⟨(some 159), none, (.op (.pick (.t 155) (.t 158) (.c (.bool false))))⟩,
  ⟨(some 160), none, (.op (.mov (.t 159)))⟩,
  ⟨(some 161), (some (160, true)), (.op (.faddr (.t 8) 4))⟩,
  ⟨(some 162), (some (160, true)), (.op (.load (.t 161)))⟩,
  ⟨(some 163), (some (160, true)), (.op (.bin .eql (.t 162) (.c (.str []))))⟩,
  ⟨(some 164), none, (.op (.pick (.t 160) (.t 163) (.c (.bool false))))⟩,
  ⟨(some 165), none, (.op (.mov (.t 164)))⟩,
  ⟨(some 166), (some (165, true)), (.op (.faddr (.t 8) 5))⟩,
  ⟨(some 167), (some (165, true)), (.op (.load (.t 166)))⟩,
  ⟨(some 168), (some (165, true)), (.op (.bin .eql (.t 167) (.c (.int .i64 0))))⟩,
  ⟨(some 169), none, (.op (.pick (.t 165) (.t 168) (.c (.bool false))))⟩,
  ⟨(some 170), none, (.op (.mov (.t 169)))⟩,
  ⟨(some 171), (some (170, true)), (.op (.faddr (.t 8) 6))⟩,
  ⟨(some 172), (some (170, true)), (.op (.load (.t 171)))⟩,
  ⟨(some 173), (some (170, true)), (.op (.bin .eql (.t 172) (.c (.int .i64 0))))⟩,
  ⟨(some 174), none, (.op (.pick (.t 170) (.t 173) (.c (.bool false))))⟩,
  ⟨(some 175), none, (.op (.mov (.t 174)))⟩,
  ⟨(some 176), (some (175, true)), (.op (.faddr (.t 8) 7))⟩,
  ⟨(some 177), (some (175, true)), (.op (.load (.t 176)))⟩,
  ⟨(some 178), (some (175, true)), (.op (.bin .eql (.t 177) (.c (.int .i64 0))))⟩,
  ⟨(some 179), none, (.op (.pick (.t 175) (.t 178) (.c (.bool false))))⟩,
  ⟨(some 4), none, (.op (.mov (.t 179)))⟩]
def may_c : IC := (.seq (.reg may_r0) (.seq (.reg may_r1) (.seq (.seq (.reg may_r2) (.block 0 (.loop (.seq (.reg may_r3) (.seq (.cond (.t 14) .skip (.exit 0)) (.seq (.block 1 (.seq (.reg may_r4) (.reg may_r5))) (.reg may_r6))))))) (.seq (.reg may_r7) (.seq (.reg may_r8) (.seq (.reg may_r9) (.seq (.seq (.reg may_r10) (.block 2 (.seq (.reg may_r11) (.cond (.t 33) (.seq (.reg may_r12) (.reg may_r13)) (.seq (.reg may_r14) (.cond (.t 53) (.reg may_r15) (.seq (.reg may_r16) (.cond (.t 58) (.seq (.draw may_r17) (.seq (.reg may_r18) (.seq (.reg may_r19) (.cond (.t 69) (.reg may_r20) .skip)))) (.seq (.reg may_r21) (.cond (.t 72) (.draw may_r22) (.seq (.reg may_r23) (.cond (.t 93) (.draw may_r24) (.seq (.reg may_r25) (.cond (.t 112) (.reg may_r26) (.seq (.reg may_r27) (.cond (.t 117) (.draw may_r28) (.seq (.reg may_r29) (.cond (.t 130) (.seq (.draw may_r30) (.reg may_r31)) .skip)))))))))))))))))) (.seq (.reg may_r32) .ret))))))))
theorem may_tab : tb 103 = some (.code 2 180 may_c [.tmp 4]) := by kernel_rfl
def chk_r0 : List Ins := [⟨(some 1), none, (.op (.box (.t 0)))⟩,
  ⟨(some 2), none, (.op (.mov (.c (.int .i64 0))))⟩]
def chk_r1 : List Ins := [⟨(some 11), none, (.op (.faddr (.t 1) 0))⟩,
  ⟨(some 12), none, (.op (.load (.t 11)))⟩,
  ⟨(some 13), none, (.op (.len .slc (.t 12)))⟩,
  ⟨(some 14), none, (.op (.bin .gtr (.t 13) (.c (.int .i64 4096))))⟩,
  ⟨(some 15), none, (.op (.mov (.t 14)))⟩,
  ⟨(some 16), (some (15, false)), (.op (.faddr (.t 1) 2))⟩,
  ⟨(some 17), (some (15, false)), (.op (.load (.t 16)))⟩,
  ⟨(some 18), (some (15, false)), (.op (.faddr (.t 1) 1))⟩,
  ⟨(some 19), (some (15, false)), (.op (.load (.t 18)))⟩,
  ⟨(some 20), (some (15, false)), (.op (.len .slc (.t 19)))⟩,
  ⟨(some 21), (some (15, false)), (.op (.bin .neq (.t 17) (.t 20)))⟩,
  ⟨(some 22), none, (.op (.pick (.t 15) (.c (.bool true)) (.t 21)))⟩]
def chk_r2 : List Ins := [⟨(some 2), none, (.op (.mov (.c (.int .i64 1))))⟩]
def chk_r3 : List Ins := [⟨(some 23), none, (.op (.mkfn 100 [] [(.t 1)]))⟩,
  ⟨(some 3), none, (.op (.alloc [.nfunc]))⟩,
  ⟨none, none, (.op (.store 1 (.t 3) (.t 23)))⟩]
def chk_r4 : List Ins := [⟨(some 24), none, (.op (.faddr (.t 1) 0))⟩,
  ⟨(some 25), none, (.op (.load (.t 24)))⟩,
  ⟨(some 26), none, (.op (.len .slc (.t 25)))⟩,
  ⟨(some 27), none, (.op (.mov (.c (.int .i64 0))))⟩]
def chk_r5 : List Ins := [⟨(some 28), none, (.op (.bin .lss (.t 27) (.t 26)))⟩]
def chk_r6 : List Ins := [⟨(some 29), none, (.op (.iaddr 8 (.t 25) (.t 27)))⟩,
  ⟨(some 30), none, (.op (.loadA 8 (.t 29)))⟩,
  ⟨(some 5), none, (.op (.alloc [(.int .i64 0), (.int .i64 0), (.int .i64 0), .nslice, (.str []), (.int .i64 0), (.int .i64 0), (.int .i64 0)]))⟩,
  ⟨none, none, (.op (.store 8 (.t 5) (.t 30)))⟩]
def chk_r7 : List Ins := [⟨(some 31), none, (.op (.faddr (.t 5) 2))⟩,
  ⟨(some 32), none, (.op (.load (.t 31)))⟩,
  ⟨(some 33), none, (.op (.bin .lss (.t 32) (.c (.int .i64 1))))⟩,
  ⟨(some 34), none, (.op (.mov (.t 33)))⟩,
  ⟨(some 35), (some (34, false)), (.op (.faddr (.t 5) 2))⟩,
  ⟨(some 36), (some (34, false)), (.op (.load (.t 35)))⟩,
  ⟨(some 37), (some (34, false)), (.op (.bin .gtr (.t 36) (.c (.int .i64 256))))⟩,
  ⟨(some 38), none, (.op (.pick (.t 34) (.c (.bool true)) (.t 37)))⟩,
  ⟨(some 39), none, (.op (.mov (.t 38)))⟩,
  ⟨(some 40), (some (39, false)), (.op (.faddr (.t 5) 3))⟩,
  ⟨(some 41), (some (39, false)), (.op (.load (.t 40)))⟩,
  ⟨(some 42), (some (39, false)), (.op (.mkfn 102 [] [(.t 3)]))⟩,
  ⟨(some 43), (some (39, false)), (.callF 101 [(.t 41), (.t 42)])⟩,
  ⟨(some 44), none, (.op (.pick (.t 39) (.c (.bool true)) (.t 43)))⟩]
def chk_r8 : List Ins := [⟨(some 2), none, (.op (.mov (.c (.int .i64 1))))⟩]
def chk_r9 : List Ins := [⟨(some 45), none, (.op (.bin .add (.t 27) (.c (.int .i64 1))))⟩,
  ⟨(some 27), none, (.op (.mov (.t 45)))⟩]
def chk_r10 : List Ins := [⟨(some 46), none, (.op .mkmap)⟩,
  ⟨(some 6), none, (.op (.mov (.t 46)))⟩]
def chk_r11 : List Ins := [⟨(some 47), none, (.op (.faddr (.t 1) 1))⟩,
  ⟨(some 48), none, (.op (.load (.t 47)))⟩,
  ⟨(some 49), none, (.op (.len .slc (.t 48)))⟩,
  ⟨(some 50), none, (.op (.mov (.c (.int .i64 0))))⟩]
def chk_r12 : List Ins := [⟨(some 51), none, (.op (.bin .lss (.t 50) (.t 49)))⟩]
def chk_r13 : List Ins := [⟨(some 52), none, (.op (.iaddr 1 (.t 48) (.t 50)))⟩,
  ⟨(some 53), none, (.op (.load (.t 52)))⟩,
  ⟨(some 8), none, (.op (.mov (.t 53)))⟩]
def chk_r14 : List Ins := [⟨(some 54), none, (.op (.load (.t 3)))⟩,
  ⟨(some 55), none, (.op (.mov (.t 8)))⟩,
  ⟨(some 56), none, (.callV (.t 54) [(.t 55)])⟩,
  ⟨(some 57), none, (.op (.not (.t 56)))⟩]
def chk_r15 : List Ins := [⟨(some 2), none, (.op (.mov (.c (.int .i64 1))))⟩]
def chk_r16 : List Ins := [⟨(some 58), none, (.op (.mov (.t 6)))⟩,
  ⟨(some 59), none, (.op (.mov (.t 8)))⟩,
  ⟨(some 60), none, (.op (.look .int (.int .i64 0) (.t 58) (.t 59) false))⟩,
  ⟨(some 61), none, (.op (.bin .add (.t 60) (.c (.int .i64 1))))⟩,
  ⟨none, none, (.op (.mupd .int (.t 58) (.t 59) (.t 61)))⟩]
def chk_r17 : List Ins := [⟨(some 62), none, (.op (.bin .add (.t 50) (.c (.int .i64 1))))⟩,
  ⟨(some 50), none, (.op (.mov (.t 62)))⟩]
def chk_r18 : List Ins := [⟨(some 63), none, (.op (.faddr (.t 1) 0))⟩,
  ⟨(some 64), none, (.op (.load (.t 63)))⟩,
  ⟨(some 65), none, (.op (.len .slc (.t 64)))⟩,
  ⟨(some 66), none, (.op (.mov (.c (.int .i64 0))))⟩]
def chk_r19 : List Ins := [⟨(some 67), none, (.op (.bin .lss (.t 66) (.t 65)))⟩]
def chk_r20 : List Ins := [⟨(some 68), none, (.op (.mov (.t 66)))⟩,
  ⟨(some 69), none, (.op (.iaddr 8 (.t 64) (.t 66)))⟩,
  ⟨(some 70), none, (.op (.loadA 8 (.t 69)))⟩,
  ⟨(some 10), none, (.op (.alloc [(.int .i64 0), (.int .i64 0), (.int .i64 0), .nslice, (.str []), (.int .i64 0), (.int .i64 0), (.int .i64 0)]))⟩,
  ⟨(some 9), none, (.op (.mov (.t 68)))⟩,
  ⟨none, none, (.op (.store 8 (.t 10) (.t 70)))⟩]
def chk_r21 : List Ins := [⟨(some 71), none, (.op (.loadA 3 (.t 1)))⟩,
  ⟨(some 72), none, (.op (.loadA 8 (.t 10)))⟩,
  ⟨(some 73), none, (.callF 103 [(.t 71), (.t 72)])⟩,
  ⟨(some 74), none, (.op (.not (.t 73)))⟩,
  ⟨(some 75), none, (.op (.mov (.t 74)))⟩,
  ⟨(some 76), (some (75, false)), (.op (.faddr (.t 10) 0))⟩,
  ⟨(some 77), (some (75, false)), (.op (.load (.t 76)))⟩,
  ⟨(some 78), (some (75, false)), (.op (.bin .eql (.t 77) (.c (.int .i64 2))))⟩,
  ⟨(some 79), (some (75, false)), (.op (.mov (.t 78)))⟩,
  ⟨(some 80), (some (79, true)), (.op (.mov (.t 6)))⟩,
  ⟨(some 81), (some (79, true)), (.op (.mov (.t 9)))⟩,
  ⟨(some 82), (some (79, true)), (.op (.look .int (.int .i64 0) (.t 80) (.t 81) false))⟩,
  ⟨(some 83), (some (79, true)), (.op (.bin .neq (.t 82) (.c (.int .i64 1))))⟩,
  ⟨(some 84), (some (75, false)), (.op (.pick (.t 79) (.t 83) (.c (.bool false))))⟩,
  ⟨(some 85), none, (.op (.pick (.t 75) (.c (.bool true)) (.t 84)))⟩]
def chk_r22 : List Ins := [⟨(some 2), none, (.op (.mov (.c (.int .i64 1))))⟩]
def chk_r23 : List Ins := [⟨(some 86), none, (.op (.bin .add (.t 66) (.c (.int .i64 1))))⟩,
  ⟨(some 66), none, (.op (.mov (.t 86)))⟩]
def chk_r24 : List Ins := [⟨(some 2), none, (.op (.mov (.c (.int .i64 0))))⟩]
def chk_c : IC := (.seq (.reg chk_r0) (.seq (.seq (.reg chk_r1) (.cond (.t 22) (.seq (.reg chk_r2) .ret) .skip)) (.seq (.reg chk_r3) (.seq (.seq (.reg chk_r4) (.block 0 (.loop (.seq (.reg chk_r5) (.seq (.cond (.t 28) .skip (.exit 0)) (.seq (.block 1 (.seq (.reg chk_r6) (.seq (.reg chk_r7) (.cond (.t 44) (.seq (.reg chk_r8) .ret) .skip)))) (.reg chk_r9))))))) (.seq (.reg chk_r10) (.seq (.seq (.reg chk_r11) (.block 2 (.loop (.seq (.reg chk_r12) (.seq (.cond (.t 51) .skip (.exit 2)) (.seq (.block 3 (.seq (.reg chk_r13) (.seq (.seq (.reg chk_r14) (.cond (.t 57) (.seq (.reg chk_r15) .ret) .skip)) (.reg chk_r16)))) (.reg chk_r17))))))) (.seq (.seq (.reg chk_r18) (.block 4 (.loop (.seq (.reg chk_r19) (.seq (.cond (.t 67) .skip (.exit 4)) (.seq (.block 5 (.seq (.reg chk_r20) (.seq (.reg chk_r21) (.cond (.t 85) (.seq (.reg chk_r22) .ret) .skip)))) (.reg chk_r23))))))) (.seq (.reg chk_r24) .ret))))))))
theorem chk_tab : tb 48 = some (.code 1 87 chk_c [.tmp 2]) := by kernel_rfl
def chk1_r0 : List Ins := [⟨(some 3), none, (.op (.mov (.c (.bool false))))⟩]
def chk1_r1 : List Ins := [⟨(some 4), none, (.op (.mov (.t 0)))⟩,
  ⟨(some 5), none, (.op (.bin .geq (.t 4) (.c (.int .i64 0))))⟩,
  ⟨(some 6), none, (.op (.mov (.t 5)))⟩,
  ⟨(some 7), (some (6, true)), (.op (.mov (.t 0)))⟩,
  ⟨(some 8), (some (6, true)), (.op (.faddr (.t 1) 0))⟩,
  ⟨(some 9), (some (6, true)), (.op (.load (.t 8)))⟩,
  ⟨(some 10), (some (6, true)), (.op (.len .slc (.t 9)))⟩,
  ⟨(some 11), (some (6, true)), (.op (.bin .lss (.t 7) (.t 10)))⟩,
  ⟨(some 12), none, (.op (.pick (.t 6) (.t 11) (.c (.bool false))))⟩,
  ⟨(some 3), none, (.op (.mov (.t 12)))⟩]
def chk1_c : IC := (.seq (.reg chk1_r0) (.seq (.reg chk1_r1) .ret))
theorem chk1_tab : tb 100 = some (.code 2 13 chk1_c [.tmp 3]) := by kernel_rfl
def chk2_r0 : List Ins := [⟨(some 3), none, (.op (.mov (.c (.bool false))))⟩]
def chk2_r1 : List Ins := [⟨(some 4), none, (.op (.load (.t 1)))⟩,
  ⟨(some 5), none, (.op (.mov (.t 0)))⟩,
  ⟨(some 6), none, (.callV (.t 4) [(.t 5)])⟩,
  ⟨(some 7), none, (.op (.not (.t 6)))⟩,
  ⟨(some 3), none, (.op (.mov (.t 7)))⟩]
def chk2_c : IC := (.seq (.reg chk2_r0) (.seq (.reg chk2_r1) .ret))
theorem chk2_tab : tb 102 = some (.code 2 8 chk2_c [.tmp 3]) := by kernel_rfl
def contains_r0 : List Ins := [⟨(some 4), none, (.op (.mov (.c (.bool false))))⟩]
def contains_r1 : List Ins := [⟨(some 5), none, (.op (.mov (.t 0)))⟩,
  ⟨(some 6), none, (.op (.mov (.t 1)))⟩,
  ⟨(some 7), none, (.callF 149 [(.t 5), (.t 6)])⟩,
  ⟨(some 8), none, (.op (.bin .geq (.t 7) (.c (.int .i64 0))))⟩,
  ⟨(some 4), none, (.op (.mov (.t 8)))⟩]
def contains_c : IC := (.seq (.reg contains_r0) (.seq (.reg contains_r1) .ret))
theorem contains_tab : tb 101 = some (.code 2 9 contains_c [.tmp 4]) := by kernel_rfl
def index_r0 : List Ins := [⟨(some 4), none, (.op (.mov (.c (.int .i64 0))))⟩]
def index_r1 : List Ins := [⟨(some 6), none, (.op (.mov (.t 0)))⟩,
  ⟨(some 7), none, (.op (.len .slc (.t 6)))⟩,
  ⟨(some 8), none, (.op (.mov (.c (.int .i64 0))))⟩]
def index_r2 : List Ins := [⟨(some 9), none, (.op (.bin .lss (.t 8) (.t 7)))⟩]
def index_r3 : List Ins := [⟨(some 10), none, (.op (.mov (.t 8)))⟩,
  ⟨(some 5), none, (.op (.mov (.t 10)))⟩]
def index_r4 : List Ins := [⟨(some 11), none, (.op (.mov (.t 1)))⟩,
  ⟨(some 12), none, (.op (.mov (.t 0)))⟩,
  ⟨(some 13), none, (.op (.mov (.t 5)))⟩,
  ⟨(some 14), none, (.op (.iaddr 1 (.t 12) (.t 13)))⟩,
  ⟨(some 15), none, (.op (.load (.t 14)))⟩,
  ⟨(some 16), none, (.callV (.t 11) [(.t 15)])⟩]
def index_r5 : List Ins := [⟨(some 17), none, (.op (.mov (.t 5)))⟩,
  ⟨(some 4), none, (.op (.mov (.t 17)))⟩]
def index_r6 : List Ins := [⟨(some 18), none, (.op (.bin .add (.t 8) (.c (.int .i64 1))))⟩,
  ⟨(some 8), none, (.op (.mov (.t 18)))⟩]
def index_r7 : List Ins := [⟨(some 4), none, (.op (.mov (.c (.int .i64 (-1)))))⟩]
def index_c : IC := (.seq (.reg index_r0) (.seq (.seq (.reg index_r1) (.block 0 (.loop (.seq (.reg index_r2) (.seq (.cond (.t 9) .skip (.exit 0)) (.seq (.block 1 (.seq (.reg index_r3) (.seq (.reg index_r4) (.cond (.t 16) (.seq (.reg index_r5) .ret) .skip)))) (.reg index_r6))))))) (.seq (.reg index_r7) .ret)))
theorem index_tab : tb 149 = some (.code 2 19 index_c [.tmp 4]) := by kernel_rfl
variable [Env]
theorem rowI_get {r : List AV} {o i : Nat} {l : List Int} {a : Int} (h : (r.drop o).take l.length = ints l) (hi : l[i]? = some a) : r[o + i]? = some (.int .i64 a) := by
  have hl : i < l.length := by
    rcases Nat.lt_or_ge i l.length with h' | h'
    · exact h'
    · rw [List.getElem?_eq_none h'] at hi; cases hi
  have e := congrArg (fun m => m[i]?) h
  simp only [List.getElem?_take, if_pos hl, List.getElem?_drop] at e
  rw [e]
  simp [ints, i64, hi]
theorem o_len_I {T : TA} {t t0 : TB} {nx bd : Nat} {l : List Int} {gv : AV} {x : Opd} (h : RowI t0 bd gv l) (hx : x.ev T = some gv) : (IOp.len .slc x).run T t nx = .ok (.int .i64 ((l.length : Nat) : Int)) t nx := by
  rcases h with ⟨rfl, rfl⟩ | ⟨g, o, c, ex, wr, r, rfl, -⟩
  · exact o_len_nslice hx
  · exact o_len_slice hx
theorem o_len_N {T : TA} {t t0 : TB} {nx bd : Nat} {l : List Nd} {gv : AV} {x : Opd} (h : RowN t0 bd gv l) (hx : x.ev T = some gv) : (IOp.len .slc x).run T t nx = .ok (.int .i64 ((l.length : Nat) : Int)) t nx := by
  rcases h with ⟨rfl, rfl⟩ | ⟨g, o, c, ex, wr, r, ivs, rfl, -⟩
  · exact o_len_nslice hx
  · exact o_len_slice hx
theorem len1 {l : List Int} (h : ((l.length : Nat) : Int) = 1) : ∃ a, l = [a] := by
  match l, h with
  | [a], _ => exact ⟨a, rfl⟩
  | [], h => simp at h
  | _ :: _ :: _, h => simp at h; omega
theorem len2 {l : List Int} (h : ((l.length : Nat) : Int) = 2) : ∃ a b, l = [a, b] := by
  match l, h with
  | [a, b], _ => exact ⟨a, b, rfl⟩
  | [], h => simp at h
  | [_], h => simp at h
  | _ :: _ :: _ :: _, h => simp at h; omega
theorem len3 {l : List Int} (h : ((l.length : Nat) : Int) = 3) : ∃ a b c, l = [a, b, c] := by
  match l, h with
  | [a, b, c], _ => exact ⟨a, b, c, rfl⟩
  | [], h => simp at h
  | [_], h => simp at h
  | [_, _], h => simp at h
  | _ :: _ :: _ :: _ :: _, h => simp at h; omega
theorem len0 {l : List Int} (h : ((l.length : Nat) : Int) = 0) : l = [] := by
  cases l with
  | nil => rfl
  | cons a l => simp at h; omega
/-- What the program's own reckoning tells of a width. -/
def OperA (x : Nd) (w : List Int) (r : Int) : Prop := (x.op = 5 → r = w.sum) ∧ (x.op ≠ 5 → operW x w = r ∨ r = 0 ∧ operW x w = -1)
theorem sum_le {l : List Int} (h : ∀ a ∈ l, 1 ≤ a ∧ a ≤ 256) : (l.length : Int) ≤ l.sum ∧ l.sum ≤ 256 * (l.length : Int) := by
  induction l with
  | nil => simp
  | cons a l ih =>
    have h1 := h a (by simp)
    have h2 := ih (fun b hb => h b (by simp [hb]))
    simp only [List.sum_cons, List.length_cons]
    omega
theorem sum_take {l : List Int} {i : Nat} {a : Int} (h : l[i]? = some a) : (l.take (i + 1)).sum = (l.take i).sum + a := by
  rw [List.take_succ, h]; simp
theorem operA_0 {x : Nd} {w : List Int} (h5 : x.op ≠ 5) (h : operW x w = -1) : OperA x w 0 := ⟨fun e => absurd e h5, fun _ => .inr ⟨rfl, h⟩⟩
theorem operA_r {x : Nd} {w : List Int} {r : Int} (h5 : x.op ≠ 5) (h : operW x w = r) : OperA x w r := ⟨fun e => absurd e h5, fun _ => .inl h⟩

theorem is_ok {t : TB} {nx : Nat} (b : Bool) : WF tb 196 [.bool b] t nx (fun v t' nx' => v = .int .i64 (if b then 1 else 0) ∧ nx ≤ nx' ∧ Keep t t' nx (fun _ => False)) := by
  cases b
  · refine k_fun is__tab rfl ?_
    unfold is__c
    change WC _ _ (TA.put (some _) TA.e 0) _ _ _
    refine k_seq (k_reg (r_op (o_mov ev_c) rfl (r_nil (k_seq (k_seq (k_reg (m1 (z1 rfl get_same) (r_nil (k_cond_f (ev_t ds) (k_skip (k_seq (k_reg (r_op (o_mov ev_c) rfl (r_nil (k_ret ?_)))))))))))))))
    exact ⟨_, ans_tmp ds, rfl, Nat.le_refl _, Keep.refl _ _ _⟩
  refine k_fun is__tab rfl ?_
  unfold is__c
  change WC _ _ (TA.put (some _) TA.e 0) _ _ _
  refine k_seq (k_reg (r_op (o_mov ev_c) rfl (r_nil (k_seq (k_seq (k_reg (m1 (z1 rfl get_same) (r_nil (k_cond_t (ev_t ds) (k_seq (k_reg (r_op (o_mov ev_c) rfl (r_nil (k_ret ?_))))))))))))))
  exact ⟨_, ans_tmp ds, rfl, Nat.le_refl _, Keep.refl _ _ _⟩
set_option maxHeartbeats 8000000 in
theorem operated_ok {t : TB} {nx bd : Nat} (x : Nd) (iv wv : AV) (ws : List Int) (hw : RowI t bd wv ws) (hb : bd ≤ nx) (hs : ∀ a ∈ ws, 1 ≤ a ∧ a ≤ 256) (hl : ws.length < 1000000000000000) :
    WF tb 150 [.agg (ncells x iv), wv] t nx (fun v t' nx' => ∃ r, v = .int .i64 r ∧ OperA x ws r ∧ nx ≤ nx' ∧ Keep t t' nx (fun _ => False)) := by
  unfold ncells
  rcases hw with ⟨rfl, rfl⟩ | ⟨d, o, cc, ex, wr, r, rfl, hd, hr, hrl, hseg⟩
  · refine k_fun operated_tab rfl ?_
    unfold operated_c
    change WC _ _ (TA.put (some _) (TA.put (some _) TA.e 0) 1) _ _ _
    refine k_seq (k_reg (r_heap (o_box (ev_t (get_other rfl get_same))) rfl (fun t1 (hh2 : hv t1 = upd (hv t) nx (some (.row [(.int .i64 x.kind), (.int .i64 x.op), (.int .i64 x.wide), iv, (.str x.value), (.int .i64 x.hi), (.int .i64 x.lo), (.int .i64 x.time)] true))) => r_op (o_mov ev_c) rfl (r_nil (k_seq (k_reg (m1 (z2 rfl get_same) (r_op (o_len_nslice (ev_t ds)) rfl (m1 ds (r_nil (k_seq (k_seq (k_reg (r_op (o_faddr (off := 1) (ev_t (z4 rfl ds))) rfl (r_op (o_load (ev_t ds) (look_same hh2) rfl) rfl (m1 ds (r_nil (k_block (k_seq ?_)))))))))))))))))))
    refine k_cut (fun T_ t_ n_ => t1 = t_ ∧ (nx + 1) = n_ ∧ T_.get 14 = some (.bool (decide (x.op = 7 ∨ x.op = 9))) ∧ T_.get 1 = some .nslice ∧ T_.get 2 = some (.ptr nx 0) ∧ T_.get 5 = some (.int .i64 ((0 : Nat) : Int)) ∧ T_.get 6 = some (.int .i64 x.op)) ?_ ?_
    · refine k_reg (m1 ds ?_)
      by_cases hs9 : (x.op = 7)
      · refine r_op (dec_t (o_eql (ev_t ds) ev_c) hs9) rfl (m1 ds (r_off (want_not ds rfl) (r_off (want_not (z1 rfl ds) rfl) (r_op (o_pick_t (ev_t (z2 rfl ds)) ev_c) rfl (m1 ds (r_nil ?_))))))
        exact ⟨rfl, rfl, bt_ (by omega) ds, (z1 rfl (z2 rfl (z4 rfl (z8 rfl get_same)))), (z2 rfl (z4 rfl (z8 rfl ds))), (z2 rfl (z8 rfl ds)), (z1 rfl (z2 rfl (z4 rfl ds)))⟩
      refine r_op (dec_f (o_eql (ev_t ds) ev_c) hs9) rfl (m1 ds (r_op (o_mov (ev_t (z1 rfl (z2 rfl ds)))) (want_on ds) (r_op (o_eql (ev_t ds) ev_c) (want_on (z1 rfl ds)) (r_op (o_pick_f (ev_t (z2 rfl ds)) (ev_t ds)) rfl (m1 ds (r_nil ?_))))))
      exact ⟨rfl, rfl, bd_ ⟨fun _ => by omega, fun _ => by omega⟩ ds, (z1 rfl (z2 rfl (z4 rfl (z8 rfl get_same)))), (z2 rfl (z4 rfl (z8 rfl ds))), (z2 rfl (z8 rfl ds)), (z1 rfl (z2 rfl (z4 rfl ds)))⟩
    rintro T3 _ _ ⟨rfl, rfl, q4, q5, q6, q7, q8⟩
    refine k_cond (ev_t q4) (fun hc10 => ?_) (fun hc10 => ?_)
    · replace hc10 := of_decide_eq_true hc10
      refine k_seq (k_reg (m1 q7 (r_op (dec_f (o_eql (ev_t ds) ev_c) (by simp)) rfl (r_nil (k_cond_f (ev_t ds) (k_skip (k_seq (k_reg (r_op (o_mov ev_c) rfl (r_nil (k_ret ?_)))))))))))
      have hfin : OperA x [] 0 := by
        refine ⟨fun e => by exfalso; omega, fun _ => ?_⟩
        unfold operW
        rw [if_pos (by omega)]
        first | exact .inl rfl | exact .inr ⟨rfl, rfl⟩ | (dsimp only; first | (rw [if_pos (by omega)]; first | exact .inl rfl | exact .inl (by omega)) | (rw [if_neg (by omega)]; exact .inr ⟨rfl, rfl⟩))
      exact ⟨_, ans_tmp ds, _, rfl, hfin, by omega, Keep.upd (Keep.refl _ _ _) hh2 (.inl (by omega))⟩
    replace hc10 := of_decide_eq_false hc10
    refine k_seq ?_
    refine k_cut (fun T_ t_ n_ => t1 = t_ ∧ (nx + 1) = n_ ∧ T_.get 26 = some (.bool (decide (7 ≤ x.op ∧ x.op ≤ 12))) ∧ T_.get 1 = some .nslice ∧ T_.get 2 = some (.ptr nx 0) ∧ T_.get 5 = some (.int .i64 ((0 : Nat) : Int)) ∧ T_.get 6 = some (.int .i64 x.op)) ?_ ?_
    · refine k_reg (m1 q8 ?_)
      by_cases hs17 : (x.op < 7)
      · refine r_op (ndec_f (o_geq (ev_t ds) ev_c) hs17) rfl (m1 ds (r_off (want_not ds rfl) (r_off (want_not (z1 rfl ds) rfl) (r_op (o_pick_f (ev_t (z2 rfl ds)) ev_c) rfl (m1 ds (r_nil ?_))))))
        exact ⟨rfl, rfl, bf_ (by omega) ds, (z1 rfl (z2 rfl (z4 rfl q5))), (z1 rfl (z2 rfl (z4 rfl q6))), (z1 rfl (z2 rfl (z4 rfl q7))), (z1 rfl (z2 rfl (z4 rfl q8)))⟩
      refine r_op (ndec_t (o_geq (ev_t ds) ev_c) hs17) rfl (m1 ds (r_op (o_mov (ev_t (z1 rfl (z2 rfl q8)))) (want_on ds) (r_op (o_leq (ev_t ds) ev_c) (want_on (z1 rfl ds)) (r_op (o_pick_t (ev_t (z2 rfl ds)) (ev_t ds)) rfl (m1 ds (r_nil ?_))))))
      exact ⟨rfl, rfl, bn_ ⟨fun _ => by omega, fun _ => by omega⟩ ds, (z1 rfl (z2 rfl (z4 rfl q5))), (z1 rfl (z2 rfl (z4 rfl q6))), (z1 rfl (z2 rfl (z4 rfl q7))), (z1 rfl (z2 rfl (z4 rfl q8)))⟩
    rintro T11 _ _ ⟨rfl, rfl, q12, q13, q14, q15, q16⟩
    refine k_cond (ev_t q12) (fun hc18 => ?_) (fun hc18 => ?_)
    · replace hc18 := of_decide_eq_true hc18
      refine k_seq (k_reg (m1 q15 (r_op (dec_f (o_eql (ev_t ds) ev_c) (by simp)) rfl (r_call (w_callF (evs_cons (ev_t ds) evs_nil)) rfl (WF.mono (is_ok false) ?_)))))
      rintro _ t19 n20 ⟨rfl, hni, hki⟩
      refine m1 ds (r_nil (k_ret ?_))
      have hfin : OperA x [] (if false then 1 else 0) := by
        refine ⟨fun e => by exfalso; omega, fun _ => ?_⟩
        unfold operW
        rw [if_neg (by omega), if_pos (by omega)]
        first | exact .inl rfl | exact .inr ⟨rfl, rfl⟩ | (dsimp only; first | (rw [if_pos (by omega)]; first | exact .inl rfl | exact .inl (by omega)) | (rw [if_neg (by omega)]; exact .inr ⟨rfl, rfl⟩))
      exact ⟨_, ans_tmp ds, _, rfl, hfin, by omega, Keep.trans (Keep.upd (Keep.refl _ _ _) hh2 (.inl (by omega))) hki (by omega) (fun d _ h => h)⟩
    replace hc18 := of_decide_eq_false hc18
    refine k_seq ?_
    refine k_cut (fun T_ t_ n_ => t1 = t_ ∧ (nx + 1) = n_ ∧ T_.get 36 = some (.bool (decide (x.op = 15 ∨ x.op = 16))) ∧ T_.get 1 = some .nslice ∧ T_.get 2 = some (.ptr nx 0) ∧ T_.get 5 = some (.int .i64 ((0 : Nat) : Int)) ∧ T_.get 6 = some (.int .i64 x.op)) ?_ ?_
    · refine k_reg (m1 q16 ?_)
      by_cases hs27 : (x.op = 15)
      · refine r_op (dec_t (o_eql (ev_t ds) ev_c) hs27) rfl (m1 ds (r_off (want_not ds rfl) (r_off (want_not (z1 rfl ds) rfl) (r_op (o_pick_t (ev_t (z2 rfl ds)) ev_c) rfl (m1 ds (r_nil ?_))))))
        exact ⟨rfl, rfl, bt_ (by omega) ds, (z1 rfl (z2 rfl (z4 rfl q13))), (z1 rfl (z2 rfl (z4 rfl q14))), (z1 rfl (z2 rfl (z4 rfl q15))), (z1 rfl (z2 rfl (z4 rfl q16)))⟩
      refine r_op (dec_f (o_eql (ev_t ds) ev_c) hs27) rfl (m1 ds (r_op (o_mov (ev_t (z1 rfl (z2 rfl q16)))) (want_on ds) (r_op (o_eql (ev_t ds) ev_c) (want_on (z1 rfl ds)) (r_op (o_pick_f (ev_t (z2 rfl ds)) (ev_t ds)) rfl (m1 ds (r_nil ?_))))))
      exact ⟨rfl, rfl, bd_ ⟨fun _ => by omega, fun _ => by omega⟩ ds, (z1 rfl (z2 rfl (z4 rfl q13))), (z1 rfl (z2 rfl (z4 rfl q14))), (z1 rfl (z2 rfl (z4 rfl q15))), (z1 rfl (z2 rfl (z4 rfl q16)))⟩
    rintro T21 _ _ ⟨rfl, rfl, q22, q23, q24, q25, q26⟩
    refine k_cond (ev_t q22) (fun hc28 => ?_) (fun hc28 => ?_)
    · replace hc28 := of_decide_eq_true hc28
      refine k_seq (k_reg (m1 q25 (r_op (dec_f (o_eql (ev_t ds) ev_c) (by simp)) rfl (r_nil (k_cond_f (ev_t ds) (k_skip (k_seq (k_reg (r_op (o_mov ev_c) rfl (r_nil (k_ret ?_)))))))))))
      have hfin : OperA x [] 0 := by
        refine ⟨fun e => by exfalso; omega, fun _ => ?_⟩
        unfold operW
        rw [if_neg (by omega), if_neg (by omega), if_neg (by omega), if_pos (by omega)]
        first | exact .inl rfl | exact .inr ⟨rfl, rfl⟩ | (dsimp only; first | (rw [if_pos (by omega)]; first | exact .inl rfl | exact .inl (by omega)) | (rw [if_neg (by omega)]; exact .inr ⟨rfl, rfl⟩))
      exact ⟨_, ans_tmp ds, _, rfl, hfin, by omega, Keep.upd (Keep.refl _ _ _) hh2 (.inl (by omega))⟩
    replace hc28 := of_decide_eq_false hc28
    refine k_seq ?_
    refine k_cut (fun T_ t_ n_ => t1 = t_ ∧ (nx + 1) = n_ ∧ T_.get 48 = some (.bool (decide (x.op = 13 ∨ x.op = 14 ∨ x.op = 23 ∨ x.op = 25 ∨ x.op = 24))) ∧ T_.get 1 = some .nslice ∧ T_.get 2 = some (.ptr nx 0) ∧ T_.get 5 = some (.int .i64 ((0 : Nat) : Int)) ∧ T_.get 6 = some (.int .i64 x.op)) ?_ ?_
    · refine k_reg (m1 q26 ?_)
      by_cases hs35 : (x.op = 13)
      · refine r_op (dec_t (o_eql (ev_t ds) ev_c) hs35) rfl (m1 ds (r_off (want_not ds rfl) (r_off (want_not (z1 rfl ds) rfl) (r_op (o_pick_t (ev_t (z2 rfl ds)) ev_c) rfl (m1 ds (r_off (want_not ds rfl) (r_off (want_not (z1 rfl ds) rfl) (r_op (o_pick_t (ev_t (z2 rfl ds)) ev_c) rfl (m1 ds (r_off (want_not ds rfl) (r_off (want_not (z1 rfl ds) rfl) (r_op (o_pick_t (ev_t (z2 rfl ds)) ev_c) rfl (m1 ds (r_off (want_not ds rfl) (r_off (want_not (z1 rfl ds) rfl) (r_op (o_pick_t (ev_t (z2 rfl ds)) ev_c) rfl (m1 ds (r_nil ?_))))))))))))))))))
        exact ⟨rfl, rfl, bt_ (by omega) ds, (z1 rfl (z2 rfl (z8 rfl (z8 rfl q23)))), (z1 rfl (z2 rfl (z8 rfl (z8 rfl q24)))), (z1 rfl (z2 rfl (z8 rfl (z8 rfl q25)))), (z1 rfl (z2 rfl (z8 rfl (z8 rfl q26))))⟩
      refine r_op (dec_f (o_eql (ev_t ds) ev_c) hs35) rfl (m1 ds (r_op (o_mov (ev_t (z1 rfl (z2 rfl q26)))) (want_on ds) ?_))
      by_cases hs36 : (x.op = 14)
      · refine r_op (dec_t (o_eql (ev_t ds) ev_c) hs36) (want_on (z1 rfl ds)) (r_op (o_pick_f (ev_t (z2 rfl ds)) (ev_t ds)) rfl (m1 ds (r_off (want_not ds rfl) (r_off (want_not (z1 rfl ds) rfl) (r_op (o_pick_t (ev_t (z2 rfl ds)) ev_c) rfl (m1 ds (r_off (want_not ds rfl) (r_off (want_not (z1 rfl ds) rfl) (r_op (o_pick_t (ev_t (z2 rfl ds)) ev_c) rfl (m1 ds (r_off (want_not ds rfl) (r_off (want_not (z1 rfl ds) rfl) (r_op (o_pick_t (ev_t (z2 rfl ds)) ev_c) rfl (m1 ds (r_nil ?_)))))))))))))))
        exact ⟨rfl, rfl, bt_ (by omega) ds, (z1 rfl (z2 rfl (z8 rfl (z8 rfl q23)))), (z1 rfl (z2 rfl (z8 rfl (z8 rfl q24)))), (z1 rfl (z2 rfl (z8 rfl (z8 rfl q25)))), (z1 rfl (z2 rfl (z8 rfl (z8 rfl q26))))⟩
      refine r_op (dec_f (o_eql (ev_t ds) ev_c) hs36) (want_on (z1 rfl ds)) (r_op (o_pick_f (ev_t (z2 rfl ds)) (ev_t ds)) rfl (m1 ds (r_op (o_mov (ev_t (z1 rfl (z2 rfl (z4 rfl q26))))) (want_on ds) ?_)))
      by_cases hs37 : (x.op = 23)
      · refine r_op (dec_t (o_eql (ev_t ds) ev_c) hs37) (want_on (z1 rfl ds)) (r_op (o_pick_f (ev_t (z2 rfl ds)) (ev_t ds)) rfl (m1 ds (r_off (want_not ds rfl) (r_off (want_not (z1 rfl ds) rfl) (r_op (o_pick_t (ev_t (z2 rfl ds)) ev_c) rfl (m1 ds (r_off (want_not ds rfl) (r_off (want_not (z1 rfl ds) rfl) (r_op (o_pick_t (ev_t (z2 rfl ds)) ev_c) rfl (m1 ds (r_nil ?_)))))))))))
        exact ⟨rfl, rfl, bt_ (by omega) ds, (z1 rfl (z2 rfl (z8 rfl (z8 rfl q23)))), (z1 rfl (z2 rfl (z8 rfl (z8 rfl q24)))), (z1 rfl (z2 rfl (z8 rfl (z8 rfl q25)))), (z1 rfl (z2 rfl (z8 rfl (z8 rfl q26))))⟩
      refine r_op (dec_f (o_eql (ev_t ds) ev_c) hs37) (want_on (z1 rfl ds)) (r_op (o_pick_f (ev_t (z2 rfl ds)) (ev_t ds)) rfl (m1 ds (r_op (o_mov (ev_t (z1 rfl (z2 rfl (z8 rfl q26))))) (want_on ds) ?_)))
      by_cases hs38 : (x.op = 25)
      · refine r_op (dec_t (o_eql (ev_t ds) ev_c) hs38) (want_on (z1 rfl ds)) (r_op (o_pick_f (ev_t (z2 rfl ds)) (ev_t ds)) rfl (m1 ds (r_off (want_not ds rfl) (r_off (want_not (z1 rfl ds) rfl) (r_op (o_pick_t (ev_t (z2 rfl ds)) ev_c) rfl (m1 ds (r_nil ?_)))))))
        exact ⟨rfl, rfl, bt_ (by omega) ds, (z1 rfl (z2 rfl (z8 rfl (z8 rfl q23)))), (z1 rfl (z2 rfl (z8 rfl (z8 rfl q24)))), (z1 rfl (z2 rfl (z8 rfl (z8 rfl q25)))), (z1 rfl (z2 rfl (z8 rfl (z8 rfl q26))))⟩
      refine r_op (dec_f (o_eql (ev_t ds) ev_c) hs38) (want_on (z1 rfl ds)) (r_op (o_pick_f (ev_t (z2 rfl ds)) (ev_t ds)) rfl (m1 ds (r_op (o_mov (ev_t (z1 rfl (z2 rfl (z4 rfl (z8 rfl q26)))))) (want_on ds) (r_op (o_eql (ev_t ds) ev_c) (want_on (z1 rfl ds)) (r_op (o_pick_f (ev_t (z2 rfl ds)) (ev_t ds)) rfl (m1 ds (r_nil ?_)))))))
      exact ⟨rfl, rfl, bd_ ⟨fun _ => by omega, fun _ => by omega⟩ ds, (z1 rfl (z2 rfl (z8 rfl (z8 rfl q23)))), (z1 rfl (z2 rfl (z8 rfl (z8 rfl q24)))), (z1 rfl (z2 rfl (z8 rfl (z8 rfl q25)))), (z1 rfl (z2 rfl (z8 rfl (z8 rfl q26))))⟩
    rintro T29 _ _ ⟨rfl, rfl, q30, q31, q32, q33, q34⟩
    refine k_cond (ev_t q30) (fun hc39 => ?_) (fun hc39 => ?_)
    · replace hc39 := of_decide_eq_true hc39
      refine k_seq (k_draw (e_op 0 rfl (o_mov (ev_t q33)) rfl (e_op 1 rfl (dec_f (o_eql (ev_t ds) ev_c) (by simp)) rfl (e_op 2 rfl (o_mov (ev_t ds)) rfl (e_off 3 rfl (want_not ds rfl) (e_off 4 rfl (want_not (z1 rfl ds) rfl) (e_off 5 rfl (want_not (z2 rfl ds) rfl) (e_off 6 rfl (want_not (z1 rfl (z2 rfl ds)) rfl) (e_off 7 rfl (want_not (z4 rfl ds) rfl) (e_off 8 rfl (want_not (z1 rfl (z4 rfl ds)) rfl) (e_off 9 rfl (want_not (z2 rfl (z4 rfl ds)) rfl) (e_op 10 rfl (o_pick_f (ev_t (z1 rfl (z2 rfl (z4 rfl ds)))) ev_c) rfl (e_done (k_cond_f (ev_t ds) (k_skip (k_seq (k_reg (r_op (o_mov ev_c) rfl (r_nil (k_ret ?_))))))))))))))))))))
      have hfin : OperA x [] 0 := by
        refine ⟨fun e => by exfalso; omega, fun _ => ?_⟩
        unfold operW
        rw [if_neg (by omega), if_neg (by omega), if_pos (by omega)]
        first | exact .inl rfl | exact .inr ⟨rfl, rfl⟩ | (dsimp only; first | (rw [if_pos (by omega)]; first | exact .inl rfl | exact .inl (by omega)) | (rw [if_neg (by omega)]; exact .inr ⟨rfl, rfl⟩))
      exact ⟨_, ans_tmp ds, _, rfl, hfin, by omega, Keep.upd (Keep.refl _ _ _) hh2 (.inl (by omega))⟩
    replace hc39 := of_decide_eq_false hc39
    refine k_seq ?_
    refine k_cut (fun T_ t_ n_ => t1 = t_ ∧ (nx + 1) = n_ ∧ T_.get 81 = some (.bool (decide (17 ≤ x.op ∧ x.op ≤ 22))) ∧ T_.get 1 = some .nslice ∧ T_.get 2 = some (.ptr nx 0) ∧ T_.get 5 = some (.int .i64 ((0 : Nat) : Int)) ∧ T_.get 6 = some (.int .i64 x.op)) ?_ ?_
    · refine k_reg (m1 q34 ?_)
      by_cases hs46 : (x.op < 17)
      · refine r_op (ndec_f (o_geq (ev_t ds) ev_c) hs46) rfl (m1 ds (r_off (want_not ds rfl) (r_off (want_not (z1 rfl ds) rfl) (r_op (o_pick_f (ev_t (z2 rfl ds)) ev_c) rfl (m1 ds (r_nil ?_))))))
        exact ⟨rfl, rfl, bf_ (by omega) ds, (z1 rfl (z2 rfl (z4 rfl q31))), (z1 rfl (z2 rfl (z4 rfl q32))), (z1 rfl (z2 rfl (z4 rfl q33))), (z1 rfl (z2 rfl (z4 rfl q34)))⟩
      refine r_op (ndec_t (o_geq (ev_t ds) ev_c) hs46) rfl (m1 ds (r_op (o_mov (ev_t (z1 rfl (z2 rfl q34)))) (want_on ds) (r_op (o_leq (ev_t ds) ev_c) (want_on (z1 rfl ds)) (r_op (o_pick_t (ev_t (z2 rfl ds)) (ev_t ds)) rfl (m1 ds (r_nil ?_))))))
      exact ⟨rfl, rfl, bn_ ⟨fun _ => by omega, fun _ => by omega⟩ ds, (z1 rfl (z2 rfl (z4 rfl q31))), (z1 rfl (z2 rfl (z4 rfl q32))), (z1 rfl (z2 rfl (z4 rfl q33))), (z1 rfl (z2 rfl (z4 rfl q34)))⟩
    rintro T40 _ _ ⟨rfl, rfl, q41, q42, q43, q44, q45⟩
    refine k_cond (ev_t q41) (fun hc47 => ?_) (fun hc47 => ?_)
    · replace hc47 := of_decide_eq_true hc47
      refine k_seq (k_draw (e_op 0 rfl (o_mov (ev_t q44)) rfl (e_op 1 rfl (dec_f (o_eql (ev_t ds) ev_c) (by simp)) rfl (e_op 2 rfl (o_mov (ev_t ds)) rfl (e_off 3 rfl (want_not ds rfl) (e_off 4 rfl (want_not (z1 rfl ds) rfl) (e_off 5 rfl (want_not (z2 rfl ds) rfl) (e_off 6 rfl (want_not (z1 rfl (z2 rfl ds)) rfl) (e_off 7 rfl (want_not (z4 rfl ds) rfl) (e_off 8 rfl (want_not (z1 rfl (z4 rfl ds)) rfl) (e_off 9 rfl (want_not (z2 rfl (z4 rfl ds)) rfl) (e_op 10 rfl (o_pick_f (ev_t (z1 rfl (z2 rfl (z4 rfl ds)))) ev_c) rfl (d_call (ix := 11) (pr := [10, 2]) (d := (some 99)) (g := none) (F' := [(⟨6, [2], ⟨(some 94), (some (90, true)), (.op (.mov (.t 1)))⟩⟩, .undef), (⟨3, [2], ⟨(some 91), (some (90, true)), (.op (.mov (.t 1)))⟩⟩, .undef)]) (w_callF (evs_cons (ev_t ds) evs_nil)) rfl (by kernel_rfl) (by kernel_rfl) (by kernel_rfl) (by kernel_rfl) (WF.mono (is_ok false) ?_))))))))))))))
      rintro _ t48 n49 ⟨rfl, hni, hki⟩
      refine ⟨?_, ?_⟩
      · exact (all_cons_ (still_off (want_not (z1 rfl (z8 rfl ds)) rfl)) (all_cons_ (still_off (want_not (z1 rfl (z8 rfl ds)) rfl)) all_nil_))
      refine e_op 12 rfl (o_mov (ev_t ds)) rfl (e_done (k_ret ?_))
      have hfin : OperA x [] (if false then 1 else 0) := by
        refine ⟨fun e => by exfalso; omega, fun _ => ?_⟩
        unfold operW
        rw [if_neg (by omega), if_neg (by omega), if_neg (by omega), if_neg (by omega), if_pos (by omega)]
        first | exact .inl rfl | exact .inr ⟨rfl, rfl⟩ | (dsimp only; first | (rw [if_pos (by omega)]; first | exact .inl rfl | exact .inl (by omega)) | (rw [if_neg (by omega)]; exact .inr ⟨rfl, rfl⟩))
      exact ⟨_, ans_tmp ds, _, rfl, hfin, by omega, Keep.trans (Keep.upd (Keep.refl _ _ _) hh2 (.inl (by omega))) hki (by omega) (fun d _ h => h)⟩
    replace hc47 := of_decide_eq_false hc47
    refine k_seq ?_
    refine k_cut (fun T_ t_ n_ => t1 = t_ ∧ (nx + 1) = n_ ∧ T_.get 100 = some (.bool (decide (x.op = 26 ∨ x.op = 27 ∨ x.op = 3))) ∧ T_.get 1 = some .nslice ∧ T_.get 2 = some (.ptr nx 0) ∧ T_.get 5 = some (.int .i64 ((0 : Nat) : Int)) ∧ T_.get 6 = some (.int .i64 x.op)) ?_ ?_
    · refine k_reg (m1 q45 ?_)
      by_cases hs56 : (x.op = 26)
      · refine r_op (dec_t (o_eql (ev_t ds) ev_c) hs56) rfl (m1 ds (r_off (want_not ds rfl) (r_off (want_not (z1 rfl ds) rfl) (r_op (o_pick_t (ev_t (z2 rfl ds)) ev_c) rfl (m1 ds (r_off (want_not ds rfl) (r_off (want_not (z1 rfl ds) rfl) (r_op (o_pick_t (ev_t (z2 rfl ds)) ev_c) rfl (m1 ds (r_nil ?_))))))))))
        exact ⟨rfl, rfl, bt_ (by omega) ds, (z1 rfl (z2 rfl (z8 rfl q42))), (z1 rfl (z2 rfl (z8 rfl q43))), (z1 rfl (z2 rfl (z8 rfl q44))), (z1 rfl (z2 rfl (z8 rfl q45)))⟩
      refine r_op (dec_f (o_eql (ev_t ds) ev_c) hs56) rfl (m1 ds (r_op (o_mov (ev_t (z1 rfl (z2 rfl q45)))) (want_on ds) ?_))
      by_cases hs57 : (x.op = 27)
      · refine r_op (dec_t (o_eql (ev_t ds) ev_c) hs57) (want_on (z1 rfl ds)) (r_op (o_pick_f (ev_t (z2 rfl ds)) (ev_t ds)) rfl (m1 ds (r_off (want_not ds rfl) (r_off (want_not (z1 rfl ds) rfl) (r_op (o_pick_t (ev_t (z2 rfl ds)) ev_c) rfl (m1 ds (r_nil ?_)))))))
        exact ⟨rfl, rfl, bt_ (by omega) ds, (z1 rfl (z2 rfl (z8 rfl q42))), (z1 rfl (z2 rfl (z8 rfl q43))), (z1 rfl (z2 rfl (z8 rfl q44))), (z1 rfl (z2 rfl (z8 rfl q45)))⟩
      refine r_op (dec_f (o_eql (ev_t ds) ev_c) hs57) (want_on (z1 rfl ds)) (r_op (o_pick_f (ev_t (z2 rfl ds)) (ev_t ds)) rfl (m1 ds (r_op (o_mov (ev_t (z1 rfl (z2 rfl (z4 rfl q45))))) (want_on ds) (r_op (o_eql (ev_t ds) ev_c) (want_on (z1 rfl ds)) (r_op (o_pick_f (ev_t (z2 rfl ds)) (ev_t ds)) rfl (m1 ds (r_nil ?_)))))))
      exact ⟨rfl, rfl, bd_ ⟨fun _ => by omega, fun _ => by omega⟩ ds, (z1 rfl (z2 rfl (z8 rfl q42))), (z1 rfl (z2 rfl (z8 rfl q43))), (z1 rfl (z2 rfl (z8 rfl q44))), (z1 rfl (z2 rfl (z8 rfl q45)))⟩
    rintro T50 _ _ ⟨rfl, rfl, q51, q52, q53, q54, q55⟩
    refine k_cond (ev_t q51) (fun hc58 => ?_) (fun hc58 => ?_)
    · replace hc58 := of_decide_eq_true hc58
      refine k_seq (k_reg (m1 q54 (r_op (dec_f (o_eql (ev_t ds) ev_c) (by simp)) rfl (r_call (w_callF (evs_cons (ev_t ds) evs_nil)) rfl (WF.mono (is_ok false) ?_)))))
      rintro _ t59 n60 ⟨rfl, hni, hki⟩
      refine m1 ds (r_nil (k_ret ?_))
      have hfin : OperA x [] (if false then 1 else 0) := by
        refine ⟨fun e => by exfalso; omega, fun _ => ?_⟩
        unfold operW
        rw [if_neg (by omega), if_neg (by omega), if_neg (by omega), if_neg (by omega), if_neg (by omega), if_pos (by omega)]
        first | exact .inl rfl | exact .inr ⟨rfl, rfl⟩ | (dsimp only; first | (rw [if_pos (by omega)]; first | exact .inl rfl | exact .inl (by omega)) | (rw [if_neg (by omega)]; exact .inr ⟨rfl, rfl⟩))
      exact ⟨_, ans_tmp ds, _, rfl, hfin, by omega, Keep.trans (Keep.upd (Keep.refl _ _ _) hh2 (.inl (by omega))) hki (by omega) (fun d _ h => h)⟩
    replace hc58 := of_decide_eq_false hc58
    refine k_seq (k_reg (m1 q55 (r_op (o_eql (ev_t ds) ev_c) rfl (m1 ds (r_nil ?_)))))
    refine k_cond (ev_t ds) (fun hc61 => ?_) (fun hc61 => ?_)
    · replace hc61 := of_decide_eq_true hc61
      refine k_seq (k_draw (e_op 0 rfl (o_mov (ev_t (z1 rfl (z2 rfl q54)))) rfl (e_op 1 rfl (dec_f (o_eql (ev_t ds) ev_c) (by simp)) rfl (e_op 2 rfl (o_mov (ev_t ds)) rfl (e_off 3 rfl (want_not ds rfl) (e_off 4 rfl (want_not (z1 rfl ds) rfl) (e_off 5 rfl (want_not (z2 rfl ds) rfl) (e_off 6 rfl (want_not (z1 rfl (z2 rfl ds)) rfl) (e_off 7 rfl (want_not (z4 rfl ds) rfl) (e_off 8 rfl (want_not (z1 rfl (z4 rfl ds)) rfl) (e_off 9 rfl (want_not (z2 rfl (z4 rfl ds)) rfl) (e_op 10 rfl (o_pick_f (ev_t (z1 rfl (z2 rfl (z4 rfl ds)))) ev_c) rfl (e_done (k_cond_f (ev_t ds) (k_skip (k_seq (k_reg (r_op (o_mov ev_c) rfl (r_nil (k_ret ?_))))))))))))))))))))
      have hfin : OperA x [] 0 := by
        refine ⟨fun e => by exfalso; omega, fun _ => ?_⟩
        unfold operW
        rw [if_neg (by omega), if_neg (by omega), if_neg (by omega), if_neg (by omega), if_neg (by omega), if_neg (by omega), if_pos (by omega)]
        first | exact .inl rfl | exact .inr ⟨rfl, rfl⟩ | (dsimp only; first | (rw [if_pos (by omega)]; first | exact .inl rfl | exact .inl (by omega)) | (rw [if_neg (by omega)]; exact .inr ⟨rfl, rfl⟩))
      exact ⟨_, ans_tmp ds, _, rfl, hfin, by omega, Keep.upd (Keep.refl _ _ _) hh2 (.inl (by omega))⟩
    replace hc61 := of_decide_eq_false hc61
    refine k_seq (k_reg (m1 (z1 rfl (z2 rfl q55)) (r_op (o_eql (ev_t ds) ev_c) rfl (m1 ds (r_nil ?_)))))
    refine k_cond (ev_t ds) (fun hc62 => ?_) (fun hc62 => ?_)
    · replace hc62 := of_decide_eq_true hc62
      refine k_seq (k_draw (e_op 0 rfl (o_mov (ev_t (z2 rfl (z4 rfl q54)))) rfl (e_op 1 rfl (dec_f (o_eql (ev_t ds) ev_c) (by simp)) rfl (e_op 2 rfl (o_mov (ev_t ds)) rfl (e_off 3 rfl (want_not ds rfl) (e_off 4 rfl (want_not (z1 rfl ds) rfl) (e_off 5 rfl (want_not (z2 rfl ds) rfl) (e_op 6 rfl (o_pick_f (ev_t (z1 rfl (z2 rfl ds))) ev_c) rfl (e_op 7 rfl (o_mov (ev_t ds)) rfl (e_off 8 rfl (want_not ds rfl) (e_off 9 rfl (want_not (z1 rfl ds) rfl) (e_off 10 rfl (want_not (z2 rfl ds) rfl) (e_off 11 rfl (want_not (z1 rfl (z2 rfl ds)) rfl) (e_off 12 rfl (want_not (z4 rfl ds) rfl) (e_op 13 rfl (o_pick_f (ev_t (z1 rfl (z4 rfl ds))) ev_c) rfl (e_op 14 rfl (o_mov (ev_t ds)) rfl (e_off 15 rfl (want_not ds rfl) (e_off 16 rfl (want_not (z1 rfl ds) rfl) (e_off 17 rfl (want_not (z2 rfl ds) rfl) (e_off 18 rfl (want_not (z1 rfl (z2 rfl ds)) rfl) (e_off 19 rfl (want_not (z4 rfl ds) rfl) (e_off 20 rfl (want_not (z1 rfl (z4 rfl ds)) rfl) (e_op 21 rfl (o_pick_f (ev_t (z2 rfl (z4 rfl ds))) ev_c) rfl (e_done (k_cond_f (ev_t ds) (k_skip (k_seq (k_reg (r_op (o_mov ev_c) rfl (r_nil (k_ret ?_)))))))))))))))))))))))))))))))
      have hfin : OperA x [] 0 := by
        refine ⟨fun e => by exfalso; omega, fun _ => ?_⟩
        unfold operW
        rw [if_neg (by omega), if_neg (by omega), if_neg (by omega), if_neg (by omega), if_neg (by omega), if_neg (by omega), if_neg (by omega), if_pos (by omega)]
        first | exact .inl rfl | exact .inr ⟨rfl, rfl⟩ | (dsimp only; first | (rw [if_pos (by omega)]; first | exact .inl rfl | exact .inl (by omega)) | (rw [if_neg (by omega)]; exact .inr ⟨rfl, rfl⟩))
      exact ⟨_, ans_tmp ds, _, rfl, hfin, by omega, Keep.upd (Keep.refl _ _ _) hh2 (.inl (by omega))⟩
    replace hc62 := of_decide_eq_false hc62
    refine k_seq (k_reg (m1 (z2 rfl (z4 rfl q55)) (r_op (o_eql (ev_t ds) ev_c) rfl (m1 ds (r_nil ?_)))))
    refine k_cond (ev_t ds) (fun hc63 => ?_) (fun hc63 => ?_)
    · replace hc63 := of_decide_eq_true hc63
      refine k_seq (k_reg (r_op (o_mov ev_c) rfl (r_nil (k_seq (k_seq (k_reg (m1 (z2 rfl (z8 rfl q52)) (r_op (o_len_nslice (ev_t ds)) rfl (r_op (o_mov ev_c) rfl (r_nil (k_block (k_loop (fun mm Tv tv nv => Tv.get 166 = some (.int .i64 ((0 : Nat) : Int)) ∧ Tv.get 167 = some (.int .i64 0) ∧ Tv.get 7 = some (.int .i64 0) ∧ nx ≤ nv ∧ Keep t tv nx (fun _ => False)) (fun mm Tv tv nv hI => ?_) (0) ⟨(z1 rfl ds), ds, (z1 rfl (z2 rfl ds)), by omega, Keep.upd (Keep.refl _ _ _) hh2 (.inl (by omega))⟩))))))))))))
      obtain ⟨p6, p7, p8, hnv, hkp⟩ := hI
      refine k_seq (k_reg (r_op (dec_f (o_lss (ev_t p7) (ev_t p6)) (by simp)) rfl (r_nil (k_seq (k_cond_f (ev_t ds) (k_exit (exK_same (k_seq (k_reg (m1 (z1 rfl p8) (m1 ds (r_nil (k_ret ?_)))))))))))))
      have hfin : OperA x [] 0 := by
        exact ⟨fun _ => rfl, fun e => by exfalso; omega⟩
      exact ⟨_, ans_tmp ds, _, rfl, hfin, by omega, hkp⟩
    replace hc63 := of_decide_eq_false hc63
    refine k_skip (k_seq (k_reg (r_op (o_mov ev_c) rfl (r_nil (k_ret ?_)))))
    have hfin : OperA x [] 0 := by
      refine ⟨fun e => by exfalso; omega, fun _ => ?_⟩
      unfold operW
      rw [if_neg (by omega), if_neg (by omega), if_neg (by omega), if_neg (by omega), if_neg (by omega), if_neg (by omega), if_neg (by omega), if_neg (by omega), if_neg (by omega)]
      exact .inr ⟨rfl, rfl⟩
    exact ⟨_, ans_tmp ds, _, rfl, hfin, by omega, Keep.upd (Keep.refl _ _ _) hh2 (.inl (by omega))⟩
  refine k_fun operated_tab rfl ?_
  unfold operated_c
  change WC _ _ (TA.put (some _) (TA.put (some _) TA.e 0) 1) _ _ _
  refine k_seq (k_reg (r_heap (o_box (ev_t (get_other rfl get_same))) rfl (fun t1 (hh2 : hv t1 = upd (hv t) nx (some (.row [(.int .i64 x.kind), (.int .i64 x.op), (.int .i64 x.wide), iv, (.str x.value), (.int .i64 x.hi), (.int .i64 x.lo), (.int .i64 x.time)] true))) => r_op (o_mov ev_c) rfl (r_nil (k_seq (k_reg (m1 (z2 rfl get_same) (r_op (o_len_slice (ev_t ds)) rfl (m1 ds (r_nil (k_seq (k_seq (k_reg (r_op (o_faddr (off := 1) (ev_t (z4 rfl ds))) rfl (r_op (o_load (ev_t ds) (look_same hh2) rfl) rfl (m1 ds (r_nil (k_block (k_seq ?_)))))))))))))))))))
  refine k_cut (fun T_ t_ n_ => t1 = t_ ∧ (nx + 1) = n_ ∧ T_.get 14 = some (.bool (decide (x.op = 7 ∨ x.op = 9))) ∧ T_.get 1 = some (.slice d o ws.length cc 1 ex) ∧ T_.get 2 = some (.ptr nx 0) ∧ T_.get 5 = some (.int .i64 ((ws.length : Nat) : Int)) ∧ T_.get 6 = some (.int .i64 x.op)) ?_ ?_
  · refine k_reg (m1 ds ?_)
    by_cases hs9 : (x.op = 7)
    · refine r_op (dec_t (o_eql (ev_t ds) ev_c) hs9) rfl (m1 ds (r_off (want_not ds rfl) (r_off (want_not (z1 rfl ds) rfl) (r_op (o_pick_t (ev_t (z2 rfl ds)) ev_c) rfl (m1 ds (r_nil ?_))))))
      exact ⟨rfl, rfl, bt_ (by omega) ds, (z1 rfl (z2 rfl (z4 rfl (z8 rfl get_same)))), (z2 rfl (z4 rfl (z8 rfl ds))), (z2 rfl (z8 rfl ds)), (z1 rfl (z2 rfl (z4 rfl ds)))⟩
    refine r_op (dec_f (o_eql (ev_t ds) ev_c) hs9) rfl (m1 ds (r_op (o_mov (ev_t (z1 rfl (z2 rfl ds)))) (want_on ds) (r_op (o_eql (ev_t ds) ev_c) (want_on (z1 rfl ds)) (r_op (o_pick_f (ev_t (z2 rfl ds)) (ev_t ds)) rfl (m1 ds (r_nil ?_))))))
    exact ⟨rfl, rfl, bd_ ⟨fun _ => by omega, fun _ => by omega⟩ ds, (z1 rfl (z2 rfl (z4 rfl (z8 rfl get_same)))), (z2 rfl (z4 rfl (z8 rfl ds))), (z2 rfl (z8 rfl ds)), (z1 rfl (z2 rfl (z4 rfl ds)))⟩
  rintro T3 _ _ ⟨rfl, rfl, q4, q5, q6, q7, q8⟩
  refine k_cond (ev_t q4) (fun hc10 => ?_) (fun hc10 => ?_)
  · replace hc10 := of_decide_eq_true hc10
    refine k_seq (k_reg (m1 q7 (r_op (o_eql (ev_t ds) ev_c) rfl (r_nil ?_))))
    refine k_cond (ev_t ds) (fun hc11 => ?_) (fun hc11 => ?_)
    · replace hc11 := of_decide_eq_true hc11
      obtain ⟨wa, hwe⟩ := len1 hc11
      subst hwe
      refine k_seq (k_reg (m1 (z2 rfl q5) (r_op (o_iaddr (i := 0) (ev_t ds) ev_c (by simp)) rfl ?_)))
      refine r_op (o_load (ev_t ds) (look_ne hh2 (by omega) hr) (by rw [Nat.mul_one]; exact rowI_get (i := 0) hseg rfl)) rfl ?_
      refine m1 ds (r_nil (k_ret ?_))
      have hfin : OperA x [wa] wa := by
        refine ⟨fun e => by exfalso; omega, fun _ => ?_⟩
        unfold operW
        rw [if_pos (by omega)]
        first | exact .inl rfl | exact .inr ⟨rfl, rfl⟩ | (dsimp only; first | (rw [if_pos (by omega)]; first | exact .inl rfl | exact .inl (by omega)) | (rw [if_neg (by omega)]; exact .inr ⟨rfl, rfl⟩))
      exact ⟨_, ans_tmp ds, _, rfl, hfin, by omega, Keep.upd (Keep.refl _ _ _) hh2 (.inl (by omega))⟩
    replace hc11 := of_decide_eq_false hc11
    refine k_skip (k_seq (k_reg (r_op (o_mov ev_c) rfl (r_nil (k_ret ?_)))))
    have hfin : OperA x ws 0 := by
      refine ⟨fun e => by exfalso; omega, fun _ => ?_⟩
      unfold operW
      rw [if_pos (by omega)]
      exact .inr ⟨rfl, by rcases ws with _ | ⟨a, _ | ⟨b, _ | ⟨c, _ | ⟨e, l⟩⟩⟩⟩ <;> first | rfl | (exfalso; simp only [List.length_cons, List.length_nil] at *; omega)⟩
    exact ⟨_, ans_tmp ds, _, rfl, hfin, by omega, Keep.upd (Keep.refl _ _ _) hh2 (.inl (by omega))⟩
  replace hc10 := of_decide_eq_false hc10
  refine k_seq ?_
  refine k_cut (fun T_ t_ n_ => t1 = t_ ∧ (nx + 1) = n_ ∧ T_.get 26 = some (.bool (decide (7 ≤ x.op ∧ x.op ≤ 12))) ∧ T_.get 1 = some (.slice d o ws.length cc 1 ex) ∧ T_.get 2 = some (.ptr nx 0) ∧ T_.get 5 = some (.int .i64 ((ws.length : Nat) : Int)) ∧ T_.get 6 = some (.int .i64 x.op)) ?_ ?_
  · refine k_reg (m1 q8 ?_)
    by_cases hs18 : (x.op < 7)
    · refine r_op (ndec_f (o_geq (ev_t ds) ev_c) hs18) rfl (m1 ds (r_off (want_not ds rfl) (r_off (want_not (z1 rfl ds) rfl) (r_op (o_pick_f (ev_t (z2 rfl ds)) ev_c) rfl (m1 ds (r_nil ?_))))))
      exact ⟨rfl, rfl, bf_ (by omega) ds, (z1 rfl (z2 rfl (z4 rfl q5))), (z1 rfl (z2 rfl (z4 rfl q6))), (z1 rfl (z2 rfl (z4 rfl q7))), (z1 rfl (z2 rfl (z4 rfl q8)))⟩
    refine r_op (ndec_t (o_geq (ev_t ds) ev_c) hs18) rfl (m1 ds (r_op (o_mov (ev_t (z1 rfl (z2 rfl q8)))) (want_on ds) (r_op (o_leq (ev_t ds) ev_c) (want_on (z1 rfl ds)) (r_op (o_pick_t (ev_t (z2 rfl ds)) (ev_t ds)) rfl (m1 ds (r_nil ?_))))))
    exact ⟨rfl, rfl, bn_ ⟨fun _ => by omega, fun _ => by omega⟩ ds, (z1 rfl (z2 rfl (z4 rfl q5))), (z1 rfl (z2 rfl (z4 rfl q6))), (z1 rfl (z2 rfl (z4 rfl q7))), (z1 rfl (z2 rfl (z4 rfl q8)))⟩
  rintro T12 _ _ ⟨rfl, rfl, q13, q14, q15, q16, q17⟩
  refine k_cond (ev_t q13) (fun hc19 => ?_) (fun hc19 => ?_)
  · replace hc19 := of_decide_eq_true hc19
    refine k_seq (k_reg (m1 q16 ?_))
    by_cases hs20 : (((ws.length : Nat) : Int) = 1)
    · obtain ⟨wa, hwe⟩ := len1 hs20
      subst hwe
      refine r_op (dec_t (o_eql (ev_t ds) ev_c) hs20) rfl (r_call (w_callF (evs_cons (ev_t ds) evs_nil)) rfl (WF.mono (is_ok true) ?_))
      rintro _ t21 n22 ⟨rfl, hni, hki⟩
      refine m1 ds (r_nil (k_ret ?_))
      have hfin : OperA x [wa] (if true then 1 else 0) := by
        refine ⟨fun e => by exfalso; omega, fun _ => ?_⟩
        unfold operW
        rw [if_neg (by omega), if_pos (by omega)]
        first | exact .inl rfl | exact .inr ⟨rfl, rfl⟩ | (dsimp only; first | (rw [if_pos (by omega)]; first | exact .inl rfl | exact .inl (by omega)) | (rw [if_neg (by omega)]; exact .inr ⟨rfl, rfl⟩))
      exact ⟨_, ans_tmp ds, _, rfl, hfin, by omega, Keep.trans (Keep.upd (Keep.refl _ _ _) hh2 (.inl (by omega))) hki (by omega) (fun d _ h => h)⟩
    refine r_op (dec_f (o_eql (ev_t ds) ev_c) hs20) rfl (r_call (w_callF (evs_cons (ev_t ds) evs_nil)) rfl (WF.mono (is_ok false) ?_))
    rintro _ t23 n24 ⟨rfl, hni, hki⟩
    refine m1 ds (r_nil (k_ret ?_))
    have hfin : OperA x ws (if false then 1 else 0) := by
      refine ⟨fun e => by exfalso; omega, fun _ => ?_⟩
      unfold operW
      rw [if_neg (by omega), if_pos (by omega)]
      exact .inr ⟨rfl, by rcases ws with _ | ⟨a, _ | ⟨b, _ | ⟨c, _ | ⟨e, l⟩⟩⟩⟩ <;> first | rfl | (exfalso; simp only [List.length_cons, List.length_nil] at *; omega)⟩
    exact ⟨_, ans_tmp ds, _, rfl, hfin, by omega, Keep.trans (Keep.upd (Keep.refl _ _ _) hh2 (.inl (by omega))) hki (by omega) (fun d _ h => h)⟩
  replace hc19 := of_decide_eq_false hc19
  refine k_seq ?_
  refine k_cut (fun T_ t_ n_ => t1 = t_ ∧ (nx + 1) = n_ ∧ T_.get 36 = some (.bool (decide (x.op = 15 ∨ x.op = 16))) ∧ T_.get 1 = some (.slice d o ws.length cc 1 ex) ∧ T_.get 2 = some (.ptr nx 0) ∧ T_.get 5 = some (.int .i64 ((ws.length : Nat) : Int)) ∧ T_.get 6 = some (.int .i64 x.op)) ?_ ?_
  · refine k_reg (m1 q17 ?_)
    by_cases hs31 : (x.op = 15)
    · refine r_op (dec_t (o_eql (ev_t ds) ev_c) hs31) rfl (m1 ds (r_off (want_not ds rfl) (r_off (want_not (z1 rfl ds) rfl) (r_op (o_pick_t (ev_t (z2 rfl ds)) ev_c) rfl (m1 ds (r_nil ?_))))))
      exact ⟨rfl, rfl, bt_ (by omega) ds, (z1 rfl (z2 rfl (z4 rfl q14))), (z1 rfl (z2 rfl (z4 rfl q15))), (z1 rfl (z2 rfl (z4 rfl q16))), (z1 rfl (z2 rfl (z4 rfl q17)))⟩
    refine r_op (dec_f (o_eql (ev_t ds) ev_c) hs31) rfl (m1 ds (r_op (o_mov (ev_t (z1 rfl (z2 rfl q17)))) (want_on ds) (r_op (o_eql (ev_t ds) ev_c) (want_on (z1 rfl ds)) (r_op (o_pick_f (ev_t (z2 rfl ds)) (ev_t ds)) rfl (m1 ds (r_nil ?_))))))
    exact ⟨rfl, rfl, bd_ ⟨fun _ => by omega, fun _ => by omega⟩ ds, (z1 rfl (z2 rfl (z4 rfl q14))), (z1 rfl (z2 rfl (z4 rfl q15))), (z1 rfl (z2 rfl (z4 rfl q16))), (z1 rfl (z2 rfl (z4 rfl q17)))⟩
  rintro T25 _ _ ⟨rfl, rfl, q26, q27, q28, q29, q30⟩
  refine k_cond (ev_t q26) (fun hc32 => ?_) (fun hc32 => ?_)
  · replace hc32 := of_decide_eq_true hc32
    refine k_seq (k_reg (m1 q29 (r_op (o_eql (ev_t ds) ev_c) rfl (r_nil ?_))))
    refine k_cond (ev_t ds) (fun hc33 => ?_) (fun hc33 => ?_)
    · replace hc33 := of_decide_eq_true hc33
      obtain ⟨wa, wb, hwe⟩ := len2 hc33
      subst hwe
      refine k_seq (k_reg (m1 (z2 rfl q27) (r_op (o_iaddr (i := 0) (ev_t ds) ev_c (by simp)) rfl ?_)))
      refine r_op (o_load (ev_t ds) (look_ne hh2 (by omega) hr) (by rw [Nat.mul_one]; exact rowI_get (i := 0) hseg rfl)) rfl ?_
      refine m1 ds (r_nil (k_ret ?_))
      have hfin : OperA x [wa, wb] wa := by
        refine ⟨fun e => by exfalso; omega, fun _ => ?_⟩
        unfold operW
        rw [if_neg (by omega), if_neg (by omega), if_neg (by omega), if_pos (by omega)]
        first | exact .inl rfl | exact .inr ⟨rfl, rfl⟩ | (dsimp only; first | (rw [if_pos (by omega)]; first | exact .inl rfl | exact .inl (by omega)) | (rw [if_neg (by omega)]; exact .inr ⟨rfl, rfl⟩))
      exact ⟨_, ans_tmp ds, _, rfl, hfin, by omega, Keep.upd (Keep.refl _ _ _) hh2 (.inl (by omega))⟩
    replace hc33 := of_decide_eq_false hc33
    refine k_skip (k_seq (k_reg (r_op (o_mov ev_c) rfl (r_nil (k_ret ?_)))))
    have hfin : OperA x ws 0 := by
      refine ⟨fun e => by exfalso; omega, fun _ => ?_⟩
      unfold operW
      rw [if_neg (by omega), if_neg (by omega), if_neg (by omega), if_pos (by omega)]
      exact .inr ⟨rfl, by rcases ws with _ | ⟨a, _ | ⟨b, _ | ⟨c, _ | ⟨e, l⟩⟩⟩⟩ <;> first | rfl | (exfalso; simp only [List.length_cons, List.length_nil] at *; omega)⟩
    exact ⟨_, ans_tmp ds, _, rfl, hfin, by omega, Keep.upd (Keep.refl _ _ _) hh2 (.inl (by omega))⟩
  replace hc32 := of_decide_eq_false hc32
  refine k_seq ?_
  refine k_cut (fun T_ t_ n_ => t1 = t_ ∧ (nx + 1) = n_ ∧ T_.get 48 = some (.bool (decide (x.op = 13 ∨ x.op = 14 ∨ x.op = 23 ∨ x.op = 25 ∨ x.op = 24))) ∧ T_.get 1 = some (.slice d o ws.length cc 1 ex) ∧ T_.get 2 = some (.ptr nx 0) ∧ T_.get 5 = some (.int .i64 ((ws.length : Nat) : Int)) ∧ T_.get 6 = some (.int .i64 x.op)) ?_ ?_
  · refine k_reg (m1 q30 ?_)
    by_cases hs40 : (x.op = 13)
    · refine r_op (dec_t (o_eql (ev_t ds) ev_c) hs40) rfl (m1 ds (r_off (want_not ds rfl) (r_off (want_not (z1 rfl ds) rfl) (r_op (o_pick_t (ev_t (z2 rfl ds)) ev_c) rfl (m1 ds (r_off (want_not ds rfl) (r_off (want_not (z1 rfl ds) rfl) (r_op (o_pick_t (ev_t (z2 rfl ds)) ev_c) rfl (m1 ds (r_off (want_not ds rfl) (r_off (want_not (z1 rfl ds) rfl) (r_op (o_pick_t (ev_t (z2 rfl ds)) ev_c) rfl (m1 ds (r_off (want_not ds rfl) (r_off (want_not (z1 rfl ds) rfl) (r_op (o_pick_t (ev_t (z2 rfl ds)) ev_c) rfl (m1 ds (r_nil ?_))))))))))))))))))
      exact ⟨rfl, rfl, bt_ (by omega) ds, (z1 rfl (z2 rfl (z8 rfl (z8 rfl q27)))), (z1 rfl (z2 rfl (z8 rfl (z8 rfl q28)))), (z1 rfl (z2 rfl (z8 rfl (z8 rfl q29)))), (z1 rfl (z2 rfl (z8 rfl (z8 rfl q30))))⟩
    refine r_op (dec_f (o_eql (ev_t ds) ev_c) hs40) rfl (m1 ds (r_op (o_mov (ev_t (z1 rfl (z2 rfl q30)))) (want_on ds) ?_))
    by_cases hs41 : (x.op = 14)
    · refine r_op (dec_t (o_eql (ev_t ds) ev_c) hs41) (want_on (z1 rfl ds)) (r_op (o_pick_f (ev_t (z2 rfl ds)) (ev_t ds)) rfl (m1 ds (r_off (want_not ds rfl) (r_off (want_not (z1 rfl ds) rfl) (r_op (o_pick_t (ev_t (z2 rfl ds)) ev_c) rfl (m1 ds (r_off (want_not ds rfl) (r_off (want_not (z1 rfl ds) rfl) (r_op (o_pick_t (ev_t (z2 rfl ds)) ev_c) rfl (m1 ds (r_off (want_not ds rfl) (r_off (want_not (z1 rfl ds) rfl) (r_op (o_pick_t (ev_t (z2 rfl ds)) ev_c) rfl (m1 ds (r_nil ?_)))))))))))))))
      exact ⟨rfl, rfl, bt_ (by omega) ds, (z1 rfl (z2 rfl (z8 rfl (z8 rfl q27)))), (z1 rfl (z2 rfl (z8 rfl (z8 rfl q28)))), (z1 rfl (z2 rfl (z8 rfl (z8 rfl q29)))), (z1 rfl (z2 rfl (z8 rfl (z8 rfl q30))))⟩
    refine r_op (dec_f (o_eql (ev_t ds) ev_c) hs41) (want_on (z1 rfl ds)) (r_op (o_pick_f (ev_t (z2 rfl ds)) (ev_t ds)) rfl (m1 ds (r_op (o_mov (ev_t (z1 rfl (z2 rfl (z4 rfl q30))))) (want_on ds) ?_)))
    by_cases hs42 : (x.op = 23)
    · refine r_op (dec_t (o_eql (ev_t ds) ev_c) hs42) (want_on (z1 rfl ds)) (r_op (o_pick_f (ev_t (z2 rfl ds)) (ev_t ds)) rfl (m1 ds (r_off (want_not ds rfl) (r_off (want_not (z1 rfl ds) rfl) (r_op (o_pick_t (ev_t (z2 rfl ds)) ev_c) rfl (m1 ds (r_off (want_not ds rfl) (r_off (want_not (z1 rfl ds) rfl) (r_op (o_pick_t (ev_t (z2 rfl ds)) ev_c) rfl (m1 ds (r_nil ?_)))))))))))
      exact ⟨rfl, rfl, bt_ (by omega) ds, (z1 rfl (z2 rfl (z8 rfl (z8 rfl q27)))), (z1 rfl (z2 rfl (z8 rfl (z8 rfl q28)))), (z1 rfl (z2 rfl (z8 rfl (z8 rfl q29)))), (z1 rfl (z2 rfl (z8 rfl (z8 rfl q30))))⟩
    refine r_op (dec_f (o_eql (ev_t ds) ev_c) hs42) (want_on (z1 rfl ds)) (r_op (o_pick_f (ev_t (z2 rfl ds)) (ev_t ds)) rfl (m1 ds (r_op (o_mov (ev_t (z1 rfl (z2 rfl (z8 rfl q30))))) (want_on ds) ?_)))
    by_cases hs43 : (x.op = 25)
    · refine r_op (dec_t (o_eql (ev_t ds) ev_c) hs43) (want_on (z1 rfl ds)) (r_op (o_pick_f (ev_t (z2 rfl ds)) (ev_t ds)) rfl (m1 ds (r_off (want_not ds rfl) (r_off (want_not (z1 rfl ds) rfl) (r_op (o_pick_t (ev_t (z2 rfl ds)) ev_c) rfl (m1 ds (r_nil ?_)))))))
      exact ⟨rfl, rfl, bt_ (by omega) ds, (z1 rfl (z2 rfl (z8 rfl (z8 rfl q27)))), (z1 rfl (z2 rfl (z8 rfl (z8 rfl q28)))), (z1 rfl (z2 rfl (z8 rfl (z8 rfl q29)))), (z1 rfl (z2 rfl (z8 rfl (z8 rfl q30))))⟩
    refine r_op (dec_f (o_eql (ev_t ds) ev_c) hs43) (want_on (z1 rfl ds)) (r_op (o_pick_f (ev_t (z2 rfl ds)) (ev_t ds)) rfl (m1 ds (r_op (o_mov (ev_t (z1 rfl (z2 rfl (z4 rfl (z8 rfl q30)))))) (want_on ds) (r_op (o_eql (ev_t ds) ev_c) (want_on (z1 rfl ds)) (r_op (o_pick_f (ev_t (z2 rfl ds)) (ev_t ds)) rfl (m1 ds (r_nil ?_)))))))
    exact ⟨rfl, rfl, bd_ ⟨fun _ => by omega, fun _ => by omega⟩ ds, (z1 rfl (z2 rfl (z8 rfl (z8 rfl q27)))), (z1 rfl (z2 rfl (z8 rfl (z8 rfl q28)))), (z1 rfl (z2 rfl (z8 rfl (z8 rfl q29)))), (z1 rfl (z2 rfl (z8 rfl (z8 rfl q30))))⟩
  rintro T34 _ _ ⟨rfl, rfl, q35, q36, q37, q38, q39⟩
  refine k_cond (ev_t q35) (fun hc44 => ?_) (fun hc44 => ?_)
  · replace hc44 := of_decide_eq_true hc44
    refine k_seq (k_draw (e_op 0 rfl (o_mov (ev_t q38)) rfl ?_))
    by_cases hs45 : (((ws.length : Nat) : Int) = 2)
    · obtain ⟨wa, wb, hwe⟩ := len2 hs45
      subst hwe
      refine e_op 1 rfl (dec_t (o_eql (ev_t ds) ev_c) hs45) rfl (e_op 2 rfl (o_mov (ev_t ds)) rfl (e_op 3 rfl (o_mov (ev_t (z1 rfl (z2 rfl q36)))) (want_on ds) (e_op 4 rfl (o_iaddr (i := 0) (ev_t ds) ev_c (by simp)) (want_on (z1 rfl ds)) ?_)))
      refine e_op 5 rfl (o_load (ev_t ds) (look_ne hh2 (by omega) hr) (by rw [Nat.mul_one]; exact rowI_get (i := 0) hseg rfl)) (want_on (z2 rfl ds)) ?_
      refine e_op 6 rfl (o_mov (ev_t (z2 rfl (z4 rfl q36)))) (want_on (z1 rfl (z2 rfl ds))) (e_op 7 rfl (o_iaddr (i := 1) (ev_t ds) ev_c (by simp)) (want_on (z4 rfl ds)) ?_)
      refine e_op 8 rfl (o_load (ev_t ds) (look_ne hh2 (by omega) hr) (by rw [Nat.mul_one]; exact rowI_get (i := 1) hseg rfl)) (want_on (z1 rfl (z4 rfl ds))) ?_
      refine e_op 9 rfl (o_eql (ev_t (z1 rfl (z2 rfl ds))) (ev_t ds)) (want_on (z2 rfl (z4 rfl ds))) (e_op 10 rfl (o_pick_t (ev_t (z1 rfl (z2 rfl (z4 rfl ds)))) (ev_t ds)) rfl (e_done ?_))
      refine k_cond (ev_t ds) (fun hc46 => ?_) (fun hc46 => ?_)
      · replace hc46 := of_decide_eq_true hc46
        refine k_seq (k_reg (m1 (z1 rfl (z2 rfl (z8 rfl q36))) (r_op (o_iaddr (i := 0) (ev_t ds) ev_c (by simp)) rfl ?_)))
        refine r_op (o_load (ev_t ds) (look_ne hh2 (by omega) hr) (by rw [Nat.mul_one]; exact rowI_get (i := 0) hseg rfl)) rfl ?_
        refine m1 ds (r_nil (k_ret ?_))
        have hfin : OperA x [wa, wb] wa := by
          refine ⟨fun e => by exfalso; omega, fun _ => ?_⟩
          unfold operW
          rw [if_neg (by omega), if_neg (by omega), if_pos (by omega)]
          first | exact .inl rfl | exact .inr ⟨rfl, rfl⟩ | (dsimp only; first | (rw [if_pos (by omega)]; first | exact .inl rfl | exact .inl (by omega)) | (rw [if_neg (by omega)]; exact .inr ⟨rfl, rfl⟩))
        exact ⟨_, ans_tmp ds, _, rfl, hfin, by omega, Keep.upd (Keep.refl _ _ _) hh2 (.inl (by omega))⟩
      replace hc46 := of_decide_eq_false hc46
      refine k_skip (k_seq (k_reg (r_op (o_mov ev_c) rfl (r_nil (k_ret ?_)))))
      have hfin : OperA x [wa, wb] 0 := by
        refine ⟨fun e => by exfalso; omega, fun _ => ?_⟩
        unfold operW
        rw [if_neg (by omega), if_neg (by omega), if_pos (by omega)]
        first | exact .inl rfl | exact .inr ⟨rfl, rfl⟩ | (dsimp only; first | (rw [if_pos (by omega)]; first | exact .inl rfl | exact .inl (by omega)) | (rw [if_neg (by omega)]; exact .inr ⟨rfl, rfl⟩))
      exact ⟨_, ans_tmp ds, _, rfl, hfin, by omega, Keep.upd (Keep.refl _ _ _) hh2 (.inl (by omega))⟩
    refine e_op 1 rfl (dec_f (o_eql (ev_t ds) ev_c) hs45) rfl (e_op 2 rfl (o_mov (ev_t ds)) rfl (e_off 3 rfl (want_not ds rfl) (e_off 4 rfl (want_not (z1 rfl ds) rfl) (e_off 5 rfl (want_not (z2 rfl ds) rfl) (e_off 6 rfl (want_not (z1 rfl (z2 rfl ds)) rfl) (e_off 7 rfl (want_not (z4 rfl ds) rfl) (e_off 8 rfl (want_not (z1 rfl (z4 rfl ds)) rfl) (e_off 9 rfl (want_not (z2 rfl (z4 rfl ds)) rfl) (e_op 10 rfl (o_pick_f (ev_t (z1 rfl (z2 rfl (z4 rfl ds)))) ev_c) rfl (e_done (k_cond_f (ev_t ds) (k_skip (k_seq (k_reg (r_op (o_mov ev_c) rfl (r_nil (k_ret ?_)))))))))))))))))
    have hfin : OperA x ws 0 := by
      refine ⟨fun e => by exfalso; omega, fun _ => ?_⟩
      unfold operW
      rw [if_neg (by omega), if_neg (by omega), if_pos (by omega)]
      exact .inr ⟨rfl, by rcases ws with _ | ⟨a, _ | ⟨b, _ | ⟨c, _ | ⟨e, l⟩⟩⟩⟩ <;> first | rfl | (exfalso; simp only [List.length_cons, List.length_nil] at *; omega)⟩
    exact ⟨_, ans_tmp ds, _, rfl, hfin, by omega, Keep.upd (Keep.refl _ _ _) hh2 (.inl (by omega))⟩
  replace hc44 := of_decide_eq_false hc44
  refine k_seq ?_
  refine k_cut (fun T_ t_ n_ => t1 = t_ ∧ (nx + 1) = n_ ∧ T_.get 81 = some (.bool (decide (17 ≤ x.op ∧ x.op ≤ 22))) ∧ T_.get 1 = some (.slice d o ws.length cc 1 ex) ∧ T_.get 2 = some (.ptr nx 0) ∧ T_.get 5 = some (.int .i64 ((ws.length : Nat) : Int)) ∧ T_.get 6 = some (.int .i64 x.op)) ?_ ?_
  · refine k_reg (m1 q39 ?_)
    by_cases hs53 : (x.op < 17)
    · refine r_op (ndec_f (o_geq (ev_t ds) ev_c) hs53) rfl (m1 ds (r_off (want_not ds rfl) (r_off (want_not (z1 rfl ds) rfl) (r_op (o_pick_f (ev_t (z2 rfl ds)) ev_c) rfl (m1 ds (r_nil ?_))))))
      exact ⟨rfl, rfl, bf_ (by omega) ds, (z1 rfl (z2 rfl (z4 rfl q36))), (z1 rfl (z2 rfl (z4 rfl q37))), (z1 rfl (z2 rfl (z4 rfl q38))), (z1 rfl (z2 rfl (z4 rfl q39)))⟩
    refine r_op (ndec_t (o_geq (ev_t ds) ev_c) hs53) rfl (m1 ds (r_op (o_mov (ev_t (z1 rfl (z2 rfl q39)))) (want_on ds) (r_op (o_leq (ev_t ds) ev_c) (want_on (z1 rfl ds)) (r_op (o_pick_t (ev_t (z2 rfl ds)) (ev_t ds)) rfl (m1 ds (r_nil ?_))))))
    exact ⟨rfl, rfl, bn_ ⟨fun _ => by omega, fun _ => by omega⟩ ds, (z1 rfl (z2 rfl (z4 rfl q36))), (z1 rfl (z2 rfl (z4 rfl q37))), (z1 rfl (z2 rfl (z4 rfl q38))), (z1 rfl (z2 rfl (z4 rfl q39)))⟩
  rintro T47 _ _ ⟨rfl, rfl, q48, q49, q50, q51, q52⟩
  refine k_cond (ev_t q48) (fun hc54 => ?_) (fun hc54 => ?_)
  · replace hc54 := of_decide_eq_true hc54
    refine k_seq (k_draw (e_op 0 rfl (o_mov (ev_t q51)) rfl ?_))
    by_cases hs55 : (((ws.length : Nat) : Int) = 2)
    · obtain ⟨wa, wb, hwe⟩ := len2 hs55
      subst hwe
      refine e_op 1 rfl (dec_t (o_eql (ev_t ds) ev_c) hs55) rfl (e_op 2 rfl (o_mov (ev_t ds)) rfl (e_op 3 rfl (o_mov (ev_t (z1 rfl (z2 rfl q49)))) (want_on ds) (e_op 4 rfl (o_iaddr (i := 0) (ev_t ds) ev_c (by simp)) (want_on (z1 rfl ds)) ?_)))
      refine e_op 5 rfl (o_load (ev_t ds) (look_ne hh2 (by omega) hr) (by rw [Nat.mul_one]; exact rowI_get (i := 0) hseg rfl)) (want_on (z2 rfl ds)) ?_
      refine e_op 6 rfl (o_mov (ev_t (z2 rfl (z4 rfl q49)))) (want_on (z1 rfl (z2 rfl ds))) (e_op 7 rfl (o_iaddr (i := 1) (ev_t ds) ev_c (by simp)) (want_on (z4 rfl ds)) ?_)
      refine e_op 8 rfl (o_load (ev_t ds) (look_ne hh2 (by omega) hr) (by rw [Nat.mul_one]; exact rowI_get (i := 1) hseg rfl)) (want_on (z1 rfl (z4 rfl ds))) ?_
      by_cases hs56 : (wa = wb)
      · refine e_op 9 rfl (dec_t (o_eql (ev_t (z1 rfl (z2 rfl ds))) (ev_t ds)) hs56) (want_on (z2 rfl (z4 rfl ds))) (e_op 10 rfl (o_pick_t (ev_t (z1 rfl (z2 rfl (z4 rfl ds)))) (ev_t ds)) rfl (d_call (ix := 11) (pr := [10, 2]) (d := (some 99)) (g := none) (F' := [(⟨6, [2], ⟨(some 94), (some (90, true)), (.op (.mov (.t 1)))⟩⟩, (.slice d o [wa, wb].length cc 1 ex)), (⟨3, [2], ⟨(some 91), (some (90, true)), (.op (.mov (.t 1)))⟩⟩, (.slice d o [wa, wb].length cc 1 ex))]) (w_callF (evs_cons (ev_t ds) evs_nil)) rfl (by kernel_rfl) (by kernel_rfl) (by kernel_rfl) (by kernel_rfl) (WF.mono (is_ok true) ?_)))
        rintro _ t57 n58 ⟨rfl, hni, hki⟩
        refine ⟨?_, ?_⟩
        · exact (all_cons_ (still_op (want_on (z1 rfl (z8 rfl ds))) rfl (o_mov (ev_t (z4 rfl (z8 rfl q49)))) (aeq_flat rfl)) (all_cons_ (still_op (want_on (z1 rfl (z8 rfl ds))) rfl (o_mov (ev_t (z4 rfl (z8 rfl q49)))) (aeq_flat rfl)) all_nil_))
        refine e_op 12 rfl (o_mov (ev_t ds)) rfl (e_done (k_ret ?_))
        have hfin : OperA x [wa, wb] (if true then 1 else 0) := by
          refine ⟨fun e => by exfalso; omega, fun _ => ?_⟩
          unfold operW
          rw [if_neg (by omega), if_neg (by omega), if_neg (by omega), if_neg (by omega), if_pos (by omega)]
          first | exact .inl rfl | exact .inr ⟨rfl, rfl⟩ | (dsimp only; first | (rw [if_pos (by omega)]; first | exact .inl rfl | exact .inl (by omega)) | (rw [if_neg (by omega)]; exact .inr ⟨rfl, rfl⟩))
        exact ⟨_, ans_tmp ds, _, rfl, hfin, by omega, Keep.trans (Keep.upd (Keep.refl _ _ _) hh2 (.inl (by omega))) hki (by omega) (fun d _ h => h)⟩
      refine e_op 9 rfl (dec_f (o_eql (ev_t (z1 rfl (z2 rfl ds))) (ev_t ds)) hs56) (want_on (z2 rfl (z4 rfl ds))) (e_op 10 rfl (o_pick_t (ev_t (z1 rfl (z2 rfl (z4 rfl ds)))) (ev_t ds)) rfl (d_call (ix := 11) (pr := [10, 2]) (d := (some 99)) (g := none) (F' := [(⟨6, [2], ⟨(some 94), (some (90, true)), (.op (.mov (.t 1)))⟩⟩, (.slice d o [wa, wb].length cc 1 ex)), (⟨3, [2], ⟨(some 91), (some (90, true)), (.op (.mov (.t 1)))⟩⟩, (.slice d o [wa, wb].length cc 1 ex))]) (w_callF (evs_cons (ev_t ds) evs_nil)) rfl (by kernel_rfl) (by kernel_rfl) (by kernel_rfl) (by kernel_rfl) (WF.mono (is_ok false) ?_)))
      rintro _ t59 n60 ⟨rfl, hni, hki⟩
      refine ⟨?_, ?_⟩
      · exact (all_cons_ (still_op (want_on (z1 rfl (z8 rfl ds))) rfl (o_mov (ev_t (z4 rfl (z8 rfl q49)))) (aeq_flat rfl)) (all_cons_ (still_op (want_on (z1 rfl (z8 rfl ds))) rfl (o_mov (ev_t (z4 rfl (z8 rfl q49)))) (aeq_flat rfl)) all_nil_))
      refine e_op 12 rfl (o_mov (ev_t ds)) rfl (e_done (k_ret ?_))
      have hfin : OperA x [wa, wb] (if false then 1 else 0) := by
        refine ⟨fun e => by exfalso; omega, fun _ => ?_⟩
        unfold operW
        rw [if_neg (by omega), if_neg (by omega), if_neg (by omega), if_neg (by omega), if_pos (by omega)]
        first | exact .inl rfl | exact .inr ⟨rfl, rfl⟩ | (dsimp only; first | (rw [if_pos (by omega)]; first | exact .inl rfl | exact .inl (by omega)) | (rw [if_neg (by omega)]; exact .inr ⟨rfl, rfl⟩))
      exact ⟨_, ans_tmp ds, _, rfl, hfin, by omega, Keep.trans (Keep.upd (Keep.refl _ _ _) hh2 (.inl (by omega))) hki (by omega) (fun d _ h => h)⟩
    refine e_op 1 rfl (dec_f (o_eql (ev_t ds) ev_c) hs55) rfl (e_op 2 rfl (o_mov (ev_t ds)) rfl (e_off 3 rfl (want_not ds rfl) (e_off 4 rfl (want_not (z1 rfl ds) rfl) (e_off 5 rfl (want_not (z2 rfl ds) rfl) (e_off 6 rfl (want_not (z1 rfl (z2 rfl ds)) rfl) (e_off 7 rfl (want_not (z4 rfl ds) rfl) (e_off 8 rfl (want_not (z1 rfl (z4 rfl ds)) rfl) (e_off 9 rfl (want_not (z2 rfl (z4 rfl ds)) rfl) (e_op 10 rfl (o_pick_f (ev_t (z1 rfl (z2 rfl (z4 rfl ds)))) ev_c) rfl (d_call (ix := 11) (pr := [10, 2]) (d := (some 99)) (g := none) (F' := [(⟨6, [2], ⟨(some 94), (some (90, true)), (.op (.mov (.t 1)))⟩⟩, .undef), (⟨3, [2], ⟨(some 91), (some (90, true)), (.op (.mov (.t 1)))⟩⟩, .undef)]) (w_callF (evs_cons (ev_t ds) evs_nil)) rfl (by kernel_rfl) (by kernel_rfl) (by kernel_rfl) (by kernel_rfl) (WF.mono (is_ok false) ?_)))))))))))
    rintro _ t61 n62 ⟨rfl, hni, hki⟩
    refine ⟨?_, ?_⟩
    · exact (all_cons_ (still_off (want_not (z1 rfl (z8 rfl ds)) rfl)) (all_cons_ (still_off (want_not (z1 rfl (z8 rfl ds)) rfl)) all_nil_))
    refine e_op 12 rfl (o_mov (ev_t ds)) rfl (e_done (k_ret ?_))
    have hfin : OperA x ws (if false then 1 else 0) := by
      refine ⟨fun e => by exfalso; omega, fun _ => ?_⟩
      unfold operW
      rw [if_neg (by omega), if_neg (by omega), if_neg (by omega), if_neg (by omega), if_pos (by omega)]
      exact .inr ⟨rfl, by rcases ws with _ | ⟨a, _ | ⟨b, _ | ⟨c, _ | ⟨e, l⟩⟩⟩⟩ <;> first | rfl | (exfalso; simp only [List.length_cons, List.length_nil] at *; omega)⟩
    exact ⟨_, ans_tmp ds, _, rfl, hfin, by omega, Keep.trans (Keep.upd (Keep.refl _ _ _) hh2 (.inl (by omega))) hki (by omega) (fun d _ h => h)⟩
  replace hc54 := of_decide_eq_false hc54
  refine k_seq ?_
  refine k_cut (fun T_ t_ n_ => t1 = t_ ∧ (nx + 1) = n_ ∧ T_.get 100 = some (.bool (decide (x.op = 26 ∨ x.op = 27 ∨ x.op = 3))) ∧ T_.get 1 = some (.slice d o ws.length cc 1 ex) ∧ T_.get 2 = some (.ptr nx 0) ∧ T_.get 5 = some (.int .i64 ((ws.length : Nat) : Int)) ∧ T_.get 6 = some (.int .i64 x.op)) ?_ ?_
  · refine k_reg (m1 q52 ?_)
    by_cases hs69 : (x.op = 26)
    · refine r_op (dec_t (o_eql (ev_t ds) ev_c) hs69) rfl (m1 ds (r_off (want_not ds rfl) (r_off (want_not (z1 rfl ds) rfl) (r_op (o_pick_t (ev_t (z2 rfl ds)) ev_c) rfl (m1 ds (r_off (want_not ds rfl) (r_off (want_not (z1 rfl ds) rfl) (r_op (o_pick_t (ev_t (z2 rfl ds)) ev_c) rfl (m1 ds (r_nil ?_))))))))))
      exact ⟨rfl, rfl, bt_ (by omega) ds, (z1 rfl (z2 rfl (z8 rfl q49))), (z1 rfl (z2 rfl (z8 rfl q50))), (z1 rfl (z2 rfl (z8 rfl q51))), (z1 rfl (z2 rfl (z8 rfl q52)))⟩
    refine r_op (dec_f (o_eql (ev_t ds) ev_c) hs69) rfl (m1 ds (r_op (o_mov (ev_t (z1 rfl (z2 rfl q52)))) (want_on ds) ?_))
    by_cases hs70 : (x.op = 27)
    · refine r_op (dec_t (o_eql (ev_t ds) ev_c) hs70) (want_on (z1 rfl ds)) (r_op (o_pick_f (ev_t (z2 rfl ds)) (ev_t ds)) rfl (m1 ds (r_off (want_not ds rfl) (r_off (want_not (z1 rfl ds) rfl) (r_op (o_pick_t (ev_t (z2 rfl ds)) ev_c) rfl (m1 ds (r_nil ?_)))))))
      exact ⟨rfl, rfl, bt_ (by omega) ds, (z1 rfl (z2 rfl (z8 rfl q49))), (z1 rfl (z2 rfl (z8 rfl q50))), (z1 rfl (z2 rfl (z8 rfl q51))), (z1 rfl (z2 rfl (z8 rfl q52)))⟩
    refine r_op (dec_f (o_eql (ev_t ds) ev_c) hs70) (want_on (z1 rfl ds)) (r_op (o_pick_f (ev_t (z2 rfl ds)) (ev_t ds)) rfl (m1 ds (r_op (o_mov (ev_t (z1 rfl (z2 rfl (z4 rfl q52))))) (want_on ds) (r_op (o_eql (ev_t ds) ev_c) (want_on (z1 rfl ds)) (r_op (o_pick_f (ev_t (z2 rfl ds)) (ev_t ds)) rfl (m1 ds (r_nil ?_)))))))
    exact ⟨rfl, rfl, bd_ ⟨fun _ => by omega, fun _ => by omega⟩ ds, (z1 rfl (z2 rfl (z8 rfl q49))), (z1 rfl (z2 rfl (z8 rfl q50))), (z1 rfl (z2 rfl (z8 rfl q51))), (z1 rfl (z2 rfl (z8 rfl q52)))⟩
  rintro T63 _ _ ⟨rfl, rfl, q64, q65, q66, q67, q68⟩
  refine k_cond (ev_t q64) (fun hc71 => ?_) (fun hc71 => ?_)
  · replace hc71 := of_decide_eq_true hc71
    refine k_seq (k_reg (m1 q67 ?_))
    by_cases hs72 : (((ws.length : Nat) : Int) = 2)
    · obtain ⟨wa, wb, hwe⟩ := len2 hs72
      subst hwe
      refine r_op (dec_t (o_eql (ev_t ds) ev_c) hs72) rfl (r_call (w_callF (evs_cons (ev_t ds) evs_nil)) rfl (WF.mono (is_ok true) ?_))
      rintro _ t73 n74 ⟨rfl, hni, hki⟩
      refine m1 ds (r_nil (k_ret ?_))
      have hfin : OperA x [wa, wb] (if true then 1 else 0) := by
        refine ⟨fun e => by exfalso; omega, fun _ => ?_⟩
        unfold operW
        rw [if_neg (by omega), if_neg (by omega), if_neg (by omega), if_neg (by omega), if_neg (by omega), if_pos (by omega)]
        first | exact .inl rfl | exact .inr ⟨rfl, rfl⟩ | (dsimp only; first | (rw [if_pos (by omega)]; first | exact .inl rfl | exact .inl (by omega)) | (rw [if_neg (by omega)]; exact .inr ⟨rfl, rfl⟩))
      exact ⟨_, ans_tmp ds, _, rfl, hfin, by omega, Keep.trans (Keep.upd (Keep.refl _ _ _) hh2 (.inl (by omega))) hki (by omega) (fun d _ h => h)⟩
    refine r_op (dec_f (o_eql (ev_t ds) ev_c) hs72) rfl (r_call (w_callF (evs_cons (ev_t ds) evs_nil)) rfl (WF.mono (is_ok false) ?_))
    rintro _ t75 n76 ⟨rfl, hni, hki⟩
    refine m1 ds (r_nil (k_ret ?_))
    have hfin : OperA x ws (if false then 1 else 0) := by
      refine ⟨fun e => by exfalso; omega, fun _ => ?_⟩
      unfold operW
      rw [if_neg (by omega), if_neg (by omega), if_neg (by omega), if_neg (by omega), if_neg (by omega), if_pos (by omega)]
      exact .inr ⟨rfl, by rcases ws with _ | ⟨a, _ | ⟨b, _ | ⟨c, _ | ⟨e, l⟩⟩⟩⟩ <;> first | rfl | (exfalso; simp only [List.length_cons, List.length_nil] at *; omega)⟩
    exact ⟨_, ans_tmp ds, _, rfl, hfin, by omega, Keep.trans (Keep.upd (Keep.refl _ _ _) hh2 (.inl (by omega))) hki (by omega) (fun d _ h => h)⟩
  replace hc71 := of_decide_eq_false hc71
  refine k_seq (k_reg (m1 q68 (r_op (o_eql (ev_t ds) ev_c) rfl (m1 ds (r_nil ?_)))))
  refine k_cond (ev_t ds) (fun hc77 => ?_) (fun hc77 => ?_)
  · replace hc77 := of_decide_eq_true hc77
    refine k_seq (k_draw (e_op 0 rfl (o_mov (ev_t (z1 rfl (z2 rfl q67)))) rfl ?_))
    by_cases hs78 : (((ws.length : Nat) : Int) = 3)
    · obtain ⟨wa, wb, wc, hwe⟩ := len3 hs78
      subst hwe
      refine e_op 1 rfl (dec_t (o_eql (ev_t ds) ev_c) hs78) rfl (e_op 2 rfl (o_mov (ev_t ds)) rfl (e_op 3 rfl (o_mov (ev_t (z2 rfl (z4 rfl q65)))) (want_on ds) (e_op 4 rfl (o_iaddr (i := 1) (ev_t ds) ev_c (by simp)) (want_on (z1 rfl ds)) ?_)))
      refine e_op 5 rfl (o_load (ev_t ds) (look_ne hh2 (by omega) hr) (by rw [Nat.mul_one]; exact rowI_get (i := 1) hseg rfl)) (want_on (z2 rfl ds)) ?_
      refine e_op 6 rfl (o_mov (ev_t (z1 rfl (z8 rfl q65)))) (want_on (z1 rfl (z2 rfl ds))) (e_op 7 rfl (o_iaddr (i := 2) (ev_t ds) ev_c (by simp)) (want_on (z4 rfl ds)) ?_)
      refine e_op 8 rfl (o_load (ev_t ds) (look_ne hh2 (by omega) hr) (by rw [Nat.mul_one]; exact rowI_get (i := 2) hseg rfl)) (want_on (z1 rfl (z4 rfl ds))) ?_
      refine e_op 9 rfl (o_eql (ev_t (z1 rfl (z2 rfl ds))) (ev_t ds)) (want_on (z2 rfl (z4 rfl ds))) (e_op 10 rfl (o_pick_t (ev_t (z1 rfl (z2 rfl (z4 rfl ds)))) (ev_t ds)) rfl (e_done ?_))
      refine k_cond (ev_t ds) (fun hc79 => ?_) (fun hc79 => ?_)
      · replace hc79 := of_decide_eq_true hc79
        refine k_seq (k_reg (m1 (z2 rfl (z4 rfl (z8 rfl q65))) (r_op (o_iaddr (i := 1) (ev_t ds) ev_c (by simp)) rfl ?_)))
        refine r_op (o_load (ev_t ds) (look_ne hh2 (by omega) hr) (by rw [Nat.mul_one]; exact rowI_get (i := 1) hseg rfl)) rfl ?_
        refine m1 ds (r_nil (k_ret ?_))
        have hfin : OperA x [wa, wb, wc] wb := by
          refine ⟨fun e => by exfalso; omega, fun _ => ?_⟩
          unfold operW
          rw [if_neg (by omega), if_neg (by omega), if_neg (by omega), if_neg (by omega), if_neg (by omega), if_neg (by omega), if_pos (by omega)]
          first | exact .inl rfl | exact .inr ⟨rfl, rfl⟩ | (dsimp only; first | (rw [if_pos (by omega)]; first | exact .inl rfl | exact .inl (by omega)) | (rw [if_neg (by omega)]; exact .inr ⟨rfl, rfl⟩))
        exact ⟨_, ans_tmp ds, _, rfl, hfin, by omega, Keep.upd (Keep.refl _ _ _) hh2 (.inl (by omega))⟩
      replace hc79 := of_decide_eq_false hc79
      refine k_skip (k_seq (k_reg (r_op (o_mov ev_c) rfl (r_nil (k_ret ?_)))))
      have hfin : OperA x [wa, wb, wc] 0 := by
        refine ⟨fun e => by exfalso; omega, fun _ => ?_⟩
        unfold operW
        rw [if_neg (by omega), if_neg (by omega), if_neg (by omega), if_neg (by omega), if_neg (by omega), if_neg (by omega), if_pos (by omega)]
        first | exact .inl rfl | exact .inr ⟨rfl, rfl⟩ | (dsimp only; first | (rw [if_pos (by omega)]; first | exact .inl rfl | exact .inl (by omega)) | (rw [if_neg (by omega)]; exact .inr ⟨rfl, rfl⟩))
      exact ⟨_, ans_tmp ds, _, rfl, hfin, by omega, Keep.upd (Keep.refl _ _ _) hh2 (.inl (by omega))⟩
    refine e_op 1 rfl (dec_f (o_eql (ev_t ds) ev_c) hs78) rfl (e_op 2 rfl (o_mov (ev_t ds)) rfl (e_off 3 rfl (want_not ds rfl) (e_off 4 rfl (want_not (z1 rfl ds) rfl) (e_off 5 rfl (want_not (z2 rfl ds) rfl) (e_off 6 rfl (want_not (z1 rfl (z2 rfl ds)) rfl) (e_off 7 rfl (want_not (z4 rfl ds) rfl) (e_off 8 rfl (want_not (z1 rfl (z4 rfl ds)) rfl) (e_off 9 rfl (want_not (z2 rfl (z4 rfl ds)) rfl) (e_op 10 rfl (o_pick_f (ev_t (z1 rfl (z2 rfl (z4 rfl ds)))) ev_c) rfl (e_done (k_cond_f (ev_t ds) (k_skip (k_seq (k_reg (r_op (o_mov ev_c) rfl (r_nil (k_ret ?_)))))))))))))))))
    have hfin : OperA x ws 0 := by
      refine ⟨fun e => by exfalso; omega, fun _ => ?_⟩
      unfold operW
      rw [if_neg (by omega), if_neg (by omega), if_neg (by omega), if_neg (by omega), if_neg (by omega), if_neg (by omega), if_pos (by omega)]
      exact .inr ⟨rfl, by rcases ws with _ | ⟨a, _ | ⟨b, _ | ⟨c, _ | ⟨e, l⟩⟩⟩⟩ <;> first | rfl | (exfalso; simp only [List.length_cons, List.length_nil] at *; omega)⟩
    exact ⟨_, ans_tmp ds, _, rfl, hfin, by omega, Keep.upd (Keep.refl _ _ _) hh2 (.inl (by omega))⟩
  replace hc77 := of_decide_eq_false hc77
  refine k_seq (k_reg (m1 (z1 rfl (z2 rfl q68)) (r_op (o_eql (ev_t ds) ev_c) rfl (m1 ds (r_nil ?_)))))
  refine k_cond (ev_t ds) (fun hc80 => ?_) (fun hc80 => ?_)
  · replace hc80 := of_decide_eq_true hc80
    refine k_seq (k_draw (e_op 0 rfl (o_mov (ev_t (z2 rfl (z4 rfl q67)))) rfl ?_))
    by_cases hs81 : (((ws.length : Nat) : Int) = 1)
    · obtain ⟨wa, hwe⟩ := len1 hs81
      subst hwe
      refine e_op 1 rfl (dec_t (o_eql (ev_t ds) ev_c) hs81) rfl (e_op 2 rfl (o_mov (ev_t ds)) rfl (e_op 3 rfl (o_faddr (off := 6) (ev_t (z1 rfl (z8 rfl q66)))) (want_on ds) (e_op 4 rfl (o_load (ev_t ds) (look_same hh2) rfl) (want_on (z1 rfl ds)) ?_)))
      by_cases hs82 : (x.lo < 0)
      · refine e_op 5 rfl (ndec_f (o_geq (ev_t ds) ev_c) hs82) (want_on (z2 rfl ds)) (e_op 6 rfl (o_pick_t (ev_t (z1 rfl (z2 rfl ds))) (ev_t ds)) rfl (e_op 7 rfl (o_mov (ev_t ds)) rfl (e_off 8 rfl (want_not ds rfl) (e_off 9 rfl (want_not (z1 rfl ds) rfl) (e_off 10 rfl (want_not (z2 rfl ds) rfl) (e_off 11 rfl (want_not (z1 rfl (z2 rfl ds)) rfl) (e_off 12 rfl (want_not (z4 rfl ds) rfl) (e_op 13 rfl (o_pick_f (ev_t (z1 rfl (z4 rfl ds))) ev_c) rfl (e_op 14 rfl (o_mov (ev_t ds)) rfl (e_off 15 rfl (want_not ds rfl) (e_off 16 rfl (want_not (z1 rfl ds) rfl) (e_off 17 rfl (want_not (z2 rfl ds) rfl) (e_off 18 rfl (want_not (z1 rfl (z2 rfl ds)) rfl) (e_off 19 rfl (want_not (z4 rfl ds) rfl) (e_off 20 rfl (want_not (z1 rfl (z4 rfl ds)) rfl) (e_op 21 rfl (o_pick_f (ev_t (z2 rfl (z4 rfl ds))) ev_c) rfl (e_done (k_cond_f (ev_t ds) (k_skip (k_seq (k_reg (r_op (o_mov ev_c) rfl (r_nil (k_ret ?_))))))))))))))))))))))))
        have hfin : OperA x [wa] 0 := by
          refine ⟨fun e => by exfalso; omega, fun _ => ?_⟩
          unfold operW
          rw [if_neg (by omega), if_neg (by omega), if_neg (by omega), if_neg (by omega), if_neg (by omega), if_neg (by omega), if_neg (by omega), if_pos (by omega)]
          first | exact .inl rfl | exact .inr ⟨rfl, rfl⟩ | (dsimp only; first | (rw [if_pos (by omega)]; first | exact .inl rfl | exact .inl (by omega)) | (rw [if_neg (by omega)]; exact .inr ⟨rfl, rfl⟩))
        exact ⟨_, ans_tmp ds, _, rfl, hfin, by omega, Keep.upd (Keep.refl _ _ _) hh2 (.inl (by omega))⟩
      refine e_op 5 rfl (ndec_t (o_geq (ev_t ds) ev_c) hs82) (want_on (z2 rfl ds)) (e_op 6 rfl (o_pick_t (ev_t (z1 rfl (z2 rfl ds))) (ev_t ds)) rfl (e_op 7 rfl (o_mov (ev_t ds)) rfl (e_op 8 rfl (o_faddr (off := 5) (ev_t (z2 rfl (z4 rfl (z8 rfl q66))))) (want_on ds) (e_op 9 rfl (o_load (ev_t ds) (look_same hh2) rfl) (want_on (z1 rfl ds)) (e_op 10 rfl (o_faddr (off := 6) (ev_t (z8 rfl (z8 rfl q66)))) (want_on (z2 rfl ds)) (e_op 11 rfl (o_load (ev_t ds) (look_same hh2) rfl) (want_on (z1 rfl (z2 rfl ds))) ?_))))))
      by_cases hs83 : (x.hi < x.lo)
      · refine e_op 12 rfl (ndec_f (o_geq (ev_t (z2 rfl ds)) (ev_t ds)) hs83) (want_on (z4 rfl ds)) (e_op 13 rfl (o_pick_t (ev_t (z1 rfl (z4 rfl ds))) (ev_t ds)) rfl (e_op 14 rfl (o_mov (ev_t ds)) rfl (e_off 15 rfl (want_not ds rfl) (e_off 16 rfl (want_not (z1 rfl ds) rfl) (e_off 17 rfl (want_not (z2 rfl ds) rfl) (e_off 18 rfl (want_not (z1 rfl (z2 rfl ds)) rfl) (e_off 19 rfl (want_not (z4 rfl ds) rfl) (e_off 20 rfl (want_not (z1 rfl (z4 rfl ds)) rfl) (e_op 21 rfl (o_pick_f (ev_t (z2 rfl (z4 rfl ds))) ev_c) rfl (e_done (k_cond_f (ev_t ds) (k_skip (k_seq (k_reg (r_op (o_mov ev_c) rfl (r_nil (k_ret ?_)))))))))))))))))
        have hfin : OperA x [wa] 0 := by
          refine ⟨fun e => by exfalso; omega, fun _ => ?_⟩
          unfold operW
          rw [if_neg (by omega), if_neg (by omega), if_neg (by omega), if_neg (by omega), if_neg (by omega), if_neg (by omega), if_neg (by omega), if_pos (by omega)]
          first | exact .inl rfl | exact .inr ⟨rfl, rfl⟩ | (dsimp only; first | (rw [if_pos (by omega)]; first | exact .inl rfl | exact .inl (by omega)) | (rw [if_neg (by omega)]; exact .inr ⟨rfl, rfl⟩))
        exact ⟨_, ans_tmp ds, _, rfl, hfin, by omega, Keep.upd (Keep.refl _ _ _) hh2 (.inl (by omega))⟩
      refine e_op 12 rfl (ndec_t (o_geq (ev_t (z2 rfl ds)) (ev_t ds)) hs83) (want_on (z4 rfl ds)) (e_op 13 rfl (o_pick_t (ev_t (z1 rfl (z4 rfl ds))) (ev_t ds)) rfl (e_op 14 rfl (o_mov (ev_t ds)) rfl (e_op 15 rfl (o_faddr (off := 5) (ev_t (z1 rfl (z4 rfl (z8 rfl (z8 rfl q66)))))) (want_on ds) (e_op 16 rfl (o_load (ev_t ds) (look_same hh2) rfl) (want_on (z1 rfl ds)) (e_op 17 rfl (o_mov (ev_t (z1 rfl (z2 rfl (z4 rfl (z8 rfl (z8 rfl q65))))))) (want_on (z2 rfl ds)) (e_op 18 rfl (o_iaddr (i := 0) (ev_t ds) ev_c (by simp)) (want_on (z1 rfl (z2 rfl ds))) ?_))))))
      refine e_op 19 rfl (o_load (ev_t ds) (look_ne hh2 (by omega) hr) (by rw [Nat.mul_one]; exact rowI_get (i := 0) hseg rfl)) (want_on (z4 rfl ds)) ?_
      refine e_op 20 rfl (o_lss (ev_t (z1 rfl (z2 rfl ds))) (ev_t ds)) (want_on (z1 rfl (z4 rfl ds))) (e_op 21 rfl (o_pick_t (ev_t (z2 rfl (z4 rfl ds))) (ev_t ds)) rfl (e_done ?_))
      refine k_cond (ev_t ds) (fun hc84 => ?_) (fun hc84 => ?_)
      · replace hc84 := of_decide_eq_true hc84
        refine k_seq ?_
        have hwa_ := hs wa (by simp)
        refine k_reg (r_op (o_faddr (off := 5) (ev_t (z4 rfl (z8 rfl (z8 rfl (z8 rfl q66)))))) rfl (r_op (o_load (ev_t ds) (look_same hh2) rfl) rfl (r_op (o_faddr (off := 6) (ev_t (z2 rfl (z4 rfl (z8 rfl (z8 rfl (z8 rfl q66))))))) rfl (r_op (o_load (ev_t ds) (look_same hh2) rfl) rfl (r_op (o_sub (ev_t (z2 rfl ds)) (ev_t ds) (by omega) (by omega)) rfl (r_op (o_add (ev_t ds) ev_c (by omega) (by omega)) rfl (m1 ds (r_nil (k_ret ?_)))))))))
        have hfin : OperA x [wa] ((x.hi - x.lo) + 1) := by
          refine ⟨fun e => by exfalso; omega, fun _ => ?_⟩
          unfold operW
          rw [if_neg (by omega), if_neg (by omega), if_neg (by omega), if_neg (by omega), if_neg (by omega), if_neg (by omega), if_neg (by omega), if_pos (by omega)]
          first | exact .inl rfl | exact .inr ⟨rfl, rfl⟩ | (dsimp only; first | (rw [if_pos (by omega)]; first | exact .inl rfl | exact .inl (by omega)) | (rw [if_neg (by omega)]; exact .inr ⟨rfl, rfl⟩))
        exact ⟨_, ans_tmp ds, _, rfl, hfin, by omega, Keep.upd (Keep.refl _ _ _) hh2 (.inl (by omega))⟩
      replace hc84 := of_decide_eq_false hc84
      refine k_skip (k_seq (k_reg (r_op (o_mov ev_c) rfl (r_nil (k_ret ?_)))))
      have hfin : OperA x [wa] 0 := by
        refine ⟨fun e => by exfalso; omega, fun _ => ?_⟩
        unfold operW
        rw [if_neg (by omega), if_neg (by omega), if_neg (by omega), if_neg (by omega), if_neg (by omega), if_neg (by omega), if_neg (by omega), if_pos (by omega)]
        first | exact .inl rfl | exact .inr ⟨rfl, rfl⟩ | (dsimp only; first | (rw [if_pos (by omega)]; first | exact .inl rfl | exact .inl (by omega)) | (rw [if_neg (by omega)]; exact .inr ⟨rfl, rfl⟩))
      exact ⟨_, ans_tmp ds, _, rfl, hfin, by omega, Keep.upd (Keep.refl _ _ _) hh2 (.inl (by omega))⟩
    refine e_op 1 rfl (dec_f (o_eql (ev_t ds) ev_c) hs81) rfl (e_op 2 rfl (o_mov (ev_t ds)) rfl (e_off 3 rfl (want_not ds rfl) (e_off 4 rfl (want_not (z1 rfl ds) rfl) (e_off 5 rfl (want_not (z2 rfl ds) rfl) (e_op 6 rfl (o_pick_f (ev_t (z1 rfl (z2 rfl ds))) ev_c) rfl (e_op 7 rfl (o_mov (ev_t ds)) rfl (e_off 8 rfl (want_not ds rfl) (e_off 9 rfl (want_not (z1 rfl ds) rfl) (e_off 10 rfl (want_not (z2 rfl ds) rfl) (e_off 11 rfl (want_not (z1 rfl (z2 rfl ds)) rfl) (e_off 12 rfl (want_not (z4 rfl ds) rfl) (e_op 13 rfl (o_pick_f (ev_t (z1 rfl (z4 rfl ds))) ev_c) rfl (e_op 14 rfl (o_mov (ev_t ds)) rfl (e_off 15 rfl (want_not ds rfl) (e_off 16 rfl (want_not (z1 rfl ds) rfl) (e_off 17 rfl (want_not (z2 rfl ds) rfl) (e_off 18 rfl (want_not (z1 rfl (z2 rfl ds)) rfl) (e_off 19 rfl (want_not (z4 rfl ds) rfl) (e_off 20 rfl (want_not (z1 rfl (z4 rfl ds)) rfl) (e_op 21 rfl (o_pick_f (ev_t (z2 rfl (z4 rfl ds))) ev_c) rfl (e_done (k_cond_f (ev_t ds) (k_skip (k_seq (k_reg (r_op (o_mov ev_c) rfl (r_nil (k_ret ?_))))))))))))))))))))))))))))
    have hfin : OperA x ws 0 := by
      refine ⟨fun e => by exfalso; omega, fun _ => ?_⟩
      unfold operW
      rw [if_neg (by omega), if_neg (by omega), if_neg (by omega), if_neg (by omega), if_neg (by omega), if_neg (by omega), if_neg (by omega), if_pos (by omega)]
      exact .inr ⟨rfl, by rcases ws with _ | ⟨a, _ | ⟨b, _ | ⟨c, _ | ⟨e, l⟩⟩⟩⟩ <;> first | rfl | (exfalso; simp only [List.length_cons, List.length_nil] at *; omega)⟩
    exact ⟨_, ans_tmp ds, _, rfl, hfin, by omega, Keep.upd (Keep.refl _ _ _) hh2 (.inl (by omega))⟩
  replace hc80 := of_decide_eq_false hc80
  refine k_seq (k_reg (m1 (z2 rfl (z4 rfl q68)) (r_op (o_eql (ev_t ds) ev_c) rfl (m1 ds (r_nil ?_)))))
  refine k_cond (ev_t ds) (fun hc85 => ?_) (fun hc85 => ?_)
  · replace hc85 := of_decide_eq_true hc85
    refine k_seq (k_reg (r_op (o_mov ev_c) rfl (r_nil (k_seq (k_seq (k_reg (m1 (z2 rfl (z8 rfl q65)) (r_op (o_len_slice (ev_t ds)) rfl (r_op (o_mov ev_c) rfl (r_nil (k_block (k_loop (fun mm Tv tv nv => ∃ i : Nat, i ≤ ws.length ∧ Tv.get 7 = some (.int .i64 (ws.take i).sum) ∧ Tv.get 165 = some (.slice d o ws.length cc 1 ex) ∧ Tv.get 166 = some (.int .i64 ((ws.length : Nat) : Int)) ∧ Tv.get 167 = some (.int .i64 (i : Int)) ∧ nx ≤ nv ∧ Keep t tv nx (fun _ => False) ∧ mm + i = ws.length) (fun mm Tv tv nv hI => ?_) (ws.length) ⟨0, by omega, (z1 rfl (z2 rfl ds)), (z2 rfl ds), (z1 rfl ds), ds, by omega, Keep.upd (Keep.refl _ _ _) hh2 (.inl (by omega)), by omega⟩))))))))))))
    obtain ⟨i, hi, p8, p5, p6, p7, hnv, hkp, hmm⟩ := hI
    have hr1 := hkp.look (by omega) id hr
    refine k_seq (k_reg (r_op (o_lss (ev_t p7) (ev_t p6)) rfl (r_nil (k_seq ?_))))
    refine k_cond (ev_t ds) (fun hc86 => ?_) (fun hc86 => ?_)
    · replace hc86 := of_decide_eq_true hc86
      refine k_skip (k_seq (k_block (k_seq (k_reg (r_op (o_iaddr (i := i) (ev_t (z1 rfl p5)) (ev_t (z1 rfl p7)) (by omega)) rfl ?_)))))
      obtain ⟨a, ha⟩ := some_at (l := ws) (i := i) (by omega)
      have hs1 := sum_le (l := ws.take i) (fun b hb => hs b (List.mem_of_mem_take hb))
      rw [List.length_take] at hs1
      have hs2 := hs a (List.mem_of_getElem? ha)
      refine r_op (o_load (ev_t ds) hr1 (by rw [Nat.mul_one]; exact rowI_get (i := i) hseg ha)) rfl ?_
      refine m1 ds (r_nil (k_reg (m1 (z4 rfl p8) (m1 (z1 rfl ds) (r_op (o_add (ev_t (z1 rfl ds)) (ev_t ds) (by omega) (by omega)) rfl (m1 ds (r_nil (k_reg (r_op (o_add (ev_t (z8 rfl p7)) ev_c (by omega) (by omega)) rfl (m1 ds (r_nil ?_)))))))))))
      exact ⟨mm - 1, by omega, i + 1, by omega, by rw [sum_take ha]; exact (z2 rfl ds), (z2 rfl (z8 rfl p5)), (z2 rfl (z8 rfl p6)), ds, by omega, hkp, by omega⟩
    replace hc86 := of_decide_eq_false hc86
    refine k_exit (exK_same (k_seq (k_reg (m1 (z1 rfl p8) (m1 ds (r_nil (k_ret ?_)))))))
    have hfin : OperA x ws (ws.take i).sum := by
      exact ⟨fun _ => by rw [List.take_of_length_le (by omega)], fun e => by exfalso; omega⟩
    exact ⟨_, ans_tmp ds, _, rfl, hfin, by omega, hkp⟩
  replace hc85 := of_decide_eq_false hc85
  refine k_skip (k_seq (k_reg (r_op (o_mov ev_c) rfl (r_nil (k_ret ?_)))))
  have hfin : OperA x ws 0 := by
    refine ⟨fun e => by exfalso; omega, fun _ => ?_⟩
    unfold operW
    rw [if_neg (by omega), if_neg (by omega), if_neg (by omega), if_neg (by omega), if_neg (by omega), if_neg (by omega), if_neg (by omega), if_neg (by omega), if_neg (by omega)]
    exact .inr ⟨rfl, rfl⟩
  exact ⟨_, ans_tmp ds, _, rfl, hfin, by omega, Keep.upd (Keep.refl _ _ _) hh2 (.inl (by omega))⟩
theorem trim_ok {t : TB} {nx : Nat} (s : List Nat) (h : ∀ c ∈ s, c < 256) (hl : s.length ≤ 9223372036854775807) : WF tb 104 [.str s, .str [48, 49, 120, 122]] t nx (fun v t' nx' => v = .str (trimN s [48, 49, 120, 122]) ∧ nx ≤ nx' ∧ Keep t t' nx (fun _ => False)) := by
  refine k_prim trim_tab (v := .str (trimN s [48, 49, 120, 122])) ?_ ⟨rfl, Nat.le_refl _, Keep.refl _ _ _⟩
  unfold pTrim
  exact if_pos ⟨h, hl, rfl⟩
theorem lcheck_ok {t : TB} {nx : Nat} (s : List Nat) (h : ∀ c ∈ s, c < 256) (hl : s.length ≤ 9223372036854775807) : WF tb 49 [.str s] t nx (fun v t' nx' => ∃ r, v = .int .i64 r ∧ (r = 0 ∧ isV s ∨ r = 10 ∧ ¬ isV s) ∧ nx ≤ nx' ∧ Keep t t' nx (fun _ => False)) := by
  have htr := trimN_nil h
  refine k_fun lcheck_tab rfl ?_
  unfold lcheck_c
  change WC _ _ (TA.put (some _) TA.e 0) _ _ _
  refine k_seq (k_reg (r_op (o_mov ev_c) rfl (r_nil (k_seq (k_seq (k_reg (m1 (z1 rfl get_same) (r_op (o_len_str (ev_t ds)) rfl ?_))))))))
  by_cases hs1 : (((s.length : Nat) : Int) < 1)
  · refine r_op (dec_t (o_lss (ev_t ds) ev_c) hs1) rfl (m1 ds (r_off (want_not ds rfl) (r_off (want_not (z1 rfl ds) rfl) (r_off (want_not (z2 rfl ds) rfl) (r_op (o_pick_t (ev_t (z1 rfl (z2 rfl ds))) ev_c) rfl (m1 ds (r_off (want_not ds rfl) (r_off (want_not (z1 rfl ds) rfl) (r_off (want_not (z2 rfl ds) rfl) (r_op (o_pick_t (ev_t (z1 rfl (z2 rfl ds))) ev_c) rfl (r_nil (k_cond_t (ev_t ds) (k_seq (k_reg (r_op (o_mov ev_c) rfl (r_nil (k_ret ?_)))))))))))))))))
    exact ⟨_, ans_tmp ds, _, rfl, .inr ⟨rfl, fun hv => by obtain ⟨h1_, h2_, h3_⟩ := hv; first | omega | exact absurd (htr.2 h3_) (by assumption)⟩, by omega, Keep.refl _ _ _⟩
  refine r_op (dec_f (o_lss (ev_t ds) ev_c) hs1) rfl (m1 ds (r_op (o_mov (ev_t (z1 rfl (z4 rfl get_same)))) (want_on ds) (r_op (o_len_str (ev_t ds)) (want_on (z1 rfl ds)) ?_)))
  by_cases hs2 : (256 < ((s.length : Nat) : Int))
  · refine r_op (dec_t (o_gtr (ev_t ds) ev_c) hs2) (want_on (z2 rfl ds)) (r_op (o_pick_f (ev_t (z1 rfl (z2 rfl ds))) (ev_t ds)) rfl (m1 ds (r_off (want_not ds rfl) (r_off (want_not (z1 rfl ds) rfl) (r_off (want_not (z2 rfl ds) rfl) (r_op (o_pick_t (ev_t (z1 rfl (z2 rfl ds))) ev_c) rfl (r_nil (k_cond_t (ev_t ds) (k_seq (k_reg (r_op (o_mov ev_c) rfl (r_nil (k_ret ?_)))))))))))))
    exact ⟨_, ans_tmp ds, _, rfl, .inr ⟨rfl, fun hv => by obtain ⟨h1_, h2_, h3_⟩ := hv; first | omega | exact absurd (htr.2 h3_) (by assumption)⟩, by omega, Keep.refl _ _ _⟩
  refine r_op (dec_f (o_gtr (ev_t ds) ev_c) hs2) (want_on (z2 rfl ds)) (r_op (o_pick_f (ev_t (z1 rfl (z2 rfl ds))) (ev_t ds)) rfl (m1 ds (r_op (o_mov (ev_t (z2 rfl (z8 rfl get_same)))) (want_on ds) (r_call (w_callF (evs_cons (ev_t ds) (evs_cons ev_c evs_nil))) (want_on (z1 rfl ds)) (WF.mono (trim_ok s h hl) ?_)))))
  rintro _ t3 n4 ⟨rfl, hnt, hkt⟩
  by_cases hs5 : ((trimN s [48, 49, 120, 122]) = [])
  · refine r_op (ndec_f (o_str_neq (ev_t ds) ev_c) hs5) (want_on (z2 rfl ds)) (r_op (o_pick_f (ev_t (z1 rfl (z2 rfl ds))) (ev_t ds)) rfl (r_nil (k_cond_f (ev_t ds) (k_skip (k_seq (k_reg (r_op (o_mov ev_c) rfl (r_nil (k_ret ?_)))))))))
    exact ⟨_, ans_tmp ds, _, rfl, .inl ⟨rfl, by omega, by omega, htr.1 (by assumption)⟩, by omega, Keep.trans (Keep.refl _ _ _) hkt (by omega) (fun d _ h => h)⟩
  refine r_op (ndec_t (o_str_neq (ev_t ds) ev_c) hs5) (want_on (z2 rfl ds)) (r_op (o_pick_f (ev_t (z1 rfl (z2 rfl ds))) (ev_t ds)) rfl (r_nil (k_cond_t (ev_t ds) (k_seq (k_reg (r_op (o_mov ev_c) rfl (r_nil (k_ret ?_))))))))
  exact ⟨_, ans_tmp ds, _, rfl, .inr ⟨rfl, fun hv => by obtain ⟨h1_, h2_, h3_⟩ := hv; first | omega | exact absurd (htr.2 h3_) (by assumption)⟩, by omega, Keep.trans (Keep.refl _ _ _) hkt (by omega) (fun d _ h => h)⟩
end Go.Proofs.YtpjohgnhmjceiaaGreatDoor.WX

set_option linter.all false
set_option linter.unusedVariables false
set_option linter.unusedSectionVars false
set_option maxRecDepth 100000
open Go Go.Proofs.YtpjohgnhmjceiaaGreatDoor.AX Go.Proofs
namespace Go.Proofs.YtpjohgnhmjceiaaGreatDoor.WX
variable [Env]
theorem RowI.cell {t : TB} {bd : Nat} {v : AV} {l : List Int} (h : RowI t bd v l) : isCell v = true := by
  rcases h with ⟨rfl, -⟩ | ⟨d, o, c, ex, wr, r, rfl, -⟩ <;> rfl
theorem wdN_range {ns : List Nd} {l : List Int} (hin : ∀ k ∈ l, 0 ≤ k ∧ k < (ns.length : Int)) (hwd : ∀ y ∈ ns, 1 ≤ y.wide ∧ y.wide ≤ 256) : ∀ a ∈ l.map (wdN ns), 1 ≤ a ∧ a ≤ 256 := by
  intro a ha
  obtain ⟨k, hk, rfl⟩ := List.mem_map.1 ha
  have h := hin k hk
  obtain ⟨y, hy⟩ := some_at (l := ns) (i := k.toNat) (by omega)
  have e : wdN ns k = y.wide := by unfold wdN; rw [hy]
  rw [e]
  exact hwd y (List.mem_of_getElem? hy)
theorem ws_at {ns : List Nd} {l ws : List Int} {i : Nat} {k : Int} {y : Nd} (hws : ws = l.map (wdN ns)) (hk : l[i]? = some k) (h0 : 0 ≤ k) (hy : ns[k.toNat]? = some y) : ws[i]? = some y.wide := by
  subst hws
  rw [List.getElem?_map, hk]
  show some (wdN ns k) = _
  unfold wdN
  rw [hy]
theorem take_one {ws : List Int} {i : Nat} {a : Int} (h : ws[i]? = some a) (hi : i = 0) : ints (ws.take (i + 1)) = [.int .i64 a] := by
  subst hi
  cases ws with
  | nil => simp at h
  | cons b l => simp at h; subst h; rfl
theorem take_more {ws : List Int} {i : Nat} {a : Int} (h : ws[i]? = some a) : ws.take (i + 1) = ws.take i ++ [a] := by
  rw [List.take_succ, h]; rfl
theorem ints_cell (l : List Int) : allCell (ints l) = true := by
  rw [allCell_iff]; intro a ha; obtain ⟨k, -, rfl⟩ := List.mem_map.1 ha; rfl
theorem nodeN_get {r ivs : List AV} {o i j q : Nat} {ns : List Nd} {x : Nd} {iv v : AV} (h : (r.drop o).take (ns.length * 8) = flatN ns ivs) (hl : ivs.length = ns.length) (hx : ns[i]? = some x) (hv : ivs[i]? = some iv) (hj : j < 8) (e : q = o + (i * 8 + j)) (hc : (ncells x iv)[j]? = some v) : r[q]? = some v := by
  subst e
  have hi : i < ns.length := by
    rcases Nat.lt_or_ge i ns.length with h' | h'
    · exact h'
    · rw [List.getElem?_eq_none h'] at hx; cases hx
  have e := congrArg (fun m => m[i * 8 + j]?) h
  simp only [List.getElem?_take, List.getElem?_drop] at e
  rw [if_pos (by omega), flatN_get hx hv hj, hc] at e
  exact e
/-- A node without what its kind uses. -/
def Bare (x : Nd) (op : Int) (vl : List Nat) (hi lo tm : Int) : Prop :=
  (op = if x.kind = 3 then 0 else x.op) ∧ (vl = if x.kind = 1 then [] else x.value) ∧ ((x.kind = 3 ∧ x.op = 4 ∧ hi = 0 ∧ lo = 0) ∨ (¬ (x.kind = 3 ∧ x.op = 4) ∧ hi = x.hi ∧ lo = x.lo)) ∧ (tm = if x.kind = 8 then 0 else x.time)
theorem Bare.zero {x : Nd} {op : Int} {vl : List Nat} {hi lo tm : Int} (h : Bare x op vl hi lo tm) : zeroP x ↔ op = 0 ∧ vl = [] ∧ hi = 0 ∧ lo = 0 ∧ tm = 0 := by
  obtain ⟨rfl, rfl, h3, rfl⟩ := h
  unfold zeroP
  constructor
  · rintro ⟨h1, h2, h4, h5⟩
    refine ⟨?_, ?_, ?_, ?_, ?_⟩
    · split <;> omega
    · split
      · rfl
      · rcases h2 with h2 | h2
        · omega
        · exact h2
    · omega
    · omega
    · split <;> omega
  · rintro ⟨h1, h2, h4, h5, h6⟩
    refine ⟨?_, ?_, ?_, ?_⟩
    · split at h1 <;> omega
    · split at h2
      · exact .inl (by omega)
      · exact .inr h2
    · omega
    · split at h6 <;> omega
theorem operA_eq {x : Nd} {w : List Int} {r : Int} (h : OperA x w r) (e : r = x.wide) (hx : 1 ≤ x.wide ∧ x.wide ≤ 256) (hw : ∀ a ∈ w, 1 ≤ a ∧ a ≤ 256) : operW x w = x.wide := by
  by_cases h5 : x.op = 5
  · have h1 := h.1 h5
    have h2 := sum_le hw
    unfold operW
    rw [if_neg (by omega), if_neg (by omega), if_neg (by omega), if_neg (by omega), if_neg (by omega), if_neg (by omega), if_neg (by omega), if_neg (by omega), if_pos h5]
    rw [if_pos]
    · omega
    · refine ⟨?_, by omega⟩
      cases w with
      | nil => simp at h1; omega
      | cons a l => simp
  · rcases h.2 h5 with h1 | ⟨h1, -⟩ <;> omega
theorem operA_eq2 {x : Nd} {w : List Int} {r : Int} (h : OperA x w r) (e : operW x w = x.wide) (hx : 1 ≤ x.wide ∧ x.wide ≤ 256) : r = x.wide := by
  by_cases h5 : x.op = 5
  · have h1 := h.1 h5
    unfold operW at e
    rw [if_neg (by omega), if_neg (by omega), if_neg (by omega), if_neg (by omega), if_neg (by omega), if_neg (by omega), if_neg (by omega), if_neg (by omega), if_pos h5] at e
    split at e <;> omega
  · rcases h.2 h5 with h1 | ⟨h1, h2⟩ <;> omega
section
variable {w : List Int} {x : Nd}
theorem nodeP1 (h : x.kind = 1) : nodeP w x ↔ w = [] ∧ isV x.value ∧ (x.value.length : Int) = x.wide := by
  unfold nodeP; rw [h]; simp
theorem nodeP2 (h : x.kind = 2) : nodeP w x ↔ w = [] := by unfold nodeP; rw [h]; simp
theorem nodeP3 (h : x.kind = 3) : nodeP w x ↔ operW x w = x.wide := by unfold nodeP; rw [h]; simp
theorem nodeP4 (h : x.kind = 4) : nodeP w x ↔ ∃ a, w = [a, x.wide, x.wide] := by unfold nodeP; rw [h]; simp
theorem nodeP5 (h : x.kind = 5) : nodeP w x ↔ (∃ a, w = [a, a]) ∧ x.wide = 1 := by unfold nodeP; rw [h]; simp
theorem nodeP6 (h : x.kind = 6) : nodeP w x ↔ ∃ a, w = [a] := by unfold nodeP; rw [h]; simp
theorem nodeP7 (h : x.kind = 7) : nodeP w x ↔ ∃ a, w = [a, x.wide] := by unfold nodeP; rw [h]; simp
theorem nodeP8 (h : x.kind = 8) : nodeP w x ↔ w = [x.wide] ∧ 1 ≤ x.time ∧ x.time ≤ 1048576 := by unfold nodeP; rw [h]; simp
theorem nodeP0 (h : ¬ (1 ≤ x.kind ∧ x.kind ≤ 8)) : nodeP w x ↔ False := by
  refine ⟨fun hn => ?_, False.elim⟩
  rcases hn with h1 | h1 | h1 | h1 | h1 | h1 | h1 | h1 <;> have := h1.1 <;> omega
end

set_option maxHeartbeats 16000000 in
theorem may_ok {t : TB} {nx bd : Nat} (x : Nd) (vn vt iv : AV) (p : Int) (ns : List Nd) (hN : RowN t bd vn ns) (hI : RowI t bd iv x.ins) (hb : bd ≤ nx) (hc : isCell vn = true ∧ isCell vt = true) (hin : ∀ k ∈ x.ins, 0 ≤ k ∧ k < (ns.length : Int)) (hwd : ∀ y ∈ ns, 1 ≤ y.wide ∧ y.wide ≤ 256) (hxw : 1 ≤ x.wide ∧ x.wide ≤ 256) (hl : x.ins.length < 60000) (hv256 : ∀ c ∈ x.value, c < 256) (hvl : x.value.length ≤ 9223372036854775807) :
    WF tb 103 [.agg [vn, vt, .int .i64 p], .agg (ncells x iv)] t nx (fun v t' nx' => ∃ b : Bool, v = .bool b ∧ (b = true ↔ ndOK (x.ins.map (wdN ns)) x) ∧ nx ≤ nx' ∧ Keep t t' nx (fun _ => False)) := by
  have hic := hI.cell
  unfold ncells
  obtain ⟨ws, hws⟩ : ∃ ws, ws = x.ins.map (wdN ns) := ⟨_, rfl⟩
  have hwl : ws.length = x.ins.length := by rw [hws]; simp
  have hwr := wdN_range hin hwd
  rw [← hws] at hwr ⊢
  refine k_fun may_tab rfl ?_
  unfold may_c
  change WC _ _ (TA.put (some _) (TA.put (some _) TA.e 0) 1) _ _ _
  refine k_seq (k_reg (r_heap (o_box (ev_t (get_other rfl get_same))) rfl (fun t1 (hh2 : hv t1 = upd (hv t) nx (some (.row [vn, vt, (.int .i64 p)] true))) => r_heap (o_box (ev_t (z1 rfl get_same))) rfl (fun t3 (hh4 : hv t3 = upd (hv t1) (nx + 1) (some (.row [(.int .i64 x.kind), (.int .i64 x.op), (.int .i64 x.wide), iv, (.str x.value), (.int .i64 x.hi), (.int .i64 x.lo), (.int .i64 x.time)] true))) => r_op (o_mov ev_c) rfl (r_nil (k_seq (k_reg (r_op (o_mov ev_c) rfl (r_nil (k_seq (k_seq (k_reg (r_op (o_faddr (off := 3) (ev_t (z2 rfl ds))) rfl (r_op (o_load (ev_t ds) (look_same hh4) rfl) rfl (r_op (o_len_I hI (ev_t ds)) rfl (r_op (o_mov ev_c) rfl (r_nil (k_block (k_loop (fun mm Tv tv nv => ∃ (i : Nat) (wv : AV), i ≤ x.ins.length ∧ ((i = 0 ∧ wv = .nslice) ∨ ∃ d, wv = .slice d 0 i i 1 false ∧ hv tv d = some (.row (ints (ws.take i)) true) ∧ nx + 1 < d ∧ d < nv) ∧ Tv.get 2 = some (.ptr nx 0) ∧ Tv.get 3 = some (.ptr (nx + 1) 0) ∧ Tv.get 5 = some wv ∧ Tv.get 11 = some iv ∧ Tv.get 12 = some (.int .i64 ((x.ins.length : Nat) : Int)) ∧ Tv.get 13 = some (.int .i64 (i : Int)) ∧ hv tv nx = some (.row [vn, vt, .int .i64 p] true) ∧ hv tv (nx + 1) = some (.row [(.int .i64 x.kind), (.int .i64 x.op), (.int .i64 x.wide), iv, (.str x.value), (.int .i64 x.hi), (.int .i64 x.lo), (.int .i64 x.time)] true) ∧ nx + 2 ≤ nv ∧ Keep t tv nx (fun _ => False) ∧ mm + i = x.ins.length) (fun mm Tv tv nv hI => ?_) (x.ins.length) ⟨0, .nslice, by omega, .inl ⟨rfl, rfl⟩, (z1 rfl (z2 rfl (z4 rfl ds))), (z2 rfl (z4 rfl ds)), (z4 rfl ds), (z2 rfl ds), (z1 rfl ds), ds, (look_ne hh4 (by omega) (look_same hh2)), (look_same hh4), by omega, Keep.upd (Keep.upd (Keep.refl _ _ _) hh2 (.inl (by omega))) hh4 (.inl (by omega)), by omega⟩)))))))))))))))))))
  obtain ⟨i, wv, hi, hwv, q2, q3, q5, q11, q12, q13, hr2, hr3, hnv, hkp, hmm⟩ := hI
  refine k_seq (k_reg (r_op (o_lss (ev_t q13) (ev_t q12)) rfl (r_nil (k_seq ?_))))
  refine k_cond (ev_t ds) (fun hc5 => ?_) (fun hc5 => ?_)
  · replace hc5 := of_decide_eq_true hc5
    refine k_skip (k_seq (k_block (k_seq ?_)))
    rcases hI with ⟨-, h0⟩ | ⟨di, oi, ci, exi, wri, ri, hie, hdi, hri, hrli, hsegi⟩
    · have h_ := congrArg List.length h0; simp only [List.length_nil] at h_; omega
    subst hie
    have hri1 := hkp.look (by omega) id hri
    obtain ⟨k, hk⟩ := some_at (l := x.ins) (i := i) (by omega)
    have hkr := hin k (List.mem_of_getElem? hk)
    refine k_reg (r_op (o_iaddr (i := i) (ev_t (z1 rfl q11)) (ev_t (z1 rfl q13)) (by omega)) rfl ?_)
    refine r_op (o_load (ev_t ds) hri1 (by rw [Nat.mul_one]; exact rowI_get (i := i) hsegi hk)) rfl ?_
    refine m1 ds (r_nil ?_)
    rcases hN with ⟨-, h0⟩ | ⟨dn, on, cn, exn, wrn, rn, ivs, hne, hdn, hrn, hrln, hsegn, hivl, hivr⟩
    · exfalso; rw [h0] at hkr; simp at hkr; omega
    subst hne
    have hrn1 := hkp.look (by omega) id hrn
    obtain ⟨y, hy⟩ := some_at (l := ns) (i := k.toNat) (by omega)
    obtain ⟨jy, hjy⟩ := some_at (l := ivs) (i := k.toNat) (by omega)
    have hwk := ws_at hws hk (by omega) hy
    rcases hwv with ⟨hi0, hwe⟩ | ⟨d, hwe, hdr, hd1, hd2⟩
    · subst hwe
      refine k_reg (m1 (z4 rfl q5) (r_op (o_faddr (off := 0) (ev_t (z1 rfl (z4 rfl q2)))) rfl (r_op (o_load (ev_t ds) hr2 rfl) rfl (m1 (z1 rfl (z2 rfl ds)) (r_op (o_iaddr (i := (k).toNat) (ev_t (z1 rfl ds)) (ev_cast (ev_t ds) (by omega)) (by omega)) rfl (r_op (o_faddr (off := 2) (ev_t ds)) rfl (r_op (o_load (ev_t ds) hrn1 (nodeN_get (j := 2) hsegn hivl hy hjy (by decide) (by omega) rfl)) rfl (r_heap (o_bslice (fill_cons (ev_t ds) rfl rfl fill_nil)) rfl (fun t6 (hh7 : hv t6 = upd (hv tv) nv (some (.row [(.int .i64 y.wide)] true))) => ?_)))))))))
      refine r_heap (o_appE (ev_t (z1 rfl (z2 rfl (z4 rfl ds)))) (ev_t ds) (app_nil (cs := ints (ws.take (i + 1))) rfl (by rw [take_one hwk hi0]; exact (src_row (k := 1) (look_same hh7) (leb rfl))) (ints_cell _) (by decide) (by decide))) rfl (fun tq (hq : hv tq = upd (hv t6) (nv + 1) (some (.row (ints (ws.take (i + 1))) true))) => ?_)
      refine m1 ds (r_nil (k_reg (r_op (o_add (ev_t (z2 rfl (z4 rfl (z8 rfl q13)))) ev_c (by omega) (by omega)) rfl (m1 ds (r_nil ?_)))))
      exact ⟨mm - 1, by omega, i + 1, _, by omega, .inr ⟨(nv + 1), by rw [hi0], (look_same hq), by omega, by omega⟩, (z8 rfl (z8 rfl q2)), (z8 rfl (z8 rfl q3)), (z2 rfl ds), (z8 rfl (z8 rfl q11)), (z8 rfl (z8 rfl q12)), ds, (look_ne hq (by omega) (look_ne hh7 (by omega) hr2)), (look_ne hq (by omega) (look_ne hh7 (by omega) hr3)), by omega, Keep.upd (Keep.upd (hkp) hh7 (.inl (by omega))) hq (.inl (by omega)), by omega⟩
    subst hwe
    refine k_reg (m1 (z4 rfl q5) (r_op (o_faddr (off := 0) (ev_t (z1 rfl (z4 rfl q2)))) rfl (r_op (o_load (ev_t ds) hr2 rfl) rfl (m1 (z1 rfl (z2 rfl ds)) (r_op (o_iaddr (i := (k).toNat) (ev_t (z1 rfl ds)) (ev_cast (ev_t ds) (by omega)) (by omega)) rfl (r_op (o_faddr (off := 2) (ev_t ds)) rfl (r_op (o_load (ev_t ds) hrn1 (nodeN_get (j := 2) hsegn hivl hy hjy (by decide) (by omega) rfl)) rfl (r_heap (o_bslice (fill_cons (ev_t ds) rfl rfl fill_nil)) rfl (fun t8 (hh9 : hv t8 = upd (hv tv) nv (some (.row [(.int .i64 y.wide)] true))) => ?_)))))))))
    refine r_heap (o_appE (ev_t (z1 rfl (z2 rfl (z4 rfl ds)))) (ev_t ds) (app_new_f (k := 1) (cs := [.int .i64 y.wide]) rfl (src_row (k := 1) (look_same hh9) (leb rfl)) rfl (look_ne hh9 (by omega) hdr) (by rw [ints_len, List.length_take]; omega) (by omega) (by omega))) rfl (fun tq ⟨tp, hp, hq⟩ => ?_)
    refine m1 ds (r_nil ?_)
    rw [Nat.mul_one, whole (by rw [ints_len, List.length_take]; omega), ints_snoc, ← take_more hwk] at hq
    refine k_reg (r_op (o_add (ev_t (z2 rfl (z4 rfl (z8 rfl q13)))) ev_c (by omega) (by omega)) rfl (m1 ds (r_nil ?_)))
    exact ⟨mm - 1, by omega, i + 1, _, by omega, .inr ⟨(nv + 1), rfl, (look_same hq), by omega, by omega⟩, (z8 rfl (z8 rfl q2)), (z8 rfl (z8 rfl q3)), (z2 rfl ds), (z8 rfl (z8 rfl q11)), (z8 rfl (z8 rfl q12)), ds, (look_ne hq (by omega) (look_ne hp (by omega) (look_ne hh9 (by omega) hr2))), (look_ne hq (by omega) (look_ne hp (by omega) (look_ne hh9 (by omega) hr3))), by omega, Keep.upd (Keep.upd (Keep.upd (hkp) hh9 (.inl (by omega))) hp (.inl (by omega))) hq (.inl (by omega)), by omega⟩
  replace hc5 := of_decide_eq_false hc5
  refine k_exit (exK_same (k_seq ?_))
  have hW : RowI tv nv wv ws := by
    rcases hwv with ⟨h0, hwe⟩ | ⟨d, hwe, hdr, hd1, hd2⟩
    · exact .inl ⟨hwe, List.eq_nil_of_length_eq_zero (by omega)⟩
    have e_ : ws.length = i := by omega
    rw [List.take_of_length_le (by omega)] at hdr
    exact .inr ⟨d, 0, i, false, true, ints ws, by rw [hwe, e_], hd2, hdr, by rw [ints_len]; omega, by rw [← ints_len ws]; exact whole rfl⟩
  refine k_reg (r_op (o_loadA (n := 8) (ev_t (z1 rfl q3)) hr3 (leb rfl) rfl) rfl (r_heap (o_alloc) rfl (fun t10 (hh11 : hv t10 = upd (hv tv) nv (some (.row [(.int .i64 0), (.int .i64 0), (.int .i64 0), .nslice, (.str []), (.int .i64 0), (.int .i64 0), (.int .i64 0)] true))) => r_heap (o_store (n := 8) (ev_t ds) (ev_t (z1 rfl ds)) (look_same hh11) rfl (ncells_cell x hic) (leb rfl)) rfl (fun t12 (hh13 : hv t12 = upd (hv t10) nv (some (.row [(.int .i64 x.kind), (.int .i64 x.op), (.int .i64 x.wide), iv, (.str x.value), (.int .i64 x.hi), (.int .i64 x.lo), (.int .i64 x.time)] true))) => r_nil (k_seq (k_reg (r_op (o_faddr (off := 3) (ev_t (z1 rfl ds))) rfl (r_heap (o_store (n := 1) (ev_t ds) ev_c (look_same hh13) rfl rfl (leb rfl)) rfl (fun t14 (hh15 : hv t14 = upd (hv t12) nv (some (.row [(.int .i64 x.kind), (.int .i64 x.op), (.int .i64 x.wide), .nslice, (.str x.value), (.int .i64 x.hi), (.int .i64 x.lo), (.int .i64 x.time)] true))) => r_op (o_faddr (off := 2) (ev_t (z1 rfl (z2 rfl ds)))) rfl (r_heap (o_store (n := 1) (ev_t ds) ev_c (look_same hh15) rfl rfl (leb rfl)) rfl (fun t16 (hh17 : hv t16 = upd (hv t14) nv (some (.row [(.int .i64 x.kind), (.int .i64 x.op), (.int .i64 0), .nslice, (.str x.value), (.int .i64 x.hi), (.int .i64 x.lo), (.int .i64 x.time)] true))) => r_op (o_faddr (off := 0) (ev_t (z1 rfl (z4 rfl ds)))) rfl (r_heap (o_store (n := 1) (ev_t ds) ev_c (look_same hh17) rfl rfl (leb rfl)) rfl (fun t18 (hh19 : hv t18 = upd (hv t16) nv (some (.row [(.int .i64 0), (.int .i64 x.op), (.int .i64 0), .nslice, (.str x.value), (.int .i64 x.hi), (.int .i64 x.lo), (.int .i64 x.time)] true))) => ?_)))))))))))))
  refine r_nil (k_seq (k_reg (r_op (o_mov ev_c) rfl (r_nil (k_seq (k_seq (k_reg (r_op (o_faddr (off := 0) (ev_t (z1 rfl (z2 rfl (z8 rfl q3))))) rfl (r_op (o_load (ev_t ds) (look_ne hh19 (by omega) (look_ne hh17 (by omega) (look_ne hh15 (by omega) (look_ne hh13 (by omega) (look_ne hh11 (by omega) hr3))))) rfl) rfl (r_nil ?_))))))))))
  refine k_cut (fun Ty ty ny => ∃ (okb : Bool) (op2 hi2 lo2 tm2 : Int) (vl2 : List Nat) (bb : Nat), Ty.get 9 = some (.bool okb) ∧ (okb = true ↔ nodeP ws x) ∧ Ty.get 8 = some (.ptr bb 0) ∧ hv ty bb = some (.row [.int .i64 0, .int .i64 op2, .int .i64 0, .nslice, .str vl2, .int .i64 hi2, .int .i64 lo2, .int .i64 tm2] true) ∧ Bare x op2 vl2 hi2 lo2 tm2 ∧ nx ≤ ny ∧ Keep t ty nx (fun _ => False)) ?_ ?_
  · refine k_block (k_seq (k_reg (r_op (o_eql (ev_t ds) ev_c) rfl (m1 ds (r_nil ?_)))))
    refine k_cond (ev_t ds) (fun hc20 => ?_) (fun hc20 => ?_)
    · replace hc20 := of_decide_eq_true hc20
      refine k_seq (k_reg (m1 (z1 rfl (z2 rfl (z4 rfl (z8 rfl q5)))) (r_op (o_len_I hW (ev_t ds)) rfl ?_)))
      by_cases hs21 : (((ws.length : Nat) : Int) = 0)
      · have hwe := len0 hs21
        refine r_op (dec_t (o_eql (ev_t ds) ev_c) hs21) rfl (m1 ds (r_op (o_faddr (off := 4) (ev_t (z1 rfl (z2 rfl (z8 rfl (z8 rfl q3)))))) (want_on ds) (r_op (o_load (ev_t ds) (look_ne hh19 (by omega) (look_ne hh17 (by omega) (look_ne hh15 (by omega) (look_ne hh13 (by omega) (look_ne hh11 (by omega) hr3))))) rfl) (want_on (z1 rfl ds)) (r_call (w_callF (evs_cons (ev_t ds) evs_nil)) (want_on (z2 rfl ds)) (WF.mono (lcheck_ok x.value hv256 hvl) ?_)))))
        rintro _ t22 n23 ⟨rl, rfl, hrl, hnl, hkl⟩
        by_cases hs24 : (rl = 0)
        · refine r_op (dec_t (o_eql (ev_t ds) ev_c) hs24) (want_on (z1 rfl (z2 rfl ds))) (r_op (o_pick_t (ev_t (z4 rfl ds)) (ev_t ds)) rfl (m1 ds (r_op (o_faddr (off := 4) (ev_t (z1 rfl (z8 rfl (z8 rfl (z8 rfl q3)))))) (want_on ds) (r_op (o_load (ev_t ds) (Keep.look hkl (by omega) id (look_ne hh19 (by omega) (look_ne hh17 (by omega) (look_ne hh15 (by omega) (look_ne hh13 (by omega) (look_ne hh11 (by omega) hr3)))))) rfl) (want_on (z1 rfl ds)) (r_op (o_len_str (ev_t ds)) (want_on (z2 rfl ds)) (r_op (o_faddr (off := 2) (ev_t (z4 rfl (z8 rfl (z8 rfl (z8 rfl q3)))))) (want_on (z1 rfl (z2 rfl ds))) (r_op (o_load (ev_t ds) (Keep.look hkl (by omega) id (look_ne hh19 (by omega) (look_ne hh17 (by omega) (look_ne hh15 (by omega) (look_ne hh13 (by omega) (look_ne hh11 (by omega) hr3)))))) rfl) (want_on (z4 rfl ds)) ?_)))))))
          by_cases hs25 : (((x.value.length : Nat) : Int) = x.wide)
          · refine r_op (dec_t (o_eql (ev_t (z2 rfl ds)) (ev_t ds)) hs25) (want_on (z1 rfl (z4 rfl ds))) (r_op (o_pick_t (ev_t (z2 rfl (z4 rfl ds))) (ev_t ds)) rfl (m1 ds (r_nil (k_reg (r_op (o_faddr (off := 4) (ev_t (z2 rfl (z4 rfl (z8 rfl (z8 rfl (z8 rfl ds))))))) rfl (r_heap (o_store (n := 1) (ev_t ds) ev_c (Keep.look hkl (by omega) id (look_same hh19)) rfl rfl (leb rfl)) rfl (fun t26 (hh27 : hv t26 = upd (hv t22) nv (some (.row [(.int .i64 0), (.int .i64 x.op), (.int .i64 0), .nslice, (.str []), (.int .i64 x.hi), (.int .i64 x.lo), (.int .i64 x.time)] true))) => r_nil ?_)))))))
            have hfin : ((true : Bool) = true ↔ nodeP ws x) := by
              rw [nodeP1 (by omega)]
              refine ⟨fun _ => ?_, fun _ => rfl⟩
              exact ⟨hwe, hrl.elim (fun h => h.2) (fun h => by exfalso; omega), by omega⟩
            exact ⟨_, x.op, x.hi, x.lo, x.time, [], nv, (z2 rfl ds), hfin, (z8 rfl (z8 rfl (z8 rfl (z8 rfl ds)))), (look_same hh27), (by unfold Bare; refine ⟨?_, ?_, ?_, ?_⟩ <;> first | omega | (split <;> first | rfl | omega)), by omega, Keep.upd (Keep.trans (Keep.upd (Keep.upd (Keep.upd (Keep.upd (Keep.upd (hkp) hh11 (.inl (by omega))) hh13 (.inl (by omega))) hh15 (.inl (by omega))) hh17 (.inl (by omega))) hh19 (.inl (by omega))) hkl (by omega) (fun d _ h => h)) hh27 (.inl (by omega))⟩
          refine r_op (dec_f (o_eql (ev_t (z2 rfl ds)) (ev_t ds)) hs25) (want_on (z1 rfl (z4 rfl ds))) (r_op (o_pick_t (ev_t (z2 rfl (z4 rfl ds))) (ev_t ds)) rfl (m1 ds (r_nil (k_reg (r_op (o_faddr (off := 4) (ev_t (z2 rfl (z4 rfl (z8 rfl (z8 rfl (z8 rfl ds))))))) rfl (r_heap (o_store (n := 1) (ev_t ds) ev_c (Keep.look hkl (by omega) id (look_same hh19)) rfl rfl (leb rfl)) rfl (fun t28 (hh29 : hv t28 = upd (hv t22) nv (some (.row [(.int .i64 0), (.int .i64 x.op), (.int .i64 0), .nslice, (.str []), (.int .i64 x.hi), (.int .i64 x.lo), (.int .i64 x.time)] true))) => r_nil ?_)))))))
          have hfin : ((false : Bool) = true ↔ nodeP ws x) := by
            rw [nodeP1 (by omega)]
            refine ⟨(fun h => by cases h), fun h_ => ?_⟩
            obtain ⟨h1_, h2_, h3_⟩ := h_
            have e_ : ((ws.length : Nat) : Int) = 0 := by rw [h1_]; rfl
            first | omega | (exact absurd h2_ (hrl.elim (fun e => by exfalso; omega) (fun e => e.2)))
          exact ⟨_, x.op, x.hi, x.lo, x.time, [], nv, (z2 rfl ds), hfin, (z8 rfl (z8 rfl (z8 rfl (z8 rfl ds)))), (look_same hh29), (by unfold Bare; refine ⟨?_, ?_, ?_, ?_⟩ <;> first | omega | (split <;> first | rfl | omega)), by omega, Keep.upd (Keep.trans (Keep.upd (Keep.upd (Keep.upd (Keep.upd (Keep.upd (hkp) hh11 (.inl (by omega))) hh13 (.inl (by omega))) hh15 (.inl (by omega))) hh17 (.inl (by omega))) hh19 (.inl (by omega))) hkl (by omega) (fun d _ h => h)) hh29 (.inl (by omega))⟩
        refine r_op (dec_f (o_eql (ev_t ds) ev_c) hs24) (want_on (z1 rfl (z2 rfl ds))) (r_op (o_pick_t (ev_t (z4 rfl ds)) (ev_t ds)) rfl (m1 ds (r_off (want_not ds rfl) (r_off (want_not (z1 rfl ds) rfl) (r_off (want_not (z2 rfl ds) rfl) (r_off (want_not (z1 rfl (z2 rfl ds)) rfl) (r_off (want_not (z4 rfl ds) rfl) (r_off (want_not (z1 rfl (z4 rfl ds)) rfl) (r_op (o_pick_f (ev_t (z2 rfl (z4 rfl ds))) ev_c) rfl (m1 ds (r_nil (k_reg (r_op (o_faddr (off := 4) (ev_t (z2 rfl (z4 rfl (z8 rfl (z8 rfl (z8 rfl ds))))))) rfl (r_heap (o_store (n := 1) (ev_t ds) ev_c (Keep.look hkl (by omega) id (look_same hh19)) rfl rfl (leb rfl)) rfl (fun t30 (hh31 : hv t30 = upd (hv t22) nv (some (.row [(.int .i64 0), (.int .i64 x.op), (.int .i64 0), .nslice, (.str []), (.int .i64 x.hi), (.int .i64 x.lo), (.int .i64 x.time)] true))) => r_nil ?_)))))))))))))))
        have hfin : ((false : Bool) = true ↔ nodeP ws x) := by
          rw [nodeP1 (by omega)]
          refine ⟨(fun h => by cases h), fun h_ => ?_⟩
          obtain ⟨h1_, h2_, h3_⟩ := h_
          have e_ : ((ws.length : Nat) : Int) = 0 := by rw [h1_]; rfl
          first | omega | (exact absurd h2_ (hrl.elim (fun e => by exfalso; omega) (fun e => e.2)))
        exact ⟨_, x.op, x.hi, x.lo, x.time, [], nv, (z2 rfl ds), hfin, (z8 rfl (z8 rfl (z8 rfl (z8 rfl ds)))), (look_same hh31), (by unfold Bare; refine ⟨?_, ?_, ?_, ?_⟩ <;> first | omega | (split <;> first | rfl | omega)), by omega, Keep.upd (Keep.trans (Keep.upd (Keep.upd (Keep.upd (Keep.upd (Keep.upd (hkp) hh11 (.inl (by omega))) hh13 (.inl (by omega))) hh15 (.inl (by omega))) hh17 (.inl (by omega))) hh19 (.inl (by omega))) hkl (by omega) (fun d _ h => h)) hh31 (.inl (by omega))⟩
      refine r_op (dec_f (o_eql (ev_t ds) ev_c) hs21) rfl (m1 ds (r_off (want_not ds rfl) (r_off (want_not (z1 rfl ds) rfl) (r_off (want_not (z2 rfl ds) rfl) (r_off (want_not (z1 rfl (z2 rfl ds)) rfl) (r_op (o_pick_f (ev_t (z4 rfl ds)) ev_c) rfl (m1 ds (r_off (want_not ds rfl) (r_off (want_not (z1 rfl ds) rfl) (r_off (want_not (z2 rfl ds) rfl) (r_off (want_not (z1 rfl (z2 rfl ds)) rfl) (r_off (want_not (z4 rfl ds) rfl) (r_off (want_not (z1 rfl (z4 rfl ds)) rfl) (r_op (o_pick_f (ev_t (z2 rfl (z4 rfl ds))) ev_c) rfl (m1 ds (r_nil (k_reg (r_op (o_faddr (off := 4) (ev_t (z2 rfl (z4 rfl (z8 rfl (z8 rfl (z8 rfl ds))))))) rfl (r_heap (o_store (n := 1) (ev_t ds) ev_c (look_same hh19) rfl rfl (leb rfl)) rfl (fun t32 (hh33 : hv t32 = upd (hv t18) nv (some (.row [(.int .i64 0), (.int .i64 x.op), (.int .i64 0), .nslice, (.str []), (.int .i64 x.hi), (.int .i64 x.lo), (.int .i64 x.time)] true))) => r_nil ?_))))))))))))))))))))
      have hfin : ((false : Bool) = true ↔ nodeP ws x) := by
        rw [nodeP1 (by omega)]
        refine ⟨(fun h => by cases h), fun h_ => ?_⟩
        obtain ⟨h1_, h2_, h3_⟩ := h_
        have e_ : ((ws.length : Nat) : Int) = 0 := by rw [h1_]; rfl
        first | omega | (exact absurd h2_ (hrl.elim (fun e => by exfalso; omega) (fun e => e.2)))
      exact ⟨_, x.op, x.hi, x.lo, x.time, [], nv, (z2 rfl ds), hfin, (z8 rfl (z8 rfl (z8 rfl (z8 rfl ds)))), (look_same hh33), (by unfold Bare; refine ⟨?_, ?_, ?_, ?_⟩ <;> first | omega | (split <;> first | rfl | omega)), by omega, Keep.upd (Keep.upd (Keep.upd (Keep.upd (Keep.upd (Keep.upd (hkp) hh11 (.inl (by omega))) hh13 (.inl (by omega))) hh15 (.inl (by omega))) hh17 (.inl (by omega))) hh19 (.inl (by omega))) hh33 (.inl (by omega))⟩
    replace hc20 := of_decide_eq_false hc20
    refine k_seq (k_reg (r_op (o_eql (ev_t (z2 rfl ds)) ev_c) rfl (m1 ds (r_nil ?_))))
    refine k_cond (ev_t ds) (fun hc34 => ?_) (fun hc34 => ?_)
    · replace hc34 := of_decide_eq_true hc34
      refine k_reg (m1 (z1 rfl (z8 rfl (z8 rfl q5))) (r_op (o_len_I hW (ev_t ds)) rfl ?_))
      by_cases hs35 : (((ws.length : Nat) : Int) = 0)
      · have hwe := len0 hs35
        refine r_op (dec_t (o_eql (ev_t ds) ev_c) hs35) rfl (m1 ds (r_nil ?_))
        have hfin : ((true : Bool) = true ↔ nodeP ws x) := by
          rw [nodeP2 (by omega)]
          refine ⟨fun _ => ?_, fun _ => rfl⟩
          exact hwe
        exact ⟨_, x.op, x.hi, x.lo, x.time, x.value, nv, ds, hfin, (z2 rfl (z8 rfl (z8 rfl ds))), (look_same hh19), (by unfold Bare; refine ⟨?_, ?_, ?_, ?_⟩ <;> first | omega | (split <;> first | rfl | omega)), by omega, Keep.upd (Keep.upd (Keep.upd (Keep.upd (Keep.upd (hkp) hh11 (.inl (by omega))) hh13 (.inl (by omega))) hh15 (.inl (by omega))) hh17 (.inl (by omega))) hh19 (.inl (by omega))⟩
      refine r_op (dec_f (o_eql (ev_t ds) ev_c) hs35) rfl (m1 ds (r_nil ?_))
      have hfin : ((false : Bool) = true ↔ nodeP ws x) := by
        rw [nodeP2 (by omega)]
        refine ⟨(fun h => by cases h), fun h_ => ?_⟩
        have h1_ := h_
        have e_ : ((ws.length : Nat) : Int) = 0 := by rw [h1_]; rfl
        first | omega | (rw [hwe] at h1_; simp only [List.cons.injEq, and_true, true_and] at h1_; omega)
      exact ⟨_, x.op, x.hi, x.lo, x.time, x.value, nv, ds, hfin, (z2 rfl (z8 rfl (z8 rfl ds))), (look_same hh19), (by unfold Bare; refine ⟨?_, ?_, ?_, ?_⟩ <;> first | omega | (split <;> first | rfl | omega)), by omega, Keep.upd (Keep.upd (Keep.upd (Keep.upd (Keep.upd (hkp) hh11 (.inl (by omega))) hh13 (.inl (by omega))) hh15 (.inl (by omega))) hh17 (.inl (by omega))) hh19 (.inl (by omega))⟩
    replace hc34 := of_decide_eq_false hc34
    refine k_seq (k_reg (r_op (o_eql (ev_t (z4 rfl ds)) ev_c) rfl (m1 ds (r_nil ?_))))
    refine k_cond (ev_t ds) (fun hc36 => ?_) (fun hc36 => ?_)
    · replace hc36 := of_decide_eq_true hc36
      refine k_seq (k_draw (e_op 0 rfl (o_loadA (n := 8) (ev_t (z1 rfl (z2 rfl (z8 rfl (z8 rfl q3))))) (look_ne hh19 (by omega) (look_ne hh17 (by omega) (look_ne hh15 (by omega) (look_ne hh13 (by omega) (look_ne hh11 (by omega) hr3))))) (leb rfl) rfl) rfl (e_op 1 rfl (o_mov (ev_t (z4 rfl (z8 rfl (z8 rfl q5))))) rfl (e_op 3 rfl (o_faddr (off := 2) (ev_t (z1 rfl (z4 rfl (z8 rfl (z8 rfl q3)))))) rfl (e_op 4 rfl (o_load (ev_t ds) (look_ne hh19 (by omega) (look_ne hh17 (by omega) (look_ne hh15 (by omega) (look_ne hh13 (by omega) (look_ne hh11 (by omega) hr3))))) rfl) rfl (d_call (ix := 2) (pr := [0, 1]) (d := (some 62)) (g := none) (F' := [(⟨4, [3], ⟨(some 64), none, (.op (.load (.t 63)))⟩⟩, (.int .i64 x.wide)), (⟨3, [], ⟨(some 63), none, (.op (.faddr (.t 3) 2))⟩⟩, (.ptr (nx + 1) 2))]) (w_callF (evs_cons (ev_t (z1 rfl (z2 rfl ds))) (evs_cons (ev_t (z2 rfl ds)) evs_nil))) rfl (by kernel_rfl) (by kernel_rfl) (by kernel_rfl) (by kernel_rfl) (WF.mono (operated_ok (bd := nv) x iv wv ws (hW.keep (Keep.upd (Keep.upd (Keep.upd (Keep.upd (Keep.upd (Keep.refl _ _ _) hh11 (.inl (by omega))) hh13 (.inl (by omega))) hh15 (.inl (by omega))) hh17 (.inl (by omega))) hh19 (.inl (by omega))) (Nat.le_refl _)) (by omega) hwr (by omega)) ?_)))))))
      rintro _ t37 n38 ⟨ro, rfl, hro, hno, hko⟩
      refine ⟨?_, ?_⟩
      · exact (all_cons_ (still_op rfl rfl (o_load (ev_t (z2 rfl ds)) (Keep.look hko (by omega) id (look_ne hh19 (by omega) (look_ne hh17 (by omega) (look_ne hh15 (by omega) (look_ne hh13 (by omega) (look_ne hh11 (by omega) hr3)))))) rfl) (aeq_flat rfl)) (all_cons_ (still_op rfl rfl (o_faddr (off := 2) (ev_t (z8 rfl (z8 rfl (z8 rfl q3))))) (aeq_flat rfl)) all_nil_))
      by_cases hs39 : (ro = x.wide)
      · refine e_op 5 rfl (dec_t (o_eql (ev_t ds) (ev_t (z1 rfl ds))) hs39) rfl (e_op 6 rfl (o_mov (ev_t ds)) rfl (e_done (k_seq (k_reg (r_op (o_faddr (off := 1) (ev_t (z1 rfl (z2 rfl (z4 rfl (z8 rfl (z8 rfl ds))))))) rfl (r_heap (o_store (n := 1) (ev_t ds) ev_c (Keep.look hko (by omega) id (look_same hh19)) rfl rfl (leb rfl)) rfl (fun t40 (hh41 : hv t40 = upd (hv t37) nv (some (.row [(.int .i64 0), (.int .i64 0), (.int .i64 0), .nslice, (.str x.value), (.int .i64 x.hi), (.int .i64 x.lo), (.int .i64 x.time)] true))) => r_nil (k_seq (k_reg (r_op (o_faddr (off := 1) (ev_t (z4 rfl (z8 rfl (z8 rfl (z8 rfl q3)))))) rfl (r_op (o_load (ev_t ds) (look_ne hh41 (by omega) (Keep.look hko (by omega) id (look_ne hh19 (by omega) (look_ne hh17 (by omega) (look_ne hh15 (by omega) (look_ne hh13 (by omega) (look_ne hh11 (by omega) hr3))))))) rfl) rfl (r_op (o_eql (ev_t ds) ev_c) rfl (r_nil ?_)))))))))))))
        refine k_cond (ev_t ds) (fun hc42 => ?_) (fun hc42 => ?_)
        · replace hc42 := of_decide_eq_true hc42
          refine k_reg (r_op (o_faddr (off := 5) (ev_t (z4 rfl (z8 rfl (z8 rfl (z8 rfl ds)))))) rfl (r_heap (o_store (n := 1) (ev_t ds) ev_c (look_same hh41) rfl rfl (leb rfl)) rfl (fun t43 (hh44 : hv t43 = upd (hv t40) nv (some (.row [(.int .i64 0), (.int .i64 0), (.int .i64 0), .nslice, (.str x.value), (.int .i64 0), (.int .i64 x.lo), (.int .i64 x.time)] true))) => r_op (o_faddr (off := 6) (ev_t (z2 rfl (z4 rfl (z8 rfl (z8 rfl (z8 rfl ds))))))) rfl (r_heap (o_store (n := 1) (ev_t ds) ev_c (look_same hh44) rfl rfl (leb rfl)) rfl (fun t45 (hh46 : hv t45 = upd (hv t43) nv (some (.row [(.int .i64 0), (.int .i64 0), (.int .i64 0), .nslice, (.str x.value), (.int .i64 0), (.int .i64 0), (.int .i64 x.time)] true))) => r_nil ?_)))))
          have hfin : ((true : Bool) = true ↔ nodeP ws x) := by
            rw [nodeP3 (by omega)]
            refine ⟨fun _ => ?_, fun _ => rfl⟩
            exact operA_eq hro (by omega) hxw hwr
          exact ⟨_, 0, 0, 0, x.time, x.value, nv, (z1 rfl (z8 rfl ds)), hfin, (z8 rfl (z8 rfl (z8 rfl (z8 rfl ds)))), (look_same hh46), (by unfold Bare; refine ⟨?_, ?_, ?_, ?_⟩ <;> first | omega | (split <;> first | rfl | omega)), by omega, Keep.upd (Keep.upd (Keep.upd (Keep.trans (Keep.upd (Keep.upd (Keep.upd (Keep.upd (Keep.upd (hkp) hh11 (.inl (by omega))) hh13 (.inl (by omega))) hh15 (.inl (by omega))) hh17 (.inl (by omega))) hh19 (.inl (by omega))) hko (by omega) (fun d _ h => h)) hh41 (.inl (by omega))) hh44 (.inl (by omega))) hh46 (.inl (by omega))⟩
        replace hc42 := of_decide_eq_false hc42
        refine k_skip ?_
        have hfin : ((true : Bool) = true ↔ nodeP ws x) := by
          rw [nodeP3 (by omega)]
          refine ⟨fun _ => ?_, fun _ => rfl⟩
          exact operA_eq hro (by omega) hxw hwr
        exact ⟨_, 0, x.hi, x.lo, x.time, x.value, nv, (z1 rfl (z4 rfl ds)), hfin, (z4 rfl (z8 rfl (z8 rfl (z8 rfl ds)))), (look_same hh41), (by unfold Bare; refine ⟨?_, ?_, ?_, ?_⟩ <;> first | omega | (split <;> first | rfl | omega)), by omega, Keep.upd (Keep.trans (Keep.upd (Keep.upd (Keep.upd (Keep.upd (Keep.upd (hkp) hh11 (.inl (by omega))) hh13 (.inl (by omega))) hh15 (.inl (by omega))) hh17 (.inl (by omega))) hh19 (.inl (by omega))) hko (by omega) (fun d _ h => h)) hh41 (.inl (by omega))⟩
      refine e_op 5 rfl (dec_f (o_eql (ev_t ds) (ev_t (z1 rfl ds))) hs39) rfl (e_op 6 rfl (o_mov (ev_t ds)) rfl (e_done (k_seq (k_reg (r_op (o_faddr (off := 1) (ev_t (z1 rfl (z2 rfl (z4 rfl (z8 rfl (z8 rfl ds))))))) rfl (r_heap (o_store (n := 1) (ev_t ds) ev_c (Keep.look hko (by omega) id (look_same hh19)) rfl rfl (leb rfl)) rfl (fun t47 (hh48 : hv t47 = upd (hv t37) nv (some (.row [(.int .i64 0), (.int .i64 0), (.int .i64 0), .nslice, (.str x.value), (.int .i64 x.hi), (.int .i64 x.lo), (.int .i64 x.time)] true))) => r_nil (k_seq (k_reg (r_op (o_faddr (off := 1) (ev_t (z4 rfl (z8 rfl (z8 rfl (z8 rfl q3)))))) rfl (r_op (o_load (ev_t ds) (look_ne hh48 (by omega) (Keep.look hko (by omega) id (look_ne hh19 (by omega) (look_ne hh17 (by omega) (look_ne hh15 (by omega) (look_ne hh13 (by omega) (look_ne hh11 (by omega) hr3))))))) rfl) rfl (r_op (o_eql (ev_t ds) ev_c) rfl (r_nil ?_)))))))))))))
      refine k_cond (ev_t ds) (fun hc49 => ?_) (fun hc49 => ?_)
      · replace hc49 := of_decide_eq_true hc49
        refine k_reg (r_op (o_faddr (off := 5) (ev_t (z4 rfl (z8 rfl (z8 rfl (z8 rfl ds)))))) rfl (r_heap (o_store (n := 1) (ev_t ds) ev_c (look_same hh48) rfl rfl (leb rfl)) rfl (fun t50 (hh51 : hv t50 = upd (hv t47) nv (some (.row [(.int .i64 0), (.int .i64 0), (.int .i64 0), .nslice, (.str x.value), (.int .i64 0), (.int .i64 x.lo), (.int .i64 x.time)] true))) => r_op (o_faddr (off := 6) (ev_t (z2 rfl (z4 rfl (z8 rfl (z8 rfl (z8 rfl ds))))))) rfl (r_heap (o_store (n := 1) (ev_t ds) ev_c (look_same hh51) rfl rfl (leb rfl)) rfl (fun t52 (hh53 : hv t52 = upd (hv t50) nv (some (.row [(.int .i64 0), (.int .i64 0), (.int .i64 0), .nslice, (.str x.value), (.int .i64 0), (.int .i64 0), (.int .i64 x.time)] true))) => r_nil ?_)))))
        have hfin : ((false : Bool) = true ↔ nodeP ws x) := by
          rw [nodeP3 (by omega)]
          refine ⟨(fun h => by cases h), fun h_ => ?_⟩
          exact absurd (operA_eq2 hro h_ hxw) (by omega)
        exact ⟨_, 0, 0, 0, x.time, x.value, nv, (z1 rfl (z8 rfl ds)), hfin, (z8 rfl (z8 rfl (z8 rfl (z8 rfl ds)))), (look_same hh53), (by unfold Bare; refine ⟨?_, ?_, ?_, ?_⟩ <;> first | omega | (split <;> first | rfl | omega)), by omega, Keep.upd (Keep.upd (Keep.upd (Keep.trans (Keep.upd (Keep.upd (Keep.upd (Keep.upd (Keep.upd (hkp) hh11 (.inl (by omega))) hh13 (.inl (by omega))) hh15 (.inl (by omega))) hh17 (.inl (by omega))) hh19 (.inl (by omega))) hko (by omega) (fun d _ h => h)) hh48 (.inl (by omega))) hh51 (.inl (by omega))) hh53 (.inl (by omega))⟩
      replace hc49 := of_decide_eq_false hc49
      refine k_skip ?_
      have hfin : ((false : Bool) = true ↔ nodeP ws x) := by
        rw [nodeP3 (by omega)]
        refine ⟨(fun h => by cases h), fun h_ => ?_⟩
        exact absurd (operA_eq2 hro h_ hxw) (by omega)
      exact ⟨_, 0, x.hi, x.lo, x.time, x.value, nv, (z1 rfl (z4 rfl ds)), hfin, (z4 rfl (z8 rfl (z8 rfl (z8 rfl ds)))), (look_same hh48), (by unfold Bare; refine ⟨?_, ?_, ?_, ?_⟩ <;> first | omega | (split <;> first | rfl | omega)), by omega, Keep.upd (Keep.trans (Keep.upd (Keep.upd (Keep.upd (Keep.upd (Keep.upd (hkp) hh11 (.inl (by omega))) hh13 (.inl (by omega))) hh15 (.inl (by omega))) hh17 (.inl (by omega))) hh19 (.inl (by omega))) hko (by omega) (fun d _ h => h)) hh48 (.inl (by omega))⟩
    replace hc36 := of_decide_eq_false hc36
    refine k_seq (k_reg (r_op (o_eql (ev_t (z2 rfl (z4 rfl ds))) ev_c) rfl (m1 ds (r_nil ?_))))
    refine k_cond (ev_t ds) (fun hc54 => ?_) (fun hc54 => ?_)
    · replace hc54 := of_decide_eq_true hc54
      refine k_draw (e_op 0 rfl (o_mov (ev_t (z1 rfl (z4 rfl (z8 rfl (z8 rfl q5)))))) rfl (e_op 1 rfl (o_len_I hW (ev_t ds)) rfl ?_))
      by_cases hs55 : (((ws.length : Nat) : Int) = 3)
      · obtain ⟨wa, wb, wc, hwe⟩ := len3 hs55
        rcases hW with ⟨-, h0⟩ | ⟨dw, ow, cw, exw, wrw, rw_, hwve, hdw, hrw, hrlw, hsegw⟩
        · rw [hwe] at h0; cases h0
        subst hwve
        rw [hwe] at hsegw
        refine e_op 2 rfl (dec_t (o_eql (ev_t ds) ev_c) hs55) rfl (e_op 3 rfl (o_mov (ev_t ds)) rfl (e_op 4 rfl (o_mov (ev_t (z1 rfl (z8 rfl (z8 rfl (z8 rfl q5)))))) (want_on ds) (e_op 5 rfl (o_iaddr (i := 1) (ev_t ds) ev_c (by omega)) (want_on (z1 rfl ds)) ?_)))
        refine e_op 6 rfl (o_load (ev_t ds) (look_ne hh19 (by omega) (look_ne hh17 (by omega) (look_ne hh15 (by omega) (look_ne hh13 (by omega) (look_ne hh11 (by omega) hrw))))) (by rw [Nat.mul_one]; exact rowI_get (i := 1) hsegw rfl)) (want_on (z2 rfl ds)) ?_
        refine e_op 7 rfl (o_faddr (off := 2) (ev_t (z4 rfl (z8 rfl (z8 rfl (z8 rfl q3)))))) (want_on (z1 rfl (z2 rfl ds))) (e_op 8 rfl (o_load (ev_t ds) (look_ne hh19 (by omega) (look_ne hh17 (by omega) (look_ne hh15 (by omega) (look_ne hh13 (by omega) (look_ne hh11 (by omega) hr3))))) rfl) (want_on (z4 rfl ds)) ?_)
        by_cases hs56 : (wb = x.wide)
        · refine e_op 9 rfl (dec_t (o_eql (ev_t (z2 rfl ds)) (ev_t ds)) hs56) (want_on (z1 rfl (z4 rfl ds))) (e_op 10 rfl (o_pick_t (ev_t (z2 rfl (z4 rfl ds))) (ev_t ds)) rfl (e_op 11 rfl (o_mov (ev_t ds)) rfl (e_op 12 rfl (o_mov (ev_t (z1 rfl (z8 rfl (z8 rfl (z8 rfl (z8 rfl q5))))))) (want_on ds) (e_op 13 rfl (o_iaddr (i := 2) (ev_t ds) ev_c (by omega)) (want_on (z1 rfl ds)) ?_))))
          refine e_op 14 rfl (o_load (ev_t ds) (look_ne hh19 (by omega) (look_ne hh17 (by omega) (look_ne hh15 (by omega) (look_ne hh13 (by omega) (look_ne hh11 (by omega) hrw))))) (by rw [Nat.mul_one]; exact rowI_get (i := 2) hsegw rfl)) (want_on (z2 rfl ds)) ?_
          refine e_op 15 rfl (o_faddr (off := 2) (ev_t (z4 rfl (z8 rfl (z8 rfl (z8 rfl (z8 rfl q3))))))) (want_on (z1 rfl (z2 rfl ds))) (e_op 16 rfl (o_load (ev_t ds) (look_ne hh19 (by omega) (look_ne hh17 (by omega) (look_ne hh15 (by omega) (look_ne hh13 (by omega) (look_ne hh11 (by omega) hr3))))) rfl) (want_on (z4 rfl ds)) ?_)
          by_cases hs57 : (wc = x.wide)
          · refine e_op 17 rfl (dec_t (o_eql (ev_t (z2 rfl ds)) (ev_t ds)) hs57) (want_on (z1 rfl (z4 rfl ds))) (e_op 18 rfl (o_pick_t (ev_t (z2 rfl (z4 rfl ds))) (ev_t ds)) rfl (e_op 19 rfl (o_mov (ev_t ds)) rfl (e_done ?_)))
            have hfin : ((true : Bool) = true ↔ nodeP ws x) := by
              rw [nodeP4 (by omega)]
              refine ⟨fun _ => ?_, fun _ => rfl⟩
              exact ⟨wa, by rw [hwe, show wb = x.wide from by omega, show wc = x.wide from by omega]⟩
            exact ⟨_, x.op, x.hi, x.lo, x.time, x.value, nv, ds, hfin, (z2 rfl (z4 rfl (z8 rfl (z8 rfl (z8 rfl (z8 rfl ds)))))), (look_same hh19), (by unfold Bare; refine ⟨?_, ?_, ?_, ?_⟩ <;> first | omega | (split <;> first | rfl | omega)), by omega, Keep.upd (Keep.upd (Keep.upd (Keep.upd (Keep.upd (hkp) hh11 (.inl (by omega))) hh13 (.inl (by omega))) hh15 (.inl (by omega))) hh17 (.inl (by omega))) hh19 (.inl (by omega))⟩
          refine e_op 17 rfl (dec_f (o_eql (ev_t (z2 rfl ds)) (ev_t ds)) hs57) (want_on (z1 rfl (z4 rfl ds))) (e_op 18 rfl (o_pick_t (ev_t (z2 rfl (z4 rfl ds))) (ev_t ds)) rfl (e_op 19 rfl (o_mov (ev_t ds)) rfl (e_done ?_)))
          have hfin : ((false : Bool) = true ↔ nodeP ws x) := by
            rw [nodeP4 (by omega)]
            refine ⟨(fun h => by cases h), fun h_ => ?_⟩
            obtain ⟨a_, h1_⟩ := h_
            have e_ : ((ws.length : Nat) : Int) = 3 := by rw [h1_]; rfl
            first | omega | (rw [hwe] at h1_; simp only [List.cons.injEq, and_true, true_and] at h1_; omega)
          exact ⟨_, x.op, x.hi, x.lo, x.time, x.value, nv, ds, hfin, (z2 rfl (z4 rfl (z8 rfl (z8 rfl (z8 rfl (z8 rfl ds)))))), (look_same hh19), (by unfold Bare; refine ⟨?_, ?_, ?_, ?_⟩ <;> first | omega | (split <;> first | rfl | omega)), by omega, Keep.upd (Keep.upd (Keep.upd (Keep.upd (Keep.upd (hkp) hh11 (.inl (by omega))) hh13 (.inl (by omega))) hh15 (.inl (by omega))) hh17 (.inl (by omega))) hh19 (.inl (by omega))⟩
        refine e_op 9 rfl (dec_f (o_eql (ev_t (z2 rfl ds)) (ev_t ds)) hs56) (want_on (z1 rfl (z4 rfl ds))) (e_op 10 rfl (o_pick_t (ev_t (z2 rfl (z4 rfl ds))) (ev_t ds)) rfl (e_op 11 rfl (o_mov (ev_t ds)) rfl (e_off 12 rfl (want_not ds rfl) (e_off 13 rfl (want_not (z1 rfl ds) rfl) (e_off 14 rfl (want_not (z2 rfl ds) rfl) (e_off 15 rfl (want_not (z1 rfl (z2 rfl ds)) rfl) (e_off 16 rfl (want_not (z4 rfl ds) rfl) (e_off 17 rfl (want_not (z1 rfl (z4 rfl ds)) rfl) (e_op 18 rfl (o_pick_f (ev_t (z2 rfl (z4 rfl ds))) ev_c) rfl (e_op 19 rfl (o_mov (ev_t ds)) rfl (e_done ?_)))))))))))
        have hfin : ((false : Bool) = true ↔ nodeP ws x) := by
          rw [nodeP4 (by omega)]
          refine ⟨(fun h => by cases h), fun h_ => ?_⟩
          obtain ⟨a_, h1_⟩ := h_
          have e_ : ((ws.length : Nat) : Int) = 3 := by rw [h1_]; rfl
          first | omega | (rw [hwe] at h1_; simp only [List.cons.injEq, and_true, true_and] at h1_; omega)
        exact ⟨_, x.op, x.hi, x.lo, x.time, x.value, nv, ds, hfin, (z2 rfl (z4 rfl (z8 rfl (z8 rfl (z8 rfl (z8 rfl ds)))))), (look_same hh19), (by unfold Bare; refine ⟨?_, ?_, ?_, ?_⟩ <;> first | omega | (split <;> first | rfl | omega)), by omega, Keep.upd (Keep.upd (Keep.upd (Keep.upd (Keep.upd (hkp) hh11 (.inl (by omega))) hh13 (.inl (by omega))) hh15 (.inl (by omega))) hh17 (.inl (by omega))) hh19 (.inl (by omega))⟩
      refine e_op 2 rfl (dec_f (o_eql (ev_t ds) ev_c) hs55) rfl (e_op 3 rfl (o_mov (ev_t ds)) rfl (e_off 4 rfl (want_not ds rfl) (e_off 5 rfl (want_not (z1 rfl ds) rfl) (e_off 6 rfl (want_not (z2 rfl ds) rfl) (e_off 7 rfl (want_not (z1 rfl (z2 rfl ds)) rfl) (e_off 8 rfl (want_not (z4 rfl ds) rfl) (e_off 9 rfl (want_not (z1 rfl (z4 rfl ds)) rfl) (e_op 10 rfl (o_pick_f (ev_t (z2 rfl (z4 rfl ds))) ev_c) rfl (e_op 11 rfl (o_mov (ev_t ds)) rfl (e_off 12 rfl (want_not ds rfl) (e_off 13 rfl (want_not (z1 rfl ds) rfl) (e_off 14 rfl (want_not (z2 rfl ds) rfl) (e_off 15 rfl (want_not (z1 rfl (z2 rfl ds)) rfl) (e_off 16 rfl (want_not (z4 rfl ds) rfl) (e_off 17 rfl (want_not (z1 rfl (z4 rfl ds)) rfl) (e_op 18 rfl (o_pick_f (ev_t (z2 rfl (z4 rfl ds))) ev_c) rfl (e_op 19 rfl (o_mov (ev_t ds)) rfl (e_done ?_))))))))))))))))))
      have hfin : ((false : Bool) = true ↔ nodeP ws x) := by
        rw [nodeP4 (by omega)]
        refine ⟨(fun h => by cases h), fun h_ => ?_⟩
        obtain ⟨a_, h1_⟩ := h_
        have e_ : ((ws.length : Nat) : Int) = 3 := by rw [h1_]; rfl
        first | omega | (rw [hwe] at h1_; simp only [List.cons.injEq, and_true, true_and] at h1_; omega)
      exact ⟨_, x.op, x.hi, x.lo, x.time, x.value, nv, ds, hfin, (z2 rfl (z4 rfl (z8 rfl (z8 rfl (z8 rfl (z8 rfl ds)))))), (look_same hh19), (by unfold Bare; refine ⟨?_, ?_, ?_, ?_⟩ <;> first | omega | (split <;> first | rfl | omega)), by omega, Keep.upd (Keep.upd (Keep.upd (Keep.upd (Keep.upd (hkp) hh11 (.inl (by omega))) hh13 (.inl (by omega))) hh15 (.inl (by omega))) hh17 (.inl (by omega))) hh19 (.inl (by omega))⟩
    replace hc54 := of_decide_eq_false hc54
    refine k_seq (k_reg (r_op (o_eql (ev_t (z8 rfl ds)) ev_c) rfl (m1 ds (r_nil ?_))))
    refine k_cond (ev_t ds) (fun hc58 => ?_) (fun hc58 => ?_)
    · replace hc58 := of_decide_eq_true hc58
      refine k_draw (e_op 0 rfl (o_mov (ev_t (z1 rfl (z2 rfl (z4 rfl (z8 rfl (z8 rfl q5))))))) rfl (e_op 1 rfl (o_len_I hW (ev_t ds)) rfl ?_))
      by_cases hs59 : (((ws.length : Nat) : Int) = 2)
      · obtain ⟨wa, wb, hwe⟩ := len2 hs59
        rcases hW with ⟨-, h0⟩ | ⟨dw, ow, cw, exw, wrw, rw_, hwve, hdw, hrw, hrlw, hsegw⟩
        · rw [hwe] at h0; cases h0
        subst hwve
        rw [hwe] at hsegw
        refine e_op 2 rfl (dec_t (o_eql (ev_t ds) ev_c) hs59) rfl (e_op 3 rfl (o_mov (ev_t ds)) rfl (e_op 4 rfl (o_mov (ev_t (z1 rfl (z2 rfl (z8 rfl (z8 rfl (z8 rfl q5))))))) (want_on ds) (e_op 5 rfl (o_iaddr (i := 0) (ev_t ds) ev_c (by omega)) (want_on (z1 rfl ds)) ?_)))
        refine e_op 6 rfl (o_load (ev_t ds) (look_ne hh19 (by omega) (look_ne hh17 (by omega) (look_ne hh15 (by omega) (look_ne hh13 (by omega) (look_ne hh11 (by omega) hrw))))) (by rw [Nat.mul_one]; exact rowI_get (i := 0) hsegw rfl)) (want_on (z2 rfl ds)) ?_
        refine e_op 7 rfl (o_mov (ev_t (z2 rfl (z4 rfl (z8 rfl (z8 rfl (z8 rfl q5))))))) (want_on (z1 rfl (z2 rfl ds))) (e_op 8 rfl (o_iaddr (i := 1) (ev_t ds) ev_c (by omega)) (want_on (z4 rfl ds)) ?_)
        refine e_op 9 rfl (o_load (ev_t ds) (look_ne hh19 (by omega) (look_ne hh17 (by omega) (look_ne hh15 (by omega) (look_ne hh13 (by omega) (look_ne hh11 (by omega) hrw))))) (by rw [Nat.mul_one]; exact rowI_get (i := 1) hsegw rfl)) (want_on (z1 rfl (z4 rfl ds))) ?_
        by_cases hs60 : (wa = wb)
        · refine e_op 10 rfl (dec_t (o_eql (ev_t (z1 rfl (z2 rfl ds))) (ev_t ds)) hs60) (want_on (z2 rfl (z4 rfl ds))) (e_op 11 rfl (o_pick_t (ev_t (z1 rfl (z2 rfl (z4 rfl ds)))) (ev_t ds)) rfl (e_op 12 rfl (o_mov (ev_t ds)) rfl (e_op 13 rfl (o_faddr (off := 2) (ev_t (z4 rfl (z8 rfl (z8 rfl (z8 rfl (z8 rfl q3))))))) (want_on ds) (e_op 14 rfl (o_load (ev_t ds) (look_ne hh19 (by omega) (look_ne hh17 (by omega) (look_ne hh15 (by omega) (look_ne hh13 (by omega) (look_ne hh11 (by omega) hr3))))) rfl) (want_on (z1 rfl ds)) ?_))))
          by_cases hs61 : (x.wide = 1)
          · refine e_op 15 rfl (dec_t (o_eql (ev_t ds) ev_c) hs61) (want_on (z2 rfl ds)) (e_op 16 rfl (o_pick_t (ev_t (z1 rfl (z2 rfl ds))) (ev_t ds)) rfl (e_op 17 rfl (o_mov (ev_t ds)) rfl (e_done ?_)))
            have hfin : ((true : Bool) = true ↔ nodeP ws x) := by
              rw [nodeP5 (by omega)]
              refine ⟨fun _ => ?_, fun _ => rfl⟩
              exact ⟨⟨wa, by rw [hwe, show wb = wa from by omega]⟩, by omega⟩
            exact ⟨_, x.op, x.hi, x.lo, x.time, x.value, nv, ds, hfin, (z2 rfl (z4 rfl (z8 rfl (z8 rfl (z8 rfl (z8 rfl ds)))))), (look_same hh19), (by unfold Bare; refine ⟨?_, ?_, ?_, ?_⟩ <;> first | omega | (split <;> first | rfl | omega)), by omega, Keep.upd (Keep.upd (Keep.upd (Keep.upd (Keep.upd (hkp) hh11 (.inl (by omega))) hh13 (.inl (by omega))) hh15 (.inl (by omega))) hh17 (.inl (by omega))) hh19 (.inl (by omega))⟩
          refine e_op 15 rfl (dec_f (o_eql (ev_t ds) ev_c) hs61) (want_on (z2 rfl ds)) (e_op 16 rfl (o_pick_t (ev_t (z1 rfl (z2 rfl ds))) (ev_t ds)) rfl (e_op 17 rfl (o_mov (ev_t ds)) rfl (e_done ?_)))
          have hfin : ((false : Bool) = true ↔ nodeP ws x) := by
            rw [nodeP5 (by omega)]
            refine ⟨(fun h => by cases h), fun h_ => ?_⟩
            obtain ⟨⟨a_, h1_⟩, h3_⟩ := h_
            have e_ : ((ws.length : Nat) : Int) = 2 := by rw [h1_]; rfl
            first | omega | (rw [hwe] at h1_; simp only [List.cons.injEq, and_true, true_and] at h1_; omega)
          exact ⟨_, x.op, x.hi, x.lo, x.time, x.value, nv, ds, hfin, (z2 rfl (z4 rfl (z8 rfl (z8 rfl (z8 rfl (z8 rfl ds)))))), (look_same hh19), (by unfold Bare; refine ⟨?_, ?_, ?_, ?_⟩ <;> first | omega | (split <;> first | rfl | omega)), by omega, Keep.upd (Keep.upd (Keep.upd (Keep.upd (Keep.upd (hkp) hh11 (.inl (by omega))) hh13 (.inl (by omega))) hh15 (.inl (by omega))) hh17 (.inl (by omega))) hh19 (.inl (by omega))⟩
        refine e_op 10 rfl (dec_f (o_eql (ev_t (z1 rfl (z2 rfl ds))) (ev_t ds)) hs60) (want_on (z2 rfl (z4 rfl ds))) (e_op 11 rfl (o_pick_t (ev_t (z1 rfl (z2 rfl (z4 rfl ds)))) (ev_t ds)) rfl (e_op 12 rfl (o_mov (ev_t ds)) rfl (e_off 13 rfl (want_not ds rfl) (e_off 14 rfl (want_not (z1 rfl ds) rfl) (e_off 15 rfl (want_not (z2 rfl ds) rfl) (e_op 16 rfl (o_pick_f (ev_t (z1 rfl (z2 rfl ds))) ev_c) rfl (e_op 17 rfl (o_mov (ev_t ds)) rfl (e_done ?_))))))))
        have hfin : ((false : Bool) = true ↔ nodeP ws x) := by
          rw [nodeP5 (by omega)]
          refine ⟨(fun h => by cases h), fun h_ => ?_⟩
          obtain ⟨⟨a_, h1_⟩, h3_⟩ := h_
          have e_ : ((ws.length : Nat) : Int) = 2 := by rw [h1_]; rfl
          first | omega | (rw [hwe] at h1_; simp only [List.cons.injEq, and_true, true_and] at h1_; omega)
        exact ⟨_, x.op, x.hi, x.lo, x.time, x.value, nv, ds, hfin, (z2 rfl (z4 rfl (z8 rfl (z8 rfl (z8 rfl (z8 rfl ds)))))), (look_same hh19), (by unfold Bare; refine ⟨?_, ?_, ?_, ?_⟩ <;> first | omega | (split <;> first | rfl | omega)), by omega, Keep.upd (Keep.upd (Keep.upd (Keep.upd (Keep.upd (hkp) hh11 (.inl (by omega))) hh13 (.inl (by omega))) hh15 (.inl (by omega))) hh17 (.inl (by omega))) hh19 (.inl (by omega))⟩
      refine e_op 2 rfl (dec_f (o_eql (ev_t ds) ev_c) hs59) rfl (e_op 3 rfl (o_mov (ev_t ds)) rfl (e_off 4 rfl (want_not ds rfl) (e_off 5 rfl (want_not (z1 rfl ds) rfl) (e_off 6 rfl (want_not (z2 rfl ds) rfl) (e_off 7 rfl (want_not (z1 rfl (z2 rfl ds)) rfl) (e_off 8 rfl (want_not (z4 rfl ds) rfl) (e_off 9 rfl (want_not (z1 rfl (z4 rfl ds)) rfl) (e_off 10 rfl (want_not (z2 rfl (z4 rfl ds)) rfl) (e_op 11 rfl (o_pick_f (ev_t (z1 rfl (z2 rfl (z4 rfl ds)))) ev_c) rfl (e_op 12 rfl (o_mov (ev_t ds)) rfl (e_off 13 rfl (want_not ds rfl) (e_off 14 rfl (want_not (z1 rfl ds) rfl) (e_off 15 rfl (want_not (z2 rfl ds) rfl) (e_op 16 rfl (o_pick_f (ev_t (z1 rfl (z2 rfl ds))) ev_c) rfl (e_op 17 rfl (o_mov (ev_t ds)) rfl (e_done ?_))))))))))))))))
      have hfin : ((false : Bool) = true ↔ nodeP ws x) := by
        rw [nodeP5 (by omega)]
        refine ⟨(fun h => by cases h), fun h_ => ?_⟩
        obtain ⟨⟨a_, h1_⟩, h3_⟩ := h_
        have e_ : ((ws.length : Nat) : Int) = 2 := by rw [h1_]; rfl
        first | omega | (rw [hwe] at h1_; simp only [List.cons.injEq, and_true, true_and] at h1_; omega)
      exact ⟨_, x.op, x.hi, x.lo, x.time, x.value, nv, ds, hfin, (z2 rfl (z4 rfl (z8 rfl (z8 rfl (z8 rfl (z8 rfl ds)))))), (look_same hh19), (by unfold Bare; refine ⟨?_, ?_, ?_, ?_⟩ <;> first | omega | (split <;> first | rfl | omega)), by omega, Keep.upd (Keep.upd (Keep.upd (Keep.upd (Keep.upd (hkp) hh11 (.inl (by omega))) hh13 (.inl (by omega))) hh15 (.inl (by omega))) hh17 (.inl (by omega))) hh19 (.inl (by omega))⟩
    replace hc58 := of_decide_eq_false hc58
    refine k_seq (k_reg (r_op (o_eql (ev_t (z2 rfl (z8 rfl ds))) ev_c) rfl (m1 ds (r_nil ?_))))
    refine k_cond (ev_t ds) (fun hc62 => ?_) (fun hc62 => ?_)
    · replace hc62 := of_decide_eq_true hc62
      refine k_reg (m1 (z1 rfl (z8 rfl (z8 rfl (z8 rfl q5)))) (r_op (o_len_I hW (ev_t ds)) rfl ?_))
      by_cases hs63 : (((ws.length : Nat) : Int) = 1)
      · obtain ⟨wa, hwe⟩ := len1 hs63
        rcases hW with ⟨-, h0⟩ | ⟨dw, ow, cw, exw, wrw, rw_, hwve, hdw, hrw, hrlw, hsegw⟩
        · rw [hwe] at h0; cases h0
        subst hwve
        rw [hwe] at hsegw
        refine r_op (dec_t (o_eql (ev_t ds) ev_c) hs63) rfl (m1 ds (r_nil ?_))
        have hfin : ((true : Bool) = true ↔ nodeP ws x) := by
          rw [nodeP6 (by omega)]
          refine ⟨fun _ => ?_, fun _ => rfl⟩
          exact ⟨wa, hwe⟩
        exact ⟨_, x.op, x.hi, x.lo, x.time, x.value, nv, ds, hfin, (z2 rfl (z8 rfl (z8 rfl (z8 rfl ds)))), (look_same hh19), (by unfold Bare; refine ⟨?_, ?_, ?_, ?_⟩ <;> first | omega | (split <;> first | rfl | omega)), by omega, Keep.upd (Keep.upd (Keep.upd (Keep.upd (Keep.upd (hkp) hh11 (.inl (by omega))) hh13 (.inl (by omega))) hh15 (.inl (by omega))) hh17 (.inl (by omega))) hh19 (.inl (by omega))⟩
      refine r_op (dec_f (o_eql (ev_t ds) ev_c) hs63) rfl (m1 ds (r_nil ?_))
      have hfin : ((false : Bool) = true ↔ nodeP ws x) := by
        rw [nodeP6 (by omega)]
        refine ⟨(fun h => by cases h), fun h_ => ?_⟩
        obtain ⟨a_, h1_⟩ := h_
        have e_ : ((ws.length : Nat) : Int) = 1 := by rw [h1_]; rfl
        first | omega | (rw [hwe] at h1_; simp only [List.cons.injEq, and_true, true_and] at h1_; omega)
      exact ⟨_, x.op, x.hi, x.lo, x.time, x.value, nv, ds, hfin, (z2 rfl (z8 rfl (z8 rfl (z8 rfl ds)))), (look_same hh19), (by unfold Bare; refine ⟨?_, ?_, ?_, ?_⟩ <;> first | omega | (split <;> first | rfl | omega)), by omega, Keep.upd (Keep.upd (Keep.upd (Keep.upd (Keep.upd (hkp) hh11 (.inl (by omega))) hh13 (.inl (by omega))) hh15 (.inl (by omega))) hh17 (.inl (by omega))) hh19 (.inl (by omega))⟩
    replace hc62 := of_decide_eq_false hc62
    refine k_seq (k_reg (r_op (o_eql (ev_t (z4 rfl (z8 rfl ds))) ev_c) rfl (m1 ds (r_nil ?_))))
    refine k_cond (ev_t ds) (fun hc64 => ?_) (fun hc64 => ?_)
    · replace hc64 := of_decide_eq_true hc64
      refine k_draw (e_op 0 rfl (o_mov (ev_t (z1 rfl (z2 rfl (z8 rfl (z8 rfl (z8 rfl q5))))))) rfl (e_op 1 rfl (o_len_I hW (ev_t ds)) rfl ?_))
      by_cases hs65 : (((ws.length : Nat) : Int) = 2)
      · obtain ⟨wa, wb, hwe⟩ := len2 hs65
        rcases hW with ⟨-, h0⟩ | ⟨dw, ow, cw, exw, wrw, rw_, hwve, hdw, hrw, hrlw, hsegw⟩
        · rw [hwe] at h0; cases h0
        subst hwve
        rw [hwe] at hsegw
        refine e_op 2 rfl (dec_t (o_eql (ev_t ds) ev_c) hs65) rfl (e_op 3 rfl (o_mov (ev_t ds)) rfl (e_op 4 rfl (o_mov (ev_t (z1 rfl (z2 rfl (z4 rfl (z8 rfl (z8 rfl (z8 rfl q5)))))))) (want_on ds) (e_op 5 rfl (o_iaddr (i := 1) (ev_t ds) ev_c (by omega)) (want_on (z1 rfl ds)) ?_)))
        refine e_op 6 rfl (o_load (ev_t ds) (look_ne hh19 (by omega) (look_ne hh17 (by omega) (look_ne hh15 (by omega) (look_ne hh13 (by omega) (look_ne hh11 (by omega) hrw))))) (by rw [Nat.mul_one]; exact rowI_get (i := 1) hsegw rfl)) (want_on (z2 rfl ds)) ?_
        refine e_op 7 rfl (o_faddr (off := 2) (ev_t (z2 rfl (z8 rfl (z8 rfl (z8 rfl (z8 rfl q3))))))) (want_on (z1 rfl (z2 rfl ds))) (e_op 8 rfl (o_load (ev_t ds) (look_ne hh19 (by omega) (look_ne hh17 (by omega) (look_ne hh15 (by omega) (look_ne hh13 (by omega) (look_ne hh11 (by omega) hr3))))) rfl) (want_on (z4 rfl ds)) ?_)
        by_cases hs66 : (wb = x.wide)
        · refine e_op 9 rfl (dec_t (o_eql (ev_t (z2 rfl ds)) (ev_t ds)) hs66) (want_on (z1 rfl (z4 rfl ds))) (e_op 10 rfl (o_pick_t (ev_t (z2 rfl (z4 rfl ds))) (ev_t ds)) rfl (e_op 11 rfl (o_mov (ev_t ds)) rfl (e_done ?_)))
          have hfin : ((true : Bool) = true ↔ nodeP ws x) := by
            rw [nodeP7 (by omega)]
            refine ⟨fun _ => ?_, fun _ => rfl⟩
            exact ⟨wa, by rw [hwe, show wb = x.wide from by omega]⟩
          exact ⟨_, x.op, x.hi, x.lo, x.time, x.value, nv, ds, hfin, (z4 rfl (z8 rfl (z8 rfl (z8 rfl (z8 rfl ds))))), (look_same hh19), (by unfold Bare; refine ⟨?_, ?_, ?_, ?_⟩ <;> first | omega | (split <;> first | rfl | omega)), by omega, Keep.upd (Keep.upd (Keep.upd (Keep.upd (Keep.upd (hkp) hh11 (.inl (by omega))) hh13 (.inl (by omega))) hh15 (.inl (by omega))) hh17 (.inl (by omega))) hh19 (.inl (by omega))⟩
        refine e_op 9 rfl (dec_f (o_eql (ev_t (z2 rfl ds)) (ev_t ds)) hs66) (want_on (z1 rfl (z4 rfl ds))) (e_op 10 rfl (o_pick_t (ev_t (z2 rfl (z4 rfl ds))) (ev_t ds)) rfl (e_op 11 rfl (o_mov (ev_t ds)) rfl (e_done ?_)))
        have hfin : ((false : Bool) = true ↔ nodeP ws x) := by
          rw [nodeP7 (by omega)]
          refine ⟨(fun h => by cases h), fun h_ => ?_⟩
          obtain ⟨a_, h1_⟩ := h_
          have e_ : ((ws.length : Nat) : Int) = 2 := by rw [h1_]; rfl
          first | omega | (rw [hwe] at h1_; simp only [List.cons.injEq, and_true, true_and] at h1_; omega)
        exact ⟨_, x.op, x.hi, x.lo, x.time, x.value, nv, ds, hfin, (z4 rfl (z8 rfl (z8 rfl (z8 rfl (z8 rfl ds))))), (look_same hh19), (by unfold Bare; refine ⟨?_, ?_, ?_, ?_⟩ <;> first | omega | (split <;> first | rfl | omega)), by omega, Keep.upd (Keep.upd (Keep.upd (Keep.upd (Keep.upd (hkp) hh11 (.inl (by omega))) hh13 (.inl (by omega))) hh15 (.inl (by omega))) hh17 (.inl (by omega))) hh19 (.inl (by omega))⟩
      refine e_op 2 rfl (dec_f (o_eql (ev_t ds) ev_c) hs65) rfl (e_op 3 rfl (o_mov (ev_t ds)) rfl (e_off 4 rfl (want_not ds rfl) (e_off 5 rfl (want_not (z1 rfl ds) rfl) (e_off 6 rfl (want_not (z2 rfl ds) rfl) (e_off 7 rfl (want_not (z1 rfl (z2 rfl ds)) rfl) (e_off 8 rfl (want_not (z4 rfl ds) rfl) (e_off 9 rfl (want_not (z1 rfl (z4 rfl ds)) rfl) (e_op 10 rfl (o_pick_f (ev_t (z2 rfl (z4 rfl ds))) ev_c) rfl (e_op 11 rfl (o_mov (ev_t ds)) rfl (e_done ?_))))))))))
      have hfin : ((false : Bool) = true ↔ nodeP ws x) := by
        rw [nodeP7 (by omega)]
        refine ⟨(fun h => by cases h), fun h_ => ?_⟩
        obtain ⟨a_, h1_⟩ := h_
        have e_ : ((ws.length : Nat) : Int) = 2 := by rw [h1_]; rfl
        first | omega | (rw [hwe] at h1_; simp only [List.cons.injEq, and_true, true_and] at h1_; omega)
      exact ⟨_, x.op, x.hi, x.lo, x.time, x.value, nv, ds, hfin, (z4 rfl (z8 rfl (z8 rfl (z8 rfl (z8 rfl ds))))), (look_same hh19), (by unfold Bare; refine ⟨?_, ?_, ?_, ?_⟩ <;> first | omega | (split <;> first | rfl | omega)), by omega, Keep.upd (Keep.upd (Keep.upd (Keep.upd (Keep.upd (hkp) hh11 (.inl (by omega))) hh13 (.inl (by omega))) hh15 (.inl (by omega))) hh17 (.inl (by omega))) hh19 (.inl (by omega))⟩
    replace hc64 := of_decide_eq_false hc64
    refine k_seq (k_reg (r_op (o_eql (ev_t (z2 rfl (z4 rfl (z8 rfl ds)))) ev_c) rfl (m1 ds (r_nil ?_))))
    refine k_cond (ev_t ds) (fun hc67 => ?_) (fun hc67 => ?_)
    · replace hc67 := of_decide_eq_true hc67
      refine k_seq (k_draw (e_op 0 rfl (o_mov (ev_t (z1 rfl (z4 rfl (z8 rfl (z8 rfl (z8 rfl q5))))))) rfl (e_op 1 rfl (o_len_I hW (ev_t ds)) rfl ?_)))
      by_cases hs68 : (((ws.length : Nat) : Int) = 1)
      · obtain ⟨wa, hwe⟩ := len1 hs68
        rcases hW with ⟨-, h0⟩ | ⟨dw, ow, cw, exw, wrw, rw_, hwve, hdw, hrw, hrlw, hsegw⟩
        · rw [hwe] at h0; cases h0
        subst hwve
        rw [hwe] at hsegw
        refine e_op 2 rfl (dec_t (o_eql (ev_t ds) ev_c) hs68) rfl (e_op 3 rfl (o_mov (ev_t ds)) rfl (e_op 4 rfl (o_mov (ev_t (z1 rfl (z8 rfl (z8 rfl (z8 rfl (z8 rfl q5))))))) (want_on ds) (e_op 5 rfl (o_iaddr (i := 0) (ev_t ds) ev_c (by omega)) (want_on (z1 rfl ds)) ?_)))
        refine e_op 6 rfl (o_load (ev_t ds) (look_ne hh19 (by omega) (look_ne hh17 (by omega) (look_ne hh15 (by omega) (look_ne hh13 (by omega) (look_ne hh11 (by omega) hrw))))) (by rw [Nat.mul_one]; exact rowI_get (i := 0) hsegw rfl)) (want_on (z2 rfl ds)) ?_
        refine e_op 7 rfl (o_faddr (off := 2) (ev_t (z4 rfl (z8 rfl (z8 rfl (z8 rfl (z8 rfl q3))))))) (want_on (z1 rfl (z2 rfl ds))) (e_op 8 rfl (o_load (ev_t ds) (look_ne hh19 (by omega) (look_ne hh17 (by omega) (look_ne hh15 (by omega) (look_ne hh13 (by omega) (look_ne hh11 (by omega) hr3))))) rfl) (want_on (z4 rfl ds)) ?_)
        by_cases hs69 : (wa = x.wide)
        · refine e_op 9 rfl (dec_t (o_eql (ev_t (z2 rfl ds)) (ev_t ds)) hs69) (want_on (z1 rfl (z4 rfl ds))) (e_op 10 rfl (o_pick_t (ev_t (z2 rfl (z4 rfl ds))) (ev_t ds)) rfl (e_op 11 rfl (o_mov (ev_t ds)) rfl (e_op 12 rfl (o_faddr (off := 7) (ev_t (z1 rfl (z8 rfl (z8 rfl (z8 rfl (z8 rfl (z8 rfl q3)))))))) (want_on ds) (e_op 13 rfl (o_load (ev_t ds) (look_ne hh19 (by omega) (look_ne hh17 (by omega) (look_ne hh15 (by omega) (look_ne hh13 (by omega) (look_ne hh11 (by omega) hr3))))) rfl) (want_on (z1 rfl ds)) ?_))))
          by_cases hs70 : (x.time < 1)
          · refine e_op 14 rfl (ndec_f (o_geq (ev_t ds) ev_c) hs70) (want_on (z2 rfl ds)) (e_op 15 rfl (o_pick_t (ev_t (z1 rfl (z2 rfl ds))) (ev_t ds)) rfl (e_op 16 rfl (o_mov (ev_t ds)) rfl (e_off 17 rfl (want_not ds rfl) (e_off 18 rfl (want_not (z1 rfl ds) rfl) (e_off 19 rfl (want_not (z2 rfl ds) rfl) (e_op 20 rfl (o_pick_f (ev_t (z1 rfl (z2 rfl ds))) ev_c) rfl (e_op 21 rfl (o_mov (ev_t ds)) rfl (e_done (k_reg (r_op (o_faddr (off := 7) (ev_t (z8 rfl (z8 rfl (z8 rfl (z8 rfl (z8 rfl (z8 rfl ds)))))))) rfl (r_heap (o_store (n := 1) (ev_t ds) ev_c (look_same hh19) rfl rfl (leb rfl)) rfl (fun t71 (hh72 : hv t71 = upd (hv t18) nv (some (.row [(.int .i64 0), (.int .i64 x.op), (.int .i64 0), .nslice, (.str x.value), (.int .i64 x.hi), (.int .i64 x.lo), (.int .i64 0)] true))) => r_nil ?_))))))))))))
            have hfin : ((false : Bool) = true ↔ nodeP ws x) := by
              rw [nodeP8 (by omega)]
              refine ⟨(fun h => by cases h), fun h_ => ?_⟩
              obtain ⟨h1_, h2_, h3_⟩ := h_
              have e_ : ((ws.length : Nat) : Int) = 1 := by rw [h1_]; rfl
              first | omega | (rw [hwe] at h1_; simp only [List.cons.injEq, and_true, true_and] at h1_; omega)
            exact ⟨_, x.op, x.hi, x.lo, 0, x.value, nv, (z2 rfl ds), hfin, (z2 rfl (z8 rfl (z8 rfl (z8 rfl (z8 rfl (z8 rfl (z8 rfl ds))))))), (look_same hh72), (by unfold Bare; refine ⟨?_, ?_, ?_, ?_⟩ <;> first | omega | (split <;> first | rfl | omega)), by omega, Keep.upd (Keep.upd (Keep.upd (Keep.upd (Keep.upd (Keep.upd (hkp) hh11 (.inl (by omega))) hh13 (.inl (by omega))) hh15 (.inl (by omega))) hh17 (.inl (by omega))) hh19 (.inl (by omega))) hh72 (.inl (by omega))⟩
          refine e_op 14 rfl (ndec_t (o_geq (ev_t ds) ev_c) hs70) (want_on (z2 rfl ds)) (e_op 15 rfl (o_pick_t (ev_t (z1 rfl (z2 rfl ds))) (ev_t ds)) rfl (e_op 16 rfl (o_mov (ev_t ds)) rfl (e_op 17 rfl (o_faddr (off := 7) (ev_t (z2 rfl (z4 rfl (z8 rfl (z8 rfl (z8 rfl (z8 rfl (z8 rfl q3))))))))) (want_on ds) (e_op 18 rfl (o_load (ev_t ds) (look_ne hh19 (by omega) (look_ne hh17 (by omega) (look_ne hh15 (by omega) (look_ne hh13 (by omega) (look_ne hh11 (by omega) hr3))))) rfl) (want_on (z1 rfl ds)) ?_))))
          by_cases hs73 : (1048576 < x.time)
          · refine e_op 19 rfl (ndec_f (o_leq (ev_t ds) ev_c) hs73) (want_on (z2 rfl ds)) (e_op 20 rfl (o_pick_t (ev_t (z1 rfl (z2 rfl ds))) (ev_t ds)) rfl (e_op 21 rfl (o_mov (ev_t ds)) rfl (e_done (k_reg (r_op (o_faddr (off := 7) (ev_t (z8 rfl (z8 rfl (z8 rfl (z8 rfl (z8 rfl (z8 rfl ds)))))))) rfl (r_heap (o_store (n := 1) (ev_t ds) ev_c (look_same hh19) rfl rfl (leb rfl)) rfl (fun t74 (hh75 : hv t74 = upd (hv t18) nv (some (.row [(.int .i64 0), (.int .i64 x.op), (.int .i64 0), .nslice, (.str x.value), (.int .i64 x.hi), (.int .i64 x.lo), (.int .i64 0)] true))) => r_nil ?_)))))))
            have hfin : ((false : Bool) = true ↔ nodeP ws x) := by
              rw [nodeP8 (by omega)]
              refine ⟨(fun h => by cases h), fun h_ => ?_⟩
              obtain ⟨h1_, h2_, h3_⟩ := h_
              have e_ : ((ws.length : Nat) : Int) = 1 := by rw [h1_]; rfl
              first | omega | (rw [hwe] at h1_; simp only [List.cons.injEq, and_true, true_and] at h1_; omega)
            exact ⟨_, x.op, x.hi, x.lo, 0, x.value, nv, (z2 rfl ds), hfin, (z2 rfl (z8 rfl (z8 rfl (z8 rfl (z8 rfl (z8 rfl (z8 rfl ds))))))), (look_same hh75), (by unfold Bare; refine ⟨?_, ?_, ?_, ?_⟩ <;> first | omega | (split <;> first | rfl | omega)), by omega, Keep.upd (Keep.upd (Keep.upd (Keep.upd (Keep.upd (Keep.upd (hkp) hh11 (.inl (by omega))) hh13 (.inl (by omega))) hh15 (.inl (by omega))) hh17 (.inl (by omega))) hh19 (.inl (by omega))) hh75 (.inl (by omega))⟩
          refine e_op 19 rfl (ndec_t (o_leq (ev_t ds) ev_c) hs73) (want_on (z2 rfl ds)) (e_op 20 rfl (o_pick_t (ev_t (z1 rfl (z2 rfl ds))) (ev_t ds)) rfl (e_op 21 rfl (o_mov (ev_t ds)) rfl (e_done (k_reg (r_op (o_faddr (off := 7) (ev_t (z8 rfl (z8 rfl (z8 rfl (z8 rfl (z8 rfl (z8 rfl ds)))))))) rfl (r_heap (o_store (n := 1) (ev_t ds) ev_c (look_same hh19) rfl rfl (leb rfl)) rfl (fun t76 (hh77 : hv t76 = upd (hv t18) nv (some (.row [(.int .i64 0), (.int .i64 x.op), (.int .i64 0), .nslice, (.str x.value), (.int .i64 x.hi), (.int .i64 x.lo), (.int .i64 0)] true))) => r_nil ?_)))))))
          have hfin : ((true : Bool) = true ↔ nodeP ws x) := by
            rw [nodeP8 (by omega)]
            refine ⟨fun _ => ?_, fun _ => rfl⟩
            exact ⟨by rw [hwe, show wa = x.wide from by omega], by omega, by omega⟩
          exact ⟨_, x.op, x.hi, x.lo, 0, x.value, nv, (z2 rfl ds), hfin, (z2 rfl (z8 rfl (z8 rfl (z8 rfl (z8 rfl (z8 rfl (z8 rfl ds))))))), (look_same hh77), (by unfold Bare; refine ⟨?_, ?_, ?_, ?_⟩ <;> first | omega | (split <;> first | rfl | omega)), by omega, Keep.upd (Keep.upd (Keep.upd (Keep.upd (Keep.upd (Keep.upd (hkp) hh11 (.inl (by omega))) hh13 (.inl (by omega))) hh15 (.inl (by omega))) hh17 (.inl (by omega))) hh19 (.inl (by omega))) hh77 (.inl (by omega))⟩
        refine e_op 9 rfl (dec_f (o_eql (ev_t (z2 rfl ds)) (ev_t ds)) hs69) (want_on (z1 rfl (z4 rfl ds))) (e_op 10 rfl (o_pick_t (ev_t (z2 rfl (z4 rfl ds))) (ev_t ds)) rfl (e_op 11 rfl (o_mov (ev_t ds)) rfl (e_off 12 rfl (want_not ds rfl) (e_off 13 rfl (want_not (z1 rfl ds) rfl) (e_off 14 rfl (want_not (z2 rfl ds) rfl) (e_op 15 rfl (o_pick_f (ev_t (z1 rfl (z2 rfl ds))) ev_c) rfl (e_op 16 rfl (o_mov (ev_t ds)) rfl (e_off 17 rfl (want_not ds rfl) (e_off 18 rfl (want_not (z1 rfl ds) rfl) (e_off 19 rfl (want_not (z2 rfl ds) rfl) (e_op 20 rfl (o_pick_f (ev_t (z1 rfl (z2 rfl ds))) ev_c) rfl (e_op 21 rfl (o_mov (ev_t ds)) rfl (e_done (k_reg (r_op (o_faddr (off := 7) (ev_t (z8 rfl (z8 rfl (z8 rfl (z8 rfl (z8 rfl (z8 rfl ds)))))))) rfl (r_heap (o_store (n := 1) (ev_t ds) ev_c (look_same hh19) rfl rfl (leb rfl)) rfl (fun t78 (hh79 : hv t78 = upd (hv t18) nv (some (.row [(.int .i64 0), (.int .i64 x.op), (.int .i64 0), .nslice, (.str x.value), (.int .i64 x.hi), (.int .i64 x.lo), (.int .i64 0)] true))) => r_nil ?_)))))))))))))))))
        have hfin : ((false : Bool) = true ↔ nodeP ws x) := by
          rw [nodeP8 (by omega)]
          refine ⟨(fun h => by cases h), fun h_ => ?_⟩
          obtain ⟨h1_, h2_, h3_⟩ := h_
          have e_ : ((ws.length : Nat) : Int) = 1 := by rw [h1_]; rfl
          first | omega | (rw [hwe] at h1_; simp only [List.cons.injEq, and_true, true_and] at h1_; omega)
        exact ⟨_, x.op, x.hi, x.lo, 0, x.value, nv, (z2 rfl ds), hfin, (z2 rfl (z8 rfl (z8 rfl (z8 rfl (z8 rfl (z8 rfl (z8 rfl ds))))))), (look_same hh79), (by unfold Bare; refine ⟨?_, ?_, ?_, ?_⟩ <;> first | omega | (split <;> first | rfl | omega)), by omega, Keep.upd (Keep.upd (Keep.upd (Keep.upd (Keep.upd (Keep.upd (hkp) hh11 (.inl (by omega))) hh13 (.inl (by omega))) hh15 (.inl (by omega))) hh17 (.inl (by omega))) hh19 (.inl (by omega))) hh79 (.inl (by omega))⟩
      refine e_op 2 rfl (dec_f (o_eql (ev_t ds) ev_c) hs68) rfl (e_op 3 rfl (o_mov (ev_t ds)) rfl (e_off 4 rfl (want_not ds rfl) (e_off 5 rfl (want_not (z1 rfl ds) rfl) (e_off 6 rfl (want_not (z2 rfl ds) rfl) (e_off 7 rfl (want_not (z1 rfl (z2 rfl ds)) rfl) (e_off 8 rfl (want_not (z4 rfl ds) rfl) (e_off 9 rfl (want_not (z1 rfl (z4 rfl ds)) rfl) (e_op 10 rfl (o_pick_f (ev_t (z2 rfl (z4 rfl ds))) ev_c) rfl (e_op 11 rfl (o_mov (ev_t ds)) rfl (e_off 12 rfl (want_not ds rfl) (e_off 13 rfl (want_not (z1 rfl ds) rfl) (e_off 14 rfl (want_not (z2 rfl ds) rfl) (e_op 15 rfl (o_pick_f (ev_t (z1 rfl (z2 rfl ds))) ev_c) rfl (e_op 16 rfl (o_mov (ev_t ds)) rfl (e_off 17 rfl (want_not ds rfl) (e_off 18 rfl (want_not (z1 rfl ds) rfl) (e_off 19 rfl (want_not (z2 rfl ds) rfl) (e_op 20 rfl (o_pick_f (ev_t (z1 rfl (z2 rfl ds))) ev_c) rfl (e_op 21 rfl (o_mov (ev_t ds)) rfl (e_done (k_reg (r_op (o_faddr (off := 7) (ev_t (z8 rfl (z8 rfl (z8 rfl (z8 rfl (z8 rfl (z8 rfl ds)))))))) rfl (r_heap (o_store (n := 1) (ev_t ds) ev_c (look_same hh19) rfl rfl (leb rfl)) rfl (fun t80 (hh81 : hv t80 = upd (hv t18) nv (some (.row [(.int .i64 0), (.int .i64 x.op), (.int .i64 0), .nslice, (.str x.value), (.int .i64 x.hi), (.int .i64 x.lo), (.int .i64 0)] true))) => r_nil ?_))))))))))))))))))))))))
      have hfin : ((false : Bool) = true ↔ nodeP ws x) := by
        rw [nodeP8 (by omega)]
        refine ⟨(fun h => by cases h), fun h_ => ?_⟩
        obtain ⟨h1_, h2_, h3_⟩ := h_
        have e_ : ((ws.length : Nat) : Int) = 1 := by rw [h1_]; rfl
        first | omega | (rw [hwe] at h1_; simp only [List.cons.injEq, and_true, true_and] at h1_; omega)
      exact ⟨_, x.op, x.hi, x.lo, 0, x.value, nv, (z2 rfl ds), hfin, (z2 rfl (z8 rfl (z8 rfl (z8 rfl (z8 rfl (z8 rfl (z8 rfl ds))))))), (look_same hh81), (by unfold Bare; refine ⟨?_, ?_, ?_, ?_⟩ <;> first | omega | (split <;> first | rfl | omega)), by omega, Keep.upd (Keep.upd (Keep.upd (Keep.upd (Keep.upd (Keep.upd (hkp) hh11 (.inl (by omega))) hh13 (.inl (by omega))) hh15 (.inl (by omega))) hh17 (.inl (by omega))) hh19 (.inl (by omega))) hh81 (.inl (by omega))⟩
    replace hc67 := of_decide_eq_false hc67
    refine k_skip ?_
    have hfin : ((false : Bool) = true ↔ nodeP ws x) := by
      rw [nodeP0 (by omega)]
      exact ⟨(fun h => by cases h), False.elim⟩
    exact ⟨_, x.op, x.hi, x.lo, x.time, x.value, nv, (z2 rfl (z8 rfl (z8 rfl ds))), hfin, (z2 rfl (z8 rfl (z8 rfl (z8 rfl ds)))), (look_same hh19), (by unfold Bare; refine ⟨?_, ?_, ?_, ?_⟩ <;> first | omega | (split <;> first | rfl | omega)), by omega, Keep.upd (Keep.upd (Keep.upd (Keep.upd (Keep.upd (hkp) hh11 (.inl (by omega))) hh13 (.inl (by omega))) hh15 (.inl (by omega))) hh17 (.inl (by omega))) hh19 (.inl (by omega))⟩
  rintro Ty ty ny ⟨okb, op2, hi2, lo2, tm2, vl2, bb, p9, hokb, p8, hbr, hbare, hny, hky⟩
  cases okb
  · refine k_seq (k_reg (m1 p9 (m1 ds (r_off (want_not ds rfl) (r_off (want_not (z1 rfl ds) rfl) (r_off (want_not (z2 rfl ds) rfl) (r_op (o_pick_f (ev_t (z1 rfl (z2 rfl ds))) ev_c) rfl (m1 ds (r_off (want_not ds rfl) (r_off (want_not (z1 rfl ds) rfl) (r_off (want_not (z2 rfl ds) rfl) (r_op (o_pick_f (ev_t (z1 rfl (z2 rfl ds))) ev_c) rfl (m1 ds (r_off (want_not ds rfl) (r_off (want_not (z1 rfl ds) rfl) (r_off (want_not (z2 rfl ds) rfl) (r_op (o_pick_f (ev_t (z1 rfl (z2 rfl ds))) ev_c) rfl (m1 ds (r_off (want_not ds rfl) (r_off (want_not (z1 rfl ds) rfl) (r_off (want_not (z2 rfl ds) rfl) (r_op (o_pick_f (ev_t (z1 rfl (z2 rfl ds))) ev_c) rfl (m1 ds (r_off (want_not ds rfl) (r_off (want_not (z1 rfl ds) rfl) (r_off (want_not (z2 rfl ds) rfl) (r_op (o_pick_f (ev_t (z1 rfl (z2 rfl ds))) ev_c) rfl (m1 ds (r_nil (k_ret ?_))))))))))))))))))))))))))))))
    have hfin : ((false : Bool) = true ↔ ndOK ws x) := by
      have hz := hbare.zero
      unfold ndOK
      rw [hz, ← hokb]
      simp_all
    exact ⟨_, ans_tmp ds, _, rfl, hfin, by omega, hky⟩
  refine k_seq (k_reg (m1 p9 (m1 ds (r_op (o_faddr (off := 1) (ev_t (z2 rfl p8))) (want_on ds) (r_op (o_load (ev_t ds) hbr rfl) (want_on (z1 rfl ds)) ?_)))))
  by_cases hs82 : (op2 = 0)
  · refine r_op (dec_t (o_eql (ev_t ds) ev_c) hs82) (want_on (z2 rfl ds)) (r_op (o_pick_t (ev_t (z1 rfl (z2 rfl ds))) (ev_t ds)) rfl (m1 ds (r_op (o_faddr (off := 4) (ev_t (z1 rfl (z2 rfl (z4 rfl p8))))) (want_on ds) (r_op (o_load (ev_t ds) hbr rfl) (want_on (z1 rfl ds)) ?_))))
    by_cases hs83 : (vl2 = [])
    · refine r_op (dec_t (o_str_eql (ev_t ds) ev_c) hs83) (want_on (z2 rfl ds)) (r_op (o_pick_t (ev_t (z1 rfl (z2 rfl ds))) (ev_t ds)) rfl (m1 ds (r_op (o_faddr (off := 5) (ev_t (z4 rfl (z8 rfl p8)))) (want_on ds) (r_op (o_load (ev_t ds) hbr rfl) (want_on (z1 rfl ds)) ?_))))
      by_cases hs84 : (hi2 = 0)
      · refine r_op (dec_t (o_eql (ev_t ds) ev_c) hs84) (want_on (z2 rfl ds)) (r_op (o_pick_t (ev_t (z1 rfl (z2 rfl ds))) (ev_t ds)) rfl (m1 ds (r_op (o_faddr (off := 6) (ev_t (z1 rfl (z8 rfl (z8 rfl p8))))) (want_on ds) (r_op (o_load (ev_t ds) hbr rfl) (want_on (z1 rfl ds)) ?_))))
        by_cases hs85 : (lo2 = 0)
        · refine r_op (dec_t (o_eql (ev_t ds) ev_c) hs85) (want_on (z2 rfl ds)) (r_op (o_pick_t (ev_t (z1 rfl (z2 rfl ds))) (ev_t ds)) rfl (m1 ds (r_op (o_faddr (off := 7) (ev_t (z2 rfl (z4 rfl (z8 rfl (z8 rfl p8)))))) (want_on ds) (r_op (o_load (ev_t ds) hbr rfl) (want_on (z1 rfl ds)) (r_op (o_eql (ev_t ds) ev_c) (want_on (z2 rfl ds)) (r_op (o_pick_t (ev_t (z1 rfl (z2 rfl ds))) (ev_t ds)) rfl (m1 ds (r_nil (k_ret ?_)))))))))
          have hfin : (((decide (tm2 = 0)) : Bool) = true ↔ ndOK ws x) := by
            have hz := hbare.zero
            unfold ndOK
            rw [hz, ← hokb]
            simp_all
          exact ⟨_, ans_tmp ds, _, rfl, hfin, by omega, hky⟩
        refine r_op (dec_f (o_eql (ev_t ds) ev_c) hs85) (want_on (z2 rfl ds)) (r_op (o_pick_t (ev_t (z1 rfl (z2 rfl ds))) (ev_t ds)) rfl (m1 ds (r_off (want_not ds rfl) (r_off (want_not (z1 rfl ds) rfl) (r_off (want_not (z2 rfl ds) rfl) (r_op (o_pick_f (ev_t (z1 rfl (z2 rfl ds))) ev_c) rfl (m1 ds (r_nil (k_ret ?_)))))))))
        have hfin : ((false : Bool) = true ↔ ndOK ws x) := by
          have hz := hbare.zero
          unfold ndOK
          rw [hz, ← hokb]
          simp_all
        exact ⟨_, ans_tmp ds, _, rfl, hfin, by omega, hky⟩
      refine r_op (dec_f (o_eql (ev_t ds) ev_c) hs84) (want_on (z2 rfl ds)) (r_op (o_pick_t (ev_t (z1 rfl (z2 rfl ds))) (ev_t ds)) rfl (m1 ds (r_off (want_not ds rfl) (r_off (want_not (z1 rfl ds) rfl) (r_off (want_not (z2 rfl ds) rfl) (r_op (o_pick_f (ev_t (z1 rfl (z2 rfl ds))) ev_c) rfl (m1 ds (r_off (want_not ds rfl) (r_off (want_not (z1 rfl ds) rfl) (r_off (want_not (z2 rfl ds) rfl) (r_op (o_pick_f (ev_t (z1 rfl (z2 rfl ds))) ev_c) rfl (m1 ds (r_nil (k_ret ?_))))))))))))))
      have hfin : ((false : Bool) = true ↔ ndOK ws x) := by
        have hz := hbare.zero
        unfold ndOK
        rw [hz, ← hokb]
        simp_all
      exact ⟨_, ans_tmp ds, _, rfl, hfin, by omega, hky⟩
    refine r_op (dec_f (o_str_eql (ev_t ds) ev_c) hs83) (want_on (z2 rfl ds)) (r_op (o_pick_t (ev_t (z1 rfl (z2 rfl ds))) (ev_t ds)) rfl (m1 ds (r_off (want_not ds rfl) (r_off (want_not (z1 rfl ds) rfl) (r_off (want_not (z2 rfl ds) rfl) (r_op (o_pick_f (ev_t (z1 rfl (z2 rfl ds))) ev_c) rfl (m1 ds (r_off (want_not ds rfl) (r_off (want_not (z1 rfl ds) rfl) (r_off (want_not (z2 rfl ds) rfl) (r_op (o_pick_f (ev_t (z1 rfl (z2 rfl ds))) ev_c) rfl (m1 ds (r_off (want_not ds rfl) (r_off (want_not (z1 rfl ds) rfl) (r_off (want_not (z2 rfl ds) rfl) (r_op (o_pick_f (ev_t (z1 rfl (z2 rfl ds))) ev_c) rfl (m1 ds (r_nil (k_ret ?_)))))))))))))))))))
    have hfin : ((false : Bool) = true ↔ ndOK ws x) := by
      have hz := hbare.zero
      unfold ndOK
      rw [hz, ← hokb]
      simp_all
    exact ⟨_, ans_tmp ds, _, rfl, hfin, by omega, hky⟩
  refine r_op (dec_f (o_eql (ev_t ds) ev_c) hs82) (want_on (z2 rfl ds)) (r_op (o_pick_t (ev_t (z1 rfl (z2 rfl ds))) (ev_t ds)) rfl (m1 ds (r_off (want_not ds rfl) (r_off (want_not (z1 rfl ds) rfl) (r_off (want_not (z2 rfl ds) rfl) (r_op (o_pick_f (ev_t (z1 rfl (z2 rfl ds))) ev_c) rfl (m1 ds (r_off (want_not ds rfl) (r_off (want_not (z1 rfl ds) rfl) (r_off (want_not (z2 rfl ds) rfl) (r_op (o_pick_f (ev_t (z1 rfl (z2 rfl ds))) ev_c) rfl (m1 ds (r_off (want_not ds rfl) (r_off (want_not (z1 rfl ds) rfl) (r_off (want_not (z2 rfl ds) rfl) (r_op (o_pick_f (ev_t (z1 rfl (z2 rfl ds))) ev_c) rfl (m1 ds (r_off (want_not ds rfl) (r_off (want_not (z1 rfl ds) rfl) (r_off (want_not (z2 rfl ds) rfl) (r_op (o_pick_f (ev_t (z1 rfl (z2 rfl ds))) ev_c) rfl (m1 ds (r_nil (k_ret ?_))))))))))))))))))))))))
  have hfin : ((false : Bool) = true ↔ ndOK ws x) := by
    have hz := hbare.zero
    unfold ndOK
    rw [hz, ← hokb]
    simp_all
  exact ⟨_, ans_tmp ds, _, rfl, hfin, by omega, hky⟩
end Go.Proofs.YtpjohgnhmjceiaaGreatDoor.WX

