/- The program's functions in the evaluator's terms, part 4: what each of them answers, whatever comes in.
   Conditions: those of each theorem. -/
import Derived.Test.YtpjohgnhmjceiaaGreatDoorWx3
set_option linter.all false
set_option linter.unusedVariables false
set_option linter.unusedSectionVars false
set_option maxRecDepth 100000
open Go Go.Proofs.YtpjohgnhmjceiaaGreatDoor.AX Go.Proofs
namespace Go.Proofs.YtpjohgnhmjceiaaGreatDoor.WX
def hangs__r0 : List Ins := [⟨(some 1), none, (.op (.box (.t 0)))⟩,
  ⟨(some 2), none, (.op (.mov (.c .nslice)))⟩]
def hangs__r1 : List Ins := [⟨(some 3), none, (.op (.faddr (.t 1) 0))⟩,
  ⟨(some 4), none, (.op (.load (.t 3)))⟩]
def hangs__r2 : List Ins := [⟨(some 6), none, (.op (.bin .eql (.t 4) (.c (.int .i64 8))))⟩,
  ⟨(some 5), none, (.op (.mov (.t 6)))⟩]
def hangs__r3 : List Ins := [⟨(some 2), none, (.op (.mov (.c .nslice)))⟩]
def hangs__r4 : List Ins := [⟨(some 8), none, (.op (.bin .eql (.t 4) (.c (.int .i64 7))))⟩,
  ⟨(some 7), none, (.op (.mov (.t 8)))⟩]
def hangs__r5 : List Ins := [⟨(some 9), none, (.op (.faddr (.t 1) 3))⟩,
  ⟨(some 10), none, (.op (.load (.t 9)))⟩,
  ⟨(some 11), none, (.op (.cslice 1 (.t 10) none (some (.c (.int .i64 1))) none))⟩,
  ⟨(some 2), none, (.op (.mov (.t 11)))⟩]
def hangs__r6 : List Ins := [⟨(some 12), none, (.op (.faddr (.t 1) 3))⟩,
  ⟨(some 13), none, (.op (.load (.t 12)))⟩,
  ⟨(some 2), none, (.op (.mov (.t 13)))⟩]
def hangs__c : IC := (.seq (.reg hangs__r0) (.seq (.seq (.reg hangs__r1) (.block 0 (.seq (.reg hangs__r2) (.cond (.t 5) (.seq (.reg hangs__r3) .ret) (.seq (.reg hangs__r4) (.cond (.t 7) (.seq (.reg hangs__r5) .ret) .skip)))))) (.seq (.reg hangs__r6) .ret)))
theorem hangs__tab : tb 158 = some (.code 1 14 hangs__c [.tmp 2]) := by kernel_rfl
def levels_r0 : List Ins := [⟨(some 1), none, (.op (.box (.t 0)))⟩,
  ⟨(some 2), none, (.op (.mov (.c .nslice)))⟩,
  ⟨(some 3), none, (.op (.mov (.c .nslice)))⟩,
  ⟨(some 4), none, (.op (.mov (.c (.int .i64 0))))⟩]
def levels_r1 : List Ins := [⟨(some 19), none, (.op (.faddr (.t 1) 0))⟩,
  ⟨(some 20), none, (.op (.load (.t 19)))⟩,
  ⟨(some 21), none, (.op (.len .slc (.t 20)))⟩,
  ⟨(some 22), none, (.op (.mkslice 1 [(.int .i64 0)] (.t 21) (.t 21)))⟩,
  ⟨(some 5), none, (.op (.mov (.t 22)))⟩]
def levels_r2 : List Ins := [⟨(some 23), none, (.op (.faddr (.t 1) 0))⟩,
  ⟨(some 24), none, (.op (.load (.t 23)))⟩,
  ⟨(some 25), none, (.op (.len .slc (.t 24)))⟩,
  ⟨(some 26), none, (.op (.mkslice 1 [(.int .i64 0)] (.t 25) (.t 25)))⟩,
  ⟨(some 6), none, (.op (.mov (.t 26)))⟩]
def levels_r3 : List Ins := [⟨(some 27), none, (.op (.faddr (.t 1) 0))⟩,
  ⟨(some 28), none, (.op (.load (.t 27)))⟩,
  ⟨(some 29), none, (.op (.len .slc (.t 28)))⟩,
  ⟨(some 30), none, (.op (.mkslice 1 [(.bool false)] (.t 29) (.t 29)))⟩,
  ⟨(some 7), none, (.op (.mov (.t 30)))⟩]
def levels_r4 : List Ins := [⟨(some 31), none, (.op (.faddr (.t 1) 0))⟩,
  ⟨(some 32), none, (.op (.load (.t 31)))⟩,
  ⟨(some 33), none, (.op (.len .slc (.t 32)))⟩,
  ⟨(some 34), none, (.op (.mkslice 1 [.nslice] (.t 33) (.t 33)))⟩,
  ⟨(some 8), none, (.op (.mov (.t 34)))⟩]
def levels_r5 : List Ins := [⟨(some 9), none, (.op (.mov (.c .nslice)))⟩]
def levels_r6 : List Ins := [⟨(some 35), none, (.op (.faddr (.t 1) 0))⟩,
  ⟨(some 36), none, (.op (.load (.t 35)))⟩,
  ⟨(some 37), none, (.op (.len .slc (.t 36)))⟩,
  ⟨(some 38), none, (.op (.mov (.c (.int .i64 0))))⟩]
def levels_r7 : List Ins := [⟨(some 39), none, (.op (.bin .lss (.t 38) (.t 37)))⟩]
def levels_r8 : List Ins := [⟨(some 40), none, (.op (.mov (.t 38)))⟩,
  ⟨(some 41), none, (.op (.iaddr 8 (.t 36) (.t 38)))⟩,
  ⟨(some 42), none, (.op (.loadA 8 (.t 41)))⟩,
  ⟨(some 11), none, (.op (.alloc [(.int .i64 0), (.int .i64 0), (.int .i64 0), .nslice, (.str []), (.int .i64 0), (.int .i64 0), (.int .i64 0)]))⟩,
  ⟨(some 10), none, (.op (.mov (.t 40)))⟩,
  ⟨none, none, (.op (.store 8 (.t 11) (.t 42)))⟩]
def levels_r9 : List Ins := [⟨(some 43), none, (.op (.loadA 8 (.t 11)))⟩,
  ⟨(some 44), none, (.callF 158 [(.t 43)])⟩,
  ⟨(some 12), none, (.op (.mov (.t 44)))⟩]
def levels_r10 : List Ins := [⟨(some 45), none, (.op (.mov (.t 6)))⟩,
  ⟨(some 46), none, (.op (.mov (.t 10)))⟩,
  ⟨(some 47), none, (.op (.mov (.t 12)))⟩,
  ⟨(some 48), none, (.op (.len .slc (.t 47)))⟩,
  ⟨(some 49), none, (.op (.iaddr 1 (.t 45) (.t 46)))⟩,
  ⟨none, none, (.op (.store 1 (.t 49) (.t 48)))⟩]
def levels_r11 : List Ins := [⟨(some 50), none, (.op (.mov (.t 12)))⟩,
  ⟨(some 51), none, (.op (.len .slc (.t 50)))⟩,
  ⟨(some 52), none, (.op (.mov (.c (.int .i64 0))))⟩]
def levels_r12 : List Ins := [⟨(some 53), none, (.op (.bin .lss (.t 52) (.t 51)))⟩]
def levels_r13 : List Ins := [⟨(some 54), none, (.op (.iaddr 1 (.t 50) (.t 52)))⟩,
  ⟨(some 55), none, (.op (.load (.t 54)))⟩,
  ⟨(some 14), none, (.op (.mov (.t 55)))⟩]
def levels_r14 : List Ins := [⟨(some 56), none, (.op (.mov (.t 8)))⟩,
  ⟨(some 57), none, (.op (.mov (.t 14)))⟩,
  ⟨(some 58), none, (.op (.mov (.t 8)))⟩,
  ⟨(some 59), none, (.op (.mov (.t 14)))⟩,
  ⟨(some 60), none, (.op (.iaddr 1 (.t 58) (.t 59)))⟩,
  ⟨(some 61), none, (.op (.load (.t 60)))⟩,
  ⟨(some 62), none, (.op (.mov (.t 10)))⟩,
  ⟨(some 63), none, (.op (.bslice 1 1 [(.int .i64 0)] [(0, 1, (.t 62))]))⟩,
  ⟨(some 64), none, (.op (.app 1 (.t 61) (.t 63)))⟩,
  ⟨(some 65), none, (.op (.iaddr 1 (.t 56) (.t 57)))⟩,
  ⟨none, none, (.op (.store 1 (.t 65) (.t 64)))⟩]
def levels_r15 : List Ins := [⟨(some 66), none, (.op (.bin .add (.t 52) (.c (.int .i64 1))))⟩,
  ⟨(some 52), none, (.op (.mov (.t 66)))⟩]
def levels_r16 : List Ins := [⟨(some 67), none, (.op (.mov (.t 12)))⟩,
  ⟨(some 68), none, (.op (.len .slc (.t 67)))⟩,
  ⟨(some 69), none, (.op (.bin .eql (.t 68) (.c (.int .i64 0))))⟩]
def levels_r17 : List Ins := [⟨(some 70), none, (.op (.mov (.t 9)))⟩,
  ⟨(some 71), none, (.op (.mov (.t 10)))⟩,
  ⟨(some 72), none, (.op (.bslice 1 1 [(.int .i64 0)] [(0, 1, (.t 71))]))⟩,
  ⟨(some 73), none, (.op (.app 1 (.t 70) (.t 72)))⟩,
  ⟨(some 9), none, (.op (.mov (.t 73)))⟩]
def levels_r18 : List Ins := [⟨(some 74), none, (.op (.bin .add (.t 38) (.c (.int .i64 1))))⟩,
  ⟨(some 38), none, (.op (.mov (.t 74)))⟩]
def levels_r19 : List Ins := [⟨(some 15), none, (.op (.mov (.c (.int .i64 0))))⟩]
def levels_r20 : List Ins := [⟨(some 75), none, (.op (.mov (.t 9)))⟩,
  ⟨(some 76), none, (.op (.len .slc (.t 75)))⟩,
  ⟨(some 77), none, (.op (.bin .gtr (.t 76) (.c (.int .i64 0))))⟩]
def levels_r21 : List Ins := [⟨(some 78), none, (.op (.mov (.t 9)))⟩,
  ⟨(some 79), none, (.op (.mov (.t 9)))⟩,
  ⟨(some 80), none, (.op (.len .slc (.t 79)))⟩,
  ⟨(some 81), none, (.op (.bin .sub (.t 80) (.c (.int .i64 1))))⟩,
  ⟨(some 82), none, (.op (.iaddr 1 (.t 78) (.t 81)))⟩,
  ⟨(some 83), none, (.op (.load (.t 82)))⟩,
  ⟨(some 16), none, (.op (.mov (.t 83)))⟩]
def levels_r22 : List Ins := [⟨(some 84), none, (.op (.mov (.t 9)))⟩,
  ⟨(some 85), none, (.op (.mov (.t 9)))⟩,
  ⟨(some 86), none, (.op (.len .slc (.t 85)))⟩,
  ⟨(some 87), none, (.op (.bin .sub (.t 86) (.c (.int .i64 1))))⟩,
  ⟨(some 88), none, (.op (.cslice 1 (.t 84) none (some (.t 87)) none))⟩,
  ⟨(some 9), none, (.op (.mov (.t 88)))⟩]
def levels_r23 : List Ins := [⟨(some 89), none, (.op (.mov (.t 7)))⟩,
  ⟨(some 90), none, (.op (.mov (.t 16)))⟩,
  ⟨(some 91), none, (.op (.iaddr 1 (.t 89) (.t 90)))⟩,
  ⟨none, none, (.op (.store 1 (.t 91) (.c (.bool true))))⟩]
def levels_r24 : List Ins := [⟨(some 92), none, (.op (.mov (.t 15)))⟩,
  ⟨(some 93), none, (.op (.bin .add (.t 92) (.c (.int .i64 1))))⟩,
  ⟨(some 15), none, (.op (.mov (.t 93)))⟩]
def levels_r25 : List Ins := [⟨(some 94), none, (.op (.mov (.t 8)))⟩,
  ⟨(some 95), none, (.op (.mov (.t 16)))⟩,
  ⟨(some 96), none, (.op (.iaddr 1 (.t 94) (.t 95)))⟩,
  ⟨(some 97), none, (.op (.load (.t 96)))⟩,
  ⟨(some 98), none, (.op (.len .slc (.t 97)))⟩,
  ⟨(some 99), none, (.op (.mov (.c (.int .i64 0))))⟩]
def levels_r26 : List Ins := [⟨(some 100), none, (.op (.bin .lss (.t 99) (.t 98)))⟩]
def levels_r27 : List Ins := [⟨(some 101), none, (.op (.iaddr 1 (.t 97) (.t 99)))⟩,
  ⟨(some 102), none, (.op (.load (.t 101)))⟩,
  ⟨(some 18), none, (.op (.mov (.t 102)))⟩]
def levels_r28 : List DIns := [⟨0, [], ⟨(some 103), none, (.op (.mov (.t 5)))⟩⟩,
  ⟨1, [], ⟨(some 104), none, (.op (.mov (.t 18)))⟩⟩,
  ⟨2, [], ⟨(some 105), none, (.op (.mov (.t 5)))⟩⟩,
  ⟨3, [], ⟨(some 106), none, (.op (.mov (.t 18)))⟩⟩,
  ⟨4, [2, 3], ⟨(some 107), none, (.op (.iaddr 1 (.t 105) (.t 106)))⟩⟩,
  ⟨5, [4], ⟨(some 108), none, (.op (.load (.t 107)))⟩⟩,
  ⟨6, [], ⟨(some 109), none, (.op (.mov (.t 5)))⟩⟩,
  ⟨7, [], ⟨(some 110), none, (.op (.mov (.t 16)))⟩⟩,
  ⟨8, [6, 7], ⟨(some 111), none, (.op (.iaddr 1 (.t 109) (.t 110)))⟩⟩,
  ⟨9, [8], ⟨(some 112), none, (.op (.load (.t 111)))⟩⟩,
  ⟨10, [9], ⟨(some 113), none, (.op (.bin .add (.t 112) (.c (.int .i64 1))))⟩⟩,
  ⟨11, [5, 10], ⟨(some 114), none, (.op (.mm true (.t 108) (.t 113)))⟩⟩,
  ⟨12, [0, 1, 0, 1, 2, 3, 4, 5, 6, 7, 8, 9, 10, 11], ⟨(some 115), none, (.op (.iaddr 1 (.t 103) (.t 104)))⟩⟩,
  ⟨13, [12, 11, 0, 1, 2, 3, 4, 5, 6, 7, 8, 9, 10, 11], ⟨none, none, (.op (.store 1 (.t 115) (.t 114)))⟩⟩]
def levels_r29 : List Ins := [⟨(some 116), none, (.op (.mov (.t 6)))⟩,
  ⟨(some 117), none, (.op (.mov (.t 18)))⟩,
  ⟨(some 118), none, (.op (.iaddr 1 (.t 116) (.t 117)))⟩,
  ⟨(some 119), none, (.op (.load (.t 118)))⟩,
  ⟨(some 120), none, (.op (.bin .sub (.t 119) (.c (.int .i64 1))))⟩,
  ⟨(some 121), none, (.op (.iaddr 1 (.t 116) (.t 117)))⟩,
  ⟨none, none, (.op (.store 1 (.t 121) (.t 120)))⟩]
def levels_r30 : List Ins := [⟨(some 122), none, (.op (.mov (.t 6)))⟩,
  ⟨(some 123), none, (.op (.mov (.t 18)))⟩,
  ⟨(some 124), none, (.op (.iaddr 1 (.t 122) (.t 123)))⟩,
  ⟨(some 125), none, (.op (.load (.t 124)))⟩,
  ⟨(some 126), none, (.op (.bin .eql (.t 125) (.c (.int .i64 0))))⟩]
def levels_r31 : List Ins := [⟨(some 127), none, (.op (.mov (.t 9)))⟩,
  ⟨(some 128), none, (.op (.mov (.t 18)))⟩,
  ⟨(some 129), none, (.op (.bslice 1 1 [(.int .i64 0)] [(0, 1, (.t 128))]))⟩,
  ⟨(some 130), none, (.op (.app 1 (.t 127) (.t 129)))⟩,
  ⟨(some 9), none, (.op (.mov (.t 130)))⟩]
def levels_r32 : List Ins := [⟨(some 131), none, (.op (.bin .add (.t 99) (.c (.int .i64 1))))⟩,
  ⟨(some 99), none, (.op (.mov (.t 131)))⟩]
def levels_r33 : List Ins := [⟨(some 132), none, (.op (.mov (.t 5)))⟩,
  ⟨(some 133), none, (.op (.mov (.t 7)))⟩,
  ⟨(some 134), none, (.op (.mov (.t 15)))⟩,
  ⟨(some 2), none, (.op (.mov (.t 132)))⟩,
  ⟨(some 3), none, (.op (.mov (.t 133)))⟩,
  ⟨(some 4), none, (.op (.mov (.t 134)))⟩]
def levels_c : IC := (.seq (.reg levels_r0) (.seq (.reg levels_r1) (.seq (.reg levels_r2) (.seq (.reg levels_r3) (.seq (.reg levels_r4) (.seq (.reg levels_r5) (.seq (.seq (.reg levels_r6) (.block 0 (.loop (.seq (.reg levels_r7) (.seq (.cond (.t 39) .skip (.exit 0)) (.seq (.block 1 (.seq (.reg levels_r8) (.seq (.reg levels_r9) (.seq (.reg levels_r10) (.seq (.seq (.reg levels_r11) (.block 2 (.loop (.seq (.reg levels_r12) (.seq (.cond (.t 53) .skip (.exit 2)) (.seq (.block 3 (.seq (.reg levels_r13) (.reg levels_r14))) (.reg levels_r15))))))) (.seq (.reg levels_r16) (.cond (.t 69) (.reg levels_r17) .skip))))))) (.reg levels_r18))))))) (.seq (.reg levels_r19) (.seq (.block 4 (.loop (.seq (.seq (.reg levels_r20) (.cond (.t 77) .skip (.exit 4))) (.block 5 (.seq (.reg levels_r21) (.seq (.reg levels_r22) (.seq (.reg levels_r23) (.seq (.reg levels_r24) (.seq (.reg levels_r25) (.block 6 (.loop (.seq (.reg levels_r26) (.seq (.cond (.t 100) .skip (.exit 6)) (.seq (.block 7 (.seq (.reg levels_r27) (.seq (.draw levels_r28) (.seq (.reg levels_r29) (.seq (.reg levels_r30) (.cond (.t 126) (.reg levels_r31) .skip)))))) (.reg levels_r32))))))))))))))) (.seq (.reg levels_r33) .ret))))))))))
theorem levels_tab : tb 106 = some (.code 1 135 levels_c [.tmp 2, .tmp 3, .tmp 4]) := by kernel_rfl
def lrun__r0 : List Ins := [⟨(some 1), none, (.op (.box (.t 0)))⟩,
  ⟨(some 2), none, (.op (.mov (.c .nslice)))⟩,
  ⟨(some 3), none, (.op (.mov (.c (.int .i64 0))))⟩]
def lrun__r1 : List Ins := [⟨(some 7), none, (.op (.loadA 3 (.t 1)))⟩,
  ⟨(some 8), none, (.callF 48 [(.t 7)])⟩,
  ⟨(some 9), none, (.op (.bin .neq (.t 8) (.c (.int .i64 0))))⟩]
def lrun__r2 : List Ins := [⟨(some 2), none, (.op (.mov (.c .nslice)))⟩,
  ⟨(some 3), none, (.op (.mov (.c (.int .i64 1))))⟩]
def lrun__r3 : List Ins := [⟨(some 11), none, (.op (.loadA 3 (.t 1)))⟩,
  ⟨(some 12), none, (.callF 106 [(.t 11)])⟩,
  ⟨(some 10), none, (.op (.mov (.t 12)))⟩,
  ⟨(some 13), none, (.op (.extr (.t 10) 0))⟩,
  ⟨(some 14), none, (.op (.extr (.t 10) 1))⟩,
  ⟨(some 15), none, (.op (.extr (.t 10) 2))⟩,
  ⟨(some 4), none, (.op (.mov (.t 13)))⟩,
  ⟨(some 5), none, (.op (.mov (.t 14)))⟩,
  ⟨(some 6), none, (.op (.mov (.t 15)))⟩]
def lrun__r4 : List Ins := [⟨(some 16), none, (.op (.mov (.t 6)))⟩,
  ⟨(some 17), none, (.op (.faddr (.t 1) 0))⟩,
  ⟨(some 18), none, (.op (.load (.t 17)))⟩,
  ⟨(some 19), none, (.op (.len .slc (.t 18)))⟩,
  ⟨(some 20), none, (.op (.bin .lss (.t 16) (.t 19)))⟩]
def lrun__r5 : List Ins := [⟨(some 2), none, (.op (.mov (.c .nslice)))⟩,
  ⟨(some 3), none, (.op (.mov (.c (.int .i64 110))))⟩]
def lrun__r6 : List Ins := [⟨(some 21), none, (.op (.mov (.t 4)))⟩,
  ⟨(some 2), none, (.op (.mov (.t 21)))⟩,
  ⟨(some 3), none, (.op (.mov (.c (.int .i64 0))))⟩]
def lrun__c : IC := (.seq (.reg lrun__r0) (.seq (.seq (.reg lrun__r1) (.cond (.t 9) (.seq (.reg lrun__r2) .ret) .skip)) (.seq (.reg lrun__r3) (.seq (.seq (.reg lrun__r4) (.cond (.t 20) (.seq (.reg lrun__r5) .ret) .skip)) (.seq (.reg lrun__r6) .ret)))))
theorem lrun__tab : tb 52 = some (.code 1 22 lrun__c [.tmp 2, .tmp 3]) := by kernel_rfl
variable [Env]
theorem o_cslice_hi {T : TA} {t : TB} {nx : Nat} {sz : Nat} {x y : Opd} {w : AV} {b o n c m : Nat} {ex : Bool} {k : IntKind} (hx : x.ev T = some w) (hw : w = .slice b o n c sz ex) (hy : y.ev T = some (.int k (m : Int))) (hm : m ≤ c) : (IOp.cslice sz x none (some y) none).run T t nx = .ok (.slice b o m c sz ex) t nx := by
  subst hw
  have e : y.ev T = some (.int k (.ofNat m)) := hy
  have hbd : bnd y T c = some m := by
    unfold bnd
    rw [e]
    dsimp only [idx]
    rw [show Nat.ble m c = true from by simp; omega]
  have hbs : bnds T n c none (some y) none = some (0, m, c) := by
    unfold bnds
    dsimp only
    rw [hbd]
  simp only [IOp.run, hx, hbs]
  rw [show Nat.beq sz sz = true from by simp]
  simp only [fNat_eq]
  show V1.ok (AV.slice b (Nat.add o (Nat.mul 0 sz)) (Nat.sub m 0) (Nat.sub c 0) sz ex) t nx = _
  rw [show Nat.mul 0 sz = 0 from Nat.zero_mul sz]
  rfl
theorem o_maxI {T : TA} {t : TB} {nx : Nat} {x y : Opd} {a b : Int} (hx : x.ev T = some (.int .i64 a)) (hy : y.ev T = some (.int .i64 b)) : ∃ v, (IOp.mm true x y).run T t nx = .ok v t nx ∧ ∃ c : Int, v = .int .i64 c ∧ (c = a ∨ c = b) := by
  simp only [IOp.run, hx, hy]
  cases iLt a b with
  | true => exact ⟨_, rfl, _, rfl, .inr rfl⟩
  | false => exact ⟨_, rfl, _, rfl, .inl rfl⟩
theorem ints_get {l : List Int} {i : Nat} {a : Int} (h : l[i]? = some a) : (ints l)[i]? = some (.int .i64 a) := by simp [ints, i64, h]
theorem ints_set (l : List Int) (i : Nat) (a : Int) : (ints l).set i (.int .i64 a) = ints (l.set i a) := by simp [ints, i64, List.map_set]
theorem o_storeC {T : TA} {t : TB} {nx : Nat} {x y : Opd} {b o : Nat} {l : List AV} {v : AV} (h : x.ev T = some (.ptr b o)) (hy : y.ev T = some v) (hv1 : v.cells = [v]) (hc : isCell v = true) (hb : hv t b = some (.row l true)) (ho : o < l.length) :
    ∃ t', (IOp.store 1 x y).run T t nx = .ok .undef t' nx ∧ hv t' = upd (hv t) b (some (.row (l.set o v) true)) := by
  obtain ⟨t', h1, h2⟩ := o_store (n := 1) h hy hb (by rw [hv1]; rfl) (by rw [hv1]; simp [allCell, hc]) (by omega)
  refine ⟨t', h1, ?_⟩
  rw [h2, hv1, splice_one _ _ _ ho]
theorem o_storeI {T : TA} {t : TB} {nx : Nat} {x y : Opd} {b o : Nat} {l : List Int} {a : Int} (h : x.ev T = some (.ptr b o)) (hy : y.ev T = some (.int .i64 a)) (hb : hv t b = some (.row (ints l) true)) (ho : o < l.length) :
    ∃ t', (IOp.store 1 x y).run T t nx = .ok .undef t' nx ∧ hv t' = upd (hv t) b (some (.row (ints (l.set o a)) true)) := by
  rw [← ints_set]
  exact o_storeC h hy rfl rfl hb (by rw [ints_len]; exact ho)
theorem repl_one (v : AV) (n : Nat) : repl [v] n = List.replicate n v := by
  rw [repl_eq]
  induction n with
  | zero => rfl
  | succ n ih => rw [List.replicate_succ, List.flatten_cons, ih]; rfl
theorem o_mkrow {T : TA} {t : TB} {nx : Nat} {x y : Opd} {w : Nat} {v : AV} (hx : x.ev T = some (.int .i64 (w : Int))) (hy : y.ev T = some (.int .i64 (w : Int))) (h : w ≤ 65536) :
    ∃ t', (IOp.mkslice 1 [v] x y).run T t nx = .ok (.slice nx 0 w w 1 true) t' (nx + 1) ∧ hv t' = upd (hv t) nx (some (.row (List.replicate w v) true)) := by
  rw [← repl_one]; exact o_mkslice hx hy (Nat.le_refl _) (by omega) rfl
/-! ### Numbers in lists -/
theorem nodup_len : ∀ (n : Nat) (l : List Nat), l.Nodup → (∀ a ∈ l, a < n) → l.length ≤ n
  | 0, [], _, _ => Nat.le_refl _
  | 0, a :: l, _, h => by have := h a (by simp); omega
  | n + 1, l, hn, h => by
    by_cases hm : n ∈ l
    · have h1 := nodup_len n (l.erase n) (hn.erase n) (fun a ha => by
        have h2 := h a (List.mem_of_mem_erase ha)
        have h3 : a ≠ n := by intro e; subst e; exact hn.not_mem_erase ha
        omega)
      rw [List.length_erase_of_mem hm] at h1
      omega
    · have h1 := nodup_len n l hn (fun a ha => by
        have h2 := h a ha
        have h3 : a ≠ n := by intro e; subst e; exact hm ha
        omega)
      omega
theorem all_len : ∀ (n : Nat) (l : List Nat), (∀ a, a < n → a ∈ l) → n ≤ l.length
  | 0, l, _ => Nat.zero_le _
  | n + 1, l, h => by
    have hm := h n (by omega)
    have h1 := all_len n (l.erase n) (fun a ha => (List.mem_erase_of_ne (by omega)).2 (h a (by omega)))
    rw [List.length_erase_of_mem hm] at h1
    have : 0 < l.length := List.length_pos_of_mem hm
    omega
/-- How many of a list's numbers are not done. -/
def left (E : Nat → List Nat) (D : List Nat) (i : Nat) : Nat := (E i).countP (fun k => decide (k ∉ D))
theorem left_cons {E : Nat → List Nat} {D : List Nat} {d : Nat} (hd : d ∉ D) (i : Nat) : left E D i = left E (d :: D) i + (E i).count d := by
  unfold left
  induction E i with
  | nil => rfl
  | cons k l ih =>
    rw [List.countP_cons, List.countP_cons, List.count_cons, ih]
    by_cases e : k = d
    · subst e; simp [hd]; omega
    · by_cases e2 : k ∈ D
      · simp [e2, e]
      · simp [e2, e]; omega
theorem left_zero {E : Nat → List Nat} {D : List Nat} {i : Nat} (h : ∀ k ∈ E i, k ∈ D) : left E D i = 0 := by
  unfold left
  rw [List.countP_eq_zero]
  intro k hk
  simp [h k hk]
/-- All is done where nothing waits that could go on. -/
theorem all_done {E : Nat → List Nat} {n : Nat} {D : List Nat} (hE : ∀ i, i < n → ∀ k ∈ E i, k < i) (h : ∀ i, i < n → (i ∈ D ↔ left E D i = 0)) : n ≤ D.length := by
  apply all_len
  intro i
  induction i using Nat.strongRecOn with
  | ind i ih =>
    intro hi
    exact (h i hi).2 (left_zero (fun k hk => ih k (hE i hi k hk) (by have := hE i hi k hk; omega)))
/-- How the walk stands: done, ready, fans, what is left of the fan at hand. -/
structure Lv (E : Nat → List Nat) (n : Nat) (F : Nat → List Nat) (D S : List Nat) (Wt : List Int) (rest : List Nat) : Prop where
  dup : (S ++ D).Nodup
  lt : ∀ a ∈ S ++ D, a < n
  wl : Wt.length = n
  w : ∀ i, i < n → Wt[i]? = some ((left E D i + rest.count i : Nat) : Int)
  zero : ∀ i, i < n → (i ∈ S ++ D ↔ left E D i + rest.count i = 0)
theorem Lv.pop {E : Nat → List Nat} {n : Nat} {F : Nat → List Nat} {D S : List Nat} {Wt : List Int} {d : Nat} (h : Lv E n F D (S ++ [d]) Wt []) (hF : ∀ i, i < n → (F d).count i = (E i).count d) : Lv E n F (d :: D) S Wt (F d) := by
  have e : S ++ [d] ++ D = S ++ d :: D := by simp
  have hd : d ∉ D := by
    have := h.dup
    rw [e, List.nodup_append] at this
    exact (List.nodup_cons.1 this.2.1).1
  refine ⟨by rw [← e]; exact h.dup, by rw [← e]; exact h.lt, h.wl, fun i hi => ?_, fun i hi => ?_⟩
  · rw [h.w i hi, left_cons hd, hF i hi]; simp
  · rw [← e, h.zero i hi, left_cons hd, hF i hi]; simp
theorem Lv.dec {E : Nat → List Nat} {n : Nat} {F : Nat → List Nat} {D S : List Nat} {Wt : List Int} {a : Nat} {rest : List Nat} {u : Int} (h : Lv E n F D S Wt (a :: rest)) (ha : a < n) (hu : Wt[a]? = some u) :
    1 ≤ u ∧ u ≤ Int.ofNat (left E D a + (a :: rest).count a) ∧ (u - 1 = 0 → Lv E n F D (S ++ [a]) (Wt.set a (u - 1)) rest) ∧ (u - 1 ≠ 0 → Lv E n F D S (Wt.set a (u - 1)) rest) := by
  have h1 := h.w a ha
  rw [hu] at h1
  have hu1 : u = ((left E D a + (a :: rest).count a : Nat) : Int) := by simpa using h1
  have hc : (a :: rest).count a = rest.count a + 1 := List.count_cons_self
  have hw : ∀ i, i < n → (Wt.set a (u - 1))[i]? = some ((left E D i + rest.count i : Nat) : Int) := by
    intro i hi
    rw [List.getElem?_set]
    by_cases e : a = i
    · subst e
      rw [if_pos rfl, if_pos (by rw [h.wl]; exact ha), hu1, hc]
      congr 1; omega
    · rw [if_neg e, h.w i hi, List.count_cons_of_ne e]
  have hna : a ∉ S ++ D := fun hm => by
    have := (h.zero a ha).1 hm
    omega
  refine ⟨by omega, by rw [hu1]; exact Int.le_refl _, fun h0 => ?_, fun h0 => ?_⟩
  · have hp : (S ++ [a] ++ D).Perm (a :: (S ++ D)) := by
      rw [List.append_assoc]
      exact List.perm_middle
    refine ⟨hp.nodup_iff.2 (List.nodup_cons.2 ⟨hna, h.dup⟩), fun b hb => ?_, by rw [List.length_set]; exact h.wl, hw, fun i hi => ?_⟩
    · rcases List.mem_cons.1 (hp.mem_iff.1 hb) with rfl | hb
      · exact ha
      · exact h.lt b hb
    · rw [hp.mem_iff, List.mem_cons]
      have hz := h.zero i hi
      by_cases e : i = a
      · subst e
        exact ⟨fun _ => by omega, fun _ => .inl rfl⟩
      · rw [List.count_cons_of_ne (fun e' => e e'.symm)] at hz
        rw [← hz]
        exact ⟨fun h => h.resolve_left e, .inr⟩
  · refine ⟨h.dup, h.lt, by rw [List.length_set]; exact h.wl, hw, fun i hi => ?_⟩
    have hz := h.zero i hi
    by_cases e : i = a
    · subst e
      refine ⟨fun hm => absurd hm hna, fun h2 => ?_⟩
      exfalso; omega
    · rw [List.count_cons_of_ne (fun e' => e e'.symm)] at hz
      exact hz
theorem Lv.few {E : Nat → List Nat} {n : Nat} {F : Nat → List Nat} {D S : List Nat} {Wt : List Int} {rest : List Nat} (h : Lv E n F D S Wt rest) : S.length + D.length ≤ n := by
  have := nodup_len n _ h.dup h.lt
  simpa using this
theorem rowI_one {t : TB} {bd di oi ci : Nat} {exi wri : Bool} {ri : List AV} {l : List Int} (hs : (ri.drop oi).take l.length = ints l) (hd : di < bd) (hr : hv t di = some (.row ri wri)) (hl : oi + l.length ≤ ri.length ∧ l.length ≤ ci) (h1 : 1 ≤ l.length) : RowI t bd (.slice di oi 1 (max ci 1) 1 exi) (l.take 1) := by
  have e : (l.take 1).length = 1 := by rw [List.length_take]; omega
  refine .inr ⟨di, oi, max ci 1, exi, wri, ri, by rw [e], hd, hr, by omega, ?_⟩
  rw [e]
  have h2 := congrArg (List.take 1) hs
  rw [List.take_take, Nat.min_eq_left h1] at h2
  rw [h2]; unfold ints; rw [← List.map_take]
theorem o_cslice_lo {T : TA} {t : TB} {nx : Nat} {x : Opd} {w : AV} {b o n c : Nat} {ex : Bool} (hx : x.ev T = some w) (hw : w = .slice b o n c 1 ex) (hm : 1 ≤ c) : (IOp.cslice 1 x none (some (.c (.int .i64 1))) none).run T t nx = .ok (.slice b o 1 (max c 1) 1 ex) t nx := by
  rw [Nat.max_eq_left hm]
  exact o_cslice_hi (m := 1) hx hw rfl hm
/-! ### Fans and the ready list -/
def nints (l : List Nat) : List Int := l.map (fun (k : Nat) => (k : Int))
theorem nints_len (l : List Nat) : (nints l).length = l.length := by simp [nints]
theorem nints_get {l : List Nat} {i k : Nat} (h : l[i]? = some k) : (nints l)[i]? = some (k : Int) := by simp [nints, h]
theorem nints_app (l m : List Nat) : nints (l ++ m) = nints l ++ nints m := by simp [nints]
def fanV (l : List Nat) (d : Nat) : AV := match l with | [] => .nslice | _ => .slice d 0 l.length l.length 1 false
def fansR (n : Nat) (F : Nat → List Nat) (dF : Nat → Nat) : List AV := (List.range n).map (fun k => fanV (F k) (dF k))
theorem fansR_len (n : Nat) (F : Nat → List Nat) (dF : Nat → Nat) : (fansR n F dF).length = n := by simp [fansR]
theorem fansR_get {n : Nat} {F : Nat → List Nat} {dF : Nat → Nat} {k : Nat} (h : k < n) : (fansR n F dF)[k]? = some (fanV (F k) (dF k)) := by simp [fansR, h]
def fset {α : Type} (f : Nat → α) (k : Nat) (v : α) : Nat → α := fun i => if i = k then v else f i
theorem fansR_set {n : Nat} {F : Nat → List Nat} {dF : Nat → Nat} {k : Nat} (h : k < n) (l : List Nat) (d : Nat) : (fansR n F dF).set k (fanV l d) = fansR n (fset F k l) (fset dF k d) := by
  apply List.ext_getElem?
  intro i
  rw [List.getElem?_set]
  by_cases hi : i < n
  · rw [fansR_get hi, fansR_get hi, fansR_len]
    by_cases e : k = i
    · subst e; rw [if_pos rfl, if_pos h]; simp [fset]
    · rw [if_neg e]
      have e' : ¬ i = k := fun x => e x.symm
      simp [fset, e']
  · have h1 : (fansR n F dF)[i]? = none := List.getElem?_eq_none (by rw [fansR_len]; omega)
    have h2 : (fansR n (fset F k l) (fset dF k d))[i]? = none := List.getElem?_eq_none (by rw [fansR_len]; omega)
    rw [h1, h2, fansR_len]
    by_cases e : k = i
    · omega
    · rw [if_neg e]
/-- The fans' own blocks: all different, from lo on, below hi, and not x. -/
structure Fans (t : TB) (lo hi x b : Nat) (n : Nat) (F : Nat → List Nat) (dF : Nat → Nat) : Prop where
  row : hv t b = some (.row (fansR n F dF) true)
  at_ : ∀ k, k < n → F k ≠ [] → hv t (dF k) = some (.row (ints (nints (F k))) true) ∧ lo ≤ dF k ∧ dF k < hi ∧ dF k ≠ x
  ne : ∀ j k, j < n → k < n → F j ≠ [] → F k ≠ [] → j ≠ k → dF j ≠ dF k
theorem Fans.keep {t t' : TB} {lo hi hi' x x' b n : Nat} {F : Nat → List Nat} {dF : Nat → Nat} (h : Fans t lo hi x b n F dF) (hb : b < lo) (hh : hi ≤ hi') (k : ∀ d, d < hi → (d = b ∨ (lo ≤ d ∧ d ≠ x)) → hv t' d = hv t d) (hx : x' = x ∨ hi ≤ x') (hlo : lo ≤ hi) : Fans t' lo hi' x' b n F dF := by
  refine ⟨(k b (by omega) (.inl rfl)).trans h.row, fun j hj hn => ?_, h.ne⟩
  obtain ⟨h1, h2, h3, h4⟩ := h.at_ j hj hn
  exact ⟨(k _ h3 (.inr ⟨h2, h4⟩)).trans h1, h2, by omega, by omega⟩
/-- Fan k grows. -/
theorem Fans.grow {t t' : TB} {lo hi x b n k i d : Nat} {F : Nat → List Nat} {dF : Nat → Nat} (h : Fans t lo hi x b n F dF) (hk : k < n) (hb : b < lo) (hlo : lo ≤ hi) (hd : hi ≤ d) (hx : x < hi)
    (hrow : hv t' b = some (.row (fansR n (fset F k (F k ++ [i])) (fset dF k d)) true)) (hnew : hv t' d = some (.row (ints (nints (F k ++ [i]))) true)) (hkeep : ∀ e, e < hi → e ≠ b → lo ≤ e → (F k ≠ [] → e ≠ dF k) → e ≠ x → hv t' e = hv t e) :
    Fans t' lo (d + 1) x b n (fset F k (F k ++ [i])) (fset dF k d) := by
  refine ⟨hrow, fun j hj hn => ?_, fun j l hj hl hjn hln hjl => ?_⟩
  · by_cases e : j = k
    · subst e
      simp only [fset, if_pos]
      exact ⟨hnew, by omega, by omega, by omega⟩
    · simp only [fset, if_neg e] at hn ⊢
      obtain ⟨h1, h2, h3, h4⟩ := h.at_ j hj hn
      exact ⟨(hkeep _ h3 (by omega) h2 (fun hkn => h.ne j k hj hk hn hkn e) h4).trans h1, h2, by omega, h4⟩
  · by_cases e : j = k
    · subst e
      have e2 : l ≠ j := fun e' => hjl e'.symm
      simp only [fset, if_neg e2, if_pos] at hln ⊢
      have := (h.at_ l hl hln).2.2.1
      omega
    · by_cases e2 : l = k
      · subst e2
        simp only [fset, if_neg e, if_pos] at hjn ⊢
        have := (h.at_ j hj hjn).2.2.1
        omega
      · simp only [fset, if_neg e, if_neg e2] at hjn hln ⊢
        exact h.ne j l hj hl hjn hln hjl
/-- The ready list. -/
def Rdy (t : TB) (d : Nat) (v : AV) (S : List Nat) : Prop :=
  (v = .nslice ∧ S = []) ∨ ∃ (c : Nat) (r : List AV), v = .slice d 0 S.length c 1 false ∧ hv t d = some (.row r true) ∧ S.length ≤ c ∧ c ≤ r.length ∧ r.take S.length = ints (nints S)
theorem nints_snoc (S : List Nat) (i : Nat) : ints (nints (S ++ [i])) = ints (nints S) ++ [.int .i64 (i : Int)] := by simp [nints, ints, i64]
theorem Rdy.nil {t : TB} {d i : Nat} (h : hv t d = some (.row [.int .i64 (i : Int)] true)) : Rdy t d (.slice d 0 1 1 1 false) ([] ++ [i]) :=
  .inr ⟨1, _, rfl, h, by simp, by simp, rfl⟩
theorem Rdy.full {t : TB} {d i : Nat} {S : List Nat} {r : List AV} (h1 : r.take S.length = ints (nints S)) (h : hv t d = some (.row ((r.drop 0).take (S.length * 1) ++ [.int .i64 (i : Int)]) true)) : Rdy t d (.slice d 0 (S.length + 1) (S.length + 1) 1 false) (S ++ [i]) := by
  rw [Nat.mul_one, List.drop_zero, h1, ← nints_snoc] at h
  exact .inr ⟨S.length + 1, _, by simp, h, by simp, by rw [ints_len, nints_len]; simp, List.take_of_length_le (by rw [ints_len, nints_len]; simp)⟩
theorem Rdy.room {t : TB} {d i c : Nat} {S : List Nat} {r : List AV} (h1 : r.take S.length = ints (nints S)) (hc : S.length + 1 ≤ c) (hr : c ≤ r.length) (h : hv t d = some (.row (splice r (0 + S.length * 1) [.int .i64 (i : Int)]) true)) : Rdy t d (.slice d 0 (S.length + 1) c 1 false) (S ++ [i]) := by
  have e : splice r (0 + S.length * 1) [.int .i64 (i : Int)] = ints (nints (S ++ [i])) ++ r.drop (S.length + 1) := by
    unfold splice
    rw [Nat.zero_add, Nat.mul_one, h1, nints_snoc]
    simp
  rw [e] at h
  refine .inr ⟨c, _, by simp, h, by simp; omega, ?_, ?_⟩
  · rw [List.length_append, ints_len, nints_len, List.length_drop]; simp; omega
  · rw [List.take_append_of_le_length (by rw [ints_len, nints_len]; exact Nat.le_refl _)]
    exact List.take_of_length_le (by rw [ints_len, nints_len]; exact Nat.le_refl _)
theorem Rdy.last {t : TB} {d : Nat} {v : AV} {S : List Nat} (h : Rdy t d v S) (hn : 0 < S.length) : ∃ (S' : List Nat) (a c : Nat) (r : List AV), S = S' ++ [a] ∧ v = .slice d 0 S.length c 1 false ∧ hv t d = some (.row r true) ∧ S.length ≤ c ∧ c ≤ r.length ∧ r[S'.length]? = some (.int .i64 (a : Int)) ∧ Rdy t d (.slice d 0 S'.length c 1 false) S' := by
  rcases h with ⟨-, rfl⟩ | ⟨c, r, h1, h2, h3, h4, h5⟩
  · simp at hn
  · have hne : S ≠ [] := by intro e; subst e; simp at hn
    have e := List.dropLast_concat_getLast hne
    have hl : S.length = S.dropLast.length + 1 := by rw [List.length_dropLast]; omega
    have h6 : r.take S.length = ints (nints (S.dropLast ++ [S.getLast hne])) := by rw [e]; exact h5
    rw [nints_snoc, hl] at h6
    refine ⟨S.dropLast, S.getLast hne, c, r, e.symm, h1, h2, h3, h4, ?_, .inr ⟨c, r, rfl, h2, by omega, h4, ?_⟩⟩
    · have h7 := congrArg (fun m => m[S.dropLast.length]?) h6
      simp only [List.getElem?_take] at h7
      rw [if_pos (by omega)] at h7
      rw [h7, List.getElem?_append_right (by rw [ints_len, nints_len]; exact Nat.le_refl _), ints_len, nints_len]
      simp
    · have h7 := congrArg (List.take S.dropLast.length) h6
      rw [List.take_take, Nat.min_eq_left (by omega), List.take_append_of_le_length (by rw [ints_len, nints_len]; exact Nat.le_refl _), List.take_of_length_le (l := ints _) (by rw [ints_len, nints_len]; exact Nat.le_refl _)] at h7
      exact h7
theorem Rdy.keep {t t' : TB} {d : Nat} {v : AV} {S : List Nat} (h : Rdy t d v S) (k : hv t' d = hv t d) : Rdy t' d v S := by
  rcases h with h | ⟨c, r, h1, h2, h3⟩
  · exact .inl h
  · exact .inr ⟨c, r, h1, k.trans h2, h3⟩
theorem o_len_R {T : TA} {t t0 : TB} {nx d : Nat} {v : AV} {S : List Nat} {x : Opd} (h : Rdy t0 d v S) (hx : x.ev T = some v) : (IOp.len .slc x).run T t nx = .ok (.int .i64 (S.length : Int)) t nx := by
  rcases h with ⟨rfl, rfl⟩ | ⟨c, r, rfl, -⟩
  · exact o_len_nslice hx
  · exact o_len_slice hx
/-! ### The first part: fans and waits -/
def eOf (ns : List Nd) (i : Nat) : List Nat := match ns[i]? with | some x => (hangs x).map Int.toNat | none => []
structure LvN (ns : List Nd) : Prop where
  few : ns.length ≤ 4096
  hang : ∀ (i : Nat) (x : Nd), ns[i]? = some x → (∀ k ∈ hangs x, 0 ≤ k ∧ k < (i : Int)) ∧ x.ins.length ≤ 3 ∧ (x.kind = 7 → 1 ≤ x.ins.length)
theorem hangs_len (x : Nd) : (hangs x).length ≤ x.ins.length := by
  unfold hangs
  split
  · simp
  · split
    · rw [List.length_take]; omega
    · exact Nat.le_refl _
theorem eOf_at {ns : List Nd} {i : Nat} {x : Nd} (h : ns[i]? = some x) : eOf ns i = (hangs x).map Int.toNat := by unfold eOf; rw [h]
structure P1 (ns : List Nd) (i m : Nat) (F : Nat → List Nat) : Prop where
  cnt : ∀ k, k < ns.length → ∀ j, (F k).count j = if j < i then (eOf ns j).count k else if j = i then ((eOf ns i).take m).count k else 0
  len : ∀ k, k < ns.length → (F k).length ≤ 3 * i + m
  lt : ∀ k, k < ns.length → ∀ a ∈ F k, a < ns.length
theorem P1.zero (ns : List Nd) : P1 ns 0 0 (fun _ => []) := ⟨fun k hk j => by simp, fun k hk => by simp, fun k hk a ha => by cases ha⟩
theorem P1.next {ns : List Nd} {i m : Nat} {F : Nat → List Nat} (h : P1 ns i m F) (hm : (eOf ns i).length ≤ m) (h3 : m ≤ 3) : P1 ns (i + 1) 0 F := by
  refine ⟨fun k hk j => ?_, fun k hk => by have := h.len k hk; omega, h.lt⟩
  rw [h.cnt k hk j]
  by_cases e : j < i
  · rw [if_pos e, if_pos (by omega)]
  · rw [if_neg e]
    by_cases e2 : j = i
    · subst e2; rw [if_pos rfl, if_pos (by omega), List.take_of_length_le hm]
    · rw [if_neg e2, if_neg (by omega)]
      split <;> simp
theorem P1.step {ns : List Nd} {i m k0 : Nat} {F : Nat → List Nat} (h : P1 ns i m F) (hi : i < ns.length) (hk : (eOf ns i)[m]? = some k0) (h0 : k0 < ns.length) : P1 ns i (m + 1) (fset F k0 (F k0 ++ [i])) := by
  have ht : (eOf ns i).take (m + 1) = (eOf ns i).take m ++ [k0] := by rw [List.take_succ, hk]; rfl
  refine ⟨fun k hkn j => ?_, fun k hkn => ?_, fun k hkn a ha => ?_⟩
  · have hc := h.cnt k hkn j
    by_cases e : k = k0
    · subst e
      simp only [fset, if_pos]
      rw [List.count_append, hc, ht, List.count_append]
      by_cases e1 : j < i
      · rw [if_pos e1, if_pos e1, List.count_eq_zero.2 (show j ∉ [i] by simp; omega)]; rfl
      · rw [if_neg e1, if_neg e1]
        by_cases e2 : j = i
        · subst e2; simp
        · rw [if_neg e2, if_neg e2, List.count_eq_zero.2 (show j ∉ [i] by simp; omega)]
    · simp only [fset, if_neg e]
      rw [hc, ht, List.count_append, List.count_eq_zero.2 (show k ∉ [k0] by simp [e])]
      simp
  · have := h.len k hkn
    by_cases e : k = k0
    · subst e; simp only [fset, if_pos]; rw [List.length_append]; simp; omega
    · simp only [fset, if_neg e]; omega
  · by_cases e : k = k0
    · subst e
      simp only [fset, if_pos] at ha
      rcases List.mem_append.1 ha with ha | ha
      · exact h.lt k hkn a ha
      · simp at ha; omega
    · simp only [fset, if_neg e] at ha
      exact h.lt k hkn a ha
/-- Waits and ready nodes behind the first i. -/
structure Q1 (ns : List Nd) (i : Nat) (Wt : List Int) (S : List Nat) : Prop where
  wl : Wt.length = ns.length
  w : ∀ j, j < ns.length → Wt[j]? = some (if j < i then ((eOf ns j).length : Int) else 0)
  dup : S.Nodup
  rdy : ∀ a, a ∈ S ↔ a < i ∧ eOf ns a = []
theorem Q1.zero (ns : List Nd) : Q1 ns 0 (List.replicate ns.length 0) [] := ⟨by simp, fun j hj => by simp [hj], by simp, fun a => by simp⟩
theorem Q1.next {ns : List Nd} {i : Nat} {Wt : List Int} {S : List Nat} (h : Q1 ns i Wt S) (hi : i < ns.length) :
    (eOf ns i = [] → Q1 ns (i + 1) (Wt.set i ((eOf ns i).length : Int)) (S ++ [i])) ∧ (eOf ns i ≠ [] → Q1 ns (i + 1) (Wt.set i ((eOf ns i).length : Int)) S) := by
  have hw : ∀ j, j < ns.length → (Wt.set i ((eOf ns i).length : Int))[j]? = some (if j < i + 1 then ((eOf ns j).length : Int) else 0) := by
    intro j hj
    rw [List.getElem?_set]
    by_cases e : i = j
    · subst e; rw [if_pos rfl, if_pos (by rw [h.wl]; exact hi), if_pos (by omega)]
    · rw [if_neg e, h.w j hj]
      by_cases e2 : j < i
      · rw [if_pos e2, if_pos (by omega)]
      · rw [if_neg e2, if_neg (by omega)]
  refine ⟨fun h0 => ⟨by rw [List.length_set]; exact h.wl, hw, ?_, fun a => ?_⟩, fun h0 => ⟨by rw [List.length_set]; exact h.wl, hw, h.dup, fun a => ?_⟩⟩
  · rw [List.nodup_append]
    refine ⟨h.dup, by simp, fun a ha b hb => ?_⟩
    simp at hb; subst hb
    intro e; subst e
    have := (h.rdy a).1 ha
    omega
  · rw [List.mem_append, h.rdy a, List.mem_singleton]
    constructor
    · rintro (h1 | rfl)
      · exact ⟨by omega, h1.2⟩
      · exact ⟨by omega, h0⟩
    · rintro ⟨h1, h2⟩
      by_cases e : a = i
      · exact .inr e
      · exact .inl ⟨by omega, h2⟩
  · rw [h.rdy a]
    refine ⟨fun h1 => ⟨by omega, h1.2⟩, fun h1 => ⟨?_, h1.2⟩⟩
    have : a ≠ i := by intro e; subst e; exact h0 h1.2
    omega
/-- The second part can begin. -/
theorem start2 {ns : List Nd} {F : Nat → List Nat} {Wt : List Int} {S : List Nat} (h : P1 ns ns.length 0 F) (q : Q1 ns ns.length Wt S) : Lv (eOf ns) ns.length F [] S Wt [] ∧ ∀ k, k < ns.length → ∀ i, i < ns.length → (F k).count i = (eOf ns i).count k := by
  refine ⟨⟨by simpa using q.dup, fun a ha => ?_, q.wl, fun i hi => ?_, fun i hi => ?_⟩, fun k hk i hi => ?_⟩
  · rw [List.append_nil, q.rdy a] at ha; exact ha.1
  · rw [q.w i hi, if_pos hi]
    have : left (eOf ns) [] i = (eOf ns i).length := by unfold left; simp
    rw [this]; simp
  · rw [List.append_nil, q.rdy i]
    have : left (eOf ns) [] i = (eOf ns i).length := by unfold left; simp
    rw [this]
    simp [hi]
  · rw [h.cnt k hk i, if_pos hi]
theorem o_iaddr1 {T : TA} {t : TB} {nx : Nat} {x y : Opd} {b n c i : Nat} {ex : Bool} {k : IntKind} (hx : x.ev T = some (.slice b 0 n c 1 ex)) (hy : y.ev T = some (.int k (i : Int))) (hi : i < n) : (IOp.iaddr 1 x y).run T t nx = .ok (.ptr b i) t nx := by
  rw [o_iaddr hx hy hi, Nat.zero_add, Nat.mul_one]
theorem fanV_nil {l : List Nat} (h : l = []) (d : Nat) : fanV l d = .nslice := by subst h; rfl
theorem fanV_ne {l : List Nat} (h : l ≠ []) (d : Nat) : fanV l d = .slice d 0 l.length l.length 1 false := by
  cases l with
  | nil => exact absurd rfl h
  | cons a l => rfl
theorem fanV_snoc (l : List Nat) (i d : Nat) : fanV (l ++ [i]) d = .slice d 0 (l.length + 1) (l.length + 1) 1 false := by
  rw [fanV_ne (by simp)]; simp
theorem Q1.few {ns : List Nd} {i : Nat} {Wt : List Int} {S : List Nat} (h : Q1 ns i Wt S) : S.length ≤ i := nodup_len i S h.dup (fun a ha => ((h.rdy a).1 ha).1)
def mxI (a b : Int) : Int := if a < b then b else a
theorem mxI_or (a b : Int) : mxI a b = a ∨ mxI a b = b := by unfold mxI; split <;> simp
theorem o_maxD {T : TA} {t : TB} {nx : Nat} {x y : Opd} {a b : Int} (hx : x.ev T = some (.int .i64 a)) (hy : y.ev T = some (.int .i64 b)) : (IOp.mm true x y).run T t nx = .ok (.int .i64 (mxI a b)) t nx := by
  simp only [IOp.run, hx, hy, iLt_eq]
  unfold mxI
  by_cases h : a < b
  · rw [decide_eq_true h, if_pos h]
  · rw [decide_eq_false h, if_neg h]
theorem set_bd {L : List Int} {a : Nat} {v B B' : Int} (h : ∀ x ∈ L, 0 ≤ x ∧ x ≤ B) (hb : B ≤ B') (hv : 0 ≤ v ∧ v ≤ B') : ∀ x ∈ L.set a v, 0 ≤ x ∧ x ≤ B' := by
  intro x hx
  rcases List.mem_or_eq_of_mem_set hx with hx | rfl
  · have := h x hx; omega
  · exact hv
theorem Lv.lt1 {E : Nat → List Nat} {n : Nat} {F : Nat → List Nat} {D S : List Nat} {Wt : List Int} {rest : List Nat} (h : Lv E n F D S Wt rest) {a : Nat} (ha : a ∈ S ∨ a ∈ D) : a < n := h.lt a (by rcases ha with ha | ha <;> simp [ha])
theorem eOf_lt {ns : List Nd} (hG : LvN ns) {i k : Nat} (hi : i < ns.length) (hk : k ∈ eOf ns i) : k < i := by
  obtain ⟨x, hx⟩ := some_at (l := ns) (i := i) hi
  rw [eOf_at hx, List.mem_map] at hk
  obtain ⟨a, ha, rfl⟩ := hk
  have := (hG.hang i x hx).1 a ha
  omega
theorem o_len_fan {T : TA} {t : TB} {nx d : Nat} {l : List Nat} {x : Opd} (hx : x.ev T = some (fanV l d)) : (IOp.len .slc x).run T t nx = .ok (.int .i64 (l.length : Int)) t nx := by
  by_cases h : l = []
  · rw [fanV_nil h] at hx; rw [h]; exact o_len_nslice hx
  · rw [fanV_ne h] at hx; exact o_len_slice hx
theorem drop_at {l : List Nat} {m b : Nat} (h : l[m]? = some b) : l.drop m = b :: l.drop (m + 1) := by
  obtain ⟨hi, rfl⟩ := List.getElem?_eq_some_iff.1 h
  exact List.drop_eq_getElem_cons hi
theorem u_bound {ns : List Nd} (hG : LvN ns) {D rest : List Nat} {b : Nat} {u : Int} (hb : b < ns.length) (hu : u ≤ Int.ofNat (left (eOf ns) D b + rest.count b)) (hr : rest.length ≤ 12288) : u < 100000000 := by
  obtain ⟨x, hx⟩ := some_at (l := ns) (i := b) hb
  have h1 : left (eOf ns) D b ≤ (eOf ns b).length := List.countP_le_length
  have h2 : (eOf ns b).length = (hangs x).length := by rw [eOf_at hx]; simp
  have h3 := hangs_len x
  have h4 := (hG.hang b x hx).2.1
  have h5 : rest.count b ≤ rest.length := List.count_le_length
  have h6 : u ≤ ((left (eOf ns) D b + rest.count b : Nat) : Int) := hu
  omega

theorem hangs_ok {t : TB} {nx bd : Nat} (x : Nd) (iv : AV) (hI : RowI t bd iv x.ins) (hb : bd ≤ nx) (h7 : x.kind = 7 → 1 ≤ x.ins.length) : WF tb 158 [.agg (ncells x iv)] t nx (fun v t' nx' => ∃ u, u = v ∧ RowI t' bd u (hangs x) ∧ nx ≤ nx' ∧ Keep t t' nx (fun _ => False)) := by
  have hic := hI.cell
  unfold ncells
  refine k_fun hangs__tab rfl ?_
  unfold hangs__c
  change WC _ _ (TA.put (some _) TA.e 0) _ _ _
  refine k_seq (k_reg (r_heap (o_box (ev_t get_same)) rfl (fun t1 (hh2 : hv t1 = upd (hv t) nx (some (.row [(.int .i64 x.kind), (.int .i64 x.op), (.int .i64 x.wide), iv, (.str x.value), (.int .i64 x.hi), (.int .i64 x.lo), (.int .i64 x.time)] true))) => r_op (o_mov ev_c) rfl (r_nil (k_seq (k_seq (k_reg (r_op (o_faddr (off := 0) (ev_t (z1 rfl ds))) rfl (r_op (o_load (ev_t ds) (look_same hh2) rfl) rfl (r_nil (k_block (k_seq (k_reg (r_op (o_eql (ev_t ds) ev_c) rfl (m1 ds (r_nil ?_))))))))))))))))
  refine k_cond (ev_t ds) (fun hc3 => ?_) (fun hc3 => ?_)
  · replace hc3 := of_decide_eq_true hc3
    refine k_seq (k_reg (r_op (o_mov ev_c) rfl (r_nil (k_ret ?_))))
    exact ⟨_, ans_tmp ds, _, rfl, .inl ⟨rfl, by unfold hangs; rw [if_pos (by assumption)]⟩, by omega, Keep.upd (Keep.refl _ _ _) hh2 (.inl (by omega))⟩
  replace hc3 := of_decide_eq_false hc3
  refine k_seq (k_reg (r_op (o_eql (ev_t (z2 rfl ds)) ev_c) rfl (m1 ds (r_nil ?_))))
  refine k_cond (ev_t ds) (fun hc4 => ?_) (fun hc4 => ?_)
  · replace hc4 := of_decide_eq_true hc4
    refine k_seq ?_
    rcases hI with ⟨-, h0⟩ | ⟨di, oi, ci, exi, wri, ri, hie, hdi, hri, hrli, hsegi⟩
    · exfalso; have h_ := congrArg List.length h0; simp only [List.length_nil] at h_; have := h7 (by assumption); omega
    refine k_reg (r_op (o_faddr (off := 3) (ev_t (z1 rfl (z2 rfl (z4 rfl ds))))) rfl (r_op (o_load (ev_t ds) (look_same hh2) rfl) rfl ?_))
    refine r_op (o_cslice_lo (ev_t ds) hie (by have := h7 (by assumption); omega)) rfl ?_
    refine m1 ds (r_nil (k_ret ?_))
    exact ⟨_, ans_tmp ds, _, rfl, (by unfold hangs; rw [if_neg (by assumption), if_pos (by assumption)]; exact RowI.keep (rowI_one hsegi hdi hri hrli (h7 (by assumption))) (fun d hd hw => (show Keep t t1 nx (fun _ => False) from Keep.upd (Keep.refl _ _ _) hh2 (.inl (by omega))) d (by omega) hw) (Nat.le_refl bd)), by omega, Keep.upd (Keep.refl _ _ _) hh2 (.inl (by omega))⟩
  replace hc4 := of_decide_eq_false hc4
  refine k_skip (k_seq (k_reg (r_op (o_faddr (off := 3) (ev_t (z1 rfl (z2 rfl (z4 rfl ds))))) rfl (r_op (o_load (ev_t ds) (look_same hh2) rfl) rfl (m1 ds (r_nil (k_ret ?_)))))))
  exact ⟨_, ans_tmp ds, _, rfl, (by unfold hangs; rw [if_neg (by assumption), if_neg (by assumption)]; exact hI.keep (fun d hd hw => (show Keep t t1 nx (fun _ => False) from Keep.upd (Keep.refl _ _ _) hh2 (.inl (by omega))) d (by omega) hw) (Nat.le_refl bd)), by omega, Keep.upd (Keep.refl _ _ _) hh2 (.inl (by omega))⟩
end Go.Proofs.YtpjohgnhmjceiaaGreatDoor.WX

set_option linter.all false
set_option linter.unusedVariables false
set_option linter.unusedSectionVars false
set_option maxRecDepth 100000
open Go Go.Proofs.YtpjohgnhmjceiaaGreatDoor.AX Go.Proofs
namespace Go.Proofs.YtpjohgnhmjceiaaGreatDoor.WX
variable [Env]
set_option maxHeartbeats 8000000 in
theorem levels_ok {t : TB} {nx bd : Nat} {vn vt : AV} {p : Int} {ns : List Nd} (hN : RowN t bd vn ns) (hct : isCell vt = true) (hb : bd ≤ nx) (hG : LvN ns) : WF tb 106 [.agg [vn, vt, .int .i64 p]] t nx (fun v t' nx' => ∃ (u1 u2 : AV) (q : Int), v = .tup [u1, u2, .int .i64 q] ∧ (ns.length : Int) ≤ q ∧ nx ≤ nx' ∧ Keep t t' nx (fun _ => False)) := by
  have hcn := hN.cell
  have hfew := hG.few
  refine k_fun levels_tab rfl ?_
  unfold levels_c
  change WC _ _ (TA.put (some _) TA.e 0) _ _ _
  refine k_seq (k_reg (r_heap (o_box (ev_t get_same)) rfl (fun t1 (hh2 : hv t1 = upd (hv t) nx (some (.row [vn, vt, (.int .i64 p)] true))) => r_op (o_mov ev_c) rfl (r_op (o_mov ev_c) rfl (r_op (o_mov ev_c) rfl (r_nil (k_seq (k_reg (r_op (o_faddr (off := 0) (ev_t (z1 rfl (z2 rfl ds)))) rfl (r_op (o_load (ev_t ds) (look_same hh2) rfl) rfl (r_op (o_len_N hN (ev_t ds)) rfl (r_heap (o_mkrow (w := ns.length) (v := .int .i64 0) (ev_t ds) (ev_t ds) (by omega)) rfl (fun t3 (hh4 : hv t3 = upd (hv t1) (nx + 1) (some (.row (List.replicate ns.length (.int .i64 0)) true))) => m1 ds (r_nil (k_seq (k_reg (r_op (o_faddr (off := 0) (ev_t (z8 rfl ds))) rfl (r_op (o_load (ev_t ds) (look_ne hh4 (by omega) (look_same hh2)) rfl) rfl (r_op (o_len_N hN (ev_t ds)) rfl (r_heap (o_mkrow (w := ns.length) (v := .int .i64 0) (ev_t ds) (ev_t ds) (by omega)) rfl (fun t5 (hh6 : hv t5 = upd (hv t3) ((nx + 1) + 1) (some (.row (List.replicate ns.length (.int .i64 0)) true))) => m1 ds (r_nil (k_seq (k_reg (r_op (o_faddr (off := 0) (ev_t (z1 rfl (z4 rfl (z8 rfl ds))))) rfl (r_op (o_load (ev_t ds) (look_ne hh6 (by omega) (look_ne hh4 (by omega) (look_same hh2))) rfl) rfl (r_op (o_len_N hN (ev_t ds)) rfl (r_heap (o_mkrow (w := ns.length) (v := .bool false) (ev_t ds) (ev_t ds) (by omega)) rfl (fun t7 (hh8 : hv t7 = upd (hv t5) (((nx + 1) + 1) + 1) (some (.row (List.replicate ns.length (.bool false)) true))) => m1 ds (r_nil (k_seq (k_reg (r_op (o_faddr (off := 0) (ev_t (z2 rfl (z8 rfl (z8 rfl ds))))) rfl ?_)))))))))))))))))))))))))))))))))
  refine r_op (o_load (ev_t ds) (look_ne hh8 (by omega) (look_ne hh6 (by omega) (look_ne hh4 (by omega) (look_same hh2)))) rfl) rfl (r_op (o_len_N hN (ev_t ds)) rfl (r_heap (o_mkrow (w := ns.length) (v := .nslice) (ev_t ds) (ev_t ds) (by omega)) rfl (fun t9 (hh10 : hv t9 = upd (hv t7) ((((nx + 1) + 1) + 1) + 1) (some (.row (List.replicate ns.length (.nslice)) true))) => m1 ds (r_nil (k_seq (k_reg (r_op (o_mov ev_c) rfl (r_nil (k_seq (k_seq (k_reg (r_op (o_faddr (off := 0) (ev_t (z8 rfl (z8 rfl (z8 rfl ds))))) rfl (r_op (o_load (ev_t ds) (look_ne hh10 (by omega) (look_ne hh8 (by omega) (look_ne hh6 (by omega) (look_ne hh4 (by omega) (look_same hh2))))) rfl) rfl (r_op (o_len_N hN (ev_t ds)) rfl (r_op (o_mov ev_c) rfl (r_nil (k_block ?_)))))))))))))))))
  have hfr : List.replicate ns.length AV.nslice = fansR ns.length (fun _ => []) (fun _ => 0) := by unfold fansR fanV; rw [List.map_const', List.length_range]
  refine k_loop (fun mm Tv tv nv => ∃ (i : Nat) (F : Nat → List Nat) (dF : Nat → Nat) (Wt : List Int) (S : List Nat) (v9 : AV) (d9 : Nat), i ≤ ns.length ∧ P1 ns i 0 F ∧ Q1 ns i Wt S ∧ Fans tv (((((nx + 1) + 1) + 1) + 1) + 1) nv d9 ((((nx + 1) + 1) + 1) + 1) ns.length F dF ∧ Rdy tv d9 v9 S ∧ (v9 = .nslice ∨ (((((nx + 1) + 1) + 1) + 1) + 1) ≤ d9) ∧ (d9 = nx ∨ (((((nx + 1) + 1) + 1) + 1) + 1) ≤ d9) ∧ d9 < nv ∧ (hv tv nx = some (.row [vn, vt, .int .i64 p] true) ∧ hv tv (nx + 1) = some (.row (List.replicate ns.length (AV.int .i64 0)) true) ∧ hv tv ((nx + 1) + 1) = some (.row (ints Wt) true) ∧ hv tv (((nx + 1) + 1) + 1) = some (.row (List.replicate ns.length (AV.bool false)) true)) ∧ (Tv.get 1 = some (.ptr nx 0) ∧ Tv.get 5 = some (.slice (nx + 1) 0 ns.length ns.length 1 true) ∧ Tv.get 6 = some (.slice ((nx + 1) + 1) 0 ns.length ns.length 1 true) ∧ Tv.get 7 = some (.slice (((nx + 1) + 1) + 1) 0 ns.length ns.length 1 true) ∧ Tv.get 8 = some (.slice ((((nx + 1) + 1) + 1) + 1) 0 ns.length ns.length 1 true) ∧ Tv.get 9 = some v9 ∧ Tv.get 36 = some vn ∧ Tv.get 37 = some (.int .i64 ((ns.length : Nat) : Int)) ∧ Tv.get 38 = some (.int .i64 ((i : Nat) : Int))) ∧ (((((nx + 1) + 1) + 1) + 1) + 1) ≤ nv ∧ Keep t tv nx (fun _ => False) ∧ mm + i = ns.length) (fun mm Tv tv nv hI => ?_) (ns.length) ⟨0, fun _ => [], fun _ => 0, List.replicate ns.length 0, [], .nslice, nx, by omega, P1.zero ns, Q1.zero ns, ⟨by rw [← hfr]; exact (look_same hh10), fun k _ h => absurd rfl h, fun j k _ _ h => absurd rfl h⟩, .inl ⟨rfl, rfl⟩, .inl rfl, by omega, by omega, ⟨(look_ne hh10 (by omega) (look_ne hh8 (by omega) (look_ne hh6 (by omega) (look_ne hh4 (by omega) (look_same hh2))))), (look_ne hh10 (by omega) (look_ne hh8 (by omega) (look_ne hh6 (by omega) (look_same hh4)))), (by unfold ints; rw [List.map_replicate]; exact (look_ne hh10 (by omega) (look_ne hh8 (by omega) (look_same hh6)))), (look_ne hh10 (by omega) (look_same hh8))⟩, ⟨(z4 rfl (z8 rfl (z8 rfl (z8 rfl ds)))), (z4 rfl (z8 rfl (z8 rfl ds))), (z1 rfl (z2 rfl (z4 rfl (z8 rfl ds)))), (z2 rfl (z8 rfl ds)), (z1 rfl (z4 rfl ds)), (z4 rfl ds), (z2 rfl ds), (z1 rfl ds), ds⟩, by omega, Keep.upd (Keep.upd (Keep.upd (Keep.upd (Keep.upd (Keep.refl _ _ _) hh2 (.inl (by omega))) hh4 (.inl (by omega))) hh6 (.inl (by omega))) hh8 (.inl (by omega))) hh10 (.inl (by omega)), by omega⟩
  obtain ⟨i, F, dF, Wt, S, v9, d9, hi, hP, hQ, hfan, hrd, hv9, hd9, hd9b, ⟨hr0, hr1, hr2, hr3⟩, ⟨q1, q5, q6, q7, q8, q9, q36, q37, q38⟩, hnv, hkp, hmm⟩ := hI
  refine k_seq (k_reg (r_op (o_lss (ev_t q38) (ev_t q37)) rfl (r_nil (k_seq ?_))))
  refine k_cond (ev_t ds) (fun hc11 => ?_) (fun hc11 => ?_)
  · replace hc11 := of_decide_eq_true hc11
    refine k_skip (k_seq (k_block (k_seq ?_)))
    rcases hN with ⟨-, h0⟩ | ⟨dN, on, cn, exn, wrn, rn, ivs, hne, hdn, hrn, hrln, hsegn, hivl, hivr⟩
    · have h_ := congrArg List.length h0; simp only [List.length_nil] at h_; omega
    have hN : RowN t bd vn ns := .inr ⟨dN, on, cn, exn, wrn, rn, ivs, hne, hdn, hrn, hrln, hsegn, hivl, hivr⟩
    obtain ⟨x, hx⟩ := some_at (l := ns) (i := i) (by omega)
    obtain ⟨iv, hiv⟩ := some_at (l := ivs) (i := i) (by omega)
    have hI := hivr i x iv hx hiv
    have hic := hI.cell
    have hgx := hG.hang i x hx
    have hrn1 := hkp.look (by omega) id hrn
    have hgl := hangs_len x
    have hel : (eOf ns i).length = (hangs x).length := by rw [eOf_at hx]; simp
    have hwl := hQ.wl
    refine k_reg (m1 (z1 rfl q38) (r_op (o_iaddrE (i := i) (ev_t (z2 rfl q36)) hne (ev_t (z2 rfl q38)) (by omega)) rfl (r_op (o_loadA (n := 8) (ev_t ds) hrn1 (by omega) (nodeN_all hsegn hivl hx hiv)) rfl (r_heap (o_alloc) rfl (fun t12 (hh13 : hv t12 = upd (hv tv) nv (some (.row [(.int .i64 0), (.int .i64 0), (.int .i64 0), .nslice, (.str []), (.int .i64 0), (.int .i64 0), (.int .i64 0)] true))) => m1 (z1 rfl (z2 rfl ds)) (r_heap (o_store (n := 8) (ev_t (z1 rfl ds)) (ev_t (z2 rfl ds)) (look_same hh13) rfl (ncells_cell x hic) (leb rfl)) rfl (fun t14 (hh15 : hv t14 = upd (hv t12) nv (some (.row [(.int .i64 x.kind), (.int .i64 x.op), (.int .i64 x.wide), iv, (.str x.value), (.int .i64 x.hi), (.int .i64 x.lo), (.int .i64 x.time)] true))) => r_nil (k_seq (k_reg (r_op (o_loadA (n := 8) (ev_t (z2 rfl ds)) (look_same hh15) (leb rfl) rfl) rfl (r_call (w_callF (evs_cons (ev_t ds) evs_nil)) rfl (WF.mono (hangs_ok x iv (hI.keep (fun d hd hw => (Keep.upd (Keep.upd (hkp) hh13 (.inl (by omega))) hh15 (.inl (by omega))) d (by omega) hw) (Nat.le_refl bd)) (by omega) (fun e => hgx.2.2 e)) ?_))))))))))))
    rintro _ t16 n17 ⟨hgv, rfl, hR, hn_h, hk_h⟩
    refine m1 ds (r_nil (k_seq (k_reg (m1 (z2 rfl (z8 rfl q6)) (m1 (z1 rfl (z4 rfl ds)) (m1 (z2 rfl ds) (r_op (o_len_I hR (ev_t ds)) rfl (r_op (o_iaddr1 (i := i) (ev_t (z1 rfl (z2 rfl ds))) (ev_t (z2 rfl ds)) (by omega)) rfl (r_heap (o_storeI (l := Wt) (ev_t ds) (ev_t (z1 rfl ds)) (Keep.look hk_h (by omega) id (look_ne hh15 (by omega) (look_ne hh13 (by omega) hr2))) (by omega)) rfl (fun t18 (hh19 : hv t18 = upd (hv t16) ((nx + 1) + 1) (some (.row (ints (Wt.set i (((hangs x).length : Nat) : Int))) true))) => r_nil (k_seq (k_seq (k_reg (m1 (z2 rfl (z4 rfl ds)) (r_op (o_len_I hR (ev_t ds)) rfl (r_op (o_mov ev_c) rfl (r_nil (k_block (k_loop (fun mm Tu tu nu => ∃ (m : Nat) (F : Nat → List Nat) (dF : Nat → Nat), m ≤ (hangs x).length ∧ P1 ns i m F ∧ Fans tu (((((nx + 1) + 1) + 1) + 1) + 1) nu d9 ((((nx + 1) + 1) + 1) + 1) ns.length F dF ∧ Rdy tu d9 v9 S ∧ RowI tu bd hgv (hangs x) ∧ (hv tu nx = some (.row [vn, vt, .int .i64 p] true) ∧ hv tu (nx + 1) = some (.row (List.replicate ns.length (AV.int .i64 0)) true) ∧ hv tu ((nx + 1) + 1) = some (.row (ints (Wt.set i (((hangs x).length : Nat) : Int))) true) ∧ hv tu (((nx + 1) + 1) + 1) = some (.row (List.replicate ns.length (AV.bool false)) true)) ∧ (Tu.get 1 = some (.ptr nx 0) ∧ Tu.get 5 = some (.slice (nx + 1) 0 ns.length ns.length 1 true) ∧ Tu.get 6 = some (.slice ((nx + 1) + 1) 0 ns.length ns.length 1 true) ∧ Tu.get 7 = some (.slice (((nx + 1) + 1) + 1) 0 ns.length ns.length 1 true) ∧ Tu.get 8 = some (.slice ((((nx + 1) + 1) + 1) + 1) 0 ns.length ns.length 1 true) ∧ Tu.get 9 = some v9 ∧ Tu.get 36 = some vn ∧ Tu.get 37 = some (.int .i64 ((ns.length : Nat) : Int)) ∧ Tu.get 38 = some (.int .i64 ((i : Nat) : Int)) ∧ Tu.get 10 = some (.int .i64 ((i : Nat) : Int)) ∧ Tu.get 12 = some hgv ∧ Tu.get 50 = some hgv ∧ Tu.get 51 = some (.int .i64 (((hangs x).length : Nat) : Int)) ∧ Tu.get 52 = some (.int .i64 ((m : Nat) : Int))) ∧ nv + 1 ≤ nu ∧ Keep t tu nx (fun _ => False) ∧ mm + m = (hangs x).length) (fun mm Tu tu nu hI => ?_) ((hangs x).length) ⟨0, F, dF, by omega, hP, hfan.keep (by omega) (by omega) (fun d hd hq => (((((congrFun hh19 d).trans (upd_ne _ _ _ _ (by omega))).trans (hk_h _ (by omega) id)).trans ((congrFun hh15 d).trans (upd_ne _ _ _ _ (by omega)))).trans ((congrFun hh13 d).trans (upd_ne _ _ _ _ (by omega))))) (.inl rfl) (by omega), hrd.keep (((((congrFun hh19 d9).trans (upd_ne _ _ _ _ (by omega))).trans (hk_h _ (by omega) id)).trans ((congrFun hh15 d9).trans (upd_ne _ _ _ _ (by omega)))).trans ((congrFun hh13 d9).trans (upd_ne _ _ _ _ (by omega)))), hR.keep (fun d hd hw => ((congrFun hh19 d).trans (upd_ne _ _ _ _ (by omega)))) (Nat.le_refl bd), ⟨(look_ne hh19 (by omega) (Keep.look hk_h (by omega) id (look_ne hh15 (by omega) (look_ne hh13 (by omega) hr0)))), (look_ne hh19 (by omega) (Keep.look hk_h (by omega) id (look_ne hh15 (by omega) (look_ne hh13 (by omega) hr1)))), (look_same hh19), (look_ne hh19 (by omega) (Keep.look hk_h (by omega) id (look_ne hh15 (by omega) (look_ne hh13 (by omega) hr3))))⟩, ⟨(z1 rfl (z2 rfl (z8 rfl (z8 rfl q1)))), (z1 rfl (z2 rfl (z8 rfl (z8 rfl q5)))), (z1 rfl (z2 rfl (z8 rfl (z8 rfl q6)))), (z1 rfl (z2 rfl (z8 rfl (z8 rfl q7)))), (z1 rfl (z2 rfl (z8 rfl (z8 rfl q8)))), (z1 rfl (z2 rfl (z8 rfl (z8 rfl q9)))), (z1 rfl (z2 rfl (z8 rfl (z8 rfl q36)))), (z1 rfl (z2 rfl (z8 rfl (z8 rfl q37)))), (z1 rfl (z2 rfl (z8 rfl (z8 rfl q38)))), (z1 rfl (z4 rfl (z8 rfl ds))), (z1 rfl (z8 rfl ds)), (z2 rfl ds), (z1 rfl ds), ds⟩, by omega, Keep.upd (Keep.trans (Keep.upd (Keep.upd (hkp) hh13 (.inl (by omega))) hh15 (.inl (by omega))) hk_h (by omega) (fun d _ h => h)) hh19 (.inl (by omega)), by omega⟩)))))))))))))))))))
    obtain ⟨m, F, dF, hm, hP, hfan, hrd, hR, ⟨hr0, hr1, hr2, hr3⟩, ⟨q1, q5, q6, q7, q8, q9, q36, q37, q38, q10, q12, q50, q51, q52⟩, hnu, hkp, hmm⟩ := hI
    refine k_seq (k_reg (r_op (o_lss (ev_t q52) (ev_t q51)) rfl (r_nil (k_seq ?_))))
    refine k_cond (ev_t ds) (fun hc20 => ?_) (fun hc20 => ?_)
    · replace hc20 := of_decide_eq_true hc20
      refine k_skip (k_seq (k_block (k_seq ?_)))
      rcases hR with ⟨-, h0⟩ | ⟨di, oi, ci, exi, wri, ri, hie, hdi, hri, hrli, hsegi⟩
      · have h_ := congrArg List.length h0; simp only [List.length_nil] at h_; omega
      have hR : RowI tu bd hgv (hangs x) := .inr ⟨di, oi, ci, exi, wri, ri, hie, hdi, hri, hrli, hsegi⟩
      obtain ⟨k, hk⟩ := some_at (l := hangs x) (i := m) (by omega)
      have hkr := hgx.1 k (List.mem_of_getElem? hk)
      have hek : (eOf ns i)[m]? = some k.toNat := by rw [eOf_at hx]; simp [hk]
      have hfg := fansR_get (n := ns.length) (F := F) (dF := dF) (k := k.toNat) (by omega)
      have hFl := hP.len k.toNat (by omega)
      by_cases hFk : F k.toNat = []
      · rw [fanV_nil hFk] at hfg
        refine k_reg (r_op (o_iaddrE (i := m) (ev_t (z1 rfl q50)) hie (ev_t (z1 rfl q52)) (by omega)) rfl ?_)
        refine r_op (o_load (ev_t ds) hri (by rw [Nat.mul_one]; exact rowI_get (i := m) hsegi hk)) rfl ?_
        refine m1 ds (r_nil (k_reg (m1 (z4 rfl q8) (m1 (z1 rfl ds) (m1 (z2 rfl (z4 rfl q8)) (m1 (z1 rfl (z2 rfl ds)) (r_op (o_iaddr1 (i := (k).toNat) (ev_t (z1 rfl ds)) (ev_cast (ev_t ds) (by omega)) (by omega)) rfl (r_op (o_load (ev_t ds) hfan.row hfg) rfl (m1 (z2 rfl (z8 rfl q10)) (r_heap (o_bslice (fill_cons (ev_t ds) rfl rfl fill_nil)) rfl (fun t21 (hh22 : hv t21 = upd (hv tu) nu (some (.row [(.int .i64 ((i : Nat) : Int))] true))) => r_heap (o_appE (ev_t (z2 rfl ds)) (ev_t ds) (app_nil (cs := [.int .i64 (i : Int)]) rfl (src_row (k := 1) (look_same hh22) (leb rfl)) rfl (by decide) (by decide))) rfl (fun tq (hq : hv tq = upd (hv t21) (nu + 1) (some (.row [.int .i64 (i : Int)] true))) => r_op (o_iaddr1 (i := (k).toNat) (ev_t (z8 rfl ds)) (ev_cast (ev_t (z1 rfl (z2 rfl (z4 rfl ds)))) (by omega)) (by omega)) rfl ?_))))))))))))
        refine r_heap (o_store1 (ev_t ds) (ev_t (z1 rfl ds)) (look_ne hq (by omega) (look_ne hh22 (by omega) hfan.row)) (by rw [fansR_len]; omega)) rfl (fun t23 (hh24 : hv t23 = upd (hv tq) ((((nx + 1) + 1) + 1) + 1) (some (.row ((fansR ns.length F dF).set (k).toNat (.slice (nu + 1) 0 1 1 1 false)) true))) => ?_)
        refine r_nil (k_reg (r_op (o_add (ev_t (z1 rfl (z2 rfl (z4 rfl (z8 rfl q52))))) ev_c (by omega) (by omega)) rfl (m1 ds (r_nil ?_))))
        exact ⟨mm - 1, by omega, m + 1, _, _, by omega, hP.step (by omega) hek (by omega), hfan.grow (k := k.toNat) (i := i) (d := (nu + 1)) (by omega) (by omega) (by omega) (by omega) (by omega) (by rw [← fansR_set (by omega), fanV_snoc, hFk]; exact (look_same hh24)) (by rw [hFk]; exact (look_ne hh24 (by omega) (look_same hq))) (by intro e he1 he2 he3 he4 he5; exact ((((congrFun hh24 e).trans (upd_ne _ _ _ _ (by omega))).trans ((congrFun hq e).trans (upd_ne _ _ _ _ (by omega)))).trans ((congrFun hh22 e).trans (upd_ne _ _ _ _ (by omega))))), hrd.keep ((((congrFun hh24 d9).trans (upd_ne _ _ _ _ (by omega))).trans ((congrFun hq d9).trans (upd_ne _ _ _ _ (by omega)))).trans ((congrFun hh22 d9).trans (upd_ne _ _ _ _ (by omega)))), hR.keep (fun d hd hw => ((((congrFun hh24 d).trans (upd_ne _ _ _ _ (by omega))).trans ((congrFun hq d).trans (upd_ne _ _ _ _ (by omega)))).trans ((congrFun hh22 d).trans (upd_ne _ _ _ _ (by omega))))) (Nat.le_refl bd), ⟨(look_ne hh24 (by omega) (look_ne hq (by omega) (look_ne hh22 (by omega) hr0))), (look_ne hh24 (by omega) (look_ne hq (by omega) (look_ne hh22 (by omega) hr1))), (look_ne hh24 (by omega) (look_ne hq (by omega) (look_ne hh22 (by omega) hr2))), (look_ne hh24 (by omega) (look_ne hq (by omega) (look_ne hh22 (by omega) hr3)))⟩, ⟨(z1 rfl (z8 rfl (z8 rfl q1))), (z1 rfl (z8 rfl (z8 rfl q5))), (z1 rfl (z8 rfl (z8 rfl q6))), (z1 rfl (z8 rfl (z8 rfl q7))), (z1 rfl (z8 rfl (z8 rfl q8))), (z1 rfl (z8 rfl (z8 rfl q9))), (z1 rfl (z8 rfl (z8 rfl q36))), (z1 rfl (z8 rfl (z8 rfl q37))), (z1 rfl (z8 rfl (z8 rfl q38))), (z1 rfl (z8 rfl (z8 rfl q10))), (z1 rfl (z8 rfl (z8 rfl q12))), (z1 rfl (z8 rfl (z8 rfl q50))), (z1 rfl (z8 rfl (z8 rfl q51))), ds⟩, by omega, Keep.upd (Keep.upd (Keep.upd (hkp) hh22 (.inl (by omega))) hq (.inl (by omega))) hh24 (.inl (by omega)), by omega⟩
      rw [fanV_ne hFk] at hfg
      obtain ⟨hfr, hfl, hfh, hfx⟩ := hfan.at_ k.toNat (by omega) hFk
      refine k_reg (r_op (o_iaddrE (i := m) (ev_t (z1 rfl q50)) hie (ev_t (z1 rfl q52)) (by omega)) rfl ?_)
      refine r_op (o_load (ev_t ds) hri (by rw [Nat.mul_one]; exact rowI_get (i := m) hsegi hk)) rfl ?_
      refine m1 ds (r_nil (k_reg (m1 (z4 rfl q8) (m1 (z1 rfl ds) (m1 (z2 rfl (z4 rfl q8)) (m1 (z1 rfl (z2 rfl ds)) (r_op (o_iaddr1 (i := (k).toNat) (ev_t (z1 rfl ds)) (ev_cast (ev_t ds) (by omega)) (by omega)) rfl (r_op (o_load (ev_t ds) hfan.row hfg) rfl (m1 (z2 rfl (z8 rfl q10)) (r_heap (o_bslice (fill_cons (ev_t ds) rfl rfl fill_nil)) rfl (fun t25 (hh26 : hv t25 = upd (hv tu) nu (some (.row [(.int .i64 ((i : Nat) : Int))] true))) => ?_)))))))))))
      refine r_heap (o_appE (ev_t (z2 rfl ds)) (ev_t ds) (app_new_f (k := 1) (cs := [.int .i64 (i : Int)]) rfl (src_row (k := 1) (look_same hh26) (leb rfl)) rfl (look_ne hh26 (by omega) hfr) (by rw [ints_len, nints_len]; omega) (by omega) (by omega))) rfl (fun tq ⟨tp, hp, hq⟩ => ?_)
      refine r_op (o_iaddr1 (i := (k).toNat) (ev_t (z8 rfl ds)) (ev_cast (ev_t (z1 rfl (z2 rfl (z4 rfl ds)))) (by omega)) (by omega)) rfl ?_
      refine r_heap (o_store1 (ev_t ds) (ev_t (z1 rfl ds)) (look_ne hq (by omega) (look_ne hp (by omega) (look_ne hh26 (by omega) hfan.row))) (by rw [fansR_len]; omega)) rfl (fun t27 (hh28 : hv t27 = upd (hv tq) ((((nx + 1) + 1) + 1) + 1) (some (.row ((fansR ns.length F dF).set (k).toNat (.slice (nu + 1) 0 ((F k.toNat).length + 1) ((F k.toNat).length + 1) 1 false)) true))) => ?_)
      refine r_nil (k_reg (r_op (o_add (ev_t (z1 rfl (z2 rfl (z4 rfl (z8 rfl q52))))) ev_c (by omega) (by omega)) rfl (m1 ds (r_nil ?_))))
      exact ⟨mm - 1, by omega, m + 1, _, _, by omega, hP.step (by omega) hek (by omega), hfan.grow (k := k.toNat) (i := i) (d := (nu + 1)) (by omega) (by omega) (by omega) (by omega) (by omega) (by rw [← fansR_set (by omega), fanV_snoc]; exact (look_same hh28)) (by have h_ := (look_ne hh28 (by omega) (look_same hq)); rw [Nat.mul_one, whole (by rw [ints_len, nints_len]), ← nints_snoc] at h_; exact h_) (by intro e he1 he2 he3 he4 he5; have he6 := he4 hFk; exact (((((congrFun hh28 e).trans (upd_ne _ _ _ _ (by omega))).trans ((congrFun hq e).trans (upd_ne _ _ _ _ (by omega)))).trans ((congrFun hp e).trans (upd_ne _ _ _ _ (by omega)))).trans ((congrFun hh26 e).trans (upd_ne _ _ _ _ (by omega))))), hrd.keep (((((congrFun hh28 d9).trans (upd_ne _ _ _ _ (by omega))).trans ((congrFun hq d9).trans (upd_ne _ _ _ _ (by omega)))).trans ((congrFun hp d9).trans (upd_ne _ _ _ _ (by omega)))).trans ((congrFun hh26 d9).trans (upd_ne _ _ _ _ (by omega)))), hR.keep (fun d hd hw => (((((congrFun hh28 d).trans (upd_ne _ _ _ _ (by omega))).trans ((congrFun hq d).trans (upd_ne _ _ _ _ (by omega)))).trans ((congrFun hp d).trans (upd_ne _ _ _ _ (by omega)))).trans ((congrFun hh26 d).trans (upd_ne _ _ _ _ (by omega))))) (Nat.le_refl bd), ⟨(look_ne hh28 (by omega) (look_ne hq (by omega) (look_ne hp (by omega) (look_ne hh26 (by omega) hr0)))), (look_ne hh28 (by omega) (look_ne hq (by omega) (look_ne hp (by omega) (look_ne hh26 (by omega) hr1)))), (look_ne hh28 (by omega) (look_ne hq (by omega) (look_ne hp (by omega) (look_ne hh26 (by omega) hr2)))), (look_ne hh28 (by omega) (look_ne hq (by omega) (look_ne hp (by omega) (look_ne hh26 (by omega) hr3))))⟩, ⟨(z1 rfl (z8 rfl (z8 rfl q1))), (z1 rfl (z8 rfl (z8 rfl q5))), (z1 rfl (z8 rfl (z8 rfl q6))), (z1 rfl (z8 rfl (z8 rfl q7))), (z1 rfl (z8 rfl (z8 rfl q8))), (z1 rfl (z8 rfl (z8 rfl q9))), (z1 rfl (z8 rfl (z8 rfl q36))), (z1 rfl (z8 rfl (z8 rfl q37))), (z1 rfl (z8 rfl (z8 rfl q38))), (z1 rfl (z8 rfl (z8 rfl q10))), (z1 rfl (z8 rfl (z8 rfl q12))), (z1 rfl (z8 rfl (z8 rfl q50))), (z1 rfl (z8 rfl (z8 rfl q51))), ds⟩, by omega, Keep.upd (Keep.upd (Keep.upd (Keep.upd (hkp) hh26 (.inl (by omega))) hp (.inl (by omega))) hq (.inl (by omega))) hh28 (.inl (by omega)), by omega⟩
    replace hc20 := of_decide_eq_false hc20
    refine k_exit (exK_same (k_seq (k_reg (m1 (z1 rfl q12) (r_op (o_len_I hR (ev_t ds)) rfl (r_op (o_eql (ev_t ds) ev_c) rfl (r_nil ?_)))))))
    refine k_cond (ev_t ds) (fun hc29 => ?_) (fun hc29 => ?_)
    · replace hc29 := of_decide_eq_true hc29
      have hSl := hQ.few
      rcases hrd with ⟨hv9e, hSe⟩ | ⟨c9, r9, hv9e, hr9, hc9a, hc9b, hr9t⟩
      · refine k_reg (m1 (z4 rfl q9) (m1 (z1 rfl (z4 rfl q10)) (r_heap (o_bslice (fill_cons (ev_t ds) rfl rfl fill_nil)) rfl (fun t30 (hh31 : hv t30 = upd (hv tu) nu (some (.row [(.int .i64 ((i : Nat) : Int))] true))) => r_heap (o_appE ((ev_t (z2 rfl ds)).trans (congrArg some hv9e)) (ev_t ds) (app_nil (cs := [.int .i64 (i : Int)]) rfl (src_row (k := 1) (look_same hh31) (leb rfl)) rfl (by decide) (by decide))) rfl (fun tq (hq : hv tq = upd (hv t30) (nu + 1) (some (.row [.int .i64 (i : Int)] true))) => m1 ds (r_nil (k_reg (r_op (o_add (ev_t (z1 rfl (z8 rfl q38))) ev_c (by omega) (by omega)) rfl (m1 ds (r_nil ?_))))))))))
        have hq1 := hQ.next (by omega)
        rw [hel] at hq1
        exact ⟨ns.length - (i + 1), by omega, i + 1, F, dF, Wt.set i (((hangs x).length : Nat) : Int), S ++ [i], (.slice (nu + 1) 0 1 1 1 false), (nu + 1), by omega, hP.next (by omega) (by omega), hq1.1 (List.eq_nil_of_length_eq_zero (by omega)), hfan.keep (by omega) (by omega) (fun d hd hdq => (((congrFun hq d).trans (upd_ne _ _ _ _ (by omega))).trans ((congrFun hh31 d).trans (upd_ne _ _ _ _ (by omega))))) (.inr (by omega)) (by omega), by rw [hSe]; exact Rdy.nil (look_same hq), .inr (by omega), by omega, by omega, ⟨(look_ne hq (by omega) (look_ne hh31 (by omega) hr0)), (look_ne hq (by omega) (look_ne hh31 (by omega) hr1)), (look_ne hq (by omega) (look_ne hh31 (by omega) hr2)), (look_ne hq (by omega) (look_ne hh31 (by omega) hr3))⟩, ⟨(z1 rfl (z2 rfl (z8 rfl q1))), (z1 rfl (z2 rfl (z8 rfl q5))), (z1 rfl (z2 rfl (z8 rfl q6))), (z1 rfl (z2 rfl (z8 rfl q7))), (z1 rfl (z2 rfl (z8 rfl q8))), (z2 rfl ds), (z1 rfl (z2 rfl (z8 rfl q36))), (z1 rfl (z2 rfl (z8 rfl q37))), ds⟩, by omega, Keep.upd (Keep.upd (hkp) hh31 (.inl (by omega))) hq (.inl (by omega)), by omega⟩
      have hd9l : (((((nx + 1) + 1) + 1) + 1) + 1) ≤ d9 := hv9.elim (fun e => by rw [e] at hv9e; cases hv9e) id
      by_cases hroom : S.length + 1 ≤ c9
      · refine k_reg (m1 (z4 rfl q9) (m1 (z1 rfl (z4 rfl q10)) (r_heap (o_bslice (fill_cons (ev_t ds) rfl rfl fill_nil)) rfl (fun t32 (hh33 : hv t32 = upd (hv tu) nu (some (.row [(.int .i64 ((i : Nat) : Int))] true))) => ?_))))
        refine r_heap (o_appE ((ev_t (z2 rfl ds)).trans (congrArg some hv9e)) (ev_t ds) (app_in (k := 1) (cs := [.int .i64 (i : Int)]) rfl (src_row (k := 1) (look_same hh33) (leb rfl)) rfl (look_ne hh33 (by omega) hr9) (by omega) (by show 0 + S.length * 1 + 1 ≤ _; omega))) rfl (fun tq (hq : hv tq = upd (hv t32) d9 (some (.row (splice r9 (0 + S.length * 1) [.int .i64 (i : Int)]) true))) => ?_)
        refine m1 ds (r_nil (k_reg (r_op (o_add (ev_t (z1 rfl (z8 rfl q38))) ev_c (by omega) (by omega)) rfl (m1 ds (r_nil ?_)))))
        have hq1 := hQ.next (by omega)
        rw [hel] at hq1
        exact ⟨ns.length - (i + 1), by omega, i + 1, F, dF, Wt.set i (((hangs x).length : Nat) : Int), S ++ [i], (.slice d9 0 (S.length + 1) c9 1 false), d9, by omega, hP.next (by omega) (by omega), hq1.1 (List.eq_nil_of_length_eq_zero (by omega)), hfan.keep (by omega) (by omega) (fun d hd hdq => (((congrFun hq d).trans (upd_ne _ _ _ _ (by omega))).trans ((congrFun hh33 d).trans (upd_ne _ _ _ _ (by omega))))) (.inl rfl) (by omega), Rdy.room hr9t hroom hc9b (look_same hq), .inr (by omega), by omega, by omega, ⟨(look_ne hq (by omega) (look_ne hh33 (by omega) hr0)), (look_ne hq (by omega) (look_ne hh33 (by omega) hr1)), (look_ne hq (by omega) (look_ne hh33 (by omega) hr2)), (look_ne hq (by omega) (look_ne hh33 (by omega) hr3))⟩, ⟨(z1 rfl (z2 rfl (z8 rfl q1))), (z1 rfl (z2 rfl (z8 rfl q5))), (z1 rfl (z2 rfl (z8 rfl q6))), (z1 rfl (z2 rfl (z8 rfl q7))), (z1 rfl (z2 rfl (z8 rfl q8))), (z2 rfl ds), (z1 rfl (z2 rfl (z8 rfl q36))), (z1 rfl (z2 rfl (z8 rfl q37))), ds⟩, by omega, Keep.upd (Keep.upd (hkp) hh33 (.inl (by omega))) hq (.inl (by omega)), by omega⟩
      refine k_reg (m1 (z4 rfl q9) (m1 (z1 rfl (z4 rfl q10)) (r_heap (o_bslice (fill_cons (ev_t ds) rfl rfl fill_nil)) rfl (fun t34 (hh35 : hv t34 = upd (hv tu) nu (some (.row [(.int .i64 ((i : Nat) : Int))] true))) => ?_))))
      refine r_heap (o_appE ((ev_t (z2 rfl ds)).trans (congrArg some hv9e)) (ev_t ds) (app_new_f (k := 1) (cs := [.int .i64 (i : Int)]) rfl (src_row (k := 1) (look_same hh35) (leb rfl)) rfl (look_ne hh35 (by omega) hr9) (by omega) (by omega) (by have := hSl; omega))) rfl (fun tq ⟨tp, hp, hq⟩ => ?_)
      refine m1 ds (r_nil (k_reg (r_op (o_add (ev_t (z1 rfl (z8 rfl q38))) ev_c (by omega) (by omega)) rfl (m1 ds (r_nil ?_)))))
      have hq1 := hQ.next (by omega)
      rw [hel] at hq1
      exact ⟨ns.length - (i + 1), by omega, i + 1, F, dF, Wt.set i (((hangs x).length : Nat) : Int), S ++ [i], (.slice (nu + 1) 0 (S.length + 1) (S.length + 1) 1 false), (nu + 1), by omega, hP.next (by omega) (by omega), hq1.1 (List.eq_nil_of_length_eq_zero (by omega)), hfan.keep (by omega) (by omega) (fun d hd hdq => ((((congrFun hq d).trans (upd_ne _ _ _ _ (by omega))).trans ((congrFun hp d).trans (upd_ne _ _ _ _ (by omega)))).trans ((congrFun hh35 d).trans (upd_ne _ _ _ _ (by omega))))) (.inr (by omega)) (by omega), Rdy.full hr9t (look_same hq), .inr (by omega), by omega, by omega, ⟨(look_ne hq (by omega) (look_ne hp (by omega) (look_ne hh35 (by omega) hr0))), (look_ne hq (by omega) (look_ne hp (by omega) (look_ne hh35 (by omega) hr1))), (look_ne hq (by omega) (look_ne hp (by omega) (look_ne hh35 (by omega) hr2))), (look_ne hq (by omega) (look_ne hp (by omega) (look_ne hh35 (by omega) hr3)))⟩, ⟨(z1 rfl (z2 rfl (z8 rfl q1))), (z1 rfl (z2 rfl (z8 rfl q5))), (z1 rfl (z2 rfl (z8 rfl q6))), (z1 rfl (z2 rfl (z8 rfl q7))), (z1 rfl (z2 rfl (z8 rfl q8))), (z2 rfl ds), (z1 rfl (z2 rfl (z8 rfl q36))), (z1 rfl (z2 rfl (z8 rfl q37))), ds⟩, by omega, Keep.upd (Keep.upd (Keep.upd (hkp) hh35 (.inl (by omega))) hp (.inl (by omega))) hq (.inl (by omega)), by omega⟩
    replace hc29 := of_decide_eq_false hc29
    refine k_skip (k_reg (r_op (o_add (ev_t (z4 rfl q38)) ev_c (by omega) (by omega)) rfl (m1 ds (r_nil ?_))))
    have hq1 := hQ.next (by omega)
    rw [hel] at hq1
    exact ⟨ns.length - (i + 1), by omega, i + 1, F, dF, Wt.set i (((hangs x).length : Nat) : Int), S, v9, d9, by omega, hP.next (by omega) (by omega), hq1.2 (fun e => by rw [e] at hel; simp only [List.length_nil] at hel; omega), hfan.keep (by omega) (by omega) (fun d hd hdq => rfl) (.inl rfl) (by omega), hrd.keep rfl, hv9, by omega, by omega, ⟨hr0, hr1, hr2, hr3⟩, ⟨(z2 rfl (z4 rfl q1)), (z2 rfl (z4 rfl q5)), (z2 rfl (z4 rfl q6)), (z2 rfl (z4 rfl q7)), (z2 rfl (z4 rfl q8)), (z2 rfl (z4 rfl q9)), (z2 rfl (z4 rfl q36)), (z2 rfl (z4 rfl q37)), ds⟩, by omega, hkp, by omega⟩
  replace hc11 := of_decide_eq_false hc11
  refine k_exit (exK_same (k_seq (k_reg (r_op (o_mov ev_c) rfl (r_nil (k_seq (k_block ?_)))))))
  have hin : i = ns.length := by omega
  rw [hin] at hP hQ
  obtain ⟨hLv, hcnt⟩ := start2 hP hQ
  have hFlt := hP.lt
  have hFl : ∀ k, k < ns.length → (F k).length ≤ 12288 := fun k hk => by have := hP.len k hk; omega
  have hzero : List.replicate ns.length (AV.int .i64 0) = ints (List.replicate ns.length 0) := by unfold ints; rw [List.map_replicate]; rfl
  refine k_loop (fun mm Tz tz nz => ∃ (D S : List Nat) (Wt L : List Int) (B : List AV) (v9 : AV) (d9 : Nat), Lv (eOf ns) ns.length F D S Wt [] ∧ (Fans tz (((((nx + 1) + 1) + 1) + 1) + 1) nz d9 ((((nx + 1) + 1) + 1) + 1) ns.length F dF ∧ Rdy tz d9 v9 S ∧ (v9 = .nslice ∨ (((((nx + 1) + 1) + 1) + 1) + 1) ≤ d9) ∧ (d9 = nx ∨ (((((nx + 1) + 1) + 1) + 1) + 1) ≤ d9) ∧ d9 < nz ∧ L.length = ns.length ∧ (∀ x ∈ L, 0 ≤ x ∧ x ≤ ((D.length * 12288 : Nat) : Int)) ∧ B.length = ns.length ∧ (hv tz nx = some (.row [vn, vt, .int .i64 p] true) ∧ hv tz (nx + 1) = some (.row (ints L) true) ∧ hv tz ((nx + 1) + 1) = some (.row (ints Wt) true) ∧ hv tz (((nx + 1) + 1) + 1) = some (.row B true)) ∧ (((((nx + 1) + 1) + 1) + 1) + 1) ≤ nz ∧ Keep t tz nx (fun _ => False)) ∧ (Tz.get 5 = some (.slice (nx + 1) 0 ns.length ns.length 1 true) ∧ Tz.get 6 = some (.slice ((nx + 1) + 1) 0 ns.length ns.length 1 true) ∧ Tz.get 7 = some (.slice (((nx + 1) + 1) + 1) 0 ns.length ns.length 1 true) ∧ Tz.get 8 = some (.slice ((((nx + 1) + 1) + 1) + 1) 0 ns.length ns.length 1 true) ∧ Tz.get 9 = some v9 ∧ Tz.get 15 = some (.int .i64 ((D.length : Nat) : Int))) ∧ mm + D.length = ns.length) (fun mm Tz tz nz hI => ?_) (ns.length) ⟨[], S, Wt, List.replicate ns.length 0, List.replicate ns.length (AV.bool false), v9, d9, hLv, ⟨hfan, hrd, hv9, hd9, hd9b, by simp, (fun x hx => by have := List.eq_of_mem_replicate hx; subst this; simp), by simp, ⟨hr0, by rw [← hzero]; exact hr1, hr2, hr3⟩, hnv, hkp⟩, ⟨(z2 rfl q5), (z2 rfl q6), (z2 rfl q7), (z2 rfl q8), (z2 rfl q9), ds⟩, by simp⟩
  obtain ⟨D, S, Wt, L, B, v9, d9, hLv, ⟨hfan, hrd, hv9, hd9, hd9b, hLl, hLb, hBl, ⟨hr0, hr1, hr2, hr3⟩, hnz, hkp⟩, ⟨q5, q6, q7, q8, q9, q15⟩, hmm⟩ := hI
  refine k_seq (k_seq (k_reg (m1 q9 (r_op (o_len_R hrd (ev_t ds)) rfl (r_op (o_gtr (ev_t ds) ev_c) rfl (r_nil ?_))))))
  refine k_cond (ev_t ds) (fun hc36 => ?_) (fun hc36 => ?_)
  · replace hc36 := of_decide_eq_true hc36
    refine k_skip (k_block (k_seq ?_))
    obtain ⟨S', a, c9, r9, hSe, hv9e, hr9, hc9a, hc9b, hga, hrd2⟩ := hrd.last (by omega)
    have hSl : S.length = S'.length + 1 := by rw [hSe]; simp
    rw [hSe] at hLv
    have han : a < ns.length := hLv.lt a (by simp)
    have hd9l : (((((nx + 1) + 1) + 1) + 1) + 1) ≤ d9 := hv9.elim (fun e => by rw [e] at hv9e; cases hv9e) id
    have hpop := hLv.pop (fun i hi => hcnt a han i hi)
    have hD := hpop.few
    have hfa := hFl a han
    refine k_reg (m1 (z1 rfl (z2 rfl q9)) (m1 (z4 rfl q9) (r_op (o_len_R hrd (ev_t ds)) rfl (r_op (o_sub (ev_t ds) ev_c (by omega) (by omega)) rfl (r_op (o_iaddrE (i := S'.length) (ev_t (z1 rfl (z2 rfl ds))) hv9e (ev_cast (ev_t ds) (by omega)) (by omega)) rfl ?_)))))
    refine r_op (o_load (ev_t ds) hr9 (by rw [Nat.zero_add, Nat.mul_one]; exact hga)) rfl ?_
    refine m1 ds (r_nil (k_seq (k_reg (m1 (z2 rfl (z8 rfl q9)) (m1 (z1 rfl (z2 rfl (z8 rfl q9))) (r_op (o_len_R hrd (ev_t ds)) rfl (r_op (o_sub (ev_t ds) ev_c (by omega) (by omega)) rfl (r_op (o_cslice_hi (m := S'.length) (ev_t (z1 rfl (z2 rfl ds))) hv9e (ev_cast (ev_t ds) (by omega)) (by omega)) rfl (m1 ds (r_nil (k_seq (k_reg (m1 (z8 rfl (z8 rfl q7)) (m1 (z1 rfl (z2 rfl (z4 rfl ds))) (r_op (o_iaddr1 (i := a) (ev_t (z1 rfl ds)) (ev_t ds) (by omega)) rfl (r_heap (o_storeC (ev_t ds) ev_c rfl rfl hr3 (by omega)) rfl (fun t37 (hh38 : hv t37 = upd (hv tz) (((nx + 1) + 1) + 1) (some (.row (B.set a (AV.bool true)) true))) => r_nil (k_seq (k_reg (m1 (z4 rfl (z8 rfl (z8 rfl q15))) (r_op (o_add (ev_t ds) ev_c (by omega) (by omega)) rfl (m1 ds (r_nil (k_seq (k_reg (m1 (z1 rfl (z2 rfl (z4 rfl (z8 rfl (z8 rfl q8))))) (m1 (z2 rfl (z4 rfl (z8 rfl ds))) (r_op (o_iaddr1 (i := a) (ev_t (z1 rfl ds)) (ev_t ds) (by omega)) rfl (r_op (o_load (ev_t ds) (look_ne hh38 (by omega) hfan.row) (fansR_get han)) rfl (r_op (o_len_fan (ev_t ds)) rfl (r_op (o_mov ev_c) rfl (r_nil (k_block ?_)))))))))))))))))))))))))))))))))
    refine k_loop (fun mm Ty ty ny => ∃ (m : Nat) (S : List Nat) (Wt L : List Int) (B : List AV) (v9 : AV) (d9 : Nat), m ≤ (F a).length ∧ Lv (eOf ns) ns.length F (a :: D) S Wt ((F a).drop m) ∧ (Fans ty (((((nx + 1) + 1) + 1) + 1) + 1) ny d9 ((((nx + 1) + 1) + 1) + 1) ns.length F dF ∧ Rdy ty d9 v9 S ∧ (v9 = .nslice ∨ (((((nx + 1) + 1) + 1) + 1) + 1) ≤ d9) ∧ (d9 = nx ∨ (((((nx + 1) + 1) + 1) + 1) + 1) ≤ d9) ∧ d9 < ny ∧ L.length = ns.length ∧ (∀ x ∈ L, 0 ≤ x ∧ x ≤ ((D.length * 12288 + m : Nat) : Int)) ∧ B.length = ns.length ∧ (hv ty nx = some (.row [vn, vt, .int .i64 p] true) ∧ hv ty (nx + 1) = some (.row (ints L) true) ∧ hv ty ((nx + 1) + 1) = some (.row (ints Wt) true) ∧ hv ty (((nx + 1) + 1) + 1) = some (.row B true)) ∧ (((((nx + 1) + 1) + 1) + 1) + 1) ≤ ny ∧ Keep t ty nx (fun _ => False)) ∧ (Ty.get 5 = some (.slice (nx + 1) 0 ns.length ns.length 1 true) ∧ Ty.get 6 = some (.slice ((nx + 1) + 1) 0 ns.length ns.length 1 true) ∧ Ty.get 7 = some (.slice (((nx + 1) + 1) + 1) 0 ns.length ns.length 1 true) ∧ Ty.get 8 = some (.slice ((((nx + 1) + 1) + 1) + 1) 0 ns.length ns.length 1 true) ∧ Ty.get 9 = some v9 ∧ Ty.get 15 = some (.int .i64 (((D.length : Nat) : Int) + 1)) ∧ Ty.get 16 = some (.int .i64 ((a : Nat) : Int)) ∧ Ty.get 97 = some (fanV (F a) (dF a)) ∧ Ty.get 98 = some (.int .i64 (((F a).length : Nat) : Int)) ∧ Ty.get 99 = some (.int .i64 ((m : Nat) : Int))) ∧ mm + m = (F a).length) (fun mm Ty ty ny hI => ?_) ((F a).length) ⟨0, S', Wt, L, B.set a (AV.bool true), .slice d9 0 S'.length c9 1 false, d9, by omega, hpop, ⟨hfan.keep (by omega) (by omega) (fun d hd hdq => ((congrFun hh38 d).trans (upd_ne _ _ _ _ (by omega)))) (.inl rfl) (by omega), hrd2.keep ((congrFun hh38 d9).trans (upd_ne _ _ _ _ (by omega))), .inr hd9l, .inr hd9l, by omega, hLl, hLb, by rw [List.length_set]; exact hBl, ⟨(look_ne hh38 (by omega) hr0), (look_ne hh38 (by omega) hr1), (look_ne hh38 (by omega) hr2), (look_same hh38)⟩, by omega, Keep.upd (hkp) hh38 (.inl (by omega))⟩, ⟨(z1 rfl (z4 rfl (z8 rfl (z8 rfl (z8 rfl q5))))), (z1 rfl (z4 rfl (z8 rfl (z8 rfl (z8 rfl q6))))), (z1 rfl (z4 rfl (z8 rfl (z8 rfl (z8 rfl q7))))), (z1 rfl (z4 rfl (z8 rfl (z8 rfl (z8 rfl q8))))), (z1 rfl (z4 rfl (z8 rfl ds))), (z2 rfl (z4 rfl ds)), (z1 rfl (z2 rfl (z8 rfl (z8 rfl ds)))), (z2 rfl ds), (z1 rfl ds), ds⟩, by omega⟩
    obtain ⟨m, S, Wt, L, B, v9, d9, hm, hLv, ⟨hfan, hrd, hv9, hd9, hd9b, hLl, hLb, hBl, ⟨hr0, hr1, hr2, hr3⟩, hnz, hkp⟩, ⟨q5, q6, q7, q8, q9, q15, q16, q97, q98, q99⟩, hmm⟩ := hI
    refine k_seq (k_reg (r_op (o_lss (ev_t q99) (ev_t q98)) rfl (r_nil (k_seq ?_))))
    refine k_cond (ev_t ds) (fun hc39 => ?_) (fun hc39 => ?_)
    · replace hc39 := of_decide_eq_true hc39
      refine k_skip (k_seq (k_block (k_seq ?_)))
      obtain ⟨b, hbk⟩ := some_at (l := F a) (i := m) (by omega)
      have hbn := hFlt a han b (List.mem_of_getElem? hbk)
      have hFa : F a ≠ [] := by intro e; rw [e] at hbk; simp at hbk
      have hfv := fanV_ne hFa (dF a)
      obtain ⟨hfr, hfl, hfh, hfx⟩ := hfan.at_ a han hFa
      have hwl := hLv.wl
      obtain ⟨lb, hlb⟩ := some_at (l := L) (i := b) (by omega)
      obtain ⟨la, hla⟩ := some_at (l := L) (i := a) (by omega)
      obtain ⟨u, hu⟩ := some_at (l := Wt) (i := b) (by omega)
      have hlb2 := hLb lb (List.mem_of_getElem? hlb)
      have hla2 := hLb la (List.mem_of_getElem? hla)
      rw [drop_at hbk] at hLv
      have hdec := hLv.dec hbn hu
      have hmx := mxI_or lb (la + 1)
      have hD3 := hLv.few
      rw [List.length_cons] at hD3
      have hub := u_bound hG hbn hdec.2.1 (by rw [← drop_at hbk, List.length_drop]; omega)
      refine k_reg (r_op (o_iaddrE (i := m) (ev_t (z1 rfl q97)) hfv (ev_t (z1 rfl q99)) (by omega)) rfl ?_)
      refine r_op (o_load (ev_t ds) hfr (by rw [Nat.zero_add, Nat.mul_one]; exact ints_get (nints_get hbk))) rfl ?_
      refine m1 ds (r_nil (k_seq (k_draw (e_op 0 rfl (o_mov (ev_t (z4 rfl q5))) rfl (e_op 1 rfl (o_mov (ev_t (z1 rfl ds))) rfl (e_op 2 rfl (o_mov (ev_t (z2 rfl (z4 rfl q5)))) rfl (e_op 3 rfl (o_mov (ev_t (z1 rfl (z2 rfl ds)))) rfl (e_op 4 rfl (o_iaddr1 (i := b) (ev_t (z1 rfl ds)) (ev_t ds) (by omega)) rfl (e_op 5 rfl (o_load (ev_t ds) hr1 (ints_get hlb)) rfl (e_op 6 rfl (o_mov (ev_t (z2 rfl (z8 rfl q5)))) rfl (e_op 7 rfl (o_mov (ev_t (z1 rfl (z2 rfl (z8 rfl q16))))) rfl (e_op 8 rfl (o_iaddr1 (i := a) (ev_t (z1 rfl ds)) (ev_t ds) (by omega)) rfl (e_op 9 rfl (o_load (ev_t ds) hr1 (ints_get hla)) rfl (e_op 10 rfl (o_add (ev_t ds) ev_c (by omega) (by omega)) rfl (e_op 11 rfl (o_maxD (ev_t (z1 rfl (z4 rfl ds))) (ev_t ds)) rfl (e_op 12 rfl (o_iaddr1 (i := b) (ev_t (z1 rfl (z2 rfl (z8 rfl ds)))) (ev_t (z2 rfl (z8 rfl ds))) (by omega)) rfl ?_))))))))))))))))
      refine d_heap (ix := 13) (pr := [12, 11, 0, 1, 2, 3, 4, 5, 6, 7, 8, 9, 10, 11]) (d := none) (g := none) (F' := []) (o := (.store 1 (.t 115) (.t 114))) (o_storeI (l := L) (ev_t ds) (ev_t (z1 rfl ds)) hr1 (by omega)) rfl (by kernel_rfl) (by kernel_rfl) (by kernel_rfl) (by kernel_rfl) (fun t40 (hh41 : hv t40 = upd (hv ty) (nx + 1) (some (.row (ints (L.set b (mxI lb (la + 1)))) true))) => ⟨?_, ?_⟩)
      · exact all_nil_
      refine e_done (k_seq (k_reg (m1 (z2 rfl (z8 rfl (z8 rfl q6))) (m1 (z1 rfl (z2 rfl (z4 rfl (z8 rfl ds)))) (r_op (o_iaddr1 (i := b) (ev_t (z1 rfl ds)) (ev_t ds) (by omega)) rfl (r_op (o_load (ev_t ds) (look_ne hh41 (by omega) hr2) (ints_get hu)) rfl (r_op (o_sub (ev_t ds) ev_c (by omega) (by omega)) rfl (r_op (o_iaddr1 (i := b) (ev_t (z4 rfl ds)) (ev_t (z1 rfl (z2 rfl ds))) (by omega)) rfl (r_heap (o_storeI (l := Wt) (ev_t ds) (ev_t (z1 rfl ds)) (look_ne hh41 (by omega) hr2) (by omega)) rfl (fun t42 (hh43 : hv t42 = upd (hv t40) ((nx + 1) + 1) (some (.row (ints (Wt.set b (u - 1))) true))) => r_nil (k_seq (k_reg (m1 (z1 rfl (z8 rfl (z8 rfl (z8 rfl q6)))) (m1 (z2 rfl (z4 rfl (z8 rfl (z8 rfl ds)))) (r_op (o_iaddr1 (i := b) (ev_t (z1 rfl ds)) (ev_t ds) (by omega)) rfl ?_)))))))))))))))
      refine r_op (o_load (ev_t ds) (look_same hh43) (ints_get (by rw [List.getElem?_set_self (by omega)]))) rfl ?_
      refine r_op (o_eql (ev_t ds) ev_c) rfl (r_nil ?_)
      refine k_cond (ev_t ds) (fun hc44 => ?_) (fun hc44 => ?_)
      · replace hc44 := of_decide_eq_true hc44
        have hSl2 := hD3
        rcases hrd with ⟨hv9e, hSe⟩ | ⟨c9, r9, hv9e, hr9, hc9a, hc9b, hr9t⟩
        · refine k_reg (m1 (z2 rfl (z4 rfl (z8 rfl (z8 rfl (z8 rfl q9))))) (m1 (z1 rfl (z2 rfl (z8 rfl (z8 rfl (z8 rfl ds))))) (r_heap (o_bslice (fill_cons (ev_t ds) rfl rfl fill_nil)) rfl (fun t45 (hh46 : hv t45 = upd (hv t42) ny (some (.row [(.int .i64 ((b : Nat) : Int))] true))) => r_heap (o_appE ((ev_t (z2 rfl ds)).trans (congrArg some hv9e)) (ev_t ds) (app_nil (cs := [.int .i64 ((b : Nat) : Int)]) rfl (src_row (k := 1) (look_same hh46) (leb rfl)) rfl (by decide) (by decide))) rfl (fun tq (hq : hv tq = upd (hv t45) (ny + 1) (some (.row [.int .i64 ((b : Nat) : Int)] true))) => m1 ds (r_nil (k_reg (r_op (o_add (ev_t (z1 rfl (z2 rfl (z8 rfl (z8 rfl (z8 rfl (z8 rfl q99))))))) ev_c (by omega) (by omega)) rfl (m1 ds (r_nil ?_))))))))))
          exact ⟨(F a).length - (m + 1), by omega, m + 1, S ++ [b], Wt.set b (u - 1), L.set b (mxI lb (la + 1)), B, (.slice (ny + 1) 0 1 1 1 false), (ny + 1), by omega, hdec.2.2.1 (by omega), ⟨hfan.keep (by omega) (by omega) (fun d hd hdq => (((((congrFun hq d).trans (upd_ne _ _ _ _ (by omega))).trans ((congrFun hh46 d).trans (upd_ne _ _ _ _ (by omega)))).trans ((congrFun hh43 d).trans (upd_ne _ _ _ _ (by omega)))).trans ((congrFun hh41 d).trans (upd_ne _ _ _ _ (by omega))))) (.inr (by omega)) (by omega), by rw [hSe]; exact Rdy.nil (look_same hq), .inr (by omega), by omega, by omega, by rw [List.length_set]; exact hLl, set_bd hLb (by omega) (by omega), hBl, ⟨(look_ne hq (by omega) (look_ne hh46 (by omega) (look_ne hh43 (by omega) (look_ne hh41 (by omega) hr0)))), (look_ne hq (by omega) (look_ne hh46 (by omega) (look_ne hh43 (by omega) (look_same hh41)))), (look_ne hq (by omega) (look_ne hh46 (by omega) (look_same hh43))), (look_ne hq (by omega) (look_ne hh46 (by omega) (look_ne hh43 (by omega) (look_ne hh41 (by omega) hr3))))⟩, by omega, Keep.upd (Keep.upd (Keep.upd (Keep.upd (hkp) hh41 (.inl (by omega))) hh43 (.inl (by omega))) hh46 (.inl (by omega))) hq (.inl (by omega))⟩, ⟨(z1 rfl (z4 rfl (z8 rfl (z8 rfl (z8 rfl (z8 rfl q5)))))), (z1 rfl (z4 rfl (z8 rfl (z8 rfl (z8 rfl (z8 rfl q6)))))), (z1 rfl (z4 rfl (z8 rfl (z8 rfl (z8 rfl (z8 rfl q7)))))), (z1 rfl (z4 rfl (z8 rfl (z8 rfl (z8 rfl (z8 rfl q8)))))), (z2 rfl ds), (z1 rfl (z4 rfl (z8 rfl (z8 rfl (z8 rfl (z8 rfl q15)))))), (z1 rfl (z4 rfl (z8 rfl (z8 rfl (z8 rfl (z8 rfl q16)))))), (z1 rfl (z4 rfl (z8 rfl (z8 rfl (z8 rfl (z8 rfl q97)))))), (z1 rfl (z4 rfl (z8 rfl (z8 rfl (z8 rfl (z8 rfl q98)))))), ds⟩, by omega⟩
        have hd9l : (((((nx + 1) + 1) + 1) + 1) + 1) ≤ d9 := hv9.elim (fun e => by rw [e] at hv9e; cases hv9e) id
        by_cases hroom : S.length + 1 ≤ c9
        · refine k_reg (m1 (z2 rfl (z4 rfl (z8 rfl (z8 rfl (z8 rfl q9))))) (m1 (z1 rfl (z2 rfl (z8 rfl (z8 rfl (z8 rfl ds))))) (r_heap (o_bslice (fill_cons (ev_t ds) rfl rfl fill_nil)) rfl (fun t47 (hh48 : hv t47 = upd (hv t42) ny (some (.row [(.int .i64 ((b : Nat) : Int))] true))) => ?_))))
          refine r_heap (o_appE ((ev_t (z2 rfl ds)).trans (congrArg some hv9e)) (ev_t ds) (app_in (k := 1) (cs := [.int .i64 ((b : Nat) : Int)]) rfl (src_row (k := 1) (look_same hh48) (leb rfl)) rfl (look_ne hh48 (by omega) (look_ne hh43 (by omega) (look_ne hh41 (by omega) hr9))) (by omega) (by show 0 + S.length * 1 + 1 ≤ _; omega))) rfl (fun tq (hq : hv tq = upd (hv t47) d9 (some (.row (splice r9 (0 + S.length * 1) [.int .i64 ((b : Nat) : Int)]) true))) => ?_)
          refine m1 ds (r_nil (k_reg (r_op (o_add (ev_t (z1 rfl (z2 rfl (z8 rfl (z8 rfl (z8 rfl (z8 rfl q99))))))) ev_c (by omega) (by omega)) rfl (m1 ds (r_nil ?_)))))
          exact ⟨(F a).length - (m + 1), by omega, m + 1, S ++ [b], Wt.set b (u - 1), L.set b (mxI lb (la + 1)), B, (.slice d9 0 (S.length + 1) c9 1 false), d9, by omega, hdec.2.2.1 (by omega), ⟨hfan.keep (by omega) (by omega) (fun d hd hdq => (((((congrFun hq d).trans (upd_ne _ _ _ _ (by omega))).trans ((congrFun hh48 d).trans (upd_ne _ _ _ _ (by omega)))).trans ((congrFun hh43 d).trans (upd_ne _ _ _ _ (by omega)))).trans ((congrFun hh41 d).trans (upd_ne _ _ _ _ (by omega))))) (.inl rfl) (by omega), Rdy.room hr9t hroom hc9b (look_same hq), .inr (by omega), by omega, by omega, by rw [List.length_set]; exact hLl, set_bd hLb (by omega) (by omega), hBl, ⟨(look_ne hq (by omega) (look_ne hh48 (by omega) (look_ne hh43 (by omega) (look_ne hh41 (by omega) hr0)))), (look_ne hq (by omega) (look_ne hh48 (by omega) (look_ne hh43 (by omega) (look_same hh41)))), (look_ne hq (by omega) (look_ne hh48 (by omega) (look_same hh43))), (look_ne hq (by omega) (look_ne hh48 (by omega) (look_ne hh43 (by omega) (look_ne hh41 (by omega) hr3))))⟩, by omega, Keep.upd (Keep.upd (Keep.upd (Keep.upd (hkp) hh41 (.inl (by omega))) hh43 (.inl (by omega))) hh48 (.inl (by omega))) hq (.inl (by omega))⟩, ⟨(z1 rfl (z4 rfl (z8 rfl (z8 rfl (z8 rfl (z8 rfl q5)))))), (z1 rfl (z4 rfl (z8 rfl (z8 rfl (z8 rfl (z8 rfl q6)))))), (z1 rfl (z4 rfl (z8 rfl (z8 rfl (z8 rfl (z8 rfl q7)))))), (z1 rfl (z4 rfl (z8 rfl (z8 rfl (z8 rfl (z8 rfl q8)))))), (z2 rfl ds), (z1 rfl (z4 rfl (z8 rfl (z8 rfl (z8 rfl (z8 rfl q15)))))), (z1 rfl (z4 rfl (z8 rfl (z8 rfl (z8 rfl (z8 rfl q16)))))), (z1 rfl (z4 rfl (z8 rfl (z8 rfl (z8 rfl (z8 rfl q97)))))), (z1 rfl (z4 rfl (z8 rfl (z8 rfl (z8 rfl (z8 rfl q98)))))), ds⟩, by omega⟩
        refine k_reg (m1 (z2 rfl (z4 rfl (z8 rfl (z8 rfl (z8 rfl q9))))) (m1 (z1 rfl (z2 rfl (z8 rfl (z8 rfl (z8 rfl ds))))) (r_heap (o_bslice (fill_cons (ev_t ds) rfl rfl fill_nil)) rfl (fun t49 (hh50 : hv t49 = upd (hv t42) ny (some (.row [(.int .i64 ((b : Nat) : Int))] true))) => ?_))))
        refine r_heap (o_appE ((ev_t (z2 rfl ds)).trans (congrArg some hv9e)) (ev_t ds) (app_new_f (k := 1) (cs := [.int .i64 ((b : Nat) : Int)]) rfl (src_row (k := 1) (look_same hh50) (leb rfl)) rfl (look_ne hh50 (by omega) (look_ne hh43 (by omega) (look_ne hh41 (by omega) hr9))) (by omega) (by omega) (by have := hSl2; omega))) rfl (fun tq ⟨tp, hp, hq⟩ => ?_)
        refine m1 ds (r_nil (k_reg (r_op (o_add (ev_t (z1 rfl (z2 rfl (z8 rfl (z8 rfl (z8 rfl (z8 rfl q99))))))) ev_c (by omega) (by omega)) rfl (m1 ds (r_nil ?_)))))
        exact ⟨(F a).length - (m + 1), by omega, m + 1, S ++ [b], Wt.set b (u - 1), L.set b (mxI lb (la + 1)), B, (.slice (ny + 1) 0 (S.length + 1) (S.length + 1) 1 false), (ny + 1), by omega, hdec.2.2.1 (by omega), ⟨hfan.keep (by omega) (by omega) (fun d hd hdq => ((((((congrFun hq d).trans (upd_ne _ _ _ _ (by omega))).trans ((congrFun hp d).trans (upd_ne _ _ _ _ (by omega)))).trans ((congrFun hh50 d).trans (upd_ne _ _ _ _ (by omega)))).trans ((congrFun hh43 d).trans (upd_ne _ _ _ _ (by omega)))).trans ((congrFun hh41 d).trans (upd_ne _ _ _ _ (by omega))))) (.inr (by omega)) (by omega), Rdy.full hr9t (look_same hq), .inr (by omega), by omega, by omega, by rw [List.length_set]; exact hLl, set_bd hLb (by omega) (by omega), hBl, ⟨(look_ne hq (by omega) (look_ne hp (by omega) (look_ne hh50 (by omega) (look_ne hh43 (by omega) (look_ne hh41 (by omega) hr0))))), (look_ne hq (by omega) (look_ne hp (by omega) (look_ne hh50 (by omega) (look_ne hh43 (by omega) (look_same hh41))))), (look_ne hq (by omega) (look_ne hp (by omega) (look_ne hh50 (by omega) (look_same hh43)))), (look_ne hq (by omega) (look_ne hp (by omega) (look_ne hh50 (by omega) (look_ne hh43 (by omega) (look_ne hh41 (by omega) hr3)))))⟩, by omega, Keep.upd (Keep.upd (Keep.upd (Keep.upd (Keep.upd (hkp) hh41 (.inl (by omega))) hh43 (.inl (by omega))) hh50 (.inl (by omega))) hp (.inl (by omega))) hq (.inl (by omega))⟩, ⟨(z1 rfl (z4 rfl (z8 rfl (z8 rfl (z8 rfl (z8 rfl q5)))))), (z1 rfl (z4 rfl (z8 rfl (z8 rfl (z8 rfl (z8 rfl q6)))))), (z1 rfl (z4 rfl (z8 rfl (z8 rfl (z8 rfl (z8 rfl q7)))))), (z1 rfl (z4 rfl (z8 rfl (z8 rfl (z8 rfl (z8 rfl q8)))))), (z2 rfl ds), (z1 rfl (z4 rfl (z8 rfl (z8 rfl (z8 rfl (z8 rfl q15)))))), (z1 rfl (z4 rfl (z8 rfl (z8 rfl (z8 rfl (z8 rfl q16)))))), (z1 rfl (z4 rfl (z8 rfl (z8 rfl (z8 rfl (z8 rfl q97)))))), (z1 rfl (z4 rfl (z8 rfl (z8 rfl (z8 rfl (z8 rfl q98)))))), ds⟩, by omega⟩
      replace hc44 := of_decide_eq_false hc44
      refine k_skip (k_reg (r_op (o_add (ev_t (z2 rfl (z4 rfl (z8 rfl (z8 rfl (z8 rfl q99)))))) ev_c (by omega) (by omega)) rfl (m1 ds (r_nil ?_))))
      exact ⟨(F a).length - (m + 1), by omega, m + 1, S, Wt.set b (u - 1), L.set b (mxI lb (la + 1)), B, v9, d9, by omega, hdec.2.2.2 (by omega), ⟨hfan.keep (by omega) (by omega) (fun d hd hdq => (((congrFun hh43 d).trans (upd_ne _ _ _ _ (by omega))).trans ((congrFun hh41 d).trans (upd_ne _ _ _ _ (by omega))))) (.inl rfl) (by omega), hrd.keep (((congrFun hh43 d9).trans (upd_ne _ _ _ _ (by omega))).trans ((congrFun hh41 d9).trans (upd_ne _ _ _ _ (by omega)))), hv9, by omega, by omega, by rw [List.length_set]; exact hLl, set_bd hLb (by omega) (by omega), hBl, ⟨(look_ne hh43 (by omega) (look_ne hh41 (by omega) hr0)), (look_ne hh43 (by omega) (look_same hh41)), (look_same hh43), (look_ne hh43 (by omega) (look_ne hh41 (by omega) hr3))⟩, by omega, Keep.upd (Keep.upd (hkp) hh41 (.inl (by omega))) hh43 (.inl (by omega))⟩, ⟨(z8 rfl (z8 rfl (z8 rfl (z8 rfl q5)))), (z8 rfl (z8 rfl (z8 rfl (z8 rfl q6)))), (z8 rfl (z8 rfl (z8 rfl (z8 rfl q7)))), (z8 rfl (z8 rfl (z8 rfl (z8 rfl q8)))), (z8 rfl (z8 rfl (z8 rfl (z8 rfl q9)))), (z8 rfl (z8 rfl (z8 rfl (z8 rfl q15)))), (z8 rfl (z8 rfl (z8 rfl (z8 rfl q16)))), (z8 rfl (z8 rfl (z8 rfl (z8 rfl q97)))), (z8 rfl (z8 rfl (z8 rfl (z8 rfl q98)))), ds⟩, by omega⟩
    replace hc39 := of_decide_eq_false hc39
    refine k_exit (exK_same ?_)
    have hdr : (F a).drop m = [] := List.drop_eq_nil_of_le (by omega)
    rw [hdr] at hLv
    have hD2 := hLv.few
    rw [List.length_cons] at hD2
    exact ⟨ns.length - (D.length + 1), by omega, a :: D, S, Wt, L, B, v9, d9, hLv, ⟨hfan, hrd, hv9, hd9, hd9b, hLl, (fun x hx => by have := hLb x hx; rw [List.length_cons]; omega), hBl, ⟨hr0, hr1, hr2, hr3⟩, hnz, hkp⟩, ⟨(z1 rfl q5), (z1 rfl q6), (z1 rfl q7), (z1 rfl q8), (z1 rfl q9), by rw [show (((a :: D).length : Nat) : Int) = ((D.length : Nat) : Int) + 1 from by simp]; exact (z1 rfl q15)⟩, by rw [List.length_cons]; omega⟩
  replace hc36 := of_decide_eq_false hc36
  refine k_exit (exK_same (k_seq (k_reg (m1 (z1 rfl (z2 rfl q5)) (m1 (z4 rfl q7) (m1 (z1 rfl (z4 rfl q15)) (m1 (z2 rfl ds) (m1 (z2 rfl ds) (m1 (z2 rfl ds) (r_nil (k_ret ?_)))))))))))
  have hS0 : S = [] := List.eq_nil_of_length_eq_zero (by omega)
  subst hS0
  have hall := all_done (E := eOf ns) (n := ns.length) (D := D) (fun i hi k hk => eOf_lt hG hi hk) (fun i hi => by have := hLv.zero i hi; simpa using this)
  exact ⟨_, ans_two (res_tmp (z2 rfl ds) (res_tmp (z1 rfl ds) (res_tmp ds res_nil))), _, _, _, rfl, by omega, by omega, hkp⟩
end Go.Proofs.YtpjohgnhmjceiaaGreatDoor.WX

set_option linter.all false
set_option linter.unusedVariables false
set_option linter.unusedSectionVars false
set_option maxRecDepth 100000
open Go Go.Proofs.YtpjohgnhmjceiaaGreatDoor.AX Go.Proofs
namespace Go.Proofs.YtpjohgnhmjceiaaGreatDoor.WX
variable [Env]
theorem ndOK.k7 {ns : List Nd} {x : Nd} (h : ndOK (x.ins.map (wdN ns)) x) (hk : x.kind = 7) : 1 ≤ x.ins.length := by
  have e : (x.ins.map (wdN ns)).length = x.ins.length := by simp
  rw [← e]
  obtain ⟨a, ha⟩ := (nodeP7 hk).1 h.2
  rw [ha]; simp
theorem LvN.of {ns : List Nd} (hg : NetG ns) (hf : ns.length ≤ 4096) (h0 : ∀ (i : Nat) (x : Nd), ns[i]? = some x → ∀ k ∈ hangs x, 0 ≤ k) : LvN ns :=
  ⟨hf, fun i x hx => ⟨fun k hk => ⟨h0 i x hx k hk, (hg i x hx).hang k hk⟩, (hg i x hx).few, (hg i x hx).ok.k7⟩⟩
theorem lrun_ok {t : TB} {nx bd : Nat} {vn vt : AV} {p : Int} {ns : List Nd} {ts : List Int} (hN : RowN t bd vn ns) (hT : RowI t bd vt ts) (hb : bd ≤ nx) (hG : LvN ns) (hM : MayP ns ts p) (htl : ts.length < 9223372036854775808) (hlong : ∀ x ∈ ns, x.ins.length < 60000 ∧ (∀ c ∈ x.value, c < 256) ∧ x.value.length ≤ 9223372036854775807) :
    WF tb 52 [.agg [vn, vt, .int .i64 p]] t nx (fun v t' nx' => ∃ lv, v = .tup [lv, .int .i64 0] ∧ nx ≤ nx' ∧ Keep t t' nx (fun _ => False)) := by
  have hcn := hN.cell
  have hct := hT.cell
  have hfew := hG.few
  refine k_fun lrun__tab rfl ?_
  unfold lrun__c
  change WC _ _ (TA.put (some _) TA.e 0) _ _ _
  refine k_seq (k_reg (r_heap (o_box (ev_t get_same)) rfl (fun t1 (hh2 : hv t1 = upd (hv t) nx (some (.row [vn, vt, (.int .i64 p)] true))) => r_op (o_mov ev_c) rfl (r_op (o_mov ev_c) rfl (r_nil (k_seq (k_seq (k_reg (r_op (o_loadA (n := 3) (ev_t (z2 rfl ds)) (look_same hh2) (leb rfl) rfl) rfl (r_call (w_callF (evs_cons (ev_t ds) evs_nil)) rfl (WF.mono (check_ok (hN.keep (fun d hd hw => (show Keep t t1 nx (fun _ => False) from Keep.upd (Keep.refl _ _ _) hh2 (.inl (by omega))) d (by omega) hw) (Nat.le_refl bd)) (hT.keep (fun d hd hw => (show Keep t t1 nx (fun _ => False) from Keep.upd (Keep.refl _ _ _) hh2 (.inl (by omega))) d (by omega) hw) (Nat.le_refl bd)) (by omega) (by omega) htl hlong) ?_)))))))))))
  rintro _ t3 n4 ⟨rk, rfl, hrk1, hrk2, hn_c, hk_c⟩
  have hrk0 := hrk2.2 hM
  by_cases hs5 : (rk = 0)
  · refine r_op (ndec_f (o_neq (ev_t ds) ev_c) hs5) rfl (r_nil (k_cond_f (ev_t ds) (k_skip (k_seq (k_reg (r_op (o_loadA (n := 3) (ev_t (z1 rfl (z4 rfl ds))) (Keep.look hk_c (by omega) id (look_same hh2)) (leb rfl) rfl) rfl (r_call (w_callF (evs_cons (ev_t ds) evs_nil)) rfl (WF.mono (levels_ok (hN.keep (fun d hd hw => (show Keep t t3 nx (fun _ => False) from Keep.trans (Keep.upd (Keep.refl _ _ _) hh2 (.inl (by omega))) hk_c (by omega) (fun d _ h => h)) d (by omega) hw) (Nat.le_refl bd)) hct (by omega) hG) ?_))))))))
    rintro _ t6 n7 ⟨u1, u2, q, rfl, hq_, hn_l, hk_l⟩
    refine m1 ds (r_op (o_extr (ev_t ds) rfl) rfl (r_op (o_extr (ev_t (z1 rfl ds)) rfl) rfl (r_op (o_extr (ev_t (z2 rfl ds)) rfl) rfl (m1 (z2 rfl ds) (m1 (z2 rfl ds) (m1 (z2 rfl ds) (r_nil (k_seq (k_seq (k_reg (m1 ds (r_op (o_faddr (off := 0) (ev_t (z1 rfl (z2 rfl (z4 rfl (z8 rfl ds)))))) rfl (r_op (o_load (ev_t ds) (Keep.look hk_l (by omega) id (Keep.look hk_c (by omega) id (look_same hh2))) rfl) rfl (r_op (o_len_N hN (ev_t ds)) rfl ?_))))))))))))))
    by_cases hs8 : (q < ((ns.length : Nat) : Int))
    · refine r_op (dec_t (o_lss (ev_t (z1 rfl (z2 rfl ds))) (ev_t ds)) hs8) rfl (r_nil (k_cond_t (ev_t ds) (k_seq (k_reg (r_op (o_mov ev_c) rfl (r_op (o_mov ev_c) rfl (r_nil (k_ret ?_))))))))
      exfalso; omega
    refine r_op (dec_f (o_lss (ev_t (z1 rfl (z2 rfl ds))) (ev_t ds)) hs8) rfl (r_nil (k_cond_f (ev_t ds) (k_skip (k_seq (k_reg (m1 (z1 rfl (z2 rfl (z4 rfl ds))) (m1 ds (r_op (o_mov ev_c) rfl (r_nil (k_ret ?_))))))))))
    exact ⟨_, ans_two (res_tmp (z1 rfl ds) (res_tmp ds res_nil)), _, rfl, by omega, Keep.trans (Keep.trans (Keep.upd (Keep.refl _ _ _) hh2 (.inl (by omega))) hk_c (by omega) (fun d _ h => h)) hk_l (by omega) (fun d _ h => h)⟩
  refine r_op (ndec_t (o_neq (ev_t ds) ev_c) hs5) rfl (r_nil (k_cond_t (ev_t ds) (k_seq (k_reg (r_op (o_mov ev_c) rfl (r_op (o_mov ev_c) rfl (r_nil (k_ret ?_))))))))
  exfalso; omega
end Go.Proofs.YtpjohgnhmjceiaaGreatDoor.WX

set_option linter.all false
set_option linter.unusedVariables false
set_option linter.unusedSectionVars false
set_option maxRecDepth 100000
open Go Go.Proofs.YtpjohgnhmjceiaaGreatDoor.AX Go.Proofs
namespace Go.Proofs.YtpjohgnhmjceiaaGreatDoor.WX
variable [Env]
def run__r0 : List Ins := [⟨(some 3), none, (.op (.box (.t 0)))⟩,
  ⟨(some 6), none, (.op (.alloc [.nslice, .nslice, .nslice, .nslice]))⟩,
  ⟨(some 7), none, (.op (.mov (.c (.int .i64 0))))⟩]
def run__r1 : List Ins := [⟨(some 19), none, (.op (.loadA 3 (.t 3)))⟩,
  ⟨(some 20), none, (.op (.mov (.t 1)))⟩,
  ⟨(some 21), none, (.op (.mov (.t 2)))⟩,
  ⟨(some 22), none, (.callF 14 [(.t 19), (.t 20), (.t 21)])⟩,
  ⟨(some 8), none, (.op (.mov (.t 22)))⟩]
def run__r2 : List Ins := [⟨(some 23), none, (.op (.mov (.t 8)))⟩,
  ⟨(some 24), none, (.op (.bin .neq (.t 23) (.c (.int .i64 0))))⟩]
def run__r3 : List Ins := [⟨(some 25), none, (.op (.build [.nslice, .nslice, .nslice, .nslice] []))⟩,
  ⟨(some 26), none, (.op (.mov (.t 8)))⟩,
  ⟨none, none, (.op (.store 4 (.t 6) (.t 25)))⟩,
  ⟨(some 7), none, (.op (.mov (.t 26)))⟩]
def run__r4 : List Ins := [⟨(some 27), none, (.op (.loadA 3 (.t 3)))⟩,
  ⟨(some 28), none, (.callF 54 [(.t 27)])⟩,
  ⟨(some 9), none, (.op (.mov (.t 28)))⟩]
def run__r5 : List Ins := [⟨(some 29), none, (.op (.mov (.t 9)))⟩,
  ⟨(some 30), none, (.callF 55 [(.t 29)])⟩,
  ⟨(some 31), none, (.op (.build [.nslice, .nslice, .nslice, .nslice] [(2, 1, (.t 30))]))⟩,
  ⟨(some 10), none, (.op (.alloc [.nslice, .nslice, .nslice, .nslice]))⟩,
  ⟨none, none, (.op (.store 4 (.t 10) (.t 31)))⟩]
def run__r6 : List Ins := [⟨(some 32), none, (.op (.faddr (.t 3) 1))⟩,
  ⟨(some 33), none, (.op (.load (.t 32)))⟩,
  ⟨(some 34), none, (.op (.len .slc (.t 33)))⟩,
  ⟨(some 35), none, (.op (.mov (.c (.int .i64 0))))⟩]
def run__r7 : List Ins := [⟨(some 36), none, (.op (.bin .lss (.t 35) (.t 34)))⟩]
def run__r8 : List Ins := [⟨(some 37), none, (.op (.iaddr 1 (.t 33) (.t 35)))⟩,
  ⟨(some 38), none, (.op (.load (.t 37)))⟩,
  ⟨(some 12), none, (.op (.mov (.t 38)))⟩]
def run__r9 : List Ins := [⟨(some 39), none, (.op (.faddr (.t 10) 0))⟩,
  ⟨(some 40), none, (.op (.load (.t 39)))⟩,
  ⟨(some 41), none, (.op (.bslice 1 1 [(.str [])] [(0, 1, (.c (.str [])))]))⟩,
  ⟨(some 42), none, (.op (.app 1 (.t 40) (.t 41)))⟩,
  ⟨(some 43), none, (.op (.faddr (.t 10) 0))⟩,
  ⟨none, none, (.op (.store 1 (.t 43) (.t 42)))⟩]
def run__r10 : List DIns := [⟨0, [], ⟨(some 44), none, (.op (.faddr (.t 10) 1))⟩⟩,
  ⟨1, [0], ⟨(some 45), none, (.op (.load (.t 44)))⟩⟩,
  ⟨2, [], ⟨(some 46), none, (.op (.faddr (.t 3) 0))⟩⟩,
  ⟨3, [2], ⟨(some 47), none, (.op (.load (.t 46)))⟩⟩,
  ⟨4, [], ⟨(some 48), none, (.op (.mov (.t 12)))⟩⟩,
  ⟨5, [3, 4], ⟨(some 49), none, (.op (.iaddr 8 (.t 47) (.t 48)))⟩⟩,
  ⟨6, [5], ⟨(some 50), none, (.op (.faddr (.t 49) 2))⟩⟩,
  ⟨7, [6], ⟨(some 51), none, (.op (.load (.t 50)))⟩⟩,
  ⟨8, [7], ⟨(some 52), none, (.op (.bslice 1 1 [(.int .i64 0)] [(0, 1, (.t 51))]))⟩⟩,
  ⟨9, [1, 8], ⟨(some 53), none, (.op (.app 1 (.t 45) (.t 52)))⟩⟩,
  ⟨10, [0, 1, 2, 3, 4, 5, 6, 7, 8, 9], ⟨(some 54), none, (.op (.faddr (.t 10) 1))⟩⟩,
  ⟨11, [10, 9, 9, 0, 1, 2, 3, 4, 5, 6, 7, 8, 9], ⟨none, none, (.op (.store 1 (.t 54) (.t 53)))⟩⟩]
def run__r11 : List Ins := [⟨(some 55), none, (.op (.bin .add (.t 35) (.c (.int .i64 1))))⟩,
  ⟨(some 35), none, (.op (.mov (.t 55)))⟩]
def run__r12 : List Ins := [⟨(some 56), none, (.op (.mov (.t 9)))⟩,
  ⟨(some 57), none, (.callF 55 [(.t 56)])⟩,
  ⟨(some 13), none, (.op (.mov (.t 57)))⟩]
def run__r13 : List Ins := [⟨(some 14), none, (.op (.mov (.c (.int .i64 0))))⟩,
  ⟨(some 15), none, (.op (.mov (.c (.int .i64 0))))⟩]
def run__r14 : List Ins := [⟨(some 58), none, (.op (.mov (.t 14)))⟩,
  ⟨(some 59), none, (.op (.mov (.t 2)))⟩,
  ⟨(some 60), none, (.op (.bin .leq (.t 58) (.t 59)))⟩]
def run__r15 : List Ins := [⟨(some 63), none, (.op (.mov (.t 15)))⟩,
  ⟨(some 64), none, (.op (.bin .eql (.t 63) (.c (.int .i64 16384))))⟩]
def run__r16 : List Ins := [⟨(some 65), none, (.op (.build [.nslice, .nslice, .nslice, .nslice] []))⟩,
  ⟨none, none, (.op (.store 4 (.t 6) (.t 65)))⟩,
  ⟨(some 7), none, (.op (.mov (.c (.int .i64 2))))⟩]
def run__r17 : List Ins := [⟨(some 66), none, (.op (.mov (.t 9)))⟩,
  ⟨(some 67), none, (.op (.nilck (.t 66)))⟩,
  ⟨(some 68), none, (.op (.faddr (.t 67) 9))⟩,
  ⟨(some 69), none, (.op (.load (.t 68)))⟩,
  ⟨(some 70), none, (.op (.len .slc (.t 69)))⟩,
  ⟨(some 71), none, (.op (.bin .gtr (.t 70) (.c (.int .i64 0))))⟩,
  ⟨(some 72), none, (.op (.mov (.t 71)))⟩,
  ⟨(some 73), (some (72, true)), (.op (.mov (.t 9)))⟩,
  ⟨(some 74), (some (72, true)), (.op (.nilck (.t 73)))⟩,
  ⟨(some 75), (some (72, true)), (.op (.faddr (.t 74) 9))⟩,
  ⟨(some 76), (some (72, true)), (.op (.load (.t 75)))⟩,
  ⟨(some 77), (some (72, true)), (.op (.iaddr 3 (.t 76) (.c (.int .i64 0))))⟩,
  ⟨(some 78), (some (72, true)), (.op (.faddr (.t 77) 0))⟩,
  ⟨(some 79), (some (72, true)), (.op (.load (.t 78)))⟩,
  ⟨(some 80), (some (72, true)), (.op (.mov (.t 14)))⟩,
  ⟨(some 81), (some (72, true)), (.op (.bin .eql (.t 79) (.t 80)))⟩,
  ⟨(some 82), none, (.op (.pick (.t 72) (.t 81) (.c (.bool false))))⟩]
def run__r18 : List Ins := [⟨(some 83), none, (.op (.mov (.t 9)))⟩,
  ⟨(some 84), none, (.op (.nilck (.t 83)))⟩,
  ⟨(some 85), none, (.op (.faddr (.t 84) 9))⟩,
  ⟨(some 86), none, (.op (.iface 111 (.t 85)))⟩,
  ⟨(some 87), none, (.callF 56 [(.t 86)])⟩,
  ⟨(some 88), none, (.op (.tassert 109 (.agg [(.int .i64 0), (.int .i64 0), (.str [])]) (.t 87) false))⟩,
  ⟨(some 16), none, (.op (.alloc [(.int .i64 0), (.int .i64 0), (.str [])]))⟩,
  ⟨none, none, (.op (.store 3 (.t 16) (.t 88)))⟩]
def run__r19 : List DIns := [⟨0, [], ⟨(some 89), none, (.op (.mov (.t 9)))⟩⟩,
  ⟨1, [0], ⟨(some 90), none, (.op (.nilck (.t 89)))⟩⟩,
  ⟨2, [1], ⟨(some 91), none, (.op (.faddr (.t 90) 6))⟩⟩,
  ⟨3, [2], ⟨(some 92), none, (.op (.load (.t 91)))⟩⟩,
  ⟨4, [], ⟨(some 93), none, (.op (.faddr (.t 16) 1))⟩⟩,
  ⟨5, [4], ⟨(some 94), none, (.op (.load (.t 93)))⟩⟩,
  ⟨6, [], ⟨(some 95), none, (.op (.faddr (.t 16) 2))⟩⟩,
  ⟨7, [6], ⟨(some 96), none, (.op (.load (.t 95)))⟩⟩,
  ⟨8, [3, 5, 0, 1, 2, 3, 4, 5, 6, 7], ⟨(some 97), none, (.op (.iaddr 1 (.t 92) (.t 94)))⟩⟩,
  ⟨9, [8, 7, 0, 1, 2, 3, 4, 5, 6, 7], ⟨none, none, (.op (.store 1 (.t 97) (.t 96)))⟩⟩]
def run__r20 : List Ins := [⟨(some 98), none, (.op (.mov (.t 1)))⟩,
  ⟨(some 99), none, (.op (.len .slc (.t 98)))⟩,
  ⟨(some 100), none, (.op (.bin .gtr (.t 99) (.c (.int .i64 0))))⟩,
  ⟨(some 101), none, (.op (.mov (.t 100)))⟩,
  ⟨(some 102), (some (101, true)), (.op (.mov (.t 1)))⟩,
  ⟨(some 103), (some (101, true)), (.op (.iaddr 3 (.t 102) (.c (.int .i64 0))))⟩,
  ⟨(some 104), (some (101, true)), (.op (.faddr (.t 103) 0))⟩,
  ⟨(some 105), (some (101, true)), (.op (.load (.t 104)))⟩,
  ⟨(some 106), (some (101, true)), (.op (.mov (.t 14)))⟩,
  ⟨(some 107), (some (101, true)), (.op (.bin .eql (.t 105) (.t 106)))⟩,
  ⟨(some 108), none, (.op (.pick (.t 101) (.t 107) (.c (.bool false))))⟩]
def run__r21 : List DIns := [⟨0, [], ⟨(some 109), none, (.op (.mov (.t 9)))⟩⟩,
  ⟨1, [0], ⟨(some 110), none, (.op (.nilck (.t 109)))⟩⟩,
  ⟨2, [1], ⟨(some 111), none, (.op (.faddr (.t 110) 6))⟩⟩,
  ⟨3, [2], ⟨(some 112), none, (.op (.load (.t 111)))⟩⟩,
  ⟨4, [], ⟨(some 113), none, (.op (.faddr (.t 3) 1))⟩⟩,
  ⟨5, [4], ⟨(some 114), none, (.op (.load (.t 113)))⟩⟩,
  ⟨6, [], ⟨(some 115), none, (.op (.mov (.t 1)))⟩⟩,
  ⟨7, [6], ⟨(some 116), none, (.op (.iaddr 3 (.t 115) (.c (.int .i64 0))))⟩⟩,
  ⟨8, [7], ⟨(some 117), none, (.op (.faddr (.t 116) 1))⟩⟩,
  ⟨9, [8], ⟨(some 118), none, (.op (.load (.t 117)))⟩⟩,
  ⟨10, [5, 9], ⟨(some 119), none, (.op (.iaddr 1 (.t 114) (.t 118)))⟩⟩,
  ⟨11, [10], ⟨(some 120), none, (.op (.load (.t 119)))⟩⟩,
  ⟨12, [], ⟨(some 121), none, (.op (.mov (.t 1)))⟩⟩,
  ⟨13, [12], ⟨(some 122), none, (.op (.iaddr 3 (.t 121) (.c (.int .i64 0))))⟩⟩,
  ⟨14, [13], ⟨(some 123), none, (.op (.faddr (.t 122) 2))⟩⟩,
  ⟨15, [14], ⟨(some 124), none, (.op (.load (.t 123)))⟩⟩,
  ⟨16, [3, 11, 0, 1, 2, 3, 4, 5, 6, 7, 8, 9, 10, 11, 12, 13, 14, 15], ⟨(some 125), none, (.op (.iaddr 1 (.t 112) (.t 120)))⟩⟩,
  ⟨17, [16, 15, 0, 1, 2, 3, 4, 5, 6, 7, 8, 9, 10, 11, 12, 13, 14, 15], ⟨none, none, (.op (.store 1 (.t 125) (.t 124)))⟩⟩]
def run__r22 : List Ins := [⟨(some 126), none, (.op (.mov (.t 1)))⟩,
  ⟨(some 127), none, (.op (.cslice 3 (.t 126) (some (.c (.int .i64 1))) none none))⟩,
  ⟨(some 1), none, (.op (.mov (.t 127)))⟩]
def run__r23 : List Ins := [⟨(some 128), none, (.op (.mov (.t 9)))⟩,
  ⟨(some 129), none, (.callF 57 [(.t 128)])⟩]
def run__r24 : List Ins := [⟨(some 130), none, (.op (.mov (.t 9)))⟩,
  ⟨(some 131), none, (.callF 55 [(.t 130)])⟩,
  ⟨(some 132), none, (.op (.len .slc (.t 131)))⟩,
  ⟨(some 133), none, (.op (.mov (.c (.int .i64 0))))⟩]
def run__r25 : List Ins := [⟨(some 134), none, (.op (.bin .lss (.t 133) (.t 132)))⟩]
def run__r26 : List Ins := [⟨(some 135), none, (.op (.mov (.t 133)))⟩,
  ⟨(some 136), none, (.op (.iaddr 1 (.t 131) (.t 133)))⟩,
  ⟨(some 137), none, (.op (.load (.t 136)))⟩,
  ⟨(some 17), none, (.op (.mov (.t 135)))⟩,
  ⟨(some 18), none, (.op (.mov (.t 137)))⟩]
def run__r27 : List Ins := [⟨(some 138), none, (.op (.mov (.t 18)))⟩,
  ⟨(some 139), none, (.op (.mov (.t 13)))⟩,
  ⟨(some 140), none, (.op (.mov (.t 17)))⟩,
  ⟨(some 141), none, (.op (.iaddr 1 (.t 139) (.t 140)))⟩,
  ⟨(some 142), none, (.op (.load (.t 141)))⟩,
  ⟨(some 143), none, (.op (.bin .neq (.t 138) (.t 142)))⟩]
def run__r28 : List Ins := [⟨(some 144), none, (.op (.faddr (.t 10) 3))⟩,
  ⟨(some 145), none, (.op (.load (.t 144)))⟩,
  ⟨(some 146), none, (.op (.mov (.t 14)))⟩,
  ⟨(some 147), none, (.op (.mov (.t 17)))⟩,
  ⟨(some 148), none, (.op (.mov (.t 18)))⟩,
  ⟨(some 149), none, (.op (.build [(.int .i64 0), (.int .i64 0), (.str [])] [(0, 1, (.t 146)), (1, 1, (.t 147)), (2, 1, (.t 148))]))⟩,
  ⟨(some 150), none, (.op (.bslice 3 1 [(.int .i64 0), (.int .i64 0), (.str [])] [(0, 3, (.t 149))]))⟩,
  ⟨(some 151), none, (.op (.app 3 (.t 145) (.t 150)))⟩,
  ⟨(some 152), none, (.op (.faddr (.t 10) 3))⟩,
  ⟨none, none, (.op (.store 1 (.t 152) (.t 151)))⟩]
def run__r29 : List Ins := [⟨(some 153), none, (.op (.mov (.t 13)))⟩,
  ⟨(some 154), none, (.op (.mov (.t 17)))⟩,
  ⟨(some 155), none, (.op (.mov (.t 18)))⟩,
  ⟨(some 156), none, (.op (.iaddr 1 (.t 153) (.t 154)))⟩,
  ⟨none, none, (.op (.store 1 (.t 156) (.t 155)))⟩]
def run__r30 : List Ins := [⟨(some 157), none, (.op (.bin .add (.t 133) (.c (.int .i64 1))))⟩,
  ⟨(some 133), none, (.op (.mov (.t 157)))⟩]
def run__r31 : List Ins := [⟨(some 158), none, (.op (.mov (.t 9)))⟩,
  ⟨(some 159), none, (.op (.mov (.t 14)))⟩,
  ⟨(some 160), none, (.op (.mov (.t 2)))⟩,
  ⟨(some 161), none, (.callF 58 [(.t 158), (.t 159), (.t 160)])⟩,
  ⟨(some 162), none, (.op (.not (.t 161)))⟩]
def run__r32 : List Ins := [⟨(some 163), none, (.op (.build [.nslice, .nslice, .nslice, .nslice] []))⟩,
  ⟨none, none, (.op (.store 4 (.t 6) (.t 163)))⟩,
  ⟨(some 7), none, (.op (.mov (.c (.int .i64 141))))⟩]
def run__r33 : List Ins := [⟨(some 164), none, (.op (.mov (.t 2)))⟩,
  ⟨(some 165), none, (.op (.bin .add (.t 164) (.c (.int .i64 1))))⟩,
  ⟨(some 14), none, (.op (.mov (.t 165)))⟩]
def run__r34 : List Ins := [⟨(some 166), none, (.op (.mov (.t 9)))⟩,
  ⟨(some 167), none, (.op (.nilck (.t 166)))⟩,
  ⟨(some 168), none, (.op (.faddr (.t 167) 9))⟩,
  ⟨(some 169), none, (.op (.load (.t 168)))⟩,
  ⟨(some 170), none, (.op (.len .slc (.t 169)))⟩,
  ⟨(some 171), none, (.op (.bin .gtr (.t 170) (.c (.int .i64 0))))⟩]
def run__r35 : List Ins := [⟨(some 172), none, (.op (.mov (.t 14)))⟩,
  ⟨(some 173), none, (.op (.mov (.t 9)))⟩,
  ⟨(some 174), none, (.op (.nilck (.t 173)))⟩,
  ⟨(some 175), none, (.op (.faddr (.t 174) 9))⟩,
  ⟨(some 176), none, (.op (.load (.t 175)))⟩,
  ⟨(some 177), none, (.op (.iaddr 3 (.t 176) (.c (.int .i64 0))))⟩,
  ⟨(some 178), none, (.op (.faddr (.t 177) 0))⟩,
  ⟨(some 179), none, (.op (.load (.t 178)))⟩,
  ⟨(some 180), none, (.op (.mm false (.t 172) (.t 179)))⟩,
  ⟨(some 14), none, (.op (.mov (.t 180)))⟩]
def run__r36 : List Ins := [⟨(some 181), none, (.op (.mov (.t 1)))⟩,
  ⟨(some 182), none, (.op (.len .slc (.t 181)))⟩,
  ⟨(some 183), none, (.op (.bin .gtr (.t 182) (.c (.int .i64 0))))⟩]
def run__r37 : List Ins := [⟨(some 184), none, (.op (.mov (.t 14)))⟩,
  ⟨(some 185), none, (.op (.mov (.t 1)))⟩,
  ⟨(some 186), none, (.op (.iaddr 3 (.t 185) (.c (.int .i64 0))))⟩,
  ⟨(some 187), none, (.op (.faddr (.t 186) 0))⟩,
  ⟨(some 188), none, (.op (.load (.t 187)))⟩,
  ⟨(some 189), none, (.op (.mm false (.t 184) (.t 188)))⟩,
  ⟨(some 14), none, (.op (.mov (.t 189)))⟩]
def run__r38 : List Ins := [⟨(some 61), none, (.op (.mov (.t 15)))⟩,
  ⟨(some 62), none, (.op (.bin .add (.t 61) (.c (.int .i64 1))))⟩,
  ⟨(some 15), none, (.op (.mov (.t 62)))⟩]
def run__r39 : List Ins := [⟨(some 190), none, (.op (.loadA 4 (.t 10)))⟩,
  ⟨none, none, (.op (.store 4 (.t 6) (.t 190)))⟩,
  ⟨(some 7), none, (.op (.mov (.c (.int .i64 0))))⟩]
def run__c : IC := (.seq (.reg run__r0) (.seq (.seq (.reg run__r1) (.seq (.reg run__r2) (.cond (.t 24) (.seq (.reg run__r3) .ret) .skip))) (.seq (.reg run__r4) (.seq (.reg run__r5) (.seq (.seq (.reg run__r6) (.block 0 (.loop (.seq (.reg run__r7) (.seq (.cond (.t 36) .skip (.exit 0)) (.seq (.block 1 (.seq (.reg run__r8) (.seq (.reg run__r9) (.draw run__r10)))) (.reg run__r11))))))) (.seq (.reg run__r12) (.seq (.seq (.reg run__r13) (.block 2 (.loop (.seq (.seq (.reg run__r14) (.cond (.t 60) .skip (.exit 2))) (.seq (.block 3 (.seq (.seq (.reg run__r15) (.cond (.t 64) (.seq (.reg run__r16) .ret) .skip)) (.seq (.block 4 (.loop (.seq (.seq (.reg run__r17) (.cond (.t 82) .skip (.exit 4))) (.block 5 (.seq (.reg run__r18) (.draw run__r19)))))) (.seq (.block 6 (.loop (.seq (.seq (.reg run__r20) (.cond (.t 108) .skip (.exit 6))) (.block 7 (.seq (.draw run__r21) (.reg run__r22)))))) (.seq (.reg run__r23) (.seq (.seq (.reg run__r24) (.block 8 (.loop (.seq (.reg run__r25) (.seq (.cond (.t 134) .skip (.exit 8)) (.seq (.block 9 (.seq (.reg run__r26) (.seq (.reg run__r27) (.cond (.t 143) (.seq (.reg run__r28) (.reg run__r29)) .skip)))) (.reg run__r30))))))) (.seq (.seq (.reg run__r31) (.cond (.t 162) (.seq (.reg run__r32) .ret) .skip)) (.seq (.reg run__r33) (.seq (.seq (.reg run__r34) (.cond (.t 171) (.reg run__r35) .skip)) (.seq (.reg run__r36) (.cond (.t 183) (.reg run__r37) .skip))))))))))) (.reg run__r38)))))) (.seq (.reg run__r39) .ret))))))))
theorem run__tab : tb 16 = some (.code 3 191 run__c [.cell 6 4 true, .tmp 7]) := by kernel_rfl
theorem run_err {t : TB} {nx bd : Nat} {vn vt cv : AV} {p b : Int} {ns : List Nd} {ts : List Int} {cs : List Chg} (hN : RowN t bd vn ns) (hT : RowI t bd vt ts) (hC : RowC t bd cv cs) (hb : bd ≤ nx) (htl : ts.length < 9223372036854775808) (hcl : cs.length < 9223372036854775808)
    (hnets : ∀ k ∈ ts, 0 ≤ k ∧ k < (ns.length : Int)) (hcv : ∀ c ∈ cs, (∀ b ∈ c.val, b < 256) ∧ c.val.length < 9223372036854775808) (hM : MayP ns ts p) (hlong : ∀ x ∈ ns, x.ins.length < 60000 ∧ (∀ c ∈ x.value, c < 256) ∧ x.value.length ≤ 9223372036854775807) (hG : LvN ns) (hno : ¬ StimP ns ts cs b) :
    WF tb 16 [.agg [vn, vt, .int .i64 p], cv, .int .i64 b] t nx (fun v t' nx' => v = .tup [.agg [.nslice, .nslice, .nslice, .nslice], .int .i64 1] ∧ nx ≤ nx' ∧ Keep t t' nx (fun _ => False)) := by
  have hcn := hN.cell
  have hct := hT.cell
  have hfew := hG.few
  refine k_fun run__tab rfl ?_
  unfold run__c
  change WC _ _ (TA.put (some _) (TA.put (some _) (TA.put (some _) TA.e 0) 1) 2) _ _ _
  refine k_seq (k_reg (r_heap (o_box (ev_t (get_other rfl (get_other rfl get_same)))) rfl (fun t1 (hh2 : hv t1 = upd (hv t) nx (some (.row [vn, vt, (.int .i64 p)] true))) => r_heap (o_alloc) rfl (fun t3 (hh4 : hv t3 = upd (hv t1) (nx + 1) (some (.row [.nslice, .nslice, .nslice, .nslice] true))) => r_op (o_mov ev_c) rfl (r_nil (k_seq (k_seq (k_reg (r_op (o_loadA (n := 3) (ev_t (z2 rfl ds)) (look_ne hh4 (by omega) (look_same hh2)) (leb rfl) rfl) rfl (m1 (z4 rfl (get_other rfl get_same)) (m1 (z1 rfl (z4 rfl get_same)) (r_call (w_callF (evs_cons (ev_t (z2 rfl ds)) (evs_cons (ev_t (z1 rfl ds)) (evs_cons (ev_t ds) evs_nil)))) rfl (WF.mono (echeck_ok (hN.keep (fun d hd hw => (show Keep t t3 nx (fun _ => False) from Keep.upd (Keep.upd (Keep.refl _ _ _) hh2 (.inl (by omega))) hh4 (.inl (by omega))) d (by omega) hw) (Nat.le_refl bd)) (hT.keep (fun d hd hw => (show Keep t t3 nx (fun _ => False) from Keep.upd (Keep.upd (Keep.refl _ _ _) hh2 (.inl (by omega))) hh4 (.inl (by omega))) d (by omega) hw) (Nat.le_refl bd)) (hC.keep (fun d hd hw => (show Keep t t3 nx (fun _ => False) from Keep.upd (Keep.upd (Keep.refl _ _ _) hh2 (.inl (by omega))) hh4 (.inl (by omega))) d (by omega) hw) (Nat.le_refl bd)) (by omega) (by omega) htl hcl hnets hcv hM hlong (fun t2 nx2 k2 h2 => lrun_ok ((hN.keep (fun d hd hw => (show Keep t t3 nx (fun _ => False) from Keep.upd (Keep.upd (Keep.refl _ _ _) hh2 (.inl (by omega))) hh4 (.inl (by omega))) d (by omega) hw) (Nat.le_refl bd)).keep (fun d hd hw => k2 d (by omega) hw) (Nat.le_refl bd)) ((hT.keep (fun d hd hw => (show Keep t t3 nx (fun _ => False) from Keep.upd (Keep.upd (Keep.refl _ _ _) hh2 (.inl (by omega))) hh4 (.inl (by omega))) d (by omega) hw) (Nat.le_refl bd)).keep (fun d hd hw => k2 d (by omega) hw) (Nat.le_refl bd)) (by omega) hG hM htl hlong)) ?_)))))))))))))
  rintro _ t5 n6 ⟨rk, rfl, hrk1, hrk2, hn_c, hk_c⟩
  have hrk0 : rk = 1 := hrk1.resolve_left (fun e => hno (hrk2.1 e))
  subst hrk0
  refine m1 ds (r_nil (k_seq (k_reg (m1 ds (r_op (ndec_t (o_neq (ev_t ds) ev_c) (by simp)) rfl (r_nil (k_cond_t (ev_t ds) (k_seq (k_reg (r_op (o_build fill_nil) rfl (m1 (z1 rfl (z2 rfl ds)) (r_heap (o_store (n := 4) (ev_t (z2 rfl (z8 rfl ds))) (ev_t (z1 rfl ds)) (Keep.look hk_c (by omega) id (look_same hh4)) rfl rfl (leb rfl)) rfl (fun t7 (hh8 : hv t7 = upd (hv t5) (nx + 1) (some (.row [.nslice, .nslice, .nslice, .nslice] true))) => m1 (z1 rfl ds) (r_nil (k_ret ?_)))))))))))))))
  exact ⟨_, ans_two (res_cell (z4 rfl (z8 rfl ds)) (look_same hh8) (leb rfl) rfl (res_tmp ds res_nil)), rfl, by omega, Keep.upd (Keep.trans (Keep.upd (Keep.upd (Keep.refl _ _ _) hh2 (.inl (by omega))) hh4 (.inl (by omega))) hk_c (by omega) (fun d _ h => h)) hh8 (.inl (by omega))⟩
end Go.Proofs.YtpjohgnhmjceiaaGreatDoor.WX

set_option linter.all false
set_option linter.unusedVariables false
set_option linter.unusedSectionVars false
set_option maxRecDepth 100000
open Go Go.Proofs.YtpjohgnhmjceiaaGreatDoor.AX Go.Proofs
namespace Go.Proofs.YtpjohgnhmjceiaaGreatDoor.WX
variable [Env]
def law_r0 : List Ins := [⟨(some 6), none, (.op (.mov (.c (.bool false))))⟩]
def law_r1 : List Ins := [⟨(some 11), none, (.op (.mov (.t 0)))⟩,
  ⟨(some 12), none, (.callF 13 [(.t 11)])⟩,
  ⟨(some 7), none, (.op (.alloc [.nslice, .nslice, (.int .i64 0)]))⟩,
  ⟨none, none, (.op (.store 3 (.t 7) (.t 12)))⟩]
def law_r2 : List Ins := [⟨(some 13), none, (.op (.loadA 3 (.t 7)))⟩,
  ⟨(some 14), none, (.op (.mov (.t 1)))⟩,
  ⟨(some 15), none, (.op (.mov (.t 2)))⟩,
  ⟨(some 16), none, (.callF 14 [(.t 13), (.t 14), (.t 15)])⟩,
  ⟨(some 8), none, (.op (.mov (.t 16)))⟩]
def law_r3 : List Ins := [⟨(some 17), none, (.op (.loadA 3 (.t 7)))⟩,
  ⟨(some 18), none, (.op (.mov (.t 1)))⟩,
  ⟨(some 19), none, (.op (.mov (.t 2)))⟩,
  ⟨(some 20), none, (.callF 15 [(.t 17), (.t 18), (.t 19)])⟩,
  ⟨(some 21), none, (.op (.not (.t 20)))⟩]
def law_r4 : List Ins := [⟨(some 23), none, (.op (.loadA 3 (.t 7)))⟩,
  ⟨(some 24), none, (.op (.mov (.t 1)))⟩,
  ⟨(some 25), none, (.op (.mov (.t 2)))⟩,
  ⟨(some 26), none, (.callF 16 [(.t 23), (.t 24), (.t 25)])⟩,
  ⟨(some 22), none, (.op (.mov (.t 26)))⟩,
  ⟨(some 27), none, (.op (.extr (.t 22) 0))⟩,
  ⟨(some 28), none, (.op (.extr (.t 22) 1))⟩,
  ⟨(some 9), none, (.op (.alloc [.nslice, .nslice, .nslice, .nslice]))⟩,
  ⟨none, none, (.op (.store 4 (.t 9) (.t 27)))⟩,
  ⟨(some 10), none, (.op (.mov (.t 28)))⟩]
def law_r5 : List Ins := [⟨(some 29), none, (.op (.mov (.t 8)))⟩,
  ⟨(some 30), none, (.op (.bin .eql (.t 29) (.c (.int .i64 1))))⟩,
  ⟨(some 31), none, (.op (.mov (.t 30)))⟩,
  ⟨(some 32), (some (31, true)), (.op (.mov (.t 10)))⟩,
  ⟨(some 33), (some (31, true)), (.op (.bin .eql (.t 32) (.c (.int .i64 1))))⟩,
  ⟨(some 34), none, (.op (.pick (.t 31) (.t 33) (.c (.bool false))))⟩,
  ⟨(some 35), none, (.op (.mov (.t 34)))⟩,
  ⟨(some 36), (some (35, true)), (.op (.faddr (.t 9) 0))⟩,
  ⟨(some 37), (some (35, true)), (.op (.load (.t 36)))⟩,
  ⟨(some 38), (some (35, true)), (.op (.len .slc (.t 37)))⟩,
  ⟨(some 39), (some (35, true)), (.op (.faddr (.t 9) 3))⟩,
  ⟨(some 40), (some (35, true)), (.op (.load (.t 39)))⟩,
  ⟨(some 41), (some (35, true)), (.op (.len .slc (.t 40)))⟩,
  ⟨(some 42), (some (35, true)), (.op (.bin .add (.t 38) (.t 41)))⟩,
  ⟨(some 43), (some (35, true)), (.op (.bin .eql (.t 42) (.c (.int .i64 0))))⟩,
  ⟨(some 44), none, (.op (.pick (.t 35) (.t 43) (.c (.bool false))))⟩,
  ⟨(some 45), none, (.op (.mov (.t 44)))⟩,
  ⟨(some 46), (some (45, true)), (.callF 17 [])⟩,
  ⟨(some 47), none, (.op (.pick (.t 45) (.t 46) (.c (.bool false))))⟩,
  ⟨(some 6), none, (.op (.mov (.t 47)))⟩]
def law_r6 : List Ins := [⟨(some 48), none, (.op (.mov (.t 8)))⟩,
  ⟨(some 49), none, (.op (.bin .eql (.t 48) (.c (.int .i64 0))))⟩,
  ⟨(some 50), none, (.op (.mov (.t 49)))⟩,
  ⟨(some 51), (some (50, true)), (.callF 17 [])⟩,
  ⟨(some 52), none, (.op (.pick (.t 50) (.t 51) (.c (.bool false))))⟩,
  ⟨(some 6), none, (.op (.mov (.t 52)))⟩]
def law_c : IC := (.seq (.reg law_r0) (.seq (.reg law_r1) (.seq (.reg law_r2) (.seq (.seq (.reg law_r3) (.cond (.t 21) (.seq (.reg law_r4) (.seq (.reg law_r5) .ret)) .skip)) (.seq (.reg law_r6) .ret)))))
theorem law_tab : tb 3 = some (.code 3 53 law_c [.tmp 6]) := by kernel_rfl
theorem three_cell {a b : AV} {n : Int} (ha : isCell a = true) (hb : isCell b = true) : allCell [a, b, .int .i64 n] = true := by
  rw [allCell_iff]
  intro z hz
  simp only [List.mem_cons, List.not_mem_nil, or_false] at hz
  rcases hz with rfl | rfl | rfl
  · exact ha
  · exact hb
  · rfl
theorem law_ok {t : TB} {nx bd ng : Nat} {gv cv : AV} {b : Int} {cs : List Chg} (hgv : Rows5 t bd gv ng 5) (hC : RowC t bd cv cs) (hb : bd ≤ nx) (hng : ng < 9223372036854775808) (hcl : cs.length < 9223372036854775808) (hcv : ∀ c ∈ cs, (∀ b ∈ c.val, b < 256) ∧ c.val.length < 9223372036854775808) :
    WF tb 3 [gv, cv, .int .i64 b] t nx (fun v t' nx' => v = .bool true ∧ nx ≤ nx' ∧ Keep t t' nx (fun _ => False)) := by
  refine k_fun law_tab rfl ?_
  unfold law_c
  change WC _ _ (TA.put (some _) (TA.put (some _) (TA.put (some _) TA.e 0) 1) 2) _ _ _
  refine k_seq (k_reg (r_op (o_mov ev_c) rfl (r_nil (k_seq (k_reg (m1 (z1 rfl (get_other rfl (get_other rfl get_same))) (r_call (w_callF (evs_cons (ev_t ds) evs_nil)) rfl (WF.mono (made_ok hgv hb hng) ?_))))))))
  rintro _ t1 n2 ⟨vn, vt, ns, ts, rfl, hn_m, hk_m, hNG, h2, h4000, hF2, hNM, hRN, hRT⟩
  have hM := MayP.of hNG h4000 hF2 hNM h2
  have hcn := hRN.cell
  have hct := hRT.cell
  have hG : LvN ns := LvN.of hNG (by omega) (fun i x hx k hk => ((hNG i x hx).ins k (hangs_sub hk)).1)
  have hlong : ∀ x ∈ ns, x.ins.length < 60000 ∧ (∀ c ∈ x.value, c < 256) ∧ x.value.length ≤ 9223372036854775807 := fun x hx => by obtain ⟨j, hj, rfl⟩ := List.mem_iff_getElem.1 hx; have g := hNG j _ (List.getElem?_eq_getElem hj); have g2 := g.ok.len g.wide; exact ⟨by omega, g2.2.1, by omega⟩
  have htl : ts.length < 9223372036854775808 := by obtain ⟨us, hu1, hu2, -⟩ := hNM; rw [hu1]; simp; omega
  have hCm := hC.keep (fun d hd hw => hk_m d (by omega) hw) (show bd ≤ n2 by omega)
  refine r_heap (o_alloc) rfl (fun t3 (hh4 : hv t3 = upd (hv t1) n2 (some (.row [.nslice, .nslice, (.int .i64 0)] true))) => r_heap (o_store (n := 3) (ev_t ds) (ev_t (z1 rfl ds)) (look_same hh4) rfl (three_cell hcn hct) (leb rfl)) rfl (fun t5 (hh6 : hv t5 = upd (hv t3) n2 (some (.row [vn, vt, (.int .i64 ((ts.length : Nat) : Int))] true))) => r_nil (k_seq (k_reg (r_op (o_loadA (n := 3) (ev_t (z1 rfl ds)) (look_same hh6) (leb rfl) rfl) rfl (m1 (z2 rfl (z4 rfl (get_other rfl get_same))) (m1 (z1 rfl (z2 rfl (z4 rfl get_same))) (r_call (w_callF (evs_cons (ev_t (z2 rfl ds)) (evs_cons (ev_t (z1 rfl ds)) (evs_cons (ev_t ds) evs_nil)))) rfl (WF.mono (echeck_ok (hRN.keep (show Keep t1 t5 n2 (fun _ => False) from Keep.upd (Keep.upd (Keep.refl t1 n2 _) hh4 (.inl (by omega))) hh6 (.inl (by omega))) (Nat.le_refl _)) (hRT.keep (show Keep t1 t5 n2 (fun _ => False) from Keep.upd (Keep.upd (Keep.refl t1 n2 _) hh4 (.inl (by omega))) hh6 (.inl (by omega))) (Nat.le_refl _)) (hCm.keep (show Keep t1 t5 n2 (fun _ => False) from Keep.upd (Keep.upd (Keep.refl t1 n2 _) hh4 (.inl (by omega))) hh6 (.inl (by omega))) (Nat.le_refl _)) (by omega) (by omega) htl hcl hM.nets hcv hM hlong (fun t2 nx2 k2 h2_ => lrun_ok ((hRN.keep (show Keep t1 t5 n2 (fun _ => False) from Keep.upd (Keep.upd (Keep.refl t1 n2 _) hh4 (.inl (by omega))) hh6 (.inl (by omega))) (Nat.le_refl _)).keep (fun d hd hw => k2 d (by omega) hw) (Nat.le_refl _)) ((hRT.keep (show Keep t1 t5 n2 (fun _ => False) from Keep.upd (Keep.upd (Keep.refl t1 n2 _) hh4 (.inl (by omega))) hh6 (.inl (by omega))) (Nat.le_refl _)).keep (fun d hd hw => k2 d (by omega) hw) (Nat.le_refl _)) (by omega) hG hM htl hlong)) ?_)))))))))
  rintro _ t7 n8 ⟨rk, rfl, hrk1, hrk2, hn_c, hk_c⟩
  refine m1 ds (r_nil (k_seq (k_seq (k_reg (r_op (o_loadA (n := 3) (ev_t (z2 rfl (z4 rfl ds))) (Keep.look hk_c (by omega) id (look_same hh6)) (leb rfl) rfl) rfl (m1 (z1 rfl (z2 rfl (z8 rfl (get_other rfl get_same)))) (m1 (z4 rfl (z8 rfl get_same)) (r_call (w_callF (evs_cons (ev_t (z2 rfl ds)) (evs_cons (ev_t (z1 rfl ds)) (evs_cons (ev_t ds) evs_nil)))) rfl (WF.mono (WF.decb (stim_ok (hRN.keep (show Keep t1 t7 n2 (fun _ => False) from Keep.trans (Keep.upd (Keep.upd (Keep.refl t1 n2 _) hh4 (.inl (by omega))) hh6 (.inl (by omega))) hk_c (by omega) (fun d _ h => h)) (Nat.le_refl _)) (hRT.keep (show Keep t1 t7 n2 (fun _ => False) from Keep.trans (Keep.upd (Keep.upd (Keep.refl t1 n2 _) hh4 (.inl (by omega))) hh6 (.inl (by omega))) hk_c (by omega) (fun d _ h => h)) (Nat.le_refl _)) (hCm.keep (show Keep t1 t7 n2 (fun _ => False) from Keep.trans (Keep.upd (Keep.upd (Keep.refl t1 n2 _) hh4 (.inl (by omega))) hh6 (.inl (by omega))) hk_c (by omega) (fun d _ h => h)) (Nat.le_refl _)) (by omega) (by omega) htl hcl hM.nets hcv)) ?_)))))))))
  rintro _ t9 n10 ⟨b_, rfl, hb_, hn_s, hk_s⟩
  refine r_op (o_not (ev_t ds)) rfl (r_nil ?_)
  refine k_cond (ev_t ds) (fun hc11 => ?_) (fun hc11 => ?_)
  · replace hc11 := nd_t hc11
    refine k_seq (k_reg (r_op (o_loadA (n := 3) (ev_t (z1 rfl (z2 rfl (z8 rfl ds)))) (Keep.look hk_s (by omega) id (Keep.look hk_c (by omega) id (look_same hh6))) (leb rfl) rfl) rfl (m1 (z8 rfl (z8 rfl (get_other rfl get_same))) (m1 (z1 rfl (z8 rfl (z8 rfl get_same))) ?_))))
    have hno : ¬ StimP ns ts cs b := fun h => absurd (hb_.2 h) (by assumption)
    have hrk : rk = 1 := hrk1.resolve_left (fun e => hno (hrk2.1 e))
    refine r_call (w_callF (evs_cons (ev_t (z2 rfl ds)) (evs_cons (ev_t (z1 rfl ds)) (evs_cons (ev_t ds) evs_nil)))) rfl (WF.mono (run_err (hRN.keep (show Keep t1 t9 n2 (fun _ => False) from Keep.trans (Keep.trans (Keep.upd (Keep.upd (Keep.refl t1 n2 _) hh4 (.inl (by omega))) hh6 (.inl (by omega))) hk_c (by omega) (fun d _ h => h)) hk_s (by omega) (fun d _ h => h)) (Nat.le_refl _)) (hRT.keep (show Keep t1 t9 n2 (fun _ => False) from Keep.trans (Keep.trans (Keep.upd (Keep.upd (Keep.refl t1 n2 _) hh4 (.inl (by omega))) hh6 (.inl (by omega))) hk_c (by omega) (fun d _ h => h)) hk_s (by omega) (fun d _ h => h)) (Nat.le_refl _)) (hCm.keep (show Keep t1 t9 n2 (fun _ => False) from Keep.trans (Keep.trans (Keep.upd (Keep.upd (Keep.refl t1 n2 _) hh4 (.inl (by omega))) hh6 (.inl (by omega))) hk_c (by omega) (fun d _ h => h)) hk_s (by omega) (fun d _ h => h)) (Nat.le_refl _)) (by omega) htl hcl hM.nets hcv hM hlong hG hno) ?_)
    rintro _ t12 n13 ⟨rfl, hn_r, hk_r⟩
    refine m1 ds (r_op (o_extr (ev_t ds) rfl) rfl (r_op (o_extr (ev_t (z1 rfl ds)) rfl) rfl (r_heap (o_alloc) rfl (fun t14 (hh15 : hv t14 = upd (hv t12) n13 (some (.row [.nslice, .nslice, .nslice, .nslice] true))) => r_heap (o_store (n := 4) (ev_t ds) (ev_t (z2 rfl ds)) (look_same hh15) rfl rfl (leb rfl)) rfl (fun t16 (hh17 : hv t16 = upd (hv t14) n13 (some (.row [.nslice, .nslice, .nslice, .nslice] true))) => m1 (z2 rfl ds) (r_nil (k_seq (k_reg (m1 (z1 rfl (z2 rfl (z4 rfl (z8 rfl ds)))) ?_)))))))))
    by_cases hs18 : (rk = 1)
    · refine r_op (dec_t (o_eql (ev_t ds) ev_c) hs18) rfl (m1 ds (r_op (o_mov (ev_t (z1 rfl (z2 rfl ds)))) (want_on ds) (r_op (dec_t (o_eql (ev_t ds) ev_c) (by simp)) (want_on (z1 rfl ds)) (r_op (o_pick_t (ev_t (z2 rfl ds)) (ev_t ds)) rfl (m1 ds (r_op (o_faddr (off := 0) (ev_t (z1 rfl (z8 rfl ds)))) (want_on ds) (r_op (o_load (ev_t ds) (look_same hh17) rfl) (want_on (z1 rfl ds)) (r_op (o_len_nslice (ev_t ds)) (want_on (z2 rfl ds)) (r_op (o_faddr (off := 3) (ev_t (z4 rfl (z8 rfl ds)))) (want_on (z1 rfl (z2 rfl ds))) (r_op (o_load (ev_t ds) (look_same hh17) rfl) (want_on (z4 rfl ds)) (r_op (o_len_nslice (ev_t ds)) (want_on (z1 rfl (z4 rfl ds))) (r_op (o_add (ev_t (z1 rfl (z2 rfl ds))) (ev_t ds) (by omega) (by omega)) (want_on (z2 rfl (z4 rfl ds))) ?_))))))))))))
      by_cases hs19 : ((((0 : Nat) : Int) + ((0 : Nat) : Int)) = 0)
      · refine r_op (dec_t (o_eql (ev_t ds) ev_c) hs19) (want_on (z1 rfl (z2 rfl (z4 rfl ds)))) (r_op (o_pick_t (ev_t (z8 rfl ds)) (ev_t ds)) rfl (m1 ds (r_call (w_callF evs_nil) (want_on ds) (WF.mono ((k_prim (Q := fun v t' nx' => v = .bool true ∧ (n13 + 1) ≤ nx' ∧ Keep t16 t' (n13 + 1) (fun _ => False)) awake0_tab rfl ⟨rfl, Nat.le_refl _, Keep.refl _ _ _⟩)) ?_))))
        rintro _ t20 n21 ⟨rfl, hn_a, hk_a⟩
        refine r_op (o_pick_t (ev_t (z1 rfl ds)) (ev_t ds)) rfl (m1 ds (r_nil (k_ret ?_)))
        exact ⟨_, ans_tmp ds, rfl, by omega, Keep.trans (Keep.upd (Keep.upd (Keep.trans (Keep.trans (Keep.trans (Keep.upd (Keep.upd (Keep.trans (Keep.refl _ _ _) hk_m (by omega) (fun d _ h => h)) hh4 (.inl (by omega))) hh6 (.inl (by omega))) hk_c (by omega) (fun d _ h => h)) hk_s (by omega) (fun d _ h => h)) hk_r (by omega) (fun d _ h => h)) hh15 (.inl (by omega))) hh17 (.inl (by omega))) hk_a (by omega) (fun d _ h => h)⟩
      refine r_op (dec_f (o_eql (ev_t ds) ev_c) hs19) (want_on (z1 rfl (z2 rfl (z4 rfl ds)))) (r_op (o_pick_t (ev_t (z8 rfl ds)) (ev_t ds)) rfl (m1 ds (r_off (want_not ds rfl) (r_op (o_pick_f (ev_t (z1 rfl ds)) ev_c) rfl (m1 ds (r_nil (k_ret ?_)))))))
      exfalso; first | omega | (have hok_ := hrk2.2 (hb_.1 (Classical.not_not.1 (by assumption))); omega) | (have hok_ := hrk2.2 (hb_.1 (by assumption)); omega)
    refine r_op (dec_f (o_eql (ev_t ds) ev_c) hs18) rfl (m1 ds (r_off (want_not ds rfl) (r_off (want_not (z1 rfl ds) rfl) (r_op (o_pick_f (ev_t (z2 rfl ds)) ev_c) rfl (m1 ds (r_off (want_not ds rfl) (r_off (want_not (z1 rfl ds) rfl) (r_off (want_not (z2 rfl ds) rfl) (r_off (want_not (z1 rfl (z2 rfl ds)) rfl) (r_off (want_not (z4 rfl ds) rfl) (r_off (want_not (z1 rfl (z4 rfl ds)) rfl) (r_off (want_not (z2 rfl (z4 rfl ds)) rfl) (r_off (want_not (z1 rfl (z2 rfl (z4 rfl ds))) rfl) (r_op (o_pick_f (ev_t (z8 rfl ds)) ev_c) rfl (m1 ds (r_off (want_not ds rfl) (r_op (o_pick_f (ev_t (z1 rfl ds)) ev_c) rfl (m1 ds (r_nil (k_ret ?_))))))))))))))))))))
    exfalso; first | omega | (have hok_ := hrk2.2 (hb_.1 (Classical.not_not.1 (by assumption))); omega) | (have hok_ := hrk2.2 (hb_.1 (by assumption)); omega)
  replace hc11 := nd_f hc11
  refine k_skip (k_seq (k_reg (m1 (z1 rfl (z4 rfl ds)) ?_)))
  by_cases hs22 : (rk = 0)
  · refine r_op (dec_t (o_eql (ev_t ds) ev_c) hs22) rfl (m1 ds (r_call (w_callF evs_nil) (want_on ds) (WF.mono ((k_prim (Q := fun v t' nx' => v = .bool true ∧ n10 ≤ nx' ∧ Keep t9 t' n10 (fun _ => False)) awake0_tab rfl ⟨rfl, Nat.le_refl _, Keep.refl _ _ _⟩)) ?_)))
    rintro _ t23 n24 ⟨rfl, hn_a, hk_a⟩
    refine r_op (o_pick_t (ev_t (z1 rfl ds)) (ev_t ds)) rfl (m1 ds (r_nil (k_ret ?_)))
    exact ⟨_, ans_tmp ds, rfl, by omega, Keep.trans (Keep.trans (Keep.trans (Keep.upd (Keep.upd (Keep.trans (Keep.refl _ _ _) hk_m (by omega) (fun d _ h => h)) hh4 (.inl (by omega))) hh6 (.inl (by omega))) hk_c (by omega) (fun d _ h => h)) hk_s (by omega) (fun d _ h => h)) hk_a (by omega) (fun d _ h => h)⟩
  refine r_op (dec_f (o_eql (ev_t ds) ev_c) hs22) rfl (m1 ds (r_off (want_not ds rfl) (r_op (o_pick_f (ev_t (z1 rfl ds)) ev_c) rfl (m1 ds (r_nil (k_ret ?_))))))
  exfalso; first | omega | (have hok_ := hrk2.2 (hb_.1 (Classical.not_not.1 (by assumption))); omega) | (have hok_ := hrk2.2 (hb_.1 (by assumption)); omega)
end Go.Proofs.YtpjohgnhmjceiaaGreatDoor.WX

