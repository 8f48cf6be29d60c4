/- Generated: the abstract texts of functions, fourth part. Conditions: none. -/
import Derived.Test.YtpkhdnaeaeiidaaDoorKc
set_option linter.unusedSimpArgs false
set_option linter.unusedVariables false

/- Generated: the abstract texts of functions 5. -/
namespace Go.Absw
/- diorama/dioramalaw29.VmKept : params [22, 22, 22, 3] results [4] tmps 172 resvars [('tmp', 8)] -/
def f5r0 : List POp := [
  ⟨some 8, none, [], 0, .r .mv, [.c (.bool false)]⟩]
def f5r1 : List POp := [
  ⟨some 25, none, [], 0, .r .mv, [.s 0]⟩,
  ⟨some 26, none, [], 0, .call .f [] [], [.fn 9, .z 25 [some 1]]⟩,
  ⟨some 9, none, [109], 109, .a (.alloc 27 [.int .i64 0, .nils, .nils, .nils]), []⟩,
  ⟨none, none, [109], 0, .st 4, [.s 9, .z 26 [none, some 4, some 3, some 5]]⟩]
def f5r2 : List POp := [
  ⟨some 27, none, [109], 0, .r (.ldn 4), [.s 9]⟩,
  ⟨some 28, none, [], 0, .r .mv, [.s 2]⟩,
  ⟨some 29, none, [], 0, .call .f [] [], [.fn 10, .z 27 [none, some 4, some 3, some 5], .z 28 [some 1], .c (.bool false)]⟩,
  ⟨some 10, none, [], 0, .r .mv, [.s 29]⟩]
def f5r3 : List POp := [
  ⟨some 30, none, [109], 0, .r (.ldn 4), [.s 9]⟩,
  ⟨some 31, none, [], 0, .r .mv, [.s 1]⟩,
  ⟨some 32, none, [], 0, .call .f [] [], [.fn 11, .z 30 [none, some 4, some 3, some 5], .z 31 [some 1]]⟩,
  ⟨some 11, none, [], 0, .r .mv, [.s 32]⟩]
def f5r4 : List POp := [
  ⟨some 12, none, [], 0, .r .mv, [.c (.nils)]⟩]
def f5r5 : List POp := [
  ⟨some 13, none, [], 0, .r .mv, [.c (.int .i64 0)]⟩]
def f5r6 : List POp := [
  ⟨some 33, none, [], 0, .r .mv, [.s 13]⟩,
  ⟨some 34, none, [], 0, .r .mv, [.s 10]⟩,
  ⟨some 35, none, [], 0, .r .len, [.s 34]⟩,
  ⟨some 36, none, [], 0, .r (.bin .lss), [.s 33, .s 35]⟩]
def f5r8 : List POp := [
  ⟨some 14, none, [], 0, .r .mv, [.c (.bool false)]⟩]
def f5r9 : List POp := [
  ⟨some 39, none, [109], 0, .r (.fad 1), [.s 9]⟩,
  ⟨some 40, none, [109], 0, .r .ld1, [.s 39]⟩,
  ⟨some 41, none, [], 0, .r .mv, [.s 13]⟩,
  ⟨some 42, none, [], 0, .r (.ixs 4), [.s 40, .s 41]⟩,
  ⟨some 43, none, [], 0, .r (.fad 3), [.s 42]⟩,
  ⟨some 44, none, [], 0, .r .ld1, [.s 43]⟩,
  ⟨some 45, none, [], 0, .r .len, [.s 44]⟩,
  ⟨some 46, none, [146], 146, .a (.mks 4 1 1 [.bool false]), [.s 45, .s 45]⟩,
  ⟨some 15, none, [], 0, .r .mv, [.s 46]⟩]
def f5r10 : List POp := [
  ⟨some 16, none, [], 0, .r .mv, [.c (.int .i64 0)]⟩]
def f5r11 : List POp := [
  ⟨some 47, none, [], 0, .r .mv, [.s 16]⟩,
  ⟨some 48, none, [], 0, .r .mv, [.s 11]⟩,
  ⟨some 49, none, [], 0, .r .len, [.s 48]⟩,
  ⟨some 50, none, [], 0, .r (.bin .lss), [.s 47, .s 49]⟩]
def f5r13 : List POp := [
  ⟨some 53, none, [], 0, .r .mv, [.s 11]⟩,
  ⟨some 54, none, [], 0, .r .mv, [.s 16]⟩,
  ⟨some 55, none, [], 0, .r (.ixs 4), [.s 53, .s 54]⟩,
  ⟨some 56, none, [], 0, .r (.fad 0), [.s 55]⟩,
  ⟨some 57, none, [], 0, .r .ld1, [.s 56]⟩,
  ⟨some 58, none, [], 0, .r (.bin .eql), [.s 57, .c (.int .i64 4)]⟩,
  ⟨some 59, none, [], 0, .r .mv, [.s 58]⟩,
  ⟨some 60, (some (59, false)), [], 0, .r .mv, [.s 11]⟩,
  ⟨some 61, (some (59, false)), [], 0, .r .mv, [.s 16]⟩,
  ⟨some 62, (some (59, false)), [], 0, .r (.ixs 4), [.s 60, .s 61]⟩,
  ⟨some 63, (some (59, false)), [], 0, .r (.fad 0), [.s 62]⟩,
  ⟨some 64, (some (59, false)), [], 0, .r .ld1, [.s 63]⟩,
  ⟨some 65, (some (59, false)), [], 0, .r (.bin .eql), [.s 64, .c (.int .i64 5)]⟩,
  ⟨some 66, none, [], 0, .r .pick, [.s 59, .c (.bool true), .s 65]⟩,
  ⟨some 67, none, [], 0, .r .mv, [.s 66]⟩,
  ⟨some 68, (some (67, true)), [], 0, .r .mv, [.s 11]⟩,
  ⟨some 69, (some (67, true)), [], 0, .r .mv, [.s 16]⟩,
  ⟨some 70, (some (67, true)), [], 0, .r (.ixs 4), [.s 68, .s 69]⟩,
  ⟨some 71, (some (67, true)), [], 0, .r (.fad 2), [.s 70]⟩,
  ⟨some 72, (some (67, true)), [], 0, .r .ld1, [.s 71]⟩,
  ⟨some 73, (some (67, true)), [], 0, .r .mv, [.s 13]⟩,
  ⟨some 74, (some (67, true)), [], 0, .r (.bin .eql), [.s 72, .s 73]⟩,
  ⟨some 75, none, [], 0, .r .pick, [.s 67, .s 74, .c (.bool false)]⟩]
def f5r14 : List POp := [
  ⟨some 14, none, [], 0, .r .mv, [.c (.bool true)]⟩]
def f5r15 : List POp := [
  ⟨some 76, none, [], 0, .r .mv, [.s 11]⟩,
  ⟨some 77, none, [], 0, .r .mv, [.s 16]⟩,
  ⟨some 78, none, [], 0, .r (.ixs 4), [.s 76, .s 77]⟩,
  ⟨some 79, none, [], 0, .r (.fad 0), [.s 78]⟩,
  ⟨some 80, none, [], 0, .r .ld1, [.s 79]⟩,
  ⟨some 81, none, [], 0, .r (.bin .eql), [.s 80, .c (.int .i64 5)]⟩]
def f5r16 : List POp := [
  ⟨some 82, none, [], 0, .r .mv, [.s 15]⟩,
  ⟨some 83, none, [], 0, .r .mv, [.s 11]⟩,
  ⟨some 84, none, [], 0, .r .mv, [.s 16]⟩,
  ⟨some 85, none, [], 0, .r (.ixs 4), [.s 83, .s 84]⟩,
  ⟨some 86, none, [], 0, .r (.fad 3), [.s 85]⟩,
  ⟨some 87, none, [], 0, .r .ld1, [.s 86]⟩,
  ⟨some 88, none, [146], 0, .r (.ixs 1), [.s 82, .s 87]⟩,
  ⟨none, none, [146], 0, .st 1, [.s 88, .c (.bool true)]⟩]
def f5r12 : List POp := [
  ⟨some 51, none, [], 0, .r .mv, [.s 16]⟩,
  ⟨some 52, none, [], 0, .r (.bin .add), [.s 51, .c (.int .i64 1)]⟩,
  ⟨some 16, none, [], 0, .r .mv, [.s 52]⟩]
def f5l1 : PCode := .gh (.keep [3, 9, 10, 11, 12, 13, 14, 15, 16] [109, 112, 146]) (.seq (.seq (.region f5r11 []) (.cond (.s 50) (.skip) (.exit 2))) (.seq (.block 3 (.seq (.region f5r13 []) (.cond (.s 75) (.seq (.region f5r14 []) (.seq (.region f5r15 []) (.cond (.s 81) (.region f5r16 []) (.skip)))) (.skip)))) (.region f5r12 [])))
/- f5l1: slots [3, 9, 10, 11, 12, 13, 14, 15, 16], tokens [109, 112, 146] -/
def f5r17 : List POp := [
  ⟨some 17, none, [], 0, .r .mv, [.c (.nils)]⟩]
def f5r18 : List POp := [
  ⟨some 18, none, [], 0, .r .mv, [.c (.int .i64 0)]⟩]
def f5r19 : List POp := [
  ⟨some 89, none, [], 0, .r .mv, [.s 18]⟩,
  ⟨some 90, none, [], 0, .r .mv, [.s 10]⟩,
  ⟨some 91, none, [], 0, .r .mv, [.s 13]⟩,
  ⟨some 92, none, [], 0, .r (.ixs 1), [.s 90, .s 91]⟩,
  ⟨some 93, none, [], 0, .r .ld1, [.s 92]⟩,
  ⟨some 94, none, [], 0, .r .len, [.s 93]⟩,
  ⟨some 95, none, [], 0, .r (.bin .lss), [.s 89, .s 94]⟩,
  ⟨some 96, none, [], 0, .r .mv, [.s 95]⟩,
  ⟨some 97, (some (96, true)), [], 0, .r .mv, [.s 14]⟩,
  ⟨some 98, none, [], 0, .r .pick, [.s 96, .s 97, .c (.bool false)]⟩]
def f5r21 : List POp := [
  ⟨some 101, none, [201], 201, .a (.bsl 3 1 0 [.int .i64 0] []), []⟩,
  ⟨some 102, none, [], 0, .r .mv, [.s 10]⟩,
  ⟨some 103, none, [], 0, .r .mv, [.s 13]⟩,
  ⟨some 104, none, [], 0, .r (.ixs 1), [.s 102, .s 103]⟩,
  ⟨some 105, none, [], 0, .r .ld1, [.s 104]⟩,
  ⟨some 106, none, [], 0, .r .mv, [.s 18]⟩,
  ⟨some 107, none, [], 0, .r (.ixs 1), [.s 105, .s 106]⟩,
  ⟨some 108, none, [], 0, .r .ld1, [.s 107]⟩,
  ⟨some 109, none, [201, 209], 209, .app 3 1 8, [.s 101, .s 108]⟩,
  ⟨some 19, none, [], 0, .r .mv, [.s 109]⟩]
def f5r22 : List POp := [
  ⟨some 20, none, [], 0, .r .mv, [.c (.int .i64 0)]⟩]
def f5r23 : List POp := [
  ⟨some 110, none, [], 0, .r .mv, [.s 20]⟩,
  ⟨some 111, none, [], 0, .r .mv, [.s 19]⟩,
  ⟨some 112, none, [201], 0, .r .len, [.s 111]⟩,
  ⟨some 113, none, [], 0, .r (.bin .lss), [.s 110, .s 112]⟩]
def f5r25 : List POp := [
  ⟨some 116, none, [], 0, .r .mv, [.s 15]⟩,
  ⟨some 117, none, [], 0, .r .mv, [.s 20]⟩,
  ⟨some 118, none, [146], 0, .r (.ixs 1), [.s 116, .s 117]⟩,
  ⟨some 119, none, [146], 0, .r .ld1, [.s 118]⟩,
  ⟨some 120, none, [], 0, .r (.un .not), [.s 119]⟩]
def f5r26 : List POp := [
  ⟨some 121, none, [], 0, .r .mv, [.s 19]⟩,
  ⟨some 122, none, [], 0, .r .mv, [.s 20]⟩,
  ⟨some 123, none, [], 0, .r .mv, [.s 3]⟩,
  ⟨some 124, none, [201], 0, .r (.ixs 1), [.s 121, .s 122]⟩,
  ⟨none, none, [201], 0, .st 1, [.s 124, .s 123]⟩]
def f5r24 : List POp := [
  ⟨some 114, none, [], 0, .r .mv, [.s 20]⟩,
  ⟨some 115, none, [], 0, .r (.bin .add), [.s 114, .c (.int .i64 1)]⟩,
  ⟨some 20, none, [], 0, .r .mv, [.s 115]⟩]
def f5l3 : PCode := .gh (.keep [3, 9, 10, 11, 12, 13, 14, 15, 17, 18, 19, 20] [109, 112, 117, 146, 201]) (.seq (.seq (.region f5r23 []) (.cond (.s 113) (.skip) (.exit 6))) (.seq (.block 7 (.seq (.region f5r25 []) (.cond (.s 120) (.region f5r26 []) (.skip)))) (.region f5r24 [])))
/- f5l3: slots [3, 9, 10, 11, 12, 13, 14, 15, 17, 18, 19, 20], tokens [109, 112, 117, 146, 201] -/
def f5r27 : List POp := [
  ⟨some 125, none, [], 0, .r .mv, [.s 17]⟩,
  ⟨some 126, none, [], 0, .r .mv, [.s 19]⟩,
  ⟨some 127, none, [201, 227], 227, .a (.bsl 22 1 1 [.nils] [(0, 1)]), [.z 126 [some 1]]⟩,
  ⟨some 128, none, [117, 227, 228], 228, .app 22 1 24, [.s 125, .s 127]⟩,
  ⟨some 17, none, [], 0, .r .mv, [.s 128]⟩]
def f5r20 : List POp := [
  ⟨some 99, none, [], 0, .r .mv, [.s 18]⟩,
  ⟨some 100, none, [], 0, .r (.bin .add), [.s 99, .c (.int .i64 1)]⟩,
  ⟨some 18, none, [], 0, .r .mv, [.s 100]⟩]
def f5l2 : PCode := .gh (.keep [3, 9, 10, 11, 12, 13, 14, 15, 17, 18] [109, 112, 117, 146]) (.seq (.seq (.region f5r19 []) (.cond (.s 98) (.skip) (.exit 4))) (.seq (.block 5 (.seq (.region f5r21 []) (.seq (.seq (.region f5r22 []) (.block 6 (.loop f5l3))) (.gh (.fz 201) (.region f5r27 []))))) (.region f5r20 [])))
/- f5l2: slots [3, 9, 10, 11, 12, 13, 14, 15, 17, 18], tokens [109, 112, 117, 146] -/
def f5r28 : List POp := [
  ⟨some 129, none, [], 0, .r .mv, [.s 12]⟩,
  ⟨some 130, none, [], 0, .r .mv, [.s 17]⟩,
  ⟨some 131, none, [117, 231], 231, .a (.bsl 59 1 1 [.nils] [(0, 1)]), [.z 130 [some 1]]⟩,
  ⟨some 132, none, [112, 231, 232], 232, .app 59 1 24, [.s 129, .s 131]⟩,
  ⟨some 12, none, [], 0, .r .mv, [.s 132]⟩]
def f5r7 : List POp := [
  ⟨some 37, none, [], 0, .r .mv, [.s 13]⟩,
  ⟨some 38, none, [], 0, .r (.bin .add), [.s 37, .c (.int .i64 1)]⟩,
  ⟨some 13, none, [], 0, .r .mv, [.s 38]⟩]
def f5l0 : PCode := .gh (.keep [3, 9, 10, 11, 12, 13] [109, 112]) (.seq (.seq (.region f5r6 []) (.cond (.s 36) (.skip) (.exit 0))) (.seq (.block 1 (.seq (.region f5r8 []) (.seq (.region f5r9 []) (.seq (.seq (.region f5r10 []) (.block 2 (.loop f5l1))) (.seq (.region f5r17 []) (.gh (.own 17 117 22 1) (.seq (.seq (.region f5r18 []) (.block 4 (.loop f5l2))) (.gh (.fz 117) (.region f5r28 []))))))))) (.region f5r7 [])))
/- f5l0: slots [3, 9, 10, 11, 12, 13], tokens [109, 112] -/
def f5r29 : List POp := [
  ⟨some 134, none, [109], 0, .r (.ldn 4), [.s 9]⟩,
  ⟨some 135, none, [], 0, .r .mv, [.s 11]⟩,
  ⟨some 136, none, [], 0, .call .f [] [], [.fn 15, .z 135 [some 4]]⟩,
  ⟨some 137, none, [], 0, .r .mv, [.s 10]⟩,
  ⟨some 138, none, [], 0, .r (.build [.nils] [(0, 1)]), [.s 137]⟩,
  ⟨some 139, none, [], 0, .r (.mki 46), [.z 138 [some 1]]⟩,
  ⟨some 140, none, [], 0, .call .f [] [], [.fn 14, .z 134 [none, some 4, some 3, some 5], .z 136 [some 4], .s 139, .c (.int .i64 400)]⟩,
  ⟨some 133, none, [], 0, .r .mv, [.s 140]⟩,
  ⟨some 141, none, [], 0, .r (.ext 0), [.s 133]⟩,
  ⟨some 142, none, [], 0, .r (.ext 1), [.s 133]⟩,
  ⟨some 21, none, [121], 121, .a (.alloc 38 [.int .i64 0, .int .i64 0]), []⟩,
  ⟨none, none, [121], 0, .st 2, [.s 21, .s 141]⟩,
  ⟨some 22, none, [], 0, .r .mv, [.s 142]⟩]
def f5r30 : List POp := [
  ⟨some 144, none, [109], 0, .r (.ldn 4), [.s 9]⟩,
  ⟨some 145, none, [], 0, .r .mv, [.s 11]⟩,
  ⟨some 146, none, [], 0, .call .f [] [], [.fn 15, .z 145 [some 4]]⟩,
  ⟨some 147, none, [], 0, .r .mv, [.s 12]⟩,
  ⟨some 148, none, [], 0, .r (.build [.nils] [(0, 1)]), [.s 147]⟩,
  ⟨some 149, none, [112], 0, .r (.mki 46), [.z 148 [some 1]]⟩,
  ⟨some 150, none, [112], 0, .call .f [] [], [.fn 14, .z 144 [none, some 4, some 3, some 5], .z 146 [some 4], .s 149, .c (.int .i64 400)]⟩,
  ⟨some 143, none, [], 0, .r .mv, [.s 150]⟩,
  ⟨some 151, none, [], 0, .r (.ext 0), [.s 143]⟩,
  ⟨some 152, none, [], 0, .r (.ext 1), [.s 143]⟩,
  ⟨some 23, none, [123], 123, .a (.alloc 38 [.int .i64 0, .int .i64 0]), []⟩,
  ⟨none, none, [123], 0, .st 2, [.s 23, .s 151]⟩,
  ⟨some 24, none, [], 0, .r .mv, [.s 152]⟩]
def f5r31 : List POp := [
  ⟨some 153, none, [121], 0, .r (.ldn 2), [.s 21]⟩,
  ⟨some 154, none, [123], 0, .r (.ldn 2), [.s 23]⟩,
  ⟨some 155, none, [], 0, .r (.eqs false [0, 0]), [.s 153, .s 154]⟩,
  ⟨some 156, none, [], 0, .r .mv, [.s 155]⟩,
  ⟨some 157, (some (156, true)), [], 0, .r .mv, [.s 22]⟩,
  ⟨some 158, (some (156, true)), [], 0, .r .mv, [.s 24]⟩,
  ⟨some 159, (some (156, true)), [], 0, .r (.bin .eql), [.s 157, .s 158]⟩,
  ⟨some 160, none, [], 0, .r .pick, [.s 156, .s 159, .c (.bool false)]⟩,
  ⟨some 161, none, [], 0, .r .mv, [.s 160]⟩,
  ⟨some 162, (some (161, true)), [], 0, .r .mv, [.s 22]⟩,
  ⟨some 163, (some (161, true)), [], 0, .r (.bin .eql), [.s 162, .c (.int .i64 0)]⟩,
  ⟨some 164, (some (161, true)), [], 0, .r .mv, [.s 163]⟩,
  ⟨some 165, (some (164, false)), [], 0, .r .mv, [.s 22]⟩,
  ⟨some 166, (some (164, false)), [], 0, .r (.bin .eql), [.s 165, .c (.int .i64 23)]⟩,
  ⟨some 167, (some (161, true)), [], 0, .r .pick, [.s 164, .c (.bool true), .s 166]⟩,
  ⟨some 168, none, [], 0, .r .pick, [.s 161, .s 167, .c (.bool false)]⟩,
  ⟨some 169, none, [], 0, .r .mv, [.s 168]⟩,
  ⟨some 170, (some (169, true)), [], 0, .call .f [] [], [.fn 17]⟩,
  ⟨some 171, none, [], 0, .r .pick, [.s 169, .s 170, .c (.bool false)]⟩,
  ⟨some 8, none, [], 0, .r .mv, [.s 171]⟩]
def f5pc : PCode := .seq (.region f5r0 []) (.seq (.region f5r1 []) (.seq (.region f5r2 []) (.seq (.region f5r3 []) (.seq (.region f5r4 []) (.gh (.own 12 112 59 1) (.seq (.seq (.region f5r5 []) (.block 0 (.loop f5l0))) (.seq (.region f5r29 [[], [], [1], [], [3], [3, 4], [0, 1, 2, 3, 4, 5], [0, 1, 2, 3, 4, 5, 6], [0, 1, 2, 3, 4, 5, 6, 7], [0, 1, 2, 3, 4, 5, 6, 7], [], [0, 1, 2, 3, 4, 5, 6, 7, 8, 10], [0, 1, 2, 3, 4, 5, 6, 7, 8, 9, 10, 11]]) (.seq (.gh (.fz 112) (.region f5r30 [[], [], [1], [], [3], [3, 4], [0, 1, 2, 3, 4, 5], [0, 1, 2, 3, 4, 5, 6], [0, 1, 2, 3, 4, 5, 6, 7], [0, 1, 2, 3, 4, 5, 6, 7], [], [0, 1, 2, 3, 4, 5, 6, 7, 8, 10], [0, 1, 2, 3, 4, 5, 6, 7, 8, 9, 10, 11]])) (.seq (.region f5r31 []) (.ret))))))))))
def f5rs : List RArg := [.s 8 [] []]
end Go.Absw
