/- Generated: the abstract texts of functions, second part. Conditions: none. -/
import Derived.Test.YtpkhdnaeaeiidaaDoorKc
set_option linter.unusedSimpArgs false
set_option linter.unusedVariables false

/- Generated: the abstract texts of functions 10. -/
namespace Go.Absw
/- diorama/dioramaref19.World : params [27, 22, 4] results [30] tmps 145 resvars [('tmp', 6)] -/
def f10r0 : List POp := [
  ⟨some 3, none, [103], 103, .a (.box 27 4), [.s 0]⟩,
  ⟨some 6, none, [], 0, .r .mv, [.c (.nils)]⟩]
def f10r1 : List POp := [
  ⟨some 7, none, [], 0, .r .mv, [.c (.nils)]⟩]
def f10r2 : List POp := [
  ⟨some 8, none, [], 0, .r .mv, [.c (.int .i64 0)]⟩]
def f10r3 : List POp := [
  ⟨some 18, none, [], 0, .r .mv, [.s 8]⟩,
  ⟨some 19, none, [103], 0, .r (.fad 1), [.s 3]⟩,
  ⟨some 20, none, [103], 0, .r .ld1, [.s 19]⟩,
  ⟨some 21, none, [], 0, .r .len, [.s 20]⟩,
  ⟨some 22, none, [], 0, .r (.bin .lss), [.s 18, .s 21]⟩]
def f10r5 : List POp := [
  ⟨some 25, none, [], 0, .r .mv, [.s 7]⟩,
  ⟨some 26, none, [], 0, .r .mv, [.s 1]⟩,
  ⟨some 27, none, [], 0, .r .mv, [.s 8]⟩,
  ⟨some 28, none, [], 0, .call .f [] [], [.fn 35, .z 26 [some 1], .s 27, .c (.int .i64 5)]⟩,
  ⟨some 29, none, [129], 129, .a (.bsl 3 1 1 [.int .i64 0] [(0, 1)]), [.s 28]⟩,
  ⟨some 30, none, [107, 129, 130], 130, .app 3 1 8, [.s 25, .s 29]⟩,
  ⟨some 7, none, [], 0, .r .mv, [.s 30]⟩]
def f10r6 : List POp := [
  ⟨some 31, none, [], 0, .r .mv, [.s 8]⟩,
  ⟨some 32, none, [], 0, .r (.bin .gtr), [.s 31, .c (.int .i64 0)]⟩,
  ⟨some 33, none, [], 0, .r .mv, [.s 32]⟩,
  ⟨some 34, (some (33, true)), [], 0, .r .mv, [.s 7]⟩,
  ⟨some 35, (some (33, true)), [], 0, .r .mv, [.s 8]⟩,
  ⟨some 36, (some (33, true)), [], 0, .r (.bin .sub), [.s 35, .c (.int .i64 1)]⟩,
  ⟨some 37, (some (33, true)), [107], 0, .r (.ixs 1), [.s 34, .s 36]⟩,
  ⟨some 38, (some (33, true)), [107], 0, .r .ld1, [.s 37]⟩,
  ⟨some 39, (some (33, true)), [], 0, .r (.bin .eql), [.s 38, .c (.int .i64 0)]⟩,
  ⟨some 40, none, [], 0, .r .pick, [.s 33, .s 39, .c (.bool false)]⟩]
def f10r7 : List POp := [
  ⟨some 41, none, [], 0, .r .mv, [.s 7]⟩,
  ⟨some 42, none, [], 0, .r .mv, [.s 8]⟩,
  ⟨some 43, none, [107], 0, .r (.ixs 1), [.s 41, .s 42]⟩,
  ⟨none, none, [107], 0, .st 1, [.s 43, .c (.int .i64 0)]⟩]
def f10r4 : List POp := [
  ⟨some 23, none, [], 0, .r .mv, [.s 8]⟩,
  ⟨some 24, none, [], 0, .r (.bin .add), [.s 23, .c (.int .i64 1)]⟩,
  ⟨some 8, none, [], 0, .r .mv, [.s 24]⟩]
def f10l0 : PCode := .gh (.keep [1, 2, 3, 7, 8] [103, 107]) (.seq (.seq (.region f10r3 []) (.cond (.s 22) (.skip) (.exit 0))) (.seq (.block 1 (.seq (.region f10r5 []) (.seq (.region f10r6 []) (.cond (.s 40) (.region f10r7 []) (.skip))))) (.region f10r4 [])))
/- f10l0: slots [1, 2, 3, 7, 8], tokens [103, 107] -/
def f10r8 : List POp := [
  ⟨some 9, none, [], 0, .r .mv, [.c (.nils)]⟩]
def f10r9 : List POp := [
  ⟨some 10, none, [], 0, .r .mv, [.c (.int .i64 6)]⟩]
def f10r10 : List POp := [
  ⟨some 11, none, [], 0, .r .mv, [.c (.int .i64 0)]⟩]
def f10r11 : List POp := [
  ⟨some 44, none, [], 0, .r .mv, [.s 11]⟩,
  ⟨some 45, none, [103], 0, .r (.fad 1), [.s 3]⟩,
  ⟨some 46, none, [103], 0, .r .ld1, [.s 45]⟩,
  ⟨some 47, none, [], 0, .r .len, [.s 46]⟩,
  ⟨some 48, none, [], 0, .r (.bin .lss), [.s 44, .s 47]⟩]
def f10r13 : List POp := [
  ⟨some 12, none, [], 0, .r .mv, [.c (.nils)]⟩]
def f10r14 : List POp := [
  ⟨some 13, none, [], 0, .r .mv, [.c (.int .i64 0)]⟩]
def f10r15 : List POp := [
  ⟨some 51, none, [], 0, .r .mv, [.s 13]⟩,
  ⟨some 52, none, [], 0, .r .mv, [.s 7]⟩,
  ⟨some 53, none, [], 0, .r .mv, [.s 11]⟩,
  ⟨some 54, none, [107], 0, .r (.ixs 1), [.s 52, .s 53]⟩,
  ⟨some 55, none, [107], 0, .r .ld1, [.s 54]⟩,
  ⟨some 56, none, [], 0, .r (.bin .lss), [.s 51, .s 55]⟩]
def f10r17 : List POp := [
  ⟨some 14, none, [], 0, .r .mv, [.c (.nils)]⟩]
def f10r18 : List POp := [
  ⟨some 15, none, [], 0, .r .mv, [.c (.int .i64 0)]⟩]
def f10r19 : List POp := [
  ⟨some 59, none, [], 0, .r .mv, [.s 15]⟩,
  ⟨some 60, none, [103], 0, .r (.fad 1), [.s 3]⟩,
  ⟨some 61, none, [103], 0, .r .ld1, [.s 60]⟩,
  ⟨some 62, none, [], 0, .r .mv, [.s 11]⟩,
  ⟨some 63, none, [], 0, .r (.ixs 4), [.s 61, .s 62]⟩,
  ⟨some 64, none, [], 0, .r (.fad 3), [.s 63]⟩,
  ⟨some 65, none, [], 0, .r .ld1, [.s 64]⟩,
  ⟨some 66, none, [], 0, .r .len, [.s 65]⟩,
  ⟨some 67, none, [], 0, .r (.bin .lss), [.s 59, .s 66]⟩]
def f10r21 : List POp := [
  ⟨some 70, none, [], 0, .r .mv, [.s 1]⟩,
  ⟨some 71, none, [], 0, .r .mv, [.s 10]⟩,
  ⟨some 72, none, [], 0, .r .mv, [.s 1]⟩,
  ⟨some 73, none, [], 0, .r .len, [.s 72]⟩,
  ⟨some 74, none, [], 0, .r .max, [.s 73, .c (.int .i64 1)]⟩,
  ⟨some 75, none, [], 0, .r (.bin .rem), [.s 71, .s 74]⟩,
  ⟨some 76, none, [], 0, .call .f [] [], [.fn 35, .z 70 [some 1], .s 75, .c (.int .i64 12)]⟩,
  ⟨some 77, none, [], 0, .r (.bin .sub), [.s 76, .c (.int .i64 2)]⟩,
  ⟨some 16, none, [], 0, .r .mv, [.s 77]⟩]
def f10r22 : List POp := [
  ⟨some 17, none, [], 0, .r .mv, [.c (.int .i64 (-1))]⟩]
def f10r23 : List POp := [
  ⟨some 78, none, [103], 0, .r (.fad 1), [.s 3]⟩,
  ⟨some 79, none, [103], 0, .r .ld1, [.s 78]⟩,
  ⟨some 80, none, [], 0, .r .mv, [.s 11]⟩,
  ⟨some 81, none, [], 0, .r (.ixs 4), [.s 79, .s 80]⟩,
  ⟨some 82, none, [], 0, .r (.fad 3), [.s 81]⟩,
  ⟨some 83, none, [], 0, .r .ld1, [.s 82]⟩,
  ⟨some 84, none, [], 0, .r .mv, [.s 15]⟩,
  ⟨some 85, none, [], 0, .r (.ixs 8), [.s 83, .s 84]⟩,
  ⟨some 86, none, [], 0, .r (.fad 3), [.s 85]⟩,
  ⟨some 87, none, [], 0, .r .ld1, [.s 86]⟩,
  ⟨some 88, none, [], 0, .r (.bin .eql), [.s 87, .c (.int .i64 1)]⟩]
def f10r24 : List POp := [
  ⟨some 89, none, [103], 0, .r (.ldn 4), [.s 3]⟩,
  ⟨some 90, none, [], 0, .r .mv, [.s 11]⟩,
  ⟨some 91, none, [], 0, .r .mv, [.s 15]⟩,
  ⟨some 92, none, [], 0, .call .f [] [], [.fn 36, .z 89 [none, some 4, some 3, some 5], .s 90, .s 91]⟩,
  ⟨some 17, none, [], 0, .r .mv, [.s 92]⟩]
def f10r25 : List POp := [
  ⟨some 93, none, [], 0, .r .mv, [.s 17]⟩,
  ⟨some 94, none, [], 0, .r (.bin .geq), [.s 93, .c (.int .i64 0)]⟩]
def f10r26 : List POp := [
  ⟨some 95, none, [], 0, .r .mv, [.s 1]⟩,
  ⟨some 96, none, [], 0, .r .mv, [.s 10]⟩,
  ⟨some 97, none, [], 0, .r .mv, [.s 1]⟩,
  ⟨some 98, none, [], 0, .r .len, [.s 97]⟩,
  ⟨some 99, none, [], 0, .r .max, [.s 98, .c (.int .i64 1)]⟩,
  ⟨some 100, none, [], 0, .r (.bin .rem), [.s 96, .s 99]⟩,
  ⟨some 101, none, [], 0, .r .mv, [.s 7]⟩,
  ⟨some 102, none, [], 0, .r .mv, [.s 17]⟩,
  ⟨some 103, none, [107], 0, .r (.ixs 1), [.s 101, .s 102]⟩,
  ⟨some 104, none, [107], 0, .r .ld1, [.s 103]⟩,
  ⟨some 105, none, [], 0, .r .max, [.s 104, .c (.int .i64 1)]⟩,
  ⟨some 106, none, [], 0, .call .f [] [], [.fn 35, .z 95 [some 1], .s 100, .s 105]⟩,
  ⟨some 16, none, [], 0, .r .mv, [.s 106]⟩]
def f10r27 : List POp := [
  ⟨some 107, none, [], 0, .r .mv, [.s 2]⟩,
  ⟨some 108, none, [], 0, .r .mv, [.s 107]⟩,
  ⟨some 109, (some (108, true)), [], 0, .r .mv, [.s 1]⟩,
  ⟨some 110, (some (108, true)), [], 0, .r .mv, [.s 10]⟩,
  ⟨some 111, (some (108, true)), [], 0, .r .mv, [.s 1]⟩,
  ⟨some 112, (some (108, true)), [], 0, .r .len, [.s 111]⟩,
  ⟨some 113, (some (108, true)), [], 0, .r .max, [.s 112, .c (.int .i64 1)]⟩,
  ⟨some 114, (some (108, true)), [], 0, .r (.bin .rem), [.s 110, .s 113]⟩,
  ⟨some 115, (some (108, true)), [], 0, .call .f [] [], [.fn 35, .z 109 [some 1], .s 114, .c (.int .i64 31)]⟩,
  ⟨some 116, (some (108, true)), [], 0, .r (.bin .eql), [.s 115, .c (.int .i64 0)]⟩,
  ⟨some 117, none, [], 0, .r .pick, [.s 108, .s 116, .c (.bool false)]⟩]
def f10r28 : List POp := [
  ⟨some 118, none, [], 0, .r .mv, [.s 7]⟩,
  ⟨some 119, none, [], 0, .r .mv, [.s 17]⟩,
  ⟨some 120, none, [107], 0, .r (.ixs 1), [.s 118, .s 119]⟩,
  ⟨some 121, none, [107], 0, .r .ld1, [.s 120]⟩,
  ⟨some 122, none, [], 0, .r .mv, [.s 11]⟩,
  ⟨some 123, none, [], 0, .r (.bin .rem), [.s 122, .c (.int .i64 2)]⟩,
  ⟨some 124, none, [], 0, .r (.bin .mul), [.s 123, .c (.int .i64 9)]⟩,
  ⟨some 125, none, [], 0, .r (.bin .add), [.s 121, .s 124]⟩,
  ⟨some 126, none, [], 0, .r .mv, [.s 15]⟩,
  ⟨some 127, none, [], 0, .r (.bin .rem), [.s 126, .c (.int .i64 2)]⟩,
  ⟨some 128, none, [], 0, .r (.bin .mul), [.c (.int .i64 9), .s 127]⟩,
  ⟨some 129, none, [], 0, .r (.bin .sub), [.s 125, .s 128]⟩,
  ⟨some 16, none, [], 0, .r .mv, [.s 129]⟩]
def f10r29 : List POp := [
  ⟨some 130, none, [], 0, .r .mv, [.s 14]⟩,
  ⟨some 131, none, [], 0, .r .mv, [.s 16]⟩,
  ⟨some 132, none, [232], 232, .a (.bsl 3 1 1 [.int .i64 0] [(0, 1)]), [.s 131]⟩,
  ⟨some 133, none, [114, 232, 233], 233, .app 3 1 8, [.s 130, .s 132]⟩,
  ⟨some 14, none, [], 0, .r .mv, [.s 133]⟩]
def f10r30 : List POp := [
  ⟨some 134, none, [], 0, .r .mv, [.s 10]⟩,
  ⟨some 135, none, [], 0, .r (.bin .add), [.s 134, .c (.int .i64 1)]⟩,
  ⟨some 10, none, [], 0, .r .mv, [.s 135]⟩]
def f10r20 : List POp := [
  ⟨some 68, none, [], 0, .r .mv, [.s 15]⟩,
  ⟨some 69, none, [], 0, .r (.bin .add), [.s 68, .c (.int .i64 1)]⟩,
  ⟨some 15, none, [], 0, .r .mv, [.s 69]⟩]
def f10l3 : PCode := .gh (.keep [1, 2, 3, 7, 9, 10, 11, 12, 13, 14, 15] [103, 107, 109, 112, 114]) (.seq (.seq (.region f10r19 []) (.cond (.s 67) (.skip) (.exit 6))) (.seq (.block 7 (.seq (.region f10r21 []) (.seq (.region f10r22 []) (.seq (.seq (.region f10r23 []) (.cond (.s 88) (.region f10r24 []) (.skip))) (.gh (.keep [1, 2, 3, 7, 9, 10, 11, 12, 13, 14, 15, 16, 17] [103, 107, 109, 112, 114]) (.seq (.seq (.region f10r25 []) (.cond (.s 94) (.seq (.region f10r26 [[], [], [], [2], [2, 3], [1, 2, 3, 4], [], [], [6, 7], [6, 7, 8], [6, 7, 8, 9], [0, 1, 2, 3, 4, 5, 6, 7, 8, 9, 10], [0, 1, 2, 3, 4, 5, 6, 7, 8, 9, 10, 11]]) (.seq (.region f10r27 []) (.cond (.s 117) (.region f10r28 []) (.skip)))) (.skip))) (.gh (.keep [1, 2, 3, 7, 9, 10, 11, 12, 13, 14, 15, 16] [103, 107, 109, 112, 114]) (.seq (.region f10r29 []) (.region f10r30 []))))))))) (.region f10r20 [])))
/- f10l3: slots [1, 2, 3, 7, 9, 10, 11, 12, 13, 14, 15], tokens [103, 107, 109, 112, 114] -/
def f10r31 : List POp := [
  ⟨some 136, none, [], 0, .r .mv, [.s 12]⟩,
  ⟨some 137, none, [], 0, .r .mv, [.s 14]⟩,
  ⟨some 138, none, [114, 238], 238, .a (.bsl 22 1 1 [.nils] [(0, 1)]), [.z 137 [some 1]]⟩,
  ⟨some 139, none, [112, 238, 239], 239, .app 22 1 24, [.s 136, .s 138]⟩,
  ⟨some 12, none, [], 0, .r .mv, [.s 139]⟩]
def f10r16 : List POp := [
  ⟨some 57, none, [], 0, .r .mv, [.s 13]⟩,
  ⟨some 58, none, [], 0, .r (.bin .add), [.s 57, .c (.int .i64 1)]⟩,
  ⟨some 13, none, [], 0, .r .mv, [.s 58]⟩]
def f10l2 : PCode := .gh (.keep [1, 2, 3, 7, 9, 10, 11, 12, 13] [103, 107, 109, 112]) (.seq (.seq (.region f10r15 []) (.cond (.s 56) (.skip) (.exit 4))) (.seq (.block 5 (.seq (.region f10r17 []) (.gh (.own 14 114 3 1) (.seq (.seq (.region f10r18 []) (.block 6 (.loop f10l3))) (.gh (.fz 114) (.region f10r31 [])))))) (.region f10r16 [])))
/- f10l2: slots [1, 2, 3, 7, 9, 10, 11, 12, 13], tokens [103, 107, 109, 112] -/
def f10r32 : List POp := [
  ⟨some 140, none, [], 0, .r .mv, [.s 9]⟩,
  ⟨some 141, none, [], 0, .r .mv, [.s 12]⟩,
  ⟨some 142, none, [112, 242], 242, .a (.bsl 59 1 1 [.nils] [(0, 1)]), [.z 141 [some 1]]⟩,
  ⟨some 143, none, [109, 242, 243], 243, .app 59 1 24, [.s 140, .s 142]⟩,
  ⟨some 9, none, [], 0, .r .mv, [.s 143]⟩]
def f10r12 : List POp := [
  ⟨some 49, none, [], 0, .r .mv, [.s 11]⟩,
  ⟨some 50, none, [], 0, .r (.bin .add), [.s 49, .c (.int .i64 1)]⟩,
  ⟨some 11, none, [], 0, .r .mv, [.s 50]⟩]
def f10l1 : PCode := .gh (.keep [1, 2, 3, 7, 9, 10, 11] [103, 107, 109]) (.seq (.seq (.region f10r11 []) (.cond (.s 48) (.skip) (.exit 2))) (.seq (.block 3 (.seq (.region f10r13 []) (.gh (.own 12 112 22 1) (.seq (.seq (.region f10r14 []) (.block 4 (.loop f10l2))) (.gh (.fz 112) (.region f10r32 [])))))) (.region f10r12 [])))
/- f10l1: slots [1, 2, 3, 7, 9, 10, 11], tokens [103, 107, 109] -/
def f10r33 : List POp := [
  ⟨some 144, none, [], 0, .r .mv, [.s 9]⟩,
  ⟨some 6, none, [], 0, .r .mv, [.s 144]⟩]
def f10pc : PCode := .seq (.region f10r0 []) (.seq (.region f10r1 []) (.gh (.own 7 107 3 1) (.seq (.seq (.region f10r2 []) (.block 0 (.loop f10l0))) (.seq (.region f10r8 []) (.gh (.own 9 109 59 1) (.seq (.region f10r9 []) (.seq (.seq (.region f10r10 []) (.block 2 (.loop f10l1))) (.seq (.region f10r33 []) (.gh (.fz 109) (.ret))))))))))
def f10rs : List RArg := [.s 6 [some 1] [109]]
end Go.Absw

/- Generated: the abstract texts of functions 37 11. -/
namespace Go.Absw
/- diorama/dioramaref29.loop : params [3, 3, 3, 3, 3, 3, 3] results [32] tmps 54 resvars [('tmp', 14)] -/
def f37r0 : List POp := [
  ⟨some 14, none, [], 0, .r .mv, [.c (.nils)]⟩]
def f37r1 : List POp := [
  ⟨some 17, none, [], 0, .r .mv, [.s 0]⟩,
  ⟨some 18, none, [], 0, .r (.build [.int .i64 0, .int .i64 0, .int .i64 0, .int .i64 0] [(0, 1), (1, 1), (2, 1)]), [.c (.int .i64 4), .c (.int .i64 1), .s 17]⟩,
  ⟨some 19, none, [], 0, .r (.build [.int .i64 0, .int .i64 0, .int .i64 0, .int .i64 0] [(0, 1), (1, 1), (2, 1)]), [.c (.int .i64 1), .c (.int .i64 2), .c (.int .i64 1)]⟩,
  ⟨some 20, none, [], 0, .r .mv, [.s 5]⟩,
  ⟨some 21, none, [], 0, .r (.build [.int .i64 0, .int .i64 0, .int .i64 0, .int .i64 0] [(0, 1), (1, 1), (2, 1)]), [.c (.int .i64 1), .c (.int .i64 5), .s 20]⟩,
  ⟨some 22, none, [], 0, .r (.build [.int .i64 0, .int .i64 0, .int .i64 0, .int .i64 0] [(0, 1), (1, 1), (2, 1), (3, 1)]), [.c (.int .i64 8), .c (.int .i64 0), .c (.int .i64 1), .c (.int .i64 10)]⟩,
  ⟨some 23, none, [], 0, .r (.build [.int .i64 0, .int .i64 0, .int .i64 0, .int .i64 0] [(0, 1), (1, 1), (2, 1), (3, 1)]), [.c (.int .i64 2), .c (.int .i64 4), .c (.int .i64 0), .c (.int .i64 7)]⟩,
  ⟨some 24, none, [], 0, .r .mv, [.s 0]⟩,
  ⟨some 25, none, [], 0, .r .mv, [.s 1]⟩,
  ⟨some 26, none, [], 0, .r (.build [.int .i64 0, .int .i64 0, .int .i64 0, .int .i64 0] [(0, 1), (1, 1), (2, 1), (3, 1)]), [.c (.int .i64 5), .c (.int .i64 4), .s 24, .s 25]⟩,
  ⟨some 27, none, [127], 127, .a (.bsl 58 4 6 [.int .i64 0, .int .i64 0, .int .i64 0, .int .i64 0] [(0, 4), (4, 4), (8, 4), (12, 4), (16, 4), (20, 4)]), [.s 18, .s 19, .s 21, .s 22, .s 23, .s 26]⟩,
  ⟨some 15, none, [], 0, .r .mv, [.s 27]⟩]
def f37r2 : List POp := [
  ⟨some 28, none, [], 0, .r .mv, [.s 2]⟩,
  ⟨some 29, none, [], 0, .r (.bin .geq), [.s 28, .c (.int .i64 0)]⟩]
def f37r3 : List POp := [
  ⟨some 30, none, [], 0, .r .mv, [.s 15]⟩,
  ⟨some 31, none, [], 0, .r .mv, [.s 2]⟩,
  ⟨some 32, none, [], 0, .r .mv, [.s 3]⟩,
  ⟨some 33, none, [], 0, .r (.build [.int .i64 0, .int .i64 0, .int .i64 0, .int .i64 0] [(0, 1), (1, 1), (2, 1), (3, 1)]), [.c (.int .i64 5), .c (.int .i64 4), .s 31, .s 32]⟩,
  ⟨some 34, none, [134], 134, .a (.bsl 58 4 1 [.int .i64 0, .int .i64 0, .int .i64 0, .int .i64 0] [(0, 4)]), [.s 33]⟩,
  ⟨some 35, none, [127, 134, 135], 135, .app 58 4 32, [.s 30, .s 34]⟩,
  ⟨some 15, none, [], 0, .r .mv, [.s 35]⟩]
def f37r4 : List POp := [
  ⟨some 36, none, [], 0, .r .mv, [.s 15]⟩,
  ⟨some 37, none, [127], 0, .r (.ixs 4), [.s 36, .c (.int .i64 3)]⟩,
  ⟨some 38, none, [127], 0, .r (.fad 3), [.s 37]⟩,
  ⟨none, none, [127], 0, .st 1, [.s 38, .c (.int .i64 11)]⟩]
def f37r5 : List POp := [
  ⟨some 39, none, [], 0, .r .mv, [.s 15]⟩,
  ⟨some 40, none, [127], 0, .r (.ixs 4), [.s 39, .c (.int .i64 3)]⟩,
  ⟨some 41, none, [127], 0, .r (.fad 3), [.s 40]⟩,
  ⟨some 42, none, [127], 0, .r .ld1, [.s 41]⟩,
  ⟨some 16, none, [], 0, .r .mv, [.s 42]⟩]
def f37r6 : List POp := [
  ⟨some 43, none, [], 0, .r .mv, [.s 15]⟩,
  ⟨some 44, none, [], 0, .r (.build [.int .i64 0, .int .i64 0, .int .i64 0, .int .i64 0] [(0, 1), (1, 1), (2, 1), (3, 1)]), [.c (.int .i64 2), .c (.int .i64 0), .c (.int .i64 0), .c (.int .i64 2)]⟩,
  ⟨some 45, none, [], 0, .r .mv, [.s 4]⟩,
  ⟨some 46, none, [], 0, .r .mv, [.s 16]⟩,
  ⟨some 47, none, [], 0, .r (.bin .sub), [.s 46, .c (.int .i64 1)]⟩,
  ⟨some 48, none, [], 0, .r (.build [.int .i64 0, .int .i64 0, .int .i64 0, .int .i64 0] [(0, 1), (1, 1), (2, 1), (3, 1)]), [.s 45, .c (.int .i64 4), .c (.int .i64 5), .s 47]⟩,
  ⟨some 49, none, [], 0, .r (.build [.int .i64 0, .int .i64 0, .int .i64 0, .int .i64 0] [(0, 1), (1, 1)]), [.c (.int .i64 6), .c (.int .i64 3)]⟩,
  ⟨some 50, none, [], 0, .r .mv, [.s 6]⟩,
  ⟨some 51, none, [], 0, .r (.build [.int .i64 0, .int .i64 0, .int .i64 0, .int .i64 0] [(0, 1), (1, 1)]), [.c (.int .i64 0), .s 50]⟩,
  ⟨some 52, none, [152], 152, .a (.bsl 58 4 4 [.int .i64 0, .int .i64 0, .int .i64 0, .int .i64 0] [(0, 4), (4, 4), (8, 4), (12, 4)]), [.s 44, .s 48, .s 49, .s 51]⟩,
  ⟨some 53, none, [127, 152, 153], 153, .app 58 4 32, [.s 43, .s 52]⟩,
  ⟨some 14, none, [], 0, .r .mv, [.s 53]⟩]
def f37pc : PCode := .seq (.region f37r0 []) (.seq (.region f37r1 []) (.seq (.seq (.region f37r2 []) (.cond (.s 29) (.seq (.region f37r3 []) (.region f37r4 [])) (.skip))) (.gh (.keep [4, 6, 15] [127]) (.seq (.region f37r5 []) (.seq (.region f37r6 []) (.ret))))))
def f37rs : List RArg := [.s 14 [] []]
/- diorama/dioramaref29.Program : params [27, 22] results [32] tmps 241 resvars [('tmp', 4)] -/
def f11r0 : List POp := [
  ⟨some 2, none, [102], 102, .a (.box 27 4), [.s 0]⟩,
  ⟨some 4, none, [], 0, .r .mv, [.c (.nils)]⟩]
def f11r1 : List POp := [
  ⟨some 23, none, [], 0, .r .mv, [.s 1]⟩,
  ⟨some 24, none, [102], 0, .r (.fad 1), [.s 2]⟩,
  ⟨some 25, none, [102], 0, .r .ld1, [.s 24]⟩,
  ⟨some 26, none, [], 0, .r .len, [.s 25]⟩,
  ⟨some 27, none, [], 0, .call .f [] [], [.fn 35, .z 23 [some 1], .c (.int .i64 0), .s 26]⟩,
  ⟨some 5, none, [], 0, .r .mv, [.s 27]⟩]
def f11r2 : List POp := [
  ⟨some 28, none, [], 0, .r .mv, [.s 1]⟩,
  ⟨some 29, none, [102], 0, .r (.fad 1), [.s 2]⟩,
  ⟨some 30, none, [102], 0, .r .ld1, [.s 29]⟩,
  ⟨some 31, none, [], 0, .r .mv, [.s 5]⟩,
  ⟨some 32, none, [], 0, .r (.ixs 4), [.s 30, .s 31]⟩,
  ⟨some 33, none, [], 0, .r (.fad 3), [.s 32]⟩,
  ⟨some 34, none, [], 0, .r .ld1, [.s 33]⟩,
  ⟨some 35, none, [], 0, .r .len, [.s 34]⟩,
  ⟨some 36, none, [], 0, .call .f [] [], [.fn 35, .z 28 [some 1], .c (.int .i64 1), .s 35]⟩,
  ⟨some 6, none, [], 0, .r .mv, [.s 36]⟩]
def f11r3 : List POp := [
  ⟨some 37, none, [], 0, .r .mv, [.s 1]⟩,
  ⟨some 38, none, [], 0, .call .f [] [], [.fn 35, .z 37 [some 1], .c (.int .i64 2), .c (.int .i64 12)]⟩,
  ⟨some 39, none, [], 0, .r (.bin .sub), [.s 38, .c (.int .i64 2)]⟩,
  ⟨some 7, none, [], 0, .r .mv, [.s 39]⟩]
def f11r4 : List POp := [
  ⟨some 40, none, [], 0, .r .mv, [.s 1]⟩,
  ⟨some 41, none, [], 0, .call .f [] [], [.fn 35, .z 40 [some 1], .c (.int .i64 3), .c (.int .i64 3)]⟩,
  ⟨some 42, none, [], 0, .r (.bin .add), [.c (.int .i64 1), .s 41]⟩,
  ⟨some 8, none, [], 0, .r .mv, [.s 42]⟩]
def f11r5 : List POp := [
  ⟨some 43, none, [], 0, .r .mv, [.s 1]⟩,
  ⟨some 44, none, [], 0, .call .f [] [], [.fn 35, .z 43 [some 1], .c (.int .i64 4), .c (.int .i64 2)]⟩,
  ⟨some 45, none, [], 0, .r (.bin .add), [.c (.int .i64 7), .s 44]⟩,
  ⟨some 9, none, [], 0, .r .mv, [.s 45]⟩]
def f11r6 : List POp := [
  ⟨some 10, none, [], 0, .r .mv, [.c (.int .i64 (-1))]⟩]
def f11r7 : List POp := [
  ⟨some 11, none, [], 0, .r .mv, [.c (.int .i64 0)]⟩]
def f11r8 : List POp := [
  ⟨some 46, none, [], 0, .r .mv, [.s 1]⟩,
  ⟨some 47, none, [], 0, .call .f [] [], [.fn 35, .z 46 [some 1], .c (.int .i64 5), .c (.int .i64 6)]⟩]
def f11r9 : List POp := [
  ⟨some 49, none, [], 0, .r (.bin .eql), [.s 47, .c (.int .i64 0)]⟩,
  ⟨some 48, none, [], 0, .r .mv, [.s 49]⟩]
def f11r10 : List POp := [
  ⟨some 50, none, [], 0, .r .mv, [.s 5]⟩,
  ⟨some 51, none, [], 0, .r (.build [.int .i64 0, .int .i64 0, .int .i64 0, .int .i64 0] [(0, 1), (1, 1), (2, 1)]), [.c (.int .i64 4), .c (.int .i64 1), .s 50]⟩,
  ⟨some 52, none, [], 0, .r .mv, [.s 7]⟩,
  ⟨some 53, none, [], 0, .r .max, [.s 52, .c (.int .i64 1)]⟩,
  ⟨some 54, none, [], 0, .r (.bin .rem), [.s 53, .c (.int .i64 5)]⟩,
  ⟨some 55, none, [], 0, .r (.build [.int .i64 0, .int .i64 0, .int .i64 0, .int .i64 0] [(0, 1), (1, 1), (2, 1)]), [.c (.int .i64 1), .c (.int .i64 2), .s 54]⟩,
  ⟨some 56, none, [], 0, .r (.build [.int .i64 0, .int .i64 0, .int .i64 0, .int .i64 0] [(0, 1), (1, 1), (2, 1), (3, 1)]), [.c (.int .i64 7), .c (.int .i64 1), .c (.int .i64 2), .c (.int .i64 4)]⟩,
  ⟨some 57, none, [], 0, .r .mv, [.s 8]⟩,
  ⟨some 58, none, [], 0, .r (.build [.int .i64 0, .int .i64 0, .int .i64 0, .int .i64 0] [(0, 1), (1, 1)]), [.c (.int .i64 0), .s 57]⟩,
  ⟨some 59, none, [159], 159, .a (.bsl 58 4 4 [.int .i64 0, .int .i64 0, .int .i64 0, .int .i64 0] [(0, 4), (4, 4), (8, 4), (12, 4)]), [.s 51, .s 55, .s 56, .s 58]⟩,
  ⟨some 4, none, [], 0, .r .mv, [.s 59]⟩]
def f11r11 : List POp := [
  ⟨some 61, none, [], 0, .r (.bin .eql), [.s 47, .c (.int .i64 1)]⟩,
  ⟨some 60, none, [], 0, .r .mv, [.s 61]⟩]
def f11r12 : List POp := [
  ⟨some 62, none, [], 0, .r .mv, [.s 1]⟩,
  ⟨some 63, none, [102], 0, .r (.fad 1), [.s 2]⟩,
  ⟨some 64, none, [102], 0, .r .ld1, [.s 63]⟩,
  ⟨some 65, none, [], 0, .r .len, [.s 64]⟩,
  ⟨some 66, none, [], 0, .call .f [] [], [.fn 35, .z 62 [some 1], .c (.int .i64 6), .s 65]⟩,
  ⟨some 12, none, [], 0, .r .mv, [.s 66]⟩]
def f11r13 : List POp := [
  ⟨some 67, none, [], 0, .r .mv, [.s 12]⟩,
  ⟨some 68, none, [], 0, .r (.build [.int .i64 0, .int .i64 0, .int .i64 0, .int .i64 0] [(0, 1), (1, 1), (2, 1)]), [.c (.int .i64 4), .c (.int .i64 6), .s 67]⟩,
  ⟨some 69, none, [], 0, .r .mv, [.s 1]⟩,
  ⟨some 70, none, [], 0, .call .f [] [], [.fn 35, .z 69 [some 1], .c (.int .i64 7), .c (.int .i64 3)]⟩,
  ⟨some 71, none, [], 0, .r (.bin .add), [.c (.int .i64 1), .s 70]⟩,
  ⟨some 72, none, [], 0, .r (.build [.int .i64 0, .int .i64 0, .int .i64 0, .int .i64 0] [(0, 1), (1, 1), (2, 1)]), [.c (.int .i64 1), .c (.int .i64 5), .s 71]⟩,
  ⟨some 73, none, [], 0, .r (.build [.int .i64 0, .int .i64 0, .int .i64 0, .int .i64 0] [(0, 1), (1, 1), (2, 1), (3, 1)]), [.c (.int .i64 7), .c (.int .i64 6), .c (.int .i64 5), .c (.int .i64 13)]⟩,
  ⟨some 74, none, [174], 174, .a (.bsl 58 4 3 [.int .i64 0, .int .i64 0, .int .i64 0, .int .i64 0] [(0, 4), (4, 4), (8, 4)]), [.s 68, .s 72, .s 73]⟩,
  ⟨some 13, none, [], 0, .r .mv, [.s 74]⟩]
def f11r14 : List POp := [
  ⟨some 75, none, [], 0, .r .mv, [.s 5]⟩,
  ⟨some 76, none, [], 0, .r .mv, [.s 6]⟩,
  ⟨some 77, none, [], 0, .r .mv, [.s 9]⟩,
  ⟨some 78, none, [], 0, .r .mv, [.s 7]⟩,
  ⟨some 79, none, [], 0, .r .mv, [.s 8]⟩,
  ⟨some 80, none, [180], 0, .call .f [] [180], [.fn 37, .s 75, .s 76, .c (.int .i64 (-1)), .c (.int .i64 0), .s 77, .s 78, .s 79]⟩,
  ⟨some 14, none, [], 0, .r .mv, [.s 80]⟩]
def f11r15 : List POp := [
  ⟨some 15, none, [], 0, .r .mv, [.c (.int .i64 0)]⟩]
def f11r16 : List POp := [
  ⟨some 81, none, [], 0, .r .mv, [.s 15]⟩,
  ⟨some 82, none, [], 0, .r .mv, [.s 14]⟩,
  ⟨some 83, none, [180], 0, .r .len, [.s 82]⟩,
  ⟨some 84, none, [], 0, .r (.bin .lss), [.s 81, .s 83]⟩]
def f11r18 : List POp := [
  ⟨some 87, none, [], 0, .r .mv, [.s 14]⟩,
  ⟨some 88, none, [], 0, .r .mv, [.s 15]⟩,
  ⟨some 89, none, [180], 0, .r (.ixs 4), [.s 87, .s 88]⟩,
  ⟨some 90, none, [180], 0, .r (.fad 0), [.s 89]⟩,
  ⟨some 91, none, [180], 0, .r .ld1, [.s 90]⟩,
  ⟨some 92, none, [], 0, .r (.bin .eql), [.s 91, .c (.int .i64 6)]⟩]
def f11r19 : List POp := [
  ⟨some 93, none, [], 0, .r .mv, [.s 14]⟩,
  ⟨some 94, none, [], 0, .r .mv, [.s 15]⟩,
  ⟨some 95, none, [], 0, .r .mv, [.s 14]⟩,
  ⟨some 96, none, [], 0, .r .mv, [.s 15]⟩,
  ⟨some 97, none, [180], 0, .r (.ixs 4), [.s 95, .s 96]⟩,
  ⟨some 98, none, [180], 0, .r (.fad 1), [.s 97]⟩,
  ⟨some 99, none, [180], 0, .r .ld1, [.s 98]⟩,
  ⟨some 100, none, [], 0, .r (.bin .add), [.s 99, .c (.int .i64 3)]⟩,
  ⟨some 101, none, [180], 0, .r (.ixs 4), [.s 93, .s 94]⟩,
  ⟨some 102, none, [180], 0, .r (.fad 1), [.s 101]⟩,
  ⟨none, none, [180], 0, .st 1, [.s 102, .s 100]⟩]
def f11r20 : List POp := [
  ⟨some 103, none, [], 0, .r .mv, [.s 14]⟩,
  ⟨some 104, none, [], 0, .r .mv, [.s 15]⟩,
  ⟨some 105, none, [180], 0, .r (.ixs 4), [.s 103, .s 104]⟩,
  ⟨some 106, none, [180], 0, .r (.fad 0), [.s 105]⟩,
  ⟨some 107, none, [180], 0, .r .ld1, [.s 106]⟩,
  ⟨some 108, none, [], 0, .r (.bin .eql), [.s 107, .c (.int .i64 7)]⟩,
  ⟨some 109, none, [], 0, .r .mv, [.s 108]⟩,
  ⟨some 110, (some (109, false)), [], 0, .r .mv, [.s 14]⟩,
  ⟨some 111, (some (109, false)), [], 0, .r .mv, [.s 15]⟩,
  ⟨some 112, (some (109, false)), [180], 0, .r (.ixs 4), [.s 110, .s 111]⟩,
  ⟨some 113, (some (109, false)), [180], 0, .r (.fad 0), [.s 112]⟩,
  ⟨some 114, (some (109, false)), [180], 0, .r .ld1, [.s 113]⟩,
  ⟨some 115, (some (109, false)), [], 0, .r (.bin .eql), [.s 114, .c (.int .i64 8)]⟩,
  ⟨some 116, none, [], 0, .r .pick, [.s 109, .c (.bool true), .s 115]⟩]
def f11r21 : List POp := [
  ⟨some 117, none, [], 0, .r .mv, [.s 14]⟩,
  ⟨some 118, none, [], 0, .r .mv, [.s 15]⟩,
  ⟨some 119, none, [], 0, .r .mv, [.s 14]⟩,
  ⟨some 120, none, [], 0, .r .mv, [.s 15]⟩,
  ⟨some 121, none, [180], 0, .r (.ixs 4), [.s 119, .s 120]⟩,
  ⟨some 122, none, [180], 0, .r (.fad 3), [.s 121]⟩,
  ⟨some 123, none, [180], 0, .r .ld1, [.s 122]⟩,
  ⟨some 124, none, [], 0, .r (.bin .add), [.s 123, .c (.int .i64 3)]⟩,
  ⟨some 125, none, [180], 0, .r (.ixs 4), [.s 117, .s 118]⟩,
  ⟨some 126, none, [180], 0, .r (.fad 3), [.s 125]⟩,
  ⟨none, none, [180], 0, .st 1, [.s 126, .s 124]⟩]
def f11r17 : List POp := [
  ⟨some 85, none, [], 0, .r .mv, [.s 15]⟩,
  ⟨some 86, none, [], 0, .r (.bin .add), [.s 85, .c (.int .i64 1)]⟩,
  ⟨some 15, none, [], 0, .r .mv, [.s 86]⟩]
def f11l0 : PCode := .gh (.keep [13, 14, 15] [174, 180]) (.seq (.seq (.region f11r16 []) (.cond (.s 84) (.skip) (.exit 1))) (.seq (.block 2 (.seq (.seq (.region f11r18 []) (.cond (.s 92) (.region f11r19 []) (.skip))) (.seq (.region f11r20 []) (.cond (.s 116) (.region f11r21 []) (.skip))))) (.region f11r17 [])))
/- f11l0: slots [13, 14, 15], tokens [174, 180] -/
def f11r22 : List POp := [
  ⟨some 127, none, [], 0, .r .mv, [.s 13]⟩,
  ⟨some 128, none, [], 0, .r .mv, [.s 14]⟩,
  ⟨some 129, none, [174, 180, 229], 229, .app 58 4 32, [.s 127, .s 128]⟩,
  ⟨some 4, none, [], 0, .r .mv, [.s 129]⟩]
def f11r23 : List POp := [
  ⟨some 131, none, [], 0, .r (.bin .eql), [.s 47, .c (.int .i64 2)]⟩,
  ⟨some 130, none, [], 0, .r .mv, [.s 131]⟩]
def f11r24 : List POp := [
  ⟨some 16, none, [], 0, .r .mv, [.c (.nils)]⟩]
def f11r25 : List POp := [
  ⟨some 132, none, [], 0, .r .mv, [.s 1]⟩,
  ⟨some 133, none, [], 0, .call .f [] [], [.fn 35, .z 132 [some 1], .c (.int .i64 6), .c (.int .i64 9)]⟩,
  ⟨some 17, none, [], 0, .r .mv, [.s 133]⟩]
def f11r26 : List POp := [
  ⟨some 18, none, [], 0, .r .mv, [.c (.int .i64 0)]⟩]
def f11r27 : List POp := [
  ⟨some 134, none, [], 0, .r .mv, [.s 18]⟩,
  ⟨some 135, none, [], 0, .r .mv, [.s 17]⟩,
  ⟨some 136, none, [], 0, .r (.bin .lss), [.s 134, .s 135]⟩]
def f11r29 : List POp := [
  ⟨some 139, none, [], 0, .r .mv, [.s 1]⟩,
  ⟨some 140, none, [], 0, .r .mv, [.s 18]⟩,
  ⟨some 141, none, [], 0, .r (.bin .mul), [.c (.int .i64 4), .s 140]⟩,
  ⟨some 142, none, [], 0, .r (.bin .add), [.c (.int .i64 7), .s 141]⟩,
  ⟨some 143, none, [], 0, .call .f [] [], [.fn 35, .z 139 [some 1], .s 142, .c (.int .i64 9)]⟩,
  ⟨some 19, none, [], 0, .r .mv, [.s 143]⟩]
def f11r30 : List POp := [
  ⟨some 20, none, [], 0, .r .mv, [.c (.nils)]⟩]
def f11r31 : List POp := [
  ⟨some 21, none, [], 0, .r .mv, [.c (.int .i64 0)]⟩]
def f11r32 : List POp := [
  ⟨some 144, none, [], 0, .r .mv, [.s 21]⟩,
  ⟨some 145, none, [], 0, .r (.bin .lss), [.s 144, .c (.int .i64 3)]⟩]
def f11r34 : List POp := [
  ⟨some 148, none, [], 0, .r .mv, [.s 1]⟩,
  ⟨some 149, none, [], 0, .r .mv, [.s 18]⟩,
  ⟨some 150, none, [], 0, .r (.bin .mul), [.c (.int .i64 4), .s 149]⟩,
  ⟨some 151, none, [], 0, .r (.bin .add), [.c (.int .i64 8), .s 150]⟩,
  ⟨some 152, none, [], 0, .r .mv, [.s 21]⟩,
  ⟨some 153, none, [], 0, .r (.bin .add), [.s 151, .s 152]⟩,
  ⟨some 154, none, [], 0, .call .f [] [], [.fn 35, .z 148 [some 1], .s 153, .c (.int .i64 720)]⟩,
  ⟨some 22, none, [], 0, .r .mv, [.s 154]⟩]
def f11r35 : List POp := [
  ⟨some 155, none, [], 0, .call .f [] [], [.fn 38]⟩,
  ⟨some 156, none, [], 0, .r .mv, [.s 19]⟩,
  ⟨some 157, none, [], 0, .r (.ixs 1), [.s 155, .s 156]⟩,
  ⟨some 158, none, [], 0, .r .ld1, [.s 157]⟩,
  ⟨some 159, none, [], 0, .r .mv, [.s 21]⟩,
  ⟨some 160, none, [], 0, .r .ixc, [.s 158, .s 159]⟩]
def f11r37 : List POp := [
  ⟨some 162, none, [], 0, .r (.bin .eql), [.s 160, .c (.int .u8 99)]⟩,
  ⟨some 161, none, [], 0, .r .mv, [.s 162]⟩]
def f11r38 : List POp := [
  ⟨some 163, none, [], 0, .r .mv, [.s 22]⟩,
  ⟨some 164, none, [], 0, .r (.bin .rem), [.s 163, .c (.int .i64 4)]⟩,
  ⟨some 22, none, [], 0, .r .mv, [.s 164]⟩]
def f11r39 : List POp := [
  ⟨some 166, none, [], 0, .r (.bin .eql), [.s 160, .c (.int .u8 114)]⟩,
  ⟨some 165, none, [], 0, .r .mv, [.s 166]⟩]
def f11r40 : List POp := [
  ⟨some 167, none, [], 0, .r .mv, [.s 22]⟩,
  ⟨some 168, none, [], 0, .r (.bin .rem), [.s 167, .c (.int .i64 8)]⟩,
  ⟨some 22, none, [], 0, .r .mv, [.s 168]⟩]
def f11r41 : List POp := [
  ⟨some 170, none, [], 0, .r (.bin .eql), [.s 160, .c (.int .u8 110)]⟩,
  ⟨some 169, none, [], 0, .r .mv, [.s 170]⟩]
def f11r42 : List POp := [
  ⟨some 171, none, [], 0, .r .mv, [.s 22]⟩,
  ⟨some 172, none, [], 0, .r (.bin .rem), [.s 171, .c (.int .i64 9)]⟩,
  ⟨some 173, none, [], 0, .r (.bin .sub), [.s 172, .c (.int .i64 2)]⟩,
  ⟨some 22, none, [], 0, .r .mv, [.s 173]⟩]
def f11r43 : List POp := [
  ⟨some 175, none, [], 0, .r (.bin .eql), [.s 160, .c (.int .u8 107)]⟩,
  ⟨some 174, none, [], 0, .r .mv, [.s 175]⟩]
def f11r44 : List POp := [
  ⟨some 176, none, [], 0, .r .mv, [.s 5]⟩,
  ⟨some 22, none, [], 0, .r .mv, [.s 176]⟩]
def f11r45 : List POp := [
  ⟨some 178, none, [], 0, .r (.bin .eql), [.s 160, .c (.int .u8 102)]⟩,
  ⟨some 177, none, [], 0, .r .mv, [.s 178]⟩]
def f11r46 : List POp := [
  ⟨some 179, none, [], 0, .r .mv, [.s 6]⟩,
  ⟨some 22, none, [], 0, .r .mv, [.s 179]⟩]
def f11r47 : List POp := [
  ⟨some 181, none, [], 0, .r (.bin .eql), [.s 160, .c (.int .u8 105)]⟩,
  ⟨some 180, none, [], 0, .r .mv, [.s 181]⟩]
def f11r48 : List POp := [
  ⟨some 182, none, [], 0, .r .mv, [.s 22]⟩,
  ⟨some 183, none, [], 0, .r .mv, [.s 17]⟩,
  ⟨some 184, none, [], 0, .r (.bin .add), [.s 183, .c (.int .i64 1)]⟩,
  ⟨some 185, none, [], 0, .r (.bin .rem), [.s 182, .s 184]⟩,
  ⟨some 22, none, [], 0, .r .mv, [.s 185]⟩]
def f11r36 : List POp := [
  ⟨some 22, none, [], 0, .r .mv, [.c (.int .i64 0)]⟩]
def f11r49 : List POp := [
  ⟨some 186, none, [], 0, .r .mv, [.s 20]⟩,
  ⟨some 187, none, [], 0, .r .mv, [.s 22]⟩,
  ⟨some 188, none, [288], 288, .a (.bsl 3 1 1 [.int .i64 0] [(0, 1)]), [.s 187]⟩,
  ⟨some 189, none, [120, 288, 289], 289, .app 3 1 8, [.s 186, .s 188]⟩,
  ⟨some 20, none, [], 0, .r .mv, [.s 189]⟩]
def f11r33 : List POp := [
  ⟨some 146, none, [], 0, .r .mv, [.s 21]⟩,
  ⟨some 147, none, [], 0, .r (.bin .add), [.s 146, .c (.int .i64 1)]⟩,
  ⟨some 21, none, [], 0, .r .mv, [.s 147]⟩]
def f11l2 : PCode := .gh (.keep [1, 5, 6, 16, 17, 18, 19, 20, 21] [116, 120]) (.seq (.seq (.region f11r32 []) (.cond (.s 145) (.skip) (.exit 5))) (.seq (.block 6 (.seq (.region f11r34 []) (.seq (.seq (.region f11r35 []) (.block 7 (.seq (.region f11r37 []) (.cond (.s 161) (.region f11r38 []) (.seq (.region f11r39 []) (.cond (.s 165) (.region f11r40 []) (.seq (.region f11r41 []) (.cond (.s 169) (.region f11r42 []) (.seq (.region f11r43 []) (.cond (.s 174) (.region f11r44 []) (.seq (.region f11r45 []) (.cond (.s 177) (.region f11r46 []) (.seq (.region f11r47 []) (.cond (.s 180) (.region f11r48 []) (.region f11r36 []))))))))))))))) (.region f11r49 [])))) (.region f11r33 [])))
/- f11l2: slots [1, 5, 6, 16, 17, 18, 19, 20, 21], tokens [116, 120] -/
def f11r50 : List POp := [
  ⟨some 190, none, [], 0, .r .mv, [.s 16]⟩,
  ⟨some 191, none, [], 0, .r .mv, [.s 19]⟩,
  ⟨some 192, none, [], 0, .r .mv, [.s 20]⟩,
  ⟨some 193, none, [120], 0, .r (.ixs 1), [.s 192, .c (.int .i64 0)]⟩,
  ⟨some 194, none, [120], 0, .r .ld1, [.s 193]⟩,
  ⟨some 195, none, [], 0, .r .mv, [.s 20]⟩,
  ⟨some 196, none, [120], 0, .r (.ixs 1), [.s 195, .c (.int .i64 1)]⟩,
  ⟨some 197, none, [120], 0, .r .ld1, [.s 196]⟩,
  ⟨some 198, none, [], 0, .r .mv, [.s 20]⟩,
  ⟨some 199, none, [120], 0, .r (.ixs 1), [.s 198, .c (.int .i64 2)]⟩,
  ⟨some 200, none, [120], 0, .r .ld1, [.s 199]⟩,
  ⟨some 201, none, [], 0, .r (.build [.int .i64 0, .int .i64 0, .int .i64 0, .int .i64 0] [(0, 1), (1, 1), (2, 1), (3, 1)]), [.s 191, .s 194, .s 197, .s 200]⟩,
  ⟨some 202, none, [302], 302, .a (.bsl 58 4 1 [.int .i64 0, .int .i64 0, .int .i64 0, .int .i64 0] [(0, 4)]), [.s 201]⟩,
  ⟨some 203, none, [116, 302, 303], 303, .app 58 4 32, [.s 190, .s 202]⟩,
  ⟨some 16, none, [], 0, .r .mv, [.s 203]⟩]
def f11r28 : List POp := [
  ⟨some 137, none, [], 0, .r .mv, [.s 18]⟩,
  ⟨some 138, none, [], 0, .r (.bin .add), [.s 137, .c (.int .i64 1)]⟩,
  ⟨some 18, none, [], 0, .r .mv, [.s 138]⟩]
def f11l1 : PCode := .gh (.keep [1, 5, 6, 16, 17, 18] [116]) (.seq (.seq (.region f11r27 []) (.cond (.s 136) (.skip) (.exit 3))) (.seq (.block 4 (.seq (.region f11r29 []) (.seq (.region f11r30 []) (.gh (.own 20 120 3 1) (.seq (.seq (.region f11r31 []) (.block 5 (.loop f11l2))) (.region f11r50 [[], [], [], [2], [2, 3], [], [5], [5, 6], [], [8], [8, 9], [1, 2, 3, 4, 5, 6, 7, 8, 9, 10], [1, 2, 3, 4, 5, 6, 7, 8, 9, 10, 11], [0, 1, 2, 3, 4, 5, 6, 7, 8, 9, 10, 11, 12], [0, 1, 2, 3, 4, 5, 6, 7, 8, 9, 10, 11, 12, 13]])))))) (.region f11r28 [])))
/- f11l1: slots [1, 5, 6, 16, 17, 18], tokens [116] -/
def f11r51 : List POp := [
  ⟨some 204, none, [], 0, .r .mv, [.s 16]⟩,
  ⟨some 4, none, [], 0, .r .mv, [.s 204]⟩]
def f11r52 : List POp := [
  ⟨some 206, none, [], 0, .r (.bin .eql), [.s 47, .c (.int .i64 3)]⟩,
  ⟨some 205, none, [], 0, .r .mv, [.s 206]⟩]
def f11r53 : List POp := [
  ⟨some 207, none, [102], 0, .r (.fad 1), [.s 2]⟩,
  ⟨some 208, none, [102], 0, .r .ld1, [.s 207]⟩,
  ⟨some 209, none, [], 0, .r .mv, [.s 5]⟩,
  ⟨some 210, none, [], 0, .r (.ixs 4), [.s 208, .s 209]⟩,
  ⟨some 211, none, [], 0, .r (.fad 3), [.s 210]⟩,
  ⟨some 212, none, [], 0, .r .ld1, [.s 211]⟩,
  ⟨some 213, none, [], 0, .r .mv, [.s 6]⟩,
  ⟨some 214, none, [], 0, .r (.ixs 8), [.s 212, .s 213]⟩,
  ⟨some 215, none, [], 0, .r (.fad 3), [.s 214]⟩,
  ⟨some 216, none, [], 0, .r .ld1, [.s 215]⟩,
  ⟨some 217, none, [], 0, .r (.bin .eql), [.s 216, .c (.int .i64 1)]⟩]
def f11r54 : List POp := [
  ⟨some 218, none, [102], 0, .r (.ldn 4), [.s 2]⟩,
  ⟨some 219, none, [], 0, .r .mv, [.s 5]⟩,
  ⟨some 220, none, [], 0, .r .mv, [.s 6]⟩,
  ⟨some 221, none, [], 0, .call .f [] [], [.fn 36, .z 218 [none, some 4, some 3, some 5], .s 219, .s 220]⟩,
  ⟨some 10, none, [], 0, .r .mv, [.s 221]⟩]
def f11r55 : List POp := [
  ⟨some 222, none, [], 0, .r .mv, [.s 10]⟩,
  ⟨some 223, none, [], 0, .r (.bin .geq), [.s 222, .c (.int .i64 0)]⟩]
def f11r56 : List POp := [
  ⟨some 224, none, [], 0, .r .mv, [.s 1]⟩,
  ⟨some 225, none, [102], 0, .r (.fad 1), [.s 2]⟩,
  ⟨some 226, none, [102], 0, .r .ld1, [.s 225]⟩,
  ⟨some 227, none, [], 0, .r .mv, [.s 10]⟩,
  ⟨some 228, none, [], 0, .r (.ixs 4), [.s 226, .s 227]⟩,
  ⟨some 229, none, [], 0, .r (.fad 3), [.s 228]⟩,
  ⟨some 230, none, [], 0, .r .ld1, [.s 229]⟩,
  ⟨some 231, none, [], 0, .r .len, [.s 230]⟩,
  ⟨some 232, none, [], 0, .call .f [] [], [.fn 35, .z 224 [some 1], .c (.int .i64 6), .s 231]⟩,
  ⟨some 11, none, [], 0, .r .mv, [.s 232]⟩]
def f11r57 : List POp := [
  ⟨some 233, none, [], 0, .r .mv, [.s 5]⟩,
  ⟨some 234, none, [], 0, .r .mv, [.s 6]⟩,
  ⟨some 235, none, [], 0, .r .mv, [.s 10]⟩,
  ⟨some 236, none, [], 0, .r .mv, [.s 11]⟩,
  ⟨some 237, none, [], 0, .r .mv, [.s 9]⟩,
  ⟨some 238, none, [], 0, .r .mv, [.s 7]⟩,
  ⟨some 239, none, [], 0, .r .mv, [.s 8]⟩,
  ⟨some 240, none, [340], 0, .call .f [] [340], [.fn 37, .s 233, .s 234, .s 235, .s 236, .s 237, .s 238, .s 239]⟩,
  ⟨some 4, none, [], 0, .r .mv, [.s 240]⟩]
def f11pc : PCode := .seq (.region f11r0 []) (.seq (.region f11r1 []) (.seq (.region f11r2 []) (.seq (.region f11r3 []) (.seq (.region f11r4 []) (.seq (.region f11r5 []) (.seq (.region f11r6 []) (.seq (.region f11r7 []) (.seq (.seq (.region f11r8 []) (.block 0 (.seq (.region f11r9 []) (.cond (.s 48) (.seq (.region f11r10 []) (.gh (.fz 116) (.gh (.fz 159) (.gh (.fz 174) (.gh (.fz 340) (.ret)))))) (.seq (.region f11r11 []) (.cond (.s 60) (.seq (.region f11r12 []) (.seq (.region f11r13 []) (.seq (.region f11r14 []) (.seq (.seq (.region f11r15 []) (.block 1 (.loop f11l0))) (.seq (.region f11r22 []) (.gh (.fz 116) (.gh (.fz 159) (.gh (.fz 174) (.gh (.fz 340) (.ret)))))))))) (.seq (.region f11r23 []) (.cond (.s 130) (.seq (.region f11r24 []) (.gh (.own 16 116 58 4) (.seq (.region f11r25 []) (.seq (.seq (.region f11r26 []) (.block 3 (.loop f11l1))) (.seq (.region f11r51 []) (.gh (.fz 116) (.gh (.fz 159) (.gh (.fz 174) (.gh (.fz 340) (.ret)))))))))) (.seq (.region f11r52 []) (.cond (.s 205) (.seq (.seq (.region f11r53 []) (.cond (.s 217) (.region f11r54 []) (.skip))) (.seq (.region f11r55 []) (.cond (.s 223) (.region f11r56 []) (.skip)))) (.skip))))))))))) (.seq (.region f11r57 []) (.gh (.fz 116) (.gh (.fz 159) (.gh (.fz 174) (.gh (.fz 340) (.ret))))))))))))))
def f11rs : List RArg := [.s 4 [some 4] [116, 159, 174, 340]]
end Go.Absw

/- Generated: the abstract texts of functions 12. -/
namespace Go.Absw
/- diorama/dioramaref29.Bent : params [32, 3, 3, 3] results [32] tmps 105 resvars [('tmp', 8)] -/
def f12r0 : List POp := [
  ⟨some 8, none, [], 0, .r .mv, [.c (.nils)]⟩]
def f12r1 : List POp := [
  ⟨some 9, none, [], 0, .r .mv, [.c (.nils)]⟩]
def f12r2 : List POp := [
  ⟨some 13, none, [], 0, .r .mv, [.s 9]⟩,
  ⟨some 14, none, [], 0, .r .mv, [.s 0]⟩,
  ⟨some 15, none, [109, 115], 115, .app 58 4 32, [.s 13, .s 14]⟩,
  ⟨some 9, none, [], 0, .r .mv, [.s 15]⟩]
def f12r3 : List POp := [
  ⟨some 16, none, [], 0, .r .mv, [.s 9]⟩,
  ⟨some 17, none, [109], 0, .r .len, [.s 16]⟩,
  ⟨some 18, none, [], 0, .r (.bin .eql), [.s 17, .c (.int .i64 0)]⟩]
def f12r4 : List POp := [
  ⟨some 19, none, [], 0, .r .mv, [.s 9]⟩,
  ⟨some 20, none, [], 0, .r .mv, [.s 3]⟩,
  ⟨some 21, none, [], 0, .call .f [] [], [.fn 13, .s 20, .c (.int .i64 11)]⟩,
  ⟨some 22, none, [], 0, .r (.bin .sub), [.s 21, .c (.int .i64 1)]⟩,
  ⟨some 23, none, [], 0, .r (.build [.int .i64 0, .int .i64 0, .int .i64 0, .int .i64 0] [(0, 1)]), [.s 22]⟩,
  ⟨some 24, none, [124], 124, .a (.bsl 58 4 1 [.int .i64 0, .int .i64 0, .int .i64 0, .int .i64 0] [(0, 4)]), [.s 23]⟩,
  ⟨some 25, none, [109, 124, 125], 125, .app 58 4 32, [.s 19, .s 24]⟩,
  ⟨some 8, none, [], 0, .r .mv, [.s 25]⟩]
def f12r5 : List POp := [
  ⟨some 26, none, [], 0, .r .mv, [.s 1]⟩,
  ⟨some 27, none, [], 0, .r .mv, [.s 9]⟩,
  ⟨some 28, none, [109], 0, .r .len, [.s 27]⟩,
  ⟨some 29, none, [], 0, .call .f [] [], [.fn 13, .s 26, .s 28]⟩,
  ⟨some 10, none, [], 0, .r .mv, [.s 29]⟩]
def f12r6 : List POp := [
  ⟨some 30, none, [130], 130, .a (.bsl 3 1 16 [.int .i64 0] [(0, 1), (1, 1), (2, 1), (3, 1), (4, 1), (5, 1), (6, 1), (7, 1), (8, 1), (9, 1), (10, 1), (11, 1), (12, 1), (13, 1), (14, 1), (15, 1)]), [.c (.int .i64 (-1)), .c (.int .i64 0), .c (.int .i64 1), .c (.int .i64 5), .c (.int .i64 6), .c (.int .i64 7), .c (.int .i64 8), .c (.int .i64 9), .c (.int .i64 10), .c (.int .i64 128), .c (.int .i64 250), .c (.int .i64 251), .c (.int .i64 1048576), .c (.int .i64 1048577), .c (.int .i64 (-1048576)), .c (.int .i64 (-1048577))]⟩,
  ⟨some 31, none, [], 0, .r .mv, [.s 3]⟩,
  ⟨some 32, none, [], 0, .call .f [] [], [.fn 13, .s 31, .c (.int .i64 16)]⟩,
  ⟨some 33, none, [130], 0, .r (.ixs 1), [.s 30, .s 32]⟩,
  ⟨some 34, none, [130], 0, .r .ld1, [.s 33]⟩,
  ⟨some 11, none, [], 0, .r .mv, [.s 34]⟩]
def f12r7 : List POp := [
  ⟨some 35, none, [], 0, .r .mv, [.s 2]⟩,
  ⟨some 36, none, [], 0, .call .f [] [], [.fn 13, .s 35, .c (.int .i64 7)]⟩]
def f12r9 : List POp := [
  ⟨some 45, none, [], 0, .r (.bin .eql), [.s 36, .c (.int .i64 0)]⟩,
  ⟨some 44, none, [], 0, .r .mv, [.s 45]⟩]
def f12r10 : List POp := [
  ⟨some 46, none, [], 0, .r .mv, [.s 9]⟩,
  ⟨some 47, none, [], 0, .r .mv, [.s 10]⟩,
  ⟨some 48, none, [], 0, .r .mv, [.s 3]⟩,
  ⟨some 49, none, [], 0, .call .f [] [], [.fn 13, .s 48, .c (.int .i64 11)]⟩,
  ⟨some 50, none, [], 0, .r (.bin .sub), [.s 49, .c (.int .i64 1)]⟩,
  ⟨some 51, none, [109], 0, .r (.ixs 4), [.s 46, .s 47]⟩,
  ⟨some 52, none, [109], 0, .r (.fad 0), [.s 51]⟩,
  ⟨none, none, [109], 0, .st 1, [.s 52, .s 50]⟩]
def f12r11 : List POp := [
  ⟨some 54, none, [], 0, .r (.bin .eql), [.s 36, .c (.int .i64 1)]⟩,
  ⟨some 53, none, [], 0, .r .mv, [.s 54]⟩]
def f12r12 : List POp := [
  ⟨some 55, none, [], 0, .r .mv, [.s 9]⟩,
  ⟨some 56, none, [], 0, .r .mv, [.s 10]⟩,
  ⟨some 57, none, [], 0, .r .mv, [.s 11]⟩,
  ⟨some 58, none, [109], 0, .r (.ixs 4), [.s 55, .s 56]⟩,
  ⟨some 59, none, [109], 0, .r (.fad 1), [.s 58]⟩,
  ⟨none, none, [109], 0, .st 1, [.s 59, .s 57]⟩]
def f12r13 : List POp := [
  ⟨some 61, none, [], 0, .r (.bin .eql), [.s 36, .c (.int .i64 2)]⟩,
  ⟨some 60, none, [], 0, .r .mv, [.s 61]⟩]
def f12r14 : List POp := [
  ⟨some 62, none, [], 0, .r .mv, [.s 9]⟩,
  ⟨some 63, none, [], 0, .r .mv, [.s 10]⟩,
  ⟨some 64, none, [], 0, .r .mv, [.s 11]⟩,
  ⟨some 65, none, [109], 0, .r (.ixs 4), [.s 62, .s 63]⟩,
  ⟨some 66, none, [109], 0, .r (.fad 2), [.s 65]⟩,
  ⟨none, none, [109], 0, .st 1, [.s 66, .s 64]⟩]
def f12r15 : List POp := [
  ⟨some 68, none, [], 0, .r (.bin .eql), [.s 36, .c (.int .i64 3)]⟩,
  ⟨some 67, none, [], 0, .r .mv, [.s 68]⟩]
def f12r16 : List POp := [
  ⟨some 69, none, [], 0, .r .mv, [.s 9]⟩,
  ⟨some 70, none, [], 0, .r .mv, [.s 10]⟩,
  ⟨some 71, none, [], 0, .r .mv, [.s 11]⟩,
  ⟨some 72, none, [109], 0, .r (.ixs 4), [.s 69, .s 70]⟩,
  ⟨some 73, none, [109], 0, .r (.fad 3), [.s 72]⟩,
  ⟨none, none, [109], 0, .st 1, [.s 73, .s 71]⟩]
def f12r17 : List POp := [
  ⟨some 75, none, [], 0, .r (.bin .eql), [.s 36, .c (.int .i64 4)]⟩,
  ⟨some 74, none, [], 0, .r .mv, [.s 75]⟩]
def f12r18 : List POp := [
  ⟨some 76, none, [], 0, .r .mv, [.s 9]⟩,
  ⟨some 77, none, [], 0, .r .mv, [.s 10]⟩,
  ⟨some 78, none, [109], 0, .r (.slc 4 false true), [.s 76, .s 77]⟩,
  ⟨some 79, none, [], 0, .r .mv, [.s 9]⟩,
  ⟨some 80, none, [], 0, .r .mv, [.s 10]⟩,
  ⟨some 81, none, [], 0, .r (.bin .add), [.s 80, .c (.int .i64 1)]⟩,
  ⟨some 82, none, [109], 0, .r (.slc 4 true false), [.s 79, .s 81]⟩,
  ⟨some 83, none, [109, 183], 183, .app 58 4 32, [.s 78, .s 82]⟩,
  ⟨some 9, none, [], 0, .r .mv, [.s 83]⟩]
def f12r19 : List POp := [
  ⟨some 85, none, [], 0, .r (.bin .eql), [.s 36, .c (.int .i64 5)]⟩,
  ⟨some 84, none, [], 0, .r .mv, [.s 85]⟩]
def f12r20 : List POp := [
  ⟨some 12, none, [], 0, .r .mv, [.c (.int .i64 0)]⟩]
def f12r21 : List POp := [
  ⟨some 86, none, [], 0, .r .mv, [.s 12]⟩,
  ⟨some 87, none, [], 0, .r (.bin .lss), [.s 86, .c (.int .i64 128)]⟩]
def f12r23 : List POp := [
  ⟨some 90, none, [], 0, .r .mv, [.s 9]⟩,
  ⟨some 91, none, [], 0, .r (.build [.int .i64 0, .int .i64 0, .int .i64 0, .int .i64 0] [(0, 1)]), [.c (.int .i64 0)]⟩,
  ⟨some 92, none, [192], 192, .a (.bsl 58 4 1 [.int .i64 0, .int .i64 0, .int .i64 0, .int .i64 0] [(0, 4)]), [.s 91]⟩,
  ⟨some 93, none, [109, 192, 193], 193, .app 58 4 32, [.s 90, .s 92]⟩,
  ⟨some 9, none, [], 0, .r .mv, [.s 93]⟩]
def f12r22 : List POp := [
  ⟨some 88, none, [], 0, .r .mv, [.s 12]⟩,
  ⟨some 89, none, [], 0, .r (.bin .add), [.s 88, .c (.int .i64 1)]⟩,
  ⟨some 12, none, [], 0, .r .mv, [.s 89]⟩]
def f12l0 : PCode := .gh (.keep [3, 9, 12] [109]) (.seq (.seq (.region f12r21 []) (.cond (.s 87) (.skip) (.exit 1))) (.seq (.block 2 (.region f12r23 [])) (.region f12r22 [])))
/- f12l0: slots [3, 9, 12], tokens [109] -/
def f12r24 : List POp := [
  ⟨some 94, none, [], 0, .r .mv, [.s 9]⟩,
  ⟨some 95, none, [], 0, .r .mv, [.s 3]⟩,
  ⟨some 96, none, [], 0, .call .f [] [], [.fn 13, .s 95, .c (.int .i64 3)]⟩,
  ⟨some 97, none, [], 0, .r .mv, [.s 9]⟩,
  ⟨some 98, none, [109], 0, .r .len, [.s 97]⟩,
  ⟨some 99, none, [], 0, .r (.bin .sub), [.s 98, .c (.int .i64 126)]⟩,
  ⟨some 100, none, [], 0, .r .max, [.s 99, .c (.int .i64 1)]⟩,
  ⟨some 101, none, [], 0, .r (.bin .rem), [.s 96, .s 100]⟩,
  ⟨some 102, none, [], 0, .r (.bin .add), [.c (.int .i64 127), .s 101]⟩,
  ⟨some 103, none, [109], 0, .r (.slc 4 false true), [.s 94, .s 102]⟩,
  ⟨some 9, none, [], 0, .r .mv, [.s 103]⟩]
def f12r8 : List POp := [
  ⟨some 37, none, [], 0, .r .mv, [.s 9]⟩,
  ⟨some 38, none, [], 0, .r .mv, [.s 9]⟩,
  ⟨some 39, none, [], 0, .r .mv, [.s 10]⟩,
  ⟨some 40, none, [109], 0, .r (.ixs 4), [.s 38, .s 39]⟩,
  ⟨some 41, none, [109], 0, .r (.ldn 4), [.s 40]⟩,
  ⟨some 42, none, [142], 142, .a (.bsl 58 4 1 [.int .i64 0, .int .i64 0, .int .i64 0, .int .i64 0] [(0, 4)]), [.s 41]⟩,
  ⟨some 43, none, [109, 142, 143], 143, .app 58 4 32, [.s 37, .s 42]⟩,
  ⟨some 9, none, [], 0, .r .mv, [.s 43]⟩]
def f12r25 : List POp := [
  ⟨some 104, none, [], 0, .r .mv, [.s 9]⟩,
  ⟨some 8, none, [], 0, .r .mv, [.s 104]⟩]
def f12pc : PCode := .seq (.region f12r0 []) (.seq (.region f12r1 []) (.gh (.own 9 109 58 4) (.seq (.region f12r2 []) (.seq (.seq (.region f12r3 []) (.cond (.s 18) (.seq (.region f12r4 []) (.gh (.fz 109) (.ret))) (.skip))) (.seq (.region f12r5 []) (.seq (.region f12r6 []) (.seq (.seq (.region f12r7 []) (.block 0 (.seq (.region f12r9 []) (.cond (.s 44) (.region f12r10 []) (.seq (.region f12r11 []) (.cond (.s 53) (.region f12r12 []) (.seq (.region f12r13 []) (.cond (.s 60) (.region f12r14 []) (.seq (.region f12r15 []) (.cond (.s 67) (.region f12r16 []) (.seq (.region f12r17 []) (.cond (.s 74) (.region f12r18 [[], [], [0, 1], [], [], [4], [3, 4, 5], [0, 1, 2, 3, 4, 5, 6], [0, 1, 2, 3, 4, 5, 6, 7]]) (.seq (.region f12r19 []) (.cond (.s 84) (.seq (.seq (.region f12r20 []) (.block 1 (.loop f12l0))) (.region f12r24 [])) (.region f12r8 []))))))))))))))) (.seq (.region f12r25 []) (.gh (.fz 109) (.ret))))))))))
def f12rs : List RArg := [.s 8 [some 4] [109]]
end Go.Absw

/- Generated: the abstract texts of functions 59 62 60 61 28 74 81 89 75 82 76 77 83. -/
namespace Go.Absw
/- diorama/vm.token : params [9, 3] results [3, 9] tmps 49 resvars [('tmp', 4), ('tmp', 5)] -/
def f59r0 : List POp := [
  ⟨some 4, none, [], 0, .r .mv, [.c (.int .i64 0)]⟩,
  ⟨some 5, none, [], 0, .r .mv, [.c (.str [])]⟩]
def f59r1 : List POp := [
  ⟨some 7, none, [], 0, .r .mv, [.s 1]⟩,
  ⟨some 8, none, [], 0, .r .mv, [.s 0]⟩,
  ⟨some 9, none, [], 0, .r .lens, [.s 8]⟩,
  ⟨some 10, none, [], 0, .r (.bin .lss), [.s 7, .s 9]⟩,
  ⟨some 11, none, [], 0, .r .mv, [.s 10]⟩,
  ⟨some 12, (some (11, true)), [], 0, .r .mv, [.s 0]⟩,
  ⟨some 13, (some (11, true)), [], 0, .r .mv, [.s 1]⟩,
  ⟨some 14, (some (11, true)), [], 0, .r .ixc, [.s 12, .s 13]⟩,
  ⟨some 15, (some (11, true)), [], 0, .r (.bin .eql), [.s 14, .c (.int .u8 32)]⟩,
  ⟨some 16, (some (11, true)), [], 0, .r .mv, [.s 15]⟩,
  ⟨some 17, (some (16, false)), [], 0, .r .mv, [.s 0]⟩,
  ⟨some 18, (some (16, false)), [], 0, .r .mv, [.s 1]⟩,
  ⟨some 19, (some (16, false)), [], 0, .r .ixc, [.s 17, .s 18]⟩,
  ⟨some 20, (some (16, false)), [], 0, .r (.bin .eql), [.s 19, .c (.int .u8 10)]⟩,
  ⟨some 21, (some (11, true)), [], 0, .r .pick, [.s 16, .c (.bool true), .s 20]⟩,
  ⟨some 22, none, [], 0, .r .pick, [.s 11, .s 21, .c (.bool false)]⟩]
def f59r2 : List POp := [
  ⟨some 23, none, [], 0, .r .mv, [.s 1]⟩,
  ⟨some 24, none, [], 0, .r (.bin .add), [.s 23, .c (.int .i64 1)]⟩,
  ⟨some 1, none, [], 0, .r .mv, [.s 24]⟩]
def f59l0 : PCode := .gh (.keep [0, 1] []) (.seq (.seq (.region f59r1 []) (.cond (.s 22) (.skip) (.exit 0))) (.block 1 (.region f59r2 [])))
/- f59l0: slots [0, 1], tokens [] -/
def f59r3 : List POp := [
  ⟨some 25, none, [], 0, .r .mv, [.s 1]⟩,
  ⟨some 6, none, [], 0, .r .mv, [.s 25]⟩]
def f59r4 : List POp := [
  ⟨some 26, none, [], 0, .r .mv, [.s 6]⟩,
  ⟨some 27, none, [], 0, .r .mv, [.s 0]⟩,
  ⟨some 28, none, [], 0, .r .lens, [.s 27]⟩,
  ⟨some 29, none, [], 0, .r (.bin .lss), [.s 26, .s 28]⟩,
  ⟨some 30, none, [], 0, .r .mv, [.s 29]⟩,
  ⟨some 31, (some (30, true)), [], 0, .r .mv, [.s 0]⟩,
  ⟨some 32, (some (30, true)), [], 0, .r .mv, [.s 6]⟩,
  ⟨some 33, (some (30, true)), [], 0, .r .ixc, [.s 31, .s 32]⟩,
  ⟨some 34, (some (30, true)), [], 0, .r (.bin .geq), [.s 33, .c (.int .u8 33)]⟩,
  ⟨some 35, none, [], 0, .r .pick, [.s 30, .s 34, .c (.bool false)]⟩,
  ⟨some 36, none, [], 0, .r .mv, [.s 35]⟩,
  ⟨some 37, (some (36, true)), [], 0, .r .mv, [.s 0]⟩,
  ⟨some 38, (some (36, true)), [], 0, .r .mv, [.s 6]⟩,
  ⟨some 39, (some (36, true)), [], 0, .r .ixc, [.s 37, .s 38]⟩,
  ⟨some 40, (some (36, true)), [], 0, .r (.bin .leq), [.s 39, .c (.int .u8 126)]⟩,
  ⟨some 41, none, [], 0, .r .pick, [.s 36, .s 40, .c (.bool false)]⟩]
def f59r5 : List POp := [
  ⟨some 42, none, [], 0, .r .mv, [.s 6]⟩,
  ⟨some 43, none, [], 0, .r (.bin .add), [.s 42, .c (.int .i64 1)]⟩,
  ⟨some 6, none, [], 0, .r .mv, [.s 43]⟩]
def f59l1 : PCode := .gh (.keep [0, 1, 6] []) (.seq (.seq (.region f59r4 []) (.cond (.s 41) (.skip) (.exit 2))) (.block 3 (.region f59r5 [])))
/- f59l1: slots [0, 1, 6], tokens [] -/
def f59r6 : List POp := [
  ⟨some 44, none, [], 0, .r .mv, [.s 1]⟩,
  ⟨some 45, none, [], 0, .r .mv, [.s 0]⟩,
  ⟨some 46, none, [], 0, .r .mv, [.s 1]⟩,
  ⟨some 47, none, [], 0, .r .mv, [.s 6]⟩,
  ⟨some 48, none, [], 0, .r (.sls true true), [.s 45, .s 46, .s 47]⟩,
  ⟨some 4, none, [], 0, .r .mv, [.s 44]⟩,
  ⟨some 5, none, [], 0, .r .mv, [.s 48]⟩]
def f59pc : PCode := .seq (.region f59r0 []) (.seq (.block 0 (.loop f59l0)) (.seq (.region f59r3 []) (.seq (.block 2 (.loop f59l1)) (.seq (.region f59r6 [[], [], [], [], [1, 2, 3], [0], [0, 1, 2, 3, 4, 5]]) (.ret)))))
def f59rs : List RArg := [.s 4 [] [], .s 5 [] []]
/- diorama/vm.number : params [9] results [3, 4] tmps 29 resvars [('tmp', 2), ('tmp', 3)] -/
def f62r0 : List POp := [
  ⟨some 2, none, [], 0, .r .mv, [.c (.int .i64 0)]⟩,
  ⟨some 3, none, [], 0, .r .mv, [.c (.bool false)]⟩]
def f62r1 : List POp := [
  ⟨some 7, none, [], 0, .r .mv, [.s 0]⟩,
  ⟨some 8, none, [], 0, .call .f [] [], [.fn 74, .s 7, .c (.str [45])]⟩,
  ⟨some 4, none, [], 0, .r .mv, [.s 8]⟩]
def f62r2 : List POp := [
  ⟨some 9, none, [], 0, .r .mv, [.s 4]⟩,
  ⟨some 10, none, [], 0, .r .lens, [.s 9]⟩,
  ⟨some 11, none, [], 0, .r (.bin .lss), [.s 10, .c (.int .i64 1)]⟩,
  ⟨some 12, none, [], 0, .r .mv, [.s 11]⟩,
  ⟨some 13, (some (12, false)), [], 0, .r .mv, [.s 4]⟩,
  ⟨some 14, (some (12, false)), [], 0, .r .lens, [.s 13]⟩,
  ⟨some 15, (some (12, false)), [], 0, .r (.bin .gtr), [.s 14, .c (.int .i64 7)]⟩,
  ⟨some 16, none, [], 0, .r .pick, [.s 12, .c (.bool true), .s 15]⟩,
  ⟨some 17, none, [], 0, .r .mv, [.s 16]⟩,
  ⟨some 18, (some (17, false)), [], 0, .r .mv, [.s 4]⟩,
  ⟨some 19, (some (17, false)), [], 0, .call .f [] [], [.fn 75, .s 18, .fn 76]⟩,
  ⟨some 20, none, [], 0, .r .pick, [.s 17, .c (.bool true), .s 19]⟩]
def f62r3 : List POp := [
  ⟨some 2, none, [], 0, .r .mv, [.c (.int .i64 0)]⟩,
  ⟨some 3, none, [], 0, .r .mv, [.c (.bool false)]⟩]
def f62r4 : List POp := [
  ⟨some 22, none, [], 0, .r .mv, [.s 0]⟩,
  ⟨some 23, none, [], 0, .call .f [] [], [.fn 77, .s 22]⟩,
  ⟨some 21, none, [], 0, .r .mv, [.s 23]⟩,
  ⟨some 24, none, [], 0, .r (.ext 0), [.s 21]⟩,
  ⟨some 25, none, [], 0, .r (.ext 1), [.s 21]⟩,
  ⟨some 5, none, [], 0, .r .mv, [.s 24]⟩,
  ⟨some 6, none, [], 0, .r .mv, [.s 25]⟩]
def f62r5 : List POp := [
  ⟨some 26, none, [], 0, .r .mv, [.s 5]⟩,
  ⟨some 27, none, [], 0, .r .mv, [.s 6]⟩,
  ⟨some 28, none, [], 0, .r (.ieq false), [.s 27, .c (.nili)]⟩,
  ⟨some 2, none, [], 0, .r .mv, [.s 26]⟩,
  ⟨some 3, none, [], 0, .r .mv, [.s 28]⟩]
def f62pc : PCode := .seq (.region f62r0 []) (.seq (.region f62r1 []) (.seq (.seq (.region f62r2 []) (.cond (.s 20) (.seq (.region f62r3 []) (.ret)) (.skip))) (.seq (.region f62r4 []) (.seq (.region f62r5 [[], [], [1], [0], [0, 1, 2, 3]]) (.ret)))))
def f62rs : List RArg := [.s 2 [] [], .s 3 [] []]
/- slices.IndexFunc[[]struct{word string; l [3]int},struct{word string; l [3]int}] : params [137, 138] results [3] tmps 19 resvars [('tmp', 4)] -/
def f60r0 : List POp := [
  ⟨some 4, none, [], 0, .r .mv, [.c (.int .i64 0)]⟩]
def f60r1 : List POp := [
  ⟨some 6, none, [], 0, .r .mv, [.s 0]⟩,
  ⟨some 7, none, [], 0, .r .len, [.s 6]⟩,
  ⟨some 8, none, [], 0, .r .mv, [.c (.int .i64 0)]⟩]
def f60r2 : List POp := [
  ⟨some 9, none, [], 0, .r (.bin .lss), [.s 8, .s 7]⟩]
def f60r3 : List POp := [
  ⟨some 10, none, [], 0, .r .mv, [.s 8]⟩,
  ⟨some 5, none, [], 0, .r .mv, [.s 10]⟩]
def f60r4 : List POp := [
  ⟨some 11, none, [], 0, .r .mv, [.s 1]⟩,
  ⟨some 12, none, [], 0, .r .mv, [.s 0]⟩,
  ⟨some 13, none, [], 0, .r .mv, [.s 5]⟩,
  ⟨some 14, none, [], 0, .r (.ixs 4), [.s 12, .s 13]⟩,
  ⟨some 15, none, [], 0, .r (.ldn 4), [.s 14]⟩,
  ⟨some 16, none, [0], 0, .call .f [0] [], [.s 11, .s 15]⟩]
def f60r5 : List POp := [
  ⟨some 17, none, [], 0, .r .mv, [.s 5]⟩,
  ⟨some 4, none, [], 0, .r .mv, [.s 17]⟩]
def f60r6 : List POp := [
  ⟨some 18, none, [], 0, .r (.bin .add), [.s 8, .c (.int .i64 1)]⟩,
  ⟨some 8, none, [], 0, .r .mv, [.s 18]⟩]
def f60l0 : PCode := .gh (.keep [0, 1, 7, 8] [0]) (.seq (.region f60r2 []) (.seq (.cond (.s 9) (.skip) (.exit 0)) (.seq (.block 1 (.seq (.region f60r3 []) (.seq (.region f60r4 []) (.cond (.s 16) (.seq (.region f60r5 []) (.ret)) (.skip))))) (.region f60r6 []))))
/- f60l0: slots [0, 1, 7, 8], tokens [0] -/
def f60r7 : List POp := [
  ⟨some 4, none, [], 0, .r .mv, [.c (.int .i64 (-1))]⟩]
def f60pc : PCode := .seq (.region f60r0 []) (.seq (.seq (.region f60r1 []) (.block 0 (.loop f60l0))) (.seq (.region f60r7 []) (.ret)))
def f60rs : List RArg := [.s 4 [] []]
/- diorama/vm.Parse$1 : params [112] results [4] tmps 8 resvars [('tmp', 3)] -/
def f61r0 : List POp := [
  ⟨some 2, none, [102], 102, .a (.box 112 4), [.s 0]⟩,
  ⟨some 3, none, [], 0, .r .mv, [.c (.bool false)]⟩]
def f61r1 : List POp := [
  ⟨some 4, none, [102], 0, .r (.fad 0), [.s 2]⟩,
  ⟨some 5, none, [102], 0, .r .ld1, [.s 4]⟩,
  ⟨some 6, none, [0], 0, .r .ld1, [.s 1]⟩,
  ⟨some 7, none, [], 0, .r (.bin .eql), [.s 5, .s 6]⟩,
  ⟨some 3, none, [], 0, .r .mv, [.s 7]⟩]
def f61pc : PCode := .seq (.region f61r0 []) (.seq (.region f61r1 []) (.ret))
def f61rs : List RArg := [.s 3 [] []]
/- diorama/vm.Parse : params [9] results [43, 3, 39] tmps 95 resvars [('tmp', 2), ('tmp', 3), ('tmp', 4)] -/
def f28r0 : List POp := [
  ⟨some 2, none, [], 0, .r .mv, [.c (.nils)]⟩,
  ⟨some 3, none, [], 0, .r .mv, [.c (.int .i64 0)]⟩,
  ⟨some 4, none, [], 0, .r .mv, [.c (.int .i64 0)]⟩]
def f28r1 : List POp := [
  ⟨some 16, none, [], 0, .r .mv, [.s 0]⟩,
  ⟨some 17, none, [], 0, .r .lens, [.s 16]⟩,
  ⟨some 18, none, [], 0, .r (.bin .gtr), [.s 17, .c (.int .i64 8192)]⟩]
def f28r2 : List POp := [
  ⟨some 2, none, [], 0, .r .mv, [.c (.nils)]⟩,
  ⟨some 3, none, [], 0, .r .mv, [.c (.int .i64 8192)]⟩,
  ⟨some 4, none, [], 0, .r .mv, [.c (.int .i64 4)]⟩]
def f28r3 : List POp := [
  ⟨some 5, none, [], 0, .r .mv, [.c (.nils)]⟩]
def f28r4 : List POp := [
  ⟨some 20, none, [], 0, .r .mv, [.s 0]⟩,
  ⟨some 21, none, [], 0, .call .f [] [], [.fn 59, .s 20, .c (.int .i64 0)]⟩,
  ⟨some 19, none, [], 0, .r .mv, [.s 21]⟩,
  ⟨some 22, none, [], 0, .r (.ext 0), [.s 19]⟩,
  ⟨some 23, none, [], 0, .r (.ext 1), [.s 19]⟩,
  ⟨some 7, none, [107], 107, .a (.alloc 9 [.str []]), []⟩,
  ⟨some 6, none, [], 0, .r .mv, [.s 22]⟩,
  ⟨none, none, [107], 0, .st 1, [.s 7, .s 23]⟩]
def f28r5 : List POp := [
  ⟨some 24, none, [107], 0, .r .ld1, [.s 7]⟩,
  ⟨some 25, none, [], 0, .r (.bin .neq), [.s 24, .c (.str [])]⟩]
def f28r6 : List POp := [
  ⟨some 26, none, [], 0, .call .f [] [], [.fn 45]⟩,
  ⟨some 8, none, [108], 108, .a (.alloc 113 [.str [], .int .i64 0, .int .i64 0, .int .i64 0, .str [], .int .i64 0, .int .i64 0, .int .i64 0, .str [], .int .i64 0, .int .i64 0, .int .i64 0, .str [], .int .i64 0, .int .i64 0, .int .i64 0, .str [], .int .i64 0, .int .i64 0, .int .i64 0, .str [], .int .i64 0, .int .i64 0, .int .i64 0, .str [], .int .i64 0, .int .i64 0, .int .i64 0, .str [], .int .i64 0, .int .i64 0, .int .i64 0, .str [], .int .i64 0, .int .i64 0, .int .i64 0]), []⟩,
  ⟨none, none, [108], 0, .st 36, [.s 8, .s 26]⟩]
def f28r7 : List POp := [
  ⟨some 27, none, [108], 0, .r (.sla 9 4), [.s 8]⟩,
  ⟨some 28, none, [], 0, .r (.mkf (.func 61) 0), [.s 7]⟩,
  ⟨some 29, none, [107], 0, .call .f [107] [], [.fn 60, .z 27 [some 4], .s 28]⟩,
  ⟨some 9, none, [], 0, .r .mv, [.s 29]⟩]
def f28r8 : List POp := [
  ⟨some 30, none, [], 0, .r .mv, [.s 9]⟩,
  ⟨some 31, none, [], 0, .r (.bin .lss), [.s 30, .c (.int .i64 0)]⟩]
def f28r9 : List POp := [
  ⟨some 32, none, [], 0, .r .mv, [.s 6]⟩,
  ⟨some 2, none, [], 0, .r .mv, [.c (.nils)]⟩,
  ⟨some 3, none, [], 0, .r .mv, [.s 32]⟩,
  ⟨some 4, none, [], 0, .r .mv, [.c (.int .i64 2)]⟩]
def f28r10 : List POp := [
  ⟨some 10, none, [110], 110, .a (.alloc 109 [.int .i64 0, .int .i64 0, .int .i64 0]), []⟩]
def f28r11 : List POp := [
  ⟨some 33, none, [], 0, .r .mv, [.s 9]⟩,
  ⟨some 34, none, [108], 0, .r (.ixa 9 4), [.s 8, .s 33]⟩,
  ⟨some 35, none, [108], 0, .r (.fad 1), [.s 34]⟩,
  ⟨some 36, none, [108], 0, .r (.ldn 3), [.s 35]⟩,
  ⟨some 37, none, [], 0, .r .mv, [.c (.int .i64 0)]⟩]
def f28r12 : List POp := [
  ⟨some 38, none, [], 0, .r (.bin .lss), [.s 37, .c (.int .i64 3)]⟩]
def f28r13 : List POp := [
  ⟨some 39, none, [], 0, .r .mv, [.s 37]⟩,
  ⟨some 40, none, [], 0, .r (.ixv1 3), [.s 36, .s 37]⟩,
  ⟨some 11, none, [], 0, .r .mv, [.s 39]⟩,
  ⟨some 12, none, [], 0, .r .mv, [.s 40]⟩]
def f28r14 : List POp := [
  ⟨some 41, none, [], 0, .r .mv, [.s 12]⟩,
  ⟨some 42, none, [], 0, .r (.bin .eql), [.s 41, .c (.int .i64 0)]⟩]
def f28r15 : List POp := [
  ⟨some 44, none, [], 0, .r .mv, [.s 0]⟩,
  ⟨some 45, none, [], 0, .r .mv, [.s 6]⟩,
  ⟨some 46, none, [107], 0, .r .ld1, [.s 7]⟩,
  ⟨some 47, none, [], 0, .r .lens, [.s 46]⟩,
  ⟨some 48, none, [], 0, .r (.bin .add), [.s 45, .s 47]⟩,
  ⟨some 49, none, [], 0, .call .f [] [], [.fn 59, .s 44, .s 48]⟩,
  ⟨some 43, none, [], 0, .r .mv, [.s 49]⟩,
  ⟨some 50, none, [], 0, .r (.ext 0), [.s 43]⟩,
  ⟨some 51, none, [], 0, .r (.ext 1), [.s 43]⟩,
  ⟨some 6, none, [], 0, .r .mv, [.s 50]⟩,
  ⟨none, none, [107], 0, .st 1, [.s 7, .s 51]⟩]
def f28r16 : List POp := [
  ⟨some 53, none, [107], 0, .r .ld1, [.s 7]⟩,
  ⟨some 54, none, [], 0, .call .f [] [], [.fn 62, .s 53]⟩,
  ⟨some 52, none, [], 0, .r .mv, [.s 54]⟩,
  ⟨some 55, none, [], 0, .r (.ext 0), [.s 52]⟩,
  ⟨some 56, none, [], 0, .r (.ext 1), [.s 52]⟩,
  ⟨some 13, none, [], 0, .r .mv, [.s 55]⟩,
  ⟨some 14, none, [], 0, .r .mv, [.s 56]⟩]
def f28r17 : List POp := [
  ⟨some 57, none, [], 0, .r .mv, [.s 14]⟩,
  ⟨some 58, none, [], 0, .r (.un .not), [.s 57]⟩]
def f28r18 : List POp := [
  ⟨some 59, none, [], 0, .r .mv, [.s 6]⟩,
  ⟨some 2, none, [], 0, .r .mv, [.c (.nils)]⟩,
  ⟨some 3, none, [], 0, .r .mv, [.s 59]⟩,
  ⟨some 4, none, [], 0, .r .mv, [.c (.int .i64 2)]⟩]
def f28r19 : List POp := [
  ⟨some 60, none, [], 0, .r .mv, [.s 11]⟩,
  ⟨some 61, none, [], 0, .r .mv, [.s 13]⟩,
  ⟨some 62, none, [110], 0, .r (.ixa 3 1), [.s 10, .s 60]⟩,
  ⟨none, none, [110], 0, .st 1, [.s 62, .s 61]⟩]
def f28r20 : List POp := [
  ⟨some 63, none, [], 0, .r (.bin .add), [.s 37, .c (.int .i64 1)]⟩,
  ⟨some 37, none, [], 0, .r .mv, [.s 63]⟩]
def f28l1 : PCode := .gh (.keep [0, 5, 6, 7, 9, 10, 36, 37] [105, 107, 110]) (.seq (.region f28r12 []) (.seq (.cond (.s 38) (.skip) (.exit 2)) (.seq (.block 3 (.seq (.region f28r13 []) (.seq (.seq (.region f28r14 []) (.cond (.s 42) (.exit 3) (.skip))) (.seq (.region f28r15 []) (.seq (.region f28r16 []) (.seq (.seq (.region f28r17 []) (.cond (.s 58) (.seq (.region f28r18 []) (.gh (.fz 105) (.ret))) (.skip))) (.region f28r19 []))))))) (.region f28r20 []))))
/- f28l1: slots [0, 5, 6, 7, 9, 10, 36, 37], tokens [105, 107, 110] -/
def f28r21 : List POp := [
  ⟨some 64, none, [], 0, .r .mv, [.s 5]⟩,
  ⟨some 65, none, [], 0, .r .mv, [.s 9]⟩,
  ⟨some 66, none, [110], 0, .r (.ixa 3 1), [.s 10, .c (.int .i64 0)]⟩,
  ⟨some 67, none, [110], 0, .r .ld1, [.s 66]⟩,
  ⟨some 68, none, [110], 0, .r (.ixa 3 1), [.s 10, .c (.int .i64 1)]⟩,
  ⟨some 69, none, [110], 0, .r .ld1, [.s 68]⟩,
  ⟨some 70, none, [110], 0, .r (.ixa 3 1), [.s 10, .c (.int .i64 2)]⟩,
  ⟨some 71, none, [110], 0, .r .ld1, [.s 70]⟩,
  ⟨some 72, none, [], 0, .r (.build [.int .i64 0, .int .i64 0, .int .i64 0, .int .i64 0] [(0, 1), (1, 1), (2, 1), (3, 1)]), [.s 65, .s 67, .s 69, .s 71]⟩,
  ⟨some 73, none, [173], 173, .a (.bsl 104 4 1 [.int .i64 0, .int .i64 0, .int .i64 0, .int .i64 0] [(0, 4)]), [.s 72]⟩,
  ⟨some 74, none, [105, 173, 174], 174, .app 104 4 32, [.s 64, .s 73]⟩,
  ⟨some 5, none, [], 0, .r .mv, [.s 74]⟩]
def f28r22 : List POp := [
  ⟨some 76, none, [], 0, .r .mv, [.s 0]⟩,
  ⟨some 77, none, [], 0, .r .mv, [.s 6]⟩,
  ⟨some 78, none, [107], 0, .r .ld1, [.s 7]⟩,
  ⟨some 79, none, [], 0, .r .lens, [.s 78]⟩,
  ⟨some 80, none, [], 0, .r (.bin .add), [.s 77, .s 79]⟩,
  ⟨some 81, none, [], 0, .call .f [] [], [.fn 59, .s 76, .s 80]⟩,
  ⟨some 75, none, [], 0, .r .mv, [.s 81]⟩,
  ⟨some 82, none, [], 0, .r (.ext 0), [.s 75]⟩,
  ⟨some 83, none, [], 0, .r (.ext 1), [.s 75]⟩,
  ⟨some 6, none, [], 0, .r .mv, [.s 82]⟩,
  ⟨none, none, [107], 0, .st 1, [.s 7, .s 83]⟩]
def f28l0 : PCode := .gh (.keep [0, 5, 6, 7] [105, 107]) (.seq (.seq (.region f28r5 []) (.cond (.s 25) (.skip) (.exit 0))) (.block 1 (.seq (.region f28r6 []) (.seq (.gh (.fzb 108) (.region f28r7 [])) (.seq (.seq (.region f28r8 []) (.cond (.s 31) (.seq (.region f28r9 []) (.gh (.fz 105) (.ret))) (.skip))) (.seq (.region f28r10 []) (.seq (.seq (.region f28r11 []) (.block 2 (.loop f28l1))) (.seq (.region f28r21 []) (.region f28r22 [])))))))))
/- f28l0: slots [0, 5, 6, 7], tokens [105, 107] -/
def f28r23 : List POp := [
  ⟨some 84, none, [], 0, .r .mv, [.s 6]⟩,
  ⟨some 85, none, [], 0, .r .mv, [.s 0]⟩,
  ⟨some 86, none, [], 0, .r .lens, [.s 85]⟩,
  ⟨some 87, none, [], 0, .r (.bin .lss), [.s 84, .s 86]⟩]
def f28r24 : List POp := [
  ⟨some 88, none, [], 0, .r .mv, [.s 6]⟩,
  ⟨some 2, none, [], 0, .r .mv, [.c (.nils)]⟩,
  ⟨some 3, none, [], 0, .r .mv, [.s 88]⟩,
  ⟨some 4, none, [], 0, .r .mv, [.c (.int .i64 2)]⟩]
def f28r25 : List POp := [
  ⟨some 89, none, [], 0, .r .mv, [.s 5]⟩,
  ⟨some 90, none, [105], 0, .call .f [] [], [.fn 18, .z 89 [some 4]]⟩,
  ⟨some 15, none, [], 0, .r .mv, [.s 90]⟩]
def f28r26 : List POp := [
  ⟨some 91, none, [], 0, .r .mv, [.s 15]⟩,
  ⟨some 92, none, [], 0, .r (.bin .neq), [.s 91, .c (.int .i64 0)]⟩]
def f28r27 : List POp := [
  ⟨some 93, none, [], 0, .r .mv, [.s 15]⟩,
  ⟨some 2, none, [], 0, .r .mv, [.c (.nils)]⟩,
  ⟨some 3, none, [], 0, .r .mv, [.c (.int .i64 0)]⟩,
  ⟨some 4, none, [], 0, .r .mv, [.s 93]⟩]
def f28r28 : List POp := [
  ⟨some 94, none, [], 0, .r .mv, [.s 5]⟩,
  ⟨some 2, none, [], 0, .r .mv, [.s 94]⟩,
  ⟨some 3, none, [], 0, .r .mv, [.c (.int .i64 0)]⟩,
  ⟨some 4, none, [], 0, .r .mv, [.c (.int .i64 0)]⟩]
def f28pc : PCode := .seq (.region f28r0 []) (.seq (.seq (.region f28r1 []) (.cond (.s 18) (.seq (.region f28r2 []) (.gh (.fz 105) (.ret))) (.skip))) (.seq (.region f28r3 []) (.gh (.own 5 105 104 4) (.seq (.region f28r4 []) (.seq (.block 0 (.loop f28l0)) (.seq (.seq (.region f28r23 []) (.cond (.s 87) (.seq (.region f28r24 []) (.gh (.fz 105) (.ret))) (.skip))) (.seq (.seq (.gh (.fz 105) (.region f28r25 [])) (.seq (.region f28r26 []) (.cond (.s 92) (.seq (.region f28r27 []) (.gh (.fz 105) (.ret))) (.skip)))) (.seq (.region f28r28 []) (.gh (.fz 105) (.ret))))))))))
def f28rs : List RArg := [.s 2 [some 4] [105], .s 3 [] [], .s 4 [] []]
/- strings.TrimPrefix : params [9, 9] results [9] tmps 8 resvars [('tmp', 4)] -/
def f74r0 : List POp := [
  ⟨some 4, none, [], 0, .r .mv, [.c (.str [])]⟩]
def f74r1 : List POp := [
  ⟨some 5, none, [], 0, .r .mv, [.s 0]⟩,
  ⟨some 6, none, [], 0, .r .mv, [.s 1]⟩,
  ⟨some 7, none, [], 0, .call .f [] [], [.fn 81, .s 5, .s 6]⟩,
  ⟨some 4, none, [], 0, .r .mv, [.s 7]⟩]
def f74pc : PCode := .seq (.region f74r0 []) (.seq (.region f74r1 []) (.ret))
def f74rs : List RArg := [.s 4 [] []]
/- internal/stringslite.TrimPrefix : params [9, 9] results [9] tmps 13 resvars [('tmp', 4)] -/
def f81r0 : List POp := [
  ⟨some 4, none, [], 0, .r .mv, [.c (.str [])]⟩]
def f81r1 : List POp := [
  ⟨some 5, none, [], 0, .r .mv, [.s 0]⟩,
  ⟨some 6, none, [], 0, .r .mv, [.s 1]⟩,
  ⟨some 7, none, [], 0, .call .f [] [], [.fn 89, .s 5, .s 6]⟩]
def f81r2 : List POp := [
  ⟨some 8, none, [], 0, .r .mv, [.s 0]⟩,
  ⟨some 9, none, [], 0, .r .mv, [.s 1]⟩,
  ⟨some 10, none, [], 0, .r .lens, [.s 9]⟩,
  ⟨some 11, none, [], 0, .r (.sls true false), [.s 8, .s 10]⟩,
  ⟨some 4, none, [], 0, .r .mv, [.s 11]⟩]
def f81r3 : List POp := [
  ⟨some 12, none, [], 0, .r .mv, [.s 0]⟩,
  ⟨some 4, none, [], 0, .r .mv, [.s 12]⟩]
def f81pc : PCode := .seq (.region f81r0 []) (.seq (.seq (.region f81r1 []) (.cond (.s 7) (.seq (.region f81r2 []) (.ret)) (.skip))) (.seq (.region f81r3 []) (.ret)))
def f81rs : List RArg := [.s 4 [] []]
/- internal/stringslite.HasPrefix : params [9, 9] results [4] tmps 18 resvars [('tmp', 4)] -/
def f89r0 : List POp := [
  ⟨some 4, none, [], 0, .r .mv, [.c (.bool false)]⟩]
def f89r1 : List POp := [
  ⟨some 5, none, [], 0, .r .mv, [.s 0]⟩,
  ⟨some 6, none, [], 0, .r .lens, [.s 5]⟩,
  ⟨some 7, none, [], 0, .r .mv, [.s 1]⟩,
  ⟨some 8, none, [], 0, .r .lens, [.s 7]⟩,
  ⟨some 9, none, [], 0, .r (.bin .geq), [.s 6, .s 8]⟩,
  ⟨some 10, none, [], 0, .r .mv, [.s 9]⟩,
  ⟨some 11, (some (10, true)), [], 0, .r .mv, [.s 0]⟩,
  ⟨some 12, (some (10, true)), [], 0, .r .mv, [.s 1]⟩,
  ⟨some 13, (some (10, true)), [], 0, .r .lens, [.s 12]⟩,
  ⟨some 14, (some (10, true)), [], 0, .r (.sls false true), [.s 11, .s 13]⟩,
  ⟨some 15, (some (10, true)), [], 0, .r .mv, [.s 1]⟩,
  ⟨some 16, (some (10, true)), [], 0, .r (.bin .eql), [.s 14, .s 15]⟩,
  ⟨some 17, none, [], 0, .r .pick, [.s 10, .s 16, .c (.bool false)]⟩,
  ⟨some 4, none, [], 0, .r .mv, [.s 17]⟩]
def f89pc : PCode := .seq (.region f89r0 []) (.seq (.region f89r1 []) (.ret))
def f89rs : List RArg := [.s 4 [] []]
/- strings.ContainsFunc : params [9, 153] results [4] tmps 9 resvars [('tmp', 4)] -/
def f75r0 : List POp := [
  ⟨some 4, none, [], 0, .r .mv, [.c (.bool false)]⟩]
def f75r1 : List POp := [
  ⟨some 5, none, [], 0, .r .mv, [.s 0]⟩,
  ⟨some 6, none, [], 0, .r .mv, [.s 1]⟩,
  ⟨some 7, none, [], 0, .call .f [] [], [.fn 82, .s 5, .s 6]⟩,
  ⟨some 8, none, [], 0, .r (.bin .geq), [.s 7, .c (.int .i64 0)]⟩,
  ⟨some 4, none, [], 0, .r .mv, [.s 8]⟩]
def f75pc : PCode := .seq (.region f75r0 []) (.seq (.region f75r1 []) (.ret))
def f75rs : List RArg := [.s 4 [] []]
/- strings.IndexFunc : params [9, 153] results [3] tmps 8 resvars [('tmp', 4)] -/
def f82r0 : List POp := [
  ⟨some 4, none, [], 0, .r .mv, [.c (.int .i64 0)]⟩]
def f82r1 : List POp := [
  ⟨some 5, none, [], 0, .r .mv, [.s 0]⟩,
  ⟨some 6, none, [], 0, .r .mv, [.s 1]⟩,
  ⟨some 7, none, [], 0, .call .f [] [], [.fn 90, .s 5, .s 6, .c (.bool true)]⟩,
  ⟨some 4, none, [], 0, .r .mv, [.s 7]⟩]
def f82pc : PCode := .seq (.region f82r0 []) (.seq (.region f82r1 []) (.ret))
def f82rs : List RArg := [.s 4 [] []]
/- diorama/vm.number$1 : params [21] results [4] tmps 9 resvars [('tmp', 2)] -/
def f76r0 : List POp := [
  ⟨some 2, none, [], 0, .r .mv, [.c (.bool false)]⟩]
def f76r1 : List POp := [
  ⟨some 3, none, [], 0, .r .mv, [.s 0]⟩,
  ⟨some 4, none, [], 0, .r (.bin .lss), [.s 3, .c (.int .i32 48)]⟩,
  ⟨some 5, none, [], 0, .r .mv, [.s 4]⟩,
  ⟨some 6, (some (5, false)), [], 0, .r .mv, [.s 0]⟩,
  ⟨some 7, (some (5, false)), [], 0, .r (.bin .gtr), [.s 6, .c (.int .i32 57)]⟩,
  ⟨some 8, none, [], 0, .r .pick, [.s 5, .c (.bool true), .s 7]⟩,
  ⟨some 2, none, [], 0, .r .mv, [.s 8]⟩]
def f76pc : PCode := .seq (.region f76r0 []) (.seq (.region f76r1 []) (.ret))
def f76rs : List RArg := [.s 2 [] []]
/- strconv.Atoi : params [9] results [3, 124] tmps 18 resvars [('tmp', 2), ('tmp', 3)] -/
def f77r0 : List POp := [
  ⟨some 2, none, [], 0, .r .mv, [.c (.int .i64 0)]⟩,
  ⟨some 3, none, [], 0, .r .mv, [.c (.nili)]⟩]
def f77r1 : List POp := [
  ⟨some 7, none, [], 0, .r .mv, [.s 0]⟩,
  ⟨some 8, none, [], 0, .call .f [] [], [.fn 83, .s 7]⟩,
  ⟨some 6, none, [], 0, .r .mv, [.s 8]⟩,
  ⟨some 9, none, [], 0, .r (.ext 0), [.s 6]⟩,
  ⟨some 10, none, [], 0, .r (.ext 1), [.s 6]⟩,
  ⟨some 4, none, [], 0, .r .mv, [.s 9]⟩,
  ⟨some 5, none, [], 0, .r .mv, [.s 10]⟩]
def f77r2 : List POp := [
  ⟨some 11, none, [], 0, .r .mv, [.s 5]⟩,
  ⟨some 12, none, [], 0, .r (.ieq true), [.s 11, .c (.nili)]⟩]
def f77r3 : List POp := [
  ⟨some 13, none, [], 0, .r .mv, [.s 4]⟩,
  ⟨some 14, none, [], 0, .r .mv, [.s 0]⟩,
  ⟨some 15, none, [], 0, .r .mv, [.s 5]⟩,
  ⟨some 16, none, [], 0, .call .f [] [], [.fn 84, .c (.str [65, 116, 111, 105]), .s 14, .c (.int .i64 0), .c (.int .i64 0), .s 15]⟩,
  ⟨some 2, none, [], 0, .r .mv, [.s 13]⟩,
  ⟨some 3, none, [], 0, .r .mv, [.s 16]⟩]
def f77r4 : List POp := [
  ⟨some 17, none, [], 0, .r .mv, [.s 4]⟩,
  ⟨some 2, none, [], 0, .r .mv, [.s 17]⟩,
  ⟨some 3, none, [], 0, .r .mv, [.c (.nili)]⟩]
def f77pc : PCode := .seq (.region f77r0 []) (.seq (.region f77r1 []) (.seq (.seq (.region f77r2 []) (.cond (.s 12) (.seq (.region f77r3 []) (.ret)) (.skip))) (.seq (.region f77r4 []) (.ret))))
def f77rs : List RArg := [.s 2 [] [], .s 3 [] []]
/- internal/strconv.Atoi : params [9] results [3, 124] tmps 77 resvars [('tmp', 2), ('tmp', 3)] -/
def f83r0 : List POp := [
  ⟨some 2, none, [], 0, .r .mv, [.c (.int .i64 0)]⟩,
  ⟨some 3, none, [], 0, .r .mv, [.c (.nili)]⟩]
def f83r1 : List POp := [
  ⟨some 11, none, [], 0, .r .mv, [.s 0]⟩,
  ⟨some 12, none, [], 0, .r .lens, [.s 11]⟩,
  ⟨some 4, none, [], 0, .r .mv, [.s 12]⟩]
def f83r2 : List POp := [
  ⟨some 13, none, [], 0, .r .mv, [.c (.bool false)]⟩,
  ⟨some 14, (some (13, true)), [], 0, .r .mv, [.s 4]⟩,
  ⟨some 15, (some (13, true)), [], 0, .r (.bin .lss), [.c (.int .i64 0), .s 14]⟩,
  ⟨some 16, (some (13, true)), [], 0, .r .mv, [.s 15]⟩,
  ⟨some 17, (some (16, true)), [], 0, .r .mv, [.s 4]⟩,
  ⟨some 18, (some (16, true)), [], 0, .r (.bin .lss), [.s 17, .c (.int .i64 10)]⟩,
  ⟨some 19, (some (13, true)), [], 0, .r .pick, [.s 16, .s 18, .c (.bool false)]⟩,
  ⟨some 20, none, [], 0, .r .pick, [.s 13, .s 19, .c (.bool false)]⟩,
  ⟨some 21, none, [], 0, .r .mv, [.s 20]⟩,
  ⟨some 22, (some (21, false)), [], 0, .r .mv, [.c (.bool true)]⟩,
  ⟨some 23, (some (22, true)), [], 0, .r .mv, [.s 4]⟩,
  ⟨some 24, (some (22, true)), [], 0, .r (.bin .lss), [.c (.int .i64 0), .s 23]⟩,
  ⟨some 25, (some (22, true)), [], 0, .r .mv, [.s 24]⟩,
  ⟨some 26, (some (25, true)), [], 0, .r .mv, [.s 4]⟩,
  ⟨some 27, (some (25, true)), [], 0, .r (.bin .lss), [.s 26, .c (.int .i64 19)]⟩,
  ⟨some 28, (some (22, true)), [], 0, .r .pick, [.s 25, .s 27, .c (.bool false)]⟩,
  ⟨some 29, (some (21, false)), [], 0, .r .pick, [.s 22, .s 28, .c (.bool false)]⟩,
  ⟨some 30, none, [], 0, .r .pick, [.s 21, .c (.bool true), .s 29]⟩]
def f83r3 : List POp := [
  ⟨some 31, none, [], 0, .r .mv, [.s 0]⟩,
  ⟨some 5, none, [], 0, .r .mv, [.s 31]⟩]
def f83r4 : List POp := [
  ⟨some 32, none, [], 0, .r .mv, [.s 0]⟩,
  ⟨some 33, none, [], 0, .r .ixc, [.s 32, .c (.int .i64 0)]⟩,
  ⟨some 34, none, [], 0, .r (.bin .eql), [.s 33, .c (.int .u8 45)]⟩,
  ⟨some 35, none, [], 0, .r .mv, [.s 34]⟩,
  ⟨some 36, (some (35, false)), [], 0, .r .mv, [.s 0]⟩,
  ⟨some 37, (some (35, false)), [], 0, .r .ixc, [.s 36, .c (.int .i64 0)]⟩,
  ⟨some 38, (some (35, false)), [], 0, .r (.bin .eql), [.s 37, .c (.int .u8 43)]⟩,
  ⟨some 39, none, [], 0, .r .pick, [.s 35, .c (.bool true), .s 38]⟩]
def f83r5 : List POp := [
  ⟨some 40, none, [], 0, .r .mv, [.s 0]⟩,
  ⟨some 41, none, [], 0, .r (.sls true false), [.s 40, .c (.int .i64 1)]⟩,
  ⟨some 0, none, [], 0, .r .mv, [.s 41]⟩]
def f83r6 : List POp := [
  ⟨some 42, none, [], 0, .r .mv, [.s 0]⟩,
  ⟨some 43, none, [], 0, .r .lens, [.s 42]⟩,
  ⟨some 44, none, [], 0, .r (.bin .lss), [.s 43, .c (.int .i64 1)]⟩]
def f83r7 : List POp := [
  ⟨some 45, none, [], 0, .r (.mki 167), [.c (.int .i64 2)]⟩,
  ⟨some 2, none, [], 0, .r .mv, [.c (.int .i64 0)]⟩,
  ⟨some 3, none, [], 0, .r .mv, [.s 45]⟩]
def f83r8 : List POp := [
  ⟨some 6, none, [], 0, .r .mv, [.c (.int .i64 0)]⟩]
def f83r9 : List POp := [
  ⟨some 46, none, [], 0, .r .mv, [.s 0]⟩,
  ⟨some 47, none, [147], 147, .a (.s2b 5), [.s 46]⟩,
  ⟨some 48, none, [147], 0, .r .len, [.s 47]⟩,
  ⟨some 49, none, [], 0, .r .mv, [.c (.int .i64 0)]⟩]
def f83r10 : List POp := [
  ⟨some 50, none, [], 0, .r (.bin .lss), [.s 49, .s 48]⟩]
def f83r11 : List POp := [
  ⟨some 51, none, [147], 0, .r (.ixs 1), [.s 47, .s 49]⟩,
  ⟨some 52, none, [147], 0, .r .ld1, [.s 51]⟩,
  ⟨some 8, none, [], 0, .r .mv, [.s 52]⟩]
def f83r12 : List POp := [
  ⟨some 53, none, [], 0, .r .mv, [.s 8]⟩,
  ⟨some 54, none, [], 0, .r (.bin .sub), [.s 53, .c (.int .u8 48)]⟩,
  ⟨some 8, none, [], 0, .r .mv, [.s 54]⟩]
def f83r13 : List POp := [
  ⟨some 55, none, [], 0, .r .mv, [.s 8]⟩,
  ⟨some 56, none, [], 0, .r (.bin .gtr), [.s 55, .c (.int .u8 9)]⟩]
def f83r14 : List POp := [
  ⟨some 57, none, [], 0, .r (.mki 167), [.c (.int .i64 2)]⟩,
  ⟨some 2, none, [], 0, .r .mv, [.c (.int .i64 0)]⟩,
  ⟨some 3, none, [], 0, .r .mv, [.s 57]⟩]
def f83r15 : List POp := [
  ⟨some 58, none, [], 0, .r .mv, [.s 6]⟩,
  ⟨some 59, none, [], 0, .r (.bin .mul), [.s 58, .c (.int .i64 10)]⟩,
  ⟨some 60, none, [], 0, .r .mv, [.s 8]⟩,
  ⟨some 61, none, [], 0, .r (.cvi .i64), [.s 60]⟩,
  ⟨some 62, none, [], 0, .r (.bin .add), [.s 59, .s 61]⟩,
  ⟨some 6, none, [], 0, .r .mv, [.s 62]⟩]
def f83r16 : List POp := [
  ⟨some 63, none, [], 0, .r (.bin .add), [.s 49, .c (.int .i64 1)]⟩,
  ⟨some 49, none, [], 0, .r .mv, [.s 63]⟩]
def f83l0 : PCode := .gh (.keep [5, 6, 47, 48, 49] [147]) (.seq (.region f83r10 []) (.seq (.cond (.s 50) (.skip) (.exit 0)) (.seq (.block 1 (.seq (.region f83r11 []) (.seq (.region f83r12 []) (.seq (.seq (.region f83r13 []) (.cond (.s 56) (.seq (.region f83r14 []) (.ret)) (.skip))) (.region f83r15 []))))) (.region f83r16 []))))
/- f83l0: slots [5, 6, 47, 48, 49], tokens [147] -/
def f83r17 : List POp := [
  ⟨some 64, none, [], 0, .r .mv, [.s 5]⟩,
  ⟨some 65, none, [], 0, .r .ixc, [.s 64, .c (.int .i64 0)]⟩,
  ⟨some 66, none, [], 0, .r (.bin .eql), [.s 65, .c (.int .u8 45)]⟩]
def f83r18 : List POp := [
  ⟨some 67, none, [], 0, .r .mv, [.s 6]⟩,
  ⟨some 68, none, [], 0, .r (.un .neg), [.s 67]⟩,
  ⟨some 6, none, [], 0, .r .mv, [.s 68]⟩]
def f83r19 : List POp := [
  ⟨some 69, none, [], 0, .r .mv, [.s 6]⟩,
  ⟨some 2, none, [], 0, .r .mv, [.s 69]⟩,
  ⟨some 3, none, [], 0, .r .mv, [.c (.nili)]⟩]
def f83r20 : List POp := [
  ⟨some 71, none, [], 0, .r .mv, [.s 0]⟩,
  ⟨some 72, none, [], 0, .call .f [] [], [.fn 91, .s 71, .c (.int .i64 10), .c (.int .i64 0)]⟩,
  ⟨some 70, none, [], 0, .r .mv, [.s 72]⟩,
  ⟨some 73, none, [], 0, .r (.ext 0), [.s 70]⟩,
  ⟨some 74, none, [], 0, .r (.ext 1), [.s 70]⟩,
  ⟨some 9, none, [], 0, .r .mv, [.s 73]⟩,
  ⟨some 10, none, [], 0, .r .mv, [.s 74]⟩]
def f83r21 : List POp := [
  ⟨some 75, none, [], 0, .r .mv, [.s 9]⟩,
  ⟨some 76, none, [], 0, .r .mv, [.s 10]⟩,
  ⟨some 2, none, [], 0, .r .mv, [.s 75]⟩,
  ⟨some 3, none, [], 0, .r .mv, [.s 76]⟩]
def f83pc : PCode := .seq (.region f83r0 []) (.seq (.region f83r1 []) (.seq (.seq (.region f83r2 []) (.cond (.s 30) (.seq (.region f83r3 []) (.seq (.seq (.region f83r4 []) (.cond (.s 39) (.seq (.region f83r5 []) (.seq (.region f83r6 []) (.cond (.s 44) (.seq (.region f83r7 []) (.ret)) (.skip)))) (.skip))) (.seq (.region f83r8 []) (.seq (.seq (.region f83r9 []) (.block 0 (.loop f83l0))) (.seq (.seq (.region f83r17 []) (.cond (.s 66) (.region f83r18 []) (.skip))) (.seq (.region f83r19 []) (.ret))))))) (.skip))) (.seq (.region f83r20 []) (.seq (.region f83r21 []) (.ret)))))
def f83rs : List RArg := [.s 2 [] [], .s 3 [] []]
end Go.Absw

/- Generated: the abstract texts of functions 42 17 3. -/
namespace Go.Absw
/- diorama/dioramalaw29.ends : params [9, 3, 3] results [4] tmps 58 resvars [('tmp', 6)] -/
def f42r0 : List POp := [
  ⟨some 6, none, [], 0, .r .mv, [.c (.bool false)]⟩]
def f42r1 : List POp := [
  ⟨some 13, none, [], 0, .r (.build [.str [], .str [], .str [], .int .i64 0, .int .i64 0, .int .i64 0, .nils, .nils] [(0, 1)]), [.c (.str [105, 100])]⟩,
  ⟨some 14, none, [114], 114, .az (.bsl 96 8 1 [.str [], .str [], .str [], .int .i64 0, .int .i64 0, .int .i64 0, .nils, .nils] [(0, 8)]), [.z 13 [none, none, none, none, none, none, some 1, some 1]]⟩,
  ⟨some 15, none, [], 0, .r (.build [.str [], .int .i64 0, .int .i64 0, .nils] [(0, 1), (2, 1), (3, 1)]), [.c (.str [97]), .c (.int .i64 2), .s 14]⟩,
  ⟨some 16, none, [116], 116, .az (.bsl 56 4 1 [.str [], .int .i64 0, .int .i64 0, .nils] [(0, 4)]), [.z 15 [none, none, none, some 8]]⟩,
  ⟨some 17, none, [], 0, .r (.build [.int .i64 0, .nils, .nils, .nils] [(1, 1)]), [.s 16]⟩,
  ⟨some 7, none, [107], 107, .a (.alloc 27 [.int .i64 0, .nils, .nils, .nils]), []⟩,
  ⟨none, none, [107], 0, .st 4, [.s 7, .z 17 [none, some 4, some 3, some 5]]⟩]
def f42r2 : List POp := [
  ⟨some 19, none, [], 0, .r .mv, [.s 0]⟩,
  ⟨some 20, none, [], 0, .call .f [] [], [.fn 28, .s 19]⟩,
  ⟨some 18, none, [], 0, .r .mv, [.s 20]⟩,
  ⟨some 21, none, [], 0, .r (.ext 0), [.s 18]⟩,
  ⟨some 22, none, [], 0, .r (.ext 1), [.s 18]⟩,
  ⟨some 23, none, [], 0, .r (.ext 2), [.s 18]⟩,
  ⟨some 8, none, [], 0, .r .mv, [.s 21]⟩,
  ⟨some 9, none, [], 0, .r .mv, [.s 22]⟩,
  ⟨some 10, none, [], 0, .r .mv, [.s 23]⟩]
def f42r3 : List POp := [
  ⟨some 25, none, [107], 0, .r (.ldn 4), [.s 7]⟩,
  ⟨some 26, none, [], 0, .r .mv, [.s 8]⟩,
  ⟨some 27, none, [127], 127, .az (.bsl 3 1 1 [.int .i64 0] [(0, 1)]), [.c (.int .i64 5)]⟩,
  ⟨some 28, none, [128], 128, .az (.bsl 3 1 1 [.int .i64 0] [(0, 1)]), [.c (.int .i64 9)]⟩,
  ⟨some 29, none, [129], 129, .az (.bsl 22 1 2 [.nils] [(0, 1), (1, 1)]), [.z 27 [some 1], .z 28 [some 1]]⟩,
  ⟨some 30, none, [130], 130, .az (.bsl 59 1 1 [.nils] [(0, 1)]), [.z 29 [some 1]]⟩,
  ⟨some 31, none, [], 0, .r (.build [.nils] [(0, 1)]), [.s 30]⟩,
  ⟨some 32, none, [], 0, .r (.mki 46), [.z 31 [some 1]]⟩,
  ⟨some 33, none, [], 0, .call .f [] [], [.fn 14, .z 25 [none, some 4, some 3, some 5], .z 26 [some 4], .s 32, .c (.int .i64 100)]⟩,
  ⟨some 24, none, [], 0, .r .mv, [.s 33]⟩,
  ⟨some 34, none, [], 0, .r (.ext 0), [.s 24]⟩,
  ⟨some 35, none, [], 0, .r (.ext 1), [.s 24]⟩,
  ⟨some 11, none, [111], 111, .a (.alloc 38 [.int .i64 0, .int .i64 0]), []⟩,
  ⟨none, none, [111], 0, .st 2, [.s 11, .s 34]⟩,
  ⟨some 12, none, [], 0, .r .mv, [.s 35]⟩]
def f42r4 : List POp := [
  ⟨some 36, none, [], 0, .r .mv, [.s 10]⟩,
  ⟨some 37, none, [], 0, .r (.bin .eql), [.s 36, .c (.int .i64 0)]⟩,
  ⟨some 38, none, [], 0, .r .mv, [.s 37]⟩,
  ⟨some 39, (some (38, true)), [], 0, .r .mv, [.s 9]⟩,
  ⟨some 40, (some (38, true)), [], 0, .r (.bin .eql), [.s 39, .c (.int .i64 0)]⟩,
  ⟨some 41, none, [], 0, .r .pick, [.s 38, .s 40, .c (.bool false)]⟩,
  ⟨some 42, none, [], 0, .r .mv, [.s 41]⟩,
  ⟨some 43, (some (42, true)), [], 0, .r .mv, [.s 12]⟩,
  ⟨some 44, (some (42, true)), [], 0, .r (.bin .eql), [.s 43, .c (.int .i64 0)]⟩,
  ⟨some 45, none, [], 0, .r .pick, [.s 42, .s 44, .c (.bool false)]⟩,
  ⟨some 46, none, [], 0, .r .mv, [.s 45]⟩,
  ⟨some 47, (some (46, true)), [111], 0, .r (.fad 0), [.s 11]⟩,
  ⟨some 48, (some (46, true)), [111], 0, .r .ld1, [.s 47]⟩,
  ⟨some 49, (some (46, true)), [], 0, .r .mv, [.s 1]⟩,
  ⟨some 50, (some (46, true)), [], 0, .r (.bin .eql), [.s 48, .s 49]⟩,
  ⟨some 51, none, [], 0, .r .pick, [.s 46, .s 50, .c (.bool false)]⟩,
  ⟨some 52, none, [], 0, .r .mv, [.s 51]⟩,
  ⟨some 53, (some (52, true)), [111], 0, .r (.fad 1), [.s 11]⟩,
  ⟨some 54, (some (52, true)), [111], 0, .r .ld1, [.s 53]⟩,
  ⟨some 55, (some (52, true)), [], 0, .r .mv, [.s 2]⟩,
  ⟨some 56, (some (52, true)), [], 0, .r (.bin .eql), [.s 54, .s 55]⟩,
  ⟨some 57, none, [], 0, .r .pick, [.s 52, .s 56, .c (.bool false)]⟩,
  ⟨some 6, none, [], 0, .r .mv, [.s 57]⟩]
def f42pc : PCode := .seq (.region f42r0 []) (.seq (.region f42r1 []) (.seq (.region f42r2 []) (.seq (.region f42r3 []) (.seq (.region f42r4 []) (.ret)))))
def f42rs : List RArg := [.s 6 [] []]
/- diorama/dioramalaw29.lives : params [] results [4] tmps 23 resvars [('tmp', 0)] -/
def f17r0 : List POp := [
  ⟨some 0, none, [], 0, .r .mv, [.c (.bool false)]⟩]
def f17r1 : List POp := [
  ⟨some 4, none, [], 0, .r (.build [.int .i64 0, .nils, .nils, .nils] []), []⟩,
  ⟨some 5, none, [], 0, .r (.build [.int .i64 0, .int .i64 0, .int .i64 0, .int .i64 0] [(0, 1)]), [.c (.int .i64 6)]⟩,
  ⟨some 6, none, [106], 106, .az (.bsl 104 4 1 [.int .i64 0, .int .i64 0, .int .i64 0, .int .i64 0] [(0, 4)]), [.s 5]⟩,
  ⟨some 7, none, [], 0, .r (.build [.nils] []), []⟩,
  ⟨some 8, none, [], 0, .r (.mki 46), [.z 7 [some 1]]⟩,
  ⟨some 9, none, [], 0, .call .f [] [], [.fn 14, .z 4 [none, some 4, some 3, some 5], .z 6 [some 4], .s 8, .c (.int .i64 1000)]⟩,
  ⟨some 3, none, [], 0, .r .mv, [.s 9]⟩,
  ⟨some 10, none, [], 0, .r (.ext 0), [.s 3]⟩,
  ⟨some 11, none, [], 0, .r (.ext 1), [.s 3]⟩,
  ⟨some 1, none, [101], 101, .a (.alloc 38 [.int .i64 0, .int .i64 0]), []⟩,
  ⟨none, none, [101], 0, .st 2, [.s 1, .s 10]⟩,
  ⟨some 2, none, [], 0, .r .mv, [.s 11]⟩]
def f17r2 : List POp := [
  ⟨some 12, none, [], 0, .r .mv, [.s 2]⟩,
  ⟨some 13, none, [], 0, .r (.bin .eql), [.s 12, .c (.int .i64 23)]⟩,
  ⟨some 14, none, [], 0, .r .mv, [.s 13]⟩,
  ⟨some 15, (some (14, true)), [], 0, .call .f [] [], [.fn 42, .c (.str [115, 105, 122, 101, 32, 49, 32, 48, 32, 108, 111, 97, 100, 32, 50, 32, 49, 32, 108, 101, 115, 115, 32, 50, 32, 49, 32, 52, 32, 115, 116, 111, 112, 32, 55, 32, 103, 101, 116, 32, 50, 32, 48, 32, 48, 32, 108, 111, 97, 100, 32, 51, 32, 57, 32, 115, 97, 109, 101, 32, 50, 32, 51, 32, 56, 32, 115, 116, 111, 112, 32, 56, 32, 115, 116, 111, 112, 32, 57]), .c (.int .i64 9), .c (.int .i64 7)]⟩,
  ⟨some 16, none, [], 0, .r .pick, [.s 14, .s 15, .c (.bool false)]⟩,
  ⟨some 17, none, [], 0, .r .mv, [.s 16]⟩,
  ⟨some 18, (some (17, true)), [], 0, .call .f [] [], [.fn 42, .c (.str [103, 101, 116, 32, 48, 32, 48, 32, 48, 32, 115, 116, 111, 112, 32, 51]), .c (.int .i64 3), .c (.int .i64 2)]⟩,
  ⟨some 19, none, [], 0, .r .pick, [.s 17, .s 18, .c (.bool false)]⟩,
  ⟨some 20, none, [], 0, .r .mv, [.s 19]⟩,
  ⟨some 21, (some (20, true)), [], 0, .call .f [] [], [.fn 42, .c (.str [108, 111, 97, 100, 32, 48, 32, 50, 32, 103, 101, 116, 32, 48, 32, 48, 32, 48]), .c (.int .i64 251), .c (.int .i64 2)]⟩,
  ⟨some 22, none, [], 0, .r .pick, [.s 20, .s 21, .c (.bool false)]⟩,
  ⟨some 0, none, [], 0, .r .mv, [.s 22]⟩]
def f17pc : PCode := .seq (.region f17r0 []) (.seq (.region f17r1 []) (.seq (.region f17r2 []) (.ret)))
def f17rs : List RArg := [.s 0 [] []]
/- diorama/dioramalaw29.VmRuns : params [22, 22, 22, 3, 3, 3, 3] results [4] tmps 139 resvars [('tmp', 14)] -/
def f3r0 : List POp := [
  ⟨some 14, none, [], 0, .r .mv, [.c (.bool false)]⟩]
def f3r1 : List POp := [
  ⟨some 31, none, [], 0, .r .mv, [.s 0]⟩,
  ⟨some 32, none, [], 0, .call .f [] [], [.fn 9, .z 31 [some 1]]⟩,
  ⟨some 15, none, [115], 115, .a (.alloc 27 [.int .i64 0, .nils, .nils, .nils]), []⟩,
  ⟨none, none, [115], 0, .st 4, [.s 15, .z 32 [none, some 4, some 3, some 5]]⟩]
def f3r2 : List POp := [
  ⟨some 33, none, [115], 0, .r (.ldn 4), [.s 15]⟩,
  ⟨some 34, none, [], 0, .r .mv, [.s 2]⟩,
  ⟨some 35, none, [], 0, .r .mv, [.s 3]⟩,
  ⟨some 36, none, [], 0, .r (.bin .rem), [.s 35, .c (.int .i64 2)]⟩,
  ⟨some 37, none, [], 0, .r (.bin .eql), [.s 36, .c (.int .i64 0)]⟩,
  ⟨some 38, none, [], 0, .call .f [] [], [.fn 10, .z 33 [none, some 4, some 3, some 5], .z 34 [some 1], .s 37]⟩,
  ⟨some 16, none, [], 0, .r .mv, [.s 38]⟩]
def f3r3 : List POp := [
  ⟨some 39, none, [115], 0, .r (.ldn 4), [.s 15]⟩,
  ⟨some 40, none, [], 0, .r .mv, [.s 1]⟩,
  ⟨some 41, none, [], 0, .call .f [] [], [.fn 11, .z 39 [none, some 4, some 3, some 5], .z 40 [some 1]]⟩,
  ⟨some 17, none, [], 0, .r .mv, [.s 41]⟩]
def f3r4 : List POp := [
  ⟨some 42, none, [], 0, .r .mv, [.s 17]⟩,
  ⟨some 43, none, [], 0, .r .mv, [.s 17]⟩,
  ⟨some 44, none, [], 0, .r .mv, [.s 3]⟩,
  ⟨some 45, none, [], 0, .r .mv, [.s 4]⟩,
  ⟨some 46, none, [], 0, .r .mv, [.s 5]⟩,
  ⟨some 47, none, [], 0, .call .f [] [], [.fn 12, .z 43 [some 4], .s 44, .s 45, .s 46]⟩,
  ⟨some 48, none, [148], 148, .a (.bsl 32 1 2 [.nils] [(0, 1), (1, 1)]), [.z 42 [some 4], .z 47 [some 4]]⟩,
  ⟨some 18, none, [], 0, .r .mv, [.s 48]⟩]
def f3r5 : List POp := [
  ⟨some 49, none, [], 0, .r .mv, [.s 6]⟩,
  ⟨some 50, none, [], 0, .call .f [] [], [.fn 13, .s 49, .c (.int .i64 40)]⟩,
  ⟨some 51, none, [], 0, .r .mv, [.s 6]⟩,
  ⟨some 52, none, [152], 152, .a (.bsl 3 1 4 [.int .i64 0] [(0, 1), (1, 1), (2, 1), (3, 1)]), [.c (.int .i64 (-1)), .c (.int .i64 0), .c (.int .i64 1000001), .s 51]⟩,
  ⟨some 53, none, [], 0, .r .mv, [.s 5]⟩,
  ⟨some 54, none, [], 0, .call .f [] [], [.fn 13, .s 53, .c (.int .i64 4)]⟩,
  ⟨some 55, none, [152], 0, .r (.ixs 1), [.s 52, .s 54]⟩,
  ⟨some 56, none, [152], 0, .r .ld1, [.s 55]⟩,
  ⟨some 57, none, [157], 157, .a (.bsl 3 1 3 [.int .i64 0] [(0, 1), (1, 1), (2, 1)]), [.c (.int .i64 300), .s 50, .s 56]⟩,
  ⟨some 19, none, [], 0, .r .mv, [.s 57]⟩]
def f3r6 : List POp := [
  ⟨some 20, none, [], 0, .r .mv, [.c (.int .i64 0)]⟩]
def f3r7 : List POp := [
  ⟨some 58, none, [], 0, .r .mv, [.s 20]⟩,
  ⟨some 59, none, [], 0, .r (.bin .lss), [.s 58, .c (.int .i64 2)]⟩]
def f3r9 : List POp := [
  ⟨some 21, none, [], 0, .r .mv, [.c (.int .i64 0)]⟩]
def f3r10 : List POp := [
  ⟨some 62, none, [], 0, .r .mv, [.s 21]⟩,
  ⟨some 63, none, [], 0, .r (.bin .lss), [.s 62, .c (.int .i64 3)]⟩]
def f3r12 : List POp := [
  ⟨some 66, none, [], 0, .r .mv, [.s 19]⟩,
  ⟨some 67, none, [], 0, .r .mv, [.s 21]⟩,
  ⟨some 68, none, [157], 0, .r (.ixs 1), [.s 66, .s 67]⟩,
  ⟨some 69, none, [157], 0, .r .ld1, [.s 68]⟩,
  ⟨some 22, none, [], 0, .r .mv, [.s 69]⟩]
def f3r13 : List POp := [
  ⟨some 70, none, [], 0, .r .mv, [.s 22]⟩,
  ⟨some 71, none, [], 0, .r (.bin .gtr), [.s 70, .c (.int .i64 2000)]⟩,
  ⟨some 72, none, [], 0, .r .mv, [.s 71]⟩,
  ⟨some 73, (some (72, true)), [], 0, .r .mv, [.s 22]⟩,
  ⟨some 74, (some (72, true)), [], 0, .r (.bin .leq), [.s 73, .c (.int .i64 1000000)]⟩,
  ⟨some 75, none, [], 0, .r .pick, [.s 72, .s 74, .c (.bool false)]⟩]
def f3r14 : List POp := [
  ⟨some 22, none, [], 0, .r .mv, [.c (.int .i64 2000)]⟩]
def f3r15 : List POp := [
  ⟨some 77, none, [115], 0, .r (.ldn 4), [.s 15]⟩,
  ⟨some 78, none, [], 0, .r .mv, [.s 18]⟩,
  ⟨some 79, none, [], 0, .r .mv, [.s 20]⟩,
  ⟨some 80, none, [148], 0, .r (.ixs 1), [.s 78, .s 79]⟩,
  ⟨some 81, none, [148], 0, .r .ld1, [.s 80]⟩,
  ⟨some 82, none, [], 0, .call .f [] [], [.fn 15, .z 81 [some 4]]⟩,
  ⟨some 83, none, [], 0, .r .mv, [.s 16]⟩,
  ⟨some 84, none, [], 0, .r (.build [.nils] [(0, 1)]), [.s 83]⟩,
  ⟨some 85, none, [], 0, .r (.mki 46), [.z 84 [some 1]]⟩,
  ⟨some 86, none, [], 0, .r .mv, [.s 22]⟩,
  ⟨some 87, none, [], 0, .call .f [] [], [.fn 14, .z 77 [none, some 4, some 3, some 5], .z 82 [some 4], .s 85, .s 86]⟩,
  ⟨some 76, none, [], 0, .r .mv, [.s 87]⟩,
  ⟨some 88, none, [], 0, .r (.ext 0), [.s 76]⟩,
  ⟨some 89, none, [], 0, .r (.ext 1), [.s 76]⟩,
  ⟨some 23, none, [123], 123, .a (.alloc 38 [.int .i64 0, .int .i64 0]), []⟩,
  ⟨none, none, [123], 0, .st 2, [.s 23, .s 88]⟩,
  ⟨some 24, none, [], 0, .r .mv, [.s 89]⟩]
def f3r16 : List POp := [
  ⟨some 91, none, [115], 0, .r (.ldn 4), [.s 15]⟩,
  ⟨some 92, none, [], 0, .r .mv, [.s 18]⟩,
  ⟨some 93, none, [], 0, .r .mv, [.s 20]⟩,
  ⟨some 94, none, [148], 0, .r (.ixs 1), [.s 92, .s 93]⟩,
  ⟨some 95, none, [148], 0, .r .ld1, [.s 94]⟩,
  ⟨some 96, none, [], 0, .r .mv, [.s 16]⟩,
  ⟨some 97, none, [], 0, .r .mv, [.s 22]⟩,
  ⟨some 98, none, [], 0, .call .f [] [], [.fn 16, .z 91 [none, some 4, some 3, some 5], .z 95 [some 4], .z 96 [some 1], .s 97]⟩,
  ⟨some 90, none, [], 0, .r .mv, [.s 98]⟩,
  ⟨some 99, none, [], 0, .r (.ext 0), [.s 90]⟩,
  ⟨some 100, none, [], 0, .r (.ext 1), [.s 90]⟩,
  ⟨some 25, none, [125], 125, .a (.alloc 47 [.int .i64 0, .int .i64 0]), []⟩,
  ⟨none, none, [125], 0, .st 2, [.s 25, .s 99]⟩,
  ⟨some 26, none, [], 0, .r .mv, [.s 100]⟩]
def f3r17 : List POp := [
  ⟨some 101, none, [123], 0, .r (.fad 0), [.s 23]⟩,
  ⟨some 102, none, [123], 0, .r .ld1, [.s 101]⟩,
  ⟨some 103, none, [125], 0, .r (.fad 0), [.s 25]⟩,
  ⟨some 104, none, [125], 0, .r .ld1, [.s 103]⟩,
  ⟨some 105, none, [], 0, .r (.bin .neq), [.s 102, .s 104]⟩,
  ⟨some 106, none, [], 0, .r .mv, [.s 105]⟩,
  ⟨some 107, (some (106, false)), [123], 0, .r (.fad 1), [.s 23]⟩,
  ⟨some 108, (some (106, false)), [123], 0, .r .ld1, [.s 107]⟩,
  ⟨some 109, (some (106, false)), [125], 0, .r (.fad 1), [.s 25]⟩,
  ⟨some 110, (some (106, false)), [125], 0, .r .ld1, [.s 109]⟩,
  ⟨some 111, (some (106, false)), [], 0, .r (.bin .neq), [.s 108, .s 110]⟩,
  ⟨some 112, none, [], 0, .r .pick, [.s 106, .c (.bool true), .s 111]⟩,
  ⟨some 113, none, [], 0, .r .mv, [.s 112]⟩,
  ⟨some 114, (some (113, false)), [], 0, .r .mv, [.s 24]⟩,
  ⟨some 115, (some (113, false)), [], 0, .r .mv, [.s 26]⟩,
  ⟨some 116, (some (113, false)), [], 0, .r (.bin .neq), [.s 114, .s 115]⟩,
  ⟨some 117, none, [], 0, .r .pick, [.s 113, .c (.bool true), .s 116]⟩]
def f3r18 : List POp := [
  ⟨some 14, none, [], 0, .r .mv, [.c (.bool false)]⟩]
def f3r11 : List POp := [
  ⟨some 64, none, [], 0, .r .mv, [.s 21]⟩,
  ⟨some 65, none, [], 0, .r (.bin .add), [.s 64, .c (.int .i64 1)]⟩,
  ⟨some 21, none, [], 0, .r .mv, [.s 65]⟩]
def f3l1 : PCode := .gh (.keep [15, 16, 17, 18, 19, 20, 21] [115, 148, 157]) (.seq (.seq (.region f3r10 []) (.cond (.s 63) (.skip) (.exit 2))) (.seq (.block 3 (.seq (.region f3r12 []) (.seq (.seq (.region f3r13 []) (.cond (.s 75) (.region f3r14 []) (.skip))) (.gh (.keep [15, 16, 17, 18, 19, 20, 21, 22] [115, 148, 157]) (.seq (.region f3r15 [[], [], [], [1, 2], [1, 2, 3], [1, 2, 3, 4], [], [6], [6, 7], [], [0, 1, 2, 3, 4, 5, 6, 7, 8, 9], [0, 1, 2, 3, 4, 5, 6, 7, 8, 9, 10], [0, 1, 2, 3, 4, 5, 6, 7, 8, 9, 10, 11], [0, 1, 2, 3, 4, 5, 6, 7, 8, 9, 10, 11], [], [0, 1, 2, 3, 4, 5, 6, 7, 8, 9, 10, 11, 12, 14], [0, 1, 2, 3, 4, 5, 6, 7, 8, 9, 10, 11, 12, 13, 14, 15]]) (.seq (.region f3r16 [[], [], [], [1, 2], [1, 2, 3], [], [], [0, 1, 2, 3, 4, 5, 6], [0, 1, 2, 3, 4, 5, 6, 7], [0, 1, 2, 3, 4, 5, 6, 7, 8], [0, 1, 2, 3, 4, 5, 6, 7, 8], [], [0, 1, 2, 3, 4, 5, 6, 7, 8, 9, 11], [0, 1, 2, 3, 4, 5, 6, 7, 8, 9, 10, 11, 12]]) (.seq (.region f3r17 []) (.cond (.s 117) (.seq (.region f3r18 []) (.ret)) (.skip))))))))) (.region f3r11 [])))
/- f3l1: slots [15, 16, 17, 18, 19, 20, 21], tokens [115, 148, 157] -/
def f3r8 : List POp := [
  ⟨some 60, none, [], 0, .r .mv, [.s 20]⟩,
  ⟨some 61, none, [], 0, .r (.bin .add), [.s 60, .c (.int .i64 1)]⟩,
  ⟨some 20, none, [], 0, .r .mv, [.s 61]⟩]
def f3l0 : PCode := .gh (.keep [15, 16, 17, 18, 19, 20] [115, 148, 157]) (.seq (.seq (.region f3r7 []) (.cond (.s 59) (.skip) (.exit 0))) (.seq (.block 1 (.seq (.region f3r9 []) (.block 2 (.loop f3l1)))) (.region f3r8 [])))
/- f3l0: slots [15, 16, 17, 18, 19, 20], tokens [115, 148, 157] -/
def f3r19 : List POp := [
  ⟨some 119, none, [], 0, .r (.build [.int .i64 0, .nils, .nils, .nils] []), []⟩,
  ⟨some 120, none, [], 0, .r .mv, [.s 17]⟩,
  ⟨some 121, none, [], 0, .call .f [] [], [.fn 15, .z 120 [some 4]]⟩,
  ⟨some 122, none, [], 0, .r (.build [.nils] []), []⟩,
  ⟨some 123, none, [], 0, .r (.mki 46), [.z 122 [some 1]]⟩,
  ⟨some 124, none, [], 0, .call .f [] [], [.fn 14, .z 119 [none, some 4, some 3, some 5], .z 121 [some 4], .s 123, .c (.int .i64 10)]⟩,
  ⟨some 118, none, [], 0, .r .mv, [.s 124]⟩,
  ⟨some 125, none, [], 0, .r (.ext 0), [.s 118]⟩,
  ⟨some 126, none, [], 0, .r (.ext 1), [.s 118]⟩,
  ⟨some 27, none, [127], 127, .a (.alloc 38 [.int .i64 0, .int .i64 0]), []⟩,
  ⟨none, none, [127], 0, .st 2, [.s 27, .s 125]⟩,
  ⟨some 28, none, [], 0, .r .mv, [.s 126]⟩]
def f3r20 : List POp := [
  ⟨some 128, none, [], 0, .r (.build [.int .i64 0, .nils, .nils, .nils] []), []⟩,
  ⟨some 129, none, [], 0, .r .mv, [.s 17]⟩,
  ⟨some 130, none, [], 0, .call .f [] [], [.fn 16, .z 128 [none, some 4, some 3, some 5], .z 129 [some 4], .c (.nils), .c (.int .i64 10)]⟩,
  ⟨some 127, none, [], 0, .r .mv, [.s 130]⟩,
  ⟨some 131, none, [], 0, .r (.ext 0), [.s 127]⟩,
  ⟨some 132, none, [], 0, .r (.ext 1), [.s 127]⟩,
  ⟨some 29, none, [129], 129, .a (.alloc 47 [.int .i64 0, .int .i64 0]), []⟩,
  ⟨none, none, [129], 0, .st 2, [.s 29, .s 131]⟩,
  ⟨some 30, none, [], 0, .r .mv, [.s 132]⟩]
def f3r21 : List POp := [
  ⟨some 133, none, [], 0, .r .mv, [.s 28]⟩,
  ⟨some 134, none, [], 0, .r .mv, [.s 30]⟩,
  ⟨some 135, none, [], 0, .r (.bin .eql), [.s 133, .s 134]⟩,
  ⟨some 136, none, [], 0, .r .mv, [.s 135]⟩,
  ⟨some 137, (some (136, true)), [], 0, .call .f [] [], [.fn 17]⟩,
  ⟨some 138, none, [], 0, .r .pick, [.s 136, .s 137, .c (.bool false)]⟩,
  ⟨some 14, none, [], 0, .r .mv, [.s 138]⟩]
def f3pc : PCode := .seq (.region f3r0 []) (.seq (.region f3r1 []) (.seq (.region f3r2 []) (.seq (.region f3r3 []) (.seq (.region f3r4 []) (.seq (.region f3r5 []) (.seq (.seq (.region f3r6 []) (.block 0 (.loop f3l0))) (.seq (.region f3r19 []) (.seq (.region f3r20 []) (.seq (.region f3r21 []) (.ret))))))))))
def f3rs : List RArg := [.s 14 [] []]
end Go.Absw
