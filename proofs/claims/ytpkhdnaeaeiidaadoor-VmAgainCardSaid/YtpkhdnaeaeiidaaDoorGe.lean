/- Generated: the abstract texts of functions, third part. Conditions: none. -/
import Derived.Test.YtpkhdnaeaeiidaaDoorKc
set_option linter.unusedSimpArgs false
set_option linter.unusedVariables false

/- Generated: the abstract texts of functions 47 49 48 50 21 22 20. -/
namespace Go.Absw
/- diorama/wire.Int : params [3] results [63] tmps 47 resvars [('tmp', 2)] -/
def f47r0 : List POp := [
  ⟨some 2, none, [], 0, .r .mv, [.c (.nils)]⟩]
def f47r1 : List POp := [
  ⟨some 8, none, [], 0, .r .mv, [.s 0]⟩,
  ⟨some 9, none, [], 0, .r (.cvi .u64), [.s 8]⟩,
  ⟨some 3, none, [], 0, .r .mv, [.s 9]⟩,
  ⟨some 4, none, [], 0, .r .mv, [.c (.int .u8 0)]⟩]
def f47r2 : List POp := [
  ⟨some 10, none, [], 0, .r .mv, [.s 0]⟩,
  ⟨some 11, none, [], 0, .r (.bin .lss), [.s 10, .c (.int .i64 0)]⟩]
def f47r3 : List POp := [
  ⟨some 12, none, [], 0, .r .mv, [.s 3]⟩,
  ⟨some 13, none, [], 0, .r (.un .xor), [.s 12]⟩,
  ⟨some 3, none, [], 0, .r .mv, [.s 13]⟩,
  ⟨some 4, none, [], 0, .r .mv, [.c (.int .u8 255)]⟩]
def f47r4 : List POp := [
  ⟨some 5, none, [], 0, .r .mv, [.c (.int .i64 8)]⟩]
def f47r5 : List POp := [
  ⟨some 14, none, [], 0, .r .mv, [.s 5]⟩,
  ⟨some 15, none, [], 0, .r (.bin .gtr), [.s 14, .c (.int .i64 0)]⟩]
def f47r6 : List POp := [
  ⟨some 16, none, [], 0, .r .mv, [.s 3]⟩,
  ⟨some 17, none, [], 0, .r .mv, [.s 5]⟩,
  ⟨some 18, none, [], 0, .r (.bin .sub), [.s 17, .c (.int .i64 1)]⟩,
  ⟨some 19, none, [], 0, .r (.bin .mul), [.c (.int .i64 8), .s 18]⟩,
  ⟨some 20, none, [], 0, .r (.bin .shr), [.s 16, .s 19]⟩,
  ⟨some 21, none, [], 0, .r (.bin .gtr), [.s 20, .c (.int .u64 0)]⟩]
def f47r7 : List POp := [
  ⟨some 22, none, [], 0, .r .mv, [.s 5]⟩,
  ⟨some 23, none, [], 0, .r (.bin .sub), [.s 22, .c (.int .i64 1)]⟩,
  ⟨some 5, none, [], 0, .r .mv, [.s 23]⟩]
def f47l0 : PCode := .gh (.keep [3, 4, 5] []) (.seq (.seq (.region f47r5 []) (.cond (.s 15) (.skip) (.exit 0))) (.block 1 (.seq (.seq (.region f47r6 []) (.cond (.s 21) (.exit 0) (.skip))) (.region f47r7 []))))
/- f47l0: slots [3, 4, 5], tokens [] -/
def f47r8 : List POp := [
  ⟨some 24, none, [], 0, .r .mv, [.s 5]⟩,
  ⟨some 25, none, [], 0, .r (.bin .add), [.c (.int .i64 128), .s 24]⟩,
  ⟨some 26, none, [], 0, .r (.cvi .u8), [.s 25]⟩,
  ⟨some 27, none, [], 0, .r .mv, [.s 4]⟩,
  ⟨some 28, none, [], 0, .r (.bin .xor), [.s 26, .s 27]⟩,
  ⟨some 29, none, [129], 129, .a (.bsl 5 1 1 [.int .u8 0] [(0, 1)]), [.s 28]⟩,
  ⟨some 6, none, [], 0, .r .mv, [.s 29]⟩]
def f47r9 : List POp := [
  ⟨some 30, none, [], 0, .r .mv, [.s 5]⟩,
  ⟨some 31, none, [], 0, .r (.bin .sub), [.s 30, .c (.int .i64 1)]⟩,
  ⟨some 7, none, [], 0, .r .mv, [.s 31]⟩]
def f47r10 : List POp := [
  ⟨some 32, none, [], 0, .r .mv, [.s 7]⟩,
  ⟨some 33, none, [], 0, .r (.bin .geq), [.s 32, .c (.int .i64 0)]⟩]
def f47r12 : List POp := [
  ⟨some 36, none, [], 0, .r .mv, [.s 6]⟩,
  ⟨some 37, none, [], 0, .r .mv, [.s 3]⟩,
  ⟨some 38, none, [], 0, .r .mv, [.s 7]⟩,
  ⟨some 39, none, [], 0, .r (.bin .mul), [.c (.int .i64 8), .s 38]⟩,
  ⟨some 40, none, [], 0, .r (.bin .shr), [.s 37, .s 39]⟩,
  ⟨some 41, none, [], 0, .r (.cvi .u8), [.s 40]⟩,
  ⟨some 42, none, [], 0, .r .mv, [.s 4]⟩,
  ⟨some 43, none, [], 0, .r (.bin .xor), [.s 41, .s 42]⟩,
  ⟨some 44, none, [144], 144, .a (.bsl 5 1 1 [.int .u8 0] [(0, 1)]), [.s 43]⟩,
  ⟨some 45, none, [129, 144, 145], 145, .app 5 1 1, [.s 36, .s 44]⟩,
  ⟨some 6, none, [], 0, .r .mv, [.s 45]⟩]
def f47r11 : List POp := [
  ⟨some 34, none, [], 0, .r .mv, [.s 7]⟩,
  ⟨some 35, none, [], 0, .r (.bin .sub), [.s 34, .c (.int .i64 1)]⟩,
  ⟨some 7, none, [], 0, .r .mv, [.s 35]⟩]
def f47l1 : PCode := .gh (.keep [3, 4, 6, 7] [129]) (.seq (.seq (.region f47r10 []) (.cond (.s 33) (.skip) (.exit 2))) (.seq (.block 3 (.region f47r12 [])) (.region f47r11 [])))
/- f47l1: slots [3, 4, 6, 7], tokens [129] -/
def f47r13 : List POp := [
  ⟨some 46, none, [], 0, .r .mv, [.s 6]⟩,
  ⟨some 2, none, [], 0, .r .mv, [.s 46]⟩]
def f47pc : PCode := .seq (.region f47r0 []) (.scope (.seq (.region f47r1 []) (.seq (.seq (.region f47r2 []) (.cond (.s 11) (.region f47r3 []) (.skip))) (.gh (.keep [3, 4] []) (.seq (.region f47r4 []) (.seq (.skip) (.seq (.block 0 (.loop f47l0)) (.seq (.region f47r8 []) (.seq (.seq (.region f47r9 []) (.block 2 (.loop f47l1))) (.seq (.region f47r13 []) (.ret)))))))))))
def f47rs : List RArg := [.s 2 [] []]
/- diorama/dioramaref01.Int : params [3] results [63] tmps 59 resvars [('tmp', 2)] -/
def f49r0 : List POp := [
  ⟨some 2, none, [], 0, .r .mv, [.c (.nils)]⟩]
def f49r1 : List POp := [
  ⟨some 9, none, [], 0, .r .mv, [.s 0]⟩,
  ⟨some 3, none, [], 0, .r .mv, [.s 9]⟩]
def f49r2 : List POp := [
  ⟨some 10, none, [], 0, .r .mv, [.s 0]⟩,
  ⟨some 11, none, [], 0, .r (.bin .lss), [.s 10, .c (.int .i64 0)]⟩]
def f49r3 : List POp := [
  ⟨some 12, none, [], 0, .r .mv, [.s 0]⟩,
  ⟨some 13, none, [], 0, .r (.bin .sub), [.c (.int .i64 (-1)), .s 12]⟩,
  ⟨some 3, none, [], 0, .r .mv, [.s 13]⟩]
def f49r4 : List POp := [
  ⟨some 4, none, [], 0, .r .mv, [.c (.nils)]⟩]
def f49r5 : List POp := [
  ⟨some 14, none, [], 0, .r .mv, [.s 3]⟩,
  ⟨some 15, none, [], 0, .r (.bin .gtr), [.s 14, .c (.int .i64 0)]⟩]
def f49r6 : List POp := [
  ⟨some 16, none, [], 0, .r .mv, [.s 4]⟩,
  ⟨some 17, none, [], 0, .r .mv, [.s 3]⟩,
  ⟨some 18, none, [], 0, .r (.bin .rem), [.s 17, .c (.int .i64 256)]⟩,
  ⟨some 19, none, [], 0, .r (.cvi .u8), [.s 18]⟩,
  ⟨some 20, none, [120], 120, .a (.bsl 5 1 1 [.int .u8 0] [(0, 1)]), [.s 19]⟩,
  ⟨some 21, none, [104, 120, 121], 121, .app 5 1 1, [.s 16, .s 20]⟩,
  ⟨some 4, none, [], 0, .r .mv, [.s 21]⟩]
def f49r7 : List POp := [
  ⟨some 22, none, [], 0, .r .mv, [.s 3]⟩,
  ⟨some 23, none, [], 0, .r (.bin .quo), [.s 22, .c (.int .i64 256)]⟩,
  ⟨some 3, none, [], 0, .r .mv, [.s 23]⟩]
def f49l0 : PCode := .gh (.keep [0, 3, 4] [104]) (.seq (.seq (.region f49r5 []) (.cond (.s 15) (.skip) (.exit 0))) (.block 1 (.seq (.region f49r6 []) (.region f49r7 []))))
/- f49l0: slots [0, 3, 4], tokens [104] -/
def f49r8 : List POp := [
  ⟨some 24, none, [], 0, .r .mv, [.s 4]⟩,
  ⟨some 25, none, [104], 0, .r .len, [.s 24]⟩,
  ⟨some 5, none, [], 0, .r .mv, [.s 25]⟩]
def f49r9 : List POp := [
  ⟨some 6, none, [], 0, .r .mv, [.c (.nils)]⟩]
def f49r10 : List POp := [
  ⟨some 26, none, [], 0, .r .mv, [.s 0]⟩,
  ⟨some 27, none, [], 0, .r (.bin .geq), [.s 26, .c (.int .i64 0)]⟩]
def f49r11 : List POp := [
  ⟨some 28, none, [], 0, .r .mv, [.s 6]⟩,
  ⟨some 29, none, [], 0, .r .mv, [.s 5]⟩,
  ⟨some 30, none, [], 0, .r (.bin .add), [.c (.int .i64 128), .s 29]⟩,
  ⟨some 31, none, [], 0, .r (.cvi .u8), [.s 30]⟩,
  ⟨some 32, none, [132], 132, .a (.bsl 5 1 1 [.int .u8 0] [(0, 1)]), [.s 31]⟩,
  ⟨some 33, none, [106, 132, 133], 133, .app 5 1 1, [.s 28, .s 32]⟩,
  ⟨some 6, none, [], 0, .r .mv, [.s 33]⟩]
def f49r12 : List POp := [
  ⟨some 34, none, [], 0, .r .mv, [.s 6]⟩,
  ⟨some 35, none, [], 0, .r .mv, [.s 5]⟩,
  ⟨some 36, none, [], 0, .r (.bin .sub), [.c (.int .i64 127), .s 35]⟩,
  ⟨some 37, none, [], 0, .r (.cvi .u8), [.s 36]⟩,
  ⟨some 38, none, [138], 138, .a (.bsl 5 1 1 [.int .u8 0] [(0, 1)]), [.s 37]⟩,
  ⟨some 39, none, [106, 138, 139], 139, .app 5 1 1, [.s 34, .s 38]⟩,
  ⟨some 6, none, [], 0, .r .mv, [.s 39]⟩]
def f49r13 : List POp := [
  ⟨some 40, none, [], 0, .r .mv, [.s 5]⟩,
  ⟨some 41, none, [], 0, .r (.bin .sub), [.s 40, .c (.int .i64 1)]⟩,
  ⟨some 7, none, [], 0, .r .mv, [.s 41]⟩]
def f49r14 : List POp := [
  ⟨some 42, none, [], 0, .r .mv, [.s 7]⟩,
  ⟨some 43, none, [], 0, .r (.bin .geq), [.s 42, .c (.int .i64 0)]⟩]
def f49r16 : List POp := [
  ⟨some 46, none, [], 0, .r .mv, [.s 4]⟩,
  ⟨some 47, none, [], 0, .r .mv, [.s 7]⟩,
  ⟨some 48, none, [104], 0, .r (.ixs 1), [.s 46, .s 47]⟩,
  ⟨some 49, none, [104], 0, .r .ld1, [.s 48]⟩,
  ⟨some 8, none, [], 0, .r .mv, [.s 49]⟩]
def f49r17 : List POp := [
  ⟨some 50, none, [], 0, .r .mv, [.s 0]⟩,
  ⟨some 51, none, [], 0, .r (.bin .lss), [.s 50, .c (.int .i64 0)]⟩]
def f49r18 : List POp := [
  ⟨some 52, none, [], 0, .r .mv, [.s 8]⟩,
  ⟨some 53, none, [], 0, .r (.bin .sub), [.c (.int .u8 255), .s 52]⟩,
  ⟨some 8, none, [], 0, .r .mv, [.s 53]⟩]
def f49r19 : List POp := [
  ⟨some 54, none, [], 0, .r .mv, [.s 6]⟩,
  ⟨some 55, none, [], 0, .r .mv, [.s 8]⟩,
  ⟨some 56, none, [156], 156, .a (.bsl 5 1 1 [.int .u8 0] [(0, 1)]), [.s 55]⟩,
  ⟨some 57, none, [106, 156, 157], 157, .app 5 1 1, [.s 54, .s 56]⟩,
  ⟨some 6, none, [], 0, .r .mv, [.s 57]⟩]
def f49r15 : List POp := [
  ⟨some 44, none, [], 0, .r .mv, [.s 7]⟩,
  ⟨some 45, none, [], 0, .r (.bin .sub), [.s 44, .c (.int .i64 1)]⟩,
  ⟨some 7, none, [], 0, .r .mv, [.s 45]⟩]
def f49l1 : PCode := .gh (.keep [0, 4, 6, 7] [104, 106]) (.seq (.seq (.region f49r14 []) (.cond (.s 43) (.skip) (.exit 2))) (.seq (.block 3 (.seq (.region f49r16 []) (.seq (.seq (.region f49r17 []) (.cond (.s 51) (.region f49r18 []) (.skip))) (.gh (.keep [0, 4, 6, 7, 8] [104, 106]) (.region f49r19 []))))) (.region f49r15 [])))
/- f49l1: slots [0, 4, 6, 7], tokens [104, 106] -/
def f49r20 : List POp := [
  ⟨some 58, none, [], 0, .r .mv, [.s 6]⟩,
  ⟨some 2, none, [], 0, .r .mv, [.s 58]⟩]
def f49pc : PCode := .seq (.region f49r0 []) (.seq (.region f49r1 []) (.seq (.seq (.region f49r2 []) (.cond (.s 11) (.region f49r3 []) (.skip))) (.gh (.keep [0, 3] []) (.seq (.region f49r4 []) (.gh (.own 4 104 5 1) (.seq (.block 0 (.loop f49l0)) (.seq (.region f49r8 []) (.seq (.region f49r9 []) (.gh (.own 6 106 5 1) (.seq (.seq (.region f49r10 []) (.cond (.s 27) (.region f49r11 []) (.region f49r12 []))) (.gh (.keep [0, 4, 5, 6] [104, 106]) (.seq (.seq (.region f49r13 []) (.block 2 (.loop f49l1))) (.seq (.region f49r20 []) (.ret))))))))))))))
def f49rs : List RArg := [.s 2 [] []]
/- diorama/wire.Ints : params [22] results [63] tmps 21 resvars [('tmp', 2)] -/
def f48r0 : List POp := [
  ⟨some 2, none, [], 0, .r .mv, [.c (.nils)]⟩]
def f48r1 : List POp := [
  ⟨some 6, none, [], 0, .r .mv, [.s 0]⟩,
  ⟨some 7, none, [], 0, .r .len, [.s 6]⟩,
  ⟨some 8, none, [108], 0, .call .f [] [108], [.fn 47, .s 7]⟩,
  ⟨some 3, none, [], 0, .r .mv, [.s 8]⟩]
def f48r2 : List POp := [
  ⟨some 9, none, [], 0, .r .mv, [.s 0]⟩,
  ⟨some 10, none, [], 0, .r .len, [.s 9]⟩,
  ⟨some 11, none, [], 0, .r .mv, [.c (.int .i64 0)]⟩]
def f48r3 : List POp := [
  ⟨some 12, none, [], 0, .r (.bin .lss), [.s 11, .s 10]⟩]
def f48r4 : List POp := [
  ⟨some 13, none, [], 0, .r (.ixs 1), [.s 9, .s 11]⟩,
  ⟨some 14, none, [], 0, .r .ld1, [.s 13]⟩,
  ⟨some 5, none, [], 0, .r .mv, [.s 14]⟩]
def f48r5 : List POp := [
  ⟨some 15, none, [], 0, .r .mv, [.s 3]⟩,
  ⟨some 16, none, [], 0, .r .mv, [.s 5]⟩,
  ⟨some 17, none, [117], 0, .call .f [] [117], [.fn 47, .s 16]⟩,
  ⟨some 18, none, [108, 117, 118], 118, .app 5 1 1, [.s 15, .s 17]⟩,
  ⟨some 3, none, [], 0, .r .mv, [.s 18]⟩]
def f48r6 : List POp := [
  ⟨some 19, none, [], 0, .r (.bin .add), [.s 11, .c (.int .i64 1)]⟩,
  ⟨some 11, none, [], 0, .r .mv, [.s 19]⟩]
def f48l0 : PCode := .gh (.keep [3, 9, 10, 11] [108]) (.seq (.region f48r3 []) (.seq (.cond (.s 12) (.skip) (.exit 0)) (.seq (.block 1 (.seq (.region f48r4 []) (.region f48r5 []))) (.region f48r6 []))))
/- f48l0: slots [3, 9, 10, 11], tokens [108] -/
def f48r7 : List POp := [
  ⟨some 20, none, [], 0, .r .mv, [.s 3]⟩,
  ⟨some 2, none, [], 0, .r .mv, [.s 20]⟩]
def f48pc : PCode := .seq (.region f48r0 []) (.seq (.region f48r1 []) (.seq (.seq (.region f48r2 []) (.block 0 (.loop f48l0))) (.seq (.region f48r7 []) (.gh (.fz 108) (.ret)))))
def f48rs : List RArg := [.s 2 [some 1] [108]]
/- diorama/dioramaref01.Ints : params [22] results [63] tmps 22 resvars [('tmp', 2)] -/
def f50r0 : List POp := [
  ⟨some 2, none, [], 0, .r .mv, [.c (.nils)]⟩]
def f50r1 : List POp := [
  ⟨some 5, none, [], 0, .r .mv, [.s 0]⟩,
  ⟨some 6, none, [], 0, .r .len, [.s 5]⟩,
  ⟨some 7, none, [107], 0, .call .f [] [107], [.fn 49, .s 6]⟩,
  ⟨some 3, none, [], 0, .r .mv, [.s 7]⟩]
def f50r2 : List POp := [
  ⟨some 4, none, [], 0, .r .mv, [.c (.int .i64 0)]⟩]
def f50r3 : List POp := [
  ⟨some 8, none, [], 0, .r .mv, [.s 4]⟩,
  ⟨some 9, none, [], 0, .r .mv, [.s 0]⟩,
  ⟨some 10, none, [], 0, .r .len, [.s 9]⟩,
  ⟨some 11, none, [], 0, .r (.bin .lss), [.s 8, .s 10]⟩]
def f50r5 : List POp := [
  ⟨some 14, none, [], 0, .r .mv, [.s 3]⟩,
  ⟨some 15, none, [], 0, .r .mv, [.s 0]⟩,
  ⟨some 16, none, [], 0, .r .mv, [.s 4]⟩,
  ⟨some 17, none, [], 0, .r (.ixs 1), [.s 15, .s 16]⟩,
  ⟨some 18, none, [], 0, .r .ld1, [.s 17]⟩,
  ⟨some 19, none, [119], 0, .call .f [] [119], [.fn 49, .s 18]⟩,
  ⟨some 20, none, [107, 119, 120], 120, .app 5 1 1, [.s 14, .s 19]⟩,
  ⟨some 3, none, [], 0, .r .mv, [.s 20]⟩]
def f50r4 : List POp := [
  ⟨some 12, none, [], 0, .r .mv, [.s 4]⟩,
  ⟨some 13, none, [], 0, .r (.bin .add), [.s 12, .c (.int .i64 1)]⟩,
  ⟨some 4, none, [], 0, .r .mv, [.s 13]⟩]
def f50l0 : PCode := .gh (.keep [0, 3, 4] [107]) (.seq (.seq (.region f50r3 []) (.cond (.s 11) (.skip) (.exit 0))) (.seq (.block 1 (.region f50r5 [])) (.region f50r4 [])))
/- f50l0: slots [0, 3, 4], tokens [107] -/
def f50r6 : List POp := [
  ⟨some 21, none, [], 0, .r .mv, [.s 3]⟩,
  ⟨some 2, none, [], 0, .r .mv, [.s 21]⟩]
def f50pc : PCode := .seq (.region f50r0 []) (.seq (.region f50r1 []) (.seq (.seq (.region f50r2 []) (.block 0 (.loop f50l0))) (.seq (.region f50r6 []) (.gh (.fz 107) (.ret)))))
def f50rs : List RArg := [.s 2 [some 1] [107]]
/- diorama/vm.Encode : params [43] results [63] tmps 29 resvars [('tmp', 2)] -/
def f21r0 : List POp := [
  ⟨some 2, none, [], 0, .r .mv, [.c (.nils)]⟩]
def f21r1 : List POp := [
  ⟨some 6, none, [], 0, .r .mv, [.s 0]⟩,
  ⟨some 7, none, [], 0, .r .len, [.s 6]⟩,
  ⟨some 8, none, [108], 0, .call .f [] [108], [.fn 47, .s 7]⟩,
  ⟨some 3, none, [], 0, .r .mv, [.s 8]⟩]
def f21r2 : List POp := [
  ⟨some 9, none, [], 0, .r .mv, [.s 0]⟩,
  ⟨some 10, none, [], 0, .r .len, [.s 9]⟩,
  ⟨some 11, none, [], 0, .r .mv, [.c (.int .i64 0)]⟩]
def f21r3 : List POp := [
  ⟨some 12, none, [], 0, .r (.bin .lss), [.s 11, .s 10]⟩]
def f21r4 : List POp := [
  ⟨some 13, none, [], 0, .r (.ixs 4), [.s 9, .s 11]⟩,
  ⟨some 14, none, [], 0, .r (.ldn 4), [.s 13]⟩,
  ⟨some 5, none, [105], 105, .a (.alloc 104 [.int .i64 0, .int .i64 0, .int .i64 0, .int .i64 0]), []⟩,
  ⟨none, none, [105], 0, .st 4, [.s 5, .s 14]⟩]
def f21r5 : List POp := [
  ⟨some 15, none, [], 0, .r .mv, [.s 3]⟩,
  ⟨some 16, none, [105], 0, .r (.fad 0), [.s 5]⟩,
  ⟨some 17, none, [105], 0, .r .ld1, [.s 16]⟩,
  ⟨some 18, none, [105], 0, .r (.fad 1), [.s 5]⟩,
  ⟨some 19, none, [105], 0, .r .ld1, [.s 18]⟩,
  ⟨some 20, none, [105], 0, .r (.fad 2), [.s 5]⟩,
  ⟨some 21, none, [105], 0, .r .ld1, [.s 20]⟩,
  ⟨some 22, none, [105], 0, .r (.fad 3), [.s 5]⟩,
  ⟨some 23, none, [105], 0, .r .ld1, [.s 22]⟩,
  ⟨some 24, none, [124], 124, .az (.bsl 3 1 4 [.int .i64 0] [(0, 1), (1, 1), (2, 1), (3, 1)]), [.s 17, .s 19, .s 21, .s 23]⟩,
  ⟨some 25, none, [], 0, .call .f [] [], [.fn 48, .z 24 [some 1]]⟩,
  ⟨some 26, none, [108, 126], 126, .app 5 1 1, [.s 15, .s 25]⟩,
  ⟨some 3, none, [], 0, .r .mv, [.s 26]⟩]
def f21r6 : List POp := [
  ⟨some 27, none, [], 0, .r (.bin .add), [.s 11, .c (.int .i64 1)]⟩,
  ⟨some 11, none, [], 0, .r .mv, [.s 27]⟩]
def f21l0 : PCode := .gh (.keep [3, 9, 10, 11] [108]) (.seq (.region f21r3 []) (.seq (.cond (.s 12) (.skip) (.exit 0)) (.seq (.block 1 (.seq (.region f21r4 []) (.region f21r5 []))) (.region f21r6 []))))
/- f21l0: slots [3, 9, 10, 11], tokens [108] -/
def f21r7 : List POp := [
  ⟨some 28, none, [], 0, .r .mv, [.s 3]⟩,
  ⟨some 2, none, [], 0, .r .mv, [.s 28]⟩]
def f21pc : PCode := .seq (.region f21r0 []) (.seq (.region f21r1 []) (.seq (.seq (.region f21r2 []) (.block 0 (.loop f21l0))) (.seq (.region f21r7 []) (.gh (.fz 108) (.ret)))))
def f21rs : List RArg := [.s 2 [some 1] [108]]
/- diorama/dioramaref29.Encode : params [32] results [63] tmps 39 resvars [('tmp', 2)] -/
def f22r0 : List POp := [
  ⟨some 2, none, [], 0, .r .mv, [.c (.nils)]⟩]
def f22r1 : List POp := [
  ⟨some 5, none, [], 0, .r .mv, [.s 0]⟩,
  ⟨some 6, none, [], 0, .r .len, [.s 5]⟩,
  ⟨some 7, none, [107], 0, .call .f [] [107], [.fn 49, .s 6]⟩,
  ⟨some 3, none, [], 0, .r .mv, [.s 7]⟩]
def f22r2 : List POp := [
  ⟨some 4, none, [], 0, .r .mv, [.c (.int .i64 0)]⟩]
def f22r3 : List POp := [
  ⟨some 8, none, [], 0, .r .mv, [.s 4]⟩,
  ⟨some 9, none, [], 0, .r .mv, [.s 0]⟩,
  ⟨some 10, none, [], 0, .r .len, [.s 9]⟩,
  ⟨some 11, none, [], 0, .r (.bin .lss), [.s 8, .s 10]⟩]
def f22r5 : List POp := [
  ⟨some 14, none, [], 0, .r .mv, [.s 3]⟩,
  ⟨some 15, none, [], 0, .r .mv, [.s 0]⟩,
  ⟨some 16, none, [], 0, .r .mv, [.s 4]⟩,
  ⟨some 17, none, [], 0, .r (.ixs 4), [.s 15, .s 16]⟩,
  ⟨some 18, none, [], 0, .r (.fad 0), [.s 17]⟩,
  ⟨some 19, none, [], 0, .r .ld1, [.s 18]⟩,
  ⟨some 20, none, [], 0, .r .mv, [.s 0]⟩,
  ⟨some 21, none, [], 0, .r .mv, [.s 4]⟩,
  ⟨some 22, none, [], 0, .r (.ixs 4), [.s 20, .s 21]⟩,
  ⟨some 23, none, [], 0, .r (.fad 1), [.s 22]⟩,
  ⟨some 24, none, [], 0, .r .ld1, [.s 23]⟩,
  ⟨some 25, none, [], 0, .r .mv, [.s 0]⟩,
  ⟨some 26, none, [], 0, .r .mv, [.s 4]⟩,
  ⟨some 27, none, [], 0, .r (.ixs 4), [.s 25, .s 26]⟩,
  ⟨some 28, none, [], 0, .r (.fad 2), [.s 27]⟩,
  ⟨some 29, none, [], 0, .r .ld1, [.s 28]⟩,
  ⟨some 30, none, [], 0, .r .mv, [.s 0]⟩,
  ⟨some 31, none, [], 0, .r .mv, [.s 4]⟩,
  ⟨some 32, none, [], 0, .r (.ixs 4), [.s 30, .s 31]⟩,
  ⟨some 33, none, [], 0, .r (.fad 3), [.s 32]⟩,
  ⟨some 34, none, [], 0, .r .ld1, [.s 33]⟩,
  ⟨some 35, none, [135], 135, .az (.bsl 3 1 4 [.int .i64 0] [(0, 1), (1, 1), (2, 1), (3, 1)]), [.s 19, .s 24, .s 29, .s 34]⟩,
  ⟨some 36, none, [], 0, .call .f [] [], [.fn 50, .z 35 [some 1]]⟩,
  ⟨some 37, none, [107, 137], 137, .app 5 1 1, [.s 14, .s 36]⟩,
  ⟨some 3, none, [], 0, .r .mv, [.s 37]⟩]
def f22r4 : List POp := [
  ⟨some 12, none, [], 0, .r .mv, [.s 4]⟩,
  ⟨some 13, none, [], 0, .r (.bin .add), [.s 12, .c (.int .i64 1)]⟩,
  ⟨some 4, none, [], 0, .r .mv, [.s 13]⟩]
def f22l0 : PCode := .gh (.keep [0, 3, 4] [107]) (.seq (.seq (.region f22r3 []) (.cond (.s 11) (.skip) (.exit 0))) (.seq (.block 1 (.region f22r5 [[], [], [], [1, 2], [1, 2, 3], [1, 2, 3, 4], [], [], [6, 7], [6, 7, 8], [6, 7, 8, 9], [], [], [11, 12], [11, 12, 13], [11, 12, 13, 14], [], [], [16, 17], [16, 17, 18], [16, 17, 18, 19], [1, 2, 3, 4, 5, 6, 7, 8, 9, 10, 11, 12, 13, 14, 15, 16, 17, 18, 19, 20], [1, 2, 3, 4, 5, 6, 7, 8, 9, 10, 11, 12, 13, 14, 15, 16, 17, 18, 19, 20, 21], [0, 1, 2, 3, 4, 5, 6, 7, 8, 9, 10, 11, 12, 13, 14, 15, 16, 17, 18, 19, 20, 21, 22], [0, 1, 2, 3, 4, 5, 6, 7, 8, 9, 10, 11, 12, 13, 14, 15, 16, 17, 18, 19, 20, 21, 22, 23]])) (.region f22r4 [])))
/- f22l0: slots [0, 3, 4], tokens [107] -/
def f22r6 : List POp := [
  ⟨some 38, none, [], 0, .r .mv, [.s 3]⟩,
  ⟨some 2, none, [], 0, .r .mv, [.s 38]⟩]
def f22pc : PCode := .seq (.region f22r0 []) (.seq (.region f22r1 []) (.seq (.seq (.region f22r2 []) (.block 0 (.loop f22l0))) (.seq (.region f22r6 []) (.gh (.fz 107) (.ret)))))
def f22rs : List RArg := [.s 2 [some 1] [107]]
/- diorama/dioramaref01.Same : params [63, 63] results [4] tmps 26 resvars [('tmp', 4)] -/
def f20r0 : List POp := [
  ⟨some 4, none, [], 0, .r .mv, [.c (.bool false)]⟩]
def f20r1 : List POp := [
  ⟨some 6, none, [], 0, .r .mv, [.s 0]⟩,
  ⟨some 7, none, [], 0, .r .len, [.s 6]⟩,
  ⟨some 8, none, [], 0, .r .mv, [.s 1]⟩,
  ⟨some 9, none, [], 0, .r .len, [.s 8]⟩,
  ⟨some 10, none, [], 0, .r (.bin .neq), [.s 7, .s 9]⟩]
def f20r2 : List POp := [
  ⟨some 4, none, [], 0, .r .mv, [.c (.bool false)]⟩]
def f20r3 : List POp := [
  ⟨some 5, none, [], 0, .r .mv, [.c (.int .i64 0)]⟩]
def f20r4 : List POp := [
  ⟨some 11, none, [], 0, .r .mv, [.s 5]⟩,
  ⟨some 12, none, [], 0, .r .mv, [.s 0]⟩,
  ⟨some 13, none, [], 0, .r .len, [.s 12]⟩,
  ⟨some 14, none, [], 0, .r (.bin .lss), [.s 11, .s 13]⟩]
def f20r6 : List POp := [
  ⟨some 17, none, [], 0, .r .mv, [.s 0]⟩,
  ⟨some 18, none, [], 0, .r .mv, [.s 5]⟩,
  ⟨some 19, none, [], 0, .r (.ixs 1), [.s 17, .s 18]⟩,
  ⟨some 20, none, [], 0, .r .ld1, [.s 19]⟩,
  ⟨some 21, none, [], 0, .r .mv, [.s 1]⟩,
  ⟨some 22, none, [], 0, .r .mv, [.s 5]⟩,
  ⟨some 23, none, [], 0, .r (.ixs 1), [.s 21, .s 22]⟩,
  ⟨some 24, none, [], 0, .r .ld1, [.s 23]⟩,
  ⟨some 25, none, [], 0, .r (.bin .neq), [.s 20, .s 24]⟩]
def f20r7 : List POp := [
  ⟨some 4, none, [], 0, .r .mv, [.c (.bool false)]⟩]
def f20r5 : List POp := [
  ⟨some 15, none, [], 0, .r .mv, [.s 5]⟩,
  ⟨some 16, none, [], 0, .r (.bin .add), [.s 15, .c (.int .i64 1)]⟩,
  ⟨some 5, none, [], 0, .r .mv, [.s 16]⟩]
def f20l0 : PCode := .gh (.keep [0, 1, 5] []) (.seq (.seq (.region f20r4 []) (.cond (.s 14) (.skip) (.exit 0))) (.seq (.block 1 (.seq (.region f20r6 [[], [], [0, 1], [0, 1, 2], [], [], [4, 5], [4, 5, 6], [0, 1, 2, 3, 4, 5, 6, 7]]) (.cond (.s 25) (.seq (.region f20r7 []) (.ret)) (.skip)))) (.region f20r5 [])))
/- f20l0: slots [0, 1, 5], tokens [] -/
def f20r8 : List POp := [
  ⟨some 4, none, [], 0, .r .mv, [.c (.bool true)]⟩]
def f20pc : PCode := .seq (.region f20r0 []) (.seq (.seq (.region f20r1 []) (.cond (.s 10) (.seq (.region f20r2 []) (.ret)) (.skip))) (.seq (.seq (.region f20r3 []) (.block 0 (.loop f20l0))) (.seq (.region f20r8 []) (.ret))))
def f20rs : List RArg := [.s 4 [] []]
end Go.Absw

/- Generated: the abstract texts of functions 6. -/
namespace Go.Absw
/- diorama/dioramalaw29.VmValid : params [22, 22, 3, 3, 3] results [4] tmps 71 resvars [('tmp', 10)] -/
def f6r0 : List POp := [
  ⟨some 10, none, [], 0, .r .mv, [.c (.bool false)]⟩]
def f6r1 : List POp := [
  ⟨some 15, none, [], 0, .r .mv, [.s 0]⟩,
  ⟨some 16, none, [], 0, .call .f [] [], [.fn 9, .z 15 [some 1]]⟩,
  ⟨some 17, none, [], 0, .r .mv, [.s 1]⟩,
  ⟨some 18, none, [], 0, .call .f [] [], [.fn 11, .z 16 [none, some 4, some 3, some 5], .z 17 [some 1]]⟩,
  ⟨some 11, none, [], 0, .r .mv, [.s 18]⟩]
def f6r2 : List POp := [
  ⟨some 19, none, [], 0, .r .mv, [.s 11]⟩,
  ⟨some 20, none, [], 0, .r .mv, [.s 2]⟩,
  ⟨some 21, none, [], 0, .r .mv, [.s 3]⟩,
  ⟨some 22, none, [], 0, .r .mv, [.s 4]⟩,
  ⟨some 23, none, [], 0, .call .f [] [], [.fn 12, .z 19 [some 4], .s 20, .s 21, .s 22]⟩,
  ⟨some 12, none, [], 0, .r .mv, [.s 23]⟩]
def f6r3 : List POp := [
  ⟨some 24, none, [], 0, .r .mv, [.s 11]⟩,
  ⟨some 25, none, [], 0, .r .mv, [.s 12]⟩,
  ⟨some 26, none, [], 0, .r .mv, [.s 12]⟩,
  ⟨some 27, none, [], 0, .r .mv, [.s 4]⟩,
  ⟨some 28, none, [], 0, .r .mv, [.s 3]⟩,
  ⟨some 29, none, [], 0, .r (.bin .quo), [.s 28, .c (.int .i64 7)]⟩,
  ⟨some 30, none, [], 0, .r .mv, [.s 2]⟩,
  ⟨some 31, none, [], 0, .call .f [] [], [.fn 12, .z 26 [some 4], .s 27, .s 29, .s 30]⟩,
  ⟨some 32, none, [132], 132, .a (.bsl 32 1 4 [.nils] [(0, 1), (1, 1), (2, 1), (3, 1)]), [.z 24 [some 4], .z 25 [some 4], .z 31 [some 4], .c (.nils)]⟩,
  ⟨some 13, none, [], 0, .r .mv, [.s 32]⟩]
def f6r4 : List POp := [
  ⟨some 14, none, [], 0, .r .mv, [.c (.int .i64 0)]⟩]
def f6r5 : List POp := [
  ⟨some 33, none, [], 0, .r .mv, [.s 14]⟩,
  ⟨some 34, none, [], 0, .r (.bin .lss), [.s 33, .c (.int .i64 4)]⟩]
def f6r7 : List POp := [
  ⟨some 37, none, [], 0, .r .mv, [.s 13]⟩,
  ⟨some 38, none, [], 0, .r .mv, [.s 14]⟩,
  ⟨some 39, none, [132], 0, .r (.ixs 1), [.s 37, .s 38]⟩,
  ⟨some 40, none, [132], 0, .r .ld1, [.s 39]⟩,
  ⟨some 41, none, [], 0, .call .f [] [], [.fn 15, .z 40 [some 4]]⟩,
  ⟨some 42, none, [], 0, .call .f [] [], [.fn 18, .z 41 [some 4]]⟩,
  ⟨some 43, none, [], 0, .r .mv, [.s 13]⟩,
  ⟨some 44, none, [], 0, .r .mv, [.s 14]⟩,
  ⟨some 45, none, [132], 0, .r (.ixs 1), [.s 43, .s 44]⟩,
  ⟨some 46, none, [132], 0, .r .ld1, [.s 45]⟩,
  ⟨some 47, none, [], 0, .call .f [] [], [.fn 19, .z 46 [some 4]]⟩,
  ⟨some 48, none, [], 0, .r (.bin .neq), [.s 42, .s 47]⟩,
  ⟨some 49, none, [], 0, .r .mv, [.s 48]⟩,
  ⟨some 50, (some (49, false)), [], 0, .r .mv, [.s 13]⟩,
  ⟨some 51, (some (49, false)), [], 0, .r .mv, [.s 14]⟩,
  ⟨some 52, (some (49, false)), [132], 0, .r (.ixs 1), [.s 50, .s 51]⟩,
  ⟨some 53, (some (49, false)), [132], 0, .r .ld1, [.s 52]⟩,
  ⟨some 54, (some (49, false)), [], 0, .call .f [] [], [.fn 15, .z 53 [some 4]]⟩,
  ⟨some 55, (some (49, false)), [], 0, .call .f [] [], [.fn 21, .z 54 [some 4]]⟩,
  ⟨some 56, (some (49, false)), [], 0, .r .mv, [.s 13]⟩,
  ⟨some 57, (some (49, false)), [], 0, .r .mv, [.s 14]⟩,
  ⟨some 58, (some (49, false)), [132], 0, .r (.ixs 1), [.s 56, .s 57]⟩,
  ⟨some 59, (some (49, false)), [132], 0, .r .ld1, [.s 58]⟩,
  ⟨some 60, (some (49, false)), [], 0, .call .f [] [], [.fn 22, .z 59 [some 4]]⟩,
  ⟨some 61, (some (49, false)), [], 0, .call .f [] [], [.fn 20, .z 55 [some 1], .z 60 [some 1]]⟩,
  ⟨some 62, (some (49, false)), [], 0, .r (.un .not), [.s 61]⟩,
  ⟨some 63, none, [], 0, .r .pick, [.s 49, .c (.bool true), .s 62]⟩]
def f6r8 : List POp := [
  ⟨some 10, none, [], 0, .r .mv, [.c (.bool false)]⟩]
def f6r6 : List POp := [
  ⟨some 35, none, [], 0, .r .mv, [.s 14]⟩,
  ⟨some 36, none, [], 0, .r (.bin .add), [.s 35, .c (.int .i64 1)]⟩,
  ⟨some 14, none, [], 0, .r .mv, [.s 36]⟩]
def f6l0 : PCode := .gh (.keep [11, 13, 14] [132]) (.seq (.seq (.region f6r5 []) (.cond (.s 34) (.skip) (.exit 0))) (.seq (.block 1 (.seq (.region f6r7 [[], [], [0, 1], [0, 1, 2], [0, 1, 2, 3], [0, 1, 2, 3, 4], [], [], [6, 7], [6, 7, 8], [0, 1, 2, 3, 4, 5, 6, 7, 8, 9], [0, 1, 2, 3, 4, 5, 6, 7, 8, 9, 10], [0, 1, 2, 3, 4, 5, 6, 7, 8, 9, 10, 11], [0, 1, 2, 3, 4, 5, 6, 7, 8, 9, 10, 11, 12], [0, 1, 2, 3, 4, 5, 6, 7, 8, 9, 10, 11, 12], [0, 1, 2, 3, 4, 5, 6, 7, 8, 9, 10, 11, 12, 13, 14], [0, 1, 2, 3, 4, 5, 6, 7, 8, 9, 10, 11, 12, 13, 14, 15], [0, 1, 2, 3, 4, 5, 6, 7, 8, 9, 10, 11, 12, 13, 14, 15, 16], [0, 1, 2, 3, 4, 5, 6, 7, 8, 9, 10, 11, 12, 13, 14, 15, 16, 17], [0, 1, 2, 3, 4, 5, 6, 7, 8, 9, 10, 11, 12], [0, 1, 2, 3, 4, 5, 6, 7, 8, 9, 10, 11, 12], [0, 1, 2, 3, 4, 5, 6, 7, 8, 9, 10, 11, 12, 19, 20], [0, 1, 2, 3, 4, 5, 6, 7, 8, 9, 10, 11, 12, 19, 20, 21], [0, 1, 2, 3, 4, 5, 6, 7, 8, 9, 10, 11, 12, 13, 14, 15, 16, 17, 18, 19, 20, 21, 22], [0, 1, 2, 3, 4, 5, 6, 7, 8, 9, 10, 11, 12, 13, 14, 15, 16, 17, 18, 19, 20, 21, 22, 23], [0, 1, 2, 3, 4, 5, 6, 7, 8, 9, 10, 11, 12, 13, 14, 15, 16, 17, 18, 19, 20, 21, 22, 23, 24], [0, 1, 2, 3, 4, 5, 6, 7, 8, 9, 10, 11, 12, 13, 14, 15, 16, 17, 18, 19, 20, 21, 22, 23, 24, 25]]) (.cond (.s 63) (.seq (.region f6r8 []) (.ret)) (.skip)))) (.region f6r6 [])))
/- f6l0: slots [11, 13, 14], tokens [132] -/
def f6r9 : List POp := [
  ⟨some 64, none, [], 0, .r .mv, [.s 11]⟩,
  ⟨some 65, none, [], 0, .call .f [] [], [.fn 15, .z 64 [some 4]]⟩,
  ⟨some 66, none, [], 0, .call .f [] [], [.fn 18, .z 65 [some 4]]⟩,
  ⟨some 67, none, [], 0, .r (.bin .eql), [.s 66, .c (.int .i64 0)]⟩,
  ⟨some 68, none, [], 0, .r .mv, [.s 67]⟩,
  ⟨some 69, (some (68, true)), [], 0, .call .f [] [], [.fn 17]⟩,
  ⟨some 70, none, [], 0, .r .pick, [.s 68, .s 69, .c (.bool false)]⟩,
  ⟨some 10, none, [], 0, .r .mv, [.s 70]⟩]
def f6pc : PCode := .seq (.region f6r0 []) (.seq (.region f6r1 []) (.seq (.region f6r2 []) (.seq (.region f6r3 []) (.seq (.seq (.region f6r4 []) (.block 0 (.loop f6l0))) (.seq (.region f6r9 []) (.ret))))))
def f6rs : List RArg := [.s 10 [] []]
end Go.Absw
