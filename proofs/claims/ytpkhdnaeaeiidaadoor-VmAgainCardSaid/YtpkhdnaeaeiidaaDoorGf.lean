/- Generated: the abstract texts of functions, fourth part. Conditions: none. -/
import Derived.Test.YtpkhdnaeaeiidaaDoorKc
set_option linter.unusedSimpArgs false
set_option linter.unusedVariables false

/- Generated: the abstract texts of functions 25 30 51 58 63. -/
namespace Go.Absw
/- diorama/dioramaref01.Short : params [9, 3] results [9] tmps 13 resvars [('tmp', 4)] -/
def f25r0 : List POp := [
  ⟨some 4, none, [], 0, .r .mv, [.c (.str [])]⟩]
def f25r1 : List POp := [
  ⟨some 5, none, [], 0, .r .mv, [.s 0]⟩,
  ⟨some 6, none, [], 0, .r .lens, [.s 5]⟩,
  ⟨some 7, none, [], 0, .r .mv, [.s 1]⟩,
  ⟨some 8, none, [], 0, .r (.bin .gtr), [.s 6, .s 7]⟩]
def f25r2 : List POp := [
  ⟨some 9, none, [], 0, .r .mv, [.s 0]⟩,
  ⟨some 10, none, [], 0, .r .mv, [.s 1]⟩,
  ⟨some 11, none, [], 0, .r (.sls false true), [.s 9, .s 10]⟩,
  ⟨some 4, none, [], 0, .r .mv, [.s 11]⟩]
def f25r3 : List POp := [
  ⟨some 12, none, [], 0, .r .mv, [.s 0]⟩,
  ⟨some 4, none, [], 0, .r .mv, [.s 12]⟩]
def f25pc : PCode := .seq (.region f25r0 []) (.seq (.seq (.region f25r1 []) (.cond (.s 8) (.seq (.region f25r2 []) (.ret)) (.skip))) (.seq (.region f25r3 []) (.ret)))
def f25rs : List RArg := [.s 4 [] []]
/- diorama/dioramaref29.SamePrograms : params [32, 32] results [4] tmps 26 resvars [('tmp', 4)] -/
def f30r0 : List POp := [
  ⟨some 4, none, [], 0, .r .mv, [.c (.bool false)]⟩]
def f30r1 : List POp := [
  ⟨some 6, none, [], 0, .r .mv, [.s 0]⟩,
  ⟨some 7, none, [], 0, .r .len, [.s 6]⟩,
  ⟨some 8, none, [], 0, .r .mv, [.s 1]⟩,
  ⟨some 9, none, [], 0, .r .len, [.s 8]⟩,
  ⟨some 10, none, [], 0, .r (.bin .neq), [.s 7, .s 9]⟩]
def f30r2 : List POp := [
  ⟨some 4, none, [], 0, .r .mv, [.c (.bool false)]⟩]
def f30r3 : List POp := [
  ⟨some 5, none, [], 0, .r .mv, [.c (.int .i64 0)]⟩]
def f30r4 : List POp := [
  ⟨some 11, none, [], 0, .r .mv, [.s 5]⟩,
  ⟨some 12, none, [], 0, .r .mv, [.s 0]⟩,
  ⟨some 13, none, [], 0, .r .len, [.s 12]⟩,
  ⟨some 14, none, [], 0, .r (.bin .lss), [.s 11, .s 13]⟩]
def f30r6 : List POp := [
  ⟨some 17, none, [], 0, .r .mv, [.s 0]⟩,
  ⟨some 18, none, [], 0, .r .mv, [.s 5]⟩,
  ⟨some 19, none, [], 0, .r (.ixs 4), [.s 17, .s 18]⟩,
  ⟨some 20, none, [], 0, .r (.ldn 4), [.s 19]⟩,
  ⟨some 21, none, [], 0, .r .mv, [.s 1]⟩,
  ⟨some 22, none, [], 0, .r .mv, [.s 5]⟩,
  ⟨some 23, none, [], 0, .r (.ixs 4), [.s 21, .s 22]⟩,
  ⟨some 24, none, [], 0, .r (.ldn 4), [.s 23]⟩,
  ⟨some 25, none, [], 0, .r (.eqs true [0, 0, 0, 0]), [.s 20, .s 24]⟩]
def f30r7 : List POp := [
  ⟨some 4, none, [], 0, .r .mv, [.c (.bool false)]⟩]
def f30r5 : List POp := [
  ⟨some 15, none, [], 0, .r .mv, [.s 5]⟩,
  ⟨some 16, none, [], 0, .r (.bin .add), [.s 15, .c (.int .i64 1)]⟩,
  ⟨some 5, none, [], 0, .r .mv, [.s 16]⟩]
def f30l0 : PCode := .gh (.keep [0, 1, 5] []) (.seq (.seq (.region f30r4 []) (.cond (.s 14) (.skip) (.exit 0))) (.seq (.block 1 (.seq (.region f30r6 [[], [], [0, 1], [0, 1, 2], [], [], [4, 5], [4, 5, 6], [0, 1, 2, 3, 4, 5, 6, 7]]) (.cond (.s 25) (.seq (.region f30r7 []) (.ret)) (.skip)))) (.region f30r5 [])))
/- f30l0: slots [0, 1, 5], tokens [] -/
def f30r8 : List POp := [
  ⟨some 4, none, [], 0, .r .mv, [.c (.bool true)]⟩]
def f30pc : PCode := .seq (.region f30r0 []) (.seq (.seq (.region f30r1 []) (.cond (.s 10) (.seq (.region f30r2 []) (.ret)) (.skip))) (.seq (.seq (.region f30r3 []) (.block 0 (.loop f30l0))) (.seq (.region f30r8 []) (.ret))))
def f30rs : List RArg := [.s 4 [] []]
/- diorama/dioramaref29.Words : params [] results [71] tmps 2 resvars [('tmp', 0)] -/
def f51r0 : List POp := [
  ⟨some 0, none, [], 0, .r .mv, [.c (.nils)]⟩]
def f51r1 : List POp := [
  ⟨some 1, none, [101], 101, .a (.bsl 9 1 9 [.str []] [(0, 1), (1, 1), (2, 1), (3, 1), (4, 1), (5, 1), (6, 1), (7, 1), (8, 1)]), [.c (.str [115, 116, 111, 112]), .c (.str [108, 111, 97, 100]), .c (.str [97, 100, 100]), .c (.str [115, 117, 98]), .c (.str [115, 105, 122, 101]), .c (.str [103, 101, 116]), .c (.str [106, 117, 109, 112]), .c (.str [108, 101, 115, 115]), .c (.str [115, 97, 109, 101])]⟩,
  ⟨some 0, none, [], 0, .r .mv, [.s 1]⟩]
def f51pc : PCode := .seq (.region f51r0 []) (.seq (.region f51r1 []) (.gh (.fz 101) (.ret)))
def f51rs : List RArg := [.s 0 [some 1] [101]]
/- diorama/dioramaref09.Scan : params [9] results [129, 3] tmps 57 resvars [('tmp', 2), ('tmp', 3)] -/
def f58r0 : List POp := [
  ⟨some 2, none, [], 0, .r .mv, [.c (.nils)]⟩,
  ⟨some 3, none, [], 0, .r .mv, [.c (.int .i64 0)]⟩]
def f58r1 : List POp := [
  ⟨some 4, none, [], 0, .r .mv, [.c (.nils)]⟩]
def f58r2 : List POp := [
  ⟨some 5, none, [], 0, .r .mv, [.c (.int .i64 0)]⟩]
def f58r3 : List POp := [
  ⟨some 7, none, [], 0, .r .mv, [.s 5]⟩,
  ⟨some 8, none, [], 0, .r .mv, [.s 0]⟩,
  ⟨some 9, none, [], 0, .r .lens, [.s 8]⟩,
  ⟨some 10, none, [], 0, .r (.bin .lss), [.s 7, .s 9]⟩]
def f58r4 : List POp := [
  ⟨some 11, none, [], 0, .r .mv, [.s 0]⟩,
  ⟨some 12, none, [], 0, .r .mv, [.s 5]⟩,
  ⟨some 13, none, [], 0, .r .ixc, [.s 11, .s 12]⟩,
  ⟨some 14, none, [], 0, .r (.bin .eql), [.s 13, .c (.int .u8 32)]⟩,
  ⟨some 15, none, [], 0, .r .mv, [.s 14]⟩,
  ⟨some 16, (some (15, false)), [], 0, .r .mv, [.s 0]⟩,
  ⟨some 17, (some (15, false)), [], 0, .r .mv, [.s 5]⟩,
  ⟨some 18, (some (15, false)), [], 0, .r .ixc, [.s 16, .s 17]⟩,
  ⟨some 19, (some (15, false)), [], 0, .r (.bin .eql), [.s 18, .c (.int .u8 10)]⟩,
  ⟨some 20, none, [], 0, .r .pick, [.s 15, .c (.bool true), .s 19]⟩]
def f58r5 : List POp := [
  ⟨some 21, none, [], 0, .r .mv, [.s 5]⟩,
  ⟨some 22, none, [], 0, .r (.bin .add), [.s 21, .c (.int .i64 1)]⟩,
  ⟨some 5, none, [], 0, .r .mv, [.s 22]⟩]
def f58r6 : List POp := [
  ⟨some 23, none, [], 0, .r .mv, [.s 5]⟩,
  ⟨some 6, none, [], 0, .r .mv, [.s 23]⟩]
def f58r7 : List POp := [
  ⟨some 24, none, [], 0, .r .mv, [.s 6]⟩,
  ⟨some 25, none, [], 0, .r .mv, [.s 0]⟩,
  ⟨some 26, none, [], 0, .r .lens, [.s 25]⟩,
  ⟨some 27, none, [], 0, .r (.bin .lss), [.s 24, .s 26]⟩,
  ⟨some 28, none, [], 0, .r .mv, [.s 27]⟩,
  ⟨some 29, (some (28, true)), [], 0, .r .mv, [.s 0]⟩,
  ⟨some 30, (some (28, true)), [], 0, .r .mv, [.s 6]⟩,
  ⟨some 31, (some (28, true)), [], 0, .r .ixc, [.s 29, .s 30]⟩,
  ⟨some 32, (some (28, true)), [], 0, .r (.bin .gtr), [.s 31, .c (.int .u8 32)]⟩,
  ⟨some 33, none, [], 0, .r .pick, [.s 28, .s 32, .c (.bool false)]⟩,
  ⟨some 34, none, [], 0, .r .mv, [.s 33]⟩,
  ⟨some 35, (some (34, true)), [], 0, .r .mv, [.s 0]⟩,
  ⟨some 36, (some (34, true)), [], 0, .r .mv, [.s 6]⟩,
  ⟨some 37, (some (34, true)), [], 0, .r .ixc, [.s 35, .s 36]⟩,
  ⟨some 38, (some (34, true)), [], 0, .r (.bin .lss), [.s 37, .c (.int .u8 127)]⟩,
  ⟨some 39, none, [], 0, .r .pick, [.s 34, .s 38, .c (.bool false)]⟩]
def f58r8 : List POp := [
  ⟨some 40, none, [], 0, .r .mv, [.s 6]⟩,
  ⟨some 41, none, [], 0, .r (.bin .add), [.s 40, .c (.int .i64 1)]⟩,
  ⟨some 6, none, [], 0, .r .mv, [.s 41]⟩]
def f58l1 : PCode := .gh (.keep [0, 4, 5, 6] [104]) (.seq (.seq (.region f58r7 []) (.cond (.s 39) (.skip) (.exit 2))) (.block 3 (.region f58r8 [])))
/- f58l1: slots [0, 4, 5, 6], tokens [104] -/
def f58r9 : List POp := [
  ⟨some 42, none, [], 0, .r .mv, [.s 6]⟩,
  ⟨some 43, none, [], 0, .r .mv, [.s 5]⟩,
  ⟨some 44, none, [], 0, .r (.bin .eql), [.s 42, .s 43]⟩]
def f58r10 : List POp := [
  ⟨some 45, none, [], 0, .r .mv, [.s 4]⟩,
  ⟨some 46, none, [], 0, .r .mv, [.s 5]⟩,
  ⟨some 2, none, [], 0, .r .mv, [.s 45]⟩,
  ⟨some 3, none, [], 0, .r .mv, [.s 46]⟩]
def f58r11 : List POp := [
  ⟨some 47, none, [], 0, .r .mv, [.s 4]⟩,
  ⟨some 48, none, [], 0, .r .mv, [.s 5]⟩,
  ⟨some 49, none, [], 0, .r .mv, [.s 6]⟩,
  ⟨some 50, none, [], 0, .r (.build [.int .i64 0, .int .i64 0] [(0, 1), (1, 1)]), [.s 48, .s 49]⟩,
  ⟨some 51, none, [151], 151, .a (.bsl 133 2 1 [.int .i64 0, .int .i64 0] [(0, 2)]), [.s 50]⟩,
  ⟨some 52, none, [104, 151, 152], 152, .app 133 2 16, [.s 47, .s 51]⟩,
  ⟨some 4, none, [], 0, .r .mv, [.s 52]⟩]
def f58r12 : List POp := [
  ⟨some 53, none, [], 0, .r .mv, [.s 6]⟩,
  ⟨some 5, none, [], 0, .r .mv, [.s 53]⟩]
def f58l0 : PCode := .gh (.keep [0, 4, 5] [104]) (.seq (.seq (.region f58r3 []) (.cond (.s 10) (.skip) (.exit 0))) (.block 1 (.seq (.seq (.region f58r4 []) (.cond (.s 20) (.seq (.region f58r5 []) (.exit 1)) (.skip))) (.seq (.region f58r6 []) (.seq (.block 2 (.loop f58l1)) (.seq (.seq (.region f58r9 []) (.cond (.s 44) (.seq (.region f58r10 []) (.gh (.fz 104) (.ret))) (.skip))) (.seq (.region f58r11 []) (.region f58r12 []))))))))
/- f58l0: slots [0, 4, 5], tokens [104] -/
def f58r13 : List POp := [
  ⟨some 54, none, [], 0, .r .mv, [.s 4]⟩,
  ⟨some 55, none, [], 0, .r .mv, [.s 0]⟩,
  ⟨some 56, none, [], 0, .r .lens, [.s 55]⟩,
  ⟨some 2, none, [], 0, .r .mv, [.s 54]⟩,
  ⟨some 3, none, [], 0, .r .mv, [.s 56]⟩]
def f58pc : PCode := .seq (.region f58r0 []) (.seq (.region f58r1 []) (.gh (.own 4 104 133 2) (.seq (.region f58r2 []) (.seq (.block 0 (.loop f58l0)) (.seq (.region f58r13 []) (.gh (.fz 104) (.ret)))))))
def f58rs : List RArg := [.s 2 [some 2] [104], .s 3 [] []]
/- diorama/dioramaref29.Number : params [9] results [3, 4] tmps 49 resvars [('tmp', 2), ('tmp', 3)] -/
def f63r0 : List POp := [
  ⟨some 2, none, [], 0, .r .mv, [.c (.int .i64 0)]⟩,
  ⟨some 3, none, [], 0, .r .mv, [.c (.bool false)]⟩]
def f63r1 : List POp := [
  ⟨some 4, none, [], 0, .r .mv, [.c (.int .i64 1)]⟩]
def f63r2 : List POp := [
  ⟨some 7, none, [], 0, .r .mv, [.s 0]⟩,
  ⟨some 8, none, [], 0, .r .lens, [.s 7]⟩,
  ⟨some 9, none, [], 0, .r (.bin .gtr), [.s 8, .c (.int .i64 0)]⟩]
def f63r3 : List POp := [
  ⟨some 10, none, [], 0, .r .mv, [.s 0]⟩,
  ⟨some 11, none, [], 0, .r .ixc, [.s 10, .c (.int .i64 0)]⟩,
  ⟨some 12, none, [], 0, .r (.bin .eql), [.s 11, .c (.int .u8 45)]⟩]
def f63r4 : List POp := [
  ⟨some 4, none, [], 0, .r .mv, [.c (.int .i64 (-1))]⟩]
def f63r5 : List POp := [
  ⟨some 13, none, [], 0, .r .mv, [.s 0]⟩,
  ⟨some 14, none, [], 0, .r (.sls true false), [.s 13, .c (.int .i64 1)]⟩,
  ⟨some 0, none, [], 0, .r .mv, [.s 14]⟩]
def f63r6 : List POp := [
  ⟨some 5, none, [], 0, .r .mv, [.c (.int .i64 0)]⟩]
def f63r7 : List POp := [
  ⟨some 6, none, [], 0, .r .mv, [.c (.int .i64 0)]⟩]
def f63r8 : List POp := [
  ⟨some 15, none, [], 0, .r .mv, [.s 6]⟩,
  ⟨some 16, none, [], 0, .r .mv, [.s 0]⟩,
  ⟨some 17, none, [], 0, .r .lens, [.s 16]⟩,
  ⟨some 18, none, [], 0, .r (.bin .lss), [.s 15, .s 17]⟩]
def f63r10 : List POp := [
  ⟨some 21, none, [], 0, .r .mv, [.s 0]⟩,
  ⟨some 22, none, [], 0, .r .mv, [.s 6]⟩,
  ⟨some 23, none, [], 0, .r .ixc, [.s 21, .s 22]⟩,
  ⟨some 24, none, [], 0, .r (.bin .lss), [.s 23, .c (.int .u8 48)]⟩,
  ⟨some 25, none, [], 0, .r .mv, [.s 24]⟩,
  ⟨some 26, (some (25, false)), [], 0, .r .mv, [.s 0]⟩,
  ⟨some 27, (some (25, false)), [], 0, .r .mv, [.s 6]⟩,
  ⟨some 28, (some (25, false)), [], 0, .r .ixc, [.s 26, .s 27]⟩,
  ⟨some 29, (some (25, false)), [], 0, .r (.bin .gtr), [.s 28, .c (.int .u8 57)]⟩,
  ⟨some 30, none, [], 0, .r .pick, [.s 25, .c (.bool true), .s 29]⟩,
  ⟨some 31, none, [], 0, .r .mv, [.s 30]⟩,
  ⟨some 32, (some (31, false)), [], 0, .r .mv, [.s 6]⟩,
  ⟨some 33, (some (31, false)), [], 0, .r (.bin .gtr), [.s 32, .c (.int .i64 6)]⟩,
  ⟨some 34, none, [], 0, .r .pick, [.s 31, .c (.bool true), .s 33]⟩]
def f63r11 : List POp := [
  ⟨some 2, none, [], 0, .r .mv, [.c (.int .i64 0)]⟩,
  ⟨some 3, none, [], 0, .r .mv, [.c (.bool false)]⟩]
def f63r12 : List POp := [
  ⟨some 35, none, [], 0, .r .mv, [.s 5]⟩,
  ⟨some 36, none, [], 0, .r (.bin .mul), [.c (.int .i64 10), .s 35]⟩,
  ⟨some 37, none, [], 0, .r .mv, [.s 0]⟩,
  ⟨some 38, none, [], 0, .r .mv, [.s 6]⟩,
  ⟨some 39, none, [], 0, .r .ixc, [.s 37, .s 38]⟩,
  ⟨some 40, none, [], 0, .r (.bin .sub), [.s 39, .c (.int .u8 48)]⟩,
  ⟨some 41, none, [], 0, .r (.cvi .i64), [.s 40]⟩,
  ⟨some 42, none, [], 0, .r (.bin .add), [.s 36, .s 41]⟩,
  ⟨some 5, none, [], 0, .r .mv, [.s 42]⟩]
def f63r9 : List POp := [
  ⟨some 19, none, [], 0, .r .mv, [.s 6]⟩,
  ⟨some 20, none, [], 0, .r (.bin .add), [.s 19, .c (.int .i64 1)]⟩,
  ⟨some 6, none, [], 0, .r .mv, [.s 20]⟩]
def f63l0 : PCode := .gh (.keep [0, 4, 5, 6] []) (.seq (.seq (.region f63r8 []) (.cond (.s 18) (.skip) (.exit 0))) (.seq (.block 1 (.seq (.seq (.region f63r10 []) (.cond (.s 34) (.seq (.region f63r11 []) (.ret)) (.skip))) (.region f63r12 []))) (.region f63r9 [])))
/- f63l0: slots [0, 4, 5, 6], tokens [] -/
def f63r13 : List POp := [
  ⟨some 43, none, [], 0, .r .mv, [.s 4]⟩,
  ⟨some 44, none, [], 0, .r .mv, [.s 5]⟩,
  ⟨some 45, none, [], 0, .r (.bin .mul), [.s 43, .s 44]⟩,
  ⟨some 46, none, [], 0, .r .mv, [.s 0]⟩,
  ⟨some 47, none, [], 0, .r .lens, [.s 46]⟩,
  ⟨some 48, none, [], 0, .r (.bin .gtr), [.s 47, .c (.int .i64 0)]⟩,
  ⟨some 2, none, [], 0, .r .mv, [.s 45]⟩,
  ⟨some 3, none, [], 0, .r .mv, [.s 48]⟩]
def f63pc : PCode := .seq (.region f63r0 []) (.seq (.region f63r1 []) (.seq (.seq (.region f63r2 []) (.cond (.s 9) (.seq (.region f63r3 []) (.cond (.s 12) (.seq (.region f63r4 []) (.region f63r5 [])) (.skip))) (.skip))) (.gh (.keep [0, 4] []) (.seq (.region f63r6 []) (.seq (.seq (.region f63r7 []) (.block 0 (.loop f63l0))) (.seq (.region f63r13 []) (.ret)))))))
def f63rs : List RArg := [.s 2 [] [], .s 3 [] []]
end Go.Absw

/- Generated: the abstract texts of functions 29. -/
namespace Go.Absw
/- diorama/dioramaref29.Parse : params [9] results [32, 3, 39] tmps 127 resvars [('tmp', 2), ('tmp', 3), ('tmp', 4)] -/
def f29r0 : List POp := [
  ⟨some 2, none, [], 0, .r .mv, [.c (.nils)]⟩,
  ⟨some 3, none, [], 0, .r .mv, [.c (.int .i64 0)]⟩,
  ⟨some 4, none, [], 0, .r .mv, [.c (.int .i64 0)]⟩]
def f29r1 : List POp := [
  ⟨some 17, none, [], 0, .r .mv, [.s 0]⟩,
  ⟨some 18, none, [], 0, .r .lens, [.s 17]⟩,
  ⟨some 19, none, [], 0, .r (.bin .gtr), [.s 18, .c (.int .i64 8192)]⟩]
def f29r2 : List POp := [
  ⟨some 2, none, [], 0, .r .mv, [.c (.nils)]⟩,
  ⟨some 3, none, [], 0, .r .mv, [.c (.int .i64 8192)]⟩,
  ⟨some 4, none, [], 0, .r .mv, [.c (.int .i64 4)]⟩]
def f29r3 : List POp := [
  ⟨some 21, none, [], 0, .r .mv, [.s 0]⟩,
  ⟨some 22, none, [], 0, .call .f [] [], [.fn 58, .s 21]⟩,
  ⟨some 20, none, [], 0, .r .mv, [.s 22]⟩,
  ⟨some 23, none, [], 0, .r (.ext 0), [.s 20]⟩,
  ⟨some 24, none, [], 0, .r (.ext 1), [.s 20]⟩,
  ⟨some 5, none, [], 0, .r .mv, [.s 23]⟩,
  ⟨some 6, none, [], 0, .r .mv, [.s 24]⟩]
def f29r4 : List POp := [
  ⟨some 7, none, [], 0, .r .mv, [.c (.nils)]⟩]
def f29r5 : List POp := [
  ⟨some 8, none, [], 0, .r .mv, [.c (.str [])]⟩]
def f29r6 : List POp := [
  ⟨some 9, none, [], 0, .r .mv, [.c (.nils)]⟩]
def f29r7 : List POp := [
  ⟨some 10, none, [], 0, .r .mv, [.c (.int .i64 0)]⟩]
def f29r8 : List POp := [
  ⟨some 11, none, [], 0, .r .mv, [.c (.int .i64 0)]⟩]
def f29r9 : List POp := [
  ⟨some 25, none, [], 0, .r .mv, [.s 11]⟩,
  ⟨some 26, none, [], 0, .r .mv, [.s 5]⟩,
  ⟨some 27, none, [], 0, .r .len, [.s 26]⟩,
  ⟨some 28, none, [], 0, .r (.bin .lss), [.s 25, .s 27]⟩]
def f29r11 : List POp := [
  ⟨some 31, none, [], 0, .r .mv, [.s 0]⟩,
  ⟨some 32, none, [], 0, .r .mv, [.s 5]⟩,
  ⟨some 33, none, [], 0, .r .mv, [.s 11]⟩,
  ⟨some 34, none, [], 0, .r (.ixs 2), [.s 32, .s 33]⟩,
  ⟨some 35, none, [], 0, .r (.fad 0), [.s 34]⟩,
  ⟨some 36, none, [], 0, .r .ld1, [.s 35]⟩,
  ⟨some 37, none, [], 0, .r .mv, [.s 5]⟩,
  ⟨some 38, none, [], 0, .r .mv, [.s 11]⟩,
  ⟨some 39, none, [], 0, .r (.ixs 2), [.s 37, .s 38]⟩,
  ⟨some 40, none, [], 0, .r (.fad 1), [.s 39]⟩,
  ⟨some 41, none, [], 0, .r .ld1, [.s 40]⟩,
  ⟨some 42, none, [], 0, .r (.sls true true), [.s 31, .s 36, .s 41]⟩,
  ⟨some 12, none, [], 0, .r .mv, [.s 42]⟩]
def f29r12 : List POp := [
  ⟨some 43, none, [], 0, .r .mv, [.s 8]⟩,
  ⟨some 44, none, [], 0, .r (.bin .eql), [.s 43, .c (.str [])]⟩]
def f29r13 : List POp := [
  ⟨some 10, none, [], 0, .r .mv, [.c (.int .i64 (-1))]⟩]
def f29r14 : List POp := [
  ⟨some 13, none, [], 0, .r .mv, [.c (.int .i64 0)]⟩]
def f29r15 : List POp := [
  ⟨some 45, none, [], 0, .r .mv, [.s 13]⟩,
  ⟨some 46, none, [], 0, .r (.bin .lss), [.s 45, .c (.int .i64 9)]⟩]
def f29r17 : List POp := [
  ⟨some 49, none, [], 0, .call .f [] [], [.fn 51]⟩,
  ⟨some 50, none, [], 0, .r .mv, [.s 13]⟩,
  ⟨some 51, none, [], 0, .r (.ixs 1), [.s 49, .s 50]⟩,
  ⟨some 52, none, [], 0, .r .ld1, [.s 51]⟩,
  ⟨some 53, none, [], 0, .r .mv, [.s 12]⟩,
  ⟨some 54, none, [], 0, .r (.bin .eql), [.s 52, .s 53]⟩]
def f29r18 : List POp := [
  ⟨some 55, none, [], 0, .r .mv, [.s 13]⟩,
  ⟨some 10, none, [], 0, .r .mv, [.s 55]⟩]
def f29r16 : List POp := [
  ⟨some 47, none, [], 0, .r .mv, [.s 13]⟩,
  ⟨some 48, none, [], 0, .r (.bin .add), [.s 47, .c (.int .i64 1)]⟩,
  ⟨some 13, none, [], 0, .r .mv, [.s 48]⟩]
def f29l1 : PCode := .gh (.keep [0, 5, 6, 7, 10, 11, 12, 13] [107]) (.seq (.seq (.region f29r15 []) (.cond (.s 46) (.skip) (.exit 2))) (.seq (.block 3 (.seq (.region f29r17 []) (.cond (.s 54) (.region f29r18 []) (.skip)))) (.region f29r16 [])))
/- f29l1: slots [0, 5, 6, 7, 10, 11, 12, 13], tokens [107] -/
def f29r19 : List POp := [
  ⟨some 56, none, [], 0, .r .mv, [.s 10]⟩,
  ⟨some 57, none, [], 0, .r (.bin .lss), [.s 56, .c (.int .i64 0)]⟩]
def f29r20 : List POp := [
  ⟨some 58, none, [], 0, .r .mv, [.s 5]⟩,
  ⟨some 59, none, [], 0, .r .mv, [.s 11]⟩,
  ⟨some 60, none, [], 0, .r (.ixs 2), [.s 58, .s 59]⟩,
  ⟨some 61, none, [], 0, .r (.fad 0), [.s 60]⟩,
  ⟨some 62, none, [], 0, .r .ld1, [.s 61]⟩,
  ⟨some 2, none, [], 0, .r .mv, [.c (.nils)]⟩,
  ⟨some 3, none, [], 0, .r .mv, [.s 62]⟩,
  ⟨some 4, none, [], 0, .r .mv, [.c (.int .i64 2)]⟩]
def f29r21 : List POp := [
  ⟨some 63, none, [], 0, .call .f [] [], [.fn 38]⟩,
  ⟨some 64, none, [], 0, .r .mv, [.s 10]⟩,
  ⟨some 65, none, [], 0, .r (.ixs 1), [.s 63, .s 64]⟩,
  ⟨some 66, none, [], 0, .r .ld1, [.s 65]⟩,
  ⟨some 8, none, [], 0, .r .mv, [.s 66]⟩]
def f29r22 : List POp := [
  ⟨some 9, none, [], 0, .r .mv, [.c (.nils)]⟩]
def f29r23 : List POp := [
  ⟨some 68, none, [], 0, .r .mv, [.s 12]⟩,
  ⟨some 69, none, [], 0, .call .f [] [], [.fn 63, .s 68]⟩,
  ⟨some 67, none, [], 0, .r .mv, [.s 69]⟩,
  ⟨some 70, none, [], 0, .r (.ext 0), [.s 67]⟩,
  ⟨some 71, none, [], 0, .r (.ext 1), [.s 67]⟩,
  ⟨some 14, none, [], 0, .r .mv, [.s 70]⟩,
  ⟨some 15, none, [], 0, .r .mv, [.s 71]⟩]
def f29r24 : List POp := [
  ⟨some 72, none, [], 0, .r .mv, [.s 15]⟩,
  ⟨some 73, none, [], 0, .r (.un .not), [.s 72]⟩]
def f29r25 : List POp := [
  ⟨some 74, none, [], 0, .r .mv, [.s 5]⟩,
  ⟨some 75, none, [], 0, .r .mv, [.s 11]⟩,
  ⟨some 76, none, [], 0, .r (.ixs 2), [.s 74, .s 75]⟩,
  ⟨some 77, none, [], 0, .r (.fad 0), [.s 76]⟩,
  ⟨some 78, none, [], 0, .r .ld1, [.s 77]⟩,
  ⟨some 2, none, [], 0, .r .mv, [.c (.nils)]⟩,
  ⟨some 3, none, [], 0, .r .mv, [.s 78]⟩,
  ⟨some 4, none, [], 0, .r .mv, [.c (.int .i64 2)]⟩]
def f29r26 : List POp := [
  ⟨some 79, none, [], 0, .r .mv, [.s 9]⟩,
  ⟨some 80, none, [], 0, .r .mv, [.s 14]⟩,
  ⟨some 81, none, [181], 181, .a (.bsl 3 1 1 [.int .i64 0] [(0, 1)]), [.s 80]⟩,
  ⟨some 82, none, [109, 181], 109, .app 3 1 8, [.s 79, .s 81]⟩,
  ⟨some 9, none, [], 0, .r .mv, [.s 82]⟩]
def f29r27 : List POp := [
  ⟨some 83, none, [], 0, .r .mv, [.s 8]⟩,
  ⟨some 84, none, [], 0, .r (.sls true false), [.s 83, .c (.int .i64 1)]⟩,
  ⟨some 8, none, [], 0, .r .mv, [.s 84]⟩]
def f29r28 : List POp := [
  ⟨some 85, none, [], 0, .r .mv, [.s 8]⟩,
  ⟨some 86, none, [], 0, .r (.bin .eql), [.s 85, .c (.str [])]⟩,
  ⟨some 87, none, [], 0, .r .mv, [.s 86]⟩,
  ⟨some 88, (some (87, false)), [], 0, .r .mv, [.s 8]⟩,
  ⟨some 89, (some (87, false)), [], 0, .r .mv, [.s 8]⟩,
  ⟨some 90, (some (87, false)), [], 0, .r .lens, [.s 89]⟩,
  ⟨some 91, (some (87, false)), [], 0, .r .min, [.c (.int .i64 0), .s 90]⟩,
  ⟨some 92, (some (87, false)), [], 0, .r .ixc, [.s 88, .s 91]⟩,
  ⟨some 93, (some (87, false)), [], 0, .r (.bin .eql), [.s 92, .c (.int .u8 45)]⟩,
  ⟨some 94, none, [], 0, .r .pick, [.s 87, .c (.bool true), .s 93]⟩]
def f29r29 : List POp := [
  ⟨some 95, none, [], 0, .r .mv, [.s 9]⟩,
  ⟨some 96, none, [196], 196, .a (.bsl 3 1 3 [.int .i64 0] [(0, 1), (1, 1), (2, 1)]), [.c (.int .i64 0), .c (.int .i64 0), .c (.int .i64 0)]⟩,
  ⟨some 97, none, [109, 196], 109, .app 3 1 8, [.s 95, .s 96]⟩,
  ⟨some 9, none, [], 0, .r .mv, [.s 97]⟩]
def f29r30 : List POp := [
  ⟨some 98, none, [], 0, .r .mv, [.s 7]⟩,
  ⟨some 99, none, [], 0, .r .mv, [.s 10]⟩,
  ⟨some 100, none, [], 0, .r .mv, [.s 9]⟩,
  ⟨some 101, none, [109], 0, .r (.ixs 1), [.s 100, .c (.int .i64 0)]⟩,
  ⟨some 102, none, [109], 0, .r .ld1, [.s 101]⟩,
  ⟨some 103, none, [], 0, .r .mv, [.s 9]⟩,
  ⟨some 104, none, [109], 0, .r (.ixs 1), [.s 103, .c (.int .i64 1)]⟩,
  ⟨some 105, none, [109], 0, .r .ld1, [.s 104]⟩,
  ⟨some 106, none, [], 0, .r .mv, [.s 9]⟩,
  ⟨some 107, none, [109], 0, .r (.ixs 1), [.s 106, .c (.int .i64 2)]⟩,
  ⟨some 108, none, [109], 0, .r .ld1, [.s 107]⟩,
  ⟨some 109, none, [], 0, .r (.build [.int .i64 0, .int .i64 0, .int .i64 0, .int .i64 0] [(0, 1), (1, 1), (2, 1), (3, 1)]), [.s 99, .s 102, .s 105, .s 108]⟩,
  ⟨some 110, none, [210], 210, .a (.bsl 58 4 1 [.int .i64 0, .int .i64 0, .int .i64 0, .int .i64 0] [(0, 4)]), [.s 109]⟩,
  ⟨some 111, none, [107, 210, 211], 211, .app 58 4 32, [.s 98, .s 110]⟩,
  ⟨some 7, none, [], 0, .r .mv, [.s 111]⟩]
def f29r31 : List POp := [
  ⟨some 8, none, [], 0, .r .mv, [.c (.str [])]⟩]
def f29r10 : List POp := [
  ⟨some 29, none, [], 0, .r .mv, [.s 11]⟩,
  ⟨some 30, none, [], 0, .r (.bin .add), [.s 29, .c (.int .i64 1)]⟩,
  ⟨some 11, none, [], 0, .r .mv, [.s 30]⟩]
def f29l0 : PCode := .gh (.keep [0, 5, 6, 7, 8, 9, 10, 11] [107, 109]) (.seq (.seq (.region f29r9 []) (.cond (.s 28) (.skip) (.exit 0))) (.seq (.block 1 (.seq (.region f29r11 [[], [], [], [1, 2], [1, 2, 3], [1, 2, 3, 4], [], [], [6, 7], [6, 7, 8], [6, 7, 8, 9], [0, 1, 2, 3, 4, 5, 6, 7, 8, 9, 10], [0, 1, 2, 3, 4, 5, 6, 7, 8, 9, 10, 11]]) (.seq (.seq (.region f29r12 []) (.cond (.s 44) (.seq (.region f29r13 []) (.seq (.seq (.region f29r14 []) (.block 2 (.loop f29l1))) (.seq (.seq (.region f29r19 []) (.cond (.s 57) (.seq (.region f29r20 [[], [], [0, 1], [0, 1, 2], [0, 1, 2, 3], [], [0, 1, 2, 3, 4, 5], [0, 1, 2, 3, 4, 5, 6]]) (.gh (.fz 107) (.ret))) (.skip))) (.seq (.region f29r21 []) (.region f29r22 []))))) (.seq (.region f29r23 []) (.seq (.seq (.region f29r24 []) (.cond (.s 73) (.seq (.region f29r25 [[], [], [0, 1], [0, 1, 2], [0, 1, 2, 3], [], [0, 1, 2, 3, 4, 5], [0, 1, 2, 3, 4, 5, 6]]) (.gh (.fz 107) (.ret))) (.skip))) (.seq (.region f29r26 []) (.region f29r27 [])))))) (.gh (.keep [0, 5, 6, 7, 8, 9, 10, 11] [107, 109]) (.seq (.region f29r28 []) (.cond (.s 94) (.seq (.region f29r29 []) (.seq (.region f29r30 [[], [], [], [2], [2, 3], [], [5], [5, 6], [], [8], [8, 9], [1, 2, 3, 4, 5, 6, 7, 8, 9, 10], [1, 2, 3, 4, 5, 6, 7, 8, 9, 10, 11], [0, 1, 2, 3, 4, 5, 6, 7, 8, 9, 10, 11, 12], [0, 1, 2, 3, 4, 5, 6, 7, 8, 9, 10, 11, 12, 13]]) (.region f29r31 []))) (.skip))))))) (.region f29r10 [])))
/- f29l0: slots [0, 5, 6, 7, 8, 9, 10, 11], tokens [107, 109] -/
def f29r32 : List POp := [
  ⟨some 112, none, [], 0, .r .mv, [.s 8]⟩,
  ⟨some 113, none, [], 0, .r (.bin .neq), [.s 112, .c (.str [])]⟩,
  ⟨some 114, none, [], 0, .r .mv, [.s 113]⟩,
  ⟨some 115, (some (114, false)), [], 0, .r .mv, [.s 6]⟩,
  ⟨some 116, (some (114, false)), [], 0, .r .mv, [.s 0]⟩,
  ⟨some 117, (some (114, false)), [], 0, .r .lens, [.s 116]⟩,
  ⟨some 118, (some (114, false)), [], 0, .r (.bin .lss), [.s 115, .s 117]⟩,
  ⟨some 119, none, [], 0, .r .pick, [.s 114, .c (.bool true), .s 118]⟩]
def f29r33 : List POp := [
  ⟨some 120, none, [], 0, .r .mv, [.s 6]⟩,
  ⟨some 2, none, [], 0, .r .mv, [.c (.nils)]⟩,
  ⟨some 3, none, [], 0, .r .mv, [.s 120]⟩,
  ⟨some 4, none, [], 0, .r .mv, [.c (.int .i64 2)]⟩]
def f29r34 : List POp := [
  ⟨some 121, none, [], 0, .r .mv, [.s 7]⟩,
  ⟨some 122, none, [107], 0, .call .f [] [], [.fn 19, .z 121 [some 4]]⟩,
  ⟨some 16, none, [], 0, .r .mv, [.s 122]⟩]
def f29r35 : List POp := [
  ⟨some 123, none, [], 0, .r .mv, [.s 16]⟩,
  ⟨some 124, none, [], 0, .r (.bin .neq), [.s 123, .c (.int .i64 0)]⟩]
def f29r36 : List POp := [
  ⟨some 125, none, [], 0, .r .mv, [.s 16]⟩,
  ⟨some 2, none, [], 0, .r .mv, [.c (.nils)]⟩,
  ⟨some 3, none, [], 0, .r .mv, [.c (.int .i64 0)]⟩,
  ⟨some 4, none, [], 0, .r .mv, [.s 125]⟩]
def f29r37 : List POp := [
  ⟨some 126, none, [], 0, .r .mv, [.s 7]⟩,
  ⟨some 2, none, [], 0, .r .mv, [.s 126]⟩,
  ⟨some 3, none, [], 0, .r .mv, [.c (.int .i64 0)]⟩,
  ⟨some 4, none, [], 0, .r .mv, [.c (.int .i64 0)]⟩]
def f29pc : PCode := .seq (.region f29r0 []) (.seq (.seq (.region f29r1 []) (.cond (.s 19) (.seq (.region f29r2 []) (.gh (.fz 107) (.ret))) (.skip))) (.seq (.region f29r3 []) (.seq (.region f29r4 []) (.gh (.own 7 107 58 4) (.seq (.region f29r5 []) (.seq (.region f29r6 []) (.gh (.own 9 109 3 1) (.seq (.region f29r7 []) (.seq (.seq (.region f29r8 []) (.block 0 (.loop f29l0))) (.seq (.seq (.region f29r32 []) (.cond (.s 119) (.seq (.region f29r33 []) (.gh (.fz 107) (.ret))) (.skip))) (.seq (.gh (.fz 107) (.region f29r34 [])) (.seq (.seq (.region f29r35 []) (.cond (.s 124) (.seq (.region f29r36 []) (.gh (.fz 107) (.ret))) (.skip))) (.seq (.region f29r37 []) (.gh (.fz 107) (.ret)))))))))))))))
def f29rs : List RArg := [.s 2 [some 4] [107], .s 3 [] [], .s 4 [] []]
end Go.Absw

/- Generated: the abstract texts of functions 52 23. -/
namespace Go.Absw
/- diorama/dioramaref19.Decimal : params [3] results [9] tmps 26 resvars [('tmp', 2)] -/
def f52r0 : List POp := [
  ⟨some 2, none, [], 0, .r .mv, [.c (.str [])]⟩]
def f52r1 : List POp := [
  ⟨some 3, none, [], 0, .r .mv, [.s 0]⟩,
  ⟨some 4, none, [], 0, .r (.bin .lss), [.s 3, .c (.int .i64 0)]⟩]
def f52r2 : List POp := [
  ⟨some 5, none, [], 0, .r .mv, [.s 0]⟩,
  ⟨some 6, none, [], 0, .r (.un .neg), [.s 5]⟩,
  ⟨some 7, none, [], 0, .call .f [] [], [.fn 52, .s 6]⟩,
  ⟨some 8, none, [], 0, .r (.bin .add), [.c (.str [45]), .s 7]⟩,
  ⟨some 2, none, [], 0, .r .mv, [.s 8]⟩]
def f52r3 : List POp := [
  ⟨some 9, none, [], 0, .r .mv, [.s 0]⟩,
  ⟨some 10, none, [], 0, .r (.bin .lss), [.s 9, .c (.int .i64 10)]⟩]
def f52r4 : List POp := [
  ⟨some 11, none, [], 0, .r .mv, [.s 0]⟩,
  ⟨some 12, none, [], 0, .r (.bin .add), [.c (.int .i64 48), .s 11]⟩,
  ⟨some 13, none, [], 0, .r (.cvi .u8), [.s 12]⟩,
  ⟨some 14, none, [114], 114, .a (.bsl 5 1 1 [.int .u8 0] [(0, 1)]), [.s 13]⟩,
  ⟨some 15, none, [114], 0, .r .b2s, [.s 14]⟩,
  ⟨some 2, none, [], 0, .r .mv, [.s 15]⟩]
def f52r5 : List POp := [
  ⟨some 16, none, [], 0, .r .mv, [.s 0]⟩,
  ⟨some 17, none, [], 0, .r (.bin .quo), [.s 16, .c (.int .i64 10)]⟩,
  ⟨some 18, none, [], 0, .call .f [] [], [.fn 52, .s 17]⟩,
  ⟨some 19, none, [], 0, .r .mv, [.s 0]⟩,
  ⟨some 20, none, [], 0, .r (.bin .rem), [.s 19, .c (.int .i64 10)]⟩,
  ⟨some 21, none, [], 0, .r (.bin .add), [.c (.int .i64 48), .s 20]⟩,
  ⟨some 22, none, [], 0, .r (.cvi .u8), [.s 21]⟩,
  ⟨some 23, none, [123], 123, .a (.bsl 5 1 1 [.int .u8 0] [(0, 1)]), [.s 22]⟩,
  ⟨some 24, none, [123], 0, .r .b2s, [.s 23]⟩,
  ⟨some 25, none, [], 0, .r (.bin .add), [.s 18, .s 24]⟩,
  ⟨some 2, none, [], 0, .r .mv, [.s 25]⟩]
def f52pc : PCode := .seq (.region f52r0 []) (.seq (.seq (.region f52r1 []) (.cond (.s 4) (.seq (.region f52r2 []) (.ret)) (.skip))) (.seq (.seq (.region f52r3 []) (.cond (.s 10) (.seq (.region f52r4 []) (.ret)) (.skip))) (.seq (.region f52r5 [[], [0], [0, 1], [], [3], [3, 4], [3, 4, 5], [3, 4, 5, 6], [3, 4, 5, 6, 7], [0, 1, 2, 3, 4, 5, 6, 7, 8], [0, 1, 2, 3, 4, 5, 6, 7, 8, 9]]) (.ret))))
def f52rs : List RArg := [.s 2 [] []]
/- diorama/dioramaref29.Print : params [32] results [9] tmps 55 resvars [('tmp', 2)] -/
def f23r0 : List POp := [
  ⟨some 2, none, [], 0, .r .mv, [.c (.str [])]⟩]
def f23r1 : List POp := [
  ⟨some 6, none, [], 0, .r .mv, [.s 0]⟩,
  ⟨some 7, none, [], 0, .call .f [] [], [.fn 19, .z 6 [some 4]]⟩,
  ⟨some 8, none, [], 0, .r (.bin .neq), [.s 7, .c (.int .i64 0)]⟩]
def f23r2 : List POp := [
  ⟨some 2, none, [], 0, .r .mv, [.c (.str [])]⟩]
def f23r3 : List POp := [
  ⟨some 3, none, [], 0, .r .mv, [.c (.str [])]⟩]
def f23r4 : List POp := [
  ⟨some 4, none, [], 0, .r .mv, [.c (.int .i64 0)]⟩]
def f23r5 : List POp := [
  ⟨some 9, none, [], 0, .r .mv, [.s 4]⟩,
  ⟨some 10, none, [], 0, .r .mv, [.s 0]⟩,
  ⟨some 11, none, [], 0, .r .len, [.s 10]⟩,
  ⟨some 12, none, [], 0, .r (.bin .lss), [.s 9, .s 11]⟩]
def f23r7 : List POp := [
  ⟨some 15, none, [], 0, .r .mv, [.s 3]⟩,
  ⟨some 16, none, [], 0, .call .f [] [], [.fn 51]⟩,
  ⟨some 17, none, [], 0, .r .mv, [.s 0]⟩,
  ⟨some 18, none, [], 0, .r .mv, [.s 4]⟩,
  ⟨some 19, none, [], 0, .r (.ixs 4), [.s 17, .s 18]⟩,
  ⟨some 20, none, [], 0, .r (.fad 0), [.s 19]⟩,
  ⟨some 21, none, [], 0, .r .ld1, [.s 20]⟩,
  ⟨some 22, none, [], 0, .r (.ixs 1), [.s 16, .s 21]⟩,
  ⟨some 23, none, [], 0, .r .ld1, [.s 22]⟩,
  ⟨some 24, none, [], 0, .r (.bin .add), [.s 15, .s 23]⟩,
  ⟨some 3, none, [], 0, .r .mv, [.s 24]⟩]
def f23r8 : List POp := [
  ⟨some 5, none, [], 0, .r .mv, [.c (.int .i64 0)]⟩]
def f23r9 : List POp := [
  ⟨some 25, none, [], 0, .r .mv, [.s 5]⟩,
  ⟨some 26, none, [], 0, .r (.bin .lss), [.s 25, .c (.int .i64 3)]⟩]
def f23r11 : List POp := [
  ⟨some 29, none, [], 0, .call .f [] [], [.fn 38]⟩,
  ⟨some 30, none, [], 0, .r .mv, [.s 0]⟩,
  ⟨some 31, none, [], 0, .r .mv, [.s 4]⟩,
  ⟨some 32, none, [], 0, .r (.ixs 4), [.s 30, .s 31]⟩,
  ⟨some 33, none, [], 0, .r (.fad 0), [.s 32]⟩,
  ⟨some 34, none, [], 0, .r .ld1, [.s 33]⟩,
  ⟨some 35, none, [], 0, .r (.ixs 1), [.s 29, .s 34]⟩,
  ⟨some 36, none, [], 0, .r .ld1, [.s 35]⟩,
  ⟨some 37, none, [], 0, .r .mv, [.s 5]⟩,
  ⟨some 38, none, [], 0, .r .ixc, [.s 36, .s 37]⟩,
  ⟨some 39, none, [], 0, .r (.bin .neq), [.s 38, .c (.int .u8 45)]⟩]
def f23r12 : List POp := [
  ⟨some 40, none, [], 0, .r .mv, [.s 3]⟩,
  ⟨some 41, none, [], 0, .r (.bin .add), [.s 40, .c (.str [32])]⟩,
  ⟨some 42, none, [], 0, .r .mv, [.s 0]⟩,
  ⟨some 43, none, [], 0, .r .mv, [.s 4]⟩,
  ⟨some 44, none, [], 0, .r (.ixs 4), [.s 42, .s 43]⟩,
  ⟨some 45, none, [], 0, .r (.ldn 4), [.s 44]⟩,
  ⟨some 46, none, [], 0, .call .f [] [], [.fn 53, .s 45]⟩,
  ⟨some 47, none, [], 0, .r .mv, [.s 5]⟩,
  ⟨some 48, none, [], 0, .r (.ixs 1), [.s 46, .s 47]⟩,
  ⟨some 49, none, [], 0, .r .ld1, [.s 48]⟩,
  ⟨some 50, none, [], 0, .call .f [] [], [.fn 52, .s 49]⟩,
  ⟨some 51, none, [], 0, .r (.bin .add), [.s 41, .s 50]⟩,
  ⟨some 3, none, [], 0, .r .mv, [.s 51]⟩]
def f23r10 : List POp := [
  ⟨some 27, none, [], 0, .r .mv, [.s 5]⟩,
  ⟨some 28, none, [], 0, .r (.bin .add), [.s 27, .c (.int .i64 1)]⟩,
  ⟨some 5, none, [], 0, .r .mv, [.s 28]⟩]
def f23l1 : PCode := .gh (.keep [0, 3, 4, 5] []) (.seq (.seq (.region f23r9 []) (.cond (.s 26) (.skip) (.exit 2))) (.seq (.block 3 (.seq (.region f23r11 [[], [], [], [1, 2], [1, 2, 3], [1, 2, 3, 4], [0, 1, 2, 3, 4, 5], [0, 1, 2, 3, 4, 5, 6], [], [0, 1, 2, 3, 4, 5, 6, 7, 8], [0, 1, 2, 3, 4, 5, 6, 7, 8, 9]]) (.cond (.s 39) (.region f23r12 []) (.skip)))) (.region f23r10 [])))
/- f23l1: slots [0, 3, 4, 5], tokens [] -/
def f23r13 : List POp := [
  ⟨some 52, none, [], 0, .r .mv, [.s 3]⟩,
  ⟨some 53, none, [], 0, .r (.bin .add), [.s 52, .c (.str [10])]⟩,
  ⟨some 3, none, [], 0, .r .mv, [.s 53]⟩]
def f23r6 : List POp := [
  ⟨some 13, none, [], 0, .r .mv, [.s 4]⟩,
  ⟨some 14, none, [], 0, .r (.bin .add), [.s 13, .c (.int .i64 1)]⟩,
  ⟨some 4, none, [], 0, .r .mv, [.s 14]⟩]
def f23l0 : PCode := .gh (.keep [0, 3, 4] []) (.seq (.seq (.region f23r5 []) (.cond (.s 12) (.skip) (.exit 0))) (.seq (.block 1 (.seq (.region f23r7 [[], [], [], [], [2, 3], [2, 3, 4], [2, 3, 4, 5], [1, 2, 3, 4, 5, 6], [1, 2, 3, 4, 5, 6, 7], [0, 1, 2, 3, 4, 5, 6, 7, 8], [0, 1, 2, 3, 4, 5, 6, 7, 8, 9]]) (.seq (.seq (.region f23r8 []) (.block 2 (.loop f23l1))) (.region f23r13 [])))) (.region f23r6 [])))
/- f23l0: slots [0, 3, 4], tokens [] -/
def f23r14 : List POp := [
  ⟨some 54, none, [], 0, .r .mv, [.s 3]⟩,
  ⟨some 2, none, [], 0, .r .mv, [.s 54]⟩]
def f23pc : PCode := .seq (.region f23r0 []) (.seq (.seq (.region f23r1 []) (.cond (.s 8) (.seq (.region f23r2 []) (.ret)) (.skip))) (.seq (.region f23r3 []) (.seq (.seq (.region f23r4 []) (.block 0 (.loop f23l0))) (.seq (.region f23r14 []) (.ret)))))
def f23rs : List RArg := [.s 2 [] []]
end Go.Absw

/- Generated: the abstract texts of functions 26 27. -/
namespace Go.Absw
/- diorama/dioramaref09.Spaced : params [9, 22] results [9] tmps 42 resvars [('tmp', 4)] -/
def f26r0 : List POp := [
  ⟨some 4, none, [], 0, .r .mv, [.c (.str [])]⟩]
def f26r1 : List POp := [
  ⟨some 10, none, [], 0, .r .mv, [.s 0]⟩,
  ⟨some 11, none, [], 0, .call .f [] [], [.fn 58, .s 10]⟩,
  ⟨some 9, none, [], 0, .r .mv, [.s 11]⟩,
  ⟨some 12, none, [], 0, .r (.ext 0), [.s 9]⟩,
  ⟨some 13, none, [], 0, .r (.ext 1), [.s 9]⟩,
  ⟨some 5, none, [], 0, .r .mv, [.s 12]⟩,
  ⟨some 6, none, [], 0, .r .mv, [.s 13]⟩]
def f26r2 : List POp := [
  ⟨some 7, none, [], 0, .r .mv, [.c (.str [])]⟩]
def f26r3 : List POp := [
  ⟨some 8, none, [], 0, .r .mv, [.c (.int .i64 0)]⟩]
def f26r4 : List POp := [
  ⟨some 14, none, [], 0, .r .mv, [.s 8]⟩,
  ⟨some 15, none, [], 0, .r .mv, [.s 5]⟩,
  ⟨some 16, none, [], 0, .r .len, [.s 15]⟩,
  ⟨some 17, none, [], 0, .r (.bin .lss), [.s 14, .s 16]⟩]
def f26r6 : List POp := [
  ⟨some 20, none, [], 0, .r .mv, [.s 7]⟩,
  ⟨some 21, none, [121], 121, .a (.bsl 9 1 3 [.str []] [(0, 1), (1, 1), (2, 1)]), [.c (.str [32]), .c (.str [10]), .c (.str [32, 32, 10, 32])]⟩,
  ⟨some 22, none, [], 0, .r .mv, [.s 1]⟩,
  ⟨some 23, none, [], 0, .r .mv, [.s 8]⟩,
  ⟨some 24, none, [], 0, .call .f [] [], [.fn 35, .z 22 [some 1], .s 23, .c (.int .i64 3)]⟩,
  ⟨some 25, none, [121], 0, .r (.ixs 1), [.s 21, .s 24]⟩,
  ⟨some 26, none, [121], 0, .r .ld1, [.s 25]⟩,
  ⟨some 27, none, [], 0, .r (.bin .add), [.s 20, .s 26]⟩,
  ⟨some 28, none, [], 0, .r .mv, [.s 0]⟩,
  ⟨some 29, none, [], 0, .r .mv, [.s 5]⟩,
  ⟨some 30, none, [], 0, .r .mv, [.s 8]⟩,
  ⟨some 31, none, [], 0, .r (.ixs 2), [.s 29, .s 30]⟩,
  ⟨some 32, none, [], 0, .r (.fad 0), [.s 31]⟩,
  ⟨some 33, none, [], 0, .r .ld1, [.s 32]⟩,
  ⟨some 34, none, [], 0, .r .mv, [.s 5]⟩,
  ⟨some 35, none, [], 0, .r .mv, [.s 8]⟩,
  ⟨some 36, none, [], 0, .r (.ixs 2), [.s 34, .s 35]⟩,
  ⟨some 37, none, [], 0, .r (.fad 1), [.s 36]⟩,
  ⟨some 38, none, [], 0, .r .ld1, [.s 37]⟩,
  ⟨some 39, none, [], 0, .r (.sls true true), [.s 28, .s 33, .s 38]⟩,
  ⟨some 40, none, [], 0, .r (.bin .add), [.s 27, .s 39]⟩,
  ⟨some 7, none, [], 0, .r .mv, [.s 40]⟩]
def f26r5 : List POp := [
  ⟨some 18, none, [], 0, .r .mv, [.s 8]⟩,
  ⟨some 19, none, [], 0, .r (.bin .add), [.s 18, .c (.int .i64 1)]⟩,
  ⟨some 8, none, [], 0, .r .mv, [.s 19]⟩]
def f26l0 : PCode := .gh (.keep [0, 1, 5, 7, 8] []) (.seq (.seq (.region f26r4 []) (.cond (.s 17) (.skip) (.exit 0))) (.seq (.block 1 (.region f26r6 [[], [], [], [], [2, 3], [1, 2, 3, 4], [1, 2, 3, 4, 5], [0, 1, 2, 3, 4, 5, 6], [], [], [], [9, 10], [9, 10, 11], [9, 10, 11, 12], [], [], [14, 15], [14, 15, 16], [14, 15, 16, 17], [8, 9, 10, 11, 12, 13, 14, 15, 16, 17, 18], [0, 1, 2, 3, 4, 5, 6, 7, 8, 9, 10, 11, 12, 13, 14, 15, 16, 17, 18, 19], [0, 1, 2, 3, 4, 5, 6, 7, 8, 9, 10, 11, 12, 13, 14, 15, 16, 17, 18, 19, 20]])) (.region f26r5 [])))
/- f26l0: slots [0, 1, 5, 7, 8], tokens [] -/
def f26r7 : List POp := [
  ⟨some 41, none, [], 0, .r .mv, [.s 7]⟩,
  ⟨some 4, none, [], 0, .r .mv, [.s 41]⟩]
def f26pc : PCode := .seq (.region f26r0 []) (.seq (.region f26r1 []) (.seq (.region f26r2 []) (.seq (.seq (.region f26r3 []) (.block 0 (.loop f26l0))) (.seq (.region f26r7 []) (.ret)))))
def f26rs : List RArg := [.s 4 [] []]
/- diorama/dioramaref09.Changed : params [9, 3, 3, 3] results [9] tmps 107 resvars [('tmp', 8)] -/
def f27r0 : List POp := [
  ⟨some 8, none, [], 0, .r .mv, [.c (.str [])]⟩]
def f27r1 : List POp := [
  ⟨some 15, none, [], 0, .r .mv, [.s 0]⟩,
  ⟨some 16, none, [], 0, .call .f [] [], [.fn 58, .s 15]⟩,
  ⟨some 14, none, [], 0, .r .mv, [.s 16]⟩,
  ⟨some 17, none, [], 0, .r (.ext 0), [.s 14]⟩,
  ⟨some 18, none, [], 0, .r (.ext 1), [.s 14]⟩,
  ⟨some 9, none, [], 0, .r .mv, [.s 17]⟩,
  ⟨some 10, none, [], 0, .r .mv, [.s 18]⟩]
def f27r2 : List POp := [
  ⟨some 19, none, [119], 119, .a (.bsl 9 1 18 [.str []] [(0, 1), (1, 1), (2, 1), (3, 1), (4, 1), (5, 1), (6, 1), (7, 1), (8, 1), (9, 1), (10, 1), (11, 1), (12, 1), (13, 1), (14, 1), (15, 1), (16, 1), (17, 1)]), [.c (.str [115, 99, 104, 101, 109, 97]), .c (.str [107, 105, 110, 100]), .c (.str [120]), .c (.str [45]), .c (.str [49]), .c (.str [45, 49]), .c (.str [48]), .c (.str [49, 48, 48, 48, 48, 48, 48, 48, 48, 48]), .c (.str [114, 117, 108, 101]), .c (.str [109, 111, 118, 101]), .c (.str [108, 105, 102, 101]), .c (.str [107, 101, 121]), .c (.str [110, 117, 109]), .c (.str [112, 105, 99, 107]), .c (.str [49, 51]), .c (.str [85, 112, 112, 101, 114]), .c (.str [115, 104, 97, 114, 101]), .c (.str [100, 97, 121])]⟩,
  ⟨some 20, none, [], 0, .r .mv, [.s 3]⟩,
  ⟨some 21, none, [], 0, .call .f [] [], [.fn 13, .s 20, .c (.int .i64 18)]⟩,
  ⟨some 22, none, [119], 0, .r (.ixs 1), [.s 19, .s 21]⟩,
  ⟨some 23, none, [119], 0, .r .ld1, [.s 22]⟩,
  ⟨some 11, none, [], 0, .r .mv, [.s 23]⟩]
def f27r3 : List POp := [
  ⟨some 24, none, [], 0, .r .mv, [.s 9]⟩,
  ⟨some 25, none, [], 0, .r .len, [.s 24]⟩,
  ⟨some 26, none, [], 0, .r (.bin .eql), [.s 25, .c (.int .i64 0)]⟩]
def f27r4 : List POp := [
  ⟨some 27, none, [], 0, .r .mv, [.s 0]⟩,
  ⟨some 28, none, [], 0, .r .mv, [.s 11]⟩,
  ⟨some 29, none, [], 0, .r (.bin .add), [.s 27, .s 28]⟩,
  ⟨some 8, none, [], 0, .r .mv, [.s 29]⟩]
def f27r5 : List POp := [
  ⟨some 30, none, [], 0, .r .mv, [.s 9]⟩,
  ⟨some 31, none, [], 0, .r .mv, [.s 1]⟩,
  ⟨some 32, none, [], 0, .r .mv, [.s 9]⟩,
  ⟨some 33, none, [], 0, .r .len, [.s 32]⟩,
  ⟨some 34, none, [], 0, .call .f [] [], [.fn 13, .s 31, .s 33]⟩,
  ⟨some 35, none, [], 0, .r (.ixs 2), [.s 30, .s 34]⟩,
  ⟨some 36, none, [], 0, .r (.ldn 2), [.s 35]⟩,
  ⟨some 12, none, [112], 112, .a (.alloc 133 [.int .i64 0, .int .i64 0]), []⟩,
  ⟨none, none, [112], 0, .st 2, [.s 12, .s 36]⟩]
def f27r6 : List POp := [
  ⟨some 37, none, [], 0, .r .mv, [.s 2]⟩,
  ⟨some 38, none, [], 0, .call .f [] [], [.fn 13, .s 37, .c (.int .i64 6)]⟩]
def f27r7 : List POp := [
  ⟨some 40, none, [], 0, .r (.bin .eql), [.s 38, .c (.int .i64 0)]⟩,
  ⟨some 39, none, [], 0, .r .mv, [.s 40]⟩]
def f27r8 : List POp := [
  ⟨some 41, none, [], 0, .r .mv, [.s 0]⟩,
  ⟨some 42, none, [112], 0, .r (.fad 0), [.s 12]⟩,
  ⟨some 43, none, [112], 0, .r .ld1, [.s 42]⟩,
  ⟨some 44, none, [], 0, .r (.sls false true), [.s 41, .s 43]⟩,
  ⟨some 45, none, [], 0, .r .mv, [.s 0]⟩,
  ⟨some 46, none, [112], 0, .r (.fad 1), [.s 12]⟩,
  ⟨some 47, none, [112], 0, .r .ld1, [.s 46]⟩,
  ⟨some 48, none, [], 0, .r (.sls true false), [.s 45, .s 47]⟩,
  ⟨some 49, none, [], 0, .r (.bin .add), [.s 44, .s 48]⟩,
  ⟨some 8, none, [], 0, .r .mv, [.s 49]⟩]
def f27r9 : List POp := [
  ⟨some 51, none, [], 0, .r (.bin .eql), [.s 38, .c (.int .i64 1)]⟩,
  ⟨some 50, none, [], 0, .r .mv, [.s 51]⟩]
def f27r10 : List POp := [
  ⟨some 52, none, [], 0, .r .mv, [.s 0]⟩,
  ⟨some 53, none, [112], 0, .r (.fad 1), [.s 12]⟩,
  ⟨some 54, none, [112], 0, .r .ld1, [.s 53]⟩,
  ⟨some 55, none, [], 0, .r (.sls false true), [.s 52, .s 54]⟩,
  ⟨some 56, none, [], 0, .r (.bin .add), [.s 55, .c (.str [32])]⟩,
  ⟨some 57, none, [], 0, .r .mv, [.s 0]⟩,
  ⟨some 58, none, [112], 0, .r (.fad 0), [.s 12]⟩,
  ⟨some 59, none, [112], 0, .r .ld1, [.s 58]⟩,
  ⟨some 60, none, [], 0, .r (.sls true false), [.s 57, .s 59]⟩,
  ⟨some 61, none, [], 0, .r (.bin .add), [.s 56, .s 60]⟩,
  ⟨some 8, none, [], 0, .r .mv, [.s 61]⟩]
def f27r11 : List POp := [
  ⟨some 63, none, [], 0, .r (.bin .eql), [.s 38, .c (.int .i64 2)]⟩,
  ⟨some 62, none, [], 0, .r .mv, [.s 63]⟩]
def f27r12 : List POp := [
  ⟨some 64, none, [], 0, .r .mv, [.s 0]⟩,
  ⟨some 65, none, [112], 0, .r (.fad 0), [.s 12]⟩,
  ⟨some 66, none, [112], 0, .r .ld1, [.s 65]⟩,
  ⟨some 67, none, [], 0, .r (.sls false true), [.s 64, .s 66]⟩,
  ⟨some 68, none, [], 0, .r .mv, [.s 11]⟩,
  ⟨some 69, none, [], 0, .r (.bin .add), [.s 67, .s 68]⟩,
  ⟨some 70, none, [], 0, .r .mv, [.s 0]⟩,
  ⟨some 71, none, [112], 0, .r (.fad 1), [.s 12]⟩,
  ⟨some 72, none, [112], 0, .r .ld1, [.s 71]⟩,
  ⟨some 73, none, [], 0, .r (.sls true false), [.s 70, .s 72]⟩,
  ⟨some 74, none, [], 0, .r (.bin .add), [.s 69, .s 73]⟩,
  ⟨some 8, none, [], 0, .r .mv, [.s 74]⟩]
def f27r13 : List POp := [
  ⟨some 76, none, [], 0, .r (.bin .eql), [.s 38, .c (.int .i64 3)]⟩,
  ⟨some 75, none, [], 0, .r .mv, [.s 76]⟩]
def f27r14 : List POp := [
  ⟨some 77, none, [], 0, .r .mv, [.s 0]⟩,
  ⟨some 78, none, [112], 0, .r (.fad 0), [.s 12]⟩,
  ⟨some 79, none, [112], 0, .r .ld1, [.s 78]⟩,
  ⟨some 80, none, [], 0, .r (.sls false true), [.s 77, .s 79]⟩,
  ⟨some 8, none, [], 0, .r .mv, [.s 80]⟩]
def f27r15 : List POp := [
  ⟨some 82, none, [], 0, .r (.bin .eql), [.s 38, .c (.int .i64 4)]⟩,
  ⟨some 81, none, [], 0, .r .mv, [.s 82]⟩]
def f27r16 : List POp := [
  ⟨some 83, none, [], 0, .r .mv, [.s 0]⟩,
  ⟨some 84, none, [112], 0, .r (.fad 0), [.s 12]⟩,
  ⟨some 85, none, [112], 0, .r .ld1, [.s 84]⟩,
  ⟨some 86, none, [], 0, .r (.sls false true), [.s 83, .s 85]⟩,
  ⟨some 87, none, [], 0, .r .mv, [.s 11]⟩,
  ⟨some 88, none, [], 0, .r (.bin .add), [.s 86, .s 87]⟩,
  ⟨some 89, none, [], 0, .r (.bin .add), [.s 88, .c (.str [32])]⟩,
  ⟨some 90, none, [], 0, .r .mv, [.s 0]⟩,
  ⟨some 91, none, [112], 0, .r (.fad 0), [.s 12]⟩,
  ⟨some 92, none, [112], 0, .r .ld1, [.s 91]⟩,
  ⟨some 93, none, [], 0, .r (.sls true false), [.s 90, .s 92]⟩,
  ⟨some 94, none, [], 0, .r (.bin .add), [.s 89, .s 93]⟩,
  ⟨some 8, none, [], 0, .r .mv, [.s 94]⟩]
def f27r17 : List POp := [
  ⟨some 95, none, [], 0, .r .mv, [.s 0]⟩,
  ⟨some 96, none, [196], 196, .a (.s2b 5), [.s 95]⟩,
  ⟨some 13, none, [], 0, .r .mv, [.s 96]⟩]
def f27r18 : List POp := [
  ⟨some 97, none, [], 0, .r .mv, [.s 13]⟩,
  ⟨some 98, none, [], 0, .r .mv, [.s 1]⟩,
  ⟨some 99, none, [], 0, .r .mv, [.s 13]⟩,
  ⟨some 100, none, [196], 0, .r .len, [.s 99]⟩,
  ⟨some 101, none, [], 0, .call .f [] [], [.fn 13, .s 98, .s 100]⟩,
  ⟨some 102, none, [], 0, .r .mv, [.s 3]⟩,
  ⟨some 103, none, [], 0, .r (.cvi .u8), [.s 102]⟩,
  ⟨some 104, none, [196], 0, .r (.ixs 1), [.s 97, .s 101]⟩,
  ⟨none, none, [196], 0, .st 1, [.s 104, .s 103]⟩]
def f27r19 : List POp := [
  ⟨some 105, none, [], 0, .r .mv, [.s 13]⟩,
  ⟨some 106, none, [196], 0, .r .b2s, [.s 105]⟩,
  ⟨some 8, none, [], 0, .r .mv, [.s 106]⟩]
def f27pc : PCode := .seq (.region f27r0 []) (.seq (.region f27r1 []) (.seq (.region f27r2 []) (.seq (.seq (.region f27r3 []) (.cond (.s 26) (.seq (.region f27r4 []) (.ret)) (.skip))) (.seq (.region f27r5 []) (.seq (.seq (.region f27r6 []) (.block 0 (.seq (.region f27r7 []) (.cond (.s 39) (.seq (.region f27r8 [[], [], [1], [0, 1, 2], [], [], [5], [4, 5, 6], [0, 1, 2, 3, 4, 5, 6, 7], [0, 1, 2, 3, 4, 5, 6, 7, 8]]) (.ret)) (.seq (.region f27r9 []) (.cond (.s 50) (.seq (.region f27r10 [[], [], [1], [0, 1, 2], [0, 1, 2, 3], [], [], [6], [5, 6, 7], [0, 1, 2, 3, 4, 5, 6, 7, 8], [0, 1, 2, 3, 4, 5, 6, 7, 8, 9]]) (.ret)) (.seq (.region f27r11 []) (.cond (.s 62) (.seq (.region f27r12 [[], [], [1], [0, 1, 2], [], [0, 1, 2, 3, 4], [], [], [7], [6, 7, 8], [0, 1, 2, 3, 4, 5, 6, 7, 8, 9], [0, 1, 2, 3, 4, 5, 6, 7, 8, 9, 10]]) (.ret)) (.seq (.region f27r13 []) (.cond (.s 75) (.seq (.region f27r14 []) (.ret)) (.seq (.region f27r15 []) (.cond (.s 81) (.seq (.region f27r16 [[], [], [1], [0, 1, 2], [], [0, 1, 2, 3, 4], [0, 1, 2, 3, 4, 5], [], [], [8], [7, 8, 9], [0, 1, 2, 3, 4, 5, 6, 7, 8, 9, 10], [0, 1, 2, 3, 4, 5, 6, 7, 8, 9, 10, 11]]) (.ret)) (.skip))))))))))))) (.seq (.region f27r17 []) (.seq (.region f27r18 []) (.seq (.region f27r19 []) (.ret)))))))))
def f27rs : List RArg := [.s 8 [] []]
end Go.Absw

/- Generated: the abstract texts of functions 7 8. -/
namespace Go.Absw
/- diorama/dioramalaw29.VmReads : params [22, 22, 3, 3, 3, 9] results [4] tmps 123 resvars [('tmp', 12)] -/
def f7r0 : List POp := [
  ⟨some 12, none, [], 0, .r .mv, [.c (.bool false)]⟩]
def f7r1 : List POp := [
  ⟨some 25, none, [], 0, .r .mv, [.s 0]⟩,
  ⟨some 26, none, [], 0, .call .f [] [], [.fn 9, .z 25 [some 1]]⟩,
  ⟨some 27, none, [], 0, .r .mv, [.s 1]⟩,
  ⟨some 28, none, [], 0, .call .f [] [], [.fn 11, .z 26 [none, some 4, some 3, some 5], .z 27 [some 1]]⟩,
  ⟨some 13, none, [], 0, .r .mv, [.s 28]⟩]
def f7r2 : List POp := [
  ⟨some 29, none, [], 0, .r .mv, [.s 13]⟩,
  ⟨some 30, none, [], 0, .call .f [] [], [.fn 23, .z 29 [some 4]]⟩,
  ⟨some 14, none, [], 0, .r .mv, [.s 30]⟩]
def f7r3 : List POp := [
  ⟨some 31, none, [], 0, .r .mv, [.s 13]⟩,
  ⟨some 32, none, [], 0, .call .f [] [], [.fn 15, .z 31 [some 4]]⟩,
  ⟨some 33, none, [], 0, .call .f [] [], [.fn 24, .z 32 [some 4]]⟩,
  ⟨some 34, none, [], 0, .r .mv, [.s 14]⟩,
  ⟨some 35, none, [], 0, .r (.bin .neq), [.s 33, .s 34]⟩,
  ⟨some 36, none, [], 0, .r .mv, [.s 35]⟩,
  ⟨some 37, (some (36, false)), [], 0, .r .mv, [.s 13]⟩,
  ⟨some 38, (some (36, false)), [], 0, .r .mv, [.s 2]⟩,
  ⟨some 39, (some (36, false)), [], 0, .r .mv, [.s 3]⟩,
  ⟨some 40, (some (36, false)), [], 0, .r .mv, [.s 4]⟩,
  ⟨some 41, (some (36, false)), [], 0, .call .f [] [], [.fn 12, .z 37 [some 4], .s 38, .s 39, .s 40]⟩,
  ⟨some 42, (some (36, false)), [], 0, .call .f [] [], [.fn 15, .z 41 [some 4]]⟩,
  ⟨some 43, (some (36, false)), [], 0, .call .f [] [], [.fn 24, .z 42 [some 4]]⟩,
  ⟨some 44, (some (36, false)), [], 0, .r .mv, [.s 13]⟩,
  ⟨some 45, (some (36, false)), [], 0, .r .mv, [.s 2]⟩,
  ⟨some 46, (some (36, false)), [], 0, .r .mv, [.s 3]⟩,
  ⟨some 47, (some (36, false)), [], 0, .r .mv, [.s 4]⟩,
  ⟨some 48, (some (36, false)), [], 0, .call .f [] [], [.fn 12, .z 44 [some 4], .s 45, .s 46, .s 47]⟩,
  ⟨some 49, (some (36, false)), [], 0, .call .f [] [], [.fn 23, .z 48 [some 4]]⟩,
  ⟨some 50, (some (36, false)), [], 0, .r (.bin .neq), [.s 43, .s 49]⟩,
  ⟨some 51, none, [], 0, .r .pick, [.s 36, .c (.bool true), .s 50]⟩]
def f7r4 : List POp := [
  ⟨some 12, none, [], 0, .r .mv, [.c (.bool false)]⟩]
def f7r5 : List POp := [
  ⟨some 52, none, [], 0, .r .mv, [.s 5]⟩,
  ⟨some 53, none, [], 0, .call .f [] [], [.fn 25, .s 52, .c (.int .i64 60)]⟩,
  ⟨some 15, none, [], 0, .r .mv, [.s 53]⟩]
def f7r6 : List POp := [
  ⟨some 54, none, [], 0, .r .mv, [.s 14]⟩,
  ⟨some 55, none, [], 0, .r .mv, [.s 14]⟩,
  ⟨some 56, none, [], 0, .r .mv, [.s 1]⟩,
  ⟨some 57, none, [], 0, .call .f [] [], [.fn 26, .s 55, .z 56 [some 1]]⟩,
  ⟨some 58, none, [], 0, .r .mv, [.s 15]⟩,
  ⟨some 59, none, [], 0, .r .mv, [.s 14]⟩,
  ⟨some 60, none, [], 0, .r .mv, [.s 15]⟩,
  ⟨some 61, none, [], 0, .r (.bin .add), [.s 59, .s 60]⟩,
  ⟨some 62, none, [], 0, .r .mv, [.s 15]⟩,
  ⟨some 63, none, [], 0, .r (.bin .add), [.c (.str [108, 111, 97, 100, 32, 48, 32]), .s 62]⟩,
  ⟨some 64, none, [164], 164, .a (.bsl 9 1 8 [.str []] [(0, 1), (1, 1), (2, 1), (3, 1), (4, 1), (5, 1), (6, 1), (7, 1)]), [.s 54, .s 57, .s 58, .s 61, .s 63, .c (.str [115, 116, 111, 112, 32, 48, 48, 55, 32, 106, 117, 109, 112, 32, 48, 48, 48, 48, 48, 48, 49]), .c (.str [108, 111, 97, 100, 32, 55, 32, 45, 49, 48, 52, 56, 53, 55, 55]), .c (.str [108, 111, 97, 100, 32, 55, 32, 49, 48, 52, 56, 53, 55, 54, 48])]⟩,
  ⟨some 16, none, [], 0, .r .mv, [.s 64]⟩]
def f7r7 : List POp := [
  ⟨some 65, none, [], 0, .r .mv, [.s 14]⟩,
  ⟨some 66, none, [], 0, .r .lens, [.s 65]⟩,
  ⟨some 67, none, [], 0, .r (.bin .gtr), [.s 66, .c (.int .i64 0)]⟩]
def f7r8 : List POp := [
  ⟨some 68, none, [], 0, .r .mv, [.s 14]⟩,
  ⟨some 69, none, [], 0, .r .mv, [.s 2]⟩,
  ⟨some 70, none, [], 0, .r .mv, [.s 3]⟩,
  ⟨some 71, none, [], 0, .r .mv, [.s 4]⟩,
  ⟨some 72, none, [], 0, .call .f [] [], [.fn 27, .s 68, .s 69, .s 70, .s 71]⟩,
  ⟨some 17, none, [], 0, .r .mv, [.s 72]⟩]
def f7r9 : List POp := [
  ⟨some 73, none, [], 0, .r .mv, [.s 16]⟩,
  ⟨some 74, none, [], 0, .r .mv, [.s 17]⟩,
  ⟨some 75, none, [], 0, .r .mv, [.s 17]⟩,
  ⟨some 76, none, [], 0, .r .mv, [.s 4]⟩,
  ⟨some 77, none, [], 0, .r .mv, [.s 3]⟩,
  ⟨some 78, none, [], 0, .r (.bin .quo), [.s 77, .c (.int .i64 6)]⟩,
  ⟨some 79, none, [], 0, .r .mv, [.s 2]⟩,
  ⟨some 80, none, [], 0, .call .f [] [], [.fn 27, .s 75, .s 76, .s 78, .s 79]⟩,
  ⟨some 81, none, [181], 181, .az (.bsl 9 1 2 [.str []] [(0, 1), (1, 1)]), [.s 74, .s 80]⟩,
  ⟨some 82, none, [164, 182], 182, .app 9 1 16, [.s 73, .s 81]⟩,
  ⟨some 16, none, [], 0, .r .mv, [.s 82]⟩]
def f7r10 : List POp := [
  ⟨some 18, none, [], 0, .r .mv, [.c (.int .i64 0)]⟩]
def f7r11 : List POp := [
  ⟨some 83, none, [], 0, .r .mv, [.s 18]⟩,
  ⟨some 84, none, [], 0, .r .mv, [.s 16]⟩,
  ⟨some 85, none, [164], 0, .r .len, [.s 84]⟩,
  ⟨some 86, none, [], 0, .r (.bin .lss), [.s 83, .s 85]⟩]
def f7r13 : List POp := [
  ⟨some 90, none, [], 0, .r .mv, [.s 16]⟩,
  ⟨some 91, none, [], 0, .r .mv, [.s 18]⟩,
  ⟨some 92, none, [164], 0, .r (.ixs 1), [.s 90, .s 91]⟩,
  ⟨some 93, none, [164], 0, .r .ld1, [.s 92]⟩,
  ⟨some 94, none, [], 0, .call .f [] [], [.fn 28, .s 93]⟩,
  ⟨some 89, none, [], 0, .r .mv, [.s 94]⟩,
  ⟨some 95, none, [], 0, .r (.ext 0), [.s 89]⟩,
  ⟨some 96, none, [], 0, .r (.ext 1), [.s 89]⟩,
  ⟨some 97, none, [], 0, .r (.ext 2), [.s 89]⟩,
  ⟨some 19, none, [], 0, .r .mv, [.s 95]⟩,
  ⟨some 20, none, [], 0, .r .mv, [.s 96]⟩,
  ⟨some 21, none, [], 0, .r .mv, [.s 97]⟩]
def f7r14 : List POp := [
  ⟨some 99, none, [], 0, .r .mv, [.s 16]⟩,
  ⟨some 100, none, [], 0, .r .mv, [.s 18]⟩,
  ⟨some 101, none, [164], 0, .r (.ixs 1), [.s 99, .s 100]⟩,
  ⟨some 102, none, [164], 0, .r .ld1, [.s 101]⟩,
  ⟨some 103, none, [], 0, .call .f [] [], [.fn 29, .s 102]⟩,
  ⟨some 98, none, [], 0, .r .mv, [.s 103]⟩,
  ⟨some 104, none, [], 0, .r (.ext 0), [.s 98]⟩,
  ⟨some 105, none, [], 0, .r (.ext 1), [.s 98]⟩,
  ⟨some 106, none, [], 0, .r (.ext 2), [.s 98]⟩,
  ⟨some 22, none, [], 0, .r .mv, [.s 104]⟩,
  ⟨some 23, none, [], 0, .r .mv, [.s 105]⟩,
  ⟨some 24, none, [], 0, .r .mv, [.s 106]⟩]
def f7r15 : List POp := [
  ⟨some 107, none, [], 0, .r .mv, [.s 20]⟩,
  ⟨some 108, none, [], 0, .r .mv, [.s 23]⟩,
  ⟨some 109, none, [], 0, .r (.bin .neq), [.s 107, .s 108]⟩,
  ⟨some 110, none, [], 0, .r .mv, [.s 109]⟩,
  ⟨some 111, (some (110, false)), [], 0, .r .mv, [.s 21]⟩,
  ⟨some 112, (some (110, false)), [], 0, .r .mv, [.s 24]⟩,
  ⟨some 113, (some (110, false)), [], 0, .r (.bin .neq), [.s 111, .s 112]⟩,
  ⟨some 114, none, [], 0, .r .pick, [.s 110, .c (.bool true), .s 113]⟩,
  ⟨some 115, none, [], 0, .r .mv, [.s 114]⟩,
  ⟨some 116, (some (115, false)), [], 0, .r .mv, [.s 19]⟩,
  ⟨some 117, (some (115, false)), [], 0, .call .f [] [], [.fn 31, .z 116 [some 4]]⟩,
  ⟨some 118, (some (115, false)), [], 0, .r .mv, [.s 22]⟩,
  ⟨some 119, (some (115, false)), [], 0, .call .f [] [], [.fn 30, .z 117 [some 4], .z 118 [some 4]]⟩,
  ⟨some 120, (some (115, false)), [], 0, .r (.un .not), [.s 119]⟩,
  ⟨some 121, none, [], 0, .r .pick, [.s 115, .c (.bool true), .s 120]⟩]
def f7r16 : List POp := [
  ⟨some 12, none, [], 0, .r .mv, [.c (.bool false)]⟩]
def f7r12 : List POp := [
  ⟨some 87, none, [], 0, .r .mv, [.s 18]⟩,
  ⟨some 88, none, [], 0, .r (.bin .add), [.s 87, .c (.int .i64 1)]⟩,
  ⟨some 18, none, [], 0, .r .mv, [.s 88]⟩]
def f7l0 : PCode := .gh (.keep [16, 18] [164]) (.seq (.seq (.region f7r11 []) (.cond (.s 86) (.skip) (.exit 0))) (.seq (.block 1 (.seq (.region f7r13 []) (.seq (.region f7r14 []) (.seq (.region f7r15 []) (.cond (.s 121) (.seq (.region f7r16 []) (.ret)) (.skip)))))) (.region f7r12 [])))
/- f7l0: slots [16, 18], tokens [164] -/
def f7r17 : List POp := [
  ⟨some 122, none, [], 0, .call .f [] [], [.fn 17]⟩,
  ⟨some 12, none, [], 0, .r .mv, [.s 122]⟩]
def f7pc : PCode := .seq (.region f7r0 []) (.seq (.region f7r1 []) (.seq (.region f7r2 []) (.seq (.seq (.region f7r3 []) (.cond (.s 51) (.seq (.region f7r4 []) (.ret)) (.skip))) (.seq (.region f7r5 []) (.seq (.region f7r6 []) (.seq (.seq (.region f7r7 []) (.cond (.s 67) (.seq (.region f7r8 []) (.region f7r9 [])) (.skip))) (.seq (.seq (.region f7r10 []) (.block 0 (.loop f7l0))) (.seq (.region f7r17 []) (.ret)))))))))
def f7rs : List RArg := [.s 12 [] []]
/- diorama/dioramalaw29.VmAgain : params [22, 22, 22, 22] results [4] tmps 101 resvars [('tmp', 8)] -/
def f8r0 : List POp := [
  ⟨some 8, none, [], 0, .r .mv, [.c (.bool false)]⟩]
def f8r1 : List POp := [
  ⟨some 21, none, [], 0, .r .mv, [.s 0]⟩,
  ⟨some 22, none, [], 0, .call .f [] [], [.fn 9, .z 21 [some 1]]⟩,
  ⟨some 9, none, [109], 109, .a (.alloc 27 [.int .i64 0, .nils, .nils, .nils]), []⟩,
  ⟨none, none, [109], 0, .st 4, [.s 9, .z 22 [none, some 4, some 3, some 5]]⟩]
def f8r2 : List POp := [
  ⟨some 23, none, [109], 0, .r (.ldn 4), [.s 9]⟩,
  ⟨some 24, none, [], 0, .r .mv, [.s 2]⟩,
  ⟨some 25, none, [], 0, .call .f [] [], [.fn 10, .z 23 [none, some 4, some 3, some 5], .z 24 [some 1], .c (.bool false)]⟩,
  ⟨some 26, none, [], 0, .r (.build [.nils] [(0, 1)]), [.s 25]⟩,
  ⟨some 10, none, [110], 110, .a (.alloc 46 [.nils]), []⟩,
  ⟨none, none, [110], 0, .st 1, [.s 10, .z 26 [some 1]]⟩]
def f8r3 : List POp := [
  ⟨some 27, none, [109], 0, .r (.ldn 4), [.s 9]⟩,
  ⟨some 28, none, [], 0, .r .mv, [.s 1]⟩,
  ⟨some 29, none, [], 0, .call .f [] [], [.fn 11, .z 27 [none, some 4, some 3, some 5], .z 28 [some 1]]⟩,
  ⟨some 11, none, [], 0, .r .mv, [.s 29]⟩]
def f8r4 : List POp := [
  ⟨some 31, none, [], 0, .r .mv, [.s 11]⟩,
  ⟨some 32, none, [], 0, .call .f [] [], [.fn 15, .z 31 [some 4]]⟩,
  ⟨some 33, none, [], 0, .call .f [] [], [.fn 24, .z 32 [some 4]]⟩,
  ⟨some 34, none, [], 0, .call .f [] [], [.fn 28, .s 33]⟩,
  ⟨some 30, none, [], 0, .r .mv, [.s 34]⟩,
  ⟨some 35, none, [], 0, .r (.ext 0), [.s 30]⟩,
  ⟨some 36, none, [], 0, .r (.ext 1), [.s 30]⟩,
  ⟨some 37, none, [], 0, .r (.ext 2), [.s 30]⟩,
  ⟨some 12, none, [], 0, .r .mv, [.s 35]⟩,
  ⟨some 13, none, [], 0, .r .mv, [.s 36]⟩,
  ⟨some 14, none, [], 0, .r .mv, [.s 37]⟩]
def f8r5 : List POp := [
  ⟨some 38, none, [], 0, .r .mv, [.s 14]⟩,
  ⟨some 39, none, [], 0, .r (.bin .neq), [.s 38, .c (.int .i64 0)]⟩,
  ⟨some 40, none, [], 0, .r .mv, [.s 39]⟩,
  ⟨some 41, (some (40, false)), [], 0, .r .mv, [.s 13]⟩,
  ⟨some 42, (some (40, false)), [], 0, .r (.bin .neq), [.s 41, .c (.int .i64 0)]⟩,
  ⟨some 43, none, [], 0, .r .pick, [.s 40, .c (.bool true), .s 42]⟩,
  ⟨some 44, none, [], 0, .r .mv, [.s 43]⟩,
  ⟨some 45, (some (44, false)), [], 0, .r .mv, [.s 12]⟩,
  ⟨some 46, (some (44, false)), [], 0, .call .f [] [], [.fn 31, .z 45 [some 4]]⟩,
  ⟨some 47, (some (44, false)), [], 0, .r .mv, [.s 11]⟩,
  ⟨some 48, (some (44, false)), [], 0, .call .f [] [], [.fn 30, .z 46 [some 4], .z 47 [some 4]]⟩,
  ⟨some 49, (some (44, false)), [], 0, .r (.un .not), [.s 48]⟩,
  ⟨some 50, none, [], 0, .r .pick, [.s 44, .c (.bool true), .s 49]⟩]
def f8r6 : List POp := [
  ⟨some 8, none, [], 0, .r .mv, [.c (.bool false)]⟩]
def f8r7 : List POp := [
  ⟨some 15, none, [], 0, .r .mv, [.c (.nils)]⟩]
def f8r8 : List POp := [
  ⟨some 51, none, [], 0, .r .mv, [.s 15]⟩,
  ⟨some 52, none, [], 0, .r .mv, [.s 11]⟩,
  ⟨some 53, none, [115, 153], 153, .app 58 4 32, [.s 51, .s 52]⟩,
  ⟨some 54, none, [], 0, .r (.build [.int .i64 0, .int .i64 0, .int .i64 0, .int .i64 0] [(0, 1)]), [.c (.int .i64 0)]⟩,
  ⟨some 55, none, [155], 155, .a (.bsl 58 4 1 [.int .i64 0, .int .i64 0, .int .i64 0, .int .i64 0] [(0, 4)]), [.s 54]⟩,
  ⟨some 56, none, [115, 155, 156], 156, .app 58 4 32, [.s 53, .s 55]⟩,
  ⟨some 15, none, [], 0, .r .mv, [.s 56]⟩]
def f8r9 : List POp := [
  ⟨some 16, none, [], 0, .r .mv, [.c (.nils)]⟩]
def f8r10 : List POp := [
  ⟨some 57, none, [], 0, .r .mv, [.s 16]⟩,
  ⟨some 58, none, [], 0, .r .mv, [.s 15]⟩,
  ⟨some 59, none, [115, 116, 159], 159, .app 58 4 32, [.s 57, .s 58]⟩,
  ⟨some 60, none, [109], 0, .r (.ldn 4), [.s 9]⟩,
  ⟨some 61, none, [], 0, .r .mv, [.s 3]⟩,
  ⟨some 62, none, [], 0, .call .f [] [], [.fn 11, .z 60 [none, some 4, some 3, some 5], .z 61 [some 1]]⟩,
  ⟨some 63, none, [116, 163], 163, .app 58 4 32, [.s 59, .s 62]⟩,
  ⟨some 16, none, [], 0, .r .mv, [.s 63]⟩]
def f8r11 : List POp := [
  ⟨some 65, none, [109], 0, .r (.ldn 4), [.s 9]⟩,
  ⟨some 66, none, [], 0, .r .mv, [.s 15]⟩,
  ⟨some 67, none, [115], 0, .call .f [] [], [.fn 15, .z 66 [some 4]]⟩,
  ⟨some 68, none, [110], 0, .r (.ldn 1), [.s 10]⟩,
  ⟨some 69, none, [], 0, .r (.mki 46), [.z 68 [some 1]]⟩,
  ⟨some 70, none, [], 0, .call .f [] [], [.fn 14, .z 65 [none, some 4, some 3, some 5], .z 67 [some 4], .s 69, .c (.int .i64 400)]⟩,
  ⟨some 64, none, [], 0, .r .mv, [.s 70]⟩,
  ⟨some 71, none, [], 0, .r (.ext 0), [.s 64]⟩,
  ⟨some 72, none, [], 0, .r (.ext 1), [.s 64]⟩,
  ⟨some 17, none, [117], 117, .a (.alloc 38 [.int .i64 0, .int .i64 0]), []⟩,
  ⟨none, none, [117], 0, .st 2, [.s 17, .s 71]⟩,
  ⟨some 18, none, [], 0, .r .mv, [.s 72]⟩]
def f8r12 : List POp := [
  ⟨some 74, none, [109], 0, .r (.ldn 4), [.s 9]⟩,
  ⟨some 75, none, [], 0, .r .mv, [.s 16]⟩,
  ⟨some 76, none, [116], 0, .call .f [] [], [.fn 15, .z 75 [some 4]]⟩,
  ⟨some 77, none, [110], 0, .r (.ldn 1), [.s 10]⟩,
  ⟨some 78, none, [], 0, .r (.mki 46), [.z 77 [some 1]]⟩,
  ⟨some 79, none, [], 0, .call .f [] [], [.fn 14, .z 74 [none, some 4, some 3, some 5], .z 76 [some 4], .s 78, .c (.int .i64 400)]⟩,
  ⟨some 73, none, [], 0, .r .mv, [.s 79]⟩,
  ⟨some 80, none, [], 0, .r (.ext 0), [.s 73]⟩,
  ⟨some 81, none, [], 0, .r (.ext 1), [.s 73]⟩,
  ⟨some 19, none, [119], 119, .a (.alloc 38 [.int .i64 0, .int .i64 0]), []⟩,
  ⟨none, none, [119], 0, .st 2, [.s 19, .s 80]⟩,
  ⟨some 20, none, [], 0, .r .mv, [.s 81]⟩]
def f8r13 : List POp := [
  ⟨some 82, none, [117], 0, .r (.ldn 2), [.s 17]⟩,
  ⟨some 83, none, [119], 0, .r (.ldn 2), [.s 19]⟩,
  ⟨some 84, none, [], 0, .r (.eqs false [0, 0]), [.s 82, .s 83]⟩,
  ⟨some 85, none, [], 0, .r .mv, [.s 84]⟩,
  ⟨some 86, (some (85, true)), [], 0, .r .mv, [.s 18]⟩,
  ⟨some 87, (some (85, true)), [], 0, .r .mv, [.s 20]⟩,
  ⟨some 88, (some (85, true)), [], 0, .r (.bin .eql), [.s 86, .s 87]⟩,
  ⟨some 89, none, [], 0, .r .pick, [.s 85, .s 88, .c (.bool false)]⟩,
  ⟨some 90, none, [], 0, .r .mv, [.s 89]⟩,
  ⟨some 91, (some (90, true)), [], 0, .r .mv, [.s 18]⟩,
  ⟨some 92, (some (90, true)), [], 0, .r (.bin .eql), [.s 91, .c (.int .i64 0)]⟩,
  ⟨some 93, (some (90, true)), [], 0, .r .mv, [.s 92]⟩,
  ⟨some 94, (some (93, false)), [], 0, .r .mv, [.s 18]⟩,
  ⟨some 95, (some (93, false)), [], 0, .r (.bin .eql), [.s 94, .c (.int .i64 23)]⟩,
  ⟨some 96, (some (90, true)), [], 0, .r .pick, [.s 93, .c (.bool true), .s 95]⟩,
  ⟨some 97, none, [], 0, .r .pick, [.s 90, .s 96, .c (.bool false)]⟩,
  ⟨some 98, none, [], 0, .r .mv, [.s 97]⟩,
  ⟨some 99, (some (98, true)), [], 0, .call .f [] [], [.fn 17]⟩,
  ⟨some 100, none, [], 0, .r .pick, [.s 98, .s 99, .c (.bool false)]⟩,
  ⟨some 8, none, [], 0, .r .mv, [.s 100]⟩]
def f8pc : PCode := .seq (.region f8r0 []) (.seq (.region f8r1 []) (.seq (.region f8r2 []) (.seq (.region f8r3 []) (.seq (.region f8r4 []) (.seq (.seq (.region f8r5 []) (.cond (.s 50) (.seq (.region f8r6 []) (.ret)) (.skip))) (.seq (.region f8r7 []) (.gh (.own 15 115 58 4) (.seq (.region f8r8 []) (.seq (.region f8r9 []) (.gh (.own 16 116 58 4) (.seq (.region f8r10 [[], [], [0, 1], [], [], [0, 1, 2, 3, 4], [0, 1, 2, 3, 4, 5], [0, 1, 2, 3, 4, 5, 6]]) (.seq (.gh (.fz 115) (.region f8r11 [[], [], [1], [], [3], [0, 1, 2, 3, 4], [0, 1, 2, 3, 4, 5], [0, 1, 2, 3, 4, 5, 6], [0, 1, 2, 3, 4, 5, 6], [], [0, 1, 2, 3, 4, 5, 6, 7, 9], [0, 1, 2, 3, 4, 5, 6, 7, 8, 9, 10]])) (.seq (.gh (.fz 116) (.region f8r12 [[], [], [1], [], [3], [0, 1, 2, 3, 4], [0, 1, 2, 3, 4, 5], [0, 1, 2, 3, 4, 5, 6], [0, 1, 2, 3, 4, 5, 6], [], [0, 1, 2, 3, 4, 5, 6, 7, 9], [0, 1, 2, 3, 4, 5, 6, 7, 8, 9, 10]])) (.seq (.region f8r13 []) (.ret)))))))))))))))
def f8rs : List RArg := [.s 8 [] []]
end Go.Absw

/- Generated: the abstract texts of functions 54 56 24. -/
namespace Go.Absw
/- (*strings.Builder).WriteString : params [120, 9] results [3, 124] tmps 19 resvars [('tmp', 4), ('tmp', 5)] -/
def f54r0 : List POp := [
  ⟨some 4, none, [], 0, .r .mv, [.c (.int .i64 0)]⟩,
  ⟨some 5, none, [], 0, .r .mv, [.c (.nili)]⟩]
def f54r1 : List POp := [
  ⟨some 6, none, [], 0, .r .mv, [.s 0]⟩,
  ⟨some 7, none, [0, 1], 0, .call .f [0, 1] [], [.fn 72, .s 6]⟩]
def f54r2 : List POp := [
  ⟨some 8, none, [], 0, .r .mv, [.s 0]⟩,
  ⟨some 9, none, [], 0, .r .mv, [.s 0]⟩,
  ⟨some 10, none, [0], 0, .r .nck, [.s 9]⟩,
  ⟨some 11, none, [0], 0, .r (.fad 1), [.s 10]⟩,
  ⟨some 12, none, [0], 0, .r .ld1, [.s 11]⟩,
  ⟨some 13, none, [], 0, .r .mv, [.s 1]⟩,
  ⟨some 14, none, [1, 114], 114, .app 5 1 1, [.s 12, .s 13]⟩,
  ⟨some 15, none, [0], 0, .r .nck, [.s 8]⟩,
  ⟨some 16, none, [0], 0, .r (.fad 1), [.s 15]⟩,
  ⟨none, none, [0, 1], 0, .st 1, [.s 16, .s 14]⟩]
def f54r3 : List POp := [
  ⟨some 17, none, [], 0, .r .mv, [.s 1]⟩,
  ⟨some 18, none, [], 0, .r .lens, [.s 17]⟩,
  ⟨some 4, none, [], 0, .r .mv, [.s 18]⟩,
  ⟨some 5, none, [], 0, .r .mv, [.c (.nili)]⟩]
def f54pc : PCode := .seq (.region f54r0 []) (.seq (.region f54r1 []) (.seq (.region f54r2 []) (.seq (.region f54r3 []) (.ret))))
def f54rs : List RArg := [.s 4 [] [], .s 5 [] []]
/- (*strings.Builder).WriteByte : params [120, 5] results [124] tmps 17 resvars [('tmp', 4)] -/
def f56r0 : List POp := [
  ⟨some 4, none, [], 0, .r .mv, [.c (.nili)]⟩]
def f56r1 : List POp := [
  ⟨some 5, none, [], 0, .r .mv, [.s 0]⟩,
  ⟨some 6, none, [0, 1], 0, .call .f [0, 1] [], [.fn 72, .s 5]⟩]
def f56r2 : List POp := [
  ⟨some 7, none, [], 0, .r .mv, [.s 0]⟩,
  ⟨some 8, none, [], 0, .r .mv, [.s 0]⟩,
  ⟨some 9, none, [0], 0, .r .nck, [.s 8]⟩,
  ⟨some 10, none, [0], 0, .r (.fad 1), [.s 9]⟩,
  ⟨some 11, none, [0], 0, .r .ld1, [.s 10]⟩,
  ⟨some 12, none, [], 0, .r .mv, [.s 1]⟩,
  ⟨some 13, none, [113], 113, .az (.bsl 5 1 1 [.int .u8 0] [(0, 1)]), [.s 12]⟩,
  ⟨some 14, none, [1, 114], 114, .app 5 1 1, [.s 11, .s 13]⟩,
  ⟨some 15, none, [0], 0, .r .nck, [.s 7]⟩,
  ⟨some 16, none, [0], 0, .r (.fad 1), [.s 15]⟩,
  ⟨none, none, [0, 1], 0, .st 1, [.s 16, .s 14]⟩]
def f56r3 : List POp := [
  ⟨some 4, none, [], 0, .r .mv, [.c (.nili)]⟩]
def f56pc : PCode := .seq (.region f56r0 []) (.seq (.region f56r1 []) (.seq (.region f56r2 []) (.seq (.region f56r3 []) (.ret))))
def f56rs : List RArg := [.s 4 [] []]
/- diorama/vm.Print : params [43] results [9] tmps 44 resvars [('tmp', 2)] -/
def f24r0 : List POp := [
  ⟨some 2, none, [], 0, .r .mv, [.c (.str [])]⟩]
def f24r1 : List POp := [
  ⟨some 9, none, [], 0, .r .mv, [.s 0]⟩,
  ⟨some 10, none, [], 0, .call .f [] [], [.fn 18, .z 9 [some 4]]⟩,
  ⟨some 11, none, [], 0, .r (.bin .neq), [.s 10, .c (.int .i64 0)]⟩]
def f24r2 : List POp := [
  ⟨some 2, none, [], 0, .r .mv, [.c (.str [])]⟩]
def f24r3 : List POp := [
  ⟨some 3, none, [103], 103, .a (.alloc 122 [.nilp, .nils]), []⟩]
def f24r4 : List POp := [
  ⟨some 12, none, [], 0, .r .mv, [.s 0]⟩,
  ⟨some 13, none, [], 0, .r .len, [.s 12]⟩,
  ⟨some 14, none, [], 0, .r .mv, [.c (.int .i64 0)]⟩]
def f24r5 : List POp := [
  ⟨some 15, none, [], 0, .r (.bin .lss), [.s 14, .s 13]⟩]
def f24r6 : List POp := [
  ⟨some 16, none, [], 0, .r (.ixs 4), [.s 12, .s 14]⟩,
  ⟨some 17, none, [], 0, .r (.ldn 4), [.s 16]⟩,
  ⟨some 5, none, [105], 105, .a (.alloc 104 [.int .i64 0, .int .i64 0, .int .i64 0, .int .i64 0]), []⟩,
  ⟨none, none, [105], 0, .st 4, [.s 5, .s 17]⟩]
def f24r7 : List POp := [
  ⟨some 18, none, [], 0, .call .f [] [], [.fn 45]⟩,
  ⟨some 19, none, [105], 0, .r (.fad 0), [.s 5]⟩,
  ⟨some 20, none, [105], 0, .r .ld1, [.s 19]⟩,
  ⟨some 21, none, [], 0, .r (.ixvn 9 4), [.s 18, .s 20]⟩,
  ⟨some 6, none, [106], 106, .a (.alloc 112 [.str [], .int .i64 0, .int .i64 0, .int .i64 0]), []⟩,
  ⟨none, none, [106], 0, .st 4, [.s 6, .s 21]⟩]
def f24r8 : List POp := [
  ⟨some 22, none, [106], 0, .r (.fad 0), [.s 6]⟩,
  ⟨some 23, none, [106], 0, .r .ld1, [.s 22]⟩,
  ⟨some 24, none, [103, 143], 0, .call .f [103, 143] [], [.fn 54, .s 3, .s 23]⟩]
def f24r9 : List POp := [
  ⟨some 25, none, [105], 0, .r (.ldn 4), [.s 5]⟩,
  ⟨some 26, none, [], 0, .call .f [] [], [.fn 43, .s 25]⟩,
  ⟨some 27, none, [], 0, .r .mv, [.c (.int .i64 0)]⟩]
def f24r10 : List POp := [
  ⟨some 28, none, [], 0, .r (.bin .lss), [.s 27, .c (.int .i64 3)]⟩]
def f24r11 : List POp := [
  ⟨some 29, none, [], 0, .r .mv, [.s 27]⟩,
  ⟨some 30, none, [], 0, .r (.ixv1 3), [.s 26, .s 27]⟩,
  ⟨some 7, none, [], 0, .r .mv, [.s 29]⟩,
  ⟨some 8, none, [], 0, .r .mv, [.s 30]⟩]
def f24r12 : List POp := [
  ⟨some 31, none, [], 0, .r .mv, [.s 7]⟩,
  ⟨some 32, none, [106], 0, .r (.fad 1), [.s 6]⟩,
  ⟨some 33, none, [106], 0, .r (.ixa 3 1), [.s 32, .s 31]⟩,
  ⟨some 34, none, [106], 0, .r .ld1, [.s 33]⟩,
  ⟨some 35, none, [], 0, .r (.bin .neq), [.s 34, .c (.int .i64 0)]⟩]
def f24r13 : List POp := [
  ⟨some 36, none, [], 0, .r .mv, [.s 8]⟩,
  ⟨some 37, none, [], 0, .call .f [] [], [.fn 55, .s 36]⟩,
  ⟨some 38, none, [], 0, .r (.bin .add), [.c (.str [32]), .s 37]⟩,
  ⟨some 39, none, [103, 143], 0, .call .f [103, 143] [], [.fn 54, .s 3, .s 38]⟩]
def f24r14 : List POp := [
  ⟨some 40, none, [], 0, .r (.bin .add), [.s 27, .c (.int .i64 1)]⟩,
  ⟨some 27, none, [], 0, .r .mv, [.s 40]⟩]
def f24l1 : PCode := .gh (.keep [3, 6, 12, 13, 14, 26, 27] [103, 106, 143]) (.seq (.region f24r10 []) (.seq (.cond (.s 28) (.skip) (.exit 2)) (.seq (.block 3 (.seq (.region f24r11 []) (.seq (.region f24r12 []) (.cond (.s 35) (.region f24r13 []) (.skip))))) (.region f24r14 []))))
/- f24l1: slots [3, 6, 12, 13, 14, 26, 27], tokens [103, 106, 143] -/
def f24r15 : List POp := [
  ⟨some 41, none, [103, 143], 0, .call .f [103, 143] [], [.fn 56, .s 3, .c (.int .u8 10)]⟩]
def f24r16 : List POp := [
  ⟨some 42, none, [], 0, .r (.bin .add), [.s 14, .c (.int .i64 1)]⟩,
  ⟨some 14, none, [], 0, .r .mv, [.s 42]⟩]
def f24l0 : PCode := .gh (.keep [3, 12, 13, 14] [103, 143]) (.seq (.region f24r5 []) (.seq (.cond (.s 15) (.skip) (.exit 0)) (.seq (.block 1 (.seq (.region f24r6 []) (.seq (.region f24r7 [[], [], [1], [0, 1, 2], [], [0, 1, 2, 3, 4]]) (.seq (.region f24r8 []) (.seq (.seq (.region f24r9 []) (.block 2 (.loop f24l1))) (.region f24r15 [])))))) (.region f24r16 []))))
/- f24l0: slots [3, 12, 13, 14], tokens [103, 143] -/
def f24r17 : List POp := [
  ⟨some 43, none, [103, 143], 0, .call .f [103, 143] [], [.fn 57, .s 3]⟩,
  ⟨some 2, none, [], 0, .r .mv, [.s 43]⟩]
def f24pc : PCode := .seq (.region f24r0 []) (.seq (.seq (.region f24r1 []) (.cond (.s 11) (.seq (.region f24r2 []) (.ret)) (.skip))) (.seq (.region f24r3 []) (.seq (.seq (.gh (.ownc 103 1 143 5 1) (.region f24r4 [])) (.block 0 (.loop f24l0))) (.seq (.region f24r17 []) (.ret)))))
def f24rs : List RArg := [.s 2 [] []]
end Go.Absw
