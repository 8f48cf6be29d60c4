/- Generated: the abstract texts of functions, first part. Conditions: none. -/
import Derived.Test.YtpkhdnaeaeiidaaDoorKc
set_option linter.unusedSimpArgs false
set_option linter.unusedVariables false

/- Generated: the abstract texts of functions 13 15 31 35 53 64 65 67 68 69. -/
namespace Go.Absw
/- diorama/dioramaref01.Around : params [3, 3] results [3] tmps 15 resvars [('tmp', 4)] -/
def f13r0 : List POp := [
  ⟨some 4, none, [], 0, .r .mv, [.c (.int .i64 0)]⟩]
def f13r1 : List POp := [
  ⟨some 5, none, [], 0, .r .mv, [.s 0]⟩,
  ⟨some 6, none, [], 0, .r (.bin .lss), [.s 5, .c (.int .i64 0)]⟩]
def f13r2 : List POp := [
  ⟨some 7, none, [], 0, .r .mv, [.s 0]⟩,
  ⟨some 8, none, [], 0, .r (.bin .add), [.s 7, .c (.int .i64 1)]⟩,
  ⟨some 9, none, [], 0, .r (.un .neg), [.s 8]⟩,
  ⟨some 0, none, [], 0, .r .mv, [.s 9]⟩]
def f13r3 : List POp := [
  ⟨some 10, none, [], 0, .r .mv, [.s 1]⟩,
  ⟨some 11, none, [], 0, .r (.bin .lss), [.s 10, .c (.int .i64 1)]⟩]
def f13r4 : List POp := [
  ⟨some 4, none, [], 0, .r .mv, [.c (.int .i64 0)]⟩]
def f13r5 : List POp := [
  ⟨some 12, none, [], 0, .r .mv, [.s 0]⟩,
  ⟨some 13, none, [], 0, .r .mv, [.s 1]⟩,
  ⟨some 14, none, [], 0, .r (.bin .rem), [.s 12, .s 13]⟩,
  ⟨some 4, none, [], 0, .r .mv, [.s 14]⟩]
def f13pc : PCode := .seq (.region f13r0 []) (.seq (.seq (.region f13r1 []) (.cond (.s 6) (.region f13r2 []) (.skip))) (.seq (.seq (.region f13r3 []) (.cond (.s 11) (.seq (.region f13r4 []) (.ret)) (.skip))) (.seq (.region f13r5 []) (.ret))))
def f13rs : List RArg := [.s 4 [] []]
/- diorama/dioramalaw29.own : params [32] results [43] tmps 36 resvars [('tmp', 2)] -/
def f15r0 : List POp := [
  ⟨some 2, none, [], 0, .r .mv, [.c (.nils)]⟩]
def f15r1 : List POp := [
  ⟨some 3, none, [], 0, .r .mv, [.c (.nils)]⟩]
def f15r2 : List POp := [
  ⟨some 4, none, [], 0, .r .mv, [.c (.int .i64 0)]⟩]
def f15r3 : List POp := [
  ⟨some 5, none, [], 0, .r .mv, [.s 4]⟩,
  ⟨some 6, none, [], 0, .r .mv, [.s 0]⟩,
  ⟨some 7, none, [], 0, .r .len, [.s 6]⟩,
  ⟨some 8, none, [], 0, .r (.bin .lss), [.s 5, .s 7]⟩]
def f15r5 : List POp := [
  ⟨some 11, none, [], 0, .r .mv, [.s 3]⟩,
  ⟨some 12, none, [], 0, .r .mv, [.s 0]⟩,
  ⟨some 13, none, [], 0, .r .mv, [.s 4]⟩,
  ⟨some 14, none, [], 0, .r (.ixs 4), [.s 12, .s 13]⟩,
  ⟨some 15, none, [], 0, .r (.fad 0), [.s 14]⟩,
  ⟨some 16, none, [], 0, .r .ld1, [.s 15]⟩,
  ⟨some 17, none, [], 0, .r .mv, [.s 0]⟩,
  ⟨some 18, none, [], 0, .r .mv, [.s 4]⟩,
  ⟨some 19, none, [], 0, .r (.ixs 4), [.s 17, .s 18]⟩,
  ⟨some 20, none, [], 0, .r (.fad 1), [.s 19]⟩,
  ⟨some 21, none, [], 0, .r .ld1, [.s 20]⟩,
  ⟨some 22, none, [], 0, .r .mv, [.s 0]⟩,
  ⟨some 23, none, [], 0, .r .mv, [.s 4]⟩,
  ⟨some 24, none, [], 0, .r (.ixs 4), [.s 22, .s 23]⟩,
  ⟨some 25, none, [], 0, .r (.fad 2), [.s 24]⟩,
  ⟨some 26, none, [], 0, .r .ld1, [.s 25]⟩,
  ⟨some 27, none, [], 0, .r .mv, [.s 0]⟩,
  ⟨some 28, none, [], 0, .r .mv, [.s 4]⟩,
  ⟨some 29, none, [], 0, .r (.ixs 4), [.s 27, .s 28]⟩,
  ⟨some 30, none, [], 0, .r (.fad 3), [.s 29]⟩,
  ⟨some 31, none, [], 0, .r .ld1, [.s 30]⟩,
  ⟨some 32, none, [], 0, .r (.build [.int .i64 0, .int .i64 0, .int .i64 0, .int .i64 0] [(0, 1), (1, 1), (2, 1), (3, 1)]), [.s 16, .s 21, .s 26, .s 31]⟩,
  ⟨some 33, none, [133], 133, .a (.bsl 104 4 1 [.int .i64 0, .int .i64 0, .int .i64 0, .int .i64 0] [(0, 4)]), [.s 32]⟩,
  ⟨some 34, none, [103, 133, 134], 134, .app 104 4 32, [.s 11, .s 33]⟩,
  ⟨some 3, none, [], 0, .r .mv, [.s 34]⟩]
def f15r4 : List POp := [
  ⟨some 9, none, [], 0, .r .mv, [.s 4]⟩,
  ⟨some 10, none, [], 0, .r (.bin .add), [.s 9, .c (.int .i64 1)]⟩,
  ⟨some 4, none, [], 0, .r .mv, [.s 10]⟩]
def f15l0 : PCode := .gh (.keep [0, 3, 4] [103]) (.seq (.seq (.region f15r3 []) (.cond (.s 8) (.skip) (.exit 0))) (.seq (.block 1 (.region f15r5 [[], [], [], [1, 2], [1, 2, 3], [1, 2, 3, 4], [], [], [6, 7], [6, 7, 8], [6, 7, 8, 9], [], [], [11, 12], [11, 12, 13], [11, 12, 13, 14], [], [], [16, 17], [16, 17, 18], [16, 17, 18, 19], [1, 2, 3, 4, 5, 6, 7, 8, 9, 10, 11, 12, 13, 14, 15, 16, 17, 18, 19, 20], [1, 2, 3, 4, 5, 6, 7, 8, 9, 10, 11, 12, 13, 14, 15, 16, 17, 18, 19, 20, 21], [0, 1, 2, 3, 4, 5, 6, 7, 8, 9, 10, 11, 12, 13, 14, 15, 16, 17, 18, 19, 20, 21, 22], [0, 1, 2, 3, 4, 5, 6, 7, 8, 9, 10, 11, 12, 13, 14, 15, 16, 17, 18, 19, 20, 21, 22, 23]])) (.region f15r4 [])))
/- f15l0: slots [0, 3, 4], tokens [103] -/
def f15r6 : List POp := [
  ⟨some 35, none, [], 0, .r .mv, [.s 3]⟩,
  ⟨some 2, none, [], 0, .r .mv, [.s 35]⟩]
def f15pc : PCode := .seq (.region f15r0 []) (.seq (.region f15r1 []) (.gh (.own 3 103 104 4) (.seq (.seq (.region f15r2 []) (.block 0 (.loop f15l0))) (.seq (.region f15r6 []) (.gh (.fz 103) (.ret))))))
def f15rs : List RArg := [.s 2 [some 4] [103]]
/- diorama/dioramalaw29.plain : params [43] results [32] tmps 36 resvars [('tmp', 2)] -/
def f31r0 : List POp := [
  ⟨some 2, none, [], 0, .r .mv, [.c (.nils)]⟩]
def f31r1 : List POp := [
  ⟨some 3, none, [], 0, .r .mv, [.c (.nils)]⟩]
def f31r2 : List POp := [
  ⟨some 4, none, [], 0, .r .mv, [.c (.int .i64 0)]⟩]
def f31r3 : List POp := [
  ⟨some 5, none, [], 0, .r .mv, [.s 4]⟩,
  ⟨some 6, none, [], 0, .r .mv, [.s 0]⟩,
  ⟨some 7, none, [], 0, .r .len, [.s 6]⟩,
  ⟨some 8, none, [], 0, .r (.bin .lss), [.s 5, .s 7]⟩]
def f31r5 : List POp := [
  ⟨some 11, none, [], 0, .r .mv, [.s 3]⟩,
  ⟨some 12, none, [], 0, .r .mv, [.s 0]⟩,
  ⟨some 13, none, [], 0, .r .mv, [.s 4]⟩,
  ⟨some 14, none, [], 0, .r (.ixs 4), [.s 12, .s 13]⟩,
  ⟨some 15, none, [], 0, .r (.fad 0), [.s 14]⟩,
  ⟨some 16, none, [], 0, .r .ld1, [.s 15]⟩,
  ⟨some 17, none, [], 0, .r .mv, [.s 0]⟩,
  ⟨some 18, none, [], 0, .r .mv, [.s 4]⟩,
  ⟨some 19, none, [], 0, .r (.ixs 4), [.s 17, .s 18]⟩,
  ⟨some 20, none, [], 0, .r (.fad 1), [.s 19]⟩,
  ⟨some 21, none, [], 0, .r .ld1, [.s 20]⟩,
  ⟨some 22, none, [], 0, .r .mv, [.s 0]⟩,
  ⟨some 23, none, [], 0, .r .mv, [.s 4]⟩,
  ⟨some 24, none, [], 0, .r (.ixs 4), [.s 22, .s 23]⟩,
  ⟨some 25, none, [], 0, .r (.fad 2), [.s 24]⟩,
  ⟨some 26, none, [], 0, .r .ld1, [.s 25]⟩,
  ⟨some 27, none, [], 0, .r .mv, [.s 0]⟩,
  ⟨some 28, none, [], 0, .r .mv, [.s 4]⟩,
  ⟨some 29, none, [], 0, .r (.ixs 4), [.s 27, .s 28]⟩,
  ⟨some 30, none, [], 0, .r (.fad 3), [.s 29]⟩,
  ⟨some 31, none, [], 0, .r .ld1, [.s 30]⟩,
  ⟨some 32, none, [], 0, .r (.build [.int .i64 0, .int .i64 0, .int .i64 0, .int .i64 0] [(0, 1), (1, 1), (2, 1), (3, 1)]), [.s 16, .s 21, .s 26, .s 31]⟩,
  ⟨some 33, none, [133], 133, .a (.bsl 58 4 1 [.int .i64 0, .int .i64 0, .int .i64 0, .int .i64 0] [(0, 4)]), [.s 32]⟩,
  ⟨some 34, none, [103, 133, 134], 134, .app 58 4 32, [.s 11, .s 33]⟩,
  ⟨some 3, none, [], 0, .r .mv, [.s 34]⟩]
def f31r4 : List POp := [
  ⟨some 9, none, [], 0, .r .mv, [.s 4]⟩,
  ⟨some 10, none, [], 0, .r (.bin .add), [.s 9, .c (.int .i64 1)]⟩,
  ⟨some 4, none, [], 0, .r .mv, [.s 10]⟩]
def f31l0 : PCode := .gh (.keep [0, 3, 4] [103]) (.seq (.seq (.region f31r3 []) (.cond (.s 8) (.skip) (.exit 0))) (.seq (.block 1 (.region f31r5 [[], [], [], [1, 2], [1, 2, 3], [1, 2, 3, 4], [], [], [6, 7], [6, 7, 8], [6, 7, 8, 9], [], [], [11, 12], [11, 12, 13], [11, 12, 13, 14], [], [], [16, 17], [16, 17, 18], [16, 17, 18, 19], [1, 2, 3, 4, 5, 6, 7, 8, 9, 10, 11, 12, 13, 14, 15, 16, 17, 18, 19, 20], [1, 2, 3, 4, 5, 6, 7, 8, 9, 10, 11, 12, 13, 14, 15, 16, 17, 18, 19, 20, 21], [0, 1, 2, 3, 4, 5, 6, 7, 8, 9, 10, 11, 12, 13, 14, 15, 16, 17, 18, 19, 20, 21, 22], [0, 1, 2, 3, 4, 5, 6, 7, 8, 9, 10, 11, 12, 13, 14, 15, 16, 17, 18, 19, 20, 21, 22, 23]])) (.region f31r4 [])))
/- f31l0: slots [0, 3, 4], tokens [103] -/
def f31r6 : List POp := [
  ⟨some 35, none, [], 0, .r .mv, [.s 3]⟩,
  ⟨some 2, none, [], 0, .r .mv, [.s 35]⟩]
def f31pc : PCode := .seq (.region f31r0 []) (.seq (.region f31r1 []) (.gh (.own 3 103 58 4) (.seq (.seq (.region f31r2 []) (.block 0 (.loop f31l0))) (.seq (.region f31r6 []) (.gh (.fz 103) (.ret))))))
def f31rs : List RArg := [.s 2 [some 4] [103]]
/- diorama/dioramaref01.At : params [22, 3, 3] results [3] tmps 21 resvars [('tmp', 6)] -/
def f35r0 : List POp := [
  ⟨some 6, none, [], 0, .r .mv, [.c (.int .i64 0)]⟩]
def f35r1 : List POp := [
  ⟨some 7, none, [], 0, .r .mv, [.s 1]⟩,
  ⟨some 8, none, [], 0, .r (.bin .lss), [.s 7, .c (.int .i64 0)]⟩,
  ⟨some 9, none, [], 0, .r .mv, [.s 8]⟩,
  ⟨some 10, (some (9, false)), [], 0, .r .mv, [.s 1]⟩,
  ⟨some 11, (some (9, false)), [], 0, .r .mv, [.s 0]⟩,
  ⟨some 12, (some (9, false)), [], 0, .r .len, [.s 11]⟩,
  ⟨some 13, (some (9, false)), [], 0, .r (.bin .geq), [.s 10, .s 12]⟩,
  ⟨some 14, none, [], 0, .r .pick, [.s 9, .c (.bool true), .s 13]⟩]
def f35r2 : List POp := [
  ⟨some 6, none, [], 0, .r .mv, [.c (.int .i64 0)]⟩]
def f35r3 : List POp := [
  ⟨some 15, none, [], 0, .r .mv, [.s 0]⟩,
  ⟨some 16, none, [], 0, .r .mv, [.s 1]⟩,
  ⟨some 17, none, [], 0, .r (.ixs 1), [.s 15, .s 16]⟩,
  ⟨some 18, none, [], 0, .r .ld1, [.s 17]⟩,
  ⟨some 19, none, [], 0, .r .mv, [.s 2]⟩,
  ⟨some 20, none, [], 0, .call .f [] [], [.fn 13, .s 18, .s 19]⟩,
  ⟨some 6, none, [], 0, .r .mv, [.s 20]⟩]
def f35pc : PCode := .seq (.region f35r0 []) (.seq (.seq (.region f35r1 []) (.cond (.s 14) (.seq (.region f35r2 []) (.ret)) (.skip))) (.seq (.region f35r3 []) (.ret)))
def f35rs : List RArg := [.s 6 [] []]
/- diorama/dioramaref29.Numbers : params [58] results [22] tmps 10 resvars [('tmp', 2)] -/
def f53r0 : List POp := [
  ⟨some 1, none, [101], 101, .a (.box 58 4), [.s 0]⟩,
  ⟨some 2, none, [], 0, .r .mv, [.c (.nils)]⟩]
def f53r1 : List POp := [
  ⟨some 3, none, [101], 0, .r (.fad 1), [.s 1]⟩,
  ⟨some 4, none, [101], 0, .r .ld1, [.s 3]⟩,
  ⟨some 5, none, [101], 0, .r (.fad 2), [.s 1]⟩,
  ⟨some 6, none, [101], 0, .r .ld1, [.s 5]⟩,
  ⟨some 7, none, [101], 0, .r (.fad 3), [.s 1]⟩,
  ⟨some 8, none, [101], 0, .r .ld1, [.s 7]⟩,
  ⟨some 9, none, [109], 109, .a (.bsl 3 1 3 [.int .i64 0] [(0, 1), (1, 1), (2, 1)]), [.s 4, .s 6, .s 8]⟩,
  ⟨some 2, none, [], 0, .r .mv, [.s 9]⟩]
def f53pc : PCode := .seq (.region f53r0 []) (.seq (.region f53r1 []) (.gh (.fz 109) (.ret)))
def f53rs : List RArg := [.s 2 [some 1] [109]]
/- diorama/dioramaref09.Copied : params [56] results [3] tmps 33 resvars [('tmp', 2)] -/
def f64r0 : List POp := [
  ⟨some 1, none, [101], 101, .a (.box 56 4), [.s 0]⟩,
  ⟨some 2, none, [], 0, .r .mv, [.c (.int .i64 0)]⟩]
def f64r1 : List POp := [
  ⟨some 3, none, [], 0, .r .mv, [.c (.int .i64 0)]⟩]
def f64r2 : List POp := [
  ⟨some 5, none, [], 0, .r .mv, [.s 3]⟩,
  ⟨some 6, none, [101], 0, .r (.fad 3), [.s 1]⟩,
  ⟨some 7, none, [101], 0, .r .ld1, [.s 6]⟩,
  ⟨some 8, none, [], 0, .r .len, [.s 7]⟩,
  ⟨some 9, none, [], 0, .r (.bin .lss), [.s 5, .s 8]⟩]
def f64r4 : List POp := [
  ⟨some 12, none, [101], 0, .r (.fad 3), [.s 1]⟩,
  ⟨some 13, none, [101], 0, .r .ld1, [.s 12]⟩,
  ⟨some 14, none, [], 0, .r .mv, [.s 3]⟩,
  ⟨some 15, none, [], 0, .r (.ixs 8), [.s 13, .s 14]⟩,
  ⟨some 16, none, [], 0, .r (.fad 3), [.s 15]⟩,
  ⟨some 17, none, [], 0, .r .ld1, [.s 16]⟩,
  ⟨some 4, none, [], 0, .r .mv, [.s 17]⟩]
def f64r5 : List POp := [
  ⟨some 18, none, [], 0, .r .mv, [.s 4]⟩,
  ⟨some 19, none, [], 0, .r (.bin .neq), [.s 18, .c (.int .i64 0)]⟩,
  ⟨some 20, none, [], 0, .r .mv, [.s 19]⟩,
  ⟨some 21, (some (20, true)), [], 0, .r .mv, [.s 4]⟩,
  ⟨some 22, (some (20, true)), [], 0, .r (.bin .neq), [.s 21, .c (.int .i64 1)]⟩,
  ⟨some 23, none, [], 0, .r .pick, [.s 20, .s 22, .c (.bool false)]⟩,
  ⟨some 24, none, [], 0, .r .mv, [.s 23]⟩,
  ⟨some 25, (some (24, true)), [], 0, .r .mv, [.s 4]⟩,
  ⟨some 26, (some (24, true)), [], 0, .r (.bin .neq), [.s 25, .c (.int .i64 6)]⟩,
  ⟨some 27, none, [], 0, .r .pick, [.s 24, .s 26, .c (.bool false)]⟩,
  ⟨some 28, none, [], 0, .r .mv, [.s 27]⟩,
  ⟨some 29, (some (28, true)), [], 0, .r .mv, [.s 4]⟩,
  ⟨some 30, (some (28, true)), [], 0, .r (.bin .neq), [.s 29, .c (.int .i64 7)]⟩,
  ⟨some 31, none, [], 0, .r .pick, [.s 28, .s 30, .c (.bool false)]⟩]
def f64r6 : List POp := [
  ⟨some 32, none, [], 0, .r .mv, [.s 3]⟩,
  ⟨some 2, none, [], 0, .r .mv, [.s 32]⟩]
def f64r3 : List POp := [
  ⟨some 10, none, [], 0, .r .mv, [.s 3]⟩,
  ⟨some 11, none, [], 0, .r (.bin .add), [.s 10, .c (.int .i64 1)]⟩,
  ⟨some 3, none, [], 0, .r .mv, [.s 11]⟩]
def f64l0 : PCode := .gh (.keep [1, 3] [101]) (.seq (.seq (.region f64r2 []) (.cond (.s 9) (.skip) (.exit 0))) (.seq (.block 1 (.seq (.region f64r4 []) (.seq (.region f64r5 []) (.cond (.s 31) (.seq (.region f64r6 []) (.ret)) (.skip))))) (.region f64r3 [])))
/- f64l0: slots [1, 3], tokens [101] -/
def f64r7 : List POp := [
  ⟨some 2, none, [], 0, .r .mv, [.c (.int .i64 (-1))]⟩]
def f64pc : PCode := .seq (.region f64r0 []) (.seq (.seq (.region f64r1 []) (.block 0 (.loop f64l0))) (.seq (.region f64r7 []) (.ret)))
def f64rs : List RArg := [.s 2 [] []]
/- diorama/dioramaref09.has : params [54, 9] results [3] tmps 20 resvars [('tmp', 4)] -/
def f65r0 : List POp := [
  ⟨some 4, none, [], 0, .r .mv, [.c (.int .i64 0)]⟩]
def f65r1 : List POp := [
  ⟨some 5, none, [], 0, .r .mv, [.c (.int .i64 0)]⟩]
def f65r2 : List POp := [
  ⟨some 6, none, [], 0, .r .mv, [.s 5]⟩,
  ⟨some 7, none, [], 0, .r .mv, [.s 0]⟩,
  ⟨some 8, none, [], 0, .r .len, [.s 7]⟩,
  ⟨some 9, none, [], 0, .r (.bin .lss), [.s 6, .s 8]⟩]
def f65r4 : List POp := [
  ⟨some 12, none, [], 0, .r .mv, [.s 0]⟩,
  ⟨some 13, none, [], 0, .r .mv, [.s 5]⟩,
  ⟨some 14, none, [], 0, .r (.ixs 8), [.s 12, .s 13]⟩,
  ⟨some 15, none, [], 0, .r (.fad 0), [.s 14]⟩,
  ⟨some 16, none, [], 0, .r .ld1, [.s 15]⟩,
  ⟨some 17, none, [], 0, .r .mv, [.s 1]⟩,
  ⟨some 18, none, [], 0, .r (.bin .eql), [.s 16, .s 17]⟩]
def f65r5 : List POp := [
  ⟨some 19, none, [], 0, .r .mv, [.s 5]⟩,
  ⟨some 4, none, [], 0, .r .mv, [.s 19]⟩]
def f65r3 : List POp := [
  ⟨some 10, none, [], 0, .r .mv, [.s 5]⟩,
  ⟨some 11, none, [], 0, .r (.bin .add), [.s 10, .c (.int .i64 1)]⟩,
  ⟨some 5, none, [], 0, .r .mv, [.s 11]⟩]
def f65l0 : PCode := .gh (.keep [0, 1, 5] []) (.seq (.seq (.region f65r2 []) (.cond (.s 9) (.skip) (.exit 0))) (.seq (.block 1 (.seq (.region f65r4 []) (.cond (.s 18) (.seq (.region f65r5 []) (.ret)) (.skip)))) (.region f65r3 [])))
/- f65l0: slots [0, 1, 5], tokens [] -/
def f65r6 : List POp := [
  ⟨some 4, none, [], 0, .r .mv, [.c (.int .i64 (-1))]⟩]
def f65pc : PCode := .seq (.region f65r0 []) (.seq (.seq (.region f65r1 []) (.block 0 (.loop f65l0))) (.seq (.region f65r6 []) (.ret)))
def f65rs : List RArg := [.s 4 [] []]
/- diorama/dioramaref10.Has : params [27, 3, 3] results [4] tmps 29 resvars [('tmp', 6)] -/
def f67r0 : List POp := [
  ⟨some 3, none, [103], 103, .a (.box 27 4), [.s 0]⟩,
  ⟨some 6, none, [], 0, .r .mv, [.c (.bool false)]⟩]
def f67r1 : List POp := [
  ⟨some 7, none, [], 0, .r .mv, [.s 1]⟩,
  ⟨some 8, none, [], 0, .r (.bin .lss), [.s 7, .c (.int .i64 0)]⟩,
  ⟨some 9, none, [], 0, .r .mv, [.s 8]⟩,
  ⟨some 10, (some (9, false)), [], 0, .r .mv, [.s 1]⟩,
  ⟨some 11, (some (9, false)), [103], 0, .r (.fad 1), [.s 3]⟩,
  ⟨some 12, (some (9, false)), [103], 0, .r .ld1, [.s 11]⟩,
  ⟨some 13, (some (9, false)), [], 0, .r .len, [.s 12]⟩,
  ⟨some 14, (some (9, false)), [], 0, .r (.bin .geq), [.s 10, .s 13]⟩,
  ⟨some 15, none, [], 0, .r .pick, [.s 9, .c (.bool true), .s 14]⟩,
  ⟨some 16, none, [], 0, .r .mv, [.s 15]⟩,
  ⟨some 17, (some (16, false)), [], 0, .r .mv, [.s 2]⟩,
  ⟨some 18, (some (16, false)), [], 0, .r (.bin .lss), [.s 17, .c (.int .i64 0)]⟩,
  ⟨some 19, none, [], 0, .r .pick, [.s 16, .c (.bool true), .s 18]⟩]
def f67r2 : List POp := [
  ⟨some 6, none, [], 0, .r .mv, [.c (.bool false)]⟩]
def f67r3 : List POp := [
  ⟨some 20, none, [], 0, .r .mv, [.s 2]⟩,
  ⟨some 21, none, [103], 0, .r (.fad 1), [.s 3]⟩,
  ⟨some 22, none, [103], 0, .r .ld1, [.s 21]⟩,
  ⟨some 23, none, [], 0, .r .mv, [.s 1]⟩,
  ⟨some 24, none, [], 0, .r (.ixs 4), [.s 22, .s 23]⟩,
  ⟨some 25, none, [], 0, .r (.fad 3), [.s 24]⟩,
  ⟨some 26, none, [], 0, .r .ld1, [.s 25]⟩,
  ⟨some 27, none, [], 0, .r .len, [.s 26]⟩,
  ⟨some 28, none, [], 0, .r (.bin .lss), [.s 20, .s 27]⟩,
  ⟨some 6, none, [], 0, .r .mv, [.s 28]⟩]
def f67pc : PCode := .seq (.region f67r0 []) (.seq (.seq (.region f67r1 []) (.cond (.s 19) (.seq (.region f67r2 []) (.ret)) (.skip))) (.seq (.region f67r3 []) (.ret)))
def f67rs : List RArg := [.s 6 [] []]
/- diorama/dioramaref10.Field : params [56, 9] results [3] tmps 22 resvars [('tmp', 4)] -/
def f68r0 : List POp := [
  ⟨some 2, none, [102], 102, .a (.box 56 4), [.s 0]⟩,
  ⟨some 4, none, [], 0, .r .mv, [.c (.int .i64 0)]⟩]
def f68r1 : List POp := [
  ⟨some 5, none, [], 0, .r .mv, [.c (.int .i64 0)]⟩]
def f68r2 : List POp := [
  ⟨some 6, none, [], 0, .r .mv, [.s 5]⟩,
  ⟨some 7, none, [102], 0, .r (.fad 3), [.s 2]⟩,
  ⟨some 8, none, [102], 0, .r .ld1, [.s 7]⟩,
  ⟨some 9, none, [], 0, .r .len, [.s 8]⟩,
  ⟨some 10, none, [], 0, .r (.bin .lss), [.s 6, .s 9]⟩]
def f68r4 : List POp := [
  ⟨some 13, none, [102], 0, .r (.fad 3), [.s 2]⟩,
  ⟨some 14, none, [102], 0, .r .ld1, [.s 13]⟩,
  ⟨some 15, none, [], 0, .r .mv, [.s 5]⟩,
  ⟨some 16, none, [], 0, .r (.ixs 8), [.s 14, .s 15]⟩,
  ⟨some 17, none, [], 0, .r (.fad 0), [.s 16]⟩,
  ⟨some 18, none, [], 0, .r .ld1, [.s 17]⟩,
  ⟨some 19, none, [], 0, .r .mv, [.s 1]⟩,
  ⟨some 20, none, [], 0, .r (.bin .eql), [.s 18, .s 19]⟩]
def f68r5 : List POp := [
  ⟨some 21, none, [], 0, .r .mv, [.s 5]⟩,
  ⟨some 4, none, [], 0, .r .mv, [.s 21]⟩]
def f68r3 : List POp := [
  ⟨some 11, none, [], 0, .r .mv, [.s 5]⟩,
  ⟨some 12, none, [], 0, .r (.bin .add), [.s 11, .c (.int .i64 1)]⟩,
  ⟨some 5, none, [], 0, .r .mv, [.s 12]⟩]
def f68l0 : PCode := .gh (.keep [1, 2, 5] [102]) (.seq (.seq (.region f68r2 []) (.cond (.s 10) (.skip) (.exit 0))) (.seq (.block 1 (.seq (.region f68r4 []) (.cond (.s 20) (.seq (.region f68r5 []) (.ret)) (.skip)))) (.region f68r3 [])))
/- f68l0: slots [1, 2, 5], tokens [102] -/
def f68r6 : List POp := [
  ⟨some 4, none, [], 0, .r .mv, [.c (.int .i64 (-1))]⟩]
def f68pc : PCode := .seq (.region f68r0 []) (.seq (.seq (.region f68r1 []) (.block 0 (.loop f68l0))) (.seq (.region f68r6 []) (.ret)))
def f68rs : List RArg := [.s 4 [] []]
/- diorama/dioramaref10.Kind : params [27, 9] results [3] tmps 22 resvars [('tmp', 4)] -/
def f69r0 : List POp := [
  ⟨some 2, none, [102], 102, .a (.box 27 4), [.s 0]⟩,
  ⟨some 4, none, [], 0, .r .mv, [.c (.int .i64 0)]⟩]
def f69r1 : List POp := [
  ⟨some 5, none, [], 0, .r .mv, [.c (.int .i64 0)]⟩]
def f69r2 : List POp := [
  ⟨some 6, none, [], 0, .r .mv, [.s 5]⟩,
  ⟨some 7, none, [102], 0, .r (.fad 1), [.s 2]⟩,
  ⟨some 8, none, [102], 0, .r .ld1, [.s 7]⟩,
  ⟨some 9, none, [], 0, .r .len, [.s 8]⟩,
  ⟨some 10, none, [], 0, .r (.bin .lss), [.s 6, .s 9]⟩]
def f69r4 : List POp := [
  ⟨some 13, none, [102], 0, .r (.fad 1), [.s 2]⟩,
  ⟨some 14, none, [102], 0, .r .ld1, [.s 13]⟩,
  ⟨some 15, none, [], 0, .r .mv, [.s 5]⟩,
  ⟨some 16, none, [], 0, .r (.ixs 4), [.s 14, .s 15]⟩,
  ⟨some 17, none, [], 0, .r (.fad 0), [.s 16]⟩,
  ⟨some 18, none, [], 0, .r .ld1, [.s 17]⟩,
  ⟨some 19, none, [], 0, .r .mv, [.s 1]⟩,
  ⟨some 20, none, [], 0, .r (.bin .eql), [.s 18, .s 19]⟩]
def f69r5 : List POp := [
  ⟨some 21, none, [], 0, .r .mv, [.s 5]⟩,
  ⟨some 4, none, [], 0, .r .mv, [.s 21]⟩]
def f69r3 : List POp := [
  ⟨some 11, none, [], 0, .r .mv, [.s 5]⟩,
  ⟨some 12, none, [], 0, .r (.bin .add), [.s 11, .c (.int .i64 1)]⟩,
  ⟨some 5, none, [], 0, .r .mv, [.s 12]⟩]
def f69l0 : PCode := .gh (.keep [1, 2, 5] [102]) (.seq (.seq (.region f69r2 []) (.cond (.s 10) (.skip) (.exit 0))) (.seq (.block 1 (.seq (.region f69r4 []) (.cond (.s 20) (.seq (.region f69r5 []) (.ret)) (.skip)))) (.region f69r3 [])))
/- f69l0: slots [1, 2, 5], tokens [102] -/
def f69r6 : List POp := [
  ⟨some 4, none, [], 0, .r .mv, [.c (.int .i64 (-1))]⟩]
def f69pc : PCode := .seq (.region f69r0 []) (.seq (.seq (.region f69r1 []) (.block 0 (.loop f69l0))) (.seq (.region f69r6 []) (.ret)))
def f69rs : List RArg := [.s 4 [] []]
end Go.Absw

/- Generated: the abstract texts of functions 14 40 71 70 78 39 43 44 45 18 19 46 38 41 16 123 124. -/
namespace Go.Absw
/- diorama/vm.Run : params [27, 43, 101, 3] results [38, 39] tmps 168 resvars [('cell', 8, 38), ('tmp', 9)] -/
def f14r0 : List POp := [
  ⟨some 4, none, [104], 104, .a (.box 27 4), [.s 0]⟩,
  ⟨some 8, none, [108], 108, .a (.alloc 38 [.int .i64 0, .int .i64 0]), []⟩,
  ⟨some 9, none, [], 0, .r .mv, [.c (.int .i64 0)]⟩]
def f14r1 : List POp := [
  ⟨some 16, none, [], 0, .r .mv, [.s 1]⟩,
  ⟨some 17, none, [], 0, .call .f [] [], [.fn 18, .z 16 [some 4]]⟩,
  ⟨some 10, none, [], 0, .r .mv, [.s 17]⟩]
def f14r2 : List POp := [
  ⟨some 18, none, [], 0, .r .mv, [.s 10]⟩,
  ⟨some 19, none, [], 0, .r (.bin .neq), [.s 18, .c (.int .i64 0)]⟩]
def f14r3 : List POp := [
  ⟨some 20, none, [], 0, .r (.build [.int .i64 0, .int .i64 0] []), []⟩,
  ⟨some 21, none, [], 0, .r .mv, [.s 10]⟩,
  ⟨none, none, [108], 0, .st 2, [.s 8, .s 20]⟩,
  ⟨some 9, none, [], 0, .r .mv, [.s 21]⟩]
def f14r4 : List POp := [
  ⟨some 22, none, [], 0, .r .mv, [.s 3]⟩,
  ⟨some 23, none, [], 0, .r (.bin .lss), [.s 22, .c (.int .i64 0)]⟩,
  ⟨some 24, none, [], 0, .r .mv, [.s 23]⟩,
  ⟨some 25, (some (24, false)), [], 0, .r .mv, [.s 3]⟩,
  ⟨some 26, (some (24, false)), [], 0, .r (.bin .gtr), [.s 25, .c (.int .i64 1000000)]⟩,
  ⟨some 27, none, [], 0, .r .pick, [.s 24, .c (.bool true), .s 26]⟩]
def f14r5 : List POp := [
  ⟨some 28, none, [], 0, .r (.build [.int .i64 0, .int .i64 0] []), []⟩,
  ⟨none, none, [108], 0, .st 2, [.s 8, .s 28]⟩,
  ⟨some 9, none, [], 0, .r .mv, [.c (.int .i64 4)]⟩]
def f14r6 : List POp := [
  ⟨some 29, none, [104], 0, .r (.ldn 4), [.s 4]⟩,
  ⟨some 30, none, [], 0, .r .mv, [.s 1]⟩,
  ⟨some 31, none, [], 0, .call .f [] [], [.fn 39, .z 29 [none, some 4, some 3, some 5], .z 30 [some 4]]⟩,
  ⟨some 32, none, [], 0, .r (.un .not), [.s 31]⟩]
def f14r7 : List POp := [
  ⟨some 33, none, [], 0, .r (.build [.int .i64 0, .int .i64 0] []), []⟩,
  ⟨none, none, [108], 0, .st 2, [.s 8, .s 33]⟩,
  ⟨some 9, none, [], 0, .r .mv, [.c (.int .i64 12)]⟩]
def f14r8 : List POp := [
  ⟨some 11, none, [111], 111, .a (.alloc 103 [.int .i64 0, .int .i64 0, .int .i64 0, .int .i64 0, .int .i64 0, .int .i64 0, .int .i64 0, .int .i64 0]), []⟩]
def f14r9 : List POp := [
  ⟨some 12, none, [], 0, .r .mv, [.c (.int .i64 0)]⟩]
def f14r10 : List POp := [
  ⟨some 13, none, [], 0, .r .mv, [.c (.int .i64 0)]⟩]
def f14r12 : List POp := [
  ⟨some 36, none, [], 0, .r .mv, [.s 12]⟩,
  ⟨some 37, none, [], 0, .r .mv, [.s 1]⟩,
  ⟨some 38, none, [], 0, .r .len, [.s 37]⟩,
  ⟨some 39, none, [], 0, .r (.bin .eql), [.s 36, .s 38]⟩]
def f14r13 : List POp := [
  ⟨some 40, none, [], 0, .r .mv, [.s 13]⟩,
  ⟨some 41, none, [], 0, .r (.build [.int .i64 0, .int .i64 0] [(0, 1), (1, 1)]), [.c (.int .i64 0), .s 40]⟩,
  ⟨none, none, [108], 0, .st 2, [.s 8, .s 41]⟩,
  ⟨some 9, none, [], 0, .r .mv, [.c (.int .i64 0)]⟩]
def f14r14 : List POp := [
  ⟨some 42, none, [], 0, .r .mv, [.s 13]⟩,
  ⟨some 43, none, [], 0, .r .mv, [.s 3]⟩,
  ⟨some 44, none, [], 0, .r (.bin .eql), [.s 42, .s 43]⟩]
def f14r15 : List POp := [
  ⟨some 45, none, [], 0, .r (.build [.int .i64 0, .int .i64 0] []), []⟩,
  ⟨none, none, [108], 0, .st 2, [.s 8, .s 45]⟩,
  ⟨some 9, none, [], 0, .r .mv, [.c (.int .i64 23)]⟩]
def f14r16 : List POp := [
  ⟨some 46, none, [], 0, .r .mv, [.s 1]⟩,
  ⟨some 47, none, [], 0, .r .mv, [.s 12]⟩,
  ⟨some 48, none, [], 0, .r (.ixs 4), [.s 46, .s 47]⟩,
  ⟨some 49, none, [], 0, .r (.ldn 4), [.s 48]⟩,
  ⟨some 14, none, [114], 114, .a (.alloc 104 [.int .i64 0, .int .i64 0, .int .i64 0, .int .i64 0]), []⟩,
  ⟨none, none, [114], 0, .st 4, [.s 14, .s 49]⟩]
def f14r17 : List POp := [
  ⟨some 50, none, [], 0, .r .mv, [.s 12]⟩,
  ⟨some 51, none, [], 0, .r (.bin .add), [.s 50, .c (.int .i64 1)]⟩,
  ⟨some 12, none, [], 0, .r .mv, [.s 51]⟩]
def f14r18 : List POp := [
  ⟨some 52, none, [], 0, .r (.mkf (.func 40) 0), [.s 11, .s 14]⟩,
  ⟨some 15, none, [], 0, .r .mv, [.s 52]⟩]
def f14r19 : List POp := [
  ⟨some 53, none, [114], 0, .r (.fad 0), [.s 14]⟩,
  ⟨some 54, none, [114], 0, .r .ld1, [.s 53]⟩]
def f14r20 : List POp := [
  ⟨some 56, none, [], 0, .r (.bin .eql), [.s 54, .c (.int .i64 0)]⟩,
  ⟨some 55, none, [], 0, .r .mv, [.s 56]⟩]
def f14r21 : List POp := [
  ⟨some 57, none, [114], 0, .r (.fad 1), [.s 14]⟩,
  ⟨some 58, none, [114], 0, .r .ld1, [.s 57]⟩,
  ⟨some 59, none, [], 0, .r .mv, [.s 13]⟩,
  ⟨some 60, none, [], 0, .r (.bin .add), [.s 59, .c (.int .i64 1)]⟩,
  ⟨some 61, none, [], 0, .r (.build [.int .i64 0, .int .i64 0] [(0, 1), (1, 1)]), [.s 58, .s 60]⟩,
  ⟨none, none, [108], 0, .st 2, [.s 8, .s 61]⟩,
  ⟨some 9, none, [], 0, .r .mv, [.c (.int .i64 0)]⟩]
def f14r22 : List POp := [
  ⟨some 63, none, [], 0, .r (.bin .eql), [.s 54, .c (.int .i64 1)]⟩,
  ⟨some 62, none, [], 0, .r .mv, [.s 63]⟩]
def f14r23 : List POp := [
  ⟨some 64, none, [], 0, .r .mv, [.s 15]⟩,
  ⟨some 65, none, [114], 0, .r (.fad 2), [.s 14]⟩,
  ⟨some 66, none, [114], 0, .r .ld1, [.s 65]⟩,
  ⟨some 67, none, [111, 114], 0, .call .f [111, 114] [], [.s 64, .s 66]⟩]
def f14r24 : List POp := [
  ⟨some 69, none, [], 0, .r (.bin .eql), [.s 54, .c (.int .i64 2)]⟩,
  ⟨some 68, none, [], 0, .r .mv, [.s 69]⟩]
def f14r25 : List POp := [
  ⟨some 70, none, [], 0, .r .mv, [.s 15]⟩,
  ⟨some 71, none, [114], 0, .r (.fad 2), [.s 14]⟩,
  ⟨some 72, none, [114], 0, .r .ld1, [.s 71]⟩,
  ⟨some 73, none, [111], 0, .r (.ixa 8 1), [.s 11, .s 72]⟩,
  ⟨some 74, none, [111], 0, .r .ld1, [.s 73]⟩,
  ⟨some 75, none, [114], 0, .r (.fad 3), [.s 14]⟩,
  ⟨some 76, none, [114], 0, .r .ld1, [.s 75]⟩,
  ⟨some 77, none, [111], 0, .r (.ixa 8 1), [.s 11, .s 76]⟩,
  ⟨some 78, none, [111], 0, .r .ld1, [.s 77]⟩,
  ⟨some 79, none, [], 0, .r (.bin .add), [.s 74, .s 78]⟩,
  ⟨some 80, none, [111, 114], 0, .call .f [111, 114] [], [.s 70, .s 79]⟩]
def f14r26 : List POp := [
  ⟨some 82, none, [], 0, .r (.bin .eql), [.s 54, .c (.int .i64 3)]⟩,
  ⟨some 81, none, [], 0, .r .mv, [.s 82]⟩]
def f14r27 : List POp := [
  ⟨some 83, none, [], 0, .r .mv, [.s 15]⟩,
  ⟨some 84, none, [114], 0, .r (.fad 2), [.s 14]⟩,
  ⟨some 85, none, [114], 0, .r .ld1, [.s 84]⟩,
  ⟨some 86, none, [111], 0, .r (.ixa 8 1), [.s 11, .s 85]⟩,
  ⟨some 87, none, [111], 0, .r .ld1, [.s 86]⟩,
  ⟨some 88, none, [114], 0, .r (.fad 3), [.s 14]⟩,
  ⟨some 89, none, [114], 0, .r .ld1, [.s 88]⟩,
  ⟨some 90, none, [111], 0, .r (.ixa 8 1), [.s 11, .s 89]⟩,
  ⟨some 91, none, [111], 0, .r .ld1, [.s 90]⟩,
  ⟨some 92, none, [], 0, .r (.bin .sub), [.s 87, .s 91]⟩,
  ⟨some 93, none, [111, 114], 0, .call .f [111, 114] [], [.s 83, .s 92]⟩]
def f14r28 : List POp := [
  ⟨some 95, none, [], 0, .r (.bin .eql), [.s 54, .c (.int .i64 4)]⟩,
  ⟨some 94, none, [], 0, .r .mv, [.s 95]⟩]
def f14r29 : List POp := [
  ⟨some 96, none, [], 0, .r .mv, [.s 15]⟩,
  ⟨some 97, none, [], 0, .r .mv, [.s 2]⟩,
  ⟨some 98, none, [114], 0, .r (.fad 2), [.s 14]⟩,
  ⟨some 99, none, [114], 0, .r .ld1, [.s 98]⟩,
  ⟨some 100, none, [], 0, .call (.inv "Count" 46 123) [] [], [.s 97, .s 99]⟩,
  ⟨some 101, none, [111, 114], 0, .call .f [111, 114] [], [.s 96, .s 100]⟩]
def f14r30 : List POp := [
  ⟨some 103, none, [], 0, .r (.bin .eql), [.s 54, .c (.int .i64 5)]⟩,
  ⟨some 102, none, [], 0, .r .mv, [.s 103]⟩]
def f14r31 : List POp := [
  ⟨some 104, none, [114], 0, .r (.fad 1), [.s 14]⟩,
  ⟨some 105, none, [114], 0, .r .ld1, [.s 104]⟩,
  ⟨some 106, none, [111], 0, .r (.ixa 8 1), [.s 11, .s 105]⟩,
  ⟨some 107, none, [111], 0, .r .ld1, [.s 106]⟩,
  ⟨some 108, none, [], 0, .r (.bin .lss), [.s 107, .c (.int .i64 0)]⟩,
  ⟨some 109, none, [], 0, .r .mv, [.s 108]⟩,
  ⟨some 110, (some (109, false)), [114], 0, .r (.fad 1), [.s 14]⟩,
  ⟨some 111, (some (109, false)), [114], 0, .r .ld1, [.s 110]⟩,
  ⟨some 112, (some (109, false)), [111], 0, .r (.ixa 8 1), [.s 11, .s 111]⟩,
  ⟨some 113, (some (109, false)), [111], 0, .r .ld1, [.s 112]⟩,
  ⟨some 114, (some (109, false)), [], 0, .r .mv, [.s 2]⟩,
  ⟨some 115, (some (109, false)), [114], 0, .r (.fad 2), [.s 14]⟩,
  ⟨some 116, (some (109, false)), [114], 0, .r .ld1, [.s 115]⟩,
  ⟨some 117, (some (109, false)), [], 0, .call (.inv "Count" 46 123) [] [], [.s 114, .s 116]⟩,
  ⟨some 118, (some (109, false)), [], 0, .r (.bin .geq), [.s 113, .s 117]⟩,
  ⟨some 119, none, [], 0, .r .pick, [.s 109, .c (.bool true), .s 118]⟩]
def f14r32 : List POp := [
  ⟨some 120, none, [], 0, .r .mv, [.s 13]⟩,
  ⟨some 121, none, [], 0, .r (.bin .add), [.s 120, .c (.int .i64 1)]⟩,
  ⟨some 122, none, [], 0, .r (.build [.int .i64 0, .int .i64 0] [(0, 1), (1, 1)]), [.c (.int .i64 251), .s 121]⟩,
  ⟨none, none, [108], 0, .st 2, [.s 8, .s 122]⟩,
  ⟨some 9, none, [], 0, .r .mv, [.c (.int .i64 0)]⟩]
def f14r33 : List POp := [
  ⟨some 123, none, [], 0, .r .mv, [.s 15]⟩,
  ⟨some 124, none, [], 0, .r .mv, [.s 2]⟩,
  ⟨some 125, none, [114], 0, .r (.fad 2), [.s 14]⟩,
  ⟨some 126, none, [114], 0, .r .ld1, [.s 125]⟩,
  ⟨some 127, none, [114], 0, .r (.fad 1), [.s 14]⟩,
  ⟨some 128, none, [114], 0, .r .ld1, [.s 127]⟩,
  ⟨some 129, none, [111], 0, .r (.ixa 8 1), [.s 11, .s 128]⟩,
  ⟨some 130, none, [111], 0, .r .ld1, [.s 129]⟩,
  ⟨some 131, none, [114], 0, .r (.fad 3), [.s 14]⟩,
  ⟨some 132, none, [114], 0, .r .ld1, [.s 131]⟩,
  ⟨some 133, none, [], 0, .r (.mkf (.method "Value") 1), [.s 124]⟩,
  ⟨some 134, none, [], 0, .r (.nckm 46 "Value"), [.s 133]⟩,
  ⟨some 135, none, [], 0, .r .mv, [.s 124]⟩,
  ⟨some 136, none, [], 0, .call (.inv "Value" 46 124) [] [], [.s 135, .s 126, .s 130, .s 132]⟩,
  ⟨some 137, none, [111, 114], 0, .call .f [111, 114] [], [.s 123, .s 136]⟩]
def f14r34 : List POp := [
  ⟨some 139, none, [], 0, .r (.bin .eql), [.s 54, .c (.int .i64 6)]⟩,
  ⟨some 138, none, [], 0, .r .mv, [.s 139]⟩]
def f14r35 : List POp := [
  ⟨some 140, none, [114], 0, .r (.fad 1), [.s 14]⟩,
  ⟨some 141, none, [114], 0, .r .ld1, [.s 140]⟩,
  ⟨some 12, none, [], 0, .r .mv, [.s 141]⟩]
def f14r36 : List POp := [
  ⟨some 143, none, [], 0, .r (.bin .eql), [.s 54, .c (.int .i64 7)]⟩,
  ⟨some 142, none, [], 0, .r .mv, [.s 143]⟩]
def f14r37 : List POp := [
  ⟨some 144, none, [114], 0, .r (.fad 1), [.s 14]⟩,
  ⟨some 145, none, [114], 0, .r .ld1, [.s 144]⟩,
  ⟨some 146, none, [111], 0, .r (.ixa 8 1), [.s 11, .s 145]⟩,
  ⟨some 147, none, [111], 0, .r .ld1, [.s 146]⟩,
  ⟨some 148, none, [114], 0, .r (.fad 2), [.s 14]⟩,
  ⟨some 149, none, [114], 0, .r .ld1, [.s 148]⟩,
  ⟨some 150, none, [111], 0, .r (.ixa 8 1), [.s 11, .s 149]⟩,
  ⟨some 151, none, [111], 0, .r .ld1, [.s 150]⟩,
  ⟨some 152, none, [], 0, .r (.bin .lss), [.s 147, .s 151]⟩]
def f14r38 : List POp := [
  ⟨some 153, none, [114], 0, .r (.fad 3), [.s 14]⟩,
  ⟨some 154, none, [114], 0, .r .ld1, [.s 153]⟩,
  ⟨some 12, none, [], 0, .r .mv, [.s 154]⟩]
def f14r39 : List POp := [
  ⟨some 156, none, [], 0, .r (.bin .eql), [.s 54, .c (.int .i64 8)]⟩,
  ⟨some 155, none, [], 0, .r .mv, [.s 156]⟩]
def f14r40 : List POp := [
  ⟨some 157, none, [114], 0, .r (.fad 1), [.s 14]⟩,
  ⟨some 158, none, [114], 0, .r .ld1, [.s 157]⟩,
  ⟨some 159, none, [111], 0, .r (.ixa 8 1), [.s 11, .s 158]⟩,
  ⟨some 160, none, [111], 0, .r .ld1, [.s 159]⟩,
  ⟨some 161, none, [114], 0, .r (.fad 2), [.s 14]⟩,
  ⟨some 162, none, [114], 0, .r .ld1, [.s 161]⟩,
  ⟨some 163, none, [111], 0, .r (.ixa 8 1), [.s 11, .s 162]⟩,
  ⟨some 164, none, [111], 0, .r .ld1, [.s 163]⟩,
  ⟨some 165, none, [], 0, .r (.bin .eql), [.s 160, .s 164]⟩]
def f14r41 : List POp := [
  ⟨some 166, none, [114], 0, .r (.fad 3), [.s 14]⟩,
  ⟨some 167, none, [114], 0, .r .ld1, [.s 166]⟩,
  ⟨some 12, none, [], 0, .r .mv, [.s 167]⟩]
def f14r11 : List POp := [
  ⟨some 34, none, [], 0, .r .mv, [.s 13]⟩,
  ⟨some 35, none, [], 0, .r (.bin .add), [.s 34, .c (.int .i64 1)]⟩,
  ⟨some 13, none, [], 0, .r .mv, [.s 35]⟩]
def f14l0 : PCode := .gh (.keep [1, 2, 3, 8, 11, 12, 13] [108, 111]) (.seq (.block 1 (.seq (.seq (.region f14r12 []) (.cond (.s 39) (.seq (.region f14r13 []) (.ret)) (.skip))) (.seq (.seq (.region f14r14 []) (.cond (.s 44) (.seq (.region f14r15 []) (.ret)) (.skip))) (.seq (.region f14r16 []) (.seq (.region f14r17 []) (.seq (.region f14r18 []) (.seq (.region f14r19 []) (.block 2 (.seq (.region f14r20 []) (.cond (.s 55) (.seq (.region f14r21 []) (.ret)) (.seq (.region f14r22 []) (.cond (.s 62) (.region f14r23 []) (.seq (.region f14r24 []) (.cond (.s 68) (.region f14r25 [[], [], [1], [1, 2], [1, 2, 3], [], [5], [5, 6], [5, 6, 7], [1, 2, 3, 4, 5, 6, 7, 8], [0, 1, 2, 3, 4, 5, 6, 7, 8, 9]]) (.seq (.region f14r26 []) (.cond (.s 81) (.region f14r27 [[], [], [1], [1, 2], [1, 2, 3], [], [5], [5, 6], [5, 6, 7], [1, 2, 3, 4, 5, 6, 7, 8], [0, 1, 2, 3, 4, 5, 6, 7, 8, 9]]) (.seq (.region f14r28 []) (.cond (.s 94) (.region f14r29 []) (.seq (.region f14r30 []) (.cond (.s 102) (.seq (.seq (.region f14r31 [[], [0], [0, 1], [0, 1, 2], [0, 1, 2, 3], [0, 1, 2, 3, 4], [0, 1, 2, 3, 4, 5], [0, 1, 2, 3, 4, 5, 6], [0, 1, 2, 3, 4, 5, 6, 7], [0, 1, 2, 3, 4, 5, 6, 7, 8], [0, 1, 2, 3, 4, 5], [0, 1, 2, 3, 4, 5], [0, 1, 2, 3, 4, 5, 11], [0, 1, 2, 3, 4, 5, 10, 11, 12], [0, 1, 2, 3, 4, 5, 6, 7, 8, 9, 10, 11, 12, 13], [0, 1, 2, 3, 4, 5, 6, 7, 8, 9, 10, 11, 12, 13, 14]]) (.cond (.s 119) (.seq (.region f14r32 []) (.ret)) (.skip))) (.region f14r33 [[], [], [], [2], [], [4], [4, 5], [4, 5, 6], [], [8], [1], [1, 10], [1, 10, 11], [1, 2, 3, 4, 5, 6, 7, 8, 9, 10, 11, 12], [0, 1, 2, 3, 4, 5, 6, 7, 8, 9, 10, 11, 12, 13]])) (.seq (.region f14r34 []) (.cond (.s 138) (.region f14r35 []) (.seq (.region f14r36 []) (.cond (.s 142) (.seq (.region f14r37 [[], [0], [0, 1], [0, 1, 2], [], [4], [4, 5], [4, 5, 6], [0, 1, 2, 3, 4, 5, 6, 7]]) (.cond (.s 152) (.region f14r38 []) (.skip))) (.seq (.region f14r39 []) (.cond (.s 155) (.seq (.region f14r40 [[], [0], [0, 1], [0, 1, 2], [], [4], [4, 5], [4, 5, 6], [0, 1, 2, 3, 4, 5, 6, 7]]) (.cond (.s 165) (.region f14r41 []) (.skip))) (.skip))))))))))))))))))))))))))) (.region f14r11 []))
/- f14l0: slots [1, 2, 3, 8, 11, 12, 13], tokens [108, 111] -/
def f14pc : PCode := .seq (.region f14r0 []) (.seq (.seq (.region f14r1 []) (.seq (.region f14r2 []) (.cond (.s 19) (.seq (.region f14r3 []) (.ret)) (.skip)))) (.seq (.seq (.region f14r4 []) (.cond (.s 27) (.seq (.region f14r5 []) (.ret)) (.skip))) (.seq (.seq (.region f14r6 []) (.cond (.s 32) (.seq (.region f14r7 []) (.ret)) (.skip))) (.seq (.region f14r8 []) (.seq (.region f14r9 []) (.seq (.region f14r10 []) (.block 0 (.loop f14l0))))))))
def f14rs : List RArg := [.cn 8 2 [] [108], .s 9 [] []]
/- diorama/vm.Run$1 : params [3] results [] tmps 8 resvars [] -/
def f40r0 : List POp := [
  ⟨some 4, none, [1], 0, .r (.fad 1), [.s 2]⟩,
  ⟨some 5, none, [1], 0, .r .ld1, [.s 4]⟩,
  ⟨some 6, none, [], 0, .r .mv, [.s 0]⟩,
  ⟨some 7, none, [0], 0, .r (.ixa 8 1), [.s 1, .s 5]⟩,
  ⟨none, none, [0], 0, .st 1, [.s 7, .s 6]⟩]
def f40pc : PCode := .region f40r0 []
def f40rs : List RArg := []
/- diorama/vm.named$1 : params [104] results [4] tmps 36 resvars [('tmp', 3)] -/
def f71r0 : List POp := [
  ⟨some 2, none, [102], 102, .a (.box 104 4), [.s 0]⟩,
  ⟨some 3, none, [], 0, .r .mv, [.c (.bool false)]⟩]
def f71r1 : List POp := [
  ⟨some 4, none, [102], 0, .r (.fad 0), [.s 2]⟩,
  ⟨some 5, none, [102], 0, .r .ld1, [.s 4]⟩,
  ⟨some 6, none, [], 0, .r (.bin .neq), [.s 5, .c (.int .i64 4)]⟩,
  ⟨some 7, none, [], 0, .r .mv, [.s 6]⟩,
  ⟨some 8, (some (7, true)), [102], 0, .r (.fad 0), [.s 2]⟩,
  ⟨some 9, (some (7, true)), [102], 0, .r .ld1, [.s 8]⟩,
  ⟨some 10, (some (7, true)), [], 0, .r (.bin .neq), [.s 9, .c (.int .i64 5)]⟩,
  ⟨some 11, none, [], 0, .r .pick, [.s 7, .s 10, .c (.bool false)]⟩]
def f71r2 : List POp := [
  ⟨some 3, none, [], 0, .r .mv, [.c (.bool false)]⟩]
def f71r3 : List POp := [
  ⟨some 12, none, [102], 0, .r (.fad 2), [.s 2]⟩,
  ⟨some 13, none, [102], 0, .r .ld1, [.s 12]⟩,
  ⟨some 14, none, [0], 0, .r (.fad 1), [.s 1]⟩,
  ⟨some 15, none, [0], 0, .r .ld1, [.s 14]⟩,
  ⟨some 16, none, [], 0, .r .len, [.s 15]⟩,
  ⟨some 17, none, [], 0, .r (.bin .geq), [.s 13, .s 16]⟩,
  ⟨some 18, none, [], 0, .r .mv, [.s 17]⟩,
  ⟨some 19, (some (18, false)), [102], 0, .r (.fad 0), [.s 2]⟩,
  ⟨some 20, (some (18, false)), [102], 0, .r .ld1, [.s 19]⟩,
  ⟨some 21, (some (18, false)), [], 0, .r (.bin .eql), [.s 20, .c (.int .i64 5)]⟩,
  ⟨some 22, (some (18, false)), [], 0, .r .mv, [.s 21]⟩,
  ⟨some 23, (some (22, true)), [102], 0, .r (.fad 3), [.s 2]⟩,
  ⟨some 24, (some (22, true)), [102], 0, .r .ld1, [.s 23]⟩,
  ⟨some 25, (some (22, true)), [0], 0, .r (.fad 1), [.s 1]⟩,
  ⟨some 26, (some (22, true)), [0], 0, .r .ld1, [.s 25]⟩,
  ⟨some 27, (some (22, true)), [102], 0, .r (.fad 2), [.s 2]⟩,
  ⟨some 28, (some (22, true)), [102], 0, .r .ld1, [.s 27]⟩,
  ⟨some 29, (some (22, true)), [], 0, .r (.ixs 4), [.s 26, .s 28]⟩,
  ⟨some 30, (some (22, true)), [], 0, .r (.fad 3), [.s 29]⟩,
  ⟨some 31, (some (22, true)), [], 0, .r .ld1, [.s 30]⟩,
  ⟨some 32, (some (22, true)), [], 0, .r .len, [.s 31]⟩,
  ⟨some 33, (some (22, true)), [], 0, .r (.bin .geq), [.s 24, .s 32]⟩,
  ⟨some 34, (some (18, false)), [], 0, .r .pick, [.s 22, .s 33, .c (.bool false)]⟩,
  ⟨some 35, none, [], 0, .r .pick, [.s 18, .c (.bool true), .s 34]⟩,
  ⟨some 3, none, [], 0, .r .mv, [.s 35]⟩]
def f71pc : PCode := .seq (.region f71r0 []) (.seq (.seq (.region f71r1 []) (.cond (.s 11) (.seq (.region f71r2 []) (.ret)) (.skip))) (.seq (.region f71r3 [[], [0], [], [2], [2, 3], [0, 1, 2, 3, 4], [0, 1, 2, 3, 4, 5], [0, 1, 2, 3, 4, 5, 6], [0, 1, 2, 3, 4, 5, 6, 7], [0, 1, 2, 3, 4, 5, 6, 7, 8], [0, 1, 2, 3, 4, 5, 6, 7, 8, 9], [0, 1, 2, 3, 4, 5, 6, 7, 8, 9, 10], [0, 1, 2, 3, 4, 5, 6, 7, 8, 9, 10, 11], [0, 1, 2, 3, 4, 5, 6, 7, 8, 9, 10], [0, 1, 2, 3, 4, 5, 6, 7, 8, 9, 10, 13], [0, 1, 2, 3, 4, 5, 6, 7, 8, 9, 10], [0, 1, 2, 3, 4, 5, 6, 7, 8, 9, 10, 15], [0, 1, 2, 3, 4, 5, 6, 7, 8, 9, 10, 13, 14, 15, 16], [0, 1, 2, 3, 4, 5, 6, 7, 8, 9, 10, 13, 14, 15, 16, 17], [0, 1, 2, 3, 4, 5, 6, 7, 8, 9, 10, 13, 14, 15, 16, 17, 18], [0, 1, 2, 3, 4, 5, 6, 7, 8, 9, 10, 13, 14, 15, 16, 17, 18, 19], [0, 1, 2, 3, 4, 5, 6, 7, 8, 9, 10, 11, 12, 13, 14, 15, 16, 17, 18, 19, 20], [0, 1, 2, 3, 4, 5, 6, 7, 8, 9, 10, 11, 12, 13, 14, 15, 16, 17, 18, 19, 20, 21], [0, 1, 2, 3, 4, 5, 6, 7, 8, 9, 10, 11, 12, 13, 14, 15, 16, 17, 18, 19, 20, 21, 22], [0, 1, 2, 3, 4, 5, 6, 7, 8, 9, 10, 11, 12, 13, 14, 15, 16, 17, 18, 19, 20, 21, 22, 23]]) (.ret)))
def f71rs : List RArg := [.s 3 [] []]
/- slices.ContainsFunc[diorama/vm.Program,diorama/vm.Ins] : params [43, 148] results [4] tmps 9 resvars [('tmp', 4)] -/
def f70r0 : List POp := [
  ⟨some 4, none, [], 0, .r .mv, [.c (.bool false)]⟩]
def f70r1 : List POp := [
  ⟨some 5, none, [], 0, .r .mv, [.s 0]⟩,
  ⟨some 6, none, [], 0, .r .mv, [.s 1]⟩,
  ⟨some 7, none, [0], 0, .call .f [0] [], [.fn 78, .z 5 [some 4], .s 6]⟩,
  ⟨some 8, none, [], 0, .r (.bin .geq), [.s 7, .c (.int .i64 0)]⟩,
  ⟨some 4, none, [], 0, .r .mv, [.s 8]⟩]
def f70pc : PCode := .seq (.region f70r0 []) (.seq (.region f70r1 []) (.ret))
def f70rs : List RArg := [.s 4 [] []]
/- slices.IndexFunc[diorama/vm.Program,diorama/vm.Ins] : params [43, 148] results [3] tmps 19 resvars [('tmp', 4)] -/
def f78r0 : List POp := [
  ⟨some 4, none, [], 0, .r .mv, [.c (.int .i64 0)]⟩]
def f78r1 : List POp := [
  ⟨some 6, none, [], 0, .r .mv, [.s 0]⟩,
  ⟨some 7, none, [], 0, .r .len, [.s 6]⟩,
  ⟨some 8, none, [], 0, .r .mv, [.c (.int .i64 0)]⟩]
def f78r2 : List POp := [
  ⟨some 9, none, [], 0, .r (.bin .lss), [.s 8, .s 7]⟩]
def f78r3 : List POp := [
  ⟨some 10, none, [], 0, .r .mv, [.s 8]⟩,
  ⟨some 5, none, [], 0, .r .mv, [.s 10]⟩]
def f78r4 : List POp := [
  ⟨some 11, none, [], 0, .r .mv, [.s 1]⟩,
  ⟨some 12, none, [], 0, .r .mv, [.s 0]⟩,
  ⟨some 13, none, [], 0, .r .mv, [.s 5]⟩,
  ⟨some 14, none, [], 0, .r (.ixs 4), [.s 12, .s 13]⟩,
  ⟨some 15, none, [], 0, .r (.ldn 4), [.s 14]⟩,
  ⟨some 16, none, [0], 0, .call .f [0] [], [.s 11, .s 15]⟩]
def f78r5 : List POp := [
  ⟨some 17, none, [], 0, .r .mv, [.s 5]⟩,
  ⟨some 4, none, [], 0, .r .mv, [.s 17]⟩]
def f78r6 : List POp := [
  ⟨some 18, none, [], 0, .r (.bin .add), [.s 8, .c (.int .i64 1)]⟩,
  ⟨some 8, none, [], 0, .r .mv, [.s 18]⟩]
def f78l0 : PCode := .gh (.keep [0, 1, 7, 8] [0]) (.seq (.region f78r2 []) (.seq (.cond (.s 9) (.skip) (.exit 0)) (.seq (.block 1 (.seq (.region f78r3 []) (.seq (.region f78r4 []) (.cond (.s 16) (.seq (.region f78r5 []) (.ret)) (.skip))))) (.region f78r6 []))))
/- f78l0: slots [0, 1, 7, 8], tokens [0] -/
def f78r7 : List POp := [
  ⟨some 4, none, [], 0, .r .mv, [.c (.int .i64 (-1))]⟩]
def f78pc : PCode := .seq (.region f78r0 []) (.seq (.seq (.region f78r1 []) (.block 0 (.loop f78l0))) (.seq (.region f78r7 []) (.ret)))
def f78rs : List RArg := [.s 4 [] []]
/- diorama/vm.named : params [27, 43] results [4] tmps 9 resvars [('tmp', 4)] -/
def f39r0 : List POp := [
  ⟨some 2, none, [102], 102, .a (.box 27 4), [.s 0]⟩,
  ⟨some 4, none, [], 0, .r .mv, [.c (.bool false)]⟩]
def f39r1 : List POp := [
  ⟨some 5, none, [], 0, .r .mv, [.s 1]⟩,
  ⟨some 6, none, [], 0, .r (.mkf (.func 71) 0), [.s 2]⟩,
  ⟨some 7, none, [102], 0, .call .f [102] [], [.fn 70, .z 5 [some 4], .s 6]⟩,
  ⟨some 8, none, [], 0, .r (.un .not), [.s 7]⟩,
  ⟨some 4, none, [], 0, .r .mv, [.s 8]⟩]
def f39pc : PCode := .seq (.region f39r0 []) (.seq (.region f39r1 []) (.ret))
def f39rs : List RArg := [.s 4 [] []]
/- (diorama/vm.Ins).numbers : params [104] results [109] tmps 10 resvars [('cell', 2, 109)] -/
def f43r0 : List POp := [
  ⟨some 1, none, [101], 101, .a (.box 104 4), [.s 0]⟩,
  ⟨some 2, none, [102], 102, .a (.alloc 109 [.int .i64 0, .int .i64 0, .int .i64 0]), []⟩]
def f43r1 : List POp := [
  ⟨some 3, none, [101], 0, .r (.fad 1), [.s 1]⟩,
  ⟨some 4, none, [101], 0, .r .ld1, [.s 3]⟩,
  ⟨some 5, none, [101], 0, .r (.fad 2), [.s 1]⟩,
  ⟨some 6, none, [101], 0, .r .ld1, [.s 5]⟩,
  ⟨some 7, none, [101], 0, .r (.fad 3), [.s 1]⟩,
  ⟨some 8, none, [101], 0, .r .ld1, [.s 7]⟩,
  ⟨some 9, none, [], 0, .r (.build [.int .i64 0, .int .i64 0, .int .i64 0] [(0, 1), (1, 1), (2, 1)]), [.s 4, .s 6, .s 8]⟩,
  ⟨none, none, [102], 0, .st 3, [.s 2, .s 9]⟩]
def f43pc : PCode := .seq (.region f43r0 []) (.seq (.region f43r1 []) (.ret))
def f43rs : List RArg := [.cn 2 3 [] [102]]
/- diorama/vm.fits : params [3, 3, 3] results [4] tmps 31 resvars [('tmp', 6)] -/
def f44r0 : List POp := [
  ⟨some 6, none, [], 0, .r .mv, [.c (.bool false)]⟩]
def f44r1 : List POp := [
  ⟨some 7, none, [], 0, .r .mv, [.c (.int .i64 0)]⟩,
  ⟨some 8, none, [], 0, .r .mv, [.c (.int .i64 0)]⟩]
def f44r2 : List POp := [
  ⟨some 9, none, [], 0, .r .mv, [.s 0]⟩]
def f44r3 : List POp := [
  ⟨some 11, none, [], 0, .r (.bin .eql), [.s 9, .c (.int .i64 1)]⟩,
  ⟨some 10, none, [], 0, .r .mv, [.s 11]⟩]
def f44r4 : List POp := [
  ⟨some 8, none, [], 0, .r .mv, [.c (.int .i64 250)]⟩]
def f44r5 : List POp := [
  ⟨some 13, none, [], 0, .r (.bin .eql), [.s 9, .c (.int .i64 2)]⟩,
  ⟨some 12, none, [], 0, .r .mv, [.s 13]⟩]
def f44r6 : List POp := [
  ⟨some 8, none, [], 0, .r .mv, [.c (.int .i64 7)]⟩]
def f44r7 : List POp := [
  ⟨some 15, none, [], 0, .r (.bin .eql), [.s 9, .c (.int .i64 3)]⟩,
  ⟨some 14, none, [], 0, .r .mv, [.s 15]⟩]
def f44r8 : List POp := [
  ⟨some 7, none, [], 0, .r .mv, [.c (.int .i64 (-1048576))]⟩,
  ⟨some 8, none, [], 0, .r .mv, [.c (.int .i64 1048576)]⟩]
def f44r9 : List POp := [
  ⟨some 17, none, [], 0, .r (.bin .eql), [.s 9, .c (.int .i64 4)]⟩,
  ⟨some 16, none, [], 0, .r .mv, [.s 17]⟩]
def f44r10 : List POp := [
  ⟨some 8, none, [], 0, .r .mv, [.c (.int .i64 5)]⟩]
def f44r11 : List POp := [
  ⟨some 19, none, [], 0, .r (.bin .eql), [.s 9, .c (.int .i64 5)]⟩,
  ⟨some 18, none, [], 0, .r .mv, [.s 19]⟩]
def f44r12 : List POp := [
  ⟨some 8, none, [], 0, .r .mv, [.c (.int .i64 9)]⟩]
def f44r13 : List POp := [
  ⟨some 21, none, [], 0, .r (.bin .eql), [.s 9, .c (.int .i64 6)]⟩,
  ⟨some 20, none, [], 0, .r .mv, [.s 21]⟩]
def f44r14 : List POp := [
  ⟨some 22, none, [], 0, .r .mv, [.s 2]⟩,
  ⟨some 8, none, [], 0, .r .mv, [.s 22]⟩]
def f44r15 : List POp := [
  ⟨some 23, none, [], 0, .r .mv, [.s 1]⟩,
  ⟨some 24, none, [], 0, .r .mv, [.s 7]⟩,
  ⟨some 25, none, [], 0, .r (.bin .geq), [.s 23, .s 24]⟩,
  ⟨some 26, none, [], 0, .r .mv, [.s 25]⟩,
  ⟨some 27, (some (26, true)), [], 0, .r .mv, [.s 1]⟩,
  ⟨some 28, (some (26, true)), [], 0, .r .mv, [.s 8]⟩,
  ⟨some 29, (some (26, true)), [], 0, .r (.bin .leq), [.s 27, .s 28]⟩,
  ⟨some 30, none, [], 0, .r .pick, [.s 26, .s 29, .c (.bool false)]⟩,
  ⟨some 6, none, [], 0, .r .mv, [.s 30]⟩]
def f44pc : PCode := .seq (.region f44r0 []) (.seq (.region f44r1 []) (.seq (.seq (.region f44r2 []) (.block 0 (.seq (.region f44r3 []) (.cond (.s 10) (.region f44r4 []) (.seq (.region f44r5 []) (.cond (.s 12) (.region f44r6 []) (.seq (.region f44r7 []) (.cond (.s 14) (.region f44r8 []) (.seq (.region f44r9 []) (.cond (.s 16) (.region f44r10 []) (.seq (.region f44r11 []) (.cond (.s 18) (.region f44r12 []) (.seq (.region f44r13 []) (.cond (.s 20) (.region f44r14 []) (.skip))))))))))))))) (.seq (.region f44r15 []) (.ret))))
def f44rs : List RArg := [.s 6 [] []]
/- diorama/vm.sorts : params [] results [113] tmps 20 resvars [('cell', 0, 113)] -/
def f45r0 : List POp := [
  ⟨some 0, none, [100], 100, .a (.alloc 113 [.str [], .int .i64 0, .int .i64 0, .int .i64 0, .str [], .int .i64 0, .int .i64 0, .int .i64 0, .str [], .int .i64 0, .int .i64 0, .int .i64 0, .str [], .int .i64 0, .int .i64 0, .int .i64 0, .str [], .int .i64 0, .int .i64 0, .int .i64 0, .str [], .int .i64 0, .int .i64 0, .int .i64 0, .str [], .int .i64 0, .int .i64 0, .int .i64 0, .str [], .int .i64 0, .int .i64 0, .int .i64 0, .str [], .int .i64 0, .int .i64 0, .int .i64 0]), []⟩]
def f45r1 : List POp := [
  ⟨some 1, none, [], 0, .r (.build [.int .i64 0, .int .i64 0, .int .i64 0] [(0, 1)]), [.c (.int .i64 1)]⟩,
  ⟨some 2, none, [], 0, .r (.build [.str [], .int .i64 0, .int .i64 0, .int .i64 0] [(0, 1), (1, 3)]), [.c (.str [115, 116, 111, 112]), .s 1]⟩,
  ⟨some 3, none, [], 0, .r (.build [.int .i64 0, .int .i64 0, .int .i64 0] [(0, 1), (1, 1)]), [.c (.int .i64 2), .c (.int .i64 3)]⟩,
  ⟨some 4, none, [], 0, .r (.build [.str [], .int .i64 0, .int .i64 0, .int .i64 0] [(0, 1), (1, 3)]), [.c (.str [108, 111, 97, 100]), .s 3]⟩,
  ⟨some 5, none, [], 0, .r (.build [.int .i64 0, .int .i64 0, .int .i64 0] [(0, 1), (1, 1), (2, 1)]), [.c (.int .i64 2), .c (.int .i64 2), .c (.int .i64 2)]⟩,
  ⟨some 6, none, [], 0, .r (.build [.str [], .int .i64 0, .int .i64 0, .int .i64 0] [(0, 1), (1, 3)]), [.c (.str [97, 100, 100]), .s 5]⟩,
  ⟨some 7, none, [], 0, .r (.build [.int .i64 0, .int .i64 0, .int .i64 0] [(0, 1), (1, 1), (2, 1)]), [.c (.int .i64 2), .c (.int .i64 2), .c (.int .i64 2)]⟩,
  ⟨some 8, none, [], 0, .r (.build [.str [], .int .i64 0, .int .i64 0, .int .i64 0] [(0, 1), (1, 3)]), [.c (.str [115, 117, 98]), .s 7]⟩,
  ⟨some 9, none, [], 0, .r (.build [.int .i64 0, .int .i64 0, .int .i64 0] [(0, 1), (1, 1)]), [.c (.int .i64 2), .c (.int .i64 4)]⟩,
  ⟨some 10, none, [], 0, .r (.build [.str [], .int .i64 0, .int .i64 0, .int .i64 0] [(0, 1), (1, 3)]), [.c (.str [115, 105, 122, 101]), .s 9]⟩,
  ⟨some 11, none, [], 0, .r (.build [.int .i64 0, .int .i64 0, .int .i64 0] [(0, 1), (1, 1), (2, 1)]), [.c (.int .i64 2), .c (.int .i64 4), .c (.int .i64 5)]⟩,
  ⟨some 12, none, [], 0, .r (.build [.str [], .int .i64 0, .int .i64 0, .int .i64 0] [(0, 1), (1, 3)]), [.c (.str [103, 101, 116]), .s 11]⟩,
  ⟨some 13, none, [], 0, .r (.build [.int .i64 0, .int .i64 0, .int .i64 0] [(0, 1)]), [.c (.int .i64 6)]⟩,
  ⟨some 14, none, [], 0, .r (.build [.str [], .int .i64 0, .int .i64 0, .int .i64 0] [(0, 1), (1, 3)]), [.c (.str [106, 117, 109, 112]), .s 13]⟩,
  ⟨some 15, none, [], 0, .r (.build [.int .i64 0, .int .i64 0, .int .i64 0] [(0, 1), (1, 1), (2, 1)]), [.c (.int .i64 2), .c (.int .i64 2), .c (.int .i64 6)]⟩,
  ⟨some 16, none, [], 0, .r (.build [.str [], .int .i64 0, .int .i64 0, .int .i64 0] [(0, 1), (1, 3)]), [.c (.str [108, 101, 115, 115]), .s 15]⟩,
  ⟨some 17, none, [], 0, .r (.build [.int .i64 0, .int .i64 0, .int .i64 0] [(0, 1), (1, 1), (2, 1)]), [.c (.int .i64 2), .c (.int .i64 2), .c (.int .i64 6)]⟩,
  ⟨some 18, none, [], 0, .r (.build [.str [], .int .i64 0, .int .i64 0, .int .i64 0] [(0, 1), (1, 3)]), [.c (.str [115, 97, 109, 101]), .s 17]⟩,
  ⟨some 19, none, [], 0, .r (.build [.str [], .int .i64 0, .int .i64 0, .int .i64 0, .str [], .int .i64 0, .int .i64 0, .int .i64 0, .str [], .int .i64 0, .int .i64 0, .int .i64 0, .str [], .int .i64 0, .int .i64 0, .int .i64 0, .str [], .int .i64 0, .int .i64 0, .int .i64 0, .str [], .int .i64 0, .int .i64 0, .int .i64 0, .str [], .int .i64 0, .int .i64 0, .int .i64 0, .str [], .int .i64 0, .int .i64 0, .int .i64 0, .str [], .int .i64 0, .int .i64 0, .int .i64 0] [(0, 4), (4, 4), (8, 4), (12, 4), (16, 4), (20, 4), (24, 4), (28, 4), (32, 4)]), [.s 2, .s 4, .s 6, .s 8, .s 10, .s 12, .s 14, .s 16, .s 18]⟩,
  ⟨none, none, [100], 0, .st 36, [.s 0, .s 19]⟩]
def f45pc : PCode := .seq (.region f45r0 []) (.seq (.region f45r1 []) (.ret))
def f45rs : List RArg := [.cn 0 36 [] [100]]
/- diorama/vm.Valid : params [43] results [39] tmps 44 resvars [('tmp', 2)] -/
def f18r0 : List POp := [
  ⟨some 2, none, [], 0, .r .mv, [.c (.int .i64 0)]⟩]
def f18r1 : List POp := [
  ⟨some 7, none, [], 0, .r .mv, [.s 0]⟩,
  ⟨some 8, none, [], 0, .r .len, [.s 7]⟩,
  ⟨some 9, none, [], 0, .r (.bin .gtr), [.s 8, .c (.int .i64 128)]⟩]
def f18r2 : List POp := [
  ⟨some 2, none, [], 0, .r .mv, [.c (.int .i64 4)]⟩]
def f18r3 : List POp := [
  ⟨some 10, none, [], 0, .r .mv, [.s 0]⟩,
  ⟨some 11, none, [], 0, .r .len, [.s 10]⟩,
  ⟨some 12, none, [], 0, .r .mv, [.c (.int .i64 0)]⟩]
def f18r4 : List POp := [
  ⟨some 13, none, [], 0, .r (.bin .lss), [.s 12, .s 11]⟩]
def f18r5 : List POp := [
  ⟨some 14, none, [], 0, .r (.ixs 4), [.s 10, .s 12]⟩,
  ⟨some 15, none, [], 0, .r (.ldn 4), [.s 14]⟩,
  ⟨some 4, none, [104], 104, .a (.alloc 104 [.int .i64 0, .int .i64 0, .int .i64 0, .int .i64 0]), []⟩,
  ⟨none, none, [104], 0, .st 4, [.s 4, .s 15]⟩]
def f18r6 : List POp := [
  ⟨some 16, none, [104], 0, .r (.fad 0), [.s 4]⟩,
  ⟨some 17, none, [104], 0, .r .ld1, [.s 16]⟩,
  ⟨some 18, none, [], 0, .r (.bin .lss), [.s 17, .c (.int .i64 0)]⟩,
  ⟨some 19, none, [], 0, .r .mv, [.s 18]⟩,
  ⟨some 20, (some (19, false)), [104], 0, .r (.fad 0), [.s 4]⟩,
  ⟨some 21, (some (19, false)), [104], 0, .r .ld1, [.s 20]⟩,
  ⟨some 22, (some (19, false)), [], 0, .r (.bin .geq), [.s 21, .c (.int .i64 9)]⟩,
  ⟨some 23, none, [], 0, .r .pick, [.s 19, .c (.bool true), .s 22]⟩]
def f18r7 : List POp := [
  ⟨some 2, none, [], 0, .r .mv, [.c (.int .i64 1)]⟩]
def f18r8 : List POp := [
  ⟨some 24, none, [104], 0, .r (.ldn 4), [.s 4]⟩,
  ⟨some 25, none, [], 0, .call .f [] [], [.fn 43, .s 24]⟩,
  ⟨some 26, none, [], 0, .r .mv, [.c (.int .i64 0)]⟩]
def f18r9 : List POp := [
  ⟨some 27, none, [], 0, .r (.bin .lss), [.s 26, .c (.int .i64 3)]⟩]
def f18r10 : List POp := [
  ⟨some 28, none, [], 0, .r .mv, [.s 26]⟩,
  ⟨some 29, none, [], 0, .r (.ixv1 3), [.s 25, .s 26]⟩,
  ⟨some 5, none, [], 0, .r .mv, [.s 28]⟩,
  ⟨some 6, none, [], 0, .r .mv, [.s 29]⟩]
def f18r11 : List POp := [
  ⟨some 30, none, [], 0, .call .f [] [], [.fn 45]⟩,
  ⟨some 31, none, [104], 0, .r (.fad 0), [.s 4]⟩,
  ⟨some 32, none, [104], 0, .r .ld1, [.s 31]⟩,
  ⟨some 33, none, [], 0, .r (.ixvn 9 4), [.s 30, .s 32]⟩,
  ⟨some 34, none, [], 0, .r (.fldn 1 3), [.s 33]⟩,
  ⟨some 35, none, [], 0, .r .mv, [.s 5]⟩,
  ⟨some 36, none, [], 0, .r (.ixv1 3), [.s 34, .s 35]⟩,
  ⟨some 37, none, [], 0, .r .mv, [.s 6]⟩,
  ⟨some 38, none, [], 0, .r .mv, [.s 0]⟩,
  ⟨some 39, none, [], 0, .r .len, [.s 38]⟩,
  ⟨some 40, none, [], 0, .call .f [] [], [.fn 44, .s 36, .s 37, .s 39]⟩,
  ⟨some 41, none, [], 0, .r (.un .not), [.s 40]⟩]
def f18r12 : List POp := [
  ⟨some 2, none, [], 0, .r .mv, [.c (.int .i64 1)]⟩]
def f18r13 : List POp := [
  ⟨some 42, none, [], 0, .r (.bin .add), [.s 26, .c (.int .i64 1)]⟩,
  ⟨some 26, none, [], 0, .r .mv, [.s 42]⟩]
def f18l1 : PCode := .gh (.keep [0, 4, 10, 11, 12, 25, 26] [104]) (.seq (.region f18r9 []) (.seq (.cond (.s 27) (.skip) (.exit 2)) (.seq (.block 3 (.seq (.region f18r10 []) (.seq (.region f18r11 [[], [], [1], [0, 1, 2], [0, 1, 2, 3], [], [0, 1, 2, 3, 4, 5], [], [], [8], [0, 1, 2, 3, 4, 5, 6, 7, 8, 9], [0, 1, 2, 3, 4, 5, 6, 7, 8, 9, 10]]) (.cond (.s 41) (.seq (.region f18r12 []) (.ret)) (.skip))))) (.region f18r13 []))))
/- f18l1: slots [0, 4, 10, 11, 12, 25, 26], tokens [104] -/
def f18r14 : List POp := [
  ⟨some 43, none, [], 0, .r (.bin .add), [.s 12, .c (.int .i64 1)]⟩,
  ⟨some 12, none, [], 0, .r .mv, [.s 43]⟩]
def f18l0 : PCode := .gh (.keep [0, 10, 11, 12] []) (.seq (.region f18r4 []) (.seq (.cond (.s 13) (.skip) (.exit 0)) (.seq (.block 1 (.seq (.region f18r5 []) (.seq (.seq (.region f18r6 []) (.cond (.s 23) (.seq (.region f18r7 []) (.ret)) (.skip))) (.seq (.region f18r8 []) (.block 2 (.loop f18l1)))))) (.region f18r14 []))))
/- f18l0: slots [0, 10, 11, 12], tokens [] -/
def f18r15 : List POp := [
  ⟨some 2, none, [], 0, .r .mv, [.c (.int .i64 0)]⟩]
def f18pc : PCode := .seq (.region f18r0 []) (.seq (.seq (.region f18r1 []) (.cond (.s 9) (.seq (.region f18r2 []) (.ret)) (.skip))) (.seq (.seq (.region f18r3 []) (.block 0 (.loop f18l0))) (.seq (.region f18r15 []) (.ret))))
def f18rs : List RArg := [.s 2 [] []]
/- diorama/dioramaref29.Valid : params [32] results [39] tmps 73 resvars [('tmp', 2)] -/
def f19r0 : List POp := [
  ⟨some 2, none, [], 0, .r .mv, [.c (.int .i64 0)]⟩]
def f19r1 : List POp := [
  ⟨some 5, none, [], 0, .r .mv, [.s 0]⟩,
  ⟨some 6, none, [], 0, .r .len, [.s 5]⟩,
  ⟨some 7, none, [], 0, .r (.bin .gtr), [.s 6, .c (.int .i64 128)]⟩]
def f19r2 : List POp := [
  ⟨some 2, none, [], 0, .r .mv, [.c (.int .i64 4)]⟩]
def f19r3 : List POp := [
  ⟨some 3, none, [], 0, .r .mv, [.c (.int .i64 0)]⟩]
def f19r4 : List POp := [
  ⟨some 8, none, [], 0, .r .mv, [.s 3]⟩,
  ⟨some 9, none, [], 0, .r .mv, [.s 0]⟩,
  ⟨some 10, none, [], 0, .r .len, [.s 9]⟩,
  ⟨some 11, none, [], 0, .r (.bin .lss), [.s 8, .s 10]⟩]
def f19r6 : List POp := [
  ⟨some 14, none, [], 0, .r .mv, [.s 0]⟩,
  ⟨some 15, none, [], 0, .r .mv, [.s 3]⟩,
  ⟨some 16, none, [], 0, .r (.ixs 4), [.s 14, .s 15]⟩,
  ⟨some 17, none, [], 0, .r (.fad 0), [.s 16]⟩,
  ⟨some 18, none, [], 0, .r .ld1, [.s 17]⟩,
  ⟨some 19, none, [], 0, .r (.bin .lss), [.s 18, .c (.int .i64 0)]⟩,
  ⟨some 20, none, [], 0, .r .mv, [.s 19]⟩,
  ⟨some 21, (some (20, false)), [], 0, .r .mv, [.s 0]⟩,
  ⟨some 22, (some (20, false)), [], 0, .r .mv, [.s 3]⟩,
  ⟨some 23, (some (20, false)), [], 0, .r (.ixs 4), [.s 21, .s 22]⟩,
  ⟨some 24, (some (20, false)), [], 0, .r (.fad 0), [.s 23]⟩,
  ⟨some 25, (some (20, false)), [], 0, .r .ld1, [.s 24]⟩,
  ⟨some 26, (some (20, false)), [], 0, .r (.bin .gtr), [.s 25, .c (.int .i64 8)]⟩,
  ⟨some 27, none, [], 0, .r .pick, [.s 20, .c (.bool true), .s 26]⟩]
def f19r7 : List POp := [
  ⟨some 2, none, [], 0, .r .mv, [.c (.int .i64 1)]⟩]
def f19r8 : List POp := [
  ⟨some 28, none, [], 0, .call .f [] [], [.fn 38]⟩,
  ⟨some 29, none, [], 0, .r .mv, [.s 0]⟩,
  ⟨some 30, none, [], 0, .r .mv, [.s 3]⟩,
  ⟨some 31, none, [], 0, .r (.ixs 4), [.s 29, .s 30]⟩,
  ⟨some 32, none, [], 0, .r (.fad 0), [.s 31]⟩,
  ⟨some 33, none, [], 0, .r .ld1, [.s 32]⟩,
  ⟨some 34, none, [], 0, .r (.ixs 1), [.s 28, .s 33]⟩,
  ⟨some 35, none, [], 0, .r .ld1, [.s 34]⟩,
  ⟨some 4, none, [], 0, .r .mv, [.s 35]⟩]
def f19r9 : List POp := [
  ⟨some 36, none, [], 0, .r .mv, [.s 4]⟩,
  ⟨some 37, none, [], 0, .r .ixc, [.s 36, .c (.int .i64 0)]⟩,
  ⟨some 38, none, [], 0, .r .mv, [.s 0]⟩,
  ⟨some 39, none, [], 0, .r .mv, [.s 3]⟩,
  ⟨some 40, none, [], 0, .r (.ixs 4), [.s 38, .s 39]⟩,
  ⟨some 41, none, [], 0, .r (.fad 1), [.s 40]⟩,
  ⟨some 42, none, [], 0, .r .ld1, [.s 41]⟩,
  ⟨some 43, none, [], 0, .r .mv, [.s 0]⟩,
  ⟨some 44, none, [], 0, .r .len, [.s 43]⟩,
  ⟨some 45, none, [], 0, .call .f [] [], [.fn 46, .s 37, .s 42, .s 44]⟩,
  ⟨some 46, none, [], 0, .r (.un .not), [.s 45]⟩,
  ⟨some 47, none, [], 0, .r .mv, [.s 46]⟩,
  ⟨some 48, (some (47, false)), [], 0, .r .mv, [.s 4]⟩,
  ⟨some 49, (some (47, false)), [], 0, .r .ixc, [.s 48, .c (.int .i64 1)]⟩,
  ⟨some 50, (some (47, false)), [], 0, .r .mv, [.s 0]⟩,
  ⟨some 51, (some (47, false)), [], 0, .r .mv, [.s 3]⟩,
  ⟨some 52, (some (47, false)), [], 0, .r (.ixs 4), [.s 50, .s 51]⟩,
  ⟨some 53, (some (47, false)), [], 0, .r (.fad 2), [.s 52]⟩,
  ⟨some 54, (some (47, false)), [], 0, .r .ld1, [.s 53]⟩,
  ⟨some 55, (some (47, false)), [], 0, .r .mv, [.s 0]⟩,
  ⟨some 56, (some (47, false)), [], 0, .r .len, [.s 55]⟩,
  ⟨some 57, (some (47, false)), [], 0, .call .f [] [], [.fn 46, .s 49, .s 54, .s 56]⟩,
  ⟨some 58, (some (47, false)), [], 0, .r (.un .not), [.s 57]⟩,
  ⟨some 59, none, [], 0, .r .pick, [.s 47, .c (.bool true), .s 58]⟩,
  ⟨some 60, none, [], 0, .r .mv, [.s 59]⟩,
  ⟨some 61, (some (60, false)), [], 0, .r .mv, [.s 4]⟩,
  ⟨some 62, (some (60, false)), [], 0, .r .ixc, [.s 61, .c (.int .i64 2)]⟩,
  ⟨some 63, (some (60, false)), [], 0, .r .mv, [.s 0]⟩,
  ⟨some 64, (some (60, false)), [], 0, .r .mv, [.s 3]⟩,
  ⟨some 65, (some (60, false)), [], 0, .r (.ixs 4), [.s 63, .s 64]⟩,
  ⟨some 66, (some (60, false)), [], 0, .r (.fad 3), [.s 65]⟩,
  ⟨some 67, (some (60, false)), [], 0, .r .ld1, [.s 66]⟩,
  ⟨some 68, (some (60, false)), [], 0, .r .mv, [.s 0]⟩,
  ⟨some 69, (some (60, false)), [], 0, .r .len, [.s 68]⟩,
  ⟨some 70, (some (60, false)), [], 0, .call .f [] [], [.fn 46, .s 62, .s 67, .s 69]⟩,
  ⟨some 71, (some (60, false)), [], 0, .r (.un .not), [.s 70]⟩,
  ⟨some 72, none, [], 0, .r .pick, [.s 60, .c (.bool true), .s 71]⟩]
def f19r10 : List POp := [
  ⟨some 2, none, [], 0, .r .mv, [.c (.int .i64 1)]⟩]
def f19r5 : List POp := [
  ⟨some 12, none, [], 0, .r .mv, [.s 3]⟩,
  ⟨some 13, none, [], 0, .r (.bin .add), [.s 12, .c (.int .i64 1)]⟩,
  ⟨some 3, none, [], 0, .r .mv, [.s 13]⟩]
def f19l0 : PCode := .gh (.keep [0, 3] []) (.seq (.seq (.region f19r4 []) (.cond (.s 11) (.skip) (.exit 0))) (.seq (.block 1 (.seq (.seq (.region f19r6 []) (.cond (.s 27) (.seq (.region f19r7 []) (.ret)) (.skip))) (.seq (.region f19r8 [[], [], [], [1, 2], [1, 2, 3], [1, 2, 3, 4], [0, 1, 2, 3, 4, 5], [0, 1, 2, 3, 4, 5, 6], [0, 1, 2, 3, 4, 5, 6, 7]]) (.seq (.region f19r9 [[], [0], [], [], [2, 3], [2, 3, 4], [2, 3, 4, 5], [], [7], [0, 1, 2, 3, 4, 5, 6, 7, 8], [0, 1, 2, 3, 4, 5, 6, 7, 8, 9], [0, 1, 2, 3, 4, 5, 6, 7, 8, 9, 10], [0, 1, 2, 3, 4, 5, 6, 7, 8, 9, 10, 11], [0, 1, 2, 3, 4, 5, 6, 7, 8, 9, 10, 11, 12], [0, 1, 2, 3, 4, 5, 6, 7, 8, 9, 10, 11], [0, 1, 2, 3, 4, 5, 6, 7, 8, 9, 10, 11], [0, 1, 2, 3, 4, 5, 6, 7, 8, 9, 10, 11, 14, 15], [0, 1, 2, 3, 4, 5, 6, 7, 8, 9, 10, 11, 14, 15, 16], [0, 1, 2, 3, 4, 5, 6, 7, 8, 9, 10, 11, 14, 15, 16, 17], [0, 1, 2, 3, 4, 5, 6, 7, 8, 9, 10, 11], [0, 1, 2, 3, 4, 5, 6, 7, 8, 9, 10, 11, 19], [0, 1, 2, 3, 4, 5, 6, 7, 8, 9, 10, 11, 12, 13, 14, 15, 16, 17, 18, 19, 20], [0, 1, 2, 3, 4, 5, 6, 7, 8, 9, 10, 11, 12, 13, 14, 15, 16, 17, 18, 19, 20, 21], [0, 1, 2, 3, 4, 5, 6, 7, 8, 9, 10, 11, 12, 13, 14, 15, 16, 17, 18, 19, 20, 21, 22], [0, 1, 2, 3, 4, 5, 6, 7, 8, 9, 10, 11, 12, 13, 14, 15, 16, 17, 18, 19, 20, 21, 22, 23], [0, 1, 2, 3, 4, 5, 6, 7, 8, 9, 10, 11, 12, 13, 14, 15, 16, 17, 18, 19, 20, 21, 22, 23, 24], [0, 1, 2, 3, 4, 5, 6, 7, 8, 9, 10, 11, 12, 13, 14, 15, 16, 17, 18, 19, 20, 21, 22, 23, 24, 25], [0, 1, 2, 3, 4, 5, 6, 7, 8, 9, 10, 11, 12, 13, 14, 15, 16, 17, 18, 19, 20, 21, 22, 23, 24], [0, 1, 2, 3, 4, 5, 6, 7, 8, 9, 10, 11, 12, 13, 14, 15, 16, 17, 18, 19, 20, 21, 22, 23, 24], [0, 1, 2, 3, 4, 5, 6, 7, 8, 9, 10, 11, 12, 13, 14, 15, 16, 17, 18, 19, 20, 21, 22, 23, 24, 27, 28], [0, 1, 2, 3, 4, 5, 6, 7, 8, 9, 10, 11, 12, 13, 14, 15, 16, 17, 18, 19, 20, 21, 22, 23, 24, 27, 28, 29], [0, 1, 2, 3, 4, 5, 6, 7, 8, 9, 10, 11, 12, 13, 14, 15, 16, 17, 18, 19, 20, 21, 22, 23, 24, 27, 28, 29, 30], [0, 1, 2, 3, 4, 5, 6, 7, 8, 9, 10, 11, 12, 13, 14, 15, 16, 17, 18, 19, 20, 21, 22, 23, 24], [0, 1, 2, 3, 4, 5, 6, 7, 8, 9, 10, 11, 12, 13, 14, 15, 16, 17, 18, 19, 20, 21, 22, 23, 24, 32], [0, 1, 2, 3, 4, 5, 6, 7, 8, 9, 10, 11, 12, 13, 14, 15, 16, 17, 18, 19, 20, 21, 22, 23, 24, 25, 26, 27, 28, 29, 30, 31, 32, 33], [0, 1, 2, 3, 4, 5, 6, 7, 8, 9, 10, 11, 12, 13, 14, 15, 16, 17, 18, 19, 20, 21, 22, 23, 24, 25, 26, 27, 28, 29, 30, 31, 32, 33, 34], [0, 1, 2, 3, 4, 5, 6, 7, 8, 9, 10, 11, 12, 13, 14, 15, 16, 17, 18, 19, 20, 21, 22, 23, 24, 25, 26, 27, 28, 29, 30, 31, 32, 33, 34, 35]]) (.cond (.s 72) (.seq (.region f19r10 []) (.ret)) (.skip)))))) (.region f19r5 [])))
/- f19l0: slots [0, 3], tokens [] -/
def f19r11 : List POp := [
  ⟨some 2, none, [], 0, .r .mv, [.c (.int .i64 0)]⟩]
def f19pc : PCode := .seq (.region f19r0 []) (.seq (.seq (.region f19r1 []) (.cond (.s 7) (.seq (.region f19r2 []) (.ret)) (.skip))) (.seq (.seq (.region f19r3 []) (.block 0 (.loop f19l0))) (.seq (.region f19r11 []) (.ret))))
def f19rs : List RArg := [.s 2 [] []]
/- diorama/dioramaref29.Fits : params [5, 3, 3] results [4] tmps 59 resvars [('tmp', 6)] -/
def f46r0 : List POp := [
  ⟨some 6, none, [], 0, .r .mv, [.c (.bool false)]⟩]
def f46r1 : List POp := [
  ⟨some 7, none, [], 0, .r .mv, [.s 0]⟩]
def f46r2 : List POp := [
  ⟨some 9, none, [], 0, .r (.bin .eql), [.s 7, .c (.int .u8 99)]⟩,
  ⟨some 8, none, [], 0, .r .mv, [.s 9]⟩]
def f46r3 : List POp := [
  ⟨some 10, none, [], 0, .r .mv, [.s 1]⟩,
  ⟨some 11, none, [], 0, .r (.bin .geq), [.s 10, .c (.int .i64 0)]⟩,
  ⟨some 12, none, [], 0, .r .mv, [.s 11]⟩,
  ⟨some 13, (some (12, true)), [], 0, .r .mv, [.s 1]⟩,
  ⟨some 14, (some (12, true)), [], 0, .r (.bin .leq), [.s 13, .c (.int .i64 250)]⟩,
  ⟨some 15, none, [], 0, .r .pick, [.s 12, .s 14, .c (.bool false)]⟩,
  ⟨some 6, none, [], 0, .r .mv, [.s 15]⟩]
def f46r4 : List POp := [
  ⟨some 17, none, [], 0, .r (.bin .eql), [.s 7, .c (.int .u8 114)]⟩,
  ⟨some 16, none, [], 0, .r .mv, [.s 17]⟩]
def f46r5 : List POp := [
  ⟨some 18, none, [], 0, .r .mv, [.s 1]⟩,
  ⟨some 19, none, [], 0, .r (.bin .geq), [.s 18, .c (.int .i64 0)]⟩,
  ⟨some 20, none, [], 0, .r .mv, [.s 19]⟩,
  ⟨some 21, (some (20, true)), [], 0, .r .mv, [.s 1]⟩,
  ⟨some 22, (some (20, true)), [], 0, .r (.bin .leq), [.s 21, .c (.int .i64 7)]⟩,
  ⟨some 23, none, [], 0, .r .pick, [.s 20, .s 22, .c (.bool false)]⟩,
  ⟨some 6, none, [], 0, .r .mv, [.s 23]⟩]
def f46r6 : List POp := [
  ⟨some 25, none, [], 0, .r (.bin .eql), [.s 7, .c (.int .u8 110)]⟩,
  ⟨some 24, none, [], 0, .r .mv, [.s 25]⟩]
def f46r7 : List POp := [
  ⟨some 26, none, [], 0, .r .mv, [.s 1]⟩,
  ⟨some 27, none, [], 0, .r (.bin .geq), [.s 26, .c (.int .i64 (-1048576))]⟩,
  ⟨some 28, none, [], 0, .r .mv, [.s 27]⟩,
  ⟨some 29, (some (28, true)), [], 0, .r .mv, [.s 1]⟩,
  ⟨some 30, (some (28, true)), [], 0, .r (.bin .leq), [.s 29, .c (.int .i64 1048576)]⟩,
  ⟨some 31, none, [], 0, .r .pick, [.s 28, .s 30, .c (.bool false)]⟩,
  ⟨some 6, none, [], 0, .r .mv, [.s 31]⟩]
def f46r8 : List POp := [
  ⟨some 33, none, [], 0, .r (.bin .eql), [.s 7, .c (.int .u8 107)]⟩,
  ⟨some 32, none, [], 0, .r .mv, [.s 33]⟩]
def f46r9 : List POp := [
  ⟨some 34, none, [], 0, .r .mv, [.s 1]⟩,
  ⟨some 35, none, [], 0, .r (.bin .geq), [.s 34, .c (.int .i64 0)]⟩,
  ⟨some 36, none, [], 0, .r .mv, [.s 35]⟩,
  ⟨some 37, (some (36, true)), [], 0, .r .mv, [.s 1]⟩,
  ⟨some 38, (some (36, true)), [], 0, .r (.bin .leq), [.s 37, .c (.int .i64 5)]⟩,
  ⟨some 39, none, [], 0, .r .pick, [.s 36, .s 38, .c (.bool false)]⟩,
  ⟨some 6, none, [], 0, .r .mv, [.s 39]⟩]
def f46r10 : List POp := [
  ⟨some 41, none, [], 0, .r (.bin .eql), [.s 7, .c (.int .u8 102)]⟩,
  ⟨some 40, none, [], 0, .r .mv, [.s 41]⟩]
def f46r11 : List POp := [
  ⟨some 42, none, [], 0, .r .mv, [.s 1]⟩,
  ⟨some 43, none, [], 0, .r (.bin .geq), [.s 42, .c (.int .i64 0)]⟩,
  ⟨some 44, none, [], 0, .r .mv, [.s 43]⟩,
  ⟨some 45, (some (44, true)), [], 0, .r .mv, [.s 1]⟩,
  ⟨some 46, (some (44, true)), [], 0, .r (.bin .leq), [.s 45, .c (.int .i64 9)]⟩,
  ⟨some 47, none, [], 0, .r .pick, [.s 44, .s 46, .c (.bool false)]⟩,
  ⟨some 6, none, [], 0, .r .mv, [.s 47]⟩]
def f46r12 : List POp := [
  ⟨some 49, none, [], 0, .r (.bin .eql), [.s 7, .c (.int .u8 105)]⟩,
  ⟨some 48, none, [], 0, .r .mv, [.s 49]⟩]
def f46r13 : List POp := [
  ⟨some 50, none, [], 0, .r .mv, [.s 1]⟩,
  ⟨some 51, none, [], 0, .r (.bin .geq), [.s 50, .c (.int .i64 0)]⟩,
  ⟨some 52, none, [], 0, .r .mv, [.s 51]⟩,
  ⟨some 53, (some (52, true)), [], 0, .r .mv, [.s 1]⟩,
  ⟨some 54, (some (52, true)), [], 0, .r .mv, [.s 2]⟩,
  ⟨some 55, (some (52, true)), [], 0, .r (.bin .leq), [.s 53, .s 54]⟩,
  ⟨some 56, none, [], 0, .r .pick, [.s 52, .s 55, .c (.bool false)]⟩,
  ⟨some 6, none, [], 0, .r .mv, [.s 56]⟩]
def f46r14 : List POp := [
  ⟨some 57, none, [], 0, .r .mv, [.s 1]⟩,
  ⟨some 58, none, [], 0, .r (.bin .eql), [.s 57, .c (.int .i64 0)]⟩,
  ⟨some 6, none, [], 0, .r .mv, [.s 58]⟩]
def f46pc : PCode := .seq (.region f46r0 []) (.seq (.seq (.region f46r1 []) (.block 0 (.seq (.region f46r2 []) (.cond (.s 8) (.seq (.region f46r3 []) (.ret)) (.seq (.region f46r4 []) (.cond (.s 16) (.seq (.region f46r5 []) (.ret)) (.seq (.region f46r6 []) (.cond (.s 24) (.seq (.region f46r7 []) (.ret)) (.seq (.region f46r8 []) (.cond (.s 32) (.seq (.region f46r9 []) (.ret)) (.seq (.region f46r10 []) (.cond (.s 40) (.seq (.region f46r11 []) (.ret)) (.seq (.region f46r12 []) (.cond (.s 48) (.seq (.region f46r13 []) (.ret)) (.skip))))))))))))))) (.seq (.region f46r14 []) (.ret)))
def f46rs : List RArg := [.s 6 [] []]
/- diorama/dioramaref29.Sorts : params [] results [71] tmps 2 resvars [('tmp', 0)] -/
def f38r0 : List POp := [
  ⟨some 0, none, [], 0, .r .mv, [.c (.nils)]⟩]
def f38r1 : List POp := [
  ⟨some 1, none, [101], 101, .a (.bsl 9 1 9 [.str []] [(0, 1), (1, 1), (2, 1), (3, 1), (4, 1), (5, 1), (6, 1), (7, 1), (8, 1)]), [.c (.str [99, 45, 45]), .c (.str [114, 110, 45]), .c (.str [114, 114, 114]), .c (.str [114, 114, 114]), .c (.str [114, 107, 45]), .c (.str [114, 107, 102]), .c (.str [105, 45, 45]), .c (.str [114, 114, 105]), .c (.str [114, 114, 105])]⟩,
  ⟨some 0, none, [], 0, .r .mv, [.s 1]⟩]
def f38pc : PCode := .seq (.region f38r0 []) (.seq (.region f38r1 []) (.gh (.fz 101) (.ret)))
def f38rs : List RArg := [.s 0 [some 1] [101]]
/- diorama/dioramaref29.Named : params [27, 32] results [4] tmps 60 resvars [('tmp', 4)] -/
def f41r0 : List POp := [
  ⟨some 2, none, [102], 102, .a (.box 27 4), [.s 0]⟩,
  ⟨some 4, none, [], 0, .r .mv, [.c (.bool false)]⟩]
def f41r1 : List POp := [
  ⟨some 5, none, [], 0, .r .mv, [.c (.int .i64 0)]⟩]
def f41r2 : List POp := [
  ⟨some 6, none, [], 0, .r .mv, [.s 5]⟩,
  ⟨some 7, none, [], 0, .r .mv, [.s 1]⟩,
  ⟨some 8, none, [], 0, .r .len, [.s 7]⟩,
  ⟨some 9, none, [], 0, .r (.bin .lss), [.s 6, .s 8]⟩]
def f41r4 : List POp := [
  ⟨some 12, none, [], 0, .r .mv, [.s 1]⟩,
  ⟨some 13, none, [], 0, .r .mv, [.s 5]⟩,
  ⟨some 14, none, [], 0, .r (.ixs 4), [.s 12, .s 13]⟩,
  ⟨some 15, none, [], 0, .r (.fad 0), [.s 14]⟩,
  ⟨some 16, none, [], 0, .r .ld1, [.s 15]⟩,
  ⟨some 17, none, [], 0, .r (.bin .neq), [.s 16, .c (.int .i64 4)]⟩,
  ⟨some 18, none, [], 0, .r .mv, [.s 17]⟩,
  ⟨some 19, (some (18, true)), [], 0, .r .mv, [.s 1]⟩,
  ⟨some 20, (some (18, true)), [], 0, .r .mv, [.s 5]⟩,
  ⟨some 21, (some (18, true)), [], 0, .r (.ixs 4), [.s 19, .s 20]⟩,
  ⟨some 22, (some (18, true)), [], 0, .r (.fad 0), [.s 21]⟩,
  ⟨some 23, (some (18, true)), [], 0, .r .ld1, [.s 22]⟩,
  ⟨some 24, (some (18, true)), [], 0, .r (.bin .neq), [.s 23, .c (.int .i64 5)]⟩,
  ⟨some 25, none, [], 0, .r .pick, [.s 18, .s 24, .c (.bool false)]⟩]
def f41r5 : List POp := [
  ⟨some 26, none, [], 0, .r .mv, [.s 1]⟩,
  ⟨some 27, none, [], 0, .r .mv, [.s 5]⟩,
  ⟨some 28, none, [], 0, .r (.ixs 4), [.s 26, .s 27]⟩,
  ⟨some 29, none, [], 0, .r (.fad 2), [.s 28]⟩,
  ⟨some 30, none, [], 0, .r .ld1, [.s 29]⟩,
  ⟨some 31, none, [102], 0, .r (.fad 1), [.s 2]⟩,
  ⟨some 32, none, [102], 0, .r .ld1, [.s 31]⟩,
  ⟨some 33, none, [], 0, .r .len, [.s 32]⟩,
  ⟨some 34, none, [], 0, .r (.bin .geq), [.s 30, .s 33]⟩]
def f41r6 : List POp := [
  ⟨some 4, none, [], 0, .r .mv, [.c (.bool false)]⟩]
def f41r7 : List POp := [
  ⟨some 35, none, [], 0, .r .mv, [.s 1]⟩,
  ⟨some 36, none, [], 0, .r .mv, [.s 5]⟩,
  ⟨some 37, none, [], 0, .r (.ixs 4), [.s 35, .s 36]⟩,
  ⟨some 38, none, [], 0, .r (.fad 0), [.s 37]⟩,
  ⟨some 39, none, [], 0, .r .ld1, [.s 38]⟩,
  ⟨some 40, none, [], 0, .r (.bin .eql), [.s 39, .c (.int .i64 5)]⟩,
  ⟨some 41, none, [], 0, .r .mv, [.s 40]⟩,
  ⟨some 42, (some (41, true)), [], 0, .r .mv, [.s 1]⟩,
  ⟨some 43, (some (41, true)), [], 0, .r .mv, [.s 5]⟩,
  ⟨some 44, (some (41, true)), [], 0, .r (.ixs 4), [.s 42, .s 43]⟩,
  ⟨some 45, (some (41, true)), [], 0, .r (.fad 3), [.s 44]⟩,
  ⟨some 46, (some (41, true)), [], 0, .r .ld1, [.s 45]⟩,
  ⟨some 47, (some (41, true)), [102], 0, .r (.fad 1), [.s 2]⟩,
  ⟨some 48, (some (41, true)), [102], 0, .r .ld1, [.s 47]⟩,
  ⟨some 49, (some (41, true)), [], 0, .r .mv, [.s 1]⟩,
  ⟨some 50, (some (41, true)), [], 0, .r .mv, [.s 5]⟩,
  ⟨some 51, (some (41, true)), [], 0, .r (.ixs 4), [.s 49, .s 50]⟩,
  ⟨some 52, (some (41, true)), [], 0, .r (.fad 2), [.s 51]⟩,
  ⟨some 53, (some (41, true)), [], 0, .r .ld1, [.s 52]⟩,
  ⟨some 54, (some (41, true)), [], 0, .r (.ixs 4), [.s 48, .s 53]⟩,
  ⟨some 55, (some (41, true)), [], 0, .r (.fad 3), [.s 54]⟩,
  ⟨some 56, (some (41, true)), [], 0, .r .ld1, [.s 55]⟩,
  ⟨some 57, (some (41, true)), [], 0, .r .len, [.s 56]⟩,
  ⟨some 58, (some (41, true)), [], 0, .r (.bin .geq), [.s 46, .s 57]⟩,
  ⟨some 59, none, [], 0, .r .pick, [.s 41, .s 58, .c (.bool false)]⟩]
def f41r8 : List POp := [
  ⟨some 4, none, [], 0, .r .mv, [.c (.bool false)]⟩]
def f41r3 : List POp := [
  ⟨some 10, none, [], 0, .r .mv, [.s 5]⟩,
  ⟨some 11, none, [], 0, .r (.bin .add), [.s 10, .c (.int .i64 1)]⟩,
  ⟨some 5, none, [], 0, .r .mv, [.s 11]⟩]
def f41l0 : PCode := .gh (.keep [1, 2, 5] [102]) (.seq (.seq (.region f41r2 []) (.cond (.s 9) (.skip) (.exit 0))) (.seq (.block 1 (.seq (.seq (.region f41r4 []) (.cond (.s 25) (.exit 1) (.skip))) (.seq (.seq (.region f41r5 [[], [], [0, 1], [0, 1, 2], [0, 1, 2, 3], [], [5], [5, 6], [0, 1, 2, 3, 4, 5, 6, 7]]) (.cond (.s 34) (.seq (.region f41r6 []) (.ret)) (.skip))) (.seq (.region f41r7 [[], [], [0, 1], [0, 1, 2], [0, 1, 2, 3], [0, 1, 2, 3, 4], [0, 1, 2, 3, 4, 5], [0, 1, 2, 3, 4, 5, 6], [0, 1, 2, 3, 4, 5, 6], [0, 1, 2, 3, 4, 5, 6, 7, 8], [0, 1, 2, 3, 4, 5, 6, 7, 8, 9], [0, 1, 2, 3, 4, 5, 6, 7, 8, 9, 10], [0, 1, 2, 3, 4, 5, 6], [0, 1, 2, 3, 4, 5, 6, 12], [0, 1, 2, 3, 4, 5, 6], [0, 1, 2, 3, 4, 5, 6], [0, 1, 2, 3, 4, 5, 6, 14, 15], [0, 1, 2, 3, 4, 5, 6, 14, 15, 16], [0, 1, 2, 3, 4, 5, 6, 14, 15, 16, 17], [0, 1, 2, 3, 4, 5, 6, 12, 13, 14, 15, 16, 17, 18], [0, 1, 2, 3, 4, 5, 6, 12, 13, 14, 15, 16, 17, 18, 19], [0, 1, 2, 3, 4, 5, 6, 12, 13, 14, 15, 16, 17, 18, 19, 20], [0, 1, 2, 3, 4, 5, 6, 12, 13, 14, 15, 16, 17, 18, 19, 20, 21], [0, 1, 2, 3, 4, 5, 6, 7, 8, 9, 10, 11, 12, 13, 14, 15, 16, 17, 18, 19, 20, 21, 22], [0, 1, 2, 3, 4, 5, 6, 7, 8, 9, 10, 11, 12, 13, 14, 15, 16, 17, 18, 19, 20, 21, 22, 23]]) (.cond (.s 59) (.seq (.region f41r8 []) (.ret)) (.skip)))))) (.region f41r3 [])))
/- f41l0: slots [1, 2, 5], tokens [102] -/
def f41r9 : List POp := [
  ⟨some 4, none, [], 0, .r .mv, [.c (.bool true)]⟩]
def f41pc : PCode := .seq (.region f41r0 []) (.seq (.seq (.region f41r1 []) (.block 0 (.loop f41l0))) (.seq (.region f41r9 []) (.ret)))
def f41rs : List RArg := [.s 4 [] []]
/- diorama/dioramaref29.Run : params [27, 32, 30, 3] results [47, 39] tmps 192 resvars [('cell', 8, 47), ('tmp', 9)] -/
def f16r0 : List POp := [
  ⟨some 4, none, [104], 104, .a (.box 27 4), [.s 0]⟩,
  ⟨some 8, none, [108], 108, .a (.alloc 47 [.int .i64 0, .int .i64 0]), []⟩,
  ⟨some 9, none, [], 0, .r .mv, [.c (.int .i64 0)]⟩]
def f16r1 : List POp := [
  ⟨some 16, none, [], 0, .r .mv, [.s 1]⟩,
  ⟨some 17, none, [], 0, .call .f [] [], [.fn 19, .z 16 [some 4]]⟩,
  ⟨some 10, none, [], 0, .r .mv, [.s 17]⟩]
def f16r2 : List POp := [
  ⟨some 18, none, [], 0, .r .mv, [.s 10]⟩,
  ⟨some 19, none, [], 0, .r (.bin .neq), [.s 18, .c (.int .i64 0)]⟩]
def f16r3 : List POp := [
  ⟨some 20, none, [], 0, .r (.build [.int .i64 0, .int .i64 0] []), []⟩,
  ⟨some 21, none, [], 0, .r .mv, [.s 10]⟩,
  ⟨none, none, [108], 0, .st 2, [.s 8, .s 20]⟩,
  ⟨some 9, none, [], 0, .r .mv, [.s 21]⟩]
def f16r4 : List POp := [
  ⟨some 22, none, [], 0, .r .mv, [.s 3]⟩,
  ⟨some 23, none, [], 0, .r (.bin .lss), [.s 22, .c (.int .i64 0)]⟩,
  ⟨some 24, none, [], 0, .r .mv, [.s 23]⟩,
  ⟨some 25, (some (24, false)), [], 0, .r .mv, [.s 3]⟩,
  ⟨some 26, (some (24, false)), [], 0, .r (.bin .gtr), [.s 25, .c (.int .i64 1000000)]⟩,
  ⟨some 27, none, [], 0, .r .pick, [.s 24, .c (.bool true), .s 26]⟩]
def f16r5 : List POp := [
  ⟨some 28, none, [], 0, .r (.build [.int .i64 0, .int .i64 0] []), []⟩,
  ⟨none, none, [108], 0, .st 2, [.s 8, .s 28]⟩,
  ⟨some 9, none, [], 0, .r .mv, [.c (.int .i64 4)]⟩]
def f16r6 : List POp := [
  ⟨some 29, none, [104], 0, .r (.ldn 4), [.s 4]⟩,
  ⟨some 30, none, [], 0, .r .mv, [.s 1]⟩,
  ⟨some 31, none, [], 0, .call .f [] [], [.fn 41, .z 29 [none, some 4, some 3, some 5], .z 30 [some 4]]⟩,
  ⟨some 32, none, [], 0, .r (.un .not), [.s 31]⟩]
def f16r7 : List POp := [
  ⟨some 33, none, [], 0, .r (.build [.int .i64 0, .int .i64 0] []), []⟩,
  ⟨none, none, [108], 0, .st 2, [.s 8, .s 33]⟩,
  ⟨some 9, none, [], 0, .r .mv, [.c (.int .i64 12)]⟩]
def f16r8 : List POp := [
  ⟨some 34, none, [134], 134, .a (.mks 3 1 8 [.int .i64 0]), [.c (.int .i64 8), .c (.int .i64 8)]⟩,
  ⟨some 11, none, [], 0, .r .mv, [.s 34]⟩]
def f16r9 : List POp := [
  ⟨some 12, none, [], 0, .r .mv, [.c (.int .i64 0)]⟩]
def f16r10 : List POp := [
  ⟨some 13, none, [], 0, .r .mv, [.c (.int .i64 0)]⟩]
def f16r11 : List POp := [
  ⟨some 35, none, [], 0, .r .mv, [.s 12]⟩,
  ⟨some 36, none, [], 0, .r .mv, [.s 1]⟩,
  ⟨some 37, none, [], 0, .r .len, [.s 36]⟩,
  ⟨some 38, none, [], 0, .r (.bin .lss), [.s 35, .s 37]⟩]
def f16r12 : List POp := [
  ⟨some 39, none, [], 0, .r .mv, [.s 13]⟩,
  ⟨some 40, none, [], 0, .r .mv, [.s 3]⟩,
  ⟨some 41, none, [], 0, .r (.bin .eql), [.s 39, .s 40]⟩]
def f16r13 : List POp := [
  ⟨some 42, none, [], 0, .r (.build [.int .i64 0, .int .i64 0] []), []⟩,
  ⟨none, none, [108], 0, .st 2, [.s 8, .s 42]⟩,
  ⟨some 9, none, [], 0, .r .mv, [.c (.int .i64 23)]⟩]
def f16r14 : List POp := [
  ⟨some 43, none, [], 0, .r .mv, [.s 13]⟩,
  ⟨some 44, none, [], 0, .r (.bin .add), [.s 43, .c (.int .i64 1)]⟩,
  ⟨some 13, none, [], 0, .r .mv, [.s 44]⟩]
def f16r15 : List POp := [
  ⟨some 45, none, [], 0, .r .mv, [.s 1]⟩,
  ⟨some 46, none, [], 0, .r .mv, [.s 12]⟩,
  ⟨some 47, none, [], 0, .r (.ixs 4), [.s 45, .s 46]⟩,
  ⟨some 48, none, [], 0, .r (.ldn 4), [.s 47]⟩,
  ⟨some 14, none, [114], 114, .a (.alloc 58 [.int .i64 0, .int .i64 0, .int .i64 0, .int .i64 0]), []⟩,
  ⟨none, none, [114], 0, .st 4, [.s 14, .s 48]⟩]
def f16r16 : List POp := [
  ⟨some 49, none, [], 0, .r .mv, [.s 12]⟩,
  ⟨some 50, none, [], 0, .r (.bin .add), [.s 49, .c (.int .i64 1)]⟩,
  ⟨some 15, none, [], 0, .r .mv, [.s 50]⟩]
def f16r17 : List POp := [
  ⟨some 51, none, [114], 0, .r (.fad 0), [.s 14]⟩,
  ⟨some 52, none, [114], 0, .r .ld1, [.s 51]⟩]
def f16r20 : List POp := [
  ⟨some 67, none, [], 0, .r (.bin .eql), [.s 52, .c (.int .i64 0)]⟩,
  ⟨some 66, none, [], 0, .r .mv, [.s 67]⟩]
def f16r21 : List POp := [
  ⟨some 68, none, [114], 0, .r (.fad 1), [.s 14]⟩,
  ⟨some 69, none, [114], 0, .r .ld1, [.s 68]⟩,
  ⟨some 70, none, [], 0, .r .mv, [.s 13]⟩,
  ⟨some 71, none, [], 0, .r (.build [.int .i64 0, .int .i64 0] [(0, 1), (1, 1)]), [.s 69, .s 70]⟩,
  ⟨none, none, [108], 0, .st 2, [.s 8, .s 71]⟩,
  ⟨some 9, none, [], 0, .r .mv, [.c (.int .i64 0)]⟩]
def f16r22 : List POp := [
  ⟨some 73, none, [], 0, .r (.bin .eql), [.s 52, .c (.int .i64 1)]⟩,
  ⟨some 72, none, [], 0, .r .mv, [.s 73]⟩]
def f16r23 : List POp := [
  ⟨some 74, none, [], 0, .r .mv, [.s 11]⟩,
  ⟨some 75, none, [114], 0, .r (.fad 1), [.s 14]⟩,
  ⟨some 76, none, [114], 0, .r .ld1, [.s 75]⟩,
  ⟨some 77, none, [114], 0, .r (.fad 2), [.s 14]⟩,
  ⟨some 78, none, [114], 0, .r .ld1, [.s 77]⟩,
  ⟨some 79, none, [134], 0, .r (.ixs 1), [.s 74, .s 76]⟩,
  ⟨none, none, [134], 0, .st 1, [.s 79, .s 78]⟩]
def f16r24 : List POp := [
  ⟨some 81, none, [], 0, .r (.bin .eql), [.s 52, .c (.int .i64 2)]⟩,
  ⟨some 80, none, [], 0, .r .mv, [.s 81]⟩]
def f16r25 : List POp := [
  ⟨some 82, none, [], 0, .r .mv, [.s 11]⟩,
  ⟨some 83, none, [114], 0, .r (.fad 1), [.s 14]⟩,
  ⟨some 84, none, [114], 0, .r .ld1, [.s 83]⟩,
  ⟨some 85, none, [], 0, .r .mv, [.s 11]⟩,
  ⟨some 86, none, [114], 0, .r (.fad 2), [.s 14]⟩,
  ⟨some 87, none, [114], 0, .r .ld1, [.s 86]⟩,
  ⟨some 88, none, [134], 0, .r (.ixs 1), [.s 85, .s 87]⟩,
  ⟨some 89, none, [134], 0, .r .ld1, [.s 88]⟩,
  ⟨some 90, none, [], 0, .r .mv, [.s 11]⟩,
  ⟨some 91, none, [114], 0, .r (.fad 3), [.s 14]⟩,
  ⟨some 92, none, [114], 0, .r .ld1, [.s 91]⟩,
  ⟨some 93, none, [134], 0, .r (.ixs 1), [.s 90, .s 92]⟩,
  ⟨some 94, none, [134], 0, .r .ld1, [.s 93]⟩,
  ⟨some 95, none, [], 0, .r (.bin .add), [.s 89, .s 94]⟩,
  ⟨some 96, none, [134], 0, .r (.ixs 1), [.s 82, .s 84]⟩,
  ⟨none, none, [134], 0, .st 1, [.s 96, .s 95]⟩]
def f16r26 : List POp := [
  ⟨some 98, none, [], 0, .r (.bin .eql), [.s 52, .c (.int .i64 3)]⟩,
  ⟨some 97, none, [], 0, .r .mv, [.s 98]⟩]
def f16r27 : List POp := [
  ⟨some 99, none, [], 0, .r .mv, [.s 11]⟩,
  ⟨some 100, none, [114], 0, .r (.fad 1), [.s 14]⟩,
  ⟨some 101, none, [114], 0, .r .ld1, [.s 100]⟩,
  ⟨some 102, none, [], 0, .r .mv, [.s 11]⟩,
  ⟨some 103, none, [114], 0, .r (.fad 2), [.s 14]⟩,
  ⟨some 104, none, [114], 0, .r .ld1, [.s 103]⟩,
  ⟨some 105, none, [134], 0, .r (.ixs 1), [.s 102, .s 104]⟩,
  ⟨some 106, none, [134], 0, .r .ld1, [.s 105]⟩,
  ⟨some 107, none, [], 0, .r .mv, [.s 11]⟩,
  ⟨some 108, none, [114], 0, .r (.fad 3), [.s 14]⟩,
  ⟨some 109, none, [114], 0, .r .ld1, [.s 108]⟩,
  ⟨some 110, none, [134], 0, .r (.ixs 1), [.s 107, .s 109]⟩,
  ⟨some 111, none, [134], 0, .r .ld1, [.s 110]⟩,
  ⟨some 112, none, [], 0, .r (.bin .sub), [.s 106, .s 111]⟩,
  ⟨some 113, none, [134], 0, .r (.ixs 1), [.s 99, .s 101]⟩,
  ⟨none, none, [134], 0, .st 1, [.s 113, .s 112]⟩]
def f16r28 : List POp := [
  ⟨some 115, none, [], 0, .r (.bin .eql), [.s 52, .c (.int .i64 4)]⟩,
  ⟨some 114, none, [], 0, .r .mv, [.s 115]⟩]
def f16r29 : List POp := [
  ⟨some 116, none, [], 0, .r .mv, [.s 11]⟩,
  ⟨some 117, none, [114], 0, .r (.fad 1), [.s 14]⟩,
  ⟨some 118, none, [114], 0, .r .ld1, [.s 117]⟩,
  ⟨some 119, none, [], 0, .r .mv, [.s 2]⟩,
  ⟨some 120, none, [114], 0, .r (.fad 2), [.s 14]⟩,
  ⟨some 121, none, [114], 0, .r .ld1, [.s 120]⟩,
  ⟨some 122, none, [], 0, .r (.ixs 1), [.s 119, .s 121]⟩,
  ⟨some 123, none, [], 0, .r .ld1, [.s 122]⟩,
  ⟨some 124, none, [], 0, .r .len, [.s 123]⟩,
  ⟨some 125, none, [134], 0, .r (.ixs 1), [.s 116, .s 118]⟩,
  ⟨none, none, [134], 0, .st 1, [.s 125, .s 124]⟩]
def f16r30 : List POp := [
  ⟨some 127, none, [], 0, .r (.bin .eql), [.s 52, .c (.int .i64 5)]⟩,
  ⟨some 126, none, [], 0, .r .mv, [.s 127]⟩]
def f16r31 : List POp := [
  ⟨some 128, none, [], 0, .r .mv, [.s 11]⟩,
  ⟨some 129, none, [114], 0, .r (.fad 1), [.s 14]⟩,
  ⟨some 130, none, [114], 0, .r .ld1, [.s 129]⟩,
  ⟨some 131, none, [134], 0, .r (.ixs 1), [.s 128, .s 130]⟩,
  ⟨some 132, none, [134], 0, .r .ld1, [.s 131]⟩,
  ⟨some 133, none, [], 0, .r (.bin .lss), [.s 132, .c (.int .i64 0)]⟩,
  ⟨some 134, none, [], 0, .r .mv, [.s 133]⟩,
  ⟨some 135, (some (134, false)), [], 0, .r .mv, [.s 11]⟩,
  ⟨some 136, (some (134, false)), [114], 0, .r (.fad 1), [.s 14]⟩,
  ⟨some 137, (some (134, false)), [114], 0, .r .ld1, [.s 136]⟩,
  ⟨some 138, (some (134, false)), [134], 0, .r (.ixs 1), [.s 135, .s 137]⟩,
  ⟨some 139, (some (134, false)), [134], 0, .r .ld1, [.s 138]⟩,
  ⟨some 140, (some (134, false)), [], 0, .r .mv, [.s 2]⟩,
  ⟨some 141, (some (134, false)), [114], 0, .r (.fad 2), [.s 14]⟩,
  ⟨some 142, (some (134, false)), [114], 0, .r .ld1, [.s 141]⟩,
  ⟨some 143, (some (134, false)), [], 0, .r (.ixs 1), [.s 140, .s 142]⟩,
  ⟨some 144, (some (134, false)), [], 0, .r .ld1, [.s 143]⟩,
  ⟨some 145, (some (134, false)), [], 0, .r .len, [.s 144]⟩,
  ⟨some 146, (some (134, false)), [], 0, .r (.bin .geq), [.s 139, .s 145]⟩,
  ⟨some 147, none, [], 0, .r .pick, [.s 134, .c (.bool true), .s 146]⟩]
def f16r32 : List POp := [
  ⟨some 148, none, [], 0, .r .mv, [.s 13]⟩,
  ⟨some 149, none, [], 0, .r (.build [.int .i64 0, .int .i64 0] [(0, 1), (1, 1)]), [.c (.int .i64 251), .s 148]⟩,
  ⟨none, none, [108], 0, .st 2, [.s 8, .s 149]⟩,
  ⟨some 9, none, [], 0, .r .mv, [.c (.int .i64 0)]⟩]
def f16r33 : List POp := [
  ⟨some 150, none, [], 0, .r .mv, [.s 11]⟩,
  ⟨some 151, none, [114], 0, .r (.fad 1), [.s 14]⟩,
  ⟨some 152, none, [114], 0, .r .ld1, [.s 151]⟩,
  ⟨some 153, none, [], 0, .r .mv, [.s 2]⟩,
  ⟨some 154, none, [114], 0, .r (.fad 2), [.s 14]⟩,
  ⟨some 155, none, [114], 0, .r .ld1, [.s 154]⟩,
  ⟨some 156, none, [], 0, .r (.ixs 1), [.s 153, .s 155]⟩,
  ⟨some 157, none, [], 0, .r .ld1, [.s 156]⟩,
  ⟨some 158, none, [], 0, .r .mv, [.s 11]⟩,
  ⟨some 159, none, [114], 0, .r (.fad 1), [.s 14]⟩,
  ⟨some 160, none, [114], 0, .r .ld1, [.s 159]⟩,
  ⟨some 161, none, [134], 0, .r (.ixs 1), [.s 158, .s 160]⟩,
  ⟨some 162, none, [134], 0, .r .ld1, [.s 161]⟩,
  ⟨some 163, none, [], 0, .r (.ixs 1), [.s 157, .s 162]⟩,
  ⟨some 164, none, [], 0, .r .ld1, [.s 163]⟩,
  ⟨some 165, none, [114], 0, .r (.fad 3), [.s 14]⟩,
  ⟨some 166, none, [114], 0, .r .ld1, [.s 165]⟩,
  ⟨some 167, none, [], 0, .r (.ixs 1), [.s 164, .s 166]⟩,
  ⟨some 168, none, [], 0, .r .ld1, [.s 167]⟩,
  ⟨some 169, none, [134], 0, .r (.ixs 1), [.s 150, .s 152]⟩,
  ⟨none, none, [134], 0, .st 1, [.s 169, .s 168]⟩]
def f16r34 : List POp := [
  ⟨some 171, none, [], 0, .r (.bin .eql), [.s 52, .c (.int .i64 6)]⟩,
  ⟨some 170, none, [], 0, .r .mv, [.s 171]⟩]
def f16r35 : List POp := [
  ⟨some 172, none, [114], 0, .r (.fad 1), [.s 14]⟩,
  ⟨some 173, none, [114], 0, .r .ld1, [.s 172]⟩,
  ⟨some 15, none, [], 0, .r .mv, [.s 173]⟩]
def f16r36 : List POp := [
  ⟨some 175, none, [], 0, .r (.bin .eql), [.s 52, .c (.int .i64 7)]⟩,
  ⟨some 174, none, [], 0, .r .mv, [.s 175]⟩]
def f16r37 : List POp := [
  ⟨some 176, none, [], 0, .r .mv, [.s 11]⟩,
  ⟨some 177, none, [114], 0, .r (.fad 1), [.s 14]⟩,
  ⟨some 178, none, [114], 0, .r .ld1, [.s 177]⟩,
  ⟨some 179, none, [134], 0, .r (.ixs 1), [.s 176, .s 178]⟩,
  ⟨some 180, none, [134], 0, .r .ld1, [.s 179]⟩,
  ⟨some 181, none, [], 0, .r .mv, [.s 11]⟩,
  ⟨some 182, none, [114], 0, .r (.fad 2), [.s 14]⟩,
  ⟨some 183, none, [114], 0, .r .ld1, [.s 182]⟩,
  ⟨some 184, none, [134], 0, .r (.ixs 1), [.s 181, .s 183]⟩,
  ⟨some 185, none, [134], 0, .r .ld1, [.s 184]⟩,
  ⟨some 186, none, [], 0, .r (.bin .lss), [.s 180, .s 185]⟩]
def f16r38 : List POp := [
  ⟨some 187, none, [114], 0, .r (.fad 3), [.s 14]⟩,
  ⟨some 188, none, [114], 0, .r .ld1, [.s 187]⟩,
  ⟨some 15, none, [], 0, .r .mv, [.s 188]⟩]
def f16r18 : List POp := [
  ⟨some 53, none, [], 0, .r .mv, [.s 11]⟩,
  ⟨some 54, none, [114], 0, .r (.fad 1), [.s 14]⟩,
  ⟨some 55, none, [114], 0, .r .ld1, [.s 54]⟩,
  ⟨some 56, none, [134], 0, .r (.ixs 1), [.s 53, .s 55]⟩,
  ⟨some 57, none, [134], 0, .r .ld1, [.s 56]⟩,
  ⟨some 58, none, [], 0, .r .mv, [.s 11]⟩,
  ⟨some 59, none, [114], 0, .r (.fad 2), [.s 14]⟩,
  ⟨some 60, none, [114], 0, .r .ld1, [.s 59]⟩,
  ⟨some 61, none, [134], 0, .r (.ixs 1), [.s 58, .s 60]⟩,
  ⟨some 62, none, [134], 0, .r .ld1, [.s 61]⟩,
  ⟨some 63, none, [], 0, .r (.bin .eql), [.s 57, .s 62]⟩]
def f16r19 : List POp := [
  ⟨some 64, none, [114], 0, .r (.fad 3), [.s 14]⟩,
  ⟨some 65, none, [114], 0, .r .ld1, [.s 64]⟩,
  ⟨some 15, none, [], 0, .r .mv, [.s 65]⟩]
def f16r39 : List POp := [
  ⟨some 189, none, [], 0, .r .mv, [.s 15]⟩,
  ⟨some 12, none, [], 0, .r .mv, [.s 189]⟩]
def f16l0 : PCode := .gh (.keep [1, 2, 3, 8, 11, 12, 13] [108, 134]) (.seq (.seq (.region f16r11 []) (.cond (.s 38) (.skip) (.exit 0))) (.block 1 (.seq (.seq (.region f16r12 []) (.cond (.s 41) (.seq (.region f16r13 []) (.ret)) (.skip))) (.seq (.region f16r14 []) (.seq (.region f16r15 []) (.seq (.region f16r16 []) (.seq (.seq (.region f16r17 []) (.block 2 (.seq (.region f16r20 []) (.cond (.s 66) (.seq (.region f16r21 []) (.ret)) (.seq (.region f16r22 []) (.cond (.s 72) (.region f16r23 []) (.seq (.region f16r24 []) (.cond (.s 80) (.region f16r25 [[], [], [1], [], [], [4], [3, 4, 5], [3, 4, 5, 6], [], [], [9], [8, 9, 10], [8, 9, 10, 11], [3, 4, 5, 6, 7, 8, 9, 10, 11, 12], [0, 1, 2, 3, 4, 5, 6, 7, 8, 9, 10, 11, 12, 13], [0, 1, 2, 3, 4, 5, 6, 7, 8, 9, 10, 11, 12, 13, 14]]) (.seq (.region f16r26 []) (.cond (.s 97) (.region f16r27 [[], [], [1], [], [], [4], [3, 4, 5], [3, 4, 5, 6], [], [], [9], [8, 9, 10], [8, 9, 10, 11], [3, 4, 5, 6, 7, 8, 9, 10, 11, 12], [0, 1, 2, 3, 4, 5, 6, 7, 8, 9, 10, 11, 12, 13], [0, 1, 2, 3, 4, 5, 6, 7, 8, 9, 10, 11, 12, 13, 14]]) (.seq (.region f16r28 []) (.cond (.s 114) (.region f16r29 [[], [], [1], [], [], [4], [3, 4, 5], [3, 4, 5, 6], [3, 4, 5, 6, 7], [0, 1, 2, 3, 4, 5, 6, 7, 8], [0, 1, 2, 3, 4, 5, 6, 7, 8, 9]]) (.seq (.region f16r30 []) (.cond (.s 126) (.seq (.seq (.region f16r31 [[], [], [1], [0, 1, 2], [0, 1, 2, 3], [0, 1, 2, 3, 4], [0, 1, 2, 3, 4, 5], [0, 1, 2, 3, 4, 5, 6], [0, 1, 2, 3, 4, 5, 6], [0, 1, 2, 3, 4, 5, 6, 8], [0, 1, 2, 3, 4, 5, 6, 7, 8, 9], [0, 1, 2, 3, 4, 5, 6, 7, 8, 9, 10], [0, 1, 2, 3, 4, 5, 6], [0, 1, 2, 3, 4, 5, 6], [0, 1, 2, 3, 4, 5, 6, 13], [0, 1, 2, 3, 4, 5, 6, 12, 13, 14], [0, 1, 2, 3, 4, 5, 6, 12, 13, 14, 15], [0, 1, 2, 3, 4, 5, 6, 12, 13, 14, 15, 16], [0, 1, 2, 3, 4, 5, 6, 7, 8, 9, 10, 11, 12, 13, 14, 15, 16, 17], [0, 1, 2, 3, 4, 5, 6, 7, 8, 9, 10, 11, 12, 13, 14, 15, 16, 17, 18]]) (.cond (.s 147) (.seq (.region f16r32 []) (.ret)) (.skip))) (.region f16r33 [[], [], [1], [], [], [4], [3, 4, 5], [3, 4, 5, 6], [], [], [9], [8, 9, 10], [8, 9, 10, 11], [3, 4, 5, 6, 7, 8, 9, 10, 11, 12], [3, 4, 5, 6, 7, 8, 9, 10, 11, 12, 13], [], [15], [3, 4, 5, 6, 7, 8, 9, 10, 11, 12, 13, 14, 15, 16], [3, 4, 5, 6, 7, 8, 9, 10, 11, 12, 13, 14, 15, 16, 17], [0, 1, 2, 3, 4, 5, 6, 7, 8, 9, 10, 11, 12, 13, 14, 15, 16, 17, 18], [0, 1, 2, 3, 4, 5, 6, 7, 8, 9, 10, 11, 12, 13, 14, 15, 16, 17, 18, 19]])) (.seq (.region f16r34 []) (.cond (.s 170) (.region f16r35 []) (.seq (.region f16r36 []) (.cond (.s 174) (.seq (.region f16r37 [[], [], [1], [0, 1, 2], [0, 1, 2, 3], [], [], [6], [5, 6, 7], [5, 6, 7, 8], [0, 1, 2, 3, 4, 5, 6, 7, 8, 9]]) (.cond (.s 186) (.region f16r38 []) (.skip))) (.seq (.region f16r18 [[], [], [1], [0, 1, 2], [0, 1, 2, 3], [], [], [6], [5, 6, 7], [5, 6, 7, 8], [0, 1, 2, 3, 4, 5, 6, 7, 8, 9]]) (.cond (.s 63) (.region f16r19 []) (.skip))))))))))))))))))))) (.region f16r39 []))))))))
/- f16l0: slots [1, 2, 3, 8, 11, 12, 13], tokens [108, 134] -/
def f16r40 : List POp := [
  ⟨some 190, none, [], 0, .r .mv, [.s 13]⟩,
  ⟨some 191, none, [], 0, .r (.build [.int .i64 0, .int .i64 0] [(1, 1)]), [.s 190]⟩,
  ⟨none, none, [108], 0, .st 2, [.s 8, .s 191]⟩,
  ⟨some 9, none, [], 0, .r .mv, [.c (.int .i64 0)]⟩]
def f16pc : PCode := .seq (.region f16r0 []) (.seq (.region f16r1 []) (.seq (.seq (.region f16r2 []) (.cond (.s 19) (.seq (.region f16r3 []) (.ret)) (.skip))) (.seq (.seq (.region f16r4 []) (.cond (.s 27) (.seq (.region f16r5 []) (.ret)) (.skip))) (.seq (.seq (.region f16r6 []) (.cond (.s 32) (.seq (.region f16r7 []) (.ret)) (.skip))) (.seq (.region f16r8 []) (.seq (.region f16r9 []) (.seq (.region f16r10 []) (.seq (.block 0 (.loop f16l0)) (.seq (.region f16r40 []) (.ret))))))))))
def f16rs : List RArg := [.cn 8 2 [] [108], .s 9 [] []]
/- (diorama/dioramalaw29.table).Count : params [46, 3] results [3] tmps 20 resvars [('tmp', 4)] -/
def f123r0 : List POp := [
  ⟨some 2, none, [102], 102, .a (.box 46 1), [.s 0]⟩,
  ⟨some 4, none, [], 0, .r .mv, [.c (.int .i64 0)]⟩]
def f123r1 : List POp := [
  ⟨some 5, none, [], 0, .r .mv, [.s 1]⟩,
  ⟨some 6, none, [], 0, .r (.bin .lss), [.s 5, .c (.int .i64 0)]⟩,
  ⟨some 7, none, [], 0, .r .mv, [.s 6]⟩,
  ⟨some 8, (some (7, false)), [], 0, .r .mv, [.s 1]⟩,
  ⟨some 9, (some (7, false)), [102], 0, .r (.fad 0), [.s 2]⟩,
  ⟨some 10, (some (7, false)), [102], 0, .r .ld1, [.s 9]⟩,
  ⟨some 11, (some (7, false)), [], 0, .r .len, [.s 10]⟩,
  ⟨some 12, (some (7, false)), [], 0, .r (.bin .geq), [.s 8, .s 11]⟩,
  ⟨some 13, none, [], 0, .r .pick, [.s 7, .c (.bool true), .s 12]⟩]
def f123r2 : List POp := [
  ⟨some 4, none, [], 0, .r .mv, [.c (.int .i64 0)]⟩]
def f123r3 : List POp := [
  ⟨some 14, none, [102], 0, .r (.fad 0), [.s 2]⟩,
  ⟨some 15, none, [102], 0, .r .ld1, [.s 14]⟩,
  ⟨some 16, none, [], 0, .r .mv, [.s 1]⟩,
  ⟨some 17, none, [], 0, .r (.ixs 1), [.s 15, .s 16]⟩,
  ⟨some 18, none, [], 0, .r .ld1, [.s 17]⟩,
  ⟨some 19, none, [], 0, .r .len, [.s 18]⟩,
  ⟨some 4, none, [], 0, .r .mv, [.s 19]⟩]
def f123pc : PCode := .seq (.region f123r0 []) (.seq (.seq (.region f123r1 []) (.cond (.s 13) (.seq (.region f123r2 []) (.ret)) (.skip))) (.seq (.region f123r3 []) (.ret)))
def f123rs : List RArg := [.s 4 [] []]
/- (diorama/dioramalaw29.table).Value : params [46, 3, 3, 3] results [3] tmps 56 resvars [('tmp', 8)] -/
def f124r0 : List POp := [
  ⟨some 4, none, [104], 104, .a (.box 46 1), [.s 0]⟩,
  ⟨some 8, none, [], 0, .r .mv, [.c (.int .i64 0)]⟩]
def f124r1 : List POp := [
  ⟨some 9, none, [], 0, .r .mv, [.s 1]⟩,
  ⟨some 10, none, [], 0, .r (.bin .lss), [.s 9, .c (.int .i64 0)]⟩,
  ⟨some 11, none, [], 0, .r .mv, [.s 10]⟩,
  ⟨some 12, (some (11, false)), [], 0, .r .mv, [.s 1]⟩,
  ⟨some 13, (some (11, false)), [104], 0, .r (.fad 0), [.s 4]⟩,
  ⟨some 14, (some (11, false)), [104], 0, .r .ld1, [.s 13]⟩,
  ⟨some 15, (some (11, false)), [], 0, .r .len, [.s 14]⟩,
  ⟨some 16, (some (11, false)), [], 0, .r (.bin .geq), [.s 12, .s 15]⟩,
  ⟨some 17, none, [], 0, .r .pick, [.s 11, .c (.bool true), .s 16]⟩,
  ⟨some 18, none, [], 0, .r .mv, [.s 17]⟩,
  ⟨some 19, (some (18, false)), [], 0, .r .mv, [.s 2]⟩,
  ⟨some 20, (some (18, false)), [], 0, .r (.bin .lss), [.s 19, .c (.int .i64 0)]⟩,
  ⟨some 21, none, [], 0, .r .pick, [.s 18, .c (.bool true), .s 20]⟩,
  ⟨some 22, none, [], 0, .r .mv, [.s 21]⟩,
  ⟨some 23, (some (22, false)), [], 0, .r .mv, [.s 3]⟩,
  ⟨some 24, (some (22, false)), [], 0, .r (.bin .lss), [.s 23, .c (.int .i64 0)]⟩,
  ⟨some 25, none, [], 0, .r .pick, [.s 22, .c (.bool true), .s 24]⟩]
def f124r2 : List POp := [
  ⟨some 8, none, [], 0, .r .mv, [.c (.int .i64 0)]⟩]
def f124r3 : List POp := [
  ⟨some 26, none, [], 0, .r .mv, [.s 2]⟩,
  ⟨some 27, none, [104], 0, .r (.fad 0), [.s 4]⟩,
  ⟨some 28, none, [104], 0, .r .ld1, [.s 27]⟩,
  ⟨some 29, none, [], 0, .r .mv, [.s 1]⟩,
  ⟨some 30, none, [], 0, .r (.ixs 1), [.s 28, .s 29]⟩,
  ⟨some 31, none, [], 0, .r .ld1, [.s 30]⟩,
  ⟨some 32, none, [], 0, .r .len, [.s 31]⟩,
  ⟨some 33, none, [], 0, .r (.bin .geq), [.s 26, .s 32]⟩]
def f124r4 : List POp := [
  ⟨some 8, none, [], 0, .r .mv, [.c (.int .i64 0)]⟩]
def f124r5 : List POp := [
  ⟨some 34, none, [], 0, .r .mv, [.s 3]⟩,
  ⟨some 35, none, [104], 0, .r (.fad 0), [.s 4]⟩,
  ⟨some 36, none, [104], 0, .r .ld1, [.s 35]⟩,
  ⟨some 37, none, [], 0, .r .mv, [.s 1]⟩,
  ⟨some 38, none, [], 0, .r (.ixs 1), [.s 36, .s 37]⟩,
  ⟨some 39, none, [], 0, .r .ld1, [.s 38]⟩,
  ⟨some 40, none, [], 0, .r .mv, [.s 2]⟩,
  ⟨some 41, none, [], 0, .r (.ixs 1), [.s 39, .s 40]⟩,
  ⟨some 42, none, [], 0, .r .ld1, [.s 41]⟩,
  ⟨some 43, none, [], 0, .r .len, [.s 42]⟩,
  ⟨some 44, none, [], 0, .r (.bin .geq), [.s 34, .s 43]⟩]
def f124r6 : List POp := [
  ⟨some 8, none, [], 0, .r .mv, [.c (.int .i64 0)]⟩]
def f124r7 : List POp := [
  ⟨some 45, none, [104], 0, .r (.fad 0), [.s 4]⟩,
  ⟨some 46, none, [104], 0, .r .ld1, [.s 45]⟩,
  ⟨some 47, none, [], 0, .r .mv, [.s 1]⟩,
  ⟨some 48, none, [], 0, .r (.ixs 1), [.s 46, .s 47]⟩,
  ⟨some 49, none, [], 0, .r .ld1, [.s 48]⟩,
  ⟨some 50, none, [], 0, .r .mv, [.s 2]⟩,
  ⟨some 51, none, [], 0, .r (.ixs 1), [.s 49, .s 50]⟩,
  ⟨some 52, none, [], 0, .r .ld1, [.s 51]⟩,
  ⟨some 53, none, [], 0, .r .mv, [.s 3]⟩,
  ⟨some 54, none, [], 0, .r (.ixs 1), [.s 52, .s 53]⟩,
  ⟨some 55, none, [], 0, .r .ld1, [.s 54]⟩,
  ⟨some 8, none, [], 0, .r .mv, [.s 55]⟩]
def f124pc : PCode := .seq (.region f124r0 []) (.seq (.seq (.region f124r1 []) (.cond (.s 25) (.seq (.region f124r2 []) (.ret)) (.skip))) (.seq (.seq (.region f124r3 []) (.cond (.s 33) (.seq (.region f124r4 []) (.ret)) (.skip))) (.seq (.seq (.region f124r5 []) (.cond (.s 44) (.seq (.region f124r6 []) (.ret)) (.skip))) (.seq (.region f124r7 []) (.ret)))))
def f124rs : List RArg := [.s 8 [] []]
end Go.Absw

/- Generated: the abstract texts of functions 32 66 34 36. -/
namespace Go.Absw
/- (*diorama/dioramaref09.Maker).Take : params [81, 3] results [3] tmps 23 resvars [('tmp', 4)] -/
def f32r0 : List POp := [
  ⟨some 4, none, [], 0, .r .mv, [.c (.int .i64 0)]⟩]
def f32r1 : List POp := [
  ⟨some 5, none, [], 0, .r .mv, [.s 0]⟩,
  ⟨some 6, none, [0], 0, .r .nck, [.s 5]⟩,
  ⟨some 7, none, [0], 0, .r (.fad 1), [.s 6]⟩,
  ⟨some 8, none, [0], 0, .r .ld1, [.s 7]⟩,
  ⟨some 9, none, [], 0, .r (.bin .add), [.s 8, .c (.int .i64 1)]⟩,
  ⟨some 10, none, [0], 0, .r .nck, [.s 5]⟩,
  ⟨some 11, none, [0], 0, .r (.fad 1), [.s 10]⟩,
  ⟨none, none, [0], 0, .st 1, [.s 11, .s 9]⟩]
def f32r2 : List POp := [
  ⟨some 12, none, [], 0, .r .mv, [.s 0]⟩,
  ⟨some 13, none, [0], 0, .r .nck, [.s 12]⟩,
  ⟨some 14, none, [0], 0, .r (.fad 0), [.s 13]⟩,
  ⟨some 15, none, [0], 0, .r .ld1, [.s 14]⟩,
  ⟨some 16, none, [], 0, .r .mv, [.s 0]⟩,
  ⟨some 17, none, [0], 0, .r .nck, [.s 16]⟩,
  ⟨some 18, none, [0], 0, .r (.fad 1), [.s 17]⟩,
  ⟨some 19, none, [0], 0, .r .ld1, [.s 18]⟩,
  ⟨some 20, none, [], 0, .r (.bin .sub), [.s 19, .c (.int .i64 1)]⟩,
  ⟨some 21, none, [], 0, .r .mv, [.s 1]⟩,
  ⟨some 22, none, [], 0, .call .f [] [], [.fn 35, .z 15 [some 1], .s 20, .s 21]⟩,
  ⟨some 4, none, [], 0, .r .mv, [.s 22]⟩]
def f32pc : PCode := .seq (.region f32r0 []) (.seq (.region f32r1 []) (.seq (.region f32r2 [[], [0], [0, 1], [0, 1, 2], [], [4], [4, 5], [4, 5, 6], [4, 5, 6, 7], [], [0, 1, 2, 3, 4, 5, 6, 7, 8, 9], [0, 1, 2, 3, 4, 5, 6, 7, 8, 9, 10]]) (.ret)))
def f32rs : List RArg := [.s 4 [] []]
/- (*diorama/dioramaref09.Maker).plain : params [81] results [54] tmps 103 resvars [('tmp', 2)] -/
def f66r0 : List POp := [
  ⟨some 2, none, [], 0, .r .mv, [.c (.nils)]⟩]
def f66r1 : List POp := [
  ⟨some 9, none, [], 0, .r .mv, [.s 0]⟩,
  ⟨some 10, none, [0], 0, .call .f [0] [], [.fn 32, .s 9, .c (.int .i64 6)]⟩]
def f66r2 : List POp := [
  ⟨some 12, none, [], 0, .r (.bin .eql), [.s 10, .c (.int .i64 0)]⟩,
  ⟨some 11, none, [], 0, .r .mv, [.s 12]⟩]
def f66r3 : List POp := [
  ⟨some 13, none, [], 0, .r .mv, [.s 0]⟩,
  ⟨some 14, none, [0], 0, .call .f [0] [], [.fn 32, .s 13, .c (.int .i64 11)]⟩,
  ⟨some 15, none, [], 0, .r (.bin .sub), [.s 14, .c (.int .i64 5)]⟩,
  ⟨some 3, none, [], 0, .r .mv, [.s 15]⟩]
def f66r4 : List POp := [
  ⟨some 16, none, [], 0, .r .mv, [.s 3]⟩,
  ⟨some 17, none, [], 0, .r .mv, [.s 3]⟩,
  ⟨some 18, none, [], 0, .r .mv, [.s 0]⟩,
  ⟨some 19, none, [0], 0, .call .f [0] [], [.fn 32, .s 18, .c (.int .i64 20)]⟩,
  ⟨some 20, none, [], 0, .r (.bin .add), [.s 17, .s 19]⟩,
  ⟨some 21, none, [], 0, .r (.build [.str [], .str [], .str [], .int .i64 0, .int .i64 0, .int .i64 0, .nils, .nils] [(0, 1), (3, 1), (4, 1), (5, 1)]), [.c (.str [115, 105, 122, 101]), .c (.int .i64 2), .s 16, .s 20]⟩,
  ⟨some 22, none, [122], 122, .a (.bsl 96 8 1 [.str [], .str [], .str [], .int .i64 0, .int .i64 0, .int .i64 0, .nils, .nils] [(0, 8)]), [.z 21 [none, none, none, none, none, none, some 1, some 1]]⟩,
  ⟨some 2, none, [], 0, .r .mv, [.s 22]⟩]
def f66r5 : List POp := [
  ⟨some 24, none, [], 0, .r (.bin .eql), [.s 10, .c (.int .i64 1)]⟩,
  ⟨some 23, none, [], 0, .r .mv, [.s 24]⟩]
def f66r6 : List POp := [
  ⟨some 25, none, [125], 125, .a (.bsl 9 1 3 [.str []] [(0, 1), (1, 1), (2, 1)]), [.c (.str [114, 101, 100]), .c (.str [103, 114, 101, 101, 110]), .c (.str [98, 108, 117, 101])]⟩,
  ⟨some 26, none, [], 0, .r .mv, [.s 0]⟩,
  ⟨some 27, none, [0], 0, .call .f [0] [], [.fn 32, .s 26, .c (.int .i64 3)]⟩,
  ⟨some 28, none, [], 0, .r (.bin .add), [.c (.int .i64 1), .s 27]⟩,
  ⟨some 29, none, [125], 0, .r (.slc 1 false true), [.s 25, .s 28]⟩,
  ⟨some 4, none, [], 0, .r .mv, [.s 29]⟩]
def f66r7 : List POp := [
  ⟨some 30, none, [], 0, .r .mv, [.s 4]⟩,
  ⟨some 31, none, [], 0, .r (.build [.str [], .str [], .str [], .int .i64 0, .int .i64 0, .int .i64 0, .nils, .nils] [(0, 1), (3, 1), (6, 1)]), [.c (.str [116, 97, 103]), .c (.int .i64 3), .s 30]⟩,
  ⟨some 5, none, [105], 105, .a (.alloc 96 [.str [], .str [], .str [], .int .i64 0, .int .i64 0, .int .i64 0, .nils, .nils]), []⟩,
  ⟨none, none, [105, 125], 0, .st 8, [.s 5, .z 31 [none, none, none, none, none, none, some 1, none]]⟩]
def f66r8 : List POp := [
  ⟨some 6, none, [], 0, .r .mv, [.c (.int .i64 0)]⟩]
def f66r9 : List POp := [
  ⟨some 32, none, [], 0, .r .mv, [.s 6]⟩,
  ⟨some 33, none, [], 0, .r .mv, [.s 4]⟩,
  ⟨some 34, none, [125], 0, .r .len, [.s 33]⟩,
  ⟨some 35, none, [], 0, .r (.bin .lss), [.s 32, .s 34]⟩]
def f66r11 : List POp := [
  ⟨some 38, none, [105], 0, .r (.fad 7), [.s 5]⟩,
  ⟨some 39, none, [105], 0, .r .ld1, [.s 38]⟩,
  ⟨some 40, none, [], 0, .r .mv, [.s 0]⟩,
  ⟨some 41, none, [0], 0, .call .f [0] [], [.fn 32, .s 40, .c (.int .i64 5)]⟩,
  ⟨some 42, none, [142], 142, .a (.bsl 3 1 1 [.int .i64 0] [(0, 1)]), [.s 41]⟩,
  ⟨some 43, none, [125, 142, 143], 143, .app 3 1 8, [.s 39, .s 42]⟩,
  ⟨some 44, none, [105], 0, .r (.fad 7), [.s 5]⟩,
  ⟨none, none, [105, 125, 143], 0, .st 1, [.s 44, .z 43 [some 1]]⟩]
def f66r10 : List POp := [
  ⟨some 36, none, [], 0, .r .mv, [.s 6]⟩,
  ⟨some 37, none, [], 0, .r (.bin .add), [.s 36, .c (.int .i64 1)]⟩,
  ⟨some 6, none, [], 0, .r .mv, [.s 37]⟩]
def f66l0 : PCode := .gh (.keep [0, 4, 5, 6] [0, 105, 125, 143]) (.seq (.seq (.region f66r9 []) (.cond (.s 35) (.skip) (.exit 1))) (.seq (.block 2 (.region f66r11 [[], [0], [], [2], [2, 3], [0, 1, 2, 3, 4], [0, 1, 2, 3, 4, 5], [0, 1, 2, 3, 4, 5, 6]])) (.region f66r10 [])))
/- f66l0: slots [0, 4, 5, 6], tokens [0, 105, 125, 143] -/
def f66r12 : List POp := [
  ⟨some 45, none, [105], 0, .r (.fad 7), [.s 5]⟩,
  ⟨some 46, none, [105], 0, .r .ld1, [.s 45]⟩,
  ⟨some 47, none, [], 0, .r .mv, [.s 0]⟩,
  ⟨some 48, none, [], 0, .r .mv, [.s 4]⟩,
  ⟨some 49, none, [125], 0, .r .len, [.s 48]⟩,
  ⟨some 50, none, [0], 0, .call .f [0] [], [.fn 32, .s 47, .s 49]⟩,
  ⟨some 51, none, [], 0, .r .mv, [.s 0]⟩,
  ⟨some 52, none, [0], 0, .call .f [0] [], [.fn 32, .s 51, .c (.int .i64 3)]⟩,
  ⟨some 53, none, [], 0, .r (.bin .add), [.c (.int .i64 1), .s 52]⟩,
  ⟨some 54, none, [125, 143], 0, .r (.ixs 1), [.s 46, .s 50]⟩,
  ⟨none, none, [125, 143], 0, .st 1, [.s 54, .s 53]⟩]
def f66r13 : List POp := [
  ⟨some 55, none, [105], 0, .r (.ldn 8), [.s 5]⟩,
  ⟨some 56, none, [125, 143, 156], 156, .a (.bsl 96 8 1 [.str [], .str [], .str [], .int .i64 0, .int .i64 0, .int .i64 0, .nils, .nils] [(0, 8)]), [.z 55 [none, none, none, none, none, none, some 1, some 1]]⟩,
  ⟨some 2, none, [], 0, .r .mv, [.s 56]⟩]
def f66r14 : List POp := [
  ⟨some 58, none, [], 0, .r (.bin .eql), [.s 10, .c (.int .i64 2)]⟩,
  ⟨some 57, none, [], 0, .r .mv, [.s 58]⟩]
def f66r15 : List POp := [
  ⟨some 59, none, [], 0, .r .mv, [.s 0]⟩,
  ⟨some 60, none, [0], 0, .call .f [0] [], [.fn 32, .s 59, .c (.int .i64 400)]⟩,
  ⟨some 61, none, [], 0, .r (.bin .sub), [.s 60, .c (.int .i64 200)]⟩,
  ⟨some 62, none, [], 0, .r (.build [.str [], .str [], .str [], .int .i64 0, .int .i64 0, .int .i64 0, .nils, .nils] [(0, 1), (3, 1), (4, 1)]), [.c (.str [98, 111, 114, 110]), .c (.int .i64 4), .s 61]⟩,
  ⟨some 7, none, [107], 107, .a (.alloc 96 [.str [], .str [], .str [], .int .i64 0, .int .i64 0, .int .i64 0, .nils, .nils]), []⟩,
  ⟨none, none, [107], 0, .st 8, [.s 7, .z 62 [none, none, none, none, none, none, some 1, some 1]]⟩]
def f66r16 : List POp := [
  ⟨some 63, none, [107], 0, .r (.fad 4), [.s 7]⟩,
  ⟨some 64, none, [107], 0, .r .ld1, [.s 63]⟩,
  ⟨some 65, none, [], 0, .r .mv, [.s 0]⟩,
  ⟨some 66, none, [0], 0, .call .f [0] [], [.fn 32, .s 65, .c (.int .i64 60)]⟩,
  ⟨some 67, none, [], 0, .r (.bin .add), [.s 64, .s 66]⟩,
  ⟨some 68, none, [107], 0, .r (.fad 5), [.s 7]⟩,
  ⟨none, none, [107], 0, .st 1, [.s 68, .s 67]⟩]
def f66r17 : List POp := [
  ⟨some 69, none, [107], 0, .r (.ldn 8), [.s 7]⟩,
  ⟨some 70, none, [], 0, .r .mv, [.s 0]⟩,
  ⟨some 71, none, [0], 0, .call .f [0] [], [.fn 32, .s 70, .c (.int .i64 3)]⟩,
  ⟨some 72, none, [], 0, .r .mv, [.s 0]⟩,
  ⟨some 73, none, [0], 0, .call .f [0] [], [.fn 32, .s 72, .c (.int .i64 30)]⟩,
  ⟨some 74, none, [], 0, .r (.bin .add), [.c (.int .i64 3), .s 73]⟩,
  ⟨some 75, none, [], 0, .r (.build [.str [], .str [], .str [], .int .i64 0, .int .i64 0, .int .i64 0, .nils, .nils] [(0, 1), (3, 1), (1, 1), (4, 1), (5, 1)]), [.c (.str [108, 101, 102, 116]), .c (.int .i64 4), .c (.str [98, 111, 114, 110]), .s 71, .s 74]⟩,
  ⟨some 76, none, [176], 176, .a (.bsl 96 8 2 [.str [], .str [], .str [], .int .i64 0, .int .i64 0, .int .i64 0, .nils, .nils] [(0, 8), (8, 8)]), [.z 69 [none, none, none, none, none, none, some 1, some 1], .z 75 [none, none, none, none, none, none, some 1, some 1]]⟩,
  ⟨some 2, none, [], 0, .r .mv, [.s 76]⟩]
def f66r18 : List POp := [
  ⟨some 78, none, [], 0, .r (.bin .eql), [.s 10, .c (.int .i64 3)]⟩,
  ⟨some 77, none, [], 0, .r .mv, [.s 78]⟩]
def f66r19 : List POp := [
  ⟨some 79, none, [], 0, .r .mv, [.s 0]⟩,
  ⟨some 80, none, [0], 0, .call .f [0] [], [.fn 32, .s 79, .c (.int .i64 3)]⟩,
  ⟨some 8, none, [], 0, .r .mv, [.s 80]⟩]
def f66r20 : List POp := [
  ⟨some 81, none, [], 0, .r .mv, [.s 8]⟩,
  ⟨some 82, none, [], 0, .r .mv, [.s 8]⟩,
  ⟨some 83, none, [], 0, .r .mv, [.s 0]⟩,
  ⟨some 84, none, [0], 0, .call .f [0] [], [.fn 32, .s 83, .c (.int .i64 4)]⟩,
  ⟨some 85, none, [], 0, .r (.bin .add), [.s 82, .s 84]⟩,
  ⟨some 86, none, [], 0, .r (.build [.str [], .str [], .str [], .int .i64 0, .int .i64 0, .int .i64 0, .nils, .nils] [(0, 1), (3, 1), (1, 1), (4, 1), (5, 1)]), [.c (.str [115, 116, 97, 116, 101]), .c (.int .i64 5), .c (.str [108, 105, 102, 101]), .s 81, .s 85]⟩,
  ⟨some 87, none, [187], 187, .a (.bsl 96 8 1 [.str [], .str [], .str [], .int .i64 0, .int .i64 0, .int .i64 0, .nils, .nils] [(0, 8)]), [.z 86 [none, none, none, none, none, none, some 1, some 1]]⟩,
  ⟨some 2, none, [], 0, .r .mv, [.s 87]⟩]
def f66r21 : List POp := [
  ⟨some 89, none, [], 0, .r (.bin .eql), [.s 10, .c (.int .i64 4)]⟩,
  ⟨some 88, none, [], 0, .r .mv, [.s 89]⟩]
def f66r22 : List POp := [
  ⟨some 90, none, [], 0, .r .mv, [.s 0]⟩,
  ⟨some 91, none, [0], 0, .call .f [0] [], [.fn 32, .s 90, .c (.int .i64 5)]⟩,
  ⟨some 92, none, [], 0, .r .mv, [.s 0]⟩,
  ⟨some 93, none, [0], 0, .call .f [0] [], [.fn 32, .s 92, .c (.int .i64 10)]⟩,
  ⟨some 94, none, [], 0, .r (.bin .add), [.c (.int .i64 5), .s 93]⟩,
  ⟨some 95, none, [], 0, .r (.build [.str [], .str [], .str [], .int .i64 0, .int .i64 0, .int .i64 0, .nils, .nils] [(0, 1), (3, 1), (4, 1), (5, 1)]), [.c (.str [108, 111, 119]), .c (.int .i64 2), .s 91, .s 94]⟩,
  ⟨some 96, none, [], 0, .r .mv, [.s 0]⟩,
  ⟨some 97, none, [0], 0, .call .f [0] [], [.fn 32, .s 96, .c (.int .i64 5)]⟩,
  ⟨some 98, none, [], 0, .r .mv, [.s 0]⟩,
  ⟨some 99, none, [0], 0, .call .f [0] [], [.fn 32, .s 98, .c (.int .i64 10)]⟩,
  ⟨some 100, none, [], 0, .r (.bin .add), [.c (.int .i64 10), .s 99]⟩,
  ⟨some 101, none, [], 0, .r (.build [.str [], .str [], .str [], .int .i64 0, .int .i64 0, .int .i64 0, .nils, .nils] [(0, 1), (3, 1), (4, 1), (5, 1)]), [.c (.str [104, 105, 103, 104]), .c (.int .i64 2), .s 97, .s 100]⟩,
  ⟨some 102, none, [202], 202, .a (.bsl 96 8 2 [.str [], .str [], .str [], .int .i64 0, .int .i64 0, .int .i64 0, .nils, .nils] [(0, 8), (8, 8)]), [.z 95 [none, none, none, none, none, none, some 1, some 1], .z 101 [none, none, none, none, none, none, some 1, some 1]]⟩,
  ⟨some 2, none, [], 0, .r .mv, [.s 102]⟩]
def f66r23 : List POp := [
  ⟨some 2, none, [], 0, .r .mv, [.c (.nils)]⟩]
def f66pc : PCode := .seq (.region f66r0 []) (.seq (.seq (.region f66r1 []) (.block 0 (.seq (.region f66r2 []) (.cond (.s 11) (.seq (.region f66r3 []) (.seq (.region f66r4 []) (.gh (.fz 122) (.gh (.fz 156) (.gh (.fz 176) (.gh (.fz 187) (.gh (.fz 202) (.ret)))))))) (.seq (.region f66r5 []) (.cond (.s 23) (.seq (.region f66r6 []) (.seq (.gh (.fz 125) (.region f66r7 [])) (.seq (.seq (.gh (.ownc 105 7 143 3 1) (.region f66r8 [])) (.block 1 (.loop f66l0))) (.seq (.region f66r12 [[], [0], [], [], [3], [2, 3, 4], [], [2, 3, 4, 5, 6], [2, 3, 4, 5, 6, 7], [0, 1, 2, 3, 4, 5, 6, 7, 8], [0, 1, 2, 3, 4, 5, 6, 7, 8, 9]]) (.seq (.gh (.fz 125) (.gh (.fz 143) (.region f66r13 []))) (.gh (.fz 122) (.gh (.fz 156) (.gh (.fz 176) (.gh (.fz 187) (.gh (.fz 202) (.ret))))))))))) (.seq (.region f66r14 []) (.cond (.s 57) (.seq (.region f66r15 []) (.seq (.region f66r16 [[], [0], [], [2], [0, 1, 2, 3], [0, 1, 2, 3, 4], [0, 1, 2, 3, 4, 5]]) (.seq (.region f66r17 [[], [], [1], [], [1, 2, 3], [1, 2, 3, 4], [1, 2, 3, 4, 5], [0, 1, 2, 3, 4, 5, 6], [0, 1, 2, 3, 4, 5, 6, 7]]) (.gh (.fz 122) (.gh (.fz 156) (.gh (.fz 176) (.gh (.fz 187) (.gh (.fz 202) (.ret))))))))) (.seq (.region f66r18 []) (.cond (.s 77) (.seq (.region f66r19 []) (.seq (.region f66r20 []) (.gh (.fz 122) (.gh (.fz 156) (.gh (.fz 176) (.gh (.fz 187) (.gh (.fz 202) (.ret)))))))) (.seq (.region f66r21 []) (.cond (.s 88) (.seq (.region f66r22 []) (.gh (.fz 122) (.gh (.fz 156) (.gh (.fz 176) (.gh (.fz 187) (.gh (.fz 202) (.ret))))))) (.skip))))))))))))) (.seq (.region f66r23 []) (.gh (.fz 122) (.gh (.fz 156) (.gh (.fz 176) (.gh (.fz 187) (.gh (.fz 202) (.ret))))))))
def f66rs : List RArg := [.s 2 [some 8] [122, 156, 176, 187, 202]]
/- (*diorama/dioramaref09.Maker).rule : params [81, 56] results [91, 4] tmps 67 resvars [('cell', 4, 91), ('tmp', 5)] -/
def f34r0 : List POp := [
  ⟨some 3, none, [103], 103, .a (.box 56 4), [.s 1]⟩,
  ⟨some 4, none, [104], 104, .a (.alloc 91 [.str [], .str [], .str [], .str [], .int .i64 0]), []⟩,
  ⟨some 5, none, [], 0, .r .mv, [.c (.bool false)]⟩]
def f34r1 : List POp := [
  ⟨some 9, none, [103], 0, .r (.fad 3), [.s 3]⟩,
  ⟨some 10, none, [103], 0, .r .ld1, [.s 9]⟩,
  ⟨some 11, none, [], 0, .call .f [] [], [.fn 65, .z 10 [some 8], .c (.str [108, 111, 119])]⟩,
  ⟨some 6, none, [], 0, .r .mv, [.s 11]⟩]
def f34r2 : List POp := [
  ⟨some 12, none, [103], 0, .r (.fad 3), [.s 3]⟩,
  ⟨some 13, none, [103], 0, .r .ld1, [.s 12]⟩,
  ⟨some 14, none, [], 0, .call .f [] [], [.fn 65, .z 13 [some 8], .c (.str [115, 105, 122, 101])]⟩,
  ⟨some 7, none, [], 0, .r .mv, [.s 14]⟩]
def f34r3 : List POp := [
  ⟨some 15, none, [], 0, .r .mv, [.s 6]⟩,
  ⟨some 16, none, [], 0, .r (.bin .geq), [.s 15, .c (.int .i64 0)]⟩,
  ⟨some 17, none, [], 0, .r .mv, [.s 16]⟩,
  ⟨some 18, (some (17, true)), [], 0, .r .mv, [.s 0]⟩,
  ⟨some 19, (some (17, true)), [0], 0, .call .f [0] [], [.fn 32, .s 18, .c (.int .i64 3)]⟩,
  ⟨some 20, (some (17, true)), [], 0, .r (.bin .gtr), [.s 19, .c (.int .i64 0)]⟩,
  ⟨some 21, none, [], 0, .r .pick, [.s 17, .s 20, .c (.bool false)]⟩]
def f34r4 : List POp := [
  ⟨some 22, none, [103], 0, .r (.fad 0), [.s 3]⟩,
  ⟨some 23, none, [103], 0, .r .ld1, [.s 22]⟩,
  ⟨some 24, none, [], 0, .r (.sls false true), [.s 23, .c (.int .i64 1)]⟩,
  ⟨some 25, none, [], 0, .r (.bin .add), [.c (.str [111, 114, 100, 101, 114]), .s 24]⟩,
  ⟨some 26, none, [103], 0, .r (.fad 0), [.s 3]⟩,
  ⟨some 27, none, [103], 0, .r .ld1, [.s 26]⟩,
  ⟨some 28, none, [], 0, .r .mv, [.s 0]⟩,
  ⟨some 29, none, [0], 0, .call .f [0] [], [.fn 32, .s 28, .c (.int .i64 8)]⟩,
  ⟨some 30, none, [], 0, .r (.bin .sub), [.s 29, .c (.int .i64 2)]⟩,
  ⟨some 31, none, [], 0, .r (.build [.str [], .str [], .str [], .str [], .int .i64 0] [(0, 1), (1, 1), (2, 1), (3, 1), (4, 1)]), [.s 25, .s 27, .c (.str [108, 111, 119]), .c (.str [104, 105, 103, 104]), .s 30]⟩,
  ⟨none, none, [104], 0, .st 5, [.s 4, .s 31]⟩,
  ⟨some 5, none, [], 0, .r .mv, [.c (.bool true)]⟩]
def f34r5 : List POp := [
  ⟨some 32, none, [], 0, .r .mv, [.s 7]⟩,
  ⟨some 33, none, [], 0, .r (.bin .lss), [.s 32, .c (.int .i64 0)]⟩]
def f34r6 : List POp := [
  ⟨some 34, none, [], 0, .r (.build [.str [], .str [], .str [], .str [], .int .i64 0] []), []⟩,
  ⟨none, none, [104], 0, .st 5, [.s 4, .s 34]⟩,
  ⟨some 5, none, [], 0, .r .mv, [.c (.bool false)]⟩]
def f34r7 : List POp := [
  ⟨some 35, none, [103], 0, .r (.fad 3), [.s 3]⟩,
  ⟨some 36, none, [103], 0, .r .ld1, [.s 35]⟩,
  ⟨some 37, none, [], 0, .r .mv, [.s 7]⟩,
  ⟨some 38, none, [], 0, .r (.ixs 8), [.s 36, .s 37]⟩,
  ⟨some 39, none, [], 0, .r (.ldn 8), [.s 38]⟩,
  ⟨some 8, none, [108], 108, .a (.alloc 96 [.str [], .str [], .str [], .int .i64 0, .int .i64 0, .int .i64 0, .nils, .nils]), []⟩,
  ⟨none, none, [108], 0, .st 8, [.s 8, .z 39 [none, none, none, none, none, none, some 1, some 1]]⟩]
def f34r8 : List POp := [
  ⟨some 40, none, [], 0, .r .mv, [.s 0]⟩,
  ⟨some 41, none, [0], 0, .call .f [0] [], [.fn 32, .s 40, .c (.int .i64 2)]⟩,
  ⟨some 42, none, [], 0, .r (.bin .eql), [.s 41, .c (.int .i64 0)]⟩]
def f34r9 : List POp := [
  ⟨some 43, none, [103], 0, .r (.fad 0), [.s 3]⟩,
  ⟨some 44, none, [103], 0, .r .ld1, [.s 43]⟩,
  ⟨some 45, none, [], 0, .r (.sls false true), [.s 44, .c (.int .i64 1)]⟩,
  ⟨some 46, none, [], 0, .r (.bin .add), [.c (.str [109, 111, 115, 116]), .s 45]⟩,
  ⟨some 47, none, [103], 0, .r (.fad 0), [.s 3]⟩,
  ⟨some 48, none, [103], 0, .r .ld1, [.s 47]⟩,
  ⟨some 49, none, [108], 0, .r (.fad 4), [.s 8]⟩,
  ⟨some 50, none, [108], 0, .r .ld1, [.s 49]⟩,
  ⟨some 51, none, [], 0, .r .mv, [.s 0]⟩,
  ⟨some 52, none, [0], 0, .call .f [0] [], [.fn 32, .s 51, .c (.int .i64 12)]⟩,
  ⟨some 53, none, [], 0, .r (.bin .add), [.s 50, .s 52]⟩,
  ⟨some 54, none, [], 0, .r (.build [.str [], .str [], .str [], .str [], .int .i64 0] [(0, 1), (1, 1), (2, 1), (4, 1)]), [.s 46, .s 48, .c (.str [115, 105, 122, 101]), .s 53]⟩,
  ⟨none, none, [104], 0, .st 5, [.s 4, .s 54]⟩,
  ⟨some 5, none, [], 0, .r .mv, [.c (.bool true)]⟩]
def f34r10 : List POp := [
  ⟨some 55, none, [103], 0, .r (.fad 0), [.s 3]⟩,
  ⟨some 56, none, [103], 0, .r .ld1, [.s 55]⟩,
  ⟨some 57, none, [], 0, .r (.sls false true), [.s 56, .c (.int .i64 1)]⟩,
  ⟨some 58, none, [], 0, .r (.bin .add), [.c (.str [108, 101, 97, 115, 116]), .s 57]⟩,
  ⟨some 59, none, [103], 0, .r (.fad 0), [.s 3]⟩,
  ⟨some 60, none, [103], 0, .r .ld1, [.s 59]⟩,
  ⟨some 61, none, [], 0, .r .mv, [.s 0]⟩,
  ⟨some 62, none, [0], 0, .call .f [0] [], [.fn 32, .s 61, .c (.int .i64 12)]⟩,
  ⟨some 63, none, [108], 0, .r (.fad 5), [.s 8]⟩,
  ⟨some 64, none, [108], 0, .r .ld1, [.s 63]⟩,
  ⟨some 65, none, [], 0, .r (.bin .sub), [.s 62, .s 64]⟩,
  ⟨some 66, none, [], 0, .r (.build [.str [], .str [], .str [], .str [], .int .i64 0] [(0, 1), (1, 1), (3, 1), (4, 1)]), [.s 58, .s 60, .c (.str [115, 105, 122, 101]), .s 65]⟩,
  ⟨none, none, [104], 0, .st 5, [.s 4, .s 66]⟩,
  ⟨some 5, none, [], 0, .r .mv, [.c (.bool true)]⟩]
def f34pc : PCode := .seq (.region f34r0 []) (.seq (.region f34r1 []) (.seq (.region f34r2 []) (.seq (.seq (.region f34r3 []) (.cond (.s 21) (.seq (.region f34r4 [[], [0], [0, 1], [0, 1, 2], [], [4], [], [6], [6, 7], [0, 1, 2, 3, 4, 5, 6, 7, 8], [0, 1, 2, 3, 4, 5, 6, 7, 8, 9], [0, 1, 2, 3, 4, 5, 6, 7, 8, 9, 10]]) (.ret)) (.skip))) (.seq (.seq (.region f34r5 []) (.cond (.s 33) (.seq (.region f34r6 []) (.ret)) (.skip))) (.seq (.region f34r7 []) (.seq (.seq (.region f34r8 []) (.cond (.s 42) (.seq (.region f34r9 [[], [0], [0, 1], [0, 1, 2], [], [4], [], [6], [], [8], [6, 7, 8, 9], [0, 1, 2, 3, 4, 5, 6, 7, 8, 9, 10], [0, 1, 2, 3, 4, 5, 6, 7, 8, 9, 10, 11], [0, 1, 2, 3, 4, 5, 6, 7, 8, 9, 10, 11, 12]]) (.ret)) (.skip))) (.seq (.region f34r10 [[], [0], [0, 1], [0, 1, 2], [], [4], [], [6], [], [8], [6, 7, 8, 9], [0, 1, 2, 3, 4, 5, 6, 7, 8, 9, 10], [0, 1, 2, 3, 4, 5, 6, 7, 8, 9, 10, 11], [0, 1, 2, 3, 4, 5, 6, 7, 8, 9, 10, 11, 12]]) (.ret))))))))
def f34rs : List RArg := [.cn 4 5 [] [104], .s 5 [] []]
/- diorama/dioramaref10.Up : params [27, 3, 3] results [3] tmps 67 resvars [('tmp', 6)] -/
def f36r0 : List POp := [
  ⟨some 3, none, [103], 103, .a (.box 27 4), [.s 0]⟩,
  ⟨some 6, none, [], 0, .r .mv, [.c (.int .i64 0)]⟩]
def f36r1 : List POp := [
  ⟨some 10, none, [103], 0, .r (.ldn 4), [.s 3]⟩,
  ⟨some 11, none, [], 0, .r .mv, [.s 1]⟩,
  ⟨some 12, none, [], 0, .r .mv, [.s 2]⟩,
  ⟨some 13, none, [], 0, .call .f [] [], [.fn 67, .z 10 [none, some 4, some 3, some 5], .s 11, .s 12]⟩,
  ⟨some 14, none, [], 0, .r (.un .not), [.s 13]⟩]
def f36r2 : List POp := [
  ⟨some 6, none, [], 0, .r .mv, [.c (.int .i64 (-1))]⟩]
def f36r3 : List POp := [
  ⟨some 15, none, [103], 0, .r (.fad 1), [.s 3]⟩,
  ⟨some 16, none, [103], 0, .r .ld1, [.s 15]⟩,
  ⟨some 17, none, [], 0, .r .mv, [.s 1]⟩,
  ⟨some 18, none, [], 0, .r (.ixs 4), [.s 16, .s 17]⟩,
  ⟨some 19, none, [], 0, .r (.fad 3), [.s 18]⟩,
  ⟨some 20, none, [], 0, .r .ld1, [.s 19]⟩,
  ⟨some 21, none, [], 0, .r .mv, [.s 2]⟩,
  ⟨some 22, none, [], 0, .r (.ixs 8), [.s 20, .s 21]⟩,
  ⟨some 23, none, [], 0, .r (.ldn 8), [.s 22]⟩,
  ⟨some 7, none, [107], 107, .a (.alloc 96 [.str [], .str [], .str [], .int .i64 0, .int .i64 0, .int .i64 0, .nils, .nils]), []⟩,
  ⟨none, none, [107], 0, .st 8, [.s 7, .z 23 [none, none, none, none, none, none, some 1, some 1]]⟩]
def f36r4 : List POp := [
  ⟨some 24, none, [107], 0, .r (.fad 3), [.s 7]⟩,
  ⟨some 25, none, [107], 0, .r .ld1, [.s 24]⟩,
  ⟨some 26, none, [], 0, .r (.bin .eql), [.s 25, .c (.int .i64 7)]⟩,
  ⟨some 27, none, [], 0, .r .mv, [.s 26]⟩,
  ⟨some 28, (some (27, false)), [107], 0, .r (.fad 3), [.s 7]⟩,
  ⟨some 29, (some (27, false)), [107], 0, .r .ld1, [.s 28]⟩,
  ⟨some 30, (some (27, false)), [], 0, .r (.bin .eql), [.s 29, .c (.int .i64 8)]⟩,
  ⟨some 31, none, [], 0, .r .pick, [.s 27, .c (.bool true), .s 30]⟩]
def f36r5 : List POp := [
  ⟨some 32, none, [103], 0, .r (.fad 1), [.s 3]⟩,
  ⟨some 33, none, [103], 0, .r .ld1, [.s 32]⟩,
  ⟨some 34, none, [], 0, .r .mv, [.s 1]⟩,
  ⟨some 35, none, [], 0, .r (.ixs 4), [.s 33, .s 34]⟩,
  ⟨some 36, none, [], 0, .r (.ldn 4), [.s 35]⟩,
  ⟨some 37, none, [107], 0, .r (.fad 2), [.s 7]⟩,
  ⟨some 38, none, [107], 0, .r .ld1, [.s 37]⟩,
  ⟨some 39, none, [], 0, .call .f [] [], [.fn 68, .z 36 [none, none, none, some 8], .s 38]⟩,
  ⟨some 8, none, [], 0, .r .mv, [.s 39]⟩]
def f36r6 : List POp := [
  ⟨some 40, none, [], 0, .r .mv, [.s 8]⟩,
  ⟨some 41, none, [], 0, .r (.bin .lss), [.s 40, .c (.int .i64 0)]⟩,
  ⟨some 42, none, [], 0, .r .mv, [.s 41]⟩,
  ⟨some 43, (some (42, false)), [], 0, .r .mv, [.s 8]⟩,
  ⟨some 44, (some (42, false)), [], 0, .r .mv, [.s 2]⟩,
  ⟨some 45, (some (42, false)), [], 0, .r (.bin .geq), [.s 43, .s 44]⟩,
  ⟨some 46, none, [], 0, .r .pick, [.s 42, .c (.bool true), .s 45]⟩]
def f36r7 : List POp := [
  ⟨some 6, none, [], 0, .r .mv, [.c (.int .i64 (-1))]⟩]
def f36r8 : List POp := [
  ⟨some 47, none, [103], 0, .r (.fad 1), [.s 3]⟩,
  ⟨some 48, none, [103], 0, .r .ld1, [.s 47]⟩,
  ⟨some 49, none, [], 0, .r .mv, [.s 1]⟩,
  ⟨some 50, none, [], 0, .r (.ixs 4), [.s 48, .s 49]⟩,
  ⟨some 51, none, [], 0, .r (.fad 3), [.s 50]⟩,
  ⟨some 52, none, [], 0, .r .ld1, [.s 51]⟩,
  ⟨some 53, none, [], 0, .r .mv, [.s 8]⟩,
  ⟨some 54, none, [], 0, .r (.ixs 8), [.s 52, .s 53]⟩,
  ⟨some 55, none, [], 0, .r (.ldn 8), [.s 54]⟩,
  ⟨none, none, [107], 0, .st 8, [.s 7, .z 55 [none, none, none, none, none, none, some 1, some 1]]⟩]
def f36r9 : List POp := [
  ⟨some 56, none, [107], 0, .r (.fad 3), [.s 7]⟩,
  ⟨some 57, none, [107], 0, .r .ld1, [.s 56]⟩,
  ⟨some 58, none, [], 0, .r (.bin .neq), [.s 57, .c (.int .i64 1)]⟩]
def f36r10 : List POp := [
  ⟨some 6, none, [], 0, .r .mv, [.c (.int .i64 (-1))]⟩]
def f36r11 : List POp := [
  ⟨some 59, none, [103], 0, .r (.ldn 4), [.s 3]⟩,
  ⟨some 60, none, [107], 0, .r (.fad 1), [.s 7]⟩,
  ⟨some 61, none, [107], 0, .r .ld1, [.s 60]⟩,
  ⟨some 62, none, [], 0, .call .f [] [], [.fn 69, .z 59 [none, some 4, some 3, some 5], .s 61]⟩,
  ⟨some 9, none, [], 0, .r .mv, [.s 62]⟩]
def f36r12 : List POp := [
  ⟨some 63, none, [], 0, .r .mv, [.s 9]⟩,
  ⟨some 64, none, [], 0, .r .mv, [.s 1]⟩,
  ⟨some 65, none, [], 0, .r (.bin .geq), [.s 63, .s 64]⟩]
def f36r13 : List POp := [
  ⟨some 6, none, [], 0, .r .mv, [.c (.int .i64 (-1))]⟩]
def f36r14 : List POp := [
  ⟨some 66, none, [], 0, .r .mv, [.s 9]⟩,
  ⟨some 6, none, [], 0, .r .mv, [.s 66]⟩]
def f36pc : PCode := .seq (.region f36r0 []) (.seq (.seq (.region f36r1 []) (.cond (.s 14) (.seq (.region f36r2 []) (.ret)) (.skip))) (.seq (.region f36r3 []) (.seq (.seq (.region f36r4 []) (.cond (.s 31) (.seq (.region f36r5 [[], [0], [], [0, 1, 2], [0, 1, 2, 3], [], [5], [0, 1, 2, 3, 4, 5, 6], [0, 1, 2, 3, 4, 5, 6, 7]]) (.seq (.seq (.region f36r6 []) (.cond (.s 46) (.seq (.region f36r7 []) (.ret)) (.skip))) (.region f36r8 []))) (.skip))) (.seq (.seq (.region f36r9 []) (.cond (.s 58) (.seq (.region f36r10 []) (.ret)) (.skip))) (.seq (.region f36r11 []) (.seq (.seq (.region f36r12 []) (.cond (.s 65) (.seq (.region f36r13 []) (.ret)) (.skip))) (.seq (.region f36r14 []) (.ret))))))))
def f36rs : List RArg := [.s 6 [] []]
end Go.Absw

/- Generated: the abstract texts of functions 33. -/
namespace Go.Absw
/- (*diorama/dioramaref09.Maker).kind : params [81, 23] results [56] tmps 184 resvars [('cell', 4, 56)] -/
def f33r0 : List POp := [
  ⟨some 4, none, [104], 104, .a (.alloc 56 [.str [], .int .i64 0, .int .i64 0, .nils]), []⟩]
def f33r1 : List POp := [
  ⟨some 14, none, [], 0, .r .mv, [.s 1]⟩,
  ⟨some 15, none, [1], 0, .r .len, [.s 14]⟩,
  ⟨some 5, none, [], 0, .r .mv, [.s 15]⟩]
def f33r2 : List POp := [
  ⟨some 16, none, [116], 116, .a (.bsl 3 1 6 [.int .i64 0] [(0, 1), (1, 1), (2, 1), (3, 1), (4, 1), (5, 1)]), [.c (.int .i64 0), .c (.int .i64 1), .c (.int .i64 2), .c (.int .i64 4), .c (.int .i64 1), .c (.int .i64 2)]⟩,
  ⟨some 17, none, [], 0, .r .mv, [.s 0]⟩,
  ⟨some 18, none, [0], 0, .call .f [0] [], [.fn 32, .s 17, .c (.int .i64 6)]⟩,
  ⟨some 19, none, [116], 0, .r (.ixs 1), [.s 16, .s 18]⟩,
  ⟨some 20, none, [116], 0, .r .ld1, [.s 19]⟩,
  ⟨some 6, none, [], 0, .r .mv, [.s 20]⟩]
def f33r3 : List POp := [
  ⟨some 21, none, [121], 121, .a (.bsl 9 1 3 [.str []] [(0, 1), (1, 1), (2, 1)]), [.c (.str [112, 101, 114, 115, 111, 110]), .c (.str [111, 114, 100, 101, 114]), .c (.str [105, 116, 101, 109])]⟩,
  ⟨some 22, none, [], 0, .r .mv, [.s 5]⟩,
  ⟨some 23, none, [121], 0, .r (.ixs 1), [.s 21, .s 22]⟩,
  ⟨some 24, none, [121], 0, .r .ld1, [.s 23]⟩,
  ⟨some 25, none, [], 0, .r .mv, [.s 6]⟩,
  ⟨some 26, none, [], 0, .r .mv, [.s 6]⟩,
  ⟨some 27, none, [], 0, .r .mv, [.s 0]⟩,
  ⟨some 28, none, [0], 0, .call .f [0] [], [.fn 32, .s 27, .c (.int .i64 5)]⟩,
  ⟨some 29, none, [], 0, .r (.bin .add), [.s 26, .s 28]⟩,
  ⟨some 30, none, [], 0, .r (.build [.str [], .int .i64 0, .int .i64 0, .nils] [(0, 1), (1, 1), (2, 1)]), [.s 24, .s 25, .s 29]⟩,
  ⟨some 7, none, [107], 107, .a (.alloc 56 [.str [], .int .i64 0, .int .i64 0, .nils]), []⟩,
  ⟨none, none, [107], 0, .st 4, [.s 7, .s 30]⟩]
def f33r4 : List POp := [
  ⟨some 31, none, [107], 0, .r (.fad 3), [.s 7]⟩,
  ⟨some 32, none, [107], 0, .r .ld1, [.s 31]⟩,
  ⟨some 33, none, [133], 133, .a (.bsl 3 1 4 [.int .i64 0] [(0, 1), (1, 1), (2, 1), (3, 1)]), [.c (.int .i64 0), .c (.int .i64 1), .c (.int .i64 100), .c (.int .i64 (-3))]⟩,
  ⟨some 34, none, [], 0, .r .mv, [.s 0]⟩,
  ⟨some 35, none, [0], 0, .call .f [0] [], [.fn 32, .s 34, .c (.int .i64 4)]⟩,
  ⟨some 36, none, [133], 0, .r (.ixs 1), [.s 33, .s 35]⟩,
  ⟨some 37, none, [133], 0, .r .ld1, [.s 36]⟩,
  ⟨some 38, none, [], 0, .r (.build [.str [], .str [], .str [], .int .i64 0, .int .i64 0, .int .i64 0, .nils, .nils] [(0, 1), (3, 1), (4, 1)]), [.c (.str [105, 100]), .c (.int .i64 0), .s 37]⟩,
  ⟨some 39, none, [139], 139, .a (.bsl 96 8 1 [.str [], .str [], .str [], .int .i64 0, .int .i64 0, .int .i64 0, .nils, .nils] [(0, 8)]), [.z 38 [none, none, none, none, none, none, some 1, some 1]]⟩,
  ⟨some 40, none, [139, 140], 140, .app 96 8 120, [.s 32, .s 39]⟩,
  ⟨some 41, none, [107], 0, .r (.fad 3), [.s 7]⟩,
  ⟨none, none, [107, 140], 0, .st 1, [.s 41, .z 40 [some 8]]⟩]
def f33r5 : List POp := [
  ⟨some 42, none, [], 0, .r .mv, [.s 5]⟩,
  ⟨some 43, none, [], 0, .r (.bin .gtr), [.s 42, .c (.int .i64 0)]⟩]
def f33r6 : List POp := [
  ⟨some 44, none, [], 0, .r .mv, [.s 0]⟩,
  ⟨some 45, none, [], 0, .r .mv, [.s 5]⟩,
  ⟨some 46, none, [0], 0, .call .f [0] [], [.fn 32, .s 44, .s 45]⟩,
  ⟨some 8, none, [], 0, .r .mv, [.s 46]⟩]
def f33r7 : List POp := [
  ⟨some 47, none, [], 0, .r .mv, [.s 1]⟩,
  ⟨some 48, none, [], 0, .r .mv, [.s 8]⟩,
  ⟨some 49, none, [1], 0, .r (.ixs 4), [.s 47, .s 48]⟩,
  ⟨some 50, none, [1], 0, .r (.fad 0), [.s 49]⟩,
  ⟨some 51, none, [1], 0, .r .ld1, [.s 50]⟩,
  ⟨some 52, none, [152], 152, .a (.bsl 3 1 4 [.int .i64 0] [(0, 1), (1, 1), (2, 1), (3, 1)]), [.c (.int .i64 4), .c (.int .i64 3), .c (.int .i64 8), .c (.int .i64 2)]⟩,
  ⟨some 53, none, [], 0, .r .mv, [.s 0]⟩,
  ⟨some 54, none, [0], 0, .call .f [0] [], [.fn 32, .s 53, .c (.int .i64 4)]⟩,
  ⟨some 55, none, [152], 0, .r (.ixs 1), [.s 52, .s 54]⟩,
  ⟨some 56, none, [152], 0, .r .ld1, [.s 55]⟩,
  ⟨some 57, none, [], 0, .r (.build [.str [], .str [], .str [], .int .i64 0, .int .i64 0, .int .i64 0, .nils, .nils] [(0, 1), (3, 1), (1, 1), (5, 1)]), [.c (.str [111, 102]), .c (.int .i64 1), .s 51, .s 56]⟩,
  ⟨some 9, none, [109], 109, .a (.alloc 96 [.str [], .str [], .str [], .int .i64 0, .int .i64 0, .int .i64 0, .nils, .nils]), []⟩,
  ⟨none, none, [109], 0, .st 8, [.s 9, .z 57 [none, none, none, none, none, none, some 1, some 1]]⟩]
def f33r8 : List POp := [
  ⟨some 58, none, [], 0, .r .mv, [.s 0]⟩,
  ⟨some 59, none, [0], 0, .call .f [0] [], [.fn 32, .s 58, .c (.int .i64 5)]⟩,
  ⟨some 60, none, [], 0, .r (.bin .eql), [.s 59, .c (.int .i64 0)]⟩]
def f33r9 : List POp := [
  ⟨some 61, none, [109], 0, .r (.fad 4), [.s 9]⟩,
  ⟨none, none, [109], 0, .st 1, [.s 61, .c (.int .i64 1)]⟩]
def f33r10 : List POp := [
  ⟨some 62, none, [107], 0, .r (.fad 3), [.s 7]⟩,
  ⟨some 63, none, [107], 0, .r .ld1, [.s 62]⟩,
  ⟨some 64, none, [109], 0, .r (.ldn 8), [.s 9]⟩,
  ⟨some 65, none, [165], 165, .a (.bsl 96 8 1 [.str [], .str [], .str [], .int .i64 0, .int .i64 0, .int .i64 0, .nils, .nils] [(0, 8)]), [.z 64 [none, none, none, none, none, none, some 1, some 1]]⟩,
  ⟨some 66, none, [140, 165, 166], 166, .app 96 8 120, [.s 63, .s 65]⟩,
  ⟨some 67, none, [107], 0, .r (.fad 3), [.s 7]⟩,
  ⟨none, none, [107, 140], 0, .st 1, [.s 67, .z 66 [some 8]]⟩]
def f33r11 : List POp := [
  ⟨some 68, none, [], 0, .r .mv, [.s 1]⟩,
  ⟨some 69, none, [], 0, .r .mv, [.s 8]⟩,
  ⟨some 70, none, [1], 0, .r (.ixs 4), [.s 68, .s 69]⟩,
  ⟨some 71, none, [1], 0, .r (.ldn 4), [.s 70]⟩,
  ⟨some 72, none, [], 0, .call .f [] [], [.fn 64, .z 71 [none, none, none, some 8]]⟩,
  ⟨some 10, none, [], 0, .r .mv, [.s 72]⟩]
def f33r12 : List POp := [
  ⟨some 73, none, [], 0, .r .mv, [.s 10]⟩,
  ⟨some 74, none, [], 0, .r (.bin .geq), [.s 73, .c (.int .i64 0)]⟩,
  ⟨some 75, none, [], 0, .r .mv, [.s 74]⟩,
  ⟨some 76, (some (75, true)), [], 0, .r .mv, [.s 0]⟩,
  ⟨some 77, (some (75, true)), [0], 0, .call .f [0] [], [.fn 32, .s 76, .c (.int .i64 2)]⟩,
  ⟨some 78, (some (75, true)), [], 0, .r (.bin .eql), [.s 77, .c (.int .i64 0)]⟩,
  ⟨some 79, none, [], 0, .r .pick, [.s 75, .s 78, .c (.bool false)]⟩]
def f33r13 : List POp := [
  ⟨some 80, none, [107], 0, .r (.fad 3), [.s 7]⟩,
  ⟨some 81, none, [107], 0, .r .ld1, [.s 80]⟩,
  ⟨some 82, none, [], 0, .r .mv, [.s 1]⟩,
  ⟨some 83, none, [], 0, .r .mv, [.s 8]⟩,
  ⟨some 84, none, [1], 0, .r (.ixs 4), [.s 82, .s 83]⟩,
  ⟨some 85, none, [1], 0, .r (.fad 3), [.s 84]⟩,
  ⟨some 86, none, [1], 0, .r .ld1, [.s 85]⟩,
  ⟨some 87, none, [], 0, .r .mv, [.s 10]⟩,
  ⟨some 88, none, [], 0, .r (.ixs 8), [.s 86, .s 87]⟩,
  ⟨some 89, none, [], 0, .r (.fad 0), [.s 88]⟩,
  ⟨some 90, none, [], 0, .r .ld1, [.s 89]⟩,
  ⟨some 91, none, [], 0, .r (.build [.str [], .str [], .str [], .int .i64 0, .int .i64 0, .int .i64 0, .nils, .nils] [(0, 1), (3, 1), (2, 1), (1, 1)]), [.c (.str [115, 97, 109, 101]), .c (.int .i64 8), .c (.str [111, 102]), .s 90]⟩,
  ⟨some 92, none, [192], 192, .a (.bsl 96 8 1 [.str [], .str [], .str [], .int .i64 0, .int .i64 0, .int .i64 0, .nils, .nils] [(0, 8)]), [.z 91 [none, none, none, none, none, none, some 1, some 1]]⟩,
  ⟨some 93, none, [140, 192, 193], 193, .app 96 8 120, [.s 81, .s 92]⟩,
  ⟨some 94, none, [107], 0, .r (.fad 3), [.s 7]⟩,
  ⟨none, none, [107, 140], 0, .st 1, [.s 94, .z 93 [some 8]]⟩]
def f33r14 : List POp := [
  ⟨some 95, none, [], 0, .r .mv, [.s 1]⟩,
  ⟨some 96, none, [], 0, .r .mv, [.s 8]⟩,
  ⟨some 97, none, [1], 0, .r (.ixs 4), [.s 95, .s 96]⟩,
  ⟨some 98, none, [1], 0, .r (.fad 3), [.s 97]⟩,
  ⟨some 99, none, [1], 0, .r .ld1, [.s 98]⟩,
  ⟨some 100, none, [], 0, .call .f [] [], [.fn 65, .z 99 [some 8], .c (.str [116, 111, 116, 97, 108])]⟩,
  ⟨some 101, none, [], 0, .r (.bin .lss), [.s 100, .c (.int .i64 0)]⟩,
  ⟨some 102, none, [], 0, .r .mv, [.s 101]⟩,
  ⟨some 103, (some (102, true)), [], 0, .r .mv, [.s 0]⟩,
  ⟨some 104, (some (102, true)), [0], 0, .call .f [0] [], [.fn 32, .s 103, .c (.int .i64 3)]⟩,
  ⟨some 105, (some (102, true)), [], 0, .r (.bin .eql), [.s 104, .c (.int .i64 0)]⟩,
  ⟨some 106, none, [], 0, .r .pick, [.s 102, .s 105, .c (.bool false)]⟩]
def f33r15 : List POp := [
  ⟨some 107, none, [], 0, .r .mv, [.s 0]⟩,
  ⟨some 108, none, [0], 0, .call .f [0] [], [.fn 32, .s 107, .c (.int .i64 3)]⟩,
  ⟨some 11, none, [], 0, .r .mv, [.s 108]⟩]
def f33r16 : List POp := [
  ⟨some 109, none, [107], 0, .r (.fad 3), [.s 7]⟩,
  ⟨some 110, none, [107], 0, .r .ld1, [.s 109]⟩,
  ⟨some 111, none, [], 0, .r .mv, [.s 11]⟩,
  ⟨some 112, none, [], 0, .r .mv, [.s 11]⟩,
  ⟨some 113, none, [], 0, .r .mv, [.s 0]⟩,
  ⟨some 114, none, [0], 0, .call .f [0] [], [.fn 32, .s 113, .c (.int .i64 8)]⟩,
  ⟨some 115, none, [], 0, .r (.bin .add), [.s 112, .s 114]⟩,
  ⟨some 116, none, [], 0, .r (.build [.str [], .str [], .str [], .int .i64 0, .int .i64 0, .int .i64 0, .nils, .nils] [(0, 1), (3, 1), (2, 1), (1, 1), (4, 1), (5, 1)]), [.c (.str [112, 97, 114, 116]), .c (.int .i64 7), .c (.str [111, 102]), .c (.str [116, 111, 116, 97, 108]), .s 111, .s 115]⟩,
  ⟨some 117, none, [217], 217, .a (.bsl 96 8 1 [.str [], .str [], .str [], .int .i64 0, .int .i64 0, .int .i64 0, .nils, .nils] [(0, 8)]), [.z 116 [none, none, none, none, none, none, some 1, some 1]]⟩,
  ⟨some 118, none, [140, 217, 218], 218, .app 96 8 120, [.s 110, .s 117]⟩,
  ⟨some 119, none, [107], 0, .r (.fad 3), [.s 7]⟩,
  ⟨none, none, [107, 140], 0, .st 1, [.s 119, .z 118 [some 8]]⟩]
def f33r17 : List POp := [
  ⟨some 120, none, [], 0, .r .mv, [.s 1]⟩,
  ⟨some 121, none, [], 0, .r .mv, [.s 8]⟩,
  ⟨some 122, none, [222], 222, .a (.bsl 96 8 0 [.str [], .str [], .str [], .int .i64 0, .int .i64 0, .int .i64 0, .nils, .nils] []), []⟩,
  ⟨some 123, none, [], 0, .r .mv, [.s 1]⟩,
  ⟨some 124, none, [], 0, .r .mv, [.s 8]⟩,
  ⟨some 125, none, [1], 0, .r (.ixs 4), [.s 123, .s 124]⟩,
  ⟨some 126, none, [1], 0, .r (.fad 3), [.s 125]⟩,
  ⟨some 127, none, [1], 0, .r .ld1, [.s 126]⟩,
  ⟨some 128, none, [222, 228], 228, .app 96 8 120, [.s 122, .s 127]⟩,
  ⟨some 129, none, [107], 0, .r (.fad 0), [.s 7]⟩,
  ⟨some 130, none, [107], 0, .r .ld1, [.s 129]⟩,
  ⟨some 131, none, [], 0, .r (.build [.str [], .str [], .str [], .int .i64 0, .int .i64 0, .int .i64 0, .nils, .nils] [(0, 1), (3, 1), (1, 1)]), [.c (.str [116, 111, 116, 97, 108]), .c (.int .i64 6), .s 130]⟩,
  ⟨some 132, none, [140, 232], 232, .a (.bsl 96 8 1 [.str [], .str [], .str [], .int .i64 0, .int .i64 0, .int .i64 0, .nils, .nils] [(0, 8)]), [.z 131 [none, none, none, none, none, none, some 1, some 1]]⟩,
  ⟨some 133, none, [222, 228, 232, 233], 233, .appz 96 8 120, [.s 128, .s 132]⟩,
  ⟨some 134, none, [1], 0, .r (.ixs 4), [.s 120, .s 121]⟩,
  ⟨some 135, none, [1], 0, .r (.fad 3), [.s 134]⟩,
  ⟨none, none, [1], 0, .st 1, [.s 135, .z 133 [some 8]]⟩]
def f33r18 : List POp := [
  ⟨some 136, none, [], 0, .r .mv, [.s 5]⟩,
  ⟨some 137, none, [], 0, .r (.bin .gtr), [.s 136, .c (.int .i64 1)]⟩,
  ⟨some 138, none, [], 0, .r .mv, [.s 137]⟩,
  ⟨some 139, (some (138, true)), [], 0, .r .mv, [.s 0]⟩,
  ⟨some 140, (some (138, true)), [0], 0, .call .f [0] [], [.fn 32, .s 139, .c (.int .i64 3)]⟩,
  ⟨some 141, (some (138, true)), [], 0, .r (.bin .eql), [.s 140, .c (.int .i64 0)]⟩,
  ⟨some 142, none, [], 0, .r .pick, [.s 138, .s 141, .c (.bool false)]⟩]
def f33r19 : List POp := [
  ⟨some 143, none, [107], 0, .r (.fad 3), [.s 7]⟩,
  ⟨some 144, none, [107], 0, .r .ld1, [.s 143]⟩,
  ⟨some 145, none, [], 0, .r .mv, [.s 1]⟩,
  ⟨some 146, none, [1], 0, .r (.ixs 4), [.s 145, .c (.int .i64 0)]⟩,
  ⟨some 147, none, [1], 0, .r (.fad 0), [.s 146]⟩,
  ⟨some 148, none, [1], 0, .r .ld1, [.s 147]⟩,
  ⟨some 149, none, [], 0, .r (.build [.str [], .str [], .str [], .int .i64 0, .int .i64 0, .int .i64 0, .nils, .nils] [(0, 1), (3, 1), (1, 1), (5, 1)]), [.c (.str [98, 121]), .c (.int .i64 1), .s 148, .c (.int .i64 8)]⟩,
  ⟨some 150, none, [250], 250, .a (.bsl 96 8 1 [.str [], .str [], .str [], .int .i64 0, .int .i64 0, .int .i64 0, .nils, .nils] [(0, 8)]), [.z 149 [none, none, none, none, none, none, some 1, some 1]]⟩,
  ⟨some 151, none, [140, 250, 251], 251, .app 96 8 120, [.s 144, .s 150]⟩,
  ⟨some 152, none, [107], 0, .r (.fad 3), [.s 7]⟩,
  ⟨none, none, [107, 140], 0, .st 1, [.s 152, .z 151 [some 8]]⟩]
def f33r20 : List POp := [
  ⟨some 153, none, [], 0, .r .mv, [.s 0]⟩,
  ⟨some 154, none, [0], 0, .call .f [0] [], [.fn 66, .s 153]⟩,
  ⟨some 12, none, [], 0, .r .mv, [.s 154]⟩]
def f33r21 : List POp := [
  ⟨some 155, none, [107], 0, .r (.fad 3), [.s 7]⟩,
  ⟨some 156, none, [107], 0, .r .ld1, [.s 155]⟩,
  ⟨some 157, none, [], 0, .r .mv, [.s 12]⟩,
  ⟨some 158, none, [140, 258], 258, .app 96 8 120, [.s 156, .s 157]⟩,
  ⟨some 159, none, [107], 0, .r (.fad 3), [.s 7]⟩,
  ⟨none, none, [107, 140], 0, .st 1, [.s 159, .z 158 [some 8]]⟩]
def f33r22 : List POp := [
  ⟨some 160, none, [], 0, .r .mv, [.s 0]⟩,
  ⟨some 161, none, [0], 0, .call .f [0] [], [.fn 32, .s 160, .c (.int .i64 2)]⟩,
  ⟨some 162, none, [], 0, .r (.bin .eql), [.s 161, .c (.int .i64 0)]⟩]
def f33r23 : List POp := [
  ⟨some 163, none, [], 0, .r .mv, [.s 0]⟩,
  ⟨some 164, none, [0], 0, .call .f [0] [], [.fn 66, .s 163]⟩,
  ⟨some 13, none, [], 0, .r .mv, [.s 164]⟩]
def f33r24 : List POp := [
  ⟨some 165, none, [], 0, .r .mv, [.s 13]⟩,
  ⟨some 166, none, [], 0, .r .len, [.s 165]⟩,
  ⟨some 167, none, [], 0, .r (.bin .gtr), [.s 166, .c (.int .i64 0)]⟩,
  ⟨some 168, none, [], 0, .r .mv, [.s 167]⟩,
  ⟨some 169, (some (168, true)), [107], 0, .r (.fad 3), [.s 7]⟩,
  ⟨some 170, (some (168, true)), [107], 0, .r .ld1, [.s 169]⟩,
  ⟨some 171, (some (168, true)), [], 0, .r .mv, [.s 13]⟩,
  ⟨some 172, (some (168, true)), [], 0, .r (.ixs 8), [.s 171, .c (.int .i64 0)]⟩,
  ⟨some 173, (some (168, true)), [], 0, .r (.fad 0), [.s 172]⟩,
  ⟨some 174, (some (168, true)), [], 0, .r .ld1, [.s 173]⟩,
  ⟨some 175, (some (168, true)), [140], 0, .call .f [] [], [.fn 65, .z 170 [some 8], .s 174]⟩,
  ⟨some 176, (some (168, true)), [], 0, .r (.bin .lss), [.s 175, .c (.int .i64 0)]⟩,
  ⟨some 177, none, [], 0, .r .pick, [.s 168, .s 176, .c (.bool false)]⟩]
def f33r25 : List POp := [
  ⟨some 178, none, [107], 0, .r (.fad 3), [.s 7]⟩,
  ⟨some 179, none, [107], 0, .r .ld1, [.s 178]⟩,
  ⟨some 180, none, [], 0, .r .mv, [.s 13]⟩,
  ⟨some 181, none, [140, 281], 281, .app 96 8 120, [.s 179, .s 180]⟩,
  ⟨some 182, none, [107], 0, .r (.fad 3), [.s 7]⟩,
  ⟨none, none, [107, 140], 0, .st 1, [.s 182, .z 181 [some 8]]⟩]
def f33r26 : List POp := [
  ⟨some 183, none, [107], 0, .r (.ldn 4), [.s 7]⟩,
  ⟨none, none, [104, 140], 0, .st 4, [.s 4, .z 183 [none, none, none, some 8]]⟩]
def f33pc : PCode := .seq (.region f33r0 []) (.seq (.region f33r1 []) (.seq (.region f33r2 []) (.seq (.region f33r3 [[], [], [0, 1], [0, 1, 2], [], [], [], [6], [5, 6, 7], [0, 1, 2, 3, 4, 5, 6, 7, 8], [], [0, 1, 2, 3, 4, 5, 6, 7, 8, 9, 10]]) (.seq (.gh (.ownc 107 3 140 96 8) (.region f33r4 [[], [0], [], [], [3], [2, 3, 4], [2, 3, 4, 5], [2, 3, 4, 5, 6], [2, 3, 4, 5, 6, 7], [0, 1, 2, 3, 4, 5, 6, 7, 8], [0, 1, 2, 3, 4, 5, 6, 7, 8, 9], [0, 1, 2, 3, 4, 5, 6, 7, 8, 9, 10]])) (.seq (.seq (.region f33r5 []) (.cond (.s 43) (.seq (.region f33r6 []) (.seq (.region f33r7 [[], [], [0, 1], [0, 1, 2], [0, 1, 2, 3], [], [], [6], [5, 6, 7], [5, 6, 7, 8], [0, 1, 2, 3, 4, 5, 6, 7, 8, 9], [], [0, 1, 2, 3, 4, 5, 6, 7, 8, 9, 10, 11]]) (.seq (.seq (.region f33r8 []) (.cond (.s 60) (.region f33r9 []) (.skip))) (.gh (.fz 140) (.gh (.keep [0, 1, 4, 5, 7, 8, 9] [0, 1, 104, 107, 109, 140]) (.seq (.region f33r10 []) (.seq (.region f33r11 []) (.seq (.seq (.region f33r12 []) (.cond (.s 79) (.region f33r13 [[], [0], [], [], [2, 3], [2, 3, 4], [2, 3, 4, 5], [], [2, 3, 4, 5, 6, 7], [2, 3, 4, 5, 6, 7, 8], [2, 3, 4, 5, 6, 7, 8, 9], [2, 3, 4, 5, 6, 7, 8, 9, 10], [2, 3, 4, 5, 6, 7, 8, 9, 10, 11], [0, 1, 2, 3, 4, 5, 6, 7, 8, 9, 10, 11, 12], [0, 1, 2, 3, 4, 5, 6, 7, 8, 9, 10, 11, 12, 13], [0, 1, 2, 3, 4, 5, 6, 7, 8, 9, 10, 11, 12, 13, 14]]) (.skip))) (.gh (.fz 140) (.gh (.keep [0, 1, 4, 5, 7, 8] [0, 1, 104, 107, 140]) (.seq (.region f33r14 []) (.cond (.s 106) (.seq (.region f33r15 []) (.seq (.region f33r16 [[], [0], [], [], [], [4], [3, 4, 5], [2, 3, 4, 5, 6], [2, 3, 4, 5, 6, 7], [0, 1, 2, 3, 4, 5, 6, 7, 8], [0, 1, 2, 3, 4, 5, 6, 7, 8, 9], [0, 1, 2, 3, 4, 5, 6, 7, 8, 9, 10]]) (.region f33r17 [[], [], [], [], [], [3, 4], [3, 4, 5], [3, 4, 5, 6], [2, 3, 4, 5, 6, 7], [], [9], [9, 10], [9, 10, 11], [2, 3, 4, 5, 6, 7, 8, 9, 10, 11, 12], [0, 1, 2, 3, 4, 5, 6, 7, 8, 9, 10, 11, 12, 13], [0, 1, 2, 3, 4, 5, 6, 7, 8, 9, 10, 11, 12, 13, 14], [0, 1, 2, 3, 4, 5, 6, 7, 8, 9, 10, 11, 12, 13, 14, 15]]))) (.skip))))))))))))) (.skip))) (.gh (.fz 140) (.gh (.keep [0, 1, 4, 5, 7] [0, 1, 104, 107, 140]) (.seq (.seq (.region f33r18 []) (.cond (.s 142) (.region f33r19 [[], [0], [], [2], [2, 3], [2, 3, 4], [2, 3, 4, 5], [2, 3, 4, 5, 6], [0, 1, 2, 3, 4, 5, 6, 7], [0, 1, 2, 3, 4, 5, 6, 7, 8], [0, 1, 2, 3, 4, 5, 6, 7, 8, 9]]) (.skip))) (.gh (.fz 140) (.gh (.keep [0, 4, 7] [0, 1, 104, 107, 140]) (.seq (.region f33r20 []) (.seq (.region f33r21 []) (.seq (.seq (.region f33r22 []) (.cond (.s 162) (.seq (.region f33r23 []) (.seq (.gh (.fz 140) (.region f33r24 [[], [0], [0, 1], [0, 1, 2], [0, 1, 2, 3], [0, 1, 2, 3, 4], [0, 1, 2, 3], [0, 1, 2, 3, 6], [0, 1, 2, 3, 6, 7], [0, 1, 2, 3, 6, 7, 8], [0, 1, 2, 3, 4, 5, 6, 7, 8, 9], [0, 1, 2, 3, 4, 5, 6, 7, 8, 9, 10], [0, 1, 2, 3, 4, 5, 6, 7, 8, 9, 10, 11]])) (.cond (.s 177) (.region f33r25 []) (.skip)))) (.skip))) (.gh (.fz 140) (.gh (.keep [4, 7] [0, 1, 104, 107, 140]) (.seq (.region f33r26 []) (.gh (.fz 140) (.ret))))))))))))))))))
def f33rs : List RArg := [.cn 4 4 [none, none, none, some 8] [104, 140]]
end Go.Absw

/- Generated: the abstract texts of functions 9. -/
namespace Go.Absw
/- diorama/dioramaref09.Schema : params [22] results [27] tmps 119 resvars [('cell', 2, 27)] -/
def f9r0 : List POp := [
  ⟨some 2, none, [102], 102, .a (.alloc 27 [.int .i64 0, .nils, .nils, .nils]), []⟩]
def f9r1 : List POp := [
  ⟨some 13, none, [], 0, .r .mv, [.s 0]⟩,
  ⟨some 14, none, [], 0, .r .mv, [.s 0]⟩,
  ⟨some 15, none, [], 0, .r .len, [.s 14]⟩,
  ⟨some 16, none, [], 0, .r .min, [.s 15, .c (.int .i64 200)]⟩,
  ⟨some 17, none, [], 0, .r (.slc 1 false true), [.s 13, .s 16]⟩,
  ⟨some 18, none, [], 0, .r (.build [.nils, .int .i64 0] [(0, 1)]), [.s 17]⟩,
  ⟨some 19, none, [119], 119, .a (.box 83 2), [.s 18]⟩,
  ⟨some 3, none, [], 0, .r .mv, [.s 19]⟩]
def f9r2 : List POp := [
  ⟨some 20, none, [], 0, .r .mv, [.s 3]⟩,
  ⟨some 21, none, [119], 0, .call .f [119] [], [.fn 32, .s 20, .c (.int .i64 4)]⟩,
  ⟨some 22, none, [], 0, .r (.build [.int .i64 0, .nils, .nils, .nils] [(0, 1)]), [.s 21]⟩,
  ⟨some 4, none, [104], 104, .a (.alloc 27 [.int .i64 0, .nils, .nils, .nils]), []⟩,
  ⟨none, none, [104], 0, .st 4, [.s 4, .s 22]⟩]
def f9r3 : List POp := [
  ⟨some 23, none, [], 0, .r .mv, [.s 3]⟩,
  ⟨some 24, none, [119], 0, .call .f [119] [], [.fn 32, .s 23, .c (.int .i64 3)]⟩,
  ⟨some 25, none, [], 0, .r (.bin .add), [.c (.int .i64 1), .s 24]⟩,
  ⟨some 5, none, [], 0, .r .mv, [.s 25]⟩]
def f9r4 : List POp := [
  ⟨some 6, none, [], 0, .r .mv, [.c (.int .i64 0)]⟩]
def f9r5 : List POp := [
  ⟨some 26, none, [], 0, .r .mv, [.s 6]⟩,
  ⟨some 27, none, [], 0, .r .mv, [.s 5]⟩,
  ⟨some 28, none, [], 0, .r (.bin .lss), [.s 26, .s 27]⟩]
def f9r7 : List POp := [
  ⟨some 31, none, [104], 0, .r (.fad 1), [.s 4]⟩,
  ⟨some 32, none, [104], 0, .r .ld1, [.s 31]⟩,
  ⟨some 33, none, [], 0, .r .mv, [.s 3]⟩,
  ⟨some 34, none, [104], 0, .r (.fad 1), [.s 4]⟩,
  ⟨some 35, none, [104], 0, .r .ld1, [.s 34]⟩,
  ⟨some 36, none, [119, 138, 188, 216], 0, .call .f [119, 138] [], [.fn 33, .s 33, .s 35]⟩,
  ⟨some 37, none, [137], 137, .a (.bsl 56 4 1 [.str [], .int .i64 0, .int .i64 0, .nils] [(0, 4)]), [.z 36 [none, none, none, some 8]]⟩,
  ⟨some 38, none, [137, 138, 188, 216], 138, .app 56 4 56, [.s 32, .s 37]⟩,
  ⟨some 39, none, [104], 0, .r (.fad 1), [.s 4]⟩,
  ⟨none, none, [104, 138, 188, 216], 0, .st 1, [.s 39, .z 38 [some 4]]⟩]
def f9r6 : List POp := [
  ⟨some 29, none, [], 0, .r .mv, [.s 6]⟩,
  ⟨some 30, none, [], 0, .r (.bin .add), [.s 29, .c (.int .i64 1)]⟩,
  ⟨some 6, none, [], 0, .r .mv, [.s 30]⟩]
def f9l0 : PCode := .gh (.keep [2, 3, 4, 5, 6] [102, 104, 119, 138, 188, 216]) (.seq (.seq (.region f9r5 []) (.cond (.s 28) (.skip) (.exit 0))) (.seq (.block 1 (.region f9r7 [[], [0], [], [], [3], [2, 3, 4], [2, 3, 4, 5], [0, 1, 2, 3, 4, 5, 6], [0, 1, 2, 3, 4, 5, 6, 7], [0, 1, 2, 3, 4, 5, 6, 7, 8]])) (.region f9r6 [])))
/- f9l0: slots [2, 3, 4, 5, 6], tokens [102, 104, 119, 138, 188, 216] -/
def f9r8 : List POp := [
  ⟨some 40, none, [140], 140, .a (.bsl 9 1 4 [.str []] [(0, 1), (1, 1), (2, 1), (3, 1)]), [.c (.str [110, 101, 119]), .c (.str [111, 112, 101, 110]), .c (.str [100, 111, 110, 101]), .c (.str [115, 104, 117, 116])]⟩,
  ⟨some 41, none, [], 0, .r .mv, [.s 3]⟩,
  ⟨some 42, none, [119], 0, .call .f [119] [], [.fn 32, .s 41, .c (.int .i64 3)]⟩,
  ⟨some 43, none, [], 0, .r (.bin .add), [.c (.int .i64 2), .s 42]⟩,
  ⟨some 44, none, [140], 0, .r (.slc 1 false true), [.s 40, .s 43]⟩,
  ⟨some 7, none, [], 0, .r .mv, [.s 44]⟩]
def f9r9 : List POp := [
  ⟨some 45, none, [], 0, .r .mv, [.s 7]⟩,
  ⟨some 46, none, [], 0, .r (.build [.str [], .nils, .nils] [(0, 1), (1, 1)]), [.c (.str [108, 105, 102, 101]), .s 45]⟩,
  ⟨some 8, none, [108], 108, .a (.alloc 88 [.str [], .nils, .nils]), []⟩,
  ⟨none, none, [108, 140], 0, .st 3, [.s 8, .z 46 [none, some 1, none]]⟩]
def f9r10 : List POp := [
  ⟨some 9, none, [], 0, .r .mv, [.c (.int .i64 0)]⟩]
def f9r11 : List POp := [
  ⟨some 47, none, [], 0, .r .mv, [.s 9]⟩,
  ⟨some 48, none, [], 0, .r (.bin .add), [.s 47, .c (.int .i64 1)]⟩,
  ⟨some 49, none, [], 0, .r .mv, [.s 7]⟩,
  ⟨some 50, none, [140], 0, .r .len, [.s 49]⟩,
  ⟨some 51, none, [], 0, .r (.bin .lss), [.s 48, .s 50]⟩]
def f9r13 : List POp := [
  ⟨some 54, none, [108], 0, .r (.fad 2), [.s 8]⟩,
  ⟨some 55, none, [108], 0, .r .ld1, [.s 54]⟩,
  ⟨some 56, none, [], 0, .r .mv, [.s 9]⟩,
  ⟨some 57, none, [], 0, .r .mv, [.s 9]⟩,
  ⟨some 58, none, [], 0, .r (.bin .add), [.s 57, .c (.int .i64 1)]⟩,
  ⟨some 59, none, [], 0, .r (.build [.int .i64 0, .int .i64 0] [(0, 1), (1, 1)]), [.s 56, .s 58]⟩,
  ⟨some 60, none, [160], 160, .a (.bsl 89 2 1 [.int .i64 0, .int .i64 0] [(0, 2)]), [.s 59]⟩,
  ⟨some 61, none, [140, 160, 161], 161, .app 89 2 16, [.s 55, .s 60]⟩,
  ⟨some 62, none, [108], 0, .r (.fad 2), [.s 8]⟩,
  ⟨none, none, [108, 140, 161], 0, .st 1, [.s 62, .z 61 [some 2]]⟩]
def f9r12 : List POp := [
  ⟨some 52, none, [], 0, .r .mv, [.s 9]⟩,
  ⟨some 53, none, [], 0, .r (.bin .add), [.s 52, .c (.int .i64 1)]⟩,
  ⟨some 9, none, [], 0, .r .mv, [.s 53]⟩]
def f9l1 : PCode := .gh (.keep [2, 3, 4, 5, 7, 8, 9] [102, 104, 108, 119, 138, 140, 161, 188, 216]) (.seq (.seq (.region f9r11 []) (.cond (.s 51) (.skip) (.exit 2))) (.seq (.block 3 (.region f9r13 [])) (.region f9r12 [])))
/- f9l1: slots [2, 3, 4, 5, 7, 8, 9], tokens [102, 104, 108, 119, 138, 140, 161, 188, 216] -/
def f9r14 : List POp := [
  ⟨some 63, none, [], 0, .r .mv, [.s 3]⟩,
  ⟨some 64, none, [119], 0, .call .f [119] [], [.fn 32, .s 63, .c (.int .i64 2)]⟩,
  ⟨some 65, none, [], 0, .r (.bin .eql), [.s 64, .c (.int .i64 0)]⟩]
def f9r15 : List POp := [
  ⟨some 66, none, [108], 0, .r (.fad 2), [.s 8]⟩,
  ⟨some 67, none, [108], 0, .r .ld1, [.s 66]⟩,
  ⟨some 68, none, [], 0, .r (.build [.int .i64 0, .int .i64 0] [(0, 1), (1, 1)]), [.c (.int .i64 1), .c (.int .i64 0)]⟩,
  ⟨some 69, none, [169], 169, .a (.bsl 89 2 1 [.int .i64 0, .int .i64 0] [(0, 2)]), [.s 68]⟩,
  ⟨some 70, none, [140, 161, 169, 170], 170, .app 89 2 16, [.s 67, .s 69]⟩,
  ⟨some 71, none, [108], 0, .r (.fad 2), [.s 8]⟩,
  ⟨none, none, [108, 140, 161], 0, .st 1, [.s 71, .z 70 [some 2]]⟩]
def f9r16 : List POp := [
  ⟨some 72, none, [], 0, .r .mv, [.s 3]⟩,
  ⟨some 73, none, [119], 0, .call .f [119] [], [.fn 32, .s 72, .c (.int .i64 3)]⟩,
  ⟨some 74, none, [], 0, .r (.bin .eql), [.s 73, .c (.int .i64 0)]⟩]
def f9r17 : List POp := [
  ⟨some 75, none, [108], 0, .r (.fad 2), [.s 8]⟩,
  ⟨some 76, none, [108], 0, .r .ld1, [.s 75]⟩,
  ⟨some 77, none, [], 0, .r .mv, [.s 7]⟩,
  ⟨some 78, none, [140], 0, .r .len, [.s 77]⟩,
  ⟨some 79, none, [], 0, .r (.bin .sub), [.s 78, .c (.int .i64 1)]⟩,
  ⟨some 80, none, [], 0, .r (.build [.int .i64 0, .int .i64 0] [(0, 1), (1, 1)]), [.c (.int .i64 0), .s 79]⟩,
  ⟨some 81, none, [181], 181, .a (.bsl 89 2 1 [.int .i64 0, .int .i64 0] [(0, 2)]), [.s 80]⟩,
  ⟨some 82, none, [140, 161, 181, 182], 182, .app 89 2 16, [.s 76, .s 81]⟩,
  ⟨some 83, none, [108], 0, .r (.fad 2), [.s 8]⟩,
  ⟨none, none, [108, 140, 161], 0, .st 1, [.s 83, .z 82 [some 2]]⟩]
def f9r18 : List POp := [
  ⟨some 84, none, [104], 0, .r (.fad 2), [.s 4]⟩,
  ⟨some 85, none, [104], 0, .r .ld1, [.s 84]⟩,
  ⟨some 86, none, [108], 0, .r (.ldn 3), [.s 8]⟩,
  ⟨some 87, none, [140, 161, 187], 187, .a (.bsl 88 3 1 [.str [], .nils, .nils] [(0, 3)]), [.z 86 [none, some 1, some 2]]⟩,
  ⟨some 88, none, [138, 187, 188, 216], 188, .app 88 3 64, [.s 85, .s 87]⟩,
  ⟨some 89, none, [104], 0, .r (.fad 2), [.s 4]⟩,
  ⟨none, none, [104, 138, 188, 216], 0, .st 1, [.s 89, .z 88 [some 3]]⟩]
def f9r19 : List POp := [
  ⟨some 10, none, [], 0, .r .mv, [.c (.int .i64 0)]⟩]
def f9r20 : List POp := [
  ⟨some 90, none, [], 0, .r .mv, [.s 10]⟩,
  ⟨some 91, none, [], 0, .r .mv, [.s 5]⟩,
  ⟨some 92, none, [], 0, .r (.bin .lss), [.s 90, .s 91]⟩,
  ⟨some 93, none, [], 0, .r .mv, [.s 92]⟩,
  ⟨some 94, (some (93, true)), [104], 0, .r (.fad 3), [.s 4]⟩,
  ⟨some 95, (some (93, true)), [104], 0, .r .ld1, [.s 94]⟩,
  ⟨some 96, (some (93, true)), [138, 188, 216], 0, .r .len, [.s 95]⟩,
  ⟨some 97, (some (93, true)), [], 0, .r (.bin .lss), [.s 96, .c (.int .i64 2)]⟩,
  ⟨some 98, none, [], 0, .r .pick, [.s 93, .s 97, .c (.bool false)]⟩]
def f9r22 : List POp := [
  ⟨some 102, none, [], 0, .r .mv, [.s 3]⟩,
  ⟨some 103, none, [104], 0, .r (.fad 1), [.s 4]⟩,
  ⟨some 104, none, [104], 0, .r .ld1, [.s 103]⟩,
  ⟨some 105, none, [], 0, .r .mv, [.s 10]⟩,
  ⟨some 106, none, [138, 188, 216], 0, .r (.ixs 4), [.s 104, .s 105]⟩,
  ⟨some 107, none, [138, 188, 216], 0, .r (.ldn 4), [.s 106]⟩,
  ⟨some 108, none, [119], 0, .call .f [119] [], [.fn 34, .s 102, .z 107 [none, none, none, some 8]]⟩,
  ⟨some 101, none, [], 0, .r .mv, [.s 108]⟩,
  ⟨some 109, none, [], 0, .r (.ext 0), [.s 101]⟩,
  ⟨some 110, none, [], 0, .r (.ext 1), [.s 101]⟩,
  ⟨some 11, none, [111], 111, .a (.alloc 91 [.str [], .str [], .str [], .str [], .int .i64 0]), []⟩,
  ⟨none, none, [111], 0, .st 5, [.s 11, .s 109]⟩,
  ⟨some 12, none, [], 0, .r .mv, [.s 110]⟩]
def f9r23 : List POp := [
  ⟨some 111, none, [], 0, .r .mv, [.s 12]⟩]
def f9r24 : List POp := [
  ⟨some 112, none, [104], 0, .r (.fad 3), [.s 4]⟩,
  ⟨some 113, none, [104], 0, .r .ld1, [.s 112]⟩,
  ⟨some 114, none, [111], 0, .r (.ldn 5), [.s 11]⟩,
  ⟨some 115, none, [215], 215, .a (.bsl 91 5 1 [.str [], .str [], .str [], .str [], .int .i64 0] [(0, 5)]), [.s 114]⟩,
  ⟨some 116, none, [138, 188, 215, 216], 216, .app 91 5 72, [.s 113, .s 115]⟩,
  ⟨some 117, none, [104], 0, .r (.fad 3), [.s 4]⟩,
  ⟨none, none, [104, 138, 188, 216], 0, .st 1, [.s 117, .z 116 [some 5]]⟩]
def f9r21 : List POp := [
  ⟨some 99, none, [], 0, .r .mv, [.s 10]⟩,
  ⟨some 100, none, [], 0, .r (.bin .add), [.s 99, .c (.int .i64 1)]⟩,
  ⟨some 10, none, [], 0, .r .mv, [.s 100]⟩]
def f9l2 : PCode := .gh (.keep [2, 3, 4, 5, 10] [102, 104, 119, 138, 188, 216]) (.seq (.seq (.region f9r20 []) (.cond (.s 98) (.skip) (.exit 4))) (.seq (.block 5 (.seq (.region f9r22 []) (.seq (.region f9r23 []) (.cond (.s 111) (.region f9r24 []) (.skip))))) (.region f9r21 [])))
/- f9l2: slots [2, 3, 4, 5, 10], tokens [102, 104, 119, 138, 188, 216] -/
def f9r25 : List POp := [
  ⟨some 118, none, [104], 0, .r (.ldn 4), [.s 4]⟩,
  ⟨none, none, [102, 138, 188, 216], 0, .st 4, [.s 2, .z 118 [none, some 4, some 3, some 5]]⟩]
def f9pc : PCode := .seq (.region f9r0 []) (.seq (.region f9r1 []) (.seq (.region f9r2 []) (.seq (.gh (.ownc 104 1 138 56 4) (.gh (.ownc 104 2 188 88 3) (.gh (.ownc 104 3 216 91 5) (.region f9r3 [])))) (.seq (.seq (.region f9r4 []) (.block 0 (.loop f9l0))) (.seq (.region f9r8 []) (.seq (.gh (.fz 140) (.region f9r9 [])) (.seq (.seq (.gh (.ownc 108 2 161 89 2) (.region f9r10 [])) (.block 2 (.loop f9l1))) (.seq (.seq (.region f9r14 []) (.cond (.s 65) (.region f9r15 []) (.skip))) (.gh (.keep [2, 3, 4, 5, 7, 8] [102, 104, 108, 119, 138, 140, 161, 188, 216]) (.seq (.seq (.region f9r16 []) (.cond (.s 74) (.region f9r17 []) (.skip))) (.gh (.keep [2, 3, 4, 5, 8] [102, 104, 108, 119, 138, 140, 161, 188, 216]) (.seq (.gh (.fz 140) (.gh (.fz 161) (.region f9r18 []))) (.seq (.seq (.region f9r19 []) (.block 4 (.loop f9l2))) (.seq (.region f9r25 []) (.gh (.fz 138) (.gh (.fz 188) (.gh (.fz 216) (.ret))))))))))))))))))
def f9rs : List RArg := [.cn 2 4 [none, some 4, some 3, some 5] [102, 138, 188, 216]]
end Go.Absw
