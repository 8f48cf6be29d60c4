/- Generated: the abstract texts of functions, third part. Conditions: none. -/
import Derived.Test.YtpkhdnaeaeiidaaDoorKc
set_option linter.unusedSimpArgs false
set_option linter.unusedVariables false

/- Generated: the abstract texts of functions 4. -/
namespace Go.Absw
/- diorama/dioramalaw29.VmSteps : params [22, 22, 22, 3] results [4] tmps 119 resvars [('tmp', 8)] -/
def f4r0 : List POp := [
  ⟨some 8, none, [], 0, .r .mv, [.c (.bool false)]⟩]
def f4r1 : List POp := [
  ⟨some 20, none, [], 0, .r .mv, [.s 0]⟩,
  ⟨some 21, none, [], 0, .call .f [] [], [.fn 9, .z 20 [some 1]]⟩,
  ⟨some 9, none, [109], 109, .a (.alloc 27 [.int .i64 0, .nils, .nils, .nils]), []⟩,
  ⟨none, none, [109], 0, .st 4, [.s 9, .z 21 [none, some 4, some 3, some 5]]⟩]
def f4r2 : List POp := [
  ⟨some 22, none, [109], 0, .r (.ldn 4), [.s 9]⟩,
  ⟨some 23, none, [], 0, .r .mv, [.s 2]⟩,
  ⟨some 24, none, [], 0, .call .f [] [], [.fn 10, .z 22 [none, some 4, some 3, some 5], .z 23 [some 1], .c (.bool false)]⟩,
  ⟨some 25, none, [], 0, .r (.build [.nils] [(0, 1)]), [.s 24]⟩,
  ⟨some 10, none, [110], 110, .a (.alloc 46 [.nils]), []⟩,
  ⟨none, none, [110], 0, .st 1, [.s 10, .z 25 [some 1]]⟩]
def f4r3 : List POp := [
  ⟨some 26, none, [109], 0, .r (.ldn 4), [.s 9]⟩,
  ⟨some 27, none, [], 0, .r .mv, [.s 1]⟩,
  ⟨some 28, none, [], 0, .call .f [] [], [.fn 11, .z 26 [none, some 4, some 3, some 5], .z 27 [some 1]]⟩,
  ⟨some 29, none, [], 0, .call .f [] [], [.fn 15, .z 28 [some 4]]⟩,
  ⟨some 11, none, [], 0, .r .mv, [.s 29]⟩]
def f4r4 : List POp := [
  ⟨some 31, none, [109], 0, .r (.ldn 4), [.s 9]⟩,
  ⟨some 32, none, [], 0, .r .mv, [.s 11]⟩,
  ⟨some 33, none, [110], 0, .r (.ldn 1), [.s 10]⟩,
  ⟨some 34, none, [], 0, .r (.mki 46), [.z 33 [some 1]]⟩,
  ⟨some 35, none, [], 0, .call .f [] [], [.fn 14, .z 31 [none, some 4, some 3, some 5], .z 32 [some 4], .s 34, .c (.int .i64 400)]⟩,
  ⟨some 30, none, [], 0, .r .mv, [.s 35]⟩,
  ⟨some 36, none, [], 0, .r (.ext 0), [.s 30]⟩,
  ⟨some 37, none, [], 0, .r (.ext 1), [.s 30]⟩,
  ⟨some 12, none, [112], 112, .a (.alloc 38 [.int .i64 0, .int .i64 0]), []⟩,
  ⟨none, none, [112], 0, .st 2, [.s 12, .s 36]⟩,
  ⟨some 13, none, [], 0, .r .mv, [.s 37]⟩]
def f4r5 : List POp := [
  ⟨some 38, none, [], 0, .r .mv, [.s 13]⟩,
  ⟨some 39, none, [], 0, .r (.bin .neq), [.s 38, .c (.int .i64 0)]⟩]
def f4r6 : List POp := [
  ⟨some 40, none, [], 0, .r .mv, [.s 13]⟩,
  ⟨some 41, none, [], 0, .r (.bin .eql), [.s 40, .c (.int .i64 23)]⟩,
  ⟨some 42, none, [], 0, .r .mv, [.s 41]⟩,
  ⟨some 43, (some (42, true)), [], 0, .call .f [] [], [.fn 17]⟩,
  ⟨some 44, none, [], 0, .r .pick, [.s 42, .s 43, .c (.bool false)]⟩,
  ⟨some 8, none, [], 0, .r .mv, [.s 44]⟩]
def f4r7 : List POp := [
  ⟨some 46, none, [109], 0, .r (.ldn 4), [.s 9]⟩,
  ⟨some 47, none, [], 0, .r .mv, [.s 11]⟩,
  ⟨some 48, none, [110], 0, .r (.ldn 1), [.s 10]⟩,
  ⟨some 49, none, [], 0, .r (.mki 46), [.z 48 [some 1]]⟩,
  ⟨some 50, none, [], 0, .r .mv, [.s 3]⟩,
  ⟨some 51, none, [], 0, .call .f [] [], [.fn 13, .s 50, .c (.int .i64 999600)]⟩,
  ⟨some 52, none, [], 0, .r (.bin .add), [.c (.int .i64 400), .s 51]⟩,
  ⟨some 53, none, [], 0, .call .f [] [], [.fn 14, .z 46 [none, some 4, some 3, some 5], .z 47 [some 4], .s 49, .s 52]⟩,
  ⟨some 45, none, [], 0, .r .mv, [.s 53]⟩,
  ⟨some 54, none, [], 0, .r (.ext 0), [.s 45]⟩,
  ⟨some 55, none, [], 0, .r (.ext 1), [.s 45]⟩,
  ⟨some 14, none, [114], 114, .a (.alloc 38 [.int .i64 0, .int .i64 0]), []⟩,
  ⟨none, none, [114], 0, .st 2, [.s 14, .s 54]⟩,
  ⟨some 15, none, [], 0, .r .mv, [.s 55]⟩]
def f4r8 : List POp := [
  ⟨some 57, none, [109], 0, .r (.ldn 4), [.s 9]⟩,
  ⟨some 58, none, [], 0, .r .mv, [.s 11]⟩,
  ⟨some 59, none, [110], 0, .r (.ldn 1), [.s 10]⟩,
  ⟨some 60, none, [], 0, .r (.mki 46), [.z 59 [some 1]]⟩,
  ⟨some 61, none, [112], 0, .r (.fad 1), [.s 12]⟩,
  ⟨some 62, none, [112], 0, .r .ld1, [.s 61]⟩,
  ⟨some 63, none, [], 0, .r .max, [.s 62, .c (.int .i64 0)]⟩,
  ⟨some 64, none, [], 0, .call .f [] [], [.fn 14, .z 57 [none, some 4, some 3, some 5], .z 58 [some 4], .s 60, .s 63]⟩,
  ⟨some 56, none, [], 0, .r .mv, [.s 64]⟩,
  ⟨some 65, none, [], 0, .r (.ext 0), [.s 56]⟩,
  ⟨some 66, none, [], 0, .r (.ext 1), [.s 56]⟩,
  ⟨some 16, none, [116], 116, .a (.alloc 38 [.int .i64 0, .int .i64 0]), []⟩,
  ⟨none, none, [116], 0, .st 2, [.s 16, .s 65]⟩,
  ⟨some 17, none, [], 0, .r .mv, [.s 66]⟩]
def f4r9 : List POp := [
  ⟨some 67, none, [], 0, .r .mv, [.s 15]⟩,
  ⟨some 68, none, [], 0, .r (.bin .neq), [.s 67, .c (.int .i64 0)]⟩,
  ⟨some 69, none, [], 0, .r .mv, [.s 68]⟩,
  ⟨some 70, (some (69, false)), [], 0, .r .mv, [.s 17]⟩,
  ⟨some 71, (some (69, false)), [], 0, .r (.bin .neq), [.s 70, .c (.int .i64 0)]⟩,
  ⟨some 72, none, [], 0, .r .pick, [.s 69, .c (.bool true), .s 71]⟩,
  ⟨some 73, none, [], 0, .r .mv, [.s 72]⟩,
  ⟨some 74, (some (73, false)), [112], 0, .r (.ldn 2), [.s 12]⟩,
  ⟨some 75, (some (73, false)), [114], 0, .r (.ldn 2), [.s 14]⟩,
  ⟨some 76, (some (73, false)), [], 0, .r (.eqs true [0, 0]), [.s 74, .s 75]⟩,
  ⟨some 77, none, [], 0, .r .pick, [.s 73, .c (.bool true), .s 76]⟩,
  ⟨some 78, none, [], 0, .r .mv, [.s 77]⟩,
  ⟨some 79, (some (78, false)), [112], 0, .r (.ldn 2), [.s 12]⟩,
  ⟨some 80, (some (78, false)), [116], 0, .r (.ldn 2), [.s 16]⟩,
  ⟨some 81, (some (78, false)), [], 0, .r (.eqs true [0, 0]), [.s 79, .s 80]⟩,
  ⟨some 82, none, [], 0, .r .pick, [.s 78, .c (.bool true), .s 81]⟩,
  ⟨some 83, none, [], 0, .r .mv, [.s 82]⟩,
  ⟨some 84, (some (83, false)), [112], 0, .r (.fad 1), [.s 12]⟩,
  ⟨some 85, (some (83, false)), [112], 0, .r .ld1, [.s 84]⟩,
  ⟨some 86, (some (83, false)), [], 0, .r (.bin .lss), [.s 85, .c (.int .i64 0)]⟩,
  ⟨some 87, none, [], 0, .r .pick, [.s 83, .c (.bool true), .s 86]⟩,
  ⟨some 88, none, [], 0, .r .mv, [.s 87]⟩,
  ⟨some 89, (some (88, false)), [112], 0, .r (.fad 1), [.s 12]⟩,
  ⟨some 90, (some (88, false)), [112], 0, .r .ld1, [.s 89]⟩,
  ⟨some 91, (some (88, false)), [], 0, .r (.bin .gtr), [.s 90, .c (.int .i64 400)]⟩,
  ⟨some 92, none, [], 0, .r .pick, [.s 88, .c (.bool true), .s 91]⟩]
def f4r10 : List POp := [
  ⟨some 8, none, [], 0, .r .mv, [.c (.bool false)]⟩]
def f4r11 : List POp := [
  ⟨some 93, none, [112], 0, .r (.fad 1), [.s 12]⟩,
  ⟨some 94, none, [112], 0, .r .ld1, [.s 93]⟩,
  ⟨some 95, none, [], 0, .r (.bin .eql), [.s 94, .c (.int .i64 0)]⟩]
def f4r12 : List POp := [
  ⟨some 96, none, [], 0, .r .mv, [.s 11]⟩,
  ⟨some 97, none, [], 0, .r .len, [.s 96]⟩,
  ⟨some 98, none, [], 0, .r (.bin .eql), [.s 97, .c (.int .i64 0)]⟩,
  ⟨some 99, none, [], 0, .r .mv, [.s 98]⟩,
  ⟨some 100, (some (99, true)), [], 0, .call .f [] [], [.fn 17]⟩,
  ⟨some 101, none, [], 0, .r .pick, [.s 99, .s 100, .c (.bool false)]⟩,
  ⟨some 8, none, [], 0, .r .mv, [.s 101]⟩]
def f4r13 : List POp := [
  ⟨some 103, none, [109], 0, .r (.ldn 4), [.s 9]⟩,
  ⟨some 104, none, [], 0, .r .mv, [.s 11]⟩,
  ⟨some 105, none, [110], 0, .r (.ldn 1), [.s 10]⟩,
  ⟨some 106, none, [], 0, .r (.mki 46), [.z 105 [some 1]]⟩,
  ⟨some 107, none, [], 0, .r .mv, [.s 3]⟩,
  ⟨some 108, none, [112], 0, .r (.fad 1), [.s 12]⟩,
  ⟨some 109, none, [112], 0, .r .ld1, [.s 108]⟩,
  ⟨some 110, none, [], 0, .call .f [] [], [.fn 13, .s 107, .s 109]⟩,
  ⟨some 111, none, [], 0, .call .f [] [], [.fn 14, .z 103 [none, some 4, some 3, some 5], .z 104 [some 4], .s 106, .s 110]⟩,
  ⟨some 102, none, [], 0, .r .mv, [.s 111]⟩,
  ⟨some 112, none, [], 0, .r (.ext 0), [.s 102]⟩,
  ⟨some 113, none, [], 0, .r (.ext 1), [.s 102]⟩,
  ⟨some 18, none, [118], 118, .a (.alloc 38 [.int .i64 0, .int .i64 0]), []⟩,
  ⟨none, none, [118], 0, .st 2, [.s 18, .s 112]⟩,
  ⟨some 19, none, [], 0, .r .mv, [.s 113]⟩]
def f4r14 : List POp := [
  ⟨some 114, none, [], 0, .r .mv, [.s 19]⟩,
  ⟨some 115, none, [], 0, .r (.bin .eql), [.s 114, .c (.int .i64 23)]⟩,
  ⟨some 116, none, [], 0, .r .mv, [.s 115]⟩,
  ⟨some 117, (some (116, true)), [], 0, .call .f [] [], [.fn 17]⟩,
  ⟨some 118, none, [], 0, .r .pick, [.s 116, .s 117, .c (.bool false)]⟩,
  ⟨some 8, none, [], 0, .r .mv, [.s 118]⟩]
def f4pc : PCode := .seq (.region f4r0 []) (.seq (.region f4r1 []) (.seq (.region f4r2 []) (.seq (.region f4r3 []) (.seq (.region f4r4 []) (.seq (.seq (.region f4r5 []) (.cond (.s 39) (.seq (.region f4r6 []) (.ret)) (.skip))) (.seq (.region f4r7 [[], [], [], [2], [], [4], [4, 5], [0, 1, 2, 3, 4, 5, 6], [0, 1, 2, 3, 4, 5, 6, 7], [0, 1, 2, 3, 4, 5, 6, 7, 8], [0, 1, 2, 3, 4, 5, 6, 7, 8], [], [0, 1, 2, 3, 4, 5, 6, 7, 8, 9, 11], [0, 1, 2, 3, 4, 5, 6, 7, 8, 9, 10, 11, 12]]) (.seq (.region f4r8 []) (.seq (.seq (.region f4r9 []) (.cond (.s 92) (.seq (.region f4r10 []) (.ret)) (.skip))) (.seq (.seq (.region f4r11 []) (.cond (.s 95) (.seq (.region f4r12 []) (.ret)) (.skip))) (.seq (.region f4r13 [[], [], [], [2], [], [], [5], [4, 5, 6], [0, 1, 2, 3, 4, 5, 6, 7], [0, 1, 2, 3, 4, 5, 6, 7, 8], [0, 1, 2, 3, 4, 5, 6, 7, 8, 9], [0, 1, 2, 3, 4, 5, 6, 7, 8, 9], [], [0, 1, 2, 3, 4, 5, 6, 7, 8, 9, 10, 12], [0, 1, 2, 3, 4, 5, 6, 7, 8, 9, 10, 11, 12, 13]]) (.seq (.region f4r14 []) (.ret))))))))))))
def f4rs : List RArg := [.s 8 [] []]
end Go.Absw
