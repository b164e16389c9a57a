import Derived.Test.YtgpdckmbojmlpaaATQ8
import Derived.Test.YtgpdckmbojmlpaaRows
namespace Go.Proofs.Ytgpdckmbojmlpaa
open Go.Abs
set_option linter.unusedVariables false
set_option linter.unusedSimpArgs false
set_option maxHeartbeats 4000000
set_option maxRecDepth 100000
-- aneroid/paper.find
def c94 : CF := ⟨32,
 (.seq (.ops [
 ⟨(some 2), .box false 56 1 (.t 0), none⟩,
 ⟨(some 4), .mv (.c (.slice none 0 0)), none⟩,
 ⟨(some 5), .mv (.c (.int .i64 0)), none⟩] [1, 2])
 (.seq (.seq (.ops [
 ⟨(some 10), .load (some 1) (.t 2), none⟩,
 ⟨(some 11), .call (.f 54) [(.t 10)], none⟩,
 ⟨(some 6), .mv (.t 11), none⟩] [1, 2, 6])
 (.seq (.ops [
 ⟨(some 12), .mv (.t 6), none⟩,
 ⟨(some 13), .bin .neq (.t 12) (.c (.int .i64 0)), none⟩] [1, 2, 6, 13])
 (.cond (.t 13) (.seq (.ops [
 ⟨(some 14), .mv (.t 6), none⟩,
 ⟨(some 4), .mv (.c (.slice none 0 0)), none⟩,
 ⟨(some 5), .mv (.t 14), none⟩] [4, 5])
 .ret)
 .skip)))
 (.seq (.ops [
 ⟨(some 7), .mv (.c (.slice none 0 0)), none⟩] [1, 2, 7])
 (.seq (.seq (.ops [
 ⟨(some 15), .faddr 0 (.t 2), none⟩,
 ⟨(some 16), .load none (.t 15), none⟩,
 ⟨(some 17), .len (.t 16), none⟩,
 ⟨(some 18), .mv (.c (.int .i64 0)), none⟩] [1, 7, 16, 17, 18])
 (.block 0 (.loop (.seq (.ops [
 ⟨(some 19), .bin .lss (.t 18) (.t 17), none⟩] [1, 7, 16, 17, 18, 19])
 (.seq (.cond (.t 19) .skip
 (.exit 0))
 (.seq (.block 1 (.seq (.ops [
 ⟨(some 20), .mv (.t 18), none⟩,
 ⟨(some 21), .iaddr 1 (.t 16) (.t 18), none⟩,
 ⟨(some 22), .load none (.t 21), none⟩,
 ⟨(some 8), .mv (.t 20), none⟩,
 ⟨(some 9), .mv (.t 22), none⟩] [1, 7, 8, 9, 16, 17, 18])
 (.seq (.ops [
 ⟨(some 23), .mv (.t 1), none⟩,
 ⟨(some 24), .mv (.t 9), none⟩,
 ⟨(some 25), .call (.t 23) [(.t 24)], none⟩] [1, 7, 8, 16, 17, 18, 25])
 (.cond (.t 25) (.ops [
 ⟨(some 26), .mv (.t 7), none⟩,
 ⟨(some 27), .mv (.t 8), none⟩,
 ⟨(some 28), .bsl false 3 1 1 [.int .i64 0] [(0, 1, (.t 27))], none⟩,
 ⟨(some 29), .app 3 1 8 (.t 26) (.t 28), none⟩,
 ⟨(some 7), .mv (.t 29), none⟩] [1, 7, 16, 17, 18])
 .skip))))
 (.ops [
 ⟨(some 30), .bin .add (.t 18) (.c (.int .i64 1)), none⟩,
 ⟨(some 18), .mv (.t 30), none⟩] [1, 7, 16, 17, 18])))))))
 (.seq (.ops [
 ⟨(some 31), .mv (.t 7), none⟩,
 ⟨(some 4), .mv (.t 31), none⟩,
 ⟨(some 5), .mv (.c (.int .i64 0)), none⟩] [4, 5])
 .ret))))),
 [.t 4, .t 5]⟩
-- aneroid/paper.Gaps$1
def c95 : CF := ⟨6,
 (.seq (.ops [
 ⟨(some 2), .mv (.c (.bool false)), none⟩] [0])
 (.seq (.ops [
 ⟨(some 3), .mv (.t 0), none⟩,
 ⟨(some 4), .len (.t 3), none⟩,
 ⟨(some 5), .bin .eql (.t 4) (.c (.int .i64 0)), none⟩,
 ⟨(some 2), .mv (.t 5), none⟩] [2])
 .ret)),
 [.t 2]⟩
-- aneroid/paper.Crossings$1
def c97 : CF := ⟨6,
 (.seq (.ops [
 ⟨(some 2), .mv (.c (.bool false)), none⟩] [0])
 (.seq (.ops [
 ⟨(some 3), .mv (.t 0), none⟩,
 ⟨(some 4), .len (.t 3), none⟩,
 ⟨(some 5), .bin .gtr (.t 4) (.c (.int .i64 1)), none⟩,
 ⟨(some 2), .mv (.t 5), none⟩] [2])
 .ret)),
 [.t 2]⟩
-- aneroid/aneroidref01.sized
def c96 : CF := ⟨34,
 (.seq (.ops [
 ⟨(some 3), .box false 56 1 (.t 0), none⟩,
 ⟨(some 6), .mv (.c (.slice none 0 0)), none⟩,
 ⟨(some 7), .mv (.c (.int .i64 0)), none⟩] [1, 2, 3])
 (.seq (.seq (.ops [
 ⟨(some 10), .load (some 1) (.t 3), none⟩,
 ⟨(some 11), .call (.f 55) [(.t 10)], none⟩,
 ⟨(some 12), .bin .neq (.t 11) (.c (.int .i64 0)), none⟩] [1, 2, 3, 12])
 (.cond (.t 12) (.seq (.ops [
 ⟨(some 6), .mv (.c (.slice none 0 0)), none⟩,
 ⟨(some 7), .mv (.c (.int .i64 12)), none⟩] [6, 7])
 .ret)
 .skip))
 (.seq (.ops [
 ⟨(some 8), .mv (.c (.slice none 0 0)), none⟩] [1, 2, 3, 8])
 (.seq (.seq (.ops [
 ⟨(some 9), .mv (.c (.int .i64 0)), none⟩] [1, 2, 3, 8, 9])
 (.block 0 (.loop (.seq (.seq (.ops [
 ⟨(some 13), .mv (.t 9), none⟩,
 ⟨(some 14), .faddr 0 (.t 3), none⟩,
 ⟨(some 15), .load none (.t 14), none⟩,
 ⟨(some 16), .len (.t 15), none⟩,
 ⟨(some 17), .bin .lss (.t 13) (.t 16), none⟩] [1, 2, 3, 8, 9, 17])
 (.cond (.t 17) .skip
 (.exit 0)))
 (.seq (.block 1 (.seq (.ops [
 ⟨(some 20), .faddr 0 (.t 3), none⟩,
 ⟨(some 21), .load none (.t 20), none⟩,
 ⟨(some 22), .mv (.t 9), none⟩,
 ⟨(some 23), .iaddr 1 (.t 21) (.t 22), none⟩,
 ⟨(some 24), .load none (.t 23), none⟩,
 ⟨(some 25), .len (.t 24), none⟩,
 ⟨(some 26), .mv (.t 1), none⟩,
 ⟨(some 27), .mv (.t 2), none⟩,
 ⟨(some 28), .call (.f 76) [(.t 25), (.t 26), (.t 27)], none⟩] [1, 2, 3, 8, 9, 28])
 (.cond (.t 28) (.ops [
 ⟨(some 29), .mv (.t 8), none⟩,
 ⟨(some 30), .mv (.t 9), none⟩,
 ⟨(some 31), .bsl false 3 1 1 [.int .i64 0] [(0, 1, (.t 30))], none⟩,
 ⟨(some 32), .app 3 1 8 (.t 29) (.t 31), none⟩,
 ⟨(some 8), .mv (.t 32), none⟩] [1, 2, 3, 8, 9])
 .skip)))
 (.ops [
 ⟨(some 18), .mv (.t 9), none⟩,
 ⟨(some 19), .bin .add (.t 18) (.c (.int .i64 1)), none⟩,
 ⟨(some 9), .mv (.t 19), none⟩] [1, 2, 3, 8, 9]))))))
 (.seq (.ops [
 ⟨(some 33), .mv (.t 8), none⟩,
 ⟨(some 6), .mv (.t 33), none⟩,
 ⟨(some 7), .mv (.c (.int .i64 0)), none⟩] [6, 7])
 .ret))))),
 [.t 6, .t 7]⟩
-- aneroid/paper.Gaps
def c48 : CF := ⟨8,
 (.seq (.ops [
 ⟨(some 1), .box false 56 1 (.t 0), none⟩,
 ⟨(some 2), .mv (.c (.slice none 0 0)), none⟩,
 ⟨(some 3), .mv (.c (.int .i64 0)), none⟩] [1])
 (.seq (.ops [
 ⟨(some 4), .load (some 1) (.t 1), none⟩,
 ⟨(some 5), .call (.f 94) [(.t 4), (.f 95)], none⟩,
 ⟨(some 6), .ext 0 (.t 5), none⟩,
 ⟨(some 7), .ext 1 (.t 5), none⟩,
 ⟨(some 2), .mv (.t 6), none⟩,
 ⟨(some 3), .mv (.t 7), none⟩] [2, 3])
 .ret)),
 [.t 2, .t 3]⟩
-- aneroid/aneroidref01.Gaps
def c49 : CF := ⟨8,
 (.seq (.ops [
 ⟨(some 1), .box false 56 1 (.t 0), none⟩,
 ⟨(some 2), .mv (.c (.slice none 0 0)), none⟩,
 ⟨(some 3), .mv (.c (.int .i64 0)), none⟩] [1])
 (.seq (.ops [
 ⟨(some 4), .load (some 1) (.t 1), none⟩,
 ⟨(some 5), .call (.f 96) [(.t 4), (.c (.int .i64 0)), (.c (.int .i64 0))], none⟩,
 ⟨(some 6), .ext 0 (.t 5), none⟩,
 ⟨(some 7), .ext 1 (.t 5), none⟩,
 ⟨(some 2), .mv (.t 6), none⟩,
 ⟨(some 3), .mv (.t 7), none⟩] [2, 3])
 .ret)),
 [.t 2, .t 3]⟩
-- aneroid/paper.Crossings
def c50 : CF := ⟨8,
 (.seq (.ops [
 ⟨(some 1), .box false 56 1 (.t 0), none⟩,
 ⟨(some 2), .mv (.c (.slice none 0 0)), none⟩,
 ⟨(some 3), .mv (.c (.int .i64 0)), none⟩] [1])
 (.seq (.ops [
 ⟨(some 4), .load (some 1) (.t 1), none⟩,
 ⟨(some 5), .call (.f 94) [(.t 4), (.f 97)], none⟩,
 ⟨(some 6), .ext 0 (.t 5), none⟩,
 ⟨(some 7), .ext 1 (.t 5), none⟩,
 ⟨(some 2), .mv (.t 6), none⟩,
 ⟨(some 3), .mv (.t 7), none⟩] [2, 3])
 .ret)),
 [.t 2, .t 3]⟩
-- aneroid/aneroidref01.Crossings
def c51 : CF := ⟨8,
 (.seq (.ops [
 ⟨(some 1), .box false 56 1 (.t 0), none⟩,
 ⟨(some 2), .mv (.c (.slice none 0 0)), none⟩,
 ⟨(some 3), .mv (.c (.int .i64 0)), none⟩] [1])
 (.seq (.ops [
 ⟨(some 4), .load (some 1) (.t 1), none⟩,
 ⟨(some 5), .call (.f 96) [(.t 4), (.c (.int .i64 2)), (.c (.int .i64 8))], none⟩,
 ⟨(some 6), .ext 0 (.t 5), none⟩,
 ⟨(some 7), .ext 1 (.t 5), none⟩,
 ⟨(some 2), .mv (.t 6), none⟩,
 ⟨(some 3), .mv (.t 7), none⟩] [2, 3])
 .ret)),
 [.t 2, .t 3]⟩
-- aneroid/aneroidref01.SameInts
def c56 : CF := ⟨26,
 (.seq (.ops [
 ⟨(some 4), .mv (.c (.bool false)), none⟩] [0, 1])
 (.seq (.seq (.ops [
 ⟨(some 6), .mv (.t 0), none⟩,
 ⟨(some 7), .len (.t 6), none⟩,
 ⟨(some 8), .mv (.t 1), none⟩,
 ⟨(some 9), .len (.t 8), none⟩,
 ⟨(some 10), .bin .neq (.t 7) (.t 9), none⟩] [0, 1, 10])
 (.cond (.t 10) (.seq (.ops [
 ⟨(some 4), .mv (.c (.bool false)), none⟩] [4])
 .ret)
 .skip))
 (.seq (.seq (.ops [
 ⟨(some 5), .mv (.c (.int .i64 0)), none⟩] [0, 1, 5])
 (.block 0 (.loop (.seq (.seq (.ops [
 ⟨(some 11), .mv (.t 5), none⟩,
 ⟨(some 12), .mv (.t 0), none⟩,
 ⟨(some 13), .len (.t 12), none⟩,
 ⟨(some 14), .bin .lss (.t 11) (.t 13), none⟩] [0, 1, 5, 14])
 (.cond (.t 14) .skip
 (.exit 0)))
 (.seq (.block 1 (.seq (.draw [
 ⟨(some 17), .mv (.t 0), none⟩,
 ⟨(some 18), .mv (.t 5), none⟩,
 ⟨(some 19), .iaddr 1 (.t 17) (.t 18), none⟩,
 ⟨(some 20), .load none (.t 19), none⟩,
 ⟨(some 21), .mv (.t 1), none⟩,
 ⟨(some 22), .mv (.t 5), none⟩,
 ⟨(some 23), .iaddr 1 (.t 21) (.t 22), none⟩,
 ⟨(some 24), .load none (.t 23), none⟩,
 ⟨(some 25), .bin .neq (.t 20) (.t 24), none⟩] [
 ] [0, 1, 5, 25])
 (.cond (.t 25) (.seq (.ops [
 ⟨(some 4), .mv (.c (.bool false)), none⟩] [4])
 .ret)
 .skip)))
 (.ops [
 ⟨(some 15), .mv (.t 5), none⟩,
 ⟨(some 16), .bin .add (.t 15) (.c (.int .i64 1)), none⟩,
 ⟨(some 5), .mv (.t 16), none⟩] [0, 1, 5]))))))
 (.seq (.ops [
 ⟨(some 4), .mv (.c (.bool true)), none⟩] [4])
 .ret)))),
 [.t 4]⟩
-- aneroid/aneroidlaw01.PaperChecks
def c11 : CF := ⟨105,
 (.seq (.ops [
 ⟨(some 3), .box false 25 10 (.t 0), none⟩,
 ⟨(some 5), .box false 56 1 (.t 2), none⟩,
 ⟨(some 6), .mv (.c (.bool false)), none⟩] [1, 3, 5])
 (.seq (.ops [
 ⟨(some 20), .call (.f 18) [], none⟩,
 ⟨(some 7), .mv (.t 20), none⟩] [1, 3, 5, 7])
 (.seq (.seq (.ops [
 ⟨(some 21), .mv (.t 1), none⟩,
 ⟨(some 22), .call (.f 44) [(.t 21), (.c (.slice none 0 0))], none⟩,
 ⟨(some 23), .un .not (.t 22), none⟩,
 ⟨(some 24), .mv (.t 23), none⟩,
 ⟨(some 25), .load (some 1) (.t 5), (some (24, false))⟩,
 ⟨(some 26), .call (.f 45) [(.t 25)], (some (24, false))⟩,
 ⟨(some 27), .un .not (.t 26), (some (24, false))⟩,
 ⟨(some 28), .pick (.t 24) (.c (.bool true)) (.t 27), none⟩] [1, 3, 5, 7, 28])
 (.cond (.t 28) (.seq (.ops [
 ⟨(some 29), .mv (.t 7), none⟩,
 ⟨(some 6), .mv (.t 29), none⟩] [6])
 .ret)
 .skip))
 (.seq (.ops [
 ⟨(some 31), .mv (.t 1), none⟩,
 ⟨(some 32), .call (.f 46) [(.t 31)], none⟩,
 ⟨(some 30), .mv (.t 32), none⟩,
 ⟨(some 33), .ext 0 (.t 30), none⟩,
 ⟨(some 34), .ext 1 (.t 30), none⟩,
 ⟨(some 8), .mv (.t 33), none⟩,
 ⟨(some 9), .mv (.t 34), none⟩] [1, 3, 5, 7, 8, 9])
 (.seq (.ops [
 ⟨(some 36), .mv (.t 1), none⟩,
 ⟨(some 37), .call (.f 47) [(.t 36)], none⟩,
 ⟨(some 35), .mv (.t 37), none⟩,
 ⟨(some 38), .ext 0 (.t 35), none⟩,
 ⟨(some 39), .ext 1 (.t 35), none⟩,
 ⟨(some 10), .mv (.t 38), none⟩,
 ⟨(some 11), .mv (.t 39), none⟩] [3, 5, 7, 8, 9, 10, 11])
 (.seq (.ops [
 ⟨(some 41), .load (some 1) (.t 5), none⟩,
 ⟨(some 42), .call (.f 48) [(.t 41)], none⟩,
 ⟨(some 40), .mv (.t 42), none⟩,
 ⟨(some 43), .ext 0 (.t 40), none⟩,
 ⟨(some 44), .ext 1 (.t 40), none⟩,
 ⟨(some 12), .mv (.t 43), none⟩,
 ⟨(some 13), .mv (.t 44), none⟩] [3, 5, 7, 8, 9, 10, 11, 12, 13])
 (.seq (.ops [
 ⟨(some 46), .load (some 1) (.t 5), none⟩,
 ⟨(some 47), .call (.f 49) [(.t 46)], none⟩,
 ⟨(some 45), .mv (.t 47), none⟩,
 ⟨(some 48), .ext 0 (.t 45), none⟩,
 ⟨(some 49), .ext 1 (.t 45), none⟩,
 ⟨(some 14), .mv (.t 48), none⟩,
 ⟨(some 15), .mv (.t 49), none⟩] [3, 5, 7, 8, 9, 10, 11, 12, 13, 14, 15])
 (.seq (.ops [
 ⟨(some 51), .load (some 1) (.t 5), none⟩,
 ⟨(some 52), .call (.f 50) [(.t 51)], none⟩,
 ⟨(some 50), .mv (.t 52), none⟩,
 ⟨(some 53), .ext 0 (.t 50), none⟩,
 ⟨(some 54), .ext 1 (.t 50), none⟩,
 ⟨(some 16), .mv (.t 53), none⟩,
 ⟨(some 17), .mv (.t 54), none⟩] [3, 5, 7, 8, 9, 10, 11, 12, 13, 14, 15, 16, 17])
 (.seq (.ops [
 ⟨(some 56), .load (some 1) (.t 5), none⟩,
 ⟨(some 57), .call (.f 51) [(.t 56)], none⟩,
 ⟨(some 55), .mv (.t 57), none⟩,
 ⟨(some 58), .ext 0 (.t 55), none⟩,
 ⟨(some 59), .ext 1 (.t 55), none⟩,
 ⟨(some 18), .mv (.t 58), none⟩,
 ⟨(some 19), .mv (.t 59), none⟩] [3, 5, 7, 8, 9, 10, 11, 12, 13, 14, 15, 16, 17, 18, 19])
 (.seq (.draw [
 ⟨(some 60), .mv (.t 7), none⟩,
 ⟨(some 61), .mv (.t 60), none⟩,
 ⟨(some 62), .load (some 10) (.t 3), (some (61, true))⟩,
 ⟨(some 63), .call (.f 52) [(.t 62)], (some (61, true))⟩,
 ⟨(some 64), .load (some 10) (.t 3), (some (61, true))⟩,
 ⟨(some 65), .call (.f 53) [(.t 64)], (some (61, true))⟩,
 ⟨(some 66), .bin .eql (.t 63) (.t 65), (some (61, true))⟩,
 ⟨(some 67), .pick (.t 61) (.t 66) (.c (.bool false)), none⟩,
 ⟨(some 68), .mv (.t 67), none⟩,
 ⟨(some 69), .mv (.t 8), (some (68, true))⟩,
 ⟨(some 70), .mv (.t 10), (some (68, true))⟩,
 ⟨(some 71), .bin .eql (.t 69) (.t 70), (some (68, true))⟩,
 ⟨(some 72), .pick (.t 68) (.t 71) (.c (.bool false)), none⟩,
 ⟨(some 73), .mv (.t 72), none⟩,
 ⟨(some 74), .mv (.t 9), (some (73, true))⟩,
 ⟨(some 75), .mv (.t 11), (some (73, true))⟩,
 ⟨(some 76), .bin .eql (.t 74) (.t 75), (some (73, true))⟩,
 ⟨(some 77), .pick (.t 73) (.t 76) (.c (.bool false)), none⟩,
 ⟨(some 78), .mv (.t 77), none⟩,
 ⟨(some 79), .load (some 1) (.t 5), (some (78, true))⟩,
 ⟨(some 80), .call (.f 54) [(.t 79)], (some (78, true))⟩,
 ⟨(some 81), .load (some 1) (.t 5), (some (78, true))⟩,
 ⟨(some 82), .call (.f 55) [(.t 81)], (some (78, true))⟩,
 ⟨(some 83), .bin .eql (.t 80) (.t 82), (some (78, true))⟩,
 ⟨(some 84), .pick (.t 78) (.t 83) (.c (.bool false)), none⟩,
 ⟨(some 85), .mv (.t 84), none⟩,
 ⟨(some 86), .mv (.t 12), (some (85, true))⟩,
 ⟨(some 87), .mv (.t 14), (some (85, true))⟩,
 ⟨(some 88), .call (.f 56) [(.t 86), (.t 87)], (some (85, true))⟩,
 ⟨(some 89), .pick (.t 85) (.t 88) (.c (.bool false)), none⟩,
 ⟨(some 90), .mv (.t 89), none⟩,
 ⟨(some 91), .mv (.t 13), (some (90, true))⟩,
 ⟨(some 92), .mv (.t 15), (some (90, true))⟩,
 ⟨(some 93), .bin .eql (.t 91) (.t 92), (some (90, true))⟩,
 ⟨(some 94), .pick (.t 90) (.t 93) (.c (.bool false)), none⟩,
 ⟨(some 95), .mv (.t 94), none⟩,
 ⟨(some 96), .mv (.t 16), (some (95, true))⟩,
 ⟨(some 97), .mv (.t 18), (some (95, true))⟩,
 ⟨(some 98), .call (.f 56) [(.t 96), (.t 97)], (some (95, true))⟩,
 ⟨(some 99), .pick (.t 95) (.t 98) (.c (.bool false)), none⟩,
 ⟨(some 100), .mv (.t 99), none⟩,
 ⟨(some 101), .mv (.t 17), (some (100, true))⟩,
 ⟨(some 102), .mv (.t 19), (some (100, true))⟩,
 ⟨(some 103), .bin .eql (.t 101) (.t 102), (some (100, true))⟩,
 ⟨(some 104), .pick (.t 100) (.t 103) (.c (.bool false)), none⟩,
 ⟨(some 6), .mv (.t 104), none⟩] [
 ] [6])
 .ret)))))))))),
 [.t 6]⟩

theorem k94 : chkF Try.prog Try.f94 c94 = true := by kernel_rfl
theorem k95 : chkF Try.prog Try.f95 c95 = true := by kernel_rfl
theorem k97 : chkF Try.prog Try.f97 c97 = true := by kernel_rfl
theorem k96 : chkF Try.prog Try.f96 c96 = true := by kernel_rfl
theorem k48 : chkF Try.prog Try.f48 c48 = true := by kernel_rfl
theorem k49 : chkF Try.prog Try.f49 c49 = true := by kernel_rfl
theorem k50 : chkF Try.prog Try.f50 c50 = true := by kernel_rfl
theorem k51 : chkF Try.prog Try.f51 c51 = true := by kernel_rfl
theorem k56 : chkF Try.prog Try.f56 c56 = true := by kernel_rfl
theorem k11 : chkF Try.prog Try.f11 c11 = true := by kernel_rfl

@[simp] theorem pureV_spS (l : List Sp) : PureV (spS l) := by simp
@[simp] theorem pureV_colS (x : List (List Sp)) : PureV (colS x) := by
  refine PureV.sl fun e he c hc => ?_
  obtain ⟨l, _, rfl⟩ := List.mem_map.1 he
  obtain rfl : c = spS l := by simpa using hc
  exact pureV_spS l
@[simp] theorem pureV_ink (x : List (List Sp)) : PureV (ink x) := PureV.agg fun c hc => by
  obtain rfl : c = colS x := by simpa using hc
  exact pureV_colS x

theorem rcheckTrace_spec (pts : List Pt) (hlen : pts.length < 9223372036854775808) : Pure Try.prog 47 [ptS pts] (.tup [n (traceErr pts).1, n (traceErr pts).2]) := by
  refine Pure.of_body Try.call47 Try.func47 k47 (Nat.le_of_ble_eq_true rfl) ?_
  unfold c47
  (repeat' first
    | (refine AWPC.of_vcn rfl ?_; simp only [zT, drp, hasN, Bool.or_false, Bool.false_or, Bool.or_true, Bool.true_or, Classical.not_not, zS, vcC, exs, exd, pickV, alS, Al.ob, grd, ex, ov, gt, argE, strp, cnd, sideL, I.os, st, wrap, keep, binA, kseq, kblk, kret, klp, resL, res1, one, ocalls, obj, elems, cells, scalar, vs, pick1, fillA, splice, chop, eqC, Nat.reduceBEq, Nat.reduceAdd, Nat.reduceSub, Nat.reduceLT, Nat.reduceLeDiff, Nat.reduceMul, Nat.reduceEqDiff, cond_true, cond_false, if_true, if_false, reduceIte, implies_true, forall_const, ne_eq])
    | (simp (disch := omega) only [wr64, Int.zero_sub]; try simp only [zT, drp, hasN, Bool.or_false, Bool.false_or, Bool.or_true, Bool.true_or, Classical.not_not, zS, vcC, exs, exd, pickV, alS, Al.ob, grd, ex, ov, gt, argE, strp, cnd, sideL, I.os, st, wrap, keep, binA, kseq, kblk, kret, klp, resL, res1, one, ocalls, obj, elems, cells, scalar, vs, pick1, fillA, splice, chop, eqC, Nat.reduceBEq, Nat.reduceAdd, Nat.reduceSub, Nat.reduceLT, Nat.reduceLeDiff, Nat.reduceMul, Nat.reduceEqDiff, cond_true, cond_false, if_true, if_false, reduceIte, implies_true, forall_const, ne_eq])
    | (refine AWPC.both (fun _ => ?_) (fun _ => ?_))
    | (refine AWPC.imp (fun _ => ?_))
    | ((refine .inl ⟨_, _, _, .any, rfl, fun h => absurd h Bool.false_ne_true, ?_⟩); (first | (refine owp_of_exs ?_; simp only [zT, drp, hasN, Bool.or_false, Bool.false_or, Bool.or_true, Bool.true_or, Classical.not_not, zS, vcC, exs, exd, pickV, alS, Al.ob, grd, ex, ov, gt, argE, strp, cnd, sideL, I.os, st, wrap, keep, binA, kseq, kblk, kret, klp, resL, res1, one, ocalls, obj, elems, cells, scalar, vs, pick1, fillA, splice, chop, eqC, Nat.reduceBEq, Nat.reduceAdd, Nat.reduceSub, Nat.reduceLT, Nat.reduceLeDiff, Nat.reduceMul, Nat.reduceEqDiff, cond_true, cond_false, if_true, if_false, reduceIte, implies_true, forall_const, ne_eq]) | fail))
    | (refine ⟨by omega, ?_⟩)
    | fail)
  · have h' : 2000 < pts.length := by omega
    exact Frz.eq (by simp [traceErr, h']) (by simp)
  · have h' : ¬ 2000 < pts.length := by omega
    refine AWPC.loopI 4 pts.length (fun i => bad (pts.drop i) i = bad pts 0) (by simp) ?_ ?_
    · (simp only [zT, drp, hasN, Bool.or_false, Bool.false_or, Bool.or_true, Bool.true_or, Classical.not_not, zS, vcC, exs, exd, pickV, alS, Al.ob, grd, ex, ov, gt, argE, strp, cnd, sideL, I.os, st, wrap, keep, binA, kseq, kblk, kret, klp, resL, res1, one, ocalls, obj, elems, cells, scalar, vs, pick1, fillA, splice, chop, eqC, Nat.reduceBEq, Nat.reduceAdd, Nat.reduceSub, Nat.reduceLT, Nat.reduceLeDiff, Nat.reduceMul, Nat.reduceEqDiff, cond_true, cond_false, if_true, if_false, reduceIte, implies_true, forall_const, ne_eq]; try simp)
    · intro i hi hb
      by_cases hlt : i < pts.length
      · obtain ⟨p, hp⟩ : ∃ p, pts[i]? = some p := ⟨_, List.getElem?_eq_getElem hlt⟩
        rw [drop_cons hp, bad] at hb
        (repeat' first
    | (refine AWPC.of_vcn rfl ?_; simp only [zT, drp, hasN, Bool.or_false, Bool.false_or, Bool.or_true, Bool.true_or, Classical.not_not, zS, vcC, exs, exd, pickV, alS, Al.ob, grd, ex, ov, gt, argE, strp, cnd, sideL, I.os, st, wrap, keep, binA, kseq, kblk, kret, klp, resL, res1, one, ocalls, obj, elems, cells, scalar, vs, pick1, fillA, splice, chop, eqC, Nat.reduceBEq, Nat.reduceAdd, Nat.reduceSub, Nat.reduceLT, Nat.reduceLeDiff, Nat.reduceMul, Nat.reduceEqDiff, cond_true, cond_false, if_true, if_false, reduceIte, implies_true, forall_const, ne_eq, getD_map hp])
    | (simp (disch := omega) only [wr64, Int.zero_sub]; try simp only [zT, drp, hasN, Bool.or_false, Bool.false_or, Bool.or_true, Bool.true_or, Classical.not_not, zS, vcC, exs, exd, pickV, alS, Al.ob, grd, ex, ov, gt, argE, strp, cnd, sideL, I.os, st, wrap, keep, binA, kseq, kblk, kret, klp, resL, res1, one, ocalls, obj, elems, cells, scalar, vs, pick1, fillA, splice, chop, eqC, Nat.reduceBEq, Nat.reduceAdd, Nat.reduceSub, Nat.reduceLT, Nat.reduceLeDiff, Nat.reduceMul, Nat.reduceEqDiff, cond_true, cond_false, if_true, if_false, reduceIte, implies_true, forall_const, ne_eq, getD_map hp])
    | (refine AWPC.both (fun _ => ?_) (fun _ => ?_))
    | (refine AWPC.imp (fun _ => ?_))
    | ((repeat (refine And.intro (by (intros; simp_all (config := { decide := false }); done)) ?_)); (first
      | (refine .inl ⟨_, _, _, _, rfl, fun _hc => ⟨by simp, rright_spec p⟩, ?_⟩)
      | (refine ⟨_, _, _, _, rfl, fun _hc => ⟨by simp, rright_spec p⟩, ?_⟩)
      | fail); (first | (refine owp_of_exs ?_; simp only [zT, drp, hasN, Bool.or_false, Bool.false_or, Bool.or_true, Bool.true_or, Classical.not_not, zS, vcC, exs, exd, pickV, alS, Al.ob, grd, ex, ov, gt, argE, strp, cnd, sideL, I.os, st, wrap, keep, binA, kseq, kblk, kret, klp, resL, res1, one, ocalls, obj, elems, cells, scalar, vs, pick1, fillA, splice, chop, eqC, Nat.reduceBEq, Nat.reduceAdd, Nat.reduceSub, Nat.reduceLT, Nat.reduceLeDiff, Nat.reduceMul, Nat.reduceEqDiff, cond_true, cond_false, if_true, if_false, reduceIte, implies_true, forall_const, ne_eq, getD_map hp]) | (refine pre_of_exd ?_; simp only [zT, drp, hasN, Bool.or_false, Bool.false_or, Bool.or_true, Bool.true_or, Classical.not_not, zS, vcC, exs, exd, pickV, alS, Al.ob, grd, ex, ov, gt, argE, strp, cnd, sideL, I.os, st, wrap, keep, binA, kseq, kblk, kret, klp, resL, res1, one, ocalls, obj, elems, cells, scalar, vs, pick1, fillA, splice, chop, eqC, Nat.reduceBEq, Nat.reduceAdd, Nat.reduceSub, Nat.reduceLT, Nat.reduceLeDiff, Nat.reduceMul, Nat.reduceEqDiff, cond_true, cond_false, if_true, if_false, reduceIte, implies_true, forall_const, ne_eq, getD_map hp]) | fail))
    | ((refine .inl ⟨_, _, _, .any, rfl, fun h => absurd h Bool.false_ne_true, ?_⟩); (first | (refine owp_of_exs ?_; simp only [zT, drp, hasN, Bool.or_false, Bool.false_or, Bool.or_true, Bool.true_or, Classical.not_not, zS, vcC, exs, exd, pickV, alS, Al.ob, grd, ex, ov, gt, argE, strp, cnd, sideL, I.os, st, wrap, keep, binA, kseq, kblk, kret, klp, resL, res1, one, ocalls, obj, elems, cells, scalar, vs, pick1, fillA, splice, chop, eqC, Nat.reduceBEq, Nat.reduceAdd, Nat.reduceSub, Nat.reduceLT, Nat.reduceLeDiff, Nat.reduceMul, Nat.reduceEqDiff, cond_true, cond_false, if_true, if_false, reduceIte, implies_true, forall_const, ne_eq, getD_map hp]) | fail))
    | (refine ⟨by omega, ?_⟩)
    | fail)
        all_goals try (exfalso; omega)
        · rename_i g
          rw [if_neg g] at hb
          exact Frz.eq (by simp [traceErr, h', ← hb]) (by simp)
        · rename_i g
          rw [if_pos g] at hb
          exact ⟨⟨i + 1, hlt, hb⟩, by simp, by simp only; omega⟩
      · obtain rfl : i = pts.length := by omega
        rw [List.drop_length] at hb
        (repeat' first
    | (refine AWPC.of_vcn rfl ?_; simp only [zT, drp, hasN, Bool.or_false, Bool.false_or, Bool.or_true, Bool.true_or, Classical.not_not, zS, vcC, exs, exd, pickV, alS, Al.ob, grd, ex, ov, gt, argE, strp, cnd, sideL, I.os, st, wrap, keep, binA, kseq, kblk, kret, klp, resL, res1, one, ocalls, obj, elems, cells, scalar, vs, pick1, fillA, splice, chop, eqC, Nat.reduceBEq, Nat.reduceAdd, Nat.reduceSub, Nat.reduceLT, Nat.reduceLeDiff, Nat.reduceMul, Nat.reduceEqDiff, cond_true, cond_false, if_true, if_false, reduceIte, implies_true, forall_const, ne_eq])
    | (simp (disch := omega) only [wr64, Int.zero_sub]; try simp only [zT, drp, hasN, Bool.or_false, Bool.false_or, Bool.or_true, Bool.true_or, Classical.not_not, zS, vcC, exs, exd, pickV, alS, Al.ob, grd, ex, ov, gt, argE, strp, cnd, sideL, I.os, st, wrap, keep, binA, kseq, kblk, kret, klp, resL, res1, one, ocalls, obj, elems, cells, scalar, vs, pick1, fillA, splice, chop, eqC, Nat.reduceBEq, Nat.reduceAdd, Nat.reduceSub, Nat.reduceLT, Nat.reduceLeDiff, Nat.reduceMul, Nat.reduceEqDiff, cond_true, cond_false, if_true, if_false, reduceIte, implies_true, forall_const, ne_eq])
    | (refine AWPC.both (fun _ => ?_) (fun _ => ?_))
    | (refine AWPC.imp (fun _ => ?_))
    | ((refine .inl ⟨_, _, _, .any, rfl, fun h => absurd h Bool.false_ne_true, ?_⟩); (first | (refine owp_of_exs ?_; simp only [zT, drp, hasN, Bool.or_false, Bool.false_or, Bool.or_true, Bool.true_or, Classical.not_not, zS, vcC, exs, exd, pickV, alS, Al.ob, grd, ex, ov, gt, argE, strp, cnd, sideL, I.os, st, wrap, keep, binA, kseq, kblk, kret, klp, resL, res1, one, ocalls, obj, elems, cells, scalar, vs, pick1, fillA, splice, chop, eqC, Nat.reduceBEq, Nat.reduceAdd, Nat.reduceSub, Nat.reduceLT, Nat.reduceLeDiff, Nat.reduceMul, Nat.reduceEqDiff, cond_true, cond_false, if_true, if_false, reduceIte, implies_true, forall_const, ne_eq]) | fail))
    | (refine ⟨by omega, ?_⟩)
    | fail)
        all_goals try (exfalso; omega)
        exact Frz.eq (by simp [traceErr, h', ← hb, bad]) (by simp)

/-- The places of elements with a property. -/
def idx {α : Type} (q : α → Bool) : Nat → List α → List Int
  | _, [] => []
  | k, a :: r => bif q a then (k : Int) :: idx q (k + 1) r else idx q (k + 1) r

theorem frz_in {σ : Sto} {f i m : Nat} (l : List Int) (h : σ.at f i = some ⟨3, 1, l.map (fun z => [n z]), none⟩) (hm : m = l.length) : Frz σ (.own f i m) (inS l) := by
  subst hm
  refine Frz.own (o := ⟨3, 1, l.map (fun z => [n z]), none⟩) (es := l.map (fun z => [n z])) (show (1 : Nat) ≠ 0 by decide) h (by simp) (by simp) (fun e j he hj => ?_) fun e he => ?_
  · obtain ⟨x, hx⟩ : ∃ x, l[e]? = some x := ⟨_, List.getElem?_eq_getElem he⟩
    rw [getD_map hx]
    match j, hj with
    | 0, _ => exact Frz.eq rfl (by simp)
  · obtain ⟨x, hx⟩ : ∃ x, l[e]? = some x := ⟨_, List.getElem?_eq_getElem he⟩
    rw [getD_map hx]; rfl

noncomputable def found (q : List Sp → Bool) (x : List (List Sp)) : List Int × Int := if ierr x = 0 then (idx q 0 x, 0) else ([], ierr x)

theorem find_spec (f : Nat) (q : List Sp → Bool) (x : List (List Sp)) (hx : Lens x) (hq : ∀ l ∈ x, Pure Try.prog f [spS l] (bl (q l))) :
    Pure Try.prog 94 [ink x, .fn (.func f) [] []] (.tup [inS (found q x).1, n (found q x).2]) := by
  refine Pure.of_body Try.call94 Try.func94 k94 (Nat.le_of_ble_eq_true rfl) ?_
  unfold c94
  by_cases he : ierr x = 0
  · rw [found, if_pos he]
    have hr := (ierr0.1 he).1
    (repeat' first
    | (refine AWPC.of_vcn rfl ?_; simp only [zT, drp, hasN, Bool.or_false, Bool.false_or, Bool.or_true, Bool.true_or, Classical.not_not, zS, vcC, exs, exd, pickV, alS, Al.ob, grd, ex, ov, gt, argE, strp, cnd, sideL, I.os, st, wrap, keep, binA, kseq, kblk, kret, klp, resL, res1, one, ocalls, obj, elems, cells, scalar, vs, pick1, fillA, splice, chop, eqC, Nat.reduceBEq, Nat.reduceAdd, Nat.reduceSub, Nat.reduceLT, Nat.reduceLeDiff, Nat.reduceMul, Nat.reduceEqDiff, cond_true, cond_false, if_true, if_false, reduceIte, implies_true, forall_const, ne_eq])
    | (simp (disch := omega) only [wr64, Int.zero_sub]; try simp only [zT, drp, hasN, Bool.or_false, Bool.false_or, Bool.or_true, Bool.true_or, Classical.not_not, zS, vcC, exs, exd, pickV, alS, Al.ob, grd, ex, ov, gt, argE, strp, cnd, sideL, I.os, st, wrap, keep, binA, kseq, kblk, kret, klp, resL, res1, one, ocalls, obj, elems, cells, scalar, vs, pick1, fillA, splice, chop, eqC, Nat.reduceBEq, Nat.reduceAdd, Nat.reduceSub, Nat.reduceLT, Nat.reduceLeDiff, Nat.reduceMul, Nat.reduceEqDiff, cond_true, cond_false, if_true, if_false, reduceIte, implies_true, forall_const, ne_eq])
    | (refine AWPC.both (fun _ => ?_) (fun _ => ?_))
    | (refine AWPC.imp (fun _ => ?_))
    | ((repeat (refine And.intro (by (intros; simp_all (config := { decide := false }); done)) ?_)); (first
      | (refine .inl ⟨_, _, _, _, rfl, fun _hc => ⟨by simp, checkInked_spec x hx⟩, ?_⟩)
      | (refine ⟨_, _, _, _, rfl, fun _hc => ⟨by simp, checkInked_spec x hx⟩, ?_⟩)
      | fail); (first | (refine owp_of_exs ?_; simp only [zT, drp, hasN, Bool.or_false, Bool.false_or, Bool.or_true, Bool.true_or, Classical.not_not, zS, vcC, exs, exd, pickV, alS, Al.ob, grd, ex, ov, gt, argE, strp, cnd, sideL, I.os, st, wrap, keep, binA, kseq, kblk, kret, klp, resL, res1, one, ocalls, obj, elems, cells, scalar, vs, pick1, fillA, splice, chop, eqC, Nat.reduceBEq, Nat.reduceAdd, Nat.reduceSub, Nat.reduceLT, Nat.reduceLeDiff, Nat.reduceMul, Nat.reduceEqDiff, cond_true, cond_false, if_true, if_false, reduceIte, implies_true, forall_const, ne_eq]) | (refine pre_of_exd ?_; simp only [zT, drp, hasN, Bool.or_false, Bool.false_or, Bool.or_true, Bool.true_or, Classical.not_not, zS, vcC, exs, exd, pickV, alS, Al.ob, grd, ex, ov, gt, argE, strp, cnd, sideL, I.os, st, wrap, keep, binA, kseq, kblk, kret, klp, resL, res1, one, ocalls, obj, elems, cells, scalar, vs, pick1, fillA, splice, chop, eqC, Nat.reduceBEq, Nat.reduceAdd, Nat.reduceSub, Nat.reduceLT, Nat.reduceLeDiff, Nat.reduceMul, Nat.reduceEqDiff, cond_true, cond_false, if_true, if_false, reduceIte, implies_true, forall_const, ne_eq]) | fail))
    | ((refine .inl ⟨_, _, _, .any, rfl, fun h => absurd h Bool.false_ne_true, ?_⟩); (first | (refine owp_of_exs ?_; simp only [zT, drp, hasN, Bool.or_false, Bool.false_or, Bool.or_true, Bool.true_or, Classical.not_not, zS, vcC, exs, exd, pickV, alS, Al.ob, grd, ex, ov, gt, argE, strp, cnd, sideL, I.os, st, wrap, keep, binA, kseq, kblk, kret, klp, resL, res1, one, ocalls, obj, elems, cells, scalar, vs, pick1, fillA, splice, chop, eqC, Nat.reduceBEq, Nat.reduceAdd, Nat.reduceSub, Nat.reduceLT, Nat.reduceLeDiff, Nat.reduceMul, Nat.reduceEqDiff, cond_true, cond_false, if_true, if_false, reduceIte, implies_true, forall_const, ne_eq]) | fail))
    | (refine ⟨by omega, ?_⟩)
    | fail)
    · exfalso; omega
    refine AWPC.own0 3 1 7 rfl ?_
    simp only [zS, vcC, exs, exd, pickV, alS, Al.ob, grd, ex, ov, gt, argE, strp, cnd, sideL, I.os, st, wrap, keep, binA, kseq, kblk, kret, klp, resL, res1, one, ocalls, obj, elems, cells, scalar, vs, pick1, fillA, splice, chop, eqC, Nat.reduceBEq, Nat.reduceAdd, Nat.reduceSub, Nat.reduceLT, Nat.reduceLeDiff, Nat.reduceMul, Nat.reduceEqDiff, cond_true, cond_false, if_true, if_false, reduceIte, implies_true, forall_const, ne_eq]
    refine AWPC.loopE (α := { y : Nat × List Int // y.1 ≤ x.length ∧ y.2.length ≤ y.1 ∧ y.2 ++ idx q y.1 (x.drop y.1) = idx q 0 x }) [7, 18] (fun y => [(7, .own 0 0 y.1.2.length), (18, n y.1.1)])
      (fun y => [some [⟨3, 1, y.1.2.map (fun z => [n z]), none⟩]]) (fun y => x.length - y.1.1) ⟨(0, []), by simp, by simp, by simp⟩ ?_ rfl ?_
    · (simp only [zT, drp, hasN, Bool.or_false, Bool.false_or, Bool.or_true, Bool.true_or, Classical.not_not, zS, vcC, exs, exd, pickV, alS, Al.ob, grd, ex, ov, gt, argE, strp, cnd, sideL, I.os, st, wrap, keep, binA, kseq, kblk, kret, klp, resL, res1, one, ocalls, obj, elems, cells, scalar, vs, pick1, fillA, splice, chop, eqC, Nat.reduceBEq, Nat.reduceAdd, Nat.reduceSub, Nat.reduceLT, Nat.reduceLeDiff, Nat.reduceMul, Nat.reduceEqDiff, cond_true, cond_false, if_true, if_false, reduceIte, implies_true, forall_const, ne_eq]; try simp)
    · rintro ⟨⟨i, acc⟩, hi, hal, hacc⟩
      simp only at hi hal hacc
      by_cases hlt : i < x.length
      · obtain ⟨l, hl⟩ : ∃ l, x[i]? = some l := ⟨_, List.getElem?_eq_getElem hlt⟩
        have hc := hq l (List.mem_of_getElem? hl)
        rw [drop_cons hl, idx] at hacc
        (repeat' first
    | (refine AWPC.of_vcn rfl ?_; simp only [zT, drp, hasN, Bool.or_false, Bool.false_or, Bool.or_true, Bool.true_or, Classical.not_not, zS, vcC, exs, exd, pickV, alS, Al.ob, grd, ex, ov, gt, argE, strp, cnd, sideL, I.os, st, wrap, keep, binA, kseq, kblk, kret, klp, resL, res1, one, ocalls, obj, elems, cells, scalar, vs, pick1, fillA, splice, chop, eqC, Nat.reduceBEq, Nat.reduceAdd, Nat.reduceSub, Nat.reduceLT, Nat.reduceLeDiff, Nat.reduceMul, Nat.reduceEqDiff, cond_true, cond_false, if_true, if_false, reduceIte, implies_true, forall_const, ne_eq, getD_map hl])
    | (simp (disch := omega) only [wr64, Int.zero_sub]; try simp only [zT, drp, hasN, Bool.or_false, Bool.false_or, Bool.or_true, Bool.true_or, Classical.not_not, zS, vcC, exs, exd, pickV, alS, Al.ob, grd, ex, ov, gt, argE, strp, cnd, sideL, I.os, st, wrap, keep, binA, kseq, kblk, kret, klp, resL, res1, one, ocalls, obj, elems, cells, scalar, vs, pick1, fillA, splice, chop, eqC, Nat.reduceBEq, Nat.reduceAdd, Nat.reduceSub, Nat.reduceLT, Nat.reduceLeDiff, Nat.reduceMul, Nat.reduceEqDiff, cond_true, cond_false, if_true, if_false, reduceIte, implies_true, forall_const, ne_eq, getD_map hl])
    | (refine AWPC.both (fun _ => ?_) (fun _ => ?_))
    | (refine AWPC.imp (fun _ => ?_))
    | ((repeat (refine And.intro (by (intros; simp_all (config := { decide := false }); done)) ?_)); (first
      | (refine .inl ⟨_, _, _, _, rfl, fun _hc => ⟨by simp, hc⟩, ?_⟩)
      | (refine ⟨_, _, _, _, rfl, fun _hc => ⟨by simp, hc⟩, ?_⟩)
      | fail); (first | (refine owp_of_exs ?_; simp only [zT, drp, hasN, Bool.or_false, Bool.false_or, Bool.or_true, Bool.true_or, Classical.not_not, zS, vcC, exs, exd, pickV, alS, Al.ob, grd, ex, ov, gt, argE, strp, cnd, sideL, I.os, st, wrap, keep, binA, kseq, kblk, kret, klp, resL, res1, one, ocalls, obj, elems, cells, scalar, vs, pick1, fillA, splice, chop, eqC, Nat.reduceBEq, Nat.reduceAdd, Nat.reduceSub, Nat.reduceLT, Nat.reduceLeDiff, Nat.reduceMul, Nat.reduceEqDiff, cond_true, cond_false, if_true, if_false, reduceIte, implies_true, forall_const, ne_eq, getD_map hl]) | (refine pre_of_exd ?_; simp only [zT, drp, hasN, Bool.or_false, Bool.false_or, Bool.or_true, Bool.true_or, Classical.not_not, zS, vcC, exs, exd, pickV, alS, Al.ob, grd, ex, ov, gt, argE, strp, cnd, sideL, I.os, st, wrap, keep, binA, kseq, kblk, kret, klp, resL, res1, one, ocalls, obj, elems, cells, scalar, vs, pick1, fillA, splice, chop, eqC, Nat.reduceBEq, Nat.reduceAdd, Nat.reduceSub, Nat.reduceLT, Nat.reduceLeDiff, Nat.reduceMul, Nat.reduceEqDiff, cond_true, cond_false, if_true, if_false, reduceIte, implies_true, forall_const, ne_eq, getD_map hl]) | fail))
    | ((refine .inl ⟨_, _, _, .any, rfl, fun h => absurd h Bool.false_ne_true, ?_⟩); (first | (refine owp_of_exs ?_; simp only [zT, drp, hasN, Bool.or_false, Bool.false_or, Bool.or_true, Bool.true_or, Classical.not_not, zS, vcC, exs, exd, pickV, alS, Al.ob, grd, ex, ov, gt, argE, strp, cnd, sideL, I.os, st, wrap, keep, binA, kseq, kblk, kret, klp, resL, res1, one, ocalls, obj, elems, cells, scalar, vs, pick1, fillA, splice, chop, eqC, Nat.reduceBEq, Nat.reduceAdd, Nat.reduceSub, Nat.reduceLT, Nat.reduceLeDiff, Nat.reduceMul, Nat.reduceEqDiff, cond_true, cond_false, if_true, if_false, reduceIte, implies_true, forall_const, ne_eq, getD_map hl]) | fail))
    | (refine ⟨by omega, ?_⟩)
    | fail)
        all_goals try (exfalso; omega)
        · rename_i h
          rw [h] at hacc
          exact ⟨⟨(i + 1, acc ++ [(i : Int)]), hlt, by simp; omega, by simpa using hacc⟩, ⟨by simp, by simp⟩, by simp, by simp only; omega⟩
        · rename_i h
          rw [h] at hacc
          exact ⟨⟨(i + 1, acc), hlt, by simp only; omega, hacc⟩, ⟨by simp, by simp⟩, by simp, by simp only; omega⟩
      · obtain rfl : i = x.length := by omega
        rw [List.drop_length, idx, List.append_nil] at hacc
        (repeat' first
    | (refine AWPC.of_vcn rfl ?_; simp only [zT, drp, hasN, Bool.or_false, Bool.false_or, Bool.or_true, Bool.true_or, Classical.not_not, zS, vcC, exs, exd, pickV, alS, Al.ob, grd, ex, ov, gt, argE, strp, cnd, sideL, I.os, st, wrap, keep, binA, kseq, kblk, kret, klp, resL, res1, one, ocalls, obj, elems, cells, scalar, vs, pick1, fillA, splice, chop, eqC, Nat.reduceBEq, Nat.reduceAdd, Nat.reduceSub, Nat.reduceLT, Nat.reduceLeDiff, Nat.reduceMul, Nat.reduceEqDiff, cond_true, cond_false, if_true, if_false, reduceIte, implies_true, forall_const, ne_eq])
    | (simp (disch := omega) only [wr64, Int.zero_sub]; try simp only [zT, drp, hasN, Bool.or_false, Bool.false_or, Bool.or_true, Bool.true_or, Classical.not_not, zS, vcC, exs, exd, pickV, alS, Al.ob, grd, ex, ov, gt, argE, strp, cnd, sideL, I.os, st, wrap, keep, binA, kseq, kblk, kret, klp, resL, res1, one, ocalls, obj, elems, cells, scalar, vs, pick1, fillA, splice, chop, eqC, Nat.reduceBEq, Nat.reduceAdd, Nat.reduceSub, Nat.reduceLT, Nat.reduceLeDiff, Nat.reduceMul, Nat.reduceEqDiff, cond_true, cond_false, if_true, if_false, reduceIte, implies_true, forall_const, ne_eq])
    | (refine AWPC.both (fun _ => ?_) (fun _ => ?_))
    | (refine AWPC.imp (fun _ => ?_))
    | ((refine .inl ⟨_, _, _, .any, rfl, fun h => absurd h Bool.false_ne_true, ?_⟩); (first | (refine owp_of_exs ?_; simp only [zT, drp, hasN, Bool.or_false, Bool.false_or, Bool.or_true, Bool.true_or, Classical.not_not, zS, vcC, exs, exd, pickV, alS, Al.ob, grd, ex, ov, gt, argE, strp, cnd, sideL, I.os, st, wrap, keep, binA, kseq, kblk, kret, klp, resL, res1, one, ocalls, obj, elems, cells, scalar, vs, pick1, fillA, splice, chop, eqC, Nat.reduceBEq, Nat.reduceAdd, Nat.reduceSub, Nat.reduceLT, Nat.reduceLeDiff, Nat.reduceMul, Nat.reduceEqDiff, cond_true, cond_false, if_true, if_false, reduceIte, implies_true, forall_const, ne_eq]) | fail))
    | (refine ⟨by omega, ?_⟩)
    | fail)
        all_goals try (exfalso; omega)
        refine Frz.tup rfl (fun i hi => ?_)
        match i, hi with
        | 0, _ => rw [← hacc]; exact frz_in acc rfl rfl
        | 1, _ => exact Frz.eq rfl (by simp)
  · rw [found, if_neg he]
    (repeat' first
    | (refine AWPC.of_vcn rfl ?_; simp only [zT, drp, hasN, Bool.or_false, Bool.false_or, Bool.or_true, Bool.true_or, Classical.not_not, zS, vcC, exs, exd, pickV, alS, Al.ob, grd, ex, ov, gt, argE, strp, cnd, sideL, I.os, st, wrap, keep, binA, kseq, kblk, kret, klp, resL, res1, one, ocalls, obj, elems, cells, scalar, vs, pick1, fillA, splice, chop, eqC, Nat.reduceBEq, Nat.reduceAdd, Nat.reduceSub, Nat.reduceLT, Nat.reduceLeDiff, Nat.reduceMul, Nat.reduceEqDiff, cond_true, cond_false, if_true, if_false, reduceIte, implies_true, forall_const, ne_eq])
    | (simp (disch := omega) only [wr64, Int.zero_sub]; try simp only [zT, drp, hasN, Bool.or_false, Bool.false_or, Bool.or_true, Bool.true_or, Classical.not_not, zS, vcC, exs, exd, pickV, alS, Al.ob, grd, ex, ov, gt, argE, strp, cnd, sideL, I.os, st, wrap, keep, binA, kseq, kblk, kret, klp, resL, res1, one, ocalls, obj, elems, cells, scalar, vs, pick1, fillA, splice, chop, eqC, Nat.reduceBEq, Nat.reduceAdd, Nat.reduceSub, Nat.reduceLT, Nat.reduceLeDiff, Nat.reduceMul, Nat.reduceEqDiff, cond_true, cond_false, if_true, if_false, reduceIte, implies_true, forall_const, ne_eq])
    | (refine AWPC.both (fun _ => ?_) (fun _ => ?_))
    | (refine AWPC.imp (fun _ => ?_))
    | ((repeat (refine And.intro (by (intros; simp_all (config := { decide := false }); done)) ?_)); (first
      | (refine .inl ⟨_, _, _, _, rfl, fun _hc => ⟨by simp, checkInked_spec x hx⟩, ?_⟩)
      | (refine ⟨_, _, _, _, rfl, fun _hc => ⟨by simp, checkInked_spec x hx⟩, ?_⟩)
      | fail); (first | (refine owp_of_exs ?_; simp only [zT, drp, hasN, Bool.or_false, Bool.false_or, Bool.or_true, Bool.true_or, Classical.not_not, zS, vcC, exs, exd, pickV, alS, Al.ob, grd, ex, ov, gt, argE, strp, cnd, sideL, I.os, st, wrap, keep, binA, kseq, kblk, kret, klp, resL, res1, one, ocalls, obj, elems, cells, scalar, vs, pick1, fillA, splice, chop, eqC, Nat.reduceBEq, Nat.reduceAdd, Nat.reduceSub, Nat.reduceLT, Nat.reduceLeDiff, Nat.reduceMul, Nat.reduceEqDiff, cond_true, cond_false, if_true, if_false, reduceIte, implies_true, forall_const, ne_eq]) | (refine pre_of_exd ?_; simp only [zT, drp, hasN, Bool.or_false, Bool.false_or, Bool.or_true, Bool.true_or, Classical.not_not, zS, vcC, exs, exd, pickV, alS, Al.ob, grd, ex, ov, gt, argE, strp, cnd, sideL, I.os, st, wrap, keep, binA, kseq, kblk, kret, klp, resL, res1, one, ocalls, obj, elems, cells, scalar, vs, pick1, fillA, splice, chop, eqC, Nat.reduceBEq, Nat.reduceAdd, Nat.reduceSub, Nat.reduceLT, Nat.reduceLeDiff, Nat.reduceMul, Nat.reduceEqDiff, cond_true, cond_false, if_true, if_false, reduceIte, implies_true, forall_const, ne_eq]) | fail))
    | ((refine .inl ⟨_, _, _, .any, rfl, fun h => absurd h Bool.false_ne_true, ?_⟩); (first | (refine owp_of_exs ?_; simp only [zT, drp, hasN, Bool.or_false, Bool.false_or, Bool.or_true, Bool.true_or, Classical.not_not, zS, vcC, exs, exd, pickV, alS, Al.ob, grd, ex, ov, gt, argE, strp, cnd, sideL, I.os, st, wrap, keep, binA, kseq, kblk, kret, klp, resL, res1, one, ocalls, obj, elems, cells, scalar, vs, pick1, fillA, splice, chop, eqC, Nat.reduceBEq, Nat.reduceAdd, Nat.reduceSub, Nat.reduceLT, Nat.reduceLeDiff, Nat.reduceMul, Nat.reduceEqDiff, cond_true, cond_false, if_true, if_false, reduceIte, implies_true, forall_const, ne_eq]) | fail))
    | (refine ⟨by omega, ?_⟩)
    | fail)
    all_goals try (exfalso; omega)
    refine Frz.tup rfl (fun i hi => ?_)
    match i, hi with
    | 0, _ => exact Frz.nil
    | 1, _ => exact Frz.eq rfl (by simp)

theorem gap1_spec (l : List Sp) : Pure Try.prog 95 [spS l] (bl (decide (l.length = 0))) := by
  refine Pure.of_body Try.call95 Try.func95 k95 (Nat.le_of_ble_eq_true rfl) ?_
  unfold c95
  (repeat' first
    | (refine AWPC.of_vcn rfl ?_; simp only [zT, drp, hasN, Bool.or_false, Bool.false_or, Bool.or_true, Bool.true_or, Classical.not_not, zS, vcC, exs, exd, pickV, alS, Al.ob, grd, ex, ov, gt, argE, strp, cnd, sideL, I.os, st, wrap, keep, binA, kseq, kblk, kret, klp, resL, res1, one, ocalls, obj, elems, cells, scalar, vs, pick1, fillA, splice, chop, eqC, Nat.reduceBEq, Nat.reduceAdd, Nat.reduceSub, Nat.reduceLT, Nat.reduceLeDiff, Nat.reduceMul, Nat.reduceEqDiff, cond_true, cond_false, if_true, if_false, reduceIte, implies_true, forall_const, ne_eq])
    | (simp (disch := omega) only [wr64, Int.zero_sub]; try simp only [zT, drp, hasN, Bool.or_false, Bool.false_or, Bool.or_true, Bool.true_or, Classical.not_not, zS, vcC, exs, exd, pickV, alS, Al.ob, grd, ex, ov, gt, argE, strp, cnd, sideL, I.os, st, wrap, keep, binA, kseq, kblk, kret, klp, resL, res1, one, ocalls, obj, elems, cells, scalar, vs, pick1, fillA, splice, chop, eqC, Nat.reduceBEq, Nat.reduceAdd, Nat.reduceSub, Nat.reduceLT, Nat.reduceLeDiff, Nat.reduceMul, Nat.reduceEqDiff, cond_true, cond_false, if_true, if_false, reduceIte, implies_true, forall_const, ne_eq])
    | (refine AWPC.both (fun _ => ?_) (fun _ => ?_))
    | (refine AWPC.imp (fun _ => ?_))
    | ((refine .inl ⟨_, _, _, .any, rfl, fun h => absurd h Bool.false_ne_true, ?_⟩); (first | (refine owp_of_exs ?_; simp only [zT, drp, hasN, Bool.or_false, Bool.false_or, Bool.or_true, Bool.true_or, Classical.not_not, zS, vcC, exs, exd, pickV, alS, Al.ob, grd, ex, ov, gt, argE, strp, cnd, sideL, I.os, st, wrap, keep, binA, kseq, kblk, kret, klp, resL, res1, one, ocalls, obj, elems, cells, scalar, vs, pick1, fillA, splice, chop, eqC, Nat.reduceBEq, Nat.reduceAdd, Nat.reduceSub, Nat.reduceLT, Nat.reduceLeDiff, Nat.reduceMul, Nat.reduceEqDiff, cond_true, cond_false, if_true, if_false, reduceIte, implies_true, forall_const, ne_eq]) | fail))
    | (refine ⟨by omega, ?_⟩)
    | fail)
  exact Frz.eq (congrArg bl (decide_eq_decide.2 (by omega))) (by simp)

theorem cross1_spec (l : List Sp) : Pure Try.prog 97 [spS l] (bl (decide (1 < l.length))) := by
  refine Pure.of_body Try.call97 Try.func97 k97 (Nat.le_of_ble_eq_true rfl) ?_
  unfold c97
  (repeat' first
    | (refine AWPC.of_vcn rfl ?_; simp only [zT, drp, hasN, Bool.or_false, Bool.false_or, Bool.or_true, Bool.true_or, Classical.not_not, zS, vcC, exs, exd, pickV, alS, Al.ob, grd, ex, ov, gt, argE, strp, cnd, sideL, I.os, st, wrap, keep, binA, kseq, kblk, kret, klp, resL, res1, one, ocalls, obj, elems, cells, scalar, vs, pick1, fillA, splice, chop, eqC, Nat.reduceBEq, Nat.reduceAdd, Nat.reduceSub, Nat.reduceLT, Nat.reduceLeDiff, Nat.reduceMul, Nat.reduceEqDiff, cond_true, cond_false, if_true, if_false, reduceIte, implies_true, forall_const, ne_eq])
    | (simp (disch := omega) only [wr64, Int.zero_sub]; try simp only [zT, drp, hasN, Bool.or_false, Bool.false_or, Bool.or_true, Bool.true_or, Classical.not_not, zS, vcC, exs, exd, pickV, alS, Al.ob, grd, ex, ov, gt, argE, strp, cnd, sideL, I.os, st, wrap, keep, binA, kseq, kblk, kret, klp, resL, res1, one, ocalls, obj, elems, cells, scalar, vs, pick1, fillA, splice, chop, eqC, Nat.reduceBEq, Nat.reduceAdd, Nat.reduceSub, Nat.reduceLT, Nat.reduceLeDiff, Nat.reduceMul, Nat.reduceEqDiff, cond_true, cond_false, if_true, if_false, reduceIte, implies_true, forall_const, ne_eq])
    | (refine AWPC.both (fun _ => ?_) (fun _ => ?_))
    | (refine AWPC.imp (fun _ => ?_))
    | ((refine .inl ⟨_, _, _, .any, rfl, fun h => absurd h Bool.false_ne_true, ?_⟩); (first | (refine owp_of_exs ?_; simp only [zT, drp, hasN, Bool.or_false, Bool.false_or, Bool.or_true, Bool.true_or, Classical.not_not, zS, vcC, exs, exd, pickV, alS, Al.ob, grd, ex, ov, gt, argE, strp, cnd, sideL, I.os, st, wrap, keep, binA, kseq, kblk, kret, klp, resL, res1, one, ocalls, obj, elems, cells, scalar, vs, pick1, fillA, splice, chop, eqC, Nat.reduceBEq, Nat.reduceAdd, Nat.reduceSub, Nat.reduceLT, Nat.reduceLeDiff, Nat.reduceMul, Nat.reduceEqDiff, cond_true, cond_false, if_true, if_false, reduceIte, implies_true, forall_const, ne_eq]) | fail))
    | (refine ⟨by omega, ?_⟩)
    | fail)
  exact Frz.eq (congrArg bl (decide_eq_decide.2 (by omega))) (by simp)

theorem Gaps_spec (x : List (List Sp)) (hx : Lens x) : Pure Try.prog 48 [ink x] (.tup [inS (found (fun l => decide (l.length = 0)) x).1, n (found (fun l => decide (l.length = 0)) x).2]) := by
  refine Pure.of_body Try.call48 Try.func48 k48 (Nat.le_of_ble_eq_true rfl) ?_
  have h := find_spec 95 (fun l => decide (l.length = 0)) x hx (fun l _ => gap1_spec l)
  unfold c48
  (repeat' first
    | (refine AWPC.of_vcn rfl ?_; simp only [zT, drp, hasN, Bool.or_false, Bool.false_or, Bool.or_true, Bool.true_or, Classical.not_not, zS, vcC, exs, exd, pickV, alS, Al.ob, grd, ex, ov, gt, argE, strp, cnd, sideL, I.os, st, wrap, keep, binA, kseq, kblk, kret, klp, resL, res1, one, ocalls, obj, elems, cells, scalar, vs, pick1, fillA, splice, chop, eqC, Nat.reduceBEq, Nat.reduceAdd, Nat.reduceSub, Nat.reduceLT, Nat.reduceLeDiff, Nat.reduceMul, Nat.reduceEqDiff, cond_true, cond_false, if_true, if_false, reduceIte, implies_true, forall_const, ne_eq])
    | (simp (disch := omega) only [wr64, Int.zero_sub]; try simp only [zT, drp, hasN, Bool.or_false, Bool.false_or, Bool.or_true, Bool.true_or, Classical.not_not, zS, vcC, exs, exd, pickV, alS, Al.ob, grd, ex, ov, gt, argE, strp, cnd, sideL, I.os, st, wrap, keep, binA, kseq, kblk, kret, klp, resL, res1, one, ocalls, obj, elems, cells, scalar, vs, pick1, fillA, splice, chop, eqC, Nat.reduceBEq, Nat.reduceAdd, Nat.reduceSub, Nat.reduceLT, Nat.reduceLeDiff, Nat.reduceMul, Nat.reduceEqDiff, cond_true, cond_false, if_true, if_false, reduceIte, implies_true, forall_const, ne_eq])
    | (refine AWPC.both (fun _ => ?_) (fun _ => ?_))
    | (refine AWPC.imp (fun _ => ?_))
    | ((repeat (refine And.intro (by (intros; simp_all (config := { decide := false }); done)) ?_)); (first
      | (refine .inl ⟨_, _, _, _, rfl, fun _hc => ⟨by simp, h⟩, ?_⟩)
      | (refine ⟨_, _, _, _, rfl, fun _hc => ⟨by simp, h⟩, ?_⟩)
      | fail); (first | (refine owp_of_exs ?_; simp only [zT, drp, hasN, Bool.or_false, Bool.false_or, Bool.or_true, Bool.true_or, Classical.not_not, zS, vcC, exs, exd, pickV, alS, Al.ob, grd, ex, ov, gt, argE, strp, cnd, sideL, I.os, st, wrap, keep, binA, kseq, kblk, kret, klp, resL, res1, one, ocalls, obj, elems, cells, scalar, vs, pick1, fillA, splice, chop, eqC, Nat.reduceBEq, Nat.reduceAdd, Nat.reduceSub, Nat.reduceLT, Nat.reduceLeDiff, Nat.reduceMul, Nat.reduceEqDiff, cond_true, cond_false, if_true, if_false, reduceIte, implies_true, forall_const, ne_eq]) | (refine pre_of_exd ?_; simp only [zT, drp, hasN, Bool.or_false, Bool.false_or, Bool.or_true, Bool.true_or, Classical.not_not, zS, vcC, exs, exd, pickV, alS, Al.ob, grd, ex, ov, gt, argE, strp, cnd, sideL, I.os, st, wrap, keep, binA, kseq, kblk, kret, klp, resL, res1, one, ocalls, obj, elems, cells, scalar, vs, pick1, fillA, splice, chop, eqC, Nat.reduceBEq, Nat.reduceAdd, Nat.reduceSub, Nat.reduceLT, Nat.reduceLeDiff, Nat.reduceMul, Nat.reduceEqDiff, cond_true, cond_false, if_true, if_false, reduceIte, implies_true, forall_const, ne_eq]) | fail))
    | ((refine .inl ⟨_, _, _, .any, rfl, fun h => absurd h Bool.false_ne_true, ?_⟩); (first | (refine owp_of_exs ?_; simp only [zT, drp, hasN, Bool.or_false, Bool.false_or, Bool.or_true, Bool.true_or, Classical.not_not, zS, vcC, exs, exd, pickV, alS, Al.ob, grd, ex, ov, gt, argE, strp, cnd, sideL, I.os, st, wrap, keep, binA, kseq, kblk, kret, klp, resL, res1, one, ocalls, obj, elems, cells, scalar, vs, pick1, fillA, splice, chop, eqC, Nat.reduceBEq, Nat.reduceAdd, Nat.reduceSub, Nat.reduceLT, Nat.reduceLeDiff, Nat.reduceMul, Nat.reduceEqDiff, cond_true, cond_false, if_true, if_false, reduceIte, implies_true, forall_const, ne_eq]) | fail))
    | (refine ⟨by omega, ?_⟩)
    | fail)
  exact Frz.eq rfl (by simp)

theorem Crossings_spec (x : List (List Sp)) (hx : Lens x) : Pure Try.prog 50 [ink x] (.tup [inS (found (fun l => decide (1 < l.length)) x).1, n (found (fun l => decide (1 < l.length)) x).2]) := by
  refine Pure.of_body Try.call50 Try.func50 k50 (Nat.le_of_ble_eq_true rfl) ?_
  have h := find_spec 97 (fun l => decide (1 < l.length)) x hx (fun l _ => cross1_spec l)
  unfold c50
  (repeat' first
    | (refine AWPC.of_vcn rfl ?_; simp only [zT, drp, hasN, Bool.or_false, Bool.false_or, Bool.or_true, Bool.true_or, Classical.not_not, zS, vcC, exs, exd, pickV, alS, Al.ob, grd, ex, ov, gt, argE, strp, cnd, sideL, I.os, st, wrap, keep, binA, kseq, kblk, kret, klp, resL, res1, one, ocalls, obj, elems, cells, scalar, vs, pick1, fillA, splice, chop, eqC, Nat.reduceBEq, Nat.reduceAdd, Nat.reduceSub, Nat.reduceLT, Nat.reduceLeDiff, Nat.reduceMul, Nat.reduceEqDiff, cond_true, cond_false, if_true, if_false, reduceIte, implies_true, forall_const, ne_eq])
    | (simp (disch := omega) only [wr64, Int.zero_sub]; try simp only [zT, drp, hasN, Bool.or_false, Bool.false_or, Bool.or_true, Bool.true_or, Classical.not_not, zS, vcC, exs, exd, pickV, alS, Al.ob, grd, ex, ov, gt, argE, strp, cnd, sideL, I.os, st, wrap, keep, binA, kseq, kblk, kret, klp, resL, res1, one, ocalls, obj, elems, cells, scalar, vs, pick1, fillA, splice, chop, eqC, Nat.reduceBEq, Nat.reduceAdd, Nat.reduceSub, Nat.reduceLT, Nat.reduceLeDiff, Nat.reduceMul, Nat.reduceEqDiff, cond_true, cond_false, if_true, if_false, reduceIte, implies_true, forall_const, ne_eq])
    | (refine AWPC.both (fun _ => ?_) (fun _ => ?_))
    | (refine AWPC.imp (fun _ => ?_))
    | ((repeat (refine And.intro (by (intros; simp_all (config := { decide := false }); done)) ?_)); (first
      | (refine .inl ⟨_, _, _, _, rfl, fun _hc => ⟨by simp, h⟩, ?_⟩)
      | (refine ⟨_, _, _, _, rfl, fun _hc => ⟨by simp, h⟩, ?_⟩)
      | fail); (first | (refine owp_of_exs ?_; simp only [zT, drp, hasN, Bool.or_false, Bool.false_or, Bool.or_true, Bool.true_or, Classical.not_not, zS, vcC, exs, exd, pickV, alS, Al.ob, grd, ex, ov, gt, argE, strp, cnd, sideL, I.os, st, wrap, keep, binA, kseq, kblk, kret, klp, resL, res1, one, ocalls, obj, elems, cells, scalar, vs, pick1, fillA, splice, chop, eqC, Nat.reduceBEq, Nat.reduceAdd, Nat.reduceSub, Nat.reduceLT, Nat.reduceLeDiff, Nat.reduceMul, Nat.reduceEqDiff, cond_true, cond_false, if_true, if_false, reduceIte, implies_true, forall_const, ne_eq]) | (refine pre_of_exd ?_; simp only [zT, drp, hasN, Bool.or_false, Bool.false_or, Bool.or_true, Bool.true_or, Classical.not_not, zS, vcC, exs, exd, pickV, alS, Al.ob, grd, ex, ov, gt, argE, strp, cnd, sideL, I.os, st, wrap, keep, binA, kseq, kblk, kret, klp, resL, res1, one, ocalls, obj, elems, cells, scalar, vs, pick1, fillA, splice, chop, eqC, Nat.reduceBEq, Nat.reduceAdd, Nat.reduceSub, Nat.reduceLT, Nat.reduceLeDiff, Nat.reduceMul, Nat.reduceEqDiff, cond_true, cond_false, if_true, if_false, reduceIte, implies_true, forall_const, ne_eq]) | fail))
    | ((refine .inl ⟨_, _, _, .any, rfl, fun h => absurd h Bool.false_ne_true, ?_⟩); (first | (refine owp_of_exs ?_; simp only [zT, drp, hasN, Bool.or_false, Bool.false_or, Bool.or_true, Bool.true_or, Classical.not_not, zS, vcC, exs, exd, pickV, alS, Al.ob, grd, ex, ov, gt, argE, strp, cnd, sideL, I.os, st, wrap, keep, binA, kseq, kblk, kret, klp, resL, res1, one, ocalls, obj, elems, cells, scalar, vs, pick1, fillA, splice, chop, eqC, Nat.reduceBEq, Nat.reduceAdd, Nat.reduceSub, Nat.reduceLT, Nat.reduceLeDiff, Nat.reduceMul, Nat.reduceEqDiff, cond_true, cond_false, if_true, if_false, reduceIte, implies_true, forall_const, ne_eq]) | fail))
    | (refine ⟨by omega, ?_⟩)
    | fail)
  exact Frz.eq rfl (by simp)

theorem sized_spec (a b : Int) (x : List (List Sp)) (hx : Lens x) : Pure Try.prog 96 [ink x, n a, n b] (.tup [inS (found (fun l => decide (a ≤ l.length ∧ l.length ≤ b)) x).1, n (found (fun l => decide (a ≤ l.length ∧ l.length ≤ b)) x).2]) := by
  refine Pure.of_body Try.call96 Try.func96 k96 (Nat.le_of_ble_eq_true rfl) ?_
  unfold c96
  by_cases he : ierr x = 0
  · rw [found, if_pos he]
    have hr := (ierr0.1 he).1
    (repeat' first
    | (refine AWPC.of_vcn rfl ?_; simp only [zT, drp, hasN, Bool.or_false, Bool.false_or, Bool.or_true, Bool.true_or, Classical.not_not, zS, vcC, exs, exd, pickV, alS, Al.ob, grd, ex, ov, gt, argE, strp, cnd, sideL, I.os, st, wrap, keep, binA, kseq, kblk, kret, klp, resL, res1, one, ocalls, obj, elems, cells, scalar, vs, pick1, fillA, splice, chop, eqC, Nat.reduceBEq, Nat.reduceAdd, Nat.reduceSub, Nat.reduceLT, Nat.reduceLeDiff, Nat.reduceMul, Nat.reduceEqDiff, cond_true, cond_false, if_true, if_false, reduceIte, implies_true, forall_const, ne_eq])
    | (simp (disch := omega) only [wr64, Int.zero_sub]; try simp only [zT, drp, hasN, Bool.or_false, Bool.false_or, Bool.or_true, Bool.true_or, Classical.not_not, zS, vcC, exs, exd, pickV, alS, Al.ob, grd, ex, ov, gt, argE, strp, cnd, sideL, I.os, st, wrap, keep, binA, kseq, kblk, kret, klp, resL, res1, one, ocalls, obj, elems, cells, scalar, vs, pick1, fillA, splice, chop, eqC, Nat.reduceBEq, Nat.reduceAdd, Nat.reduceSub, Nat.reduceLT, Nat.reduceLeDiff, Nat.reduceMul, Nat.reduceEqDiff, cond_true, cond_false, if_true, if_false, reduceIte, implies_true, forall_const, ne_eq])
    | (refine AWPC.both (fun _ => ?_) (fun _ => ?_))
    | (refine AWPC.imp (fun _ => ?_))
    | ((repeat (refine And.intro (by (intros; simp_all (config := { decide := false }); done)) ?_)); (first
      | (refine .inl ⟨_, _, _, _, rfl, fun _hc => ⟨by simp, rcheckInked_spec x hx⟩, ?_⟩)
      | (refine ⟨_, _, _, _, rfl, fun _hc => ⟨by simp, rcheckInked_spec x hx⟩, ?_⟩)
      | fail); (first | (refine owp_of_exs ?_; simp only [zT, drp, hasN, Bool.or_false, Bool.false_or, Bool.or_true, Bool.true_or, Classical.not_not, zS, vcC, exs, exd, pickV, alS, Al.ob, grd, ex, ov, gt, argE, strp, cnd, sideL, I.os, st, wrap, keep, binA, kseq, kblk, kret, klp, resL, res1, one, ocalls, obj, elems, cells, scalar, vs, pick1, fillA, splice, chop, eqC, Nat.reduceBEq, Nat.reduceAdd, Nat.reduceSub, Nat.reduceLT, Nat.reduceLeDiff, Nat.reduceMul, Nat.reduceEqDiff, cond_true, cond_false, if_true, if_false, reduceIte, implies_true, forall_const, ne_eq]) | (refine pre_of_exd ?_; simp only [zT, drp, hasN, Bool.or_false, Bool.false_or, Bool.or_true, Bool.true_or, Classical.not_not, zS, vcC, exs, exd, pickV, alS, Al.ob, grd, ex, ov, gt, argE, strp, cnd, sideL, I.os, st, wrap, keep, binA, kseq, kblk, kret, klp, resL, res1, one, ocalls, obj, elems, cells, scalar, vs, pick1, fillA, splice, chop, eqC, Nat.reduceBEq, Nat.reduceAdd, Nat.reduceSub, Nat.reduceLT, Nat.reduceLeDiff, Nat.reduceMul, Nat.reduceEqDiff, cond_true, cond_false, if_true, if_false, reduceIte, implies_true, forall_const, ne_eq]) | fail))
    | ((refine .inl ⟨_, _, _, .any, rfl, fun h => absurd h Bool.false_ne_true, ?_⟩); (first | (refine owp_of_exs ?_; simp only [zT, drp, hasN, Bool.or_false, Bool.false_or, Bool.or_true, Bool.true_or, Classical.not_not, zS, vcC, exs, exd, pickV, alS, Al.ob, grd, ex, ov, gt, argE, strp, cnd, sideL, I.os, st, wrap, keep, binA, kseq, kblk, kret, klp, resL, res1, one, ocalls, obj, elems, cells, scalar, vs, pick1, fillA, splice, chop, eqC, Nat.reduceBEq, Nat.reduceAdd, Nat.reduceSub, Nat.reduceLT, Nat.reduceLeDiff, Nat.reduceMul, Nat.reduceEqDiff, cond_true, cond_false, if_true, if_false, reduceIte, implies_true, forall_const, ne_eq]) | fail))
    | (refine ⟨by omega, ?_⟩)
    | fail)
    · exfalso; omega
    refine AWPC.own0 3 1 8 rfl ?_
    simp only [zS, vcC, exs, exd, pickV, alS, Al.ob, grd, ex, ov, gt, argE, strp, cnd, sideL, I.os, st, wrap, keep, binA, kseq, kblk, kret, klp, resL, res1, one, ocalls, obj, elems, cells, scalar, vs, pick1, fillA, splice, chop, eqC, Nat.reduceBEq, Nat.reduceAdd, Nat.reduceSub, Nat.reduceLT, Nat.reduceLeDiff, Nat.reduceMul, Nat.reduceEqDiff, cond_true, cond_false, if_true, if_false, reduceIte, implies_true, forall_const, ne_eq]
    refine AWPC.loopE (α := { y : Nat × List Int // y.1 ≤ x.length ∧ y.2.length ≤ y.1 ∧ y.2 ++ idx (fun l => decide (a ≤ l.length ∧ l.length ≤ b)) y.1 (x.drop y.1) = idx (fun l => decide (a ≤ l.length ∧ l.length ≤ b)) 0 x }) [8, 9] (fun y => [(8, .own 0 0 y.1.2.length), (9, n y.1.1)])
      (fun y => [some [⟨3, 1, y.1.2.map (fun z => [n z]), none⟩]]) (fun y => x.length - y.1.1) ⟨(0, []), by simp, by simp, by simp⟩ ?_ rfl ?_
    · (simp only [zT, drp, hasN, Bool.or_false, Bool.false_or, Bool.or_true, Bool.true_or, Classical.not_not, zS, vcC, exs, exd, pickV, alS, Al.ob, grd, ex, ov, gt, argE, strp, cnd, sideL, I.os, st, wrap, keep, binA, kseq, kblk, kret, klp, resL, res1, one, ocalls, obj, elems, cells, scalar, vs, pick1, fillA, splice, chop, eqC, Nat.reduceBEq, Nat.reduceAdd, Nat.reduceSub, Nat.reduceLT, Nat.reduceLeDiff, Nat.reduceMul, Nat.reduceEqDiff, cond_true, cond_false, if_true, if_false, reduceIte, implies_true, forall_const, ne_eq]; try simp)
    · rintro ⟨⟨i, acc⟩, hi, hal, hacc⟩
      simp only at hi hal hacc
      by_cases hlt : i < x.length
      · obtain ⟨l, hl⟩ : ∃ l, x[i]? = some l := ⟨_, List.getElem?_eq_getElem hlt⟩
        rw [drop_cons hl, idx] at hacc
        (repeat' first
    | (refine AWPC.of_vcn rfl ?_; simp only [zT, drp, hasN, Bool.or_false, Bool.false_or, Bool.or_true, Bool.true_or, Classical.not_not, zS, vcC, exs, exd, pickV, alS, Al.ob, grd, ex, ov, gt, argE, strp, cnd, sideL, I.os, st, wrap, keep, binA, kseq, kblk, kret, klp, resL, res1, one, ocalls, obj, elems, cells, scalar, vs, pick1, fillA, splice, chop, eqC, Nat.reduceBEq, Nat.reduceAdd, Nat.reduceSub, Nat.reduceLT, Nat.reduceLeDiff, Nat.reduceMul, Nat.reduceEqDiff, cond_true, cond_false, if_true, if_false, reduceIte, implies_true, forall_const, ne_eq, getD_map hl])
    | (simp (disch := omega) only [wr64, Int.zero_sub]; try simp only [zT, drp, hasN, Bool.or_false, Bool.false_or, Bool.or_true, Bool.true_or, Classical.not_not, zS, vcC, exs, exd, pickV, alS, Al.ob, grd, ex, ov, gt, argE, strp, cnd, sideL, I.os, st, wrap, keep, binA, kseq, kblk, kret, klp, resL, res1, one, ocalls, obj, elems, cells, scalar, vs, pick1, fillA, splice, chop, eqC, Nat.reduceBEq, Nat.reduceAdd, Nat.reduceSub, Nat.reduceLT, Nat.reduceLeDiff, Nat.reduceMul, Nat.reduceEqDiff, cond_true, cond_false, if_true, if_false, reduceIte, implies_true, forall_const, ne_eq, getD_map hl])
    | (refine AWPC.both (fun _ => ?_) (fun _ => ?_))
    | (refine AWPC.imp (fun _ => ?_))
    | ((repeat (refine And.intro (by (intros; simp_all (config := { decide := false }); done)) ?_)); (first
      | (refine .inl ⟨_, _, _, _, rfl, fun _hc => ⟨by simp, rwithin_spec _ _ _⟩, ?_⟩)
      | (refine ⟨_, _, _, _, rfl, fun _hc => ⟨by simp, rwithin_spec _ _ _⟩, ?_⟩)
      | fail); (first | (refine owp_of_exs ?_; simp only [zT, drp, hasN, Bool.or_false, Bool.false_or, Bool.or_true, Bool.true_or, Classical.not_not, zS, vcC, exs, exd, pickV, alS, Al.ob, grd, ex, ov, gt, argE, strp, cnd, sideL, I.os, st, wrap, keep, binA, kseq, kblk, kret, klp, resL, res1, one, ocalls, obj, elems, cells, scalar, vs, pick1, fillA, splice, chop, eqC, Nat.reduceBEq, Nat.reduceAdd, Nat.reduceSub, Nat.reduceLT, Nat.reduceLeDiff, Nat.reduceMul, Nat.reduceEqDiff, cond_true, cond_false, if_true, if_false, reduceIte, implies_true, forall_const, ne_eq, getD_map hl]) | (refine pre_of_exd ?_; simp only [zT, drp, hasN, Bool.or_false, Bool.false_or, Bool.or_true, Bool.true_or, Classical.not_not, zS, vcC, exs, exd, pickV, alS, Al.ob, grd, ex, ov, gt, argE, strp, cnd, sideL, I.os, st, wrap, keep, binA, kseq, kblk, kret, klp, resL, res1, one, ocalls, obj, elems, cells, scalar, vs, pick1, fillA, splice, chop, eqC, Nat.reduceBEq, Nat.reduceAdd, Nat.reduceSub, Nat.reduceLT, Nat.reduceLeDiff, Nat.reduceMul, Nat.reduceEqDiff, cond_true, cond_false, if_true, if_false, reduceIte, implies_true, forall_const, ne_eq, getD_map hl]) | fail))
    | ((refine .inl ⟨_, _, _, .any, rfl, fun h => absurd h Bool.false_ne_true, ?_⟩); (first | (refine owp_of_exs ?_; simp only [zT, drp, hasN, Bool.or_false, Bool.false_or, Bool.or_true, Bool.true_or, Classical.not_not, zS, vcC, exs, exd, pickV, alS, Al.ob, grd, ex, ov, gt, argE, strp, cnd, sideL, I.os, st, wrap, keep, binA, kseq, kblk, kret, klp, resL, res1, one, ocalls, obj, elems, cells, scalar, vs, pick1, fillA, splice, chop, eqC, Nat.reduceBEq, Nat.reduceAdd, Nat.reduceSub, Nat.reduceLT, Nat.reduceLeDiff, Nat.reduceMul, Nat.reduceEqDiff, cond_true, cond_false, if_true, if_false, reduceIte, implies_true, forall_const, ne_eq, getD_map hl]) | fail))
    | (refine ⟨by omega, ?_⟩)
    | fail)
        all_goals try (exfalso; omega)
        · rename_i h
          rw [decide_eq_true h] at hacc
          exact ⟨⟨(i + 1, acc ++ [(i : Int)]), hlt, by simp; omega, by simpa using hacc⟩, ⟨by simp, by simp⟩, by simp, by simp only; omega⟩
        · rename_i h
          rw [decide_eq_false h] at hacc
          exact ⟨⟨(i + 1, acc), hlt, by simp only; omega, hacc⟩, ⟨by simp, by simp⟩, by simp, by simp only; omega⟩
      · obtain rfl : i = x.length := by omega
        rw [List.drop_length, idx, List.append_nil] at hacc
        (repeat' first
    | (refine AWPC.of_vcn rfl ?_; simp only [zT, drp, hasN, Bool.or_false, Bool.false_or, Bool.or_true, Bool.true_or, Classical.not_not, zS, vcC, exs, exd, pickV, alS, Al.ob, grd, ex, ov, gt, argE, strp, cnd, sideL, I.os, st, wrap, keep, binA, kseq, kblk, kret, klp, resL, res1, one, ocalls, obj, elems, cells, scalar, vs, pick1, fillA, splice, chop, eqC, Nat.reduceBEq, Nat.reduceAdd, Nat.reduceSub, Nat.reduceLT, Nat.reduceLeDiff, Nat.reduceMul, Nat.reduceEqDiff, cond_true, cond_false, if_true, if_false, reduceIte, implies_true, forall_const, ne_eq])
    | (simp (disch := omega) only [wr64, Int.zero_sub]; try simp only [zT, drp, hasN, Bool.or_false, Bool.false_or, Bool.or_true, Bool.true_or, Classical.not_not, zS, vcC, exs, exd, pickV, alS, Al.ob, grd, ex, ov, gt, argE, strp, cnd, sideL, I.os, st, wrap, keep, binA, kseq, kblk, kret, klp, resL, res1, one, ocalls, obj, elems, cells, scalar, vs, pick1, fillA, splice, chop, eqC, Nat.reduceBEq, Nat.reduceAdd, Nat.reduceSub, Nat.reduceLT, Nat.reduceLeDiff, Nat.reduceMul, Nat.reduceEqDiff, cond_true, cond_false, if_true, if_false, reduceIte, implies_true, forall_const, ne_eq])
    | (refine AWPC.both (fun _ => ?_) (fun _ => ?_))
    | (refine AWPC.imp (fun _ => ?_))
    | ((refine .inl ⟨_, _, _, .any, rfl, fun h => absurd h Bool.false_ne_true, ?_⟩); (first | (refine owp_of_exs ?_; simp only [zT, drp, hasN, Bool.or_false, Bool.false_or, Bool.or_true, Bool.true_or, Classical.not_not, zS, vcC, exs, exd, pickV, alS, Al.ob, grd, ex, ov, gt, argE, strp, cnd, sideL, I.os, st, wrap, keep, binA, kseq, kblk, kret, klp, resL, res1, one, ocalls, obj, elems, cells, scalar, vs, pick1, fillA, splice, chop, eqC, Nat.reduceBEq, Nat.reduceAdd, Nat.reduceSub, Nat.reduceLT, Nat.reduceLeDiff, Nat.reduceMul, Nat.reduceEqDiff, cond_true, cond_false, if_true, if_false, reduceIte, implies_true, forall_const, ne_eq]) | fail))
    | (refine ⟨by omega, ?_⟩)
    | fail)
        all_goals try (exfalso; omega)
        refine Frz.tup rfl (fun i hi => ?_)
        match i, hi with
        | 0, _ => rw [← hacc]; exact frz_in acc rfl rfl
        | 1, _ => exact Frz.eq rfl (by simp)
  · rw [found, if_neg he]
    have h12 : ierr x = 12 := ierr1 fun h => he (ierr0.2 h)
    (repeat' first
    | (refine AWPC.of_vcn rfl ?_; simp only [zT, drp, hasN, Bool.or_false, Bool.false_or, Bool.or_true, Bool.true_or, Classical.not_not, zS, vcC, exs, exd, pickV, alS, Al.ob, grd, ex, ov, gt, argE, strp, cnd, sideL, I.os, st, wrap, keep, binA, kseq, kblk, kret, klp, resL, res1, one, ocalls, obj, elems, cells, scalar, vs, pick1, fillA, splice, chop, eqC, Nat.reduceBEq, Nat.reduceAdd, Nat.reduceSub, Nat.reduceLT, Nat.reduceLeDiff, Nat.reduceMul, Nat.reduceEqDiff, cond_true, cond_false, if_true, if_false, reduceIte, implies_true, forall_const, ne_eq])
    | (simp (disch := omega) only [wr64, Int.zero_sub]; try simp only [zT, drp, hasN, Bool.or_false, Bool.false_or, Bool.or_true, Bool.true_or, Classical.not_not, zS, vcC, exs, exd, pickV, alS, Al.ob, grd, ex, ov, gt, argE, strp, cnd, sideL, I.os, st, wrap, keep, binA, kseq, kblk, kret, klp, resL, res1, one, ocalls, obj, elems, cells, scalar, vs, pick1, fillA, splice, chop, eqC, Nat.reduceBEq, Nat.reduceAdd, Nat.reduceSub, Nat.reduceLT, Nat.reduceLeDiff, Nat.reduceMul, Nat.reduceEqDiff, cond_true, cond_false, if_true, if_false, reduceIte, implies_true, forall_const, ne_eq])
    | (refine AWPC.both (fun _ => ?_) (fun _ => ?_))
    | (refine AWPC.imp (fun _ => ?_))
    | ((repeat (refine And.intro (by (intros; simp_all (config := { decide := false }); done)) ?_)); (first
      | (refine .inl ⟨_, _, _, _, rfl, fun _hc => ⟨by simp, rcheckInked_spec x hx⟩, ?_⟩)
      | (refine ⟨_, _, _, _, rfl, fun _hc => ⟨by simp, rcheckInked_spec x hx⟩, ?_⟩)
      | fail); (first | (refine owp_of_exs ?_; simp only [zT, drp, hasN, Bool.or_false, Bool.false_or, Bool.or_true, Bool.true_or, Classical.not_not, zS, vcC, exs, exd, pickV, alS, Al.ob, grd, ex, ov, gt, argE, strp, cnd, sideL, I.os, st, wrap, keep, binA, kseq, kblk, kret, klp, resL, res1, one, ocalls, obj, elems, cells, scalar, vs, pick1, fillA, splice, chop, eqC, Nat.reduceBEq, Nat.reduceAdd, Nat.reduceSub, Nat.reduceLT, Nat.reduceLeDiff, Nat.reduceMul, Nat.reduceEqDiff, cond_true, cond_false, if_true, if_false, reduceIte, implies_true, forall_const, ne_eq]) | (refine pre_of_exd ?_; simp only [zT, drp, hasN, Bool.or_false, Bool.false_or, Bool.or_true, Bool.true_or, Classical.not_not, zS, vcC, exs, exd, pickV, alS, Al.ob, grd, ex, ov, gt, argE, strp, cnd, sideL, I.os, st, wrap, keep, binA, kseq, kblk, kret, klp, resL, res1, one, ocalls, obj, elems, cells, scalar, vs, pick1, fillA, splice, chop, eqC, Nat.reduceBEq, Nat.reduceAdd, Nat.reduceSub, Nat.reduceLT, Nat.reduceLeDiff, Nat.reduceMul, Nat.reduceEqDiff, cond_true, cond_false, if_true, if_false, reduceIte, implies_true, forall_const, ne_eq]) | fail))
    | ((refine .inl ⟨_, _, _, .any, rfl, fun h => absurd h Bool.false_ne_true, ?_⟩); (first | (refine owp_of_exs ?_; simp only [zT, drp, hasN, Bool.or_false, Bool.false_or, Bool.or_true, Bool.true_or, Classical.not_not, zS, vcC, exs, exd, pickV, alS, Al.ob, grd, ex, ov, gt, argE, strp, cnd, sideL, I.os, st, wrap, keep, binA, kseq, kblk, kret, klp, resL, res1, one, ocalls, obj, elems, cells, scalar, vs, pick1, fillA, splice, chop, eqC, Nat.reduceBEq, Nat.reduceAdd, Nat.reduceSub, Nat.reduceLT, Nat.reduceLeDiff, Nat.reduceMul, Nat.reduceEqDiff, cond_true, cond_false, if_true, if_false, reduceIte, implies_true, forall_const, ne_eq]) | fail))
    | (refine ⟨by omega, ?_⟩)
    | fail)
    all_goals try (exfalso; omega)
    refine Frz.tup rfl (fun i hi => ?_)
    match i, hi with
    | 0, _ => exact Frz.nil
    | 1, _ => rw [h12]; exact Frz.eq rfl (by simp)

theorem idx_congr {α : Type} {q r : α → Bool} : ∀ (l : List α) (k : Nat), (∀ a ∈ l, q a = r a) → idx q k l = idx r k l
  | [], _, _ => rfl
  | a :: l, k, h => by
    unfold idx
    rw [h a (by simp), idx_congr l (k + 1) fun b hb => h b (by simp [hb])]

theorem idx_len {α : Type} (q : α → Bool) : ∀ (l : List α) (k : Nat), (idx q k l).length ≤ l.length
  | [], _ => by simp [idx]
  | a :: l, k => by
    have := idx_len q l (k + 1)
    unfold idx
    cases q a <;> simp <;> omega

theorem found_congr {q r : List Sp → Bool} {x : List (List Sp)} (h : ∀ l, good l → q l = r l) : found q x = found r x := by
  unfold found
  by_cases he : ierr x = 0
  · rw [if_pos he, if_pos he, idx_congr x 0 fun l hl => h l ((ierr0.1 he).2 l hl)]
  · rw [if_neg he, if_neg he]

theorem found_len (q : List Sp → Bool) (x : List (List Sp)) : (found q x).1.length ≤ 200 := by
  unfold found
  by_cases he : ierr x = 0
  · rw [if_pos he]
    have := idx_len q x 0
    have := (ierr0.1 he).1
    simp only; omega
  · rw [if_neg he]; simp

theorem rGaps_spec (x : List (List Sp)) (hx : Lens x) : Pure Try.prog 49 [ink x] (.tup [inS (found (fun l => decide (l.length = 0)) x).1, n (found (fun l => decide (l.length = 0)) x).2]) := by
  refine Pure.of_body Try.call49 Try.func49 k49 (Nat.le_of_ble_eq_true rfl) ?_
  have h := sized_spec 0 0 x hx
  rw [found_congr (r := fun l => decide (l.length = 0)) (fun l _ => decide_eq_decide.2 (by omega))] at h
  unfold c49
  (repeat' first
    | (refine AWPC.of_vcn rfl ?_; simp only [zT, drp, hasN, Bool.or_false, Bool.false_or, Bool.or_true, Bool.true_or, Classical.not_not, zS, vcC, exs, exd, pickV, alS, Al.ob, grd, ex, ov, gt, argE, strp, cnd, sideL, I.os, st, wrap, keep, binA, kseq, kblk, kret, klp, resL, res1, one, ocalls, obj, elems, cells, scalar, vs, pick1, fillA, splice, chop, eqC, Nat.reduceBEq, Nat.reduceAdd, Nat.reduceSub, Nat.reduceLT, Nat.reduceLeDiff, Nat.reduceMul, Nat.reduceEqDiff, cond_true, cond_false, if_true, if_false, reduceIte, implies_true, forall_const, ne_eq])
    | (simp (disch := omega) only [wr64, Int.zero_sub]; try simp only [zT, drp, hasN, Bool.or_false, Bool.false_or, Bool.or_true, Bool.true_or, Classical.not_not, zS, vcC, exs, exd, pickV, alS, Al.ob, grd, ex, ov, gt, argE, strp, cnd, sideL, I.os, st, wrap, keep, binA, kseq, kblk, kret, klp, resL, res1, one, ocalls, obj, elems, cells, scalar, vs, pick1, fillA, splice, chop, eqC, Nat.reduceBEq, Nat.reduceAdd, Nat.reduceSub, Nat.reduceLT, Nat.reduceLeDiff, Nat.reduceMul, Nat.reduceEqDiff, cond_true, cond_false, if_true, if_false, reduceIte, implies_true, forall_const, ne_eq])
    | (refine AWPC.both (fun _ => ?_) (fun _ => ?_))
    | (refine AWPC.imp (fun _ => ?_))
    | ((repeat (refine And.intro (by (intros; simp_all (config := { decide := false }); done)) ?_)); (first
      | (refine .inl ⟨_, _, _, _, rfl, fun _hc => ⟨by simp, h⟩, ?_⟩)
      | (refine ⟨_, _, _, _, rfl, fun _hc => ⟨by simp, h⟩, ?_⟩)
      | fail); (first | (refine owp_of_exs ?_; simp only [zT, drp, hasN, Bool.or_false, Bool.false_or, Bool.or_true, Bool.true_or, Classical.not_not, zS, vcC, exs, exd, pickV, alS, Al.ob, grd, ex, ov, gt, argE, strp, cnd, sideL, I.os, st, wrap, keep, binA, kseq, kblk, kret, klp, resL, res1, one, ocalls, obj, elems, cells, scalar, vs, pick1, fillA, splice, chop, eqC, Nat.reduceBEq, Nat.reduceAdd, Nat.reduceSub, Nat.reduceLT, Nat.reduceLeDiff, Nat.reduceMul, Nat.reduceEqDiff, cond_true, cond_false, if_true, if_false, reduceIte, implies_true, forall_const, ne_eq]) | (refine pre_of_exd ?_; simp only [zT, drp, hasN, Bool.or_false, Bool.false_or, Bool.or_true, Bool.true_or, Classical.not_not, zS, vcC, exs, exd, pickV, alS, Al.ob, grd, ex, ov, gt, argE, strp, cnd, sideL, I.os, st, wrap, keep, binA, kseq, kblk, kret, klp, resL, res1, one, ocalls, obj, elems, cells, scalar, vs, pick1, fillA, splice, chop, eqC, Nat.reduceBEq, Nat.reduceAdd, Nat.reduceSub, Nat.reduceLT, Nat.reduceLeDiff, Nat.reduceMul, Nat.reduceEqDiff, cond_true, cond_false, if_true, if_false, reduceIte, implies_true, forall_const, ne_eq]) | fail))
    | ((refine .inl ⟨_, _, _, .any, rfl, fun h => absurd h Bool.false_ne_true, ?_⟩); (first | (refine owp_of_exs ?_; simp only [zT, drp, hasN, Bool.or_false, Bool.false_or, Bool.or_true, Bool.true_or, Classical.not_not, zS, vcC, exs, exd, pickV, alS, Al.ob, grd, ex, ov, gt, argE, strp, cnd, sideL, I.os, st, wrap, keep, binA, kseq, kblk, kret, klp, resL, res1, one, ocalls, obj, elems, cells, scalar, vs, pick1, fillA, splice, chop, eqC, Nat.reduceBEq, Nat.reduceAdd, Nat.reduceSub, Nat.reduceLT, Nat.reduceLeDiff, Nat.reduceMul, Nat.reduceEqDiff, cond_true, cond_false, if_true, if_false, reduceIte, implies_true, forall_const, ne_eq]) | fail))
    | (refine ⟨by omega, ?_⟩)
    | fail)
  exact Frz.eq rfl (by simp)

theorem rCrossings_spec (x : List (List Sp)) (hx : Lens x) : Pure Try.prog 51 [ink x] (.tup [inS (found (fun l => decide (1 < l.length)) x).1, n (found (fun l => decide (1 < l.length)) x).2]) := by
  refine Pure.of_body Try.call51 Try.func51 k51 (Nat.le_of_ble_eq_true rfl) ?_
  have h := sized_spec 2 8 x hx
  rw [found_congr (r := fun l => decide (1 < l.length)) (fun l hg => decide_eq_decide.2 (by have := hg.2.2; omega))] at h
  unfold c51
  (repeat' first
    | (refine AWPC.of_vcn rfl ?_; simp only [zT, drp, hasN, Bool.or_false, Bool.false_or, Bool.or_true, Bool.true_or, Classical.not_not, zS, vcC, exs, exd, pickV, alS, Al.ob, grd, ex, ov, gt, argE, strp, cnd, sideL, I.os, st, wrap, keep, binA, kseq, kblk, kret, klp, resL, res1, one, ocalls, obj, elems, cells, scalar, vs, pick1, fillA, splice, chop, eqC, Nat.reduceBEq, Nat.reduceAdd, Nat.reduceSub, Nat.reduceLT, Nat.reduceLeDiff, Nat.reduceMul, Nat.reduceEqDiff, cond_true, cond_false, if_true, if_false, reduceIte, implies_true, forall_const, ne_eq])
    | (simp (disch := omega) only [wr64, Int.zero_sub]; try simp only [zT, drp, hasN, Bool.or_false, Bool.false_or, Bool.or_true, Bool.true_or, Classical.not_not, zS, vcC, exs, exd, pickV, alS, Al.ob, grd, ex, ov, gt, argE, strp, cnd, sideL, I.os, st, wrap, keep, binA, kseq, kblk, kret, klp, resL, res1, one, ocalls, obj, elems, cells, scalar, vs, pick1, fillA, splice, chop, eqC, Nat.reduceBEq, Nat.reduceAdd, Nat.reduceSub, Nat.reduceLT, Nat.reduceLeDiff, Nat.reduceMul, Nat.reduceEqDiff, cond_true, cond_false, if_true, if_false, reduceIte, implies_true, forall_const, ne_eq])
    | (refine AWPC.both (fun _ => ?_) (fun _ => ?_))
    | (refine AWPC.imp (fun _ => ?_))
    | ((repeat (refine And.intro (by (intros; simp_all (config := { decide := false }); done)) ?_)); (first
      | (refine .inl ⟨_, _, _, _, rfl, fun _hc => ⟨by simp, h⟩, ?_⟩)
      | (refine ⟨_, _, _, _, rfl, fun _hc => ⟨by simp, h⟩, ?_⟩)
      | fail); (first | (refine owp_of_exs ?_; simp only [zT, drp, hasN, Bool.or_false, Bool.false_or, Bool.or_true, Bool.true_or, Classical.not_not, zS, vcC, exs, exd, pickV, alS, Al.ob, grd, ex, ov, gt, argE, strp, cnd, sideL, I.os, st, wrap, keep, binA, kseq, kblk, kret, klp, resL, res1, one, ocalls, obj, elems, cells, scalar, vs, pick1, fillA, splice, chop, eqC, Nat.reduceBEq, Nat.reduceAdd, Nat.reduceSub, Nat.reduceLT, Nat.reduceLeDiff, Nat.reduceMul, Nat.reduceEqDiff, cond_true, cond_false, if_true, if_false, reduceIte, implies_true, forall_const, ne_eq]) | (refine pre_of_exd ?_; simp only [zT, drp, hasN, Bool.or_false, Bool.false_or, Bool.or_true, Bool.true_or, Classical.not_not, zS, vcC, exs, exd, pickV, alS, Al.ob, grd, ex, ov, gt, argE, strp, cnd, sideL, I.os, st, wrap, keep, binA, kseq, kblk, kret, klp, resL, res1, one, ocalls, obj, elems, cells, scalar, vs, pick1, fillA, splice, chop, eqC, Nat.reduceBEq, Nat.reduceAdd, Nat.reduceSub, Nat.reduceLT, Nat.reduceLeDiff, Nat.reduceMul, Nat.reduceEqDiff, cond_true, cond_false, if_true, if_false, reduceIte, implies_true, forall_const, ne_eq]) | fail))
    | ((refine .inl ⟨_, _, _, .any, rfl, fun h => absurd h Bool.false_ne_true, ?_⟩); (first | (refine owp_of_exs ?_; simp only [zT, drp, hasN, Bool.or_false, Bool.false_or, Bool.or_true, Bool.true_or, Classical.not_not, zS, vcC, exs, exd, pickV, alS, Al.ob, grd, ex, ov, gt, argE, strp, cnd, sideL, I.os, st, wrap, keep, binA, kseq, kblk, kret, klp, resL, res1, one, ocalls, obj, elems, cells, scalar, vs, pick1, fillA, splice, chop, eqC, Nat.reduceBEq, Nat.reduceAdd, Nat.reduceSub, Nat.reduceLT, Nat.reduceLeDiff, Nat.reduceMul, Nat.reduceEqDiff, cond_true, cond_false, if_true, if_false, reduceIte, implies_true, forall_const, ne_eq]) | fail))
    | (refine ⟨by omega, ?_⟩)
    | fail)
  exact Frz.eq rfl (by simp)

theorem sameInts_spec (a b : List Int) (ha : a.length < 9223372036854775808) (hb : b.length < 9223372036854775808) : Pure Try.prog 56 [inS a, inS b] (bl (decide (a = b))) := by
  refine Pure.of_body Try.call56 Try.func56 k56 (Nat.le_of_ble_eq_true rfl) ?_
  unfold c56
  (repeat' first
    | (refine AWPC.of_vcn rfl ?_; simp only [zT, drp, hasN, Bool.or_false, Bool.false_or, Bool.or_true, Bool.true_or, Classical.not_not, zS, vcC, exs, exd, pickV, alS, Al.ob, grd, ex, ov, gt, argE, strp, cnd, sideL, I.os, st, wrap, keep, binA, kseq, kblk, kret, klp, resL, res1, one, ocalls, obj, elems, cells, scalar, vs, pick1, fillA, splice, chop, eqC, Nat.reduceBEq, Nat.reduceAdd, Nat.reduceSub, Nat.reduceLT, Nat.reduceLeDiff, Nat.reduceMul, Nat.reduceEqDiff, cond_true, cond_false, if_true, if_false, reduceIte, implies_true, forall_const, ne_eq])
    | (simp (disch := omega) only [wr64, Int.zero_sub]; try simp only [zT, drp, hasN, Bool.or_false, Bool.false_or, Bool.or_true, Bool.true_or, Classical.not_not, zS, vcC, exs, exd, pickV, alS, Al.ob, grd, ex, ov, gt, argE, strp, cnd, sideL, I.os, st, wrap, keep, binA, kseq, kblk, kret, klp, resL, res1, one, ocalls, obj, elems, cells, scalar, vs, pick1, fillA, splice, chop, eqC, Nat.reduceBEq, Nat.reduceAdd, Nat.reduceSub, Nat.reduceLT, Nat.reduceLeDiff, Nat.reduceMul, Nat.reduceEqDiff, cond_true, cond_false, if_true, if_false, reduceIte, implies_true, forall_const, ne_eq])
    | (refine AWPC.both (fun _ => ?_) (fun _ => ?_))
    | (refine AWPC.imp (fun _ => ?_))
    | ((refine .inl ⟨_, _, _, .any, rfl, fun h => absurd h Bool.false_ne_true, ?_⟩); (first | (refine owp_of_exs ?_; simp only [zT, drp, hasN, Bool.or_false, Bool.false_or, Bool.or_true, Bool.true_or, Classical.not_not, zS, vcC, exs, exd, pickV, alS, Al.ob, grd, ex, ov, gt, argE, strp, cnd, sideL, I.os, st, wrap, keep, binA, kseq, kblk, kret, klp, resL, res1, one, ocalls, obj, elems, cells, scalar, vs, pick1, fillA, splice, chop, eqC, Nat.reduceBEq, Nat.reduceAdd, Nat.reduceSub, Nat.reduceLT, Nat.reduceLeDiff, Nat.reduceMul, Nat.reduceEqDiff, cond_true, cond_false, if_true, if_false, reduceIte, implies_true, forall_const, ne_eq]) | fail))
    | (refine ⟨by omega, ?_⟩)
    | fail)
  · rename_i h
    exact Frz.eq (congrArg bl (by rw [decide_eq_false]; rintro rfl; exact h rfl)) (by simp)
  · rename_i h
    have hl : a.length = b.length := by omega
    refine AWPC.loopI 5 a.length (fun i => a.take i = b.take i) (by simp) ?_ ?_
    · (simp only [zT, drp, hasN, Bool.or_false, Bool.false_or, Bool.or_true, Bool.true_or, Classical.not_not, zS, vcC, exs, exd, pickV, alS, Al.ob, grd, ex, ov, gt, argE, strp, cnd, sideL, I.os, st, wrap, keep, binA, kseq, kblk, kret, klp, resL, res1, one, ocalls, obj, elems, cells, scalar, vs, pick1, fillA, splice, chop, eqC, Nat.reduceBEq, Nat.reduceAdd, Nat.reduceSub, Nat.reduceLT, Nat.reduceLeDiff, Nat.reduceMul, Nat.reduceEqDiff, cond_true, cond_false, if_true, if_false, reduceIte, implies_true, forall_const, ne_eq]; try simp)
    · intro i hi hI
      by_cases hlt : i < a.length
      · obtain ⟨x, hx⟩ : ∃ x, a[i]? = some x := ⟨_, List.getElem?_eq_getElem hlt⟩
        obtain ⟨y, hy⟩ : ∃ y, b[i]? = some y := ⟨_, List.getElem?_eq_getElem (by omega)⟩
        have htn := take_next hx hy
        (repeat' first
    | (refine AWPC.of_vcn rfl ?_; simp only [zT, drp, hasN, Bool.or_false, Bool.false_or, Bool.or_true, Bool.true_or, Classical.not_not, zS, vcC, exs, exd, pickV, alS, Al.ob, grd, ex, ov, gt, argE, strp, cnd, sideL, I.os, st, wrap, keep, binA, kseq, kblk, kret, klp, resL, res1, one, ocalls, obj, elems, cells, scalar, vs, pick1, fillA, splice, chop, eqC, Nat.reduceBEq, Nat.reduceAdd, Nat.reduceSub, Nat.reduceLT, Nat.reduceLeDiff, Nat.reduceMul, Nat.reduceEqDiff, cond_true, cond_false, if_true, if_false, reduceIte, implies_true, forall_const, ne_eq, getD_map hx, getD_map hy])
    | (simp (disch := omega) only [wr64, Int.zero_sub]; try simp only [zT, drp, hasN, Bool.or_false, Bool.false_or, Bool.or_true, Bool.true_or, Classical.not_not, zS, vcC, exs, exd, pickV, alS, Al.ob, grd, ex, ov, gt, argE, strp, cnd, sideL, I.os, st, wrap, keep, binA, kseq, kblk, kret, klp, resL, res1, one, ocalls, obj, elems, cells, scalar, vs, pick1, fillA, splice, chop, eqC, Nat.reduceBEq, Nat.reduceAdd, Nat.reduceSub, Nat.reduceLT, Nat.reduceLeDiff, Nat.reduceMul, Nat.reduceEqDiff, cond_true, cond_false, if_true, if_false, reduceIte, implies_true, forall_const, ne_eq, getD_map hx, getD_map hy])
    | (refine AWPC.both (fun _ => ?_) (fun _ => ?_))
    | (refine AWPC.imp (fun _ => ?_))
    | ((refine .inl ⟨_, _, _, .any, rfl, fun h => absurd h Bool.false_ne_true, ?_⟩); (first | (refine owp_of_exs ?_; simp only [zT, drp, hasN, Bool.or_false, Bool.false_or, Bool.or_true, Bool.true_or, Classical.not_not, zS, vcC, exs, exd, pickV, alS, Al.ob, grd, ex, ov, gt, argE, strp, cnd, sideL, I.os, st, wrap, keep, binA, kseq, kblk, kret, klp, resL, res1, one, ocalls, obj, elems, cells, scalar, vs, pick1, fillA, splice, chop, eqC, Nat.reduceBEq, Nat.reduceAdd, Nat.reduceSub, Nat.reduceLT, Nat.reduceLeDiff, Nat.reduceMul, Nat.reduceEqDiff, cond_true, cond_false, if_true, if_false, reduceIte, implies_true, forall_const, ne_eq, getD_map hx, getD_map hy]) | fail))
    | (refine ⟨by omega, ?_⟩)
    | fail)
        all_goals try (exfalso; omega)
        · rename_i g
          refine Frz.eq (congrArg bl ?_) (by simp)
          rw [decide_eq_false]
          rintro rfl
          rw [hx] at hy; injection hy with hy; exact g hy
        · rename_i g
          exact ⟨⟨i + 1, hlt, htn.2 ⟨hI, g⟩⟩, by simp, by simp only; omega⟩
      · obtain rfl : i = a.length := by omega
        rw [List.take_length, hl, List.take_length] at hI
        (repeat' first
    | (refine AWPC.of_vcn rfl ?_; simp only [zT, drp, hasN, Bool.or_false, Bool.false_or, Bool.or_true, Bool.true_or, Classical.not_not, zS, vcC, exs, exd, pickV, alS, Al.ob, grd, ex, ov, gt, argE, strp, cnd, sideL, I.os, st, wrap, keep, binA, kseq, kblk, kret, klp, resL, res1, one, ocalls, obj, elems, cells, scalar, vs, pick1, fillA, splice, chop, eqC, Nat.reduceBEq, Nat.reduceAdd, Nat.reduceSub, Nat.reduceLT, Nat.reduceLeDiff, Nat.reduceMul, Nat.reduceEqDiff, cond_true, cond_false, if_true, if_false, reduceIte, implies_true, forall_const, ne_eq])
    | (simp (disch := omega) only [wr64, Int.zero_sub]; try simp only [zT, drp, hasN, Bool.or_false, Bool.false_or, Bool.or_true, Bool.true_or, Classical.not_not, zS, vcC, exs, exd, pickV, alS, Al.ob, grd, ex, ov, gt, argE, strp, cnd, sideL, I.os, st, wrap, keep, binA, kseq, kblk, kret, klp, resL, res1, one, ocalls, obj, elems, cells, scalar, vs, pick1, fillA, splice, chop, eqC, Nat.reduceBEq, Nat.reduceAdd, Nat.reduceSub, Nat.reduceLT, Nat.reduceLeDiff, Nat.reduceMul, Nat.reduceEqDiff, cond_true, cond_false, if_true, if_false, reduceIte, implies_true, forall_const, ne_eq])
    | (refine AWPC.both (fun _ => ?_) (fun _ => ?_))
    | (refine AWPC.imp (fun _ => ?_))
    | ((refine .inl ⟨_, _, _, .any, rfl, fun h => absurd h Bool.false_ne_true, ?_⟩); (first | (refine owp_of_exs ?_; simp only [zT, drp, hasN, Bool.or_false, Bool.false_or, Bool.or_true, Bool.true_or, Classical.not_not, zS, vcC, exs, exd, pickV, alS, Al.ob, grd, ex, ov, gt, argE, strp, cnd, sideL, I.os, st, wrap, keep, binA, kseq, kblk, kret, klp, resL, res1, one, ocalls, obj, elems, cells, scalar, vs, pick1, fillA, splice, chop, eqC, Nat.reduceBEq, Nat.reduceAdd, Nat.reduceSub, Nat.reduceLT, Nat.reduceLeDiff, Nat.reduceMul, Nat.reduceEqDiff, cond_true, cond_false, if_true, if_false, reduceIte, implies_true, forall_const, ne_eq]) | fail))
    | (refine ⟨by omega, ?_⟩)
    | fail)
        all_goals try (exfalso; omega)
        exact Frz.eq (by simp [hI]) (by simp)

theorem PaperChecks_spec (p : Pp) (l : List Pt) (x : List (List Sp)) (hl : l.length < 9223372036854775808) (hx : Lens x) : Pure Try.prog 11 [.agg p.cs, ptS l, ink x] (bl true) := by
  refine Pure.of_body Try.call11 Try.func11 k11 (Nat.le_of_ble_eq_true rfl) ?_
  have f1 := found_len (fun l => decide (l.length = 0)) x
  have f2 := found_len (fun l => decide (1 < l.length)) x
  have s1 := sameInts_spec _ _ (show (found (fun l => decide (l.length = 0)) x).1.length < 9223372036854775808 by omega) (show (found (fun l => decide (l.length = 0)) x).1.length < 9223372036854775808 by omega)
  have s2 := sameInts_spec _ _ (show (found (fun l => decide (1 < l.length)) x).1.length < 9223372036854775808 by omega) (show (found (fun l => decide (1 < l.length)) x).1.length < 9223372036854775808 by omega)
  have hs := small_spec x hx.1
  have hg := Gaps_spec x hx
  have hc := Crossings_spec x hx
  have hg' := rGaps_spec x hx
  have hc' := rCrossings_spec x hx
  generalize found (fun l => decide (l.length = 0)) x = F1 at *
  generalize found (fun l => decide (1 < l.length)) x = F2 at *
  generalize hw : decide (wsum x.length x ≤ 2000) = b at *
  unfold c11
  by_cases hf : l.length ≤ 30 ∨ 2000 < l.length ∧ l.length < 2100
  · (repeat' first
    | (refine AWPC.of_vcn rfl ?_; simp only [zT, drp, hasN, Bool.or_false, Bool.false_or, Bool.or_true, Bool.true_or, Classical.not_not, zS, vcC, exs, exd, pickV, alS, Al.ob, grd, ex, ov, gt, argE, strp, cnd, sideL, I.os, st, wrap, keep, binA, kseq, kblk, kret, klp, resL, res1, one, ocalls, obj, elems, cells, scalar, vs, pick1, fillA, splice, chop, eqC, Nat.reduceBEq, Nat.reduceAdd, Nat.reduceSub, Nat.reduceLT, Nat.reduceLeDiff, Nat.reduceMul, Nat.reduceEqDiff, cond_true, cond_false, if_true, if_false, reduceIte, implies_true, forall_const, ne_eq])
    | (simp (disch := omega) only [wr64, Int.zero_sub]; try simp only [zT, drp, hasN, Bool.or_false, Bool.false_or, Bool.or_true, Bool.true_or, Classical.not_not, zS, vcC, exs, exd, pickV, alS, Al.ob, grd, ex, ov, gt, argE, strp, cnd, sideL, I.os, st, wrap, keep, binA, kseq, kblk, kret, klp, resL, res1, one, ocalls, obj, elems, cells, scalar, vs, pick1, fillA, splice, chop, eqC, Nat.reduceBEq, Nat.reduceAdd, Nat.reduceSub, Nat.reduceLT, Nat.reduceLeDiff, Nat.reduceMul, Nat.reduceEqDiff, cond_true, cond_false, if_true, if_false, reduceIte, implies_true, forall_const, ne_eq])
    | (refine AWPC.both (fun _ => ?_) (fun _ => ?_))
    | (refine AWPC.imp (fun _ => ?_))
    | ((repeat (refine And.intro (by (intros; simp_all (config := { decide := false }); done)) ?_)); (first
      | (refine .inl ⟨_, _, _, _, rfl, fun _hc => ⟨by simp, awake_spec⟩, ?_⟩)
      | (refine .inl ⟨_, _, _, _, rfl, fun _hc => ⟨by simp, few0_spec l⟩, ?_⟩)
      | (refine .inl ⟨_, _, _, _, rfl, fun _hc => ⟨by simp, hs⟩, ?_⟩)
      | (refine .inl ⟨_, _, _, _, rfl, fun _hc => ⟨by simp, checkTrace_spec l (by omega)⟩, ?_⟩)
      | (refine .inl ⟨_, _, _, _, rfl, fun _hc => ⟨by simp, rcheckTrace_spec l hl⟩, ?_⟩)
      | (refine .inl ⟨_, _, _, _, rfl, fun _hc => ⟨by simp, hg⟩, ?_⟩)
      | (refine .inl ⟨_, _, _, _, rfl, fun _hc => ⟨by simp, hg'⟩, ?_⟩)
      | (refine .inl ⟨_, _, _, _, rfl, fun _hc => ⟨by simp, hc⟩, ?_⟩)
      | (refine .inl ⟨_, _, _, _, rfl, fun _hc => ⟨by simp, hc'⟩, ?_⟩)
      | (refine .inl ⟨_, _, _, _, rfl, fun _hc => ⟨by simp, checkPaper_spec p⟩, ?_⟩)
      | (refine .inl ⟨_, _, _, _, rfl, fun _hc => ⟨by simp, rcheckPaper_spec p⟩, ?_⟩)
      | (refine .inl ⟨_, _, _, _, rfl, fun _hc => ⟨by simp, checkInked_spec x hx⟩, ?_⟩)
      | (refine .inl ⟨_, _, _, _, rfl, fun _hc => ⟨by simp, rcheckInked_spec x hx⟩, ?_⟩)
      | (refine .inl ⟨_, _, _, _, rfl, fun _hc => ⟨by simp, s1⟩, ?_⟩)
      | (refine .inl ⟨_, _, _, _, rfl, fun _hc => ⟨by simp, s2⟩, ?_⟩)
      | (refine ⟨_, _, _, _, rfl, fun _hc => ⟨by simp, awake_spec⟩, ?_⟩)
      | (refine ⟨_, _, _, _, rfl, fun _hc => ⟨by simp, few0_spec l⟩, ?_⟩)
      | (refine ⟨_, _, _, _, rfl, fun _hc => ⟨by simp, hs⟩, ?_⟩)
      | (refine ⟨_, _, _, _, rfl, fun _hc => ⟨by simp, checkTrace_spec l (by omega)⟩, ?_⟩)
      | (refine ⟨_, _, _, _, rfl, fun _hc => ⟨by simp, rcheckTrace_spec l hl⟩, ?_⟩)
      | (refine ⟨_, _, _, _, rfl, fun _hc => ⟨by simp, hg⟩, ?_⟩)
      | (refine ⟨_, _, _, _, rfl, fun _hc => ⟨by simp, hg'⟩, ?_⟩)
      | (refine ⟨_, _, _, _, rfl, fun _hc => ⟨by simp, hc⟩, ?_⟩)
      | (refine ⟨_, _, _, _, rfl, fun _hc => ⟨by simp, hc'⟩, ?_⟩)
      | (refine ⟨_, _, _, _, rfl, fun _hc => ⟨by simp, checkPaper_spec p⟩, ?_⟩)
      | (refine ⟨_, _, _, _, rfl, fun _hc => ⟨by simp, rcheckPaper_spec p⟩, ?_⟩)
      | (refine ⟨_, _, _, _, rfl, fun _hc => ⟨by simp, checkInked_spec x hx⟩, ?_⟩)
      | (refine ⟨_, _, _, _, rfl, fun _hc => ⟨by simp, rcheckInked_spec x hx⟩, ?_⟩)
      | (refine ⟨_, _, _, _, rfl, fun _hc => ⟨by simp, s1⟩, ?_⟩)
      | (refine ⟨_, _, _, _, rfl, fun _hc => ⟨by simp, s2⟩, ?_⟩)
      | fail); (first | (refine owp_of_exs ?_; simp only [zT, drp, hasN, Bool.or_false, Bool.false_or, Bool.or_true, Bool.true_or, Classical.not_not, zS, vcC, exs, exd, pickV, alS, Al.ob, grd, ex, ov, gt, argE, strp, cnd, sideL, I.os, st, wrap, keep, binA, kseq, kblk, kret, klp, resL, res1, one, ocalls, obj, elems, cells, scalar, vs, pick1, fillA, splice, chop, eqC, Nat.reduceBEq, Nat.reduceAdd, Nat.reduceSub, Nat.reduceLT, Nat.reduceLeDiff, Nat.reduceMul, Nat.reduceEqDiff, cond_true, cond_false, if_true, if_false, reduceIte, implies_true, forall_const, ne_eq]) | (refine pre_of_exd ?_; simp only [zT, drp, hasN, Bool.or_false, Bool.false_or, Bool.or_true, Bool.true_or, Classical.not_not, zS, vcC, exs, exd, pickV, alS, Al.ob, grd, ex, ov, gt, argE, strp, cnd, sideL, I.os, st, wrap, keep, binA, kseq, kblk, kret, klp, resL, res1, one, ocalls, obj, elems, cells, scalar, vs, pick1, fillA, splice, chop, eqC, Nat.reduceBEq, Nat.reduceAdd, Nat.reduceSub, Nat.reduceLT, Nat.reduceLeDiff, Nat.reduceMul, Nat.reduceEqDiff, cond_true, cond_false, if_true, if_false, reduceIte, implies_true, forall_const, ne_eq]) | fail))
    | ((refine .inl ⟨_, _, _, .any, rfl, fun h => absurd h Bool.false_ne_true, ?_⟩); (first | (refine owp_of_exs ?_; simp only [zT, drp, hasN, Bool.or_false, Bool.false_or, Bool.or_true, Bool.true_or, Classical.not_not, zS, vcC, exs, exd, pickV, alS, Al.ob, grd, ex, ov, gt, argE, strp, cnd, sideL, I.os, st, wrap, keep, binA, kseq, kblk, kret, klp, resL, res1, one, ocalls, obj, elems, cells, scalar, vs, pick1, fillA, splice, chop, eqC, Nat.reduceBEq, Nat.reduceAdd, Nat.reduceSub, Nat.reduceLT, Nat.reduceLeDiff, Nat.reduceMul, Nat.reduceEqDiff, cond_true, cond_false, if_true, if_false, reduceIte, implies_true, forall_const, ne_eq]) | fail))
    | (refine ⟨by omega, ?_⟩)
    | fail)
    all_goals first
      | exact Frz.eq rfl (by simp)
      | exact Frz.eq (by simp) (by simp)
      | trace_state
  · (repeat' first
    | (refine AWPC.of_vcn rfl ?_; simp only [zT, drp, hasN, Bool.or_false, Bool.false_or, Bool.or_true, Bool.true_or, Classical.not_not, zS, vcC, exs, exd, pickV, alS, Al.ob, grd, ex, ov, gt, argE, strp, cnd, sideL, I.os, st, wrap, keep, binA, kseq, kblk, kret, klp, resL, res1, one, ocalls, obj, elems, cells, scalar, vs, pick1, fillA, splice, chop, eqC, Nat.reduceBEq, Nat.reduceAdd, Nat.reduceSub, Nat.reduceLT, Nat.reduceLeDiff, Nat.reduceMul, Nat.reduceEqDiff, cond_true, cond_false, if_true, if_false, reduceIte, implies_true, forall_const, ne_eq])
    | (simp (disch := omega) only [wr64, Int.zero_sub]; try simp only [zT, drp, hasN, Bool.or_false, Bool.false_or, Bool.or_true, Bool.true_or, Classical.not_not, zS, vcC, exs, exd, pickV, alS, Al.ob, grd, ex, ov, gt, argE, strp, cnd, sideL, I.os, st, wrap, keep, binA, kseq, kblk, kret, klp, resL, res1, one, ocalls, obj, elems, cells, scalar, vs, pick1, fillA, splice, chop, eqC, Nat.reduceBEq, Nat.reduceAdd, Nat.reduceSub, Nat.reduceLT, Nat.reduceLeDiff, Nat.reduceMul, Nat.reduceEqDiff, cond_true, cond_false, if_true, if_false, reduceIte, implies_true, forall_const, ne_eq])
    | (refine AWPC.both (fun _ => ?_) (fun _ => ?_))
    | (refine AWPC.imp (fun _ => ?_))
    | ((repeat (refine And.intro (by (intros; simp_all (config := { decide := false }); done)) ?_)); (first
      | (refine .inl ⟨_, _, _, _, rfl, fun _hc => ⟨by simp, awake_spec⟩, ?_⟩)
      | (refine .inl ⟨_, _, _, _, rfl, fun _hc => ⟨by simp, few0_spec l⟩, ?_⟩)
      | (refine .inl ⟨_, _, _, _, rfl, fun _hc => ⟨by simp, hs⟩, ?_⟩)
      | (refine ⟨_, _, _, _, rfl, fun _hc => ⟨by simp, awake_spec⟩, ?_⟩)
      | (refine ⟨_, _, _, _, rfl, fun _hc => ⟨by simp, few0_spec l⟩, ?_⟩)
      | (refine ⟨_, _, _, _, rfl, fun _hc => ⟨by simp, hs⟩, ?_⟩)
      | fail); (first | (refine owp_of_exs ?_; simp only [zT, drp, hasN, Bool.or_false, Bool.false_or, Bool.or_true, Bool.true_or, Classical.not_not, zS, vcC, exs, exd, pickV, alS, Al.ob, grd, ex, ov, gt, argE, strp, cnd, sideL, I.os, st, wrap, keep, binA, kseq, kblk, kret, klp, resL, res1, one, ocalls, obj, elems, cells, scalar, vs, pick1, fillA, splice, chop, eqC, Nat.reduceBEq, Nat.reduceAdd, Nat.reduceSub, Nat.reduceLT, Nat.reduceLeDiff, Nat.reduceMul, Nat.reduceEqDiff, cond_true, cond_false, if_true, if_false, reduceIte, implies_true, forall_const, ne_eq]) | (refine pre_of_exd ?_; simp only [zT, drp, hasN, Bool.or_false, Bool.false_or, Bool.or_true, Bool.true_or, Classical.not_not, zS, vcC, exs, exd, pickV, alS, Al.ob, grd, ex, ov, gt, argE, strp, cnd, sideL, I.os, st, wrap, keep, binA, kseq, kblk, kret, klp, resL, res1, one, ocalls, obj, elems, cells, scalar, vs, pick1, fillA, splice, chop, eqC, Nat.reduceBEq, Nat.reduceAdd, Nat.reduceSub, Nat.reduceLT, Nat.reduceLeDiff, Nat.reduceMul, Nat.reduceEqDiff, cond_true, cond_false, if_true, if_false, reduceIte, implies_true, forall_const, ne_eq]) | fail))
    | ((refine .inl ⟨_, _, _, .any, rfl, fun h => absurd h Bool.false_ne_true, ?_⟩); (first | (refine owp_of_exs ?_; simp only [zT, drp, hasN, Bool.or_false, Bool.false_or, Bool.or_true, Bool.true_or, Classical.not_not, zS, vcC, exs, exd, pickV, alS, Al.ob, grd, ex, ov, gt, argE, strp, cnd, sideL, I.os, st, wrap, keep, binA, kseq, kblk, kret, klp, resL, res1, one, ocalls, obj, elems, cells, scalar, vs, pick1, fillA, splice, chop, eqC, Nat.reduceBEq, Nat.reduceAdd, Nat.reduceSub, Nat.reduceLT, Nat.reduceLeDiff, Nat.reduceMul, Nat.reduceEqDiff, cond_true, cond_false, if_true, if_false, reduceIte, implies_true, forall_const, ne_eq]) | fail))
    | (refine ⟨by omega, ?_⟩)
    | fail)
    all_goals first
      | exact Frz.eq rfl (by simp)
      | (exfalso; omega)
      | (rename_i h; simp [hf] at h; done)
end Go.Proofs.Ytgpdckmbojmlpaa
