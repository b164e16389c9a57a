import Derived.Test.YtgpdckmbojmlpaaATP9
import Derived.Test.YtgpdckmbojmlpaaRows
namespace Go.Proofs.Ytgpdckmbojmlpaa
open Go.Abs
set_option linter.unusedVariables false
set_option linter.unusedSimpArgs false
set_option maxHeartbeats 4000000
set_option maxRecDepth 100000
-- aneroid/aneroidref01.within
def c76 : CF := ⟨15,
 (.seq (.ops [
 ⟨(some 6), .mv (.c (.bool false)), none⟩] [0, 1, 2])
 (.seq (.ops [
 ⟨(some 7), .mv (.t 1), none⟩,
 ⟨(some 8), .mv (.t 0), none⟩,
 ⟨(some 9), .bin .leq (.t 7) (.t 8), none⟩,
 ⟨(some 10), .mv (.t 9), none⟩,
 ⟨(some 11), .mv (.t 0), (some (10, true))⟩,
 ⟨(some 12), .mv (.t 2), (some (10, true))⟩,
 ⟨(some 13), .bin .leq (.t 11) (.t 12), (some (10, true))⟩,
 ⟨(some 14), .pick (.t 10) (.t 13) (.c (.bool false)), none⟩,
 ⟨(some 6), .mv (.t 14), none⟩] [6])
 .ret)),
 [.t 6]⟩
-- aneroid/aneroidref01.floor
def c84 : CF := ⟨18,
 (.seq (.ops [
 ⟨(some 4), .mv (.c (.int .i64 0)), none⟩] [0, 1])
 (.seq (.seq (.ops [
 ⟨(some 5), .mv (.t 0), none⟩,
 ⟨(some 6), .bin .lss (.t 5) (.c (.int .i64 0)), none⟩] [0, 1, 6])
 (.cond (.t 6) (.seq (.ops [
 ⟨(some 7), .mv (.t 0), none⟩,
 ⟨(some 8), .un .neg (.t 7), none⟩,
 ⟨(some 9), .mv (.t 1), none⟩,
 ⟨(some 10), .bin .add (.t 8) (.t 9), none⟩,
 ⟨(some 11), .bin .sub (.t 10) (.c (.int .i64 1)), none⟩,
 ⟨(some 12), .mv (.t 1), none⟩,
 ⟨(some 13), .bin .quo (.t 11) (.t 12), none⟩,
 ⟨(some 14), .un .neg (.t 13), none⟩,
 ⟨(some 4), .mv (.t 14), none⟩] [4])
 .ret)
 .skip))
 (.seq (.ops [
 ⟨(some 15), .mv (.t 0), none⟩,
 ⟨(some 16), .mv (.t 1), none⟩,
 ⟨(some 17), .bin .quo (.t 15) (.t 16), none⟩,
 ⟨(some 4), .mv (.t 17), none⟩] [4])
 .ret))),
 [.t 4]⟩
-- aneroid/aneroidref01.ceil
def c80 : CF := ⟨10,
 (.seq (.ops [
 ⟨(some 4), .mv (.c (.int .i64 0)), none⟩] [0, 1])
 (.seq (.ops [
 ⟨(some 5), .mv (.t 0), none⟩,
 ⟨(some 6), .un .neg (.t 5), none⟩,
 ⟨(some 7), .mv (.t 1), none⟩,
 ⟨(some 8), .call (.f 84) [(.t 6), (.t 7)], none⟩,
 ⟨(some 9), .un .neg (.t 8), none⟩,
 ⟨(some 4), .mv (.t 9), none⟩] [4])
 .ret)),
 [.t 4]⟩
-- aneroid/aneroidref01.shrunk
def c99 : CF := ⟨18,
 (.seq (.ops [
 ⟨(some 1), .box false 23 2 (.t 0), none⟩,
 ⟨(some 2), .mv (.c (.bool false)), none⟩] [1])
 (.seq (.ops [
 ⟨(some 3), .faddr 0 (.t 1), none⟩,
 ⟨(some 4), .load none (.t 3), none⟩,
 ⟨(some 5), .bin .leq (.c (.int .i64 900)) (.t 4), none⟩,
 ⟨(some 6), .mv (.t 5), none⟩,
 ⟨(some 7), .faddr 0 (.t 1), (some (6, true))⟩,
 ⟨(some 8), .load none (.t 7), (some (6, true))⟩,
 ⟨(some 9), .faddr 1 (.t 1), (some (6, true))⟩,
 ⟨(some 10), .load none (.t 9), (some (6, true))⟩,
 ⟨(some 11), .bin .leq (.t 8) (.t 10), (some (6, true))⟩,
 ⟨(some 12), .pick (.t 6) (.t 11) (.c (.bool false)), none⟩,
 ⟨(some 13), .mv (.t 12), none⟩,
 ⟨(some 14), .faddr 1 (.t 1), (some (13, true))⟩,
 ⟨(some 15), .load none (.t 14), (some (13, true))⟩,
 ⟨(some 16), .bin .leq (.t 15) (.c (.int .i64 1100)), (some (13, true))⟩,
 ⟨(some 17), .pick (.t 13) (.t 16) (.c (.bool false)), none⟩,
 ⟨(some 2), .mv (.t 17), none⟩] [2])
 .ret)),
 [.t 2]⟩
-- aneroid/aneroidref01.CheckPaper
def c53 : CF := ⟨69,
 (.seq (.ops [
 ⟨(some 1), .box false 25 10 (.t 0), none⟩,
 ⟨(some 2), .mv (.c (.int .i64 0)), none⟩] [1])
 (.seq (.seq (.ops [
 ⟨(some 3), .faddr 0 (.t 1), none⟩,
 ⟨(some 4), .load none (.t 3), none⟩,
 ⟨(some 5), .call (.f 76) [(.t 4), (.c (.int .i64 1)), (.c (.int .i64 10000))], none⟩,
 ⟨(some 6), .un .not (.t 5), none⟩,
 ⟨(some 7), .mv (.t 6), none⟩,
 ⟨(some 8), .faddr 1 (.t 1), (some (7, false))⟩,
 ⟨(some 9), .load none (.t 8), (some (7, false))⟩,
 ⟨(some 10), .call (.f 76) [(.t 9), (.c (.int .i64 1)), (.c (.int .i64 400000))], (some (7, false))⟩,
 ⟨(some 11), .un .not (.t 10), (some (7, false))⟩,
 ⟨(some 12), .pick (.t 7) (.c (.bool true)) (.t 11), none⟩,
 ⟨(some 13), .mv (.t 12), none⟩,
 ⟨(some 14), .faddr 5 (.t 1), (some (13, false))⟩,
 ⟨(some 15), .load none (.t 14), (some (13, false))⟩,
 ⟨(some 16), .call (.f 76) [(.t 15), (.c (.int .i64 1)), (.c (.int .i64 200))], (some (13, false))⟩,
 ⟨(some 17), .un .not (.t 16), (some (13, false))⟩,
 ⟨(some 18), .pick (.t 13) (.c (.bool true)) (.t 17), none⟩,
 ⟨(some 19), .mv (.t 18), none⟩,
 ⟨(some 20), .faddr 6 (.t 1), (some (19, false))⟩,
 ⟨(some 21), .load (some 2) (.t 20), (some (19, false))⟩,
 ⟨(some 22), .call (.f 99) [(.t 21)], (some (19, false))⟩,
 ⟨(some 23), .un .not (.t 22), (some (19, false))⟩,
 ⟨(some 24), .pick (.t 19) (.c (.bool true)) (.t 23), none⟩,
 ⟨(some 25), .mv (.t 24), none⟩,
 ⟨(some 26), .faddr 8 (.t 1), (some (25, false))⟩,
 ⟨(some 27), .load (some 2) (.t 26), (some (25, false))⟩,
 ⟨(some 28), .call (.f 99) [(.t 27)], (some (25, false))⟩,
 ⟨(some 29), .un .not (.t 28), (some (25, false))⟩,
 ⟨(some 30), .pick (.t 25) (.c (.bool true)) (.t 29), none⟩] [1, 30])
 (.cond (.t 30) (.seq (.ops [
 ⟨(some 2), .mv (.c (.int .i64 10)), none⟩] [2])
 .ret)
 .skip))
 (.seq (.seq (.ops [
 ⟨(some 31), .faddr 2 (.t 1), none⟩,
 ⟨(some 32), .load none (.t 31), none⟩,
 ⟨(some 33), .bin .neq (.t 32) (.c (.int .i64 0)), none⟩,
 ⟨(some 34), .mv (.t 33), none⟩,
 ⟨(some 35), .faddr 2 (.t 1), (some (34, true))⟩,
 ⟨(some 36), .load none (.t 35), (some (34, true))⟩,
 ⟨(some 37), .faddr 1 (.t 1), (some (34, true))⟩,
 ⟨(some 38), .load none (.t 37), (some (34, true))⟩,
 ⟨(some 39), .call (.f 76) [(.t 36), (.t 38), (.c (.int .i64 4000000))], (some (34, true))⟩,
 ⟨(some 40), .un .not (.t 39), (some (34, true))⟩,
 ⟨(some 41), .pick (.t 34) (.t 40) (.c (.bool false)), none⟩,
 ⟨(some 42), .mv (.t 41), none⟩,
 ⟨(some 43), .faddr 3 (.t 1), (some (42, false))⟩,
 ⟨(some 44), .load none (.t 43), (some (42, false))⟩,
 ⟨(some 45), .bin .lss (.t 44) (.c (.int .i64 0)), (some (42, false))⟩,
 ⟨(some 46), .pick (.t 42) (.c (.bool true)) (.t 45), none⟩,
 ⟨(some 47), .mv (.t 46), none⟩,
 ⟨(some 48), .faddr 3 (.t 1), (some (47, false))⟩,
 ⟨(some 49), .load none (.t 48), (some (47, false))⟩,
 ⟨(some 50), .faddr 4 (.t 1), (some (47, false))⟩,
 ⟨(some 51), .load none (.t 50), (some (47, false))⟩,
 ⟨(some 52), .bin .geq (.t 49) (.t 51), (some (47, false))⟩,
 ⟨(some 53), .pick (.t 47) (.c (.bool true)) (.t 52), none⟩,
 ⟨(some 54), .mv (.t 53), none⟩,
 ⟨(some 55), .faddr 4 (.t 1), (some (54, false))⟩,
 ⟨(some 56), .load none (.t 55), (some (54, false))⟩,
 ⟨(some 57), .bin .gtr (.t 56) (.c (.int .i64 12000)), (some (54, false))⟩,
 ⟨(some 58), .pick (.t 54) (.c (.bool true)) (.t 57), none⟩,
 ⟨(some 59), .mv (.t 58), none⟩,
 ⟨(some 60), .faddr 4 (.t 1), (some (59, false))⟩,
 ⟨(some 61), .load none (.t 60), (some (59, false))⟩,
 ⟨(some 62), .faddr 3 (.t 1), (some (59, false))⟩,
 ⟨(some 63), .load none (.t 62), (some (59, false))⟩,
 ⟨(some 64), .bin .sub (.t 61) (.t 63), (some (59, false))⟩,
 ⟨(some 65), .faddr 1 (.t 1), (some (59, false))⟩,
 ⟨(some 66), .load none (.t 65), (some (59, false))⟩,
 ⟨(some 67), .bin .gtr (.t 64) (.t 66), (some (59, false))⟩,
 ⟨(some 68), .pick (.t 59) (.c (.bool true)) (.t 67), none⟩] [68])
 (.cond (.t 68) (.seq (.ops [
 ⟨(some 2), .mv (.c (.int .i64 10)), none⟩] [2])
 .ret)
 .skip))
 (.seq (.ops [
 ⟨(some 2), .mv (.c (.int .i64 0)), none⟩] [2])
 .ret)))),
 [.t 2]⟩
-- aneroid/aneroidref01.right
def c85 : CF := ⟨16,
 (.seq (.ops [
 ⟨(some 1), .box false 32 3 (.t 0), none⟩,
 ⟨(some 2), .mv (.c (.bool false)), none⟩] [1])
 (.seq (.ops [
 ⟨(some 3), .faddr 0 (.t 1), none⟩,
 ⟨(some 4), .load none (.t 3), none⟩,
 ⟨(some 5), .call (.f 76) [(.t 4), (.c (.int .i64 0)), (.c (.int .i64 400000))], none⟩,
 ⟨(some 6), .mv (.t 5), none⟩,
 ⟨(some 7), .faddr 1 (.t 1), (some (6, true))⟩,
 ⟨(some 8), .load none (.t 7), (some (6, true))⟩,
 ⟨(some 9), .call (.f 76) [(.t 8), (.c (.int .i64 0)), (.c (.int .i64 400000))], (some (6, true))⟩,
 ⟨(some 10), .pick (.t 6) (.t 9) (.c (.bool false)), none⟩,
 ⟨(some 11), .mv (.t 10), none⟩,
 ⟨(some 12), .faddr 2 (.t 1), (some (11, true))⟩,
 ⟨(some 13), .load none (.t 12), (some (11, true))⟩,
 ⟨(some 14), .call (.f 76) [(.t 13), (.c (.int .i64 0)), (.c (.int .i64 5000))], (some (11, true))⟩,
 ⟨(some 15), .pick (.t 11) (.t 14) (.c (.bool false)), none⟩,
 ⟨(some 2), .mv (.t 15), none⟩] [2])
 .ret)),
 [.t 2]⟩
-- aneroid/aneroidref01.CheckTrace
def c47 : CF := ⟨21,
 (.seq (.ops [
 ⟨(some 2), .mv (.c (.int .i64 0)), none⟩,
 ⟨(some 3), .mv (.c (.int .i64 0)), none⟩] [0])
 (.seq (.seq (.ops [
 ⟨(some 5), .mv (.t 0), none⟩,
 ⟨(some 6), .len (.t 5), none⟩,
 ⟨(some 7), .bin .gtr (.t 6) (.c (.int .i64 2000)), none⟩] [0, 7])
 (.cond (.t 7) (.seq (.ops [
 ⟨(some 2), .mv (.c (.int .i64 2)), none⟩,
 ⟨(some 3), .mv (.c (.int .i64 0)), none⟩] [2, 3])
 .ret)
 .skip))
 (.seq (.seq (.ops [
 ⟨(some 4), .mv (.c (.int .i64 0)), none⟩] [0, 4])
 (.block 0 (.loop (.seq (.seq (.ops [
 ⟨(some 8), .mv (.t 4), none⟩,
 ⟨(some 9), .mv (.t 0), none⟩,
 ⟨(some 10), .len (.t 9), none⟩,
 ⟨(some 11), .bin .lss (.t 8) (.t 10), none⟩] [0, 4, 11])
 (.cond (.t 11) .skip
 (.exit 0)))
 (.seq (.block 1 (.seq (.ops [
 ⟨(some 14), .mv (.t 0), none⟩,
 ⟨(some 15), .mv (.t 4), none⟩,
 ⟨(some 16), .iaddr 3 (.t 14) (.t 15), none⟩,
 ⟨(some 17), .load (some 3) (.t 16), none⟩,
 ⟨(some 18), .call (.f 85) [(.t 17)], none⟩,
 ⟨(some 19), .un .not (.t 18), none⟩] [0, 4, 19])
 (.cond (.t 19) (.seq (.ops [
 ⟨(some 20), .mv (.t 4), none⟩,
 ⟨(some 2), .mv (.c (.int .i64 11)), none⟩,
 ⟨(some 3), .mv (.t 20), none⟩] [2, 3])
 .ret)
 .skip)))
 (.ops [
 ⟨(some 12), .mv (.t 4), none⟩,
 ⟨(some 13), .bin .add (.t 12) (.c (.int .i64 1)), none⟩,
 ⟨(some 4), .mv (.t 13), none⟩] [0, 4]))))))
 (.seq (.ops [
 ⟨(some 2), .mv (.c (.int .i64 0)), none⟩,
 ⟨(some 3), .mv (.c (.int .i64 0)), none⟩] [2, 3])
 .ret)))),
 [.t 2, .t 3]⟩
-- aneroid/aneroidref01.check
def c81 : CF := ⟨11,
 (.seq (.ops [
 ⟨(some 2), .box false 25 10 (.t 0), none⟩,
 ⟨(some 3), .box false 32 3 (.t 1), none⟩,
 ⟨(some 4), .mv (.c (.int .i64 0)), none⟩] [2, 3])
 (.seq (.seq (.ops [
 ⟨(some 5), .load (some 10) (.t 2), none⟩,
 ⟨(some 6), .call (.f 53) [(.t 5)], none⟩,
 ⟨(some 7), .bin .neq (.t 6) (.c (.int .i64 0)), none⟩] [3, 7])
 (.cond (.t 7) (.seq (.ops [
 ⟨(some 4), .mv (.c (.int .i64 10)), none⟩] [4])
 .ret)
 .skip))
 (.seq (.seq (.ops [
 ⟨(some 8), .load (some 3) (.t 3), none⟩,
 ⟨(some 9), .call (.f 85) [(.t 8)], none⟩,
 ⟨(some 10), .un .not (.t 9), none⟩] [10])
 (.cond (.t 10) (.seq (.ops [
 ⟨(some 4), .mv (.c (.int .i64 11)), none⟩] [4])
 .ret)
 .skip))
 (.seq (.ops [
 ⟨(some 4), .mv (.c (.int .i64 0)), none⟩] [4])
 .ret)))),
 [.t 4]⟩
-- aneroid/aneroidref01.places
def c90 : CF := ⟨23,
 (.seq (.ops [
 ⟨(some 5), .box false 23 2 (.t 2), none⟩,
 ⟨(some 6), .alloc 23 2 [.int .i64 0, .int .i64 0], none⟩] [0, 1, 5, 6])
 (.seq (.draw [
 ⟨(some 7), .mv (.t 0), none⟩,
 ⟨(some 8), .mv (.t 1), none⟩,
 ⟨(some 9), .bin .sub (.t 7) (.t 8), none⟩,
 ⟨(some 10), .bin .mul (.t 9) (.c (.int .i64 1000)), none⟩,
 ⟨(some 11), .faddr 1 (.t 5), none⟩,
 ⟨(some 12), .load none (.t 11), none⟩,
 ⟨(some 13), .call (.f 84) [(.t 10), (.t 12)], none⟩,
 ⟨(some 14), .mnx true (.c (.int .i64 0)) (.t 13), none⟩,
 ⟨(some 15), .mv (.t 0), none⟩,
 ⟨(some 16), .mv (.t 1), none⟩,
 ⟨(some 17), .bin .add (.t 15) (.t 16), none⟩,
 ⟨(some 18), .bin .mul (.t 17) (.c (.int .i64 1000)), none⟩,
 ⟨(some 19), .faddr 0 (.t 5), none⟩,
 ⟨(some 20), .load none (.t 19), none⟩,
 ⟨(some 21), .call (.f 84) [(.t 18), (.t 20)], none⟩,
 ⟨(some 22), .build [.int .i64 0, .int .i64 0] [(0, 1, (.t 14)), (1, 1, (.t 21))], none⟩] [
 ⟨none, .store 2 (.t 6) (.t 22), none⟩] [6])
 .ret)),
 [.c 6 (some 2)]⟩
-- aneroid/aneroidref01.arc
def c77 : CF := ⟨18,
 (.seq (.ops [
 ⟨(some 2), .box false 25 10 (.t 0), none⟩,
 ⟨(some 4), .mv (.c (.int .i64 0)), none⟩] [1, 2])
 (.seq (.seq (.ops [
 ⟨(some 5), .faddr 2 (.t 2), none⟩,
 ⟨(some 6), .load none (.t 5), none⟩,
 ⟨(some 7), .bin .eql (.t 6) (.c (.int .i64 0)), none⟩] [1, 2, 7])
 (.cond (.t 7) (.seq (.ops [
 ⟨(some 4), .mv (.c (.int .i64 0)), none⟩] [4])
 .ret)
 .skip))
 (.seq (.ops [
 ⟨(some 8), .mv (.t 1), none⟩,
 ⟨(some 9), .faddr 1 (.t 2), none⟩,
 ⟨(some 10), .load none (.t 9), none⟩,
 ⟨(some 11), .mv (.t 1), none⟩,
 ⟨(some 12), .bin .sub (.t 10) (.t 11), none⟩,
 ⟨(some 13), .bin .mul (.t 8) (.t 12), none⟩,
 ⟨(some 14), .faddr 2 (.t 2), none⟩,
 ⟨(some 15), .load none (.t 14), none⟩,
 ⟨(some 16), .bin .mul (.c (.int .i64 2)) (.t 15), none⟩,
 ⟨(some 17), .bin .quo (.t 13) (.t 16), none⟩,
 ⟨(some 4), .mv (.t 17), none⟩] [4])
 .ret))),
 [.t 4]⟩
-- aneroid/aneroidref01.level
def c78 : CF := ⟨18,
 (.seq (.ops [
 ⟨(some 2), .box false 25 10 (.t 0), none⟩,
 ⟨(some 4), .mv (.c (.int .i64 0)), none⟩] [1, 2])
 (.seq (.draw [
 ⟨(some 5), .faddr 3 (.t 2), none⟩,
 ⟨(some 6), .load none (.t 5), none⟩,
 ⟨(some 7), .mv (.t 1), none⟩,
 ⟨(some 8), .faddr 4 (.t 2), none⟩,
 ⟨(some 9), .load none (.t 8), none⟩,
 ⟨(some 10), .faddr 3 (.t 2), none⟩,
 ⟨(some 11), .load none (.t 10), none⟩,
 ⟨(some 12), .bin .sub (.t 9) (.t 11), none⟩,
 ⟨(some 13), .bin .mul (.t 7) (.t 12), none⟩,
 ⟨(some 14), .faddr 1 (.t 2), none⟩,
 ⟨(some 15), .load none (.t 14), none⟩,
 ⟨(some 16), .bin .quo (.t 13) (.t 15), none⟩,
 ⟨(some 17), .bin .add (.t 6) (.t 16), none⟩,
 ⟨(some 4), .mv (.t 17), none⟩] [
 ] [4])
 .ret)),
 [.t 4]⟩
-- aneroid/aneroidref01.heights
def c93 : CF := ⟨21,
 (.seq (.ops [
 ⟨(some 2), .box false 25 10 (.t 0), none⟩,
 ⟨(some 3), .box false 32 3 (.t 1), none⟩,
 ⟨(some 4), .alloc 23 2 [.int .i64 0, .int .i64 0], none⟩] [2, 3, 4])
 (.seq (.ops [
 ⟨(some 6), .faddr 1 (.t 3), none⟩,
 ⟨(some 7), .load none (.t 6), none⟩,
 ⟨(some 8), .faddr 2 (.t 3), none⟩,
 ⟨(some 9), .load none (.t 8), none⟩,
 ⟨(some 10), .faddr 8 (.t 2), none⟩,
 ⟨(some 11), .load (some 2) (.t 10), none⟩,
 ⟨(some 12), .call (.f 90) [(.t 7), (.t 9), (.t 11)], none⟩,
 ⟨(some 5), .alloc 23 2 [.int .i64 0, .int .i64 0], none⟩,
 ⟨none, .store 2 (.t 5) (.t 12), none⟩] [2, 4, 5])
 (.seq (.ops [
 ⟨(some 13), .faddr 0 (.t 5), none⟩,
 ⟨(some 14), .load none (.t 13), none⟩,
 ⟨(some 15), .faddr 1 (.t 5), none⟩,
 ⟨(some 16), .load none (.t 15), none⟩,
 ⟨(some 17), .faddr 1 (.t 2), none⟩,
 ⟨(some 18), .load none (.t 17), none⟩,
 ⟨(some 19), .mnx false (.t 16) (.t 18), none⟩,
 ⟨(some 20), .build [.int .i64 0, .int .i64 0] [(0, 1, (.t 14)), (1, 1, (.t 19))], none⟩,
 ⟨none, .store 2 (.t 4) (.t 20), none⟩] [4])
 .ret))),
 [.c 4 (some 2)]⟩
-- aneroid/aneroidref01.Arc
def c23 : CF := ⟨17,
 (.seq (.ops [
 ⟨(some 2), .box false 25 10 (.t 0), none⟩,
 ⟨(some 4), .mv (.c (.int .i64 0)), none⟩,
 ⟨(some 5), .mv (.c (.int .i64 0)), none⟩] [1, 2])
 (.seq (.seq (.ops [
 ⟨(some 6), .load (some 10) (.t 2), none⟩,
 ⟨(some 7), .call (.f 53) [(.t 6)], none⟩,
 ⟨(some 8), .bin .neq (.t 7) (.c (.int .i64 0)), none⟩] [1, 2, 8])
 (.cond (.t 8) (.seq (.ops [
 ⟨(some 4), .mv (.c (.int .i64 0)), none⟩,
 ⟨(some 5), .mv (.c (.int .i64 10)), none⟩] [4, 5])
 .ret)
 .skip))
 (.seq (.seq (.ops [
 ⟨(some 9), .mv (.t 1), none⟩,
 ⟨(some 10), .faddr 1 (.t 2), none⟩,
 ⟨(some 11), .load none (.t 10), none⟩,
 ⟨(some 12), .call (.f 76) [(.t 9), (.c (.int .i64 0)), (.t 11)], none⟩,
 ⟨(some 13), .un .not (.t 12), none⟩] [1, 2, 13])
 (.cond (.t 13) (.seq (.ops [
 ⟨(some 4), .mv (.c (.int .i64 0)), none⟩,
 ⟨(some 5), .mv (.c (.int .i64 1)), none⟩] [4, 5])
 .ret)
 .skip))
 (.seq (.ops [
 ⟨(some 14), .load (some 10) (.t 2), none⟩,
 ⟨(some 15), .mv (.t 1), none⟩,
 ⟨(some 16), .call (.f 77) [(.t 14), (.t 15)], none⟩,
 ⟨(some 4), .mv (.t 16), none⟩,
 ⟨(some 5), .mv (.c (.int .i64 0)), none⟩] [4, 5])
 .ret)))),
 [.t 4, .t 5]⟩
-- aneroid/aneroidref01.Level
def c25 : CF := ⟨17,
 (.seq (.ops [
 ⟨(some 2), .box false 25 10 (.t 0), none⟩,
 ⟨(some 4), .mv (.c (.int .i64 0)), none⟩,
 ⟨(some 5), .mv (.c (.int .i64 0)), none⟩] [1, 2])
 (.seq (.seq (.ops [
 ⟨(some 6), .load (some 10) (.t 2), none⟩,
 ⟨(some 7), .call (.f 53) [(.t 6)], none⟩,
 ⟨(some 8), .bin .neq (.t 7) (.c (.int .i64 0)), none⟩] [1, 2, 8])
 (.cond (.t 8) (.seq (.ops [
 ⟨(some 4), .mv (.c (.int .i64 0)), none⟩,
 ⟨(some 5), .mv (.c (.int .i64 10)), none⟩] [4, 5])
 .ret)
 .skip))
 (.seq (.seq (.ops [
 ⟨(some 9), .mv (.t 1), none⟩,
 ⟨(some 10), .faddr 1 (.t 2), none⟩,
 ⟨(some 11), .load none (.t 10), none⟩,
 ⟨(some 12), .call (.f 76) [(.t 9), (.c (.int .i64 0)), (.t 11)], none⟩,
 ⟨(some 13), .un .not (.t 12), none⟩] [1, 2, 13])
 (.cond (.t 13) (.seq (.ops [
 ⟨(some 4), .mv (.c (.int .i64 0)), none⟩,
 ⟨(some 5), .mv (.c (.int .i64 1)), none⟩] [4, 5])
 .ret)
 .skip))
 (.seq (.ops [
 ⟨(some 14), .load (some 10) (.t 2), none⟩,
 ⟨(some 15), .mv (.t 1), none⟩,
 ⟨(some 16), .call (.f 78) [(.t 14), (.t 15)], none⟩,
 ⟨(some 4), .mv (.t 16), none⟩,
 ⟨(some 5), .mv (.c (.int .i64 0)), none⟩] [4, 5])
 .ret)))),
 [.t 4, .t 5]⟩
-- aneroid/aneroidref01.Heights
def c27 : CF := ⟨48,
 (.seq (.ops [
 ⟨(some 2), .box false 25 10 (.t 0), none⟩,
 ⟨(some 4), .alloc 23 2 [.int .i64 0, .int .i64 0], none⟩,
 ⟨(some 5), .mv (.c (.int .i64 0)), none⟩] [1, 2, 4])
 (.seq (.seq (.ops [
 ⟨(some 7), .load (some 10) (.t 2), none⟩,
 ⟨(some 8), .call (.f 53) [(.t 7)], none⟩,
 ⟨(some 9), .bin .neq (.t 8) (.c (.int .i64 0)), none⟩] [1, 2, 4, 9])
 (.cond (.t 9) (.seq (.ops [
 ⟨(some 10), .build [.int .i64 0, .int .i64 0] [], none⟩,
 ⟨none, .store 2 (.t 4) (.t 10), none⟩,
 ⟨(some 5), .mv (.c (.int .i64 10)), none⟩] [4, 5])
 .ret)
 .skip))
 (.seq (.seq (.ops [
 ⟨(some 11), .mv (.t 1), none⟩,
 ⟨(some 12), .faddr 3 (.t 2), none⟩,
 ⟨(some 13), .load none (.t 12), none⟩,
 ⟨(some 14), .faddr 4 (.t 2), none⟩,
 ⟨(some 15), .load none (.t 14), none⟩,
 ⟨(some 16), .call (.f 76) [(.t 11), (.t 13), (.t 15)], none⟩,
 ⟨(some 17), .un .not (.t 16), none⟩] [1, 2, 4, 17])
 (.cond (.t 17) (.seq (.ops [
 ⟨(some 18), .build [.int .i64 0, .int .i64 0] [], none⟩,
 ⟨none, .store 2 (.t 4) (.t 18), none⟩,
 ⟨(some 5), .mv (.c (.int .i64 1)), none⟩] [4, 5])
 .ret)
 .skip))
 (.seq (.ops [
 ⟨(some 19), .faddr 4 (.t 2), none⟩,
 ⟨(some 20), .load none (.t 19), none⟩,
 ⟨(some 21), .faddr 3 (.t 2), none⟩,
 ⟨(some 22), .load none (.t 21), none⟩,
 ⟨(some 23), .bin .sub (.t 20) (.t 22), none⟩,
 ⟨(some 6), .mv (.t 23), none⟩] [1, 2, 4, 6])
 (.seq (.draw [
 ⟨(some 24), .mv (.t 1), none⟩,
 ⟨(some 25), .faddr 3 (.t 2), none⟩,
 ⟨(some 26), .load none (.t 25), none⟩,
 ⟨(some 27), .bin .sub (.t 24) (.t 26), none⟩,
 ⟨(some 28), .faddr 1 (.t 2), none⟩,
 ⟨(some 29), .load none (.t 28), none⟩,
 ⟨(some 30), .bin .mul (.t 27) (.t 29), none⟩,
 ⟨(some 31), .mv (.t 6), none⟩,
 ⟨(some 32), .call (.f 80) [(.t 30), (.t 31)], none⟩,
 ⟨(some 33), .faddr 1 (.t 2), none⟩,
 ⟨(some 34), .load none (.t 33), none⟩,
 ⟨(some 35), .mv (.t 1), none⟩,
 ⟨(some 36), .bin .add (.t 35) (.c (.int .i64 1)), none⟩,
 ⟨(some 37), .faddr 3 (.t 2), none⟩,
 ⟨(some 38), .load none (.t 37), none⟩,
 ⟨(some 39), .bin .sub (.t 36) (.t 38), none⟩,
 ⟨(some 40), .faddr 1 (.t 2), none⟩,
 ⟨(some 41), .load none (.t 40), none⟩,
 ⟨(some 42), .bin .mul (.t 39) (.t 41), none⟩,
 ⟨(some 43), .mv (.t 6), none⟩,
 ⟨(some 44), .call (.f 80) [(.t 42), (.t 43)], none⟩,
 ⟨(some 45), .bin .sub (.t 44) (.c (.int .i64 1)), none⟩,
 ⟨(some 46), .mnx false (.t 34) (.t 45), none⟩,
 ⟨(some 47), .build [.int .i64 0, .int .i64 0] [(0, 1, (.t 32)), (1, 1, (.t 46))], none⟩] [
 ⟨none, .store 2 (.t 4) (.t 47), none⟩,
 ⟨(some 5), .mv (.c (.int .i64 0)), none⟩] [4, 5])
 .ret))))),
 [.c 4 (some 2), .t 5]⟩
-- aneroid/aneroidref01.Along
def c39 : CF := ⟨21,
 (.seq (.ops [
 ⟨(some 2), .box false 25 10 (.t 0), none⟩,
 ⟨(some 3), .box false 32 3 (.t 1), none⟩,
 ⟨(some 4), .alloc 23 2 [.int .i64 0, .int .i64 0], none⟩,
 ⟨(some 5), .mv (.c (.int .i64 0)), none⟩] [2, 3, 4])
 (.seq (.ops [
 ⟨(some 7), .load (some 10) (.t 2), none⟩,
 ⟨(some 8), .load (some 3) (.t 3), none⟩,
 ⟨(some 9), .call (.f 81) [(.t 7), (.t 8)], none⟩,
 ⟨(some 6), .mv (.t 9), none⟩] [2, 3, 4, 6])
 (.seq (.seq (.ops [
 ⟨(some 10), .mv (.t 6), none⟩,
 ⟨(some 11), .bin .neq (.t 10) (.c (.int .i64 0)), none⟩] [2, 3, 4, 6, 11])
 (.cond (.t 11) (.seq (.ops [
 ⟨(some 12), .build [.int .i64 0, .int .i64 0] [], none⟩,
 ⟨(some 13), .mv (.t 6), none⟩,
 ⟨none, .store 2 (.t 4) (.t 12), none⟩,
 ⟨(some 5), .mv (.t 13), none⟩] [4, 5])
 .ret)
 .skip))
 (.seq (.ops [
 ⟨(some 14), .faddr 0 (.t 3), none⟩,
 ⟨(some 15), .load none (.t 14), none⟩,
 ⟨(some 16), .faddr 2 (.t 3), none⟩,
 ⟨(some 17), .load none (.t 16), none⟩,
 ⟨(some 18), .faddr 6 (.t 2), none⟩,
 ⟨(some 19), .load (some 2) (.t 18), none⟩,
 ⟨(some 20), .call (.f 90) [(.t 15), (.t 17), (.t 19)], none⟩,
 ⟨none, .store 2 (.t 4) (.t 20), none⟩,
 ⟨(some 5), .mv (.c (.int .i64 0)), none⟩] [4, 5])
 .ret)))),
 [.c 4 (some 2), .t 5]⟩
-- aneroid/aneroidref01.Across
def c40 : CF := ⟨21,
 (.seq (.ops [
 ⟨(some 2), .box false 25 10 (.t 0), none⟩,
 ⟨(some 3), .box false 32 3 (.t 1), none⟩,
 ⟨(some 4), .alloc 23 2 [.int .i64 0, .int .i64 0], none⟩,
 ⟨(some 5), .mv (.c (.int .i64 0)), none⟩] [2, 3, 4])
 (.seq (.ops [
 ⟨(some 7), .load (some 10) (.t 2), none⟩,
 ⟨(some 8), .load (some 3) (.t 3), none⟩,
 ⟨(some 9), .call (.f 81) [(.t 7), (.t 8)], none⟩,
 ⟨(some 6), .mv (.t 9), none⟩] [2, 3, 4, 6])
 (.seq (.seq (.ops [
 ⟨(some 10), .mv (.t 6), none⟩,
 ⟨(some 11), .bin .neq (.t 10) (.c (.int .i64 0)), none⟩] [2, 3, 4, 6, 11])
 (.cond (.t 11) (.seq (.ops [
 ⟨(some 12), .build [.int .i64 0, .int .i64 0] [], none⟩,
 ⟨(some 13), .mv (.t 6), none⟩,
 ⟨none, .store 2 (.t 4) (.t 12), none⟩,
 ⟨(some 5), .mv (.t 13), none⟩] [4, 5])
 .ret)
 .skip))
 (.seq (.ops [
 ⟨(some 14), .faddr 1 (.t 3), none⟩,
 ⟨(some 15), .load none (.t 14), none⟩,
 ⟨(some 16), .faddr 2 (.t 3), none⟩,
 ⟨(some 17), .load none (.t 16), none⟩,
 ⟨(some 18), .faddr 8 (.t 2), none⟩,
 ⟨(some 19), .load (some 2) (.t 18), none⟩,
 ⟨(some 20), .call (.f 90) [(.t 15), (.t 17), (.t 19)], none⟩,
 ⟨none, .store 2 (.t 4) (.t 20), none⟩,
 ⟨(some 5), .mv (.c (.int .i64 0)), none⟩] [4, 5])
 .ret)))),
 [.c 4 (some 2), .t 5]⟩

theorem k76 : chkF Try.prog Try.f76 c76 = true := by kernel_rfl
theorem k84 : chkF Try.prog Try.f84 c84 = true := by kernel_rfl
theorem k80 : chkF Try.prog Try.f80 c80 = true := by kernel_rfl
theorem k99 : chkF Try.prog Try.f99 c99 = true := by kernel_rfl
theorem k53 : chkF Try.prog Try.f53 c53 = true := by kernel_rfl

theorem rwithin_spec (a b c : Int) : Pure Try.prog 76 [n a, n b, n c] (bl (decide (b ≤ a ∧ a ≤ c))) := by
  refine Pure.of_body Try.call76 Try.func76 k76 (Nat.le_of_ble_eq_true rfl) ?_
  unfold c76
  (repeat' first
    | (refine AWPC.of_vcn rfl ?_; simp only [zT, drp, hasN, Bool.or_false, Bool.false_or, Bool.or_true, Bool.true_or, Classical.not_not, zS, vcC, exs, exd, pickV, alS, Al.ob, grd, ex, ov, gt, argE, strp, cnd, sideL, I.os, st, wrap, keep, binA, kseq, kblk, kret, klp, resL, res1, one, ocalls, obj, elems, cells, scalar, vs, pick1, fillA, splice, chop, eqC, Nat.reduceBEq, Nat.reduceAdd, Nat.reduceSub, Nat.reduceLT, Nat.reduceLeDiff, Nat.reduceMul, Nat.reduceEqDiff, cond_true, cond_false, if_true, if_false, reduceIte, implies_true, forall_const, ne_eq])
    | (simp (disch := omega) only [wr64, Int.zero_sub]; try simp only [zT, drp, hasN, Bool.or_false, Bool.false_or, Bool.or_true, Bool.true_or, Classical.not_not, zS, vcC, exs, exd, pickV, alS, Al.ob, grd, ex, ov, gt, argE, strp, cnd, sideL, I.os, st, wrap, keep, binA, kseq, kblk, kret, klp, resL, res1, one, ocalls, obj, elems, cells, scalar, vs, pick1, fillA, splice, chop, eqC, Nat.reduceBEq, Nat.reduceAdd, Nat.reduceSub, Nat.reduceLT, Nat.reduceLeDiff, Nat.reduceMul, Nat.reduceEqDiff, cond_true, cond_false, if_true, if_false, reduceIte, implies_true, forall_const, ne_eq])
    | (refine AWPC.both (fun _ => ?_) (fun _ => ?_))
    | (refine AWPC.imp (fun _ => ?_))
    | ((refine .inl ⟨_, _, _, .any, rfl, fun h => absurd h Bool.false_ne_true, ?_⟩); (first | (refine owp_of_exs ?_; simp only [zT, drp, hasN, Bool.or_false, Bool.false_or, Bool.or_true, Bool.true_or, Classical.not_not, zS, vcC, exs, exd, pickV, alS, Al.ob, grd, ex, ov, gt, argE, strp, cnd, sideL, I.os, st, wrap, keep, binA, kseq, kblk, kret, klp, resL, res1, one, ocalls, obj, elems, cells, scalar, vs, pick1, fillA, splice, chop, eqC, Nat.reduceBEq, Nat.reduceAdd, Nat.reduceSub, Nat.reduceLT, Nat.reduceLeDiff, Nat.reduceMul, Nat.reduceEqDiff, cond_true, cond_false, if_true, if_false, reduceIte, implies_true, forall_const, ne_eq]) | fail))
    | (refine ⟨by omega, ?_⟩)
    | fail)
  exact Frz.eq rfl (by simp)

theorem rfloor_spec (a b : Int) (hb : 1 ≤ b) (hb2 : b ≤ 1000000000000) (h1 : -1000000000000000 ≤ a) (h2 : a ≤ 1000000000000000) : Pure Try.prog 84 [n a, n b] (n (a / b)) := by
  refine Pure.of_body Try.call84 Try.func84 k84 (Nat.le_of_ble_eq_true rfl) ?_
  have hd := ediv_bd h1 h2 (by omega) hb
  unfold c84
  (repeat' first
    | (refine AWPC.of_vcn rfl ?_; simp only [zT, drp, hasN, Bool.or_false, Bool.false_or, Bool.or_true, Bool.true_or, Classical.not_not, zS, vcC, exs, exd, pickV, alS, Al.ob, grd, ex, ov, gt, argE, strp, cnd, sideL, I.os, st, wrap, keep, binA, kseq, kblk, kret, klp, resL, res1, one, ocalls, obj, elems, cells, scalar, vs, pick1, fillA, splice, chop, eqC, Nat.reduceBEq, Nat.reduceAdd, Nat.reduceSub, Nat.reduceLT, Nat.reduceLeDiff, Nat.reduceMul, Nat.reduceEqDiff, cond_true, cond_false, if_true, if_false, reduceIte, implies_true, forall_const, ne_eq])
    | (simp (disch := omega) only [wr64, Int.zero_sub]; try simp only [zT, drp, hasN, Bool.or_false, Bool.false_or, Bool.or_true, Bool.true_or, Classical.not_not, zS, vcC, exs, exd, pickV, alS, Al.ob, grd, ex, ov, gt, argE, strp, cnd, sideL, I.os, st, wrap, keep, binA, kseq, kblk, kret, klp, resL, res1, one, ocalls, obj, elems, cells, scalar, vs, pick1, fillA, splice, chop, eqC, Nat.reduceBEq, Nat.reduceAdd, Nat.reduceSub, Nat.reduceLT, Nat.reduceLeDiff, Nat.reduceMul, Nat.reduceEqDiff, cond_true, cond_false, if_true, if_false, reduceIte, implies_true, forall_const, ne_eq])
    | (refine AWPC.both (fun _ => ?_) (fun _ => ?_))
    | (refine AWPC.imp (fun _ => ?_))
    | ((refine .inl ⟨_, _, _, .any, rfl, fun h => absurd h Bool.false_ne_true, ?_⟩); (first | (refine owp_of_exs ?_; simp only [zT, drp, hasN, Bool.or_false, Bool.false_or, Bool.or_true, Bool.true_or, Classical.not_not, zS, vcC, exs, exd, pickV, alS, Al.ob, grd, ex, ov, gt, argE, strp, cnd, sideL, I.os, st, wrap, keep, binA, kseq, kblk, kret, klp, resL, res1, one, ocalls, obj, elems, cells, scalar, vs, pick1, fillA, splice, chop, eqC, Nat.reduceBEq, Nat.reduceAdd, Nat.reduceSub, Nat.reduceLT, Nat.reduceLeDiff, Nat.reduceMul, Nat.reduceEqDiff, cond_true, cond_false, if_true, if_false, reduceIte, implies_true, forall_const, ne_eq]) | fail))
    | (refine ⟨by omega, ?_⟩)
    | fail)
  · have := fdiv_neg hb (show a < 0 by omega)
    rw [show (-a + b - 1).tdiv b = -(a / b) by omega]
    simp (disch := omega) only [wr64, Int.zero_sub]
    refine Frz.eq ?_ (by simp)
    simp
  · have : a.tdiv b = a / b := Int.tdiv_eq_ediv_of_nonneg (by omega)
    rw [this]
    simp (disch := omega) only [wr64, Int.zero_sub]
    exact Frz.eq rfl (by simp)

theorem rceil_spec (a b : Int) (hb : 1 ≤ b) (hb2 : b ≤ 1000000000000) (h1 : -1000000000000000 ≤ a) (h2 : a ≤ 1000000000000000) : Pure Try.prog 80 [n a, n b] (n (-((-a) / b))) := by
  refine Pure.of_body Try.call80 Try.func80 k80 (Nat.le_of_ble_eq_true rfl) ?_
  have hd := ediv_bd (a := -a) (A := 1000000000000000) (by omega) (by omega) (by omega) hb
  unfold c80
  (repeat' first
    | (refine AWPC.of_vcn rfl ?_; simp only [zT, drp, hasN, Bool.or_false, Bool.false_or, Bool.or_true, Bool.true_or, Classical.not_not, zS, vcC, exs, exd, pickV, alS, Al.ob, grd, ex, ov, gt, argE, strp, cnd, sideL, I.os, st, wrap, keep, binA, kseq, kblk, kret, klp, resL, res1, one, ocalls, obj, elems, cells, scalar, vs, pick1, fillA, splice, chop, eqC, Nat.reduceBEq, Nat.reduceAdd, Nat.reduceSub, Nat.reduceLT, Nat.reduceLeDiff, Nat.reduceMul, Nat.reduceEqDiff, cond_true, cond_false, if_true, if_false, reduceIte, implies_true, forall_const, ne_eq])
    | (simp (disch := omega) only [wr64, Int.zero_sub]; try simp only [zT, drp, hasN, Bool.or_false, Bool.false_or, Bool.or_true, Bool.true_or, Classical.not_not, zS, vcC, exs, exd, pickV, alS, Al.ob, grd, ex, ov, gt, argE, strp, cnd, sideL, I.os, st, wrap, keep, binA, kseq, kblk, kret, klp, resL, res1, one, ocalls, obj, elems, cells, scalar, vs, pick1, fillA, splice, chop, eqC, Nat.reduceBEq, Nat.reduceAdd, Nat.reduceSub, Nat.reduceLT, Nat.reduceLeDiff, Nat.reduceMul, Nat.reduceEqDiff, cond_true, cond_false, if_true, if_false, reduceIte, implies_true, forall_const, ne_eq])
    | (refine AWPC.both (fun _ => ?_) (fun _ => ?_))
    | (refine AWPC.imp (fun _ => ?_))
    | ((repeat (refine And.intro (by (intros; simp_all (config := { decide := false }); done)) ?_)); (first
      | (refine .inl ⟨_, _, _, _, rfl, fun _hc => ⟨by simp, rfloor_spec _ _ (by omega) (by omega) (by omega) (by omega)⟩, ?_⟩)
      | (refine ⟨_, _, _, _, rfl, fun _hc => ⟨by simp, rfloor_spec _ _ (by omega) (by omega) (by omega) (by omega)⟩, ?_⟩)
      | fail); (first | (refine owp_of_exs ?_; simp only [zT, drp, hasN, Bool.or_false, Bool.false_or, Bool.or_true, Bool.true_or, Classical.not_not, zS, vcC, exs, exd, pickV, alS, Al.ob, grd, ex, ov, gt, argE, strp, cnd, sideL, I.os, st, wrap, keep, binA, kseq, kblk, kret, klp, resL, res1, one, ocalls, obj, elems, cells, scalar, vs, pick1, fillA, splice, chop, eqC, Nat.reduceBEq, Nat.reduceAdd, Nat.reduceSub, Nat.reduceLT, Nat.reduceLeDiff, Nat.reduceMul, Nat.reduceEqDiff, cond_true, cond_false, if_true, if_false, reduceIte, implies_true, forall_const, ne_eq]) | (refine pre_of_exd ?_; simp only [zT, drp, hasN, Bool.or_false, Bool.false_or, Bool.or_true, Bool.true_or, Classical.not_not, zS, vcC, exs, exd, pickV, alS, Al.ob, grd, ex, ov, gt, argE, strp, cnd, sideL, I.os, st, wrap, keep, binA, kseq, kblk, kret, klp, resL, res1, one, ocalls, obj, elems, cells, scalar, vs, pick1, fillA, splice, chop, eqC, Nat.reduceBEq, Nat.reduceAdd, Nat.reduceSub, Nat.reduceLT, Nat.reduceLeDiff, Nat.reduceMul, Nat.reduceEqDiff, cond_true, cond_false, if_true, if_false, reduceIte, implies_true, forall_const, ne_eq]) | fail))
    | ((refine .inl ⟨_, _, _, .any, rfl, fun h => absurd h Bool.false_ne_true, ?_⟩); (first | (refine owp_of_exs ?_; simp only [zT, drp, hasN, Bool.or_false, Bool.false_or, Bool.or_true, Bool.true_or, Classical.not_not, zS, vcC, exs, exd, pickV, alS, Al.ob, grd, ex, ov, gt, argE, strp, cnd, sideL, I.os, st, wrap, keep, binA, kseq, kblk, kret, klp, resL, res1, one, ocalls, obj, elems, cells, scalar, vs, pick1, fillA, splice, chop, eqC, Nat.reduceBEq, Nat.reduceAdd, Nat.reduceSub, Nat.reduceLT, Nat.reduceLeDiff, Nat.reduceMul, Nat.reduceEqDiff, cond_true, cond_false, if_true, if_false, reduceIte, implies_true, forall_const, ne_eq]) | fail))
    | (refine ⟨by omega, ?_⟩)
    | fail)
  exact Frz.eq rfl (by simp)

theorem k85 : chkF Try.prog Try.f85 c85 = true := by kernel_rfl
theorem k47 : chkF Try.prog Try.f47 c47 = true := by kernel_rfl
theorem k81 : chkF Try.prog Try.f81 c81 = true := by kernel_rfl
theorem k90 : chkF Try.prog Try.f90 c90 = true := by kernel_rfl
theorem k77 : chkF Try.prog Try.f77 c77 = true := by kernel_rfl
theorem k78 : chkF Try.prog Try.f78 c78 = true := by kernel_rfl
theorem k93 : chkF Try.prog Try.f93 c93 = true := by kernel_rfl
theorem k23 : chkF Try.prog Try.f23 c23 = true := by kernel_rfl
theorem k25 : chkF Try.prog Try.f25 c25 = true := by kernel_rfl
theorem k27 : chkF Try.prog Try.f27 c27 = true := by kernel_rfl
theorem k39 : chkF Try.prog Try.f39 c39 = true := by kernel_rfl
theorem k40 : chkF Try.prog Try.f40 c40 = true := by kernel_rfl

theorem rshrunk_spec (s : Sp) : Pure Try.prog 99 [.agg s.cs] (bl (decide s.ok)) := by
  refine Pure.of_body Try.call99 Try.func99 k99 (Nat.le_of_ble_eq_true rfl) ?_
  unfold c99
  (repeat' first
    | (refine AWPC.of_vcn rfl ?_; simp only [zT, drp, hasN, Bool.or_false, Bool.false_or, Bool.or_true, Bool.true_or, Classical.not_not, zS, vcC, exs, exd, pickV, alS, Al.ob, grd, ex, ov, gt, argE, strp, cnd, sideL, I.os, st, wrap, keep, binA, kseq, kblk, kret, klp, resL, res1, one, ocalls, obj, elems, cells, scalar, vs, pick1, fillA, splice, chop, eqC, Nat.reduceBEq, Nat.reduceAdd, Nat.reduceSub, Nat.reduceLT, Nat.reduceLeDiff, Nat.reduceMul, Nat.reduceEqDiff, cond_true, cond_false, if_true, if_false, reduceIte, implies_true, forall_const, ne_eq])
    | (simp (disch := omega) only [wr64, Int.zero_sub]; try simp only [zT, drp, hasN, Bool.or_false, Bool.false_or, Bool.or_true, Bool.true_or, Classical.not_not, zS, vcC, exs, exd, pickV, alS, Al.ob, grd, ex, ov, gt, argE, strp, cnd, sideL, I.os, st, wrap, keep, binA, kseq, kblk, kret, klp, resL, res1, one, ocalls, obj, elems, cells, scalar, vs, pick1, fillA, splice, chop, eqC, Nat.reduceBEq, Nat.reduceAdd, Nat.reduceSub, Nat.reduceLT, Nat.reduceLeDiff, Nat.reduceMul, Nat.reduceEqDiff, cond_true, cond_false, if_true, if_false, reduceIte, implies_true, forall_const, ne_eq])
    | (refine AWPC.both (fun _ => ?_) (fun _ => ?_))
    | (refine AWPC.imp (fun _ => ?_))
    | ((refine .inl ⟨_, _, _, .any, rfl, fun h => absurd h Bool.false_ne_true, ?_⟩); (first | (refine owp_of_exs ?_; simp only [zT, drp, hasN, Bool.or_false, Bool.false_or, Bool.or_true, Bool.true_or, Classical.not_not, zS, vcC, exs, exd, pickV, alS, Al.ob, grd, ex, ov, gt, argE, strp, cnd, sideL, I.os, st, wrap, keep, binA, kseq, kblk, kret, klp, resL, res1, one, ocalls, obj, elems, cells, scalar, vs, pick1, fillA, splice, chop, eqC, Nat.reduceBEq, Nat.reduceAdd, Nat.reduceSub, Nat.reduceLT, Nat.reduceLeDiff, Nat.reduceMul, Nat.reduceEqDiff, cond_true, cond_false, if_true, if_false, reduceIte, implies_true, forall_const, ne_eq]) | fail))
    | (refine ⟨by omega, ?_⟩)
    | fail)
  refine Frz.eq ?_ (by simp)
  congr 2
  rw [decide_eq_decide]; omega

theorem rcheckPaper_spec (p : Pp) : Pure Try.prog 53 [.agg p.cs] (n p.err) := by
  refine Pure.of_body Try.call53 Try.func53 k53 (Nat.le_of_ble_eq_true rfl) ?_
  unfold c53
  (repeat' first
    | (refine AWPC.of_vcn rfl ?_; simp only [zT, drp, hasN, Bool.or_false, Bool.false_or, Bool.or_true, Bool.true_or, Classical.not_not, zS, vcC, exs, exd, pickV, alS, Al.ob, grd, ex, ov, gt, argE, strp, cnd, sideL, I.os, st, wrap, keep, binA, kseq, kblk, kret, klp, resL, res1, one, ocalls, obj, elems, cells, scalar, vs, pick1, fillA, splice, chop, eqC, Nat.reduceBEq, Nat.reduceAdd, Nat.reduceSub, Nat.reduceLT, Nat.reduceLeDiff, Nat.reduceMul, Nat.reduceEqDiff, cond_true, cond_false, if_true, if_false, reduceIte, implies_true, forall_const, ne_eq])
    | (simp (disch := omega) only [wr64, Int.zero_sub]; try simp only [zT, drp, hasN, Bool.or_false, Bool.false_or, Bool.or_true, Bool.true_or, Classical.not_not, zS, vcC, exs, exd, pickV, alS, Al.ob, grd, ex, ov, gt, argE, strp, cnd, sideL, I.os, st, wrap, keep, binA, kseq, kblk, kret, klp, resL, res1, one, ocalls, obj, elems, cells, scalar, vs, pick1, fillA, splice, chop, eqC, Nat.reduceBEq, Nat.reduceAdd, Nat.reduceSub, Nat.reduceLT, Nat.reduceLeDiff, Nat.reduceMul, Nat.reduceEqDiff, cond_true, cond_false, if_true, if_false, reduceIte, implies_true, forall_const, ne_eq])
    | (refine AWPC.both (fun _ => ?_) (fun _ => ?_))
    | (refine AWPC.imp (fun _ => ?_))
    | ((repeat (refine And.intro (by (intros; simp_all (config := { decide := false }); done)) ?_)); (first
      | (refine .inl ⟨_, _, _, _, rfl, fun _hc => ⟨by simp, rwithin_spec _ _ _⟩, ?_⟩)
      | (refine .inl ⟨_, _, _, _, rfl, fun _hc => ⟨by simp, rshrunk_spec p.al⟩, ?_⟩)
      | (refine .inl ⟨_, _, _, _, rfl, fun _hc => ⟨by simp, rshrunk_spec p.cl⟩, ?_⟩)
      | (refine ⟨_, _, _, _, rfl, fun _hc => ⟨by simp, rwithin_spec _ _ _⟩, ?_⟩)
      | (refine ⟨_, _, _, _, rfl, fun _hc => ⟨by simp, rshrunk_spec p.al⟩, ?_⟩)
      | (refine ⟨_, _, _, _, rfl, fun _hc => ⟨by simp, rshrunk_spec p.cl⟩, ?_⟩)
      | fail); (first | (refine owp_of_exs ?_; simp only [zT, drp, hasN, Bool.or_false, Bool.false_or, Bool.or_true, Bool.true_or, Classical.not_not, zS, vcC, exs, exd, pickV, alS, Al.ob, grd, ex, ov, gt, argE, strp, cnd, sideL, I.os, st, wrap, keep, binA, kseq, kblk, kret, klp, resL, res1, one, ocalls, obj, elems, cells, scalar, vs, pick1, fillA, splice, chop, eqC, Nat.reduceBEq, Nat.reduceAdd, Nat.reduceSub, Nat.reduceLT, Nat.reduceLeDiff, Nat.reduceMul, Nat.reduceEqDiff, cond_true, cond_false, if_true, if_false, reduceIte, implies_true, forall_const, ne_eq]) | (refine pre_of_exd ?_; simp only [zT, drp, hasN, Bool.or_false, Bool.false_or, Bool.or_true, Bool.true_or, Classical.not_not, zS, vcC, exs, exd, pickV, alS, Al.ob, grd, ex, ov, gt, argE, strp, cnd, sideL, I.os, st, wrap, keep, binA, kseq, kblk, kret, klp, resL, res1, one, ocalls, obj, elems, cells, scalar, vs, pick1, fillA, splice, chop, eqC, Nat.reduceBEq, Nat.reduceAdd, Nat.reduceSub, Nat.reduceLT, Nat.reduceLeDiff, Nat.reduceMul, Nat.reduceEqDiff, cond_true, cond_false, if_true, if_false, reduceIte, implies_true, forall_const, ne_eq]) | fail))
    | ((refine .inl ⟨_, _, _, .any, rfl, fun h => absurd h Bool.false_ne_true, ?_⟩); (first | (refine owp_of_exs ?_; simp only [zT, drp, hasN, Bool.or_false, Bool.false_or, Bool.or_true, Bool.true_or, Classical.not_not, zS, vcC, exs, exd, pickV, alS, Al.ob, grd, ex, ov, gt, argE, strp, cnd, sideL, I.os, st, wrap, keep, binA, kseq, kblk, kret, klp, resL, res1, one, ocalls, obj, elems, cells, scalar, vs, pick1, fillA, splice, chop, eqC, Nat.reduceBEq, Nat.reduceAdd, Nat.reduceSub, Nat.reduceLT, Nat.reduceLeDiff, Nat.reduceMul, Nat.reduceEqDiff, cond_true, cond_false, if_true, if_false, reduceIte, implies_true, forall_const, ne_eq]) | fail))
    | (refine ⟨by omega, ?_⟩)
    | fail)
  · refine Frz.eq ?_ (by simp)
    rw [err1]; rintro ⟨g1, g2, g3, g4, g5, g6, g7, g8, g9, g10, g11, g12, g13⟩; omega
  · refine Frz.eq ?_ (by simp)
    rw [err1]; rintro ⟨g1, g2, g3, g4, g5, g6, g7, g8, g9, g10, g11, g12, g13⟩
    rename_i h
    rw [wr64 _ (by omega) (by omega)] at h; omega
  · refine Frz.eq ?_ (by simp)
    rename_i h1 h2
    simp only [not_or, Decidable.not_not] at h1 h2
    obtain ⟨⟨⟨⟨h3, h4⟩, h5⟩, h6⟩, h7⟩ := h2
    rw [wr64 _ (by omega) (by omega)] at h7
    rw [err0.2]; unfold Pp.good
    exact ⟨by omega, by omega, by omega, by omega, by omega, by omega, by omega, by omega, by omega, by omega, by omega, h1.1.2, h1.2⟩

theorem rright_spec (t : Pt) : Pure Try.prog 85 [.agg t.cs] (bl (decide t.right)) := by
  refine Pure.of_body Try.call85 Try.func85 k85 (Nat.le_of_ble_eq_true rfl) ?_
  unfold c85
  (repeat' first
    | (refine AWPC.of_vcn rfl ?_; simp only [zT, drp, hasN, Bool.or_false, Bool.false_or, Bool.or_true, Bool.true_or, Classical.not_not, zS, vcC, exs, exd, pickV, alS, Al.ob, grd, ex, ov, gt, argE, strp, cnd, sideL, I.os, st, wrap, keep, binA, kseq, kblk, kret, klp, resL, res1, one, ocalls, obj, elems, cells, scalar, vs, pick1, fillA, splice, chop, eqC, Nat.reduceBEq, Nat.reduceAdd, Nat.reduceSub, Nat.reduceLT, Nat.reduceLeDiff, Nat.reduceMul, Nat.reduceEqDiff, cond_true, cond_false, if_true, if_false, reduceIte, implies_true, forall_const, ne_eq])
    | (simp (disch := omega) only [wr64, Int.zero_sub]; try simp only [zT, drp, hasN, Bool.or_false, Bool.false_or, Bool.or_true, Bool.true_or, Classical.not_not, zS, vcC, exs, exd, pickV, alS, Al.ob, grd, ex, ov, gt, argE, strp, cnd, sideL, I.os, st, wrap, keep, binA, kseq, kblk, kret, klp, resL, res1, one, ocalls, obj, elems, cells, scalar, vs, pick1, fillA, splice, chop, eqC, Nat.reduceBEq, Nat.reduceAdd, Nat.reduceSub, Nat.reduceLT, Nat.reduceLeDiff, Nat.reduceMul, Nat.reduceEqDiff, cond_true, cond_false, if_true, if_false, reduceIte, implies_true, forall_const, ne_eq])
    | (refine AWPC.both (fun _ => ?_) (fun _ => ?_))
    | (refine AWPC.imp (fun _ => ?_))
    | ((repeat (refine And.intro (by (intros; simp_all (config := { decide := false }); done)) ?_)); (first
      | (refine .inl ⟨_, _, _, _, rfl, fun _hc => ⟨by simp, rwithin_spec _ _ _⟩, ?_⟩)
      | (refine ⟨_, _, _, _, rfl, fun _hc => ⟨by simp, rwithin_spec _ _ _⟩, ?_⟩)
      | fail); (first | (refine owp_of_exs ?_; simp only [zT, drp, hasN, Bool.or_false, Bool.false_or, Bool.or_true, Bool.true_or, Classical.not_not, zS, vcC, exs, exd, pickV, alS, Al.ob, grd, ex, ov, gt, argE, strp, cnd, sideL, I.os, st, wrap, keep, binA, kseq, kblk, kret, klp, resL, res1, one, ocalls, obj, elems, cells, scalar, vs, pick1, fillA, splice, chop, eqC, Nat.reduceBEq, Nat.reduceAdd, Nat.reduceSub, Nat.reduceLT, Nat.reduceLeDiff, Nat.reduceMul, Nat.reduceEqDiff, cond_true, cond_false, if_true, if_false, reduceIte, implies_true, forall_const, ne_eq]) | (refine pre_of_exd ?_; simp only [zT, drp, hasN, Bool.or_false, Bool.false_or, Bool.or_true, Bool.true_or, Classical.not_not, zS, vcC, exs, exd, pickV, alS, Al.ob, grd, ex, ov, gt, argE, strp, cnd, sideL, I.os, st, wrap, keep, binA, kseq, kblk, kret, klp, resL, res1, one, ocalls, obj, elems, cells, scalar, vs, pick1, fillA, splice, chop, eqC, Nat.reduceBEq, Nat.reduceAdd, Nat.reduceSub, Nat.reduceLT, Nat.reduceLeDiff, Nat.reduceMul, Nat.reduceEqDiff, cond_true, cond_false, if_true, if_false, reduceIte, implies_true, forall_const, ne_eq]) | fail))
    | ((refine .inl ⟨_, _, _, .any, rfl, fun h => absurd h Bool.false_ne_true, ?_⟩); (first | (refine owp_of_exs ?_; simp only [zT, drp, hasN, Bool.or_false, Bool.false_or, Bool.or_true, Bool.true_or, Classical.not_not, zS, vcC, exs, exd, pickV, alS, Al.ob, grd, ex, ov, gt, argE, strp, cnd, sideL, I.os, st, wrap, keep, binA, kseq, kblk, kret, klp, resL, res1, one, ocalls, obj, elems, cells, scalar, vs, pick1, fillA, splice, chop, eqC, Nat.reduceBEq, Nat.reduceAdd, Nat.reduceSub, Nat.reduceLT, Nat.reduceLeDiff, Nat.reduceMul, Nat.reduceEqDiff, cond_true, cond_false, if_true, if_false, reduceIte, implies_true, forall_const, ne_eq]) | fail))
    | (refine ⟨by omega, ?_⟩)
    | fail)
  refine Frz.eq ?_ (by simp)
  congr 2
  rw [decide_eq_decide]; omega

theorem rcheck_spec (p : Pp) (t : Pt) : Pure Try.prog 81 [.agg p.cs, .agg t.cs] (n (p.perr1 t)) := by
  refine Pure.of_body Try.call81 Try.func81 k81 (Nat.le_of_ble_eq_true rfl) ?_
  unfold c81
  (repeat' first
    | (refine AWPC.of_vcn rfl ?_; simp only [zT, drp, hasN, Bool.or_false, Bool.false_or, Bool.or_true, Bool.true_or, Classical.not_not, zS, vcC, exs, exd, pickV, alS, Al.ob, grd, ex, ov, gt, argE, strp, cnd, sideL, I.os, st, wrap, keep, binA, kseq, kblk, kret, klp, resL, res1, one, ocalls, obj, elems, cells, scalar, vs, pick1, fillA, splice, chop, eqC, Nat.reduceBEq, Nat.reduceAdd, Nat.reduceSub, Nat.reduceLT, Nat.reduceLeDiff, Nat.reduceMul, Nat.reduceEqDiff, cond_true, cond_false, if_true, if_false, reduceIte, implies_true, forall_const, ne_eq])
    | (simp (disch := omega) only [wr64, Int.zero_sub]; try simp only [zT, drp, hasN, Bool.or_false, Bool.false_or, Bool.or_true, Bool.true_or, Classical.not_not, zS, vcC, exs, exd, pickV, alS, Al.ob, grd, ex, ov, gt, argE, strp, cnd, sideL, I.os, st, wrap, keep, binA, kseq, kblk, kret, klp, resL, res1, one, ocalls, obj, elems, cells, scalar, vs, pick1, fillA, splice, chop, eqC, Nat.reduceBEq, Nat.reduceAdd, Nat.reduceSub, Nat.reduceLT, Nat.reduceLeDiff, Nat.reduceMul, Nat.reduceEqDiff, cond_true, cond_false, if_true, if_false, reduceIte, implies_true, forall_const, ne_eq])
    | (refine AWPC.both (fun _ => ?_) (fun _ => ?_))
    | (refine AWPC.imp (fun _ => ?_))
    | ((repeat (refine And.intro (by (intros; simp_all (config := { decide := false }); done)) ?_)); (first
      | (refine .inl ⟨_, _, _, _, rfl, fun _hc => ⟨by simp, rcheckPaper_spec p⟩, ?_⟩)
      | (refine .inl ⟨_, _, _, _, rfl, fun _hc => ⟨by simp, rright_spec t⟩, ?_⟩)
      | (refine ⟨_, _, _, _, rfl, fun _hc => ⟨by simp, rcheckPaper_spec p⟩, ?_⟩)
      | (refine ⟨_, _, _, _, rfl, fun _hc => ⟨by simp, rright_spec t⟩, ?_⟩)
      | fail); (first | (refine owp_of_exs ?_; simp only [zT, drp, hasN, Bool.or_false, Bool.false_or, Bool.or_true, Bool.true_or, Classical.not_not, zS, vcC, exs, exd, pickV, alS, Al.ob, grd, ex, ov, gt, argE, strp, cnd, sideL, I.os, st, wrap, keep, binA, kseq, kblk, kret, klp, resL, res1, one, ocalls, obj, elems, cells, scalar, vs, pick1, fillA, splice, chop, eqC, Nat.reduceBEq, Nat.reduceAdd, Nat.reduceSub, Nat.reduceLT, Nat.reduceLeDiff, Nat.reduceMul, Nat.reduceEqDiff, cond_true, cond_false, if_true, if_false, reduceIte, implies_true, forall_const, ne_eq]) | (refine pre_of_exd ?_; simp only [zT, drp, hasN, Bool.or_false, Bool.false_or, Bool.or_true, Bool.true_or, Classical.not_not, zS, vcC, exs, exd, pickV, alS, Al.ob, grd, ex, ov, gt, argE, strp, cnd, sideL, I.os, st, wrap, keep, binA, kseq, kblk, kret, klp, resL, res1, one, ocalls, obj, elems, cells, scalar, vs, pick1, fillA, splice, chop, eqC, Nat.reduceBEq, Nat.reduceAdd, Nat.reduceSub, Nat.reduceLT, Nat.reduceLeDiff, Nat.reduceMul, Nat.reduceEqDiff, cond_true, cond_false, if_true, if_false, reduceIte, implies_true, forall_const, ne_eq]) | fail))
    | ((refine .inl ⟨_, _, _, .any, rfl, fun h => absurd h Bool.false_ne_true, ?_⟩); (first | (refine owp_of_exs ?_; simp only [zT, drp, hasN, Bool.or_false, Bool.false_or, Bool.or_true, Bool.true_or, Classical.not_not, zS, vcC, exs, exd, pickV, alS, Al.ob, grd, ex, ov, gt, argE, strp, cnd, sideL, I.os, st, wrap, keep, binA, kseq, kblk, kret, klp, resL, res1, one, ocalls, obj, elems, cells, scalar, vs, pick1, fillA, splice, chop, eqC, Nat.reduceBEq, Nat.reduceAdd, Nat.reduceSub, Nat.reduceLT, Nat.reduceLeDiff, Nat.reduceMul, Nat.reduceEqDiff, cond_true, cond_false, if_true, if_false, reduceIte, implies_true, forall_const, ne_eq]) | fail))
    | (refine ⟨by omega, ?_⟩)
    | fail)
  · rename_i h
    rw [err0] at h
    refine Frz.eq ?_ (by simp)
    rw [Pp.perr1, if_neg h]
  · rename_i h g
    rw [err0] at h
    refine Frz.eq ?_ (by simp)
    rw [Pp.perr1, if_pos h, if_neg g]
  · rename_i h g
    rw [err0] at h
    refine Frz.eq ?_ (by simp)
    rw [Pp.perr1, if_pos h, if_pos g]

theorem rplaces_spec (x h : Int) (s : Sp) (hs : s.ok) (hx : 0 ≤ x ∧ x ≤ 400000) (hh : 0 ≤ h ∧ h ≤ 5000) : Pure Try.prog 90 [n x, n h, .agg s.cs] (.agg (s.places x h).cs) := by
  refine Pure.of_body Try.call90 Try.func90 k90 (Nat.le_of_ble_eq_true rfl) ?_
  unfold c90
  (repeat' first
    | (refine AWPC.of_vcn rfl ?_; simp only [zT, drp, hasN, Bool.or_false, Bool.false_or, Bool.or_true, Bool.true_or, Classical.not_not, zS, vcC, exs, exd, pickV, alS, Al.ob, grd, ex, ov, gt, argE, strp, cnd, sideL, I.os, st, wrap, keep, binA, kseq, kblk, kret, klp, resL, res1, one, ocalls, obj, elems, cells, scalar, vs, pick1, fillA, splice, chop, eqC, Nat.reduceBEq, Nat.reduceAdd, Nat.reduceSub, Nat.reduceLT, Nat.reduceLeDiff, Nat.reduceMul, Nat.reduceEqDiff, cond_true, cond_false, if_true, if_false, reduceIte, implies_true, forall_const, ne_eq])
    | (simp (disch := omega) only [wr64, Int.zero_sub]; try simp only [zT, drp, hasN, Bool.or_false, Bool.false_or, Bool.or_true, Bool.true_or, Classical.not_not, zS, vcC, exs, exd, pickV, alS, Al.ob, grd, ex, ov, gt, argE, strp, cnd, sideL, I.os, st, wrap, keep, binA, kseq, kblk, kret, klp, resL, res1, one, ocalls, obj, elems, cells, scalar, vs, pick1, fillA, splice, chop, eqC, Nat.reduceBEq, Nat.reduceAdd, Nat.reduceSub, Nat.reduceLT, Nat.reduceLeDiff, Nat.reduceMul, Nat.reduceEqDiff, cond_true, cond_false, if_true, if_false, reduceIte, implies_true, forall_const, ne_eq])
    | (refine AWPC.both (fun _ => ?_) (fun _ => ?_))
    | (refine AWPC.imp (fun _ => ?_))
    | ((repeat (refine And.intro (by (intros; simp_all (config := { decide := false }); done)) ?_)); (first
      | (refine .inl ⟨_, _, _, _, rfl, fun _hc => ⟨by simp, rfloor_spec _ _ (by omega) (by omega) (by omega) (by omega)⟩, ?_⟩)
      | (refine ⟨_, _, _, _, rfl, fun _hc => ⟨by simp, rfloor_spec _ _ (by omega) (by omega) (by omega) (by omega)⟩, ?_⟩)
      | fail); (first | (refine owp_of_exs ?_; simp only [zT, drp, hasN, Bool.or_false, Bool.false_or, Bool.or_true, Bool.true_or, Classical.not_not, zS, vcC, exs, exd, pickV, alS, Al.ob, grd, ex, ov, gt, argE, strp, cnd, sideL, I.os, st, wrap, keep, binA, kseq, kblk, kret, klp, resL, res1, one, ocalls, obj, elems, cells, scalar, vs, pick1, fillA, splice, chop, eqC, Nat.reduceBEq, Nat.reduceAdd, Nat.reduceSub, Nat.reduceLT, Nat.reduceLeDiff, Nat.reduceMul, Nat.reduceEqDiff, cond_true, cond_false, if_true, if_false, reduceIte, implies_true, forall_const, ne_eq]) | (refine pre_of_exd ?_; simp only [zT, drp, hasN, Bool.or_false, Bool.false_or, Bool.or_true, Bool.true_or, Classical.not_not, zS, vcC, exs, exd, pickV, alS, Al.ob, grd, ex, ov, gt, argE, strp, cnd, sideL, I.os, st, wrap, keep, binA, kseq, kblk, kret, klp, resL, res1, one, ocalls, obj, elems, cells, scalar, vs, pick1, fillA, splice, chop, eqC, Nat.reduceBEq, Nat.reduceAdd, Nat.reduceSub, Nat.reduceLT, Nat.reduceLeDiff, Nat.reduceMul, Nat.reduceEqDiff, cond_true, cond_false, if_true, if_false, reduceIte, implies_true, forall_const, ne_eq]) | fail))
    | ((refine .inl ⟨_, _, _, .any, rfl, fun h => absurd h Bool.false_ne_true, ?_⟩); (first | (refine owp_of_exs ?_; simp only [zT, drp, hasN, Bool.or_false, Bool.false_or, Bool.or_true, Bool.true_or, Classical.not_not, zS, vcC, exs, exd, pickV, alS, Al.ob, grd, ex, ov, gt, argE, strp, cnd, sideL, I.os, st, wrap, keep, binA, kseq, kblk, kret, klp, resL, res1, one, ocalls, obj, elems, cells, scalar, vs, pick1, fillA, splice, chop, eqC, Nat.reduceBEq, Nat.reduceAdd, Nat.reduceSub, Nat.reduceLT, Nat.reduceLeDiff, Nat.reduceMul, Nat.reduceEqDiff, cond_true, cond_false, if_true, if_false, reduceIte, implies_true, forall_const, ne_eq]) | fail))
    | (refine ⟨by omega, ?_⟩)
    | fail)
  exact Frz.eq rfl (by simp)

theorem rarc_spec (p : Pp) (y : Int) (hg : p.good) (h0 : 0 ≤ y) (h1 : y ≤ p.he) : Pure Try.prog 77 [.agg p.cs, n y] (n (p.arc y)) := by
  refine Pure.of_body Try.call77 Try.func77 k77 (Nat.le_of_ble_eq_true rfl) ?_
  unfold c77
  obtain ⟨g1, g2, g3, g4, g5, g6, g7, g8, g9, g10, g11, g12, g13⟩ := hg
  have hm := mul_bd h0 (show y ≤ 400000 by omega) (show 0 ≤ p.he - y by omega) (show p.he - y ≤ 400000 by omega)
  have hd : ¬ p.ra = 0 → 0 ≤ (y * (p.he - y)).tdiv (2 * p.ra) ∧ (y * (p.he - y)).tdiv (2 * p.ra) ≤ 400000 * 400000 := fun hr => tdiv_bd hm.1 hm.2 (show 1 ≤ 2 * p.ra by omega)
  (repeat' first
    | (refine AWPC.of_vcn rfl ?_; simp only [zT, drp, hasN, Bool.or_false, Bool.false_or, Bool.or_true, Bool.true_or, Classical.not_not, zS, vcC, exs, exd, pickV, alS, Al.ob, grd, ex, ov, gt, argE, strp, cnd, sideL, I.os, st, wrap, keep, binA, kseq, kblk, kret, klp, resL, res1, one, ocalls, obj, elems, cells, scalar, vs, pick1, fillA, splice, chop, eqC, Nat.reduceBEq, Nat.reduceAdd, Nat.reduceSub, Nat.reduceLT, Nat.reduceLeDiff, Nat.reduceMul, Nat.reduceEqDiff, cond_true, cond_false, if_true, if_false, reduceIte, implies_true, forall_const, ne_eq])
    | (simp (disch := omega) only [wr64, Int.zero_sub]; try simp only [zT, drp, hasN, Bool.or_false, Bool.false_or, Bool.or_true, Bool.true_or, Classical.not_not, zS, vcC, exs, exd, pickV, alS, Al.ob, grd, ex, ov, gt, argE, strp, cnd, sideL, I.os, st, wrap, keep, binA, kseq, kblk, kret, klp, resL, res1, one, ocalls, obj, elems, cells, scalar, vs, pick1, fillA, splice, chop, eqC, Nat.reduceBEq, Nat.reduceAdd, Nat.reduceSub, Nat.reduceLT, Nat.reduceLeDiff, Nat.reduceMul, Nat.reduceEqDiff, cond_true, cond_false, if_true, if_false, reduceIte, implies_true, forall_const, ne_eq])
    | (refine AWPC.both (fun _ => ?_) (fun _ => ?_))
    | (refine AWPC.imp (fun _ => ?_))
    | ((refine .inl ⟨_, _, _, .any, rfl, fun h => absurd h Bool.false_ne_true, ?_⟩); (first | (refine owp_of_exs ?_; simp only [zT, drp, hasN, Bool.or_false, Bool.false_or, Bool.or_true, Bool.true_or, Classical.not_not, zS, vcC, exs, exd, pickV, alS, Al.ob, grd, ex, ov, gt, argE, strp, cnd, sideL, I.os, st, wrap, keep, binA, kseq, kblk, kret, klp, resL, res1, one, ocalls, obj, elems, cells, scalar, vs, pick1, fillA, splice, chop, eqC, Nat.reduceBEq, Nat.reduceAdd, Nat.reduceSub, Nat.reduceLT, Nat.reduceLeDiff, Nat.reduceMul, Nat.reduceEqDiff, cond_true, cond_false, if_true, if_false, reduceIte, implies_true, forall_const, ne_eq]) | fail))
    | (refine ⟨by omega, ?_⟩)
    | fail)
  · refine Frz.eq ?_ (by simp)
    rw [Pp.arc, if_pos ‹_›]
  · refine Frz.eq ?_ (by simp)
    rw [Pp.arc, if_neg ‹_›]

theorem rlevel_spec (p : Pp) (y : Int) (hg : p.good) (h0 : 0 ≤ y) (h1 : y ≤ p.he) : Pure Try.prog 78 [.agg p.cs, n y] (n (p.level y)) := by
  refine Pure.of_body Try.call78 Try.func78 k78 (Nat.le_of_ble_eq_true rfl) ?_
  unfold c78
  obtain ⟨g1, g2, g3, g4, g5, g6, g7, g8, g9, g10, g11, g12, g13⟩ := hg
  have hm := mul_bd h0 (show y ≤ 400000 by omega) (show 0 ≤ p.hi - p.lo by omega) (show p.hi - p.lo ≤ 12000 by omega)
  have hd := tdiv_bd hm.1 hm.2 (show 1 ≤ p.he by omega)
  (repeat' first
    | (refine AWPC.of_vcn rfl ?_; simp only [zT, drp, hasN, Bool.or_false, Bool.false_or, Bool.or_true, Bool.true_or, Classical.not_not, zS, vcC, exs, exd, pickV, alS, Al.ob, grd, ex, ov, gt, argE, strp, cnd, sideL, I.os, st, wrap, keep, binA, kseq, kblk, kret, klp, resL, res1, one, ocalls, obj, elems, cells, scalar, vs, pick1, fillA, splice, chop, eqC, Nat.reduceBEq, Nat.reduceAdd, Nat.reduceSub, Nat.reduceLT, Nat.reduceLeDiff, Nat.reduceMul, Nat.reduceEqDiff, cond_true, cond_false, if_true, if_false, reduceIte, implies_true, forall_const, ne_eq])
    | (simp (disch := omega) only [wr64, Int.zero_sub]; try simp only [zT, drp, hasN, Bool.or_false, Bool.false_or, Bool.or_true, Bool.true_or, Classical.not_not, zS, vcC, exs, exd, pickV, alS, Al.ob, grd, ex, ov, gt, argE, strp, cnd, sideL, I.os, st, wrap, keep, binA, kseq, kblk, kret, klp, resL, res1, one, ocalls, obj, elems, cells, scalar, vs, pick1, fillA, splice, chop, eqC, Nat.reduceBEq, Nat.reduceAdd, Nat.reduceSub, Nat.reduceLT, Nat.reduceLeDiff, Nat.reduceMul, Nat.reduceEqDiff, cond_true, cond_false, if_true, if_false, reduceIte, implies_true, forall_const, ne_eq])
    | (refine AWPC.both (fun _ => ?_) (fun _ => ?_))
    | (refine AWPC.imp (fun _ => ?_))
    | ((refine .inl ⟨_, _, _, .any, rfl, fun h => absurd h Bool.false_ne_true, ?_⟩); (first | (refine owp_of_exs ?_; simp only [zT, drp, hasN, Bool.or_false, Bool.false_or, Bool.or_true, Bool.true_or, Classical.not_not, zS, vcC, exs, exd, pickV, alS, Al.ob, grd, ex, ov, gt, argE, strp, cnd, sideL, I.os, st, wrap, keep, binA, kseq, kblk, kret, klp, resL, res1, one, ocalls, obj, elems, cells, scalar, vs, pick1, fillA, splice, chop, eqC, Nat.reduceBEq, Nat.reduceAdd, Nat.reduceSub, Nat.reduceLT, Nat.reduceLeDiff, Nat.reduceMul, Nat.reduceEqDiff, cond_true, cond_false, if_true, if_false, reduceIte, implies_true, forall_const, ne_eq]) | fail))
    | (refine ⟨by omega, ?_⟩)
    | fail)
  exact Frz.eq rfl (by simp)

theorem rheights_spec (p : Pp) (t : Pt) (hg : p.good) (ht : t.right) : Pure Try.prog 93 [.agg p.cs, .agg t.cs] (.agg (p.heights t).cs) := by
  refine Pure.of_body Try.call93 Try.func93 k93 (Nat.le_of_ble_eq_true rfl) ?_
  unfold c93
  (repeat' first
    | (refine AWPC.of_vcn rfl ?_; simp only [zT, drp, hasN, Bool.or_false, Bool.false_or, Bool.or_true, Bool.true_or, Classical.not_not, zS, vcC, exs, exd, pickV, alS, Al.ob, grd, ex, ov, gt, argE, strp, cnd, sideL, I.os, st, wrap, keep, binA, kseq, kblk, kret, klp, resL, res1, one, ocalls, obj, elems, cells, scalar, vs, pick1, fillA, splice, chop, eqC, Nat.reduceBEq, Nat.reduceAdd, Nat.reduceSub, Nat.reduceLT, Nat.reduceLeDiff, Nat.reduceMul, Nat.reduceEqDiff, cond_true, cond_false, if_true, if_false, reduceIte, implies_true, forall_const, ne_eq])
    | (simp (disch := omega) only [wr64, Int.zero_sub]; try simp only [zT, drp, hasN, Bool.or_false, Bool.false_or, Bool.or_true, Bool.true_or, Classical.not_not, zS, vcC, exs, exd, pickV, alS, Al.ob, grd, ex, ov, gt, argE, strp, cnd, sideL, I.os, st, wrap, keep, binA, kseq, kblk, kret, klp, resL, res1, one, ocalls, obj, elems, cells, scalar, vs, pick1, fillA, splice, chop, eqC, Nat.reduceBEq, Nat.reduceAdd, Nat.reduceSub, Nat.reduceLT, Nat.reduceLeDiff, Nat.reduceMul, Nat.reduceEqDiff, cond_true, cond_false, if_true, if_false, reduceIte, implies_true, forall_const, ne_eq])
    | (refine AWPC.both (fun _ => ?_) (fun _ => ?_))
    | (refine AWPC.imp (fun _ => ?_))
    | ((repeat (refine And.intro (by (intros; simp_all (config := { decide := false }); done)) ?_)); (first
      | (refine .inl ⟨_, _, _, _, rfl, fun _hc => ⟨by simp, rplaces_spec t.y t.h p.cl (by obtain ⟨g1, g2, g3, g4, g5, g6, g7, g8, g9, g10, g11, g12, g13⟩ := hg; exact g13) ⟨ht.2.2.1, ht.2.2.2.1⟩ ⟨ht.2.2.2.2.1, ht.2.2.2.2.2⟩⟩, ?_⟩)
      | (refine ⟨_, _, _, _, rfl, fun _hc => ⟨by simp, rplaces_spec t.y t.h p.cl (by obtain ⟨g1, g2, g3, g4, g5, g6, g7, g8, g9, g10, g11, g12, g13⟩ := hg; exact g13) ⟨ht.2.2.1, ht.2.2.2.1⟩ ⟨ht.2.2.2.2.1, ht.2.2.2.2.2⟩⟩, ?_⟩)
      | fail); (first | (refine owp_of_exs ?_; simp only [zT, drp, hasN, Bool.or_false, Bool.false_or, Bool.or_true, Bool.true_or, Classical.not_not, zS, vcC, exs, exd, pickV, alS, Al.ob, grd, ex, ov, gt, argE, strp, cnd, sideL, I.os, st, wrap, keep, binA, kseq, kblk, kret, klp, resL, res1, one, ocalls, obj, elems, cells, scalar, vs, pick1, fillA, splice, chop, eqC, Nat.reduceBEq, Nat.reduceAdd, Nat.reduceSub, Nat.reduceLT, Nat.reduceLeDiff, Nat.reduceMul, Nat.reduceEqDiff, cond_true, cond_false, if_true, if_false, reduceIte, implies_true, forall_const, ne_eq]) | (refine pre_of_exd ?_; simp only [zT, drp, hasN, Bool.or_false, Bool.false_or, Bool.or_true, Bool.true_or, Classical.not_not, zS, vcC, exs, exd, pickV, alS, Al.ob, grd, ex, ov, gt, argE, strp, cnd, sideL, I.os, st, wrap, keep, binA, kseq, kblk, kret, klp, resL, res1, one, ocalls, obj, elems, cells, scalar, vs, pick1, fillA, splice, chop, eqC, Nat.reduceBEq, Nat.reduceAdd, Nat.reduceSub, Nat.reduceLT, Nat.reduceLeDiff, Nat.reduceMul, Nat.reduceEqDiff, cond_true, cond_false, if_true, if_false, reduceIte, implies_true, forall_const, ne_eq]) | fail))
    | ((refine .inl ⟨_, _, _, .any, rfl, fun h => absurd h Bool.false_ne_true, ?_⟩); (first | (refine owp_of_exs ?_; simp only [zT, drp, hasN, Bool.or_false, Bool.false_or, Bool.or_true, Bool.true_or, Classical.not_not, zS, vcC, exs, exd, pickV, alS, Al.ob, grd, ex, ov, gt, argE, strp, cnd, sideL, I.os, st, wrap, keep, binA, kseq, kblk, kret, klp, resL, res1, one, ocalls, obj, elems, cells, scalar, vs, pick1, fillA, splice, chop, eqC, Nat.reduceBEq, Nat.reduceAdd, Nat.reduceSub, Nat.reduceLT, Nat.reduceLeDiff, Nat.reduceMul, Nat.reduceEqDiff, cond_true, cond_false, if_true, if_false, reduceIte, implies_true, forall_const, ne_eq]) | fail))
    | (refine ⟨by omega, ?_⟩)
    | fail)
  exact Frz.eq rfl (by simp)

theorem rArc_spec (p : Pp) (y : Int) : Pure Try.prog 23 [.agg p.cs, n y] (.tup [n (if p.good ∧ 0 ≤ y ∧ y ≤ p.he then p.arc y else 0), n (p.yerr y)]) := by
  refine Pure.of_body Try.call23 Try.func23 k23 (Nat.le_of_ble_eq_true rfl) ?_
  unfold c23
  (repeat' first
    | (refine AWPC.of_vcn rfl ?_; simp only [zT, drp, hasN, Bool.or_false, Bool.false_or, Bool.or_true, Bool.true_or, Classical.not_not, zS, vcC, exs, exd, pickV, alS, Al.ob, grd, ex, ov, gt, argE, strp, cnd, sideL, I.os, st, wrap, keep, binA, kseq, kblk, kret, klp, resL, res1, one, ocalls, obj, elems, cells, scalar, vs, pick1, fillA, splice, chop, eqC, Nat.reduceBEq, Nat.reduceAdd, Nat.reduceSub, Nat.reduceLT, Nat.reduceLeDiff, Nat.reduceMul, Nat.reduceEqDiff, cond_true, cond_false, if_true, if_false, reduceIte, implies_true, forall_const, ne_eq])
    | (simp (disch := omega) only [wr64, Int.zero_sub]; try simp only [zT, drp, hasN, Bool.or_false, Bool.false_or, Bool.or_true, Bool.true_or, Classical.not_not, zS, vcC, exs, exd, pickV, alS, Al.ob, grd, ex, ov, gt, argE, strp, cnd, sideL, I.os, st, wrap, keep, binA, kseq, kblk, kret, klp, resL, res1, one, ocalls, obj, elems, cells, scalar, vs, pick1, fillA, splice, chop, eqC, Nat.reduceBEq, Nat.reduceAdd, Nat.reduceSub, Nat.reduceLT, Nat.reduceLeDiff, Nat.reduceMul, Nat.reduceEqDiff, cond_true, cond_false, if_true, if_false, reduceIte, implies_true, forall_const, ne_eq])
    | (refine AWPC.both (fun _ => ?_) (fun _ => ?_))
    | (refine AWPC.imp (fun _ => ?_))
    | ((repeat (refine And.intro (by (intros; simp_all (config := { decide := false }); done)) ?_)); (first
      | (refine .inl ⟨_, _, _, _, rfl, fun _hc => ⟨by simp, rcheckPaper_spec p⟩, ?_⟩)
      | (refine .inl ⟨_, _, _, _, rfl, fun _hc => ⟨by simp, rwithin_spec _ _ _⟩, ?_⟩)
      | (refine .inl ⟨_, _, _, _, rfl, fun _hc => ⟨by simp, rarc_spec p y (by simp_all [err0]) (by omega) (by omega)⟩, ?_⟩)
      | (refine ⟨_, _, _, _, rfl, fun _hc => ⟨by simp, rcheckPaper_spec p⟩, ?_⟩)
      | (refine ⟨_, _, _, _, rfl, fun _hc => ⟨by simp, rwithin_spec _ _ _⟩, ?_⟩)
      | (refine ⟨_, _, _, _, rfl, fun _hc => ⟨by simp, rarc_spec p y (by simp_all [err0]) (by omega) (by omega)⟩, ?_⟩)
      | fail); (first | (refine owp_of_exs ?_; simp only [zT, drp, hasN, Bool.or_false, Bool.false_or, Bool.or_true, Bool.true_or, Classical.not_not, zS, vcC, exs, exd, pickV, alS, Al.ob, grd, ex, ov, gt, argE, strp, cnd, sideL, I.os, st, wrap, keep, binA, kseq, kblk, kret, klp, resL, res1, one, ocalls, obj, elems, cells, scalar, vs, pick1, fillA, splice, chop, eqC, Nat.reduceBEq, Nat.reduceAdd, Nat.reduceSub, Nat.reduceLT, Nat.reduceLeDiff, Nat.reduceMul, Nat.reduceEqDiff, cond_true, cond_false, if_true, if_false, reduceIte, implies_true, forall_const, ne_eq]) | (refine pre_of_exd ?_; simp only [zT, drp, hasN, Bool.or_false, Bool.false_or, Bool.or_true, Bool.true_or, Classical.not_not, zS, vcC, exs, exd, pickV, alS, Al.ob, grd, ex, ov, gt, argE, strp, cnd, sideL, I.os, st, wrap, keep, binA, kseq, kblk, kret, klp, resL, res1, one, ocalls, obj, elems, cells, scalar, vs, pick1, fillA, splice, chop, eqC, Nat.reduceBEq, Nat.reduceAdd, Nat.reduceSub, Nat.reduceLT, Nat.reduceLeDiff, Nat.reduceMul, Nat.reduceEqDiff, cond_true, cond_false, if_true, if_false, reduceIte, implies_true, forall_const, ne_eq]) | fail))
    | ((refine .inl ⟨_, _, _, .any, rfl, fun h => absurd h Bool.false_ne_true, ?_⟩); (first | (refine owp_of_exs ?_; simp only [zT, drp, hasN, Bool.or_false, Bool.false_or, Bool.or_true, Bool.true_or, Classical.not_not, zS, vcC, exs, exd, pickV, alS, Al.ob, grd, ex, ov, gt, argE, strp, cnd, sideL, I.os, st, wrap, keep, binA, kseq, kblk, kret, klp, resL, res1, one, ocalls, obj, elems, cells, scalar, vs, pick1, fillA, splice, chop, eqC, Nat.reduceBEq, Nat.reduceAdd, Nat.reduceSub, Nat.reduceLT, Nat.reduceLeDiff, Nat.reduceMul, Nat.reduceEqDiff, cond_true, cond_false, if_true, if_false, reduceIte, implies_true, forall_const, ne_eq]) | fail))
    | (refine ⟨by omega, ?_⟩)
    | fail)
  all_goals refine Frz.eq ?_ (by simp)
  · rename_i h; rw [err0] at h; simp [h, Pp.yerr]
  · rename_i h g; rw [err0] at h; simp [h, g, Pp.yerr]
  · rename_i h g; rw [err0] at h; simp [h, g, Pp.yerr]

theorem rLevel_spec (p : Pp) (y : Int) : Pure Try.prog 25 [.agg p.cs, n y] (.tup [n (if p.good ∧ 0 ≤ y ∧ y ≤ p.he then p.level y else 0), n (p.yerr y)]) := by
  refine Pure.of_body Try.call25 Try.func25 k25 (Nat.le_of_ble_eq_true rfl) ?_
  unfold c25
  (repeat' first
    | (refine AWPC.of_vcn rfl ?_; simp only [zT, drp, hasN, Bool.or_false, Bool.false_or, Bool.or_true, Bool.true_or, Classical.not_not, zS, vcC, exs, exd, pickV, alS, Al.ob, grd, ex, ov, gt, argE, strp, cnd, sideL, I.os, st, wrap, keep, binA, kseq, kblk, kret, klp, resL, res1, one, ocalls, obj, elems, cells, scalar, vs, pick1, fillA, splice, chop, eqC, Nat.reduceBEq, Nat.reduceAdd, Nat.reduceSub, Nat.reduceLT, Nat.reduceLeDiff, Nat.reduceMul, Nat.reduceEqDiff, cond_true, cond_false, if_true, if_false, reduceIte, implies_true, forall_const, ne_eq])
    | (simp (disch := omega) only [wr64, Int.zero_sub]; try simp only [zT, drp, hasN, Bool.or_false, Bool.false_or, Bool.or_true, Bool.true_or, Classical.not_not, zS, vcC, exs, exd, pickV, alS, Al.ob, grd, ex, ov, gt, argE, strp, cnd, sideL, I.os, st, wrap, keep, binA, kseq, kblk, kret, klp, resL, res1, one, ocalls, obj, elems, cells, scalar, vs, pick1, fillA, splice, chop, eqC, Nat.reduceBEq, Nat.reduceAdd, Nat.reduceSub, Nat.reduceLT, Nat.reduceLeDiff, Nat.reduceMul, Nat.reduceEqDiff, cond_true, cond_false, if_true, if_false, reduceIte, implies_true, forall_const, ne_eq])
    | (refine AWPC.both (fun _ => ?_) (fun _ => ?_))
    | (refine AWPC.imp (fun _ => ?_))
    | ((repeat (refine And.intro (by (intros; simp_all (config := { decide := false }); done)) ?_)); (first
      | (refine .inl ⟨_, _, _, _, rfl, fun _hc => ⟨by simp, rcheckPaper_spec p⟩, ?_⟩)
      | (refine .inl ⟨_, _, _, _, rfl, fun _hc => ⟨by simp, rwithin_spec _ _ _⟩, ?_⟩)
      | (refine .inl ⟨_, _, _, _, rfl, fun _hc => ⟨by simp, rlevel_spec p y (by simp_all [err0]) (by omega) (by omega)⟩, ?_⟩)
      | (refine ⟨_, _, _, _, rfl, fun _hc => ⟨by simp, rcheckPaper_spec p⟩, ?_⟩)
      | (refine ⟨_, _, _, _, rfl, fun _hc => ⟨by simp, rwithin_spec _ _ _⟩, ?_⟩)
      | (refine ⟨_, _, _, _, rfl, fun _hc => ⟨by simp, rlevel_spec p y (by simp_all [err0]) (by omega) (by omega)⟩, ?_⟩)
      | fail); (first | (refine owp_of_exs ?_; simp only [zT, drp, hasN, Bool.or_false, Bool.false_or, Bool.or_true, Bool.true_or, Classical.not_not, zS, vcC, exs, exd, pickV, alS, Al.ob, grd, ex, ov, gt, argE, strp, cnd, sideL, I.os, st, wrap, keep, binA, kseq, kblk, kret, klp, resL, res1, one, ocalls, obj, elems, cells, scalar, vs, pick1, fillA, splice, chop, eqC, Nat.reduceBEq, Nat.reduceAdd, Nat.reduceSub, Nat.reduceLT, Nat.reduceLeDiff, Nat.reduceMul, Nat.reduceEqDiff, cond_true, cond_false, if_true, if_false, reduceIte, implies_true, forall_const, ne_eq]) | (refine pre_of_exd ?_; simp only [zT, drp, hasN, Bool.or_false, Bool.false_or, Bool.or_true, Bool.true_or, Classical.not_not, zS, vcC, exs, exd, pickV, alS, Al.ob, grd, ex, ov, gt, argE, strp, cnd, sideL, I.os, st, wrap, keep, binA, kseq, kblk, kret, klp, resL, res1, one, ocalls, obj, elems, cells, scalar, vs, pick1, fillA, splice, chop, eqC, Nat.reduceBEq, Nat.reduceAdd, Nat.reduceSub, Nat.reduceLT, Nat.reduceLeDiff, Nat.reduceMul, Nat.reduceEqDiff, cond_true, cond_false, if_true, if_false, reduceIte, implies_true, forall_const, ne_eq]) | fail))
    | ((refine .inl ⟨_, _, _, .any, rfl, fun h => absurd h Bool.false_ne_true, ?_⟩); (first | (refine owp_of_exs ?_; simp only [zT, drp, hasN, Bool.or_false, Bool.false_or, Bool.or_true, Bool.true_or, Classical.not_not, zS, vcC, exs, exd, pickV, alS, Al.ob, grd, ex, ov, gt, argE, strp, cnd, sideL, I.os, st, wrap, keep, binA, kseq, kblk, kret, klp, resL, res1, one, ocalls, obj, elems, cells, scalar, vs, pick1, fillA, splice, chop, eqC, Nat.reduceBEq, Nat.reduceAdd, Nat.reduceSub, Nat.reduceLT, Nat.reduceLeDiff, Nat.reduceMul, Nat.reduceEqDiff, cond_true, cond_false, if_true, if_false, reduceIte, implies_true, forall_const, ne_eq]) | fail))
    | (refine ⟨by omega, ?_⟩)
    | fail)
  all_goals refine Frz.eq ?_ (by simp)
  · rename_i h; rw [err0] at h; simp [h, Pp.yerr]
  · rename_i h g; rw [err0] at h; simp [h, g, Pp.yerr]
  · rename_i h g; rw [err0] at h; simp [h, g, Pp.yerr]

theorem least_ceil (p : Pp) (l : Int) (hg : p.good) (h0 : p.lo ≤ l) (h1 : l ≤ p.hi + 1) : p.least l = -((-((l - p.lo) * p.he)) / (p.hi - p.lo)) := by
  obtain ⟨g1, g2, g3, g4, g5, g6, g7, g8, g9, g10, g11, g12, g13⟩ := hg
  have hm := mul_bd (show 0 ≤ l - p.lo by omega) (show l - p.lo ≤ 12001 by omega) (show 0 ≤ p.he by omega) (show p.he ≤ 400000 by omega)
  unfold Pp.least
  by_cases h : (l - p.lo) * p.he = 0
  · rw [h, show 0 + p.hi - p.lo - 1 = p.hi - p.lo - 1 by omega, Int.tdiv_eq_ediv_of_nonneg (by omega), Int.ediv_eq_zero_of_lt (by omega) (by omega)]; simp
  · have := fdiv_neg (a := -((l - p.lo) * p.he)) (b := p.hi - p.lo) (by omega) (by omega)
    rw [← this, show (l - p.lo) * p.he + p.hi - p.lo - 1 = - -((l - p.lo) * p.he) + (p.hi - p.lo) - 1 by omega]; simp

theorem rHeights_spec (p : Pp) (l : Int) : Pure Try.prog 27 [.agg p.cs, n l] (.tup [.agg (if p.good ∧ p.lo ≤ l ∧ l ≤ p.hi then [n (p.least l), n (min p.he (p.least (l + 1) - 1))] else [n 0, n 0]),
    n (if p.good then (if p.lo ≤ l ∧ l ≤ p.hi then 0 else 1) else 10)]) := by
  refine Pure.of_body Try.call27 Try.func27 k27 (Nat.le_of_ble_eq_true rfl) ?_
  unfold c27
  (repeat' first
    | (refine AWPC.of_vcn rfl ?_; simp only [zT, drp, hasN, Bool.or_false, Bool.false_or, Bool.or_true, Bool.true_or, Classical.not_not, zS, vcC, exs, exd, pickV, alS, Al.ob, grd, ex, ov, gt, argE, strp, cnd, sideL, I.os, st, wrap, keep, binA, kseq, kblk, kret, klp, resL, res1, one, ocalls, obj, elems, cells, scalar, vs, pick1, fillA, splice, chop, eqC, Nat.reduceBEq, Nat.reduceAdd, Nat.reduceSub, Nat.reduceLT, Nat.reduceLeDiff, Nat.reduceMul, Nat.reduceEqDiff, cond_true, cond_false, if_true, if_false, reduceIte, implies_true, forall_const, ne_eq])
    | (simp (disch := omega) only [wr64, Int.zero_sub]; try simp only [zT, drp, hasN, Bool.or_false, Bool.false_or, Bool.or_true, Bool.true_or, Classical.not_not, zS, vcC, exs, exd, pickV, alS, Al.ob, grd, ex, ov, gt, argE, strp, cnd, sideL, I.os, st, wrap, keep, binA, kseq, kblk, kret, klp, resL, res1, one, ocalls, obj, elems, cells, scalar, vs, pick1, fillA, splice, chop, eqC, Nat.reduceBEq, Nat.reduceAdd, Nat.reduceSub, Nat.reduceLT, Nat.reduceLeDiff, Nat.reduceMul, Nat.reduceEqDiff, cond_true, cond_false, if_true, if_false, reduceIte, implies_true, forall_const, ne_eq])
    | (refine AWPC.both (fun _ => ?_) (fun _ => ?_))
    | (refine AWPC.imp (fun _ => ?_))
    | ((repeat (refine And.intro (by (intros; simp_all (config := { decide := false }); done)) ?_)); (first
      | (refine .inl ⟨_, _, _, _, rfl, fun _hc => ⟨by simp, rcheckPaper_spec p⟩, ?_⟩)
      | (refine .inl ⟨_, _, _, _, rfl, fun _hc => ⟨by simp, rwithin_spec _ _ _⟩, ?_⟩)
      | (refine ⟨_, _, _, _, rfl, fun _hc => ⟨by simp, rcheckPaper_spec p⟩, ?_⟩)
      | (refine ⟨_, _, _, _, rfl, fun _hc => ⟨by simp, rwithin_spec _ _ _⟩, ?_⟩)
      | fail); (first | (refine owp_of_exs ?_; simp only [zT, drp, hasN, Bool.or_false, Bool.false_or, Bool.or_true, Bool.true_or, Classical.not_not, zS, vcC, exs, exd, pickV, alS, Al.ob, grd, ex, ov, gt, argE, strp, cnd, sideL, I.os, st, wrap, keep, binA, kseq, kblk, kret, klp, resL, res1, one, ocalls, obj, elems, cells, scalar, vs, pick1, fillA, splice, chop, eqC, Nat.reduceBEq, Nat.reduceAdd, Nat.reduceSub, Nat.reduceLT, Nat.reduceLeDiff, Nat.reduceMul, Nat.reduceEqDiff, cond_true, cond_false, if_true, if_false, reduceIte, implies_true, forall_const, ne_eq]) | (refine pre_of_exd ?_; simp only [zT, drp, hasN, Bool.or_false, Bool.false_or, Bool.or_true, Bool.true_or, Classical.not_not, zS, vcC, exs, exd, pickV, alS, Al.ob, grd, ex, ov, gt, argE, strp, cnd, sideL, I.os, st, wrap, keep, binA, kseq, kblk, kret, klp, resL, res1, one, ocalls, obj, elems, cells, scalar, vs, pick1, fillA, splice, chop, eqC, Nat.reduceBEq, Nat.reduceAdd, Nat.reduceSub, Nat.reduceLT, Nat.reduceLeDiff, Nat.reduceMul, Nat.reduceEqDiff, cond_true, cond_false, if_true, if_false, reduceIte, implies_true, forall_const, ne_eq]) | fail))
    | ((refine .inl ⟨_, _, _, .any, rfl, fun h => absurd h Bool.false_ne_true, ?_⟩); (first | (refine owp_of_exs ?_; simp only [zT, drp, hasN, Bool.or_false, Bool.false_or, Bool.or_true, Bool.true_or, Classical.not_not, zS, vcC, exs, exd, pickV, alS, Al.ob, grd, ex, ov, gt, argE, strp, cnd, sideL, I.os, st, wrap, keep, binA, kseq, kblk, kret, klp, resL, res1, one, ocalls, obj, elems, cells, scalar, vs, pick1, fillA, splice, chop, eqC, Nat.reduceBEq, Nat.reduceAdd, Nat.reduceSub, Nat.reduceLT, Nat.reduceLeDiff, Nat.reduceMul, Nat.reduceEqDiff, cond_true, cond_false, if_true, if_false, reduceIte, implies_true, forall_const, ne_eq]) | fail))
    | (refine ⟨by omega, ?_⟩)
    | fail)
  · refine Frz.eq ?_ (by simp)
    rename_i h; rw [err0] at h; simp [h]
  · refine Frz.eq ?_ (by simp)
    rename_i h g; rw [err0] at h; simp [h, g]
  · rename_i h g
    rw [err0] at h
    have hg := h
    have e1 := least_ceil p l h (by omega) (by omega)
    have e2 := least_ceil p (l + 1) h (by omega) (by omega)
    have l1 := least_bd p l h (by omega) (by omega)
    have l2 := least_bd p (l + 1) h (by omega) (by omega)
    obtain ⟨g1, g2, g3, g4, g5, g6, g7, g8, g9, g10, g11, g12, g13⟩ := h
    have m1 := mul_bd (show 0 ≤ l - p.lo by omega) (show l - p.lo ≤ 12001 by omega) (show 0 ≤ p.he by omega) (show p.he ≤ 400000 by omega)
    have m2 := mul_bd (show 0 ≤ l + 1 - p.lo by omega) (show l + 1 - p.lo ≤ 12001 by omega) (show 0 ≤ p.he by omega) (show p.he ≤ 400000 by omega)
    (repeat' first
    | (refine AWPC.of_vcn rfl ?_; simp only [zT, drp, hasN, Bool.or_false, Bool.false_or, Bool.or_true, Bool.true_or, Classical.not_not, zS, vcC, exs, exd, pickV, alS, Al.ob, grd, ex, ov, gt, argE, strp, cnd, sideL, I.os, st, wrap, keep, binA, kseq, kblk, kret, klp, resL, res1, one, ocalls, obj, elems, cells, scalar, vs, pick1, fillA, splice, chop, eqC, Nat.reduceBEq, Nat.reduceAdd, Nat.reduceSub, Nat.reduceLT, Nat.reduceLeDiff, Nat.reduceMul, Nat.reduceEqDiff, cond_true, cond_false, if_true, if_false, reduceIte, implies_true, forall_const, ne_eq])
    | (simp (disch := omega) only [wr64, Int.zero_sub]; try simp only [zT, drp, hasN, Bool.or_false, Bool.false_or, Bool.or_true, Bool.true_or, Classical.not_not, zS, vcC, exs, exd, pickV, alS, Al.ob, grd, ex, ov, gt, argE, strp, cnd, sideL, I.os, st, wrap, keep, binA, kseq, kblk, kret, klp, resL, res1, one, ocalls, obj, elems, cells, scalar, vs, pick1, fillA, splice, chop, eqC, Nat.reduceBEq, Nat.reduceAdd, Nat.reduceSub, Nat.reduceLT, Nat.reduceLeDiff, Nat.reduceMul, Nat.reduceEqDiff, cond_true, cond_false, if_true, if_false, reduceIte, implies_true, forall_const, ne_eq])
    | (refine AWPC.both (fun _ => ?_) (fun _ => ?_))
    | (refine AWPC.imp (fun _ => ?_))
    | ((repeat (refine And.intro (by (intros; simp_all (config := { decide := false }); done)) ?_)); (first
      | (refine .inl ⟨_, _, _, _, rfl, fun _hc => ⟨by simp, rceil_spec _ _ (by omega) (by omega) (by omega) (by omega)⟩, ?_⟩)
      | (refine ⟨_, _, _, _, rfl, fun _hc => ⟨by simp, rceil_spec _ _ (by omega) (by omega) (by omega) (by omega)⟩, ?_⟩)
      | fail); (first | (refine owp_of_exs ?_; simp only [zT, drp, hasN, Bool.or_false, Bool.false_or, Bool.or_true, Bool.true_or, Classical.not_not, zS, vcC, exs, exd, pickV, alS, Al.ob, grd, ex, ov, gt, argE, strp, cnd, sideL, I.os, st, wrap, keep, binA, kseq, kblk, kret, klp, resL, res1, one, ocalls, obj, elems, cells, scalar, vs, pick1, fillA, splice, chop, eqC, Nat.reduceBEq, Nat.reduceAdd, Nat.reduceSub, Nat.reduceLT, Nat.reduceLeDiff, Nat.reduceMul, Nat.reduceEqDiff, cond_true, cond_false, if_true, if_false, reduceIte, implies_true, forall_const, ne_eq]) | (refine pre_of_exd ?_; simp only [zT, drp, hasN, Bool.or_false, Bool.false_or, Bool.or_true, Bool.true_or, Classical.not_not, zS, vcC, exs, exd, pickV, alS, Al.ob, grd, ex, ov, gt, argE, strp, cnd, sideL, I.os, st, wrap, keep, binA, kseq, kblk, kret, klp, resL, res1, one, ocalls, obj, elems, cells, scalar, vs, pick1, fillA, splice, chop, eqC, Nat.reduceBEq, Nat.reduceAdd, Nat.reduceSub, Nat.reduceLT, Nat.reduceLeDiff, Nat.reduceMul, Nat.reduceEqDiff, cond_true, cond_false, if_true, if_false, reduceIte, implies_true, forall_const, ne_eq]) | fail))
    | ((refine .inl ⟨_, _, _, .any, rfl, fun h => absurd h Bool.false_ne_true, ?_⟩); (first | (refine owp_of_exs ?_; simp only [zT, drp, hasN, Bool.or_false, Bool.false_or, Bool.or_true, Bool.true_or, Classical.not_not, zS, vcC, exs, exd, pickV, alS, Al.ob, grd, ex, ov, gt, argE, strp, cnd, sideL, I.os, st, wrap, keep, binA, kseq, kblk, kret, klp, resL, res1, one, ocalls, obj, elems, cells, scalar, vs, pick1, fillA, splice, chop, eqC, Nat.reduceBEq, Nat.reduceAdd, Nat.reduceSub, Nat.reduceLT, Nat.reduceLeDiff, Nat.reduceMul, Nat.reduceEqDiff, cond_true, cond_false, if_true, if_false, reduceIte, implies_true, forall_const, ne_eq]) | fail))
    | (refine ⟨by omega, ?_⟩)
    | fail)
    refine Frz.eq ?_ (by simp)
    rw [e2] at l2
    rw [← e1, ← e2]
    simp [hg, g]

end Go.Proofs.Ytgpdckmbojmlpaa
