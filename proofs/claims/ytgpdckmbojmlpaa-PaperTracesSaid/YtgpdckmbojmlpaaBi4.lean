/- Part 4 of the texts that the claim rests on: abstract values over the walk, and contracts of functions. -/
import Derived.Test.YtgpdckmbojmlpaaBi3
import Derived.Test.YtgpdckmbojmlpaaRows
import Derived.Shelf.SlGeneric
import Derived.Shelf.SlSortCmp.WholeK
import Derived.Shelf.Spec.SlicesGrow
import Derived.Test.YtgpdckmbojmlpaaProg
import Derived.ChangeArms
import Derived.DataReads
import Derived.WalkKit
import Derived.Shelf.SlSortCmp.NoneTotal
namespace Go.Proofs.Ytgpdckmbojmlpaa
open Go.Abs
set_option linter.unusedVariables false
set_option linter.unusedSimpArgs false
set_option maxHeartbeats 4000000
set_option maxRecDepth 100000
-- aneroid/aneroidref01.within
def c76 : CF := ⟨15,
 (.seq (.ops [
 ⟨(some 6), .mv (.c (.bool false)), none⟩] [0, 1, 2])
 (.seq (.ops [
 ⟨(some 7), .mv (.t 1), none⟩,
 ⟨(some 8), .mv (.t 0), none⟩,
 ⟨(some 9), .bin .leq (.t 7) (.t 8), none⟩,
 ⟨(some 10), .mv (.t 9), none⟩,
 ⟨(some 11), .mv (.t 0), (some (10, true))⟩,
 ⟨(some 12), .mv (.t 2), (some (10, true))⟩,
 ⟨(some 13), .bin .leq (.t 11) (.t 12), (some (10, true))⟩,
 ⟨(some 14), .pick (.t 10) (.t 13) (.c (.bool false)), none⟩,
 ⟨(some 6), .mv (.t 14), none⟩] [6])
 .ret)),
 [.t 6]⟩
-- aneroid/aneroidref01.floor
def c84 : CF := ⟨18,
 (.seq (.ops [
 ⟨(some 4), .mv (.c (.int .i64 0)), none⟩] [0, 1])
 (.seq (.seq (.ops [
 ⟨(some 5), .mv (.t 0), none⟩,
 ⟨(some 6), .bin .lss (.t 5) (.c (.int .i64 0)), none⟩] [0, 1, 6])
 (.cond (.t 6) (.seq (.ops [
 ⟨(some 7), .mv (.t 0), none⟩,
 ⟨(some 8), .un .neg (.t 7), none⟩,
 ⟨(some 9), .mv (.t 1), none⟩,
 ⟨(some 10), .bin .add (.t 8) (.t 9), none⟩,
 ⟨(some 11), .bin .sub (.t 10) (.c (.int .i64 1)), none⟩,
 ⟨(some 12), .mv (.t 1), none⟩,
 ⟨(some 13), .bin .quo (.t 11) (.t 12), none⟩,
 ⟨(some 14), .un .neg (.t 13), none⟩,
 ⟨(some 4), .mv (.t 14), none⟩] [4])
 .ret)
 .skip))
 (.seq (.ops [
 ⟨(some 15), .mv (.t 0), none⟩,
 ⟨(some 16), .mv (.t 1), none⟩,
 ⟨(some 17), .bin .quo (.t 15) (.t 16), none⟩,
 ⟨(some 4), .mv (.t 17), none⟩] [4])
 .ret))),
 [.t 4]⟩
-- aneroid/aneroidref01.ceil
-- aneroid/aneroidref01.shrunk
def c99 : CF := ⟨18,
 (.seq (.ops [
 ⟨(some 1), .box false 23 2 (.t 0), none⟩,
 ⟨(some 2), .mv (.c (.bool false)), none⟩] [1])
 (.seq (.ops [
 ⟨(some 3), .faddr 0 (.t 1), none⟩,
 ⟨(some 4), .load none (.t 3), none⟩,
 ⟨(some 5), .bin .leq (.c (.int .i64 900)) (.t 4), none⟩,
 ⟨(some 6), .mv (.t 5), none⟩,
 ⟨(some 7), .faddr 0 (.t 1), (some (6, true))⟩,
 ⟨(some 8), .load none (.t 7), (some (6, true))⟩,
 ⟨(some 9), .faddr 1 (.t 1), (some (6, true))⟩,
 ⟨(some 10), .load none (.t 9), (some (6, true))⟩,
 ⟨(some 11), .bin .leq (.t 8) (.t 10), (some (6, true))⟩,
 ⟨(some 12), .pick (.t 6) (.t 11) (.c (.bool false)), none⟩,
 ⟨(some 13), .mv (.t 12), none⟩,
 ⟨(some 14), .faddr 1 (.t 1), (some (13, true))⟩,
 ⟨(some 15), .load none (.t 14), (some (13, true))⟩,
 ⟨(some 16), .bin .leq (.t 15) (.c (.int .i64 1100)), (some (13, true))⟩,
 ⟨(some 17), .pick (.t 13) (.t 16) (.c (.bool false)), none⟩,
 ⟨(some 2), .mv (.t 17), none⟩] [2])
 .ret)),
 [.t 2]⟩
-- aneroid/aneroidref01.CheckPaper
def c53 : CF := ⟨69,
 (.seq (.ops [
 ⟨(some 1), .box false 25 10 (.t 0), none⟩,
 ⟨(some 2), .mv (.c (.int .i64 0)), none⟩] [1])
 (.seq (.seq (.ops [
 ⟨(some 3), .faddr 0 (.t 1), none⟩,
 ⟨(some 4), .load none (.t 3), none⟩,
 ⟨(some 5), .call (.f 76) [(.t 4), (.c (.int .i64 1)), (.c (.int .i64 10000))], none⟩,
 ⟨(some 6), .un .not (.t 5), none⟩,
 ⟨(some 7), .mv (.t 6), none⟩,
 ⟨(some 8), .faddr 1 (.t 1), (some (7, false))⟩,
 ⟨(some 9), .load none (.t 8), (some (7, false))⟩,
 ⟨(some 10), .call (.f 76) [(.t 9), (.c (.int .i64 1)), (.c (.int .i64 400000))], (some (7, false))⟩,
 ⟨(some 11), .un .not (.t 10), (some (7, false))⟩,
 ⟨(some 12), .pick (.t 7) (.c (.bool true)) (.t 11), none⟩,
 ⟨(some 13), .mv (.t 12), none⟩,
 ⟨(some 14), .faddr 5 (.t 1), (some (13, false))⟩,
 ⟨(some 15), .load none (.t 14), (some (13, false))⟩,
 ⟨(some 16), .call (.f 76) [(.t 15), (.c (.int .i64 1)), (.c (.int .i64 200))], (some (13, false))⟩,
 ⟨(some 17), .un .not (.t 16), (some (13, false))⟩,
 ⟨(some 18), .pick (.t 13) (.c (.bool true)) (.t 17), none⟩,
 ⟨(some 19), .mv (.t 18), none⟩,
 ⟨(some 20), .faddr 6 (.t 1), (some (19, false))⟩,
 ⟨(some 21), .load (some 2) (.t 20), (some (19, false))⟩,
 ⟨(some 22), .call (.f 99) [(.t 21)], (some (19, false))⟩,
 ⟨(some 23), .un .not (.t 22), (some (19, false))⟩,
 ⟨(some 24), .pick (.t 19) (.c (.bool true)) (.t 23), none⟩,
 ⟨(some 25), .mv (.t 24), none⟩,
 ⟨(some 26), .faddr 8 (.t 1), (some (25, false))⟩,
 ⟨(some 27), .load (some 2) (.t 26), (some (25, false))⟩,
 ⟨(some 28), .call (.f 99) [(.t 27)], (some (25, false))⟩,
 ⟨(some 29), .un .not (.t 28), (some (25, false))⟩,
 ⟨(some 30), .pick (.t 25) (.c (.bool true)) (.t 29), none⟩] [1, 30])
 (.cond (.t 30) (.seq (.ops [
 ⟨(some 2), .mv (.c (.int .i64 10)), none⟩] [2])
 .ret)
 .skip))
 (.seq (.seq (.ops [
 ⟨(some 31), .faddr 2 (.t 1), none⟩,
 ⟨(some 32), .load none (.t 31), none⟩,
 ⟨(some 33), .bin .neq (.t 32) (.c (.int .i64 0)), none⟩,
 ⟨(some 34), .mv (.t 33), none⟩,
 ⟨(some 35), .faddr 2 (.t 1), (some (34, true))⟩,
 ⟨(some 36), .load none (.t 35), (some (34, true))⟩,
 ⟨(some 37), .faddr 1 (.t 1), (some (34, true))⟩,
 ⟨(some 38), .load none (.t 37), (some (34, true))⟩,
 ⟨(some 39), .call (.f 76) [(.t 36), (.t 38), (.c (.int .i64 4000000))], (some (34, true))⟩,
 ⟨(some 40), .un .not (.t 39), (some (34, true))⟩,
 ⟨(some 41), .pick (.t 34) (.t 40) (.c (.bool false)), none⟩,
 ⟨(some 42), .mv (.t 41), none⟩,
 ⟨(some 43), .faddr 3 (.t 1), (some (42, false))⟩,
 ⟨(some 44), .load none (.t 43), (some (42, false))⟩,
 ⟨(some 45), .bin .lss (.t 44) (.c (.int .i64 0)), (some (42, false))⟩,
 ⟨(some 46), .pick (.t 42) (.c (.bool true)) (.t 45), none⟩,
 ⟨(some 47), .mv (.t 46), none⟩,
 ⟨(some 48), .faddr 3 (.t 1), (some (47, false))⟩,
 ⟨(some 49), .load none (.t 48), (some (47, false))⟩,
 ⟨(some 50), .faddr 4 (.t 1), (some (47, false))⟩,
 ⟨(some 51), .load none (.t 50), (some (47, false))⟩,
 ⟨(some 52), .bin .geq (.t 49) (.t 51), (some (47, false))⟩,
 ⟨(some 53), .pick (.t 47) (.c (.bool true)) (.t 52), none⟩,
 ⟨(some 54), .mv (.t 53), none⟩,
 ⟨(some 55), .faddr 4 (.t 1), (some (54, false))⟩,
 ⟨(some 56), .load none (.t 55), (some (54, false))⟩,
 ⟨(some 57), .bin .gtr (.t 56) (.c (.int .i64 12000)), (some (54, false))⟩,
 ⟨(some 58), .pick (.t 54) (.c (.bool true)) (.t 57), none⟩,
 ⟨(some 59), .mv (.t 58), none⟩,
 ⟨(some 60), .faddr 4 (.t 1), (some (59, false))⟩,
 ⟨(some 61), .load none (.t 60), (some (59, false))⟩,
 ⟨(some 62), .faddr 3 (.t 1), (some (59, false))⟩,
 ⟨(some 63), .load none (.t 62), (some (59, false))⟩,
 ⟨(some 64), .bin .sub (.t 61) (.t 63), (some (59, false))⟩,
 ⟨(some 65), .faddr 1 (.t 1), (some (59, false))⟩,
 ⟨(some 66), .load none (.t 65), (some (59, false))⟩,
 ⟨(some 67), .bin .gtr (.t 64) (.t 66), (some (59, false))⟩,
 ⟨(some 68), .pick (.t 59) (.c (.bool true)) (.t 67), none⟩] [68])
 (.cond (.t 68) (.seq (.ops [
 ⟨(some 2), .mv (.c (.int .i64 10)), none⟩] [2])
 .ret)
 .skip))
 (.seq (.ops [
 ⟨(some 2), .mv (.c (.int .i64 0)), none⟩] [2])
 .ret)))),
 [.t 2]⟩
-- aneroid/aneroidref01.right
def c85 : CF := ⟨16,
 (.seq (.ops [
 ⟨(some 1), .box false 32 3 (.t 0), none⟩,
 ⟨(some 2), .mv (.c (.bool false)), none⟩] [1])
 (.seq (.ops [
 ⟨(some 3), .faddr 0 (.t 1), none⟩,
 ⟨(some 4), .load none (.t 3), none⟩,
 ⟨(some 5), .call (.f 76) [(.t 4), (.c (.int .i64 0)), (.c (.int .i64 400000))], none⟩,
 ⟨(some 6), .mv (.t 5), none⟩,
 ⟨(some 7), .faddr 1 (.t 1), (some (6, true))⟩,
 ⟨(some 8), .load none (.t 7), (some (6, true))⟩,
 ⟨(some 9), .call (.f 76) [(.t 8), (.c (.int .i64 0)), (.c (.int .i64 400000))], (some (6, true))⟩,
 ⟨(some 10), .pick (.t 6) (.t 9) (.c (.bool false)), none⟩,
 ⟨(some 11), .mv (.t 10), none⟩,
 ⟨(some 12), .faddr 2 (.t 1), (some (11, true))⟩,
 ⟨(some 13), .load none (.t 12), (some (11, true))⟩,
 ⟨(some 14), .call (.f 76) [(.t 13), (.c (.int .i64 0)), (.c (.int .i64 5000))], (some (11, true))⟩,
 ⟨(some 15), .pick (.t 11) (.t 14) (.c (.bool false)), none⟩,
 ⟨(some 2), .mv (.t 15), none⟩] [2])
 .ret)),
 [.t 2]⟩
-- aneroid/aneroidref01.CheckTrace
def c47 : CF := ⟨21,
 (.seq (.ops [
 ⟨(some 2), .mv (.c (.int .i64 0)), none⟩,
 ⟨(some 3), .mv (.c (.int .i64 0)), none⟩] [0])
 (.seq (.seq (.ops [
 ⟨(some 5), .mv (.t 0), none⟩,
 ⟨(some 6), .len (.t 5), none⟩,
 ⟨(some 7), .bin .gtr (.t 6) (.c (.int .i64 2000)), none⟩] [0, 7])
 (.cond (.t 7) (.seq (.ops [
 ⟨(some 2), .mv (.c (.int .i64 2)), none⟩,
 ⟨(some 3), .mv (.c (.int .i64 0)), none⟩] [2, 3])
 .ret)
 .skip))
 (.seq (.seq (.ops [
 ⟨(some 4), .mv (.c (.int .i64 0)), none⟩] [0, 4])
 (.block 0 (.loop (.seq (.seq (.ops [
 ⟨(some 8), .mv (.t 4), none⟩,
 ⟨(some 9), .mv (.t 0), none⟩,
 ⟨(some 10), .len (.t 9), none⟩,
 ⟨(some 11), .bin .lss (.t 8) (.t 10), none⟩] [0, 4, 11])
 (.cond (.t 11) .skip
 (.exit 0)))
 (.seq (.block 1 (.seq (.ops [
 ⟨(some 14), .mv (.t 0), none⟩,
 ⟨(some 15), .mv (.t 4), none⟩,
 ⟨(some 16), .iaddr 3 (.t 14) (.t 15), none⟩,
 ⟨(some 17), .load (some 3) (.t 16), none⟩,
 ⟨(some 18), .call (.f 85) [(.t 17)], none⟩,
 ⟨(some 19), .un .not (.t 18), none⟩] [0, 4, 19])
 (.cond (.t 19) (.seq (.ops [
 ⟨(some 20), .mv (.t 4), none⟩,
 ⟨(some 2), .mv (.c (.int .i64 11)), none⟩,
 ⟨(some 3), .mv (.t 20), none⟩] [2, 3])
 .ret)
 .skip)))
 (.ops [
 ⟨(some 12), .mv (.t 4), none⟩,
 ⟨(some 13), .bin .add (.t 12) (.c (.int .i64 1)), none⟩,
 ⟨(some 4), .mv (.t 13), none⟩] [0, 4]))))))
 (.seq (.ops [
 ⟨(some 2), .mv (.c (.int .i64 0)), none⟩,
 ⟨(some 3), .mv (.c (.int .i64 0)), none⟩] [2, 3])
 .ret)))),
 [.t 2, .t 3]⟩
-- aneroid/aneroidref01.check
-- aneroid/aneroidref01.places
def c90 : CF := ⟨23,
 (.seq (.ops [
 ⟨(some 5), .box false 23 2 (.t 2), none⟩,
 ⟨(some 6), .alloc 23 2 [.int .i64 0, .int .i64 0], none⟩] [0, 1, 5, 6])
 (.seq (.draw [
 ⟨(some 7), .mv (.t 0), none⟩,
 ⟨(some 8), .mv (.t 1), none⟩,
 ⟨(some 9), .bin .sub (.t 7) (.t 8), none⟩,
 ⟨(some 10), .bin .mul (.t 9) (.c (.int .i64 1000)), none⟩,
 ⟨(some 11), .faddr 1 (.t 5), none⟩,
 ⟨(some 12), .load none (.t 11), none⟩,
 ⟨(some 13), .call (.f 84) [(.t 10), (.t 12)], none⟩,
 ⟨(some 14), .mnx true (.c (.int .i64 0)) (.t 13), none⟩,
 ⟨(some 15), .mv (.t 0), none⟩,
 ⟨(some 16), .mv (.t 1), none⟩,
 ⟨(some 17), .bin .add (.t 15) (.t 16), none⟩,
 ⟨(some 18), .bin .mul (.t 17) (.c (.int .i64 1000)), none⟩,
 ⟨(some 19), .faddr 0 (.t 5), none⟩,
 ⟨(some 20), .load none (.t 19), none⟩,
 ⟨(some 21), .call (.f 84) [(.t 18), (.t 20)], none⟩,
 ⟨(some 22), .build [.int .i64 0, .int .i64 0] [(0, 1, (.t 14)), (1, 1, (.t 21))], none⟩] [
 ⟨none, .store 2 (.t 6) (.t 22), none⟩] [6])
 .ret)),
 [.c 6 (some 2)]⟩
-- aneroid/aneroidref01.arc
def c77 : CF := ⟨18,
 (.seq (.ops [
 ⟨(some 2), .box false 25 10 (.t 0), none⟩,
 ⟨(some 4), .mv (.c (.int .i64 0)), none⟩] [1, 2])
 (.seq (.seq (.ops [
 ⟨(some 5), .faddr 2 (.t 2), none⟩,
 ⟨(some 6), .load none (.t 5), none⟩,
 ⟨(some 7), .bin .eql (.t 6) (.c (.int .i64 0)), none⟩] [1, 2, 7])
 (.cond (.t 7) (.seq (.ops [
 ⟨(some 4), .mv (.c (.int .i64 0)), none⟩] [4])
 .ret)
 .skip))
 (.seq (.ops [
 ⟨(some 8), .mv (.t 1), none⟩,
 ⟨(some 9), .faddr 1 (.t 2), none⟩,
 ⟨(some 10), .load none (.t 9), none⟩,
 ⟨(some 11), .mv (.t 1), none⟩,
 ⟨(some 12), .bin .sub (.t 10) (.t 11), none⟩,
 ⟨(some 13), .bin .mul (.t 8) (.t 12), none⟩,
 ⟨(some 14), .faddr 2 (.t 2), none⟩,
 ⟨(some 15), .load none (.t 14), none⟩,
 ⟨(some 16), .bin .mul (.c (.int .i64 2)) (.t 15), none⟩,
 ⟨(some 17), .bin .quo (.t 13) (.t 16), none⟩,
 ⟨(some 4), .mv (.t 17), none⟩] [4])
 .ret))),
 [.t 4]⟩
-- aneroid/aneroidref01.level
def c78 : CF := ⟨18,
 (.seq (.ops [
 ⟨(some 2), .box false 25 10 (.t 0), none⟩,
 ⟨(some 4), .mv (.c (.int .i64 0)), none⟩] [1, 2])
 (.seq (.draw [
 ⟨(some 5), .faddr 3 (.t 2), none⟩,
 ⟨(some 6), .load none (.t 5), none⟩,
 ⟨(some 7), .mv (.t 1), none⟩,
 ⟨(some 8), .faddr 4 (.t 2), none⟩,
 ⟨(some 9), .load none (.t 8), none⟩,
 ⟨(some 10), .faddr 3 (.t 2), none⟩,
 ⟨(some 11), .load none (.t 10), none⟩,
 ⟨(some 12), .bin .sub (.t 9) (.t 11), none⟩,
 ⟨(some 13), .bin .mul (.t 7) (.t 12), none⟩,
 ⟨(some 14), .faddr 1 (.t 2), none⟩,
 ⟨(some 15), .load none (.t 14), none⟩,
 ⟨(some 16), .bin .quo (.t 13) (.t 15), none⟩,
 ⟨(some 17), .bin .add (.t 6) (.t 16), none⟩,
 ⟨(some 4), .mv (.t 17), none⟩] [
 ] [4])
 .ret)),
 [.t 4]⟩
-- aneroid/aneroidref01.heights
def c93 : CF := ⟨21,
 (.seq (.ops [
 ⟨(some 2), .box false 25 10 (.t 0), none⟩,
 ⟨(some 3), .box false 32 3 (.t 1), none⟩,
 ⟨(some 4), .alloc 23 2 [.int .i64 0, .int .i64 0], none⟩] [2, 3, 4])
 (.seq (.ops [
 ⟨(some 6), .faddr 1 (.t 3), none⟩,
 ⟨(some 7), .load none (.t 6), none⟩,
 ⟨(some 8), .faddr 2 (.t 3), none⟩,
 ⟨(some 9), .load none (.t 8), none⟩,
 ⟨(some 10), .faddr 8 (.t 2), none⟩,
 ⟨(some 11), .load (some 2) (.t 10), none⟩,
 ⟨(some 12), .call (.f 90) [(.t 7), (.t 9), (.t 11)], none⟩,
 ⟨(some 5), .alloc 23 2 [.int .i64 0, .int .i64 0], none⟩,
 ⟨none, .store 2 (.t 5) (.t 12), none⟩] [2, 4, 5])
 (.seq (.ops [
 ⟨(some 13), .faddr 0 (.t 5), none⟩,
 ⟨(some 14), .load none (.t 13), none⟩,
 ⟨(some 15), .faddr 1 (.t 5), none⟩,
 ⟨(some 16), .load none (.t 15), none⟩,
 ⟨(some 17), .faddr 1 (.t 2), none⟩,
 ⟨(some 18), .load none (.t 17), none⟩,
 ⟨(some 19), .mnx false (.t 16) (.t 18), none⟩,
 ⟨(some 20), .build [.int .i64 0, .int .i64 0] [(0, 1, (.t 14)), (1, 1, (.t 19))], none⟩,
 ⟨none, .store 2 (.t 4) (.t 20), none⟩] [4])
 .ret))),
 [.c 4 (some 2)]⟩
-- aneroid/aneroidref01.Arc
-- aneroid/aneroidref01.Level
-- aneroid/aneroidref01.Heights
-- aneroid/aneroidref01.Along
-- aneroid/aneroidref01.Across
theorem k76 : chkF Try.prog Try.f76 c76 = true := by kernel_rfl
theorem k84 : chkF Try.prog Try.f84 c84 = true := by kernel_rfl
theorem k99 : chkF Try.prog Try.f99 c99 = true := by kernel_rfl
theorem k53 : chkF Try.prog Try.f53 c53 = true := by kernel_rfl

theorem rwithin_spec (a b c : Int) : Pure Try.prog 76 [n a, n b, n c] (bl (decide (b ≤ a ∧ a ≤ c))) := by
  refine Pure.of_body Try.call76 Try.func76 k76 (Nat.le_of_ble_eq_true rfl) ?_
  unfold c76
  (repeat' first
 | (refine AWPC.of_vcn rfl ?_; simp only [zT, zV, zS, zU, vcC, lateX, ex, strp, cnd, binA, kseq, kblk, kret, klp, Abs.one, elems, cells, scalar, eqC, Nat.reduceBEq, Nat.reduceAdd, Nat.reduceSub, Nat.reduceLT, Nat.reduceLeDiff, Nat.reduceMul, Nat.reduceEqDiff, cond_true, cond_false, if_true, if_false, reduceIte, implies_true, forall_const, ne_eq])
 | (simp (disch := omega) only [wr64, Int.zero_sub]; try simp only [zT, zV, zS, zU, vcC, lateX, ex, strp, cnd, binA, kseq, kblk, kret, klp, Abs.one, elems, cells, scalar, eqC, Nat.reduceBEq, Nat.reduceAdd, Nat.reduceSub, Nat.reduceLT, Nat.reduceLeDiff, Nat.reduceMul, Nat.reduceEqDiff, cond_true, cond_false, if_true, if_false, reduceIte, implies_true, forall_const, ne_eq])
 | (refine AWPC.both (fun _ => ?_) (fun _ => ?_))
 | (refine AWPC.imp (fun _ => ?_))
 | ((refine .inl ⟨_, _, _, .any, rfl, fun h => absurd h Bool.false_ne_true, ?_⟩); refine owp_of_exs ?_; simp only [zT, zV, zS, zU, vcC, lateX, ex, strp, cnd, binA, kseq, kblk, kret, klp, Abs.one, elems, cells, scalar, eqC, Nat.reduceBEq, Nat.reduceAdd, Nat.reduceSub, Nat.reduceLT, Nat.reduceLeDiff, Nat.reduceMul, Nat.reduceEqDiff, cond_true, cond_false, if_true, if_false, reduceIte, implies_true, forall_const, ne_eq])
 | (refine ⟨by omega, ?_⟩)
 | (refine And.intro (by (intros; first | (simp_all (config := { decide := false }); done) | fail)) ?_)
 | fail)
  exact Frz.eq rfl (by simp)

theorem rfloor_spec (a b : Int) (hb : 1 ≤ b) (hb2 : b ≤ 1000000000000) (h1 : -1000000000000000 ≤ a) (h2 : a ≤ 1000000000000000) : Pure Try.prog 84 [n a, n b] (n (a / b)) := by
  refine Pure.of_body Try.call84 Try.func84 k84 (Nat.le_of_ble_eq_true rfl) ?_
  have hd := ediv_bd h1 h2 (by omega) hb
  unfold c84
  (repeat' first
 | (refine AWPC.of_vcn rfl ?_; simp only [zT, zV, zS, zU, vcC, lateX, ex, strp, cnd, binA, kseq, kblk, kret, klp, Abs.one, elems, cells, scalar, eqC, Nat.reduceBEq, Nat.reduceAdd, Nat.reduceSub, Nat.reduceLT, Nat.reduceLeDiff, Nat.reduceMul, Nat.reduceEqDiff, cond_true, cond_false, if_true, if_false, reduceIte, implies_true, forall_const, ne_eq])
 | (simp (disch := omega) only [wr64, Int.zero_sub]; try simp only [zT, zV, zS, zU, vcC, lateX, ex, strp, cnd, binA, kseq, kblk, kret, klp, Abs.one, elems, cells, scalar, eqC, Nat.reduceBEq, Nat.reduceAdd, Nat.reduceSub, Nat.reduceLT, Nat.reduceLeDiff, Nat.reduceMul, Nat.reduceEqDiff, cond_true, cond_false, if_true, if_false, reduceIte, implies_true, forall_const, ne_eq])
 | (refine AWPC.both (fun _ => ?_) (fun _ => ?_))
 | (refine AWPC.imp (fun _ => ?_))
 | ((refine .inl ⟨_, _, _, .any, rfl, fun h => absurd h Bool.false_ne_true, ?_⟩); refine owp_of_exs ?_; simp only [zT, zV, zS, zU, vcC, lateX, ex, strp, cnd, binA, kseq, kblk, kret, klp, Abs.one, elems, cells, scalar, eqC, Nat.reduceBEq, Nat.reduceAdd, Nat.reduceSub, Nat.reduceLT, Nat.reduceLeDiff, Nat.reduceMul, Nat.reduceEqDiff, cond_true, cond_false, if_true, if_false, reduceIte, implies_true, forall_const, ne_eq])
 | (refine ⟨by omega, ?_⟩)
 | (refine And.intro (by (intros; first | (simp_all (config := { decide := false }); done) | fail)) ?_)
 | fail)
  · have := fdiv_neg hb (show a < 0 by omega)
    rw [show (-a + b - 1).tdiv b = -(a / b) by omega]
    simp (disch := omega) only [wr64, Int.zero_sub]
    refine Frz.eq ?_ (by simp)
    simp
  · have : a.tdiv b = a / b := Int.tdiv_eq_ediv_of_nonneg (by omega)
    rw [this]
    simp (disch := omega) only [wr64, Int.zero_sub]
    exact Frz.eq rfl (by simp)

theorem k85 : chkF Try.prog Try.f85 c85 = true := by kernel_rfl
theorem k47 : chkF Try.prog Try.f47 c47 = true := by kernel_rfl
theorem k90 : chkF Try.prog Try.f90 c90 = true := by kernel_rfl
theorem k77 : chkF Try.prog Try.f77 c77 = true := by kernel_rfl
theorem k78 : chkF Try.prog Try.f78 c78 = true := by kernel_rfl
theorem k93 : chkF Try.prog Try.f93 c93 = true := by kernel_rfl
theorem rshrunk_spec (s : Sp) : Pure Try.prog 99 [.agg s.cs] (bl (decide s.ok)) := by
  refine Pure.of_body Try.call99 Try.func99 k99 (Nat.le_of_ble_eq_true rfl) ?_
  unfold c99
  (repeat' first
 | (refine AWPC.of_vcn rfl ?_; simp only [zT, zV, zS, zU, vcC, lateX, ex, strp, cnd, binA, kseq, kblk, kret, klp, Abs.one, elems, cells, scalar, eqC, Nat.reduceBEq, Nat.reduceAdd, Nat.reduceSub, Nat.reduceLT, Nat.reduceLeDiff, Nat.reduceMul, Nat.reduceEqDiff, cond_true, cond_false, if_true, if_false, reduceIte, implies_true, forall_const, ne_eq])
 | (simp (disch := omega) only [wr64, Int.zero_sub]; try simp only [zT, zV, zS, zU, vcC, lateX, ex, strp, cnd, binA, kseq, kblk, kret, klp, Abs.one, elems, cells, scalar, eqC, Nat.reduceBEq, Nat.reduceAdd, Nat.reduceSub, Nat.reduceLT, Nat.reduceLeDiff, Nat.reduceMul, Nat.reduceEqDiff, cond_true, cond_false, if_true, if_false, reduceIte, implies_true, forall_const, ne_eq])
 | (refine AWPC.both (fun _ => ?_) (fun _ => ?_))
 | (refine AWPC.imp (fun _ => ?_))
 | ((refine .inl ⟨_, _, _, .any, rfl, fun h => absurd h Bool.false_ne_true, ?_⟩); refine owp_of_exs ?_; simp only [zT, zV, zS, zU, vcC, lateX, ex, strp, cnd, binA, kseq, kblk, kret, klp, Abs.one, elems, cells, scalar, eqC, Nat.reduceBEq, Nat.reduceAdd, Nat.reduceSub, Nat.reduceLT, Nat.reduceLeDiff, Nat.reduceMul, Nat.reduceEqDiff, cond_true, cond_false, if_true, if_false, reduceIte, implies_true, forall_const, ne_eq])
 | (refine ⟨by omega, ?_⟩)
 | (refine And.intro (by (intros; first | (simp_all (config := { decide := false }); done) | fail)) ?_)
 | fail)
  refine Frz.eq ?_ (by simp)
  congr 2
  rw [decide_eq_decide]; omega

theorem rcheckPaper_spec (p : Pp) : Pure Try.prog 53 [.agg p.cs] (n p.err) := by
  refine Pure.of_body Try.call53 Try.func53 k53 (Nat.le_of_ble_eq_true rfl) ?_
  unfold c53
  (repeat' first
 | (refine AWPC.of_vcn rfl ?_; simp only [zT, zV, zS, zU, vcC, lateX, ex, strp, cnd, binA, kseq, kblk, kret, klp, Abs.one, elems, cells, scalar, eqC, Nat.reduceBEq, Nat.reduceAdd, Nat.reduceSub, Nat.reduceLT, Nat.reduceLeDiff, Nat.reduceMul, Nat.reduceEqDiff, cond_true, cond_false, if_true, if_false, reduceIte, implies_true, forall_const, ne_eq])
 | (simp (disch := omega) only [wr64, Int.zero_sub]; try simp only [zT, zV, zS, zU, vcC, lateX, ex, strp, cnd, binA, kseq, kblk, kret, klp, Abs.one, elems, cells, scalar, eqC, Nat.reduceBEq, Nat.reduceAdd, Nat.reduceSub, Nat.reduceLT, Nat.reduceLeDiff, Nat.reduceMul, Nat.reduceEqDiff, cond_true, cond_false, if_true, if_false, reduceIte, implies_true, forall_const, ne_eq])
 | (refine AWPC.both (fun _ => ?_) (fun _ => ?_))
 | (refine AWPC.imp (fun _ => ?_))
 | ((repeat (refine And.intro (by (intros; first | omega | (simp_all (config := { decide := false }); done) | fail)) ?_)); (first
 | (refine .inl ⟨_, _, _, _, rfl, fun _hc => ⟨by simp, rwithin_spec _ _ _⟩, ?_⟩)
 | (refine .inl ⟨_, _, _, _, rfl, fun _hc => ⟨by simp, rshrunk_spec p.al⟩, ?_⟩)
 | (refine .inl ⟨_, _, _, _, rfl, fun _hc => ⟨by simp, rshrunk_spec p.cl⟩, ?_⟩)
 | (refine ⟨_, _, _, _, rfl, fun _hc => ⟨by simp, rwithin_spec _ _ _⟩, ?_⟩)
 | (refine ⟨_, _, _, _, rfl, fun _hc => ⟨by simp, rshrunk_spec p.al⟩, ?_⟩)
 | (refine ⟨_, _, _, _, rfl, fun _hc => ⟨by simp, rshrunk_spec p.cl⟩, ?_⟩)
 | fail); (first | refine owp_of_exs ?_ | refine pre_of_exd ?_ | refine pre_of_exe ?_ | fail); simp only [zT, zV, zS, zU, vcC, lateX, ex, strp, cnd, binA, kseq, kblk, kret, klp, Abs.one, elems, cells, scalar, eqC, Nat.reduceBEq, Nat.reduceAdd, Nat.reduceSub, Nat.reduceLT, Nat.reduceLeDiff, Nat.reduceMul, Nat.reduceEqDiff, cond_true, cond_false, if_true, if_false, reduceIte, implies_true, forall_const, ne_eq])
 | ((refine .inl ⟨_, _, _, .any, rfl, fun h => absurd h Bool.false_ne_true, ?_⟩); refine owp_of_exs ?_; simp only [zT, zV, zS, zU, vcC, lateX, ex, strp, cnd, binA, kseq, kblk, kret, klp, Abs.one, elems, cells, scalar, eqC, Nat.reduceBEq, Nat.reduceAdd, Nat.reduceSub, Nat.reduceLT, Nat.reduceLeDiff, Nat.reduceMul, Nat.reduceEqDiff, cond_true, cond_false, if_true, if_false, reduceIte, implies_true, forall_const, ne_eq])
 | (refine ⟨by omega, ?_⟩)
 | (refine And.intro (by (intros; first | (simp_all (config := { decide := false }); done) | fail)) ?_)
 | fail)
  · refine Frz.eq ?_ (by simp)
    rw [err1]; rintro ⟨g1, g2, g3, g4, g5, g6, g7, g8, g9, g10, g11, g12, g13⟩; omega
  · refine Frz.eq ?_ (by simp)
    rw [err1]; rintro ⟨g1, g2, g3, g4, g5, g6, g7, g8, g9, g10, g11, g12, g13⟩
    rename_i h
    rw [wr64 _ (by omega) (by omega)] at h; omega
  · refine Frz.eq ?_ (by simp)
    rename_i h1 h2
    simp only [not_or, Decidable.not_not] at h1 h2
    obtain ⟨⟨⟨⟨h3, h4⟩, h5⟩, h6⟩, h7⟩ := h2
    rw [wr64 _ (by omega) (by omega)] at h7
    rw [err0.2]; unfold Pp.good
    exact ⟨by omega, by omega, by omega, by omega, by omega, by omega, by omega, by omega, by omega, by omega, by omega, h1.1.2, h1.2⟩

theorem rright_spec (t : Pt) : Pure Try.prog 85 [.agg t.cs] (bl (decide t.right)) := by
  refine Pure.of_body Try.call85 Try.func85 k85 (Nat.le_of_ble_eq_true rfl) ?_
  unfold c85
  (repeat' first
 | (refine AWPC.of_vcn rfl ?_; simp only [zT, zV, zS, zU, vcC, lateX, ex, strp, cnd, binA, kseq, kblk, kret, klp, Abs.one, elems, cells, scalar, eqC, Nat.reduceBEq, Nat.reduceAdd, Nat.reduceSub, Nat.reduceLT, Nat.reduceLeDiff, Nat.reduceMul, Nat.reduceEqDiff, cond_true, cond_false, if_true, if_false, reduceIte, implies_true, forall_const, ne_eq])
 | (simp (disch := omega) only [wr64, Int.zero_sub]; try simp only [zT, zV, zS, zU, vcC, lateX, ex, strp, cnd, binA, kseq, kblk, kret, klp, Abs.one, elems, cells, scalar, eqC, Nat.reduceBEq, Nat.reduceAdd, Nat.reduceSub, Nat.reduceLT, Nat.reduceLeDiff, Nat.reduceMul, Nat.reduceEqDiff, cond_true, cond_false, if_true, if_false, reduceIte, implies_true, forall_const, ne_eq])
 | (refine AWPC.both (fun _ => ?_) (fun _ => ?_))
 | (refine AWPC.imp (fun _ => ?_))
 | ((repeat (refine And.intro (by (intros; first | omega | (simp_all (config := { decide := false }); done) | fail)) ?_)); (first
 | (refine .inl ⟨_, _, _, _, rfl, fun _hc => ⟨by simp, rwithin_spec _ _ _⟩, ?_⟩)
 | (refine ⟨_, _, _, _, rfl, fun _hc => ⟨by simp, rwithin_spec _ _ _⟩, ?_⟩)
 | fail); (first | refine owp_of_exs ?_ | refine pre_of_exd ?_ | refine pre_of_exe ?_ | fail); simp only [zT, zV, zS, zU, vcC, lateX, ex, strp, cnd, binA, kseq, kblk, kret, klp, Abs.one, elems, cells, scalar, eqC, Nat.reduceBEq, Nat.reduceAdd, Nat.reduceSub, Nat.reduceLT, Nat.reduceLeDiff, Nat.reduceMul, Nat.reduceEqDiff, cond_true, cond_false, if_true, if_false, reduceIte, implies_true, forall_const, ne_eq])
 | ((refine .inl ⟨_, _, _, .any, rfl, fun h => absurd h Bool.false_ne_true, ?_⟩); refine owp_of_exs ?_; simp only [zT, zV, zS, zU, vcC, lateX, ex, strp, cnd, binA, kseq, kblk, kret, klp, Abs.one, elems, cells, scalar, eqC, Nat.reduceBEq, Nat.reduceAdd, Nat.reduceSub, Nat.reduceLT, Nat.reduceLeDiff, Nat.reduceMul, Nat.reduceEqDiff, cond_true, cond_false, if_true, if_false, reduceIte, implies_true, forall_const, ne_eq])
 | (refine ⟨by omega, ?_⟩)
 | (refine And.intro (by (intros; first | (simp_all (config := { decide := false }); done) | fail)) ?_)
 | fail)
  refine Frz.eq ?_ (by simp)
  congr 2
  rw [decide_eq_decide]; omega

theorem rplaces_spec (x h : Int) (s : Sp) (hs : s.ok) (hx : 0 ≤ x ∧ x ≤ 400000) (hh : 0 ≤ h ∧ h ≤ 5000) : Pure Try.prog 90 [n x, n h, .agg s.cs] (.agg (s.places x h).cs) := by
  refine Pure.of_body Try.call90 Try.func90 k90 (Nat.le_of_ble_eq_true rfl) ?_
  unfold c90
  (repeat' first
 | (refine AWPC.of_vcn rfl ?_; simp only [zT, zV, zS, zU, vcC, lateX, ex, strp, cnd, binA, kseq, kblk, kret, klp, Abs.one, elems, cells, scalar, eqC, Nat.reduceBEq, Nat.reduceAdd, Nat.reduceSub, Nat.reduceLT, Nat.reduceLeDiff, Nat.reduceMul, Nat.reduceEqDiff, cond_true, cond_false, if_true, if_false, reduceIte, implies_true, forall_const, ne_eq])
 | (simp (disch := omega) only [wr64, Int.zero_sub]; try simp only [zT, zV, zS, zU, vcC, lateX, ex, strp, cnd, binA, kseq, kblk, kret, klp, Abs.one, elems, cells, scalar, eqC, Nat.reduceBEq, Nat.reduceAdd, Nat.reduceSub, Nat.reduceLT, Nat.reduceLeDiff, Nat.reduceMul, Nat.reduceEqDiff, cond_true, cond_false, if_true, if_false, reduceIte, implies_true, forall_const, ne_eq])
 | (refine AWPC.both (fun _ => ?_) (fun _ => ?_))
 | (refine AWPC.imp (fun _ => ?_))
 | ((repeat (refine And.intro (by (intros; first | omega | (simp_all (config := { decide := false }); done) | fail)) ?_)); (first
 | (refine .inl ⟨_, _, _, _, rfl, fun _hc => ⟨by simp, rfloor_spec _ _ (by omega) (by omega) (by omega) (by omega)⟩, ?_⟩)
 | (refine ⟨_, _, _, _, rfl, fun _hc => ⟨by simp, rfloor_spec _ _ (by omega) (by omega) (by omega) (by omega)⟩, ?_⟩)
 | fail); (first | refine owp_of_exs ?_ | refine pre_of_exd ?_ | refine pre_of_exe ?_ | fail); simp only [zT, zV, zS, zU, vcC, lateX, ex, strp, cnd, binA, kseq, kblk, kret, klp, Abs.one, elems, cells, scalar, eqC, Nat.reduceBEq, Nat.reduceAdd, Nat.reduceSub, Nat.reduceLT, Nat.reduceLeDiff, Nat.reduceMul, Nat.reduceEqDiff, cond_true, cond_false, if_true, if_false, reduceIte, implies_true, forall_const, ne_eq])
 | ((refine .inl ⟨_, _, _, .any, rfl, fun h => absurd h Bool.false_ne_true, ?_⟩); refine owp_of_exs ?_; simp only [zT, zV, zS, zU, vcC, lateX, ex, strp, cnd, binA, kseq, kblk, kret, klp, Abs.one, elems, cells, scalar, eqC, Nat.reduceBEq, Nat.reduceAdd, Nat.reduceSub, Nat.reduceLT, Nat.reduceLeDiff, Nat.reduceMul, Nat.reduceEqDiff, cond_true, cond_false, if_true, if_false, reduceIte, implies_true, forall_const, ne_eq])
 | (refine ⟨by omega, ?_⟩)
 | (refine And.intro (by (intros; first | (simp_all (config := { decide := false }); done) | fail)) ?_)
 | fail)
  exact Frz.eq rfl (by simp)

theorem rarc_spec (p : Pp) (y : Int) (hg : p.good) (h0 : 0 ≤ y) (h1 : y ≤ p.he) : Pure Try.prog 77 [.agg p.cs, n y] (n (p.arc y)) := by
  refine Pure.of_body Try.call77 Try.func77 k77 (Nat.le_of_ble_eq_true rfl) ?_
  unfold c77
  obtain ⟨g1, g2, g3, g4, g5, g6, g7, g8, g9, g10, g11, g12, g13⟩ := hg
  have hm := mul_bd h0 (show y ≤ 400000 by omega) (show 0 ≤ p.he - y by omega) (show p.he - y ≤ 400000 by omega)
  have hd : ¬ p.ra = 0 → 0 ≤ (y * (p.he - y)).tdiv (2 * p.ra) ∧ (y * (p.he - y)).tdiv (2 * p.ra) ≤ 400000 * 400000 := fun hr => tdiv_bd hm.1 hm.2 (show 1 ≤ 2 * p.ra by omega)
  (repeat' first
 | (refine AWPC.of_vcn rfl ?_; simp only [zT, zV, zS, zU, vcC, lateX, ex, strp, cnd, binA, kseq, kblk, kret, klp, Abs.one, elems, cells, scalar, eqC, Nat.reduceBEq, Nat.reduceAdd, Nat.reduceSub, Nat.reduceLT, Nat.reduceLeDiff, Nat.reduceMul, Nat.reduceEqDiff, cond_true, cond_false, if_true, if_false, reduceIte, implies_true, forall_const, ne_eq])
 | (simp (disch := omega) only [wr64, Int.zero_sub]; try simp only [zT, zV, zS, zU, vcC, lateX, ex, strp, cnd, binA, kseq, kblk, kret, klp, Abs.one, elems, cells, scalar, eqC, Nat.reduceBEq, Nat.reduceAdd, Nat.reduceSub, Nat.reduceLT, Nat.reduceLeDiff, Nat.reduceMul, Nat.reduceEqDiff, cond_true, cond_false, if_true, if_false, reduceIte, implies_true, forall_const, ne_eq])
 | (refine AWPC.both (fun _ => ?_) (fun _ => ?_))
 | (refine AWPC.imp (fun _ => ?_))
 | ((refine .inl ⟨_, _, _, .any, rfl, fun h => absurd h Bool.false_ne_true, ?_⟩); refine owp_of_exs ?_; simp only [zT, zV, zS, zU, vcC, lateX, ex, strp, cnd, binA, kseq, kblk, kret, klp, Abs.one, elems, cells, scalar, eqC, Nat.reduceBEq, Nat.reduceAdd, Nat.reduceSub, Nat.reduceLT, Nat.reduceLeDiff, Nat.reduceMul, Nat.reduceEqDiff, cond_true, cond_false, if_true, if_false, reduceIte, implies_true, forall_const, ne_eq])
 | (refine ⟨by omega, ?_⟩)
 | (refine And.intro (by (intros; first | (simp_all (config := { decide := false }); done) | fail)) ?_)
 | fail)
  · refine Frz.eq ?_ (by simp)
    rw [Pp.arc, if_pos ‹_›]
  · refine Frz.eq ?_ (by simp)
    rw [Pp.arc, if_neg ‹_›]

theorem rlevel_spec (p : Pp) (y : Int) (hg : p.good) (h0 : 0 ≤ y) (h1 : y ≤ p.he) : Pure Try.prog 78 [.agg p.cs, n y] (n (p.level y)) := by
  refine Pure.of_body Try.call78 Try.func78 k78 (Nat.le_of_ble_eq_true rfl) ?_
  unfold c78
  obtain ⟨g1, g2, g3, g4, g5, g6, g7, g8, g9, g10, g11, g12, g13⟩ := hg
  have hm := mul_bd h0 (show y ≤ 400000 by omega) (show 0 ≤ p.hi - p.lo by omega) (show p.hi - p.lo ≤ 12000 by omega)
  have hd := tdiv_bd hm.1 hm.2 (show 1 ≤ p.he by omega)
  (repeat' first
 | (refine AWPC.of_vcn rfl ?_; simp only [zT, zV, zS, zU, vcC, lateX, ex, strp, cnd, binA, kseq, kblk, kret, klp, Abs.one, elems, cells, scalar, eqC, Nat.reduceBEq, Nat.reduceAdd, Nat.reduceSub, Nat.reduceLT, Nat.reduceLeDiff, Nat.reduceMul, Nat.reduceEqDiff, cond_true, cond_false, if_true, if_false, reduceIte, implies_true, forall_const, ne_eq])
 | (simp (disch := omega) only [wr64, Int.zero_sub]; try simp only [zT, zV, zS, zU, vcC, lateX, ex, strp, cnd, binA, kseq, kblk, kret, klp, Abs.one, elems, cells, scalar, eqC, Nat.reduceBEq, Nat.reduceAdd, Nat.reduceSub, Nat.reduceLT, Nat.reduceLeDiff, Nat.reduceMul, Nat.reduceEqDiff, cond_true, cond_false, if_true, if_false, reduceIte, implies_true, forall_const, ne_eq])
 | (refine AWPC.both (fun _ => ?_) (fun _ => ?_))
 | (refine AWPC.imp (fun _ => ?_))
 | ((refine .inl ⟨_, _, _, .any, rfl, fun h => absurd h Bool.false_ne_true, ?_⟩); refine owp_of_exs ?_; simp only [zT, zV, zS, zU, vcC, lateX, ex, strp, cnd, binA, kseq, kblk, kret, klp, Abs.one, elems, cells, scalar, eqC, Nat.reduceBEq, Nat.reduceAdd, Nat.reduceSub, Nat.reduceLT, Nat.reduceLeDiff, Nat.reduceMul, Nat.reduceEqDiff, cond_true, cond_false, if_true, if_false, reduceIte, implies_true, forall_const, ne_eq])
 | (refine ⟨by omega, ?_⟩)
 | (refine And.intro (by (intros; first | (simp_all (config := { decide := false }); done) | fail)) ?_)
 | fail)
  exact Frz.eq rfl (by simp)

theorem rheights_spec (p : Pp) (t : Pt) (hg : p.good) (ht : t.right) : Pure Try.prog 93 [.agg p.cs, .agg t.cs] (.agg (p.heights t).cs) := by
  refine Pure.of_body Try.call93 Try.func93 k93 (Nat.le_of_ble_eq_true rfl) ?_
  unfold c93
  (repeat' first
 | (refine AWPC.of_vcn rfl ?_; simp only [zT, zV, zS, zU, vcC, lateX, ex, strp, cnd, binA, kseq, kblk, kret, klp, Abs.one, elems, cells, scalar, eqC, Nat.reduceBEq, Nat.reduceAdd, Nat.reduceSub, Nat.reduceLT, Nat.reduceLeDiff, Nat.reduceMul, Nat.reduceEqDiff, cond_true, cond_false, if_true, if_false, reduceIte, implies_true, forall_const, ne_eq])
 | (simp (disch := omega) only [wr64, Int.zero_sub]; try simp only [zT, zV, zS, zU, vcC, lateX, ex, strp, cnd, binA, kseq, kblk, kret, klp, Abs.one, elems, cells, scalar, eqC, Nat.reduceBEq, Nat.reduceAdd, Nat.reduceSub, Nat.reduceLT, Nat.reduceLeDiff, Nat.reduceMul, Nat.reduceEqDiff, cond_true, cond_false, if_true, if_false, reduceIte, implies_true, forall_const, ne_eq])
 | (refine AWPC.both (fun _ => ?_) (fun _ => ?_))
 | (refine AWPC.imp (fun _ => ?_))
 | ((repeat (refine And.intro (by (intros; first | omega | (simp_all (config := { decide := false }); done) | fail)) ?_)); (first
 | (refine .inl ⟨_, _, _, _, rfl, fun _hc => ⟨by simp, rplaces_spec t.y t.h p.cl (by obtain ⟨g1, g2, g3, g4, g5, g6, g7, g8, g9, g10, g11, g12, g13⟩ := hg; exact g13) ⟨ht.2.2.1, ht.2.2.2.1⟩ ⟨ht.2.2.2.2.1, ht.2.2.2.2.2⟩⟩, ?_⟩)
 | (refine ⟨_, _, _, _, rfl, fun _hc => ⟨by simp, rplaces_spec t.y t.h p.cl (by obtain ⟨g1, g2, g3, g4, g5, g6, g7, g8, g9, g10, g11, g12, g13⟩ := hg; exact g13) ⟨ht.2.2.1, ht.2.2.2.1⟩ ⟨ht.2.2.2.2.1, ht.2.2.2.2.2⟩⟩, ?_⟩)
 | fail); (first | refine owp_of_exs ?_ | refine pre_of_exd ?_ | refine pre_of_exe ?_ | fail); simp only [zT, zV, zS, zU, vcC, lateX, ex, strp, cnd, binA, kseq, kblk, kret, klp, Abs.one, elems, cells, scalar, eqC, Nat.reduceBEq, Nat.reduceAdd, Nat.reduceSub, Nat.reduceLT, Nat.reduceLeDiff, Nat.reduceMul, Nat.reduceEqDiff, cond_true, cond_false, if_true, if_false, reduceIte, implies_true, forall_const, ne_eq])
 | ((refine .inl ⟨_, _, _, .any, rfl, fun h => absurd h Bool.false_ne_true, ?_⟩); refine owp_of_exs ?_; simp only [zT, zV, zS, zU, vcC, lateX, ex, strp, cnd, binA, kseq, kblk, kret, klp, Abs.one, elems, cells, scalar, eqC, Nat.reduceBEq, Nat.reduceAdd, Nat.reduceSub, Nat.reduceLT, Nat.reduceLeDiff, Nat.reduceMul, Nat.reduceEqDiff, cond_true, cond_false, if_true, if_false, reduceIte, implies_true, forall_const, ne_eq])
 | (refine ⟨by omega, ?_⟩)
 | (refine And.intro (by (intros; first | (simp_all (config := { decide := false }); done) | fail)) ?_)
 | fail)
  exact Frz.eq rfl (by simp)

theorem least_ceil (p : Pp) (l : Int) (hg : p.good) (h0 : p.lo ≤ l) (h1 : l ≤ p.hi + 1) : p.least l = -((-((l - p.lo) * p.he)) / (p.hi - p.lo)) := by
  obtain ⟨g1, g2, g3, g4, g5, g6, g7, g8, g9, g10, g11, g12, g13⟩ := hg
  have hm := mul_bd (show 0 ≤ l - p.lo by omega) (show l - p.lo ≤ 12001 by omega) (show 0 ≤ p.he by omega) (show p.he ≤ 400000 by omega)
  unfold Pp.least
  by_cases h : (l - p.lo) * p.he = 0
  · rw [h, show 0 + p.hi - p.lo - 1 = p.hi - p.lo - 1 by omega, Int.tdiv_eq_ediv_of_nonneg (by omega), Int.ediv_eq_zero_of_lt (by omega) (by omega)]; simp
  · have := fdiv_neg (a := -((l - p.lo) * p.he)) (b := p.hi - p.lo) (by omega) (by omega)
    rw [← this, show (l - p.lo) * p.he + p.hi - p.lo - 1 = - -((l - p.lo) * p.he) + (p.hi - p.lo) - 1 by omega]; simp

end Go.Proofs.Ytgpdckmbojmlpaa

namespace Go.Proofs.Ytgpdckmbojmlpaa
open Go.Abs
set_option linter.unusedVariables false
set_option linter.unusedSimpArgs false
set_option maxHeartbeats 4000000
set_option maxRecDepth 100000
-- aneroid/aneroidlaw01.PaperHeights
-- aneroid/aneroidlaw01.PaperLevels
def Pp.Hts (p : Pp) (l : Int) : Sp × Int := if p.good then (if p.lo ≤ l ∧ l ≤ p.hi then (⟨p.least l, min p.he (p.least (l + 1) - 1)⟩, 0) else (⟨0, 0⟩, 1)) else (⟨0, 0⟩, 10)

theorem level_ediv (p : Pp) {y : Int} (hg : p.good) (h0 : 0 ≤ y) : p.level y = p.lo + y * (p.hi - p.lo) / p.he := by
  obtain ⟨g1, g2, g3, g4, g5, g6, g7, g8, g9, g10, g11, g12, g13⟩ := hg
  unfold Pp.level
  rw [Int.tdiv_eq_ediv_of_nonneg (Int.mul_nonneg h0 (by omega))]

theorem level_ge (p : Pp) {y l : Int} (hg : p.good) (h0 : 0 ≤ y) (hl : p.lo ≤ l) (hh : l ≤ p.hi + 1) : l ≤ p.level y ↔ p.least l ≤ y := by
  rw [level_ediv p hg h0, least_ceil p l hg hl hh]
  obtain ⟨g1, g2, g3, g4, g5, g6, g7, g8, g9, g10, g11, g12, g13⟩ := hg
  have e1 := Int.le_ediv_iff_mul_le (a := l - p.lo) (b := y * (p.hi - p.lo)) (c := p.he) (by omega)
  have e2 := Int.le_ediv_iff_mul_le (a := -y) (b := -((l - p.lo) * p.he)) (c := p.hi - p.lo) (by omega)
  rw [Int.neg_mul] at e2
  omega

theorem level_0 (p : Pp) (hg : p.good) : p.level 0 = p.lo := by
  rw [level_ediv p hg (by omega)]; simp

theorem level_top (p : Pp) (hg : p.good) : p.level p.he = p.hi := by
  have hg' := hg
  obtain ⟨g1, g2, g3, g4, g5, g6, g7, g8, g9, g10, g11, g12, g13⟩ := hg'
  rw [level_ediv p hg (by omega), Int.mul_ediv_cancel_left _ (by omega)]; omega

theorem level_mono (p : Pp) {y z : Int} (hg : p.good) (h0 : 0 ≤ y) (h : y ≤ z) : p.level y ≤ p.level z := by
  have hg' := hg
  obtain ⟨g1, g2, g3, g4, g5, g6, g7, g8, g9, g10, g11, g12, g13⟩ := hg'
  rw [level_ediv p hg h0, level_ediv p hg (by omega)]
  have := Int.ediv_le_ediv (c := p.he) (by omega) (Int.mul_le_mul_of_nonneg_right h (show 0 ≤ p.hi - p.lo by omega))
  omega

theorem level_step (p : Pp) {y : Int} (hg : p.good) (h0 : 0 ≤ y) : p.level (y + 1) ≤ p.level y + 1 := by
  have hg' := hg
  obtain ⟨g1, g2, g3, g4, g5, g6, g7, g8, g9, g10, g11, g12, g13⟩ := hg'
  rw [level_ediv p hg h0, level_ediv p hg (by omega)]
  have h1 : (y + 1) * (p.hi - p.lo) ≤ y * (p.hi - p.lo) + 1 * p.he := by rw [Int.add_mul]; omega
  have := Int.ediv_le_ediv (c := p.he) (by omega) h1
  rw [Int.add_mul_ediv_right _ _ (by omega)] at this
  omega

theorem level_in (p : Pp) {y : Int} (hg : p.good) (h0 : 0 ≤ y) (h1 : y ≤ p.he) : p.lo ≤ p.level y ∧ p.level y ≤ p.hi := by
  have a := level_mono p hg (Int.le_refl 0) h0
  have b := level_mono p hg h0 h1
  rw [level_0 p hg] at a; rw [level_top p hg] at b
  exact ⟨a, b⟩

theorem span_of (p : Pp) {l : Int} (hg : p.good) (h0 : p.lo ≤ l) (h1 : l ≤ p.hi) :
    0 ≤ p.least l ∧ p.least l ≤ p.he ∧ p.least l + 1 ≤ p.least (l + 1) ∧ (l < p.hi → p.least (l + 1) ≤ p.he) ∧ (l = p.hi → p.he < p.least (l + 1)) ∧ (l = p.lo → p.least l = 0) := by
  have b1 := least_bd p l hg h0 (by omega)
  have t := level_top p hg
  have z := level_0 p hg
  have hg' := hg
  obtain ⟨g1, g2, g3, g4, g5, g6, g7, g8, g9, g10, g11, g12, g13⟩ := hg'
  have e1 := level_ge p (y := p.he) hg (by omega) h0 (by omega)
  have e2 := level_ge p (y := p.least l) (l := l) hg (by omega) h0 (by omega)
  have e3 := level_ge p (y := p.least l) (l := l + 1) hg (by omega) (by omega) (by omega)
  have e4 := level_ge p (y := p.he) (l := l + 1) hg (by omega) (by omega) (by omega)
  have e5 := level_ge p (y := 0) (l := l) hg (by omega) h0 (by omega)
  refine ⟨b1.1, by omega, ?_, by omega, by omega, by omega⟩
  refine Int.not_lt.1 fun hlt => ?_
  have k1 : l + 1 ≤ p.level (p.least l) := by omega
  by_cases ha : p.least l = 0
  · rw [ha] at k1; omega
  · have e6 := level_ge p (y := p.least l - 1) (l := l) hg (by omega) h0 (by omega)
    have e7 := level_step p (y := p.least l - 1) hg (by omega)
    rw [show p.least l - 1 + 1 = p.least l by omega] at e7
    omega

end Go.Proofs.Ytgpdckmbojmlpaa

namespace Go.Proofs.Ytgpdckmbojmlpaa
open Go.Abs
set_option linter.unusedVariables false
set_option linter.unusedSimpArgs false
set_option maxHeartbeats 4000000
set_option maxRecDepth 100000
-- aneroid/paper.Along
-- aneroid/paper.Across
-- aneroid/paper.Levels
-- aneroid/paper.Shrink
-- aneroid/aneroidref01.Levels
-- aneroid/aneroidref01.arcs
def c125 : CF := ⟨28,
 (.seq (.ops [
 ⟨(some 2), .box false 25 10 (.t 0), none⟩,
 ⟨(some 3), .box false 23 2 (.t 1), none⟩,
 ⟨(some 4), .alloc 23 2 [.int .i64 0, .int .i64 0], none⟩] [2, 3, 4])
 (.seq (.ops [
 ⟨(some 6), .faddr 0 (.t 3), none⟩,
 ⟨(some 7), .load none (.t 6), none⟩,
 ⟨(some 8), .faddr 1 (.t 3), none⟩,
 ⟨(some 9), .load none (.t 8), none⟩,
 ⟨(some 10), .faddr 1 (.t 2), none⟩,
 ⟨(some 11), .load none (.t 10), none⟩,
 ⟨(some 12), .bin .quo (.t 11) (.c (.int .i64 2)), none⟩,
 ⟨(some 13), .mnx false (.t 9) (.t 12), none⟩,
 ⟨(some 14), .mnx true (.t 7) (.t 13), none⟩,
 ⟨(some 5), .mv (.t 14), none⟩] [2, 3, 4, 5])
 (.seq (.draw [
 ⟨(some 15), .load (some 10) (.t 2), none⟩,
 ⟨(some 16), .faddr 0 (.t 3), none⟩,
 ⟨(some 17), .load none (.t 16), none⟩,
 ⟨(some 18), .call (.f 77) [(.t 15), (.t 17)], none⟩,
 ⟨(some 19), .load (some 10) (.t 2), none⟩,
 ⟨(some 20), .faddr 1 (.t 3), none⟩,
 ⟨(some 21), .load none (.t 20), none⟩,
 ⟨(some 22), .call (.f 77) [(.t 19), (.t 21)], none⟩,
 ⟨(some 23), .mnx false (.t 18) (.t 22), none⟩,
 ⟨(some 24), .load (some 10) (.t 2), none⟩,
 ⟨(some 25), .mv (.t 5), none⟩,
 ⟨(some 26), .call (.f 77) [(.t 24), (.t 25)], none⟩,
 ⟨(some 27), .build [.int .i64 0, .int .i64 0] [(0, 1, (.t 23)), (1, 1, (.t 26))], none⟩] [
 ⟨none, .store 2 (.t 4) (.t 27), none⟩] [4])
 .ret))),
 [.c 4 (some 2)]⟩
-- aneroid/aneroidref01.columns
def c91 : CF := ⟨49,
 (.seq (.ops [
 ⟨(some 2), .box false 25 10 (.t 0), none⟩,
 ⟨(some 3), .box false 32 3 (.t 1), none⟩,
 ⟨(some 4), .alloc 23 2 [.int .i64 0, .int .i64 0], none⟩] [2, 3, 4])
 (.seq (.ops [
 ⟨(some 8), .faddr 0 (.t 3), none⟩,
 ⟨(some 9), .load none (.t 8), none⟩,
 ⟨(some 10), .faddr 2 (.t 3), none⟩,
 ⟨(some 11), .load none (.t 10), none⟩,
 ⟨(some 12), .faddr 6 (.t 2), none⟩,
 ⟨(some 13), .load (some 2) (.t 12), none⟩,
 ⟨(some 14), .call (.f 90) [(.t 9), (.t 11), (.t 13)], none⟩,
 ⟨(some 5), .alloc 23 2 [.int .i64 0, .int .i64 0], none⟩,
 ⟨none, .store 2 (.t 5) (.t 14), none⟩] [2, 3, 4, 5])
 (.seq (.ops [
 ⟨(some 15), .load (some 10) (.t 2), none⟩,
 ⟨(some 16), .load (some 3) (.t 3), none⟩,
 ⟨(some 17), .call (.f 93) [(.t 15), (.t 16)], none⟩,
 ⟨(some 6), .alloc 23 2 [.int .i64 0, .int .i64 0], none⟩,
 ⟨none, .store 2 (.t 6) (.t 17), none⟩] [2, 4, 5, 6])
 (.seq (.seq (.ops [
 ⟨(some 18), .faddr 0 (.t 6), none⟩,
 ⟨(some 19), .load none (.t 18), none⟩,
 ⟨(some 20), .faddr 1 (.t 6), none⟩,
 ⟨(some 21), .load none (.t 20), none⟩,
 ⟨(some 22), .bin .gtr (.t 19) (.t 21), none⟩] [2, 4, 5, 6, 22])
 (.cond (.t 22) (.seq (.ops [
 ⟨(some 23), .build [.int .i64 0, .int .i64 0] [(0, 1, (.c (.int .i64 1))), (1, 1, (.c (.int .i64 0)))], none⟩,
 ⟨none, .store 2 (.t 4) (.t 23), none⟩] [4])
 .ret)
 .skip))
 (.seq (.ops [
 ⟨(some 24), .load (some 10) (.t 2), none⟩,
 ⟨(some 25), .load (some 2) (.t 6), none⟩,
 ⟨(some 26), .call (.f 125) [(.t 24), (.t 25)], none⟩,
 ⟨(some 7), .alloc 23 2 [.int .i64 0, .int .i64 0], none⟩,
 ⟨none, .store 2 (.t 7) (.t 26), none⟩] [2, 4, 5, 7])
 (.seq (.draw [
 ⟨(some 27), .faddr 0 (.t 5), none⟩,
 ⟨(some 28), .load none (.t 27), none⟩,
 ⟨(some 29), .faddr 1 (.t 7), none⟩,
 ⟨(some 30), .load none (.t 29), none⟩,
 ⟨(some 31), .bin .sub (.t 28) (.t 30), none⟩,
 ⟨(some 32), .faddr 0 (.t 2), none⟩,
 ⟨(some 33), .load none (.t 32), none⟩,
 ⟨(some 34), .call (.f 84) [(.t 31), (.t 33)], none⟩,
 ⟨(some 35), .mnx true (.c (.int .i64 0)) (.t 34), none⟩,
 ⟨(some 36), .faddr 5 (.t 2), none⟩,
 ⟨(some 37), .load none (.t 36), none⟩,
 ⟨(some 38), .bin .sub (.t 37) (.c (.int .i64 1)), none⟩,
 ⟨(some 39), .faddr 1 (.t 5), none⟩,
 ⟨(some 40), .load none (.t 39), none⟩,
 ⟨(some 41), .faddr 0 (.t 7), none⟩,
 ⟨(some 42), .load none (.t 41), none⟩,
 ⟨(some 43), .bin .sub (.t 40) (.t 42), none⟩,
 ⟨(some 44), .faddr 0 (.t 2), none⟩,
 ⟨(some 45), .load none (.t 44), none⟩,
 ⟨(some 46), .call (.f 84) [(.t 43), (.t 45)], none⟩,
 ⟨(some 47), .mnx false (.t 38) (.t 46), none⟩,
 ⟨(some 48), .build [.int .i64 0, .int .i64 0] [(0, 1, (.t 35)), (1, 1, (.t 47))], none⟩] [
 ⟨none, .store 2 (.t 4) (.t 48), none⟩] [4])
 .ret)))))),
 [.c 4 (some 2)]⟩
-- aneroid/aneroidref01.Columns
-- aneroid/aneroidref01.Shrink
-- aneroid/aneroidref01.known
-- aneroid/aneroidref01.Calibrate
theorem k125 : chkF Try.prog Try.f125 c125 = true := by kernel_rfl
theorem k91 : chkF Try.prog Try.f91 c91 = true := by kernel_rfl
theorem Pp.good.al {p : Pp} (h : p.good) : p.al.ok := h.2.2.2.2.2.2.2.2.2.2.2.1
theorem Pp.good.cl {p : Pp} (h : p.good) : p.cl.ok := h.2.2.2.2.2.2.2.2.2.2.2.2

def Pp.Al (p : Pp) (t : Pt) : Sp × Int := if p.perr1 t = 0 then (p.along t, 0) else (⟨0, 0⟩, p.perr1 t)
theorem along_bd (p : Pp) (t : Pt) (hg : p.good) (ht : t.right) : 0 ≤ (p.along t).lo ∧ (p.along t).lo ≤ 405000000 ∧ 0 ≤ (p.along t).hi ∧ (p.along t).hi ≤ 405000000 :=
  places_bd p.al t.x t.h hg.al ⟨ht.1, ht.2.1⟩ ⟨ht.2.2.2.2.1, ht.2.2.2.2.2⟩
theorem across_bd (p : Pp) (t : Pt) (hg : p.good) (ht : t.right) : 0 ≤ (p.across t).lo ∧ (p.across t).lo ≤ 405000000 ∧ 0 ≤ (p.across t).hi ∧ (p.across t).hi ≤ 405000000 :=
  places_bd p.cl t.y t.h hg.cl ⟨ht.2.2.1, ht.2.2.2.1⟩ ⟨ht.2.2.2.2.1, ht.2.2.2.2.2⟩
theorem heights_bd (p : Pp) (t : Pt) (hg : p.good) (ht : t.right) : 0 ≤ (p.heights t).lo ∧ (p.heights t).lo ≤ 405000000 ∧ 0 ≤ (p.heights t).hi ∧ (p.heights t).hi ≤ p.he := by
  have h := across_bd p t hg ht
  have := hg.2.2.1
  simp only [Pp.heights]
  omega

/-- The least and the greatest arc of a span of heights. -/
def Pp.arcs (p : Pp) (s : Sp) : Sp := ⟨min (p.arc s.lo) (p.arc s.hi), p.arc (max s.lo (min s.hi (p.he / 2)))⟩

theorem rarcs_spec (p : Pp) (s : Sp) (hg : p.good) (h0 : 0 ≤ s.lo) (h1 : s.lo ≤ s.hi) (h2 : s.hi ≤ p.he) : Pure Try.prog 125 [.agg p.cs, .agg s.cs] (.agg (p.arcs s).cs) := by
  refine Pure.of_body Try.call125 Try.func125 k125 (Nat.le_of_ble_eq_true rfl) ?_
  have hhe := hg.2.2.2.1
  have hm : p.he.tdiv 2 = p.he / 2 := Int.tdiv_eq_ediv_of_nonneg (by omega)
  unfold c125
  (repeat' first
 | (refine AWPC.of_vcn rfl ?_; simp only [zT, zV, zS, zU, vcC, lateX, ex, strp, cnd, binA, kseq, kblk, kret, klp, Abs.one, elems, cells, scalar, eqC, Nat.reduceBEq, Nat.reduceAdd, Nat.reduceSub, Nat.reduceLT, Nat.reduceLeDiff, Nat.reduceMul, Nat.reduceEqDiff, cond_true, cond_false, if_true, if_false, reduceIte, implies_true, forall_const, ne_eq, hm])
 | (simp (disch := omega) only [wr64, Int.zero_sub]; try simp only [zT, zV, zS, zU, vcC, lateX, ex, strp, cnd, binA, kseq, kblk, kret, klp, Abs.one, elems, cells, scalar, eqC, Nat.reduceBEq, Nat.reduceAdd, Nat.reduceSub, Nat.reduceLT, Nat.reduceLeDiff, Nat.reduceMul, Nat.reduceEqDiff, cond_true, cond_false, if_true, if_false, reduceIte, implies_true, forall_const, ne_eq, hm])
 | (refine AWPC.both (fun _ => ?_) (fun _ => ?_))
 | (refine AWPC.imp (fun _ => ?_))
 | ((repeat (refine And.intro (by (intros; first | omega | (simp_all (config := { decide := false }); done) | fail)) ?_)); (first
 | (refine .inl ⟨_, _, _, _, rfl, fun _hc => ⟨by simp, rarc_spec p _ hg (by omega) (by omega)⟩, ?_⟩)
 | (refine ⟨_, _, _, _, rfl, fun _hc => ⟨by simp, rarc_spec p _ hg (by omega) (by omega)⟩, ?_⟩)
 | fail); (first | refine owp_of_exs ?_ | refine pre_of_exd ?_ | refine pre_of_exe ?_ | fail); simp only [zT, zV, zS, zU, vcC, lateX, ex, strp, cnd, binA, kseq, kblk, kret, klp, Abs.one, elems, cells, scalar, eqC, Nat.reduceBEq, Nat.reduceAdd, Nat.reduceSub, Nat.reduceLT, Nat.reduceLeDiff, Nat.reduceMul, Nat.reduceEqDiff, cond_true, cond_false, if_true, if_false, reduceIte, implies_true, forall_const, ne_eq, hm])
 | ((refine .inl ⟨_, _, _, .any, rfl, fun h => absurd h Bool.false_ne_true, ?_⟩); refine owp_of_exs ?_; simp only [zT, zV, zS, zU, vcC, lateX, ex, strp, cnd, binA, kseq, kblk, kret, klp, Abs.one, elems, cells, scalar, eqC, Nat.reduceBEq, Nat.reduceAdd, Nat.reduceSub, Nat.reduceLT, Nat.reduceLeDiff, Nat.reduceMul, Nat.reduceEqDiff, cond_true, cond_false, if_true, if_false, reduceIte, implies_true, forall_const, ne_eq, hm])
 | (refine ⟨by omega, ?_⟩)
 | (refine And.intro (by (intros; first | (simp_all (config := { decide := false }); done) | fail)) ?_)
 | fail)
  exact Frz.eq rfl (by simp)

theorem arcs_bd (p : Pp) (s : Sp) (hg : p.good) (h0 : 0 ≤ s.lo) (h1 : s.lo ≤ s.hi) (h2 : s.hi ≤ p.he) : 0 ≤ (p.arcs s).lo ∧ (p.arcs s).lo ≤ 160000000000 ∧ 0 ≤ (p.arcs s).hi ∧ (p.arcs s).hi ≤ 160000000000 := by
  have a := arc_bd p s.lo hg h0 (by omega)
  have b := arc_bd p s.hi hg (by omega) h2
  have c := arc_bd p (max s.lo (min s.hi (p.he / 2))) hg (by omega) (by omega)
  simp only [Pp.arcs]
  omega

/-- The columns of a point by the ends of its arcs; the first greater than the second: there are none. -/
def Pp.rcols (p : Pp) (t : Pt) : Sp :=
  if (p.heights t).hi < (p.heights t).lo then ⟨1, 0⟩ else ⟨max 0 (((p.along t).lo - (p.arcs (p.heights t)).hi) / p.pi), min (p.co - 1) (((p.along t).hi - (p.arcs (p.heights t)).lo) / p.pi)⟩

theorem rcolumns_spec (p : Pp) (t : Pt) (hg : p.good) (ht : t.right) : Pure Try.prog 91 [.agg p.cs, .agg t.cs] (.agg (p.rcols t).cs) := by
  refine Pure.of_body Try.call91 Try.func91 k91 (Nat.le_of_ble_eq_true rfl) ?_
  have hb := heights_bd p t hg ht
  have ha := along_bd p t hg ht
  have hA := arcs_bd p (p.heights t) hg hb.1
  have hpl := rplaces_spec t.x t.h p.al hg.al ⟨ht.1, ht.2.1⟩ ⟨ht.2.2.2.2.1, ht.2.2.2.2.2⟩
  change Pure _ _ _ (.agg (p.along t).cs) at hpl
  have hg' := hg
  obtain ⟨g1, g2, g3, g4, g5, g6, g7, g8, g9, g10, g11, g12, g13⟩ := hg'
  unfold c91
  (repeat' first
 | (refine AWPC.of_vcn rfl ?_; simp only [zT, zV, zS, zU, vcC, lateX, ex, strp, cnd, binA, kseq, kblk, kret, klp, Abs.one, elems, cells, scalar, eqC, Nat.reduceBEq, Nat.reduceAdd, Nat.reduceSub, Nat.reduceLT, Nat.reduceLeDiff, Nat.reduceMul, Nat.reduceEqDiff, cond_true, cond_false, if_true, if_false, reduceIte, implies_true, forall_const, ne_eq])
 | (simp (disch := omega) only [wr64, Int.zero_sub]; try simp only [zT, zV, zS, zU, vcC, lateX, ex, strp, cnd, binA, kseq, kblk, kret, klp, Abs.one, elems, cells, scalar, eqC, Nat.reduceBEq, Nat.reduceAdd, Nat.reduceSub, Nat.reduceLT, Nat.reduceLeDiff, Nat.reduceMul, Nat.reduceEqDiff, cond_true, cond_false, if_true, if_false, reduceIte, implies_true, forall_const, ne_eq])
 | (refine AWPC.both (fun _ => ?_) (fun _ => ?_))
 | (refine AWPC.imp (fun _ => ?_))
 | ((repeat (refine And.intro (by (intros; first | omega | (simp_all (config := { decide := false }); done) | fail)) ?_)); (first
 | (refine .inl ⟨_, _, _, _, rfl, fun _hc => ⟨by simp, hpl⟩, ?_⟩)
 | (refine .inl ⟨_, _, _, _, rfl, fun _hc => ⟨by simp, rheights_spec p t hg ht⟩, ?_⟩)
 | (refine .inl ⟨_, _, _, _, rfl, fun _hc => ⟨by simp, rarcs_spec p (p.heights t) hg (by omega) (by omega) (by omega)⟩, ?_⟩)
 | (refine .inl ⟨_, _, _, _, rfl, fun _hc => ⟨by simp, rfloor_spec _ _ (by omega) (by omega) (by omega) (by omega)⟩, ?_⟩)
 | (refine ⟨_, _, _, _, rfl, fun _hc => ⟨by simp, hpl⟩, ?_⟩)
 | (refine ⟨_, _, _, _, rfl, fun _hc => ⟨by simp, rheights_spec p t hg ht⟩, ?_⟩)
 | (refine ⟨_, _, _, _, rfl, fun _hc => ⟨by simp, rarcs_spec p (p.heights t) hg (by omega) (by omega) (by omega)⟩, ?_⟩)
 | (refine ⟨_, _, _, _, rfl, fun _hc => ⟨by simp, rfloor_spec _ _ (by omega) (by omega) (by omega) (by omega)⟩, ?_⟩)
 | fail); (first | refine owp_of_exs ?_ | refine pre_of_exd ?_ | refine pre_of_exe ?_ | fail); simp only [zT, zV, zS, zU, vcC, lateX, ex, strp, cnd, binA, kseq, kblk, kret, klp, Abs.one, elems, cells, scalar, eqC, Nat.reduceBEq, Nat.reduceAdd, Nat.reduceSub, Nat.reduceLT, Nat.reduceLeDiff, Nat.reduceMul, Nat.reduceEqDiff, cond_true, cond_false, if_true, if_false, reduceIte, implies_true, forall_const, ne_eq])
 | ((refine .inl ⟨_, _, _, .any, rfl, fun h => absurd h Bool.false_ne_true, ?_⟩); refine owp_of_exs ?_; simp only [zT, zV, zS, zU, vcC, lateX, ex, strp, cnd, binA, kseq, kblk, kret, klp, Abs.one, elems, cells, scalar, eqC, Nat.reduceBEq, Nat.reduceAdd, Nat.reduceSub, Nat.reduceLT, Nat.reduceLeDiff, Nat.reduceMul, Nat.reduceEqDiff, cond_true, cond_false, if_true, if_false, reduceIte, implies_true, forall_const, ne_eq])
 | (refine ⟨by omega, ?_⟩)
 | (refine And.intro (by (intros; first | (simp_all (config := { decide := false }); done) | fail)) ?_)
 | fail)
  · rename_i h; refine Frz.eq ?_ (by simp); simp [Pp.rcols, h]
  · rename_i h; refine Frz.eq ?_ (by simp); simp [Pp.rcols, h]

end Go.Proofs.Ytgpdckmbojmlpaa

namespace Go.Proofs.Ytgpdckmbojmlpaa
open Go.Abs
set_option linter.unusedVariables false
set_option linter.unusedSimpArgs false
set_option maxHeartbeats 4000000
set_option maxRecDepth 100000
-- aneroid/aneroidref01.first
def c132 : CF := ⟨27,
 (.seq (.ops [
 ⟨(some 4), .box false 25 10 (.t 0), none⟩,
 ⟨(some 8), .mv (.c (.int .i64 0)), none⟩] [1, 2, 3, 4])
 (.seq (.block 0 (.loop (.seq (.seq (.ops [
 ⟨(some 10), .mv (.t 1), none⟩,
 ⟨(some 11), .mv (.t 2), none⟩,
 ⟨(some 12), .bin .leq (.t 10) (.t 11), none⟩] [1, 2, 3, 4, 12])
 (.cond (.t 12) .skip
 (.exit 0)))
 (.block 1 (.seq (.ops [
 ⟨(some 13), .mv (.t 1), none⟩,
 ⟨(some 14), .mv (.t 2), none⟩,
 ⟨(some 15), .bin .add (.t 13) (.t 14), none⟩,
 ⟨(some 16), .bin .quo (.t 15) (.c (.int .i64 2)), none⟩,
 ⟨(some 9), .mv (.t 16), none⟩] [1, 2, 3, 4, 9])
 (.seq (.ops [
 ⟨(some 17), .load (some 10) (.t 4), none⟩,
 ⟨(some 18), .mv (.t 9), none⟩,
 ⟨(some 19), .call (.f 77) [(.t 17), (.t 18)], none⟩,
 ⟨(some 20), .mv (.t 3), none⟩,
 ⟨(some 21), .bin .geq (.t 19) (.t 20), none⟩] [1, 2, 3, 4, 9, 21])
 (.cond (.t 21) (.ops [
 ⟨(some 22), .mv (.t 9), none⟩,
 ⟨(some 23), .bin .sub (.t 22) (.c (.int .i64 1)), none⟩,
 ⟨(some 2), .mv (.t 23), none⟩] [1, 2, 3, 4])
 (.ops [
 ⟨(some 24), .mv (.t 9), none⟩,
 ⟨(some 25), .bin .add (.t 24) (.c (.int .i64 1)), none⟩,
 ⟨(some 1), .mv (.t 25), none⟩] [1, 2, 3, 4]))))))))
 (.seq (.ops [
 ⟨(some 26), .mv (.t 1), none⟩,
 ⟨(some 8), .mv (.t 26), none⟩] [8])
 .ret))),
 [.t 8]⟩
-- aneroid/aneroidref01.ring
def c122 : CF := ⟨26,
 (.seq (.ops [
 ⟨(some 3), .box false 25 10 (.t 0), none⟩,
 ⟨(some 4), .box false 23 2 (.t 1), none⟩,
 ⟨(some 5), .box false 23 2 (.t 2), none⟩,
 ⟨(some 6), .alloc 23 2 [.int .i64 0, .int .i64 0], none⟩] [3, 4, 5, 6])
 (.seq (.draw [
 ⟨(some 7), .load (some 10) (.t 3), none⟩,
 ⟨(some 8), .faddr 0 (.t 4), none⟩,
 ⟨(some 9), .load none (.t 8), none⟩,
 ⟨(some 10), .faddr 1 (.t 4), none⟩,
 ⟨(some 11), .load none (.t 10), none⟩,
 ⟨(some 12), .faddr 0 (.t 5), none⟩,
 ⟨(some 13), .load none (.t 12), none⟩,
 ⟨(some 14), .call (.f 132) [(.t 7), (.t 9), (.t 11), (.t 13)], none⟩,
 ⟨(some 15), .load (some 10) (.t 3), none⟩,
 ⟨(some 16), .faddr 0 (.t 4), none⟩,
 ⟨(some 17), .load none (.t 16), none⟩,
 ⟨(some 18), .faddr 1 (.t 4), none⟩,
 ⟨(some 19), .load none (.t 18), none⟩,
 ⟨(some 20), .faddr 1 (.t 5), none⟩,
 ⟨(some 21), .load none (.t 20), none⟩,
 ⟨(some 22), .bin .add (.t 21) (.c (.int .i64 1)), none⟩,
 ⟨(some 23), .call (.f 132) [(.t 15), (.t 17), (.t 19), (.t 22)], none⟩,
 ⟨(some 24), .bin .sub (.t 23) (.c (.int .i64 1)), none⟩,
 ⟨(some 25), .build [.int .i64 0, .int .i64 0] [(0, 1, (.t 14)), (1, 1, (.t 24))], none⟩] [
 ⟨none, .store 2 (.t 6) (.t 25), none⟩] [6])
 .ret)),
 [.c 6 (some 2)]⟩
-- aneroid/aneroidref01.turned
def c123 : CF := ⟨16,
 (.seq (.ops [
 ⟨(some 2), .box false 25 10 (.t 0), none⟩,
 ⟨(some 3), .box false 23 2 (.t 1), none⟩,
 ⟨(some 4), .alloc 23 2 [.int .i64 0, .int .i64 0], none⟩] [2, 3, 4])
 (.seq (.ops [
 ⟨(some 5), .faddr 1 (.t 2), none⟩,
 ⟨(some 6), .load none (.t 5), none⟩,
 ⟨(some 7), .faddr 1 (.t 3), none⟩,
 ⟨(some 8), .load none (.t 7), none⟩,
 ⟨(some 9), .bin .sub (.t 6) (.t 8), none⟩,
 ⟨(some 10), .faddr 1 (.t 2), none⟩,
 ⟨(some 11), .load none (.t 10), none⟩,
 ⟨(some 12), .faddr 0 (.t 3), none⟩,
 ⟨(some 13), .load none (.t 12), none⟩,
 ⟨(some 14), .bin .sub (.t 11) (.t 13), none⟩,
 ⟨(some 15), .build [.int .i64 0, .int .i64 0] [(0, 1, (.t 9)), (1, 1, (.t 14))], none⟩,
 ⟨none, .store 2 (.t 4) (.t 15), none⟩] [4])
 .ret)),
 [.c 4 (some 2)]⟩
-- aneroid/aneroidref01.Join
def c105 : CF := ⟨82,
 (.seq (.ops [
 ⟨(some 3), .box true 23 2 (.t 1), none⟩,
 ⟨(some 4), .mv (.c (.slice none 0 0)), none⟩] [0, 3])
 (.seq (.seq (.ops [
 ⟨(some 8), .faddr 0 (.t 3), none⟩,
 ⟨(some 9), .load none (.t 8), none⟩,
 ⟨(some 10), .faddr 1 (.t 3), none⟩,
 ⟨(some 11), .load none (.t 10), none⟩,
 ⟨(some 12), .bin .gtr (.t 9) (.t 11), none⟩] [0, 3, 12])
 (.cond (.t 12) (.seq (.ops [
 ⟨(some 13), .mv (.t 0), none⟩,
 ⟨(some 4), .mv (.t 13), none⟩] [4])
 .ret)
 .skip))
 (.seq (.ops [
 ⟨(some 5), .mv (.c (.slice none 0 0)), none⟩] [0, 3, 5])
 (.seq (.ops [
 ⟨(some 6), .mv (.c (.bool false)), none⟩] [0, 3, 5, 6])
 (.seq (.seq (.ops [
 ⟨(some 7), .mv (.c (.int .i64 0)), none⟩] [0, 3, 5, 6, 7])
 (.block 0 (.loop (.seq (.seq (.ops [
 ⟨(some 14), .mv (.t 7), none⟩,
 ⟨(some 15), .mv (.t 0), none⟩,
 ⟨(some 16), .len (.t 15), none⟩,
 ⟨(some 17), .bin .lss (.t 14) (.t 16), none⟩] [0, 3, 5, 6, 7, 17])
 (.cond (.t 17) .skip
 (.exit 0)))
 (.seq (.block 1 (.seq (.seq (.draw [
 ⟨(some 20), .mv (.t 0), none⟩,
 ⟨(some 21), .mv (.t 7), none⟩,
 ⟨(some 22), .iaddr 2 (.t 20) (.t 21), none⟩,
 ⟨(some 23), .faddr 1 (.t 22), none⟩,
 ⟨(some 24), .load none (.t 23), none⟩,
 ⟨(some 25), .bin .add (.t 24) (.c (.int .i64 1)), none⟩,
 ⟨(some 26), .faddr 0 (.t 3), none⟩,
 ⟨(some 27), .load none (.t 26), none⟩,
 ⟨(some 28), .bin .lss (.t 25) (.t 27), none⟩] [
 ] [0, 3, 5, 6, 7, 28])
 (.cond (.t 28) (.seq (.ops [
 ⟨(some 29), .mv (.t 5), none⟩,
 ⟨(some 30), .mv (.t 0), none⟩,
 ⟨(some 31), .mv (.t 7), none⟩,
 ⟨(some 32), .iaddr 2 (.t 30) (.t 31), none⟩,
 ⟨(some 33), .load (some 2) (.t 32), none⟩,
 ⟨(some 34), .bsl false 23 2 1 [.int .i64 0, .int .i64 0] [(0, 2, (.t 33))], none⟩,
 ⟨(some 35), .app 23 2 16 (.t 29) (.t 34), none⟩,
 ⟨(some 5), .mv (.t 35), none⟩] [0, 3, 5, 6, 7])
 (.exit 1))
 .skip))
 (.seq (.seq (.draw [
 ⟨(some 36), .faddr 1 (.t 3), none⟩,
 ⟨(some 37), .load none (.t 36), none⟩,
 ⟨(some 38), .bin .add (.t 37) (.c (.int .i64 1)), none⟩,
 ⟨(some 39), .mv (.t 0), none⟩,
 ⟨(some 40), .mv (.t 7), none⟩,
 ⟨(some 41), .iaddr 2 (.t 39) (.t 40), none⟩,
 ⟨(some 42), .faddr 0 (.t 41), none⟩,
 ⟨(some 43), .load none (.t 42), none⟩,
 ⟨(some 44), .bin .lss (.t 38) (.t 43), none⟩] [
 ] [0, 3, 5, 6, 7, 44])
 (.cond (.t 44) (.seq (.seq (.ops [
 ⟨(some 45), .mv (.t 6), none⟩,
 ⟨(some 46), .un .not (.t 45), none⟩] [0, 3, 5, 7, 46])
 (.cond (.t 46) (.ops [
 ⟨(some 47), .mv (.t 5), none⟩,
 ⟨(some 48), .load (some 2) (.t 3), none⟩,
 ⟨(some 49), .bsl false 23 2 1 [.int .i64 0, .int .i64 0] [(0, 2, (.t 48))], none⟩,
 ⟨(some 50), .app 23 2 16 (.t 47) (.t 49), none⟩,
 ⟨(some 5), .mv (.t 50), none⟩] [0, 3, 5, 7])
 .skip))
 (.seq (.ops [
 ⟨(some 6), .mv (.c (.bool true)), none⟩] [0, 3, 5, 6, 7])
 (.seq (.ops [
 ⟨(some 51), .mv (.t 5), none⟩,
 ⟨(some 52), .mv (.t 0), none⟩,
 ⟨(some 53), .mv (.t 7), none⟩,
 ⟨(some 54), .iaddr 2 (.t 52) (.t 53), none⟩,
 ⟨(some 55), .load (some 2) (.t 54), none⟩,
 ⟨(some 56), .bsl false 23 2 1 [.int .i64 0, .int .i64 0] [(0, 2, (.t 55))], none⟩,
 ⟨(some 57), .app 23 2 16 (.t 51) (.t 56), none⟩,
 ⟨(some 5), .mv (.t 57), none⟩] [0, 3, 5, 6, 7])
 (.exit 1))))
 .skip))
 (.draw [
 ⟨(some 58), .faddr 0 (.t 3), none⟩,
 ⟨(some 59), .load none (.t 58), none⟩,
 ⟨(some 60), .mv (.t 0), none⟩,
 ⟨(some 61), .mv (.t 7), none⟩,
 ⟨(some 62), .iaddr 2 (.t 60) (.t 61), none⟩,
 ⟨(some 63), .faddr 0 (.t 62), none⟩,
 ⟨(some 64), .load none (.t 63), none⟩,
 ⟨(some 65), .mnx false (.t 59) (.t 64), none⟩,
 ⟨(some 66), .faddr 1 (.t 3), none⟩,
 ⟨(some 67), .load none (.t 66), none⟩,
 ⟨(some 68), .mv (.t 0), none⟩,
 ⟨(some 69), .mv (.t 7), none⟩,
 ⟨(some 70), .iaddr 2 (.t 68) (.t 69), none⟩,
 ⟨(some 71), .faddr 1 (.t 70), none⟩,
 ⟨(some 72), .load none (.t 71), none⟩,
 ⟨(some 73), .mnx true (.t 67) (.t 72), none⟩,
 ⟨(some 74), .build [.int .i64 0, .int .i64 0] [(0, 1, (.t 65)), (1, 1, (.t 73))], none⟩] [
 ⟨none, .store 2 (.t 3) (.t 74), none⟩] [0, 3, 5, 6, 7]))))
 (.ops [
 ⟨(some 18), .mv (.t 7), none⟩,
 ⟨(some 19), .bin .add (.t 18) (.c (.int .i64 1)), none⟩,
 ⟨(some 7), .mv (.t 19), none⟩] [0, 3, 5, 6, 7]))))))
 (.seq (.seq (.ops [
 ⟨(some 75), .mv (.t 6), none⟩,
 ⟨(some 76), .un .not (.t 75), none⟩] [3, 5, 76])
 (.cond (.t 76) (.ops [
 ⟨(some 77), .mv (.t 5), none⟩,
 ⟨(some 78), .load (some 2) (.t 3), none⟩,
 ⟨(some 79), .bsl false 23 2 1 [.int .i64 0, .int .i64 0] [(0, 2, (.t 78))], none⟩,
 ⟨(some 80), .app 23 2 16 (.t 77) (.t 79), none⟩,
 ⟨(some 5), .mv (.t 80), none⟩] [5])
 .skip))
 (.seq (.ops [
 ⟨(some 81), .mv (.t 5), none⟩,
 ⟨(some 4), .mv (.t 81), none⟩] [4])
 .ret))))))),
 [.t 4]⟩
-- aneroid/aneroidref01.means
def c82 : CF := ⟨102,
 (.seq (.ops [
 ⟨(some 3), .box false 25 10 (.t 0), none⟩,
 ⟨(some 4), .box false 32 3 (.t 1), none⟩,
 ⟨(some 6), .mv (.c (.slice none 0 0)), none⟩] [2, 3, 4])
 (.seq (.ops [
 ⟨(some 14), .faddr 0 (.t 4), none⟩,
 ⟨(some 15), .load none (.t 14), none⟩,
 ⟨(some 16), .faddr 2 (.t 4), none⟩,
 ⟨(some 17), .load none (.t 16), none⟩,
 ⟨(some 18), .faddr 6 (.t 3), none⟩,
 ⟨(some 19), .load (some 2) (.t 18), none⟩,
 ⟨(some 20), .call (.f 90) [(.t 15), (.t 17), (.t 19)], none⟩,
 ⟨(some 7), .alloc 23 2 [.int .i64 0, .int .i64 0], none⟩,
 ⟨none, .store 2 (.t 7) (.t 20), none⟩] [2, 3, 4, 7])
 (.seq (.ops [
 ⟨(some 21), .load (some 10) (.t 3), none⟩,
 ⟨(some 22), .load (some 3) (.t 4), none⟩,
 ⟨(some 23), .call (.f 93) [(.t 21), (.t 22)], none⟩,
 ⟨(some 8), .alloc 23 2 [.int .i64 0, .int .i64 0], none⟩,
 ⟨none, .store 2 (.t 8) (.t 23), none⟩] [2, 3, 7, 8])
 (.seq (.ops [
 ⟨(some 24), .faddr 0 (.t 7), none⟩,
 ⟨(some 25), .load none (.t 24), none⟩,
 ⟨(some 26), .mv (.t 2), none⟩,
 ⟨(some 27), .bin .add (.t 26) (.c (.int .i64 1)), none⟩,
 ⟨(some 28), .faddr 0 (.t 3), none⟩,
 ⟨(some 29), .load none (.t 28), none⟩,
 ⟨(some 30), .bin .mul (.t 27) (.t 29), none⟩,
 ⟨(some 31), .bin .sub (.t 25) (.t 30), none⟩,
 ⟨(some 32), .bin .add (.t 31) (.c (.int .i64 1)), none⟩,
 ⟨(some 33), .faddr 1 (.t 7), none⟩,
 ⟨(some 34), .load none (.t 33), none⟩,
 ⟨(some 35), .mv (.t 2), none⟩,
 ⟨(some 36), .faddr 0 (.t 3), none⟩,
 ⟨(some 37), .load none (.t 36), none⟩,
 ⟨(some 38), .bin .mul (.t 35) (.t 37), none⟩,
 ⟨(some 39), .bin .sub (.t 34) (.t 38), none⟩,
 ⟨(some 40), .build [.int .i64 0, .int .i64 0] [(0, 1, (.t 32)), (1, 1, (.t 39))], none⟩,
 ⟨(some 9), .alloc 23 2 [.int .i64 0, .int .i64 0], none⟩,
 ⟨none, .store 2 (.t 9) (.t 40), none⟩] [3, 8, 9])
 (.seq (.ops [
 ⟨(some 41), .faddr 1 (.t 3), none⟩,
 ⟨(some 42), .load none (.t 41), none⟩,
 ⟨(some 43), .bin .quo (.t 42) (.c (.int .i64 2)), none⟩,
 ⟨(some 10), .mv (.t 43), none⟩] [3, 8, 9, 10])
 (.seq (.ops [
 ⟨(some 44), .load (some 10) (.t 3), none⟩,
 ⟨(some 45), .faddr 0 (.t 8), none⟩,
 ⟨(some 46), .load none (.t 45), none⟩,
 ⟨(some 47), .faddr 1 (.t 8), none⟩,
 ⟨(some 48), .load none (.t 47), none⟩,
 ⟨(some 49), .mv (.t 10), none⟩,
 ⟨(some 50), .mnx false (.t 48) (.t 49), none⟩,
 ⟨(some 51), .build [.int .i64 0, .int .i64 0] [(0, 1, (.t 46)), (1, 1, (.t 50))], none⟩,
 ⟨(some 52), .load (some 2) (.t 9), none⟩,
 ⟨(some 53), .call (.f 122) [(.t 44), (.t 51), (.t 52)], none⟩,
 ⟨(some 11), .alloc 23 2 [.int .i64 0, .int .i64 0], none⟩,
 ⟨none, .store 2 (.t 11) (.t 53), none⟩] [3, 8, 9, 10, 11])
 (.seq (.draw [
 ⟨(some 54), .load (some 10) (.t 3), none⟩,
 ⟨(some 55), .load (some 10) (.t 3), none⟩,
 ⟨(some 56), .load (some 10) (.t 3), none⟩,
 ⟨(some 57), .faddr 0 (.t 8), none⟩,
 ⟨(some 58), .load none (.t 57), none⟩,
 ⟨(some 59), .mv (.t 10), none⟩,
 ⟨(some 60), .bin .add (.t 59) (.c (.int .i64 1)), none⟩,
 ⟨(some 61), .mnx true (.t 58) (.t 60), none⟩,
 ⟨(some 62), .faddr 1 (.t 8), none⟩,
 ⟨(some 63), .load none (.t 62), none⟩,
 ⟨(some 64), .build [.int .i64 0, .int .i64 0] [(0, 1, (.t 61)), (1, 1, (.t 63))], none⟩,
 ⟨(some 65), .call (.f 123) [(.t 56), (.t 64)], none⟩,
 ⟨(some 66), .load (some 2) (.t 9), none⟩,
 ⟨(some 67), .call (.f 122) [(.t 55), (.t 65), (.t 66)], none⟩,
 ⟨(some 68), .call (.f 123) [(.t 54), (.t 67)], none⟩,
 ⟨(some 12), .alloc 23 2 [.int .i64 0, .int .i64 0], none⟩] [
 ⟨none, .store 2 (.t 12) (.t 68), none⟩] [3, 11, 12])
 (.seq (.ops [
 ⟨(some 13), .mv (.c (.slice none 0 0)), none⟩] [3, 11, 12, 13])
 (.seq (.seq (.ops [
 ⟨(some 69), .faddr 0 (.t 11), none⟩,
 ⟨(some 70), .load none (.t 69), none⟩,
 ⟨(some 71), .faddr 1 (.t 11), none⟩,
 ⟨(some 72), .load none (.t 71), none⟩,
 ⟨(some 73), .bin .leq (.t 70) (.t 72), none⟩] [3, 11, 12, 13, 73])
 (.cond (.t 73) (.draw [
 ⟨(some 74), .mv (.t 13), none⟩,
 ⟨(some 75), .load (some 10) (.t 3), none⟩,
 ⟨(some 76), .faddr 0 (.t 11), none⟩,
 ⟨(some 77), .load none (.t 76), none⟩,
 ⟨(some 78), .call (.f 78) [(.t 75), (.t 77)], none⟩,
 ⟨(some 79), .load (some 10) (.t 3), none⟩,
 ⟨(some 80), .faddr 1 (.t 11), none⟩,
 ⟨(some 81), .load none (.t 80), none⟩,
 ⟨(some 82), .call (.f 78) [(.t 79), (.t 81)], none⟩,
 ⟨(some 83), .build [.int .i64 0, .int .i64 0] [(0, 1, (.t 78)), (1, 1, (.t 82))], none⟩,
 ⟨(some 84), .call (.f 105) [(.t 74), (.t 83)], none⟩] [
 ⟨(some 13), .mv (.t 84), none⟩] [3, 12, 13])
 .skip))
 (.seq (.seq (.ops [
 ⟨(some 85), .faddr 0 (.t 12), none⟩,
 ⟨(some 86), .load none (.t 85), none⟩,
 ⟨(some 87), .faddr 1 (.t 12), none⟩,
 ⟨(some 88), .load none (.t 87), none⟩,
 ⟨(some 89), .bin .leq (.t 86) (.t 88), none⟩] [3, 12, 13, 89])
 (.cond (.t 89) (.draw [
 ⟨(some 90), .mv (.t 13), none⟩,
 ⟨(some 91), .load (some 10) (.t 3), none⟩,
 ⟨(some 92), .faddr 0 (.t 12), none⟩,
 ⟨(some 93), .load none (.t 92), none⟩,
 ⟨(some 94), .call (.f 78) [(.t 91), (.t 93)], none⟩,
 ⟨(some 95), .load (some 10) (.t 3), none⟩,
 ⟨(some 96), .faddr 1 (.t 12), none⟩,
 ⟨(some 97), .load none (.t 96), none⟩,
 ⟨(some 98), .call (.f 78) [(.t 95), (.t 97)], none⟩,
 ⟨(some 99), .build [.int .i64 0, .int .i64 0] [(0, 1, (.t 94)), (1, 1, (.t 98))], none⟩,
 ⟨(some 100), .call (.f 105) [(.t 90), (.t 99)], none⟩] [
 ⟨(some 13), .mv (.t 100), none⟩] [13])
 .skip))
 (.seq (.ops [
 ⟨(some 101), .mv (.t 13), none⟩,
 ⟨(some 6), .mv (.t 101), none⟩] [6])
 .ret))))))))))),
 [.t 6]⟩
-- aneroid/aneroidref01.Means
theorem k132 : chkF Try.prog Try.f132 c132 = true := by kernel_rfl
theorem k122 : chkF Try.prog Try.f122 c122 = true := by kernel_rfl
theorem k123 : chkF Try.prog Try.f123 c123 = true := by kernel_rfl
theorem k105 : chkF Try.prog Try.f105 c105 = true := by kernel_rfl
theorem k82 : chkF Try.prog Try.f82 c82 = true := by kernel_rfl
/-- The first height from a on, of a number of heights, at which the arc is at least k. -/
def Pp.firstN (p : Pp) (k : Int) : Int → Nat → Int
  | a, 0 => a
  | a, c + 1 => if k ≤ p.arc a then a else p.firstN k (a + 1) c

theorem firstN_spec (p : Pp) (k : Int) : ∀ (c : Nat) (a : Int), a ≤ p.firstN k a c ∧ p.firstN k a c ≤ a + c ∧ (∀ y, a ≤ y → y < p.firstN k a c → p.arc y < k) ∧ (p.firstN k a c < a + c → k ≤ p.arc (p.firstN k a c))
  | 0, a => ⟨by simp [Pp.firstN], by simp [Pp.firstN], fun y h1 h2 => by simp [Pp.firstN] at h2; omega, fun h => by simp [Pp.firstN] at h⟩
  | c + 1, a => by
    unfold Pp.firstN
    split
    · exact ⟨Int.le_refl _, by omega, fun y h1 h2 => by omega, fun _ => ‹_›⟩
    · obtain ⟨h1, h2, h3, h4⟩ := firstN_spec p k c (a + 1)
      refine ⟨by omega, by omega, fun y g1 g2 => ?_, fun h => h4 (by omega)⟩
      by_cases e : y = a
      · subst e; omega
      · exact h3 y (by omega) g2

def Pp.first (p : Pp) (lo hi k : Int) : Int := p.firstN k lo (hi + 1 - lo).toNat

theorem arc_mono (p : Pp) {y z : Int} (hg : p.good) (h0 : 0 ≤ y) (h : y ≤ z) (h1 : z ≤ p.he / 2) : p.arc y ≤ p.arc z := by
  obtain ⟨g1, g2, g3, g4, g5, g6, g7, g8, g9, g10, g11, g12, g13⟩ := hg
  rw [arc_ediv p y h0 (by omega), arc_ediv p z (by omega) (by omega)]
  split
  · omega
  · refine Int.ediv_le_ediv (by omega) ?_
    have key : z * (p.he - z) - y * (p.he - y) = (z - y) * (p.he - z - y) := by
      simp only [Int.mul_sub, Int.sub_mul]
      have e1 : y * z = z * y := Int.mul_comm _ _
      omega
    have := Int.mul_nonneg (show 0 ≤ z - y by omega) (show 0 ≤ p.he - z - y by omega)
    omega

/-- Where the arc does not fall: the first height. -/
theorem first_spec (p : Pp) {lo hi k : Int} (hg : p.good) (h0 : 0 ≤ lo) (h1 : lo ≤ hi + 1) (h2 : hi ≤ p.he / 2) : lo ≤ p.first lo hi k ∧ p.first lo hi k ≤ hi + 1 ∧ (∀ y, lo ≤ y → y < p.first lo hi k → p.arc y < k) ∧
    (∀ y, p.first lo hi k ≤ y → y ≤ hi → k ≤ p.arc y) := by
  obtain ⟨a1, a2, a3, a4⟩ := firstN_spec p k (hi + 1 - lo).toNat lo
  change lo ≤ p.first lo hi k at a1
  change p.first lo hi k ≤ _ at a2
  change p.first lo hi k < _ → k ≤ p.arc (p.first lo hi k) at a4
  refine ⟨a1, by omega, a3, fun y h3 h4 => ?_⟩
  have := a4 (by omega)
  have := arc_mono p hg (show 0 ≤ p.first lo hi k by omega) h3 (by omega)
  omega

theorem rfirst_spec (p : Pp) (lo hi k : Int) (hg : p.good) (h0 : 0 ≤ lo) (h1 : lo ≤ 1000000000) (h2 : hi ≤ p.he / 2) (hhi : -1000000000 ≤ hi) : Pure Try.prog 132 [.agg p.cs, n lo, n hi, n k] (n (if lo ≤ hi then p.first lo hi k else lo)) := by
  refine Pure.of_body Try.call132 Try.func132 k132 (Nat.le_of_ble_eq_true rfl) ?_
  have hg' := hg
  obtain ⟨g1, g2, g3, g4, g5, g6, g7, g8, g9, g10, g11, g12, g13⟩ := hg'
  unfold c132
  by_cases hle : lo ≤ hi
  · rw [if_pos hle]
    obtain ⟨f1, f2, f3, f4⟩ := first_spec p (k := k) hg h0 (show lo ≤ hi + 1 by omega) h2
    (repeat' first
 | (refine AWPC.of_vcn rfl ?_; simp only [zT, zV, zS, zU, vcC, lateX, ex, strp, cnd, binA, kseq, kblk, kret, klp, Abs.one, elems, cells, scalar, eqC, Nat.reduceBEq, Nat.reduceAdd, Nat.reduceSub, Nat.reduceLT, Nat.reduceLeDiff, Nat.reduceMul, Nat.reduceEqDiff, cond_true, cond_false, if_true, if_false, reduceIte, implies_true, forall_const, ne_eq])
 | (simp (disch := omega) only [wr64, Int.zero_sub]; try simp only [zT, zV, zS, zU, vcC, lateX, ex, strp, cnd, binA, kseq, kblk, kret, klp, Abs.one, elems, cells, scalar, eqC, Nat.reduceBEq, Nat.reduceAdd, Nat.reduceSub, Nat.reduceLT, Nat.reduceLeDiff, Nat.reduceMul, Nat.reduceEqDiff, cond_true, cond_false, if_true, if_false, reduceIte, implies_true, forall_const, ne_eq])
 | (refine AWPC.both (fun _ => ?_) (fun _ => ?_))
 | (refine AWPC.imp (fun _ => ?_))
 | ((refine .inl ⟨_, _, _, .any, rfl, fun h => absurd h Bool.false_ne_true, ?_⟩); refine owp_of_exs ?_; simp only [zT, zV, zS, zU, vcC, lateX, ex, strp, cnd, binA, kseq, kblk, kret, klp, Abs.one, elems, cells, scalar, eqC, Nat.reduceBEq, Nat.reduceAdd, Nat.reduceSub, Nat.reduceLT, Nat.reduceLeDiff, Nat.reduceMul, Nat.reduceEqDiff, cond_true, cond_false, if_true, if_false, reduceIte, implies_true, forall_const, ne_eq])
 | (refine ⟨by omega, ?_⟩)
 | (refine And.intro (by (intros; first | (simp_all (config := { decide := false }); done) | fail)) ?_)
 | fail)
    refine AWPC.loop (α := { x : Int × Int // lo ≤ x.1 ∧ x.1 ≤ p.first lo hi k ∧ p.first lo hi k ≤ x.2 + 1 ∧ x.2 ≤ hi }) (fun x => ([(1, n x.1.1), (2, n x.1.2), (3, n k), (4, .iptr p.cs 0)], [])) (fun x => (x.1.2 + 1 - x.1.1).toNat) ⟨(lo, hi), by simp only; omega, by simp only; omega, by simp only; omega, by simp only; omega⟩ ?_ rfl ?_
    · simp only [zS, zU, vcC, lateX, ex, strp, cnd, binA, kseq, kblk, kret, klp, Abs.one, elems, cells, scalar, eqC, Nat.reduceBEq, Nat.reduceAdd, Nat.reduceSub, Nat.reduceLT, Nat.reduceLeDiff, Nat.reduceMul, Nat.reduceEqDiff, cond_true, cond_false, if_true, if_false, reduceIte, implies_true, forall_const, ne_eq]; try simp
    · rintro ⟨⟨a, b⟩, i1, i2, i3, i4⟩
      simp only at i1 i2 i3 i4
      by_cases hab : a ≤ b
      · have hm : (a + b).tdiv 2 = (a + b) / 2 := Int.tdiv_eq_ediv_of_nonneg (by omega)
        (repeat' first
 | (refine AWPC.of_vcn rfl ?_; simp only [zT, zV, zS, zU, vcC, lateX, ex, strp, cnd, binA, kseq, kblk, kret, klp, Abs.one, elems, cells, scalar, eqC, Nat.reduceBEq, Nat.reduceAdd, Nat.reduceSub, Nat.reduceLT, Nat.reduceLeDiff, Nat.reduceMul, Nat.reduceEqDiff, cond_true, cond_false, if_true, if_false, reduceIte, implies_true, forall_const, ne_eq, hm])
 | (simp (disch := omega) only [wr64, Int.zero_sub]; try simp only [zT, zV, zS, zU, vcC, lateX, ex, strp, cnd, binA, kseq, kblk, kret, klp, Abs.one, elems, cells, scalar, eqC, Nat.reduceBEq, Nat.reduceAdd, Nat.reduceSub, Nat.reduceLT, Nat.reduceLeDiff, Nat.reduceMul, Nat.reduceEqDiff, cond_true, cond_false, if_true, if_false, reduceIte, implies_true, forall_const, ne_eq, hm])
 | (refine AWPC.both (fun _ => ?_) (fun _ => ?_))
 | (refine AWPC.imp (fun _ => ?_))
 | ((repeat (refine And.intro (by (intros; first | omega | (simp_all (config := { decide := false }); done) | fail)) ?_)); (first
 | (refine .inl ⟨_, _, _, _, rfl, fun _hc => ⟨by simp, rarc_spec p _ hg (by omega) (by omega)⟩, ?_⟩)
 | (refine ⟨_, _, _, _, rfl, fun _hc => ⟨by simp, rarc_spec p _ hg (by omega) (by omega)⟩, ?_⟩)
 | fail); (first | refine owp_of_exs ?_ | refine pre_of_exd ?_ | refine pre_of_exe ?_ | fail); simp only [zT, zV, zS, zU, vcC, lateX, ex, strp, cnd, binA, kseq, kblk, kret, klp, Abs.one, elems, cells, scalar, eqC, Nat.reduceBEq, Nat.reduceAdd, Nat.reduceSub, Nat.reduceLT, Nat.reduceLeDiff, Nat.reduceMul, Nat.reduceEqDiff, cond_true, cond_false, if_true, if_false, reduceIte, implies_true, forall_const, ne_eq, hm])
 | ((refine .inl ⟨_, _, _, .any, rfl, fun h => absurd h Bool.false_ne_true, ?_⟩); refine owp_of_exs ?_; simp only [zT, zV, zS, zU, vcC, lateX, ex, strp, cnd, binA, kseq, kblk, kret, klp, Abs.one, elems, cells, scalar, eqC, Nat.reduceBEq, Nat.reduceAdd, Nat.reduceSub, Nat.reduceLT, Nat.reduceLeDiff, Nat.reduceMul, Nat.reduceEqDiff, cond_true, cond_false, if_true, if_false, reduceIte, implies_true, forall_const, ne_eq, hm])
 | (refine ⟨by omega, ?_⟩)
 | (refine And.intro (by (intros; first | (simp_all (config := { decide := false }); done) | fail)) ?_)
 | fail)
        · rename_i c1 c2
          refine ⟨⟨(a, (a + b) / 2 - 1), i1, i2, ?_, by simp only; omega⟩, by simp, by simp only; omega⟩
          simp only
          refine Int.not_lt.1 fun hlt => ?_
          have := f3 ((a + b) / 2) (by omega) (by omega)
          omega
        · rename_i c1 c2
          refine ⟨⟨((a + b) / 2 + 1, b), by simp only; omega, ?_, i3, i4⟩, by simp, by simp only; omega⟩
          simp only
          refine Int.not_lt.1 fun hlt => ?_
          have := f4 ((a + b) / 2) (by omega) (by omega)
          omega
        · exfalso; omega
      · (repeat' first
 | (refine AWPC.of_vcn rfl ?_; simp only [zT, zV, zS, zU, vcC, lateX, ex, strp, cnd, binA, kseq, kblk, kret, klp, Abs.one, elems, cells, scalar, eqC, Nat.reduceBEq, Nat.reduceAdd, Nat.reduceSub, Nat.reduceLT, Nat.reduceLeDiff, Nat.reduceMul, Nat.reduceEqDiff, cond_true, cond_false, if_true, if_false, reduceIte, implies_true, forall_const, ne_eq])
 | (simp (disch := omega) only [wr64, Int.zero_sub]; try simp only [zT, zV, zS, zU, vcC, lateX, ex, strp, cnd, binA, kseq, kblk, kret, klp, Abs.one, elems, cells, scalar, eqC, Nat.reduceBEq, Nat.reduceAdd, Nat.reduceSub, Nat.reduceLT, Nat.reduceLeDiff, Nat.reduceMul, Nat.reduceEqDiff, cond_true, cond_false, if_true, if_false, reduceIte, implies_true, forall_const, ne_eq])
 | (refine AWPC.both (fun _ => ?_) (fun _ => ?_))
 | (refine AWPC.imp (fun _ => ?_))
 | ((refine .inl ⟨_, _, _, .any, rfl, fun h => absurd h Bool.false_ne_true, ?_⟩); refine owp_of_exs ?_; simp only [zT, zV, zS, zU, vcC, lateX, ex, strp, cnd, binA, kseq, kblk, kret, klp, Abs.one, elems, cells, scalar, eqC, Nat.reduceBEq, Nat.reduceAdd, Nat.reduceSub, Nat.reduceLT, Nat.reduceLeDiff, Nat.reduceMul, Nat.reduceEqDiff, cond_true, cond_false, if_true, if_false, reduceIte, implies_true, forall_const, ne_eq])
 | (refine ⟨by omega, ?_⟩)
 | (refine And.intro (by (intros; first | (simp_all (config := { decide := false }); done) | fail)) ?_)
 | fail)
        · exfalso; omega
        · refine Frz.eq ?_ (by simp)
          rw [show a = p.first lo hi k by omega]
  · rw [if_neg hle]
    (repeat' first
 | (refine AWPC.of_vcn rfl ?_; simp only [zT, zV, zS, zU, vcC, lateX, ex, strp, cnd, binA, kseq, kblk, kret, klp, Abs.one, elems, cells, scalar, eqC, Nat.reduceBEq, Nat.reduceAdd, Nat.reduceSub, Nat.reduceLT, Nat.reduceLeDiff, Nat.reduceMul, Nat.reduceEqDiff, cond_true, cond_false, if_true, if_false, reduceIte, implies_true, forall_const, ne_eq])
 | (simp (disch := omega) only [wr64, Int.zero_sub]; try simp only [zT, zV, zS, zU, vcC, lateX, ex, strp, cnd, binA, kseq, kblk, kret, klp, Abs.one, elems, cells, scalar, eqC, Nat.reduceBEq, Nat.reduceAdd, Nat.reduceSub, Nat.reduceLT, Nat.reduceLeDiff, Nat.reduceMul, Nat.reduceEqDiff, cond_true, cond_false, if_true, if_false, reduceIte, implies_true, forall_const, ne_eq])
 | (refine AWPC.both (fun _ => ?_) (fun _ => ?_))
 | (refine AWPC.imp (fun _ => ?_))
 | ((refine .inl ⟨_, _, _, .any, rfl, fun h => absurd h Bool.false_ne_true, ?_⟩); refine owp_of_exs ?_; simp only [zT, zV, zS, zU, vcC, lateX, ex, strp, cnd, binA, kseq, kblk, kret, klp, Abs.one, elems, cells, scalar, eqC, Nat.reduceBEq, Nat.reduceAdd, Nat.reduceSub, Nat.reduceLT, Nat.reduceLeDiff, Nat.reduceMul, Nat.reduceEqDiff, cond_true, cond_false, if_true, if_false, reduceIte, implies_true, forall_const, ne_eq])
 | (refine ⟨by omega, ?_⟩)
 | (refine And.intro (by (intros; first | (simp_all (config := { decide := false }); done) | fail)) ?_)
 | fail)
    refine AWPC.loop (α := Unit) (fun x => ([(1, n lo), (2, n hi), (3, n k), (4, .iptr p.cs 0)], [])) (fun x => 0) () ?_ rfl ?_
    · simp only [zS, zU, vcC, lateX, ex, strp, cnd, binA, kseq, kblk, kret, klp, Abs.one, elems, cells, scalar, eqC, Nat.reduceBEq, Nat.reduceAdd, Nat.reduceSub, Nat.reduceLT, Nat.reduceLeDiff, Nat.reduceMul, Nat.reduceEqDiff, cond_true, cond_false, if_true, if_false, reduceIte, implies_true, forall_const, ne_eq]; try simp
    · rintro ⟨⟩
      (repeat' first
 | (refine AWPC.of_vcn rfl ?_; simp only [zT, zV, zS, zU, vcC, lateX, ex, strp, cnd, binA, kseq, kblk, kret, klp, Abs.one, elems, cells, scalar, eqC, Nat.reduceBEq, Nat.reduceAdd, Nat.reduceSub, Nat.reduceLT, Nat.reduceLeDiff, Nat.reduceMul, Nat.reduceEqDiff, cond_true, cond_false, if_true, if_false, reduceIte, implies_true, forall_const, ne_eq])
 | (simp (disch := omega) only [wr64, Int.zero_sub]; try simp only [zT, zV, zS, zU, vcC, lateX, ex, strp, cnd, binA, kseq, kblk, kret, klp, Abs.one, elems, cells, scalar, eqC, Nat.reduceBEq, Nat.reduceAdd, Nat.reduceSub, Nat.reduceLT, Nat.reduceLeDiff, Nat.reduceMul, Nat.reduceEqDiff, cond_true, cond_false, if_true, if_false, reduceIte, implies_true, forall_const, ne_eq])
 | (refine AWPC.both (fun _ => ?_) (fun _ => ?_))
 | (refine AWPC.imp (fun _ => ?_))
 | ((refine .inl ⟨_, _, _, .any, rfl, fun h => absurd h Bool.false_ne_true, ?_⟩); refine owp_of_exs ?_; simp only [zT, zV, zS, zU, vcC, lateX, ex, strp, cnd, binA, kseq, kblk, kret, klp, Abs.one, elems, cells, scalar, eqC, Nat.reduceBEq, Nat.reduceAdd, Nat.reduceSub, Nat.reduceLT, Nat.reduceLeDiff, Nat.reduceMul, Nat.reduceEqDiff, cond_true, cond_false, if_true, if_false, reduceIte, implies_true, forall_const, ne_eq])
 | (refine ⟨by omega, ?_⟩)
 | (refine And.intro (by (intros; first | (simp_all (config := { decide := false }); done) | fail)) ?_)
 | fail)
      · exfalso; omega
      · exact Frz.eq rfl (by simp)

def Pp.firstE (p : Pp) (lo hi k : Int) : Int := if lo ≤ hi then p.first lo hi k else lo
def Pp.ring (p : Pp) (s a : Sp) : Sp := ⟨p.firstE s.lo s.hi a.lo, p.firstE s.lo s.hi (a.hi + 1) - 1⟩
def Pp.turned (p : Pp) (s : Sp) : Sp := ⟨p.he - s.hi, p.he - s.lo⟩

theorem firstE_bd (p : Pp) {lo hi k : Int} (hg : p.good) (h0 : 0 ≤ lo) (h1 : lo ≤ 1000000000) (h2 : hi ≤ p.he / 2) : 0 ≤ p.firstE lo hi k ∧ p.firstE lo hi k ≤ 1000000000 := by
  have := hg.2.2.2.1
  unfold Pp.firstE
  split
  · obtain ⟨f1, f2, f3, f4⟩ := first_spec p (k := k) hg h0 (show lo ≤ hi + 1 by omega) h2
    omega
  · omega

theorem ring_mem (p : Pp) {s a : Sp} (hg : p.good) (h0 : 0 ≤ s.lo) (h2 : s.hi ≤ p.he / 2) (y : Int) : ((p.ring s a).lo ≤ y ∧ y ≤ (p.ring s a).hi) ↔ (s.lo ≤ y ∧ y ≤ s.hi) ∧ a.lo ≤ p.arc y ∧ p.arc y ≤ a.hi := by
  unfold Pp.ring Pp.firstE
  by_cases h : s.lo ≤ s.hi
  · simp only [h, if_true]
    obtain ⟨f1, f2, f3, f4⟩ := first_spec p (k := a.lo) hg h0 (show s.lo ≤ s.hi + 1 by omega) h2
    obtain ⟨f5, f6, f7, f8⟩ := first_spec p (k := a.hi + 1) hg h0 (show s.lo ≤ s.hi + 1 by omega) h2
    constructor
    · rintro ⟨c1, c2⟩
      refine ⟨by omega, f4 y c1 (by omega), ?_⟩
      have := f7 y (by omega) (by omega); omega
    · rintro ⟨⟨c1, c2⟩, c3, c4⟩
      constructor
      · refine Int.not_lt.1 fun hlt => ?_
        have := f3 y c1 hlt; omega
      · refine Int.not_lt.1 fun hlt => ?_
        have := f8 y (by omega) c2; omega
  · simp only [h, if_false]; omega

theorem rring_spec (p : Pp) (s a : Sp) (hg : p.good) (h0 : 0 ≤ s.lo) (h1 : s.lo ≤ 1000000000) (h2 : s.hi ≤ p.he / 2) (h3 : -1000000000 ≤ s.hi) (ha : -1000000000000 ≤ a.hi) (ha' : a.hi ≤ 1000000000000) :
    Pure Try.prog 122 [.agg p.cs, .agg s.cs, .agg a.cs] (.agg (p.ring s a).cs) := by
  refine Pure.of_body Try.call122 Try.func122 k122 (Nat.le_of_ble_eq_true rfl) ?_
  have h : ∀ k, Pure Try.prog 132 [.agg p.cs, n s.lo, n s.hi, n k] (n (p.firstE s.lo s.hi k)) := fun k => rfirst_spec p s.lo s.hi k hg h0 h1 h2 h3
  have hb := firstE_bd p (lo := s.lo) (hi := s.hi) (k := a.hi + 1) hg h0 h1 h2
  unfold c122
  (repeat' first
 | (refine AWPC.of_vcn rfl ?_; simp only [zT, zV, zS, zU, vcC, lateX, ex, strp, cnd, binA, kseq, kblk, kret, klp, Abs.one, elems, cells, scalar, eqC, Nat.reduceBEq, Nat.reduceAdd, Nat.reduceSub, Nat.reduceLT, Nat.reduceLeDiff, Nat.reduceMul, Nat.reduceEqDiff, cond_true, cond_false, if_true, if_false, reduceIte, implies_true, forall_const, ne_eq])
 | (simp (disch := omega) only [wr64, Int.zero_sub]; try simp only [zT, zV, zS, zU, vcC, lateX, ex, strp, cnd, binA, kseq, kblk, kret, klp, Abs.one, elems, cells, scalar, eqC, Nat.reduceBEq, Nat.reduceAdd, Nat.reduceSub, Nat.reduceLT, Nat.reduceLeDiff, Nat.reduceMul, Nat.reduceEqDiff, cond_true, cond_false, if_true, if_false, reduceIte, implies_true, forall_const, ne_eq])
 | (refine AWPC.both (fun _ => ?_) (fun _ => ?_))
 | (refine AWPC.imp (fun _ => ?_))
 | ((repeat (refine And.intro (by (intros; first | omega | (simp_all (config := { decide := false }); done) | fail)) ?_)); (first
 | (refine .inl ⟨_, _, _, _, rfl, fun _hc => ⟨by simp, h _⟩, ?_⟩)
 | (refine ⟨_, _, _, _, rfl, fun _hc => ⟨by simp, h _⟩, ?_⟩)
 | fail); (first | refine owp_of_exs ?_ | refine pre_of_exd ?_ | refine pre_of_exe ?_ | fail); simp only [zT, zV, zS, zU, vcC, lateX, ex, strp, cnd, binA, kseq, kblk, kret, klp, Abs.one, elems, cells, scalar, eqC, Nat.reduceBEq, Nat.reduceAdd, Nat.reduceSub, Nat.reduceLT, Nat.reduceLeDiff, Nat.reduceMul, Nat.reduceEqDiff, cond_true, cond_false, if_true, if_false, reduceIte, implies_true, forall_const, ne_eq])
 | ((refine .inl ⟨_, _, _, .any, rfl, fun h => absurd h Bool.false_ne_true, ?_⟩); refine owp_of_exs ?_; simp only [zT, zV, zS, zU, vcC, lateX, ex, strp, cnd, binA, kseq, kblk, kret, klp, Abs.one, elems, cells, scalar, eqC, Nat.reduceBEq, Nat.reduceAdd, Nat.reduceSub, Nat.reduceLT, Nat.reduceLeDiff, Nat.reduceMul, Nat.reduceEqDiff, cond_true, cond_false, if_true, if_false, reduceIte, implies_true, forall_const, ne_eq])
 | (refine ⟨by omega, ?_⟩)
 | (refine And.intro (by (intros; first | (simp_all (config := { decide := false }); done) | fail)) ?_)
 | fail)
  exact Frz.eq rfl (by simp)

theorem rturned_spec (p : Pp) (s : Sp) (h1 : 0 ≤ p.he ∧ p.he ≤ 400000) (h0 : -1000000000 ≤ s.lo ∧ s.lo ≤ 1000000000) (h2 : -1000000000 ≤ s.hi ∧ s.hi ≤ 1000000000) : Pure Try.prog 123 [.agg p.cs, .agg s.cs] (.agg (p.turned s).cs) := by
  refine Pure.of_body Try.call123 Try.func123 k123 (Nat.le_of_ble_eq_true rfl) ?_
  unfold c123
  (repeat' first
 | (refine AWPC.of_vcn rfl ?_; simp only [zT, zV, zS, zU, vcC, lateX, ex, strp, cnd, binA, kseq, kblk, kret, klp, Abs.one, elems, cells, scalar, eqC, Nat.reduceBEq, Nat.reduceAdd, Nat.reduceSub, Nat.reduceLT, Nat.reduceLeDiff, Nat.reduceMul, Nat.reduceEqDiff, cond_true, cond_false, if_true, if_false, reduceIte, implies_true, forall_const, ne_eq])
 | (simp (disch := omega) only [wr64, Int.zero_sub]; try simp only [zT, zV, zS, zU, vcC, lateX, ex, strp, cnd, binA, kseq, kblk, kret, klp, Abs.one, elems, cells, scalar, eqC, Nat.reduceBEq, Nat.reduceAdd, Nat.reduceSub, Nat.reduceLT, Nat.reduceLeDiff, Nat.reduceMul, Nat.reduceEqDiff, cond_true, cond_false, if_true, if_false, reduceIte, implies_true, forall_const, ne_eq])
 | (refine AWPC.both (fun _ => ?_) (fun _ => ?_))
 | (refine AWPC.imp (fun _ => ?_))
 | ((refine .inl ⟨_, _, _, .any, rfl, fun h => absurd h Bool.false_ne_true, ?_⟩); refine owp_of_exs ?_; simp only [zT, zV, zS, zU, vcC, lateX, ex, strp, cnd, binA, kseq, kblk, kret, klp, Abs.one, elems, cells, scalar, eqC, Nat.reduceBEq, Nat.reduceAdd, Nat.reduceSub, Nat.reduceLT, Nat.reduceLeDiff, Nat.reduceMul, Nat.reduceEqDiff, cond_true, cond_false, if_true, if_false, reduceIte, implies_true, forall_const, ne_eq])
 | (refine ⟨by omega, ?_⟩)
 | (refine And.intro (by (intros; first | (simp_all (config := { decide := false }); done) | fail)) ?_)
 | fail)
  exact Frz.eq rfl (by simp)

theorem frz_sp' {σ : Sto} {f i m : Nat} (l : List Sp) (h : σ.at f i = some ⟨23, 2, l.map Sp.cs, none⟩) (hm : m = l.length) : Frz σ (.own f i m) (spS l) := hm ▸ frz_sp h

/-- A set with a further span, which may be empty. -/
def joinE (l : List Sp) (x : Sp) : List Sp := if x.hi < x.lo then l else join l x

theorem rJoin_spec (l : List Sp) (x : Sp) (hl : Norm l) (hb : ∀ s ∈ l, -1000000 ≤ s.lo ∧ s.hi ≤ 1000000) (hx : -1000000 ≤ x.lo ∧ x.hi ≤ 1000000) (hlen : l.length < 1000000000) :
    Pure Try.prog 105 [spS l, .agg x.cs] (spS (joinE l x)) := by
  refine Pure.of_body Try.call105 Try.func105 k105 (Nat.le_of_ble_eq_true rfl) ?_
  unfold c105
  by_cases hlt : x.hi < x.lo
  · (repeat' first
 | (refine AWPC.of_vcn rfl ?_; simp only [zT, zV, zS, zU, vcC, lateX, ex, strp, cnd, binA, kseq, kblk, kret, klp, Abs.one, elems, cells, scalar, eqC, Nat.reduceBEq, Nat.reduceAdd, Nat.reduceSub, Nat.reduceLT, Nat.reduceLeDiff, Nat.reduceMul, Nat.reduceEqDiff, cond_true, cond_false, if_true, if_false, reduceIte, implies_true, forall_const, ne_eq])
 | (simp (disch := omega) only [wr64, Int.zero_sub]; try simp only [zT, zV, zS, zU, vcC, lateX, ex, strp, cnd, binA, kseq, kblk, kret, klp, Abs.one, elems, cells, scalar, eqC, Nat.reduceBEq, Nat.reduceAdd, Nat.reduceSub, Nat.reduceLT, Nat.reduceLeDiff, Nat.reduceMul, Nat.reduceEqDiff, cond_true, cond_false, if_true, if_false, reduceIte, implies_true, forall_const, ne_eq])
 | (refine AWPC.both (fun _ => ?_) (fun _ => ?_))
 | (refine AWPC.imp (fun _ => ?_))
 | ((refine .inl ⟨_, _, _, .any, rfl, fun h => absurd h Bool.false_ne_true, ?_⟩); refine owp_of_exs ?_; simp only [zT, zV, zS, zU, vcC, lateX, ex, strp, cnd, binA, kseq, kblk, kret, klp, Abs.one, elems, cells, scalar, eqC, Nat.reduceBEq, Nat.reduceAdd, Nat.reduceSub, Nat.reduceLT, Nat.reduceLeDiff, Nat.reduceMul, Nat.reduceEqDiff, cond_true, cond_false, if_true, if_false, reduceIte, implies_true, forall_const, ne_eq])
 | (refine ⟨by omega, ?_⟩)
 | (refine And.intro (by (intros; first | (simp_all (config := { decide := false }); done) | fail)) ?_)
 | fail)
    · refine Frz.eq ?_ (by simp)
      rw [joinE, if_pos hlt]
    · exfalso; omega
  · rw [joinE, if_neg hlt]
    (repeat' first
 | (refine AWPC.of_vcn rfl ?_; simp only [zT, zV, zS, zU, vcC, lateX, ex, strp, cnd, binA, kseq, kblk, kret, klp, Abs.one, elems, cells, scalar, eqC, Nat.reduceBEq, Nat.reduceAdd, Nat.reduceSub, Nat.reduceLT, Nat.reduceLeDiff, Nat.reduceMul, Nat.reduceEqDiff, cond_true, cond_false, if_true, if_false, reduceIte, implies_true, forall_const, ne_eq])
 | (simp (disch := omega) only [wr64, Int.zero_sub]; try simp only [zT, zV, zS, zU, vcC, lateX, ex, strp, cnd, binA, kseq, kblk, kret, klp, Abs.one, elems, cells, scalar, eqC, Nat.reduceBEq, Nat.reduceAdd, Nat.reduceSub, Nat.reduceLT, Nat.reduceLeDiff, Nat.reduceMul, Nat.reduceEqDiff, cond_true, cond_false, if_true, if_false, reduceIte, implies_true, forall_const, ne_eq])
 | (refine AWPC.both (fun _ => ?_) (fun _ => ?_))
 | (refine AWPC.imp (fun _ => ?_))
 | ((refine .inl ⟨_, _, _, .any, rfl, fun h => absurd h Bool.false_ne_true, ?_⟩); refine owp_of_exs ?_; simp only [zT, zV, zS, zU, vcC, lateX, ex, strp, cnd, binA, kseq, kblk, kret, klp, Abs.one, elems, cells, scalar, eqC, Nat.reduceBEq, Nat.reduceAdd, Nat.reduceSub, Nat.reduceLT, Nat.reduceLeDiff, Nat.reduceMul, Nat.reduceEqDiff, cond_true, cond_false, if_true, if_false, reduceIte, implies_true, forall_const, ne_eq])
 | (refine ⟨by omega, ?_⟩)
 | (refine And.intro (by (intros; first | (simp_all (config := { decide := false }); done) | fail)) ?_)
 | fail)
    · exfalso; omega
    refine AWPC.own0 23 2 5 rfl ?_
    simp only [zS, zU, vcC, lateX, ex, strp, cnd, binA, kseq, kblk, kret, klp, Abs.one, elems, cells, scalar, eqC, Nat.reduceBEq, Nat.reduceAdd, Nat.reduceSub, Nat.reduceLT, Nat.reduceLeDiff, Nat.reduceMul, Nat.reduceEqDiff, cond_true, cond_false, if_true, if_false, reduceIte, implies_true, forall_const, ne_eq]
    refine AWPC.loop (α := { q : Nat × List Sp × Bool × Sp // q.1 ≤ l.length ∧ q.2.1.length ≤ q.1 + (if q.2.2.1 then 1 else 0) ∧ q.2.2.2.lo ≤ q.2.2.2.hi ∧ -1000000 ≤ q.2.2.2.lo ∧ q.2.2.2.hi ≤ 1000000 ∧ (q.2.2.1 = false → q.2.1 ++ join (l.drop q.1) q.2.2.2 = join l x) ∧
        (q.2.2.1 = true → q.2.1 ++ l.drop q.1 = join l x ∧ ∀ s ∈ l.drop q.1, q.2.2.2.hi + 1 < s.lo) })
      (fun q => ([(0, spS l), (3, .ptr 0 0 1 0 0), (5, .own 1 0 q.1.2.1.length), (6, bl q.1.2.2.1), (7, n q.1.1)], [some [⟨23, 2, [q.1.2.2.2.cs], none⟩], some [spO q.1.2.1]])) (fun q => l.length - q.1.1)
      ⟨(0, [], false, x), by simp, by simp, by simp only; omega, hx.1, hx.2, fun _ => by simp, fun h => by cases h⟩ ?_ rfl ?_
    · simp only [zS, zU, vcC, lateX, ex, strp, cnd, binA, kseq, kblk, kret, klp, Abs.one, elems, cells, scalar, eqC, Nat.reduceBEq, Nat.reduceAdd, Nat.reduceSub, Nat.reduceLT, Nat.reduceLeDiff, Nat.reduceMul, Nat.reduceEqDiff, cond_true, cond_false, if_true, if_false, reduceIte, implies_true, forall_const, ne_eq]; try simp
    · rintro ⟨⟨i, acc, put, z⟩, i1, i2, i3, i4, i5, i6, i7⟩
      simp only at i1 i2 i3 i4 i5 i6 i7
      have hal : acc.length ≤ l.length + 1 := by cases put <;> simp at i2 <;> omega
      by_cases hi : i < l.length
      · obtain ⟨s, hs⟩ : ∃ s, l[i]? = some s := ⟨_, List.getElem?_eq_getElem hi⟩
        have hsb := hb s (List.mem_of_getElem? hs)
        have hsn := hl.ne s (List.mem_of_getElem? hs)
        have hd := drop_cons hs
        (repeat' first
 | (refine AWPC.of_vcn rfl ?_; simp only [zT, zV, zS, zU, vcC, lateX, ex, strp, cnd, binA, kseq, kblk, kret, klp, Abs.one, elems, cells, scalar, eqC, Nat.reduceBEq, Nat.reduceAdd, Nat.reduceSub, Nat.reduceLT, Nat.reduceLeDiff, Nat.reduceMul, Nat.reduceEqDiff, cond_true, cond_false, if_true, if_false, reduceIte, implies_true, forall_const, ne_eq, getD_map hs])
 | (simp (disch := omega) only [wr64, Int.zero_sub]; try simp only [zT, zV, zS, zU, vcC, lateX, ex, strp, cnd, binA, kseq, kblk, kret, klp, Abs.one, elems, cells, scalar, eqC, Nat.reduceBEq, Nat.reduceAdd, Nat.reduceSub, Nat.reduceLT, Nat.reduceLeDiff, Nat.reduceMul, Nat.reduceEqDiff, cond_true, cond_false, if_true, if_false, reduceIte, implies_true, forall_const, ne_eq, getD_map hs])
 | (refine AWPC.both (fun _ => ?_) (fun _ => ?_))
 | (refine AWPC.imp (fun _ => ?_))
 | ((refine .inl ⟨_, _, _, .any, rfl, fun h => absurd h Bool.false_ne_true, ?_⟩); refine owp_of_exs ?_; simp only [zT, zV, zS, zU, vcC, lateX, ex, strp, cnd, binA, kseq, kblk, kret, klp, Abs.one, elems, cells, scalar, eqC, Nat.reduceBEq, Nat.reduceAdd, Nat.reduceSub, Nat.reduceLT, Nat.reduceLeDiff, Nat.reduceMul, Nat.reduceEqDiff, cond_true, cond_false, if_true, if_false, reduceIte, implies_true, forall_const, ne_eq, getD_map hs])
 | (refine ⟨by omega, ?_⟩)
 | (refine And.intro (by (intros; first | (simp_all (config := { decide := false }); done) | fail)) ?_)
 | fail)
        all_goals try (exfalso; omega)
        · refine ⟨⟨(i + 1, acc ++ [s], put, z), hi, by simp only [List.length_append, List.length_cons, List.length_nil]; omega, i3, i4, i5, fun hp => ?_, fun hp => ?_⟩, ⟨by simp, by simp, by simp⟩, by simp [spO], by simp only; omega⟩
          · have := i6 hp
            rw [hd, join, if_pos ‹_›] at this
            simpa using this
          · obtain ⟨j1, j2⟩ := i7 hp
            rw [hd] at j1 j2
            exact ⟨by simpa using j1, fun u hu => j2 u (by simp [hu])⟩
        · rename_i c1 c2 c3
          obtain rfl : put = false := by simpa using c3
          have hn : ∀ u ∈ l.drop (i + 1), z.hi + 1 < u.lo := fun u hu => by
            have hnd : Norm (l.drop i) := by
              have := hl; rw [← List.take_append_drop i l] at this; exact (norm_append.1 this).2.1
            rw [hd] at hnd
            have := hnd.2.1 u hu; omega
          refine ⟨⟨(i + 1, acc ++ [z, s], true, z), hi, by simp at i2 ⊢; omega, i3, i4, i5, fun hp => (by cases hp), fun _ => ⟨?_, hn⟩⟩, ⟨by simp, by simp⟩, by simp [spO], by simp only; omega⟩
          have := i6 rfl
          rw [hd, join, if_neg ‹_›, if_pos ‹_›] at this
          simpa using this
        · rename_i c1 c2 c3
          obtain rfl : put = true := by simpa using c3
          obtain ⟨j1, j2⟩ := i7 rfl
          rw [hd] at j1 j2
          exact ⟨⟨(i + 1, acc ++ [s], true, z), hi, by simp at i2 ⊢; omega, i3, i4, i5, fun hp => (by cases hp), fun _ => ⟨by simpa using j1, fun u hu => j2 u (by simp [hu])⟩⟩, ⟨by simp, by simp⟩, by simp [spO], by simp only; omega⟩
        · rename_i c1 c2
          have hpf : put = false := by
            cases put with
            | false => rfl
            | true => exact absurd ((i7 rfl).2 s (by rw [hd]; simp)) c2
          subst hpf
          refine ⟨⟨(i + 1, acc, false, ⟨min z.lo s.lo, max z.hi s.hi⟩), hi, by simp at i2 ⊢; omega, by simp only; omega, by simp only; omega, by simp only; omega, fun _ => ?_, fun hp => (by cases hp)⟩, by simp, by simp [spO], by simp only; omega⟩
          have := i6 rfl
          rw [hd, join, if_neg ‹_›, if_neg ‹_›] at this
          simpa using this
      · obtain rfl : i = l.length := by omega
        rw [List.drop_length] at i6 i7
        have hal : acc.length ≤ l.length + 1 := by cases put <;> simp at i2 <;> omega
        (repeat' first
 | (refine AWPC.of_vcn rfl ?_; simp only [zT, zV, zS, zU, vcC, lateX, ex, strp, cnd, binA, kseq, kblk, kret, klp, Abs.one, elems, cells, scalar, eqC, Nat.reduceBEq, Nat.reduceAdd, Nat.reduceSub, Nat.reduceLT, Nat.reduceLeDiff, Nat.reduceMul, Nat.reduceEqDiff, cond_true, cond_false, if_true, if_false, reduceIte, implies_true, forall_const, ne_eq])
 | (simp (disch := omega) only [wr64, Int.zero_sub]; try simp only [zT, zV, zS, zU, vcC, lateX, ex, strp, cnd, binA, kseq, kblk, kret, klp, Abs.one, elems, cells, scalar, eqC, Nat.reduceBEq, Nat.reduceAdd, Nat.reduceSub, Nat.reduceLT, Nat.reduceLeDiff, Nat.reduceMul, Nat.reduceEqDiff, cond_true, cond_false, if_true, if_false, reduceIte, implies_true, forall_const, ne_eq])
 | (refine AWPC.both (fun _ => ?_) (fun _ => ?_))
 | (refine AWPC.imp (fun _ => ?_))
 | ((refine .inl ⟨_, _, _, .any, rfl, fun h => absurd h Bool.false_ne_true, ?_⟩); refine owp_of_exs ?_; simp only [zT, zV, zS, zU, vcC, lateX, ex, strp, cnd, binA, kseq, kblk, kret, klp, Abs.one, elems, cells, scalar, eqC, Nat.reduceBEq, Nat.reduceAdd, Nat.reduceSub, Nat.reduceLT, Nat.reduceLeDiff, Nat.reduceMul, Nat.reduceEqDiff, cond_true, cond_false, if_true, if_false, reduceIte, implies_true, forall_const, ne_eq])
 | (refine ⟨by omega, ?_⟩)
 | (refine And.intro (by (intros; first | (simp_all (config := { decide := false }); done) | fail)) ?_)
 | fail)
        all_goals try (exfalso; omega)
        · rename_i c1 c2
          obtain rfl : put = false := by simpa using c2
          have := i6 rfl
          rw [join] at this
          rw [← this]
          exact frz_sp' (acc ++ [z]) (by simp [Sto.at]) (by simp)
        · rename_i c1 c2
          obtain rfl : put = true := by simpa using c2
          have := (i7 rfl).1
          rw [List.append_nil] at this
          rw [← this]
          exact frz_sp' acc (by simp [Sto.at]) rfl

theorem rJoin0_spec (x : Sp) (hx : -1000000 ≤ x.lo ∧ x.hi ≤ 1000000) : Pure Try.prog 105 [.v (.slice none 0 0), .agg x.cs] (spS (joinE [] x)) := by
  have h := rJoin_spec [] x trivial (fun s hs => absurd hs (List.not_mem_nil)) hx (by simp)
  refine Pure.args (args' := [spS [], .agg x.cs]) rfl (fun i hi w X v hv => ?_) h
  match i, hi with
  | 0, _ => exact hv.nil
  | 1, _ => exact hv

/-- The bounds of the arcs whose printed places are in a column. -/
def Pp.abd (p : Pp) (t : Pt) (c : Int) : Sp := ⟨(p.along t).lo - (c + 1) * p.pi + 1, (p.along t).hi - c * p.pi⟩
def Pp.rlow (p : Pp) (t : Pt) (c : Int) : Sp := p.ring ⟨(p.heights t).lo, min (p.heights t).hi (p.he / 2)⟩ (p.abd t c)
def Pp.rhigh (p : Pp) (t : Pt) (c : Int) : Sp := p.turned (p.ring (p.turned ⟨max (p.heights t).lo (p.he / 2 + 1), (p.heights t).hi⟩) (p.abd t c))
def Pp.lspan (p : Pp) (s : Sp) : Sp := ⟨p.level s.lo, p.level s.hi⟩
def Pp.rm1 (p : Pp) (t : Pt) (c : Int) : List Sp := if (p.rlow t c).lo ≤ (p.rlow t c).hi then joinE [] (p.lspan (p.rlow t c)) else []
def Pp.rmeans (p : Pp) (t : Pt) (c : Int) : List Sp := if (p.rhigh t c).lo ≤ (p.rhigh t c).hi then joinE (p.rm1 t c) (p.lspan (p.rhigh t c)) else p.rm1 t c

abbrev Pp.hitA (p : Pp) (t : Pt) (c y : Int) : Prop := (p.abd t c).lo ≤ p.arc y ∧ p.arc y ≤ (p.abd t c).hi

theorem rlow_mem (p : Pp) (t : Pt) (c : Int) (hg : p.good) (ht : t.right) (y : Int) : ((p.rlow t c).lo ≤ y ∧ y ≤ (p.rlow t c).hi) ↔ ((p.heights t).lo ≤ y ∧ y ≤ (p.heights t).hi) ∧ y ≤ p.he / 2 ∧ p.hitA t c y := by
  have hb := heights_bd p t hg ht
  rw [Pp.rlow, ring_mem p (s := ⟨(p.heights t).lo, min (p.heights t).hi (p.he / 2)⟩) hg hb.1 (by simp only; omega)]
  simp only; omega

theorem arc_turn (p : Pp) (y : Int) : p.arc (p.he - y) = p.arc y := arc_sym p y

theorem rhigh_mem (p : Pp) (t : Pt) (c : Int) (hg : p.good) (ht : t.right) (y : Int) : ((p.rhigh t c).lo ≤ y ∧ y ≤ (p.rhigh t c).hi) ↔ ((p.heights t).lo ≤ y ∧ y ≤ (p.heights t).hi) ∧ p.he / 2 < y ∧ p.hitA t c y := by
  have hb := heights_bd p t hg ht
  have := ring_mem p (s := p.turned ⟨max (p.heights t).lo (p.he / 2 + 1), (p.heights t).hi⟩) (a := p.abd t c) hg (by simp only [Pp.turned]; omega) (by simp only [Pp.turned]; omega) (p.he - y)
  rw [arc_turn] at this
  simp only [Pp.rhigh, Pp.hitA]
  generalize p.ring (p.turned ⟨max (p.heights t).lo (p.he / 2 + 1), (p.heights t).hi⟩) (p.abd t c) = r at this
  simp only [Pp.turned] at this ⊢
  omega

theorem mem_in {p : Pp} {s : Sp} (hg : p.good) (h0 : 0 ≤ s.lo) (h1 : s.lo ≤ s.hi) (h2 : s.hi ≤ p.he) : (p.lspan s).lo ≤ (p.lspan s).hi ∧ 0 ≤ (p.lspan s).lo ∧ (p.lspan s).hi ≤ 12000 :=
  ⟨level_mono p hg h0 h1, (level_bd p s.lo hg h0 (by omega)).1, (level_bd p s.hi hg (by omega) h2).2⟩

/-- The levels of a span of heights. -/
theorem lspan_mem {p : Pp} {s : Sp} (hg : p.good) (h0 : 0 ≤ s.lo) (h1 : s.lo ≤ s.hi) (h2 : s.hi ≤ p.he) (v : Int) : ((p.lspan s).lo ≤ v ∧ v ≤ (p.lspan s).hi) ↔ ∃ y, s.lo ≤ y ∧ y ≤ s.hi ∧ p.level y = v := by
  constructor
  · rintro ⟨g1, g2⟩
    simp only [Pp.lspan] at g1 g2
    have i1 := level_in p (y := s.lo) hg h0 (by omega)
    have i2 := level_in p (y := s.hi) hg (by omega) h2
    have sp := span_of p (l := v) hg (by omega) (by omega)
    have e1 := level_ge p (y := s.hi) (l := v) hg (by omega) (by omega) (by omega)
    have e2 := level_ge p (y := max s.lo (p.least v)) (l := v) hg (by omega) (by omega) (by omega)
    refine ⟨max s.lo (p.least v), by omega, by omega, ?_⟩
    by_cases h : p.least v ≤ s.lo
    · rw [show max s.lo (p.least v) = s.lo by omega] at e2 ⊢; omega
    · have e3 := level_ge p (y := p.least v) (l := v + 1) hg (by omega) (by omega) (by omega)
      rw [show max s.lo (p.least v) = p.least v by omega] at e2 ⊢; omega
  · rintro ⟨y, g1, g2, rfl⟩
    exact ⟨level_mono p hg h0 g1, level_mono p hg (by omega) g2⟩

theorem rm1_set (p : Pp) (t : Pt) (c : Int) (hg : p.good) (ht : t.right) : Norm (p.rm1 t c) ∧ (∀ v, Mem v (p.rm1 t c) ↔ ∃ y, (p.rlow t c).lo ≤ y ∧ y ≤ (p.rlow t c).hi ∧ p.level y = v) ∧ (p.rm1 t c).length ≤ 1 ∧ (∀ s ∈ p.rm1 t c, 0 ≤ s.lo ∧ s.hi ≤ 12000) := by
  have hb := heights_bd p t hg ht
  have hm := rlow_mem p t c hg ht
  unfold Pp.rm1
  split
  · rename_i h
    have a := (hm (p.rlow t c).lo).1 ⟨Int.le_refl _, h⟩
    have b := (hm (p.rlow t c).hi).1 ⟨h, Int.le_refl _⟩
    have k := mem_in (p := p) (s := p.rlow t c) hg (by omega) h (by omega)
    have j : joinE [] (p.lspan (p.rlow t c)) = [p.lspan (p.rlow t c)] := by rw [joinE, if_neg (by omega)]; rfl
    rw [j]
    refine ⟨⟨k.1, fun t ht => absurd ht (List.not_mem_nil), trivial⟩, fun v => ?_, by simp, fun s hs => ?_⟩
    · rw [mem_cons, ← lspan_mem hg (by omega) h (by omega)]; simp [Mem.nil]
    · obtain rfl : s = p.lspan (p.rlow t c) := by simpa using hs
      exact k.2
  · rename_i h
    refine ⟨trivial, fun v => ⟨fun h => absurd h Mem.nil, ?_⟩, by simp, by simp⟩
    rintro ⟨y, h1, h2, _⟩; omega

theorem join_len (l : List Sp) (x : Sp) : (join l x).length ≤ l.length + 1 := by
  induction l generalizing x with
  | nil => simp [join]
  | cons s r ih =>
    unfold join
    split
    · have := ih x; simp only [List.length_cons]; omega
    · split
      · simp
      · have := ih ⟨min x.lo s.lo, max x.hi s.hi⟩; simp only [List.length_cons]; omega

theorem rmeans_set (p : Pp) (t : Pt) (c : Int) (hg : p.good) (ht : t.right) : Norm (p.rmeans t c) ∧ (∀ v, Mem v (p.rmeans t c) ↔ ∃ y, ((p.heights t).lo ≤ y ∧ y ≤ (p.heights t).hi) ∧ p.hitA t c y ∧ p.level y = v) ∧ (p.rmeans t c).length ≤ 2 := by
  have hb := heights_bd p t hg ht
  obtain ⟨n1, m1, l1, b1⟩ := rm1_set p t c hg ht
  have hl := rlow_mem p t c hg ht
  have hm := rhigh_mem p t c hg ht
  have all : ∀ v, (∃ y, ((p.heights t).lo ≤ y ∧ y ≤ (p.heights t).hi) ∧ p.hitA t c y ∧ p.level y = v) ↔ (∃ y, (p.rlow t c).lo ≤ y ∧ y ≤ (p.rlow t c).hi ∧ p.level y = v) ∨ ∃ y, (p.rhigh t c).lo ≤ y ∧ y ≤ (p.rhigh t c).hi ∧ p.level y = v := by
    intro v
    constructor
    · rintro ⟨y, h1, h2, h3⟩
      by_cases h : y ≤ p.he / 2
      · have := (hl y).2 ⟨h1, h, h2⟩; exact .inl ⟨y, this.1, this.2, h3⟩
      · have := (hm y).2 ⟨h1, by omega, h2⟩; exact .inr ⟨y, this.1, this.2, h3⟩
    · rintro (⟨y, h1, h2, h3⟩ | ⟨y, h1, h2, h3⟩)
      · have := (hl y).1 ⟨h1, h2⟩; exact ⟨y, this.1, this.2.2, h3⟩
      · have := (hm y).1 ⟨h1, h2⟩; exact ⟨y, this.1, this.2.2, h3⟩
  unfold Pp.rmeans
  split
  · rename_i h
    have a := (hm (p.rhigh t c).lo).1 ⟨Int.le_refl _, h⟩
    have b := (hm (p.rhigh t c).hi).1 ⟨h, Int.le_refl _⟩
    have k := mem_in (p := p) (s := p.rhigh t c) hg (by omega) h (by omega)
    rw [joinE, if_neg (by omega)]
    refine ⟨join_norm n1 k.1, fun v => ?_, ?_⟩
    · rw [join_mem n1 k.1, m1, lspan_mem hg (by omega) h (by omega), all]
    · have := join_len (p.rm1 t c) (p.lspan (p.rhigh t c)); omega
  · rename_i h
    refine ⟨n1, fun v => ?_, by omega⟩
    rw [m1, all]
    refine ⟨.inl, ?_⟩
    rintro (h' | ⟨y, h1, h2, _⟩)
    · exact h'
    · omega

theorem rmeans_spec (p : Pp) (t : Pt) (c : Int) (hg : p.good) (ht : t.right) (h0 : 0 ≤ c) (h1 : c ≤ p.co - 1) : Pure Try.prog 82 [.agg p.cs, .agg t.cs, n c] (spS (p.rmeans t c)) := by
  refine Pure.of_body Try.call82 Try.func82 k82 (Nat.le_of_ble_eq_true rfl) ?_
  have hb := heights_bd p t hg ht
  have ha := along_bd p t hg ht
  have hpl := rplaces_spec t.x t.h p.al hg.al ⟨ht.1, ht.2.1⟩ ⟨ht.2.2.2.2.1, ht.2.2.2.2.2⟩
  change Pure _ _ _ (.agg (p.along t).cs) at hpl
  obtain ⟨n1, m1, l1, b1⟩ := rm1_set p t c hg ht
  have hl := rlow_mem p t c hg ht
  have hm := rhigh_mem p t c hg ht
  have hg' := hg
  obtain ⟨g1, g2, g3, g4, g5, g6, g7, g8, g9, g10, g11, g12, g13⟩ := hg'
  have q1 := mul_bd (show 0 ≤ c + 1 by omega) (show c + 1 ≤ 200 by omega) (show 0 ≤ p.pi by omega) g2
  have q2 := mul_bd h0 (show c ≤ 200 by omega) (show 0 ≤ p.pi by omega) g2
  have hhalf : p.he.tdiv 2 = p.he / 2 := Int.tdiv_eq_ediv_of_nonneg (by omega)
  have R1 := rring_spec p ⟨(p.heights t).lo, min (p.heights t).hi (p.he / 2)⟩ (p.abd t c) hg hb.1 (by simp only; omega) (by simp only; omega) (by simp only; omega) (by simp only [Pp.abd]; omega) (by simp only [Pp.abd]; omega)
  change Pure _ _ _ (.agg (p.rlow t c).cs) at R1
  have R2 := rturned_spec p ⟨max (p.heights t).lo (p.he / 2 + 1), (p.heights t).hi⟩ (by omega) (by simp only; omega) (by simp only; omega)
  have R3 := rring_spec p (p.turned ⟨max (p.heights t).lo (p.he / 2 + 1), (p.heights t).hi⟩) (p.abd t c) hg (by simp only [Pp.turned]; omega) (by simp only [Pp.turned]; omega) (by simp only [Pp.turned]; omega) (by simp only [Pp.turned]; omega) (by simp only [Pp.abd]; omega) (by simp only [Pp.abd]; omega)
  have k3 : 0 ≤ (p.ring (p.turned ⟨max (p.heights t).lo (p.he / 2 + 1), (p.heights t).hi⟩) (p.abd t c)).lo ∧ (p.ring (p.turned ⟨max (p.heights t).lo (p.he / 2 + 1), (p.heights t).hi⟩) (p.abd t c)).lo ≤ 1000000000 :=
    firstE_bd p hg (by simp only [Pp.turned]; omega) (by simp only [Pp.turned]; omega) (by simp only [Pp.turned]; omega)
  have k4 : 0 ≤ (p.ring (p.turned ⟨max (p.heights t).lo (p.he / 2 + 1), (p.heights t).hi⟩) (p.abd t c)).hi + 1 ∧ (p.ring (p.turned ⟨max (p.heights t).lo (p.he / 2 + 1), (p.heights t).hi⟩) (p.abd t c)).hi + 1 ≤ 1000000000 := by
    have := firstE_bd p (lo := (p.turned ⟨max (p.heights t).lo (p.he / 2 + 1), (p.heights t).hi⟩).lo) (hi := (p.turned ⟨max (p.heights t).lo (p.he / 2 + 1), (p.heights t).hi⟩).hi) (k := (p.abd t c).hi + 1) hg (by simp only [Pp.turned]; omega) (by simp only [Pp.turned]; omega) (by simp only [Pp.turned]; omega)
    simp only [Pp.ring]; omega
  have R4 := rturned_spec p (p.ring (p.turned ⟨max (p.heights t).lo (p.he / 2 + 1), (p.heights t).hi⟩) (p.abd t c)) (by omega) (by omega) (by omega)
  change Pure _ _ _ (.agg (p.rhigh t c).cs) at R4
  have hlow : (p.rlow t c).lo ≤ (p.rlow t c).hi → 0 ≤ (p.rlow t c).lo ∧ (p.rlow t c).hi ≤ p.he := fun h => by
    have a := (hl (p.rlow t c).lo).1 ⟨Int.le_refl _, h⟩
    have b := (hl (p.rlow t c).hi).1 ⟨h, Int.le_refl _⟩
    omega
  have hhigh : (p.rhigh t c).lo ≤ (p.rhigh t c).hi → 0 ≤ (p.rhigh t c).lo ∧ (p.rhigh t c).hi ≤ p.he := fun h => by
    have a := (hm (p.rhigh t c).lo).1 ⟨Int.le_refl _, h⟩
    have b := (hm (p.rhigh t c).hi).1 ⟨h, Int.le_refl _⟩
    omega
  have J1 : (p.rlow t c).lo ≤ (p.rlow t c).hi → Pure Try.prog 105 [.v (.slice none 0 0), .agg (p.lspan (p.rlow t c)).cs] (spS (p.rm1 t c)) := fun h => by
    have k := mem_in (p := p) (s := p.rlow t c) hg (hlow h).1 h (hlow h).2
    rw [Pp.rm1, if_pos h]
    exact rJoin0_spec _ (by omega)
  have J2 : (p.rhigh t c).lo ≤ (p.rhigh t c).hi → Pure Try.prog 105 [spS (p.rm1 t c), .agg (p.lspan (p.rhigh t c)).cs] (spS (p.rmeans t c)) := fun h => by
    have k := mem_in (p := p) (s := p.rhigh t c) hg (hhigh h).1 h (hhigh h).2
    rw [Pp.rmeans, if_pos h]
    exact rJoin_spec _ _ n1 (fun s hs => by have := b1 s hs; have := n1.ne s hs; omega) (by omega) (by omega)
  have J3 : ¬ (p.rlow t c).lo ≤ (p.rlow t c).hi → (p.rhigh t c).lo ≤ (p.rhigh t c).hi → Pure Try.prog 105 [.v (.slice none 0 0), .agg (p.lspan (p.rhigh t c)).cs] (spS (p.rmeans t c)) := fun h' h => by
    have k := mem_in (p := p) (s := p.rhigh t c) hg (hhigh h).1 h (hhigh h).2
    rw [Pp.rmeans, if_pos h, Pp.rm1, if_neg h']
    exact rJoin0_spec _ (by omega)
  have V1 : (p.rlow t c).lo ≤ (p.rlow t c).hi → Pure Try.prog 78 [.agg p.cs, n (p.rlow t c).lo] (n (p.lspan (p.rlow t c)).lo) := fun h => rlevel_spec p _ hg (by omega) (by omega)
  have V2 : (p.rlow t c).lo ≤ (p.rlow t c).hi → Pure Try.prog 78 [.agg p.cs, n (p.rlow t c).hi] (n (p.lspan (p.rlow t c)).hi) := fun h => rlevel_spec p _ hg (by omega) (by omega)
  have V3 : (p.rhigh t c).lo ≤ (p.rhigh t c).hi → Pure Try.prog 78 [.agg p.cs, n (p.rhigh t c).lo] (n (p.lspan (p.rhigh t c)).lo) := fun h => rlevel_spec p _ hg (by omega) (by omega)
  have V4 : (p.rhigh t c).lo ≤ (p.rhigh t c).hi → Pure Try.prog 78 [.agg p.cs, n (p.rhigh t c).hi] (n (p.lspan (p.rhigh t c)).hi) := fun h => rlevel_spec p _ hg (by omega) (by omega)
  clear hl hm m1 b1
  unfold c82
  (repeat' first
 | (refine AWPC.of_vcn rfl ?_; simp only [zT, zV, zS, zU, vcC, lateX, ex, strp, cnd, binA, kseq, kblk, kret, klp, Abs.one, elems, cells, scalar, eqC, Nat.reduceBEq, Nat.reduceAdd, Nat.reduceSub, Nat.reduceLT, Nat.reduceLeDiff, Nat.reduceMul, Nat.reduceEqDiff, cond_true, cond_false, if_true, if_false, reduceIte, implies_true, forall_const, ne_eq, hhalf])
 | (simp (disch := omega) only [wr64, Int.zero_sub]; try simp only [zT, zV, zS, zU, vcC, lateX, ex, strp, cnd, binA, kseq, kblk, kret, klp, Abs.one, elems, cells, scalar, eqC, Nat.reduceBEq, Nat.reduceAdd, Nat.reduceSub, Nat.reduceLT, Nat.reduceLeDiff, Nat.reduceMul, Nat.reduceEqDiff, cond_true, cond_false, if_true, if_false, reduceIte, implies_true, forall_const, ne_eq, hhalf])
 | (refine AWPC.both (fun _ => ?_) (fun _ => ?_))
 | (refine AWPC.imp (fun _ => ?_))
 | ((repeat (refine And.intro (by (intros; first | omega | (simp_all (config := { decide := false }); done) | fail)) ?_)); (first
 | (refine .inl ⟨_, _, _, _, rfl, fun _hc => ⟨by simp, hpl⟩, ?_⟩)
 | (refine .inl ⟨_, _, _, _, rfl, fun _hc => ⟨by simp, rheights_spec p t hg ht⟩, ?_⟩)
 | (refine .inl ⟨_, _, _, _, rfl, fun _hc => ⟨by simp, R1⟩, ?_⟩)
 | (refine .inl ⟨_, _, _, _, rfl, fun _hc => ⟨by simp, R2⟩, ?_⟩)
 | (refine .inl ⟨_, _, _, _, rfl, fun _hc => ⟨by simp, R3⟩, ?_⟩)
 | (refine .inl ⟨_, _, _, _, rfl, fun _hc => ⟨by simp, R4⟩, ?_⟩)
 | (refine .inl ⟨_, _, _, _, rfl, fun _hc => ⟨by simp, V1 (by omega)⟩, ?_⟩)
 | (refine .inl ⟨_, _, _, _, rfl, fun _hc => ⟨by simp, V2 (by omega)⟩, ?_⟩)
 | (refine .inl ⟨_, _, _, _, rfl, fun _hc => ⟨by simp, V3 (by omega)⟩, ?_⟩)
 | (refine .inl ⟨_, _, _, _, rfl, fun _hc => ⟨by simp, V4 (by omega)⟩, ?_⟩)
 | (refine .inl ⟨_, _, _, _, rfl, fun _hc => ⟨by simp, J1 (by omega)⟩, ?_⟩)
 | (refine .inl ⟨_, _, _, _, rfl, fun _hc => ⟨by simp, J2 (by omega)⟩, ?_⟩)
 | (refine .inl ⟨_, _, _, _, rfl, fun _hc => ⟨by simp, J3 (by omega) (by omega)⟩, ?_⟩)
 | (refine ⟨_, _, _, _, rfl, fun _hc => ⟨by simp, hpl⟩, ?_⟩)
 | (refine ⟨_, _, _, _, rfl, fun _hc => ⟨by simp, rheights_spec p t hg ht⟩, ?_⟩)
 | (refine ⟨_, _, _, _, rfl, fun _hc => ⟨by simp, R1⟩, ?_⟩)
 | (refine ⟨_, _, _, _, rfl, fun _hc => ⟨by simp, R2⟩, ?_⟩)
 | (refine ⟨_, _, _, _, rfl, fun _hc => ⟨by simp, R3⟩, ?_⟩)
 | (refine ⟨_, _, _, _, rfl, fun _hc => ⟨by simp, R4⟩, ?_⟩)
 | (refine ⟨_, _, _, _, rfl, fun _hc => ⟨by simp, V1 (by omega)⟩, ?_⟩)
 | (refine ⟨_, _, _, _, rfl, fun _hc => ⟨by simp, V2 (by omega)⟩, ?_⟩)
 | (refine ⟨_, _, _, _, rfl, fun _hc => ⟨by simp, V3 (by omega)⟩, ?_⟩)
 | (refine ⟨_, _, _, _, rfl, fun _hc => ⟨by simp, V4 (by omega)⟩, ?_⟩)
 | (refine ⟨_, _, _, _, rfl, fun _hc => ⟨by simp, J1 (by omega)⟩, ?_⟩)
 | (refine ⟨_, _, _, _, rfl, fun _hc => ⟨by simp, J2 (by omega)⟩, ?_⟩)
 | (refine ⟨_, _, _, _, rfl, fun _hc => ⟨by simp, J3 (by omega) (by omega)⟩, ?_⟩)
 | fail); (first | refine owp_of_exs ?_ | refine pre_of_exd ?_ | refine pre_of_exe ?_ | fail); simp only [zT, zV, zS, zU, vcC, lateX, ex, strp, cnd, binA, kseq, kblk, kret, klp, Abs.one, elems, cells, scalar, eqC, Nat.reduceBEq, Nat.reduceAdd, Nat.reduceSub, Nat.reduceLT, Nat.reduceLeDiff, Nat.reduceMul, Nat.reduceEqDiff, cond_true, cond_false, if_true, if_false, reduceIte, implies_true, forall_const, ne_eq, hhalf])
 | ((refine .inl ⟨_, _, _, .any, rfl, fun h => absurd h Bool.false_ne_true, ?_⟩); refine owp_of_exs ?_; simp only [zT, zV, zS, zU, vcC, lateX, ex, strp, cnd, binA, kseq, kblk, kret, klp, Abs.one, elems, cells, scalar, eqC, Nat.reduceBEq, Nat.reduceAdd, Nat.reduceSub, Nat.reduceLT, Nat.reduceLeDiff, Nat.reduceMul, Nat.reduceEqDiff, cond_true, cond_false, if_true, if_false, reduceIte, implies_true, forall_const, ne_eq, hhalf])
 | (refine ⟨by omega, ?_⟩)
 | (refine And.intro (by (intros; first | (simp_all (config := { decide := false }); done) | fail)) ?_)
 | fail)
  all_goals try (exfalso; omega)
  all_goals first
    | exact Frz.eq rfl (by simp)
    | (rw [Pp.rmeans, if_neg (by omega)]; exact Frz.eq rfl (by simp))
    | (rw [Pp.rmeans, if_neg (by omega), Pp.rm1, if_neg (by omega)]; exact Frz.nil)

/-- What a point means in a column, by rings of heights. -/
def Pp.RMeans (p : Pp) (t : Pt) (c : Int) : List Sp × Int :=
  if p.perr1 t ≠ 0 then ([], p.perr1 t) else if ¬ (0 ≤ c ∧ c ≤ p.co - 1) then ([], 1) else (p.rmeans t c, 0)

end Go.Proofs.Ytgpdckmbojmlpaa

namespace Go.Proofs.Ytgpdckmbojmlpaa
open Go.Abs
set_option linter.unusedVariables false
set_option linter.unusedSimpArgs false
set_option maxHeartbeats 4000000
set_option maxRecDepth 100000
-- aneroid/aneroidlaw01.PaperMeans
-- aneroid/aneroidlaw01.PaperPlaces
def c9 : CF := ⟨110,
 (.seq (.ops [
 ⟨(some 2), .box false 25 10 (.t 0), none⟩,
 ⟨(some 3), .box false 32 3 (.t 1), none⟩,
 ⟨(some 4), .mv (.c (.bool false)), none⟩] [2, 3])
 (.seq (.ops [
 ⟨(some 22), .load (some 10) (.t 2), none⟩,
 ⟨(some 23), .load (some 3) (.t 3), none⟩,
 ⟨(some 24), .call (.f 34) [(.t 22), (.t 23)], none⟩,
 ⟨(some 21), .mv (.t 24), none⟩,
 ⟨(some 25), .ext 0 (.t 21), none⟩,
 ⟨(some 26), .ext 1 (.t 21), none⟩,
 ⟨(some 5), .alloc 23 2 [.int .i64 0, .int .i64 0], none⟩,
 ⟨none, .store 2 (.t 5) (.t 25), none⟩,
 ⟨(some 6), .mv (.t 26), none⟩] [2, 3, 5, 6])
 (.seq (.ops [
 ⟨(some 28), .load (some 10) (.t 2), none⟩,
 ⟨(some 29), .load (some 3) (.t 3), none⟩,
 ⟨(some 30), .call (.f 39) [(.t 28), (.t 29)], none⟩,
 ⟨(some 27), .mv (.t 30), none⟩,
 ⟨(some 31), .ext 0 (.t 27), none⟩,
 ⟨(some 32), .ext 1 (.t 27), none⟩,
 ⟨(some 7), .alloc 23 2 [.int .i64 0, .int .i64 0], none⟩,
 ⟨none, .store 2 (.t 7) (.t 31), none⟩,
 ⟨(some 8), .mv (.t 32), none⟩] [2, 3, 5, 6, 7, 8])
 (.seq (.ops [
 ⟨(some 34), .load (some 10) (.t 2), none⟩,
 ⟨(some 35), .load (some 3) (.t 3), none⟩,
 ⟨(some 36), .call (.f 35) [(.t 34), (.t 35)], none⟩,
 ⟨(some 33), .mv (.t 36), none⟩,
 ⟨(some 37), .ext 0 (.t 33), none⟩,
 ⟨(some 38), .ext 1 (.t 33), none⟩,
 ⟨(some 9), .alloc 23 2 [.int .i64 0, .int .i64 0], none⟩,
 ⟨none, .store 2 (.t 9) (.t 37), none⟩,
 ⟨(some 10), .mv (.t 38), none⟩] [2, 3, 5, 6, 7, 8, 9, 10])
 (.seq (.ops [
 ⟨(some 40), .load (some 10) (.t 2), none⟩,
 ⟨(some 41), .load (some 3) (.t 3), none⟩,
 ⟨(some 42), .call (.f 40) [(.t 40), (.t 41)], none⟩,
 ⟨(some 39), .mv (.t 42), none⟩,
 ⟨(some 43), .ext 0 (.t 39), none⟩,
 ⟨(some 44), .ext 1 (.t 39), none⟩,
 ⟨(some 11), .alloc 23 2 [.int .i64 0, .int .i64 0], none⟩,
 ⟨none, .store 2 (.t 11) (.t 43), none⟩,
 ⟨(some 12), .mv (.t 44), none⟩] [2, 3, 5, 6, 7, 8, 9, 10, 11, 12])
 (.seq (.ops [
 ⟨(some 46), .load (some 10) (.t 2), none⟩,
 ⟨(some 47), .load (some 3) (.t 3), none⟩,
 ⟨(some 48), .call (.f 22) [(.t 46), (.t 47)], none⟩,
 ⟨(some 45), .mv (.t 48), none⟩,
 ⟨(some 49), .ext 0 (.t 45), none⟩,
 ⟨(some 50), .ext 1 (.t 45), none⟩,
 ⟨(some 13), .alloc 23 2 [.int .i64 0, .int .i64 0], none⟩,
 ⟨none, .store 2 (.t 13) (.t 49), none⟩,
 ⟨(some 14), .mv (.t 50), none⟩] [2, 3, 5, 6, 7, 8, 9, 10, 11, 12, 13, 14])
 (.seq (.ops [
 ⟨(some 52), .load (some 10) (.t 2), none⟩,
 ⟨(some 53), .load (some 3) (.t 3), none⟩,
 ⟨(some 54), .call (.f 41) [(.t 52), (.t 53)], none⟩,
 ⟨(some 51), .mv (.t 54), none⟩,
 ⟨(some 55), .ext 0 (.t 51), none⟩,
 ⟨(some 56), .ext 1 (.t 51), none⟩,
 ⟨(some 15), .alloc 23 2 [.int .i64 0, .int .i64 0], none⟩,
 ⟨none, .store 2 (.t 15) (.t 55), none⟩,
 ⟨(some 16), .mv (.t 56), none⟩] [2, 3, 5, 6, 7, 8, 9, 10, 11, 12, 13, 14, 15, 16])
 (.seq (.ops [
 ⟨(some 58), .load (some 10) (.t 2), none⟩,
 ⟨(some 59), .load (some 3) (.t 3), none⟩,
 ⟨(some 60), .call (.f 42) [(.t 58), (.t 59)], none⟩,
 ⟨(some 57), .mv (.t 60), none⟩,
 ⟨(some 61), .ext 0 (.t 57), none⟩,
 ⟨(some 62), .ext 1 (.t 57), none⟩,
 ⟨(some 17), .alloc 23 2 [.int .i64 0, .int .i64 0], none⟩,
 ⟨none, .store 2 (.t 17) (.t 61), none⟩,
 ⟨(some 18), .mv (.t 62), none⟩] [2, 3, 5, 6, 7, 8, 9, 10, 11, 12, 13, 14, 15, 16, 17, 18])
 (.seq (.ops [
 ⟨(some 64), .load (some 10) (.t 2), none⟩,
 ⟨(some 65), .load (some 3) (.t 3), none⟩,
 ⟨(some 66), .call (.f 43) [(.t 64), (.t 65)], none⟩,
 ⟨(some 63), .mv (.t 66), none⟩,
 ⟨(some 67), .ext 0 (.t 63), none⟩,
 ⟨(some 68), .ext 1 (.t 63), none⟩,
 ⟨(some 19), .alloc 23 2 [.int .i64 0, .int .i64 0], none⟩,
 ⟨none, .store 2 (.t 19) (.t 67), none⟩,
 ⟨(some 20), .mv (.t 68), none⟩] [5, 6, 7, 8, 9, 10, 11, 12, 13, 14, 15, 16, 17, 18, 19, 20])
 (.seq (.ops [
 ⟨(some 69), .call (.f 18) [], none⟩,
 ⟨(some 70), .mv (.t 69), none⟩,
 ⟨(some 71), .load (some 2) (.t 5), (some (70, true))⟩,
 ⟨(some 72), .load (some 2) (.t 7), (some (70, true))⟩,
 ⟨(some 73), .eqs false [some .i64, some .i64] (.t 71) (.t 72), (some (70, true))⟩,
 ⟨(some 74), .pick (.t 70) (.t 73) (.c (.bool false)), none⟩,
 ⟨(some 75), .mv (.t 74), none⟩,
 ⟨(some 76), .mv (.t 6), (some (75, true))⟩,
 ⟨(some 77), .mv (.t 8), (some (75, true))⟩,
 ⟨(some 78), .bin .eql (.t 76) (.t 77), (some (75, true))⟩,
 ⟨(some 79), .pick (.t 75) (.t 78) (.c (.bool false)), none⟩,
 ⟨(some 80), .mv (.t 79), none⟩,
 ⟨(some 81), .load (some 2) (.t 9), (some (80, true))⟩,
 ⟨(some 82), .load (some 2) (.t 11), (some (80, true))⟩,
 ⟨(some 83), .eqs false [some .i64, some .i64] (.t 81) (.t 82), (some (80, true))⟩,
 ⟨(some 84), .pick (.t 80) (.t 83) (.c (.bool false)), none⟩,
 ⟨(some 85), .mv (.t 84), none⟩,
 ⟨(some 86), .mv (.t 10), (some (85, true))⟩,
 ⟨(some 87), .mv (.t 12), (some (85, true))⟩,
 ⟨(some 88), .bin .eql (.t 86) (.t 87), (some (85, true))⟩,
 ⟨(some 89), .pick (.t 85) (.t 88) (.c (.bool false)), none⟩,
 ⟨(some 90), .mv (.t 89), none⟩,
 ⟨(some 91), .load (some 2) (.t 13), (some (90, true))⟩,
 ⟨(some 92), .load (some 2) (.t 15), (some (90, true))⟩,
 ⟨(some 93), .eqs false [some .i64, some .i64] (.t 91) (.t 92), (some (90, true))⟩,
 ⟨(some 94), .pick (.t 90) (.t 93) (.c (.bool false)), none⟩,
 ⟨(some 95), .mv (.t 94), none⟩,
 ⟨(some 96), .mv (.t 14), (some (95, true))⟩,
 ⟨(some 97), .mv (.t 16), (some (95, true))⟩,
 ⟨(some 98), .bin .eql (.t 96) (.t 97), (some (95, true))⟩,
 ⟨(some 99), .pick (.t 95) (.t 98) (.c (.bool false)), none⟩,
 ⟨(some 100), .mv (.t 99), none⟩,
 ⟨(some 101), .load (some 2) (.t 17), (some (100, true))⟩,
 ⟨(some 102), .load (some 2) (.t 19), (some (100, true))⟩,
 ⟨(some 103), .eqs false [some .i64, some .i64] (.t 101) (.t 102), (some (100, true))⟩,
 ⟨(some 104), .pick (.t 100) (.t 103) (.c (.bool false)), none⟩,
 ⟨(some 105), .mv (.t 104), none⟩,
 ⟨(some 106), .mv (.t 18), (some (105, true))⟩,
 ⟨(some 107), .mv (.t 20), (some (105, true))⟩,
 ⟨(some 108), .bin .eql (.t 106) (.t 107), (some (105, true))⟩,
 ⟨(some 109), .pick (.t 105) (.t 108) (.c (.bool false)), none⟩,
 ⟨(some 4), .mv (.t 109), none⟩] [4])
 .ret)))))))))),
 [.t 4]⟩
-- aneroid/aneroidlaw01.PaperBack
theorem rise_push (l : List Sp) (v : Int) : rise l v = push l ⟨v, v⟩ := by
  unfold rise push
  split <;> simp_all

theorem hit_hitA (p : Pp) (t : Pt) (c y : Int) (hg : p.good) : p.hit t c y ↔ p.hitA t c y := by
  have h1 : 0 < p.pi := by have := hg.1; omega
  unfold Pp.hit Pp.hitA Pp.abd
  have e1 := Int.ediv_lt_iff_lt_mul (a := (p.along t).lo - p.arc y) (b := c + 1) h1
  have e2 := Int.le_ediv_iff_mul_le (a := c) (b := (p.along t).hi - p.arc y) h1
  simp only
  omega

theorem places_le (s : Sp) (x h : Int) (hs : s.ok) (hx : 0 ≤ x) (hh : 0 ≤ h) : (s.places x h).lo ≤ (s.places x h).hi := by
  have h3 : 0 ≤ ((x + h) * 1000) / s.lo := Int.ediv_nonneg (by omega) (by omega)
  have h1 : ((x - h) * 1000) / s.hi ≤ ((x + h) * 1000) / s.hi := Int.ediv_le_ediv (by omega) (by omega)
  have h2 : ((x + h) * 1000) / s.hi ≤ ((x + h) * 1000) / s.lo := by
    rw [Int.le_ediv_iff_mul_le (by omega)]
    have g1 := Int.ediv_mul_le ((x + h) * 1000) (show s.hi ≠ 0 by omega)
    have g2 : 0 ≤ ((x + h) * 1000) / s.hi := Int.ediv_nonneg (by omega) (by omega)
    have g3 := Int.mul_le_mul_of_nonneg_left (show s.lo ≤ s.hi by omega) g2
    omega
  simp only [Sp.places]
  omega

theorem along_le (p : Pp) (t : Pt) (hg : p.good) (ht : t.right) : (p.along t).lo ≤ (p.along t).hi := places_le p.al t.x t.h hg.al ht.1 ht.2.2.2.2.1

theorem cnt_eq (p : Pp) (t : Pt) (y : Int) : ((p.heights t).lo ≤ y ∧ y ≤ (p.heights t).hi) ↔ ∃ j : Nat, j < p.cnt t ∧ y = (p.heights t).lo + j := by
  unfold Pp.cnt
  constructor
  · rintro ⟨h1, h2⟩; exact ⟨(y - (p.heights t).lo).toNat, by omega, by omega⟩
  · rintro ⟨j, h1, h2⟩; omega

theorem ms_set (p : Pp) (t : Pt) (c : Int) (hg : p.good) (ht : t.right) : ∀ k, k ≤ p.cnt t → Norm (p.ms t c k) ∧ (∀ v, Mem v (p.ms t c k) ↔ ∃ j : Nat, j < k ∧ p.hitA t c ((p.heights t).lo + j) ∧ p.level ((p.heights t).lo + j) = v) ∧
    ∀ s ∈ p.ms t c k, s.lo ≤ p.level ((p.heights t).lo + k) := by
  have hb := heights_bd p t hg ht
  intro k
  induction k with
  | zero => intro _; exact ⟨trivial, fun v => ⟨fun h => absurd h Mem.nil, fun ⟨j, h, _⟩ => absurd h (Nat.not_lt_zero _)⟩, fun s hs => absurd hs (List.not_mem_nil)⟩
  | succ k ih =>
    intro hk
    obtain ⟨i1, i2, i3⟩ := ih (by omega)
    have hmono : p.level ((p.heights t).lo + k) ≤ p.level ((p.heights t).lo + (k + 1 : Nat)) := level_mono p hg (by omega) (by omega)
    unfold Pp.ms
    split
    · rename_i hit
      rw [hit_hitA p t c _ hg] at hit
      rw [rise_push]
      obtain ⟨j1, j2, j3⟩ := push_spec (x := ⟨p.level ((p.heights t).lo + k), p.level ((p.heights t).lo + k)⟩) i1 (Int.le_refl _) i3
      refine ⟨j1, fun v => ?_, fun s hs => Int.le_trans (j3 s hs) hmono⟩
      rw [j2, i2]
      constructor
      · rintro (⟨j, g1, g2, g3⟩ | h)
        · exact ⟨j, by omega, g2, g3⟩
        · simp only at h; exact ⟨k, by omega, hit, by omega⟩
      · rintro ⟨j, g1, g2, g3⟩
        by_cases e : j = k
        · subst e; right; simp only; omega
        · exact .inl ⟨j, by omega, g2, g3⟩
    · rename_i hit
      rw [hit_hitA p t c _ hg] at hit
      refine ⟨i1, fun v => ?_, fun s hs => Int.le_trans (i3 s hs) hmono⟩
      rw [i2]
      constructor
      · rintro ⟨j, g1, g2, g3⟩; exact ⟨j, by omega, g2, g3⟩
      · rintro ⟨j, g1, g2, g3⟩
        by_cases e : j = k
        · subst e; exact absurd g2 hit
        · exact ⟨j, by omega, g2, g3⟩

theorem ms_eq (p : Pp) (t : Pt) (c : Int) (hg : p.good) (ht : t.right) : p.ms t c (p.cnt t) = p.rmeans t c := by
  obtain ⟨n1, m1, _⟩ := ms_set p t c hg ht (p.cnt t) (Nat.le_refl _)
  obtain ⟨n2, m2, _⟩ := rmeans_set p t c hg ht
  refine n1.ext n2 fun v => ?_
  rw [m1, m2]
  constructor
  · rintro ⟨j, h1, h2, h3⟩; exact ⟨_, (cnt_eq p t _).2 ⟨j, h1, rfl⟩, h2, h3⟩
  · rintro ⟨y, h1, h2, h3⟩
    obtain ⟨j, g1, rfl⟩ := (cnt_eq p t _).1 h1
    exact ⟨j, g1, h2, h3⟩

theorem means_eq (p : Pp) (t : Pt) (c : Int) : p.Means t c = p.RMeans t c := by
  unfold Pp.Means Pp.RMeans
  split
  · rfl
  · rename_i h
    obtain ⟨hg, ht⟩ := perr0 (by simpa using h)
    split
    · rfl
    · rw [ms_eq p t c hg ht]

/-- The printed places of a point in a column. -/
def Pp.In (p : Pp) (t : Pt) (c y : Int) : Prop := ((p.heights t).lo ≤ y ∧ y ≤ (p.heights t).hi) ∧ p.hitA t c y

theorem arc_between (p : Pp) (s : Sp) (hg : p.good) (h0 : 0 ≤ s.lo) (h2 : s.hi ≤ p.he) (y : Int) (h3 : s.lo ≤ y) (h4 : y ≤ s.hi) : (p.arcs s).lo ≤ p.arc y ∧ p.arc y ≤ (p.arcs s).hi := by
  have hle : 0 < p.he := by have := hg.2.2.1; omega
  simp only [Pp.arcs]
  have fall : ∀ {a b : Int}, p.he / 2 ≤ a → a ≤ b → b ≤ p.he → p.arc b ≤ p.arc a := by
    intro a b ha hab hb
    by_cases e : p.he / 2 < a
    · rw [← arc_sym p a, ← arc_sym p b]; exact arc_mono p hg (by omega) (by omega) (by omega)
    · obtain rfl : a = p.he / 2 := by omega
      exact arc_mid p b hg (by omega) (by omega)
  constructor
  · by_cases hy : y ≤ p.he / 2
    · have := arc_mono p hg h0 h3 hy; omega
    · have := fall (a := y) (b := s.hi) (by omega) h4 h2; omega
  · by_cases hy : y ≤ max s.lo (min s.hi (p.he / 2))
    · by_cases e : max s.lo (min s.hi (p.he / 2)) ≤ p.he / 2
      · exact arc_mono p hg (by omega) hy e
      · rw [show max s.lo (min s.hi (p.he / 2)) = s.lo by omega] at hy ⊢
        obtain rfl : y = s.lo := by omega
        exact Int.le_refl _
    · exact fall (by omega) (by omega) (by omega)

theorem arc_reach (p : Pp) (hg : p.good) (N : Int) : ∀ (k : Nat) (a b : Int), (b - a).toNat ≤ k → 0 ≤ a → a ≤ b → b ≤ p.he → (p.arc a ≤ N ∧ N ≤ p.arc b ∨ p.arc b ≤ N ∧ N ≤ p.arc a) → ∃ y, a ≤ y ∧ y ≤ b ∧ p.arc y = N
  | 0, a, b, hk, h0, hab, hb, h => ⟨a, by omega, by omega, by obtain rfl : a = b := (by omega); omega⟩
  | k + 1, a, b, hk, h0, hab, hb, h => by
    by_cases e : p.arc a = N
    · exact ⟨a, by omega, by omega, e⟩
    · by_cases hlt : a = b
      · subst hlt; omega
      · have hn := arc_next p a hg h0 (by omega)
        obtain ⟨y, h1, h2, h3⟩ := arc_reach p hg N k (a + 1) b (by omega) (by omega) (by omega) hb (by omega)
        exact ⟨y, by omega, h2, h3⟩

theorem rcols_in (p : Pp) (t : Pt) (hg : p.good) (ht : t.right) (c : Int) (c0 : 0 ≤ c) (c1 : c < p.co) : ((p.rcols t).lo ≤ c ∧ c ≤ (p.rcols t).hi) ↔ ∃ y, p.In t c y := by
  have hb := heights_bd p t hg ht
  have hle := along_le p t hg ht
  have hpi : 0 < p.pi := by have := hg.1; omega
  unfold Pp.rcols Pp.In
  split
  · constructor
    · intro h; simp only at h; omega
    · rintro ⟨y, h, _⟩; omega
  · rename_i hne
    have e1 := Int.ediv_lt_iff_lt_mul (a := (p.along t).lo - (p.arcs (p.heights t)).hi) (b := c + 1) hpi
    have e2 := Int.le_ediv_iff_mul_le (a := c) (b := (p.along t).hi - (p.arcs (p.heights t)).lo) hpi
    have key : (max 0 (((p.along t).lo - (p.arcs (p.heights t)).hi) / p.pi) ≤ c ∧ c ≤ min (p.co - 1) (((p.along t).hi - (p.arcs (p.heights t)).lo) / p.pi)) ↔ (p.abd t c).lo ≤ (p.arcs (p.heights t)).hi ∧ (p.arcs (p.heights t)).lo ≤ (p.abd t c).hi := by
      simp only [Pp.abd]; omega
    simp only
    rw [key]
    constructor
    · rintro ⟨k1, k2⟩
      have hA : (p.abd t c).lo ≤ (p.abd t c).hi := by
        simp only [Pp.abd]; rw [Int.add_mul]; omega
      -- where the arc is least, and where it is greatest
      obtain ⟨m, m1, m2, m3⟩ : ∃ m, (p.heights t).lo ≤ m ∧ m ≤ (p.heights t).hi ∧ p.arc m = (p.arcs (p.heights t)).lo := by
        simp only [Pp.arcs]
        by_cases g : p.arc (p.heights t).lo ≤ p.arc (p.heights t).hi
        · exact ⟨_, Int.le_refl _, by omega, by omega⟩
        · exact ⟨(p.heights t).hi, by omega, Int.le_refl _, by omega⟩
      obtain ⟨M, M1, M2, M3⟩ : ∃ M, (p.heights t).lo ≤ M ∧ M ≤ (p.heights t).hi ∧ p.arc M = (p.arcs (p.heights t)).hi := ⟨_, by omega, by omega, rfl⟩
      by_cases g : (p.abd t c).lo ≤ p.arc m
      · exact ⟨m, ⟨m1, m2⟩, g, by omega⟩
      · by_cases hmM : m ≤ M
        · obtain ⟨y, h1, h2, h3⟩ := arc_reach p hg (p.abd t c).lo (M - m).toNat m M (Nat.le_refl _) (by omega) hmM (by omega) (.inl (by omega))
          exact ⟨y, by omega, by omega, by omega⟩
        · obtain ⟨y, h1, h2, h3⟩ := arc_reach p hg (p.abd t c).lo (m - M).toNat M m (Nat.le_refl _) (by omega) (by omega) (by omega) (.inr (by omega))
          exact ⟨y, by omega, by omega, by omega⟩
    · rintro ⟨y, ⟨h1, h2⟩, h3, h4⟩
      have := arc_between p (p.heights t) hg hb.1 hb.2.2.2 y h1 h2
      omega

end Go.Proofs.Ytgpdckmbojmlpaa

namespace Go.Proofs.Ytgpdckmbojmlpaa
open Go.Abs
set_option linter.unusedVariables false
set_option linter.unusedSimpArgs false
set_option maxHeartbeats 4000000
set_option maxRecDepth 100000
-- aneroid/aneroidlaw01.has
-- aneroid/aneroidlaw01.floor
-- aneroid/aneroidlaw01.inside
def c20 : CF := ⟨17,
 (.seq (.ops [
 ⟨(some 2), .box false 23 2 (.t 0), none⟩,
 ⟨(some 3), .box false 23 2 (.t 1), none⟩,
 ⟨(some 4), .mv (.c (.bool false)), none⟩] [2, 3])
 (.seq (.ops [
 ⟨(some 5), .faddr 0 (.t 3), none⟩,
 ⟨(some 6), .load none (.t 5), none⟩,
 ⟨(some 7), .faddr 0 (.t 2), none⟩,
 ⟨(some 8), .load none (.t 7), none⟩,
 ⟨(some 9), .bin .leq (.t 6) (.t 8), none⟩,
 ⟨(some 10), .mv (.t 9), none⟩,
 ⟨(some 11), .faddr 1 (.t 2), (some (10, true))⟩,
 ⟨(some 12), .load none (.t 11), (some (10, true))⟩,
 ⟨(some 13), .faddr 1 (.t 3), (some (10, true))⟩,
 ⟨(some 14), .load none (.t 13), (some (10, true))⟩,
 ⟨(some 15), .bin .leq (.t 12) (.t 14), (some (10, true))⟩,
 ⟨(some 16), .pick (.t 10) (.t 15) (.c (.bool false)), none⟩,
 ⟨(some 4), .mv (.t 16), none⟩] [4])
 .ret)),
 [.t 4]⟩
-- aneroid/aneroidlaw01.witness
-- aneroid/aneroidlaw01.PaperNarrower
def c4 : CF := ⟨128,
 (.seq (.ops [
 ⟨(some 6), .box false 25 10 (.t 0), none⟩,
 ⟨(some 7), .box false 32 3 (.t 1), none⟩,
 ⟨(some 8), .box false 23 2 (.t 2), none⟩,
 ⟨(some 9), .box false 23 2 (.t 3), none⟩,
 ⟨(some 12), .mv (.c (.bool false)), none⟩] [4, 5, 6, 7, 8, 9])
 (.seq (.ops [
 ⟨(some 27), .call (.f 18) [], none⟩,
 ⟨(some 13), .mv (.t 27), none⟩] [4, 5, 6, 7, 8, 9, 13])
 (.seq (.ops [
 ⟨(some 28), .load (some 10) (.t 6), none⟩,
 ⟨(some 14), .alloc 25 10 [.int .i64 0, .int .i64 0, .int .i64 0, .int .i64 0, .int .i64 0, .int .i64 0, .int .i64 0, .int .i64 0, .int .i64 0, .int .i64 0], none⟩,
 ⟨none, .store 10 (.t 14) (.t 28), none⟩] [4, 5, 6, 7, 8, 9, 13, 14])
 (.seq (.ops [
 ⟨(some 29), .load (some 2) (.t 8), none⟩,
 ⟨(some 30), .faddr 6 (.t 14), none⟩,
 ⟨none, .store 2 (.t 30) (.t 29), none⟩] [4, 5, 6, 7, 8, 9, 13, 14])
 (.seq (.ops [
 ⟨(some 31), .load (some 2) (.t 9), none⟩,
 ⟨(some 32), .faddr 8 (.t 14), none⟩,
 ⟨none, .store 2 (.t 32) (.t 31), none⟩] [4, 5, 6, 7, 8, 9, 13, 14])
 (.seq (.ops [
 ⟨(some 33), .load (some 3) (.t 7), none⟩,
 ⟨(some 15), .alloc 32 3 [.int .i64 0, .int .i64 0, .int .i64 0], none⟩,
 ⟨none, .store 3 (.t 15) (.t 33), none⟩] [4, 5, 6, 7, 8, 9, 13, 14, 15])
 (.seq (.ops [
 ⟨(some 34), .mv (.t 4), none⟩,
 ⟨(some 35), .faddr 2 (.t 15), none⟩,
 ⟨none, .store 1 (.t 35) (.t 34), none⟩] [4, 5, 6, 7, 8, 9, 13, 14, 15])
 (.seq (.seq (.ops [
 ⟨(some 36), .load (some 2) (.t 8), none⟩,
 ⟨(some 37), .faddr 6 (.t 6), none⟩,
 ⟨(some 38), .load (some 2) (.t 37), none⟩,
 ⟨(some 39), .call (.f 20) [(.t 36), (.t 38)], none⟩,
 ⟨(some 40), .un .not (.t 39), none⟩,
 ⟨(some 41), .mv (.t 40), none⟩,
 ⟨(some 42), .load (some 2) (.t 9), (some (41, false))⟩,
 ⟨(some 43), .faddr 8 (.t 6), (some (41, false))⟩,
 ⟨(some 44), .load (some 2) (.t 43), (some (41, false))⟩,
 ⟨(some 45), .call (.f 20) [(.t 42), (.t 44)], (some (41, false))⟩,
 ⟨(some 46), .un .not (.t 45), (some (41, false))⟩,
 ⟨(some 47), .pick (.t 41) (.c (.bool true)) (.t 46), none⟩,
 ⟨(some 48), .mv (.t 47), none⟩,
 ⟨(some 49), .mv (.t 4), (some (48, false))⟩,
 ⟨(some 50), .faddr 2 (.t 7), (some (48, false))⟩,
 ⟨(some 51), .load none (.t 50), (some (48, false))⟩,
 ⟨(some 52), .bin .gtr (.t 49) (.t 51), (some (48, false))⟩,
 ⟨(some 53), .pick (.t 48) (.c (.bool true)) (.t 52), none⟩] [5, 6, 7, 13, 14, 15, 53])
 (.cond (.t 53) (.seq (.ops [
 ⟨(some 54), .mv (.t 13), none⟩,
 ⟨(some 12), .mv (.t 54), none⟩] [12])
 .ret)
 .skip))
 (.seq (.ops [
 ⟨(some 56), .load (some 10) (.t 6), none⟩,
 ⟨(some 57), .load (some 3) (.t 7), none⟩,
 ⟨(some 58), .mv (.t 5), none⟩,
 ⟨(some 59), .call (.f 21) [(.t 56), (.t 57), (.t 58)], none⟩,
 ⟨(some 55), .mv (.t 59), none⟩,
 ⟨(some 60), .ext 0 (.t 55), none⟩,
 ⟨(some 61), .ext 1 (.t 55), none⟩,
 ⟨(some 16), .mv (.t 60), none⟩,
 ⟨(some 17), .mv (.t 61), none⟩] [5, 6, 7, 13, 14, 15, 16, 17])
 (.seq (.ops [
 ⟨(some 63), .load (some 10) (.t 14), none⟩,
 ⟨(some 64), .load (some 3) (.t 15), none⟩,
 ⟨(some 65), .mv (.t 5), none⟩,
 ⟨(some 66), .call (.f 21) [(.t 63), (.t 64), (.t 65)], none⟩,
 ⟨(some 62), .mv (.t 66), none⟩,
 ⟨(some 67), .ext 0 (.t 62), none⟩,
 ⟨(some 68), .ext 1 (.t 62), none⟩,
 ⟨(some 18), .mv (.t 67), none⟩,
 ⟨(some 19), .mv (.t 68), none⟩] [6, 7, 13, 14, 15, 16, 17, 18, 19])
 (.seq (.seq (.ops [
 ⟨(some 69), .mv (.t 17), none⟩,
 ⟨(some 70), .bin .neq (.t 69) (.c (.int .i64 0)), none⟩,
 ⟨(some 71), .mv (.t 70), none⟩,
 ⟨(some 72), .mv (.t 19), (some (71, false))⟩,
 ⟨(some 73), .bin .neq (.t 72) (.c (.int .i64 0)), (some (71, false))⟩,
 ⟨(some 74), .pick (.t 71) (.c (.bool true)) (.t 73), none⟩] [6, 7, 13, 14, 15, 16, 18, 74])
 (.cond (.t 74) (.seq (.ops [
 ⟨(some 75), .mv (.t 13), none⟩,
 ⟨(some 12), .mv (.t 75), none⟩] [12])
 .ret)
 .skip))
 (.seq (.seq (.ops [
 ⟨(some 20), .mv (.c (.int .i64 0)), none⟩] [6, 7, 13, 14, 15, 16, 18, 20])
 (.block 0 (.loop (.seq (.seq (.ops [
 ⟨(some 76), .mv (.t 20), none⟩,
 ⟨(some 77), .mv (.t 18), none⟩,
 ⟨(some 78), .len (.t 77), none⟩,
 ⟨(some 79), .bin .lss (.t 76) (.t 78), none⟩] [6, 7, 13, 14, 15, 16, 18, 20, 79])
 (.cond (.t 79) .skip
 (.exit 0)))
 (.seq (.block 1 (.seq (.ops [
 ⟨(some 21), .mv (.c (.bool false)), none⟩] [6, 7, 13, 14, 15, 16, 18, 20, 21])
 (.seq (.seq (.ops [
 ⟨(some 22), .mv (.c (.int .i64 0)), none⟩] [6, 7, 13, 14, 15, 16, 18, 20, 21, 22])
 (.block 2 (.loop (.seq (.seq (.ops [
 ⟨(some 82), .mv (.t 22), none⟩,
 ⟨(some 83), .mv (.t 16), none⟩,
 ⟨(some 84), .len (.t 83), none⟩,
 ⟨(some 85), .bin .lss (.t 82) (.t 84), none⟩] [6, 7, 13, 14, 15, 16, 18, 20, 21, 22, 85])
 (.cond (.t 85) .skip
 (.exit 2)))
 (.seq (.block 3 (.draw [
 ⟨(some 88), .mv (.t 21), none⟩,
 ⟨(some 89), .mv (.t 88), none⟩,
 ⟨(some 90), .mv (.t 18), (some (89, false))⟩,
 ⟨(some 91), .mv (.t 20), (some (89, false))⟩,
 ⟨(some 92), .iaddr 2 (.t 90) (.t 91), (some (89, false))⟩,
 ⟨(some 93), .load (some 2) (.t 92), (some (89, false))⟩,
 ⟨(some 94), .mv (.t 16), (some (89, false))⟩,
 ⟨(some 95), .mv (.t 22), (some (89, false))⟩,
 ⟨(some 96), .iaddr 2 (.t 94) (.t 95), (some (89, false))⟩,
 ⟨(some 97), .load (some 2) (.t 96), (some (89, false))⟩,
 ⟨(some 98), .call (.f 20) [(.t 93), (.t 97)], (some (89, false))⟩,
 ⟨(some 99), .pick (.t 89) (.c (.bool true)) (.t 98), none⟩] [
 ⟨(some 21), .mv (.t 99), none⟩] [6, 7, 13, 14, 15, 16, 18, 20, 21, 22]))
 (.ops [
 ⟨(some 86), .mv (.t 22), none⟩,
 ⟨(some 87), .bin .add (.t 86) (.c (.int .i64 1)), none⟩,
 ⟨(some 22), .mv (.t 87), none⟩] [6, 7, 13, 14, 15, 16, 18, 20, 21, 22]))))))
 (.seq (.ops [
 ⟨(some 100), .mv (.t 21), none⟩,
 ⟨(some 101), .un .not (.t 100), none⟩] [6, 7, 13, 14, 15, 16, 18, 20, 101])
 (.cond (.t 101) (.seq (.ops [
 ⟨(some 12), .mv (.c (.bool false)), none⟩] [12])
 .ret)
 .skip)))))
 (.ops [
 ⟨(some 80), .mv (.t 20), none⟩,
 ⟨(some 81), .bin .add (.t 80) (.c (.int .i64 1)), none⟩,
 ⟨(some 20), .mv (.t 81), none⟩] [6, 7, 13, 14, 15, 16, 18, 20]))))))
 (.seq (.ops [
 ⟨(some 103), .load (some 10) (.t 6), none⟩,
 ⟨(some 104), .load (some 3) (.t 7), none⟩,
 ⟨(some 105), .call (.f 22) [(.t 103), (.t 104)], none⟩,
 ⟨(some 102), .mv (.t 105), none⟩,
 ⟨(some 106), .ext 0 (.t 102), none⟩,
 ⟨(some 107), .ext 1 (.t 102), none⟩,
 ⟨(some 23), .alloc 23 2 [.int .i64 0, .int .i64 0], none⟩,
 ⟨none, .store 2 (.t 23) (.t 106), none⟩,
 ⟨(some 24), .mv (.t 107), none⟩] [13, 14, 15, 23, 24])
 (.seq (.ops [
 ⟨(some 109), .load (some 10) (.t 14), none⟩,
 ⟨(some 110), .load (some 3) (.t 15), none⟩,
 ⟨(some 111), .call (.f 22) [(.t 109), (.t 110)], none⟩,
 ⟨(some 108), .mv (.t 111), none⟩,
 ⟨(some 112), .ext 0 (.t 108), none⟩,
 ⟨(some 113), .ext 1 (.t 108), none⟩,
 ⟨(some 25), .alloc 23 2 [.int .i64 0, .int .i64 0], none⟩,
 ⟨none, .store 2 (.t 25) (.t 112), none⟩,
 ⟨(some 26), .mv (.t 113), none⟩] [13, 23, 24, 25, 26])
 (.seq (.ops [
 ⟨(some 114), .mv (.t 13), none⟩,
 ⟨(some 115), .mv (.t 114), none⟩,
 ⟨(some 116), .mv (.t 26), (some (115, true))⟩,
 ⟨(some 117), .bin .neq (.t 116) (.c (.int .i64 0)), (some (115, true))⟩,
 ⟨(some 118), .mv (.t 117), (some (115, true))⟩,
 ⟨(some 119), .mv (.t 24), (some (118, false))⟩,
 ⟨(some 120), .bin .eql (.t 119) (.c (.int .i64 0)), (some (118, false))⟩,
 ⟨(some 121), .mv (.t 120), (some (118, false))⟩,
 ⟨(some 122), .load (some 2) (.t 25), (some (121, true))⟩,
 ⟨(some 123), .load (some 2) (.t 23), (some (121, true))⟩,
 ⟨(some 124), .call (.f 20) [(.t 122), (.t 123)], (some (121, true))⟩,
 ⟨(some 125), .pick (.t 121) (.t 124) (.c (.bool false)), (some (118, false))⟩,
 ⟨(some 126), .pick (.t 118) (.c (.bool true)) (.t 125), (some (115, true))⟩,
 ⟨(some 127), .pick (.t 115) (.t 126) (.c (.bool false)), none⟩,
 ⟨(some 12), .mv (.t 127), none⟩] [12])
 .ret))))))))))))))),
 [.t 12]⟩
-- aneroid/aneroidlaw01.PaperExact
theorem k20 : chkF Try.prog Try.f20 c20 = true := by kernel_rfl
theorem k4 : chkF Try.prog Try.f4 c4 = true := by kernel_rfl
theorem inside_spec (a b : Sp) : Pure Try.prog 20 [.agg a.cs, .agg b.cs] (bl (decide (b.lo ≤ a.lo ∧ a.hi ≤ b.hi))) := by
  refine Pure.of_body Try.call20 Try.func20 k20 (Nat.le_of_ble_eq_true rfl) ?_
  unfold c20
  (repeat' first
 | (refine AWPC.of_vcn rfl ?_; simp only [zT, zV, zS, zU, vcC, lateX, ex, strp, cnd, binA, kseq, kblk, kret, klp, Abs.one, elems, cells, scalar, eqC, Nat.reduceBEq, Nat.reduceAdd, Nat.reduceSub, Nat.reduceLT, Nat.reduceLeDiff, Nat.reduceMul, Nat.reduceEqDiff, cond_true, cond_false, if_true, if_false, reduceIte, implies_true, forall_const, ne_eq])
 | (simp (disch := omega) only [wr64, Int.zero_sub]; try simp only [zT, zV, zS, zU, vcC, lateX, ex, strp, cnd, binA, kseq, kblk, kret, klp, Abs.one, elems, cells, scalar, eqC, Nat.reduceBEq, Nat.reduceAdd, Nat.reduceSub, Nat.reduceLT, Nat.reduceLeDiff, Nat.reduceMul, Nat.reduceEqDiff, cond_true, cond_false, if_true, if_false, reduceIte, implies_true, forall_const, ne_eq])
 | (refine AWPC.both (fun _ => ?_) (fun _ => ?_))
 | (refine AWPC.imp (fun _ => ?_))
 | ((refine .inl ⟨_, _, _, .any, rfl, fun h => absurd h Bool.false_ne_true, ?_⟩); refine owp_of_exs ?_; simp only [zT, zV, zS, zU, vcC, lateX, ex, strp, cnd, binA, kseq, kblk, kret, klp, Abs.one, elems, cells, scalar, eqC, Nat.reduceBEq, Nat.reduceAdd, Nat.reduceSub, Nat.reduceLT, Nat.reduceLeDiff, Nat.reduceMul, Nat.reduceEqDiff, cond_true, cond_false, if_true, if_false, reduceIte, implies_true, forall_const, ne_eq])
 | (refine ⟨by omega, ?_⟩)
 | (refine And.intro (by (intros; first | (simp_all (config := { decide := false }); done) | fail)) ?_)
 | fail)
  exact Frz.eq rfl (by simp)

end Go.Proofs.Ytgpdckmbojmlpaa

namespace Go.Proofs.Ytgpdckmbojmlpaa
open Go.Abs
set_option linter.unusedVariables false
set_option linter.unusedSimpArgs false
set_option maxHeartbeats 4000000
set_option maxRecDepth 100000

/-- Does some printed place of a point have a level and a column? -/
def Pp.W (p : Pp) (x y : Sp) (l c : Int) : Prop := (p.Hts l).2 = 0 ∧ ∃ z, max (p.Hts l).1.lo y.lo ≤ z ∧ z ≤ min (p.Hts l).1.hi y.hi ∧ (x.lo - p.arc z) / p.pi ≤ c ∧ c ≤ (x.hi - p.arc z) / p.pi

end Go.Proofs.Ytgpdckmbojmlpaa

namespace Go.Proofs.Ytgpdckmbojmlpaa
open Go.Abs
set_option linter.unusedVariables false
set_option linter.unusedSimpArgs false
set_option maxHeartbeats 4000000
set_option maxRecDepth 100000
-- aneroid/aneroidlaw01.few
def c44 : CF := ⟨23,
 (.seq (.ops [
 ⟨(some 4), .mv (.c (.bool false)), none⟩] [0, 1])
 (.seq (.ops [
 ⟨(some 5), .mv (.t 1), none⟩,
 ⟨(some 6), .len (.t 5), none⟩,
 ⟨(some 7), .bin .leq (.t 6) (.c (.int .i64 300)), none⟩,
 ⟨(some 8), .mv (.t 7), none⟩,
 ⟨(some 9), .mv (.t 0), (some (8, true))⟩,
 ⟨(some 10), .len (.t 9), (some (8, true))⟩,
 ⟨(some 11), .bin .leq (.t 10) (.c (.int .i64 30)), (some (8, true))⟩,
 ⟨(some 12), .mv (.t 11), (some (8, true))⟩,
 ⟨(some 13), .mv (.t 0), (some (12, false))⟩,
 ⟨(some 14), .len (.t 13), (some (12, false))⟩,
 ⟨(some 15), .bin .gtr (.t 14) (.c (.int .i64 2000)), (some (12, false))⟩,
 ⟨(some 16), .mv (.t 15), (some (12, false))⟩,
 ⟨(some 17), .mv (.t 0), (some (16, true))⟩,
 ⟨(some 18), .len (.t 17), (some (16, true))⟩,
 ⟨(some 19), .bin .lss (.t 18) (.c (.int .i64 2100)), (some (16, true))⟩,
 ⟨(some 20), .pick (.t 16) (.t 19) (.c (.bool false)), (some (12, false))⟩,
 ⟨(some 21), .pick (.t 12) (.c (.bool true)) (.t 20), (some (8, true))⟩,
 ⟨(some 22), .pick (.t 8) (.t 21) (.c (.bool false)), none⟩,
 ⟨(some 4), .mv (.t 22), none⟩] [4])
 .ret)),
 [.t 4]⟩
-- aneroid/aneroidlaw01.small
-- aneroid/paper.right
def c102 : CF := ⟨43,
 (.seq (.ops [
 ⟨(some 2), .mv (.c (.bool false)), none⟩] [0])
 (.seq (.seq (.ops [
 ⟨(some 5), .mv (.t 0), none⟩,
 ⟨(some 6), .len (.t 5), none⟩,
 ⟨(some 7), .mv (.c (.int .i64 0)), none⟩] [0, 5, 6, 7])
 (.block 0 (.loop (.seq (.ops [
 ⟨(some 8), .bin .lss (.t 7) (.t 6), none⟩] [0, 5, 6, 7, 8])
 (.seq (.cond (.t 8) .skip
 (.exit 0))
 (.seq (.block 1 (.seq (.ops [
 ⟨(some 9), .mv (.t 7), none⟩,
 ⟨(some 10), .iaddr 2 (.t 5) (.t 7), none⟩,
 ⟨(some 11), .load (some 2) (.t 10), none⟩,
 ⟨(some 4), .alloc 23 2 [.int .i64 0, .int .i64 0], none⟩,
 ⟨(some 3), .mv (.t 9), none⟩,
 ⟨none, .store 2 (.t 4) (.t 11), none⟩] [0, 3, 4, 5, 6, 7])
 (.seq (.draw [
 ⟨(some 12), .faddr 0 (.t 4), none⟩,
 ⟨(some 13), .load none (.t 12), none⟩,
 ⟨(some 14), .faddr 1 (.t 4), none⟩,
 ⟨(some 15), .load none (.t 14), none⟩,
 ⟨(some 16), .call (.f 72) [(.t 13), (.c (.int .i64 0)), (.t 15)], none⟩,
 ⟨(some 17), .un .not (.t 16), none⟩,
 ⟨(some 18), .mv (.t 17), none⟩,
 ⟨(some 19), .faddr 1 (.t 4), (some (18, false))⟩,
 ⟨(some 20), .load none (.t 19), (some (18, false))⟩,
 ⟨(some 21), .bin .gtr (.t 20) (.c (.int .i64 12000)), (some (18, false))⟩,
 ⟨(some 22), .pick (.t 18) (.c (.bool true)) (.t 21), none⟩,
 ⟨(some 23), .mv (.t 22), none⟩,
 ⟨(some 24), .mv (.t 3), (some (23, false))⟩,
 ⟨(some 25), .bin .gtr (.t 24) (.c (.int .i64 0)), (some (23, false))⟩,
 ⟨(some 26), .mv (.t 25), (some (23, false))⟩,
 ⟨(some 27), .faddr 0 (.t 4), (some (26, true))⟩,
 ⟨(some 28), .load none (.t 27), (some (26, true))⟩,
 ⟨(some 29), .mv (.t 0), (some (26, true))⟩,
 ⟨(some 30), .mv (.t 3), (some (26, true))⟩,
 ⟨(some 31), .bin .sub (.t 30) (.c (.int .i64 1)), (some (26, true))⟩,
 ⟨(some 32), .iaddr 2 (.t 29) (.t 31), (some (26, true))⟩,
 ⟨(some 33), .faddr 1 (.t 32), (some (26, true))⟩,
 ⟨(some 34), .load none (.t 33), (some (26, true))⟩,
 ⟨(some 35), .bin .add (.t 34) (.c (.int .i64 1)), (some (26, true))⟩,
 ⟨(some 36), .bin .leq (.t 28) (.t 35), (some (26, true))⟩,
 ⟨(some 37), .pick (.t 26) (.t 36) (.c (.bool false)), (some (23, false))⟩,
 ⟨(some 38), .pick (.t 23) (.c (.bool true)) (.t 37), none⟩] [
 ] [0, 5, 6, 7, 38])
 (.cond (.t 38) (.seq (.ops [
 ⟨(some 2), .mv (.c (.bool false)), none⟩] [2])
 .ret)
 .skip))))
 (.ops [
 ⟨(some 39), .bin .add (.t 7) (.c (.int .i64 1)), none⟩,
 ⟨(some 7), .mv (.t 39), none⟩] [0, 5, 6, 7])))))))
 (.seq (.ops [
 ⟨(some 40), .mv (.t 0), none⟩,
 ⟨(some 41), .len (.t 40), none⟩,
 ⟨(some 42), .bin .leq (.t 41) (.c (.int .i64 8)), none⟩,
 ⟨(some 2), .mv (.t 42), none⟩] [2])
 .ret))),
 [.t 2]⟩
-- aneroid/aneroidref01.goodSet
-- aneroid/paper.CheckInked$1
def c101 : CF := ⟨6,
 (.seq (.ops [
 ⟨(some 2), .mv (.c (.bool false)), none⟩] [0])
 (.seq (.ops [
 ⟨(some 3), .mv (.t 0), none⟩,
 ⟨(some 4), .call (.f 102) [(.t 3)], none⟩,
 ⟨(some 5), .un .not (.t 4), none⟩,
 ⟨(some 2), .mv (.t 5), none⟩] [2])
 .ret)),
 [.t 2]⟩
-- slices.IndexFunc[[][]aneroid/api.Span,[]aneroid/api.Span]
def c126 : CF := ⟨19,
 (.seq (.ops [
 ⟨(some 4), .mv (.c (.int .i64 0)), none⟩] [0, 1])
 (.seq (.seq (.ops [
 ⟨(some 6), .mv (.t 0), none⟩,
 ⟨(some 7), .len (.t 6), none⟩,
 ⟨(some 8), .mv (.c (.int .i64 0)), none⟩] [0, 1, 7, 8])
 (.block 0 (.loop (.seq (.ops [
 ⟨(some 9), .bin .lss (.t 8) (.t 7), none⟩] [0, 1, 7, 8, 9])
 (.seq (.cond (.t 9) .skip
 (.exit 0))
 (.seq (.block 1 (.seq (.ops [
 ⟨(some 10), .mv (.t 8), none⟩,
 ⟨(some 5), .mv (.t 10), none⟩] [0, 1, 5, 7, 8])
 (.seq (.ops [
 ⟨(some 11), .mv (.t 1), none⟩,
 ⟨(some 12), .mv (.t 0), none⟩,
 ⟨(some 13), .mv (.t 5), none⟩,
 ⟨(some 14), .iaddr 1 (.t 12) (.t 13), none⟩,
 ⟨(some 15), .load none (.t 14), none⟩,
 ⟨(some 16), .call (.t 11) [(.t 15)], none⟩] [0, 1, 5, 7, 8, 16])
 (.cond (.t 16) (.seq (.ops [
 ⟨(some 17), .mv (.t 5), none⟩,
 ⟨(some 4), .mv (.t 17), none⟩] [4])
 .ret)
 .skip))))
 (.ops [
 ⟨(some 18), .bin .add (.t 8) (.c (.int .i64 1)), none⟩,
 ⟨(some 8), .mv (.t 18), none⟩] [0, 1, 7, 8])))))))
 (.seq (.ops [
 ⟨(some 4), .mv (.c (.int .i64 (-1))), none⟩] [4])
 .ret))),
 [.t 4]⟩
-- slices.ContainsFunc[[][]aneroid/api.Span,[]aneroid/api.Span]
def c100 : CF := ⟨9,
 (.seq (.ops [
 ⟨(some 4), .mv (.c (.bool false)), none⟩] [0, 1])
 (.seq (.ops [
 ⟨(some 5), .mv (.t 0), none⟩,
 ⟨(some 6), .mv (.t 1), none⟩,
 ⟨(some 7), .call (.f 126) [(.t 5), (.t 6)], none⟩,
 ⟨(some 8), .bin .geq (.t 7) (.c (.int .i64 0)), none⟩,
 ⟨(some 4), .mv (.t 8), none⟩] [4])
 .ret)),
 [.t 4]⟩
-- aneroid/paper.CheckInked
def c54 : CF := ⟨13,
 (.seq (.ops [
 ⟨(some 1), .box false 56 1 (.t 0), none⟩,
 ⟨(some 2), .mv (.c (.int .i64 0)), none⟩] [1])
 (.seq (.seq (.ops [
 ⟨(some 3), .faddr 0 (.t 1), none⟩,
 ⟨(some 4), .load none (.t 3), none⟩,
 ⟨(some 5), .len (.t 4), none⟩,
 ⟨(some 6), .call (.f 72) [(.t 5), (.c (.int .i64 1)), (.c (.int .i64 200))], none⟩,
 ⟨(some 7), .un .not (.t 6), none⟩,
 ⟨(some 8), .mv (.t 7), none⟩,
 ⟨(some 9), .faddr 0 (.t 1), (some (8, false))⟩,
 ⟨(some 10), .load none (.t 9), (some (8, false))⟩,
 ⟨(some 11), .call (.f 100) [(.t 10), (.f 101)], (some (8, false))⟩,
 ⟨(some 12), .pick (.t 8) (.c (.bool true)) (.t 11), none⟩] [12])
 (.cond (.t 12) (.seq (.ops [
 ⟨(some 2), .mv (.c (.int .i64 12)), none⟩] [2])
 .ret)
 .skip))
 (.seq (.ops [
 ⟨(some 2), .mv (.c (.int .i64 0)), none⟩] [2])
 .ret))),
 [.t 2]⟩
-- aneroid/aneroidref01.CheckInked
abbrev inS (l : List Int) : AV := .sl 1 (l.map fun z => [n z])
abbrev colS (x : List (List Sp)) : AV := .sl 1 (x.map fun l => [spS l])
abbrev ink (x : List (List Sp)) : AV := .agg [colS x]

theorem k44 : chkF Try.prog Try.f44 c44 = true := by kernel_rfl
theorem k102 : chkF Try.prog Try.f102 c102 = true := by kernel_rfl
theorem k101 : chkF Try.prog Try.f101 c101 = true := by kernel_rfl
theorem k126 : chkF Try.prog Try.f126 c126 = true := by kernel_rfl
theorem k100 : chkF Try.prog Try.f100 c100 = true := by kernel_rfl
theorem k54 : chkF Try.prog Try.f54 c54 = true := by kernel_rfl
/-- A set of levels of a column. -/
def good (l : List Sp) : Prop := Norm l ∧ (∀ s ∈ l, 0 ≤ s.lo ∧ s.hi ≤ 12000) ∧ l.length ≤ 8

theorem norm_snoc {a : List Sp} {u s : Sp} (h : Norm (a ++ [u])) : Norm (a ++ [u] ++ [s]) ↔ s.lo ≤ s.hi ∧ u.hi + 1 < s.lo := by
  rw [norm_append]
  constructor
  · rintro ⟨_, h2, h3⟩; exact ⟨h2.1, h3 u (by simp) s (by simp)⟩
  · rintro ⟨h2, h3⟩
    refine ⟨h, ⟨h2, fun t ht => absurd ht (List.not_mem_nil), trivial⟩, fun w hw t ht => ?_⟩
    obtain rfl : t = s := by simpa using ht
    rcases List.mem_append.1 hw with hw | hw
    · have h4 := (norm_append.1 h).2.2 w hw u (by simp)
      have h5 := h.ne u (by simp)
      omega
    · obtain rfl : w = u := by simpa using hw
      exact h3

/-- What has been looked at so far is in order. -/
def okTo (l : List Sp) (i : Nat) : Prop := Norm (l.take i) ∧ ∀ s ∈ l.take i, 0 ≤ s.lo ∧ s.hi ≤ 12000

theorem okTo_0 (l : List Sp) : okTo l 0 := ⟨by simp [Norm], by simp⟩

theorem okTo_1 {l : List Sp} {s : Sp} (hs : l[0]? = some s) : okTo l 1 ↔ s.lo ≤ s.hi ∧ 0 ≤ s.lo ∧ s.hi ≤ 12000 := by
  unfold okTo
  rw [List.take_add_one, hs]
  simp [Norm]

theorem okTo_next {l : List Sp} {i : Nat} {u s : Sp} (hu : l[i]? = some u) (hs : l[i + 1]? = some s) (h : okTo l (i + 1)) : okTo l (i + 2) ↔ (s.lo ≤ s.hi ∧ u.hi + 1 < s.lo) ∧ 0 ≤ s.lo ∧ s.hi ≤ 12000 := by
  have e1 : l.take (i + 1) = l.take i ++ [u] := by rw [List.take_add_one, hu]; rfl
  have e2 : l.take (i + 2) = l.take i ++ [u] ++ [s] := by rw [List.take_add_one, hs, e1]; rfl
  unfold okTo at h ⊢
  rw [e1] at h
  rw [e2, norm_snoc h.1]
  constructor
  · rintro ⟨h1, h2⟩; exact ⟨h1, h2 s (by simp)⟩
  · rintro ⟨h1, h2⟩
    refine ⟨h1, fun w hw => ?_⟩
    rcases List.mem_append.1 hw with hw | hw
    · exact h.2 w hw
    · obtain rfl : w = s := by simpa using hw
      exact h2

theorem good_okTo {l : List Sp} (h : good l) (i : Nat) : okTo l i := by
  obtain ⟨h1, h2, _⟩ := h
  rw [← List.take_append_drop i l] at h1
  exact ⟨(norm_append.1 h1).1, fun s hs => h2 s (List.mem_of_mem_take hs)⟩

theorem okTo_good {l : List Sp} (h : okTo l l.length) (hl : l.length ≤ 8) : good l := by
  unfold okTo at h
  rw [List.take_length] at h
  exact ⟨h.1, h.2, hl⟩

theorem right_spec (l : List Sp) (hl : l.length < 9223372036854775808) : Pure Try.prog 102 [spS l] (bl (tr (good l))) := by
  refine Pure.of_body Try.call102 Try.func102 k102 (Nat.le_of_ble_eq_true rfl) ?_
  unfold c102
  (repeat' first
 | (refine AWPC.of_vcn rfl ?_; simp only [zT, zV, zS, zU, vcC, lateX, ex, strp, cnd, binA, kseq, kblk, kret, klp, Abs.one, elems, cells, scalar, eqC, Nat.reduceBEq, Nat.reduceAdd, Nat.reduceSub, Nat.reduceLT, Nat.reduceLeDiff, Nat.reduceMul, Nat.reduceEqDiff, cond_true, cond_false, if_true, if_false, reduceIte, implies_true, forall_const, ne_eq])
 | (simp (disch := omega) only [wr64, Int.zero_sub]; try simp only [zT, zV, zS, zU, vcC, lateX, ex, strp, cnd, binA, kseq, kblk, kret, klp, Abs.one, elems, cells, scalar, eqC, Nat.reduceBEq, Nat.reduceAdd, Nat.reduceSub, Nat.reduceLT, Nat.reduceLeDiff, Nat.reduceMul, Nat.reduceEqDiff, cond_true, cond_false, if_true, if_false, reduceIte, implies_true, forall_const, ne_eq])
 | (refine AWPC.both (fun _ => ?_) (fun _ => ?_))
 | (refine AWPC.imp (fun _ => ?_))
 | ((refine .inl ⟨_, _, _, .any, rfl, fun h => absurd h Bool.false_ne_true, ?_⟩); refine owp_of_exs ?_; simp only [zT, zV, zS, zU, vcC, lateX, ex, strp, cnd, binA, kseq, kblk, kret, klp, Abs.one, elems, cells, scalar, eqC, Nat.reduceBEq, Nat.reduceAdd, Nat.reduceSub, Nat.reduceLT, Nat.reduceLeDiff, Nat.reduceMul, Nat.reduceEqDiff, cond_true, cond_false, if_true, if_false, reduceIte, implies_true, forall_const, ne_eq])
 | (refine ⟨by omega, ?_⟩)
 | (refine And.intro (by (intros; first | (simp_all (config := { decide := false }); done) | fail)) ?_)
 | fail)
  refine AWPC.loop (α := { x : Nat × Sto // x.1 ≤ l.length ∧ okTo l x.1 }) (fun x => ([(0, spS l), (5, spS l), (6, n l.length), (7, n x.1.1)], x.1.2)) (fun x => l.length - x.1.1) ⟨(0, []), by simp, okTo_0 l⟩ ?_ rfl ?_
  · (simp only [zT, zV, zS, zU, vcC, lateX, ex, strp, cnd, binA, kseq, kblk, kret, klp, Abs.one, elems, cells, scalar, eqC, Nat.reduceBEq, Nat.reduceAdd, Nat.reduceSub, Nat.reduceLT, Nat.reduceLeDiff, Nat.reduceMul, Nat.reduceEqDiff, cond_true, cond_false, if_true, if_false, reduceIte, implies_true, forall_const, ne_eq]; try simp)
  · rintro ⟨⟨i, τ⟩, hi, hb⟩
    simp only at hi hb
    by_cases hlt : i < l.length
    · obtain ⟨s, hs⟩ : ∃ s, l[i]? = some s := ⟨_, List.getElem?_eq_getElem hlt⟩
      cases i with
      | zero =>
        have hn := okTo_1 hs
        have hz : (-1 : Int).toNat = 0 := rfl
        (repeat' first
 | (refine AWPC.of_vcn rfl ?_; simp only [zT, zV, zS, zU, vcC, lateX, ex, strp, cnd, binA, kseq, kblk, kret, klp, Abs.one, elems, cells, scalar, eqC, Nat.reduceBEq, Nat.reduceAdd, Nat.reduceSub, Nat.reduceLT, Nat.reduceLeDiff, Nat.reduceMul, Nat.reduceEqDiff, cond_true, cond_false, if_true, if_false, reduceIte, implies_true, forall_const, ne_eq, getD_map hs, hz])
 | (simp (disch := omega) only [wr64, Int.zero_sub]; try simp only [zT, zV, zS, zU, vcC, lateX, ex, strp, cnd, binA, kseq, kblk, kret, klp, Abs.one, elems, cells, scalar, eqC, Nat.reduceBEq, Nat.reduceAdd, Nat.reduceSub, Nat.reduceLT, Nat.reduceLeDiff, Nat.reduceMul, Nat.reduceEqDiff, cond_true, cond_false, if_true, if_false, reduceIte, implies_true, forall_const, ne_eq, getD_map hs, hz])
 | (refine AWPC.both (fun _ => ?_) (fun _ => ?_))
 | (refine AWPC.imp (fun _ => ?_))
 | ((repeat (refine And.intro (by (intros; first | omega | (simp_all (config := { decide := false }); done) | fail)) ?_)); (first
 | (refine .inl ⟨_, _, _, _, rfl, fun _hc => ⟨by simp, within_spec _ _ _⟩, ?_⟩)
 | (refine ⟨_, _, _, _, rfl, fun _hc => ⟨by simp, within_spec _ _ _⟩, ?_⟩)
 | fail); (first | refine owp_of_exs ?_ | refine pre_of_exd ?_ | refine pre_of_exe ?_ | fail); simp only [zT, zV, zS, zU, vcC, lateX, ex, strp, cnd, binA, kseq, kblk, kret, klp, Abs.one, elems, cells, scalar, eqC, Nat.reduceBEq, Nat.reduceAdd, Nat.reduceSub, Nat.reduceLT, Nat.reduceLeDiff, Nat.reduceMul, Nat.reduceEqDiff, cond_true, cond_false, if_true, if_false, reduceIte, implies_true, forall_const, ne_eq, getD_map hs, hz])
 | ((refine .inl ⟨_, _, _, .any, rfl, fun h => absurd h Bool.false_ne_true, ?_⟩); refine owp_of_exs ?_; simp only [zT, zV, zS, zU, vcC, lateX, ex, strp, cnd, binA, kseq, kblk, kret, klp, Abs.one, elems, cells, scalar, eqC, Nat.reduceBEq, Nat.reduceAdd, Nat.reduceSub, Nat.reduceLT, Nat.reduceLeDiff, Nat.reduceMul, Nat.reduceEqDiff, cond_true, cond_false, if_true, if_false, reduceIte, implies_true, forall_const, ne_eq, getD_map hs, hz])
 | (refine ⟨by omega, ?_⟩)
 | (refine And.intro (by (intros; first | (simp_all (config := { decide := false }); done) | fail)) ?_)
 | fail)
        all_goals try (exfalso; omega)
        · rename_i h
          rw [tr_0 (fun g => ?_)]
          · exact Frz.eq rfl (by simp)
          · have := hn.1 (good_okTo g 1); omega
        · rename_i h
          exact ⟨⟨(1, _), hlt, hn.2 (by omega)⟩, by simp, rfl, by simp only; omega⟩
      | succ i =>
        obtain ⟨u, hu⟩ : ∃ u, l[i]? = some u := ⟨_, List.getElem?_eq_getElem (by omega)⟩
        have hn := okTo_next hu hs hb
        have hub := hb.2 u (by rw [List.take_add_one, hu]; simp)
        have hune := hb.1.ne u (by rw [List.take_add_one, hu]; simp)
        have hw : IntKind.i64.wrap (((i + 1 : Nat) : Int) - 1) = (i : Int) := by rw [wr64 _ (by omega) (by omega)]; omega
        (repeat' first
 | (refine AWPC.of_vcn rfl ?_; simp only [zT, zV, zS, zU, vcC, lateX, ex, strp, cnd, binA, kseq, kblk, kret, klp, Abs.one, elems, cells, scalar, eqC, Nat.reduceBEq, Nat.reduceAdd, Nat.reduceSub, Nat.reduceLT, Nat.reduceLeDiff, Nat.reduceMul, Nat.reduceEqDiff, cond_true, cond_false, if_true, if_false, reduceIte, implies_true, forall_const, ne_eq, getD_map hs, getD_map hu, hw])
 | (simp (disch := omega) only [wr64, Int.zero_sub]; try simp only [zT, zV, zS, zU, vcC, lateX, ex, strp, cnd, binA, kseq, kblk, kret, klp, Abs.one, elems, cells, scalar, eqC, Nat.reduceBEq, Nat.reduceAdd, Nat.reduceSub, Nat.reduceLT, Nat.reduceLeDiff, Nat.reduceMul, Nat.reduceEqDiff, cond_true, cond_false, if_true, if_false, reduceIte, implies_true, forall_const, ne_eq, getD_map hs, getD_map hu, hw])
 | (refine AWPC.both (fun _ => ?_) (fun _ => ?_))
 | (refine AWPC.imp (fun _ => ?_))
 | ((repeat (refine And.intro (by (intros; first | omega | (simp_all (config := { decide := false }); done) | fail)) ?_)); (first
 | (refine .inl ⟨_, _, _, _, rfl, fun _hc => ⟨by simp, within_spec _ _ _⟩, ?_⟩)
 | (refine ⟨_, _, _, _, rfl, fun _hc => ⟨by simp, within_spec _ _ _⟩, ?_⟩)
 | fail); (first | refine owp_of_exs ?_ | refine pre_of_exd ?_ | refine pre_of_exe ?_ | fail); simp only [zT, zV, zS, zU, vcC, lateX, ex, strp, cnd, binA, kseq, kblk, kret, klp, Abs.one, elems, cells, scalar, eqC, Nat.reduceBEq, Nat.reduceAdd, Nat.reduceSub, Nat.reduceLT, Nat.reduceLeDiff, Nat.reduceMul, Nat.reduceEqDiff, cond_true, cond_false, if_true, if_false, reduceIte, implies_true, forall_const, ne_eq, getD_map hs, getD_map hu, hw])
 | ((refine .inl ⟨_, _, _, .any, rfl, fun h => absurd h Bool.false_ne_true, ?_⟩); refine owp_of_exs ?_; simp only [zT, zV, zS, zU, vcC, lateX, ex, strp, cnd, binA, kseq, kblk, kret, klp, Abs.one, elems, cells, scalar, eqC, Nat.reduceBEq, Nat.reduceAdd, Nat.reduceSub, Nat.reduceLT, Nat.reduceLeDiff, Nat.reduceMul, Nat.reduceEqDiff, cond_true, cond_false, if_true, if_false, reduceIte, implies_true, forall_const, ne_eq, getD_map hs, getD_map hu, hw])
 | (refine ⟨by omega, ?_⟩)
 | (refine And.intro (by (intros; first | (simp_all (config := { decide := false }); done) | fail)) ?_)
 | fail)
        all_goals try (exfalso; omega)
        · rename_i h
          rw [tr_0 (fun g => ?_)]
          · exact Frz.eq rfl (by simp)
          · have := hn.1 (good_okTo g (i + 2)); omega
        · rename_i h
          exact ⟨⟨(i + 2, _), hlt, hn.2 (by omega)⟩, by simp; omega, rfl, by simp only; omega⟩
    · obtain rfl : i = l.length := by omega
      (repeat' first
 | (refine AWPC.of_vcn rfl ?_; simp only [zT, zV, zS, zU, vcC, lateX, ex, strp, cnd, binA, kseq, kblk, kret, klp, Abs.one, elems, cells, scalar, eqC, Nat.reduceBEq, Nat.reduceAdd, Nat.reduceSub, Nat.reduceLT, Nat.reduceLeDiff, Nat.reduceMul, Nat.reduceEqDiff, cond_true, cond_false, if_true, if_false, reduceIte, implies_true, forall_const, ne_eq])
 | (simp (disch := omega) only [wr64, Int.zero_sub]; try simp only [zT, zV, zS, zU, vcC, lateX, ex, strp, cnd, binA, kseq, kblk, kret, klp, Abs.one, elems, cells, scalar, eqC, Nat.reduceBEq, Nat.reduceAdd, Nat.reduceSub, Nat.reduceLT, Nat.reduceLeDiff, Nat.reduceMul, Nat.reduceEqDiff, cond_true, cond_false, if_true, if_false, reduceIte, implies_true, forall_const, ne_eq])
 | (refine AWPC.both (fun _ => ?_) (fun _ => ?_))
 | (refine AWPC.imp (fun _ => ?_))
 | ((refine .inl ⟨_, _, _, .any, rfl, fun h => absurd h Bool.false_ne_true, ?_⟩); refine owp_of_exs ?_; simp only [zT, zV, zS, zU, vcC, lateX, ex, strp, cnd, binA, kseq, kblk, kret, klp, Abs.one, elems, cells, scalar, eqC, Nat.reduceBEq, Nat.reduceAdd, Nat.reduceSub, Nat.reduceLT, Nat.reduceLeDiff, Nat.reduceMul, Nat.reduceEqDiff, cond_true, cond_false, if_true, if_false, reduceIte, implies_true, forall_const, ne_eq])
 | (refine ⟨by omega, ?_⟩)
 | (refine And.intro (by (intros; first | (simp_all (config := { decide := false }); done) | fail)) ?_)
 | fail)
      all_goals try (exfalso; omega)
      exact Frz.eq (congrArg bl (decide_eq_decide.2 ⟨fun h => okTo_good hb (by omega), fun h => by have := h.2.2; omega⟩)) (by simp)

theorem bad_spec (l : List Sp) (hl : l.length < 9223372036854775808) : Pure Try.prog 101 [spS l] (bl (!tr (good l))) := by
  refine Pure.of_body Try.call101 Try.func101 k101 (Nat.le_of_ble_eq_true rfl) ?_
  unfold c101
  (repeat' first
 | (refine AWPC.of_vcn rfl ?_; simp only [zT, zV, zS, zU, vcC, lateX, ex, strp, cnd, binA, kseq, kblk, kret, klp, Abs.one, elems, cells, scalar, eqC, Nat.reduceBEq, Nat.reduceAdd, Nat.reduceSub, Nat.reduceLT, Nat.reduceLeDiff, Nat.reduceMul, Nat.reduceEqDiff, cond_true, cond_false, if_true, if_false, reduceIte, implies_true, forall_const, ne_eq])
 | (simp (disch := omega) only [wr64, Int.zero_sub]; try simp only [zT, zV, zS, zU, vcC, lateX, ex, strp, cnd, binA, kseq, kblk, kret, klp, Abs.one, elems, cells, scalar, eqC, Nat.reduceBEq, Nat.reduceAdd, Nat.reduceSub, Nat.reduceLT, Nat.reduceLeDiff, Nat.reduceMul, Nat.reduceEqDiff, cond_true, cond_false, if_true, if_false, reduceIte, implies_true, forall_const, ne_eq])
 | (refine AWPC.both (fun _ => ?_) (fun _ => ?_))
 | (refine AWPC.imp (fun _ => ?_))
 | ((repeat (refine And.intro (by (intros; first | omega | (simp_all (config := { decide := false }); done) | fail)) ?_)); (first
 | (refine .inl ⟨_, _, _, _, rfl, fun _hc => ⟨by simp, right_spec l hl⟩, ?_⟩)
 | (refine ⟨_, _, _, _, rfl, fun _hc => ⟨by simp, right_spec l hl⟩, ?_⟩)
 | fail); (first | refine owp_of_exs ?_ | refine pre_of_exd ?_ | refine pre_of_exe ?_ | fail); simp only [zT, zV, zS, zU, vcC, lateX, ex, strp, cnd, binA, kseq, kblk, kret, klp, Abs.one, elems, cells, scalar, eqC, Nat.reduceBEq, Nat.reduceAdd, Nat.reduceSub, Nat.reduceLT, Nat.reduceLeDiff, Nat.reduceMul, Nat.reduceEqDiff, cond_true, cond_false, if_true, if_false, reduceIte, implies_true, forall_const, ne_eq])
 | ((refine .inl ⟨_, _, _, .any, rfl, fun h => absurd h Bool.false_ne_true, ?_⟩); refine owp_of_exs ?_; simp only [zT, zV, zS, zU, vcC, lateX, ex, strp, cnd, binA, kseq, kblk, kret, klp, Abs.one, elems, cells, scalar, eqC, Nat.reduceBEq, Nat.reduceAdd, Nat.reduceSub, Nat.reduceLT, Nat.reduceLeDiff, Nat.reduceMul, Nat.reduceEqDiff, cond_true, cond_false, if_true, if_false, reduceIte, implies_true, forall_const, ne_eq])
 | (refine ⟨by omega, ?_⟩)
 | (refine And.intro (by (intros; first | (simp_all (config := { decide := false }); done) | fail)) ?_)
 | fail)
  exact Frz.eq (by simp) (by simp)

/-- The place of the first element with a property. -/
def fidx {α : Type} (q : α → Bool) : Nat → List α → Int
  | _, [] => -1
  | k, a :: r => bif q a then (k : Int) else fidx q (k + 1) r

theorem fidx_any {α : Type} (q : α → Bool) : ∀ (l : List α) (k : Nat), (0 ≤ fidx q k l ↔ l.any q = true) ∧ -1 ≤ fidx q k l
  | [], k => by simp [fidx]
  | a :: r, k => by
    have ih := fidx_any q r (k + 1)
    unfold fidx
    cases h : q a
    · simpa [h] using ih
    · simp [h]

theorem index_spec (f : Nat) (q : List Sp → Bool) (x : List (List Sp)) (hx : x.length < 9223372036854775808) (hq : ∀ l ∈ x, Pure Try.prog f [spS l] (bl (q l))) : Pure Try.prog 126 [colS x, .fn (.func f) [] []] (n (fidx q 0 x)) := by
  refine Pure.of_body Try.call126 Try.func126 k126 (Nat.le_of_ble_eq_true rfl) ?_
  unfold c126
  (repeat' first
 | (refine AWPC.of_vcn rfl ?_; simp only [zT, zV, zS, zU, vcC, lateX, ex, strp, cnd, binA, kseq, kblk, kret, klp, Abs.one, elems, cells, scalar, eqC, Nat.reduceBEq, Nat.reduceAdd, Nat.reduceSub, Nat.reduceLT, Nat.reduceLeDiff, Nat.reduceMul, Nat.reduceEqDiff, cond_true, cond_false, if_true, if_false, reduceIte, implies_true, forall_const, ne_eq])
 | (simp (disch := omega) only [wr64, Int.zero_sub]; try simp only [zT, zV, zS, zU, vcC, lateX, ex, strp, cnd, binA, kseq, kblk, kret, klp, Abs.one, elems, cells, scalar, eqC, Nat.reduceBEq, Nat.reduceAdd, Nat.reduceSub, Nat.reduceLT, Nat.reduceLeDiff, Nat.reduceMul, Nat.reduceEqDiff, cond_true, cond_false, if_true, if_false, reduceIte, implies_true, forall_const, ne_eq])
 | (refine AWPC.both (fun _ => ?_) (fun _ => ?_))
 | (refine AWPC.imp (fun _ => ?_))
 | ((refine .inl ⟨_, _, _, .any, rfl, fun h => absurd h Bool.false_ne_true, ?_⟩); refine owp_of_exs ?_; simp only [zT, zV, zS, zU, vcC, lateX, ex, strp, cnd, binA, kseq, kblk, kret, klp, Abs.one, elems, cells, scalar, eqC, Nat.reduceBEq, Nat.reduceAdd, Nat.reduceSub, Nat.reduceLT, Nat.reduceLeDiff, Nat.reduceMul, Nat.reduceEqDiff, cond_true, cond_false, if_true, if_false, reduceIte, implies_true, forall_const, ne_eq])
 | (refine ⟨by omega, ?_⟩)
 | (refine And.intro (by (intros; first | (simp_all (config := { decide := false }); done) | fail)) ?_)
 | fail)
  refine AWPC.loopI 8 x.length (fun i => fidx q i (x.drop i) = fidx q 0 x) (by simp) ?_ ?_
  · (simp only [zT, zV, zS, zU, vcC, lateX, ex, strp, cnd, binA, kseq, kblk, kret, klp, Abs.one, elems, cells, scalar, eqC, Nat.reduceBEq, Nat.reduceAdd, Nat.reduceSub, Nat.reduceLT, Nat.reduceLeDiff, Nat.reduceMul, Nat.reduceEqDiff, cond_true, cond_false, if_true, if_false, reduceIte, implies_true, forall_const, ne_eq]; try simp)
  · intro i hi hI
    by_cases hlt : i < x.length
    · obtain ⟨l, hl⟩ : ∃ l, x[i]? = some l := ⟨_, List.getElem?_eq_getElem hlt⟩
      have hc := hq l (List.mem_of_getElem? hl)
      rw [drop_cons hl, fidx] at hI
      (repeat' first
 | (refine AWPC.of_vcn rfl ?_; simp only [zT, zV, zS, zU, vcC, lateX, ex, strp, cnd, binA, kseq, kblk, kret, klp, Abs.one, elems, cells, scalar, eqC, Nat.reduceBEq, Nat.reduceAdd, Nat.reduceSub, Nat.reduceLT, Nat.reduceLeDiff, Nat.reduceMul, Nat.reduceEqDiff, cond_true, cond_false, if_true, if_false, reduceIte, implies_true, forall_const, ne_eq, getD_map hl])
 | (simp (disch := omega) only [wr64, Int.zero_sub]; try simp only [zT, zV, zS, zU, vcC, lateX, ex, strp, cnd, binA, kseq, kblk, kret, klp, Abs.one, elems, cells, scalar, eqC, Nat.reduceBEq, Nat.reduceAdd, Nat.reduceSub, Nat.reduceLT, Nat.reduceLeDiff, Nat.reduceMul, Nat.reduceEqDiff, cond_true, cond_false, if_true, if_false, reduceIte, implies_true, forall_const, ne_eq, getD_map hl])
 | (refine AWPC.both (fun _ => ?_) (fun _ => ?_))
 | (refine AWPC.imp (fun _ => ?_))
 | ((repeat (refine And.intro (by (intros; first | omega | (simp_all (config := { decide := false }); done) | fail)) ?_)); (first
 | (refine .inl ⟨_, _, _, _, rfl, fun _hc => ⟨by simp, hc⟩, ?_⟩)
 | (refine ⟨_, _, _, _, rfl, fun _hc => ⟨by simp, hc⟩, ?_⟩)
 | fail); (first | refine owp_of_exs ?_ | refine pre_of_exd ?_ | refine pre_of_exe ?_ | fail); simp only [zT, zV, zS, zU, vcC, lateX, ex, strp, cnd, binA, kseq, kblk, kret, klp, Abs.one, elems, cells, scalar, eqC, Nat.reduceBEq, Nat.reduceAdd, Nat.reduceSub, Nat.reduceLT, Nat.reduceLeDiff, Nat.reduceMul, Nat.reduceEqDiff, cond_true, cond_false, if_true, if_false, reduceIte, implies_true, forall_const, ne_eq, getD_map hl])
 | ((refine .inl ⟨_, _, _, .any, rfl, fun h => absurd h Bool.false_ne_true, ?_⟩); refine owp_of_exs ?_; simp only [zT, zV, zS, zU, vcC, lateX, ex, strp, cnd, binA, kseq, kblk, kret, klp, Abs.one, elems, cells, scalar, eqC, Nat.reduceBEq, Nat.reduceAdd, Nat.reduceSub, Nat.reduceLT, Nat.reduceLeDiff, Nat.reduceMul, Nat.reduceEqDiff, cond_true, cond_false, if_true, if_false, reduceIte, implies_true, forall_const, ne_eq, getD_map hl])
 | (refine ⟨by omega, ?_⟩)
 | (refine And.intro (by (intros; first | (simp_all (config := { decide := false }); done) | fail)) ?_)
 | fail)
      all_goals try (exfalso; omega)
      · rename_i h
        rw [h] at hI
        rw [← hI]
        exact Frz.eq rfl (by simp)
      · rename_i h
        rw [h] at hI
        exact ⟨⟨i + 1, hlt, hI⟩, by simp, by simp only; omega⟩
    · obtain rfl : i = x.length := by omega
      rw [List.drop_length, fidx] at hI
      (repeat' first
 | (refine AWPC.of_vcn rfl ?_; simp only [zT, zV, zS, zU, vcC, lateX, ex, strp, cnd, binA, kseq, kblk, kret, klp, Abs.one, elems, cells, scalar, eqC, Nat.reduceBEq, Nat.reduceAdd, Nat.reduceSub, Nat.reduceLT, Nat.reduceLeDiff, Nat.reduceMul, Nat.reduceEqDiff, cond_true, cond_false, if_true, if_false, reduceIte, implies_true, forall_const, ne_eq])
 | (simp (disch := omega) only [wr64, Int.zero_sub]; try simp only [zT, zV, zS, zU, vcC, lateX, ex, strp, cnd, binA, kseq, kblk, kret, klp, Abs.one, elems, cells, scalar, eqC, Nat.reduceBEq, Nat.reduceAdd, Nat.reduceSub, Nat.reduceLT, Nat.reduceLeDiff, Nat.reduceMul, Nat.reduceEqDiff, cond_true, cond_false, if_true, if_false, reduceIte, implies_true, forall_const, ne_eq])
 | (refine AWPC.both (fun _ => ?_) (fun _ => ?_))
 | (refine AWPC.imp (fun _ => ?_))
 | ((refine .inl ⟨_, _, _, .any, rfl, fun h => absurd h Bool.false_ne_true, ?_⟩); refine owp_of_exs ?_; simp only [zT, zV, zS, zU, vcC, lateX, ex, strp, cnd, binA, kseq, kblk, kret, klp, Abs.one, elems, cells, scalar, eqC, Nat.reduceBEq, Nat.reduceAdd, Nat.reduceSub, Nat.reduceLT, Nat.reduceLeDiff, Nat.reduceMul, Nat.reduceEqDiff, cond_true, cond_false, if_true, if_false, reduceIte, implies_true, forall_const, ne_eq])
 | (refine ⟨by omega, ?_⟩)
 | (refine And.intro (by (intros; first | (simp_all (config := { decide := false }); done) | fail)) ?_)
 | fail)
      all_goals try (exfalso; omega)
      rw [← hI]
      exact Frz.eq rfl (by simp)

theorem contains_spec (f : Nat) (q : List Sp → Bool) (x : List (List Sp)) (hx : x.length < 9223372036854775808) (hq : ∀ l ∈ x, Pure Try.prog f [spS l] (bl (q l))) : Pure Try.prog 100 [colS x, .fn (.func f) [] []] (bl (x.any q)) := by
  refine Pure.of_body Try.call100 Try.func100 k100 (Nat.le_of_ble_eq_true rfl) ?_
  unfold c100
  have h := (fidx_any q x 0).1
  (repeat' first
 | (refine AWPC.of_vcn rfl ?_; simp only [zT, zV, zS, zU, vcC, lateX, ex, strp, cnd, binA, kseq, kblk, kret, klp, Abs.one, elems, cells, scalar, eqC, Nat.reduceBEq, Nat.reduceAdd, Nat.reduceSub, Nat.reduceLT, Nat.reduceLeDiff, Nat.reduceMul, Nat.reduceEqDiff, cond_true, cond_false, if_true, if_false, reduceIte, implies_true, forall_const, ne_eq])
 | (simp (disch := omega) only [wr64, Int.zero_sub]; try simp only [zT, zV, zS, zU, vcC, lateX, ex, strp, cnd, binA, kseq, kblk, kret, klp, Abs.one, elems, cells, scalar, eqC, Nat.reduceBEq, Nat.reduceAdd, Nat.reduceSub, Nat.reduceLT, Nat.reduceLeDiff, Nat.reduceMul, Nat.reduceEqDiff, cond_true, cond_false, if_true, if_false, reduceIte, implies_true, forall_const, ne_eq])
 | (refine AWPC.both (fun _ => ?_) (fun _ => ?_))
 | (refine AWPC.imp (fun _ => ?_))
 | ((repeat (refine And.intro (by (intros; first | omega | (simp_all (config := { decide := false }); done) | fail)) ?_)); (first
 | (refine .inl ⟨_, _, _, _, rfl, fun _hc => ⟨by simp, index_spec f q x hx hq⟩, ?_⟩)
 | (refine ⟨_, _, _, _, rfl, fun _hc => ⟨by simp, index_spec f q x hx hq⟩, ?_⟩)
 | fail); (first | refine owp_of_exs ?_ | refine pre_of_exd ?_ | refine pre_of_exe ?_ | fail); simp only [zT, zV, zS, zU, vcC, lateX, ex, strp, cnd, binA, kseq, kblk, kret, klp, Abs.one, elems, cells, scalar, eqC, Nat.reduceBEq, Nat.reduceAdd, Nat.reduceSub, Nat.reduceLT, Nat.reduceLeDiff, Nat.reduceMul, Nat.reduceEqDiff, cond_true, cond_false, if_true, if_false, reduceIte, implies_true, forall_const, ne_eq])
 | ((refine .inl ⟨_, _, _, .any, rfl, fun h => absurd h Bool.false_ne_true, ?_⟩); refine owp_of_exs ?_; simp only [zT, zV, zS, zU, vcC, lateX, ex, strp, cnd, binA, kseq, kblk, kret, klp, Abs.one, elems, cells, scalar, eqC, Nat.reduceBEq, Nat.reduceAdd, Nat.reduceSub, Nat.reduceLT, Nat.reduceLeDiff, Nat.reduceMul, Nat.reduceEqDiff, cond_true, cond_false, if_true, if_false, reduceIte, implies_true, forall_const, ne_eq])
 | (refine ⟨by omega, ?_⟩)
 | (refine And.intro (by (intros; first | (simp_all (config := { decide := false }); done) | fail)) ?_)
 | fail)
  refine Frz.eq (congrArg bl ?_) (by simp)
  rw [Bool.eq_iff_iff, decide_eq_true_eq, h]

/-- An inked sheet that is right. -/
def rightInk (x : List (List Sp)) : Prop := (1 ≤ x.length ∧ x.length ≤ 200) ∧ ∀ l ∈ x, good l
noncomputable def ierr (x : List (List Sp)) : Int := bif tr (rightInk x) then 0 else 12
theorem ierr0 {x : List (List Sp)} : ierr x = 0 ↔ rightInk x := by
  unfold ierr
  by_cases h : rightInk x
  · rw [tr_1 h]; simp [h]
  · rw [tr_0 h]; simp [h]
theorem ierr1 {x : List (List Sp)} (h : ¬ rightInk x) : ierr x = 12 := by unfold ierr; rw [tr_0 h]; rfl

abbrev Lens (x : List (List Sp)) : Prop := x.length < 9223372036854775808 ∧ ∀ l ∈ x, l.length < 9223372036854775808

theorem checkInked_spec (x : List (List Sp)) (hx : Lens x) : Pure Try.prog 54 [ink x] (n (ierr x)) := by
  refine Pure.of_body Try.call54 Try.func54 k54 (Nat.le_of_ble_eq_true rfl) ?_
  have hc := contains_spec 101 (fun l => !tr (good l)) x hx.1 (fun l hl => bad_spec l (hx.2 l hl))
  have hany : (x.any fun l => !tr (good l)) = false ↔ ∀ l ∈ x, good l := by simp [List.any_eq_false]
  simp only [decNot] at hany
  unfold c54
  (repeat' first
 | (refine AWPC.of_vcn rfl ?_; simp only [zT, zV, zS, zU, vcC, lateX, ex, strp, cnd, binA, kseq, kblk, kret, klp, Abs.one, elems, cells, scalar, eqC, Nat.reduceBEq, Nat.reduceAdd, Nat.reduceSub, Nat.reduceLT, Nat.reduceLeDiff, Nat.reduceMul, Nat.reduceEqDiff, cond_true, cond_false, if_true, if_false, reduceIte, implies_true, forall_const, ne_eq])
 | (simp (disch := omega) only [wr64, Int.zero_sub]; try simp only [zT, zV, zS, zU, vcC, lateX, ex, strp, cnd, binA, kseq, kblk, kret, klp, Abs.one, elems, cells, scalar, eqC, Nat.reduceBEq, Nat.reduceAdd, Nat.reduceSub, Nat.reduceLT, Nat.reduceLeDiff, Nat.reduceMul, Nat.reduceEqDiff, cond_true, cond_false, if_true, if_false, reduceIte, implies_true, forall_const, ne_eq])
 | (refine AWPC.both (fun _ => ?_) (fun _ => ?_))
 | (refine AWPC.imp (fun _ => ?_))
 | ((repeat (refine And.intro (by (intros; first | omega | (simp_all (config := { decide := false }); done) | fail)) ?_)); (first
 | (refine .inl ⟨_, _, _, _, rfl, fun _hc => ⟨by simp, within_spec _ _ _⟩, ?_⟩)
 | (refine .inl ⟨_, _, _, _, rfl, fun _hc => ⟨by simp, hc⟩, ?_⟩)
 | (refine ⟨_, _, _, _, rfl, fun _hc => ⟨by simp, within_spec _ _ _⟩, ?_⟩)
 | (refine ⟨_, _, _, _, rfl, fun _hc => ⟨by simp, hc⟩, ?_⟩)
 | fail); (first | refine owp_of_exs ?_ | refine pre_of_exd ?_ | refine pre_of_exe ?_ | fail); simp only [zT, zV, zS, zU, vcC, lateX, ex, strp, cnd, binA, kseq, kblk, kret, klp, Abs.one, elems, cells, scalar, eqC, Nat.reduceBEq, Nat.reduceAdd, Nat.reduceSub, Nat.reduceLT, Nat.reduceLeDiff, Nat.reduceMul, Nat.reduceEqDiff, cond_true, cond_false, if_true, if_false, reduceIte, implies_true, forall_const, ne_eq])
 | ((refine .inl ⟨_, _, _, .any, rfl, fun h => absurd h Bool.false_ne_true, ?_⟩); refine owp_of_exs ?_; simp only [zT, zV, zS, zU, vcC, lateX, ex, strp, cnd, binA, kseq, kblk, kret, klp, Abs.one, elems, cells, scalar, eqC, Nat.reduceBEq, Nat.reduceAdd, Nat.reduceSub, Nat.reduceLT, Nat.reduceLeDiff, Nat.reduceMul, Nat.reduceEqDiff, cond_true, cond_false, if_true, if_false, reduceIte, implies_true, forall_const, ne_eq])
 | (refine ⟨by omega, ?_⟩)
 | (refine And.intro (by (intros; first | (simp_all (config := { decide := false }); done) | fail)) ?_)
 | fail)
  · rename_i h
    refine Frz.eq ?_ (by simp)
    rw [ierr1]
    intro g
    rw [hany.2 g.2, Bool.or_false, decide_eq_true_eq] at h
    exact h (by have := g.1; omega)
  · rename_i h
    refine Frz.eq ?_ (by simp)
    rw [Bool.or_eq_false_iff, decide_eq_false_iff_not] at h
    rw [ierr0.2 ⟨by omega, hany.1 h.2⟩]

end Go.Proofs.Ytgpdckmbojmlpaa

namespace Go.Proofs.Ytgpdckmbojmlpaa
open Go.Abs
set_option linter.unusedVariables false
set_option linter.unusedSimpArgs false
set_option maxHeartbeats 4000000
set_option maxRecDepth 100000
-- aneroid/paper.find
-- aneroid/paper.Gaps$1
-- aneroid/paper.Crossings$1
-- aneroid/aneroidref01.sized
-- aneroid/paper.Gaps
-- aneroid/aneroidref01.Gaps
-- aneroid/paper.Crossings
-- aneroid/aneroidref01.Crossings
-- aneroid/aneroidref01.SameInts
-- aneroid/aneroidlaw01.PaperChecks
@[simp] theorem pureV_spS (l : List Sp) : PureV (spS l) := by simp
@[simp] theorem pureV_colS (x : List (List Sp)) : PureV (colS x) := by
  refine PureV.sl fun e he c hc => ?_
  obtain ⟨l, _, rfl⟩ := List.mem_map.1 he
  obtain rfl : c = spS l := by simpa using hc
  exact pureV_spS l
@[simp] theorem pureV_ink (x : List (List Sp)) : PureV (ink x) := PureV.agg fun c hc => by
  obtain rfl : c = colS x := by simpa using hc
  exact pureV_colS x

theorem rcheckTrace_spec (pts : List Pt) (hlen : pts.length < 9223372036854775808) : Pure Try.prog 47 [ptS pts] (.tup [n (traceErr pts).1, n (traceErr pts).2]) := by
  refine Pure.of_body Try.call47 Try.func47 k47 (Nat.le_of_ble_eq_true rfl) ?_
  unfold c47
  (repeat' first
 | (refine AWPC.of_vcn rfl ?_; simp only [zT, zV, zS, zU, vcC, lateX, ex, strp, cnd, binA, kseq, kblk, kret, klp, Abs.one, elems, cells, scalar, eqC, Nat.reduceBEq, Nat.reduceAdd, Nat.reduceSub, Nat.reduceLT, Nat.reduceLeDiff, Nat.reduceMul, Nat.reduceEqDiff, cond_true, cond_false, if_true, if_false, reduceIte, implies_true, forall_const, ne_eq])
 | (simp (disch := omega) only [wr64, Int.zero_sub]; try simp only [zT, zV, zS, zU, vcC, lateX, ex, strp, cnd, binA, kseq, kblk, kret, klp, Abs.one, elems, cells, scalar, eqC, Nat.reduceBEq, Nat.reduceAdd, Nat.reduceSub, Nat.reduceLT, Nat.reduceLeDiff, Nat.reduceMul, Nat.reduceEqDiff, cond_true, cond_false, if_true, if_false, reduceIte, implies_true, forall_const, ne_eq])
 | (refine AWPC.both (fun _ => ?_) (fun _ => ?_))
 | (refine AWPC.imp (fun _ => ?_))
 | ((refine .inl ⟨_, _, _, .any, rfl, fun h => absurd h Bool.false_ne_true, ?_⟩); refine owp_of_exs ?_; simp only [zT, zV, zS, zU, vcC, lateX, ex, strp, cnd, binA, kseq, kblk, kret, klp, Abs.one, elems, cells, scalar, eqC, Nat.reduceBEq, Nat.reduceAdd, Nat.reduceSub, Nat.reduceLT, Nat.reduceLeDiff, Nat.reduceMul, Nat.reduceEqDiff, cond_true, cond_false, if_true, if_false, reduceIte, implies_true, forall_const, ne_eq])
 | (refine ⟨by omega, ?_⟩)
 | (refine And.intro (by (intros; first | (simp_all (config := { decide := false }); done) | fail)) ?_)
 | fail)
  · have h' : 2000 < pts.length := by omega
    exact Frz.eq (by simp [traceErr, h']) (by simp)
  · have h' : ¬ 2000 < pts.length := by omega
    refine AWPC.loopI 4 pts.length (fun i => bad (pts.drop i) i = bad pts 0) (by simp) ?_ ?_
    · (simp only [zT, zV, zS, zU, vcC, lateX, ex, strp, cnd, binA, kseq, kblk, kret, klp, Abs.one, elems, cells, scalar, eqC, Nat.reduceBEq, Nat.reduceAdd, Nat.reduceSub, Nat.reduceLT, Nat.reduceLeDiff, Nat.reduceMul, Nat.reduceEqDiff, cond_true, cond_false, if_true, if_false, reduceIte, implies_true, forall_const, ne_eq]; try simp)
    · intro i hi hb
      by_cases hlt : i < pts.length
      · obtain ⟨p, hp⟩ : ∃ p, pts[i]? = some p := ⟨_, List.getElem?_eq_getElem hlt⟩
        rw [drop_cons hp, bad] at hb
        (repeat' first
 | (refine AWPC.of_vcn rfl ?_; simp only [zT, zV, zS, zU, vcC, lateX, ex, strp, cnd, binA, kseq, kblk, kret, klp, Abs.one, elems, cells, scalar, eqC, Nat.reduceBEq, Nat.reduceAdd, Nat.reduceSub, Nat.reduceLT, Nat.reduceLeDiff, Nat.reduceMul, Nat.reduceEqDiff, cond_true, cond_false, if_true, if_false, reduceIte, implies_true, forall_const, ne_eq, getD_map hp])
 | (simp (disch := omega) only [wr64, Int.zero_sub]; try simp only [zT, zV, zS, zU, vcC, lateX, ex, strp, cnd, binA, kseq, kblk, kret, klp, Abs.one, elems, cells, scalar, eqC, Nat.reduceBEq, Nat.reduceAdd, Nat.reduceSub, Nat.reduceLT, Nat.reduceLeDiff, Nat.reduceMul, Nat.reduceEqDiff, cond_true, cond_false, if_true, if_false, reduceIte, implies_true, forall_const, ne_eq, getD_map hp])
 | (refine AWPC.both (fun _ => ?_) (fun _ => ?_))
 | (refine AWPC.imp (fun _ => ?_))
 | ((repeat (refine And.intro (by (intros; first | omega | (simp_all (config := { decide := false }); done) | fail)) ?_)); (first
 | (refine .inl ⟨_, _, _, _, rfl, fun _hc => ⟨by simp, rright_spec p⟩, ?_⟩)
 | (refine ⟨_, _, _, _, rfl, fun _hc => ⟨by simp, rright_spec p⟩, ?_⟩)
 | fail); (first | refine owp_of_exs ?_ | refine pre_of_exd ?_ | refine pre_of_exe ?_ | fail); simp only [zT, zV, zS, zU, vcC, lateX, ex, strp, cnd, binA, kseq, kblk, kret, klp, Abs.one, elems, cells, scalar, eqC, Nat.reduceBEq, Nat.reduceAdd, Nat.reduceSub, Nat.reduceLT, Nat.reduceLeDiff, Nat.reduceMul, Nat.reduceEqDiff, cond_true, cond_false, if_true, if_false, reduceIte, implies_true, forall_const, ne_eq, getD_map hp])
 | ((refine .inl ⟨_, _, _, .any, rfl, fun h => absurd h Bool.false_ne_true, ?_⟩); refine owp_of_exs ?_; simp only [zT, zV, zS, zU, vcC, lateX, ex, strp, cnd, binA, kseq, kblk, kret, klp, Abs.one, elems, cells, scalar, eqC, Nat.reduceBEq, Nat.reduceAdd, Nat.reduceSub, Nat.reduceLT, Nat.reduceLeDiff, Nat.reduceMul, Nat.reduceEqDiff, cond_true, cond_false, if_true, if_false, reduceIte, implies_true, forall_const, ne_eq, getD_map hp])
 | (refine ⟨by omega, ?_⟩)
 | (refine And.intro (by (intros; first | (simp_all (config := { decide := false }); done) | fail)) ?_)
 | fail)
        all_goals try (exfalso; omega)
        · rename_i g
          rw [if_neg g] at hb
          exact Frz.eq (by simp [traceErr, h', ← hb]) (by simp)
        · rename_i g
          rw [if_pos g] at hb
          exact ⟨⟨i + 1, hlt, hb⟩, by simp, by simp only; omega⟩
      · obtain rfl : i = pts.length := by omega
        rw [List.drop_length] at hb
        (repeat' first
 | (refine AWPC.of_vcn rfl ?_; simp only [zT, zV, zS, zU, vcC, lateX, ex, strp, cnd, binA, kseq, kblk, kret, klp, Abs.one, elems, cells, scalar, eqC, Nat.reduceBEq, Nat.reduceAdd, Nat.reduceSub, Nat.reduceLT, Nat.reduceLeDiff, Nat.reduceMul, Nat.reduceEqDiff, cond_true, cond_false, if_true, if_false, reduceIte, implies_true, forall_const, ne_eq])
 | (simp (disch := omega) only [wr64, Int.zero_sub]; try simp only [zT, zV, zS, zU, vcC, lateX, ex, strp, cnd, binA, kseq, kblk, kret, klp, Abs.one, elems, cells, scalar, eqC, Nat.reduceBEq, Nat.reduceAdd, Nat.reduceSub, Nat.reduceLT, Nat.reduceLeDiff, Nat.reduceMul, Nat.reduceEqDiff, cond_true, cond_false, if_true, if_false, reduceIte, implies_true, forall_const, ne_eq])
 | (refine AWPC.both (fun _ => ?_) (fun _ => ?_))
 | (refine AWPC.imp (fun _ => ?_))
 | ((refine .inl ⟨_, _, _, .any, rfl, fun h => absurd h Bool.false_ne_true, ?_⟩); refine owp_of_exs ?_; simp only [zT, zV, zS, zU, vcC, lateX, ex, strp, cnd, binA, kseq, kblk, kret, klp, Abs.one, elems, cells, scalar, eqC, Nat.reduceBEq, Nat.reduceAdd, Nat.reduceSub, Nat.reduceLT, Nat.reduceLeDiff, Nat.reduceMul, Nat.reduceEqDiff, cond_true, cond_false, if_true, if_false, reduceIte, implies_true, forall_const, ne_eq])
 | (refine ⟨by omega, ?_⟩)
 | (refine And.intro (by (intros; first | (simp_all (config := { decide := false }); done) | fail)) ?_)
 | fail)
        all_goals try (exfalso; omega)
        exact Frz.eq (by simp [traceErr, h', ← hb, bad]) (by simp)

end Go.Proofs.Ytgpdckmbojmlpaa

namespace Go.Proofs.Ytgpdckmbojmlpaa
open Go.Shelf
def Try.sortS_ren : Go.Shelf.Ren := ⟨fun | 6 => 127 | 15 => 134 | 14 => 133 | 28 => 143 | 29 => 144 | 20 => 135 | 21 => 136 | 22 => 137 | 23 => 138 | 24 => 139 | 25 => 140 | 26 => 141 | 27 => 142 | 46 => 145 | 47 => 146 | 48 => 147 | 49 => 148 | 50 => 149 | 57 => 150 | n => n, fun | 22 => 34 | 24 => 23 | 25 => 136 | 3 => 3 | 39 => 143 | 0 => 0 | 53 => 153 | 55 => 155 | 4 => 4 | 46 => 146 | 45 => 145 | 50 => 150 | 5 => 5 | 9 => 9 | 66 => 156 | 70 => 160 | 76 => 162 | 77 => 163 | n => n, fun | n => n⟩
theorem Try.sortS : Go.Proofs.SlLaysF0.n6 Try.prog Try.sortS_ren := {
  mixed := by kernel_rfl
  f6 := ⟨Try.f127.name, by decide, Try.func127.trans (congrArg some (by kernel_rfl))⟩
  f14 := ⟨Try.f133.name, by decide, Try.func133.trans (congrArg some (by kernel_rfl))⟩
  f15 := Try.func134.trans (congrArg some (by kernel_rfl))
  f20 := ⟨Try.f135.name, by decide, Try.func135.trans (congrArg some (by kernel_rfl))⟩
  f21 := ⟨Try.f136.name, by decide, Try.func136.trans (congrArg some (by kernel_rfl))⟩
  f22 := ⟨Try.f137.name, by decide, Try.func137.trans (congrArg some (by kernel_rfl))⟩
  f23 := ⟨Try.f138.name, by decide, Try.func138.trans (congrArg some (by kernel_rfl))⟩
  f24 := ⟨Try.f139.name, by decide, Try.func139.trans (congrArg some (by kernel_rfl))⟩
  f25 := ⟨Try.f140.name, by decide, Try.func140.trans (congrArg some (by kernel_rfl))⟩
  f26 := ⟨Try.f141.name, by decide, Try.func141.trans (congrArg some (by kernel_rfl))⟩
  f27 := ⟨Try.f142.name, by decide, Try.func142.trans (congrArg some (by kernel_rfl))⟩
  f28 := Try.func143.trans (congrArg some (by kernel_rfl))
  f29 := Try.func144.trans (congrArg some (by kernel_rfl))
  f46 := ⟨Try.f145.name, by decide, Try.func145.trans (congrArg some (by kernel_rfl))⟩
  f47 := Try.func146.trans (congrArg some (by kernel_rfl))
  f48 := Try.func147.trans (congrArg some (by kernel_rfl))
  f49 := ⟨Try.f148.name, by decide, Try.func148.trans (congrArg some (by kernel_rfl))⟩
  f50 := ⟨Try.f149.name, by decide, Try.func149.trans (congrArg some (by kernel_rfl))⟩
  f57 := ⟨Try.f150.name, by decide, Try.func150.trans (congrArg some (by kernel_rfl))⟩
  t0 := Try.underlying0
  a0 := Try.isAgg0
  z0 := Try.sizeOf0
  v0 := Try.zeroValue0
  t3 := Try.underlying3
  a3 := Try.isAgg3
  z3 := Try.sizeOf3
  v3 := Try.zeroValue3
  t4 := Try.underlying4
  a4 := Try.isAgg4
  z4 := Try.sizeOf4
  v4 := Try.zeroValue4
  t5 := Try.underlying5
  a5 := Try.isAgg5
  z5 := Try.sizeOf5
  v5 := Try.zeroValue5
  t9 := Try.underlying9
  a9 := Try.isAgg9
  z9 := Try.sizeOf9
  v9 := Try.zeroValue9
  t22 := Try.underlying34
  a22 := Try.isAgg34
  z22 := Try.sizeOf34
  v22 := Try.zeroValue34
  t25 := Try.underlying136
  a25 := Try.isAgg136
  z25 := Try.sizeOf136
  v25 := Try.zeroValue136
  t39 := Try.underlying143
  a39 := Try.isAgg143
  z39 := Try.sizeOf143
  v39 := Try.zeroValue143
  t45 := Try.underlying145
  a45 := Try.isAgg145
  z45 := Try.sizeOf145
  v45 := Try.zeroValue145
  t46 := Try.underlying146
  a46 := Try.isAgg146
  z46 := Try.sizeOf146
  v46 := Try.zeroValue146
  t50 := Try.underlying150
  a50 := Try.isAgg150
  z50 := Try.sizeOf150
  v50 := Try.zeroValue150
  t53 := Try.underlying153
  a53 := Try.isAgg153
  z53 := Try.sizeOf153
  v53 := Try.zeroValue153
  t55 := Try.underlying155
  a55 := Try.isAgg155
  z55 := Try.sizeOf155
  v55 := Try.zeroValue155
  t66 := Try.underlying156
  a66 := Try.isAgg156
  z66 := Try.sizeOf156
  v66 := Try.zeroValue156
  t70 := Try.underlying160
  a70 := Try.isAgg160
  z70 := Try.sizeOf160
  v70 := Try.zeroValue160
  t76 := Try.underlying162
  a76 := Try.isAgg162
  z76 := Try.sizeOf162
  v76 := Try.zeroValue162
  t77 := Try.underlying163
  a77 := Try.isAgg163
  z77 := Try.sizeOf163
  v77 := Try.zeroValue163 }
def Try.growS_ren : Go.Shelf.Ren := ⟨fun | 4 => 131 | n => n, fun | 22 => 34 | 25 => 23 | 3 => 3 | 4 => 4 | 9 => 9 | 20 => 20 | 0 => 0 | 2 => 3 | n => n, fun | n => n⟩
theorem Try.growS : Go.Proofs.Lays8.n4 Try.prog Try.growS_ren := {
  mixed := by kernel_rfl
  f4 := ⟨Try.f131.name, by decide, Try.func131.trans (congrArg some (by kernel_rfl))⟩
  t0 := Try.underlying0
  a0 := Try.isAgg0
  z0 := Try.sizeOf0
  v0 := Try.zeroValue0
  t3 := Try.underlying3
  a3 := Try.isAgg3
  z3 := Try.sizeOf3
  v3 := Try.zeroValue3
  t4 := Try.underlying4
  a4 := Try.isAgg4
  z4 := Try.sizeOf4
  v4 := Try.zeroValue4
  t9 := Try.underlying9
  a9 := Try.isAgg9
  z9 := Try.sizeOf9
  v9 := Try.zeroValue9
  t20 := Try.underlying20
  a20 := Try.isAgg20
  z20 := Try.sizeOf20
  v20 := Try.zeroValue20
  t22 := Try.underlying34
  a22 := Try.isAgg34
  z22 := Try.sizeOf34
  v22 := Try.zeroValue34 }
end Go.Proofs.Ytgpdckmbojmlpaa

namespace Go.Abs
open Go
set_option linter.unusedVariables false
set_option linter.unusedSimpArgs false

/-- Cells that read as a type are those of a value of α, with its bounds. -/
structure Opens (P : Program) (t : TypeId) (α : Type) (row : α → List AV) (Pr : α → Prop) : Prop where
  go : ∀ {H : Type} (enc : TypeId × Value → H) (w : World) (base : Nat) (sp : Nat → Bool) (held : Bool) (fuel : Nat) (cs : List Value) (x : DataW H × List MemPlace),
    DataW.trod enc P w base sp held fuel t cs = some x →
    ∃ a : α, Pr a ∧ cs.length = (row a).length ∧ ∀ i, i < cs.length → (cs.getD i undef).oneCell' = true ∧ RV w (fun _ => False) nob [] ((row a).getD i .any) (cs.getD i undef)

variable {P : Program}

theorem Opens.to {t : TypeId} {α β : Type} {row : α → List AV} {row' : β → List AV} {Pr : α → Prop} {Pr' : β → Prop} (h : Opens P t α row Pr) (f : α → β) (hr : ∀ a, row' (f a) = row a) (hp : ∀ a, Pr a → Pr' (f a)) : Opens P t β row' Pr' :=
  ⟨fun enc w base sp held fuel cs x hx =>
    let ⟨a, h1, h2, h3⟩ := h.go enc w base sp held fuel cs x hx
    ⟨f a, hp a h1, by rw [hr]; exact h2, fun i hi => by rw [hr]; exact h3 i hi⟩⟩

theorem opens_int {t : TypeId} {k : IntKind} (ht : P.underlying t = some (.int k)) : Opens P t Int (fun z => [.v (.int k z)]) (fun z => (Lit.int k z).wf = true) := by
  constructor
  intro H enc w base sp held fuel cs x hx
  cases fuel with
  | zero => simp [DataW.trod] at hx
  | succ m =>
    unfold DataW.trod at hx
    rw [ht] at hx
    split at hx <;> try (simp_all; done)
    rename_i k0 k' z heq
    simp only [Option.some.injEq, TypeDesc.int.injEq] at heq
    split at hx
    · rename_i hk
      obtain ⟨rfl, hw⟩ := hk
      subst heq
      refine ⟨z, hw, rfl, fun i hi => ?_⟩
      obtain rfl : i = 0 := by simpa using hi
      exact ⟨rfl, .v _⟩
    · cases hx

theorem opens_slice {t e : TypeId} {k : Nat} {α : Type} {row : α → List AV} {Pr : α → Prop} (ht : P.underlying t = some (.slice e)) (hk : P.cellsOf e = k) (hk0 : k ≠ 0) (h : Opens P e α row Pr) (hl : ∀ a, (row a).length = k) :
    Opens P t (List α) (fun l => [.sl k (l.map row)]) (fun l => l.length < 9223372036854775808 ∧ ∀ a ∈ l, Pr a) := by
  constructor
  intro H enc w base sp held fuel cs x hx
  rcases DataW.trod_slice ht hx with ⟨rfl, _⟩ | ⟨a, len, cap, elems, rest, m, rfl, rfl, rfl, hb, hlc, hcap, hlen, hel, hsp, hns⟩
  · refine ⟨[], ⟨by simp, fun a ha => absurd ha (List.not_mem_nil)⟩, rfl, fun i hi => ?_⟩
    obtain rfl : i = 0 := by simpa using hi
    exact ⟨rfl, .slnil k⟩
  · have hlen2 : len < 9223372036854775808 := by unfold maxLen at hcap; omega
    -- the elements, one by one
    have each : ∀ i, i < len → ∃ (b : α) (c1 : List Value), Pr b ∧ c1.length = k ∧ w.cells? base (a.add (i * k)) k = some c1 ∧ ∀ j, j < k → (c1.getD j undef).oneCell' = true ∧ RV w (fun _ => False) nob [] ((row b).getD j .any) (c1.getD j undef) := by
      intro i hi
      have h1 := hel i hi
      rw [hk, List.getElem?_eq_getElem (by omega)] at h1
      simp only [Option.bind_eq_some_iff] at h1
      obtain ⟨c1, hc1, hy⟩ := h1
      obtain ⟨b, hp, hlb, hr⟩ := h.go enc w base sp held m c1 _ hy
      have hl1 := (World.cells?_some hc1).2.1
      exact ⟨b, c1, hp, hl1, hc1, fun j hj => hr j (by omega)⟩
    by_cases h0 : len = 0
    · subst h0
      refine ⟨[], ⟨by simp, fun a ha => absurd ha (List.not_mem_nil)⟩, rfl, fun i hi => ?_⟩
      obtain rfl : i = 0 := by simpa using hi
      exact ⟨rfl, .slemp k a cap⟩
    · -- the address
      have hspot : a.spot = none := by
        obtain ⟨b, c1, _, hl1, hc1, _⟩ := each 0 (by omega)
        have h2 := (World.cells?_some hc1).2.2 0 (by omega)
        rw [List.getElem?_eq_getElem (by omega)] at h2
        have e : (a.add (0 * k)).add 0 = a := by simp [Addr.add]
        rw [e] at h2
        unfold World.cell? at h2
        split at h2
        · split at h2
          · cases h2
          · rename_i hs; simpa using hs
        · cases h2
      obtain ⟨bl, off, spot⟩ := a
      simp only at hspot
      subst hspot
      have hadd : ∀ i j, ((⟨bl, off, none⟩ : Addr).add (i * k)).add j = ⟨bl, off + i * k + j, none⟩ := by
        intro i j
        simp only [Addr.add]
        split <;> split <;> simp_all <;> omega
      let B : Nat → α := fun i => if hi : i < len then Classical.choose (each i hi) else Classical.choose (each 0 (by omega))
      have hB : ∀ i, i < len → ∃ c1 : List Value, Pr (B i) ∧ c1.length = k ∧ w.cells? base ((⟨bl, off, none⟩ : Addr).add (i * k)) k = some c1 ∧ ∀ j, j < k → (c1.getD j undef).oneCell' = true ∧ RV w (fun _ => False) nob [] ((row (B i)).getD j .any) (c1.getD j undef) := by
        intro i hi
        have := Classical.choose_spec (each i hi)
        simp only [B, hi, dif_pos]
        exact this
      have hcell : ∀ i j, i < len → j < k → w.cell? ⟨bl, off + i * k + j, none⟩ = some ((w.cell? ⟨bl, off + i * k + j, none⟩).getD undef) ∧ ((w.cell? ⟨bl, off + i * k + j, none⟩).getD undef).oneCell' = true ∧
          RV w (fun _ => False) nob [] ((row (B i)).getD j .any) ((w.cell? ⟨bl, off + i * k + j, none⟩).getD undef) := by
        intro i j hi hj
        obtain ⟨c1, _, hl1, hc1, hr⟩ := hB i hi
        have h2 := (World.cells?_some hc1).2.2 j hj
        rw [hadd, List.getElem?_eq_getElem (by omega)] at h2
        rw [h2]
        have h3 := hr j hj
        rw [List.getD_eq_getElem?_getD, List.getElem?_eq_getElem (show j < c1.length by omega)] at h3
        exact ⟨rfl, h3⟩
      refine ⟨(List.range len).map B, ⟨by simpa using hlen2, fun b hb => ?_⟩, rfl, fun i hi => ?_⟩
      · obtain ⟨i, hi, rfl⟩ := List.mem_map.1 hb
        obtain ⟨c1, hp, _⟩ := hB i (List.mem_range.1 hi)
        exact hp
      · obtain rfl : i = 0 := by simpa using hi
        refine ⟨rfl, ?_⟩
        have hget : ∀ e, e < len → (((List.range len).map B).map row).getD e [] = row (B e) := fun e he => by simp [List.getD_eq_getElem?_getD, he]
        have hlm : (((List.range len).map B).map row).length = len := by simp
        have := RV.sl (w := w) (X := fun _ => False) (β := nob) (σ := []) k (((List.range len).map B).map row) bl off cap (fun i j => (w.cell? ⟨bl, off + i * k + j, none⟩).getD undef) (by rw [hlm]; exact hlc)
          (fun e he => by rw [hlm] at he; rw [hget e he]; exact hl _) (fun e he j hj => by rw [hlm] at he; exact (hcell e j he hj).1) (fun e j he hj hx => hx)
          (fun e j he hj => by rw [hlm] at he; exact (hcell e j he hj).2.1) (fun e j he hj => by rw [hlm] at he; rw [hget e he]; exact (hcell e j he hj).2.2)
        rw [hlm] at this
        exact this

/-- The fields of a struct, from a place on. -/
structure OpensF (P : Program) (fs : List Field) (off : Nat) (α : Type) (row : α → List AV) (Pr : α → Prop) : Prop where
  go : ∀ {H : Type} (enc : TypeId × Value → H) (w : World) (base : Nat) (sp : Nat → Bool) (held : Bool) (fuel : Nat) (cs : List Value) (xs : List (DataW H × List MemPlace)),
    (fs.mapM fun f => DataW.trod enc P w base sp held fuel f.type ((cs.drop f.offset).take (P.cellsOf f.type))) = some xs →
    ∃ a : α, Pr a ∧ ∀ i, i < (row a).length → off + i < cs.length ∧ (cs.getD (off + i) undef).oneCell' = true ∧ RV w (fun _ => False) nob [] ((row a).getD i .any) (cs.getD (off + i) undef)

theorem opensF_nil (off : Nat) : OpensF P [] off Unit (fun _ => []) (fun _ => True) :=
  ⟨fun enc w base sp held fuel cs xs _ => ⟨(), trivial, fun i hi => absurd hi (Nat.not_lt_zero _)⟩⟩

theorem opensF_cons {f : Field} {fs : List Field} {off k : Nat} {α β : Type} {row : α → List AV} {rows : β → List AV} {Pr : α → Prop} {Prs : β → Prop} (ho : f.offset = off) (hk : P.cellsOf f.type = k) (h : Opens P f.type α row Pr)
    (hl : ∀ a, (row a).length = k) (hs : OpensF P fs (off + k) β rows Prs) : OpensF P (f :: fs) off (α × β) (fun p => row p.1 ++ rows p.2) (fun p => Pr p.1 ∧ Prs p.2) := by
  constructor
  intro H enc w base sp held fuel cs xs hx
  rw [List.mapM_cons] at hx
  simp only [Option.bind_eq_bind, Option.bind_eq_some_iff] at hx
  obtain ⟨y, hy, ys, hys, _⟩ := hx
  rw [ho, hk] at hy
  obtain ⟨a, hp, hla, hr⟩ := h.go enc w base sp held fuel _ _ hy
  obtain ⟨b, hq, hr'⟩ := hs.go enc w base sp held fuel cs ys hys
  rw [hl] at hla
  have hlen : off + k ≤ cs.length ∨ k = 0 := by simp at hla; omega
  refine ⟨(a, b), ⟨hp, hq⟩, fun i hi => ?_⟩
  by_cases h1 : i < k
  · have hi' : i < ((cs.drop off).take k).length := by omega
    obtain ⟨g1, g2⟩ := hr i hi'
    have e : ((cs.drop off).take k).getD i undef = cs.getD (off + i) undef := by
      simp only [List.getD_eq_getElem?_getD, List.getElem?_take, h1, if_true, List.getElem?_drop]
    rw [e] at g1 g2
    refine ⟨by omega, g1, ?_⟩
    rw [getD_append, if_pos (by rw [hl]; exact h1)]
    exact g2
  · have := hr' (i - k) (by simp [hl] at hi; omega)
    rw [show off + k + (i - k) = off + i by omega] at this
    refine ⟨this.1, this.2.1, ?_⟩
    rw [getD_append, if_neg (by rw [hl]; omega), hl]
    exact this.2.2

theorem opens_struct {t : TypeId} {fs : Array Field} {k : Nat} {α : Type} {row : α → List AV} {Pr : α → Prop} (ht : P.underlying t = some (.struct fs)) (hk : P.cellsOf t = k) (hl : ∀ a, (row a).length = k) (h : OpensF P fs.toList 0 α row Pr) :
    Opens P t α row Pr := by
  constructor
  intro H enc w base sp held fuel cs x hx
  cases fuel with
  | zero => simp [DataW.trod] at hx
  | succ m =>
    unfold DataW.trod at hx
    rw [ht] at hx
    have hx' : (if cs.length = P.cellsOf t then (fs.toList.mapM fun f => DataW.trod enc P w base sp held m f.type ((cs.drop f.offset).take (P.cellsOf f.type))).map (fun xs => ((DataW.agg (xs.map (·.1)), xs.flatMap (·.2)) : DataW H × List MemPlace)) else none) = some x := by
      split at hx <;> first | (simp at *; done) | skip
      all_goals (try (rename_i heq; cases heq))
      exact hx
    split at hx'
    case isFalse => cases hx'
    rename_i hlen
    rw [Option.map_eq_some_iff] at hx'
    obtain ⟨xs, hxs, _⟩ := hx'
    obtain ⟨a, hp, hr⟩ := h.go enc w base sp held m cs xs hxs
    refine ⟨a, hp, by rw [hl, hlen, hk], fun i hi => ?_⟩
    have := hr i (by rw [hl, ← hk, ← hlen]; exact hi)
    rw [Nat.zero_add] at this
    exact this.2

/-- An argument that is not of struct type. -/
theorem Opens.one {t : TypeId} {α : Type} {av : α → AV} {Pr : α → Prop} (h : Opens P t α (fun a => [av a]) Pr) {H : Type} {enc : TypeId × Value → H} {w : World} {base : Nat} {sp : Nat → Bool} {held : Bool} {v : Value} {d : DataW H} {ps : List MemPlace}
    (hv : v.oneCell' = true) (hx : DataW.Trod enc P w base sp held t v d ps) : ∃ a, Pr a ∧ RV w (fun _ => False) nob [] (av a) v := by
  obtain ⟨fuel, hx⟩ := hx
  obtain ⟨a, hp, hl, hr⟩ := h.go enc w base sp held fuel _ _ hx
  have e : v.cells.toList = [v] := by cases v <;> first | rfl | simp [Value.oneCell'] at hv
  rw [e] at hr
  exact ⟨a, hp, (hr 0 (by simp)).2⟩

/-- An argument of struct type. -/
theorem Opens.agg {t : TypeId} {α : Type} {row : α → List AV} {Pr : α → Prop} (h : Opens P t α row Pr) {H : Type} {enc : TypeId × Value → H} {w : World} {base : Nat} {sp : Nat → Bool} {held : Bool} {cs : Array Value} {d : DataW H} {ps : List MemPlace}
    (hx : DataW.Trod enc P w base sp held t (.agg cs) d ps) : ∃ a, Pr a ∧ RV w (fun _ => False) nob [] (.agg (row a)) (.agg cs) := by
  obtain ⟨fuel, hx⟩ := hx
  obtain ⟨a, hp, hl, hr⟩ := h.go enc w base sp held fuel _ _ hx
  have e : (Value.agg cs).cells.toList = cs.toList := rfl
  rw [e] at hl hr
  refine ⟨a, hp, .agg _ _ (by simpa using hl) (fun i hi => ?_) fun i hi => ?_⟩
  · have := (hr i (by rw [hl]; exact hi)).1
    simpa [List.getD_eq_getElem?_getD, Array.getD_eq_getD_getElem?] using this
  · have := (hr i (by rw [hl]; exact hi)).2
    simpa [List.getD_eq_getElem?_getD, Array.getD_eq_getD_getElem?] using this

end Go.Abs

namespace Go.Proofs.Ytgpdckmbojmlpaa
open Go.Abs
set_option linter.unusedVariables false
set_option linter.unusedSimpArgs false
set_option maxHeartbeats 4000000
set_option maxRecDepth 100000
open Go.Shelf Go.RowKit Go.Lib Go.Sort

/-- A span whose beginning is not too far away. -/
abbrev Sb : Type := { s : Sp // -1000000 ≤ s.lo ∧ s.lo ≤ 1000000 }
instance : Inhabited Sb := ⟨⟨⟨0, 0⟩, by decide, by decide⟩⟩
def encS (x : Sb) : List Value := [.int .i64 x.1.lo, .int .i64 x.1.hi]
def cfS (x y : Sb) : Int := x.1.lo - y.1.lo

theorem ltS (x y : Sb) : ltOf cfS x y = decide (x.1.lo < y.1.lo) := by
  unfold ltOf cfS
  rw [decide_eq_decide]; omega

theorem swoS : SWO (ltOf cfS) where
  irrefl x := by rw [ltS]; simp
  trans x y z h1 h2 := by rw [ltS] at *; simp at *; omega
  ntrans x y z h1 h2 := by rw [ltS] at *; simp at *; omega

set_option maxHeartbeats 4000000 in
theorem closure128 (x y : Sb) (W : World) : Calls Try.prog 128 #[.agg #[.int .i64 x.1.lo, .int .i64 x.1.hi], .agg #[.int .i64 y.1.lo, .int .i64 y.1.hi]] W fun e w' => e = .returned (.int .i64 (cfS x y)) ∧ ∃ q os', w' = grow (W.drewN q) os' := by
  have hw : IntKind.i64.wrap (x.1.lo - y.1.lo) = cfS x y := by
    have h1 := x.2; have h2 := y.2
    unfold cfS
    rw [IntKind.wrap_i64]; omega
  obtain ⟨⟨a, b⟩, hx⟩ := x
  obtain ⟨⟨c, d⟩, hy⟩ := y
  simp only at hw ⊢
  generalize hr : cfS ⟨⟨a, b⟩, hx⟩ ⟨⟨c, d⟩, hy⟩ = r at hw ⊢
  clear hr
  go_enter Try.func128, Try.ntmps128
  go_wp2
  go_ret
  exact ⟨by simp [hw], 0, _, by rw [alloc_eq_grow, alloc_eq_grow, grow_grow]; rfl⟩

theorem cmpLaysS (blk off size : Nat) (w : World) : CmpLays Try.prog 128 #[] encS 2 cfS blk off size w :=
  fun _ _ _ _ x y => closure128 x y _

theorem isAgg23 (w : World) : (isAgg 23).run Try.prog w = .ok true w := by simp [isAgg, run_underlying Try.underlying23]
theorem sizeOf23 (w : World) : (Go.sizeOf 23).run Try.prog w = .ok 2 w := by
  have h : szF Try.prog 23 = some 2 := by kernel_rfl
  obtain ⟨i, hi, h2⟩ := sz_parts h
  simp [Go.sizeOf, typeInfo, hi, h2]

theorem sort_calls (blk off cap : Nat) (d : Array Sb) (w : World) (hH : HoldsK encS 2 w blk off d) (hblk : blk < w.heap.size) (hsz : d.size < 4611686018427387904) :
    Calls Try.prog 127 #[.slice (some ⟨blk, off, none⟩) d.size cap, .func (.func 128) #[] #[]] w fun e w' => e = .returned (.tuple #[]) ∧ ∃ d' n os, PermIn 0 d.size d d' ∧ SortedIn (ltOf cfS) 0 d.size d' ∧ w' = sortWorldK encS 2 w blk off n d' os := by
  have h := AnyQ.slices_SortFunc Try.sortS 2 isAgg23 sizeOf23 encS (fun _ => rfl) (fun x v hv => by simp [encS] at hv; rcases hv with rfl | rfl <;> rfl) cfS swoS 128 #[] blk off cap d w (fun xs w => Try.call128 xs w) (cmpLaysS blk off d.size w) hH hblk hsz
  exact h

/-- What the sort leaves of a block that it sorts. -/
theorem sorted_block {w : World} {b n : Nat} {d d' : Array Sb} {os : Array Obj} {c : Array Value} {T : TypeId} (hc : w.heap[b]? = some (.cells c T (0, 0))) (hs : d'.size = d.size) (hH : HoldsK encS 2 w b 0 d) :
    (∃ c', (sortWorldK encS 2 w b 0 n d' os).heap[b]? = some (.cells c' T (0, 0)) ∧ c'.size = c.size ∧ ∀ i j, i < d.size → j < 2 → c'.getD (i * 2 + j) undef = ((encS d'[i]!).getD j undef)) ∧
    w.heap.size ≤ (sortWorldK encS 2 w b 0 n d' os).heap.size ∧ (∀ b', b' < w.heap.size → b' ≠ b → (sortWorldK encS 2 w b 0 n d' os).heap[b']? = w.heap[b']?) ∧ Still w (sortWorldK encS 2 w b 0 n d' os) := by
  have hb : b < w.heap.size := (Array.getElem?_eq_some_iff.1 hc).1
  have hput : ∀ b', (putRowK encS 2 (Sort.ahead w n) b 0 d').heap[b']? = if b = b' then (w.heap[b']?).map (onCells (putCells id 0 (flatK encS 2 d'))) else w.heap[b']? := by
    intro b'
    simp only [putRowK, putRow, mapBlock, Sort.ahead]
    rw [Array.getElem?_modify]
  refine ⟨?_, by simp [sortWorldK, putRowK], fun b' h1 h2 => ?_, ⟨rfl, rfl, rfl⟩⟩
  · refine ⟨putCells id 0 (flatK encS 2 d') c, ?_, ?_, fun i j hi hj => ?_⟩
    · unfold sortWorldK
      rw [heap_grow_old _ _ (by simp [putRowK]; exact hb), hput, if_pos rfl, hc]
      rfl
    · simp [putCells]
    · have h1 := holdsK_putRowK (enc := encS) (k := 2) (Sort.ahead w n) b 0 d d' (show HoldsK encS 2 (Sort.ahead w n) b 0 d from hH) hs
      have h2 := (h1.cell (i := i) (c := j) (by omega) hj).1
      unfold World.cell? at h2
      rw [hput, if_pos rfl, hc] at h2
      simp only [Option.map_some, onCells, Option.isSome_none, Bool.false_eq_true, if_false, Nat.zero_add] at h2
      rw [Array.getD_eq_getD_getElem?, h2]
      match j, hj with
      | 0, _ => rfl
      | 1, _ => rfl
  · unfold sortWorldK
    rw [heap_grow_old _ _ (by simp [putRowK]; exact h1), hput, if_neg (fun e => h2 e.symm)]

theorem sorted_rows {d d' : Array Sb} (hp : PermIn 0 d.size d d') (hs : SortedIn (ltOf cfS) 0 d.size d') : d'.size = d.size ∧ d'.toList.Perm d.toList ∧ (d'.toList.map (·.1)).Pairwise (fun a b => a.lo ≤ b.lo) := by
  obtain ⟨h1, _, h3⟩ := hp
  refine ⟨h1, ?_, ?_⟩
  · simp only [Array.toList_extract, List.extract_eq_take_drop, Nat.sub_zero, List.drop_zero] at h3
    rw [List.take_of_length_le (by simp [h1]), List.take_of_length_le (by simp)] at h3
    exact h3
  · rw [List.pairwise_iff_getElem]
    intro i j hi hj hij
    simp only [List.length_map, Array.length_toList] at hi hj
    have := hs i j (Nat.zero_le _) hij (by omega)
    rw [ltS, decide_eq_false_iff_not, getElem!_pos d' i hi, getElem!_pos d' j hj] at this
    simp only [List.getElem_map, Array.getElem_toList]
    omega

/-- The sort of an owned slice of spans. -/
theorem sort_does (σ : Sto) (f : Nat) (l : List Sp) (hf : σ.at f 0 = some ⟨23, 2, l.map Sp.cs, none⟩) (hl : l.length < 4611686018427387904) (hb : ∀ s ∈ l, -1000000 ≤ s.lo ∧ s.lo ≤ 1000000) :
    Does Try.prog 127 [.own f 0 l.length, .fn (.func 128) [] []] σ (fun _ σ' => ∃ l' : List Sp, l'.Perm l ∧ l'.Pairwise (fun a b => a.lo ≤ b.lo) ∧ σ' = σ.upd f 0 ⟨23, 2, l'.map Sp.cs, none⟩) := by
  refine ⟨Try.call127, fun X β w xs hX hsr hlen hr => ?_⟩
  match xs, hlen with
  | [x, y], _ =>
    have hx := hr 0 (by simp)
    have hy := hr 1 (by simp)
    simp only [List.getD_cons_zero, List.getD_cons_succ] at hx hy
    have hy' : y = .func (.func 128) #[] #[] := by
      cases hy with
      | fn _ _ _ xs ys hn hm h h' =>
        have e1 : xs = #[] := Array.eq_empty_of_size_eq_zero (by simpa using hn)
        have e2 : ys = #[] := Array.eq_empty_of_size_eq_zero (by simpa using hm)
        rw [e1, e2]
    subst hy'
    have hob := hsr.obj f 0 _ hf
    cases hx with
    | own _ _ _ _ h1c hflt hle h =>
      have h' := h _ hf (by simp)
      unfold OwnSl at h'
      by_cases h0 : l = []
      · subst h0
        -- nothing to be sorted
        have hemp : ∃ p cap, x = .slice p 0 cap := by
          cases hbf : β f 0 with
          | none => rw [hbf] at h'; exact ⟨none, 0, h'.2⟩
          | some b => rw [hbf] at h'; obtain ⟨cap, _, _, rfl, _⟩ := h'; exact ⟨_, cap, rfl⟩
        obtain ⟨p, cap, rfl⟩ := hemp
        refine callsIn_wide.2 ((AnyF.slices_SortFunc_none Try.sortS p cap _ w).mono ?_)
        rintro e w' ⟨rfl, rfl⟩
        exact ⟨_, .any, σ, β, rfl, ⟨[], .nil, .nil, (upd_self hf).symm⟩, hsr, .any _, Ext.refl _ _ _, Kp.refl⟩
      · cases hbf : β f 0 with
        | none =>
          rw [hbf] at h'
          exact absurd (List.map_eq_nil_iff.1 h'.1) h0
        | some b =>
          rw [hbf] at h' hob
          obtain ⟨cap, c0, T0, rfl, hc0, hcs⟩ := h'
          obtain ⟨c, hc, hsz, hone, hrv⟩ := hob.2.1 rfl
          rw [hc] at hc0; injection hc0 with hc0; injection hc0 with hc0 _; subst hc0
          simp only [List.length_map] at hsz hone hrv hcs ⊢
          -- the row
          let d : Array Sb := (l.attach.map fun s => (⟨s.1, hb s.1 s.2⟩ : Sb)).toArray
          have hds : d.size = l.length := by simp [d]
          have hdl : d.toList.map (·.1) = l := by simp [d, List.map_map, Function.comp_def]
          have hdg : ∀ i, i < l.length → ∃ s, l[i]? = some s ∧ d[i]!.1 = s := by
            intro i hi
            refine ⟨_, List.getElem?_eq_getElem hi, ?_⟩
            rw [getElem!_pos d i (by omega)]
            simp [d]
          have hcell : ∀ i j, i < l.length → j < 2 → c.getD (i * 2 + j) undef = (encS d[i]!).getD j undef := by
            intro i j hi hj
            obtain ⟨s, hs, hds⟩ := hdg i hi
            have := hrv i j hi hj
            rw [getD_map hs] at this
            unfold encS
            rw [hds]
            match j, hj with
            | 0, _ => exact this.inv_v
            | 1, _ => exact this.inv_v
          have hH : HoldsK encS 2 w b 0 d := by
            intro t ht
            rw [size_flatK, hds] at ht
            have ht2 : t / 2 * 2 + t % 2 = t := by omega
            have hm : t % 2 < 2 := Nat.mod_lt _ (by decide)
            have h1 := hcell (t / 2) (t % 2) (by omega) hm
            rw [ht2] at h1
            have h2 : c[t]? = some (c.getD t undef) := by
              rw [Array.getD_eq_getD_getElem?, Array.getElem?_eq_getElem (by omega)]; rfl
            have h3 : (encS d[t / 2]!).getD (t % 2) undef = (encS d[t / 2]!)[t % 2]! := by
              generalize t % 2 = m at hm
              match m, hm with
              | 0, _ => rfl
              | 1, _ => rfl
            refine ⟨?_, ?_⟩
            · unfold World.cell?
              rw [hc]
              simp only [Option.isSome_none, Bool.false_eq_true, if_false, Nat.zero_add, id_eq]
              rw [h2, get_flatK _ _ _ _ (by rw [hds]; exact ht), h1, h3]
            · unfold World.frozen?
              rw [hc]
              simp
          have hblk : b < w.heap.size := (Array.getElem?_eq_some_iff.1 hc).1
          have hcon := sort_calls b 0 cap d w hH hblk (by omega)
          rw [hds] at hcon
          refine callsIn_wide.2 (hcon.mono ?_)
          rintro e w' ⟨rfl, d', n, os, hp, hs, rfl⟩
          rw [← hds] at hp hs
          obtain ⟨e1, e2, e3⟩ := sorted_rows hp hs
          obtain ⟨⟨c', hc', hcsz, hcg⟩, hge, hold, hstill⟩ := sorted_block (n := n) (os := os) hc e1 hH
          have hl' : (d'.toList.map (·.1)).length = l.length := by simp [e1, hds]
          have hperm : (d'.toList.map (·.1)).Perm l := by
            have := e2.map (·.1)
            rw [hdl] at this; exact this
          have ht : Turn w β f 0 (some b) (sortWorldK encS 2 w b 0 n d' os) := ⟨hge, fun b' h1 h2 => hold b' h1 (fun e => h2 (by rw [hbf, e])), fun b' hb' => .inl (by rw [hbf]; exact hb'), hstill⟩
          have hsame : (⟨23, 2, l.map Sp.cs, none⟩ : Ob).es.length = (⟨23, 2, (d'.toList.map (·.1)).map Sp.cs, none⟩ : Ob).es.length → some b = β f 0 ∧ ∀ b', β f 0 = some b' → SameSize w (sortWorldK encS 2 w b 0 n d' os) b' := fun _ =>
            ⟨hbf.symm, fun b' hb' cc T hcc => by
              rw [hbf] at hb'; injection hb' with hb'; subst hb'
              rw [hc] at hcc; injection hcc with hcc; injection hcc with hcc hT; subst hcc; subst hT
              exact ⟨c', _, hc', hcsz⟩⟩
          have hlen2 : (⟨23, 2, l.map Sp.cs, none⟩ : Ob).es.length ≤ (⟨23, 2, (d'.toList.map (·.1)).map Sp.cs, none⟩ : Ob).es.length := by simp [e1, hds]
          have K := Kp.turn (o' := ⟨23, 2, (d'.toList.map (·.1)).map Sp.cs, none⟩) hsr hf ht rfl hlen2 hsame
          have S := hsr.turn (o' := ⟨23, 2, (d'.toList.map (·.1)).map Sp.cs, none⟩) hX hf ht rfl hlen2 hsame (by
            refine ⟨fun e he => ?_, fun _ => ⟨c', hc', by simp [e1, hds]; omega, fun e j he hj => ?_, fun e j he hj => ?_⟩, fun r hr => by cases hr⟩
            · obtain ⟨s, hs⟩ : ∃ s, (d'.toList.map (·.1))[e]? = some s := ⟨_, List.getElem?_eq_getElem (by simpa using he)⟩
              rw [getD_map hs]; rfl
            · have he' : e < d.size := by simpa [e1] using he
              rw [hcg e j he' hj]
              match j, hj with
              | 0, _ => rfl
              | 1, _ => rfl
            · have he' : e < d.size := by simpa [e1] using he
              have he2 : e < d'.size := by omega
              rw [hcg e j he' hj]
              have hs : (d'.toList.map (·.1))[e]? = some d'[e]!.1 := by
                rw [getElem!_pos d' e he2]; simp [he2]
              rw [getD_map hs]
              match j, hj with
              | 0, _ => exact .v _
              | 1, _ => exact .v _)
          exact ⟨_, .any, _, _, rfl, ⟨d'.toList.map (·.1), hperm, e3, rfl⟩, S, .any _, Ext.turn hf ht, K⟩

/-- Room for a slice of spans that is to grow: an empty one that is owned. -/
theorem grow_does (σ : Sto) (z : Int) (h0 : 0 ≤ z) (h1 : z * 16 ≤ 140737488355328) :
    Does Try.prog 131 [.v (.slice none 0 0), n z] σ (fun r σ' => r = .own σ.length 0 0 ∧ σ' = σ ++ [some [⟨23, 2, [], none⟩]]) := by
  refine ⟨Try.call131, fun X β w xs hX hsr hlen hr => ?_⟩
  match xs, hlen with
  | [x, y], _ =>
    have hx := (hr 0 (by simp)).inv_v
    have hy := (hr 1 (by simp)).inv_v
    simp only [List.getD_cons_zero, List.getD_cons_succ] at hx hy
    subst hx; subst hy
    by_cases hz : z = 0
    · subst hz
      refine callsIn_wide.2 ((Any8.slices_Grow_room Try.growS none 0 0 0 w (Nat.le_refl _) (by decide) (by decide) (Nat.le_refl _)).mono ?_)
      rintro e w' ⟨rfl, rfl⟩
      exact ⟨_, _, _, _, rfl, ⟨rfl, rfl⟩, hsr.own0 hX, RV.own0 rfl, Ext.push (Nat.le_refl _) (fun _ _ => rfl) (fun b hb => by cases hb), Kp.own0 hsr⟩
    · obtain ⟨i0, hi0, hs2⟩ := sz_parts (show szF Try.prog 23 = some 2 by kernel_rfl)
      have hzr : zrF Try.prog 23 = some [.int .i64 0, .int .i64 0] := by kernel_rfl
      have hby : (Try.prog.info? 23).map (·.bytes) = some 16 := by kernel_rfl
      rw [hi0] at hby
      simp only [Option.map_some, Option.some.injEq] at hby
      unfold zrF at hzr
      rw [hi0] at hzr
      simp only [Option.bind_some, Option.map_eq_some_iff] at hzr
      obtain ⟨z0, hz0, hzc⟩ := hzr
      have hzn : (z.toNat : Int) = z := by omega
      have hg := Any8.slices_Grow_grow Try.growS i0 z0 hi0 hz0 (by omega) none 0 0 z.toNat [] w (Nat.le_refl _) (by omega) (by rw [hby]; omega) (by omega) (by simp) (fun _ => rfl) (fun a h => by cases h)
      have hge := grownCap_ge w (0 + z.toNat) 0 23
      refine callsIn_wide.2 ?_
      change Calls Try.prog 131 #[.slice none 0 0, .int .i64 z] w _
      rw [hzn] at hg
      refine Calls.mono hg ?_
      rintro e w' ⟨rfl, rfl⟩
      change grownCap w (0 + z.toNat) 0 23 ≥ _ at hge
      have hzs : z0.cells.size = 2 := by rw [← Array.length_toList, hzc]; rfl
      have hsz : w.heap.size ≤ (w.drew.alloc (.cells ((#[] : Array Value) ++ Builtin.zeroCells z0.cells (0 + z.toNat - 0) ++ Builtin.zeroCells z0.cells (grownCap w (0 + z.toNat) 0 23 - (0 + z.toNat))) 23)).heap.size := by rw [alc_size]; exact Nat.le_succ _
      have hold : ∀ b, b < w.heap.size → (w.drew.alloc (.cells ((#[] : Array Value) ++ Builtin.zeroCells z0.cells (0 + z.toNat - 0) ++ Builtin.zeroCells z0.cells (grownCap w (0 + z.toNat) 0 23 - (0 + z.toNat))) 23)).heap[b]? = w.heap[b]? := fun b hb => alc_old w.drew _ hb
      have hnew : (w.drew.alloc (.cells ((#[] : Array Value) ++ Builtin.zeroCells z0.cells (0 + z.toNat - 0) ++ Builtin.zeroCells z0.cells (grownCap w (0 + z.toNat) 0 23 - (0 + z.toNat))) 23)).heap[w.heap.size]? = some (.cells ((#[] : Array Value) ++ Builtin.zeroCells z0.cells (0 + z.toNat - 0) ++ Builtin.zeroCells z0.cells (grownCap w (0 + z.toNat) 0 23 - (0 + z.toNat))) 23) := alc_new w.drew _
      have hcsz : ((#[] : Array Value) ++ Builtin.zeroCells z0.cells (0 + z.toNat - 0) ++ Builtin.zeroCells z0.cells (grownCap w (0 + z.toNat) 0 23 - (0 + z.toNat))).size = grownCap w (0 + z.toNat) 0 23 * 2 := by
        simp only [Array.size_append, zeroCells_size, hzs]
        simp only [List.size_toArray, List.length_nil]
        omega
      have hbo : ∀ b, some w.heap.size = some b → b = w.heap.size := fun b hb => by injection hb with hb; exact hb.symm
      have K := Kp.push (o := ⟨23, 2, [], none⟩) (bo := some w.heap.size) hsr hsz hold hbo
      have S := hsr.push (o := ⟨23, 2, [], none⟩) (bo := some w.heap.size) hX hsz hold hbo ⟨fun e he => absurd he (Nat.not_lt_zero _), fun _ => ⟨_, hnew, by simp, fun e j he => absurd he (Nat.not_lt_zero _), fun e j he => absurd he (Nat.not_lt_zero _)⟩, fun r hr => by cases hr⟩
      refine ⟨_, _, _, _, rfl, ⟨rfl, rfl⟩, S, ?_, Ext.push hsz hold hbo ⟨rfl, rfl, rfl⟩, K⟩
      refine .own _ _ _ _ rfl (by simp) (fun o _ => Nat.zero_le _) fun o ho _ => ?_
      rw [at_push_new] at ho; simp at ho; subst ho
      unfold OwnSl; rw [addB_new]
      exact ⟨_, _, _, rfl, hnew, hcsz⟩
end Go.Proofs.Ytgpdckmbojmlpaa

