import Derived.Test.YtgpdckmbojmlpaaATQ5
import Derived.Test.YtgpdckmbojmlpaaRows
namespace Go.Proofs.Ytgpdckmbojmlpaa
open Go.Abs
set_option linter.unusedVariables false
set_option linter.unusedSimpArgs false
set_option maxHeartbeats 4000000
set_option maxRecDepth 100000
-- aneroid/aneroidlaw01.has
def c37 : CF := ⟨28,
 (.seq (.ops [
 ⟨(some 4), .mv (.c (.bool false)), none⟩] [0, 1])
 (.seq (.seq (.ops [
 ⟨(some 5), .mv (.c (.int .i64 0)), none⟩] [0, 1, 5])
 (.block 0 (.loop (.seq (.seq (.ops [
 ⟨(some 6), .mv (.t 5), none⟩,
 ⟨(some 7), .mv (.t 0), none⟩,
 ⟨(some 8), .len (.t 7), none⟩,
 ⟨(some 9), .bin .lss (.t 6) (.t 8), none⟩] [0, 1, 5, 9])
 (.cond (.t 9) .skip
 (.exit 0)))
 (.seq (.block 1 (.seq (.ops [
 ⟨(some 12), .mv (.t 0), none⟩,
 ⟨(some 13), .mv (.t 5), none⟩,
 ⟨(some 14), .iaddr 2 (.t 12) (.t 13), none⟩,
 ⟨(some 15), .faddr 0 (.t 14), none⟩,
 ⟨(some 16), .load none (.t 15), none⟩,
 ⟨(some 17), .mv (.t 1), none⟩,
 ⟨(some 18), .bin .leq (.t 16) (.t 17), none⟩,
 ⟨(some 19), .mv (.t 18), none⟩,
 ⟨(some 20), .mv (.t 1), (some (19, true))⟩,
 ⟨(some 21), .mv (.t 0), (some (19, true))⟩,
 ⟨(some 22), .mv (.t 5), (some (19, true))⟩,
 ⟨(some 23), .iaddr 2 (.t 21) (.t 22), (some (19, true))⟩,
 ⟨(some 24), .faddr 1 (.t 23), (some (19, true))⟩,
 ⟨(some 25), .load none (.t 24), (some (19, true))⟩,
 ⟨(some 26), .bin .leq (.t 20) (.t 25), (some (19, true))⟩,
 ⟨(some 27), .pick (.t 19) (.t 26) (.c (.bool false)), none⟩] [0, 1, 5, 27])
 (.cond (.t 27) (.seq (.ops [
 ⟨(some 4), .mv (.c (.bool true)), none⟩] [4])
 .ret)
 .skip)))
 (.ops [
 ⟨(some 10), .mv (.t 5), none⟩,
 ⟨(some 11), .bin .add (.t 10) (.c (.int .i64 1)), none⟩,
 ⟨(some 5), .mv (.t 11), none⟩] [0, 1, 5]))))))
 (.seq (.ops [
 ⟨(some 4), .mv (.c (.bool false)), none⟩] [4])
 .ret))),
 [.t 4]⟩
-- aneroid/aneroidlaw01.floor
def c36 : CF := ⟨18,
 (.seq (.ops [
 ⟨(some 4), .mv (.c (.int .i64 0)), none⟩] [0, 1])
 (.seq (.seq (.ops [
 ⟨(some 5), .mv (.t 0), none⟩,
 ⟨(some 6), .bin .lss (.t 5) (.c (.int .i64 0)), none⟩] [0, 1, 6])
 (.cond (.t 6) (.seq (.ops [
 ⟨(some 7), .mv (.t 0), none⟩,
 ⟨(some 8), .un .neg (.t 7), none⟩,
 ⟨(some 9), .mv (.t 1), none⟩,
 ⟨(some 10), .bin .add (.t 8) (.t 9), none⟩,
 ⟨(some 11), .bin .sub (.t 10) (.c (.int .i64 1)), none⟩,
 ⟨(some 12), .mv (.t 1), none⟩,
 ⟨(some 13), .bin .quo (.t 11) (.t 12), none⟩,
 ⟨(some 14), .un .neg (.t 13), none⟩,
 ⟨(some 4), .mv (.t 14), none⟩] [4])
 .ret)
 .skip))
 (.seq (.ops [
 ⟨(some 15), .mv (.t 0), none⟩,
 ⟨(some 16), .mv (.t 1), none⟩,
 ⟨(some 17), .bin .quo (.t 15) (.t 16), none⟩,
 ⟨(some 4), .mv (.t 17), none⟩] [4])
 .ret))),
 [.t 4]⟩
-- aneroid/aneroidlaw01.inside
def c20 : CF := ⟨17,
 (.seq (.ops [
 ⟨(some 2), .box false 23 2 (.t 0), none⟩,
 ⟨(some 3), .box false 23 2 (.t 1), none⟩,
 ⟨(some 4), .mv (.c (.bool false)), none⟩] [2, 3])
 (.seq (.ops [
 ⟨(some 5), .faddr 0 (.t 3), none⟩,
 ⟨(some 6), .load none (.t 5), none⟩,
 ⟨(some 7), .faddr 0 (.t 2), none⟩,
 ⟨(some 8), .load none (.t 7), none⟩,
 ⟨(some 9), .bin .leq (.t 6) (.t 8), none⟩,
 ⟨(some 10), .mv (.t 9), none⟩,
 ⟨(some 11), .faddr 1 (.t 2), (some (10, true))⟩,
 ⟨(some 12), .load none (.t 11), (some (10, true))⟩,
 ⟨(some 13), .faddr 1 (.t 3), (some (10, true))⟩,
 ⟨(some 14), .load none (.t 13), (some (10, true))⟩,
 ⟨(some 15), .bin .leq (.t 12) (.t 14), (some (10, true))⟩,
 ⟨(some 16), .pick (.t 10) (.t 15) (.c (.bool false)), none⟩,
 ⟨(some 4), .mv (.t 16), none⟩] [4])
 .ret)),
 [.t 4]⟩
-- aneroid/aneroidlaw01.witness
def c38 : CF := ⟨68,
 (.seq (.ops [
 ⟨(some 5), .box false 25 10 (.t 0), none⟩,
 ⟨(some 6), .box false 23 2 (.t 1), none⟩,
 ⟨(some 7), .box false 23 2 (.t 2), none⟩,
 ⟨(some 10), .mv (.c (.bool false)), none⟩] [3, 4, 5, 6, 7])
 (.seq (.ops [
 ⟨(some 17), .load (some 10) (.t 5), none⟩,
 ⟨(some 18), .mv (.t 3), none⟩,
 ⟨(some 19), .call (.f 26) [(.t 17), (.t 18)], none⟩,
 ⟨(some 16), .mv (.t 19), none⟩,
 ⟨(some 20), .ext 0 (.t 16), none⟩,
 ⟨(some 21), .ext 1 (.t 16), none⟩,
 ⟨(some 11), .alloc 23 2 [.int .i64 0, .int .i64 0], none⟩,
 ⟨none, .store 2 (.t 11) (.t 20), none⟩,
 ⟨(some 12), .mv (.t 21), none⟩] [4, 5, 6, 7, 11, 12])
 (.seq (.seq (.ops [
 ⟨(some 22), .mv (.t 12), none⟩,
 ⟨(some 23), .bin .neq (.t 22) (.c (.int .i64 0)), none⟩] [4, 5, 6, 7, 11, 23])
 (.cond (.t 23) (.seq (.ops [
 ⟨(some 10), .mv (.c (.bool false)), none⟩] [10])
 .ret)
 .skip))
 (.seq (.seq (.ops [
 ⟨(some 24), .faddr 0 (.t 11), none⟩,
 ⟨(some 25), .load none (.t 24), none⟩,
 ⟨(some 26), .faddr 0 (.t 7), none⟩,
 ⟨(some 27), .load none (.t 26), none⟩,
 ⟨(some 28), .mnx true (.t 25) (.t 27), none⟩,
 ⟨(some 13), .mv (.t 28), none⟩] [4, 5, 6, 7, 11, 13])
 (.block 0 (.loop (.seq (.seq (.ops [
 ⟨(some 29), .mv (.t 13), none⟩,
 ⟨(some 30), .faddr 1 (.t 11), none⟩,
 ⟨(some 31), .load none (.t 30), none⟩,
 ⟨(some 32), .faddr 1 (.t 7), none⟩,
 ⟨(some 33), .load none (.t 32), none⟩,
 ⟨(some 34), .mnx false (.t 31) (.t 33), none⟩,
 ⟨(some 35), .bin .leq (.t 29) (.t 34), none⟩] [4, 5, 6, 7, 11, 13, 35])
 (.cond (.t 35) .skip
 (.exit 0)))
 (.seq (.block 1 (.seq (.ops [
 ⟨(some 39), .load (some 10) (.t 5), none⟩,
 ⟨(some 40), .mv (.t 13), none⟩,
 ⟨(some 41), .call (.f 19) [(.t 39), (.t 40)], none⟩,
 ⟨(some 38), .mv (.t 41), none⟩,
 ⟨(some 42), .ext 0 (.t 38), none⟩,
 ⟨(some 43), .ext 1 (.t 38), none⟩,
 ⟨(some 14), .mv (.t 42), none⟩,
 ⟨(some 15), .mv (.t 43), none⟩] [4, 5, 6, 7, 11, 13, 14, 15])
 (.seq (.ops [
 ⟨(some 44), .mv (.t 15), none⟩,
 ⟨(some 45), .bin .eql (.t 44) (.c (.int .i64 0)), none⟩,
 ⟨(some 46), .mv (.t 45), none⟩,
 ⟨(some 47), .faddr 0 (.t 6), (some (46, true))⟩,
 ⟨(some 48), .load none (.t 47), (some (46, true))⟩,
 ⟨(some 49), .mv (.t 14), (some (46, true))⟩,
 ⟨(some 50), .bin .sub (.t 48) (.t 49), (some (46, true))⟩,
 ⟨(some 51), .faddr 0 (.t 5), (some (46, true))⟩,
 ⟨(some 52), .load none (.t 51), (some (46, true))⟩,
 ⟨(some 53), .call (.f 36) [(.t 50), (.t 52)], (some (46, true))⟩,
 ⟨(some 54), .mv (.t 4), (some (46, true))⟩,
 ⟨(some 55), .bin .leq (.t 53) (.t 54), (some (46, true))⟩,
 ⟨(some 56), .pick (.t 46) (.t 55) (.c (.bool false)), none⟩,
 ⟨(some 57), .mv (.t 56), none⟩,
 ⟨(some 58), .mv (.t 4), (some (57, true))⟩,
 ⟨(some 59), .faddr 1 (.t 6), (some (57, true))⟩,
 ⟨(some 60), .load none (.t 59), (some (57, true))⟩,
 ⟨(some 61), .mv (.t 14), (some (57, true))⟩,
 ⟨(some 62), .bin .sub (.t 60) (.t 61), (some (57, true))⟩,
 ⟨(some 63), .faddr 0 (.t 5), (some (57, true))⟩,
 ⟨(some 64), .load none (.t 63), (some (57, true))⟩,
 ⟨(some 65), .call (.f 36) [(.t 62), (.t 64)], (some (57, true))⟩,
 ⟨(some 66), .bin .leq (.t 58) (.t 65), (some (57, true))⟩,
 ⟨(some 67), .pick (.t 57) (.t 66) (.c (.bool false)), none⟩] [4, 5, 6, 7, 11, 13, 67])
 (.cond (.t 67) (.seq (.ops [
 ⟨(some 10), .mv (.c (.bool true)), none⟩] [10])
 .ret)
 .skip))))
 (.ops [
 ⟨(some 36), .mv (.t 13), none⟩,
 ⟨(some 37), .bin .add (.t 36) (.c (.int .i64 1)), none⟩,
 ⟨(some 13), .mv (.t 37), none⟩] [4, 5, 6, 7, 11, 13]))))))
 (.seq (.ops [
 ⟨(some 10), .mv (.c (.bool false)), none⟩] [10])
 .ret))))),
 [.t 10]⟩
-- aneroid/aneroidlaw01.PaperNarrower
def c4 : CF := ⟨128,
 (.seq (.ops [
 ⟨(some 6), .box false 25 10 (.t 0), none⟩,
 ⟨(some 7), .box false 32 3 (.t 1), none⟩,
 ⟨(some 8), .box false 23 2 (.t 2), none⟩,
 ⟨(some 9), .box false 23 2 (.t 3), none⟩,
 ⟨(some 12), .mv (.c (.bool false)), none⟩] [4, 5, 6, 7, 8, 9])
 (.seq (.ops [
 ⟨(some 27), .call (.f 18) [], none⟩,
 ⟨(some 13), .mv (.t 27), none⟩] [4, 5, 6, 7, 8, 9, 13])
 (.seq (.ops [
 ⟨(some 28), .load (some 10) (.t 6), none⟩,
 ⟨(some 14), .alloc 25 10 [.int .i64 0, .int .i64 0, .int .i64 0, .int .i64 0, .int .i64 0, .int .i64 0, .int .i64 0, .int .i64 0, .int .i64 0, .int .i64 0], none⟩,
 ⟨none, .store 10 (.t 14) (.t 28), none⟩] [4, 5, 6, 7, 8, 9, 13, 14])
 (.seq (.ops [
 ⟨(some 29), .load (some 2) (.t 8), none⟩,
 ⟨(some 30), .faddr 6 (.t 14), none⟩,
 ⟨none, .store 2 (.t 30) (.t 29), none⟩] [4, 5, 6, 7, 8, 9, 13, 14])
 (.seq (.ops [
 ⟨(some 31), .load (some 2) (.t 9), none⟩,
 ⟨(some 32), .faddr 8 (.t 14), none⟩,
 ⟨none, .store 2 (.t 32) (.t 31), none⟩] [4, 5, 6, 7, 8, 9, 13, 14])
 (.seq (.ops [
 ⟨(some 33), .load (some 3) (.t 7), none⟩,
 ⟨(some 15), .alloc 32 3 [.int .i64 0, .int .i64 0, .int .i64 0], none⟩,
 ⟨none, .store 3 (.t 15) (.t 33), none⟩] [4, 5, 6, 7, 8, 9, 13, 14, 15])
 (.seq (.ops [
 ⟨(some 34), .mv (.t 4), none⟩,
 ⟨(some 35), .faddr 2 (.t 15), none⟩,
 ⟨none, .store 1 (.t 35) (.t 34), none⟩] [4, 5, 6, 7, 8, 9, 13, 14, 15])
 (.seq (.seq (.ops [
 ⟨(some 36), .load (some 2) (.t 8), none⟩,
 ⟨(some 37), .faddr 6 (.t 6), none⟩,
 ⟨(some 38), .load (some 2) (.t 37), none⟩,
 ⟨(some 39), .call (.f 20) [(.t 36), (.t 38)], none⟩,
 ⟨(some 40), .un .not (.t 39), none⟩,
 ⟨(some 41), .mv (.t 40), none⟩,
 ⟨(some 42), .load (some 2) (.t 9), (some (41, false))⟩,
 ⟨(some 43), .faddr 8 (.t 6), (some (41, false))⟩,
 ⟨(some 44), .load (some 2) (.t 43), (some (41, false))⟩,
 ⟨(some 45), .call (.f 20) [(.t 42), (.t 44)], (some (41, false))⟩,
 ⟨(some 46), .un .not (.t 45), (some (41, false))⟩,
 ⟨(some 47), .pick (.t 41) (.c (.bool true)) (.t 46), none⟩,
 ⟨(some 48), .mv (.t 47), none⟩,
 ⟨(some 49), .mv (.t 4), (some (48, false))⟩,
 ⟨(some 50), .faddr 2 (.t 7), (some (48, false))⟩,
 ⟨(some 51), .load none (.t 50), (some (48, false))⟩,
 ⟨(some 52), .bin .gtr (.t 49) (.t 51), (some (48, false))⟩,
 ⟨(some 53), .pick (.t 48) (.c (.bool true)) (.t 52), none⟩] [5, 6, 7, 13, 14, 15, 53])
 (.cond (.t 53) (.seq (.ops [
 ⟨(some 54), .mv (.t 13), none⟩,
 ⟨(some 12), .mv (.t 54), none⟩] [12])
 .ret)
 .skip))
 (.seq (.ops [
 ⟨(some 56), .load (some 10) (.t 6), none⟩,
 ⟨(some 57), .load (some 3) (.t 7), none⟩,
 ⟨(some 58), .mv (.t 5), none⟩,
 ⟨(some 59), .call (.f 21) [(.t 56), (.t 57), (.t 58)], none⟩,
 ⟨(some 55), .mv (.t 59), none⟩,
 ⟨(some 60), .ext 0 (.t 55), none⟩,
 ⟨(some 61), .ext 1 (.t 55), none⟩,
 ⟨(some 16), .mv (.t 60), none⟩,
 ⟨(some 17), .mv (.t 61), none⟩] [5, 6, 7, 13, 14, 15, 16, 17])
 (.seq (.ops [
 ⟨(some 63), .load (some 10) (.t 14), none⟩,
 ⟨(some 64), .load (some 3) (.t 15), none⟩,
 ⟨(some 65), .mv (.t 5), none⟩,
 ⟨(some 66), .call (.f 21) [(.t 63), (.t 64), (.t 65)], none⟩,
 ⟨(some 62), .mv (.t 66), none⟩,
 ⟨(some 67), .ext 0 (.t 62), none⟩,
 ⟨(some 68), .ext 1 (.t 62), none⟩,
 ⟨(some 18), .mv (.t 67), none⟩,
 ⟨(some 19), .mv (.t 68), none⟩] [6, 7, 13, 14, 15, 16, 17, 18, 19])
 (.seq (.seq (.ops [
 ⟨(some 69), .mv (.t 17), none⟩,
 ⟨(some 70), .bin .neq (.t 69) (.c (.int .i64 0)), none⟩,
 ⟨(some 71), .mv (.t 70), none⟩,
 ⟨(some 72), .mv (.t 19), (some (71, false))⟩,
 ⟨(some 73), .bin .neq (.t 72) (.c (.int .i64 0)), (some (71, false))⟩,
 ⟨(some 74), .pick (.t 71) (.c (.bool true)) (.t 73), none⟩] [6, 7, 13, 14, 15, 16, 18, 74])
 (.cond (.t 74) (.seq (.ops [
 ⟨(some 75), .mv (.t 13), none⟩,
 ⟨(some 12), .mv (.t 75), none⟩] [12])
 .ret)
 .skip))
 (.seq (.seq (.ops [
 ⟨(some 20), .mv (.c (.int .i64 0)), none⟩] [6, 7, 13, 14, 15, 16, 18, 20])
 (.block 0 (.loop (.seq (.seq (.ops [
 ⟨(some 76), .mv (.t 20), none⟩,
 ⟨(some 77), .mv (.t 18), none⟩,
 ⟨(some 78), .len (.t 77), none⟩,
 ⟨(some 79), .bin .lss (.t 76) (.t 78), none⟩] [6, 7, 13, 14, 15, 16, 18, 20, 79])
 (.cond (.t 79) .skip
 (.exit 0)))
 (.seq (.block 1 (.seq (.ops [
 ⟨(some 21), .mv (.c (.bool false)), none⟩] [6, 7, 13, 14, 15, 16, 18, 20, 21])
 (.seq (.seq (.ops [
 ⟨(some 22), .mv (.c (.int .i64 0)), none⟩] [6, 7, 13, 14, 15, 16, 18, 20, 21, 22])
 (.block 2 (.loop (.seq (.seq (.ops [
 ⟨(some 82), .mv (.t 22), none⟩,
 ⟨(some 83), .mv (.t 16), none⟩,
 ⟨(some 84), .len (.t 83), none⟩,
 ⟨(some 85), .bin .lss (.t 82) (.t 84), none⟩] [6, 7, 13, 14, 15, 16, 18, 20, 21, 22, 85])
 (.cond (.t 85) .skip
 (.exit 2)))
 (.seq (.block 3 (.draw [
 ⟨(some 88), .mv (.t 21), none⟩,
 ⟨(some 89), .mv (.t 88), none⟩,
 ⟨(some 90), .mv (.t 18), (some (89, false))⟩,
 ⟨(some 91), .mv (.t 20), (some (89, false))⟩,
 ⟨(some 92), .iaddr 2 (.t 90) (.t 91), (some (89, false))⟩,
 ⟨(some 93), .load (some 2) (.t 92), (some (89, false))⟩,
 ⟨(some 94), .mv (.t 16), (some (89, false))⟩,
 ⟨(some 95), .mv (.t 22), (some (89, false))⟩,
 ⟨(some 96), .iaddr 2 (.t 94) (.t 95), (some (89, false))⟩,
 ⟨(some 97), .load (some 2) (.t 96), (some (89, false))⟩,
 ⟨(some 98), .call (.f 20) [(.t 93), (.t 97)], (some (89, false))⟩,
 ⟨(some 99), .pick (.t 89) (.c (.bool true)) (.t 98), none⟩] [
 ⟨(some 21), .mv (.t 99), none⟩] [6, 7, 13, 14, 15, 16, 18, 20, 21, 22]))
 (.ops [
 ⟨(some 86), .mv (.t 22), none⟩,
 ⟨(some 87), .bin .add (.t 86) (.c (.int .i64 1)), none⟩,
 ⟨(some 22), .mv (.t 87), none⟩] [6, 7, 13, 14, 15, 16, 18, 20, 21, 22]))))))
 (.seq (.ops [
 ⟨(some 100), .mv (.t 21), none⟩,
 ⟨(some 101), .un .not (.t 100), none⟩] [6, 7, 13, 14, 15, 16, 18, 20, 101])
 (.cond (.t 101) (.seq (.ops [
 ⟨(some 12), .mv (.c (.bool false)), none⟩] [12])
 .ret)
 .skip)))))
 (.ops [
 ⟨(some 80), .mv (.t 20), none⟩,
 ⟨(some 81), .bin .add (.t 80) (.c (.int .i64 1)), none⟩,
 ⟨(some 20), .mv (.t 81), none⟩] [6, 7, 13, 14, 15, 16, 18, 20]))))))
 (.seq (.ops [
 ⟨(some 103), .load (some 10) (.t 6), none⟩,
 ⟨(some 104), .load (some 3) (.t 7), none⟩,
 ⟨(some 105), .call (.f 22) [(.t 103), (.t 104)], none⟩,
 ⟨(some 102), .mv (.t 105), none⟩,
 ⟨(some 106), .ext 0 (.t 102), none⟩,
 ⟨(some 107), .ext 1 (.t 102), none⟩,
 ⟨(some 23), .alloc 23 2 [.int .i64 0, .int .i64 0], none⟩,
 ⟨none, .store 2 (.t 23) (.t 106), none⟩,
 ⟨(some 24), .mv (.t 107), none⟩] [13, 14, 15, 23, 24])
 (.seq (.ops [
 ⟨(some 109), .load (some 10) (.t 14), none⟩,
 ⟨(some 110), .load (some 3) (.t 15), none⟩,
 ⟨(some 111), .call (.f 22) [(.t 109), (.t 110)], none⟩,
 ⟨(some 108), .mv (.t 111), none⟩,
 ⟨(some 112), .ext 0 (.t 108), none⟩,
 ⟨(some 113), .ext 1 (.t 108), none⟩,
 ⟨(some 25), .alloc 23 2 [.int .i64 0, .int .i64 0], none⟩,
 ⟨none, .store 2 (.t 25) (.t 112), none⟩,
 ⟨(some 26), .mv (.t 113), none⟩] [13, 23, 24, 25, 26])
 (.seq (.ops [
 ⟨(some 114), .mv (.t 13), none⟩,
 ⟨(some 115), .mv (.t 114), none⟩,
 ⟨(some 116), .mv (.t 26), (some (115, true))⟩,
 ⟨(some 117), .bin .neq (.t 116) (.c (.int .i64 0)), (some (115, true))⟩,
 ⟨(some 118), .mv (.t 117), (some (115, true))⟩,
 ⟨(some 119), .mv (.t 24), (some (118, false))⟩,
 ⟨(some 120), .bin .eql (.t 119) (.c (.int .i64 0)), (some (118, false))⟩,
 ⟨(some 121), .mv (.t 120), (some (118, false))⟩,
 ⟨(some 122), .load (some 2) (.t 25), (some (121, true))⟩,
 ⟨(some 123), .load (some 2) (.t 23), (some (121, true))⟩,
 ⟨(some 124), .call (.f 20) [(.t 122), (.t 123)], (some (121, true))⟩,
 ⟨(some 125), .pick (.t 121) (.t 124) (.c (.bool false)), (some (118, false))⟩,
 ⟨(some 126), .pick (.t 118) (.c (.bool true)) (.t 125), (some (115, true))⟩,
 ⟨(some 127), .pick (.t 115) (.t 126) (.c (.bool false)), none⟩,
 ⟨(some 12), .mv (.t 127), none⟩] [12])
 .ret))))))))))))))),
 [.t 12]⟩
-- aneroid/aneroidlaw01.PaperExact
def c8 : CF := ⟨210,
 (.seq (.ops [
 ⟨(some 5), .box false 25 10 (.t 0), none⟩,
 ⟨(some 6), .box false 32 3 (.t 1), none⟩,
 ⟨(some 10), .mv (.c (.bool false)), none⟩] [2, 3, 4, 5, 6])
 (.seq (.ops [
 ⟨(some 25), .call (.f 18) [], none⟩,
 ⟨(some 11), .mv (.t 25), none⟩] [2, 3, 4, 5, 6, 11])
 (.seq (.ops [
 ⟨(some 27), .load (some 10) (.t 5), none⟩,
 ⟨(some 28), .load (some 3) (.t 6), none⟩,
 ⟨(some 29), .call (.f 34) [(.t 27), (.t 28)], none⟩,
 ⟨(some 26), .mv (.t 29), none⟩,
 ⟨(some 30), .ext 0 (.t 26), none⟩,
 ⟨(some 31), .ext 1 (.t 26), none⟩,
 ⟨(some 12), .alloc 23 2 [.int .i64 0, .int .i64 0], none⟩,
 ⟨none, .store 2 (.t 12) (.t 30), none⟩,
 ⟨(some 13), .mv (.t 31), none⟩] [2, 3, 4, 5, 6, 11, 12, 13])
 (.seq (.ops [
 ⟨(some 33), .load (some 10) (.t 5), none⟩,
 ⟨(some 34), .load (some 3) (.t 6), none⟩,
 ⟨(some 35), .call (.f 35) [(.t 33), (.t 34)], none⟩,
 ⟨(some 32), .mv (.t 35), none⟩,
 ⟨(some 36), .ext 0 (.t 32), none⟩,
 ⟨(some 37), .ext 1 (.t 32), none⟩,
 ⟨(some 14), .alloc 23 2 [.int .i64 0, .int .i64 0], none⟩,
 ⟨none, .store 2 (.t 14) (.t 36), none⟩,
 ⟨(some 15), .mv (.t 37), none⟩] [2, 3, 4, 5, 6, 11, 12, 13, 14, 15])
 (.seq (.ops [
 ⟨(some 39), .load (some 10) (.t 5), none⟩,
 ⟨(some 40), .load (some 3) (.t 6), none⟩,
 ⟨(some 41), .mv (.t 4), none⟩,
 ⟨(some 42), .call (.f 21) [(.t 39), (.t 40), (.t 41)], none⟩,
 ⟨(some 38), .mv (.t 42), none⟩,
 ⟨(some 43), .ext 0 (.t 38), none⟩,
 ⟨(some 44), .ext 1 (.t 38), none⟩,
 ⟨(some 16), .mv (.t 43), none⟩,
 ⟨(some 17), .mv (.t 44), none⟩] [2, 3, 4, 5, 6, 11, 12, 13, 14, 15, 16, 17])
 (.seq (.seq (.ops [
 ⟨(some 45), .mv (.t 13), none⟩,
 ⟨(some 46), .bin .neq (.t 45) (.c (.int .i64 0)), none⟩,
 ⟨(some 47), .mv (.t 46), none⟩,
 ⟨(some 48), .mv (.t 15), (some (47, false))⟩,
 ⟨(some 49), .bin .neq (.t 48) (.c (.int .i64 0)), (some (47, false))⟩,
 ⟨(some 50), .pick (.t 47) (.c (.bool true)) (.t 49), none⟩,
 ⟨(some 51), .mv (.t 50), none⟩,
 ⟨(some 52), .mv (.t 17), (some (51, false))⟩,
 ⟨(some 53), .bin .neq (.t 52) (.c (.int .i64 0)), (some (51, false))⟩,
 ⟨(some 54), .pick (.t 51) (.c (.bool true)) (.t 53), none⟩] [2, 3, 4, 5, 6, 11, 12, 14, 16, 54])
 (.cond (.t 54) (.seq (.ops [
 ⟨(some 55), .mv (.t 11), none⟩,
 ⟨(some 10), .mv (.t 55), none⟩] [10])
 .ret)
 .skip))
 (.seq (.ops [
 ⟨(some 57), .load (some 10) (.t 5), none⟩,
 ⟨(some 58), .mv (.t 3), none⟩,
 ⟨(some 59), .call (.f 19) [(.t 57), (.t 58)], none⟩,
 ⟨(some 56), .mv (.t 59), none⟩,
 ⟨(some 60), .ext 0 (.t 56), none⟩,
 ⟨(some 61), .ext 1 (.t 56), none⟩,
 ⟨(some 18), .mv (.t 60), none⟩,
 ⟨(some 19), .mv (.t 61), none⟩] [2, 3, 4, 5, 6, 11, 12, 14, 16, 18, 19])
 (.seq (.ops [
 ⟨(some 63), .load (some 10) (.t 5), none⟩,
 ⟨(some 64), .mv (.t 3), none⟩,
 ⟨(some 65), .call (.f 24) [(.t 63), (.t 64)], none⟩,
 ⟨(some 62), .mv (.t 65), none⟩,
 ⟨(some 66), .ext 0 (.t 62), none⟩,
 ⟨(some 67), .ext 1 (.t 62), none⟩,
 ⟨(some 20), .mv (.t 66), none⟩,
 ⟨(some 21), .mv (.t 67), none⟩] [2, 3, 4, 5, 6, 11, 12, 14, 16, 18, 19, 20, 21])
 (.seq (.seq (.ops [
 ⟨(some 68), .mv (.t 19), none⟩,
 ⟨(some 69), .bin .eql (.t 68) (.c (.int .i64 0)), none⟩,
 ⟨(some 70), .mv (.t 69), none⟩,
 ⟨(some 71), .mv (.t 21), (some (70, true))⟩,
 ⟨(some 72), .bin .eql (.t 71) (.c (.int .i64 0)), (some (70, true))⟩,
 ⟨(some 73), .pick (.t 70) (.t 72) (.c (.bool false)), none⟩,
 ⟨(some 74), .mv (.t 73), none⟩,
 ⟨(some 75), .faddr 0 (.t 12), (some (74, true))⟩,
 ⟨(some 76), .load none (.t 75), (some (74, true))⟩,
 ⟨(some 77), .mv (.t 2), (some (74, true))⟩,
 ⟨(some 78), .bin .leq (.t 76) (.t 77), (some (74, true))⟩,
 ⟨(some 79), .pick (.t 74) (.t 78) (.c (.bool false)), none⟩,
 ⟨(some 80), .mv (.t 79), none⟩,
 ⟨(some 81), .mv (.t 2), (some (80, true))⟩,
 ⟨(some 82), .faddr 1 (.t 12), (some (80, true))⟩,
 ⟨(some 83), .load none (.t 82), (some (80, true))⟩,
 ⟨(some 84), .bin .leq (.t 81) (.t 83), (some (80, true))⟩,
 ⟨(some 85), .pick (.t 80) (.t 84) (.c (.bool false)), none⟩,
 ⟨(some 86), .mv (.t 85), none⟩,
 ⟨(some 87), .faddr 0 (.t 14), (some (86, true))⟩,
 ⟨(some 88), .load none (.t 87), (some (86, true))⟩,
 ⟨(some 89), .mv (.t 3), (some (86, true))⟩,
 ⟨(some 90), .bin .leq (.t 88) (.t 89), (some (86, true))⟩,
 ⟨(some 91), .pick (.t 86) (.t 90) (.c (.bool false)), none⟩,
 ⟨(some 92), .mv (.t 91), none⟩,
 ⟨(some 93), .mv (.t 3), (some (92, true))⟩,
 ⟨(some 94), .faddr 1 (.t 14), (some (92, true))⟩,
 ⟨(some 95), .load none (.t 94), (some (92, true))⟩,
 ⟨(some 96), .bin .leq (.t 93) (.t 95), (some (92, true))⟩,
 ⟨(some 97), .pick (.t 92) (.t 96) (.c (.bool false)), none⟩,
 ⟨(some 98), .mv (.t 97), none⟩,
 ⟨(some 99), .mv (.t 2), (some (98, true))⟩,
 ⟨(some 100), .mv (.t 18), (some (98, true))⟩,
 ⟨(some 101), .bin .sub (.t 99) (.t 100), (some (98, true))⟩,
 ⟨(some 102), .faddr 0 (.t 5), (some (98, true))⟩,
 ⟨(some 103), .load none (.t 102), (some (98, true))⟩,
 ⟨(some 104), .call (.f 36) [(.t 101), (.t 103)], (some (98, true))⟩,
 ⟨(some 105), .mv (.t 4), (some (98, true))⟩,
 ⟨(some 106), .bin .eql (.t 104) (.t 105), (some (98, true))⟩,
 ⟨(some 107), .pick (.t 98) (.t 106) (.c (.bool false)), none⟩,
 ⟨(some 108), .mv (.t 107), none⟩,
 ⟨(some 109), .mv (.t 16), (some (108, true))⟩,
 ⟨(some 110), .mv (.t 20), (some (108, true))⟩,
 ⟨(some 111), .call (.f 37) [(.t 109), (.t 110)], (some (108, true))⟩,
 ⟨(some 112), .un .not (.t 111), (some (108, true))⟩,
 ⟨(some 113), .pick (.t 108) (.t 112) (.c (.bool false)), none⟩] [4, 5, 6, 11, 12, 14, 16, 113])
 (.cond (.t 113) (.seq (.ops [
 ⟨(some 10), .mv (.c (.bool false)), none⟩] [10])
 .ret)
 .skip))
 (.seq (.ops [
 ⟨(some 115), .load (some 10) (.t 5), none⟩,
 ⟨(some 116), .load (some 3) (.t 6), none⟩,
 ⟨(some 117), .call (.f 22) [(.t 115), (.t 116)], none⟩,
 ⟨(some 114), .mv (.t 117), none⟩,
 ⟨(some 118), .ext 0 (.t 114), none⟩,
 ⟨(some 119), .ext 1 (.t 114), none⟩,
 ⟨(some 22), .alloc 23 2 [.int .i64 0, .int .i64 0], none⟩,
 ⟨none, .store 2 (.t 22) (.t 118), none⟩,
 ⟨(some 23), .mv (.t 119), none⟩] [4, 5, 11, 12, 14, 16, 22, 23])
 (.seq (.seq (.ops [
 ⟨(some 120), .mv (.t 16), none⟩,
 ⟨(some 121), .len (.t 120), none⟩,
 ⟨(some 122), .bin .gtr (.t 121) (.c (.int .i64 0)), none⟩,
 ⟨(some 123), .mv (.t 23), none⟩,
 ⟨(some 124), .bin .eql (.t 123) (.c (.int .i64 0)), none⟩,
 ⟨(some 125), .mv (.t 124), none⟩,
 ⟨(some 126), .faddr 0 (.t 22), (some (125, true))⟩,
 ⟨(some 127), .load none (.t 126), (some (125, true))⟩,
 ⟨(some 128), .mv (.t 4), (some (125, true))⟩,
 ⟨(some 129), .bin .leq (.t 127) (.t 128), (some (125, true))⟩,
 ⟨(some 130), .pick (.t 125) (.t 129) (.c (.bool false)), none⟩,
 ⟨(some 131), .mv (.t 130), none⟩,
 ⟨(some 132), .mv (.t 4), (some (131, true))⟩,
 ⟨(some 133), .faddr 1 (.t 22), (some (131, true))⟩,
 ⟨(some 134), .load none (.t 133), (some (131, true))⟩,
 ⟨(some 135), .bin .leq (.t 132) (.t 134), (some (131, true))⟩,
 ⟨(some 136), .pick (.t 131) (.t 135) (.c (.bool false)), none⟩,
 ⟨(some 137), .eqb true (.t 122) (.t 136), none⟩,
 ⟨(some 138), .mv (.t 137), none⟩,
 ⟨(some 139), .mv (.t 16), (some (138, false))⟩,
 ⟨(some 140), .len (.t 139), (some (138, false))⟩,
 ⟨(some 141), .bin .gtr (.t 140) (.c (.int .i64 2)), (some (138, false))⟩,
 ⟨(some 142), .pick (.t 138) (.c (.bool true)) (.t 141), none⟩] [4, 5, 11, 12, 14, 16, 142])
 (.cond (.t 142) (.seq (.ops [
 ⟨(some 10), .mv (.c (.bool false)), none⟩] [10])
 .ret)
 .skip))
 (.seq (.seq (.ops [
 ⟨(some 143), .faddr 1 (.t 5), none⟩,
 ⟨(some 144), .load none (.t 143), none⟩,
 ⟨(some 145), .faddr 4 (.t 5), none⟩,
 ⟨(some 146), .load none (.t 145), none⟩,
 ⟨(some 147), .faddr 3 (.t 5), none⟩,
 ⟨(some 148), .load none (.t 147), none⟩,
 ⟨(some 149), .bin .sub (.t 146) (.t 148), none⟩,
 ⟨(some 150), .bin .quo (.t 144) (.t 149), none⟩,
 ⟨(some 151), .bin .gtr (.t 150) (.c (.int .i64 3000)), none⟩] [4, 5, 11, 12, 14, 16, 151])
 (.cond (.t 151) (.seq (.ops [
 ⟨(some 152), .mv (.t 11), none⟩,
 ⟨(some 10), .mv (.t 152), none⟩] [10])
 .ret)
 .skip))
 (.seq (.seq (.ops [
 ⟨(some 24), .mv (.c (.int .i64 0)), none⟩] [4, 5, 11, 12, 14, 16, 24])
 (.block 0 (.loop (.seq (.seq (.ops [
 ⟨(some 153), .mv (.t 24), none⟩,
 ⟨(some 154), .mv (.t 16), none⟩,
 ⟨(some 155), .len (.t 154), none⟩,
 ⟨(some 156), .bin .lss (.t 153) (.t 155), none⟩] [4, 5, 11, 12, 14, 16, 24, 156])
 (.cond (.t 156) .skip
 (.exit 0)))
 (.seq (.block 1 (.seq (.draw [
 ⟨(some 159), .load (some 10) (.t 5), none⟩,
 ⟨(some 160), .load (some 2) (.t 12), none⟩,
 ⟨(some 161), .load (some 2) (.t 14), none⟩,
 ⟨(some 162), .mv (.t 16), none⟩,
 ⟨(some 163), .mv (.t 24), none⟩,
 ⟨(some 164), .iaddr 2 (.t 162) (.t 163), none⟩,
 ⟨(some 165), .faddr 0 (.t 164), none⟩,
 ⟨(some 166), .load none (.t 165), none⟩,
 ⟨(some 167), .mv (.t 4), none⟩,
 ⟨(some 168), .call (.f 38) [(.t 159), (.t 160), (.t 161), (.t 166), (.t 167)], none⟩,
 ⟨(some 169), .un .not (.t 168), none⟩,
 ⟨(some 170), .mv (.t 169), none⟩,
 ⟨(some 171), .load (some 10) (.t 5), (some (170, false))⟩,
 ⟨(some 172), .load (some 2) (.t 12), (some (170, false))⟩,
 ⟨(some 173), .load (some 2) (.t 14), (some (170, false))⟩,
 ⟨(some 174), .mv (.t 16), (some (170, false))⟩,
 ⟨(some 175), .mv (.t 24), (some (170, false))⟩,
 ⟨(some 176), .iaddr 2 (.t 174) (.t 175), (some (170, false))⟩,
 ⟨(some 177), .faddr 1 (.t 176), (some (170, false))⟩,
 ⟨(some 178), .load none (.t 177), (some (170, false))⟩,
 ⟨(some 179), .mv (.t 4), (some (170, false))⟩,
 ⟨(some 180), .call (.f 38) [(.t 171), (.t 172), (.t 173), (.t 178), (.t 179)], (some (170, false))⟩,
 ⟨(some 181), .un .not (.t 180), (some (170, false))⟩,
 ⟨(some 182), .pick (.t 170) (.c (.bool true)) (.t 181), none⟩,
 ⟨(some 183), .mv (.t 182), none⟩,
 ⟨(some 184), .load (some 10) (.t 5), (some (183, false))⟩,
 ⟨(some 185), .load (some 2) (.t 12), (some (183, false))⟩,
 ⟨(some 186), .load (some 2) (.t 14), (some (183, false))⟩,
 ⟨(some 187), .mv (.t 16), (some (183, false))⟩,
 ⟨(some 188), .mv (.t 24), (some (183, false))⟩,
 ⟨(some 189), .iaddr 2 (.t 187) (.t 188), (some (183, false))⟩,
 ⟨(some 190), .faddr 0 (.t 189), (some (183, false))⟩,
 ⟨(some 191), .load none (.t 190), (some (183, false))⟩,
 ⟨(some 192), .bin .sub (.t 191) (.c (.int .i64 1)), (some (183, false))⟩,
 ⟨(some 193), .mv (.t 4), (some (183, false))⟩,
 ⟨(some 194), .call (.f 38) [(.t 184), (.t 185), (.t 186), (.t 192), (.t 193)], (some (183, false))⟩,
 ⟨(some 195), .pick (.t 183) (.c (.bool true)) (.t 194), none⟩,
 ⟨(some 196), .mv (.t 195), none⟩,
 ⟨(some 197), .load (some 10) (.t 5), (some (196, false))⟩,
 ⟨(some 198), .load (some 2) (.t 12), (some (196, false))⟩,
 ⟨(some 199), .load (some 2) (.t 14), (some (196, false))⟩,
 ⟨(some 200), .mv (.t 16), (some (196, false))⟩,
 ⟨(some 201), .mv (.t 24), (some (196, false))⟩,
 ⟨(some 202), .iaddr 2 (.t 200) (.t 201), (some (196, false))⟩,
 ⟨(some 203), .faddr 1 (.t 202), (some (196, false))⟩,
 ⟨(some 204), .load none (.t 203), (some (196, false))⟩,
 ⟨(some 205), .bin .add (.t 204) (.c (.int .i64 1)), (some (196, false))⟩,
 ⟨(some 206), .mv (.t 4), (some (196, false))⟩,
 ⟨(some 207), .call (.f 38) [(.t 197), (.t 198), (.t 199), (.t 205), (.t 206)], (some (196, false))⟩,
 ⟨(some 208), .pick (.t 196) (.c (.bool true)) (.t 207), none⟩] [
 ] [4, 5, 11, 12, 14, 16, 24, 208])
 (.cond (.t 208) (.seq (.ops [
 ⟨(some 10), .mv (.c (.bool false)), none⟩] [10])
 .ret)
 .skip)))
 (.ops [
 ⟨(some 157), .mv (.t 24), none⟩,
 ⟨(some 158), .bin .add (.t 157) (.c (.int .i64 1)), none⟩,
 ⟨(some 24), .mv (.t 158), none⟩] [4, 5, 11, 12, 14, 16, 24]))))))
 (.seq (.ops [
 ⟨(some 209), .mv (.t 11), none⟩,
 ⟨(some 10), .mv (.t 209), none⟩] [10])
 .ret)))))))))))))),
 [.t 10]⟩

theorem k37 : chkF Try.prog Try.f37 c37 = true := by kernel_rfl
theorem k36 : chkF Try.prog Try.f36 c36 = true := by kernel_rfl
theorem k20 : chkF Try.prog Try.f20 c20 = true := by kernel_rfl
theorem k38 : chkF Try.prog Try.f38 c38 = true := by kernel_rfl
theorem k4 : chkF Try.prog Try.f4 c4 = true := by kernel_rfl
theorem k8 : chkF Try.prog Try.f8 c8 = true := by kernel_rfl

theorem back_place (s : Sp) (x a h : Int) (hs : s.ok) (hx : 0 ≤ x) (ha : s.lo ≤ a ∧ a ≤ s.hi) (hh : 1 ≤ h) : (s.places (x * a / 1000) h).lo ≤ x ∧ x ≤ (s.places (x * a / 1000) h).hi := by
  have d1 := Int.ediv_mul_le (x * a) (show (1000 : Int) ≠ 0 by decide)
  have d2 := Int.lt_ediv_add_one_mul_self (x * a) (show (0 : Int) < 1000 by decide)
  have m1 := Int.mul_le_mul_of_nonneg_left ha.1 hx
  have m2 := Int.mul_le_mul_of_nonneg_left ha.2 hx
  simp only [Sp.places]
  constructor
  · have e : (x * a / 1000 - h) * 1000 / s.hi < x + 1 := by
      rw [Int.ediv_lt_iff_lt_mul (by omega), Int.add_mul]; omega
    omega
  · rw [Int.le_ediv_iff_mul_le (by omega)]; omega

theorem back_known (s : Sp) (x a h : Int) (hs : s.ok) (hx : 0 ≤ x) (ha : s.lo ≤ a ∧ a ≤ s.hi) (hh : 1 ≤ h) : (s.known x (x * a / 1000) h).lo ≤ a ∧ a ≤ (s.known x (x * a / 1000) h).hi ∧ s.lo ≤ (s.known x (x * a / 1000) h).lo ∧ (s.known x (x * a / 1000) h).hi ≤ s.hi := by
  have d1 := Int.ediv_mul_le (x * a) (show (1000 : Int) ≠ 0 by decide)
  have d2 := Int.lt_ediv_add_one_mul_self (x * a) (show (0 : Int) < 1000 by decide)
  rw [Sp.known, if_neg (by omega)]
  have e1 : (x * a / 1000 - h) * 1000 / (x + 1) < a + 1 := by
    rw [Int.ediv_lt_iff_lt_mul (by omega), Int.add_mul, Int.mul_add, Int.mul_comm a x]; omega
  simp only
  split
  · have e2 : -(x * a / 1000 + h) * 1000 / x < -a + 1 := by
      rw [Int.ediv_lt_iff_lt_mul (by omega), Int.add_mul]; simp only [Int.neg_mul, Int.mul_comm a x]; omega
    omega
  · omega

theorem back1 (p : Pp) (t : Pt) (a c : Int) (h : (p.Shr t a c).2 = 0) (hh : 1 ≤ t.h) :
    (p.Al (p.Shr t a c).1).2 = 0 ∧ (p.Ac (p.Shr t a c).1).2 = 0 ∧ (p.Al (p.Shr t a c).1).1.lo ≤ t.x ∧ t.x ≤ (p.Al (p.Shr t a c).1).1.hi ∧ (p.Ac (p.Shr t a c).1).1.lo ≤ t.y ∧ t.y ≤ (p.Ac (p.Shr t a c).1).1.hi ∧
    (p.Calib t.x t.y (p.Shr t a c).1).2 = 0 ∧ (p.Calib t.x t.y (p.Shr t a c).1).1.al.lo ≤ a ∧ a ≤ (p.Calib t.x t.y (p.Shr t a c).1).1.al.hi ∧ (p.Calib t.x t.y (p.Shr t a c).1).1.cl.lo ≤ c ∧ c ≤ (p.Calib t.x t.y (p.Shr t a c).1).1.cl.hi ∧
    p.al.lo ≤ (p.Calib t.x t.y (p.Shr t a c).1).1.al.lo ∧ (p.Calib t.x t.y (p.Shr t a c).1).1.al.hi ≤ p.al.hi ∧ p.cl.lo ≤ (p.Calib t.x t.y (p.Shr t a c).1).1.cl.lo ∧ (p.Calib t.x t.y (p.Shr t a c).1).1.cl.hi ≤ p.cl.hi := by
  unfold Pp.Shr at h ⊢
  split at h
  case isFalse h' => exact absurd h h'
  rename_i h0
  obtain ⟨hg, ht⟩ := perr0 h0
  rw [if_pos h0] 
  split at h
  case isFalse h' => exact absurd h (by decide)
  rename_i hac
  rw [if_pos hac]
  split at h
  case isFalse h' => exact absurd h (by decide)
  rename_i hr
  rw [if_pos hr]
  have e0 : p.perr1 (t.shr a c) = 0 := by rw [Pp.perr1, if_pos hg, if_pos hr]
  have b1 := back_place p.al t.x a t.h hg.al ht.1 hac.1 hh
  have b2 := back_place p.cl t.y c t.h hg.cl ht.2.2.1 hac.2 hh
  have b3 := back_known p.al t.x a t.h hg.al ht.1 hac.1 hh
  have b4 := back_known p.cl t.y c t.h hg.cl ht.2.2.1 hac.2 hh
  have eA : p.Al (t.shr a c) = (p.along (t.shr a c), 0) := by rw [Pp.Al, if_pos e0]
  have eC : p.Ac (t.shr a c) = (p.across (t.shr a c), 0) := by rw [Pp.Ac, if_pos e0]
  have ec : p.Calib t.x t.y (t.shr a c) = (p.calib t.x t.y (t.shr a c), 0) := by
    rw [Pp.Calib, if_neg (by simp [e0]), if_neg (by omega), if_neg]
    simp only [Pp.calib, Pt.shr]; omega
  rw [eA, eC, ec]
  exact ⟨rfl, rfl, b1.1, b1.2, b2.1, b2.2, rfl, b3.1, b3.2.1, b4.1, b4.2.1, b3.2.2.1, b3.2.2.2, b4.2.2.1, b4.2.2.2⟩

theorem PaperBack_spec (p : Pp) (t : Pt) (a c : Int) : Pure Try.prog 10 [.agg p.cs, .agg t.cs, n a, n c] (bl true) := by
  refine Pure.of_body Try.call10 Try.func10 k10 (Nat.le_of_ble_eq_true rfl) ?_
  have F := back1 p t a c
  unfold c10
  (repeat' first
    | (refine AWPC.of_vcn rfl ?_; simp only [zT, drp, hasN, Bool.or_false, Bool.false_or, Bool.or_true, Bool.true_or, Classical.not_not, zS, vcC, exs, exd, pickV, alS, Al.ob, grd, ex, ov, gt, argE, strp, cnd, sideL, I.os, st, wrap, keep, binA, kseq, kblk, kret, klp, resL, res1, one, ocalls, obj, elems, cells, scalar, vs, pick1, fillA, splice, chop, eqC, Nat.reduceBEq, Nat.reduceAdd, Nat.reduceSub, Nat.reduceLT, Nat.reduceLeDiff, Nat.reduceMul, Nat.reduceEqDiff, cond_true, cond_false, if_true, if_false, reduceIte, implies_true, forall_const, ne_eq])
    | (simp (disch := omega) only [wr64, Int.zero_sub]; try simp only [zT, drp, hasN, Bool.or_false, Bool.false_or, Bool.or_true, Bool.true_or, Classical.not_not, zS, vcC, exs, exd, pickV, alS, Al.ob, grd, ex, ov, gt, argE, strp, cnd, sideL, I.os, st, wrap, keep, binA, kseq, kblk, kret, klp, resL, res1, one, ocalls, obj, elems, cells, scalar, vs, pick1, fillA, splice, chop, eqC, Nat.reduceBEq, Nat.reduceAdd, Nat.reduceSub, Nat.reduceLT, Nat.reduceLeDiff, Nat.reduceMul, Nat.reduceEqDiff, cond_true, cond_false, if_true, if_false, reduceIte, implies_true, forall_const, ne_eq])
    | (refine AWPC.both (fun _ => ?_) (fun _ => ?_))
    | (refine AWPC.imp (fun _ => ?_))
    | ((repeat (refine And.intro (by (intros; simp_all (config := { decide := false }); done)) ?_)); (first
      | (refine .inl ⟨_, _, _, _, rfl, fun _hc => ⟨by simp, awake_spec⟩, ?_⟩)
      | (refine .inl ⟨_, _, _, _, rfl, fun _hc => ⟨by simp, Shrink_spec p t a c⟩, ?_⟩)
      | (refine .inl ⟨_, _, _, _, rfl, fun _hc => ⟨by simp, Along_spec p (p.Shr t a c).1⟩, ?_⟩)
      | (refine .inl ⟨_, _, _, _, rfl, fun _hc => ⟨by simp, Across_spec p (p.Shr t a c).1⟩, ?_⟩)
      | (refine .inl ⟨_, _, _, _, rfl, fun _hc => ⟨by simp, Calibrate_spec p t.x t.y (p.Shr t a c).1⟩, ?_⟩)
      | (refine ⟨_, _, _, _, rfl, fun _hc => ⟨by simp, awake_spec⟩, ?_⟩)
      | (refine ⟨_, _, _, _, rfl, fun _hc => ⟨by simp, Shrink_spec p t a c⟩, ?_⟩)
      | (refine ⟨_, _, _, _, rfl, fun _hc => ⟨by simp, Along_spec p (p.Shr t a c).1⟩, ?_⟩)
      | (refine ⟨_, _, _, _, rfl, fun _hc => ⟨by simp, Across_spec p (p.Shr t a c).1⟩, ?_⟩)
      | (refine ⟨_, _, _, _, rfl, fun _hc => ⟨by simp, Calibrate_spec p t.x t.y (p.Shr t a c).1⟩, ?_⟩)
      | fail); (first | (refine owp_of_exs ?_; simp only [zT, drp, hasN, Bool.or_false, Bool.false_or, Bool.or_true, Bool.true_or, Classical.not_not, zS, vcC, exs, exd, pickV, alS, Al.ob, grd, ex, ov, gt, argE, strp, cnd, sideL, I.os, st, wrap, keep, binA, kseq, kblk, kret, klp, resL, res1, one, ocalls, obj, elems, cells, scalar, vs, pick1, fillA, splice, chop, eqC, Nat.reduceBEq, Nat.reduceAdd, Nat.reduceSub, Nat.reduceLT, Nat.reduceLeDiff, Nat.reduceMul, Nat.reduceEqDiff, cond_true, cond_false, if_true, if_false, reduceIte, implies_true, forall_const, ne_eq]) | (refine pre_of_exd ?_; simp only [zT, drp, hasN, Bool.or_false, Bool.false_or, Bool.or_true, Bool.true_or, Classical.not_not, zS, vcC, exs, exd, pickV, alS, Al.ob, grd, ex, ov, gt, argE, strp, cnd, sideL, I.os, st, wrap, keep, binA, kseq, kblk, kret, klp, resL, res1, one, ocalls, obj, elems, cells, scalar, vs, pick1, fillA, splice, chop, eqC, Nat.reduceBEq, Nat.reduceAdd, Nat.reduceSub, Nat.reduceLT, Nat.reduceLeDiff, Nat.reduceMul, Nat.reduceEqDiff, cond_true, cond_false, if_true, if_false, reduceIte, implies_true, forall_const, ne_eq]) | fail))
    | ((refine .inl ⟨_, _, _, .any, rfl, fun h => absurd h Bool.false_ne_true, ?_⟩); (first | (refine owp_of_exs ?_; simp only [zT, drp, hasN, Bool.or_false, Bool.false_or, Bool.or_true, Bool.true_or, Classical.not_not, zS, vcC, exs, exd, pickV, alS, Al.ob, grd, ex, ov, gt, argE, strp, cnd, sideL, I.os, st, wrap, keep, binA, kseq, kblk, kret, klp, resL, res1, one, ocalls, obj, elems, cells, scalar, vs, pick1, fillA, splice, chop, eqC, Nat.reduceBEq, Nat.reduceAdd, Nat.reduceSub, Nat.reduceLT, Nat.reduceLeDiff, Nat.reduceMul, Nat.reduceEqDiff, cond_true, cond_false, if_true, if_false, reduceIte, implies_true, forall_const, ne_eq]) | fail))
    | (refine ⟨by omega, ?_⟩)
    | fail)
  all_goals first
    | exact Frz.eq rfl (by simp)
    | (exfalso; omega)
    | (refine Frz.eq ?_ (by simp); congr 2; simp only [decide_eq_true_eq]; omega)
    | trace_state

theorem inside_spec (a b : Sp) : Pure Try.prog 20 [.agg a.cs, .agg b.cs] (bl (decide (b.lo ≤ a.lo ∧ a.hi ≤ b.hi))) := by
  refine Pure.of_body Try.call20 Try.func20 k20 (Nat.le_of_ble_eq_true rfl) ?_
  unfold c20
  (repeat' first
    | (refine AWPC.of_vcn rfl ?_; simp only [zT, drp, hasN, Bool.or_false, Bool.false_or, Bool.or_true, Bool.true_or, Classical.not_not, zS, vcC, exs, exd, pickV, alS, Al.ob, grd, ex, ov, gt, argE, strp, cnd, sideL, I.os, st, wrap, keep, binA, kseq, kblk, kret, klp, resL, res1, one, ocalls, obj, elems, cells, scalar, vs, pick1, fillA, splice, chop, eqC, Nat.reduceBEq, Nat.reduceAdd, Nat.reduceSub, Nat.reduceLT, Nat.reduceLeDiff, Nat.reduceMul, Nat.reduceEqDiff, cond_true, cond_false, if_true, if_false, reduceIte, implies_true, forall_const, ne_eq])
    | (simp (disch := omega) only [wr64, Int.zero_sub]; try simp only [zT, drp, hasN, Bool.or_false, Bool.false_or, Bool.or_true, Bool.true_or, Classical.not_not, zS, vcC, exs, exd, pickV, alS, Al.ob, grd, ex, ov, gt, argE, strp, cnd, sideL, I.os, st, wrap, keep, binA, kseq, kblk, kret, klp, resL, res1, one, ocalls, obj, elems, cells, scalar, vs, pick1, fillA, splice, chop, eqC, Nat.reduceBEq, Nat.reduceAdd, Nat.reduceSub, Nat.reduceLT, Nat.reduceLeDiff, Nat.reduceMul, Nat.reduceEqDiff, cond_true, cond_false, if_true, if_false, reduceIte, implies_true, forall_const, ne_eq])
    | (refine AWPC.both (fun _ => ?_) (fun _ => ?_))
    | (refine AWPC.imp (fun _ => ?_))
    | ((refine .inl ⟨_, _, _, .any, rfl, fun h => absurd h Bool.false_ne_true, ?_⟩); (first | (refine owp_of_exs ?_; simp only [zT, drp, hasN, Bool.or_false, Bool.false_or, Bool.or_true, Bool.true_or, Classical.not_not, zS, vcC, exs, exd, pickV, alS, Al.ob, grd, ex, ov, gt, argE, strp, cnd, sideL, I.os, st, wrap, keep, binA, kseq, kblk, kret, klp, resL, res1, one, ocalls, obj, elems, cells, scalar, vs, pick1, fillA, splice, chop, eqC, Nat.reduceBEq, Nat.reduceAdd, Nat.reduceSub, Nat.reduceLT, Nat.reduceLeDiff, Nat.reduceMul, Nat.reduceEqDiff, cond_true, cond_false, if_true, if_false, reduceIte, implies_true, forall_const, ne_eq]) | fail))
    | (refine ⟨by omega, ?_⟩)
    | fail)
  exact Frz.eq rfl (by simp)

theorem places_mono {s u : Sp} {x h g : Int} (hs : s.ok) (hu : u.ok) (h1 : u.lo ≤ s.lo) (h2 : s.hi ≤ u.hi) (hx : 0 ≤ x) (hh : 0 ≤ h) (hg : h ≤ g) : (u.places x g).lo ≤ (s.places x h).lo ∧ (s.places x h).hi ≤ (u.places x g).hi := by
  simp only [Sp.places]
  constructor
  · by_cases hn : (x - g) * 1000 < 0
    · have := Int.ediv_neg_of_neg_of_pos hn (show 0 < u.hi by omega)
      omega
    · have e1 : (x - g) * 1000 / u.hi ≤ (x - g) * 1000 / s.hi := by
        rw [Int.le_ediv_iff_mul_le (by omega)]
        have a1 := Int.ediv_mul_le ((x - g) * 1000) (show u.hi ≠ 0 by omega)
        have a2 : 0 ≤ (x - g) * 1000 / u.hi := Int.ediv_nonneg (by omega) (by omega)
        have a3 := Int.mul_le_mul_of_nonneg_left h2 a2
        omega
      have e2 : (x - g) * 1000 / s.hi ≤ (x - h) * 1000 / s.hi := Int.ediv_le_ediv (by omega) (by omega)
      omega
  · have e1 : (x + h) * 1000 / s.lo ≤ (x + h) * 1000 / u.lo := by
      rw [Int.le_ediv_iff_mul_le (by omega)]
      have a1 := Int.ediv_mul_le ((x + h) * 1000) (show s.lo ≠ 0 by omega)
      have a2 : 0 ≤ (x + h) * 1000 / s.lo := Int.ediv_nonneg (by omega) (by omega)
      have a3 := Int.mul_le_mul_of_nonneg_left h1 a2
      omega
    have e2 : (x + h) * 1000 / u.lo ≤ (x + g) * 1000 / u.lo := Int.ediv_le_ediv (by omega) (by omega)
    omega

theorem narrow_in {p : Pp} {t : Pt} {A C : Sp} {g c y : Int} (hp : p.good) (ht : t.right) (hq : Pp.good { p with al := A, cl := C }) (hx : Pt.right { t with h := g }) (hA : p.al.lo ≤ A.lo ∧ A.hi ≤ p.al.hi) (hC : p.cl.lo ≤ C.lo ∧ C.hi ≤ p.cl.hi) (hh : g ≤ t.h)
    (h : Pp.In { p with al := A, cl := C } { t with h := g } c y) : p.In t c y := by
  obtain ⟨⟨h1, h2⟩, h3, h4⟩ := h
  have m1 := places_mono (s := A) (u := p.al) (x := t.x) hq.al hp.al hA.1 hA.2 ht.1 hx.2.2.2.2.1 hh
  have m2 := places_mono (s := C) (u := p.cl) (x := t.y) hq.cl hp.cl hC.1 hC.2 ht.2.2.1 hx.2.2.2.2.1 hh
  simp only [Pp.heights, Pp.across, Pp.abd, Pp.along] at h1 h2 h3 h4
  dsimp only at m1 m2
  refine ⟨⟨?_, ?_⟩, ?_, ?_⟩
  · simp only [Pp.heights, Pp.across]; omega
  · simp only [Pp.heights, Pp.across]; omega
  · have e : Pp.arc { p with al := A, cl := C } y = p.arc y := rfl
    rw [e] at h3
    simp only [Pp.abd, Pp.along]; omega
  · have e : Pp.arc { p with al := A, cl := C } y = p.arc y := rfl
    rw [e] at h4
    simp only [Pp.abd, Pp.along]; omega

theorem rmeans_ok {p : Pp} {t : Pt} {c : Int} (h : (p.RMeans t c).2 = 0) : p.good ∧ t.right ∧ 0 ≤ c ∧ c ≤ p.co - 1 ∧ (p.RMeans t c).1 = p.rmeans t c ∧ p.perr1 t = 0 := by
  unfold Pp.RMeans at h ⊢
  split at h
  · rename_i h'; exact absurd h h'
  · rename_i h'
    have h0 : p.perr1 t = 0 := by simpa using h'
    obtain ⟨hg, ht⟩ := perr0 h0
    split at h
    · exact absurd h (by decide)
    · rename_i hc
      rw [if_neg h', if_neg hc]
      exact ⟨hg, ht, by omega, by omega, rfl, h0⟩

theorem narrow1 {p : Pp} {t : Pt} {A C : Sp} {g c : Int} (hA : p.al.lo ≤ A.lo ∧ A.hi ≤ p.al.hi) (hC : p.cl.lo ≤ C.lo ∧ C.hi ≤ p.cl.hi) (hh : g ≤ t.h) (h1 : (p.RMeans t c).2 = 0) (h2 : (Pp.RMeans { p with al := A, cl := C } { t with h := g } c).2 = 0) :
    ∀ s ∈ (Pp.RMeans { p with al := A, cl := C } { t with h := g } c).1, ∃ u ∈ (p.RMeans t c).1, u.lo ≤ s.lo ∧ s.hi ≤ u.hi := by
  obtain ⟨hg, ht, c0, c1, e1, _⟩ := rmeans_ok h1
  obtain ⟨hq, hx, _, _, e2, _⟩ := rmeans_ok h2
  rw [e1, e2]
  obtain ⟨n1, m1, _⟩ := rmeans_set p t c hg ht
  obtain ⟨n2, m2, _⟩ := rmeans_set _ _ c hq hx
  intro s hs
  refine n1.whole (n2.ne s hs) fun v v1 v2 => ?_
  obtain ⟨y, y1, y2, y3⟩ := (m2 v).1 ⟨s, hs, v1, v2⟩
  have := narrow_in hg ht hq hx hA hC hh (c := c) (y := y) ⟨y1, y2⟩
  exact (m1 v).2 ⟨y, this.1, this.2, y3⟩

theorem narrow2 {p : Pp} {t : Pt} {A C : Sp} {g c : Int} (hA : p.al.lo ≤ A.lo ∧ A.hi ≤ p.al.hi) (hC : p.cl.lo ≤ C.lo ∧ C.hi ≤ p.cl.hi) (hh : g ≤ t.h) (h1 : (p.RMeans t c).2 = 0) (h2 : (Pp.RMeans { p with al := A, cl := C } { t with h := g } c).2 = 0)
    (h3 : (Pp.RCols { p with al := A, cl := C } { t with h := g }).2 = 0) : (p.RCols t).2 = 0 ∧ (p.RCols t).1.lo ≤ (Pp.RCols { p with al := A, cl := C } { t with h := g }).1.lo ∧ (Pp.RCols { p with al := A, cl := C } { t with h := g }).1.hi ≤ (p.RCols t).1.hi := by
  obtain ⟨hg, ht, c0, c1, e1, z1⟩ := rmeans_ok h1
  obtain ⟨hq, hx, _, _, e2, z2⟩ := rmeans_ok h2
  unfold Pp.RCols at h3 ⊢
  rw [if_pos z2] at h3 ⊢
  rw [if_pos z1]
  split at h3
  · exact absurd h3 (by decide)
  rename_i hle
  rw [if_neg hle]
  have hb : ∀ (p : Pp) (t : Pt), (p.rcols t).lo ≤ (p.rcols t).hi → 0 ≤ (p.rcols t).lo ∧ (p.rcols t).hi < p.co := by
    intro p t
    unfold Pp.rcols; split
    · intro h; simp only at h; omega
    · intro h; simp only at h ⊢; omega
  have b := hb _ _ (Int.not_lt.1 hle)
  simp only at b
  have i1 := rcols_in _ _ hq hx (Pp.rcols { p with al := A, cl := C } { t with h := g }).lo b.1 (by simp only; omega)
  have i2 := rcols_in _ _ hq hx (Pp.rcols { p with al := A, cl := C } { t with h := g }).hi (by omega) b.2
  obtain ⟨y1, k1⟩ := i1.1 ⟨Int.le_refl _, by omega⟩
  obtain ⟨y2, k2⟩ := i2.1 ⟨by omega, Int.le_refl _⟩
  have j1 := (rcols_in p t hg ht _ b.1 (by omega)).2 ⟨y1, narrow_in hg ht hq hx hA hC hh k1⟩
  have j2 := (rcols_in p t hg ht _ (by omega) b.2).2 ⟨y2, narrow_in hg ht hq hx hA hC hh k2⟩
  rw [if_neg (by omega)]
  exact ⟨rfl, j1.1, j2.2⟩

theorem PaperNarrower_spec (p : Pp) (t : Pt) (A C : Sp) (g c : Int) : Pure Try.prog 4 [.agg p.cs, .agg t.cs, .agg A.cs, .agg C.cs, n g, n c] (bl true) := by
  refine Pure.of_body Try.call4 Try.func4 k4 (Nat.le_of_ble_eq_true rfl) ?_
  have hm := Means_spec p t c
  rw [means_eq] at hm
  have hm2 := Means_spec { p with al := A, cl := C } { t with h := g } c
  rw [means_eq] at hm2
  have hc := Columns_spec p t
  rw [cols_eq] at hc
  have hc2 := Columns_spec { p with al := A, cl := C } { t with h := g }
  rw [cols_eq] at hc2
  have l1 := means_len p t c
  have l2 := means_len { p with al := A, cl := C } { t with h := g } c
  have N1 := @narrow1 p t A C g c
  have N2 := @narrow2 p t A C g c
  generalize hM : p.RMeans t c = M at *
  generalize hM2 : Pp.RMeans { p with al := A, cl := C } { t with h := g } c = M2 at *
  generalize hR : p.RCols t = R at *
  generalize hR2 : Pp.RCols { p with al := A, cl := C } { t with h := g } = R2 at *
  obtain ⟨a, e⟩ := M
  obtain ⟨b, f⟩ := M2
  simp only at hm hm2 N1 N2 l1 l2
  clear hM hM2 hR hR2
  unfold c4
  (repeat' first
    | (refine AWPC.of_vcn rfl ?_; simp only [zT, drp, hasN, Bool.or_false, Bool.false_or, Bool.or_true, Bool.true_or, Classical.not_not, zS, vcC, exs, exd, pickV, alS, Al.ob, grd, ex, ov, gt, argE, strp, cnd, sideL, I.os, st, wrap, keep, binA, kseq, kblk, kret, klp, resL, res1, one, ocalls, obj, elems, cells, scalar, vs, pick1, fillA, splice, chop, eqC, Nat.reduceBEq, Nat.reduceAdd, Nat.reduceSub, Nat.reduceLT, Nat.reduceLeDiff, Nat.reduceMul, Nat.reduceEqDiff, cond_true, cond_false, if_true, if_false, reduceIte, implies_true, forall_const, ne_eq])
    | (simp (disch := omega) only [wr64, Int.zero_sub]; try simp only [zT, drp, hasN, Bool.or_false, Bool.false_or, Bool.or_true, Bool.true_or, Classical.not_not, zS, vcC, exs, exd, pickV, alS, Al.ob, grd, ex, ov, gt, argE, strp, cnd, sideL, I.os, st, wrap, keep, binA, kseq, kblk, kret, klp, resL, res1, one, ocalls, obj, elems, cells, scalar, vs, pick1, fillA, splice, chop, eqC, Nat.reduceBEq, Nat.reduceAdd, Nat.reduceSub, Nat.reduceLT, Nat.reduceLeDiff, Nat.reduceMul, Nat.reduceEqDiff, cond_true, cond_false, if_true, if_false, reduceIte, implies_true, forall_const, ne_eq])
    | (refine AWPC.both (fun _ => ?_) (fun _ => ?_))
    | (refine AWPC.imp (fun _ => ?_))
    | ((repeat (refine And.intro (by (intros; simp_all (config := { decide := false }); done)) ?_)); (first
      | (refine .inl ⟨_, _, _, _, rfl, fun _hc => ⟨by simp, awake_spec⟩, ?_⟩)
      | (refine .inl ⟨_, _, _, _, rfl, fun _hc => ⟨by simp, inside_spec _ _⟩, ?_⟩)
      | (refine .inl ⟨_, _, _, _, rfl, fun _hc => ⟨by simp, hm⟩, ?_⟩)
      | (refine .inl ⟨_, _, _, _, rfl, fun _hc => ⟨by simp, hm2⟩, ?_⟩)
      | (refine .inl ⟨_, _, _, _, rfl, fun _hc => ⟨by simp, hc⟩, ?_⟩)
      | (refine .inl ⟨_, _, _, _, rfl, fun _hc => ⟨by simp, hc2⟩, ?_⟩)
      | (refine ⟨_, _, _, _, rfl, fun _hc => ⟨by simp, awake_spec⟩, ?_⟩)
      | (refine ⟨_, _, _, _, rfl, fun _hc => ⟨by simp, inside_spec _ _⟩, ?_⟩)
      | (refine ⟨_, _, _, _, rfl, fun _hc => ⟨by simp, hm⟩, ?_⟩)
      | (refine ⟨_, _, _, _, rfl, fun _hc => ⟨by simp, hm2⟩, ?_⟩)
      | (refine ⟨_, _, _, _, rfl, fun _hc => ⟨by simp, hc⟩, ?_⟩)
      | (refine ⟨_, _, _, _, rfl, fun _hc => ⟨by simp, hc2⟩, ?_⟩)
      | fail); (first | (refine owp_of_exs ?_; simp only [zT, drp, hasN, Bool.or_false, Bool.false_or, Bool.or_true, Bool.true_or, Classical.not_not, zS, vcC, exs, exd, pickV, alS, Al.ob, grd, ex, ov, gt, argE, strp, cnd, sideL, I.os, st, wrap, keep, binA, kseq, kblk, kret, klp, resL, res1, one, ocalls, obj, elems, cells, scalar, vs, pick1, fillA, splice, chop, eqC, Nat.reduceBEq, Nat.reduceAdd, Nat.reduceSub, Nat.reduceLT, Nat.reduceLeDiff, Nat.reduceMul, Nat.reduceEqDiff, cond_true, cond_false, if_true, if_false, reduceIte, implies_true, forall_const, ne_eq]) | (refine pre_of_exd ?_; simp only [zT, drp, hasN, Bool.or_false, Bool.false_or, Bool.or_true, Bool.true_or, Classical.not_not, zS, vcC, exs, exd, pickV, alS, Al.ob, grd, ex, ov, gt, argE, strp, cnd, sideL, I.os, st, wrap, keep, binA, kseq, kblk, kret, klp, resL, res1, one, ocalls, obj, elems, cells, scalar, vs, pick1, fillA, splice, chop, eqC, Nat.reduceBEq, Nat.reduceAdd, Nat.reduceSub, Nat.reduceLT, Nat.reduceLeDiff, Nat.reduceMul, Nat.reduceEqDiff, cond_true, cond_false, if_true, if_false, reduceIte, implies_true, forall_const, ne_eq]) | fail))
    | ((refine .inl ⟨_, _, _, .any, rfl, fun h => absurd h Bool.false_ne_true, ?_⟩); (first | (refine owp_of_exs ?_; simp only [zT, drp, hasN, Bool.or_false, Bool.false_or, Bool.or_true, Bool.true_or, Classical.not_not, zS, vcC, exs, exd, pickV, alS, Al.ob, grd, ex, ov, gt, argE, strp, cnd, sideL, I.os, st, wrap, keep, binA, kseq, kblk, kret, klp, resL, res1, one, ocalls, obj, elems, cells, scalar, vs, pick1, fillA, splice, chop, eqC, Nat.reduceBEq, Nat.reduceAdd, Nat.reduceSub, Nat.reduceLT, Nat.reduceLeDiff, Nat.reduceMul, Nat.reduceEqDiff, cond_true, cond_false, if_true, if_false, reduceIte, implies_true, forall_const, ne_eq]) | fail))
    | (refine ⟨by omega, ?_⟩)
    | fail)
  · exact Frz.eq rfl (by simp)
  · exact Frz.eq rfl (by simp)
  · rename_i h1 h2
    have N1 := N1 (by omega) (by omega) (by omega) (by omega) (by omega)
    have N2 := N2 (by omega) (by omega) (by omega) (by omega) (by omega)
    refine AWPC.loopI 20 b.length (fun _ => True) trivial ?_ ?_
    · (simp only [zT, drp, hasN, Bool.or_false, Bool.false_or, Bool.or_true, Bool.true_or, Classical.not_not, zS, vcC, exs, exd, pickV, alS, Al.ob, grd, ex, ov, gt, argE, strp, cnd, sideL, I.os, st, wrap, keep, binA, kseq, kblk, kret, klp, resL, res1, one, ocalls, obj, elems, cells, scalar, vs, pick1, fillA, splice, chop, eqC, Nat.reduceBEq, Nat.reduceAdd, Nat.reduceSub, Nat.reduceLT, Nat.reduceLeDiff, Nat.reduceMul, Nat.reduceEqDiff, cond_true, cond_false, if_true, if_false, reduceIte, implies_true, forall_const, ne_eq]; try simp)
    · intro i hi _
      by_cases hlt : i < b.length
      · obtain ⟨s, hs⟩ : ∃ s, b[i]? = some s := ⟨_, List.getElem?_eq_getElem hlt⟩
        (repeat' first
    | (refine AWPC.of_vcn rfl ?_; simp only [zT, drp, hasN, Bool.or_false, Bool.false_or, Bool.or_true, Bool.true_or, Classical.not_not, zS, vcC, exs, exd, pickV, alS, Al.ob, grd, ex, ov, gt, argE, strp, cnd, sideL, I.os, st, wrap, keep, binA, kseq, kblk, kret, klp, resL, res1, one, ocalls, obj, elems, cells, scalar, vs, pick1, fillA, splice, chop, eqC, Nat.reduceBEq, Nat.reduceAdd, Nat.reduceSub, Nat.reduceLT, Nat.reduceLeDiff, Nat.reduceMul, Nat.reduceEqDiff, cond_true, cond_false, if_true, if_false, reduceIte, implies_true, forall_const, ne_eq, getD_map hs])
    | (simp (disch := omega) only [wr64, Int.zero_sub]; try simp only [zT, drp, hasN, Bool.or_false, Bool.false_or, Bool.or_true, Bool.true_or, Classical.not_not, zS, vcC, exs, exd, pickV, alS, Al.ob, grd, ex, ov, gt, argE, strp, cnd, sideL, I.os, st, wrap, keep, binA, kseq, kblk, kret, klp, resL, res1, one, ocalls, obj, elems, cells, scalar, vs, pick1, fillA, splice, chop, eqC, Nat.reduceBEq, Nat.reduceAdd, Nat.reduceSub, Nat.reduceLT, Nat.reduceLeDiff, Nat.reduceMul, Nat.reduceEqDiff, cond_true, cond_false, if_true, if_false, reduceIte, implies_true, forall_const, ne_eq, getD_map hs])
    | (refine AWPC.both (fun _ => ?_) (fun _ => ?_))
    | (refine AWPC.imp (fun _ => ?_))
    | ((refine .inl ⟨_, _, _, .any, rfl, fun h => absurd h Bool.false_ne_true, ?_⟩); (first | (refine owp_of_exs ?_; simp only [zT, drp, hasN, Bool.or_false, Bool.false_or, Bool.or_true, Bool.true_or, Classical.not_not, zS, vcC, exs, exd, pickV, alS, Al.ob, grd, ex, ov, gt, argE, strp, cnd, sideL, I.os, st, wrap, keep, binA, kseq, kblk, kret, klp, resL, res1, one, ocalls, obj, elems, cells, scalar, vs, pick1, fillA, splice, chop, eqC, Nat.reduceBEq, Nat.reduceAdd, Nat.reduceSub, Nat.reduceLT, Nat.reduceLeDiff, Nat.reduceMul, Nat.reduceEqDiff, cond_true, cond_false, if_true, if_false, reduceIte, implies_true, forall_const, ne_eq, getD_map hs]) | fail))
    | (refine ⟨by omega, ?_⟩)
    | fail)
        all_goals try (exfalso; omega)
        refine AWPC.loopS (α := { x : Nat × Bool // x.1 ≤ a.length ∧ (x.2 = true ↔ ∃ u ∈ a.take x.1, u.lo ≤ s.lo ∧ s.hi ≤ u.hi) }) [21, 22] (fun x => [(21, bl x.1.2), (22, n x.1.1)]) (fun x => a.length - x.1.1) ⟨(0, false), by simp, by simp⟩ ?_ ?_
        · (simp only [zT, drp, hasN, Bool.or_false, Bool.false_or, Bool.or_true, Bool.true_or, Classical.not_not, zS, vcC, exs, exd, pickV, alS, Al.ob, grd, ex, ov, gt, argE, strp, cnd, sideL, I.os, st, wrap, keep, binA, kseq, kblk, kret, klp, resL, res1, one, ocalls, obj, elems, cells, scalar, vs, pick1, fillA, splice, chop, eqC, Nat.reduceBEq, Nat.reduceAdd, Nat.reduceSub, Nat.reduceLT, Nat.reduceLeDiff, Nat.reduceMul, Nat.reduceEqDiff, cond_true, cond_false, if_true, if_false, reduceIte, implies_true, forall_const, ne_eq]; try simp)
        · rintro ⟨⟨k, held⟩, hk, hh⟩
          simp only at hk hh
          by_cases hkl : k < a.length
          · obtain ⟨u, hu⟩ : ∃ u, a[k]? = some u := ⟨_, List.getElem?_eq_getElem hkl⟩
            (repeat' first
    | (refine AWPC.of_vcn rfl ?_; simp only [zT, drp, hasN, Bool.or_false, Bool.false_or, Bool.or_true, Bool.true_or, Classical.not_not, zS, vcC, exs, exd, pickV, alS, Al.ob, grd, ex, ov, gt, argE, strp, cnd, sideL, I.os, st, wrap, keep, binA, kseq, kblk, kret, klp, resL, res1, one, ocalls, obj, elems, cells, scalar, vs, pick1, fillA, splice, chop, eqC, Nat.reduceBEq, Nat.reduceAdd, Nat.reduceSub, Nat.reduceLT, Nat.reduceLeDiff, Nat.reduceMul, Nat.reduceEqDiff, cond_true, cond_false, if_true, if_false, reduceIte, implies_true, forall_const, ne_eq, getD_map hs, getD_map hu])
    | (simp (disch := omega) only [wr64, Int.zero_sub]; try simp only [zT, drp, hasN, Bool.or_false, Bool.false_or, Bool.or_true, Bool.true_or, Classical.not_not, zS, vcC, exs, exd, pickV, alS, Al.ob, grd, ex, ov, gt, argE, strp, cnd, sideL, I.os, st, wrap, keep, binA, kseq, kblk, kret, klp, resL, res1, one, ocalls, obj, elems, cells, scalar, vs, pick1, fillA, splice, chop, eqC, Nat.reduceBEq, Nat.reduceAdd, Nat.reduceSub, Nat.reduceLT, Nat.reduceLeDiff, Nat.reduceMul, Nat.reduceEqDiff, cond_true, cond_false, if_true, if_false, reduceIte, implies_true, forall_const, ne_eq, getD_map hs, getD_map hu])
    | (refine AWPC.both (fun _ => ?_) (fun _ => ?_))
    | (refine AWPC.imp (fun _ => ?_))
    | ((repeat (refine And.intro (by (intros; simp_all (config := { decide := false }); done)) ?_)); (first
      | (refine .inl ⟨_, _, _, _, rfl, fun _hc => ⟨by simp, inside_spec _ _⟩, ?_⟩)
      | (refine ⟨_, _, _, _, rfl, fun _hc => ⟨by simp, inside_spec _ _⟩, ?_⟩)
      | fail); (first | (refine owp_of_exs ?_; simp only [zT, drp, hasN, Bool.or_false, Bool.false_or, Bool.or_true, Bool.true_or, Classical.not_not, zS, vcC, exs, exd, pickV, alS, Al.ob, grd, ex, ov, gt, argE, strp, cnd, sideL, I.os, st, wrap, keep, binA, kseq, kblk, kret, klp, resL, res1, one, ocalls, obj, elems, cells, scalar, vs, pick1, fillA, splice, chop, eqC, Nat.reduceBEq, Nat.reduceAdd, Nat.reduceSub, Nat.reduceLT, Nat.reduceLeDiff, Nat.reduceMul, Nat.reduceEqDiff, cond_true, cond_false, if_true, if_false, reduceIte, implies_true, forall_const, ne_eq, getD_map hs, getD_map hu]) | (refine pre_of_exd ?_; simp only [zT, drp, hasN, Bool.or_false, Bool.false_or, Bool.or_true, Bool.true_or, Classical.not_not, zS, vcC, exs, exd, pickV, alS, Al.ob, grd, ex, ov, gt, argE, strp, cnd, sideL, I.os, st, wrap, keep, binA, kseq, kblk, kret, klp, resL, res1, one, ocalls, obj, elems, cells, scalar, vs, pick1, fillA, splice, chop, eqC, Nat.reduceBEq, Nat.reduceAdd, Nat.reduceSub, Nat.reduceLT, Nat.reduceLeDiff, Nat.reduceMul, Nat.reduceEqDiff, cond_true, cond_false, if_true, if_false, reduceIte, implies_true, forall_const, ne_eq, getD_map hs, getD_map hu]) | fail))
    | ((refine .inl ⟨_, _, _, .any, rfl, fun h => absurd h Bool.false_ne_true, ?_⟩); (first | (refine owp_of_exs ?_; simp only [zT, drp, hasN, Bool.or_false, Bool.false_or, Bool.or_true, Bool.true_or, Classical.not_not, zS, vcC, exs, exd, pickV, alS, Al.ob, grd, ex, ov, gt, argE, strp, cnd, sideL, I.os, st, wrap, keep, binA, kseq, kblk, kret, klp, resL, res1, one, ocalls, obj, elems, cells, scalar, vs, pick1, fillA, splice, chop, eqC, Nat.reduceBEq, Nat.reduceAdd, Nat.reduceSub, Nat.reduceLT, Nat.reduceLeDiff, Nat.reduceMul, Nat.reduceEqDiff, cond_true, cond_false, if_true, if_false, reduceIte, implies_true, forall_const, ne_eq, getD_map hs, getD_map hu]) | fail))
    | (refine ⟨by omega, ?_⟩)
    | fail)
            all_goals try (exfalso; omega)
            refine ⟨⟨(k + 1, held || decide (u.lo ≤ s.lo ∧ s.hi ≤ u.hi)), hkl, ?_⟩, ⟨by simp, by simp⟩, by simp only; omega⟩
            rw [List.take_add_one, hu]
            simp only [Bool.or_eq_true, decide_eq_true_eq, hh, List.mem_append, Option.toList_some, List.mem_singleton]
            constructor
            · rintro (⟨w, h1, h2⟩ | h)
              · exact ⟨w, .inl h1, h2⟩
              · exact ⟨u, .inr rfl, h⟩
            · rintro ⟨w, h1 | h1, h2⟩
              · exact .inl ⟨w, h1, h2⟩
              · subst h1; exact .inr h2
          · obtain rfl : k = a.length := by omega
            rw [List.take_length] at hh
            have hT := hh.2 (N1 s (List.mem_of_getElem? hs))
            subst hT
            (repeat' first
    | (refine AWPC.of_vcn rfl ?_; simp only [zT, drp, hasN, Bool.or_false, Bool.false_or, Bool.or_true, Bool.true_or, Classical.not_not, zS, vcC, exs, exd, pickV, alS, Al.ob, grd, ex, ov, gt, argE, strp, cnd, sideL, I.os, st, wrap, keep, binA, kseq, kblk, kret, klp, resL, res1, one, ocalls, obj, elems, cells, scalar, vs, pick1, fillA, splice, chop, eqC, Nat.reduceBEq, Nat.reduceAdd, Nat.reduceSub, Nat.reduceLT, Nat.reduceLeDiff, Nat.reduceMul, Nat.reduceEqDiff, cond_true, cond_false, if_true, if_false, reduceIte, implies_true, forall_const, ne_eq])
    | (simp (disch := omega) only [wr64, Int.zero_sub]; try simp only [zT, drp, hasN, Bool.or_false, Bool.false_or, Bool.or_true, Bool.true_or, Classical.not_not, zS, vcC, exs, exd, pickV, alS, Al.ob, grd, ex, ov, gt, argE, strp, cnd, sideL, I.os, st, wrap, keep, binA, kseq, kblk, kret, klp, resL, res1, one, ocalls, obj, elems, cells, scalar, vs, pick1, fillA, splice, chop, eqC, Nat.reduceBEq, Nat.reduceAdd, Nat.reduceSub, Nat.reduceLT, Nat.reduceLeDiff, Nat.reduceMul, Nat.reduceEqDiff, cond_true, cond_false, if_true, if_false, reduceIte, implies_true, forall_const, ne_eq])
    | (refine AWPC.both (fun _ => ?_) (fun _ => ?_))
    | (refine AWPC.imp (fun _ => ?_))
    | ((refine .inl ⟨_, _, _, .any, rfl, fun h => absurd h Bool.false_ne_true, ?_⟩); (first | (refine owp_of_exs ?_; simp only [zT, drp, hasN, Bool.or_false, Bool.false_or, Bool.or_true, Bool.true_or, Classical.not_not, zS, vcC, exs, exd, pickV, alS, Al.ob, grd, ex, ov, gt, argE, strp, cnd, sideL, I.os, st, wrap, keep, binA, kseq, kblk, kret, klp, resL, res1, one, ocalls, obj, elems, cells, scalar, vs, pick1, fillA, splice, chop, eqC, Nat.reduceBEq, Nat.reduceAdd, Nat.reduceSub, Nat.reduceLT, Nat.reduceLeDiff, Nat.reduceMul, Nat.reduceEqDiff, cond_true, cond_false, if_true, if_false, reduceIte, implies_true, forall_const, ne_eq]) | fail))
    | (refine ⟨by omega, ?_⟩)
    | fail)
            all_goals try (exfalso; omega)
            exact ⟨⟨i + 1, hlt, trivial⟩, by simp, by simp only; omega⟩
      · (repeat' first
    | (refine AWPC.of_vcn rfl ?_; simp only [zT, drp, hasN, Bool.or_false, Bool.false_or, Bool.or_true, Bool.true_or, Classical.not_not, zS, vcC, exs, exd, pickV, alS, Al.ob, grd, ex, ov, gt, argE, strp, cnd, sideL, I.os, st, wrap, keep, binA, kseq, kblk, kret, klp, resL, res1, one, ocalls, obj, elems, cells, scalar, vs, pick1, fillA, splice, chop, eqC, Nat.reduceBEq, Nat.reduceAdd, Nat.reduceSub, Nat.reduceLT, Nat.reduceLeDiff, Nat.reduceMul, Nat.reduceEqDiff, cond_true, cond_false, if_true, if_false, reduceIte, implies_true, forall_const, ne_eq])
    | (simp (disch := omega) only [wr64, Int.zero_sub]; try simp only [zT, drp, hasN, Bool.or_false, Bool.false_or, Bool.or_true, Bool.true_or, Classical.not_not, zS, vcC, exs, exd, pickV, alS, Al.ob, grd, ex, ov, gt, argE, strp, cnd, sideL, I.os, st, wrap, keep, binA, kseq, kblk, kret, klp, resL, res1, one, ocalls, obj, elems, cells, scalar, vs, pick1, fillA, splice, chop, eqC, Nat.reduceBEq, Nat.reduceAdd, Nat.reduceSub, Nat.reduceLT, Nat.reduceLeDiff, Nat.reduceMul, Nat.reduceEqDiff, cond_true, cond_false, if_true, if_false, reduceIte, implies_true, forall_const, ne_eq])
    | (refine AWPC.both (fun _ => ?_) (fun _ => ?_))
    | (refine AWPC.imp (fun _ => ?_))
    | ((repeat (refine And.intro (by (intros; simp_all (config := { decide := false }); done)) ?_)); (first
      | (refine .inl ⟨_, _, _, _, rfl, fun _hc => ⟨by simp, hc⟩, ?_⟩)
      | (refine .inl ⟨_, _, _, _, rfl, fun _hc => ⟨by simp, hc2⟩, ?_⟩)
      | (refine .inl ⟨_, _, _, _, rfl, fun _hc => ⟨by simp, inside_spec _ _⟩, ?_⟩)
      | (refine ⟨_, _, _, _, rfl, fun _hc => ⟨by simp, hc⟩, ?_⟩)
      | (refine ⟨_, _, _, _, rfl, fun _hc => ⟨by simp, hc2⟩, ?_⟩)
      | (refine ⟨_, _, _, _, rfl, fun _hc => ⟨by simp, inside_spec _ _⟩, ?_⟩)
      | fail); (first | (refine owp_of_exs ?_; simp only [zT, drp, hasN, Bool.or_false, Bool.false_or, Bool.or_true, Bool.true_or, Classical.not_not, zS, vcC, exs, exd, pickV, alS, Al.ob, grd, ex, ov, gt, argE, strp, cnd, sideL, I.os, st, wrap, keep, binA, kseq, kblk, kret, klp, resL, res1, one, ocalls, obj, elems, cells, scalar, vs, pick1, fillA, splice, chop, eqC, Nat.reduceBEq, Nat.reduceAdd, Nat.reduceSub, Nat.reduceLT, Nat.reduceLeDiff, Nat.reduceMul, Nat.reduceEqDiff, cond_true, cond_false, if_true, if_false, reduceIte, implies_true, forall_const, ne_eq]) | (refine pre_of_exd ?_; simp only [zT, drp, hasN, Bool.or_false, Bool.false_or, Bool.or_true, Bool.true_or, Classical.not_not, zS, vcC, exs, exd, pickV, alS, Al.ob, grd, ex, ov, gt, argE, strp, cnd, sideL, I.os, st, wrap, keep, binA, kseq, kblk, kret, klp, resL, res1, one, ocalls, obj, elems, cells, scalar, vs, pick1, fillA, splice, chop, eqC, Nat.reduceBEq, Nat.reduceAdd, Nat.reduceSub, Nat.reduceLT, Nat.reduceLeDiff, Nat.reduceMul, Nat.reduceEqDiff, cond_true, cond_false, if_true, if_false, reduceIte, implies_true, forall_const, ne_eq]) | fail))
    | ((refine .inl ⟨_, _, _, .any, rfl, fun h => absurd h Bool.false_ne_true, ?_⟩); (first | (refine owp_of_exs ?_; simp only [zT, drp, hasN, Bool.or_false, Bool.false_or, Bool.or_true, Bool.true_or, Classical.not_not, zS, vcC, exs, exd, pickV, alS, Al.ob, grd, ex, ov, gt, argE, strp, cnd, sideL, I.os, st, wrap, keep, binA, kseq, kblk, kret, klp, resL, res1, one, ocalls, obj, elems, cells, scalar, vs, pick1, fillA, splice, chop, eqC, Nat.reduceBEq, Nat.reduceAdd, Nat.reduceSub, Nat.reduceLT, Nat.reduceLeDiff, Nat.reduceMul, Nat.reduceEqDiff, cond_true, cond_false, if_true, if_false, reduceIte, implies_true, forall_const, ne_eq]) | fail))
    | (refine ⟨by omega, ?_⟩)
    | fail)
        all_goals try (exfalso; omega)
        refine Frz.eq ?_ (by simp); congr 2; simp only [decide_eq_true_eq]; omega
end Go.Proofs.Ytgpdckmbojmlpaa
