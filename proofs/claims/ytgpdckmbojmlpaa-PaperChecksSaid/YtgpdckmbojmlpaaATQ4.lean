import Derived.Test.YtgpdckmbojmlpaaATQ3
import Derived.Test.YtgpdckmbojmlpaaRows
namespace Go.Proofs.Ytgpdckmbojmlpaa
open Go.Abs
set_option linter.unusedVariables false
set_option linter.unusedSimpArgs false
set_option maxHeartbeats 4000000
set_option maxRecDepth 100000
-- aneroid/aneroidref01.first
def c132 : CF := ⟨27,
 (.seq (.ops [
 ⟨(some 4), .box false 25 10 (.t 0), none⟩,
 ⟨(some 8), .mv (.c (.int .i64 0)), none⟩] [1, 2, 3, 4])
 (.seq (.block 0 (.loop (.seq (.seq (.ops [
 ⟨(some 10), .mv (.t 1), none⟩,
 ⟨(some 11), .mv (.t 2), none⟩,
 ⟨(some 12), .bin .leq (.t 10) (.t 11), none⟩] [1, 2, 3, 4, 12])
 (.cond (.t 12) .skip
 (.exit 0)))
 (.block 1 (.seq (.ops [
 ⟨(some 13), .mv (.t 1), none⟩,
 ⟨(some 14), .mv (.t 2), none⟩,
 ⟨(some 15), .bin .add (.t 13) (.t 14), none⟩,
 ⟨(some 16), .bin .quo (.t 15) (.c (.int .i64 2)), none⟩,
 ⟨(some 9), .mv (.t 16), none⟩] [1, 2, 3, 4, 9])
 (.seq (.ops [
 ⟨(some 17), .load (some 10) (.t 4), none⟩,
 ⟨(some 18), .mv (.t 9), none⟩,
 ⟨(some 19), .call (.f 77) [(.t 17), (.t 18)], none⟩,
 ⟨(some 20), .mv (.t 3), none⟩,
 ⟨(some 21), .bin .geq (.t 19) (.t 20), none⟩] [1, 2, 3, 4, 9, 21])
 (.cond (.t 21) (.ops [
 ⟨(some 22), .mv (.t 9), none⟩,
 ⟨(some 23), .bin .sub (.t 22) (.c (.int .i64 1)), none⟩,
 ⟨(some 2), .mv (.t 23), none⟩] [1, 2, 3, 4])
 (.ops [
 ⟨(some 24), .mv (.t 9), none⟩,
 ⟨(some 25), .bin .add (.t 24) (.c (.int .i64 1)), none⟩,
 ⟨(some 1), .mv (.t 25), none⟩] [1, 2, 3, 4]))))))))
 (.seq (.ops [
 ⟨(some 26), .mv (.t 1), none⟩,
 ⟨(some 8), .mv (.t 26), none⟩] [8])
 .ret))),
 [.t 8]⟩
-- aneroid/aneroidref01.ring
def c122 : CF := ⟨26,
 (.seq (.ops [
 ⟨(some 3), .box false 25 10 (.t 0), none⟩,
 ⟨(some 4), .box false 23 2 (.t 1), none⟩,
 ⟨(some 5), .box false 23 2 (.t 2), none⟩,
 ⟨(some 6), .alloc 23 2 [.int .i64 0, .int .i64 0], none⟩] [3, 4, 5, 6])
 (.seq (.draw [
 ⟨(some 7), .load (some 10) (.t 3), none⟩,
 ⟨(some 8), .faddr 0 (.t 4), none⟩,
 ⟨(some 9), .load none (.t 8), none⟩,
 ⟨(some 10), .faddr 1 (.t 4), none⟩,
 ⟨(some 11), .load none (.t 10), none⟩,
 ⟨(some 12), .faddr 0 (.t 5), none⟩,
 ⟨(some 13), .load none (.t 12), none⟩,
 ⟨(some 14), .call (.f 132) [(.t 7), (.t 9), (.t 11), (.t 13)], none⟩,
 ⟨(some 15), .load (some 10) (.t 3), none⟩,
 ⟨(some 16), .faddr 0 (.t 4), none⟩,
 ⟨(some 17), .load none (.t 16), none⟩,
 ⟨(some 18), .faddr 1 (.t 4), none⟩,
 ⟨(some 19), .load none (.t 18), none⟩,
 ⟨(some 20), .faddr 1 (.t 5), none⟩,
 ⟨(some 21), .load none (.t 20), none⟩,
 ⟨(some 22), .bin .add (.t 21) (.c (.int .i64 1)), none⟩,
 ⟨(some 23), .call (.f 132) [(.t 15), (.t 17), (.t 19), (.t 22)], none⟩,
 ⟨(some 24), .bin .sub (.t 23) (.c (.int .i64 1)), none⟩,
 ⟨(some 25), .build [.int .i64 0, .int .i64 0] [(0, 1, (.t 14)), (1, 1, (.t 24))], none⟩] [
 ⟨none, .store 2 (.t 6) (.t 25), none⟩] [6])
 .ret)),
 [.c 6 (some 2)]⟩
-- aneroid/aneroidref01.turned
def c123 : CF := ⟨16,
 (.seq (.ops [
 ⟨(some 2), .box false 25 10 (.t 0), none⟩,
 ⟨(some 3), .box false 23 2 (.t 1), none⟩,
 ⟨(some 4), .alloc 23 2 [.int .i64 0, .int .i64 0], none⟩] [2, 3, 4])
 (.seq (.ops [
 ⟨(some 5), .faddr 1 (.t 2), none⟩,
 ⟨(some 6), .load none (.t 5), none⟩,
 ⟨(some 7), .faddr 1 (.t 3), none⟩,
 ⟨(some 8), .load none (.t 7), none⟩,
 ⟨(some 9), .bin .sub (.t 6) (.t 8), none⟩,
 ⟨(some 10), .faddr 1 (.t 2), none⟩,
 ⟨(some 11), .load none (.t 10), none⟩,
 ⟨(some 12), .faddr 0 (.t 3), none⟩,
 ⟨(some 13), .load none (.t 12), none⟩,
 ⟨(some 14), .bin .sub (.t 11) (.t 13), none⟩,
 ⟨(some 15), .build [.int .i64 0, .int .i64 0] [(0, 1, (.t 9)), (1, 1, (.t 14))], none⟩,
 ⟨none, .store 2 (.t 4) (.t 15), none⟩] [4])
 .ret)),
 [.c 4 (some 2)]⟩
-- aneroid/aneroidref01.Join
def c105 : CF := ⟨82,
 (.seq (.ops [
 ⟨(some 3), .box true 23 2 (.t 1), none⟩,
 ⟨(some 4), .mv (.c (.slice none 0 0)), none⟩] [0, 3])
 (.seq (.seq (.ops [
 ⟨(some 8), .faddr 0 (.t 3), none⟩,
 ⟨(some 9), .load none (.t 8), none⟩,
 ⟨(some 10), .faddr 1 (.t 3), none⟩,
 ⟨(some 11), .load none (.t 10), none⟩,
 ⟨(some 12), .bin .gtr (.t 9) (.t 11), none⟩] [0, 3, 12])
 (.cond (.t 12) (.seq (.ops [
 ⟨(some 13), .mv (.t 0), none⟩,
 ⟨(some 4), .mv (.t 13), none⟩] [4])
 .ret)
 .skip))
 (.seq (.ops [
 ⟨(some 5), .mv (.c (.slice none 0 0)), none⟩] [0, 3, 5])
 (.seq (.ops [
 ⟨(some 6), .mv (.c (.bool false)), none⟩] [0, 3, 5, 6])
 (.seq (.seq (.ops [
 ⟨(some 7), .mv (.c (.int .i64 0)), none⟩] [0, 3, 5, 6, 7])
 (.block 0 (.loop (.seq (.seq (.ops [
 ⟨(some 14), .mv (.t 7), none⟩,
 ⟨(some 15), .mv (.t 0), none⟩,
 ⟨(some 16), .len (.t 15), none⟩,
 ⟨(some 17), .bin .lss (.t 14) (.t 16), none⟩] [0, 3, 5, 6, 7, 17])
 (.cond (.t 17) .skip
 (.exit 0)))
 (.seq (.block 1 (.seq (.seq (.draw [
 ⟨(some 20), .mv (.t 0), none⟩,
 ⟨(some 21), .mv (.t 7), none⟩,
 ⟨(some 22), .iaddr 2 (.t 20) (.t 21), none⟩,
 ⟨(some 23), .faddr 1 (.t 22), none⟩,
 ⟨(some 24), .load none (.t 23), none⟩,
 ⟨(some 25), .bin .add (.t 24) (.c (.int .i64 1)), none⟩,
 ⟨(some 26), .faddr 0 (.t 3), none⟩,
 ⟨(some 27), .load none (.t 26), none⟩,
 ⟨(some 28), .bin .lss (.t 25) (.t 27), none⟩] [
 ] [0, 3, 5, 6, 7, 28])
 (.cond (.t 28) (.seq (.ops [
 ⟨(some 29), .mv (.t 5), none⟩,
 ⟨(some 30), .mv (.t 0), none⟩,
 ⟨(some 31), .mv (.t 7), none⟩,
 ⟨(some 32), .iaddr 2 (.t 30) (.t 31), none⟩,
 ⟨(some 33), .load (some 2) (.t 32), none⟩,
 ⟨(some 34), .bsl false 23 2 1 [.int .i64 0, .int .i64 0] [(0, 2, (.t 33))], none⟩,
 ⟨(some 35), .app 23 2 16 (.t 29) (.t 34), none⟩,
 ⟨(some 5), .mv (.t 35), none⟩] [0, 3, 5, 6, 7])
 (.exit 1))
 .skip))
 (.seq (.seq (.draw [
 ⟨(some 36), .faddr 1 (.t 3), none⟩,
 ⟨(some 37), .load none (.t 36), none⟩,
 ⟨(some 38), .bin .add (.t 37) (.c (.int .i64 1)), none⟩,
 ⟨(some 39), .mv (.t 0), none⟩,
 ⟨(some 40), .mv (.t 7), none⟩,
 ⟨(some 41), .iaddr 2 (.t 39) (.t 40), none⟩,
 ⟨(some 42), .faddr 0 (.t 41), none⟩,
 ⟨(some 43), .load none (.t 42), none⟩,
 ⟨(some 44), .bin .lss (.t 38) (.t 43), none⟩] [
 ] [0, 3, 5, 6, 7, 44])
 (.cond (.t 44) (.seq (.seq (.ops [
 ⟨(some 45), .mv (.t 6), none⟩,
 ⟨(some 46), .un .not (.t 45), none⟩] [0, 3, 5, 7, 46])
 (.cond (.t 46) (.ops [
 ⟨(some 47), .mv (.t 5), none⟩,
 ⟨(some 48), .load (some 2) (.t 3), none⟩,
 ⟨(some 49), .bsl false 23 2 1 [.int .i64 0, .int .i64 0] [(0, 2, (.t 48))], none⟩,
 ⟨(some 50), .app 23 2 16 (.t 47) (.t 49), none⟩,
 ⟨(some 5), .mv (.t 50), none⟩] [0, 3, 5, 7])
 .skip))
 (.seq (.ops [
 ⟨(some 6), .mv (.c (.bool true)), none⟩] [0, 3, 5, 6, 7])
 (.seq (.ops [
 ⟨(some 51), .mv (.t 5), none⟩,
 ⟨(some 52), .mv (.t 0), none⟩,
 ⟨(some 53), .mv (.t 7), none⟩,
 ⟨(some 54), .iaddr 2 (.t 52) (.t 53), none⟩,
 ⟨(some 55), .load (some 2) (.t 54), none⟩,
 ⟨(some 56), .bsl false 23 2 1 [.int .i64 0, .int .i64 0] [(0, 2, (.t 55))], none⟩,
 ⟨(some 57), .app 23 2 16 (.t 51) (.t 56), none⟩,
 ⟨(some 5), .mv (.t 57), none⟩] [0, 3, 5, 6, 7])
 (.exit 1))))
 .skip))
 (.draw [
 ⟨(some 58), .faddr 0 (.t 3), none⟩,
 ⟨(some 59), .load none (.t 58), none⟩,
 ⟨(some 60), .mv (.t 0), none⟩,
 ⟨(some 61), .mv (.t 7), none⟩,
 ⟨(some 62), .iaddr 2 (.t 60) (.t 61), none⟩,
 ⟨(some 63), .faddr 0 (.t 62), none⟩,
 ⟨(some 64), .load none (.t 63), none⟩,
 ⟨(some 65), .mnx false (.t 59) (.t 64), none⟩,
 ⟨(some 66), .faddr 1 (.t 3), none⟩,
 ⟨(some 67), .load none (.t 66), none⟩,
 ⟨(some 68), .mv (.t 0), none⟩,
 ⟨(some 69), .mv (.t 7), none⟩,
 ⟨(some 70), .iaddr 2 (.t 68) (.t 69), none⟩,
 ⟨(some 71), .faddr 1 (.t 70), none⟩,
 ⟨(some 72), .load none (.t 71), none⟩,
 ⟨(some 73), .mnx true (.t 67) (.t 72), none⟩,
 ⟨(some 74), .build [.int .i64 0, .int .i64 0] [(0, 1, (.t 65)), (1, 1, (.t 73))], none⟩] [
 ⟨none, .store 2 (.t 3) (.t 74), none⟩] [0, 3, 5, 6, 7]))))
 (.ops [
 ⟨(some 18), .mv (.t 7), none⟩,
 ⟨(some 19), .bin .add (.t 18) (.c (.int .i64 1)), none⟩,
 ⟨(some 7), .mv (.t 19), none⟩] [0, 3, 5, 6, 7]))))))
 (.seq (.seq (.ops [
 ⟨(some 75), .mv (.t 6), none⟩,
 ⟨(some 76), .un .not (.t 75), none⟩] [3, 5, 76])
 (.cond (.t 76) (.ops [
 ⟨(some 77), .mv (.t 5), none⟩,
 ⟨(some 78), .load (some 2) (.t 3), none⟩,
 ⟨(some 79), .bsl false 23 2 1 [.int .i64 0, .int .i64 0] [(0, 2, (.t 78))], none⟩,
 ⟨(some 80), .app 23 2 16 (.t 77) (.t 79), none⟩,
 ⟨(some 5), .mv (.t 80), none⟩] [5])
 .skip))
 (.seq (.ops [
 ⟨(some 81), .mv (.t 5), none⟩,
 ⟨(some 4), .mv (.t 81), none⟩] [4])
 .ret))))))),
 [.t 4]⟩
-- aneroid/aneroidref01.means
def c82 : CF := ⟨102,
 (.seq (.ops [
 ⟨(some 3), .box false 25 10 (.t 0), none⟩,
 ⟨(some 4), .box false 32 3 (.t 1), none⟩,
 ⟨(some 6), .mv (.c (.slice none 0 0)), none⟩] [2, 3, 4])
 (.seq (.ops [
 ⟨(some 14), .faddr 0 (.t 4), none⟩,
 ⟨(some 15), .load none (.t 14), none⟩,
 ⟨(some 16), .faddr 2 (.t 4), none⟩,
 ⟨(some 17), .load none (.t 16), none⟩,
 ⟨(some 18), .faddr 6 (.t 3), none⟩,
 ⟨(some 19), .load (some 2) (.t 18), none⟩,
 ⟨(some 20), .call (.f 90) [(.t 15), (.t 17), (.t 19)], none⟩,
 ⟨(some 7), .alloc 23 2 [.int .i64 0, .int .i64 0], none⟩,
 ⟨none, .store 2 (.t 7) (.t 20), none⟩] [2, 3, 4, 7])
 (.seq (.ops [
 ⟨(some 21), .load (some 10) (.t 3), none⟩,
 ⟨(some 22), .load (some 3) (.t 4), none⟩,
 ⟨(some 23), .call (.f 93) [(.t 21), (.t 22)], none⟩,
 ⟨(some 8), .alloc 23 2 [.int .i64 0, .int .i64 0], none⟩,
 ⟨none, .store 2 (.t 8) (.t 23), none⟩] [2, 3, 7, 8])
 (.seq (.ops [
 ⟨(some 24), .faddr 0 (.t 7), none⟩,
 ⟨(some 25), .load none (.t 24), none⟩,
 ⟨(some 26), .mv (.t 2), none⟩,
 ⟨(some 27), .bin .add (.t 26) (.c (.int .i64 1)), none⟩,
 ⟨(some 28), .faddr 0 (.t 3), none⟩,
 ⟨(some 29), .load none (.t 28), none⟩,
 ⟨(some 30), .bin .mul (.t 27) (.t 29), none⟩,
 ⟨(some 31), .bin .sub (.t 25) (.t 30), none⟩,
 ⟨(some 32), .bin .add (.t 31) (.c (.int .i64 1)), none⟩,
 ⟨(some 33), .faddr 1 (.t 7), none⟩,
 ⟨(some 34), .load none (.t 33), none⟩,
 ⟨(some 35), .mv (.t 2), none⟩,
 ⟨(some 36), .faddr 0 (.t 3), none⟩,
 ⟨(some 37), .load none (.t 36), none⟩,
 ⟨(some 38), .bin .mul (.t 35) (.t 37), none⟩,
 ⟨(some 39), .bin .sub (.t 34) (.t 38), none⟩,
 ⟨(some 40), .build [.int .i64 0, .int .i64 0] [(0, 1, (.t 32)), (1, 1, (.t 39))], none⟩,
 ⟨(some 9), .alloc 23 2 [.int .i64 0, .int .i64 0], none⟩,
 ⟨none, .store 2 (.t 9) (.t 40), none⟩] [3, 8, 9])
 (.seq (.ops [
 ⟨(some 41), .faddr 1 (.t 3), none⟩,
 ⟨(some 42), .load none (.t 41), none⟩,
 ⟨(some 43), .bin .quo (.t 42) (.c (.int .i64 2)), none⟩,
 ⟨(some 10), .mv (.t 43), none⟩] [3, 8, 9, 10])
 (.seq (.ops [
 ⟨(some 44), .load (some 10) (.t 3), none⟩,
 ⟨(some 45), .faddr 0 (.t 8), none⟩,
 ⟨(some 46), .load none (.t 45), none⟩,
 ⟨(some 47), .faddr 1 (.t 8), none⟩,
 ⟨(some 48), .load none (.t 47), none⟩,
 ⟨(some 49), .mv (.t 10), none⟩,
 ⟨(some 50), .mnx false (.t 48) (.t 49), none⟩,
 ⟨(some 51), .build [.int .i64 0, .int .i64 0] [(0, 1, (.t 46)), (1, 1, (.t 50))], none⟩,
 ⟨(some 52), .load (some 2) (.t 9), none⟩,
 ⟨(some 53), .call (.f 122) [(.t 44), (.t 51), (.t 52)], none⟩,
 ⟨(some 11), .alloc 23 2 [.int .i64 0, .int .i64 0], none⟩,
 ⟨none, .store 2 (.t 11) (.t 53), none⟩] [3, 8, 9, 10, 11])
 (.seq (.draw [
 ⟨(some 54), .load (some 10) (.t 3), none⟩,
 ⟨(some 55), .load (some 10) (.t 3), none⟩,
 ⟨(some 56), .load (some 10) (.t 3), none⟩,
 ⟨(some 57), .faddr 0 (.t 8), none⟩,
 ⟨(some 58), .load none (.t 57), none⟩,
 ⟨(some 59), .mv (.t 10), none⟩,
 ⟨(some 60), .bin .add (.t 59) (.c (.int .i64 1)), none⟩,
 ⟨(some 61), .mnx true (.t 58) (.t 60), none⟩,
 ⟨(some 62), .faddr 1 (.t 8), none⟩,
 ⟨(some 63), .load none (.t 62), none⟩,
 ⟨(some 64), .build [.int .i64 0, .int .i64 0] [(0, 1, (.t 61)), (1, 1, (.t 63))], none⟩,
 ⟨(some 65), .call (.f 123) [(.t 56), (.t 64)], none⟩,
 ⟨(some 66), .load (some 2) (.t 9), none⟩,
 ⟨(some 67), .call (.f 122) [(.t 55), (.t 65), (.t 66)], none⟩,
 ⟨(some 68), .call (.f 123) [(.t 54), (.t 67)], none⟩,
 ⟨(some 12), .alloc 23 2 [.int .i64 0, .int .i64 0], none⟩] [
 ⟨none, .store 2 (.t 12) (.t 68), none⟩] [3, 11, 12])
 (.seq (.ops [
 ⟨(some 13), .mv (.c (.slice none 0 0)), none⟩] [3, 11, 12, 13])
 (.seq (.seq (.ops [
 ⟨(some 69), .faddr 0 (.t 11), none⟩,
 ⟨(some 70), .load none (.t 69), none⟩,
 ⟨(some 71), .faddr 1 (.t 11), none⟩,
 ⟨(some 72), .load none (.t 71), none⟩,
 ⟨(some 73), .bin .leq (.t 70) (.t 72), none⟩] [3, 11, 12, 13, 73])
 (.cond (.t 73) (.draw [
 ⟨(some 74), .mv (.t 13), none⟩,
 ⟨(some 75), .load (some 10) (.t 3), none⟩,
 ⟨(some 76), .faddr 0 (.t 11), none⟩,
 ⟨(some 77), .load none (.t 76), none⟩,
 ⟨(some 78), .call (.f 78) [(.t 75), (.t 77)], none⟩,
 ⟨(some 79), .load (some 10) (.t 3), none⟩,
 ⟨(some 80), .faddr 1 (.t 11), none⟩,
 ⟨(some 81), .load none (.t 80), none⟩,
 ⟨(some 82), .call (.f 78) [(.t 79), (.t 81)], none⟩,
 ⟨(some 83), .build [.int .i64 0, .int .i64 0] [(0, 1, (.t 78)), (1, 1, (.t 82))], none⟩,
 ⟨(some 84), .call (.f 105) [(.t 74), (.t 83)], none⟩] [
 ⟨(some 13), .mv (.t 84), none⟩] [3, 12, 13])
 .skip))
 (.seq (.seq (.ops [
 ⟨(some 85), .faddr 0 (.t 12), none⟩,
 ⟨(some 86), .load none (.t 85), none⟩,
 ⟨(some 87), .faddr 1 (.t 12), none⟩,
 ⟨(some 88), .load none (.t 87), none⟩,
 ⟨(some 89), .bin .leq (.t 86) (.t 88), none⟩] [3, 12, 13, 89])
 (.cond (.t 89) (.draw [
 ⟨(some 90), .mv (.t 13), none⟩,
 ⟨(some 91), .load (some 10) (.t 3), none⟩,
 ⟨(some 92), .faddr 0 (.t 12), none⟩,
 ⟨(some 93), .load none (.t 92), none⟩,
 ⟨(some 94), .call (.f 78) [(.t 91), (.t 93)], none⟩,
 ⟨(some 95), .load (some 10) (.t 3), none⟩,
 ⟨(some 96), .faddr 1 (.t 12), none⟩,
 ⟨(some 97), .load none (.t 96), none⟩,
 ⟨(some 98), .call (.f 78) [(.t 95), (.t 97)], none⟩,
 ⟨(some 99), .build [.int .i64 0, .int .i64 0] [(0, 1, (.t 94)), (1, 1, (.t 98))], none⟩,
 ⟨(some 100), .call (.f 105) [(.t 90), (.t 99)], none⟩] [
 ⟨(some 13), .mv (.t 100), none⟩] [13])
 .skip))
 (.seq (.ops [
 ⟨(some 101), .mv (.t 13), none⟩,
 ⟨(some 6), .mv (.t 101), none⟩] [6])
 .ret))))))))))),
 [.t 6]⟩
-- aneroid/aneroidref01.Means
def c28 : CF := ⟨25,
 (.seq (.ops [
 ⟨(some 3), .box false 25 10 (.t 0), none⟩,
 ⟨(some 4), .box false 32 3 (.t 1), none⟩,
 ⟨(some 6), .mv (.c (.slice none 0 0)), none⟩,
 ⟨(some 7), .mv (.c (.int .i64 0)), none⟩] [2, 3, 4])
 (.seq (.ops [
 ⟨(some 9), .load (some 10) (.t 3), none⟩,
 ⟨(some 10), .load (some 3) (.t 4), none⟩,
 ⟨(some 11), .call (.f 81) [(.t 9), (.t 10)], none⟩,
 ⟨(some 8), .mv (.t 11), none⟩] [2, 3, 4, 8])
 (.seq (.seq (.ops [
 ⟨(some 12), .mv (.t 8), none⟩,
 ⟨(some 13), .bin .neq (.t 12) (.c (.int .i64 0)), none⟩] [2, 3, 4, 8, 13])
 (.cond (.t 13) (.seq (.ops [
 ⟨(some 14), .mv (.t 8), none⟩,
 ⟨(some 6), .mv (.c (.slice none 0 0)), none⟩,
 ⟨(some 7), .mv (.t 14), none⟩] [6, 7])
 .ret)
 .skip))
 (.seq (.seq (.ops [
 ⟨(some 15), .mv (.t 2), none⟩,
 ⟨(some 16), .faddr 5 (.t 3), none⟩,
 ⟨(some 17), .load none (.t 16), none⟩,
 ⟨(some 18), .bin .sub (.t 17) (.c (.int .i64 1)), none⟩,
 ⟨(some 19), .call (.f 76) [(.t 15), (.c (.int .i64 0)), (.t 18)], none⟩,
 ⟨(some 20), .un .not (.t 19), none⟩] [2, 3, 4, 20])
 (.cond (.t 20) (.seq (.ops [
 ⟨(some 6), .mv (.c (.slice none 0 0)), none⟩,
 ⟨(some 7), .mv (.c (.int .i64 1)), none⟩] [6, 7])
 .ret)
 .skip))
 (.seq (.ops [
 ⟨(some 21), .load (some 10) (.t 3), none⟩,
 ⟨(some 22), .load (some 3) (.t 4), none⟩,
 ⟨(some 23), .mv (.t 2), none⟩,
 ⟨(some 24), .call (.f 82) [(.t 21), (.t 22), (.t 23)], none⟩,
 ⟨(some 6), .mv (.t 24), none⟩,
 ⟨(some 7), .mv (.c (.int .i64 0)), none⟩] [6, 7])
 .ret))))),
 [.t 6, .t 7]⟩

theorem k132 : chkF Try.prog Try.f132 c132 = true := by kernel_rfl
theorem k122 : chkF Try.prog Try.f122 c122 = true := by kernel_rfl
theorem k123 : chkF Try.prog Try.f123 c123 = true := by kernel_rfl
theorem k105 : chkF Try.prog Try.f105 c105 = true := by kernel_rfl
theorem k82 : chkF Try.prog Try.f82 c82 = true := by kernel_rfl
theorem k28 : chkF Try.prog Try.f28 c28 = true := by kernel_rfl

/-- The first height from a on, of a number of heights, at which the arc is at least k. -/
def Pp.firstN (p : Pp) (k : Int) : Int → Nat → Int
  | a, 0 => a
  | a, c + 1 => if k ≤ p.arc a then a else p.firstN k (a + 1) c

theorem firstN_spec (p : Pp) (k : Int) : ∀ (c : Nat) (a : Int), a ≤ p.firstN k a c ∧ p.firstN k a c ≤ a + c ∧ (∀ y, a ≤ y → y < p.firstN k a c → p.arc y < k) ∧ (p.firstN k a c < a + c → k ≤ p.arc (p.firstN k a c))
  | 0, a => ⟨by simp [Pp.firstN], by simp [Pp.firstN], fun y h1 h2 => by simp [Pp.firstN] at h2; omega, fun h => by simp [Pp.firstN] at h⟩
  | c + 1, a => by
    unfold Pp.firstN
    split
    · exact ⟨Int.le_refl _, by omega, fun y h1 h2 => by omega, fun _ => ‹_›⟩
    · obtain ⟨h1, h2, h3, h4⟩ := firstN_spec p k c (a + 1)
      refine ⟨by omega, by omega, fun y g1 g2 => ?_, fun h => h4 (by omega)⟩
      by_cases e : y = a
      · subst e; omega
      · exact h3 y (by omega) g2

def Pp.first (p : Pp) (lo hi k : Int) : Int := p.firstN k lo (hi + 1 - lo).toNat

theorem arc_mono (p : Pp) {y z : Int} (hg : p.good) (h0 : 0 ≤ y) (h : y ≤ z) (h1 : z ≤ p.he / 2) : p.arc y ≤ p.arc z := by
  obtain ⟨g1, g2, g3, g4, g5, g6, g7, g8, g9, g10, g11, g12, g13⟩ := hg
  rw [arc_ediv p y h0 (by omega), arc_ediv p z (by omega) (by omega)]
  split
  · omega
  · refine Int.ediv_le_ediv (by omega) ?_
    have key : z * (p.he - z) - y * (p.he - y) = (z - y) * (p.he - z - y) := by
      simp only [Int.mul_sub, Int.sub_mul]
      have e1 : y * z = z * y := Int.mul_comm _ _
      omega
    have := Int.mul_nonneg (show 0 ≤ z - y by omega) (show 0 ≤ p.he - z - y by omega)
    omega

/-- Where the arc does not fall: the first height. -/
theorem first_spec (p : Pp) {lo hi k : Int} (hg : p.good) (h0 : 0 ≤ lo) (h1 : lo ≤ hi + 1) (h2 : hi ≤ p.he / 2) : lo ≤ p.first lo hi k ∧ p.first lo hi k ≤ hi + 1 ∧ (∀ y, lo ≤ y → y < p.first lo hi k → p.arc y < k) ∧
    (∀ y, p.first lo hi k ≤ y → y ≤ hi → k ≤ p.arc y) := by
  obtain ⟨a1, a2, a3, a4⟩ := firstN_spec p k (hi + 1 - lo).toNat lo
  change lo ≤ p.first lo hi k at a1
  change p.first lo hi k ≤ _ at a2
  change p.first lo hi k < _ → k ≤ p.arc (p.first lo hi k) at a4
  refine ⟨a1, by omega, a3, fun y h3 h4 => ?_⟩
  have := a4 (by omega)
  have := arc_mono p hg (show 0 ≤ p.first lo hi k by omega) h3 (by omega)
  omega

theorem rfirst_spec (p : Pp) (lo hi k : Int) (hg : p.good) (h0 : 0 ≤ lo) (h1 : lo ≤ 1000000000) (h2 : hi ≤ p.he / 2) (hhi : -1000000000 ≤ hi) : Pure Try.prog 132 [.agg p.cs, n lo, n hi, n k] (n (if lo ≤ hi then p.first lo hi k else lo)) := by
  refine Pure.of_body Try.call132 Try.func132 k132 (Nat.le_of_ble_eq_true rfl) ?_
  have hg' := hg
  obtain ⟨g1, g2, g3, g4, g5, g6, g7, g8, g9, g10, g11, g12, g13⟩ := hg'
  unfold c132
  by_cases hle : lo ≤ hi
  · rw [if_pos hle]
    obtain ⟨f1, f2, f3, f4⟩ := first_spec p (k := k) hg h0 (show lo ≤ hi + 1 by omega) h2
    (repeat' first
    | (refine AWPC.of_vcn rfl ?_; simp only [zT, drp, hasN, Bool.or_false, Bool.false_or, Bool.or_true, Bool.true_or, Classical.not_not, zS, vcC, exs, exd, pickV, alS, Al.ob, grd, ex, ov, gt, argE, strp, cnd, sideL, I.os, st, wrap, keep, binA, kseq, kblk, kret, klp, resL, res1, one, ocalls, obj, elems, cells, scalar, vs, pick1, fillA, splice, chop, eqC, Nat.reduceBEq, Nat.reduceAdd, Nat.reduceSub, Nat.reduceLT, Nat.reduceLeDiff, Nat.reduceMul, Nat.reduceEqDiff, cond_true, cond_false, if_true, if_false, reduceIte, implies_true, forall_const, ne_eq])
    | (simp (disch := omega) only [wr64, Int.zero_sub]; try simp only [zT, drp, hasN, Bool.or_false, Bool.false_or, Bool.or_true, Bool.true_or, Classical.not_not, zS, vcC, exs, exd, pickV, alS, Al.ob, grd, ex, ov, gt, argE, strp, cnd, sideL, I.os, st, wrap, keep, binA, kseq, kblk, kret, klp, resL, res1, one, ocalls, obj, elems, cells, scalar, vs, pick1, fillA, splice, chop, eqC, Nat.reduceBEq, Nat.reduceAdd, Nat.reduceSub, Nat.reduceLT, Nat.reduceLeDiff, Nat.reduceMul, Nat.reduceEqDiff, cond_true, cond_false, if_true, if_false, reduceIte, implies_true, forall_const, ne_eq])
    | (refine AWPC.both (fun _ => ?_) (fun _ => ?_))
    | (refine AWPC.imp (fun _ => ?_))
    | ((refine .inl ⟨_, _, _, .any, rfl, fun h => absurd h Bool.false_ne_true, ?_⟩); (first | (refine owp_of_exs ?_; simp only [zT, drp, hasN, Bool.or_false, Bool.false_or, Bool.or_true, Bool.true_or, Classical.not_not, zS, vcC, exs, exd, pickV, alS, Al.ob, grd, ex, ov, gt, argE, strp, cnd, sideL, I.os, st, wrap, keep, binA, kseq, kblk, kret, klp, resL, res1, one, ocalls, obj, elems, cells, scalar, vs, pick1, fillA, splice, chop, eqC, Nat.reduceBEq, Nat.reduceAdd, Nat.reduceSub, Nat.reduceLT, Nat.reduceLeDiff, Nat.reduceMul, Nat.reduceEqDiff, cond_true, cond_false, if_true, if_false, reduceIte, implies_true, forall_const, ne_eq]) | fail))
    | (refine ⟨by omega, ?_⟩)
    | fail)
    refine AWPC.loop (α := { x : Int × Int // lo ≤ x.1 ∧ x.1 ≤ p.first lo hi k ∧ p.first lo hi k ≤ x.2 + 1 ∧ x.2 ≤ hi }) (fun x => ([(1, n x.1.1), (2, n x.1.2), (3, n k), (4, .iptr p.cs 0)], [])) (fun x => (x.1.2 + 1 - x.1.1).toNat) ⟨(lo, hi), by simp only; omega, by simp only; omega, by simp only; omega, by simp only; omega⟩ ?_ rfl ?_
    · simp only [zS, vcC, exs, exd, pickV, alS, Al.ob, grd, ex, ov, gt, argE, strp, cnd, sideL, I.os, st, wrap, keep, binA, kseq, kblk, kret, klp, resL, res1, one, ocalls, obj, elems, cells, scalar, vs, pick1, fillA, splice, chop, eqC, Nat.reduceBEq, Nat.reduceAdd, Nat.reduceSub, Nat.reduceLT, Nat.reduceLeDiff, Nat.reduceMul, Nat.reduceEqDiff, cond_true, cond_false, if_true, if_false, reduceIte, implies_true, forall_const, ne_eq]; try simp
    · rintro ⟨⟨a, b⟩, i1, i2, i3, i4⟩
      simp only at i1 i2 i3 i4
      by_cases hab : a ≤ b
      · have hm : (a + b).tdiv 2 = (a + b) / 2 := Int.tdiv_eq_ediv_of_nonneg (by omega)
        (repeat' first
    | (refine AWPC.of_vcn rfl ?_; simp only [zT, drp, hasN, Bool.or_false, Bool.false_or, Bool.or_true, Bool.true_or, Classical.not_not, zS, vcC, exs, exd, pickV, alS, Al.ob, grd, ex, ov, gt, argE, strp, cnd, sideL, I.os, st, wrap, keep, binA, kseq, kblk, kret, klp, resL, res1, one, ocalls, obj, elems, cells, scalar, vs, pick1, fillA, splice, chop, eqC, Nat.reduceBEq, Nat.reduceAdd, Nat.reduceSub, Nat.reduceLT, Nat.reduceLeDiff, Nat.reduceMul, Nat.reduceEqDiff, cond_true, cond_false, if_true, if_false, reduceIte, implies_true, forall_const, ne_eq, hm])
    | (simp (disch := omega) only [wr64, Int.zero_sub]; try simp only [zT, drp, hasN, Bool.or_false, Bool.false_or, Bool.or_true, Bool.true_or, Classical.not_not, zS, vcC, exs, exd, pickV, alS, Al.ob, grd, ex, ov, gt, argE, strp, cnd, sideL, I.os, st, wrap, keep, binA, kseq, kblk, kret, klp, resL, res1, one, ocalls, obj, elems, cells, scalar, vs, pick1, fillA, splice, chop, eqC, Nat.reduceBEq, Nat.reduceAdd, Nat.reduceSub, Nat.reduceLT, Nat.reduceLeDiff, Nat.reduceMul, Nat.reduceEqDiff, cond_true, cond_false, if_true, if_false, reduceIte, implies_true, forall_const, ne_eq, hm])
    | (refine AWPC.both (fun _ => ?_) (fun _ => ?_))
    | (refine AWPC.imp (fun _ => ?_))
    | ((repeat (refine And.intro (by (intros; simp_all (config := { decide := false }); done)) ?_)); (first
      | (refine .inl ⟨_, _, _, _, rfl, fun _hc => ⟨by simp, rarc_spec p _ hg (by omega) (by omega)⟩, ?_⟩)
      | (refine ⟨_, _, _, _, rfl, fun _hc => ⟨by simp, rarc_spec p _ hg (by omega) (by omega)⟩, ?_⟩)
      | fail); (first | (refine owp_of_exs ?_; simp only [zT, drp, hasN, Bool.or_false, Bool.false_or, Bool.or_true, Bool.true_or, Classical.not_not, zS, vcC, exs, exd, pickV, alS, Al.ob, grd, ex, ov, gt, argE, strp, cnd, sideL, I.os, st, wrap, keep, binA, kseq, kblk, kret, klp, resL, res1, one, ocalls, obj, elems, cells, scalar, vs, pick1, fillA, splice, chop, eqC, Nat.reduceBEq, Nat.reduceAdd, Nat.reduceSub, Nat.reduceLT, Nat.reduceLeDiff, Nat.reduceMul, Nat.reduceEqDiff, cond_true, cond_false, if_true, if_false, reduceIte, implies_true, forall_const, ne_eq, hm]) | (refine pre_of_exd ?_; simp only [zT, drp, hasN, Bool.or_false, Bool.false_or, Bool.or_true, Bool.true_or, Classical.not_not, zS, vcC, exs, exd, pickV, alS, Al.ob, grd, ex, ov, gt, argE, strp, cnd, sideL, I.os, st, wrap, keep, binA, kseq, kblk, kret, klp, resL, res1, one, ocalls, obj, elems, cells, scalar, vs, pick1, fillA, splice, chop, eqC, Nat.reduceBEq, Nat.reduceAdd, Nat.reduceSub, Nat.reduceLT, Nat.reduceLeDiff, Nat.reduceMul, Nat.reduceEqDiff, cond_true, cond_false, if_true, if_false, reduceIte, implies_true, forall_const, ne_eq, hm]) | fail))
    | ((refine .inl ⟨_, _, _, .any, rfl, fun h => absurd h Bool.false_ne_true, ?_⟩); (first | (refine owp_of_exs ?_; simp only [zT, drp, hasN, Bool.or_false, Bool.false_or, Bool.or_true, Bool.true_or, Classical.not_not, zS, vcC, exs, exd, pickV, alS, Al.ob, grd, ex, ov, gt, argE, strp, cnd, sideL, I.os, st, wrap, keep, binA, kseq, kblk, kret, klp, resL, res1, one, ocalls, obj, elems, cells, scalar, vs, pick1, fillA, splice, chop, eqC, Nat.reduceBEq, Nat.reduceAdd, Nat.reduceSub, Nat.reduceLT, Nat.reduceLeDiff, Nat.reduceMul, Nat.reduceEqDiff, cond_true, cond_false, if_true, if_false, reduceIte, implies_true, forall_const, ne_eq, hm]) | fail))
    | (refine ⟨by omega, ?_⟩)
    | fail)
        · rename_i c1 c2
          refine ⟨⟨(a, (a + b) / 2 - 1), i1, i2, ?_, by simp only; omega⟩, by simp, by simp only; omega⟩
          simp only
          refine Int.not_lt.1 fun hlt => ?_
          have := f3 ((a + b) / 2) (by omega) (by omega)
          omega
        · rename_i c1 c2
          refine ⟨⟨((a + b) / 2 + 1, b), by simp only; omega, ?_, i3, i4⟩, by simp, by simp only; omega⟩
          simp only
          refine Int.not_lt.1 fun hlt => ?_
          have := f4 ((a + b) / 2) (by omega) (by omega)
          omega
        · exfalso; omega
      · (repeat' first
    | (refine AWPC.of_vcn rfl ?_; simp only [zT, drp, hasN, Bool.or_false, Bool.false_or, Bool.or_true, Bool.true_or, Classical.not_not, zS, vcC, exs, exd, pickV, alS, Al.ob, grd, ex, ov, gt, argE, strp, cnd, sideL, I.os, st, wrap, keep, binA, kseq, kblk, kret, klp, resL, res1, one, ocalls, obj, elems, cells, scalar, vs, pick1, fillA, splice, chop, eqC, Nat.reduceBEq, Nat.reduceAdd, Nat.reduceSub, Nat.reduceLT, Nat.reduceLeDiff, Nat.reduceMul, Nat.reduceEqDiff, cond_true, cond_false, if_true, if_false, reduceIte, implies_true, forall_const, ne_eq])
    | (simp (disch := omega) only [wr64, Int.zero_sub]; try simp only [zT, drp, hasN, Bool.or_false, Bool.false_or, Bool.or_true, Bool.true_or, Classical.not_not, zS, vcC, exs, exd, pickV, alS, Al.ob, grd, ex, ov, gt, argE, strp, cnd, sideL, I.os, st, wrap, keep, binA, kseq, kblk, kret, klp, resL, res1, one, ocalls, obj, elems, cells, scalar, vs, pick1, fillA, splice, chop, eqC, Nat.reduceBEq, Nat.reduceAdd, Nat.reduceSub, Nat.reduceLT, Nat.reduceLeDiff, Nat.reduceMul, Nat.reduceEqDiff, cond_true, cond_false, if_true, if_false, reduceIte, implies_true, forall_const, ne_eq])
    | (refine AWPC.both (fun _ => ?_) (fun _ => ?_))
    | (refine AWPC.imp (fun _ => ?_))
    | ((refine .inl ⟨_, _, _, .any, rfl, fun h => absurd h Bool.false_ne_true, ?_⟩); (first | (refine owp_of_exs ?_; simp only [zT, drp, hasN, Bool.or_false, Bool.false_or, Bool.or_true, Bool.true_or, Classical.not_not, zS, vcC, exs, exd, pickV, alS, Al.ob, grd, ex, ov, gt, argE, strp, cnd, sideL, I.os, st, wrap, keep, binA, kseq, kblk, kret, klp, resL, res1, one, ocalls, obj, elems, cells, scalar, vs, pick1, fillA, splice, chop, eqC, Nat.reduceBEq, Nat.reduceAdd, Nat.reduceSub, Nat.reduceLT, Nat.reduceLeDiff, Nat.reduceMul, Nat.reduceEqDiff, cond_true, cond_false, if_true, if_false, reduceIte, implies_true, forall_const, ne_eq]) | fail))
    | (refine ⟨by omega, ?_⟩)
    | fail)
        · exfalso; omega
        · refine Frz.eq ?_ (by simp)
          rw [show a = p.first lo hi k by omega]
  · rw [if_neg hle]
    (repeat' first
    | (refine AWPC.of_vcn rfl ?_; simp only [zT, drp, hasN, Bool.or_false, Bool.false_or, Bool.or_true, Bool.true_or, Classical.not_not, zS, vcC, exs, exd, pickV, alS, Al.ob, grd, ex, ov, gt, argE, strp, cnd, sideL, I.os, st, wrap, keep, binA, kseq, kblk, kret, klp, resL, res1, one, ocalls, obj, elems, cells, scalar, vs, pick1, fillA, splice, chop, eqC, Nat.reduceBEq, Nat.reduceAdd, Nat.reduceSub, Nat.reduceLT, Nat.reduceLeDiff, Nat.reduceMul, Nat.reduceEqDiff, cond_true, cond_false, if_true, if_false, reduceIte, implies_true, forall_const, ne_eq])
    | (simp (disch := omega) only [wr64, Int.zero_sub]; try simp only [zT, drp, hasN, Bool.or_false, Bool.false_or, Bool.or_true, Bool.true_or, Classical.not_not, zS, vcC, exs, exd, pickV, alS, Al.ob, grd, ex, ov, gt, argE, strp, cnd, sideL, I.os, st, wrap, keep, binA, kseq, kblk, kret, klp, resL, res1, one, ocalls, obj, elems, cells, scalar, vs, pick1, fillA, splice, chop, eqC, Nat.reduceBEq, Nat.reduceAdd, Nat.reduceSub, Nat.reduceLT, Nat.reduceLeDiff, Nat.reduceMul, Nat.reduceEqDiff, cond_true, cond_false, if_true, if_false, reduceIte, implies_true, forall_const, ne_eq])
    | (refine AWPC.both (fun _ => ?_) (fun _ => ?_))
    | (refine AWPC.imp (fun _ => ?_))
    | ((refine .inl ⟨_, _, _, .any, rfl, fun h => absurd h Bool.false_ne_true, ?_⟩); (first | (refine owp_of_exs ?_; simp only [zT, drp, hasN, Bool.or_false, Bool.false_or, Bool.or_true, Bool.true_or, Classical.not_not, zS, vcC, exs, exd, pickV, alS, Al.ob, grd, ex, ov, gt, argE, strp, cnd, sideL, I.os, st, wrap, keep, binA, kseq, kblk, kret, klp, resL, res1, one, ocalls, obj, elems, cells, scalar, vs, pick1, fillA, splice, chop, eqC, Nat.reduceBEq, Nat.reduceAdd, Nat.reduceSub, Nat.reduceLT, Nat.reduceLeDiff, Nat.reduceMul, Nat.reduceEqDiff, cond_true, cond_false, if_true, if_false, reduceIte, implies_true, forall_const, ne_eq]) | fail))
    | (refine ⟨by omega, ?_⟩)
    | fail)
    refine AWPC.loop (α := Unit) (fun x => ([(1, n lo), (2, n hi), (3, n k), (4, .iptr p.cs 0)], [])) (fun x => 0) () ?_ rfl ?_
    · simp only [zS, vcC, exs, exd, pickV, alS, Al.ob, grd, ex, ov, gt, argE, strp, cnd, sideL, I.os, st, wrap, keep, binA, kseq, kblk, kret, klp, resL, res1, one, ocalls, obj, elems, cells, scalar, vs, pick1, fillA, splice, chop, eqC, Nat.reduceBEq, Nat.reduceAdd, Nat.reduceSub, Nat.reduceLT, Nat.reduceLeDiff, Nat.reduceMul, Nat.reduceEqDiff, cond_true, cond_false, if_true, if_false, reduceIte, implies_true, forall_const, ne_eq]; try simp
    · rintro ⟨⟩
      (repeat' first
    | (refine AWPC.of_vcn rfl ?_; simp only [zT, drp, hasN, Bool.or_false, Bool.false_or, Bool.or_true, Bool.true_or, Classical.not_not, zS, vcC, exs, exd, pickV, alS, Al.ob, grd, ex, ov, gt, argE, strp, cnd, sideL, I.os, st, wrap, keep, binA, kseq, kblk, kret, klp, resL, res1, one, ocalls, obj, elems, cells, scalar, vs, pick1, fillA, splice, chop, eqC, Nat.reduceBEq, Nat.reduceAdd, Nat.reduceSub, Nat.reduceLT, Nat.reduceLeDiff, Nat.reduceMul, Nat.reduceEqDiff, cond_true, cond_false, if_true, if_false, reduceIte, implies_true, forall_const, ne_eq])
    | (simp (disch := omega) only [wr64, Int.zero_sub]; try simp only [zT, drp, hasN, Bool.or_false, Bool.false_or, Bool.or_true, Bool.true_or, Classical.not_not, zS, vcC, exs, exd, pickV, alS, Al.ob, grd, ex, ov, gt, argE, strp, cnd, sideL, I.os, st, wrap, keep, binA, kseq, kblk, kret, klp, resL, res1, one, ocalls, obj, elems, cells, scalar, vs, pick1, fillA, splice, chop, eqC, Nat.reduceBEq, Nat.reduceAdd, Nat.reduceSub, Nat.reduceLT, Nat.reduceLeDiff, Nat.reduceMul, Nat.reduceEqDiff, cond_true, cond_false, if_true, if_false, reduceIte, implies_true, forall_const, ne_eq])
    | (refine AWPC.both (fun _ => ?_) (fun _ => ?_))
    | (refine AWPC.imp (fun _ => ?_))
    | ((refine .inl ⟨_, _, _, .any, rfl, fun h => absurd h Bool.false_ne_true, ?_⟩); (first | (refine owp_of_exs ?_; simp only [zT, drp, hasN, Bool.or_false, Bool.false_or, Bool.or_true, Bool.true_or, Classical.not_not, zS, vcC, exs, exd, pickV, alS, Al.ob, grd, ex, ov, gt, argE, strp, cnd, sideL, I.os, st, wrap, keep, binA, kseq, kblk, kret, klp, resL, res1, one, ocalls, obj, elems, cells, scalar, vs, pick1, fillA, splice, chop, eqC, Nat.reduceBEq, Nat.reduceAdd, Nat.reduceSub, Nat.reduceLT, Nat.reduceLeDiff, Nat.reduceMul, Nat.reduceEqDiff, cond_true, cond_false, if_true, if_false, reduceIte, implies_true, forall_const, ne_eq]) | fail))
    | (refine ⟨by omega, ?_⟩)
    | fail)
      · exfalso; omega
      · exact Frz.eq rfl (by simp)

def Pp.firstE (p : Pp) (lo hi k : Int) : Int := if lo ≤ hi then p.first lo hi k else lo
def Pp.ring (p : Pp) (s a : Sp) : Sp := ⟨p.firstE s.lo s.hi a.lo, p.firstE s.lo s.hi (a.hi + 1) - 1⟩
def Pp.turned (p : Pp) (s : Sp) : Sp := ⟨p.he - s.hi, p.he - s.lo⟩

theorem firstE_bd (p : Pp) {lo hi k : Int} (hg : p.good) (h0 : 0 ≤ lo) (h1 : lo ≤ 1000000000) (h2 : hi ≤ p.he / 2) : 0 ≤ p.firstE lo hi k ∧ p.firstE lo hi k ≤ 1000000000 := by
  have := hg.2.2.2.1
  unfold Pp.firstE
  split
  · obtain ⟨f1, f2, f3, f4⟩ := first_spec p (k := k) hg h0 (show lo ≤ hi + 1 by omega) h2
    omega
  · omega

theorem ring_mem (p : Pp) {s a : Sp} (hg : p.good) (h0 : 0 ≤ s.lo) (h2 : s.hi ≤ p.he / 2) (y : Int) : ((p.ring s a).lo ≤ y ∧ y ≤ (p.ring s a).hi) ↔ (s.lo ≤ y ∧ y ≤ s.hi) ∧ a.lo ≤ p.arc y ∧ p.arc y ≤ a.hi := by
  unfold Pp.ring Pp.firstE
  by_cases h : s.lo ≤ s.hi
  · simp only [h, if_true]
    obtain ⟨f1, f2, f3, f4⟩ := first_spec p (k := a.lo) hg h0 (show s.lo ≤ s.hi + 1 by omega) h2
    obtain ⟨f5, f6, f7, f8⟩ := first_spec p (k := a.hi + 1) hg h0 (show s.lo ≤ s.hi + 1 by omega) h2
    constructor
    · rintro ⟨c1, c2⟩
      refine ⟨by omega, f4 y c1 (by omega), ?_⟩
      have := f7 y (by omega) (by omega); omega
    · rintro ⟨⟨c1, c2⟩, c3, c4⟩
      constructor
      · refine Int.not_lt.1 fun hlt => ?_
        have := f3 y c1 hlt; omega
      · refine Int.not_lt.1 fun hlt => ?_
        have := f8 y (by omega) c2; omega
  · simp only [h, if_false]; omega

theorem rring_spec (p : Pp) (s a : Sp) (hg : p.good) (h0 : 0 ≤ s.lo) (h1 : s.lo ≤ 1000000000) (h2 : s.hi ≤ p.he / 2) (h3 : -1000000000 ≤ s.hi) (ha : -1000000000000 ≤ a.hi) (ha' : a.hi ≤ 1000000000000) :
    Pure Try.prog 122 [.agg p.cs, .agg s.cs, .agg a.cs] (.agg (p.ring s a).cs) := by
  refine Pure.of_body Try.call122 Try.func122 k122 (Nat.le_of_ble_eq_true rfl) ?_
  have h : ∀ k, Pure Try.prog 132 [.agg p.cs, n s.lo, n s.hi, n k] (n (p.firstE s.lo s.hi k)) := fun k => rfirst_spec p s.lo s.hi k hg h0 h1 h2 h3
  have hb := firstE_bd p (lo := s.lo) (hi := s.hi) (k := a.hi + 1) hg h0 h1 h2
  unfold c122
  (repeat' first
    | (refine AWPC.of_vcn rfl ?_; simp only [zT, drp, hasN, Bool.or_false, Bool.false_or, Bool.or_true, Bool.true_or, Classical.not_not, zS, vcC, exs, exd, pickV, alS, Al.ob, grd, ex, ov, gt, argE, strp, cnd, sideL, I.os, st, wrap, keep, binA, kseq, kblk, kret, klp, resL, res1, one, ocalls, obj, elems, cells, scalar, vs, pick1, fillA, splice, chop, eqC, Nat.reduceBEq, Nat.reduceAdd, Nat.reduceSub, Nat.reduceLT, Nat.reduceLeDiff, Nat.reduceMul, Nat.reduceEqDiff, cond_true, cond_false, if_true, if_false, reduceIte, implies_true, forall_const, ne_eq])
    | (simp (disch := omega) only [wr64, Int.zero_sub]; try simp only [zT, drp, hasN, Bool.or_false, Bool.false_or, Bool.or_true, Bool.true_or, Classical.not_not, zS, vcC, exs, exd, pickV, alS, Al.ob, grd, ex, ov, gt, argE, strp, cnd, sideL, I.os, st, wrap, keep, binA, kseq, kblk, kret, klp, resL, res1, one, ocalls, obj, elems, cells, scalar, vs, pick1, fillA, splice, chop, eqC, Nat.reduceBEq, Nat.reduceAdd, Nat.reduceSub, Nat.reduceLT, Nat.reduceLeDiff, Nat.reduceMul, Nat.reduceEqDiff, cond_true, cond_false, if_true, if_false, reduceIte, implies_true, forall_const, ne_eq])
    | (refine AWPC.both (fun _ => ?_) (fun _ => ?_))
    | (refine AWPC.imp (fun _ => ?_))
    | ((repeat (refine And.intro (by (intros; simp_all (config := { decide := false }); done)) ?_)); (first
      | (refine .inl ⟨_, _, _, _, rfl, fun _hc => ⟨by simp, h _⟩, ?_⟩)
      | (refine ⟨_, _, _, _, rfl, fun _hc => ⟨by simp, h _⟩, ?_⟩)
      | fail); (first | (refine owp_of_exs ?_; simp only [zT, drp, hasN, Bool.or_false, Bool.false_or, Bool.or_true, Bool.true_or, Classical.not_not, zS, vcC, exs, exd, pickV, alS, Al.ob, grd, ex, ov, gt, argE, strp, cnd, sideL, I.os, st, wrap, keep, binA, kseq, kblk, kret, klp, resL, res1, one, ocalls, obj, elems, cells, scalar, vs, pick1, fillA, splice, chop, eqC, Nat.reduceBEq, Nat.reduceAdd, Nat.reduceSub, Nat.reduceLT, Nat.reduceLeDiff, Nat.reduceMul, Nat.reduceEqDiff, cond_true, cond_false, if_true, if_false, reduceIte, implies_true, forall_const, ne_eq]) | (refine pre_of_exd ?_; simp only [zT, drp, hasN, Bool.or_false, Bool.false_or, Bool.or_true, Bool.true_or, Classical.not_not, zS, vcC, exs, exd, pickV, alS, Al.ob, grd, ex, ov, gt, argE, strp, cnd, sideL, I.os, st, wrap, keep, binA, kseq, kblk, kret, klp, resL, res1, one, ocalls, obj, elems, cells, scalar, vs, pick1, fillA, splice, chop, eqC, Nat.reduceBEq, Nat.reduceAdd, Nat.reduceSub, Nat.reduceLT, Nat.reduceLeDiff, Nat.reduceMul, Nat.reduceEqDiff, cond_true, cond_false, if_true, if_false, reduceIte, implies_true, forall_const, ne_eq]) | fail))
    | ((refine .inl ⟨_, _, _, .any, rfl, fun h => absurd h Bool.false_ne_true, ?_⟩); (first | (refine owp_of_exs ?_; simp only [zT, drp, hasN, Bool.or_false, Bool.false_or, Bool.or_true, Bool.true_or, Classical.not_not, zS, vcC, exs, exd, pickV, alS, Al.ob, grd, ex, ov, gt, argE, strp, cnd, sideL, I.os, st, wrap, keep, binA, kseq, kblk, kret, klp, resL, res1, one, ocalls, obj, elems, cells, scalar, vs, pick1, fillA, splice, chop, eqC, Nat.reduceBEq, Nat.reduceAdd, Nat.reduceSub, Nat.reduceLT, Nat.reduceLeDiff, Nat.reduceMul, Nat.reduceEqDiff, cond_true, cond_false, if_true, if_false, reduceIte, implies_true, forall_const, ne_eq]) | fail))
    | (refine ⟨by omega, ?_⟩)
    | fail)
  exact Frz.eq rfl (by simp)

theorem rturned_spec (p : Pp) (s : Sp) (h1 : 0 ≤ p.he ∧ p.he ≤ 400000) (h0 : -1000000000 ≤ s.lo ∧ s.lo ≤ 1000000000) (h2 : -1000000000 ≤ s.hi ∧ s.hi ≤ 1000000000) : Pure Try.prog 123 [.agg p.cs, .agg s.cs] (.agg (p.turned s).cs) := by
  refine Pure.of_body Try.call123 Try.func123 k123 (Nat.le_of_ble_eq_true rfl) ?_
  unfold c123
  (repeat' first
    | (refine AWPC.of_vcn rfl ?_; simp only [zT, drp, hasN, Bool.or_false, Bool.false_or, Bool.or_true, Bool.true_or, Classical.not_not, zS, vcC, exs, exd, pickV, alS, Al.ob, grd, ex, ov, gt, argE, strp, cnd, sideL, I.os, st, wrap, keep, binA, kseq, kblk, kret, klp, resL, res1, one, ocalls, obj, elems, cells, scalar, vs, pick1, fillA, splice, chop, eqC, Nat.reduceBEq, Nat.reduceAdd, Nat.reduceSub, Nat.reduceLT, Nat.reduceLeDiff, Nat.reduceMul, Nat.reduceEqDiff, cond_true, cond_false, if_true, if_false, reduceIte, implies_true, forall_const, ne_eq])
    | (simp (disch := omega) only [wr64, Int.zero_sub]; try simp only [zT, drp, hasN, Bool.or_false, Bool.false_or, Bool.or_true, Bool.true_or, Classical.not_not, zS, vcC, exs, exd, pickV, alS, Al.ob, grd, ex, ov, gt, argE, strp, cnd, sideL, I.os, st, wrap, keep, binA, kseq, kblk, kret, klp, resL, res1, one, ocalls, obj, elems, cells, scalar, vs, pick1, fillA, splice, chop, eqC, Nat.reduceBEq, Nat.reduceAdd, Nat.reduceSub, Nat.reduceLT, Nat.reduceLeDiff, Nat.reduceMul, Nat.reduceEqDiff, cond_true, cond_false, if_true, if_false, reduceIte, implies_true, forall_const, ne_eq])
    | (refine AWPC.both (fun _ => ?_) (fun _ => ?_))
    | (refine AWPC.imp (fun _ => ?_))
    | ((refine .inl ⟨_, _, _, .any, rfl, fun h => absurd h Bool.false_ne_true, ?_⟩); (first | (refine owp_of_exs ?_; simp only [zT, drp, hasN, Bool.or_false, Bool.false_or, Bool.or_true, Bool.true_or, Classical.not_not, zS, vcC, exs, exd, pickV, alS, Al.ob, grd, ex, ov, gt, argE, strp, cnd, sideL, I.os, st, wrap, keep, binA, kseq, kblk, kret, klp, resL, res1, one, ocalls, obj, elems, cells, scalar, vs, pick1, fillA, splice, chop, eqC, Nat.reduceBEq, Nat.reduceAdd, Nat.reduceSub, Nat.reduceLT, Nat.reduceLeDiff, Nat.reduceMul, Nat.reduceEqDiff, cond_true, cond_false, if_true, if_false, reduceIte, implies_true, forall_const, ne_eq]) | fail))
    | (refine ⟨by omega, ?_⟩)
    | fail)
  exact Frz.eq rfl (by simp)

theorem frz_sp' {σ : Sto} {f i m : Nat} (l : List Sp) (h : σ.at f i = some ⟨23, 2, l.map Sp.cs, none⟩) (hm : m = l.length) : Frz σ (.own f i m) (spS l) := hm ▸ frz_sp h

/-- A set with a further span, which may be empty. -/
def joinE (l : List Sp) (x : Sp) : List Sp := if x.hi < x.lo then l else join l x

theorem rJoin_spec (l : List Sp) (x : Sp) (hl : Norm l) (hb : ∀ s ∈ l, -1000000 ≤ s.lo ∧ s.hi ≤ 1000000) (hx : -1000000 ≤ x.lo ∧ x.hi ≤ 1000000) (hlen : l.length < 1000000000) :
    Pure Try.prog 105 [spS l, .agg x.cs] (spS (joinE l x)) := by
  refine Pure.of_body Try.call105 Try.func105 k105 (Nat.le_of_ble_eq_true rfl) ?_
  unfold c105
  by_cases hlt : x.hi < x.lo
  · (repeat' first
    | (refine AWPC.of_vcn rfl ?_; simp only [zT, drp, hasN, Bool.or_false, Bool.false_or, Bool.or_true, Bool.true_or, Classical.not_not, zS, vcC, exs, exd, pickV, alS, Al.ob, grd, ex, ov, gt, argE, strp, cnd, sideL, I.os, st, wrap, keep, binA, kseq, kblk, kret, klp, resL, res1, one, ocalls, obj, elems, cells, scalar, vs, pick1, fillA, splice, chop, eqC, Nat.reduceBEq, Nat.reduceAdd, Nat.reduceSub, Nat.reduceLT, Nat.reduceLeDiff, Nat.reduceMul, Nat.reduceEqDiff, cond_true, cond_false, if_true, if_false, reduceIte, implies_true, forall_const, ne_eq])
    | (simp (disch := omega) only [wr64, Int.zero_sub]; try simp only [zT, drp, hasN, Bool.or_false, Bool.false_or, Bool.or_true, Bool.true_or, Classical.not_not, zS, vcC, exs, exd, pickV, alS, Al.ob, grd, ex, ov, gt, argE, strp, cnd, sideL, I.os, st, wrap, keep, binA, kseq, kblk, kret, klp, resL, res1, one, ocalls, obj, elems, cells, scalar, vs, pick1, fillA, splice, chop, eqC, Nat.reduceBEq, Nat.reduceAdd, Nat.reduceSub, Nat.reduceLT, Nat.reduceLeDiff, Nat.reduceMul, Nat.reduceEqDiff, cond_true, cond_false, if_true, if_false, reduceIte, implies_true, forall_const, ne_eq])
    | (refine AWPC.both (fun _ => ?_) (fun _ => ?_))
    | (refine AWPC.imp (fun _ => ?_))
    | ((refine .inl ⟨_, _, _, .any, rfl, fun h => absurd h Bool.false_ne_true, ?_⟩); (first | (refine owp_of_exs ?_; simp only [zT, drp, hasN, Bool.or_false, Bool.false_or, Bool.or_true, Bool.true_or, Classical.not_not, zS, vcC, exs, exd, pickV, alS, Al.ob, grd, ex, ov, gt, argE, strp, cnd, sideL, I.os, st, wrap, keep, binA, kseq, kblk, kret, klp, resL, res1, one, ocalls, obj, elems, cells, scalar, vs, pick1, fillA, splice, chop, eqC, Nat.reduceBEq, Nat.reduceAdd, Nat.reduceSub, Nat.reduceLT, Nat.reduceLeDiff, Nat.reduceMul, Nat.reduceEqDiff, cond_true, cond_false, if_true, if_false, reduceIte, implies_true, forall_const, ne_eq]) | fail))
    | (refine ⟨by omega, ?_⟩)
    | fail)
    · refine Frz.eq ?_ (by simp)
      rw [joinE, if_pos hlt]
    · exfalso; omega
  · rw [joinE, if_neg hlt]
    (repeat' first
    | (refine AWPC.of_vcn rfl ?_; simp only [zT, drp, hasN, Bool.or_false, Bool.false_or, Bool.or_true, Bool.true_or, Classical.not_not, zS, vcC, exs, exd, pickV, alS, Al.ob, grd, ex, ov, gt, argE, strp, cnd, sideL, I.os, st, wrap, keep, binA, kseq, kblk, kret, klp, resL, res1, one, ocalls, obj, elems, cells, scalar, vs, pick1, fillA, splice, chop, eqC, Nat.reduceBEq, Nat.reduceAdd, Nat.reduceSub, Nat.reduceLT, Nat.reduceLeDiff, Nat.reduceMul, Nat.reduceEqDiff, cond_true, cond_false, if_true, if_false, reduceIte, implies_true, forall_const, ne_eq])
    | (simp (disch := omega) only [wr64, Int.zero_sub]; try simp only [zT, drp, hasN, Bool.or_false, Bool.false_or, Bool.or_true, Bool.true_or, Classical.not_not, zS, vcC, exs, exd, pickV, alS, Al.ob, grd, ex, ov, gt, argE, strp, cnd, sideL, I.os, st, wrap, keep, binA, kseq, kblk, kret, klp, resL, res1, one, ocalls, obj, elems, cells, scalar, vs, pick1, fillA, splice, chop, eqC, Nat.reduceBEq, Nat.reduceAdd, Nat.reduceSub, Nat.reduceLT, Nat.reduceLeDiff, Nat.reduceMul, Nat.reduceEqDiff, cond_true, cond_false, if_true, if_false, reduceIte, implies_true, forall_const, ne_eq])
    | (refine AWPC.both (fun _ => ?_) (fun _ => ?_))
    | (refine AWPC.imp (fun _ => ?_))
    | ((refine .inl ⟨_, _, _, .any, rfl, fun h => absurd h Bool.false_ne_true, ?_⟩); (first | (refine owp_of_exs ?_; simp only [zT, drp, hasN, Bool.or_false, Bool.false_or, Bool.or_true, Bool.true_or, Classical.not_not, zS, vcC, exs, exd, pickV, alS, Al.ob, grd, ex, ov, gt, argE, strp, cnd, sideL, I.os, st, wrap, keep, binA, kseq, kblk, kret, klp, resL, res1, one, ocalls, obj, elems, cells, scalar, vs, pick1, fillA, splice, chop, eqC, Nat.reduceBEq, Nat.reduceAdd, Nat.reduceSub, Nat.reduceLT, Nat.reduceLeDiff, Nat.reduceMul, Nat.reduceEqDiff, cond_true, cond_false, if_true, if_false, reduceIte, implies_true, forall_const, ne_eq]) | fail))
    | (refine ⟨by omega, ?_⟩)
    | fail)
    · exfalso; omega
    refine AWPC.own0 23 2 5 rfl ?_
    simp only [zS, vcC, exs, exd, pickV, alS, Al.ob, grd, ex, ov, gt, argE, strp, cnd, sideL, I.os, st, wrap, keep, binA, kseq, kblk, kret, klp, resL, res1, one, ocalls, obj, elems, cells, scalar, vs, pick1, fillA, splice, chop, eqC, Nat.reduceBEq, Nat.reduceAdd, Nat.reduceSub, Nat.reduceLT, Nat.reduceLeDiff, Nat.reduceMul, Nat.reduceEqDiff, cond_true, cond_false, if_true, if_false, reduceIte, implies_true, forall_const, ne_eq]
    refine AWPC.loop (α := { q : Nat × List Sp × Bool × Sp // q.1 ≤ l.length ∧ q.2.1.length ≤ q.1 + (if q.2.2.1 then 1 else 0) ∧ q.2.2.2.lo ≤ q.2.2.2.hi ∧ -1000000 ≤ q.2.2.2.lo ∧ q.2.2.2.hi ≤ 1000000 ∧ (q.2.2.1 = false → q.2.1 ++ join (l.drop q.1) q.2.2.2 = join l x) ∧
        (q.2.2.1 = true → q.2.1 ++ l.drop q.1 = join l x ∧ ∀ s ∈ l.drop q.1, q.2.2.2.hi + 1 < s.lo) })
      (fun q => ([(0, spS l), (3, .ptr 0 0 1 0 0), (5, .own 1 0 q.1.2.1.length), (6, bl q.1.2.2.1), (7, n q.1.1)], [some [⟨23, 2, [q.1.2.2.2.cs], none⟩], some [spO q.1.2.1]])) (fun q => l.length - q.1.1)
      ⟨(0, [], false, x), by simp, by simp, by simp only; omega, hx.1, hx.2, fun _ => by simp, fun h => by cases h⟩ ?_ rfl ?_
    · simp only [zS, vcC, exs, exd, pickV, alS, Al.ob, grd, ex, ov, gt, argE, strp, cnd, sideL, I.os, st, wrap, keep, binA, kseq, kblk, kret, klp, resL, res1, one, ocalls, obj, elems, cells, scalar, vs, pick1, fillA, splice, chop, eqC, Nat.reduceBEq, Nat.reduceAdd, Nat.reduceSub, Nat.reduceLT, Nat.reduceLeDiff, Nat.reduceMul, Nat.reduceEqDiff, cond_true, cond_false, if_true, if_false, reduceIte, implies_true, forall_const, ne_eq]; try simp
    · rintro ⟨⟨i, acc, put, z⟩, i1, i2, i3, i4, i5, i6, i7⟩
      simp only at i1 i2 i3 i4 i5 i6 i7
      have hal : acc.length ≤ l.length + 1 := by cases put <;> simp at i2 <;> omega
      by_cases hi : i < l.length
      · obtain ⟨s, hs⟩ : ∃ s, l[i]? = some s := ⟨_, List.getElem?_eq_getElem hi⟩
        have hsb := hb s (List.mem_of_getElem? hs)
        have hsn := hl.ne s (List.mem_of_getElem? hs)
        have hd := drop_cons hs
        (repeat' first
    | (refine AWPC.of_vcn rfl ?_; simp only [zT, drp, hasN, Bool.or_false, Bool.false_or, Bool.or_true, Bool.true_or, Classical.not_not, zS, vcC, exs, exd, pickV, alS, Al.ob, grd, ex, ov, gt, argE, strp, cnd, sideL, I.os, st, wrap, keep, binA, kseq, kblk, kret, klp, resL, res1, one, ocalls, obj, elems, cells, scalar, vs, pick1, fillA, splice, chop, eqC, Nat.reduceBEq, Nat.reduceAdd, Nat.reduceSub, Nat.reduceLT, Nat.reduceLeDiff, Nat.reduceMul, Nat.reduceEqDiff, cond_true, cond_false, if_true, if_false, reduceIte, implies_true, forall_const, ne_eq, getD_map hs])
    | (simp (disch := omega) only [wr64, Int.zero_sub]; try simp only [zT, drp, hasN, Bool.or_false, Bool.false_or, Bool.or_true, Bool.true_or, Classical.not_not, zS, vcC, exs, exd, pickV, alS, Al.ob, grd, ex, ov, gt, argE, strp, cnd, sideL, I.os, st, wrap, keep, binA, kseq, kblk, kret, klp, resL, res1, one, ocalls, obj, elems, cells, scalar, vs, pick1, fillA, splice, chop, eqC, Nat.reduceBEq, Nat.reduceAdd, Nat.reduceSub, Nat.reduceLT, Nat.reduceLeDiff, Nat.reduceMul, Nat.reduceEqDiff, cond_true, cond_false, if_true, if_false, reduceIte, implies_true, forall_const, ne_eq, getD_map hs])
    | (refine AWPC.both (fun _ => ?_) (fun _ => ?_))
    | (refine AWPC.imp (fun _ => ?_))
    | ((refine .inl ⟨_, _, _, .any, rfl, fun h => absurd h Bool.false_ne_true, ?_⟩); (first | (refine owp_of_exs ?_; simp only [zT, drp, hasN, Bool.or_false, Bool.false_or, Bool.or_true, Bool.true_or, Classical.not_not, zS, vcC, exs, exd, pickV, alS, Al.ob, grd, ex, ov, gt, argE, strp, cnd, sideL, I.os, st, wrap, keep, binA, kseq, kblk, kret, klp, resL, res1, one, ocalls, obj, elems, cells, scalar, vs, pick1, fillA, splice, chop, eqC, Nat.reduceBEq, Nat.reduceAdd, Nat.reduceSub, Nat.reduceLT, Nat.reduceLeDiff, Nat.reduceMul, Nat.reduceEqDiff, cond_true, cond_false, if_true, if_false, reduceIte, implies_true, forall_const, ne_eq, getD_map hs]) | fail))
    | (refine ⟨by omega, ?_⟩)
    | fail)
        all_goals try (exfalso; omega)
        · refine ⟨⟨(i + 1, acc ++ [s], put, z), hi, by simp only [List.length_append, List.length_cons, List.length_nil]; omega, i3, i4, i5, fun hp => ?_, fun hp => ?_⟩, ⟨by simp, by simp, by simp⟩, by simp [spO], by simp only; omega⟩
          · have := i6 hp
            rw [hd, join, if_pos ‹_›] at this
            simpa using this
          · obtain ⟨j1, j2⟩ := i7 hp
            rw [hd] at j1 j2
            exact ⟨by simpa using j1, fun u hu => j2 u (by simp [hu])⟩
        · rename_i c1 c2 c3
          obtain rfl : put = false := by simpa using c3
          have hn : ∀ u ∈ l.drop (i + 1), z.hi + 1 < u.lo := fun u hu => by
            have hnd : Norm (l.drop i) := by
              have := hl; rw [← List.take_append_drop i l] at this; exact (norm_append.1 this).2.1
            rw [hd] at hnd
            have := hnd.2.1 u hu; omega
          refine ⟨⟨(i + 1, acc ++ [z, s], true, z), hi, by simp at i2 ⊢; omega, i3, i4, i5, fun hp => (by cases hp), fun _ => ⟨?_, hn⟩⟩, ⟨by simp, by simp⟩, by simp [spO], by simp only; omega⟩
          have := i6 rfl
          rw [hd, join, if_neg ‹_›, if_pos ‹_›] at this
          simpa using this
        · rename_i c1 c2 c3
          obtain rfl : put = true := by simpa using c3
          obtain ⟨j1, j2⟩ := i7 rfl
          rw [hd] at j1 j2
          exact ⟨⟨(i + 1, acc ++ [s], true, z), hi, by simp at i2 ⊢; omega, i3, i4, i5, fun hp => (by cases hp), fun _ => ⟨by simpa using j1, fun u hu => j2 u (by simp [hu])⟩⟩, ⟨by simp, by simp⟩, by simp [spO], by simp only; omega⟩
        · rename_i c1 c2
          have hpf : put = false := by
            cases put with
            | false => rfl
            | true => exact absurd ((i7 rfl).2 s (by rw [hd]; simp)) c2
          subst hpf
          refine ⟨⟨(i + 1, acc, false, ⟨min z.lo s.lo, max z.hi s.hi⟩), hi, by simp at i2 ⊢; omega, by simp only; omega, by simp only; omega, by simp only; omega, fun _ => ?_, fun hp => (by cases hp)⟩, by simp, by simp [spO], by simp only; omega⟩
          have := i6 rfl
          rw [hd, join, if_neg ‹_›, if_neg ‹_›] at this
          simpa using this
      · obtain rfl : i = l.length := by omega
        rw [List.drop_length] at i6 i7
        have hal : acc.length ≤ l.length + 1 := by cases put <;> simp at i2 <;> omega
        (repeat' first
    | (refine AWPC.of_vcn rfl ?_; simp only [zT, drp, hasN, Bool.or_false, Bool.false_or, Bool.or_true, Bool.true_or, Classical.not_not, zS, vcC, exs, exd, pickV, alS, Al.ob, grd, ex, ov, gt, argE, strp, cnd, sideL, I.os, st, wrap, keep, binA, kseq, kblk, kret, klp, resL, res1, one, ocalls, obj, elems, cells, scalar, vs, pick1, fillA, splice, chop, eqC, Nat.reduceBEq, Nat.reduceAdd, Nat.reduceSub, Nat.reduceLT, Nat.reduceLeDiff, Nat.reduceMul, Nat.reduceEqDiff, cond_true, cond_false, if_true, if_false, reduceIte, implies_true, forall_const, ne_eq])
    | (simp (disch := omega) only [wr64, Int.zero_sub]; try simp only [zT, drp, hasN, Bool.or_false, Bool.false_or, Bool.or_true, Bool.true_or, Classical.not_not, zS, vcC, exs, exd, pickV, alS, Al.ob, grd, ex, ov, gt, argE, strp, cnd, sideL, I.os, st, wrap, keep, binA, kseq, kblk, kret, klp, resL, res1, one, ocalls, obj, elems, cells, scalar, vs, pick1, fillA, splice, chop, eqC, Nat.reduceBEq, Nat.reduceAdd, Nat.reduceSub, Nat.reduceLT, Nat.reduceLeDiff, Nat.reduceMul, Nat.reduceEqDiff, cond_true, cond_false, if_true, if_false, reduceIte, implies_true, forall_const, ne_eq])
    | (refine AWPC.both (fun _ => ?_) (fun _ => ?_))
    | (refine AWPC.imp (fun _ => ?_))
    | ((refine .inl ⟨_, _, _, .any, rfl, fun h => absurd h Bool.false_ne_true, ?_⟩); (first | (refine owp_of_exs ?_; simp only [zT, drp, hasN, Bool.or_false, Bool.false_or, Bool.or_true, Bool.true_or, Classical.not_not, zS, vcC, exs, exd, pickV, alS, Al.ob, grd, ex, ov, gt, argE, strp, cnd, sideL, I.os, st, wrap, keep, binA, kseq, kblk, kret, klp, resL, res1, one, ocalls, obj, elems, cells, scalar, vs, pick1, fillA, splice, chop, eqC, Nat.reduceBEq, Nat.reduceAdd, Nat.reduceSub, Nat.reduceLT, Nat.reduceLeDiff, Nat.reduceMul, Nat.reduceEqDiff, cond_true, cond_false, if_true, if_false, reduceIte, implies_true, forall_const, ne_eq]) | fail))
    | (refine ⟨by omega, ?_⟩)
    | fail)
        all_goals try (exfalso; omega)
        · rename_i c1 c2
          obtain rfl : put = false := by simpa using c2
          have := i6 rfl
          rw [join] at this
          rw [← this]
          exact frz_sp' (acc ++ [z]) (by simp [Sto.at]) (by simp)
        · rename_i c1 c2
          obtain rfl : put = true := by simpa using c2
          have := (i7 rfl).1
          rw [List.append_nil] at this
          rw [← this]
          exact frz_sp' acc (by simp [Sto.at]) rfl

theorem rJoin0_spec (x : Sp) (hx : -1000000 ≤ x.lo ∧ x.hi ≤ 1000000) : Pure Try.prog 105 [.v (.slice none 0 0), .agg x.cs] (spS (joinE [] x)) := by
  have h := rJoin_spec [] x trivial (fun s hs => absurd hs (List.not_mem_nil)) hx (by simp)
  refine Pure.args (args' := [spS [], .agg x.cs]) rfl (fun i hi w X v hv => ?_) h
  match i, hi with
  | 0, _ => exact hv.nil
  | 1, _ => exact hv

/-- The bounds of the arcs whose printed places are in a column. -/
def Pp.abd (p : Pp) (t : Pt) (c : Int) : Sp := ⟨(p.along t).lo - (c + 1) * p.pi + 1, (p.along t).hi - c * p.pi⟩
def Pp.rlow (p : Pp) (t : Pt) (c : Int) : Sp := p.ring ⟨(p.heights t).lo, min (p.heights t).hi (p.he / 2)⟩ (p.abd t c)
def Pp.rhigh (p : Pp) (t : Pt) (c : Int) : Sp := p.turned (p.ring (p.turned ⟨max (p.heights t).lo (p.he / 2 + 1), (p.heights t).hi⟩) (p.abd t c))
def Pp.lspan (p : Pp) (s : Sp) : Sp := ⟨p.level s.lo, p.level s.hi⟩
def Pp.rm1 (p : Pp) (t : Pt) (c : Int) : List Sp := if (p.rlow t c).lo ≤ (p.rlow t c).hi then joinE [] (p.lspan (p.rlow t c)) else []
def Pp.rmeans (p : Pp) (t : Pt) (c : Int) : List Sp := if (p.rhigh t c).lo ≤ (p.rhigh t c).hi then joinE (p.rm1 t c) (p.lspan (p.rhigh t c)) else p.rm1 t c

abbrev Pp.hitA (p : Pp) (t : Pt) (c y : Int) : Prop := (p.abd t c).lo ≤ p.arc y ∧ p.arc y ≤ (p.abd t c).hi

theorem rlow_mem (p : Pp) (t : Pt) (c : Int) (hg : p.good) (ht : t.right) (y : Int) : ((p.rlow t c).lo ≤ y ∧ y ≤ (p.rlow t c).hi) ↔ ((p.heights t).lo ≤ y ∧ y ≤ (p.heights t).hi) ∧ y ≤ p.he / 2 ∧ p.hitA t c y := by
  have hb := heights_bd p t hg ht
  rw [Pp.rlow, ring_mem p (s := ⟨(p.heights t).lo, min (p.heights t).hi (p.he / 2)⟩) hg hb.1 (by simp only; omega)]
  simp only; omega

theorem arc_turn (p : Pp) (y : Int) : p.arc (p.he - y) = p.arc y := arc_sym p y

theorem rhigh_mem (p : Pp) (t : Pt) (c : Int) (hg : p.good) (ht : t.right) (y : Int) : ((p.rhigh t c).lo ≤ y ∧ y ≤ (p.rhigh t c).hi) ↔ ((p.heights t).lo ≤ y ∧ y ≤ (p.heights t).hi) ∧ p.he / 2 < y ∧ p.hitA t c y := by
  have hb := heights_bd p t hg ht
  have := ring_mem p (s := p.turned ⟨max (p.heights t).lo (p.he / 2 + 1), (p.heights t).hi⟩) (a := p.abd t c) hg (by simp only [Pp.turned]; omega) (by simp only [Pp.turned]; omega) (p.he - y)
  rw [arc_turn] at this
  simp only [Pp.rhigh, Pp.hitA]
  generalize p.ring (p.turned ⟨max (p.heights t).lo (p.he / 2 + 1), (p.heights t).hi⟩) (p.abd t c) = r at this
  simp only [Pp.turned] at this ⊢
  omega

theorem mem_in {p : Pp} {s : Sp} (hg : p.good) (h0 : 0 ≤ s.lo) (h1 : s.lo ≤ s.hi) (h2 : s.hi ≤ p.he) : (p.lspan s).lo ≤ (p.lspan s).hi ∧ 0 ≤ (p.lspan s).lo ∧ (p.lspan s).hi ≤ 12000 :=
  ⟨level_mono p hg h0 h1, (level_bd p s.lo hg h0 (by omega)).1, (level_bd p s.hi hg (by omega) h2).2⟩

/-- The levels of a span of heights. -/
theorem lspan_mem {p : Pp} {s : Sp} (hg : p.good) (h0 : 0 ≤ s.lo) (h1 : s.lo ≤ s.hi) (h2 : s.hi ≤ p.he) (v : Int) : ((p.lspan s).lo ≤ v ∧ v ≤ (p.lspan s).hi) ↔ ∃ y, s.lo ≤ y ∧ y ≤ s.hi ∧ p.level y = v := by
  constructor
  · rintro ⟨g1, g2⟩
    simp only [Pp.lspan] at g1 g2
    have i1 := level_in p (y := s.lo) hg h0 (by omega)
    have i2 := level_in p (y := s.hi) hg (by omega) h2
    have sp := span_of p (l := v) hg (by omega) (by omega)
    have e1 := level_ge p (y := s.hi) (l := v) hg (by omega) (by omega) (by omega)
    have e2 := level_ge p (y := max s.lo (p.least v)) (l := v) hg (by omega) (by omega) (by omega)
    refine ⟨max s.lo (p.least v), by omega, by omega, ?_⟩
    by_cases h : p.least v ≤ s.lo
    · rw [show max s.lo (p.least v) = s.lo by omega] at e2 ⊢; omega
    · have e3 := level_ge p (y := p.least v) (l := v + 1) hg (by omega) (by omega) (by omega)
      rw [show max s.lo (p.least v) = p.least v by omega] at e2 ⊢; omega
  · rintro ⟨y, g1, g2, rfl⟩
    exact ⟨level_mono p hg h0 g1, level_mono p hg (by omega) g2⟩

theorem rm1_set (p : Pp) (t : Pt) (c : Int) (hg : p.good) (ht : t.right) : Norm (p.rm1 t c) ∧ (∀ v, Mem v (p.rm1 t c) ↔ ∃ y, (p.rlow t c).lo ≤ y ∧ y ≤ (p.rlow t c).hi ∧ p.level y = v) ∧ (p.rm1 t c).length ≤ 1 ∧ (∀ s ∈ p.rm1 t c, 0 ≤ s.lo ∧ s.hi ≤ 12000) := by
  have hb := heights_bd p t hg ht
  have hm := rlow_mem p t c hg ht
  unfold Pp.rm1
  split
  · rename_i h
    have a := (hm (p.rlow t c).lo).1 ⟨Int.le_refl _, h⟩
    have b := (hm (p.rlow t c).hi).1 ⟨h, Int.le_refl _⟩
    have k := mem_in (p := p) (s := p.rlow t c) hg (by omega) h (by omega)
    have j : joinE [] (p.lspan (p.rlow t c)) = [p.lspan (p.rlow t c)] := by rw [joinE, if_neg (by omega)]; rfl
    rw [j]
    refine ⟨⟨k.1, fun t ht => absurd ht (List.not_mem_nil), trivial⟩, fun v => ?_, by simp, fun s hs => ?_⟩
    · rw [mem_cons, ← lspan_mem hg (by omega) h (by omega)]; simp [Mem.nil]
    · obtain rfl : s = p.lspan (p.rlow t c) := by simpa using hs
      exact k.2
  · rename_i h
    refine ⟨trivial, fun v => ⟨fun h => absurd h Mem.nil, ?_⟩, by simp, by simp⟩
    rintro ⟨y, h1, h2, _⟩; omega

theorem join_len (l : List Sp) (x : Sp) : (join l x).length ≤ l.length + 1 := by
  induction l generalizing x with
  | nil => simp [join]
  | cons s r ih =>
    unfold join
    split
    · have := ih x; simp only [List.length_cons]; omega
    · split
      · simp
      · have := ih ⟨min x.lo s.lo, max x.hi s.hi⟩; simp only [List.length_cons]; omega

theorem rmeans_set (p : Pp) (t : Pt) (c : Int) (hg : p.good) (ht : t.right) : Norm (p.rmeans t c) ∧ (∀ v, Mem v (p.rmeans t c) ↔ ∃ y, ((p.heights t).lo ≤ y ∧ y ≤ (p.heights t).hi) ∧ p.hitA t c y ∧ p.level y = v) ∧ (p.rmeans t c).length ≤ 2 := by
  have hb := heights_bd p t hg ht
  obtain ⟨n1, m1, l1, b1⟩ := rm1_set p t c hg ht
  have hl := rlow_mem p t c hg ht
  have hm := rhigh_mem p t c hg ht
  have all : ∀ v, (∃ y, ((p.heights t).lo ≤ y ∧ y ≤ (p.heights t).hi) ∧ p.hitA t c y ∧ p.level y = v) ↔ (∃ y, (p.rlow t c).lo ≤ y ∧ y ≤ (p.rlow t c).hi ∧ p.level y = v) ∨ ∃ y, (p.rhigh t c).lo ≤ y ∧ y ≤ (p.rhigh t c).hi ∧ p.level y = v := by
    intro v
    constructor
    · rintro ⟨y, h1, h2, h3⟩
      by_cases h : y ≤ p.he / 2
      · have := (hl y).2 ⟨h1, h, h2⟩; exact .inl ⟨y, this.1, this.2, h3⟩
      · have := (hm y).2 ⟨h1, by omega, h2⟩; exact .inr ⟨y, this.1, this.2, h3⟩
    · rintro (⟨y, h1, h2, h3⟩ | ⟨y, h1, h2, h3⟩)
      · have := (hl y).1 ⟨h1, h2⟩; exact ⟨y, this.1, this.2.2, h3⟩
      · have := (hm y).1 ⟨h1, h2⟩; exact ⟨y, this.1, this.2.2, h3⟩
  unfold Pp.rmeans
  split
  · rename_i h
    have a := (hm (p.rhigh t c).lo).1 ⟨Int.le_refl _, h⟩
    have b := (hm (p.rhigh t c).hi).1 ⟨h, Int.le_refl _⟩
    have k := mem_in (p := p) (s := p.rhigh t c) hg (by omega) h (by omega)
    rw [joinE, if_neg (by omega)]
    refine ⟨join_norm n1 k.1, fun v => ?_, ?_⟩
    · rw [join_mem n1 k.1, m1, lspan_mem hg (by omega) h (by omega), all]
    · have := join_len (p.rm1 t c) (p.lspan (p.rhigh t c)); omega
  · rename_i h
    refine ⟨n1, fun v => ?_, by omega⟩
    rw [m1, all]
    refine ⟨.inl, ?_⟩
    rintro (h' | ⟨y, h1, h2, _⟩)
    · exact h'
    · omega

theorem rmeans_spec (p : Pp) (t : Pt) (c : Int) (hg : p.good) (ht : t.right) (h0 : 0 ≤ c) (h1 : c ≤ p.co - 1) : Pure Try.prog 82 [.agg p.cs, .agg t.cs, n c] (spS (p.rmeans t c)) := by
  refine Pure.of_body Try.call82 Try.func82 k82 (Nat.le_of_ble_eq_true rfl) ?_
  have hb := heights_bd p t hg ht
  have ha := along_bd p t hg ht
  have hpl := rplaces_spec t.x t.h p.al hg.al ⟨ht.1, ht.2.1⟩ ⟨ht.2.2.2.2.1, ht.2.2.2.2.2⟩
  change Pure _ _ _ (.agg (p.along t).cs) at hpl
  obtain ⟨n1, m1, l1, b1⟩ := rm1_set p t c hg ht
  have hl := rlow_mem p t c hg ht
  have hm := rhigh_mem p t c hg ht
  have hg' := hg
  obtain ⟨g1, g2, g3, g4, g5, g6, g7, g8, g9, g10, g11, g12, g13⟩ := hg'
  have q1 := mul_bd (show 0 ≤ c + 1 by omega) (show c + 1 ≤ 200 by omega) (show 0 ≤ p.pi by omega) g2
  have q2 := mul_bd h0 (show c ≤ 200 by omega) (show 0 ≤ p.pi by omega) g2
  have hhalf : p.he.tdiv 2 = p.he / 2 := Int.tdiv_eq_ediv_of_nonneg (by omega)
  have R1 := rring_spec p ⟨(p.heights t).lo, min (p.heights t).hi (p.he / 2)⟩ (p.abd t c) hg hb.1 (by simp only; omega) (by simp only; omega) (by simp only; omega) (by simp only [Pp.abd]; omega) (by simp only [Pp.abd]; omega)
  change Pure _ _ _ (.agg (p.rlow t c).cs) at R1
  have R2 := rturned_spec p ⟨max (p.heights t).lo (p.he / 2 + 1), (p.heights t).hi⟩ (by omega) (by simp only; omega) (by simp only; omega)
  have R3 := rring_spec p (p.turned ⟨max (p.heights t).lo (p.he / 2 + 1), (p.heights t).hi⟩) (p.abd t c) hg (by simp only [Pp.turned]; omega) (by simp only [Pp.turned]; omega) (by simp only [Pp.turned]; omega) (by simp only [Pp.turned]; omega) (by simp only [Pp.abd]; omega) (by simp only [Pp.abd]; omega)
  have k3 : 0 ≤ (p.ring (p.turned ⟨max (p.heights t).lo (p.he / 2 + 1), (p.heights t).hi⟩) (p.abd t c)).lo ∧ (p.ring (p.turned ⟨max (p.heights t).lo (p.he / 2 + 1), (p.heights t).hi⟩) (p.abd t c)).lo ≤ 1000000000 :=
    firstE_bd p hg (by simp only [Pp.turned]; omega) (by simp only [Pp.turned]; omega) (by simp only [Pp.turned]; omega)
  have k4 : 0 ≤ (p.ring (p.turned ⟨max (p.heights t).lo (p.he / 2 + 1), (p.heights t).hi⟩) (p.abd t c)).hi + 1 ∧ (p.ring (p.turned ⟨max (p.heights t).lo (p.he / 2 + 1), (p.heights t).hi⟩) (p.abd t c)).hi + 1 ≤ 1000000000 := by
    have := firstE_bd p (lo := (p.turned ⟨max (p.heights t).lo (p.he / 2 + 1), (p.heights t).hi⟩).lo) (hi := (p.turned ⟨max (p.heights t).lo (p.he / 2 + 1), (p.heights t).hi⟩).hi) (k := (p.abd t c).hi + 1) hg (by simp only [Pp.turned]; omega) (by simp only [Pp.turned]; omega) (by simp only [Pp.turned]; omega)
    simp only [Pp.ring]; omega
  have R4 := rturned_spec p (p.ring (p.turned ⟨max (p.heights t).lo (p.he / 2 + 1), (p.heights t).hi⟩) (p.abd t c)) (by omega) (by omega) (by omega)
  change Pure _ _ _ (.agg (p.rhigh t c).cs) at R4
  have hlow : (p.rlow t c).lo ≤ (p.rlow t c).hi → 0 ≤ (p.rlow t c).lo ∧ (p.rlow t c).hi ≤ p.he := fun h => by
    have a := (hl (p.rlow t c).lo).1 ⟨Int.le_refl _, h⟩
    have b := (hl (p.rlow t c).hi).1 ⟨h, Int.le_refl _⟩
    omega
  have hhigh : (p.rhigh t c).lo ≤ (p.rhigh t c).hi → 0 ≤ (p.rhigh t c).lo ∧ (p.rhigh t c).hi ≤ p.he := fun h => by
    have a := (hm (p.rhigh t c).lo).1 ⟨Int.le_refl _, h⟩
    have b := (hm (p.rhigh t c).hi).1 ⟨h, Int.le_refl _⟩
    omega
  have J1 : (p.rlow t c).lo ≤ (p.rlow t c).hi → Pure Try.prog 105 [.v (.slice none 0 0), .agg (p.lspan (p.rlow t c)).cs] (spS (p.rm1 t c)) := fun h => by
    have k := mem_in (p := p) (s := p.rlow t c) hg (hlow h).1 h (hlow h).2
    rw [Pp.rm1, if_pos h]
    exact rJoin0_spec _ (by omega)
  have J2 : (p.rhigh t c).lo ≤ (p.rhigh t c).hi → Pure Try.prog 105 [spS (p.rm1 t c), .agg (p.lspan (p.rhigh t c)).cs] (spS (p.rmeans t c)) := fun h => by
    have k := mem_in (p := p) (s := p.rhigh t c) hg (hhigh h).1 h (hhigh h).2
    rw [Pp.rmeans, if_pos h]
    exact rJoin_spec _ _ n1 (fun s hs => by have := b1 s hs; have := n1.ne s hs; omega) (by omega) (by omega)
  have J3 : ¬ (p.rlow t c).lo ≤ (p.rlow t c).hi → (p.rhigh t c).lo ≤ (p.rhigh t c).hi → Pure Try.prog 105 [.v (.slice none 0 0), .agg (p.lspan (p.rhigh t c)).cs] (spS (p.rmeans t c)) := fun h' h => by
    have k := mem_in (p := p) (s := p.rhigh t c) hg (hhigh h).1 h (hhigh h).2
    rw [Pp.rmeans, if_pos h, Pp.rm1, if_neg h']
    exact rJoin0_spec _ (by omega)
  have V1 : (p.rlow t c).lo ≤ (p.rlow t c).hi → Pure Try.prog 78 [.agg p.cs, n (p.rlow t c).lo] (n (p.lspan (p.rlow t c)).lo) := fun h => rlevel_spec p _ hg (by omega) (by omega)
  have V2 : (p.rlow t c).lo ≤ (p.rlow t c).hi → Pure Try.prog 78 [.agg p.cs, n (p.rlow t c).hi] (n (p.lspan (p.rlow t c)).hi) := fun h => rlevel_spec p _ hg (by omega) (by omega)
  have V3 : (p.rhigh t c).lo ≤ (p.rhigh t c).hi → Pure Try.prog 78 [.agg p.cs, n (p.rhigh t c).lo] (n (p.lspan (p.rhigh t c)).lo) := fun h => rlevel_spec p _ hg (by omega) (by omega)
  have V4 : (p.rhigh t c).lo ≤ (p.rhigh t c).hi → Pure Try.prog 78 [.agg p.cs, n (p.rhigh t c).hi] (n (p.lspan (p.rhigh t c)).hi) := fun h => rlevel_spec p _ hg (by omega) (by omega)
  clear hl hm m1 b1
  unfold c82
  (repeat' first
    | (refine AWPC.of_vcn rfl ?_; simp only [zT, drp, hasN, Bool.or_false, Bool.false_or, Bool.or_true, Bool.true_or, Classical.not_not, zS, vcC, exs, exd, pickV, alS, Al.ob, grd, ex, ov, gt, argE, strp, cnd, sideL, I.os, st, wrap, keep, binA, kseq, kblk, kret, klp, resL, res1, one, ocalls, obj, elems, cells, scalar, vs, pick1, fillA, splice, chop, eqC, Nat.reduceBEq, Nat.reduceAdd, Nat.reduceSub, Nat.reduceLT, Nat.reduceLeDiff, Nat.reduceMul, Nat.reduceEqDiff, cond_true, cond_false, if_true, if_false, reduceIte, implies_true, forall_const, ne_eq, hhalf])
    | (simp (disch := omega) only [wr64, Int.zero_sub]; try simp only [zT, drp, hasN, Bool.or_false, Bool.false_or, Bool.or_true, Bool.true_or, Classical.not_not, zS, vcC, exs, exd, pickV, alS, Al.ob, grd, ex, ov, gt, argE, strp, cnd, sideL, I.os, st, wrap, keep, binA, kseq, kblk, kret, klp, resL, res1, one, ocalls, obj, elems, cells, scalar, vs, pick1, fillA, splice, chop, eqC, Nat.reduceBEq, Nat.reduceAdd, Nat.reduceSub, Nat.reduceLT, Nat.reduceLeDiff, Nat.reduceMul, Nat.reduceEqDiff, cond_true, cond_false, if_true, if_false, reduceIte, implies_true, forall_const, ne_eq, hhalf])
    | (refine AWPC.both (fun _ => ?_) (fun _ => ?_))
    | (refine AWPC.imp (fun _ => ?_))
    | ((repeat (refine And.intro (by (intros; simp_all (config := { decide := false }); done)) ?_)); (first
      | (refine .inl ⟨_, _, _, _, rfl, fun _hc => ⟨by simp, hpl⟩, ?_⟩)
      | (refine .inl ⟨_, _, _, _, rfl, fun _hc => ⟨by simp, rheights_spec p t hg ht⟩, ?_⟩)
      | (refine .inl ⟨_, _, _, _, rfl, fun _hc => ⟨by simp, R1⟩, ?_⟩)
      | (refine .inl ⟨_, _, _, _, rfl, fun _hc => ⟨by simp, R2⟩, ?_⟩)
      | (refine .inl ⟨_, _, _, _, rfl, fun _hc => ⟨by simp, R3⟩, ?_⟩)
      | (refine .inl ⟨_, _, _, _, rfl, fun _hc => ⟨by simp, R4⟩, ?_⟩)
      | (refine .inl ⟨_, _, _, _, rfl, fun _hc => ⟨by simp, V1 (by omega)⟩, ?_⟩)
      | (refine .inl ⟨_, _, _, _, rfl, fun _hc => ⟨by simp, V2 (by omega)⟩, ?_⟩)
      | (refine .inl ⟨_, _, _, _, rfl, fun _hc => ⟨by simp, V3 (by omega)⟩, ?_⟩)
      | (refine .inl ⟨_, _, _, _, rfl, fun _hc => ⟨by simp, V4 (by omega)⟩, ?_⟩)
      | (refine .inl ⟨_, _, _, _, rfl, fun _hc => ⟨by simp, J1 (by omega)⟩, ?_⟩)
      | (refine .inl ⟨_, _, _, _, rfl, fun _hc => ⟨by simp, J2 (by omega)⟩, ?_⟩)
      | (refine .inl ⟨_, _, _, _, rfl, fun _hc => ⟨by simp, J3 (by omega) (by omega)⟩, ?_⟩)
      | (refine ⟨_, _, _, _, rfl, fun _hc => ⟨by simp, hpl⟩, ?_⟩)
      | (refine ⟨_, _, _, _, rfl, fun _hc => ⟨by simp, rheights_spec p t hg ht⟩, ?_⟩)
      | (refine ⟨_, _, _, _, rfl, fun _hc => ⟨by simp, R1⟩, ?_⟩)
      | (refine ⟨_, _, _, _, rfl, fun _hc => ⟨by simp, R2⟩, ?_⟩)
      | (refine ⟨_, _, _, _, rfl, fun _hc => ⟨by simp, R3⟩, ?_⟩)
      | (refine ⟨_, _, _, _, rfl, fun _hc => ⟨by simp, R4⟩, ?_⟩)
      | (refine ⟨_, _, _, _, rfl, fun _hc => ⟨by simp, V1 (by omega)⟩, ?_⟩)
      | (refine ⟨_, _, _, _, rfl, fun _hc => ⟨by simp, V2 (by omega)⟩, ?_⟩)
      | (refine ⟨_, _, _, _, rfl, fun _hc => ⟨by simp, V3 (by omega)⟩, ?_⟩)
      | (refine ⟨_, _, _, _, rfl, fun _hc => ⟨by simp, V4 (by omega)⟩, ?_⟩)
      | (refine ⟨_, _, _, _, rfl, fun _hc => ⟨by simp, J1 (by omega)⟩, ?_⟩)
      | (refine ⟨_, _, _, _, rfl, fun _hc => ⟨by simp, J2 (by omega)⟩, ?_⟩)
      | (refine ⟨_, _, _, _, rfl, fun _hc => ⟨by simp, J3 (by omega) (by omega)⟩, ?_⟩)
      | fail); (first | (refine owp_of_exs ?_; simp only [zT, drp, hasN, Bool.or_false, Bool.false_or, Bool.or_true, Bool.true_or, Classical.not_not, zS, vcC, exs, exd, pickV, alS, Al.ob, grd, ex, ov, gt, argE, strp, cnd, sideL, I.os, st, wrap, keep, binA, kseq, kblk, kret, klp, resL, res1, one, ocalls, obj, elems, cells, scalar, vs, pick1, fillA, splice, chop, eqC, Nat.reduceBEq, Nat.reduceAdd, Nat.reduceSub, Nat.reduceLT, Nat.reduceLeDiff, Nat.reduceMul, Nat.reduceEqDiff, cond_true, cond_false, if_true, if_false, reduceIte, implies_true, forall_const, ne_eq, hhalf]) | (refine pre_of_exd ?_; simp only [zT, drp, hasN, Bool.or_false, Bool.false_or, Bool.or_true, Bool.true_or, Classical.not_not, zS, vcC, exs, exd, pickV, alS, Al.ob, grd, ex, ov, gt, argE, strp, cnd, sideL, I.os, st, wrap, keep, binA, kseq, kblk, kret, klp, resL, res1, one, ocalls, obj, elems, cells, scalar, vs, pick1, fillA, splice, chop, eqC, Nat.reduceBEq, Nat.reduceAdd, Nat.reduceSub, Nat.reduceLT, Nat.reduceLeDiff, Nat.reduceMul, Nat.reduceEqDiff, cond_true, cond_false, if_true, if_false, reduceIte, implies_true, forall_const, ne_eq, hhalf]) | fail))
    | ((refine .inl ⟨_, _, _, .any, rfl, fun h => absurd h Bool.false_ne_true, ?_⟩); (first | (refine owp_of_exs ?_; simp only [zT, drp, hasN, Bool.or_false, Bool.false_or, Bool.or_true, Bool.true_or, Classical.not_not, zS, vcC, exs, exd, pickV, alS, Al.ob, grd, ex, ov, gt, argE, strp, cnd, sideL, I.os, st, wrap, keep, binA, kseq, kblk, kret, klp, resL, res1, one, ocalls, obj, elems, cells, scalar, vs, pick1, fillA, splice, chop, eqC, Nat.reduceBEq, Nat.reduceAdd, Nat.reduceSub, Nat.reduceLT, Nat.reduceLeDiff, Nat.reduceMul, Nat.reduceEqDiff, cond_true, cond_false, if_true, if_false, reduceIte, implies_true, forall_const, ne_eq, hhalf]) | fail))
    | (refine ⟨by omega, ?_⟩)
    | fail)
  all_goals try (exfalso; omega)
  all_goals first
    | exact Frz.eq rfl (by simp)
    | (rw [Pp.rmeans, if_neg (by omega)]; exact Frz.eq rfl (by simp))
    | (rw [Pp.rmeans, if_neg (by omega), Pp.rm1, if_neg (by omega)]; exact Frz.nil)

/-- What a point means in a column, by rings of heights. -/
def Pp.RMeans (p : Pp) (t : Pt) (c : Int) : List Sp × Int :=
  if p.perr1 t ≠ 0 then ([], p.perr1 t) else if ¬ (0 ≤ c ∧ c ≤ p.co - 1) then ([], 1) else (p.rmeans t c, 0)

theorem rMeans_spec (p : Pp) (t : Pt) (c : Int) : Pure Try.prog 28 [.agg p.cs, .agg t.cs, n c] (.tup [spS (p.RMeans t c).1, n (p.RMeans t c).2]) := by
  refine Pure.of_body Try.call28 Try.func28 k28 (Nat.le_of_ble_eq_true rfl) ?_
  unfold c28
  by_cases h : p.perr1 t = 0
  · obtain ⟨hg, ht⟩ := perr0 h
    have hco : 1 ≤ p.co ∧ p.co ≤ 200 := ⟨hg.2.2.2.2.2.2.2.2.2.1, hg.2.2.2.2.2.2.2.2.2.2.1⟩
    by_cases hc : 0 ≤ c ∧ c ≤ p.co - 1
    · rw [Pp.RMeans, if_neg (by simp [h]), if_neg (by simp [hc])]
      (repeat' first
    | (refine AWPC.of_vcn rfl ?_; simp only [zT, drp, hasN, Bool.or_false, Bool.false_or, Bool.or_true, Bool.true_or, Classical.not_not, zS, vcC, exs, exd, pickV, alS, Al.ob, grd, ex, ov, gt, argE, strp, cnd, sideL, I.os, st, wrap, keep, binA, kseq, kblk, kret, klp, resL, res1, one, ocalls, obj, elems, cells, scalar, vs, pick1, fillA, splice, chop, eqC, Nat.reduceBEq, Nat.reduceAdd, Nat.reduceSub, Nat.reduceLT, Nat.reduceLeDiff, Nat.reduceMul, Nat.reduceEqDiff, cond_true, cond_false, if_true, if_false, reduceIte, implies_true, forall_const, ne_eq])
    | (simp (disch := omega) only [wr64, Int.zero_sub]; try simp only [zT, drp, hasN, Bool.or_false, Bool.false_or, Bool.or_true, Bool.true_or, Classical.not_not, zS, vcC, exs, exd, pickV, alS, Al.ob, grd, ex, ov, gt, argE, strp, cnd, sideL, I.os, st, wrap, keep, binA, kseq, kblk, kret, klp, resL, res1, one, ocalls, obj, elems, cells, scalar, vs, pick1, fillA, splice, chop, eqC, Nat.reduceBEq, Nat.reduceAdd, Nat.reduceSub, Nat.reduceLT, Nat.reduceLeDiff, Nat.reduceMul, Nat.reduceEqDiff, cond_true, cond_false, if_true, if_false, reduceIte, implies_true, forall_const, ne_eq])
    | (refine AWPC.both (fun _ => ?_) (fun _ => ?_))
    | (refine AWPC.imp (fun _ => ?_))
    | ((repeat (refine And.intro (by (intros; simp_all (config := { decide := false }); done)) ?_)); (first
      | (refine .inl ⟨_, _, _, _, rfl, fun _hc => ⟨by simp, rcheck_spec p t⟩, ?_⟩)
      | (refine .inl ⟨_, _, _, _, rfl, fun _hc => ⟨by simp, rwithin_spec _ _ _⟩, ?_⟩)
      | (refine .inl ⟨_, _, _, _, rfl, fun _hc => ⟨by simp, rmeans_spec p t c hg ht hc.1 hc.2⟩, ?_⟩)
      | (refine ⟨_, _, _, _, rfl, fun _hc => ⟨by simp, rcheck_spec p t⟩, ?_⟩)
      | (refine ⟨_, _, _, _, rfl, fun _hc => ⟨by simp, rwithin_spec _ _ _⟩, ?_⟩)
      | (refine ⟨_, _, _, _, rfl, fun _hc => ⟨by simp, rmeans_spec p t c hg ht hc.1 hc.2⟩, ?_⟩)
      | fail); (first | (refine owp_of_exs ?_; simp only [zT, drp, hasN, Bool.or_false, Bool.false_or, Bool.or_true, Bool.true_or, Classical.not_not, zS, vcC, exs, exd, pickV, alS, Al.ob, grd, ex, ov, gt, argE, strp, cnd, sideL, I.os, st, wrap, keep, binA, kseq, kblk, kret, klp, resL, res1, one, ocalls, obj, elems, cells, scalar, vs, pick1, fillA, splice, chop, eqC, Nat.reduceBEq, Nat.reduceAdd, Nat.reduceSub, Nat.reduceLT, Nat.reduceLeDiff, Nat.reduceMul, Nat.reduceEqDiff, cond_true, cond_false, if_true, if_false, reduceIte, implies_true, forall_const, ne_eq]) | (refine pre_of_exd ?_; simp only [zT, drp, hasN, Bool.or_false, Bool.false_or, Bool.or_true, Bool.true_or, Classical.not_not, zS, vcC, exs, exd, pickV, alS, Al.ob, grd, ex, ov, gt, argE, strp, cnd, sideL, I.os, st, wrap, keep, binA, kseq, kblk, kret, klp, resL, res1, one, ocalls, obj, elems, cells, scalar, vs, pick1, fillA, splice, chop, eqC, Nat.reduceBEq, Nat.reduceAdd, Nat.reduceSub, Nat.reduceLT, Nat.reduceLeDiff, Nat.reduceMul, Nat.reduceEqDiff, cond_true, cond_false, if_true, if_false, reduceIte, implies_true, forall_const, ne_eq]) | fail))
    | ((refine .inl ⟨_, _, _, .any, rfl, fun h => absurd h Bool.false_ne_true, ?_⟩); (first | (refine owp_of_exs ?_; simp only [zT, drp, hasN, Bool.or_false, Bool.false_or, Bool.or_true, Bool.true_or, Classical.not_not, zS, vcC, exs, exd, pickV, alS, Al.ob, grd, ex, ov, gt, argE, strp, cnd, sideL, I.os, st, wrap, keep, binA, kseq, kblk, kret, klp, resL, res1, one, ocalls, obj, elems, cells, scalar, vs, pick1, fillA, splice, chop, eqC, Nat.reduceBEq, Nat.reduceAdd, Nat.reduceSub, Nat.reduceLT, Nat.reduceLeDiff, Nat.reduceMul, Nat.reduceEqDiff, cond_true, cond_false, if_true, if_false, reduceIte, implies_true, forall_const, ne_eq]) | fail))
    | (refine ⟨by omega, ?_⟩)
    | fail)
      all_goals first
        | (exfalso; omega)
        | exact Frz.eq rfl (by simp)
    · rw [Pp.RMeans, if_neg (by simp [h]), if_pos hc]
      (repeat' first
    | (refine AWPC.of_vcn rfl ?_; simp only [zT, drp, hasN, Bool.or_false, Bool.false_or, Bool.or_true, Bool.true_or, Classical.not_not, zS, vcC, exs, exd, pickV, alS, Al.ob, grd, ex, ov, gt, argE, strp, cnd, sideL, I.os, st, wrap, keep, binA, kseq, kblk, kret, klp, resL, res1, one, ocalls, obj, elems, cells, scalar, vs, pick1, fillA, splice, chop, eqC, Nat.reduceBEq, Nat.reduceAdd, Nat.reduceSub, Nat.reduceLT, Nat.reduceLeDiff, Nat.reduceMul, Nat.reduceEqDiff, cond_true, cond_false, if_true, if_false, reduceIte, implies_true, forall_const, ne_eq])
    | (simp (disch := omega) only [wr64, Int.zero_sub]; try simp only [zT, drp, hasN, Bool.or_false, Bool.false_or, Bool.or_true, Bool.true_or, Classical.not_not, zS, vcC, exs, exd, pickV, alS, Al.ob, grd, ex, ov, gt, argE, strp, cnd, sideL, I.os, st, wrap, keep, binA, kseq, kblk, kret, klp, resL, res1, one, ocalls, obj, elems, cells, scalar, vs, pick1, fillA, splice, chop, eqC, Nat.reduceBEq, Nat.reduceAdd, Nat.reduceSub, Nat.reduceLT, Nat.reduceLeDiff, Nat.reduceMul, Nat.reduceEqDiff, cond_true, cond_false, if_true, if_false, reduceIte, implies_true, forall_const, ne_eq])
    | (refine AWPC.both (fun _ => ?_) (fun _ => ?_))
    | (refine AWPC.imp (fun _ => ?_))
    | ((repeat (refine And.intro (by (intros; simp_all (config := { decide := false }); done)) ?_)); (first
      | (refine .inl ⟨_, _, _, _, rfl, fun _hc => ⟨by simp, rcheck_spec p t⟩, ?_⟩)
      | (refine .inl ⟨_, _, _, _, rfl, fun _hc => ⟨by simp, rwithin_spec _ _ _⟩, ?_⟩)
      | (refine ⟨_, _, _, _, rfl, fun _hc => ⟨by simp, rcheck_spec p t⟩, ?_⟩)
      | (refine ⟨_, _, _, _, rfl, fun _hc => ⟨by simp, rwithin_spec _ _ _⟩, ?_⟩)
      | fail); (first | (refine owp_of_exs ?_; simp only [zT, drp, hasN, Bool.or_false, Bool.false_or, Bool.or_true, Bool.true_or, Classical.not_not, zS, vcC, exs, exd, pickV, alS, Al.ob, grd, ex, ov, gt, argE, strp, cnd, sideL, I.os, st, wrap, keep, binA, kseq, kblk, kret, klp, resL, res1, one, ocalls, obj, elems, cells, scalar, vs, pick1, fillA, splice, chop, eqC, Nat.reduceBEq, Nat.reduceAdd, Nat.reduceSub, Nat.reduceLT, Nat.reduceLeDiff, Nat.reduceMul, Nat.reduceEqDiff, cond_true, cond_false, if_true, if_false, reduceIte, implies_true, forall_const, ne_eq]) | (refine pre_of_exd ?_; simp only [zT, drp, hasN, Bool.or_false, Bool.false_or, Bool.or_true, Bool.true_or, Classical.not_not, zS, vcC, exs, exd, pickV, alS, Al.ob, grd, ex, ov, gt, argE, strp, cnd, sideL, I.os, st, wrap, keep, binA, kseq, kblk, kret, klp, resL, res1, one, ocalls, obj, elems, cells, scalar, vs, pick1, fillA, splice, chop, eqC, Nat.reduceBEq, Nat.reduceAdd, Nat.reduceSub, Nat.reduceLT, Nat.reduceLeDiff, Nat.reduceMul, Nat.reduceEqDiff, cond_true, cond_false, if_true, if_false, reduceIte, implies_true, forall_const, ne_eq]) | fail))
    | ((refine .inl ⟨_, _, _, .any, rfl, fun h => absurd h Bool.false_ne_true, ?_⟩); (first | (refine owp_of_exs ?_; simp only [zT, drp, hasN, Bool.or_false, Bool.false_or, Bool.or_true, Bool.true_or, Classical.not_not, zS, vcC, exs, exd, pickV, alS, Al.ob, grd, ex, ov, gt, argE, strp, cnd, sideL, I.os, st, wrap, keep, binA, kseq, kblk, kret, klp, resL, res1, one, ocalls, obj, elems, cells, scalar, vs, pick1, fillA, splice, chop, eqC, Nat.reduceBEq, Nat.reduceAdd, Nat.reduceSub, Nat.reduceLT, Nat.reduceLeDiff, Nat.reduceMul, Nat.reduceEqDiff, cond_true, cond_false, if_true, if_false, reduceIte, implies_true, forall_const, ne_eq]) | fail))
    | (refine ⟨by omega, ?_⟩)
    | fail)
      all_goals first
        | (exfalso; omega)
        | (refine Frz.tup rfl (fun i hi => ?_)
           match i, hi with
           | 0, _ => exact Frz.nil
           | 1, _ => exact Frz.eq rfl (by simp))
  · rw [Pp.RMeans, if_pos (by simp [h])]
    (repeat' first
    | (refine AWPC.of_vcn rfl ?_; simp only [zT, drp, hasN, Bool.or_false, Bool.false_or, Bool.or_true, Bool.true_or, Classical.not_not, zS, vcC, exs, exd, pickV, alS, Al.ob, grd, ex, ov, gt, argE, strp, cnd, sideL, I.os, st, wrap, keep, binA, kseq, kblk, kret, klp, resL, res1, one, ocalls, obj, elems, cells, scalar, vs, pick1, fillA, splice, chop, eqC, Nat.reduceBEq, Nat.reduceAdd, Nat.reduceSub, Nat.reduceLT, Nat.reduceLeDiff, Nat.reduceMul, Nat.reduceEqDiff, cond_true, cond_false, if_true, if_false, reduceIte, implies_true, forall_const, ne_eq])
    | (simp (disch := omega) only [wr64, Int.zero_sub]; try simp only [zT, drp, hasN, Bool.or_false, Bool.false_or, Bool.or_true, Bool.true_or, Classical.not_not, zS, vcC, exs, exd, pickV, alS, Al.ob, grd, ex, ov, gt, argE, strp, cnd, sideL, I.os, st, wrap, keep, binA, kseq, kblk, kret, klp, resL, res1, one, ocalls, obj, elems, cells, scalar, vs, pick1, fillA, splice, chop, eqC, Nat.reduceBEq, Nat.reduceAdd, Nat.reduceSub, Nat.reduceLT, Nat.reduceLeDiff, Nat.reduceMul, Nat.reduceEqDiff, cond_true, cond_false, if_true, if_false, reduceIte, implies_true, forall_const, ne_eq])
    | (refine AWPC.both (fun _ => ?_) (fun _ => ?_))
    | (refine AWPC.imp (fun _ => ?_))
    | ((repeat (refine And.intro (by (intros; simp_all (config := { decide := false }); done)) ?_)); (first
      | (refine .inl ⟨_, _, _, _, rfl, fun _hc => ⟨by simp, rcheck_spec p t⟩, ?_⟩)
      | (refine ⟨_, _, _, _, rfl, fun _hc => ⟨by simp, rcheck_spec p t⟩, ?_⟩)
      | fail); (first | (refine owp_of_exs ?_; simp only [zT, drp, hasN, Bool.or_false, Bool.false_or, Bool.or_true, Bool.true_or, Classical.not_not, zS, vcC, exs, exd, pickV, alS, Al.ob, grd, ex, ov, gt, argE, strp, cnd, sideL, I.os, st, wrap, keep, binA, kseq, kblk, kret, klp, resL, res1, one, ocalls, obj, elems, cells, scalar, vs, pick1, fillA, splice, chop, eqC, Nat.reduceBEq, Nat.reduceAdd, Nat.reduceSub, Nat.reduceLT, Nat.reduceLeDiff, Nat.reduceMul, Nat.reduceEqDiff, cond_true, cond_false, if_true, if_false, reduceIte, implies_true, forall_const, ne_eq]) | (refine pre_of_exd ?_; simp only [zT, drp, hasN, Bool.or_false, Bool.false_or, Bool.or_true, Bool.true_or, Classical.not_not, zS, vcC, exs, exd, pickV, alS, Al.ob, grd, ex, ov, gt, argE, strp, cnd, sideL, I.os, st, wrap, keep, binA, kseq, kblk, kret, klp, resL, res1, one, ocalls, obj, elems, cells, scalar, vs, pick1, fillA, splice, chop, eqC, Nat.reduceBEq, Nat.reduceAdd, Nat.reduceSub, Nat.reduceLT, Nat.reduceLeDiff, Nat.reduceMul, Nat.reduceEqDiff, cond_true, cond_false, if_true, if_false, reduceIte, implies_true, forall_const, ne_eq]) | fail))
    | ((refine .inl ⟨_, _, _, .any, rfl, fun h => absurd h Bool.false_ne_true, ?_⟩); (first | (refine owp_of_exs ?_; simp only [zT, drp, hasN, Bool.or_false, Bool.false_or, Bool.or_true, Bool.true_or, Classical.not_not, zS, vcC, exs, exd, pickV, alS, Al.ob, grd, ex, ov, gt, argE, strp, cnd, sideL, I.os, st, wrap, keep, binA, kseq, kblk, kret, klp, resL, res1, one, ocalls, obj, elems, cells, scalar, vs, pick1, fillA, splice, chop, eqC, Nat.reduceBEq, Nat.reduceAdd, Nat.reduceSub, Nat.reduceLT, Nat.reduceLeDiff, Nat.reduceMul, Nat.reduceEqDiff, cond_true, cond_false, if_true, if_false, reduceIte, implies_true, forall_const, ne_eq]) | fail))
    | (refine ⟨by omega, ?_⟩)
    | fail)
    all_goals first
      | (exfalso; omega)
      | (refine Frz.tup rfl (fun i hi => ?_)
         match i, hi with
         | 0, _ => exact Frz.nil
         | 1, _ => exact Frz.eq rfl (by simp))
end Go.Proofs.Ytgpdckmbojmlpaa
