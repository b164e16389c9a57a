import Derived.Test.YtgpdckmbojmlpaaATQ2
import Derived.Test.YtgpdckmbojmlpaaRows
namespace Go.Proofs.Ytgpdckmbojmlpaa
open Go.Abs
set_option linter.unusedVariables false
set_option linter.unusedSimpArgs false
set_option maxHeartbeats 4000000
set_option maxRecDepth 100000
-- aneroid/paper.Along
def c34 : CF := ⟨22,
 (.seq (.ops [
 ⟨(some 2), .box false 25 10 (.t 0), none⟩,
 ⟨(some 3), .box false 32 3 (.t 1), none⟩,
 ⟨(some 4), .alloc 23 2 [.int .i64 0, .int .i64 0], none⟩,
 ⟨(some 5), .mv (.c (.int .i64 0)), none⟩] [2, 3, 4])
 (.seq (.ops [
 ⟨(some 9), .load (some 10) (.t 2), none⟩,
 ⟨(some 10), .load (some 3) (.t 3), none⟩,
 ⟨(some 11), .bsl false 32 3 1 [.int .i64 0, .int .i64 0, .int .i64 0] [(0, 3, (.t 10))], none⟩,
 ⟨(some 12), .call (.f 71) [(.t 9), (.t 11)], none⟩,
 ⟨(some 8), .mv (.t 12), none⟩,
 ⟨(some 13), .ext 0 (.t 8), none⟩,
 ⟨(some 14), .ext 1 (.t 8), none⟩,
 ⟨(some 6), .alloc 85 10 [.int .i64 0, .int .i64 0, .int .i64 0, .int .i64 0, .int .i64 0, .int .i64 0, .int .i64 0, .int .i64 0, .int .i64 0, .int .i64 0], none⟩,
 ⟨none, .store 10 (.t 6) (.t 13), none⟩,
 ⟨(some 7), .mv (.t 14), none⟩] [3, 4, 6, 7])
 (.seq (.seq (.ops [
 ⟨(some 15), .mv (.t 7), none⟩,
 ⟨(some 16), .bin .neq (.t 15) (.c (.int .i64 0)), none⟩] [3, 4, 6, 7, 16])
 (.cond (.t 16) (.seq (.ops [
 ⟨(some 17), .build [.int .i64 0, .int .i64 0] [], none⟩,
 ⟨(some 18), .mv (.t 7), none⟩,
 ⟨none, .store 2 (.t 4) (.t 17), none⟩,
 ⟨(some 5), .mv (.t 18), none⟩] [4, 5])
 .ret)
 .skip))
 (.seq (.ops [
 ⟨(some 19), .load (some 10) (.t 6), none⟩,
 ⟨(some 20), .load (some 3) (.t 3), none⟩,
 ⟨(some 21), .call (.f 88) [(.t 19), (.t 20)], none⟩,
 ⟨none, .store 2 (.t 4) (.t 21), none⟩,
 ⟨(some 5), .mv (.c (.int .i64 0)), none⟩] [4, 5])
 .ret)))),
 [.c 4 (some 2), .t 5]⟩
-- aneroid/paper.Across
def c35 : CF := ⟨22,
 (.seq (.ops [
 ⟨(some 2), .box false 25 10 (.t 0), none⟩,
 ⟨(some 3), .box false 32 3 (.t 1), none⟩,
 ⟨(some 4), .alloc 23 2 [.int .i64 0, .int .i64 0], none⟩,
 ⟨(some 5), .mv (.c (.int .i64 0)), none⟩] [2, 3, 4])
 (.seq (.ops [
 ⟨(some 9), .load (some 10) (.t 2), none⟩,
 ⟨(some 10), .load (some 3) (.t 3), none⟩,
 ⟨(some 11), .bsl false 32 3 1 [.int .i64 0, .int .i64 0, .int .i64 0] [(0, 3, (.t 10))], none⟩,
 ⟨(some 12), .call (.f 71) [(.t 9), (.t 11)], none⟩,
 ⟨(some 8), .mv (.t 12), none⟩,
 ⟨(some 13), .ext 0 (.t 8), none⟩,
 ⟨(some 14), .ext 1 (.t 8), none⟩,
 ⟨(some 6), .alloc 85 10 [.int .i64 0, .int .i64 0, .int .i64 0, .int .i64 0, .int .i64 0, .int .i64 0, .int .i64 0, .int .i64 0, .int .i64 0, .int .i64 0], none⟩,
 ⟨none, .store 10 (.t 6) (.t 13), none⟩,
 ⟨(some 7), .mv (.t 14), none⟩] [3, 4, 6, 7])
 (.seq (.seq (.ops [
 ⟨(some 15), .mv (.t 7), none⟩,
 ⟨(some 16), .bin .neq (.t 15) (.c (.int .i64 0)), none⟩] [3, 4, 6, 7, 16])
 (.cond (.t 16) (.seq (.ops [
 ⟨(some 17), .build [.int .i64 0, .int .i64 0] [], none⟩,
 ⟨(some 18), .mv (.t 7), none⟩,
 ⟨none, .store 2 (.t 4) (.t 17), none⟩,
 ⟨(some 5), .mv (.t 18), none⟩] [4, 5])
 .ret)
 .skip))
 (.seq (.ops [
 ⟨(some 19), .load (some 10) (.t 6), none⟩,
 ⟨(some 20), .load (some 3) (.t 3), none⟩,
 ⟨(some 21), .call (.f 89) [(.t 19), (.t 20)], none⟩,
 ⟨none, .store 2 (.t 4) (.t 21), none⟩,
 ⟨(some 5), .mv (.c (.int .i64 0)), none⟩] [4, 5])
 .ret)))),
 [.c 4 (some 2), .t 5]⟩
-- aneroid/paper.Levels
def c42 : CF := ⟨38,
 (.seq (.ops [
 ⟨(some 2), .box false 25 10 (.t 0), none⟩,
 ⟨(some 3), .box false 32 3 (.t 1), none⟩,
 ⟨(some 4), .alloc 23 2 [.int .i64 0, .int .i64 0], none⟩,
 ⟨(some 5), .mv (.c (.int .i64 0)), none⟩] [2, 3, 4])
 (.seq (.ops [
 ⟨(some 10), .load (some 10) (.t 2), none⟩,
 ⟨(some 11), .load (some 3) (.t 3), none⟩,
 ⟨(some 12), .bsl false 32 3 1 [.int .i64 0, .int .i64 0, .int .i64 0] [(0, 3, (.t 11))], none⟩,
 ⟨(some 13), .call (.f 71) [(.t 10), (.t 12)], none⟩,
 ⟨(some 9), .mv (.t 13), none⟩,
 ⟨(some 14), .ext 0 (.t 9), none⟩,
 ⟨(some 15), .ext 1 (.t 9), none⟩,
 ⟨(some 6), .alloc 85 10 [.int .i64 0, .int .i64 0, .int .i64 0, .int .i64 0, .int .i64 0, .int .i64 0, .int .i64 0, .int .i64 0, .int .i64 0, .int .i64 0], none⟩,
 ⟨none, .store 10 (.t 6) (.t 14), none⟩,
 ⟨(some 7), .mv (.t 15), none⟩] [3, 4, 6, 7])
 (.seq (.seq (.ops [
 ⟨(some 16), .mv (.t 7), none⟩,
 ⟨(some 17), .bin .neq (.t 16) (.c (.int .i64 0)), none⟩] [3, 4, 6, 7, 17])
 (.cond (.t 17) (.seq (.ops [
 ⟨(some 18), .build [.int .i64 0, .int .i64 0] [], none⟩,
 ⟨(some 19), .mv (.t 7), none⟩,
 ⟨none, .store 2 (.t 4) (.t 18), none⟩,
 ⟨(some 5), .mv (.t 19), none⟩] [4, 5])
 .ret)
 .skip))
 (.seq (.ops [
 ⟨(some 20), .load (some 10) (.t 6), none⟩,
 ⟨(some 21), .load (some 3) (.t 3), none⟩,
 ⟨(some 22), .call (.f 92) [(.t 20), (.t 21)], none⟩,
 ⟨(some 8), .alloc 23 2 [.int .i64 0, .int .i64 0], none⟩,
 ⟨none, .store 2 (.t 8) (.t 22), none⟩] [4, 6, 8])
 (.seq (.seq (.ops [
 ⟨(some 23), .faddr 0 (.t 8), none⟩,
 ⟨(some 24), .load none (.t 23), none⟩,
 ⟨(some 25), .faddr 1 (.t 8), none⟩,
 ⟨(some 26), .load none (.t 25), none⟩,
 ⟨(some 27), .bin .gtr (.t 24) (.t 26), none⟩] [4, 6, 8, 27])
 (.cond (.t 27) (.seq (.ops [
 ⟨(some 28), .build [.int .i64 0, .int .i64 0] [], none⟩,
 ⟨none, .store 2 (.t 4) (.t 28), none⟩,
 ⟨(some 5), .mv (.c (.int .i64 3)), none⟩] [4, 5])
 .ret)
 .skip))
 (.seq (.draw [
 ⟨(some 29), .load (some 10) (.t 6), none⟩,
 ⟨(some 30), .faddr 0 (.t 8), none⟩,
 ⟨(some 31), .load none (.t 30), none⟩,
 ⟨(some 32), .call (.f 75) [(.t 29), (.t 31)], none⟩,
 ⟨(some 33), .load (some 10) (.t 6), none⟩,
 ⟨(some 34), .faddr 1 (.t 8), none⟩,
 ⟨(some 35), .load none (.t 34), none⟩,
 ⟨(some 36), .call (.f 75) [(.t 33), (.t 35)], none⟩,
 ⟨(some 37), .build [.int .i64 0, .int .i64 0] [(0, 1, (.t 32)), (1, 1, (.t 36))], none⟩] [
 ⟨none, .store 2 (.t 4) (.t 37), none⟩,
 ⟨(some 5), .mv (.c (.int .i64 0)), none⟩] [4, 5])
 .ret)))))),
 [.c 4 (some 2), .t 5]⟩
-- aneroid/paper.Shrink
def c29 : CF := ⟨68,
 (.seq (.ops [
 ⟨(some 4), .box false 25 10 (.t 0), none⟩,
 ⟨(some 5), .box true 32 3 (.t 1), none⟩,
 ⟨(some 8), .alloc 32 3 [.int .i64 0, .int .i64 0, .int .i64 0], none⟩,
 ⟨(some 9), .mv (.c (.int .i64 0)), none⟩] [2, 3, 4, 5, 8])
 (.seq (.ops [
 ⟨(some 15), .load (some 10) (.t 4), none⟩,
 ⟨(some 16), .load (some 3) (.t 5), none⟩,
 ⟨(some 17), .bsl false 32 3 1 [.int .i64 0, .int .i64 0, .int .i64 0] [(0, 3, (.t 16))], none⟩,
 ⟨(some 18), .call (.f 71) [(.t 15), (.t 17)], none⟩,
 ⟨(some 14), .mv (.t 18), none⟩,
 ⟨(some 19), .ext 0 (.t 14), none⟩,
 ⟨(some 20), .ext 1 (.t 14), none⟩,
 ⟨(some 10), .alloc 85 10 [.int .i64 0, .int .i64 0, .int .i64 0, .int .i64 0, .int .i64 0, .int .i64 0, .int .i64 0, .int .i64 0, .int .i64 0, .int .i64 0], none⟩,
 ⟨none, .store 10 (.t 10) (.t 19), none⟩,
 ⟨(some 11), .mv (.t 20), none⟩] [2, 3, 4, 5, 8, 11])
 (.seq (.block 0 (.seq (.ops [
 ⟨(some 22), .mv (.t 11), none⟩,
 ⟨(some 23), .bin .neq (.t 22) (.c (.int .i64 0)), none⟩,
 ⟨(some 21), .mv (.t 23), none⟩] [2, 3, 4, 5, 8, 11, 21])
 (.cond (.t 21) (.seq (.ops [
 ⟨(some 24), .build [.int .i64 0, .int .i64 0, .int .i64 0] [], none⟩,
 ⟨(some 25), .mv (.t 11), none⟩,
 ⟨none, .store 3 (.t 8) (.t 24), none⟩,
 ⟨(some 9), .mv (.t 25), none⟩] [8, 9])
 .ret)
 (.seq (.seq (.ops [
 ⟨(some 27), .mv (.t 2), none⟩,
 ⟨(some 28), .faddr 6 (.t 4), none⟩,
 ⟨(some 29), .faddr 0 (.t 28), none⟩,
 ⟨(some 30), .load none (.t 29), none⟩,
 ⟨(some 31), .faddr 6 (.t 4), none⟩,
 ⟨(some 32), .faddr 1 (.t 31), none⟩,
 ⟨(some 33), .load none (.t 32), none⟩,
 ⟨(some 34), .call (.f 72) [(.t 27), (.t 30), (.t 33)], none⟩,
 ⟨(some 35), .un .not (.t 34), none⟩,
 ⟨(some 26), .mv (.t 35), none⟩] [2, 3, 4, 5, 8, 26])
 (.cond (.t 26) .skip
 (.ops [
 ⟨(some 36), .mv (.t 3), none⟩,
 ⟨(some 37), .faddr 8 (.t 4), none⟩,
 ⟨(some 38), .faddr 0 (.t 37), none⟩,
 ⟨(some 39), .load none (.t 38), none⟩,
 ⟨(some 40), .faddr 8 (.t 4), none⟩,
 ⟨(some 41), .faddr 1 (.t 40), none⟩,
 ⟨(some 42), .load none (.t 41), none⟩,
 ⟨(some 43), .call (.f 72) [(.t 36), (.t 39), (.t 42)], none⟩,
 ⟨(some 44), .un .not (.t 43), none⟩,
 ⟨(some 26), .mv (.t 44), none⟩] [2, 3, 5, 8, 26])))
 (.cond (.t 26) (.seq (.ops [
 ⟨(some 45), .build [.int .i64 0, .int .i64 0, .int .i64 0] [], none⟩,
 ⟨none, .store 3 (.t 8) (.t 45), none⟩,
 ⟨(some 9), .mv (.c (.int .i64 1)), none⟩] [8, 9])
 .ret)
 .skip)))))
 (.seq (.draw [
 ⟨(some 46), .faddr 0 (.t 5), none⟩,
 ⟨(some 47), .load none (.t 46), none⟩,
 ⟨(some 48), .mv (.t 2), none⟩,
 ⟨(some 49), .bin .mul (.t 47) (.t 48), none⟩,
 ⟨(some 50), .call (.f 83) [(.t 49), (.c (.int .i64 1000))], none⟩,
 ⟨(some 51), .faddr 1 (.t 5), none⟩,
 ⟨(some 52), .load none (.t 51), none⟩,
 ⟨(some 53), .mv (.t 3), none⟩,
 ⟨(some 54), .bin .mul (.t 52) (.t 53), none⟩,
 ⟨(some 55), .call (.f 83) [(.t 54), (.c (.int .i64 1000))], none⟩,
 ⟨(some 56), .faddr 0 (.t 5), none⟩] [
 ⟨none, .store 1 (.t 56) (.t 50), none⟩,
 ⟨(some 57), .faddr 1 (.t 5), none⟩,
 ⟨none, .store 1 (.t 57) (.t 55), none⟩] [5, 8])
 (.seq (.seq (.ops [
 ⟨(some 59), .load (some 3) (.t 5), none⟩,
 ⟨(some 60), .bsl false 32 3 1 [.int .i64 0, .int .i64 0, .int .i64 0] [(0, 3, (.t 59))], none⟩,
 ⟨(some 61), .call (.f 46) [(.t 60)], none⟩,
 ⟨(some 58), .mv (.t 61), none⟩,
 ⟨(some 62), .ext 0 (.t 58), none⟩,
 ⟨(some 63), .ext 1 (.t 58), none⟩,
 ⟨(some 12), .mv (.t 62), none⟩,
 ⟨(some 13), .mv (.t 63), none⟩] [5, 8, 12])
 (.seq (.ops [
 ⟨(some 64), .mv (.t 12), none⟩,
 ⟨(some 65), .bin .neq (.t 64) (.c (.int .i64 0)), none⟩] [5, 8, 65])
 (.cond (.t 65) (.seq (.ops [
 ⟨(some 66), .build [.int .i64 0, .int .i64 0, .int .i64 0] [], none⟩,
 ⟨none, .store 3 (.t 8) (.t 66), none⟩,
 ⟨(some 9), .mv (.c (.int .i64 2)), none⟩] [8, 9])
 .ret)
 .skip)))
 (.seq (.ops [
 ⟨(some 67), .load (some 3) (.t 5), none⟩,
 ⟨none, .store 3 (.t 8) (.t 67), none⟩,
 ⟨(some 9), .mv (.c (.int .i64 0)), none⟩] [8, 9])
 .ret)))))),
 [.c 8 (some 3), .t 9]⟩
-- aneroid/aneroidref01.Levels
def c43 : CF := ⟨33,
 (.seq (.ops [
 ⟨(some 2), .box false 25 10 (.t 0), none⟩,
 ⟨(some 3), .box false 32 3 (.t 1), none⟩,
 ⟨(some 4), .alloc 23 2 [.int .i64 0, .int .i64 0], none⟩,
 ⟨(some 5), .mv (.c (.int .i64 0)), none⟩] [2, 3, 4])
 (.seq (.ops [
 ⟨(some 8), .load (some 10) (.t 2), none⟩,
 ⟨(some 9), .load (some 3) (.t 3), none⟩,
 ⟨(some 10), .call (.f 81) [(.t 8), (.t 9)], none⟩,
 ⟨(some 6), .mv (.t 10), none⟩] [2, 3, 4, 6])
 (.seq (.seq (.ops [
 ⟨(some 11), .mv (.t 6), none⟩,
 ⟨(some 12), .bin .neq (.t 11) (.c (.int .i64 0)), none⟩] [2, 3, 4, 6, 12])
 (.cond (.t 12) (.seq (.ops [
 ⟨(some 13), .build [.int .i64 0, .int .i64 0] [], none⟩,
 ⟨(some 14), .mv (.t 6), none⟩,
 ⟨none, .store 2 (.t 4) (.t 13), none⟩,
 ⟨(some 5), .mv (.t 14), none⟩] [4, 5])
 .ret)
 .skip))
 (.seq (.ops [
 ⟨(some 15), .load (some 10) (.t 2), none⟩,
 ⟨(some 16), .load (some 3) (.t 3), none⟩,
 ⟨(some 17), .call (.f 93) [(.t 15), (.t 16)], none⟩,
 ⟨(some 7), .alloc 23 2 [.int .i64 0, .int .i64 0], none⟩,
 ⟨none, .store 2 (.t 7) (.t 17), none⟩] [2, 4, 7])
 (.seq (.seq (.ops [
 ⟨(some 18), .faddr 0 (.t 7), none⟩,
 ⟨(some 19), .load none (.t 18), none⟩,
 ⟨(some 20), .faddr 1 (.t 7), none⟩,
 ⟨(some 21), .load none (.t 20), none⟩,
 ⟨(some 22), .bin .gtr (.t 19) (.t 21), none⟩] [2, 4, 7, 22])
 (.cond (.t 22) (.seq (.ops [
 ⟨(some 23), .build [.int .i64 0, .int .i64 0] [], none⟩,
 ⟨none, .store 2 (.t 4) (.t 23), none⟩,
 ⟨(some 5), .mv (.c (.int .i64 3)), none⟩] [4, 5])
 .ret)
 .skip))
 (.seq (.draw [
 ⟨(some 24), .load (some 10) (.t 2), none⟩,
 ⟨(some 25), .faddr 0 (.t 7), none⟩,
 ⟨(some 26), .load none (.t 25), none⟩,
 ⟨(some 27), .call (.f 78) [(.t 24), (.t 26)], none⟩,
 ⟨(some 28), .load (some 10) (.t 2), none⟩,
 ⟨(some 29), .faddr 1 (.t 7), none⟩,
 ⟨(some 30), .load none (.t 29), none⟩,
 ⟨(some 31), .call (.f 78) [(.t 28), (.t 30)], none⟩,
 ⟨(some 32), .build [.int .i64 0, .int .i64 0] [(0, 1, (.t 27)), (1, 1, (.t 31))], none⟩] [
 ⟨none, .store 2 (.t 4) (.t 32), none⟩,
 ⟨(some 5), .mv (.c (.int .i64 0)), none⟩] [4, 5])
 .ret)))))),
 [.c 4 (some 2), .t 5]⟩
-- aneroid/aneroidref01.arcs
def c125 : CF := ⟨28,
 (.seq (.ops [
 ⟨(some 2), .box false 25 10 (.t 0), none⟩,
 ⟨(some 3), .box false 23 2 (.t 1), none⟩,
 ⟨(some 4), .alloc 23 2 [.int .i64 0, .int .i64 0], none⟩] [2, 3, 4])
 (.seq (.ops [
 ⟨(some 6), .faddr 0 (.t 3), none⟩,
 ⟨(some 7), .load none (.t 6), none⟩,
 ⟨(some 8), .faddr 1 (.t 3), none⟩,
 ⟨(some 9), .load none (.t 8), none⟩,
 ⟨(some 10), .faddr 1 (.t 2), none⟩,
 ⟨(some 11), .load none (.t 10), none⟩,
 ⟨(some 12), .bin .quo (.t 11) (.c (.int .i64 2)), none⟩,
 ⟨(some 13), .mnx false (.t 9) (.t 12), none⟩,
 ⟨(some 14), .mnx true (.t 7) (.t 13), none⟩,
 ⟨(some 5), .mv (.t 14), none⟩] [2, 3, 4, 5])
 (.seq (.draw [
 ⟨(some 15), .load (some 10) (.t 2), none⟩,
 ⟨(some 16), .faddr 0 (.t 3), none⟩,
 ⟨(some 17), .load none (.t 16), none⟩,
 ⟨(some 18), .call (.f 77) [(.t 15), (.t 17)], none⟩,
 ⟨(some 19), .load (some 10) (.t 2), none⟩,
 ⟨(some 20), .faddr 1 (.t 3), none⟩,
 ⟨(some 21), .load none (.t 20), none⟩,
 ⟨(some 22), .call (.f 77) [(.t 19), (.t 21)], none⟩,
 ⟨(some 23), .mnx false (.t 18) (.t 22), none⟩,
 ⟨(some 24), .load (some 10) (.t 2), none⟩,
 ⟨(some 25), .mv (.t 5), none⟩,
 ⟨(some 26), .call (.f 77) [(.t 24), (.t 25)], none⟩,
 ⟨(some 27), .build [.int .i64 0, .int .i64 0] [(0, 1, (.t 23)), (1, 1, (.t 26))], none⟩] [
 ⟨none, .store 2 (.t 4) (.t 27), none⟩] [4])
 .ret))),
 [.c 4 (some 2)]⟩
-- aneroid/aneroidref01.columns
def c91 : CF := ⟨49,
 (.seq (.ops [
 ⟨(some 2), .box false 25 10 (.t 0), none⟩,
 ⟨(some 3), .box false 32 3 (.t 1), none⟩,
 ⟨(some 4), .alloc 23 2 [.int .i64 0, .int .i64 0], none⟩] [2, 3, 4])
 (.seq (.ops [
 ⟨(some 8), .faddr 0 (.t 3), none⟩,
 ⟨(some 9), .load none (.t 8), none⟩,
 ⟨(some 10), .faddr 2 (.t 3), none⟩,
 ⟨(some 11), .load none (.t 10), none⟩,
 ⟨(some 12), .faddr 6 (.t 2), none⟩,
 ⟨(some 13), .load (some 2) (.t 12), none⟩,
 ⟨(some 14), .call (.f 90) [(.t 9), (.t 11), (.t 13)], none⟩,
 ⟨(some 5), .alloc 23 2 [.int .i64 0, .int .i64 0], none⟩,
 ⟨none, .store 2 (.t 5) (.t 14), none⟩] [2, 3, 4, 5])
 (.seq (.ops [
 ⟨(some 15), .load (some 10) (.t 2), none⟩,
 ⟨(some 16), .load (some 3) (.t 3), none⟩,
 ⟨(some 17), .call (.f 93) [(.t 15), (.t 16)], none⟩,
 ⟨(some 6), .alloc 23 2 [.int .i64 0, .int .i64 0], none⟩,
 ⟨none, .store 2 (.t 6) (.t 17), none⟩] [2, 4, 5, 6])
 (.seq (.seq (.ops [
 ⟨(some 18), .faddr 0 (.t 6), none⟩,
 ⟨(some 19), .load none (.t 18), none⟩,
 ⟨(some 20), .faddr 1 (.t 6), none⟩,
 ⟨(some 21), .load none (.t 20), none⟩,
 ⟨(some 22), .bin .gtr (.t 19) (.t 21), none⟩] [2, 4, 5, 6, 22])
 (.cond (.t 22) (.seq (.ops [
 ⟨(some 23), .build [.int .i64 0, .int .i64 0] [(0, 1, (.c (.int .i64 1))), (1, 1, (.c (.int .i64 0)))], none⟩,
 ⟨none, .store 2 (.t 4) (.t 23), none⟩] [4])
 .ret)
 .skip))
 (.seq (.ops [
 ⟨(some 24), .load (some 10) (.t 2), none⟩,
 ⟨(some 25), .load (some 2) (.t 6), none⟩,
 ⟨(some 26), .call (.f 125) [(.t 24), (.t 25)], none⟩,
 ⟨(some 7), .alloc 23 2 [.int .i64 0, .int .i64 0], none⟩,
 ⟨none, .store 2 (.t 7) (.t 26), none⟩] [2, 4, 5, 7])
 (.seq (.draw [
 ⟨(some 27), .faddr 0 (.t 5), none⟩,
 ⟨(some 28), .load none (.t 27), none⟩,
 ⟨(some 29), .faddr 1 (.t 7), none⟩,
 ⟨(some 30), .load none (.t 29), none⟩,
 ⟨(some 31), .bin .sub (.t 28) (.t 30), none⟩,
 ⟨(some 32), .faddr 0 (.t 2), none⟩,
 ⟨(some 33), .load none (.t 32), none⟩,
 ⟨(some 34), .call (.f 84) [(.t 31), (.t 33)], none⟩,
 ⟨(some 35), .mnx true (.c (.int .i64 0)) (.t 34), none⟩,
 ⟨(some 36), .faddr 5 (.t 2), none⟩,
 ⟨(some 37), .load none (.t 36), none⟩,
 ⟨(some 38), .bin .sub (.t 37) (.c (.int .i64 1)), none⟩,
 ⟨(some 39), .faddr 1 (.t 5), none⟩,
 ⟨(some 40), .load none (.t 39), none⟩,
 ⟨(some 41), .faddr 0 (.t 7), none⟩,
 ⟨(some 42), .load none (.t 41), none⟩,
 ⟨(some 43), .bin .sub (.t 40) (.t 42), none⟩,
 ⟨(some 44), .faddr 0 (.t 2), none⟩,
 ⟨(some 45), .load none (.t 44), none⟩,
 ⟨(some 46), .call (.f 84) [(.t 43), (.t 45)], none⟩,
 ⟨(some 47), .mnx false (.t 38) (.t 46), none⟩,
 ⟨(some 48), .build [.int .i64 0, .int .i64 0] [(0, 1, (.t 35)), (1, 1, (.t 47))], none⟩] [
 ⟨none, .store 2 (.t 4) (.t 48), none⟩] [4])
 .ret)))))),
 [.c 4 (some 2)]⟩
-- aneroid/aneroidref01.Columns
def c41 : CF := ⟨25,
 (.seq (.ops [
 ⟨(some 2), .box false 25 10 (.t 0), none⟩,
 ⟨(some 3), .box false 32 3 (.t 1), none⟩,
 ⟨(some 4), .alloc 23 2 [.int .i64 0, .int .i64 0], none⟩,
 ⟨(some 5), .mv (.c (.int .i64 0)), none⟩] [2, 3, 4])
 (.seq (.ops [
 ⟨(some 8), .load (some 10) (.t 2), none⟩,
 ⟨(some 9), .load (some 3) (.t 3), none⟩,
 ⟨(some 10), .call (.f 81) [(.t 8), (.t 9)], none⟩,
 ⟨(some 6), .mv (.t 10), none⟩] [2, 3, 4, 6])
 (.seq (.seq (.ops [
 ⟨(some 11), .mv (.t 6), none⟩,
 ⟨(some 12), .bin .neq (.t 11) (.c (.int .i64 0)), none⟩] [2, 3, 4, 6, 12])
 (.cond (.t 12) (.seq (.ops [
 ⟨(some 13), .build [.int .i64 0, .int .i64 0] [], none⟩,
 ⟨(some 14), .mv (.t 6), none⟩,
 ⟨none, .store 2 (.t 4) (.t 13), none⟩,
 ⟨(some 5), .mv (.t 14), none⟩] [4, 5])
 .ret)
 .skip))
 (.seq (.ops [
 ⟨(some 15), .load (some 10) (.t 2), none⟩,
 ⟨(some 16), .load (some 3) (.t 3), none⟩,
 ⟨(some 17), .call (.f 91) [(.t 15), (.t 16)], none⟩,
 ⟨(some 7), .alloc 23 2 [.int .i64 0, .int .i64 0], none⟩,
 ⟨none, .store 2 (.t 7) (.t 17), none⟩] [4, 7])
 (.seq (.seq (.ops [
 ⟨(some 18), .faddr 0 (.t 7), none⟩,
 ⟨(some 19), .load none (.t 18), none⟩,
 ⟨(some 20), .faddr 1 (.t 7), none⟩,
 ⟨(some 21), .load none (.t 20), none⟩,
 ⟨(some 22), .bin .gtr (.t 19) (.t 21), none⟩] [4, 7, 22])
 (.cond (.t 22) (.seq (.ops [
 ⟨(some 23), .build [.int .i64 0, .int .i64 0] [], none⟩,
 ⟨none, .store 2 (.t 4) (.t 23), none⟩,
 ⟨(some 5), .mv (.c (.int .i64 3)), none⟩] [4, 5])
 .ret)
 .skip))
 (.seq (.ops [
 ⟨(some 24), .load (some 2) (.t 7), none⟩,
 ⟨none, .store 2 (.t 4) (.t 24), none⟩,
 ⟨(some 5), .mv (.c (.int .i64 0)), none⟩] [4, 5])
 .ret)))))),
 [.c 4 (some 2), .t 5]⟩
-- aneroid/aneroidref01.Shrink
def c30 : CF := ⟨58,
 (.seq (.ops [
 ⟨(some 4), .box false 25 10 (.t 0), none⟩,
 ⟨(some 5), .box false 32 3 (.t 1), none⟩,
 ⟨(some 8), .alloc 32 3 [.int .i64 0, .int .i64 0, .int .i64 0], none⟩,
 ⟨(some 9), .mv (.c (.int .i64 0)), none⟩] [2, 3, 4, 5, 8])
 (.seq (.ops [
 ⟨(some 12), .load (some 10) (.t 4), none⟩,
 ⟨(some 13), .load (some 3) (.t 5), none⟩,
 ⟨(some 14), .call (.f 81) [(.t 12), (.t 13)], none⟩,
 ⟨(some 10), .mv (.t 14), none⟩] [2, 3, 4, 5, 8, 10])
 (.seq (.seq (.ops [
 ⟨(some 15), .mv (.t 10), none⟩,
 ⟨(some 16), .bin .neq (.t 15) (.c (.int .i64 0)), none⟩] [2, 3, 4, 5, 8, 10, 16])
 (.cond (.t 16) (.seq (.ops [
 ⟨(some 17), .build [.int .i64 0, .int .i64 0, .int .i64 0] [], none⟩,
 ⟨(some 18), .mv (.t 10), none⟩,
 ⟨none, .store 3 (.t 8) (.t 17), none⟩,
 ⟨(some 9), .mv (.t 18), none⟩] [8, 9])
 .ret)
 .skip))
 (.seq (.seq (.ops [
 ⟨(some 19), .mv (.t 2), none⟩,
 ⟨(some 20), .faddr 6 (.t 4), none⟩,
 ⟨(some 21), .faddr 0 (.t 20), none⟩,
 ⟨(some 22), .load none (.t 21), none⟩,
 ⟨(some 23), .faddr 6 (.t 4), none⟩,
 ⟨(some 24), .faddr 1 (.t 23), none⟩,
 ⟨(some 25), .load none (.t 24), none⟩,
 ⟨(some 26), .call (.f 76) [(.t 19), (.t 22), (.t 25)], none⟩,
 ⟨(some 27), .un .not (.t 26), none⟩,
 ⟨(some 28), .mv (.t 27), none⟩,
 ⟨(some 29), .mv (.t 3), (some (28, false))⟩,
 ⟨(some 30), .faddr 8 (.t 4), (some (28, false))⟩,
 ⟨(some 31), .faddr 0 (.t 30), (some (28, false))⟩,
 ⟨(some 32), .load none (.t 31), (some (28, false))⟩,
 ⟨(some 33), .faddr 8 (.t 4), (some (28, false))⟩,
 ⟨(some 34), .faddr 1 (.t 33), (some (28, false))⟩,
 ⟨(some 35), .load none (.t 34), (some (28, false))⟩,
 ⟨(some 36), .call (.f 76) [(.t 29), (.t 32), (.t 35)], (some (28, false))⟩,
 ⟨(some 37), .un .not (.t 36), (some (28, false))⟩,
 ⟨(some 38), .pick (.t 28) (.c (.bool true)) (.t 37), none⟩] [2, 3, 5, 8, 38])
 (.cond (.t 38) (.seq (.ops [
 ⟨(some 39), .build [.int .i64 0, .int .i64 0, .int .i64 0] [], none⟩,
 ⟨none, .store 3 (.t 8) (.t 39), none⟩,
 ⟨(some 9), .mv (.c (.int .i64 1)), none⟩] [8, 9])
 .ret)
 .skip))
 (.seq (.draw [
 ⟨(some 40), .faddr 0 (.t 5), none⟩,
 ⟨(some 41), .load none (.t 40), none⟩,
 ⟨(some 42), .mv (.t 2), none⟩,
 ⟨(some 43), .bin .mul (.t 41) (.t 42), none⟩,
 ⟨(some 44), .call (.f 84) [(.t 43), (.c (.int .i64 1000))], none⟩,
 ⟨(some 45), .faddr 1 (.t 5), none⟩,
 ⟨(some 46), .load none (.t 45), none⟩,
 ⟨(some 47), .mv (.t 3), none⟩,
 ⟨(some 48), .bin .mul (.t 46) (.t 47), none⟩,
 ⟨(some 49), .call (.f 84) [(.t 48), (.c (.int .i64 1000))], none⟩,
 ⟨(some 50), .faddr 2 (.t 5), none⟩,
 ⟨(some 51), .load none (.t 50), none⟩,
 ⟨(some 52), .build [.int .i64 0, .int .i64 0, .int .i64 0] [(0, 1, (.t 44)), (1, 1, (.t 49)), (2, 1, (.t 51))], none⟩,
 ⟨(some 11), .alloc 32 3 [.int .i64 0, .int .i64 0, .int .i64 0], none⟩] [
 ⟨none, .store 3 (.t 11) (.t 52), none⟩] [8, 11])
 (.seq (.seq (.ops [
 ⟨(some 53), .load (some 3) (.t 11), none⟩,
 ⟨(some 54), .call (.f 85) [(.t 53)], none⟩,
 ⟨(some 55), .un .not (.t 54), none⟩] [8, 11, 55])
 (.cond (.t 55) (.seq (.ops [
 ⟨(some 56), .build [.int .i64 0, .int .i64 0, .int .i64 0] [], none⟩,
 ⟨none, .store 3 (.t 8) (.t 56), none⟩,
 ⟨(some 9), .mv (.c (.int .i64 2)), none⟩] [8, 9])
 .ret)
 .skip))
 (.seq (.ops [
 ⟨(some 57), .load (some 3) (.t 11), none⟩,
 ⟨none, .store 3 (.t 8) (.t 57), none⟩,
 ⟨(some 9), .mv (.c (.int .i64 0)), none⟩] [8, 9])
 .ret))))))),
 [.c 8 (some 3), .t 9]⟩
-- aneroid/aneroidref01.known
def c87 : CF := ⟨39,
 (.seq (.ops [
 ⟨(some 4), .box false 23 2 (.t 0), none⟩,
 ⟨(some 8), .alloc 23 2 [.int .i64 0, .int .i64 0], none⟩] [1, 2, 3, 4, 8])
 (.seq (.seq (.ops [
 ⟨(some 10), .mv (.t 1), none⟩,
 ⟨(some 11), .bin .eql (.t 10) (.c (.int .i64 (-1))), none⟩] [1, 2, 3, 4, 8, 11])
 (.cond (.t 11) (.seq (.ops [
 ⟨(some 12), .load (some 2) (.t 4), none⟩,
 ⟨none, .store 2 (.t 8) (.t 12), none⟩] [8])
 .ret)
 .skip))
 (.seq (.draw [
 ⟨(some 13), .faddr 0 (.t 4), none⟩,
 ⟨(some 14), .load none (.t 13), none⟩,
 ⟨(some 15), .mv (.t 2), none⟩,
 ⟨(some 16), .mv (.t 3), none⟩,
 ⟨(some 17), .bin .sub (.t 15) (.t 16), none⟩,
 ⟨(some 18), .bin .mul (.t 17) (.c (.int .i64 1000)), none⟩,
 ⟨(some 19), .mv (.t 1), none⟩,
 ⟨(some 20), .bin .add (.t 19) (.c (.int .i64 1)), none⟩,
 ⟨(some 21), .call (.f 84) [(.t 18), (.t 20)], none⟩,
 ⟨(some 22), .mnx true (.t 14) (.t 21), none⟩,
 ⟨(some 23), .faddr 1 (.t 4), none⟩,
 ⟨(some 24), .load none (.t 23), none⟩,
 ⟨(some 25), .build [.int .i64 0, .int .i64 0] [(0, 1, (.t 22)), (1, 1, (.t 24))], none⟩,
 ⟨(some 9), .alloc 23 2 [.int .i64 0, .int .i64 0], none⟩] [
 ⟨none, .store 2 (.t 9) (.t 25), none⟩] [1, 2, 3, 4, 8, 9])
 (.seq (.seq (.ops [
 ⟨(some 26), .mv (.t 1), none⟩,
 ⟨(some 27), .bin .gtr (.t 26) (.c (.int .i64 0)), none⟩] [1, 2, 3, 4, 8, 9, 27])
 (.cond (.t 27) (.draw [
 ⟨(some 28), .faddr 1 (.t 4), none⟩,
 ⟨(some 29), .load none (.t 28), none⟩,
 ⟨(some 30), .mv (.t 2), none⟩,
 ⟨(some 31), .mv (.t 3), none⟩,
 ⟨(some 32), .bin .add (.t 30) (.t 31), none⟩,
 ⟨(some 33), .bin .mul (.t 32) (.c (.int .i64 1000)), none⟩,
 ⟨(some 34), .mv (.t 1), none⟩,
 ⟨(some 35), .call (.f 80) [(.t 33), (.t 34)], none⟩,
 ⟨(some 36), .mnx false (.t 29) (.t 35), none⟩,
 ⟨(some 37), .faddr 1 (.t 9), none⟩] [
 ⟨none, .store 1 (.t 37) (.t 36), none⟩] [8, 9])
 .skip))
 (.seq (.ops [
 ⟨(some 38), .load (some 2) (.t 9), none⟩,
 ⟨none, .store 2 (.t 8) (.t 38), none⟩] [8])
 .ret))))),
 [.c 8 (some 2)]⟩
-- aneroid/aneroidref01.Calibrate
def c32 : CF := ⟨65,
 (.seq (.ops [
 ⟨(some 4), .box false 25 10 (.t 0), none⟩,
 ⟨(some 7), .box false 32 3 (.t 3), none⟩,
 ⟨(some 8), .alloc 25 10 [.int .i64 0, .int .i64 0, .int .i64 0, .int .i64 0, .int .i64 0, .int .i64 0, .int .i64 0, .int .i64 0, .int .i64 0, .int .i64 0], none⟩,
 ⟨(some 9), .mv (.c (.int .i64 0)), none⟩] [1, 2, 4, 7, 8])
 (.seq (.ops [
 ⟨(some 12), .load (some 10) (.t 4), none⟩,
 ⟨(some 13), .load (some 3) (.t 7), none⟩,
 ⟨(some 14), .call (.f 81) [(.t 12), (.t 13)], none⟩,
 ⟨(some 10), .mv (.t 14), none⟩] [1, 2, 4, 7, 8, 10])
 (.seq (.seq (.ops [
 ⟨(some 15), .mv (.t 10), none⟩,
 ⟨(some 16), .bin .neq (.t 15) (.c (.int .i64 0)), none⟩] [1, 2, 4, 7, 8, 10, 16])
 (.cond (.t 16) (.seq (.ops [
 ⟨(some 17), .build [.int .i64 0, .int .i64 0, .int .i64 0, .int .i64 0, .int .i64 0, .int .i64 0, .int .i64 0, .int .i64 0, .int .i64 0, .int .i64 0] [], none⟩,
 ⟨(some 18), .mv (.t 10), none⟩,
 ⟨none, .store 10 (.t 8) (.t 17), none⟩,
 ⟨(some 9), .mv (.t 18), none⟩] [8, 9])
 .ret)
 .skip))
 (.seq (.seq (.ops [
 ⟨(some 19), .mv (.t 1), none⟩,
 ⟨(some 20), .call (.f 76) [(.t 19), (.c (.int .i64 (-1))), (.c (.int .i64 800000))], none⟩,
 ⟨(some 21), .un .not (.t 20), none⟩,
 ⟨(some 22), .mv (.t 21), none⟩,
 ⟨(some 23), .mv (.t 2), (some (22, false))⟩,
 ⟨(some 24), .call (.f 76) [(.t 23), (.c (.int .i64 (-1))), (.c (.int .i64 800000))], (some (22, false))⟩,
 ⟨(some 25), .un .not (.t 24), (some (22, false))⟩,
 ⟨(some 26), .pick (.t 22) (.c (.bool true)) (.t 25), none⟩] [1, 2, 4, 7, 8, 26])
 (.cond (.t 26) (.seq (.ops [
 ⟨(some 27), .build [.int .i64 0, .int .i64 0, .int .i64 0, .int .i64 0, .int .i64 0, .int .i64 0, .int .i64 0, .int .i64 0, .int .i64 0, .int .i64 0] [], none⟩,
 ⟨none, .store 10 (.t 8) (.t 27), none⟩,
 ⟨(some 9), .mv (.c (.int .i64 1)), none⟩] [8, 9])
 .ret)
 .skip))
 (.seq (.ops [
 ⟨(some 28), .load (some 10) (.t 4), none⟩,
 ⟨(some 11), .alloc 25 10 [.int .i64 0, .int .i64 0, .int .i64 0, .int .i64 0, .int .i64 0, .int .i64 0, .int .i64 0, .int .i64 0, .int .i64 0, .int .i64 0], none⟩,
 ⟨none, .store 10 (.t 11) (.t 28), none⟩] [1, 2, 4, 7, 8, 11])
 (.seq (.ops [
 ⟨(some 29), .faddr 6 (.t 4), none⟩,
 ⟨(some 30), .load (some 2) (.t 29), none⟩,
 ⟨(some 31), .mv (.t 1), none⟩,
 ⟨(some 32), .faddr 0 (.t 7), none⟩,
 ⟨(some 33), .load none (.t 32), none⟩,
 ⟨(some 34), .faddr 2 (.t 7), none⟩,
 ⟨(some 35), .load none (.t 34), none⟩,
 ⟨(some 36), .call (.f 87) [(.t 30), (.t 31), (.t 33), (.t 35)], none⟩,
 ⟨(some 37), .faddr 6 (.t 11), none⟩,
 ⟨none, .store 2 (.t 37) (.t 36), none⟩] [2, 4, 7, 8, 11])
 (.seq (.ops [
 ⟨(some 38), .faddr 8 (.t 4), none⟩,
 ⟨(some 39), .load (some 2) (.t 38), none⟩,
 ⟨(some 40), .mv (.t 2), none⟩,
 ⟨(some 41), .faddr 1 (.t 7), none⟩,
 ⟨(some 42), .load none (.t 41), none⟩,
 ⟨(some 43), .faddr 2 (.t 7), none⟩,
 ⟨(some 44), .load none (.t 43), none⟩,
 ⟨(some 45), .call (.f 87) [(.t 39), (.t 40), (.t 42), (.t 44)], none⟩,
 ⟨(some 46), .faddr 8 (.t 11), none⟩,
 ⟨none, .store 2 (.t 46) (.t 45), none⟩] [8, 11])
 (.seq (.seq (.ops [
 ⟨(some 47), .faddr 6 (.t 11), none⟩,
 ⟨(some 48), .faddr 0 (.t 47), none⟩,
 ⟨(some 49), .load none (.t 48), none⟩,
 ⟨(some 50), .faddr 6 (.t 11), none⟩,
 ⟨(some 51), .faddr 1 (.t 50), none⟩,
 ⟨(some 52), .load none (.t 51), none⟩,
 ⟨(some 53), .bin .gtr (.t 49) (.t 52), none⟩,
 ⟨(some 54), .mv (.t 53), none⟩,
 ⟨(some 55), .faddr 8 (.t 11), (some (54, false))⟩,
 ⟨(some 56), .faddr 0 (.t 55), (some (54, false))⟩,
 ⟨(some 57), .load none (.t 56), (some (54, false))⟩,
 ⟨(some 58), .faddr 8 (.t 11), (some (54, false))⟩,
 ⟨(some 59), .faddr 1 (.t 58), (some (54, false))⟩,
 ⟨(some 60), .load none (.t 59), (some (54, false))⟩,
 ⟨(some 61), .bin .gtr (.t 57) (.t 60), (some (54, false))⟩,
 ⟨(some 62), .pick (.t 54) (.c (.bool true)) (.t 61), none⟩] [8, 11, 62])
 (.cond (.t 62) (.seq (.ops [
 ⟨(some 63), .build [.int .i64 0, .int .i64 0, .int .i64 0, .int .i64 0, .int .i64 0, .int .i64 0, .int .i64 0, .int .i64 0, .int .i64 0, .int .i64 0] [], none⟩,
 ⟨none, .store 10 (.t 8) (.t 63), none⟩,
 ⟨(some 9), .mv (.c (.int .i64 3)), none⟩] [8, 9])
 .ret)
 .skip))
 (.seq (.ops [
 ⟨(some 64), .load (some 10) (.t 11), none⟩,
 ⟨none, .store 10 (.t 8) (.t 64), none⟩,
 ⟨(some 9), .mv (.c (.int .i64 0)), none⟩] [8, 9])
 .ret))))))))),
 [.c 8 (some 10), .t 9]⟩

theorem k34 : chkF Try.prog Try.f34 c34 = true := by kernel_rfl
theorem k35 : chkF Try.prog Try.f35 c35 = true := by kernel_rfl
theorem k42 : chkF Try.prog Try.f42 c42 = true := by kernel_rfl
theorem k29 : chkF Try.prog Try.f29 c29 = true := by kernel_rfl
theorem k43 : chkF Try.prog Try.f43 c43 = true := by kernel_rfl
theorem k125 : chkF Try.prog Try.f125 c125 = true := by kernel_rfl
theorem k91 : chkF Try.prog Try.f91 c91 = true := by kernel_rfl
theorem k41 : chkF Try.prog Try.f41 c41 = true := by kernel_rfl
theorem k30 : chkF Try.prog Try.f30 c30 = true := by kernel_rfl
theorem k87 : chkF Try.prog Try.f87 c87 = true := by kernel_rfl
theorem k32 : chkF Try.prog Try.f32 c32 = true := by kernel_rfl

theorem Pp.good.al {p : Pp} (h : p.good) : p.al.ok := h.2.2.2.2.2.2.2.2.2.2.2.1
theorem Pp.good.cl {p : Pp} (h : p.good) : p.cl.ok := h.2.2.2.2.2.2.2.2.2.2.2.2

def Pp.Al (p : Pp) (t : Pt) : Sp × Int := if p.perr1 t = 0 then (p.along t, 0) else (⟨0, 0⟩, p.perr1 t)
def Pp.Ac (p : Pp) (t : Pt) : Sp × Int := if p.perr1 t = 0 then (p.across t, 0) else (⟨0, 0⟩, p.perr1 t)
def Pp.Lvs (p : Pp) (t : Pt) : Sp × Int := if p.perr1 t = 0 then (if (p.heights t).hi < (p.heights t).lo then (⟨0, 0⟩, 3) else (⟨p.level (p.heights t).lo, p.level (p.heights t).hi⟩, 0)) else (⟨0, 0⟩, p.perr1 t)

theorem along_bd (p : Pp) (t : Pt) (hg : p.good) (ht : t.right) : 0 ≤ (p.along t).lo ∧ (p.along t).lo ≤ 405000000 ∧ 0 ≤ (p.along t).hi ∧ (p.along t).hi ≤ 405000000 :=
  places_bd p.al t.x t.h hg.al ⟨ht.1, ht.2.1⟩ ⟨ht.2.2.2.2.1, ht.2.2.2.2.2⟩
theorem across_bd (p : Pp) (t : Pt) (hg : p.good) (ht : t.right) : 0 ≤ (p.across t).lo ∧ (p.across t).lo ≤ 405000000 ∧ 0 ≤ (p.across t).hi ∧ (p.across t).hi ≤ 405000000 :=
  places_bd p.cl t.y t.h hg.cl ⟨ht.2.2.1, ht.2.2.2.1⟩ ⟨ht.2.2.2.2.1, ht.2.2.2.2.2⟩
theorem heights_bd (p : Pp) (t : Pt) (hg : p.good) (ht : t.right) : 0 ≤ (p.heights t).lo ∧ (p.heights t).lo ≤ 405000000 ∧ 0 ≤ (p.heights t).hi ∧ (p.heights t).hi ≤ p.he := by
  have h := across_bd p t hg ht
  have := hg.2.2.1
  simp only [Pp.heights]
  omega

theorem Along_spec (p : Pp) (t : Pt) : Pure Try.prog 34 [.agg p.cs, .agg t.cs] (.tup [.agg (p.Al t).1.cs, n (p.Al t).2]) := by
  refine Pure.of_body Try.call34 Try.func34 k34 (Nat.le_of_ble_eq_true rfl) ?_
  have hz : p.perr1 t = 0 → p.orz = p := fun h => orz1 (perr0 h).1
  unfold c34
  by_cases h : p.perr1 t = 0
  · obtain ⟨hg, ht⟩ := perr0 h
    have hz := orz1 hg
    (repeat' first
    | (refine AWPC.of_vcn rfl ?_; simp only [zT, drp, hasN, Bool.or_false, Bool.false_or, Bool.or_true, Bool.true_or, Classical.not_not, zS, vcC, exs, exd, pickV, alS, Al.ob, grd, ex, ov, gt, argE, strp, cnd, sideL, I.os, st, wrap, keep, binA, kseq, kblk, kret, klp, resL, res1, one, ocalls, obj, elems, cells, scalar, vs, pick1, fillA, splice, chop, eqC, Nat.reduceBEq, Nat.reduceAdd, Nat.reduceSub, Nat.reduceLT, Nat.reduceLeDiff, Nat.reduceMul, Nat.reduceEqDiff, cond_true, cond_false, if_true, if_false, reduceIte, implies_true, forall_const, ne_eq, hz])
    | (simp (disch := omega) only [wr64, Int.zero_sub]; try simp only [zT, drp, hasN, Bool.or_false, Bool.false_or, Bool.or_true, Bool.true_or, Classical.not_not, zS, vcC, exs, exd, pickV, alS, Al.ob, grd, ex, ov, gt, argE, strp, cnd, sideL, I.os, st, wrap, keep, binA, kseq, kblk, kret, klp, resL, res1, one, ocalls, obj, elems, cells, scalar, vs, pick1, fillA, splice, chop, eqC, Nat.reduceBEq, Nat.reduceAdd, Nat.reduceSub, Nat.reduceLT, Nat.reduceLeDiff, Nat.reduceMul, Nat.reduceEqDiff, cond_true, cond_false, if_true, if_false, reduceIte, implies_true, forall_const, ne_eq, hz])
    | (refine AWPC.both (fun _ => ?_) (fun _ => ?_))
    | (refine AWPC.imp (fun _ => ?_))
    | ((repeat (refine And.intro (by (intros; simp_all (config := { decide := false }); done)) ?_)); (first
      | (refine .inl ⟨_, _, _, _, rfl, fun _hc => ⟨by simp, read1_spec p t⟩, ?_⟩)
      | (refine .inl ⟨_, _, _, _, rfl, fun _hc => ⟨by simp, along_spec p t hg ht⟩, ?_⟩)
      | (refine ⟨_, _, _, _, rfl, fun _hc => ⟨by simp, read1_spec p t⟩, ?_⟩)
      | (refine ⟨_, _, _, _, rfl, fun _hc => ⟨by simp, along_spec p t hg ht⟩, ?_⟩)
      | fail); (first | (refine owp_of_exs ?_; simp only [zT, drp, hasN, Bool.or_false, Bool.false_or, Bool.or_true, Bool.true_or, Classical.not_not, zS, vcC, exs, exd, pickV, alS, Al.ob, grd, ex, ov, gt, argE, strp, cnd, sideL, I.os, st, wrap, keep, binA, kseq, kblk, kret, klp, resL, res1, one, ocalls, obj, elems, cells, scalar, vs, pick1, fillA, splice, chop, eqC, Nat.reduceBEq, Nat.reduceAdd, Nat.reduceSub, Nat.reduceLT, Nat.reduceLeDiff, Nat.reduceMul, Nat.reduceEqDiff, cond_true, cond_false, if_true, if_false, reduceIte, implies_true, forall_const, ne_eq, hz]) | (refine pre_of_exd ?_; simp only [zT, drp, hasN, Bool.or_false, Bool.false_or, Bool.or_true, Bool.true_or, Classical.not_not, zS, vcC, exs, exd, pickV, alS, Al.ob, grd, ex, ov, gt, argE, strp, cnd, sideL, I.os, st, wrap, keep, binA, kseq, kblk, kret, klp, resL, res1, one, ocalls, obj, elems, cells, scalar, vs, pick1, fillA, splice, chop, eqC, Nat.reduceBEq, Nat.reduceAdd, Nat.reduceSub, Nat.reduceLT, Nat.reduceLeDiff, Nat.reduceMul, Nat.reduceEqDiff, cond_true, cond_false, if_true, if_false, reduceIte, implies_true, forall_const, ne_eq, hz]) | fail))
    | ((refine .inl ⟨_, _, _, .any, rfl, fun h => absurd h Bool.false_ne_true, ?_⟩); (first | (refine owp_of_exs ?_; simp only [zT, drp, hasN, Bool.or_false, Bool.false_or, Bool.or_true, Bool.true_or, Classical.not_not, zS, vcC, exs, exd, pickV, alS, Al.ob, grd, ex, ov, gt, argE, strp, cnd, sideL, I.os, st, wrap, keep, binA, kseq, kblk, kret, klp, resL, res1, one, ocalls, obj, elems, cells, scalar, vs, pick1, fillA, splice, chop, eqC, Nat.reduceBEq, Nat.reduceAdd, Nat.reduceSub, Nat.reduceLT, Nat.reduceLeDiff, Nat.reduceMul, Nat.reduceEqDiff, cond_true, cond_false, if_true, if_false, reduceIte, implies_true, forall_const, ne_eq, hz]) | fail))
    | (refine ⟨by omega, ?_⟩)
    | fail)
    · rename_i h'; exact absurd h h'
    · refine Frz.eq ?_ (by simp); simp [Pp.Al, h]
  · (repeat' first
    | (refine AWPC.of_vcn rfl ?_; simp only [zT, drp, hasN, Bool.or_false, Bool.false_or, Bool.or_true, Bool.true_or, Classical.not_not, zS, vcC, exs, exd, pickV, alS, Al.ob, grd, ex, ov, gt, argE, strp, cnd, sideL, I.os, st, wrap, keep, binA, kseq, kblk, kret, klp, resL, res1, one, ocalls, obj, elems, cells, scalar, vs, pick1, fillA, splice, chop, eqC, Nat.reduceBEq, Nat.reduceAdd, Nat.reduceSub, Nat.reduceLT, Nat.reduceLeDiff, Nat.reduceMul, Nat.reduceEqDiff, cond_true, cond_false, if_true, if_false, reduceIte, implies_true, forall_const, ne_eq])
    | (simp (disch := omega) only [wr64, Int.zero_sub]; try simp only [zT, drp, hasN, Bool.or_false, Bool.false_or, Bool.or_true, Bool.true_or, Classical.not_not, zS, vcC, exs, exd, pickV, alS, Al.ob, grd, ex, ov, gt, argE, strp, cnd, sideL, I.os, st, wrap, keep, binA, kseq, kblk, kret, klp, resL, res1, one, ocalls, obj, elems, cells, scalar, vs, pick1, fillA, splice, chop, eqC, Nat.reduceBEq, Nat.reduceAdd, Nat.reduceSub, Nat.reduceLT, Nat.reduceLeDiff, Nat.reduceMul, Nat.reduceEqDiff, cond_true, cond_false, if_true, if_false, reduceIte, implies_true, forall_const, ne_eq])
    | (refine AWPC.both (fun _ => ?_) (fun _ => ?_))
    | (refine AWPC.imp (fun _ => ?_))
    | ((repeat (refine And.intro (by (intros; simp_all (config := { decide := false }); done)) ?_)); (first
      | (refine .inl ⟨_, _, _, _, rfl, fun _hc => ⟨by simp, read1_spec p t⟩, ?_⟩)
      | (refine ⟨_, _, _, _, rfl, fun _hc => ⟨by simp, read1_spec p t⟩, ?_⟩)
      | fail); (first | (refine owp_of_exs ?_; simp only [zT, drp, hasN, Bool.or_false, Bool.false_or, Bool.or_true, Bool.true_or, Classical.not_not, zS, vcC, exs, exd, pickV, alS, Al.ob, grd, ex, ov, gt, argE, strp, cnd, sideL, I.os, st, wrap, keep, binA, kseq, kblk, kret, klp, resL, res1, one, ocalls, obj, elems, cells, scalar, vs, pick1, fillA, splice, chop, eqC, Nat.reduceBEq, Nat.reduceAdd, Nat.reduceSub, Nat.reduceLT, Nat.reduceLeDiff, Nat.reduceMul, Nat.reduceEqDiff, cond_true, cond_false, if_true, if_false, reduceIte, implies_true, forall_const, ne_eq]) | (refine pre_of_exd ?_; simp only [zT, drp, hasN, Bool.or_false, Bool.false_or, Bool.or_true, Bool.true_or, Classical.not_not, zS, vcC, exs, exd, pickV, alS, Al.ob, grd, ex, ov, gt, argE, strp, cnd, sideL, I.os, st, wrap, keep, binA, kseq, kblk, kret, klp, resL, res1, one, ocalls, obj, elems, cells, scalar, vs, pick1, fillA, splice, chop, eqC, Nat.reduceBEq, Nat.reduceAdd, Nat.reduceSub, Nat.reduceLT, Nat.reduceLeDiff, Nat.reduceMul, Nat.reduceEqDiff, cond_true, cond_false, if_true, if_false, reduceIte, implies_true, forall_const, ne_eq]) | fail))
    | ((refine .inl ⟨_, _, _, .any, rfl, fun h => absurd h Bool.false_ne_true, ?_⟩); (first | (refine owp_of_exs ?_; simp only [zT, drp, hasN, Bool.or_false, Bool.false_or, Bool.or_true, Bool.true_or, Classical.not_not, zS, vcC, exs, exd, pickV, alS, Al.ob, grd, ex, ov, gt, argE, strp, cnd, sideL, I.os, st, wrap, keep, binA, kseq, kblk, kret, klp, resL, res1, one, ocalls, obj, elems, cells, scalar, vs, pick1, fillA, splice, chop, eqC, Nat.reduceBEq, Nat.reduceAdd, Nat.reduceSub, Nat.reduceLT, Nat.reduceLeDiff, Nat.reduceMul, Nat.reduceEqDiff, cond_true, cond_false, if_true, if_false, reduceIte, implies_true, forall_const, ne_eq]) | fail))
    | (refine ⟨by omega, ?_⟩)
    | fail)
    · refine Frz.eq ?_ (by simp); simp [Pp.Al, h]
    · rename_i h'; exact absurd h' h

theorem Across_spec (p : Pp) (t : Pt) : Pure Try.prog 35 [.agg p.cs, .agg t.cs] (.tup [.agg (p.Ac t).1.cs, n (p.Ac t).2]) := by
  refine Pure.of_body Try.call35 Try.func35 k35 (Nat.le_of_ble_eq_true rfl) ?_
  unfold c35
  by_cases h : p.perr1 t = 0
  · obtain ⟨hg, ht⟩ := perr0 h
    have hz := orz1 hg
    (repeat' first
    | (refine AWPC.of_vcn rfl ?_; simp only [zT, drp, hasN, Bool.or_false, Bool.false_or, Bool.or_true, Bool.true_or, Classical.not_not, zS, vcC, exs, exd, pickV, alS, Al.ob, grd, ex, ov, gt, argE, strp, cnd, sideL, I.os, st, wrap, keep, binA, kseq, kblk, kret, klp, resL, res1, one, ocalls, obj, elems, cells, scalar, vs, pick1, fillA, splice, chop, eqC, Nat.reduceBEq, Nat.reduceAdd, Nat.reduceSub, Nat.reduceLT, Nat.reduceLeDiff, Nat.reduceMul, Nat.reduceEqDiff, cond_true, cond_false, if_true, if_false, reduceIte, implies_true, forall_const, ne_eq, hz])
    | (simp (disch := omega) only [wr64, Int.zero_sub]; try simp only [zT, drp, hasN, Bool.or_false, Bool.false_or, Bool.or_true, Bool.true_or, Classical.not_not, zS, vcC, exs, exd, pickV, alS, Al.ob, grd, ex, ov, gt, argE, strp, cnd, sideL, I.os, st, wrap, keep, binA, kseq, kblk, kret, klp, resL, res1, one, ocalls, obj, elems, cells, scalar, vs, pick1, fillA, splice, chop, eqC, Nat.reduceBEq, Nat.reduceAdd, Nat.reduceSub, Nat.reduceLT, Nat.reduceLeDiff, Nat.reduceMul, Nat.reduceEqDiff, cond_true, cond_false, if_true, if_false, reduceIte, implies_true, forall_const, ne_eq, hz])
    | (refine AWPC.both (fun _ => ?_) (fun _ => ?_))
    | (refine AWPC.imp (fun _ => ?_))
    | ((repeat (refine And.intro (by (intros; simp_all (config := { decide := false }); done)) ?_)); (first
      | (refine .inl ⟨_, _, _, _, rfl, fun _hc => ⟨by simp, read1_spec p t⟩, ?_⟩)
      | (refine .inl ⟨_, _, _, _, rfl, fun _hc => ⟨by simp, across_spec p t hg ht⟩, ?_⟩)
      | (refine ⟨_, _, _, _, rfl, fun _hc => ⟨by simp, read1_spec p t⟩, ?_⟩)
      | (refine ⟨_, _, _, _, rfl, fun _hc => ⟨by simp, across_spec p t hg ht⟩, ?_⟩)
      | fail); (first | (refine owp_of_exs ?_; simp only [zT, drp, hasN, Bool.or_false, Bool.false_or, Bool.or_true, Bool.true_or, Classical.not_not, zS, vcC, exs, exd, pickV, alS, Al.ob, grd, ex, ov, gt, argE, strp, cnd, sideL, I.os, st, wrap, keep, binA, kseq, kblk, kret, klp, resL, res1, one, ocalls, obj, elems, cells, scalar, vs, pick1, fillA, splice, chop, eqC, Nat.reduceBEq, Nat.reduceAdd, Nat.reduceSub, Nat.reduceLT, Nat.reduceLeDiff, Nat.reduceMul, Nat.reduceEqDiff, cond_true, cond_false, if_true, if_false, reduceIte, implies_true, forall_const, ne_eq, hz]) | (refine pre_of_exd ?_; simp only [zT, drp, hasN, Bool.or_false, Bool.false_or, Bool.or_true, Bool.true_or, Classical.not_not, zS, vcC, exs, exd, pickV, alS, Al.ob, grd, ex, ov, gt, argE, strp, cnd, sideL, I.os, st, wrap, keep, binA, kseq, kblk, kret, klp, resL, res1, one, ocalls, obj, elems, cells, scalar, vs, pick1, fillA, splice, chop, eqC, Nat.reduceBEq, Nat.reduceAdd, Nat.reduceSub, Nat.reduceLT, Nat.reduceLeDiff, Nat.reduceMul, Nat.reduceEqDiff, cond_true, cond_false, if_true, if_false, reduceIte, implies_true, forall_const, ne_eq, hz]) | fail))
    | ((refine .inl ⟨_, _, _, .any, rfl, fun h => absurd h Bool.false_ne_true, ?_⟩); (first | (refine owp_of_exs ?_; simp only [zT, drp, hasN, Bool.or_false, Bool.false_or, Bool.or_true, Bool.true_or, Classical.not_not, zS, vcC, exs, exd, pickV, alS, Al.ob, grd, ex, ov, gt, argE, strp, cnd, sideL, I.os, st, wrap, keep, binA, kseq, kblk, kret, klp, resL, res1, one, ocalls, obj, elems, cells, scalar, vs, pick1, fillA, splice, chop, eqC, Nat.reduceBEq, Nat.reduceAdd, Nat.reduceSub, Nat.reduceLT, Nat.reduceLeDiff, Nat.reduceMul, Nat.reduceEqDiff, cond_true, cond_false, if_true, if_false, reduceIte, implies_true, forall_const, ne_eq, hz]) | fail))
    | (refine ⟨by omega, ?_⟩)
    | fail)
    · rename_i h'; exact absurd h h'
    · refine Frz.eq ?_ (by simp); simp [Pp.Ac, h]
  · (repeat' first
    | (refine AWPC.of_vcn rfl ?_; simp only [zT, drp, hasN, Bool.or_false, Bool.false_or, Bool.or_true, Bool.true_or, Classical.not_not, zS, vcC, exs, exd, pickV, alS, Al.ob, grd, ex, ov, gt, argE, strp, cnd, sideL, I.os, st, wrap, keep, binA, kseq, kblk, kret, klp, resL, res1, one, ocalls, obj, elems, cells, scalar, vs, pick1, fillA, splice, chop, eqC, Nat.reduceBEq, Nat.reduceAdd, Nat.reduceSub, Nat.reduceLT, Nat.reduceLeDiff, Nat.reduceMul, Nat.reduceEqDiff, cond_true, cond_false, if_true, if_false, reduceIte, implies_true, forall_const, ne_eq])
    | (simp (disch := omega) only [wr64, Int.zero_sub]; try simp only [zT, drp, hasN, Bool.or_false, Bool.false_or, Bool.or_true, Bool.true_or, Classical.not_not, zS, vcC, exs, exd, pickV, alS, Al.ob, grd, ex, ov, gt, argE, strp, cnd, sideL, I.os, st, wrap, keep, binA, kseq, kblk, kret, klp, resL, res1, one, ocalls, obj, elems, cells, scalar, vs, pick1, fillA, splice, chop, eqC, Nat.reduceBEq, Nat.reduceAdd, Nat.reduceSub, Nat.reduceLT, Nat.reduceLeDiff, Nat.reduceMul, Nat.reduceEqDiff, cond_true, cond_false, if_true, if_false, reduceIte, implies_true, forall_const, ne_eq])
    | (refine AWPC.both (fun _ => ?_) (fun _ => ?_))
    | (refine AWPC.imp (fun _ => ?_))
    | ((repeat (refine And.intro (by (intros; simp_all (config := { decide := false }); done)) ?_)); (first
      | (refine .inl ⟨_, _, _, _, rfl, fun _hc => ⟨by simp, read1_spec p t⟩, ?_⟩)
      | (refine ⟨_, _, _, _, rfl, fun _hc => ⟨by simp, read1_spec p t⟩, ?_⟩)
      | fail); (first | (refine owp_of_exs ?_; simp only [zT, drp, hasN, Bool.or_false, Bool.false_or, Bool.or_true, Bool.true_or, Classical.not_not, zS, vcC, exs, exd, pickV, alS, Al.ob, grd, ex, ov, gt, argE, strp, cnd, sideL, I.os, st, wrap, keep, binA, kseq, kblk, kret, klp, resL, res1, one, ocalls, obj, elems, cells, scalar, vs, pick1, fillA, splice, chop, eqC, Nat.reduceBEq, Nat.reduceAdd, Nat.reduceSub, Nat.reduceLT, Nat.reduceLeDiff, Nat.reduceMul, Nat.reduceEqDiff, cond_true, cond_false, if_true, if_false, reduceIte, implies_true, forall_const, ne_eq]) | (refine pre_of_exd ?_; simp only [zT, drp, hasN, Bool.or_false, Bool.false_or, Bool.or_true, Bool.true_or, Classical.not_not, zS, vcC, exs, exd, pickV, alS, Al.ob, grd, ex, ov, gt, argE, strp, cnd, sideL, I.os, st, wrap, keep, binA, kseq, kblk, kret, klp, resL, res1, one, ocalls, obj, elems, cells, scalar, vs, pick1, fillA, splice, chop, eqC, Nat.reduceBEq, Nat.reduceAdd, Nat.reduceSub, Nat.reduceLT, Nat.reduceLeDiff, Nat.reduceMul, Nat.reduceEqDiff, cond_true, cond_false, if_true, if_false, reduceIte, implies_true, forall_const, ne_eq]) | fail))
    | ((refine .inl ⟨_, _, _, .any, rfl, fun h => absurd h Bool.false_ne_true, ?_⟩); (first | (refine owp_of_exs ?_; simp only [zT, drp, hasN, Bool.or_false, Bool.false_or, Bool.or_true, Bool.true_or, Classical.not_not, zS, vcC, exs, exd, pickV, alS, Al.ob, grd, ex, ov, gt, argE, strp, cnd, sideL, I.os, st, wrap, keep, binA, kseq, kblk, kret, klp, resL, res1, one, ocalls, obj, elems, cells, scalar, vs, pick1, fillA, splice, chop, eqC, Nat.reduceBEq, Nat.reduceAdd, Nat.reduceSub, Nat.reduceLT, Nat.reduceLeDiff, Nat.reduceMul, Nat.reduceEqDiff, cond_true, cond_false, if_true, if_false, reduceIte, implies_true, forall_const, ne_eq]) | fail))
    | (refine ⟨by omega, ?_⟩)
    | fail)
    · refine Frz.eq ?_ (by simp); simp [Pp.Ac, h]
    · rename_i h'; exact absurd h' h

theorem Levels_spec (p : Pp) (t : Pt) : Pure Try.prog 42 [.agg p.cs, .agg t.cs] (.tup [.agg (p.Lvs t).1.cs, n (p.Lvs t).2]) := by
  refine Pure.of_body Try.call42 Try.func42 k42 (Nat.le_of_ble_eq_true rfl) ?_
  unfold c42
  by_cases h : p.perr1 t = 0
  · obtain ⟨hg, ht⟩ := perr0 h
    have hz := orz1 hg
    have hb := heights_bd p t hg ht
    (repeat' first
    | (refine AWPC.of_vcn rfl ?_; simp only [zT, drp, hasN, Bool.or_false, Bool.false_or, Bool.or_true, Bool.true_or, Classical.not_not, zS, vcC, exs, exd, pickV, alS, Al.ob, grd, ex, ov, gt, argE, strp, cnd, sideL, I.os, st, wrap, keep, binA, kseq, kblk, kret, klp, resL, res1, one, ocalls, obj, elems, cells, scalar, vs, pick1, fillA, splice, chop, eqC, Nat.reduceBEq, Nat.reduceAdd, Nat.reduceSub, Nat.reduceLT, Nat.reduceLeDiff, Nat.reduceMul, Nat.reduceEqDiff, cond_true, cond_false, if_true, if_false, reduceIte, implies_true, forall_const, ne_eq, hz])
    | (simp (disch := omega) only [wr64, Int.zero_sub]; try simp only [zT, drp, hasN, Bool.or_false, Bool.false_or, Bool.or_true, Bool.true_or, Classical.not_not, zS, vcC, exs, exd, pickV, alS, Al.ob, grd, ex, ov, gt, argE, strp, cnd, sideL, I.os, st, wrap, keep, binA, kseq, kblk, kret, klp, resL, res1, one, ocalls, obj, elems, cells, scalar, vs, pick1, fillA, splice, chop, eqC, Nat.reduceBEq, Nat.reduceAdd, Nat.reduceSub, Nat.reduceLT, Nat.reduceLeDiff, Nat.reduceMul, Nat.reduceEqDiff, cond_true, cond_false, if_true, if_false, reduceIte, implies_true, forall_const, ne_eq, hz])
    | (refine AWPC.both (fun _ => ?_) (fun _ => ?_))
    | (refine AWPC.imp (fun _ => ?_))
    | ((repeat (refine And.intro (by (intros; simp_all (config := { decide := false }); done)) ?_)); (first
      | (refine .inl ⟨_, _, _, _, rfl, fun _hc => ⟨by simp, read1_spec p t⟩, ?_⟩)
      | (refine .inl ⟨_, _, _, _, rfl, fun _hc => ⟨by simp, heights_spec p t hg ht⟩, ?_⟩)
      | (refine .inl ⟨_, _, _, _, rfl, fun _hc => ⟨by simp, level_spec p _ hg (by omega) (by omega)⟩, ?_⟩)
      | (refine ⟨_, _, _, _, rfl, fun _hc => ⟨by simp, read1_spec p t⟩, ?_⟩)
      | (refine ⟨_, _, _, _, rfl, fun _hc => ⟨by simp, heights_spec p t hg ht⟩, ?_⟩)
      | (refine ⟨_, _, _, _, rfl, fun _hc => ⟨by simp, level_spec p _ hg (by omega) (by omega)⟩, ?_⟩)
      | fail); (first | (refine owp_of_exs ?_; simp only [zT, drp, hasN, Bool.or_false, Bool.false_or, Bool.or_true, Bool.true_or, Classical.not_not, zS, vcC, exs, exd, pickV, alS, Al.ob, grd, ex, ov, gt, argE, strp, cnd, sideL, I.os, st, wrap, keep, binA, kseq, kblk, kret, klp, resL, res1, one, ocalls, obj, elems, cells, scalar, vs, pick1, fillA, splice, chop, eqC, Nat.reduceBEq, Nat.reduceAdd, Nat.reduceSub, Nat.reduceLT, Nat.reduceLeDiff, Nat.reduceMul, Nat.reduceEqDiff, cond_true, cond_false, if_true, if_false, reduceIte, implies_true, forall_const, ne_eq, hz]) | (refine pre_of_exd ?_; simp only [zT, drp, hasN, Bool.or_false, Bool.false_or, Bool.or_true, Bool.true_or, Classical.not_not, zS, vcC, exs, exd, pickV, alS, Al.ob, grd, ex, ov, gt, argE, strp, cnd, sideL, I.os, st, wrap, keep, binA, kseq, kblk, kret, klp, resL, res1, one, ocalls, obj, elems, cells, scalar, vs, pick1, fillA, splice, chop, eqC, Nat.reduceBEq, Nat.reduceAdd, Nat.reduceSub, Nat.reduceLT, Nat.reduceLeDiff, Nat.reduceMul, Nat.reduceEqDiff, cond_true, cond_false, if_true, if_false, reduceIte, implies_true, forall_const, ne_eq, hz]) | fail))
    | ((refine .inl ⟨_, _, _, .any, rfl, fun h => absurd h Bool.false_ne_true, ?_⟩); (first | (refine owp_of_exs ?_; simp only [zT, drp, hasN, Bool.or_false, Bool.false_or, Bool.or_true, Bool.true_or, Classical.not_not, zS, vcC, exs, exd, pickV, alS, Al.ob, grd, ex, ov, gt, argE, strp, cnd, sideL, I.os, st, wrap, keep, binA, kseq, kblk, kret, klp, resL, res1, one, ocalls, obj, elems, cells, scalar, vs, pick1, fillA, splice, chop, eqC, Nat.reduceBEq, Nat.reduceAdd, Nat.reduceSub, Nat.reduceLT, Nat.reduceLeDiff, Nat.reduceMul, Nat.reduceEqDiff, cond_true, cond_false, if_true, if_false, reduceIte, implies_true, forall_const, ne_eq, hz]) | fail))
    | (refine ⟨by omega, ?_⟩)
    | fail)
    · rename_i h'; exact absurd h h'
    · rename_i h'; refine Frz.eq ?_ (by simp); simp [Pp.Lvs, h, h']
    · rename_i h'; refine Frz.eq ?_ (by simp); simp [Pp.Lvs, h, h']
  · (repeat' first
    | (refine AWPC.of_vcn rfl ?_; simp only [zT, drp, hasN, Bool.or_false, Bool.false_or, Bool.or_true, Bool.true_or, Classical.not_not, zS, vcC, exs, exd, pickV, alS, Al.ob, grd, ex, ov, gt, argE, strp, cnd, sideL, I.os, st, wrap, keep, binA, kseq, kblk, kret, klp, resL, res1, one, ocalls, obj, elems, cells, scalar, vs, pick1, fillA, splice, chop, eqC, Nat.reduceBEq, Nat.reduceAdd, Nat.reduceSub, Nat.reduceLT, Nat.reduceLeDiff, Nat.reduceMul, Nat.reduceEqDiff, cond_true, cond_false, if_true, if_false, reduceIte, implies_true, forall_const, ne_eq])
    | (simp (disch := omega) only [wr64, Int.zero_sub]; try simp only [zT, drp, hasN, Bool.or_false, Bool.false_or, Bool.or_true, Bool.true_or, Classical.not_not, zS, vcC, exs, exd, pickV, alS, Al.ob, grd, ex, ov, gt, argE, strp, cnd, sideL, I.os, st, wrap, keep, binA, kseq, kblk, kret, klp, resL, res1, one, ocalls, obj, elems, cells, scalar, vs, pick1, fillA, splice, chop, eqC, Nat.reduceBEq, Nat.reduceAdd, Nat.reduceSub, Nat.reduceLT, Nat.reduceLeDiff, Nat.reduceMul, Nat.reduceEqDiff, cond_true, cond_false, if_true, if_false, reduceIte, implies_true, forall_const, ne_eq])
    | (refine AWPC.both (fun _ => ?_) (fun _ => ?_))
    | (refine AWPC.imp (fun _ => ?_))
    | ((repeat (refine And.intro (by (intros; simp_all (config := { decide := false }); done)) ?_)); (first
      | (refine .inl ⟨_, _, _, _, rfl, fun _hc => ⟨by simp, read1_spec p t⟩, ?_⟩)
      | (refine ⟨_, _, _, _, rfl, fun _hc => ⟨by simp, read1_spec p t⟩, ?_⟩)
      | fail); (first | (refine owp_of_exs ?_; simp only [zT, drp, hasN, Bool.or_false, Bool.false_or, Bool.or_true, Bool.true_or, Classical.not_not, zS, vcC, exs, exd, pickV, alS, Al.ob, grd, ex, ov, gt, argE, strp, cnd, sideL, I.os, st, wrap, keep, binA, kseq, kblk, kret, klp, resL, res1, one, ocalls, obj, elems, cells, scalar, vs, pick1, fillA, splice, chop, eqC, Nat.reduceBEq, Nat.reduceAdd, Nat.reduceSub, Nat.reduceLT, Nat.reduceLeDiff, Nat.reduceMul, Nat.reduceEqDiff, cond_true, cond_false, if_true, if_false, reduceIte, implies_true, forall_const, ne_eq]) | (refine pre_of_exd ?_; simp only [zT, drp, hasN, Bool.or_false, Bool.false_or, Bool.or_true, Bool.true_or, Classical.not_not, zS, vcC, exs, exd, pickV, alS, Al.ob, grd, ex, ov, gt, argE, strp, cnd, sideL, I.os, st, wrap, keep, binA, kseq, kblk, kret, klp, resL, res1, one, ocalls, obj, elems, cells, scalar, vs, pick1, fillA, splice, chop, eqC, Nat.reduceBEq, Nat.reduceAdd, Nat.reduceSub, Nat.reduceLT, Nat.reduceLeDiff, Nat.reduceMul, Nat.reduceEqDiff, cond_true, cond_false, if_true, if_false, reduceIte, implies_true, forall_const, ne_eq]) | fail))
    | ((refine .inl ⟨_, _, _, .any, rfl, fun h => absurd h Bool.false_ne_true, ?_⟩); (first | (refine owp_of_exs ?_; simp only [zT, drp, hasN, Bool.or_false, Bool.false_or, Bool.or_true, Bool.true_or, Classical.not_not, zS, vcC, exs, exd, pickV, alS, Al.ob, grd, ex, ov, gt, argE, strp, cnd, sideL, I.os, st, wrap, keep, binA, kseq, kblk, kret, klp, resL, res1, one, ocalls, obj, elems, cells, scalar, vs, pick1, fillA, splice, chop, eqC, Nat.reduceBEq, Nat.reduceAdd, Nat.reduceSub, Nat.reduceLT, Nat.reduceLeDiff, Nat.reduceMul, Nat.reduceEqDiff, cond_true, cond_false, if_true, if_false, reduceIte, implies_true, forall_const, ne_eq]) | fail))
    | (refine ⟨by omega, ?_⟩)
    | fail)
    · refine Frz.eq ?_ (by simp); simp [Pp.Lvs, h]
    · rename_i h'; exact absurd h' h

theorem rAlong_spec (p : Pp) (t : Pt) : Pure Try.prog 39 [.agg p.cs, .agg t.cs] (.tup [.agg (p.Al t).1.cs, n (p.Al t).2]) := by
  refine Pure.of_body Try.call39 Try.func39 k39 (Nat.le_of_ble_eq_true rfl) ?_
  unfold c39
  by_cases h : p.perr1 t = 0
  · obtain ⟨hg, ht⟩ := perr0 h
    (repeat' first
    | (refine AWPC.of_vcn rfl ?_; simp only [zT, drp, hasN, Bool.or_false, Bool.false_or, Bool.or_true, Bool.true_or, Classical.not_not, zS, vcC, exs, exd, pickV, alS, Al.ob, grd, ex, ov, gt, argE, strp, cnd, sideL, I.os, st, wrap, keep, binA, kseq, kblk, kret, klp, resL, res1, one, ocalls, obj, elems, cells, scalar, vs, pick1, fillA, splice, chop, eqC, Nat.reduceBEq, Nat.reduceAdd, Nat.reduceSub, Nat.reduceLT, Nat.reduceLeDiff, Nat.reduceMul, Nat.reduceEqDiff, cond_true, cond_false, if_true, if_false, reduceIte, implies_true, forall_const, ne_eq])
    | (simp (disch := omega) only [wr64, Int.zero_sub]; try simp only [zT, drp, hasN, Bool.or_false, Bool.false_or, Bool.or_true, Bool.true_or, Classical.not_not, zS, vcC, exs, exd, pickV, alS, Al.ob, grd, ex, ov, gt, argE, strp, cnd, sideL, I.os, st, wrap, keep, binA, kseq, kblk, kret, klp, resL, res1, one, ocalls, obj, elems, cells, scalar, vs, pick1, fillA, splice, chop, eqC, Nat.reduceBEq, Nat.reduceAdd, Nat.reduceSub, Nat.reduceLT, Nat.reduceLeDiff, Nat.reduceMul, Nat.reduceEqDiff, cond_true, cond_false, if_true, if_false, reduceIte, implies_true, forall_const, ne_eq])
    | (refine AWPC.both (fun _ => ?_) (fun _ => ?_))
    | (refine AWPC.imp (fun _ => ?_))
    | ((repeat (refine And.intro (by (intros; simp_all (config := { decide := false }); done)) ?_)); (first
      | (refine .inl ⟨_, _, _, _, rfl, fun _hc => ⟨by simp, rcheck_spec p t⟩, ?_⟩)
      | (refine .inl ⟨_, _, _, _, rfl, fun _hc => ⟨by simp, rplaces_spec t.x t.h p.al hg.al ⟨ht.1, ht.2.1⟩ ⟨ht.2.2.2.2.1, ht.2.2.2.2.2⟩⟩, ?_⟩)
      | (refine ⟨_, _, _, _, rfl, fun _hc => ⟨by simp, rcheck_spec p t⟩, ?_⟩)
      | (refine ⟨_, _, _, _, rfl, fun _hc => ⟨by simp, rplaces_spec t.x t.h p.al hg.al ⟨ht.1, ht.2.1⟩ ⟨ht.2.2.2.2.1, ht.2.2.2.2.2⟩⟩, ?_⟩)
      | fail); (first | (refine owp_of_exs ?_; simp only [zT, drp, hasN, Bool.or_false, Bool.false_or, Bool.or_true, Bool.true_or, Classical.not_not, zS, vcC, exs, exd, pickV, alS, Al.ob, grd, ex, ov, gt, argE, strp, cnd, sideL, I.os, st, wrap, keep, binA, kseq, kblk, kret, klp, resL, res1, one, ocalls, obj, elems, cells, scalar, vs, pick1, fillA, splice, chop, eqC, Nat.reduceBEq, Nat.reduceAdd, Nat.reduceSub, Nat.reduceLT, Nat.reduceLeDiff, Nat.reduceMul, Nat.reduceEqDiff, cond_true, cond_false, if_true, if_false, reduceIte, implies_true, forall_const, ne_eq]) | (refine pre_of_exd ?_; simp only [zT, drp, hasN, Bool.or_false, Bool.false_or, Bool.or_true, Bool.true_or, Classical.not_not, zS, vcC, exs, exd, pickV, alS, Al.ob, grd, ex, ov, gt, argE, strp, cnd, sideL, I.os, st, wrap, keep, binA, kseq, kblk, kret, klp, resL, res1, one, ocalls, obj, elems, cells, scalar, vs, pick1, fillA, splice, chop, eqC, Nat.reduceBEq, Nat.reduceAdd, Nat.reduceSub, Nat.reduceLT, Nat.reduceLeDiff, Nat.reduceMul, Nat.reduceEqDiff, cond_true, cond_false, if_true, if_false, reduceIte, implies_true, forall_const, ne_eq]) | fail))
    | ((refine .inl ⟨_, _, _, .any, rfl, fun h => absurd h Bool.false_ne_true, ?_⟩); (first | (refine owp_of_exs ?_; simp only [zT, drp, hasN, Bool.or_false, Bool.false_or, Bool.or_true, Bool.true_or, Classical.not_not, zS, vcC, exs, exd, pickV, alS, Al.ob, grd, ex, ov, gt, argE, strp, cnd, sideL, I.os, st, wrap, keep, binA, kseq, kblk, kret, klp, resL, res1, one, ocalls, obj, elems, cells, scalar, vs, pick1, fillA, splice, chop, eqC, Nat.reduceBEq, Nat.reduceAdd, Nat.reduceSub, Nat.reduceLT, Nat.reduceLeDiff, Nat.reduceMul, Nat.reduceEqDiff, cond_true, cond_false, if_true, if_false, reduceIte, implies_true, forall_const, ne_eq]) | fail))
    | (refine ⟨by omega, ?_⟩)
    | fail)
    · rename_i h'; exact absurd h h'
    · refine Frz.eq ?_ (by simp); simp [Pp.Al, h, Pp.along]
  · (repeat' first
    | (refine AWPC.of_vcn rfl ?_; simp only [zT, drp, hasN, Bool.or_false, Bool.false_or, Bool.or_true, Bool.true_or, Classical.not_not, zS, vcC, exs, exd, pickV, alS, Al.ob, grd, ex, ov, gt, argE, strp, cnd, sideL, I.os, st, wrap, keep, binA, kseq, kblk, kret, klp, resL, res1, one, ocalls, obj, elems, cells, scalar, vs, pick1, fillA, splice, chop, eqC, Nat.reduceBEq, Nat.reduceAdd, Nat.reduceSub, Nat.reduceLT, Nat.reduceLeDiff, Nat.reduceMul, Nat.reduceEqDiff, cond_true, cond_false, if_true, if_false, reduceIte, implies_true, forall_const, ne_eq])
    | (simp (disch := omega) only [wr64, Int.zero_sub]; try simp only [zT, drp, hasN, Bool.or_false, Bool.false_or, Bool.or_true, Bool.true_or, Classical.not_not, zS, vcC, exs, exd, pickV, alS, Al.ob, grd, ex, ov, gt, argE, strp, cnd, sideL, I.os, st, wrap, keep, binA, kseq, kblk, kret, klp, resL, res1, one, ocalls, obj, elems, cells, scalar, vs, pick1, fillA, splice, chop, eqC, Nat.reduceBEq, Nat.reduceAdd, Nat.reduceSub, Nat.reduceLT, Nat.reduceLeDiff, Nat.reduceMul, Nat.reduceEqDiff, cond_true, cond_false, if_true, if_false, reduceIte, implies_true, forall_const, ne_eq])
    | (refine AWPC.both (fun _ => ?_) (fun _ => ?_))
    | (refine AWPC.imp (fun _ => ?_))
    | ((repeat (refine And.intro (by (intros; simp_all (config := { decide := false }); done)) ?_)); (first
      | (refine .inl ⟨_, _, _, _, rfl, fun _hc => ⟨by simp, rcheck_spec p t⟩, ?_⟩)
      | (refine ⟨_, _, _, _, rfl, fun _hc => ⟨by simp, rcheck_spec p t⟩, ?_⟩)
      | fail); (first | (refine owp_of_exs ?_; simp only [zT, drp, hasN, Bool.or_false, Bool.false_or, Bool.or_true, Bool.true_or, Classical.not_not, zS, vcC, exs, exd, pickV, alS, Al.ob, grd, ex, ov, gt, argE, strp, cnd, sideL, I.os, st, wrap, keep, binA, kseq, kblk, kret, klp, resL, res1, one, ocalls, obj, elems, cells, scalar, vs, pick1, fillA, splice, chop, eqC, Nat.reduceBEq, Nat.reduceAdd, Nat.reduceSub, Nat.reduceLT, Nat.reduceLeDiff, Nat.reduceMul, Nat.reduceEqDiff, cond_true, cond_false, if_true, if_false, reduceIte, implies_true, forall_const, ne_eq]) | (refine pre_of_exd ?_; simp only [zT, drp, hasN, Bool.or_false, Bool.false_or, Bool.or_true, Bool.true_or, Classical.not_not, zS, vcC, exs, exd, pickV, alS, Al.ob, grd, ex, ov, gt, argE, strp, cnd, sideL, I.os, st, wrap, keep, binA, kseq, kblk, kret, klp, resL, res1, one, ocalls, obj, elems, cells, scalar, vs, pick1, fillA, splice, chop, eqC, Nat.reduceBEq, Nat.reduceAdd, Nat.reduceSub, Nat.reduceLT, Nat.reduceLeDiff, Nat.reduceMul, Nat.reduceEqDiff, cond_true, cond_false, if_true, if_false, reduceIte, implies_true, forall_const, ne_eq]) | fail))
    | ((refine .inl ⟨_, _, _, .any, rfl, fun h => absurd h Bool.false_ne_true, ?_⟩); (first | (refine owp_of_exs ?_; simp only [zT, drp, hasN, Bool.or_false, Bool.false_or, Bool.or_true, Bool.true_or, Classical.not_not, zS, vcC, exs, exd, pickV, alS, Al.ob, grd, ex, ov, gt, argE, strp, cnd, sideL, I.os, st, wrap, keep, binA, kseq, kblk, kret, klp, resL, res1, one, ocalls, obj, elems, cells, scalar, vs, pick1, fillA, splice, chop, eqC, Nat.reduceBEq, Nat.reduceAdd, Nat.reduceSub, Nat.reduceLT, Nat.reduceLeDiff, Nat.reduceMul, Nat.reduceEqDiff, cond_true, cond_false, if_true, if_false, reduceIte, implies_true, forall_const, ne_eq]) | fail))
    | (refine ⟨by omega, ?_⟩)
    | fail)
    · refine Frz.eq ?_ (by simp); simp [Pp.Al, h]
    · rename_i h'; exact absurd h' h

theorem rAcross_spec (p : Pp) (t : Pt) : Pure Try.prog 40 [.agg p.cs, .agg t.cs] (.tup [.agg (p.Ac t).1.cs, n (p.Ac t).2]) := by
  refine Pure.of_body Try.call40 Try.func40 k40 (Nat.le_of_ble_eq_true rfl) ?_
  unfold c40
  by_cases h : p.perr1 t = 0
  · obtain ⟨hg, ht⟩ := perr0 h
    (repeat' first
    | (refine AWPC.of_vcn rfl ?_; simp only [zT, drp, hasN, Bool.or_false, Bool.false_or, Bool.or_true, Bool.true_or, Classical.not_not, zS, vcC, exs, exd, pickV, alS, Al.ob, grd, ex, ov, gt, argE, strp, cnd, sideL, I.os, st, wrap, keep, binA, kseq, kblk, kret, klp, resL, res1, one, ocalls, obj, elems, cells, scalar, vs, pick1, fillA, splice, chop, eqC, Nat.reduceBEq, Nat.reduceAdd, Nat.reduceSub, Nat.reduceLT, Nat.reduceLeDiff, Nat.reduceMul, Nat.reduceEqDiff, cond_true, cond_false, if_true, if_false, reduceIte, implies_true, forall_const, ne_eq])
    | (simp (disch := omega) only [wr64, Int.zero_sub]; try simp only [zT, drp, hasN, Bool.or_false, Bool.false_or, Bool.or_true, Bool.true_or, Classical.not_not, zS, vcC, exs, exd, pickV, alS, Al.ob, grd, ex, ov, gt, argE, strp, cnd, sideL, I.os, st, wrap, keep, binA, kseq, kblk, kret, klp, resL, res1, one, ocalls, obj, elems, cells, scalar, vs, pick1, fillA, splice, chop, eqC, Nat.reduceBEq, Nat.reduceAdd, Nat.reduceSub, Nat.reduceLT, Nat.reduceLeDiff, Nat.reduceMul, Nat.reduceEqDiff, cond_true, cond_false, if_true, if_false, reduceIte, implies_true, forall_const, ne_eq])
    | (refine AWPC.both (fun _ => ?_) (fun _ => ?_))
    | (refine AWPC.imp (fun _ => ?_))
    | ((repeat (refine And.intro (by (intros; simp_all (config := { decide := false }); done)) ?_)); (first
      | (refine .inl ⟨_, _, _, _, rfl, fun _hc => ⟨by simp, rcheck_spec p t⟩, ?_⟩)
      | (refine .inl ⟨_, _, _, _, rfl, fun _hc => ⟨by simp, rplaces_spec t.y t.h p.cl hg.cl ⟨ht.2.2.1, ht.2.2.2.1⟩ ⟨ht.2.2.2.2.1, ht.2.2.2.2.2⟩⟩, ?_⟩)
      | (refine ⟨_, _, _, _, rfl, fun _hc => ⟨by simp, rcheck_spec p t⟩, ?_⟩)
      | (refine ⟨_, _, _, _, rfl, fun _hc => ⟨by simp, rplaces_spec t.y t.h p.cl hg.cl ⟨ht.2.2.1, ht.2.2.2.1⟩ ⟨ht.2.2.2.2.1, ht.2.2.2.2.2⟩⟩, ?_⟩)
      | fail); (first | (refine owp_of_exs ?_; simp only [zT, drp, hasN, Bool.or_false, Bool.false_or, Bool.or_true, Bool.true_or, Classical.not_not, zS, vcC, exs, exd, pickV, alS, Al.ob, grd, ex, ov, gt, argE, strp, cnd, sideL, I.os, st, wrap, keep, binA, kseq, kblk, kret, klp, resL, res1, one, ocalls, obj, elems, cells, scalar, vs, pick1, fillA, splice, chop, eqC, Nat.reduceBEq, Nat.reduceAdd, Nat.reduceSub, Nat.reduceLT, Nat.reduceLeDiff, Nat.reduceMul, Nat.reduceEqDiff, cond_true, cond_false, if_true, if_false, reduceIte, implies_true, forall_const, ne_eq]) | (refine pre_of_exd ?_; simp only [zT, drp, hasN, Bool.or_false, Bool.false_or, Bool.or_true, Bool.true_or, Classical.not_not, zS, vcC, exs, exd, pickV, alS, Al.ob, grd, ex, ov, gt, argE, strp, cnd, sideL, I.os, st, wrap, keep, binA, kseq, kblk, kret, klp, resL, res1, one, ocalls, obj, elems, cells, scalar, vs, pick1, fillA, splice, chop, eqC, Nat.reduceBEq, Nat.reduceAdd, Nat.reduceSub, Nat.reduceLT, Nat.reduceLeDiff, Nat.reduceMul, Nat.reduceEqDiff, cond_true, cond_false, if_true, if_false, reduceIte, implies_true, forall_const, ne_eq]) | fail))
    | ((refine .inl ⟨_, _, _, .any, rfl, fun h => absurd h Bool.false_ne_true, ?_⟩); (first | (refine owp_of_exs ?_; simp only [zT, drp, hasN, Bool.or_false, Bool.false_or, Bool.or_true, Bool.true_or, Classical.not_not, zS, vcC, exs, exd, pickV, alS, Al.ob, grd, ex, ov, gt, argE, strp, cnd, sideL, I.os, st, wrap, keep, binA, kseq, kblk, kret, klp, resL, res1, one, ocalls, obj, elems, cells, scalar, vs, pick1, fillA, splice, chop, eqC, Nat.reduceBEq, Nat.reduceAdd, Nat.reduceSub, Nat.reduceLT, Nat.reduceLeDiff, Nat.reduceMul, Nat.reduceEqDiff, cond_true, cond_false, if_true, if_false, reduceIte, implies_true, forall_const, ne_eq]) | fail))
    | (refine ⟨by omega, ?_⟩)
    | fail)
    · rename_i h'; exact absurd h h'
    · refine Frz.eq ?_ (by simp); simp [Pp.Ac, h, Pp.across]
  · (repeat' first
    | (refine AWPC.of_vcn rfl ?_; simp only [zT, drp, hasN, Bool.or_false, Bool.false_or, Bool.or_true, Bool.true_or, Classical.not_not, zS, vcC, exs, exd, pickV, alS, Al.ob, grd, ex, ov, gt, argE, strp, cnd, sideL, I.os, st, wrap, keep, binA, kseq, kblk, kret, klp, resL, res1, one, ocalls, obj, elems, cells, scalar, vs, pick1, fillA, splice, chop, eqC, Nat.reduceBEq, Nat.reduceAdd, Nat.reduceSub, Nat.reduceLT, Nat.reduceLeDiff, Nat.reduceMul, Nat.reduceEqDiff, cond_true, cond_false, if_true, if_false, reduceIte, implies_true, forall_const, ne_eq])
    | (simp (disch := omega) only [wr64, Int.zero_sub]; try simp only [zT, drp, hasN, Bool.or_false, Bool.false_or, Bool.or_true, Bool.true_or, Classical.not_not, zS, vcC, exs, exd, pickV, alS, Al.ob, grd, ex, ov, gt, argE, strp, cnd, sideL, I.os, st, wrap, keep, binA, kseq, kblk, kret, klp, resL, res1, one, ocalls, obj, elems, cells, scalar, vs, pick1, fillA, splice, chop, eqC, Nat.reduceBEq, Nat.reduceAdd, Nat.reduceSub, Nat.reduceLT, Nat.reduceLeDiff, Nat.reduceMul, Nat.reduceEqDiff, cond_true, cond_false, if_true, if_false, reduceIte, implies_true, forall_const, ne_eq])
    | (refine AWPC.both (fun _ => ?_) (fun _ => ?_))
    | (refine AWPC.imp (fun _ => ?_))
    | ((repeat (refine And.intro (by (intros; simp_all (config := { decide := false }); done)) ?_)); (first
      | (refine .inl ⟨_, _, _, _, rfl, fun _hc => ⟨by simp, rcheck_spec p t⟩, ?_⟩)
      | (refine ⟨_, _, _, _, rfl, fun _hc => ⟨by simp, rcheck_spec p t⟩, ?_⟩)
      | fail); (first | (refine owp_of_exs ?_; simp only [zT, drp, hasN, Bool.or_false, Bool.false_or, Bool.or_true, Bool.true_or, Classical.not_not, zS, vcC, exs, exd, pickV, alS, Al.ob, grd, ex, ov, gt, argE, strp, cnd, sideL, I.os, st, wrap, keep, binA, kseq, kblk, kret, klp, resL, res1, one, ocalls, obj, elems, cells, scalar, vs, pick1, fillA, splice, chop, eqC, Nat.reduceBEq, Nat.reduceAdd, Nat.reduceSub, Nat.reduceLT, Nat.reduceLeDiff, Nat.reduceMul, Nat.reduceEqDiff, cond_true, cond_false, if_true, if_false, reduceIte, implies_true, forall_const, ne_eq]) | (refine pre_of_exd ?_; simp only [zT, drp, hasN, Bool.or_false, Bool.false_or, Bool.or_true, Bool.true_or, Classical.not_not, zS, vcC, exs, exd, pickV, alS, Al.ob, grd, ex, ov, gt, argE, strp, cnd, sideL, I.os, st, wrap, keep, binA, kseq, kblk, kret, klp, resL, res1, one, ocalls, obj, elems, cells, scalar, vs, pick1, fillA, splice, chop, eqC, Nat.reduceBEq, Nat.reduceAdd, Nat.reduceSub, Nat.reduceLT, Nat.reduceLeDiff, Nat.reduceMul, Nat.reduceEqDiff, cond_true, cond_false, if_true, if_false, reduceIte, implies_true, forall_const, ne_eq]) | fail))
    | ((refine .inl ⟨_, _, _, .any, rfl, fun h => absurd h Bool.false_ne_true, ?_⟩); (first | (refine owp_of_exs ?_; simp only [zT, drp, hasN, Bool.or_false, Bool.false_or, Bool.or_true, Bool.true_or, Classical.not_not, zS, vcC, exs, exd, pickV, alS, Al.ob, grd, ex, ov, gt, argE, strp, cnd, sideL, I.os, st, wrap, keep, binA, kseq, kblk, kret, klp, resL, res1, one, ocalls, obj, elems, cells, scalar, vs, pick1, fillA, splice, chop, eqC, Nat.reduceBEq, Nat.reduceAdd, Nat.reduceSub, Nat.reduceLT, Nat.reduceLeDiff, Nat.reduceMul, Nat.reduceEqDiff, cond_true, cond_false, if_true, if_false, reduceIte, implies_true, forall_const, ne_eq]) | fail))
    | (refine ⟨by omega, ?_⟩)
    | fail)
    · refine Frz.eq ?_ (by simp); simp [Pp.Ac, h]
    · rename_i h'; exact absurd h' h

theorem rLevels_spec (p : Pp) (t : Pt) : Pure Try.prog 43 [.agg p.cs, .agg t.cs] (.tup [.agg (p.Lvs t).1.cs, n (p.Lvs t).2]) := by
  refine Pure.of_body Try.call43 Try.func43 k43 (Nat.le_of_ble_eq_true rfl) ?_
  unfold c43
  by_cases h : p.perr1 t = 0
  · obtain ⟨hg, ht⟩ := perr0 h
    have hb := heights_bd p t hg ht
    (repeat' first
    | (refine AWPC.of_vcn rfl ?_; simp only [zT, drp, hasN, Bool.or_false, Bool.false_or, Bool.or_true, Bool.true_or, Classical.not_not, zS, vcC, exs, exd, pickV, alS, Al.ob, grd, ex, ov, gt, argE, strp, cnd, sideL, I.os, st, wrap, keep, binA, kseq, kblk, kret, klp, resL, res1, one, ocalls, obj, elems, cells, scalar, vs, pick1, fillA, splice, chop, eqC, Nat.reduceBEq, Nat.reduceAdd, Nat.reduceSub, Nat.reduceLT, Nat.reduceLeDiff, Nat.reduceMul, Nat.reduceEqDiff, cond_true, cond_false, if_true, if_false, reduceIte, implies_true, forall_const, ne_eq])
    | (simp (disch := omega) only [wr64, Int.zero_sub]; try simp only [zT, drp, hasN, Bool.or_false, Bool.false_or, Bool.or_true, Bool.true_or, Classical.not_not, zS, vcC, exs, exd, pickV, alS, Al.ob, grd, ex, ov, gt, argE, strp, cnd, sideL, I.os, st, wrap, keep, binA, kseq, kblk, kret, klp, resL, res1, one, ocalls, obj, elems, cells, scalar, vs, pick1, fillA, splice, chop, eqC, Nat.reduceBEq, Nat.reduceAdd, Nat.reduceSub, Nat.reduceLT, Nat.reduceLeDiff, Nat.reduceMul, Nat.reduceEqDiff, cond_true, cond_false, if_true, if_false, reduceIte, implies_true, forall_const, ne_eq])
    | (refine AWPC.both (fun _ => ?_) (fun _ => ?_))
    | (refine AWPC.imp (fun _ => ?_))
    | ((repeat (refine And.intro (by (intros; simp_all (config := { decide := false }); done)) ?_)); (first
      | (refine .inl ⟨_, _, _, _, rfl, fun _hc => ⟨by simp, rcheck_spec p t⟩, ?_⟩)
      | (refine .inl ⟨_, _, _, _, rfl, fun _hc => ⟨by simp, rheights_spec p t hg ht⟩, ?_⟩)
      | (refine .inl ⟨_, _, _, _, rfl, fun _hc => ⟨by simp, rlevel_spec p _ hg (by omega) (by omega)⟩, ?_⟩)
      | (refine ⟨_, _, _, _, rfl, fun _hc => ⟨by simp, rcheck_spec p t⟩, ?_⟩)
      | (refine ⟨_, _, _, _, rfl, fun _hc => ⟨by simp, rheights_spec p t hg ht⟩, ?_⟩)
      | (refine ⟨_, _, _, _, rfl, fun _hc => ⟨by simp, rlevel_spec p _ hg (by omega) (by omega)⟩, ?_⟩)
      | fail); (first | (refine owp_of_exs ?_; simp only [zT, drp, hasN, Bool.or_false, Bool.false_or, Bool.or_true, Bool.true_or, Classical.not_not, zS, vcC, exs, exd, pickV, alS, Al.ob, grd, ex, ov, gt, argE, strp, cnd, sideL, I.os, st, wrap, keep, binA, kseq, kblk, kret, klp, resL, res1, one, ocalls, obj, elems, cells, scalar, vs, pick1, fillA, splice, chop, eqC, Nat.reduceBEq, Nat.reduceAdd, Nat.reduceSub, Nat.reduceLT, Nat.reduceLeDiff, Nat.reduceMul, Nat.reduceEqDiff, cond_true, cond_false, if_true, if_false, reduceIte, implies_true, forall_const, ne_eq]) | (refine pre_of_exd ?_; simp only [zT, drp, hasN, Bool.or_false, Bool.false_or, Bool.or_true, Bool.true_or, Classical.not_not, zS, vcC, exs, exd, pickV, alS, Al.ob, grd, ex, ov, gt, argE, strp, cnd, sideL, I.os, st, wrap, keep, binA, kseq, kblk, kret, klp, resL, res1, one, ocalls, obj, elems, cells, scalar, vs, pick1, fillA, splice, chop, eqC, Nat.reduceBEq, Nat.reduceAdd, Nat.reduceSub, Nat.reduceLT, Nat.reduceLeDiff, Nat.reduceMul, Nat.reduceEqDiff, cond_true, cond_false, if_true, if_false, reduceIte, implies_true, forall_const, ne_eq]) | fail))
    | ((refine .inl ⟨_, _, _, .any, rfl, fun h => absurd h Bool.false_ne_true, ?_⟩); (first | (refine owp_of_exs ?_; simp only [zT, drp, hasN, Bool.or_false, Bool.false_or, Bool.or_true, Bool.true_or, Classical.not_not, zS, vcC, exs, exd, pickV, alS, Al.ob, grd, ex, ov, gt, argE, strp, cnd, sideL, I.os, st, wrap, keep, binA, kseq, kblk, kret, klp, resL, res1, one, ocalls, obj, elems, cells, scalar, vs, pick1, fillA, splice, chop, eqC, Nat.reduceBEq, Nat.reduceAdd, Nat.reduceSub, Nat.reduceLT, Nat.reduceLeDiff, Nat.reduceMul, Nat.reduceEqDiff, cond_true, cond_false, if_true, if_false, reduceIte, implies_true, forall_const, ne_eq]) | fail))
    | (refine ⟨by omega, ?_⟩)
    | fail)
    · rename_i h'; exact absurd h h'
    · rename_i h'; refine Frz.eq ?_ (by simp); simp [Pp.Lvs, h, h']
    · rename_i h'; refine Frz.eq ?_ (by simp); simp [Pp.Lvs, h, h']
  · (repeat' first
    | (refine AWPC.of_vcn rfl ?_; simp only [zT, drp, hasN, Bool.or_false, Bool.false_or, Bool.or_true, Bool.true_or, Classical.not_not, zS, vcC, exs, exd, pickV, alS, Al.ob, grd, ex, ov, gt, argE, strp, cnd, sideL, I.os, st, wrap, keep, binA, kseq, kblk, kret, klp, resL, res1, one, ocalls, obj, elems, cells, scalar, vs, pick1, fillA, splice, chop, eqC, Nat.reduceBEq, Nat.reduceAdd, Nat.reduceSub, Nat.reduceLT, Nat.reduceLeDiff, Nat.reduceMul, Nat.reduceEqDiff, cond_true, cond_false, if_true, if_false, reduceIte, implies_true, forall_const, ne_eq])
    | (simp (disch := omega) only [wr64, Int.zero_sub]; try simp only [zT, drp, hasN, Bool.or_false, Bool.false_or, Bool.or_true, Bool.true_or, Classical.not_not, zS, vcC, exs, exd, pickV, alS, Al.ob, grd, ex, ov, gt, argE, strp, cnd, sideL, I.os, st, wrap, keep, binA, kseq, kblk, kret, klp, resL, res1, one, ocalls, obj, elems, cells, scalar, vs, pick1, fillA, splice, chop, eqC, Nat.reduceBEq, Nat.reduceAdd, Nat.reduceSub, Nat.reduceLT, Nat.reduceLeDiff, Nat.reduceMul, Nat.reduceEqDiff, cond_true, cond_false, if_true, if_false, reduceIte, implies_true, forall_const, ne_eq])
    | (refine AWPC.both (fun _ => ?_) (fun _ => ?_))
    | (refine AWPC.imp (fun _ => ?_))
    | ((repeat (refine And.intro (by (intros; simp_all (config := { decide := false }); done)) ?_)); (first
      | (refine .inl ⟨_, _, _, _, rfl, fun _hc => ⟨by simp, rcheck_spec p t⟩, ?_⟩)
      | (refine ⟨_, _, _, _, rfl, fun _hc => ⟨by simp, rcheck_spec p t⟩, ?_⟩)
      | fail); (first | (refine owp_of_exs ?_; simp only [zT, drp, hasN, Bool.or_false, Bool.false_or, Bool.or_true, Bool.true_or, Classical.not_not, zS, vcC, exs, exd, pickV, alS, Al.ob, grd, ex, ov, gt, argE, strp, cnd, sideL, I.os, st, wrap, keep, binA, kseq, kblk, kret, klp, resL, res1, one, ocalls, obj, elems, cells, scalar, vs, pick1, fillA, splice, chop, eqC, Nat.reduceBEq, Nat.reduceAdd, Nat.reduceSub, Nat.reduceLT, Nat.reduceLeDiff, Nat.reduceMul, Nat.reduceEqDiff, cond_true, cond_false, if_true, if_false, reduceIte, implies_true, forall_const, ne_eq]) | (refine pre_of_exd ?_; simp only [zT, drp, hasN, Bool.or_false, Bool.false_or, Bool.or_true, Bool.true_or, Classical.not_not, zS, vcC, exs, exd, pickV, alS, Al.ob, grd, ex, ov, gt, argE, strp, cnd, sideL, I.os, st, wrap, keep, binA, kseq, kblk, kret, klp, resL, res1, one, ocalls, obj, elems, cells, scalar, vs, pick1, fillA, splice, chop, eqC, Nat.reduceBEq, Nat.reduceAdd, Nat.reduceSub, Nat.reduceLT, Nat.reduceLeDiff, Nat.reduceMul, Nat.reduceEqDiff, cond_true, cond_false, if_true, if_false, reduceIte, implies_true, forall_const, ne_eq]) | fail))
    | ((refine .inl ⟨_, _, _, .any, rfl, fun h => absurd h Bool.false_ne_true, ?_⟩); (first | (refine owp_of_exs ?_; simp only [zT, drp, hasN, Bool.or_false, Bool.false_or, Bool.or_true, Bool.true_or, Classical.not_not, zS, vcC, exs, exd, pickV, alS, Al.ob, grd, ex, ov, gt, argE, strp, cnd, sideL, I.os, st, wrap, keep, binA, kseq, kblk, kret, klp, resL, res1, one, ocalls, obj, elems, cells, scalar, vs, pick1, fillA, splice, chop, eqC, Nat.reduceBEq, Nat.reduceAdd, Nat.reduceSub, Nat.reduceLT, Nat.reduceLeDiff, Nat.reduceMul, Nat.reduceEqDiff, cond_true, cond_false, if_true, if_false, reduceIte, implies_true, forall_const, ne_eq]) | fail))
    | (refine ⟨by omega, ?_⟩)
    | fail)
    · refine Frz.eq ?_ (by simp); simp [Pp.Lvs, h]
    · rename_i h'; exact absurd h' h

/-- The least and the greatest arc of a span of heights. -/
def Pp.arcs (p : Pp) (s : Sp) : Sp := ⟨min (p.arc s.lo) (p.arc s.hi), p.arc (max s.lo (min s.hi (p.he / 2)))⟩

theorem rarcs_spec (p : Pp) (s : Sp) (hg : p.good) (h0 : 0 ≤ s.lo) (h1 : s.lo ≤ s.hi) (h2 : s.hi ≤ p.he) : Pure Try.prog 125 [.agg p.cs, .agg s.cs] (.agg (p.arcs s).cs) := by
  refine Pure.of_body Try.call125 Try.func125 k125 (Nat.le_of_ble_eq_true rfl) ?_
  have hhe := hg.2.2.2.1
  have hm : p.he.tdiv 2 = p.he / 2 := Int.tdiv_eq_ediv_of_nonneg (by omega)
  unfold c125
  (repeat' first
    | (refine AWPC.of_vcn rfl ?_; simp only [zT, drp, hasN, Bool.or_false, Bool.false_or, Bool.or_true, Bool.true_or, Classical.not_not, zS, vcC, exs, exd, pickV, alS, Al.ob, grd, ex, ov, gt, argE, strp, cnd, sideL, I.os, st, wrap, keep, binA, kseq, kblk, kret, klp, resL, res1, one, ocalls, obj, elems, cells, scalar, vs, pick1, fillA, splice, chop, eqC, Nat.reduceBEq, Nat.reduceAdd, Nat.reduceSub, Nat.reduceLT, Nat.reduceLeDiff, Nat.reduceMul, Nat.reduceEqDiff, cond_true, cond_false, if_true, if_false, reduceIte, implies_true, forall_const, ne_eq, hm])
    | (simp (disch := omega) only [wr64, Int.zero_sub]; try simp only [zT, drp, hasN, Bool.or_false, Bool.false_or, Bool.or_true, Bool.true_or, Classical.not_not, zS, vcC, exs, exd, pickV, alS, Al.ob, grd, ex, ov, gt, argE, strp, cnd, sideL, I.os, st, wrap, keep, binA, kseq, kblk, kret, klp, resL, res1, one, ocalls, obj, elems, cells, scalar, vs, pick1, fillA, splice, chop, eqC, Nat.reduceBEq, Nat.reduceAdd, Nat.reduceSub, Nat.reduceLT, Nat.reduceLeDiff, Nat.reduceMul, Nat.reduceEqDiff, cond_true, cond_false, if_true, if_false, reduceIte, implies_true, forall_const, ne_eq, hm])
    | (refine AWPC.both (fun _ => ?_) (fun _ => ?_))
    | (refine AWPC.imp (fun _ => ?_))
    | ((repeat (refine And.intro (by (intros; simp_all (config := { decide := false }); done)) ?_)); (first
      | (refine .inl ⟨_, _, _, _, rfl, fun _hc => ⟨by simp, rarc_spec p _ hg (by omega) (by omega)⟩, ?_⟩)
      | (refine ⟨_, _, _, _, rfl, fun _hc => ⟨by simp, rarc_spec p _ hg (by omega) (by omega)⟩, ?_⟩)
      | fail); (first | (refine owp_of_exs ?_; simp only [zT, drp, hasN, Bool.or_false, Bool.false_or, Bool.or_true, Bool.true_or, Classical.not_not, zS, vcC, exs, exd, pickV, alS, Al.ob, grd, ex, ov, gt, argE, strp, cnd, sideL, I.os, st, wrap, keep, binA, kseq, kblk, kret, klp, resL, res1, one, ocalls, obj, elems, cells, scalar, vs, pick1, fillA, splice, chop, eqC, Nat.reduceBEq, Nat.reduceAdd, Nat.reduceSub, Nat.reduceLT, Nat.reduceLeDiff, Nat.reduceMul, Nat.reduceEqDiff, cond_true, cond_false, if_true, if_false, reduceIte, implies_true, forall_const, ne_eq, hm]) | (refine pre_of_exd ?_; simp only [zT, drp, hasN, Bool.or_false, Bool.false_or, Bool.or_true, Bool.true_or, Classical.not_not, zS, vcC, exs, exd, pickV, alS, Al.ob, grd, ex, ov, gt, argE, strp, cnd, sideL, I.os, st, wrap, keep, binA, kseq, kblk, kret, klp, resL, res1, one, ocalls, obj, elems, cells, scalar, vs, pick1, fillA, splice, chop, eqC, Nat.reduceBEq, Nat.reduceAdd, Nat.reduceSub, Nat.reduceLT, Nat.reduceLeDiff, Nat.reduceMul, Nat.reduceEqDiff, cond_true, cond_false, if_true, if_false, reduceIte, implies_true, forall_const, ne_eq, hm]) | fail))
    | ((refine .inl ⟨_, _, _, .any, rfl, fun h => absurd h Bool.false_ne_true, ?_⟩); (first | (refine owp_of_exs ?_; simp only [zT, drp, hasN, Bool.or_false, Bool.false_or, Bool.or_true, Bool.true_or, Classical.not_not, zS, vcC, exs, exd, pickV, alS, Al.ob, grd, ex, ov, gt, argE, strp, cnd, sideL, I.os, st, wrap, keep, binA, kseq, kblk, kret, klp, resL, res1, one, ocalls, obj, elems, cells, scalar, vs, pick1, fillA, splice, chop, eqC, Nat.reduceBEq, Nat.reduceAdd, Nat.reduceSub, Nat.reduceLT, Nat.reduceLeDiff, Nat.reduceMul, Nat.reduceEqDiff, cond_true, cond_false, if_true, if_false, reduceIte, implies_true, forall_const, ne_eq, hm]) | fail))
    | (refine ⟨by omega, ?_⟩)
    | fail)
  exact Frz.eq rfl (by simp)

theorem arcs_bd (p : Pp) (s : Sp) (hg : p.good) (h0 : 0 ≤ s.lo) (h1 : s.lo ≤ s.hi) (h2 : s.hi ≤ p.he) : 0 ≤ (p.arcs s).lo ∧ (p.arcs s).lo ≤ 160000000000 ∧ 0 ≤ (p.arcs s).hi ∧ (p.arcs s).hi ≤ 160000000000 := by
  have a := arc_bd p s.lo hg h0 (by omega)
  have b := arc_bd p s.hi hg (by omega) h2
  have c := arc_bd p (max s.lo (min s.hi (p.he / 2))) hg (by omega) (by omega)
  simp only [Pp.arcs]
  omega

/-- The columns of a point by the ends of its arcs; the first greater than the second: there are none. -/
def Pp.rcols (p : Pp) (t : Pt) : Sp :=
  if (p.heights t).hi < (p.heights t).lo then ⟨1, 0⟩ else ⟨max 0 (((p.along t).lo - (p.arcs (p.heights t)).hi) / p.pi), min (p.co - 1) (((p.along t).hi - (p.arcs (p.heights t)).lo) / p.pi)⟩

theorem rcolumns_spec (p : Pp) (t : Pt) (hg : p.good) (ht : t.right) : Pure Try.prog 91 [.agg p.cs, .agg t.cs] (.agg (p.rcols t).cs) := by
  refine Pure.of_body Try.call91 Try.func91 k91 (Nat.le_of_ble_eq_true rfl) ?_
  have hb := heights_bd p t hg ht
  have ha := along_bd p t hg ht
  have hA := arcs_bd p (p.heights t) hg hb.1
  have hpl := rplaces_spec t.x t.h p.al hg.al ⟨ht.1, ht.2.1⟩ ⟨ht.2.2.2.2.1, ht.2.2.2.2.2⟩
  change Pure _ _ _ (.agg (p.along t).cs) at hpl
  have hg' := hg
  obtain ⟨g1, g2, g3, g4, g5, g6, g7, g8, g9, g10, g11, g12, g13⟩ := hg'
  unfold c91
  (repeat' first
    | (refine AWPC.of_vcn rfl ?_; simp only [zT, drp, hasN, Bool.or_false, Bool.false_or, Bool.or_true, Bool.true_or, Classical.not_not, zS, vcC, exs, exd, pickV, alS, Al.ob, grd, ex, ov, gt, argE, strp, cnd, sideL, I.os, st, wrap, keep, binA, kseq, kblk, kret, klp, resL, res1, one, ocalls, obj, elems, cells, scalar, vs, pick1, fillA, splice, chop, eqC, Nat.reduceBEq, Nat.reduceAdd, Nat.reduceSub, Nat.reduceLT, Nat.reduceLeDiff, Nat.reduceMul, Nat.reduceEqDiff, cond_true, cond_false, if_true, if_false, reduceIte, implies_true, forall_const, ne_eq])
    | (simp (disch := omega) only [wr64, Int.zero_sub]; try simp only [zT, drp, hasN, Bool.or_false, Bool.false_or, Bool.or_true, Bool.true_or, Classical.not_not, zS, vcC, exs, exd, pickV, alS, Al.ob, grd, ex, ov, gt, argE, strp, cnd, sideL, I.os, st, wrap, keep, binA, kseq, kblk, kret, klp, resL, res1, one, ocalls, obj, elems, cells, scalar, vs, pick1, fillA, splice, chop, eqC, Nat.reduceBEq, Nat.reduceAdd, Nat.reduceSub, Nat.reduceLT, Nat.reduceLeDiff, Nat.reduceMul, Nat.reduceEqDiff, cond_true, cond_false, if_true, if_false, reduceIte, implies_true, forall_const, ne_eq])
    | (refine AWPC.both (fun _ => ?_) (fun _ => ?_))
    | (refine AWPC.imp (fun _ => ?_))
    | ((repeat (refine And.intro (by (intros; simp_all (config := { decide := false }); done)) ?_)); (first
      | (refine .inl ⟨_, _, _, _, rfl, fun _hc => ⟨by simp, hpl⟩, ?_⟩)
      | (refine .inl ⟨_, _, _, _, rfl, fun _hc => ⟨by simp, rheights_spec p t hg ht⟩, ?_⟩)
      | (refine .inl ⟨_, _, _, _, rfl, fun _hc => ⟨by simp, rarcs_spec p (p.heights t) hg (by omega) (by omega) (by omega)⟩, ?_⟩)
      | (refine .inl ⟨_, _, _, _, rfl, fun _hc => ⟨by simp, rfloor_spec _ _ (by omega) (by omega) (by omega) (by omega)⟩, ?_⟩)
      | (refine ⟨_, _, _, _, rfl, fun _hc => ⟨by simp, hpl⟩, ?_⟩)
      | (refine ⟨_, _, _, _, rfl, fun _hc => ⟨by simp, rheights_spec p t hg ht⟩, ?_⟩)
      | (refine ⟨_, _, _, _, rfl, fun _hc => ⟨by simp, rarcs_spec p (p.heights t) hg (by omega) (by omega) (by omega)⟩, ?_⟩)
      | (refine ⟨_, _, _, _, rfl, fun _hc => ⟨by simp, rfloor_spec _ _ (by omega) (by omega) (by omega) (by omega)⟩, ?_⟩)
      | fail); (first | (refine owp_of_exs ?_; simp only [zT, drp, hasN, Bool.or_false, Bool.false_or, Bool.or_true, Bool.true_or, Classical.not_not, zS, vcC, exs, exd, pickV, alS, Al.ob, grd, ex, ov, gt, argE, strp, cnd, sideL, I.os, st, wrap, keep, binA, kseq, kblk, kret, klp, resL, res1, one, ocalls, obj, elems, cells, scalar, vs, pick1, fillA, splice, chop, eqC, Nat.reduceBEq, Nat.reduceAdd, Nat.reduceSub, Nat.reduceLT, Nat.reduceLeDiff, Nat.reduceMul, Nat.reduceEqDiff, cond_true, cond_false, if_true, if_false, reduceIte, implies_true, forall_const, ne_eq]) | (refine pre_of_exd ?_; simp only [zT, drp, hasN, Bool.or_false, Bool.false_or, Bool.or_true, Bool.true_or, Classical.not_not, zS, vcC, exs, exd, pickV, alS, Al.ob, grd, ex, ov, gt, argE, strp, cnd, sideL, I.os, st, wrap, keep, binA, kseq, kblk, kret, klp, resL, res1, one, ocalls, obj, elems, cells, scalar, vs, pick1, fillA, splice, chop, eqC, Nat.reduceBEq, Nat.reduceAdd, Nat.reduceSub, Nat.reduceLT, Nat.reduceLeDiff, Nat.reduceMul, Nat.reduceEqDiff, cond_true, cond_false, if_true, if_false, reduceIte, implies_true, forall_const, ne_eq]) | fail))
    | ((refine .inl ⟨_, _, _, .any, rfl, fun h => absurd h Bool.false_ne_true, ?_⟩); (first | (refine owp_of_exs ?_; simp only [zT, drp, hasN, Bool.or_false, Bool.false_or, Bool.or_true, Bool.true_or, Classical.not_not, zS, vcC, exs, exd, pickV, alS, Al.ob, grd, ex, ov, gt, argE, strp, cnd, sideL, I.os, st, wrap, keep, binA, kseq, kblk, kret, klp, resL, res1, one, ocalls, obj, elems, cells, scalar, vs, pick1, fillA, splice, chop, eqC, Nat.reduceBEq, Nat.reduceAdd, Nat.reduceSub, Nat.reduceLT, Nat.reduceLeDiff, Nat.reduceMul, Nat.reduceEqDiff, cond_true, cond_false, if_true, if_false, reduceIte, implies_true, forall_const, ne_eq]) | fail))
    | (refine ⟨by omega, ?_⟩)
    | fail)
  · rename_i h; refine Frz.eq ?_ (by simp); simp [Pp.rcols, h]
  · rename_i h; refine Frz.eq ?_ (by simp); simp [Pp.rcols, h]

def Pp.RCols (p : Pp) (t : Pt) : Sp × Int := if p.perr1 t = 0 then (if (p.rcols t).hi < (p.rcols t).lo then (⟨0, 0⟩, 3) else (p.rcols t, 0)) else (⟨0, 0⟩, p.perr1 t)

theorem rColumns_spec (p : Pp) (t : Pt) : Pure Try.prog 41 [.agg p.cs, .agg t.cs] (.tup [.agg (p.RCols t).1.cs, n (p.RCols t).2]) := by
  refine Pure.of_body Try.call41 Try.func41 k41 (Nat.le_of_ble_eq_true rfl) ?_
  unfold c41
  by_cases h : p.perr1 t = 0
  · obtain ⟨hg, ht⟩ := perr0 h
    (repeat' first
    | (refine AWPC.of_vcn rfl ?_; simp only [zT, drp, hasN, Bool.or_false, Bool.false_or, Bool.or_true, Bool.true_or, Classical.not_not, zS, vcC, exs, exd, pickV, alS, Al.ob, grd, ex, ov, gt, argE, strp, cnd, sideL, I.os, st, wrap, keep, binA, kseq, kblk, kret, klp, resL, res1, one, ocalls, obj, elems, cells, scalar, vs, pick1, fillA, splice, chop, eqC, Nat.reduceBEq, Nat.reduceAdd, Nat.reduceSub, Nat.reduceLT, Nat.reduceLeDiff, Nat.reduceMul, Nat.reduceEqDiff, cond_true, cond_false, if_true, if_false, reduceIte, implies_true, forall_const, ne_eq])
    | (simp (disch := omega) only [wr64, Int.zero_sub]; try simp only [zT, drp, hasN, Bool.or_false, Bool.false_or, Bool.or_true, Bool.true_or, Classical.not_not, zS, vcC, exs, exd, pickV, alS, Al.ob, grd, ex, ov, gt, argE, strp, cnd, sideL, I.os, st, wrap, keep, binA, kseq, kblk, kret, klp, resL, res1, one, ocalls, obj, elems, cells, scalar, vs, pick1, fillA, splice, chop, eqC, Nat.reduceBEq, Nat.reduceAdd, Nat.reduceSub, Nat.reduceLT, Nat.reduceLeDiff, Nat.reduceMul, Nat.reduceEqDiff, cond_true, cond_false, if_true, if_false, reduceIte, implies_true, forall_const, ne_eq])
    | (refine AWPC.both (fun _ => ?_) (fun _ => ?_))
    | (refine AWPC.imp (fun _ => ?_))
    | ((repeat (refine And.intro (by (intros; simp_all (config := { decide := false }); done)) ?_)); (first
      | (refine .inl ⟨_, _, _, _, rfl, fun _hc => ⟨by simp, rcheck_spec p t⟩, ?_⟩)
      | (refine .inl ⟨_, _, _, _, rfl, fun _hc => ⟨by simp, rcolumns_spec p t hg ht⟩, ?_⟩)
      | (refine ⟨_, _, _, _, rfl, fun _hc => ⟨by simp, rcheck_spec p t⟩, ?_⟩)
      | (refine ⟨_, _, _, _, rfl, fun _hc => ⟨by simp, rcolumns_spec p t hg ht⟩, ?_⟩)
      | fail); (first | (refine owp_of_exs ?_; simp only [zT, drp, hasN, Bool.or_false, Bool.false_or, Bool.or_true, Bool.true_or, Classical.not_not, zS, vcC, exs, exd, pickV, alS, Al.ob, grd, ex, ov, gt, argE, strp, cnd, sideL, I.os, st, wrap, keep, binA, kseq, kblk, kret, klp, resL, res1, one, ocalls, obj, elems, cells, scalar, vs, pick1, fillA, splice, chop, eqC, Nat.reduceBEq, Nat.reduceAdd, Nat.reduceSub, Nat.reduceLT, Nat.reduceLeDiff, Nat.reduceMul, Nat.reduceEqDiff, cond_true, cond_false, if_true, if_false, reduceIte, implies_true, forall_const, ne_eq]) | (refine pre_of_exd ?_; simp only [zT, drp, hasN, Bool.or_false, Bool.false_or, Bool.or_true, Bool.true_or, Classical.not_not, zS, vcC, exs, exd, pickV, alS, Al.ob, grd, ex, ov, gt, argE, strp, cnd, sideL, I.os, st, wrap, keep, binA, kseq, kblk, kret, klp, resL, res1, one, ocalls, obj, elems, cells, scalar, vs, pick1, fillA, splice, chop, eqC, Nat.reduceBEq, Nat.reduceAdd, Nat.reduceSub, Nat.reduceLT, Nat.reduceLeDiff, Nat.reduceMul, Nat.reduceEqDiff, cond_true, cond_false, if_true, if_false, reduceIte, implies_true, forall_const, ne_eq]) | fail))
    | ((refine .inl ⟨_, _, _, .any, rfl, fun h => absurd h Bool.false_ne_true, ?_⟩); (first | (refine owp_of_exs ?_; simp only [zT, drp, hasN, Bool.or_false, Bool.false_or, Bool.or_true, Bool.true_or, Classical.not_not, zS, vcC, exs, exd, pickV, alS, Al.ob, grd, ex, ov, gt, argE, strp, cnd, sideL, I.os, st, wrap, keep, binA, kseq, kblk, kret, klp, resL, res1, one, ocalls, obj, elems, cells, scalar, vs, pick1, fillA, splice, chop, eqC, Nat.reduceBEq, Nat.reduceAdd, Nat.reduceSub, Nat.reduceLT, Nat.reduceLeDiff, Nat.reduceMul, Nat.reduceEqDiff, cond_true, cond_false, if_true, if_false, reduceIte, implies_true, forall_const, ne_eq]) | fail))
    | (refine ⟨by omega, ?_⟩)
    | fail)
    · rename_i h'; exact absurd h h'
    · rename_i h'; refine Frz.eq ?_ (by simp); simp [Pp.RCols, h, h']
    · rename_i h'; refine Frz.eq ?_ (by simp); simp [Pp.RCols, h, h']
  · (repeat' first
    | (refine AWPC.of_vcn rfl ?_; simp only [zT, drp, hasN, Bool.or_false, Bool.false_or, Bool.or_true, Bool.true_or, Classical.not_not, zS, vcC, exs, exd, pickV, alS, Al.ob, grd, ex, ov, gt, argE, strp, cnd, sideL, I.os, st, wrap, keep, binA, kseq, kblk, kret, klp, resL, res1, one, ocalls, obj, elems, cells, scalar, vs, pick1, fillA, splice, chop, eqC, Nat.reduceBEq, Nat.reduceAdd, Nat.reduceSub, Nat.reduceLT, Nat.reduceLeDiff, Nat.reduceMul, Nat.reduceEqDiff, cond_true, cond_false, if_true, if_false, reduceIte, implies_true, forall_const, ne_eq])
    | (simp (disch := omega) only [wr64, Int.zero_sub]; try simp only [zT, drp, hasN, Bool.or_false, Bool.false_or, Bool.or_true, Bool.true_or, Classical.not_not, zS, vcC, exs, exd, pickV, alS, Al.ob, grd, ex, ov, gt, argE, strp, cnd, sideL, I.os, st, wrap, keep, binA, kseq, kblk, kret, klp, resL, res1, one, ocalls, obj, elems, cells, scalar, vs, pick1, fillA, splice, chop, eqC, Nat.reduceBEq, Nat.reduceAdd, Nat.reduceSub, Nat.reduceLT, Nat.reduceLeDiff, Nat.reduceMul, Nat.reduceEqDiff, cond_true, cond_false, if_true, if_false, reduceIte, implies_true, forall_const, ne_eq])
    | (refine AWPC.both (fun _ => ?_) (fun _ => ?_))
    | (refine AWPC.imp (fun _ => ?_))
    | ((repeat (refine And.intro (by (intros; simp_all (config := { decide := false }); done)) ?_)); (first
      | (refine .inl ⟨_, _, _, _, rfl, fun _hc => ⟨by simp, rcheck_spec p t⟩, ?_⟩)
      | (refine ⟨_, _, _, _, rfl, fun _hc => ⟨by simp, rcheck_spec p t⟩, ?_⟩)
      | fail); (first | (refine owp_of_exs ?_; simp only [zT, drp, hasN, Bool.or_false, Bool.false_or, Bool.or_true, Bool.true_or, Classical.not_not, zS, vcC, exs, exd, pickV, alS, Al.ob, grd, ex, ov, gt, argE, strp, cnd, sideL, I.os, st, wrap, keep, binA, kseq, kblk, kret, klp, resL, res1, one, ocalls, obj, elems, cells, scalar, vs, pick1, fillA, splice, chop, eqC, Nat.reduceBEq, Nat.reduceAdd, Nat.reduceSub, Nat.reduceLT, Nat.reduceLeDiff, Nat.reduceMul, Nat.reduceEqDiff, cond_true, cond_false, if_true, if_false, reduceIte, implies_true, forall_const, ne_eq]) | (refine pre_of_exd ?_; simp only [zT, drp, hasN, Bool.or_false, Bool.false_or, Bool.or_true, Bool.true_or, Classical.not_not, zS, vcC, exs, exd, pickV, alS, Al.ob, grd, ex, ov, gt, argE, strp, cnd, sideL, I.os, st, wrap, keep, binA, kseq, kblk, kret, klp, resL, res1, one, ocalls, obj, elems, cells, scalar, vs, pick1, fillA, splice, chop, eqC, Nat.reduceBEq, Nat.reduceAdd, Nat.reduceSub, Nat.reduceLT, Nat.reduceLeDiff, Nat.reduceMul, Nat.reduceEqDiff, cond_true, cond_false, if_true, if_false, reduceIte, implies_true, forall_const, ne_eq]) | fail))
    | ((refine .inl ⟨_, _, _, .any, rfl, fun h => absurd h Bool.false_ne_true, ?_⟩); (first | (refine owp_of_exs ?_; simp only [zT, drp, hasN, Bool.or_false, Bool.false_or, Bool.or_true, Bool.true_or, Classical.not_not, zS, vcC, exs, exd, pickV, alS, Al.ob, grd, ex, ov, gt, argE, strp, cnd, sideL, I.os, st, wrap, keep, binA, kseq, kblk, kret, klp, resL, res1, one, ocalls, obj, elems, cells, scalar, vs, pick1, fillA, splice, chop, eqC, Nat.reduceBEq, Nat.reduceAdd, Nat.reduceSub, Nat.reduceLT, Nat.reduceLeDiff, Nat.reduceMul, Nat.reduceEqDiff, cond_true, cond_false, if_true, if_false, reduceIte, implies_true, forall_const, ne_eq]) | fail))
    | (refine ⟨by omega, ?_⟩)
    | fail)
    · refine Frz.eq ?_ (by simp); simp [Pp.RCols, h]
    · rename_i h'; exact absurd h' h

theorem chk1_spec (t : Pt) : Pure Try.prog 46 [.sl 3 [t.cs]] (.tup [n (if t.right then 0 else 11), n 0]) := by
  have h := checkTrace_spec [t] (by simp)
  rw [trace1] at h
  exact h

/-- Where a printed place lies on a sheet that has shrunk. -/
def Pt.shr (t : Pt) (a c : Int) : Pt := ⟨t.x * a / 1000, t.y * c / 1000, t.h⟩
def Pp.Shr (p : Pp) (t : Pt) (a c : Int) : Pt × Int :=
  if p.perr1 t = 0 then (if (p.al.lo ≤ a ∧ a ≤ p.al.hi) ∧ (p.cl.lo ≤ c ∧ c ≤ p.cl.hi) then (if (t.shr a c).right then (t.shr a c, 0) else (⟨0, 0, 0⟩, 2)) else (⟨0, 0, 0⟩, 1)) else (⟨0, 0, 0⟩, p.perr1 t)

theorem Shrink_spec (p : Pp) (t : Pt) (a c : Int) : Pure Try.prog 29 [.agg p.cs, .agg t.cs, n a, n c] (.tup [.agg (p.Shr t a c).1.cs, n (p.Shr t a c).2]) := by
  refine Pure.of_body Try.call29 Try.func29 k29 (Nat.le_of_ble_eq_true rfl) ?_
  unfold c29
  by_cases h : p.perr1 t = 0
  · obtain ⟨hg, ht⟩ := perr0 h
    have ha := hg.al
    have hc := hg.cl
    have m1 : a ≤ 1100 → 900 ≤ a → 0 ≤ t.x * a ∧ t.x * a ≤ 400000 * 1100 := fun h1 h2 => mul_bd ht.1 ht.2.1 (by omega) h1
    have m2 : c ≤ 1100 → 900 ≤ c → 0 ≤ t.y * c ∧ t.y * c ≤ 400000 * 1100 := fun h1 h2 => mul_bd ht.2.2.1 ht.2.2.2.1 (by omega) h1
    (repeat' first
    | (refine AWPC.of_vcn rfl ?_; simp only [zT, drp, hasN, Bool.or_false, Bool.false_or, Bool.or_true, Bool.true_or, Classical.not_not, zS, vcC, exs, exd, pickV, alS, Al.ob, grd, ex, ov, gt, argE, strp, cnd, sideL, I.os, st, wrap, keep, binA, kseq, kblk, kret, klp, resL, res1, one, ocalls, obj, elems, cells, scalar, vs, pick1, fillA, splice, chop, eqC, Nat.reduceBEq, Nat.reduceAdd, Nat.reduceSub, Nat.reduceLT, Nat.reduceLeDiff, Nat.reduceMul, Nat.reduceEqDiff, cond_true, cond_false, if_true, if_false, reduceIte, implies_true, forall_const, ne_eq])
    | (simp (disch := omega) only [wr64, Int.zero_sub]; try simp only [zT, drp, hasN, Bool.or_false, Bool.false_or, Bool.or_true, Bool.true_or, Classical.not_not, zS, vcC, exs, exd, pickV, alS, Al.ob, grd, ex, ov, gt, argE, strp, cnd, sideL, I.os, st, wrap, keep, binA, kseq, kblk, kret, klp, resL, res1, one, ocalls, obj, elems, cells, scalar, vs, pick1, fillA, splice, chop, eqC, Nat.reduceBEq, Nat.reduceAdd, Nat.reduceSub, Nat.reduceLT, Nat.reduceLeDiff, Nat.reduceMul, Nat.reduceEqDiff, cond_true, cond_false, if_true, if_false, reduceIte, implies_true, forall_const, ne_eq])
    | (refine AWPC.both (fun _ => ?_) (fun _ => ?_))
    | (refine AWPC.imp (fun _ => ?_))
    | ((repeat (refine And.intro (by (intros; simp_all (config := { decide := false }); done)) ?_)); (first
      | (refine .inl ⟨_, _, _, _, rfl, fun _hc => ⟨by simp, read1_spec p t⟩, ?_⟩)
      | (refine .inl ⟨_, _, _, _, rfl, fun _hc => ⟨by simp, within_spec _ _ _⟩, ?_⟩)
      | (refine .inl ⟨_, _, _, _, rfl, fun _hc => ⟨by simp, floor_spec _ _ (by omega) (by omega) (by omega)⟩, ?_⟩)
      | (refine .inl ⟨_, _, _, _, rfl, fun _hc => ⟨by simp, chk1_spec (t.shr a c)⟩, ?_⟩)
      | (refine ⟨_, _, _, _, rfl, fun _hc => ⟨by simp, read1_spec p t⟩, ?_⟩)
      | (refine ⟨_, _, _, _, rfl, fun _hc => ⟨by simp, within_spec _ _ _⟩, ?_⟩)
      | (refine ⟨_, _, _, _, rfl, fun _hc => ⟨by simp, floor_spec _ _ (by omega) (by omega) (by omega)⟩, ?_⟩)
      | (refine ⟨_, _, _, _, rfl, fun _hc => ⟨by simp, chk1_spec (t.shr a c)⟩, ?_⟩)
      | fail); (first | (refine owp_of_exs ?_; simp only [zT, drp, hasN, Bool.or_false, Bool.false_or, Bool.or_true, Bool.true_or, Classical.not_not, zS, vcC, exs, exd, pickV, alS, Al.ob, grd, ex, ov, gt, argE, strp, cnd, sideL, I.os, st, wrap, keep, binA, kseq, kblk, kret, klp, resL, res1, one, ocalls, obj, elems, cells, scalar, vs, pick1, fillA, splice, chop, eqC, Nat.reduceBEq, Nat.reduceAdd, Nat.reduceSub, Nat.reduceLT, Nat.reduceLeDiff, Nat.reduceMul, Nat.reduceEqDiff, cond_true, cond_false, if_true, if_false, reduceIte, implies_true, forall_const, ne_eq]) | (refine pre_of_exd ?_; simp only [zT, drp, hasN, Bool.or_false, Bool.false_or, Bool.or_true, Bool.true_or, Classical.not_not, zS, vcC, exs, exd, pickV, alS, Al.ob, grd, ex, ov, gt, argE, strp, cnd, sideL, I.os, st, wrap, keep, binA, kseq, kblk, kret, klp, resL, res1, one, ocalls, obj, elems, cells, scalar, vs, pick1, fillA, splice, chop, eqC, Nat.reduceBEq, Nat.reduceAdd, Nat.reduceSub, Nat.reduceLT, Nat.reduceLeDiff, Nat.reduceMul, Nat.reduceEqDiff, cond_true, cond_false, if_true, if_false, reduceIte, implies_true, forall_const, ne_eq]) | fail))
    | ((refine .inl ⟨_, _, _, .any, rfl, fun h => absurd h Bool.false_ne_true, ?_⟩); (first | (refine owp_of_exs ?_; simp only [zT, drp, hasN, Bool.or_false, Bool.false_or, Bool.or_true, Bool.true_or, Classical.not_not, zS, vcC, exs, exd, pickV, alS, Al.ob, grd, ex, ov, gt, argE, strp, cnd, sideL, I.os, st, wrap, keep, binA, kseq, kblk, kret, klp, resL, res1, one, ocalls, obj, elems, cells, scalar, vs, pick1, fillA, splice, chop, eqC, Nat.reduceBEq, Nat.reduceAdd, Nat.reduceSub, Nat.reduceLT, Nat.reduceLeDiff, Nat.reduceMul, Nat.reduceEqDiff, cond_true, cond_false, if_true, if_false, reduceIte, implies_true, forall_const, ne_eq]) | fail))
    | (refine ⟨by omega, ?_⟩)
    | fail)
    all_goals first
      | (first | (exfalso; omega) | contradiction | (refine Frz.eq ?_ (by simp); simp only [Pp.Shr]; (repeat' split) <;> first | rfl | contradiction | (exfalso; omega)))
      | trace_state
  · (repeat' first
    | (refine AWPC.of_vcn rfl ?_; simp only [zT, drp, hasN, Bool.or_false, Bool.false_or, Bool.or_true, Bool.true_or, Classical.not_not, zS, vcC, exs, exd, pickV, alS, Al.ob, grd, ex, ov, gt, argE, strp, cnd, sideL, I.os, st, wrap, keep, binA, kseq, kblk, kret, klp, resL, res1, one, ocalls, obj, elems, cells, scalar, vs, pick1, fillA, splice, chop, eqC, Nat.reduceBEq, Nat.reduceAdd, Nat.reduceSub, Nat.reduceLT, Nat.reduceLeDiff, Nat.reduceMul, Nat.reduceEqDiff, cond_true, cond_false, if_true, if_false, reduceIte, implies_true, forall_const, ne_eq])
    | (simp (disch := omega) only [wr64, Int.zero_sub]; try simp only [zT, drp, hasN, Bool.or_false, Bool.false_or, Bool.or_true, Bool.true_or, Classical.not_not, zS, vcC, exs, exd, pickV, alS, Al.ob, grd, ex, ov, gt, argE, strp, cnd, sideL, I.os, st, wrap, keep, binA, kseq, kblk, kret, klp, resL, res1, one, ocalls, obj, elems, cells, scalar, vs, pick1, fillA, splice, chop, eqC, Nat.reduceBEq, Nat.reduceAdd, Nat.reduceSub, Nat.reduceLT, Nat.reduceLeDiff, Nat.reduceMul, Nat.reduceEqDiff, cond_true, cond_false, if_true, if_false, reduceIte, implies_true, forall_const, ne_eq])
    | (refine AWPC.both (fun _ => ?_) (fun _ => ?_))
    | (refine AWPC.imp (fun _ => ?_))
    | ((repeat (refine And.intro (by (intros; simp_all (config := { decide := false }); done)) ?_)); (first
      | (refine .inl ⟨_, _, _, _, rfl, fun _hc => ⟨by simp, read1_spec p t⟩, ?_⟩)
      | (refine ⟨_, _, _, _, rfl, fun _hc => ⟨by simp, read1_spec p t⟩, ?_⟩)
      | fail); (first | (refine owp_of_exs ?_; simp only [zT, drp, hasN, Bool.or_false, Bool.false_or, Bool.or_true, Bool.true_or, Classical.not_not, zS, vcC, exs, exd, pickV, alS, Al.ob, grd, ex, ov, gt, argE, strp, cnd, sideL, I.os, st, wrap, keep, binA, kseq, kblk, kret, klp, resL, res1, one, ocalls, obj, elems, cells, scalar, vs, pick1, fillA, splice, chop, eqC, Nat.reduceBEq, Nat.reduceAdd, Nat.reduceSub, Nat.reduceLT, Nat.reduceLeDiff, Nat.reduceMul, Nat.reduceEqDiff, cond_true, cond_false, if_true, if_false, reduceIte, implies_true, forall_const, ne_eq]) | (refine pre_of_exd ?_; simp only [zT, drp, hasN, Bool.or_false, Bool.false_or, Bool.or_true, Bool.true_or, Classical.not_not, zS, vcC, exs, exd, pickV, alS, Al.ob, grd, ex, ov, gt, argE, strp, cnd, sideL, I.os, st, wrap, keep, binA, kseq, kblk, kret, klp, resL, res1, one, ocalls, obj, elems, cells, scalar, vs, pick1, fillA, splice, chop, eqC, Nat.reduceBEq, Nat.reduceAdd, Nat.reduceSub, Nat.reduceLT, Nat.reduceLeDiff, Nat.reduceMul, Nat.reduceEqDiff, cond_true, cond_false, if_true, if_false, reduceIte, implies_true, forall_const, ne_eq]) | fail))
    | ((refine .inl ⟨_, _, _, .any, rfl, fun h => absurd h Bool.false_ne_true, ?_⟩); (first | (refine owp_of_exs ?_; simp only [zT, drp, hasN, Bool.or_false, Bool.false_or, Bool.or_true, Bool.true_or, Classical.not_not, zS, vcC, exs, exd, pickV, alS, Al.ob, grd, ex, ov, gt, argE, strp, cnd, sideL, I.os, st, wrap, keep, binA, kseq, kblk, kret, klp, resL, res1, one, ocalls, obj, elems, cells, scalar, vs, pick1, fillA, splice, chop, eqC, Nat.reduceBEq, Nat.reduceAdd, Nat.reduceSub, Nat.reduceLT, Nat.reduceLeDiff, Nat.reduceMul, Nat.reduceEqDiff, cond_true, cond_false, if_true, if_false, reduceIte, implies_true, forall_const, ne_eq]) | fail))
    | (refine ⟨by omega, ?_⟩)
    | fail)
    · refine Frz.eq ?_ (by simp); simp [Pp.Shr, h]
    · rename_i h'; exact absurd h' h

theorem rShrink_spec (p : Pp) (t : Pt) (a c : Int) : Pure Try.prog 30 [.agg p.cs, .agg t.cs, n a, n c] (.tup [.agg (p.Shr t a c).1.cs, n (p.Shr t a c).2]) := by
  refine Pure.of_body Try.call30 Try.func30 k30 (Nat.le_of_ble_eq_true rfl) ?_
  unfold c30
  by_cases h : p.perr1 t = 0
  · obtain ⟨hg, ht⟩ := perr0 h
    have ha := hg.al
    have hc := hg.cl
    have m1 : a ≤ 1100 → 900 ≤ a → 0 ≤ t.x * a ∧ t.x * a ≤ 400000 * 1100 := fun h1 h2 => mul_bd ht.1 ht.2.1 (by omega) h1
    have m2 : c ≤ 1100 → 900 ≤ c → 0 ≤ t.y * c ∧ t.y * c ≤ 400000 * 1100 := fun h1 h2 => mul_bd ht.2.2.1 ht.2.2.2.1 (by omega) h1
    (repeat' first
    | (refine AWPC.of_vcn rfl ?_; simp only [zT, drp, hasN, Bool.or_false, Bool.false_or, Bool.or_true, Bool.true_or, Classical.not_not, zS, vcC, exs, exd, pickV, alS, Al.ob, grd, ex, ov, gt, argE, strp, cnd, sideL, I.os, st, wrap, keep, binA, kseq, kblk, kret, klp, resL, res1, one, ocalls, obj, elems, cells, scalar, vs, pick1, fillA, splice, chop, eqC, Nat.reduceBEq, Nat.reduceAdd, Nat.reduceSub, Nat.reduceLT, Nat.reduceLeDiff, Nat.reduceMul, Nat.reduceEqDiff, cond_true, cond_false, if_true, if_false, reduceIte, implies_true, forall_const, ne_eq])
    | (simp (disch := omega) only [wr64, Int.zero_sub]; try simp only [zT, drp, hasN, Bool.or_false, Bool.false_or, Bool.or_true, Bool.true_or, Classical.not_not, zS, vcC, exs, exd, pickV, alS, Al.ob, grd, ex, ov, gt, argE, strp, cnd, sideL, I.os, st, wrap, keep, binA, kseq, kblk, kret, klp, resL, res1, one, ocalls, obj, elems, cells, scalar, vs, pick1, fillA, splice, chop, eqC, Nat.reduceBEq, Nat.reduceAdd, Nat.reduceSub, Nat.reduceLT, Nat.reduceLeDiff, Nat.reduceMul, Nat.reduceEqDiff, cond_true, cond_false, if_true, if_false, reduceIte, implies_true, forall_const, ne_eq])
    | (refine AWPC.both (fun _ => ?_) (fun _ => ?_))
    | (refine AWPC.imp (fun _ => ?_))
    | ((repeat (refine And.intro (by (intros; simp_all (config := { decide := false }); done)) ?_)); (first
      | (refine .inl ⟨_, _, _, _, rfl, fun _hc => ⟨by simp, rcheck_spec p t⟩, ?_⟩)
      | (refine .inl ⟨_, _, _, _, rfl, fun _hc => ⟨by simp, rwithin_spec _ _ _⟩, ?_⟩)
      | (refine .inl ⟨_, _, _, _, rfl, fun _hc => ⟨by simp, rfloor_spec _ _ (by omega) (by omega) (by omega) (by omega)⟩, ?_⟩)
      | (refine .inl ⟨_, _, _, _, rfl, fun _hc => ⟨by simp, rright_spec (t.shr a c)⟩, ?_⟩)
      | (refine ⟨_, _, _, _, rfl, fun _hc => ⟨by simp, rcheck_spec p t⟩, ?_⟩)
      | (refine ⟨_, _, _, _, rfl, fun _hc => ⟨by simp, rwithin_spec _ _ _⟩, ?_⟩)
      | (refine ⟨_, _, _, _, rfl, fun _hc => ⟨by simp, rfloor_spec _ _ (by omega) (by omega) (by omega) (by omega)⟩, ?_⟩)
      | (refine ⟨_, _, _, _, rfl, fun _hc => ⟨by simp, rright_spec (t.shr a c)⟩, ?_⟩)
      | fail); (first | (refine owp_of_exs ?_; simp only [zT, drp, hasN, Bool.or_false, Bool.false_or, Bool.or_true, Bool.true_or, Classical.not_not, zS, vcC, exs, exd, pickV, alS, Al.ob, grd, ex, ov, gt, argE, strp, cnd, sideL, I.os, st, wrap, keep, binA, kseq, kblk, kret, klp, resL, res1, one, ocalls, obj, elems, cells, scalar, vs, pick1, fillA, splice, chop, eqC, Nat.reduceBEq, Nat.reduceAdd, Nat.reduceSub, Nat.reduceLT, Nat.reduceLeDiff, Nat.reduceMul, Nat.reduceEqDiff, cond_true, cond_false, if_true, if_false, reduceIte, implies_true, forall_const, ne_eq]) | (refine pre_of_exd ?_; simp only [zT, drp, hasN, Bool.or_false, Bool.false_or, Bool.or_true, Bool.true_or, Classical.not_not, zS, vcC, exs, exd, pickV, alS, Al.ob, grd, ex, ov, gt, argE, strp, cnd, sideL, I.os, st, wrap, keep, binA, kseq, kblk, kret, klp, resL, res1, one, ocalls, obj, elems, cells, scalar, vs, pick1, fillA, splice, chop, eqC, Nat.reduceBEq, Nat.reduceAdd, Nat.reduceSub, Nat.reduceLT, Nat.reduceLeDiff, Nat.reduceMul, Nat.reduceEqDiff, cond_true, cond_false, if_true, if_false, reduceIte, implies_true, forall_const, ne_eq]) | fail))
    | ((refine .inl ⟨_, _, _, .any, rfl, fun h => absurd h Bool.false_ne_true, ?_⟩); (first | (refine owp_of_exs ?_; simp only [zT, drp, hasN, Bool.or_false, Bool.false_or, Bool.or_true, Bool.true_or, Classical.not_not, zS, vcC, exs, exd, pickV, alS, Al.ob, grd, ex, ov, gt, argE, strp, cnd, sideL, I.os, st, wrap, keep, binA, kseq, kblk, kret, klp, resL, res1, one, ocalls, obj, elems, cells, scalar, vs, pick1, fillA, splice, chop, eqC, Nat.reduceBEq, Nat.reduceAdd, Nat.reduceSub, Nat.reduceLT, Nat.reduceLeDiff, Nat.reduceMul, Nat.reduceEqDiff, cond_true, cond_false, if_true, if_false, reduceIte, implies_true, forall_const, ne_eq]) | fail))
    | (refine ⟨by omega, ?_⟩)
    | fail)
    all_goals first
      | (first | (exfalso; omega) | contradiction | (refine Frz.eq ?_ (by simp); simp only [Pp.Shr]; (repeat' split) <;> first | rfl | contradiction | (exfalso; omega)))
      | trace_state
  · (repeat' first
    | (refine AWPC.of_vcn rfl ?_; simp only [zT, drp, hasN, Bool.or_false, Bool.false_or, Bool.or_true, Bool.true_or, Classical.not_not, zS, vcC, exs, exd, pickV, alS, Al.ob, grd, ex, ov, gt, argE, strp, cnd, sideL, I.os, st, wrap, keep, binA, kseq, kblk, kret, klp, resL, res1, one, ocalls, obj, elems, cells, scalar, vs, pick1, fillA, splice, chop, eqC, Nat.reduceBEq, Nat.reduceAdd, Nat.reduceSub, Nat.reduceLT, Nat.reduceLeDiff, Nat.reduceMul, Nat.reduceEqDiff, cond_true, cond_false, if_true, if_false, reduceIte, implies_true, forall_const, ne_eq])
    | (simp (disch := omega) only [wr64, Int.zero_sub]; try simp only [zT, drp, hasN, Bool.or_false, Bool.false_or, Bool.or_true, Bool.true_or, Classical.not_not, zS, vcC, exs, exd, pickV, alS, Al.ob, grd, ex, ov, gt, argE, strp, cnd, sideL, I.os, st, wrap, keep, binA, kseq, kblk, kret, klp, resL, res1, one, ocalls, obj, elems, cells, scalar, vs, pick1, fillA, splice, chop, eqC, Nat.reduceBEq, Nat.reduceAdd, Nat.reduceSub, Nat.reduceLT, Nat.reduceLeDiff, Nat.reduceMul, Nat.reduceEqDiff, cond_true, cond_false, if_true, if_false, reduceIte, implies_true, forall_const, ne_eq])
    | (refine AWPC.both (fun _ => ?_) (fun _ => ?_))
    | (refine AWPC.imp (fun _ => ?_))
    | ((repeat (refine And.intro (by (intros; simp_all (config := { decide := false }); done)) ?_)); (first
      | (refine .inl ⟨_, _, _, _, rfl, fun _hc => ⟨by simp, rcheck_spec p t⟩, ?_⟩)
      | (refine ⟨_, _, _, _, rfl, fun _hc => ⟨by simp, rcheck_spec p t⟩, ?_⟩)
      | fail); (first | (refine owp_of_exs ?_; simp only [zT, drp, hasN, Bool.or_false, Bool.false_or, Bool.or_true, Bool.true_or, Classical.not_not, zS, vcC, exs, exd, pickV, alS, Al.ob, grd, ex, ov, gt, argE, strp, cnd, sideL, I.os, st, wrap, keep, binA, kseq, kblk, kret, klp, resL, res1, one, ocalls, obj, elems, cells, scalar, vs, pick1, fillA, splice, chop, eqC, Nat.reduceBEq, Nat.reduceAdd, Nat.reduceSub, Nat.reduceLT, Nat.reduceLeDiff, Nat.reduceMul, Nat.reduceEqDiff, cond_true, cond_false, if_true, if_false, reduceIte, implies_true, forall_const, ne_eq]) | (refine pre_of_exd ?_; simp only [zT, drp, hasN, Bool.or_false, Bool.false_or, Bool.or_true, Bool.true_or, Classical.not_not, zS, vcC, exs, exd, pickV, alS, Al.ob, grd, ex, ov, gt, argE, strp, cnd, sideL, I.os, st, wrap, keep, binA, kseq, kblk, kret, klp, resL, res1, one, ocalls, obj, elems, cells, scalar, vs, pick1, fillA, splice, chop, eqC, Nat.reduceBEq, Nat.reduceAdd, Nat.reduceSub, Nat.reduceLT, Nat.reduceLeDiff, Nat.reduceMul, Nat.reduceEqDiff, cond_true, cond_false, if_true, if_false, reduceIte, implies_true, forall_const, ne_eq]) | fail))
    | ((refine .inl ⟨_, _, _, .any, rfl, fun h => absurd h Bool.false_ne_true, ?_⟩); (first | (refine owp_of_exs ?_; simp only [zT, drp, hasN, Bool.or_false, Bool.false_or, Bool.or_true, Bool.true_or, Classical.not_not, zS, vcC, exs, exd, pickV, alS, Al.ob, grd, ex, ov, gt, argE, strp, cnd, sideL, I.os, st, wrap, keep, binA, kseq, kblk, kret, klp, resL, res1, one, ocalls, obj, elems, cells, scalar, vs, pick1, fillA, splice, chop, eqC, Nat.reduceBEq, Nat.reduceAdd, Nat.reduceSub, Nat.reduceLT, Nat.reduceLeDiff, Nat.reduceMul, Nat.reduceEqDiff, cond_true, cond_false, if_true, if_false, reduceIte, implies_true, forall_const, ne_eq]) | fail))
    | (refine ⟨by omega, ?_⟩)
    | fail)
    · refine Frz.eq ?_ (by simp); simp [Pp.Shr, h]
    · rename_i h'; exact absurd h' h

theorem rknown_spec (s : Sp) (k x h : Int) (hk : -1 ≤ k) (hk : k ≤ 800000) (hx : 0 ≤ x ∧ x ≤ 400000) (hh : 0 ≤ h ∧ h ≤ 5000) : Pure Try.prog 87 [.agg s.cs, n k, n x, n h] (.agg (s.known k x h).cs) := by
  refine Pure.of_body Try.call87 Try.func87 k87 (Nat.le_of_ble_eq_true rfl) ?_
  unfold c87
  (repeat' first
    | (refine AWPC.of_vcn rfl ?_; simp only [zT, drp, hasN, Bool.or_false, Bool.false_or, Bool.or_true, Bool.true_or, Classical.not_not, zS, vcC, exs, exd, pickV, alS, Al.ob, grd, ex, ov, gt, argE, strp, cnd, sideL, I.os, st, wrap, keep, binA, kseq, kblk, kret, klp, resL, res1, one, ocalls, obj, elems, cells, scalar, vs, pick1, fillA, splice, chop, eqC, Nat.reduceBEq, Nat.reduceAdd, Nat.reduceSub, Nat.reduceLT, Nat.reduceLeDiff, Nat.reduceMul, Nat.reduceEqDiff, cond_true, cond_false, if_true, if_false, reduceIte, implies_true, forall_const, ne_eq])
    | (simp (disch := omega) only [wr64, Int.zero_sub]; try simp only [zT, drp, hasN, Bool.or_false, Bool.false_or, Bool.or_true, Bool.true_or, Classical.not_not, zS, vcC, exs, exd, pickV, alS, Al.ob, grd, ex, ov, gt, argE, strp, cnd, sideL, I.os, st, wrap, keep, binA, kseq, kblk, kret, klp, resL, res1, one, ocalls, obj, elems, cells, scalar, vs, pick1, fillA, splice, chop, eqC, Nat.reduceBEq, Nat.reduceAdd, Nat.reduceSub, Nat.reduceLT, Nat.reduceLeDiff, Nat.reduceMul, Nat.reduceEqDiff, cond_true, cond_false, if_true, if_false, reduceIte, implies_true, forall_const, ne_eq])
    | (refine AWPC.both (fun _ => ?_) (fun _ => ?_))
    | (refine AWPC.imp (fun _ => ?_))
    | ((repeat (refine And.intro (by (intros; simp_all (config := { decide := false }); done)) ?_)); (first
      | (refine .inl ⟨_, _, _, _, rfl, fun _hc => ⟨by simp, rfloor_spec _ _ (by omega) (by omega) (by omega) (by omega)⟩, ?_⟩)
      | (refine .inl ⟨_, _, _, _, rfl, fun _hc => ⟨by simp, rceil_spec _ _ (by omega) (by omega) (by omega) (by omega)⟩, ?_⟩)
      | (refine ⟨_, _, _, _, rfl, fun _hc => ⟨by simp, rfloor_spec _ _ (by omega) (by omega) (by omega) (by omega)⟩, ?_⟩)
      | (refine ⟨_, _, _, _, rfl, fun _hc => ⟨by simp, rceil_spec _ _ (by omega) (by omega) (by omega) (by omega)⟩, ?_⟩)
      | fail); (first | (refine owp_of_exs ?_; simp only [zT, drp, hasN, Bool.or_false, Bool.false_or, Bool.or_true, Bool.true_or, Classical.not_not, zS, vcC, exs, exd, pickV, alS, Al.ob, grd, ex, ov, gt, argE, strp, cnd, sideL, I.os, st, wrap, keep, binA, kseq, kblk, kret, klp, resL, res1, one, ocalls, obj, elems, cells, scalar, vs, pick1, fillA, splice, chop, eqC, Nat.reduceBEq, Nat.reduceAdd, Nat.reduceSub, Nat.reduceLT, Nat.reduceLeDiff, Nat.reduceMul, Nat.reduceEqDiff, cond_true, cond_false, if_true, if_false, reduceIte, implies_true, forall_const, ne_eq]) | (refine pre_of_exd ?_; simp only [zT, drp, hasN, Bool.or_false, Bool.false_or, Bool.or_true, Bool.true_or, Classical.not_not, zS, vcC, exs, exd, pickV, alS, Al.ob, grd, ex, ov, gt, argE, strp, cnd, sideL, I.os, st, wrap, keep, binA, kseq, kblk, kret, klp, resL, res1, one, ocalls, obj, elems, cells, scalar, vs, pick1, fillA, splice, chop, eqC, Nat.reduceBEq, Nat.reduceAdd, Nat.reduceSub, Nat.reduceLT, Nat.reduceLeDiff, Nat.reduceMul, Nat.reduceEqDiff, cond_true, cond_false, if_true, if_false, reduceIte, implies_true, forall_const, ne_eq]) | fail))
    | ((refine .inl ⟨_, _, _, .any, rfl, fun h => absurd h Bool.false_ne_true, ?_⟩); (first | (refine owp_of_exs ?_; simp only [zT, drp, hasN, Bool.or_false, Bool.false_or, Bool.or_true, Bool.true_or, Classical.not_not, zS, vcC, exs, exd, pickV, alS, Al.ob, grd, ex, ov, gt, argE, strp, cnd, sideL, I.os, st, wrap, keep, binA, kseq, kblk, kret, klp, resL, res1, one, ocalls, obj, elems, cells, scalar, vs, pick1, fillA, splice, chop, eqC, Nat.reduceBEq, Nat.reduceAdd, Nat.reduceSub, Nat.reduceLT, Nat.reduceLeDiff, Nat.reduceMul, Nat.reduceEqDiff, cond_true, cond_false, if_true, if_false, reduceIte, implies_true, forall_const, ne_eq]) | fail))
    | (refine ⟨by omega, ?_⟩)
    | fail)
  all_goals first
    | (exfalso; omega)
    | (refine Frz.eq ?_ (by simp); rename_i h1; rw [Sp.known, if_pos (by omega)]; done)
    | (refine Frz.eq ?_ (by simp); rename_i h1 h2; rw [Sp.known, if_neg (by omega), if_pos (by omega)]; simp [Int.neg_mul]; done)
    | (refine Frz.eq ?_ (by simp); rename_i h1 h2; rw [Sp.known, if_neg (by omega), if_neg (by omega)]; done)
    | trace_state

theorem rCalibrate_spec (p : Pp) (x y : Int) (t : Pt) : Pure Try.prog 32 [.agg p.cs, n x, n y, .agg t.cs] (.tup [.agg (p.Calib x y t).1.cs, n (p.Calib x y t).2]) := by
  refine Pure.of_body Try.call32 Try.func32 k32 (Nat.le_of_ble_eq_true rfl) ?_
  unfold c32
  by_cases h : p.perr1 t = 0
  · obtain ⟨hg, ht⟩ := perr0 h
    (repeat' first
    | (refine AWPC.of_vcn rfl ?_; simp only [zT, drp, hasN, Bool.or_false, Bool.false_or, Bool.or_true, Bool.true_or, Classical.not_not, zS, vcC, exs, exd, pickV, alS, Al.ob, grd, ex, ov, gt, argE, strp, cnd, sideL, I.os, st, wrap, keep, binA, kseq, kblk, kret, klp, resL, res1, one, ocalls, obj, elems, cells, scalar, vs, pick1, fillA, splice, chop, eqC, Nat.reduceBEq, Nat.reduceAdd, Nat.reduceSub, Nat.reduceLT, Nat.reduceLeDiff, Nat.reduceMul, Nat.reduceEqDiff, cond_true, cond_false, if_true, if_false, reduceIte, implies_true, forall_const, ne_eq])
    | (simp (disch := omega) only [wr64, Int.zero_sub]; try simp only [zT, drp, hasN, Bool.or_false, Bool.false_or, Bool.or_true, Bool.true_or, Classical.not_not, zS, vcC, exs, exd, pickV, alS, Al.ob, grd, ex, ov, gt, argE, strp, cnd, sideL, I.os, st, wrap, keep, binA, kseq, kblk, kret, klp, resL, res1, one, ocalls, obj, elems, cells, scalar, vs, pick1, fillA, splice, chop, eqC, Nat.reduceBEq, Nat.reduceAdd, Nat.reduceSub, Nat.reduceLT, Nat.reduceLeDiff, Nat.reduceMul, Nat.reduceEqDiff, cond_true, cond_false, if_true, if_false, reduceIte, implies_true, forall_const, ne_eq])
    | (refine AWPC.both (fun _ => ?_) (fun _ => ?_))
    | (refine AWPC.imp (fun _ => ?_))
    | ((repeat (refine And.intro (by (intros; simp_all (config := { decide := false }); done)) ?_)); (first
      | (refine .inl ⟨_, _, _, _, rfl, fun _hc => ⟨by simp, rcheck_spec p t⟩, ?_⟩)
      | (refine .inl ⟨_, _, _, _, rfl, fun _hc => ⟨by simp, rwithin_spec _ _ _⟩, ?_⟩)
      | (refine .inl ⟨_, _, _, _, rfl, fun _hc => ⟨by simp, rknown_spec p.al x t.x t.h (by omega) (by omega) ⟨ht.1, ht.2.1⟩ ⟨ht.2.2.2.2.1, ht.2.2.2.2.2⟩⟩, ?_⟩)
      | (refine .inl ⟨_, _, _, _, rfl, fun _hc => ⟨by simp, rknown_spec p.cl y t.y t.h (by omega) (by omega) ⟨ht.2.2.1, ht.2.2.2.1⟩ ⟨ht.2.2.2.2.1, ht.2.2.2.2.2⟩⟩, ?_⟩)
      | (refine ⟨_, _, _, _, rfl, fun _hc => ⟨by simp, rcheck_spec p t⟩, ?_⟩)
      | (refine ⟨_, _, _, _, rfl, fun _hc => ⟨by simp, rwithin_spec _ _ _⟩, ?_⟩)
      | (refine ⟨_, _, _, _, rfl, fun _hc => ⟨by simp, rknown_spec p.al x t.x t.h (by omega) (by omega) ⟨ht.1, ht.2.1⟩ ⟨ht.2.2.2.2.1, ht.2.2.2.2.2⟩⟩, ?_⟩)
      | (refine ⟨_, _, _, _, rfl, fun _hc => ⟨by simp, rknown_spec p.cl y t.y t.h (by omega) (by omega) ⟨ht.2.2.1, ht.2.2.2.1⟩ ⟨ht.2.2.2.2.1, ht.2.2.2.2.2⟩⟩, ?_⟩)
      | fail); (first | (refine owp_of_exs ?_; simp only [zT, drp, hasN, Bool.or_false, Bool.false_or, Bool.or_true, Bool.true_or, Classical.not_not, zS, vcC, exs, exd, pickV, alS, Al.ob, grd, ex, ov, gt, argE, strp, cnd, sideL, I.os, st, wrap, keep, binA, kseq, kblk, kret, klp, resL, res1, one, ocalls, obj, elems, cells, scalar, vs, pick1, fillA, splice, chop, eqC, Nat.reduceBEq, Nat.reduceAdd, Nat.reduceSub, Nat.reduceLT, Nat.reduceLeDiff, Nat.reduceMul, Nat.reduceEqDiff, cond_true, cond_false, if_true, if_false, reduceIte, implies_true, forall_const, ne_eq]) | (refine pre_of_exd ?_; simp only [zT, drp, hasN, Bool.or_false, Bool.false_or, Bool.or_true, Bool.true_or, Classical.not_not, zS, vcC, exs, exd, pickV, alS, Al.ob, grd, ex, ov, gt, argE, strp, cnd, sideL, I.os, st, wrap, keep, binA, kseq, kblk, kret, klp, resL, res1, one, ocalls, obj, elems, cells, scalar, vs, pick1, fillA, splice, chop, eqC, Nat.reduceBEq, Nat.reduceAdd, Nat.reduceSub, Nat.reduceLT, Nat.reduceLeDiff, Nat.reduceMul, Nat.reduceEqDiff, cond_true, cond_false, if_true, if_false, reduceIte, implies_true, forall_const, ne_eq]) | fail))
    | ((refine .inl ⟨_, _, _, .any, rfl, fun h => absurd h Bool.false_ne_true, ?_⟩); (first | (refine owp_of_exs ?_; simp only [zT, drp, hasN, Bool.or_false, Bool.false_or, Bool.or_true, Bool.true_or, Classical.not_not, zS, vcC, exs, exd, pickV, alS, Al.ob, grd, ex, ov, gt, argE, strp, cnd, sideL, I.os, st, wrap, keep, binA, kseq, kblk, kret, klp, resL, res1, one, ocalls, obj, elems, cells, scalar, vs, pick1, fillA, splice, chop, eqC, Nat.reduceBEq, Nat.reduceAdd, Nat.reduceSub, Nat.reduceLT, Nat.reduceLeDiff, Nat.reduceMul, Nat.reduceEqDiff, cond_true, cond_false, if_true, if_false, reduceIte, implies_true, forall_const, ne_eq]) | fail))
    | (refine ⟨by omega, ?_⟩)
    | fail)
    all_goals first
      | (exfalso; omega)
      | (refine Frz.eq ?_ (by simp); rw [Pp.Calib, if_neg (by simp [h]), if_pos (by omega)]; rfl)
      | (refine Frz.eq ?_ (by simp); rw [Pp.Calib, if_neg (by simp [h]), if_neg (by omega), if_pos (by assumption)]; rfl)
      | (refine Frz.eq ?_ (by simp); rw [Pp.Calib, if_neg (by simp [h]), if_neg (by omega), if_neg (by assumption)]; rfl)
  · (repeat' first
    | (refine AWPC.of_vcn rfl ?_; simp only [zT, drp, hasN, Bool.or_false, Bool.false_or, Bool.or_true, Bool.true_or, Classical.not_not, zS, vcC, exs, exd, pickV, alS, Al.ob, grd, ex, ov, gt, argE, strp, cnd, sideL, I.os, st, wrap, keep, binA, kseq, kblk, kret, klp, resL, res1, one, ocalls, obj, elems, cells, scalar, vs, pick1, fillA, splice, chop, eqC, Nat.reduceBEq, Nat.reduceAdd, Nat.reduceSub, Nat.reduceLT, Nat.reduceLeDiff, Nat.reduceMul, Nat.reduceEqDiff, cond_true, cond_false, if_true, if_false, reduceIte, implies_true, forall_const, ne_eq])
    | (simp (disch := omega) only [wr64, Int.zero_sub]; try simp only [zT, drp, hasN, Bool.or_false, Bool.false_or, Bool.or_true, Bool.true_or, Classical.not_not, zS, vcC, exs, exd, pickV, alS, Al.ob, grd, ex, ov, gt, argE, strp, cnd, sideL, I.os, st, wrap, keep, binA, kseq, kblk, kret, klp, resL, res1, one, ocalls, obj, elems, cells, scalar, vs, pick1, fillA, splice, chop, eqC, Nat.reduceBEq, Nat.reduceAdd, Nat.reduceSub, Nat.reduceLT, Nat.reduceLeDiff, Nat.reduceMul, Nat.reduceEqDiff, cond_true, cond_false, if_true, if_false, reduceIte, implies_true, forall_const, ne_eq])
    | (refine AWPC.both (fun _ => ?_) (fun _ => ?_))
    | (refine AWPC.imp (fun _ => ?_))
    | ((repeat (refine And.intro (by (intros; simp_all (config := { decide := false }); done)) ?_)); (first
      | (refine .inl ⟨_, _, _, _, rfl, fun _hc => ⟨by simp, rcheck_spec p t⟩, ?_⟩)
      | (refine ⟨_, _, _, _, rfl, fun _hc => ⟨by simp, rcheck_spec p t⟩, ?_⟩)
      | fail); (first | (refine owp_of_exs ?_; simp only [zT, drp, hasN, Bool.or_false, Bool.false_or, Bool.or_true, Bool.true_or, Classical.not_not, zS, vcC, exs, exd, pickV, alS, Al.ob, grd, ex, ov, gt, argE, strp, cnd, sideL, I.os, st, wrap, keep, binA, kseq, kblk, kret, klp, resL, res1, one, ocalls, obj, elems, cells, scalar, vs, pick1, fillA, splice, chop, eqC, Nat.reduceBEq, Nat.reduceAdd, Nat.reduceSub, Nat.reduceLT, Nat.reduceLeDiff, Nat.reduceMul, Nat.reduceEqDiff, cond_true, cond_false, if_true, if_false, reduceIte, implies_true, forall_const, ne_eq]) | (refine pre_of_exd ?_; simp only [zT, drp, hasN, Bool.or_false, Bool.false_or, Bool.or_true, Bool.true_or, Classical.not_not, zS, vcC, exs, exd, pickV, alS, Al.ob, grd, ex, ov, gt, argE, strp, cnd, sideL, I.os, st, wrap, keep, binA, kseq, kblk, kret, klp, resL, res1, one, ocalls, obj, elems, cells, scalar, vs, pick1, fillA, splice, chop, eqC, Nat.reduceBEq, Nat.reduceAdd, Nat.reduceSub, Nat.reduceLT, Nat.reduceLeDiff, Nat.reduceMul, Nat.reduceEqDiff, cond_true, cond_false, if_true, if_false, reduceIte, implies_true, forall_const, ne_eq]) | fail))
    | ((refine .inl ⟨_, _, _, .any, rfl, fun h => absurd h Bool.false_ne_true, ?_⟩); (first | (refine owp_of_exs ?_; simp only [zT, drp, hasN, Bool.or_false, Bool.false_or, Bool.or_true, Bool.true_or, Classical.not_not, zS, vcC, exs, exd, pickV, alS, Al.ob, grd, ex, ov, gt, argE, strp, cnd, sideL, I.os, st, wrap, keep, binA, kseq, kblk, kret, klp, resL, res1, one, ocalls, obj, elems, cells, scalar, vs, pick1, fillA, splice, chop, eqC, Nat.reduceBEq, Nat.reduceAdd, Nat.reduceSub, Nat.reduceLT, Nat.reduceLeDiff, Nat.reduceMul, Nat.reduceEqDiff, cond_true, cond_false, if_true, if_false, reduceIte, implies_true, forall_const, ne_eq]) | fail))
    | (refine ⟨by omega, ?_⟩)
    | fail)
    · refine Frz.eq ?_ (by simp); rw [Pp.Calib, if_pos h]; rfl
    · rename_i h'; exact absurd h' h
end Go.Proofs.Ytgpdckmbojmlpaa
