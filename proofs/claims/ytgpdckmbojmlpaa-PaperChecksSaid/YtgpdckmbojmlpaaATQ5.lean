import Derived.Test.YtgpdckmbojmlpaaATQ4
import Derived.Test.YtgpdckmbojmlpaaRows
namespace Go.Proofs.Ytgpdckmbojmlpaa
open Go.Abs
set_option linter.unusedVariables false
set_option linter.unusedSimpArgs false
set_option maxHeartbeats 4000000
set_option maxRecDepth 100000
-- aneroid/aneroidlaw01.PaperMeans
def c7 : CF := ⟨100,
 (.seq (.ops [
 ⟨(some 5), .box false 25 10 (.t 0), none⟩,
 ⟨(some 6), .box false 32 3 (.t 1), none⟩,
 ⟨(some 10), .mv (.c (.bool false)), none⟩] [2, 3, 4, 5, 6])
 (.seq (.ops [
 ⟨(some 24), .load (some 10) (.t 5), none⟩,
 ⟨(some 25), .load (some 3) (.t 6), none⟩,
 ⟨(some 26), .mv (.t 2), none⟩,
 ⟨(some 27), .call (.f 21) [(.t 24), (.t 25), (.t 26)], none⟩,
 ⟨(some 23), .mv (.t 27), none⟩,
 ⟨(some 28), .ext 0 (.t 23), none⟩,
 ⟨(some 29), .ext 1 (.t 23), none⟩,
 ⟨(some 11), .mv (.t 28), none⟩,
 ⟨(some 12), .mv (.t 29), none⟩] [2, 3, 4, 5, 6, 11, 12])
 (.seq (.ops [
 ⟨(some 31), .load (some 10) (.t 5), none⟩,
 ⟨(some 32), .load (some 3) (.t 6), none⟩,
 ⟨(some 33), .mv (.t 2), none⟩,
 ⟨(some 34), .call (.f 28) [(.t 31), (.t 32), (.t 33)], none⟩,
 ⟨(some 30), .mv (.t 34), none⟩,
 ⟨(some 35), .ext 0 (.t 30), none⟩,
 ⟨(some 36), .ext 1 (.t 30), none⟩,
 ⟨(some 13), .mv (.t 35), none⟩,
 ⟨(some 14), .mv (.t 36), none⟩] [3, 4, 5, 6, 11, 12, 13, 14])
 (.seq (.ops [
 ⟨(some 38), .load (some 10) (.t 5), none⟩,
 ⟨(some 39), .load (some 3) (.t 6), none⟩,
 ⟨(some 40), .mv (.t 3), none⟩,
 ⟨(some 41), .mv (.t 4), none⟩,
 ⟨(some 42), .call (.f 29) [(.t 38), (.t 39), (.t 40), (.t 41)], none⟩,
 ⟨(some 37), .mv (.t 42), none⟩,
 ⟨(some 43), .ext 0 (.t 37), none⟩,
 ⟨(some 44), .ext 1 (.t 37), none⟩,
 ⟨(some 15), .alloc 32 3 [.int .i64 0, .int .i64 0, .int .i64 0], none⟩,
 ⟨none, .store 3 (.t 15) (.t 43), none⟩,
 ⟨(some 16), .mv (.t 44), none⟩] [3, 4, 5, 6, 11, 12, 13, 14, 15, 16])
 (.seq (.ops [
 ⟨(some 46), .load (some 10) (.t 5), none⟩,
 ⟨(some 47), .load (some 3) (.t 6), none⟩,
 ⟨(some 48), .mv (.t 3), none⟩,
 ⟨(some 49), .mv (.t 4), none⟩,
 ⟨(some 50), .call (.f 30) [(.t 46), (.t 47), (.t 48), (.t 49)], none⟩,
 ⟨(some 45), .mv (.t 50), none⟩,
 ⟨(some 51), .ext 0 (.t 45), none⟩,
 ⟨(some 52), .ext 1 (.t 45), none⟩,
 ⟨(some 17), .alloc 32 3 [.int .i64 0, .int .i64 0, .int .i64 0], none⟩,
 ⟨none, .store 3 (.t 17) (.t 51), none⟩,
 ⟨(some 18), .mv (.t 52), none⟩] [3, 4, 5, 6, 11, 12, 13, 14, 15, 16, 17, 18])
 (.seq (.ops [
 ⟨(some 54), .load (some 10) (.t 5), none⟩,
 ⟨(some 55), .mv (.t 3), none⟩,
 ⟨(some 56), .mv (.t 4), none⟩,
 ⟨(some 57), .load (some 3) (.t 6), none⟩,
 ⟨(some 58), .call (.f 31) [(.t 54), (.t 55), (.t 56), (.t 57)], none⟩,
 ⟨(some 53), .mv (.t 58), none⟩,
 ⟨(some 59), .ext 0 (.t 53), none⟩,
 ⟨(some 60), .ext 1 (.t 53), none⟩,
 ⟨(some 19), .alloc 25 10 [.int .i64 0, .int .i64 0, .int .i64 0, .int .i64 0, .int .i64 0, .int .i64 0, .int .i64 0, .int .i64 0, .int .i64 0, .int .i64 0], none⟩,
 ⟨none, .store 10 (.t 19) (.t 59), none⟩,
 ⟨(some 20), .mv (.t 60), none⟩] [3, 4, 5, 6, 11, 12, 13, 14, 15, 16, 17, 18, 19, 20])
 (.seq (.ops [
 ⟨(some 62), .load (some 10) (.t 5), none⟩,
 ⟨(some 63), .mv (.t 3), none⟩,
 ⟨(some 64), .mv (.t 4), none⟩,
 ⟨(some 65), .load (some 3) (.t 6), none⟩,
 ⟨(some 66), .call (.f 32) [(.t 62), (.t 63), (.t 64), (.t 65)], none⟩,
 ⟨(some 61), .mv (.t 66), none⟩,
 ⟨(some 67), .ext 0 (.t 61), none⟩,
 ⟨(some 68), .ext 1 (.t 61), none⟩,
 ⟨(some 21), .alloc 25 10 [.int .i64 0, .int .i64 0, .int .i64 0, .int .i64 0, .int .i64 0, .int .i64 0, .int .i64 0, .int .i64 0, .int .i64 0, .int .i64 0], none⟩,
 ⟨none, .store 10 (.t 21) (.t 67), none⟩,
 ⟨(some 22), .mv (.t 68), none⟩] [11, 12, 13, 14, 15, 16, 17, 18, 19, 20, 21, 22])
 (.seq (.ops [
 ⟨(some 69), .call (.f 18) [], none⟩,
 ⟨(some 70), .mv (.t 69), none⟩,
 ⟨(some 71), .mv (.t 11), (some (70, true))⟩,
 ⟨(some 72), .mv (.t 13), (some (70, true))⟩,
 ⟨(some 73), .call (.f 33) [(.t 71), (.t 72)], (some (70, true))⟩,
 ⟨(some 74), .pick (.t 70) (.t 73) (.c (.bool false)), none⟩,
 ⟨(some 75), .mv (.t 74), none⟩,
 ⟨(some 76), .mv (.t 12), (some (75, true))⟩,
 ⟨(some 77), .mv (.t 14), (some (75, true))⟩,
 ⟨(some 78), .bin .eql (.t 76) (.t 77), (some (75, true))⟩,
 ⟨(some 79), .pick (.t 75) (.t 78) (.c (.bool false)), none⟩,
 ⟨(some 80), .mv (.t 79), none⟩,
 ⟨(some 81), .load (some 3) (.t 15), (some (80, true))⟩,
 ⟨(some 82), .load (some 3) (.t 17), (some (80, true))⟩,
 ⟨(some 83), .eqs false [some .i64, some .i64, some .i64] (.t 81) (.t 82), (some (80, true))⟩,
 ⟨(some 84), .pick (.t 80) (.t 83) (.c (.bool false)), none⟩,
 ⟨(some 85), .mv (.t 84), none⟩,
 ⟨(some 86), .mv (.t 16), (some (85, true))⟩,
 ⟨(some 87), .mv (.t 18), (some (85, true))⟩,
 ⟨(some 88), .bin .eql (.t 86) (.t 87), (some (85, true))⟩,
 ⟨(some 89), .pick (.t 85) (.t 88) (.c (.bool false)), none⟩,
 ⟨(some 90), .mv (.t 89), none⟩,
 ⟨(some 91), .load (some 10) (.t 19), (some (90, true))⟩,
 ⟨(some 92), .load (some 10) (.t 21), (some (90, true))⟩,
 ⟨(some 93), .eqs false [some .i64, some .i64, some .i64, some .i64, some .i64, some .i64, some .i64, some .i64, some .i64, some .i64] (.t 91) (.t 92), (some (90, true))⟩,
 ⟨(some 94), .pick (.t 90) (.t 93) (.c (.bool false)), none⟩,
 ⟨(some 95), .mv (.t 94), none⟩,
 ⟨(some 96), .mv (.t 20), (some (95, true))⟩,
 ⟨(some 97), .mv (.t 22), (some (95, true))⟩,
 ⟨(some 98), .bin .eql (.t 96) (.t 97), (some (95, true))⟩,
 ⟨(some 99), .pick (.t 95) (.t 98) (.c (.bool false)), none⟩,
 ⟨(some 10), .mv (.t 99), none⟩] [10])
 .ret)))))))),
 [.t 10]⟩
-- aneroid/aneroidlaw01.PaperPlaces
def c9 : CF := ⟨110,
 (.seq (.ops [
 ⟨(some 2), .box false 25 10 (.t 0), none⟩,
 ⟨(some 3), .box false 32 3 (.t 1), none⟩,
 ⟨(some 4), .mv (.c (.bool false)), none⟩] [2, 3])
 (.seq (.ops [
 ⟨(some 22), .load (some 10) (.t 2), none⟩,
 ⟨(some 23), .load (some 3) (.t 3), none⟩,
 ⟨(some 24), .call (.f 34) [(.t 22), (.t 23)], none⟩,
 ⟨(some 21), .mv (.t 24), none⟩,
 ⟨(some 25), .ext 0 (.t 21), none⟩,
 ⟨(some 26), .ext 1 (.t 21), none⟩,
 ⟨(some 5), .alloc 23 2 [.int .i64 0, .int .i64 0], none⟩,
 ⟨none, .store 2 (.t 5) (.t 25), none⟩,
 ⟨(some 6), .mv (.t 26), none⟩] [2, 3, 5, 6])
 (.seq (.ops [
 ⟨(some 28), .load (some 10) (.t 2), none⟩,
 ⟨(some 29), .load (some 3) (.t 3), none⟩,
 ⟨(some 30), .call (.f 39) [(.t 28), (.t 29)], none⟩,
 ⟨(some 27), .mv (.t 30), none⟩,
 ⟨(some 31), .ext 0 (.t 27), none⟩,
 ⟨(some 32), .ext 1 (.t 27), none⟩,
 ⟨(some 7), .alloc 23 2 [.int .i64 0, .int .i64 0], none⟩,
 ⟨none, .store 2 (.t 7) (.t 31), none⟩,
 ⟨(some 8), .mv (.t 32), none⟩] [2, 3, 5, 6, 7, 8])
 (.seq (.ops [
 ⟨(some 34), .load (some 10) (.t 2), none⟩,
 ⟨(some 35), .load (some 3) (.t 3), none⟩,
 ⟨(some 36), .call (.f 35) [(.t 34), (.t 35)], none⟩,
 ⟨(some 33), .mv (.t 36), none⟩,
 ⟨(some 37), .ext 0 (.t 33), none⟩,
 ⟨(some 38), .ext 1 (.t 33), none⟩,
 ⟨(some 9), .alloc 23 2 [.int .i64 0, .int .i64 0], none⟩,
 ⟨none, .store 2 (.t 9) (.t 37), none⟩,
 ⟨(some 10), .mv (.t 38), none⟩] [2, 3, 5, 6, 7, 8, 9, 10])
 (.seq (.ops [
 ⟨(some 40), .load (some 10) (.t 2), none⟩,
 ⟨(some 41), .load (some 3) (.t 3), none⟩,
 ⟨(some 42), .call (.f 40) [(.t 40), (.t 41)], none⟩,
 ⟨(some 39), .mv (.t 42), none⟩,
 ⟨(some 43), .ext 0 (.t 39), none⟩,
 ⟨(some 44), .ext 1 (.t 39), none⟩,
 ⟨(some 11), .alloc 23 2 [.int .i64 0, .int .i64 0], none⟩,
 ⟨none, .store 2 (.t 11) (.t 43), none⟩,
 ⟨(some 12), .mv (.t 44), none⟩] [2, 3, 5, 6, 7, 8, 9, 10, 11, 12])
 (.seq (.ops [
 ⟨(some 46), .load (some 10) (.t 2), none⟩,
 ⟨(some 47), .load (some 3) (.t 3), none⟩,
 ⟨(some 48), .call (.f 22) [(.t 46), (.t 47)], none⟩,
 ⟨(some 45), .mv (.t 48), none⟩,
 ⟨(some 49), .ext 0 (.t 45), none⟩,
 ⟨(some 50), .ext 1 (.t 45), none⟩,
 ⟨(some 13), .alloc 23 2 [.int .i64 0, .int .i64 0], none⟩,
 ⟨none, .store 2 (.t 13) (.t 49), none⟩,
 ⟨(some 14), .mv (.t 50), none⟩] [2, 3, 5, 6, 7, 8, 9, 10, 11, 12, 13, 14])
 (.seq (.ops [
 ⟨(some 52), .load (some 10) (.t 2), none⟩,
 ⟨(some 53), .load (some 3) (.t 3), none⟩,
 ⟨(some 54), .call (.f 41) [(.t 52), (.t 53)], none⟩,
 ⟨(some 51), .mv (.t 54), none⟩,
 ⟨(some 55), .ext 0 (.t 51), none⟩,
 ⟨(some 56), .ext 1 (.t 51), none⟩,
 ⟨(some 15), .alloc 23 2 [.int .i64 0, .int .i64 0], none⟩,
 ⟨none, .store 2 (.t 15) (.t 55), none⟩,
 ⟨(some 16), .mv (.t 56), none⟩] [2, 3, 5, 6, 7, 8, 9, 10, 11, 12, 13, 14, 15, 16])
 (.seq (.ops [
 ⟨(some 58), .load (some 10) (.t 2), none⟩,
 ⟨(some 59), .load (some 3) (.t 3), none⟩,
 ⟨(some 60), .call (.f 42) [(.t 58), (.t 59)], none⟩,
 ⟨(some 57), .mv (.t 60), none⟩,
 ⟨(some 61), .ext 0 (.t 57), none⟩,
 ⟨(some 62), .ext 1 (.t 57), none⟩,
 ⟨(some 17), .alloc 23 2 [.int .i64 0, .int .i64 0], none⟩,
 ⟨none, .store 2 (.t 17) (.t 61), none⟩,
 ⟨(some 18), .mv (.t 62), none⟩] [2, 3, 5, 6, 7, 8, 9, 10, 11, 12, 13, 14, 15, 16, 17, 18])
 (.seq (.ops [
 ⟨(some 64), .load (some 10) (.t 2), none⟩,
 ⟨(some 65), .load (some 3) (.t 3), none⟩,
 ⟨(some 66), .call (.f 43) [(.t 64), (.t 65)], none⟩,
 ⟨(some 63), .mv (.t 66), none⟩,
 ⟨(some 67), .ext 0 (.t 63), none⟩,
 ⟨(some 68), .ext 1 (.t 63), none⟩,
 ⟨(some 19), .alloc 23 2 [.int .i64 0, .int .i64 0], none⟩,
 ⟨none, .store 2 (.t 19) (.t 67), none⟩,
 ⟨(some 20), .mv (.t 68), none⟩] [5, 6, 7, 8, 9, 10, 11, 12, 13, 14, 15, 16, 17, 18, 19, 20])
 (.seq (.ops [
 ⟨(some 69), .call (.f 18) [], none⟩,
 ⟨(some 70), .mv (.t 69), none⟩,
 ⟨(some 71), .load (some 2) (.t 5), (some (70, true))⟩,
 ⟨(some 72), .load (some 2) (.t 7), (some (70, true))⟩,
 ⟨(some 73), .eqs false [some .i64, some .i64] (.t 71) (.t 72), (some (70, true))⟩,
 ⟨(some 74), .pick (.t 70) (.t 73) (.c (.bool false)), none⟩,
 ⟨(some 75), .mv (.t 74), none⟩,
 ⟨(some 76), .mv (.t 6), (some (75, true))⟩,
 ⟨(some 77), .mv (.t 8), (some (75, true))⟩,
 ⟨(some 78), .bin .eql (.t 76) (.t 77), (some (75, true))⟩,
 ⟨(some 79), .pick (.t 75) (.t 78) (.c (.bool false)), none⟩,
 ⟨(some 80), .mv (.t 79), none⟩,
 ⟨(some 81), .load (some 2) (.t 9), (some (80, true))⟩,
 ⟨(some 82), .load (some 2) (.t 11), (some (80, true))⟩,
 ⟨(some 83), .eqs false [some .i64, some .i64] (.t 81) (.t 82), (some (80, true))⟩,
 ⟨(some 84), .pick (.t 80) (.t 83) (.c (.bool false)), none⟩,
 ⟨(some 85), .mv (.t 84), none⟩,
 ⟨(some 86), .mv (.t 10), (some (85, true))⟩,
 ⟨(some 87), .mv (.t 12), (some (85, true))⟩,
 ⟨(some 88), .bin .eql (.t 86) (.t 87), (some (85, true))⟩,
 ⟨(some 89), .pick (.t 85) (.t 88) (.c (.bool false)), none⟩,
 ⟨(some 90), .mv (.t 89), none⟩,
 ⟨(some 91), .load (some 2) (.t 13), (some (90, true))⟩,
 ⟨(some 92), .load (some 2) (.t 15), (some (90, true))⟩,
 ⟨(some 93), .eqs false [some .i64, some .i64] (.t 91) (.t 92), (some (90, true))⟩,
 ⟨(some 94), .pick (.t 90) (.t 93) (.c (.bool false)), none⟩,
 ⟨(some 95), .mv (.t 94), none⟩,
 ⟨(some 96), .mv (.t 14), (some (95, true))⟩,
 ⟨(some 97), .mv (.t 16), (some (95, true))⟩,
 ⟨(some 98), .bin .eql (.t 96) (.t 97), (some (95, true))⟩,
 ⟨(some 99), .pick (.t 95) (.t 98) (.c (.bool false)), none⟩,
 ⟨(some 100), .mv (.t 99), none⟩,
 ⟨(some 101), .load (some 2) (.t 17), (some (100, true))⟩,
 ⟨(some 102), .load (some 2) (.t 19), (some (100, true))⟩,
 ⟨(some 103), .eqs false [some .i64, some .i64] (.t 101) (.t 102), (some (100, true))⟩,
 ⟨(some 104), .pick (.t 100) (.t 103) (.c (.bool false)), none⟩,
 ⟨(some 105), .mv (.t 104), none⟩,
 ⟨(some 106), .mv (.t 18), (some (105, true))⟩,
 ⟨(some 107), .mv (.t 20), (some (105, true))⟩,
 ⟨(some 108), .bin .eql (.t 106) (.t 107), (some (105, true))⟩,
 ⟨(some 109), .pick (.t 105) (.t 108) (.c (.bool false)), none⟩,
 ⟨(some 4), .mv (.t 109), none⟩] [4])
 .ret)))))))))),
 [.t 4]⟩
-- aneroid/aneroidlaw01.PaperBack
def c10 : CF := ⟨160,
 (.seq (.ops [
 ⟨(some 4), .box false 25 10 (.t 0), none⟩,
 ⟨(some 5), .box false 32 3 (.t 1), none⟩,
 ⟨(some 8), .mv (.c (.bool false)), none⟩] [2, 3, 4, 5])
 (.seq (.ops [
 ⟨(some 18), .call (.f 18) [], none⟩,
 ⟨(some 9), .mv (.t 18), none⟩] [2, 3, 4, 5, 9])
 (.seq (.ops [
 ⟨(some 20), .load (some 10) (.t 4), none⟩,
 ⟨(some 21), .load (some 3) (.t 5), none⟩,
 ⟨(some 22), .mv (.t 2), none⟩,
 ⟨(some 23), .mv (.t 3), none⟩,
 ⟨(some 24), .call (.f 29) [(.t 20), (.t 21), (.t 22), (.t 23)], none⟩,
 ⟨(some 19), .mv (.t 24), none⟩,
 ⟨(some 25), .ext 0 (.t 19), none⟩,
 ⟨(some 26), .ext 1 (.t 19), none⟩,
 ⟨(some 10), .alloc 32 3 [.int .i64 0, .int .i64 0, .int .i64 0], none⟩,
 ⟨none, .store 3 (.t 10) (.t 25), none⟩,
 ⟨(some 11), .mv (.t 26), none⟩] [2, 3, 4, 5, 9, 10, 11])
 (.seq (.seq (.ops [
 ⟨(some 27), .mv (.t 11), none⟩,
 ⟨(some 28), .bin .neq (.t 27) (.c (.int .i64 0)), none⟩,
 ⟨(some 29), .mv (.t 28), none⟩,
 ⟨(some 30), .faddr 2 (.t 5), (some (29, false))⟩,
 ⟨(some 31), .load none (.t 30), (some (29, false))⟩,
 ⟨(some 32), .bin .lss (.t 31) (.c (.int .i64 1)), (some (29, false))⟩,
 ⟨(some 33), .pick (.t 29) (.c (.bool true)) (.t 32), none⟩] [2, 3, 4, 5, 9, 10, 33])
 (.cond (.t 33) (.seq (.ops [
 ⟨(some 34), .mv (.t 9), none⟩,
 ⟨(some 8), .mv (.t 34), none⟩] [8])
 .ret)
 .skip))
 (.seq (.ops [
 ⟨(some 36), .load (some 10) (.t 4), none⟩,
 ⟨(some 37), .load (some 3) (.t 10), none⟩,
 ⟨(some 38), .call (.f 34) [(.t 36), (.t 37)], none⟩,
 ⟨(some 35), .mv (.t 38), none⟩,
 ⟨(some 39), .ext 0 (.t 35), none⟩,
 ⟨(some 40), .ext 1 (.t 35), none⟩,
 ⟨(some 12), .alloc 23 2 [.int .i64 0, .int .i64 0], none⟩,
 ⟨none, .store 2 (.t 12) (.t 39), none⟩,
 ⟨(some 13), .mv (.t 40), none⟩] [2, 3, 4, 5, 9, 10, 12, 13])
 (.seq (.ops [
 ⟨(some 42), .load (some 10) (.t 4), none⟩,
 ⟨(some 43), .load (some 3) (.t 10), none⟩,
 ⟨(some 44), .call (.f 35) [(.t 42), (.t 43)], none⟩,
 ⟨(some 41), .mv (.t 44), none⟩,
 ⟨(some 45), .ext 0 (.t 41), none⟩,
 ⟨(some 46), .ext 1 (.t 41), none⟩,
 ⟨(some 14), .alloc 23 2 [.int .i64 0, .int .i64 0], none⟩,
 ⟨none, .store 2 (.t 14) (.t 45), none⟩,
 ⟨(some 15), .mv (.t 46), none⟩] [2, 3, 4, 5, 9, 10, 12, 13, 14, 15])
 (.seq (.seq (.ops [
 ⟨(some 47), .mv (.t 13), none⟩,
 ⟨(some 48), .bin .neq (.t 47) (.c (.int .i64 0)), none⟩,
 ⟨(some 49), .mv (.t 48), none⟩,
 ⟨(some 50), .mv (.t 15), (some (49, false))⟩,
 ⟨(some 51), .bin .neq (.t 50) (.c (.int .i64 0)), (some (49, false))⟩,
 ⟨(some 52), .pick (.t 49) (.c (.bool true)) (.t 51), none⟩,
 ⟨(some 53), .mv (.t 52), none⟩,
 ⟨(some 54), .faddr 0 (.t 5), (some (53, false))⟩,
 ⟨(some 55), .load none (.t 54), (some (53, false))⟩,
 ⟨(some 56), .faddr 0 (.t 12), (some (53, false))⟩,
 ⟨(some 57), .load none (.t 56), (some (53, false))⟩,
 ⟨(some 58), .bin .lss (.t 55) (.t 57), (some (53, false))⟩,
 ⟨(some 59), .pick (.t 53) (.c (.bool true)) (.t 58), none⟩,
 ⟨(some 60), .mv (.t 59), none⟩,
 ⟨(some 61), .faddr 0 (.t 5), (some (60, false))⟩,
 ⟨(some 62), .load none (.t 61), (some (60, false))⟩,
 ⟨(some 63), .faddr 1 (.t 12), (some (60, false))⟩,
 ⟨(some 64), .load none (.t 63), (some (60, false))⟩,
 ⟨(some 65), .bin .gtr (.t 62) (.t 64), (some (60, false))⟩,
 ⟨(some 66), .pick (.t 60) (.c (.bool true)) (.t 65), none⟩,
 ⟨(some 67), .mv (.t 66), none⟩,
 ⟨(some 68), .faddr 1 (.t 5), (some (67, false))⟩,
 ⟨(some 69), .load none (.t 68), (some (67, false))⟩,
 ⟨(some 70), .faddr 0 (.t 14), (some (67, false))⟩,
 ⟨(some 71), .load none (.t 70), (some (67, false))⟩,
 ⟨(some 72), .bin .lss (.t 69) (.t 71), (some (67, false))⟩,
 ⟨(some 73), .pick (.t 67) (.c (.bool true)) (.t 72), none⟩,
 ⟨(some 74), .mv (.t 73), none⟩,
 ⟨(some 75), .faddr 1 (.t 5), (some (74, false))⟩,
 ⟨(some 76), .load none (.t 75), (some (74, false))⟩,
 ⟨(some 77), .faddr 1 (.t 14), (some (74, false))⟩,
 ⟨(some 78), .load none (.t 77), (some (74, false))⟩,
 ⟨(some 79), .bin .gtr (.t 76) (.t 78), (some (74, false))⟩,
 ⟨(some 80), .pick (.t 74) (.c (.bool true)) (.t 79), none⟩] [2, 3, 4, 5, 9, 10, 80])
 (.cond (.t 80) (.seq (.ops [
 ⟨(some 8), .mv (.c (.bool false)), none⟩] [8])
 .ret)
 .skip))
 (.seq (.ops [
 ⟨(some 82), .load (some 10) (.t 4), none⟩,
 ⟨(some 83), .faddr 0 (.t 5), none⟩,
 ⟨(some 84), .load none (.t 83), none⟩,
 ⟨(some 85), .faddr 1 (.t 5), none⟩,
 ⟨(some 86), .load none (.t 85), none⟩,
 ⟨(some 87), .load (some 3) (.t 10), none⟩,
 ⟨(some 88), .call (.f 31) [(.t 82), (.t 84), (.t 86), (.t 87)], none⟩,
 ⟨(some 81), .mv (.t 88), none⟩,
 ⟨(some 89), .ext 0 (.t 81), none⟩,
 ⟨(some 90), .ext 1 (.t 81), none⟩,
 ⟨(some 16), .alloc 25 10 [.int .i64 0, .int .i64 0, .int .i64 0, .int .i64 0, .int .i64 0, .int .i64 0, .int .i64 0, .int .i64 0, .int .i64 0, .int .i64 0], none⟩,
 ⟨none, .store 10 (.t 16) (.t 89), none⟩,
 ⟨(some 17), .mv (.t 90), none⟩] [2, 3, 4, 9, 16, 17])
 (.seq (.ops [
 ⟨(some 91), .mv (.t 9), none⟩,
 ⟨(some 92), .mv (.t 91), none⟩,
 ⟨(some 93), .mv (.t 17), (some (92, true))⟩,
 ⟨(some 94), .bin .eql (.t 93) (.c (.int .i64 0)), (some (92, true))⟩,
 ⟨(some 95), .pick (.t 92) (.t 94) (.c (.bool false)), none⟩,
 ⟨(some 96), .mv (.t 95), none⟩,
 ⟨(some 97), .faddr 6 (.t 16), (some (96, true))⟩,
 ⟨(some 98), .faddr 0 (.t 97), (some (96, true))⟩,
 ⟨(some 99), .load none (.t 98), (some (96, true))⟩,
 ⟨(some 100), .mv (.t 2), (some (96, true))⟩,
 ⟨(some 101), .bin .leq (.t 99) (.t 100), (some (96, true))⟩,
 ⟨(some 102), .pick (.t 96) (.t 101) (.c (.bool false)), none⟩,
 ⟨(some 103), .mv (.t 102), none⟩,
 ⟨(some 104), .mv (.t 2), (some (103, true))⟩,
 ⟨(some 105), .faddr 6 (.t 16), (some (103, true))⟩,
 ⟨(some 106), .faddr 1 (.t 105), (some (103, true))⟩,
 ⟨(some 107), .load none (.t 106), (some (103, true))⟩,
 ⟨(some 108), .bin .leq (.t 104) (.t 107), (some (103, true))⟩,
 ⟨(some 109), .pick (.t 103) (.t 108) (.c (.bool false)), none⟩,
 ⟨(some 110), .mv (.t 109), none⟩,
 ⟨(some 111), .faddr 8 (.t 16), (some (110, true))⟩,
 ⟨(some 112), .faddr 0 (.t 111), (some (110, true))⟩,
 ⟨(some 113), .load none (.t 112), (some (110, true))⟩,
 ⟨(some 114), .mv (.t 3), (some (110, true))⟩,
 ⟨(some 115), .bin .leq (.t 113) (.t 114), (some (110, true))⟩,
 ⟨(some 116), .pick (.t 110) (.t 115) (.c (.bool false)), none⟩,
 ⟨(some 117), .mv (.t 116), none⟩,
 ⟨(some 118), .mv (.t 3), (some (117, true))⟩,
 ⟨(some 119), .faddr 8 (.t 16), (some (117, true))⟩,
 ⟨(some 120), .faddr 1 (.t 119), (some (117, true))⟩,
 ⟨(some 121), .load none (.t 120), (some (117, true))⟩,
 ⟨(some 122), .bin .leq (.t 118) (.t 121), (some (117, true))⟩,
 ⟨(some 123), .pick (.t 117) (.t 122) (.c (.bool false)), none⟩,
 ⟨(some 124), .mv (.t 123), none⟩,
 ⟨(some 125), .faddr 6 (.t 16), (some (124, true))⟩,
 ⟨(some 126), .faddr 0 (.t 125), (some (124, true))⟩,
 ⟨(some 127), .load none (.t 126), (some (124, true))⟩,
 ⟨(some 128), .faddr 6 (.t 4), (some (124, true))⟩,
 ⟨(some 129), .faddr 0 (.t 128), (some (124, true))⟩,
 ⟨(some 130), .load none (.t 129), (some (124, true))⟩,
 ⟨(some 131), .bin .geq (.t 127) (.t 130), (some (124, true))⟩,
 ⟨(some 132), .pick (.t 124) (.t 131) (.c (.bool false)), none⟩,
 ⟨(some 133), .mv (.t 132), none⟩,
 ⟨(some 134), .faddr 6 (.t 16), (some (133, true))⟩,
 ⟨(some 135), .faddr 1 (.t 134), (some (133, true))⟩,
 ⟨(some 136), .load none (.t 135), (some (133, true))⟩,
 ⟨(some 137), .faddr 6 (.t 4), (some (133, true))⟩,
 ⟨(some 138), .faddr 1 (.t 137), (some (133, true))⟩,
 ⟨(some 139), .load none (.t 138), (some (133, true))⟩,
 ⟨(some 140), .bin .leq (.t 136) (.t 139), (some (133, true))⟩,
 ⟨(some 141), .pick (.t 133) (.t 140) (.c (.bool false)), none⟩,
 ⟨(some 142), .mv (.t 141), none⟩,
 ⟨(some 143), .faddr 8 (.t 16), (some (142, true))⟩,
 ⟨(some 144), .faddr 0 (.t 143), (some (142, true))⟩,
 ⟨(some 145), .load none (.t 144), (some (142, true))⟩,
 ⟨(some 146), .faddr 8 (.t 4), (some (142, true))⟩,
 ⟨(some 147), .faddr 0 (.t 146), (some (142, true))⟩,
 ⟨(some 148), .load none (.t 147), (some (142, true))⟩,
 ⟨(some 149), .bin .geq (.t 145) (.t 148), (some (142, true))⟩,
 ⟨(some 150), .pick (.t 142) (.t 149) (.c (.bool false)), none⟩,
 ⟨(some 151), .mv (.t 150), none⟩,
 ⟨(some 152), .faddr 8 (.t 16), (some (151, true))⟩,
 ⟨(some 153), .faddr 1 (.t 152), (some (151, true))⟩,
 ⟨(some 154), .load none (.t 153), (some (151, true))⟩,
 ⟨(some 155), .faddr 8 (.t 4), (some (151, true))⟩,
 ⟨(some 156), .faddr 1 (.t 155), (some (151, true))⟩,
 ⟨(some 157), .load none (.t 156), (some (151, true))⟩,
 ⟨(some 158), .bin .leq (.t 154) (.t 157), (some (151, true))⟩,
 ⟨(some 159), .pick (.t 151) (.t 158) (.c (.bool false)), none⟩,
 ⟨(some 8), .mv (.t 159), none⟩] [8])
 .ret))))))))),
 [.t 8]⟩

theorem k7 : chkF Try.prog Try.f7 c7 = true := by kernel_rfl
theorem k9 : chkF Try.prog Try.f9 c9 = true := by kernel_rfl
theorem k10 : chkF Try.prog Try.f10 c10 = true := by kernel_rfl

theorem rise_push (l : List Sp) (v : Int) : rise l v = push l ⟨v, v⟩ := by
  unfold rise push
  split <;> simp_all

theorem hit_hitA (p : Pp) (t : Pt) (c y : Int) (hg : p.good) : p.hit t c y ↔ p.hitA t c y := by
  have h1 : 0 < p.pi := by have := hg.1; omega
  unfold Pp.hit Pp.hitA Pp.abd
  have e1 := Int.ediv_lt_iff_lt_mul (a := (p.along t).lo - p.arc y) (b := c + 1) h1
  have e2 := Int.le_ediv_iff_mul_le (a := c) (b := (p.along t).hi - p.arc y) h1
  simp only
  omega

theorem places_le (s : Sp) (x h : Int) (hs : s.ok) (hx : 0 ≤ x) (hh : 0 ≤ h) : (s.places x h).lo ≤ (s.places x h).hi := by
  have h3 : 0 ≤ ((x + h) * 1000) / s.lo := Int.ediv_nonneg (by omega) (by omega)
  have h1 : ((x - h) * 1000) / s.hi ≤ ((x + h) * 1000) / s.hi := Int.ediv_le_ediv (by omega) (by omega)
  have h2 : ((x + h) * 1000) / s.hi ≤ ((x + h) * 1000) / s.lo := by
    rw [Int.le_ediv_iff_mul_le (by omega)]
    have g1 := Int.ediv_mul_le ((x + h) * 1000) (show s.hi ≠ 0 by omega)
    have g2 : 0 ≤ ((x + h) * 1000) / s.hi := Int.ediv_nonneg (by omega) (by omega)
    have g3 := Int.mul_le_mul_of_nonneg_left (show s.lo ≤ s.hi by omega) g2
    omega
  simp only [Sp.places]
  omega

theorem along_le (p : Pp) (t : Pt) (hg : p.good) (ht : t.right) : (p.along t).lo ≤ (p.along t).hi := places_le p.al t.x t.h hg.al ht.1 ht.2.2.2.2.1

theorem cnt_eq (p : Pp) (t : Pt) (y : Int) : ((p.heights t).lo ≤ y ∧ y ≤ (p.heights t).hi) ↔ ∃ j : Nat, j < p.cnt t ∧ y = (p.heights t).lo + j := by
  unfold Pp.cnt
  constructor
  · rintro ⟨h1, h2⟩; exact ⟨(y - (p.heights t).lo).toNat, by omega, by omega⟩
  · rintro ⟨j, h1, h2⟩; omega

theorem ms_set (p : Pp) (t : Pt) (c : Int) (hg : p.good) (ht : t.right) : ∀ k, k ≤ p.cnt t → Norm (p.ms t c k) ∧ (∀ v, Mem v (p.ms t c k) ↔ ∃ j : Nat, j < k ∧ p.hitA t c ((p.heights t).lo + j) ∧ p.level ((p.heights t).lo + j) = v) ∧
    ∀ s ∈ p.ms t c k, s.lo ≤ p.level ((p.heights t).lo + k) := by
  have hb := heights_bd p t hg ht
  intro k
  induction k with
  | zero => intro _; exact ⟨trivial, fun v => ⟨fun h => absurd h Mem.nil, fun ⟨j, h, _⟩ => absurd h (Nat.not_lt_zero _)⟩, fun s hs => absurd hs (List.not_mem_nil)⟩
  | succ k ih =>
    intro hk
    obtain ⟨i1, i2, i3⟩ := ih (by omega)
    have hmono : p.level ((p.heights t).lo + k) ≤ p.level ((p.heights t).lo + (k + 1 : Nat)) := level_mono p hg (by omega) (by omega)
    unfold Pp.ms
    split
    · rename_i hit
      rw [hit_hitA p t c _ hg] at hit
      rw [rise_push]
      obtain ⟨j1, j2, j3⟩ := push_spec (x := ⟨p.level ((p.heights t).lo + k), p.level ((p.heights t).lo + k)⟩) i1 (Int.le_refl _) i3
      refine ⟨j1, fun v => ?_, fun s hs => Int.le_trans (j3 s hs) hmono⟩
      rw [j2, i2]
      constructor
      · rintro (⟨j, g1, g2, g3⟩ | h)
        · exact ⟨j, by omega, g2, g3⟩
        · simp only at h; exact ⟨k, by omega, hit, by omega⟩
      · rintro ⟨j, g1, g2, g3⟩
        by_cases e : j = k
        · subst e; right; simp only; omega
        · exact .inl ⟨j, by omega, g2, g3⟩
    · rename_i hit
      rw [hit_hitA p t c _ hg] at hit
      refine ⟨i1, fun v => ?_, fun s hs => Int.le_trans (i3 s hs) hmono⟩
      rw [i2]
      constructor
      · rintro ⟨j, g1, g2, g3⟩; exact ⟨j, by omega, g2, g3⟩
      · rintro ⟨j, g1, g2, g3⟩
        by_cases e : j = k
        · subst e; exact absurd g2 hit
        · exact ⟨j, by omega, g2, g3⟩

theorem ms_eq (p : Pp) (t : Pt) (c : Int) (hg : p.good) (ht : t.right) : p.ms t c (p.cnt t) = p.rmeans t c := by
  obtain ⟨n1, m1, _⟩ := ms_set p t c hg ht (p.cnt t) (Nat.le_refl _)
  obtain ⟨n2, m2, _⟩ := rmeans_set p t c hg ht
  refine n1.ext n2 fun v => ?_
  rw [m1, m2]
  constructor
  · rintro ⟨j, h1, h2, h3⟩; exact ⟨_, (cnt_eq p t _).2 ⟨j, h1, rfl⟩, h2, h3⟩
  · rintro ⟨y, h1, h2, h3⟩
    obtain ⟨j, g1, rfl⟩ := (cnt_eq p t _).1 h1
    exact ⟨j, g1, h2, h3⟩

theorem means_eq (p : Pp) (t : Pt) (c : Int) : p.Means t c = p.RMeans t c := by
  unfold Pp.Means Pp.RMeans
  split
  · rfl
  · rename_i h
    obtain ⟨hg, ht⟩ := perr0 (by simpa using h)
    split
    · rfl
    · rw [ms_eq p t c hg ht]

theorem means_len (p : Pp) (t : Pt) (c : Int) : (p.RMeans t c).1.length ≤ 2 := by
  unfold Pp.RMeans
  split
  · simp
  · rename_i h
    obtain ⟨hg, ht⟩ := perr0 (by simpa using h)
    split
    · simp
    · exact (rmeans_set p t c hg ht).2.2

/-- The printed places of a point in a column. -/
def Pp.In (p : Pp) (t : Pt) (c y : Int) : Prop := ((p.heights t).lo ≤ y ∧ y ≤ (p.heights t).hi) ∧ p.hitA t c y

theorem outs_set (p : Pp) (t : Pt) (hg : p.good) : ∀ k, (0 ≤ (p.outs t k).hi ∧ (0 ≤ (p.outs t k).lo ∧ (p.outs t k).lo ≤ (p.outs t k).hi ∧ (p.outs t k).hi < p.co) ∧ (∃ j : Nat, j < k ∧ p.hitA t (p.outs t k).lo ((p.heights t).lo + j)) ∧ (∃ j : Nat, j < k ∧ p.hitA t (p.outs t k).hi ((p.heights t).lo + j)) ∧
      ∀ c, 0 ≤ c → c < p.co → (∃ j : Nat, j < k ∧ p.hitA t c ((p.heights t).lo + j)) → (p.outs t k).lo ≤ c ∧ c ≤ (p.outs t k).hi) ∨
    (p.outs t k = ⟨p.co, -1⟩ ∧ ∀ c, 0 ≤ c → c < p.co → ¬ ∃ j : Nat, j < k ∧ p.hitA t c ((p.heights t).lo + j)) := by
  intro k
  induction k with
  | zero => exact .inr ⟨rfl, fun c _ _ ⟨j, h, _⟩ => absurd h (Nat.not_lt_zero _)⟩
  | succ k ih =>
    have hit : ∀ c, p.hitA t c ((p.heights t).lo + k) ↔ ((p.along t).lo - p.arc ((p.heights t).lo + k)) / p.pi ≤ c ∧ c ≤ ((p.along t).hi - p.arc ((p.heights t).lo + k)) / p.pi := fun c => (hit_hitA p t c _ hg).symm
    generalize hL : ((p.along t).lo - p.arc ((p.heights t).lo + k)) / p.pi = L at hit
    generalize hH : ((p.along t).hi - p.arc ((p.heights t).lo + k)) / p.pi = H at hit
    have step : ∀ c, (∃ j : Nat, j < k + 1 ∧ p.hitA t c ((p.heights t).lo + j)) ↔ (∃ j : Nat, j < k ∧ p.hitA t c ((p.heights t).lo + j)) ∨ (L ≤ c ∧ c ≤ H) := by
      intro c
      constructor
      · rintro ⟨j, h1, h2⟩
        by_cases e : j = k
        · subst e; exact .inr ((hit c).1 h2)
        · exact .inl ⟨j, by omega, h2⟩
      · rintro (⟨j, h1, h2⟩ | h)
        · exact ⟨j, by omega, h2⟩
        · exact ⟨k, by omega, (hit c).2 h⟩
    simp only [Pp.outs, hL, hH, step]
    split
    · rename_i hle
      left
      rcases ih with ⟨a1, a2, a3, a4, a5⟩ | ⟨a1, a2⟩
      · refine ⟨by simp only; omega, by simp only; omega, ?_, ?_, ?_⟩
        · simp only
          by_cases g : (p.outs t k).lo ≤ max L 0
          · rw [Int.min_eq_left g]; exact .inl a3
          · rw [Int.min_eq_right (by omega)]; right; omega
        · simp only
          by_cases g : min H (p.co - 1) ≤ (p.outs t k).hi
          · rw [Int.max_eq_left g]; exact .inl a4
          · rw [Int.max_eq_right (by omega)]; right; omega
        · rintro c c0 c1 (h | h)
          · have := a5 c c0 c1 h; simp only; omega
          · simp only; omega
      · rw [a1]
        refine ⟨by simp only; omega, by simp only; omega, .inr (by simp only; omega), .inr (by simp only; omega), ?_⟩
        rintro c c0 c1 (h | h)
        · exact absurd h (a2 c c0 c1)
        · simp only; omega
    · rename_i hgt
      rcases ih with ⟨a1, a2, a3, a4, a5⟩ | ⟨a1, a2⟩
      · left
        refine ⟨a1, a2, .inl a3, .inl a4, ?_⟩
        rintro c c0 c1 (h | h)
        · exact a5 c c0 c1 h
        · omega
      · right
        refine ⟨a1, ?_⟩
        rintro c c0 c1 (h | h)
        · exact a2 c c0 c1 h
        · omega

theorem arc_between (p : Pp) (s : Sp) (hg : p.good) (h0 : 0 ≤ s.lo) (h2 : s.hi ≤ p.he) (y : Int) (h3 : s.lo ≤ y) (h4 : y ≤ s.hi) : (p.arcs s).lo ≤ p.arc y ∧ p.arc y ≤ (p.arcs s).hi := by
  have hle : 0 < p.he := by have := hg.2.2.1; omega
  simp only [Pp.arcs]
  have fall : ∀ {a b : Int}, p.he / 2 ≤ a → a ≤ b → b ≤ p.he → p.arc b ≤ p.arc a := by
    intro a b ha hab hb
    by_cases e : p.he / 2 < a
    · rw [← arc_sym p a, ← arc_sym p b]; exact arc_mono p hg (by omega) (by omega) (by omega)
    · obtain rfl : a = p.he / 2 := by omega
      exact arc_mid p b hg (by omega) (by omega)
  constructor
  · by_cases hy : y ≤ p.he / 2
    · have := arc_mono p hg h0 h3 hy; omega
    · have := fall (a := y) (b := s.hi) (by omega) h4 h2; omega
  · by_cases hy : y ≤ max s.lo (min s.hi (p.he / 2))
    · by_cases e : max s.lo (min s.hi (p.he / 2)) ≤ p.he / 2
      · exact arc_mono p hg (by omega) hy e
      · rw [show max s.lo (min s.hi (p.he / 2)) = s.lo by omega] at hy ⊢
        obtain rfl : y = s.lo := by omega
        exact Int.le_refl _
    · exact fall (by omega) (by omega) (by omega)

theorem arc_reach (p : Pp) (hg : p.good) (N : Int) : ∀ (k : Nat) (a b : Int), (b - a).toNat ≤ k → 0 ≤ a → a ≤ b → b ≤ p.he → (p.arc a ≤ N ∧ N ≤ p.arc b ∨ p.arc b ≤ N ∧ N ≤ p.arc a) → ∃ y, a ≤ y ∧ y ≤ b ∧ p.arc y = N
  | 0, a, b, hk, h0, hab, hb, h => ⟨a, by omega, by omega, by obtain rfl : a = b := (by omega); omega⟩
  | k + 1, a, b, hk, h0, hab, hb, h => by
    by_cases e : p.arc a = N
    · exact ⟨a, by omega, by omega, e⟩
    · by_cases hlt : a = b
      · subst hlt; omega
      · have hn := arc_next p a hg h0 (by omega)
        obtain ⟨y, h1, h2, h3⟩ := arc_reach p hg N k (a + 1) b (by omega) (by omega) (by omega) hb (by omega)
        exact ⟨y, by omega, h2, h3⟩

theorem rcols_in (p : Pp) (t : Pt) (hg : p.good) (ht : t.right) (c : Int) (c0 : 0 ≤ c) (c1 : c < p.co) : ((p.rcols t).lo ≤ c ∧ c ≤ (p.rcols t).hi) ↔ ∃ y, p.In t c y := by
  have hb := heights_bd p t hg ht
  have hle := along_le p t hg ht
  have hpi : 0 < p.pi := by have := hg.1; omega
  unfold Pp.rcols Pp.In
  split
  · constructor
    · intro h; simp only at h; omega
    · rintro ⟨y, h, _⟩; omega
  · rename_i hne
    have e1 := Int.ediv_lt_iff_lt_mul (a := (p.along t).lo - (p.arcs (p.heights t)).hi) (b := c + 1) hpi
    have e2 := Int.le_ediv_iff_mul_le (a := c) (b := (p.along t).hi - (p.arcs (p.heights t)).lo) hpi
    have key : (max 0 (((p.along t).lo - (p.arcs (p.heights t)).hi) / p.pi) ≤ c ∧ c ≤ min (p.co - 1) (((p.along t).hi - (p.arcs (p.heights t)).lo) / p.pi)) ↔ (p.abd t c).lo ≤ (p.arcs (p.heights t)).hi ∧ (p.arcs (p.heights t)).lo ≤ (p.abd t c).hi := by
      simp only [Pp.abd]; omega
    simp only
    rw [key]
    constructor
    · rintro ⟨k1, k2⟩
      have hA : (p.abd t c).lo ≤ (p.abd t c).hi := by
        simp only [Pp.abd]; rw [Int.add_mul]; omega
      -- where the arc is least, and where it is greatest
      obtain ⟨m, m1, m2, m3⟩ : ∃ m, (p.heights t).lo ≤ m ∧ m ≤ (p.heights t).hi ∧ p.arc m = (p.arcs (p.heights t)).lo := by
        simp only [Pp.arcs]
        by_cases g : p.arc (p.heights t).lo ≤ p.arc (p.heights t).hi
        · exact ⟨_, Int.le_refl _, by omega, by omega⟩
        · exact ⟨(p.heights t).hi, by omega, Int.le_refl _, by omega⟩
      obtain ⟨M, M1, M2, M3⟩ : ∃ M, (p.heights t).lo ≤ M ∧ M ≤ (p.heights t).hi ∧ p.arc M = (p.arcs (p.heights t)).hi := ⟨_, by omega, by omega, rfl⟩
      by_cases g : (p.abd t c).lo ≤ p.arc m
      · exact ⟨m, ⟨m1, m2⟩, g, by omega⟩
      · by_cases hmM : m ≤ M
        · obtain ⟨y, h1, h2, h3⟩ := arc_reach p hg (p.abd t c).lo (M - m).toNat m M (Nat.le_refl _) (by omega) hmM (by omega) (.inl (by omega))
          exact ⟨y, by omega, by omega, by omega⟩
        · obtain ⟨y, h1, h2, h3⟩ := arc_reach p hg (p.abd t c).lo (m - M).toNat M m (Nat.le_refl _) (by omega) (by omega) (by omega) (.inr (by omega))
          exact ⟨y, by omega, by omega, by omega⟩
    · rintro ⟨y, ⟨h1, h2⟩, h3, h4⟩
      have := arc_between p (p.heights t) hg hb.1 hb.2.2.2 y h1 h2
      omega

theorem cols_eq (p : Pp) (t : Pt) : p.Cols t = p.RCols t := by
  unfold Pp.Cols Pp.RCols
  by_cases h : p.perr1 t = 0
  · obtain ⟨hg, ht⟩ := perr0 h
    have hco : 1 ≤ p.co := hg.2.2.2.2.2.2.2.2.2.1
    rw [if_neg (by simp [h]), if_pos h]
    have hin := rcols_in p t hg ht
    have hex : ∀ c, (∃ y, p.In t c y) ↔ ∃ j : Nat, j < p.cnt t ∧ p.hitA t c ((p.heights t).lo + j) := by
      intro c
      constructor
      · rintro ⟨y, h1, h2⟩
        obtain ⟨j, g1, rfl⟩ := (cnt_eq p t _).1 h1
        exact ⟨j, g1, h2⟩
      · rintro ⟨j, h1, h2⟩; exact ⟨_, (cnt_eq p t _).2 ⟨j, h1, rfl⟩, h2⟩
    have hbd : (p.rcols t).lo ≤ (p.rcols t).hi → 0 ≤ (p.rcols t).lo ∧ (p.rcols t).hi < p.co := by
      unfold Pp.rcols; split
      · intro h; simp only at h; omega
      · intro h; simp only at h ⊢; omega
    rcases outs_set p t hg (p.cnt t) with ⟨a1, a2, a3, a4, a5⟩ | ⟨a1, a2⟩
    · rw [if_neg (by omega)]
      have l1 := (hin _ a2.1 (by omega)).2 ((hex _).2 a3)
      have l2 := (hin _ (by omega) a2.2.2).2 ((hex _).2 a4)
      have hb := hbd (by omega)
      rw [if_neg (by omega)]
      have l3 := a5 _ hb.1 (by omega) ((hex _).1 ((hin _ hb.1 (by omega)).1 ⟨Int.le_refl _, by omega⟩))
      have l4 := a5 _ (by omega) hb.2 ((hex _).1 ((hin _ (by omega) hb.2).1 ⟨by omega, Int.le_refl _⟩))
      have e1 : (p.outs t (p.cnt t)).lo = (p.rcols t).lo := by omega
      have e2 : (p.outs t (p.cnt t)).hi = (p.rcols t).hi := by omega
      cases hO : p.outs t (p.cnt t); cases hR : p.rcols t
      simp_all
    · rw [a1, if_pos (show (-1 : Int) < 0 by decide), if_pos]
      refine Int.not_le.1 fun hle => ?_
      have hb := hbd hle
      exact a2 _ hb.1 (by omega) ((hex _).1 ((hin _ hb.1 (by omega)).1 ⟨Int.le_refl _, hle⟩))
  · rw [if_pos (by simp [h]), if_neg h]

theorem PaperPlaces_spec (p : Pp) (t : Pt) : Pure Try.prog 9 [.agg p.cs, .agg t.cs] (bl true) := by
  refine Pure.of_body Try.call9 Try.func9 k9 (Nat.le_of_ble_eq_true rfl) ?_
  have hc := Columns_spec p t
  rw [cols_eq] at hc
  unfold c9
  (repeat' first
    | (refine AWPC.of_vcn rfl ?_; simp only [zT, drp, hasN, Bool.or_false, Bool.false_or, Bool.or_true, Bool.true_or, Classical.not_not, zS, vcC, exs, exd, pickV, alS, Al.ob, grd, ex, ov, gt, argE, strp, cnd, sideL, I.os, st, wrap, keep, binA, kseq, kblk, kret, klp, resL, res1, one, ocalls, obj, elems, cells, scalar, vs, pick1, fillA, splice, chop, eqC, Nat.reduceBEq, Nat.reduceAdd, Nat.reduceSub, Nat.reduceLT, Nat.reduceLeDiff, Nat.reduceMul, Nat.reduceEqDiff, cond_true, cond_false, if_true, if_false, reduceIte, implies_true, forall_const, ne_eq])
    | (simp (disch := omega) only [wr64, Int.zero_sub]; try simp only [zT, drp, hasN, Bool.or_false, Bool.false_or, Bool.or_true, Bool.true_or, Classical.not_not, zS, vcC, exs, exd, pickV, alS, Al.ob, grd, ex, ov, gt, argE, strp, cnd, sideL, I.os, st, wrap, keep, binA, kseq, kblk, kret, klp, resL, res1, one, ocalls, obj, elems, cells, scalar, vs, pick1, fillA, splice, chop, eqC, Nat.reduceBEq, Nat.reduceAdd, Nat.reduceSub, Nat.reduceLT, Nat.reduceLeDiff, Nat.reduceMul, Nat.reduceEqDiff, cond_true, cond_false, if_true, if_false, reduceIte, implies_true, forall_const, ne_eq])
    | (refine AWPC.both (fun _ => ?_) (fun _ => ?_))
    | (refine AWPC.imp (fun _ => ?_))
    | ((repeat (refine And.intro (by (intros; simp_all (config := { decide := false }); done)) ?_)); (first
      | (refine .inl ⟨_, _, _, _, rfl, fun _hc => ⟨by simp, awake_spec⟩, ?_⟩)
      | (refine .inl ⟨_, _, _, _, rfl, fun _hc => ⟨by simp, Along_spec p t⟩, ?_⟩)
      | (refine .inl ⟨_, _, _, _, rfl, fun _hc => ⟨by simp, rAlong_spec p t⟩, ?_⟩)
      | (refine .inl ⟨_, _, _, _, rfl, fun _hc => ⟨by simp, Across_spec p t⟩, ?_⟩)
      | (refine .inl ⟨_, _, _, _, rfl, fun _hc => ⟨by simp, rAcross_spec p t⟩, ?_⟩)
      | (refine .inl ⟨_, _, _, _, rfl, fun _hc => ⟨by simp, hc⟩, ?_⟩)
      | (refine .inl ⟨_, _, _, _, rfl, fun _hc => ⟨by simp, rColumns_spec p t⟩, ?_⟩)
      | (refine .inl ⟨_, _, _, _, rfl, fun _hc => ⟨by simp, Levels_spec p t⟩, ?_⟩)
      | (refine .inl ⟨_, _, _, _, rfl, fun _hc => ⟨by simp, rLevels_spec p t⟩, ?_⟩)
      | (refine ⟨_, _, _, _, rfl, fun _hc => ⟨by simp, awake_spec⟩, ?_⟩)
      | (refine ⟨_, _, _, _, rfl, fun _hc => ⟨by simp, Along_spec p t⟩, ?_⟩)
      | (refine ⟨_, _, _, _, rfl, fun _hc => ⟨by simp, rAlong_spec p t⟩, ?_⟩)
      | (refine ⟨_, _, _, _, rfl, fun _hc => ⟨by simp, Across_spec p t⟩, ?_⟩)
      | (refine ⟨_, _, _, _, rfl, fun _hc => ⟨by simp, rAcross_spec p t⟩, ?_⟩)
      | (refine ⟨_, _, _, _, rfl, fun _hc => ⟨by simp, hc⟩, ?_⟩)
      | (refine ⟨_, _, _, _, rfl, fun _hc => ⟨by simp, rColumns_spec p t⟩, ?_⟩)
      | (refine ⟨_, _, _, _, rfl, fun _hc => ⟨by simp, Levels_spec p t⟩, ?_⟩)
      | (refine ⟨_, _, _, _, rfl, fun _hc => ⟨by simp, rLevels_spec p t⟩, ?_⟩)
      | fail); (first | (refine owp_of_exs ?_; simp only [zT, drp, hasN, Bool.or_false, Bool.false_or, Bool.or_true, Bool.true_or, Classical.not_not, zS, vcC, exs, exd, pickV, alS, Al.ob, grd, ex, ov, gt, argE, strp, cnd, sideL, I.os, st, wrap, keep, binA, kseq, kblk, kret, klp, resL, res1, one, ocalls, obj, elems, cells, scalar, vs, pick1, fillA, splice, chop, eqC, Nat.reduceBEq, Nat.reduceAdd, Nat.reduceSub, Nat.reduceLT, Nat.reduceLeDiff, Nat.reduceMul, Nat.reduceEqDiff, cond_true, cond_false, if_true, if_false, reduceIte, implies_true, forall_const, ne_eq]) | (refine pre_of_exd ?_; simp only [zT, drp, hasN, Bool.or_false, Bool.false_or, Bool.or_true, Bool.true_or, Classical.not_not, zS, vcC, exs, exd, pickV, alS, Al.ob, grd, ex, ov, gt, argE, strp, cnd, sideL, I.os, st, wrap, keep, binA, kseq, kblk, kret, klp, resL, res1, one, ocalls, obj, elems, cells, scalar, vs, pick1, fillA, splice, chop, eqC, Nat.reduceBEq, Nat.reduceAdd, Nat.reduceSub, Nat.reduceLT, Nat.reduceLeDiff, Nat.reduceMul, Nat.reduceEqDiff, cond_true, cond_false, if_true, if_false, reduceIte, implies_true, forall_const, ne_eq]) | fail))
    | ((refine .inl ⟨_, _, _, .any, rfl, fun h => absurd h Bool.false_ne_true, ?_⟩); (first | (refine owp_of_exs ?_; simp only [zT, drp, hasN, Bool.or_false, Bool.false_or, Bool.or_true, Bool.true_or, Classical.not_not, zS, vcC, exs, exd, pickV, alS, Al.ob, grd, ex, ov, gt, argE, strp, cnd, sideL, I.os, st, wrap, keep, binA, kseq, kblk, kret, klp, resL, res1, one, ocalls, obj, elems, cells, scalar, vs, pick1, fillA, splice, chop, eqC, Nat.reduceBEq, Nat.reduceAdd, Nat.reduceSub, Nat.reduceLT, Nat.reduceLeDiff, Nat.reduceMul, Nat.reduceEqDiff, cond_true, cond_false, if_true, if_false, reduceIte, implies_true, forall_const, ne_eq]) | fail))
    | (refine ⟨by omega, ?_⟩)
    | fail)
  exact Frz.eq (by simp) (by simp)

theorem PaperMeans_spec (p : Pp) (t : Pt) (c x y : Int) : Pure Try.prog 7 [.agg p.cs, .agg t.cs, n c, n x, n y] (bl true) := by
  refine Pure.of_body Try.call7 Try.func7 k7 (Nat.le_of_ble_eq_true rfl) ?_
  have hm := Means_spec p t c
  rw [means_eq] at hm
  have hl := means_len p t c
  unfold c7
  (repeat' first
    | (refine AWPC.of_vcn rfl ?_; simp only [zT, drp, hasN, Bool.or_false, Bool.false_or, Bool.or_true, Bool.true_or, Classical.not_not, zS, vcC, exs, exd, pickV, alS, Al.ob, grd, ex, ov, gt, argE, strp, cnd, sideL, I.os, st, wrap, keep, binA, kseq, kblk, kret, klp, resL, res1, one, ocalls, obj, elems, cells, scalar, vs, pick1, fillA, splice, chop, eqC, Nat.reduceBEq, Nat.reduceAdd, Nat.reduceSub, Nat.reduceLT, Nat.reduceLeDiff, Nat.reduceMul, Nat.reduceEqDiff, cond_true, cond_false, if_true, if_false, reduceIte, implies_true, forall_const, ne_eq])
    | (simp (disch := omega) only [wr64, Int.zero_sub]; try simp only [zT, drp, hasN, Bool.or_false, Bool.false_or, Bool.or_true, Bool.true_or, Classical.not_not, zS, vcC, exs, exd, pickV, alS, Al.ob, grd, ex, ov, gt, argE, strp, cnd, sideL, I.os, st, wrap, keep, binA, kseq, kblk, kret, klp, resL, res1, one, ocalls, obj, elems, cells, scalar, vs, pick1, fillA, splice, chop, eqC, Nat.reduceBEq, Nat.reduceAdd, Nat.reduceSub, Nat.reduceLT, Nat.reduceLeDiff, Nat.reduceMul, Nat.reduceEqDiff, cond_true, cond_false, if_true, if_false, reduceIte, implies_true, forall_const, ne_eq])
    | (refine AWPC.both (fun _ => ?_) (fun _ => ?_))
    | (refine AWPC.imp (fun _ => ?_))
    | ((repeat (refine And.intro (by (intros; simp_all (config := { decide := false }); done)) ?_)); (first
      | (refine .inl ⟨_, _, _, _, rfl, fun _hc => ⟨by simp, awake_spec⟩, ?_⟩)
      | (refine .inl ⟨_, _, _, _, rfl, fun _hc => ⟨by simp, hm⟩, ?_⟩)
      | (refine .inl ⟨_, _, _, _, rfl, fun _hc => ⟨by simp, rMeans_spec p t c⟩, ?_⟩)
      | (refine .inl ⟨_, _, _, _, rfl, fun _hc => ⟨by simp, Shrink_spec p t x y⟩, ?_⟩)
      | (refine .inl ⟨_, _, _, _, rfl, fun _hc => ⟨by simp, rShrink_spec p t x y⟩, ?_⟩)
      | (refine .inl ⟨_, _, _, _, rfl, fun _hc => ⟨by simp, Calibrate_spec p x y t⟩, ?_⟩)
      | (refine .inl ⟨_, _, _, _, rfl, fun _hc => ⟨by simp, rCalibrate_spec p x y t⟩, ?_⟩)
      | (refine .inl ⟨_, _, _, _, rfl, fun _hc => ⟨by simp, sameSpans_spec (p.RMeans t c).1 (p.RMeans t c).1 (by omega) (by omega)⟩, ?_⟩)
      | (refine ⟨_, _, _, _, rfl, fun _hc => ⟨by simp, awake_spec⟩, ?_⟩)
      | (refine ⟨_, _, _, _, rfl, fun _hc => ⟨by simp, hm⟩, ?_⟩)
      | (refine ⟨_, _, _, _, rfl, fun _hc => ⟨by simp, rMeans_spec p t c⟩, ?_⟩)
      | (refine ⟨_, _, _, _, rfl, fun _hc => ⟨by simp, Shrink_spec p t x y⟩, ?_⟩)
      | (refine ⟨_, _, _, _, rfl, fun _hc => ⟨by simp, rShrink_spec p t x y⟩, ?_⟩)
      | (refine ⟨_, _, _, _, rfl, fun _hc => ⟨by simp, Calibrate_spec p x y t⟩, ?_⟩)
      | (refine ⟨_, _, _, _, rfl, fun _hc => ⟨by simp, rCalibrate_spec p x y t⟩, ?_⟩)
      | (refine ⟨_, _, _, _, rfl, fun _hc => ⟨by simp, sameSpans_spec (p.RMeans t c).1 (p.RMeans t c).1 (by omega) (by omega)⟩, ?_⟩)
      | fail); (first | (refine owp_of_exs ?_; simp only [zT, drp, hasN, Bool.or_false, Bool.false_or, Bool.or_true, Bool.true_or, Classical.not_not, zS, vcC, exs, exd, pickV, alS, Al.ob, grd, ex, ov, gt, argE, strp, cnd, sideL, I.os, st, wrap, keep, binA, kseq, kblk, kret, klp, resL, res1, one, ocalls, obj, elems, cells, scalar, vs, pick1, fillA, splice, chop, eqC, Nat.reduceBEq, Nat.reduceAdd, Nat.reduceSub, Nat.reduceLT, Nat.reduceLeDiff, Nat.reduceMul, Nat.reduceEqDiff, cond_true, cond_false, if_true, if_false, reduceIte, implies_true, forall_const, ne_eq]) | (refine pre_of_exd ?_; simp only [zT, drp, hasN, Bool.or_false, Bool.false_or, Bool.or_true, Bool.true_or, Classical.not_not, zS, vcC, exs, exd, pickV, alS, Al.ob, grd, ex, ov, gt, argE, strp, cnd, sideL, I.os, st, wrap, keep, binA, kseq, kblk, kret, klp, resL, res1, one, ocalls, obj, elems, cells, scalar, vs, pick1, fillA, splice, chop, eqC, Nat.reduceBEq, Nat.reduceAdd, Nat.reduceSub, Nat.reduceLT, Nat.reduceLeDiff, Nat.reduceMul, Nat.reduceEqDiff, cond_true, cond_false, if_true, if_false, reduceIte, implies_true, forall_const, ne_eq]) | fail))
    | ((refine .inl ⟨_, _, _, .any, rfl, fun h => absurd h Bool.false_ne_true, ?_⟩); (first | (refine owp_of_exs ?_; simp only [zT, drp, hasN, Bool.or_false, Bool.false_or, Bool.or_true, Bool.true_or, Classical.not_not, zS, vcC, exs, exd, pickV, alS, Al.ob, grd, ex, ov, gt, argE, strp, cnd, sideL, I.os, st, wrap, keep, binA, kseq, kblk, kret, klp, resL, res1, one, ocalls, obj, elems, cells, scalar, vs, pick1, fillA, splice, chop, eqC, Nat.reduceBEq, Nat.reduceAdd, Nat.reduceSub, Nat.reduceLT, Nat.reduceLeDiff, Nat.reduceMul, Nat.reduceEqDiff, cond_true, cond_false, if_true, if_false, reduceIte, implies_true, forall_const, ne_eq]) | fail))
    | (refine ⟨by omega, ?_⟩)
    | fail)
  exact Frz.eq (by simp) (by simp)
end Go.Proofs.Ytgpdckmbojmlpaa
