import Derived.Test.YtgpdckmbojmlpaaATQ1
import Derived.Test.YtgpdckmbojmlpaaRows
namespace Go.Proofs.Ytgpdckmbojmlpaa
open Go.Abs
set_option linter.unusedVariables false
set_option linter.unusedSimpArgs false
set_option maxHeartbeats 4000000
set_option maxRecDepth 100000
-- aneroid/aneroidlaw01.PaperHeights
def c5 : CF := ⟨86,
 (.seq (.ops [
 ⟨(some 3), .box false 25 10 (.t 0), none⟩,
 ⟨(some 6), .mv (.c (.bool false)), none⟩] [1, 2, 3])
 (.seq (.ops [
 ⟨(some 20), .load (some 10) (.t 3), none⟩,
 ⟨(some 21), .mv (.t 1), none⟩,
 ⟨(some 22), .call (.f 19) [(.t 20), (.t 21)], none⟩,
 ⟨(some 19), .mv (.t 22), none⟩,
 ⟨(some 23), .ext 0 (.t 19), none⟩,
 ⟨(some 24), .ext 1 (.t 19), none⟩,
 ⟨(some 7), .mv (.t 23), none⟩,
 ⟨(some 8), .mv (.t 24), none⟩] [1, 2, 3, 7, 8])
 (.seq (.ops [
 ⟨(some 26), .load (some 10) (.t 3), none⟩,
 ⟨(some 27), .mv (.t 1), none⟩,
 ⟨(some 28), .call (.f 23) [(.t 26), (.t 27)], none⟩,
 ⟨(some 25), .mv (.t 28), none⟩,
 ⟨(some 29), .ext 0 (.t 25), none⟩,
 ⟨(some 30), .ext 1 (.t 25), none⟩,
 ⟨(some 9), .mv (.t 29), none⟩,
 ⟨(some 10), .mv (.t 30), none⟩] [1, 2, 3, 7, 8, 9, 10])
 (.seq (.ops [
 ⟨(some 32), .load (some 10) (.t 3), none⟩,
 ⟨(some 33), .mv (.t 1), none⟩,
 ⟨(some 34), .call (.f 24) [(.t 32), (.t 33)], none⟩,
 ⟨(some 31), .mv (.t 34), none⟩,
 ⟨(some 35), .ext 0 (.t 31), none⟩,
 ⟨(some 36), .ext 1 (.t 31), none⟩,
 ⟨(some 11), .mv (.t 35), none⟩,
 ⟨(some 12), .mv (.t 36), none⟩] [1, 2, 3, 7, 8, 9, 10, 11, 12])
 (.seq (.ops [
 ⟨(some 38), .load (some 10) (.t 3), none⟩,
 ⟨(some 39), .mv (.t 1), none⟩,
 ⟨(some 40), .call (.f 25) [(.t 38), (.t 39)], none⟩,
 ⟨(some 37), .mv (.t 40), none⟩,
 ⟨(some 41), .ext 0 (.t 37), none⟩,
 ⟨(some 42), .ext 1 (.t 37), none⟩,
 ⟨(some 13), .mv (.t 41), none⟩,
 ⟨(some 14), .mv (.t 42), none⟩] [2, 3, 7, 8, 9, 10, 11, 12, 13, 14])
 (.seq (.ops [
 ⟨(some 44), .load (some 10) (.t 3), none⟩,
 ⟨(some 45), .mv (.t 2), none⟩,
 ⟨(some 46), .call (.f 26) [(.t 44), (.t 45)], none⟩,
 ⟨(some 43), .mv (.t 46), none⟩,
 ⟨(some 47), .ext 0 (.t 43), none⟩,
 ⟨(some 48), .ext 1 (.t 43), none⟩,
 ⟨(some 15), .alloc 23 2 [.int .i64 0, .int .i64 0], none⟩,
 ⟨none, .store 2 (.t 15) (.t 47), none⟩,
 ⟨(some 16), .mv (.t 48), none⟩] [2, 3, 7, 8, 9, 10, 11, 12, 13, 14, 15, 16])
 (.seq (.ops [
 ⟨(some 50), .load (some 10) (.t 3), none⟩,
 ⟨(some 51), .mv (.t 2), none⟩,
 ⟨(some 52), .call (.f 27) [(.t 50), (.t 51)], none⟩,
 ⟨(some 49), .mv (.t 52), none⟩,
 ⟨(some 53), .ext 0 (.t 49), none⟩,
 ⟨(some 54), .ext 1 (.t 49), none⟩,
 ⟨(some 17), .alloc 23 2 [.int .i64 0, .int .i64 0], none⟩,
 ⟨none, .store 2 (.t 17) (.t 53), none⟩,
 ⟨(some 18), .mv (.t 54), none⟩] [7, 8, 9, 10, 11, 12, 13, 14, 15, 16, 17, 18])
 (.seq (.ops [
 ⟨(some 55), .call (.f 18) [], none⟩,
 ⟨(some 56), .mv (.t 55), none⟩,
 ⟨(some 57), .mv (.t 7), (some (56, true))⟩,
 ⟨(some 58), .mv (.t 9), (some (56, true))⟩,
 ⟨(some 59), .bin .eql (.t 57) (.t 58), (some (56, true))⟩,
 ⟨(some 60), .pick (.t 56) (.t 59) (.c (.bool false)), none⟩,
 ⟨(some 61), .mv (.t 60), none⟩,
 ⟨(some 62), .mv (.t 8), (some (61, true))⟩,
 ⟨(some 63), .mv (.t 10), (some (61, true))⟩,
 ⟨(some 64), .bin .eql (.t 62) (.t 63), (some (61, true))⟩,
 ⟨(some 65), .pick (.t 61) (.t 64) (.c (.bool false)), none⟩,
 ⟨(some 66), .mv (.t 65), none⟩,
 ⟨(some 67), .mv (.t 11), (some (66, true))⟩,
 ⟨(some 68), .mv (.t 13), (some (66, true))⟩,
 ⟨(some 69), .bin .eql (.t 67) (.t 68), (some (66, true))⟩,
 ⟨(some 70), .pick (.t 66) (.t 69) (.c (.bool false)), none⟩,
 ⟨(some 71), .mv (.t 70), none⟩,
 ⟨(some 72), .mv (.t 12), (some (71, true))⟩,
 ⟨(some 73), .mv (.t 14), (some (71, true))⟩,
 ⟨(some 74), .bin .eql (.t 72) (.t 73), (some (71, true))⟩,
 ⟨(some 75), .pick (.t 71) (.t 74) (.c (.bool false)), none⟩,
 ⟨(some 76), .mv (.t 75), none⟩,
 ⟨(some 77), .load (some 2) (.t 15), (some (76, true))⟩,
 ⟨(some 78), .load (some 2) (.t 17), (some (76, true))⟩,
 ⟨(some 79), .eqs false [some .i64, some .i64] (.t 77) (.t 78), (some (76, true))⟩,
 ⟨(some 80), .pick (.t 76) (.t 79) (.c (.bool false)), none⟩,
 ⟨(some 81), .mv (.t 80), none⟩,
 ⟨(some 82), .mv (.t 16), (some (81, true))⟩,
 ⟨(some 83), .mv (.t 18), (some (81, true))⟩,
 ⟨(some 84), .bin .eql (.t 82) (.t 83), (some (81, true))⟩,
 ⟨(some 85), .pick (.t 81) (.t 84) (.c (.bool false)), none⟩,
 ⟨(some 6), .mv (.t 85), none⟩] [6])
 .ret)))))))),
 [.t 6]⟩
-- aneroid/aneroidlaw01.PaperLevels
def c6 : CF := ⟨190,
 (.seq (.ops [
 ⟨(some 3), .box false 25 10 (.t 0), none⟩,
 ⟨(some 6), .mv (.c (.bool false)), none⟩] [1, 2, 3])
 (.seq (.ops [
 ⟨(some 22), .call (.f 18) [], none⟩,
 ⟨(some 7), .mv (.t 22), none⟩] [1, 2, 3, 7])
 (.seq (.ops [
 ⟨(some 24), .load (some 10) (.t 3), none⟩,
 ⟨(some 25), .mv (.t 1), none⟩,
 ⟨(some 26), .call (.f 24) [(.t 24), (.t 25)], none⟩,
 ⟨(some 23), .mv (.t 26), none⟩,
 ⟨(some 27), .ext 0 (.t 23), none⟩,
 ⟨(some 28), .ext 1 (.t 23), none⟩,
 ⟨(some 8), .mv (.t 27), none⟩,
 ⟨(some 9), .mv (.t 28), none⟩] [1, 2, 3, 7, 8, 9])
 (.seq (.seq (.ops [
 ⟨(some 29), .mv (.t 9), none⟩,
 ⟨(some 30), .bin .eql (.t 29) (.c (.int .i64 0)), none⟩] [1, 2, 3, 7, 8, 30])
 (.cond (.t 30) (.seq (.ops [
 ⟨(some 32), .load (some 10) (.t 3), none⟩,
 ⟨(some 33), .mv (.t 8), none⟩,
 ⟨(some 34), .call (.f 26) [(.t 32), (.t 33)], none⟩,
 ⟨(some 31), .mv (.t 34), none⟩,
 ⟨(some 35), .ext 0 (.t 31), none⟩,
 ⟨(some 36), .ext 1 (.t 31), none⟩,
 ⟨(some 10), .alloc 23 2 [.int .i64 0, .int .i64 0], none⟩,
 ⟨none, .store 2 (.t 10) (.t 35), none⟩,
 ⟨(some 11), .mv (.t 36), none⟩] [1, 2, 3, 7, 8, 10, 11])
 (.seq (.seq (.ops [
 ⟨(some 37), .mv (.t 11), none⟩,
 ⟨(some 38), .bin .neq (.t 37) (.c (.int .i64 0)), none⟩,
 ⟨(some 39), .mv (.t 38), none⟩,
 ⟨(some 40), .mv (.t 1), (some (39, false))⟩,
 ⟨(some 41), .faddr 0 (.t 10), (some (39, false))⟩,
 ⟨(some 42), .load none (.t 41), (some (39, false))⟩,
 ⟨(some 43), .bin .lss (.t 40) (.t 42), (some (39, false))⟩,
 ⟨(some 44), .pick (.t 39) (.c (.bool true)) (.t 43), none⟩,
 ⟨(some 45), .mv (.t 44), none⟩,
 ⟨(some 46), .mv (.t 1), (some (45, false))⟩,
 ⟨(some 47), .faddr 1 (.t 10), (some (45, false))⟩,
 ⟨(some 48), .load none (.t 47), (some (45, false))⟩,
 ⟨(some 49), .bin .gtr (.t 46) (.t 48), (some (45, false))⟩,
 ⟨(some 50), .pick (.t 45) (.c (.bool true)) (.t 49), none⟩,
 ⟨(some 51), .mv (.t 50), none⟩,
 ⟨(some 52), .mv (.t 8), (some (51, false))⟩,
 ⟨(some 53), .faddr 3 (.t 3), (some (51, false))⟩,
 ⟨(some 54), .load none (.t 53), (some (51, false))⟩,
 ⟨(some 55), .bin .lss (.t 52) (.t 54), (some (51, false))⟩,
 ⟨(some 56), .pick (.t 51) (.c (.bool true)) (.t 55), none⟩,
 ⟨(some 57), .mv (.t 56), none⟩,
 ⟨(some 58), .mv (.t 8), (some (57, false))⟩,
 ⟨(some 59), .faddr 4 (.t 3), (some (57, false))⟩,
 ⟨(some 60), .load none (.t 59), (some (57, false))⟩,
 ⟨(some 61), .bin .gtr (.t 58) (.t 60), (some (57, false))⟩,
 ⟨(some 62), .pick (.t 57) (.c (.bool true)) (.t 61), none⟩] [1, 2, 3, 7, 8, 62])
 (.cond (.t 62) (.seq (.ops [
 ⟨(some 6), .mv (.c (.bool false)), none⟩] [6])
 .ret)
 .skip))
 (.seq (.ops [
 ⟨(some 64), .load (some 10) (.t 3), none⟩,
 ⟨(some 65), .mv (.t 1), none⟩,
 ⟨(some 66), .bin .add (.t 65) (.c (.int .i64 1)), none⟩,
 ⟨(some 67), .call (.f 24) [(.t 64), (.t 66)], none⟩,
 ⟨(some 63), .mv (.t 67), none⟩,
 ⟨(some 68), .ext 0 (.t 63), none⟩,
 ⟨(some 69), .ext 1 (.t 63), none⟩,
 ⟨(some 12), .mv (.t 68), none⟩,
 ⟨(some 13), .mv (.t 69), none⟩] [1, 2, 3, 7, 8, 12, 13])
 (.seq (.ops [
 ⟨(some 70), .mv (.t 1), none⟩,
 ⟨(some 71), .faddr 1 (.t 3), none⟩,
 ⟨(some 72), .load none (.t 71), none⟩,
 ⟨(some 73), .bin .lss (.t 70) (.t 72), none⟩,
 ⟨(some 74), .mv (.t 73), none⟩,
 ⟨(some 75), .mv (.t 13), (some (74, true))⟩,
 ⟨(some 76), .bin .neq (.t 75) (.c (.int .i64 0)), (some (74, true))⟩,
 ⟨(some 77), .mv (.t 76), (some (74, true))⟩,
 ⟨(some 78), .mv (.t 12), (some (77, false))⟩,
 ⟨(some 79), .mv (.t 8), (some (77, false))⟩,
 ⟨(some 80), .bin .lss (.t 78) (.t 79), (some (77, false))⟩,
 ⟨(some 81), .pick (.t 77) (.c (.bool true)) (.t 80), (some (74, true))⟩,
 ⟨(some 82), .mv (.t 81), (some (74, true))⟩,
 ⟨(some 83), .mv (.t 12), (some (82, false))⟩,
 ⟨(some 84), .mv (.t 8), (some (82, false))⟩,
 ⟨(some 85), .bin .add (.t 84) (.c (.int .i64 1)), (some (82, false))⟩,
 ⟨(some 86), .bin .gtr (.t 83) (.t 85), (some (82, false))⟩,
 ⟨(some 87), .pick (.t 82) (.c (.bool true)) (.t 86), (some (74, true))⟩,
 ⟨(some 88), .pick (.t 74) (.t 87) (.c (.bool false)), none⟩,
 ⟨(some 89), .mv (.t 88), none⟩,
 ⟨(some 90), .mv (.t 1), (some (89, false))⟩,
 ⟨(some 91), .faddr 1 (.t 3), (some (89, false))⟩,
 ⟨(some 92), .load none (.t 91), (some (89, false))⟩,
 ⟨(some 93), .bin .eql (.t 90) (.t 92), (some (89, false))⟩,
 ⟨(some 94), .mv (.t 93), (some (89, false))⟩,
 ⟨(some 95), .mv (.t 8), (some (94, true))⟩,
 ⟨(some 96), .faddr 4 (.t 3), (some (94, true))⟩,
 ⟨(some 97), .load none (.t 96), (some (94, true))⟩,
 ⟨(some 98), .bin .neq (.t 95) (.t 97), (some (94, true))⟩,
 ⟨(some 99), .pick (.t 94) (.t 98) (.c (.bool false)), (some (89, false))⟩,
 ⟨(some 100), .pick (.t 89) (.c (.bool true)) (.t 99), none⟩] [2, 3, 7, 100])
 (.cond (.t 100) (.seq (.ops [
 ⟨(some 6), .mv (.c (.bool false)), none⟩] [6])
 .ret)
 .skip)))))
 .skip))
 (.seq (.ops [
 ⟨(some 102), .load (some 10) (.t 3), none⟩,
 ⟨(some 103), .mv (.t 2), none⟩,
 ⟨(some 104), .call (.f 26) [(.t 102), (.t 103)], none⟩,
 ⟨(some 101), .mv (.t 104), none⟩,
 ⟨(some 105), .ext 0 (.t 101), none⟩,
 ⟨(some 106), .ext 1 (.t 101), none⟩,
 ⟨(some 14), .alloc 23 2 [.int .i64 0, .int .i64 0], none⟩,
 ⟨none, .store 2 (.t 14) (.t 105), none⟩,
 ⟨(some 15), .mv (.t 106), none⟩] [2, 3, 7, 14, 15])
 (.seq (.seq (.ops [
 ⟨(some 107), .mv (.t 15), none⟩,
 ⟨(some 108), .bin .neq (.t 107) (.c (.int .i64 0)), none⟩] [2, 3, 7, 14, 108])
 (.cond (.t 108) (.seq (.ops [
 ⟨(some 109), .mv (.t 7), none⟩,
 ⟨(some 6), .mv (.t 109), none⟩] [6])
 .ret)
 .skip))
 (.seq (.ops [
 ⟨(some 111), .load (some 10) (.t 3), none⟩,
 ⟨(some 112), .faddr 0 (.t 14), none⟩,
 ⟨(some 113), .load none (.t 112), none⟩,
 ⟨(some 114), .call (.f 24) [(.t 111), (.t 113)], none⟩,
 ⟨(some 110), .mv (.t 114), none⟩,
 ⟨(some 115), .ext 0 (.t 110), none⟩,
 ⟨(some 116), .ext 1 (.t 110), none⟩,
 ⟨(some 16), .mv (.t 115), none⟩,
 ⟨(some 17), .mv (.t 116), none⟩] [2, 3, 7, 14, 16, 17])
 (.seq (.ops [
 ⟨(some 118), .load (some 10) (.t 3), none⟩,
 ⟨(some 119), .faddr 1 (.t 14), none⟩,
 ⟨(some 120), .load none (.t 119), none⟩,
 ⟨(some 121), .call (.f 24) [(.t 118), (.t 120)], none⟩,
 ⟨(some 117), .mv (.t 121), none⟩,
 ⟨(some 122), .ext 0 (.t 117), none⟩,
 ⟨(some 123), .ext 1 (.t 117), none⟩,
 ⟨(some 18), .mv (.t 122), none⟩,
 ⟨(some 19), .mv (.t 123), none⟩] [2, 3, 7, 14, 16, 17, 18, 19])
 (.seq (.seq (.ops [
 ⟨(some 124), .mv (.t 17), none⟩,
 ⟨(some 125), .bin .neq (.t 124) (.c (.int .i64 0)), none⟩,
 ⟨(some 126), .mv (.t 125), none⟩,
 ⟨(some 127), .mv (.t 19), (some (126, false))⟩,
 ⟨(some 128), .bin .neq (.t 127) (.c (.int .i64 0)), (some (126, false))⟩,
 ⟨(some 129), .pick (.t 126) (.c (.bool true)) (.t 128), none⟩,
 ⟨(some 130), .mv (.t 129), none⟩,
 ⟨(some 131), .mv (.t 16), (some (130, false))⟩,
 ⟨(some 132), .mv (.t 2), (some (130, false))⟩,
 ⟨(some 133), .bin .neq (.t 131) (.t 132), (some (130, false))⟩,
 ⟨(some 134), .pick (.t 130) (.c (.bool true)) (.t 133), none⟩,
 ⟨(some 135), .mv (.t 134), none⟩,
 ⟨(some 136), .mv (.t 18), (some (135, false))⟩,
 ⟨(some 137), .mv (.t 2), (some (135, false))⟩,
 ⟨(some 138), .bin .neq (.t 136) (.t 137), (some (135, false))⟩,
 ⟨(some 139), .pick (.t 135) (.c (.bool true)) (.t 138), none⟩,
 ⟨(some 140), .mv (.t 139), none⟩,
 ⟨(some 141), .faddr 0 (.t 14), (some (140, false))⟩,
 ⟨(some 142), .load none (.t 141), (some (140, false))⟩,
 ⟨(some 143), .faddr 1 (.t 14), (some (140, false))⟩,
 ⟨(some 144), .load none (.t 143), (some (140, false))⟩,
 ⟨(some 145), .bin .gtr (.t 142) (.t 144), (some (140, false))⟩,
 ⟨(some 146), .pick (.t 140) (.c (.bool true)) (.t 145), none⟩] [2, 3, 7, 14, 146])
 (.cond (.t 146) (.seq (.ops [
 ⟨(some 6), .mv (.c (.bool false)), none⟩] [6])
 .ret)
 .skip))
 (.seq (.seq (.ops [
 ⟨(some 147), .mv (.t 2), none⟩,
 ⟨(some 148), .faddr 4 (.t 3), none⟩,
 ⟨(some 149), .load none (.t 148), none⟩,
 ⟨(some 150), .bin .eql (.t 147) (.t 149), none⟩] [2, 3, 7, 14, 150])
 (.cond (.t 150) (.seq (.ops [
 ⟨(some 151), .mv (.t 7), none⟩,
 ⟨(some 152), .mv (.t 151), none⟩,
 ⟨(some 153), .faddr 1 (.t 14), (some (152, true))⟩,
 ⟨(some 154), .load none (.t 153), (some (152, true))⟩,
 ⟨(some 155), .faddr 1 (.t 3), (some (152, true))⟩,
 ⟨(some 156), .load none (.t 155), (some (152, true))⟩,
 ⟨(some 157), .bin .eql (.t 154) (.t 156), (some (152, true))⟩,
 ⟨(some 158), .pick (.t 152) (.t 157) (.c (.bool false)), none⟩,
 ⟨(some 6), .mv (.t 158), none⟩] [6])
 .ret)
 .skip))
 (.seq (.ops [
 ⟨(some 160), .load (some 10) (.t 3), none⟩,
 ⟨(some 161), .mv (.t 2), none⟩,
 ⟨(some 162), .bin .add (.t 161) (.c (.int .i64 1)), none⟩,
 ⟨(some 163), .call (.f 26) [(.t 160), (.t 162)], none⟩,
 ⟨(some 159), .mv (.t 163), none⟩,
 ⟨(some 164), .ext 0 (.t 159), none⟩,
 ⟨(some 165), .ext 1 (.t 159), none⟩,
 ⟨(some 20), .alloc 23 2 [.int .i64 0, .int .i64 0], none⟩,
 ⟨none, .store 2 (.t 20) (.t 164), none⟩,
 ⟨(some 21), .mv (.t 165), none⟩] [2, 3, 7, 14, 20, 21])
 (.seq (.ops [
 ⟨(some 166), .mv (.t 7), none⟩,
 ⟨(some 167), .mv (.t 166), none⟩,
 ⟨(some 168), .mv (.t 21), (some (167, true))⟩,
 ⟨(some 169), .bin .eql (.t 168) (.c (.int .i64 0)), (some (167, true))⟩,
 ⟨(some 170), .pick (.t 167) (.t 169) (.c (.bool false)), none⟩,
 ⟨(some 171), .mv (.t 170), none⟩,
 ⟨(some 172), .faddr 0 (.t 20), (some (171, true))⟩,
 ⟨(some 173), .load none (.t 172), (some (171, true))⟩,
 ⟨(some 174), .faddr 1 (.t 14), (some (171, true))⟩,
 ⟨(some 175), .load none (.t 174), (some (171, true))⟩,
 ⟨(some 176), .bin .add (.t 175) (.c (.int .i64 1)), (some (171, true))⟩,
 ⟨(some 177), .bin .eql (.t 173) (.t 176), (some (171, true))⟩,
 ⟨(some 178), .pick (.t 171) (.t 177) (.c (.bool false)), none⟩,
 ⟨(some 179), .mv (.t 178), none⟩,
 ⟨(some 180), .mv (.t 2), (some (179, true))⟩,
 ⟨(some 181), .faddr 3 (.t 3), (some (179, true))⟩,
 ⟨(some 182), .load none (.t 181), (some (179, true))⟩,
 ⟨(some 183), .bin .gtr (.t 180) (.t 182), (some (179, true))⟩,
 ⟨(some 184), .mv (.t 183), (some (179, true))⟩,
 ⟨(some 185), .faddr 0 (.t 14), (some (184, false))⟩,
 ⟨(some 186), .load none (.t 185), (some (184, false))⟩,
 ⟨(some 187), .bin .eql (.t 186) (.c (.int .i64 0)), (some (184, false))⟩,
 ⟨(some 188), .pick (.t 184) (.c (.bool true)) (.t 187), (some (179, true))⟩,
 ⟨(some 189), .pick (.t 179) (.t 188) (.c (.bool false)), none⟩,
 ⟨(some 6), .mv (.t 189), none⟩] [6])
 .ret)))))))))))),
 [.t 6]⟩

theorem k5 : chkF Try.prog Try.f5 c5 = true := by kernel_rfl
theorem k6 : chkF Try.prog Try.f6 c6 = true := by kernel_rfl

def Pp.Hts (p : Pp) (l : Int) : Sp × Int := if p.good then (if p.lo ≤ l ∧ l ≤ p.hi then (⟨p.least l, min p.he (p.least (l + 1) - 1)⟩, 0) else (⟨0, 0⟩, 1)) else (⟨0, 0⟩, 10)

theorem hts_eq (p : Pp) (l : Int) : (AV.tup [.agg (if p.good ∧ p.lo ≤ l ∧ l ≤ p.hi then [n (p.least l), n (min p.he (p.least (l + 1) - 1))] else [n 0, n 0]),
    n (if p.good then (if p.lo ≤ l ∧ l ≤ p.hi then 0 else 1) else 10)]) = .tup [.agg (p.Hts l).1.cs, n (p.Hts l).2] := by
  unfold Pp.Hts
  by_cases h : p.good
  · by_cases g : p.lo ≤ l ∧ l ≤ p.hi
    · simp [h, g]
    · simp [h, g]
  · simp [h]

theorem Heights_spec' (p : Pp) (l : Int) : Pure Try.prog 26 [.agg p.cs, n l] (.tup [.agg (p.Hts l).1.cs, n (p.Hts l).2]) := hts_eq p l ▸ Heights_spec p l
theorem rHeights_spec' (p : Pp) (l : Int) : Pure Try.prog 27 [.agg p.cs, n l] (.tup [.agg (p.Hts l).1.cs, n (p.Hts l).2]) := hts_eq p l ▸ rHeights_spec p l

theorem rArc_spec' (p : Pp) (y : Int) : Pure Try.prog 23 [.agg p.cs, n y] (.tup [n (p.ya y), n (p.yerr y)]) := rArc_spec p y
def Pp.yl (p : Pp) (y : Int) : Int := if p.good ∧ 0 ≤ y ∧ y ≤ p.he then p.level y else 0
theorem Level_spec' (p : Pp) (y : Int) : Pure Try.prog 24 [.agg p.cs, n y] (.tup [n (p.yl y), n (p.yerr y)]) := Level_spec p y
theorem rLevel_spec' (p : Pp) (y : Int) : Pure Try.prog 25 [.agg p.cs, n y] (.tup [n (p.yl y), n (p.yerr y)]) := rLevel_spec p y

theorem PaperHeights_spec (p : Pp) (y l : Int) : Pure Try.prog 5 [.agg p.cs, n y, n l] (bl true) := by
  refine Pure.of_body Try.call5 Try.func5 k5 (Nat.le_of_ble_eq_true rfl) ?_
  unfold c5
  (repeat' first
    | (refine AWPC.of_vcn rfl ?_; simp only [zT, drp, hasN, Bool.or_false, Bool.false_or, Bool.or_true, Bool.true_or, Classical.not_not, zS, vcC, exs, exd, pickV, alS, Al.ob, grd, ex, ov, gt, argE, strp, cnd, sideL, I.os, st, wrap, keep, binA, kseq, kblk, kret, klp, resL, res1, one, ocalls, obj, elems, cells, scalar, vs, pick1, fillA, splice, chop, eqC, Nat.reduceBEq, Nat.reduceAdd, Nat.reduceSub, Nat.reduceLT, Nat.reduceLeDiff, Nat.reduceMul, Nat.reduceEqDiff, cond_true, cond_false, if_true, if_false, reduceIte, implies_true, forall_const, ne_eq])
    | (simp (disch := omega) only [wr64, Int.zero_sub]; try simp only [zT, drp, hasN, Bool.or_false, Bool.false_or, Bool.or_true, Bool.true_or, Classical.not_not, zS, vcC, exs, exd, pickV, alS, Al.ob, grd, ex, ov, gt, argE, strp, cnd, sideL, I.os, st, wrap, keep, binA, kseq, kblk, kret, klp, resL, res1, one, ocalls, obj, elems, cells, scalar, vs, pick1, fillA, splice, chop, eqC, Nat.reduceBEq, Nat.reduceAdd, Nat.reduceSub, Nat.reduceLT, Nat.reduceLeDiff, Nat.reduceMul, Nat.reduceEqDiff, cond_true, cond_false, if_true, if_false, reduceIte, implies_true, forall_const, ne_eq])
    | (refine AWPC.both (fun _ => ?_) (fun _ => ?_))
    | (refine AWPC.imp (fun _ => ?_))
    | ((repeat (refine And.intro (by (intros; simp_all (config := { decide := false }); done)) ?_)); (first
      | (refine .inl ⟨_, _, _, _, rfl, fun _hc => ⟨by simp, awake_spec⟩, ?_⟩)
      | (refine .inl ⟨_, _, _, _, rfl, fun _hc => ⟨by simp, Arc_spec' p y⟩, ?_⟩)
      | (refine .inl ⟨_, _, _, _, rfl, fun _hc => ⟨by simp, rArc_spec' p y⟩, ?_⟩)
      | (refine .inl ⟨_, _, _, _, rfl, fun _hc => ⟨by simp, Level_spec' p y⟩, ?_⟩)
      | (refine .inl ⟨_, _, _, _, rfl, fun _hc => ⟨by simp, rLevel_spec' p y⟩, ?_⟩)
      | (refine .inl ⟨_, _, _, _, rfl, fun _hc => ⟨by simp, Heights_spec' p l⟩, ?_⟩)
      | (refine .inl ⟨_, _, _, _, rfl, fun _hc => ⟨by simp, rHeights_spec' p l⟩, ?_⟩)
      | (refine ⟨_, _, _, _, rfl, fun _hc => ⟨by simp, awake_spec⟩, ?_⟩)
      | (refine ⟨_, _, _, _, rfl, fun _hc => ⟨by simp, Arc_spec' p y⟩, ?_⟩)
      | (refine ⟨_, _, _, _, rfl, fun _hc => ⟨by simp, rArc_spec' p y⟩, ?_⟩)
      | (refine ⟨_, _, _, _, rfl, fun _hc => ⟨by simp, Level_spec' p y⟩, ?_⟩)
      | (refine ⟨_, _, _, _, rfl, fun _hc => ⟨by simp, rLevel_spec' p y⟩, ?_⟩)
      | (refine ⟨_, _, _, _, rfl, fun _hc => ⟨by simp, Heights_spec' p l⟩, ?_⟩)
      | (refine ⟨_, _, _, _, rfl, fun _hc => ⟨by simp, rHeights_spec' p l⟩, ?_⟩)
      | fail); (first | (refine owp_of_exs ?_; simp only [zT, drp, hasN, Bool.or_false, Bool.false_or, Bool.or_true, Bool.true_or, Classical.not_not, zS, vcC, exs, exd, pickV, alS, Al.ob, grd, ex, ov, gt, argE, strp, cnd, sideL, I.os, st, wrap, keep, binA, kseq, kblk, kret, klp, resL, res1, one, ocalls, obj, elems, cells, scalar, vs, pick1, fillA, splice, chop, eqC, Nat.reduceBEq, Nat.reduceAdd, Nat.reduceSub, Nat.reduceLT, Nat.reduceLeDiff, Nat.reduceMul, Nat.reduceEqDiff, cond_true, cond_false, if_true, if_false, reduceIte, implies_true, forall_const, ne_eq]) | (refine pre_of_exd ?_; simp only [zT, drp, hasN, Bool.or_false, Bool.false_or, Bool.or_true, Bool.true_or, Classical.not_not, zS, vcC, exs, exd, pickV, alS, Al.ob, grd, ex, ov, gt, argE, strp, cnd, sideL, I.os, st, wrap, keep, binA, kseq, kblk, kret, klp, resL, res1, one, ocalls, obj, elems, cells, scalar, vs, pick1, fillA, splice, chop, eqC, Nat.reduceBEq, Nat.reduceAdd, Nat.reduceSub, Nat.reduceLT, Nat.reduceLeDiff, Nat.reduceMul, Nat.reduceEqDiff, cond_true, cond_false, if_true, if_false, reduceIte, implies_true, forall_const, ne_eq]) | fail))
    | ((refine .inl ⟨_, _, _, .any, rfl, fun h => absurd h Bool.false_ne_true, ?_⟩); (first | (refine owp_of_exs ?_; simp only [zT, drp, hasN, Bool.or_false, Bool.false_or, Bool.or_true, Bool.true_or, Classical.not_not, zS, vcC, exs, exd, pickV, alS, Al.ob, grd, ex, ov, gt, argE, strp, cnd, sideL, I.os, st, wrap, keep, binA, kseq, kblk, kret, klp, resL, res1, one, ocalls, obj, elems, cells, scalar, vs, pick1, fillA, splice, chop, eqC, Nat.reduceBEq, Nat.reduceAdd, Nat.reduceSub, Nat.reduceLT, Nat.reduceLeDiff, Nat.reduceMul, Nat.reduceEqDiff, cond_true, cond_false, if_true, if_false, reduceIte, implies_true, forall_const, ne_eq]) | fail))
    | (refine ⟨by omega, ?_⟩)
    | fail)
  exact Frz.eq (by simp) (by simp)

theorem level_ediv (p : Pp) {y : Int} (hg : p.good) (h0 : 0 ≤ y) : p.level y = p.lo + y * (p.hi - p.lo) / p.he := by
  obtain ⟨g1, g2, g3, g4, g5, g6, g7, g8, g9, g10, g11, g12, g13⟩ := hg
  unfold Pp.level
  rw [Int.tdiv_eq_ediv_of_nonneg (Int.mul_nonneg h0 (by omega))]

theorem level_ge (p : Pp) {y l : Int} (hg : p.good) (h0 : 0 ≤ y) (hl : p.lo ≤ l) (hh : l ≤ p.hi + 1) : l ≤ p.level y ↔ p.least l ≤ y := by
  rw [level_ediv p hg h0, least_ceil p l hg hl hh]
  obtain ⟨g1, g2, g3, g4, g5, g6, g7, g8, g9, g10, g11, g12, g13⟩ := hg
  have e1 := Int.le_ediv_iff_mul_le (a := l - p.lo) (b := y * (p.hi - p.lo)) (c := p.he) (by omega)
  have e2 := Int.le_ediv_iff_mul_le (a := -y) (b := -((l - p.lo) * p.he)) (c := p.hi - p.lo) (by omega)
  rw [Int.neg_mul] at e2
  omega

theorem level_0 (p : Pp) (hg : p.good) : p.level 0 = p.lo := by
  rw [level_ediv p hg (by omega)]; simp

theorem level_top (p : Pp) (hg : p.good) : p.level p.he = p.hi := by
  have hg' := hg
  obtain ⟨g1, g2, g3, g4, g5, g6, g7, g8, g9, g10, g11, g12, g13⟩ := hg'
  rw [level_ediv p hg (by omega), Int.mul_ediv_cancel_left _ (by omega)]; omega

theorem level_mono (p : Pp) {y z : Int} (hg : p.good) (h0 : 0 ≤ y) (h : y ≤ z) : p.level y ≤ p.level z := by
  have hg' := hg
  obtain ⟨g1, g2, g3, g4, g5, g6, g7, g8, g9, g10, g11, g12, g13⟩ := hg'
  rw [level_ediv p hg h0, level_ediv p hg (by omega)]
  have := Int.ediv_le_ediv (c := p.he) (by omega) (Int.mul_le_mul_of_nonneg_right h (show 0 ≤ p.hi - p.lo by omega))
  omega

theorem level_step (p : Pp) {y : Int} (hg : p.good) (h0 : 0 ≤ y) : p.level (y + 1) ≤ p.level y + 1 := by
  have hg' := hg
  obtain ⟨g1, g2, g3, g4, g5, g6, g7, g8, g9, g10, g11, g12, g13⟩ := hg'
  rw [level_ediv p hg h0, level_ediv p hg (by omega)]
  have h1 : (y + 1) * (p.hi - p.lo) ≤ y * (p.hi - p.lo) + 1 * p.he := by rw [Int.add_mul]; omega
  have := Int.ediv_le_ediv (c := p.he) (by omega) h1
  rw [Int.add_mul_ediv_right _ _ (by omega)] at this
  omega

theorem level_in (p : Pp) {y : Int} (hg : p.good) (h0 : 0 ≤ y) (h1 : y ≤ p.he) : p.lo ≤ p.level y ∧ p.level y ≤ p.hi := by
  have a := level_mono p hg (Int.le_refl 0) h0
  have b := level_mono p hg h0 h1
  rw [level_0 p hg] at a; rw [level_top p hg] at b
  exact ⟨a, b⟩

theorem span_of (p : Pp) {l : Int} (hg : p.good) (h0 : p.lo ≤ l) (h1 : l ≤ p.hi) :
    0 ≤ p.least l ∧ p.least l ≤ p.he ∧ p.least l + 1 ≤ p.least (l + 1) ∧ (l < p.hi → p.least (l + 1) ≤ p.he) ∧ (l = p.hi → p.he < p.least (l + 1)) ∧ (l = p.lo → p.least l = 0) := by
  have b1 := least_bd p l hg h0 (by omega)
  have t := level_top p hg
  have z := level_0 p hg
  have hg' := hg
  obtain ⟨g1, g2, g3, g4, g5, g6, g7, g8, g9, g10, g11, g12, g13⟩ := hg'
  have e1 := level_ge p (y := p.he) hg (by omega) h0 (by omega)
  have e2 := level_ge p (y := p.least l) (l := l) hg (by omega) h0 (by omega)
  have e3 := level_ge p (y := p.least l) (l := l + 1) hg (by omega) (by omega) (by omega)
  have e4 := level_ge p (y := p.he) (l := l + 1) hg (by omega) (by omega) (by omega)
  have e5 := level_ge p (y := 0) (l := l) hg (by omega) h0 (by omega)
  refine ⟨b1.1, by omega, ?_, by omega, by omega, by omega⟩
  refine Int.not_lt.1 fun hlt => ?_
  have k1 : l + 1 ≤ p.level (p.least l) := by omega
  by_cases ha : p.least l = 0
  · rw [ha] at k1; omega
  · have e6 := level_ge p (y := p.least l - 1) (l := l) hg (by omega) h0 (by omega)
    have e7 := level_step p (y := p.least l - 1) hg (by omega)
    rw [show p.least l - 1 + 1 = p.least l by omega] at e7
    omega

theorem yl1 {p : Pp} {y : Int} (hg : p.good) (h0 : 0 ≤ y) (h1 : y ≤ p.he) : p.yl y = p.level y := if_pos ⟨hg, h0, h1⟩
theorem hts0 {p : Pp} {l : Int} (hg : p.good) (h0 : p.lo ≤ l) (h1 : l ≤ p.hi) : p.Hts l = (⟨p.least l, min p.he (p.least (l + 1) - 1)⟩, 0) := by
  rw [Pp.Hts, if_pos hg, if_pos ⟨h0, h1⟩]
theorem hts1 {p : Pp} {l : Int} (h : (p.Hts l).2 = 0) : p.good ∧ p.lo ≤ l ∧ l ≤ p.hi := by
  unfold Pp.Hts at h
  split at h
  · split at h
    · exact ⟨‹_›, ‹_›⟩
    · exact absurd h (by decide)
  · exact absurd h (by decide)

theorem levels1 (p : Pp) (y : Int) (h : p.yerr y = 0) : (p.Hts (p.yl y)).2 = 0 ∧ (p.Hts (p.yl y)).1.lo ≤ y ∧ y ≤ (p.Hts (p.yl y)).1.hi ∧ p.lo ≤ p.yl y ∧ p.yl y ≤ p.hi ∧ 0 ≤ y ∧ y ≤ 400000 ∧ 0 ≤ p.lo ∧ p.hi ≤ 12000 ∧
    (y < p.he → p.yerr (y + 1) = 0 ∧ p.yl y ≤ p.yl (y + 1) ∧ p.yl (y + 1) ≤ p.yl y + 1) ∧ (y = p.he → p.yl y = p.hi) := by
  obtain ⟨hg, h0, h1⟩ := yerr0.1 h
  have hi := level_in p hg h0 h1
  have e := yl1 hg h0 h1
  have e1 := level_ge p (y := y) (l := p.level y) hg h0 hi.1 (by omega)
  have e2 := level_ge p (y := y) (l := p.level y + 1) hg h0 (by omega) (by omega)
  have hb := hg
  obtain ⟨g1, g2, g3, g4, g5, g6, g7, g8, g9, g10, g11, g12, g13⟩ := hb
  rw [e, hts0 hg hi.1 hi.2]
  refine ⟨rfl, by simp only; omega, by simp only; omega, hi.1, hi.2, h0, by omega, by omega, by omega, fun hlt => ?_, fun he => by rw [he]; exact level_top p hg⟩
  have e' := yl1 (y := y + 1) hg (by omega) (by omega)
  rw [e']
  exact ⟨yerr0.2 ⟨hg, by omega, by omega⟩, level_mono p hg h0 (by omega), level_step p hg h0⟩

theorem levels2 (p : Pp) (l : Int) (h : (p.Hts l).2 = 0) : p.yerr (p.Hts l).1.lo = 0 ∧ p.yerr (p.Hts l).1.hi = 0 ∧ p.yl (p.Hts l).1.lo = l ∧ p.yl (p.Hts l).1.hi = l ∧ (p.Hts l).1.lo ≤ (p.Hts l).1.hi ∧
    (l = p.hi → (p.Hts l).1.hi = p.he) ∧ (¬ l = p.hi → (p.Hts (l + 1)).2 = 0 ∧ (p.Hts (l + 1)).1.lo = (p.Hts l).1.hi + 1 ∧ (p.lo < l ∨ (p.Hts l).1.lo = 0)) ∧ 0 ≤ l ∧ l ≤ 12000 ∧ 0 ≤ (p.Hts l).1.hi ∧ (p.Hts l).1.hi ≤ 400000 := by
  obtain ⟨hg, h0, h1⟩ := hts1 h
  have s := span_of p hg h0 h1
  have hb := hg
  obtain ⟨g1, g2, g3, g4, g5, g6, g7, g8, g9, g10, g11, g12, g13⟩ := hb
  rw [hts0 hg h0 h1]
  simp only
  generalize hB : min p.he (p.least (l + 1) - 1) = b
  have hb1 : p.least l ≤ b ∧ b ≤ p.he ∧ b + 1 ≤ p.least (l + 1) := by omega
  have e1 := level_ge p (y := p.least l) (l := l) hg (by omega) h0 (by omega)
  have e2 := level_ge p (y := p.least l) (l := l + 1) hg (by omega) (by omega) (by omega)
  have e3 := level_ge p (y := b) (l := l) hg (by omega) h0 (by omega)
  have e4 := level_ge p (y := b) (l := l + 1) hg (by omega) (by omega) (by omega)
  rw [yl1 (y := p.least l) hg (by omega) (by omega), yl1 (y := b) hg (by omega) (by omega)]
  refine ⟨yerr0.2 ⟨hg, by omega, by omega⟩, yerr0.2 ⟨hg, by omega, by omega⟩, by omega, by omega, by omega, by omega, fun hne => ?_, by omega, by omega, by omega, by omega⟩
  rw [hts0 hg (by omega) (by omega)]
  exact ⟨rfl, by simp only; omega, by omega⟩

theorem PaperLevels_spec (p : Pp) (y l : Int) : Pure Try.prog 6 [.agg p.cs, n y, n l] (bl true) := by
  refine Pure.of_body Try.call6 Try.func6 k6 (Nat.le_of_ble_eq_true rfl) ?_
  have F1 := levels1 p y
  have F2 := levels2 p l
  unfold c6
  (repeat' first
    | (refine AWPC.of_vcn rfl ?_; simp only [zT, drp, hasN, Bool.or_false, Bool.false_or, Bool.or_true, Bool.true_or, Classical.not_not, zS, vcC, exs, exd, pickV, alS, Al.ob, grd, ex, ov, gt, argE, strp, cnd, sideL, I.os, st, wrap, keep, binA, kseq, kblk, kret, klp, resL, res1, one, ocalls, obj, elems, cells, scalar, vs, pick1, fillA, splice, chop, eqC, Nat.reduceBEq, Nat.reduceAdd, Nat.reduceSub, Nat.reduceLT, Nat.reduceLeDiff, Nat.reduceMul, Nat.reduceEqDiff, cond_true, cond_false, if_true, if_false, reduceIte, implies_true, forall_const, ne_eq])
    | (simp (disch := omega) only [wr64, Int.zero_sub]; try simp only [zT, drp, hasN, Bool.or_false, Bool.false_or, Bool.or_true, Bool.true_or, Classical.not_not, zS, vcC, exs, exd, pickV, alS, Al.ob, grd, ex, ov, gt, argE, strp, cnd, sideL, I.os, st, wrap, keep, binA, kseq, kblk, kret, klp, resL, res1, one, ocalls, obj, elems, cells, scalar, vs, pick1, fillA, splice, chop, eqC, Nat.reduceBEq, Nat.reduceAdd, Nat.reduceSub, Nat.reduceLT, Nat.reduceLeDiff, Nat.reduceMul, Nat.reduceEqDiff, cond_true, cond_false, if_true, if_false, reduceIte, implies_true, forall_const, ne_eq])
    | (refine AWPC.both (fun _ => ?_) (fun _ => ?_))
    | (refine AWPC.imp (fun _ => ?_))
    | ((repeat (refine And.intro (by (intros; simp_all (config := { decide := false }); done)) ?_)); (first
      | (refine .inl ⟨_, _, _, _, rfl, fun _hc => ⟨by simp, awake_spec⟩, ?_⟩)
      | (refine .inl ⟨_, _, _, _, rfl, fun _hc => ⟨by simp, Level_spec' p _⟩, ?_⟩)
      | (refine .inl ⟨_, _, _, _, rfl, fun _hc => ⟨by simp, Heights_spec' p _⟩, ?_⟩)
      | (refine ⟨_, _, _, _, rfl, fun _hc => ⟨by simp, awake_spec⟩, ?_⟩)
      | (refine ⟨_, _, _, _, rfl, fun _hc => ⟨by simp, Level_spec' p _⟩, ?_⟩)
      | (refine ⟨_, _, _, _, rfl, fun _hc => ⟨by simp, Heights_spec' p _⟩, ?_⟩)
      | fail); (first | (refine owp_of_exs ?_; simp only [zT, drp, hasN, Bool.or_false, Bool.false_or, Bool.or_true, Bool.true_or, Classical.not_not, zS, vcC, exs, exd, pickV, alS, Al.ob, grd, ex, ov, gt, argE, strp, cnd, sideL, I.os, st, wrap, keep, binA, kseq, kblk, kret, klp, resL, res1, one, ocalls, obj, elems, cells, scalar, vs, pick1, fillA, splice, chop, eqC, Nat.reduceBEq, Nat.reduceAdd, Nat.reduceSub, Nat.reduceLT, Nat.reduceLeDiff, Nat.reduceMul, Nat.reduceEqDiff, cond_true, cond_false, if_true, if_false, reduceIte, implies_true, forall_const, ne_eq]) | (refine pre_of_exd ?_; simp only [zT, drp, hasN, Bool.or_false, Bool.false_or, Bool.or_true, Bool.true_or, Classical.not_not, zS, vcC, exs, exd, pickV, alS, Al.ob, grd, ex, ov, gt, argE, strp, cnd, sideL, I.os, st, wrap, keep, binA, kseq, kblk, kret, klp, resL, res1, one, ocalls, obj, elems, cells, scalar, vs, pick1, fillA, splice, chop, eqC, Nat.reduceBEq, Nat.reduceAdd, Nat.reduceSub, Nat.reduceLT, Nat.reduceLeDiff, Nat.reduceMul, Nat.reduceEqDiff, cond_true, cond_false, if_true, if_false, reduceIte, implies_true, forall_const, ne_eq]) | fail))
    | ((refine .inl ⟨_, _, _, .any, rfl, fun h => absurd h Bool.false_ne_true, ?_⟩); (first | (refine owp_of_exs ?_; simp only [zT, drp, hasN, Bool.or_false, Bool.false_or, Bool.or_true, Bool.true_or, Classical.not_not, zS, vcC, exs, exd, pickV, alS, Al.ob, grd, ex, ov, gt, argE, strp, cnd, sideL, I.os, st, wrap, keep, binA, kseq, kblk, kret, klp, resL, res1, one, ocalls, obj, elems, cells, scalar, vs, pick1, fillA, splice, chop, eqC, Nat.reduceBEq, Nat.reduceAdd, Nat.reduceSub, Nat.reduceLT, Nat.reduceLeDiff, Nat.reduceMul, Nat.reduceEqDiff, cond_true, cond_false, if_true, if_false, reduceIte, implies_true, forall_const, ne_eq]) | fail))
    | (refine ⟨by omega, ?_⟩)
    | fail)
  all_goals first
    | exact Frz.eq rfl (by simp)
    | (exfalso; omega)
    | (refine Frz.eq ?_ (by simp); congr 2; simp only [decide_eq_true_eq]; omega)
end Go.Proofs.Ytgpdckmbojmlpaa
