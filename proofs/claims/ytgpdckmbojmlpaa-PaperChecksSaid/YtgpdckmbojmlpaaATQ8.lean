import Derived.Test.YtgpdckmbojmlpaaATQ7
import Derived.Test.YtgpdckmbojmlpaaRows
namespace Go.Proofs.Ytgpdckmbojmlpaa
open Go.Abs
set_option linter.unusedVariables false
set_option linter.unusedSimpArgs false
set_option maxHeartbeats 4000000
set_option maxRecDepth 100000
-- aneroid/aneroidlaw01.few
def c44 : CF := ⟨23,
 (.seq (.ops [
 ⟨(some 4), .mv (.c (.bool false)), none⟩] [0, 1])
 (.seq (.ops [
 ⟨(some 5), .mv (.t 1), none⟩,
 ⟨(some 6), .len (.t 5), none⟩,
 ⟨(some 7), .bin .leq (.t 6) (.c (.int .i64 300)), none⟩,
 ⟨(some 8), .mv (.t 7), none⟩,
 ⟨(some 9), .mv (.t 0), (some (8, true))⟩,
 ⟨(some 10), .len (.t 9), (some (8, true))⟩,
 ⟨(some 11), .bin .leq (.t 10) (.c (.int .i64 30)), (some (8, true))⟩,
 ⟨(some 12), .mv (.t 11), (some (8, true))⟩,
 ⟨(some 13), .mv (.t 0), (some (12, false))⟩,
 ⟨(some 14), .len (.t 13), (some (12, false))⟩,
 ⟨(some 15), .bin .gtr (.t 14) (.c (.int .i64 2000)), (some (12, false))⟩,
 ⟨(some 16), .mv (.t 15), (some (12, false))⟩,
 ⟨(some 17), .mv (.t 0), (some (16, true))⟩,
 ⟨(some 18), .len (.t 17), (some (16, true))⟩,
 ⟨(some 19), .bin .lss (.t 18) (.c (.int .i64 2100)), (some (16, true))⟩,
 ⟨(some 20), .pick (.t 16) (.t 19) (.c (.bool false)), (some (12, false))⟩,
 ⟨(some 21), .pick (.t 12) (.c (.bool true)) (.t 20), (some (8, true))⟩,
 ⟨(some 22), .pick (.t 8) (.t 21) (.c (.bool false)), none⟩,
 ⟨(some 4), .mv (.t 22), none⟩] [4])
 .ret)),
 [.t 4]⟩
-- aneroid/aneroidlaw01.small
def c45 : CF := ⟨25,
 (.seq (.ops [
 ⟨(some 1), .box false 56 1 (.t 0), none⟩,
 ⟨(some 2), .mv (.c (.bool false)), none⟩] [1])
 (.seq (.ops [
 ⟨(some 5), .faddr 0 (.t 1), none⟩,
 ⟨(some 6), .load none (.t 5), none⟩,
 ⟨(some 7), .len (.t 6), none⟩,
 ⟨(some 3), .mv (.t 7), none⟩] [1, 3])
 (.seq (.seq (.ops [
 ⟨(some 4), .mv (.c (.int .i64 0)), none⟩] [1, 3, 4])
 (.block 0 (.loop (.seq (.seq (.ops [
 ⟨(some 8), .mv (.t 4), none⟩,
 ⟨(some 9), .faddr 0 (.t 1), none⟩,
 ⟨(some 10), .load none (.t 9), none⟩,
 ⟨(some 11), .len (.t 10), none⟩,
 ⟨(some 12), .bin .lss (.t 8) (.t 11), none⟩] [1, 3, 4, 12])
 (.cond (.t 12) .skip
 (.exit 0)))
 (.seq (.block 1 (.ops [
 ⟨(some 15), .mv (.t 3), none⟩,
 ⟨(some 16), .faddr 0 (.t 1), none⟩,
 ⟨(some 17), .load none (.t 16), none⟩,
 ⟨(some 18), .mv (.t 4), none⟩,
 ⟨(some 19), .iaddr 1 (.t 17) (.t 18), none⟩,
 ⟨(some 20), .load none (.t 19), none⟩,
 ⟨(some 21), .len (.t 20), none⟩,
 ⟨(some 22), .bin .add (.t 15) (.t 21), none⟩,
 ⟨(some 3), .mv (.t 22), none⟩] [1, 3, 4]))
 (.ops [
 ⟨(some 13), .mv (.t 4), none⟩,
 ⟨(some 14), .bin .add (.t 13) (.c (.int .i64 1)), none⟩,
 ⟨(some 4), .mv (.t 14), none⟩] [1, 3, 4]))))))
 (.seq (.ops [
 ⟨(some 23), .mv (.t 3), none⟩,
 ⟨(some 24), .bin .leq (.t 23) (.c (.int .i64 2000)), none⟩,
 ⟨(some 2), .mv (.t 24), none⟩] [2])
 .ret)))),
 [.t 2]⟩
-- aneroid/paper.right
def c102 : CF := ⟨43,
 (.seq (.ops [
 ⟨(some 2), .mv (.c (.bool false)), none⟩] [0])
 (.seq (.seq (.ops [
 ⟨(some 5), .mv (.t 0), none⟩,
 ⟨(some 6), .len (.t 5), none⟩,
 ⟨(some 7), .mv (.c (.int .i64 0)), none⟩] [0, 5, 6, 7])
 (.block 0 (.loop (.seq (.ops [
 ⟨(some 8), .bin .lss (.t 7) (.t 6), none⟩] [0, 5, 6, 7, 8])
 (.seq (.cond (.t 8) .skip
 (.exit 0))
 (.seq (.block 1 (.seq (.ops [
 ⟨(some 9), .mv (.t 7), none⟩,
 ⟨(some 10), .iaddr 2 (.t 5) (.t 7), none⟩,
 ⟨(some 11), .load (some 2) (.t 10), none⟩,
 ⟨(some 4), .alloc 23 2 [.int .i64 0, .int .i64 0], none⟩,
 ⟨(some 3), .mv (.t 9), none⟩,
 ⟨none, .store 2 (.t 4) (.t 11), none⟩] [0, 3, 4, 5, 6, 7])
 (.seq (.draw [
 ⟨(some 12), .faddr 0 (.t 4), none⟩,
 ⟨(some 13), .load none (.t 12), none⟩,
 ⟨(some 14), .faddr 1 (.t 4), none⟩,
 ⟨(some 15), .load none (.t 14), none⟩,
 ⟨(some 16), .call (.f 72) [(.t 13), (.c (.int .i64 0)), (.t 15)], none⟩,
 ⟨(some 17), .un .not (.t 16), none⟩,
 ⟨(some 18), .mv (.t 17), none⟩,
 ⟨(some 19), .faddr 1 (.t 4), (some (18, false))⟩,
 ⟨(some 20), .load none (.t 19), (some (18, false))⟩,
 ⟨(some 21), .bin .gtr (.t 20) (.c (.int .i64 12000)), (some (18, false))⟩,
 ⟨(some 22), .pick (.t 18) (.c (.bool true)) (.t 21), none⟩,
 ⟨(some 23), .mv (.t 22), none⟩,
 ⟨(some 24), .mv (.t 3), (some (23, false))⟩,
 ⟨(some 25), .bin .gtr (.t 24) (.c (.int .i64 0)), (some (23, false))⟩,
 ⟨(some 26), .mv (.t 25), (some (23, false))⟩,
 ⟨(some 27), .faddr 0 (.t 4), (some (26, true))⟩,
 ⟨(some 28), .load none (.t 27), (some (26, true))⟩,
 ⟨(some 29), .mv (.t 0), (some (26, true))⟩,
 ⟨(some 30), .mv (.t 3), (some (26, true))⟩,
 ⟨(some 31), .bin .sub (.t 30) (.c (.int .i64 1)), (some (26, true))⟩,
 ⟨(some 32), .iaddr 2 (.t 29) (.t 31), (some (26, true))⟩,
 ⟨(some 33), .faddr 1 (.t 32), (some (26, true))⟩,
 ⟨(some 34), .load none (.t 33), (some (26, true))⟩,
 ⟨(some 35), .bin .add (.t 34) (.c (.int .i64 1)), (some (26, true))⟩,
 ⟨(some 36), .bin .leq (.t 28) (.t 35), (some (26, true))⟩,
 ⟨(some 37), .pick (.t 26) (.t 36) (.c (.bool false)), (some (23, false))⟩,
 ⟨(some 38), .pick (.t 23) (.c (.bool true)) (.t 37), none⟩] [
 ] [0, 5, 6, 7, 38])
 (.cond (.t 38) (.seq (.ops [
 ⟨(some 2), .mv (.c (.bool false)), none⟩] [2])
 .ret)
 .skip))))
 (.ops [
 ⟨(some 39), .bin .add (.t 7) (.c (.int .i64 1)), none⟩,
 ⟨(some 7), .mv (.t 39), none⟩] [0, 5, 6, 7])))))))
 (.seq (.ops [
 ⟨(some 40), .mv (.t 0), none⟩,
 ⟨(some 41), .len (.t 40), none⟩,
 ⟨(some 42), .bin .leq (.t 41) (.c (.int .i64 8)), none⟩,
 ⟨(some 2), .mv (.t 42), none⟩] [2])
 .ret))),
 [.t 2]⟩
-- aneroid/aneroidref01.goodSet
def c103 : CF := ⟨59,
 (.seq (.ops [
 ⟨(some 2), .mv (.c (.bool false)), none⟩] [0])
 (.seq (.seq (.ops [
 ⟨(some 3), .mv (.c (.int .i64 0)), none⟩] [0, 3])
 (.block 0 (.loop (.seq (.seq (.ops [
 ⟨(some 4), .mv (.t 3), none⟩,
 ⟨(some 5), .mv (.t 0), none⟩,
 ⟨(some 6), .len (.t 5), none⟩,
 ⟨(some 7), .bin .lss (.t 4) (.t 6), none⟩] [0, 3, 7])
 (.cond (.t 7) .skip
 (.exit 0)))
 (.seq (.block 1 (.seq (.draw [
 ⟨(some 10), .mv (.t 0), none⟩,
 ⟨(some 11), .mv (.t 3), none⟩,
 ⟨(some 12), .iaddr 2 (.t 10) (.t 11), none⟩,
 ⟨(some 13), .faddr 0 (.t 12), none⟩,
 ⟨(some 14), .load none (.t 13), none⟩,
 ⟨(some 15), .bin .lss (.t 14) (.c (.int .i64 0)), none⟩,
 ⟨(some 16), .mv (.t 15), none⟩,
 ⟨(some 17), .mv (.t 0), (some (16, false))⟩,
 ⟨(some 18), .mv (.t 3), (some (16, false))⟩,
 ⟨(some 19), .iaddr 2 (.t 17) (.t 18), (some (16, false))⟩,
 ⟨(some 20), .faddr 0 (.t 19), (some (16, false))⟩,
 ⟨(some 21), .load none (.t 20), (some (16, false))⟩,
 ⟨(some 22), .mv (.t 0), (some (16, false))⟩,
 ⟨(some 23), .mv (.t 3), (some (16, false))⟩,
 ⟨(some 24), .iaddr 2 (.t 22) (.t 23), (some (16, false))⟩,
 ⟨(some 25), .faddr 1 (.t 24), (some (16, false))⟩,
 ⟨(some 26), .load none (.t 25), (some (16, false))⟩,
 ⟨(some 27), .bin .gtr (.t 21) (.t 26), (some (16, false))⟩,
 ⟨(some 28), .pick (.t 16) (.c (.bool true)) (.t 27), none⟩,
 ⟨(some 29), .mv (.t 28), none⟩,
 ⟨(some 30), .mv (.t 0), (some (29, false))⟩,
 ⟨(some 31), .mv (.t 3), (some (29, false))⟩,
 ⟨(some 32), .iaddr 2 (.t 30) (.t 31), (some (29, false))⟩,
 ⟨(some 33), .faddr 1 (.t 32), (some (29, false))⟩,
 ⟨(some 34), .load none (.t 33), (some (29, false))⟩,
 ⟨(some 35), .bin .gtr (.t 34) (.c (.int .i64 12000)), (some (29, false))⟩,
 ⟨(some 36), .pick (.t 29) (.c (.bool true)) (.t 35), none⟩,
 ⟨(some 37), .mv (.t 36), none⟩,
 ⟨(some 38), .mv (.t 3), (some (37, false))⟩,
 ⟨(some 39), .bin .gtr (.t 38) (.c (.int .i64 0)), (some (37, false))⟩,
 ⟨(some 40), .mv (.t 39), (some (37, false))⟩,
 ⟨(some 41), .mv (.t 0), (some (40, true))⟩,
 ⟨(some 42), .mv (.t 3), (some (40, true))⟩,
 ⟨(some 43), .iaddr 2 (.t 41) (.t 42), (some (40, true))⟩,
 ⟨(some 44), .faddr 0 (.t 43), (some (40, true))⟩,
 ⟨(some 45), .load none (.t 44), (some (40, true))⟩,
 ⟨(some 46), .bin .sub (.t 45) (.c (.int .i64 1)), (some (40, true))⟩,
 ⟨(some 47), .mv (.t 0), (some (40, true))⟩,
 ⟨(some 48), .mv (.t 3), (some (40, true))⟩,
 ⟨(some 49), .bin .sub (.t 48) (.c (.int .i64 1)), (some (40, true))⟩,
 ⟨(some 50), .iaddr 2 (.t 47) (.t 49), (some (40, true))⟩,
 ⟨(some 51), .faddr 1 (.t 50), (some (40, true))⟩,
 ⟨(some 52), .load none (.t 51), (some (40, true))⟩,
 ⟨(some 53), .bin .leq (.t 46) (.t 52), (some (40, true))⟩,
 ⟨(some 54), .pick (.t 40) (.t 53) (.c (.bool false)), (some (37, false))⟩,
 ⟨(some 55), .pick (.t 37) (.c (.bool true)) (.t 54), none⟩] [
 ] [0, 3, 55])
 (.cond (.t 55) (.seq (.ops [
 ⟨(some 2), .mv (.c (.bool false)), none⟩] [2])
 .ret)
 .skip)))
 (.ops [
 ⟨(some 8), .mv (.t 3), none⟩,
 ⟨(some 9), .bin .add (.t 8) (.c (.int .i64 1)), none⟩,
 ⟨(some 3), .mv (.t 9), none⟩] [0, 3]))))))
 (.seq (.ops [
 ⟨(some 56), .mv (.t 0), none⟩,
 ⟨(some 57), .len (.t 56), none⟩,
 ⟨(some 58), .bin .leq (.t 57) (.c (.int .i64 8)), none⟩,
 ⟨(some 2), .mv (.t 58), none⟩] [2])
 .ret))),
 [.t 2]⟩
-- aneroid/paper.CheckInked$1
def c101 : CF := ⟨6,
 (.seq (.ops [
 ⟨(some 2), .mv (.c (.bool false)), none⟩] [0])
 (.seq (.ops [
 ⟨(some 3), .mv (.t 0), none⟩,
 ⟨(some 4), .call (.f 102) [(.t 3)], none⟩,
 ⟨(some 5), .un .not (.t 4), none⟩,
 ⟨(some 2), .mv (.t 5), none⟩] [2])
 .ret)),
 [.t 2]⟩
-- slices.IndexFunc[[][]aneroid/api.Span,[]aneroid/api.Span]
def c126 : CF := ⟨19,
 (.seq (.ops [
 ⟨(some 4), .mv (.c (.int .i64 0)), none⟩] [0, 1])
 (.seq (.seq (.ops [
 ⟨(some 6), .mv (.t 0), none⟩,
 ⟨(some 7), .len (.t 6), none⟩,
 ⟨(some 8), .mv (.c (.int .i64 0)), none⟩] [0, 1, 7, 8])
 (.block 0 (.loop (.seq (.ops [
 ⟨(some 9), .bin .lss (.t 8) (.t 7), none⟩] [0, 1, 7, 8, 9])
 (.seq (.cond (.t 9) .skip
 (.exit 0))
 (.seq (.block 1 (.seq (.ops [
 ⟨(some 10), .mv (.t 8), none⟩,
 ⟨(some 5), .mv (.t 10), none⟩] [0, 1, 5, 7, 8])
 (.seq (.ops [
 ⟨(some 11), .mv (.t 1), none⟩,
 ⟨(some 12), .mv (.t 0), none⟩,
 ⟨(some 13), .mv (.t 5), none⟩,
 ⟨(some 14), .iaddr 1 (.t 12) (.t 13), none⟩,
 ⟨(some 15), .load none (.t 14), none⟩,
 ⟨(some 16), .call (.t 11) [(.t 15)], none⟩] [0, 1, 5, 7, 8, 16])
 (.cond (.t 16) (.seq (.ops [
 ⟨(some 17), .mv (.t 5), none⟩,
 ⟨(some 4), .mv (.t 17), none⟩] [4])
 .ret)
 .skip))))
 (.ops [
 ⟨(some 18), .bin .add (.t 8) (.c (.int .i64 1)), none⟩,
 ⟨(some 8), .mv (.t 18), none⟩] [0, 1, 7, 8])))))))
 (.seq (.ops [
 ⟨(some 4), .mv (.c (.int .i64 (-1))), none⟩] [4])
 .ret))),
 [.t 4]⟩
-- slices.ContainsFunc[[][]aneroid/api.Span,[]aneroid/api.Span]
def c100 : CF := ⟨9,
 (.seq (.ops [
 ⟨(some 4), .mv (.c (.bool false)), none⟩] [0, 1])
 (.seq (.ops [
 ⟨(some 5), .mv (.t 0), none⟩,
 ⟨(some 6), .mv (.t 1), none⟩,
 ⟨(some 7), .call (.f 126) [(.t 5), (.t 6)], none⟩,
 ⟨(some 8), .bin .geq (.t 7) (.c (.int .i64 0)), none⟩,
 ⟨(some 4), .mv (.t 8), none⟩] [4])
 .ret)),
 [.t 4]⟩
-- aneroid/paper.CheckInked
def c54 : CF := ⟨13,
 (.seq (.ops [
 ⟨(some 1), .box false 56 1 (.t 0), none⟩,
 ⟨(some 2), .mv (.c (.int .i64 0)), none⟩] [1])
 (.seq (.seq (.ops [
 ⟨(some 3), .faddr 0 (.t 1), none⟩,
 ⟨(some 4), .load none (.t 3), none⟩,
 ⟨(some 5), .len (.t 4), none⟩,
 ⟨(some 6), .call (.f 72) [(.t 5), (.c (.int .i64 1)), (.c (.int .i64 200))], none⟩,
 ⟨(some 7), .un .not (.t 6), none⟩,
 ⟨(some 8), .mv (.t 7), none⟩,
 ⟨(some 9), .faddr 0 (.t 1), (some (8, false))⟩,
 ⟨(some 10), .load none (.t 9), (some (8, false))⟩,
 ⟨(some 11), .call (.f 100) [(.t 10), (.f 101)], (some (8, false))⟩,
 ⟨(some 12), .pick (.t 8) (.c (.bool true)) (.t 11), none⟩] [12])
 (.cond (.t 12) (.seq (.ops [
 ⟨(some 2), .mv (.c (.int .i64 12)), none⟩] [2])
 .ret)
 .skip))
 (.seq (.ops [
 ⟨(some 2), .mv (.c (.int .i64 0)), none⟩] [2])
 .ret))),
 [.t 2]⟩
-- aneroid/aneroidref01.CheckInked
def c55 : CF := ⟨23,
 (.seq (.ops [
 ⟨(some 1), .box false 56 1 (.t 0), none⟩,
 ⟨(some 2), .mv (.c (.int .i64 0)), none⟩] [1])
 (.seq (.seq (.ops [
 ⟨(some 4), .faddr 0 (.t 1), none⟩,
 ⟨(some 5), .load none (.t 4), none⟩,
 ⟨(some 6), .len (.t 5), none⟩,
 ⟨(some 7), .call (.f 76) [(.t 6), (.c (.int .i64 1)), (.c (.int .i64 200))], none⟩,
 ⟨(some 8), .un .not (.t 7), none⟩] [1, 8])
 (.cond (.t 8) (.seq (.ops [
 ⟨(some 2), .mv (.c (.int .i64 12)), none⟩] [2])
 .ret)
 .skip))
 (.seq (.seq (.ops [
 ⟨(some 3), .mv (.c (.int .i64 0)), none⟩] [1, 3])
 (.block 0 (.loop (.seq (.seq (.ops [
 ⟨(some 9), .mv (.t 3), none⟩,
 ⟨(some 10), .faddr 0 (.t 1), none⟩,
 ⟨(some 11), .load none (.t 10), none⟩,
 ⟨(some 12), .len (.t 11), none⟩,
 ⟨(some 13), .bin .lss (.t 9) (.t 12), none⟩] [1, 3, 13])
 (.cond (.t 13) .skip
 (.exit 0)))
 (.seq (.block 1 (.seq (.ops [
 ⟨(some 16), .faddr 0 (.t 1), none⟩,
 ⟨(some 17), .load none (.t 16), none⟩,
 ⟨(some 18), .mv (.t 3), none⟩,
 ⟨(some 19), .iaddr 1 (.t 17) (.t 18), none⟩,
 ⟨(some 20), .load none (.t 19), none⟩,
 ⟨(some 21), .call (.f 103) [(.t 20)], none⟩,
 ⟨(some 22), .un .not (.t 21), none⟩] [1, 3, 22])
 (.cond (.t 22) (.seq (.ops [
 ⟨(some 2), .mv (.c (.int .i64 12)), none⟩] [2])
 .ret)
 .skip)))
 (.ops [
 ⟨(some 14), .mv (.t 3), none⟩,
 ⟨(some 15), .bin .add (.t 14) (.c (.int .i64 1)), none⟩,
 ⟨(some 3), .mv (.t 15), none⟩] [1, 3]))))))
 (.seq (.ops [
 ⟨(some 2), .mv (.c (.int .i64 0)), none⟩] [2])
 .ret)))),
 [.t 2]⟩

abbrev inS (l : List Int) : AV := .sl 1 (l.map fun z => [n z])
abbrev colS (x : List (List Sp)) : AV := .sl 1 (x.map fun l => [spS l])
abbrev ink (x : List (List Sp)) : AV := .agg [colS x]

theorem k44 : chkF Try.prog Try.f44 c44 = true := by kernel_rfl
theorem k45 : chkF Try.prog Try.f45 c45 = true := by kernel_rfl
theorem k102 : chkF Try.prog Try.f102 c102 = true := by kernel_rfl
theorem k103 : chkF Try.prog Try.f103 c103 = true := by kernel_rfl
theorem k101 : chkF Try.prog Try.f101 c101 = true := by kernel_rfl
theorem k126 : chkF Try.prog Try.f126 c126 = true := by kernel_rfl
theorem k100 : chkF Try.prog Try.f100 c100 = true := by kernel_rfl
theorem k54 : chkF Try.prog Try.f54 c54 = true := by kernel_rfl
theorem k55 : chkF Try.prog Try.f55 c55 = true := by kernel_rfl

theorem few0_spec (l : List Pt) : Pure Try.prog 44 [ptS l, .v (.slice none 0 0)] (bl (decide (l.length ≤ 30 ∨ 2000 < l.length ∧ l.length < 2100))) := by
  refine Pure.of_body Try.call44 Try.func44 k44 (Nat.le_of_ble_eq_true rfl) ?_
  unfold c44
  (repeat' first
    | (refine AWPC.of_vcn rfl ?_; simp only [zT, drp, hasN, Bool.or_false, Bool.false_or, Bool.or_true, Bool.true_or, Classical.not_not, zS, vcC, exs, exd, pickV, alS, Al.ob, grd, ex, ov, gt, argE, strp, cnd, sideL, I.os, st, wrap, keep, binA, kseq, kblk, kret, klp, resL, res1, one, ocalls, obj, elems, cells, scalar, vs, pick1, fillA, splice, chop, eqC, Nat.reduceBEq, Nat.reduceAdd, Nat.reduceSub, Nat.reduceLT, Nat.reduceLeDiff, Nat.reduceMul, Nat.reduceEqDiff, cond_true, cond_false, if_true, if_false, reduceIte, implies_true, forall_const, ne_eq])
    | (simp (disch := omega) only [wr64, Int.zero_sub]; try simp only [zT, drp, hasN, Bool.or_false, Bool.false_or, Bool.or_true, Bool.true_or, Classical.not_not, zS, vcC, exs, exd, pickV, alS, Al.ob, grd, ex, ov, gt, argE, strp, cnd, sideL, I.os, st, wrap, keep, binA, kseq, kblk, kret, klp, resL, res1, one, ocalls, obj, elems, cells, scalar, vs, pick1, fillA, splice, chop, eqC, Nat.reduceBEq, Nat.reduceAdd, Nat.reduceSub, Nat.reduceLT, Nat.reduceLeDiff, Nat.reduceMul, Nat.reduceEqDiff, cond_true, cond_false, if_true, if_false, reduceIte, implies_true, forall_const, ne_eq])
    | (refine AWPC.both (fun _ => ?_) (fun _ => ?_))
    | (refine AWPC.imp (fun _ => ?_))
    | ((refine .inl ⟨_, _, _, .any, rfl, fun h => absurd h Bool.false_ne_true, ?_⟩); (first | (refine owp_of_exs ?_; simp only [zT, drp, hasN, Bool.or_false, Bool.false_or, Bool.or_true, Bool.true_or, Classical.not_not, zS, vcC, exs, exd, pickV, alS, Al.ob, grd, ex, ov, gt, argE, strp, cnd, sideL, I.os, st, wrap, keep, binA, kseq, kblk, kret, klp, resL, res1, one, ocalls, obj, elems, cells, scalar, vs, pick1, fillA, splice, chop, eqC, Nat.reduceBEq, Nat.reduceAdd, Nat.reduceSub, Nat.reduceLT, Nat.reduceLeDiff, Nat.reduceMul, Nat.reduceEqDiff, cond_true, cond_false, if_true, if_false, reduceIte, implies_true, forall_const, ne_eq]) | fail))
    | (refine ⟨by omega, ?_⟩)
    | fail)
  refine Frz.eq ?_ (by simp)
  congr 2
  rw [decide_eq_decide]; omega

/-- The lengths of columns, as they are added. -/
def wsum : Int → List (List Sp) → Int
  | a, [] => a
  | a, l :: r => wsum (IntKind.i64.wrap (a + l.length)) r

theorem small_spec (x : List (List Sp)) (hx : x.length < 9223372036854775808) : Pure Try.prog 45 [ink x] (bl (decide (wsum x.length x ≤ 2000))) := by
  refine Pure.of_body Try.call45 Try.func45 k45 (Nat.le_of_ble_eq_true rfl) ?_
  unfold c45
  (repeat' first
    | (refine AWPC.of_vcn rfl ?_; simp only [zT, drp, hasN, Bool.or_false, Bool.false_or, Bool.or_true, Bool.true_or, Classical.not_not, zS, vcC, exs, exd, pickV, alS, Al.ob, grd, ex, ov, gt, argE, strp, cnd, sideL, I.os, st, wrap, keep, binA, kseq, kblk, kret, klp, resL, res1, one, ocalls, obj, elems, cells, scalar, vs, pick1, fillA, splice, chop, eqC, Nat.reduceBEq, Nat.reduceAdd, Nat.reduceSub, Nat.reduceLT, Nat.reduceLeDiff, Nat.reduceMul, Nat.reduceEqDiff, cond_true, cond_false, if_true, if_false, reduceIte, implies_true, forall_const, ne_eq])
    | (simp (disch := omega) only [wr64, Int.zero_sub]; try simp only [zT, drp, hasN, Bool.or_false, Bool.false_or, Bool.or_true, Bool.true_or, Classical.not_not, zS, vcC, exs, exd, pickV, alS, Al.ob, grd, ex, ov, gt, argE, strp, cnd, sideL, I.os, st, wrap, keep, binA, kseq, kblk, kret, klp, resL, res1, one, ocalls, obj, elems, cells, scalar, vs, pick1, fillA, splice, chop, eqC, Nat.reduceBEq, Nat.reduceAdd, Nat.reduceSub, Nat.reduceLT, Nat.reduceLeDiff, Nat.reduceMul, Nat.reduceEqDiff, cond_true, cond_false, if_true, if_false, reduceIte, implies_true, forall_const, ne_eq])
    | (refine AWPC.both (fun _ => ?_) (fun _ => ?_))
    | (refine AWPC.imp (fun _ => ?_))
    | ((refine .inl ⟨_, _, _, .any, rfl, fun h => absurd h Bool.false_ne_true, ?_⟩); (first | (refine owp_of_exs ?_; simp only [zT, drp, hasN, Bool.or_false, Bool.false_or, Bool.or_true, Bool.true_or, Classical.not_not, zS, vcC, exs, exd, pickV, alS, Al.ob, grd, ex, ov, gt, argE, strp, cnd, sideL, I.os, st, wrap, keep, binA, kseq, kblk, kret, klp, resL, res1, one, ocalls, obj, elems, cells, scalar, vs, pick1, fillA, splice, chop, eqC, Nat.reduceBEq, Nat.reduceAdd, Nat.reduceSub, Nat.reduceLT, Nat.reduceLeDiff, Nat.reduceMul, Nat.reduceEqDiff, cond_true, cond_false, if_true, if_false, reduceIte, implies_true, forall_const, ne_eq]) | fail))
    | (refine ⟨by omega, ?_⟩)
    | fail)
  refine AWPC.loopS (α := { q : Nat × Int // q.1 ≤ x.length ∧ wsum q.2 (x.drop q.1) = wsum x.length x }) [3, 4] (fun q => [(3, n q.1.2), (4, n q.1.1)]) (fun q => x.length - q.1.1) ⟨(0, x.length), by simp, by simp⟩ ?_ ?_
  · (simp only [zT, drp, hasN, Bool.or_false, Bool.false_or, Bool.or_true, Bool.true_or, Classical.not_not, zS, vcC, exs, exd, pickV, alS, Al.ob, grd, ex, ov, gt, argE, strp, cnd, sideL, I.os, st, wrap, keep, binA, kseq, kblk, kret, klp, resL, res1, one, ocalls, obj, elems, cells, scalar, vs, pick1, fillA, splice, chop, eqC, Nat.reduceBEq, Nat.reduceAdd, Nat.reduceSub, Nat.reduceLT, Nat.reduceLeDiff, Nat.reduceMul, Nat.reduceEqDiff, cond_true, cond_false, if_true, if_false, reduceIte, implies_true, forall_const, ne_eq]; try simp)
  · rintro ⟨⟨i, a⟩, hi, ha⟩
    simp only at hi ha
    by_cases hlt : i < x.length
    · obtain ⟨l, hl⟩ : ∃ l, x[i]? = some l := ⟨_, List.getElem?_eq_getElem hlt⟩
      rw [drop_cons hl, wsum] at ha
      (repeat' first
    | (refine AWPC.of_vcn rfl ?_; simp only [zT, drp, hasN, Bool.or_false, Bool.false_or, Bool.or_true, Bool.true_or, Classical.not_not, zS, vcC, exs, exd, pickV, alS, Al.ob, grd, ex, ov, gt, argE, strp, cnd, sideL, I.os, st, wrap, keep, binA, kseq, kblk, kret, klp, resL, res1, one, ocalls, obj, elems, cells, scalar, vs, pick1, fillA, splice, chop, eqC, Nat.reduceBEq, Nat.reduceAdd, Nat.reduceSub, Nat.reduceLT, Nat.reduceLeDiff, Nat.reduceMul, Nat.reduceEqDiff, cond_true, cond_false, if_true, if_false, reduceIte, implies_true, forall_const, ne_eq, getD_map hl])
    | (simp (disch := omega) only [wr64, Int.zero_sub]; try simp only [zT, drp, hasN, Bool.or_false, Bool.false_or, Bool.or_true, Bool.true_or, Classical.not_not, zS, vcC, exs, exd, pickV, alS, Al.ob, grd, ex, ov, gt, argE, strp, cnd, sideL, I.os, st, wrap, keep, binA, kseq, kblk, kret, klp, resL, res1, one, ocalls, obj, elems, cells, scalar, vs, pick1, fillA, splice, chop, eqC, Nat.reduceBEq, Nat.reduceAdd, Nat.reduceSub, Nat.reduceLT, Nat.reduceLeDiff, Nat.reduceMul, Nat.reduceEqDiff, cond_true, cond_false, if_true, if_false, reduceIte, implies_true, forall_const, ne_eq, getD_map hl])
    | (refine AWPC.both (fun _ => ?_) (fun _ => ?_))
    | (refine AWPC.imp (fun _ => ?_))
    | ((refine .inl ⟨_, _, _, .any, rfl, fun h => absurd h Bool.false_ne_true, ?_⟩); (first | (refine owp_of_exs ?_; simp only [zT, drp, hasN, Bool.or_false, Bool.false_or, Bool.or_true, Bool.true_or, Classical.not_not, zS, vcC, exs, exd, pickV, alS, Al.ob, grd, ex, ov, gt, argE, strp, cnd, sideL, I.os, st, wrap, keep, binA, kseq, kblk, kret, klp, resL, res1, one, ocalls, obj, elems, cells, scalar, vs, pick1, fillA, splice, chop, eqC, Nat.reduceBEq, Nat.reduceAdd, Nat.reduceSub, Nat.reduceLT, Nat.reduceLeDiff, Nat.reduceMul, Nat.reduceEqDiff, cond_true, cond_false, if_true, if_false, reduceIte, implies_true, forall_const, ne_eq, getD_map hl]) | fail))
    | (refine ⟨by omega, ?_⟩)
    | fail)
      all_goals try (exfalso; omega)
      exact ⟨⟨(i + 1, _), hlt, ha⟩, ⟨rfl, by simp⟩, by simp only; omega⟩
    · obtain rfl : i = x.length := by omega
      rw [List.drop_length, wsum] at ha
      subst ha
      (repeat' first
    | (refine AWPC.of_vcn rfl ?_; simp only [zT, drp, hasN, Bool.or_false, Bool.false_or, Bool.or_true, Bool.true_or, Classical.not_not, zS, vcC, exs, exd, pickV, alS, Al.ob, grd, ex, ov, gt, argE, strp, cnd, sideL, I.os, st, wrap, keep, binA, kseq, kblk, kret, klp, resL, res1, one, ocalls, obj, elems, cells, scalar, vs, pick1, fillA, splice, chop, eqC, Nat.reduceBEq, Nat.reduceAdd, Nat.reduceSub, Nat.reduceLT, Nat.reduceLeDiff, Nat.reduceMul, Nat.reduceEqDiff, cond_true, cond_false, if_true, if_false, reduceIte, implies_true, forall_const, ne_eq])
    | (simp (disch := omega) only [wr64, Int.zero_sub]; try simp only [zT, drp, hasN, Bool.or_false, Bool.false_or, Bool.or_true, Bool.true_or, Classical.not_not, zS, vcC, exs, exd, pickV, alS, Al.ob, grd, ex, ov, gt, argE, strp, cnd, sideL, I.os, st, wrap, keep, binA, kseq, kblk, kret, klp, resL, res1, one, ocalls, obj, elems, cells, scalar, vs, pick1, fillA, splice, chop, eqC, Nat.reduceBEq, Nat.reduceAdd, Nat.reduceSub, Nat.reduceLT, Nat.reduceLeDiff, Nat.reduceMul, Nat.reduceEqDiff, cond_true, cond_false, if_true, if_false, reduceIte, implies_true, forall_const, ne_eq])
    | (refine AWPC.both (fun _ => ?_) (fun _ => ?_))
    | (refine AWPC.imp (fun _ => ?_))
    | ((refine .inl ⟨_, _, _, .any, rfl, fun h => absurd h Bool.false_ne_true, ?_⟩); (first | (refine owp_of_exs ?_; simp only [zT, drp, hasN, Bool.or_false, Bool.false_or, Bool.or_true, Bool.true_or, Classical.not_not, zS, vcC, exs, exd, pickV, alS, Al.ob, grd, ex, ov, gt, argE, strp, cnd, sideL, I.os, st, wrap, keep, binA, kseq, kblk, kret, klp, resL, res1, one, ocalls, obj, elems, cells, scalar, vs, pick1, fillA, splice, chop, eqC, Nat.reduceBEq, Nat.reduceAdd, Nat.reduceSub, Nat.reduceLT, Nat.reduceLeDiff, Nat.reduceMul, Nat.reduceEqDiff, cond_true, cond_false, if_true, if_false, reduceIte, implies_true, forall_const, ne_eq]) | fail))
    | (refine ⟨by omega, ?_⟩)
    | fail)
      all_goals try (exfalso; omega)
      exact Frz.eq rfl (by simp)

/-- A set of levels of a column. -/
def good (l : List Sp) : Prop := Norm l ∧ (∀ s ∈ l, 0 ≤ s.lo ∧ s.hi ≤ 12000) ∧ l.length ≤ 8

theorem norm_snoc {a : List Sp} {u s : Sp} (h : Norm (a ++ [u])) : Norm (a ++ [u] ++ [s]) ↔ s.lo ≤ s.hi ∧ u.hi + 1 < s.lo := by
  rw [norm_append]
  constructor
  · rintro ⟨_, h2, h3⟩; exact ⟨h2.1, h3 u (by simp) s (by simp)⟩
  · rintro ⟨h2, h3⟩
    refine ⟨h, ⟨h2, fun t ht => absurd ht (List.not_mem_nil), trivial⟩, fun w hw t ht => ?_⟩
    obtain rfl : t = s := by simpa using ht
    rcases List.mem_append.1 hw with hw | hw
    · have h4 := (norm_append.1 h).2.2 w hw u (by simp)
      have h5 := h.ne u (by simp)
      omega
    · obtain rfl : w = u := by simpa using hw
      exact h3

/-- What has been looked at so far is in order. -/
def okTo (l : List Sp) (i : Nat) : Prop := Norm (l.take i) ∧ ∀ s ∈ l.take i, 0 ≤ s.lo ∧ s.hi ≤ 12000

theorem okTo_0 (l : List Sp) : okTo l 0 := ⟨by simp [Norm], by simp⟩

theorem okTo_1 {l : List Sp} {s : Sp} (hs : l[0]? = some s) : okTo l 1 ↔ s.lo ≤ s.hi ∧ 0 ≤ s.lo ∧ s.hi ≤ 12000 := by
  unfold okTo
  rw [List.take_add_one, hs]
  simp [Norm]

theorem okTo_next {l : List Sp} {i : Nat} {u s : Sp} (hu : l[i]? = some u) (hs : l[i + 1]? = some s) (h : okTo l (i + 1)) : okTo l (i + 2) ↔ (s.lo ≤ s.hi ∧ u.hi + 1 < s.lo) ∧ 0 ≤ s.lo ∧ s.hi ≤ 12000 := by
  have e1 : l.take (i + 1) = l.take i ++ [u] := by rw [List.take_add_one, hu]; rfl
  have e2 : l.take (i + 2) = l.take i ++ [u] ++ [s] := by rw [List.take_add_one, hs, e1]; rfl
  unfold okTo at h ⊢
  rw [e1] at h
  rw [e2, norm_snoc h.1]
  constructor
  · rintro ⟨h1, h2⟩; exact ⟨h1, h2 s (by simp)⟩
  · rintro ⟨h1, h2⟩
    refine ⟨h1, fun w hw => ?_⟩
    rcases List.mem_append.1 hw with hw | hw
    · exact h.2 w hw
    · obtain rfl : w = s := by simpa using hw
      exact h2

theorem good_okTo {l : List Sp} (h : good l) (i : Nat) : okTo l i := by
  obtain ⟨h1, h2, _⟩ := h
  rw [← List.take_append_drop i l] at h1
  exact ⟨(norm_append.1 h1).1, fun s hs => h2 s (List.mem_of_mem_take hs)⟩

theorem okTo_good {l : List Sp} (h : okTo l l.length) (hl : l.length ≤ 8) : good l := by
  unfold okTo at h
  rw [List.take_length] at h
  exact ⟨h.1, h.2, hl⟩

theorem right_spec (l : List Sp) (hl : l.length < 9223372036854775808) : Pure Try.prog 102 [spS l] (bl (tr (good l))) := by
  refine Pure.of_body Try.call102 Try.func102 k102 (Nat.le_of_ble_eq_true rfl) ?_
  unfold c102
  (repeat' first
    | (refine AWPC.of_vcn rfl ?_; simp only [zT, drp, hasN, Bool.or_false, Bool.false_or, Bool.or_true, Bool.true_or, Classical.not_not, zS, vcC, exs, exd, pickV, alS, Al.ob, grd, ex, ov, gt, argE, strp, cnd, sideL, I.os, st, wrap, keep, binA, kseq, kblk, kret, klp, resL, res1, one, ocalls, obj, elems, cells, scalar, vs, pick1, fillA, splice, chop, eqC, Nat.reduceBEq, Nat.reduceAdd, Nat.reduceSub, Nat.reduceLT, Nat.reduceLeDiff, Nat.reduceMul, Nat.reduceEqDiff, cond_true, cond_false, if_true, if_false, reduceIte, implies_true, forall_const, ne_eq])
    | (simp (disch := omega) only [wr64, Int.zero_sub]; try simp only [zT, drp, hasN, Bool.or_false, Bool.false_or, Bool.or_true, Bool.true_or, Classical.not_not, zS, vcC, exs, exd, pickV, alS, Al.ob, grd, ex, ov, gt, argE, strp, cnd, sideL, I.os, st, wrap, keep, binA, kseq, kblk, kret, klp, resL, res1, one, ocalls, obj, elems, cells, scalar, vs, pick1, fillA, splice, chop, eqC, Nat.reduceBEq, Nat.reduceAdd, Nat.reduceSub, Nat.reduceLT, Nat.reduceLeDiff, Nat.reduceMul, Nat.reduceEqDiff, cond_true, cond_false, if_true, if_false, reduceIte, implies_true, forall_const, ne_eq])
    | (refine AWPC.both (fun _ => ?_) (fun _ => ?_))
    | (refine AWPC.imp (fun _ => ?_))
    | ((refine .inl ⟨_, _, _, .any, rfl, fun h => absurd h Bool.false_ne_true, ?_⟩); (first | (refine owp_of_exs ?_; simp only [zT, drp, hasN, Bool.or_false, Bool.false_or, Bool.or_true, Bool.true_or, Classical.not_not, zS, vcC, exs, exd, pickV, alS, Al.ob, grd, ex, ov, gt, argE, strp, cnd, sideL, I.os, st, wrap, keep, binA, kseq, kblk, kret, klp, resL, res1, one, ocalls, obj, elems, cells, scalar, vs, pick1, fillA, splice, chop, eqC, Nat.reduceBEq, Nat.reduceAdd, Nat.reduceSub, Nat.reduceLT, Nat.reduceLeDiff, Nat.reduceMul, Nat.reduceEqDiff, cond_true, cond_false, if_true, if_false, reduceIte, implies_true, forall_const, ne_eq]) | fail))
    | (refine ⟨by omega, ?_⟩)
    | fail)
  refine AWPC.loop (α := { x : Nat × Sto // x.1 ≤ l.length ∧ okTo l x.1 }) (fun x => ([(0, spS l), (5, spS l), (6, n l.length), (7, n x.1.1)], x.1.2)) (fun x => l.length - x.1.1) ⟨(0, []), by simp, okTo_0 l⟩ ?_ rfl ?_
  · (simp only [zT, drp, hasN, Bool.or_false, Bool.false_or, Bool.or_true, Bool.true_or, Classical.not_not, zS, vcC, exs, exd, pickV, alS, Al.ob, grd, ex, ov, gt, argE, strp, cnd, sideL, I.os, st, wrap, keep, binA, kseq, kblk, kret, klp, resL, res1, one, ocalls, obj, elems, cells, scalar, vs, pick1, fillA, splice, chop, eqC, Nat.reduceBEq, Nat.reduceAdd, Nat.reduceSub, Nat.reduceLT, Nat.reduceLeDiff, Nat.reduceMul, Nat.reduceEqDiff, cond_true, cond_false, if_true, if_false, reduceIte, implies_true, forall_const, ne_eq]; try simp)
  · rintro ⟨⟨i, τ⟩, hi, hb⟩
    simp only at hi hb
    by_cases hlt : i < l.length
    · obtain ⟨s, hs⟩ : ∃ s, l[i]? = some s := ⟨_, List.getElem?_eq_getElem hlt⟩
      cases i with
      | zero =>
        have hn := okTo_1 hs
        have hz : (-1 : Int).toNat = 0 := rfl
        (repeat' first
    | (refine AWPC.of_vcn rfl ?_; simp only [zT, drp, hasN, Bool.or_false, Bool.false_or, Bool.or_true, Bool.true_or, Classical.not_not, zS, vcC, exs, exd, pickV, alS, Al.ob, grd, ex, ov, gt, argE, strp, cnd, sideL, I.os, st, wrap, keep, binA, kseq, kblk, kret, klp, resL, res1, one, ocalls, obj, elems, cells, scalar, vs, pick1, fillA, splice, chop, eqC, Nat.reduceBEq, Nat.reduceAdd, Nat.reduceSub, Nat.reduceLT, Nat.reduceLeDiff, Nat.reduceMul, Nat.reduceEqDiff, cond_true, cond_false, if_true, if_false, reduceIte, implies_true, forall_const, ne_eq, getD_map hs, hz])
    | (simp (disch := omega) only [wr64, Int.zero_sub]; try simp only [zT, drp, hasN, Bool.or_false, Bool.false_or, Bool.or_true, Bool.true_or, Classical.not_not, zS, vcC, exs, exd, pickV, alS, Al.ob, grd, ex, ov, gt, argE, strp, cnd, sideL, I.os, st, wrap, keep, binA, kseq, kblk, kret, klp, resL, res1, one, ocalls, obj, elems, cells, scalar, vs, pick1, fillA, splice, chop, eqC, Nat.reduceBEq, Nat.reduceAdd, Nat.reduceSub, Nat.reduceLT, Nat.reduceLeDiff, Nat.reduceMul, Nat.reduceEqDiff, cond_true, cond_false, if_true, if_false, reduceIte, implies_true, forall_const, ne_eq, getD_map hs, hz])
    | (refine AWPC.both (fun _ => ?_) (fun _ => ?_))
    | (refine AWPC.imp (fun _ => ?_))
    | ((repeat (refine And.intro (by (intros; simp_all (config := { decide := false }); done)) ?_)); (first
      | (refine .inl ⟨_, _, _, _, rfl, fun _hc => ⟨by simp, within_spec _ _ _⟩, ?_⟩)
      | (refine ⟨_, _, _, _, rfl, fun _hc => ⟨by simp, within_spec _ _ _⟩, ?_⟩)
      | fail); (first | (refine owp_of_exs ?_; simp only [zT, drp, hasN, Bool.or_false, Bool.false_or, Bool.or_true, Bool.true_or, Classical.not_not, zS, vcC, exs, exd, pickV, alS, Al.ob, grd, ex, ov, gt, argE, strp, cnd, sideL, I.os, st, wrap, keep, binA, kseq, kblk, kret, klp, resL, res1, one, ocalls, obj, elems, cells, scalar, vs, pick1, fillA, splice, chop, eqC, Nat.reduceBEq, Nat.reduceAdd, Nat.reduceSub, Nat.reduceLT, Nat.reduceLeDiff, Nat.reduceMul, Nat.reduceEqDiff, cond_true, cond_false, if_true, if_false, reduceIte, implies_true, forall_const, ne_eq, getD_map hs, hz]) | (refine pre_of_exd ?_; simp only [zT, drp, hasN, Bool.or_false, Bool.false_or, Bool.or_true, Bool.true_or, Classical.not_not, zS, vcC, exs, exd, pickV, alS, Al.ob, grd, ex, ov, gt, argE, strp, cnd, sideL, I.os, st, wrap, keep, binA, kseq, kblk, kret, klp, resL, res1, one, ocalls, obj, elems, cells, scalar, vs, pick1, fillA, splice, chop, eqC, Nat.reduceBEq, Nat.reduceAdd, Nat.reduceSub, Nat.reduceLT, Nat.reduceLeDiff, Nat.reduceMul, Nat.reduceEqDiff, cond_true, cond_false, if_true, if_false, reduceIte, implies_true, forall_const, ne_eq, getD_map hs, hz]) | fail))
    | ((refine .inl ⟨_, _, _, .any, rfl, fun h => absurd h Bool.false_ne_true, ?_⟩); (first | (refine owp_of_exs ?_; simp only [zT, drp, hasN, Bool.or_false, Bool.false_or, Bool.or_true, Bool.true_or, Classical.not_not, zS, vcC, exs, exd, pickV, alS, Al.ob, grd, ex, ov, gt, argE, strp, cnd, sideL, I.os, st, wrap, keep, binA, kseq, kblk, kret, klp, resL, res1, one, ocalls, obj, elems, cells, scalar, vs, pick1, fillA, splice, chop, eqC, Nat.reduceBEq, Nat.reduceAdd, Nat.reduceSub, Nat.reduceLT, Nat.reduceLeDiff, Nat.reduceMul, Nat.reduceEqDiff, cond_true, cond_false, if_true, if_false, reduceIte, implies_true, forall_const, ne_eq, getD_map hs, hz]) | fail))
    | (refine ⟨by omega, ?_⟩)
    | fail)
        all_goals try (exfalso; omega)
        · rename_i h
          rw [tr_0 (fun g => ?_)]
          · exact Frz.eq rfl (by simp)
          · have := hn.1 (good_okTo g 1); omega
        · rename_i h
          exact ⟨⟨(1, _), hlt, hn.2 (by omega)⟩, by simp, rfl, by simp only; omega⟩
      | succ i =>
        obtain ⟨u, hu⟩ : ∃ u, l[i]? = some u := ⟨_, List.getElem?_eq_getElem (by omega)⟩
        have hn := okTo_next hu hs hb
        have hub := hb.2 u (by rw [List.take_add_one, hu]; simp)
        have hune := hb.1.ne u (by rw [List.take_add_one, hu]; simp)
        have hw : IntKind.i64.wrap (((i + 1 : Nat) : Int) - 1) = (i : Int) := by rw [wr64 _ (by omega) (by omega)]; omega
        (repeat' first
    | (refine AWPC.of_vcn rfl ?_; simp only [zT, drp, hasN, Bool.or_false, Bool.false_or, Bool.or_true, Bool.true_or, Classical.not_not, zS, vcC, exs, exd, pickV, alS, Al.ob, grd, ex, ov, gt, argE, strp, cnd, sideL, I.os, st, wrap, keep, binA, kseq, kblk, kret, klp, resL, res1, one, ocalls, obj, elems, cells, scalar, vs, pick1, fillA, splice, chop, eqC, Nat.reduceBEq, Nat.reduceAdd, Nat.reduceSub, Nat.reduceLT, Nat.reduceLeDiff, Nat.reduceMul, Nat.reduceEqDiff, cond_true, cond_false, if_true, if_false, reduceIte, implies_true, forall_const, ne_eq, getD_map hs, getD_map hu, hw])
    | (simp (disch := omega) only [wr64, Int.zero_sub]; try simp only [zT, drp, hasN, Bool.or_false, Bool.false_or, Bool.or_true, Bool.true_or, Classical.not_not, zS, vcC, exs, exd, pickV, alS, Al.ob, grd, ex, ov, gt, argE, strp, cnd, sideL, I.os, st, wrap, keep, binA, kseq, kblk, kret, klp, resL, res1, one, ocalls, obj, elems, cells, scalar, vs, pick1, fillA, splice, chop, eqC, Nat.reduceBEq, Nat.reduceAdd, Nat.reduceSub, Nat.reduceLT, Nat.reduceLeDiff, Nat.reduceMul, Nat.reduceEqDiff, cond_true, cond_false, if_true, if_false, reduceIte, implies_true, forall_const, ne_eq, getD_map hs, getD_map hu, hw])
    | (refine AWPC.both (fun _ => ?_) (fun _ => ?_))
    | (refine AWPC.imp (fun _ => ?_))
    | ((repeat (refine And.intro (by (intros; simp_all (config := { decide := false }); done)) ?_)); (first
      | (refine .inl ⟨_, _, _, _, rfl, fun _hc => ⟨by simp, within_spec _ _ _⟩, ?_⟩)
      | (refine ⟨_, _, _, _, rfl, fun _hc => ⟨by simp, within_spec _ _ _⟩, ?_⟩)
      | fail); (first | (refine owp_of_exs ?_; simp only [zT, drp, hasN, Bool.or_false, Bool.false_or, Bool.or_true, Bool.true_or, Classical.not_not, zS, vcC, exs, exd, pickV, alS, Al.ob, grd, ex, ov, gt, argE, strp, cnd, sideL, I.os, st, wrap, keep, binA, kseq, kblk, kret, klp, resL, res1, one, ocalls, obj, elems, cells, scalar, vs, pick1, fillA, splice, chop, eqC, Nat.reduceBEq, Nat.reduceAdd, Nat.reduceSub, Nat.reduceLT, Nat.reduceLeDiff, Nat.reduceMul, Nat.reduceEqDiff, cond_true, cond_false, if_true, if_false, reduceIte, implies_true, forall_const, ne_eq, getD_map hs, getD_map hu, hw]) | (refine pre_of_exd ?_; simp only [zT, drp, hasN, Bool.or_false, Bool.false_or, Bool.or_true, Bool.true_or, Classical.not_not, zS, vcC, exs, exd, pickV, alS, Al.ob, grd, ex, ov, gt, argE, strp, cnd, sideL, I.os, st, wrap, keep, binA, kseq, kblk, kret, klp, resL, res1, one, ocalls, obj, elems, cells, scalar, vs, pick1, fillA, splice, chop, eqC, Nat.reduceBEq, Nat.reduceAdd, Nat.reduceSub, Nat.reduceLT, Nat.reduceLeDiff, Nat.reduceMul, Nat.reduceEqDiff, cond_true, cond_false, if_true, if_false, reduceIte, implies_true, forall_const, ne_eq, getD_map hs, getD_map hu, hw]) | fail))
    | ((refine .inl ⟨_, _, _, .any, rfl, fun h => absurd h Bool.false_ne_true, ?_⟩); (first | (refine owp_of_exs ?_; simp only [zT, drp, hasN, Bool.or_false, Bool.false_or, Bool.or_true, Bool.true_or, Classical.not_not, zS, vcC, exs, exd, pickV, alS, Al.ob, grd, ex, ov, gt, argE, strp, cnd, sideL, I.os, st, wrap, keep, binA, kseq, kblk, kret, klp, resL, res1, one, ocalls, obj, elems, cells, scalar, vs, pick1, fillA, splice, chop, eqC, Nat.reduceBEq, Nat.reduceAdd, Nat.reduceSub, Nat.reduceLT, Nat.reduceLeDiff, Nat.reduceMul, Nat.reduceEqDiff, cond_true, cond_false, if_true, if_false, reduceIte, implies_true, forall_const, ne_eq, getD_map hs, getD_map hu, hw]) | fail))
    | (refine ⟨by omega, ?_⟩)
    | fail)
        all_goals try (exfalso; omega)
        · rename_i h
          rw [tr_0 (fun g => ?_)]
          · exact Frz.eq rfl (by simp)
          · have := hn.1 (good_okTo g (i + 2)); omega
        · rename_i h
          exact ⟨⟨(i + 2, _), hlt, hn.2 (by omega)⟩, by simp; omega, rfl, by simp only; omega⟩
    · obtain rfl : i = l.length := by omega
      (repeat' first
    | (refine AWPC.of_vcn rfl ?_; simp only [zT, drp, hasN, Bool.or_false, Bool.false_or, Bool.or_true, Bool.true_or, Classical.not_not, zS, vcC, exs, exd, pickV, alS, Al.ob, grd, ex, ov, gt, argE, strp, cnd, sideL, I.os, st, wrap, keep, binA, kseq, kblk, kret, klp, resL, res1, one, ocalls, obj, elems, cells, scalar, vs, pick1, fillA, splice, chop, eqC, Nat.reduceBEq, Nat.reduceAdd, Nat.reduceSub, Nat.reduceLT, Nat.reduceLeDiff, Nat.reduceMul, Nat.reduceEqDiff, cond_true, cond_false, if_true, if_false, reduceIte, implies_true, forall_const, ne_eq])
    | (simp (disch := omega) only [wr64, Int.zero_sub]; try simp only [zT, drp, hasN, Bool.or_false, Bool.false_or, Bool.or_true, Bool.true_or, Classical.not_not, zS, vcC, exs, exd, pickV, alS, Al.ob, grd, ex, ov, gt, argE, strp, cnd, sideL, I.os, st, wrap, keep, binA, kseq, kblk, kret, klp, resL, res1, one, ocalls, obj, elems, cells, scalar, vs, pick1, fillA, splice, chop, eqC, Nat.reduceBEq, Nat.reduceAdd, Nat.reduceSub, Nat.reduceLT, Nat.reduceLeDiff, Nat.reduceMul, Nat.reduceEqDiff, cond_true, cond_false, if_true, if_false, reduceIte, implies_true, forall_const, ne_eq])
    | (refine AWPC.both (fun _ => ?_) (fun _ => ?_))
    | (refine AWPC.imp (fun _ => ?_))
    | ((refine .inl ⟨_, _, _, .any, rfl, fun h => absurd h Bool.false_ne_true, ?_⟩); (first | (refine owp_of_exs ?_; simp only [zT, drp, hasN, Bool.or_false, Bool.false_or, Bool.or_true, Bool.true_or, Classical.not_not, zS, vcC, exs, exd, pickV, alS, Al.ob, grd, ex, ov, gt, argE, strp, cnd, sideL, I.os, st, wrap, keep, binA, kseq, kblk, kret, klp, resL, res1, one, ocalls, obj, elems, cells, scalar, vs, pick1, fillA, splice, chop, eqC, Nat.reduceBEq, Nat.reduceAdd, Nat.reduceSub, Nat.reduceLT, Nat.reduceLeDiff, Nat.reduceMul, Nat.reduceEqDiff, cond_true, cond_false, if_true, if_false, reduceIte, implies_true, forall_const, ne_eq]) | fail))
    | (refine ⟨by omega, ?_⟩)
    | fail)
      all_goals try (exfalso; omega)
      exact Frz.eq (congrArg bl (decide_eq_decide.2 ⟨fun h => okTo_good hb (by omega), fun h => by have := h.2.2; omega⟩)) (by simp)

theorem goodSet_spec (l : List Sp) (hl : l.length < 9223372036854775808) : Pure Try.prog 103 [spS l] (bl (tr (good l))) := by
  refine Pure.of_body Try.call103 Try.func103 k103 (Nat.le_of_ble_eq_true rfl) ?_
  unfold c103
  (repeat' first
    | (refine AWPC.of_vcn rfl ?_; simp only [zT, drp, hasN, Bool.or_false, Bool.false_or, Bool.or_true, Bool.true_or, Classical.not_not, zS, vcC, exs, exd, pickV, alS, Al.ob, grd, ex, ov, gt, argE, strp, cnd, sideL, I.os, st, wrap, keep, binA, kseq, kblk, kret, klp, resL, res1, one, ocalls, obj, elems, cells, scalar, vs, pick1, fillA, splice, chop, eqC, Nat.reduceBEq, Nat.reduceAdd, Nat.reduceSub, Nat.reduceLT, Nat.reduceLeDiff, Nat.reduceMul, Nat.reduceEqDiff, cond_true, cond_false, if_true, if_false, reduceIte, implies_true, forall_const, ne_eq])
    | (simp (disch := omega) only [wr64, Int.zero_sub]; try simp only [zT, drp, hasN, Bool.or_false, Bool.false_or, Bool.or_true, Bool.true_or, Classical.not_not, zS, vcC, exs, exd, pickV, alS, Al.ob, grd, ex, ov, gt, argE, strp, cnd, sideL, I.os, st, wrap, keep, binA, kseq, kblk, kret, klp, resL, res1, one, ocalls, obj, elems, cells, scalar, vs, pick1, fillA, splice, chop, eqC, Nat.reduceBEq, Nat.reduceAdd, Nat.reduceSub, Nat.reduceLT, Nat.reduceLeDiff, Nat.reduceMul, Nat.reduceEqDiff, cond_true, cond_false, if_true, if_false, reduceIte, implies_true, forall_const, ne_eq])
    | (refine AWPC.both (fun _ => ?_) (fun _ => ?_))
    | (refine AWPC.imp (fun _ => ?_))
    | ((refine .inl ⟨_, _, _, .any, rfl, fun h => absurd h Bool.false_ne_true, ?_⟩); (first | (refine owp_of_exs ?_; simp only [zT, drp, hasN, Bool.or_false, Bool.false_or, Bool.or_true, Bool.true_or, Classical.not_not, zS, vcC, exs, exd, pickV, alS, Al.ob, grd, ex, ov, gt, argE, strp, cnd, sideL, I.os, st, wrap, keep, binA, kseq, kblk, kret, klp, resL, res1, one, ocalls, obj, elems, cells, scalar, vs, pick1, fillA, splice, chop, eqC, Nat.reduceBEq, Nat.reduceAdd, Nat.reduceSub, Nat.reduceLT, Nat.reduceLeDiff, Nat.reduceMul, Nat.reduceEqDiff, cond_true, cond_false, if_true, if_false, reduceIte, implies_true, forall_const, ne_eq]) | fail))
    | (refine ⟨by omega, ?_⟩)
    | fail)
  refine AWPC.loopI 3 l.length (okTo l) (okTo_0 l) ?_ ?_
  · (simp only [zT, drp, hasN, Bool.or_false, Bool.false_or, Bool.or_true, Bool.true_or, Classical.not_not, zS, vcC, exs, exd, pickV, alS, Al.ob, grd, ex, ov, gt, argE, strp, cnd, sideL, I.os, st, wrap, keep, binA, kseq, kblk, kret, klp, resL, res1, one, ocalls, obj, elems, cells, scalar, vs, pick1, fillA, splice, chop, eqC, Nat.reduceBEq, Nat.reduceAdd, Nat.reduceSub, Nat.reduceLT, Nat.reduceLeDiff, Nat.reduceMul, Nat.reduceEqDiff, cond_true, cond_false, if_true, if_false, reduceIte, implies_true, forall_const, ne_eq]; try simp)
  · intro i hi hb
    by_cases hlt : i < l.length
    · obtain ⟨s, hs⟩ : ∃ s, l[i]? = some s := ⟨_, List.getElem?_eq_getElem hlt⟩
      by_cases hneg : s.lo < 0
      · have hno : ¬ good l := fun g => by
          have := (good_okTo g (i + 1)).2 s (by rw [List.take_add_one, hs]; simp)
          omega
        cases i with
        | zero =>
          have hz : (-1 : Int).toNat = 0 := rfl
          (repeat' first
    | (refine AWPC.of_vcn rfl ?_; simp only [zT, drp, hasN, Bool.or_false, Bool.false_or, Bool.or_true, Bool.true_or, Classical.not_not, zS, vcC, exs, exd, pickV, alS, Al.ob, grd, ex, ov, gt, argE, strp, cnd, sideL, I.os, st, wrap, keep, binA, kseq, kblk, kret, klp, resL, res1, one, ocalls, obj, elems, cells, scalar, vs, pick1, fillA, splice, chop, eqC, Nat.reduceBEq, Nat.reduceAdd, Nat.reduceSub, Nat.reduceLT, Nat.reduceLeDiff, Nat.reduceMul, Nat.reduceEqDiff, cond_true, cond_false, if_true, if_false, reduceIte, implies_true, forall_const, ne_eq, getD_map hs, hz])
    | (simp (disch := omega) only [wr64, Int.zero_sub]; try simp only [zT, drp, hasN, Bool.or_false, Bool.false_or, Bool.or_true, Bool.true_or, Classical.not_not, zS, vcC, exs, exd, pickV, alS, Al.ob, grd, ex, ov, gt, argE, strp, cnd, sideL, I.os, st, wrap, keep, binA, kseq, kblk, kret, klp, resL, res1, one, ocalls, obj, elems, cells, scalar, vs, pick1, fillA, splice, chop, eqC, Nat.reduceBEq, Nat.reduceAdd, Nat.reduceSub, Nat.reduceLT, Nat.reduceLeDiff, Nat.reduceMul, Nat.reduceEqDiff, cond_true, cond_false, if_true, if_false, reduceIte, implies_true, forall_const, ne_eq, getD_map hs, hz])
    | (refine AWPC.both (fun _ => ?_) (fun _ => ?_))
    | (refine AWPC.imp (fun _ => ?_))
    | ((refine .inl ⟨_, _, _, .any, rfl, fun h => absurd h Bool.false_ne_true, ?_⟩); (first | (refine owp_of_exs ?_; simp only [zT, drp, hasN, Bool.or_false, Bool.false_or, Bool.or_true, Bool.true_or, Classical.not_not, zS, vcC, exs, exd, pickV, alS, Al.ob, grd, ex, ov, gt, argE, strp, cnd, sideL, I.os, st, wrap, keep, binA, kseq, kblk, kret, klp, resL, res1, one, ocalls, obj, elems, cells, scalar, vs, pick1, fillA, splice, chop, eqC, Nat.reduceBEq, Nat.reduceAdd, Nat.reduceSub, Nat.reduceLT, Nat.reduceLeDiff, Nat.reduceMul, Nat.reduceEqDiff, cond_true, cond_false, if_true, if_false, reduceIte, implies_true, forall_const, ne_eq, getD_map hs, hz]) | fail))
    | (refine ⟨by omega, ?_⟩)
    | fail)
          all_goals try (exfalso; omega)
          rw [tr_0 hno]
          exact Frz.eq rfl (by simp)
        | succ i =>
          obtain ⟨u, hu⟩ : ∃ u, l[i]? = some u := ⟨_, List.getElem?_eq_getElem (by omega)⟩
          have hw : IntKind.i64.wrap (((i + 1 : Nat) : Int) - 1) = (i : Int) := by rw [wr64 _ (by omega) (by omega)]; omega
          (repeat' first
    | (refine AWPC.of_vcn rfl ?_; simp only [zT, drp, hasN, Bool.or_false, Bool.false_or, Bool.or_true, Bool.true_or, Classical.not_not, zS, vcC, exs, exd, pickV, alS, Al.ob, grd, ex, ov, gt, argE, strp, cnd, sideL, I.os, st, wrap, keep, binA, kseq, kblk, kret, klp, resL, res1, one, ocalls, obj, elems, cells, scalar, vs, pick1, fillA, splice, chop, eqC, Nat.reduceBEq, Nat.reduceAdd, Nat.reduceSub, Nat.reduceLT, Nat.reduceLeDiff, Nat.reduceMul, Nat.reduceEqDiff, cond_true, cond_false, if_true, if_false, reduceIte, implies_true, forall_const, ne_eq, getD_map hs, getD_map hu, hw])
    | (simp (disch := omega) only [wr64, Int.zero_sub]; try simp only [zT, drp, hasN, Bool.or_false, Bool.false_or, Bool.or_true, Bool.true_or, Classical.not_not, zS, vcC, exs, exd, pickV, alS, Al.ob, grd, ex, ov, gt, argE, strp, cnd, sideL, I.os, st, wrap, keep, binA, kseq, kblk, kret, klp, resL, res1, one, ocalls, obj, elems, cells, scalar, vs, pick1, fillA, splice, chop, eqC, Nat.reduceBEq, Nat.reduceAdd, Nat.reduceSub, Nat.reduceLT, Nat.reduceLeDiff, Nat.reduceMul, Nat.reduceEqDiff, cond_true, cond_false, if_true, if_false, reduceIte, implies_true, forall_const, ne_eq, getD_map hs, getD_map hu, hw])
    | (refine AWPC.both (fun _ => ?_) (fun _ => ?_))
    | (refine AWPC.imp (fun _ => ?_))
    | ((refine .inl ⟨_, _, _, .any, rfl, fun h => absurd h Bool.false_ne_true, ?_⟩); (first | (refine owp_of_exs ?_; simp only [zT, drp, hasN, Bool.or_false, Bool.false_or, Bool.or_true, Bool.true_or, Classical.not_not, zS, vcC, exs, exd, pickV, alS, Al.ob, grd, ex, ov, gt, argE, strp, cnd, sideL, I.os, st, wrap, keep, binA, kseq, kblk, kret, klp, resL, res1, one, ocalls, obj, elems, cells, scalar, vs, pick1, fillA, splice, chop, eqC, Nat.reduceBEq, Nat.reduceAdd, Nat.reduceSub, Nat.reduceLT, Nat.reduceLeDiff, Nat.reduceMul, Nat.reduceEqDiff, cond_true, cond_false, if_true, if_false, reduceIte, implies_true, forall_const, ne_eq, getD_map hs, getD_map hu, hw]) | fail))
    | (refine ⟨by omega, ?_⟩)
    | fail)
          all_goals try (exfalso; omega)
          rw [tr_0 hno]
          exact Frz.eq rfl (by simp)
      · by_cases hbig : 12000 < s.lo
        · have hno : ¬ good l := fun g => by
            have h1 := (good_okTo g (i + 1)).2 s (by rw [List.take_add_one, hs]; simp)
            have h2 := g.1.ne s (List.mem_of_getElem? hs)
            omega
          cases i with
          | zero =>
            have hz : (-1 : Int).toNat = 0 := rfl
            (repeat' first
    | (refine AWPC.of_vcn rfl ?_; simp only [zT, drp, hasN, Bool.or_false, Bool.false_or, Bool.or_true, Bool.true_or, Classical.not_not, zS, vcC, exs, exd, pickV, alS, Al.ob, grd, ex, ov, gt, argE, strp, cnd, sideL, I.os, st, wrap, keep, binA, kseq, kblk, kret, klp, resL, res1, one, ocalls, obj, elems, cells, scalar, vs, pick1, fillA, splice, chop, eqC, Nat.reduceBEq, Nat.reduceAdd, Nat.reduceSub, Nat.reduceLT, Nat.reduceLeDiff, Nat.reduceMul, Nat.reduceEqDiff, cond_true, cond_false, if_true, if_false, reduceIte, implies_true, forall_const, ne_eq, getD_map hs, hz])
    | (simp (disch := omega) only [wr64, Int.zero_sub]; try simp only [zT, drp, hasN, Bool.or_false, Bool.false_or, Bool.or_true, Bool.true_or, Classical.not_not, zS, vcC, exs, exd, pickV, alS, Al.ob, grd, ex, ov, gt, argE, strp, cnd, sideL, I.os, st, wrap, keep, binA, kseq, kblk, kret, klp, resL, res1, one, ocalls, obj, elems, cells, scalar, vs, pick1, fillA, splice, chop, eqC, Nat.reduceBEq, Nat.reduceAdd, Nat.reduceSub, Nat.reduceLT, Nat.reduceLeDiff, Nat.reduceMul, Nat.reduceEqDiff, cond_true, cond_false, if_true, if_false, reduceIte, implies_true, forall_const, ne_eq, getD_map hs, hz])
    | (refine AWPC.both (fun _ => ?_) (fun _ => ?_))
    | (refine AWPC.imp (fun _ => ?_))
    | ((refine .inl ⟨_, _, _, .any, rfl, fun h => absurd h Bool.false_ne_true, ?_⟩); (first | (refine owp_of_exs ?_; simp only [zT, drp, hasN, Bool.or_false, Bool.false_or, Bool.or_true, Bool.true_or, Classical.not_not, zS, vcC, exs, exd, pickV, alS, Al.ob, grd, ex, ov, gt, argE, strp, cnd, sideL, I.os, st, wrap, keep, binA, kseq, kblk, kret, klp, resL, res1, one, ocalls, obj, elems, cells, scalar, vs, pick1, fillA, splice, chop, eqC, Nat.reduceBEq, Nat.reduceAdd, Nat.reduceSub, Nat.reduceLT, Nat.reduceLeDiff, Nat.reduceMul, Nat.reduceEqDiff, cond_true, cond_false, if_true, if_false, reduceIte, implies_true, forall_const, ne_eq, getD_map hs, hz]) | fail))
    | (refine ⟨by omega, ?_⟩)
    | fail)
            all_goals try (exfalso; omega)
            rw [tr_0 hno]
            exact Frz.eq rfl (by simp)
          | succ i =>
            obtain ⟨u, hu⟩ : ∃ u, l[i]? = some u := ⟨_, List.getElem?_eq_getElem (by omega)⟩
            have hw : IntKind.i64.wrap (((i + 1 : Nat) : Int) - 1) = (i : Int) := by rw [wr64 _ (by omega) (by omega)]; omega
            (repeat' first
    | (refine AWPC.of_vcn rfl ?_; simp only [zT, drp, hasN, Bool.or_false, Bool.false_or, Bool.or_true, Bool.true_or, Classical.not_not, zS, vcC, exs, exd, pickV, alS, Al.ob, grd, ex, ov, gt, argE, strp, cnd, sideL, I.os, st, wrap, keep, binA, kseq, kblk, kret, klp, resL, res1, one, ocalls, obj, elems, cells, scalar, vs, pick1, fillA, splice, chop, eqC, Nat.reduceBEq, Nat.reduceAdd, Nat.reduceSub, Nat.reduceLT, Nat.reduceLeDiff, Nat.reduceMul, Nat.reduceEqDiff, cond_true, cond_false, if_true, if_false, reduceIte, implies_true, forall_const, ne_eq, getD_map hs, getD_map hu, hw])
    | (simp (disch := omega) only [wr64, Int.zero_sub]; try simp only [zT, drp, hasN, Bool.or_false, Bool.false_or, Bool.or_true, Bool.true_or, Classical.not_not, zS, vcC, exs, exd, pickV, alS, Al.ob, grd, ex, ov, gt, argE, strp, cnd, sideL, I.os, st, wrap, keep, binA, kseq, kblk, kret, klp, resL, res1, one, ocalls, obj, elems, cells, scalar, vs, pick1, fillA, splice, chop, eqC, Nat.reduceBEq, Nat.reduceAdd, Nat.reduceSub, Nat.reduceLT, Nat.reduceLeDiff, Nat.reduceMul, Nat.reduceEqDiff, cond_true, cond_false, if_true, if_false, reduceIte, implies_true, forall_const, ne_eq, getD_map hs, getD_map hu, hw])
    | (refine AWPC.both (fun _ => ?_) (fun _ => ?_))
    | (refine AWPC.imp (fun _ => ?_))
    | ((refine .inl ⟨_, _, _, .any, rfl, fun h => absurd h Bool.false_ne_true, ?_⟩); (first | (refine owp_of_exs ?_; simp only [zT, drp, hasN, Bool.or_false, Bool.false_or, Bool.or_true, Bool.true_or, Classical.not_not, zS, vcC, exs, exd, pickV, alS, Al.ob, grd, ex, ov, gt, argE, strp, cnd, sideL, I.os, st, wrap, keep, binA, kseq, kblk, kret, klp, resL, res1, one, ocalls, obj, elems, cells, scalar, vs, pick1, fillA, splice, chop, eqC, Nat.reduceBEq, Nat.reduceAdd, Nat.reduceSub, Nat.reduceLT, Nat.reduceLeDiff, Nat.reduceMul, Nat.reduceEqDiff, cond_true, cond_false, if_true, if_false, reduceIte, implies_true, forall_const, ne_eq, getD_map hs, getD_map hu, hw]) | fail))
    | (refine ⟨by omega, ?_⟩)
    | fail)
            all_goals try (exfalso; omega)
            rw [tr_0 hno]
            exact Frz.eq rfl (by simp)
        · cases i with
          | zero =>
            have hn := okTo_1 hs
            have hz : (-1 : Int).toNat = 0 := rfl
            (repeat' first
    | (refine AWPC.of_vcn rfl ?_; simp only [zT, drp, hasN, Bool.or_false, Bool.false_or, Bool.or_true, Bool.true_or, Classical.not_not, zS, vcC, exs, exd, pickV, alS, Al.ob, grd, ex, ov, gt, argE, strp, cnd, sideL, I.os, st, wrap, keep, binA, kseq, kblk, kret, klp, resL, res1, one, ocalls, obj, elems, cells, scalar, vs, pick1, fillA, splice, chop, eqC, Nat.reduceBEq, Nat.reduceAdd, Nat.reduceSub, Nat.reduceLT, Nat.reduceLeDiff, Nat.reduceMul, Nat.reduceEqDiff, cond_true, cond_false, if_true, if_false, reduceIte, implies_true, forall_const, ne_eq, getD_map hs, hz])
    | (simp (disch := omega) only [wr64, Int.zero_sub]; try simp only [zT, drp, hasN, Bool.or_false, Bool.false_or, Bool.or_true, Bool.true_or, Classical.not_not, zS, vcC, exs, exd, pickV, alS, Al.ob, grd, ex, ov, gt, argE, strp, cnd, sideL, I.os, st, wrap, keep, binA, kseq, kblk, kret, klp, resL, res1, one, ocalls, obj, elems, cells, scalar, vs, pick1, fillA, splice, chop, eqC, Nat.reduceBEq, Nat.reduceAdd, Nat.reduceSub, Nat.reduceLT, Nat.reduceLeDiff, Nat.reduceMul, Nat.reduceEqDiff, cond_true, cond_false, if_true, if_false, reduceIte, implies_true, forall_const, ne_eq, getD_map hs, hz])
    | (refine AWPC.both (fun _ => ?_) (fun _ => ?_))
    | (refine AWPC.imp (fun _ => ?_))
    | ((refine .inl ⟨_, _, _, .any, rfl, fun h => absurd h Bool.false_ne_true, ?_⟩); (first | (refine owp_of_exs ?_; simp only [zT, drp, hasN, Bool.or_false, Bool.false_or, Bool.or_true, Bool.true_or, Classical.not_not, zS, vcC, exs, exd, pickV, alS, Al.ob, grd, ex, ov, gt, argE, strp, cnd, sideL, I.os, st, wrap, keep, binA, kseq, kblk, kret, klp, resL, res1, one, ocalls, obj, elems, cells, scalar, vs, pick1, fillA, splice, chop, eqC, Nat.reduceBEq, Nat.reduceAdd, Nat.reduceSub, Nat.reduceLT, Nat.reduceLeDiff, Nat.reduceMul, Nat.reduceEqDiff, cond_true, cond_false, if_true, if_false, reduceIte, implies_true, forall_const, ne_eq, getD_map hs, hz]) | fail))
    | (refine ⟨by omega, ?_⟩)
    | fail)
            all_goals try (exfalso; omega)
            · rw [tr_0 (fun g => ?_)]
              · exact Frz.eq rfl (by simp)
              · have := hn.1 (good_okTo g 1); omega
            · exact ⟨⟨1, hlt, hn.2 (by omega)⟩, by simp, by simp only; omega⟩
          | succ i =>
            obtain ⟨u, hu⟩ : ∃ u, l[i]? = some u := ⟨_, List.getElem?_eq_getElem (by omega)⟩
            have hn := okTo_next hu hs hb
            have hw : IntKind.i64.wrap (((i + 1 : Nat) : Int) - 1) = (i : Int) := by rw [wr64 _ (by omega) (by omega)]; omega
            (repeat' first
    | (refine AWPC.of_vcn rfl ?_; simp only [zT, drp, hasN, Bool.or_false, Bool.false_or, Bool.or_true, Bool.true_or, Classical.not_not, zS, vcC, exs, exd, pickV, alS, Al.ob, grd, ex, ov, gt, argE, strp, cnd, sideL, I.os, st, wrap, keep, binA, kseq, kblk, kret, klp, resL, res1, one, ocalls, obj, elems, cells, scalar, vs, pick1, fillA, splice, chop, eqC, Nat.reduceBEq, Nat.reduceAdd, Nat.reduceSub, Nat.reduceLT, Nat.reduceLeDiff, Nat.reduceMul, Nat.reduceEqDiff, cond_true, cond_false, if_true, if_false, reduceIte, implies_true, forall_const, ne_eq, getD_map hs, getD_map hu, hw])
    | (simp (disch := omega) only [wr64, Int.zero_sub]; try simp only [zT, drp, hasN, Bool.or_false, Bool.false_or, Bool.or_true, Bool.true_or, Classical.not_not, zS, vcC, exs, exd, pickV, alS, Al.ob, grd, ex, ov, gt, argE, strp, cnd, sideL, I.os, st, wrap, keep, binA, kseq, kblk, kret, klp, resL, res1, one, ocalls, obj, elems, cells, scalar, vs, pick1, fillA, splice, chop, eqC, Nat.reduceBEq, Nat.reduceAdd, Nat.reduceSub, Nat.reduceLT, Nat.reduceLeDiff, Nat.reduceMul, Nat.reduceEqDiff, cond_true, cond_false, if_true, if_false, reduceIte, implies_true, forall_const, ne_eq, getD_map hs, getD_map hu, hw])
    | (refine AWPC.both (fun _ => ?_) (fun _ => ?_))
    | (refine AWPC.imp (fun _ => ?_))
    | ((refine .inl ⟨_, _, _, .any, rfl, fun h => absurd h Bool.false_ne_true, ?_⟩); (first | (refine owp_of_exs ?_; simp only [zT, drp, hasN, Bool.or_false, Bool.false_or, Bool.or_true, Bool.true_or, Classical.not_not, zS, vcC, exs, exd, pickV, alS, Al.ob, grd, ex, ov, gt, argE, strp, cnd, sideL, I.os, st, wrap, keep, binA, kseq, kblk, kret, klp, resL, res1, one, ocalls, obj, elems, cells, scalar, vs, pick1, fillA, splice, chop, eqC, Nat.reduceBEq, Nat.reduceAdd, Nat.reduceSub, Nat.reduceLT, Nat.reduceLeDiff, Nat.reduceMul, Nat.reduceEqDiff, cond_true, cond_false, if_true, if_false, reduceIte, implies_true, forall_const, ne_eq, getD_map hs, getD_map hu, hw]) | fail))
    | (refine ⟨by omega, ?_⟩)
    | fail)
            all_goals try (exfalso; omega)
            · rw [tr_0 (fun g => ?_)]
              · exact Frz.eq rfl (by simp)
              · have := hn.1 (good_okTo g (i + 2)); omega
            · exact ⟨⟨i + 2, hlt, hn.2 (by omega)⟩, by simp; omega, by simp only; omega⟩
    · obtain rfl : i = l.length := by omega
      (repeat' first
    | (refine AWPC.of_vcn rfl ?_; simp only [zT, drp, hasN, Bool.or_false, Bool.false_or, Bool.or_true, Bool.true_or, Classical.not_not, zS, vcC, exs, exd, pickV, alS, Al.ob, grd, ex, ov, gt, argE, strp, cnd, sideL, I.os, st, wrap, keep, binA, kseq, kblk, kret, klp, resL, res1, one, ocalls, obj, elems, cells, scalar, vs, pick1, fillA, splice, chop, eqC, Nat.reduceBEq, Nat.reduceAdd, Nat.reduceSub, Nat.reduceLT, Nat.reduceLeDiff, Nat.reduceMul, Nat.reduceEqDiff, cond_true, cond_false, if_true, if_false, reduceIte, implies_true, forall_const, ne_eq])
    | (simp (disch := omega) only [wr64, Int.zero_sub]; try simp only [zT, drp, hasN, Bool.or_false, Bool.false_or, Bool.or_true, Bool.true_or, Classical.not_not, zS, vcC, exs, exd, pickV, alS, Al.ob, grd, ex, ov, gt, argE, strp, cnd, sideL, I.os, st, wrap, keep, binA, kseq, kblk, kret, klp, resL, res1, one, ocalls, obj, elems, cells, scalar, vs, pick1, fillA, splice, chop, eqC, Nat.reduceBEq, Nat.reduceAdd, Nat.reduceSub, Nat.reduceLT, Nat.reduceLeDiff, Nat.reduceMul, Nat.reduceEqDiff, cond_true, cond_false, if_true, if_false, reduceIte, implies_true, forall_const, ne_eq])
    | (refine AWPC.both (fun _ => ?_) (fun _ => ?_))
    | (refine AWPC.imp (fun _ => ?_))
    | ((refine .inl ⟨_, _, _, .any, rfl, fun h => absurd h Bool.false_ne_true, ?_⟩); (first | (refine owp_of_exs ?_; simp only [zT, drp, hasN, Bool.or_false, Bool.false_or, Bool.or_true, Bool.true_or, Classical.not_not, zS, vcC, exs, exd, pickV, alS, Al.ob, grd, ex, ov, gt, argE, strp, cnd, sideL, I.os, st, wrap, keep, binA, kseq, kblk, kret, klp, resL, res1, one, ocalls, obj, elems, cells, scalar, vs, pick1, fillA, splice, chop, eqC, Nat.reduceBEq, Nat.reduceAdd, Nat.reduceSub, Nat.reduceLT, Nat.reduceLeDiff, Nat.reduceMul, Nat.reduceEqDiff, cond_true, cond_false, if_true, if_false, reduceIte, implies_true, forall_const, ne_eq]) | fail))
    | (refine ⟨by omega, ?_⟩)
    | fail)
      all_goals try (exfalso; omega)
      exact Frz.eq (congrArg bl (decide_eq_decide.2 ⟨fun h => okTo_good hb (by omega), fun h => by have := h.2.2; omega⟩)) (by simp)

theorem bad_spec (l : List Sp) (hl : l.length < 9223372036854775808) : Pure Try.prog 101 [spS l] (bl (!tr (good l))) := by
  refine Pure.of_body Try.call101 Try.func101 k101 (Nat.le_of_ble_eq_true rfl) ?_
  unfold c101
  (repeat' first
    | (refine AWPC.of_vcn rfl ?_; simp only [zT, drp, hasN, Bool.or_false, Bool.false_or, Bool.or_true, Bool.true_or, Classical.not_not, zS, vcC, exs, exd, pickV, alS, Al.ob, grd, ex, ov, gt, argE, strp, cnd, sideL, I.os, st, wrap, keep, binA, kseq, kblk, kret, klp, resL, res1, one, ocalls, obj, elems, cells, scalar, vs, pick1, fillA, splice, chop, eqC, Nat.reduceBEq, Nat.reduceAdd, Nat.reduceSub, Nat.reduceLT, Nat.reduceLeDiff, Nat.reduceMul, Nat.reduceEqDiff, cond_true, cond_false, if_true, if_false, reduceIte, implies_true, forall_const, ne_eq])
    | (simp (disch := omega) only [wr64, Int.zero_sub]; try simp only [zT, drp, hasN, Bool.or_false, Bool.false_or, Bool.or_true, Bool.true_or, Classical.not_not, zS, vcC, exs, exd, pickV, alS, Al.ob, grd, ex, ov, gt, argE, strp, cnd, sideL, I.os, st, wrap, keep, binA, kseq, kblk, kret, klp, resL, res1, one, ocalls, obj, elems, cells, scalar, vs, pick1, fillA, splice, chop, eqC, Nat.reduceBEq, Nat.reduceAdd, Nat.reduceSub, Nat.reduceLT, Nat.reduceLeDiff, Nat.reduceMul, Nat.reduceEqDiff, cond_true, cond_false, if_true, if_false, reduceIte, implies_true, forall_const, ne_eq])
    | (refine AWPC.both (fun _ => ?_) (fun _ => ?_))
    | (refine AWPC.imp (fun _ => ?_))
    | ((repeat (refine And.intro (by (intros; simp_all (config := { decide := false }); done)) ?_)); (first
      | (refine .inl ⟨_, _, _, _, rfl, fun _hc => ⟨by simp, right_spec l hl⟩, ?_⟩)
      | (refine ⟨_, _, _, _, rfl, fun _hc => ⟨by simp, right_spec l hl⟩, ?_⟩)
      | fail); (first | (refine owp_of_exs ?_; simp only [zT, drp, hasN, Bool.or_false, Bool.false_or, Bool.or_true, Bool.true_or, Classical.not_not, zS, vcC, exs, exd, pickV, alS, Al.ob, grd, ex, ov, gt, argE, strp, cnd, sideL, I.os, st, wrap, keep, binA, kseq, kblk, kret, klp, resL, res1, one, ocalls, obj, elems, cells, scalar, vs, pick1, fillA, splice, chop, eqC, Nat.reduceBEq, Nat.reduceAdd, Nat.reduceSub, Nat.reduceLT, Nat.reduceLeDiff, Nat.reduceMul, Nat.reduceEqDiff, cond_true, cond_false, if_true, if_false, reduceIte, implies_true, forall_const, ne_eq]) | (refine pre_of_exd ?_; simp only [zT, drp, hasN, Bool.or_false, Bool.false_or, Bool.or_true, Bool.true_or, Classical.not_not, zS, vcC, exs, exd, pickV, alS, Al.ob, grd, ex, ov, gt, argE, strp, cnd, sideL, I.os, st, wrap, keep, binA, kseq, kblk, kret, klp, resL, res1, one, ocalls, obj, elems, cells, scalar, vs, pick1, fillA, splice, chop, eqC, Nat.reduceBEq, Nat.reduceAdd, Nat.reduceSub, Nat.reduceLT, Nat.reduceLeDiff, Nat.reduceMul, Nat.reduceEqDiff, cond_true, cond_false, if_true, if_false, reduceIte, implies_true, forall_const, ne_eq]) | fail))
    | ((refine .inl ⟨_, _, _, .any, rfl, fun h => absurd h Bool.false_ne_true, ?_⟩); (first | (refine owp_of_exs ?_; simp only [zT, drp, hasN, Bool.or_false, Bool.false_or, Bool.or_true, Bool.true_or, Classical.not_not, zS, vcC, exs, exd, pickV, alS, Al.ob, grd, ex, ov, gt, argE, strp, cnd, sideL, I.os, st, wrap, keep, binA, kseq, kblk, kret, klp, resL, res1, one, ocalls, obj, elems, cells, scalar, vs, pick1, fillA, splice, chop, eqC, Nat.reduceBEq, Nat.reduceAdd, Nat.reduceSub, Nat.reduceLT, Nat.reduceLeDiff, Nat.reduceMul, Nat.reduceEqDiff, cond_true, cond_false, if_true, if_false, reduceIte, implies_true, forall_const, ne_eq]) | fail))
    | (refine ⟨by omega, ?_⟩)
    | fail)
  exact Frz.eq (by simp) (by simp)

/-- The place of the first element with a property. -/
def fidx {α : Type} (q : α → Bool) : Nat → List α → Int
  | _, [] => -1
  | k, a :: r => bif q a then (k : Int) else fidx q (k + 1) r

theorem fidx_any {α : Type} (q : α → Bool) : ∀ (l : List α) (k : Nat), (0 ≤ fidx q k l ↔ l.any q = true) ∧ -1 ≤ fidx q k l
  | [], k => by simp [fidx]
  | a :: r, k => by
    have ih := fidx_any q r (k + 1)
    unfold fidx
    cases h : q a
    · simpa [h] using ih
    · simp [h]

theorem index_spec (f : Nat) (q : List Sp → Bool) (x : List (List Sp)) (hx : x.length < 9223372036854775808) (hq : ∀ l ∈ x, Pure Try.prog f [spS l] (bl (q l))) : Pure Try.prog 126 [colS x, .fn (.func f) [] []] (n (fidx q 0 x)) := by
  refine Pure.of_body Try.call126 Try.func126 k126 (Nat.le_of_ble_eq_true rfl) ?_
  unfold c126
  (repeat' first
    | (refine AWPC.of_vcn rfl ?_; simp only [zT, drp, hasN, Bool.or_false, Bool.false_or, Bool.or_true, Bool.true_or, Classical.not_not, zS, vcC, exs, exd, pickV, alS, Al.ob, grd, ex, ov, gt, argE, strp, cnd, sideL, I.os, st, wrap, keep, binA, kseq, kblk, kret, klp, resL, res1, one, ocalls, obj, elems, cells, scalar, vs, pick1, fillA, splice, chop, eqC, Nat.reduceBEq, Nat.reduceAdd, Nat.reduceSub, Nat.reduceLT, Nat.reduceLeDiff, Nat.reduceMul, Nat.reduceEqDiff, cond_true, cond_false, if_true, if_false, reduceIte, implies_true, forall_const, ne_eq])
    | (simp (disch := omega) only [wr64, Int.zero_sub]; try simp only [zT, drp, hasN, Bool.or_false, Bool.false_or, Bool.or_true, Bool.true_or, Classical.not_not, zS, vcC, exs, exd, pickV, alS, Al.ob, grd, ex, ov, gt, argE, strp, cnd, sideL, I.os, st, wrap, keep, binA, kseq, kblk, kret, klp, resL, res1, one, ocalls, obj, elems, cells, scalar, vs, pick1, fillA, splice, chop, eqC, Nat.reduceBEq, Nat.reduceAdd, Nat.reduceSub, Nat.reduceLT, Nat.reduceLeDiff, Nat.reduceMul, Nat.reduceEqDiff, cond_true, cond_false, if_true, if_false, reduceIte, implies_true, forall_const, ne_eq])
    | (refine AWPC.both (fun _ => ?_) (fun _ => ?_))
    | (refine AWPC.imp (fun _ => ?_))
    | ((refine .inl ⟨_, _, _, .any, rfl, fun h => absurd h Bool.false_ne_true, ?_⟩); (first | (refine owp_of_exs ?_; simp only [zT, drp, hasN, Bool.or_false, Bool.false_or, Bool.or_true, Bool.true_or, Classical.not_not, zS, vcC, exs, exd, pickV, alS, Al.ob, grd, ex, ov, gt, argE, strp, cnd, sideL, I.os, st, wrap, keep, binA, kseq, kblk, kret, klp, resL, res1, one, ocalls, obj, elems, cells, scalar, vs, pick1, fillA, splice, chop, eqC, Nat.reduceBEq, Nat.reduceAdd, Nat.reduceSub, Nat.reduceLT, Nat.reduceLeDiff, Nat.reduceMul, Nat.reduceEqDiff, cond_true, cond_false, if_true, if_false, reduceIte, implies_true, forall_const, ne_eq]) | fail))
    | (refine ⟨by omega, ?_⟩)
    | fail)
  refine AWPC.loopI 8 x.length (fun i => fidx q i (x.drop i) = fidx q 0 x) (by simp) ?_ ?_
  · (simp only [zT, drp, hasN, Bool.or_false, Bool.false_or, Bool.or_true, Bool.true_or, Classical.not_not, zS, vcC, exs, exd, pickV, alS, Al.ob, grd, ex, ov, gt, argE, strp, cnd, sideL, I.os, st, wrap, keep, binA, kseq, kblk, kret, klp, resL, res1, one, ocalls, obj, elems, cells, scalar, vs, pick1, fillA, splice, chop, eqC, Nat.reduceBEq, Nat.reduceAdd, Nat.reduceSub, Nat.reduceLT, Nat.reduceLeDiff, Nat.reduceMul, Nat.reduceEqDiff, cond_true, cond_false, if_true, if_false, reduceIte, implies_true, forall_const, ne_eq]; try simp)
  · intro i hi hI
    by_cases hlt : i < x.length
    · obtain ⟨l, hl⟩ : ∃ l, x[i]? = some l := ⟨_, List.getElem?_eq_getElem hlt⟩
      have hc := hq l (List.mem_of_getElem? hl)
      rw [drop_cons hl, fidx] at hI
      (repeat' first
    | (refine AWPC.of_vcn rfl ?_; simp only [zT, drp, hasN, Bool.or_false, Bool.false_or, Bool.or_true, Bool.true_or, Classical.not_not, zS, vcC, exs, exd, pickV, alS, Al.ob, grd, ex, ov, gt, argE, strp, cnd, sideL, I.os, st, wrap, keep, binA, kseq, kblk, kret, klp, resL, res1, one, ocalls, obj, elems, cells, scalar, vs, pick1, fillA, splice, chop, eqC, Nat.reduceBEq, Nat.reduceAdd, Nat.reduceSub, Nat.reduceLT, Nat.reduceLeDiff, Nat.reduceMul, Nat.reduceEqDiff, cond_true, cond_false, if_true, if_false, reduceIte, implies_true, forall_const, ne_eq, getD_map hl])
    | (simp (disch := omega) only [wr64, Int.zero_sub]; try simp only [zT, drp, hasN, Bool.or_false, Bool.false_or, Bool.or_true, Bool.true_or, Classical.not_not, zS, vcC, exs, exd, pickV, alS, Al.ob, grd, ex, ov, gt, argE, strp, cnd, sideL, I.os, st, wrap, keep, binA, kseq, kblk, kret, klp, resL, res1, one, ocalls, obj, elems, cells, scalar, vs, pick1, fillA, splice, chop, eqC, Nat.reduceBEq, Nat.reduceAdd, Nat.reduceSub, Nat.reduceLT, Nat.reduceLeDiff, Nat.reduceMul, Nat.reduceEqDiff, cond_true, cond_false, if_true, if_false, reduceIte, implies_true, forall_const, ne_eq, getD_map hl])
    | (refine AWPC.both (fun _ => ?_) (fun _ => ?_))
    | (refine AWPC.imp (fun _ => ?_))
    | ((repeat (refine And.intro (by (intros; simp_all (config := { decide := false }); done)) ?_)); (first
      | (refine .inl ⟨_, _, _, _, rfl, fun _hc => ⟨by simp, hc⟩, ?_⟩)
      | (refine ⟨_, _, _, _, rfl, fun _hc => ⟨by simp, hc⟩, ?_⟩)
      | fail); (first | (refine owp_of_exs ?_; simp only [zT, drp, hasN, Bool.or_false, Bool.false_or, Bool.or_true, Bool.true_or, Classical.not_not, zS, vcC, exs, exd, pickV, alS, Al.ob, grd, ex, ov, gt, argE, strp, cnd, sideL, I.os, st, wrap, keep, binA, kseq, kblk, kret, klp, resL, res1, one, ocalls, obj, elems, cells, scalar, vs, pick1, fillA, splice, chop, eqC, Nat.reduceBEq, Nat.reduceAdd, Nat.reduceSub, Nat.reduceLT, Nat.reduceLeDiff, Nat.reduceMul, Nat.reduceEqDiff, cond_true, cond_false, if_true, if_false, reduceIte, implies_true, forall_const, ne_eq, getD_map hl]) | (refine pre_of_exd ?_; simp only [zT, drp, hasN, Bool.or_false, Bool.false_or, Bool.or_true, Bool.true_or, Classical.not_not, zS, vcC, exs, exd, pickV, alS, Al.ob, grd, ex, ov, gt, argE, strp, cnd, sideL, I.os, st, wrap, keep, binA, kseq, kblk, kret, klp, resL, res1, one, ocalls, obj, elems, cells, scalar, vs, pick1, fillA, splice, chop, eqC, Nat.reduceBEq, Nat.reduceAdd, Nat.reduceSub, Nat.reduceLT, Nat.reduceLeDiff, Nat.reduceMul, Nat.reduceEqDiff, cond_true, cond_false, if_true, if_false, reduceIte, implies_true, forall_const, ne_eq, getD_map hl]) | fail))
    | ((refine .inl ⟨_, _, _, .any, rfl, fun h => absurd h Bool.false_ne_true, ?_⟩); (first | (refine owp_of_exs ?_; simp only [zT, drp, hasN, Bool.or_false, Bool.false_or, Bool.or_true, Bool.true_or, Classical.not_not, zS, vcC, exs, exd, pickV, alS, Al.ob, grd, ex, ov, gt, argE, strp, cnd, sideL, I.os, st, wrap, keep, binA, kseq, kblk, kret, klp, resL, res1, one, ocalls, obj, elems, cells, scalar, vs, pick1, fillA, splice, chop, eqC, Nat.reduceBEq, Nat.reduceAdd, Nat.reduceSub, Nat.reduceLT, Nat.reduceLeDiff, Nat.reduceMul, Nat.reduceEqDiff, cond_true, cond_false, if_true, if_false, reduceIte, implies_true, forall_const, ne_eq, getD_map hl]) | fail))
    | (refine ⟨by omega, ?_⟩)
    | fail)
      all_goals try (exfalso; omega)
      · rename_i h
        rw [h] at hI
        rw [← hI]
        exact Frz.eq rfl (by simp)
      · rename_i h
        rw [h] at hI
        exact ⟨⟨i + 1, hlt, hI⟩, by simp, by simp only; omega⟩
    · obtain rfl : i = x.length := by omega
      rw [List.drop_length, fidx] at hI
      (repeat' first
    | (refine AWPC.of_vcn rfl ?_; simp only [zT, drp, hasN, Bool.or_false, Bool.false_or, Bool.or_true, Bool.true_or, Classical.not_not, zS, vcC, exs, exd, pickV, alS, Al.ob, grd, ex, ov, gt, argE, strp, cnd, sideL, I.os, st, wrap, keep, binA, kseq, kblk, kret, klp, resL, res1, one, ocalls, obj, elems, cells, scalar, vs, pick1, fillA, splice, chop, eqC, Nat.reduceBEq, Nat.reduceAdd, Nat.reduceSub, Nat.reduceLT, Nat.reduceLeDiff, Nat.reduceMul, Nat.reduceEqDiff, cond_true, cond_false, if_true, if_false, reduceIte, implies_true, forall_const, ne_eq])
    | (simp (disch := omega) only [wr64, Int.zero_sub]; try simp only [zT, drp, hasN, Bool.or_false, Bool.false_or, Bool.or_true, Bool.true_or, Classical.not_not, zS, vcC, exs, exd, pickV, alS, Al.ob, grd, ex, ov, gt, argE, strp, cnd, sideL, I.os, st, wrap, keep, binA, kseq, kblk, kret, klp, resL, res1, one, ocalls, obj, elems, cells, scalar, vs, pick1, fillA, splice, chop, eqC, Nat.reduceBEq, Nat.reduceAdd, Nat.reduceSub, Nat.reduceLT, Nat.reduceLeDiff, Nat.reduceMul, Nat.reduceEqDiff, cond_true, cond_false, if_true, if_false, reduceIte, implies_true, forall_const, ne_eq])
    | (refine AWPC.both (fun _ => ?_) (fun _ => ?_))
    | (refine AWPC.imp (fun _ => ?_))
    | ((refine .inl ⟨_, _, _, .any, rfl, fun h => absurd h Bool.false_ne_true, ?_⟩); (first | (refine owp_of_exs ?_; simp only [zT, drp, hasN, Bool.or_false, Bool.false_or, Bool.or_true, Bool.true_or, Classical.not_not, zS, vcC, exs, exd, pickV, alS, Al.ob, grd, ex, ov, gt, argE, strp, cnd, sideL, I.os, st, wrap, keep, binA, kseq, kblk, kret, klp, resL, res1, one, ocalls, obj, elems, cells, scalar, vs, pick1, fillA, splice, chop, eqC, Nat.reduceBEq, Nat.reduceAdd, Nat.reduceSub, Nat.reduceLT, Nat.reduceLeDiff, Nat.reduceMul, Nat.reduceEqDiff, cond_true, cond_false, if_true, if_false, reduceIte, implies_true, forall_const, ne_eq]) | fail))
    | (refine ⟨by omega, ?_⟩)
    | fail)
      all_goals try (exfalso; omega)
      rw [← hI]
      exact Frz.eq rfl (by simp)

theorem contains_spec (f : Nat) (q : List Sp → Bool) (x : List (List Sp)) (hx : x.length < 9223372036854775808) (hq : ∀ l ∈ x, Pure Try.prog f [spS l] (bl (q l))) : Pure Try.prog 100 [colS x, .fn (.func f) [] []] (bl (x.any q)) := by
  refine Pure.of_body Try.call100 Try.func100 k100 (Nat.le_of_ble_eq_true rfl) ?_
  unfold c100
  have h := (fidx_any q x 0).1
  (repeat' first
    | (refine AWPC.of_vcn rfl ?_; simp only [zT, drp, hasN, Bool.or_false, Bool.false_or, Bool.or_true, Bool.true_or, Classical.not_not, zS, vcC, exs, exd, pickV, alS, Al.ob, grd, ex, ov, gt, argE, strp, cnd, sideL, I.os, st, wrap, keep, binA, kseq, kblk, kret, klp, resL, res1, one, ocalls, obj, elems, cells, scalar, vs, pick1, fillA, splice, chop, eqC, Nat.reduceBEq, Nat.reduceAdd, Nat.reduceSub, Nat.reduceLT, Nat.reduceLeDiff, Nat.reduceMul, Nat.reduceEqDiff, cond_true, cond_false, if_true, if_false, reduceIte, implies_true, forall_const, ne_eq])
    | (simp (disch := omega) only [wr64, Int.zero_sub]; try simp only [zT, drp, hasN, Bool.or_false, Bool.false_or, Bool.or_true, Bool.true_or, Classical.not_not, zS, vcC, exs, exd, pickV, alS, Al.ob, grd, ex, ov, gt, argE, strp, cnd, sideL, I.os, st, wrap, keep, binA, kseq, kblk, kret, klp, resL, res1, one, ocalls, obj, elems, cells, scalar, vs, pick1, fillA, splice, chop, eqC, Nat.reduceBEq, Nat.reduceAdd, Nat.reduceSub, Nat.reduceLT, Nat.reduceLeDiff, Nat.reduceMul, Nat.reduceEqDiff, cond_true, cond_false, if_true, if_false, reduceIte, implies_true, forall_const, ne_eq])
    | (refine AWPC.both (fun _ => ?_) (fun _ => ?_))
    | (refine AWPC.imp (fun _ => ?_))
    | ((repeat (refine And.intro (by (intros; simp_all (config := { decide := false }); done)) ?_)); (first
      | (refine .inl ⟨_, _, _, _, rfl, fun _hc => ⟨by simp, index_spec f q x hx hq⟩, ?_⟩)
      | (refine ⟨_, _, _, _, rfl, fun _hc => ⟨by simp, index_spec f q x hx hq⟩, ?_⟩)
      | fail); (first | (refine owp_of_exs ?_; simp only [zT, drp, hasN, Bool.or_false, Bool.false_or, Bool.or_true, Bool.true_or, Classical.not_not, zS, vcC, exs, exd, pickV, alS, Al.ob, grd, ex, ov, gt, argE, strp, cnd, sideL, I.os, st, wrap, keep, binA, kseq, kblk, kret, klp, resL, res1, one, ocalls, obj, elems, cells, scalar, vs, pick1, fillA, splice, chop, eqC, Nat.reduceBEq, Nat.reduceAdd, Nat.reduceSub, Nat.reduceLT, Nat.reduceLeDiff, Nat.reduceMul, Nat.reduceEqDiff, cond_true, cond_false, if_true, if_false, reduceIte, implies_true, forall_const, ne_eq]) | (refine pre_of_exd ?_; simp only [zT, drp, hasN, Bool.or_false, Bool.false_or, Bool.or_true, Bool.true_or, Classical.not_not, zS, vcC, exs, exd, pickV, alS, Al.ob, grd, ex, ov, gt, argE, strp, cnd, sideL, I.os, st, wrap, keep, binA, kseq, kblk, kret, klp, resL, res1, one, ocalls, obj, elems, cells, scalar, vs, pick1, fillA, splice, chop, eqC, Nat.reduceBEq, Nat.reduceAdd, Nat.reduceSub, Nat.reduceLT, Nat.reduceLeDiff, Nat.reduceMul, Nat.reduceEqDiff, cond_true, cond_false, if_true, if_false, reduceIte, implies_true, forall_const, ne_eq]) | fail))
    | ((refine .inl ⟨_, _, _, .any, rfl, fun h => absurd h Bool.false_ne_true, ?_⟩); (first | (refine owp_of_exs ?_; simp only [zT, drp, hasN, Bool.or_false, Bool.false_or, Bool.or_true, Bool.true_or, Classical.not_not, zS, vcC, exs, exd, pickV, alS, Al.ob, grd, ex, ov, gt, argE, strp, cnd, sideL, I.os, st, wrap, keep, binA, kseq, kblk, kret, klp, resL, res1, one, ocalls, obj, elems, cells, scalar, vs, pick1, fillA, splice, chop, eqC, Nat.reduceBEq, Nat.reduceAdd, Nat.reduceSub, Nat.reduceLT, Nat.reduceLeDiff, Nat.reduceMul, Nat.reduceEqDiff, cond_true, cond_false, if_true, if_false, reduceIte, implies_true, forall_const, ne_eq]) | fail))
    | (refine ⟨by omega, ?_⟩)
    | fail)
  refine Frz.eq (congrArg bl ?_) (by simp)
  rw [Bool.eq_iff_iff, decide_eq_true_eq, h]

/-- An inked sheet that is right. -/
def rightInk (x : List (List Sp)) : Prop := (1 ≤ x.length ∧ x.length ≤ 200) ∧ ∀ l ∈ x, good l
noncomputable def ierr (x : List (List Sp)) : Int := bif tr (rightInk x) then 0 else 12
theorem ierr0 {x : List (List Sp)} : ierr x = 0 ↔ rightInk x := by
  unfold ierr
  by_cases h : rightInk x
  · rw [tr_1 h]; simp [h]
  · rw [tr_0 h]; simp [h]
theorem ierr1 {x : List (List Sp)} (h : ¬ rightInk x) : ierr x = 12 := by unfold ierr; rw [tr_0 h]; rfl

abbrev Lens (x : List (List Sp)) : Prop := x.length < 9223372036854775808 ∧ ∀ l ∈ x, l.length < 9223372036854775808

theorem checkInked_spec (x : List (List Sp)) (hx : Lens x) : Pure Try.prog 54 [ink x] (n (ierr x)) := by
  refine Pure.of_body Try.call54 Try.func54 k54 (Nat.le_of_ble_eq_true rfl) ?_
  have hc := contains_spec 101 (fun l => !tr (good l)) x hx.1 (fun l hl => bad_spec l (hx.2 l hl))
  have hany : (x.any fun l => !tr (good l)) = false ↔ ∀ l ∈ x, good l := by simp [List.any_eq_false]
  simp only [decNot] at hany
  unfold c54
  (repeat' first
    | (refine AWPC.of_vcn rfl ?_; simp only [zT, drp, hasN, Bool.or_false, Bool.false_or, Bool.or_true, Bool.true_or, Classical.not_not, zS, vcC, exs, exd, pickV, alS, Al.ob, grd, ex, ov, gt, argE, strp, cnd, sideL, I.os, st, wrap, keep, binA, kseq, kblk, kret, klp, resL, res1, one, ocalls, obj, elems, cells, scalar, vs, pick1, fillA, splice, chop, eqC, Nat.reduceBEq, Nat.reduceAdd, Nat.reduceSub, Nat.reduceLT, Nat.reduceLeDiff, Nat.reduceMul, Nat.reduceEqDiff, cond_true, cond_false, if_true, if_false, reduceIte, implies_true, forall_const, ne_eq])
    | (simp (disch := omega) only [wr64, Int.zero_sub]; try simp only [zT, drp, hasN, Bool.or_false, Bool.false_or, Bool.or_true, Bool.true_or, Classical.not_not, zS, vcC, exs, exd, pickV, alS, Al.ob, grd, ex, ov, gt, argE, strp, cnd, sideL, I.os, st, wrap, keep, binA, kseq, kblk, kret, klp, resL, res1, one, ocalls, obj, elems, cells, scalar, vs, pick1, fillA, splice, chop, eqC, Nat.reduceBEq, Nat.reduceAdd, Nat.reduceSub, Nat.reduceLT, Nat.reduceLeDiff, Nat.reduceMul, Nat.reduceEqDiff, cond_true, cond_false, if_true, if_false, reduceIte, implies_true, forall_const, ne_eq])
    | (refine AWPC.both (fun _ => ?_) (fun _ => ?_))
    | (refine AWPC.imp (fun _ => ?_))
    | ((repeat (refine And.intro (by (intros; simp_all (config := { decide := false }); done)) ?_)); (first
      | (refine .inl ⟨_, _, _, _, rfl, fun _hc => ⟨by simp, within_spec _ _ _⟩, ?_⟩)
      | (refine .inl ⟨_, _, _, _, rfl, fun _hc => ⟨by simp, hc⟩, ?_⟩)
      | (refine ⟨_, _, _, _, rfl, fun _hc => ⟨by simp, within_spec _ _ _⟩, ?_⟩)
      | (refine ⟨_, _, _, _, rfl, fun _hc => ⟨by simp, hc⟩, ?_⟩)
      | fail); (first | (refine owp_of_exs ?_; simp only [zT, drp, hasN, Bool.or_false, Bool.false_or, Bool.or_true, Bool.true_or, Classical.not_not, zS, vcC, exs, exd, pickV, alS, Al.ob, grd, ex, ov, gt, argE, strp, cnd, sideL, I.os, st, wrap, keep, binA, kseq, kblk, kret, klp, resL, res1, one, ocalls, obj, elems, cells, scalar, vs, pick1, fillA, splice, chop, eqC, Nat.reduceBEq, Nat.reduceAdd, Nat.reduceSub, Nat.reduceLT, Nat.reduceLeDiff, Nat.reduceMul, Nat.reduceEqDiff, cond_true, cond_false, if_true, if_false, reduceIte, implies_true, forall_const, ne_eq]) | (refine pre_of_exd ?_; simp only [zT, drp, hasN, Bool.or_false, Bool.false_or, Bool.or_true, Bool.true_or, Classical.not_not, zS, vcC, exs, exd, pickV, alS, Al.ob, grd, ex, ov, gt, argE, strp, cnd, sideL, I.os, st, wrap, keep, binA, kseq, kblk, kret, klp, resL, res1, one, ocalls, obj, elems, cells, scalar, vs, pick1, fillA, splice, chop, eqC, Nat.reduceBEq, Nat.reduceAdd, Nat.reduceSub, Nat.reduceLT, Nat.reduceLeDiff, Nat.reduceMul, Nat.reduceEqDiff, cond_true, cond_false, if_true, if_false, reduceIte, implies_true, forall_const, ne_eq]) | fail))
    | ((refine .inl ⟨_, _, _, .any, rfl, fun h => absurd h Bool.false_ne_true, ?_⟩); (first | (refine owp_of_exs ?_; simp only [zT, drp, hasN, Bool.or_false, Bool.false_or, Bool.or_true, Bool.true_or, Classical.not_not, zS, vcC, exs, exd, pickV, alS, Al.ob, grd, ex, ov, gt, argE, strp, cnd, sideL, I.os, st, wrap, keep, binA, kseq, kblk, kret, klp, resL, res1, one, ocalls, obj, elems, cells, scalar, vs, pick1, fillA, splice, chop, eqC, Nat.reduceBEq, Nat.reduceAdd, Nat.reduceSub, Nat.reduceLT, Nat.reduceLeDiff, Nat.reduceMul, Nat.reduceEqDiff, cond_true, cond_false, if_true, if_false, reduceIte, implies_true, forall_const, ne_eq]) | fail))
    | (refine ⟨by omega, ?_⟩)
    | fail)
  · rename_i h
    refine Frz.eq ?_ (by simp)
    rw [ierr1]
    intro g
    rw [hany.2 g.2, Bool.or_false, decide_eq_true_eq] at h
    exact h (by have := g.1; omega)
  · rename_i h
    refine Frz.eq ?_ (by simp)
    rw [Bool.or_eq_false_iff, decide_eq_false_iff_not] at h
    rw [ierr0.2 ⟨by omega, hany.1 h.2⟩]

theorem rcheckInked_spec (x : List (List Sp)) (hx : Lens x) : Pure Try.prog 55 [ink x] (n (ierr x)) := by
  refine Pure.of_body Try.call55 Try.func55 k55 (Nat.le_of_ble_eq_true rfl) ?_
  have hx1 := hx.1
  unfold c55
  (repeat' first
    | (refine AWPC.of_vcn rfl ?_; simp only [zT, drp, hasN, Bool.or_false, Bool.false_or, Bool.or_true, Bool.true_or, Classical.not_not, zS, vcC, exs, exd, pickV, alS, Al.ob, grd, ex, ov, gt, argE, strp, cnd, sideL, I.os, st, wrap, keep, binA, kseq, kblk, kret, klp, resL, res1, one, ocalls, obj, elems, cells, scalar, vs, pick1, fillA, splice, chop, eqC, Nat.reduceBEq, Nat.reduceAdd, Nat.reduceSub, Nat.reduceLT, Nat.reduceLeDiff, Nat.reduceMul, Nat.reduceEqDiff, cond_true, cond_false, if_true, if_false, reduceIte, implies_true, forall_const, ne_eq])
    | (simp (disch := omega) only [wr64, Int.zero_sub]; try simp only [zT, drp, hasN, Bool.or_false, Bool.false_or, Bool.or_true, Bool.true_or, Classical.not_not, zS, vcC, exs, exd, pickV, alS, Al.ob, grd, ex, ov, gt, argE, strp, cnd, sideL, I.os, st, wrap, keep, binA, kseq, kblk, kret, klp, resL, res1, one, ocalls, obj, elems, cells, scalar, vs, pick1, fillA, splice, chop, eqC, Nat.reduceBEq, Nat.reduceAdd, Nat.reduceSub, Nat.reduceLT, Nat.reduceLeDiff, Nat.reduceMul, Nat.reduceEqDiff, cond_true, cond_false, if_true, if_false, reduceIte, implies_true, forall_const, ne_eq])
    | (refine AWPC.both (fun _ => ?_) (fun _ => ?_))
    | (refine AWPC.imp (fun _ => ?_))
    | ((repeat (refine And.intro (by (intros; simp_all (config := { decide := false }); done)) ?_)); (first
      | (refine .inl ⟨_, _, _, _, rfl, fun _hc => ⟨by simp, rwithin_spec _ _ _⟩, ?_⟩)
      | (refine ⟨_, _, _, _, rfl, fun _hc => ⟨by simp, rwithin_spec _ _ _⟩, ?_⟩)
      | fail); (first | (refine owp_of_exs ?_; simp only [zT, drp, hasN, Bool.or_false, Bool.false_or, Bool.or_true, Bool.true_or, Classical.not_not, zS, vcC, exs, exd, pickV, alS, Al.ob, grd, ex, ov, gt, argE, strp, cnd, sideL, I.os, st, wrap, keep, binA, kseq, kblk, kret, klp, resL, res1, one, ocalls, obj, elems, cells, scalar, vs, pick1, fillA, splice, chop, eqC, Nat.reduceBEq, Nat.reduceAdd, Nat.reduceSub, Nat.reduceLT, Nat.reduceLeDiff, Nat.reduceMul, Nat.reduceEqDiff, cond_true, cond_false, if_true, if_false, reduceIte, implies_true, forall_const, ne_eq]) | (refine pre_of_exd ?_; simp only [zT, drp, hasN, Bool.or_false, Bool.false_or, Bool.or_true, Bool.true_or, Classical.not_not, zS, vcC, exs, exd, pickV, alS, Al.ob, grd, ex, ov, gt, argE, strp, cnd, sideL, I.os, st, wrap, keep, binA, kseq, kblk, kret, klp, resL, res1, one, ocalls, obj, elems, cells, scalar, vs, pick1, fillA, splice, chop, eqC, Nat.reduceBEq, Nat.reduceAdd, Nat.reduceSub, Nat.reduceLT, Nat.reduceLeDiff, Nat.reduceMul, Nat.reduceEqDiff, cond_true, cond_false, if_true, if_false, reduceIte, implies_true, forall_const, ne_eq]) | fail))
    | ((refine .inl ⟨_, _, _, .any, rfl, fun h => absurd h Bool.false_ne_true, ?_⟩); (first | (refine owp_of_exs ?_; simp only [zT, drp, hasN, Bool.or_false, Bool.false_or, Bool.or_true, Bool.true_or, Classical.not_not, zS, vcC, exs, exd, pickV, alS, Al.ob, grd, ex, ov, gt, argE, strp, cnd, sideL, I.os, st, wrap, keep, binA, kseq, kblk, kret, klp, resL, res1, one, ocalls, obj, elems, cells, scalar, vs, pick1, fillA, splice, chop, eqC, Nat.reduceBEq, Nat.reduceAdd, Nat.reduceSub, Nat.reduceLT, Nat.reduceLeDiff, Nat.reduceMul, Nat.reduceEqDiff, cond_true, cond_false, if_true, if_false, reduceIte, implies_true, forall_const, ne_eq]) | fail))
    | (refine ⟨by omega, ?_⟩)
    | fail)
  · rename_i h
    refine Frz.eq ?_ (by simp)
    rw [ierr1]
    intro g
    exact h (by have := g.1; omega)
  · rename_i h
    refine AWPC.loopI 3 x.length (fun i => ∀ l ∈ x.take i, good l) (by simp) ?_ ?_
    · (simp only [zT, drp, hasN, Bool.or_false, Bool.false_or, Bool.or_true, Bool.true_or, Classical.not_not, zS, vcC, exs, exd, pickV, alS, Al.ob, grd, ex, ov, gt, argE, strp, cnd, sideL, I.os, st, wrap, keep, binA, kseq, kblk, kret, klp, resL, res1, one, ocalls, obj, elems, cells, scalar, vs, pick1, fillA, splice, chop, eqC, Nat.reduceBEq, Nat.reduceAdd, Nat.reduceSub, Nat.reduceLT, Nat.reduceLeDiff, Nat.reduceMul, Nat.reduceEqDiff, cond_true, cond_false, if_true, if_false, reduceIte, implies_true, forall_const, ne_eq]; try simp)
    · intro i hi hI
      by_cases hlt : i < x.length
      · obtain ⟨l, hl⟩ : ∃ l, x[i]? = some l := ⟨_, List.getElem?_eq_getElem hlt⟩
        have hm := List.mem_of_getElem? hl
        (repeat' first
    | (refine AWPC.of_vcn rfl ?_; simp only [zT, drp, hasN, Bool.or_false, Bool.false_or, Bool.or_true, Bool.true_or, Classical.not_not, zS, vcC, exs, exd, pickV, alS, Al.ob, grd, ex, ov, gt, argE, strp, cnd, sideL, I.os, st, wrap, keep, binA, kseq, kblk, kret, klp, resL, res1, one, ocalls, obj, elems, cells, scalar, vs, pick1, fillA, splice, chop, eqC, Nat.reduceBEq, Nat.reduceAdd, Nat.reduceSub, Nat.reduceLT, Nat.reduceLeDiff, Nat.reduceMul, Nat.reduceEqDiff, cond_true, cond_false, if_true, if_false, reduceIte, implies_true, forall_const, ne_eq, getD_map hl])
    | (simp (disch := omega) only [wr64, Int.zero_sub]; try simp only [zT, drp, hasN, Bool.or_false, Bool.false_or, Bool.or_true, Bool.true_or, Classical.not_not, zS, vcC, exs, exd, pickV, alS, Al.ob, grd, ex, ov, gt, argE, strp, cnd, sideL, I.os, st, wrap, keep, binA, kseq, kblk, kret, klp, resL, res1, one, ocalls, obj, elems, cells, scalar, vs, pick1, fillA, splice, chop, eqC, Nat.reduceBEq, Nat.reduceAdd, Nat.reduceSub, Nat.reduceLT, Nat.reduceLeDiff, Nat.reduceMul, Nat.reduceEqDiff, cond_true, cond_false, if_true, if_false, reduceIte, implies_true, forall_const, ne_eq, getD_map hl])
    | (refine AWPC.both (fun _ => ?_) (fun _ => ?_))
    | (refine AWPC.imp (fun _ => ?_))
    | ((repeat (refine And.intro (by (intros; simp_all (config := { decide := false }); done)) ?_)); (first
      | (refine .inl ⟨_, _, _, _, rfl, fun _hc => ⟨by simp, goodSet_spec l (hx.2 l hm)⟩, ?_⟩)
      | (refine ⟨_, _, _, _, rfl, fun _hc => ⟨by simp, goodSet_spec l (hx.2 l hm)⟩, ?_⟩)
      | fail); (first | (refine owp_of_exs ?_; simp only [zT, drp, hasN, Bool.or_false, Bool.false_or, Bool.or_true, Bool.true_or, Classical.not_not, zS, vcC, exs, exd, pickV, alS, Al.ob, grd, ex, ov, gt, argE, strp, cnd, sideL, I.os, st, wrap, keep, binA, kseq, kblk, kret, klp, resL, res1, one, ocalls, obj, elems, cells, scalar, vs, pick1, fillA, splice, chop, eqC, Nat.reduceBEq, Nat.reduceAdd, Nat.reduceSub, Nat.reduceLT, Nat.reduceLeDiff, Nat.reduceMul, Nat.reduceEqDiff, cond_true, cond_false, if_true, if_false, reduceIte, implies_true, forall_const, ne_eq, getD_map hl]) | (refine pre_of_exd ?_; simp only [zT, drp, hasN, Bool.or_false, Bool.false_or, Bool.or_true, Bool.true_or, Classical.not_not, zS, vcC, exs, exd, pickV, alS, Al.ob, grd, ex, ov, gt, argE, strp, cnd, sideL, I.os, st, wrap, keep, binA, kseq, kblk, kret, klp, resL, res1, one, ocalls, obj, elems, cells, scalar, vs, pick1, fillA, splice, chop, eqC, Nat.reduceBEq, Nat.reduceAdd, Nat.reduceSub, Nat.reduceLT, Nat.reduceLeDiff, Nat.reduceMul, Nat.reduceEqDiff, cond_true, cond_false, if_true, if_false, reduceIte, implies_true, forall_const, ne_eq, getD_map hl]) | fail))
    | ((refine .inl ⟨_, _, _, .any, rfl, fun h => absurd h Bool.false_ne_true, ?_⟩); (first | (refine owp_of_exs ?_; simp only [zT, drp, hasN, Bool.or_false, Bool.false_or, Bool.or_true, Bool.true_or, Classical.not_not, zS, vcC, exs, exd, pickV, alS, Al.ob, grd, ex, ov, gt, argE, strp, cnd, sideL, I.os, st, wrap, keep, binA, kseq, kblk, kret, klp, resL, res1, one, ocalls, obj, elems, cells, scalar, vs, pick1, fillA, splice, chop, eqC, Nat.reduceBEq, Nat.reduceAdd, Nat.reduceSub, Nat.reduceLT, Nat.reduceLeDiff, Nat.reduceMul, Nat.reduceEqDiff, cond_true, cond_false, if_true, if_false, reduceIte, implies_true, forall_const, ne_eq, getD_map hl]) | fail))
    | (refine ⟨by omega, ?_⟩)
    | fail)
        all_goals try (exfalso; omega)
        · rename_i g
          refine Frz.eq ?_ (by simp)
          rw [ierr1 (fun r => g (r.2 l hm))]
        · rename_i g
          refine ⟨⟨i + 1, hlt, fun u hu => ?_⟩, by simp, by simp only; omega⟩
          rw [List.take_add_one, hl] at hu
          rcases List.mem_append.1 hu with hu | hu
          · exact hI u hu
          · obtain rfl : u = l := by simpa using hu
            exact g
      · obtain rfl : i = x.length := by omega
        rw [List.take_length] at hI
        (repeat' first
    | (refine AWPC.of_vcn rfl ?_; simp only [zT, drp, hasN, Bool.or_false, Bool.false_or, Bool.or_true, Bool.true_or, Classical.not_not, zS, vcC, exs, exd, pickV, alS, Al.ob, grd, ex, ov, gt, argE, strp, cnd, sideL, I.os, st, wrap, keep, binA, kseq, kblk, kret, klp, resL, res1, one, ocalls, obj, elems, cells, scalar, vs, pick1, fillA, splice, chop, eqC, Nat.reduceBEq, Nat.reduceAdd, Nat.reduceSub, Nat.reduceLT, Nat.reduceLeDiff, Nat.reduceMul, Nat.reduceEqDiff, cond_true, cond_false, if_true, if_false, reduceIte, implies_true, forall_const, ne_eq])
    | (simp (disch := omega) only [wr64, Int.zero_sub]; try simp only [zT, drp, hasN, Bool.or_false, Bool.false_or, Bool.or_true, Bool.true_or, Classical.not_not, zS, vcC, exs, exd, pickV, alS, Al.ob, grd, ex, ov, gt, argE, strp, cnd, sideL, I.os, st, wrap, keep, binA, kseq, kblk, kret, klp, resL, res1, one, ocalls, obj, elems, cells, scalar, vs, pick1, fillA, splice, chop, eqC, Nat.reduceBEq, Nat.reduceAdd, Nat.reduceSub, Nat.reduceLT, Nat.reduceLeDiff, Nat.reduceMul, Nat.reduceEqDiff, cond_true, cond_false, if_true, if_false, reduceIte, implies_true, forall_const, ne_eq])
    | (refine AWPC.both (fun _ => ?_) (fun _ => ?_))
    | (refine AWPC.imp (fun _ => ?_))
    | ((refine .inl ⟨_, _, _, .any, rfl, fun h => absurd h Bool.false_ne_true, ?_⟩); (first | (refine owp_of_exs ?_; simp only [zT, drp, hasN, Bool.or_false, Bool.false_or, Bool.or_true, Bool.true_or, Classical.not_not, zS, vcC, exs, exd, pickV, alS, Al.ob, grd, ex, ov, gt, argE, strp, cnd, sideL, I.os, st, wrap, keep, binA, kseq, kblk, kret, klp, resL, res1, one, ocalls, obj, elems, cells, scalar, vs, pick1, fillA, splice, chop, eqC, Nat.reduceBEq, Nat.reduceAdd, Nat.reduceSub, Nat.reduceLT, Nat.reduceLeDiff, Nat.reduceMul, Nat.reduceEqDiff, cond_true, cond_false, if_true, if_false, reduceIte, implies_true, forall_const, ne_eq]) | fail))
    | (refine ⟨by omega, ?_⟩)
    | fail)
        all_goals try (exfalso; omega)
        refine Frz.eq ?_ (by simp)
        rw [ierr0.2 ⟨by omega, hI⟩]
end Go.Proofs.Ytgpdckmbojmlpaa
