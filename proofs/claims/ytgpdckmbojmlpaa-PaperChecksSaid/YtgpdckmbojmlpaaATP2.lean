import Derived.Test.YtgpdckmbojmlpaaATP1
import Derived.Test.YtgpdckmbojmlpaaRows
namespace Go.Proofs.Ytgpdckmbojmlpaa
open Go.Abs
set_option linter.unusedVariables false
set_option linter.unusedSimpArgs false
set_option maxHeartbeats 4000000
set_option maxRecDepth 100000
-- aneroid/paper.read
def c71 : CF := ⟨23,
 (.seq (.ops [
 ⟨(some 2), .box false 25 10 (.t 0), none⟩,
 ⟨(some 4), .alloc 85 10 [.int .i64 0, .int .i64 0, .int .i64 0, .int .i64 0, .int .i64 0, .int .i64 0, .int .i64 0, .int .i64 0, .int .i64 0, .int .i64 0], none⟩,
 ⟨(some 5), .mv (.c (.int .i64 0)), none⟩] [1, 2, 4])
 (.seq (.seq (.ops [
 ⟨(some 9), .load (some 10) (.t 2), none⟩,
 ⟨(some 10), .call (.f 52) [(.t 9)], none⟩,
 ⟨(some 6), .mv (.t 10), none⟩] [1, 2, 4, 6])
 (.seq (.ops [
 ⟨(some 11), .mv (.t 6), none⟩,
 ⟨(some 12), .bin .neq (.t 11) (.c (.int .i64 0)), none⟩] [1, 2, 4, 6, 12])
 (.cond (.t 12) (.seq (.ops [
 ⟨(some 13), .build [.int .i64 0, .int .i64 0, .int .i64 0, .int .i64 0, .int .i64 0, .int .i64 0, .int .i64 0, .int .i64 0, .int .i64 0, .int .i64 0] [], none⟩,
 ⟨(some 14), .mv (.t 6), none⟩,
 ⟨none, .store 10 (.t 4) (.t 13), none⟩,
 ⟨(some 5), .mv (.t 14), none⟩] [4, 5])
 .ret)
 .skip)))
 (.seq (.ops [
 ⟨(some 16), .mv (.t 1), none⟩,
 ⟨(some 17), .call (.f 46) [(.t 16)], none⟩,
 ⟨(some 15), .mv (.t 17), none⟩,
 ⟨(some 18), .ext 0 (.t 15), none⟩,
 ⟨(some 19), .ext 1 (.t 15), none⟩,
 ⟨(some 7), .mv (.t 18), none⟩,
 ⟨(some 8), .mv (.t 19), none⟩] [2, 4, 7])
 (.seq (.ops [
 ⟨(some 20), .load (some 10) (.t 2), none⟩,
 ⟨(some 21), .build [.int .i64 0, .int .i64 0, .int .i64 0, .int .i64 0, .int .i64 0, .int .i64 0, .int .i64 0, .int .i64 0, .int .i64 0, .int .i64 0] [(0, 10, (.t 20))], none⟩,
 ⟨(some 22), .mv (.t 7), none⟩,
 ⟨none, .store 10 (.t 4) (.t 21), none⟩,
 ⟨(some 5), .mv (.t 22), none⟩] [4, 5])
 .ret)))),
 [.c 4 (some 10), .t 5]⟩
-- (aneroid/paper.form).arc
def c70 : CF := ⟨21,
 (.seq (.ops [
 ⟨(some 2), .box false 85 10 (.t 0), none⟩,
 ⟨(some 4), .mv (.c (.int .i64 0)), none⟩] [1, 2])
 (.seq (.seq (.ops [
 ⟨(some 5), .faddr 0 (.t 2), none⟩,
 ⟨(some 6), .faddr 2 (.t 5), none⟩,
 ⟨(some 7), .load none (.t 6), none⟩,
 ⟨(some 8), .bin .eql (.t 7) (.c (.int .i64 0)), none⟩] [1, 2, 8])
 (.cond (.t 8) (.seq (.ops [
 ⟨(some 4), .mv (.c (.int .i64 0)), none⟩] [4])
 .ret)
 .skip))
 (.seq (.ops [
 ⟨(some 9), .mv (.t 1), none⟩,
 ⟨(some 10), .faddr 0 (.t 2), none⟩,
 ⟨(some 11), .faddr 1 (.t 10), none⟩,
 ⟨(some 12), .load none (.t 11), none⟩,
 ⟨(some 13), .mv (.t 1), none⟩,
 ⟨(some 14), .bin .sub (.t 12) (.t 13), none⟩,
 ⟨(some 15), .bin .mul (.t 9) (.t 14), none⟩,
 ⟨(some 16), .faddr 0 (.t 2), none⟩,
 ⟨(some 17), .faddr 2 (.t 16), none⟩,
 ⟨(some 18), .load none (.t 17), none⟩,
 ⟨(some 19), .bin .mul (.c (.int .i64 2)) (.t 18), none⟩,
 ⟨(some 20), .bin .quo (.t 15) (.t 19), none⟩,
 ⟨(some 4), .mv (.t 20), none⟩] [4])
 .ret))),
 [.t 4]⟩
-- (aneroid/paper.form).level
def c75 : CF := ⟨22,
 (.seq (.ops [
 ⟨(some 2), .box false 85 10 (.t 0), none⟩,
 ⟨(some 4), .mv (.c (.int .i64 0)), none⟩] [1, 2])
 (.seq (.draw [
 ⟨(some 5), .faddr 0 (.t 2), none⟩,
 ⟨(some 6), .faddr 3 (.t 5), none⟩,
 ⟨(some 7), .load none (.t 6), none⟩,
 ⟨(some 8), .mv (.t 1), none⟩,
 ⟨(some 9), .faddr 0 (.t 2), none⟩,
 ⟨(some 10), .faddr 4 (.t 9), none⟩,
 ⟨(some 11), .load none (.t 10), none⟩,
 ⟨(some 12), .faddr 0 (.t 2), none⟩,
 ⟨(some 13), .faddr 3 (.t 12), none⟩,
 ⟨(some 14), .load none (.t 13), none⟩,
 ⟨(some 15), .bin .sub (.t 11) (.t 14), none⟩,
 ⟨(some 16), .bin .mul (.t 8) (.t 15), none⟩,
 ⟨(some 17), .faddr 0 (.t 2), none⟩,
 ⟨(some 18), .faddr 1 (.t 17), none⟩,
 ⟨(some 19), .load none (.t 18), none⟩,
 ⟨(some 20), .bin .quo (.t 16) (.t 19), none⟩,
 ⟨(some 21), .bin .add (.t 7) (.t 20), none⟩,
 ⟨(some 4), .mv (.t 21), none⟩] [
 ] [4])
 .ret)),
 [.t 4]⟩
-- (aneroid/paper.form).least
def c79 : CF := ⟨33,
 (.seq (.ops [
 ⟨(some 2), .box false 85 10 (.t 0), none⟩,
 ⟨(some 4), .mv (.c (.int .i64 0)), none⟩] [1, 2])
 (.seq (.ops [
 ⟨(some 6), .mv (.t 1), none⟩,
 ⟨(some 7), .faddr 0 (.t 2), none⟩,
 ⟨(some 8), .faddr 3 (.t 7), none⟩,
 ⟨(some 9), .load none (.t 8), none⟩,
 ⟨(some 10), .bin .sub (.t 6) (.t 9), none⟩,
 ⟨(some 5), .mv (.t 10), none⟩] [2, 5])
 (.seq (.ops [
 ⟨(some 11), .mv (.t 5), none⟩,
 ⟨(some 12), .faddr 0 (.t 2), none⟩,
 ⟨(some 13), .faddr 1 (.t 12), none⟩,
 ⟨(some 14), .load none (.t 13), none⟩,
 ⟨(some 15), .bin .mul (.t 11) (.t 14), none⟩,
 ⟨(some 16), .faddr 0 (.t 2), none⟩,
 ⟨(some 17), .faddr 4 (.t 16), none⟩,
 ⟨(some 18), .load none (.t 17), none⟩,
 ⟨(some 19), .bin .add (.t 15) (.t 18), none⟩,
 ⟨(some 20), .faddr 0 (.t 2), none⟩,
 ⟨(some 21), .faddr 3 (.t 20), none⟩,
 ⟨(some 22), .load none (.t 21), none⟩,
 ⟨(some 23), .bin .sub (.t 19) (.t 22), none⟩,
 ⟨(some 24), .bin .sub (.t 23) (.c (.int .i64 1)), none⟩,
 ⟨(some 25), .faddr 0 (.t 2), none⟩,
 ⟨(some 26), .faddr 4 (.t 25), none⟩,
 ⟨(some 27), .load none (.t 26), none⟩,
 ⟨(some 28), .faddr 0 (.t 2), none⟩,
 ⟨(some 29), .faddr 3 (.t 28), none⟩,
 ⟨(some 30), .load none (.t 29), none⟩,
 ⟨(some 31), .bin .sub (.t 27) (.t 30), none⟩,
 ⟨(some 32), .bin .quo (.t 24) (.t 31), none⟩,
 ⟨(some 4), .mv (.t 32), none⟩] [4])
 .ret))),
 [.t 4]⟩
-- aneroid/aneroidlaw01.sample
def c68 : CF := ⟨6,
 (.seq (.ops [
 ⟨(some 0), .alloc 25 10 [.int .i64 0, .int .i64 0, .int .i64 0, .int .i64 0, .int .i64 0, .int .i64 0, .int .i64 0, .int .i64 0, .int .i64 0, .int .i64 0], none⟩] [0])
 (.seq (.ops [
 ⟨(some 2), .build [.int .i64 0, .int .i64 0] [(0, 1, (.c (.int .i64 1000))), (1, 1, (.c (.int .i64 1000)))], none⟩,
 ⟨(some 1), .alloc 23 2 [.int .i64 0, .int .i64 0], none⟩,
 ⟨none, .store 2 (.t 1) (.t 2), none⟩] [0, 1])
 (.seq (.ops [
 ⟨(some 3), .load (some 2) (.t 1), none⟩,
 ⟨(some 4), .load (some 2) (.t 1), none⟩,
 ⟨(some 5), .build [.int .i64 0, .int .i64 0, .int .i64 0, .int .i64 0, .int .i64 0, .int .i64 0, .int .i64 0, .int .i64 0, .int .i64 0, .int .i64 0] [(0, 1, (.c (.int .i64 100))), (1, 1, (.c (.int .i64 1000))), (2, 1, (.c (.int .i64 1000))), (3, 1, (.c (.int .i64 9600))), (4, 1, (.c (.int .i64 10600))), (5, 1, (.c (.int .i64 4))), (6, 2, (.t 3)), (8, 2, (.t 4))], none⟩,
 ⟨none, .store 10 (.t 0) (.t 5), none⟩] [0])
 .ret))),
 [.c 0 (some 10)]⟩
-- aneroid/paper.at
def c69 : CF := ⟨29,
 (.seq (.ops [
 ⟨(some 3), .box false 25 10 (.t 0), none⟩,
 ⟨(some 6), .mv (.c (.int .i64 0)), none⟩,
 ⟨(some 7), .mv (.c (.int .i64 0)), none⟩] [1, 2, 3])
 (.seq (.ops [
 ⟨(some 11), .load (some 10) (.t 3), none⟩,
 ⟨(some 12), .call (.f 71) [(.t 11), (.c (.slice none 0 0))], none⟩,
 ⟨(some 10), .mv (.t 12), none⟩,
 ⟨(some 13), .ext 0 (.t 10), none⟩,
 ⟨(some 14), .ext 1 (.t 10), none⟩,
 ⟨(some 8), .alloc 85 10 [.int .i64 0, .int .i64 0, .int .i64 0, .int .i64 0, .int .i64 0, .int .i64 0, .int .i64 0, .int .i64 0, .int .i64 0, .int .i64 0], none⟩,
 ⟨none, .store 10 (.t 8) (.t 13), none⟩,
 ⟨(some 9), .mv (.t 14), none⟩] [1, 2, 3, 8, 9])
 (.seq (.block 0 (.seq (.ops [
 ⟨(some 16), .mv (.t 9), none⟩,
 ⟨(some 17), .bin .neq (.t 16) (.c (.int .i64 0)), none⟩,
 ⟨(some 15), .mv (.t 17), none⟩] [1, 2, 3, 8, 9, 15])
 (.cond (.t 15) (.seq (.ops [
 ⟨(some 18), .mv (.t 9), none⟩,
 ⟨(some 6), .mv (.c (.int .i64 0)), none⟩,
 ⟨(some 7), .mv (.t 18), none⟩] [6, 7])
 .ret)
 (.seq (.ops [
 ⟨(some 20), .mv (.t 1), none⟩,
 ⟨(some 21), .faddr 1 (.t 3), none⟩,
 ⟨(some 22), .load none (.t 21), none⟩,
 ⟨(some 23), .call (.f 72) [(.t 20), (.c (.int .i64 0)), (.t 22)], none⟩,
 ⟨(some 24), .un .not (.t 23), none⟩,
 ⟨(some 19), .mv (.t 24), none⟩] [1, 2, 8, 19])
 (.cond (.t 19) (.seq (.ops [
 ⟨(some 6), .mv (.c (.int .i64 0)), none⟩,
 ⟨(some 7), .mv (.c (.int .i64 1)), none⟩] [6, 7])
 .ret)
 .skip)))))
 (.seq (.ops [
 ⟨(some 25), .mv (.t 2), none⟩,
 ⟨(some 26), .load (some 10) (.t 8), none⟩,
 ⟨(some 27), .mv (.t 1), none⟩,
 ⟨(some 28), .call (.t 25) [(.t 26), (.t 27)], none⟩,
 ⟨(some 6), .mv (.t 28), none⟩,
 ⟨(some 7), .mv (.c (.int .i64 0)), none⟩] [6, 7])
 .ret)))),
 [.t 6, .t 7]⟩
-- aneroid/paper.Arc
def c19 : CF := ⟨11,
 (.seq (.ops [
 ⟨(some 2), .box false 25 10 (.t 0), none⟩,
 ⟨(some 4), .mv (.c (.int .i64 0)), none⟩,
 ⟨(some 5), .mv (.c (.int .i64 0)), none⟩] [1, 2])
 (.seq (.ops [
 ⟨(some 6), .load (some 10) (.t 2), none⟩,
 ⟨(some 7), .mv (.t 1), none⟩,
 ⟨(some 8), .call (.f 69) [(.t 6), (.t 7), (.f 70)], none⟩,
 ⟨(some 9), .ext 0 (.t 8), none⟩,
 ⟨(some 10), .ext 1 (.t 8), none⟩,
 ⟨(some 4), .mv (.t 9), none⟩,
 ⟨(some 5), .mv (.t 10), none⟩] [4, 5])
 .ret)),
 [.t 4, .t 5]⟩
-- aneroid/paper.Level
def c24 : CF := ⟨11,
 (.seq (.ops [
 ⟨(some 2), .box false 25 10 (.t 0), none⟩,
 ⟨(some 4), .mv (.c (.int .i64 0)), none⟩,
 ⟨(some 5), .mv (.c (.int .i64 0)), none⟩] [1, 2])
 (.seq (.ops [
 ⟨(some 6), .load (some 10) (.t 2), none⟩,
 ⟨(some 7), .mv (.t 1), none⟩,
 ⟨(some 8), .call (.f 69) [(.t 6), (.t 7), (.f 75)], none⟩,
 ⟨(some 9), .ext 0 (.t 8), none⟩,
 ⟨(some 10), .ext 1 (.t 8), none⟩,
 ⟨(some 4), .mv (.t 9), none⟩,
 ⟨(some 5), .mv (.t 10), none⟩] [4, 5])
 .ret)),
 [.t 4, .t 5]⟩
-- aneroid/paper.Heights
def c26 : CF := ⟨40,
 (.seq (.ops [
 ⟨(some 2), .box false 25 10 (.t 0), none⟩,
 ⟨(some 4), .alloc 23 2 [.int .i64 0, .int .i64 0], none⟩,
 ⟨(some 5), .mv (.c (.int .i64 0)), none⟩] [1, 2, 4])
 (.seq (.ops [
 ⟨(some 9), .load (some 10) (.t 2), none⟩,
 ⟨(some 10), .call (.f 71) [(.t 9), (.c (.slice none 0 0))], none⟩,
 ⟨(some 8), .mv (.t 10), none⟩,
 ⟨(some 11), .ext 0 (.t 8), none⟩,
 ⟨(some 12), .ext 1 (.t 8), none⟩,
 ⟨(some 6), .alloc 85 10 [.int .i64 0, .int .i64 0, .int .i64 0, .int .i64 0, .int .i64 0, .int .i64 0, .int .i64 0, .int .i64 0, .int .i64 0, .int .i64 0], none⟩,
 ⟨none, .store 10 (.t 6) (.t 11), none⟩,
 ⟨(some 7), .mv (.t 12), none⟩] [1, 2, 4, 6, 7])
 (.seq (.block 0 (.seq (.ops [
 ⟨(some 14), .mv (.t 7), none⟩,
 ⟨(some 15), .bin .neq (.t 14) (.c (.int .i64 0)), none⟩,
 ⟨(some 13), .mv (.t 15), none⟩] [1, 2, 4, 6, 7, 13])
 (.cond (.t 13) (.seq (.ops [
 ⟨(some 16), .build [.int .i64 0, .int .i64 0] [], none⟩,
 ⟨(some 17), .mv (.t 7), none⟩,
 ⟨none, .store 2 (.t 4) (.t 16), none⟩,
 ⟨(some 5), .mv (.t 17), none⟩] [4, 5])
 .ret)
 (.seq (.ops [
 ⟨(some 19), .mv (.t 1), none⟩,
 ⟨(some 20), .faddr 3 (.t 2), none⟩,
 ⟨(some 21), .load none (.t 20), none⟩,
 ⟨(some 22), .faddr 4 (.t 2), none⟩,
 ⟨(some 23), .load none (.t 22), none⟩,
 ⟨(some 24), .call (.f 72) [(.t 19), (.t 21), (.t 23)], none⟩,
 ⟨(some 25), .un .not (.t 24), none⟩,
 ⟨(some 18), .mv (.t 25), none⟩] [1, 4, 6, 18])
 (.cond (.t 18) (.seq (.ops [
 ⟨(some 26), .build [.int .i64 0, .int .i64 0] [], none⟩,
 ⟨none, .store 2 (.t 4) (.t 26), none⟩,
 ⟨(some 5), .mv (.c (.int .i64 1)), none⟩] [4, 5])
 .ret)
 .skip)))))
 (.seq (.draw [
 ⟨(some 27), .load (some 10) (.t 6), none⟩,
 ⟨(some 28), .mv (.t 1), none⟩,
 ⟨(some 29), .call (.f 79) [(.t 27), (.t 28)], none⟩,
 ⟨(some 30), .faddr 0 (.t 6), none⟩,
 ⟨(some 31), .faddr 1 (.t 30), none⟩,
 ⟨(some 32), .load none (.t 31), none⟩,
 ⟨(some 33), .load (some 10) (.t 6), none⟩,
 ⟨(some 34), .mv (.t 1), none⟩,
 ⟨(some 35), .bin .add (.t 34) (.c (.int .i64 1)), none⟩,
 ⟨(some 36), .call (.f 79) [(.t 33), (.t 35)], none⟩,
 ⟨(some 37), .bin .sub (.t 36) (.c (.int .i64 1)), none⟩,
 ⟨(some 38), .mnx false (.t 32) (.t 37), none⟩,
 ⟨(some 39), .build [.int .i64 0, .int .i64 0] [(0, 1, (.t 29)), (1, 1, (.t 38))], none⟩] [
 ⟨none, .store 2 (.t 4) (.t 39), none⟩,
 ⟨(some 5), .mv (.c (.int .i64 0)), none⟩] [4, 5])
 .ret)))),
 [.c 4 (some 2), .t 5]⟩

theorem k71 : chkF Try.prog Try.f71 c71 = true := by kernel_rfl
theorem k70 : chkF Try.prog Try.f70 c70 = true := by kernel_rfl
theorem k75 : chkF Try.prog Try.f75 c75 = true := by kernel_rfl
theorem k79 : chkF Try.prog Try.f79 c79 = true := by kernel_rfl
theorem k68 : chkF Try.prog Try.f68 c68 = true := by kernel_rfl
theorem k69 : chkF Try.prog Try.f69 c69 = true := by kernel_rfl
theorem k19 : chkF Try.prog Try.f19 c19 = true := by kernel_rfl
theorem k24 : chkF Try.prog Try.f24 c24 = true := by kernel_rfl
theorem k26 : chkF Try.prog Try.f26 c26 = true := by kernel_rfl

def Pp.z : Pp := ⟨0, 0, 0, 0, 0, 0, ⟨0, 0⟩, ⟨0, 0⟩⟩
def Pp.orz (p : Pp) : Pp := if p.good then p else Pp.z
theorem orz1 {p : Pp} (h : p.good) : p.orz = p := if_pos h
theorem orz0 {p : Pp} (h : ¬ p.good) : p.orz = Pp.z := if_neg h

theorem err0 {p : Pp} : p.err = 0 ↔ p.good := by
  unfold Pp.err
  split
  · exact ⟨fun _ => ‹_›, fun _ => rfl⟩
  · exact ⟨fun h => absurd h (by decide), fun h => absurd h ‹_›⟩
theorem err1 {p : Pp} (h : ¬ p.good) : p.err = 10 := by unfold Pp.err; rw [if_neg h]

theorem read_spec (p : Pp) (pts : List Pt) (hlen : pts.length < 1000000000) :
    Pure Try.prog 71 [.agg p.cs, ptS pts] (.tup [.agg p.orz.cs, n (if p.good then (traceErr pts).1 else 10)]) := by
  refine Pure.of_body Try.call71 Try.func71 k71 (Nat.le_of_ble_eq_true rfl) ?_
  unfold c71
  refine AWPC.of_vc ?_; simp only [zS, vcC, exs, exd, pickV, alS, Al.ob, grd, ex, ov, gt, argE, strp, cnd, sideL, I.os, st, wrap, keep, binA, kseq, kblk, kret, klp, resL, res1, one, ocalls, obj, elems, cells, scalar, vs, pick1, fillA, splice, chop, eqC, Nat.reduceBEq, Nat.reduceAdd, Nat.reduceSub, Nat.reduceLT, Nat.reduceLeDiff, Nat.reduceMul, Nat.reduceEqDiff, cond_true, cond_false, if_true, if_false, reduceIte, implies_true, forall_const, ne_eq]
  refine AWPC.of_vc ?_; simp only [zS, vcC, exs, exd, pickV, alS, Al.ob, grd, ex, ov, gt, argE, strp, cnd, sideL, I.os, st, wrap, keep, binA, kseq, kblk, kret, klp, resL, res1, one, ocalls, obj, elems, cells, scalar, vs, pick1, fillA, splice, chop, eqC, Nat.reduceBEq, Nat.reduceAdd, Nat.reduceSub, Nat.reduceLT, Nat.reduceLeDiff, Nat.reduceMul, Nat.reduceEqDiff, cond_true, cond_false, if_true, if_false, reduceIte, implies_true, forall_const, ne_eq]
  ((repeat (refine And.intro (by (intros; simp_all (config := { decide := false }); done)) ?_)); refine .inl ⟨_, _, _, _, rfl, fun _hc => ⟨by simp, checkPaper_spec p⟩, ?_⟩; refine owp_of_exs ?_; simp only [zS, vcC, exs, exd, pickV, alS, Al.ob, grd, ex, ov, gt, argE, strp, cnd, sideL, I.os, st, wrap, keep, binA, kseq, kblk, kret, klp, resL, res1, one, ocalls, obj, elems, cells, scalar, vs, pick1, fillA, splice, chop, eqC, Nat.reduceBEq, Nat.reduceAdd, Nat.reduceSub, Nat.reduceLT, Nat.reduceLeDiff, Nat.reduceMul, Nat.reduceEqDiff, cond_true, cond_false, if_true, if_false, reduceIte, implies_true, forall_const, ne_eq])
  refine AWPC.of_vc ?_; simp only [zS, vcC, exs, exd, pickV, alS, Al.ob, grd, ex, ov, gt, argE, strp, cnd, sideL, I.os, st, wrap, keep, binA, kseq, kblk, kret, klp, resL, res1, one, ocalls, obj, elems, cells, scalar, vs, pick1, fillA, splice, chop, eqC, Nat.reduceBEq, Nat.reduceAdd, Nat.reduceSub, Nat.reduceLT, Nat.reduceLeDiff, Nat.reduceMul, Nat.reduceEqDiff, cond_true, cond_false, if_true, if_false, reduceIte, implies_true, forall_const, ne_eq]
  refine AWPC.of_vc ?_; simp only [zS, vcC, exs, exd, pickV, alS, Al.ob, grd, ex, ov, gt, argE, strp, cnd, sideL, I.os, st, wrap, keep, binA, kseq, kblk, kret, klp, resL, res1, one, ocalls, obj, elems, cells, scalar, vs, pick1, fillA, splice, chop, eqC, Nat.reduceBEq, Nat.reduceAdd, Nat.reduceSub, Nat.reduceLT, Nat.reduceLeDiff, Nat.reduceMul, Nat.reduceEqDiff, cond_true, cond_false, if_true, if_false, reduceIte, implies_true, forall_const, ne_eq]
  refine ⟨fun hg => ?_, fun hg => ?_⟩ <;> rw [err0] at hg
  · refine AWPC.of_vc ?_; simp only [zS, vcC, exs, exd, pickV, alS, Al.ob, grd, ex, ov, gt, argE, strp, cnd, sideL, I.os, st, wrap, keep, binA, kseq, kblk, kret, klp, resL, res1, one, ocalls, obj, elems, cells, scalar, vs, pick1, fillA, splice, chop, eqC, Nat.reduceBEq, Nat.reduceAdd, Nat.reduceSub, Nat.reduceLT, Nat.reduceLeDiff, Nat.reduceMul, Nat.reduceEqDiff, cond_true, cond_false, if_true, if_false, reduceIte, implies_true, forall_const, ne_eq]
    refine AWPC.of_vc ?_; simp only [zS, vcC, exs, exd, pickV, alS, Al.ob, grd, ex, ov, gt, argE, strp, cnd, sideL, I.os, st, wrap, keep, binA, kseq, kblk, kret, klp, resL, res1, one, ocalls, obj, elems, cells, scalar, vs, pick1, fillA, splice, chop, eqC, Nat.reduceBEq, Nat.reduceAdd, Nat.reduceSub, Nat.reduceLT, Nat.reduceLeDiff, Nat.reduceMul, Nat.reduceEqDiff, cond_true, cond_false, if_true, if_false, reduceIte, implies_true, forall_const, ne_eq]
    refine Frz.eq ?_ (by simp)
    rw [if_neg hg, orz0 hg, err1 hg]; rfl
  · refine AWPC.of_vc ?_; simp only [zS, vcC, exs, exd, pickV, alS, Al.ob, grd, ex, ov, gt, argE, strp, cnd, sideL, I.os, st, wrap, keep, binA, kseq, kblk, kret, klp, resL, res1, one, ocalls, obj, elems, cells, scalar, vs, pick1, fillA, splice, chop, eqC, Nat.reduceBEq, Nat.reduceAdd, Nat.reduceSub, Nat.reduceLT, Nat.reduceLeDiff, Nat.reduceMul, Nat.reduceEqDiff, cond_true, cond_false, if_true, if_false, reduceIte, implies_true, forall_const, ne_eq]
    refine AWPC.of_vc ?_; simp only [zS, vcC, exs, exd, pickV, alS, Al.ob, grd, ex, ov, gt, argE, strp, cnd, sideL, I.os, st, wrap, keep, binA, kseq, kblk, kret, klp, resL, res1, one, ocalls, obj, elems, cells, scalar, vs, pick1, fillA, splice, chop, eqC, Nat.reduceBEq, Nat.reduceAdd, Nat.reduceSub, Nat.reduceLT, Nat.reduceLeDiff, Nat.reduceMul, Nat.reduceEqDiff, cond_true, cond_false, if_true, if_false, reduceIte, implies_true, forall_const, ne_eq]
    ((repeat (refine And.intro (by (intros; simp_all (config := { decide := false }); done)) ?_)); refine .inl ⟨_, _, _, _, rfl, fun _hc => ⟨by simp, checkTrace_spec pts hlen⟩, ?_⟩; refine owp_of_exs ?_; simp only [zS, vcC, exs, exd, pickV, alS, Al.ob, grd, ex, ov, gt, argE, strp, cnd, sideL, I.os, st, wrap, keep, binA, kseq, kblk, kret, klp, resL, res1, one, ocalls, obj, elems, cells, scalar, vs, pick1, fillA, splice, chop, eqC, Nat.reduceBEq, Nat.reduceAdd, Nat.reduceSub, Nat.reduceLT, Nat.reduceLeDiff, Nat.reduceMul, Nat.reduceEqDiff, cond_true, cond_false, if_true, if_false, reduceIte, implies_true, forall_const, ne_eq])
    refine AWPC.of_vc ?_; simp only [zS, vcC, exs, exd, pickV, alS, Al.ob, grd, ex, ov, gt, argE, strp, cnd, sideL, I.os, st, wrap, keep, binA, kseq, kblk, kret, klp, resL, res1, one, ocalls, obj, elems, cells, scalar, vs, pick1, fillA, splice, chop, eqC, Nat.reduceBEq, Nat.reduceAdd, Nat.reduceSub, Nat.reduceLT, Nat.reduceLeDiff, Nat.reduceMul, Nat.reduceEqDiff, cond_true, cond_false, if_true, if_false, reduceIte, implies_true, forall_const, ne_eq]
    refine AWPC.of_vc ?_; simp only [zS, vcC, exs, exd, pickV, alS, Al.ob, grd, ex, ov, gt, argE, strp, cnd, sideL, I.os, st, wrap, keep, binA, kseq, kblk, kret, klp, resL, res1, one, ocalls, obj, elems, cells, scalar, vs, pick1, fillA, splice, chop, eqC, Nat.reduceBEq, Nat.reduceAdd, Nat.reduceSub, Nat.reduceLT, Nat.reduceLeDiff, Nat.reduceMul, Nat.reduceEqDiff, cond_true, cond_false, if_true, if_false, reduceIte, implies_true, forall_const, ne_eq]
    refine Frz.eq ?_ (by simp)
    rw [if_pos hg, orz1 hg]

theorem read0_spec (p : Pp) : Pure Try.prog 71 [.agg p.cs, .v (.slice none 0 0)] (.tup [.agg p.orz.cs, n p.err]) := by
  have h := read_spec p [] (by simp)
  refine Pure.args (args' := [.agg p.cs, ptS []]) rfl (fun i hi w X x hx => ?_) h
  match i, hi with
  | 0, _ => exact hx
  | 1, _ => exact hx.nil

def Pp.arc (p : Pp) (y : Int) : Int := if p.ra = 0 then 0 else (y * (p.he - y)).tdiv (2 * p.ra)
def Pp.level (p : Pp) (y : Int) : Int := p.lo + (y * (p.hi - p.lo)).tdiv p.he
def Pp.least (p : Pp) (l : Int) : Int := ((l - p.lo) * p.he + p.hi - p.lo - 1).tdiv (p.hi - p.lo)

theorem tdiv_bd {a b A : Int} (h1 : 0 ≤ a) (h2 : a ≤ A) (h3 : 1 ≤ b) : 0 ≤ a.tdiv b ∧ a.tdiv b ≤ A := by
  rw [Int.tdiv_eq_ediv_of_nonneg h1]
  exact ⟨Int.ediv_nonneg h1 (by omega), Int.le_trans (Int.ediv_le_self b h1) h2⟩

theorem arc_spec (p : Pp) (y : Int) (hg : p.good) (h0 : 0 ≤ y) (h1 : y ≤ p.he) : Pure Try.prog 70 [.agg p.cs, n y] (n (p.arc y)) := by
  refine Pure.of_body Try.call70 Try.func70 k70 (Nat.le_of_ble_eq_true rfl) ?_
  unfold c70
  obtain ⟨g1, g2, g3, g4, g5, g6, g7, g8, g9, g10, g11, g12, g13⟩ := hg
  have hm := mul_bd h0 (show y ≤ 400000 by omega) (show 0 ≤ p.he - y by omega) (show p.he - y ≤ 400000 by omega)
  refine AWPC.of_vc ?_; simp only [zS, vcC, exs, exd, pickV, alS, Al.ob, grd, ex, ov, gt, argE, strp, cnd, sideL, I.os, st, wrap, keep, binA, kseq, kblk, kret, klp, resL, res1, one, ocalls, obj, elems, cells, scalar, vs, pick1, fillA, splice, chop, eqC, Nat.reduceBEq, Nat.reduceAdd, Nat.reduceSub, Nat.reduceLT, Nat.reduceLeDiff, Nat.reduceMul, Nat.reduceEqDiff, cond_true, cond_false, if_true, if_false, reduceIte, implies_true, forall_const, ne_eq]
  refine AWPC.of_vc ?_; simp only [zS, vcC, exs, exd, pickV, alS, Al.ob, grd, ex, ov, gt, argE, strp, cnd, sideL, I.os, st, wrap, keep, binA, kseq, kblk, kret, klp, resL, res1, one, ocalls, obj, elems, cells, scalar, vs, pick1, fillA, splice, chop, eqC, Nat.reduceBEq, Nat.reduceAdd, Nat.reduceSub, Nat.reduceLT, Nat.reduceLeDiff, Nat.reduceMul, Nat.reduceEqDiff, cond_true, cond_false, if_true, if_false, reduceIte, implies_true, forall_const, ne_eq]
  refine AWPC.of_vc ?_; simp only [zS, vcC, exs, exd, pickV, alS, Al.ob, grd, ex, ov, gt, argE, strp, cnd, sideL, I.os, st, wrap, keep, binA, kseq, kblk, kret, klp, resL, res1, one, ocalls, obj, elems, cells, scalar, vs, pick1, fillA, splice, chop, eqC, Nat.reduceBEq, Nat.reduceAdd, Nat.reduceSub, Nat.reduceLT, Nat.reduceLeDiff, Nat.reduceMul, Nat.reduceEqDiff, cond_true, cond_false, if_true, if_false, reduceIte, implies_true, forall_const, ne_eq]
  refine ⟨fun hr => ?_, fun hr => ?_⟩
  · refine AWPC.of_vc ?_; simp only [zS, vcC, exs, exd, pickV, alS, Al.ob, grd, ex, ov, gt, argE, strp, cnd, sideL, I.os, st, wrap, keep, binA, kseq, kblk, kret, klp, resL, res1, one, ocalls, obj, elems, cells, scalar, vs, pick1, fillA, splice, chop, eqC, Nat.reduceBEq, Nat.reduceAdd, Nat.reduceSub, Nat.reduceLT, Nat.reduceLeDiff, Nat.reduceMul, Nat.reduceEqDiff, cond_true, cond_false, if_true, if_false, reduceIte, implies_true, forall_const, ne_eq]
    refine AWPC.of_vc ?_; simp only [zS, vcC, exs, exd, pickV, alS, Al.ob, grd, ex, ov, gt, argE, strp, cnd, sideL, I.os, st, wrap, keep, binA, kseq, kblk, kret, klp, resL, res1, one, ocalls, obj, elems, cells, scalar, vs, pick1, fillA, splice, chop, eqC, Nat.reduceBEq, Nat.reduceAdd, Nat.reduceSub, Nat.reduceLT, Nat.reduceLeDiff, Nat.reduceMul, Nat.reduceEqDiff, cond_true, cond_false, if_true, if_false, reduceIte, implies_true, forall_const, ne_eq]
    refine Frz.eq ?_ (by simp)
    rw [Pp.arc, if_pos hr]
  · have hr1 : 1 ≤ p.ra ∧ p.ra ≤ 4000000 := by omega
    have hd := tdiv_bd hm.1 hm.2 (show 1 ≤ 2 * p.ra by omega)
    refine AWPC.of_vc ?_; simp only [zS, vcC, exs, exd, pickV, alS, Al.ob, grd, ex, ov, gt, argE, strp, cnd, sideL, I.os, st, wrap, keep, binA, kseq, kblk, kret, klp, resL, res1, one, ocalls, obj, elems, cells, scalar, vs, pick1, fillA, splice, chop, eqC, Nat.reduceBEq, Nat.reduceAdd, Nat.reduceSub, Nat.reduceLT, Nat.reduceLeDiff, Nat.reduceMul, Nat.reduceEqDiff, cond_true, cond_false, if_true, if_false, reduceIte, implies_true, forall_const, ne_eq]
    (refine AWPC.of_vc ?_; simp only [zS, vcC, exs, exd, pickV, alS, Al.ob, grd, ex, ov, gt, argE, strp, cnd, sideL, I.os, st, wrap, keep, binA, kseq, kblk, kret, klp, resL, res1, one, ocalls, obj, elems, cells, scalar, vs, pick1, fillA, splice, chop, eqC, Nat.reduceBEq, Nat.reduceAdd, Nat.reduceSub, Nat.reduceLT, Nat.reduceLeDiff, Nat.reduceMul, Nat.reduceEqDiff, cond_true, cond_false, if_true, if_false, reduceIte, implies_true, forall_const, ne_eq, wr64 (p.he - y) (by omega) (by omega), wr64 (y * (p.he - y)) (by omega) (by omega), wr64 (2 * p.ra) (by omega) (by omega), wr64 ((y * (p.he - y)).tdiv (2 * p.ra)) (by omega) (by omega)])
    refine ⟨by omega, ?_⟩
    refine AWPC.of_vc ?_; simp only [zS, vcC, exs, exd, pickV, alS, Al.ob, grd, ex, ov, gt, argE, strp, cnd, sideL, I.os, st, wrap, keep, binA, kseq, kblk, kret, klp, resL, res1, one, ocalls, obj, elems, cells, scalar, vs, pick1, fillA, splice, chop, eqC, Nat.reduceBEq, Nat.reduceAdd, Nat.reduceSub, Nat.reduceLT, Nat.reduceLeDiff, Nat.reduceMul, Nat.reduceEqDiff, cond_true, cond_false, if_true, if_false, reduceIte, implies_true, forall_const, ne_eq]
    refine Frz.eq ?_ (by simp)
    rw [Pp.arc, if_neg hr]

theorem level_spec (p : Pp) (y : Int) (hg : p.good) (h0 : 0 ≤ y) (h1 : y ≤ p.he) : Pure Try.prog 75 [.agg p.cs, n y] (n (p.level y)) := by
  refine Pure.of_body Try.call75 Try.func75 k75 (Nat.le_of_ble_eq_true rfl) ?_
  unfold c75
  obtain ⟨g1, g2, g3, g4, g5, g6, g7, g8, g9, g10, g11, g12, g13⟩ := hg
  have hm := mul_bd h0 (show y ≤ 400000 by omega) (show 0 ≤ p.hi - p.lo by omega) (show p.hi - p.lo ≤ 12000 by omega)
  have hd := tdiv_bd hm.1 hm.2 (show 1 ≤ p.he by omega)
  refine AWPC.of_vc ?_; simp only [zS, vcC, exs, exd, pickV, alS, Al.ob, grd, ex, ov, gt, argE, strp, cnd, sideL, I.os, st, wrap, keep, binA, kseq, kblk, kret, klp, resL, res1, one, ocalls, obj, elems, cells, scalar, vs, pick1, fillA, splice, chop, eqC, Nat.reduceBEq, Nat.reduceAdd, Nat.reduceSub, Nat.reduceLT, Nat.reduceLeDiff, Nat.reduceMul, Nat.reduceEqDiff, cond_true, cond_false, if_true, if_false, reduceIte, implies_true, forall_const, ne_eq]
  (refine AWPC.of_vc ?_; simp only [zS, vcC, exs, exd, pickV, alS, Al.ob, grd, ex, ov, gt, argE, strp, cnd, sideL, I.os, st, wrap, keep, binA, kseq, kblk, kret, klp, resL, res1, one, ocalls, obj, elems, cells, scalar, vs, pick1, fillA, splice, chop, eqC, Nat.reduceBEq, Nat.reduceAdd, Nat.reduceSub, Nat.reduceLT, Nat.reduceLeDiff, Nat.reduceMul, Nat.reduceEqDiff, cond_true, cond_false, if_true, if_false, reduceIte, implies_true, forall_const, ne_eq, wr64 (p.hi - p.lo) (by omega) (by omega), wr64 (y * (p.hi - p.lo)) (by omega) (by omega), wr64 ((y * (p.hi - p.lo)).tdiv p.he) (by omega) (by omega), wr64 (p.lo + (y * (p.hi - p.lo)).tdiv p.he) (by omega) (by omega)])
  refine ⟨by omega, ?_⟩
  refine AWPC.of_vc ?_; simp only [zS, vcC, exs, exd, pickV, alS, Al.ob, grd, ex, ov, gt, argE, strp, cnd, sideL, I.os, st, wrap, keep, binA, kseq, kblk, kret, klp, resL, res1, one, ocalls, obj, elems, cells, scalar, vs, pick1, fillA, splice, chop, eqC, Nat.reduceBEq, Nat.reduceAdd, Nat.reduceSub, Nat.reduceLT, Nat.reduceLeDiff, Nat.reduceMul, Nat.reduceEqDiff, cond_true, cond_false, if_true, if_false, reduceIte, implies_true, forall_const, ne_eq]
  exact Frz.eq rfl (by simp)

theorem least_spec (p : Pp) (l : Int) (hg : p.good) (h0 : p.lo ≤ l) (h1 : l ≤ p.hi + 1) : Pure Try.prog 79 [.agg p.cs, n l] (n (p.least l)) := by
  refine Pure.of_body Try.call79 Try.func79 k79 (Nat.le_of_ble_eq_true rfl) ?_
  unfold c79
  obtain ⟨g1, g2, g3, g4, g5, g6, g7, g8, g9, g10, g11, g12, g13⟩ := hg
  have hm := mul_bd (show 0 ≤ l - p.lo by omega) (show l - p.lo ≤ 12001 by omega) (show 0 ≤ p.he by omega) (show p.he ≤ 400000 by omega)
  have hd := tdiv_bd (show 0 ≤ (l - p.lo) * p.he + p.hi - p.lo - 1 by omega) (show (l - p.lo) * p.he + p.hi - p.lo - 1 ≤ 12001 * 400000 + 12000 by omega) (show 1 ≤ p.hi - p.lo by omega)
  refine AWPC.of_vc ?_; simp only [zS, vcC, exs, exd, pickV, alS, Al.ob, grd, ex, ov, gt, argE, strp, cnd, sideL, I.os, st, wrap, keep, binA, kseq, kblk, kret, klp, resL, res1, one, ocalls, obj, elems, cells, scalar, vs, pick1, fillA, splice, chop, eqC, Nat.reduceBEq, Nat.reduceAdd, Nat.reduceSub, Nat.reduceLT, Nat.reduceLeDiff, Nat.reduceMul, Nat.reduceEqDiff, cond_true, cond_false, if_true, if_false, reduceIte, implies_true, forall_const, ne_eq]
  (refine AWPC.of_vc ?_; simp only [zS, vcC, exs, exd, pickV, alS, Al.ob, grd, ex, ov, gt, argE, strp, cnd, sideL, I.os, st, wrap, keep, binA, kseq, kblk, kret, klp, resL, res1, one, ocalls, obj, elems, cells, scalar, vs, pick1, fillA, splice, chop, eqC, Nat.reduceBEq, Nat.reduceAdd, Nat.reduceSub, Nat.reduceLT, Nat.reduceLeDiff, Nat.reduceMul, Nat.reduceEqDiff, cond_true, cond_false, if_true, if_false, reduceIte, implies_true, forall_const, ne_eq, wr64 (l - p.lo) (by omega) (by omega)])
  (refine AWPC.of_vc ?_; simp only [zS, vcC, exs, exd, pickV, alS, Al.ob, grd, ex, ov, gt, argE, strp, cnd, sideL, I.os, st, wrap, keep, binA, kseq, kblk, kret, klp, resL, res1, one, ocalls, obj, elems, cells, scalar, vs, pick1, fillA, splice, chop, eqC, Nat.reduceBEq, Nat.reduceAdd, Nat.reduceSub, Nat.reduceLT, Nat.reduceLeDiff, Nat.reduceMul, Nat.reduceEqDiff, cond_true, cond_false, if_true, if_false, reduceIte, implies_true, forall_const, ne_eq, wr64 ((l - p.lo) * p.he) (by omega) (by omega), wr64 ((l - p.lo) * p.he + p.hi) (by omega) (by omega), wr64 ((l - p.lo) * p.he + p.hi - p.lo) (by omega) (by omega), wr64 ((l - p.lo) * p.he + p.hi - p.lo - 1) (by omega) (by omega), wr64 (p.hi - p.lo) (by omega) (by omega), wr64 (((l - p.lo) * p.he + p.hi - p.lo - 1).tdiv (p.hi - p.lo)) (by omega) (by omega)])
  refine ⟨by omega, ?_⟩
  refine AWPC.of_vc ?_; simp only [zS, vcC, exs, exd, pickV, alS, Al.ob, grd, ex, ov, gt, argE, strp, cnd, sideL, I.os, st, wrap, keep, binA, kseq, kblk, kret, klp, resL, res1, one, ocalls, obj, elems, cells, scalar, vs, pick1, fillA, splice, chop, eqC, Nat.reduceBEq, Nat.reduceAdd, Nat.reduceSub, Nat.reduceLT, Nat.reduceLeDiff, Nat.reduceMul, Nat.reduceEqDiff, cond_true, cond_false, if_true, if_false, reduceIte, implies_true, forall_const, ne_eq]
  exact Frz.eq rfl (by simp)

def sample : Pp := ⟨100, 1000, 1000, 9600, 10600, 4, ⟨1000, 1000⟩, ⟨1000, 1000⟩⟩

theorem sample_spec : Pure Try.prog 68 [] (.agg sample.cs) := by
  refine Pure.of_body Try.call68 Try.func68 k68 (Nat.le_of_ble_eq_true rfl) ?_
  unfold c68
  refine AWPC.of_vc ?_; simp only [zS, vcC, exs, exd, pickV, alS, Al.ob, grd, ex, ov, gt, argE, strp, cnd, sideL, I.os, st, wrap, keep, binA, kseq, kblk, kret, klp, resL, res1, one, ocalls, obj, elems, cells, scalar, vs, pick1, fillA, splice, chop, eqC, Nat.reduceBEq, Nat.reduceAdd, Nat.reduceSub, Nat.reduceLT, Nat.reduceLeDiff, Nat.reduceMul, Nat.reduceEqDiff, cond_true, cond_false, if_true, if_false, reduceIte, implies_true, forall_const, ne_eq]
  refine AWPC.of_vc ?_; simp only [zS, vcC, exs, exd, pickV, alS, Al.ob, grd, ex, ov, gt, argE, strp, cnd, sideL, I.os, st, wrap, keep, binA, kseq, kblk, kret, klp, resL, res1, one, ocalls, obj, elems, cells, scalar, vs, pick1, fillA, splice, chop, eqC, Nat.reduceBEq, Nat.reduceAdd, Nat.reduceSub, Nat.reduceLT, Nat.reduceLeDiff, Nat.reduceMul, Nat.reduceEqDiff, cond_true, cond_false, if_true, if_false, reduceIte, implies_true, forall_const, ne_eq]
  refine AWPC.of_vc ?_; simp only [zS, vcC, exs, exd, pickV, alS, Al.ob, grd, ex, ov, gt, argE, strp, cnd, sideL, I.os, st, wrap, keep, binA, kseq, kblk, kret, klp, resL, res1, one, ocalls, obj, elems, cells, scalar, vs, pick1, fillA, splice, chop, eqC, Nat.reduceBEq, Nat.reduceAdd, Nat.reduceSub, Nat.reduceLT, Nat.reduceLeDiff, Nat.reduceMul, Nat.reduceEqDiff, cond_true, cond_false, if_true, if_false, reduceIte, implies_true, forall_const, ne_eq]
  refine AWPC.of_vc ?_; simp only [zS, vcC, exs, exd, pickV, alS, Al.ob, grd, ex, ov, gt, argE, strp, cnd, sideL, I.os, st, wrap, keep, binA, kseq, kblk, kret, klp, resL, res1, one, ocalls, obj, elems, cells, scalar, vs, pick1, fillA, splice, chop, eqC, Nat.reduceBEq, Nat.reduceAdd, Nat.reduceSub, Nat.reduceLT, Nat.reduceLeDiff, Nat.reduceMul, Nat.reduceEqDiff, cond_true, cond_false, if_true, if_false, reduceIte, implies_true, forall_const, ne_eq]
  exact Frz.eq rfl (by simp)

theorem at_spec (p : Pp) (y : Int) (f : Nat) (r : Int) (h : p.good → 0 ≤ y → y ≤ p.he → Pure Try.prog f [.agg p.cs, n y] (n r)) :
    Pure Try.prog 69 [.agg p.cs, n y, .fn (.func f) [] []] (.tup [n (if p.good ∧ 0 ≤ y ∧ y ≤ p.he then r else 0), n (if p.good then (if 0 ≤ y ∧ y ≤ p.he then 0 else 1) else 10)]) := by
  refine Pure.of_body Try.call69 Try.func69 k69 (Nat.le_of_ble_eq_true rfl) ?_
  unfold c69
  refine AWPC.of_vc ?_; simp only [zS, vcC, exs, exd, pickV, alS, Al.ob, grd, ex, ov, gt, argE, strp, cnd, sideL, I.os, st, wrap, keep, binA, kseq, kblk, kret, klp, resL, res1, one, ocalls, obj, elems, cells, scalar, vs, pick1, fillA, splice, chop, eqC, Nat.reduceBEq, Nat.reduceAdd, Nat.reduceSub, Nat.reduceLT, Nat.reduceLeDiff, Nat.reduceMul, Nat.reduceEqDiff, cond_true, cond_false, if_true, if_false, reduceIte, implies_true, forall_const, ne_eq]
  refine AWPC.of_vc ?_; simp only [zS, vcC, exs, exd, pickV, alS, Al.ob, grd, ex, ov, gt, argE, strp, cnd, sideL, I.os, st, wrap, keep, binA, kseq, kblk, kret, klp, resL, res1, one, ocalls, obj, elems, cells, scalar, vs, pick1, fillA, splice, chop, eqC, Nat.reduceBEq, Nat.reduceAdd, Nat.reduceSub, Nat.reduceLT, Nat.reduceLeDiff, Nat.reduceMul, Nat.reduceEqDiff, cond_true, cond_false, if_true, if_false, reduceIte, implies_true, forall_const, ne_eq]
  ((repeat (refine And.intro (by (intros; simp_all (config := { decide := false }); done)) ?_)); refine .inl ⟨_, _, _, _, rfl, fun _hc => ⟨by simp, read0_spec p⟩, ?_⟩; refine owp_of_exs ?_; simp only [zS, vcC, exs, exd, pickV, alS, Al.ob, grd, ex, ov, gt, argE, strp, cnd, sideL, I.os, st, wrap, keep, binA, kseq, kblk, kret, klp, resL, res1, one, ocalls, obj, elems, cells, scalar, vs, pick1, fillA, splice, chop, eqC, Nat.reduceBEq, Nat.reduceAdd, Nat.reduceSub, Nat.reduceLT, Nat.reduceLeDiff, Nat.reduceMul, Nat.reduceEqDiff, cond_true, cond_false, if_true, if_false, reduceIte, implies_true, forall_const, ne_eq])
  refine AWPC.of_vc ?_; simp only [zS, vcC, exs, exd, pickV, alS, Al.ob, grd, ex, ov, gt, argE, strp, cnd, sideL, I.os, st, wrap, keep, binA, kseq, kblk, kret, klp, resL, res1, one, ocalls, obj, elems, cells, scalar, vs, pick1, fillA, splice, chop, eqC, Nat.reduceBEq, Nat.reduceAdd, Nat.reduceSub, Nat.reduceLT, Nat.reduceLeDiff, Nat.reduceMul, Nat.reduceEqDiff, cond_true, cond_false, if_true, if_false, reduceIte, implies_true, forall_const, ne_eq]
  refine AWPC.of_vc ?_; simp only [zS, vcC, exs, exd, pickV, alS, Al.ob, grd, ex, ov, gt, argE, strp, cnd, sideL, I.os, st, wrap, keep, binA, kseq, kblk, kret, klp, resL, res1, one, ocalls, obj, elems, cells, scalar, vs, pick1, fillA, splice, chop, eqC, Nat.reduceBEq, Nat.reduceAdd, Nat.reduceSub, Nat.reduceLT, Nat.reduceLeDiff, Nat.reduceMul, Nat.reduceEqDiff, cond_true, cond_false, if_true, if_false, reduceIte, implies_true, forall_const, ne_eq]
  refine ⟨fun hg => ?_, fun hg => ?_⟩ <;> rw [err0] at hg
  · refine AWPC.of_vc ?_; simp only [zS, vcC, exs, exd, pickV, alS, Al.ob, grd, ex, ov, gt, argE, strp, cnd, sideL, I.os, st, wrap, keep, binA, kseq, kblk, kret, klp, resL, res1, one, ocalls, obj, elems, cells, scalar, vs, pick1, fillA, splice, chop, eqC, Nat.reduceBEq, Nat.reduceAdd, Nat.reduceSub, Nat.reduceLT, Nat.reduceLeDiff, Nat.reduceMul, Nat.reduceEqDiff, cond_true, cond_false, if_true, if_false, reduceIte, implies_true, forall_const, ne_eq]
    refine AWPC.of_vc ?_; simp only [zS, vcC, exs, exd, pickV, alS, Al.ob, grd, ex, ov, gt, argE, strp, cnd, sideL, I.os, st, wrap, keep, binA, kseq, kblk, kret, klp, resL, res1, one, ocalls, obj, elems, cells, scalar, vs, pick1, fillA, splice, chop, eqC, Nat.reduceBEq, Nat.reduceAdd, Nat.reduceSub, Nat.reduceLT, Nat.reduceLeDiff, Nat.reduceMul, Nat.reduceEqDiff, cond_true, cond_false, if_true, if_false, reduceIte, implies_true, forall_const, ne_eq]
    refine Frz.eq ?_ (by simp)
    rw [if_neg (fun h => hg h.1), if_neg hg, err1 hg]
  · refine AWPC.of_vc ?_; simp only [zS, vcC, exs, exd, pickV, alS, Al.ob, grd, ex, ov, gt, argE, strp, cnd, sideL, I.os, st, wrap, keep, binA, kseq, kblk, kret, klp, resL, res1, one, ocalls, obj, elems, cells, scalar, vs, pick1, fillA, splice, chop, eqC, Nat.reduceBEq, Nat.reduceAdd, Nat.reduceSub, Nat.reduceLT, Nat.reduceLeDiff, Nat.reduceMul, Nat.reduceEqDiff, cond_true, cond_false, if_true, if_false, reduceIte, implies_true, forall_const, ne_eq]
    rw [orz1 hg]
    ((repeat (refine And.intro (by (intros; simp_all (config := { decide := false }); done)) ?_)); refine .inl ⟨_, _, _, _, rfl, fun _hc => ⟨by simp, within_spec _ _ _⟩, ?_⟩; refine owp_of_exs ?_; simp only [zS, vcC, exs, exd, pickV, alS, Al.ob, grd, ex, ov, gt, argE, strp, cnd, sideL, I.os, st, wrap, keep, binA, kseq, kblk, kret, klp, resL, res1, one, ocalls, obj, elems, cells, scalar, vs, pick1, fillA, splice, chop, eqC, Nat.reduceBEq, Nat.reduceAdd, Nat.reduceSub, Nat.reduceLT, Nat.reduceLeDiff, Nat.reduceMul, Nat.reduceEqDiff, cond_true, cond_false, if_true, if_false, reduceIte, implies_true, forall_const, ne_eq])
    refine AWPC.of_vc ?_; simp only [zS, vcC, exs, exd, pickV, alS, Al.ob, grd, ex, ov, gt, argE, strp, cnd, sideL, I.os, st, wrap, keep, binA, kseq, kblk, kret, klp, resL, res1, one, ocalls, obj, elems, cells, scalar, vs, pick1, fillA, splice, chop, eqC, Nat.reduceBEq, Nat.reduceAdd, Nat.reduceSub, Nat.reduceLT, Nat.reduceLeDiff, Nat.reduceMul, Nat.reduceEqDiff, cond_true, cond_false, if_true, if_false, reduceIte, implies_true, forall_const, ne_eq]
    refine ⟨fun hy => ?_, fun hy => ?_⟩
    · refine AWPC.of_vc ?_; simp only [zS, vcC, exs, exd, pickV, alS, Al.ob, grd, ex, ov, gt, argE, strp, cnd, sideL, I.os, st, wrap, keep, binA, kseq, kblk, kret, klp, resL, res1, one, ocalls, obj, elems, cells, scalar, vs, pick1, fillA, splice, chop, eqC, Nat.reduceBEq, Nat.reduceAdd, Nat.reduceSub, Nat.reduceLT, Nat.reduceLeDiff, Nat.reduceMul, Nat.reduceEqDiff, cond_true, cond_false, if_true, if_false, reduceIte, implies_true, forall_const, ne_eq]
      refine AWPC.of_vc ?_; simp only [zS, vcC, exs, exd, pickV, alS, Al.ob, grd, ex, ov, gt, argE, strp, cnd, sideL, I.os, st, wrap, keep, binA, kseq, kblk, kret, klp, resL, res1, one, ocalls, obj, elems, cells, scalar, vs, pick1, fillA, splice, chop, eqC, Nat.reduceBEq, Nat.reduceAdd, Nat.reduceSub, Nat.reduceLT, Nat.reduceLeDiff, Nat.reduceMul, Nat.reduceEqDiff, cond_true, cond_false, if_true, if_false, reduceIte, implies_true, forall_const, ne_eq]
      refine Frz.eq ?_ (by simp)
      rw [if_neg (fun h => hy h.2), if_pos hg, if_neg hy]
    · refine AWPC.of_vc ?_; simp only [zS, vcC, exs, exd, pickV, alS, Al.ob, grd, ex, ov, gt, argE, strp, cnd, sideL, I.os, st, wrap, keep, binA, kseq, kblk, kret, klp, resL, res1, one, ocalls, obj, elems, cells, scalar, vs, pick1, fillA, splice, chop, eqC, Nat.reduceBEq, Nat.reduceAdd, Nat.reduceSub, Nat.reduceLT, Nat.reduceLeDiff, Nat.reduceMul, Nat.reduceEqDiff, cond_true, cond_false, if_true, if_false, reduceIte, implies_true, forall_const, ne_eq]
      refine AWPC.of_vc ?_; simp only [zS, vcC, exs, exd, pickV, alS, Al.ob, grd, ex, ov, gt, argE, strp, cnd, sideL, I.os, st, wrap, keep, binA, kseq, kblk, kret, klp, resL, res1, one, ocalls, obj, elems, cells, scalar, vs, pick1, fillA, splice, chop, eqC, Nat.reduceBEq, Nat.reduceAdd, Nat.reduceSub, Nat.reduceLT, Nat.reduceLeDiff, Nat.reduceMul, Nat.reduceEqDiff, cond_true, cond_false, if_true, if_false, reduceIte, implies_true, forall_const, ne_eq]
      ((repeat (refine And.intro (by (intros; simp_all (config := { decide := false }); done)) ?_)); refine .inl ⟨_, _, _, _, rfl, fun _hc => ⟨by simp, h hg hy.1 hy.2⟩, ?_⟩; refine owp_of_exs ?_; simp only [zS, vcC, exs, exd, pickV, alS, Al.ob, grd, ex, ov, gt, argE, strp, cnd, sideL, I.os, st, wrap, keep, binA, kseq, kblk, kret, klp, resL, res1, one, ocalls, obj, elems, cells, scalar, vs, pick1, fillA, splice, chop, eqC, Nat.reduceBEq, Nat.reduceAdd, Nat.reduceSub, Nat.reduceLT, Nat.reduceLeDiff, Nat.reduceMul, Nat.reduceEqDiff, cond_true, cond_false, if_true, if_false, reduceIte, implies_true, forall_const, ne_eq])
      refine AWPC.of_vc ?_; simp only [zS, vcC, exs, exd, pickV, alS, Al.ob, grd, ex, ov, gt, argE, strp, cnd, sideL, I.os, st, wrap, keep, binA, kseq, kblk, kret, klp, resL, res1, one, ocalls, obj, elems, cells, scalar, vs, pick1, fillA, splice, chop, eqC, Nat.reduceBEq, Nat.reduceAdd, Nat.reduceSub, Nat.reduceLT, Nat.reduceLeDiff, Nat.reduceMul, Nat.reduceEqDiff, cond_true, cond_false, if_true, if_false, reduceIte, implies_true, forall_const, ne_eq]
      refine Frz.eq ?_ (by simp)
      rw [if_pos ⟨hg, hy⟩, if_pos hg, if_pos hy]

abbrev Pp.yerr (p : Pp) (y : Int) : Int := if p.good then (if 0 ≤ y ∧ y ≤ p.he then 0 else 1) else 10

theorem Arc_spec (p : Pp) (y : Int) : Pure Try.prog 19 [.agg p.cs, n y] (.tup [n (if p.good ∧ 0 ≤ y ∧ y ≤ p.he then p.arc y else 0), n (p.yerr y)]) := by
  refine Pure.of_body Try.call19 Try.func19 k19 (Nat.le_of_ble_eq_true rfl) ?_
  unfold c19
  refine AWPC.of_vc ?_; simp only [zS, vcC, exs, exd, pickV, alS, Al.ob, grd, ex, ov, gt, argE, strp, cnd, sideL, I.os, st, wrap, keep, binA, kseq, kblk, kret, klp, resL, res1, one, ocalls, obj, elems, cells, scalar, vs, pick1, fillA, splice, chop, eqC, Nat.reduceBEq, Nat.reduceAdd, Nat.reduceSub, Nat.reduceLT, Nat.reduceLeDiff, Nat.reduceMul, Nat.reduceEqDiff, cond_true, cond_false, if_true, if_false, reduceIte, implies_true, forall_const, ne_eq]
  refine AWPC.of_vc ?_; simp only [zS, vcC, exs, exd, pickV, alS, Al.ob, grd, ex, ov, gt, argE, strp, cnd, sideL, I.os, st, wrap, keep, binA, kseq, kblk, kret, klp, resL, res1, one, ocalls, obj, elems, cells, scalar, vs, pick1, fillA, splice, chop, eqC, Nat.reduceBEq, Nat.reduceAdd, Nat.reduceSub, Nat.reduceLT, Nat.reduceLeDiff, Nat.reduceMul, Nat.reduceEqDiff, cond_true, cond_false, if_true, if_false, reduceIte, implies_true, forall_const, ne_eq]
  ((repeat (refine And.intro (by (intros; simp_all (config := { decide := false }); done)) ?_)); refine .inl ⟨_, _, _, _, rfl, fun _hc => ⟨by simp, at_spec p y 70 (p.arc y) (fun hg h0 h1 => arc_spec p y hg h0 h1)⟩, ?_⟩; refine owp_of_exs ?_; simp only [zS, vcC, exs, exd, pickV, alS, Al.ob, grd, ex, ov, gt, argE, strp, cnd, sideL, I.os, st, wrap, keep, binA, kseq, kblk, kret, klp, resL, res1, one, ocalls, obj, elems, cells, scalar, vs, pick1, fillA, splice, chop, eqC, Nat.reduceBEq, Nat.reduceAdd, Nat.reduceSub, Nat.reduceLT, Nat.reduceLeDiff, Nat.reduceMul, Nat.reduceEqDiff, cond_true, cond_false, if_true, if_false, reduceIte, implies_true, forall_const, ne_eq])
  refine AWPC.of_vc ?_; simp only [zS, vcC, exs, exd, pickV, alS, Al.ob, grd, ex, ov, gt, argE, strp, cnd, sideL, I.os, st, wrap, keep, binA, kseq, kblk, kret, klp, resL, res1, one, ocalls, obj, elems, cells, scalar, vs, pick1, fillA, splice, chop, eqC, Nat.reduceBEq, Nat.reduceAdd, Nat.reduceSub, Nat.reduceLT, Nat.reduceLeDiff, Nat.reduceMul, Nat.reduceEqDiff, cond_true, cond_false, if_true, if_false, reduceIte, implies_true, forall_const, ne_eq]
  exact Frz.eq rfl (by simp)

theorem Level_spec (p : Pp) (y : Int) : Pure Try.prog 24 [.agg p.cs, n y] (.tup [n (if p.good ∧ 0 ≤ y ∧ y ≤ p.he then p.level y else 0), n (p.yerr y)]) := by
  refine Pure.of_body Try.call24 Try.func24 k24 (Nat.le_of_ble_eq_true rfl) ?_
  unfold c24
  refine AWPC.of_vc ?_; simp only [zS, vcC, exs, exd, pickV, alS, Al.ob, grd, ex, ov, gt, argE, strp, cnd, sideL, I.os, st, wrap, keep, binA, kseq, kblk, kret, klp, resL, res1, one, ocalls, obj, elems, cells, scalar, vs, pick1, fillA, splice, chop, eqC, Nat.reduceBEq, Nat.reduceAdd, Nat.reduceSub, Nat.reduceLT, Nat.reduceLeDiff, Nat.reduceMul, Nat.reduceEqDiff, cond_true, cond_false, if_true, if_false, reduceIte, implies_true, forall_const, ne_eq]
  refine AWPC.of_vc ?_; simp only [zS, vcC, exs, exd, pickV, alS, Al.ob, grd, ex, ov, gt, argE, strp, cnd, sideL, I.os, st, wrap, keep, binA, kseq, kblk, kret, klp, resL, res1, one, ocalls, obj, elems, cells, scalar, vs, pick1, fillA, splice, chop, eqC, Nat.reduceBEq, Nat.reduceAdd, Nat.reduceSub, Nat.reduceLT, Nat.reduceLeDiff, Nat.reduceMul, Nat.reduceEqDiff, cond_true, cond_false, if_true, if_false, reduceIte, implies_true, forall_const, ne_eq]
  ((repeat (refine And.intro (by (intros; simp_all (config := { decide := false }); done)) ?_)); refine .inl ⟨_, _, _, _, rfl, fun _hc => ⟨by simp, at_spec p y 75 (p.level y) (fun hg h0 h1 => level_spec p y hg h0 h1)⟩, ?_⟩; refine owp_of_exs ?_; simp only [zS, vcC, exs, exd, pickV, alS, Al.ob, grd, ex, ov, gt, argE, strp, cnd, sideL, I.os, st, wrap, keep, binA, kseq, kblk, kret, klp, resL, res1, one, ocalls, obj, elems, cells, scalar, vs, pick1, fillA, splice, chop, eqC, Nat.reduceBEq, Nat.reduceAdd, Nat.reduceSub, Nat.reduceLT, Nat.reduceLeDiff, Nat.reduceMul, Nat.reduceEqDiff, cond_true, cond_false, if_true, if_false, reduceIte, implies_true, forall_const, ne_eq])
  refine AWPC.of_vc ?_; simp only [zS, vcC, exs, exd, pickV, alS, Al.ob, grd, ex, ov, gt, argE, strp, cnd, sideL, I.os, st, wrap, keep, binA, kseq, kblk, kret, klp, resL, res1, one, ocalls, obj, elems, cells, scalar, vs, pick1, fillA, splice, chop, eqC, Nat.reduceBEq, Nat.reduceAdd, Nat.reduceSub, Nat.reduceLT, Nat.reduceLeDiff, Nat.reduceMul, Nat.reduceEqDiff, cond_true, cond_false, if_true, if_false, reduceIte, implies_true, forall_const, ne_eq]
  exact Frz.eq rfl (by simp)

theorem least_bd (p : Pp) (l : Int) (hg : p.good) (h0 : p.lo ≤ l) (h1 : l ≤ p.hi + 1) : 0 ≤ p.least l ∧ p.least l ≤ 12001 * 400000 + 12000 := by
  obtain ⟨g1, g2, g3, g4, g5, g6, g7, g8, g9, g10, g11, g12, g13⟩ := hg
  have hm := mul_bd (show 0 ≤ l - p.lo by omega) (show l - p.lo ≤ 12001 by omega) (show 0 ≤ p.he by omega) (show p.he ≤ 400000 by omega)
  exact tdiv_bd (show 0 ≤ (l - p.lo) * p.he + p.hi - p.lo - 1 by omega) (show (l - p.lo) * p.he + p.hi - p.lo - 1 ≤ 12001 * 400000 + 12000 by omega) (show 1 ≤ p.hi - p.lo by omega)

theorem Heights_spec (p : Pp) (l : Int) : Pure Try.prog 26 [.agg p.cs, n l] (.tup [.agg (if p.good ∧ p.lo ≤ l ∧ l ≤ p.hi then [n (p.least l), n (min p.he (p.least (l + 1) - 1))] else [n 0, n 0]),
    n (if p.good then (if p.lo ≤ l ∧ l ≤ p.hi then 0 else 1) else 10)]) := by
  refine Pure.of_body Try.call26 Try.func26 k26 (Nat.le_of_ble_eq_true rfl) ?_
  unfold c26
  refine AWPC.of_vc ?_; simp only [zS, vcC, exs, exd, pickV, alS, Al.ob, grd, ex, ov, gt, argE, strp, cnd, sideL, I.os, st, wrap, keep, binA, kseq, kblk, kret, klp, resL, res1, one, ocalls, obj, elems, cells, scalar, vs, pick1, fillA, splice, chop, eqC, Nat.reduceBEq, Nat.reduceAdd, Nat.reduceSub, Nat.reduceLT, Nat.reduceLeDiff, Nat.reduceMul, Nat.reduceEqDiff, cond_true, cond_false, if_true, if_false, reduceIte, implies_true, forall_const, ne_eq]
  refine AWPC.of_vc ?_; simp only [zS, vcC, exs, exd, pickV, alS, Al.ob, grd, ex, ov, gt, argE, strp, cnd, sideL, I.os, st, wrap, keep, binA, kseq, kblk, kret, klp, resL, res1, one, ocalls, obj, elems, cells, scalar, vs, pick1, fillA, splice, chop, eqC, Nat.reduceBEq, Nat.reduceAdd, Nat.reduceSub, Nat.reduceLT, Nat.reduceLeDiff, Nat.reduceMul, Nat.reduceEqDiff, cond_true, cond_false, if_true, if_false, reduceIte, implies_true, forall_const, ne_eq]
  ((repeat (refine And.intro (by (intros; simp_all (config := { decide := false }); done)) ?_)); refine .inl ⟨_, _, _, _, rfl, fun _hc => ⟨by simp, read0_spec p⟩, ?_⟩; refine owp_of_exs ?_; simp only [zS, vcC, exs, exd, pickV, alS, Al.ob, grd, ex, ov, gt, argE, strp, cnd, sideL, I.os, st, wrap, keep, binA, kseq, kblk, kret, klp, resL, res1, one, ocalls, obj, elems, cells, scalar, vs, pick1, fillA, splice, chop, eqC, Nat.reduceBEq, Nat.reduceAdd, Nat.reduceSub, Nat.reduceLT, Nat.reduceLeDiff, Nat.reduceMul, Nat.reduceEqDiff, cond_true, cond_false, if_true, if_false, reduceIte, implies_true, forall_const, ne_eq])
  refine AWPC.of_vc ?_; simp only [zS, vcC, exs, exd, pickV, alS, Al.ob, grd, ex, ov, gt, argE, strp, cnd, sideL, I.os, st, wrap, keep, binA, kseq, kblk, kret, klp, resL, res1, one, ocalls, obj, elems, cells, scalar, vs, pick1, fillA, splice, chop, eqC, Nat.reduceBEq, Nat.reduceAdd, Nat.reduceSub, Nat.reduceLT, Nat.reduceLeDiff, Nat.reduceMul, Nat.reduceEqDiff, cond_true, cond_false, if_true, if_false, reduceIte, implies_true, forall_const, ne_eq]
  refine AWPC.of_vc ?_; simp only [zS, vcC, exs, exd, pickV, alS, Al.ob, grd, ex, ov, gt, argE, strp, cnd, sideL, I.os, st, wrap, keep, binA, kseq, kblk, kret, klp, resL, res1, one, ocalls, obj, elems, cells, scalar, vs, pick1, fillA, splice, chop, eqC, Nat.reduceBEq, Nat.reduceAdd, Nat.reduceSub, Nat.reduceLT, Nat.reduceLeDiff, Nat.reduceMul, Nat.reduceEqDiff, cond_true, cond_false, if_true, if_false, reduceIte, implies_true, forall_const, ne_eq]
  refine ⟨fun hg => ?_, fun hg => ?_⟩ <;> rw [err0] at hg
  · refine AWPC.of_vc ?_; simp only [zS, vcC, exs, exd, pickV, alS, Al.ob, grd, ex, ov, gt, argE, strp, cnd, sideL, I.os, st, wrap, keep, binA, kseq, kblk, kret, klp, resL, res1, one, ocalls, obj, elems, cells, scalar, vs, pick1, fillA, splice, chop, eqC, Nat.reduceBEq, Nat.reduceAdd, Nat.reduceSub, Nat.reduceLT, Nat.reduceLeDiff, Nat.reduceMul, Nat.reduceEqDiff, cond_true, cond_false, if_true, if_false, reduceIte, implies_true, forall_const, ne_eq]
    refine AWPC.of_vc ?_; simp only [zS, vcC, exs, exd, pickV, alS, Al.ob, grd, ex, ov, gt, argE, strp, cnd, sideL, I.os, st, wrap, keep, binA, kseq, kblk, kret, klp, resL, res1, one, ocalls, obj, elems, cells, scalar, vs, pick1, fillA, splice, chop, eqC, Nat.reduceBEq, Nat.reduceAdd, Nat.reduceSub, Nat.reduceLT, Nat.reduceLeDiff, Nat.reduceMul, Nat.reduceEqDiff, cond_true, cond_false, if_true, if_false, reduceIte, implies_true, forall_const, ne_eq]
    refine Frz.eq ?_ (by simp)
    rw [if_neg (fun h => hg h.1), if_neg hg, err1 hg]
  · refine AWPC.of_vc ?_; simp only [zS, vcC, exs, exd, pickV, alS, Al.ob, grd, ex, ov, gt, argE, strp, cnd, sideL, I.os, st, wrap, keep, binA, kseq, kblk, kret, klp, resL, res1, one, ocalls, obj, elems, cells, scalar, vs, pick1, fillA, splice, chop, eqC, Nat.reduceBEq, Nat.reduceAdd, Nat.reduceSub, Nat.reduceLT, Nat.reduceLeDiff, Nat.reduceMul, Nat.reduceEqDiff, cond_true, cond_false, if_true, if_false, reduceIte, implies_true, forall_const, ne_eq]
    rw [orz1 hg]
    ((repeat (refine And.intro (by (intros; simp_all (config := { decide := false }); done)) ?_)); refine .inl ⟨_, _, _, _, rfl, fun _hc => ⟨by simp, within_spec _ _ _⟩, ?_⟩; refine owp_of_exs ?_; simp only [zS, vcC, exs, exd, pickV, alS, Al.ob, grd, ex, ov, gt, argE, strp, cnd, sideL, I.os, st, wrap, keep, binA, kseq, kblk, kret, klp, resL, res1, one, ocalls, obj, elems, cells, scalar, vs, pick1, fillA, splice, chop, eqC, Nat.reduceBEq, Nat.reduceAdd, Nat.reduceSub, Nat.reduceLT, Nat.reduceLeDiff, Nat.reduceMul, Nat.reduceEqDiff, cond_true, cond_false, if_true, if_false, reduceIte, implies_true, forall_const, ne_eq])
    refine AWPC.of_vc ?_; simp only [zS, vcC, exs, exd, pickV, alS, Al.ob, grd, ex, ov, gt, argE, strp, cnd, sideL, I.os, st, wrap, keep, binA, kseq, kblk, kret, klp, resL, res1, one, ocalls, obj, elems, cells, scalar, vs, pick1, fillA, splice, chop, eqC, Nat.reduceBEq, Nat.reduceAdd, Nat.reduceSub, Nat.reduceLT, Nat.reduceLeDiff, Nat.reduceMul, Nat.reduceEqDiff, cond_true, cond_false, if_true, if_false, reduceIte, implies_true, forall_const, ne_eq]
    refine ⟨fun hy => ?_, fun hy => ?_⟩
    · refine AWPC.of_vc ?_; simp only [zS, vcC, exs, exd, pickV, alS, Al.ob, grd, ex, ov, gt, argE, strp, cnd, sideL, I.os, st, wrap, keep, binA, kseq, kblk, kret, klp, resL, res1, one, ocalls, obj, elems, cells, scalar, vs, pick1, fillA, splice, chop, eqC, Nat.reduceBEq, Nat.reduceAdd, Nat.reduceSub, Nat.reduceLT, Nat.reduceLeDiff, Nat.reduceMul, Nat.reduceEqDiff, cond_true, cond_false, if_true, if_false, reduceIte, implies_true, forall_const, ne_eq]
      refine AWPC.of_vc ?_; simp only [zS, vcC, exs, exd, pickV, alS, Al.ob, grd, ex, ov, gt, argE, strp, cnd, sideL, I.os, st, wrap, keep, binA, kseq, kblk, kret, klp, resL, res1, one, ocalls, obj, elems, cells, scalar, vs, pick1, fillA, splice, chop, eqC, Nat.reduceBEq, Nat.reduceAdd, Nat.reduceSub, Nat.reduceLT, Nat.reduceLeDiff, Nat.reduceMul, Nat.reduceEqDiff, cond_true, cond_false, if_true, if_false, reduceIte, implies_true, forall_const, ne_eq]
      refine Frz.eq ?_ (by simp)
      rw [if_neg (fun h => hy h.2), if_pos hg, if_neg hy]
    · have hb := hg
      obtain ⟨g1, g2, g3, g4, g5, g6, g7, g8, g9, g10, g11, g12, g13⟩ := hb
      have hl := least_bd p (l + 1) hg (by omega) (by omega)
      refine AWPC.of_vc ?_; simp only [zS, vcC, exs, exd, pickV, alS, Al.ob, grd, ex, ov, gt, argE, strp, cnd, sideL, I.os, st, wrap, keep, binA, kseq, kblk, kret, klp, resL, res1, one, ocalls, obj, elems, cells, scalar, vs, pick1, fillA, splice, chop, eqC, Nat.reduceBEq, Nat.reduceAdd, Nat.reduceSub, Nat.reduceLT, Nat.reduceLeDiff, Nat.reduceMul, Nat.reduceEqDiff, cond_true, cond_false, if_true, if_false, reduceIte, implies_true, forall_const, ne_eq]
      refine AWPC.of_vc ?_; simp only [zS, vcC, exs, exd, pickV, alS, Al.ob, grd, ex, ov, gt, argE, strp, cnd, sideL, I.os, st, wrap, keep, binA, kseq, kblk, kret, klp, resL, res1, one, ocalls, obj, elems, cells, scalar, vs, pick1, fillA, splice, chop, eqC, Nat.reduceBEq, Nat.reduceAdd, Nat.reduceSub, Nat.reduceLT, Nat.reduceLeDiff, Nat.reduceMul, Nat.reduceEqDiff, cond_true, cond_false, if_true, if_false, reduceIte, implies_true, forall_const, ne_eq]
      (refine ⟨_, _, _, _, rfl, fun _hc => ⟨by simp, least_spec p l hg (by omega) (by omega)⟩, ?_⟩; refine pre_of_exd ?_; simp only [zS, vcC, exs, exd, pickV, alS, Al.ob, grd, ex, ov, gt, argE, strp, cnd, sideL, I.os, st, wrap, keep, binA, kseq, kblk, kret, klp, resL, res1, one, ocalls, obj, elems, cells, scalar, vs, pick1, fillA, splice, chop, eqC, Nat.reduceBEq, Nat.reduceAdd, Nat.reduceSub, Nat.reduceLT, Nat.reduceLeDiff, Nat.reduceMul, Nat.reduceEqDiff, cond_true, cond_false, if_true, if_false, reduceIte, implies_true, forall_const, ne_eq])
      rw [wr64 (l + 1) (by omega) (by omega)]
      (refine ⟨_, _, _, _, rfl, fun _hc => ⟨by simp, least_spec p (l + 1) hg (by omega) (by omega)⟩, ?_⟩; refine pre_of_exd ?_; simp only [zS, vcC, exs, exd, pickV, alS, Al.ob, grd, ex, ov, gt, argE, strp, cnd, sideL, I.os, st, wrap, keep, binA, kseq, kblk, kret, klp, resL, res1, one, ocalls, obj, elems, cells, scalar, vs, pick1, fillA, splice, chop, eqC, Nat.reduceBEq, Nat.reduceAdd, Nat.reduceSub, Nat.reduceLT, Nat.reduceLeDiff, Nat.reduceMul, Nat.reduceEqDiff, cond_true, cond_false, if_true, if_false, reduceIte, implies_true, forall_const, ne_eq])
      refine AWPC.of_vc ?_; simp only [zS, vcC, exs, exd, pickV, alS, Al.ob, grd, ex, ov, gt, argE, strp, cnd, sideL, I.os, st, wrap, keep, binA, kseq, kblk, kret, klp, resL, res1, one, ocalls, obj, elems, cells, scalar, vs, pick1, fillA, splice, chop, eqC, Nat.reduceBEq, Nat.reduceAdd, Nat.reduceSub, Nat.reduceLT, Nat.reduceLeDiff, Nat.reduceMul, Nat.reduceEqDiff, cond_true, cond_false, if_true, if_false, reduceIte, implies_true, forall_const, ne_eq]
      rw [wr64 _ (by omega) (by omega)]
      refine Frz.eq ?_ (by simp)
      rw [if_pos ⟨hg, hy⟩, if_pos hg, if_pos hy]
end Go.Proofs.Ytgpdckmbojmlpaa
