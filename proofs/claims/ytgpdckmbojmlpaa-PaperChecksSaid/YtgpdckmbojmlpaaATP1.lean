import Derived.Test.YtgpdckmbojmlpaaAZ
import Derived.Test.YtgpdckmbojmlpaaRows
namespace Go.Proofs.Ytgpdckmbojmlpaa
open Go.Abs
set_option linter.unusedVariables false
set_option linter.unusedSimpArgs false
set_option maxHeartbeats 4000000
set_option maxRecDepth 100000
-- aneroid/paper.within[int]
def c72 : CF := ⟨15,
 (.seq (.ops [
 ⟨(some 6), .mv (.c (.bool false)), none⟩] [0, 1, 2])
 (.seq (.ops [
 ⟨(some 7), .mv (.t 0), none⟩,
 ⟨(some 8), .mv (.t 1), none⟩,
 ⟨(some 9), .bin .geq (.t 7) (.t 8), none⟩,
 ⟨(some 10), .mv (.t 9), none⟩,
 ⟨(some 11), .mv (.t 0), (some (10, true))⟩,
 ⟨(some 12), .mv (.t 2), (some (10, true))⟩,
 ⟨(some 13), .bin .leq (.t 11) (.t 12), (some (10, true))⟩,
 ⟨(some 14), .pick (.t 10) (.t 13) (.c (.bool false)), none⟩,
 ⟨(some 6), .mv (.t 14), none⟩] [6])
 .ret)),
 [.t 6]⟩
-- aneroid/paper.shrinks
def c98 : CF := ⟨13,
 (.seq (.ops [
 ⟨(some 1), .box false 23 2 (.t 0), none⟩,
 ⟨(some 2), .mv (.c (.bool false)), none⟩] [1])
 (.seq (.ops [
 ⟨(some 3), .faddr 0 (.t 1), none⟩,
 ⟨(some 4), .load none (.t 3), none⟩,
 ⟨(some 5), .faddr 1 (.t 1), none⟩,
 ⟨(some 6), .load none (.t 5), none⟩,
 ⟨(some 7), .call (.f 72) [(.t 4), (.c (.int .i64 900)), (.t 6)], none⟩,
 ⟨(some 8), .mv (.t 7), none⟩,
 ⟨(some 9), .faddr 1 (.t 1), (some (8, true))⟩,
 ⟨(some 10), .load none (.t 9), (some (8, true))⟩,
 ⟨(some 11), .bin .leq (.t 10) (.c (.int .i64 1100)), (some (8, true))⟩,
 ⟨(some 12), .pick (.t 8) (.t 11) (.c (.bool false)), none⟩,
 ⟨(some 2), .mv (.t 12), none⟩] [2])
 .ret)),
 [.t 2]⟩
-- aneroid/paper.CheckPaper
def c52 : CF := ⟨74,
 (.seq (.ops [
 ⟨(some 1), .box false 25 10 (.t 0), none⟩,
 ⟨(some 2), .mv (.c (.int .i64 0)), none⟩] [1])
 (.seq (.ops [
 ⟨(some 5), .faddr 0 (.t 1), none⟩,
 ⟨(some 6), .load none (.t 5), none⟩,
 ⟨(some 7), .call (.f 72) [(.t 6), (.c (.int .i64 1)), (.c (.int .i64 10000))], none⟩,
 ⟨(some 8), .mv (.t 7), none⟩,
 ⟨(some 9), .faddr 1 (.t 1), (some (8, true))⟩,
 ⟨(some 10), .load none (.t 9), (some (8, true))⟩,
 ⟨(some 11), .call (.f 72) [(.t 10), (.c (.int .i64 1)), (.c (.int .i64 400000))], (some (8, true))⟩,
 ⟨(some 12), .pick (.t 8) (.t 11) (.c (.bool false)), none⟩,
 ⟨(some 13), .mv (.t 12), none⟩,
 ⟨(some 14), .faddr 2 (.t 1), (some (13, true))⟩,
 ⟨(some 15), .load none (.t 14), (some (13, true))⟩,
 ⟨(some 16), .bin .eql (.t 15) (.c (.int .i64 0)), (some (13, true))⟩,
 ⟨(some 17), .mv (.t 16), (some (13, true))⟩,
 ⟨(some 18), .faddr 2 (.t 1), (some (17, false))⟩,
 ⟨(some 19), .load none (.t 18), (some (17, false))⟩,
 ⟨(some 20), .faddr 1 (.t 1), (some (17, false))⟩,
 ⟨(some 21), .load none (.t 20), (some (17, false))⟩,
 ⟨(some 22), .call (.f 72) [(.t 19), (.t 21), (.c (.int .i64 4000000))], (some (17, false))⟩,
 ⟨(some 23), .pick (.t 17) (.c (.bool true)) (.t 22), (some (13, true))⟩,
 ⟨(some 24), .pick (.t 13) (.t 23) (.c (.bool false)), none⟩,
 ⟨(some 3), .mv (.t 24), none⟩] [1, 3])
 (.seq (.ops [
 ⟨(some 25), .faddr 3 (.t 1), none⟩,
 ⟨(some 26), .load none (.t 25), none⟩,
 ⟨(some 27), .bin .geq (.t 26) (.c (.int .i64 0)), none⟩,
 ⟨(some 28), .mv (.t 27), none⟩,
 ⟨(some 29), .faddr 3 (.t 1), (some (28, true))⟩,
 ⟨(some 30), .load none (.t 29), (some (28, true))⟩,
 ⟨(some 31), .faddr 4 (.t 1), (some (28, true))⟩,
 ⟨(some 32), .load none (.t 31), (some (28, true))⟩,
 ⟨(some 33), .bin .lss (.t 30) (.t 32), (some (28, true))⟩,
 ⟨(some 34), .pick (.t 28) (.t 33) (.c (.bool false)), none⟩,
 ⟨(some 35), .mv (.t 34), none⟩,
 ⟨(some 36), .faddr 4 (.t 1), (some (35, true))⟩,
 ⟨(some 37), .load none (.t 36), (some (35, true))⟩,
 ⟨(some 38), .bin .leq (.t 37) (.c (.int .i64 12000)), (some (35, true))⟩,
 ⟨(some 39), .pick (.t 35) (.t 38) (.c (.bool false)), none⟩,
 ⟨(some 40), .mv (.t 39), none⟩,
 ⟨(some 41), .faddr 4 (.t 1), (some (40, true))⟩,
 ⟨(some 42), .load none (.t 41), (some (40, true))⟩,
 ⟨(some 43), .faddr 3 (.t 1), (some (40, true))⟩,
 ⟨(some 44), .load none (.t 43), (some (40, true))⟩,
 ⟨(some 45), .bin .sub (.t 42) (.t 44), (some (40, true))⟩,
 ⟨(some 46), .faddr 1 (.t 1), (some (40, true))⟩,
 ⟨(some 47), .load none (.t 46), (some (40, true))⟩,
 ⟨(some 48), .bin .leq (.t 45) (.t 47), (some (40, true))⟩,
 ⟨(some 49), .pick (.t 40) (.t 48) (.c (.bool false)), none⟩,
 ⟨(some 4), .mv (.t 49), none⟩] [1, 3, 4])
 (.seq (.seq (.ops [
 ⟨(some 50), .mv (.t 3), none⟩,
 ⟨(some 51), .un .not (.t 50), none⟩,
 ⟨(some 52), .mv (.t 51), none⟩,
 ⟨(some 53), .mv (.t 4), (some (52, false))⟩,
 ⟨(some 54), .un .not (.t 53), (some (52, false))⟩,
 ⟨(some 55), .pick (.t 52) (.c (.bool true)) (.t 54), none⟩,
 ⟨(some 56), .mv (.t 55), none⟩,
 ⟨(some 57), .faddr 5 (.t 1), (some (56, false))⟩,
 ⟨(some 58), .load none (.t 57), (some (56, false))⟩,
 ⟨(some 59), .call (.f 72) [(.t 58), (.c (.int .i64 1)), (.c (.int .i64 200))], (some (56, false))⟩,
 ⟨(some 60), .un .not (.t 59), (some (56, false))⟩,
 ⟨(some 61), .pick (.t 56) (.c (.bool true)) (.t 60), none⟩,
 ⟨(some 62), .mv (.t 61), none⟩,
 ⟨(some 63), .faddr 6 (.t 1), (some (62, false))⟩,
 ⟨(some 64), .load (some 2) (.t 63), (some (62, false))⟩,
 ⟨(some 65), .call (.f 98) [(.t 64)], (some (62, false))⟩,
 ⟨(some 66), .un .not (.t 65), (some (62, false))⟩,
 ⟨(some 67), .pick (.t 62) (.c (.bool true)) (.t 66), none⟩,
 ⟨(some 68), .mv (.t 67), none⟩,
 ⟨(some 69), .faddr 8 (.t 1), (some (68, false))⟩,
 ⟨(some 70), .load (some 2) (.t 69), (some (68, false))⟩,
 ⟨(some 71), .call (.f 98) [(.t 70)], (some (68, false))⟩,
 ⟨(some 72), .un .not (.t 71), (some (68, false))⟩,
 ⟨(some 73), .pick (.t 68) (.c (.bool true)) (.t 72), none⟩] [73])
 (.cond (.t 73) (.seq (.ops [
 ⟨(some 2), .mv (.c (.int .i64 10)), none⟩] [2])
 .ret)
 .skip))
 (.seq (.ops [
 ⟨(some 2), .mv (.c (.int .i64 0)), none⟩] [2])
 .ret))))),
 [.t 2]⟩
-- aneroid/paper.CheckTrace
def c46 : CF := ⟨34,
 (.seq (.ops [
 ⟨(some 2), .mv (.c (.int .i64 0)), none⟩,
 ⟨(some 3), .mv (.c (.int .i64 0)), none⟩] [0])
 (.seq (.seq (.ops [
 ⟨(some 6), .mv (.t 0), none⟩,
 ⟨(some 7), .len (.t 6), none⟩,
 ⟨(some 8), .bin .gtr (.t 7) (.c (.int .i64 2000)), none⟩] [0, 8])
 (.cond (.t 8) (.seq (.ops [
 ⟨(some 2), .mv (.c (.int .i64 2)), none⟩,
 ⟨(some 3), .mv (.c (.int .i64 0)), none⟩] [2, 3])
 .ret)
 .skip))
 (.seq (.seq (.ops [
 ⟨(some 9), .mv (.t 0), none⟩,
 ⟨(some 10), .len (.t 9), none⟩,
 ⟨(some 11), .mv (.c (.int .i64 0)), none⟩] [9, 10, 11])
 (.block 0 (.loop (.seq (.ops [
 ⟨(some 12), .bin .lss (.t 11) (.t 10), none⟩] [9, 10, 11, 12])
 (.seq (.cond (.t 12) .skip
 (.exit 0))
 (.seq (.block 1 (.seq (.ops [
 ⟨(some 13), .mv (.t 11), none⟩,
 ⟨(some 14), .iaddr 3 (.t 9) (.t 11), none⟩,
 ⟨(some 15), .load (some 3) (.t 14), none⟩,
 ⟨(some 5), .alloc 32 3 [.int .i64 0, .int .i64 0, .int .i64 0], none⟩,
 ⟨(some 4), .mv (.t 13), none⟩,
 ⟨none, .store 3 (.t 5) (.t 15), none⟩] [4, 5, 9, 10, 11])
 (.seq (.ops [
 ⟨(some 16), .faddr 0 (.t 5), none⟩,
 ⟨(some 17), .load none (.t 16), none⟩,
 ⟨(some 18), .call (.f 72) [(.t 17), (.c (.int .i64 0)), (.c (.int .i64 400000))], none⟩,
 ⟨(some 19), .un .not (.t 18), none⟩,
 ⟨(some 20), .mv (.t 19), none⟩,
 ⟨(some 21), .faddr 1 (.t 5), (some (20, false))⟩,
 ⟨(some 22), .load none (.t 21), (some (20, false))⟩,
 ⟨(some 23), .call (.f 72) [(.t 22), (.c (.int .i64 0)), (.c (.int .i64 400000))], (some (20, false))⟩,
 ⟨(some 24), .un .not (.t 23), (some (20, false))⟩,
 ⟨(some 25), .pick (.t 20) (.c (.bool true)) (.t 24), none⟩,
 ⟨(some 26), .mv (.t 25), none⟩,
 ⟨(some 27), .faddr 2 (.t 5), (some (26, false))⟩,
 ⟨(some 28), .load none (.t 27), (some (26, false))⟩,
 ⟨(some 29), .call (.f 72) [(.t 28), (.c (.int .i64 0)), (.c (.int .i64 5000))], (some (26, false))⟩,
 ⟨(some 30), .un .not (.t 29), (some (26, false))⟩,
 ⟨(some 31), .pick (.t 26) (.c (.bool true)) (.t 30), none⟩] [4, 9, 10, 11, 31])
 (.cond (.t 31) (.seq (.ops [
 ⟨(some 32), .mv (.t 4), none⟩,
 ⟨(some 2), .mv (.c (.int .i64 11)), none⟩,
 ⟨(some 3), .mv (.t 32), none⟩] [2, 3])
 .ret)
 .skip))))
 (.ops [
 ⟨(some 33), .bin .add (.t 11) (.c (.int .i64 1)), none⟩,
 ⟨(some 11), .mv (.t 33), none⟩] [9, 10, 11])))))))
 (.seq (.ops [
 ⟨(some 2), .mv (.c (.int .i64 0)), none⟩,
 ⟨(some 3), .mv (.c (.int .i64 0)), none⟩] [2, 3])
 .ret)))),
 [.t 2, .t 3]⟩

structure Pp where
  pi : Int
  he : Int
  ra : Int
  lo : Int
  hi : Int
  co : Int
  al : Sp
  cl : Sp
  deriving DecidableEq

abbrev Pp.cs (p : Pp) : List AV := [n p.pi, n p.he, n p.ra, n p.lo, n p.hi, n p.co, n p.al.lo, n p.al.hi, n p.cl.lo, n p.cl.hi]

theorem k72 : chkF Try.prog Try.f72 c72 = true := by kernel_rfl
theorem k98 : chkF Try.prog Try.f98 c98 = true := by kernel_rfl
theorem k52 : chkF Try.prog Try.f52 c52 = true := by kernel_rfl

theorem within_spec (a b c : Int) : Pure Try.prog 72 [n a, n b, n c] (bl (decide (b ≤ a ∧ a ≤ c))) := by
  refine Pure.of_body Try.call72 Try.func72 k72 (Nat.le_of_ble_eq_true rfl) ?_
  unfold c72
  refine AWPC.of_vc ?_; simp only [zS, vcC, exs, exd, pickV, alS, Al.ob, grd, ex, ov, gt, argE, strp, cnd, sideL, I.os, st, wrap, keep, binA, kseq, kblk, kret, klp, resL, res1, one, ocalls, obj, elems, cells, scalar, vs, pick1, fillA, splice, chop, eqC, Nat.reduceBEq, Nat.reduceAdd, Nat.reduceSub, Nat.reduceLT, Nat.reduceLeDiff, Nat.reduceMul, Nat.reduceEqDiff, cond_true, cond_false, if_true, if_false, reduceIte, implies_true, forall_const, ne_eq]
  refine AWPC.of_vc ?_; simp only [zS, vcC, exs, exd, pickV, alS, Al.ob, grd, ex, ov, gt, argE, strp, cnd, sideL, I.os, st, wrap, keep, binA, kseq, kblk, kret, klp, resL, res1, one, ocalls, obj, elems, cells, scalar, vs, pick1, fillA, splice, chop, eqC, Nat.reduceBEq, Nat.reduceAdd, Nat.reduceSub, Nat.reduceLT, Nat.reduceLeDiff, Nat.reduceMul, Nat.reduceEqDiff, cond_true, cond_false, if_true, if_false, reduceIte, implies_true, forall_const, ne_eq]
  refine AWPC.of_vc ?_; simp only [zS, vcC, exs, exd, pickV, alS, Al.ob, grd, ex, ov, gt, argE, strp, cnd, sideL, I.os, st, wrap, keep, binA, kseq, kblk, kret, klp, resL, res1, one, ocalls, obj, elems, cells, scalar, vs, pick1, fillA, splice, chop, eqC, Nat.reduceBEq, Nat.reduceAdd, Nat.reduceSub, Nat.reduceLT, Nat.reduceLeDiff, Nat.reduceMul, Nat.reduceEqDiff, cond_true, cond_false, if_true, if_false, reduceIte, implies_true, forall_const, ne_eq]
  exact Frz.eq rfl (by simp)


theorem shrinks_spec (s : Sp) : Pure Try.prog 98 [.agg s.cs] (bl (decide s.ok)) := by
  refine Pure.of_body Try.call98 Try.func98 k98 (Nat.le_of_ble_eq_true rfl) ?_
  unfold c98
  refine AWPC.of_vc ?_; simp only [zS, vcC, exs, exd, pickV, alS, Al.ob, grd, ex, ov, gt, argE, strp, cnd, sideL, I.os, st, wrap, keep, binA, kseq, kblk, kret, klp, resL, res1, one, ocalls, obj, elems, cells, scalar, vs, pick1, fillA, splice, chop, eqC, Nat.reduceBEq, Nat.reduceAdd, Nat.reduceSub, Nat.reduceLT, Nat.reduceLeDiff, Nat.reduceMul, Nat.reduceEqDiff, cond_true, cond_false, if_true, if_false, reduceIte, implies_true, forall_const, ne_eq]
  refine AWPC.of_vc ?_; simp only [zS, vcC, exs, exd, pickV, alS, Al.ob, grd, ex, ov, gt, argE, strp, cnd, sideL, I.os, st, wrap, keep, binA, kseq, kblk, kret, klp, resL, res1, one, ocalls, obj, elems, cells, scalar, vs, pick1, fillA, splice, chop, eqC, Nat.reduceBEq, Nat.reduceAdd, Nat.reduceSub, Nat.reduceLT, Nat.reduceLeDiff, Nat.reduceMul, Nat.reduceEqDiff, cond_true, cond_false, if_true, if_false, reduceIte, implies_true, forall_const, ne_eq]
  ((repeat (refine And.intro (by (intros; simp_all (config := { decide := false }); done)) ?_)); refine .inl ⟨_, _, _, _, rfl, fun _hc => ⟨by simp, within_spec _ _ _⟩, ?_⟩; refine owp_of_exs ?_; simp only [zS, vcC, exs, exd, pickV, alS, Al.ob, grd, ex, ov, gt, argE, strp, cnd, sideL, I.os, st, wrap, keep, binA, kseq, kblk, kret, klp, resL, res1, one, ocalls, obj, elems, cells, scalar, vs, pick1, fillA, splice, chop, eqC, Nat.reduceBEq, Nat.reduceAdd, Nat.reduceSub, Nat.reduceLT, Nat.reduceLeDiff, Nat.reduceMul, Nat.reduceEqDiff, cond_true, cond_false, if_true, if_false, reduceIte, implies_true, forall_const, ne_eq])
  refine AWPC.of_vc ?_; simp only [zS, vcC, exs, exd, pickV, alS, Al.ob, grd, ex, ov, gt, argE, strp, cnd, sideL, I.os, st, wrap, keep, binA, kseq, kblk, kret, klp, resL, res1, one, ocalls, obj, elems, cells, scalar, vs, pick1, fillA, splice, chop, eqC, Nat.reduceBEq, Nat.reduceAdd, Nat.reduceSub, Nat.reduceLT, Nat.reduceLeDiff, Nat.reduceMul, Nat.reduceEqDiff, cond_true, cond_false, if_true, if_false, reduceIte, implies_true, forall_const, ne_eq]
  refine Frz.eq ?_ (by simp)
  congr 2
  rw [decide_eq_decide]; omega

def Pp.good (p : Pp) : Prop := 1 ≤ p.pi ∧ p.pi ≤ 10000 ∧ 1 ≤ p.he ∧ p.he ≤ 400000 ∧ (p.ra = 0 ∨ p.he ≤ p.ra ∧ p.ra ≤ 4000000) ∧ 0 ≤ p.lo ∧ p.lo < p.hi ∧ p.hi ≤ 12000 ∧ p.hi - p.lo ≤ p.he ∧
  1 ≤ p.co ∧ p.co ≤ 200 ∧ p.al.ok ∧ p.cl.ok

instance (p : Pp) : Decidable p.good := by unfold Pp.good; infer_instance

abbrev Pp.err (p : Pp) : Int := if p.good then 0 else 10

theorem checkPaper_spec (p : Pp) : Pure Try.prog 52 [.agg p.cs] (n p.err) := by
  refine Pure.of_body Try.call52 Try.func52 k52 (Nat.le_of_ble_eq_true rfl) ?_
  unfold c52
  refine AWPC.of_vc ?_; simp only [zS, vcC, exs, exd, pickV, alS, Al.ob, grd, ex, ov, gt, argE, strp, cnd, sideL, I.os, st, wrap, keep, binA, kseq, kblk, kret, klp, resL, res1, one, ocalls, obj, elems, cells, scalar, vs, pick1, fillA, splice, chop, eqC, Nat.reduceBEq, Nat.reduceAdd, Nat.reduceSub, Nat.reduceLT, Nat.reduceLeDiff, Nat.reduceMul, Nat.reduceEqDiff, cond_true, cond_false, if_true, if_false, reduceIte, implies_true, forall_const, ne_eq]
  refine AWPC.of_vc ?_; simp only [zS, vcC, exs, exd, pickV, alS, Al.ob, grd, ex, ov, gt, argE, strp, cnd, sideL, I.os, st, wrap, keep, binA, kseq, kblk, kret, klp, resL, res1, one, ocalls, obj, elems, cells, scalar, vs, pick1, fillA, splice, chop, eqC, Nat.reduceBEq, Nat.reduceAdd, Nat.reduceSub, Nat.reduceLT, Nat.reduceLeDiff, Nat.reduceMul, Nat.reduceEqDiff, cond_true, cond_false, if_true, if_false, reduceIte, implies_true, forall_const, ne_eq]
  ((repeat (refine And.intro (by (intros; simp_all (config := { decide := false }); done)) ?_)); refine .inl ⟨_, _, _, _, rfl, fun _hc => ⟨by simp, within_spec _ _ _⟩, ?_⟩; refine owp_of_exs ?_; simp only [zS, vcC, exs, exd, pickV, alS, Al.ob, grd, ex, ov, gt, argE, strp, cnd, sideL, I.os, st, wrap, keep, binA, kseq, kblk, kret, klp, resL, res1, one, ocalls, obj, elems, cells, scalar, vs, pick1, fillA, splice, chop, eqC, Nat.reduceBEq, Nat.reduceAdd, Nat.reduceSub, Nat.reduceLT, Nat.reduceLeDiff, Nat.reduceMul, Nat.reduceEqDiff, cond_true, cond_false, if_true, if_false, reduceIte, implies_true, forall_const, ne_eq])
  ((repeat (refine And.intro (by (intros; simp_all (config := { decide := false }); done)) ?_)); refine .inl ⟨_, _, _, _, rfl, fun _hc => ⟨by simp, within_spec _ _ _⟩, ?_⟩; refine owp_of_exs ?_; simp only [zS, vcC, exs, exd, pickV, alS, Al.ob, grd, ex, ov, gt, argE, strp, cnd, sideL, I.os, st, wrap, keep, binA, kseq, kblk, kret, klp, resL, res1, one, ocalls, obj, elems, cells, scalar, vs, pick1, fillA, splice, chop, eqC, Nat.reduceBEq, Nat.reduceAdd, Nat.reduceSub, Nat.reduceLT, Nat.reduceLeDiff, Nat.reduceMul, Nat.reduceEqDiff, cond_true, cond_false, if_true, if_false, reduceIte, implies_true, forall_const, ne_eq])
  ((repeat (refine And.intro (by (intros; simp_all (config := { decide := false }); done)) ?_)); refine .inl ⟨_, _, _, _, rfl, fun _hc => ⟨by simp, within_spec _ _ _⟩, ?_⟩; refine owp_of_exs ?_; simp only [zS, vcC, exs, exd, pickV, alS, Al.ob, grd, ex, ov, gt, argE, strp, cnd, sideL, I.os, st, wrap, keep, binA, kseq, kblk, kret, klp, resL, res1, one, ocalls, obj, elems, cells, scalar, vs, pick1, fillA, splice, chop, eqC, Nat.reduceBEq, Nat.reduceAdd, Nat.reduceSub, Nat.reduceLT, Nat.reduceLeDiff, Nat.reduceMul, Nat.reduceEqDiff, cond_true, cond_false, if_true, if_false, reduceIte, implies_true, forall_const, ne_eq])
  (repeat (refine And.intro (by (intros; simp_all (config := { decide := false }); done)) ?_))
  refine AWPC.of_vc ?_; simp only [zS, vcC, exs, exd, pickV, alS, Al.ob, grd, ex, ov, gt, argE, strp, cnd, sideL, I.os, st, wrap, keep, binA, kseq, kblk, kret, klp, resL, res1, one, ocalls, obj, elems, cells, scalar, vs, pick1, fillA, splice, chop, eqC, Nat.reduceBEq, Nat.reduceAdd, Nat.reduceSub, Nat.reduceLT, Nat.reduceLeDiff, Nat.reduceMul, Nat.reduceEqDiff, cond_true, cond_false, if_true, if_false, reduceIte, implies_true, forall_const, ne_eq]
  refine AWPC.of_vc ?_; simp only [zS, vcC, exs, exd, pickV, alS, Al.ob, grd, ex, ov, gt, argE, strp, cnd, sideL, I.os, st, wrap, keep, binA, kseq, kblk, kret, klp, resL, res1, one, ocalls, obj, elems, cells, scalar, vs, pick1, fillA, splice, chop, eqC, Nat.reduceBEq, Nat.reduceAdd, Nat.reduceSub, Nat.reduceLT, Nat.reduceLeDiff, Nat.reduceMul, Nat.reduceEqDiff, cond_true, cond_false, if_true, if_false, reduceIte, implies_true, forall_const, ne_eq]
  ((repeat (refine And.intro (by (intros; simp_all (config := { decide := false }); done)) ?_)); refine .inl ⟨_, _, _, _, rfl, fun _hc => ⟨by simp, within_spec _ _ _⟩, ?_⟩; refine owp_of_exs ?_; simp only [zS, vcC, exs, exd, pickV, alS, Al.ob, grd, ex, ov, gt, argE, strp, cnd, sideL, I.os, st, wrap, keep, binA, kseq, kblk, kret, klp, resL, res1, one, ocalls, obj, elems, cells, scalar, vs, pick1, fillA, splice, chop, eqC, Nat.reduceBEq, Nat.reduceAdd, Nat.reduceSub, Nat.reduceLT, Nat.reduceLeDiff, Nat.reduceMul, Nat.reduceEqDiff, cond_true, cond_false, if_true, if_false, reduceIte, implies_true, forall_const, ne_eq])
  ((repeat (refine And.intro (by (intros; simp_all (config := { decide := false }); done)) ?_)); refine .inl ⟨_, _, _, _, rfl, fun _hc => ⟨by simp, shrinks_spec p.al⟩, ?_⟩; refine owp_of_exs ?_; simp only [zS, vcC, exs, exd, pickV, alS, Al.ob, grd, ex, ov, gt, argE, strp, cnd, sideL, I.os, st, wrap, keep, binA, kseq, kblk, kret, klp, resL, res1, one, ocalls, obj, elems, cells, scalar, vs, pick1, fillA, splice, chop, eqC, Nat.reduceBEq, Nat.reduceAdd, Nat.reduceSub, Nat.reduceLT, Nat.reduceLeDiff, Nat.reduceMul, Nat.reduceEqDiff, cond_true, cond_false, if_true, if_false, reduceIte, implies_true, forall_const, ne_eq])
  ((repeat (refine And.intro (by (intros; simp_all (config := { decide := false }); done)) ?_)); refine .inl ⟨_, _, _, _, rfl, fun _hc => ⟨by simp, shrinks_spec p.cl⟩, ?_⟩; refine owp_of_exs ?_; simp only [zS, vcC, exs, exd, pickV, alS, Al.ob, grd, ex, ov, gt, argE, strp, cnd, sideL, I.os, st, wrap, keep, binA, kseq, kblk, kret, klp, resL, res1, one, ocalls, obj, elems, cells, scalar, vs, pick1, fillA, splice, chop, eqC, Nat.reduceBEq, Nat.reduceAdd, Nat.reduceSub, Nat.reduceLT, Nat.reduceLeDiff, Nat.reduceMul, Nat.reduceEqDiff, cond_true, cond_false, if_true, if_false, reduceIte, implies_true, forall_const, ne_eq])
  refine AWPC.of_vc ?_; simp only [zS, vcC, exs, exd, pickV, alS, Al.ob, grd, ex, ov, gt, argE, strp, cnd, sideL, I.os, st, wrap, keep, binA, kseq, kblk, kret, klp, resL, res1, one, ocalls, obj, elems, cells, scalar, vs, pick1, fillA, splice, chop, eqC, Nat.reduceBEq, Nat.reduceAdd, Nat.reduceSub, Nat.reduceLT, Nat.reduceLeDiff, Nat.reduceMul, Nat.reduceEqDiff, cond_true, cond_false, if_true, if_false, reduceIte, implies_true, forall_const, ne_eq]
  refine ⟨fun h => ?_, fun h => ?_⟩
  · refine AWPC.of_vc ?_; simp only [zS, vcC, exs, exd, pickV, alS, Al.ob, grd, ex, ov, gt, argE, strp, cnd, sideL, I.os, st, wrap, keep, binA, kseq, kblk, kret, klp, resL, res1, one, ocalls, obj, elems, cells, scalar, vs, pick1, fillA, splice, chop, eqC, Nat.reduceBEq, Nat.reduceAdd, Nat.reduceSub, Nat.reduceLT, Nat.reduceLeDiff, Nat.reduceMul, Nat.reduceEqDiff, cond_true, cond_false, if_true, if_false, reduceIte, implies_true, forall_const, ne_eq]
    refine AWPC.of_vc ?_; simp only [zS, vcC, exs, exd, pickV, alS, Al.ob, grd, ex, ov, gt, argE, strp, cnd, sideL, I.os, st, wrap, keep, binA, kseq, kblk, kret, klp, resL, res1, one, ocalls, obj, elems, cells, scalar, vs, pick1, fillA, splice, chop, eqC, Nat.reduceBEq, Nat.reduceAdd, Nat.reduceSub, Nat.reduceLT, Nat.reduceLeDiff, Nat.reduceMul, Nat.reduceEqDiff, cond_true, cond_false, if_true, if_false, reduceIte, implies_true, forall_const, ne_eq]
    refine Frz.eq ?_ (by simp)
    rw [Pp.err, if_neg]
    rintro ⟨g1, g2, g3, g4, g5, g6, g7, g8, g9, g10, g11, g12, g13⟩
    rw [wr64 _ (by omega) (by omega)] at h
    omega
  · refine AWPC.of_vc ?_; simp only [zS, vcC, exs, exd, pickV, alS, Al.ob, grd, ex, ov, gt, argE, strp, cnd, sideL, I.os, st, wrap, keep, binA, kseq, kblk, kret, klp, resL, res1, one, ocalls, obj, elems, cells, scalar, vs, pick1, fillA, splice, chop, eqC, Nat.reduceBEq, Nat.reduceAdd, Nat.reduceSub, Nat.reduceLT, Nat.reduceLeDiff, Nat.reduceMul, Nat.reduceEqDiff, cond_true, cond_false, if_true, if_false, reduceIte, implies_true, forall_const, ne_eq]
    refine AWPC.of_vc ?_; simp only [zS, vcC, exs, exd, pickV, alS, Al.ob, grd, ex, ov, gt, argE, strp, cnd, sideL, I.os, st, wrap, keep, binA, kseq, kblk, kret, klp, resL, res1, one, ocalls, obj, elems, cells, scalar, vs, pick1, fillA, splice, chop, eqC, Nat.reduceBEq, Nat.reduceAdd, Nat.reduceSub, Nat.reduceLT, Nat.reduceLeDiff, Nat.reduceMul, Nat.reduceEqDiff, cond_true, cond_false, if_true, if_false, reduceIte, implies_true, forall_const, ne_eq]
    refine AWPC.of_vc ?_; simp only [zS, vcC, exs, exd, pickV, alS, Al.ob, grd, ex, ov, gt, argE, strp, cnd, sideL, I.os, st, wrap, keep, binA, kseq, kblk, kret, klp, resL, res1, one, ocalls, obj, elems, cells, scalar, vs, pick1, fillA, splice, chop, eqC, Nat.reduceBEq, Nat.reduceAdd, Nat.reduceSub, Nat.reduceLT, Nat.reduceLeDiff, Nat.reduceMul, Nat.reduceEqDiff, cond_true, cond_false, if_true, if_false, reduceIte, implies_true, forall_const, ne_eq]
    refine Frz.eq ?_ (by simp)
    rw [Pp.err, if_pos]
    simp only [not_or, Decidable.not_not] at h
    obtain ⟨⟨⟨⟨h1, h2⟩, h3⟩, h4⟩, h5⟩ := h
    rw [wr64 _ (by omega) (by omega)] at h2
    unfold Pp.good
    exact ⟨by omega, by omega, by omega, by omega, by omega, by omega, by omega, by omega, by omega, by omega, by omega, h4, h5⟩

structure Pt where
  x : Int
  y : Int
  h : Int
  deriving DecidableEq

abbrev Pt.cs (p : Pt) : List AV := [n p.x, n p.y, n p.h]
abbrev Pt.right (p : Pt) : Prop := 0 ≤ p.x ∧ p.x ≤ 400000 ∧ 0 ≤ p.y ∧ p.y ≤ 400000 ∧ 0 ≤ p.h ∧ p.h ≤ 5000

/-- What is wrong with points first. -/
def bad (pts : List Pt) (i : Nat) : Int × Int :=
  match pts with
  | [] => (0, 0)
  | p :: r => if p.right then bad r (i + 1) else (11, i)

def traceErr (pts : List Pt) : Int × Int := if 2000 < pts.length then (2, 0) else bad pts 0

abbrev ptS (pts : List Pt) : AV := .sl 3 (pts.map Pt.cs)

theorem k46 : chkF Try.prog Try.f46 c46 = true := by kernel_rfl

theorem checkTrace_spec (pts : List Pt) (hlen : pts.length < 1000000000) : Pure Try.prog 46 [ptS pts] (.tup [n (traceErr pts).1, n (traceErr pts).2]) := by
  refine Pure.of_body Try.call46 Try.func46 k46 (Nat.le_of_ble_eq_true rfl) ?_
  unfold c46
  refine AWPC.of_vc ?_; simp only [zS, vcC, exs, exd, pickV, alS, Al.ob, grd, ex, ov, gt, argE, strp, cnd, sideL, I.os, st, wrap, keep, binA, kseq, kblk, kret, klp, resL, res1, one, ocalls, obj, elems, cells, scalar, vs, pick1, fillA, splice, chop, eqC, Nat.reduceBEq, Nat.reduceAdd, Nat.reduceSub, Nat.reduceLT, Nat.reduceLeDiff, Nat.reduceMul, Nat.reduceEqDiff, cond_true, cond_false, if_true, if_false, reduceIte, implies_true, forall_const, ne_eq]
  refine AWPC.of_vc ?_; simp only [zS, vcC, exs, exd, pickV, alS, Al.ob, grd, ex, ov, gt, argE, strp, cnd, sideL, I.os, st, wrap, keep, binA, kseq, kblk, kret, klp, resL, res1, one, ocalls, obj, elems, cells, scalar, vs, pick1, fillA, splice, chop, eqC, Nat.reduceBEq, Nat.reduceAdd, Nat.reduceSub, Nat.reduceLT, Nat.reduceLeDiff, Nat.reduceMul, Nat.reduceEqDiff, cond_true, cond_false, if_true, if_false, reduceIte, implies_true, forall_const, ne_eq]
  refine AWPC.of_vc ?_; simp only [zS, vcC, exs, exd, pickV, alS, Al.ob, grd, ex, ov, gt, argE, strp, cnd, sideL, I.os, st, wrap, keep, binA, kseq, kblk, kret, klp, resL, res1, one, ocalls, obj, elems, cells, scalar, vs, pick1, fillA, splice, chop, eqC, Nat.reduceBEq, Nat.reduceAdd, Nat.reduceSub, Nat.reduceLT, Nat.reduceLeDiff, Nat.reduceMul, Nat.reduceEqDiff, cond_true, cond_false, if_true, if_false, reduceIte, implies_true, forall_const, ne_eq]
  refine ⟨fun h => ?_, fun h => ?_⟩
  · refine AWPC.of_vc ?_; simp only [zS, vcC, exs, exd, pickV, alS, Al.ob, grd, ex, ov, gt, argE, strp, cnd, sideL, I.os, st, wrap, keep, binA, kseq, kblk, kret, klp, resL, res1, one, ocalls, obj, elems, cells, scalar, vs, pick1, fillA, splice, chop, eqC, Nat.reduceBEq, Nat.reduceAdd, Nat.reduceSub, Nat.reduceLT, Nat.reduceLeDiff, Nat.reduceMul, Nat.reduceEqDiff, cond_true, cond_false, if_true, if_false, reduceIte, implies_true, forall_const, ne_eq]
    refine AWPC.of_vc ?_; simp only [zS, vcC, exs, exd, pickV, alS, Al.ob, grd, ex, ov, gt, argE, strp, cnd, sideL, I.os, st, wrap, keep, binA, kseq, kblk, kret, klp, resL, res1, one, ocalls, obj, elems, cells, scalar, vs, pick1, fillA, splice, chop, eqC, Nat.reduceBEq, Nat.reduceAdd, Nat.reduceSub, Nat.reduceLT, Nat.reduceLeDiff, Nat.reduceMul, Nat.reduceEqDiff, cond_true, cond_false, if_true, if_false, reduceIte, implies_true, forall_const, ne_eq]
    refine Frz.eq ?_ (by simp)
    have h' : 2000 < pts.length := by simp at h; omega
    simp [traceErr, h']
  · refine AWPC.of_vc ?_; simp only [zS, vcC, exs, exd, pickV, alS, Al.ob, grd, ex, ov, gt, argE, strp, cnd, sideL, I.os, st, wrap, keep, binA, kseq, kblk, kret, klp, resL, res1, one, ocalls, obj, elems, cells, scalar, vs, pick1, fillA, splice, chop, eqC, Nat.reduceBEq, Nat.reduceAdd, Nat.reduceSub, Nat.reduceLT, Nat.reduceLeDiff, Nat.reduceMul, Nat.reduceEqDiff, cond_true, cond_false, if_true, if_false, reduceIte, implies_true, forall_const, ne_eq]
    have h' : ¬ 2000 < pts.length := by simp at h; omega
    refine AWPC.of_vc ?_; simp only [zS, vcC, exs, exd, pickV, alS, Al.ob, grd, ex, ov, gt, argE, strp, cnd, sideL, I.os, st, wrap, keep, binA, kseq, kblk, kret, klp, resL, res1, one, ocalls, obj, elems, cells, scalar, vs, pick1, fillA, splice, chop, eqC, Nat.reduceBEq, Nat.reduceAdd, Nat.reduceSub, Nat.reduceLT, Nat.reduceLeDiff, Nat.reduceMul, Nat.reduceEqDiff, cond_true, cond_false, if_true, if_false, reduceIte, implies_true, forall_const, ne_eq]
    refine AWPC.of_vc ?_; simp only [zS, vcC, exs, exd, pickV, alS, Al.ob, grd, ex, ov, gt, argE, strp, cnd, sideL, I.os, st, wrap, keep, binA, kseq, kblk, kret, klp, resL, res1, one, ocalls, obj, elems, cells, scalar, vs, pick1, fillA, splice, chop, eqC, Nat.reduceBEq, Nat.reduceAdd, Nat.reduceSub, Nat.reduceLT, Nat.reduceLeDiff, Nat.reduceMul, Nat.reduceEqDiff, cond_true, cond_false, if_true, if_false, reduceIte, implies_true, forall_const, ne_eq]
    refine AWPC.loop (α := { x : Nat × Sto // x.1 ≤ pts.length ∧ bad (pts.drop x.1) x.1 = bad pts 0 }) (fun x => ([(9, ptS pts), (10, n pts.length), (11, n x.1.1)], x.1.2)) (fun x => pts.length - x.1.1) ⟨(0, []), by simp, by simp⟩ ?_ rfl ?_
    · simp only [zS, vcC, exs, exd, pickV, alS, Al.ob, grd, ex, ov, gt, argE, strp, cnd, sideL, I.os, st, wrap, keep, binA, kseq, kblk, kret, klp, resL, res1, one, ocalls, obj, elems, cells, scalar, vs, pick1, fillA, splice, chop, eqC, Nat.reduceBEq, Nat.reduceAdd, Nat.reduceSub, Nat.reduceLT, Nat.reduceLeDiff, Nat.reduceMul, Nat.reduceEqDiff, cond_true, cond_false, if_true, if_false, reduceIte, implies_true, forall_const, ne_eq]; try simp
    · rintro ⟨⟨i, τ⟩, hi, hb⟩
      simp only at hi hb
      refine AWPC.of_vc ?_; simp only [zS, vcC, exs, exd, pickV, alS, Al.ob, grd, ex, ov, gt, argE, strp, cnd, sideL, I.os, st, wrap, keep, binA, kseq, kblk, kret, klp, resL, res1, one, ocalls, obj, elems, cells, scalar, vs, pick1, fillA, splice, chop, eqC, Nat.reduceBEq, Nat.reduceAdd, Nat.reduceSub, Nat.reduceLT, Nat.reduceLeDiff, Nat.reduceMul, Nat.reduceEqDiff, cond_true, cond_false, if_true, if_false, reduceIte, implies_true, forall_const, ne_eq]
      refine AWPC.of_vc ?_; simp only [zS, vcC, exs, exd, pickV, alS, Al.ob, grd, ex, ov, gt, argE, strp, cnd, sideL, I.os, st, wrap, keep, binA, kseq, kblk, kret, klp, resL, res1, one, ocalls, obj, elems, cells, scalar, vs, pick1, fillA, splice, chop, eqC, Nat.reduceBEq, Nat.reduceAdd, Nat.reduceSub, Nat.reduceLT, Nat.reduceLeDiff, Nat.reduceMul, Nat.reduceEqDiff, cond_true, cond_false, if_true, if_false, reduceIte, implies_true, forall_const, ne_eq]
      refine ⟨fun hlt => ?_, fun hge => ?_⟩
      · have hlt' : i < pts.length := by omega
        obtain ⟨p, hp⟩ : ∃ p, pts[i]? = some p := ⟨_, List.getElem?_eq_getElem hlt'⟩
        refine AWPC.of_vc ?_; simp only [zS, vcC, exs, exd, pickV, alS, Al.ob, grd, ex, ov, gt, argE, strp, cnd, sideL, I.os, st, wrap, keep, binA, kseq, kblk, kret, klp, resL, res1, one, ocalls, obj, elems, cells, scalar, vs, pick1, fillA, splice, chop, eqC, Nat.reduceBEq, Nat.reduceAdd, Nat.reduceSub, Nat.reduceLT, Nat.reduceLeDiff, Nat.reduceMul, Nat.reduceEqDiff, cond_true, cond_false, if_true, if_false, reduceIte, implies_true, forall_const, ne_eq]
        (refine AWPC.of_vc ?_; simp only [zS, vcC, exs, exd, pickV, alS, Al.ob, grd, ex, ov, gt, argE, strp, cnd, sideL, I.os, st, wrap, keep, binA, kseq, kblk, kret, klp, resL, res1, one, ocalls, obj, elems, cells, scalar, vs, pick1, fillA, splice, chop, eqC, Nat.reduceBEq, Nat.reduceAdd, Nat.reduceSub, Nat.reduceLT, Nat.reduceLeDiff, Nat.reduceMul, Nat.reduceEqDiff, cond_true, cond_false, if_true, if_false, reduceIte, implies_true, forall_const, ne_eq, getD_map hp])
        refine ⟨⟨by omega, by simpa using hlt'⟩, ?_⟩
        refine AWPC.of_vc ?_; simp only [zS, vcC, exs, exd, pickV, alS, Al.ob, grd, ex, ov, gt, argE, strp, cnd, sideL, I.os, st, wrap, keep, binA, kseq, kblk, kret, klp, resL, res1, one, ocalls, obj, elems, cells, scalar, vs, pick1, fillA, splice, chop, eqC, Nat.reduceBEq, Nat.reduceAdd, Nat.reduceSub, Nat.reduceLT, Nat.reduceLeDiff, Nat.reduceMul, Nat.reduceEqDiff, cond_true, cond_false, if_true, if_false, reduceIte, implies_true, forall_const, ne_eq]
        ((repeat (refine And.intro (by (intros; simp_all (config := { decide := false }); done)) ?_)); refine .inl ⟨_, _, _, _, rfl, fun _hc => ⟨by simp, within_spec _ _ _⟩, ?_⟩; refine owp_of_exs ?_; simp only [zS, vcC, exs, exd, pickV, alS, Al.ob, grd, ex, ov, gt, argE, strp, cnd, sideL, I.os, st, wrap, keep, binA, kseq, kblk, kret, klp, resL, res1, one, ocalls, obj, elems, cells, scalar, vs, pick1, fillA, splice, chop, eqC, Nat.reduceBEq, Nat.reduceAdd, Nat.reduceSub, Nat.reduceLT, Nat.reduceLeDiff, Nat.reduceMul, Nat.reduceEqDiff, cond_true, cond_false, if_true, if_false, reduceIte, implies_true, forall_const, ne_eq])
        ((repeat (refine And.intro (by (intros; simp_all (config := { decide := false }); done)) ?_)); refine .inl ⟨_, _, _, _, rfl, fun _hc => ⟨by simp, within_spec _ _ _⟩, ?_⟩; refine owp_of_exs ?_; simp only [zS, vcC, exs, exd, pickV, alS, Al.ob, grd, ex, ov, gt, argE, strp, cnd, sideL, I.os, st, wrap, keep, binA, kseq, kblk, kret, klp, resL, res1, one, ocalls, obj, elems, cells, scalar, vs, pick1, fillA, splice, chop, eqC, Nat.reduceBEq, Nat.reduceAdd, Nat.reduceSub, Nat.reduceLT, Nat.reduceLeDiff, Nat.reduceMul, Nat.reduceEqDiff, cond_true, cond_false, if_true, if_false, reduceIte, implies_true, forall_const, ne_eq])
        ((repeat (refine And.intro (by (intros; simp_all (config := { decide := false }); done)) ?_)); refine .inl ⟨_, _, _, _, rfl, fun _hc => ⟨by simp, within_spec _ _ _⟩, ?_⟩; refine owp_of_exs ?_; simp only [zS, vcC, exs, exd, pickV, alS, Al.ob, grd, ex, ov, gt, argE, strp, cnd, sideL, I.os, st, wrap, keep, binA, kseq, kblk, kret, klp, resL, res1, one, ocalls, obj, elems, cells, scalar, vs, pick1, fillA, splice, chop, eqC, Nat.reduceBEq, Nat.reduceAdd, Nat.reduceSub, Nat.reduceLT, Nat.reduceLeDiff, Nat.reduceMul, Nat.reduceEqDiff, cond_true, cond_false, if_true, if_false, reduceIte, implies_true, forall_const, ne_eq])
        refine AWPC.of_vc ?_; simp only [zS, vcC, exs, exd, pickV, alS, Al.ob, grd, ex, ov, gt, argE, strp, cnd, sideL, I.os, st, wrap, keep, binA, kseq, kblk, kret, klp, resL, res1, one, ocalls, obj, elems, cells, scalar, vs, pick1, fillA, splice, chop, eqC, Nat.reduceBEq, Nat.reduceAdd, Nat.reduceSub, Nat.reduceLT, Nat.reduceLeDiff, Nat.reduceMul, Nat.reduceEqDiff, cond_true, cond_false, if_true, if_false, reduceIte, implies_true, forall_const, ne_eq]
        have hd := drop_cons hp
        refine ⟨fun hbad => ?_, fun hgood => ?_⟩
        · refine AWPC.of_vc ?_; simp only [zS, vcC, exs, exd, pickV, alS, Al.ob, grd, ex, ov, gt, argE, strp, cnd, sideL, I.os, st, wrap, keep, binA, kseq, kblk, kret, klp, resL, res1, one, ocalls, obj, elems, cells, scalar, vs, pick1, fillA, splice, chop, eqC, Nat.reduceBEq, Nat.reduceAdd, Nat.reduceSub, Nat.reduceLT, Nat.reduceLeDiff, Nat.reduceMul, Nat.reduceEqDiff, cond_true, cond_false, if_true, if_false, reduceIte, implies_true, forall_const, ne_eq]
          refine AWPC.of_vc ?_; simp only [zS, vcC, exs, exd, pickV, alS, Al.ob, grd, ex, ov, gt, argE, strp, cnd, sideL, I.os, st, wrap, keep, binA, kseq, kblk, kret, klp, resL, res1, one, ocalls, obj, elems, cells, scalar, vs, pick1, fillA, splice, chop, eqC, Nat.reduceBEq, Nat.reduceAdd, Nat.reduceSub, Nat.reduceLT, Nat.reduceLeDiff, Nat.reduceMul, Nat.reduceEqDiff, cond_true, cond_false, if_true, if_false, reduceIte, implies_true, forall_const, ne_eq]
          refine Frz.eq ?_ (by simp)
          rw [hd, bad, if_neg (by omega)] at hb
          simp [traceErr, h', ← hb]
        · rw [hd, bad, if_pos (by omega)] at hb
          refine AWPC.of_vc ?_; simp only [zS, vcC, exs, exd, pickV, alS, Al.ob, grd, ex, ov, gt, argE, strp, cnd, sideL, I.os, st, wrap, keep, binA, kseq, kblk, kret, klp, resL, res1, one, ocalls, obj, elems, cells, scalar, vs, pick1, fillA, splice, chop, eqC, Nat.reduceBEq, Nat.reduceAdd, Nat.reduceSub, Nat.reduceLT, Nat.reduceLeDiff, Nat.reduceMul, Nat.reduceEqDiff, cond_true, cond_false, if_true, if_false, reduceIte, implies_true, forall_const, ne_eq]
          refine AWPC.of_vc ?_; simp only [zS, vcC, exs, exd, pickV, alS, Al.ob, grd, ex, ov, gt, argE, strp, cnd, sideL, I.os, st, wrap, keep, binA, kseq, kblk, kret, klp, resL, res1, one, ocalls, obj, elems, cells, scalar, vs, pick1, fillA, splice, chop, eqC, Nat.reduceBEq, Nat.reduceAdd, Nat.reduceSub, Nat.reduceLT, Nat.reduceLeDiff, Nat.reduceMul, Nat.reduceEqDiff, cond_true, cond_false, if_true, if_false, reduceIte, implies_true, forall_const, ne_eq]
          rw [wr64 _ (by omega) (by omega)]
          exact ⟨⟨(i + 1, _), by simp only; omega, by simpa using hb⟩, by simp, rfl, by simp only; omega⟩
      · refine AWPC.of_vc ?_; simp only [zS, vcC, exs, exd, pickV, alS, Al.ob, grd, ex, ov, gt, argE, strp, cnd, sideL, I.os, st, wrap, keep, binA, kseq, kblk, kret, klp, resL, res1, one, ocalls, obj, elems, cells, scalar, vs, pick1, fillA, splice, chop, eqC, Nat.reduceBEq, Nat.reduceAdd, Nat.reduceSub, Nat.reduceLT, Nat.reduceLeDiff, Nat.reduceMul, Nat.reduceEqDiff, cond_true, cond_false, if_true, if_false, reduceIte, implies_true, forall_const, ne_eq]
        refine AWPC.of_vc ?_; simp only [zS, vcC, exs, exd, pickV, alS, Al.ob, grd, ex, ov, gt, argE, strp, cnd, sideL, I.os, st, wrap, keep, binA, kseq, kblk, kret, klp, resL, res1, one, ocalls, obj, elems, cells, scalar, vs, pick1, fillA, splice, chop, eqC, Nat.reduceBEq, Nat.reduceAdd, Nat.reduceSub, Nat.reduceLT, Nat.reduceLeDiff, Nat.reduceMul, Nat.reduceEqDiff, cond_true, cond_false, if_true, if_false, reduceIte, implies_true, forall_const, ne_eq]
        refine AWPC.of_vc ?_; simp only [zS, vcC, exs, exd, pickV, alS, Al.ob, grd, ex, ov, gt, argE, strp, cnd, sideL, I.os, st, wrap, keep, binA, kseq, kblk, kret, klp, resL, res1, one, ocalls, obj, elems, cells, scalar, vs, pick1, fillA, splice, chop, eqC, Nat.reduceBEq, Nat.reduceAdd, Nat.reduceSub, Nat.reduceLT, Nat.reduceLeDiff, Nat.reduceMul, Nat.reduceEqDiff, cond_true, cond_false, if_true, if_false, reduceIte, implies_true, forall_const, ne_eq]
        refine Frz.eq ?_ (by simp)
        have : i = pts.length := by omega
        subst this
        rw [List.drop_length] at hb
        simp [traceErr, h', ← hb, bad]
end Go.Proofs.Ytgpdckmbojmlpaa
