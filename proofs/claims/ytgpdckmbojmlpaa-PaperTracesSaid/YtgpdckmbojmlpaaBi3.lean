/- Part 3 of the texts that the claim rests on: abstract values over the walk, and contracts of functions. -/
import Derived.Test.YtgpdckmbojmlpaaBi2
import Derived.Test.YtgpdckmbojmlpaaRows
namespace Go.Proofs.Ytgpdckmbojmlpaa
open Go.Abs
set_option linter.unusedVariables false
set_option linter.unusedSimpArgs false
set_option maxHeartbeats 4000000
set_option maxRecDepth 100000
-- aneroid/paper.within[int]
def c72 : CF := ⟨15,
 (.seq (.ops [
 ⟨(some 6), .mv (.c (.bool false)), none⟩] [0, 1, 2])
 (.seq (.ops [
 ⟨(some 7), .mv (.t 0), none⟩,
 ⟨(some 8), .mv (.t 1), none⟩,
 ⟨(some 9), .bin .geq (.t 7) (.t 8), none⟩,
 ⟨(some 10), .mv (.t 9), none⟩,
 ⟨(some 11), .mv (.t 0), (some (10, true))⟩,
 ⟨(some 12), .mv (.t 2), (some (10, true))⟩,
 ⟨(some 13), .bin .leq (.t 11) (.t 12), (some (10, true))⟩,
 ⟨(some 14), .pick (.t 10) (.t 13) (.c (.bool false)), none⟩,
 ⟨(some 6), .mv (.t 14), none⟩] [6])
 .ret)),
 [.t 6]⟩
-- aneroid/paper.shrinks
def c98 : CF := ⟨13,
 (.seq (.ops [
 ⟨(some 1), .box false 23 2 (.t 0), none⟩,
 ⟨(some 2), .mv (.c (.bool false)), none⟩] [1])
 (.seq (.ops [
 ⟨(some 3), .faddr 0 (.t 1), none⟩,
 ⟨(some 4), .load none (.t 3), none⟩,
 ⟨(some 5), .faddr 1 (.t 1), none⟩,
 ⟨(some 6), .load none (.t 5), none⟩,
 ⟨(some 7), .call (.f 72) [(.t 4), (.c (.int .i64 900)), (.t 6)], none⟩,
 ⟨(some 8), .mv (.t 7), none⟩,
 ⟨(some 9), .faddr 1 (.t 1), (some (8, true))⟩,
 ⟨(some 10), .load none (.t 9), (some (8, true))⟩,
 ⟨(some 11), .bin .leq (.t 10) (.c (.int .i64 1100)), (some (8, true))⟩,
 ⟨(some 12), .pick (.t 8) (.t 11) (.c (.bool false)), none⟩,
 ⟨(some 2), .mv (.t 12), none⟩] [2])
 .ret)),
 [.t 2]⟩
-- aneroid/paper.CheckPaper
def c52 : CF := ⟨74,
 (.seq (.ops [
 ⟨(some 1), .box false 25 10 (.t 0), none⟩,
 ⟨(some 2), .mv (.c (.int .i64 0)), none⟩] [1])
 (.seq (.ops [
 ⟨(some 5), .faddr 0 (.t 1), none⟩,
 ⟨(some 6), .load none (.t 5), none⟩,
 ⟨(some 7), .call (.f 72) [(.t 6), (.c (.int .i64 1)), (.c (.int .i64 10000))], none⟩,
 ⟨(some 8), .mv (.t 7), none⟩,
 ⟨(some 9), .faddr 1 (.t 1), (some (8, true))⟩,
 ⟨(some 10), .load none (.t 9), (some (8, true))⟩,
 ⟨(some 11), .call (.f 72) [(.t 10), (.c (.int .i64 1)), (.c (.int .i64 400000))], (some (8, true))⟩,
 ⟨(some 12), .pick (.t 8) (.t 11) (.c (.bool false)), none⟩,
 ⟨(some 13), .mv (.t 12), none⟩,
 ⟨(some 14), .faddr 2 (.t 1), (some (13, true))⟩,
 ⟨(some 15), .load none (.t 14), (some (13, true))⟩,
 ⟨(some 16), .bin .eql (.t 15) (.c (.int .i64 0)), (some (13, true))⟩,
 ⟨(some 17), .mv (.t 16), (some (13, true))⟩,
 ⟨(some 18), .faddr 2 (.t 1), (some (17, false))⟩,
 ⟨(some 19), .load none (.t 18), (some (17, false))⟩,
 ⟨(some 20), .faddr 1 (.t 1), (some (17, false))⟩,
 ⟨(some 21), .load none (.t 20), (some (17, false))⟩,
 ⟨(some 22), .call (.f 72) [(.t 19), (.t 21), (.c (.int .i64 4000000))], (some (17, false))⟩,
 ⟨(some 23), .pick (.t 17) (.c (.bool true)) (.t 22), (some (13, true))⟩,
 ⟨(some 24), .pick (.t 13) (.t 23) (.c (.bool false)), none⟩,
 ⟨(some 3), .mv (.t 24), none⟩] [1, 3])
 (.seq (.ops [
 ⟨(some 25), .faddr 3 (.t 1), none⟩,
 ⟨(some 26), .load none (.t 25), none⟩,
 ⟨(some 27), .bin .geq (.t 26) (.c (.int .i64 0)), none⟩,
 ⟨(some 28), .mv (.t 27), none⟩,
 ⟨(some 29), .faddr 3 (.t 1), (some (28, true))⟩,
 ⟨(some 30), .load none (.t 29), (some (28, true))⟩,
 ⟨(some 31), .faddr 4 (.t 1), (some (28, true))⟩,
 ⟨(some 32), .load none (.t 31), (some (28, true))⟩,
 ⟨(some 33), .bin .lss (.t 30) (.t 32), (some (28, true))⟩,
 ⟨(some 34), .pick (.t 28) (.t 33) (.c (.bool false)), none⟩,
 ⟨(some 35), .mv (.t 34), none⟩,
 ⟨(some 36), .faddr 4 (.t 1), (some (35, true))⟩,
 ⟨(some 37), .load none (.t 36), (some (35, true))⟩,
 ⟨(some 38), .bin .leq (.t 37) (.c (.int .i64 12000)), (some (35, true))⟩,
 ⟨(some 39), .pick (.t 35) (.t 38) (.c (.bool false)), none⟩,
 ⟨(some 40), .mv (.t 39), none⟩,
 ⟨(some 41), .faddr 4 (.t 1), (some (40, true))⟩,
 ⟨(some 42), .load none (.t 41), (some (40, true))⟩,
 ⟨(some 43), .faddr 3 (.t 1), (some (40, true))⟩,
 ⟨(some 44), .load none (.t 43), (some (40, true))⟩,
 ⟨(some 45), .bin .sub (.t 42) (.t 44), (some (40, true))⟩,
 ⟨(some 46), .faddr 1 (.t 1), (some (40, true))⟩,
 ⟨(some 47), .load none (.t 46), (some (40, true))⟩,
 ⟨(some 48), .bin .leq (.t 45) (.t 47), (some (40, true))⟩,
 ⟨(some 49), .pick (.t 40) (.t 48) (.c (.bool false)), none⟩,
 ⟨(some 4), .mv (.t 49), none⟩] [1, 3, 4])
 (.seq (.seq (.ops [
 ⟨(some 50), .mv (.t 3), none⟩,
 ⟨(some 51), .un .not (.t 50), none⟩,
 ⟨(some 52), .mv (.t 51), none⟩,
 ⟨(some 53), .mv (.t 4), (some (52, false))⟩,
 ⟨(some 54), .un .not (.t 53), (some (52, false))⟩,
 ⟨(some 55), .pick (.t 52) (.c (.bool true)) (.t 54), none⟩,
 ⟨(some 56), .mv (.t 55), none⟩,
 ⟨(some 57), .faddr 5 (.t 1), (some (56, false))⟩,
 ⟨(some 58), .load none (.t 57), (some (56, false))⟩,
 ⟨(some 59), .call (.f 72) [(.t 58), (.c (.int .i64 1)), (.c (.int .i64 200))], (some (56, false))⟩,
 ⟨(some 60), .un .not (.t 59), (some (56, false))⟩,
 ⟨(some 61), .pick (.t 56) (.c (.bool true)) (.t 60), none⟩,
 ⟨(some 62), .mv (.t 61), none⟩,
 ⟨(some 63), .faddr 6 (.t 1), (some (62, false))⟩,
 ⟨(some 64), .load (some 2) (.t 63), (some (62, false))⟩,
 ⟨(some 65), .call (.f 98) [(.t 64)], (some (62, false))⟩,
 ⟨(some 66), .un .not (.t 65), (some (62, false))⟩,
 ⟨(some 67), .pick (.t 62) (.c (.bool true)) (.t 66), none⟩,
 ⟨(some 68), .mv (.t 67), none⟩,
 ⟨(some 69), .faddr 8 (.t 1), (some (68, false))⟩,
 ⟨(some 70), .load (some 2) (.t 69), (some (68, false))⟩,
 ⟨(some 71), .call (.f 98) [(.t 70)], (some (68, false))⟩,
 ⟨(some 72), .un .not (.t 71), (some (68, false))⟩,
 ⟨(some 73), .pick (.t 68) (.c (.bool true)) (.t 72), none⟩] [73])
 (.cond (.t 73) (.seq (.ops [
 ⟨(some 2), .mv (.c (.int .i64 10)), none⟩] [2])
 .ret)
 .skip))
 (.seq (.ops [
 ⟨(some 2), .mv (.c (.int .i64 0)), none⟩] [2])
 .ret))))),
 [.t 2]⟩
-- aneroid/paper.CheckTrace
def c46 : CF := ⟨34,
 (.seq (.ops [
 ⟨(some 2), .mv (.c (.int .i64 0)), none⟩,
 ⟨(some 3), .mv (.c (.int .i64 0)), none⟩] [0])
 (.seq (.seq (.ops [
 ⟨(some 6), .mv (.t 0), none⟩,
 ⟨(some 7), .len (.t 6), none⟩,
 ⟨(some 8), .bin .gtr (.t 7) (.c (.int .i64 2000)), none⟩] [0, 8])
 (.cond (.t 8) (.seq (.ops [
 ⟨(some 2), .mv (.c (.int .i64 2)), none⟩,
 ⟨(some 3), .mv (.c (.int .i64 0)), none⟩] [2, 3])
 .ret)
 .skip))
 (.seq (.seq (.ops [
 ⟨(some 9), .mv (.t 0), none⟩,
 ⟨(some 10), .len (.t 9), none⟩,
 ⟨(some 11), .mv (.c (.int .i64 0)), none⟩] [9, 10, 11])
 (.block 0 (.loop (.seq (.ops [
 ⟨(some 12), .bin .lss (.t 11) (.t 10), none⟩] [9, 10, 11, 12])
 (.seq (.cond (.t 12) .skip
 (.exit 0))
 (.seq (.block 1 (.seq (.ops [
 ⟨(some 13), .mv (.t 11), none⟩,
 ⟨(some 14), .iaddr 3 (.t 9) (.t 11), none⟩,
 ⟨(some 15), .load (some 3) (.t 14), none⟩,
 ⟨(some 5), .alloc 32 3 [.int .i64 0, .int .i64 0, .int .i64 0], none⟩,
 ⟨(some 4), .mv (.t 13), none⟩,
 ⟨none, .store 3 (.t 5) (.t 15), none⟩] [4, 5, 9, 10, 11])
 (.seq (.ops [
 ⟨(some 16), .faddr 0 (.t 5), none⟩,
 ⟨(some 17), .load none (.t 16), none⟩,
 ⟨(some 18), .call (.f 72) [(.t 17), (.c (.int .i64 0)), (.c (.int .i64 400000))], none⟩,
 ⟨(some 19), .un .not (.t 18), none⟩,
 ⟨(some 20), .mv (.t 19), none⟩,
 ⟨(some 21), .faddr 1 (.t 5), (some (20, false))⟩,
 ⟨(some 22), .load none (.t 21), (some (20, false))⟩,
 ⟨(some 23), .call (.f 72) [(.t 22), (.c (.int .i64 0)), (.c (.int .i64 400000))], (some (20, false))⟩,
 ⟨(some 24), .un .not (.t 23), (some (20, false))⟩,
 ⟨(some 25), .pick (.t 20) (.c (.bool true)) (.t 24), none⟩,
 ⟨(some 26), .mv (.t 25), none⟩,
 ⟨(some 27), .faddr 2 (.t 5), (some (26, false))⟩,
 ⟨(some 28), .load none (.t 27), (some (26, false))⟩,
 ⟨(some 29), .call (.f 72) [(.t 28), (.c (.int .i64 0)), (.c (.int .i64 5000))], (some (26, false))⟩,
 ⟨(some 30), .un .not (.t 29), (some (26, false))⟩,
 ⟨(some 31), .pick (.t 26) (.c (.bool true)) (.t 30), none⟩] [4, 9, 10, 11, 31])
 (.cond (.t 31) (.seq (.ops [
 ⟨(some 32), .mv (.t 4), none⟩,
 ⟨(some 2), .mv (.c (.int .i64 11)), none⟩,
 ⟨(some 3), .mv (.t 32), none⟩] [2, 3])
 .ret)
 .skip))))
 (.ops [
 ⟨(some 33), .bin .add (.t 11) (.c (.int .i64 1)), none⟩,
 ⟨(some 11), .mv (.t 33), none⟩] [9, 10, 11])))))))
 (.seq (.ops [
 ⟨(some 2), .mv (.c (.int .i64 0)), none⟩,
 ⟨(some 3), .mv (.c (.int .i64 0)), none⟩] [2, 3])
 .ret)))),
 [.t 2, .t 3]⟩

structure Pp where
  pi : Int
  he : Int
  ra : Int
  lo : Int
  hi : Int
  co : Int
  al : Sp
  cl : Sp
  deriving DecidableEq

abbrev Pp.cs (p : Pp) : List AV := [n p.pi, n p.he, n p.ra, n p.lo, n p.hi, n p.co, n p.al.lo, n p.al.hi, n p.cl.lo, n p.cl.hi]

theorem k72 : chkF Try.prog Try.f72 c72 = true := by kernel_rfl
theorem k98 : chkF Try.prog Try.f98 c98 = true := by kernel_rfl
theorem k52 : chkF Try.prog Try.f52 c52 = true := by kernel_rfl

theorem within_spec (a b c : Int) : Pure Try.prog 72 [n a, n b, n c] (bl (decide (b ≤ a ∧ a ≤ c))) := by
  refine Pure.of_body Try.call72 Try.func72 k72 (Nat.le_of_ble_eq_true rfl) ?_
  unfold c72
  refine AWPC.of_vc ?_; simp only [zS, zU, vcC, lateX, ex, strp, cnd, binA, kseq, kblk, kret, klp, Abs.one, elems, cells, scalar, eqC, Nat.reduceBEq, Nat.reduceAdd, Nat.reduceSub, Nat.reduceLT, Nat.reduceLeDiff, Nat.reduceMul, Nat.reduceEqDiff, cond_true, cond_false, if_true, if_false, reduceIte, implies_true, forall_const, ne_eq]
  refine AWPC.of_vc ?_; simp only [zS, zU, vcC, lateX, ex, strp, cnd, binA, kseq, kblk, kret, klp, Abs.one, elems, cells, scalar, eqC, Nat.reduceBEq, Nat.reduceAdd, Nat.reduceSub, Nat.reduceLT, Nat.reduceLeDiff, Nat.reduceMul, Nat.reduceEqDiff, cond_true, cond_false, if_true, if_false, reduceIte, implies_true, forall_const, ne_eq]
  refine AWPC.of_vc ?_; simp only [zS, zU, vcC, lateX, ex, strp, cnd, binA, kseq, kblk, kret, klp, Abs.one, elems, cells, scalar, eqC, Nat.reduceBEq, Nat.reduceAdd, Nat.reduceSub, Nat.reduceLT, Nat.reduceLeDiff, Nat.reduceMul, Nat.reduceEqDiff, cond_true, cond_false, if_true, if_false, reduceIte, implies_true, forall_const, ne_eq]
  exact Frz.eq rfl (by simp)


theorem shrinks_spec (s : Sp) : Pure Try.prog 98 [.agg s.cs] (bl (decide s.ok)) := by
  refine Pure.of_body Try.call98 Try.func98 k98 (Nat.le_of_ble_eq_true rfl) ?_
  unfold c98
  refine AWPC.of_vc ?_; simp only [zS, zU, vcC, lateX, ex, strp, cnd, binA, kseq, kblk, kret, klp, Abs.one, elems, cells, scalar, eqC, Nat.reduceBEq, Nat.reduceAdd, Nat.reduceSub, Nat.reduceLT, Nat.reduceLeDiff, Nat.reduceMul, Nat.reduceEqDiff, cond_true, cond_false, if_true, if_false, reduceIte, implies_true, forall_const, ne_eq]
  refine AWPC.of_vc ?_; simp only [zS, zU, vcC, lateX, ex, strp, cnd, binA, kseq, kblk, kret, klp, Abs.one, elems, cells, scalar, eqC, Nat.reduceBEq, Nat.reduceAdd, Nat.reduceSub, Nat.reduceLT, Nat.reduceLeDiff, Nat.reduceMul, Nat.reduceEqDiff, cond_true, cond_false, if_true, if_false, reduceIte, implies_true, forall_const, ne_eq]
  ((repeat (refine And.intro (by (intros; first | omega | (simp_all (config := { decide := false }); done) | fail)) ?_)); refine .inl ⟨_, _, _, _, rfl, fun _hc => ⟨by simp, within_spec _ _ _⟩, ?_⟩; refine owp_of_exs ?_; simp only [zS, zU, vcC, lateX, ex, strp, cnd, binA, kseq, kblk, kret, klp, Abs.one, elems, cells, scalar, eqC, Nat.reduceBEq, Nat.reduceAdd, Nat.reduceSub, Nat.reduceLT, Nat.reduceLeDiff, Nat.reduceMul, Nat.reduceEqDiff, cond_true, cond_false, if_true, if_false, reduceIte, implies_true, forall_const, ne_eq])
  refine AWPC.of_vc ?_; simp only [zS, zU, vcC, lateX, ex, strp, cnd, binA, kseq, kblk, kret, klp, Abs.one, elems, cells, scalar, eqC, Nat.reduceBEq, Nat.reduceAdd, Nat.reduceSub, Nat.reduceLT, Nat.reduceLeDiff, Nat.reduceMul, Nat.reduceEqDiff, cond_true, cond_false, if_true, if_false, reduceIte, implies_true, forall_const, ne_eq]
  refine Frz.eq ?_ (by simp)
  congr 2
  rw [decide_eq_decide]; omega

def Pp.good (p : Pp) : Prop := 1 ≤ p.pi ∧ p.pi ≤ 10000 ∧ 1 ≤ p.he ∧ p.he ≤ 400000 ∧ (p.ra = 0 ∨ p.he ≤ p.ra ∧ p.ra ≤ 4000000) ∧ 0 ≤ p.lo ∧ p.lo < p.hi ∧ p.hi ≤ 12000 ∧ p.hi - p.lo ≤ p.he ∧
  1 ≤ p.co ∧ p.co ≤ 200 ∧ p.al.ok ∧ p.cl.ok

instance (p : Pp) : Decidable p.good := by unfold Pp.good; infer_instance

abbrev Pp.err (p : Pp) : Int := if p.good then 0 else 10

theorem checkPaper_spec (p : Pp) : Pure Try.prog 52 [.agg p.cs] (n p.err) := by
  refine Pure.of_body Try.call52 Try.func52 k52 (Nat.le_of_ble_eq_true rfl) ?_
  unfold c52
  refine AWPC.of_vc ?_; simp only [zS, zU, vcC, lateX, ex, strp, cnd, binA, kseq, kblk, kret, klp, Abs.one, elems, cells, scalar, eqC, Nat.reduceBEq, Nat.reduceAdd, Nat.reduceSub, Nat.reduceLT, Nat.reduceLeDiff, Nat.reduceMul, Nat.reduceEqDiff, cond_true, cond_false, if_true, if_false, reduceIte, implies_true, forall_const, ne_eq]
  refine AWPC.of_vc ?_; simp only [zS, zU, vcC, lateX, ex, strp, cnd, binA, kseq, kblk, kret, klp, Abs.one, elems, cells, scalar, eqC, Nat.reduceBEq, Nat.reduceAdd, Nat.reduceSub, Nat.reduceLT, Nat.reduceLeDiff, Nat.reduceMul, Nat.reduceEqDiff, cond_true, cond_false, if_true, if_false, reduceIte, implies_true, forall_const, ne_eq]
  ((repeat (refine And.intro (by (intros; first | omega | (simp_all (config := { decide := false }); done) | fail)) ?_)); refine .inl ⟨_, _, _, _, rfl, fun _hc => ⟨by simp, within_spec _ _ _⟩, ?_⟩; refine owp_of_exs ?_; simp only [zS, zU, vcC, lateX, ex, strp, cnd, binA, kseq, kblk, kret, klp, Abs.one, elems, cells, scalar, eqC, Nat.reduceBEq, Nat.reduceAdd, Nat.reduceSub, Nat.reduceLT, Nat.reduceLeDiff, Nat.reduceMul, Nat.reduceEqDiff, cond_true, cond_false, if_true, if_false, reduceIte, implies_true, forall_const, ne_eq])
  ((repeat (refine And.intro (by (intros; first | omega | (simp_all (config := { decide := false }); done) | fail)) ?_)); refine .inl ⟨_, _, _, _, rfl, fun _hc => ⟨by simp, within_spec _ _ _⟩, ?_⟩; refine owp_of_exs ?_; simp only [zS, zU, vcC, lateX, ex, strp, cnd, binA, kseq, kblk, kret, klp, Abs.one, elems, cells, scalar, eqC, Nat.reduceBEq, Nat.reduceAdd, Nat.reduceSub, Nat.reduceLT, Nat.reduceLeDiff, Nat.reduceMul, Nat.reduceEqDiff, cond_true, cond_false, if_true, if_false, reduceIte, implies_true, forall_const, ne_eq])
  ((repeat (refine And.intro (by (intros; first | omega | (simp_all (config := { decide := false }); done) | fail)) ?_)); refine .inl ⟨_, _, _, _, rfl, fun _hc => ⟨by simp, within_spec _ _ _⟩, ?_⟩; refine owp_of_exs ?_; simp only [zS, zU, vcC, lateX, ex, strp, cnd, binA, kseq, kblk, kret, klp, Abs.one, elems, cells, scalar, eqC, Nat.reduceBEq, Nat.reduceAdd, Nat.reduceSub, Nat.reduceLT, Nat.reduceLeDiff, Nat.reduceMul, Nat.reduceEqDiff, cond_true, cond_false, if_true, if_false, reduceIte, implies_true, forall_const, ne_eq])
  (repeat (refine And.intro (by (intros; first | omega | (simp_all (config := { decide := false }); done) | fail)) ?_))
  refine AWPC.of_vc ?_; simp only [zS, zU, vcC, lateX, ex, strp, cnd, binA, kseq, kblk, kret, klp, Abs.one, elems, cells, scalar, eqC, Nat.reduceBEq, Nat.reduceAdd, Nat.reduceSub, Nat.reduceLT, Nat.reduceLeDiff, Nat.reduceMul, Nat.reduceEqDiff, cond_true, cond_false, if_true, if_false, reduceIte, implies_true, forall_const, ne_eq]
  refine AWPC.of_vc ?_; simp only [zS, zU, vcC, lateX, ex, strp, cnd, binA, kseq, kblk, kret, klp, Abs.one, elems, cells, scalar, eqC, Nat.reduceBEq, Nat.reduceAdd, Nat.reduceSub, Nat.reduceLT, Nat.reduceLeDiff, Nat.reduceMul, Nat.reduceEqDiff, cond_true, cond_false, if_true, if_false, reduceIte, implies_true, forall_const, ne_eq]
  ((repeat (refine And.intro (by (intros; first | omega | (simp_all (config := { decide := false }); done) | fail)) ?_)); refine .inl ⟨_, _, _, _, rfl, fun _hc => ⟨by simp, within_spec _ _ _⟩, ?_⟩; refine owp_of_exs ?_; simp only [zS, zU, vcC, lateX, ex, strp, cnd, binA, kseq, kblk, kret, klp, Abs.one, elems, cells, scalar, eqC, Nat.reduceBEq, Nat.reduceAdd, Nat.reduceSub, Nat.reduceLT, Nat.reduceLeDiff, Nat.reduceMul, Nat.reduceEqDiff, cond_true, cond_false, if_true, if_false, reduceIte, implies_true, forall_const, ne_eq])
  ((repeat (refine And.intro (by (intros; first | omega | (simp_all (config := { decide := false }); done) | fail)) ?_)); refine .inl ⟨_, _, _, _, rfl, fun _hc => ⟨by simp, shrinks_spec p.al⟩, ?_⟩; refine owp_of_exs ?_; simp only [zS, zU, vcC, lateX, ex, strp, cnd, binA, kseq, kblk, kret, klp, Abs.one, elems, cells, scalar, eqC, Nat.reduceBEq, Nat.reduceAdd, Nat.reduceSub, Nat.reduceLT, Nat.reduceLeDiff, Nat.reduceMul, Nat.reduceEqDiff, cond_true, cond_false, if_true, if_false, reduceIte, implies_true, forall_const, ne_eq])
  ((repeat (refine And.intro (by (intros; first | omega | (simp_all (config := { decide := false }); done) | fail)) ?_)); refine .inl ⟨_, _, _, _, rfl, fun _hc => ⟨by simp, shrinks_spec p.cl⟩, ?_⟩; refine owp_of_exs ?_; simp only [zS, zU, vcC, lateX, ex, strp, cnd, binA, kseq, kblk, kret, klp, Abs.one, elems, cells, scalar, eqC, Nat.reduceBEq, Nat.reduceAdd, Nat.reduceSub, Nat.reduceLT, Nat.reduceLeDiff, Nat.reduceMul, Nat.reduceEqDiff, cond_true, cond_false, if_true, if_false, reduceIte, implies_true, forall_const, ne_eq])
  refine AWPC.of_vc ?_; simp only [zS, zU, vcC, lateX, ex, strp, cnd, binA, kseq, kblk, kret, klp, Abs.one, elems, cells, scalar, eqC, Nat.reduceBEq, Nat.reduceAdd, Nat.reduceSub, Nat.reduceLT, Nat.reduceLeDiff, Nat.reduceMul, Nat.reduceEqDiff, cond_true, cond_false, if_true, if_false, reduceIte, implies_true, forall_const, ne_eq]
  refine ⟨fun h => ?_, fun h => ?_⟩
  · refine AWPC.of_vc ?_; simp only [zS, zU, vcC, lateX, ex, strp, cnd, binA, kseq, kblk, kret, klp, Abs.one, elems, cells, scalar, eqC, Nat.reduceBEq, Nat.reduceAdd, Nat.reduceSub, Nat.reduceLT, Nat.reduceLeDiff, Nat.reduceMul, Nat.reduceEqDiff, cond_true, cond_false, if_true, if_false, reduceIte, implies_true, forall_const, ne_eq]
    refine AWPC.of_vc ?_; simp only [zS, zU, vcC, lateX, ex, strp, cnd, binA, kseq, kblk, kret, klp, Abs.one, elems, cells, scalar, eqC, Nat.reduceBEq, Nat.reduceAdd, Nat.reduceSub, Nat.reduceLT, Nat.reduceLeDiff, Nat.reduceMul, Nat.reduceEqDiff, cond_true, cond_false, if_true, if_false, reduceIte, implies_true, forall_const, ne_eq]
    refine Frz.eq ?_ (by simp)
    rw [Pp.err, if_neg]
    rintro ⟨g1, g2, g3, g4, g5, g6, g7, g8, g9, g10, g11, g12, g13⟩
    rw [wr64 _ (by omega) (by omega)] at h
    omega
  · refine AWPC.of_vc ?_; simp only [zS, zU, vcC, lateX, ex, strp, cnd, binA, kseq, kblk, kret, klp, Abs.one, elems, cells, scalar, eqC, Nat.reduceBEq, Nat.reduceAdd, Nat.reduceSub, Nat.reduceLT, Nat.reduceLeDiff, Nat.reduceMul, Nat.reduceEqDiff, cond_true, cond_false, if_true, if_false, reduceIte, implies_true, forall_const, ne_eq]
    refine AWPC.of_vc ?_; simp only [zS, zU, vcC, lateX, ex, strp, cnd, binA, kseq, kblk, kret, klp, Abs.one, elems, cells, scalar, eqC, Nat.reduceBEq, Nat.reduceAdd, Nat.reduceSub, Nat.reduceLT, Nat.reduceLeDiff, Nat.reduceMul, Nat.reduceEqDiff, cond_true, cond_false, if_true, if_false, reduceIte, implies_true, forall_const, ne_eq]
    refine AWPC.of_vc ?_; simp only [zS, zU, vcC, lateX, ex, strp, cnd, binA, kseq, kblk, kret, klp, Abs.one, elems, cells, scalar, eqC, Nat.reduceBEq, Nat.reduceAdd, Nat.reduceSub, Nat.reduceLT, Nat.reduceLeDiff, Nat.reduceMul, Nat.reduceEqDiff, cond_true, cond_false, if_true, if_false, reduceIte, implies_true, forall_const, ne_eq]
    refine Frz.eq ?_ (by simp)
    rw [Pp.err, if_pos]
    simp only [not_or, Decidable.not_not] at h
    obtain ⟨⟨⟨⟨h1, h2⟩, h3⟩, h4⟩, h5⟩ := h
    rw [wr64 _ (by omega) (by omega)] at h2
    unfold Pp.good
    exact ⟨by omega, by omega, by omega, by omega, by omega, by omega, by omega, by omega, by omega, by omega, by omega, h4, h5⟩

structure Pt where
  x : Int
  y : Int
  h : Int
  deriving DecidableEq

abbrev Pt.cs (p : Pt) : List AV := [n p.x, n p.y, n p.h]
abbrev Pt.right (p : Pt) : Prop := 0 ≤ p.x ∧ p.x ≤ 400000 ∧ 0 ≤ p.y ∧ p.y ≤ 400000 ∧ 0 ≤ p.h ∧ p.h ≤ 5000

/-- What is wrong with points first. -/
def bad (pts : List Pt) (i : Nat) : Int × Int :=
  match pts with
  | [] => (0, 0)
  | p :: r => if p.right then bad r (i + 1) else (11, i)

def traceErr (pts : List Pt) : Int × Int := if 2000 < pts.length then (2, 0) else bad pts 0

abbrev ptS (pts : List Pt) : AV := .sl 3 (pts.map Pt.cs)

theorem k46 : chkF Try.prog Try.f46 c46 = true := by kernel_rfl

theorem checkTrace_spec (pts : List Pt) (hlen : pts.length < 1000000000) : Pure Try.prog 46 [ptS pts] (.tup [n (traceErr pts).1, n (traceErr pts).2]) := by
  refine Pure.of_body Try.call46 Try.func46 k46 (Nat.le_of_ble_eq_true rfl) ?_
  unfold c46
  refine AWPC.of_vc ?_; simp only [zS, zU, vcC, lateX, ex, strp, cnd, binA, kseq, kblk, kret, klp, Abs.one, elems, cells, scalar, eqC, Nat.reduceBEq, Nat.reduceAdd, Nat.reduceSub, Nat.reduceLT, Nat.reduceLeDiff, Nat.reduceMul, Nat.reduceEqDiff, cond_true, cond_false, if_true, if_false, reduceIte, implies_true, forall_const, ne_eq]
  refine AWPC.of_vc ?_; simp only [zS, zU, vcC, lateX, ex, strp, cnd, binA, kseq, kblk, kret, klp, Abs.one, elems, cells, scalar, eqC, Nat.reduceBEq, Nat.reduceAdd, Nat.reduceSub, Nat.reduceLT, Nat.reduceLeDiff, Nat.reduceMul, Nat.reduceEqDiff, cond_true, cond_false, if_true, if_false, reduceIte, implies_true, forall_const, ne_eq]
  refine AWPC.of_vc ?_; simp only [zS, zU, vcC, lateX, ex, strp, cnd, binA, kseq, kblk, kret, klp, Abs.one, elems, cells, scalar, eqC, Nat.reduceBEq, Nat.reduceAdd, Nat.reduceSub, Nat.reduceLT, Nat.reduceLeDiff, Nat.reduceMul, Nat.reduceEqDiff, cond_true, cond_false, if_true, if_false, reduceIte, implies_true, forall_const, ne_eq]
  refine ⟨fun h => ?_, fun h => ?_⟩
  · refine AWPC.of_vc ?_; simp only [zS, zU, vcC, lateX, ex, strp, cnd, binA, kseq, kblk, kret, klp, Abs.one, elems, cells, scalar, eqC, Nat.reduceBEq, Nat.reduceAdd, Nat.reduceSub, Nat.reduceLT, Nat.reduceLeDiff, Nat.reduceMul, Nat.reduceEqDiff, cond_true, cond_false, if_true, if_false, reduceIte, implies_true, forall_const, ne_eq]
    refine AWPC.of_vc ?_; simp only [zS, zU, vcC, lateX, ex, strp, cnd, binA, kseq, kblk, kret, klp, Abs.one, elems, cells, scalar, eqC, Nat.reduceBEq, Nat.reduceAdd, Nat.reduceSub, Nat.reduceLT, Nat.reduceLeDiff, Nat.reduceMul, Nat.reduceEqDiff, cond_true, cond_false, if_true, if_false, reduceIte, implies_true, forall_const, ne_eq]
    refine Frz.eq ?_ (by simp)
    have h' : 2000 < pts.length := by simp at h; omega
    simp [traceErr, h']
  · refine AWPC.of_vc ?_; simp only [zS, zU, vcC, lateX, ex, strp, cnd, binA, kseq, kblk, kret, klp, Abs.one, elems, cells, scalar, eqC, Nat.reduceBEq, Nat.reduceAdd, Nat.reduceSub, Nat.reduceLT, Nat.reduceLeDiff, Nat.reduceMul, Nat.reduceEqDiff, cond_true, cond_false, if_true, if_false, reduceIte, implies_true, forall_const, ne_eq]
    have h' : ¬ 2000 < pts.length := by simp at h; omega
    refine AWPC.of_vc ?_; simp only [zS, zU, vcC, lateX, ex, strp, cnd, binA, kseq, kblk, kret, klp, Abs.one, elems, cells, scalar, eqC, Nat.reduceBEq, Nat.reduceAdd, Nat.reduceSub, Nat.reduceLT, Nat.reduceLeDiff, Nat.reduceMul, Nat.reduceEqDiff, cond_true, cond_false, if_true, if_false, reduceIte, implies_true, forall_const, ne_eq]
    refine AWPC.of_vc ?_; simp only [zS, zU, vcC, lateX, ex, strp, cnd, binA, kseq, kblk, kret, klp, Abs.one, elems, cells, scalar, eqC, Nat.reduceBEq, Nat.reduceAdd, Nat.reduceSub, Nat.reduceLT, Nat.reduceLeDiff, Nat.reduceMul, Nat.reduceEqDiff, cond_true, cond_false, if_true, if_false, reduceIte, implies_true, forall_const, ne_eq]
    refine AWPC.loop (α := { x : Nat × Sto // x.1 ≤ pts.length ∧ bad (pts.drop x.1) x.1 = bad pts 0 }) (fun x => ([(9, ptS pts), (10, n pts.length), (11, n x.1.1)], x.1.2)) (fun x => pts.length - x.1.1) ⟨(0, []), by simp, by simp⟩ ?_ rfl ?_
    · simp only [zS, zU, vcC, lateX, ex, strp, cnd, binA, kseq, kblk, kret, klp, Abs.one, elems, cells, scalar, eqC, Nat.reduceBEq, Nat.reduceAdd, Nat.reduceSub, Nat.reduceLT, Nat.reduceLeDiff, Nat.reduceMul, Nat.reduceEqDiff, cond_true, cond_false, if_true, if_false, reduceIte, implies_true, forall_const, ne_eq]; try simp
    · rintro ⟨⟨i, τ⟩, hi, hb⟩
      simp only at hi hb
      refine AWPC.of_vc ?_; simp only [zS, zU, vcC, lateX, ex, strp, cnd, binA, kseq, kblk, kret, klp, Abs.one, elems, cells, scalar, eqC, Nat.reduceBEq, Nat.reduceAdd, Nat.reduceSub, Nat.reduceLT, Nat.reduceLeDiff, Nat.reduceMul, Nat.reduceEqDiff, cond_true, cond_false, if_true, if_false, reduceIte, implies_true, forall_const, ne_eq]
      refine AWPC.of_vc ?_; simp only [zS, zU, vcC, lateX, ex, strp, cnd, binA, kseq, kblk, kret, klp, Abs.one, elems, cells, scalar, eqC, Nat.reduceBEq, Nat.reduceAdd, Nat.reduceSub, Nat.reduceLT, Nat.reduceLeDiff, Nat.reduceMul, Nat.reduceEqDiff, cond_true, cond_false, if_true, if_false, reduceIte, implies_true, forall_const, ne_eq]
      refine ⟨fun hlt => ?_, fun hge => ?_⟩
      · have hlt' : i < pts.length := by omega
        obtain ⟨p, hp⟩ : ∃ p, pts[i]? = some p := ⟨_, List.getElem?_eq_getElem hlt'⟩
        refine AWPC.of_vc ?_; simp only [zS, zU, vcC, lateX, ex, strp, cnd, binA, kseq, kblk, kret, klp, Abs.one, elems, cells, scalar, eqC, Nat.reduceBEq, Nat.reduceAdd, Nat.reduceSub, Nat.reduceLT, Nat.reduceLeDiff, Nat.reduceMul, Nat.reduceEqDiff, cond_true, cond_false, if_true, if_false, reduceIte, implies_true, forall_const, ne_eq]
        (refine AWPC.of_vc ?_; simp only [zS, zU, vcC, lateX, ex, strp, cnd, binA, kseq, kblk, kret, klp, Abs.one, elems, cells, scalar, eqC, Nat.reduceBEq, Nat.reduceAdd, Nat.reduceSub, Nat.reduceLT, Nat.reduceLeDiff, Nat.reduceMul, Nat.reduceEqDiff, cond_true, cond_false, if_true, if_false, reduceIte, implies_true, forall_const, ne_eq, getD_map hp])
        refine ⟨⟨by omega, by simpa using hlt'⟩, ?_⟩
        refine AWPC.of_vc ?_; simp only [zS, zU, vcC, lateX, ex, strp, cnd, binA, kseq, kblk, kret, klp, Abs.one, elems, cells, scalar, eqC, Nat.reduceBEq, Nat.reduceAdd, Nat.reduceSub, Nat.reduceLT, Nat.reduceLeDiff, Nat.reduceMul, Nat.reduceEqDiff, cond_true, cond_false, if_true, if_false, reduceIte, implies_true, forall_const, ne_eq]
        ((repeat (refine And.intro (by (intros; first | omega | (simp_all (config := { decide := false }); done) | fail)) ?_)); refine .inl ⟨_, _, _, _, rfl, fun _hc => ⟨by simp, within_spec _ _ _⟩, ?_⟩; refine owp_of_exs ?_; simp only [zS, zU, vcC, lateX, ex, strp, cnd, binA, kseq, kblk, kret, klp, Abs.one, elems, cells, scalar, eqC, Nat.reduceBEq, Nat.reduceAdd, Nat.reduceSub, Nat.reduceLT, Nat.reduceLeDiff, Nat.reduceMul, Nat.reduceEqDiff, cond_true, cond_false, if_true, if_false, reduceIte, implies_true, forall_const, ne_eq])
        ((repeat (refine And.intro (by (intros; first | omega | (simp_all (config := { decide := false }); done) | fail)) ?_)); refine .inl ⟨_, _, _, _, rfl, fun _hc => ⟨by simp, within_spec _ _ _⟩, ?_⟩; refine owp_of_exs ?_; simp only [zS, zU, vcC, lateX, ex, strp, cnd, binA, kseq, kblk, kret, klp, Abs.one, elems, cells, scalar, eqC, Nat.reduceBEq, Nat.reduceAdd, Nat.reduceSub, Nat.reduceLT, Nat.reduceLeDiff, Nat.reduceMul, Nat.reduceEqDiff, cond_true, cond_false, if_true, if_false, reduceIte, implies_true, forall_const, ne_eq])
        ((repeat (refine And.intro (by (intros; first | omega | (simp_all (config := { decide := false }); done) | fail)) ?_)); refine .inl ⟨_, _, _, _, rfl, fun _hc => ⟨by simp, within_spec _ _ _⟩, ?_⟩; refine owp_of_exs ?_; simp only [zS, zU, vcC, lateX, ex, strp, cnd, binA, kseq, kblk, kret, klp, Abs.one, elems, cells, scalar, eqC, Nat.reduceBEq, Nat.reduceAdd, Nat.reduceSub, Nat.reduceLT, Nat.reduceLeDiff, Nat.reduceMul, Nat.reduceEqDiff, cond_true, cond_false, if_true, if_false, reduceIte, implies_true, forall_const, ne_eq])
        refine AWPC.of_vc ?_; simp only [zS, zU, vcC, lateX, ex, strp, cnd, binA, kseq, kblk, kret, klp, Abs.one, elems, cells, scalar, eqC, Nat.reduceBEq, Nat.reduceAdd, Nat.reduceSub, Nat.reduceLT, Nat.reduceLeDiff, Nat.reduceMul, Nat.reduceEqDiff, cond_true, cond_false, if_true, if_false, reduceIte, implies_true, forall_const, ne_eq]
        have hd := drop_cons hp
        refine ⟨fun hbad => ?_, fun hgood => ?_⟩
        · refine AWPC.of_vc ?_; simp only [zS, zU, vcC, lateX, ex, strp, cnd, binA, kseq, kblk, kret, klp, Abs.one, elems, cells, scalar, eqC, Nat.reduceBEq, Nat.reduceAdd, Nat.reduceSub, Nat.reduceLT, Nat.reduceLeDiff, Nat.reduceMul, Nat.reduceEqDiff, cond_true, cond_false, if_true, if_false, reduceIte, implies_true, forall_const, ne_eq]
          refine AWPC.of_vc ?_; simp only [zS, zU, vcC, lateX, ex, strp, cnd, binA, kseq, kblk, kret, klp, Abs.one, elems, cells, scalar, eqC, Nat.reduceBEq, Nat.reduceAdd, Nat.reduceSub, Nat.reduceLT, Nat.reduceLeDiff, Nat.reduceMul, Nat.reduceEqDiff, cond_true, cond_false, if_true, if_false, reduceIte, implies_true, forall_const, ne_eq]
          refine Frz.eq ?_ (by simp)
          rw [hd, bad, if_neg (by omega)] at hb
          simp [traceErr, h', ← hb]
        · rw [hd, bad, if_pos (by omega)] at hb
          refine AWPC.of_vc ?_; simp only [zS, zU, vcC, lateX, ex, strp, cnd, binA, kseq, kblk, kret, klp, Abs.one, elems, cells, scalar, eqC, Nat.reduceBEq, Nat.reduceAdd, Nat.reduceSub, Nat.reduceLT, Nat.reduceLeDiff, Nat.reduceMul, Nat.reduceEqDiff, cond_true, cond_false, if_true, if_false, reduceIte, implies_true, forall_const, ne_eq]
          refine AWPC.of_vc ?_; simp only [zS, zU, vcC, lateX, ex, strp, cnd, binA, kseq, kblk, kret, klp, Abs.one, elems, cells, scalar, eqC, Nat.reduceBEq, Nat.reduceAdd, Nat.reduceSub, Nat.reduceLT, Nat.reduceLeDiff, Nat.reduceMul, Nat.reduceEqDiff, cond_true, cond_false, if_true, if_false, reduceIte, implies_true, forall_const, ne_eq]
          rw [wr64 _ (by omega) (by omega)]
          exact ⟨⟨(i + 1, _), by simp only; omega, by simpa using hb⟩, by simp, rfl, by simp only; omega⟩
      · refine AWPC.of_vc ?_; simp only [zS, zU, vcC, lateX, ex, strp, cnd, binA, kseq, kblk, kret, klp, Abs.one, elems, cells, scalar, eqC, Nat.reduceBEq, Nat.reduceAdd, Nat.reduceSub, Nat.reduceLT, Nat.reduceLeDiff, Nat.reduceMul, Nat.reduceEqDiff, cond_true, cond_false, if_true, if_false, reduceIte, implies_true, forall_const, ne_eq]
        refine AWPC.of_vc ?_; simp only [zS, zU, vcC, lateX, ex, strp, cnd, binA, kseq, kblk, kret, klp, Abs.one, elems, cells, scalar, eqC, Nat.reduceBEq, Nat.reduceAdd, Nat.reduceSub, Nat.reduceLT, Nat.reduceLeDiff, Nat.reduceMul, Nat.reduceEqDiff, cond_true, cond_false, if_true, if_false, reduceIte, implies_true, forall_const, ne_eq]
        refine AWPC.of_vc ?_; simp only [zS, zU, vcC, lateX, ex, strp, cnd, binA, kseq, kblk, kret, klp, Abs.one, elems, cells, scalar, eqC, Nat.reduceBEq, Nat.reduceAdd, Nat.reduceSub, Nat.reduceLT, Nat.reduceLeDiff, Nat.reduceMul, Nat.reduceEqDiff, cond_true, cond_false, if_true, if_false, reduceIte, implies_true, forall_const, ne_eq]
        refine Frz.eq ?_ (by simp)
        have : i = pts.length := by omega
        subst this
        rw [List.drop_length] at hb
        simp [traceErr, h', ← hb, bad]
end Go.Proofs.Ytgpdckmbojmlpaa

namespace Go.Proofs.Ytgpdckmbojmlpaa
open Go.Abs
set_option linter.unusedVariables false
set_option linter.unusedSimpArgs false
set_option maxHeartbeats 4000000
set_option maxRecDepth 100000
-- aneroid/paper.read
def c71 : CF := ⟨23,
 (.seq (.ops [
 ⟨(some 2), .box false 25 10 (.t 0), none⟩,
 ⟨(some 4), .alloc 85 10 [.int .i64 0, .int .i64 0, .int .i64 0, .int .i64 0, .int .i64 0, .int .i64 0, .int .i64 0, .int .i64 0, .int .i64 0, .int .i64 0], none⟩,
 ⟨(some 5), .mv (.c (.int .i64 0)), none⟩] [1, 2, 4])
 (.seq (.seq (.ops [
 ⟨(some 9), .load (some 10) (.t 2), none⟩,
 ⟨(some 10), .call (.f 52) [(.t 9)], none⟩,
 ⟨(some 6), .mv (.t 10), none⟩] [1, 2, 4, 6])
 (.seq (.ops [
 ⟨(some 11), .mv (.t 6), none⟩,
 ⟨(some 12), .bin .neq (.t 11) (.c (.int .i64 0)), none⟩] [1, 2, 4, 6, 12])
 (.cond (.t 12) (.seq (.ops [
 ⟨(some 13), .build [.int .i64 0, .int .i64 0, .int .i64 0, .int .i64 0, .int .i64 0, .int .i64 0, .int .i64 0, .int .i64 0, .int .i64 0, .int .i64 0] [], none⟩,
 ⟨(some 14), .mv (.t 6), none⟩,
 ⟨none, .store 10 (.t 4) (.t 13), none⟩,
 ⟨(some 5), .mv (.t 14), none⟩] [4, 5])
 .ret)
 .skip)))
 (.seq (.ops [
 ⟨(some 16), .mv (.t 1), none⟩,
 ⟨(some 17), .call (.f 46) [(.t 16)], none⟩,
 ⟨(some 15), .mv (.t 17), none⟩,
 ⟨(some 18), .ext 0 (.t 15), none⟩,
 ⟨(some 19), .ext 1 (.t 15), none⟩,
 ⟨(some 7), .mv (.t 18), none⟩,
 ⟨(some 8), .mv (.t 19), none⟩] [2, 4, 7])
 (.seq (.ops [
 ⟨(some 20), .load (some 10) (.t 2), none⟩,
 ⟨(some 21), .build [.int .i64 0, .int .i64 0, .int .i64 0, .int .i64 0, .int .i64 0, .int .i64 0, .int .i64 0, .int .i64 0, .int .i64 0, .int .i64 0] [(0, 10, (.t 20))], none⟩,
 ⟨(some 22), .mv (.t 7), none⟩,
 ⟨none, .store 10 (.t 4) (.t 21), none⟩,
 ⟨(some 5), .mv (.t 22), none⟩] [4, 5])
 .ret)))),
 [.c 4 (some 10), .t 5]⟩
-- (aneroid/paper.form).arc
def c70 : CF := ⟨21,
 (.seq (.ops [
 ⟨(some 2), .box false 85 10 (.t 0), none⟩,
 ⟨(some 4), .mv (.c (.int .i64 0)), none⟩] [1, 2])
 (.seq (.seq (.ops [
 ⟨(some 5), .faddr 0 (.t 2), none⟩,
 ⟨(some 6), .faddr 2 (.t 5), none⟩,
 ⟨(some 7), .load none (.t 6), none⟩,
 ⟨(some 8), .bin .eql (.t 7) (.c (.int .i64 0)), none⟩] [1, 2, 8])
 (.cond (.t 8) (.seq (.ops [
 ⟨(some 4), .mv (.c (.int .i64 0)), none⟩] [4])
 .ret)
 .skip))
 (.seq (.ops [
 ⟨(some 9), .mv (.t 1), none⟩,
 ⟨(some 10), .faddr 0 (.t 2), none⟩,
 ⟨(some 11), .faddr 1 (.t 10), none⟩,
 ⟨(some 12), .load none (.t 11), none⟩,
 ⟨(some 13), .mv (.t 1), none⟩,
 ⟨(some 14), .bin .sub (.t 12) (.t 13), none⟩,
 ⟨(some 15), .bin .mul (.t 9) (.t 14), none⟩,
 ⟨(some 16), .faddr 0 (.t 2), none⟩,
 ⟨(some 17), .faddr 2 (.t 16), none⟩,
 ⟨(some 18), .load none (.t 17), none⟩,
 ⟨(some 19), .bin .mul (.c (.int .i64 2)) (.t 18), none⟩,
 ⟨(some 20), .bin .quo (.t 15) (.t 19), none⟩,
 ⟨(some 4), .mv (.t 20), none⟩] [4])
 .ret))),
 [.t 4]⟩
-- (aneroid/paper.form).level
def c75 : CF := ⟨22,
 (.seq (.ops [
 ⟨(some 2), .box false 85 10 (.t 0), none⟩,
 ⟨(some 4), .mv (.c (.int .i64 0)), none⟩] [1, 2])
 (.seq (.draw [
 ⟨(some 5), .faddr 0 (.t 2), none⟩,
 ⟨(some 6), .faddr 3 (.t 5), none⟩,
 ⟨(some 7), .load none (.t 6), none⟩,
 ⟨(some 8), .mv (.t 1), none⟩,
 ⟨(some 9), .faddr 0 (.t 2), none⟩,
 ⟨(some 10), .faddr 4 (.t 9), none⟩,
 ⟨(some 11), .load none (.t 10), none⟩,
 ⟨(some 12), .faddr 0 (.t 2), none⟩,
 ⟨(some 13), .faddr 3 (.t 12), none⟩,
 ⟨(some 14), .load none (.t 13), none⟩,
 ⟨(some 15), .bin .sub (.t 11) (.t 14), none⟩,
 ⟨(some 16), .bin .mul (.t 8) (.t 15), none⟩,
 ⟨(some 17), .faddr 0 (.t 2), none⟩,
 ⟨(some 18), .faddr 1 (.t 17), none⟩,
 ⟨(some 19), .load none (.t 18), none⟩,
 ⟨(some 20), .bin .quo (.t 16) (.t 19), none⟩,
 ⟨(some 21), .bin .add (.t 7) (.t 20), none⟩,
 ⟨(some 4), .mv (.t 21), none⟩] [
 ] [4])
 .ret)),
 [.t 4]⟩
-- (aneroid/paper.form).least
def c79 : CF := ⟨33,
 (.seq (.ops [
 ⟨(some 2), .box false 85 10 (.t 0), none⟩,
 ⟨(some 4), .mv (.c (.int .i64 0)), none⟩] [1, 2])
 (.seq (.ops [
 ⟨(some 6), .mv (.t 1), none⟩,
 ⟨(some 7), .faddr 0 (.t 2), none⟩,
 ⟨(some 8), .faddr 3 (.t 7), none⟩,
 ⟨(some 9), .load none (.t 8), none⟩,
 ⟨(some 10), .bin .sub (.t 6) (.t 9), none⟩,
 ⟨(some 5), .mv (.t 10), none⟩] [2, 5])
 (.seq (.ops [
 ⟨(some 11), .mv (.t 5), none⟩,
 ⟨(some 12), .faddr 0 (.t 2), none⟩,
 ⟨(some 13), .faddr 1 (.t 12), none⟩,
 ⟨(some 14), .load none (.t 13), none⟩,
 ⟨(some 15), .bin .mul (.t 11) (.t 14), none⟩,
 ⟨(some 16), .faddr 0 (.t 2), none⟩,
 ⟨(some 17), .faddr 4 (.t 16), none⟩,
 ⟨(some 18), .load none (.t 17), none⟩,
 ⟨(some 19), .bin .add (.t 15) (.t 18), none⟩,
 ⟨(some 20), .faddr 0 (.t 2), none⟩,
 ⟨(some 21), .faddr 3 (.t 20), none⟩,
 ⟨(some 22), .load none (.t 21), none⟩,
 ⟨(some 23), .bin .sub (.t 19) (.t 22), none⟩,
 ⟨(some 24), .bin .sub (.t 23) (.c (.int .i64 1)), none⟩,
 ⟨(some 25), .faddr 0 (.t 2), none⟩,
 ⟨(some 26), .faddr 4 (.t 25), none⟩,
 ⟨(some 27), .load none (.t 26), none⟩,
 ⟨(some 28), .faddr 0 (.t 2), none⟩,
 ⟨(some 29), .faddr 3 (.t 28), none⟩,
 ⟨(some 30), .load none (.t 29), none⟩,
 ⟨(some 31), .bin .sub (.t 27) (.t 30), none⟩,
 ⟨(some 32), .bin .quo (.t 24) (.t 31), none⟩,
 ⟨(some 4), .mv (.t 32), none⟩] [4])
 .ret))),
 [.t 4]⟩
-- aneroid/aneroidlaw01.sample
def c68 : CF := ⟨6,
 (.seq (.ops [
 ⟨(some 0), .alloc 25 10 [.int .i64 0, .int .i64 0, .int .i64 0, .int .i64 0, .int .i64 0, .int .i64 0, .int .i64 0, .int .i64 0, .int .i64 0, .int .i64 0], none⟩] [0])
 (.seq (.ops [
 ⟨(some 2), .build [.int .i64 0, .int .i64 0] [(0, 1, (.c (.int .i64 1000))), (1, 1, (.c (.int .i64 1000)))], none⟩,
 ⟨(some 1), .alloc 23 2 [.int .i64 0, .int .i64 0], none⟩,
 ⟨none, .store 2 (.t 1) (.t 2), none⟩] [0, 1])
 (.seq (.ops [
 ⟨(some 3), .load (some 2) (.t 1), none⟩,
 ⟨(some 4), .load (some 2) (.t 1), none⟩,
 ⟨(some 5), .build [.int .i64 0, .int .i64 0, .int .i64 0, .int .i64 0, .int .i64 0, .int .i64 0, .int .i64 0, .int .i64 0, .int .i64 0, .int .i64 0] [(0, 1, (.c (.int .i64 100))), (1, 1, (.c (.int .i64 1000))), (2, 1, (.c (.int .i64 1000))), (3, 1, (.c (.int .i64 9600))), (4, 1, (.c (.int .i64 10600))), (5, 1, (.c (.int .i64 4))), (6, 2, (.t 3)), (8, 2, (.t 4))], none⟩,
 ⟨none, .store 10 (.t 0) (.t 5), none⟩] [0])
 .ret))),
 [.c 0 (some 10)]⟩
-- aneroid/paper.at
def c69 : CF := ⟨29,
 (.seq (.ops [
 ⟨(some 3), .box false 25 10 (.t 0), none⟩,
 ⟨(some 6), .mv (.c (.int .i64 0)), none⟩,
 ⟨(some 7), .mv (.c (.int .i64 0)), none⟩] [1, 2, 3])
 (.seq (.ops [
 ⟨(some 11), .load (some 10) (.t 3), none⟩,
 ⟨(some 12), .call (.f 71) [(.t 11), (.c (.slice none 0 0))], none⟩,
 ⟨(some 10), .mv (.t 12), none⟩,
 ⟨(some 13), .ext 0 (.t 10), none⟩,
 ⟨(some 14), .ext 1 (.t 10), none⟩,
 ⟨(some 8), .alloc 85 10 [.int .i64 0, .int .i64 0, .int .i64 0, .int .i64 0, .int .i64 0, .int .i64 0, .int .i64 0, .int .i64 0, .int .i64 0, .int .i64 0], none⟩,
 ⟨none, .store 10 (.t 8) (.t 13), none⟩,
 ⟨(some 9), .mv (.t 14), none⟩] [1, 2, 3, 8, 9])
 (.seq (.block 0 (.seq (.ops [
 ⟨(some 16), .mv (.t 9), none⟩,
 ⟨(some 17), .bin .neq (.t 16) (.c (.int .i64 0)), none⟩,
 ⟨(some 15), .mv (.t 17), none⟩] [1, 2, 3, 8, 9, 15])
 (.cond (.t 15) (.seq (.ops [
 ⟨(some 18), .mv (.t 9), none⟩,
 ⟨(some 6), .mv (.c (.int .i64 0)), none⟩,
 ⟨(some 7), .mv (.t 18), none⟩] [6, 7])
 .ret)
 (.seq (.ops [
 ⟨(some 20), .mv (.t 1), none⟩,
 ⟨(some 21), .faddr 1 (.t 3), none⟩,
 ⟨(some 22), .load none (.t 21), none⟩,
 ⟨(some 23), .call (.f 72) [(.t 20), (.c (.int .i64 0)), (.t 22)], none⟩,
 ⟨(some 24), .un .not (.t 23), none⟩,
 ⟨(some 19), .mv (.t 24), none⟩] [1, 2, 8, 19])
 (.cond (.t 19) (.seq (.ops [
 ⟨(some 6), .mv (.c (.int .i64 0)), none⟩,
 ⟨(some 7), .mv (.c (.int .i64 1)), none⟩] [6, 7])
 .ret)
 .skip)))))
 (.seq (.ops [
 ⟨(some 25), .mv (.t 2), none⟩,
 ⟨(some 26), .load (some 10) (.t 8), none⟩,
 ⟨(some 27), .mv (.t 1), none⟩,
 ⟨(some 28), .call (.t 25) [(.t 26), (.t 27)], none⟩,
 ⟨(some 6), .mv (.t 28), none⟩,
 ⟨(some 7), .mv (.c (.int .i64 0)), none⟩] [6, 7])
 .ret)))),
 [.t 6, .t 7]⟩
-- aneroid/paper.Arc
def c19 : CF := ⟨11,
 (.seq (.ops [
 ⟨(some 2), .box false 25 10 (.t 0), none⟩,
 ⟨(some 4), .mv (.c (.int .i64 0)), none⟩,
 ⟨(some 5), .mv (.c (.int .i64 0)), none⟩] [1, 2])
 (.seq (.ops [
 ⟨(some 6), .load (some 10) (.t 2), none⟩,
 ⟨(some 7), .mv (.t 1), none⟩,
 ⟨(some 8), .call (.f 69) [(.t 6), (.t 7), (.f 70)], none⟩,
 ⟨(some 9), .ext 0 (.t 8), none⟩,
 ⟨(some 10), .ext 1 (.t 8), none⟩,
 ⟨(some 4), .mv (.t 9), none⟩,
 ⟨(some 5), .mv (.t 10), none⟩] [4, 5])
 .ret)),
 [.t 4, .t 5]⟩
-- aneroid/paper.Level
-- aneroid/paper.Heights
def c26 : CF := ⟨40,
 (.seq (.ops [
 ⟨(some 2), .box false 25 10 (.t 0), none⟩,
 ⟨(some 4), .alloc 23 2 [.int .i64 0, .int .i64 0], none⟩,
 ⟨(some 5), .mv (.c (.int .i64 0)), none⟩] [1, 2, 4])
 (.seq (.ops [
 ⟨(some 9), .load (some 10) (.t 2), none⟩,
 ⟨(some 10), .call (.f 71) [(.t 9), (.c (.slice none 0 0))], none⟩,
 ⟨(some 8), .mv (.t 10), none⟩,
 ⟨(some 11), .ext 0 (.t 8), none⟩,
 ⟨(some 12), .ext 1 (.t 8), none⟩,
 ⟨(some 6), .alloc 85 10 [.int .i64 0, .int .i64 0, .int .i64 0, .int .i64 0, .int .i64 0, .int .i64 0, .int .i64 0, .int .i64 0, .int .i64 0, .int .i64 0], none⟩,
 ⟨none, .store 10 (.t 6) (.t 11), none⟩,
 ⟨(some 7), .mv (.t 12), none⟩] [1, 2, 4, 6, 7])
 (.seq (.block 0 (.seq (.ops [
 ⟨(some 14), .mv (.t 7), none⟩,
 ⟨(some 15), .bin .neq (.t 14) (.c (.int .i64 0)), none⟩,
 ⟨(some 13), .mv (.t 15), none⟩] [1, 2, 4, 6, 7, 13])
 (.cond (.t 13) (.seq (.ops [
 ⟨(some 16), .build [.int .i64 0, .int .i64 0] [], none⟩,
 ⟨(some 17), .mv (.t 7), none⟩,
 ⟨none, .store 2 (.t 4) (.t 16), none⟩,
 ⟨(some 5), .mv (.t 17), none⟩] [4, 5])
 .ret)
 (.seq (.ops [
 ⟨(some 19), .mv (.t 1), none⟩,
 ⟨(some 20), .faddr 3 (.t 2), none⟩,
 ⟨(some 21), .load none (.t 20), none⟩,
 ⟨(some 22), .faddr 4 (.t 2), none⟩,
 ⟨(some 23), .load none (.t 22), none⟩,
 ⟨(some 24), .call (.f 72) [(.t 19), (.t 21), (.t 23)], none⟩,
 ⟨(some 25), .un .not (.t 24), none⟩,
 ⟨(some 18), .mv (.t 25), none⟩] [1, 4, 6, 18])
 (.cond (.t 18) (.seq (.ops [
 ⟨(some 26), .build [.int .i64 0, .int .i64 0] [], none⟩,
 ⟨none, .store 2 (.t 4) (.t 26), none⟩,
 ⟨(some 5), .mv (.c (.int .i64 1)), none⟩] [4, 5])
 .ret)
 .skip)))))
 (.seq (.draw [
 ⟨(some 27), .load (some 10) (.t 6), none⟩,
 ⟨(some 28), .mv (.t 1), none⟩,
 ⟨(some 29), .call (.f 79) [(.t 27), (.t 28)], none⟩,
 ⟨(some 30), .faddr 0 (.t 6), none⟩,
 ⟨(some 31), .faddr 1 (.t 30), none⟩,
 ⟨(some 32), .load none (.t 31), none⟩,
 ⟨(some 33), .load (some 10) (.t 6), none⟩,
 ⟨(some 34), .mv (.t 1), none⟩,
 ⟨(some 35), .bin .add (.t 34) (.c (.int .i64 1)), none⟩,
 ⟨(some 36), .call (.f 79) [(.t 33), (.t 35)], none⟩,
 ⟨(some 37), .bin .sub (.t 36) (.c (.int .i64 1)), none⟩,
 ⟨(some 38), .mnx false (.t 32) (.t 37), none⟩,
 ⟨(some 39), .build [.int .i64 0, .int .i64 0] [(0, 1, (.t 29)), (1, 1, (.t 38))], none⟩] [
 ⟨none, .store 2 (.t 4) (.t 39), none⟩,
 ⟨(some 5), .mv (.c (.int .i64 0)), none⟩] [4, 5])
 .ret)))),
 [.c 4 (some 2), .t 5]⟩

theorem k71 : chkF Try.prog Try.f71 c71 = true := by kernel_rfl
theorem k70 : chkF Try.prog Try.f70 c70 = true := by kernel_rfl
theorem k75 : chkF Try.prog Try.f75 c75 = true := by kernel_rfl
theorem k79 : chkF Try.prog Try.f79 c79 = true := by kernel_rfl
theorem k68 : chkF Try.prog Try.f68 c68 = true := by kernel_rfl
theorem k69 : chkF Try.prog Try.f69 c69 = true := by kernel_rfl
theorem k19 : chkF Try.prog Try.f19 c19 = true := by kernel_rfl
theorem k26 : chkF Try.prog Try.f26 c26 = true := by kernel_rfl

def Pp.z : Pp := ⟨0, 0, 0, 0, 0, 0, ⟨0, 0⟩, ⟨0, 0⟩⟩
def Pp.orz (p : Pp) : Pp := if p.good then p else Pp.z
theorem orz1 {p : Pp} (h : p.good) : p.orz = p := if_pos h
theorem orz0 {p : Pp} (h : ¬ p.good) : p.orz = Pp.z := if_neg h

theorem err0 {p : Pp} : p.err = 0 ↔ p.good := by
  unfold Pp.err
  split
  · exact ⟨fun _ => ‹_›, fun _ => rfl⟩
  · exact ⟨fun h => absurd h (by decide), fun h => absurd h ‹_›⟩
theorem err1 {p : Pp} (h : ¬ p.good) : p.err = 10 := by unfold Pp.err; rw [if_neg h]

theorem read_spec (p : Pp) (pts : List Pt) (hlen : pts.length < 1000000000) :
    Pure Try.prog 71 [.agg p.cs, ptS pts] (.tup [.agg p.orz.cs, n (if p.good then (traceErr pts).1 else 10)]) := by
  refine Pure.of_body Try.call71 Try.func71 k71 (Nat.le_of_ble_eq_true rfl) ?_
  unfold c71
  refine AWPC.of_vc ?_; simp only [zS, zU, vcC, lateX, ex, strp, cnd, binA, kseq, kblk, kret, klp, Abs.one, elems, cells, scalar, eqC, Nat.reduceBEq, Nat.reduceAdd, Nat.reduceSub, Nat.reduceLT, Nat.reduceLeDiff, Nat.reduceMul, Nat.reduceEqDiff, cond_true, cond_false, if_true, if_false, reduceIte, implies_true, forall_const, ne_eq]
  refine AWPC.of_vc ?_; simp only [zS, zU, vcC, lateX, ex, strp, cnd, binA, kseq, kblk, kret, klp, Abs.one, elems, cells, scalar, eqC, Nat.reduceBEq, Nat.reduceAdd, Nat.reduceSub, Nat.reduceLT, Nat.reduceLeDiff, Nat.reduceMul, Nat.reduceEqDiff, cond_true, cond_false, if_true, if_false, reduceIte, implies_true, forall_const, ne_eq]
  ((repeat (refine And.intro (by (intros; first | omega | (simp_all (config := { decide := false }); done) | fail)) ?_)); refine .inl ⟨_, _, _, _, rfl, fun _hc => ⟨by simp, checkPaper_spec p⟩, ?_⟩; refine owp_of_exs ?_; simp only [zS, zU, vcC, lateX, ex, strp, cnd, binA, kseq, kblk, kret, klp, Abs.one, elems, cells, scalar, eqC, Nat.reduceBEq, Nat.reduceAdd, Nat.reduceSub, Nat.reduceLT, Nat.reduceLeDiff, Nat.reduceMul, Nat.reduceEqDiff, cond_true, cond_false, if_true, if_false, reduceIte, implies_true, forall_const, ne_eq])
  refine AWPC.of_vc ?_; simp only [zS, zU, vcC, lateX, ex, strp, cnd, binA, kseq, kblk, kret, klp, Abs.one, elems, cells, scalar, eqC, Nat.reduceBEq, Nat.reduceAdd, Nat.reduceSub, Nat.reduceLT, Nat.reduceLeDiff, Nat.reduceMul, Nat.reduceEqDiff, cond_true, cond_false, if_true, if_false, reduceIte, implies_true, forall_const, ne_eq]
  refine AWPC.of_vc ?_; simp only [zS, zU, vcC, lateX, ex, strp, cnd, binA, kseq, kblk, kret, klp, Abs.one, elems, cells, scalar, eqC, Nat.reduceBEq, Nat.reduceAdd, Nat.reduceSub, Nat.reduceLT, Nat.reduceLeDiff, Nat.reduceMul, Nat.reduceEqDiff, cond_true, cond_false, if_true, if_false, reduceIte, implies_true, forall_const, ne_eq]
  refine ⟨fun hg => ?_, fun hg => ?_⟩ <;> rw [err0] at hg
  · refine AWPC.of_vc ?_; simp only [zS, zU, vcC, lateX, ex, strp, cnd, binA, kseq, kblk, kret, klp, Abs.one, elems, cells, scalar, eqC, Nat.reduceBEq, Nat.reduceAdd, Nat.reduceSub, Nat.reduceLT, Nat.reduceLeDiff, Nat.reduceMul, Nat.reduceEqDiff, cond_true, cond_false, if_true, if_false, reduceIte, implies_true, forall_const, ne_eq]
    refine AWPC.of_vc ?_; simp only [zS, zU, vcC, lateX, ex, strp, cnd, binA, kseq, kblk, kret, klp, Abs.one, elems, cells, scalar, eqC, Nat.reduceBEq, Nat.reduceAdd, Nat.reduceSub, Nat.reduceLT, Nat.reduceLeDiff, Nat.reduceMul, Nat.reduceEqDiff, cond_true, cond_false, if_true, if_false, reduceIte, implies_true, forall_const, ne_eq]
    refine Frz.eq ?_ (by simp)
    rw [if_neg hg, orz0 hg, err1 hg]; rfl
  · refine AWPC.of_vc ?_; simp only [zS, zU, vcC, lateX, ex, strp, cnd, binA, kseq, kblk, kret, klp, Abs.one, elems, cells, scalar, eqC, Nat.reduceBEq, Nat.reduceAdd, Nat.reduceSub, Nat.reduceLT, Nat.reduceLeDiff, Nat.reduceMul, Nat.reduceEqDiff, cond_true, cond_false, if_true, if_false, reduceIte, implies_true, forall_const, ne_eq]
    refine AWPC.of_vc ?_; simp only [zS, zU, vcC, lateX, ex, strp, cnd, binA, kseq, kblk, kret, klp, Abs.one, elems, cells, scalar, eqC, Nat.reduceBEq, Nat.reduceAdd, Nat.reduceSub, Nat.reduceLT, Nat.reduceLeDiff, Nat.reduceMul, Nat.reduceEqDiff, cond_true, cond_false, if_true, if_false, reduceIte, implies_true, forall_const, ne_eq]
    ((repeat (refine And.intro (by (intros; first | omega | (simp_all (config := { decide := false }); done) | fail)) ?_)); refine .inl ⟨_, _, _, _, rfl, fun _hc => ⟨by simp, checkTrace_spec pts hlen⟩, ?_⟩; refine owp_of_exs ?_; simp only [zS, zU, vcC, lateX, ex, strp, cnd, binA, kseq, kblk, kret, klp, Abs.one, elems, cells, scalar, eqC, Nat.reduceBEq, Nat.reduceAdd, Nat.reduceSub, Nat.reduceLT, Nat.reduceLeDiff, Nat.reduceMul, Nat.reduceEqDiff, cond_true, cond_false, if_true, if_false, reduceIte, implies_true, forall_const, ne_eq])
    refine AWPC.of_vc ?_; simp only [zS, zU, vcC, lateX, ex, strp, cnd, binA, kseq, kblk, kret, klp, Abs.one, elems, cells, scalar, eqC, Nat.reduceBEq, Nat.reduceAdd, Nat.reduceSub, Nat.reduceLT, Nat.reduceLeDiff, Nat.reduceMul, Nat.reduceEqDiff, cond_true, cond_false, if_true, if_false, reduceIte, implies_true, forall_const, ne_eq]
    refine AWPC.of_vc ?_; simp only [zS, zU, vcC, lateX, ex, strp, cnd, binA, kseq, kblk, kret, klp, Abs.one, elems, cells, scalar, eqC, Nat.reduceBEq, Nat.reduceAdd, Nat.reduceSub, Nat.reduceLT, Nat.reduceLeDiff, Nat.reduceMul, Nat.reduceEqDiff, cond_true, cond_false, if_true, if_false, reduceIte, implies_true, forall_const, ne_eq]
    refine Frz.eq ?_ (by simp)
    rw [if_pos hg, orz1 hg]

theorem read0_spec (p : Pp) : Pure Try.prog 71 [.agg p.cs, .v (.slice none 0 0)] (.tup [.agg p.orz.cs, n p.err]) := by
  have h := read_spec p [] (by simp)
  refine Pure.args (args' := [.agg p.cs, ptS []]) rfl (fun i hi w X x hx => ?_) h
  match i, hi with
  | 0, _ => exact hx
  | 1, _ => exact hx.nil

def Pp.arc (p : Pp) (y : Int) : Int := if p.ra = 0 then 0 else (y * (p.he - y)).tdiv (2 * p.ra)
def Pp.level (p : Pp) (y : Int) : Int := p.lo + (y * (p.hi - p.lo)).tdiv p.he
def Pp.least (p : Pp) (l : Int) : Int := ((l - p.lo) * p.he + p.hi - p.lo - 1).tdiv (p.hi - p.lo)

theorem tdiv_bd {a b A : Int} (h1 : 0 ≤ a) (h2 : a ≤ A) (h3 : 1 ≤ b) : 0 ≤ a.tdiv b ∧ a.tdiv b ≤ A := by
  rw [Int.tdiv_eq_ediv_of_nonneg h1]
  exact ⟨Int.ediv_nonneg h1 (by omega), Int.le_trans (Int.ediv_le_self b h1) h2⟩

theorem arc_spec (p : Pp) (y : Int) (hg : p.good) (h0 : 0 ≤ y) (h1 : y ≤ p.he) : Pure Try.prog 70 [.agg p.cs, n y] (n (p.arc y)) := by
  refine Pure.of_body Try.call70 Try.func70 k70 (Nat.le_of_ble_eq_true rfl) ?_
  unfold c70
  obtain ⟨g1, g2, g3, g4, g5, g6, g7, g8, g9, g10, g11, g12, g13⟩ := hg
  have hm := mul_bd h0 (show y ≤ 400000 by omega) (show 0 ≤ p.he - y by omega) (show p.he - y ≤ 400000 by omega)
  refine AWPC.of_vc ?_; simp only [zS, zU, vcC, lateX, ex, strp, cnd, binA, kseq, kblk, kret, klp, Abs.one, elems, cells, scalar, eqC, Nat.reduceBEq, Nat.reduceAdd, Nat.reduceSub, Nat.reduceLT, Nat.reduceLeDiff, Nat.reduceMul, Nat.reduceEqDiff, cond_true, cond_false, if_true, if_false, reduceIte, implies_true, forall_const, ne_eq]
  refine AWPC.of_vc ?_; simp only [zS, zU, vcC, lateX, ex, strp, cnd, binA, kseq, kblk, kret, klp, Abs.one, elems, cells, scalar, eqC, Nat.reduceBEq, Nat.reduceAdd, Nat.reduceSub, Nat.reduceLT, Nat.reduceLeDiff, Nat.reduceMul, Nat.reduceEqDiff, cond_true, cond_false, if_true, if_false, reduceIte, implies_true, forall_const, ne_eq]
  refine AWPC.of_vc ?_; simp only [zS, zU, vcC, lateX, ex, strp, cnd, binA, kseq, kblk, kret, klp, Abs.one, elems, cells, scalar, eqC, Nat.reduceBEq, Nat.reduceAdd, Nat.reduceSub, Nat.reduceLT, Nat.reduceLeDiff, Nat.reduceMul, Nat.reduceEqDiff, cond_true, cond_false, if_true, if_false, reduceIte, implies_true, forall_const, ne_eq]
  refine ⟨fun hr => ?_, fun hr => ?_⟩
  · refine AWPC.of_vc ?_; simp only [zS, zU, vcC, lateX, ex, strp, cnd, binA, kseq, kblk, kret, klp, Abs.one, elems, cells, scalar, eqC, Nat.reduceBEq, Nat.reduceAdd, Nat.reduceSub, Nat.reduceLT, Nat.reduceLeDiff, Nat.reduceMul, Nat.reduceEqDiff, cond_true, cond_false, if_true, if_false, reduceIte, implies_true, forall_const, ne_eq]
    refine AWPC.of_vc ?_; simp only [zS, zU, vcC, lateX, ex, strp, cnd, binA, kseq, kblk, kret, klp, Abs.one, elems, cells, scalar, eqC, Nat.reduceBEq, Nat.reduceAdd, Nat.reduceSub, Nat.reduceLT, Nat.reduceLeDiff, Nat.reduceMul, Nat.reduceEqDiff, cond_true, cond_false, if_true, if_false, reduceIte, implies_true, forall_const, ne_eq]
    refine Frz.eq ?_ (by simp)
    rw [Pp.arc, if_pos hr]
  · have hr1 : 1 ≤ p.ra ∧ p.ra ≤ 4000000 := by omega
    have hd := tdiv_bd hm.1 hm.2 (show 1 ≤ 2 * p.ra by omega)
    refine AWPC.of_vc ?_; simp only [zS, zU, vcC, lateX, ex, strp, cnd, binA, kseq, kblk, kret, klp, Abs.one, elems, cells, scalar, eqC, Nat.reduceBEq, Nat.reduceAdd, Nat.reduceSub, Nat.reduceLT, Nat.reduceLeDiff, Nat.reduceMul, Nat.reduceEqDiff, cond_true, cond_false, if_true, if_false, reduceIte, implies_true, forall_const, ne_eq]
    (refine AWPC.of_vc ?_; simp only [zS, zU, vcC, lateX, ex, strp, cnd, binA, kseq, kblk, kret, klp, Abs.one, elems, cells, scalar, eqC, Nat.reduceBEq, Nat.reduceAdd, Nat.reduceSub, Nat.reduceLT, Nat.reduceLeDiff, Nat.reduceMul, Nat.reduceEqDiff, cond_true, cond_false, if_true, if_false, reduceIte, implies_true, forall_const, ne_eq, wr64 (p.he - y) (by omega) (by omega), wr64 (y * (p.he - y)) (by omega) (by omega), wr64 (2 * p.ra) (by omega) (by omega), wr64 ((y * (p.he - y)).tdiv (2 * p.ra)) (by omega) (by omega)])
    refine ⟨by omega, ?_⟩
    refine AWPC.of_vc ?_; simp only [zS, zU, vcC, lateX, ex, strp, cnd, binA, kseq, kblk, kret, klp, Abs.one, elems, cells, scalar, eqC, Nat.reduceBEq, Nat.reduceAdd, Nat.reduceSub, Nat.reduceLT, Nat.reduceLeDiff, Nat.reduceMul, Nat.reduceEqDiff, cond_true, cond_false, if_true, if_false, reduceIte, implies_true, forall_const, ne_eq]
    refine Frz.eq ?_ (by simp)
    rw [Pp.arc, if_neg hr]

theorem level_spec (p : Pp) (y : Int) (hg : p.good) (h0 : 0 ≤ y) (h1 : y ≤ p.he) : Pure Try.prog 75 [.agg p.cs, n y] (n (p.level y)) := by
  refine Pure.of_body Try.call75 Try.func75 k75 (Nat.le_of_ble_eq_true rfl) ?_
  unfold c75
  obtain ⟨g1, g2, g3, g4, g5, g6, g7, g8, g9, g10, g11, g12, g13⟩ := hg
  have hm := mul_bd h0 (show y ≤ 400000 by omega) (show 0 ≤ p.hi - p.lo by omega) (show p.hi - p.lo ≤ 12000 by omega)
  have hd := tdiv_bd hm.1 hm.2 (show 1 ≤ p.he by omega)
  refine AWPC.of_vc ?_; simp only [zS, zU, vcC, lateX, ex, strp, cnd, binA, kseq, kblk, kret, klp, Abs.one, elems, cells, scalar, eqC, Nat.reduceBEq, Nat.reduceAdd, Nat.reduceSub, Nat.reduceLT, Nat.reduceLeDiff, Nat.reduceMul, Nat.reduceEqDiff, cond_true, cond_false, if_true, if_false, reduceIte, implies_true, forall_const, ne_eq]
  (refine AWPC.of_vc ?_; simp only [zS, zU, vcC, lateX, ex, strp, cnd, binA, kseq, kblk, kret, klp, Abs.one, elems, cells, scalar, eqC, Nat.reduceBEq, Nat.reduceAdd, Nat.reduceSub, Nat.reduceLT, Nat.reduceLeDiff, Nat.reduceMul, Nat.reduceEqDiff, cond_true, cond_false, if_true, if_false, reduceIte, implies_true, forall_const, ne_eq, wr64 (p.hi - p.lo) (by omega) (by omega), wr64 (y * (p.hi - p.lo)) (by omega) (by omega), wr64 ((y * (p.hi - p.lo)).tdiv p.he) (by omega) (by omega), wr64 (p.lo + (y * (p.hi - p.lo)).tdiv p.he) (by omega) (by omega)])
  refine ⟨by omega, ?_⟩
  refine AWPC.of_vc ?_; simp only [zS, zU, vcC, lateX, ex, strp, cnd, binA, kseq, kblk, kret, klp, Abs.one, elems, cells, scalar, eqC, Nat.reduceBEq, Nat.reduceAdd, Nat.reduceSub, Nat.reduceLT, Nat.reduceLeDiff, Nat.reduceMul, Nat.reduceEqDiff, cond_true, cond_false, if_true, if_false, reduceIte, implies_true, forall_const, ne_eq]
  exact Frz.eq rfl (by simp)

theorem least_spec (p : Pp) (l : Int) (hg : p.good) (h0 : p.lo ≤ l) (h1 : l ≤ p.hi + 1) : Pure Try.prog 79 [.agg p.cs, n l] (n (p.least l)) := by
  refine Pure.of_body Try.call79 Try.func79 k79 (Nat.le_of_ble_eq_true rfl) ?_
  unfold c79
  obtain ⟨g1, g2, g3, g4, g5, g6, g7, g8, g9, g10, g11, g12, g13⟩ := hg
  have hm := mul_bd (show 0 ≤ l - p.lo by omega) (show l - p.lo ≤ 12001 by omega) (show 0 ≤ p.he by omega) (show p.he ≤ 400000 by omega)
  have hd := tdiv_bd (show 0 ≤ (l - p.lo) * p.he + p.hi - p.lo - 1 by omega) (show (l - p.lo) * p.he + p.hi - p.lo - 1 ≤ 12001 * 400000 + 12000 by omega) (show 1 ≤ p.hi - p.lo by omega)
  refine AWPC.of_vc ?_; simp only [zS, zU, vcC, lateX, ex, strp, cnd, binA, kseq, kblk, kret, klp, Abs.one, elems, cells, scalar, eqC, Nat.reduceBEq, Nat.reduceAdd, Nat.reduceSub, Nat.reduceLT, Nat.reduceLeDiff, Nat.reduceMul, Nat.reduceEqDiff, cond_true, cond_false, if_true, if_false, reduceIte, implies_true, forall_const, ne_eq]
  (refine AWPC.of_vc ?_; simp only [zS, zU, vcC, lateX, ex, strp, cnd, binA, kseq, kblk, kret, klp, Abs.one, elems, cells, scalar, eqC, Nat.reduceBEq, Nat.reduceAdd, Nat.reduceSub, Nat.reduceLT, Nat.reduceLeDiff, Nat.reduceMul, Nat.reduceEqDiff, cond_true, cond_false, if_true, if_false, reduceIte, implies_true, forall_const, ne_eq, wr64 (l - p.lo) (by omega) (by omega)])
  (refine AWPC.of_vc ?_; simp only [zS, zU, vcC, lateX, ex, strp, cnd, binA, kseq, kblk, kret, klp, Abs.one, elems, cells, scalar, eqC, Nat.reduceBEq, Nat.reduceAdd, Nat.reduceSub, Nat.reduceLT, Nat.reduceLeDiff, Nat.reduceMul, Nat.reduceEqDiff, cond_true, cond_false, if_true, if_false, reduceIte, implies_true, forall_const, ne_eq, wr64 ((l - p.lo) * p.he) (by omega) (by omega), wr64 ((l - p.lo) * p.he + p.hi) (by omega) (by omega), wr64 ((l - p.lo) * p.he + p.hi - p.lo) (by omega) (by omega), wr64 ((l - p.lo) * p.he + p.hi - p.lo - 1) (by omega) (by omega), wr64 (p.hi - p.lo) (by omega) (by omega), wr64 (((l - p.lo) * p.he + p.hi - p.lo - 1).tdiv (p.hi - p.lo)) (by omega) (by omega)])
  refine ⟨by omega, ?_⟩
  refine AWPC.of_vc ?_; simp only [zS, zU, vcC, lateX, ex, strp, cnd, binA, kseq, kblk, kret, klp, Abs.one, elems, cells, scalar, eqC, Nat.reduceBEq, Nat.reduceAdd, Nat.reduceSub, Nat.reduceLT, Nat.reduceLeDiff, Nat.reduceMul, Nat.reduceEqDiff, cond_true, cond_false, if_true, if_false, reduceIte, implies_true, forall_const, ne_eq]
  exact Frz.eq rfl (by simp)

def sample : Pp := ⟨100, 1000, 1000, 9600, 10600, 4, ⟨1000, 1000⟩, ⟨1000, 1000⟩⟩

theorem sample_spec : Pure Try.prog 68 [] (.agg sample.cs) := by
  refine Pure.of_body Try.call68 Try.func68 k68 (Nat.le_of_ble_eq_true rfl) ?_
  unfold c68
  refine AWPC.of_vc ?_; simp only [zS, zU, vcC, lateX, ex, strp, cnd, binA, kseq, kblk, kret, klp, Abs.one, elems, cells, scalar, eqC, Nat.reduceBEq, Nat.reduceAdd, Nat.reduceSub, Nat.reduceLT, Nat.reduceLeDiff, Nat.reduceMul, Nat.reduceEqDiff, cond_true, cond_false, if_true, if_false, reduceIte, implies_true, forall_const, ne_eq]
  refine AWPC.of_vc ?_; simp only [zS, zU, vcC, lateX, ex, strp, cnd, binA, kseq, kblk, kret, klp, Abs.one, elems, cells, scalar, eqC, Nat.reduceBEq, Nat.reduceAdd, Nat.reduceSub, Nat.reduceLT, Nat.reduceLeDiff, Nat.reduceMul, Nat.reduceEqDiff, cond_true, cond_false, if_true, if_false, reduceIte, implies_true, forall_const, ne_eq]
  refine AWPC.of_vc ?_; simp only [zS, zU, vcC, lateX, ex, strp, cnd, binA, kseq, kblk, kret, klp, Abs.one, elems, cells, scalar, eqC, Nat.reduceBEq, Nat.reduceAdd, Nat.reduceSub, Nat.reduceLT, Nat.reduceLeDiff, Nat.reduceMul, Nat.reduceEqDiff, cond_true, cond_false, if_true, if_false, reduceIte, implies_true, forall_const, ne_eq]
  refine AWPC.of_vc ?_; simp only [zS, zU, vcC, lateX, ex, strp, cnd, binA, kseq, kblk, kret, klp, Abs.one, elems, cells, scalar, eqC, Nat.reduceBEq, Nat.reduceAdd, Nat.reduceSub, Nat.reduceLT, Nat.reduceLeDiff, Nat.reduceMul, Nat.reduceEqDiff, cond_true, cond_false, if_true, if_false, reduceIte, implies_true, forall_const, ne_eq]
  exact Frz.eq rfl (by simp)

theorem at_spec (p : Pp) (y : Int) (f : Nat) (r : Int) (h : p.good → 0 ≤ y → y ≤ p.he → Pure Try.prog f [.agg p.cs, n y] (n r)) :
    Pure Try.prog 69 [.agg p.cs, n y, .fn (.func f) [] []] (.tup [n (if p.good ∧ 0 ≤ y ∧ y ≤ p.he then r else 0), n (if p.good then (if 0 ≤ y ∧ y ≤ p.he then 0 else 1) else 10)]) := by
  refine Pure.of_body Try.call69 Try.func69 k69 (Nat.le_of_ble_eq_true rfl) ?_
  unfold c69
  refine AWPC.of_vc ?_; simp only [zS, zU, vcC, lateX, ex, strp, cnd, binA, kseq, kblk, kret, klp, Abs.one, elems, cells, scalar, eqC, Nat.reduceBEq, Nat.reduceAdd, Nat.reduceSub, Nat.reduceLT, Nat.reduceLeDiff, Nat.reduceMul, Nat.reduceEqDiff, cond_true, cond_false, if_true, if_false, reduceIte, implies_true, forall_const, ne_eq]
  refine AWPC.of_vc ?_; simp only [zS, zU, vcC, lateX, ex, strp, cnd, binA, kseq, kblk, kret, klp, Abs.one, elems, cells, scalar, eqC, Nat.reduceBEq, Nat.reduceAdd, Nat.reduceSub, Nat.reduceLT, Nat.reduceLeDiff, Nat.reduceMul, Nat.reduceEqDiff, cond_true, cond_false, if_true, if_false, reduceIte, implies_true, forall_const, ne_eq]
  ((repeat (refine And.intro (by (intros; first | omega | (simp_all (config := { decide := false }); done) | fail)) ?_)); refine .inl ⟨_, _, _, _, rfl, fun _hc => ⟨by simp, read0_spec p⟩, ?_⟩; refine owp_of_exs ?_; simp only [zS, zU, vcC, lateX, ex, strp, cnd, binA, kseq, kblk, kret, klp, Abs.one, elems, cells, scalar, eqC, Nat.reduceBEq, Nat.reduceAdd, Nat.reduceSub, Nat.reduceLT, Nat.reduceLeDiff, Nat.reduceMul, Nat.reduceEqDiff, cond_true, cond_false, if_true, if_false, reduceIte, implies_true, forall_const, ne_eq])
  refine AWPC.of_vc ?_; simp only [zS, zU, vcC, lateX, ex, strp, cnd, binA, kseq, kblk, kret, klp, Abs.one, elems, cells, scalar, eqC, Nat.reduceBEq, Nat.reduceAdd, Nat.reduceSub, Nat.reduceLT, Nat.reduceLeDiff, Nat.reduceMul, Nat.reduceEqDiff, cond_true, cond_false, if_true, if_false, reduceIte, implies_true, forall_const, ne_eq]
  refine AWPC.of_vc ?_; simp only [zS, zU, vcC, lateX, ex, strp, cnd, binA, kseq, kblk, kret, klp, Abs.one, elems, cells, scalar, eqC, Nat.reduceBEq, Nat.reduceAdd, Nat.reduceSub, Nat.reduceLT, Nat.reduceLeDiff, Nat.reduceMul, Nat.reduceEqDiff, cond_true, cond_false, if_true, if_false, reduceIte, implies_true, forall_const, ne_eq]
  refine ⟨fun hg => ?_, fun hg => ?_⟩ <;> rw [err0] at hg
  · refine AWPC.of_vc ?_; simp only [zS, zU, vcC, lateX, ex, strp, cnd, binA, kseq, kblk, kret, klp, Abs.one, elems, cells, scalar, eqC, Nat.reduceBEq, Nat.reduceAdd, Nat.reduceSub, Nat.reduceLT, Nat.reduceLeDiff, Nat.reduceMul, Nat.reduceEqDiff, cond_true, cond_false, if_true, if_false, reduceIte, implies_true, forall_const, ne_eq]
    refine AWPC.of_vc ?_; simp only [zS, zU, vcC, lateX, ex, strp, cnd, binA, kseq, kblk, kret, klp, Abs.one, elems, cells, scalar, eqC, Nat.reduceBEq, Nat.reduceAdd, Nat.reduceSub, Nat.reduceLT, Nat.reduceLeDiff, Nat.reduceMul, Nat.reduceEqDiff, cond_true, cond_false, if_true, if_false, reduceIte, implies_true, forall_const, ne_eq]
    refine Frz.eq ?_ (by simp)
    rw [if_neg (fun h => hg h.1), if_neg hg, err1 hg]
  · refine AWPC.of_vc ?_; simp only [zS, zU, vcC, lateX, ex, strp, cnd, binA, kseq, kblk, kret, klp, Abs.one, elems, cells, scalar, eqC, Nat.reduceBEq, Nat.reduceAdd, Nat.reduceSub, Nat.reduceLT, Nat.reduceLeDiff, Nat.reduceMul, Nat.reduceEqDiff, cond_true, cond_false, if_true, if_false, reduceIte, implies_true, forall_const, ne_eq]
    rw [orz1 hg]
    ((repeat (refine And.intro (by (intros; first | omega | (simp_all (config := { decide := false }); done) | fail)) ?_)); refine .inl ⟨_, _, _, _, rfl, fun _hc => ⟨by simp, within_spec _ _ _⟩, ?_⟩; refine owp_of_exs ?_; simp only [zS, zU, vcC, lateX, ex, strp, cnd, binA, kseq, kblk, kret, klp, Abs.one, elems, cells, scalar, eqC, Nat.reduceBEq, Nat.reduceAdd, Nat.reduceSub, Nat.reduceLT, Nat.reduceLeDiff, Nat.reduceMul, Nat.reduceEqDiff, cond_true, cond_false, if_true, if_false, reduceIte, implies_true, forall_const, ne_eq])
    refine AWPC.of_vc ?_; simp only [zS, zU, vcC, lateX, ex, strp, cnd, binA, kseq, kblk, kret, klp, Abs.one, elems, cells, scalar, eqC, Nat.reduceBEq, Nat.reduceAdd, Nat.reduceSub, Nat.reduceLT, Nat.reduceLeDiff, Nat.reduceMul, Nat.reduceEqDiff, cond_true, cond_false, if_true, if_false, reduceIte, implies_true, forall_const, ne_eq]
    refine ⟨fun hy => ?_, fun hy => ?_⟩
    · refine AWPC.of_vc ?_; simp only [zS, zU, vcC, lateX, ex, strp, cnd, binA, kseq, kblk, kret, klp, Abs.one, elems, cells, scalar, eqC, Nat.reduceBEq, Nat.reduceAdd, Nat.reduceSub, Nat.reduceLT, Nat.reduceLeDiff, Nat.reduceMul, Nat.reduceEqDiff, cond_true, cond_false, if_true, if_false, reduceIte, implies_true, forall_const, ne_eq]
      refine AWPC.of_vc ?_; simp only [zS, zU, vcC, lateX, ex, strp, cnd, binA, kseq, kblk, kret, klp, Abs.one, elems, cells, scalar, eqC, Nat.reduceBEq, Nat.reduceAdd, Nat.reduceSub, Nat.reduceLT, Nat.reduceLeDiff, Nat.reduceMul, Nat.reduceEqDiff, cond_true, cond_false, if_true, if_false, reduceIte, implies_true, forall_const, ne_eq]
      refine Frz.eq ?_ (by simp)
      rw [if_neg (fun h => hy h.2), if_pos hg, if_neg hy]
    · refine AWPC.of_vc ?_; simp only [zS, zU, vcC, lateX, ex, strp, cnd, binA, kseq, kblk, kret, klp, Abs.one, elems, cells, scalar, eqC, Nat.reduceBEq, Nat.reduceAdd, Nat.reduceSub, Nat.reduceLT, Nat.reduceLeDiff, Nat.reduceMul, Nat.reduceEqDiff, cond_true, cond_false, if_true, if_false, reduceIte, implies_true, forall_const, ne_eq]
      refine AWPC.of_vc ?_; simp only [zS, zU, vcC, lateX, ex, strp, cnd, binA, kseq, kblk, kret, klp, Abs.one, elems, cells, scalar, eqC, Nat.reduceBEq, Nat.reduceAdd, Nat.reduceSub, Nat.reduceLT, Nat.reduceLeDiff, Nat.reduceMul, Nat.reduceEqDiff, cond_true, cond_false, if_true, if_false, reduceIte, implies_true, forall_const, ne_eq]
      ((repeat (refine And.intro (by (intros; first | omega | (simp_all (config := { decide := false }); done) | fail)) ?_)); refine .inl ⟨_, _, _, _, rfl, fun _hc => ⟨by simp, h hg hy.1 hy.2⟩, ?_⟩; refine owp_of_exs ?_; simp only [zS, zU, vcC, lateX, ex, strp, cnd, binA, kseq, kblk, kret, klp, Abs.one, elems, cells, scalar, eqC, Nat.reduceBEq, Nat.reduceAdd, Nat.reduceSub, Nat.reduceLT, Nat.reduceLeDiff, Nat.reduceMul, Nat.reduceEqDiff, cond_true, cond_false, if_true, if_false, reduceIte, implies_true, forall_const, ne_eq])
      refine AWPC.of_vc ?_; simp only [zS, zU, vcC, lateX, ex, strp, cnd, binA, kseq, kblk, kret, klp, Abs.one, elems, cells, scalar, eqC, Nat.reduceBEq, Nat.reduceAdd, Nat.reduceSub, Nat.reduceLT, Nat.reduceLeDiff, Nat.reduceMul, Nat.reduceEqDiff, cond_true, cond_false, if_true, if_false, reduceIte, implies_true, forall_const, ne_eq]
      refine Frz.eq ?_ (by simp)
      rw [if_pos ⟨hg, hy⟩, if_pos hg, if_pos hy]

abbrev Pp.yerr (p : Pp) (y : Int) : Int := if p.good then (if 0 ≤ y ∧ y ≤ p.he then 0 else 1) else 10

theorem Arc_spec (p : Pp) (y : Int) : Pure Try.prog 19 [.agg p.cs, n y] (.tup [n (if p.good ∧ 0 ≤ y ∧ y ≤ p.he then p.arc y else 0), n (p.yerr y)]) := by
  refine Pure.of_body Try.call19 Try.func19 k19 (Nat.le_of_ble_eq_true rfl) ?_
  unfold c19
  refine AWPC.of_vc ?_; simp only [zS, zU, vcC, lateX, ex, strp, cnd, binA, kseq, kblk, kret, klp, Abs.one, elems, cells, scalar, eqC, Nat.reduceBEq, Nat.reduceAdd, Nat.reduceSub, Nat.reduceLT, Nat.reduceLeDiff, Nat.reduceMul, Nat.reduceEqDiff, cond_true, cond_false, if_true, if_false, reduceIte, implies_true, forall_const, ne_eq]
  refine AWPC.of_vc ?_; simp only [zS, zU, vcC, lateX, ex, strp, cnd, binA, kseq, kblk, kret, klp, Abs.one, elems, cells, scalar, eqC, Nat.reduceBEq, Nat.reduceAdd, Nat.reduceSub, Nat.reduceLT, Nat.reduceLeDiff, Nat.reduceMul, Nat.reduceEqDiff, cond_true, cond_false, if_true, if_false, reduceIte, implies_true, forall_const, ne_eq]
  ((repeat (refine And.intro (by (intros; first | omega | (simp_all (config := { decide := false }); done) | fail)) ?_)); refine .inl ⟨_, _, _, _, rfl, fun _hc => ⟨by simp, at_spec p y 70 (p.arc y) (fun hg h0 h1 => arc_spec p y hg h0 h1)⟩, ?_⟩; refine owp_of_exs ?_; simp only [zS, zU, vcC, lateX, ex, strp, cnd, binA, kseq, kblk, kret, klp, Abs.one, elems, cells, scalar, eqC, Nat.reduceBEq, Nat.reduceAdd, Nat.reduceSub, Nat.reduceLT, Nat.reduceLeDiff, Nat.reduceMul, Nat.reduceEqDiff, cond_true, cond_false, if_true, if_false, reduceIte, implies_true, forall_const, ne_eq])
  refine AWPC.of_vc ?_; simp only [zS, zU, vcC, lateX, ex, strp, cnd, binA, kseq, kblk, kret, klp, Abs.one, elems, cells, scalar, eqC, Nat.reduceBEq, Nat.reduceAdd, Nat.reduceSub, Nat.reduceLT, Nat.reduceLeDiff, Nat.reduceMul, Nat.reduceEqDiff, cond_true, cond_false, if_true, if_false, reduceIte, implies_true, forall_const, ne_eq]
  exact Frz.eq rfl (by simp)

theorem least_bd (p : Pp) (l : Int) (hg : p.good) (h0 : p.lo ≤ l) (h1 : l ≤ p.hi + 1) : 0 ≤ p.least l ∧ p.least l ≤ 12001 * 400000 + 12000 := by
  obtain ⟨g1, g2, g3, g4, g5, g6, g7, g8, g9, g10, g11, g12, g13⟩ := hg
  have hm := mul_bd (show 0 ≤ l - p.lo by omega) (show l - p.lo ≤ 12001 by omega) (show 0 ≤ p.he by omega) (show p.he ≤ 400000 by omega)
  exact tdiv_bd (show 0 ≤ (l - p.lo) * p.he + p.hi - p.lo - 1 by omega) (show (l - p.lo) * p.he + p.hi - p.lo - 1 ≤ 12001 * 400000 + 12000 by omega) (show 1 ≤ p.hi - p.lo by omega)

theorem Heights_spec (p : Pp) (l : Int) : Pure Try.prog 26 [.agg p.cs, n l] (.tup [.agg (if p.good ∧ p.lo ≤ l ∧ l ≤ p.hi then [n (p.least l), n (min p.he (p.least (l + 1) - 1))] else [n 0, n 0]),
    n (if p.good then (if p.lo ≤ l ∧ l ≤ p.hi then 0 else 1) else 10)]) := by
  refine Pure.of_body Try.call26 Try.func26 k26 (Nat.le_of_ble_eq_true rfl) ?_
  unfold c26
  refine AWPC.of_vc ?_; simp only [zS, zU, vcC, lateX, ex, strp, cnd, binA, kseq, kblk, kret, klp, Abs.one, elems, cells, scalar, eqC, Nat.reduceBEq, Nat.reduceAdd, Nat.reduceSub, Nat.reduceLT, Nat.reduceLeDiff, Nat.reduceMul, Nat.reduceEqDiff, cond_true, cond_false, if_true, if_false, reduceIte, implies_true, forall_const, ne_eq]
  refine AWPC.of_vc ?_; simp only [zS, zU, vcC, lateX, ex, strp, cnd, binA, kseq, kblk, kret, klp, Abs.one, elems, cells, scalar, eqC, Nat.reduceBEq, Nat.reduceAdd, Nat.reduceSub, Nat.reduceLT, Nat.reduceLeDiff, Nat.reduceMul, Nat.reduceEqDiff, cond_true, cond_false, if_true, if_false, reduceIte, implies_true, forall_const, ne_eq]
  ((repeat (refine And.intro (by (intros; first | omega | (simp_all (config := { decide := false }); done) | fail)) ?_)); refine .inl ⟨_, _, _, _, rfl, fun _hc => ⟨by simp, read0_spec p⟩, ?_⟩; refine owp_of_exs ?_; simp only [zS, zU, vcC, lateX, ex, strp, cnd, binA, kseq, kblk, kret, klp, Abs.one, elems, cells, scalar, eqC, Nat.reduceBEq, Nat.reduceAdd, Nat.reduceSub, Nat.reduceLT, Nat.reduceLeDiff, Nat.reduceMul, Nat.reduceEqDiff, cond_true, cond_false, if_true, if_false, reduceIte, implies_true, forall_const, ne_eq])
  refine AWPC.of_vc ?_; simp only [zS, zU, vcC, lateX, ex, strp, cnd, binA, kseq, kblk, kret, klp, Abs.one, elems, cells, scalar, eqC, Nat.reduceBEq, Nat.reduceAdd, Nat.reduceSub, Nat.reduceLT, Nat.reduceLeDiff, Nat.reduceMul, Nat.reduceEqDiff, cond_true, cond_false, if_true, if_false, reduceIte, implies_true, forall_const, ne_eq]
  refine AWPC.of_vc ?_; simp only [zS, zU, vcC, lateX, ex, strp, cnd, binA, kseq, kblk, kret, klp, Abs.one, elems, cells, scalar, eqC, Nat.reduceBEq, Nat.reduceAdd, Nat.reduceSub, Nat.reduceLT, Nat.reduceLeDiff, Nat.reduceMul, Nat.reduceEqDiff, cond_true, cond_false, if_true, if_false, reduceIte, implies_true, forall_const, ne_eq]
  refine ⟨fun hg => ?_, fun hg => ?_⟩ <;> rw [err0] at hg
  · refine AWPC.of_vc ?_; simp only [zS, zU, vcC, lateX, ex, strp, cnd, binA, kseq, kblk, kret, klp, Abs.one, elems, cells, scalar, eqC, Nat.reduceBEq, Nat.reduceAdd, Nat.reduceSub, Nat.reduceLT, Nat.reduceLeDiff, Nat.reduceMul, Nat.reduceEqDiff, cond_true, cond_false, if_true, if_false, reduceIte, implies_true, forall_const, ne_eq]
    refine AWPC.of_vc ?_; simp only [zS, zU, vcC, lateX, ex, strp, cnd, binA, kseq, kblk, kret, klp, Abs.one, elems, cells, scalar, eqC, Nat.reduceBEq, Nat.reduceAdd, Nat.reduceSub, Nat.reduceLT, Nat.reduceLeDiff, Nat.reduceMul, Nat.reduceEqDiff, cond_true, cond_false, if_true, if_false, reduceIte, implies_true, forall_const, ne_eq]
    refine Frz.eq ?_ (by simp)
    rw [if_neg (fun h => hg h.1), if_neg hg, err1 hg]
  · refine AWPC.of_vc ?_; simp only [zS, zU, vcC, lateX, ex, strp, cnd, binA, kseq, kblk, kret, klp, Abs.one, elems, cells, scalar, eqC, Nat.reduceBEq, Nat.reduceAdd, Nat.reduceSub, Nat.reduceLT, Nat.reduceLeDiff, Nat.reduceMul, Nat.reduceEqDiff, cond_true, cond_false, if_true, if_false, reduceIte, implies_true, forall_const, ne_eq]
    rw [orz1 hg]
    ((repeat (refine And.intro (by (intros; first | omega | (simp_all (config := { decide := false }); done) | fail)) ?_)); refine .inl ⟨_, _, _, _, rfl, fun _hc => ⟨by simp, within_spec _ _ _⟩, ?_⟩; refine owp_of_exs ?_; simp only [zS, zU, vcC, lateX, ex, strp, cnd, binA, kseq, kblk, kret, klp, Abs.one, elems, cells, scalar, eqC, Nat.reduceBEq, Nat.reduceAdd, Nat.reduceSub, Nat.reduceLT, Nat.reduceLeDiff, Nat.reduceMul, Nat.reduceEqDiff, cond_true, cond_false, if_true, if_false, reduceIte, implies_true, forall_const, ne_eq])
    refine AWPC.of_vc ?_; simp only [zS, zU, vcC, lateX, ex, strp, cnd, binA, kseq, kblk, kret, klp, Abs.one, elems, cells, scalar, eqC, Nat.reduceBEq, Nat.reduceAdd, Nat.reduceSub, Nat.reduceLT, Nat.reduceLeDiff, Nat.reduceMul, Nat.reduceEqDiff, cond_true, cond_false, if_true, if_false, reduceIte, implies_true, forall_const, ne_eq]
    refine ⟨fun hy => ?_, fun hy => ?_⟩
    · refine AWPC.of_vc ?_; simp only [zS, zU, vcC, lateX, ex, strp, cnd, binA, kseq, kblk, kret, klp, Abs.one, elems, cells, scalar, eqC, Nat.reduceBEq, Nat.reduceAdd, Nat.reduceSub, Nat.reduceLT, Nat.reduceLeDiff, Nat.reduceMul, Nat.reduceEqDiff, cond_true, cond_false, if_true, if_false, reduceIte, implies_true, forall_const, ne_eq]
      refine AWPC.of_vc ?_; simp only [zS, zU, vcC, lateX, ex, strp, cnd, binA, kseq, kblk, kret, klp, Abs.one, elems, cells, scalar, eqC, Nat.reduceBEq, Nat.reduceAdd, Nat.reduceSub, Nat.reduceLT, Nat.reduceLeDiff, Nat.reduceMul, Nat.reduceEqDiff, cond_true, cond_false, if_true, if_false, reduceIte, implies_true, forall_const, ne_eq]
      refine Frz.eq ?_ (by simp)
      rw [if_neg (fun h => hy h.2), if_pos hg, if_neg hy]
    · have hb := hg
      obtain ⟨g1, g2, g3, g4, g5, g6, g7, g8, g9, g10, g11, g12, g13⟩ := hb
      have hl := least_bd p (l + 1) hg (by omega) (by omega)
      refine AWPC.of_vc ?_; simp only [zS, zU, vcC, lateX, ex, strp, cnd, binA, kseq, kblk, kret, klp, Abs.one, elems, cells, scalar, eqC, Nat.reduceBEq, Nat.reduceAdd, Nat.reduceSub, Nat.reduceLT, Nat.reduceLeDiff, Nat.reduceMul, Nat.reduceEqDiff, cond_true, cond_false, if_true, if_false, reduceIte, implies_true, forall_const, ne_eq]
      refine AWPC.of_vc ?_; simp only [zS, zU, vcC, lateX, ex, strp, cnd, binA, kseq, kblk, kret, klp, Abs.one, elems, cells, scalar, eqC, Nat.reduceBEq, Nat.reduceAdd, Nat.reduceSub, Nat.reduceLT, Nat.reduceLeDiff, Nat.reduceMul, Nat.reduceEqDiff, cond_true, cond_false, if_true, if_false, reduceIte, implies_true, forall_const, ne_eq]
      (refine ⟨_, _, _, _, rfl, fun _hc => ⟨by simp, least_spec p l hg (by omega) (by omega)⟩, ?_⟩; refine pre_of_exd ?_; simp only [zS, zU, vcC, lateX, ex, strp, cnd, binA, kseq, kblk, kret, klp, Abs.one, elems, cells, scalar, eqC, Nat.reduceBEq, Nat.reduceAdd, Nat.reduceSub, Nat.reduceLT, Nat.reduceLeDiff, Nat.reduceMul, Nat.reduceEqDiff, cond_true, cond_false, if_true, if_false, reduceIte, implies_true, forall_const, ne_eq])
      rw [wr64 (l + 1) (by omega) (by omega)]
      (refine ⟨_, _, _, _, rfl, fun _hc => ⟨by simp, least_spec p (l + 1) hg (by omega) (by omega)⟩, ?_⟩; refine pre_of_exd ?_; simp only [zS, zU, vcC, lateX, ex, strp, cnd, binA, kseq, kblk, kret, klp, Abs.one, elems, cells, scalar, eqC, Nat.reduceBEq, Nat.reduceAdd, Nat.reduceSub, Nat.reduceLT, Nat.reduceLeDiff, Nat.reduceMul, Nat.reduceEqDiff, cond_true, cond_false, if_true, if_false, reduceIte, implies_true, forall_const, ne_eq])
      refine AWPC.of_vc ?_; simp only [zS, zU, vcC, lateX, ex, strp, cnd, binA, kseq, kblk, kret, klp, Abs.one, elems, cells, scalar, eqC, Nat.reduceBEq, Nat.reduceAdd, Nat.reduceSub, Nat.reduceLT, Nat.reduceLeDiff, Nat.reduceMul, Nat.reduceEqDiff, cond_true, cond_false, if_true, if_false, reduceIte, implies_true, forall_const, ne_eq]
      rw [wr64 _ (by omega) (by omega)]
      refine Frz.eq ?_ (by simp)
      rw [if_pos ⟨hg, hy⟩, if_pos hg, if_pos hy]
end Go.Proofs.Ytgpdckmbojmlpaa

namespace Go.Proofs.Ytgpdckmbojmlpaa
open Go.Abs
set_option linter.unusedVariables false
set_option linter.unusedSimpArgs false
set_option maxHeartbeats 4000000
set_option maxRecDepth 100000
-- aneroid/paper.floor
def c83 : CF := ⟨16,
 (.seq (.ops [
 ⟨(some 4), .mv (.c (.int .i64 0)), none⟩] [0, 1])
 (.seq (.ops [
 ⟨(some 6), .mv (.t 0), none⟩,
 ⟨(some 7), .mv (.t 1), none⟩,
 ⟨(some 8), .bin .quo (.t 6) (.t 7), none⟩,
 ⟨(some 5), .mv (.t 8), none⟩] [0, 1, 5])
 (.seq (.seq (.ops [
 ⟨(some 9), .mv (.t 0), none⟩,
 ⟨(some 10), .mv (.t 1), none⟩,
 ⟨(some 11), .bin .rem (.t 9) (.t 10), none⟩,
 ⟨(some 12), .bin .lss (.t 11) (.c (.int .i64 0)), none⟩] [5, 12])
 (.cond (.t 12) (.ops [
 ⟨(some 13), .mv (.t 5), none⟩,
 ⟨(some 14), .bin .sub (.t 13) (.c (.int .i64 1)), none⟩,
 ⟨(some 5), .mv (.t 14), none⟩] [5])
 .skip))
 (.seq (.ops [
 ⟨(some 15), .mv (.t 5), none⟩,
 ⟨(some 4), .mv (.t 15), none⟩] [4])
 .ret)))),
 [.t 4]⟩
-- aneroid/paper.places
def c124 : CF := ⟨23,
 (.seq (.ops [
 ⟨(some 5), .box false 23 2 (.t 2), none⟩,
 ⟨(some 6), .alloc 23 2 [.int .i64 0, .int .i64 0], none⟩] [0, 1, 5, 6])
 (.seq (.draw [
 ⟨(some 7), .mv (.t 0), none⟩,
 ⟨(some 8), .mv (.t 1), none⟩,
 ⟨(some 9), .bin .sub (.t 7) (.t 8), none⟩,
 ⟨(some 10), .bin .mul (.t 9) (.c (.int .i64 1000)), none⟩,
 ⟨(some 11), .faddr 1 (.t 5), none⟩,
 ⟨(some 12), .load none (.t 11), none⟩,
 ⟨(some 13), .call (.f 83) [(.t 10), (.t 12)], none⟩,
 ⟨(some 14), .mnx true (.c (.int .i64 0)) (.t 13), none⟩,
 ⟨(some 15), .mv (.t 0), none⟩,
 ⟨(some 16), .mv (.t 1), none⟩,
 ⟨(some 17), .bin .add (.t 15) (.t 16), none⟩,
 ⟨(some 18), .bin .mul (.t 17) (.c (.int .i64 1000)), none⟩,
 ⟨(some 19), .faddr 0 (.t 5), none⟩,
 ⟨(some 20), .load none (.t 19), none⟩,
 ⟨(some 21), .call (.f 83) [(.t 18), (.t 20)], none⟩,
 ⟨(some 22), .build [.int .i64 0, .int .i64 0] [(0, 1, (.t 14)), (1, 1, (.t 21))], none⟩] [
 ⟨none, .store 2 (.t 6) (.t 22), none⟩] [6])
 .ret)),
 [.c 6 (some 2)]⟩
-- (aneroid/paper.form).along
def c88 : CF := ⟨13,
 (.seq (.ops [
 ⟨(some 2), .box false 85 10 (.t 0), none⟩,
 ⟨(some 3), .box false 32 3 (.t 1), none⟩,
 ⟨(some 4), .alloc 23 2 [.int .i64 0, .int .i64 0], none⟩] [2, 3, 4])
 (.seq (.ops [
 ⟨(some 5), .faddr 0 (.t 3), none⟩,
 ⟨(some 6), .load none (.t 5), none⟩,
 ⟨(some 7), .faddr 2 (.t 3), none⟩,
 ⟨(some 8), .load none (.t 7), none⟩,
 ⟨(some 9), .faddr 0 (.t 2), none⟩,
 ⟨(some 10), .faddr 6 (.t 9), none⟩,
 ⟨(some 11), .load (some 2) (.t 10), none⟩,
 ⟨(some 12), .call (.f 124) [(.t 6), (.t 8), (.t 11)], none⟩,
 ⟨none, .store 2 (.t 4) (.t 12), none⟩] [4])
 .ret)),
 [.c 4 (some 2)]⟩
-- (aneroid/paper.form).across
def c89 : CF := ⟨13,
 (.seq (.ops [
 ⟨(some 2), .box false 85 10 (.t 0), none⟩,
 ⟨(some 3), .box false 32 3 (.t 1), none⟩,
 ⟨(some 4), .alloc 23 2 [.int .i64 0, .int .i64 0], none⟩] [2, 3, 4])
 (.seq (.ops [
 ⟨(some 5), .faddr 1 (.t 3), none⟩,
 ⟨(some 6), .load none (.t 5), none⟩,
 ⟨(some 7), .faddr 2 (.t 3), none⟩,
 ⟨(some 8), .load none (.t 7), none⟩,
 ⟨(some 9), .faddr 0 (.t 2), none⟩,
 ⟨(some 10), .faddr 8 (.t 9), none⟩,
 ⟨(some 11), .load (some 2) (.t 10), none⟩,
 ⟨(some 12), .call (.f 124) [(.t 6), (.t 8), (.t 11)], none⟩,
 ⟨none, .store 2 (.t 4) (.t 12), none⟩] [4])
 .ret)),
 [.c 4 (some 2)]⟩
-- (aneroid/paper.form).heights
def c92 : CF := ⟨17,
 (.seq (.ops [
 ⟨(some 2), .box false 85 10 (.t 0), none⟩,
 ⟨(some 3), .box false 32 3 (.t 1), none⟩,
 ⟨(some 4), .alloc 23 2 [.int .i64 0, .int .i64 0], none⟩] [2, 3, 4])
 (.seq (.ops [
 ⟨(some 6), .load (some 10) (.t 2), none⟩,
 ⟨(some 7), .load (some 3) (.t 3), none⟩,
 ⟨(some 8), .call (.f 89) [(.t 6), (.t 7)], none⟩,
 ⟨(some 5), .alloc 23 2 [.int .i64 0, .int .i64 0], none⟩,
 ⟨none, .store 2 (.t 5) (.t 8), none⟩] [2, 4, 5])
 (.seq (.ops [
 ⟨(some 9), .faddr 1 (.t 5), none⟩,
 ⟨(some 10), .load none (.t 9), none⟩,
 ⟨(some 11), .faddr 0 (.t 2), none⟩,
 ⟨(some 12), .faddr 1 (.t 11), none⟩,
 ⟨(some 13), .load none (.t 12), none⟩,
 ⟨(some 14), .mnx false (.t 10) (.t 13), none⟩,
 ⟨(some 15), .faddr 1 (.t 5), none⟩,
 ⟨none, .store 1 (.t 15) (.t 14), none⟩] [4, 5])
 (.seq (.ops [
 ⟨(some 16), .load (some 2) (.t 5), none⟩,
 ⟨none, .store 2 (.t 4) (.t 16), none⟩] [4])
 .ret)))),
 [.c 4 (some 2)]⟩
-- aneroid/paper.calibrated
def c86 : CF := ⟨38,
 (.seq (.ops [
 ⟨(some 4), .box true 23 2 (.t 0), none⟩,
 ⟨(some 8), .alloc 23 2 [.int .i64 0, .int .i64 0], none⟩] [1, 2, 3, 4, 8])
 (.seq (.seq (.ops [
 ⟨(some 9), .mv (.t 1), none⟩,
 ⟨(some 10), .bin .lss (.t 9) (.c (.int .i64 0)), none⟩] [1, 2, 3, 4, 8, 10])
 (.cond (.t 10) (.seq (.ops [
 ⟨(some 11), .load (some 2) (.t 4), none⟩,
 ⟨none, .store 2 (.t 8) (.t 11), none⟩] [8])
 .ret)
 .skip))
 (.seq (.draw [
 ⟨(some 12), .faddr 0 (.t 4), none⟩,
 ⟨(some 13), .load none (.t 12), none⟩,
 ⟨(some 14), .mv (.t 2), none⟩,
 ⟨(some 15), .mv (.t 3), none⟩,
 ⟨(some 16), .bin .sub (.t 14) (.t 15), none⟩,
 ⟨(some 17), .bin .mul (.t 16) (.c (.int .i64 1000)), none⟩,
 ⟨(some 18), .mv (.t 1), none⟩,
 ⟨(some 19), .bin .add (.t 18) (.c (.int .i64 1)), none⟩,
 ⟨(some 20), .call (.f 83) [(.t 17), (.t 19)], none⟩,
 ⟨(some 21), .mnx true (.t 13) (.t 20), none⟩,
 ⟨(some 22), .faddr 0 (.t 4), none⟩] [
 ⟨none, .store 1 (.t 22) (.t 21), none⟩] [1, 2, 3, 4, 8])
 (.seq (.seq (.ops [
 ⟨(some 23), .mv (.t 1), none⟩,
 ⟨(some 24), .bin .gtr (.t 23) (.c (.int .i64 0)), none⟩] [1, 2, 3, 4, 8, 24])
 (.cond (.t 24) (.draw [
 ⟨(some 25), .faddr 1 (.t 4), none⟩,
 ⟨(some 26), .load none (.t 25), none⟩,
 ⟨(some 27), .mv (.t 2), none⟩,
 ⟨(some 28), .mv (.t 3), none⟩,
 ⟨(some 29), .bin .add (.t 27) (.t 28), none⟩,
 ⟨(some 30), .un .neg (.t 29), none⟩,
 ⟨(some 31), .bin .mul (.t 30) (.c (.int .i64 1000)), none⟩,
 ⟨(some 32), .mv (.t 1), none⟩,
 ⟨(some 33), .call (.f 83) [(.t 31), (.t 32)], none⟩,
 ⟨(some 34), .un .neg (.t 33), none⟩,
 ⟨(some 35), .mnx false (.t 26) (.t 34), none⟩,
 ⟨(some 36), .faddr 1 (.t 4), none⟩] [
 ⟨none, .store 1 (.t 36) (.t 35), none⟩] [4, 8])
 .skip))
 (.seq (.ops [
 ⟨(some 37), .load (some 2) (.t 4), none⟩,
 ⟨none, .store 2 (.t 8) (.t 37), none⟩] [8])
 .ret))))),
 [.c 8 (some 2)]⟩
-- (aneroid/paper.form).line
def c73 : CF := ⟨6,
 (.seq (.ops [
 ⟨(some 2), .box false 85 10 (.t 0), none⟩,
 ⟨(some 3), .box false 32 3 (.t 1), none⟩,
 ⟨(some 4), .mv (.c (.nilFunc)), none⟩] [2, 3])
 (.seq (.ops [
 ⟨(some 5), .mkfn (.func 121) [] [(.t 2), (.t 3)], none⟩,
 ⟨(some 4), .mv (.t 5), none⟩] [4])
 .ret)),
 [.t 4]⟩

theorem k83 : chkF Try.prog Try.f83 c83 = true := by kernel_rfl
theorem k124 : chkF Try.prog Try.f124 c124 = true := by kernel_rfl
theorem k88 : chkF Try.prog Try.f88 c88 = true := by kernel_rfl
theorem k89 : chkF Try.prog Try.f89 c89 = true := by kernel_rfl
theorem k92 : chkF Try.prog Try.f92 c92 = true := by kernel_rfl
theorem k86 : chkF Try.prog Try.f86 c86 = true := by kernel_rfl
theorem k73 : chkF Try.prog Try.f73 c73 = true := by kernel_rfl

theorem tdiv_fl {a b : Int} (hb : 0 < b) : (a.tmod b < 0 → a.tdiv b - 1 = a / b) ∧ (¬ a.tmod b < 0 → a.tdiv b = a / b) := by
  have h1 := Int.mul_tdiv_add_tmod a b
  have h2 := Int.mul_ediv_add_emod a b
  have h3 := Int.emod_nonneg a (show b ≠ 0 by omega)
  have h4 := Int.emod_lt_of_pos a hb
  have h5 : a.tmod b < b := Int.tmod_lt_of_pos a hb
  have h6 : -b < a.tmod b := by have := Int.lt_tmod_of_pos a hb; omega
  generalize a.tdiv b = q at *
  generalize a / b = e at *
  generalize a.tmod b = r at *
  generalize a % b = s at *
  -- b * q + r = b * e + s
  constructor
  · intro hr
    have h7 : b * (q - e) = s - r := by rw [Int.mul_sub]; omega
    have h8 : 0 < b * (q - e) := by omega
    have h9 : b * (q - e) < b * 2 := by omega
    have g1 := Int.pos_of_mul_pos_right h8 hb
    have g2 := Int.lt_of_mul_lt_mul_left h9 (by omega)
    omega
  · intro hr
    have h7 : b * (q - e) = s - r := by rw [Int.mul_sub]; omega
    have h8 : b * (-1) < b * (q - e) := by omega
    have h9 : b * (q - e) < b * 1 := by omega
    have g1 := Int.lt_of_mul_lt_mul_left h8 (by omega)
    have g2 := Int.lt_of_mul_lt_mul_left h9 (by omega)
    omega

theorem ediv_bd {a b A : Int} (h1 : -A ≤ a) (h2 : a ≤ A) (hA : 0 ≤ A) (h3 : 1 ≤ b) : -A ≤ a / b ∧ a / b ≤ A := by
  constructor
  · rw [Int.le_ediv_iff_mul_le (by omega)]
    have : -A * b ≤ -A * 1 := Int.mul_le_mul_of_nonpos_left (by omega) h3
    omega
  · have h4 : a / b ≤ A / b := Int.ediv_le_ediv (by omega) h2
    have h5 := Int.ediv_le_self b hA
    omega

theorem floor_spec (a b : Int) (hb : 1 ≤ b) (h1 : -1000000000000000 ≤ a) (h2 : a ≤ 1000000000000000) : Pure Try.prog 83 [n a, n b] (n (a / b)) := by
  refine Pure.of_body Try.call83 Try.func83 k83 (Nat.le_of_ble_eq_true rfl) ?_
  have hf := tdiv_fl (a := a) (show 0 < b by omega)
  have hd := ediv_bd h1 h2 (by omega) hb
  unfold c83
  refine AWPC.of_vc ?_; simp only [zS, zU, vcC, lateX, ex, strp, cnd, binA, kseq, kblk, kret, klp, Abs.one, elems, cells, scalar, eqC, Nat.reduceBEq, Nat.reduceAdd, Nat.reduceSub, Nat.reduceLT, Nat.reduceLeDiff, Nat.reduceMul, Nat.reduceEqDiff, cond_true, cond_false, if_true, if_false, reduceIte, implies_true, forall_const, ne_eq]
  refine AWPC.of_vc ?_; simp only [zS, zU, vcC, lateX, ex, strp, cnd, binA, kseq, kblk, kret, klp, Abs.one, elems, cells, scalar, eqC, Nat.reduceBEq, Nat.reduceAdd, Nat.reduceSub, Nat.reduceLT, Nat.reduceLeDiff, Nat.reduceMul, Nat.reduceEqDiff, cond_true, cond_false, if_true, if_false, reduceIte, implies_true, forall_const, ne_eq]
  refine ⟨by omega, ?_⟩
  refine AWPC.of_vc ?_; simp only [zS, zU, vcC, lateX, ex, strp, cnd, binA, kseq, kblk, kret, klp, Abs.one, elems, cells, scalar, eqC, Nat.reduceBEq, Nat.reduceAdd, Nat.reduceSub, Nat.reduceLT, Nat.reduceLeDiff, Nat.reduceMul, Nat.reduceEqDiff, cond_true, cond_false, if_true, if_false, reduceIte, implies_true, forall_const, ne_eq]
  refine ⟨by omega, ?_⟩
  refine AWPC.of_vc ?_; simp only [zS, zU, vcC, lateX, ex, strp, cnd, binA, kseq, kblk, kret, klp, Abs.one, elems, cells, scalar, eqC, Nat.reduceBEq, Nat.reduceAdd, Nat.reduceSub, Nat.reduceLT, Nat.reduceLeDiff, Nat.reduceMul, Nat.reduceEqDiff, cond_true, cond_false, if_true, if_false, reduceIte, implies_true, forall_const, ne_eq]
  refine ⟨fun h => ?_, fun h => ?_⟩
  · have := hf.1 h
    refine AWPC.of_vc ?_; simp only [zS, zU, vcC, lateX, ex, strp, cnd, binA, kseq, kblk, kret, klp, Abs.one, elems, cells, scalar, eqC, Nat.reduceBEq, Nat.reduceAdd, Nat.reduceSub, Nat.reduceLT, Nat.reduceLeDiff, Nat.reduceMul, Nat.reduceEqDiff, cond_true, cond_false, if_true, if_false, reduceIte, implies_true, forall_const, ne_eq]
    refine AWPC.of_vc ?_; simp only [zS, zU, vcC, lateX, ex, strp, cnd, binA, kseq, kblk, kret, klp, Abs.one, elems, cells, scalar, eqC, Nat.reduceBEq, Nat.reduceAdd, Nat.reduceSub, Nat.reduceLT, Nat.reduceLeDiff, Nat.reduceMul, Nat.reduceEqDiff, cond_true, cond_false, if_true, if_false, reduceIte, implies_true, forall_const, ne_eq]
    refine AWPC.of_vc ?_; simp only [zS, zU, vcC, lateX, ex, strp, cnd, binA, kseq, kblk, kret, klp, Abs.one, elems, cells, scalar, eqC, Nat.reduceBEq, Nat.reduceAdd, Nat.reduceSub, Nat.reduceLT, Nat.reduceLeDiff, Nat.reduceMul, Nat.reduceEqDiff, cond_true, cond_false, if_true, if_false, reduceIte, implies_true, forall_const, ne_eq]
    refine Frz.eq ?_ (by simp)
    rw [wr64 (a.tdiv b) (by omega) (by omega), this, wr64 _ (by omega) (by omega)]
  · have := hf.2 h
    refine AWPC.of_vc ?_; simp only [zS, zU, vcC, lateX, ex, strp, cnd, binA, kseq, kblk, kret, klp, Abs.one, elems, cells, scalar, eqC, Nat.reduceBEq, Nat.reduceAdd, Nat.reduceSub, Nat.reduceLT, Nat.reduceLeDiff, Nat.reduceMul, Nat.reduceEqDiff, cond_true, cond_false, if_true, if_false, reduceIte, implies_true, forall_const, ne_eq]
    refine AWPC.of_vc ?_; simp only [zS, zU, vcC, lateX, ex, strp, cnd, binA, kseq, kblk, kret, klp, Abs.one, elems, cells, scalar, eqC, Nat.reduceBEq, Nat.reduceAdd, Nat.reduceSub, Nat.reduceLT, Nat.reduceLeDiff, Nat.reduceMul, Nat.reduceEqDiff, cond_true, cond_false, if_true, if_false, reduceIte, implies_true, forall_const, ne_eq]
    refine AWPC.of_vc ?_; simp only [zS, zU, vcC, lateX, ex, strp, cnd, binA, kseq, kblk, kret, klp, Abs.one, elems, cells, scalar, eqC, Nat.reduceBEq, Nat.reduceAdd, Nat.reduceSub, Nat.reduceLT, Nat.reduceLeDiff, Nat.reduceMul, Nat.reduceEqDiff, cond_true, cond_false, if_true, if_false, reduceIte, implies_true, forall_const, ne_eq]
    refine Frz.eq ?_ (by simp)
    rw [this, wr64 _ (by omega) (by omega)]

def Pp.along (p : Pp) (t : Pt) : Sp := p.al.places t.x t.h
def Pp.across (p : Pp) (t : Pt) : Sp := p.cl.places t.y t.h
def Pp.heights (p : Pp) (t : Pt) : Sp := ⟨(p.across t).lo, min (p.across t).hi p.he⟩

theorem places_bd (s : Sp) (x h : Int) (hs : s.ok) (hx : 0 ≤ x ∧ x ≤ 400000) (hh : 0 ≤ h ∧ h ≤ 5000) : 0 ≤ (s.places x h).lo ∧ (s.places x h).lo ≤ 405000000 ∧ 0 ≤ (s.places x h).hi ∧ (s.places x h).hi ≤ 405000000 := by
  have h1 := ediv_bd (a := (x - h) * 1000) (b := s.hi) (A := 405000000) (by omega) (by omega) (by omega) (by omega)
  have h2 := ediv_bd (a := (x + h) * 1000) (b := s.lo) (A := 405000000) (by omega) (by omega) (by omega) (by omega)
  have h3 : 0 ≤ ((x + h) * 1000) / s.lo := Int.ediv_nonneg (by omega) (by omega)
  simp only [Sp.places]
  omega

theorem places_spec (x h : Int) (s : Sp) (hs : s.ok) (hx : 0 ≤ x ∧ x ≤ 400000) (hh : 0 ≤ h ∧ h ≤ 5000) : Pure Try.prog 124 [n x, n h, .agg s.cs] (.agg (s.places x h).cs) := by
  refine Pure.of_body Try.call124 Try.func124 k124 (Nat.le_of_ble_eq_true rfl) ?_
  unfold c124
  refine AWPC.of_vc ?_; simp only [zS, zU, vcC, lateX, ex, strp, cnd, binA, kseq, kblk, kret, klp, Abs.one, elems, cells, scalar, eqC, Nat.reduceBEq, Nat.reduceAdd, Nat.reduceSub, Nat.reduceLT, Nat.reduceLeDiff, Nat.reduceMul, Nat.reduceEqDiff, cond_true, cond_false, if_true, if_false, reduceIte, implies_true, forall_const, ne_eq]
  refine AWPC.of_vc ?_; simp only [zS, zU, vcC, lateX, ex, strp, cnd, binA, kseq, kblk, kret, klp, Abs.one, elems, cells, scalar, eqC, Nat.reduceBEq, Nat.reduceAdd, Nat.reduceSub, Nat.reduceLT, Nat.reduceLeDiff, Nat.reduceMul, Nat.reduceEqDiff, cond_true, cond_false, if_true, if_false, reduceIte, implies_true, forall_const, ne_eq]
  rw [wr64 (x - h) (by omega) (by omega), wr64 ((x - h) * 1000) (by omega) (by omega)]
  (refine ⟨_, _, _, _, rfl, fun _hc => ⟨by simp, floor_spec _ _ (by omega) (by omega) (by omega)⟩, ?_⟩; refine pre_of_exd ?_; simp only [zS, zU, vcC, lateX, ex, strp, cnd, binA, kseq, kblk, kret, klp, Abs.one, elems, cells, scalar, eqC, Nat.reduceBEq, Nat.reduceAdd, Nat.reduceSub, Nat.reduceLT, Nat.reduceLeDiff, Nat.reduceMul, Nat.reduceEqDiff, cond_true, cond_false, if_true, if_false, reduceIte, implies_true, forall_const, ne_eq])
  rw [wr64 (x + h) (by omega) (by omega), wr64 ((x + h) * 1000) (by omega) (by omega)]
  (refine ⟨_, _, _, _, rfl, fun _hc => ⟨by simp, floor_spec _ _ (by omega) (by omega) (by omega)⟩, ?_⟩; refine pre_of_exd ?_; simp only [zS, zU, vcC, lateX, ex, strp, cnd, binA, kseq, kblk, kret, klp, Abs.one, elems, cells, scalar, eqC, Nat.reduceBEq, Nat.reduceAdd, Nat.reduceSub, Nat.reduceLT, Nat.reduceLeDiff, Nat.reduceMul, Nat.reduceEqDiff, cond_true, cond_false, if_true, if_false, reduceIte, implies_true, forall_const, ne_eq])
  refine AWPC.of_vc ?_; simp only [zS, zU, vcC, lateX, ex, strp, cnd, binA, kseq, kblk, kret, klp, Abs.one, elems, cells, scalar, eqC, Nat.reduceBEq, Nat.reduceAdd, Nat.reduceSub, Nat.reduceLT, Nat.reduceLeDiff, Nat.reduceMul, Nat.reduceEqDiff, cond_true, cond_false, if_true, if_false, reduceIte, implies_true, forall_const, ne_eq]
  exact Frz.eq rfl (by simp)

theorem along_spec (p : Pp) (t : Pt) (hg : p.good) (ht : t.right) : Pure Try.prog 88 [.agg p.cs, .agg t.cs] (.agg (p.along t).cs) := by
  refine Pure.of_body Try.call88 Try.func88 k88 (Nat.le_of_ble_eq_true rfl) ?_
  unfold c88
  refine AWPC.of_vc ?_; simp only [zS, zU, vcC, lateX, ex, strp, cnd, binA, kseq, kblk, kret, klp, Abs.one, elems, cells, scalar, eqC, Nat.reduceBEq, Nat.reduceAdd, Nat.reduceSub, Nat.reduceLT, Nat.reduceLeDiff, Nat.reduceMul, Nat.reduceEqDiff, cond_true, cond_false, if_true, if_false, reduceIte, implies_true, forall_const, ne_eq]
  refine AWPC.of_vc ?_; simp only [zS, zU, vcC, lateX, ex, strp, cnd, binA, kseq, kblk, kret, klp, Abs.one, elems, cells, scalar, eqC, Nat.reduceBEq, Nat.reduceAdd, Nat.reduceSub, Nat.reduceLT, Nat.reduceLeDiff, Nat.reduceMul, Nat.reduceEqDiff, cond_true, cond_false, if_true, if_false, reduceIte, implies_true, forall_const, ne_eq]
  ((repeat (refine And.intro (by (intros; first | omega | (simp_all (config := { decide := false }); done) | fail)) ?_)); refine .inl ⟨_, _, _, _, rfl, fun _hc => ⟨by simp, places_spec t.x t.h p.al (by obtain ⟨g1, g2, g3, g4, g5, g6, g7, g8, g9, g10, g11, g12, g13⟩ := hg; exact g12) ⟨ht.1, ht.2.1⟩ ⟨ht.2.2.2.2.1, ht.2.2.2.2.2⟩⟩, ?_⟩; refine owp_of_exs ?_; simp only [zS, zU, vcC, lateX, ex, strp, cnd, binA, kseq, kblk, kret, klp, Abs.one, elems, cells, scalar, eqC, Nat.reduceBEq, Nat.reduceAdd, Nat.reduceSub, Nat.reduceLT, Nat.reduceLeDiff, Nat.reduceMul, Nat.reduceEqDiff, cond_true, cond_false, if_true, if_false, reduceIte, implies_true, forall_const, ne_eq])
  refine AWPC.of_vc ?_; simp only [zS, zU, vcC, lateX, ex, strp, cnd, binA, kseq, kblk, kret, klp, Abs.one, elems, cells, scalar, eqC, Nat.reduceBEq, Nat.reduceAdd, Nat.reduceSub, Nat.reduceLT, Nat.reduceLeDiff, Nat.reduceMul, Nat.reduceEqDiff, cond_true, cond_false, if_true, if_false, reduceIte, implies_true, forall_const, ne_eq]
  exact Frz.eq rfl (by simp)

theorem across_spec (p : Pp) (t : Pt) (hg : p.good) (ht : t.right) : Pure Try.prog 89 [.agg p.cs, .agg t.cs] (.agg (p.across t).cs) := by
  refine Pure.of_body Try.call89 Try.func89 k89 (Nat.le_of_ble_eq_true rfl) ?_
  unfold c89
  refine AWPC.of_vc ?_; simp only [zS, zU, vcC, lateX, ex, strp, cnd, binA, kseq, kblk, kret, klp, Abs.one, elems, cells, scalar, eqC, Nat.reduceBEq, Nat.reduceAdd, Nat.reduceSub, Nat.reduceLT, Nat.reduceLeDiff, Nat.reduceMul, Nat.reduceEqDiff, cond_true, cond_false, if_true, if_false, reduceIte, implies_true, forall_const, ne_eq]
  refine AWPC.of_vc ?_; simp only [zS, zU, vcC, lateX, ex, strp, cnd, binA, kseq, kblk, kret, klp, Abs.one, elems, cells, scalar, eqC, Nat.reduceBEq, Nat.reduceAdd, Nat.reduceSub, Nat.reduceLT, Nat.reduceLeDiff, Nat.reduceMul, Nat.reduceEqDiff, cond_true, cond_false, if_true, if_false, reduceIte, implies_true, forall_const, ne_eq]
  ((repeat (refine And.intro (by (intros; first | omega | (simp_all (config := { decide := false }); done) | fail)) ?_)); refine .inl ⟨_, _, _, _, rfl, fun _hc => ⟨by simp, places_spec t.y t.h p.cl (by obtain ⟨g1, g2, g3, g4, g5, g6, g7, g8, g9, g10, g11, g12, g13⟩ := hg; exact g13) ⟨ht.2.2.1, ht.2.2.2.1⟩ ⟨ht.2.2.2.2.1, ht.2.2.2.2.2⟩⟩, ?_⟩; refine owp_of_exs ?_; simp only [zS, zU, vcC, lateX, ex, strp, cnd, binA, kseq, kblk, kret, klp, Abs.one, elems, cells, scalar, eqC, Nat.reduceBEq, Nat.reduceAdd, Nat.reduceSub, Nat.reduceLT, Nat.reduceLeDiff, Nat.reduceMul, Nat.reduceEqDiff, cond_true, cond_false, if_true, if_false, reduceIte, implies_true, forall_const, ne_eq])
  refine AWPC.of_vc ?_; simp only [zS, zU, vcC, lateX, ex, strp, cnd, binA, kseq, kblk, kret, klp, Abs.one, elems, cells, scalar, eqC, Nat.reduceBEq, Nat.reduceAdd, Nat.reduceSub, Nat.reduceLT, Nat.reduceLeDiff, Nat.reduceMul, Nat.reduceEqDiff, cond_true, cond_false, if_true, if_false, reduceIte, implies_true, forall_const, ne_eq]
  exact Frz.eq rfl (by simp)

theorem heights_spec (p : Pp) (t : Pt) (hg : p.good) (ht : t.right) : Pure Try.prog 92 [.agg p.cs, .agg t.cs] (.agg (p.heights t).cs) := by
  refine Pure.of_body Try.call92 Try.func92 k92 (Nat.le_of_ble_eq_true rfl) ?_
  unfold c92
  refine AWPC.of_vc ?_; simp only [zS, zU, vcC, lateX, ex, strp, cnd, binA, kseq, kblk, kret, klp, Abs.one, elems, cells, scalar, eqC, Nat.reduceBEq, Nat.reduceAdd, Nat.reduceSub, Nat.reduceLT, Nat.reduceLeDiff, Nat.reduceMul, Nat.reduceEqDiff, cond_true, cond_false, if_true, if_false, reduceIte, implies_true, forall_const, ne_eq]
  refine AWPC.of_vc ?_; simp only [zS, zU, vcC, lateX, ex, strp, cnd, binA, kseq, kblk, kret, klp, Abs.one, elems, cells, scalar, eqC, Nat.reduceBEq, Nat.reduceAdd, Nat.reduceSub, Nat.reduceLT, Nat.reduceLeDiff, Nat.reduceMul, Nat.reduceEqDiff, cond_true, cond_false, if_true, if_false, reduceIte, implies_true, forall_const, ne_eq]
  ((repeat (refine And.intro (by (intros; first | omega | (simp_all (config := { decide := false }); done) | fail)) ?_)); refine .inl ⟨_, _, _, _, rfl, fun _hc => ⟨by simp, across_spec p t hg ht⟩, ?_⟩; refine owp_of_exs ?_; simp only [zS, zU, vcC, lateX, ex, strp, cnd, binA, kseq, kblk, kret, klp, Abs.one, elems, cells, scalar, eqC, Nat.reduceBEq, Nat.reduceAdd, Nat.reduceSub, Nat.reduceLT, Nat.reduceLeDiff, Nat.reduceMul, Nat.reduceEqDiff, cond_true, cond_false, if_true, if_false, reduceIte, implies_true, forall_const, ne_eq])
  refine AWPC.of_vc ?_; simp only [zS, zU, vcC, lateX, ex, strp, cnd, binA, kseq, kblk, kret, klp, Abs.one, elems, cells, scalar, eqC, Nat.reduceBEq, Nat.reduceAdd, Nat.reduceSub, Nat.reduceLT, Nat.reduceLeDiff, Nat.reduceMul, Nat.reduceEqDiff, cond_true, cond_false, if_true, if_false, reduceIte, implies_true, forall_const, ne_eq]
  refine AWPC.of_vc ?_; simp only [zS, zU, vcC, lateX, ex, strp, cnd, binA, kseq, kblk, kret, klp, Abs.one, elems, cells, scalar, eqC, Nat.reduceBEq, Nat.reduceAdd, Nat.reduceSub, Nat.reduceLT, Nat.reduceLeDiff, Nat.reduceMul, Nat.reduceEqDiff, cond_true, cond_false, if_true, if_false, reduceIte, implies_true, forall_const, ne_eq]
  refine AWPC.of_vc ?_; simp only [zS, zU, vcC, lateX, ex, strp, cnd, binA, kseq, kblk, kret, klp, Abs.one, elems, cells, scalar, eqC, Nat.reduceBEq, Nat.reduceAdd, Nat.reduceSub, Nat.reduceLT, Nat.reduceLeDiff, Nat.reduceMul, Nat.reduceEqDiff, cond_true, cond_false, if_true, if_false, reduceIte, implies_true, forall_const, ne_eq]
  exact Frz.eq rfl (by simp)


theorem calibrated_spec (s : Sp) (k x h : Int) (hk : k ≤ 800000) (hx : 0 ≤ x ∧ x ≤ 400000) (hh : 0 ≤ h ∧ h ≤ 5000) : Pure Try.prog 86 [.agg s.cs, n k, n x, n h] (.agg (s.known k x h).cs) := by
  refine Pure.of_body Try.call86 Try.func86 k86 (Nat.le_of_ble_eq_true rfl) ?_
  unfold c86
  refine AWPC.of_vc ?_; simp only [zS, zU, vcC, lateX, ex, strp, cnd, binA, kseq, kblk, kret, klp, Abs.one, elems, cells, scalar, eqC, Nat.reduceBEq, Nat.reduceAdd, Nat.reduceSub, Nat.reduceLT, Nat.reduceLeDiff, Nat.reduceMul, Nat.reduceEqDiff, cond_true, cond_false, if_true, if_false, reduceIte, implies_true, forall_const, ne_eq]
  refine AWPC.of_vc ?_; simp only [zS, zU, vcC, lateX, ex, strp, cnd, binA, kseq, kblk, kret, klp, Abs.one, elems, cells, scalar, eqC, Nat.reduceBEq, Nat.reduceAdd, Nat.reduceSub, Nat.reduceLT, Nat.reduceLeDiff, Nat.reduceMul, Nat.reduceEqDiff, cond_true, cond_false, if_true, if_false, reduceIte, implies_true, forall_const, ne_eq]
  refine AWPC.of_vc ?_; simp only [zS, zU, vcC, lateX, ex, strp, cnd, binA, kseq, kblk, kret, klp, Abs.one, elems, cells, scalar, eqC, Nat.reduceBEq, Nat.reduceAdd, Nat.reduceSub, Nat.reduceLT, Nat.reduceLeDiff, Nat.reduceMul, Nat.reduceEqDiff, cond_true, cond_false, if_true, if_false, reduceIte, implies_true, forall_const, ne_eq]
  refine ⟨fun hn => ?_, fun hn => ?_⟩
  · refine AWPC.of_vc ?_; simp only [zS, zU, vcC, lateX, ex, strp, cnd, binA, kseq, kblk, kret, klp, Abs.one, elems, cells, scalar, eqC, Nat.reduceBEq, Nat.reduceAdd, Nat.reduceSub, Nat.reduceLT, Nat.reduceLeDiff, Nat.reduceMul, Nat.reduceEqDiff, cond_true, cond_false, if_true, if_false, reduceIte, implies_true, forall_const, ne_eq]
    refine AWPC.of_vc ?_; simp only [zS, zU, vcC, lateX, ex, strp, cnd, binA, kseq, kblk, kret, klp, Abs.one, elems, cells, scalar, eqC, Nat.reduceBEq, Nat.reduceAdd, Nat.reduceSub, Nat.reduceLT, Nat.reduceLeDiff, Nat.reduceMul, Nat.reduceEqDiff, cond_true, cond_false, if_true, if_false, reduceIte, implies_true, forall_const, ne_eq]
    refine Frz.eq ?_ (by simp)
    rw [Sp.known, if_pos hn]
  · refine AWPC.of_vc ?_; simp only [zS, zU, vcC, lateX, ex, strp, cnd, binA, kseq, kblk, kret, klp, Abs.one, elems, cells, scalar, eqC, Nat.reduceBEq, Nat.reduceAdd, Nat.reduceSub, Nat.reduceLT, Nat.reduceLeDiff, Nat.reduceMul, Nat.reduceEqDiff, cond_true, cond_false, if_true, if_false, reduceIte, implies_true, forall_const, ne_eq]
    refine AWPC.of_vc ?_; simp only [zS, zU, vcC, lateX, ex, strp, cnd, binA, kseq, kblk, kret, klp, Abs.one, elems, cells, scalar, eqC, Nat.reduceBEq, Nat.reduceAdd, Nat.reduceSub, Nat.reduceLT, Nat.reduceLeDiff, Nat.reduceMul, Nat.reduceEqDiff, cond_true, cond_false, if_true, if_false, reduceIte, implies_true, forall_const, ne_eq]
    rw [wr64 (x - h) (by omega) (by omega), wr64 ((x - h) * 1000) (by omega) (by omega), wr64 (k + 1) (by omega) (by omega)]
    (refine ⟨_, _, _, _, rfl, fun _hc => ⟨by simp, floor_spec _ _ (by omega) (by omega) (by omega)⟩, ?_⟩; refine pre_of_exd ?_; simp only [zS, zU, vcC, lateX, ex, strp, cnd, binA, kseq, kblk, kret, klp, Abs.one, elems, cells, scalar, eqC, Nat.reduceBEq, Nat.reduceAdd, Nat.reduceSub, Nat.reduceLT, Nat.reduceLeDiff, Nat.reduceMul, Nat.reduceEqDiff, cond_true, cond_false, if_true, if_false, reduceIte, implies_true, forall_const, ne_eq])
    refine AWPC.of_vc ?_; simp only [zS, zU, vcC, lateX, ex, strp, cnd, binA, kseq, kblk, kret, klp, Abs.one, elems, cells, scalar, eqC, Nat.reduceBEq, Nat.reduceAdd, Nat.reduceSub, Nat.reduceLT, Nat.reduceLeDiff, Nat.reduceMul, Nat.reduceEqDiff, cond_true, cond_false, if_true, if_false, reduceIte, implies_true, forall_const, ne_eq]
    refine AWPC.of_vc ?_; simp only [zS, zU, vcC, lateX, ex, strp, cnd, binA, kseq, kblk, kret, klp, Abs.one, elems, cells, scalar, eqC, Nat.reduceBEq, Nat.reduceAdd, Nat.reduceSub, Nat.reduceLT, Nat.reduceLeDiff, Nat.reduceMul, Nat.reduceEqDiff, cond_true, cond_false, if_true, if_false, reduceIte, implies_true, forall_const, ne_eq]
    refine ⟨fun hp => ?_, fun hp => ?_⟩
    · refine AWPC.of_vc ?_; simp only [zS, zU, vcC, lateX, ex, strp, cnd, binA, kseq, kblk, kret, klp, Abs.one, elems, cells, scalar, eqC, Nat.reduceBEq, Nat.reduceAdd, Nat.reduceSub, Nat.reduceLT, Nat.reduceLeDiff, Nat.reduceMul, Nat.reduceEqDiff, cond_true, cond_false, if_true, if_false, reduceIte, implies_true, forall_const, ne_eq]
      rw [wr64 (x + h) (by omega) (by omega), wr64 (0 - (x + h)) (by omega) (by omega), wr64 ((0 - (x + h)) * 1000) (by omega) (by omega)]
      have hd := ediv_bd (a := (0 - (x + h)) * 1000) (b := k) (A := 405000000) (by omega) (by omega) (by omega) (by omega)
      (refine ⟨_, _, _, _, rfl, fun _hc => ⟨by simp, floor_spec _ _ (by omega) (by omega) (by omega)⟩, ?_⟩; refine pre_of_exd ?_; simp only [zS, zU, vcC, lateX, ex, strp, cnd, binA, kseq, kblk, kret, klp, Abs.one, elems, cells, scalar, eqC, Nat.reduceBEq, Nat.reduceAdd, Nat.reduceSub, Nat.reduceLT, Nat.reduceLeDiff, Nat.reduceMul, Nat.reduceEqDiff, cond_true, cond_false, if_true, if_false, reduceIte, implies_true, forall_const, ne_eq])
      rw [wr64 _ (by omega) (by omega)]
      refine AWPC.of_vc ?_; simp only [zS, zU, vcC, lateX, ex, strp, cnd, binA, kseq, kblk, kret, klp, Abs.one, elems, cells, scalar, eqC, Nat.reduceBEq, Nat.reduceAdd, Nat.reduceSub, Nat.reduceLT, Nat.reduceLeDiff, Nat.reduceMul, Nat.reduceEqDiff, cond_true, cond_false, if_true, if_false, reduceIte, implies_true, forall_const, ne_eq]
      refine AWPC.of_vc ?_; simp only [zS, zU, vcC, lateX, ex, strp, cnd, binA, kseq, kblk, kret, klp, Abs.one, elems, cells, scalar, eqC, Nat.reduceBEq, Nat.reduceAdd, Nat.reduceSub, Nat.reduceLT, Nat.reduceLeDiff, Nat.reduceMul, Nat.reduceEqDiff, cond_true, cond_false, if_true, if_false, reduceIte, implies_true, forall_const, ne_eq]
      refine Frz.eq ?_ (by simp)
      rw [Sp.known, if_neg hn, if_pos hp]
      simp
    · refine AWPC.of_vc ?_; simp only [zS, zU, vcC, lateX, ex, strp, cnd, binA, kseq, kblk, kret, klp, Abs.one, elems, cells, scalar, eqC, Nat.reduceBEq, Nat.reduceAdd, Nat.reduceSub, Nat.reduceLT, Nat.reduceLeDiff, Nat.reduceMul, Nat.reduceEqDiff, cond_true, cond_false, if_true, if_false, reduceIte, implies_true, forall_const, ne_eq]
      refine AWPC.of_vc ?_; simp only [zS, zU, vcC, lateX, ex, strp, cnd, binA, kseq, kblk, kret, klp, Abs.one, elems, cells, scalar, eqC, Nat.reduceBEq, Nat.reduceAdd, Nat.reduceSub, Nat.reduceLT, Nat.reduceLeDiff, Nat.reduceMul, Nat.reduceEqDiff, cond_true, cond_false, if_true, if_false, reduceIte, implies_true, forall_const, ne_eq]
      refine AWPC.of_vc ?_; simp only [zS, zU, vcC, lateX, ex, strp, cnd, binA, kseq, kblk, kret, klp, Abs.one, elems, cells, scalar, eqC, Nat.reduceBEq, Nat.reduceAdd, Nat.reduceSub, Nat.reduceLT, Nat.reduceLeDiff, Nat.reduceMul, Nat.reduceEqDiff, cond_true, cond_false, if_true, if_false, reduceIte, implies_true, forall_const, ne_eq]
      refine Frz.eq ?_ (by simp)
      rw [Sp.known, if_neg hn, if_neg hp]

theorem line_spec (p : Pp) (t : Pt) : Pure Try.prog 73 [.agg p.cs, .agg t.cs] (.fn (.func 121) [] [.iptr p.cs 0, .iptr t.cs 0]) := by
  refine Pure.of_body Try.call73 Try.func73 k73 (Nat.le_of_ble_eq_true rfl) ?_
  unfold c73
  refine AWPC.of_vc ?_; simp only [zS, zU, vcC, lateX, ex, strp, cnd, binA, kseq, kblk, kret, klp, Abs.one, elems, cells, scalar, eqC, Nat.reduceBEq, Nat.reduceAdd, Nat.reduceSub, Nat.reduceLT, Nat.reduceLeDiff, Nat.reduceMul, Nat.reduceEqDiff, cond_true, cond_false, if_true, if_false, reduceIte, implies_true, forall_const, ne_eq]
  refine AWPC.of_vc ?_; simp only [zS, zU, vcC, lateX, ex, strp, cnd, binA, kseq, kblk, kret, klp, Abs.one, elems, cells, scalar, eqC, Nat.reduceBEq, Nat.reduceAdd, Nat.reduceSub, Nat.reduceLT, Nat.reduceLeDiff, Nat.reduceMul, Nat.reduceEqDiff, cond_true, cond_false, if_true, if_false, reduceIte, implies_true, forall_const, ne_eq]
  refine AWPC.of_vc ?_; simp only [zS, zU, vcC, lateX, ex, strp, cnd, binA, kseq, kblk, kret, klp, Abs.one, elems, cells, scalar, eqC, Nat.reduceBEq, Nat.reduceAdd, Nat.reduceSub, Nat.reduceLT, Nat.reduceLeDiff, Nat.reduceMul, Nat.reduceEqDiff, cond_true, cond_false, if_true, if_false, reduceIte, implies_true, forall_const, ne_eq]
  exact Frz.eq rfl (by simp)
end Go.Proofs.Ytgpdckmbojmlpaa

namespace Go.Proofs.Ytgpdckmbojmlpaa
open Go.Abs
set_option linter.unusedVariables false
set_option linter.unusedSimpArgs false
set_option maxHeartbeats 4000000
set_option maxRecDepth 100000
-- aneroid/paper.Calibrate
def c31 : CF := ⟨68,
 (.seq (.ops [
 ⟨(some 4), .box true 25 10 (.t 0), none⟩,
 ⟨(some 7), .box false 32 3 (.t 3), none⟩,
 ⟨(some 8), .alloc 25 10 [.int .i64 0, .int .i64 0, .int .i64 0, .int .i64 0, .int .i64 0, .int .i64 0, .int .i64 0, .int .i64 0, .int .i64 0, .int .i64 0], none⟩,
 ⟨(some 9), .mv (.c (.int .i64 0)), none⟩] [1, 2, 4, 7, 8])
 (.seq (.ops [
 ⟨(some 13), .load (some 10) (.t 4), none⟩,
 ⟨(some 14), .load (some 3) (.t 7), none⟩,
 ⟨(some 15), .bsl false 32 3 1 [.int .i64 0, .int .i64 0, .int .i64 0] [(0, 3, (.t 14))], none⟩,
 ⟨(some 16), .call (.f 71) [(.t 13), (.t 15)], none⟩,
 ⟨(some 12), .mv (.t 16), none⟩,
 ⟨(some 17), .ext 0 (.t 12), none⟩,
 ⟨(some 18), .ext 1 (.t 12), none⟩,
 ⟨(some 10), .alloc 85 10 [.int .i64 0, .int .i64 0, .int .i64 0, .int .i64 0, .int .i64 0, .int .i64 0, .int .i64 0, .int .i64 0, .int .i64 0, .int .i64 0], none⟩,
 ⟨none, .store 10 (.t 10) (.t 17), none⟩,
 ⟨(some 11), .mv (.t 18), none⟩] [1, 2, 4, 7, 8, 11])
 (.seq (.block 0 (.seq (.ops [
 ⟨(some 20), .mv (.t 11), none⟩,
 ⟨(some 21), .bin .neq (.t 20) (.c (.int .i64 0)), none⟩,
 ⟨(some 19), .mv (.t 21), none⟩] [1, 2, 4, 7, 8, 11, 19])
 (.cond (.t 19) (.seq (.ops [
 ⟨(some 22), .build [.int .i64 0, .int .i64 0, .int .i64 0, .int .i64 0, .int .i64 0, .int .i64 0, .int .i64 0, .int .i64 0, .int .i64 0, .int .i64 0] [], none⟩,
 ⟨(some 23), .mv (.t 11), none⟩,
 ⟨none, .store 10 (.t 8) (.t 22), none⟩,
 ⟨(some 9), .mv (.t 23), none⟩] [8, 9])
 .ret)
 (.seq (.seq (.ops [
 ⟨(some 25), .mv (.t 1), none⟩,
 ⟨(some 26), .call (.f 72) [(.t 25), (.c (.int .i64 (-1))), (.c (.int .i64 800000))], none⟩,
 ⟨(some 27), .un .not (.t 26), none⟩,
 ⟨(some 24), .mv (.t 27), none⟩] [1, 2, 4, 7, 8, 24])
 (.cond (.t 24) .skip
 (.ops [
 ⟨(some 28), .mv (.t 2), none⟩,
 ⟨(some 29), .call (.f 72) [(.t 28), (.c (.int .i64 (-1))), (.c (.int .i64 800000))], none⟩,
 ⟨(some 30), .un .not (.t 29), none⟩,
 ⟨(some 24), .mv (.t 30), none⟩] [1, 2, 4, 7, 8, 24])))
 (.cond (.t 24) (.seq (.ops [
 ⟨(some 31), .build [.int .i64 0, .int .i64 0, .int .i64 0, .int .i64 0, .int .i64 0, .int .i64 0, .int .i64 0, .int .i64 0, .int .i64 0, .int .i64 0] [], none⟩,
 ⟨none, .store 10 (.t 8) (.t 31), none⟩,
 ⟨(some 9), .mv (.c (.int .i64 1)), none⟩] [8, 9])
 .ret)
 .skip)))))
 (.seq (.draw [
 ⟨(some 32), .faddr 6 (.t 4), none⟩,
 ⟨(some 33), .load (some 2) (.t 32), none⟩,
 ⟨(some 34), .mv (.t 1), none⟩,
 ⟨(some 35), .faddr 0 (.t 7), none⟩,
 ⟨(some 36), .load none (.t 35), none⟩,
 ⟨(some 37), .faddr 2 (.t 7), none⟩,
 ⟨(some 38), .load none (.t 37), none⟩,
 ⟨(some 39), .call (.f 86) [(.t 33), (.t 34), (.t 36), (.t 38)], none⟩,
 ⟨(some 40), .faddr 8 (.t 4), none⟩,
 ⟨(some 41), .load (some 2) (.t 40), none⟩,
 ⟨(some 42), .mv (.t 2), none⟩,
 ⟨(some 43), .faddr 1 (.t 7), none⟩,
 ⟨(some 44), .load none (.t 43), none⟩,
 ⟨(some 45), .faddr 2 (.t 7), none⟩,
 ⟨(some 46), .load none (.t 45), none⟩,
 ⟨(some 47), .call (.f 86) [(.t 41), (.t 42), (.t 44), (.t 46)], none⟩,
 ⟨(some 48), .faddr 6 (.t 4), none⟩] [
 ⟨none, .store 2 (.t 48) (.t 39), none⟩,
 ⟨(some 49), .faddr 8 (.t 4), none⟩,
 ⟨none, .store 2 (.t 49) (.t 47), none⟩] [4, 8])
 (.seq (.seq (.ops [
 ⟨(some 50), .faddr 6 (.t 4), none⟩,
 ⟨(some 51), .faddr 0 (.t 50), none⟩,
 ⟨(some 52), .load none (.t 51), none⟩,
 ⟨(some 53), .faddr 6 (.t 4), none⟩,
 ⟨(some 54), .faddr 1 (.t 53), none⟩,
 ⟨(some 55), .load none (.t 54), none⟩,
 ⟨(some 56), .bin .gtr (.t 52) (.t 55), none⟩,
 ⟨(some 57), .mv (.t 56), none⟩,
 ⟨(some 58), .faddr 8 (.t 4), (some (57, false))⟩,
 ⟨(some 59), .faddr 0 (.t 58), (some (57, false))⟩,
 ⟨(some 60), .load none (.t 59), (some (57, false))⟩,
 ⟨(some 61), .faddr 8 (.t 4), (some (57, false))⟩,
 ⟨(some 62), .faddr 1 (.t 61), (some (57, false))⟩,
 ⟨(some 63), .load none (.t 62), (some (57, false))⟩,
 ⟨(some 64), .bin .gtr (.t 60) (.t 63), (some (57, false))⟩,
 ⟨(some 65), .pick (.t 57) (.c (.bool true)) (.t 64), none⟩] [4, 8, 65])
 (.cond (.t 65) (.seq (.ops [
 ⟨(some 66), .build [.int .i64 0, .int .i64 0, .int .i64 0, .int .i64 0, .int .i64 0, .int .i64 0, .int .i64 0, .int .i64 0, .int .i64 0, .int .i64 0] [], none⟩,
 ⟨none, .store 10 (.t 8) (.t 66), none⟩,
 ⟨(some 9), .mv (.c (.int .i64 3)), none⟩] [8, 9])
 .ret)
 .skip))
 (.seq (.ops [
 ⟨(some 67), .load (some 10) (.t 4), none⟩,
 ⟨none, .store 10 (.t 8) (.t 67), none⟩,
 ⟨(some 9), .mv (.c (.int .i64 0)), none⟩] [8, 9])
 .ret)))))),
 [.c 8 (some 10), .t 9]⟩
-- aneroid/aneroidref01.SameSpans
def c33 : CF := ⟨26,
 (.seq (.ops [
 ⟨(some 4), .mv (.c (.bool false)), none⟩] [0, 1])
 (.seq (.seq (.ops [
 ⟨(some 6), .mv (.t 0), none⟩,
 ⟨(some 7), .len (.t 6), none⟩,
 ⟨(some 8), .mv (.t 1), none⟩,
 ⟨(some 9), .len (.t 8), none⟩,
 ⟨(some 10), .bin .neq (.t 7) (.t 9), none⟩] [0, 1, 10])
 (.cond (.t 10) (.seq (.ops [
 ⟨(some 4), .mv (.c (.bool false)), none⟩] [4])
 .ret)
 .skip))
 (.seq (.seq (.ops [
 ⟨(some 5), .mv (.c (.int .i64 0)), none⟩] [0, 1, 5])
 (.block 0 (.loop (.seq (.seq (.ops [
 ⟨(some 11), .mv (.t 5), none⟩,
 ⟨(some 12), .mv (.t 0), none⟩,
 ⟨(some 13), .len (.t 12), none⟩,
 ⟨(some 14), .bin .lss (.t 11) (.t 13), none⟩] [0, 1, 5, 14])
 (.cond (.t 14) .skip
 (.exit 0)))
 (.seq (.block 1 (.seq (.draw [
 ⟨(some 17), .mv (.t 0), none⟩,
 ⟨(some 18), .mv (.t 5), none⟩,
 ⟨(some 19), .iaddr 2 (.t 17) (.t 18), none⟩,
 ⟨(some 20), .load (some 2) (.t 19), none⟩,
 ⟨(some 21), .mv (.t 1), none⟩,
 ⟨(some 22), .mv (.t 5), none⟩,
 ⟨(some 23), .iaddr 2 (.t 21) (.t 22), none⟩,
 ⟨(some 24), .load (some 2) (.t 23), none⟩,
 ⟨(some 25), .eqs true [some .i64, some .i64] (.t 20) (.t 24), none⟩] [
 ] [0, 1, 5, 25])
 (.cond (.t 25) (.seq (.ops [
 ⟨(some 4), .mv (.c (.bool false)), none⟩] [4])
 .ret)
 .skip)))
 (.ops [
 ⟨(some 15), .mv (.t 5), none⟩,
 ⟨(some 16), .bin .add (.t 15) (.c (.int .i64 1)), none⟩,
 ⟨(some 5), .mv (.t 16), none⟩] [0, 1, 5]))))))
 (.seq (.ops [
 ⟨(some 4), .mv (.c (.bool true)), none⟩] [4])
 .ret)))),
 [.t 4]⟩
-- (aneroid/paper.form).line$1
def c121 : CF := ⟨46,
 (.seq (.draw [
 ⟨(some 8), .load (some 10) (.t 1), none⟩,
 ⟨(some 9), .load (some 3) (.t 2), none⟩,
 ⟨(some 10), .call (.f 88) [(.t 8), (.t 9)], none⟩,
 ⟨(some 11), .load (some 10) (.t 1), none⟩,
 ⟨(some 12), .load (some 3) (.t 2), none⟩,
 ⟨(some 13), .call (.f 92) [(.t 11), (.t 12)], none⟩,
 ⟨(some 4), .alloc 23 2 [.int .i64 0, .int .i64 0], none⟩,
 ⟨(some 5), .alloc 23 2 [.int .i64 0, .int .i64 0], none⟩] [
 ⟨none, .store 2 (.t 4) (.t 10), none⟩,
 ⟨none, .store 2 (.t 5) (.t 13), none⟩] [0, 1, 4, 5])
 (.seq (.ops [
 ⟨(some 14), .faddr 0 (.t 5), none⟩,
 ⟨(some 15), .load none (.t 14), none⟩,
 ⟨(some 6), .mv (.t 15), none⟩] [0, 1, 4, 5, 6])
 (.block 0 (.loop (.seq (.seq (.ops [
 ⟨(some 16), .mv (.t 6), none⟩,
 ⟨(some 17), .faddr 1 (.t 5), none⟩,
 ⟨(some 18), .load none (.t 17), none⟩,
 ⟨(some 19), .bin .leq (.t 16) (.t 18), none⟩] [0, 1, 4, 5, 6, 19])
 (.cond (.t 19) .skip
 (.exit 0)))
 (.seq (.block 1 (.seq (.ops [
 ⟨(some 22), .load (some 10) (.t 1), none⟩,
 ⟨(some 23), .mv (.t 6), none⟩,
 ⟨(some 24), .call (.f 70) [(.t 22), (.t 23)], none⟩,
 ⟨(some 7), .mv (.t 24), none⟩] [0, 1, 4, 5, 6, 7])
 (.seq (.draw [
 ⟨(some 25), .mv (.t 0), none⟩,
 ⟨(some 26), .mv (.t 6), none⟩,
 ⟨(some 27), .faddr 0 (.t 4), none⟩,
 ⟨(some 28), .load none (.t 27), none⟩,
 ⟨(some 29), .mv (.t 7), none⟩,
 ⟨(some 30), .bin .sub (.t 28) (.t 29), none⟩,
 ⟨(some 31), .faddr 0 (.t 1), none⟩,
 ⟨(some 32), .faddr 0 (.t 31), none⟩,
 ⟨(some 33), .load none (.t 32), none⟩,
 ⟨(some 34), .call (.f 83) [(.t 30), (.t 33)], none⟩,
 ⟨(some 35), .faddr 1 (.t 4), none⟩,
 ⟨(some 36), .load none (.t 35), none⟩,
 ⟨(some 37), .mv (.t 7), none⟩,
 ⟨(some 38), .bin .sub (.t 36) (.t 37), none⟩,
 ⟨(some 39), .faddr 0 (.t 1), none⟩,
 ⟨(some 40), .faddr 0 (.t 39), none⟩,
 ⟨(some 41), .load none (.t 40), none⟩,
 ⟨(some 42), .call (.f 83) [(.t 38), (.t 41)], none⟩,
 ⟨(some 43), .build [.int .i64 0, .int .i64 0] [(0, 1, (.t 34)), (1, 1, (.t 42))], none⟩] [
 ⟨(some 44), .call (.t 25) [(.t 26), (.t 43)], none⟩,
 ⟨(some 45), .un .not (.t 44), none⟩] [0, 1, 4, 5, 6, 45])
 (.cond (.t 45) .ret
 .skip))))
 (.ops [
 ⟨(some 20), .mv (.t 6), none⟩,
 ⟨(some 21), .bin .add (.t 20) (.c (.int .i64 1)), none⟩,
 ⟨(some 6), .mv (.t 21), none⟩] [0, 1, 4, 5, 6]))))))),
 []⟩

theorem k31 : chkF Try.prog Try.f31 c31 = true := by kernel_rfl
theorem k33 : chkF Try.prog Try.f33 c33 = true := by kernel_rfl
theorem k121 : chkF Try.prog Try.f121 c121 = true := by kernel_rfl

def Pp.perr1 (p : Pp) (t : Pt) : Int := if p.good then (if t.right then 0 else 11) else 10

theorem trace1 (t : Pt) : traceErr [t] = (if t.right then 0 else 11, 0) := by
  show (if 2000 < 1 then (2, 0) else if t.right then (0, 0) else (11, 0)) = _
  rw [if_neg (by decide)]; split <;> rfl

theorem read1_spec (p : Pp) (t : Pt) : Pure Try.prog 71 [.agg p.cs, .sl 3 [t.cs]] (.tup [.agg p.orz.cs, n (p.perr1 t)]) := by
  have h := read_spec p [t] (by simp)
  rw [trace1] at h
  exact h

def Pp.calib (p : Pp) (x y : Int) (t : Pt) : Pp := { p with al := p.al.known x t.x t.h, cl := p.cl.known y t.y t.h }

def Pp.Calib (p : Pp) (x y : Int) (t : Pt) : Pp × Int :=
  if p.perr1 t ≠ 0 then (Pp.z, p.perr1 t) else
  if ¬ (-1 ≤ x ∧ x ≤ 800000) ∨ ¬ (-1 ≤ y ∧ y ≤ 800000) then (Pp.z, 1) else
  if (p.calib x y t).al.hi < (p.calib x y t).al.lo ∨ (p.calib x y t).cl.hi < (p.calib x y t).cl.lo then (Pp.z, 3) else (p.calib x y t, 0)

theorem perr0 {p : Pp} {t : Pt} (h : p.perr1 t = 0) : p.good ∧ t.right := by
  unfold Pp.perr1 at h
  by_cases h1 : p.good
  · rw [if_pos h1] at h
    by_cases h2 : t.right
    · exact ⟨h1, h2⟩
    · rw [if_neg h2] at h; exact absurd h (by decide)
  · rw [if_neg h1] at h; exact absurd h (by decide)

theorem Calibrate_spec (p : Pp) (x y : Int) (t : Pt) : Pure Try.prog 31 [.agg p.cs, n x, n y, .agg t.cs] (.tup [.agg (p.Calib x y t).1.cs, n (p.Calib x y t).2]) := by
  refine Pure.of_body Try.call31 Try.func31 k31 (Nat.le_of_ble_eq_true rfl) ?_
  unfold c31
  refine AWPC.of_vc ?_; simp only [zS, zU, vcC, lateX, ex, strp, cnd, binA, kseq, kblk, kret, klp, Abs.one, elems, cells, scalar, eqC, Nat.reduceBEq, Nat.reduceAdd, Nat.reduceSub, Nat.reduceLT, Nat.reduceLeDiff, Nat.reduceMul, Nat.reduceEqDiff, cond_true, cond_false, if_true, if_false, reduceIte, implies_true, forall_const, ne_eq]
  refine AWPC.of_vc ?_; simp only [zS, zU, vcC, lateX, ex, strp, cnd, binA, kseq, kblk, kret, klp, Abs.one, elems, cells, scalar, eqC, Nat.reduceBEq, Nat.reduceAdd, Nat.reduceSub, Nat.reduceLT, Nat.reduceLeDiff, Nat.reduceMul, Nat.reduceEqDiff, cond_true, cond_false, if_true, if_false, reduceIte, implies_true, forall_const, ne_eq]
  ((repeat (refine And.intro (by (intros; first | omega | (simp_all (config := { decide := false }); done) | fail)) ?_)); refine .inl ⟨_, _, _, _, rfl, fun _hc => ⟨by simp, read1_spec p t⟩, ?_⟩; refine owp_of_exs ?_; simp only [zS, zU, vcC, lateX, ex, strp, cnd, binA, kseq, kblk, kret, klp, Abs.one, elems, cells, scalar, eqC, Nat.reduceBEq, Nat.reduceAdd, Nat.reduceSub, Nat.reduceLT, Nat.reduceLeDiff, Nat.reduceMul, Nat.reduceEqDiff, cond_true, cond_false, if_true, if_false, reduceIte, implies_true, forall_const, ne_eq])
  refine AWPC.of_vc ?_; simp only [zS, zU, vcC, lateX, ex, strp, cnd, binA, kseq, kblk, kret, klp, Abs.one, elems, cells, scalar, eqC, Nat.reduceBEq, Nat.reduceAdd, Nat.reduceSub, Nat.reduceLT, Nat.reduceLeDiff, Nat.reduceMul, Nat.reduceEqDiff, cond_true, cond_false, if_true, if_false, reduceIte, implies_true, forall_const, ne_eq]
  refine AWPC.of_vc ?_; simp only [zS, zU, vcC, lateX, ex, strp, cnd, binA, kseq, kblk, kret, klp, Abs.one, elems, cells, scalar, eqC, Nat.reduceBEq, Nat.reduceAdd, Nat.reduceSub, Nat.reduceLT, Nat.reduceLeDiff, Nat.reduceMul, Nat.reduceEqDiff, cond_true, cond_false, if_true, if_false, reduceIte, implies_true, forall_const, ne_eq]
  refine ⟨fun he => ?_, fun he => ?_⟩
  · refine AWPC.of_vc ?_; simp only [zS, zU, vcC, lateX, ex, strp, cnd, binA, kseq, kblk, kret, klp, Abs.one, elems, cells, scalar, eqC, Nat.reduceBEq, Nat.reduceAdd, Nat.reduceSub, Nat.reduceLT, Nat.reduceLeDiff, Nat.reduceMul, Nat.reduceEqDiff, cond_true, cond_false, if_true, if_false, reduceIte, implies_true, forall_const, ne_eq]
    refine AWPC.of_vc ?_; simp only [zS, zU, vcC, lateX, ex, strp, cnd, binA, kseq, kblk, kret, klp, Abs.one, elems, cells, scalar, eqC, Nat.reduceBEq, Nat.reduceAdd, Nat.reduceSub, Nat.reduceLT, Nat.reduceLeDiff, Nat.reduceMul, Nat.reduceEqDiff, cond_true, cond_false, if_true, if_false, reduceIte, implies_true, forall_const, ne_eq]
    refine Frz.eq ?_ (by simp)
    rw [Pp.Calib, if_pos he]; rfl
  · obtain ⟨hg, ht⟩ := perr0 he
    refine AWPC.of_vc ?_; simp only [zS, zU, vcC, lateX, ex, strp, cnd, binA, kseq, kblk, kret, klp, Abs.one, elems, cells, scalar, eqC, Nat.reduceBEq, Nat.reduceAdd, Nat.reduceSub, Nat.reduceLT, Nat.reduceLeDiff, Nat.reduceMul, Nat.reduceEqDiff, cond_true, cond_false, if_true, if_false, reduceIte, implies_true, forall_const, ne_eq]
    ((repeat (refine And.intro (by (intros; first | omega | (simp_all (config := { decide := false }); done) | fail)) ?_)); refine .inl ⟨_, _, _, _, rfl, fun _hc => ⟨by simp, within_spec _ _ _⟩, ?_⟩; refine owp_of_exs ?_; simp only [zS, zU, vcC, lateX, ex, strp, cnd, binA, kseq, kblk, kret, klp, Abs.one, elems, cells, scalar, eqC, Nat.reduceBEq, Nat.reduceAdd, Nat.reduceSub, Nat.reduceLT, Nat.reduceLeDiff, Nat.reduceMul, Nat.reduceEqDiff, cond_true, cond_false, if_true, if_false, reduceIte, implies_true, forall_const, ne_eq])
    refine AWPC.of_vc ?_; simp only [zS, zU, vcC, lateX, ex, strp, cnd, binA, kseq, kblk, kret, klp, Abs.one, elems, cells, scalar, eqC, Nat.reduceBEq, Nat.reduceAdd, Nat.reduceSub, Nat.reduceLT, Nat.reduceLeDiff, Nat.reduceMul, Nat.reduceEqDiff, cond_true, cond_false, if_true, if_false, reduceIte, implies_true, forall_const, ne_eq]
    refine ⟨fun hx => ?_, fun hx => ?_⟩
    · refine AWPC.of_vc ?_; simp only [zS, zU, vcC, lateX, ex, strp, cnd, binA, kseq, kblk, kret, klp, Abs.one, elems, cells, scalar, eqC, Nat.reduceBEq, Nat.reduceAdd, Nat.reduceSub, Nat.reduceLT, Nat.reduceLeDiff, Nat.reduceMul, Nat.reduceEqDiff, cond_true, cond_false, if_true, if_false, reduceIte, implies_true, forall_const, ne_eq]
      refine AWPC.of_vc ?_; simp only [zS, zU, vcC, lateX, ex, strp, cnd, binA, kseq, kblk, kret, klp, Abs.one, elems, cells, scalar, eqC, Nat.reduceBEq, Nat.reduceAdd, Nat.reduceSub, Nat.reduceLT, Nat.reduceLeDiff, Nat.reduceMul, Nat.reduceEqDiff, cond_true, cond_false, if_true, if_false, reduceIte, implies_true, forall_const, ne_eq]
      refine ⟨fun hx' => ?_, fun hx' => ?_⟩
      · refine AWPC.of_vc ?_; simp only [zS, zU, vcC, lateX, ex, strp, cnd, binA, kseq, kblk, kret, klp, Abs.one, elems, cells, scalar, eqC, Nat.reduceBEq, Nat.reduceAdd, Nat.reduceSub, Nat.reduceLT, Nat.reduceLeDiff, Nat.reduceMul, Nat.reduceEqDiff, cond_true, cond_false, if_true, if_false, reduceIte, implies_true, forall_const, ne_eq]
        refine AWPC.of_vc ?_; simp only [zS, zU, vcC, lateX, ex, strp, cnd, binA, kseq, kblk, kret, klp, Abs.one, elems, cells, scalar, eqC, Nat.reduceBEq, Nat.reduceAdd, Nat.reduceSub, Nat.reduceLT, Nat.reduceLeDiff, Nat.reduceMul, Nat.reduceEqDiff, cond_true, cond_false, if_true, if_false, reduceIte, implies_true, forall_const, ne_eq]
        refine Frz.eq ?_ (by simp)
        rw [Pp.Calib, if_neg (by simp [he]), if_pos (.inl hx)]; rfl
      · exact absurd hx' hx
    · refine AWPC.of_vc ?_; simp only [zS, zU, vcC, lateX, ex, strp, cnd, binA, kseq, kblk, kret, klp, Abs.one, elems, cells, scalar, eqC, Nat.reduceBEq, Nat.reduceAdd, Nat.reduceSub, Nat.reduceLT, Nat.reduceLeDiff, Nat.reduceMul, Nat.reduceEqDiff, cond_true, cond_false, if_true, if_false, reduceIte, implies_true, forall_const, ne_eq]
      ((repeat (refine And.intro (by (intros; first | omega | (simp_all (config := { decide := false }); done) | fail)) ?_)); refine .inl ⟨_, _, _, _, rfl, fun _hc => ⟨by simp, within_spec _ _ _⟩, ?_⟩; refine owp_of_exs ?_; simp only [zS, zU, vcC, lateX, ex, strp, cnd, binA, kseq, kblk, kret, klp, Abs.one, elems, cells, scalar, eqC, Nat.reduceBEq, Nat.reduceAdd, Nat.reduceSub, Nat.reduceLT, Nat.reduceLeDiff, Nat.reduceMul, Nat.reduceEqDiff, cond_true, cond_false, if_true, if_false, reduceIte, implies_true, forall_const, ne_eq])
      refine AWPC.of_vc ?_; simp only [zS, zU, vcC, lateX, ex, strp, cnd, binA, kseq, kblk, kret, klp, Abs.one, elems, cells, scalar, eqC, Nat.reduceBEq, Nat.reduceAdd, Nat.reduceSub, Nat.reduceLT, Nat.reduceLeDiff, Nat.reduceMul, Nat.reduceEqDiff, cond_true, cond_false, if_true, if_false, reduceIte, implies_true, forall_const, ne_eq]
      refine ⟨fun hy => ?_, fun hy => ?_⟩
      · refine AWPC.of_vc ?_; simp only [zS, zU, vcC, lateX, ex, strp, cnd, binA, kseq, kblk, kret, klp, Abs.one, elems, cells, scalar, eqC, Nat.reduceBEq, Nat.reduceAdd, Nat.reduceSub, Nat.reduceLT, Nat.reduceLeDiff, Nat.reduceMul, Nat.reduceEqDiff, cond_true, cond_false, if_true, if_false, reduceIte, implies_true, forall_const, ne_eq]
        refine AWPC.of_vc ?_; simp only [zS, zU, vcC, lateX, ex, strp, cnd, binA, kseq, kblk, kret, klp, Abs.one, elems, cells, scalar, eqC, Nat.reduceBEq, Nat.reduceAdd, Nat.reduceSub, Nat.reduceLT, Nat.reduceLeDiff, Nat.reduceMul, Nat.reduceEqDiff, cond_true, cond_false, if_true, if_false, reduceIte, implies_true, forall_const, ne_eq]
        refine Frz.eq ?_ (by simp)
        rw [Pp.Calib, if_neg (by simp [he]), if_pos (.inr hy)]; rfl
      · have hx2 : -1 ≤ x ∧ x ≤ 800000 := by omega
        have hy2 : -1 ≤ y ∧ y ≤ 800000 := by omega
        refine AWPC.of_vc ?_; simp only [zS, zU, vcC, lateX, ex, strp, cnd, binA, kseq, kblk, kret, klp, Abs.one, elems, cells, scalar, eqC, Nat.reduceBEq, Nat.reduceAdd, Nat.reduceSub, Nat.reduceLT, Nat.reduceLeDiff, Nat.reduceMul, Nat.reduceEqDiff, cond_true, cond_false, if_true, if_false, reduceIte, implies_true, forall_const, ne_eq]
        refine AWPC.of_vc ?_; simp only [zS, zU, vcC, lateX, ex, strp, cnd, binA, kseq, kblk, kret, klp, Abs.one, elems, cells, scalar, eqC, Nat.reduceBEq, Nat.reduceAdd, Nat.reduceSub, Nat.reduceLT, Nat.reduceLeDiff, Nat.reduceMul, Nat.reduceEqDiff, cond_true, cond_false, if_true, if_false, reduceIte, implies_true, forall_const, ne_eq]
        (refine ⟨_, _, _, _, rfl, fun _hc => ⟨by simp, calibrated_spec p.al x t.x t.h hx2.2 ⟨ht.1, ht.2.1⟩ ⟨ht.2.2.2.2.1, ht.2.2.2.2.2⟩⟩, ?_⟩; refine pre_of_exd ?_; simp only [zS, zU, vcC, lateX, ex, strp, cnd, binA, kseq, kblk, kret, klp, Abs.one, elems, cells, scalar, eqC, Nat.reduceBEq, Nat.reduceAdd, Nat.reduceSub, Nat.reduceLT, Nat.reduceLeDiff, Nat.reduceMul, Nat.reduceEqDiff, cond_true, cond_false, if_true, if_false, reduceIte, implies_true, forall_const, ne_eq])
        (refine ⟨_, _, _, _, rfl, fun _hc => ⟨by simp, calibrated_spec p.cl y t.y t.h hy2.2 ⟨ht.2.2.1, ht.2.2.2.1⟩ ⟨ht.2.2.2.2.1, ht.2.2.2.2.2⟩⟩, ?_⟩; refine pre_of_exd ?_; simp only [zS, zU, vcC, lateX, ex, strp, cnd, binA, kseq, kblk, kret, klp, Abs.one, elems, cells, scalar, eqC, Nat.reduceBEq, Nat.reduceAdd, Nat.reduceSub, Nat.reduceLT, Nat.reduceLeDiff, Nat.reduceMul, Nat.reduceEqDiff, cond_true, cond_false, if_true, if_false, reduceIte, implies_true, forall_const, ne_eq])
        refine AWPC.of_vc ?_; simp only [zS, zU, vcC, lateX, ex, strp, cnd, binA, kseq, kblk, kret, klp, Abs.one, elems, cells, scalar, eqC, Nat.reduceBEq, Nat.reduceAdd, Nat.reduceSub, Nat.reduceLT, Nat.reduceLeDiff, Nat.reduceMul, Nat.reduceEqDiff, cond_true, cond_false, if_true, if_false, reduceIte, implies_true, forall_const, ne_eq]
        refine AWPC.of_vc ?_; simp only [zS, zU, vcC, lateX, ex, strp, cnd, binA, kseq, kblk, kret, klp, Abs.one, elems, cells, scalar, eqC, Nat.reduceBEq, Nat.reduceAdd, Nat.reduceSub, Nat.reduceLT, Nat.reduceLeDiff, Nat.reduceMul, Nat.reduceEqDiff, cond_true, cond_false, if_true, if_false, reduceIte, implies_true, forall_const, ne_eq]
        refine ⟨fun hb => ?_, fun hb => ?_⟩
        · have hb' : (p.calib x y t).al.hi < (p.calib x y t).al.lo ∨ (p.calib x y t).cl.hi < (p.calib x y t).cl.lo := hb
          refine AWPC.of_vc ?_; simp only [zS, zU, vcC, lateX, ex, strp, cnd, binA, kseq, kblk, kret, klp, Abs.one, elems, cells, scalar, eqC, Nat.reduceBEq, Nat.reduceAdd, Nat.reduceSub, Nat.reduceLT, Nat.reduceLeDiff, Nat.reduceMul, Nat.reduceEqDiff, cond_true, cond_false, if_true, if_false, reduceIte, implies_true, forall_const, ne_eq]
          refine AWPC.of_vc ?_; simp only [zS, zU, vcC, lateX, ex, strp, cnd, binA, kseq, kblk, kret, klp, Abs.one, elems, cells, scalar, eqC, Nat.reduceBEq, Nat.reduceAdd, Nat.reduceSub, Nat.reduceLT, Nat.reduceLeDiff, Nat.reduceMul, Nat.reduceEqDiff, cond_true, cond_false, if_true, if_false, reduceIte, implies_true, forall_const, ne_eq]
          refine Frz.eq ?_ (by simp)
          rw [Pp.Calib, if_neg (by simp [he]), if_neg (by omega), if_pos hb']; rfl
        · have hb' : ¬ ((p.calib x y t).al.hi < (p.calib x y t).al.lo ∨ (p.calib x y t).cl.hi < (p.calib x y t).cl.lo) := hb
          refine AWPC.of_vc ?_; simp only [zS, zU, vcC, lateX, ex, strp, cnd, binA, kseq, kblk, kret, klp, Abs.one, elems, cells, scalar, eqC, Nat.reduceBEq, Nat.reduceAdd, Nat.reduceSub, Nat.reduceLT, Nat.reduceLeDiff, Nat.reduceMul, Nat.reduceEqDiff, cond_true, cond_false, if_true, if_false, reduceIte, implies_true, forall_const, ne_eq]
          refine AWPC.of_vc ?_; simp only [zS, zU, vcC, lateX, ex, strp, cnd, binA, kseq, kblk, kret, klp, Abs.one, elems, cells, scalar, eqC, Nat.reduceBEq, Nat.reduceAdd, Nat.reduceSub, Nat.reduceLT, Nat.reduceLeDiff, Nat.reduceMul, Nat.reduceEqDiff, cond_true, cond_false, if_true, if_false, reduceIte, implies_true, forall_const, ne_eq]
          refine AWPC.of_vc ?_; simp only [zS, zU, vcC, lateX, ex, strp, cnd, binA, kseq, kblk, kret, klp, Abs.one, elems, cells, scalar, eqC, Nat.reduceBEq, Nat.reduceAdd, Nat.reduceSub, Nat.reduceLT, Nat.reduceLeDiff, Nat.reduceMul, Nat.reduceEqDiff, cond_true, cond_false, if_true, if_false, reduceIte, implies_true, forall_const, ne_eq]
          refine Frz.eq ?_ (by simp)
          rw [Pp.Calib, if_neg (by simp [he]), if_neg (by omega), if_neg hb']; rfl

def Pp.row (p : Pp) (t : Pt) (y : Int) : List AV := [n y, .agg [n (((p.along t).lo - p.arc y) / p.pi), n (((p.along t).hi - p.arc y) / p.pi)]]
def Pp.cnt (p : Pp) (t : Pt) : Nat := ((p.heights t).hi - (p.heights t).lo + 1).toNat
def Pp.tr (p : Pp) (t : Pt) : List (List AV) := (List.range (p.cnt t)).map fun (k : Nat) => p.row t ((p.heights t).lo + k)

theorem tr_get (p : Pp) (t : Pt) {k : Nat} (h : k < p.cnt t) : (p.tr t)[k]? = some (p.row t ((p.heights t).lo + k)) := by
  simp [Pp.tr, h]

theorem arc_bd (p : Pp) (y : Int) (hg : p.good) (h0 : 0 ≤ y) (h1 : y ≤ p.he) : 0 ≤ p.arc y ∧ p.arc y ≤ 160000000000 := by
  obtain ⟨g1, g2, g3, g4, g5, g6, g7, g8, g9, g10, g11, g12, g13⟩ := hg
  have hm := mul_bd h0 (show y ≤ 400000 by omega) (show 0 ≤ p.he - y by omega) (show p.he - y ≤ 400000 by omega)
  unfold Pp.arc
  split
  · omega
  · exact tdiv_bd hm.1 hm.2 (show 1 ≤ 2 * p.ra by omega)

theorem line_iter (p : Pp) (t : Pt) (hg : p.good) (ht : t.right) : Iter Try.prog 121 [] [.iptr p.cs 0, .iptr t.cs 0] (p.tr t) := by
  refine ⟨Try.call121, fun C y J D σ hy hC hJ hyield => ?_⟩
  refine Does.of_body Try.call121 Try.func121 k121 (Nat.le_of_ble_eq_true rfl) ?_
  unfold c121
  have hg' := hg
  obtain ⟨g1, g2, g3, g4, g5, g6, g7, g8, g9, g10, g11, g12, g13⟩ := hg'
  have ht' := ht
  obtain ⟨t1, t2, t3, t4, t5, t6⟩ := ht'
  have hx := places_bd p.al t.x t.h g12 ⟨t1, t2⟩ ⟨t5, t6⟩
  have hy0 := places_bd p.cl t.y t.h g13 ⟨t3, t4⟩ ⟨t5, t6⟩
  have hyl : 0 ≤ (p.heights t).lo := hy0.1
  have hyh : (p.heights t).hi ≤ p.he := Int.min_le_right _ _
  refine AWPC.of_vc ?_; simp only [zS, zU, vcC, lateX, ex, strp, cnd, binA, kseq, kblk, kret, klp, Abs.one, elems, cells, scalar, eqC, Nat.reduceBEq, Nat.reduceAdd, Nat.reduceSub, Nat.reduceLT, Nat.reduceLeDiff, Nat.reduceMul, Nat.reduceEqDiff, cond_true, cond_false, if_true, if_false, reduceIte, implies_true, forall_const, ne_eq]
  (refine ⟨_, _, _, _, rfl, fun _hc => ⟨by simp, along_spec p t hg ht⟩, ?_⟩; refine pre_of_exd ?_; simp only [zS, zU, vcC, lateX, ex, strp, cnd, binA, kseq, kblk, kret, klp, Abs.one, elems, cells, scalar, eqC, Nat.reduceBEq, Nat.reduceAdd, Nat.reduceSub, Nat.reduceLT, Nat.reduceLeDiff, Nat.reduceMul, Nat.reduceEqDiff, cond_true, cond_false, if_true, if_false, reduceIte, implies_true, forall_const, ne_eq])
  (refine ⟨_, _, _, _, rfl, fun _hc => ⟨by simp, heights_spec p t hg ht⟩, ?_⟩; refine pre_of_exd ?_; simp only [zS, zU, vcC, lateX, ex, strp, cnd, binA, kseq, kblk, kret, klp, Abs.one, elems, cells, scalar, eqC, Nat.reduceBEq, Nat.reduceAdd, Nat.reduceSub, Nat.reduceLT, Nat.reduceLeDiff, Nat.reduceMul, Nat.reduceEqDiff, cond_true, cond_false, if_true, if_false, reduceIte, implies_true, forall_const, ne_eq])
  refine AWPC.of_vc ?_; simp only [zS, zU, vcC, lateX, ex, strp, cnd, binA, kseq, kblk, kret, klp, Abs.one, elems, cells, scalar, eqC, Nat.reduceBEq, Nat.reduceAdd, Nat.reduceSub, Nat.reduceLT, Nat.reduceLeDiff, Nat.reduceMul, Nat.reduceEqDiff, cond_true, cond_false, if_true, if_false, reduceIte, implies_true, forall_const, ne_eq]
  refine AWPC.of_vc ?_; simp only [zS, zU, vcC, lateX, ex, strp, cnd, binA, kseq, kblk, kret, klp, Abs.one, elems, cells, scalar, eqC, Nat.reduceBEq, Nat.reduceAdd, Nat.reduceSub, Nat.reduceLT, Nat.reduceLeDiff, Nat.reduceMul, Nat.reduceEqDiff, cond_true, cond_false, if_true, if_false, reduceIte, implies_true, forall_const, ne_eq]
  refine AWPC.loop (α := { x : Nat × Sto × Sto // x.1 ≤ p.cnt t ∧ x.2.1.length = C ∧ J x.1 x.2.1 })
    (fun x => ([(0, .yld y), (1, .iptr p.cs 0), (4, .ptr C 0 1 0 0), (5, .ptr (C + 1) 0 1 0 0), (6, n ((p.heights t).lo + x.1.1))],
      x.1.2.1 ++ (some [⟨23, 2, [(p.along t).cs], none⟩] :: some [⟨23, 2, [(p.heights t).cs], none⟩] :: x.1.2.2))) (fun x => p.cnt t - x.1.1) ⟨(0, σ, []), by simp, hC, hJ⟩ ?_ ?_ ?_
  · simp only [zS, zU, vcC, lateX, ex, strp, cnd, binA, kseq, kblk, kret, klp, Abs.one, elems, cells, scalar, eqC, Nat.reduceBEq, Nat.reduceAdd, Nat.reduceSub, Nat.reduceLT, Nat.reduceLeDiff, Nat.reduceMul, Nat.reduceEqDiff, cond_true, cond_false, if_true, if_false, reduceIte, implies_true, forall_const, ne_eq]; try simp [hC]
  · rfl
  · rintro ⟨⟨k, τ, ν⟩, hk, hτ, hJk⟩
    simp only at hk hτ hJk
    subst hτ
    refine AWPC.of_vc ?_; simp only [zS, zU, vcC, lateX, ex, strp, cnd, binA, kseq, kblk, kret, klp, Abs.one, elems, cells, scalar, eqC, Nat.reduceBEq, Nat.reduceAdd, Nat.reduceSub, Nat.reduceLT, Nat.reduceLeDiff, Nat.reduceMul, Nat.reduceEqDiff, cond_true, cond_false, if_true, if_false, reduceIte, implies_true, forall_const, ne_eq]
    refine AWPC.of_vc ?_; simp only [zS, zU, vcC, lateX, ex, strp, cnd, binA, kseq, kblk, kret, klp, Abs.one, elems, cells, scalar, eqC, Nat.reduceBEq, Nat.reduceAdd, Nat.reduceSub, Nat.reduceLT, Nat.reduceLeDiff, Nat.reduceMul, Nat.reduceEqDiff, cond_true, cond_false, if_true, if_false, reduceIte, implies_true, forall_const, ne_eq]
    refine ⟨fun hle => ?_, fun hgt => ?_⟩
    · have hk2 : k < p.cnt t := by unfold Pp.cnt; omega
      have ha := arc_bd p ((p.heights t).lo + k) hg (by omega) (by omega)
      have hx' : 0 ≤ (p.along t).lo ∧ (p.along t).lo ≤ 405000000 ∧ 0 ≤ (p.along t).hi ∧ (p.along t).hi ≤ 405000000 := hx
      refine AWPC.of_vc ?_; simp only [zS, zU, vcC, lateX, ex, strp, cnd, binA, kseq, kblk, kret, klp, Abs.one, elems, cells, scalar, eqC, Nat.reduceBEq, Nat.reduceAdd, Nat.reduceSub, Nat.reduceLT, Nat.reduceLeDiff, Nat.reduceMul, Nat.reduceEqDiff, cond_true, cond_false, if_true, if_false, reduceIte, implies_true, forall_const, ne_eq]
      refine AWPC.of_vc ?_; simp only [zS, zU, vcC, lateX, ex, strp, cnd, binA, kseq, kblk, kret, klp, Abs.one, elems, cells, scalar, eqC, Nat.reduceBEq, Nat.reduceAdd, Nat.reduceSub, Nat.reduceLT, Nat.reduceLeDiff, Nat.reduceMul, Nat.reduceEqDiff, cond_true, cond_false, if_true, if_false, reduceIte, implies_true, forall_const, ne_eq]
      ((repeat (refine And.intro (by (intros; first | omega | (simp_all (config := { decide := false }); done) | fail)) ?_)); refine .inl ⟨_, _, _, _, rfl, fun _hc => ⟨by simp, arc_spec p ((p.heights t).lo + k) hg (by omega) (by omega)⟩, ?_⟩; refine owp_of_exs ?_; simp only [zS, zU, vcC, lateX, ex, strp, cnd, binA, kseq, kblk, kret, klp, Abs.one, elems, cells, scalar, eqC, Nat.reduceBEq, Nat.reduceAdd, Nat.reduceSub, Nat.reduceLT, Nat.reduceLeDiff, Nat.reduceMul, Nat.reduceEqDiff, cond_true, cond_false, if_true, if_false, reduceIte, implies_true, forall_const, ne_eq])
      refine AWPC.of_vc ?_; simp only [zS, zU, vcC, lateX, ex, strp, cnd, binA, kseq, kblk, kret, klp, Abs.one, elems, cells, scalar, eqC, Nat.reduceBEq, Nat.reduceAdd, Nat.reduceSub, Nat.reduceLT, Nat.reduceLeDiff, Nat.reduceMul, Nat.reduceEqDiff, cond_true, cond_false, if_true, if_false, reduceIte, implies_true, forall_const, ne_eq]
      rw [wr64 _ (by omega) (by omega)]
      (refine ⟨_, _, _, _, rfl, fun _hc => ⟨by simp, floor_spec _ _ (by omega) (by omega) (by omega)⟩, ?_⟩; refine pre_of_exd ?_; simp only [zS, zU, vcC, lateX, ex, strp, cnd, binA, kseq, kblk, kret, klp, Abs.one, elems, cells, scalar, eqC, Nat.reduceBEq, Nat.reduceAdd, Nat.reduceSub, Nat.reduceLT, Nat.reduceLeDiff, Nat.reduceMul, Nat.reduceEqDiff, cond_true, cond_false, if_true, if_false, reduceIte, implies_true, forall_const, ne_eq])
      rw [wr64 _ (by omega) (by omega)]
      (refine ⟨_, _, _, _, rfl, fun _hc => ⟨by simp, floor_spec _ _ (by omega) (by omega) (by omega)⟩, ?_⟩; refine pre_of_exd ?_; simp only [zS, zU, vcC, lateX, ex, strp, cnd, binA, kseq, kblk, kret, klp, Abs.one, elems, cells, scalar, eqC, Nat.reduceBEq, Nat.reduceAdd, Nat.reduceSub, Nat.reduceLT, Nat.reduceLeDiff, Nat.reduceMul, Nat.reduceEqDiff, cond_true, cond_false, if_true, if_false, reduceIte, implies_true, forall_const, ne_eq])
      refine .inr (.inr ⟨y, _, rfl, fun _ => ⟨hyield k _ τ _ (tr_get p t hk2) rfl hJk, ?_⟩, fun h => by cases h⟩)
      rintro b σ' ⟨τ', ν', rfl, hτ', hb1, hb2⟩
      refine owp_of_exs ?_
      simp only [zS, zU, vcC, lateX, ex, strp, cnd, binA, kseq, kblk, kret, klp, Abs.one, elems, cells, scalar, eqC, Nat.reduceBEq, Nat.reduceAdd, Nat.reduceSub, Nat.reduceLT, Nat.reduceLeDiff, Nat.reduceMul, Nat.reduceEqDiff, cond_true, cond_false, if_true, if_false, reduceIte, implies_true, forall_const, ne_eq]
      refine AWPC.of_vc ?_; simp only [zS, zU, vcC, lateX, ex, strp, cnd, binA, kseq, kblk, kret, klp, Abs.one, elems, cells, scalar, eqC, Nat.reduceBEq, Nat.reduceAdd, Nat.reduceSub, Nat.reduceLT, Nat.reduceLeDiff, Nat.reduceMul, Nat.reduceEqDiff, cond_true, cond_false, if_true, if_false, reduceIte, implies_true, forall_const, ne_eq]
      cases b with
      | false =>
        refine ⟨fun _ => ?_, fun h => by simp at h⟩
        refine AWPC.of_vc ?_; simp only [zS, zU, vcC, lateX, ex, strp, cnd, binA, kseq, kblk, kret, klp, Abs.one, elems, cells, scalar, eqC, Nat.reduceBEq, Nat.reduceAdd, Nat.reduceSub, Nat.reduceLT, Nat.reduceLeDiff, Nat.reduceMul, Nat.reduceEqDiff, cond_true, cond_false, if_true, if_false, reduceIte, implies_true, forall_const, ne_eq]
        exact ⟨τ', _, rfl, hτ', .inr (hb2 rfl)⟩
      | true =>
        refine ⟨fun h => by simp at h, fun _ => ?_⟩
        refine AWPC.of_vc ?_; simp only [zS, zU, vcC, lateX, ex, strp, cnd, binA, kseq, kblk, kret, klp, Abs.one, elems, cells, scalar, eqC, Nat.reduceBEq, Nat.reduceAdd, Nat.reduceSub, Nat.reduceLT, Nat.reduceLeDiff, Nat.reduceMul, Nat.reduceEqDiff, cond_true, cond_false, if_true, if_false, reduceIte, implies_true, forall_const, ne_eq]
        refine AWPC.of_vc ?_; simp only [zS, zU, vcC, lateX, ex, strp, cnd, binA, kseq, kblk, kret, klp, Abs.one, elems, cells, scalar, eqC, Nat.reduceBEq, Nat.reduceAdd, Nat.reduceSub, Nat.reduceLT, Nat.reduceLeDiff, Nat.reduceMul, Nat.reduceEqDiff, cond_true, cond_false, if_true, if_false, reduceIte, implies_true, forall_const, ne_eq]
        rw [wr64 _ (by omega) (by omega)]
        exact ⟨⟨(k + 1, τ', ν ++ ν'), hk2, hτ', hb1 rfl⟩, by simp; omega, by simp, by simp only; omega⟩
    · refine AWPC.of_vc ?_; simp only [zS, zU, vcC, lateX, ex, strp, cnd, binA, kseq, kblk, kret, klp, Abs.one, elems, cells, scalar, eqC, Nat.reduceBEq, Nat.reduceAdd, Nat.reduceSub, Nat.reduceLT, Nat.reduceLeDiff, Nat.reduceMul, Nat.reduceEqDiff, cond_true, cond_false, if_true, if_false, reduceIte, implies_true, forall_const, ne_eq]
      have : k = (p.tr t).length := by simp only [Pp.tr, List.length_map, List.length_range]; unfold Pp.cnt at hk ⊢; omega
      subst this
      exact ⟨τ, _, rfl, rfl, .inl hJk⟩

/-- A set of spans, and a level more. -/
abbrev spS (l : List Sp) : AV := .sl 2 (l.map Sp.cs)

theorem take_next {α : Type} {a b : List α} {i : Nat} {x y : α} (hx : a[i]? = some x) (hy : b[i]? = some y) : a.take (i + 1) = b.take (i + 1) ↔ a.take i = b.take i ∧ x = y := by
  rw [List.take_add_one, List.take_add_one, hx, hy]
  have hla : (a.take i).length = i := by have := (List.getElem?_eq_some_iff.1 hx).1; simp; omega
  have hlb : (b.take i).length = i := by have := (List.getElem?_eq_some_iff.1 hy).1; simp; omega
  constructor
  · intro h
    have := List.append_inj h (by omega)
    exact ⟨this.1, by simpa using this.2⟩
  · rintro ⟨h1, h2⟩; rw [h1, h2]

theorem sameSpans_spec (a b : List Sp) (ha : a.length < 1000000000) (hb : b.length < 1000000000) : Pure Try.prog 33 [spS a, spS b] (bl (decide (a = b))) := by
  refine Pure.of_body Try.call33 Try.func33 k33 (Nat.le_of_ble_eq_true rfl) ?_
  unfold c33
  refine AWPC.of_vc ?_; simp only [zS, zU, vcC, lateX, ex, strp, cnd, binA, kseq, kblk, kret, klp, Abs.one, elems, cells, scalar, eqC, Nat.reduceBEq, Nat.reduceAdd, Nat.reduceSub, Nat.reduceLT, Nat.reduceLeDiff, Nat.reduceMul, Nat.reduceEqDiff, cond_true, cond_false, if_true, if_false, reduceIte, implies_true, forall_const, ne_eq]
  refine AWPC.of_vc ?_; simp only [zS, zU, vcC, lateX, ex, strp, cnd, binA, kseq, kblk, kret, klp, Abs.one, elems, cells, scalar, eqC, Nat.reduceBEq, Nat.reduceAdd, Nat.reduceSub, Nat.reduceLT, Nat.reduceLeDiff, Nat.reduceMul, Nat.reduceEqDiff, cond_true, cond_false, if_true, if_false, reduceIte, implies_true, forall_const, ne_eq]
  refine AWPC.of_vc ?_; simp only [zS, zU, vcC, lateX, ex, strp, cnd, binA, kseq, kblk, kret, klp, Abs.one, elems, cells, scalar, eqC, Nat.reduceBEq, Nat.reduceAdd, Nat.reduceSub, Nat.reduceLT, Nat.reduceLeDiff, Nat.reduceMul, Nat.reduceEqDiff, cond_true, cond_false, if_true, if_false, reduceIte, implies_true, forall_const, ne_eq]
  refine ⟨fun hne => ?_, fun heq => ?_⟩
  · refine AWPC.of_vc ?_; simp only [zS, zU, vcC, lateX, ex, strp, cnd, binA, kseq, kblk, kret, klp, Abs.one, elems, cells, scalar, eqC, Nat.reduceBEq, Nat.reduceAdd, Nat.reduceSub, Nat.reduceLT, Nat.reduceLeDiff, Nat.reduceMul, Nat.reduceEqDiff, cond_true, cond_false, if_true, if_false, reduceIte, implies_true, forall_const, ne_eq]
    refine AWPC.of_vc ?_; simp only [zS, zU, vcC, lateX, ex, strp, cnd, binA, kseq, kblk, kret, klp, Abs.one, elems, cells, scalar, eqC, Nat.reduceBEq, Nat.reduceAdd, Nat.reduceSub, Nat.reduceLT, Nat.reduceLeDiff, Nat.reduceMul, Nat.reduceEqDiff, cond_true, cond_false, if_true, if_false, reduceIte, implies_true, forall_const, ne_eq]
    refine Frz.eq ?_ (by simp)
    rw [decide_eq_false]
    rintro rfl
    exact hne rfl
  · have hl : a.length = b.length := by simp at heq; omega
    refine AWPC.of_vc ?_; simp only [zS, zU, vcC, lateX, ex, strp, cnd, binA, kseq, kblk, kret, klp, Abs.one, elems, cells, scalar, eqC, Nat.reduceBEq, Nat.reduceAdd, Nat.reduceSub, Nat.reduceLT, Nat.reduceLeDiff, Nat.reduceMul, Nat.reduceEqDiff, cond_true, cond_false, if_true, if_false, reduceIte, implies_true, forall_const, ne_eq]
    refine AWPC.of_vc ?_; simp only [zS, zU, vcC, lateX, ex, strp, cnd, binA, kseq, kblk, kret, klp, Abs.one, elems, cells, scalar, eqC, Nat.reduceBEq, Nat.reduceAdd, Nat.reduceSub, Nat.reduceLT, Nat.reduceLeDiff, Nat.reduceMul, Nat.reduceEqDiff, cond_true, cond_false, if_true, if_false, reduceIte, implies_true, forall_const, ne_eq]
    refine AWPC.of_vc ?_; simp only [zS, zU, vcC, lateX, ex, strp, cnd, binA, kseq, kblk, kret, klp, Abs.one, elems, cells, scalar, eqC, Nat.reduceBEq, Nat.reduceAdd, Nat.reduceSub, Nat.reduceLT, Nat.reduceLeDiff, Nat.reduceMul, Nat.reduceEqDiff, cond_true, cond_false, if_true, if_false, reduceIte, implies_true, forall_const, ne_eq]
    refine AWPC.loop (α := { x : Nat // x ≤ a.length ∧ a.take x = b.take x }) (fun x => ([(0, .sl 2 (a.map Sp.cs)), (1, .sl 2 (b.map Sp.cs)), (5, n x.1)], [])) (fun x => a.length - x.1) ⟨0, by simp, by simp⟩ ?_ rfl ?_
    · simp only [zS, zU, vcC, lateX, ex, strp, cnd, binA, kseq, kblk, kret, klp, Abs.one, elems, cells, scalar, eqC, Nat.reduceBEq, Nat.reduceAdd, Nat.reduceSub, Nat.reduceLT, Nat.reduceLeDiff, Nat.reduceMul, Nat.reduceEqDiff, cond_true, cond_false, if_true, if_false, reduceIte, implies_true, forall_const, ne_eq]; try simp
    · rintro ⟨i, hi, ht⟩
      refine AWPC.of_vc ?_; simp only [zS, zU, vcC, lateX, ex, strp, cnd, binA, kseq, kblk, kret, klp, Abs.one, elems, cells, scalar, eqC, Nat.reduceBEq, Nat.reduceAdd, Nat.reduceSub, Nat.reduceLT, Nat.reduceLeDiff, Nat.reduceMul, Nat.reduceEqDiff, cond_true, cond_false, if_true, if_false, reduceIte, implies_true, forall_const, ne_eq]
      refine AWPC.of_vc ?_; simp only [zS, zU, vcC, lateX, ex, strp, cnd, binA, kseq, kblk, kret, klp, Abs.one, elems, cells, scalar, eqC, Nat.reduceBEq, Nat.reduceAdd, Nat.reduceSub, Nat.reduceLT, Nat.reduceLeDiff, Nat.reduceMul, Nat.reduceEqDiff, cond_true, cond_false, if_true, if_false, reduceIte, implies_true, forall_const, ne_eq]
      refine ⟨fun hlt => ?_, fun hge => ?_⟩
      · have hlt' : i < a.length := by simp at hlt; omega
        obtain ⟨x, hx⟩ : ∃ x, a[i]? = some x := ⟨_, List.getElem?_eq_getElem hlt'⟩
        obtain ⟨y, hy⟩ : ∃ y, b[i]? = some y := ⟨_, List.getElem?_eq_getElem (by omega)⟩
        have htn := take_next hx hy
        refine AWPC.of_vc ?_; simp only [zS, zU, vcC, lateX, ex, strp, cnd, binA, kseq, kblk, kret, klp, Abs.one, elems, cells, scalar, eqC, Nat.reduceBEq, Nat.reduceAdd, Nat.reduceSub, Nat.reduceLT, Nat.reduceLeDiff, Nat.reduceMul, Nat.reduceEqDiff, cond_true, cond_false, if_true, if_false, reduceIte, implies_true, forall_const, ne_eq]
        (refine AWPC.of_vc ?_; simp only [zS, zU, vcC, lateX, ex, strp, cnd, binA, kseq, kblk, kret, klp, Abs.one, elems, cells, scalar, eqC, Nat.reduceBEq, Nat.reduceAdd, Nat.reduceSub, Nat.reduceLT, Nat.reduceLeDiff, Nat.reduceMul, Nat.reduceEqDiff, cond_true, cond_false, if_true, if_false, reduceIte, implies_true, forall_const, ne_eq, getD_map hx, getD_map hy])
        refine ⟨⟨by omega, by simp; omega⟩, ⟨by omega, by simp; omega⟩, ?_⟩
        refine AWPC.of_vc ?_; simp only [zS, zU, vcC, lateX, ex, strp, cnd, binA, kseq, kblk, kret, klp, Abs.one, elems, cells, scalar, eqC, Nat.reduceBEq, Nat.reduceAdd, Nat.reduceSub, Nat.reduceLT, Nat.reduceLeDiff, Nat.reduceMul, Nat.reduceEqDiff, cond_true, cond_false, if_true, if_false, reduceIte, implies_true, forall_const, ne_eq]
        refine ⟨fun hne => ?_, fun heq => ?_⟩
        · refine AWPC.of_vc ?_; simp only [zS, zU, vcC, lateX, ex, strp, cnd, binA, kseq, kblk, kret, klp, Abs.one, elems, cells, scalar, eqC, Nat.reduceBEq, Nat.reduceAdd, Nat.reduceSub, Nat.reduceLT, Nat.reduceLeDiff, Nat.reduceMul, Nat.reduceEqDiff, cond_true, cond_false, if_true, if_false, reduceIte, implies_true, forall_const, ne_eq]
          refine AWPC.of_vc ?_; simp only [zS, zU, vcC, lateX, ex, strp, cnd, binA, kseq, kblk, kret, klp, Abs.one, elems, cells, scalar, eqC, Nat.reduceBEq, Nat.reduceAdd, Nat.reduceSub, Nat.reduceLT, Nat.reduceLeDiff, Nat.reduceMul, Nat.reduceEqDiff, cond_true, cond_false, if_true, if_false, reduceIte, implies_true, forall_const, ne_eq]
          refine Frz.eq ?_ (by simp)
          rw [decide_eq_false]
          rintro rfl
          rw [hx] at hy; injection hy with hy; subst hy
          simp at hne
        · refine AWPC.of_vc ?_; simp only [zS, zU, vcC, lateX, ex, strp, cnd, binA, kseq, kblk, kret, klp, Abs.one, elems, cells, scalar, eqC, Nat.reduceBEq, Nat.reduceAdd, Nat.reduceSub, Nat.reduceLT, Nat.reduceLeDiff, Nat.reduceMul, Nat.reduceEqDiff, cond_true, cond_false, if_true, if_false, reduceIte, implies_true, forall_const, ne_eq]
          refine AWPC.of_vc ?_; simp only [zS, zU, vcC, lateX, ex, strp, cnd, binA, kseq, kblk, kret, klp, Abs.one, elems, cells, scalar, eqC, Nat.reduceBEq, Nat.reduceAdd, Nat.reduceSub, Nat.reduceLT, Nat.reduceLeDiff, Nat.reduceMul, Nat.reduceEqDiff, cond_true, cond_false, if_true, if_false, reduceIte, implies_true, forall_const, ne_eq]
          rw [wr64 _ (by omega) (by omega)]
          have hxy : x = y := by
            obtain ⟨x1, x2⟩ := x; obtain ⟨y1, y2⟩ := y
            simp at heq; simp [heq.1, heq.2]
          exact ⟨⟨i + 1, hlt', htn.2 ⟨ht, hxy⟩⟩, by simp, by simp only; omega⟩
      · refine AWPC.of_vc ?_; simp only [zS, zU, vcC, lateX, ex, strp, cnd, binA, kseq, kblk, kret, klp, Abs.one, elems, cells, scalar, eqC, Nat.reduceBEq, Nat.reduceAdd, Nat.reduceSub, Nat.reduceLT, Nat.reduceLeDiff, Nat.reduceMul, Nat.reduceEqDiff, cond_true, cond_false, if_true, if_false, reduceIte, implies_true, forall_const, ne_eq]
        refine AWPC.of_vc ?_; simp only [zS, zU, vcC, lateX, ex, strp, cnd, binA, kseq, kblk, kret, klp, Abs.one, elems, cells, scalar, eqC, Nat.reduceBEq, Nat.reduceAdd, Nat.reduceSub, Nat.reduceLT, Nat.reduceLeDiff, Nat.reduceMul, Nat.reduceEqDiff, cond_true, cond_false, if_true, if_false, reduceIte, implies_true, forall_const, ne_eq]
        refine AWPC.of_vc ?_; simp only [zS, zU, vcC, lateX, ex, strp, cnd, binA, kseq, kblk, kret, klp, Abs.one, elems, cells, scalar, eqC, Nat.reduceBEq, Nat.reduceAdd, Nat.reduceSub, Nat.reduceLT, Nat.reduceLeDiff, Nat.reduceMul, Nat.reduceEqDiff, cond_true, cond_false, if_true, if_false, reduceIte, implies_true, forall_const, ne_eq]
        refine Frz.eq ?_ (by simp)
        have : i = a.length := by simp at hge; omega
        subst this
        rw [List.take_length, hl, List.take_length] at ht
        simp [ht]
end Go.Proofs.Ytgpdckmbojmlpaa

namespace Go.Proofs.Ytgpdckmbojmlpaa
open Go.Abs
set_option linter.unusedVariables false
set_option linter.unusedSimpArgs false
set_option maxHeartbeats 4000000
set_option maxRecDepth 100000
-- (*aneroid/paper.set).rise
def c74 : CF := ⟨57,
 (.seq (.ops [
 ⟨(some 5), .mv (.t 0), none⟩,
 ⟨(some 6), .nilc (.t 5), none⟩,
 ⟨(some 7), .faddr 0 (.t 6), none⟩,
 ⟨(some 8), .load none (.t 7), none⟩,
 ⟨(some 9), .len (.t 8), none⟩,
 ⟨(some 4), .mv (.t 9), none⟩] [0, 1, 4])
 (.seq (.seq (.ops [
 ⟨(some 10), .mv (.t 4), none⟩,
 ⟨(some 11), .bin .gtr (.t 10) (.c (.int .i64 0)), none⟩,
 ⟨(some 12), .mv (.t 11), none⟩,
 ⟨(some 13), .mv (.t 1), (some (12, true))⟩,
 ⟨(some 14), .mv (.t 0), (some (12, true))⟩,
 ⟨(some 15), .nilc (.t 14), (some (12, true))⟩,
 ⟨(some 16), .faddr 0 (.t 15), (some (12, true))⟩,
 ⟨(some 17), .load none (.t 16), (some (12, true))⟩,
 ⟨(some 18), .mv (.t 4), (some (12, true))⟩,
 ⟨(some 19), .bin .sub (.t 18) (.c (.int .i64 1)), (some (12, true))⟩,
 ⟨(some 20), .iaddr 2 (.t 17) (.t 19), (some (12, true))⟩,
 ⟨(some 21), .faddr 1 (.t 20), (some (12, true))⟩,
 ⟨(some 22), .load none (.t 21), (some (12, true))⟩,
 ⟨(some 23), .bin .add (.t 22) (.c (.int .i64 1)), (some (12, true))⟩,
 ⟨(some 24), .bin .leq (.t 13) (.t 23), (some (12, true))⟩,
 ⟨(some 25), .pick (.t 12) (.t 24) (.c (.bool false)), none⟩] [0, 1, 4, 25])
 (.cond (.t 25) (.seq (.draw [
 ⟨(some 26), .mv (.t 0), none⟩,
 ⟨(some 27), .nilc (.t 26), none⟩,
 ⟨(some 28), .faddr 0 (.t 27), none⟩,
 ⟨(some 29), .load none (.t 28), none⟩,
 ⟨(some 30), .mv (.t 4), none⟩,
 ⟨(some 31), .bin .sub (.t 30) (.c (.int .i64 1)), none⟩,
 ⟨(some 32), .mv (.t 0), none⟩,
 ⟨(some 33), .nilc (.t 32), none⟩,
 ⟨(some 34), .faddr 0 (.t 33), none⟩,
 ⟨(some 35), .load none (.t 34), none⟩,
 ⟨(some 36), .mv (.t 4), none⟩,
 ⟨(some 37), .bin .sub (.t 36) (.c (.int .i64 1)), none⟩,
 ⟨(some 38), .iaddr 2 (.t 35) (.t 37), none⟩,
 ⟨(some 39), .faddr 1 (.t 38), none⟩,
 ⟨(some 40), .load none (.t 39), none⟩,
 ⟨(some 41), .mv (.t 1), none⟩,
 ⟨(some 42), .mnx true (.t 40) (.t 41), none⟩,
 ⟨(some 43), .iaddr 2 (.t 29) (.t 31), none⟩,
 ⟨(some 44), .faddr 1 (.t 43), none⟩] [
 ⟨none, .store 1 (.t 44) (.t 42), none⟩] [])
 .ret)
 .skip))
 (.ops [
 ⟨(some 45), .mv (.t 0), none⟩,
 ⟨(some 46), .mv (.t 0), none⟩,
 ⟨(some 47), .nilc (.t 46), none⟩,
 ⟨(some 48), .faddr 0 (.t 47), none⟩,
 ⟨(some 49), .load none (.t 48), none⟩,
 ⟨(some 50), .mv (.t 1), none⟩,
 ⟨(some 51), .mv (.t 1), none⟩,
 ⟨(some 52), .build [.int .i64 0, .int .i64 0] [(0, 1, (.t 50)), (1, 1, (.t 51))], none⟩,
 ⟨(some 53), .bsl false 23 2 1 [.int .i64 0, .int .i64 0] [(0, 2, (.t 52))], none⟩,
 ⟨(some 54), .app 23 2 16 (.t 49) (.t 53), none⟩,
 ⟨(some 55), .nilc (.t 45), none⟩,
 ⟨(some 56), .faddr 0 (.t 55), none⟩,
 ⟨none, .store 1 (.t 56) (.t 54), none⟩] []))),
 []⟩

theorem k74 : chkF Try.prog Try.f74 c74 = true := by kernel_rfl

/-- A set of levels, and a level that rises. -/
def rise (l : List Sp) (v : Int) : List Sp :=
  match l.getLast? with
  | some s => if v ≤ s.hi + 1 then l.dropLast ++ [⟨s.lo, max s.hi v⟩] else l ++ [⟨v, v⟩]
  | none => [⟨v, v⟩]

abbrev setO (g m : Nat) : Ob := ⟨90, 1, [[.own g 0 m]], none⟩
abbrev spO (l : List Sp) : Ob := ⟨23, 2, l.map Sp.cs, none⟩

def risen (σ : Sto) (f g : Nat) (l : List Sp) : Sto := (σ.upd g 0 (spO l)).upd f 0 (setO g l.length)

theorem rise_last (init : List Sp) (s : Sp) (v : Int) : rise (init ++ [s]) v = if v ≤ s.hi + 1 then init ++ [⟨s.lo, max s.hi v⟩] else init ++ [s, ⟨v, v⟩] := by
  simp [rise]

theorem rise_spec (σ : Sto) (f g : Nat) (l : List Sp) (v : Int) (hf : σ.at f 0 = some (setO g l.length)) (hg : σ.at g 0 = some (spO l)) (hl : l.length < 1000000000)
    (hv : -1000000 ≤ v ∧ v ≤ 1000000) (hh : ∀ s ∈ l, -1000000 ≤ s.hi ∧ s.hi ≤ 1000000) : Does Try.prog 74 [.ptr f 0 1 0 0, n v] σ (fun _ σ' => σ' = risen σ f g (rise l v)) := by
  have hne : g ≠ f := by rintro rfl; rw [hf] at hg; injection hg with hg; cases hg
  have ho : ∀ o, (σ.upd g 0 o).at f 0 = some (setO g l.length) := fun o => by rw [at_upd_other (.inl hne)]; exact hf
  refine Does.of_body Try.call74 Try.func74 k74 (Nat.le_of_ble_eq_true rfl) ?_
  unfold c74
  rcases List.eq_nil_or_concat l with rfl | ⟨init, s, rfl⟩
  · (refine AWPC.of_vc ?_; simp only [zS, zU, vcC, lateX, ex, strp, cnd, binA, kseq, kblk, kret, klp, Abs.one, elems, cells, scalar, eqC, Nat.reduceBEq, Nat.reduceAdd, Nat.reduceSub, Nat.reduceLT, Nat.reduceLeDiff, Nat.reduceMul, Nat.reduceEqDiff, cond_true, cond_false, if_true, if_false, reduceIte, implies_true, forall_const, ne_eq, hf, hg, ho])
    (refine AWPC.of_vc ?_; simp only [zS, zU, vcC, lateX, ex, strp, cnd, binA, kseq, kblk, kret, klp, Abs.one, elems, cells, scalar, eqC, Nat.reduceBEq, Nat.reduceAdd, Nat.reduceSub, Nat.reduceLT, Nat.reduceLeDiff, Nat.reduceMul, Nat.reduceEqDiff, cond_true, cond_false, if_true, if_false, reduceIte, implies_true, forall_const, ne_eq, hf, hg, ho])
    (refine AWPC.of_vc ?_; simp only [zS, zU, vcC, lateX, ex, strp, cnd, binA, kseq, kblk, kret, klp, Abs.one, elems, cells, scalar, eqC, Nat.reduceBEq, Nat.reduceAdd, Nat.reduceSub, Nat.reduceLT, Nat.reduceLeDiff, Nat.reduceMul, Nat.reduceEqDiff, cond_true, cond_false, if_true, if_false, reduceIte, implies_true, forall_const, ne_eq, hf, hg, ho])
    (refine AWPC.of_vc ?_; simp only [zS, zU, vcC, lateX, ex, strp, cnd, binA, kseq, kblk, kret, klp, Abs.one, elems, cells, scalar, eqC, Nat.reduceBEq, Nat.reduceAdd, Nat.reduceSub, Nat.reduceLT, Nat.reduceLeDiff, Nat.reduceMul, Nat.reduceEqDiff, cond_true, cond_false, if_true, if_false, reduceIte, implies_true, forall_const, ne_eq, hf, hg, ho])
    (refine AWPC.of_vc ?_; simp only [zS, zU, vcC, lateX, ex, strp, cnd, binA, kseq, kblk, kret, klp, Abs.one, elems, cells, scalar, eqC, Nat.reduceBEq, Nat.reduceAdd, Nat.reduceSub, Nat.reduceLT, Nat.reduceLeDiff, Nat.reduceMul, Nat.reduceEqDiff, cond_true, cond_false, if_true, if_false, reduceIte, implies_true, forall_const, ne_eq, hf, hg, ho])
    refine ⟨fun e he => ?_, rfl⟩
    obtain rfl : e = 0 := by omega
    rfl
  · rw [List.concat_eq_append] at *
    have hl' : init.length + 1 < 1000000000 := by simpa using hl
    have hs := hh s (by simp)
    have hlen : (init ++ [s]).length = init.length + 1 := by simp
    have hmap : (init ++ [s]).map Sp.cs = init.map Sp.cs ++ [s.cs] := by simp
    have hw : IntKind.i64.wrap (((init.length + 1 : Nat) : Int) - 1) = (init.length : Int) := by rw [wr64 _ (by omega) (by omega)]; omega
    have hget : (init.map Sp.cs ++ [s.cs]).getD init.length [] = s.cs := by simp [List.getD_eq_getElem?_getD]
    rw [hlen] at hf ho
    unfold spO at hg
    rw [hmap] at hg
    (refine AWPC.of_vc ?_; simp only [zS, zU, vcC, lateX, ex, strp, cnd, binA, kseq, kblk, kret, klp, Abs.one, elems, cells, scalar, eqC, Nat.reduceBEq, Nat.reduceAdd, Nat.reduceSub, Nat.reduceLT, Nat.reduceLeDiff, Nat.reduceMul, Nat.reduceEqDiff, cond_true, cond_false, if_true, if_false, reduceIte, implies_true, forall_const, ne_eq, hf, hg, hlen, hmap])
    refine ⟨by simp, ?_⟩
    (refine AWPC.of_vc ?_; simp only [zS, zU, vcC, lateX, ex, strp, cnd, binA, kseq, kblk, kret, klp, Abs.one, elems, cells, scalar, eqC, Nat.reduceBEq, Nat.reduceAdd, Nat.reduceSub, Nat.reduceLT, Nat.reduceLeDiff, Nat.reduceMul, Nat.reduceEqDiff, cond_true, cond_false, if_true, if_false, reduceIte, implies_true, forall_const, ne_eq, hf, hg, hlen, hmap, hw, hget])
    refine ⟨fun _ => ⟨by simp, by omega, by omega⟩, fun _ => by simp, fun _ => ⟨by simp, by omega⟩, ?_⟩
    rw [wr64 (s.hi + 1) (by omega) (by omega)]
    have hset : ∀ X : List AV, (init.map Sp.cs ++ [s.cs]).set init.length X = init.map Sp.cs ++ [X] := fun X => by
      rw [List.set_append_right _ _ (by simp)]; simp
    refine AWPC.of_vc ?_; simp only [zS, zU, vcC, lateX, ex, strp, cnd, binA, kseq, kblk, kret, klp, Abs.one, elems, cells, scalar, eqC, Nat.reduceBEq, Nat.reduceAdd, Nat.reduceSub, Nat.reduceLT, Nat.reduceLeDiff, Nat.reduceMul, Nat.reduceEqDiff, cond_true, cond_false, if_true, if_false, reduceIte, implies_true, forall_const, ne_eq]
    refine ⟨fun hle => ?_, fun hgt => ?_⟩
    · (refine AWPC.of_vc ?_; simp only [zS, zU, vcC, lateX, ex, strp, cnd, binA, kseq, kblk, kret, klp, Abs.one, elems, cells, scalar, eqC, Nat.reduceBEq, Nat.reduceAdd, Nat.reduceSub, Nat.reduceLT, Nat.reduceLeDiff, Nat.reduceMul, Nat.reduceEqDiff, cond_true, cond_false, if_true, if_false, reduceIte, implies_true, forall_const, ne_eq, hf, hg, hlen, hmap, hw, hget, hset, ho])
      refine ⟨⟨by simp, by omega, by omega⟩, by simp, ⟨by simp, by omega⟩, ⟨by simp, by omega, by omega⟩, by simp, ⟨by simp, by omega⟩, ?_⟩
      refine AWPC.of_vc ?_; simp only [zS, zU, vcC, lateX, ex, strp, cnd, binA, kseq, kblk, kret, klp, Abs.one, elems, cells, scalar, eqC, Nat.reduceBEq, Nat.reduceAdd, Nat.reduceSub, Nat.reduceLT, Nat.reduceLeDiff, Nat.reduceMul, Nat.reduceEqDiff, cond_true, cond_false, if_true, if_false, reduceIte, implies_true, forall_const, ne_eq]
      rw [rise_last, if_pos hle.2, risen]
      have e1 : spO (init ++ [⟨s.lo, max s.hi v⟩]) = ⟨23, 2, init.map Sp.cs ++ [[n s.lo, n (max s.hi v)]], none⟩ := by simp [spO]
      rw [e1]
      exact (upd_self (by rw [ho]; simp)).symm
    · (refine AWPC.of_vc ?_; simp only [zS, zU, vcC, lateX, ex, strp, cnd, binA, kseq, kblk, kret, klp, Abs.one, elems, cells, scalar, eqC, Nat.reduceBEq, Nat.reduceAdd, Nat.reduceSub, Nat.reduceLT, Nat.reduceLeDiff, Nat.reduceMul, Nat.reduceEqDiff, cond_true, cond_false, if_true, if_false, reduceIte, implies_true, forall_const, ne_eq, hf, hg, hlen, hmap, hw, hget, hset, ho])
      (refine AWPC.of_vc ?_; simp only [zS, zU, vcC, lateX, ex, strp, cnd, binA, kseq, kblk, kret, klp, Abs.one, elems, cells, scalar, eqC, Nat.reduceBEq, Nat.reduceAdd, Nat.reduceSub, Nat.reduceLT, Nat.reduceLeDiff, Nat.reduceMul, Nat.reduceEqDiff, cond_true, cond_false, if_true, if_false, reduceIte, implies_true, forall_const, ne_eq, hf, hg, hlen, hmap, hw, hget, hset, ho])
      refine ⟨⟨fun e he => ?_, by simp, by omega⟩, ?_⟩
      · obtain rfl : e = 0 := by omega
        rfl
      · rw [rise_last, if_neg (by omega), risen]
        simp [spO, setO]
end Go.Proofs.Ytgpdckmbojmlpaa

namespace Go.Proofs.Ytgpdckmbojmlpaa
open Go.Abs
set_option linter.unusedVariables false
set_option linter.unusedSimpArgs false
set_option maxHeartbeats 4000000
set_option maxRecDepth 100000
-- aneroid/paper.Means
def c21 : CF := ⟨48,
 (.seq (.ops [
 ⟨(some 3), .box false 25 10 (.t 0), none⟩,
 ⟨(some 4), .box false 32 3 (.t 1), none⟩,
 ⟨(some 5), .box false 3 1 (.t 2), none⟩,
 ⟨(some 6), .mv (.c (.slice none 0 0)), none⟩,
 ⟨(some 7), .mv (.c (.int .i64 0)), none⟩] [3, 4, 5, 11, 12, 34, 35, 36, 37, 38, 39, 40, 42, 43, 44])
 (.seq (.ops [
 ⟨(some 14), .load (some 10) (.t 3), none⟩,
 ⟨(some 15), .load (some 3) (.t 4), none⟩,
 ⟨(some 16), .bsl false 32 3 1 [.int .i64 0, .int .i64 0, .int .i64 0] [(0, 3, (.t 15))], none⟩,
 ⟨(some 17), .call (.f 71) [(.t 14), (.t 16)], none⟩,
 ⟨(some 13), .mv (.t 17), none⟩,
 ⟨(some 18), .ext 0 (.t 13), none⟩,
 ⟨(some 19), .ext 1 (.t 13), none⟩,
 ⟨(some 8), .alloc 85 10 [.int .i64 0, .int .i64 0, .int .i64 0, .int .i64 0, .int .i64 0, .int .i64 0, .int .i64 0, .int .i64 0, .int .i64 0, .int .i64 0], none⟩,
 ⟨none, .store 10 (.t 8) (.t 18), none⟩,
 ⟨(some 9), .mv (.t 19), none⟩] [3, 4, 5, 8, 9, 11, 12, 34, 35, 36, 37, 38, 39, 40, 42, 43, 44])
 (.seq (.block 0 (.seq (.ops [
 ⟨(some 21), .mv (.t 9), none⟩,
 ⟨(some 22), .bin .neq (.t 21) (.c (.int .i64 0)), none⟩,
 ⟨(some 20), .mv (.t 22), none⟩] [3, 4, 5, 8, 9, 11, 12, 20, 34, 35, 36, 37, 38, 39, 40, 42, 43, 44])
 (.cond (.t 20) (.seq (.ops [
 ⟨(some 23), .mv (.t 9), none⟩,
 ⟨(some 6), .mv (.c (.slice none 0 0)), none⟩,
 ⟨(some 7), .mv (.t 23), none⟩] [6, 7])
 .ret)
 (.seq (.ops [
 ⟨(some 25), .load none (.t 5), none⟩,
 ⟨(some 26), .faddr 5 (.t 3), none⟩,
 ⟨(some 27), .load none (.t 26), none⟩,
 ⟨(some 28), .bin .sub (.t 27) (.c (.int .i64 1)), none⟩,
 ⟨(some 29), .call (.f 72) [(.t 25), (.c (.int .i64 0)), (.t 28)], none⟩,
 ⟨(some 30), .un .not (.t 29), none⟩,
 ⟨(some 24), .mv (.t 30), none⟩] [4, 5, 8, 11, 12, 24, 34, 35, 36, 37, 38, 39, 40, 42, 43, 44])
 (.cond (.t 24) (.seq (.ops [
 ⟨(some 6), .mv (.c (.slice none 0 0)), none⟩,
 ⟨(some 7), .mv (.c (.int .i64 1)), none⟩] [6, 7])
 .ret)
 .skip)))))
 (.seq (.ops [
 ⟨(some 10), .alloc 90 1 [.slice none 0 0], none⟩] [4, 5, 8, 10, 11, 12, 34, 35, 36, 37, 38, 39, 40, 42, 43, 44])
 (.seq (.seq (.ops [
 ⟨(some 31), .load (some 10) (.t 8), none⟩,
 ⟨(some 32), .load (some 3) (.t 4), none⟩,
 ⟨(some 33), .call (.f 73) [(.t 31), (.t 32)], none⟩] [5, 8, 10, 11, 12, 33, 34, 35, 36, 37, 38, 39, 40, 42, 43, 44])
 (.block 1 (.rng (.t 33) [34, 35] (.seq (.ops [
 ⟨(some 11), .mv (.t 34), none⟩] [5, 8, 10, 11, 34, 35, 36, 37, 38, 39, 40, 42, 43, 44])
 (.ops [
 ⟨(some 12), .alloc 23 2 [.int .i64 0, .int .i64 0], none⟩,
 ⟨none, .store 2 (.t 12) (.t 35), none⟩] [5, 8, 10, 11, 12, 34, 35, 36, 37, 38, 39, 40, 42, 43, 44]))
 (.block 2 (.seq (.ops [
 ⟨(some 36), .load none (.t 5), none⟩,
 ⟨(some 37), .faddr 0 (.t 12), none⟩,
 ⟨(some 38), .load none (.t 37), none⟩,
 ⟨(some 39), .faddr 1 (.t 12), none⟩,
 ⟨(some 40), .load none (.t 39), none⟩,
 ⟨(some 41), .call (.f 72) [(.t 36), (.t 38), (.t 40)], none⟩] [5, 8, 10, 11, 12, 34, 35, 36, 37, 38, 39, 40, 41, 42, 43, 44])
 (.cond (.t 41) (.ops [
 ⟨(some 42), .load (some 10) (.t 8), none⟩,
 ⟨(some 43), .mv (.t 11), none⟩,
 ⟨(some 44), .call (.f 75) [(.t 42), (.t 43)], none⟩,
 ⟨(some 45), .call (.f 74) [(.t 10), (.t 44)], none⟩] [5, 8, 10, 11, 12, 34, 35, 36, 37, 38, 39, 40, 42, 43, 44])
 .skip))))))
 (.seq (.ops [
 ⟨(some 46), .faddr 0 (.t 10), none⟩,
 ⟨(some 47), .load none (.t 46), none⟩,
 ⟨(some 6), .mv (.t 47), none⟩,
 ⟨(some 7), .mv (.c (.int .i64 0)), none⟩] [6, 7])
 .ret)))))),
 [.t 6, .t 7]⟩

theorem k21 : chkF Try.prog Try.f21 c21 = true := by kernel_rfl

/-- Does a printed height of a point have a column? -/
abbrev Pp.hit (p : Pp) (t : Pt) (c y : Int) : Prop := ((p.along t).lo - p.arc y) / p.pi ≤ c ∧ c ≤ ((p.along t).hi - p.arc y) / p.pi

def Pp.ms (p : Pp) (t : Pt) (c : Int) : Nat → List Sp
  | 0 => []
  | k + 1 => if p.hit t c ((p.heights t).lo + k) then rise (p.ms t c k) (p.level ((p.heights t).lo + k)) else p.ms t c k

theorem rise_len (l : List Sp) (v : Int) : (rise l v).length ≤ l.length + 1 := by
  rcases List.eq_nil_or_concat l with rfl | ⟨i, s, rfl⟩
  · simp [rise]
  · rw [List.concat_eq_append, rise_last]; split <;> simp

theorem rise_bd (l : List Sp) (v A : Int) (hv : 0 ≤ v ∧ v ≤ A) (h : ∀ s ∈ l, 0 ≤ s.hi ∧ s.hi ≤ A) : ∀ s ∈ rise l v, 0 ≤ s.hi ∧ s.hi ≤ A := by
  rcases List.eq_nil_or_concat l with rfl | ⟨i, s, rfl⟩
  · simp [rise]; omega
  · rw [List.concat_eq_append] at h ⊢
    rw [rise_last]
    have hs := h s (by simp)
    split
    · intro s' hs'
      rcases List.mem_append.1 hs' with h1 | h1
      · exact h s' (by simp [h1])
      · simp at h1; subst h1; simp only; omega
    · intro s' hs'
      rcases List.mem_append.1 hs' with h1 | h1
      · exact h s' (by simp [h1])
      · simp at h1; rcases h1 with rfl | rfl
        · exact hs
        · exact hv

theorem level_bd (p : Pp) (y : Int) (hg : p.good) (h0 : 0 ≤ y) (h1 : y ≤ p.he) : 0 ≤ p.level y ∧ p.level y ≤ 12000 := by
  obtain ⟨g1, g2, g3, g4, g5, g6, g7, g8, g9, g10, g11, g12, g13⟩ := hg
  have hm := Int.mul_nonneg h0 (show 0 ≤ p.hi - p.lo by omega)
  have h2 : y * (p.hi - p.lo) ≤ p.he * (p.hi - p.lo) := Int.mul_le_mul_of_nonneg_right h1 (by omega)
  have h3 : (y * (p.hi - p.lo)).tdiv p.he ≤ p.hi - p.lo := by
    rw [Int.tdiv_eq_ediv_of_nonneg hm]
    have := Int.ediv_le_ediv (show 0 < p.he by omega) h2
    rw [Int.mul_ediv_cancel_left _ (by omega)] at this
    exact this
  have h4 : 0 ≤ (y * (p.hi - p.lo)).tdiv p.he := Int.tdiv_nonneg hm (by omega)
  unfold Pp.level
  omega

theorem ms_inv (p : Pp) (t : Pt) (c : Int) (hg : p.good) (hl : 0 ≤ (p.heights t).lo) (hh : (p.heights t).hi ≤ p.he) : ∀ k, k ≤ p.cnt t → (p.ms t c k).length ≤ k ∧ ∀ s ∈ p.ms t c k, 0 ≤ s.hi ∧ s.hi ≤ 12000
  | 0, _ => by simp [Pp.ms]
  | k + 1, hk => by
    obtain ⟨h1, h2⟩ := ms_inv p t c hg hl hh k (by omega)
    unfold Pp.ms
    split
    · have := rise_len (p.ms t c k) (p.level ((p.heights t).lo + k))
      exact ⟨by omega, rise_bd _ _ _ (level_bd p _ hg (by omega) (by unfold Pp.cnt at hk; omega)) h2⟩
    · exact ⟨by omega, h2⟩

def Pp.Means (p : Pp) (t : Pt) (c : Int) : List Sp × Int :=
  if p.perr1 t ≠ 0 then ([], p.perr1 t) else if ¬ (0 ≤ c ∧ c ≤ p.co - 1) then ([], 1) else (p.ms t c (p.cnt t), 0)

theorem Frz.nil {σ : Sto} {k : Nat} : Frz σ (.v (.slice none 0 0)) (.sl k []) := fun w X β x hs hx => by
  cases hx; exact .slnil k

theorem frz_sp {σ : Sto} {f i : Nat} {l : List Sp} (h : σ.at f i = some (spO l)) : Frz σ (.own f i l.length) (spS l) := by
  refine Frz.own (o := spO l) (es := l.map Sp.cs) (show (2 : Nat) ≠ 0 by decide) h (by simp) (by simp) (fun e j he hj => ?_) fun e he => ?_
  · obtain ⟨x, hx⟩ : ∃ x, l[e]? = some x := ⟨_, List.getElem?_eq_getElem he⟩
    rw [getD_map hx]
    match j, hj with
    | 0, _ => exact Frz.eq rfl (by simp)
    | 1, _ => exact Frz.eq rfl (by simp)
  · obtain ⟨x, hx⟩ : ∃ x, l[e]? = some x := ⟨_, List.getElem?_eq_getElem he⟩
    rw [getD_map hx]; rfl

theorem Means_spec (p : Pp) (t : Pt) (c : Int) : Pure Try.prog 21 [.agg p.cs, .agg t.cs, n c] (.tup [spS (p.Means t c).1, n (p.Means t c).2]) := by
  refine Pure.of_body Try.call21 Try.func21 k21 (Nat.le_of_ble_eq_true rfl) ?_
  unfold c21
  refine AWPC.of_vc ?_; simp only [zS, zU, vcC, lateX, ex, strp, cnd, binA, kseq, kblk, kret, klp, Abs.one, elems, cells, scalar, eqC, Nat.reduceBEq, Nat.reduceAdd, Nat.reduceSub, Nat.reduceLT, Nat.reduceLeDiff, Nat.reduceMul, Nat.reduceEqDiff, cond_true, cond_false, if_true, if_false, reduceIte, implies_true, forall_const, ne_eq]
  refine AWPC.of_vc ?_; simp only [zS, zU, vcC, lateX, ex, strp, cnd, binA, kseq, kblk, kret, klp, Abs.one, elems, cells, scalar, eqC, Nat.reduceBEq, Nat.reduceAdd, Nat.reduceSub, Nat.reduceLT, Nat.reduceLeDiff, Nat.reduceMul, Nat.reduceEqDiff, cond_true, cond_false, if_true, if_false, reduceIte, implies_true, forall_const, ne_eq]
  ((repeat (refine And.intro (by (intros; first | omega | (simp_all (config := { decide := false }); done) | fail)) ?_)); refine .inl ⟨_, _, _, _, rfl, fun _hc => ⟨by simp, read1_spec p t⟩, ?_⟩; refine owp_of_exs ?_; simp only [zS, zU, vcC, lateX, ex, strp, cnd, binA, kseq, kblk, kret, klp, Abs.one, elems, cells, scalar, eqC, Nat.reduceBEq, Nat.reduceAdd, Nat.reduceSub, Nat.reduceLT, Nat.reduceLeDiff, Nat.reduceMul, Nat.reduceEqDiff, cond_true, cond_false, if_true, if_false, reduceIte, implies_true, forall_const, ne_eq])
  refine AWPC.of_vc ?_; simp only [zS, zU, vcC, lateX, ex, strp, cnd, binA, kseq, kblk, kret, klp, Abs.one, elems, cells, scalar, eqC, Nat.reduceBEq, Nat.reduceAdd, Nat.reduceSub, Nat.reduceLT, Nat.reduceLeDiff, Nat.reduceMul, Nat.reduceEqDiff, cond_true, cond_false, if_true, if_false, reduceIte, implies_true, forall_const, ne_eq]
  refine AWPC.of_vc ?_; simp only [zS, zU, vcC, lateX, ex, strp, cnd, binA, kseq, kblk, kret, klp, Abs.one, elems, cells, scalar, eqC, Nat.reduceBEq, Nat.reduceAdd, Nat.reduceSub, Nat.reduceLT, Nat.reduceLeDiff, Nat.reduceMul, Nat.reduceEqDiff, cond_true, cond_false, if_true, if_false, reduceIte, implies_true, forall_const, ne_eq]
  refine ⟨fun he => ?_, fun he => ?_⟩
  · refine AWPC.of_vc ?_; simp only [zS, zU, vcC, lateX, ex, strp, cnd, binA, kseq, kblk, kret, klp, Abs.one, elems, cells, scalar, eqC, Nat.reduceBEq, Nat.reduceAdd, Nat.reduceSub, Nat.reduceLT, Nat.reduceLeDiff, Nat.reduceMul, Nat.reduceEqDiff, cond_true, cond_false, if_true, if_false, reduceIte, implies_true, forall_const, ne_eq]
    refine AWPC.of_vc ?_; simp only [zS, zU, vcC, lateX, ex, strp, cnd, binA, kseq, kblk, kret, klp, Abs.one, elems, cells, scalar, eqC, Nat.reduceBEq, Nat.reduceAdd, Nat.reduceSub, Nat.reduceLT, Nat.reduceLeDiff, Nat.reduceMul, Nat.reduceEqDiff, cond_true, cond_false, if_true, if_false, reduceIte, implies_true, forall_const, ne_eq]
    refine Frz.tup rfl (fun i hi => ?_)
    rw [Pp.Means, if_pos he]
    match i, hi with
    | 0, _ => exact Frz.nil
    | 1, _ => exact Frz.eq rfl (by simp)
  · obtain ⟨hg, ht⟩ := perr0 he
    have hg' := hg
    obtain ⟨g1, g2, g3, g4, g5, g6, g7, g8, g9, g10, g11, g12, g13⟩ := hg'
    rw [orz1 hg]
    refine AWPC.of_vc ?_; simp only [zS, zU, vcC, lateX, ex, strp, cnd, binA, kseq, kblk, kret, klp, Abs.one, elems, cells, scalar, eqC, Nat.reduceBEq, Nat.reduceAdd, Nat.reduceSub, Nat.reduceLT, Nat.reduceLeDiff, Nat.reduceMul, Nat.reduceEqDiff, cond_true, cond_false, if_true, if_false, reduceIte, implies_true, forall_const, ne_eq]
    rw [wr64 (p.co - 1) (by omega) (by omega)]
    ((repeat (refine And.intro (by (intros; first | omega | (simp_all (config := { decide := false }); done) | fail)) ?_)); refine .inl ⟨_, _, _, _, rfl, fun _hc => ⟨by simp, within_spec _ _ _⟩, ?_⟩; refine owp_of_exs ?_; simp only [zS, zU, vcC, lateX, ex, strp, cnd, binA, kseq, kblk, kret, klp, Abs.one, elems, cells, scalar, eqC, Nat.reduceBEq, Nat.reduceAdd, Nat.reduceSub, Nat.reduceLT, Nat.reduceLeDiff, Nat.reduceMul, Nat.reduceEqDiff, cond_true, cond_false, if_true, if_false, reduceIte, implies_true, forall_const, ne_eq])
    refine AWPC.of_vc ?_; simp only [zS, zU, vcC, lateX, ex, strp, cnd, binA, kseq, kblk, kret, klp, Abs.one, elems, cells, scalar, eqC, Nat.reduceBEq, Nat.reduceAdd, Nat.reduceSub, Nat.reduceLT, Nat.reduceLeDiff, Nat.reduceMul, Nat.reduceEqDiff, cond_true, cond_false, if_true, if_false, reduceIte, implies_true, forall_const, ne_eq]
    refine ⟨fun hc => ?_, fun hc => ?_⟩
    · refine AWPC.of_vc ?_; simp only [zS, zU, vcC, lateX, ex, strp, cnd, binA, kseq, kblk, kret, klp, Abs.one, elems, cells, scalar, eqC, Nat.reduceBEq, Nat.reduceAdd, Nat.reduceSub, Nat.reduceLT, Nat.reduceLeDiff, Nat.reduceMul, Nat.reduceEqDiff, cond_true, cond_false, if_true, if_false, reduceIte, implies_true, forall_const, ne_eq]
      refine AWPC.of_vc ?_; simp only [zS, zU, vcC, lateX, ex, strp, cnd, binA, kseq, kblk, kret, klp, Abs.one, elems, cells, scalar, eqC, Nat.reduceBEq, Nat.reduceAdd, Nat.reduceSub, Nat.reduceLT, Nat.reduceLeDiff, Nat.reduceMul, Nat.reduceEqDiff, cond_true, cond_false, if_true, if_false, reduceIte, implies_true, forall_const, ne_eq]
      refine Frz.tup rfl (fun i hi => ?_)
      rw [Pp.Means, if_neg (by simp [he]), if_pos hc]
      match i, hi with
      | 0, _ => exact Frz.nil
      | 1, _ => exact Frz.eq rfl (by simp)
    · refine AWPC.of_vc ?_; simp only [zS, zU, vcC, lateX, ex, strp, cnd, binA, kseq, kblk, kret, klp, Abs.one, elems, cells, scalar, eqC, Nat.reduceBEq, Nat.reduceAdd, Nat.reduceSub, Nat.reduceLT, Nat.reduceLeDiff, Nat.reduceMul, Nat.reduceEqDiff, cond_true, cond_false, if_true, if_false, reduceIte, implies_true, forall_const, ne_eq]
      refine AWPC.of_vc ?_; simp only [zS, zU, vcC, lateX, ex, strp, cnd, binA, kseq, kblk, kret, klp, Abs.one, elems, cells, scalar, eqC, Nat.reduceBEq, Nat.reduceAdd, Nat.reduceSub, Nat.reduceLT, Nat.reduceLeDiff, Nat.reduceMul, Nat.reduceEqDiff, cond_true, cond_false, if_true, if_false, reduceIte, implies_true, forall_const, ne_eq]
      refine AWPC.own0c 23 2 (f := 1) (i := 0) (e := 0) (j := 0) rfl (by simp) rfl ?_
      refine AWPC.of_vc ?_; simp only [zS, zU, vcC, lateX, ex, strp, cnd, binA, kseq, kblk, kret, klp, Abs.one, elems, cells, scalar, eqC, Nat.reduceBEq, Nat.reduceAdd, Nat.reduceSub, Nat.reduceLT, Nat.reduceLeDiff, Nat.reduceMul, Nat.reduceEqDiff, cond_true, cond_false, if_true, if_false, reduceIte, implies_true, forall_const, ne_eq]
      ((repeat (refine And.intro (by (intros; first | omega | (simp_all (config := { decide := false }); done) | fail)) ?_)); refine .inl ⟨_, _, _, _, rfl, fun _hc => ⟨by simp, line_spec p t⟩, ?_⟩; refine owp_of_exs ?_; simp only [zS, zU, vcC, lateX, ex, strp, cnd, binA, kseq, kblk, kret, klp, Abs.one, elems, cells, scalar, eqC, Nat.reduceBEq, Nat.reduceAdd, Nat.reduceSub, Nat.reduceLT, Nat.reduceLeDiff, Nat.reduceMul, Nat.reduceEqDiff, cond_true, cond_false, if_true, if_false, reduceIte, implies_true, forall_const, ne_eq])
      have ht' := ht
      obtain ⟨t1, t2, t3, t4, t5, t6⟩ := ht'
      have hy0 := places_bd p.cl t.y t.h g13 ⟨t3, t4⟩ ⟨t5, t6⟩
      have hyl : 0 ≤ (p.heights t).lo := hy0.1
      have hyh : (p.heights t).hi ≤ p.he := Int.min_le_right _ _
      have hcnt : p.cnt t ≤ 400001 := by unfold Pp.cnt; omega
      have hinv := ms_inv p t c hg hyl hyh
      refine AWPC.of_vc ?_; simp only [zS, zU, vcC, lateX, ex, strp, cnd, binA, kseq, kblk, kret, klp, Abs.one, elems, cells, scalar, eqC, Nat.reduceBEq, Nat.reduceAdd, Nat.reduceSub, Nat.reduceLT, Nat.reduceLeDiff, Nat.reduceMul, Nat.reduceEqDiff, cond_true, cond_false, if_true, if_false, reduceIte, implies_true, forall_const, ne_eq]
      refine AWPC.rng (fun k : Nat => [some [⟨85, 10, [p.cs], none⟩], some [setO 2 (p.ms t c k).length], some [spO (p.ms t c k)]]) 3 (fun _ => rfl) (fun k x => x = k) (fun _ _ => False) (p.tr t) 0
        rfl rfl rfl (line_iter p t hg ht) (fun k args h => ?_) (fun k x args l ρ τ hk hx => ?_) (fun x τ hx => ?_) (fun _ _ _ h => h.elim)
      · have hk : k < p.cnt t := by have := (List.getElem?_eq_some_iff.1 h).1; simpa [Pp.tr] using this
        rw [tr_get p t hk] at h; injection h with h; subst h; rfl
      · subst hx
        have hk2 : x < p.cnt t := by have := (List.getElem?_eq_some_iff.1 hk).1; simpa [Pp.tr] using this
        rw [tr_get p t hk2] at hk; injection hk with hk; subst hk
        unfold Pp.row
        simp only [par]
        refine AWPC.of_vc ?_; simp only [zS, zU, vcC, lateX, ex, strp, cnd, binA, kseq, kblk, kret, klp, Abs.one, elems, cells, scalar, eqC, Nat.reduceBEq, Nat.reduceAdd, Nat.reduceSub, Nat.reduceLT, Nat.reduceLeDiff, Nat.reduceMul, Nat.reduceEqDiff, cond_true, cond_false, if_true, if_false, reduceIte, implies_true, forall_const, ne_eq]
        refine AWPC.of_vc ?_; simp only [zS, zU, vcC, lateX, ex, strp, cnd, binA, kseq, kblk, kret, klp, Abs.one, elems, cells, scalar, eqC, Nat.reduceBEq, Nat.reduceAdd, Nat.reduceSub, Nat.reduceLT, Nat.reduceLeDiff, Nat.reduceMul, Nat.reduceEqDiff, cond_true, cond_false, if_true, if_false, reduceIte, implies_true, forall_const, ne_eq]
        refine ⟨x, _, rfl, fun ρ' => ?_⟩
        obtain ⟨hi1, hi2⟩ := hinv x (by omega)
        have hyy : (p.heights t).lo + x ≤ p.he := by unfold Pp.cnt at hk2; omega
        have hlv := level_bd p ((p.heights t).lo + x) hg (by omega) hyy
        refine AWPC.of_vc ?_; simp only [zS, zU, vcC, lateX, ex, strp, cnd, binA, kseq, kblk, kret, klp, Abs.one, elems, cells, scalar, eqC, Nat.reduceBEq, Nat.reduceAdd, Nat.reduceSub, Nat.reduceLT, Nat.reduceLeDiff, Nat.reduceMul, Nat.reduceEqDiff, cond_true, cond_false, if_true, if_false, reduceIte, implies_true, forall_const, ne_eq]
        ((repeat (refine And.intro (by (intros; first | omega | (simp_all (config := { decide := false }); done) | fail)) ?_)); refine .inl ⟨_, _, _, _, rfl, fun _hc => ⟨by simp, within_spec _ _ _⟩, ?_⟩; refine owp_of_exs ?_; simp only [zS, zU, vcC, lateX, ex, strp, cnd, binA, kseq, kblk, kret, klp, Abs.one, elems, cells, scalar, eqC, Nat.reduceBEq, Nat.reduceAdd, Nat.reduceSub, Nat.reduceLT, Nat.reduceLeDiff, Nat.reduceMul, Nat.reduceEqDiff, cond_true, cond_false, if_true, if_false, reduceIte, implies_true, forall_const, ne_eq])
        refine AWPC.of_vc ?_; simp only [zS, zU, vcC, lateX, ex, strp, cnd, binA, kseq, kblk, kret, klp, Abs.one, elems, cells, scalar, eqC, Nat.reduceBEq, Nat.reduceAdd, Nat.reduceSub, Nat.reduceLT, Nat.reduceLeDiff, Nat.reduceMul, Nat.reduceEqDiff, cond_true, cond_false, if_true, if_false, reduceIte, implies_true, forall_const, ne_eq]
        refine ⟨fun hit => ?_, fun hno => ?_⟩
        · have hms : p.ms t c (x + 1) = rise (p.ms t c x) (p.level ((p.heights t).lo + x)) := by rw [Pp.ms, if_pos hit]
          refine AWPC.of_vc ?_; simp only [zS, zU, vcC, lateX, ex, strp, cnd, binA, kseq, kblk, kret, klp, Abs.one, elems, cells, scalar, eqC, Nat.reduceBEq, Nat.reduceAdd, Nat.reduceSub, Nat.reduceLT, Nat.reduceLeDiff, Nat.reduceMul, Nat.reduceEqDiff, cond_true, cond_false, if_true, if_false, reduceIte, implies_true, forall_const, ne_eq]
          ((repeat (refine And.intro (by (intros; first | omega | (simp_all (config := { decide := false }); done) | fail)) ?_)); refine .inl ⟨_, _, _, _, rfl, fun _hc => ⟨by simp, level_spec p ((p.heights t).lo + x) hg (by omega) hyy⟩, ?_⟩; refine owp_of_exs ?_; simp only [zS, zU, vcC, lateX, ex, strp, cnd, binA, kseq, kblk, kret, klp, Abs.one, elems, cells, scalar, eqC, Nat.reduceBEq, Nat.reduceAdd, Nat.reduceSub, Nat.reduceLT, Nat.reduceLeDiff, Nat.reduceMul, Nat.reduceEqDiff, cond_true, cond_false, if_true, if_false, reduceIte, implies_true, forall_const, ne_eq])
          refine .inr (.inl ⟨_, _, _, _, rfl, fun _ => ⟨rise_spec _ 1 2 (p.ms t c x) _ ?_ ?_ (by omega) (by omega) (fun s hs => by have := hi2 s hs; omega), ?_⟩, fun h => by cases h⟩)
          · simp [Sto.at]
          · simp [Sto.at]
          rintro res σ' rfl
          refine owp_of_exs ?_
          simp only [zS, zU, vcC, lateX, ex, strp, cnd, binA, kseq, kblk, kret, klp, Abs.one, elems, cells, scalar, eqC, Nat.reduceBEq, Nat.reduceAdd, Nat.reduceSub, Nat.reduceLT, Nat.reduceLeDiff, Nat.reduceMul, Nat.reduceEqDiff, cond_true, cond_false, if_true, if_false, reduceIte, implies_true, forall_const, ne_eq]
          exact ⟨x + 1, [], by simp only []; rw [hms, List.append_nil]; rfl, rfl⟩
        · have hms : p.ms t c (x + 1) = p.ms t c x := by rw [Pp.ms, if_neg hno]
          refine AWPC.of_vc ?_; simp only [zS, zU, vcC, lateX, ex, strp, cnd, binA, kseq, kblk, kret, klp, Abs.one, elems, cells, scalar, eqC, Nat.reduceBEq, Nat.reduceAdd, Nat.reduceSub, Nat.reduceLT, Nat.reduceLeDiff, Nat.reduceMul, Nat.reduceEqDiff, cond_true, cond_false, if_true, if_false, reduceIte, implies_true, forall_const, ne_eq]
          exact ⟨x + 1, [], by simp only []; rw [hms, List.append_nil]; rfl, rfl⟩
      · subst hx
        have hlen : (p.tr t).length = p.cnt t := by simp [Pp.tr]
        obtain ⟨hi1, hi2⟩ := hinv (p.cnt t) (Nat.le_refl _)
        rw [hlen]
        simp only [zS, zU, vcC, lateX, ex, strp, cnd, binA, kseq, kblk, kret, klp, Abs.one, elems, cells, scalar, eqC, Nat.reduceBEq, Nat.reduceAdd, Nat.reduceSub, Nat.reduceLT, Nat.reduceLeDiff, Nat.reduceMul, Nat.reduceEqDiff, cond_true, cond_false, if_true, if_false, reduceIte, implies_true, forall_const, ne_eq]
        refine AWPC.of_vc ?_; simp only [zS, zU, vcC, lateX, ex, strp, cnd, binA, kseq, kblk, kret, klp, Abs.one, elems, cells, scalar, eqC, Nat.reduceBEq, Nat.reduceAdd, Nat.reduceSub, Nat.reduceLT, Nat.reduceLeDiff, Nat.reduceMul, Nat.reduceEqDiff, cond_true, cond_false, if_true, if_false, reduceIte, implies_true, forall_const, ne_eq]
        refine AWPC.of_vc ?_; simp only [zS, zU, vcC, lateX, ex, strp, cnd, binA, kseq, kblk, kret, klp, Abs.one, elems, cells, scalar, eqC, Nat.reduceBEq, Nat.reduceAdd, Nat.reduceSub, Nat.reduceLT, Nat.reduceLeDiff, Nat.reduceMul, Nat.reduceEqDiff, cond_true, cond_false, if_true, if_false, reduceIte, implies_true, forall_const, ne_eq]
        refine Frz.tup rfl (fun i hi => ?_)
        rw [Pp.Means, if_neg (by simp [he]), if_neg (by simpa using hc)]
        match i, hi with
        | 0, _ => exact frz_sp rfl
        | 1, _ => exact Frz.eq rfl (by simp)
end Go.Proofs.Ytgpdckmbojmlpaa

namespace Go.Proofs.Ytgpdckmbojmlpaa
open Go.Abs
set_option linter.unusedVariables false
set_option linter.unusedSimpArgs false
set_option maxHeartbeats 4000000
set_option maxRecDepth 100000
-- aneroid/paper.Columns
def c22 : CF := ⟨58,
 (.seq (.ops [
 ⟨(some 2), .box false 25 10 (.t 0), none⟩,
 ⟨(some 3), .box false 32 3 (.t 1), none⟩,
 ⟨(some 4), .alloc 23 2 [.int .i64 0, .int .i64 0], none⟩,
 ⟨(some 5), .mv (.c (.int .i64 0)), none⟩] [2, 3, 4, 10, 11, 12, 31, 32, 33, 34, 35, 36, 37, 38, 39, 40, 41, 42, 44, 45, 46, 47, 48, 49, 50, 51, 52])
 (.seq (.ops [
 ⟨(some 14), .load (some 10) (.t 2), none⟩,
 ⟨(some 15), .load (some 3) (.t 3), none⟩,
 ⟨(some 16), .bsl false 32 3 1 [.int .i64 0, .int .i64 0, .int .i64 0] [(0, 3, (.t 15))], none⟩,
 ⟨(some 17), .call (.f 71) [(.t 14), (.t 16)], none⟩,
 ⟨(some 13), .mv (.t 17), none⟩,
 ⟨(some 18), .ext 0 (.t 13), none⟩,
 ⟨(some 19), .ext 1 (.t 13), none⟩,
 ⟨(some 6), .alloc 85 10 [.int .i64 0, .int .i64 0, .int .i64 0, .int .i64 0, .int .i64 0, .int .i64 0, .int .i64 0, .int .i64 0, .int .i64 0, .int .i64 0], none⟩,
 ⟨none, .store 10 (.t 6) (.t 18), none⟩,
 ⟨(some 7), .mv (.t 19), none⟩] [2, 3, 4, 6, 7, 10, 11, 12, 31, 32, 33, 34, 35, 36, 37, 38, 39, 40, 41, 42, 44, 45, 46, 47, 48, 49, 50, 51, 52])
 (.seq (.seq (.ops [
 ⟨(some 20), .mv (.t 7), none⟩,
 ⟨(some 21), .bin .neq (.t 20) (.c (.int .i64 0)), none⟩] [2, 3, 4, 6, 7, 10, 11, 12, 21, 31, 32, 33, 34, 35, 36, 37, 38, 39, 40, 41, 42, 44, 45, 46, 47, 48, 49, 50, 51, 52])
 (.cond (.t 21) (.seq (.ops [
 ⟨(some 22), .build [.int .i64 0, .int .i64 0] [], none⟩,
 ⟨(some 23), .mv (.t 7), none⟩,
 ⟨none, .store 2 (.t 4) (.t 22), none⟩,
 ⟨(some 5), .mv (.t 23), none⟩] [4, 5])
 .ret)
 .skip))
 (.seq (.ops [
 ⟨(some 24), .faddr 5 (.t 2), none⟩,
 ⟨(some 25), .load none (.t 24), none⟩,
 ⟨(some 26), .build [.int .i64 0, .int .i64 0] [(0, 1, (.t 25)), (1, 1, (.c (.int .i64 (-1))))], none⟩,
 ⟨(some 8), .alloc 23 2 [.int .i64 0, .int .i64 0], none⟩,
 ⟨none, .store 2 (.t 8) (.t 26), none⟩] [2, 3, 4, 6, 8, 10, 11, 12, 31, 32, 33, 34, 35, 36, 37, 38, 39, 40, 41, 42, 44, 45, 46, 47, 48, 49, 50, 51, 52])
 (.seq (.seq (.ops [
 ⟨(some 27), .load (some 10) (.t 6), none⟩,
 ⟨(some 28), .load (some 3) (.t 3), none⟩,
 ⟨(some 29), .call (.f 73) [(.t 27), (.t 28)], none⟩] [2, 4, 8, 10, 11, 12, 29, 31, 32, 33, 34, 35, 36, 37, 38, 39, 40, 41, 42, 44, 45, 46, 47, 48, 49, 50, 51, 52])
 (.block 0 (.rng (.t 29) [30, 31] (.ops [
 ⟨(some 10), .alloc 23 2 [.int .i64 0, .int .i64 0], none⟩,
 ⟨none, .store 2 (.t 10) (.t 31), none⟩] [2, 4, 8, 10, 11, 12, 30, 31, 32, 33, 34, 35, 36, 37, 38, 39, 40, 41, 42, 44, 45, 46, 47, 48, 49, 50, 51, 52])
 (.block 1 (.seq (.draw [
 ⟨(some 32), .faddr 0 (.t 10), none⟩,
 ⟨(some 33), .load none (.t 32), none⟩,
 ⟨(some 34), .mnx true (.t 33) (.c (.int .i64 0)), none⟩,
 ⟨(some 35), .faddr 1 (.t 10), none⟩,
 ⟨(some 36), .load none (.t 35), none⟩,
 ⟨(some 37), .faddr 5 (.t 2), none⟩,
 ⟨(some 38), .load none (.t 37), none⟩,
 ⟨(some 39), .bin .sub (.t 38) (.c (.int .i64 1)), none⟩,
 ⟨(some 40), .mnx false (.t 36) (.t 39), none⟩,
 ⟨(some 11), .mv (.t 34), none⟩,
 ⟨(some 12), .mv (.t 40), none⟩] [
 ] [2, 4, 8, 10, 11, 12, 31, 32, 33, 34, 35, 36, 37, 38, 39, 40, 44, 45, 46, 47, 48, 49, 50, 51, 52])
 (.seq (.ops [
 ⟨(some 41), .mv (.t 11), none⟩,
 ⟨(some 42), .mv (.t 12), none⟩,
 ⟨(some 43), .bin .leq (.t 41) (.t 42), none⟩] [2, 4, 8, 10, 11, 12, 31, 32, 33, 34, 35, 36, 37, 38, 39, 40, 41, 42, 43, 44, 45, 46, 47, 48, 49, 50, 51, 52])
 (.cond (.t 43) (.ops [
 ⟨(some 44), .faddr 0 (.t 8), none⟩,
 ⟨(some 45), .load none (.t 44), none⟩,
 ⟨(some 46), .mv (.t 11), none⟩,
 ⟨(some 47), .mnx false (.t 45) (.t 46), none⟩,
 ⟨(some 48), .faddr 1 (.t 8), none⟩,
 ⟨(some 49), .load none (.t 48), none⟩,
 ⟨(some 50), .mv (.t 12), none⟩,
 ⟨(some 51), .mnx true (.t 49) (.t 50), none⟩,
 ⟨(some 52), .build [.int .i64 0, .int .i64 0] [(0, 1, (.t 47)), (1, 1, (.t 51))], none⟩,
 ⟨none, .store 2 (.t 8) (.t 52), none⟩] [2, 4, 8, 10, 11, 12, 31, 32, 33, 34, 35, 36, 37, 38, 39, 40, 41, 42, 44, 45, 46, 47, 48, 49, 50, 51, 52])
 .skip)))))))
 (.seq (.seq (.ops [
 ⟨(some 53), .faddr 1 (.t 8), none⟩,
 ⟨(some 54), .load none (.t 53), none⟩,
 ⟨(some 55), .bin .lss (.t 54) (.c (.int .i64 0)), none⟩] [4, 8, 55])
 (.cond (.t 55) (.seq (.ops [
 ⟨(some 56), .build [.int .i64 0, .int .i64 0] [], none⟩,
 ⟨none, .store 2 (.t 4) (.t 56), none⟩,
 ⟨(some 5), .mv (.c (.int .i64 3)), none⟩] [4, 5])
 .ret)
 .skip))
 (.seq (.ops [
 ⟨(some 57), .load (some 2) (.t 8), none⟩,
 ⟨none, .store 2 (.t 4) (.t 57), none⟩,
 ⟨(some 5), .mv (.c (.int .i64 0)), none⟩] [4, 5])
 .ret))))))),
 [.c 4 (some 2), .t 5]⟩

theorem k22 : chkF Try.prog Try.f22 c22 = true := by kernel_rfl

def Pp.outs (p : Pp) (t : Pt) : Nat → Sp
  | 0 => ⟨p.co, -1⟩
  | k + 1 =>
    let lo := max (((p.along t).lo - p.arc ((p.heights t).lo + k)) / p.pi) 0
    let hi := min (((p.along t).hi - p.arc ((p.heights t).lo + k)) / p.pi) (p.co - 1)
    if lo ≤ hi then ⟨min (p.outs t k).lo lo, max (p.outs t k).hi hi⟩ else p.outs t k

def Pp.Cols (p : Pp) (t : Pt) : Sp × Int :=
  if p.perr1 t ≠ 0 then (⟨0, 0⟩, p.perr1 t) else if (p.outs t (p.cnt t)).hi < 0 then (⟨0, 0⟩, 3) else (p.outs t (p.cnt t), 0)

theorem Columns_spec (p : Pp) (t : Pt) : Pure Try.prog 22 [.agg p.cs, .agg t.cs] (.tup [.agg (p.Cols t).1.cs, n (p.Cols t).2]) := by
  refine Pure.of_body Try.call22 Try.func22 k22 (Nat.le_of_ble_eq_true rfl) ?_
  unfold c22
  refine AWPC.of_vc ?_; simp only [zS, zU, vcC, lateX, ex, strp, cnd, binA, kseq, kblk, kret, klp, Abs.one, elems, cells, scalar, eqC, Nat.reduceBEq, Nat.reduceAdd, Nat.reduceSub, Nat.reduceLT, Nat.reduceLeDiff, Nat.reduceMul, Nat.reduceEqDiff, cond_true, cond_false, if_true, if_false, reduceIte, implies_true, forall_const, ne_eq]
  refine AWPC.of_vc ?_; simp only [zS, zU, vcC, lateX, ex, strp, cnd, binA, kseq, kblk, kret, klp, Abs.one, elems, cells, scalar, eqC, Nat.reduceBEq, Nat.reduceAdd, Nat.reduceSub, Nat.reduceLT, Nat.reduceLeDiff, Nat.reduceMul, Nat.reduceEqDiff, cond_true, cond_false, if_true, if_false, reduceIte, implies_true, forall_const, ne_eq]
  ((repeat (refine And.intro (by (intros; first | omega | (simp_all (config := { decide := false }); done) | fail)) ?_)); refine .inl ⟨_, _, _, _, rfl, fun _hc => ⟨by simp, read1_spec p t⟩, ?_⟩; refine owp_of_exs ?_; simp only [zS, zU, vcC, lateX, ex, strp, cnd, binA, kseq, kblk, kret, klp, Abs.one, elems, cells, scalar, eqC, Nat.reduceBEq, Nat.reduceAdd, Nat.reduceSub, Nat.reduceLT, Nat.reduceLeDiff, Nat.reduceMul, Nat.reduceEqDiff, cond_true, cond_false, if_true, if_false, reduceIte, implies_true, forall_const, ne_eq])
  refine AWPC.of_vc ?_; simp only [zS, zU, vcC, lateX, ex, strp, cnd, binA, kseq, kblk, kret, klp, Abs.one, elems, cells, scalar, eqC, Nat.reduceBEq, Nat.reduceAdd, Nat.reduceSub, Nat.reduceLT, Nat.reduceLeDiff, Nat.reduceMul, Nat.reduceEqDiff, cond_true, cond_false, if_true, if_false, reduceIte, implies_true, forall_const, ne_eq]
  refine AWPC.of_vc ?_; simp only [zS, zU, vcC, lateX, ex, strp, cnd, binA, kseq, kblk, kret, klp, Abs.one, elems, cells, scalar, eqC, Nat.reduceBEq, Nat.reduceAdd, Nat.reduceSub, Nat.reduceLT, Nat.reduceLeDiff, Nat.reduceMul, Nat.reduceEqDiff, cond_true, cond_false, if_true, if_false, reduceIte, implies_true, forall_const, ne_eq]
  refine ⟨fun he => ?_, fun he => ?_⟩
  · refine AWPC.of_vc ?_; simp only [zS, zU, vcC, lateX, ex, strp, cnd, binA, kseq, kblk, kret, klp, Abs.one, elems, cells, scalar, eqC, Nat.reduceBEq, Nat.reduceAdd, Nat.reduceSub, Nat.reduceLT, Nat.reduceLeDiff, Nat.reduceMul, Nat.reduceEqDiff, cond_true, cond_false, if_true, if_false, reduceIte, implies_true, forall_const, ne_eq]
    refine AWPC.of_vc ?_; simp only [zS, zU, vcC, lateX, ex, strp, cnd, binA, kseq, kblk, kret, klp, Abs.one, elems, cells, scalar, eqC, Nat.reduceBEq, Nat.reduceAdd, Nat.reduceSub, Nat.reduceLT, Nat.reduceLeDiff, Nat.reduceMul, Nat.reduceEqDiff, cond_true, cond_false, if_true, if_false, reduceIte, implies_true, forall_const, ne_eq]
    refine Frz.eq ?_ (by simp)
    rw [Pp.Cols, if_pos he]
  · obtain ⟨hg, ht⟩ := perr0 he
    have hg' := hg
    obtain ⟨g1, g2, g3, g4, g5, g6, g7, g8, g9, g10, g11, g12, g13⟩ := hg'
    have ht' := ht
    obtain ⟨t1, t2, t3, t4, t5, t6⟩ := ht'
    have hy0 := places_bd p.cl t.y t.h g13 ⟨t3, t4⟩ ⟨t5, t6⟩
    have hyl : 0 ≤ (p.heights t).lo := hy0.1
    have hyh : (p.heights t).hi ≤ p.he := Int.min_le_right _ _
    rw [orz1 hg]
    refine AWPC.of_vc ?_; simp only [zS, zU, vcC, lateX, ex, strp, cnd, binA, kseq, kblk, kret, klp, Abs.one, elems, cells, scalar, eqC, Nat.reduceBEq, Nat.reduceAdd, Nat.reduceSub, Nat.reduceLT, Nat.reduceLeDiff, Nat.reduceMul, Nat.reduceEqDiff, cond_true, cond_false, if_true, if_false, reduceIte, implies_true, forall_const, ne_eq]
    refine AWPC.of_vc ?_; simp only [zS, zU, vcC, lateX, ex, strp, cnd, binA, kseq, kblk, kret, klp, Abs.one, elems, cells, scalar, eqC, Nat.reduceBEq, Nat.reduceAdd, Nat.reduceSub, Nat.reduceLT, Nat.reduceLeDiff, Nat.reduceMul, Nat.reduceEqDiff, cond_true, cond_false, if_true, if_false, reduceIte, implies_true, forall_const, ne_eq]
    refine AWPC.of_vc ?_; simp only [zS, zU, vcC, lateX, ex, strp, cnd, binA, kseq, kblk, kret, klp, Abs.one, elems, cells, scalar, eqC, Nat.reduceBEq, Nat.reduceAdd, Nat.reduceSub, Nat.reduceLT, Nat.reduceLeDiff, Nat.reduceMul, Nat.reduceEqDiff, cond_true, cond_false, if_true, if_false, reduceIte, implies_true, forall_const, ne_eq]
    ((repeat (refine And.intro (by (intros; first | omega | (simp_all (config := { decide := false }); done) | fail)) ?_)); refine .inl ⟨_, _, _, _, rfl, fun _hc => ⟨by simp, line_spec p t⟩, ?_⟩; refine owp_of_exs ?_; simp only [zS, zU, vcC, lateX, ex, strp, cnd, binA, kseq, kblk, kret, klp, Abs.one, elems, cells, scalar, eqC, Nat.reduceBEq, Nat.reduceAdd, Nat.reduceSub, Nat.reduceLT, Nat.reduceLeDiff, Nat.reduceMul, Nat.reduceEqDiff, cond_true, cond_false, if_true, if_false, reduceIte, implies_true, forall_const, ne_eq])
    refine AWPC.of_vc ?_; simp only [zS, zU, vcC, lateX, ex, strp, cnd, binA, kseq, kblk, kret, klp, Abs.one, elems, cells, scalar, eqC, Nat.reduceBEq, Nat.reduceAdd, Nat.reduceSub, Nat.reduceLT, Nat.reduceLeDiff, Nat.reduceMul, Nat.reduceEqDiff, cond_true, cond_false, if_true, if_false, reduceIte, implies_true, forall_const, ne_eq]
    refine AWPC.rng (fun k : Nat => [some [⟨23, 2, [[n 0, n 0]], none⟩], some [⟨85, 10, [p.cs], none⟩], some [⟨23, 2, [(p.outs t k).cs], none⟩]]) 3 (fun _ => rfl) (fun k x => x = k) (fun _ _ => False) (p.tr t) 0
      rfl rfl rfl (line_iter p t hg ht) (fun k args h => ?_) (fun k x args l ρ τ hk hx => ?_) (fun x τ hx => ?_) (fun _ _ _ h => h.elim)
    · have hk : k < p.cnt t := by have := (List.getElem?_eq_some_iff.1 h).1; simpa [Pp.tr] using this
      rw [tr_get p t hk] at h; injection h with h; subst h; rfl
    · subst hx
      have hk2 : x < p.cnt t := by have := (List.getElem?_eq_some_iff.1 hk).1; simpa [Pp.tr] using this
      rw [tr_get p t hk2] at hk; injection hk with hk; subst hk
      unfold Pp.row
      simp only [par]
      refine AWPC.of_vc ?_; simp only [zS, zU, vcC, lateX, ex, strp, cnd, binA, kseq, kblk, kret, klp, Abs.one, elems, cells, scalar, eqC, Nat.reduceBEq, Nat.reduceAdd, Nat.reduceSub, Nat.reduceLT, Nat.reduceLeDiff, Nat.reduceMul, Nat.reduceEqDiff, cond_true, cond_false, if_true, if_false, reduceIte, implies_true, forall_const, ne_eq]
      refine ⟨x, _, rfl, fun ρ' => ?_⟩
      refine AWPC.of_vc ?_; simp only [zS, zU, vcC, lateX, ex, strp, cnd, binA, kseq, kblk, kret, klp, Abs.one, elems, cells, scalar, eqC, Nat.reduceBEq, Nat.reduceAdd, Nat.reduceSub, Nat.reduceLT, Nat.reduceLeDiff, Nat.reduceMul, Nat.reduceEqDiff, cond_true, cond_false, if_true, if_false, reduceIte, implies_true, forall_const, ne_eq]
      refine AWPC.of_vc ?_; simp only [zS, zU, vcC, lateX, ex, strp, cnd, binA, kseq, kblk, kret, klp, Abs.one, elems, cells, scalar, eqC, Nat.reduceBEq, Nat.reduceAdd, Nat.reduceSub, Nat.reduceLT, Nat.reduceLeDiff, Nat.reduceMul, Nat.reduceEqDiff, cond_true, cond_false, if_true, if_false, reduceIte, implies_true, forall_const, ne_eq]
      rw [wr64 (p.co - 1) (by omega) (by omega)]
      refine AWPC.of_vc ?_; simp only [zS, zU, vcC, lateX, ex, strp, cnd, binA, kseq, kblk, kret, klp, Abs.one, elems, cells, scalar, eqC, Nat.reduceBEq, Nat.reduceAdd, Nat.reduceSub, Nat.reduceLT, Nat.reduceLeDiff, Nat.reduceMul, Nat.reduceEqDiff, cond_true, cond_false, if_true, if_false, reduceIte, implies_true, forall_const, ne_eq]
      refine ⟨fun hle => ?_, fun hgt => ?_⟩
      · refine AWPC.of_vc ?_; simp only [zS, zU, vcC, lateX, ex, strp, cnd, binA, kseq, kblk, kret, klp, Abs.one, elems, cells, scalar, eqC, Nat.reduceBEq, Nat.reduceAdd, Nat.reduceSub, Nat.reduceLT, Nat.reduceLeDiff, Nat.reduceMul, Nat.reduceEqDiff, cond_true, cond_false, if_true, if_false, reduceIte, implies_true, forall_const, ne_eq]
        exact ⟨x + 1, [], by simp only [Pp.outs]; rw [if_pos hle, List.append_nil]; rfl, rfl⟩
      · refine AWPC.of_vc ?_; simp only [zS, zU, vcC, lateX, ex, strp, cnd, binA, kseq, kblk, kret, klp, Abs.one, elems, cells, scalar, eqC, Nat.reduceBEq, Nat.reduceAdd, Nat.reduceSub, Nat.reduceLT, Nat.reduceLeDiff, Nat.reduceMul, Nat.reduceEqDiff, cond_true, cond_false, if_true, if_false, reduceIte, implies_true, forall_const, ne_eq]
        exact ⟨x + 1, [], by simp only [Pp.outs]; rw [if_neg hgt, List.append_nil]; rfl, rfl⟩
    · subst hx
      have hlen : (p.tr t).length = p.cnt t := by simp [Pp.tr]
      rw [hlen]
      simp only [zS, zU, vcC, lateX, ex, strp, cnd, binA, kseq, kblk, kret, klp, Abs.one, elems, cells, scalar, eqC, Nat.reduceBEq, Nat.reduceAdd, Nat.reduceSub, Nat.reduceLT, Nat.reduceLeDiff, Nat.reduceMul, Nat.reduceEqDiff, cond_true, cond_false, if_true, if_false, reduceIte, implies_true, forall_const, ne_eq]
      refine AWPC.of_vc ?_; simp only [zS, zU, vcC, lateX, ex, strp, cnd, binA, kseq, kblk, kret, klp, Abs.one, elems, cells, scalar, eqC, Nat.reduceBEq, Nat.reduceAdd, Nat.reduceSub, Nat.reduceLT, Nat.reduceLeDiff, Nat.reduceMul, Nat.reduceEqDiff, cond_true, cond_false, if_true, if_false, reduceIte, implies_true, forall_const, ne_eq]
      refine AWPC.of_vc ?_; simp only [zS, zU, vcC, lateX, ex, strp, cnd, binA, kseq, kblk, kret, klp, Abs.one, elems, cells, scalar, eqC, Nat.reduceBEq, Nat.reduceAdd, Nat.reduceSub, Nat.reduceLT, Nat.reduceLeDiff, Nat.reduceMul, Nat.reduceEqDiff, cond_true, cond_false, if_true, if_false, reduceIte, implies_true, forall_const, ne_eq]
      refine ⟨fun hneg => ?_, fun hpos => ?_⟩
      · refine AWPC.of_vc ?_; simp only [zS, zU, vcC, lateX, ex, strp, cnd, binA, kseq, kblk, kret, klp, Abs.one, elems, cells, scalar, eqC, Nat.reduceBEq, Nat.reduceAdd, Nat.reduceSub, Nat.reduceLT, Nat.reduceLeDiff, Nat.reduceMul, Nat.reduceEqDiff, cond_true, cond_false, if_true, if_false, reduceIte, implies_true, forall_const, ne_eq]
        refine AWPC.of_vc ?_; simp only [zS, zU, vcC, lateX, ex, strp, cnd, binA, kseq, kblk, kret, klp, Abs.one, elems, cells, scalar, eqC, Nat.reduceBEq, Nat.reduceAdd, Nat.reduceSub, Nat.reduceLT, Nat.reduceLeDiff, Nat.reduceMul, Nat.reduceEqDiff, cond_true, cond_false, if_true, if_false, reduceIte, implies_true, forall_const, ne_eq]
        refine Frz.eq ?_ (by simp)
        rw [Pp.Cols, if_neg (by simp [he]), if_pos hneg]
      · refine AWPC.of_vc ?_; simp only [zS, zU, vcC, lateX, ex, strp, cnd, binA, kseq, kblk, kret, klp, Abs.one, elems, cells, scalar, eqC, Nat.reduceBEq, Nat.reduceAdd, Nat.reduceSub, Nat.reduceLT, Nat.reduceLeDiff, Nat.reduceMul, Nat.reduceEqDiff, cond_true, cond_false, if_true, if_false, reduceIte, implies_true, forall_const, ne_eq]
        refine AWPC.of_vc ?_; simp only [zS, zU, vcC, lateX, ex, strp, cnd, binA, kseq, kblk, kret, klp, Abs.one, elems, cells, scalar, eqC, Nat.reduceBEq, Nat.reduceAdd, Nat.reduceSub, Nat.reduceLT, Nat.reduceLeDiff, Nat.reduceMul, Nat.reduceEqDiff, cond_true, cond_false, if_true, if_false, reduceIte, implies_true, forall_const, ne_eq]
        refine AWPC.of_vc ?_; simp only [zS, zU, vcC, lateX, ex, strp, cnd, binA, kseq, kblk, kret, klp, Abs.one, elems, cells, scalar, eqC, Nat.reduceBEq, Nat.reduceAdd, Nat.reduceSub, Nat.reduceLT, Nat.reduceLeDiff, Nat.reduceMul, Nat.reduceEqDiff, cond_true, cond_false, if_true, if_false, reduceIte, implies_true, forall_const, ne_eq]
        refine Frz.eq ?_ (by simp)
        rw [Pp.Cols, if_neg (by simp [he]), if_neg hpos]
end Go.Proofs.Ytgpdckmbojmlpaa

namespace Go.Proofs.Ytgpdckmbojmlpaa
open Go.Abs
set_option linter.unusedVariables false
set_option linter.unusedSimpArgs false
set_option maxHeartbeats 4000000
set_option maxRecDepth 100000
-- aneroid/aneroidlaw01.awake
def c18 : CF := ⟨111,
 (.seq (.ops [
 ⟨(some 0), .mv (.c (.bool false)), none⟩] [])
 (.seq (.ops [
 ⟨(some 16), .call (.f 68) [], none⟩,
 ⟨(some 1), .alloc 25 10 [.int .i64 0, .int .i64 0, .int .i64 0, .int .i64 0, .int .i64 0, .int .i64 0, .int .i64 0, .int .i64 0, .int .i64 0, .int .i64 0], none⟩,
 ⟨none, .store 10 (.t 1) (.t 16), none⟩] [1])
 (.seq (.ops [
 ⟨(some 18), .load (some 10) (.t 1), none⟩,
 ⟨(some 19), .call (.f 19) [(.t 18), (.c (.int .i64 500))], none⟩,
 ⟨(some 17), .mv (.t 19), none⟩,
 ⟨(some 20), .ext 0 (.t 17), none⟩,
 ⟨(some 21), .ext 1 (.t 17), none⟩,
 ⟨(some 2), .mv (.t 20), none⟩,
 ⟨(some 3), .mv (.t 21), none⟩] [1, 2, 3])
 (.seq (.ops [
 ⟨(some 23), .load (some 10) (.t 1), none⟩,
 ⟨(some 24), .call (.f 26) [(.t 23), (.c (.int .i64 9850))], none⟩,
 ⟨(some 22), .mv (.t 24), none⟩,
 ⟨(some 25), .ext 0 (.t 22), none⟩,
 ⟨(some 26), .ext 1 (.t 22), none⟩,
 ⟨(some 4), .alloc 23 2 [.int .i64 0, .int .i64 0], none⟩,
 ⟨none, .store 2 (.t 4) (.t 25), none⟩,
 ⟨(some 5), .mv (.t 26), none⟩] [1, 2, 3, 4, 5])
 (.seq (.ops [
 ⟨(some 28), .load (some 10) (.t 1), none⟩,
 ⟨(some 29), .build [.int .i64 0, .int .i64 0, .int .i64 0] [(0, 1, (.c (.int .i64 202))), (1, 1, (.c (.int .i64 300))), (2, 1, (.c (.int .i64 5)))], none⟩,
 ⟨(some 30), .call (.f 22) [(.t 28), (.t 29)], none⟩,
 ⟨(some 27), .mv (.t 30), none⟩,
 ⟨(some 31), .ext 0 (.t 27), none⟩,
 ⟨(some 32), .ext 1 (.t 27), none⟩,
 ⟨(some 6), .alloc 23 2 [.int .i64 0, .int .i64 0], none⟩,
 ⟨none, .store 2 (.t 6) (.t 31), none⟩,
 ⟨(some 7), .mv (.t 32), none⟩] [1, 2, 3, 4, 5, 6, 7])
 (.seq (.ops [
 ⟨(some 34), .load (some 10) (.t 1), none⟩,
 ⟨(some 35), .build [.int .i64 0, .int .i64 0, .int .i64 0] [(0, 1, (.c (.int .i64 202))), (1, 1, (.c (.int .i64 300))), (2, 1, (.c (.int .i64 5)))], none⟩,
 ⟨(some 36), .call (.f 21) [(.t 34), (.t 35), (.c (.int .i64 1))], none⟩,
 ⟨(some 33), .mv (.t 36), none⟩,
 ⟨(some 37), .ext 0 (.t 33), none⟩,
 ⟨(some 38), .ext 1 (.t 33), none⟩,
 ⟨(some 8), .mv (.t 37), none⟩,
 ⟨(some 9), .mv (.t 38), none⟩] [1, 2, 3, 4, 5, 6, 7, 8, 9])
 (.seq (.ops [
 ⟨(some 39), .load (some 10) (.t 1), none⟩,
 ⟨(some 10), .alloc 25 10 [.int .i64 0, .int .i64 0, .int .i64 0, .int .i64 0, .int .i64 0, .int .i64 0, .int .i64 0, .int .i64 0, .int .i64 0, .int .i64 0], none⟩,
 ⟨none, .store 10 (.t 10) (.t 39), none⟩] [1, 2, 3, 4, 5, 6, 7, 8, 9, 10])
 (.seq (.ops [
 ⟨(some 40), .faddr 6 (.t 10), none⟩,
 ⟨(some 41), .faddr 0 (.t 40), none⟩,
 ⟨none, .store 1 (.t 41) (.c (.int .i64 900)), none⟩] [1, 2, 3, 4, 5, 6, 7, 8, 9, 10])
 (.seq (.ops [
 ⟨(some 43), .load (some 10) (.t 10), none⟩,
 ⟨(some 44), .build [.int .i64 0, .int .i64 0, .int .i64 0] [(0, 1, (.c (.int .i64 950))), (1, 1, (.c (.int .i64 500))), (2, 1, (.c (.int .i64 2)))], none⟩,
 ⟨(some 45), .call (.f 31) [(.t 43), (.c (.int .i64 1000)), (.c (.int .i64 (-1))), (.t 44)], none⟩,
 ⟨(some 42), .mv (.t 45), none⟩,
 ⟨(some 46), .ext 0 (.t 42), none⟩,
 ⟨(some 47), .ext 1 (.t 42), none⟩,
 ⟨(some 11), .alloc 25 10 [.int .i64 0, .int .i64 0, .int .i64 0, .int .i64 0, .int .i64 0, .int .i64 0, .int .i64 0, .int .i64 0, .int .i64 0, .int .i64 0], none⟩,
 ⟨none, .store 10 (.t 11) (.t 46), none⟩,
 ⟨(some 12), .mv (.t 47), none⟩] [1, 2, 3, 4, 5, 6, 7, 8, 9, 11, 12])
 (.seq (.ops [
 ⟨(some 48), .load (some 10) (.t 1), none⟩,
 ⟨(some 13), .alloc 25 10 [.int .i64 0, .int .i64 0, .int .i64 0, .int .i64 0, .int .i64 0, .int .i64 0, .int .i64 0, .int .i64 0, .int .i64 0, .int .i64 0], none⟩,
 ⟨none, .store 10 (.t 13) (.t 48), none⟩] [2, 3, 4, 5, 6, 7, 8, 9, 11, 12, 13])
 (.seq (.ops [
 ⟨(some 49), .faddr 0 (.t 13), none⟩,
 ⟨none, .store 1 (.t 49) (.c (.int .i64 1)), none⟩] [2, 3, 4, 5, 6, 7, 8, 9, 11, 12, 13])
 (.seq (.ops [
 ⟨(some 50), .build [.int .i64 0, .int .i64 0] [(0, 1, (.c (.int .i64 900))), (1, 1, (.c (.int .i64 1100)))], none⟩,
 ⟨(some 51), .faddr 8 (.t 13), none⟩,
 ⟨none, .store 2 (.t 51) (.t 50), none⟩] [2, 3, 4, 5, 6, 7, 8, 9, 11, 12, 13])
 (.seq (.ops [
 ⟨(some 53), .load (some 10) (.t 13), none⟩,
 ⟨(some 54), .build [.int .i64 0, .int .i64 0, .int .i64 0] [(0, 1, (.c (.int .i64 124))), (1, 1, (.c (.int .i64 500)))], none⟩,
 ⟨(some 55), .call (.f 21) [(.t 53), (.t 54), (.c (.int .i64 1))], none⟩,
 ⟨(some 52), .mv (.t 55), none⟩,
 ⟨(some 56), .ext 0 (.t 52), none⟩,
 ⟨(some 57), .ext 1 (.t 52), none⟩,
 ⟨(some 14), .mv (.t 56), none⟩,
 ⟨(some 15), .mv (.t 57), none⟩] [2, 3, 4, 5, 6, 7, 8, 9, 11, 12, 14, 15])
 (.seq (.seq (.ops [
 ⟨(some 58), .mv (.t 3), none⟩,
 ⟨(some 59), .bin .neq (.t 58) (.c (.int .i64 0)), none⟩,
 ⟨(some 60), .mv (.t 59), none⟩,
 ⟨(some 61), .mv (.t 5), (some (60, false))⟩,
 ⟨(some 62), .bin .neq (.t 61) (.c (.int .i64 0)), (some (60, false))⟩,
 ⟨(some 63), .pick (.t 60) (.c (.bool true)) (.t 62), none⟩,
 ⟨(some 64), .mv (.t 63), none⟩,
 ⟨(some 65), .mv (.t 7), (some (64, false))⟩,
 ⟨(some 66), .bin .neq (.t 65) (.c (.int .i64 0)), (some (64, false))⟩,
 ⟨(some 67), .pick (.t 64) (.c (.bool true)) (.t 66), none⟩,
 ⟨(some 68), .mv (.t 67), none⟩,
 ⟨(some 69), .mv (.t 9), (some (68, false))⟩,
 ⟨(some 70), .bin .neq (.t 69) (.c (.int .i64 0)), (some (68, false))⟩,
 ⟨(some 71), .pick (.t 68) (.c (.bool true)) (.t 70), none⟩,
 ⟨(some 72), .mv (.t 71), none⟩,
 ⟨(some 73), .mv (.t 12), (some (72, false))⟩,
 ⟨(some 74), .bin .neq (.t 73) (.c (.int .i64 0)), (some (72, false))⟩,
 ⟨(some 75), .pick (.t 72) (.c (.bool true)) (.t 74), none⟩,
 ⟨(some 76), .mv (.t 75), none⟩,
 ⟨(some 77), .mv (.t 15), (some (76, false))⟩,
 ⟨(some 78), .bin .neq (.t 77) (.c (.int .i64 0)), (some (76, false))⟩,
 ⟨(some 79), .pick (.t 76) (.c (.bool true)) (.t 78), none⟩] [2, 4, 6, 8, 11, 14, 79])
 (.cond (.t 79) (.seq (.ops [
 ⟨(some 0), .mv (.c (.bool false)), none⟩] [0])
 .ret)
 .skip))
 (.seq (.ops [
 ⟨(some 80), .mv (.t 2), none⟩,
 ⟨(some 81), .bin .eql (.t 80) (.c (.int .i64 125)), none⟩,
 ⟨(some 82), .mv (.t 81), none⟩,
 ⟨(some 83), .load (some 2) (.t 4), (some (82, true))⟩,
 ⟨(some 84), .build [.int .i64 0, .int .i64 0] [(0, 1, (.c (.int .i64 250))), (1, 1, (.c (.int .i64 250)))], (some (82, true))⟩,
 ⟨(some 85), .eqs false [some .i64, some .i64] (.t 83) (.t 84), (some (82, true))⟩,
 ⟨(some 86), .pick (.t 82) (.t 85) (.c (.bool false)), none⟩,
 ⟨(some 87), .mv (.t 86), none⟩,
 ⟨(some 88), .load (some 2) (.t 6), (some (87, true))⟩,
 ⟨(some 89), .build [.int .i64 0, .int .i64 0] [(0, 1, (.c (.int .i64 0))), (1, 1, (.c (.int .i64 1)))], (some (87, true))⟩,
 ⟨(some 90), .eqs false [some .i64, some .i64] (.t 88) (.t 89), (some (87, true))⟩,
 ⟨(some 91), .pick (.t 87) (.t 90) (.c (.bool false)), none⟩,
 ⟨(some 92), .mv (.t 91), none⟩,
 ⟨(some 93), .mv (.t 8), (some (92, true))⟩,
 ⟨(some 94), .build [.int .i64 0, .int .i64 0] [(0, 1, (.c (.int .i64 9895))), (1, 1, (.c (.int .i64 9905)))], (some (92, true))⟩,
 ⟨(some 95), .bsl false 23 2 1 [.int .i64 0, .int .i64 0] [(0, 2, (.t 94))], (some (92, true))⟩,
 ⟨(some 96), .call (.f 33) [(.t 93), (.t 95)], (some (92, true))⟩,
 ⟨(some 97), .pick (.t 92) (.t 96) (.c (.bool false)), none⟩,
 ⟨(some 98), .mv (.t 97), none⟩,
 ⟨(some 99), .faddr 6 (.t 11), (some (98, true))⟩,
 ⟨(some 100), .load (some 2) (.t 99), (some (98, true))⟩,
 ⟨(some 101), .build [.int .i64 0, .int .i64 0] [(0, 1, (.c (.int .i64 947))), (1, 1, (.c (.int .i64 952)))], (some (98, true))⟩,
 ⟨(some 102), .eqs false [some .i64, some .i64] (.t 100) (.t 101), (some (98, true))⟩,
 ⟨(some 103), .pick (.t 98) (.t 102) (.c (.bool false)), none⟩,
 ⟨(some 104), .mv (.t 103), none⟩,
 ⟨(some 105), .mv (.t 14), (some (104, true))⟩,
 ⟨(some 106), .build [.int .i64 0, .int .i64 0] [(0, 1, (.c (.int .i64 10054))), (1, 1, (.c (.int .i64 10055)))], (some (104, true))⟩,
 ⟨(some 107), .build [.int .i64 0, .int .i64 0] [(0, 1, (.c (.int .i64 10145))), (1, 1, (.c (.int .i64 10155)))], (some (104, true))⟩,
 ⟨(some 108), .bsl false 23 2 2 [.int .i64 0, .int .i64 0, .int .i64 0, .int .i64 0] [(0, 2, (.t 106)), (2, 2, (.t 107))], (some (104, true))⟩,
 ⟨(some 109), .call (.f 33) [(.t 105), (.t 108)], (some (104, true))⟩,
 ⟨(some 110), .pick (.t 104) (.t 109) (.c (.bool false)), none⟩,
 ⟨(some 0), .mv (.t 110), none⟩] [0])
 .ret))))))))))))))),
 [.t 0]⟩

theorem k18 : chkF Try.prog Try.f18 c18 = true := by kernel_rfl

def wide : Pp := { sample with al := ⟨900, 1000⟩ }
def fine : Pp := { sample with pi := 1, cl := ⟨900, 1100⟩ }

theorem v1 : sample.arc 500 = 125 := by decide
theorem v2 : sample.Cols ⟨202, 300, 5⟩ = (⟨0, 1⟩, 0) := by decide
theorem v3 : sample.Means ⟨202, 300, 5⟩ 1 = ([⟨9895, 9905⟩], 0) := by decide
theorem v4 : (wide.Calib 1000 (-1) ⟨950, 500, 2⟩) = ({ sample with al := ⟨947, 952⟩ }, 0) := by decide
theorem v5 : fine.Means ⟨124, 500, 0⟩ 1 = ([⟨10054, 10055⟩, ⟨10145, 10155⟩], 0) := by decide
theorem a1 : Pure Try.prog 19 [.agg sample.cs, n 500] (.tup [n 125, n 0]) := by
  have h := Arc_spec sample 500
  rw [show (if sample.good ∧ (0 : Int) ≤ 500 ∧ 500 ≤ sample.he then sample.arc 500 else 0) = 125 by decide, show sample.yerr 500 = 0 by decide] at h
  exact h
theorem a2 : Pure Try.prog 26 [.agg sample.cs, n 9850] (.tup [.agg [n 250, n 250], n 0]) := by
  have h := Heights_spec sample 9850
  rw [if_pos (show sample.good ∧ sample.lo ≤ 9850 ∧ 9850 ≤ sample.hi by decide), if_pos (show sample.good by decide), if_pos (show sample.lo ≤ 9850 ∧ 9850 ≤ sample.hi by decide),
    show sample.least 9850 = 250 by decide, show min sample.he (sample.least (9850 + 1) - 1) = 250 by decide] at h
  exact h
theorem a3 : Pure Try.prog 22 [.agg sample.cs, .agg (Pt.mk 202 300 5).cs] (.tup [.agg [n 0, n 1], n 0]) := by
  have h := Columns_spec sample ⟨202, 300, 5⟩
  rw [v2] at h
  exact h
theorem a4 : Pure Try.prog 21 [.agg sample.cs, .agg (Pt.mk 202 300 5).cs, n 1] (.tup [spS [⟨9895, 9905⟩], n 0]) := by
  have h := Means_spec sample ⟨202, 300, 5⟩ 1
  rw [v3] at h
  exact h
theorem a5 : Pure Try.prog 31 [.agg wide.cs, n 1000, n (-1), .agg (Pt.mk 950 500 2).cs] (.tup [.agg (Pp.cs { sample with al := ⟨947, 952⟩ }), n 0]) := by
  have h := Calibrate_spec wide 1000 (-1) ⟨950, 500, 2⟩
  rw [v4] at h
  exact h
theorem a6 : Pure Try.prog 21 [.agg fine.cs, .agg (Pt.mk 124 500 0).cs, n 1] (.tup [spS [⟨10054, 10055⟩, ⟨10145, 10155⟩], n 0]) := by
  have h := Means_spec fine ⟨124, 500, 0⟩ 1
  rw [v5] at h
  exact h

theorem awake_spec : Pure Try.prog 18 [] (bl true) := by
  refine Pure.of_body Try.call18 Try.func18 k18 (Nat.le_of_ble_eq_true rfl) ?_
  unfold c18
  refine AWPC.of_vc ?_; simp only [zS, zU, vcC, lateX, ex, strp, cnd, binA, kseq, kblk, kret, klp, Abs.one, elems, cells, scalar, eqC, Nat.reduceBEq, Nat.reduceAdd, Nat.reduceSub, Nat.reduceLT, Nat.reduceLeDiff, Nat.reduceMul, Nat.reduceEqDiff, cond_true, cond_false, if_true, if_false, reduceIte, implies_true, forall_const, ne_eq]
  refine AWPC.of_vc ?_; simp only [zS, zU, vcC, lateX, ex, strp, cnd, binA, kseq, kblk, kret, klp, Abs.one, elems, cells, scalar, eqC, Nat.reduceBEq, Nat.reduceAdd, Nat.reduceSub, Nat.reduceLT, Nat.reduceLeDiff, Nat.reduceMul, Nat.reduceEqDiff, cond_true, cond_false, if_true, if_false, reduceIte, implies_true, forall_const, ne_eq]
  ((repeat (refine And.intro (by (intros; first | omega | (simp_all (config := { decide := false }); done) | fail)) ?_)); refine .inl ⟨_, _, _, _, rfl, fun _hc => ⟨by simp, sample_spec⟩, ?_⟩; refine owp_of_exs ?_; simp only [zS, zU, vcC, lateX, ex, strp, cnd, binA, kseq, kblk, kret, klp, Abs.one, elems, cells, scalar, eqC, Nat.reduceBEq, Nat.reduceAdd, Nat.reduceSub, Nat.reduceLT, Nat.reduceLeDiff, Nat.reduceMul, Nat.reduceEqDiff, cond_true, cond_false, if_true, if_false, reduceIte, implies_true, forall_const, ne_eq])
  refine AWPC.of_vc ?_; simp only [zS, zU, vcC, lateX, ex, strp, cnd, binA, kseq, kblk, kret, klp, Abs.one, elems, cells, scalar, eqC, Nat.reduceBEq, Nat.reduceAdd, Nat.reduceSub, Nat.reduceLT, Nat.reduceLeDiff, Nat.reduceMul, Nat.reduceEqDiff, cond_true, cond_false, if_true, if_false, reduceIte, implies_true, forall_const, ne_eq]
  ((repeat (refine And.intro (by (intros; first | omega | (simp_all (config := { decide := false }); done) | fail)) ?_)); refine .inl ⟨_, _, _, _, rfl, fun _hc => ⟨by simp, a1⟩, ?_⟩; refine owp_of_exs ?_; simp only [zS, zU, vcC, lateX, ex, strp, cnd, binA, kseq, kblk, kret, klp, Abs.one, elems, cells, scalar, eqC, Nat.reduceBEq, Nat.reduceAdd, Nat.reduceSub, Nat.reduceLT, Nat.reduceLeDiff, Nat.reduceMul, Nat.reduceEqDiff, cond_true, cond_false, if_true, if_false, reduceIte, implies_true, forall_const, ne_eq])
  refine AWPC.of_vc ?_; simp only [zS, zU, vcC, lateX, ex, strp, cnd, binA, kseq, kblk, kret, klp, Abs.one, elems, cells, scalar, eqC, Nat.reduceBEq, Nat.reduceAdd, Nat.reduceSub, Nat.reduceLT, Nat.reduceLeDiff, Nat.reduceMul, Nat.reduceEqDiff, cond_true, cond_false, if_true, if_false, reduceIte, implies_true, forall_const, ne_eq]
  ((repeat (refine And.intro (by (intros; first | omega | (simp_all (config := { decide := false }); done) | fail)) ?_)); refine .inl ⟨_, _, _, _, rfl, fun _hc => ⟨by simp, a2⟩, ?_⟩; refine owp_of_exs ?_; simp only [zS, zU, vcC, lateX, ex, strp, cnd, binA, kseq, kblk, kret, klp, Abs.one, elems, cells, scalar, eqC, Nat.reduceBEq, Nat.reduceAdd, Nat.reduceSub, Nat.reduceLT, Nat.reduceLeDiff, Nat.reduceMul, Nat.reduceEqDiff, cond_true, cond_false, if_true, if_false, reduceIte, implies_true, forall_const, ne_eq])
  refine AWPC.of_vc ?_; simp only [zS, zU, vcC, lateX, ex, strp, cnd, binA, kseq, kblk, kret, klp, Abs.one, elems, cells, scalar, eqC, Nat.reduceBEq, Nat.reduceAdd, Nat.reduceSub, Nat.reduceLT, Nat.reduceLeDiff, Nat.reduceMul, Nat.reduceEqDiff, cond_true, cond_false, if_true, if_false, reduceIte, implies_true, forall_const, ne_eq]
  ((repeat (refine And.intro (by (intros; first | omega | (simp_all (config := { decide := false }); done) | fail)) ?_)); refine .inl ⟨_, _, _, _, rfl, fun _hc => ⟨by simp, a3⟩, ?_⟩; refine owp_of_exs ?_; simp only [zS, zU, vcC, lateX, ex, strp, cnd, binA, kseq, kblk, kret, klp, Abs.one, elems, cells, scalar, eqC, Nat.reduceBEq, Nat.reduceAdd, Nat.reduceSub, Nat.reduceLT, Nat.reduceLeDiff, Nat.reduceMul, Nat.reduceEqDiff, cond_true, cond_false, if_true, if_false, reduceIte, implies_true, forall_const, ne_eq])
  refine AWPC.of_vc ?_; simp only [zS, zU, vcC, lateX, ex, strp, cnd, binA, kseq, kblk, kret, klp, Abs.one, elems, cells, scalar, eqC, Nat.reduceBEq, Nat.reduceAdd, Nat.reduceSub, Nat.reduceLT, Nat.reduceLeDiff, Nat.reduceMul, Nat.reduceEqDiff, cond_true, cond_false, if_true, if_false, reduceIte, implies_true, forall_const, ne_eq]
  ((repeat (refine And.intro (by (intros; first | omega | (simp_all (config := { decide := false }); done) | fail)) ?_)); refine .inl ⟨_, _, _, _, rfl, fun _hc => ⟨by simp, a4⟩, ?_⟩; refine owp_of_exs ?_; simp only [zS, zU, vcC, lateX, ex, strp, cnd, binA, kseq, kblk, kret, klp, Abs.one, elems, cells, scalar, eqC, Nat.reduceBEq, Nat.reduceAdd, Nat.reduceSub, Nat.reduceLT, Nat.reduceLeDiff, Nat.reduceMul, Nat.reduceEqDiff, cond_true, cond_false, if_true, if_false, reduceIte, implies_true, forall_const, ne_eq])
  refine AWPC.of_vc ?_; simp only [zS, zU, vcC, lateX, ex, strp, cnd, binA, kseq, kblk, kret, klp, Abs.one, elems, cells, scalar, eqC, Nat.reduceBEq, Nat.reduceAdd, Nat.reduceSub, Nat.reduceLT, Nat.reduceLeDiff, Nat.reduceMul, Nat.reduceEqDiff, cond_true, cond_false, if_true, if_false, reduceIte, implies_true, forall_const, ne_eq]
  refine AWPC.of_vc ?_; simp only [zS, zU, vcC, lateX, ex, strp, cnd, binA, kseq, kblk, kret, klp, Abs.one, elems, cells, scalar, eqC, Nat.reduceBEq, Nat.reduceAdd, Nat.reduceSub, Nat.reduceLT, Nat.reduceLeDiff, Nat.reduceMul, Nat.reduceEqDiff, cond_true, cond_false, if_true, if_false, reduceIte, implies_true, forall_const, ne_eq]
  refine AWPC.of_vc ?_; simp only [zS, zU, vcC, lateX, ex, strp, cnd, binA, kseq, kblk, kret, klp, Abs.one, elems, cells, scalar, eqC, Nat.reduceBEq, Nat.reduceAdd, Nat.reduceSub, Nat.reduceLT, Nat.reduceLeDiff, Nat.reduceMul, Nat.reduceEqDiff, cond_true, cond_false, if_true, if_false, reduceIte, implies_true, forall_const, ne_eq]
  ((repeat (refine And.intro (by (intros; first | omega | (simp_all (config := { decide := false }); done) | fail)) ?_)); refine .inl ⟨_, _, _, _, rfl, fun _hc => ⟨by simp, a5⟩, ?_⟩; refine owp_of_exs ?_; simp only [zS, zU, vcC, lateX, ex, strp, cnd, binA, kseq, kblk, kret, klp, Abs.one, elems, cells, scalar, eqC, Nat.reduceBEq, Nat.reduceAdd, Nat.reduceSub, Nat.reduceLT, Nat.reduceLeDiff, Nat.reduceMul, Nat.reduceEqDiff, cond_true, cond_false, if_true, if_false, reduceIte, implies_true, forall_const, ne_eq])
  refine AWPC.of_vc ?_; simp only [zS, zU, vcC, lateX, ex, strp, cnd, binA, kseq, kblk, kret, klp, Abs.one, elems, cells, scalar, eqC, Nat.reduceBEq, Nat.reduceAdd, Nat.reduceSub, Nat.reduceLT, Nat.reduceLeDiff, Nat.reduceMul, Nat.reduceEqDiff, cond_true, cond_false, if_true, if_false, reduceIte, implies_true, forall_const, ne_eq]
  refine AWPC.of_vc ?_; simp only [zS, zU, vcC, lateX, ex, strp, cnd, binA, kseq, kblk, kret, klp, Abs.one, elems, cells, scalar, eqC, Nat.reduceBEq, Nat.reduceAdd, Nat.reduceSub, Nat.reduceLT, Nat.reduceLeDiff, Nat.reduceMul, Nat.reduceEqDiff, cond_true, cond_false, if_true, if_false, reduceIte, implies_true, forall_const, ne_eq]
  refine AWPC.of_vc ?_; simp only [zS, zU, vcC, lateX, ex, strp, cnd, binA, kseq, kblk, kret, klp, Abs.one, elems, cells, scalar, eqC, Nat.reduceBEq, Nat.reduceAdd, Nat.reduceSub, Nat.reduceLT, Nat.reduceLeDiff, Nat.reduceMul, Nat.reduceEqDiff, cond_true, cond_false, if_true, if_false, reduceIte, implies_true, forall_const, ne_eq]
  refine AWPC.of_vc ?_; simp only [zS, zU, vcC, lateX, ex, strp, cnd, binA, kseq, kblk, kret, klp, Abs.one, elems, cells, scalar, eqC, Nat.reduceBEq, Nat.reduceAdd, Nat.reduceSub, Nat.reduceLT, Nat.reduceLeDiff, Nat.reduceMul, Nat.reduceEqDiff, cond_true, cond_false, if_true, if_false, reduceIte, implies_true, forall_const, ne_eq]
  ((repeat (refine And.intro (by (intros; first | omega | (simp_all (config := { decide := false }); done) | fail)) ?_)); refine .inl ⟨_, _, _, _, rfl, fun _hc => ⟨by simp, a6⟩, ?_⟩; refine owp_of_exs ?_; simp only [zS, zU, vcC, lateX, ex, strp, cnd, binA, kseq, kblk, kret, klp, Abs.one, elems, cells, scalar, eqC, Nat.reduceBEq, Nat.reduceAdd, Nat.reduceSub, Nat.reduceLT, Nat.reduceLeDiff, Nat.reduceMul, Nat.reduceEqDiff, cond_true, cond_false, if_true, if_false, reduceIte, implies_true, forall_const, ne_eq])
  refine AWPC.of_vc ?_; simp only [zS, zU, vcC, lateX, ex, strp, cnd, binA, kseq, kblk, kret, klp, Abs.one, elems, cells, scalar, eqC, Nat.reduceBEq, Nat.reduceAdd, Nat.reduceSub, Nat.reduceLT, Nat.reduceLeDiff, Nat.reduceMul, Nat.reduceEqDiff, cond_true, cond_false, if_true, if_false, reduceIte, implies_true, forall_const, ne_eq]
  refine AWPC.of_vc ?_; simp only [zS, zU, vcC, lateX, ex, strp, cnd, binA, kseq, kblk, kret, klp, Abs.one, elems, cells, scalar, eqC, Nat.reduceBEq, Nat.reduceAdd, Nat.reduceSub, Nat.reduceLT, Nat.reduceLeDiff, Nat.reduceMul, Nat.reduceEqDiff, cond_true, cond_false, if_true, if_false, reduceIte, implies_true, forall_const, ne_eq]
  refine ⟨fun h => by simp at h, fun _ => ?_⟩
  refine AWPC.of_vc ?_; simp only [zS, zU, vcC, lateX, ex, strp, cnd, binA, kseq, kblk, kret, klp, Abs.one, elems, cells, scalar, eqC, Nat.reduceBEq, Nat.reduceAdd, Nat.reduceSub, Nat.reduceLT, Nat.reduceLeDiff, Nat.reduceMul, Nat.reduceEqDiff, cond_true, cond_false, if_true, if_false, reduceIte, implies_true, forall_const, ne_eq]
  refine AWPC.of_vc ?_; simp only [zS, zU, vcC, lateX, ex, strp, cnd, binA, kseq, kblk, kret, klp, Abs.one, elems, cells, scalar, eqC, Nat.reduceBEq, Nat.reduceAdd, Nat.reduceSub, Nat.reduceLT, Nat.reduceLeDiff, Nat.reduceMul, Nat.reduceEqDiff, cond_true, cond_false, if_true, if_false, reduceIte, implies_true, forall_const, ne_eq]
  ((repeat (refine And.intro (by (intros; first | omega | (simp_all (config := { decide := false }); done) | fail)) ?_)); refine .inl ⟨_, _, _, _, rfl, fun _hc => ⟨by simp, sameSpans_spec [⟨9895, 9905⟩] [⟨9895, 9905⟩] (by decide) (by decide)⟩, ?_⟩; refine owp_of_exs ?_; simp only [zS, zU, vcC, lateX, ex, strp, cnd, binA, kseq, kblk, kret, klp, Abs.one, elems, cells, scalar, eqC, Nat.reduceBEq, Nat.reduceAdd, Nat.reduceSub, Nat.reduceLT, Nat.reduceLeDiff, Nat.reduceMul, Nat.reduceEqDiff, cond_true, cond_false, if_true, if_false, reduceIte, implies_true, forall_const, ne_eq])
  ((repeat (refine And.intro (by (intros; first | omega | (simp_all (config := { decide := false }); done) | fail)) ?_)); refine .inl ⟨_, _, _, _, rfl, fun _hc => ⟨by simp, sameSpans_spec [⟨10054, 10055⟩, ⟨10145, 10155⟩] [⟨10054, 10055⟩, ⟨10145, 10155⟩] (by decide) (by decide)⟩, ?_⟩; refine owp_of_exs ?_; simp only [zS, zU, vcC, lateX, ex, strp, cnd, binA, kseq, kblk, kret, klp, Abs.one, elems, cells, scalar, eqC, Nat.reduceBEq, Nat.reduceAdd, Nat.reduceSub, Nat.reduceLT, Nat.reduceLeDiff, Nat.reduceMul, Nat.reduceEqDiff, cond_true, cond_false, if_true, if_false, reduceIte, implies_true, forall_const, ne_eq])
  refine AWPC.of_vc ?_; simp only [zS, zU, vcC, lateX, ex, strp, cnd, binA, kseq, kblk, kret, klp, Abs.one, elems, cells, scalar, eqC, Nat.reduceBEq, Nat.reduceAdd, Nat.reduceSub, Nat.reduceLT, Nat.reduceLeDiff, Nat.reduceMul, Nat.reduceEqDiff, cond_true, cond_false, if_true, if_false, reduceIte, implies_true, forall_const, ne_eq]
  refine Frz.eq ?_ (by simp)
  rfl
end Go.Proofs.Ytgpdckmbojmlpaa

namespace Go.Proofs.Ytgpdckmbojmlpaa
open Go.Abs
set_option linter.unusedVariables false
set_option linter.unusedSimpArgs false
set_option maxHeartbeats 4000000
set_option maxRecDepth 100000
-- aneroid/aneroidlaw01.PaperArcs
def c3 : CF := ⟨91,
 (.seq (.ops [
 ⟨(some 2), .box false 25 10 (.t 0), none⟩,
 ⟨(some 4), .mv (.c (.bool false)), none⟩] [1, 2])
 (.seq (.ops [
 ⟨(some 14), .call (.f 18) [], none⟩,
 ⟨(some 5), .mv (.t 14), none⟩] [1, 2, 5])
 (.seq (.ops [
 ⟨(some 16), .load (some 10) (.t 2), none⟩,
 ⟨(some 17), .mv (.t 1), none⟩,
 ⟨(some 18), .call (.f 19) [(.t 16), (.t 17)], none⟩,
 ⟨(some 15), .mv (.t 18), none⟩,
 ⟨(some 19), .ext 0 (.t 15), none⟩,
 ⟨(some 20), .ext 1 (.t 15), none⟩,
 ⟨(some 6), .mv (.t 19), none⟩,
 ⟨(some 7), .mv (.t 20), none⟩] [1, 2, 5, 6, 7])
 (.seq (.seq (.ops [
 ⟨(some 21), .mv (.t 7), none⟩,
 ⟨(some 22), .bin .neq (.t 21) (.c (.int .i64 0)), none⟩] [1, 2, 5, 6, 22])
 (.cond (.t 22) (.seq (.ops [
 ⟨(some 23), .mv (.t 5), none⟩,
 ⟨(some 4), .mv (.t 23), none⟩] [4])
 .ret)
 .skip))
 (.seq (.ops [
 ⟨(some 25), .load (some 10) (.t 2), none⟩,
 ⟨(some 26), .faddr 1 (.t 2), none⟩,
 ⟨(some 27), .load none (.t 26), none⟩,
 ⟨(some 28), .mv (.t 1), none⟩,
 ⟨(some 29), .bin .sub (.t 27) (.t 28), none⟩,
 ⟨(some 30), .call (.f 19) [(.t 25), (.t 29)], none⟩,
 ⟨(some 24), .mv (.t 30), none⟩,
 ⟨(some 31), .ext 0 (.t 24), none⟩,
 ⟨(some 32), .ext 1 (.t 24), none⟩,
 ⟨(some 8), .mv (.t 31), none⟩,
 ⟨(some 9), .mv (.t 32), none⟩] [1, 2, 5, 6, 8, 9])
 (.seq (.ops [
 ⟨(some 34), .load (some 10) (.t 2), none⟩,
 ⟨(some 35), .faddr 1 (.t 2), none⟩,
 ⟨(some 36), .load none (.t 35), none⟩,
 ⟨(some 37), .bin .quo (.t 36) (.c (.int .i64 2)), none⟩,
 ⟨(some 38), .call (.f 19) [(.t 34), (.t 37)], none⟩,
 ⟨(some 33), .mv (.t 38), none⟩,
 ⟨(some 39), .ext 0 (.t 33), none⟩,
 ⟨(some 40), .ext 1 (.t 33), none⟩,
 ⟨(some 10), .mv (.t 39), none⟩,
 ⟨(some 11), .mv (.t 40), none⟩] [1, 2, 5, 6, 8, 9, 10, 11])
 (.seq (.seq (.ops [
 ⟨(some 41), .mv (.t 9), none⟩,
 ⟨(some 42), .bin .neq (.t 41) (.c (.int .i64 0)), none⟩,
 ⟨(some 43), .mv (.t 42), none⟩,
 ⟨(some 44), .mv (.t 11), (some (43, false))⟩,
 ⟨(some 45), .bin .neq (.t 44) (.c (.int .i64 0)), (some (43, false))⟩,
 ⟨(some 46), .pick (.t 43) (.c (.bool true)) (.t 45), none⟩,
 ⟨(some 47), .mv (.t 46), none⟩,
 ⟨(some 48), .mv (.t 6), (some (47, false))⟩,
 ⟨(some 49), .mv (.t 8), (some (47, false))⟩,
 ⟨(some 50), .bin .neq (.t 48) (.t 49), (some (47, false))⟩,
 ⟨(some 51), .pick (.t 47) (.c (.bool true)) (.t 50), none⟩,
 ⟨(some 52), .mv (.t 51), none⟩,
 ⟨(some 53), .mv (.t 6), (some (52, false))⟩,
 ⟨(some 54), .mv (.t 10), (some (52, false))⟩,
 ⟨(some 55), .bin .gtr (.t 53) (.t 54), (some (52, false))⟩,
 ⟨(some 56), .pick (.t 52) (.c (.bool true)) (.t 55), none⟩,
 ⟨(some 57), .mv (.t 56), none⟩,
 ⟨(some 58), .mv (.t 6), (some (57, false))⟩,
 ⟨(some 59), .bin .lss (.t 58) (.c (.int .i64 0)), (some (57, false))⟩,
 ⟨(some 60), .pick (.t 57) (.c (.bool true)) (.t 59), none⟩] [1, 2, 5, 6, 60])
 (.cond (.t 60) (.seq (.ops [
 ⟨(some 4), .mv (.c (.bool false)), none⟩] [4])
 .ret)
 .skip))
 (.seq (.ops [
 ⟨(some 62), .load (some 10) (.t 2), none⟩,
 ⟨(some 63), .mv (.t 1), none⟩,
 ⟨(some 64), .bin .add (.t 63) (.c (.int .i64 1)), none⟩,
 ⟨(some 65), .call (.f 19) [(.t 62), (.t 64)], none⟩,
 ⟨(some 61), .mv (.t 65), none⟩,
 ⟨(some 66), .ext 0 (.t 61), none⟩,
 ⟨(some 67), .ext 1 (.t 61), none⟩,
 ⟨(some 12), .mv (.t 66), none⟩,
 ⟨(some 13), .mv (.t 67), none⟩] [1, 2, 5, 6, 12, 13])
 (.seq (.ops [
 ⟨(some 68), .mv (.t 5), none⟩,
 ⟨(some 69), .mv (.t 68), none⟩,
 ⟨(some 70), .mv (.t 1), (some (69, true))⟩,
 ⟨(some 71), .faddr 1 (.t 2), (some (69, true))⟩,
 ⟨(some 72), .load none (.t 71), (some (69, true))⟩,
 ⟨(some 73), .bin .eql (.t 70) (.t 72), (some (69, true))⟩,
 ⟨(some 74), .mv (.t 73), (some (69, true))⟩,
 ⟨(some 75), .mv (.t 13), (some (74, false))⟩,
 ⟨(some 76), .bin .eql (.t 75) (.c (.int .i64 0)), (some (74, false))⟩,
 ⟨(some 77), .mv (.t 76), (some (74, false))⟩,
 ⟨(some 78), .mv (.t 12), (some (77, true))⟩,
 ⟨(some 79), .mv (.t 6), (some (77, true))⟩,
 ⟨(some 80), .bin .sub (.t 78) (.t 79), (some (77, true))⟩,
 ⟨(some 81), .bin .leq (.t 80) (.c (.int .i64 1)), (some (77, true))⟩,
 ⟨(some 82), .pick (.t 77) (.t 81) (.c (.bool false)), (some (74, false))⟩,
 ⟨(some 83), .mv (.t 82), (some (74, false))⟩,
 ⟨(some 84), .mv (.t 6), (some (83, true))⟩,
 ⟨(some 85), .mv (.t 12), (some (83, true))⟩,
 ⟨(some 86), .bin .sub (.t 84) (.t 85), (some (83, true))⟩,
 ⟨(some 87), .bin .leq (.t 86) (.c (.int .i64 1)), (some (83, true))⟩,
 ⟨(some 88), .pick (.t 83) (.t 87) (.c (.bool false)), (some (74, false))⟩,
 ⟨(some 89), .pick (.t 74) (.c (.bool true)) (.t 88), (some (69, true))⟩,
 ⟨(some 90), .pick (.t 69) (.t 89) (.c (.bool false)), none⟩,
 ⟨(some 4), .mv (.t 90), none⟩] [4])
 .ret))))))))),
 [.t 4]⟩

theorem k3 : chkF Try.prog Try.f3 c3 = true := by kernel_rfl

theorem arc_sym (p : Pp) (y : Int) : p.arc (p.he - y) = p.arc y := by
  unfold Pp.arc
  rw [show p.he - (p.he - y) = y by omega, Int.mul_comm]

theorem arc_ediv (p : Pp) (y : Int) (h0 : 0 ≤ y) (h1 : y ≤ p.he) : p.arc y = if p.ra = 0 then 0 else (y * (p.he - y)) / (2 * p.ra) := by
  unfold Pp.arc
  rw [Int.tdiv_eq_ediv_of_nonneg (Int.mul_nonneg h0 (by omega))]

theorem arc_mid (p : Pp) (y : Int) (hg : p.good) (h0 : 0 ≤ y) (h1 : y ≤ p.he) : p.arc y ≤ p.arc (p.he / 2) := by
  obtain ⟨g1, g2, g3, g4, g5, g6, g7, g8, g9, g10, g11, g12, g13⟩ := hg
  rw [arc_ediv p y h0 h1, arc_ediv p (p.he / 2) (by omega) (by omega)]
  split
  · omega
  · refine Int.ediv_le_ediv (by omega) ?_
    -- m (H - m) - y (H - y) = (m - y) (H - m - y)
    have key : p.he / 2 * (p.he - p.he / 2) - y * (p.he - y) = (p.he / 2 - y) * (p.he - p.he / 2 - y) := by
      simp only [Int.mul_sub, Int.sub_mul]
      have e1 : y * (p.he / 2) = p.he / 2 * y := Int.mul_comm _ _
      omega
    have hnn : 0 ≤ (p.he / 2 - y) * (p.he - p.he / 2 - y) := by
      by_cases h : y ≤ p.he / 2
      · exact Int.mul_nonneg (by omega) (by omega)
      · exact Int.mul_nonneg_of_nonpos_of_nonpos (by omega) (by omega)
    omega

theorem arc_next (p : Pp) (y : Int) (hg : p.good) (h0 : 0 ≤ y) (h1 : y + 1 ≤ p.he) : p.arc (y + 1) - p.arc y ≤ 1 ∧ p.arc y - p.arc (y + 1) ≤ 1 := by
  obtain ⟨g1, g2, g3, g4, g5, g6, g7, g8, g9, g10, g11, g12, g13⟩ := hg
  rw [arc_ediv p y h0 (by omega), arc_ediv p (y + 1) (by omega) h1]
  split
  · omega
  · have hr : p.he ≤ p.ra := by omega
    have e1 : (y + 1) * (p.he - (y + 1)) = y * (p.he - y) + (p.he - 2 * y - 1) := by
      simp only [Int.mul_sub, Int.add_mul, Int.mul_add]
      omega
    rw [e1]
    generalize y * (p.he - y) = A
    have hd : 0 < 2 * p.ra := by omega
    have f1 : (A + (p.he - 2 * y - 1)) / (2 * p.ra) ≤ (A + 1 * (2 * p.ra)) / (2 * p.ra) := Int.ediv_le_ediv hd (by omega)
    have f2 : A / (2 * p.ra) ≤ (A + (p.he - 2 * y - 1) + 1 * (2 * p.ra)) / (2 * p.ra) := Int.ediv_le_ediv hd (by omega)
    rw [Int.add_mul_ediv_right _ _ (by omega)] at f1 f2
    omega

end Go.Proofs.Ytgpdckmbojmlpaa

