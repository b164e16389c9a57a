import Derived.Test.YtgpdckmbojmlpaaATP8
import Derived.Test.YtgpdckmbojmlpaaRows
namespace Go.Proofs.Ytgpdckmbojmlpaa
open Go.Abs
set_option linter.unusedVariables false
set_option linter.unusedSimpArgs false
set_option maxHeartbeats 4000000
set_option maxRecDepth 100000
-- aneroid/aneroidlaw01.PaperArcs
def c3 : CF := ⟨91,
 (.seq (.ops [
 ⟨(some 2), .box false 25 10 (.t 0), none⟩,
 ⟨(some 4), .mv (.c (.bool false)), none⟩] [1, 2])
 (.seq (.ops [
 ⟨(some 14), .call (.f 18) [], none⟩,
 ⟨(some 5), .mv (.t 14), none⟩] [1, 2, 5])
 (.seq (.ops [
 ⟨(some 16), .load (some 10) (.t 2), none⟩,
 ⟨(some 17), .mv (.t 1), none⟩,
 ⟨(some 18), .call (.f 19) [(.t 16), (.t 17)], none⟩,
 ⟨(some 15), .mv (.t 18), none⟩,
 ⟨(some 19), .ext 0 (.t 15), none⟩,
 ⟨(some 20), .ext 1 (.t 15), none⟩,
 ⟨(some 6), .mv (.t 19), none⟩,
 ⟨(some 7), .mv (.t 20), none⟩] [1, 2, 5, 6, 7])
 (.seq (.seq (.ops [
 ⟨(some 21), .mv (.t 7), none⟩,
 ⟨(some 22), .bin .neq (.t 21) (.c (.int .i64 0)), none⟩] [1, 2, 5, 6, 22])
 (.cond (.t 22) (.seq (.ops [
 ⟨(some 23), .mv (.t 5), none⟩,
 ⟨(some 4), .mv (.t 23), none⟩] [4])
 .ret)
 .skip))
 (.seq (.ops [
 ⟨(some 25), .load (some 10) (.t 2), none⟩,
 ⟨(some 26), .faddr 1 (.t 2), none⟩,
 ⟨(some 27), .load none (.t 26), none⟩,
 ⟨(some 28), .mv (.t 1), none⟩,
 ⟨(some 29), .bin .sub (.t 27) (.t 28), none⟩,
 ⟨(some 30), .call (.f 19) [(.t 25), (.t 29)], none⟩,
 ⟨(some 24), .mv (.t 30), none⟩,
 ⟨(some 31), .ext 0 (.t 24), none⟩,
 ⟨(some 32), .ext 1 (.t 24), none⟩,
 ⟨(some 8), .mv (.t 31), none⟩,
 ⟨(some 9), .mv (.t 32), none⟩] [1, 2, 5, 6, 8, 9])
 (.seq (.ops [
 ⟨(some 34), .load (some 10) (.t 2), none⟩,
 ⟨(some 35), .faddr 1 (.t 2), none⟩,
 ⟨(some 36), .load none (.t 35), none⟩,
 ⟨(some 37), .bin .quo (.t 36) (.c (.int .i64 2)), none⟩,
 ⟨(some 38), .call (.f 19) [(.t 34), (.t 37)], none⟩,
 ⟨(some 33), .mv (.t 38), none⟩,
 ⟨(some 39), .ext 0 (.t 33), none⟩,
 ⟨(some 40), .ext 1 (.t 33), none⟩,
 ⟨(some 10), .mv (.t 39), none⟩,
 ⟨(some 11), .mv (.t 40), none⟩] [1, 2, 5, 6, 8, 9, 10, 11])
 (.seq (.seq (.ops [
 ⟨(some 41), .mv (.t 9), none⟩,
 ⟨(some 42), .bin .neq (.t 41) (.c (.int .i64 0)), none⟩,
 ⟨(some 43), .mv (.t 42), none⟩,
 ⟨(some 44), .mv (.t 11), (some (43, false))⟩,
 ⟨(some 45), .bin .neq (.t 44) (.c (.int .i64 0)), (some (43, false))⟩,
 ⟨(some 46), .pick (.t 43) (.c (.bool true)) (.t 45), none⟩,
 ⟨(some 47), .mv (.t 46), none⟩,
 ⟨(some 48), .mv (.t 6), (some (47, false))⟩,
 ⟨(some 49), .mv (.t 8), (some (47, false))⟩,
 ⟨(some 50), .bin .neq (.t 48) (.t 49), (some (47, false))⟩,
 ⟨(some 51), .pick (.t 47) (.c (.bool true)) (.t 50), none⟩,
 ⟨(some 52), .mv (.t 51), none⟩,
 ⟨(some 53), .mv (.t 6), (some (52, false))⟩,
 ⟨(some 54), .mv (.t 10), (some (52, false))⟩,
 ⟨(some 55), .bin .gtr (.t 53) (.t 54), (some (52, false))⟩,
 ⟨(some 56), .pick (.t 52) (.c (.bool true)) (.t 55), none⟩,
 ⟨(some 57), .mv (.t 56), none⟩,
 ⟨(some 58), .mv (.t 6), (some (57, false))⟩,
 ⟨(some 59), .bin .lss (.t 58) (.c (.int .i64 0)), (some (57, false))⟩,
 ⟨(some 60), .pick (.t 57) (.c (.bool true)) (.t 59), none⟩] [1, 2, 5, 6, 60])
 (.cond (.t 60) (.seq (.ops [
 ⟨(some 4), .mv (.c (.bool false)), none⟩] [4])
 .ret)
 .skip))
 (.seq (.ops [
 ⟨(some 62), .load (some 10) (.t 2), none⟩,
 ⟨(some 63), .mv (.t 1), none⟩,
 ⟨(some 64), .bin .add (.t 63) (.c (.int .i64 1)), none⟩,
 ⟨(some 65), .call (.f 19) [(.t 62), (.t 64)], none⟩,
 ⟨(some 61), .mv (.t 65), none⟩,
 ⟨(some 66), .ext 0 (.t 61), none⟩,
 ⟨(some 67), .ext 1 (.t 61), none⟩,
 ⟨(some 12), .mv (.t 66), none⟩,
 ⟨(some 13), .mv (.t 67), none⟩] [1, 2, 5, 6, 12, 13])
 (.seq (.ops [
 ⟨(some 68), .mv (.t 5), none⟩,
 ⟨(some 69), .mv (.t 68), none⟩,
 ⟨(some 70), .mv (.t 1), (some (69, true))⟩,
 ⟨(some 71), .faddr 1 (.t 2), (some (69, true))⟩,
 ⟨(some 72), .load none (.t 71), (some (69, true))⟩,
 ⟨(some 73), .bin .eql (.t 70) (.t 72), (some (69, true))⟩,
 ⟨(some 74), .mv (.t 73), (some (69, true))⟩,
 ⟨(some 75), .mv (.t 13), (some (74, false))⟩,
 ⟨(some 76), .bin .eql (.t 75) (.c (.int .i64 0)), (some (74, false))⟩,
 ⟨(some 77), .mv (.t 76), (some (74, false))⟩,
 ⟨(some 78), .mv (.t 12), (some (77, true))⟩,
 ⟨(some 79), .mv (.t 6), (some (77, true))⟩,
 ⟨(some 80), .bin .sub (.t 78) (.t 79), (some (77, true))⟩,
 ⟨(some 81), .bin .leq (.t 80) (.c (.int .i64 1)), (some (77, true))⟩,
 ⟨(some 82), .pick (.t 77) (.t 81) (.c (.bool false)), (some (74, false))⟩,
 ⟨(some 83), .mv (.t 82), (some (74, false))⟩,
 ⟨(some 84), .mv (.t 6), (some (83, true))⟩,
 ⟨(some 85), .mv (.t 12), (some (83, true))⟩,
 ⟨(some 86), .bin .sub (.t 84) (.t 85), (some (83, true))⟩,
 ⟨(some 87), .bin .leq (.t 86) (.c (.int .i64 1)), (some (83, true))⟩,
 ⟨(some 88), .pick (.t 83) (.t 87) (.c (.bool false)), (some (74, false))⟩,
 ⟨(some 89), .pick (.t 74) (.c (.bool true)) (.t 88), (some (69, true))⟩,
 ⟨(some 90), .pick (.t 69) (.t 89) (.c (.bool false)), none⟩,
 ⟨(some 4), .mv (.t 90), none⟩] [4])
 .ret))))))))),
 [.t 4]⟩

theorem k3 : chkF Try.prog Try.f3 c3 = true := by kernel_rfl

def Pp.ya (p : Pp) (y : Int) : Int := if p.good ∧ 0 ≤ y ∧ y ≤ p.he then p.arc y else 0

theorem Arc_spec' (p : Pp) (y : Int) : Pure Try.prog 19 [.agg p.cs, n y] (.tup [n (p.ya y), n (p.yerr y)]) := Arc_spec p y

theorem yerr0 {p : Pp} {y : Int} : p.yerr y = 0 ↔ p.good ∧ 0 ≤ y ∧ y ≤ p.he := by
  unfold Pp.yerr
  by_cases h1 : p.good
  · rw [if_pos h1]
    by_cases h2 : 0 ≤ y ∧ y ≤ p.he
    · rw [if_pos h2]; exact ⟨fun _ => ⟨h1, h2⟩, fun _ => rfl⟩
    · rw [if_neg h2]; exact ⟨fun h => absurd h (by decide), fun h => absurd h.2 h2⟩
  · rw [if_neg h1]; exact ⟨fun h => absurd h (by decide), fun h => absurd h.1 h1⟩

theorem ya1 {p : Pp} {y : Int} (hg : p.good) (h0 : 0 ≤ y) (h1 : y ≤ p.he) : p.ya y = p.arc y := if_pos ⟨hg, h0, h1⟩

theorem arc_sym (p : Pp) (y : Int) : p.arc (p.he - y) = p.arc y := by
  unfold Pp.arc
  rw [show p.he - (p.he - y) = y by omega, Int.mul_comm]

theorem arc_ediv (p : Pp) (y : Int) (h0 : 0 ≤ y) (h1 : y ≤ p.he) : p.arc y = if p.ra = 0 then 0 else (y * (p.he - y)) / (2 * p.ra) := by
  unfold Pp.arc
  rw [Int.tdiv_eq_ediv_of_nonneg (Int.mul_nonneg h0 (by omega))]

theorem arc_mid (p : Pp) (y : Int) (hg : p.good) (h0 : 0 ≤ y) (h1 : y ≤ p.he) : p.arc y ≤ p.arc (p.he / 2) := by
  obtain ⟨g1, g2, g3, g4, g5, g6, g7, g8, g9, g10, g11, g12, g13⟩ := hg
  rw [arc_ediv p y h0 h1, arc_ediv p (p.he / 2) (by omega) (by omega)]
  split
  · omega
  · refine Int.ediv_le_ediv (by omega) ?_
    -- m (H - m) - y (H - y) = (m - y) (H - m - y)
    have key : p.he / 2 * (p.he - p.he / 2) - y * (p.he - y) = (p.he / 2 - y) * (p.he - p.he / 2 - y) := by
      simp only [Int.mul_sub, Int.sub_mul]
      have e1 : y * (p.he / 2) = p.he / 2 * y := Int.mul_comm _ _
      omega
    have hnn : 0 ≤ (p.he / 2 - y) * (p.he - p.he / 2 - y) := by
      by_cases h : y ≤ p.he / 2
      · exact Int.mul_nonneg (by omega) (by omega)
      · exact Int.mul_nonneg_of_nonpos_of_nonpos (by omega) (by omega)
    omega

theorem arc_next (p : Pp) (y : Int) (hg : p.good) (h0 : 0 ≤ y) (h1 : y + 1 ≤ p.he) : p.arc (y + 1) - p.arc y ≤ 1 ∧ p.arc y - p.arc (y + 1) ≤ 1 := by
  obtain ⟨g1, g2, g3, g4, g5, g6, g7, g8, g9, g10, g11, g12, g13⟩ := hg
  rw [arc_ediv p y h0 (by omega), arc_ediv p (y + 1) (by omega) h1]
  split
  · omega
  · have hr : p.he ≤ p.ra := by omega
    have e1 : (y + 1) * (p.he - (y + 1)) = y * (p.he - y) + (p.he - 2 * y - 1) := by
      simp only [Int.mul_sub, Int.add_mul, Int.mul_add]
      omega
    rw [e1]
    generalize y * (p.he - y) = A
    have hd : 0 < 2 * p.ra := by omega
    have f1 : (A + (p.he - 2 * y - 1)) / (2 * p.ra) ≤ (A + 1 * (2 * p.ra)) / (2 * p.ra) := Int.ediv_le_ediv hd (by omega)
    have f2 : A / (2 * p.ra) ≤ (A + (p.he - 2 * y - 1) + 1 * (2 * p.ra)) / (2 * p.ra) := Int.ediv_le_ediv hd (by omega)
    rw [Int.add_mul_ediv_right _ _ (by omega)] at f1 f2
    omega

theorem PaperArcs_spec (p : Pp) (y : Int) : Pure Try.prog 3 [.agg p.cs, n y] (bl true) := by
  refine Pure.of_body Try.call3 Try.func3 k3 (Nat.le_of_ble_eq_true rfl) ?_
  unfold c3
  refine AWPC.of_vc ?_; simp only [zS, vcC, exs, exd, pickV, alS, Al.ob, grd, ex, ov, gt, argE, strp, cnd, sideL, I.os, st, wrap, keep, binA, kseq, kblk, kret, klp, resL, res1, one, ocalls, obj, elems, cells, scalar, vs, pick1, fillA, splice, chop, eqC, Nat.reduceBEq, Nat.reduceAdd, Nat.reduceSub, Nat.reduceLT, Nat.reduceLeDiff, Nat.reduceMul, Nat.reduceEqDiff, cond_true, cond_false, if_true, if_false, reduceIte, implies_true, forall_const, ne_eq]
  refine AWPC.of_vc ?_; simp only [zS, vcC, exs, exd, pickV, alS, Al.ob, grd, ex, ov, gt, argE, strp, cnd, sideL, I.os, st, wrap, keep, binA, kseq, kblk, kret, klp, resL, res1, one, ocalls, obj, elems, cells, scalar, vs, pick1, fillA, splice, chop, eqC, Nat.reduceBEq, Nat.reduceAdd, Nat.reduceSub, Nat.reduceLT, Nat.reduceLeDiff, Nat.reduceMul, Nat.reduceEqDiff, cond_true, cond_false, if_true, if_false, reduceIte, implies_true, forall_const, ne_eq]
  ((repeat (refine And.intro (by (intros; simp_all (config := { decide := false }); done)) ?_)); refine .inl ⟨_, _, _, _, rfl, fun _hc => ⟨by simp, awake_spec⟩, ?_⟩; refine owp_of_exs ?_; simp only [zS, vcC, exs, exd, pickV, alS, Al.ob, grd, ex, ov, gt, argE, strp, cnd, sideL, I.os, st, wrap, keep, binA, kseq, kblk, kret, klp, resL, res1, one, ocalls, obj, elems, cells, scalar, vs, pick1, fillA, splice, chop, eqC, Nat.reduceBEq, Nat.reduceAdd, Nat.reduceSub, Nat.reduceLT, Nat.reduceLeDiff, Nat.reduceMul, Nat.reduceEqDiff, cond_true, cond_false, if_true, if_false, reduceIte, implies_true, forall_const, ne_eq])
  refine AWPC.of_vc ?_; simp only [zS, vcC, exs, exd, pickV, alS, Al.ob, grd, ex, ov, gt, argE, strp, cnd, sideL, I.os, st, wrap, keep, binA, kseq, kblk, kret, klp, resL, res1, one, ocalls, obj, elems, cells, scalar, vs, pick1, fillA, splice, chop, eqC, Nat.reduceBEq, Nat.reduceAdd, Nat.reduceSub, Nat.reduceLT, Nat.reduceLeDiff, Nat.reduceMul, Nat.reduceEqDiff, cond_true, cond_false, if_true, if_false, reduceIte, implies_true, forall_const, ne_eq]
  ((repeat (refine And.intro (by (intros; simp_all (config := { decide := false }); done)) ?_)); refine .inl ⟨_, _, _, _, rfl, fun _hc => ⟨by simp, Arc_spec' p y⟩, ?_⟩; refine owp_of_exs ?_; simp only [zS, vcC, exs, exd, pickV, alS, Al.ob, grd, ex, ov, gt, argE, strp, cnd, sideL, I.os, st, wrap, keep, binA, kseq, kblk, kret, klp, resL, res1, one, ocalls, obj, elems, cells, scalar, vs, pick1, fillA, splice, chop, eqC, Nat.reduceBEq, Nat.reduceAdd, Nat.reduceSub, Nat.reduceLT, Nat.reduceLeDiff, Nat.reduceMul, Nat.reduceEqDiff, cond_true, cond_false, if_true, if_false, reduceIte, implies_true, forall_const, ne_eq])
  refine AWPC.of_vc ?_; simp only [zS, vcC, exs, exd, pickV, alS, Al.ob, grd, ex, ov, gt, argE, strp, cnd, sideL, I.os, st, wrap, keep, binA, kseq, kblk, kret, klp, resL, res1, one, ocalls, obj, elems, cells, scalar, vs, pick1, fillA, splice, chop, eqC, Nat.reduceBEq, Nat.reduceAdd, Nat.reduceSub, Nat.reduceLT, Nat.reduceLeDiff, Nat.reduceMul, Nat.reduceEqDiff, cond_true, cond_false, if_true, if_false, reduceIte, implies_true, forall_const, ne_eq]
  refine AWPC.of_vc ?_; simp only [zS, vcC, exs, exd, pickV, alS, Al.ob, grd, ex, ov, gt, argE, strp, cnd, sideL, I.os, st, wrap, keep, binA, kseq, kblk, kret, klp, resL, res1, one, ocalls, obj, elems, cells, scalar, vs, pick1, fillA, splice, chop, eqC, Nat.reduceBEq, Nat.reduceAdd, Nat.reduceSub, Nat.reduceLT, Nat.reduceLeDiff, Nat.reduceMul, Nat.reduceEqDiff, cond_true, cond_false, if_true, if_false, reduceIte, implies_true, forall_const, ne_eq]
  refine ⟨fun he => ?_, fun he => ?_⟩
  · refine AWPC.of_vc ?_; simp only [zS, vcC, exs, exd, pickV, alS, Al.ob, grd, ex, ov, gt, argE, strp, cnd, sideL, I.os, st, wrap, keep, binA, kseq, kblk, kret, klp, resL, res1, one, ocalls, obj, elems, cells, scalar, vs, pick1, fillA, splice, chop, eqC, Nat.reduceBEq, Nat.reduceAdd, Nat.reduceSub, Nat.reduceLT, Nat.reduceLeDiff, Nat.reduceMul, Nat.reduceEqDiff, cond_true, cond_false, if_true, if_false, reduceIte, implies_true, forall_const, ne_eq]
    refine AWPC.of_vc ?_; simp only [zS, vcC, exs, exd, pickV, alS, Al.ob, grd, ex, ov, gt, argE, strp, cnd, sideL, I.os, st, wrap, keep, binA, kseq, kblk, kret, klp, resL, res1, one, ocalls, obj, elems, cells, scalar, vs, pick1, fillA, splice, chop, eqC, Nat.reduceBEq, Nat.reduceAdd, Nat.reduceSub, Nat.reduceLT, Nat.reduceLeDiff, Nat.reduceMul, Nat.reduceEqDiff, cond_true, cond_false, if_true, if_false, reduceIte, implies_true, forall_const, ne_eq]
    exact Frz.eq rfl (by simp)
  · obtain ⟨hg, h0, h1⟩ := yerr0.1 he
    have hg' := hg
    obtain ⟨g1, g2, g3, g4, g5, g6, g7, g8, g9, g10, g11, g12, g13⟩ := hg'
    have ab := arc_bd p y hg h0 h1
    have am := arc_mid p y hg h0 h1
    refine AWPC.of_vc ?_; simp only [zS, vcC, exs, exd, pickV, alS, Al.ob, grd, ex, ov, gt, argE, strp, cnd, sideL, I.os, st, wrap, keep, binA, kseq, kblk, kret, klp, resL, res1, one, ocalls, obj, elems, cells, scalar, vs, pick1, fillA, splice, chop, eqC, Nat.reduceBEq, Nat.reduceAdd, Nat.reduceSub, Nat.reduceLT, Nat.reduceLeDiff, Nat.reduceMul, Nat.reduceEqDiff, cond_true, cond_false, if_true, if_false, reduceIte, implies_true, forall_const, ne_eq]
    refine AWPC.of_vc ?_; simp only [zS, vcC, exs, exd, pickV, alS, Al.ob, grd, ex, ov, gt, argE, strp, cnd, sideL, I.os, st, wrap, keep, binA, kseq, kblk, kret, klp, resL, res1, one, ocalls, obj, elems, cells, scalar, vs, pick1, fillA, splice, chop, eqC, Nat.reduceBEq, Nat.reduceAdd, Nat.reduceSub, Nat.reduceLT, Nat.reduceLeDiff, Nat.reduceMul, Nat.reduceEqDiff, cond_true, cond_false, if_true, if_false, reduceIte, implies_true, forall_const, ne_eq]
    rw [wr64 (p.he - y) (by omega) (by omega)]
    ((repeat (refine And.intro (by (intros; simp_all (config := { decide := false }); done)) ?_)); refine .inl ⟨_, _, _, _, rfl, fun _hc => ⟨by simp, Arc_spec' p (p.he - y)⟩, ?_⟩; refine owp_of_exs ?_; simp only [zS, vcC, exs, exd, pickV, alS, Al.ob, grd, ex, ov, gt, argE, strp, cnd, sideL, I.os, st, wrap, keep, binA, kseq, kblk, kret, klp, resL, res1, one, ocalls, obj, elems, cells, scalar, vs, pick1, fillA, splice, chop, eqC, Nat.reduceBEq, Nat.reduceAdd, Nat.reduceSub, Nat.reduceLT, Nat.reduceLeDiff, Nat.reduceMul, Nat.reduceEqDiff, cond_true, cond_false, if_true, if_false, reduceIte, implies_true, forall_const, ne_eq])
    refine AWPC.of_vc ?_; simp only [zS, vcC, exs, exd, pickV, alS, Al.ob, grd, ex, ov, gt, argE, strp, cnd, sideL, I.os, st, wrap, keep, binA, kseq, kblk, kret, klp, resL, res1, one, ocalls, obj, elems, cells, scalar, vs, pick1, fillA, splice, chop, eqC, Nat.reduceBEq, Nat.reduceAdd, Nat.reduceSub, Nat.reduceLT, Nat.reduceLeDiff, Nat.reduceMul, Nat.reduceEqDiff, cond_true, cond_false, if_true, if_false, reduceIte, implies_true, forall_const, ne_eq]
    have hm : IntKind.i64.wrap (p.he.tdiv 2) = p.he / 2 := by
      rw [Int.tdiv_eq_ediv_of_nonneg (by omega)]
      exact wr64 _ (by omega) (by omega)
    rw [hm]
    refine ⟨by omega, ?_⟩
    ((repeat (refine And.intro (by (intros; simp_all (config := { decide := false }); done)) ?_)); refine .inl ⟨_, _, _, _, rfl, fun _hc => ⟨by simp, Arc_spec' p (p.he / 2)⟩, ?_⟩; refine owp_of_exs ?_; simp only [zS, vcC, exs, exd, pickV, alS, Al.ob, grd, ex, ov, gt, argE, strp, cnd, sideL, I.os, st, wrap, keep, binA, kseq, kblk, kret, klp, resL, res1, one, ocalls, obj, elems, cells, scalar, vs, pick1, fillA, splice, chop, eqC, Nat.reduceBEq, Nat.reduceAdd, Nat.reduceSub, Nat.reduceLT, Nat.reduceLeDiff, Nat.reduceMul, Nat.reduceEqDiff, cond_true, cond_false, if_true, if_false, reduceIte, implies_true, forall_const, ne_eq])
    have e1 : p.ya y = p.arc y := ya1 hg h0 h1
    have e2 : p.ya (p.he - y) = p.arc y := by rw [ya1 hg (by omega) (by omega), arc_sym]
    have e3 : p.ya (p.he / 2) = p.arc (p.he / 2) := ya1 hg (by omega) (by omega)
    have e4 : p.yerr (p.he - y) = 0 := yerr0.2 ⟨hg, by omega, by omega⟩
    have e5 : p.yerr (p.he / 2) = 0 := yerr0.2 ⟨hg, by omega, by omega⟩
    rw [e1, e2, e3, e4, e5]
    refine AWPC.of_vc ?_; simp only [zS, vcC, exs, exd, pickV, alS, Al.ob, grd, ex, ov, gt, argE, strp, cnd, sideL, I.os, st, wrap, keep, binA, kseq, kblk, kret, klp, resL, res1, one, ocalls, obj, elems, cells, scalar, vs, pick1, fillA, splice, chop, eqC, Nat.reduceBEq, Nat.reduceAdd, Nat.reduceSub, Nat.reduceLT, Nat.reduceLeDiff, Nat.reduceMul, Nat.reduceEqDiff, cond_true, cond_false, if_true, if_false, reduceIte, implies_true, forall_const, ne_eq]
    refine AWPC.of_vc ?_; simp only [zS, vcC, exs, exd, pickV, alS, Al.ob, grd, ex, ov, gt, argE, strp, cnd, sideL, I.os, st, wrap, keep, binA, kseq, kblk, kret, klp, resL, res1, one, ocalls, obj, elems, cells, scalar, vs, pick1, fillA, splice, chop, eqC, Nat.reduceBEq, Nat.reduceAdd, Nat.reduceSub, Nat.reduceLT, Nat.reduceLeDiff, Nat.reduceMul, Nat.reduceEqDiff, cond_true, cond_false, if_true, if_false, reduceIte, implies_true, forall_const, ne_eq]
    refine ⟨fun hb => ?_, fun hb => ?_⟩
    · exfalso; simp at hb; omega
    · refine AWPC.of_vc ?_; simp only [zS, vcC, exs, exd, pickV, alS, Al.ob, grd, ex, ov, gt, argE, strp, cnd, sideL, I.os, st, wrap, keep, binA, kseq, kblk, kret, klp, resL, res1, one, ocalls, obj, elems, cells, scalar, vs, pick1, fillA, splice, chop, eqC, Nat.reduceBEq, Nat.reduceAdd, Nat.reduceSub, Nat.reduceLT, Nat.reduceLeDiff, Nat.reduceMul, Nat.reduceEqDiff, cond_true, cond_false, if_true, if_false, reduceIte, implies_true, forall_const, ne_eq]
      refine AWPC.of_vc ?_; simp only [zS, vcC, exs, exd, pickV, alS, Al.ob, grd, ex, ov, gt, argE, strp, cnd, sideL, I.os, st, wrap, keep, binA, kseq, kblk, kret, klp, resL, res1, one, ocalls, obj, elems, cells, scalar, vs, pick1, fillA, splice, chop, eqC, Nat.reduceBEq, Nat.reduceAdd, Nat.reduceSub, Nat.reduceLT, Nat.reduceLeDiff, Nat.reduceMul, Nat.reduceEqDiff, cond_true, cond_false, if_true, if_false, reduceIte, implies_true, forall_const, ne_eq]
      rw [wr64 (y + 1) (by omega) (by omega)]
      ((repeat (refine And.intro (by (intros; simp_all (config := { decide := false }); done)) ?_)); refine .inl ⟨_, _, _, _, rfl, fun _hc => ⟨by simp, Arc_spec' p (y + 1)⟩, ?_⟩; refine owp_of_exs ?_; simp only [zS, vcC, exs, exd, pickV, alS, Al.ob, grd, ex, ov, gt, argE, strp, cnd, sideL, I.os, st, wrap, keep, binA, kseq, kblk, kret, klp, resL, res1, one, ocalls, obj, elems, cells, scalar, vs, pick1, fillA, splice, chop, eqC, Nat.reduceBEq, Nat.reduceAdd, Nat.reduceSub, Nat.reduceLT, Nat.reduceLeDiff, Nat.reduceMul, Nat.reduceEqDiff, cond_true, cond_false, if_true, if_false, reduceIte, implies_true, forall_const, ne_eq])
      refine AWPC.of_vc ?_; simp only [zS, vcC, exs, exd, pickV, alS, Al.ob, grd, ex, ov, gt, argE, strp, cnd, sideL, I.os, st, wrap, keep, binA, kseq, kblk, kret, klp, resL, res1, one, ocalls, obj, elems, cells, scalar, vs, pick1, fillA, splice, chop, eqC, Nat.reduceBEq, Nat.reduceAdd, Nat.reduceSub, Nat.reduceLT, Nat.reduceLeDiff, Nat.reduceMul, Nat.reduceEqDiff, cond_true, cond_false, if_true, if_false, reduceIte, implies_true, forall_const, ne_eq]
      refine ⟨fun a b => ⟨a, b⟩, fun a b => ⟨a, b⟩, ?_⟩
      refine AWPC.of_vc ?_; simp only [zS, vcC, exs, exd, pickV, alS, Al.ob, grd, ex, ov, gt, argE, strp, cnd, sideL, I.os, st, wrap, keep, binA, kseq, kblk, kret, klp, resL, res1, one, ocalls, obj, elems, cells, scalar, vs, pick1, fillA, splice, chop, eqC, Nat.reduceBEq, Nat.reduceAdd, Nat.reduceSub, Nat.reduceLT, Nat.reduceLeDiff, Nat.reduceMul, Nat.reduceEqDiff, cond_true, cond_false, if_true, if_false, reduceIte, implies_true, forall_const, ne_eq]
      refine Frz.eq ?_ (by simp)
      rw [decide_eq_true]
      by_cases hy : y = p.he
      · exact .inl hy
      · have hn := arc_next p y hg h0 (by omega)
        have ac := arc_bd p (y + 1) hg (by omega) (by omega)
        have e6 : p.ya (y + 1) = p.arc (y + 1) := ya1 hg (by omega) (by omega)
        have e7 : p.yerr (y + 1) = 0 := yerr0.2 ⟨hg, by omega, by omega⟩
        rw [e6, e7, wr64 _ (by omega) (by omega), wr64 _ (by omega) (by omega)]
        exact .inr ⟨⟨rfl, hn.1⟩, hn.2⟩
end Go.Proofs.Ytgpdckmbojmlpaa
