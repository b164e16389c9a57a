import Derived.Test.YtgpdckmbojmlpaaATP2
import Derived.Test.YtgpdckmbojmlpaaRows
namespace Go.Proofs.Ytgpdckmbojmlpaa
open Go.Abs
set_option linter.unusedVariables false
set_option linter.unusedSimpArgs false
set_option maxHeartbeats 4000000
set_option maxRecDepth 100000
-- aneroid/paper.floor
def c83 : CF := ⟨16,
 (.seq (.ops [
 ⟨(some 4), .mv (.c (.int .i64 0)), none⟩] [0, 1])
 (.seq (.ops [
 ⟨(some 6), .mv (.t 0), none⟩,
 ⟨(some 7), .mv (.t 1), none⟩,
 ⟨(some 8), .bin .quo (.t 6) (.t 7), none⟩,
 ⟨(some 5), .mv (.t 8), none⟩] [0, 1, 5])
 (.seq (.seq (.ops [
 ⟨(some 9), .mv (.t 0), none⟩,
 ⟨(some 10), .mv (.t 1), none⟩,
 ⟨(some 11), .bin .rem (.t 9) (.t 10), none⟩,
 ⟨(some 12), .bin .lss (.t 11) (.c (.int .i64 0)), none⟩] [5, 12])
 (.cond (.t 12) (.ops [
 ⟨(some 13), .mv (.t 5), none⟩,
 ⟨(some 14), .bin .sub (.t 13) (.c (.int .i64 1)), none⟩,
 ⟨(some 5), .mv (.t 14), none⟩] [5])
 .skip))
 (.seq (.ops [
 ⟨(some 15), .mv (.t 5), none⟩,
 ⟨(some 4), .mv (.t 15), none⟩] [4])
 .ret)))),
 [.t 4]⟩
-- aneroid/paper.places
def c124 : CF := ⟨23,
 (.seq (.ops [
 ⟨(some 5), .box false 23 2 (.t 2), none⟩,
 ⟨(some 6), .alloc 23 2 [.int .i64 0, .int .i64 0], none⟩] [0, 1, 5, 6])
 (.seq (.draw [
 ⟨(some 7), .mv (.t 0), none⟩,
 ⟨(some 8), .mv (.t 1), none⟩,
 ⟨(some 9), .bin .sub (.t 7) (.t 8), none⟩,
 ⟨(some 10), .bin .mul (.t 9) (.c (.int .i64 1000)), none⟩,
 ⟨(some 11), .faddr 1 (.t 5), none⟩,
 ⟨(some 12), .load none (.t 11), none⟩,
 ⟨(some 13), .call (.f 83) [(.t 10), (.t 12)], none⟩,
 ⟨(some 14), .mnx true (.c (.int .i64 0)) (.t 13), none⟩,
 ⟨(some 15), .mv (.t 0), none⟩,
 ⟨(some 16), .mv (.t 1), none⟩,
 ⟨(some 17), .bin .add (.t 15) (.t 16), none⟩,
 ⟨(some 18), .bin .mul (.t 17) (.c (.int .i64 1000)), none⟩,
 ⟨(some 19), .faddr 0 (.t 5), none⟩,
 ⟨(some 20), .load none (.t 19), none⟩,
 ⟨(some 21), .call (.f 83) [(.t 18), (.t 20)], none⟩,
 ⟨(some 22), .build [.int .i64 0, .int .i64 0] [(0, 1, (.t 14)), (1, 1, (.t 21))], none⟩] [
 ⟨none, .store 2 (.t 6) (.t 22), none⟩] [6])
 .ret)),
 [.c 6 (some 2)]⟩
-- (aneroid/paper.form).along
def c88 : CF := ⟨13,
 (.seq (.ops [
 ⟨(some 2), .box false 85 10 (.t 0), none⟩,
 ⟨(some 3), .box false 32 3 (.t 1), none⟩,
 ⟨(some 4), .alloc 23 2 [.int .i64 0, .int .i64 0], none⟩] [2, 3, 4])
 (.seq (.ops [
 ⟨(some 5), .faddr 0 (.t 3), none⟩,
 ⟨(some 6), .load none (.t 5), none⟩,
 ⟨(some 7), .faddr 2 (.t 3), none⟩,
 ⟨(some 8), .load none (.t 7), none⟩,
 ⟨(some 9), .faddr 0 (.t 2), none⟩,
 ⟨(some 10), .faddr 6 (.t 9), none⟩,
 ⟨(some 11), .load (some 2) (.t 10), none⟩,
 ⟨(some 12), .call (.f 124) [(.t 6), (.t 8), (.t 11)], none⟩,
 ⟨none, .store 2 (.t 4) (.t 12), none⟩] [4])
 .ret)),
 [.c 4 (some 2)]⟩
-- (aneroid/paper.form).across
def c89 : CF := ⟨13,
 (.seq (.ops [
 ⟨(some 2), .box false 85 10 (.t 0), none⟩,
 ⟨(some 3), .box false 32 3 (.t 1), none⟩,
 ⟨(some 4), .alloc 23 2 [.int .i64 0, .int .i64 0], none⟩] [2, 3, 4])
 (.seq (.ops [
 ⟨(some 5), .faddr 1 (.t 3), none⟩,
 ⟨(some 6), .load none (.t 5), none⟩,
 ⟨(some 7), .faddr 2 (.t 3), none⟩,
 ⟨(some 8), .load none (.t 7), none⟩,
 ⟨(some 9), .faddr 0 (.t 2), none⟩,
 ⟨(some 10), .faddr 8 (.t 9), none⟩,
 ⟨(some 11), .load (some 2) (.t 10), none⟩,
 ⟨(some 12), .call (.f 124) [(.t 6), (.t 8), (.t 11)], none⟩,
 ⟨none, .store 2 (.t 4) (.t 12), none⟩] [4])
 .ret)),
 [.c 4 (some 2)]⟩
-- (aneroid/paper.form).heights
def c92 : CF := ⟨17,
 (.seq (.ops [
 ⟨(some 2), .box false 85 10 (.t 0), none⟩,
 ⟨(some 3), .box false 32 3 (.t 1), none⟩,
 ⟨(some 4), .alloc 23 2 [.int .i64 0, .int .i64 0], none⟩] [2, 3, 4])
 (.seq (.ops [
 ⟨(some 6), .load (some 10) (.t 2), none⟩,
 ⟨(some 7), .load (some 3) (.t 3), none⟩,
 ⟨(some 8), .call (.f 89) [(.t 6), (.t 7)], none⟩,
 ⟨(some 5), .alloc 23 2 [.int .i64 0, .int .i64 0], none⟩,
 ⟨none, .store 2 (.t 5) (.t 8), none⟩] [2, 4, 5])
 (.seq (.ops [
 ⟨(some 9), .faddr 1 (.t 5), none⟩,
 ⟨(some 10), .load none (.t 9), none⟩,
 ⟨(some 11), .faddr 0 (.t 2), none⟩,
 ⟨(some 12), .faddr 1 (.t 11), none⟩,
 ⟨(some 13), .load none (.t 12), none⟩,
 ⟨(some 14), .mnx false (.t 10) (.t 13), none⟩,
 ⟨(some 15), .faddr 1 (.t 5), none⟩,
 ⟨none, .store 1 (.t 15) (.t 14), none⟩] [4, 5])
 (.seq (.ops [
 ⟨(some 16), .load (some 2) (.t 5), none⟩,
 ⟨none, .store 2 (.t 4) (.t 16), none⟩] [4])
 .ret)))),
 [.c 4 (some 2)]⟩
-- aneroid/paper.calibrated
def c86 : CF := ⟨38,
 (.seq (.ops [
 ⟨(some 4), .box true 23 2 (.t 0), none⟩,
 ⟨(some 8), .alloc 23 2 [.int .i64 0, .int .i64 0], none⟩] [1, 2, 3, 4, 8])
 (.seq (.seq (.ops [
 ⟨(some 9), .mv (.t 1), none⟩,
 ⟨(some 10), .bin .lss (.t 9) (.c (.int .i64 0)), none⟩] [1, 2, 3, 4, 8, 10])
 (.cond (.t 10) (.seq (.ops [
 ⟨(some 11), .load (some 2) (.t 4), none⟩,
 ⟨none, .store 2 (.t 8) (.t 11), none⟩] [8])
 .ret)
 .skip))
 (.seq (.draw [
 ⟨(some 12), .faddr 0 (.t 4), none⟩,
 ⟨(some 13), .load none (.t 12), none⟩,
 ⟨(some 14), .mv (.t 2), none⟩,
 ⟨(some 15), .mv (.t 3), none⟩,
 ⟨(some 16), .bin .sub (.t 14) (.t 15), none⟩,
 ⟨(some 17), .bin .mul (.t 16) (.c (.int .i64 1000)), none⟩,
 ⟨(some 18), .mv (.t 1), none⟩,
 ⟨(some 19), .bin .add (.t 18) (.c (.int .i64 1)), none⟩,
 ⟨(some 20), .call (.f 83) [(.t 17), (.t 19)], none⟩,
 ⟨(some 21), .mnx true (.t 13) (.t 20), none⟩,
 ⟨(some 22), .faddr 0 (.t 4), none⟩] [
 ⟨none, .store 1 (.t 22) (.t 21), none⟩] [1, 2, 3, 4, 8])
 (.seq (.seq (.ops [
 ⟨(some 23), .mv (.t 1), none⟩,
 ⟨(some 24), .bin .gtr (.t 23) (.c (.int .i64 0)), none⟩] [1, 2, 3, 4, 8, 24])
 (.cond (.t 24) (.draw [
 ⟨(some 25), .faddr 1 (.t 4), none⟩,
 ⟨(some 26), .load none (.t 25), none⟩,
 ⟨(some 27), .mv (.t 2), none⟩,
 ⟨(some 28), .mv (.t 3), none⟩,
 ⟨(some 29), .bin .add (.t 27) (.t 28), none⟩,
 ⟨(some 30), .un .neg (.t 29), none⟩,
 ⟨(some 31), .bin .mul (.t 30) (.c (.int .i64 1000)), none⟩,
 ⟨(some 32), .mv (.t 1), none⟩,
 ⟨(some 33), .call (.f 83) [(.t 31), (.t 32)], none⟩,
 ⟨(some 34), .un .neg (.t 33), none⟩,
 ⟨(some 35), .mnx false (.t 26) (.t 34), none⟩,
 ⟨(some 36), .faddr 1 (.t 4), none⟩] [
 ⟨none, .store 1 (.t 36) (.t 35), none⟩] [4, 8])
 .skip))
 (.seq (.ops [
 ⟨(some 37), .load (some 2) (.t 4), none⟩,
 ⟨none, .store 2 (.t 8) (.t 37), none⟩] [8])
 .ret))))),
 [.c 8 (some 2)]⟩
-- (aneroid/paper.form).line
def c73 : CF := ⟨6,
 (.seq (.ops [
 ⟨(some 2), .box false 85 10 (.t 0), none⟩,
 ⟨(some 3), .box false 32 3 (.t 1), none⟩,
 ⟨(some 4), .mv (.c (.nilFunc)), none⟩] [2, 3])
 (.seq (.ops [
 ⟨(some 5), .mkfn (.func 121) [] [(.t 2), (.t 3)], none⟩,
 ⟨(some 4), .mv (.t 5), none⟩] [4])
 .ret)),
 [.t 4]⟩

theorem k83 : chkF Try.prog Try.f83 c83 = true := by kernel_rfl
theorem k124 : chkF Try.prog Try.f124 c124 = true := by kernel_rfl
theorem k88 : chkF Try.prog Try.f88 c88 = true := by kernel_rfl
theorem k89 : chkF Try.prog Try.f89 c89 = true := by kernel_rfl
theorem k92 : chkF Try.prog Try.f92 c92 = true := by kernel_rfl
theorem k86 : chkF Try.prog Try.f86 c86 = true := by kernel_rfl
theorem k73 : chkF Try.prog Try.f73 c73 = true := by kernel_rfl

theorem tdiv_fl {a b : Int} (hb : 0 < b) : (a.tmod b < 0 → a.tdiv b - 1 = a / b) ∧ (¬ a.tmod b < 0 → a.tdiv b = a / b) := by
  have h1 := Int.mul_tdiv_add_tmod a b
  have h2 := Int.mul_ediv_add_emod a b
  have h3 := Int.emod_nonneg a (show b ≠ 0 by omega)
  have h4 := Int.emod_lt_of_pos a hb
  have h5 : a.tmod b < b := Int.tmod_lt_of_pos a hb
  have h6 : -b < a.tmod b := by have := Int.lt_tmod_of_pos a hb; omega
  generalize a.tdiv b = q at *
  generalize a / b = e at *
  generalize a.tmod b = r at *
  generalize a % b = s at *
  -- b * q + r = b * e + s
  constructor
  · intro hr
    have h7 : b * (q - e) = s - r := by rw [Int.mul_sub]; omega
    have h8 : 0 < b * (q - e) := by omega
    have h9 : b * (q - e) < b * 2 := by omega
    have g1 := Int.pos_of_mul_pos_right h8 hb
    have g2 := Int.lt_of_mul_lt_mul_left h9 (by omega)
    omega
  · intro hr
    have h7 : b * (q - e) = s - r := by rw [Int.mul_sub]; omega
    have h8 : b * (-1) < b * (q - e) := by omega
    have h9 : b * (q - e) < b * 1 := by omega
    have g1 := Int.lt_of_mul_lt_mul_left h8 (by omega)
    have g2 := Int.lt_of_mul_lt_mul_left h9 (by omega)
    omega

theorem ediv_bd {a b A : Int} (h1 : -A ≤ a) (h2 : a ≤ A) (hA : 0 ≤ A) (h3 : 1 ≤ b) : -A ≤ a / b ∧ a / b ≤ A := by
  constructor
  · rw [Int.le_ediv_iff_mul_le (by omega)]
    have : -A * b ≤ -A * 1 := Int.mul_le_mul_of_nonpos_left (by omega) h3
    omega
  · have h4 : a / b ≤ A / b := Int.ediv_le_ediv (by omega) h2
    have h5 := Int.ediv_le_self b hA
    omega

theorem floor_spec (a b : Int) (hb : 1 ≤ b) (h1 : -1000000000000000 ≤ a) (h2 : a ≤ 1000000000000000) : Pure Try.prog 83 [n a, n b] (n (a / b)) := by
  refine Pure.of_body Try.call83 Try.func83 k83 (Nat.le_of_ble_eq_true rfl) ?_
  have hf := tdiv_fl (a := a) (show 0 < b by omega)
  have hd := ediv_bd h1 h2 (by omega) hb
  unfold c83
  refine AWPC.of_vc ?_; simp only [zS, vcC, exs, exd, pickV, alS, Al.ob, grd, ex, ov, gt, argE, strp, cnd, sideL, I.os, st, wrap, keep, binA, kseq, kblk, kret, klp, resL, res1, one, ocalls, obj, elems, cells, scalar, vs, pick1, fillA, splice, chop, eqC, Nat.reduceBEq, Nat.reduceAdd, Nat.reduceSub, Nat.reduceLT, Nat.reduceLeDiff, Nat.reduceMul, Nat.reduceEqDiff, cond_true, cond_false, if_true, if_false, reduceIte, implies_true, forall_const, ne_eq]
  refine AWPC.of_vc ?_; simp only [zS, vcC, exs, exd, pickV, alS, Al.ob, grd, ex, ov, gt, argE, strp, cnd, sideL, I.os, st, wrap, keep, binA, kseq, kblk, kret, klp, resL, res1, one, ocalls, obj, elems, cells, scalar, vs, pick1, fillA, splice, chop, eqC, Nat.reduceBEq, Nat.reduceAdd, Nat.reduceSub, Nat.reduceLT, Nat.reduceLeDiff, Nat.reduceMul, Nat.reduceEqDiff, cond_true, cond_false, if_true, if_false, reduceIte, implies_true, forall_const, ne_eq]
  refine ⟨by omega, ?_⟩
  refine AWPC.of_vc ?_; simp only [zS, vcC, exs, exd, pickV, alS, Al.ob, grd, ex, ov, gt, argE, strp, cnd, sideL, I.os, st, wrap, keep, binA, kseq, kblk, kret, klp, resL, res1, one, ocalls, obj, elems, cells, scalar, vs, pick1, fillA, splice, chop, eqC, Nat.reduceBEq, Nat.reduceAdd, Nat.reduceSub, Nat.reduceLT, Nat.reduceLeDiff, Nat.reduceMul, Nat.reduceEqDiff, cond_true, cond_false, if_true, if_false, reduceIte, implies_true, forall_const, ne_eq]
  refine ⟨by omega, ?_⟩
  refine AWPC.of_vc ?_; simp only [zS, vcC, exs, exd, pickV, alS, Al.ob, grd, ex, ov, gt, argE, strp, cnd, sideL, I.os, st, wrap, keep, binA, kseq, kblk, kret, klp, resL, res1, one, ocalls, obj, elems, cells, scalar, vs, pick1, fillA, splice, chop, eqC, Nat.reduceBEq, Nat.reduceAdd, Nat.reduceSub, Nat.reduceLT, Nat.reduceLeDiff, Nat.reduceMul, Nat.reduceEqDiff, cond_true, cond_false, if_true, if_false, reduceIte, implies_true, forall_const, ne_eq]
  refine ⟨fun h => ?_, fun h => ?_⟩
  · have := hf.1 h
    refine AWPC.of_vc ?_; simp only [zS, vcC, exs, exd, pickV, alS, Al.ob, grd, ex, ov, gt, argE, strp, cnd, sideL, I.os, st, wrap, keep, binA, kseq, kblk, kret, klp, resL, res1, one, ocalls, obj, elems, cells, scalar, vs, pick1, fillA, splice, chop, eqC, Nat.reduceBEq, Nat.reduceAdd, Nat.reduceSub, Nat.reduceLT, Nat.reduceLeDiff, Nat.reduceMul, Nat.reduceEqDiff, cond_true, cond_false, if_true, if_false, reduceIte, implies_true, forall_const, ne_eq]
    refine AWPC.of_vc ?_; simp only [zS, vcC, exs, exd, pickV, alS, Al.ob, grd, ex, ov, gt, argE, strp, cnd, sideL, I.os, st, wrap, keep, binA, kseq, kblk, kret, klp, resL, res1, one, ocalls, obj, elems, cells, scalar, vs, pick1, fillA, splice, chop, eqC, Nat.reduceBEq, Nat.reduceAdd, Nat.reduceSub, Nat.reduceLT, Nat.reduceLeDiff, Nat.reduceMul, Nat.reduceEqDiff, cond_true, cond_false, if_true, if_false, reduceIte, implies_true, forall_const, ne_eq]
    refine AWPC.of_vc ?_; simp only [zS, vcC, exs, exd, pickV, alS, Al.ob, grd, ex, ov, gt, argE, strp, cnd, sideL, I.os, st, wrap, keep, binA, kseq, kblk, kret, klp, resL, res1, one, ocalls, obj, elems, cells, scalar, vs, pick1, fillA, splice, chop, eqC, Nat.reduceBEq, Nat.reduceAdd, Nat.reduceSub, Nat.reduceLT, Nat.reduceLeDiff, Nat.reduceMul, Nat.reduceEqDiff, cond_true, cond_false, if_true, if_false, reduceIte, implies_true, forall_const, ne_eq]
    refine Frz.eq ?_ (by simp)
    rw [wr64 (a.tdiv b) (by omega) (by omega), this, wr64 _ (by omega) (by omega)]
  · have := hf.2 h
    refine AWPC.of_vc ?_; simp only [zS, vcC, exs, exd, pickV, alS, Al.ob, grd, ex, ov, gt, argE, strp, cnd, sideL, I.os, st, wrap, keep, binA, kseq, kblk, kret, klp, resL, res1, one, ocalls, obj, elems, cells, scalar, vs, pick1, fillA, splice, chop, eqC, Nat.reduceBEq, Nat.reduceAdd, Nat.reduceSub, Nat.reduceLT, Nat.reduceLeDiff, Nat.reduceMul, Nat.reduceEqDiff, cond_true, cond_false, if_true, if_false, reduceIte, implies_true, forall_const, ne_eq]
    refine AWPC.of_vc ?_; simp only [zS, vcC, exs, exd, pickV, alS, Al.ob, grd, ex, ov, gt, argE, strp, cnd, sideL, I.os, st, wrap, keep, binA, kseq, kblk, kret, klp, resL, res1, one, ocalls, obj, elems, cells, scalar, vs, pick1, fillA, splice, chop, eqC, Nat.reduceBEq, Nat.reduceAdd, Nat.reduceSub, Nat.reduceLT, Nat.reduceLeDiff, Nat.reduceMul, Nat.reduceEqDiff, cond_true, cond_false, if_true, if_false, reduceIte, implies_true, forall_const, ne_eq]
    refine AWPC.of_vc ?_; simp only [zS, vcC, exs, exd, pickV, alS, Al.ob, grd, ex, ov, gt, argE, strp, cnd, sideL, I.os, st, wrap, keep, binA, kseq, kblk, kret, klp, resL, res1, one, ocalls, obj, elems, cells, scalar, vs, pick1, fillA, splice, chop, eqC, Nat.reduceBEq, Nat.reduceAdd, Nat.reduceSub, Nat.reduceLT, Nat.reduceLeDiff, Nat.reduceMul, Nat.reduceEqDiff, cond_true, cond_false, if_true, if_false, reduceIte, implies_true, forall_const, ne_eq]
    refine Frz.eq ?_ (by simp)
    rw [this, wr64 _ (by omega) (by omega)]

def Pp.along (p : Pp) (t : Pt) : Sp := p.al.places t.x t.h
def Pp.across (p : Pp) (t : Pt) : Sp := p.cl.places t.y t.h
def Pp.heights (p : Pp) (t : Pt) : Sp := ⟨(p.across t).lo, min (p.across t).hi p.he⟩

theorem places_bd (s : Sp) (x h : Int) (hs : s.ok) (hx : 0 ≤ x ∧ x ≤ 400000) (hh : 0 ≤ h ∧ h ≤ 5000) : 0 ≤ (s.places x h).lo ∧ (s.places x h).lo ≤ 405000000 ∧ 0 ≤ (s.places x h).hi ∧ (s.places x h).hi ≤ 405000000 := by
  have h1 := ediv_bd (a := (x - h) * 1000) (b := s.hi) (A := 405000000) (by omega) (by omega) (by omega) (by omega)
  have h2 := ediv_bd (a := (x + h) * 1000) (b := s.lo) (A := 405000000) (by omega) (by omega) (by omega) (by omega)
  have h3 : 0 ≤ ((x + h) * 1000) / s.lo := Int.ediv_nonneg (by omega) (by omega)
  simp only [Sp.places]
  omega

theorem places_spec (x h : Int) (s : Sp) (hs : s.ok) (hx : 0 ≤ x ∧ x ≤ 400000) (hh : 0 ≤ h ∧ h ≤ 5000) : Pure Try.prog 124 [n x, n h, .agg s.cs] (.agg (s.places x h).cs) := by
  refine Pure.of_body Try.call124 Try.func124 k124 (Nat.le_of_ble_eq_true rfl) ?_
  unfold c124
  refine AWPC.of_vc ?_; simp only [zS, vcC, exs, exd, pickV, alS, Al.ob, grd, ex, ov, gt, argE, strp, cnd, sideL, I.os, st, wrap, keep, binA, kseq, kblk, kret, klp, resL, res1, one, ocalls, obj, elems, cells, scalar, vs, pick1, fillA, splice, chop, eqC, Nat.reduceBEq, Nat.reduceAdd, Nat.reduceSub, Nat.reduceLT, Nat.reduceLeDiff, Nat.reduceMul, Nat.reduceEqDiff, cond_true, cond_false, if_true, if_false, reduceIte, implies_true, forall_const, ne_eq]
  refine AWPC.of_vc ?_; simp only [zS, vcC, exs, exd, pickV, alS, Al.ob, grd, ex, ov, gt, argE, strp, cnd, sideL, I.os, st, wrap, keep, binA, kseq, kblk, kret, klp, resL, res1, one, ocalls, obj, elems, cells, scalar, vs, pick1, fillA, splice, chop, eqC, Nat.reduceBEq, Nat.reduceAdd, Nat.reduceSub, Nat.reduceLT, Nat.reduceLeDiff, Nat.reduceMul, Nat.reduceEqDiff, cond_true, cond_false, if_true, if_false, reduceIte, implies_true, forall_const, ne_eq]
  rw [wr64 (x - h) (by omega) (by omega), wr64 ((x - h) * 1000) (by omega) (by omega)]
  (refine ⟨_, _, _, _, rfl, fun _hc => ⟨by simp, floor_spec _ _ (by omega) (by omega) (by omega)⟩, ?_⟩; refine pre_of_exd ?_; simp only [zS, vcC, exs, exd, pickV, alS, Al.ob, grd, ex, ov, gt, argE, strp, cnd, sideL, I.os, st, wrap, keep, binA, kseq, kblk, kret, klp, resL, res1, one, ocalls, obj, elems, cells, scalar, vs, pick1, fillA, splice, chop, eqC, Nat.reduceBEq, Nat.reduceAdd, Nat.reduceSub, Nat.reduceLT, Nat.reduceLeDiff, Nat.reduceMul, Nat.reduceEqDiff, cond_true, cond_false, if_true, if_false, reduceIte, implies_true, forall_const, ne_eq])
  rw [wr64 (x + h) (by omega) (by omega), wr64 ((x + h) * 1000) (by omega) (by omega)]
  (refine ⟨_, _, _, _, rfl, fun _hc => ⟨by simp, floor_spec _ _ (by omega) (by omega) (by omega)⟩, ?_⟩; refine pre_of_exd ?_; simp only [zS, vcC, exs, exd, pickV, alS, Al.ob, grd, ex, ov, gt, argE, strp, cnd, sideL, I.os, st, wrap, keep, binA, kseq, kblk, kret, klp, resL, res1, one, ocalls, obj, elems, cells, scalar, vs, pick1, fillA, splice, chop, eqC, Nat.reduceBEq, Nat.reduceAdd, Nat.reduceSub, Nat.reduceLT, Nat.reduceLeDiff, Nat.reduceMul, Nat.reduceEqDiff, cond_true, cond_false, if_true, if_false, reduceIte, implies_true, forall_const, ne_eq])
  refine AWPC.of_vc ?_; simp only [zS, vcC, exs, exd, pickV, alS, Al.ob, grd, ex, ov, gt, argE, strp, cnd, sideL, I.os, st, wrap, keep, binA, kseq, kblk, kret, klp, resL, res1, one, ocalls, obj, elems, cells, scalar, vs, pick1, fillA, splice, chop, eqC, Nat.reduceBEq, Nat.reduceAdd, Nat.reduceSub, Nat.reduceLT, Nat.reduceLeDiff, Nat.reduceMul, Nat.reduceEqDiff, cond_true, cond_false, if_true, if_false, reduceIte, implies_true, forall_const, ne_eq]
  exact Frz.eq rfl (by simp)

theorem along_spec (p : Pp) (t : Pt) (hg : p.good) (ht : t.right) : Pure Try.prog 88 [.agg p.cs, .agg t.cs] (.agg (p.along t).cs) := by
  refine Pure.of_body Try.call88 Try.func88 k88 (Nat.le_of_ble_eq_true rfl) ?_
  unfold c88
  refine AWPC.of_vc ?_; simp only [zS, vcC, exs, exd, pickV, alS, Al.ob, grd, ex, ov, gt, argE, strp, cnd, sideL, I.os, st, wrap, keep, binA, kseq, kblk, kret, klp, resL, res1, one, ocalls, obj, elems, cells, scalar, vs, pick1, fillA, splice, chop, eqC, Nat.reduceBEq, Nat.reduceAdd, Nat.reduceSub, Nat.reduceLT, Nat.reduceLeDiff, Nat.reduceMul, Nat.reduceEqDiff, cond_true, cond_false, if_true, if_false, reduceIte, implies_true, forall_const, ne_eq]
  refine AWPC.of_vc ?_; simp only [zS, vcC, exs, exd, pickV, alS, Al.ob, grd, ex, ov, gt, argE, strp, cnd, sideL, I.os, st, wrap, keep, binA, kseq, kblk, kret, klp, resL, res1, one, ocalls, obj, elems, cells, scalar, vs, pick1, fillA, splice, chop, eqC, Nat.reduceBEq, Nat.reduceAdd, Nat.reduceSub, Nat.reduceLT, Nat.reduceLeDiff, Nat.reduceMul, Nat.reduceEqDiff, cond_true, cond_false, if_true, if_false, reduceIte, implies_true, forall_const, ne_eq]
  ((repeat (refine And.intro (by (intros; simp_all (config := { decide := false }); done)) ?_)); refine .inl ⟨_, _, _, _, rfl, fun _hc => ⟨by simp, places_spec t.x t.h p.al (by obtain ⟨g1, g2, g3, g4, g5, g6, g7, g8, g9, g10, g11, g12, g13⟩ := hg; exact g12) ⟨ht.1, ht.2.1⟩ ⟨ht.2.2.2.2.1, ht.2.2.2.2.2⟩⟩, ?_⟩; refine owp_of_exs ?_; simp only [zS, vcC, exs, exd, pickV, alS, Al.ob, grd, ex, ov, gt, argE, strp, cnd, sideL, I.os, st, wrap, keep, binA, kseq, kblk, kret, klp, resL, res1, one, ocalls, obj, elems, cells, scalar, vs, pick1, fillA, splice, chop, eqC, Nat.reduceBEq, Nat.reduceAdd, Nat.reduceSub, Nat.reduceLT, Nat.reduceLeDiff, Nat.reduceMul, Nat.reduceEqDiff, cond_true, cond_false, if_true, if_false, reduceIte, implies_true, forall_const, ne_eq])
  refine AWPC.of_vc ?_; simp only [zS, vcC, exs, exd, pickV, alS, Al.ob, grd, ex, ov, gt, argE, strp, cnd, sideL, I.os, st, wrap, keep, binA, kseq, kblk, kret, klp, resL, res1, one, ocalls, obj, elems, cells, scalar, vs, pick1, fillA, splice, chop, eqC, Nat.reduceBEq, Nat.reduceAdd, Nat.reduceSub, Nat.reduceLT, Nat.reduceLeDiff, Nat.reduceMul, Nat.reduceEqDiff, cond_true, cond_false, if_true, if_false, reduceIte, implies_true, forall_const, ne_eq]
  exact Frz.eq rfl (by simp)

theorem across_spec (p : Pp) (t : Pt) (hg : p.good) (ht : t.right) : Pure Try.prog 89 [.agg p.cs, .agg t.cs] (.agg (p.across t).cs) := by
  refine Pure.of_body Try.call89 Try.func89 k89 (Nat.le_of_ble_eq_true rfl) ?_
  unfold c89
  refine AWPC.of_vc ?_; simp only [zS, vcC, exs, exd, pickV, alS, Al.ob, grd, ex, ov, gt, argE, strp, cnd, sideL, I.os, st, wrap, keep, binA, kseq, kblk, kret, klp, resL, res1, one, ocalls, obj, elems, cells, scalar, vs, pick1, fillA, splice, chop, eqC, Nat.reduceBEq, Nat.reduceAdd, Nat.reduceSub, Nat.reduceLT, Nat.reduceLeDiff, Nat.reduceMul, Nat.reduceEqDiff, cond_true, cond_false, if_true, if_false, reduceIte, implies_true, forall_const, ne_eq]
  refine AWPC.of_vc ?_; simp only [zS, vcC, exs, exd, pickV, alS, Al.ob, grd, ex, ov, gt, argE, strp, cnd, sideL, I.os, st, wrap, keep, binA, kseq, kblk, kret, klp, resL, res1, one, ocalls, obj, elems, cells, scalar, vs, pick1, fillA, splice, chop, eqC, Nat.reduceBEq, Nat.reduceAdd, Nat.reduceSub, Nat.reduceLT, Nat.reduceLeDiff, Nat.reduceMul, Nat.reduceEqDiff, cond_true, cond_false, if_true, if_false, reduceIte, implies_true, forall_const, ne_eq]
  ((repeat (refine And.intro (by (intros; simp_all (config := { decide := false }); done)) ?_)); refine .inl ⟨_, _, _, _, rfl, fun _hc => ⟨by simp, places_spec t.y t.h p.cl (by obtain ⟨g1, g2, g3, g4, g5, g6, g7, g8, g9, g10, g11, g12, g13⟩ := hg; exact g13) ⟨ht.2.2.1, ht.2.2.2.1⟩ ⟨ht.2.2.2.2.1, ht.2.2.2.2.2⟩⟩, ?_⟩; refine owp_of_exs ?_; simp only [zS, vcC, exs, exd, pickV, alS, Al.ob, grd, ex, ov, gt, argE, strp, cnd, sideL, I.os, st, wrap, keep, binA, kseq, kblk, kret, klp, resL, res1, one, ocalls, obj, elems, cells, scalar, vs, pick1, fillA, splice, chop, eqC, Nat.reduceBEq, Nat.reduceAdd, Nat.reduceSub, Nat.reduceLT, Nat.reduceLeDiff, Nat.reduceMul, Nat.reduceEqDiff, cond_true, cond_false, if_true, if_false, reduceIte, implies_true, forall_const, ne_eq])
  refine AWPC.of_vc ?_; simp only [zS, vcC, exs, exd, pickV, alS, Al.ob, grd, ex, ov, gt, argE, strp, cnd, sideL, I.os, st, wrap, keep, binA, kseq, kblk, kret, klp, resL, res1, one, ocalls, obj, elems, cells, scalar, vs, pick1, fillA, splice, chop, eqC, Nat.reduceBEq, Nat.reduceAdd, Nat.reduceSub, Nat.reduceLT, Nat.reduceLeDiff, Nat.reduceMul, Nat.reduceEqDiff, cond_true, cond_false, if_true, if_false, reduceIte, implies_true, forall_const, ne_eq]
  exact Frz.eq rfl (by simp)

theorem heights_spec (p : Pp) (t : Pt) (hg : p.good) (ht : t.right) : Pure Try.prog 92 [.agg p.cs, .agg t.cs] (.agg (p.heights t).cs) := by
  refine Pure.of_body Try.call92 Try.func92 k92 (Nat.le_of_ble_eq_true rfl) ?_
  unfold c92
  refine AWPC.of_vc ?_; simp only [zS, vcC, exs, exd, pickV, alS, Al.ob, grd, ex, ov, gt, argE, strp, cnd, sideL, I.os, st, wrap, keep, binA, kseq, kblk, kret, klp, resL, res1, one, ocalls, obj, elems, cells, scalar, vs, pick1, fillA, splice, chop, eqC, Nat.reduceBEq, Nat.reduceAdd, Nat.reduceSub, Nat.reduceLT, Nat.reduceLeDiff, Nat.reduceMul, Nat.reduceEqDiff, cond_true, cond_false, if_true, if_false, reduceIte, implies_true, forall_const, ne_eq]
  refine AWPC.of_vc ?_; simp only [zS, vcC, exs, exd, pickV, alS, Al.ob, grd, ex, ov, gt, argE, strp, cnd, sideL, I.os, st, wrap, keep, binA, kseq, kblk, kret, klp, resL, res1, one, ocalls, obj, elems, cells, scalar, vs, pick1, fillA, splice, chop, eqC, Nat.reduceBEq, Nat.reduceAdd, Nat.reduceSub, Nat.reduceLT, Nat.reduceLeDiff, Nat.reduceMul, Nat.reduceEqDiff, cond_true, cond_false, if_true, if_false, reduceIte, implies_true, forall_const, ne_eq]
  ((repeat (refine And.intro (by (intros; simp_all (config := { decide := false }); done)) ?_)); refine .inl ⟨_, _, _, _, rfl, fun _hc => ⟨by simp, across_spec p t hg ht⟩, ?_⟩; refine owp_of_exs ?_; simp only [zS, vcC, exs, exd, pickV, alS, Al.ob, grd, ex, ov, gt, argE, strp, cnd, sideL, I.os, st, wrap, keep, binA, kseq, kblk, kret, klp, resL, res1, one, ocalls, obj, elems, cells, scalar, vs, pick1, fillA, splice, chop, eqC, Nat.reduceBEq, Nat.reduceAdd, Nat.reduceSub, Nat.reduceLT, Nat.reduceLeDiff, Nat.reduceMul, Nat.reduceEqDiff, cond_true, cond_false, if_true, if_false, reduceIte, implies_true, forall_const, ne_eq])
  refine AWPC.of_vc ?_; simp only [zS, vcC, exs, exd, pickV, alS, Al.ob, grd, ex, ov, gt, argE, strp, cnd, sideL, I.os, st, wrap, keep, binA, kseq, kblk, kret, klp, resL, res1, one, ocalls, obj, elems, cells, scalar, vs, pick1, fillA, splice, chop, eqC, Nat.reduceBEq, Nat.reduceAdd, Nat.reduceSub, Nat.reduceLT, Nat.reduceLeDiff, Nat.reduceMul, Nat.reduceEqDiff, cond_true, cond_false, if_true, if_false, reduceIte, implies_true, forall_const, ne_eq]
  refine AWPC.of_vc ?_; simp only [zS, vcC, exs, exd, pickV, alS, Al.ob, grd, ex, ov, gt, argE, strp, cnd, sideL, I.os, st, wrap, keep, binA, kseq, kblk, kret, klp, resL, res1, one, ocalls, obj, elems, cells, scalar, vs, pick1, fillA, splice, chop, eqC, Nat.reduceBEq, Nat.reduceAdd, Nat.reduceSub, Nat.reduceLT, Nat.reduceLeDiff, Nat.reduceMul, Nat.reduceEqDiff, cond_true, cond_false, if_true, if_false, reduceIte, implies_true, forall_const, ne_eq]
  refine AWPC.of_vc ?_; simp only [zS, vcC, exs, exd, pickV, alS, Al.ob, grd, ex, ov, gt, argE, strp, cnd, sideL, I.os, st, wrap, keep, binA, kseq, kblk, kret, klp, resL, res1, one, ocalls, obj, elems, cells, scalar, vs, pick1, fillA, splice, chop, eqC, Nat.reduceBEq, Nat.reduceAdd, Nat.reduceSub, Nat.reduceLT, Nat.reduceLeDiff, Nat.reduceMul, Nat.reduceEqDiff, cond_true, cond_false, if_true, if_false, reduceIte, implies_true, forall_const, ne_eq]
  exact Frz.eq rfl (by simp)


theorem calibrated_spec (s : Sp) (k x h : Int) (hk : k ≤ 800000) (hx : 0 ≤ x ∧ x ≤ 400000) (hh : 0 ≤ h ∧ h ≤ 5000) : Pure Try.prog 86 [.agg s.cs, n k, n x, n h] (.agg (s.known k x h).cs) := by
  refine Pure.of_body Try.call86 Try.func86 k86 (Nat.le_of_ble_eq_true rfl) ?_
  unfold c86
  refine AWPC.of_vc ?_; simp only [zS, vcC, exs, exd, pickV, alS, Al.ob, grd, ex, ov, gt, argE, strp, cnd, sideL, I.os, st, wrap, keep, binA, kseq, kblk, kret, klp, resL, res1, one, ocalls, obj, elems, cells, scalar, vs, pick1, fillA, splice, chop, eqC, Nat.reduceBEq, Nat.reduceAdd, Nat.reduceSub, Nat.reduceLT, Nat.reduceLeDiff, Nat.reduceMul, Nat.reduceEqDiff, cond_true, cond_false, if_true, if_false, reduceIte, implies_true, forall_const, ne_eq]
  refine AWPC.of_vc ?_; simp only [zS, vcC, exs, exd, pickV, alS, Al.ob, grd, ex, ov, gt, argE, strp, cnd, sideL, I.os, st, wrap, keep, binA, kseq, kblk, kret, klp, resL, res1, one, ocalls, obj, elems, cells, scalar, vs, pick1, fillA, splice, chop, eqC, Nat.reduceBEq, Nat.reduceAdd, Nat.reduceSub, Nat.reduceLT, Nat.reduceLeDiff, Nat.reduceMul, Nat.reduceEqDiff, cond_true, cond_false, if_true, if_false, reduceIte, implies_true, forall_const, ne_eq]
  refine AWPC.of_vc ?_; simp only [zS, vcC, exs, exd, pickV, alS, Al.ob, grd, ex, ov, gt, argE, strp, cnd, sideL, I.os, st, wrap, keep, binA, kseq, kblk, kret, klp, resL, res1, one, ocalls, obj, elems, cells, scalar, vs, pick1, fillA, splice, chop, eqC, Nat.reduceBEq, Nat.reduceAdd, Nat.reduceSub, Nat.reduceLT, Nat.reduceLeDiff, Nat.reduceMul, Nat.reduceEqDiff, cond_true, cond_false, if_true, if_false, reduceIte, implies_true, forall_const, ne_eq]
  refine ⟨fun hn => ?_, fun hn => ?_⟩
  · refine AWPC.of_vc ?_; simp only [zS, vcC, exs, exd, pickV, alS, Al.ob, grd, ex, ov, gt, argE, strp, cnd, sideL, I.os, st, wrap, keep, binA, kseq, kblk, kret, klp, resL, res1, one, ocalls, obj, elems, cells, scalar, vs, pick1, fillA, splice, chop, eqC, Nat.reduceBEq, Nat.reduceAdd, Nat.reduceSub, Nat.reduceLT, Nat.reduceLeDiff, Nat.reduceMul, Nat.reduceEqDiff, cond_true, cond_false, if_true, if_false, reduceIte, implies_true, forall_const, ne_eq]
    refine AWPC.of_vc ?_; simp only [zS, vcC, exs, exd, pickV, alS, Al.ob, grd, ex, ov, gt, argE, strp, cnd, sideL, I.os, st, wrap, keep, binA, kseq, kblk, kret, klp, resL, res1, one, ocalls, obj, elems, cells, scalar, vs, pick1, fillA, splice, chop, eqC, Nat.reduceBEq, Nat.reduceAdd, Nat.reduceSub, Nat.reduceLT, Nat.reduceLeDiff, Nat.reduceMul, Nat.reduceEqDiff, cond_true, cond_false, if_true, if_false, reduceIte, implies_true, forall_const, ne_eq]
    refine Frz.eq ?_ (by simp)
    rw [Sp.known, if_pos hn]
  · refine AWPC.of_vc ?_; simp only [zS, vcC, exs, exd, pickV, alS, Al.ob, grd, ex, ov, gt, argE, strp, cnd, sideL, I.os, st, wrap, keep, binA, kseq, kblk, kret, klp, resL, res1, one, ocalls, obj, elems, cells, scalar, vs, pick1, fillA, splice, chop, eqC, Nat.reduceBEq, Nat.reduceAdd, Nat.reduceSub, Nat.reduceLT, Nat.reduceLeDiff, Nat.reduceMul, Nat.reduceEqDiff, cond_true, cond_false, if_true, if_false, reduceIte, implies_true, forall_const, ne_eq]
    refine AWPC.of_vc ?_; simp only [zS, vcC, exs, exd, pickV, alS, Al.ob, grd, ex, ov, gt, argE, strp, cnd, sideL, I.os, st, wrap, keep, binA, kseq, kblk, kret, klp, resL, res1, one, ocalls, obj, elems, cells, scalar, vs, pick1, fillA, splice, chop, eqC, Nat.reduceBEq, Nat.reduceAdd, Nat.reduceSub, Nat.reduceLT, Nat.reduceLeDiff, Nat.reduceMul, Nat.reduceEqDiff, cond_true, cond_false, if_true, if_false, reduceIte, implies_true, forall_const, ne_eq]
    rw [wr64 (x - h) (by omega) (by omega), wr64 ((x - h) * 1000) (by omega) (by omega), wr64 (k + 1) (by omega) (by omega)]
    (refine ⟨_, _, _, _, rfl, fun _hc => ⟨by simp, floor_spec _ _ (by omega) (by omega) (by omega)⟩, ?_⟩; refine pre_of_exd ?_; simp only [zS, vcC, exs, exd, pickV, alS, Al.ob, grd, ex, ov, gt, argE, strp, cnd, sideL, I.os, st, wrap, keep, binA, kseq, kblk, kret, klp, resL, res1, one, ocalls, obj, elems, cells, scalar, vs, pick1, fillA, splice, chop, eqC, Nat.reduceBEq, Nat.reduceAdd, Nat.reduceSub, Nat.reduceLT, Nat.reduceLeDiff, Nat.reduceMul, Nat.reduceEqDiff, cond_true, cond_false, if_true, if_false, reduceIte, implies_true, forall_const, ne_eq])
    refine AWPC.of_vc ?_; simp only [zS, vcC, exs, exd, pickV, alS, Al.ob, grd, ex, ov, gt, argE, strp, cnd, sideL, I.os, st, wrap, keep, binA, kseq, kblk, kret, klp, resL, res1, one, ocalls, obj, elems, cells, scalar, vs, pick1, fillA, splice, chop, eqC, Nat.reduceBEq, Nat.reduceAdd, Nat.reduceSub, Nat.reduceLT, Nat.reduceLeDiff, Nat.reduceMul, Nat.reduceEqDiff, cond_true, cond_false, if_true, if_false, reduceIte, implies_true, forall_const, ne_eq]
    refine AWPC.of_vc ?_; simp only [zS, vcC, exs, exd, pickV, alS, Al.ob, grd, ex, ov, gt, argE, strp, cnd, sideL, I.os, st, wrap, keep, binA, kseq, kblk, kret, klp, resL, res1, one, ocalls, obj, elems, cells, scalar, vs, pick1, fillA, splice, chop, eqC, Nat.reduceBEq, Nat.reduceAdd, Nat.reduceSub, Nat.reduceLT, Nat.reduceLeDiff, Nat.reduceMul, Nat.reduceEqDiff, cond_true, cond_false, if_true, if_false, reduceIte, implies_true, forall_const, ne_eq]
    refine ⟨fun hp => ?_, fun hp => ?_⟩
    · refine AWPC.of_vc ?_; simp only [zS, vcC, exs, exd, pickV, alS, Al.ob, grd, ex, ov, gt, argE, strp, cnd, sideL, I.os, st, wrap, keep, binA, kseq, kblk, kret, klp, resL, res1, one, ocalls, obj, elems, cells, scalar, vs, pick1, fillA, splice, chop, eqC, Nat.reduceBEq, Nat.reduceAdd, Nat.reduceSub, Nat.reduceLT, Nat.reduceLeDiff, Nat.reduceMul, Nat.reduceEqDiff, cond_true, cond_false, if_true, if_false, reduceIte, implies_true, forall_const, ne_eq]
      rw [wr64 (x + h) (by omega) (by omega), wr64 (0 - (x + h)) (by omega) (by omega), wr64 ((0 - (x + h)) * 1000) (by omega) (by omega)]
      have hd := ediv_bd (a := (0 - (x + h)) * 1000) (b := k) (A := 405000000) (by omega) (by omega) (by omega) (by omega)
      (refine ⟨_, _, _, _, rfl, fun _hc => ⟨by simp, floor_spec _ _ (by omega) (by omega) (by omega)⟩, ?_⟩; refine pre_of_exd ?_; simp only [zS, vcC, exs, exd, pickV, alS, Al.ob, grd, ex, ov, gt, argE, strp, cnd, sideL, I.os, st, wrap, keep, binA, kseq, kblk, kret, klp, resL, res1, one, ocalls, obj, elems, cells, scalar, vs, pick1, fillA, splice, chop, eqC, Nat.reduceBEq, Nat.reduceAdd, Nat.reduceSub, Nat.reduceLT, Nat.reduceLeDiff, Nat.reduceMul, Nat.reduceEqDiff, cond_true, cond_false, if_true, if_false, reduceIte, implies_true, forall_const, ne_eq])
      rw [wr64 _ (by omega) (by omega)]
      refine AWPC.of_vc ?_; simp only [zS, vcC, exs, exd, pickV, alS, Al.ob, grd, ex, ov, gt, argE, strp, cnd, sideL, I.os, st, wrap, keep, binA, kseq, kblk, kret, klp, resL, res1, one, ocalls, obj, elems, cells, scalar, vs, pick1, fillA, splice, chop, eqC, Nat.reduceBEq, Nat.reduceAdd, Nat.reduceSub, Nat.reduceLT, Nat.reduceLeDiff, Nat.reduceMul, Nat.reduceEqDiff, cond_true, cond_false, if_true, if_false, reduceIte, implies_true, forall_const, ne_eq]
      refine AWPC.of_vc ?_; simp only [zS, vcC, exs, exd, pickV, alS, Al.ob, grd, ex, ov, gt, argE, strp, cnd, sideL, I.os, st, wrap, keep, binA, kseq, kblk, kret, klp, resL, res1, one, ocalls, obj, elems, cells, scalar, vs, pick1, fillA, splice, chop, eqC, Nat.reduceBEq, Nat.reduceAdd, Nat.reduceSub, Nat.reduceLT, Nat.reduceLeDiff, Nat.reduceMul, Nat.reduceEqDiff, cond_true, cond_false, if_true, if_false, reduceIte, implies_true, forall_const, ne_eq]
      refine Frz.eq ?_ (by simp)
      rw [Sp.known, if_neg hn, if_pos hp]
      simp
    · refine AWPC.of_vc ?_; simp only [zS, vcC, exs, exd, pickV, alS, Al.ob, grd, ex, ov, gt, argE, strp, cnd, sideL, I.os, st, wrap, keep, binA, kseq, kblk, kret, klp, resL, res1, one, ocalls, obj, elems, cells, scalar, vs, pick1, fillA, splice, chop, eqC, Nat.reduceBEq, Nat.reduceAdd, Nat.reduceSub, Nat.reduceLT, Nat.reduceLeDiff, Nat.reduceMul, Nat.reduceEqDiff, cond_true, cond_false, if_true, if_false, reduceIte, implies_true, forall_const, ne_eq]
      refine AWPC.of_vc ?_; simp only [zS, vcC, exs, exd, pickV, alS, Al.ob, grd, ex, ov, gt, argE, strp, cnd, sideL, I.os, st, wrap, keep, binA, kseq, kblk, kret, klp, resL, res1, one, ocalls, obj, elems, cells, scalar, vs, pick1, fillA, splice, chop, eqC, Nat.reduceBEq, Nat.reduceAdd, Nat.reduceSub, Nat.reduceLT, Nat.reduceLeDiff, Nat.reduceMul, Nat.reduceEqDiff, cond_true, cond_false, if_true, if_false, reduceIte, implies_true, forall_const, ne_eq]
      refine AWPC.of_vc ?_; simp only [zS, vcC, exs, exd, pickV, alS, Al.ob, grd, ex, ov, gt, argE, strp, cnd, sideL, I.os, st, wrap, keep, binA, kseq, kblk, kret, klp, resL, res1, one, ocalls, obj, elems, cells, scalar, vs, pick1, fillA, splice, chop, eqC, Nat.reduceBEq, Nat.reduceAdd, Nat.reduceSub, Nat.reduceLT, Nat.reduceLeDiff, Nat.reduceMul, Nat.reduceEqDiff, cond_true, cond_false, if_true, if_false, reduceIte, implies_true, forall_const, ne_eq]
      refine Frz.eq ?_ (by simp)
      rw [Sp.known, if_neg hn, if_neg hp]

theorem line_spec (p : Pp) (t : Pt) : Pure Try.prog 73 [.agg p.cs, .agg t.cs] (.fn (.func 121) [] [.iptr p.cs 0, .iptr t.cs 0]) := by
  refine Pure.of_body Try.call73 Try.func73 k73 (Nat.le_of_ble_eq_true rfl) ?_
  unfold c73
  refine AWPC.of_vc ?_; simp only [zS, vcC, exs, exd, pickV, alS, Al.ob, grd, ex, ov, gt, argE, strp, cnd, sideL, I.os, st, wrap, keep, binA, kseq, kblk, kret, klp, resL, res1, one, ocalls, obj, elems, cells, scalar, vs, pick1, fillA, splice, chop, eqC, Nat.reduceBEq, Nat.reduceAdd, Nat.reduceSub, Nat.reduceLT, Nat.reduceLeDiff, Nat.reduceMul, Nat.reduceEqDiff, cond_true, cond_false, if_true, if_false, reduceIte, implies_true, forall_const, ne_eq]
  refine AWPC.of_vc ?_; simp only [zS, vcC, exs, exd, pickV, alS, Al.ob, grd, ex, ov, gt, argE, strp, cnd, sideL, I.os, st, wrap, keep, binA, kseq, kblk, kret, klp, resL, res1, one, ocalls, obj, elems, cells, scalar, vs, pick1, fillA, splice, chop, eqC, Nat.reduceBEq, Nat.reduceAdd, Nat.reduceSub, Nat.reduceLT, Nat.reduceLeDiff, Nat.reduceMul, Nat.reduceEqDiff, cond_true, cond_false, if_true, if_false, reduceIte, implies_true, forall_const, ne_eq]
  refine AWPC.of_vc ?_; simp only [zS, vcC, exs, exd, pickV, alS, Al.ob, grd, ex, ov, gt, argE, strp, cnd, sideL, I.os, st, wrap, keep, binA, kseq, kblk, kret, klp, resL, res1, one, ocalls, obj, elems, cells, scalar, vs, pick1, fillA, splice, chop, eqC, Nat.reduceBEq, Nat.reduceAdd, Nat.reduceSub, Nat.reduceLT, Nat.reduceLeDiff, Nat.reduceMul, Nat.reduceEqDiff, cond_true, cond_false, if_true, if_false, reduceIte, implies_true, forall_const, ne_eq]
  exact Frz.eq rfl (by simp)
end Go.Proofs.Ytgpdckmbojmlpaa
