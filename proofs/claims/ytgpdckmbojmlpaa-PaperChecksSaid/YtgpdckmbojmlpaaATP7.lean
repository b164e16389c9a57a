import Derived.Test.YtgpdckmbojmlpaaATP6
import Derived.Test.YtgpdckmbojmlpaaRows
namespace Go.Proofs.Ytgpdckmbojmlpaa
open Go.Abs
set_option linter.unusedVariables false
set_option linter.unusedSimpArgs false
set_option maxHeartbeats 4000000
set_option maxRecDepth 100000
-- aneroid/paper.Columns
def c22 : CF := ⟨58,
 (.seq (.ops [
 ⟨(some 2), .box false 25 10 (.t 0), none⟩,
 ⟨(some 3), .box false 32 3 (.t 1), none⟩,
 ⟨(some 4), .alloc 23 2 [.int .i64 0, .int .i64 0], none⟩,
 ⟨(some 5), .mv (.c (.int .i64 0)), none⟩] [2, 3, 4, 10, 11, 12, 31, 32, 33, 34, 35, 36, 37, 38, 39, 40, 41, 42, 44, 45, 46, 47, 48, 49, 50, 51, 52])
 (.seq (.ops [
 ⟨(some 14), .load (some 10) (.t 2), none⟩,
 ⟨(some 15), .load (some 3) (.t 3), none⟩,
 ⟨(some 16), .bsl false 32 3 1 [.int .i64 0, .int .i64 0, .int .i64 0] [(0, 3, (.t 15))], none⟩,
 ⟨(some 17), .call (.f 71) [(.t 14), (.t 16)], none⟩,
 ⟨(some 13), .mv (.t 17), none⟩,
 ⟨(some 18), .ext 0 (.t 13), none⟩,
 ⟨(some 19), .ext 1 (.t 13), none⟩,
 ⟨(some 6), .alloc 85 10 [.int .i64 0, .int .i64 0, .int .i64 0, .int .i64 0, .int .i64 0, .int .i64 0, .int .i64 0, .int .i64 0, .int .i64 0, .int .i64 0], none⟩,
 ⟨none, .store 10 (.t 6) (.t 18), none⟩,
 ⟨(some 7), .mv (.t 19), none⟩] [2, 3, 4, 6, 7, 10, 11, 12, 31, 32, 33, 34, 35, 36, 37, 38, 39, 40, 41, 42, 44, 45, 46, 47, 48, 49, 50, 51, 52])
 (.seq (.seq (.ops [
 ⟨(some 20), .mv (.t 7), none⟩,
 ⟨(some 21), .bin .neq (.t 20) (.c (.int .i64 0)), none⟩] [2, 3, 4, 6, 7, 10, 11, 12, 21, 31, 32, 33, 34, 35, 36, 37, 38, 39, 40, 41, 42, 44, 45, 46, 47, 48, 49, 50, 51, 52])
 (.cond (.t 21) (.seq (.ops [
 ⟨(some 22), .build [.int .i64 0, .int .i64 0] [], none⟩,
 ⟨(some 23), .mv (.t 7), none⟩,
 ⟨none, .store 2 (.t 4) (.t 22), none⟩,
 ⟨(some 5), .mv (.t 23), none⟩] [4, 5])
 .ret)
 .skip))
 (.seq (.ops [
 ⟨(some 24), .faddr 5 (.t 2), none⟩,
 ⟨(some 25), .load none (.t 24), none⟩,
 ⟨(some 26), .build [.int .i64 0, .int .i64 0] [(0, 1, (.t 25)), (1, 1, (.c (.int .i64 (-1))))], none⟩,
 ⟨(some 8), .alloc 23 2 [.int .i64 0, .int .i64 0], none⟩,
 ⟨none, .store 2 (.t 8) (.t 26), none⟩] [2, 3, 4, 6, 8, 10, 11, 12, 31, 32, 33, 34, 35, 36, 37, 38, 39, 40, 41, 42, 44, 45, 46, 47, 48, 49, 50, 51, 52])
 (.seq (.seq (.ops [
 ⟨(some 27), .load (some 10) (.t 6), none⟩,
 ⟨(some 28), .load (some 3) (.t 3), none⟩,
 ⟨(some 29), .call (.f 73) [(.t 27), (.t 28)], none⟩] [2, 4, 8, 10, 11, 12, 29, 31, 32, 33, 34, 35, 36, 37, 38, 39, 40, 41, 42, 44, 45, 46, 47, 48, 49, 50, 51, 52])
 (.block 0 (.rng (.t 29) [30, 31] (.ops [
 ⟨(some 10), .alloc 23 2 [.int .i64 0, .int .i64 0], none⟩,
 ⟨none, .store 2 (.t 10) (.t 31), none⟩] [2, 4, 8, 10, 11, 12, 30, 31, 32, 33, 34, 35, 36, 37, 38, 39, 40, 41, 42, 44, 45, 46, 47, 48, 49, 50, 51, 52])
 (.block 1 (.seq (.draw [
 ⟨(some 32), .faddr 0 (.t 10), none⟩,
 ⟨(some 33), .load none (.t 32), none⟩,
 ⟨(some 34), .mnx true (.t 33) (.c (.int .i64 0)), none⟩,
 ⟨(some 35), .faddr 1 (.t 10), none⟩,
 ⟨(some 36), .load none (.t 35), none⟩,
 ⟨(some 37), .faddr 5 (.t 2), none⟩,
 ⟨(some 38), .load none (.t 37), none⟩,
 ⟨(some 39), .bin .sub (.t 38) (.c (.int .i64 1)), none⟩,
 ⟨(some 40), .mnx false (.t 36) (.t 39), none⟩,
 ⟨(some 11), .mv (.t 34), none⟩,
 ⟨(some 12), .mv (.t 40), none⟩] [
 ] [2, 4, 8, 10, 11, 12, 31, 32, 33, 34, 35, 36, 37, 38, 39, 40, 44, 45, 46, 47, 48, 49, 50, 51, 52])
 (.seq (.ops [
 ⟨(some 41), .mv (.t 11), none⟩,
 ⟨(some 42), .mv (.t 12), none⟩,
 ⟨(some 43), .bin .leq (.t 41) (.t 42), none⟩] [2, 4, 8, 10, 11, 12, 31, 32, 33, 34, 35, 36, 37, 38, 39, 40, 41, 42, 43, 44, 45, 46, 47, 48, 49, 50, 51, 52])
 (.cond (.t 43) (.ops [
 ⟨(some 44), .faddr 0 (.t 8), none⟩,
 ⟨(some 45), .load none (.t 44), none⟩,
 ⟨(some 46), .mv (.t 11), none⟩,
 ⟨(some 47), .mnx false (.t 45) (.t 46), none⟩,
 ⟨(some 48), .faddr 1 (.t 8), none⟩,
 ⟨(some 49), .load none (.t 48), none⟩,
 ⟨(some 50), .mv (.t 12), none⟩,
 ⟨(some 51), .mnx true (.t 49) (.t 50), none⟩,
 ⟨(some 52), .build [.int .i64 0, .int .i64 0] [(0, 1, (.t 47)), (1, 1, (.t 51))], none⟩,
 ⟨none, .store 2 (.t 8) (.t 52), none⟩] [2, 4, 8, 10, 11, 12, 31, 32, 33, 34, 35, 36, 37, 38, 39, 40, 41, 42, 44, 45, 46, 47, 48, 49, 50, 51, 52])
 .skip)))))))
 (.seq (.seq (.ops [
 ⟨(some 53), .faddr 1 (.t 8), none⟩,
 ⟨(some 54), .load none (.t 53), none⟩,
 ⟨(some 55), .bin .lss (.t 54) (.c (.int .i64 0)), none⟩] [4, 8, 55])
 (.cond (.t 55) (.seq (.ops [
 ⟨(some 56), .build [.int .i64 0, .int .i64 0] [], none⟩,
 ⟨none, .store 2 (.t 4) (.t 56), none⟩,
 ⟨(some 5), .mv (.c (.int .i64 3)), none⟩] [4, 5])
 .ret)
 .skip))
 (.seq (.ops [
 ⟨(some 57), .load (some 2) (.t 8), none⟩,
 ⟨none, .store 2 (.t 4) (.t 57), none⟩,
 ⟨(some 5), .mv (.c (.int .i64 0)), none⟩] [4, 5])
 .ret))))))),
 [.c 4 (some 2), .t 5]⟩

theorem k22 : chkF Try.prog Try.f22 c22 = true := by kernel_rfl

def Pp.outs (p : Pp) (t : Pt) : Nat → Sp
  | 0 => ⟨p.co, -1⟩
  | k + 1 =>
    let lo := max (((p.along t).lo - p.arc ((p.heights t).lo + k)) / p.pi) 0
    let hi := min (((p.along t).hi - p.arc ((p.heights t).lo + k)) / p.pi) (p.co - 1)
    if lo ≤ hi then ⟨min (p.outs t k).lo lo, max (p.outs t k).hi hi⟩ else p.outs t k

def Pp.Cols (p : Pp) (t : Pt) : Sp × Int :=
  if p.perr1 t ≠ 0 then (⟨0, 0⟩, p.perr1 t) else if (p.outs t (p.cnt t)).hi < 0 then (⟨0, 0⟩, 3) else (p.outs t (p.cnt t), 0)

theorem Columns_spec (p : Pp) (t : Pt) : Pure Try.prog 22 [.agg p.cs, .agg t.cs] (.tup [.agg (p.Cols t).1.cs, n (p.Cols t).2]) := by
  refine Pure.of_body Try.call22 Try.func22 k22 (Nat.le_of_ble_eq_true rfl) ?_
  unfold c22
  refine AWPC.of_vc ?_; simp only [zS, vcC, exs, exd, pickV, alS, Al.ob, grd, ex, ov, gt, argE, strp, cnd, sideL, I.os, st, wrap, keep, binA, kseq, kblk, kret, klp, resL, res1, one, ocalls, obj, elems, cells, scalar, vs, pick1, fillA, splice, chop, eqC, Nat.reduceBEq, Nat.reduceAdd, Nat.reduceSub, Nat.reduceLT, Nat.reduceLeDiff, Nat.reduceMul, Nat.reduceEqDiff, cond_true, cond_false, if_true, if_false, reduceIte, implies_true, forall_const, ne_eq]
  refine AWPC.of_vc ?_; simp only [zS, vcC, exs, exd, pickV, alS, Al.ob, grd, ex, ov, gt, argE, strp, cnd, sideL, I.os, st, wrap, keep, binA, kseq, kblk, kret, klp, resL, res1, one, ocalls, obj, elems, cells, scalar, vs, pick1, fillA, splice, chop, eqC, Nat.reduceBEq, Nat.reduceAdd, Nat.reduceSub, Nat.reduceLT, Nat.reduceLeDiff, Nat.reduceMul, Nat.reduceEqDiff, cond_true, cond_false, if_true, if_false, reduceIte, implies_true, forall_const, ne_eq]
  ((repeat (refine And.intro (by (intros; simp_all (config := { decide := false }); done)) ?_)); refine .inl ⟨_, _, _, _, rfl, fun _hc => ⟨by simp, read1_spec p t⟩, ?_⟩; refine owp_of_exs ?_; simp only [zS, vcC, exs, exd, pickV, alS, Al.ob, grd, ex, ov, gt, argE, strp, cnd, sideL, I.os, st, wrap, keep, binA, kseq, kblk, kret, klp, resL, res1, one, ocalls, obj, elems, cells, scalar, vs, pick1, fillA, splice, chop, eqC, Nat.reduceBEq, Nat.reduceAdd, Nat.reduceSub, Nat.reduceLT, Nat.reduceLeDiff, Nat.reduceMul, Nat.reduceEqDiff, cond_true, cond_false, if_true, if_false, reduceIte, implies_true, forall_const, ne_eq])
  refine AWPC.of_vc ?_; simp only [zS, vcC, exs, exd, pickV, alS, Al.ob, grd, ex, ov, gt, argE, strp, cnd, sideL, I.os, st, wrap, keep, binA, kseq, kblk, kret, klp, resL, res1, one, ocalls, obj, elems, cells, scalar, vs, pick1, fillA, splice, chop, eqC, Nat.reduceBEq, Nat.reduceAdd, Nat.reduceSub, Nat.reduceLT, Nat.reduceLeDiff, Nat.reduceMul, Nat.reduceEqDiff, cond_true, cond_false, if_true, if_false, reduceIte, implies_true, forall_const, ne_eq]
  refine AWPC.of_vc ?_; simp only [zS, vcC, exs, exd, pickV, alS, Al.ob, grd, ex, ov, gt, argE, strp, cnd, sideL, I.os, st, wrap, keep, binA, kseq, kblk, kret, klp, resL, res1, one, ocalls, obj, elems, cells, scalar, vs, pick1, fillA, splice, chop, eqC, Nat.reduceBEq, Nat.reduceAdd, Nat.reduceSub, Nat.reduceLT, Nat.reduceLeDiff, Nat.reduceMul, Nat.reduceEqDiff, cond_true, cond_false, if_true, if_false, reduceIte, implies_true, forall_const, ne_eq]
  refine ⟨fun he => ?_, fun he => ?_⟩
  · refine AWPC.of_vc ?_; simp only [zS, vcC, exs, exd, pickV, alS, Al.ob, grd, ex, ov, gt, argE, strp, cnd, sideL, I.os, st, wrap, keep, binA, kseq, kblk, kret, klp, resL, res1, one, ocalls, obj, elems, cells, scalar, vs, pick1, fillA, splice, chop, eqC, Nat.reduceBEq, Nat.reduceAdd, Nat.reduceSub, Nat.reduceLT, Nat.reduceLeDiff, Nat.reduceMul, Nat.reduceEqDiff, cond_true, cond_false, if_true, if_false, reduceIte, implies_true, forall_const, ne_eq]
    refine AWPC.of_vc ?_; simp only [zS, vcC, exs, exd, pickV, alS, Al.ob, grd, ex, ov, gt, argE, strp, cnd, sideL, I.os, st, wrap, keep, binA, kseq, kblk, kret, klp, resL, res1, one, ocalls, obj, elems, cells, scalar, vs, pick1, fillA, splice, chop, eqC, Nat.reduceBEq, Nat.reduceAdd, Nat.reduceSub, Nat.reduceLT, Nat.reduceLeDiff, Nat.reduceMul, Nat.reduceEqDiff, cond_true, cond_false, if_true, if_false, reduceIte, implies_true, forall_const, ne_eq]
    refine Frz.eq ?_ (by simp)
    rw [Pp.Cols, if_pos he]
  · obtain ⟨hg, ht⟩ := perr0 he
    have hg' := hg
    obtain ⟨g1, g2, g3, g4, g5, g6, g7, g8, g9, g10, g11, g12, g13⟩ := hg'
    have ht' := ht
    obtain ⟨t1, t2, t3, t4, t5, t6⟩ := ht'
    have hy0 := places_bd p.cl t.y t.h g13 ⟨t3, t4⟩ ⟨t5, t6⟩
    have hyl : 0 ≤ (p.heights t).lo := hy0.1
    have hyh : (p.heights t).hi ≤ p.he := Int.min_le_right _ _
    rw [orz1 hg]
    refine AWPC.of_vc ?_; simp only [zS, vcC, exs, exd, pickV, alS, Al.ob, grd, ex, ov, gt, argE, strp, cnd, sideL, I.os, st, wrap, keep, binA, kseq, kblk, kret, klp, resL, res1, one, ocalls, obj, elems, cells, scalar, vs, pick1, fillA, splice, chop, eqC, Nat.reduceBEq, Nat.reduceAdd, Nat.reduceSub, Nat.reduceLT, Nat.reduceLeDiff, Nat.reduceMul, Nat.reduceEqDiff, cond_true, cond_false, if_true, if_false, reduceIte, implies_true, forall_const, ne_eq]
    refine AWPC.of_vc ?_; simp only [zS, vcC, exs, exd, pickV, alS, Al.ob, grd, ex, ov, gt, argE, strp, cnd, sideL, I.os, st, wrap, keep, binA, kseq, kblk, kret, klp, resL, res1, one, ocalls, obj, elems, cells, scalar, vs, pick1, fillA, splice, chop, eqC, Nat.reduceBEq, Nat.reduceAdd, Nat.reduceSub, Nat.reduceLT, Nat.reduceLeDiff, Nat.reduceMul, Nat.reduceEqDiff, cond_true, cond_false, if_true, if_false, reduceIte, implies_true, forall_const, ne_eq]
    refine AWPC.of_vc ?_; simp only [zS, vcC, exs, exd, pickV, alS, Al.ob, grd, ex, ov, gt, argE, strp, cnd, sideL, I.os, st, wrap, keep, binA, kseq, kblk, kret, klp, resL, res1, one, ocalls, obj, elems, cells, scalar, vs, pick1, fillA, splice, chop, eqC, Nat.reduceBEq, Nat.reduceAdd, Nat.reduceSub, Nat.reduceLT, Nat.reduceLeDiff, Nat.reduceMul, Nat.reduceEqDiff, cond_true, cond_false, if_true, if_false, reduceIte, implies_true, forall_const, ne_eq]
    ((repeat (refine And.intro (by (intros; simp_all (config := { decide := false }); done)) ?_)); refine .inl ⟨_, _, _, _, rfl, fun _hc => ⟨by simp, line_spec p t⟩, ?_⟩; refine owp_of_exs ?_; simp only [zS, vcC, exs, exd, pickV, alS, Al.ob, grd, ex, ov, gt, argE, strp, cnd, sideL, I.os, st, wrap, keep, binA, kseq, kblk, kret, klp, resL, res1, one, ocalls, obj, elems, cells, scalar, vs, pick1, fillA, splice, chop, eqC, Nat.reduceBEq, Nat.reduceAdd, Nat.reduceSub, Nat.reduceLT, Nat.reduceLeDiff, Nat.reduceMul, Nat.reduceEqDiff, cond_true, cond_false, if_true, if_false, reduceIte, implies_true, forall_const, ne_eq])
    refine AWPC.of_vc ?_; simp only [zS, vcC, exs, exd, pickV, alS, Al.ob, grd, ex, ov, gt, argE, strp, cnd, sideL, I.os, st, wrap, keep, binA, kseq, kblk, kret, klp, resL, res1, one, ocalls, obj, elems, cells, scalar, vs, pick1, fillA, splice, chop, eqC, Nat.reduceBEq, Nat.reduceAdd, Nat.reduceSub, Nat.reduceLT, Nat.reduceLeDiff, Nat.reduceMul, Nat.reduceEqDiff, cond_true, cond_false, if_true, if_false, reduceIte, implies_true, forall_const, ne_eq]
    refine AWPC.rng (fun k : Nat => [some [⟨23, 2, [[n 0, n 0]], none⟩], some [⟨85, 10, [p.cs], none⟩], some [⟨23, 2, [(p.outs t k).cs], none⟩]]) 3 (fun _ => rfl) (fun k x => x = k) (fun _ _ => False) (p.tr t) 0
      rfl rfl rfl (line_iter p t hg ht) (fun k args h => ?_) (fun k x args l ρ τ hk hx => ?_) (fun x τ hx => ?_) (fun _ _ _ h => h.elim)
    · have hk : k < p.cnt t := by have := (List.getElem?_eq_some_iff.1 h).1; simpa [Pp.tr] using this
      rw [tr_get p t hk] at h; injection h with h; subst h; rfl
    · subst hx
      have hk2 : x < p.cnt t := by have := (List.getElem?_eq_some_iff.1 hk).1; simpa [Pp.tr] using this
      rw [tr_get p t hk2] at hk; injection hk with hk; subst hk
      unfold Pp.row
      simp only [par]
      refine AWPC.of_vc ?_; simp only [zS, vcC, exs, exd, pickV, alS, Al.ob, grd, ex, ov, gt, argE, strp, cnd, sideL, I.os, st, wrap, keep, binA, kseq, kblk, kret, klp, resL, res1, one, ocalls, obj, elems, cells, scalar, vs, pick1, fillA, splice, chop, eqC, Nat.reduceBEq, Nat.reduceAdd, Nat.reduceSub, Nat.reduceLT, Nat.reduceLeDiff, Nat.reduceMul, Nat.reduceEqDiff, cond_true, cond_false, if_true, if_false, reduceIte, implies_true, forall_const, ne_eq]
      refine ⟨x, _, rfl, fun ρ' => ?_⟩
      refine AWPC.of_vc ?_; simp only [zS, vcC, exs, exd, pickV, alS, Al.ob, grd, ex, ov, gt, argE, strp, cnd, sideL, I.os, st, wrap, keep, binA, kseq, kblk, kret, klp, resL, res1, one, ocalls, obj, elems, cells, scalar, vs, pick1, fillA, splice, chop, eqC, Nat.reduceBEq, Nat.reduceAdd, Nat.reduceSub, Nat.reduceLT, Nat.reduceLeDiff, Nat.reduceMul, Nat.reduceEqDiff, cond_true, cond_false, if_true, if_false, reduceIte, implies_true, forall_const, ne_eq]
      refine AWPC.of_vc ?_; simp only [zS, vcC, exs, exd, pickV, alS, Al.ob, grd, ex, ov, gt, argE, strp, cnd, sideL, I.os, st, wrap, keep, binA, kseq, kblk, kret, klp, resL, res1, one, ocalls, obj, elems, cells, scalar, vs, pick1, fillA, splice, chop, eqC, Nat.reduceBEq, Nat.reduceAdd, Nat.reduceSub, Nat.reduceLT, Nat.reduceLeDiff, Nat.reduceMul, Nat.reduceEqDiff, cond_true, cond_false, if_true, if_false, reduceIte, implies_true, forall_const, ne_eq]
      rw [wr64 (p.co - 1) (by omega) (by omega)]
      refine AWPC.of_vc ?_; simp only [zS, vcC, exs, exd, pickV, alS, Al.ob, grd, ex, ov, gt, argE, strp, cnd, sideL, I.os, st, wrap, keep, binA, kseq, kblk, kret, klp, resL, res1, one, ocalls, obj, elems, cells, scalar, vs, pick1, fillA, splice, chop, eqC, Nat.reduceBEq, Nat.reduceAdd, Nat.reduceSub, Nat.reduceLT, Nat.reduceLeDiff, Nat.reduceMul, Nat.reduceEqDiff, cond_true, cond_false, if_true, if_false, reduceIte, implies_true, forall_const, ne_eq]
      refine ⟨fun hle => ?_, fun hgt => ?_⟩
      · refine AWPC.of_vc ?_; simp only [zS, vcC, exs, exd, pickV, alS, Al.ob, grd, ex, ov, gt, argE, strp, cnd, sideL, I.os, st, wrap, keep, binA, kseq, kblk, kret, klp, resL, res1, one, ocalls, obj, elems, cells, scalar, vs, pick1, fillA, splice, chop, eqC, Nat.reduceBEq, Nat.reduceAdd, Nat.reduceSub, Nat.reduceLT, Nat.reduceLeDiff, Nat.reduceMul, Nat.reduceEqDiff, cond_true, cond_false, if_true, if_false, reduceIte, implies_true, forall_const, ne_eq]
        exact ⟨x + 1, [], by simp only [Pp.outs]; rw [if_pos hle, List.append_nil]; rfl, rfl⟩
      · refine AWPC.of_vc ?_; simp only [zS, vcC, exs, exd, pickV, alS, Al.ob, grd, ex, ov, gt, argE, strp, cnd, sideL, I.os, st, wrap, keep, binA, kseq, kblk, kret, klp, resL, res1, one, ocalls, obj, elems, cells, scalar, vs, pick1, fillA, splice, chop, eqC, Nat.reduceBEq, Nat.reduceAdd, Nat.reduceSub, Nat.reduceLT, Nat.reduceLeDiff, Nat.reduceMul, Nat.reduceEqDiff, cond_true, cond_false, if_true, if_false, reduceIte, implies_true, forall_const, ne_eq]
        exact ⟨x + 1, [], by simp only [Pp.outs]; rw [if_neg hgt, List.append_nil]; rfl, rfl⟩
    · subst hx
      have hlen : (p.tr t).length = p.cnt t := by simp [Pp.tr]
      rw [hlen]
      simp only [zS, vcC, exs, exd, pickV, alS, Al.ob, grd, ex, ov, gt, argE, strp, cnd, sideL, I.os, st, wrap, keep, binA, kseq, kblk, kret, klp, resL, res1, one, ocalls, obj, elems, cells, scalar, vs, pick1, fillA, splice, chop, eqC, Nat.reduceBEq, Nat.reduceAdd, Nat.reduceSub, Nat.reduceLT, Nat.reduceLeDiff, Nat.reduceMul, Nat.reduceEqDiff, cond_true, cond_false, if_true, if_false, reduceIte, implies_true, forall_const, ne_eq]
      refine AWPC.of_vc ?_; simp only [zS, vcC, exs, exd, pickV, alS, Al.ob, grd, ex, ov, gt, argE, strp, cnd, sideL, I.os, st, wrap, keep, binA, kseq, kblk, kret, klp, resL, res1, one, ocalls, obj, elems, cells, scalar, vs, pick1, fillA, splice, chop, eqC, Nat.reduceBEq, Nat.reduceAdd, Nat.reduceSub, Nat.reduceLT, Nat.reduceLeDiff, Nat.reduceMul, Nat.reduceEqDiff, cond_true, cond_false, if_true, if_false, reduceIte, implies_true, forall_const, ne_eq]
      refine AWPC.of_vc ?_; simp only [zS, vcC, exs, exd, pickV, alS, Al.ob, grd, ex, ov, gt, argE, strp, cnd, sideL, I.os, st, wrap, keep, binA, kseq, kblk, kret, klp, resL, res1, one, ocalls, obj, elems, cells, scalar, vs, pick1, fillA, splice, chop, eqC, Nat.reduceBEq, Nat.reduceAdd, Nat.reduceSub, Nat.reduceLT, Nat.reduceLeDiff, Nat.reduceMul, Nat.reduceEqDiff, cond_true, cond_false, if_true, if_false, reduceIte, implies_true, forall_const, ne_eq]
      refine ⟨fun hneg => ?_, fun hpos => ?_⟩
      · refine AWPC.of_vc ?_; simp only [zS, vcC, exs, exd, pickV, alS, Al.ob, grd, ex, ov, gt, argE, strp, cnd, sideL, I.os, st, wrap, keep, binA, kseq, kblk, kret, klp, resL, res1, one, ocalls, obj, elems, cells, scalar, vs, pick1, fillA, splice, chop, eqC, Nat.reduceBEq, Nat.reduceAdd, Nat.reduceSub, Nat.reduceLT, Nat.reduceLeDiff, Nat.reduceMul, Nat.reduceEqDiff, cond_true, cond_false, if_true, if_false, reduceIte, implies_true, forall_const, ne_eq]
        refine AWPC.of_vc ?_; simp only [zS, vcC, exs, exd, pickV, alS, Al.ob, grd, ex, ov, gt, argE, strp, cnd, sideL, I.os, st, wrap, keep, binA, kseq, kblk, kret, klp, resL, res1, one, ocalls, obj, elems, cells, scalar, vs, pick1, fillA, splice, chop, eqC, Nat.reduceBEq, Nat.reduceAdd, Nat.reduceSub, Nat.reduceLT, Nat.reduceLeDiff, Nat.reduceMul, Nat.reduceEqDiff, cond_true, cond_false, if_true, if_false, reduceIte, implies_true, forall_const, ne_eq]
        refine Frz.eq ?_ (by simp)
        rw [Pp.Cols, if_neg (by simp [he]), if_pos hneg]
      · refine AWPC.of_vc ?_; simp only [zS, vcC, exs, exd, pickV, alS, Al.ob, grd, ex, ov, gt, argE, strp, cnd, sideL, I.os, st, wrap, keep, binA, kseq, kblk, kret, klp, resL, res1, one, ocalls, obj, elems, cells, scalar, vs, pick1, fillA, splice, chop, eqC, Nat.reduceBEq, Nat.reduceAdd, Nat.reduceSub, Nat.reduceLT, Nat.reduceLeDiff, Nat.reduceMul, Nat.reduceEqDiff, cond_true, cond_false, if_true, if_false, reduceIte, implies_true, forall_const, ne_eq]
        refine AWPC.of_vc ?_; simp only [zS, vcC, exs, exd, pickV, alS, Al.ob, grd, ex, ov, gt, argE, strp, cnd, sideL, I.os, st, wrap, keep, binA, kseq, kblk, kret, klp, resL, res1, one, ocalls, obj, elems, cells, scalar, vs, pick1, fillA, splice, chop, eqC, Nat.reduceBEq, Nat.reduceAdd, Nat.reduceSub, Nat.reduceLT, Nat.reduceLeDiff, Nat.reduceMul, Nat.reduceEqDiff, cond_true, cond_false, if_true, if_false, reduceIte, implies_true, forall_const, ne_eq]
        refine AWPC.of_vc ?_; simp only [zS, vcC, exs, exd, pickV, alS, Al.ob, grd, ex, ov, gt, argE, strp, cnd, sideL, I.os, st, wrap, keep, binA, kseq, kblk, kret, klp, resL, res1, one, ocalls, obj, elems, cells, scalar, vs, pick1, fillA, splice, chop, eqC, Nat.reduceBEq, Nat.reduceAdd, Nat.reduceSub, Nat.reduceLT, Nat.reduceLeDiff, Nat.reduceMul, Nat.reduceEqDiff, cond_true, cond_false, if_true, if_false, reduceIte, implies_true, forall_const, ne_eq]
        refine Frz.eq ?_ (by simp)
        rw [Pp.Cols, if_neg (by simp [he]), if_neg hpos]
end Go.Proofs.Ytgpdckmbojmlpaa
