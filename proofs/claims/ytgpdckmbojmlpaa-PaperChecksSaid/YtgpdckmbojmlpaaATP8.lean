import Derived.Test.YtgpdckmbojmlpaaATP7
import Derived.Test.YtgpdckmbojmlpaaRows
namespace Go.Proofs.Ytgpdckmbojmlpaa
open Go.Abs
set_option linter.unusedVariables false
set_option linter.unusedSimpArgs false
set_option maxHeartbeats 4000000
set_option maxRecDepth 100000
-- aneroid/aneroidlaw01.awake
def c18 : CF := ⟨111,
 (.seq (.ops [
 ⟨(some 0), .mv (.c (.bool false)), none⟩] [])
 (.seq (.ops [
 ⟨(some 16), .call (.f 68) [], none⟩,
 ⟨(some 1), .alloc 25 10 [.int .i64 0, .int .i64 0, .int .i64 0, .int .i64 0, .int .i64 0, .int .i64 0, .int .i64 0, .int .i64 0, .int .i64 0, .int .i64 0], none⟩,
 ⟨none, .store 10 (.t 1) (.t 16), none⟩] [1])
 (.seq (.ops [
 ⟨(some 18), .load (some 10) (.t 1), none⟩,
 ⟨(some 19), .call (.f 19) [(.t 18), (.c (.int .i64 500))], none⟩,
 ⟨(some 17), .mv (.t 19), none⟩,
 ⟨(some 20), .ext 0 (.t 17), none⟩,
 ⟨(some 21), .ext 1 (.t 17), none⟩,
 ⟨(some 2), .mv (.t 20), none⟩,
 ⟨(some 3), .mv (.t 21), none⟩] [1, 2, 3])
 (.seq (.ops [
 ⟨(some 23), .load (some 10) (.t 1), none⟩,
 ⟨(some 24), .call (.f 26) [(.t 23), (.c (.int .i64 9850))], none⟩,
 ⟨(some 22), .mv (.t 24), none⟩,
 ⟨(some 25), .ext 0 (.t 22), none⟩,
 ⟨(some 26), .ext 1 (.t 22), none⟩,
 ⟨(some 4), .alloc 23 2 [.int .i64 0, .int .i64 0], none⟩,
 ⟨none, .store 2 (.t 4) (.t 25), none⟩,
 ⟨(some 5), .mv (.t 26), none⟩] [1, 2, 3, 4, 5])
 (.seq (.ops [
 ⟨(some 28), .load (some 10) (.t 1), none⟩,
 ⟨(some 29), .build [.int .i64 0, .int .i64 0, .int .i64 0] [(0, 1, (.c (.int .i64 202))), (1, 1, (.c (.int .i64 300))), (2, 1, (.c (.int .i64 5)))], none⟩,
 ⟨(some 30), .call (.f 22) [(.t 28), (.t 29)], none⟩,
 ⟨(some 27), .mv (.t 30), none⟩,
 ⟨(some 31), .ext 0 (.t 27), none⟩,
 ⟨(some 32), .ext 1 (.t 27), none⟩,
 ⟨(some 6), .alloc 23 2 [.int .i64 0, .int .i64 0], none⟩,
 ⟨none, .store 2 (.t 6) (.t 31), none⟩,
 ⟨(some 7), .mv (.t 32), none⟩] [1, 2, 3, 4, 5, 6, 7])
 (.seq (.ops [
 ⟨(some 34), .load (some 10) (.t 1), none⟩,
 ⟨(some 35), .build [.int .i64 0, .int .i64 0, .int .i64 0] [(0, 1, (.c (.int .i64 202))), (1, 1, (.c (.int .i64 300))), (2, 1, (.c (.int .i64 5)))], none⟩,
 ⟨(some 36), .call (.f 21) [(.t 34), (.t 35), (.c (.int .i64 1))], none⟩,
 ⟨(some 33), .mv (.t 36), none⟩,
 ⟨(some 37), .ext 0 (.t 33), none⟩,
 ⟨(some 38), .ext 1 (.t 33), none⟩,
 ⟨(some 8), .mv (.t 37), none⟩,
 ⟨(some 9), .mv (.t 38), none⟩] [1, 2, 3, 4, 5, 6, 7, 8, 9])
 (.seq (.ops [
 ⟨(some 39), .load (some 10) (.t 1), none⟩,
 ⟨(some 10), .alloc 25 10 [.int .i64 0, .int .i64 0, .int .i64 0, .int .i64 0, .int .i64 0, .int .i64 0, .int .i64 0, .int .i64 0, .int .i64 0, .int .i64 0], none⟩,
 ⟨none, .store 10 (.t 10) (.t 39), none⟩] [1, 2, 3, 4, 5, 6, 7, 8, 9, 10])
 (.seq (.ops [
 ⟨(some 40), .faddr 6 (.t 10), none⟩,
 ⟨(some 41), .faddr 0 (.t 40), none⟩,
 ⟨none, .store 1 (.t 41) (.c (.int .i64 900)), none⟩] [1, 2, 3, 4, 5, 6, 7, 8, 9, 10])
 (.seq (.ops [
 ⟨(some 43), .load (some 10) (.t 10), none⟩,
 ⟨(some 44), .build [.int .i64 0, .int .i64 0, .int .i64 0] [(0, 1, (.c (.int .i64 950))), (1, 1, (.c (.int .i64 500))), (2, 1, (.c (.int .i64 2)))], none⟩,
 ⟨(some 45), .call (.f 31) [(.t 43), (.c (.int .i64 1000)), (.c (.int .i64 (-1))), (.t 44)], none⟩,
 ⟨(some 42), .mv (.t 45), none⟩,
 ⟨(some 46), .ext 0 (.t 42), none⟩,
 ⟨(some 47), .ext 1 (.t 42), none⟩,
 ⟨(some 11), .alloc 25 10 [.int .i64 0, .int .i64 0, .int .i64 0, .int .i64 0, .int .i64 0, .int .i64 0, .int .i64 0, .int .i64 0, .int .i64 0, .int .i64 0], none⟩,
 ⟨none, .store 10 (.t 11) (.t 46), none⟩,
 ⟨(some 12), .mv (.t 47), none⟩] [1, 2, 3, 4, 5, 6, 7, 8, 9, 11, 12])
 (.seq (.ops [
 ⟨(some 48), .load (some 10) (.t 1), none⟩,
 ⟨(some 13), .alloc 25 10 [.int .i64 0, .int .i64 0, .int .i64 0, .int .i64 0, .int .i64 0, .int .i64 0, .int .i64 0, .int .i64 0, .int .i64 0, .int .i64 0], none⟩,
 ⟨none, .store 10 (.t 13) (.t 48), none⟩] [2, 3, 4, 5, 6, 7, 8, 9, 11, 12, 13])
 (.seq (.ops [
 ⟨(some 49), .faddr 0 (.t 13), none⟩,
 ⟨none, .store 1 (.t 49) (.c (.int .i64 1)), none⟩] [2, 3, 4, 5, 6, 7, 8, 9, 11, 12, 13])
 (.seq (.ops [
 ⟨(some 50), .build [.int .i64 0, .int .i64 0] [(0, 1, (.c (.int .i64 900))), (1, 1, (.c (.int .i64 1100)))], none⟩,
 ⟨(some 51), .faddr 8 (.t 13), none⟩,
 ⟨none, .store 2 (.t 51) (.t 50), none⟩] [2, 3, 4, 5, 6, 7, 8, 9, 11, 12, 13])
 (.seq (.ops [
 ⟨(some 53), .load (some 10) (.t 13), none⟩,
 ⟨(some 54), .build [.int .i64 0, .int .i64 0, .int .i64 0] [(0, 1, (.c (.int .i64 124))), (1, 1, (.c (.int .i64 500)))], none⟩,
 ⟨(some 55), .call (.f 21) [(.t 53), (.t 54), (.c (.int .i64 1))], none⟩,
 ⟨(some 52), .mv (.t 55), none⟩,
 ⟨(some 56), .ext 0 (.t 52), none⟩,
 ⟨(some 57), .ext 1 (.t 52), none⟩,
 ⟨(some 14), .mv (.t 56), none⟩,
 ⟨(some 15), .mv (.t 57), none⟩] [2, 3, 4, 5, 6, 7, 8, 9, 11, 12, 14, 15])
 (.seq (.seq (.ops [
 ⟨(some 58), .mv (.t 3), none⟩,
 ⟨(some 59), .bin .neq (.t 58) (.c (.int .i64 0)), none⟩,
 ⟨(some 60), .mv (.t 59), none⟩,
 ⟨(some 61), .mv (.t 5), (some (60, false))⟩,
 ⟨(some 62), .bin .neq (.t 61) (.c (.int .i64 0)), (some (60, false))⟩,
 ⟨(some 63), .pick (.t 60) (.c (.bool true)) (.t 62), none⟩,
 ⟨(some 64), .mv (.t 63), none⟩,
 ⟨(some 65), .mv (.t 7), (some (64, false))⟩,
 ⟨(some 66), .bin .neq (.t 65) (.c (.int .i64 0)), (some (64, false))⟩,
 ⟨(some 67), .pick (.t 64) (.c (.bool true)) (.t 66), none⟩,
 ⟨(some 68), .mv (.t 67), none⟩,
 ⟨(some 69), .mv (.t 9), (some (68, false))⟩,
 ⟨(some 70), .bin .neq (.t 69) (.c (.int .i64 0)), (some (68, false))⟩,
 ⟨(some 71), .pick (.t 68) (.c (.bool true)) (.t 70), none⟩,
 ⟨(some 72), .mv (.t 71), none⟩,
 ⟨(some 73), .mv (.t 12), (some (72, false))⟩,
 ⟨(some 74), .bin .neq (.t 73) (.c (.int .i64 0)), (some (72, false))⟩,
 ⟨(some 75), .pick (.t 72) (.c (.bool true)) (.t 74), none⟩,
 ⟨(some 76), .mv (.t 75), none⟩,
 ⟨(some 77), .mv (.t 15), (some (76, false))⟩,
 ⟨(some 78), .bin .neq (.t 77) (.c (.int .i64 0)), (some (76, false))⟩,
 ⟨(some 79), .pick (.t 76) (.c (.bool true)) (.t 78), none⟩] [2, 4, 6, 8, 11, 14, 79])
 (.cond (.t 79) (.seq (.ops [
 ⟨(some 0), .mv (.c (.bool false)), none⟩] [0])
 .ret)
 .skip))
 (.seq (.ops [
 ⟨(some 80), .mv (.t 2), none⟩,
 ⟨(some 81), .bin .eql (.t 80) (.c (.int .i64 125)), none⟩,
 ⟨(some 82), .mv (.t 81), none⟩,
 ⟨(some 83), .load (some 2) (.t 4), (some (82, true))⟩,
 ⟨(some 84), .build [.int .i64 0, .int .i64 0] [(0, 1, (.c (.int .i64 250))), (1, 1, (.c (.int .i64 250)))], (some (82, true))⟩,
 ⟨(some 85), .eqs false [some .i64, some .i64] (.t 83) (.t 84), (some (82, true))⟩,
 ⟨(some 86), .pick (.t 82) (.t 85) (.c (.bool false)), none⟩,
 ⟨(some 87), .mv (.t 86), none⟩,
 ⟨(some 88), .load (some 2) (.t 6), (some (87, true))⟩,
 ⟨(some 89), .build [.int .i64 0, .int .i64 0] [(0, 1, (.c (.int .i64 0))), (1, 1, (.c (.int .i64 1)))], (some (87, true))⟩,
 ⟨(some 90), .eqs false [some .i64, some .i64] (.t 88) (.t 89), (some (87, true))⟩,
 ⟨(some 91), .pick (.t 87) (.t 90) (.c (.bool false)), none⟩,
 ⟨(some 92), .mv (.t 91), none⟩,
 ⟨(some 93), .mv (.t 8), (some (92, true))⟩,
 ⟨(some 94), .build [.int .i64 0, .int .i64 0] [(0, 1, (.c (.int .i64 9895))), (1, 1, (.c (.int .i64 9905)))], (some (92, true))⟩,
 ⟨(some 95), .bsl false 23 2 1 [.int .i64 0, .int .i64 0] [(0, 2, (.t 94))], (some (92, true))⟩,
 ⟨(some 96), .call (.f 33) [(.t 93), (.t 95)], (some (92, true))⟩,
 ⟨(some 97), .pick (.t 92) (.t 96) (.c (.bool false)), none⟩,
 ⟨(some 98), .mv (.t 97), none⟩,
 ⟨(some 99), .faddr 6 (.t 11), (some (98, true))⟩,
 ⟨(some 100), .load (some 2) (.t 99), (some (98, true))⟩,
 ⟨(some 101), .build [.int .i64 0, .int .i64 0] [(0, 1, (.c (.int .i64 947))), (1, 1, (.c (.int .i64 952)))], (some (98, true))⟩,
 ⟨(some 102), .eqs false [some .i64, some .i64] (.t 100) (.t 101), (some (98, true))⟩,
 ⟨(some 103), .pick (.t 98) (.t 102) (.c (.bool false)), none⟩,
 ⟨(some 104), .mv (.t 103), none⟩,
 ⟨(some 105), .mv (.t 14), (some (104, true))⟩,
 ⟨(some 106), .build [.int .i64 0, .int .i64 0] [(0, 1, (.c (.int .i64 10054))), (1, 1, (.c (.int .i64 10055)))], (some (104, true))⟩,
 ⟨(some 107), .build [.int .i64 0, .int .i64 0] [(0, 1, (.c (.int .i64 10145))), (1, 1, (.c (.int .i64 10155)))], (some (104, true))⟩,
 ⟨(some 108), .bsl false 23 2 2 [.int .i64 0, .int .i64 0, .int .i64 0, .int .i64 0] [(0, 2, (.t 106)), (2, 2, (.t 107))], (some (104, true))⟩,
 ⟨(some 109), .call (.f 33) [(.t 105), (.t 108)], (some (104, true))⟩,
 ⟨(some 110), .pick (.t 104) (.t 109) (.c (.bool false)), none⟩,
 ⟨(some 0), .mv (.t 110), none⟩] [0])
 .ret))))))))))))))),
 [.t 0]⟩

theorem k18 : chkF Try.prog Try.f18 c18 = true := by kernel_rfl

def wide : Pp := { sample with al := ⟨900, 1000⟩ }
def fine : Pp := { sample with pi := 1, cl := ⟨900, 1100⟩ }

theorem v1 : sample.arc 500 = 125 := by decide
theorem v2 : sample.Cols ⟨202, 300, 5⟩ = (⟨0, 1⟩, 0) := by decide
theorem v3 : sample.Means ⟨202, 300, 5⟩ 1 = ([⟨9895, 9905⟩], 0) := by decide
theorem v4 : (wide.Calib 1000 (-1) ⟨950, 500, 2⟩) = ({ sample with al := ⟨947, 952⟩ }, 0) := by decide
theorem v5 : fine.Means ⟨124, 500, 0⟩ 1 = ([⟨10054, 10055⟩, ⟨10145, 10155⟩], 0) := by decide
theorem v6 : sample.least 9850 = 250 ∧ sample.least 9851 = 251 := by decide

theorem a1 : Pure Try.prog 19 [.agg sample.cs, n 500] (.tup [n 125, n 0]) := by
  have h := Arc_spec sample 500
  rw [show (if sample.good ∧ (0 : Int) ≤ 500 ∧ 500 ≤ sample.he then sample.arc 500 else 0) = 125 by decide, show sample.yerr 500 = 0 by decide] at h
  exact h
theorem a2 : Pure Try.prog 26 [.agg sample.cs, n 9850] (.tup [.agg [n 250, n 250], n 0]) := by
  have h := Heights_spec sample 9850
  rw [if_pos (show sample.good ∧ sample.lo ≤ 9850 ∧ 9850 ≤ sample.hi by decide), if_pos (show sample.good by decide), if_pos (show sample.lo ≤ 9850 ∧ 9850 ≤ sample.hi by decide),
    show sample.least 9850 = 250 by decide, show min sample.he (sample.least (9850 + 1) - 1) = 250 by decide] at h
  exact h
theorem a3 : Pure Try.prog 22 [.agg sample.cs, .agg (Pt.mk 202 300 5).cs] (.tup [.agg [n 0, n 1], n 0]) := by
  have h := Columns_spec sample ⟨202, 300, 5⟩
  rw [v2] at h
  exact h
theorem a4 : Pure Try.prog 21 [.agg sample.cs, .agg (Pt.mk 202 300 5).cs, n 1] (.tup [spS [⟨9895, 9905⟩], n 0]) := by
  have h := Means_spec sample ⟨202, 300, 5⟩ 1
  rw [v3] at h
  exact h
theorem a5 : Pure Try.prog 31 [.agg wide.cs, n 1000, n (-1), .agg (Pt.mk 950 500 2).cs] (.tup [.agg (Pp.cs { sample with al := ⟨947, 952⟩ }), n 0]) := by
  have h := Calibrate_spec wide 1000 (-1) ⟨950, 500, 2⟩
  rw [v4] at h
  exact h
theorem a6 : Pure Try.prog 21 [.agg fine.cs, .agg (Pt.mk 124 500 0).cs, n 1] (.tup [spS [⟨10054, 10055⟩, ⟨10145, 10155⟩], n 0]) := by
  have h := Means_spec fine ⟨124, 500, 0⟩ 1
  rw [v5] at h
  exact h

theorem awake_spec : Pure Try.prog 18 [] (bl true) := by
  refine Pure.of_body Try.call18 Try.func18 k18 (Nat.le_of_ble_eq_true rfl) ?_
  unfold c18
  refine AWPC.of_vc ?_; simp only [zS, vcC, exs, exd, pickV, alS, Al.ob, grd, ex, ov, gt, argE, strp, cnd, sideL, I.os, st, wrap, keep, binA, kseq, kblk, kret, klp, resL, res1, one, ocalls, obj, elems, cells, scalar, vs, pick1, fillA, splice, chop, eqC, Nat.reduceBEq, Nat.reduceAdd, Nat.reduceSub, Nat.reduceLT, Nat.reduceLeDiff, Nat.reduceMul, Nat.reduceEqDiff, cond_true, cond_false, if_true, if_false, reduceIte, implies_true, forall_const, ne_eq]
  refine AWPC.of_vc ?_; simp only [zS, vcC, exs, exd, pickV, alS, Al.ob, grd, ex, ov, gt, argE, strp, cnd, sideL, I.os, st, wrap, keep, binA, kseq, kblk, kret, klp, resL, res1, one, ocalls, obj, elems, cells, scalar, vs, pick1, fillA, splice, chop, eqC, Nat.reduceBEq, Nat.reduceAdd, Nat.reduceSub, Nat.reduceLT, Nat.reduceLeDiff, Nat.reduceMul, Nat.reduceEqDiff, cond_true, cond_false, if_true, if_false, reduceIte, implies_true, forall_const, ne_eq]
  ((repeat (refine And.intro (by (intros; simp_all (config := { decide := false }); done)) ?_)); refine .inl ⟨_, _, _, _, rfl, fun _hc => ⟨by simp, sample_spec⟩, ?_⟩; refine owp_of_exs ?_; simp only [zS, vcC, exs, exd, pickV, alS, Al.ob, grd, ex, ov, gt, argE, strp, cnd, sideL, I.os, st, wrap, keep, binA, kseq, kblk, kret, klp, resL, res1, one, ocalls, obj, elems, cells, scalar, vs, pick1, fillA, splice, chop, eqC, Nat.reduceBEq, Nat.reduceAdd, Nat.reduceSub, Nat.reduceLT, Nat.reduceLeDiff, Nat.reduceMul, Nat.reduceEqDiff, cond_true, cond_false, if_true, if_false, reduceIte, implies_true, forall_const, ne_eq])
  refine AWPC.of_vc ?_; simp only [zS, vcC, exs, exd, pickV, alS, Al.ob, grd, ex, ov, gt, argE, strp, cnd, sideL, I.os, st, wrap, keep, binA, kseq, kblk, kret, klp, resL, res1, one, ocalls, obj, elems, cells, scalar, vs, pick1, fillA, splice, chop, eqC, Nat.reduceBEq, Nat.reduceAdd, Nat.reduceSub, Nat.reduceLT, Nat.reduceLeDiff, Nat.reduceMul, Nat.reduceEqDiff, cond_true, cond_false, if_true, if_false, reduceIte, implies_true, forall_const, ne_eq]
  ((repeat (refine And.intro (by (intros; simp_all (config := { decide := false }); done)) ?_)); refine .inl ⟨_, _, _, _, rfl, fun _hc => ⟨by simp, a1⟩, ?_⟩; refine owp_of_exs ?_; simp only [zS, vcC, exs, exd, pickV, alS, Al.ob, grd, ex, ov, gt, argE, strp, cnd, sideL, I.os, st, wrap, keep, binA, kseq, kblk, kret, klp, resL, res1, one, ocalls, obj, elems, cells, scalar, vs, pick1, fillA, splice, chop, eqC, Nat.reduceBEq, Nat.reduceAdd, Nat.reduceSub, Nat.reduceLT, Nat.reduceLeDiff, Nat.reduceMul, Nat.reduceEqDiff, cond_true, cond_false, if_true, if_false, reduceIte, implies_true, forall_const, ne_eq])
  refine AWPC.of_vc ?_; simp only [zS, vcC, exs, exd, pickV, alS, Al.ob, grd, ex, ov, gt, argE, strp, cnd, sideL, I.os, st, wrap, keep, binA, kseq, kblk, kret, klp, resL, res1, one, ocalls, obj, elems, cells, scalar, vs, pick1, fillA, splice, chop, eqC, Nat.reduceBEq, Nat.reduceAdd, Nat.reduceSub, Nat.reduceLT, Nat.reduceLeDiff, Nat.reduceMul, Nat.reduceEqDiff, cond_true, cond_false, if_true, if_false, reduceIte, implies_true, forall_const, ne_eq]
  ((repeat (refine And.intro (by (intros; simp_all (config := { decide := false }); done)) ?_)); refine .inl ⟨_, _, _, _, rfl, fun _hc => ⟨by simp, a2⟩, ?_⟩; refine owp_of_exs ?_; simp only [zS, vcC, exs, exd, pickV, alS, Al.ob, grd, ex, ov, gt, argE, strp, cnd, sideL, I.os, st, wrap, keep, binA, kseq, kblk, kret, klp, resL, res1, one, ocalls, obj, elems, cells, scalar, vs, pick1, fillA, splice, chop, eqC, Nat.reduceBEq, Nat.reduceAdd, Nat.reduceSub, Nat.reduceLT, Nat.reduceLeDiff, Nat.reduceMul, Nat.reduceEqDiff, cond_true, cond_false, if_true, if_false, reduceIte, implies_true, forall_const, ne_eq])
  refine AWPC.of_vc ?_; simp only [zS, vcC, exs, exd, pickV, alS, Al.ob, grd, ex, ov, gt, argE, strp, cnd, sideL, I.os, st, wrap, keep, binA, kseq, kblk, kret, klp, resL, res1, one, ocalls, obj, elems, cells, scalar, vs, pick1, fillA, splice, chop, eqC, Nat.reduceBEq, Nat.reduceAdd, Nat.reduceSub, Nat.reduceLT, Nat.reduceLeDiff, Nat.reduceMul, Nat.reduceEqDiff, cond_true, cond_false, if_true, if_false, reduceIte, implies_true, forall_const, ne_eq]
  ((repeat (refine And.intro (by (intros; simp_all (config := { decide := false }); done)) ?_)); refine .inl ⟨_, _, _, _, rfl, fun _hc => ⟨by simp, a3⟩, ?_⟩; refine owp_of_exs ?_; simp only [zS, vcC, exs, exd, pickV, alS, Al.ob, grd, ex, ov, gt, argE, strp, cnd, sideL, I.os, st, wrap, keep, binA, kseq, kblk, kret, klp, resL, res1, one, ocalls, obj, elems, cells, scalar, vs, pick1, fillA, splice, chop, eqC, Nat.reduceBEq, Nat.reduceAdd, Nat.reduceSub, Nat.reduceLT, Nat.reduceLeDiff, Nat.reduceMul, Nat.reduceEqDiff, cond_true, cond_false, if_true, if_false, reduceIte, implies_true, forall_const, ne_eq])
  refine AWPC.of_vc ?_; simp only [zS, vcC, exs, exd, pickV, alS, Al.ob, grd, ex, ov, gt, argE, strp, cnd, sideL, I.os, st, wrap, keep, binA, kseq, kblk, kret, klp, resL, res1, one, ocalls, obj, elems, cells, scalar, vs, pick1, fillA, splice, chop, eqC, Nat.reduceBEq, Nat.reduceAdd, Nat.reduceSub, Nat.reduceLT, Nat.reduceLeDiff, Nat.reduceMul, Nat.reduceEqDiff, cond_true, cond_false, if_true, if_false, reduceIte, implies_true, forall_const, ne_eq]
  ((repeat (refine And.intro (by (intros; simp_all (config := { decide := false }); done)) ?_)); refine .inl ⟨_, _, _, _, rfl, fun _hc => ⟨by simp, a4⟩, ?_⟩; refine owp_of_exs ?_; simp only [zS, vcC, exs, exd, pickV, alS, Al.ob, grd, ex, ov, gt, argE, strp, cnd, sideL, I.os, st, wrap, keep, binA, kseq, kblk, kret, klp, resL, res1, one, ocalls, obj, elems, cells, scalar, vs, pick1, fillA, splice, chop, eqC, Nat.reduceBEq, Nat.reduceAdd, Nat.reduceSub, Nat.reduceLT, Nat.reduceLeDiff, Nat.reduceMul, Nat.reduceEqDiff, cond_true, cond_false, if_true, if_false, reduceIte, implies_true, forall_const, ne_eq])
  refine AWPC.of_vc ?_; simp only [zS, vcC, exs, exd, pickV, alS, Al.ob, grd, ex, ov, gt, argE, strp, cnd, sideL, I.os, st, wrap, keep, binA, kseq, kblk, kret, klp, resL, res1, one, ocalls, obj, elems, cells, scalar, vs, pick1, fillA, splice, chop, eqC, Nat.reduceBEq, Nat.reduceAdd, Nat.reduceSub, Nat.reduceLT, Nat.reduceLeDiff, Nat.reduceMul, Nat.reduceEqDiff, cond_true, cond_false, if_true, if_false, reduceIte, implies_true, forall_const, ne_eq]
  refine AWPC.of_vc ?_; simp only [zS, vcC, exs, exd, pickV, alS, Al.ob, grd, ex, ov, gt, argE, strp, cnd, sideL, I.os, st, wrap, keep, binA, kseq, kblk, kret, klp, resL, res1, one, ocalls, obj, elems, cells, scalar, vs, pick1, fillA, splice, chop, eqC, Nat.reduceBEq, Nat.reduceAdd, Nat.reduceSub, Nat.reduceLT, Nat.reduceLeDiff, Nat.reduceMul, Nat.reduceEqDiff, cond_true, cond_false, if_true, if_false, reduceIte, implies_true, forall_const, ne_eq]
  refine AWPC.of_vc ?_; simp only [zS, vcC, exs, exd, pickV, alS, Al.ob, grd, ex, ov, gt, argE, strp, cnd, sideL, I.os, st, wrap, keep, binA, kseq, kblk, kret, klp, resL, res1, one, ocalls, obj, elems, cells, scalar, vs, pick1, fillA, splice, chop, eqC, Nat.reduceBEq, Nat.reduceAdd, Nat.reduceSub, Nat.reduceLT, Nat.reduceLeDiff, Nat.reduceMul, Nat.reduceEqDiff, cond_true, cond_false, if_true, if_false, reduceIte, implies_true, forall_const, ne_eq]
  ((repeat (refine And.intro (by (intros; simp_all (config := { decide := false }); done)) ?_)); refine .inl ⟨_, _, _, _, rfl, fun _hc => ⟨by simp, a5⟩, ?_⟩; refine owp_of_exs ?_; simp only [zS, vcC, exs, exd, pickV, alS, Al.ob, grd, ex, ov, gt, argE, strp, cnd, sideL, I.os, st, wrap, keep, binA, kseq, kblk, kret, klp, resL, res1, one, ocalls, obj, elems, cells, scalar, vs, pick1, fillA, splice, chop, eqC, Nat.reduceBEq, Nat.reduceAdd, Nat.reduceSub, Nat.reduceLT, Nat.reduceLeDiff, Nat.reduceMul, Nat.reduceEqDiff, cond_true, cond_false, if_true, if_false, reduceIte, implies_true, forall_const, ne_eq])
  refine AWPC.of_vc ?_; simp only [zS, vcC, exs, exd, pickV, alS, Al.ob, grd, ex, ov, gt, argE, strp, cnd, sideL, I.os, st, wrap, keep, binA, kseq, kblk, kret, klp, resL, res1, one, ocalls, obj, elems, cells, scalar, vs, pick1, fillA, splice, chop, eqC, Nat.reduceBEq, Nat.reduceAdd, Nat.reduceSub, Nat.reduceLT, Nat.reduceLeDiff, Nat.reduceMul, Nat.reduceEqDiff, cond_true, cond_false, if_true, if_false, reduceIte, implies_true, forall_const, ne_eq]
  refine AWPC.of_vc ?_; simp only [zS, vcC, exs, exd, pickV, alS, Al.ob, grd, ex, ov, gt, argE, strp, cnd, sideL, I.os, st, wrap, keep, binA, kseq, kblk, kret, klp, resL, res1, one, ocalls, obj, elems, cells, scalar, vs, pick1, fillA, splice, chop, eqC, Nat.reduceBEq, Nat.reduceAdd, Nat.reduceSub, Nat.reduceLT, Nat.reduceLeDiff, Nat.reduceMul, Nat.reduceEqDiff, cond_true, cond_false, if_true, if_false, reduceIte, implies_true, forall_const, ne_eq]
  refine AWPC.of_vc ?_; simp only [zS, vcC, exs, exd, pickV, alS, Al.ob, grd, ex, ov, gt, argE, strp, cnd, sideL, I.os, st, wrap, keep, binA, kseq, kblk, kret, klp, resL, res1, one, ocalls, obj, elems, cells, scalar, vs, pick1, fillA, splice, chop, eqC, Nat.reduceBEq, Nat.reduceAdd, Nat.reduceSub, Nat.reduceLT, Nat.reduceLeDiff, Nat.reduceMul, Nat.reduceEqDiff, cond_true, cond_false, if_true, if_false, reduceIte, implies_true, forall_const, ne_eq]
  refine AWPC.of_vc ?_; simp only [zS, vcC, exs, exd, pickV, alS, Al.ob, grd, ex, ov, gt, argE, strp, cnd, sideL, I.os, st, wrap, keep, binA, kseq, kblk, kret, klp, resL, res1, one, ocalls, obj, elems, cells, scalar, vs, pick1, fillA, splice, chop, eqC, Nat.reduceBEq, Nat.reduceAdd, Nat.reduceSub, Nat.reduceLT, Nat.reduceLeDiff, Nat.reduceMul, Nat.reduceEqDiff, cond_true, cond_false, if_true, if_false, reduceIte, implies_true, forall_const, ne_eq]
  ((repeat (refine And.intro (by (intros; simp_all (config := { decide := false }); done)) ?_)); refine .inl ⟨_, _, _, _, rfl, fun _hc => ⟨by simp, a6⟩, ?_⟩; refine owp_of_exs ?_; simp only [zS, vcC, exs, exd, pickV, alS, Al.ob, grd, ex, ov, gt, argE, strp, cnd, sideL, I.os, st, wrap, keep, binA, kseq, kblk, kret, klp, resL, res1, one, ocalls, obj, elems, cells, scalar, vs, pick1, fillA, splice, chop, eqC, Nat.reduceBEq, Nat.reduceAdd, Nat.reduceSub, Nat.reduceLT, Nat.reduceLeDiff, Nat.reduceMul, Nat.reduceEqDiff, cond_true, cond_false, if_true, if_false, reduceIte, implies_true, forall_const, ne_eq])
  refine AWPC.of_vc ?_; simp only [zS, vcC, exs, exd, pickV, alS, Al.ob, grd, ex, ov, gt, argE, strp, cnd, sideL, I.os, st, wrap, keep, binA, kseq, kblk, kret, klp, resL, res1, one, ocalls, obj, elems, cells, scalar, vs, pick1, fillA, splice, chop, eqC, Nat.reduceBEq, Nat.reduceAdd, Nat.reduceSub, Nat.reduceLT, Nat.reduceLeDiff, Nat.reduceMul, Nat.reduceEqDiff, cond_true, cond_false, if_true, if_false, reduceIte, implies_true, forall_const, ne_eq]
  refine AWPC.of_vc ?_; simp only [zS, vcC, exs, exd, pickV, alS, Al.ob, grd, ex, ov, gt, argE, strp, cnd, sideL, I.os, st, wrap, keep, binA, kseq, kblk, kret, klp, resL, res1, one, ocalls, obj, elems, cells, scalar, vs, pick1, fillA, splice, chop, eqC, Nat.reduceBEq, Nat.reduceAdd, Nat.reduceSub, Nat.reduceLT, Nat.reduceLeDiff, Nat.reduceMul, Nat.reduceEqDiff, cond_true, cond_false, if_true, if_false, reduceIte, implies_true, forall_const, ne_eq]
  refine ⟨fun h => by simp at h, fun _ => ?_⟩
  refine AWPC.of_vc ?_; simp only [zS, vcC, exs, exd, pickV, alS, Al.ob, grd, ex, ov, gt, argE, strp, cnd, sideL, I.os, st, wrap, keep, binA, kseq, kblk, kret, klp, resL, res1, one, ocalls, obj, elems, cells, scalar, vs, pick1, fillA, splice, chop, eqC, Nat.reduceBEq, Nat.reduceAdd, Nat.reduceSub, Nat.reduceLT, Nat.reduceLeDiff, Nat.reduceMul, Nat.reduceEqDiff, cond_true, cond_false, if_true, if_false, reduceIte, implies_true, forall_const, ne_eq]
  refine AWPC.of_vc ?_; simp only [zS, vcC, exs, exd, pickV, alS, Al.ob, grd, ex, ov, gt, argE, strp, cnd, sideL, I.os, st, wrap, keep, binA, kseq, kblk, kret, klp, resL, res1, one, ocalls, obj, elems, cells, scalar, vs, pick1, fillA, splice, chop, eqC, Nat.reduceBEq, Nat.reduceAdd, Nat.reduceSub, Nat.reduceLT, Nat.reduceLeDiff, Nat.reduceMul, Nat.reduceEqDiff, cond_true, cond_false, if_true, if_false, reduceIte, implies_true, forall_const, ne_eq]
  ((repeat (refine And.intro (by (intros; simp_all (config := { decide := false }); done)) ?_)); refine .inl ⟨_, _, _, _, rfl, fun _hc => ⟨by simp, sameSpans_spec [⟨9895, 9905⟩] [⟨9895, 9905⟩] (by decide) (by decide)⟩, ?_⟩; refine owp_of_exs ?_; simp only [zS, vcC, exs, exd, pickV, alS, Al.ob, grd, ex, ov, gt, argE, strp, cnd, sideL, I.os, st, wrap, keep, binA, kseq, kblk, kret, klp, resL, res1, one, ocalls, obj, elems, cells, scalar, vs, pick1, fillA, splice, chop, eqC, Nat.reduceBEq, Nat.reduceAdd, Nat.reduceSub, Nat.reduceLT, Nat.reduceLeDiff, Nat.reduceMul, Nat.reduceEqDiff, cond_true, cond_false, if_true, if_false, reduceIte, implies_true, forall_const, ne_eq])
  ((repeat (refine And.intro (by (intros; simp_all (config := { decide := false }); done)) ?_)); refine .inl ⟨_, _, _, _, rfl, fun _hc => ⟨by simp, sameSpans_spec [⟨10054, 10055⟩, ⟨10145, 10155⟩] [⟨10054, 10055⟩, ⟨10145, 10155⟩] (by decide) (by decide)⟩, ?_⟩; refine owp_of_exs ?_; simp only [zS, vcC, exs, exd, pickV, alS, Al.ob, grd, ex, ov, gt, argE, strp, cnd, sideL, I.os, st, wrap, keep, binA, kseq, kblk, kret, klp, resL, res1, one, ocalls, obj, elems, cells, scalar, vs, pick1, fillA, splice, chop, eqC, Nat.reduceBEq, Nat.reduceAdd, Nat.reduceSub, Nat.reduceLT, Nat.reduceLeDiff, Nat.reduceMul, Nat.reduceEqDiff, cond_true, cond_false, if_true, if_false, reduceIte, implies_true, forall_const, ne_eq])
  refine AWPC.of_vc ?_; simp only [zS, vcC, exs, exd, pickV, alS, Al.ob, grd, ex, ov, gt, argE, strp, cnd, sideL, I.os, st, wrap, keep, binA, kseq, kblk, kret, klp, resL, res1, one, ocalls, obj, elems, cells, scalar, vs, pick1, fillA, splice, chop, eqC, Nat.reduceBEq, Nat.reduceAdd, Nat.reduceSub, Nat.reduceLT, Nat.reduceLeDiff, Nat.reduceMul, Nat.reduceEqDiff, cond_true, cond_false, if_true, if_false, reduceIte, implies_true, forall_const, ne_eq]
  refine Frz.eq ?_ (by simp)
  rfl
end Go.Proofs.Ytgpdckmbojmlpaa
