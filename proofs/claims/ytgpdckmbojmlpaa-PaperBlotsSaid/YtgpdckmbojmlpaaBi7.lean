/- Part 7 of the texts that the claim rests on: abstract values over the walk, and contracts of functions. -/
import Derived.Test.YtgpdckmbojmlpaaBi6
import Derived.Test.YtgpdckmbojmlpaaRows
namespace Go.Proofs.Ytgpdckmbojmlpaa
open Go.Abs
set_option linter.unusedVariables false
set_option linter.unusedSimpArgs false
set_option maxHeartbeats 4000000
set_option maxRecDepth 100000
-- aneroid/aneroidlaw01.PaperTraces
def c13 : CF := ⟨158,
 (.seq (.ops [
 ⟨(some 4), .box false 25 10 (.t 0), none⟩,
 ⟨(some 8), .mv (.c (.bool false)), none⟩] [1, 2, 3, 4])
 (.seq (.ops [
 ⟨(some 23), .call (.f 18) [], none⟩,
 ⟨(some 9), .mv (.t 23), none⟩] [1, 2, 3, 4, 9])
 (.seq (.seq (.ops [
 ⟨(some 24), .mv (.t 1), none⟩,
 ⟨(some 25), .len (.t 24), none⟩,
 ⟨(some 26), .bin .gtr (.t 25) (.c (.int .i64 12)), none⟩,
 ⟨(some 27), .mv (.t 26), none⟩,
 ⟨(some 28), .mv (.t 2), (some (27, false))⟩,
 ⟨(some 29), .len (.t 28), (some (27, false))⟩,
 ⟨(some 30), .bin .gtr (.t 29) (.c (.int .i64 300)), (some (27, false))⟩,
 ⟨(some 31), .pick (.t 27) (.c (.bool true)) (.t 30), none⟩] [1, 2, 3, 4, 9, 31])
 (.cond (.t 31) (.seq (.ops [
 ⟨(some 32), .mv (.t 9), none⟩,
 ⟨(some 8), .mv (.t 32), none⟩] [8])
 .ret)
 .skip))
 (.seq (.ops [
 ⟨(some 34), .load (some 10) (.t 4), none⟩,
 ⟨(some 35), .mv (.t 1), none⟩,
 ⟨(some 36), .mv (.t 2), none⟩,
 ⟨(some 37), .call (.f 57) [(.t 34), (.t 35), (.t 36)], none⟩,
 ⟨(some 33), .mv (.t 37), none⟩,
 ⟨(some 38), .ext 0 (.t 33), none⟩,
 ⟨(some 39), .ext 1 (.t 33), none⟩,
 ⟨(some 10), .alloc 56 1 [.slice none 0 0], none⟩,
 ⟨none, .store 1 (.t 10) (.t 38), none⟩,
 ⟨(some 11), .mv (.t 39), none⟩] [1, 2, 3, 4, 9, 10, 11])
 (.seq (.seq (.ops [
 ⟨(some 40), .mv (.t 11), none⟩,
 ⟨(some 41), .bin .neq (.t 40) (.c (.int .i64 0)), none⟩] [1, 2, 3, 4, 9, 10, 41])
 (.cond (.t 41) (.seq (.ops [
 ⟨(some 42), .mv (.t 9), none⟩,
 ⟨(some 43), .mv (.t 42), none⟩,
 ⟨(some 44), .faddr 0 (.t 10), (some (43, true))⟩,
 ⟨(some 45), .load none (.t 44), (some (43, true))⟩,
 ⟨(some 46), .len (.t 45), (some (43, true))⟩,
 ⟨(some 47), .bin .eql (.t 46) (.c (.int .i64 0)), (some (43, true))⟩,
 ⟨(some 48), .pick (.t 43) (.t 47) (.c (.bool false)), none⟩,
 ⟨(some 8), .mv (.t 48), none⟩] [8])
 .ret)
 .skip))
 (.seq (.seq (.ops [
 ⟨(some 49), .faddr 0 (.t 10), none⟩,
 ⟨(some 50), .load none (.t 49), none⟩,
 ⟨(some 51), .len (.t 50), none⟩,
 ⟨(some 52), .faddr 5 (.t 4), none⟩,
 ⟨(some 53), .load none (.t 52), none⟩,
 ⟨(some 54), .bin .neq (.t 51) (.t 53), none⟩] [1, 2, 3, 4, 9, 10, 54])
 (.cond (.t 54) (.seq (.ops [
 ⟨(some 8), .mv (.c (.bool false)), none⟩] [8])
 .ret)
 .skip))
 (.seq (.seq (.ops [
 ⟨(some 12), .mv (.c (.int .i64 0)), none⟩] [1, 2, 3, 4, 9, 10, 12])
 (.block 0 (.loop (.seq (.seq (.ops [
 ⟨(some 55), .mv (.t 12), none⟩,
 ⟨(some 56), .faddr 5 (.t 4), none⟩,
 ⟨(some 57), .load none (.t 56), none⟩,
 ⟨(some 58), .bin .lss (.t 55) (.t 57), none⟩] [1, 2, 3, 4, 9, 10, 12, 58])
 (.cond (.t 58) .skip
 (.exit 0)))
 (.seq (.block 1 (.seq (.ops [
 ⟨(some 13), .mv (.c (.bool false)), none⟩] [1, 2, 3, 4, 9, 10, 12, 13])
 (.seq (.seq (.ops [
 ⟨(some 14), .mv (.c (.int .i64 0)), none⟩] [1, 2, 3, 4, 9, 10, 12, 13, 14])
 (.block 2 (.loop (.seq (.seq (.ops [
 ⟨(some 61), .mv (.t 14), none⟩,
 ⟨(some 62), .mv (.t 2), none⟩,
 ⟨(some 63), .len (.t 62), none⟩,
 ⟨(some 64), .bin .lss (.t 61) (.t 63), none⟩] [1, 2, 3, 4, 9, 10, 12, 13, 14, 64])
 (.cond (.t 64) .skip
 (.exit 2)))
 (.seq (.block 3 (.ops [
 ⟨(some 67), .mv (.t 13), none⟩,
 ⟨(some 68), .mv (.t 67), none⟩,
 ⟨(some 69), .mv (.t 2), (some (68, false))⟩,
 ⟨(some 70), .mv (.t 14), (some (68, false))⟩,
 ⟨(some 71), .iaddr 1 (.t 69) (.t 70), (some (68, false))⟩,
 ⟨(some 72), .load none (.t 71), (some (68, false))⟩,
 ⟨(some 73), .mv (.t 12), (some (68, false))⟩,
 ⟨(some 74), .bin .eql (.t 72) (.t 73), (some (68, false))⟩,
 ⟨(some 75), .pick (.t 68) (.c (.bool true)) (.t 74), none⟩,
 ⟨(some 13), .mv (.t 75), none⟩] [1, 2, 3, 4, 9, 10, 12, 13, 14]))
 (.ops [
 ⟨(some 65), .mv (.t 14), none⟩,
 ⟨(some 66), .bin .add (.t 65) (.c (.int .i64 1)), none⟩,
 ⟨(some 14), .mv (.t 66), none⟩] [1, 2, 3, 4, 9, 10, 12, 13, 14]))))))
 (.seq (.ops [
 ⟨(some 15), .mv (.c (.slice none 0 0)), none⟩] [1, 2, 3, 4, 9, 10, 12, 13, 15])
 (.seq (.seq (.ops [
 ⟨(some 16), .mv (.c (.int .i64 0)), none⟩] [1, 2, 3, 4, 9, 10, 12, 13, 15, 16])
 (.block 4 (.loop (.seq (.seq (.ops [
 ⟨(some 76), .mv (.t 16), none⟩,
 ⟨(some 77), .mv (.t 1), none⟩,
 ⟨(some 78), .len (.t 77), none⟩,
 ⟨(some 79), .bin .lss (.t 76) (.t 78), none⟩,
 ⟨(some 80), .mv (.t 79), none⟩,
 ⟨(some 81), .mv (.t 13), (some (80, true))⟩,
 ⟨(some 82), .un .not (.t 81), (some (80, true))⟩,
 ⟨(some 83), .pick (.t 80) (.t 82) (.c (.bool false)), none⟩] [1, 2, 3, 4, 9, 10, 12, 13, 15, 16, 83])
 (.cond (.t 83) .skip
 (.exit 4)))
 (.seq (.block 5 (.seq (.draw [
 ⟨(some 87), .load (some 10) (.t 4), none⟩,
 ⟨(some 88), .mv (.t 1), none⟩,
 ⟨(some 89), .mv (.t 16), none⟩,
 ⟨(some 90), .iaddr 3 (.t 88) (.t 89), none⟩,
 ⟨(some 91), .load (some 3) (.t 90), none⟩,
 ⟨(some 92), .mv (.t 12), none⟩,
 ⟨(some 93), .call (.f 21) [(.t 87), (.t 91), (.t 92)], none⟩,
 ⟨(some 86), .mv (.t 93), none⟩,
 ⟨(some 94), .ext 0 (.t 86), none⟩,
 ⟨(some 95), .ext 1 (.t 86), none⟩,
 ⟨(some 17), .mv (.t 94), none⟩,
 ⟨(some 18), .mv (.t 95), none⟩] [
 ] [1, 2, 3, 4, 9, 10, 12, 13, 15, 16, 17, 18])
 (.seq (.seq (.ops [
 ⟨(some 96), .mv (.t 18), none⟩,
 ⟨(some 97), .bin .neq (.t 96) (.c (.int .i64 0)), none⟩] [1, 2, 3, 4, 9, 10, 12, 13, 15, 16, 17, 97])
 (.cond (.t 97) (.seq (.ops [
 ⟨(some 8), .mv (.c (.bool false)), none⟩] [8])
 .ret)
 .skip))
 (.ops [
 ⟨(some 98), .mv (.t 15), none⟩,
 ⟨(some 99), .mv (.t 17), none⟩,
 ⟨(some 100), .bsl false 34 1 1 [.slice none 0 0] [(0, 1, (.t 99))], none⟩,
 ⟨(some 101), .app 34 1 24 (.t 98) (.t 100), none⟩,
 ⟨(some 15), .mv (.t 101), none⟩] [1, 2, 3, 4, 9, 10, 12, 13, 15, 16]))))
 (.ops [
 ⟨(some 84), .mv (.t 16), none⟩,
 ⟨(some 85), .bin .add (.t 84) (.c (.int .i64 1)), none⟩,
 ⟨(some 16), .mv (.t 85), none⟩] [1, 2, 3, 4, 9, 10, 12, 13, 15, 16]))))))
 (.seq (.ops [
 ⟨(some 102), .faddr 0 (.t 10), none⟩,
 ⟨(some 103), .load none (.t 102), none⟩,
 ⟨(some 104), .mv (.t 12), none⟩,
 ⟨(some 105), .iaddr 1 (.t 103) (.t 104), none⟩,
 ⟨(some 106), .load none (.t 105), none⟩,
 ⟨(some 107), .mv (.t 15), none⟩,
 ⟨(some 108), .call (.f 60) [(.t 106), (.t 107)], none⟩,
 ⟨(some 109), .un .not (.t 108), none⟩] [1, 2, 3, 4, 9, 10, 12, 109])
 (.cond (.t 109) (.seq (.ops [
 ⟨(some 8), .mv (.c (.bool false)), none⟩] [8])
 .ret)
 .skip)))))))
 (.ops [
 ⟨(some 59), .mv (.t 12), none⟩,
 ⟨(some 60), .bin .add (.t 59) (.c (.int .i64 1)), none⟩,
 ⟨(some 12), .mv (.t 60), none⟩] [1, 2, 3, 4, 9, 10, 12]))))))
 (.seq (.ops [
 ⟨(some 19), .mv (.c (.slice none 0 0)), none⟩] [1, 2, 3, 4, 9, 10, 19])
 (.seq (.seq (.ops [
 ⟨(some 110), .mv (.t 1), none⟩,
 ⟨(some 111), .len (.t 110), none⟩,
 ⟨(some 112), .bin .sub (.t 111) (.c (.int .i64 1)), none⟩,
 ⟨(some 20), .mv (.t 112), none⟩] [1, 2, 3, 4, 9, 10, 19, 20])
 (.block 6 (.loop (.seq (.seq (.ops [
 ⟨(some 113), .mv (.t 20), none⟩,
 ⟨(some 114), .bin .geq (.t 113) (.c (.int .i64 0)), none⟩] [1, 2, 3, 4, 9, 10, 19, 20, 114])
 (.cond (.t 114) .skip
 (.exit 6)))
 (.seq (.block 7 (.ops [
 ⟨(some 117), .mv (.t 19), none⟩,
 ⟨(some 118), .mv (.t 1), none⟩,
 ⟨(some 119), .mv (.t 20), none⟩,
 ⟨(some 120), .iaddr 3 (.t 118) (.t 119), none⟩,
 ⟨(some 121), .load (some 3) (.t 120), none⟩,
 ⟨(some 122), .bsl false 32 3 1 [.int .i64 0, .int .i64 0, .int .i64 0] [(0, 3, (.t 121))], none⟩,
 ⟨(some 123), .app 32 3 24 (.t 117) (.t 122), none⟩,
 ⟨(some 19), .mv (.t 123), none⟩] [1, 2, 3, 4, 9, 10, 19, 20]))
 (.ops [
 ⟨(some 115), .mv (.t 20), none⟩,
 ⟨(some 116), .bin .sub (.t 115) (.c (.int .i64 1)), none⟩,
 ⟨(some 20), .mv (.t 116), none⟩] [1, 2, 3, 4, 9, 10, 19, 20]))))))
 (.seq (.seq (.ops [
 ⟨(some 124), .mv (.t 3), none⟩,
 ⟨(some 125), .bin .geq (.t 124) (.c (.int .i64 0)), none⟩,
 ⟨(some 126), .mv (.t 125), none⟩,
 ⟨(some 127), .mv (.t 3), (some (126, true))⟩,
 ⟨(some 128), .mv (.t 1), (some (126, true))⟩,
 ⟨(some 129), .len (.t 128), (some (126, true))⟩,
 ⟨(some 130), .bin .lss (.t 127) (.t 129), (some (126, true))⟩,
 ⟨(some 131), .pick (.t 126) (.t 130) (.c (.bool false)), none⟩] [1, 2, 3, 4, 9, 10, 19, 131])
 (.cond (.t 131) (.ops [
 ⟨(some 132), .mv (.t 19), none⟩,
 ⟨(some 133), .mv (.t 1), none⟩,
 ⟨(some 134), .mv (.t 3), none⟩,
 ⟨(some 135), .iaddr 3 (.t 133) (.t 134), none⟩,
 ⟨(some 136), .load (some 3) (.t 135), none⟩,
 ⟨(some 137), .bsl false 32 3 1 [.int .i64 0, .int .i64 0, .int .i64 0] [(0, 3, (.t 136))], none⟩,
 ⟨(some 138), .app 32 3 24 (.t 132) (.t 137), none⟩,
 ⟨(some 19), .mv (.t 138), none⟩] [2, 4, 9, 10, 19])
 .skip))
 (.seq (.ops [
 ⟨(some 140), .load (some 10) (.t 4), none⟩,
 ⟨(some 141), .mv (.t 19), none⟩,
 ⟨(some 142), .mv (.t 2), none⟩,
 ⟨(some 143), .call (.f 57) [(.t 140), (.t 141), (.t 142)], none⟩,
 ⟨(some 139), .mv (.t 143), none⟩,
 ⟨(some 144), .ext 0 (.t 139), none⟩,
 ⟨(some 145), .ext 1 (.t 139), none⟩,
 ⟨(some 21), .alloc 56 1 [.slice none 0 0], none⟩,
 ⟨none, .store 1 (.t 21) (.t 144), none⟩,
 ⟨(some 22), .mv (.t 145), none⟩] [9, 10, 21, 22])
 (.seq (.ops [
 ⟨(some 146), .mv (.t 9), none⟩,
 ⟨(some 147), .mv (.t 146), none⟩,
 ⟨(some 148), .mv (.t 22), (some (147, true))⟩,
 ⟨(some 149), .bin .eql (.t 148) (.c (.int .i64 0)), (some (147, true))⟩,
 ⟨(some 150), .pick (.t 147) (.t 149) (.c (.bool false)), none⟩,
 ⟨(some 151), .mv (.t 150), none⟩,
 ⟨(some 152), .faddr 0 (.t 10), (some (151, true))⟩,
 ⟨(some 153), .load none (.t 152), (some (151, true))⟩,
 ⟨(some 154), .faddr 0 (.t 21), (some (151, true))⟩,
 ⟨(some 155), .load none (.t 154), (some (151, true))⟩,
 ⟨(some 156), .call (.f 59) [(.t 153), (.t 155)], (some (151, true))⟩,
 ⟨(some 157), .pick (.t 151) (.t 156) (.c (.bool false)), none⟩,
 ⟨(some 8), .mv (.t 157), none⟩] [8])
 .ret)))))))))))),
 [.t 8]⟩
theorem k13 : chkF Try.prog Try.f13 c13 = true := by kernel_rfl

theorem gone_ne {σ : Sto} {f g i : Nat} (h : g ≠ f) : (gone σ f).at g i = σ.at g i := by
  unfold gone Sto.at
  rw [List.getElem?_set_ne fun e => h e.symm]
theorem means_ok {p : Pp} {t : Pt} {c : Int} (hg : p.good) (ht : t.right) (c0 : 0 ≤ c) (c1 : c ≤ p.co - 1) : p.Means t c = (p.rmeans t c, 0) := by
  rw [means_eq]
  unfold Pp.RMeans
  have h1 : p.perr1 t = 0 := by unfold Pp.perr1; rw [if_pos hg, if_pos ht]
  simp [h1, c0, c1]

/-- Points in turn, backwards, and one of them once more. -/
def backL (l : List Pt) (again : Int) : List Pt := l.reverse ++ (if 0 ≤ again ∧ again < l.length then (l[again.toNat]?).toList else [])
theorem backL_mem {l : List Pt} {again : Int} (t : Pt) : t ∈ backL l again ↔ t ∈ l := by
  unfold backL
  rw [List.mem_append, List.mem_reverse]
  refine ⟨fun h => h.elim id fun h => ?_, .inl⟩
  split at h
  · cases hx : l[again.toNat]? with
    | none => simp [hx] at h
    | some x =>
      simp only [hx, Option.toList, List.mem_singleton] at h
      exact h ▸ List.mem_of_getElem? hx
  · cases h
theorem backL_len (l : List Pt) (again : Int) : (backL l again).length ≤ l.length + 1 := by
  unfold backL
  rw [List.length_append, List.length_reverse]
  split
  · cases l[again.toNat]? <;> simp
  · simp

theorem PaperTraces_spec (p : Pp) (l : List Pt) (bs : List Int) (again : Int) (hl : l.length < 9223372036854775808) (hb : bs.length < 9223372036854775808) : Pure Try.prog 13 [.agg p.cs, ptS l, inS bs, n again] (bl true) := by
  refine Pure.of_body Try.call13 Try.func13 k13 (Nat.le_of_ble_eq_true rfl) ?_
  unfold c13
  by_cases hfew : l.length ≤ 12 ∧ bs.length ≤ 300
  case neg =>
    (repeat' first
 | (refine AWPC.of_vcn rfl ?_; simp only [zT, zV, zS, zU, vcC, lateX, ex, strp, cnd, binA, kseq, kblk, kret, klp, Abs.one, elems, cells, scalar, eqC, Nat.reduceBEq, Nat.reduceAdd, Nat.reduceSub, Nat.reduceLT, Nat.reduceLeDiff, Nat.reduceMul, Nat.reduceEqDiff, cond_true, cond_false, if_true, if_false, reduceIte, implies_true, forall_const, ne_eq])
 | (simp (disch := omega) only [wr64, Int.zero_sub]; try simp only [zT, zV, zS, zU, vcC, lateX, ex, strp, cnd, binA, kseq, kblk, kret, klp, Abs.one, elems, cells, scalar, eqC, Nat.reduceBEq, Nat.reduceAdd, Nat.reduceSub, Nat.reduceLT, Nat.reduceLeDiff, Nat.reduceMul, Nat.reduceEqDiff, cond_true, cond_false, if_true, if_false, reduceIte, implies_true, forall_const, ne_eq])
 | (refine AWPC.both (fun _ => ?_) (fun _ => ?_))
 | (refine AWPC.imp (fun _ => ?_))
 | ((repeat (refine And.intro (by (intros; first | omega | (simp_all (config := { decide := false }); done) | fail)) ?_)); (first
 | (refine .inl ⟨_, _, _, _, rfl, fun _hc => ⟨by simp, awake_spec⟩, ?_⟩)
 | (refine ⟨_, _, _, _, rfl, fun _hc => ⟨by simp, awake_spec⟩, ?_⟩)
 | fail); (first | refine owp_of_exs ?_ | refine pre_of_exd ?_ | refine pre_of_exe ?_ | fail); simp only [zT, zV, zS, zU, vcC, lateX, ex, strp, cnd, binA, kseq, kblk, kret, klp, Abs.one, elems, cells, scalar, eqC, Nat.reduceBEq, Nat.reduceAdd, Nat.reduceSub, Nat.reduceLT, Nat.reduceLeDiff, Nat.reduceMul, Nat.reduceEqDiff, cond_true, cond_false, if_true, if_false, reduceIte, implies_true, forall_const, ne_eq])
 | ((refine .inl ⟨_, _, _, .any, rfl, fun h => absurd h Bool.false_ne_true, ?_⟩); refine owp_of_exs ?_; simp only [zT, zV, zS, zU, vcC, lateX, ex, strp, cnd, binA, kseq, kblk, kret, klp, Abs.one, elems, cells, scalar, eqC, Nat.reduceBEq, Nat.reduceAdd, Nat.reduceSub, Nat.reduceLT, Nat.reduceLeDiff, Nat.reduceMul, Nat.reduceEqDiff, cond_true, cond_false, if_true, if_false, reduceIte, implies_true, forall_const, ne_eq])
 | (refine ⟨by omega, ?_⟩)
 | (refine And.intro (by (intros; first | (simp_all (config := { decide := false }); done) | fail)) ?_)
 | fail)
    all_goals first
      | exact Frz.eq rfl (by simp)
      | (exfalso; omega)
  have h1 := Ink_spec p l bs (by omega) hb
  by_cases he : (inkE p l bs).2 = 0
  case neg =>
    rw [show (inkE p l bs).1 = [] from inkE_bad he] at h1
    generalize (inkE p l bs).2 = e at *
    (repeat' first
 | (refine AWPC.of_vcn rfl ?_; simp only [zT, zV, zS, zU, vcC, lateX, ex, strp, cnd, binA, kseq, kblk, kret, klp, Abs.one, elems, cells, scalar, eqC, Nat.reduceBEq, Nat.reduceAdd, Nat.reduceSub, Nat.reduceLT, Nat.reduceLeDiff, Nat.reduceMul, Nat.reduceEqDiff, cond_true, cond_false, if_true, if_false, reduceIte, implies_true, forall_const, ne_eq])
 | (simp (disch := omega) only [wr64, Int.zero_sub]; try simp only [zT, zV, zS, zU, vcC, lateX, ex, strp, cnd, binA, kseq, kblk, kret, klp, Abs.one, elems, cells, scalar, eqC, Nat.reduceBEq, Nat.reduceAdd, Nat.reduceSub, Nat.reduceLT, Nat.reduceLeDiff, Nat.reduceMul, Nat.reduceEqDiff, cond_true, cond_false, if_true, if_false, reduceIte, implies_true, forall_const, ne_eq])
 | (refine AWPC.both (fun _ => ?_) (fun _ => ?_))
 | (refine AWPC.imp (fun _ => ?_))
 | ((repeat (refine And.intro (by (intros; first | omega | (simp_all (config := { decide := false }); done) | fail)) ?_)); (first
 | (refine .inl ⟨_, _, _, _, rfl, fun _hc => ⟨by simp, awake_spec⟩, ?_⟩)
 | (refine .inl ⟨_, _, _, _, rfl, fun _hc => ⟨by simp, h1⟩, ?_⟩)
 | (refine ⟨_, _, _, _, rfl, fun _hc => ⟨by simp, awake_spec⟩, ?_⟩)
 | (refine ⟨_, _, _, _, rfl, fun _hc => ⟨by simp, h1⟩, ?_⟩)
 | fail); (first | refine owp_of_exs ?_ | refine pre_of_exd ?_ | refine pre_of_exe ?_ | fail); simp only [zT, zV, zS, zU, vcC, lateX, ex, strp, cnd, binA, kseq, kblk, kret, klp, Abs.one, elems, cells, scalar, eqC, Nat.reduceBEq, Nat.reduceAdd, Nat.reduceSub, Nat.reduceLT, Nat.reduceLeDiff, Nat.reduceMul, Nat.reduceEqDiff, cond_true, cond_false, if_true, if_false, reduceIte, implies_true, forall_const, ne_eq])
 | ((refine .inl ⟨_, _, _, .any, rfl, fun h => absurd h Bool.false_ne_true, ?_⟩); refine owp_of_exs ?_; simp only [zT, zV, zS, zU, vcC, lateX, ex, strp, cnd, binA, kseq, kblk, kret, klp, Abs.one, elems, cells, scalar, eqC, Nat.reduceBEq, Nat.reduceAdd, Nat.reduceSub, Nat.reduceLT, Nat.reduceLeDiff, Nat.reduceMul, Nat.reduceEqDiff, cond_true, cond_false, if_true, if_false, reduceIte, implies_true, forall_const, ne_eq])
 | (refine ⟨by omega, ?_⟩)
 | (refine And.intro (by (intros; first | (simp_all (config := { decide := false }); done) | fail)) ?_)
 | fail)
    all_goals try (exfalso; omega)
    exact Frz.eq rfl (by simp)
  have hbk := inkE_same (k := backL l again) he (by have := backL_len l again; omega) fun t => backL_mem t
  have h2 := Ink_spec p (backL l again) bs (by have := backL_len l again; omega) hb
  rw [hbk] at h2
  have hT := tiny_ink p l bs
  have h3 := sets_tiny hT hT
  rw [decide_eq_true rfl] at h3
  obtain ⟨hg, htr, hbo, hmy⟩ := inkE_ok.1 he
  have hok := (trace_ok htr).2
  rw [inkE_fst he] at h1 h2 h3
  have hco := good_co hg
  obtain ⟨N, hN⟩ : ∃ N : Nat, p.co = N := ⟨p.co.toNat, by omega⟩
  have hXl : (inkX p l bs).length = N := by rw [inkX_len]; omega
  have hXg : ∀ c : Nat, c < N → (inkX p l bs)[c]? = some (inkB p l bs c) := fun c hc => inkX_get (by omega)
  simp only at h1 h2 h3
  generalize inkX p l bs = X at *
  (repeat' first
 | (refine AWPC.of_vcn rfl ?_; simp only [zT, zV, zS, zU, vcC, lateX, ex, strp, cnd, binA, kseq, kblk, kret, klp, Abs.one, elems, cells, scalar, eqC, Nat.reduceBEq, Nat.reduceAdd, Nat.reduceSub, Nat.reduceLT, Nat.reduceLeDiff, Nat.reduceMul, Nat.reduceEqDiff, cond_true, cond_false, if_true, if_false, reduceIte, implies_true, forall_const, ne_eq])
 | (simp (disch := omega) only [wr64, Int.zero_sub]; try simp only [zT, zV, zS, zU, vcC, lateX, ex, strp, cnd, binA, kseq, kblk, kret, klp, Abs.one, elems, cells, scalar, eqC, Nat.reduceBEq, Nat.reduceAdd, Nat.reduceSub, Nat.reduceLT, Nat.reduceLeDiff, Nat.reduceMul, Nat.reduceEqDiff, cond_true, cond_false, if_true, if_false, reduceIte, implies_true, forall_const, ne_eq])
 | (refine AWPC.both (fun _ => ?_) (fun _ => ?_))
 | (refine AWPC.imp (fun _ => ?_))
 | ((repeat (refine And.intro (by (intros; first | omega | (simp_all (config := { decide := false }); done) | fail)) ?_)); (first
 | (refine .inl ⟨_, _, _, _, rfl, fun _hc => ⟨by simp, awake_spec⟩, ?_⟩)
 | (refine .inl ⟨_, _, _, _, rfl, fun _hc => ⟨by simp, h1⟩, ?_⟩)
 | (refine ⟨_, _, _, _, rfl, fun _hc => ⟨by simp, awake_spec⟩, ?_⟩)
 | (refine ⟨_, _, _, _, rfl, fun _hc => ⟨by simp, h1⟩, ?_⟩)
 | fail); (first | refine owp_of_exs ?_ | refine pre_of_exd ?_ | refine pre_of_exe ?_ | fail); simp only [zT, zV, zS, zU, vcC, lateX, ex, strp, cnd, binA, kseq, kblk, kret, klp, Abs.one, elems, cells, scalar, eqC, Nat.reduceBEq, Nat.reduceAdd, Nat.reduceSub, Nat.reduceLT, Nat.reduceLeDiff, Nat.reduceMul, Nat.reduceEqDiff, cond_true, cond_false, if_true, if_false, reduceIte, implies_true, forall_const, ne_eq])
 | ((refine .inl ⟨_, _, _, .any, rfl, fun h => absurd h Bool.false_ne_true, ?_⟩); refine owp_of_exs ?_; simp only [zT, zV, zS, zU, vcC, lateX, ex, strp, cnd, binA, kseq, kblk, kret, klp, Abs.one, elems, cells, scalar, eqC, Nat.reduceBEq, Nat.reduceAdd, Nat.reduceSub, Nat.reduceLT, Nat.reduceLeDiff, Nat.reduceMul, Nat.reduceEqDiff, cond_true, cond_false, if_true, if_false, reduceIte, implies_true, forall_const, ne_eq])
 | (refine ⟨by omega, ?_⟩)
 | (refine And.intro (by (intros; first | (simp_all (config := { decide := false }); done) | fail)) ?_)
 | fail)
  all_goals try (exfalso; omega)
  refine AWPC.loopE (α := { q : Nat × Sto // q.1 ≤ N ∧ q.2.at 0 0 = some ⟨56, 1, [[colS X]], none⟩ }) [12] (fun q => [(12, n q.1.1)]) (fun q => q.1.2) (fun q => N - q.1.1) ⟨(0, _), Nat.zero_le _, rfl⟩ ?_ rfl ?_
  · (simp only [zT, zV, zS, zU, vcC, lateX, ex, strp, cnd, binA, kseq, kblk, kret, klp, Abs.one, elems, cells, scalar, eqC, Nat.reduceBEq, Nat.reduceAdd, Nat.reduceSub, Nat.reduceLT, Nat.reduceLeDiff, Nat.reduceMul, Nat.reduceEqDiff, cond_true, cond_false, if_true, if_false, reduceIte, implies_true, forall_const, ne_eq]; try simp)
  rintro ⟨⟨c, τ⟩, hc, hτ⟩
  simp only at hc hτ
  simp only
  have l0 := at_lt hτ
  by_cases hlt : c < N
  · (repeat' first
 | (refine AWPC.of_vcn rfl ?_; simp only [zT, zV, zS, zU, vcC, lateX, ex, strp, cnd, binA, kseq, kblk, kret, klp, Abs.one, elems, cells, scalar, eqC, Nat.reduceBEq, Nat.reduceAdd, Nat.reduceSub, Nat.reduceLT, Nat.reduceLeDiff, Nat.reduceMul, Nat.reduceEqDiff, cond_true, cond_false, if_true, if_false, reduceIte, implies_true, forall_const, ne_eq])
 | (simp (disch := omega) only [wr64, Int.zero_sub]; try simp only [zT, zV, zS, zU, vcC, lateX, ex, strp, cnd, binA, kseq, kblk, kret, klp, Abs.one, elems, cells, scalar, eqC, Nat.reduceBEq, Nat.reduceAdd, Nat.reduceSub, Nat.reduceLT, Nat.reduceLeDiff, Nat.reduceMul, Nat.reduceEqDiff, cond_true, cond_false, if_true, if_false, reduceIte, implies_true, forall_const, ne_eq])
 | (refine AWPC.both (fun _ => ?_) (fun _ => ?_))
 | (refine AWPC.imp (fun _ => ?_))
 | ((refine .inl ⟨_, _, _, .any, rfl, fun h => absurd h Bool.false_ne_true, ?_⟩); refine owp_of_exs ?_; simp only [zT, zV, zS, zU, vcC, lateX, ex, strp, cnd, binA, kseq, kblk, kret, klp, Abs.one, elems, cells, scalar, eqC, Nat.reduceBEq, Nat.reduceAdd, Nat.reduceSub, Nat.reduceLT, Nat.reduceLeDiff, Nat.reduceMul, Nat.reduceEqDiff, cond_true, cond_false, if_true, if_false, reduceIte, implies_true, forall_const, ne_eq])
 | (refine ⟨by omega, ?_⟩)
 | (refine And.intro (by (intros; first | (simp_all (config := { decide := false }); done) | fail)) ?_)
 | fail)
    all_goals try (exfalso; omega)
    refine AWPC.loopS (α := { i : Nat // i ≤ bs.length }) [13, 14] (fun i => [(13, bl ((bs.take i.1).any fun b => decide (b = (c : Int)))), (14, n i.1)]) (fun i => bs.length - i.1) ⟨0, Nat.zero_le _⟩ ?_ ?_
    · (simp only [zT, zV, zS, zU, vcC, lateX, ex, strp, cnd, binA, kseq, kblk, kret, klp, Abs.one, elems, cells, scalar, eqC, Nat.reduceBEq, Nat.reduceAdd, Nat.reduceSub, Nat.reduceLT, Nat.reduceLeDiff, Nat.reduceMul, Nat.reduceEqDiff, cond_true, cond_false, if_true, if_false, reduceIte, implies_true, forall_const, ne_eq]; try simp)
      try rfl
    rintro ⟨i, hi⟩
    by_cases hlt2 : i < bs.length
    · obtain ⟨b, hb'⟩ : ∃ b, bs[i]? = some b := ⟨_, List.getElem?_eq_getElem hlt2⟩
      have hn : (bs.take (i + 1)).any (fun b => decide (b = (c : Int))) = ((bs.take i).any (fun b => decide (b = (c : Int))) || decide (b = (c : Int))) := by
        rw [List.take_add_one, hb', List.any_append]; simp
      have hbg := getD_map (f := fun z => [n z]) (d := []) hb'
      generalize (bs.take i).any (fun b => decide (b = (c : Int))) = B at *
      (repeat' first
 | (refine AWPC.of_vcn rfl ?_; simp only [zT, zV, zS, zU, vcC, lateX, ex, strp, cnd, binA, kseq, kblk, kret, klp, Abs.one, elems, cells, scalar, eqC, Nat.reduceBEq, Nat.reduceAdd, Nat.reduceSub, Nat.reduceLT, Nat.reduceLeDiff, Nat.reduceMul, Nat.reduceEqDiff, cond_true, cond_false, if_true, if_false, reduceIte, implies_true, forall_const, ne_eq, hbg])
 | (simp (disch := omega) only [wr64, Int.zero_sub]; try simp only [zT, zV, zS, zU, vcC, lateX, ex, strp, cnd, binA, kseq, kblk, kret, klp, Abs.one, elems, cells, scalar, eqC, Nat.reduceBEq, Nat.reduceAdd, Nat.reduceSub, Nat.reduceLT, Nat.reduceLeDiff, Nat.reduceMul, Nat.reduceEqDiff, cond_true, cond_false, if_true, if_false, reduceIte, implies_true, forall_const, ne_eq, hbg])
 | (refine AWPC.both (fun _ => ?_) (fun _ => ?_))
 | (refine AWPC.imp (fun _ => ?_))
 | ((refine .inl ⟨_, _, _, .any, rfl, fun h => absurd h Bool.false_ne_true, ?_⟩); refine owp_of_exs ?_; simp only [zT, zV, zS, zU, vcC, lateX, ex, strp, cnd, binA, kseq, kblk, kret, klp, Abs.one, elems, cells, scalar, eqC, Nat.reduceBEq, Nat.reduceAdd, Nat.reduceSub, Nat.reduceLT, Nat.reduceLeDiff, Nat.reduceMul, Nat.reduceEqDiff, cond_true, cond_false, if_true, if_false, reduceIte, implies_true, forall_const, ne_eq, hbg])
 | (refine ⟨by omega, ?_⟩)
 | (refine And.intro (by (intros; first | (simp_all (config := { decide := false }); done) | fail)) ?_)
 | fail)
      all_goals try (exfalso; omega)
      exact ⟨⟨i + 1, hlt2⟩, ⟨by rw [hn], by simp⟩, by simp only; omega⟩
    · obtain rfl : i = bs.length := by omega
      have hbf : (bs.take bs.length).any (fun b => decide (b = (c : Int))) = decide ((c : Int) ∈ bs) := by
        rw [List.take_length, Bool.eq_iff_iff, List.any_eq_true, decide_eq_true_eq]
        exact ⟨fun ⟨b, hb, e⟩ => by have := of_decide_eq_true e; subst this; exact hb, fun h => ⟨_, h, by simp⟩⟩
      (repeat' first
 | (refine AWPC.of_vcn rfl ?_; simp only [zT, zV, zS, zU, vcC, lateX, ex, strp, cnd, binA, kseq, kblk, kret, klp, Abs.one, elems, cells, scalar, eqC, Nat.reduceBEq, Nat.reduceAdd, Nat.reduceSub, Nat.reduceLT, Nat.reduceLeDiff, Nat.reduceMul, Nat.reduceEqDiff, cond_true, cond_false, if_true, if_false, reduceIte, implies_true, forall_const, ne_eq, hbf])
 | (simp (disch := omega) only [wr64, Int.zero_sub]; try simp only [zT, zV, zS, zU, vcC, lateX, ex, strp, cnd, binA, kseq, kblk, kret, klp, Abs.one, elems, cells, scalar, eqC, Nat.reduceBEq, Nat.reduceAdd, Nat.reduceSub, Nat.reduceLT, Nat.reduceLeDiff, Nat.reduceMul, Nat.reduceEqDiff, cond_true, cond_false, if_true, if_false, reduceIte, implies_true, forall_const, ne_eq, hbf])
 | (refine AWPC.both (fun _ => ?_) (fun _ => ?_))
 | (refine AWPC.imp (fun _ => ?_))
 | ((refine .inl ⟨_, _, _, .any, rfl, fun h => absurd h Bool.false_ne_true, ?_⟩); refine owp_of_exs ?_; simp only [zT, zV, zS, zU, vcC, lateX, ex, strp, cnd, binA, kseq, kblk, kret, klp, Abs.one, elems, cells, scalar, eqC, Nat.reduceBEq, Nat.reduceAdd, Nat.reduceSub, Nat.reduceLT, Nat.reduceLeDiff, Nat.reduceMul, Nat.reduceEqDiff, cond_true, cond_false, if_true, if_false, reduceIte, implies_true, forall_const, ne_eq, hbf])
 | (refine ⟨by omega, ?_⟩)
 | (refine And.intro (by (intros; first | (simp_all (config := { decide := false }); done) | fail)) ?_)
 | fail)
      all_goals try (exfalso; omega)
      refine AWPC.own0 34 1 15 rfl ?_
      refine AWPC.loopE (α := { i : Nat // i ≤ l.length ∧ (i = 0 ∨ ¬ (c : Int) ∈ bs) }) [15, 16] (fun i => [(15, .own (List.length τ) 0 i.1), (16, n i.1)]) (fun i => τ ++ [some [⟨34, 1, (l.take i.1).map (fun t => [spS (p.rmeans t c)]), none⟩]]) (fun i => l.length - i.1) ⟨0, Nat.zero_le _, .inl rfl⟩ ?_ rfl ?_
      · (simp only [zT, zV, zS, zU, vcC, lateX, ex, strp, cnd, binA, kseq, kblk, kret, klp, Abs.one, elems, cells, scalar, eqC, Nat.reduceBEq, Nat.reduceAdd, Nat.reduceSub, Nat.reduceLT, Nat.reduceLeDiff, Nat.reduceMul, Nat.reduceEqDiff, cond_true, cond_false, if_true, if_false, reduceIte, implies_true, forall_const, ne_eq]; try simp)
      rintro ⟨i, hi, hi0⟩
      have hτ2 : ∀ ν, Sto.at (τ ++ ν) 0 0 = some ⟨56, 1, [[colS X]], none⟩ := fun ν => by rw [at_appL l0]; exact hτ
      by_cases hgo : i < l.length ∧ ¬ (c : Int) ∈ bs
      · obtain ⟨hlt3, hin⟩ := hgo
        obtain ⟨t, ht⟩ : ∃ t, l[i]? = some t := ⟨_, List.getElem?_eq_getElem hlt3⟩
        have hm := Means_spec p t c
        rw [means_ok hg (hok t (List.mem_of_getElem? ht)) (by omega) (by omega)] at hm
        have hzt : l.take (i + 1) = l.take i ++ [t] := by rw [List.take_add_one, ht]; rfl
        have htl : ((l.take i).map (fun t => [spS (p.rmeans t c)])).length = i := by rw [List.length_map, List.length_take]; omega
        rw [decide_eq_false hin]
        (repeat' first
 | (refine AWPC.of_vcn rfl ?_; simp only [zT, zV, zS, zU, vcC, lateX, ex, strp, cnd, binA, kseq, kblk, kret, klp, Abs.one, elems, cells, scalar, eqC, Nat.reduceBEq, Nat.reduceAdd, Nat.reduceSub, Nat.reduceLT, Nat.reduceLeDiff, Nat.reduceMul, Nat.reduceEqDiff, cond_true, cond_false, if_true, if_false, reduceIte, implies_true, forall_const, ne_eq, getD_map ht, htl])
 | (simp (disch := omega) only [wr64, Int.zero_sub]; try simp only [zT, zV, zS, zU, vcC, lateX, ex, strp, cnd, binA, kseq, kblk, kret, klp, Abs.one, elems, cells, scalar, eqC, Nat.reduceBEq, Nat.reduceAdd, Nat.reduceSub, Nat.reduceLT, Nat.reduceLeDiff, Nat.reduceMul, Nat.reduceEqDiff, cond_true, cond_false, if_true, if_false, reduceIte, implies_true, forall_const, ne_eq, getD_map ht, htl])
 | (refine AWPC.both (fun _ => ?_) (fun _ => ?_))
 | (refine AWPC.imp (fun _ => ?_))
 | ((repeat (refine And.intro (by (intros; first | omega | (simp_all (config := { decide := false }); done) | fail)) ?_)); (first
 | (refine .inl ⟨_, _, _, _, rfl, fun _hc => ⟨by simp, hm⟩, ?_⟩)
 | (refine ⟨_, _, _, _, rfl, fun _hc => ⟨by simp, hm⟩, ?_⟩)
 | fail); (first | refine owp_of_exs ?_ | refine pre_of_exd ?_ | refine pre_of_exe ?_ | fail); simp only [zT, zV, zS, zU, vcC, lateX, ex, strp, cnd, binA, kseq, kblk, kret, klp, Abs.one, elems, cells, scalar, eqC, Nat.reduceBEq, Nat.reduceAdd, Nat.reduceSub, Nat.reduceLT, Nat.reduceLeDiff, Nat.reduceMul, Nat.reduceEqDiff, cond_true, cond_false, if_true, if_false, reduceIte, implies_true, forall_const, ne_eq, getD_map ht, htl])
 | ((refine .inl ⟨_, _, _, .any, rfl, fun h => absurd h Bool.false_ne_true, ?_⟩); refine owp_of_exs ?_; simp only [zT, zV, zS, zU, vcC, lateX, ex, strp, cnd, binA, kseq, kblk, kret, klp, Abs.one, elems, cells, scalar, eqC, Nat.reduceBEq, Nat.reduceAdd, Nat.reduceSub, Nat.reduceLT, Nat.reduceLeDiff, Nat.reduceMul, Nat.reduceEqDiff, cond_true, cond_false, if_true, if_false, reduceIte, implies_true, forall_const, ne_eq, getD_map ht, htl])
 | (refine ⟨by omega, ?_⟩)
 | (refine And.intro (by (intros; first | (simp_all (config := { decide := false }); done) | fail)) ?_)
 | fail)
        all_goals try (exfalso; omega)
        exact ⟨⟨i + 1, hlt3, .inr hin⟩, ⟨rfl, by simp⟩, by simp only; rw [hzt]; simp, by simp only; omega⟩
      · have hcb := inkB_nb (p := p) (l := l) (bs := bs) hg hok c
        have hj : Pure Try.prog 60 [spS (inkB p l bs c), colS ((l.take i).map fun t => p.rmeans t c)] (bl true) := by
          refine joined_spec _ _ hcb (fun q hq => ?_) (by rw [List.length_map, List.length_take]; omega) fun v => ?_
          · obtain ⟨t, ht, rfl⟩ := List.mem_map.1 hq
            exact rmeans_nb hg (hok t (List.mem_of_mem_take ht))
          · unfold inkB
            by_cases hin : (c : Int) ∈ bs
            · have : i = 0 := hi0.resolve_right fun h => h hin
              subst this
              rw [if_pos hin]; simp [Mem.nil]
            · have : i = l.length := by
                rcases Nat.lt_or_ge i l.length with h | h
                · exact absurd ⟨h, hin⟩ hgo
                · omega
              subst this
              rw [if_neg hin, (inkC_ok hg hok).2, List.take_length]
              exact ⟨fun ⟨t, h1, h2⟩ => ⟨_, List.mem_map.2 ⟨t, h1, rfl⟩, h2⟩, fun ⟨_, h1, h2⟩ => by obtain ⟨t, h3, rfl⟩ := List.mem_map.1 h1; exact ⟨t, h3, h2⟩⟩
        have hxc := hXg c hlt
        refine AWPC.freeze1 (f := List.length τ) (t := 15) (o := ⟨34, 1, (l.take i).map (fun t => [spS (p.rmeans t c)]), none⟩) rfl (by rw [at_app0]; rfl) (by simp only [List.length_map, List.length_take]; omega) (show (1 : Nat) ≠ 0 by decide) ?_
        have hτ3 : Sto.at (gone (τ ++ [some [⟨34, 1, (l.take i).map (fun t => [spS (p.rmeans t c)]), none⟩]]) (List.length τ)) 0 0 = some ⟨56, 1, [[colS X]], none⟩ := by rw [gone_ne (by omega)]; exact hτ2 _
        generalize gone (τ ++ [some [⟨34, 1, (l.take i).map (fun t => [spS (p.rmeans t c)]), none⟩]]) (List.length τ) = τ3 at *
        simp only
        rw [show (l.take i).map (fun t => [spS (p.rmeans t c)]) = ((l.take i).map fun t => p.rmeans t c).map fun x => [spS x] by rw [List.map_map]; rfl]
        generalize (l.take i).map (fun t => p.rmeans t c) = ps at *
        by_cases hin : (c : Int) ∈ bs
        · rw [decide_eq_true hin]
          (repeat' first
 | (refine AWPC.of_vcn rfl ?_; simp only [zT, zV, zS, zU, vcC, lateX, ex, strp, cnd, binA, kseq, kblk, kret, klp, Abs.one, elems, cells, scalar, eqC, Nat.reduceBEq, Nat.reduceAdd, Nat.reduceSub, Nat.reduceLT, Nat.reduceLeDiff, Nat.reduceMul, Nat.reduceEqDiff, cond_true, cond_false, if_true, if_false, reduceIte, implies_true, forall_const, ne_eq, hτ3, getD_map hxc])
 | (simp (disch := omega) only [wr64, Int.zero_sub]; try simp only [zT, zV, zS, zU, vcC, lateX, ex, strp, cnd, binA, kseq, kblk, kret, klp, Abs.one, elems, cells, scalar, eqC, Nat.reduceBEq, Nat.reduceAdd, Nat.reduceSub, Nat.reduceLT, Nat.reduceLeDiff, Nat.reduceMul, Nat.reduceEqDiff, cond_true, cond_false, if_true, if_false, reduceIte, implies_true, forall_const, ne_eq, hτ3, getD_map hxc])
 | (refine AWPC.both (fun _ => ?_) (fun _ => ?_))
 | (refine AWPC.imp (fun _ => ?_))
 | ((repeat (refine And.intro (by (intros; first | omega | (simp_all (config := { decide := false }); done) | fail)) ?_)); (first
 | (refine .inl ⟨_, _, _, _, rfl, fun _hc => ⟨by simp, hj⟩, ?_⟩)
 | (refine ⟨_, _, _, _, rfl, fun _hc => ⟨by simp, hj⟩, ?_⟩)
 | fail); (first | refine owp_of_exs ?_ | refine pre_of_exd ?_ | refine pre_of_exe ?_ | fail); simp only [zT, zV, zS, zU, vcC, lateX, ex, strp, cnd, binA, kseq, kblk, kret, klp, Abs.one, elems, cells, scalar, eqC, Nat.reduceBEq, Nat.reduceAdd, Nat.reduceSub, Nat.reduceLT, Nat.reduceLeDiff, Nat.reduceMul, Nat.reduceEqDiff, cond_true, cond_false, if_true, if_false, reduceIte, implies_true, forall_const, ne_eq, hτ3, getD_map hxc])
 | ((refine .inl ⟨_, _, _, .any, rfl, fun h => absurd h Bool.false_ne_true, ?_⟩); refine owp_of_exs ?_; simp only [zT, zV, zS, zU, vcC, lateX, ex, strp, cnd, binA, kseq, kblk, kret, klp, Abs.one, elems, cells, scalar, eqC, Nat.reduceBEq, Nat.reduceAdd, Nat.reduceSub, Nat.reduceLT, Nat.reduceLeDiff, Nat.reduceMul, Nat.reduceEqDiff, cond_true, cond_false, if_true, if_false, reduceIte, implies_true, forall_const, ne_eq, hτ3, getD_map hxc])
 | (refine ⟨by omega, ?_⟩)
 | (refine And.intro (by (intros; first | (simp_all (config := { decide := false }); done) | fail)) ?_)
 | fail)
          all_goals try (exfalso; omega)
          all_goals exact ⟨⟨(c + 1, τ3), hlt, hτ3⟩, by simp, rfl, by simp only; omega⟩
        · have hil : ¬ i < l.length := fun h => hgo ⟨h, hin⟩
          rw [decide_eq_false hin]
          (repeat' first
 | (refine AWPC.of_vcn rfl ?_; simp only [zT, zV, zS, zU, vcC, lateX, ex, strp, cnd, binA, kseq, kblk, kret, klp, Abs.one, elems, cells, scalar, eqC, Nat.reduceBEq, Nat.reduceAdd, Nat.reduceSub, Nat.reduceLT, Nat.reduceLeDiff, Nat.reduceMul, Nat.reduceEqDiff, cond_true, cond_false, if_true, if_false, reduceIte, implies_true, forall_const, ne_eq, hτ3, getD_map hxc])
 | (simp (disch := omega) only [wr64, Int.zero_sub]; try simp only [zT, zV, zS, zU, vcC, lateX, ex, strp, cnd, binA, kseq, kblk, kret, klp, Abs.one, elems, cells, scalar, eqC, Nat.reduceBEq, Nat.reduceAdd, Nat.reduceSub, Nat.reduceLT, Nat.reduceLeDiff, Nat.reduceMul, Nat.reduceEqDiff, cond_true, cond_false, if_true, if_false, reduceIte, implies_true, forall_const, ne_eq, hτ3, getD_map hxc])
 | (refine AWPC.both (fun _ => ?_) (fun _ => ?_))
 | (refine AWPC.imp (fun _ => ?_))
 | ((repeat (refine And.intro (by (intros; first | omega | (simp_all (config := { decide := false }); done) | fail)) ?_)); (first
 | (refine .inl ⟨_, _, _, _, rfl, fun _hc => ⟨by simp, hj⟩, ?_⟩)
 | (refine ⟨_, _, _, _, rfl, fun _hc => ⟨by simp, hj⟩, ?_⟩)
 | fail); (first | refine owp_of_exs ?_ | refine pre_of_exd ?_ | refine pre_of_exe ?_ | fail); simp only [zT, zV, zS, zU, vcC, lateX, ex, strp, cnd, binA, kseq, kblk, kret, klp, Abs.one, elems, cells, scalar, eqC, Nat.reduceBEq, Nat.reduceAdd, Nat.reduceSub, Nat.reduceLT, Nat.reduceLeDiff, Nat.reduceMul, Nat.reduceEqDiff, cond_true, cond_false, if_true, if_false, reduceIte, implies_true, forall_const, ne_eq, hτ3, getD_map hxc])
 | ((refine .inl ⟨_, _, _, .any, rfl, fun h => absurd h Bool.false_ne_true, ?_⟩); refine owp_of_exs ?_; simp only [zT, zV, zS, zU, vcC, lateX, ex, strp, cnd, binA, kseq, kblk, kret, klp, Abs.one, elems, cells, scalar, eqC, Nat.reduceBEq, Nat.reduceAdd, Nat.reduceSub, Nat.reduceLT, Nat.reduceLeDiff, Nat.reduceMul, Nat.reduceEqDiff, cond_true, cond_false, if_true, if_false, reduceIte, implies_true, forall_const, ne_eq, hτ3, getD_map hxc])
 | (refine ⟨by omega, ?_⟩)
 | (refine And.intro (by (intros; first | (simp_all (config := { decide := false }); done) | fail)) ?_)
 | fail)
          all_goals try (exfalso; omega)
          all_goals exact ⟨⟨(c + 1, τ3), hlt, hτ3⟩, by simp, rfl, by simp only; omega⟩
  · obtain rfl : N = c := by omega
    have hτ2 : ∀ ν, Sto.at (τ ++ ν) 0 0 = some ⟨56, 1, [[colS X]], none⟩ := fun ν => by rw [at_appL l0]; exact hτ
    (repeat' first
 | (refine AWPC.of_vcn rfl ?_; simp only [zT, zV, zS, zU, vcC, lateX, ex, strp, cnd, binA, kseq, kblk, kret, klp, Abs.one, elems, cells, scalar, eqC, Nat.reduceBEq, Nat.reduceAdd, Nat.reduceSub, Nat.reduceLT, Nat.reduceLeDiff, Nat.reduceMul, Nat.reduceEqDiff, cond_true, cond_false, if_true, if_false, reduceIte, implies_true, forall_const, ne_eq])
 | (simp (disch := omega) only [wr64, Int.zero_sub]; try simp only [zT, zV, zS, zU, vcC, lateX, ex, strp, cnd, binA, kseq, kblk, kret, klp, Abs.one, elems, cells, scalar, eqC, Nat.reduceBEq, Nat.reduceAdd, Nat.reduceSub, Nat.reduceLT, Nat.reduceLeDiff, Nat.reduceMul, Nat.reduceEqDiff, cond_true, cond_false, if_true, if_false, reduceIte, implies_true, forall_const, ne_eq])
 | (refine AWPC.both (fun _ => ?_) (fun _ => ?_))
 | (refine AWPC.imp (fun _ => ?_))
 | ((refine .inl ⟨_, _, _, .any, rfl, fun h => absurd h Bool.false_ne_true, ?_⟩); refine owp_of_exs ?_; simp only [zT, zV, zS, zU, vcC, lateX, ex, strp, cnd, binA, kseq, kblk, kret, klp, Abs.one, elems, cells, scalar, eqC, Nat.reduceBEq, Nat.reduceAdd, Nat.reduceSub, Nat.reduceLT, Nat.reduceLeDiff, Nat.reduceMul, Nat.reduceEqDiff, cond_true, cond_false, if_true, if_false, reduceIte, implies_true, forall_const, ne_eq])
 | (refine ⟨by omega, ?_⟩)
 | (refine And.intro (by (intros; first | (simp_all (config := { decide := false }); done) | fail)) ?_)
 | fail)
    all_goals try (exfalso; omega)
    refine AWPC.own0 32 3 19 rfl ?_
    have hw0 : IntKind.i64.wrap ((l.length : Int) - 1) = (l.length : Int) - 1 := wr64 _ (by omega) (by omega)
    refine AWPC.loopE (α := { i : Nat // i ≤ l.length }) [19, 20] (fun i => [(19, .own (List.length τ) 0 i.1), (20, n ((l.length : Int) - 1 - i.1))]) (fun i => τ ++ [some [⟨32, 3, (l.reverse.take i.1).map Pt.cs, none⟩]]) (fun i => l.length - i.1) ⟨0, Nat.zero_le _⟩ ?_ rfl ?_
    · (simp only [zT, zV, zS, zU, vcC, lateX, ex, strp, cnd, binA, kseq, kblk, kret, klp, Abs.one, elems, cells, scalar, eqC, Nat.reduceBEq, Nat.reduceAdd, Nat.reduceSub, Nat.reduceLT, Nat.reduceLeDiff, Nat.reduceMul, Nat.reduceEqDiff, cond_true, cond_false, if_true, if_false, reduceIte, implies_true, forall_const, ne_eq]; try simp)
      try simp
    rintro ⟨i, hi⟩
    by_cases hlt2 : i < l.length
    · obtain ⟨t, ht⟩ : ∃ t, l[l.length - 1 - i]? = some t := ⟨_, List.getElem?_eq_getElem (by omega)⟩
      have hrev : l.reverse[i]? = some t := by rw [List.getElem?_reverse hlt2]; exact ht
      have hto : Int.toNat ((l.length : Int) - 1 - i) = l.length - 1 - i := by omega
      have hzt : l.reverse.take (i + 1) = l.reverse.take i ++ [t] := by rw [List.take_add_one, hrev]; rfl
      have htl : ((l.reverse.take i).map Pt.cs).length = i := by rw [List.length_map, List.length_take, List.length_reverse]; omega
      (repeat' first
 | (refine AWPC.of_vcn rfl ?_; simp only [zT, zV, zS, zU, vcC, lateX, ex, strp, cnd, binA, kseq, kblk, kret, klp, Abs.one, elems, cells, scalar, eqC, Nat.reduceBEq, Nat.reduceAdd, Nat.reduceSub, Nat.reduceLT, Nat.reduceLeDiff, Nat.reduceMul, Nat.reduceEqDiff, cond_true, cond_false, if_true, if_false, reduceIte, implies_true, forall_const, ne_eq, hto, getD_map ht, htl])
 | (simp (disch := omega) only [wr64, Int.zero_sub]; try simp only [zT, zV, zS, zU, vcC, lateX, ex, strp, cnd, binA, kseq, kblk, kret, klp, Abs.one, elems, cells, scalar, eqC, Nat.reduceBEq, Nat.reduceAdd, Nat.reduceSub, Nat.reduceLT, Nat.reduceLeDiff, Nat.reduceMul, Nat.reduceEqDiff, cond_true, cond_false, if_true, if_false, reduceIte, implies_true, forall_const, ne_eq, hto, getD_map ht, htl])
 | (refine AWPC.both (fun _ => ?_) (fun _ => ?_))
 | (refine AWPC.imp (fun _ => ?_))
 | ((refine .inl ⟨_, _, _, .any, rfl, fun h => absurd h Bool.false_ne_true, ?_⟩); refine owp_of_exs ?_; simp only [zT, zV, zS, zU, vcC, lateX, ex, strp, cnd, binA, kseq, kblk, kret, klp, Abs.one, elems, cells, scalar, eqC, Nat.reduceBEq, Nat.reduceAdd, Nat.reduceSub, Nat.reduceLT, Nat.reduceLeDiff, Nat.reduceMul, Nat.reduceEqDiff, cond_true, cond_false, if_true, if_false, reduceIte, implies_true, forall_const, ne_eq, hto, getD_map ht, htl])
 | (refine ⟨by omega, ?_⟩)
 | (refine And.intro (by (intros; first | (simp_all (config := { decide := false }); done) | fail)) ?_)
 | fail)
      all_goals try (exfalso; omega)
      exact ⟨⟨i + 1, hlt2⟩, ⟨rfl, congrArg n (by simp only; omega)⟩, by simp only; rw [hzt]; simp, by simp only; omega⟩
    · obtain rfl : i = l.length := by omega
      have hrl : l.reverse.take l.length = l.reverse := List.take_of_length_le (by simp)
      have hrm : (l.reverse.map Pt.cs).length = l.length := by simp
      (first
 | (refine AWPC.of_vcn rfl ?_; simp only [zT, zV, zS, zU, vcC, lateX, ex, strp, cnd, binA, kseq, kblk, kret, klp, Abs.one, elems, cells, scalar, eqC, Nat.reduceBEq, Nat.reduceAdd, Nat.reduceSub, Nat.reduceLT, Nat.reduceLeDiff, Nat.reduceMul, Nat.reduceEqDiff, cond_true, cond_false, if_true, if_false, reduceIte, implies_true, forall_const, ne_eq, hrl])
 | (simp (disch := omega) only [wr64, Int.zero_sub]; try simp only [zT, zV, zS, zU, vcC, lateX, ex, strp, cnd, binA, kseq, kblk, kret, klp, Abs.one, elems, cells, scalar, eqC, Nat.reduceBEq, Nat.reduceAdd, Nat.reduceSub, Nat.reduceLT, Nat.reduceLeDiff, Nat.reduceMul, Nat.reduceEqDiff, cond_true, cond_false, if_true, if_false, reduceIte, implies_true, forall_const, ne_eq, hrl])
 | (refine AWPC.both (fun _ => ?_) (fun _ => ?_))
 | (refine AWPC.imp (fun _ => ?_))
 | ((refine .inl ⟨_, _, _, .any, rfl, fun h => absurd h Bool.false_ne_true, ?_⟩); refine owp_of_exs ?_; simp only [zT, zV, zS, zU, vcC, lateX, ex, strp, cnd, binA, kseq, kblk, kret, klp, Abs.one, elems, cells, scalar, eqC, Nat.reduceBEq, Nat.reduceAdd, Nat.reduceSub, Nat.reduceLT, Nat.reduceLeDiff, Nat.reduceMul, Nat.reduceEqDiff, cond_true, cond_false, if_true, if_false, reduceIte, implies_true, forall_const, ne_eq, hrl])
 | (refine ⟨by omega, ?_⟩)
 | (refine And.intro (by (intros; first | (simp_all (config := { decide := false }); done) | fail)) ?_)
 | fail)
      (first
 | (refine AWPC.of_vcn rfl ?_; simp only [zT, zV, zS, zU, vcC, lateX, ex, strp, cnd, binA, kseq, kblk, kret, klp, Abs.one, elems, cells, scalar, eqC, Nat.reduceBEq, Nat.reduceAdd, Nat.reduceSub, Nat.reduceLT, Nat.reduceLeDiff, Nat.reduceMul, Nat.reduceEqDiff, cond_true, cond_false, if_true, if_false, reduceIte, implies_true, forall_const, ne_eq])
 | (simp (disch := omega) only [wr64, Int.zero_sub]; try simp only [zT, zV, zS, zU, vcC, lateX, ex, strp, cnd, binA, kseq, kblk, kret, klp, Abs.one, elems, cells, scalar, eqC, Nat.reduceBEq, Nat.reduceAdd, Nat.reduceSub, Nat.reduceLT, Nat.reduceLeDiff, Nat.reduceMul, Nat.reduceEqDiff, cond_true, cond_false, if_true, if_false, reduceIte, implies_true, forall_const, ne_eq])
 | (refine AWPC.both (fun _ => ?_) (fun _ => ?_))
 | (refine AWPC.imp (fun _ => ?_))
 | ((refine .inl ⟨_, _, _, .any, rfl, fun h => absurd h Bool.false_ne_true, ?_⟩); refine owp_of_exs ?_; simp only [zT, zV, zS, zU, vcC, lateX, ex, strp, cnd, binA, kseq, kblk, kret, klp, Abs.one, elems, cells, scalar, eqC, Nat.reduceBEq, Nat.reduceAdd, Nat.reduceSub, Nat.reduceLT, Nat.reduceLeDiff, Nat.reduceMul, Nat.reduceEqDiff, cond_true, cond_false, if_true, if_false, reduceIte, implies_true, forall_const, ne_eq])
 | (refine ⟨by omega, ?_⟩)
 | (refine And.intro (by (intros; first | (simp_all (config := { decide := false }); done) | fail)) ?_)
 | fail)
      (first
 | (refine AWPC.of_vcn rfl ?_; simp only [zT, zV, zS, zU, vcC, lateX, ex, strp, cnd, binA, kseq, kblk, kret, klp, Abs.one, elems, cells, scalar, eqC, Nat.reduceBEq, Nat.reduceAdd, Nat.reduceSub, Nat.reduceLT, Nat.reduceLeDiff, Nat.reduceMul, Nat.reduceEqDiff, cond_true, cond_false, if_true, if_false, reduceIte, implies_true, forall_const, ne_eq])
 | (simp (disch := omega) only [wr64, Int.zero_sub]; try simp only [zT, zV, zS, zU, vcC, lateX, ex, strp, cnd, binA, kseq, kblk, kret, klp, Abs.one, elems, cells, scalar, eqC, Nat.reduceBEq, Nat.reduceAdd, Nat.reduceSub, Nat.reduceLT, Nat.reduceLeDiff, Nat.reduceMul, Nat.reduceEqDiff, cond_true, cond_false, if_true, if_false, reduceIte, implies_true, forall_const, ne_eq])
 | (refine AWPC.both (fun _ => ?_) (fun _ => ?_))
 | (refine AWPC.imp (fun _ => ?_))
 | ((refine .inl ⟨_, _, _, .any, rfl, fun h => absurd h Bool.false_ne_true, ?_⟩); refine owp_of_exs ?_; simp only [zT, zV, zS, zU, vcC, lateX, ex, strp, cnd, binA, kseq, kblk, kret, klp, Abs.one, elems, cells, scalar, eqC, Nat.reduceBEq, Nat.reduceAdd, Nat.reduceSub, Nat.reduceLT, Nat.reduceLeDiff, Nat.reduceMul, Nat.reduceEqDiff, cond_true, cond_false, if_true, if_false, reduceIte, implies_true, forall_const, ne_eq])
 | (refine ⟨by omega, ?_⟩)
 | (refine And.intro (by (intros; first | (simp_all (config := { decide := false }); done) | fail)) ?_)
 | fail)
      all_goals try (exfalso; omega)
      by_cases hag : 0 ≤ again ∧ again < l.length
      · obtain ⟨t, ht⟩ : ∃ t, l[again.toNat]? = some t := ⟨_, List.getElem?_eq_getElem (by omega)⟩
        have HB : backL l again = l.reverse ++ [t] := by unfold backL; rw [if_pos hag, ht]; rfl
        (first
 | (refine AWPC.of_vcn rfl ?_; simp only [zT, zV, zS, zU, vcC, lateX, ex, strp, cnd, binA, kseq, kblk, kret, klp, Abs.one, elems, cells, scalar, eqC, Nat.reduceBEq, Nat.reduceAdd, Nat.reduceSub, Nat.reduceLT, Nat.reduceLeDiff, Nat.reduceMul, Nat.reduceEqDiff, cond_true, cond_false, if_true, if_false, reduceIte, implies_true, forall_const, ne_eq, hrl])
 | (simp (disch := omega) only [wr64, Int.zero_sub]; try simp only [zT, zV, zS, zU, vcC, lateX, ex, strp, cnd, binA, kseq, kblk, kret, klp, Abs.one, elems, cells, scalar, eqC, Nat.reduceBEq, Nat.reduceAdd, Nat.reduceSub, Nat.reduceLT, Nat.reduceLeDiff, Nat.reduceMul, Nat.reduceEqDiff, cond_true, cond_false, if_true, if_false, reduceIte, implies_true, forall_const, ne_eq, hrl])
 | (refine AWPC.both (fun _ => ?_) (fun _ => ?_))
 | (refine AWPC.imp (fun _ => ?_))
 | ((refine .inl ⟨_, _, _, .any, rfl, fun h => absurd h Bool.false_ne_true, ?_⟩); refine owp_of_exs ?_; simp only [zT, zV, zS, zU, vcC, lateX, ex, strp, cnd, binA, kseq, kblk, kret, klp, Abs.one, elems, cells, scalar, eqC, Nat.reduceBEq, Nat.reduceAdd, Nat.reduceSub, Nat.reduceLT, Nat.reduceLeDiff, Nat.reduceMul, Nat.reduceEqDiff, cond_true, cond_false, if_true, if_false, reduceIte, implies_true, forall_const, ne_eq, hrl])
 | (refine ⟨by omega, ?_⟩)
 | (refine And.intro (by (intros; first | (simp_all (config := { decide := false }); done) | fail)) ?_)
 | fail)
        (repeat (refine And.intro (by (intros; first | omega | (simp_all (config := { decide := false }); done) | fail)) ?_))
        (first
 | (refine AWPC.of_vcn rfl ?_; simp only [zT, zV, zS, zU, vcC, lateX, ex, strp, cnd, binA, kseq, kblk, kret, klp, Abs.one, elems, cells, scalar, eqC, Nat.reduceBEq, Nat.reduceAdd, Nat.reduceSub, Nat.reduceLT, Nat.reduceLeDiff, Nat.reduceMul, Nat.reduceEqDiff, cond_true, cond_false, if_true, if_false, reduceIte, implies_true, forall_const, ne_eq])
 | (simp (disch := omega) only [wr64, Int.zero_sub]; try simp only [zT, zV, zS, zU, vcC, lateX, ex, strp, cnd, binA, kseq, kblk, kret, klp, Abs.one, elems, cells, scalar, eqC, Nat.reduceBEq, Nat.reduceAdd, Nat.reduceSub, Nat.reduceLT, Nat.reduceLeDiff, Nat.reduceMul, Nat.reduceEqDiff, cond_true, cond_false, if_true, if_false, reduceIte, implies_true, forall_const, ne_eq])
 | (refine AWPC.both (fun _ => ?_) (fun _ => ?_))
 | (refine AWPC.imp (fun _ => ?_))
 | ((refine .inl ⟨_, _, _, .any, rfl, fun h => absurd h Bool.false_ne_true, ?_⟩); refine owp_of_exs ?_; simp only [zT, zV, zS, zU, vcC, lateX, ex, strp, cnd, binA, kseq, kblk, kret, klp, Abs.one, elems, cells, scalar, eqC, Nat.reduceBEq, Nat.reduceAdd, Nat.reduceSub, Nat.reduceLT, Nat.reduceLeDiff, Nat.reduceMul, Nat.reduceEqDiff, cond_true, cond_false, if_true, if_false, reduceIte, implies_true, forall_const, ne_eq])
 | (refine ⟨by omega, ?_⟩)
 | (refine And.intro (by (intros; first | (simp_all (config := { decide := false }); done) | fail)) ?_)
 | fail)
        (first
 | (refine AWPC.of_vcn rfl ?_; simp only [zT, zV, zS, zU, vcC, lateX, ex, strp, cnd, binA, kseq, kblk, kret, klp, Abs.one, elems, cells, scalar, eqC, Nat.reduceBEq, Nat.reduceAdd, Nat.reduceSub, Nat.reduceLT, Nat.reduceLeDiff, Nat.reduceMul, Nat.reduceEqDiff, cond_true, cond_false, if_true, if_false, reduceIte, implies_true, forall_const, ne_eq])
 | (simp (disch := omega) only [wr64, Int.zero_sub]; try simp only [zT, zV, zS, zU, vcC, lateX, ex, strp, cnd, binA, kseq, kblk, kret, klp, Abs.one, elems, cells, scalar, eqC, Nat.reduceBEq, Nat.reduceAdd, Nat.reduceSub, Nat.reduceLT, Nat.reduceLeDiff, Nat.reduceMul, Nat.reduceEqDiff, cond_true, cond_false, if_true, if_false, reduceIte, implies_true, forall_const, ne_eq])
 | (refine AWPC.both (fun _ => ?_) (fun _ => ?_))
 | (refine AWPC.imp (fun _ => ?_))
 | ((refine .inl ⟨_, _, _, .any, rfl, fun h => absurd h Bool.false_ne_true, ?_⟩); refine owp_of_exs ?_; simp only [zT, zV, zS, zU, vcC, lateX, ex, strp, cnd, binA, kseq, kblk, kret, klp, Abs.one, elems, cells, scalar, eqC, Nat.reduceBEq, Nat.reduceAdd, Nat.reduceSub, Nat.reduceLT, Nat.reduceLeDiff, Nat.reduceMul, Nat.reduceEqDiff, cond_true, cond_false, if_true, if_false, reduceIte, implies_true, forall_const, ne_eq])
 | (refine ⟨by omega, ?_⟩)
 | (refine And.intro (by (intros; first | (simp_all (config := { decide := false }); done) | fail)) ?_)
 | fail)
        (first
 | (refine AWPC.of_vcn rfl ?_; simp only [zT, zV, zS, zU, vcC, lateX, ex, strp, cnd, binA, kseq, kblk, kret, klp, Abs.one, elems, cells, scalar, eqC, Nat.reduceBEq, Nat.reduceAdd, Nat.reduceSub, Nat.reduceLT, Nat.reduceLeDiff, Nat.reduceMul, Nat.reduceEqDiff, cond_true, cond_false, if_true, if_false, reduceIte, implies_true, forall_const, ne_eq])
 | (simp (disch := omega) only [wr64, Int.zero_sub]; try simp only [zT, zV, zS, zU, vcC, lateX, ex, strp, cnd, binA, kseq, kblk, kret, klp, Abs.one, elems, cells, scalar, eqC, Nat.reduceBEq, Nat.reduceAdd, Nat.reduceSub, Nat.reduceLT, Nat.reduceLeDiff, Nat.reduceMul, Nat.reduceEqDiff, cond_true, cond_false, if_true, if_false, reduceIte, implies_true, forall_const, ne_eq])
 | (refine AWPC.both (fun _ => ?_) (fun _ => ?_))
 | (refine AWPC.imp (fun _ => ?_))
 | ((refine .inl ⟨_, _, _, .any, rfl, fun h => absurd h Bool.false_ne_true, ?_⟩); refine owp_of_exs ?_; simp only [zT, zV, zS, zU, vcC, lateX, ex, strp, cnd, binA, kseq, kblk, kret, klp, Abs.one, elems, cells, scalar, eqC, Nat.reduceBEq, Nat.reduceAdd, Nat.reduceSub, Nat.reduceLT, Nat.reduceLeDiff, Nat.reduceMul, Nat.reduceEqDiff, cond_true, cond_false, if_true, if_false, reduceIte, implies_true, forall_const, ne_eq])
 | (refine ⟨by omega, ?_⟩)
 | (refine And.intro (by (intros; first | (simp_all (config := { decide := false }); done) | fail)) ?_)
 | fail)
        all_goals try (exfalso; omega)
        (first
 | (refine AWPC.of_vcn rfl ?_; simp only [zT, zV, zS, zU, vcC, lateX, ex, strp, cnd, binA, kseq, kblk, kret, klp, Abs.one, elems, cells, scalar, eqC, Nat.reduceBEq, Nat.reduceAdd, Nat.reduceSub, Nat.reduceLT, Nat.reduceLeDiff, Nat.reduceMul, Nat.reduceEqDiff, cond_true, cond_false, if_true, if_false, reduceIte, implies_true, forall_const, ne_eq, getD_map ht, List.length_reverse, hrl])
 | (simp (disch := omega) only [wr64, Int.zero_sub]; try simp only [zT, zV, zS, zU, vcC, lateX, ex, strp, cnd, binA, kseq, kblk, kret, klp, Abs.one, elems, cells, scalar, eqC, Nat.reduceBEq, Nat.reduceAdd, Nat.reduceSub, Nat.reduceLT, Nat.reduceLeDiff, Nat.reduceMul, Nat.reduceEqDiff, cond_true, cond_false, if_true, if_false, reduceIte, implies_true, forall_const, ne_eq, getD_map ht, List.length_reverse, hrl])
 | (refine AWPC.both (fun _ => ?_) (fun _ => ?_))
 | (refine AWPC.imp (fun _ => ?_))
 | ((refine .inl ⟨_, _, _, .any, rfl, fun h => absurd h Bool.false_ne_true, ?_⟩); refine owp_of_exs ?_; simp only [zT, zV, zS, zU, vcC, lateX, ex, strp, cnd, binA, kseq, kblk, kret, klp, Abs.one, elems, cells, scalar, eqC, Nat.reduceBEq, Nat.reduceAdd, Nat.reduceSub, Nat.reduceLT, Nat.reduceLeDiff, Nat.reduceMul, Nat.reduceEqDiff, cond_true, cond_false, if_true, if_false, reduceIte, implies_true, forall_const, ne_eq, getD_map ht, List.length_reverse, hrl])
 | (refine ⟨by omega, ?_⟩)
 | (refine And.intro (by (intros; first | (simp_all (config := { decide := false }); done) | fail)) ?_)
 | fail)
        (repeat (refine And.intro (by (intros; first | omega | (simp_all (config := { decide := false }); done) | fail)) ?_))
        refine AWPC.freeze1 (f := List.length τ) (t := 19) (n := (backL l again).length) (o := ⟨32, 3, (backL l again).map Pt.cs, none⟩) (by rw [HB]; simp [gt]) (by rw [at_app0, HB]; simp [at_cons0]) (by simp) (show (3 : Nat) ≠ 0 by decide) ?_
        have hτ4 : ∀ x, Sto.at (gone (τ ++ [x]) (List.length τ)) 0 0 = some ⟨56, 1, [[colS X]], none⟩ := fun x => by rw [gone_ne (by omega)]; exact hτ2 _
        have hgl : ∀ x, List.length (gone (τ ++ [x]) (List.length τ)) = List.length τ + 1 := fun x => by simp [gone]
        generalize hg4 : gone _ _ = τ4
        have hτ5 : ∀ ν, Sto.at (τ4 ++ ν) 0 0 = some ⟨56, 1, [[colS X]], none⟩ := fun ν => by rw [at_appL (by rw [← hg4, hgl]; omega), ← hg4]; exact hτ4 _
        clear hg4
        (repeat' first
 | (refine AWPC.of_vcn rfl ?_; simp only [zT, zV, zS, zU, vcC, lateX, ex, strp, cnd, binA, kseq, kblk, kret, klp, Abs.one, elems, cells, scalar, eqC, Nat.reduceBEq, Nat.reduceAdd, Nat.reduceSub, Nat.reduceLT, Nat.reduceLeDiff, Nat.reduceMul, Nat.reduceEqDiff, cond_true, cond_false, if_true, if_false, reduceIte, implies_true, forall_const, ne_eq, hτ5])
 | (simp (disch := omega) only [wr64, Int.zero_sub]; try simp only [zT, zV, zS, zU, vcC, lateX, ex, strp, cnd, binA, kseq, kblk, kret, klp, Abs.one, elems, cells, scalar, eqC, Nat.reduceBEq, Nat.reduceAdd, Nat.reduceSub, Nat.reduceLT, Nat.reduceLeDiff, Nat.reduceMul, Nat.reduceEqDiff, cond_true, cond_false, if_true, if_false, reduceIte, implies_true, forall_const, ne_eq, hτ5])
 | (refine AWPC.both (fun _ => ?_) (fun _ => ?_))
 | (refine AWPC.imp (fun _ => ?_))
 | ((repeat (refine And.intro (by (intros; first | omega | (simp_all (config := { decide := false }); done) | fail)) ?_)); (first
 | (refine .inl ⟨_, _, _, _, rfl, fun _hc => ⟨by simp, h2⟩, ?_⟩)
 | (refine .inl ⟨_, _, _, _, rfl, fun _hc => ⟨by simp, h3⟩, ?_⟩)
 | (refine ⟨_, _, _, _, rfl, fun _hc => ⟨by simp, h2⟩, ?_⟩)
 | (refine ⟨_, _, _, _, rfl, fun _hc => ⟨by simp, h3⟩, ?_⟩)
 | fail); (first | refine owp_of_exs ?_ | refine pre_of_exd ?_ | refine pre_of_exe ?_ | fail); simp only [zT, zV, zS, zU, vcC, lateX, ex, strp, cnd, binA, kseq, kblk, kret, klp, Abs.one, elems, cells, scalar, eqC, Nat.reduceBEq, Nat.reduceAdd, Nat.reduceSub, Nat.reduceLT, Nat.reduceLeDiff, Nat.reduceMul, Nat.reduceEqDiff, cond_true, cond_false, if_true, if_false, reduceIte, implies_true, forall_const, ne_eq, hτ5])
 | ((refine .inl ⟨_, _, _, .any, rfl, fun h => absurd h Bool.false_ne_true, ?_⟩); refine owp_of_exs ?_; simp only [zT, zV, zS, zU, vcC, lateX, ex, strp, cnd, binA, kseq, kblk, kret, klp, Abs.one, elems, cells, scalar, eqC, Nat.reduceBEq, Nat.reduceAdd, Nat.reduceSub, Nat.reduceLT, Nat.reduceLeDiff, Nat.reduceMul, Nat.reduceEqDiff, cond_true, cond_false, if_true, if_false, reduceIte, implies_true, forall_const, ne_eq, hτ5])
 | (refine ⟨by omega, ?_⟩)
 | (refine And.intro (by (intros; first | (simp_all (config := { decide := false }); done) | fail)) ?_)
 | fail)
        all_goals try (exfalso; omega)
        exact Frz.eq rfl (by simp)
      · have HB : backL l again = l.reverse := by unfold backL; rw [if_neg hag, List.append_nil]
        (first
 | (refine AWPC.of_vcn rfl ?_; simp only [zT, zV, zS, zU, vcC, lateX, ex, strp, cnd, binA, kseq, kblk, kret, klp, Abs.one, elems, cells, scalar, eqC, Nat.reduceBEq, Nat.reduceAdd, Nat.reduceSub, Nat.reduceLT, Nat.reduceLeDiff, Nat.reduceMul, Nat.reduceEqDiff, cond_true, cond_false, if_true, if_false, reduceIte, implies_true, forall_const, ne_eq, hrl])
 | (simp (disch := omega) only [wr64, Int.zero_sub]; try simp only [zT, zV, zS, zU, vcC, lateX, ex, strp, cnd, binA, kseq, kblk, kret, klp, Abs.one, elems, cells, scalar, eqC, Nat.reduceBEq, Nat.reduceAdd, Nat.reduceSub, Nat.reduceLT, Nat.reduceLeDiff, Nat.reduceMul, Nat.reduceEqDiff, cond_true, cond_false, if_true, if_false, reduceIte, implies_true, forall_const, ne_eq, hrl])
 | (refine AWPC.both (fun _ => ?_) (fun _ => ?_))
 | (refine AWPC.imp (fun _ => ?_))
 | ((refine .inl ⟨_, _, _, .any, rfl, fun h => absurd h Bool.false_ne_true, ?_⟩); refine owp_of_exs ?_; simp only [zT, zV, zS, zU, vcC, lateX, ex, strp, cnd, binA, kseq, kblk, kret, klp, Abs.one, elems, cells, scalar, eqC, Nat.reduceBEq, Nat.reduceAdd, Nat.reduceSub, Nat.reduceLT, Nat.reduceLeDiff, Nat.reduceMul, Nat.reduceEqDiff, cond_true, cond_false, if_true, if_false, reduceIte, implies_true, forall_const, ne_eq, hrl])
 | (refine ⟨by omega, ?_⟩)
 | (refine And.intro (by (intros; first | (simp_all (config := { decide := false }); done) | fail)) ?_)
 | fail)
        (repeat (refine And.intro (by (intros; first | omega | (simp_all (config := { decide := false }); done) | fail)) ?_))
        (first
 | (refine AWPC.of_vcn rfl ?_; simp only [zT, zV, zS, zU, vcC, lateX, ex, strp, cnd, binA, kseq, kblk, kret, klp, Abs.one, elems, cells, scalar, eqC, Nat.reduceBEq, Nat.reduceAdd, Nat.reduceSub, Nat.reduceLT, Nat.reduceLeDiff, Nat.reduceMul, Nat.reduceEqDiff, cond_true, cond_false, if_true, if_false, reduceIte, implies_true, forall_const, ne_eq])
 | (simp (disch := omega) only [wr64, Int.zero_sub]; try simp only [zT, zV, zS, zU, vcC, lateX, ex, strp, cnd, binA, kseq, kblk, kret, klp, Abs.one, elems, cells, scalar, eqC, Nat.reduceBEq, Nat.reduceAdd, Nat.reduceSub, Nat.reduceLT, Nat.reduceLeDiff, Nat.reduceMul, Nat.reduceEqDiff, cond_true, cond_false, if_true, if_false, reduceIte, implies_true, forall_const, ne_eq])
 | (refine AWPC.both (fun _ => ?_) (fun _ => ?_))
 | (refine AWPC.imp (fun _ => ?_))
 | ((refine .inl ⟨_, _, _, .any, rfl, fun h => absurd h Bool.false_ne_true, ?_⟩); refine owp_of_exs ?_; simp only [zT, zV, zS, zU, vcC, lateX, ex, strp, cnd, binA, kseq, kblk, kret, klp, Abs.one, elems, cells, scalar, eqC, Nat.reduceBEq, Nat.reduceAdd, Nat.reduceSub, Nat.reduceLT, Nat.reduceLeDiff, Nat.reduceMul, Nat.reduceEqDiff, cond_true, cond_false, if_true, if_false, reduceIte, implies_true, forall_const, ne_eq])
 | (refine ⟨by omega, ?_⟩)
 | (refine And.intro (by (intros; first | (simp_all (config := { decide := false }); done) | fail)) ?_)
 | fail)
        (first
 | (refine AWPC.of_vcn rfl ?_; simp only [zT, zV, zS, zU, vcC, lateX, ex, strp, cnd, binA, kseq, kblk, kret, klp, Abs.one, elems, cells, scalar, eqC, Nat.reduceBEq, Nat.reduceAdd, Nat.reduceSub, Nat.reduceLT, Nat.reduceLeDiff, Nat.reduceMul, Nat.reduceEqDiff, cond_true, cond_false, if_true, if_false, reduceIte, implies_true, forall_const, ne_eq])
 | (simp (disch := omega) only [wr64, Int.zero_sub]; try simp only [zT, zV, zS, zU, vcC, lateX, ex, strp, cnd, binA, kseq, kblk, kret, klp, Abs.one, elems, cells, scalar, eqC, Nat.reduceBEq, Nat.reduceAdd, Nat.reduceSub, Nat.reduceLT, Nat.reduceLeDiff, Nat.reduceMul, Nat.reduceEqDiff, cond_true, cond_false, if_true, if_false, reduceIte, implies_true, forall_const, ne_eq])
 | (refine AWPC.both (fun _ => ?_) (fun _ => ?_))
 | (refine AWPC.imp (fun _ => ?_))
 | ((refine .inl ⟨_, _, _, .any, rfl, fun h => absurd h Bool.false_ne_true, ?_⟩); refine owp_of_exs ?_; simp only [zT, zV, zS, zU, vcC, lateX, ex, strp, cnd, binA, kseq, kblk, kret, klp, Abs.one, elems, cells, scalar, eqC, Nat.reduceBEq, Nat.reduceAdd, Nat.reduceSub, Nat.reduceLT, Nat.reduceLeDiff, Nat.reduceMul, Nat.reduceEqDiff, cond_true, cond_false, if_true, if_false, reduceIte, implies_true, forall_const, ne_eq])
 | (refine ⟨by omega, ?_⟩)
 | (refine And.intro (by (intros; first | (simp_all (config := { decide := false }); done) | fail)) ?_)
 | fail)
        (first
 | (refine AWPC.of_vcn rfl ?_; simp only [zT, zV, zS, zU, vcC, lateX, ex, strp, cnd, binA, kseq, kblk, kret, klp, Abs.one, elems, cells, scalar, eqC, Nat.reduceBEq, Nat.reduceAdd, Nat.reduceSub, Nat.reduceLT, Nat.reduceLeDiff, Nat.reduceMul, Nat.reduceEqDiff, cond_true, cond_false, if_true, if_false, reduceIte, implies_true, forall_const, ne_eq])
 | (simp (disch := omega) only [wr64, Int.zero_sub]; try simp only [zT, zV, zS, zU, vcC, lateX, ex, strp, cnd, binA, kseq, kblk, kret, klp, Abs.one, elems, cells, scalar, eqC, Nat.reduceBEq, Nat.reduceAdd, Nat.reduceSub, Nat.reduceLT, Nat.reduceLeDiff, Nat.reduceMul, Nat.reduceEqDiff, cond_true, cond_false, if_true, if_false, reduceIte, implies_true, forall_const, ne_eq])
 | (refine AWPC.both (fun _ => ?_) (fun _ => ?_))
 | (refine AWPC.imp (fun _ => ?_))
 | ((refine .inl ⟨_, _, _, .any, rfl, fun h => absurd h Bool.false_ne_true, ?_⟩); refine owp_of_exs ?_; simp only [zT, zV, zS, zU, vcC, lateX, ex, strp, cnd, binA, kseq, kblk, kret, klp, Abs.one, elems, cells, scalar, eqC, Nat.reduceBEq, Nat.reduceAdd, Nat.reduceSub, Nat.reduceLT, Nat.reduceLeDiff, Nat.reduceMul, Nat.reduceEqDiff, cond_true, cond_false, if_true, if_false, reduceIte, implies_true, forall_const, ne_eq])
 | (refine ⟨by omega, ?_⟩)
 | (refine And.intro (by (intros; first | (simp_all (config := { decide := false }); done) | fail)) ?_)
 | fail)
        all_goals try (exfalso; omega)
        (first
 | (refine AWPC.of_vcn rfl ?_; simp only [zT, zV, zS, zU, vcC, lateX, ex, strp, cnd, binA, kseq, kblk, kret, klp, Abs.one, elems, cells, scalar, eqC, Nat.reduceBEq, Nat.reduceAdd, Nat.reduceSub, Nat.reduceLT, Nat.reduceLeDiff, Nat.reduceMul, Nat.reduceEqDiff, cond_true, cond_false, if_true, if_false, reduceIte, implies_true, forall_const, ne_eq, hrl])
 | (simp (disch := omega) only [wr64, Int.zero_sub]; try simp only [zT, zV, zS, zU, vcC, lateX, ex, strp, cnd, binA, kseq, kblk, kret, klp, Abs.one, elems, cells, scalar, eqC, Nat.reduceBEq, Nat.reduceAdd, Nat.reduceSub, Nat.reduceLT, Nat.reduceLeDiff, Nat.reduceMul, Nat.reduceEqDiff, cond_true, cond_false, if_true, if_false, reduceIte, implies_true, forall_const, ne_eq, hrl])
 | (refine AWPC.both (fun _ => ?_) (fun _ => ?_))
 | (refine AWPC.imp (fun _ => ?_))
 | ((refine .inl ⟨_, _, _, .any, rfl, fun h => absurd h Bool.false_ne_true, ?_⟩); refine owp_of_exs ?_; simp only [zT, zV, zS, zU, vcC, lateX, ex, strp, cnd, binA, kseq, kblk, kret, klp, Abs.one, elems, cells, scalar, eqC, Nat.reduceBEq, Nat.reduceAdd, Nat.reduceSub, Nat.reduceLT, Nat.reduceLeDiff, Nat.reduceMul, Nat.reduceEqDiff, cond_true, cond_false, if_true, if_false, reduceIte, implies_true, forall_const, ne_eq, hrl])
 | (refine ⟨by omega, ?_⟩)
 | (refine And.intro (by (intros; first | (simp_all (config := { decide := false }); done) | fail)) ?_)
 | fail)
        refine AWPC.freeze1 (f := List.length τ) (t := 19) (n := (backL l again).length) (o := ⟨32, 3, (backL l again).map Pt.cs, none⟩) (by rw [HB]; simp [gt]) (by rw [at_app0, HB]; simp [at_cons0]) (by simp) (show (3 : Nat) ≠ 0 by decide) ?_
        have hτ4 : ∀ x, Sto.at (gone (τ ++ [x]) (List.length τ)) 0 0 = some ⟨56, 1, [[colS X]], none⟩ := fun x => by rw [gone_ne (by omega)]; exact hτ2 _
        have hgl : ∀ x, List.length (gone (τ ++ [x]) (List.length τ)) = List.length τ + 1 := fun x => by simp [gone]
        generalize hg4 : gone _ _ = τ4
        have hτ5 : ∀ ν, Sto.at (τ4 ++ ν) 0 0 = some ⟨56, 1, [[colS X]], none⟩ := fun ν => by rw [at_appL (by rw [← hg4, hgl]; omega), ← hg4]; exact hτ4 _
        clear hg4
        (repeat' first
 | (refine AWPC.of_vcn rfl ?_; simp only [zT, zV, zS, zU, vcC, lateX, ex, strp, cnd, binA, kseq, kblk, kret, klp, Abs.one, elems, cells, scalar, eqC, Nat.reduceBEq, Nat.reduceAdd, Nat.reduceSub, Nat.reduceLT, Nat.reduceLeDiff, Nat.reduceMul, Nat.reduceEqDiff, cond_true, cond_false, if_true, if_false, reduceIte, implies_true, forall_const, ne_eq, hτ5])
 | (simp (disch := omega) only [wr64, Int.zero_sub]; try simp only [zT, zV, zS, zU, vcC, lateX, ex, strp, cnd, binA, kseq, kblk, kret, klp, Abs.one, elems, cells, scalar, eqC, Nat.reduceBEq, Nat.reduceAdd, Nat.reduceSub, Nat.reduceLT, Nat.reduceLeDiff, Nat.reduceMul, Nat.reduceEqDiff, cond_true, cond_false, if_true, if_false, reduceIte, implies_true, forall_const, ne_eq, hτ5])
 | (refine AWPC.both (fun _ => ?_) (fun _ => ?_))
 | (refine AWPC.imp (fun _ => ?_))
 | ((repeat (refine And.intro (by (intros; first | omega | (simp_all (config := { decide := false }); done) | fail)) ?_)); (first
 | (refine .inl ⟨_, _, _, _, rfl, fun _hc => ⟨by simp, h2⟩, ?_⟩)
 | (refine .inl ⟨_, _, _, _, rfl, fun _hc => ⟨by simp, h3⟩, ?_⟩)
 | (refine ⟨_, _, _, _, rfl, fun _hc => ⟨by simp, h2⟩, ?_⟩)
 | (refine ⟨_, _, _, _, rfl, fun _hc => ⟨by simp, h3⟩, ?_⟩)
 | fail); (first | refine owp_of_exs ?_ | refine pre_of_exd ?_ | refine pre_of_exe ?_ | fail); simp only [zT, zV, zS, zU, vcC, lateX, ex, strp, cnd, binA, kseq, kblk, kret, klp, Abs.one, elems, cells, scalar, eqC, Nat.reduceBEq, Nat.reduceAdd, Nat.reduceSub, Nat.reduceLT, Nat.reduceLeDiff, Nat.reduceMul, Nat.reduceEqDiff, cond_true, cond_false, if_true, if_false, reduceIte, implies_true, forall_const, ne_eq, hτ5])
 | ((refine .inl ⟨_, _, _, .any, rfl, fun h => absurd h Bool.false_ne_true, ?_⟩); refine owp_of_exs ?_; simp only [zT, zV, zS, zU, vcC, lateX, ex, strp, cnd, binA, kseq, kblk, kret, klp, Abs.one, elems, cells, scalar, eqC, Nat.reduceBEq, Nat.reduceAdd, Nat.reduceSub, Nat.reduceLT, Nat.reduceLeDiff, Nat.reduceMul, Nat.reduceEqDiff, cond_true, cond_false, if_true, if_false, reduceIte, implies_true, forall_const, ne_eq, hτ5])
 | (refine ⟨by omega, ?_⟩)
 | (refine And.intro (by (intros; first | (simp_all (config := { decide := false }); done) | fail)) ?_)
 | fail)
        all_goals try (exfalso; omega)
        exact Frz.eq rfl (by simp)
end Go.Proofs.Ytgpdckmbojmlpaa

namespace Go.Proofs.Ytgpdckmbojmlpaa
open Go.Abs
set_option linter.unusedVariables false
set_option linter.unusedSimpArgs false
set_option maxHeartbeats 4000000
set_option maxRecDepth 100000
-- aneroid/aneroidlaw01.PaperBlots
def c14 : CF := ⟨149,
 (.seq (.ops [
 ⟨(some 4), .box false 25 10 (.t 0), none⟩,
 ⟨(some 8), .mv (.c (.bool false)), none⟩] [1, 2, 3, 4])
 (.seq (.ops [
 ⟨(some 20), .call (.f 18) [], none⟩,
 ⟨(some 9), .mv (.t 20), none⟩] [1, 2, 3, 4, 9])
 (.seq (.seq (.ops [
 ⟨(some 21), .mv (.t 1), none⟩,
 ⟨(some 22), .len (.t 21), none⟩,
 ⟨(some 23), .bin .gtr (.t 22) (.c (.int .i64 30)), none⟩,
 ⟨(some 24), .mv (.t 23), none⟩,
 ⟨(some 25), .mv (.t 2), (some (24, false))⟩,
 ⟨(some 26), .len (.t 25), (some (24, false))⟩,
 ⟨(some 27), .bin .gtr (.t 26) (.c (.int .i64 300)), (some (24, false))⟩,
 ⟨(some 28), .pick (.t 24) (.c (.bool true)) (.t 27), none⟩] [1, 2, 3, 4, 9, 28])
 (.cond (.t 28) (.seq (.ops [
 ⟨(some 29), .mv (.t 9), none⟩,
 ⟨(some 8), .mv (.t 29), none⟩] [8])
 .ret)
 .skip))
 (.seq (.ops [
 ⟨(some 31), .load (some 10) (.t 4), none⟩,
 ⟨(some 32), .mv (.t 1), none⟩,
 ⟨(some 33), .mv (.t 2), none⟩,
 ⟨(some 34), .call (.f 57) [(.t 31), (.t 32), (.t 33)], none⟩,
 ⟨(some 30), .mv (.t 34), none⟩,
 ⟨(some 35), .ext 0 (.t 30), none⟩,
 ⟨(some 36), .ext 1 (.t 30), none⟩,
 ⟨(some 10), .alloc 56 1 [.slice none 0 0], none⟩,
 ⟨none, .store 1 (.t 10) (.t 35), none⟩,
 ⟨(some 11), .mv (.t 36), none⟩] [1, 2, 3, 4, 9, 10, 11])
 (.seq (.seq (.ops [
 ⟨(some 37), .mv (.t 11), none⟩,
 ⟨(some 38), .bin .neq (.t 37) (.c (.int .i64 0)), none⟩] [1, 2, 3, 4, 9, 10, 38])
 (.cond (.t 38) (.seq (.ops [
 ⟨(some 39), .mv (.t 9), none⟩,
 ⟨(some 8), .mv (.t 39), none⟩] [8])
 .ret)
 .skip))
 (.seq (.ops [
 ⟨(some 12), .mv (.c (.slice none 0 0)), none⟩] [1, 2, 3, 4, 9, 10, 12])
 (.seq (.ops [
 ⟨(some 13), .mv (.c (.bool false)), none⟩] [1, 2, 3, 4, 9, 10, 12, 13])
 (.seq (.seq (.ops [
 ⟨(some 14), .mv (.c (.int .i64 0)), none⟩] [1, 2, 3, 4, 9, 10, 12, 13, 14])
 (.block 0 (.loop (.seq (.seq (.ops [
 ⟨(some 40), .mv (.t 14), none⟩,
 ⟨(some 41), .mv (.t 2), none⟩,
 ⟨(some 42), .len (.t 41), none⟩,
 ⟨(some 43), .bin .lss (.t 40) (.t 42), none⟩] [1, 2, 3, 4, 9, 10, 12, 13, 14, 43])
 (.cond (.t 43) .skip
 (.exit 0)))
 (.seq (.block 1 (.seq (.seq (.ops [
 ⟨(some 46), .mv (.t 13), none⟩,
 ⟨(some 47), .un .not (.t 46), none⟩,
 ⟨(some 48), .mv (.t 47), none⟩,
 ⟨(some 49), .mv (.t 2), (some (48, true))⟩,
 ⟨(some 50), .mv (.t 14), (some (48, true))⟩,
 ⟨(some 51), .iaddr 1 (.t 49) (.t 50), (some (48, true))⟩,
 ⟨(some 52), .load none (.t 51), (some (48, true))⟩,
 ⟨(some 53), .mv (.t 3), (some (48, true))⟩,
 ⟨(some 54), .bin .geq (.t 52) (.t 53), (some (48, true))⟩,
 ⟨(some 55), .pick (.t 48) (.t 54) (.c (.bool false)), none⟩] [1, 2, 3, 4, 9, 10, 12, 13, 14, 55])
 (.cond (.t 55) (.seq (.ops [
 ⟨(some 56), .mv (.t 12), none⟩,
 ⟨(some 57), .mv (.t 3), none⟩,
 ⟨(some 58), .bsl false 3 1 1 [.int .i64 0] [(0, 1, (.t 57))], none⟩,
 ⟨(some 59), .app 3 1 8 (.t 56) (.t 58), none⟩,
 ⟨(some 12), .mv (.t 59), none⟩] [1, 2, 3, 4, 9, 10, 12, 14])
 (.seq (.ops [
 ⟨(some 13), .mv (.c (.bool true)), none⟩] [1, 2, 3, 4, 9, 10, 12, 13, 14])
 (.seq (.ops [
 ⟨(some 60), .mv (.t 2), none⟩,
 ⟨(some 61), .mv (.t 14), none⟩,
 ⟨(some 62), .iaddr 1 (.t 60) (.t 61), none⟩,
 ⟨(some 63), .load none (.t 62), none⟩,
 ⟨(some 64), .mv (.t 3), none⟩,
 ⟨(some 65), .bin .eql (.t 63) (.t 64), none⟩] [1, 2, 3, 4, 9, 10, 12, 13, 14, 65])
 (.cond (.t 65) (.exit 1)
 .skip))))
 .skip))
 (.ops [
 ⟨(some 66), .mv (.t 12), none⟩,
 ⟨(some 67), .mv (.t 2), none⟩,
 ⟨(some 68), .mv (.t 14), none⟩,
 ⟨(some 69), .iaddr 1 (.t 67) (.t 68), none⟩,
 ⟨(some 70), .load none (.t 69), none⟩,
 ⟨(some 71), .bsl false 3 1 1 [.int .i64 0] [(0, 1, (.t 70))], none⟩,
 ⟨(some 72), .app 3 1 8 (.t 66) (.t 71), none⟩,
 ⟨(some 12), .mv (.t 72), none⟩] [1, 2, 3, 4, 9, 10, 12, 13, 14])))
 (.ops [
 ⟨(some 44), .mv (.t 14), none⟩,
 ⟨(some 45), .bin .add (.t 44) (.c (.int .i64 1)), none⟩,
 ⟨(some 14), .mv (.t 45), none⟩] [1, 2, 3, 4, 9, 10, 12, 13, 14]))))))
 (.seq (.seq (.ops [
 ⟨(some 73), .mv (.t 13), none⟩,
 ⟨(some 74), .un .not (.t 73), none⟩] [1, 3, 4, 9, 10, 12, 74])
 (.cond (.t 74) (.ops [
 ⟨(some 75), .mv (.t 12), none⟩,
 ⟨(some 76), .mv (.t 3), none⟩,
 ⟨(some 77), .bsl false 3 1 1 [.int .i64 0] [(0, 1, (.t 76))], none⟩,
 ⟨(some 78), .app 3 1 8 (.t 75) (.t 77), none⟩,
 ⟨(some 12), .mv (.t 78), none⟩] [1, 3, 4, 9, 10, 12])
 .skip))
 (.seq (.ops [
 ⟨(some 80), .load (some 10) (.t 4), none⟩,
 ⟨(some 81), .mv (.t 1), none⟩,
 ⟨(some 82), .mv (.t 12), none⟩,
 ⟨(some 83), .call (.f 57) [(.t 80), (.t 81), (.t 82)], none⟩,
 ⟨(some 79), .mv (.t 83), none⟩,
 ⟨(some 84), .ext 0 (.t 79), none⟩,
 ⟨(some 85), .ext 1 (.t 79), none⟩,
 ⟨(some 15), .alloc 56 1 [.slice none 0 0], none⟩,
 ⟨none, .store 1 (.t 15) (.t 84), none⟩,
 ⟨(some 16), .mv (.t 85), none⟩] [3, 4, 9, 10, 15, 16])
 (.seq (.seq (.ops [
 ⟨(some 86), .mv (.t 3), none⟩,
 ⟨(some 87), .bin .lss (.t 86) (.c (.int .i64 0)), none⟩,
 ⟨(some 88), .mv (.t 87), none⟩,
 ⟨(some 89), .mv (.t 3), (some (88, false))⟩,
 ⟨(some 90), .faddr 5 (.t 4), (some (88, false))⟩,
 ⟨(some 91), .load none (.t 90), (some (88, false))⟩,
 ⟨(some 92), .bin .geq (.t 89) (.t 91), (some (88, false))⟩,
 ⟨(some 93), .pick (.t 88) (.c (.bool true)) (.t 92), none⟩] [3, 9, 10, 15, 16, 93])
 (.cond (.t 93) (.seq (.ops [
 ⟨(some 94), .mv (.t 9), none⟩,
 ⟨(some 95), .mv (.t 94), none⟩,
 ⟨(some 96), .mv (.t 16), (some (95, true))⟩,
 ⟨(some 97), .bin .eql (.t 96) (.c (.int .i64 1)), (some (95, true))⟩,
 ⟨(some 98), .pick (.t 95) (.t 97) (.c (.bool false)), none⟩,
 ⟨(some 8), .mv (.t 98), none⟩] [8])
 .ret)
 .skip))
 (.seq (.ops [
 ⟨(some 100), .load (some 1) (.t 10), none⟩,
 ⟨(some 101), .load (some 1) (.t 15), none⟩,
 ⟨(some 102), .call (.f 61) [(.t 100), (.t 101)], none⟩,
 ⟨(some 99), .mv (.t 102), none⟩,
 ⟨(some 103), .ext 0 (.t 99), none⟩,
 ⟨(some 104), .ext 1 (.t 99), none⟩,
 ⟨(some 17), .mv (.t 103), none⟩,
 ⟨(some 18), .mv (.t 104), none⟩] [3, 9, 10, 15, 16, 17, 18])
 (.seq (.seq (.ops [
 ⟨(some 105), .mv (.t 16), none⟩,
 ⟨(some 106), .bin .neq (.t 105) (.c (.int .i64 0)), none⟩,
 ⟨(some 107), .mv (.t 106), none⟩,
 ⟨(some 108), .mv (.t 18), (some (107, false))⟩,
 ⟨(some 109), .bin .neq (.t 108) (.c (.int .i64 0)), (some (107, false))⟩,
 ⟨(some 110), .pick (.t 107) (.c (.bool true)) (.t 109), none⟩,
 ⟨(some 111), .mv (.t 110), none⟩,
 ⟨(some 112), .mv (.t 17), (some (111, false))⟩,
 ⟨(some 113), .un .not (.t 112), (some (111, false))⟩,
 ⟨(some 114), .pick (.t 111) (.c (.bool true)) (.t 113), none⟩,
 ⟨(some 115), .mv (.t 114), none⟩,
 ⟨(some 116), .faddr 0 (.t 15), (some (115, false))⟩,
 ⟨(some 117), .load none (.t 116), (some (115, false))⟩,
 ⟨(some 118), .mv (.t 3), (some (115, false))⟩,
 ⟨(some 119), .iaddr 1 (.t 117) (.t 118), (some (115, false))⟩,
 ⟨(some 120), .load none (.t 119), (some (115, false))⟩,
 ⟨(some 121), .len (.t 120), (some (115, false))⟩,
 ⟨(some 122), .bin .gtr (.t 121) (.c (.int .i64 0)), (some (115, false))⟩,
 ⟨(some 123), .pick (.t 115) (.c (.bool true)) (.t 122), none⟩] [3, 9, 10, 15, 123])
 (.cond (.t 123) (.seq (.ops [
 ⟨(some 8), .mv (.c (.bool false)), none⟩] [8])
 .ret)
 .skip))
 (.seq (.seq (.ops [
 ⟨(some 19), .mv (.c (.int .i64 0)), none⟩] [3, 9, 10, 15, 19])
 (.block 2 (.loop (.seq (.seq (.ops [
 ⟨(some 124), .mv (.t 19), none⟩,
 ⟨(some 125), .faddr 0 (.t 10), none⟩,
 ⟨(some 126), .load none (.t 125), none⟩,
 ⟨(some 127), .len (.t 126), none⟩,
 ⟨(some 128), .bin .lss (.t 124) (.t 127), none⟩] [3, 9, 10, 15, 19, 128])
 (.cond (.t 128) .skip
 (.exit 2)))
 (.seq (.block 3 (.seq (.draw [
 ⟨(some 131), .mv (.t 19), none⟩,
 ⟨(some 132), .mv (.t 3), none⟩,
 ⟨(some 133), .bin .neq (.t 131) (.t 132), none⟩,
 ⟨(some 134), .mv (.t 133), none⟩,
 ⟨(some 135), .faddr 0 (.t 10), (some (134, true))⟩,
 ⟨(some 136), .load none (.t 135), (some (134, true))⟩,
 ⟨(some 137), .mv (.t 19), (some (134, true))⟩,
 ⟨(some 138), .iaddr 1 (.t 136) (.t 137), (some (134, true))⟩,
 ⟨(some 139), .load none (.t 138), (some (134, true))⟩,
 ⟨(some 140), .faddr 0 (.t 15), (some (134, true))⟩,
 ⟨(some 141), .load none (.t 140), (some (134, true))⟩,
 ⟨(some 142), .mv (.t 19), (some (134, true))⟩,
 ⟨(some 143), .iaddr 1 (.t 141) (.t 142), (some (134, true))⟩,
 ⟨(some 144), .load none (.t 143), (some (134, true))⟩,
 ⟨(some 145), .call (.f 33) [(.t 139), (.t 144)], (some (134, true))⟩,
 ⟨(some 146), .un .not (.t 145), (some (134, true))⟩,
 ⟨(some 147), .pick (.t 134) (.t 146) (.c (.bool false)), none⟩] [
 ] [3, 9, 10, 15, 19, 147])
 (.cond (.t 147) (.seq (.ops [
 ⟨(some 8), .mv (.c (.bool false)), none⟩] [8])
 .ret)
 .skip)))
 (.ops [
 ⟨(some 129), .mv (.t 19), none⟩,
 ⟨(some 130), .bin .add (.t 129) (.c (.int .i64 1)), none⟩,
 ⟨(some 19), .mv (.t 130), none⟩] [3, 9, 10, 15, 19]))))))
 (.seq (.ops [
 ⟨(some 148), .mv (.t 9), none⟩,
 ⟨(some 8), .mv (.t 148), none⟩] [8])
 .ret))))))))))))))),
 [.t 8]⟩
theorem k14 : chkF Try.prog Try.f14 c14 = true := by kernel_rfl

theorem PaperBlots_spec (p : Pp) (l : List Pt) (bs : List Int) (col : Int) (hl : l.length < 9223372036854775808) (hb : bs.length < 9223372036854775808) : Pure Try.prog 14 [.agg p.cs, ptS l, inS bs, n col] (bl true) := by
  refine Pure.of_body Try.call14 Try.func14 k14 (Nat.le_of_ble_eq_true rfl) ?_
  unfold c14
  by_cases hfew : l.length ≤ 30 ∧ bs.length ≤ 300
  case neg =>
    (repeat' first
 | (refine AWPC.of_vcn rfl ?_; simp only [zT, zV, zS, zU, vcC, lateX, ex, strp, cnd, binA, kseq, kblk, kret, klp, Abs.one, elems, cells, scalar, eqC, Nat.reduceBEq, Nat.reduceAdd, Nat.reduceSub, Nat.reduceLT, Nat.reduceLeDiff, Nat.reduceMul, Nat.reduceEqDiff, cond_true, cond_false, if_true, if_false, reduceIte, implies_true, forall_const, ne_eq])
 | (simp (disch := omega) only [wr64, Int.zero_sub]; try simp only [zT, zV, zS, zU, vcC, lateX, ex, strp, cnd, binA, kseq, kblk, kret, klp, Abs.one, elems, cells, scalar, eqC, Nat.reduceBEq, Nat.reduceAdd, Nat.reduceSub, Nat.reduceLT, Nat.reduceLeDiff, Nat.reduceMul, Nat.reduceEqDiff, cond_true, cond_false, if_true, if_false, reduceIte, implies_true, forall_const, ne_eq])
 | (refine AWPC.both (fun _ => ?_) (fun _ => ?_))
 | (refine AWPC.imp (fun _ => ?_))
 | ((repeat (refine And.intro (by (intros; first | omega | (simp_all (config := { decide := false }); done) | fail)) ?_)); (first
 | (refine .inl ⟨_, _, _, _, rfl, fun _hc => ⟨by simp, awake_spec⟩, ?_⟩)
 | (refine ⟨_, _, _, _, rfl, fun _hc => ⟨by simp, awake_spec⟩, ?_⟩)
 | fail); (first | refine owp_of_exs ?_ | refine pre_of_exd ?_ | refine pre_of_exe ?_ | fail); simp only [zT, zV, zS, zU, vcC, lateX, ex, strp, cnd, binA, kseq, kblk, kret, klp, Abs.one, elems, cells, scalar, eqC, Nat.reduceBEq, Nat.reduceAdd, Nat.reduceSub, Nat.reduceLT, Nat.reduceLeDiff, Nat.reduceMul, Nat.reduceEqDiff, cond_true, cond_false, if_true, if_false, reduceIte, implies_true, forall_const, ne_eq])
 | ((refine .inl ⟨_, _, _, .any, rfl, fun h => absurd h Bool.false_ne_true, ?_⟩); refine owp_of_exs ?_; simp only [zT, zV, zS, zU, vcC, lateX, ex, strp, cnd, binA, kseq, kblk, kret, klp, Abs.one, elems, cells, scalar, eqC, Nat.reduceBEq, Nat.reduceAdd, Nat.reduceSub, Nat.reduceLT, Nat.reduceLeDiff, Nat.reduceMul, Nat.reduceEqDiff, cond_true, cond_false, if_true, if_false, reduceIte, implies_true, forall_const, ne_eq])
 | (refine ⟨by omega, ?_⟩)
 | (refine And.intro (by (intros; first | (simp_all (config := { decide := false }); done) | fail)) ?_)
 | fail)
    all_goals first
      | exact Frz.eq rfl (by simp)
      | (exfalso; omega)
  have h1 := Ink_spec p l bs (by omega) hb
  by_cases he : (inkE p l bs).2 = 0
  case neg =>
    generalize inkE p l bs = e at *
    (repeat' first
 | (refine AWPC.of_vcn rfl ?_; simp only [zT, zV, zS, zU, vcC, lateX, ex, strp, cnd, binA, kseq, kblk, kret, klp, Abs.one, elems, cells, scalar, eqC, Nat.reduceBEq, Nat.reduceAdd, Nat.reduceSub, Nat.reduceLT, Nat.reduceLeDiff, Nat.reduceMul, Nat.reduceEqDiff, cond_true, cond_false, if_true, if_false, reduceIte, implies_true, forall_const, ne_eq])
 | (simp (disch := omega) only [wr64, Int.zero_sub]; try simp only [zT, zV, zS, zU, vcC, lateX, ex, strp, cnd, binA, kseq, kblk, kret, klp, Abs.one, elems, cells, scalar, eqC, Nat.reduceBEq, Nat.reduceAdd, Nat.reduceSub, Nat.reduceLT, Nat.reduceLeDiff, Nat.reduceMul, Nat.reduceEqDiff, cond_true, cond_false, if_true, if_false, reduceIte, implies_true, forall_const, ne_eq])
 | (refine AWPC.both (fun _ => ?_) (fun _ => ?_))
 | (refine AWPC.imp (fun _ => ?_))
 | ((repeat (refine And.intro (by (intros; first | omega | (simp_all (config := { decide := false }); done) | fail)) ?_)); (first
 | (refine .inl ⟨_, _, _, _, rfl, fun _hc => ⟨by simp, awake_spec⟩, ?_⟩)
 | (refine .inl ⟨_, _, _, _, rfl, fun _hc => ⟨by simp, h1⟩, ?_⟩)
 | (refine ⟨_, _, _, _, rfl, fun _hc => ⟨by simp, awake_spec⟩, ?_⟩)
 | (refine ⟨_, _, _, _, rfl, fun _hc => ⟨by simp, h1⟩, ?_⟩)
 | fail); (first | refine owp_of_exs ?_ | refine pre_of_exd ?_ | refine pre_of_exe ?_ | fail); simp only [zT, zV, zS, zU, vcC, lateX, ex, strp, cnd, binA, kseq, kblk, kret, klp, Abs.one, elems, cells, scalar, eqC, Nat.reduceBEq, Nat.reduceAdd, Nat.reduceSub, Nat.reduceLT, Nat.reduceLeDiff, Nat.reduceMul, Nat.reduceEqDiff, cond_true, cond_false, if_true, if_false, reduceIte, implies_true, forall_const, ne_eq])
 | ((refine .inl ⟨_, _, _, .any, rfl, fun h => absurd h Bool.false_ne_true, ?_⟩); refine owp_of_exs ?_; simp only [zT, zV, zS, zU, vcC, lateX, ex, strp, cnd, binA, kseq, kblk, kret, klp, Abs.one, elems, cells, scalar, eqC, Nat.reduceBEq, Nat.reduceAdd, Nat.reduceSub, Nat.reduceLT, Nat.reduceLeDiff, Nat.reduceMul, Nat.reduceEqDiff, cond_true, cond_false, if_true, if_false, reduceIte, implies_true, forall_const, ne_eq])
 | (refine ⟨by omega, ?_⟩)
 | (refine And.intro (by (intros; first | (simp_all (config := { decide := false }); done) | fail)) ?_)
 | fail)
    all_goals try (exfalso; omega)
    exact Frz.eq rfl (by simp)
  have hil := ins_len col bs false
  have h2 := Ink_spec p l (ins col false bs) (by omega) (by omega)
  have hT := tiny_ink p l bs
  have hT2 := tiny_ink p l (ins col false bs)
  obtain ⟨hg, htr, hbo, hmy⟩ := inkE_ok.1 he
  have hok := (trace_ok htr).2
  have hco := good_co hg
  obtain ⟨N, hN⟩ : ∃ N : Nat, p.co = N := ⟨p.co.toNat, by omega⟩
  have hXl : (inkX p l bs).length = N := by rw [inkX_len]; omega
  have hYl : (inkX p l (ins col false bs)).length = N := by rw [inkX_len]; omega
  have hXg : ∀ c : Nat, c < N → (inkX p l bs)[c]? = some (inkB p l bs c) := fun c hc => inkX_get (by omega)
  have hYg : ∀ c : Nat, c < N → (inkX p l (ins col false bs))[c]? = some (inkB p l (ins col false bs) c) := fun c hc => inkX_get (by omega)
  rw [inkE_fst he] at h1 hT
  simp only at h1 hT
  (repeat' first
 | (refine AWPC.of_vcn rfl ?_; simp only [zT, zV, zS, zU, vcC, lateX, ex, strp, cnd, binA, kseq, kblk, kret, klp, Abs.one, elems, cells, scalar, eqC, Nat.reduceBEq, Nat.reduceAdd, Nat.reduceSub, Nat.reduceLT, Nat.reduceLeDiff, Nat.reduceMul, Nat.reduceEqDiff, cond_true, cond_false, if_true, if_false, reduceIte, implies_true, forall_const, ne_eq])
 | (simp (disch := omega) only [wr64, Int.zero_sub]; try simp only [zT, zV, zS, zU, vcC, lateX, ex, strp, cnd, binA, kseq, kblk, kret, klp, Abs.one, elems, cells, scalar, eqC, Nat.reduceBEq, Nat.reduceAdd, Nat.reduceSub, Nat.reduceLT, Nat.reduceLeDiff, Nat.reduceMul, Nat.reduceEqDiff, cond_true, cond_false, if_true, if_false, reduceIte, implies_true, forall_const, ne_eq])
 | (refine AWPC.both (fun _ => ?_) (fun _ => ?_))
 | (refine AWPC.imp (fun _ => ?_))
 | ((repeat (refine And.intro (by (intros; first | omega | (simp_all (config := { decide := false }); done) | fail)) ?_)); (first
 | (refine .inl ⟨_, _, _, _, rfl, fun _hc => ⟨by simp, awake_spec⟩, ?_⟩)
 | (refine .inl ⟨_, _, _, _, rfl, fun _hc => ⟨by simp, h1⟩, ?_⟩)
 | (refine ⟨_, _, _, _, rfl, fun _hc => ⟨by simp, awake_spec⟩, ?_⟩)
 | (refine ⟨_, _, _, _, rfl, fun _hc => ⟨by simp, h1⟩, ?_⟩)
 | fail); (first | refine owp_of_exs ?_ | refine pre_of_exd ?_ | refine pre_of_exe ?_ | fail); simp only [zT, zV, zS, zU, vcC, lateX, ex, strp, cnd, binA, kseq, kblk, kret, klp, Abs.one, elems, cells, scalar, eqC, Nat.reduceBEq, Nat.reduceAdd, Nat.reduceSub, Nat.reduceLT, Nat.reduceLeDiff, Nat.reduceMul, Nat.reduceEqDiff, cond_true, cond_false, if_true, if_false, reduceIte, implies_true, forall_const, ne_eq])
 | ((refine .inl ⟨_, _, _, .any, rfl, fun h => absurd h Bool.false_ne_true, ?_⟩); refine owp_of_exs ?_; simp only [zT, zV, zS, zU, vcC, lateX, ex, strp, cnd, binA, kseq, kblk, kret, klp, Abs.one, elems, cells, scalar, eqC, Nat.reduceBEq, Nat.reduceAdd, Nat.reduceSub, Nat.reduceLT, Nat.reduceLeDiff, Nat.reduceMul, Nat.reduceEqDiff, cond_true, cond_false, if_true, if_false, reduceIte, implies_true, forall_const, ne_eq])
 | (refine ⟨by omega, ?_⟩)
 | (refine And.intro (by (intros; first | (simp_all (config := { decide := false }); done) | fail)) ?_)
 | fail)
  all_goals try (exfalso; omega)
  refine AWPC.own0 3 1 12 rfl ?_
  simp only [zS, zU, vcC, lateX, ex, strp, cnd, binA, kseq, kblk, kret, klp, Abs.one, elems, cells, scalar, eqC, Nat.reduceBEq, Nat.reduceAdd, Nat.reduceSub, Nat.reduceLT, Nat.reduceLeDiff, Nat.reduceMul, Nat.reduceEqDiff, cond_true, cond_false, if_true, if_false, reduceIte, implies_true, forall_const, ne_eq]
  refine AWPC.loopE (α := { q : Nat × List Int × Bool // q.1 ≤ bs.length ∧ q.2.1 ++ ins col q.2.2 (bs.drop q.1) = ins col false bs }) [12, 13, 14] (fun q => [(12, .own 1 0 q.1.2.1.length), (13, bl q.1.2.2), (14, n q.1.1)]) (fun q => [some [⟨56, 1, [[colS (inkX p l bs)]], none⟩], some [⟨3, 1, q.1.2.1.map (fun z => [n z]), none⟩]]) (fun q => bs.length - q.1.1) ⟨(0, [], false), Nat.zero_le _, by simp⟩ ?_ rfl ?_
  · (simp only [zT, zV, zS, zU, vcC, lateX, ex, strp, cnd, binA, kseq, kblk, kret, klp, Abs.one, elems, cells, scalar, eqC, Nat.reduceBEq, Nat.reduceAdd, Nat.reduceSub, Nat.reduceLT, Nat.reduceLeDiff, Nat.reduceMul, Nat.reduceEqDiff, cond_true, cond_false, if_true, if_false, reduceIte, implies_true, forall_const, ne_eq]; try simp)
  rintro ⟨⟨i, acc, put⟩, hi, hacc⟩
  simp only at hi hacc
  simp only
  by_cases hlt : i < bs.length
  · obtain ⟨b, hb'⟩ : ∃ b, bs[i]? = some b := ⟨_, List.getElem?_eq_getElem hlt⟩
    have hbg := getD_map (f := fun z => [n z]) (d := []) hb'
    rw [drop_cons hb', ins] at hacc
    have hal : acc.length ≤ 301 := by
      have := congrArg List.length hacc
      rw [List.length_append] at this; omega
    cases put with
    | true =>
      simp only [Bool.true_eq_false, false_and, if_false] at hacc
      (repeat' first
 | (refine AWPC.of_vcn rfl ?_; simp only [zT, zV, zS, zU, vcC, lateX, ex, strp, cnd, binA, kseq, kblk, kret, klp, Abs.one, elems, cells, scalar, eqC, Nat.reduceBEq, Nat.reduceAdd, Nat.reduceSub, Nat.reduceLT, Nat.reduceLeDiff, Nat.reduceMul, Nat.reduceEqDiff, cond_true, cond_false, if_true, if_false, reduceIte, implies_true, forall_const, ne_eq, hbg])
 | (simp (disch := omega) only [wr64, Int.zero_sub]; try simp only [zT, zV, zS, zU, vcC, lateX, ex, strp, cnd, binA, kseq, kblk, kret, klp, Abs.one, elems, cells, scalar, eqC, Nat.reduceBEq, Nat.reduceAdd, Nat.reduceSub, Nat.reduceLT, Nat.reduceLeDiff, Nat.reduceMul, Nat.reduceEqDiff, cond_true, cond_false, if_true, if_false, reduceIte, implies_true, forall_const, ne_eq, hbg])
 | (refine AWPC.both (fun _ => ?_) (fun _ => ?_))
 | (refine AWPC.imp (fun _ => ?_))
 | ((refine .inl ⟨_, _, _, .any, rfl, fun h => absurd h Bool.false_ne_true, ?_⟩); refine owp_of_exs ?_; simp only [zT, zV, zS, zU, vcC, lateX, ex, strp, cnd, binA, kseq, kblk, kret, klp, Abs.one, elems, cells, scalar, eqC, Nat.reduceBEq, Nat.reduceAdd, Nat.reduceSub, Nat.reduceLT, Nat.reduceLeDiff, Nat.reduceMul, Nat.reduceEqDiff, cond_true, cond_false, if_true, if_false, reduceIte, implies_true, forall_const, ne_eq, hbg])
 | (refine ⟨by omega, ?_⟩)
 | (refine And.intro (by (intros; first | (simp_all (config := { decide := false }); done) | fail)) ?_)
 | fail)
      all_goals try (exfalso; omega)
      exact ⟨⟨(i + 1, acc ++ [b], true), hlt, by simp only; rw [← hacc]; simp⟩, ⟨by simp, rfl, by simp⟩, by simp, by simp only; omega⟩
    | false =>
      by_cases hcb : col ≤ b
      · by_cases hbc : b = col
        · simp only [hcb, hbc, and_self, if_true] at hacc
          subst hbc
          (repeat' first
 | (refine AWPC.of_vcn rfl ?_; simp only [zT, zV, zS, zU, vcC, lateX, ex, strp, cnd, binA, kseq, kblk, kret, klp, Abs.one, elems, cells, scalar, eqC, Nat.reduceBEq, Nat.reduceAdd, Nat.reduceSub, Nat.reduceLT, Nat.reduceLeDiff, Nat.reduceMul, Nat.reduceEqDiff, cond_true, cond_false, if_true, if_false, reduceIte, implies_true, forall_const, ne_eq, hbg])
 | (simp (disch := omega) only [wr64, Int.zero_sub]; try simp only [zT, zV, zS, zU, vcC, lateX, ex, strp, cnd, binA, kseq, kblk, kret, klp, Abs.one, elems, cells, scalar, eqC, Nat.reduceBEq, Nat.reduceAdd, Nat.reduceSub, Nat.reduceLT, Nat.reduceLeDiff, Nat.reduceMul, Nat.reduceEqDiff, cond_true, cond_false, if_true, if_false, reduceIte, implies_true, forall_const, ne_eq, hbg])
 | (refine AWPC.both (fun _ => ?_) (fun _ => ?_))
 | (refine AWPC.imp (fun _ => ?_))
 | ((refine .inl ⟨_, _, _, .any, rfl, fun h => absurd h Bool.false_ne_true, ?_⟩); refine owp_of_exs ?_; simp only [zT, zV, zS, zU, vcC, lateX, ex, strp, cnd, binA, kseq, kblk, kret, klp, Abs.one, elems, cells, scalar, eqC, Nat.reduceBEq, Nat.reduceAdd, Nat.reduceSub, Nat.reduceLT, Nat.reduceLeDiff, Nat.reduceMul, Nat.reduceEqDiff, cond_true, cond_false, if_true, if_false, reduceIte, implies_true, forall_const, ne_eq, hbg])
 | (refine ⟨by omega, ?_⟩)
 | (refine And.intro (by (intros; first | (simp_all (config := { decide := false }); done) | fail)) ?_)
 | fail)
          all_goals try (exfalso; omega)
          exact ⟨⟨(i + 1, acc ++ [b], true), hlt, by simp only; rw [← hacc]; simp⟩, ⟨by simp, rfl, by simp⟩, by simp, by simp only; omega⟩
        · simp only [hcb, hbc, and_self, if_true, if_false] at hacc
          (repeat' first
 | (refine AWPC.of_vcn rfl ?_; simp only [zT, zV, zS, zU, vcC, lateX, ex, strp, cnd, binA, kseq, kblk, kret, klp, Abs.one, elems, cells, scalar, eqC, Nat.reduceBEq, Nat.reduceAdd, Nat.reduceSub, Nat.reduceLT, Nat.reduceLeDiff, Nat.reduceMul, Nat.reduceEqDiff, cond_true, cond_false, if_true, if_false, reduceIte, implies_true, forall_const, ne_eq, hbg])
 | (simp (disch := omega) only [wr64, Int.zero_sub]; try simp only [zT, zV, zS, zU, vcC, lateX, ex, strp, cnd, binA, kseq, kblk, kret, klp, Abs.one, elems, cells, scalar, eqC, Nat.reduceBEq, Nat.reduceAdd, Nat.reduceSub, Nat.reduceLT, Nat.reduceLeDiff, Nat.reduceMul, Nat.reduceEqDiff, cond_true, cond_false, if_true, if_false, reduceIte, implies_true, forall_const, ne_eq, hbg])
 | (refine AWPC.both (fun _ => ?_) (fun _ => ?_))
 | (refine AWPC.imp (fun _ => ?_))
 | ((refine .inl ⟨_, _, _, .any, rfl, fun h => absurd h Bool.false_ne_true, ?_⟩); refine owp_of_exs ?_; simp only [zT, zV, zS, zU, vcC, lateX, ex, strp, cnd, binA, kseq, kblk, kret, klp, Abs.one, elems, cells, scalar, eqC, Nat.reduceBEq, Nat.reduceAdd, Nat.reduceSub, Nat.reduceLT, Nat.reduceLeDiff, Nat.reduceMul, Nat.reduceEqDiff, cond_true, cond_false, if_true, if_false, reduceIte, implies_true, forall_const, ne_eq, hbg])
 | (refine ⟨by omega, ?_⟩)
 | (refine And.intro (by (intros; first | (simp_all (config := { decide := false }); done) | fail)) ?_)
 | fail)
          all_goals try (exfalso; omega)
          exact ⟨⟨(i + 1, acc ++ [col] ++ [b], true), hlt, by simp only; rw [← hacc]; simp⟩, ⟨by simp, rfl, by simp⟩, by simp, by simp only; omega⟩
      · simp only [hcb, and_false, if_false] at hacc
        (repeat' first
 | (refine AWPC.of_vcn rfl ?_; simp only [zT, zV, zS, zU, vcC, lateX, ex, strp, cnd, binA, kseq, kblk, kret, klp, Abs.one, elems, cells, scalar, eqC, Nat.reduceBEq, Nat.reduceAdd, Nat.reduceSub, Nat.reduceLT, Nat.reduceLeDiff, Nat.reduceMul, Nat.reduceEqDiff, cond_true, cond_false, if_true, if_false, reduceIte, implies_true, forall_const, ne_eq, hbg])
 | (simp (disch := omega) only [wr64, Int.zero_sub]; try simp only [zT, zV, zS, zU, vcC, lateX, ex, strp, cnd, binA, kseq, kblk, kret, klp, Abs.one, elems, cells, scalar, eqC, Nat.reduceBEq, Nat.reduceAdd, Nat.reduceSub, Nat.reduceLT, Nat.reduceLeDiff, Nat.reduceMul, Nat.reduceEqDiff, cond_true, cond_false, if_true, if_false, reduceIte, implies_true, forall_const, ne_eq, hbg])
 | (refine AWPC.both (fun _ => ?_) (fun _ => ?_))
 | (refine AWPC.imp (fun _ => ?_))
 | ((refine .inl ⟨_, _, _, .any, rfl, fun h => absurd h Bool.false_ne_true, ?_⟩); refine owp_of_exs ?_; simp only [zT, zV, zS, zU, vcC, lateX, ex, strp, cnd, binA, kseq, kblk, kret, klp, Abs.one, elems, cells, scalar, eqC, Nat.reduceBEq, Nat.reduceAdd, Nat.reduceSub, Nat.reduceLT, Nat.reduceLeDiff, Nat.reduceMul, Nat.reduceEqDiff, cond_true, cond_false, if_true, if_false, reduceIte, implies_true, forall_const, ne_eq, hbg])
 | (refine ⟨by omega, ?_⟩)
 | (refine And.intro (by (intros; first | (simp_all (config := { decide := false }); done) | fail)) ?_)
 | fail)
        all_goals try (exfalso; omega)
        exact ⟨⟨(i + 1, acc ++ [b], false), hlt, by simp only; rw [← hacc]; simp⟩, ⟨by simp, rfl, by simp⟩, by simp, by simp only; omega⟩
  · obtain rfl : i = bs.length := by omega
    rw [List.drop_length] at hacc
    (first
 | (refine AWPC.of_vcn rfl ?_; simp only [zT, zV, zS, zU, vcC, lateX, ex, strp, cnd, binA, kseq, kblk, kret, klp, Abs.one, elems, cells, scalar, eqC, Nat.reduceBEq, Nat.reduceAdd, Nat.reduceSub, Nat.reduceLT, Nat.reduceLeDiff, Nat.reduceMul, Nat.reduceEqDiff, cond_true, cond_false, if_true, if_false, reduceIte, implies_true, forall_const, ne_eq])
 | (simp (disch := omega) only [wr64, Int.zero_sub]; try simp only [zT, zV, zS, zU, vcC, lateX, ex, strp, cnd, binA, kseq, kblk, kret, klp, Abs.one, elems, cells, scalar, eqC, Nat.reduceBEq, Nat.reduceAdd, Nat.reduceSub, Nat.reduceLT, Nat.reduceLeDiff, Nat.reduceMul, Nat.reduceEqDiff, cond_true, cond_false, if_true, if_false, reduceIte, implies_true, forall_const, ne_eq])
 | (refine AWPC.both (fun _ => ?_) (fun _ => ?_))
 | (refine AWPC.imp (fun _ => ?_))
 | ((refine .inl ⟨_, _, _, .any, rfl, fun h => absurd h Bool.false_ne_true, ?_⟩); refine owp_of_exs ?_; simp only [zT, zV, zS, zU, vcC, lateX, ex, strp, cnd, binA, kseq, kblk, kret, klp, Abs.one, elems, cells, scalar, eqC, Nat.reduceBEq, Nat.reduceAdd, Nat.reduceSub, Nat.reduceLT, Nat.reduceLeDiff, Nat.reduceMul, Nat.reduceEqDiff, cond_true, cond_false, if_true, if_false, reduceIte, implies_true, forall_const, ne_eq])
 | (refine ⟨by omega, ?_⟩)
 | (refine And.intro (by (intros; first | (simp_all (config := { decide := false }); done) | fail)) ?_)
 | fail)
    (first
 | (refine AWPC.of_vcn rfl ?_; simp only [zT, zV, zS, zU, vcC, lateX, ex, strp, cnd, binA, kseq, kblk, kret, klp, Abs.one, elems, cells, scalar, eqC, Nat.reduceBEq, Nat.reduceAdd, Nat.reduceSub, Nat.reduceLT, Nat.reduceLeDiff, Nat.reduceMul, Nat.reduceEqDiff, cond_true, cond_false, if_true, if_false, reduceIte, implies_true, forall_const, ne_eq])
 | (simp (disch := omega) only [wr64, Int.zero_sub]; try simp only [zT, zV, zS, zU, vcC, lateX, ex, strp, cnd, binA, kseq, kblk, kret, klp, Abs.one, elems, cells, scalar, eqC, Nat.reduceBEq, Nat.reduceAdd, Nat.reduceSub, Nat.reduceLT, Nat.reduceLeDiff, Nat.reduceMul, Nat.reduceEqDiff, cond_true, cond_false, if_true, if_false, reduceIte, implies_true, forall_const, ne_eq])
 | (refine AWPC.both (fun _ => ?_) (fun _ => ?_))
 | (refine AWPC.imp (fun _ => ?_))
 | ((refine .inl ⟨_, _, _, .any, rfl, fun h => absurd h Bool.false_ne_true, ?_⟩); refine owp_of_exs ?_; simp only [zT, zV, zS, zU, vcC, lateX, ex, strp, cnd, binA, kseq, kblk, kret, klp, Abs.one, elems, cells, scalar, eqC, Nat.reduceBEq, Nat.reduceAdd, Nat.reduceSub, Nat.reduceLT, Nat.reduceLeDiff, Nat.reduceMul, Nat.reduceEqDiff, cond_true, cond_false, if_true, if_false, reduceIte, implies_true, forall_const, ne_eq])
 | (refine ⟨by omega, ?_⟩)
 | (refine And.intro (by (intros; first | (simp_all (config := { decide := false }); done) | fail)) ?_)
 | fail)
    (first
 | (refine AWPC.of_vcn rfl ?_; simp only [zT, zV, zS, zU, vcC, lateX, ex, strp, cnd, binA, kseq, kblk, kret, klp, Abs.one, elems, cells, scalar, eqC, Nat.reduceBEq, Nat.reduceAdd, Nat.reduceSub, Nat.reduceLT, Nat.reduceLeDiff, Nat.reduceMul, Nat.reduceEqDiff, cond_true, cond_false, if_true, if_false, reduceIte, implies_true, forall_const, ne_eq])
 | (simp (disch := omega) only [wr64, Int.zero_sub]; try simp only [zT, zV, zS, zU, vcC, lateX, ex, strp, cnd, binA, kseq, kblk, kret, klp, Abs.one, elems, cells, scalar, eqC, Nat.reduceBEq, Nat.reduceAdd, Nat.reduceSub, Nat.reduceLT, Nat.reduceLeDiff, Nat.reduceMul, Nat.reduceEqDiff, cond_true, cond_false, if_true, if_false, reduceIte, implies_true, forall_const, ne_eq])
 | (refine AWPC.both (fun _ => ?_) (fun _ => ?_))
 | (refine AWPC.imp (fun _ => ?_))
 | ((refine .inl ⟨_, _, _, .any, rfl, fun h => absurd h Bool.false_ne_true, ?_⟩); refine owp_of_exs ?_; simp only [zT, zV, zS, zU, vcC, lateX, ex, strp, cnd, binA, kseq, kblk, kret, klp, Abs.one, elems, cells, scalar, eqC, Nat.reduceBEq, Nat.reduceAdd, Nat.reduceSub, Nat.reduceLT, Nat.reduceLeDiff, Nat.reduceMul, Nat.reduceEqDiff, cond_true, cond_false, if_true, if_false, reduceIte, implies_true, forall_const, ne_eq])
 | (refine ⟨by omega, ?_⟩)
 | (refine And.intro (by (intros; first | (simp_all (config := { decide := false }); done) | fail)) ?_)
 | fail)
    all_goals try (exfalso; omega)
    cases put with
    | true =>
      simp only [ins, if_true, List.append_nil] at hacc
      (first
 | (refine AWPC.of_vcn rfl ?_; simp only [zT, zV, zS, zU, vcC, lateX, ex, strp, cnd, binA, kseq, kblk, kret, klp, Abs.one, elems, cells, scalar, eqC, Nat.reduceBEq, Nat.reduceAdd, Nat.reduceSub, Nat.reduceLT, Nat.reduceLeDiff, Nat.reduceMul, Nat.reduceEqDiff, cond_true, cond_false, if_true, if_false, reduceIte, implies_true, forall_const, ne_eq])
 | (simp (disch := omega) only [wr64, Int.zero_sub]; try simp only [zT, zV, zS, zU, vcC, lateX, ex, strp, cnd, binA, kseq, kblk, kret, klp, Abs.one, elems, cells, scalar, eqC, Nat.reduceBEq, Nat.reduceAdd, Nat.reduceSub, Nat.reduceLT, Nat.reduceLeDiff, Nat.reduceMul, Nat.reduceEqDiff, cond_true, cond_false, if_true, if_false, reduceIte, implies_true, forall_const, ne_eq])
 | (refine AWPC.both (fun _ => ?_) (fun _ => ?_))
 | (refine AWPC.imp (fun _ => ?_))
 | ((refine .inl ⟨_, _, _, .any, rfl, fun h => absurd h Bool.false_ne_true, ?_⟩); refine owp_of_exs ?_; simp only [zT, zV, zS, zU, vcC, lateX, ex, strp, cnd, binA, kseq, kblk, kret, klp, Abs.one, elems, cells, scalar, eqC, Nat.reduceBEq, Nat.reduceAdd, Nat.reduceSub, Nat.reduceLT, Nat.reduceLeDiff, Nat.reduceMul, Nat.reduceEqDiff, cond_true, cond_false, if_true, if_false, reduceIte, implies_true, forall_const, ne_eq])
 | (refine ⟨by omega, ?_⟩)
 | (refine And.intro (by (intros; first | (simp_all (config := { decide := false }); done) | fail)) ?_)
 | fail)
      (first
 | (refine AWPC.of_vcn rfl ?_; simp only [zT, zV, zS, zU, vcC, lateX, ex, strp, cnd, binA, kseq, kblk, kret, klp, Abs.one, elems, cells, scalar, eqC, Nat.reduceBEq, Nat.reduceAdd, Nat.reduceSub, Nat.reduceLT, Nat.reduceLeDiff, Nat.reduceMul, Nat.reduceEqDiff, cond_true, cond_false, if_true, if_false, reduceIte, implies_true, forall_const, ne_eq])
 | (simp (disch := omega) only [wr64, Int.zero_sub]; try simp only [zT, zV, zS, zU, vcC, lateX, ex, strp, cnd, binA, kseq, kblk, kret, klp, Abs.one, elems, cells, scalar, eqC, Nat.reduceBEq, Nat.reduceAdd, Nat.reduceSub, Nat.reduceLT, Nat.reduceLeDiff, Nat.reduceMul, Nat.reduceEqDiff, cond_true, cond_false, if_true, if_false, reduceIte, implies_true, forall_const, ne_eq])
 | (refine AWPC.both (fun _ => ?_) (fun _ => ?_))
 | (refine AWPC.imp (fun _ => ?_))
 | ((refine .inl ⟨_, _, _, .any, rfl, fun h => absurd h Bool.false_ne_true, ?_⟩); refine owp_of_exs ?_; simp only [zT, zV, zS, zU, vcC, lateX, ex, strp, cnd, binA, kseq, kblk, kret, klp, Abs.one, elems, cells, scalar, eqC, Nat.reduceBEq, Nat.reduceAdd, Nat.reduceSub, Nat.reduceLT, Nat.reduceLeDiff, Nat.reduceMul, Nat.reduceEqDiff, cond_true, cond_false, if_true, if_false, reduceIte, implies_true, forall_const, ne_eq])
 | (refine ⟨by omega, ?_⟩)
 | (refine And.intro (by (intros; first | (simp_all (config := { decide := false }); done) | fail)) ?_)
 | fail)
      (first
 | (refine AWPC.of_vcn rfl ?_; simp only [zT, zV, zS, zU, vcC, lateX, ex, strp, cnd, binA, kseq, kblk, kret, klp, Abs.one, elems, cells, scalar, eqC, Nat.reduceBEq, Nat.reduceAdd, Nat.reduceSub, Nat.reduceLT, Nat.reduceLeDiff, Nat.reduceMul, Nat.reduceEqDiff, cond_true, cond_false, if_true, if_false, reduceIte, implies_true, forall_const, ne_eq])
 | (simp (disch := omega) only [wr64, Int.zero_sub]; try simp only [zT, zV, zS, zU, vcC, lateX, ex, strp, cnd, binA, kseq, kblk, kret, klp, Abs.one, elems, cells, scalar, eqC, Nat.reduceBEq, Nat.reduceAdd, Nat.reduceSub, Nat.reduceLT, Nat.reduceLeDiff, Nat.reduceMul, Nat.reduceEqDiff, cond_true, cond_false, if_true, if_false, reduceIte, implies_true, forall_const, ne_eq])
 | (refine AWPC.both (fun _ => ?_) (fun _ => ?_))
 | (refine AWPC.imp (fun _ => ?_))
 | ((refine .inl ⟨_, _, _, .any, rfl, fun h => absurd h Bool.false_ne_true, ?_⟩); refine owp_of_exs ?_; simp only [zT, zV, zS, zU, vcC, lateX, ex, strp, cnd, binA, kseq, kblk, kret, klp, Abs.one, elems, cells, scalar, eqC, Nat.reduceBEq, Nat.reduceAdd, Nat.reduceSub, Nat.reduceLT, Nat.reduceLeDiff, Nat.reduceMul, Nat.reduceEqDiff, cond_true, cond_false, if_true, if_false, reduceIte, implies_true, forall_const, ne_eq])
 | (refine ⟨by omega, ?_⟩)
 | (refine And.intro (by (intros; first | (simp_all (config := { decide := false }); done) | fail)) ?_)
 | fail)
      refine AWPC.freeze1 (f := 1) (t := 12) (n := (ins col false bs).length) (o := ⟨3, 1, (ins col false bs).map (fun z => [n z]), none⟩) (by rw [← hacc]; simp [gt]) (by rw [← hacc]; simp [Sto.at]) (by simp) (show (1 : Nat) ≠ 0 by decide) ?_
      by_cases hc : 0 ≤ col ∧ col < p.co
      · obtain ⟨e2, hj⟩ := inkE_blot he hc
        have hw := blot_within he hc
        have h3 := Within_spec (inkX p l bs) (inkX p l (ins col false bs)) hT.lens (by rw [e2] at hT2; exact hT2.lens)
        rw [hw] at h3
        rw [e2] at h2
        have hYc : (inkX p l (ins col false bs))[col.toNat]? = some [] := by
          rw [hYg _ (by omega), hj, if_pos (by omega)]
        simp only at h2 h3
        have hss : ∀ c : Nat, c < N → (c : Int) ≠ col → Pure Try.prog 33 [spS (inkB p l bs c), spS (inkB p l (ins col false bs) c)] (bl true) := fun c hc hne => by
          have hnb := (inkB_nb (bs := bs) hg hok c).len_le
          have := sameSpans_spec (inkB p l bs c) (inkB p l (ins col false bs) c) (by omega) (by rw [hj, if_neg hne]; omega)
          rw [decide_eq_true (by rw [hj, if_neg hne])] at this; exact this
        generalize inkX p l (ins col false bs) = Y at *
        generalize inkX p l bs = X at *
        generalize ins col false bs = mo at *
        (repeat' first
 | (refine AWPC.of_vcn rfl ?_; simp only [zT, zV, zS, zU, vcC, lateX, ex, strp, cnd, binA, kseq, kblk, kret, klp, Abs.one, elems, cells, scalar, eqC, Nat.reduceBEq, Nat.reduceAdd, Nat.reduceSub, Nat.reduceLT, Nat.reduceLeDiff, Nat.reduceMul, Nat.reduceEqDiff, cond_true, cond_false, if_true, if_false, reduceIte, implies_true, forall_const, ne_eq, gone, List.set_cons_succ, List.set_cons_zero, getD_map hYc, List.length_nil])
 | (simp (disch := omega) only [wr64, Int.zero_sub]; try simp only [zT, zV, zS, zU, vcC, lateX, ex, strp, cnd, binA, kseq, kblk, kret, klp, Abs.one, elems, cells, scalar, eqC, Nat.reduceBEq, Nat.reduceAdd, Nat.reduceSub, Nat.reduceLT, Nat.reduceLeDiff, Nat.reduceMul, Nat.reduceEqDiff, cond_true, cond_false, if_true, if_false, reduceIte, implies_true, forall_const, ne_eq, gone, List.set_cons_succ, List.set_cons_zero, getD_map hYc, List.length_nil])
 | (refine AWPC.both (fun _ => ?_) (fun _ => ?_))
 | (refine AWPC.imp (fun _ => ?_))
 | ((repeat (refine And.intro (by (intros; first | omega | (simp_all (config := { decide := false }); done) | fail)) ?_)); (first
 | (refine .inl ⟨_, _, _, _, rfl, fun _hc => ⟨by simp, h2⟩, ?_⟩)
 | (refine .inl ⟨_, _, _, _, rfl, fun _hc => ⟨by simp, h3⟩, ?_⟩)
 | (refine ⟨_, _, _, _, rfl, fun _hc => ⟨by simp, h2⟩, ?_⟩)
 | (refine ⟨_, _, _, _, rfl, fun _hc => ⟨by simp, h3⟩, ?_⟩)
 | fail); (first | refine owp_of_exs ?_ | refine pre_of_exd ?_ | refine pre_of_exe ?_ | fail); simp only [zT, zV, zS, zU, vcC, lateX, ex, strp, cnd, binA, kseq, kblk, kret, klp, Abs.one, elems, cells, scalar, eqC, Nat.reduceBEq, Nat.reduceAdd, Nat.reduceSub, Nat.reduceLT, Nat.reduceLeDiff, Nat.reduceMul, Nat.reduceEqDiff, cond_true, cond_false, if_true, if_false, reduceIte, implies_true, forall_const, ne_eq, gone, List.set_cons_succ, List.set_cons_zero, getD_map hYc, List.length_nil])
 | ((refine .inl ⟨_, _, _, .any, rfl, fun h => absurd h Bool.false_ne_true, ?_⟩); refine owp_of_exs ?_; simp only [zT, zV, zS, zU, vcC, lateX, ex, strp, cnd, binA, kseq, kblk, kret, klp, Abs.one, elems, cells, scalar, eqC, Nat.reduceBEq, Nat.reduceAdd, Nat.reduceSub, Nat.reduceLT, Nat.reduceLeDiff, Nat.reduceMul, Nat.reduceEqDiff, cond_true, cond_false, if_true, if_false, reduceIte, implies_true, forall_const, ne_eq, gone, List.set_cons_succ, List.set_cons_zero, getD_map hYc, List.length_nil])
 | (refine ⟨by omega, ?_⟩)
 | (refine And.intro (by (intros; first | (simp_all (config := { decide := false }); done) | fail)) ?_)
 | fail)
        all_goals try (exfalso; omega)
        refine AWPC.loopI 19 N (fun _ => True) trivial ?_ ?_
        · (simp only [zT, zV, zS, zU, vcC, lateX, ex, strp, cnd, binA, kseq, kblk, kret, klp, Abs.one, elems, cells, scalar, eqC, Nat.reduceBEq, Nat.reduceAdd, Nat.reduceSub, Nat.reduceLT, Nat.reduceLeDiff, Nat.reduceMul, Nat.reduceEqDiff, cond_true, cond_false, if_true, if_false, reduceIte, implies_true, forall_const, ne_eq]; try simp)
        intro c hcN _
        by_cases hlt3 : c < N
        · (repeat' first
 | (refine AWPC.of_vcn rfl ?_; simp only [zT, zV, zS, zU, vcC, lateX, ex, strp, cnd, binA, kseq, kblk, kret, klp, Abs.one, elems, cells, scalar, eqC, Nat.reduceBEq, Nat.reduceAdd, Nat.reduceSub, Nat.reduceLT, Nat.reduceLeDiff, Nat.reduceMul, Nat.reduceEqDiff, cond_true, cond_false, if_true, if_false, reduceIte, implies_true, forall_const, ne_eq, gone, List.set_cons_succ, List.set_cons_zero, getD_map (hXg c hlt3), getD_map (hYg c hlt3)])
 | (simp (disch := omega) only [wr64, Int.zero_sub]; try simp only [zT, zV, zS, zU, vcC, lateX, ex, strp, cnd, binA, kseq, kblk, kret, klp, Abs.one, elems, cells, scalar, eqC, Nat.reduceBEq, Nat.reduceAdd, Nat.reduceSub, Nat.reduceLT, Nat.reduceLeDiff, Nat.reduceMul, Nat.reduceEqDiff, cond_true, cond_false, if_true, if_false, reduceIte, implies_true, forall_const, ne_eq, gone, List.set_cons_succ, List.set_cons_zero, getD_map (hXg c hlt3), getD_map (hYg c hlt3)])
 | (refine AWPC.both (fun _ => ?_) (fun _ => ?_))
 | (refine AWPC.imp (fun _ => ?_))
 | ((repeat (refine And.intro (by (intros; first | omega | (simp_all (config := { decide := false }); done) | fail)) ?_)); (first
 | (refine .inl ⟨_, _, _, _, rfl, fun _hc => ⟨by simp, hss c hlt3 (of_decide_eq_true _hc)⟩, ?_⟩)
 | (refine ⟨_, _, _, _, rfl, fun _hc => ⟨by simp, hss c hlt3 (of_decide_eq_true _hc)⟩, ?_⟩)
 | fail); (first | refine owp_of_exs ?_ | refine pre_of_exd ?_ | refine pre_of_exe ?_ | fail); simp only [zT, zV, zS, zU, vcC, lateX, ex, strp, cnd, binA, kseq, kblk, kret, klp, Abs.one, elems, cells, scalar, eqC, Nat.reduceBEq, Nat.reduceAdd, Nat.reduceSub, Nat.reduceLT, Nat.reduceLeDiff, Nat.reduceMul, Nat.reduceEqDiff, cond_true, cond_false, if_true, if_false, reduceIte, implies_true, forall_const, ne_eq, gone, List.set_cons_succ, List.set_cons_zero, getD_map (hXg c hlt3), getD_map (hYg c hlt3)])
 | ((refine .inl ⟨_, _, _, .any, rfl, fun h => absurd h Bool.false_ne_true, ?_⟩); refine owp_of_exs ?_; simp only [zT, zV, zS, zU, vcC, lateX, ex, strp, cnd, binA, kseq, kblk, kret, klp, Abs.one, elems, cells, scalar, eqC, Nat.reduceBEq, Nat.reduceAdd, Nat.reduceSub, Nat.reduceLT, Nat.reduceLeDiff, Nat.reduceMul, Nat.reduceEqDiff, cond_true, cond_false, if_true, if_false, reduceIte, implies_true, forall_const, ne_eq, gone, List.set_cons_succ, List.set_cons_zero, getD_map (hXg c hlt3), getD_map (hYg c hlt3)])
 | (refine ⟨by omega, ?_⟩)
 | (refine And.intro (by (intros; first | (simp_all (config := { decide := false }); done) | fail)) ?_)
 | fail)
          all_goals try (exfalso; omega)
          exact ⟨⟨c + 1, hlt3, trivial⟩, by simp, by simp only; omega⟩
        · obtain rfl : N = c := by omega
          (repeat' first
 | (refine AWPC.of_vcn rfl ?_; simp only [zT, zV, zS, zU, vcC, lateX, ex, strp, cnd, binA, kseq, kblk, kret, klp, Abs.one, elems, cells, scalar, eqC, Nat.reduceBEq, Nat.reduceAdd, Nat.reduceSub, Nat.reduceLT, Nat.reduceLeDiff, Nat.reduceMul, Nat.reduceEqDiff, cond_true, cond_false, if_true, if_false, reduceIte, implies_true, forall_const, ne_eq])
 | (simp (disch := omega) only [wr64, Int.zero_sub]; try simp only [zT, zV, zS, zU, vcC, lateX, ex, strp, cnd, binA, kseq, kblk, kret, klp, Abs.one, elems, cells, scalar, eqC, Nat.reduceBEq, Nat.reduceAdd, Nat.reduceSub, Nat.reduceLT, Nat.reduceLeDiff, Nat.reduceMul, Nat.reduceEqDiff, cond_true, cond_false, if_true, if_false, reduceIte, implies_true, forall_const, ne_eq])
 | (refine AWPC.both (fun _ => ?_) (fun _ => ?_))
 | (refine AWPC.imp (fun _ => ?_))
 | ((refine .inl ⟨_, _, _, .any, rfl, fun h => absurd h Bool.false_ne_true, ?_⟩); refine owp_of_exs ?_; simp only [zT, zV, zS, zU, vcC, lateX, ex, strp, cnd, binA, kseq, kblk, kret, klp, Abs.one, elems, cells, scalar, eqC, Nat.reduceBEq, Nat.reduceAdd, Nat.reduceSub, Nat.reduceLT, Nat.reduceLeDiff, Nat.reduceMul, Nat.reduceEqDiff, cond_true, cond_false, if_true, if_false, reduceIte, implies_true, forall_const, ne_eq])
 | (refine ⟨by omega, ?_⟩)
 | (refine And.intro (by (intros; first | (simp_all (config := { decide := false }); done) | fail)) ?_)
 | fail)
          all_goals try (exfalso; omega)
          exact Frz.eq rfl (by simp)
      · rw [inkE_noblot he hc] at h2
        generalize ins col false bs = mo at *
        generalize inkX p l bs = X at *
        (repeat' first
 | (refine AWPC.of_vcn rfl ?_; simp only [zT, zV, zS, zU, vcC, lateX, ex, strp, cnd, binA, kseq, kblk, kret, klp, Abs.one, elems, cells, scalar, eqC, Nat.reduceBEq, Nat.reduceAdd, Nat.reduceSub, Nat.reduceLT, Nat.reduceLeDiff, Nat.reduceMul, Nat.reduceEqDiff, cond_true, cond_false, if_true, if_false, reduceIte, implies_true, forall_const, ne_eq, gone, List.set_cons_succ, List.set_cons_zero])
 | (simp (disch := omega) only [wr64, Int.zero_sub]; try simp only [zT, zV, zS, zU, vcC, lateX, ex, strp, cnd, binA, kseq, kblk, kret, klp, Abs.one, elems, cells, scalar, eqC, Nat.reduceBEq, Nat.reduceAdd, Nat.reduceSub, Nat.reduceLT, Nat.reduceLeDiff, Nat.reduceMul, Nat.reduceEqDiff, cond_true, cond_false, if_true, if_false, reduceIte, implies_true, forall_const, ne_eq, gone, List.set_cons_succ, List.set_cons_zero])
 | (refine AWPC.both (fun _ => ?_) (fun _ => ?_))
 | (refine AWPC.imp (fun _ => ?_))
 | ((repeat (refine And.intro (by (intros; first | omega | (simp_all (config := { decide := false }); done) | fail)) ?_)); (first
 | (refine .inl ⟨_, _, _, _, rfl, fun _hc => ⟨by simp, h2⟩, ?_⟩)
 | (refine ⟨_, _, _, _, rfl, fun _hc => ⟨by simp, h2⟩, ?_⟩)
 | fail); (first | refine owp_of_exs ?_ | refine pre_of_exd ?_ | refine pre_of_exe ?_ | fail); simp only [zT, zV, zS, zU, vcC, lateX, ex, strp, cnd, binA, kseq, kblk, kret, klp, Abs.one, elems, cells, scalar, eqC, Nat.reduceBEq, Nat.reduceAdd, Nat.reduceSub, Nat.reduceLT, Nat.reduceLeDiff, Nat.reduceMul, Nat.reduceEqDiff, cond_true, cond_false, if_true, if_false, reduceIte, implies_true, forall_const, ne_eq, gone, List.set_cons_succ, List.set_cons_zero])
 | ((refine .inl ⟨_, _, _, .any, rfl, fun h => absurd h Bool.false_ne_true, ?_⟩); refine owp_of_exs ?_; simp only [zT, zV, zS, zU, vcC, lateX, ex, strp, cnd, binA, kseq, kblk, kret, klp, Abs.one, elems, cells, scalar, eqC, Nat.reduceBEq, Nat.reduceAdd, Nat.reduceSub, Nat.reduceLT, Nat.reduceLeDiff, Nat.reduceMul, Nat.reduceEqDiff, cond_true, cond_false, if_true, if_false, reduceIte, implies_true, forall_const, ne_eq, gone, List.set_cons_succ, List.set_cons_zero])
 | (refine ⟨by omega, ?_⟩)
 | (refine And.intro (by (intros; first | (simp_all (config := { decide := false }); done) | fail)) ?_)
 | fail)
        all_goals try (exfalso; omega)
        all_goals first
          | exact Frz.eq rfl (by simp)
          | trace_state
    | false =>
      simp only [ins, Bool.false_eq_true, if_false] at hacc
      have hal : acc.length ≤ 301 := by
        have := congrArg List.length hacc
        rw [List.length_append] at this; omega
      (first
 | (refine AWPC.of_vcn rfl ?_; simp only [zT, zV, zS, zU, vcC, lateX, ex, strp, cnd, binA, kseq, kblk, kret, klp, Abs.one, elems, cells, scalar, eqC, Nat.reduceBEq, Nat.reduceAdd, Nat.reduceSub, Nat.reduceLT, Nat.reduceLeDiff, Nat.reduceMul, Nat.reduceEqDiff, cond_true, cond_false, if_true, if_false, reduceIte, implies_true, forall_const, ne_eq])
 | (simp (disch := omega) only [wr64, Int.zero_sub]; try simp only [zT, zV, zS, zU, vcC, lateX, ex, strp, cnd, binA, kseq, kblk, kret, klp, Abs.one, elems, cells, scalar, eqC, Nat.reduceBEq, Nat.reduceAdd, Nat.reduceSub, Nat.reduceLT, Nat.reduceLeDiff, Nat.reduceMul, Nat.reduceEqDiff, cond_true, cond_false, if_true, if_false, reduceIte, implies_true, forall_const, ne_eq])
 | (refine AWPC.both (fun _ => ?_) (fun _ => ?_))
 | (refine AWPC.imp (fun _ => ?_))
 | ((refine .inl ⟨_, _, _, .any, rfl, fun h => absurd h Bool.false_ne_true, ?_⟩); refine owp_of_exs ?_; simp only [zT, zV, zS, zU, vcC, lateX, ex, strp, cnd, binA, kseq, kblk, kret, klp, Abs.one, elems, cells, scalar, eqC, Nat.reduceBEq, Nat.reduceAdd, Nat.reduceSub, Nat.reduceLT, Nat.reduceLeDiff, Nat.reduceMul, Nat.reduceEqDiff, cond_true, cond_false, if_true, if_false, reduceIte, implies_true, forall_const, ne_eq])
 | (refine ⟨by omega, ?_⟩)
 | (refine And.intro (by (intros; first | (simp_all (config := { decide := false }); done) | fail)) ?_)
 | fail)
      (first
 | (refine AWPC.of_vcn rfl ?_; simp only [zT, zV, zS, zU, vcC, lateX, ex, strp, cnd, binA, kseq, kblk, kret, klp, Abs.one, elems, cells, scalar, eqC, Nat.reduceBEq, Nat.reduceAdd, Nat.reduceSub, Nat.reduceLT, Nat.reduceLeDiff, Nat.reduceMul, Nat.reduceEqDiff, cond_true, cond_false, if_true, if_false, reduceIte, implies_true, forall_const, ne_eq])
 | (simp (disch := omega) only [wr64, Int.zero_sub]; try simp only [zT, zV, zS, zU, vcC, lateX, ex, strp, cnd, binA, kseq, kblk, kret, klp, Abs.one, elems, cells, scalar, eqC, Nat.reduceBEq, Nat.reduceAdd, Nat.reduceSub, Nat.reduceLT, Nat.reduceLeDiff, Nat.reduceMul, Nat.reduceEqDiff, cond_true, cond_false, if_true, if_false, reduceIte, implies_true, forall_const, ne_eq])
 | (refine AWPC.both (fun _ => ?_) (fun _ => ?_))
 | (refine AWPC.imp (fun _ => ?_))
 | ((refine .inl ⟨_, _, _, .any, rfl, fun h => absurd h Bool.false_ne_true, ?_⟩); refine owp_of_exs ?_; simp only [zT, zV, zS, zU, vcC, lateX, ex, strp, cnd, binA, kseq, kblk, kret, klp, Abs.one, elems, cells, scalar, eqC, Nat.reduceBEq, Nat.reduceAdd, Nat.reduceSub, Nat.reduceLT, Nat.reduceLeDiff, Nat.reduceMul, Nat.reduceEqDiff, cond_true, cond_false, if_true, if_false, reduceIte, implies_true, forall_const, ne_eq])
 | (refine ⟨by omega, ?_⟩)
 | (refine And.intro (by (intros; first | (simp_all (config := { decide := false }); done) | fail)) ?_)
 | fail)
      (first
 | (refine AWPC.of_vcn rfl ?_; simp only [zT, zV, zS, zU, vcC, lateX, ex, strp, cnd, binA, kseq, kblk, kret, klp, Abs.one, elems, cells, scalar, eqC, Nat.reduceBEq, Nat.reduceAdd, Nat.reduceSub, Nat.reduceLT, Nat.reduceLeDiff, Nat.reduceMul, Nat.reduceEqDiff, cond_true, cond_false, if_true, if_false, reduceIte, implies_true, forall_const, ne_eq])
 | (simp (disch := omega) only [wr64, Int.zero_sub]; try simp only [zT, zV, zS, zU, vcC, lateX, ex, strp, cnd, binA, kseq, kblk, kret, klp, Abs.one, elems, cells, scalar, eqC, Nat.reduceBEq, Nat.reduceAdd, Nat.reduceSub, Nat.reduceLT, Nat.reduceLeDiff, Nat.reduceMul, Nat.reduceEqDiff, cond_true, cond_false, if_true, if_false, reduceIte, implies_true, forall_const, ne_eq])
 | (refine AWPC.both (fun _ => ?_) (fun _ => ?_))
 | (refine AWPC.imp (fun _ => ?_))
 | ((refine .inl ⟨_, _, _, .any, rfl, fun h => absurd h Bool.false_ne_true, ?_⟩); refine owp_of_exs ?_; simp only [zT, zV, zS, zU, vcC, lateX, ex, strp, cnd, binA, kseq, kblk, kret, klp, Abs.one, elems, cells, scalar, eqC, Nat.reduceBEq, Nat.reduceAdd, Nat.reduceSub, Nat.reduceLT, Nat.reduceLeDiff, Nat.reduceMul, Nat.reduceEqDiff, cond_true, cond_false, if_true, if_false, reduceIte, implies_true, forall_const, ne_eq])
 | (refine ⟨by omega, ?_⟩)
 | (refine And.intro (by (intros; first | (simp_all (config := { decide := false }); done) | fail)) ?_)
 | fail)
      (repeat (refine And.intro (by (intros; first | omega | (simp_all (config := { decide := false }); done) | fail)) ?_))
      refine AWPC.freeze1 (f := 1) (t := 12) (n := (ins col false bs).length) (o := ⟨3, 1, (ins col false bs).map (fun z => [n z]), none⟩) (by rw [← hacc]; simp [gt]) (by rw [← hacc]; simp [Sto.at]) (by simp) (show (1 : Nat) ≠ 0 by decide) ?_
      by_cases hc : 0 ≤ col ∧ col < p.co
      · obtain ⟨e2, hj⟩ := inkE_blot he hc
        have hw := blot_within he hc
        have h3 := Within_spec (inkX p l bs) (inkX p l (ins col false bs)) hT.lens (by rw [e2] at hT2; exact hT2.lens)
        rw [hw] at h3
        rw [e2] at h2
        have hYc : (inkX p l (ins col false bs))[col.toNat]? = some [] := by
          rw [hYg _ (by omega), hj, if_pos (by omega)]
        simp only at h2 h3
        have hss : ∀ c : Nat, c < N → (c : Int) ≠ col → Pure Try.prog 33 [spS (inkB p l bs c), spS (inkB p l (ins col false bs) c)] (bl true) := fun c hc hne => by
          have hnb := (inkB_nb (bs := bs) hg hok c).len_le
          have := sameSpans_spec (inkB p l bs c) (inkB p l (ins col false bs) c) (by omega) (by rw [hj, if_neg hne]; omega)
          rw [decide_eq_true (by rw [hj, if_neg hne])] at this; exact this
        generalize inkX p l (ins col false bs) = Y at *
        generalize inkX p l bs = X at *
        generalize ins col false bs = mo at *
        (repeat' first
 | (refine AWPC.of_vcn rfl ?_; simp only [zT, zV, zS, zU, vcC, lateX, ex, strp, cnd, binA, kseq, kblk, kret, klp, Abs.one, elems, cells, scalar, eqC, Nat.reduceBEq, Nat.reduceAdd, Nat.reduceSub, Nat.reduceLT, Nat.reduceLeDiff, Nat.reduceMul, Nat.reduceEqDiff, cond_true, cond_false, if_true, if_false, reduceIte, implies_true, forall_const, ne_eq, gone, List.set_cons_succ, List.set_cons_zero, getD_map hYc, List.length_nil])
 | (simp (disch := omega) only [wr64, Int.zero_sub]; try simp only [zT, zV, zS, zU, vcC, lateX, ex, strp, cnd, binA, kseq, kblk, kret, klp, Abs.one, elems, cells, scalar, eqC, Nat.reduceBEq, Nat.reduceAdd, Nat.reduceSub, Nat.reduceLT, Nat.reduceLeDiff, Nat.reduceMul, Nat.reduceEqDiff, cond_true, cond_false, if_true, if_false, reduceIte, implies_true, forall_const, ne_eq, gone, List.set_cons_succ, List.set_cons_zero, getD_map hYc, List.length_nil])
 | (refine AWPC.both (fun _ => ?_) (fun _ => ?_))
 | (refine AWPC.imp (fun _ => ?_))
 | ((repeat (refine And.intro (by (intros; first | omega | (simp_all (config := { decide := false }); done) | fail)) ?_)); (first
 | (refine .inl ⟨_, _, _, _, rfl, fun _hc => ⟨by simp, h2⟩, ?_⟩)
 | (refine .inl ⟨_, _, _, _, rfl, fun _hc => ⟨by simp, h3⟩, ?_⟩)
 | (refine ⟨_, _, _, _, rfl, fun _hc => ⟨by simp, h2⟩, ?_⟩)
 | (refine ⟨_, _, _, _, rfl, fun _hc => ⟨by simp, h3⟩, ?_⟩)
 | fail); (first | refine owp_of_exs ?_ | refine pre_of_exd ?_ | refine pre_of_exe ?_ | fail); simp only [zT, zV, zS, zU, vcC, lateX, ex, strp, cnd, binA, kseq, kblk, kret, klp, Abs.one, elems, cells, scalar, eqC, Nat.reduceBEq, Nat.reduceAdd, Nat.reduceSub, Nat.reduceLT, Nat.reduceLeDiff, Nat.reduceMul, Nat.reduceEqDiff, cond_true, cond_false, if_true, if_false, reduceIte, implies_true, forall_const, ne_eq, gone, List.set_cons_succ, List.set_cons_zero, getD_map hYc, List.length_nil])
 | ((refine .inl ⟨_, _, _, .any, rfl, fun h => absurd h Bool.false_ne_true, ?_⟩); refine owp_of_exs ?_; simp only [zT, zV, zS, zU, vcC, lateX, ex, strp, cnd, binA, kseq, kblk, kret, klp, Abs.one, elems, cells, scalar, eqC, Nat.reduceBEq, Nat.reduceAdd, Nat.reduceSub, Nat.reduceLT, Nat.reduceLeDiff, Nat.reduceMul, Nat.reduceEqDiff, cond_true, cond_false, if_true, if_false, reduceIte, implies_true, forall_const, ne_eq, gone, List.set_cons_succ, List.set_cons_zero, getD_map hYc, List.length_nil])
 | (refine ⟨by omega, ?_⟩)
 | (refine And.intro (by (intros; first | (simp_all (config := { decide := false }); done) | fail)) ?_)
 | fail)
        all_goals try (exfalso; omega)
        refine AWPC.loopI 19 N (fun _ => True) trivial ?_ ?_
        · (simp only [zT, zV, zS, zU, vcC, lateX, ex, strp, cnd, binA, kseq, kblk, kret, klp, Abs.one, elems, cells, scalar, eqC, Nat.reduceBEq, Nat.reduceAdd, Nat.reduceSub, Nat.reduceLT, Nat.reduceLeDiff, Nat.reduceMul, Nat.reduceEqDiff, cond_true, cond_false, if_true, if_false, reduceIte, implies_true, forall_const, ne_eq]; try simp)
        intro c hcN _
        by_cases hlt3 : c < N
        · (repeat' first
 | (refine AWPC.of_vcn rfl ?_; simp only [zT, zV, zS, zU, vcC, lateX, ex, strp, cnd, binA, kseq, kblk, kret, klp, Abs.one, elems, cells, scalar, eqC, Nat.reduceBEq, Nat.reduceAdd, Nat.reduceSub, Nat.reduceLT, Nat.reduceLeDiff, Nat.reduceMul, Nat.reduceEqDiff, cond_true, cond_false, if_true, if_false, reduceIte, implies_true, forall_const, ne_eq, gone, List.set_cons_succ, List.set_cons_zero, getD_map (hXg c hlt3), getD_map (hYg c hlt3)])
 | (simp (disch := omega) only [wr64, Int.zero_sub]; try simp only [zT, zV, zS, zU, vcC, lateX, ex, strp, cnd, binA, kseq, kblk, kret, klp, Abs.one, elems, cells, scalar, eqC, Nat.reduceBEq, Nat.reduceAdd, Nat.reduceSub, Nat.reduceLT, Nat.reduceLeDiff, Nat.reduceMul, Nat.reduceEqDiff, cond_true, cond_false, if_true, if_false, reduceIte, implies_true, forall_const, ne_eq, gone, List.set_cons_succ, List.set_cons_zero, getD_map (hXg c hlt3), getD_map (hYg c hlt3)])
 | (refine AWPC.both (fun _ => ?_) (fun _ => ?_))
 | (refine AWPC.imp (fun _ => ?_))
 | ((repeat (refine And.intro (by (intros; first | omega | (simp_all (config := { decide := false }); done) | fail)) ?_)); (first
 | (refine .inl ⟨_, _, _, _, rfl, fun _hc => ⟨by simp, hss c hlt3 (of_decide_eq_true _hc)⟩, ?_⟩)
 | (refine ⟨_, _, _, _, rfl, fun _hc => ⟨by simp, hss c hlt3 (of_decide_eq_true _hc)⟩, ?_⟩)
 | fail); (first | refine owp_of_exs ?_ | refine pre_of_exd ?_ | refine pre_of_exe ?_ | fail); simp only [zT, zV, zS, zU, vcC, lateX, ex, strp, cnd, binA, kseq, kblk, kret, klp, Abs.one, elems, cells, scalar, eqC, Nat.reduceBEq, Nat.reduceAdd, Nat.reduceSub, Nat.reduceLT, Nat.reduceLeDiff, Nat.reduceMul, Nat.reduceEqDiff, cond_true, cond_false, if_true, if_false, reduceIte, implies_true, forall_const, ne_eq, gone, List.set_cons_succ, List.set_cons_zero, getD_map (hXg c hlt3), getD_map (hYg c hlt3)])
 | ((refine .inl ⟨_, _, _, .any, rfl, fun h => absurd h Bool.false_ne_true, ?_⟩); refine owp_of_exs ?_; simp only [zT, zV, zS, zU, vcC, lateX, ex, strp, cnd, binA, kseq, kblk, kret, klp, Abs.one, elems, cells, scalar, eqC, Nat.reduceBEq, Nat.reduceAdd, Nat.reduceSub, Nat.reduceLT, Nat.reduceLeDiff, Nat.reduceMul, Nat.reduceEqDiff, cond_true, cond_false, if_true, if_false, reduceIte, implies_true, forall_const, ne_eq, gone, List.set_cons_succ, List.set_cons_zero, getD_map (hXg c hlt3), getD_map (hYg c hlt3)])
 | (refine ⟨by omega, ?_⟩)
 | (refine And.intro (by (intros; first | (simp_all (config := { decide := false }); done) | fail)) ?_)
 | fail)
          all_goals try (exfalso; omega)
          exact ⟨⟨c + 1, hlt3, trivial⟩, by simp, by simp only; omega⟩
        · obtain rfl : N = c := by omega
          (repeat' first
 | (refine AWPC.of_vcn rfl ?_; simp only [zT, zV, zS, zU, vcC, lateX, ex, strp, cnd, binA, kseq, kblk, kret, klp, Abs.one, elems, cells, scalar, eqC, Nat.reduceBEq, Nat.reduceAdd, Nat.reduceSub, Nat.reduceLT, Nat.reduceLeDiff, Nat.reduceMul, Nat.reduceEqDiff, cond_true, cond_false, if_true, if_false, reduceIte, implies_true, forall_const, ne_eq])
 | (simp (disch := omega) only [wr64, Int.zero_sub]; try simp only [zT, zV, zS, zU, vcC, lateX, ex, strp, cnd, binA, kseq, kblk, kret, klp, Abs.one, elems, cells, scalar, eqC, Nat.reduceBEq, Nat.reduceAdd, Nat.reduceSub, Nat.reduceLT, Nat.reduceLeDiff, Nat.reduceMul, Nat.reduceEqDiff, cond_true, cond_false, if_true, if_false, reduceIte, implies_true, forall_const, ne_eq])
 | (refine AWPC.both (fun _ => ?_) (fun _ => ?_))
 | (refine AWPC.imp (fun _ => ?_))
 | ((refine .inl ⟨_, _, _, .any, rfl, fun h => absurd h Bool.false_ne_true, ?_⟩); refine owp_of_exs ?_; simp only [zT, zV, zS, zU, vcC, lateX, ex, strp, cnd, binA, kseq, kblk, kret, klp, Abs.one, elems, cells, scalar, eqC, Nat.reduceBEq, Nat.reduceAdd, Nat.reduceSub, Nat.reduceLT, Nat.reduceLeDiff, Nat.reduceMul, Nat.reduceEqDiff, cond_true, cond_false, if_true, if_false, reduceIte, implies_true, forall_const, ne_eq])
 | (refine ⟨by omega, ?_⟩)
 | (refine And.intro (by (intros; first | (simp_all (config := { decide := false }); done) | fail)) ?_)
 | fail)
          all_goals try (exfalso; omega)
          exact Frz.eq rfl (by simp)
      · rw [inkE_noblot he hc] at h2
        generalize ins col false bs = mo at *
        generalize inkX p l bs = X at *
        (repeat' first
 | (refine AWPC.of_vcn rfl ?_; simp only [zT, zV, zS, zU, vcC, lateX, ex, strp, cnd, binA, kseq, kblk, kret, klp, Abs.one, elems, cells, scalar, eqC, Nat.reduceBEq, Nat.reduceAdd, Nat.reduceSub, Nat.reduceLT, Nat.reduceLeDiff, Nat.reduceMul, Nat.reduceEqDiff, cond_true, cond_false, if_true, if_false, reduceIte, implies_true, forall_const, ne_eq, gone, List.set_cons_succ, List.set_cons_zero])
 | (simp (disch := omega) only [wr64, Int.zero_sub]; try simp only [zT, zV, zS, zU, vcC, lateX, ex, strp, cnd, binA, kseq, kblk, kret, klp, Abs.one, elems, cells, scalar, eqC, Nat.reduceBEq, Nat.reduceAdd, Nat.reduceSub, Nat.reduceLT, Nat.reduceLeDiff, Nat.reduceMul, Nat.reduceEqDiff, cond_true, cond_false, if_true, if_false, reduceIte, implies_true, forall_const, ne_eq, gone, List.set_cons_succ, List.set_cons_zero])
 | (refine AWPC.both (fun _ => ?_) (fun _ => ?_))
 | (refine AWPC.imp (fun _ => ?_))
 | ((repeat (refine And.intro (by (intros; first | omega | (simp_all (config := { decide := false }); done) | fail)) ?_)); (first
 | (refine .inl ⟨_, _, _, _, rfl, fun _hc => ⟨by simp, h2⟩, ?_⟩)
 | (refine ⟨_, _, _, _, rfl, fun _hc => ⟨by simp, h2⟩, ?_⟩)
 | fail); (first | refine owp_of_exs ?_ | refine pre_of_exd ?_ | refine pre_of_exe ?_ | fail); simp only [zT, zV, zS, zU, vcC, lateX, ex, strp, cnd, binA, kseq, kblk, kret, klp, Abs.one, elems, cells, scalar, eqC, Nat.reduceBEq, Nat.reduceAdd, Nat.reduceSub, Nat.reduceLT, Nat.reduceLeDiff, Nat.reduceMul, Nat.reduceEqDiff, cond_true, cond_false, if_true, if_false, reduceIte, implies_true, forall_const, ne_eq, gone, List.set_cons_succ, List.set_cons_zero])
 | ((refine .inl ⟨_, _, _, .any, rfl, fun h => absurd h Bool.false_ne_true, ?_⟩); refine owp_of_exs ?_; simp only [zT, zV, zS, zU, vcC, lateX, ex, strp, cnd, binA, kseq, kblk, kret, klp, Abs.one, elems, cells, scalar, eqC, Nat.reduceBEq, Nat.reduceAdd, Nat.reduceSub, Nat.reduceLT, Nat.reduceLeDiff, Nat.reduceMul, Nat.reduceEqDiff, cond_true, cond_false, if_true, if_false, reduceIte, implies_true, forall_const, ne_eq, gone, List.set_cons_succ, List.set_cons_zero])
 | (refine ⟨by omega, ?_⟩)
 | (refine And.intro (by (intros; first | (simp_all (config := { decide := false }); done) | fail)) ?_)
 | fail)
        all_goals try (exfalso; omega)
        all_goals first
          | exact Frz.eq rfl (by simp)
          | trace_state
end Go.Proofs.Ytgpdckmbojmlpaa

