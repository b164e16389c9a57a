/- Part 6 of the texts that the claim rests on: abstract values over the walk, and contracts of functions. -/
import Derived.Test.YtgpdckmbojmlpaaBi5
import Derived.Test.YtgpdckmbojmlpaaRows
import Derived.WalkKit
import Derived.ProofKit
import Derived.OpenShut
import Derived.ShutString
import Derived.ChangeOld
import Derived.Below
namespace Go.Proofs.Ytgpdckmbojmlpaa
open Go.Abs
set_option linter.unusedVariables false
set_option linter.unusedSimpArgs false
set_option maxHeartbeats 4000000
set_option maxRecDepth 100000
-- aneroid/paper.Within
def c61 : CF := ⟨23,
 (.seq (.ops [
 ⟨(some 2), .box false 56 1 (.t 0), none⟩,
 ⟨(some 3), .box false 56 1 (.t 1), none⟩,
 ⟨(some 4), .mv (.c (.bool false)), none⟩,
 ⟨(some 5), .mv (.c (.int .i64 0)), none⟩] [2, 3])
 (.seq (.ops [
 ⟨(some 9), .build [.nilFunc] [(0, 1, (.f 106))], none⟩,
 ⟨(some 10), .load (some 1) (.t 2), none⟩,
 ⟨(some 11), .load (some 1) (.t 3), none⟩,
 ⟨(some 12), .call (.f 109) [(.t 9), (.t 10), (.t 11)], none⟩,
 ⟨(some 8), .mv (.t 12), none⟩,
 ⟨(some 13), .ext 0 (.t 8), none⟩,
 ⟨(some 14), .ext 1 (.t 8), none⟩,
 ⟨(some 6), .mv (.t 13), none⟩,
 ⟨(some 7), .mv (.t 14), none⟩] [6, 7])
 (.seq (.ops [
 ⟨(some 15), .mv (.t 7), none⟩,
 ⟨(some 16), .bin .eql (.t 15) (.c (.int .i64 0)), none⟩,
 ⟨(some 17), .mv (.t 16), none⟩,
 ⟨(some 18), .mv (.t 6), (some (17, true))⟩,
 ⟨(some 19), .call (.f 110) [(.t 18), (.c (.bool false))], (some (17, true))⟩,
 ⟨(some 20), .un .not (.t 19), (some (17, true))⟩,
 ⟨(some 21), .pick (.t 17) (.t 20) (.c (.bool false)), none⟩,
 ⟨(some 22), .mv (.t 7), none⟩,
 ⟨(some 4), .mv (.t 21), none⟩,
 ⟨(some 5), .mv (.t 22), none⟩] [4, 5])
 .ret))),
 [.t 4, .t 5]⟩
-- aneroid/aneroidref01.Within
-- aneroid/aneroidlaw01.same
theorem k61 : chkF Try.prog Try.f61 c61 = true := by kernel_rfl
/-- A slice of Booleans. -/
abbrev blS (l : List Bool) : AV := .sl 1 (l.map fun b => [bl b])
@[simp] theorem pureV_blS (l : List Bool) : PureV (blS l) := by
  refine PureV.sl fun e he c hc => ?_
  obtain ⟨b, _, rfl⟩ := List.mem_map.1 he
  obtain rfl : c = bl b := by simpa using hc
  exact PureV.v _

theorem indexB_spec (l : List Bool) (v : Bool) (hl : l.length < 9223372036854775808) : Pure Try.prog 129 [blS l, bl v] (n (fidx (fun b => v == b) 0 l)) := by
  refine Pure.of_body Try.call129 Try.func129 k129 (Nat.le_of_ble_eq_true rfl) ?_
  unfold c129
  (repeat' first
 | (refine AWPC.of_vcn rfl ?_; simp only [zT, zV, zS, zU, vcC, lateX, ex, strp, cnd, binA, kseq, kblk, kret, klp, Abs.one, elems, cells, scalar, eqC, Nat.reduceBEq, Nat.reduceAdd, Nat.reduceSub, Nat.reduceLT, Nat.reduceLeDiff, Nat.reduceMul, Nat.reduceEqDiff, cond_true, cond_false, if_true, if_false, reduceIte, implies_true, forall_const, ne_eq])
 | (simp (disch := omega) only [wr64, Int.zero_sub]; try simp only [zT, zV, zS, zU, vcC, lateX, ex, strp, cnd, binA, kseq, kblk, kret, klp, Abs.one, elems, cells, scalar, eqC, Nat.reduceBEq, Nat.reduceAdd, Nat.reduceSub, Nat.reduceLT, Nat.reduceLeDiff, Nat.reduceMul, Nat.reduceEqDiff, cond_true, cond_false, if_true, if_false, reduceIte, implies_true, forall_const, ne_eq])
 | (refine AWPC.both (fun _ => ?_) (fun _ => ?_))
 | (refine AWPC.imp (fun _ => ?_))
 | ((refine .inl ⟨_, _, _, .any, rfl, fun h => absurd h Bool.false_ne_true, ?_⟩); refine owp_of_exs ?_; simp only [zT, zV, zS, zU, vcC, lateX, ex, strp, cnd, binA, kseq, kblk, kret, klp, Abs.one, elems, cells, scalar, eqC, Nat.reduceBEq, Nat.reduceAdd, Nat.reduceSub, Nat.reduceLT, Nat.reduceLeDiff, Nat.reduceMul, Nat.reduceEqDiff, cond_true, cond_false, if_true, if_false, reduceIte, implies_true, forall_const, ne_eq])
 | (refine ⟨by omega, ?_⟩)
 | (refine And.intro (by (intros; first | (simp_all (config := { decide := false }); done) | fail)) ?_)
 | fail)
  refine AWPC.loopI 8 l.length (fun i => fidx (fun b => v == b) i (l.drop i) = fidx (fun b => v == b) 0 l) (by simp) ?_ ?_
  · (simp only [zT, zV, zS, zU, vcC, lateX, ex, strp, cnd, binA, kseq, kblk, kret, klp, Abs.one, elems, cells, scalar, eqC, Nat.reduceBEq, Nat.reduceAdd, Nat.reduceSub, Nat.reduceLT, Nat.reduceLeDiff, Nat.reduceMul, Nat.reduceEqDiff, cond_true, cond_false, if_true, if_false, reduceIte, implies_true, forall_const, ne_eq]; try simp)
  · intro i hi hI
    by_cases hlt : i < l.length
    · obtain ⟨b, hb⟩ : ∃ b, l[i]? = some b := ⟨_, List.getElem?_eq_getElem hlt⟩
      rw [drop_cons hb, fidx] at hI
      (repeat' first
 | (refine AWPC.of_vcn rfl ?_; simp only [zT, zV, zS, zU, vcC, lateX, ex, strp, cnd, binA, kseq, kblk, kret, klp, Abs.one, elems, cells, scalar, eqC, Nat.reduceBEq, Nat.reduceAdd, Nat.reduceSub, Nat.reduceLT, Nat.reduceLeDiff, Nat.reduceMul, Nat.reduceEqDiff, cond_true, cond_false, if_true, if_false, reduceIte, implies_true, forall_const, ne_eq, getD_map hb])
 | (simp (disch := omega) only [wr64, Int.zero_sub]; try simp only [zT, zV, zS, zU, vcC, lateX, ex, strp, cnd, binA, kseq, kblk, kret, klp, Abs.one, elems, cells, scalar, eqC, Nat.reduceBEq, Nat.reduceAdd, Nat.reduceSub, Nat.reduceLT, Nat.reduceLeDiff, Nat.reduceMul, Nat.reduceEqDiff, cond_true, cond_false, if_true, if_false, reduceIte, implies_true, forall_const, ne_eq, getD_map hb])
 | (refine AWPC.both (fun _ => ?_) (fun _ => ?_))
 | (refine AWPC.imp (fun _ => ?_))
 | ((refine .inl ⟨_, _, _, .any, rfl, fun h => absurd h Bool.false_ne_true, ?_⟩); refine owp_of_exs ?_; simp only [zT, zV, zS, zU, vcC, lateX, ex, strp, cnd, binA, kseq, kblk, kret, klp, Abs.one, elems, cells, scalar, eqC, Nat.reduceBEq, Nat.reduceAdd, Nat.reduceSub, Nat.reduceLT, Nat.reduceLeDiff, Nat.reduceMul, Nat.reduceEqDiff, cond_true, cond_false, if_true, if_false, reduceIte, implies_true, forall_const, ne_eq, getD_map hb])
 | (refine ⟨by omega, ?_⟩)
 | (refine And.intro (by (intros; first | (simp_all (config := { decide := false }); done) | fail)) ?_)
 | fail)
      all_goals try (exfalso; omega)
      · rename_i h
        rw [h] at hI
        rw [← hI]
        exact Frz.eq rfl (by simp)
      · rename_i h
        rw [show (v == b) = false by simpa using h] at hI
        exact ⟨⟨i + 1, hlt, hI⟩, by simp, by simp only; omega⟩
    · obtain rfl : i = l.length := by omega
      rw [List.drop_length, fidx] at hI
      (repeat' first
 | (refine AWPC.of_vcn rfl ?_; simp only [zT, zV, zS, zU, vcC, lateX, ex, strp, cnd, binA, kseq, kblk, kret, klp, Abs.one, elems, cells, scalar, eqC, Nat.reduceBEq, Nat.reduceAdd, Nat.reduceSub, Nat.reduceLT, Nat.reduceLeDiff, Nat.reduceMul, Nat.reduceEqDiff, cond_true, cond_false, if_true, if_false, reduceIte, implies_true, forall_const, ne_eq])
 | (simp (disch := omega) only [wr64, Int.zero_sub]; try simp only [zT, zV, zS, zU, vcC, lateX, ex, strp, cnd, binA, kseq, kblk, kret, klp, Abs.one, elems, cells, scalar, eqC, Nat.reduceBEq, Nat.reduceAdd, Nat.reduceSub, Nat.reduceLT, Nat.reduceLeDiff, Nat.reduceMul, Nat.reduceEqDiff, cond_true, cond_false, if_true, if_false, reduceIte, implies_true, forall_const, ne_eq])
 | (refine AWPC.both (fun _ => ?_) (fun _ => ?_))
 | (refine AWPC.imp (fun _ => ?_))
 | ((refine .inl ⟨_, _, _, .any, rfl, fun h => absurd h Bool.false_ne_true, ?_⟩); refine owp_of_exs ?_; simp only [zT, zV, zS, zU, vcC, lateX, ex, strp, cnd, binA, kseq, kblk, kret, klp, Abs.one, elems, cells, scalar, eqC, Nat.reduceBEq, Nat.reduceAdd, Nat.reduceSub, Nat.reduceLT, Nat.reduceLeDiff, Nat.reduceMul, Nat.reduceEqDiff, cond_true, cond_false, if_true, if_false, reduceIte, implies_true, forall_const, ne_eq])
 | (refine ⟨by omega, ?_⟩)
 | (refine And.intro (by (intros; first | (simp_all (config := { decide := false }); done) | fail)) ?_)
 | fail)
      all_goals try (exfalso; omega)
      rw [← hI]
      exact Frz.eq rfl (by simp)

theorem containsB_spec (l : List Bool) (v : Bool) (hl : l.length < 9223372036854775808) : Pure Try.prog 110 [blS l, bl v] (bl (l.any fun b => v == b)) := by
  refine Pure.of_body Try.call110 Try.func110 k110 (Nat.le_of_ble_eq_true rfl) ?_
  unfold c110
  have h := (fidx_any (fun b => v == b) l 0).1
  (repeat' first
 | (refine AWPC.of_vcn rfl ?_; simp only [zT, zV, zS, zU, vcC, lateX, ex, strp, cnd, binA, kseq, kblk, kret, klp, Abs.one, elems, cells, scalar, eqC, Nat.reduceBEq, Nat.reduceAdd, Nat.reduceSub, Nat.reduceLT, Nat.reduceLeDiff, Nat.reduceMul, Nat.reduceEqDiff, cond_true, cond_false, if_true, if_false, reduceIte, implies_true, forall_const, ne_eq])
 | (simp (disch := omega) only [wr64, Int.zero_sub]; try simp only [zT, zV, zS, zU, vcC, lateX, ex, strp, cnd, binA, kseq, kblk, kret, klp, Abs.one, elems, cells, scalar, eqC, Nat.reduceBEq, Nat.reduceAdd, Nat.reduceSub, Nat.reduceLT, Nat.reduceLeDiff, Nat.reduceMul, Nat.reduceEqDiff, cond_true, cond_false, if_true, if_false, reduceIte, implies_true, forall_const, ne_eq])
 | (refine AWPC.both (fun _ => ?_) (fun _ => ?_))
 | (refine AWPC.imp (fun _ => ?_))
 | ((repeat (refine And.intro (by (intros; first | omega | (simp_all (config := { decide := false }); done) | fail)) ?_)); (first
 | (refine .inl ⟨_, _, _, _, rfl, fun _hc => ⟨by simp, indexB_spec l v hl⟩, ?_⟩)
 | (refine ⟨_, _, _, _, rfl, fun _hc => ⟨by simp, indexB_spec l v hl⟩, ?_⟩)
 | fail); (first | refine owp_of_exs ?_ | refine pre_of_exd ?_ | refine pre_of_exe ?_ | fail); simp only [zT, zV, zS, zU, vcC, lateX, ex, strp, cnd, binA, kseq, kblk, kret, klp, Abs.one, elems, cells, scalar, eqC, Nat.reduceBEq, Nat.reduceAdd, Nat.reduceSub, Nat.reduceLT, Nat.reduceLeDiff, Nat.reduceMul, Nat.reduceEqDiff, cond_true, cond_false, if_true, if_false, reduceIte, implies_true, forall_const, ne_eq])
 | ((refine .inl ⟨_, _, _, .any, rfl, fun h => absurd h Bool.false_ne_true, ?_⟩); refine owp_of_exs ?_; simp only [zT, zV, zS, zU, vcC, lateX, ex, strp, cnd, binA, kseq, kblk, kret, klp, Abs.one, elems, cells, scalar, eqC, Nat.reduceBEq, Nat.reduceAdd, Nat.reduceSub, Nat.reduceLT, Nat.reduceLeDiff, Nat.reduceMul, Nat.reduceEqDiff, cond_true, cond_false, if_true, if_false, reduceIte, implies_true, forall_const, ne_eq])
 | (refine ⟨by omega, ?_⟩)
 | (refine And.intro (by (intros; first | (simp_all (config := { decide := false }); done) | fail)) ?_)
 | fail)
  refine Frz.eq (congrArg bl ?_) (by simp)
  rw [Bool.eq_iff_iff, decide_eq_true_eq, h]

theorem frz_bl {σ : Sto} {f i m : Nat} (l : List Bool) (h : σ.at f i = some ⟨4, 1, l.map (fun b => [bl b]), none⟩) (hm : m = l.length) : Frz σ (.own f i m) (blS l) := by
  subst hm
  refine Frz.own (o := ⟨4, 1, l.map (fun b => [bl b]), none⟩) (es := l.map (fun b => [bl b])) (show (1 : Nat) ≠ 0 by decide) h (by simp) (by simp) (fun e j he hj => ?_) fun e he => ?_
  · obtain ⟨x, hx⟩ : ∃ x, l[e]? = some x := ⟨_, List.getElem?_eq_getElem he⟩
    rw [getD_map hx]
    match j, hj with
    | 0, _ => exact Frz.eq rfl (by simp)
  · obtain ⟨x, hx⟩ : ∃ x, l[e]? = some x := ⟨_, List.getElem?_eq_getElem he⟩
    rw [getD_map hx]; rfl
theorem frz_blE {σ : Sto} (e : Int) : Frz σ (.tup [.v (.slice none 0 0), n e]) (.tup [blS [], n e]) := by
  refine Frz.tup rfl fun i hi => ?_
  match i, hi with
  | 0, _ => exact Frz.nil
  | 1, _ => exact Frz.eq rfl (by simp)

theorem eachB_spec (a b : List (List Sp)) (ha : Lens a) (hb : Lens b) : Pure Try.prog 109 [.agg [.fn (.func 106) [] []], ink a, ink b] (.tup [blS (if jerr a b = 0 then zipB withinC a b else []), n (jerr a b)]) := by
  refine Pure.of_body Try.call109 Try.func109 k109 (Nat.le_of_ble_eq_true rfl) ?_
  have h1 := checkInked_spec a ha
  have h2 := checkInked_spec b hb
  have ha1 := ha.1
  have hb1 := hb.1
  unfold c109
  (repeat' first
 | (refine AWPC.of_vcn rfl ?_; simp only [zT, zV, zS, zU, vcC, lateX, ex, strp, cnd, binA, kseq, kblk, kret, klp, Abs.one, elems, cells, scalar, eqC, Nat.reduceBEq, Nat.reduceAdd, Nat.reduceSub, Nat.reduceLT, Nat.reduceLeDiff, Nat.reduceMul, Nat.reduceEqDiff, cond_true, cond_false, if_true, if_false, reduceIte, implies_true, forall_const, ne_eq])
 | (simp (disch := omega) only [wr64, Int.zero_sub]; try simp only [zT, zV, zS, zU, vcC, lateX, ex, strp, cnd, binA, kseq, kblk, kret, klp, Abs.one, elems, cells, scalar, eqC, Nat.reduceBEq, Nat.reduceAdd, Nat.reduceSub, Nat.reduceLT, Nat.reduceLeDiff, Nat.reduceMul, Nat.reduceEqDiff, cond_true, cond_false, if_true, if_false, reduceIte, implies_true, forall_const, ne_eq])
 | (refine AWPC.both (fun _ => ?_) (fun _ => ?_))
 | (refine AWPC.imp (fun _ => ?_))
 | ((refine .inl ⟨_, _, _, .any, rfl, fun h => absurd h Bool.false_ne_true, ?_⟩); refine owp_of_exs ?_; simp only [zT, zV, zS, zU, vcC, lateX, ex, strp, cnd, binA, kseq, kblk, kret, klp, Abs.one, elems, cells, scalar, eqC, Nat.reduceBEq, Nat.reduceAdd, Nat.reduceSub, Nat.reduceLT, Nat.reduceLeDiff, Nat.reduceMul, Nat.reduceEqDiff, cond_true, cond_false, if_true, if_false, reduceIte, implies_true, forall_const, ne_eq])
 | (refine ⟨by omega, ?_⟩)
 | (refine And.intro (by (intros; first | (simp_all (config := { decide := false }); done) | fail)) ?_)
 | fail)
  refine AWPC.loopE (α := { p : Nat × Sto // p.1 ≤ 2 ∧ (1 ≤ p.1 → ierr a = 0) ∧ (2 ≤ p.1 → ierr b = 0) }) [17] (fun p => [(17, n p.1.1)]) (fun p => p.1.2) (fun p => 2 - p.1.1) ⟨(0, []), by simp⟩ ?_ (by simp) ?_
  · (simp only [zT, zV, zS, zU, vcC, lateX, ex, strp, cnd, binA, kseq, kblk, kret, klp, Abs.one, elems, cells, scalar, eqC, Nat.reduceBEq, Nat.reduceAdd, Nat.reduceSub, Nat.reduceLT, Nat.reduceLeDiff, Nat.reduceMul, Nat.reduceEqDiff, cond_true, cond_false, if_true, if_false, reduceIte, implies_true, forall_const, ne_eq]; try simp)
  rintro ⟨⟨i, ν⟩, hi, hi1, hi2⟩
  simp only at hi hi1 hi2
  simp only
  have hgd : ([[colS a], [colS b]] : List (List AV)).getD (Int.toNat 1) [] = [colS b] := rfl
  match i, hi with
  | 0, _ =>
    (repeat' first
 | (refine AWPC.of_vcn rfl ?_; simp only [zT, zV, zS, zU, vcC, lateX, ex, strp, cnd, binA, kseq, kblk, kret, klp, Abs.one, elems, cells, scalar, eqC, Nat.reduceBEq, Nat.reduceAdd, Nat.reduceSub, Nat.reduceLT, Nat.reduceLeDiff, Nat.reduceMul, Nat.reduceEqDiff, cond_true, cond_false, if_true, if_false, reduceIte, implies_true, forall_const, ne_eq])
 | (simp (disch := omega) only [wr64, Int.zero_sub]; try simp only [zT, zV, zS, zU, vcC, lateX, ex, strp, cnd, binA, kseq, kblk, kret, klp, Abs.one, elems, cells, scalar, eqC, Nat.reduceBEq, Nat.reduceAdd, Nat.reduceSub, Nat.reduceLT, Nat.reduceLeDiff, Nat.reduceMul, Nat.reduceEqDiff, cond_true, cond_false, if_true, if_false, reduceIte, implies_true, forall_const, ne_eq])
 | (refine AWPC.both (fun _ => ?_) (fun _ => ?_))
 | (refine AWPC.imp (fun _ => ?_))
 | ((repeat (refine And.intro (by (intros; first | omega | (simp_all (config := { decide := false }); done) | fail)) ?_)); (first
 | (refine .inl ⟨_, _, _, _, rfl, fun _hc => ⟨by simp, h1⟩, ?_⟩)
 | (refine ⟨_, _, _, _, rfl, fun _hc => ⟨by simp, h1⟩, ?_⟩)
 | fail); (first | refine owp_of_exs ?_ | refine pre_of_exd ?_ | refine pre_of_exe ?_ | fail); simp only [zT, zV, zS, zU, vcC, lateX, ex, strp, cnd, binA, kseq, kblk, kret, klp, Abs.one, elems, cells, scalar, eqC, Nat.reduceBEq, Nat.reduceAdd, Nat.reduceSub, Nat.reduceLT, Nat.reduceLeDiff, Nat.reduceMul, Nat.reduceEqDiff, cond_true, cond_false, if_true, if_false, reduceIte, implies_true, forall_const, ne_eq])
 | ((refine .inl ⟨_, _, _, .any, rfl, fun h => absurd h Bool.false_ne_true, ?_⟩); refine owp_of_exs ?_; simp only [zT, zV, zS, zU, vcC, lateX, ex, strp, cnd, binA, kseq, kblk, kret, klp, Abs.one, elems, cells, scalar, eqC, Nat.reduceBEq, Nat.reduceAdd, Nat.reduceSub, Nat.reduceLT, Nat.reduceLeDiff, Nat.reduceMul, Nat.reduceEqDiff, cond_true, cond_false, if_true, if_false, reduceIte, implies_true, forall_const, ne_eq])
 | (refine ⟨by omega, ?_⟩)
 | (refine And.intro (by (intros; first | (simp_all (config := { decide := false }); done) | fail)) ?_)
 | fail)
    all_goals try (exfalso; omega)
    · rename_i h
      have hj : jerr a b = ierr a := by unfold jerr; rw [if_pos (.inl h)]; exact (ierr1 fun g => h (ierr0.2 g)).symm
      rw [if_neg (by omega), ← hj]; exact frz_blE _
    · rename_i h
      exact ⟨⟨(1, _), by omega, fun _ => h, fun h => by omega⟩, by simp, rfl, by simp⟩
  | 1, _ =>
    (repeat' first
 | (refine AWPC.of_vcn rfl ?_; simp only [zT, zV, zS, zU, vcC, lateX, ex, strp, cnd, binA, kseq, kblk, kret, klp, Abs.one, elems, cells, scalar, eqC, Nat.reduceBEq, Nat.reduceAdd, Nat.reduceSub, Nat.reduceLT, Nat.reduceLeDiff, Nat.reduceMul, Nat.reduceEqDiff, cond_true, cond_false, if_true, if_false, reduceIte, implies_true, forall_const, ne_eq, hgd])
 | (simp (disch := omega) only [wr64, Int.zero_sub]; try simp only [zT, zV, zS, zU, vcC, lateX, ex, strp, cnd, binA, kseq, kblk, kret, klp, Abs.one, elems, cells, scalar, eqC, Nat.reduceBEq, Nat.reduceAdd, Nat.reduceSub, Nat.reduceLT, Nat.reduceLeDiff, Nat.reduceMul, Nat.reduceEqDiff, cond_true, cond_false, if_true, if_false, reduceIte, implies_true, forall_const, ne_eq, hgd])
 | (refine AWPC.both (fun _ => ?_) (fun _ => ?_))
 | (refine AWPC.imp (fun _ => ?_))
 | ((repeat (refine And.intro (by (intros; first | omega | (simp_all (config := { decide := false }); done) | fail)) ?_)); (first
 | (refine .inl ⟨_, _, _, _, rfl, fun _hc => ⟨by simp, h2⟩, ?_⟩)
 | (refine ⟨_, _, _, _, rfl, fun _hc => ⟨by simp, h2⟩, ?_⟩)
 | fail); (first | refine owp_of_exs ?_ | refine pre_of_exd ?_ | refine pre_of_exe ?_ | fail); simp only [zT, zV, zS, zU, vcC, lateX, ex, strp, cnd, binA, kseq, kblk, kret, klp, Abs.one, elems, cells, scalar, eqC, Nat.reduceBEq, Nat.reduceAdd, Nat.reduceSub, Nat.reduceLT, Nat.reduceLeDiff, Nat.reduceMul, Nat.reduceEqDiff, cond_true, cond_false, if_true, if_false, reduceIte, implies_true, forall_const, ne_eq, hgd])
 | ((refine .inl ⟨_, _, _, .any, rfl, fun h => absurd h Bool.false_ne_true, ?_⟩); refine owp_of_exs ?_; simp only [zT, zV, zS, zU, vcC, lateX, ex, strp, cnd, binA, kseq, kblk, kret, klp, Abs.one, elems, cells, scalar, eqC, Nat.reduceBEq, Nat.reduceAdd, Nat.reduceSub, Nat.reduceLT, Nat.reduceLeDiff, Nat.reduceMul, Nat.reduceEqDiff, cond_true, cond_false, if_true, if_false, reduceIte, implies_true, forall_const, ne_eq, hgd])
 | (refine ⟨by omega, ?_⟩)
 | (refine And.intro (by (intros; first | (simp_all (config := { decide := false }); done) | fail)) ?_)
 | fail)
    all_goals try (exfalso; omega)
    · rename_i h
      have hj : jerr a b = ierr b := by unfold jerr; rw [if_pos (.inr h)]; exact (ierr1 fun g => h (ierr0.2 g)).symm
      rw [if_neg (by omega), ← hj]; exact frz_blE _
    · rename_i h
      exact ⟨⟨(2, _), by omega, fun _ => hi1 (by omega), fun _ => h⟩, by simp, rfl, by simp⟩
  | 2, _ =>
    have e1 := hi1 (by omega)
    have e2 := hi2 (by omega)
    (repeat' first
 | (refine AWPC.of_vcn rfl ?_; simp only [zT, zV, zS, zU, vcC, lateX, ex, strp, cnd, binA, kseq, kblk, kret, klp, Abs.one, elems, cells, scalar, eqC, Nat.reduceBEq, Nat.reduceAdd, Nat.reduceSub, Nat.reduceLT, Nat.reduceLeDiff, Nat.reduceMul, Nat.reduceEqDiff, cond_true, cond_false, if_true, if_false, reduceIte, implies_true, forall_const, ne_eq])
 | (simp (disch := omega) only [wr64, Int.zero_sub]; try simp only [zT, zV, zS, zU, vcC, lateX, ex, strp, cnd, binA, kseq, kblk, kret, klp, Abs.one, elems, cells, scalar, eqC, Nat.reduceBEq, Nat.reduceAdd, Nat.reduceSub, Nat.reduceLT, Nat.reduceLeDiff, Nat.reduceMul, Nat.reduceEqDiff, cond_true, cond_false, if_true, if_false, reduceIte, implies_true, forall_const, ne_eq])
 | (refine AWPC.both (fun _ => ?_) (fun _ => ?_))
 | (refine AWPC.imp (fun _ => ?_))
 | ((refine .inl ⟨_, _, _, .any, rfl, fun h => absurd h Bool.false_ne_true, ?_⟩); refine owp_of_exs ?_; simp only [zT, zV, zS, zU, vcC, lateX, ex, strp, cnd, binA, kseq, kblk, kret, klp, Abs.one, elems, cells, scalar, eqC, Nat.reduceBEq, Nat.reduceAdd, Nat.reduceSub, Nat.reduceLT, Nat.reduceLeDiff, Nat.reduceMul, Nat.reduceEqDiff, cond_true, cond_false, if_true, if_false, reduceIte, implies_true, forall_const, ne_eq])
 | (refine ⟨by omega, ?_⟩)
 | (refine And.intro (by (intros; first | (simp_all (config := { decide := false }); done) | fail)) ?_)
 | fail)
    all_goals try (exfalso; omega)
    · rename_i h
      have hj : jerr a b = 1 := by unfold jerr; rw [if_neg (by omega), if_pos (by omega)]
      rw [if_neg (by omega), hj]; exact frz_blE _
    · rename_i h
      have hl : a.length = b.length := by omega
      have hj : jerr a b = 0 := by unfold jerr; rw [if_neg (by omega), if_neg (by omega)]
      obtain ⟨g1, g2, _⟩ := jerr0.1 hj
      rw [if_pos hj, hj]
      have hzl : (zipB withinC a b).length = a.length := by simp [zipB, hl]
      refine AWPC.own0 4 1 11 rfl ?_
      refine AWPC.loopE (α := { i : Nat // i ≤ a.length }) [11, 37] (fun i => [(11, .own ν.length 0 i.1), (37, n i.1)]) (fun i => ν ++ [some [⟨4, 1, ((zipB withinC a b).take i.1).map (fun l => [bl l]), none⟩]]) (fun i => a.length - i.1) ⟨0, Nat.zero_le _⟩ ?_ (by simp) ?_
      · (simp only [zT, zV, zS, zU, vcC, lateX, ex, strp, cnd, binA, kseq, kblk, kret, klp, Abs.one, elems, cells, scalar, eqC, Nat.reduceBEq, Nat.reduceAdd, Nat.reduceSub, Nat.reduceLT, Nat.reduceLeDiff, Nat.reduceMul, Nat.reduceEqDiff, cond_true, cond_false, if_true, if_false, reduceIte, implies_true, forall_const, ne_eq]; try simp)
      rintro ⟨i, hi⟩
      by_cases hlt : i < a.length
      · obtain ⟨p, hp⟩ : ∃ l, a[i]? = some l := ⟨_, List.getElem?_eq_getElem hlt⟩
        obtain ⟨q, hq⟩ : ∃ l, b[i]? = some l := ⟨_, List.getElem?_eq_getElem (by omega)⟩
        have hd := Pure.does (σ := ν ++ [some [⟨4, 1, ((zipB withinC a b).take i).map (fun l => [bl l]), none⟩]]) (within1_spec p q (g1.2 p (List.mem_of_getElem? hp)) (g2.2 q (List.mem_of_getElem? hq))) (fun c hc => by
          simp only [List.mem_cons, List.not_mem_nil, or_false] at hc
          rcases hc with rfl | rfl <;> exact pureV_spS _)
        have hz : (zipB withinC a b)[i]? = some (withinC p q) := by simp [zipB, List.getElem?_zipWith, hp, hq]
        have hzt : (zipB withinC a b).take (i + 1) = (zipB withinC a b).take i ++ [withinC p q] := by rw [List.take_add_one, hz]; rfl
        have htl : (((zipB withinC a b).take i).map (fun l => [bl l])).length = i := by simp [hzl]; omega
        have ha2 := g1.1.2
        (repeat' first
 | (refine AWPC.of_vcn rfl ?_; simp only [zT, zV, zS, zU, vcC, lateX, ex, strp, cnd, binA, kseq, kblk, kret, klp, Abs.one, elems, cells, scalar, eqC, Nat.reduceBEq, Nat.reduceAdd, Nat.reduceSub, Nat.reduceLT, Nat.reduceLeDiff, Nat.reduceMul, Nat.reduceEqDiff, cond_true, cond_false, if_true, if_false, reduceIte, implies_true, forall_const, ne_eq, getD_map hp, getD_map hq])
 | (simp (disch := omega) only [wr64, Int.zero_sub]; try simp only [zT, zV, zS, zU, vcC, lateX, ex, strp, cnd, binA, kseq, kblk, kret, klp, Abs.one, elems, cells, scalar, eqC, Nat.reduceBEq, Nat.reduceAdd, Nat.reduceSub, Nat.reduceLT, Nat.reduceLeDiff, Nat.reduceMul, Nat.reduceEqDiff, cond_true, cond_false, if_true, if_false, reduceIte, implies_true, forall_const, ne_eq, getD_map hp, getD_map hq])
 | (refine AWPC.both (fun _ => ?_) (fun _ => ?_))
 | (refine AWPC.imp (fun _ => ?_))
 | ((refine .inl ⟨_, _, _, .any, rfl, fun h => absurd h Bool.false_ne_true, ?_⟩); refine owp_of_exs ?_; simp only [zT, zV, zS, zU, vcC, lateX, ex, strp, cnd, binA, kseq, kblk, kret, klp, Abs.one, elems, cells, scalar, eqC, Nat.reduceBEq, Nat.reduceAdd, Nat.reduceSub, Nat.reduceLT, Nat.reduceLeDiff, Nat.reduceMul, Nat.reduceEqDiff, cond_true, cond_false, if_true, if_false, reduceIte, implies_true, forall_const, ne_eq, getD_map hp, getD_map hq])
 | (refine ⟨by omega, ?_⟩)
 | (refine And.intro (by (intros; first | (simp_all (config := { decide := false }); done) | fail)) ?_)
 | fail)
        all_goals try (exfalso; omega)
        refine ⟨.inr (.inl ⟨_, _, _, _, rfl, fun _ => ⟨hd, ?_⟩, fun h => by cases h⟩), .inr ⟨_, _, _, _, rfl, hd, ?_⟩⟩
        · rintro res σ' ⟨rfl, rfl⟩
          refine owp_of_exs ?_
          simp only [zT, zV, zS, zU, vcC, lateX, ex, strp, cnd, binA, kseq, kblk, kret, klp, Abs.one, elems, cells, scalar, eqC, Nat.reduceBEq, Nat.reduceAdd, Nat.reduceSub, Nat.reduceLT, Nat.reduceLeDiff, Nat.reduceMul, Nat.reduceEqDiff, cond_true, cond_false, if_true, if_false, reduceIte, implies_true, forall_const, ne_eq, htl]
          refine ⟨by omega, ?_⟩
          (repeat' first
 | (refine AWPC.of_vcn rfl ?_; simp only [zT, zV, zS, zU, vcC, lateX, ex, strp, cnd, binA, kseq, kblk, kret, klp, Abs.one, elems, cells, scalar, eqC, Nat.reduceBEq, Nat.reduceAdd, Nat.reduceSub, Nat.reduceLT, Nat.reduceLeDiff, Nat.reduceMul, Nat.reduceEqDiff, cond_true, cond_false, if_true, if_false, reduceIte, implies_true, forall_const, ne_eq])
 | (simp (disch := omega) only [wr64, Int.zero_sub]; try simp only [zT, zV, zS, zU, vcC, lateX, ex, strp, cnd, binA, kseq, kblk, kret, klp, Abs.one, elems, cells, scalar, eqC, Nat.reduceBEq, Nat.reduceAdd, Nat.reduceSub, Nat.reduceLT, Nat.reduceLeDiff, Nat.reduceMul, Nat.reduceEqDiff, cond_true, cond_false, if_true, if_false, reduceIte, implies_true, forall_const, ne_eq])
 | (refine AWPC.both (fun _ => ?_) (fun _ => ?_))
 | (refine AWPC.imp (fun _ => ?_))
 | ((refine .inl ⟨_, _, _, .any, rfl, fun h => absurd h Bool.false_ne_true, ?_⟩); refine owp_of_exs ?_; simp only [zT, zV, zS, zU, vcC, lateX, ex, strp, cnd, binA, kseq, kblk, kret, klp, Abs.one, elems, cells, scalar, eqC, Nat.reduceBEq, Nat.reduceAdd, Nat.reduceSub, Nat.reduceLT, Nat.reduceLeDiff, Nat.reduceMul, Nat.reduceEqDiff, cond_true, cond_false, if_true, if_false, reduceIte, implies_true, forall_const, ne_eq])
 | (refine ⟨by omega, ?_⟩)
 | (refine And.intro (by (intros; first | (simp_all (config := { decide := false }); done) | fail)) ?_)
 | fail)
          exact ⟨⟨i + 1, hlt⟩, ⟨rfl, by simp⟩, by simp only; rw [hzt]; simp, by simp only; omega⟩
        · rintro res σ' ⟨rfl, rfl⟩
          refine ⟨owp_of_exs ?_, owp_of_exs ?_⟩
          all_goals
            simp only [zT, zV, zS, zU, vcC, lateX, ex, strp, cnd, binA, kseq, kblk, kret, klp, Abs.one, elems, cells, scalar, eqC, Nat.reduceBEq, Nat.reduceAdd, Nat.reduceSub, Nat.reduceLT, Nat.reduceLeDiff, Nat.reduceMul, Nat.reduceEqDiff, cond_true, cond_false, if_true, if_false, reduceIte, implies_true, forall_const, ne_eq, htl]
            refine ⟨by omega, ?_⟩
            (repeat' first
 | (refine AWPC.of_vcn rfl ?_; simp only [zT, zV, zS, zU, vcC, lateX, ex, strp, cnd, binA, kseq, kblk, kret, klp, Abs.one, elems, cells, scalar, eqC, Nat.reduceBEq, Nat.reduceAdd, Nat.reduceSub, Nat.reduceLT, Nat.reduceLeDiff, Nat.reduceMul, Nat.reduceEqDiff, cond_true, cond_false, if_true, if_false, reduceIte, implies_true, forall_const, ne_eq])
 | (simp (disch := omega) only [wr64, Int.zero_sub]; try simp only [zT, zV, zS, zU, vcC, lateX, ex, strp, cnd, binA, kseq, kblk, kret, klp, Abs.one, elems, cells, scalar, eqC, Nat.reduceBEq, Nat.reduceAdd, Nat.reduceSub, Nat.reduceLT, Nat.reduceLeDiff, Nat.reduceMul, Nat.reduceEqDiff, cond_true, cond_false, if_true, if_false, reduceIte, implies_true, forall_const, ne_eq])
 | (refine AWPC.both (fun _ => ?_) (fun _ => ?_))
 | (refine AWPC.imp (fun _ => ?_))
 | ((refine .inl ⟨_, _, _, .any, rfl, fun h => absurd h Bool.false_ne_true, ?_⟩); refine owp_of_exs ?_; simp only [zT, zV, zS, zU, vcC, lateX, ex, strp, cnd, binA, kseq, kblk, kret, klp, Abs.one, elems, cells, scalar, eqC, Nat.reduceBEq, Nat.reduceAdd, Nat.reduceSub, Nat.reduceLT, Nat.reduceLeDiff, Nat.reduceMul, Nat.reduceEqDiff, cond_true, cond_false, if_true, if_false, reduceIte, implies_true, forall_const, ne_eq])
 | (refine ⟨by omega, ?_⟩)
 | (refine And.intro (by (intros; first | (simp_all (config := { decide := false }); done) | fail)) ?_)
 | fail)
            exact ⟨⟨i + 1, hlt⟩, ⟨rfl, by simp⟩, by simp only; rw [hzt]; simp, by simp only; omega⟩
      · obtain rfl : i = a.length := by omega
        (repeat' first
 | (refine AWPC.of_vcn rfl ?_; simp only [zT, zV, zS, zU, vcC, lateX, ex, strp, cnd, binA, kseq, kblk, kret, klp, Abs.one, elems, cells, scalar, eqC, Nat.reduceBEq, Nat.reduceAdd, Nat.reduceSub, Nat.reduceLT, Nat.reduceLeDiff, Nat.reduceMul, Nat.reduceEqDiff, cond_true, cond_false, if_true, if_false, reduceIte, implies_true, forall_const, ne_eq])
 | (simp (disch := omega) only [wr64, Int.zero_sub]; try simp only [zT, zV, zS, zU, vcC, lateX, ex, strp, cnd, binA, kseq, kblk, kret, klp, Abs.one, elems, cells, scalar, eqC, Nat.reduceBEq, Nat.reduceAdd, Nat.reduceSub, Nat.reduceLT, Nat.reduceLeDiff, Nat.reduceMul, Nat.reduceEqDiff, cond_true, cond_false, if_true, if_false, reduceIte, implies_true, forall_const, ne_eq])
 | (refine AWPC.both (fun _ => ?_) (fun _ => ?_))
 | (refine AWPC.imp (fun _ => ?_))
 | ((refine .inl ⟨_, _, _, .any, rfl, fun h => absurd h Bool.false_ne_true, ?_⟩); refine owp_of_exs ?_; simp only [zT, zV, zS, zU, vcC, lateX, ex, strp, cnd, binA, kseq, kblk, kret, klp, Abs.one, elems, cells, scalar, eqC, Nat.reduceBEq, Nat.reduceAdd, Nat.reduceSub, Nat.reduceLT, Nat.reduceLeDiff, Nat.reduceMul, Nat.reduceEqDiff, cond_true, cond_false, if_true, if_false, reduceIte, implies_true, forall_const, ne_eq])
 | (refine ⟨by omega, ?_⟩)
 | (refine And.intro (by (intros; first | (simp_all (config := { decide := false }); done) | fail)) ?_)
 | fail)
        all_goals try (exfalso; omega)
        rw [List.take_of_length_le (by omega)]
        refine Frz.tup rfl fun i hi => ?_
        match i, hi with
        | 0, _ => exact frz_bl (zipB withinC a b) (by rw [at_app0]; rfl) hzl.symm
        | 1, _ => exact Frz.eq rfl (by simp)

theorem Within_spec (a b : List (List Sp)) (ha : Lens a) (hb : Lens b) : Pure Try.prog 61 [ink a, ink b] (.tup [bl (withinE a b).1, n (withinE a b).2]) := by
  refine Pure.of_body Try.call61 Try.func61 k61 (Nat.le_of_ble_eq_true rfl) ?_
  have he := eachB_spec a b ha hb
  have ha1 := ha.1
  have hlen : (if jerr a b = 0 then zipB withinC a b else []).length < 9223372036854775808 := by
    by_cases hj : jerr a b = 0
    · rw [if_pos hj]; simp [zipB]; omega
    · rw [if_neg hj]; simp
  have hc := containsB_spec _ false hlen
  unfold c61 withinE
  (repeat' first
 | (refine AWPC.of_vcn rfl ?_; simp only [zT, zV, zS, zU, vcC, lateX, ex, strp, cnd, binA, kseq, kblk, kret, klp, Abs.one, elems, cells, scalar, eqC, Nat.reduceBEq, Nat.reduceAdd, Nat.reduceSub, Nat.reduceLT, Nat.reduceLeDiff, Nat.reduceMul, Nat.reduceEqDiff, cond_true, cond_false, if_true, if_false, reduceIte, implies_true, forall_const, ne_eq])
 | (simp (disch := omega) only [wr64, Int.zero_sub]; try simp only [zT, zV, zS, zU, vcC, lateX, ex, strp, cnd, binA, kseq, kblk, kret, klp, Abs.one, elems, cells, scalar, eqC, Nat.reduceBEq, Nat.reduceAdd, Nat.reduceSub, Nat.reduceLT, Nat.reduceLeDiff, Nat.reduceMul, Nat.reduceEqDiff, cond_true, cond_false, if_true, if_false, reduceIte, implies_true, forall_const, ne_eq])
 | (refine AWPC.both (fun _ => ?_) (fun _ => ?_))
 | (refine AWPC.imp (fun _ => ?_))
 | ((repeat (refine And.intro (by (intros; first | omega | (simp_all (config := { decide := false }); done) | fail)) ?_)); (first
 | (refine .inl ⟨_, _, _, _, rfl, fun _hc => ⟨by simp, he⟩, ?_⟩)
 | (refine .inl ⟨_, _, _, _, rfl, fun _hc => ⟨by simp, hc⟩, ?_⟩)
 | (refine ⟨_, _, _, _, rfl, fun _hc => ⟨by simp, he⟩, ?_⟩)
 | (refine ⟨_, _, _, _, rfl, fun _hc => ⟨by simp, hc⟩, ?_⟩)
 | fail); (first | refine owp_of_exs ?_ | refine pre_of_exd ?_ | refine pre_of_exe ?_ | fail); simp only [zT, zV, zS, zU, vcC, lateX, ex, strp, cnd, binA, kseq, kblk, kret, klp, Abs.one, elems, cells, scalar, eqC, Nat.reduceBEq, Nat.reduceAdd, Nat.reduceSub, Nat.reduceLT, Nat.reduceLeDiff, Nat.reduceMul, Nat.reduceEqDiff, cond_true, cond_false, if_true, if_false, reduceIte, implies_true, forall_const, ne_eq])
 | ((refine .inl ⟨_, _, _, .any, rfl, fun h => absurd h Bool.false_ne_true, ?_⟩); refine owp_of_exs ?_; simp only [zT, zV, zS, zU, vcC, lateX, ex, strp, cnd, binA, kseq, kblk, kret, klp, Abs.one, elems, cells, scalar, eqC, Nat.reduceBEq, Nat.reduceAdd, Nat.reduceSub, Nat.reduceLT, Nat.reduceLeDiff, Nat.reduceMul, Nat.reduceEqDiff, cond_true, cond_false, if_true, if_false, reduceIte, implies_true, forall_const, ne_eq])
 | (refine ⟨by omega, ?_⟩)
 | (refine And.intro (by (intros; first | (simp_all (config := { decide := false }); done) | fail)) ?_)
 | fail)
  refine Frz.eq ?_ (by simp)
  by_cases hj : jerr a b = 0
  · have e : ((zipB withinC a b).any fun b => false == b) = !(zipB withinC a b).all id := by
      rw [Bool.eq_iff_iff]; simp
    simp only [hj, if_true, e]
    simp
  · simp [hj]

end Go.Proofs.Ytgpdckmbojmlpaa

namespace Go.Proofs.Ytgpdckmbojmlpaa
open Go.Abs
set_option linter.unusedVariables false
set_option linter.unusedSimpArgs false
set_option maxHeartbeats 4000000
set_option maxRecDepth 100000
-- aneroid/aneroidlaw01.PaperCopies
-- aneroid/aneroidlaw01.PaperLattice
/-- A sheet whose lengths are small. -/
structure Tiny (x : List (List Sp)) : Prop where
  n : x.length ≤ 200
  c : ∀ l ∈ x, l.length ≤ 8
theorem Tiny.nil : Tiny [] := ⟨by simp, fun l h => by cases h⟩
theorem Tiny.right {x : List (List Sp)} (h : rightInk x) : Tiny x := ⟨h.1.2, fun l hl => (h.2 l hl).2.2⟩
theorem Tiny.lens {x : List (List Sp)} (h : Tiny x) : Lens x := ⟨by have := h.n; omega, fun l hl => by have := h.c l hl; omega⟩
theorem Tiny.c9 {x : List (List Sp)} (h : Tiny x) : ∀ l ∈ x, l.length < 1000000000 := fun l hl => by have := h.c l hl; omega
theorem sets_tiny {a b : List (List Sp)} (ha : Tiny a) (hb : Tiny b) : Pure Try.prog 59 [colS a, colS b] (bl (decide (a = b))) := sameSets_spec a b ha.lens.1 hb.lens.1 ha.c9 hb.c9
end Go.Proofs.Ytgpdckmbojmlpaa

namespace Go.Proofs.Ytgpdckmbojmlpaa
open Go.Abs
set_option linter.unusedVariables false
set_option linter.unusedSimpArgs false
set_option maxHeartbeats 4000000
set_option maxRecDepth 100000

theorem inkE_ok {p : Pp} {l : List Pt} {bs : List Int} : (inkE p l bs).2 = 0 ↔ p.good ∧ (traceErr l).1 = 0 ∧ bOK p.co bs ∧ many (inkX p l bs) = false := by
  unfold inkE
  by_cases hg : p.good
  · rw [if_neg (fun h => h hg)]
    by_cases ht : (traceErr l).1 ≠ 0
    · rw [if_pos ht]; exact ⟨fun h => absurd h ht, fun h => absurd h.2.1 ht⟩
    · rw [if_neg ht]
      have ht' : (traceErr l).1 = 0 := by omega
      by_cases hb : bOK p.co bs
      · rw [tr_1 hb]
        simp only [Bool.true_eq_false, if_false, lim]
        cases hm : many (inkX p l bs)
        · simp [hg, ht', hb]
        · simp
      · rw [tr_0 hb]; simp [hb]
  · rw [if_pos hg]; simp [hg]
theorem inkE_fst {p : Pp} {l : List Pt} {bs : List Int} (h : (inkE p l bs).2 = 0) : inkE p l bs = (inkX p l bs, 0) := by
  obtain ⟨h1, h2, h3, h4⟩ := inkE_ok.1 h
  unfold inkE
  rw [if_neg (fun g => g h1), if_neg (by omega), tr_1 h3, lim, h4]; rfl
theorem inkE_mk {p : Pp} {l : List Pt} {bs : List Int} (h1 : p.good) (h2 : (traceErr l).1 = 0) (h3 : bOK p.co bs) (h4 : many (inkX p l bs) = false) : inkE p l bs = (inkX p l bs, 0) := inkE_fst (inkE_ok.2 ⟨h1, h2, h3, h4⟩)
theorem inkE_bad {p : Pp} {l : List Pt} {bs : List Int} (h : (inkE p l bs).2 ≠ 0) : (inkE p l bs).1 = [] := by
  unfold inkE at h ⊢
  by_cases hg : p.good
  · rw [if_neg (fun h => h hg)] at h ⊢
    by_cases ht : (traceErr l).1 ≠ 0
    · rw [if_pos ht]
    · rw [if_neg ht] at h ⊢
      by_cases hb : tr (bOK p.co bs) = false
      · rw [if_pos hb]
      · rw [if_neg hb] at h ⊢
        unfold lim at h ⊢
        cases hm : many (inkX p l bs)
        · rw [hm] at h; exact absurd rfl h
        · rfl
  · rw [if_pos hg]
theorem good_co {p : Pp} (h : p.good) : 1 ≤ p.co ∧ p.co ≤ 200 := ⟨h.2.2.2.2.2.2.2.2.2.1, h.2.2.2.2.2.2.2.2.2.2.1⟩
theorem inkX_len (p : Pp) (l : List Pt) (bs : List Int) : (inkX p l bs).length = p.co.toNat := by simp [inkX]
theorem inkX_get {p : Pp} {l : List Pt} {bs : List Int} {c : Nat} (h : c < p.co.toNat) : (inkX p l bs)[c]? = some (inkB p l bs c) := by simp [inkX, h]
theorem tiny_ink (p : Pp) (l : List Pt) (bs : List Int) : Tiny (inkE p l bs).1 := by
  by_cases h : (inkE p l bs).2 = 0
  · rw [inkE_fst h]
    obtain ⟨h1, h2, h3, h4⟩ := inkE_ok.1 h
    have := good_co h1
    exact ⟨by rw [inkX_len]; omega, many_len h4⟩
  · rw [inkE_bad h]; exact .nil
theorem right_ink {p : Pp} {l : List Pt} {bs : List Int} (h : (inkE p l bs).2 = 0) : rightInk (inkX p l bs) := by
  obtain ⟨h1, h2, h3, h4⟩ := inkE_ok.1 h
  have h5 := good_co h1
  refine ⟨by rw [inkX_len]; omega, fun x hx => ?_⟩
  have h8 := many_len h4 x hx
  obtain ⟨c, hc, rfl⟩ := List.mem_map.1 hx
  exact (inkB_nb h1 (trace_ok h2).2 c).good h8

theorem bad_mk : ∀ (l : List Pt) (i : Nat), (∀ t ∈ l, t.right) → (bad l i).1 = 0
  | [], _, _ => rfl
  | p :: r, i, h => by
    unfold bad
    rw [if_pos (h p (by simp))]
    exact bad_mk r (i + 1) fun t ht => h t (by simp [ht])
theorem trace_mk {l : List Pt} (h1 : l.length ≤ 2000) (h2 : ∀ t ∈ l, t.right) : (traceErr l).1 = 0 := by
  unfold traceErr; rw [if_neg (by omega)]; exact bad_mk l 0 h2

/-- The same points, whatever their order and however often, make the same sheet. -/
theorem inkE_same {p : Pp} {l k : List Pt} {bs : List Int} (h : (inkE p l bs).2 = 0) (hk : k.length ≤ 2000) (hm : ∀ t, t ∈ k ↔ t ∈ l) : inkE p k bs = inkE p l bs := by
  obtain ⟨h1, h2, h3, h4⟩ := inkE_ok.1 h
  have hr := (trace_ok h2).2
  have e : inkX p k bs = inkX p l bs := range_congr fun c hc => by
    unfold inkB
    by_cases hb : (c : Int) ∈ bs
    · rw [if_pos hb, if_pos hb]
    · rw [if_neg hb, if_neg hb]
      have i1 := inkC_ok (p := p) (c := c) (l := k) h1 fun t ht => hr t ((hm t).1 ht)
      have i2 := inkC_ok (p := p) (c := c) (l := l) h1 hr
      refine i1.1.ext i2.1 fun v => ?_
      rw [i1.2, i2.2]
      exact ⟨fun ⟨t, ht, hv⟩ => ⟨t, (hm t).1 ht, hv⟩, fun ⟨t, ht, hv⟩ => ⟨t, (hm t).2 ht, hv⟩⟩
  rw [inkE_fst h, inkE_mk h1 (trace_mk hk fun t ht => hr t ((hm t).1 ht)) h3 (by rw [e]; exact h4), e]

/-- A number more, in order. -/
def ins (c : Int) : Bool → List Int → List Int
  | put, [] => if put then [] else [c]
  | put, b :: r => if put = false ∧ c ≤ b then (if b = c then c :: ins c true r else c :: b :: ins c true r) else b :: ins c put r
theorem ins_true (c : Int) : ∀ l, ins c true l = l
  | [] => rfl
  | b :: r => by simp [ins, ins_true c r]
theorem ins_mem {c : Int} : ∀ {l : List Int} {x : Int}, x ∈ ins c false l ↔ x ∈ l ∨ x = c
  | [], x => by simp [ins]
  | b :: r, x => by
    unfold ins
    by_cases h : c ≤ b
    · by_cases hb : b = c
      · subst hb; simp [ins_true]; exact fun h => .inl h
      · simp only [h, hb, and_self, if_true, if_false, ins_true, List.mem_cons]
        exact ⟨fun g => g.elim .inr .inl, fun g => g.elim .inr .inl⟩
    · simp only [h, and_false, if_false, List.mem_cons, ins_mem (l := r)]
      rw [or_assoc]
theorem ins_bOK {N c : Int} (hc : 0 ≤ c ∧ c < N) {l : List Int} (h : bOK N l) : bOK N (ins c false l) := by
  refine ⟨fun b hb => (ins_mem.1 hb).elim (h.1 b) fun e => e ▸ hc, ?_⟩
  have main : ∀ l : List Int, l.Pairwise (· < ·) → (ins c false l).Pairwise (· < ·) := by
    intro l
    induction l with
    | nil => intro _; simp [ins]
    | cons b r ih =>
      intro hp
      obtain ⟨h1, h2⟩ := List.pairwise_cons.1 hp
      unfold ins
      by_cases hcb : c ≤ b
      · by_cases hb : b = c
        · subst hb; simp only [hcb, and_self, if_true, ins_true]; exact hp
        · simp only [hcb, hb, and_self, if_true, if_false, ins_true]
          refine List.pairwise_cons.2 ⟨fun x hx => ?_, hp⟩
          rcases List.mem_cons.1 hx with rfl | hx
          · omega
          · have := h1 x hx; omega
      · simp only [hcb, and_false, if_false]
        refine List.pairwise_cons.2 ⟨fun x hx => ?_, ih h2⟩
        rcases ins_mem.1 hx with hx | rfl
        · exact h1 x hx
        · omega
  exact main l h.2
theorem ins_len (c : Int) : ∀ (l : List Int) (put : Bool), (ins c put l).length ≤ l.length + 1
  | [], put => by unfold ins; cases put <;> simp
  | b :: r, put => by
    have h1 := ins_len c r put
    unfold ins
    split
    · split <;> (rw [ins_true]; simp)
    · simp; omega

/-- With a blot more a sheet shows the same, but for that column. -/
theorem inkE_blot {p : Pp} {l : List Pt} {bs : List Int} {c : Int} (h : (inkE p l bs).2 = 0) (hc : 0 ≤ c ∧ c < p.co) :
    inkE p l (ins c false bs) = (inkX p l (ins c false bs), 0) ∧ ∀ j : Nat, inkB p l (ins c false bs) j = if (j : Int) = c then [] else inkB p l bs j := by
  obtain ⟨h1, h2, h3, h4⟩ := inkE_ok.1 h
  have hj : ∀ j : Nat, inkB p l (ins c false bs) j = if (j : Int) = c then [] else inkB p l bs j := fun j => by
    unfold inkB
    by_cases hjc : (j : Int) = c
    · rw [if_pos hjc, if_pos (ins_mem.2 (.inr hjc))]
    · rw [if_neg hjc]
      by_cases hb : (j : Int) ∈ bs
      · rw [if_pos hb, if_pos (ins_mem.2 (.inl hb))]
      · rw [if_neg hb, if_neg (fun g => (ins_mem.1 g).elim hb hjc)]
  refine ⟨inkE_mk h1 h2 (ins_bOK hc h3) (many_false.2 fun x hx => ?_), hj⟩
  obtain ⟨j, hj', rfl⟩ := List.mem_map.1 hx
  rw [hj]
  split
  · simp
  · exact many_len h4 _ (List.mem_map.2 ⟨j, hj', rfl⟩)
theorem inkE_noblot {p : Pp} {l : List Pt} {bs : List Int} {c : Int} (h : (inkE p l bs).2 = 0) (hc : ¬ (0 ≤ c ∧ c < p.co)) : inkE p l (ins c false bs) = ([], 1) := by
  obtain ⟨h1, h2, h3, h4⟩ := inkE_ok.1 h
  have : ¬ bOK p.co (ins c false bs) := fun g => hc (g.1 c (ins_mem.2 (.inr rfl)))
  unfold inkE
  rw [if_neg (fun g => g h1), if_neg (by omega), tr_0 this]; rfl
theorem blot_within {p : Pp} {l : List Pt} {bs : List Int} {c : Int} (h : (inkE p l bs).2 = 0) (hc : 0 ≤ c ∧ c < p.co) : withinE (inkX p l bs) (inkX p l (ins c false bs)) = (true, 0) := by
  obtain ⟨e, hj⟩ := inkE_blot h hc
  have h' : (inkE p l (ins c false bs)).2 = 0 := by rw [e]
  have r1 := right_ink h
  have r2 := right_ink h'
  have al : Al (inkX p l bs) (inkX p l (ins c false bs)) := ⟨r1, r2, by rw [inkX_len, inkX_len]⟩
  refine withinE_mk al fun i x y hx hy => ?_
  have hi := (List.getElem?_eq_some_iff.1 hx).1
  rw [inkX_len] at hi
  rw [inkX_get hi] at hx hy
  injection hx with hx; injection hy with hy
  have hnb : Nb x := hx ▸ inkB_nb (inkE_ok.1 h).1 (trace_ok (inkE_ok.1 h).2.1).2 i
  rw [withinC_iff hnb]
  rw [hj i] at hy
  by_cases hic : (i : Int) = c
  · rw [if_pos hic] at hy; exact .inl hy.symm
  · rw [if_neg hic] at hy
    by_cases hy0 : y = []
    · exact .inl hy0
    · exact .inr ⟨by rw [← hx, hy]; exact hy0, fun v hv => by rw [← hy, hx]; exact hv⟩
end Go.Proofs.Ytgpdckmbojmlpaa

namespace Go.Proofs.Ytgpdckmbojmlpaa
open Go.Abs
set_option linter.unusedVariables false
set_option linter.unusedSimpArgs false
set_option maxHeartbeats 4000000
set_option maxRecDepth 100000
-- aneroid/aneroidlaw01.joined
def c60 : CF := ⟨126,
 (.seq (.ops [
 ⟨(some 4), .mv (.c (.bool false)), none⟩] [0, 1])
 (.seq (.seq (.ops [
 ⟨(some 5), .mv (.c (.int .i64 0)), none⟩] [0, 1, 5])
 (.block 0 (.loop (.seq (.seq (.ops [
 ⟨(some 14), .mv (.t 5), none⟩,
 ⟨(some 15), .mv (.t 1), none⟩,
 ⟨(some 16), .len (.t 15), none⟩,
 ⟨(some 17), .bin .lss (.t 14) (.t 16), none⟩] [0, 1, 5, 17])
 (.cond (.t 17) .skip
 (.exit 0)))
 (.seq (.block 1 (.seq (.ops [
 ⟨(some 6), .mv (.c (.int .i64 0)), none⟩] [0, 1, 5, 6])
 (.block 2 (.loop (.seq (.seq (.ops [
 ⟨(some 20), .mv (.t 6), none⟩,
 ⟨(some 21), .mv (.t 1), none⟩,
 ⟨(some 22), .mv (.t 5), none⟩,
 ⟨(some 23), .iaddr 1 (.t 21) (.t 22), none⟩,
 ⟨(some 24), .load none (.t 23), none⟩,
 ⟨(some 25), .len (.t 24), none⟩,
 ⟨(some 26), .bin .lss (.t 20) (.t 25), none⟩] [0, 1, 5, 6, 26])
 (.cond (.t 26) .skip
 (.exit 2)))
 (.seq (.block 3 (.seq (.ops [
 ⟨(some 7), .mv (.c (.bool false)), none⟩] [0, 1, 5, 6, 7])
 (.seq (.seq (.ops [
 ⟨(some 8), .mv (.c (.int .i64 0)), none⟩] [0, 1, 5, 6, 7, 8])
 (.block 4 (.loop (.seq (.seq (.ops [
 ⟨(some 29), .mv (.t 8), none⟩,
 ⟨(some 30), .mv (.t 0), none⟩,
 ⟨(some 31), .len (.t 30), none⟩,
 ⟨(some 32), .bin .lss (.t 29) (.t 31), none⟩] [0, 1, 5, 6, 7, 8, 32])
 (.cond (.t 32) .skip
 (.exit 4)))
 (.seq (.block 5 (.draw [
 ⟨(some 35), .mv (.t 7), none⟩,
 ⟨(some 36), .mv (.t 35), none⟩,
 ⟨(some 37), .mv (.t 1), (some (36, false))⟩,
 ⟨(some 38), .mv (.t 5), (some (36, false))⟩,
 ⟨(some 39), .iaddr 1 (.t 37) (.t 38), (some (36, false))⟩,
 ⟨(some 40), .load none (.t 39), (some (36, false))⟩,
 ⟨(some 41), .mv (.t 6), (some (36, false))⟩,
 ⟨(some 42), .iaddr 2 (.t 40) (.t 41), (some (36, false))⟩,
 ⟨(some 43), .load (some 2) (.t 42), (some (36, false))⟩,
 ⟨(some 44), .mv (.t 0), (some (36, false))⟩,
 ⟨(some 45), .mv (.t 8), (some (36, false))⟩,
 ⟨(some 46), .iaddr 2 (.t 44) (.t 45), (some (36, false))⟩,
 ⟨(some 47), .load (some 2) (.t 46), (some (36, false))⟩,
 ⟨(some 48), .call (.f 20) [(.t 43), (.t 47)], (some (36, false))⟩,
 ⟨(some 49), .pick (.t 36) (.c (.bool true)) (.t 48), none⟩] [
 ⟨(some 7), .mv (.t 49), none⟩] [0, 1, 5, 6, 7, 8]))
 (.ops [
 ⟨(some 33), .mv (.t 8), none⟩,
 ⟨(some 34), .bin .add (.t 33) (.c (.int .i64 1)), none⟩,
 ⟨(some 8), .mv (.t 34), none⟩] [0, 1, 5, 6, 7, 8]))))))
 (.seq (.ops [
 ⟨(some 50), .mv (.t 7), none⟩,
 ⟨(some 51), .un .not (.t 50), none⟩] [0, 1, 5, 6, 51])
 (.cond (.t 51) (.seq (.ops [
 ⟨(some 4), .mv (.c (.bool false)), none⟩] [4])
 .ret)
 .skip)))))
 (.ops [
 ⟨(some 27), .mv (.t 6), none⟩,
 ⟨(some 28), .bin .add (.t 27) (.c (.int .i64 1)), none⟩,
 ⟨(some 6), .mv (.t 28), none⟩] [0, 1, 5, 6])))))))
 (.ops [
 ⟨(some 18), .mv (.t 5), none⟩,
 ⟨(some 19), .bin .add (.t 18) (.c (.int .i64 1)), none⟩,
 ⟨(some 5), .mv (.t 19), none⟩] [0, 1, 5]))))))
 (.seq (.seq (.ops [
 ⟨(some 9), .mv (.c (.int .i64 0)), none⟩] [0, 1, 9])
 (.block 6 (.loop (.seq (.seq (.ops [
 ⟨(some 52), .mv (.t 9), none⟩,
 ⟨(some 53), .mv (.t 0), none⟩,
 ⟨(some 54), .len (.t 53), none⟩,
 ⟨(some 55), .bin .lss (.t 52) (.t 54), none⟩] [0, 1, 9, 55])
 (.cond (.t 55) .skip
 (.exit 6)))
 (.seq (.block 7 (.seq (.ops [
 ⟨(some 58), .mv (.t 0), none⟩,
 ⟨(some 59), .mv (.t 9), none⟩,
 ⟨(some 60), .iaddr 2 (.t 58) (.t 59), none⟩,
 ⟨(some 61), .faddr 0 (.t 60), none⟩,
 ⟨(some 62), .load none (.t 61), none⟩,
 ⟨(some 10), .mv (.t 62), none⟩] [0, 1, 9, 10])
 (.seq (.ops [
 ⟨(some 11), .mv (.c (.bool true)), none⟩] [0, 1, 9, 10, 11])
 (.seq (.block 8 (.loop (.seq (.seq (.ops [
 ⟨(some 63), .mv (.t 11), none⟩,
 ⟨(some 64), .mv (.t 63), none⟩,
 ⟨(some 65), .mv (.t 10), (some (64, true))⟩,
 ⟨(some 66), .mv (.t 0), (some (64, true))⟩,
 ⟨(some 67), .mv (.t 9), (some (64, true))⟩,
 ⟨(some 68), .iaddr 2 (.t 66) (.t 67), (some (64, true))⟩,
 ⟨(some 69), .faddr 1 (.t 68), (some (64, true))⟩,
 ⟨(some 70), .load none (.t 69), (some (64, true))⟩,
 ⟨(some 71), .bin .leq (.t 65) (.t 70), (some (64, true))⟩,
 ⟨(some 72), .pick (.t 64) (.t 71) (.c (.bool false)), none⟩] [0, 1, 9, 10, 72])
 (.cond (.t 72) .skip
 (.exit 8)))
 (.block 9 (.seq (.ops [
 ⟨(some 11), .mv (.c (.bool false)), none⟩] [0, 1, 9, 10, 11])
 (.seq (.ops [
 ⟨(some 12), .mv (.c (.int .i64 0)), none⟩] [0, 1, 9, 10, 11, 12])
 (.block 10 (.loop (.seq (.seq (.ops [
 ⟨(some 73), .mv (.t 12), none⟩,
 ⟨(some 74), .mv (.t 1), none⟩,
 ⟨(some 75), .len (.t 74), none⟩,
 ⟨(some 76), .bin .lss (.t 73) (.t 75), none⟩] [0, 1, 9, 10, 11, 12, 76])
 (.cond (.t 76) .skip
 (.exit 10)))
 (.seq (.block 11 (.seq (.ops [
 ⟨(some 13), .mv (.c (.int .i64 0)), none⟩] [0, 1, 9, 10, 11, 12, 13])
 (.block 12 (.loop (.seq (.seq (.ops [
 ⟨(some 79), .mv (.t 13), none⟩,
 ⟨(some 80), .mv (.t 1), none⟩,
 ⟨(some 81), .mv (.t 12), none⟩,
 ⟨(some 82), .iaddr 1 (.t 80) (.t 81), none⟩,
 ⟨(some 83), .load none (.t 82), none⟩,
 ⟨(some 84), .len (.t 83), none⟩,
 ⟨(some 85), .bin .lss (.t 79) (.t 84), none⟩] [0, 1, 9, 10, 11, 12, 13, 85])
 (.cond (.t 85) .skip
 (.exit 12)))
 (.seq (.block 13 (.seq (.ops [
 ⟨(some 88), .mv (.t 1), none⟩,
 ⟨(some 89), .mv (.t 12), none⟩,
 ⟨(some 90), .iaddr 1 (.t 88) (.t 89), none⟩,
 ⟨(some 91), .load none (.t 90), none⟩,
 ⟨(some 92), .mv (.t 13), none⟩,
 ⟨(some 93), .iaddr 2 (.t 91) (.t 92), none⟩,
 ⟨(some 94), .faddr 0 (.t 93), none⟩,
 ⟨(some 95), .load none (.t 94), none⟩,
 ⟨(some 96), .mv (.t 10), none⟩,
 ⟨(some 97), .bin .leq (.t 95) (.t 96), none⟩,
 ⟨(some 98), .mv (.t 97), none⟩,
 ⟨(some 99), .mv (.t 10), (some (98, true))⟩,
 ⟨(some 100), .mv (.t 1), (some (98, true))⟩,
 ⟨(some 101), .mv (.t 12), (some (98, true))⟩,
 ⟨(some 102), .iaddr 1 (.t 100) (.t 101), (some (98, true))⟩,
 ⟨(some 103), .load none (.t 102), (some (98, true))⟩,
 ⟨(some 104), .mv (.t 13), (some (98, true))⟩,
 ⟨(some 105), .iaddr 2 (.t 103) (.t 104), (some (98, true))⟩,
 ⟨(some 106), .faddr 1 (.t 105), (some (98, true))⟩,
 ⟨(some 107), .load none (.t 106), (some (98, true))⟩,
 ⟨(some 108), .bin .leq (.t 99) (.t 107), (some (98, true))⟩,
 ⟨(some 109), .pick (.t 98) (.t 108) (.c (.bool false)), none⟩] [0, 1, 9, 10, 11, 12, 13, 109])
 (.cond (.t 109) (.seq (.ops [
 ⟨(some 110), .mv (.t 1), none⟩,
 ⟨(some 111), .mv (.t 12), none⟩,
 ⟨(some 112), .iaddr 1 (.t 110) (.t 111), none⟩,
 ⟨(some 113), .load none (.t 112), none⟩,
 ⟨(some 114), .mv (.t 13), none⟩,
 ⟨(some 115), .iaddr 2 (.t 113) (.t 114), none⟩,
 ⟨(some 116), .faddr 1 (.t 115), none⟩,
 ⟨(some 117), .load none (.t 116), none⟩,
 ⟨(some 118), .bin .add (.t 117) (.c (.int .i64 1)), none⟩,
 ⟨(some 10), .mv (.t 118), none⟩] [0, 1, 9, 10, 12, 13])
 (.ops [
 ⟨(some 11), .mv (.c (.bool true)), none⟩] [0, 1, 9, 10, 11, 12, 13]))
 .skip)))
 (.ops [
 ⟨(some 86), .mv (.t 13), none⟩,
 ⟨(some 87), .bin .add (.t 86) (.c (.int .i64 1)), none⟩,
 ⟨(some 13), .mv (.t 87), none⟩] [0, 1, 9, 10, 11, 12, 13])))))))
 (.ops [
 ⟨(some 77), .mv (.t 12), none⟩,
 ⟨(some 78), .bin .add (.t 77) (.c (.int .i64 1)), none⟩,
 ⟨(some 12), .mv (.t 78), none⟩] [0, 1, 9, 10, 11, 12])))))))))))
 (.seq (.ops [
 ⟨(some 119), .mv (.t 10), none⟩,
 ⟨(some 120), .mv (.t 0), none⟩,
 ⟨(some 121), .mv (.t 9), none⟩,
 ⟨(some 122), .iaddr 2 (.t 120) (.t 121), none⟩,
 ⟨(some 123), .faddr 1 (.t 122), none⟩,
 ⟨(some 124), .load none (.t 123), none⟩,
 ⟨(some 125), .bin .leq (.t 119) (.t 124), none⟩] [0, 1, 9, 125])
 (.cond (.t 125) (.seq (.ops [
 ⟨(some 4), .mv (.c (.bool false)), none⟩] [4])
 .ret)
 .skip))))))
 (.ops [
 ⟨(some 56), .mv (.t 9), none⟩,
 ⟨(some 57), .bin .add (.t 56) (.c (.int .i64 1)), none⟩,
 ⟨(some 9), .mv (.t 57), none⟩] [0, 1, 9]))))))
 (.seq (.ops [
 ⟨(some 4), .mv (.c (.bool true)), none⟩] [4])
 .ret)))),
 [.t 4]⟩
theorem k60 : chkF Try.prog Try.f60 c60 = true := by kernel_rfl

theorem few_spec (l : List Pt) (bs : List Int) : Pure Try.prog 44 [ptS l, inS bs] (bl (decide (bs.length ≤ 300 ∧ (l.length ≤ 30 ∨ 2000 < l.length ∧ l.length < 2100)))) := by
  refine Pure.of_body Try.call44 Try.func44 k44 (Nat.le_of_ble_eq_true rfl) ?_
  unfold c44
  (repeat' first
 | (refine AWPC.of_vcn rfl ?_; simp only [zT, zV, zS, zU, vcC, lateX, ex, strp, cnd, binA, kseq, kblk, kret, klp, Abs.one, elems, cells, scalar, eqC, Nat.reduceBEq, Nat.reduceAdd, Nat.reduceSub, Nat.reduceLT, Nat.reduceLeDiff, Nat.reduceMul, Nat.reduceEqDiff, cond_true, cond_false, if_true, if_false, reduceIte, implies_true, forall_const, ne_eq])
 | (simp (disch := omega) only [wr64, Int.zero_sub]; try simp only [zT, zV, zS, zU, vcC, lateX, ex, strp, cnd, binA, kseq, kblk, kret, klp, Abs.one, elems, cells, scalar, eqC, Nat.reduceBEq, Nat.reduceAdd, Nat.reduceSub, Nat.reduceLT, Nat.reduceLeDiff, Nat.reduceMul, Nat.reduceEqDiff, cond_true, cond_false, if_true, if_false, reduceIte, implies_true, forall_const, ne_eq])
 | (refine AWPC.both (fun _ => ?_) (fun _ => ?_))
 | (refine AWPC.imp (fun _ => ?_))
 | ((refine .inl ⟨_, _, _, .any, rfl, fun h => absurd h Bool.false_ne_true, ?_⟩); refine owp_of_exs ?_; simp only [zT, zV, zS, zU, vcC, lateX, ex, strp, cnd, binA, kseq, kblk, kret, klp, Abs.one, elems, cells, scalar, eqC, Nat.reduceBEq, Nat.reduceAdd, Nat.reduceSub, Nat.reduceLT, Nat.reduceLeDiff, Nat.reduceMul, Nat.reduceEqDiff, cond_true, cond_false, if_true, if_false, reduceIte, implies_true, forall_const, ne_eq])
 | (refine ⟨by omega, ?_⟩)
 | (refine And.intro (by (intros; first | (simp_all (config := { decide := false }); done) | fail)) ?_)
 | fail)
  refine Frz.eq ?_ (by simp)
  congr 2
  rw [decide_eq_decide]; omega

/-- Some span of a list holds a span. -/
abbrev holds (l : List Sp) (x : Sp) : Bool := l.any fun s => decide (s.lo ≤ x.lo ∧ x.hi ≤ s.hi)
theorem holds_next {l : List Sp} {m : Nat} {s : Sp} (h : l[m]? = some s) (x : Sp) : holds (l.take (m + 1)) x = (holds (l.take m) x || decide (s.lo ≤ x.lo ∧ x.hi ≤ s.hi)) := by
  unfold holds; rw [List.take_add_one, h, List.any_append]; simp

theorem joined_spec (l : List Sp) (ps : List (List Sp)) (hl : Nb l) (hp : ∀ q ∈ ps, Nb q) (hps : ps.length ≤ 1000) (hm : ∀ v, Mem v l ↔ ∃ q ∈ ps, Mem v q) : Pure Try.prog 60 [spS l, colS ps] (bl true) := by
  refine Pure.of_body Try.call60 Try.func60 k60 (Nat.le_of_ble_eq_true rfl) ?_
  have hll := hl.len_le
  unfold c60
  (repeat' first
 | (refine AWPC.of_vcn rfl ?_; simp only [zT, zV, zS, zU, vcC, lateX, ex, strp, cnd, binA, kseq, kblk, kret, klp, Abs.one, elems, cells, scalar, eqC, Nat.reduceBEq, Nat.reduceAdd, Nat.reduceSub, Nat.reduceLT, Nat.reduceLeDiff, Nat.reduceMul, Nat.reduceEqDiff, cond_true, cond_false, if_true, if_false, reduceIte, implies_true, forall_const, ne_eq])
 | (simp (disch := omega) only [wr64, Int.zero_sub]; try simp only [zT, zV, zS, zU, vcC, lateX, ex, strp, cnd, binA, kseq, kblk, kret, klp, Abs.one, elems, cells, scalar, eqC, Nat.reduceBEq, Nat.reduceAdd, Nat.reduceSub, Nat.reduceLT, Nat.reduceLeDiff, Nat.reduceMul, Nat.reduceEqDiff, cond_true, cond_false, if_true, if_false, reduceIte, implies_true, forall_const, ne_eq])
 | (refine AWPC.both (fun _ => ?_) (fun _ => ?_))
 | (refine AWPC.imp (fun _ => ?_))
 | ((refine .inl ⟨_, _, _, .any, rfl, fun h => absurd h Bool.false_ne_true, ?_⟩); refine owp_of_exs ?_; simp only [zT, zV, zS, zU, vcC, lateX, ex, strp, cnd, binA, kseq, kblk, kret, klp, Abs.one, elems, cells, scalar, eqC, Nat.reduceBEq, Nat.reduceAdd, Nat.reduceSub, Nat.reduceLT, Nat.reduceLeDiff, Nat.reduceMul, Nat.reduceEqDiff, cond_true, cond_false, if_true, if_false, reduceIte, implies_true, forall_const, ne_eq])
 | (refine ⟨by omega, ?_⟩)
 | (refine And.intro (by (intros; first | (simp_all (config := { decide := false }); done) | fail)) ?_)
 | fail)
  refine AWPC.loopI 5 ps.length (fun _ => True) trivial ?_ ?_
  · (simp only [zT, zV, zS, zU, vcC, lateX, ex, strp, cnd, binA, kseq, kblk, kret, klp, Abs.one, elems, cells, scalar, eqC, Nat.reduceBEq, Nat.reduceAdd, Nat.reduceSub, Nat.reduceLT, Nat.reduceLeDiff, Nat.reduceMul, Nat.reduceEqDiff, cond_true, cond_false, if_true, if_false, reduceIte, implies_true, forall_const, ne_eq]; try simp)
  intro i hi _
  by_cases hlt : i < ps.length
  · obtain ⟨q, hq⟩ : ∃ q, ps[i]? = some q := ⟨_, List.getElem?_eq_getElem hlt⟩
    have hqm := List.mem_of_getElem? hq
    have hqn := hp q hqm
    have hql := hqn.len_le
    (repeat' first
 | (refine AWPC.of_vcn rfl ?_; simp only [zT, zV, zS, zU, vcC, lateX, ex, strp, cnd, binA, kseq, kblk, kret, klp, Abs.one, elems, cells, scalar, eqC, Nat.reduceBEq, Nat.reduceAdd, Nat.reduceSub, Nat.reduceLT, Nat.reduceLeDiff, Nat.reduceMul, Nat.reduceEqDiff, cond_true, cond_false, if_true, if_false, reduceIte, implies_true, forall_const, ne_eq])
 | (simp (disch := omega) only [wr64, Int.zero_sub]; try simp only [zT, zV, zS, zU, vcC, lateX, ex, strp, cnd, binA, kseq, kblk, kret, klp, Abs.one, elems, cells, scalar, eqC, Nat.reduceBEq, Nat.reduceAdd, Nat.reduceSub, Nat.reduceLT, Nat.reduceLeDiff, Nat.reduceMul, Nat.reduceEqDiff, cond_true, cond_false, if_true, if_false, reduceIte, implies_true, forall_const, ne_eq])
 | (refine AWPC.both (fun _ => ?_) (fun _ => ?_))
 | (refine AWPC.imp (fun _ => ?_))
 | ((refine .inl ⟨_, _, _, .any, rfl, fun h => absurd h Bool.false_ne_true, ?_⟩); refine owp_of_exs ?_; simp only [zT, zV, zS, zU, vcC, lateX, ex, strp, cnd, binA, kseq, kblk, kret, klp, Abs.one, elems, cells, scalar, eqC, Nat.reduceBEq, Nat.reduceAdd, Nat.reduceSub, Nat.reduceLT, Nat.reduceLeDiff, Nat.reduceMul, Nat.reduceEqDiff, cond_true, cond_false, if_true, if_false, reduceIte, implies_true, forall_const, ne_eq])
 | (refine ⟨by omega, ?_⟩)
 | (refine And.intro (by (intros; first | (simp_all (config := { decide := false }); done) | fail)) ?_)
 | fail)
    all_goals try (exfalso; omega)
    refine AWPC.loopI 6 q.length (fun _ => True) trivial ?_ ?_
    · (simp only [zT, zV, zS, zU, vcC, lateX, ex, strp, cnd, binA, kseq, kblk, kret, klp, Abs.one, elems, cells, scalar, eqC, Nat.reduceBEq, Nat.reduceAdd, Nat.reduceSub, Nat.reduceLT, Nat.reduceLeDiff, Nat.reduceMul, Nat.reduceEqDiff, cond_true, cond_false, if_true, if_false, reduceIte, implies_true, forall_const, ne_eq]; try simp)
    intro k hk _
    by_cases hlt2 : k < q.length
    · obtain ⟨x, hx⟩ : ∃ x, q[k]? = some x := ⟨_, List.getElem?_eq_getElem hlt2⟩
      have hxm := List.mem_of_getElem? hx
      have hxe := hqn.1.ne x hxm
      have hall : holds l x = true := by
        obtain ⟨s, hs, h1, h2⟩ := hl.1.whole hxe fun v h1 h2 => (hm v).2 ⟨q, hqm, x, hxm, h1, h2⟩
        rw [holds, List.any_eq_true]
        exact ⟨s, hs, by simp; exact ⟨h1, h2⟩⟩
      (repeat' first
 | (refine AWPC.of_vcn rfl ?_; simp only [zT, zV, zS, zU, vcC, lateX, ex, strp, cnd, binA, kseq, kblk, kret, klp, Abs.one, elems, cells, scalar, eqC, Nat.reduceBEq, Nat.reduceAdd, Nat.reduceSub, Nat.reduceLT, Nat.reduceLeDiff, Nat.reduceMul, Nat.reduceEqDiff, cond_true, cond_false, if_true, if_false, reduceIte, implies_true, forall_const, ne_eq, getD_map hq, getD_map hx])
 | (simp (disch := omega) only [wr64, Int.zero_sub]; try simp only [zT, zV, zS, zU, vcC, lateX, ex, strp, cnd, binA, kseq, kblk, kret, klp, Abs.one, elems, cells, scalar, eqC, Nat.reduceBEq, Nat.reduceAdd, Nat.reduceSub, Nat.reduceLT, Nat.reduceLeDiff, Nat.reduceMul, Nat.reduceEqDiff, cond_true, cond_false, if_true, if_false, reduceIte, implies_true, forall_const, ne_eq, getD_map hq, getD_map hx])
 | (refine AWPC.both (fun _ => ?_) (fun _ => ?_))
 | (refine AWPC.imp (fun _ => ?_))
 | ((refine .inl ⟨_, _, _, .any, rfl, fun h => absurd h Bool.false_ne_true, ?_⟩); refine owp_of_exs ?_; simp only [zT, zV, zS, zU, vcC, lateX, ex, strp, cnd, binA, kseq, kblk, kret, klp, Abs.one, elems, cells, scalar, eqC, Nat.reduceBEq, Nat.reduceAdd, Nat.reduceSub, Nat.reduceLT, Nat.reduceLeDiff, Nat.reduceMul, Nat.reduceEqDiff, cond_true, cond_false, if_true, if_false, reduceIte, implies_true, forall_const, ne_eq, getD_map hq, getD_map hx])
 | (refine ⟨by omega, ?_⟩)
 | (refine And.intro (by (intros; first | (simp_all (config := { decide := false }); done) | fail)) ?_)
 | fail)
      all_goals try (exfalso; omega)
      refine AWPC.loopS (α := { m : Nat // m ≤ l.length }) [7, 8] (fun m => [(7, bl (holds (l.take m.1) x)), (8, n m.1)]) (fun m => l.length - m.1) ⟨0, Nat.zero_le _⟩ ?_ ?_
      · (simp only [zT, zV, zS, zU, vcC, lateX, ex, strp, cnd, binA, kseq, kblk, kret, klp, Abs.one, elems, cells, scalar, eqC, Nat.reduceBEq, Nat.reduceAdd, Nat.reduceSub, Nat.reduceLT, Nat.reduceLeDiff, Nat.reduceMul, Nat.reduceEqDiff, cond_true, cond_false, if_true, if_false, reduceIte, implies_true, forall_const, ne_eq]; try simp)
      rintro ⟨m, hmm⟩
      by_cases hlt3 : m < l.length
      · obtain ⟨s, hs⟩ : ∃ s, l[m]? = some s := ⟨_, List.getElem?_eq_getElem hlt3⟩
        have hn := holds_next hs x
        have hi2 := inside_spec x s
        generalize holds (l.take m) x = hb at *
        (repeat' first
 | (refine AWPC.of_vcn rfl ?_; simp only [zT, zV, zS, zU, vcC, lateX, ex, strp, cnd, binA, kseq, kblk, kret, klp, Abs.one, elems, cells, scalar, eqC, Nat.reduceBEq, Nat.reduceAdd, Nat.reduceSub, Nat.reduceLT, Nat.reduceLeDiff, Nat.reduceMul, Nat.reduceEqDiff, cond_true, cond_false, if_true, if_false, reduceIte, implies_true, forall_const, ne_eq, getD_map hq, getD_map hx, getD_map hs])
 | (simp (disch := omega) only [wr64, Int.zero_sub]; try simp only [zT, zV, zS, zU, vcC, lateX, ex, strp, cnd, binA, kseq, kblk, kret, klp, Abs.one, elems, cells, scalar, eqC, Nat.reduceBEq, Nat.reduceAdd, Nat.reduceSub, Nat.reduceLT, Nat.reduceLeDiff, Nat.reduceMul, Nat.reduceEqDiff, cond_true, cond_false, if_true, if_false, reduceIte, implies_true, forall_const, ne_eq, getD_map hq, getD_map hx, getD_map hs])
 | (refine AWPC.both (fun _ => ?_) (fun _ => ?_))
 | (refine AWPC.imp (fun _ => ?_))
 | ((repeat (refine And.intro (by (intros; first | omega | (simp_all (config := { decide := false }); done) | fail)) ?_)); (first
 | (refine .inl ⟨_, _, _, _, rfl, fun _hc => ⟨by simp, hi2⟩, ?_⟩)
 | (refine ⟨_, _, _, _, rfl, fun _hc => ⟨by simp, hi2⟩, ?_⟩)
 | fail); (first | refine owp_of_exs ?_ | refine pre_of_exd ?_ | refine pre_of_exe ?_ | fail); simp only [zT, zV, zS, zU, vcC, lateX, ex, strp, cnd, binA, kseq, kblk, kret, klp, Abs.one, elems, cells, scalar, eqC, Nat.reduceBEq, Nat.reduceAdd, Nat.reduceSub, Nat.reduceLT, Nat.reduceLeDiff, Nat.reduceMul, Nat.reduceEqDiff, cond_true, cond_false, if_true, if_false, reduceIte, implies_true, forall_const, ne_eq, getD_map hq, getD_map hx, getD_map hs])
 | ((refine .inl ⟨_, _, _, .any, rfl, fun h => absurd h Bool.false_ne_true, ?_⟩); refine owp_of_exs ?_; simp only [zT, zV, zS, zU, vcC, lateX, ex, strp, cnd, binA, kseq, kblk, kret, klp, Abs.one, elems, cells, scalar, eqC, Nat.reduceBEq, Nat.reduceAdd, Nat.reduceSub, Nat.reduceLT, Nat.reduceLeDiff, Nat.reduceMul, Nat.reduceEqDiff, cond_true, cond_false, if_true, if_false, reduceIte, implies_true, forall_const, ne_eq, getD_map hq, getD_map hx, getD_map hs])
 | (refine ⟨by omega, ?_⟩)
 | (refine And.intro (by (intros; first | (simp_all (config := { decide := false }); done) | fail)) ?_)
 | fail)
        all_goals try (exfalso; omega)
        exact ⟨⟨m + 1, hlt3⟩, ⟨by rw [hn], by simp⟩, by simp only; omega⟩
      · obtain rfl : m = l.length := by omega
        have hall' : holds (l.take l.length) x = true := by rw [List.take_length]; exact hall
        (repeat' first
 | (refine AWPC.of_vcn rfl ?_; simp only [zT, zV, zS, zU, vcC, lateX, ex, strp, cnd, binA, kseq, kblk, kret, klp, Abs.one, elems, cells, scalar, eqC, Nat.reduceBEq, Nat.reduceAdd, Nat.reduceSub, Nat.reduceLT, Nat.reduceLeDiff, Nat.reduceMul, Nat.reduceEqDiff, cond_true, cond_false, if_true, if_false, reduceIte, implies_true, forall_const, ne_eq, hall'])
 | (simp (disch := omega) only [wr64, Int.zero_sub]; try simp only [zT, zV, zS, zU, vcC, lateX, ex, strp, cnd, binA, kseq, kblk, kret, klp, Abs.one, elems, cells, scalar, eqC, Nat.reduceBEq, Nat.reduceAdd, Nat.reduceSub, Nat.reduceLT, Nat.reduceLeDiff, Nat.reduceMul, Nat.reduceEqDiff, cond_true, cond_false, if_true, if_false, reduceIte, implies_true, forall_const, ne_eq, hall'])
 | (refine AWPC.both (fun _ => ?_) (fun _ => ?_))
 | (refine AWPC.imp (fun _ => ?_))
 | ((refine .inl ⟨_, _, _, .any, rfl, fun h => absurd h Bool.false_ne_true, ?_⟩); refine owp_of_exs ?_; simp only [zT, zV, zS, zU, vcC, lateX, ex, strp, cnd, binA, kseq, kblk, kret, klp, Abs.one, elems, cells, scalar, eqC, Nat.reduceBEq, Nat.reduceAdd, Nat.reduceSub, Nat.reduceLT, Nat.reduceLeDiff, Nat.reduceMul, Nat.reduceEqDiff, cond_true, cond_false, if_true, if_false, reduceIte, implies_true, forall_const, ne_eq, hall'])
 | (refine ⟨by omega, ?_⟩)
 | (refine And.intro (by (intros; first | (simp_all (config := { decide := false }); done) | fail)) ?_)
 | fail)
        all_goals try (exfalso; omega)
        exact ⟨⟨k + 1, hlt2, trivial⟩, by simp, by simp only; omega⟩
    · obtain rfl : k = q.length := by omega
      (repeat' first
 | (refine AWPC.of_vcn rfl ?_; simp only [zT, zV, zS, zU, vcC, lateX, ex, strp, cnd, binA, kseq, kblk, kret, klp, Abs.one, elems, cells, scalar, eqC, Nat.reduceBEq, Nat.reduceAdd, Nat.reduceSub, Nat.reduceLT, Nat.reduceLeDiff, Nat.reduceMul, Nat.reduceEqDiff, cond_true, cond_false, if_true, if_false, reduceIte, implies_true, forall_const, ne_eq, getD_map hq])
 | (simp (disch := omega) only [wr64, Int.zero_sub]; try simp only [zT, zV, zS, zU, vcC, lateX, ex, strp, cnd, binA, kseq, kblk, kret, klp, Abs.one, elems, cells, scalar, eqC, Nat.reduceBEq, Nat.reduceAdd, Nat.reduceSub, Nat.reduceLT, Nat.reduceLeDiff, Nat.reduceMul, Nat.reduceEqDiff, cond_true, cond_false, if_true, if_false, reduceIte, implies_true, forall_const, ne_eq, getD_map hq])
 | (refine AWPC.both (fun _ => ?_) (fun _ => ?_))
 | (refine AWPC.imp (fun _ => ?_))
 | ((refine .inl ⟨_, _, _, .any, rfl, fun h => absurd h Bool.false_ne_true, ?_⟩); refine owp_of_exs ?_; simp only [zT, zV, zS, zU, vcC, lateX, ex, strp, cnd, binA, kseq, kblk, kret, klp, Abs.one, elems, cells, scalar, eqC, Nat.reduceBEq, Nat.reduceAdd, Nat.reduceSub, Nat.reduceLT, Nat.reduceLeDiff, Nat.reduceMul, Nat.reduceEqDiff, cond_true, cond_false, if_true, if_false, reduceIte, implies_true, forall_const, ne_eq, getD_map hq])
 | (refine ⟨by omega, ?_⟩)
 | (refine And.intro (by (intros; first | (simp_all (config := { decide := false }); done) | fail)) ?_)
 | fail)
      all_goals try (exfalso; omega)
      exact ⟨⟨i + 1, hlt, trivial⟩, by simp, by simp only; omega⟩
  · obtain rfl : i = ps.length := by omega
    (repeat' first
 | (refine AWPC.of_vcn rfl ?_; simp only [zT, zV, zS, zU, vcC, lateX, ex, strp, cnd, binA, kseq, kblk, kret, klp, Abs.one, elems, cells, scalar, eqC, Nat.reduceBEq, Nat.reduceAdd, Nat.reduceSub, Nat.reduceLT, Nat.reduceLeDiff, Nat.reduceMul, Nat.reduceEqDiff, cond_true, cond_false, if_true, if_false, reduceIte, implies_true, forall_const, ne_eq])
 | (simp (disch := omega) only [wr64, Int.zero_sub]; try simp only [zT, zV, zS, zU, vcC, lateX, ex, strp, cnd, binA, kseq, kblk, kret, klp, Abs.one, elems, cells, scalar, eqC, Nat.reduceBEq, Nat.reduceAdd, Nat.reduceSub, Nat.reduceLT, Nat.reduceLeDiff, Nat.reduceMul, Nat.reduceEqDiff, cond_true, cond_false, if_true, if_false, reduceIte, implies_true, forall_const, ne_eq])
 | (refine AWPC.both (fun _ => ?_) (fun _ => ?_))
 | (refine AWPC.imp (fun _ => ?_))
 | ((refine .inl ⟨_, _, _, .any, rfl, fun h => absurd h Bool.false_ne_true, ?_⟩); refine owp_of_exs ?_; simp only [zT, zV, zS, zU, vcC, lateX, ex, strp, cnd, binA, kseq, kblk, kret, klp, Abs.one, elems, cells, scalar, eqC, Nat.reduceBEq, Nat.reduceAdd, Nat.reduceSub, Nat.reduceLT, Nat.reduceLeDiff, Nat.reduceMul, Nat.reduceEqDiff, cond_true, cond_false, if_true, if_false, reduceIte, implies_true, forall_const, ne_eq])
 | (refine ⟨by omega, ?_⟩)
 | (refine And.intro (by (intros; first | (simp_all (config := { decide := false }); done) | fail)) ?_)
 | fail)
    all_goals try (exfalso; omega)
    refine AWPC.loopI 9 l.length (fun _ => True) trivial ?_ ?_
    · (simp only [zT, zV, zS, zU, vcC, lateX, ex, strp, cnd, binA, kseq, kblk, kret, klp, Abs.one, elems, cells, scalar, eqC, Nat.reduceBEq, Nat.reduceAdd, Nat.reduceSub, Nat.reduceLT, Nat.reduceLeDiff, Nat.reduceMul, Nat.reduceEqDiff, cond_true, cond_false, if_true, if_false, reduceIte, implies_true, forall_const, ne_eq]; try simp)
    intro m hmm _
    by_cases hlt2 : m < l.length
    · obtain ⟨s, hs⟩ : ∃ s, l[m]? = some s := ⟨_, List.getElem?_eq_getElem hlt2⟩
      have hsm := List.mem_of_getElem? hs
      have hsb := hl.2 s hsm
      have hse := hl.1.ne s hsm
      (repeat' first
 | (refine AWPC.of_vcn rfl ?_; simp only [zT, zV, zS, zU, vcC, lateX, ex, strp, cnd, binA, kseq, kblk, kret, klp, Abs.one, elems, cells, scalar, eqC, Nat.reduceBEq, Nat.reduceAdd, Nat.reduceSub, Nat.reduceLT, Nat.reduceLeDiff, Nat.reduceMul, Nat.reduceEqDiff, cond_true, cond_false, if_true, if_false, reduceIte, implies_true, forall_const, ne_eq, getD_map hs])
 | (simp (disch := omega) only [wr64, Int.zero_sub]; try simp only [zT, zV, zS, zU, vcC, lateX, ex, strp, cnd, binA, kseq, kblk, kret, klp, Abs.one, elems, cells, scalar, eqC, Nat.reduceBEq, Nat.reduceAdd, Nat.reduceSub, Nat.reduceLT, Nat.reduceLeDiff, Nat.reduceMul, Nat.reduceEqDiff, cond_true, cond_false, if_true, if_false, reduceIte, implies_true, forall_const, ne_eq, getD_map hs])
 | (refine AWPC.both (fun _ => ?_) (fun _ => ?_))
 | (refine AWPC.imp (fun _ => ?_))
 | ((refine .inl ⟨_, _, _, .any, rfl, fun h => absurd h Bool.false_ne_true, ?_⟩); refine owp_of_exs ?_; simp only [zT, zV, zS, zU, vcC, lateX, ex, strp, cnd, binA, kseq, kblk, kret, klp, Abs.one, elems, cells, scalar, eqC, Nat.reduceBEq, Nat.reduceAdd, Nat.reduceSub, Nat.reduceLT, Nat.reduceLeDiff, Nat.reduceMul, Nat.reduceEqDiff, cond_true, cond_false, if_true, if_false, reduceIte, implies_true, forall_const, ne_eq, getD_map hs])
 | (refine ⟨by omega, ?_⟩)
 | (refine And.intro (by (intros; first | (simp_all (config := { decide := false }); done) | fail)) ?_)
 | fail)
      all_goals try (exfalso; omega)
      refine AWPC.loopS (α := { z : Int × Bool // s.lo ≤ z.1 ∧ z.1 ≤ 12001 ∧ (z.2 = false → ∀ q ∈ ps, ∀ x ∈ q, ¬ (x.lo ≤ z.1 ∧ z.1 ≤ x.hi)) }) [10, 11] (fun z => [(10, n z.1.1), (11, bl z.1.2)]) (fun z => 2 * (s.hi + 1 - z.1.1).toNat + (bif z.1.2 then 1 else 0)) ⟨(s.lo, true), by simp only; omega, by simp only; omega, fun h => by cases h⟩ ?_ ?_
      · (simp only [zT, zV, zS, zU, vcC, lateX, ex, strp, cnd, binA, kseq, kblk, kret, klp, Abs.one, elems, cells, scalar, eqC, Nat.reduceBEq, Nat.reduceAdd, Nat.reduceSub, Nat.reduceLT, Nat.reduceLeDiff, Nat.reduceMul, Nat.reduceEqDiff, cond_true, cond_false, if_true, if_false, reduceIte, implies_true, forall_const, ne_eq]; try simp)
      rintro ⟨⟨a, more⟩, ha1, ha2, ha3⟩
      simp only at ha1 ha2 ha3
      simp only
      cases more with
      | false =>
        have hgt : s.hi < a := by
          refine Int.not_le.1 fun hle => ?_
          obtain ⟨q, hq, x, hx, h1, h2⟩ := (hm a).1 ⟨s, hsm, ha1, hle⟩
          exact ha3 rfl q hq x hx ⟨h1, h2⟩
        (repeat' first
 | (refine AWPC.of_vcn rfl ?_; simp only [zT, zV, zS, zU, vcC, lateX, ex, strp, cnd, binA, kseq, kblk, kret, klp, Abs.one, elems, cells, scalar, eqC, Nat.reduceBEq, Nat.reduceAdd, Nat.reduceSub, Nat.reduceLT, Nat.reduceLeDiff, Nat.reduceMul, Nat.reduceEqDiff, cond_true, cond_false, if_true, if_false, reduceIte, implies_true, forall_const, ne_eq, getD_map hs])
 | (simp (disch := omega) only [wr64, Int.zero_sub]; try simp only [zT, zV, zS, zU, vcC, lateX, ex, strp, cnd, binA, kseq, kblk, kret, klp, Abs.one, elems, cells, scalar, eqC, Nat.reduceBEq, Nat.reduceAdd, Nat.reduceSub, Nat.reduceLT, Nat.reduceLeDiff, Nat.reduceMul, Nat.reduceEqDiff, cond_true, cond_false, if_true, if_false, reduceIte, implies_true, forall_const, ne_eq, getD_map hs])
 | (refine AWPC.both (fun _ => ?_) (fun _ => ?_))
 | (refine AWPC.imp (fun _ => ?_))
 | ((refine .inl ⟨_, _, _, .any, rfl, fun h => absurd h Bool.false_ne_true, ?_⟩); refine owp_of_exs ?_; simp only [zT, zV, zS, zU, vcC, lateX, ex, strp, cnd, binA, kseq, kblk, kret, klp, Abs.one, elems, cells, scalar, eqC, Nat.reduceBEq, Nat.reduceAdd, Nat.reduceSub, Nat.reduceLT, Nat.reduceLeDiff, Nat.reduceMul, Nat.reduceEqDiff, cond_true, cond_false, if_true, if_false, reduceIte, implies_true, forall_const, ne_eq, getD_map hs])
 | (refine ⟨by omega, ?_⟩)
 | (refine And.intro (by (intros; first | (simp_all (config := { decide := false }); done) | fail)) ?_)
 | fail)
        all_goals try (exfalso; omega)
        exact ⟨⟨m + 1, hlt2, trivial⟩, by simp, by simp only; omega⟩
      | true =>
        by_cases hle : a ≤ s.hi
        · (repeat' first
 | (refine AWPC.of_vcn rfl ?_; simp only [zT, zV, zS, zU, vcC, lateX, ex, strp, cnd, binA, kseq, kblk, kret, klp, Abs.one, elems, cells, scalar, eqC, Nat.reduceBEq, Nat.reduceAdd, Nat.reduceSub, Nat.reduceLT, Nat.reduceLeDiff, Nat.reduceMul, Nat.reduceEqDiff, cond_true, cond_false, if_true, if_false, reduceIte, implies_true, forall_const, ne_eq, getD_map hs])
 | (simp (disch := omega) only [wr64, Int.zero_sub]; try simp only [zT, zV, zS, zU, vcC, lateX, ex, strp, cnd, binA, kseq, kblk, kret, klp, Abs.one, elems, cells, scalar, eqC, Nat.reduceBEq, Nat.reduceAdd, Nat.reduceSub, Nat.reduceLT, Nat.reduceLeDiff, Nat.reduceMul, Nat.reduceEqDiff, cond_true, cond_false, if_true, if_false, reduceIte, implies_true, forall_const, ne_eq, getD_map hs])
 | (refine AWPC.both (fun _ => ?_) (fun _ => ?_))
 | (refine AWPC.imp (fun _ => ?_))
 | ((refine .inl ⟨_, _, _, .any, rfl, fun h => absurd h Bool.false_ne_true, ?_⟩); refine owp_of_exs ?_; simp only [zT, zV, zS, zU, vcC, lateX, ex, strp, cnd, binA, kseq, kblk, kret, klp, Abs.one, elems, cells, scalar, eqC, Nat.reduceBEq, Nat.reduceAdd, Nat.reduceSub, Nat.reduceLT, Nat.reduceLeDiff, Nat.reduceMul, Nat.reduceEqDiff, cond_true, cond_false, if_true, if_false, reduceIte, implies_true, forall_const, ne_eq, getD_map hs])
 | (refine ⟨by omega, ?_⟩)
 | (refine And.intro (by (intros; first | (simp_all (config := { decide := false }); done) | fail)) ?_)
 | fail)
          all_goals try (exfalso; omega)
          refine AWPC.loopS (α := { z : Nat × Int × Bool // z.1 ≤ ps.length ∧ a ≤ z.2.1 ∧ z.2.1 ≤ 12001 ∧ (z.2.2 = true → a < z.2.1) ∧ (z.2.2 = false → z.2.1 = a ∧ ∀ q ∈ ps.take z.1, ∀ x ∈ q, ¬ (x.lo ≤ a ∧ a ≤ x.hi)) }) [10, 11, 12] (fun z => [(10, n z.1.2.1), (11, bl z.1.2.2), (12, n z.1.1)]) (fun z => ps.length - z.1.1)
            ⟨(0, a, false), Nat.zero_le _, Int.le_refl _, ha2, fun h => (by cases h), fun _ => ⟨rfl, fun q hq => (by simp at hq)⟩⟩ ?_ ?_
          · (simp only [zT, zV, zS, zU, vcC, lateX, ex, strp, cnd, binA, kseq, kblk, kret, klp, Abs.one, elems, cells, scalar, eqC, Nat.reduceBEq, Nat.reduceAdd, Nat.reduceSub, Nat.reduceLT, Nat.reduceLeDiff, Nat.reduceMul, Nat.reduceEqDiff, cond_true, cond_false, if_true, if_false, reduceIte, implies_true, forall_const, ne_eq]; try simp)
          rintro ⟨⟨i, b, mo⟩, hi, hb1, hb2, hb3, hb4⟩
          simp only at hi hb1 hb2 hb3 hb4
          simp only
          by_cases hlt3 : i < ps.length
          · obtain ⟨q, hq⟩ : ∃ q, ps[i]? = some q := ⟨_, List.getElem?_eq_getElem hlt3⟩
            have hqm := List.mem_of_getElem? hq
            have hqn := hp q hqm
            have hql := hqn.len_le
            (repeat' first
 | (refine AWPC.of_vcn rfl ?_; simp only [zT, zV, zS, zU, vcC, lateX, ex, strp, cnd, binA, kseq, kblk, kret, klp, Abs.one, elems, cells, scalar, eqC, Nat.reduceBEq, Nat.reduceAdd, Nat.reduceSub, Nat.reduceLT, Nat.reduceLeDiff, Nat.reduceMul, Nat.reduceEqDiff, cond_true, cond_false, if_true, if_false, reduceIte, implies_true, forall_const, ne_eq])
 | (simp (disch := omega) only [wr64, Int.zero_sub]; try simp only [zT, zV, zS, zU, vcC, lateX, ex, strp, cnd, binA, kseq, kblk, kret, klp, Abs.one, elems, cells, scalar, eqC, Nat.reduceBEq, Nat.reduceAdd, Nat.reduceSub, Nat.reduceLT, Nat.reduceLeDiff, Nat.reduceMul, Nat.reduceEqDiff, cond_true, cond_false, if_true, if_false, reduceIte, implies_true, forall_const, ne_eq])
 | (refine AWPC.both (fun _ => ?_) (fun _ => ?_))
 | (refine AWPC.imp (fun _ => ?_))
 | ((refine .inl ⟨_, _, _, .any, rfl, fun h => absurd h Bool.false_ne_true, ?_⟩); refine owp_of_exs ?_; simp only [zT, zV, zS, zU, vcC, lateX, ex, strp, cnd, binA, kseq, kblk, kret, klp, Abs.one, elems, cells, scalar, eqC, Nat.reduceBEq, Nat.reduceAdd, Nat.reduceSub, Nat.reduceLT, Nat.reduceLeDiff, Nat.reduceMul, Nat.reduceEqDiff, cond_true, cond_false, if_true, if_false, reduceIte, implies_true, forall_const, ne_eq])
 | (refine ⟨by omega, ?_⟩)
 | (refine And.intro (by (intros; first | (simp_all (config := { decide := false }); done) | fail)) ?_)
 | fail)
            all_goals try (exfalso; omega)
            refine AWPC.loopS (α := { z : Nat × Int × Bool // z.1 ≤ q.length ∧ a ≤ z.2.1 ∧ z.2.1 ≤ 12001 ∧ (z.2.2 = true → a < z.2.1) ∧ (z.2.2 = false → z.2.1 = a ∧ (∀ q ∈ ps.take i, ∀ x ∈ q, ¬ (x.lo ≤ a ∧ a ≤ x.hi)) ∧ ∀ x ∈ q.take z.1, ¬ (x.lo ≤ a ∧ a ≤ x.hi)) }) [10, 11, 13] (fun z => [(10, n z.1.2.1), (11, bl z.1.2.2), (13, n z.1.1)]) (fun z => q.length - z.1.1)
              ⟨(0, b, mo), Nat.zero_le _, hb1, hb2, hb3, fun h => ⟨(hb4 h).1, (hb4 h).2, fun x hx => (by simp at hx)⟩⟩ ?_ ?_
            · (simp only [zT, zV, zS, zU, vcC, lateX, ex, strp, cnd, binA, kseq, kblk, kret, klp, Abs.one, elems, cells, scalar, eqC, Nat.reduceBEq, Nat.reduceAdd, Nat.reduceSub, Nat.reduceLT, Nat.reduceLeDiff, Nat.reduceMul, Nat.reduceEqDiff, cond_true, cond_false, if_true, if_false, reduceIte, implies_true, forall_const, ne_eq]; try simp)
            rintro ⟨⟨k, d, mp⟩, hk, hd1, hd2, hd3, hd4⟩
            simp only at hk hd1 hd2 hd3 hd4
            simp only
            by_cases hlt4 : k < q.length
            · obtain ⟨x, hx⟩ : ∃ x, q[k]? = some x := ⟨_, List.getElem?_eq_getElem hlt4⟩
              have hxm := List.mem_of_getElem? hx
              have hxb := hqn.2 x hxm
              (repeat' first
 | (refine AWPC.of_vcn rfl ?_; simp only [zT, zV, zS, zU, vcC, lateX, ex, strp, cnd, binA, kseq, kblk, kret, klp, Abs.one, elems, cells, scalar, eqC, Nat.reduceBEq, Nat.reduceAdd, Nat.reduceSub, Nat.reduceLT, Nat.reduceLeDiff, Nat.reduceMul, Nat.reduceEqDiff, cond_true, cond_false, if_true, if_false, reduceIte, implies_true, forall_const, ne_eq, getD_map hq, getD_map hx])
 | (simp (disch := omega) only [wr64, Int.zero_sub]; try simp only [zT, zV, zS, zU, vcC, lateX, ex, strp, cnd, binA, kseq, kblk, kret, klp, Abs.one, elems, cells, scalar, eqC, Nat.reduceBEq, Nat.reduceAdd, Nat.reduceSub, Nat.reduceLT, Nat.reduceLeDiff, Nat.reduceMul, Nat.reduceEqDiff, cond_true, cond_false, if_true, if_false, reduceIte, implies_true, forall_const, ne_eq, getD_map hq, getD_map hx])
 | (refine AWPC.both (fun _ => ?_) (fun _ => ?_))
 | (refine AWPC.imp (fun _ => ?_))
 | ((refine .inl ⟨_, _, _, .any, rfl, fun h => absurd h Bool.false_ne_true, ?_⟩); refine owp_of_exs ?_; simp only [zT, zV, zS, zU, vcC, lateX, ex, strp, cnd, binA, kseq, kblk, kret, klp, Abs.one, elems, cells, scalar, eqC, Nat.reduceBEq, Nat.reduceAdd, Nat.reduceSub, Nat.reduceLT, Nat.reduceLeDiff, Nat.reduceMul, Nat.reduceEqDiff, cond_true, cond_false, if_true, if_false, reduceIte, implies_true, forall_const, ne_eq, getD_map hq, getD_map hx])
 | (refine ⟨by omega, ?_⟩)
 | (refine And.intro (by (intros; first | (simp_all (config := { decide := false }); done) | fail)) ?_)
 | fail)
              all_goals try (exfalso; omega)
              · rename_i h
                exact ⟨⟨(k + 1, x.hi + 1, true), hlt4, by simp only; omega, by simp only; omega, fun _ => by simp only; omega, fun h => by cases h⟩, by simp, by simp only; omega⟩
              · rename_i h
                refine ⟨⟨(k + 1, d, mp), hlt4, hd1, hd2, hd3, fun e => ⟨(hd4 e).1, (hd4 e).2.1, fun y hy => ?_⟩⟩, by simp, by simp only; omega⟩
                rw [List.take_add_one, hx] at hy
                rcases List.mem_append.1 hy with hy | hy
                · exact (hd4 e).2.2 y hy
                · obtain rfl : y = x := by simpa using hy
                  have := (hd4 e).1
                  omega
            · obtain rfl : k = q.length := by omega
              (repeat' first
 | (refine AWPC.of_vcn rfl ?_; simp only [zT, zV, zS, zU, vcC, lateX, ex, strp, cnd, binA, kseq, kblk, kret, klp, Abs.one, elems, cells, scalar, eqC, Nat.reduceBEq, Nat.reduceAdd, Nat.reduceSub, Nat.reduceLT, Nat.reduceLeDiff, Nat.reduceMul, Nat.reduceEqDiff, cond_true, cond_false, if_true, if_false, reduceIte, implies_true, forall_const, ne_eq, getD_map hq])
 | (simp (disch := omega) only [wr64, Int.zero_sub]; try simp only [zT, zV, zS, zU, vcC, lateX, ex, strp, cnd, binA, kseq, kblk, kret, klp, Abs.one, elems, cells, scalar, eqC, Nat.reduceBEq, Nat.reduceAdd, Nat.reduceSub, Nat.reduceLT, Nat.reduceLeDiff, Nat.reduceMul, Nat.reduceEqDiff, cond_true, cond_false, if_true, if_false, reduceIte, implies_true, forall_const, ne_eq, getD_map hq])
 | (refine AWPC.both (fun _ => ?_) (fun _ => ?_))
 | (refine AWPC.imp (fun _ => ?_))
 | ((refine .inl ⟨_, _, _, .any, rfl, fun h => absurd h Bool.false_ne_true, ?_⟩); refine owp_of_exs ?_; simp only [zT, zV, zS, zU, vcC, lateX, ex, strp, cnd, binA, kseq, kblk, kret, klp, Abs.one, elems, cells, scalar, eqC, Nat.reduceBEq, Nat.reduceAdd, Nat.reduceSub, Nat.reduceLT, Nat.reduceLeDiff, Nat.reduceMul, Nat.reduceEqDiff, cond_true, cond_false, if_true, if_false, reduceIte, implies_true, forall_const, ne_eq, getD_map hq])
 | (refine ⟨by omega, ?_⟩)
 | (refine And.intro (by (intros; first | (simp_all (config := { decide := false }); done) | fail)) ?_)
 | fail)
              all_goals try (exfalso; omega)
              refine ⟨⟨(i + 1, d, mp), hlt3, hd1, hd2, hd3, fun e => ⟨(hd4 e).1, fun y hy x hx => ?_⟩⟩, by simp, by simp only; omega⟩
              rw [List.take_add_one, hq] at hy
              rcases List.mem_append.1 hy with hy | hy
              · exact (hd4 e).2.1 y hy x hx
              · obtain rfl : y = q := by simpa using hy
                exact (hd4 e).2.2 x (by rw [List.take_length]; exact hx)
          · obtain rfl : i = ps.length := by omega
            (repeat' first
 | (refine AWPC.of_vcn rfl ?_; simp only [zT, zV, zS, zU, vcC, lateX, ex, strp, cnd, binA, kseq, kblk, kret, klp, Abs.one, elems, cells, scalar, eqC, Nat.reduceBEq, Nat.reduceAdd, Nat.reduceSub, Nat.reduceLT, Nat.reduceLeDiff, Nat.reduceMul, Nat.reduceEqDiff, cond_true, cond_false, if_true, if_false, reduceIte, implies_true, forall_const, ne_eq])
 | (simp (disch := omega) only [wr64, Int.zero_sub]; try simp only [zT, zV, zS, zU, vcC, lateX, ex, strp, cnd, binA, kseq, kblk, kret, klp, Abs.one, elems, cells, scalar, eqC, Nat.reduceBEq, Nat.reduceAdd, Nat.reduceSub, Nat.reduceLT, Nat.reduceLeDiff, Nat.reduceMul, Nat.reduceEqDiff, cond_true, cond_false, if_true, if_false, reduceIte, implies_true, forall_const, ne_eq])
 | (refine AWPC.both (fun _ => ?_) (fun _ => ?_))
 | (refine AWPC.imp (fun _ => ?_))
 | ((refine .inl ⟨_, _, _, .any, rfl, fun h => absurd h Bool.false_ne_true, ?_⟩); refine owp_of_exs ?_; simp only [zT, zV, zS, zU, vcC, lateX, ex, strp, cnd, binA, kseq, kblk, kret, klp, Abs.one, elems, cells, scalar, eqC, Nat.reduceBEq, Nat.reduceAdd, Nat.reduceSub, Nat.reduceLT, Nat.reduceLeDiff, Nat.reduceMul, Nat.reduceEqDiff, cond_true, cond_false, if_true, if_false, reduceIte, implies_true, forall_const, ne_eq])
 | (refine ⟨by omega, ?_⟩)
 | (refine And.intro (by (intros; first | (simp_all (config := { decide := false }); done) | fail)) ?_)
 | fail)
            all_goals try (exfalso; omega)
            refine ⟨⟨(b, mo), by simp only; omega, hb2, fun e q hq x hx => ?_⟩, by simp, ?_⟩
            · have := hb4 e
              rw [this.1]
              exact this.2 q (by rw [List.take_length]; exact hq) x hx
            · cases mo with
              | true => have := hb3 rfl; simp only [cond_true]; omega
              | false => have := (hb4 rfl).1; simp only [cond_true, cond_false]; omega
        · (repeat' first
 | (refine AWPC.of_vcn rfl ?_; simp only [zT, zV, zS, zU, vcC, lateX, ex, strp, cnd, binA, kseq, kblk, kret, klp, Abs.one, elems, cells, scalar, eqC, Nat.reduceBEq, Nat.reduceAdd, Nat.reduceSub, Nat.reduceLT, Nat.reduceLeDiff, Nat.reduceMul, Nat.reduceEqDiff, cond_true, cond_false, if_true, if_false, reduceIte, implies_true, forall_const, ne_eq, getD_map hs])
 | (simp (disch := omega) only [wr64, Int.zero_sub]; try simp only [zT, zV, zS, zU, vcC, lateX, ex, strp, cnd, binA, kseq, kblk, kret, klp, Abs.one, elems, cells, scalar, eqC, Nat.reduceBEq, Nat.reduceAdd, Nat.reduceSub, Nat.reduceLT, Nat.reduceLeDiff, Nat.reduceMul, Nat.reduceEqDiff, cond_true, cond_false, if_true, if_false, reduceIte, implies_true, forall_const, ne_eq, getD_map hs])
 | (refine AWPC.both (fun _ => ?_) (fun _ => ?_))
 | (refine AWPC.imp (fun _ => ?_))
 | ((refine .inl ⟨_, _, _, .any, rfl, fun h => absurd h Bool.false_ne_true, ?_⟩); refine owp_of_exs ?_; simp only [zT, zV, zS, zU, vcC, lateX, ex, strp, cnd, binA, kseq, kblk, kret, klp, Abs.one, elems, cells, scalar, eqC, Nat.reduceBEq, Nat.reduceAdd, Nat.reduceSub, Nat.reduceLT, Nat.reduceLeDiff, Nat.reduceMul, Nat.reduceEqDiff, cond_true, cond_false, if_true, if_false, reduceIte, implies_true, forall_const, ne_eq, getD_map hs])
 | (refine ⟨by omega, ?_⟩)
 | (refine And.intro (by (intros; first | (simp_all (config := { decide := false }); done) | fail)) ?_)
 | fail)
          all_goals try (exfalso; omega)
          exact ⟨⟨m + 1, hlt2, trivial⟩, by simp, by simp only; omega⟩
    · obtain rfl : m = l.length := by omega
      (repeat' first
 | (refine AWPC.of_vcn rfl ?_; simp only [zT, zV, zS, zU, vcC, lateX, ex, strp, cnd, binA, kseq, kblk, kret, klp, Abs.one, elems, cells, scalar, eqC, Nat.reduceBEq, Nat.reduceAdd, Nat.reduceSub, Nat.reduceLT, Nat.reduceLeDiff, Nat.reduceMul, Nat.reduceEqDiff, cond_true, cond_false, if_true, if_false, reduceIte, implies_true, forall_const, ne_eq])
 | (simp (disch := omega) only [wr64, Int.zero_sub]; try simp only [zT, zV, zS, zU, vcC, lateX, ex, strp, cnd, binA, kseq, kblk, kret, klp, Abs.one, elems, cells, scalar, eqC, Nat.reduceBEq, Nat.reduceAdd, Nat.reduceSub, Nat.reduceLT, Nat.reduceLeDiff, Nat.reduceMul, Nat.reduceEqDiff, cond_true, cond_false, if_true, if_false, reduceIte, implies_true, forall_const, ne_eq])
 | (refine AWPC.both (fun _ => ?_) (fun _ => ?_))
 | (refine AWPC.imp (fun _ => ?_))
 | ((refine .inl ⟨_, _, _, .any, rfl, fun h => absurd h Bool.false_ne_true, ?_⟩); refine owp_of_exs ?_; simp only [zT, zV, zS, zU, vcC, lateX, ex, strp, cnd, binA, kseq, kblk, kret, klp, Abs.one, elems, cells, scalar, eqC, Nat.reduceBEq, Nat.reduceAdd, Nat.reduceSub, Nat.reduceLT, Nat.reduceLeDiff, Nat.reduceMul, Nat.reduceEqDiff, cond_true, cond_false, if_true, if_false, reduceIte, implies_true, forall_const, ne_eq])
 | (refine ⟨by omega, ?_⟩)
 | (refine And.intro (by (intros; first | (simp_all (config := { decide := false }); done) | fail)) ?_)
 | fail)
      all_goals try (exfalso; omega)
      exact Frz.eq rfl (by simp)

end Go.Proofs.Ytgpdckmbojmlpaa

namespace Go.Proofs.Ytgpdckmbojmlpaa
open Go.Abs
set_option linter.unusedVariables false
set_option linter.unusedSimpArgs false
set_option maxHeartbeats 4000000
set_option maxRecDepth 100000
-- aneroid/paper.Ink
def c57 : CF := ⟨149,
 (.seq (.ops [
 ⟨(some 3), .box false 25 10 (.t 0), none⟩,
 ⟨(some 6), .alloc 56 1 [.slice none 0 0], none⟩,
 ⟨(some 7), .mv (.c (.int .i64 0)), none⟩] [1, 2, 3, 6, 16, 17, 18, 80, 81, 82, 83, 84, 85, 86, 87, 88, 89, 90, 91, 93, 94, 95, 96, 97, 98, 99, 100])
 (.seq (.ops [
 ⟨(some 24), .load (some 10) (.t 3), none⟩,
 ⟨(some 25), .mv (.t 1), none⟩,
 ⟨(some 26), .call (.f 71) [(.t 24), (.t 25)], none⟩,
 ⟨(some 23), .mv (.t 26), none⟩,
 ⟨(some 27), .ext 0 (.t 23), none⟩,
 ⟨(some 28), .ext 1 (.t 23), none⟩,
 ⟨(some 8), .alloc 85 10 [.int .i64 0, .int .i64 0, .int .i64 0, .int .i64 0, .int .i64 0, .int .i64 0, .int .i64 0, .int .i64 0, .int .i64 0, .int .i64 0], none⟩,
 ⟨none, .store 10 (.t 8) (.t 27), none⟩,
 ⟨(some 9), .mv (.t 28), none⟩] [1, 2, 3, 6, 8, 9, 16, 17, 18, 80, 81, 82, 83, 84, 85, 86, 87, 88, 89, 90, 91, 93, 94, 95, 96, 97, 98, 99, 100])
 (.seq (.seq (.ops [
 ⟨(some 29), .mv (.t 9), none⟩,
 ⟨(some 30), .bin .neq (.t 29) (.c (.int .i64 0)), none⟩] [1, 2, 3, 6, 8, 9, 16, 17, 18, 30, 80, 81, 82, 83, 84, 85, 86, 87, 88, 89, 90, 91, 93, 94, 95, 96, 97, 98, 99, 100])
 (.cond (.t 30) (.seq (.ops [
 ⟨(some 31), .build [.slice none 0 0] [], none⟩,
 ⟨(some 32), .mv (.t 9), none⟩,
 ⟨none, .store 1 (.t 6) (.t 31), none⟩,
 ⟨(some 7), .mv (.t 32), none⟩] [6, 7])
 .ret)
 .skip))
 (.seq (.ops [
 ⟨(some 33), .faddr 5 (.t 3), none⟩,
 ⟨(some 34), .load none (.t 33), none⟩,
 ⟨(some 35), .mksl 110 2 32 [.slice none 0 0, .bool false] (.t 34) (.t 34), none⟩,
 ⟨(some 10), .mv (.t 35), none⟩] [1, 2, 3, 6, 8, 10, 16, 17, 18, 80, 81, 82, 83, 84, 85, 86, 87, 88, 89, 90, 91, 93, 94, 95, 96, 97, 98, 99, 100])
 (.seq (.seq (.ops [
 ⟨(some 36), .mv (.t 2), none⟩,
 ⟨(some 37), .len (.t 36), none⟩,
 ⟨(some 38), .mv (.c (.int .i64 0)), none⟩] [1, 2, 3, 6, 8, 10, 16, 17, 18, 36, 37, 38, 80, 81, 82, 83, 84, 85, 86, 87, 88, 89, 90, 91, 93, 94, 95, 96, 97, 98, 99, 100])
 (.block 0 (.loop (.seq (.ops [
 ⟨(some 39), .bin .lss (.t 38) (.t 37), none⟩] [1, 2, 3, 6, 8, 10, 16, 17, 18, 36, 37, 38, 39, 80, 81, 82, 83, 84, 85, 86, 87, 88, 89, 90, 91, 93, 94, 95, 96, 97, 98, 99, 100])
 (.seq (.cond (.t 39) .skip
 (.exit 0))
 (.seq (.block 1 (.seq (.ops [
 ⟨(some 40), .mv (.t 38), none⟩,
 ⟨(some 41), .iaddr 1 (.t 36) (.t 38), none⟩,
 ⟨(some 42), .load none (.t 41), none⟩,
 ⟨(some 11), .mv (.t 40), none⟩,
 ⟨(some 12), .mv (.t 42), none⟩] [1, 2, 3, 6, 8, 10, 11, 12, 16, 17, 18, 36, 37, 38, 80, 81, 82, 83, 84, 85, 86, 87, 88, 89, 90, 91, 93, 94, 95, 96, 97, 98, 99, 100])
 (.seq (.seq (.ops [
 ⟨(some 43), .mv (.t 12), none⟩,
 ⟨(some 44), .faddr 5 (.t 3), none⟩,
 ⟨(some 45), .load none (.t 44), none⟩,
 ⟨(some 46), .bin .sub (.t 45) (.c (.int .i64 1)), none⟩,
 ⟨(some 47), .call (.f 72) [(.t 43), (.c (.int .i64 0)), (.t 46)], none⟩,
 ⟨(some 48), .un .not (.t 47), none⟩,
 ⟨(some 49), .mv (.t 48), none⟩,
 ⟨(some 50), .mv (.t 11), (some (49, false))⟩,
 ⟨(some 51), .bin .gtr (.t 50) (.c (.int .i64 0)), (some (49, false))⟩,
 ⟨(some 52), .mv (.t 51), (some (49, false))⟩,
 ⟨(some 53), .mv (.t 12), (some (52, true))⟩,
 ⟨(some 54), .mv (.t 2), (some (52, true))⟩,
 ⟨(some 55), .mv (.t 11), (some (52, true))⟩,
 ⟨(some 56), .bin .sub (.t 55) (.c (.int .i64 1)), (some (52, true))⟩,
 ⟨(some 57), .iaddr 1 (.t 54) (.t 56), (some (52, true))⟩,
 ⟨(some 58), .load none (.t 57), (some (52, true))⟩,
 ⟨(some 59), .bin .leq (.t 53) (.t 58), (some (52, true))⟩,
 ⟨(some 60), .pick (.t 52) (.t 59) (.c (.bool false)), (some (49, false))⟩,
 ⟨(some 61), .pick (.t 49) (.c (.bool true)) (.t 60), none⟩] [1, 2, 3, 6, 8, 10, 12, 16, 17, 18, 36, 37, 38, 61, 80, 81, 82, 83, 84, 85, 86, 87, 88, 89, 90, 91, 93, 94, 95, 96, 97, 98, 99, 100])
 (.cond (.t 61) (.seq (.ops [
 ⟨(some 62), .build [.slice none 0 0] [], none⟩,
 ⟨none, .store 1 (.t 6) (.t 62), none⟩,
 ⟨(some 7), .mv (.c (.int .i64 1)), none⟩] [6, 7])
 .ret)
 .skip))
 (.ops [
 ⟨(some 63), .mv (.t 10), none⟩,
 ⟨(some 64), .mv (.t 12), none⟩,
 ⟨(some 65), .iaddr 2 (.t 63) (.t 64), none⟩,
 ⟨(some 66), .faddr 1 (.t 65), none⟩,
 ⟨none, .store 1 (.t 66) (.c (.bool true)), none⟩] [1, 2, 3, 6, 8, 10, 16, 17, 18, 36, 37, 38, 80, 81, 82, 83, 84, 85, 86, 87, 88, 89, 90, 91, 93, 94, 95, 96, 97, 98, 99, 100]))))
 (.ops [
 ⟨(some 67), .bin .add (.t 38) (.c (.int .i64 1)), none⟩,
 ⟨(some 38), .mv (.t 67), none⟩] [1, 2, 3, 6, 8, 10, 16, 17, 18, 36, 37, 38, 80, 81, 82, 83, 84, 85, 86, 87, 88, 89, 90, 91, 93, 94, 95, 96, 97, 98, 99, 100])))))))
 (.seq (.seq (.ops [
 ⟨(some 68), .mv (.t 1), none⟩,
 ⟨(some 69), .len (.t 68), none⟩,
 ⟨(some 70), .mv (.c (.int .i64 0)), none⟩] [3, 6, 8, 10, 16, 17, 18, 68, 69, 70, 80, 81, 82, 83, 84, 85, 86, 87, 88, 89, 90, 91, 93, 94, 95, 96, 97, 98, 99, 100])
 (.block 2 (.loop (.seq (.ops [
 ⟨(some 71), .bin .lss (.t 70) (.t 69), none⟩] [3, 6, 8, 10, 16, 17, 18, 68, 69, 70, 71, 80, 81, 82, 83, 84, 85, 86, 87, 88, 89, 90, 91, 93, 94, 95, 96, 97, 98, 99, 100])
 (.seq (.cond (.t 71) .skip
 (.exit 2))
 (.seq (.block 3 (.seq (.ops [
 ⟨(some 72), .iaddr 3 (.t 68) (.t 70), none⟩,
 ⟨(some 73), .load (some 3) (.t 72), none⟩,
 ⟨(some 14), .alloc 32 3 [.int .i64 0, .int .i64 0, .int .i64 0], none⟩,
 ⟨none, .store 3 (.t 14) (.t 73), none⟩] [3, 6, 8, 10, 14, 16, 17, 18, 68, 69, 70, 80, 81, 82, 83, 84, 85, 86, 87, 88, 89, 90, 91, 93, 94, 95, 96, 97, 98, 99, 100])
 (.seq (.ops [
 ⟨(some 74), .faddr 5 (.t 3), none⟩,
 ⟨(some 75), .load none (.t 74), none⟩,
 ⟨(some 76), .mksl 90 1 24 [.slice none 0 0] (.t 75) (.t 75), none⟩,
 ⟨(some 15), .alloc 111 1 [.slice none 0 0], none⟩,
 ⟨none, .store 1 (.t 15) (.t 76), none⟩] [3, 6, 8, 10, 14, 15, 16, 17, 18, 68, 69, 70, 80, 81, 82, 83, 84, 85, 86, 87, 88, 89, 90, 91, 93, 94, 95, 96, 97, 98, 99, 100])
 (.seq (.seq (.ops [
 ⟨(some 77), .load (some 10) (.t 8), none⟩,
 ⟨(some 78), .load (some 3) (.t 14), none⟩,
 ⟨(some 79), .call (.f 73) [(.t 77), (.t 78)], none⟩] [3, 6, 8, 10, 15, 16, 17, 18, 68, 69, 70, 79, 80, 81, 82, 83, 84, 85, 86, 87, 88, 89, 90, 91, 93, 94, 95, 96, 97, 98, 99, 100])
 (.block 4 (.rng (.t 79) [80, 81] (.seq (.ops [
 ⟨(some 16), .mv (.t 80), none⟩] [3, 6, 8, 10, 15, 16, 18, 68, 69, 70, 80, 81, 82, 83, 84, 85, 86, 87, 88, 89, 90, 91, 93, 94, 95, 96, 97, 98, 99, 100])
 (.ops [
 ⟨(some 17), .alloc 23 2 [.int .i64 0, .int .i64 0], none⟩,
 ⟨none, .store 2 (.t 17) (.t 81), none⟩] [3, 6, 8, 10, 15, 16, 17, 18, 68, 69, 70, 80, 81, 82, 83, 84, 85, 86, 87, 88, 89, 90, 91, 93, 94, 95, 96, 97, 98, 99, 100]))
 (.block 5 (.seq (.ops [
 ⟨(some 82), .faddr 0 (.t 17), none⟩,
 ⟨(some 83), .load none (.t 82), none⟩,
 ⟨(some 84), .mnx true (.t 83) (.c (.int .i64 0)), none⟩,
 ⟨(some 18), .mv (.t 84), none⟩] [3, 6, 8, 10, 15, 16, 17, 18, 68, 69, 70, 80, 81, 82, 83, 84, 93, 94, 95, 96, 97, 98, 99, 100])
 (.block 6 (.loop (.seq (.seq (.ops [
 ⟨(some 85), .mv (.t 18), none⟩,
 ⟨(some 86), .faddr 1 (.t 17), none⟩,
 ⟨(some 87), .load none (.t 86), none⟩,
 ⟨(some 88), .faddr 5 (.t 3), none⟩,
 ⟨(some 89), .load none (.t 88), none⟩,
 ⟨(some 90), .bin .sub (.t 89) (.c (.int .i64 1)), none⟩,
 ⟨(some 91), .mnx false (.t 87) (.t 90), none⟩,
 ⟨(some 92), .bin .leq (.t 85) (.t 91), none⟩] [3, 6, 8, 10, 15, 16, 17, 18, 68, 69, 70, 80, 81, 82, 83, 84, 85, 86, 87, 88, 89, 90, 91, 92, 93, 94, 95, 96, 97, 98, 99, 100])
 (.cond (.t 92) .skip
 (.exit 6)))
 (.seq (.block 7 (.draw [
 ⟨(some 95), .load none (.t 15), none⟩,
 ⟨(some 96), .mv (.t 18), none⟩,
 ⟨(some 97), .iaddr 1 (.t 95) (.t 96), none⟩,
 ⟨(some 98), .load (some 10) (.t 8), none⟩,
 ⟨(some 99), .mv (.t 16), none⟩,
 ⟨(some 100), .call (.f 75) [(.t 98), (.t 99)], none⟩] [
 ⟨(some 101), .call (.f 74) [(.t 97), (.t 100)], none⟩] [3, 6, 8, 10, 15, 16, 17, 18, 68, 69, 70, 80, 81, 82, 83, 84, 95, 96, 97, 98, 99, 100]))
 (.ops [
 ⟨(some 93), .mv (.t 18), none⟩,
 ⟨(some 94), .bin .add (.t 93) (.c (.int .i64 1)), none⟩,
 ⟨(some 18), .mv (.t 94), none⟩] [3, 6, 8, 10, 15, 16, 17, 18, 68, 69, 70, 80, 81, 82, 83, 84, 93, 94, 95, 96, 97, 98, 99, 100]))))))))))
 (.seq (.ops [
 ⟨(some 102), .mv (.t 10), none⟩,
 ⟨(some 103), .len (.t 102), none⟩,
 ⟨(some 104), .mv (.c (.int .i64 0)), none⟩] [3, 6, 8, 10, 15, 16, 17, 18, 68, 69, 70, 80, 81, 82, 83, 84, 85, 86, 87, 88, 89, 90, 91, 93, 94, 95, 96, 97, 98, 99, 100, 103, 104])
 (.block 8 (.loop (.seq (.ops [
 ⟨(some 105), .bin .lss (.t 104) (.t 103), none⟩] [3, 6, 8, 10, 15, 16, 17, 18, 68, 69, 70, 80, 81, 82, 83, 84, 85, 86, 87, 88, 89, 90, 91, 93, 94, 95, 96, 97, 98, 99, 100, 103, 104, 105])
 (.seq (.cond (.t 105) .skip
 (.exit 8))
 (.seq (.block 9 (.seq (.ops [
 ⟨(some 106), .mv (.t 104), none⟩,
 ⟨(some 19), .mv (.t 106), none⟩] [3, 6, 8, 10, 15, 16, 17, 18, 19, 68, 69, 70, 80, 81, 82, 83, 84, 85, 86, 87, 88, 89, 90, 91, 93, 94, 95, 96, 97, 98, 99, 100, 103, 104])
 (.draw [
 ⟨(some 107), .mv (.t 10), none⟩,
 ⟨(some 108), .mv (.t 19), none⟩,
 ⟨(some 109), .iaddr 2 (.t 107) (.t 108), none⟩,
 ⟨(some 110), .faddr 0 (.t 109), none⟩,
 ⟨(some 111), .load none (.t 15), none⟩,
 ⟨(some 112), .mv (.t 19), none⟩,
 ⟨(some 113), .iaddr 1 (.t 111) (.t 112), none⟩,
 ⟨(some 114), .faddr 0 (.t 113), none⟩,
 ⟨(some 115), .load none (.t 114), none⟩] [
 ⟨(some 116), .call (.f 104) [(.t 110), (.t 115)], none⟩] [3, 6, 8, 10, 15, 16, 17, 18, 68, 69, 70, 80, 81, 82, 83, 84, 85, 86, 87, 88, 89, 90, 91, 93, 94, 95, 96, 97, 98, 99, 100, 103, 104])))
 (.ops [
 ⟨(some 117), .bin .add (.t 104) (.c (.int .i64 1)), none⟩,
 ⟨(some 104), .mv (.t 117), none⟩] [3, 6, 8, 10, 15, 16, 17, 18, 68, 69, 70, 80, 81, 82, 83, 84, 85, 86, 87, 88, 89, 90, 91, 93, 94, 95, 96, 97, 98, 99, 100, 103, 104])))))))))))
 (.ops [
 ⟨(some 118), .bin .add (.t 70) (.c (.int .i64 1)), none⟩,
 ⟨(some 70), .mv (.t 118), none⟩] [3, 6, 8, 10, 16, 17, 18, 68, 69, 70, 80, 81, 82, 83, 84, 85, 86, 87, 88, 89, 90, 91, 93, 94, 95, 96, 97, 98, 99, 100])))))))
 (.seq (.ops [
 ⟨(some 119), .faddr 5 (.t 3), none⟩,
 ⟨(some 120), .load none (.t 119), none⟩,
 ⟨(some 121), .mksl 34 1 24 [.slice none 0 0] (.t 120) (.t 120), none⟩,
 ⟨(some 122), .build [.slice none 0 0] [(0, 1, (.t 121))], none⟩,
 ⟨(some 20), .alloc 56 1 [.slice none 0 0], none⟩,
 ⟨none, .store 1 (.t 20) (.t 122), none⟩] [6, 10, 20])
 (.seq (.seq (.ops [
 ⟨(some 123), .mv (.t 10), none⟩,
 ⟨(some 124), .len (.t 123), none⟩,
 ⟨(some 125), .mv (.c (.int .i64 0)), none⟩] [6, 20, 123, 124, 125])
 (.block 10 (.loop (.seq (.ops [
 ⟨(some 126), .bin .lss (.t 125) (.t 124), none⟩] [6, 20, 123, 124, 125, 126])
 (.seq (.cond (.t 126) .skip
 (.exit 10))
 (.seq (.block 11 (.seq (.ops [
 ⟨(some 127), .mv (.t 125), none⟩,
 ⟨(some 128), .iaddr 2 (.t 123) (.t 125), none⟩,
 ⟨(some 129), .load (some 2) (.t 128), none⟩,
 ⟨(some 22), .alloc 110 2 [.slice none 0 0, .bool false], none⟩,
 ⟨(some 21), .mv (.t 127), none⟩,
 ⟨none, .store 2 (.t 22) (.t 129), none⟩] [6, 20, 21, 22, 123, 124, 125])
 (.seq (.block 12 (.seq (.ops [
 ⟨(some 131), .faddr 1 (.t 22), none⟩,
 ⟨(some 132), .load none (.t 131), none⟩,
 ⟨(some 130), .mv (.t 132), none⟩] [6, 20, 21, 22, 123, 124, 125, 130])
 (.cond (.t 130) (.exit 11)
 (.seq (.ops [
 ⟨(some 134), .faddr 0 (.t 22), none⟩,
 ⟨(some 135), .faddr 0 (.t 134), none⟩,
 ⟨(some 136), .load none (.t 135), none⟩,
 ⟨(some 137), .len (.t 136), none⟩,
 ⟨(some 138), .bin .gtr (.t 137) (.c (.int .i64 8)), none⟩,
 ⟨(some 133), .mv (.t 138), none⟩] [6, 20, 21, 22, 123, 124, 125, 133])
 (.cond (.t 133) (.seq (.ops [
 ⟨(some 139), .build [.slice none 0 0] [], none⟩,
 ⟨none, .store 1 (.t 6) (.t 139), none⟩,
 ⟨(some 7), .mv (.c (.int .i64 2)), none⟩] [6, 7])
 .ret)
 .skip)))))
 (.ops [
 ⟨(some 140), .faddr 0 (.t 20), none⟩,
 ⟨(some 141), .load none (.t 140), none⟩,
 ⟨(some 142), .mv (.t 21), none⟩,
 ⟨(some 143), .faddr 0 (.t 22), none⟩,
 ⟨(some 144), .faddr 0 (.t 143), none⟩,
 ⟨(some 145), .load none (.t 144), none⟩,
 ⟨(some 146), .iaddr 1 (.t 141) (.t 142), none⟩,
 ⟨none, .store 1 (.t 146) (.t 145), none⟩] [6, 20, 123, 124, 125]))))
 (.ops [
 ⟨(some 147), .bin .add (.t 125) (.c (.int .i64 1)), none⟩,
 ⟨(some 125), .mv (.t 147), none⟩] [6, 20, 123, 124, 125])))))))
 (.seq (.ops [
 ⟨(some 148), .load (some 1) (.t 20), none⟩,
 ⟨none, .store 1 (.t 6) (.t 148), none⟩,
 ⟨(some 7), .mv (.c (.int .i64 0)), none⟩] [6, 7])
 .ret))))))))),
 [.c 6 (some 1), .t 7]⟩
theorem k57 : chkF Try.prog Try.f57 c57 = true := by kernel_rfl

/-- An array of sets that are owned, one object behind the other. -/
def OneP (σ : Sto) (A G N : Nat) (R : Nat → List Sp) : Prop :=
  σ.at A 0 = some ⟨90, 1, (List.range N).map fun (j : Nat) => [.own (G + j) 0 (R j).length], none⟩ ∧ ∀ j, j < N → σ.at (G + j) 0 = some (spO (R j))
theorem OneP.congr {σ : Sto} {A G N : Nat} {R R' : Nat → List Sp} (h : OneP σ A G N R) (hR : ∀ j, j < N → R' j = R j) : OneP σ A G N R' := by
  refine ⟨?_, fun j hj => by rw [hR j hj]; exact h.2 j hj⟩
  rw [h.1, range_congr (f := fun (j : Nat) => [AV.own (G + j) 0 (R j).length]) (g := fun (j : Nat) => [.own (G + j) 0 (R' j).length]) fun j hj => by rw [hR j hj]]
theorem OneP.frame {σ σ' : Sto} {A G N : Nat} {R : Nat → List Sp} (h : OneP σ A G N R) (hA : σ'.at A 0 = σ.at A 0) (hG : ∀ j, j < N → σ'.at (G + j) 0 = σ.at (G + j) 0) : OneP σ' A G N R :=
  ⟨by rw [hA]; exact h.1, fun j hj => by rw [hG j hj]; exact h.2 j hj⟩
theorem OneP.app {σ : Sto} {A G N : Nat} {R : Nat → List Sp} (h : OneP σ A G N R) (ν : Sto) : OneP (σ ++ ν) A G N R :=
  h.frame (at_appL (at_lt h.1)) fun j hj => at_appL (at_lt (h.2 j hj))
/-- A set of the array has risen. -/
def riseO (σ : Sto) (A G N c : Nat) (R : Nat → List Sp) (v : Int) : Sto :=
  (σ.upd (G + c) 0 (spO (rise (R c) v))).upd A 0 ⟨90, 1, ((List.range N).map fun (j : Nat) => [AV.own (G + j) 0 (R j).length]).set c [.own (G + c) 0 (rise (R c) v).length], none⟩
theorem riseO_len {σ : Sto} {A G N c : Nat} {R : Nat → List Sp} {v : Int} : (riseO σ A G N c R v).length = σ.length := by rw [riseO, upd_length, upd_length]
theorem riseO_at {σ : Sto} {A G N c : Nat} {R : Nat → List Sp} {v : Int} {i : Nat} (h : i ≠ A) (h' : i ≠ G + c) : (riseO σ A G N c R v).at i 0 = σ.at i 0 := by
  rw [riseO, at_upd_other (.inl fun e => h e.symm), at_upd_other (.inl fun e => h' e.symm)]
theorem riseO_one {σ : Sto} {A G N c : Nat} {R : Nat → List Sp} {v : Int} (h : OneP σ A G N R) (hAG : A < G) (hc : c < N) : OneP (riseO σ A G N c R v) A G N (fun j => if j = c then rise (R c) v else R j) := by
  have h1 : (σ.upd (G + c) 0 (spO (rise (R c) v))).at A 0 = some ⟨90, 1, (List.range N).map fun (j : Nat) => [.own (G + j) 0 (R j).length], none⟩ := by rw [at_upd_other (.inl (by omega))]; exact h.1
  refine ⟨?_, fun j hj => ?_⟩
  · rw [riseO, at_upd_same h1, range_set]
    refine congrArg (fun z => some (⟨90, 1, z, none⟩ : Ob)) (range_congr fun j hj => ?_)
    by_cases hjc : j = c
    · subst hjc; simp
    · simp [hjc]
  · rw [riseO, at_upd_other (.inl (by omega))]
    by_cases hjc : j = c
    · subst hjc; rw [at_upd_same (h.2 j hj)]; simp
    · rw [at_upd_other (.inl (by omega)), h.2 j hj]; simp [hjc]
theorem rise_one_does (σ ν : Sto) (A G N c : Nat) (R : Nat → List Sp) (v : Int) (h : OneP σ A G N R) (hAG : A < G) (hc : c < N) (hl : (R c).length < 1000000000) (hv : -1000000 ≤ v ∧ v ≤ 1000000) (hh : ∀ s ∈ R c, -1000000 ≤ s.hi ∧ s.hi ≤ 1000000) :
    Does Try.prog 74 [.ptr A 0 N c 0, n v] (σ ++ ν) (fun _ σ' => σ' = riseO σ A G N c R v ++ ν) := by
  have hA := at_lt h.1
  have hG := at_lt (h.2 c hc)
  refine (riseR_spec (σ ++ ν) A N c (G + c) _ (R c) v (by rw [at_appL hA]; exact h.1) (by simp) hc rfl (range_get _ hc) rfl (by rw [at_appL hG]; exact h.2 c hc) (by omega) hl hv hh).mono fun _ σ' e => ?_
  rw [e, upd_appL hG, upd_appL (by rw [upd_length]; exact hA)]
  rfl

/-- What all columns of a sheet show, and their blots. -/
abbrev allO (N : Nat) (cel : Nat → AV) (bs : List Int) : Ob := ⟨110, 2, (List.range N).map fun (j : Nat) => [cel j, bl (decide ((j : Int) ∈ bs))], none⟩
theorem RowR.frame {σ σ' : Sto} {c : AV} {s : List Sp} (h : RowR σ c s) (hs : ∀ g o, σ.at g 0 = some o → o.T = 23 → σ'.at g 0 = some o) : RowR σ' c s := by
  rcases h with h | ⟨q, h1, h2, h3⟩
  · exact .inl h
  · refine .inr ⟨q, h1, h2, ?_⟩
    obtain ⟨l, g⟩ := q
    cases g with
    | none => trivial
    | some g => exact hs g _ h3 rfl
theorem RowR.app {σ : Sto} {c : AV} {s : List Sp} (h : RowR σ c s) (ν : Sto) : RowR (σ ++ ν) c s :=
  h.frame fun g o ho _ => by rw [at_appL (at_lt ho)]; exact ho
theorem RowR.frz {σ : Sto} {c : AV} {s : List Sp} (h : RowR σ c s) : Frz σ c (spS s) := by
  rcases h with ⟨rfl, rfl⟩ | ⟨⟨l, g⟩, rfl, rfl, h3⟩
  · exact Frz.nil
  · cases g with
    | none => exact Frz.eq rfl (pureV_spS _)
    | some g => exact frz_sp' _ h3 rfl

/-- The state of a sheet as it is inked. -/
structure InkS (p : Pp) (N : Nat) (bs : List Int) (σ : Sto) (cel : Nat → AV) (S : Nat → List Sp) : Prop where
  o0 : σ.at 0 0 = some ⟨56, 1, [[.v (.slice none 0 0)]], none⟩
  o1 : σ.at 1 0 = some ⟨85, 10, [p.cs], none⟩
  o2 : σ.at 2 0 = some (allO N cel bs)
  row : ∀ j, j < N → RowR σ (cel j) (S j)
theorem InkS.app {p : Pp} {N : Nat} {bs : List Int} {σ : Sto} {cel : Nat → AV} {S : Nat → List Sp} (h : InkS p N bs σ cel S) (ν : Sto) : InkS p N bs (σ ++ ν) cel S :=
  ⟨by rw [at_appL (at_lt h.o0)]; exact h.o0, by rw [at_appL (at_lt h.o1)]; exact h.o1, by rw [at_appL (at_lt h.o2)]; exact h.o2, fun j hj => (h.row j hj).app ν⟩
theorem InkS.old {p : Pp} {N : Nat} {bs : List Int} {σ σ' : Sto} {cel : Nat → AV} {S : Nat → List Sp} (h : InkS p N bs σ cel S) (hs : ∀ i, i < σ.length → σ'.at i 0 = σ.at i 0) : InkS p N bs σ' cel S :=
  ⟨by rw [hs _ (at_lt h.o0)]; exact h.o0, by rw [hs _ (at_lt h.o1)]; exact h.o1, by rw [hs _ (at_lt h.o2)]; exact h.o2, fun j hj => (h.row j hj).frame fun g o ho _ => by rw [hs _ (at_lt ho)]; exact ho⟩
theorem frz_rows {σ : Sto} {g N : Nat} {c : Nat → AV} {S : Nat → List Sp} (h : σ.at g 0 = some ⟨34, 1, (List.range N).map fun (j : Nat) => [c j], none⟩) (hr : ∀ j, j < N → RowR σ (c j) (S j)) : Frz σ (.own g 0 N) (colS ((List.range N).map S)) := by
  refine Frz.own (o := ⟨34, 1, (List.range N).map fun (j : Nat) => [c j], none⟩) (es := ((List.range N).map S).map fun l => [spS l]) (show (1 : Nat) ≠ 0 by decide) h (by simp) (by simp) (fun e j he hj => ?_) fun e he => ?_
  · rw [range_get _ he, getD_map (x := S e) (by simp [he])]
    match j, hj with
    | 0, _ => exact (hr e he).frz
  · rw [getD_map (x := S e) (by simp [he])]; rfl

/-- A new array of sets, all of them taken up. -/
theorem one_new (τ : Sto) (a c : Option (List Ob)) (o0 : Ob) (N : Nat) (σ1 : Sto) (h : σ1 = Sto.upd (τ ++ [a, some [o0], c]) (List.length τ + 1) 0 ⟨90, 1, rowsO (List.length (τ ++ [a, some [o0], c])) N N, none⟩ ++ List.replicate N (some [spO []])) :
    σ1.length = List.length τ + 3 + N ∧ OneP σ1 (List.length τ + 1) (List.length τ + 3) N (fun _ => []) ∧ σ1.at (List.length τ + 2) 0 = Sto.at [c] 0 0 ∧ ∀ i, i < List.length τ → σ1.at i 0 = τ.at i 0 := by
  have e0 : List.length (τ ++ [a, some [o0], c]) = List.length τ + 3 := by simp
  rw [upd_app, e0] at h
  have e1 : σ1 = τ ++ (a :: some [⟨90, 1, rowsO (List.length τ + 3) N N, none⟩] :: c :: List.replicate N (some [spO []])) := by
    rw [h, upd_consS, upd_cons0]; simp
  subst e1
  refine ⟨by simp; omega, ⟨?_, fun j hj => ?_⟩, ?_, fun i hi => at_appL hi⟩
  · rw [at_app, at_consS, at_cons0]
    simp only [List.getElem?_cons_zero, rowsO]
    exact congrArg (fun z => some (⟨90, 1, z, none⟩ : Ob)) (range_congr fun j hj => by rw [if_pos hj]; rfl)
  · rw [show List.length τ + 3 + j = List.length τ + (j + 1 + 1 + 1) by omega, at_app, at_consS, at_consS, at_consS]
    unfold Sto.at
    simp [hj]
  · rw [at_app, at_consS, at_consS]
    cases c <;> simp [Sto.at]

theorem Ink_spec (p : Pp) (l : List Pt) (bs : List Int) (hll : l.length < 1000000000) (hbl : bs.length < 9223372036854775808) : Pure Try.prog 57 [.agg p.cs, ptS l, inS bs] (.tup [ink (inkE p l bs).1, n (inkE p l bs).2]) := by
  refine Pure.of_body Try.call57 Try.func57 k57 (Nat.le_of_ble_eq_true rfl) ?_
  have h1 := read_spec p l hll
  unfold c57 inkE
  by_cases hg : p.good
  case neg =>
    rw [if_pos hg]
    rw [if_neg hg, orz0 hg] at h1
    (repeat' first
 | (refine AWPC.of_vcn rfl ?_; simp only [zT, zV, zS, zU, vcC, lateX, ex, strp, cnd, binA, kseq, kblk, kret, klp, Abs.one, elems, cells, scalar, eqC, Nat.reduceBEq, Nat.reduceAdd, Nat.reduceSub, Nat.reduceLT, Nat.reduceLeDiff, Nat.reduceMul, Nat.reduceEqDiff, cond_true, cond_false, if_true, if_false, reduceIte, implies_true, forall_const, ne_eq])
 | (simp (disch := omega) only [wr64, Int.zero_sub]; try simp only [zT, zV, zS, zU, vcC, lateX, ex, strp, cnd, binA, kseq, kblk, kret, klp, Abs.one, elems, cells, scalar, eqC, Nat.reduceBEq, Nat.reduceAdd, Nat.reduceSub, Nat.reduceLT, Nat.reduceLeDiff, Nat.reduceMul, Nat.reduceEqDiff, cond_true, cond_false, if_true, if_false, reduceIte, implies_true, forall_const, ne_eq])
 | (refine AWPC.both (fun _ => ?_) (fun _ => ?_))
 | (refine AWPC.imp (fun _ => ?_))
 | ((repeat (refine And.intro (by (intros; first | omega | (simp_all (config := { decide := false }); done) | fail)) ?_)); (first
 | (refine .inl ⟨_, _, _, _, rfl, fun _hc => ⟨by simp, h1⟩, ?_⟩)
 | (refine ⟨_, _, _, _, rfl, fun _hc => ⟨by simp, h1⟩, ?_⟩)
 | fail); (first | refine owp_of_exs ?_ | refine pre_of_exd ?_ | refine pre_of_exe ?_ | fail); simp only [zT, zV, zS, zU, vcC, lateX, ex, strp, cnd, binA, kseq, kblk, kret, klp, Abs.one, elems, cells, scalar, eqC, Nat.reduceBEq, Nat.reduceAdd, Nat.reduceSub, Nat.reduceLT, Nat.reduceLeDiff, Nat.reduceMul, Nat.reduceEqDiff, cond_true, cond_false, if_true, if_false, reduceIte, implies_true, forall_const, ne_eq])
 | ((refine .inl ⟨_, _, _, .any, rfl, fun h => absurd h Bool.false_ne_true, ?_⟩); refine owp_of_exs ?_; simp only [zT, zV, zS, zU, vcC, lateX, ex, strp, cnd, binA, kseq, kblk, kret, klp, Abs.one, elems, cells, scalar, eqC, Nat.reduceBEq, Nat.reduceAdd, Nat.reduceSub, Nat.reduceLT, Nat.reduceLeDiff, Nat.reduceMul, Nat.reduceEqDiff, cond_true, cond_false, if_true, if_false, reduceIte, implies_true, forall_const, ne_eq])
 | (refine ⟨by omega, ?_⟩)
 | (refine And.intro (by (intros; first | (simp_all (config := { decide := false }); done) | fail)) ?_)
 | fail)
    all_goals try (exfalso; omega)
    exact frz_ink0 _
  rw [if_neg (fun h => h hg)]
  rw [if_pos hg, orz1 hg] at h1
  by_cases ht : (traceErr l).1 ≠ 0
  · rw [if_pos ht]
    (repeat' first
 | (refine AWPC.of_vcn rfl ?_; simp only [zT, zV, zS, zU, vcC, lateX, ex, strp, cnd, binA, kseq, kblk, kret, klp, Abs.one, elems, cells, scalar, eqC, Nat.reduceBEq, Nat.reduceAdd, Nat.reduceSub, Nat.reduceLT, Nat.reduceLeDiff, Nat.reduceMul, Nat.reduceEqDiff, cond_true, cond_false, if_true, if_false, reduceIte, implies_true, forall_const, ne_eq])
 | (simp (disch := omega) only [wr64, Int.zero_sub]; try simp only [zT, zV, zS, zU, vcC, lateX, ex, strp, cnd, binA, kseq, kblk, kret, klp, Abs.one, elems, cells, scalar, eqC, Nat.reduceBEq, Nat.reduceAdd, Nat.reduceSub, Nat.reduceLT, Nat.reduceLeDiff, Nat.reduceMul, Nat.reduceEqDiff, cond_true, cond_false, if_true, if_false, reduceIte, implies_true, forall_const, ne_eq])
 | (refine AWPC.both (fun _ => ?_) (fun _ => ?_))
 | (refine AWPC.imp (fun _ => ?_))
 | ((repeat (refine And.intro (by (intros; first | omega | (simp_all (config := { decide := false }); done) | fail)) ?_)); (first
 | (refine .inl ⟨_, _, _, _, rfl, fun _hc => ⟨by simp, h1⟩, ?_⟩)
 | (refine ⟨_, _, _, _, rfl, fun _hc => ⟨by simp, h1⟩, ?_⟩)
 | fail); (first | refine owp_of_exs ?_ | refine pre_of_exd ?_ | refine pre_of_exe ?_ | fail); simp only [zT, zV, zS, zU, vcC, lateX, ex, strp, cnd, binA, kseq, kblk, kret, klp, Abs.one, elems, cells, scalar, eqC, Nat.reduceBEq, Nat.reduceAdd, Nat.reduceSub, Nat.reduceLT, Nat.reduceLeDiff, Nat.reduceMul, Nat.reduceEqDiff, cond_true, cond_false, if_true, if_false, reduceIte, implies_true, forall_const, ne_eq])
 | ((refine .inl ⟨_, _, _, .any, rfl, fun h => absurd h Bool.false_ne_true, ?_⟩); refine owp_of_exs ?_; simp only [zT, zV, zS, zU, vcC, lateX, ex, strp, cnd, binA, kseq, kblk, kret, klp, Abs.one, elems, cells, scalar, eqC, Nat.reduceBEq, Nat.reduceAdd, Nat.reduceSub, Nat.reduceLT, Nat.reduceLeDiff, Nat.reduceMul, Nat.reduceEqDiff, cond_true, cond_false, if_true, if_false, reduceIte, implies_true, forall_const, ne_eq])
 | (refine ⟨by omega, ?_⟩)
 | (refine And.intro (by (intros; first | (simp_all (config := { decide := false }); done) | fail)) ?_)
 | fail)
    · exact frz_ink0 _
    · exfalso; omega
  rw [if_neg ht]
  have hg' := hg
  obtain ⟨g1, g2, g3, g4, g5, g6, g7, g8, g9, g10, g11, g12, g13⟩ := hg'
  obtain ⟨N, hN⟩ : ∃ N : Nat, p.co = N := ⟨p.co.toNat, by omega⟩
  have hNt : p.co.toNat = N := by omega
  have hok : ∀ t ∈ l, t.right := (trace_ok (by omega)).2
  have hl2 : l.length ≤ 2000 := (trace_ok (by omega)).1
  obtain ⟨pre, hpre⟩ : ∃ pre : Nat → List Int, ∀ i, pre i = bs.take i := ⟨_, fun _ => rfl⟩
  have hbase : List.replicate p.co.toNat [AV.v (.slice none 0 0), bl false] = (List.range N).map fun (j : Nat) => [AV.v (.slice none 0 0), bl (decide ((j : Int) ∈ pre 0))] := by
    rw [hNt, range_rep, hpre]; simp
  have hw : IntKind.i64.wrap (p.co - 1) = p.co - 1 := wr64 _ (by omega) (by omega)
  (repeat' first
 | (refine AWPC.of_vcn rfl ?_; simp only [zT, zV, zS, zU, vcC, lateX, ex, strp, cnd, binA, kseq, kblk, kret, klp, Abs.one, elems, cells, scalar, eqC, Nat.reduceBEq, Nat.reduceAdd, Nat.reduceSub, Nat.reduceLT, Nat.reduceLeDiff, Nat.reduceMul, Nat.reduceEqDiff, cond_true, cond_false, if_true, if_false, reduceIte, implies_true, forall_const, ne_eq])
 | (simp (disch := omega) only [wr64, Int.zero_sub]; try simp only [zT, zV, zS, zU, vcC, lateX, ex, strp, cnd, binA, kseq, kblk, kret, klp, Abs.one, elems, cells, scalar, eqC, Nat.reduceBEq, Nat.reduceAdd, Nat.reduceSub, Nat.reduceLT, Nat.reduceLeDiff, Nat.reduceMul, Nat.reduceEqDiff, cond_true, cond_false, if_true, if_false, reduceIte, implies_true, forall_const, ne_eq])
 | (refine AWPC.both (fun _ => ?_) (fun _ => ?_))
 | (refine AWPC.imp (fun _ => ?_))
 | ((repeat (refine And.intro (by (intros; first | omega | (simp_all (config := { decide := false }); done) | fail)) ?_)); (first
 | (refine .inl ⟨_, _, _, _, rfl, fun _hc => ⟨by simp, h1⟩, ?_⟩)
 | (refine ⟨_, _, _, _, rfl, fun _hc => ⟨by simp, h1⟩, ?_⟩)
 | fail); (first | refine owp_of_exs ?_ | refine pre_of_exd ?_ | refine pre_of_exe ?_ | fail); simp only [zT, zV, zS, zU, vcC, lateX, ex, strp, cnd, binA, kseq, kblk, kret, klp, Abs.one, elems, cells, scalar, eqC, Nat.reduceBEq, Nat.reduceAdd, Nat.reduceSub, Nat.reduceLT, Nat.reduceLeDiff, Nat.reduceMul, Nat.reduceEqDiff, cond_true, cond_false, if_true, if_false, reduceIte, implies_true, forall_const, ne_eq])
 | ((refine .inl ⟨_, _, _, .any, rfl, fun h => absurd h Bool.false_ne_true, ?_⟩); refine owp_of_exs ?_; simp only [zT, zV, zS, zU, vcC, lateX, ex, strp, cnd, binA, kseq, kblk, kret, klp, Abs.one, elems, cells, scalar, eqC, Nat.reduceBEq, Nat.reduceAdd, Nat.reduceSub, Nat.reduceLT, Nat.reduceLeDiff, Nat.reduceMul, Nat.reduceEqDiff, cond_true, cond_false, if_true, if_false, reduceIte, implies_true, forall_const, ne_eq])
 | (refine ⟨by omega, ?_⟩)
 | (refine And.intro (by (intros; first | (simp_all (config := { decide := false }); done) | fail)) ?_)
 | fail)
  all_goals try (exfalso; omega)
  refine AWPC.loopE (α := { i : Nat // i ≤ bs.length ∧ bOK p.co (bs.take i) }) [38] (fun i => [(38, n i.1)]) (fun i => [some [⟨56, 1, [[.v (.slice none 0 0)]], none⟩], some [⟨85, 10, [p.cs], none⟩], some [allO N (fun _ => .v (.slice none 0 0)) (pre i.1)]]) (fun i => bs.length - i.1) ⟨0, Nat.zero_le _, by simp [bOK]⟩ ?_ (by rw [hbase]) ?_
  · (simp only [zT, zV, zS, zU, vcC, lateX, ex, strp, cnd, binA, kseq, kblk, kret, klp, Abs.one, elems, cells, scalar, eqC, Nat.reduceBEq, Nat.reduceAdd, Nat.reduceSub, Nat.reduceLT, Nat.reduceLeDiff, Nat.reduceMul, Nat.reduceEqDiff, cond_true, cond_false, if_true, if_false, reduceIte, implies_true, forall_const, ne_eq]; try simp)
  rintro ⟨i, hi, hbi⟩
  by_cases hlt : i < bs.length
  · obtain ⟨b, hb⟩ : ∃ b, bs[i]? = some b := ⟨_, List.getElem?_eq_getElem hlt⟩
    have hbg := getD_map (f := fun z => [n z]) (d := []) hb
    by_cases hin : 0 ≤ b ∧ b < N
    · have hst : ((List.range N).map fun (j : Nat) => [AV.v (.slice none 0 0), bl (decide ((j : Int) ∈ pre i))]).set b.toNat [.v (.slice none 0 0), bl true] = (List.range N).map fun (j : Nat) => [AV.v (.slice none 0 0), bl (decide ((j : Int) ∈ pre (i + 1)))] := by
        rw [range_set, hpre (i + 1), List.take_add_one, hb, ← hpre]
        refine range_congr fun j hj => ?_
        simp only [List.mem_append, Option.toList, List.mem_singleton]
        by_cases hj : j = b.toNat
        · rw [if_pos hj, decide_eq_true]; right; omega
        · rw [if_neg hj]
          have : (j : Int) ≠ b := by omega
          simp [this]
      have hget : ((List.range N).map fun (j : Nat) => [AV.v (.slice none 0 0), bl (decide ((j : Int) ∈ pre i))]).getD b.toNat [] = [.v (.slice none 0 0), bl (decide (b ∈ pre i))] := by
        rw [range_get _ (by omega)]
        rw [show ((b.toNat : Nat) : Int) = b by omega]
      cases i with
      | zero =>
        have hn := bOK_1 (N := p.co) hb
        have hz : (-1 : Int).toNat = 0 := rfl
        (repeat' first
 | (refine AWPC.of_vcn rfl ?_; simp only [zT, zV, zS, zU, vcC, lateX, ex, strp, cnd, binA, kseq, kblk, kret, klp, Abs.one, elems, cells, scalar, eqC, Nat.reduceBEq, Nat.reduceAdd, Nat.reduceSub, Nat.reduceLT, Nat.reduceLeDiff, Nat.reduceMul, Nat.reduceEqDiff, cond_true, cond_false, if_true, if_false, reduceIte, implies_true, forall_const, ne_eq, hbg, hz, hNt, hw, hst, hget, List.length_range])
 | (simp (disch := omega) only [wr64, Int.zero_sub]; try simp only [zT, zV, zS, zU, vcC, lateX, ex, strp, cnd, binA, kseq, kblk, kret, klp, Abs.one, elems, cells, scalar, eqC, Nat.reduceBEq, Nat.reduceAdd, Nat.reduceSub, Nat.reduceLT, Nat.reduceLeDiff, Nat.reduceMul, Nat.reduceEqDiff, cond_true, cond_false, if_true, if_false, reduceIte, implies_true, forall_const, ne_eq, hbg, hz, hNt, hw, hst, hget, List.length_range])
 | (refine AWPC.both (fun _ => ?_) (fun _ => ?_))
 | (refine AWPC.imp (fun _ => ?_))
 | ((repeat (refine And.intro (by (intros; first | omega | (simp_all (config := { decide := false }); done) | fail)) ?_)); (first
 | (refine .inl ⟨_, _, _, _, rfl, fun _hc => ⟨by simp, within_spec _ _ _⟩, ?_⟩)
 | (refine ⟨_, _, _, _, rfl, fun _hc => ⟨by simp, within_spec _ _ _⟩, ?_⟩)
 | fail); (first | refine owp_of_exs ?_ | refine pre_of_exd ?_ | refine pre_of_exe ?_ | fail); simp only [zT, zV, zS, zU, vcC, lateX, ex, strp, cnd, binA, kseq, kblk, kret, klp, Abs.one, elems, cells, scalar, eqC, Nat.reduceBEq, Nat.reduceAdd, Nat.reduceSub, Nat.reduceLT, Nat.reduceLeDiff, Nat.reduceMul, Nat.reduceEqDiff, cond_true, cond_false, if_true, if_false, reduceIte, implies_true, forall_const, ne_eq, hbg, hz, hNt, hw, hst, hget, List.length_range])
 | ((refine .inl ⟨_, _, _, .any, rfl, fun h => absurd h Bool.false_ne_true, ?_⟩); refine owp_of_exs ?_; simp only [zT, zV, zS, zU, vcC, lateX, ex, strp, cnd, binA, kseq, kblk, kret, klp, Abs.one, elems, cells, scalar, eqC, Nat.reduceBEq, Nat.reduceAdd, Nat.reduceSub, Nat.reduceLT, Nat.reduceLeDiff, Nat.reduceMul, Nat.reduceEqDiff, cond_true, cond_false, if_true, if_false, reduceIte, implies_true, forall_const, ne_eq, hbg, hz, hNt, hw, hst, hget, List.length_range])
 | (refine ⟨by omega, ?_⟩)
 | (refine And.intro (by (intros; first | (simp_all (config := { decide := false }); done) | fail)) ?_)
 | fail)
        all_goals try (exfalso; omega)
        rename_i h
        exact ⟨⟨1, hlt, hn.2 (by omega)⟩, by simp, rfl, by simp only; omega⟩
      | succ i =>
        obtain ⟨u, hu⟩ : ∃ u, bs[i]? = some u := ⟨_, List.getElem?_eq_getElem (by omega)⟩
        have hug := getD_map (f := fun z => [n z]) (d := []) hu
        have hn := bOK_next hu hb hbi
        have hw2 : IntKind.i64.wrap (((i + 1 : Nat) : Int) - 1) = (i : Int) := by rw [wr64 _ (by omega) (by omega)]; omega
        (repeat' first
 | (refine AWPC.of_vcn rfl ?_; simp only [zT, zV, zS, zU, vcC, lateX, ex, strp, cnd, binA, kseq, kblk, kret, klp, Abs.one, elems, cells, scalar, eqC, Nat.reduceBEq, Nat.reduceAdd, Nat.reduceSub, Nat.reduceLT, Nat.reduceLeDiff, Nat.reduceMul, Nat.reduceEqDiff, cond_true, cond_false, if_true, if_false, reduceIte, implies_true, forall_const, ne_eq, hbg, hug, hw2, hNt, hw, hst, hget, List.length_range])
 | (simp (disch := omega) only [wr64, Int.zero_sub]; try simp only [zT, zV, zS, zU, vcC, lateX, ex, strp, cnd, binA, kseq, kblk, kret, klp, Abs.one, elems, cells, scalar, eqC, Nat.reduceBEq, Nat.reduceAdd, Nat.reduceSub, Nat.reduceLT, Nat.reduceLeDiff, Nat.reduceMul, Nat.reduceEqDiff, cond_true, cond_false, if_true, if_false, reduceIte, implies_true, forall_const, ne_eq, hbg, hug, hw2, hNt, hw, hst, hget, List.length_range])
 | (refine AWPC.both (fun _ => ?_) (fun _ => ?_))
 | (refine AWPC.imp (fun _ => ?_))
 | ((repeat (refine And.intro (by (intros; first | omega | (simp_all (config := { decide := false }); done) | fail)) ?_)); (first
 | (refine .inl ⟨_, _, _, _, rfl, fun _hc => ⟨by simp, within_spec _ _ _⟩, ?_⟩)
 | (refine ⟨_, _, _, _, rfl, fun _hc => ⟨by simp, within_spec _ _ _⟩, ?_⟩)
 | fail); (first | refine owp_of_exs ?_ | refine pre_of_exd ?_ | refine pre_of_exe ?_ | fail); simp only [zT, zV, zS, zU, vcC, lateX, ex, strp, cnd, binA, kseq, kblk, kret, klp, Abs.one, elems, cells, scalar, eqC, Nat.reduceBEq, Nat.reduceAdd, Nat.reduceSub, Nat.reduceLT, Nat.reduceLeDiff, Nat.reduceMul, Nat.reduceEqDiff, cond_true, cond_false, if_true, if_false, reduceIte, implies_true, forall_const, ne_eq, hbg, hug, hw2, hNt, hw, hst, hget, List.length_range])
 | ((refine .inl ⟨_, _, _, .any, rfl, fun h => absurd h Bool.false_ne_true, ?_⟩); refine owp_of_exs ?_; simp only [zT, zV, zS, zU, vcC, lateX, ex, strp, cnd, binA, kseq, kblk, kret, klp, Abs.one, elems, cells, scalar, eqC, Nat.reduceBEq, Nat.reduceAdd, Nat.reduceSub, Nat.reduceLT, Nat.reduceLeDiff, Nat.reduceMul, Nat.reduceEqDiff, cond_true, cond_false, if_true, if_false, reduceIte, implies_true, forall_const, ne_eq, hbg, hug, hw2, hNt, hw, hst, hget, List.length_range])
 | (refine ⟨by omega, ?_⟩)
 | (refine And.intro (by (intros; first | (simp_all (config := { decide := false }); done) | fail)) ?_)
 | fail)
        all_goals try (exfalso; omega)
        · rename_i h
          rw [tr_0 (fun g => ?_)]
          · exact frz_ink0 _
          · have := hn.1 (bOK_take g (i + 2)); omega
        · rename_i h
          exact ⟨⟨i + 2, hlt, hn.2 (by omega)⟩, by simp; omega, rfl, by simp only; omega⟩
    · have hno : ¬ bOK p.co bs := fun g => hin (by have := g.1 b (List.mem_of_getElem? hb); omega)
      rw [tr_0 hno]
      cases i with
      | zero =>
        have hz : (-1 : Int).toNat = 0 := rfl
        (repeat' first
 | (refine AWPC.of_vcn rfl ?_; simp only [zT, zV, zS, zU, vcC, lateX, ex, strp, cnd, binA, kseq, kblk, kret, klp, Abs.one, elems, cells, scalar, eqC, Nat.reduceBEq, Nat.reduceAdd, Nat.reduceSub, Nat.reduceLT, Nat.reduceLeDiff, Nat.reduceMul, Nat.reduceEqDiff, cond_true, cond_false, if_true, if_false, reduceIte, implies_true, forall_const, ne_eq, hbg, hz, hNt, hw])
 | (simp (disch := omega) only [wr64, Int.zero_sub]; try simp only [zT, zV, zS, zU, vcC, lateX, ex, strp, cnd, binA, kseq, kblk, kret, klp, Abs.one, elems, cells, scalar, eqC, Nat.reduceBEq, Nat.reduceAdd, Nat.reduceSub, Nat.reduceLT, Nat.reduceLeDiff, Nat.reduceMul, Nat.reduceEqDiff, cond_true, cond_false, if_true, if_false, reduceIte, implies_true, forall_const, ne_eq, hbg, hz, hNt, hw])
 | (refine AWPC.both (fun _ => ?_) (fun _ => ?_))
 | (refine AWPC.imp (fun _ => ?_))
 | ((repeat (refine And.intro (by (intros; first | omega | (simp_all (config := { decide := false }); done) | fail)) ?_)); (first
 | (refine .inl ⟨_, _, _, _, rfl, fun _hc => ⟨by simp, within_spec _ _ _⟩, ?_⟩)
 | (refine ⟨_, _, _, _, rfl, fun _hc => ⟨by simp, within_spec _ _ _⟩, ?_⟩)
 | fail); (first | refine owp_of_exs ?_ | refine pre_of_exd ?_ | refine pre_of_exe ?_ | fail); simp only [zT, zV, zS, zU, vcC, lateX, ex, strp, cnd, binA, kseq, kblk, kret, klp, Abs.one, elems, cells, scalar, eqC, Nat.reduceBEq, Nat.reduceAdd, Nat.reduceSub, Nat.reduceLT, Nat.reduceLeDiff, Nat.reduceMul, Nat.reduceEqDiff, cond_true, cond_false, if_true, if_false, reduceIte, implies_true, forall_const, ne_eq, hbg, hz, hNt, hw])
 | ((refine .inl ⟨_, _, _, .any, rfl, fun h => absurd h Bool.false_ne_true, ?_⟩); refine owp_of_exs ?_; simp only [zT, zV, zS, zU, vcC, lateX, ex, strp, cnd, binA, kseq, kblk, kret, klp, Abs.one, elems, cells, scalar, eqC, Nat.reduceBEq, Nat.reduceAdd, Nat.reduceSub, Nat.reduceLT, Nat.reduceLeDiff, Nat.reduceMul, Nat.reduceEqDiff, cond_true, cond_false, if_true, if_false, reduceIte, implies_true, forall_const, ne_eq, hbg, hz, hNt, hw])
 | (refine ⟨by omega, ?_⟩)
 | (refine And.intro (by (intros; first | (simp_all (config := { decide := false }); done) | fail)) ?_)
 | fail)
        all_goals try (exfalso; omega)
        exact frz_ink0 _
      | succ i =>
        obtain ⟨u, hu⟩ : ∃ u, bs[i]? = some u := ⟨_, List.getElem?_eq_getElem (by omega)⟩
        have hug := getD_map (f := fun z => [n z]) (d := []) hu
        have hw2 : IntKind.i64.wrap (((i + 1 : Nat) : Int) - 1) = (i : Int) := by rw [wr64 _ (by omega) (by omega)]; omega
        (repeat' first
 | (refine AWPC.of_vcn rfl ?_; simp only [zT, zV, zS, zU, vcC, lateX, ex, strp, cnd, binA, kseq, kblk, kret, klp, Abs.one, elems, cells, scalar, eqC, Nat.reduceBEq, Nat.reduceAdd, Nat.reduceSub, Nat.reduceLT, Nat.reduceLeDiff, Nat.reduceMul, Nat.reduceEqDiff, cond_true, cond_false, if_true, if_false, reduceIte, implies_true, forall_const, ne_eq, hbg, hug, hw2, hNt, hw])
 | (simp (disch := omega) only [wr64, Int.zero_sub]; try simp only [zT, zV, zS, zU, vcC, lateX, ex, strp, cnd, binA, kseq, kblk, kret, klp, Abs.one, elems, cells, scalar, eqC, Nat.reduceBEq, Nat.reduceAdd, Nat.reduceSub, Nat.reduceLT, Nat.reduceLeDiff, Nat.reduceMul, Nat.reduceEqDiff, cond_true, cond_false, if_true, if_false, reduceIte, implies_true, forall_const, ne_eq, hbg, hug, hw2, hNt, hw])
 | (refine AWPC.both (fun _ => ?_) (fun _ => ?_))
 | (refine AWPC.imp (fun _ => ?_))
 | ((repeat (refine And.intro (by (intros; first | omega | (simp_all (config := { decide := false }); done) | fail)) ?_)); (first
 | (refine .inl ⟨_, _, _, _, rfl, fun _hc => ⟨by simp, within_spec _ _ _⟩, ?_⟩)
 | (refine ⟨_, _, _, _, rfl, fun _hc => ⟨by simp, within_spec _ _ _⟩, ?_⟩)
 | fail); (first | refine owp_of_exs ?_ | refine pre_of_exd ?_ | refine pre_of_exe ?_ | fail); simp only [zT, zV, zS, zU, vcC, lateX, ex, strp, cnd, binA, kseq, kblk, kret, klp, Abs.one, elems, cells, scalar, eqC, Nat.reduceBEq, Nat.reduceAdd, Nat.reduceSub, Nat.reduceLT, Nat.reduceLeDiff, Nat.reduceMul, Nat.reduceEqDiff, cond_true, cond_false, if_true, if_false, reduceIte, implies_true, forall_const, ne_eq, hbg, hug, hw2, hNt, hw])
 | ((refine .inl ⟨_, _, _, .any, rfl, fun h => absurd h Bool.false_ne_true, ?_⟩); refine owp_of_exs ?_; simp only [zT, zV, zS, zU, vcC, lateX, ex, strp, cnd, binA, kseq, kblk, kret, klp, Abs.one, elems, cells, scalar, eqC, Nat.reduceBEq, Nat.reduceAdd, Nat.reduceSub, Nat.reduceLT, Nat.reduceLeDiff, Nat.reduceMul, Nat.reduceEqDiff, cond_true, cond_false, if_true, if_false, reduceIte, implies_true, forall_const, ne_eq, hbg, hug, hw2, hNt, hw])
 | (refine ⟨by omega, ?_⟩)
 | (refine And.intro (by (intros; first | (simp_all (config := { decide := false }); done) | fail)) ?_)
 | fail)
        all_goals try (exfalso; omega)
        exact frz_ink0 _
  · obtain rfl : i = bs.length := by omega
    have hbi' := hbi
    rw [List.take_length] at hbi'
    rw [tr_1 hbi']
    simp only [Bool.true_eq_false, if_false]
    have hpe : pre bs.length = bs := by rw [hpre, List.take_length]
    (repeat' first
 | (refine AWPC.of_vcn rfl ?_; simp only [zT, zV, zS, zU, vcC, lateX, ex, strp, cnd, binA, kseq, kblk, kret, klp, Abs.one, elems, cells, scalar, eqC, Nat.reduceBEq, Nat.reduceAdd, Nat.reduceSub, Nat.reduceLT, Nat.reduceLeDiff, Nat.reduceMul, Nat.reduceEqDiff, cond_true, cond_false, if_true, if_false, reduceIte, implies_true, forall_const, ne_eq, hNt, hpe])
 | (simp (disch := omega) only [wr64, Int.zero_sub]; try simp only [zT, zV, zS, zU, vcC, lateX, ex, strp, cnd, binA, kseq, kblk, kret, klp, Abs.one, elems, cells, scalar, eqC, Nat.reduceBEq, Nat.reduceAdd, Nat.reduceSub, Nat.reduceLT, Nat.reduceLeDiff, Nat.reduceMul, Nat.reduceEqDiff, cond_true, cond_false, if_true, if_false, reduceIte, implies_true, forall_const, ne_eq, hNt, hpe])
 | (refine AWPC.both (fun _ => ?_) (fun _ => ?_))
 | (refine AWPC.imp (fun _ => ?_))
 | ((refine .inl ⟨_, _, _, .any, rfl, fun h => absurd h Bool.false_ne_true, ?_⟩); refine owp_of_exs ?_; simp only [zT, zV, zS, zU, vcC, lateX, ex, strp, cnd, binA, kseq, kblk, kret, klp, Abs.one, elems, cells, scalar, eqC, Nat.reduceBEq, Nat.reduceAdd, Nat.reduceSub, Nat.reduceLT, Nat.reduceLeDiff, Nat.reduceMul, Nat.reduceEqDiff, cond_true, cond_false, if_true, if_false, reduceIte, implies_true, forall_const, ne_eq, hNt, hpe])
 | (refine ⟨by omega, ?_⟩)
 | (refine And.intro (by (intros; first | (simp_all (config := { decide := false }); done) | fail)) ?_)
 | fail)
    all_goals try (exfalso; omega)
    refine AWPC.loopE (α := { q : Nat × Sto × (Nat → AV) // q.1 ≤ l.length ∧ InkS p N bs q.2.1 q.2.2 (fun j => inkC p (l.take q.1) j) }) [70, 16, 17, 18, 80, 81, 82, 83, 84, 85, 86, 87, 88, 89, 90, 91, 93, 94, 95, 96, 97, 98, 99, 100] (fun q => [(70, n q.1.1)]) (fun q => q.1.2.1) (fun q => l.length - q.1.1)
      ⟨(0, _, fun _ => .v (.slice none 0 0)), Nat.zero_le _, ⟨rfl, rfl, rfl, fun j hj => .inl ⟨rfl, rfl⟩⟩⟩ ?_ rfl ?_
    · (simp only [zT, zV, zS, zU, vcC, lateX, ex, strp, cnd, binA, kseq, kblk, kret, klp, Abs.one, elems, cells, scalar, eqC, Nat.reduceBEq, Nat.reduceAdd, Nat.reduceSub, Nat.reduceLT, Nat.reduceLeDiff, Nat.reduceMul, Nat.reduceEqDiff, cond_true, cond_false, if_true, if_false, reduceIte, implies_true, forall_const, ne_eq]; try simp)
    rintro ⟨⟨i, τ, cel⟩, hi2, hS⟩
    simp only at hi2 hS
    simp only
    have l0 := at_lt hS.o0
    have l1 := at_lt hS.o1
    have l2 := at_lt hS.o2
    have s1 := hS.o1
    by_cases hlt2 : i < l.length
    · obtain ⟨t, hti⟩ : ∃ t, l[i]? = some t := ⟨_, List.getElem?_eq_getElem hlt2⟩
      have htr := hok t (List.mem_of_getElem? hti)
      have a1 : ∀ ν, Sto.at (τ ++ ν) 1 0 = some ⟨85, 10, [p.cs], none⟩ := fun ν => by rw [at_appL l1]; exact s1
      (repeat' first
 | (refine AWPC.of_vcn rfl ?_; simp only [zT, zV, zS, zU, vcC, lateX, ex, strp, cnd, binA, kseq, kblk, kret, klp, Abs.one, elems, cells, scalar, eqC, Nat.reduceBEq, Nat.reduceAdd, Nat.reduceSub, Nat.reduceLT, Nat.reduceLeDiff, Nat.reduceMul, Nat.reduceEqDiff, cond_true, cond_false, if_true, if_false, reduceIte, implies_true, forall_const, ne_eq, hNt, getD_map hti, a1])
 | (simp (disch := omega) only [wr64, Int.zero_sub]; try simp only [zT, zV, zS, zU, vcC, lateX, ex, strp, cnd, binA, kseq, kblk, kret, klp, Abs.one, elems, cells, scalar, eqC, Nat.reduceBEq, Nat.reduceAdd, Nat.reduceSub, Nat.reduceLT, Nat.reduceLeDiff, Nat.reduceMul, Nat.reduceEqDiff, cond_true, cond_false, if_true, if_false, reduceIte, implies_true, forall_const, ne_eq, hNt, getD_map hti, a1])
 | (refine AWPC.both (fun _ => ?_) (fun _ => ?_))
 | (refine AWPC.imp (fun _ => ?_))
 | ((repeat (refine And.intro (by (intros; first | omega | (simp_all (config := { decide := false }); done) | fail)) ?_)); (first
 | (refine .inl ⟨_, _, _, _, rfl, fun _hc => ⟨by simp, line_spec p t⟩, ?_⟩)
 | (refine ⟨_, _, _, _, rfl, fun _hc => ⟨by simp, line_spec p t⟩, ?_⟩)
 | fail); (first | refine owp_of_exs ?_ | refine pre_of_exd ?_ | refine pre_of_exe ?_ | fail); simp only [zT, zV, zS, zU, vcC, lateX, ex, strp, cnd, binA, kseq, kblk, kret, klp, Abs.one, elems, cells, scalar, eqC, Nat.reduceBEq, Nat.reduceAdd, Nat.reduceSub, Nat.reduceLT, Nat.reduceLeDiff, Nat.reduceMul, Nat.reduceEqDiff, cond_true, cond_false, if_true, if_false, reduceIte, implies_true, forall_const, ne_eq, hNt, getD_map hti, a1])
 | ((refine .inl ⟨_, _, _, .any, rfl, fun h => absurd h Bool.false_ne_true, ?_⟩); refine owp_of_exs ?_; simp only [zT, zV, zS, zU, vcC, lateX, ex, strp, cnd, binA, kseq, kblk, kret, klp, Abs.one, elems, cells, scalar, eqC, Nat.reduceBEq, Nat.reduceAdd, Nat.reduceSub, Nat.reduceLT, Nat.reduceLeDiff, Nat.reduceMul, Nat.reduceEqDiff, cond_true, cond_false, if_true, if_false, reduceIte, implies_true, forall_const, ne_eq, hNt, getD_map hti, a1])
 | (refine ⟨by omega, ?_⟩)
 | (refine And.intro (by (intros; first | (simp_all (config := { decide := false }); done) | fail)) ?_)
 | fail)
      all_goals try (exfalso; omega)
      refine AWPC.ownRows (A := List.length τ + 1) (T := 90) (N := N) (by rw [at_app]; rfl) ?_
      generalize hσ1 : Sto.upd (τ ++ _) (List.length τ + 1) 0 _ ++ List.replicate N (some [spO []]) = σ1
      obtain ⟨n1, n2, n3, n4⟩ := one_new τ _ _ _ N σ1 hσ1.symm
      clear hσ1
      refine AWPC.rng (fun x : { σ : Sto // σ.length = List.length τ + 3 + N } => x.1) (List.length τ + 3 + N) (fun x => x.2)
        (fun k x => OneP x.1 (List.length τ + 1) (List.length τ + 3) N (fun j => p.ms t j k) ∧ x.1.at (List.length τ + 2) 0 = some ⟨111, 1, [[.own (List.length τ + 1) 0 N]], none⟩ ∧ ∀ i, i < List.length τ → x.1.at i 0 = τ.at i 0)
        (fun _ _ => False) (p.tr t) ⟨σ1, n1⟩ rfl rfl ⟨n2, n3, n4⟩ (line_iter p t hg htr) (fun k args h => ?_) (fun k x args ll ρ μ hk hx => ?_) (fun x μ hx => ?_) (fun _ _ _ h => h.elim)
      · have hk : k < p.cnt t := by have := (List.getElem?_eq_some_iff.1 h).1; simpa [Pp.tr] using this
        rw [tr_get p t hk] at h; injection h with h; subst h; rfl
      · obtain ⟨x, hxl⟩ := x
        simp only at hx ⊢
        obtain ⟨x1, x2, x3⟩ := hx
        have hk2 : k < p.cnt t := by have := (List.getElem?_eq_some_iff.1 hk).1; simpa [Pp.tr] using this
        rw [tr_get p t hk2] at hk; injection hk with hk; subst hk
        have hhb := heights_bd p t hg htr
        have hcnt : (p.heights t).lo + k ≤ (p.heights t).hi := by unfold Pp.cnt at hk2; omega
        have hms : ∀ j : Nat, p.ms t j (k + 1) = if ((p.along t).lo - p.arc ((p.heights t).lo + k)) / p.pi ≤ j ∧ j ≤ ((p.along t).hi - p.arc ((p.heights t).lo + k)) / p.pi then rise (p.ms t j k) (p.level ((p.heights t).lo + k)) else p.ms t j k := fun j => rfl
        have hlv := level_spec p ((p.heights t).lo + k) hg (by omega) (by omega)
        have hlb := level_bd p ((p.heights t).lo + k) hg (by omega) (by omega)
        have hmi := fun j : Nat => ms_inv p t j hg hhb.1 hhb.2.2.2 k (by omega)
        unfold Pp.row
        simp only [par]
        generalize ((p.along t).lo - p.arc ((p.heights t).lo + k)) / p.pi = lo at *
        generalize ((p.along t).hi - p.arc ((p.heights t).lo + k)) / p.pi = hi' at *
        generalize p.level ((p.heights t).lo + k) = v at *
        (repeat' first
 | (refine AWPC.of_vcn rfl ?_; simp only [zT, zV, zS, zU, vcC, lateX, ex, strp, cnd, binA, kseq, kblk, kret, klp, Abs.one, elems, cells, scalar, eqC, Nat.reduceBEq, Nat.reduceAdd, Nat.reduceSub, Nat.reduceLT, Nat.reduceLeDiff, Nat.reduceMul, Nat.reduceEqDiff, cond_true, cond_false, if_true, if_false, reduceIte, implies_true, forall_const, ne_eq])
 | (simp (disch := omega) only [wr64, Int.zero_sub]; try simp only [zT, zV, zS, zU, vcC, lateX, ex, strp, cnd, binA, kseq, kblk, kret, klp, Abs.one, elems, cells, scalar, eqC, Nat.reduceBEq, Nat.reduceAdd, Nat.reduceSub, Nat.reduceLT, Nat.reduceLeDiff, Nat.reduceMul, Nat.reduceEqDiff, cond_true, cond_false, if_true, if_false, reduceIte, implies_true, forall_const, ne_eq])
 | (refine AWPC.both (fun _ => ?_) (fun _ => ?_))
 | (refine AWPC.imp (fun _ => ?_))
 | ((refine .inl ⟨_, _, _, .any, rfl, fun h => absurd h Bool.false_ne_true, ?_⟩); refine owp_of_exs ?_; simp only [zT, zV, zS, zU, vcC, lateX, ex, strp, cnd, binA, kseq, kblk, kret, klp, Abs.one, elems, cells, scalar, eqC, Nat.reduceBEq, Nat.reduceAdd, Nat.reduceSub, Nat.reduceLT, Nat.reduceLeDiff, Nat.reduceMul, Nat.reduceEqDiff, cond_true, cond_false, if_true, if_false, reduceIte, implies_true, forall_const, ne_eq])
 | (refine ⟨by omega, ?_⟩)
 | (refine And.intro (by (intros; first | (simp_all (config := { decide := false }); done) | fail)) ?_)
 | fail)
        refine ⟨⟨x, hxl⟩, _, rfl, fun ρ' => ?_⟩
        (repeat' first
 | (refine AWPC.of_vcn rfl ?_; simp only [zT, zV, zS, zU, vcC, lateX, ex, strp, cnd, binA, kseq, kblk, kret, klp, Abs.one, elems, cells, scalar, eqC, Nat.reduceBEq, Nat.reduceAdd, Nat.reduceSub, Nat.reduceLT, Nat.reduceLeDiff, Nat.reduceMul, Nat.reduceEqDiff, cond_true, cond_false, if_true, if_false, reduceIte, implies_true, forall_const, ne_eq])
 | (simp (disch := omega) only [wr64, Int.zero_sub]; try simp only [zT, zV, zS, zU, vcC, lateX, ex, strp, cnd, binA, kseq, kblk, kret, klp, Abs.one, elems, cells, scalar, eqC, Nat.reduceBEq, Nat.reduceAdd, Nat.reduceSub, Nat.reduceLT, Nat.reduceLeDiff, Nat.reduceMul, Nat.reduceEqDiff, cond_true, cond_false, if_true, if_false, reduceIte, implies_true, forall_const, ne_eq])
 | (refine AWPC.both (fun _ => ?_) (fun _ => ?_))
 | (refine AWPC.imp (fun _ => ?_))
 | ((refine .inl ⟨_, _, _, .any, rfl, fun h => absurd h Bool.false_ne_true, ?_⟩); refine owp_of_exs ?_; simp only [zT, zV, zS, zU, vcC, lateX, ex, strp, cnd, binA, kseq, kblk, kret, klp, Abs.one, elems, cells, scalar, eqC, Nat.reduceBEq, Nat.reduceAdd, Nat.reduceSub, Nat.reduceLT, Nat.reduceLeDiff, Nat.reduceMul, Nat.reduceEqDiff, cond_true, cond_false, if_true, if_false, reduceIte, implies_true, forall_const, ne_eq])
 | (refine ⟨by omega, ?_⟩)
 | (refine And.intro (by (intros; first | (simp_all (config := { decide := false }); done) | fail)) ?_)
 | fail)
        have hst0 : OneP x (List.length τ + 1) (List.length τ + 3) N (fun j => if j < (max lo 0).toNat then p.ms t j (k + 1) else p.ms t j k) := x1.congr fun j hj => by
          try simp only
          by_cases hjl : j < (max lo 0).toNat
          · rw [if_pos hjl, hms, if_neg (by omega)]
          · rw [if_neg hjl]
        refine AWPC.loopE (α := { q : Nat × Sto // q.2.length = List.length x ∧ max lo 0 ≤ q.1 ∧ (q.1 = max lo 0 ∨ q.1 ≤ min hi' (p.co - 1) + 1) ∧ OneP q.2 (List.length τ + 1) (List.length τ + 3) N (fun j => if j < q.1 then p.ms t j (k + 1) else p.ms t j k) ∧
            q.2.at (List.length τ + 2) 0 = some ⟨111, 1, [[.own (List.length τ + 1) 0 N]], none⟩ ∧ ∀ i, i < List.length τ → q.2.at i 0 = τ.at i 0 })
          [18, 85, 86, 87, 88, 89, 90, 91, 92, 93, 94, 95, 96, 97, 98, 99, 100] (fun q => [(18, n q.1.1)]) (fun q => q.1.2 ++ ρ' :: (μ ++ [some [⟨23, 2, [[n lo, n hi']], none⟩]])) (fun q => (p.co + 1 - q.1.1).toNat) ⟨((max lo 0).toNat, x), rfl, by simp only; omega, by simp only; omega, hst0, x2, x3⟩ ?_ rfl ?_
        · (simp only [zT, zV, zS, zU, vcC, lateX, ex, strp, cnd, binA, kseq, kblk, kret, klp, Abs.one, elems, cells, scalar, eqC, Nat.reduceBEq, Nat.reduceAdd, Nat.reduceSub, Nat.reduceLT, Nat.reduceLeDiff, Nat.reduceMul, Nat.reduceEqDiff, cond_true, cond_false, if_true, if_false, reduceIte, implies_true, forall_const, ne_eq]; try simp)
          try omega
        rintro ⟨⟨c, σ2⟩, hc0, hc1, hc2, y1, y2, y3⟩
        simp only at hc0 hc1 hc2 y1 y2 y3
        simp only
        have bl0 : List.length τ + 2 < List.length σ2 := by omega
        have b1 : ∀ ν, Sto.at (σ2 ++ ν) 1 0 = some ⟨85, 10, [p.cs], none⟩ := fun ν => by rw [at_appL (by omega), y3 1 l1]; exact s1
        have bh : ∀ ν, Sto.at (σ2 ++ ν) (List.length τ + 2) 0 = some ⟨111, 1, [[.own (List.length τ + 1) 0 N]], none⟩ := fun ν => by rw [at_appL (by omega)]; exact y2
        have bA : ∀ ν, Sto.at (σ2 ++ ν) (List.length τ + 1) 0 = some ⟨90, 1, (List.range N).map fun (j : Nat) => [.own (List.length τ + 3 + j) 0 (if j < c then p.ms t j (k + 1) else p.ms t j k).length], none⟩ := fun ν => by rw [at_appL (by omega)]; exact y1.1
        have bsp : ∀ ν, Sto.at (σ2 ++ ρ' :: (μ ++ ν)) (List.length x + (List.length μ + 1)) 0 = Sto.at ν 0 0 := fun ν => by rw [← hc0, at_app, at_consS, at_app0]
        by_cases hle : (c : Int) ≤ min hi' (p.co - 1)
        · have hcN : c < N := by omega
          have hRc : (if c < c then p.ms t c (k + 1) else p.ms t c k) = p.ms t c k := if_neg (by omega)
          have hmc := hmi c
          have hd := rise_one_does σ2 (ρ' :: (μ ++ [some [⟨23, 2, [[n lo, n hi']], none⟩]])) (List.length τ + 1) (List.length τ + 3) N c _ v y1 (by omega) hcN (by simp only [hRc]; have := hmc.1; unfold Pp.cnt at hk2; omega) (by omega) (fun s hs => by simp only [hRc] at hs; have := hmc.2 s hs; omega)
          (repeat' first
 | (refine AWPC.of_vcn rfl ?_; simp only [zT, zV, zS, zU, vcC, lateX, ex, strp, cnd, binA, kseq, kblk, kret, klp, Abs.one, elems, cells, scalar, eqC, Nat.reduceBEq, Nat.reduceAdd, Nat.reduceSub, Nat.reduceLT, Nat.reduceLeDiff, Nat.reduceMul, Nat.reduceEqDiff, cond_true, cond_false, if_true, if_false, reduceIte, implies_true, forall_const, ne_eq, bsp, b1, bh, bA, List.length_range, hw])
 | (simp (disch := omega) only [wr64, Int.zero_sub]; try simp only [zT, zV, zS, zU, vcC, lateX, ex, strp, cnd, binA, kseq, kblk, kret, klp, Abs.one, elems, cells, scalar, eqC, Nat.reduceBEq, Nat.reduceAdd, Nat.reduceSub, Nat.reduceLT, Nat.reduceLeDiff, Nat.reduceMul, Nat.reduceEqDiff, cond_true, cond_false, if_true, if_false, reduceIte, implies_true, forall_const, ne_eq, bsp, b1, bh, bA, List.length_range, hw])
 | (refine AWPC.both (fun _ => ?_) (fun _ => ?_))
 | (refine AWPC.imp (fun _ => ?_))
 | ((repeat (refine And.intro (by (intros; first | omega | (simp_all (config := { decide := false }); done) | fail)) ?_)); (first
 | (refine .inl ⟨_, _, _, _, rfl, fun _hc => ⟨by simp, hlv⟩, ?_⟩)
 | (refine ⟨_, _, _, _, rfl, fun _hc => ⟨by simp, hlv⟩, ?_⟩)
 | fail); (first | refine owp_of_exs ?_ | refine pre_of_exd ?_ | refine pre_of_exe ?_ | fail); simp only [zT, zV, zS, zU, vcC, lateX, ex, strp, cnd, binA, kseq, kblk, kret, klp, Abs.one, elems, cells, scalar, eqC, Nat.reduceBEq, Nat.reduceAdd, Nat.reduceSub, Nat.reduceLT, Nat.reduceLeDiff, Nat.reduceMul, Nat.reduceEqDiff, cond_true, cond_false, if_true, if_false, reduceIte, implies_true, forall_const, ne_eq, bsp, b1, bh, bA, List.length_range, hw])
 | ((refine .inl ⟨_, _, _, .any, rfl, fun h => absurd h Bool.false_ne_true, ?_⟩); refine owp_of_exs ?_; simp only [zT, zV, zS, zU, vcC, lateX, ex, strp, cnd, binA, kseq, kblk, kret, klp, Abs.one, elems, cells, scalar, eqC, Nat.reduceBEq, Nat.reduceAdd, Nat.reduceSub, Nat.reduceLT, Nat.reduceLeDiff, Nat.reduceMul, Nat.reduceEqDiff, cond_true, cond_false, if_true, if_false, reduceIte, implies_true, forall_const, ne_eq, bsp, b1, bh, bA, List.length_range, hw])
 | (refine ⟨by omega, ?_⟩)
 | (refine And.intro (by (intros; first | (simp_all (config := { decide := false }); done) | fail)) ?_)
 | fail)
          all_goals try (exfalso; omega)
          refine .inr (.inl ⟨_, _, _, _, rfl, fun _ => ⟨hd, ?_⟩, fun h => by cases h⟩)
          rintro res σ' rfl
          refine owp_of_exs ?_
          simp only [zT, zV, zS, zU, vcC, lateX, ex, strp, cnd, binA, kseq, kblk, kret, klp, Abs.one, elems, cells, scalar, eqC, Nat.reduceBEq, Nat.reduceAdd, Nat.reduceSub, Nat.reduceLT, Nat.reduceLeDiff, Nat.reduceMul, Nat.reduceEqDiff, cond_true, cond_false, if_true, if_false, reduceIte, implies_true, forall_const, ne_eq]
          (repeat' first
 | (refine AWPC.of_vcn rfl ?_; simp only [zT, zV, zS, zU, vcC, lateX, ex, strp, cnd, binA, kseq, kblk, kret, klp, Abs.one, elems, cells, scalar, eqC, Nat.reduceBEq, Nat.reduceAdd, Nat.reduceSub, Nat.reduceLT, Nat.reduceLeDiff, Nat.reduceMul, Nat.reduceEqDiff, cond_true, cond_false, if_true, if_false, reduceIte, implies_true, forall_const, ne_eq])
 | (simp (disch := omega) only [wr64, Int.zero_sub]; try simp only [zT, zV, zS, zU, vcC, lateX, ex, strp, cnd, binA, kseq, kblk, kret, klp, Abs.one, elems, cells, scalar, eqC, Nat.reduceBEq, Nat.reduceAdd, Nat.reduceSub, Nat.reduceLT, Nat.reduceLeDiff, Nat.reduceMul, Nat.reduceEqDiff, cond_true, cond_false, if_true, if_false, reduceIte, implies_true, forall_const, ne_eq])
 | (refine AWPC.both (fun _ => ?_) (fun _ => ?_))
 | (refine AWPC.imp (fun _ => ?_))
 | ((refine .inl ⟨_, _, _, .any, rfl, fun h => absurd h Bool.false_ne_true, ?_⟩); refine owp_of_exs ?_; simp only [zT, zV, zS, zU, vcC, lateX, ex, strp, cnd, binA, kseq, kblk, kret, klp, Abs.one, elems, cells, scalar, eqC, Nat.reduceBEq, Nat.reduceAdd, Nat.reduceSub, Nat.reduceLT, Nat.reduceLeDiff, Nat.reduceMul, Nat.reduceEqDiff, cond_true, cond_false, if_true, if_false, reduceIte, implies_true, forall_const, ne_eq])
 | (refine ⟨by omega, ?_⟩)
 | (refine And.intro (by (intros; first | (simp_all (config := { decide := false }); done) | fail)) ?_)
 | fail)
          refine ⟨⟨(c + 1, riseO σ2 (List.length τ + 1) (List.length τ + 3) N c (fun (j : Nat) => if j < c then p.ms t j (k + 1) else p.ms t j k) v), ?_, ?_, ?_, ?_, ?_, ?_⟩, by simp, rfl, by simp only; omega⟩
          · simp only; rw [riseO_len]; exact hc0
          · simp only; omega
          · simp only; omega
          · refine (riseO_one y1 (by omega) hcN).congr fun j hj => ?_
            simp only [hRc]
            by_cases hjc : j = c
            · subst hjc
              rw [if_pos (by omega), if_pos rfl, hms, if_pos (by omega)]
            · rw [if_neg hjc]
              by_cases hjl : j < c
              · rw [if_pos (by omega), if_pos hjl]
              · rw [if_neg (by omega), if_neg hjl]
          · simp only; refine Eq.trans (riseO_at ?_ ?_) y2 <;> omega
          · intro i hi; simp only; refine Eq.trans (riseO_at ?_ ?_) (y3 i hi) <;> omega
        · (repeat' first
 | (refine AWPC.of_vcn rfl ?_; simp only [zT, zV, zS, zU, vcC, lateX, ex, strp, cnd, binA, kseq, kblk, kret, klp, Abs.one, elems, cells, scalar, eqC, Nat.reduceBEq, Nat.reduceAdd, Nat.reduceSub, Nat.reduceLT, Nat.reduceLeDiff, Nat.reduceMul, Nat.reduceEqDiff, cond_true, cond_false, if_true, if_false, reduceIte, implies_true, forall_const, ne_eq, bsp, b1, hw])
 | (simp (disch := omega) only [wr64, Int.zero_sub]; try simp only [zT, zV, zS, zU, vcC, lateX, ex, strp, cnd, binA, kseq, kblk, kret, klp, Abs.one, elems, cells, scalar, eqC, Nat.reduceBEq, Nat.reduceAdd, Nat.reduceSub, Nat.reduceLT, Nat.reduceLeDiff, Nat.reduceMul, Nat.reduceEqDiff, cond_true, cond_false, if_true, if_false, reduceIte, implies_true, forall_const, ne_eq, bsp, b1, hw])
 | (refine AWPC.both (fun _ => ?_) (fun _ => ?_))
 | (refine AWPC.imp (fun _ => ?_))
 | ((refine .inl ⟨_, _, _, .any, rfl, fun h => absurd h Bool.false_ne_true, ?_⟩); refine owp_of_exs ?_; simp only [zT, zV, zS, zU, vcC, lateX, ex, strp, cnd, binA, kseq, kblk, kret, klp, Abs.one, elems, cells, scalar, eqC, Nat.reduceBEq, Nat.reduceAdd, Nat.reduceSub, Nat.reduceLT, Nat.reduceLeDiff, Nat.reduceMul, Nat.reduceEqDiff, cond_true, cond_false, if_true, if_false, reduceIte, implies_true, forall_const, ne_eq, bsp, b1, hw])
 | (refine ⟨by omega, ?_⟩)
 | (refine And.intro (by (intros; first | (simp_all (config := { decide := false }); done) | fail)) ?_)
 | fail)
          all_goals try (exfalso; omega)
          refine ⟨⟨σ2, by omega⟩, [], by simp, y1.congr fun j hj => ?_, y2, y3⟩
          by_cases hjl : j < c
          · rw [if_pos hjl]
          · rw [if_neg hjl, hms, if_neg (by omega)]
      · obtain ⟨x, hxl⟩ := x
        simp only at hx ⊢
        obtain ⟨x1, x2, x3⟩ := hx
        have hlen : (p.tr t).length = p.cnt t := by simp [Pp.tr]
        rw [hlen] at x1
        obtain ⟨G, hG⟩ : ∃ G, G = List.length τ + 3 := ⟨_, rfl⟩
        rw [← hG] at x1
        have x1 := x1.congr (R' := fun j => p.rmeans t j) fun j hj => (ms_eq p t j hg htr).symm
        have hS1 := (hS.old x3).app μ
        have xl2 : List.length τ + 2 < List.length x := by omega
        have c2 : Sto.at (x ++ μ) 2 0 = some (allO N cel bs) := hS1.o2
        (repeat' first
 | (refine AWPC.of_vcn rfl ?_; simp only [zT, zV, zS, zU, vcC, lateX, ex, strp, cnd, binA, kseq, kblk, kret, klp, Abs.one, elems, cells, scalar, eqC, Nat.reduceBEq, Nat.reduceAdd, Nat.reduceSub, Nat.reduceLT, Nat.reduceLeDiff, Nat.reduceMul, Nat.reduceEqDiff, cond_true, cond_false, if_true, if_false, reduceIte, implies_true, forall_const, ne_eq, c2, List.length_range])
 | (simp (disch := omega) only [wr64, Int.zero_sub]; try simp only [zT, zV, zS, zU, vcC, lateX, ex, strp, cnd, binA, kseq, kblk, kret, klp, Abs.one, elems, cells, scalar, eqC, Nat.reduceBEq, Nat.reduceAdd, Nat.reduceSub, Nat.reduceLT, Nat.reduceLeDiff, Nat.reduceMul, Nat.reduceEqDiff, cond_true, cond_false, if_true, if_false, reduceIte, implies_true, forall_const, ne_eq, c2, List.length_range])
 | (refine AWPC.both (fun _ => ?_) (fun _ => ?_))
 | (refine AWPC.imp (fun _ => ?_))
 | ((refine .inl ⟨_, _, _, .any, rfl, fun h => absurd h Bool.false_ne_true, ?_⟩); refine owp_of_exs ?_; simp only [zT, zV, zS, zU, vcC, lateX, ex, strp, cnd, binA, kseq, kblk, kret, klp, Abs.one, elems, cells, scalar, eqC, Nat.reduceBEq, Nat.reduceAdd, Nat.reduceSub, Nat.reduceLT, Nat.reduceLeDiff, Nat.reduceMul, Nat.reduceEqDiff, cond_true, cond_false, if_true, if_false, reduceIte, implies_true, forall_const, ne_eq, c2, List.length_range])
 | (refine ⟨by omega, ?_⟩)
 | (refine And.intro (by (intros; first | (simp_all (config := { decide := false }); done) | fail)) ?_)
 | fail)
        all_goals try (exfalso; omega)
        refine AWPC.loopE (α := { q : Nat × Sto × (Nat → AV) // q.1 ≤ N ∧ InkS p N bs q.2.1 q.2.2 (fun j => if j < q.1 then inkC p (l.take (i + 1)) j else inkC p (l.take i) j) ∧ OneP q.2.1 (List.length τ + 1) G N (fun j => p.rmeans t j) ∧
            q.2.1.at (List.length τ + 2) 0 = some ⟨111, 1, [[.own (List.length τ + 1) 0 N]], none⟩ })
          [104] (fun q => [(104, n q.1.1)]) (fun q => q.1.2.1) (fun q => N - q.1.1) ⟨(0, x ++ μ, cel), Nat.zero_le _, ⟨hS1.o0, hS1.o1, hS1.o2, fun j hj => hS1.row j hj⟩, x1.app μ, by rw [at_appL xl2]; exact x2⟩ ?_ rfl ?_
        · (simp only [zT, zV, zS, zU, vcC, lateX, ex, strp, cnd, binA, kseq, kblk, kret, klp, Abs.one, elems, cells, scalar, eqC, Nat.reduceBEq, Nat.reduceAdd, Nat.reduceSub, Nat.reduceLT, Nat.reduceLeDiff, Nat.reduceMul, Nat.reduceEqDiff, cond_true, cond_false, if_true, if_false, reduceIte, implies_true, forall_const, ne_eq]; try simp)
        rintro ⟨⟨c, σ2, cel2⟩, hc, z1, z2, z3⟩
        simp only at hc z1 z2 z3
        simp only
        have d2 := z1.o2
        have dA := z2.1
        by_cases hlt3 : c < N
        · have drow : ((List.range N).map fun (j : Nat) => [cel2 j, bl (decide ((j : Int) ∈ bs))]).getD c [] = [cel2 c, bl (decide ((c : Int) ∈ bs))] := range_get _ hlt3
          have drow2 : ((List.range N).map fun (j : Nat) => [AV.own (G + j) 0 (p.rmeans t j).length]).getD c [] = [.own (G + c) 0 (p.rmeans t c).length] := range_get _ hlt3
          have hnb1 := (inkC_ok (p := p) (c := c) hg (fun u hu => hok u (List.mem_of_mem_take (i := i) hu))).1
          have hnb2 := rmeans_nb (c := c) hg htr
          have hl1 := hnb1.len_le
          have hl22 := hnb2.len_le
          have hd := add_any σ2 2 N c (allO N cel2 bs) (cel2 c) [bl (decide ((c : Int) ∈ bs))] (inkC p (l.take i) c) (p.rmeans t c, some (G + c)) d2 (by simp) hlt3 rfl drow rfl
            (by have := z1.row c hlt3; rw [if_neg (by omega)] at this; exact this) (z2.2 c hlt3)
            (fun u hu => by
              rcases List.mem_append.1 hu with hu | hu
              · exact ⟨hnb1.1.ne u hu, hnb1.bd u hu⟩
              · exact ⟨hnb2.1.ne u hu, hnb2.bd u hu⟩) (by simp only; omega) (joins (inkC p (l.take i) c) (p.rmeans t c)) (joins_norm hnb1.1) (fun v => joins_mem hnb1.1 v)
          (repeat' first
 | (refine AWPC.of_vcn rfl ?_; simp only [zT, zV, zS, zU, vcC, lateX, ex, strp, cnd, binA, kseq, kblk, kret, klp, Abs.one, elems, cells, scalar, eqC, Nat.reduceBEq, Nat.reduceAdd, Nat.reduceSub, Nat.reduceLT, Nat.reduceLeDiff, Nat.reduceMul, Nat.reduceEqDiff, cond_true, cond_false, if_true, if_false, reduceIte, implies_true, forall_const, ne_eq, d2, dA, z3, drow, drow2, List.length_range])
 | (simp (disch := omega) only [wr64, Int.zero_sub]; try simp only [zT, zV, zS, zU, vcC, lateX, ex, strp, cnd, binA, kseq, kblk, kret, klp, Abs.one, elems, cells, scalar, eqC, Nat.reduceBEq, Nat.reduceAdd, Nat.reduceSub, Nat.reduceLT, Nat.reduceLeDiff, Nat.reduceMul, Nat.reduceEqDiff, cond_true, cond_false, if_true, if_false, reduceIte, implies_true, forall_const, ne_eq, d2, dA, z3, drow, drow2, List.length_range])
 | (refine AWPC.both (fun _ => ?_) (fun _ => ?_))
 | (refine AWPC.imp (fun _ => ?_))
 | ((refine .inl ⟨_, _, _, .any, rfl, fun h => absurd h Bool.false_ne_true, ?_⟩); refine owp_of_exs ?_; simp only [zT, zV, zS, zU, vcC, lateX, ex, strp, cnd, binA, kseq, kblk, kret, klp, Abs.one, elems, cells, scalar, eqC, Nat.reduceBEq, Nat.reduceAdd, Nat.reduceSub, Nat.reduceLT, Nat.reduceLeDiff, Nat.reduceMul, Nat.reduceEqDiff, cond_true, cond_false, if_true, if_false, reduceIte, implies_true, forall_const, ne_eq, d2, dA, z3, drow, drow2, List.length_range])
 | (refine ⟨by omega, ?_⟩)
 | (refine And.intro (by (intros; first | (simp_all (config := { decide := false }); done) | fail)) ?_)
 | fail)
          all_goals try (exfalso; omega)
          refine .inr (.inl ⟨_, _, _, _, rfl, fun _ => ⟨hd, ?_⟩, fun h => by cases h⟩)
          rintro res σ' ⟨G', hG', f2, f3, f4, f5⟩
          refine owp_of_exs ?_
          simp only [zT, zV, zS, zU, vcC, lateX, ex, strp, cnd, binA, kseq, kblk, kret, klp, Abs.one, elems, cells, scalar, eqC, Nat.reduceBEq, Nat.reduceAdd, Nat.reduceSub, Nat.reduceLT, Nat.reduceLeDiff, Nat.reduceMul, Nat.reduceEqDiff, cond_true, cond_false, if_true, if_false, reduceIte, implies_true, forall_const, ne_eq]
          (repeat' first
 | (refine AWPC.of_vcn rfl ?_; simp only [zT, zV, zS, zU, vcC, lateX, ex, strp, cnd, binA, kseq, kblk, kret, klp, Abs.one, elems, cells, scalar, eqC, Nat.reduceBEq, Nat.reduceAdd, Nat.reduceSub, Nat.reduceLT, Nat.reduceLeDiff, Nat.reduceMul, Nat.reduceEqDiff, cond_true, cond_false, if_true, if_false, reduceIte, implies_true, forall_const, ne_eq])
 | (simp (disch := omega) only [wr64, Int.zero_sub]; try simp only [zT, zV, zS, zU, vcC, lateX, ex, strp, cnd, binA, kseq, kblk, kret, klp, Abs.one, elems, cells, scalar, eqC, Nat.reduceBEq, Nat.reduceAdd, Nat.reduceSub, Nat.reduceLT, Nat.reduceLeDiff, Nat.reduceMul, Nat.reduceEqDiff, cond_true, cond_false, if_true, if_false, reduceIte, implies_true, forall_const, ne_eq])
 | (refine AWPC.both (fun _ => ?_) (fun _ => ?_))
 | (refine AWPC.imp (fun _ => ?_))
 | ((refine .inl ⟨_, _, _, .any, rfl, fun h => absurd h Bool.false_ne_true, ?_⟩); refine owp_of_exs ?_; simp only [zT, zV, zS, zU, vcC, lateX, ex, strp, cnd, binA, kseq, kblk, kret, klp, Abs.one, elems, cells, scalar, eqC, Nat.reduceBEq, Nat.reduceAdd, Nat.reduceSub, Nat.reduceLT, Nat.reduceLeDiff, Nat.reduceMul, Nat.reduceEqDiff, cond_true, cond_false, if_true, if_false, reduceIte, implies_true, forall_const, ne_eq])
 | (refine ⟨by omega, ?_⟩)
 | (refine And.intro (by (intros; first | (simp_all (config := { decide := false }); done) | fail)) ?_)
 | fail)
          have hA := at_lt z2.1
          have hH := at_lt z3
          have hlA : 2 < List.length τ := l2
          refine ⟨⟨(c + 1, σ', fun j => if j = c then .own G' 0 (joins (inkC p (l.take i) c) (p.rmeans t c)).length else cel2 j), hlt3, ⟨?_, ?_, ?_, ?_⟩, ?_, ?_⟩, by simp, rfl, by simp only; omega⟩
          · exact (f4 0 0 (at_lt z1.o0) (by decide)).trans z1.o0
          · exact (f4 1 0 (at_lt z1.o1) (by decide)).trans z1.o1
          · simp only
            rw [f2]
            simp only [setIn, allO]
            rw [range_set]
            refine congrArg (fun z => some (⟨110, 2, z, none⟩ : Ob)) (range_congr fun j hj => ?_)
            by_cases hjc : j = c
            · subst hjc; simp
            · simp [hjc]
          · intro j hj
            simp only
            by_cases hjc : j = c
            · subst hjc
              rw [if_pos rfl, if_pos (by omega), inkC_next hti]
              exact .inr ⟨(_, some G'), rfl, rfl, f3⟩
            · rw [if_neg hjc]
              have hrw := z1.row j hj
              have hiff : (if j < c + 1 then inkC p (l.take (i + 1)) j else inkC p (l.take i) j) = (if j < c then inkC p (l.take (i + 1)) j else inkC p (l.take i) j) := by
                by_cases hjl : j < c
                · rw [if_pos (by omega), if_pos hjl]
                · rw [if_neg (by omega), if_neg hjl]
              rw [hiff]
              refine hrw.frame fun g o ho hT => ?_
              rw [f4 g 0 (at_lt ho) (by rintro rfl; rw [d2] at ho; injection ho with ho; subst ho; cases hT)]; exact ho
          · exact z2.frame (f4 _ 0 hA (by omega)) fun j hj => f4 _ 0 (at_lt (z2.2 j hj)) (by omega)
          · exact (f4 _ 0 hH (by omega)).trans z3
        · obtain rfl : c = N := by omega
          (repeat' first
 | (refine AWPC.of_vcn rfl ?_; simp only [zT, zV, zS, zU, vcC, lateX, ex, strp, cnd, binA, kseq, kblk, kret, klp, Abs.one, elems, cells, scalar, eqC, Nat.reduceBEq, Nat.reduceAdd, Nat.reduceSub, Nat.reduceLT, Nat.reduceLeDiff, Nat.reduceMul, Nat.reduceEqDiff, cond_true, cond_false, if_true, if_false, reduceIte, implies_true, forall_const, ne_eq])
 | (simp (disch := omega) only [wr64, Int.zero_sub]; try simp only [zT, zV, zS, zU, vcC, lateX, ex, strp, cnd, binA, kseq, kblk, kret, klp, Abs.one, elems, cells, scalar, eqC, Nat.reduceBEq, Nat.reduceAdd, Nat.reduceSub, Nat.reduceLT, Nat.reduceLeDiff, Nat.reduceMul, Nat.reduceEqDiff, cond_true, cond_false, if_true, if_false, reduceIte, implies_true, forall_const, ne_eq])
 | (refine AWPC.both (fun _ => ?_) (fun _ => ?_))
 | (refine AWPC.imp (fun _ => ?_))
 | ((refine .inl ⟨_, _, _, .any, rfl, fun h => absurd h Bool.false_ne_true, ?_⟩); refine owp_of_exs ?_; simp only [zT, zV, zS, zU, vcC, lateX, ex, strp, cnd, binA, kseq, kblk, kret, klp, Abs.one, elems, cells, scalar, eqC, Nat.reduceBEq, Nat.reduceAdd, Nat.reduceSub, Nat.reduceLT, Nat.reduceLeDiff, Nat.reduceMul, Nat.reduceEqDiff, cond_true, cond_false, if_true, if_false, reduceIte, implies_true, forall_const, ne_eq])
 | (refine ⟨by omega, ?_⟩)
 | (refine And.intro (by (intros; first | (simp_all (config := { decide := false }); done) | fail)) ?_)
 | fail)
          all_goals try (exfalso; omega)
          refine ⟨⟨(i + 1, σ2, cel2), hlt2, ⟨z1.o0, z1.o1, z1.o2, fun j hj => ?_⟩⟩, by simp, rfl, by simp only; omega⟩
          have := z1.row j hj
          rw [if_pos hj] at this; exact this
    · obtain rfl : i = l.length := by omega
      have hS2 : InkS p N bs τ cel (fun j => inkC p l j) := ⟨hS.o0, hS.o1, hS.o2, fun j hj => by have := hS.row j hj; simp only [List.take_length] at this; exact this⟩
      have s0 := hS.o0
      have s2 := hS.o2
      have e2 : ∀ ν, Sto.at (τ ++ ν) 2 0 = some (allO N cel bs) := fun ν => by rw [at_appL l2]; exact s2
      have hX : inkX p l bs = (List.range N).map (inkB p l bs) := by unfold inkX; rw [hNt]
      rw [hX]
      (repeat' first
 | (refine AWPC.of_vcn rfl ?_; simp only [zT, zV, zS, zU, vcC, lateX, ex, strp, cnd, binA, kseq, kblk, kret, klp, Abs.one, elems, cells, scalar, eqC, Nat.reduceBEq, Nat.reduceAdd, Nat.reduceSub, Nat.reduceLT, Nat.reduceLeDiff, Nat.reduceMul, Nat.reduceEqDiff, cond_true, cond_false, if_true, if_false, reduceIte, implies_true, forall_const, ne_eq, hNt, e2, List.length_range])
 | (simp (disch := omega) only [wr64, Int.zero_sub]; try simp only [zT, zV, zS, zU, vcC, lateX, ex, strp, cnd, binA, kseq, kblk, kret, klp, Abs.one, elems, cells, scalar, eqC, Nat.reduceBEq, Nat.reduceAdd, Nat.reduceSub, Nat.reduceLT, Nat.reduceLeDiff, Nat.reduceMul, Nat.reduceEqDiff, cond_true, cond_false, if_true, if_false, reduceIte, implies_true, forall_const, ne_eq, hNt, e2, List.length_range])
 | (refine AWPC.both (fun _ => ?_) (fun _ => ?_))
 | (refine AWPC.imp (fun _ => ?_))
 | ((refine .inl ⟨_, _, _, .any, rfl, fun h => absurd h Bool.false_ne_true, ?_⟩); refine owp_of_exs ?_; simp only [zT, zV, zS, zU, vcC, lateX, ex, strp, cnd, binA, kseq, kblk, kret, klp, Abs.one, elems, cells, scalar, eqC, Nat.reduceBEq, Nat.reduceAdd, Nat.reduceSub, Nat.reduceLT, Nat.reduceLeDiff, Nat.reduceMul, Nat.reduceEqDiff, cond_true, cond_false, if_true, if_false, reduceIte, implies_true, forall_const, ne_eq, hNt, e2, List.length_range])
 | (refine ⟨by omega, ?_⟩)
 | (refine And.intro (by (intros; first | (simp_all (config := { decide := false }); done) | fail)) ?_)
 | fail)
      all_goals try (exfalso; omega)
      refine AWPC.loopE (α := { q : Nat × Sto × (Nat → AV) // q.1 ≤ N ∧ q.2.1.at 0 0 = some ⟨56, 1, [[.v (.slice none 0 0)]], none⟩ ∧ q.2.1.at 2 0 = some (allO N cel bs) ∧ q.2.1.at (List.length τ) 0 = some ⟨34, 1, (List.range N).map fun (j : Nat) => [q.2.2 j], none⟩ ∧
          q.2.1.at (List.length τ + 1) 0 = some ⟨56, 1, [[.own (List.length τ) 0 N]], none⟩ ∧ (∀ j, j < N → RowR q.2.1 (cel j) (inkC p l j)) ∧ (∀ j, j < N → j < q.1 → RowR q.2.1 (q.2.2 j) (inkB p l bs j) ∧ (inkB p l bs j).length ≤ 8) ∧ ∀ j, j < N → q.1 ≤ j → q.2.2 j = .v (.slice none 0 0) })
        [125] (fun q => [(125, n q.1.1)]) (fun q => q.1.2.1) (fun q => N - q.1.1)
        ⟨(0, τ ++ [some [⟨34, 1, List.replicate N [.v (.slice none 0 0)], none⟩], some [⟨56, 1, [[.own (List.length τ) 0 N]], none⟩]], fun _ => .v (.slice none 0 0)), Nat.zero_le _, by rw [at_appL l0]; exact s0, e2 _, by rw [at_app0, range_rep]; rfl, by rw [at_app]; rfl, fun j hj => (hS2.row j hj).app _, fun j _ h => absurd h (Nat.not_lt_zero _), fun j _ _ => rfl⟩ ?_ rfl ?_
      · (simp only [zT, zV, zS, zU, vcC, lateX, ex, strp, cnd, binA, kseq, kblk, kret, klp, Abs.one, elems, cells, scalar, eqC, Nat.reduceBEq, Nat.reduceAdd, Nat.reduceSub, Nat.reduceLT, Nat.reduceLeDiff, Nat.reduceMul, Nat.reduceEqDiff, cond_true, cond_false, if_true, if_false, reduceIte, implies_true, forall_const, ne_eq]; try simp)
      rintro ⟨⟨c, σ2, out⟩, hc, w0, w2, wB, wH, wr, wd, wn⟩
      simp only at hc w0 w2 wB wH wr wd wn
      simp only
      have e0 : ∀ ν, Sto.at (σ2 ++ ν) 0 0 = some ⟨56, 1, [[.v (.slice none 0 0)]], none⟩ := fun ν => by rw [at_appL (at_lt w0)]; exact w0
      have e2' : ∀ ν, Sto.at (σ2 ++ ν) 2 0 = some (allO N cel bs) := fun ν => by rw [at_appL (at_lt w2)]; exact w2
      have eB : ∀ ν, Sto.at (σ2 ++ ν) (List.length τ) 0 = some ⟨34, 1, (List.range N).map fun (j : Nat) => [out j], none⟩ := fun ν => by rw [at_appL (at_lt wB)]; exact wB
      have eH : ∀ ν, Sto.at (σ2 ++ ν) (List.length τ + 1) 0 = some ⟨56, 1, [[.own (List.length τ) 0 N]], none⟩ := fun ν => by rw [at_appL (at_lt wH)]; exact wH
      by_cases hlt3 : c < N
      · have orow : ((List.range N).map fun (j : Nat) => [out j]).getD c [] = [out c] := range_get _ hlt3
        by_cases hin : (c : Int) ∈ bs
        · have drow : ((List.range N).map fun (j : Nat) => [cel j, bl (decide ((j : Int) ∈ bs))]).getD c [] = [cel c, bl true] := by rw [range_get _ hlt3, decide_eq_true hin]
          (repeat' first
 | (refine AWPC.of_vcn rfl ?_; simp only [zT, zV, zS, zU, vcC, lateX, ex, strp, cnd, binA, kseq, kblk, kret, klp, Abs.one, elems, cells, scalar, eqC, Nat.reduceBEq, Nat.reduceAdd, Nat.reduceSub, Nat.reduceLT, Nat.reduceLeDiff, Nat.reduceMul, Nat.reduceEqDiff, cond_true, cond_false, if_true, if_false, reduceIte, implies_true, forall_const, ne_eq, w0, w2, e0, e2', eB, eH, drow, orow, List.length_range])
 | (simp (disch := omega) only [wr64, Int.zero_sub]; try simp only [zT, zV, zS, zU, vcC, lateX, ex, strp, cnd, binA, kseq, kblk, kret, klp, Abs.one, elems, cells, scalar, eqC, Nat.reduceBEq, Nat.reduceAdd, Nat.reduceSub, Nat.reduceLT, Nat.reduceLeDiff, Nat.reduceMul, Nat.reduceEqDiff, cond_true, cond_false, if_true, if_false, reduceIte, implies_true, forall_const, ne_eq, w0, w2, e0, e2', eB, eH, drow, orow, List.length_range])
 | (refine AWPC.both (fun _ => ?_) (fun _ => ?_))
 | (refine AWPC.imp (fun _ => ?_))
 | ((refine .inl ⟨_, _, _, .any, rfl, fun h => absurd h Bool.false_ne_true, ?_⟩); refine owp_of_exs ?_; simp only [zT, zV, zS, zU, vcC, lateX, ex, strp, cnd, binA, kseq, kblk, kret, klp, Abs.one, elems, cells, scalar, eqC, Nat.reduceBEq, Nat.reduceAdd, Nat.reduceSub, Nat.reduceLT, Nat.reduceLeDiff, Nat.reduceMul, Nat.reduceEqDiff, cond_true, cond_false, if_true, if_false, reduceIte, implies_true, forall_const, ne_eq, w0, w2, e0, e2', eB, eH, drow, orow, List.length_range])
 | (refine ⟨by omega, ?_⟩)
 | (refine And.intro (by (intros; first | (simp_all (config := { decide := false }); done) | fail)) ?_)
 | fail)
          all_goals try (exfalso; omega)
          refine ⟨⟨(c + 1, _, out), hlt3, e0 _, e2' _, eB _, eH _, fun j hj => (wr j hj).app _, fun j hj hjc => ?_, fun j hj hjc => wn j hj (by omega)⟩, by simp, rfl, by simp only; omega⟩
          by_cases hjl : j < c
          · exact ⟨(wd j hj hjl).1.app _, (wd j hj hjl).2⟩
          · obtain rfl : j = c := by omega
            have e : inkB p l bs j = [] := by unfold inkB; rw [if_pos hin]
            rw [e]
            exact ⟨.inl ⟨wn j hj (by omega), rfl⟩, by simp⟩
        · have drow : ((List.range N).map fun (j : Nat) => [cel j, bl (decide ((j : Int) ∈ bs))]).getD c [] = [cel c, bl false] := by rw [range_get _ hlt3, decide_eq_false hin]
          have eI : inkB p l bs c = inkC p l c := by unfold inkB; rw [if_neg hin]
          have hnb := (inkC_ok (p := p) (c := c) hg hok).1
          have hnl := hnb.len_le
          have hbig : ∀ e : AV, e = .tup [.agg [.v (.slice none 0 0)], n 2] → 8 < (inkC p l c).length → ∀ σ, Frz σ e (.tup [ink (lim ((List.range N).map (inkB p l bs))).1, n (lim ((List.range N).map (inkB p l bs))).2]) := fun e he h8 σ => by
            have hm : many ((List.range N).map (inkB p l bs)) = true := by
              rw [many, List.any_eq_true]
              exact ⟨inkB p l bs c, List.mem_map.2 ⟨c, List.mem_range.2 hlt3, rfl⟩, by rw [eI]; simp; exact h8⟩
            rw [he]
            simp only [lim, hm, cond_true]
            exact frz_ink0 2
          have hfin : (inkC p l c).length ≤ 8 → ∀ ν : Sto, ∃ y : { q : Nat × Sto × (Nat → AV) // q.1 ≤ N ∧ q.2.1.at 0 0 = some ⟨56, 1, [[.v (.slice none 0 0)]], none⟩ ∧ q.2.1.at 2 0 = some (allO N cel bs) ∧ q.2.1.at (List.length τ) 0 = some ⟨34, 1, (List.range N).map fun (j : Nat) => [q.2.2 j], none⟩ ∧
                q.2.1.at (List.length τ + 1) 0 = some ⟨56, 1, [[.own (List.length τ) 0 N]], none⟩ ∧ (∀ j, j < N → RowR q.2.1 (cel j) (inkC p l j)) ∧ (∀ j, j < N → j < q.1 → RowR q.2.1 (q.2.2 j) (inkB p l bs j) ∧ (inkB p l bs j).length ≤ 8) ∧ ∀ j, j < N → q.1 ≤ j → q.2.2 j = .v (.slice none 0 0) },
              y.1.1 = c + 1 ∧ y.1.2.1 = Sto.upd (σ2 ++ ν) (List.length τ) 0 ⟨34, 1, ((List.range N).map fun (j : Nat) => [out j]).set c [cel c], none⟩ := fun h8 ν => by
            have hold : ∀ i, i ≠ List.length τ → Sto.at (Sto.upd (σ2 ++ ν) (List.length τ) 0 ⟨34, 1, ((List.range N).map fun (j : Nat) => [out j]).set c [cel c], none⟩) i 0 = Sto.at (σ2 ++ ν) i 0 := fun i hi => at_upd_other (.inl fun e => hi e.symm)
            have hrf : ∀ x s, RowR σ2 x s → RowR (Sto.upd (σ2 ++ ν) (List.length τ) 0 ⟨34, 1, ((List.range N).map fun (j : Nat) => [out j]).set c [cel c], none⟩) x s := fun x s hx => (hx.app ν).frame fun g o ho hT => by
              rw [hold g (by rintro rfl; rw [eB] at ho; injection ho with ho; subst ho; cases hT)]; exact ho
            refine ⟨⟨(c + 1, _, fun j => if j = c then cel c else out j), hlt3, (hold 0 (by omega)).trans (e0 ν), (hold 2 (by omega)).trans (e2' ν), ?_, (hold _ (by omega)).trans (eH ν), fun j hj => hrf _ _ (wr j hj), fun j hj hjc => ?_, fun j hj hjc => ?_⟩, rfl, rfl⟩
            · refine (at_upd_same (eB ν)).trans ?_
              rw [range_set]
              refine congrArg (fun z => some (⟨34, 1, z, none⟩ : Ob)) (range_congr fun j hj => ?_)
              by_cases hjc : j = c
              · simp [hjc]
              · simp [hjc]
            · simp only
              by_cases hjl : j < c
              · rw [if_neg (by omega)]
                exact ⟨hrf _ _ (wd j hj hjl).1, (wd j hj hjl).2⟩
              · obtain rfl : j = c := by simp only at hjc; omega
                rw [if_pos rfl, eI]
                exact ⟨hrf _ _ (wr j hj), h8⟩
            · simp only at hjc ⊢
              rw [if_neg (by omega)]; exact wn j hj (by omega)
          have hrc := wr c hlt3
          have hu0 : ∀ ν o, Sto.at (Sto.upd (σ2 ++ ν) 0 0 o) 0 0 = some o := fun ν o => at_upd_same (e0 ν)
          generalize hS : inkC p l c = S at *
          rcases hrc with ⟨hc', hs'⟩ | ⟨⟨lq, g⟩, hc', hs', hok'⟩
          · rw [hc'] at drow hfin
            rw [hs'] at hfin
            (repeat' first
 | (refine AWPC.of_vcn rfl ?_; simp only [zT, zV, zS, zU, vcC, lateX, ex, strp, cnd, binA, kseq, kblk, kret, klp, Abs.one, elems, cells, scalar, eqC, Nat.reduceBEq, Nat.reduceAdd, Nat.reduceSub, Nat.reduceLT, Nat.reduceLeDiff, Nat.reduceMul, Nat.reduceEqDiff, cond_true, cond_false, if_true, if_false, reduceIte, implies_true, forall_const, ne_eq, w0, w2, e0, e2', eB, eH, drow, orow, List.length_range, List.length_nil])
 | (simp (disch := omega) only [wr64, Int.zero_sub]; try simp only [zT, zV, zS, zU, vcC, lateX, ex, strp, cnd, binA, kseq, kblk, kret, klp, Abs.one, elems, cells, scalar, eqC, Nat.reduceBEq, Nat.reduceAdd, Nat.reduceSub, Nat.reduceLT, Nat.reduceLeDiff, Nat.reduceMul, Nat.reduceEqDiff, cond_true, cond_false, if_true, if_false, reduceIte, implies_true, forall_const, ne_eq, w0, w2, e0, e2', eB, eH, drow, orow, List.length_range, List.length_nil])
 | (refine AWPC.both (fun _ => ?_) (fun _ => ?_))
 | (refine AWPC.imp (fun _ => ?_))
 | ((refine .inl ⟨_, _, _, .any, rfl, fun h => absurd h Bool.false_ne_true, ?_⟩); refine owp_of_exs ?_; simp only [zT, zV, zS, zU, vcC, lateX, ex, strp, cnd, binA, kseq, kblk, kret, klp, Abs.one, elems, cells, scalar, eqC, Nat.reduceBEq, Nat.reduceAdd, Nat.reduceSub, Nat.reduceLT, Nat.reduceLeDiff, Nat.reduceMul, Nat.reduceEqDiff, cond_true, cond_false, if_true, if_false, reduceIte, implies_true, forall_const, ne_eq, w0, w2, e0, e2', eB, eH, drow, orow, List.length_range, List.length_nil])
 | (refine ⟨by omega, ?_⟩)
 | (refine And.intro (by (intros; first | (simp_all (config := { decide := false }); done) | fail)) ?_)
 | fail)
            all_goals try (exfalso; omega)
            obtain ⟨y, y1, y2⟩ := hfin (by simp) _
            exact ⟨y, by rw [y1]; simp, y2.symm, by rw [y1]; omega⟩
          · simp only at hs'
            subst hs'
            cases g with
            | none =>
              simp only [avR] at hc'
              rw [hc'] at drow hfin
              (repeat' first
 | (refine AWPC.of_vcn rfl ?_; simp only [zT, zV, zS, zU, vcC, lateX, ex, strp, cnd, binA, kseq, kblk, kret, klp, Abs.one, elems, cells, scalar, eqC, Nat.reduceBEq, Nat.reduceAdd, Nat.reduceSub, Nat.reduceLT, Nat.reduceLeDiff, Nat.reduceMul, Nat.reduceEqDiff, cond_true, cond_false, if_true, if_false, reduceIte, implies_true, forall_const, ne_eq, hu0, w0, w2, e0, e2', eB, eH, drow, orow, List.length_range])
 | (simp (disch := omega) only [wr64, Int.zero_sub]; try simp only [zT, zV, zS, zU, vcC, lateX, ex, strp, cnd, binA, kseq, kblk, kret, klp, Abs.one, elems, cells, scalar, eqC, Nat.reduceBEq, Nat.reduceAdd, Nat.reduceSub, Nat.reduceLT, Nat.reduceLeDiff, Nat.reduceMul, Nat.reduceEqDiff, cond_true, cond_false, if_true, if_false, reduceIte, implies_true, forall_const, ne_eq, hu0, w0, w2, e0, e2', eB, eH, drow, orow, List.length_range])
 | (refine AWPC.both (fun _ => ?_) (fun _ => ?_))
 | (refine AWPC.imp (fun _ => ?_))
 | ((refine .inl ⟨_, _, _, .any, rfl, fun h => absurd h Bool.false_ne_true, ?_⟩); refine owp_of_exs ?_; simp only [zT, zV, zS, zU, vcC, lateX, ex, strp, cnd, binA, kseq, kblk, kret, klp, Abs.one, elems, cells, scalar, eqC, Nat.reduceBEq, Nat.reduceAdd, Nat.reduceSub, Nat.reduceLT, Nat.reduceLeDiff, Nat.reduceMul, Nat.reduceEqDiff, cond_true, cond_false, if_true, if_false, reduceIte, implies_true, forall_const, ne_eq, hu0, w0, w2, e0, e2', eB, eH, drow, orow, List.length_range])
 | (refine ⟨by omega, ?_⟩)
 | (refine And.intro (by (intros; first | (simp_all (config := { decide := false }); done) | fail)) ?_)
 | fail)
              all_goals try (exfalso; omega)
              · rename_i h
                exact hbig _ rfl (by omega) _
              · rename_i h
                obtain ⟨y, y1, y2⟩ := hfin (by omega) _
                exact ⟨y, by rw [y1]; simp, y2.symm, by rw [y1]; omega⟩
            | some g =>
              have eG : ∀ ν, Sto.at (σ2 ++ ν) g 0 = some (spO lq) := fun ν => by rw [at_appL (at_lt hok')]; exact hok'
              simp only [avR] at hc'
              rw [hc'] at drow hfin
              (repeat' first
 | (refine AWPC.of_vcn rfl ?_; simp only [zT, zV, zS, zU, vcC, lateX, ex, strp, cnd, binA, kseq, kblk, kret, klp, Abs.one, elems, cells, scalar, eqC, Nat.reduceBEq, Nat.reduceAdd, Nat.reduceSub, Nat.reduceLT, Nat.reduceLeDiff, Nat.reduceMul, Nat.reduceEqDiff, cond_true, cond_false, if_true, if_false, reduceIte, implies_true, forall_const, ne_eq, hu0, w0, w2, e0, e2', eB, eH, eG, drow, orow, List.length_range])
 | (simp (disch := omega) only [wr64, Int.zero_sub]; try simp only [zT, zV, zS, zU, vcC, lateX, ex, strp, cnd, binA, kseq, kblk, kret, klp, Abs.one, elems, cells, scalar, eqC, Nat.reduceBEq, Nat.reduceAdd, Nat.reduceSub, Nat.reduceLT, Nat.reduceLeDiff, Nat.reduceMul, Nat.reduceEqDiff, cond_true, cond_false, if_true, if_false, reduceIte, implies_true, forall_const, ne_eq, hu0, w0, w2, e0, e2', eB, eH, eG, drow, orow, List.length_range])
 | (refine AWPC.both (fun _ => ?_) (fun _ => ?_))
 | (refine AWPC.imp (fun _ => ?_))
 | ((refine .inl ⟨_, _, _, .any, rfl, fun h => absurd h Bool.false_ne_true, ?_⟩); refine owp_of_exs ?_; simp only [zT, zV, zS, zU, vcC, lateX, ex, strp, cnd, binA, kseq, kblk, kret, klp, Abs.one, elems, cells, scalar, eqC, Nat.reduceBEq, Nat.reduceAdd, Nat.reduceSub, Nat.reduceLT, Nat.reduceLeDiff, Nat.reduceMul, Nat.reduceEqDiff, cond_true, cond_false, if_true, if_false, reduceIte, implies_true, forall_const, ne_eq, hu0, w0, w2, e0, e2', eB, eH, eG, drow, orow, List.length_range])
 | (refine ⟨by omega, ?_⟩)
 | (refine And.intro (by (intros; first | (simp_all (config := { decide := false }); done) | fail)) ?_)
 | fail)
              all_goals try (exfalso; omega)
              · rename_i h
                exact hbig _ rfl (by omega) _
              · rename_i h
                obtain ⟨y, y1, y2⟩ := hfin (by omega) _
                exact ⟨y, by rw [y1]; simp, y2.symm, by rw [y1]; omega⟩
      · obtain rfl : N = c := by omega
        have hm : many ((List.range N).map (inkB p l bs)) = false := many_false.2 fun x hx => by
          obtain ⟨j, hj, rfl⟩ := List.mem_map.1 hx
          have hj := List.mem_range.1 hj
          exact (wd j hj hj).2
        simp only [lim, hm, cond_false]
        (repeat' first
 | (refine AWPC.of_vcn rfl ?_; simp only [zT, zV, zS, zU, vcC, lateX, ex, strp, cnd, binA, kseq, kblk, kret, klp, Abs.one, elems, cells, scalar, eqC, Nat.reduceBEq, Nat.reduceAdd, Nat.reduceSub, Nat.reduceLT, Nat.reduceLeDiff, Nat.reduceMul, Nat.reduceEqDiff, cond_true, cond_false, if_true, if_false, reduceIte, implies_true, forall_const, ne_eq, w0, wH, at_upd_same w0])
 | (simp (disch := omega) only [wr64, Int.zero_sub]; try simp only [zT, zV, zS, zU, vcC, lateX, ex, strp, cnd, binA, kseq, kblk, kret, klp, Abs.one, elems, cells, scalar, eqC, Nat.reduceBEq, Nat.reduceAdd, Nat.reduceSub, Nat.reduceLT, Nat.reduceLeDiff, Nat.reduceMul, Nat.reduceEqDiff, cond_true, cond_false, if_true, if_false, reduceIte, implies_true, forall_const, ne_eq, w0, wH, at_upd_same w0])
 | (refine AWPC.both (fun _ => ?_) (fun _ => ?_))
 | (refine AWPC.imp (fun _ => ?_))
 | ((refine .inl ⟨_, _, _, .any, rfl, fun h => absurd h Bool.false_ne_true, ?_⟩); refine owp_of_exs ?_; simp only [zT, zV, zS, zU, vcC, lateX, ex, strp, cnd, binA, kseq, kblk, kret, klp, Abs.one, elems, cells, scalar, eqC, Nat.reduceBEq, Nat.reduceAdd, Nat.reduceSub, Nat.reduceLT, Nat.reduceLeDiff, Nat.reduceMul, Nat.reduceEqDiff, cond_true, cond_false, if_true, if_false, reduceIte, implies_true, forall_const, ne_eq, w0, wH, at_upd_same w0])
 | (refine ⟨by omega, ?_⟩)
 | (refine And.intro (by (intros; first | (simp_all (config := { decide := false }); done) | fail)) ?_)
 | fail)
        all_goals try (exfalso; omega)
        have hne : List.length τ ≠ 0 := by omega
        have hfr : Frz (σ2.upd 0 0 ⟨56, 1, [[.own (List.length τ) 0 N]], none⟩) (.own (List.length τ) 0 N) (colS ((List.range N).map (inkB p l bs))) := by
          refine frz_rows (c := out) (S := inkB p l bs) (by rw [at_upd_other (.inl fun e => hne e.symm)]; exact wB) fun j hj => ?_
          refine (wd j hj hj).1.frame fun g o ho hT => ?_
          rw [at_upd_other (.inl (by rintro rfl; rw [w0] at ho; injection ho with ho; subst ho; cases hT))]; exact ho
        refine Frz.tup rfl fun i hi => ?_
        match i, hi with
        | 0, _ => exact Frz.agg rfl fun i hi => (by match i, hi with | 0, _ => exact hfr)
        | 1, _ => exact Frz.eq rfl (by simp)
end Go.Proofs.Ytgpdckmbojmlpaa

namespace Go.Proofs.Ytgpdckmbojmlpaa
open Go.Abs
set_option linter.unusedVariables false
set_option linter.unusedSimpArgs false
set_option maxHeartbeats 4000000
set_option maxRecDepth 100000
-- aneroid/aneroidlaw01.PaperInk
def c12 : CF := ⟨45,
 (.seq (.ops [
 ⟨(some 3), .box false 25 10 (.t 0), none⟩,
 ⟨(some 6), .mv (.c (.bool false)), none⟩] [1, 2, 3])
 (.seq (.ops [
 ⟨(some 12), .call (.f 18) [], none⟩,
 ⟨(some 7), .mv (.t 12), none⟩] [1, 2, 3, 7])
 (.seq (.seq (.ops [
 ⟨(some 13), .mv (.t 1), none⟩,
 ⟨(some 14), .mv (.t 2), none⟩,
 ⟨(some 15), .call (.f 44) [(.t 13), (.t 14)], none⟩,
 ⟨(some 16), .un .not (.t 15), none⟩] [1, 2, 3, 7, 16])
 (.cond (.t 16) (.seq (.ops [
 ⟨(some 17), .mv (.t 7), none⟩,
 ⟨(some 6), .mv (.t 17), none⟩] [6])
 .ret)
 .skip))
 (.seq (.ops [
 ⟨(some 19), .load (some 10) (.t 3), none⟩,
 ⟨(some 20), .mv (.t 1), none⟩,
 ⟨(some 21), .mv (.t 2), none⟩,
 ⟨(some 22), .call (.f 57) [(.t 19), (.t 20), (.t 21)], none⟩,
 ⟨(some 18), .mv (.t 22), none⟩,
 ⟨(some 23), .ext 0 (.t 18), none⟩,
 ⟨(some 24), .ext 1 (.t 18), none⟩,
 ⟨(some 8), .alloc 56 1 [.slice none 0 0], none⟩,
 ⟨none, .store 1 (.t 8) (.t 23), none⟩,
 ⟨(some 9), .mv (.t 24), none⟩] [1, 2, 3, 7, 8, 9])
 (.seq (.ops [
 ⟨(some 26), .load (some 10) (.t 3), none⟩,
 ⟨(some 27), .mv (.t 1), none⟩,
 ⟨(some 28), .mv (.t 2), none⟩,
 ⟨(some 29), .call (.f 58) [(.t 26), (.t 27), (.t 28)], none⟩,
 ⟨(some 25), .mv (.t 29), none⟩,
 ⟨(some 30), .ext 0 (.t 25), none⟩,
 ⟨(some 31), .ext 1 (.t 25), none⟩,
 ⟨(some 10), .alloc 56 1 [.slice none 0 0], none⟩,
 ⟨none, .store 1 (.t 10) (.t 30), none⟩,
 ⟨(some 11), .mv (.t 31), none⟩] [7, 8, 9, 10, 11])
 (.seq (.ops [
 ⟨(some 32), .mv (.t 7), none⟩,
 ⟨(some 33), .mv (.t 32), none⟩,
 ⟨(some 34), .faddr 0 (.t 8), (some (33, true))⟩,
 ⟨(some 35), .load none (.t 34), (some (33, true))⟩,
 ⟨(some 36), .faddr 0 (.t 10), (some (33, true))⟩,
 ⟨(some 37), .load none (.t 36), (some (33, true))⟩,
 ⟨(some 38), .call (.f 59) [(.t 35), (.t 37)], (some (33, true))⟩,
 ⟨(some 39), .pick (.t 33) (.t 38) (.c (.bool false)), none⟩,
 ⟨(some 40), .mv (.t 39), none⟩,
 ⟨(some 41), .mv (.t 9), (some (40, true))⟩,
 ⟨(some 42), .mv (.t 11), (some (40, true))⟩,
 ⟨(some 43), .bin .eql (.t 41) (.t 42), (some (40, true))⟩,
 ⟨(some 44), .pick (.t 40) (.t 43) (.c (.bool false)), none⟩,
 ⟨(some 6), .mv (.t 44), none⟩] [6])
 .ret)))))),
 [.t 6]⟩
theorem k12 : chkF Try.prog Try.f12 c12 = true := by kernel_rfl

theorem PaperInk_spec (p : Pp) (l : List Pt) (bs : List Int) (hl : l.length < 9223372036854775808) (hb : bs.length < 9223372036854775808) : Pure Try.prog 12 [.agg p.cs, ptS l, inS bs] (bl true) := by
  refine Pure.of_body Try.call12 Try.func12 k12 (Nat.le_of_ble_eq_true rfl) ?_
  have hf := few_spec l bs
  have h2 := rInk_spec p l bs hl hb
  have h3 := sets_tiny (tiny_ink p l bs) (tiny_ink p l bs)
  rw [decide_eq_true rfl] at h3
  unfold c12
  by_cases hfew : bs.length ≤ 300 ∧ (l.length ≤ 30 ∨ 2000 < l.length ∧ l.length < 2100)
  · have h1 := Ink_spec p l bs (by omega) hb
    rw [decide_eq_true hfew] at hf
    generalize inkE p l bs = E at *
    (repeat' first
 | (refine AWPC.of_vcn rfl ?_; simp only [zT, zV, zS, zU, vcC, lateX, ex, strp, cnd, binA, kseq, kblk, kret, klp, Abs.one, elems, cells, scalar, eqC, Nat.reduceBEq, Nat.reduceAdd, Nat.reduceSub, Nat.reduceLT, Nat.reduceLeDiff, Nat.reduceMul, Nat.reduceEqDiff, cond_true, cond_false, if_true, if_false, reduceIte, implies_true, forall_const, ne_eq])
 | (simp (disch := omega) only [wr64, Int.zero_sub]; try simp only [zT, zV, zS, zU, vcC, lateX, ex, strp, cnd, binA, kseq, kblk, kret, klp, Abs.one, elems, cells, scalar, eqC, Nat.reduceBEq, Nat.reduceAdd, Nat.reduceSub, Nat.reduceLT, Nat.reduceLeDiff, Nat.reduceMul, Nat.reduceEqDiff, cond_true, cond_false, if_true, if_false, reduceIte, implies_true, forall_const, ne_eq])
 | (refine AWPC.both (fun _ => ?_) (fun _ => ?_))
 | (refine AWPC.imp (fun _ => ?_))
 | ((repeat (refine And.intro (by (intros; first | omega | (simp_all (config := { decide := false }); done) | fail)) ?_)); (first
 | (refine .inl ⟨_, _, _, _, rfl, fun _hc => ⟨by simp, awake_spec⟩, ?_⟩)
 | (refine .inl ⟨_, _, _, _, rfl, fun _hc => ⟨by simp, hf⟩, ?_⟩)
 | (refine .inl ⟨_, _, _, _, rfl, fun _hc => ⟨by simp, h1⟩, ?_⟩)
 | (refine .inl ⟨_, _, _, _, rfl, fun _hc => ⟨by simp, h2⟩, ?_⟩)
 | (refine .inl ⟨_, _, _, _, rfl, fun _hc => ⟨by simp, h3⟩, ?_⟩)
 | (refine ⟨_, _, _, _, rfl, fun _hc => ⟨by simp, awake_spec⟩, ?_⟩)
 | (refine ⟨_, _, _, _, rfl, fun _hc => ⟨by simp, hf⟩, ?_⟩)
 | (refine ⟨_, _, _, _, rfl, fun _hc => ⟨by simp, h1⟩, ?_⟩)
 | (refine ⟨_, _, _, _, rfl, fun _hc => ⟨by simp, h2⟩, ?_⟩)
 | (refine ⟨_, _, _, _, rfl, fun _hc => ⟨by simp, h3⟩, ?_⟩)
 | fail); (first | refine owp_of_exs ?_ | refine pre_of_exd ?_ | refine pre_of_exe ?_ | fail); simp only [zT, zV, zS, zU, vcC, lateX, ex, strp, cnd, binA, kseq, kblk, kret, klp, Abs.one, elems, cells, scalar, eqC, Nat.reduceBEq, Nat.reduceAdd, Nat.reduceSub, Nat.reduceLT, Nat.reduceLeDiff, Nat.reduceMul, Nat.reduceEqDiff, cond_true, cond_false, if_true, if_false, reduceIte, implies_true, forall_const, ne_eq])
 | ((refine .inl ⟨_, _, _, .any, rfl, fun h => absurd h Bool.false_ne_true, ?_⟩); refine owp_of_exs ?_; simp only [zT, zV, zS, zU, vcC, lateX, ex, strp, cnd, binA, kseq, kblk, kret, klp, Abs.one, elems, cells, scalar, eqC, Nat.reduceBEq, Nat.reduceAdd, Nat.reduceSub, Nat.reduceLT, Nat.reduceLeDiff, Nat.reduceMul, Nat.reduceEqDiff, cond_true, cond_false, if_true, if_false, reduceIte, implies_true, forall_const, ne_eq])
 | (refine ⟨by omega, ?_⟩)
 | (refine And.intro (by (intros; first | (simp_all (config := { decide := false }); done) | fail)) ?_)
 | fail)
    all_goals first
      | exact Frz.eq rfl (by simp)
      | exact Frz.eq (by simp) (by simp)
      | trace_state
  · rw [decide_eq_false hfew] at hf
    (repeat' first
 | (refine AWPC.of_vcn rfl ?_; simp only [zT, zV, zS, zU, vcC, lateX, ex, strp, cnd, binA, kseq, kblk, kret, klp, Abs.one, elems, cells, scalar, eqC, Nat.reduceBEq, Nat.reduceAdd, Nat.reduceSub, Nat.reduceLT, Nat.reduceLeDiff, Nat.reduceMul, Nat.reduceEqDiff, cond_true, cond_false, if_true, if_false, reduceIte, implies_true, forall_const, ne_eq])
 | (simp (disch := omega) only [wr64, Int.zero_sub]; try simp only [zT, zV, zS, zU, vcC, lateX, ex, strp, cnd, binA, kseq, kblk, kret, klp, Abs.one, elems, cells, scalar, eqC, Nat.reduceBEq, Nat.reduceAdd, Nat.reduceSub, Nat.reduceLT, Nat.reduceLeDiff, Nat.reduceMul, Nat.reduceEqDiff, cond_true, cond_false, if_true, if_false, reduceIte, implies_true, forall_const, ne_eq])
 | (refine AWPC.both (fun _ => ?_) (fun _ => ?_))
 | (refine AWPC.imp (fun _ => ?_))
 | ((repeat (refine And.intro (by (intros; first | omega | (simp_all (config := { decide := false }); done) | fail)) ?_)); (first
 | (refine .inl ⟨_, _, _, _, rfl, fun _hc => ⟨by simp, awake_spec⟩, ?_⟩)
 | (refine .inl ⟨_, _, _, _, rfl, fun _hc => ⟨by simp, hf⟩, ?_⟩)
 | (refine ⟨_, _, _, _, rfl, fun _hc => ⟨by simp, awake_spec⟩, ?_⟩)
 | (refine ⟨_, _, _, _, rfl, fun _hc => ⟨by simp, hf⟩, ?_⟩)
 | fail); (first | refine owp_of_exs ?_ | refine pre_of_exd ?_ | refine pre_of_exe ?_ | fail); simp only [zT, zV, zS, zU, vcC, lateX, ex, strp, cnd, binA, kseq, kblk, kret, klp, Abs.one, elems, cells, scalar, eqC, Nat.reduceBEq, Nat.reduceAdd, Nat.reduceSub, Nat.reduceLT, Nat.reduceLeDiff, Nat.reduceMul, Nat.reduceEqDiff, cond_true, cond_false, if_true, if_false, reduceIte, implies_true, forall_const, ne_eq])
 | ((refine .inl ⟨_, _, _, .any, rfl, fun h => absurd h Bool.false_ne_true, ?_⟩); refine owp_of_exs ?_; simp only [zT, zV, zS, zU, vcC, lateX, ex, strp, cnd, binA, kseq, kblk, kret, klp, Abs.one, elems, cells, scalar, eqC, Nat.reduceBEq, Nat.reduceAdd, Nat.reduceSub, Nat.reduceLT, Nat.reduceLeDiff, Nat.reduceMul, Nat.reduceEqDiff, cond_true, cond_false, if_true, if_false, reduceIte, implies_true, forall_const, ne_eq])
 | (refine ⟨by omega, ?_⟩)
 | (refine And.intro (by (intros; first | (simp_all (config := { decide := false }); done) | fail)) ?_)
 | fail)
    all_goals first
      | exact Frz.eq rfl (by simp)
      | (exfalso; omega)
      | (rename_i x; simp at x; done)
      | trace_state
end Go.Proofs.Ytgpdckmbojmlpaa

namespace Go.Proofs.Ytgpdckmbojmlpaa
open Go.Abs
set_option linter.unusedVariables false
set_option linter.unusedSimpArgs false
set_option maxHeartbeats 4000000
set_option maxRecDepth 100000
open Go.ChangeShapes Go.WideShapes Go.ChangeAt Go.RowKit

theorem own : ownKnob Try.prog.godebug = none := by kernel_rfl
theorem laidOut : laidOutB Try.prog = true := by kernel_rfl

theorem flat25 : Try.prog.cellTypes Try.prog.depth 25 = some [3, 3, 3, 3, 3, 3, 3, 3, 3, 3] := by kernel_rfl
theorem cells25 : Try.prog.cellsOf 25 = 10 := by kernel_rfl
theorem cells32 : Try.prog.cellsOf 32 = 3 := by kernel_rfl
theorem all10 : ∀ u ∈ [3, 3, 3, 3, 3, 3, 3, 3, 3, 3], u = 3 := by decide
theorem open_paper {w : World} {r : Reach} {base : Nat} {v : Value} (h : Value.okWide Try.prog w r base 25 v) : ∃ p : Pp, ∀ (W : World), RV W (fun _ => False) nob [] (.agg p.cs) v := by
  obtain ⟨zs, hl, rfl⟩ := open_flat 10 Try.underlying25 flat25 rfl cells25 (fun u hu => by rw [all10 u hu]; exact Try.underlying3) h
  match zs, hl with
  | [a, b, c, d, e, f, g, i, j, k], _ => exact ⟨⟨a, b, c, d, e, f, ⟨g, i⟩, ⟨j, k⟩⟩, fun W => rv_vs [a, b, c, d, e, f, g, i, j, k]⟩

end Go.Proofs.Ytgpdckmbojmlpaa

namespace Go.Proofs.Ytgpdckmbojmlpaa
open Go.Abs
set_option linter.unusedVariables false
set_option linter.unusedSimpArgs false
set_option maxHeartbeats 4000000
set_option maxRecDepth 100000
open Go.ChangeShapes Go.WideShapes Go.RowKit

theorem cells3 : Try.prog.cellsOf 3 = 1 := by kernel_rfl
theorem op3 : Opens Try.prog 3 Int (fun z => [n z]) (fun _ => True) := (opens_int Try.underlying3).to id (fun _ => rfl) (fun _ _ => trivial)
theorem op32 : Opens Try.prog 32 Pt Pt.cs (fun _ => True) :=
  (opens_struct Try.underlying32 cells32 (fun _ => rfl) (opensF_cons rfl cells3 op3 (fun _ => rfl) (opensF_cons rfl cells3 op3 (fun _ => rfl) (opensF_cons rfl cells3 op3 (fun _ => rfl) (opensF_nil _))))).to (fun a => ⟨a.1, a.2.1, a.2.2.1⟩) (fun _ => rfl) (fun _ _ => trivial)
theorem op53 : Opens Try.prog 53 (List Pt) (fun l => [ptS l]) (fun l => l.length < 9223372036854775808) :=
  (opens_slice Try.underlying53 cells32 (by decide) op32 (fun _ => rfl)).to id (fun _ => rfl) (fun _ h => h.1)
theorem op61 : Opens Try.prog 61 (List Int) (fun l => [inS l]) (fun l => l.length < 9223372036854775808) :=
  (opens_slice Try.underlying61 cells3 (by decide) op3 (fun _ => rfl)).to id (fun _ => rfl) (fun _ h => h.1)
section
variable {H : Type} {enc : TypeId × Value → H} {w : World} {r : Reach} {base b0 : Nat} {sp : Nat → Bool} {held : Bool} {v : Value} {d : DataW H} {ps : List MemPlace}

theorem open_pts (h : Value.okWide Try.prog w r base 53 v) (hx : DataW.Trod enc Try.prog w b0 sp held 53 v d ps) : ∃ l : List Pt, l.length < 9223372036854775808 ∧ RV w (fun _ => False) nob [] (ptS l) v := by
  obtain ⟨a, len, cap, rfl⟩ := okWide_slice Try.underlying53 h
  exact op53.one rfl hx
theorem open_is (h : Value.okWide Try.prog w r base 61 v) (hx : DataW.Trod enc Try.prog w b0 sp held 61 v d ps) : ∃ l : List Int, l.length < 9223372036854775808 ∧ RV w (fun _ => False) nob [] (inS l) v := by
  obtain ⟨a, len, cap, rfl⟩ := okWide_slice Try.underlying61 h
  exact op61.one rfl hx
end
end Go.Proofs.Ytgpdckmbojmlpaa

