import Derived.Test.YtgpdckmbojmlpaaATP4
import Derived.Test.YtgpdckmbojmlpaaRows
namespace Go.Proofs.Ytgpdckmbojmlpaa
open Go.Abs
set_option linter.unusedVariables false
set_option linter.unusedSimpArgs false
set_option maxHeartbeats 4000000
set_option maxRecDepth 100000
-- (*aneroid/paper.set).rise
def c74 : CF := ⟨57,
 (.seq (.ops [
 ⟨(some 5), .mv (.t 0), none⟩,
 ⟨(some 6), .nilc (.t 5), none⟩,
 ⟨(some 7), .faddr 0 (.t 6), none⟩,
 ⟨(some 8), .load none (.t 7), none⟩,
 ⟨(some 9), .len (.t 8), none⟩,
 ⟨(some 4), .mv (.t 9), none⟩] [0, 1, 4])
 (.seq (.seq (.ops [
 ⟨(some 10), .mv (.t 4), none⟩,
 ⟨(some 11), .bin .gtr (.t 10) (.c (.int .i64 0)), none⟩,
 ⟨(some 12), .mv (.t 11), none⟩,
 ⟨(some 13), .mv (.t 1), (some (12, true))⟩,
 ⟨(some 14), .mv (.t 0), (some (12, true))⟩,
 ⟨(some 15), .nilc (.t 14), (some (12, true))⟩,
 ⟨(some 16), .faddr 0 (.t 15), (some (12, true))⟩,
 ⟨(some 17), .load none (.t 16), (some (12, true))⟩,
 ⟨(some 18), .mv (.t 4), (some (12, true))⟩,
 ⟨(some 19), .bin .sub (.t 18) (.c (.int .i64 1)), (some (12, true))⟩,
 ⟨(some 20), .iaddr 2 (.t 17) (.t 19), (some (12, true))⟩,
 ⟨(some 21), .faddr 1 (.t 20), (some (12, true))⟩,
 ⟨(some 22), .load none (.t 21), (some (12, true))⟩,
 ⟨(some 23), .bin .add (.t 22) (.c (.int .i64 1)), (some (12, true))⟩,
 ⟨(some 24), .bin .leq (.t 13) (.t 23), (some (12, true))⟩,
 ⟨(some 25), .pick (.t 12) (.t 24) (.c (.bool false)), none⟩] [0, 1, 4, 25])
 (.cond (.t 25) (.seq (.draw [
 ⟨(some 26), .mv (.t 0), none⟩,
 ⟨(some 27), .nilc (.t 26), none⟩,
 ⟨(some 28), .faddr 0 (.t 27), none⟩,
 ⟨(some 29), .load none (.t 28), none⟩,
 ⟨(some 30), .mv (.t 4), none⟩,
 ⟨(some 31), .bin .sub (.t 30) (.c (.int .i64 1)), none⟩,
 ⟨(some 32), .mv (.t 0), none⟩,
 ⟨(some 33), .nilc (.t 32), none⟩,
 ⟨(some 34), .faddr 0 (.t 33), none⟩,
 ⟨(some 35), .load none (.t 34), none⟩,
 ⟨(some 36), .mv (.t 4), none⟩,
 ⟨(some 37), .bin .sub (.t 36) (.c (.int .i64 1)), none⟩,
 ⟨(some 38), .iaddr 2 (.t 35) (.t 37), none⟩,
 ⟨(some 39), .faddr 1 (.t 38), none⟩,
 ⟨(some 40), .load none (.t 39), none⟩,
 ⟨(some 41), .mv (.t 1), none⟩,
 ⟨(some 42), .mnx true (.t 40) (.t 41), none⟩,
 ⟨(some 43), .iaddr 2 (.t 29) (.t 31), none⟩,
 ⟨(some 44), .faddr 1 (.t 43), none⟩] [
 ⟨none, .store 1 (.t 44) (.t 42), none⟩] [])
 .ret)
 .skip))
 (.ops [
 ⟨(some 45), .mv (.t 0), none⟩,
 ⟨(some 46), .mv (.t 0), none⟩,
 ⟨(some 47), .nilc (.t 46), none⟩,
 ⟨(some 48), .faddr 0 (.t 47), none⟩,
 ⟨(some 49), .load none (.t 48), none⟩,
 ⟨(some 50), .mv (.t 1), none⟩,
 ⟨(some 51), .mv (.t 1), none⟩,
 ⟨(some 52), .build [.int .i64 0, .int .i64 0] [(0, 1, (.t 50)), (1, 1, (.t 51))], none⟩,
 ⟨(some 53), .bsl false 23 2 1 [.int .i64 0, .int .i64 0] [(0, 2, (.t 52))], none⟩,
 ⟨(some 54), .app 23 2 16 (.t 49) (.t 53), none⟩,
 ⟨(some 55), .nilc (.t 45), none⟩,
 ⟨(some 56), .faddr 0 (.t 55), none⟩,
 ⟨none, .store 1 (.t 56) (.t 54), none⟩] []))),
 []⟩

theorem k74 : chkF Try.prog Try.f74 c74 = true := by kernel_rfl

/-- A set of levels, and a level that rises. -/
def rise (l : List Sp) (v : Int) : List Sp :=
  match l.getLast? with
  | some s => if v ≤ s.hi + 1 then l.dropLast ++ [⟨s.lo, max s.hi v⟩] else l ++ [⟨v, v⟩]
  | none => [⟨v, v⟩]

abbrev setO (g m : Nat) : Ob := ⟨90, 1, [[.own g 0 m]], none⟩
abbrev spO (l : List Sp) : Ob := ⟨23, 2, l.map Sp.cs, none⟩

def risen (σ : Sto) (f g : Nat) (l : List Sp) : Sto := (σ.upd g 0 (spO l)).upd f 0 (setO g l.length)

theorem rise_last (init : List Sp) (s : Sp) (v : Int) : rise (init ++ [s]) v = if v ≤ s.hi + 1 then init ++ [⟨s.lo, max s.hi v⟩] else init ++ [s, ⟨v, v⟩] := by
  simp [rise]

theorem rise_spec (σ : Sto) (f g : Nat) (l : List Sp) (v : Int) (hf : σ.at f 0 = some (setO g l.length)) (hg : σ.at g 0 = some (spO l)) (hl : l.length < 1000000000)
    (hv : -1000000 ≤ v ∧ v ≤ 1000000) (hh : ∀ s ∈ l, -1000000 ≤ s.hi ∧ s.hi ≤ 1000000) : Does Try.prog 74 [.ptr f 0 1 0 0, n v] σ (fun _ σ' => σ' = risen σ f g (rise l v)) := by
  have hne : g ≠ f := by rintro rfl; rw [hf] at hg; injection hg with hg; cases hg
  have ho : ∀ o, (σ.upd g 0 o).at f 0 = some (setO g l.length) := fun o => by rw [at_upd_other (.inl hne)]; exact hf
  refine Does.of_body Try.call74 Try.func74 k74 (Nat.le_of_ble_eq_true rfl) ?_
  unfold c74
  rcases List.eq_nil_or_concat l with rfl | ⟨init, s, rfl⟩
  · (refine AWPC.of_vc ?_; simp only [zS, vcC, exs, exd, pickV, alS, Al.ob, grd, ex, ov, gt, argE, strp, cnd, sideL, I.os, st, wrap, keep, binA, kseq, kblk, kret, klp, resL, res1, one, ocalls, obj, elems, cells, scalar, vs, pick1, fillA, splice, chop, eqC, Nat.reduceBEq, Nat.reduceAdd, Nat.reduceSub, Nat.reduceLT, Nat.reduceLeDiff, Nat.reduceMul, Nat.reduceEqDiff, cond_true, cond_false, if_true, if_false, reduceIte, implies_true, forall_const, ne_eq, hf, hg, ho])
    (refine AWPC.of_vc ?_; simp only [zS, vcC, exs, exd, pickV, alS, Al.ob, grd, ex, ov, gt, argE, strp, cnd, sideL, I.os, st, wrap, keep, binA, kseq, kblk, kret, klp, resL, res1, one, ocalls, obj, elems, cells, scalar, vs, pick1, fillA, splice, chop, eqC, Nat.reduceBEq, Nat.reduceAdd, Nat.reduceSub, Nat.reduceLT, Nat.reduceLeDiff, Nat.reduceMul, Nat.reduceEqDiff, cond_true, cond_false, if_true, if_false, reduceIte, implies_true, forall_const, ne_eq, hf, hg, ho])
    (refine AWPC.of_vc ?_; simp only [zS, vcC, exs, exd, pickV, alS, Al.ob, grd, ex, ov, gt, argE, strp, cnd, sideL, I.os, st, wrap, keep, binA, kseq, kblk, kret, klp, resL, res1, one, ocalls, obj, elems, cells, scalar, vs, pick1, fillA, splice, chop, eqC, Nat.reduceBEq, Nat.reduceAdd, Nat.reduceSub, Nat.reduceLT, Nat.reduceLeDiff, Nat.reduceMul, Nat.reduceEqDiff, cond_true, cond_false, if_true, if_false, reduceIte, implies_true, forall_const, ne_eq, hf, hg, ho])
    (refine AWPC.of_vc ?_; simp only [zS, vcC, exs, exd, pickV, alS, Al.ob, grd, ex, ov, gt, argE, strp, cnd, sideL, I.os, st, wrap, keep, binA, kseq, kblk, kret, klp, resL, res1, one, ocalls, obj, elems, cells, scalar, vs, pick1, fillA, splice, chop, eqC, Nat.reduceBEq, Nat.reduceAdd, Nat.reduceSub, Nat.reduceLT, Nat.reduceLeDiff, Nat.reduceMul, Nat.reduceEqDiff, cond_true, cond_false, if_true, if_false, reduceIte, implies_true, forall_const, ne_eq, hf, hg, ho])
    (refine AWPC.of_vc ?_; simp only [zS, vcC, exs, exd, pickV, alS, Al.ob, grd, ex, ov, gt, argE, strp, cnd, sideL, I.os, st, wrap, keep, binA, kseq, kblk, kret, klp, resL, res1, one, ocalls, obj, elems, cells, scalar, vs, pick1, fillA, splice, chop, eqC, Nat.reduceBEq, Nat.reduceAdd, Nat.reduceSub, Nat.reduceLT, Nat.reduceLeDiff, Nat.reduceMul, Nat.reduceEqDiff, cond_true, cond_false, if_true, if_false, reduceIte, implies_true, forall_const, ne_eq, hf, hg, ho])
    refine ⟨fun e he => ?_, rfl⟩
    obtain rfl : e = 0 := by omega
    rfl
  · rw [List.concat_eq_append] at *
    have hl' : init.length + 1 < 1000000000 := by simpa using hl
    have hs := hh s (by simp)
    have hlen : (init ++ [s]).length = init.length + 1 := by simp
    have hmap : (init ++ [s]).map Sp.cs = init.map Sp.cs ++ [s.cs] := by simp
    have hw : IntKind.i64.wrap (((init.length + 1 : Nat) : Int) - 1) = (init.length : Int) := by rw [wr64 _ (by omega) (by omega)]; omega
    have hget : (init.map Sp.cs ++ [s.cs]).getD init.length [] = s.cs := by simp [List.getD_eq_getElem?_getD]
    rw [hlen] at hf ho
    unfold spO at hg
    rw [hmap] at hg
    (refine AWPC.of_vc ?_; simp only [zS, vcC, exs, exd, pickV, alS, Al.ob, grd, ex, ov, gt, argE, strp, cnd, sideL, I.os, st, wrap, keep, binA, kseq, kblk, kret, klp, resL, res1, one, ocalls, obj, elems, cells, scalar, vs, pick1, fillA, splice, chop, eqC, Nat.reduceBEq, Nat.reduceAdd, Nat.reduceSub, Nat.reduceLT, Nat.reduceLeDiff, Nat.reduceMul, Nat.reduceEqDiff, cond_true, cond_false, if_true, if_false, reduceIte, implies_true, forall_const, ne_eq, hf, hg, hlen, hmap])
    refine ⟨by simp, ?_⟩
    (refine AWPC.of_vc ?_; simp only [zS, vcC, exs, exd, pickV, alS, Al.ob, grd, ex, ov, gt, argE, strp, cnd, sideL, I.os, st, wrap, keep, binA, kseq, kblk, kret, klp, resL, res1, one, ocalls, obj, elems, cells, scalar, vs, pick1, fillA, splice, chop, eqC, Nat.reduceBEq, Nat.reduceAdd, Nat.reduceSub, Nat.reduceLT, Nat.reduceLeDiff, Nat.reduceMul, Nat.reduceEqDiff, cond_true, cond_false, if_true, if_false, reduceIte, implies_true, forall_const, ne_eq, hf, hg, hlen, hmap, hw, hget])
    refine ⟨fun _ => ⟨by simp, by omega, by omega⟩, fun _ => by simp, fun _ => ⟨by simp, by omega⟩, ?_⟩
    rw [wr64 (s.hi + 1) (by omega) (by omega)]
    have hset : ∀ X : List AV, (init.map Sp.cs ++ [s.cs]).set init.length X = init.map Sp.cs ++ [X] := fun X => by
      rw [List.set_append_right _ _ (by simp)]; simp
    refine AWPC.of_vc ?_; simp only [zS, vcC, exs, exd, pickV, alS, Al.ob, grd, ex, ov, gt, argE, strp, cnd, sideL, I.os, st, wrap, keep, binA, kseq, kblk, kret, klp, resL, res1, one, ocalls, obj, elems, cells, scalar, vs, pick1, fillA, splice, chop, eqC, Nat.reduceBEq, Nat.reduceAdd, Nat.reduceSub, Nat.reduceLT, Nat.reduceLeDiff, Nat.reduceMul, Nat.reduceEqDiff, cond_true, cond_false, if_true, if_false, reduceIte, implies_true, forall_const, ne_eq]
    refine ⟨fun hle => ?_, fun hgt => ?_⟩
    · (refine AWPC.of_vc ?_; simp only [zS, vcC, exs, exd, pickV, alS, Al.ob, grd, ex, ov, gt, argE, strp, cnd, sideL, I.os, st, wrap, keep, binA, kseq, kblk, kret, klp, resL, res1, one, ocalls, obj, elems, cells, scalar, vs, pick1, fillA, splice, chop, eqC, Nat.reduceBEq, Nat.reduceAdd, Nat.reduceSub, Nat.reduceLT, Nat.reduceLeDiff, Nat.reduceMul, Nat.reduceEqDiff, cond_true, cond_false, if_true, if_false, reduceIte, implies_true, forall_const, ne_eq, hf, hg, hlen, hmap, hw, hget, hset, ho])
      refine ⟨⟨by simp, by omega, by omega⟩, by simp, ⟨by simp, by omega⟩, ⟨by simp, by omega, by omega⟩, by simp, ⟨by simp, by omega⟩, ?_⟩
      refine AWPC.of_vc ?_; simp only [zS, vcC, exs, exd, pickV, alS, Al.ob, grd, ex, ov, gt, argE, strp, cnd, sideL, I.os, st, wrap, keep, binA, kseq, kblk, kret, klp, resL, res1, one, ocalls, obj, elems, cells, scalar, vs, pick1, fillA, splice, chop, eqC, Nat.reduceBEq, Nat.reduceAdd, Nat.reduceSub, Nat.reduceLT, Nat.reduceLeDiff, Nat.reduceMul, Nat.reduceEqDiff, cond_true, cond_false, if_true, if_false, reduceIte, implies_true, forall_const, ne_eq]
      rw [rise_last, if_pos hle.2, risen]
      have e1 : spO (init ++ [⟨s.lo, max s.hi v⟩]) = ⟨23, 2, init.map Sp.cs ++ [[n s.lo, n (max s.hi v)]], none⟩ := by simp [spO]
      rw [e1]
      exact (upd_self (by rw [ho]; simp)).symm
    · (refine AWPC.of_vc ?_; simp only [zS, vcC, exs, exd, pickV, alS, Al.ob, grd, ex, ov, gt, argE, strp, cnd, sideL, I.os, st, wrap, keep, binA, kseq, kblk, kret, klp, resL, res1, one, ocalls, obj, elems, cells, scalar, vs, pick1, fillA, splice, chop, eqC, Nat.reduceBEq, Nat.reduceAdd, Nat.reduceSub, Nat.reduceLT, Nat.reduceLeDiff, Nat.reduceMul, Nat.reduceEqDiff, cond_true, cond_false, if_true, if_false, reduceIte, implies_true, forall_const, ne_eq, hf, hg, hlen, hmap, hw, hget, hset, ho])
      (refine AWPC.of_vc ?_; simp only [zS, vcC, exs, exd, pickV, alS, Al.ob, grd, ex, ov, gt, argE, strp, cnd, sideL, I.os, st, wrap, keep, binA, kseq, kblk, kret, klp, resL, res1, one, ocalls, obj, elems, cells, scalar, vs, pick1, fillA, splice, chop, eqC, Nat.reduceBEq, Nat.reduceAdd, Nat.reduceSub, Nat.reduceLT, Nat.reduceLeDiff, Nat.reduceMul, Nat.reduceEqDiff, cond_true, cond_false, if_true, if_false, reduceIte, implies_true, forall_const, ne_eq, hf, hg, hlen, hmap, hw, hget, hset, ho])
      refine ⟨⟨fun e he => ?_, by simp, by omega⟩, ?_⟩
      · obtain rfl : e = 0 := by omega
        rfl
      · rw [rise_last, if_neg (by omega), risen]
        simp [spO, setO]
end Go.Proofs.Ytgpdckmbojmlpaa
