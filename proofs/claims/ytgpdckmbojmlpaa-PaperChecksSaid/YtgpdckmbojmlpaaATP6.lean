import Derived.Test.YtgpdckmbojmlpaaATP5
import Derived.Test.YtgpdckmbojmlpaaRows
namespace Go.Proofs.Ytgpdckmbojmlpaa
open Go.Abs
set_option linter.unusedVariables false
set_option linter.unusedSimpArgs false
set_option maxHeartbeats 4000000
set_option maxRecDepth 100000
-- aneroid/paper.Means
def c21 : CF := ⟨48,
 (.seq (.ops [
 ⟨(some 3), .box false 25 10 (.t 0), none⟩,
 ⟨(some 4), .box false 32 3 (.t 1), none⟩,
 ⟨(some 5), .box false 3 1 (.t 2), none⟩,
 ⟨(some 6), .mv (.c (.slice none 0 0)), none⟩,
 ⟨(some 7), .mv (.c (.int .i64 0)), none⟩] [3, 4, 5, 11, 12, 34, 35, 36, 37, 38, 39, 40, 42, 43, 44])
 (.seq (.ops [
 ⟨(some 14), .load (some 10) (.t 3), none⟩,
 ⟨(some 15), .load (some 3) (.t 4), none⟩,
 ⟨(some 16), .bsl false 32 3 1 [.int .i64 0, .int .i64 0, .int .i64 0] [(0, 3, (.t 15))], none⟩,
 ⟨(some 17), .call (.f 71) [(.t 14), (.t 16)], none⟩,
 ⟨(some 13), .mv (.t 17), none⟩,
 ⟨(some 18), .ext 0 (.t 13), none⟩,
 ⟨(some 19), .ext 1 (.t 13), none⟩,
 ⟨(some 8), .alloc 85 10 [.int .i64 0, .int .i64 0, .int .i64 0, .int .i64 0, .int .i64 0, .int .i64 0, .int .i64 0, .int .i64 0, .int .i64 0, .int .i64 0], none⟩,
 ⟨none, .store 10 (.t 8) (.t 18), none⟩,
 ⟨(some 9), .mv (.t 19), none⟩] [3, 4, 5, 8, 9, 11, 12, 34, 35, 36, 37, 38, 39, 40, 42, 43, 44])
 (.seq (.block 0 (.seq (.ops [
 ⟨(some 21), .mv (.t 9), none⟩,
 ⟨(some 22), .bin .neq (.t 21) (.c (.int .i64 0)), none⟩,
 ⟨(some 20), .mv (.t 22), none⟩] [3, 4, 5, 8, 9, 11, 12, 20, 34, 35, 36, 37, 38, 39, 40, 42, 43, 44])
 (.cond (.t 20) (.seq (.ops [
 ⟨(some 23), .mv (.t 9), none⟩,
 ⟨(some 6), .mv (.c (.slice none 0 0)), none⟩,
 ⟨(some 7), .mv (.t 23), none⟩] [6, 7])
 .ret)
 (.seq (.ops [
 ⟨(some 25), .load none (.t 5), none⟩,
 ⟨(some 26), .faddr 5 (.t 3), none⟩,
 ⟨(some 27), .load none (.t 26), none⟩,
 ⟨(some 28), .bin .sub (.t 27) (.c (.int .i64 1)), none⟩,
 ⟨(some 29), .call (.f 72) [(.t 25), (.c (.int .i64 0)), (.t 28)], none⟩,
 ⟨(some 30), .un .not (.t 29), none⟩,
 ⟨(some 24), .mv (.t 30), none⟩] [4, 5, 8, 11, 12, 24, 34, 35, 36, 37, 38, 39, 40, 42, 43, 44])
 (.cond (.t 24) (.seq (.ops [
 ⟨(some 6), .mv (.c (.slice none 0 0)), none⟩,
 ⟨(some 7), .mv (.c (.int .i64 1)), none⟩] [6, 7])
 .ret)
 .skip)))))
 (.seq (.ops [
 ⟨(some 10), .alloc 90 1 [.slice none 0 0], none⟩] [4, 5, 8, 10, 11, 12, 34, 35, 36, 37, 38, 39, 40, 42, 43, 44])
 (.seq (.seq (.ops [
 ⟨(some 31), .load (some 10) (.t 8), none⟩,
 ⟨(some 32), .load (some 3) (.t 4), none⟩,
 ⟨(some 33), .call (.f 73) [(.t 31), (.t 32)], none⟩] [5, 8, 10, 11, 12, 33, 34, 35, 36, 37, 38, 39, 40, 42, 43, 44])
 (.block 1 (.rng (.t 33) [34, 35] (.seq (.ops [
 ⟨(some 11), .mv (.t 34), none⟩] [5, 8, 10, 11, 34, 35, 36, 37, 38, 39, 40, 42, 43, 44])
 (.ops [
 ⟨(some 12), .alloc 23 2 [.int .i64 0, .int .i64 0], none⟩,
 ⟨none, .store 2 (.t 12) (.t 35), none⟩] [5, 8, 10, 11, 12, 34, 35, 36, 37, 38, 39, 40, 42, 43, 44]))
 (.block 2 (.seq (.ops [
 ⟨(some 36), .load none (.t 5), none⟩,
 ⟨(some 37), .faddr 0 (.t 12), none⟩,
 ⟨(some 38), .load none (.t 37), none⟩,
 ⟨(some 39), .faddr 1 (.t 12), none⟩,
 ⟨(some 40), .load none (.t 39), none⟩,
 ⟨(some 41), .call (.f 72) [(.t 36), (.t 38), (.t 40)], none⟩] [5, 8, 10, 11, 12, 34, 35, 36, 37, 38, 39, 40, 41, 42, 43, 44])
 (.cond (.t 41) (.ops [
 ⟨(some 42), .load (some 10) (.t 8), none⟩,
 ⟨(some 43), .mv (.t 11), none⟩,
 ⟨(some 44), .call (.f 75) [(.t 42), (.t 43)], none⟩,
 ⟨(some 45), .call (.f 74) [(.t 10), (.t 44)], none⟩] [5, 8, 10, 11, 12, 34, 35, 36, 37, 38, 39, 40, 42, 43, 44])
 .skip))))))
 (.seq (.ops [
 ⟨(some 46), .faddr 0 (.t 10), none⟩,
 ⟨(some 47), .load none (.t 46), none⟩,
 ⟨(some 6), .mv (.t 47), none⟩,
 ⟨(some 7), .mv (.c (.int .i64 0)), none⟩] [6, 7])
 .ret)))))),
 [.t 6, .t 7]⟩

theorem k21 : chkF Try.prog Try.f21 c21 = true := by kernel_rfl

/-- Does a printed height of a point have a column? -/
abbrev Pp.hit (p : Pp) (t : Pt) (c y : Int) : Prop := ((p.along t).lo - p.arc y) / p.pi ≤ c ∧ c ≤ ((p.along t).hi - p.arc y) / p.pi

def Pp.ms (p : Pp) (t : Pt) (c : Int) : Nat → List Sp
  | 0 => []
  | k + 1 => if p.hit t c ((p.heights t).lo + k) then rise (p.ms t c k) (p.level ((p.heights t).lo + k)) else p.ms t c k

theorem rise_len (l : List Sp) (v : Int) : (rise l v).length ≤ l.length + 1 := by
  rcases List.eq_nil_or_concat l with rfl | ⟨i, s, rfl⟩
  · simp [rise]
  · rw [List.concat_eq_append, rise_last]; split <;> simp

theorem rise_bd (l : List Sp) (v A : Int) (hv : 0 ≤ v ∧ v ≤ A) (h : ∀ s ∈ l, 0 ≤ s.hi ∧ s.hi ≤ A) : ∀ s ∈ rise l v, 0 ≤ s.hi ∧ s.hi ≤ A := by
  rcases List.eq_nil_or_concat l with rfl | ⟨i, s, rfl⟩
  · simp [rise]; omega
  · rw [List.concat_eq_append] at h ⊢
    rw [rise_last]
    have hs := h s (by simp)
    split
    · intro s' hs'
      rcases List.mem_append.1 hs' with h1 | h1
      · exact h s' (by simp [h1])
      · simp at h1; subst h1; simp only; omega
    · intro s' hs'
      rcases List.mem_append.1 hs' with h1 | h1
      · exact h s' (by simp [h1])
      · simp at h1; rcases h1 with rfl | rfl
        · exact hs
        · exact hv

theorem level_bd (p : Pp) (y : Int) (hg : p.good) (h0 : 0 ≤ y) (h1 : y ≤ p.he) : 0 ≤ p.level y ∧ p.level y ≤ 12000 := by
  obtain ⟨g1, g2, g3, g4, g5, g6, g7, g8, g9, g10, g11, g12, g13⟩ := hg
  have hm := Int.mul_nonneg h0 (show 0 ≤ p.hi - p.lo by omega)
  have h2 : y * (p.hi - p.lo) ≤ p.he * (p.hi - p.lo) := Int.mul_le_mul_of_nonneg_right h1 (by omega)
  have h3 : (y * (p.hi - p.lo)).tdiv p.he ≤ p.hi - p.lo := by
    rw [Int.tdiv_eq_ediv_of_nonneg hm]
    have := Int.ediv_le_ediv (show 0 < p.he by omega) h2
    rw [Int.mul_ediv_cancel_left _ (by omega)] at this
    exact this
  have h4 : 0 ≤ (y * (p.hi - p.lo)).tdiv p.he := Int.tdiv_nonneg hm (by omega)
  unfold Pp.level
  omega

theorem ms_inv (p : Pp) (t : Pt) (c : Int) (hg : p.good) (hl : 0 ≤ (p.heights t).lo) (hh : (p.heights t).hi ≤ p.he) : ∀ k, k ≤ p.cnt t → (p.ms t c k).length ≤ k ∧ ∀ s ∈ p.ms t c k, 0 ≤ s.hi ∧ s.hi ≤ 12000
  | 0, _ => by simp [Pp.ms]
  | k + 1, hk => by
    obtain ⟨h1, h2⟩ := ms_inv p t c hg hl hh k (by omega)
    unfold Pp.ms
    split
    · have := rise_len (p.ms t c k) (p.level ((p.heights t).lo + k))
      exact ⟨by omega, rise_bd _ _ _ (level_bd p _ hg (by omega) (by unfold Pp.cnt at hk; omega)) h2⟩
    · exact ⟨by omega, h2⟩

def Pp.Means (p : Pp) (t : Pt) (c : Int) : List Sp × Int :=
  if p.perr1 t ≠ 0 then ([], p.perr1 t) else if ¬ (0 ≤ c ∧ c ≤ p.co - 1) then ([], 1) else (p.ms t c (p.cnt t), 0)

theorem Frz.nil {σ : Sto} {k : Nat} : Frz σ (.v (.slice none 0 0)) (.sl k []) := fun w X β x hs hx => by
  cases hx; exact .slnil k

theorem frz_sp {σ : Sto} {f i : Nat} {l : List Sp} (h : σ.at f i = some (spO l)) : Frz σ (.own f i l.length) (spS l) := by
  refine Frz.own (o := spO l) (es := l.map Sp.cs) (show (2 : Nat) ≠ 0 by decide) h (by simp) (by simp) (fun e j he hj => ?_) fun e he => ?_
  · obtain ⟨x, hx⟩ : ∃ x, l[e]? = some x := ⟨_, List.getElem?_eq_getElem he⟩
    rw [getD_map hx]
    match j, hj with
    | 0, _ => exact Frz.eq rfl (by simp)
    | 1, _ => exact Frz.eq rfl (by simp)
  · obtain ⟨x, hx⟩ : ∃ x, l[e]? = some x := ⟨_, List.getElem?_eq_getElem he⟩
    rw [getD_map hx]; rfl

theorem Means_spec (p : Pp) (t : Pt) (c : Int) : Pure Try.prog 21 [.agg p.cs, .agg t.cs, n c] (.tup [spS (p.Means t c).1, n (p.Means t c).2]) := by
  refine Pure.of_body Try.call21 Try.func21 k21 (Nat.le_of_ble_eq_true rfl) ?_
  unfold c21
  refine AWPC.of_vc ?_; simp only [zS, vcC, exs, exd, pickV, alS, Al.ob, grd, ex, ov, gt, argE, strp, cnd, sideL, I.os, st, wrap, keep, binA, kseq, kblk, kret, klp, resL, res1, one, ocalls, obj, elems, cells, scalar, vs, pick1, fillA, splice, chop, eqC, Nat.reduceBEq, Nat.reduceAdd, Nat.reduceSub, Nat.reduceLT, Nat.reduceLeDiff, Nat.reduceMul, Nat.reduceEqDiff, cond_true, cond_false, if_true, if_false, reduceIte, implies_true, forall_const, ne_eq]
  refine AWPC.of_vc ?_; simp only [zS, vcC, exs, exd, pickV, alS, Al.ob, grd, ex, ov, gt, argE, strp, cnd, sideL, I.os, st, wrap, keep, binA, kseq, kblk, kret, klp, resL, res1, one, ocalls, obj, elems, cells, scalar, vs, pick1, fillA, splice, chop, eqC, Nat.reduceBEq, Nat.reduceAdd, Nat.reduceSub, Nat.reduceLT, Nat.reduceLeDiff, Nat.reduceMul, Nat.reduceEqDiff, cond_true, cond_false, if_true, if_false, reduceIte, implies_true, forall_const, ne_eq]
  ((repeat (refine And.intro (by (intros; simp_all (config := { decide := false }); done)) ?_)); refine .inl ⟨_, _, _, _, rfl, fun _hc => ⟨by simp, read1_spec p t⟩, ?_⟩; refine owp_of_exs ?_; simp only [zS, vcC, exs, exd, pickV, alS, Al.ob, grd, ex, ov, gt, argE, strp, cnd, sideL, I.os, st, wrap, keep, binA, kseq, kblk, kret, klp, resL, res1, one, ocalls, obj, elems, cells, scalar, vs, pick1, fillA, splice, chop, eqC, Nat.reduceBEq, Nat.reduceAdd, Nat.reduceSub, Nat.reduceLT, Nat.reduceLeDiff, Nat.reduceMul, Nat.reduceEqDiff, cond_true, cond_false, if_true, if_false, reduceIte, implies_true, forall_const, ne_eq])
  refine AWPC.of_vc ?_; simp only [zS, vcC, exs, exd, pickV, alS, Al.ob, grd, ex, ov, gt, argE, strp, cnd, sideL, I.os, st, wrap, keep, binA, kseq, kblk, kret, klp, resL, res1, one, ocalls, obj, elems, cells, scalar, vs, pick1, fillA, splice, chop, eqC, Nat.reduceBEq, Nat.reduceAdd, Nat.reduceSub, Nat.reduceLT, Nat.reduceLeDiff, Nat.reduceMul, Nat.reduceEqDiff, cond_true, cond_false, if_true, if_false, reduceIte, implies_true, forall_const, ne_eq]
  refine AWPC.of_vc ?_; simp only [zS, vcC, exs, exd, pickV, alS, Al.ob, grd, ex, ov, gt, argE, strp, cnd, sideL, I.os, st, wrap, keep, binA, kseq, kblk, kret, klp, resL, res1, one, ocalls, obj, elems, cells, scalar, vs, pick1, fillA, splice, chop, eqC, Nat.reduceBEq, Nat.reduceAdd, Nat.reduceSub, Nat.reduceLT, Nat.reduceLeDiff, Nat.reduceMul, Nat.reduceEqDiff, cond_true, cond_false, if_true, if_false, reduceIte, implies_true, forall_const, ne_eq]
  refine ⟨fun he => ?_, fun he => ?_⟩
  · refine AWPC.of_vc ?_; simp only [zS, vcC, exs, exd, pickV, alS, Al.ob, grd, ex, ov, gt, argE, strp, cnd, sideL, I.os, st, wrap, keep, binA, kseq, kblk, kret, klp, resL, res1, one, ocalls, obj, elems, cells, scalar, vs, pick1, fillA, splice, chop, eqC, Nat.reduceBEq, Nat.reduceAdd, Nat.reduceSub, Nat.reduceLT, Nat.reduceLeDiff, Nat.reduceMul, Nat.reduceEqDiff, cond_true, cond_false, if_true, if_false, reduceIte, implies_true, forall_const, ne_eq]
    refine AWPC.of_vc ?_; simp only [zS, vcC, exs, exd, pickV, alS, Al.ob, grd, ex, ov, gt, argE, strp, cnd, sideL, I.os, st, wrap, keep, binA, kseq, kblk, kret, klp, resL, res1, one, ocalls, obj, elems, cells, scalar, vs, pick1, fillA, splice, chop, eqC, Nat.reduceBEq, Nat.reduceAdd, Nat.reduceSub, Nat.reduceLT, Nat.reduceLeDiff, Nat.reduceMul, Nat.reduceEqDiff, cond_true, cond_false, if_true, if_false, reduceIte, implies_true, forall_const, ne_eq]
    refine Frz.tup rfl (fun i hi => ?_)
    rw [Pp.Means, if_pos he]
    match i, hi with
    | 0, _ => exact Frz.nil
    | 1, _ => exact Frz.eq rfl (by simp)
  · obtain ⟨hg, ht⟩ := perr0 he
    have hg' := hg
    obtain ⟨g1, g2, g3, g4, g5, g6, g7, g8, g9, g10, g11, g12, g13⟩ := hg'
    rw [orz1 hg]
    refine AWPC.of_vc ?_; simp only [zS, vcC, exs, exd, pickV, alS, Al.ob, grd, ex, ov, gt, argE, strp, cnd, sideL, I.os, st, wrap, keep, binA, kseq, kblk, kret, klp, resL, res1, one, ocalls, obj, elems, cells, scalar, vs, pick1, fillA, splice, chop, eqC, Nat.reduceBEq, Nat.reduceAdd, Nat.reduceSub, Nat.reduceLT, Nat.reduceLeDiff, Nat.reduceMul, Nat.reduceEqDiff, cond_true, cond_false, if_true, if_false, reduceIte, implies_true, forall_const, ne_eq]
    rw [wr64 (p.co - 1) (by omega) (by omega)]
    ((repeat (refine And.intro (by (intros; simp_all (config := { decide := false }); done)) ?_)); refine .inl ⟨_, _, _, _, rfl, fun _hc => ⟨by simp, within_spec _ _ _⟩, ?_⟩; refine owp_of_exs ?_; simp only [zS, vcC, exs, exd, pickV, alS, Al.ob, grd, ex, ov, gt, argE, strp, cnd, sideL, I.os, st, wrap, keep, binA, kseq, kblk, kret, klp, resL, res1, one, ocalls, obj, elems, cells, scalar, vs, pick1, fillA, splice, chop, eqC, Nat.reduceBEq, Nat.reduceAdd, Nat.reduceSub, Nat.reduceLT, Nat.reduceLeDiff, Nat.reduceMul, Nat.reduceEqDiff, cond_true, cond_false, if_true, if_false, reduceIte, implies_true, forall_const, ne_eq])
    refine AWPC.of_vc ?_; simp only [zS, vcC, exs, exd, pickV, alS, Al.ob, grd, ex, ov, gt, argE, strp, cnd, sideL, I.os, st, wrap, keep, binA, kseq, kblk, kret, klp, resL, res1, one, ocalls, obj, elems, cells, scalar, vs, pick1, fillA, splice, chop, eqC, Nat.reduceBEq, Nat.reduceAdd, Nat.reduceSub, Nat.reduceLT, Nat.reduceLeDiff, Nat.reduceMul, Nat.reduceEqDiff, cond_true, cond_false, if_true, if_false, reduceIte, implies_true, forall_const, ne_eq]
    refine ⟨fun hc => ?_, fun hc => ?_⟩
    · refine AWPC.of_vc ?_; simp only [zS, vcC, exs, exd, pickV, alS, Al.ob, grd, ex, ov, gt, argE, strp, cnd, sideL, I.os, st, wrap, keep, binA, kseq, kblk, kret, klp, resL, res1, one, ocalls, obj, elems, cells, scalar, vs, pick1, fillA, splice, chop, eqC, Nat.reduceBEq, Nat.reduceAdd, Nat.reduceSub, Nat.reduceLT, Nat.reduceLeDiff, Nat.reduceMul, Nat.reduceEqDiff, cond_true, cond_false, if_true, if_false, reduceIte, implies_true, forall_const, ne_eq]
      refine AWPC.of_vc ?_; simp only [zS, vcC, exs, exd, pickV, alS, Al.ob, grd, ex, ov, gt, argE, strp, cnd, sideL, I.os, st, wrap, keep, binA, kseq, kblk, kret, klp, resL, res1, one, ocalls, obj, elems, cells, scalar, vs, pick1, fillA, splice, chop, eqC, Nat.reduceBEq, Nat.reduceAdd, Nat.reduceSub, Nat.reduceLT, Nat.reduceLeDiff, Nat.reduceMul, Nat.reduceEqDiff, cond_true, cond_false, if_true, if_false, reduceIte, implies_true, forall_const, ne_eq]
      refine Frz.tup rfl (fun i hi => ?_)
      rw [Pp.Means, if_neg (by simp [he]), if_pos hc]
      match i, hi with
      | 0, _ => exact Frz.nil
      | 1, _ => exact Frz.eq rfl (by simp)
    · refine AWPC.of_vc ?_; simp only [zS, vcC, exs, exd, pickV, alS, Al.ob, grd, ex, ov, gt, argE, strp, cnd, sideL, I.os, st, wrap, keep, binA, kseq, kblk, kret, klp, resL, res1, one, ocalls, obj, elems, cells, scalar, vs, pick1, fillA, splice, chop, eqC, Nat.reduceBEq, Nat.reduceAdd, Nat.reduceSub, Nat.reduceLT, Nat.reduceLeDiff, Nat.reduceMul, Nat.reduceEqDiff, cond_true, cond_false, if_true, if_false, reduceIte, implies_true, forall_const, ne_eq]
      refine AWPC.of_vc ?_; simp only [zS, vcC, exs, exd, pickV, alS, Al.ob, grd, ex, ov, gt, argE, strp, cnd, sideL, I.os, st, wrap, keep, binA, kseq, kblk, kret, klp, resL, res1, one, ocalls, obj, elems, cells, scalar, vs, pick1, fillA, splice, chop, eqC, Nat.reduceBEq, Nat.reduceAdd, Nat.reduceSub, Nat.reduceLT, Nat.reduceLeDiff, Nat.reduceMul, Nat.reduceEqDiff, cond_true, cond_false, if_true, if_false, reduceIte, implies_true, forall_const, ne_eq]
      refine AWPC.own0c 23 2 (f := 1) (i := 0) (e := 0) (j := 0) rfl (by simp) rfl ?_
      refine AWPC.of_vc ?_; simp only [zS, vcC, exs, exd, pickV, alS, Al.ob, grd, ex, ov, gt, argE, strp, cnd, sideL, I.os, st, wrap, keep, binA, kseq, kblk, kret, klp, resL, res1, one, ocalls, obj, elems, cells, scalar, vs, pick1, fillA, splice, chop, eqC, Nat.reduceBEq, Nat.reduceAdd, Nat.reduceSub, Nat.reduceLT, Nat.reduceLeDiff, Nat.reduceMul, Nat.reduceEqDiff, cond_true, cond_false, if_true, if_false, reduceIte, implies_true, forall_const, ne_eq]
      ((repeat (refine And.intro (by (intros; simp_all (config := { decide := false }); done)) ?_)); refine .inl ⟨_, _, _, _, rfl, fun _hc => ⟨by simp, line_spec p t⟩, ?_⟩; refine owp_of_exs ?_; simp only [zS, vcC, exs, exd, pickV, alS, Al.ob, grd, ex, ov, gt, argE, strp, cnd, sideL, I.os, st, wrap, keep, binA, kseq, kblk, kret, klp, resL, res1, one, ocalls, obj, elems, cells, scalar, vs, pick1, fillA, splice, chop, eqC, Nat.reduceBEq, Nat.reduceAdd, Nat.reduceSub, Nat.reduceLT, Nat.reduceLeDiff, Nat.reduceMul, Nat.reduceEqDiff, cond_true, cond_false, if_true, if_false, reduceIte, implies_true, forall_const, ne_eq])
      have ht' := ht
      obtain ⟨t1, t2, t3, t4, t5, t6⟩ := ht'
      have hy0 := places_bd p.cl t.y t.h g13 ⟨t3, t4⟩ ⟨t5, t6⟩
      have hyl : 0 ≤ (p.heights t).lo := hy0.1
      have hyh : (p.heights t).hi ≤ p.he := Int.min_le_right _ _
      have hcnt : p.cnt t ≤ 400001 := by unfold Pp.cnt; omega
      have hinv := ms_inv p t c hg hyl hyh
      refine AWPC.of_vc ?_; simp only [zS, vcC, exs, exd, pickV, alS, Al.ob, grd, ex, ov, gt, argE, strp, cnd, sideL, I.os, st, wrap, keep, binA, kseq, kblk, kret, klp, resL, res1, one, ocalls, obj, elems, cells, scalar, vs, pick1, fillA, splice, chop, eqC, Nat.reduceBEq, Nat.reduceAdd, Nat.reduceSub, Nat.reduceLT, Nat.reduceLeDiff, Nat.reduceMul, Nat.reduceEqDiff, cond_true, cond_false, if_true, if_false, reduceIte, implies_true, forall_const, ne_eq]
      refine AWPC.rng (fun k : Nat => [some [⟨85, 10, [p.cs], none⟩], some [setO 2 (p.ms t c k).length], some [spO (p.ms t c k)]]) 3 (fun _ => rfl) (fun k x => x = k) (fun _ _ => False) (p.tr t) 0
        rfl rfl rfl (line_iter p t hg ht) (fun k args h => ?_) (fun k x args l ρ τ hk hx => ?_) (fun x τ hx => ?_) (fun _ _ _ h => h.elim)
      · have hk : k < p.cnt t := by have := (List.getElem?_eq_some_iff.1 h).1; simpa [Pp.tr] using this
        rw [tr_get p t hk] at h; injection h with h; subst h; rfl
      · subst hx
        have hk2 : x < p.cnt t := by have := (List.getElem?_eq_some_iff.1 hk).1; simpa [Pp.tr] using this
        rw [tr_get p t hk2] at hk; injection hk with hk; subst hk
        unfold Pp.row
        simp only [par]
        refine AWPC.of_vc ?_; simp only [zS, vcC, exs, exd, pickV, alS, Al.ob, grd, ex, ov, gt, argE, strp, cnd, sideL, I.os, st, wrap, keep, binA, kseq, kblk, kret, klp, resL, res1, one, ocalls, obj, elems, cells, scalar, vs, pick1, fillA, splice, chop, eqC, Nat.reduceBEq, Nat.reduceAdd, Nat.reduceSub, Nat.reduceLT, Nat.reduceLeDiff, Nat.reduceMul, Nat.reduceEqDiff, cond_true, cond_false, if_true, if_false, reduceIte, implies_true, forall_const, ne_eq]
        refine AWPC.of_vc ?_; simp only [zS, vcC, exs, exd, pickV, alS, Al.ob, grd, ex, ov, gt, argE, strp, cnd, sideL, I.os, st, wrap, keep, binA, kseq, kblk, kret, klp, resL, res1, one, ocalls, obj, elems, cells, scalar, vs, pick1, fillA, splice, chop, eqC, Nat.reduceBEq, Nat.reduceAdd, Nat.reduceSub, Nat.reduceLT, Nat.reduceLeDiff, Nat.reduceMul, Nat.reduceEqDiff, cond_true, cond_false, if_true, if_false, reduceIte, implies_true, forall_const, ne_eq]
        refine ⟨x, _, rfl, fun ρ' => ?_⟩
        obtain ⟨hi1, hi2⟩ := hinv x (by omega)
        have hyy : (p.heights t).lo + x ≤ p.he := by unfold Pp.cnt at hk2; omega
        have hlv := level_bd p ((p.heights t).lo + x) hg (by omega) hyy
        refine AWPC.of_vc ?_; simp only [zS, vcC, exs, exd, pickV, alS, Al.ob, grd, ex, ov, gt, argE, strp, cnd, sideL, I.os, st, wrap, keep, binA, kseq, kblk, kret, klp, resL, res1, one, ocalls, obj, elems, cells, scalar, vs, pick1, fillA, splice, chop, eqC, Nat.reduceBEq, Nat.reduceAdd, Nat.reduceSub, Nat.reduceLT, Nat.reduceLeDiff, Nat.reduceMul, Nat.reduceEqDiff, cond_true, cond_false, if_true, if_false, reduceIte, implies_true, forall_const, ne_eq]
        ((repeat (refine And.intro (by (intros; simp_all (config := { decide := false }); done)) ?_)); refine .inl ⟨_, _, _, _, rfl, fun _hc => ⟨by simp, within_spec _ _ _⟩, ?_⟩; refine owp_of_exs ?_; simp only [zS, vcC, exs, exd, pickV, alS, Al.ob, grd, ex, ov, gt, argE, strp, cnd, sideL, I.os, st, wrap, keep, binA, kseq, kblk, kret, klp, resL, res1, one, ocalls, obj, elems, cells, scalar, vs, pick1, fillA, splice, chop, eqC, Nat.reduceBEq, Nat.reduceAdd, Nat.reduceSub, Nat.reduceLT, Nat.reduceLeDiff, Nat.reduceMul, Nat.reduceEqDiff, cond_true, cond_false, if_true, if_false, reduceIte, implies_true, forall_const, ne_eq])
        refine AWPC.of_vc ?_; simp only [zS, vcC, exs, exd, pickV, alS, Al.ob, grd, ex, ov, gt, argE, strp, cnd, sideL, I.os, st, wrap, keep, binA, kseq, kblk, kret, klp, resL, res1, one, ocalls, obj, elems, cells, scalar, vs, pick1, fillA, splice, chop, eqC, Nat.reduceBEq, Nat.reduceAdd, Nat.reduceSub, Nat.reduceLT, Nat.reduceLeDiff, Nat.reduceMul, Nat.reduceEqDiff, cond_true, cond_false, if_true, if_false, reduceIte, implies_true, forall_const, ne_eq]
        refine ⟨fun hit => ?_, fun hno => ?_⟩
        · have hms : p.ms t c (x + 1) = rise (p.ms t c x) (p.level ((p.heights t).lo + x)) := by rw [Pp.ms, if_pos hit]
          refine AWPC.of_vc ?_; simp only [zS, vcC, exs, exd, pickV, alS, Al.ob, grd, ex, ov, gt, argE, strp, cnd, sideL, I.os, st, wrap, keep, binA, kseq, kblk, kret, klp, resL, res1, one, ocalls, obj, elems, cells, scalar, vs, pick1, fillA, splice, chop, eqC, Nat.reduceBEq, Nat.reduceAdd, Nat.reduceSub, Nat.reduceLT, Nat.reduceLeDiff, Nat.reduceMul, Nat.reduceEqDiff, cond_true, cond_false, if_true, if_false, reduceIte, implies_true, forall_const, ne_eq]
          ((repeat (refine And.intro (by (intros; simp_all (config := { decide := false }); done)) ?_)); refine .inl ⟨_, _, _, _, rfl, fun _hc => ⟨by simp, level_spec p ((p.heights t).lo + x) hg (by omega) hyy⟩, ?_⟩; refine owp_of_exs ?_; simp only [zS, vcC, exs, exd, pickV, alS, Al.ob, grd, ex, ov, gt, argE, strp, cnd, sideL, I.os, st, wrap, keep, binA, kseq, kblk, kret, klp, resL, res1, one, ocalls, obj, elems, cells, scalar, vs, pick1, fillA, splice, chop, eqC, Nat.reduceBEq, Nat.reduceAdd, Nat.reduceSub, Nat.reduceLT, Nat.reduceLeDiff, Nat.reduceMul, Nat.reduceEqDiff, cond_true, cond_false, if_true, if_false, reduceIte, implies_true, forall_const, ne_eq])
          refine .inr (.inl ⟨_, _, _, _, rfl, fun _ => ⟨rise_spec _ 1 2 (p.ms t c x) _ ?_ ?_ (by omega) (by omega) (fun s hs => by have := hi2 s hs; omega), ?_⟩, fun h => by cases h⟩)
          · simp [Sto.at]
          · simp [Sto.at]
          rintro res σ' rfl
          refine owp_of_exs ?_
          simp only [zS, vcC, exs, exd, pickV, alS, Al.ob, grd, ex, ov, gt, argE, strp, cnd, sideL, I.os, st, wrap, keep, binA, kseq, kblk, kret, klp, resL, res1, one, ocalls, obj, elems, cells, scalar, vs, pick1, fillA, splice, chop, eqC, Nat.reduceBEq, Nat.reduceAdd, Nat.reduceSub, Nat.reduceLT, Nat.reduceLeDiff, Nat.reduceMul, Nat.reduceEqDiff, cond_true, cond_false, if_true, if_false, reduceIte, implies_true, forall_const, ne_eq]
          exact ⟨x + 1, [], by simp only []; rw [hms, List.append_nil]; rfl, rfl⟩
        · have hms : p.ms t c (x + 1) = p.ms t c x := by rw [Pp.ms, if_neg hno]
          refine AWPC.of_vc ?_; simp only [zS, vcC, exs, exd, pickV, alS, Al.ob, grd, ex, ov, gt, argE, strp, cnd, sideL, I.os, st, wrap, keep, binA, kseq, kblk, kret, klp, resL, res1, one, ocalls, obj, elems, cells, scalar, vs, pick1, fillA, splice, chop, eqC, Nat.reduceBEq, Nat.reduceAdd, Nat.reduceSub, Nat.reduceLT, Nat.reduceLeDiff, Nat.reduceMul, Nat.reduceEqDiff, cond_true, cond_false, if_true, if_false, reduceIte, implies_true, forall_const, ne_eq]
          exact ⟨x + 1, [], by simp only []; rw [hms, List.append_nil]; rfl, rfl⟩
      · subst hx
        have hlen : (p.tr t).length = p.cnt t := by simp [Pp.tr]
        obtain ⟨hi1, hi2⟩ := hinv (p.cnt t) (Nat.le_refl _)
        rw [hlen]
        simp only [zS, vcC, exs, exd, pickV, alS, Al.ob, grd, ex, ov, gt, argE, strp, cnd, sideL, I.os, st, wrap, keep, binA, kseq, kblk, kret, klp, resL, res1, one, ocalls, obj, elems, cells, scalar, vs, pick1, fillA, splice, chop, eqC, Nat.reduceBEq, Nat.reduceAdd, Nat.reduceSub, Nat.reduceLT, Nat.reduceLeDiff, Nat.reduceMul, Nat.reduceEqDiff, cond_true, cond_false, if_true, if_false, reduceIte, implies_true, forall_const, ne_eq]
        refine AWPC.of_vc ?_; simp only [zS, vcC, exs, exd, pickV, alS, Al.ob, grd, ex, ov, gt, argE, strp, cnd, sideL, I.os, st, wrap, keep, binA, kseq, kblk, kret, klp, resL, res1, one, ocalls, obj, elems, cells, scalar, vs, pick1, fillA, splice, chop, eqC, Nat.reduceBEq, Nat.reduceAdd, Nat.reduceSub, Nat.reduceLT, Nat.reduceLeDiff, Nat.reduceMul, Nat.reduceEqDiff, cond_true, cond_false, if_true, if_false, reduceIte, implies_true, forall_const, ne_eq]
        refine AWPC.of_vc ?_; simp only [zS, vcC, exs, exd, pickV, alS, Al.ob, grd, ex, ov, gt, argE, strp, cnd, sideL, I.os, st, wrap, keep, binA, kseq, kblk, kret, klp, resL, res1, one, ocalls, obj, elems, cells, scalar, vs, pick1, fillA, splice, chop, eqC, Nat.reduceBEq, Nat.reduceAdd, Nat.reduceSub, Nat.reduceLT, Nat.reduceLeDiff, Nat.reduceMul, Nat.reduceEqDiff, cond_true, cond_false, if_true, if_false, reduceIte, implies_true, forall_const, ne_eq]
        refine Frz.tup rfl (fun i hi => ?_)
        rw [Pp.Means, if_neg (by simp [he]), if_neg (by simpa using hc)]
        match i, hi with
        | 0, _ => exact frz_sp rfl
        | 1, _ => exact Frz.eq rfl (by simp)
end Go.Proofs.Ytgpdckmbojmlpaa
