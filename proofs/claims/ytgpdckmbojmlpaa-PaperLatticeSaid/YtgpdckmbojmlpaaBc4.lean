/- Part 4 of the texts that the claim rests on: abstract values over the walk, and contracts of functions. -/
import Derived.Test.YtgpdckmbojmlpaaBc3
import Derived.Test.YtgpdckmbojmlpaaRows
import Derived.Shelf.SlGeneric
import Derived.Shelf.SlSortCmp.WholeK
import Derived.Shelf.Spec.SlicesGrow
import Derived.Test.YtgpdckmbojmlpaaProg
import Derived.ChangeArms
import Derived.DataReads
import Derived.WalkKit
import Derived.Shelf.SlSortCmp.NoneTotal
namespace Go.Proofs.Ytgpdckmbojmlpaa
open Go.Abs
set_option linter.unusedVariables false
set_option linter.unusedSimpArgs false
set_option maxHeartbeats 4000000
set_option maxRecDepth 100000
-- aneroid/aneroidref01.first
-- aneroid/aneroidref01.ring
-- aneroid/aneroidref01.turned
-- aneroid/aneroidref01.Join
def c105 : CF := ⟨82,
 (.seq (.ops [
 ⟨(some 3), .box true 23 2 (.t 1), none⟩,
 ⟨(some 4), .mv (.c (.slice none 0 0)), none⟩] [0, 3])
 (.seq (.seq (.ops [
 ⟨(some 8), .faddr 0 (.t 3), none⟩,
 ⟨(some 9), .load none (.t 8), none⟩,
 ⟨(some 10), .faddr 1 (.t 3), none⟩,
 ⟨(some 11), .load none (.t 10), none⟩,
 ⟨(some 12), .bin .gtr (.t 9) (.t 11), none⟩] [0, 3, 12])
 (.cond (.t 12) (.seq (.ops [
 ⟨(some 13), .mv (.t 0), none⟩,
 ⟨(some 4), .mv (.t 13), none⟩] [4])
 .ret)
 .skip))
 (.seq (.ops [
 ⟨(some 5), .mv (.c (.slice none 0 0)), none⟩] [0, 3, 5])
 (.seq (.ops [
 ⟨(some 6), .mv (.c (.bool false)), none⟩] [0, 3, 5, 6])
 (.seq (.seq (.ops [
 ⟨(some 7), .mv (.c (.int .i64 0)), none⟩] [0, 3, 5, 6, 7])
 (.block 0 (.loop (.seq (.seq (.ops [
 ⟨(some 14), .mv (.t 7), none⟩,
 ⟨(some 15), .mv (.t 0), none⟩,
 ⟨(some 16), .len (.t 15), none⟩,
 ⟨(some 17), .bin .lss (.t 14) (.t 16), none⟩] [0, 3, 5, 6, 7, 17])
 (.cond (.t 17) .skip
 (.exit 0)))
 (.seq (.block 1 (.seq (.seq (.draw [
 ⟨(some 20), .mv (.t 0), none⟩,
 ⟨(some 21), .mv (.t 7), none⟩,
 ⟨(some 22), .iaddr 2 (.t 20) (.t 21), none⟩,
 ⟨(some 23), .faddr 1 (.t 22), none⟩,
 ⟨(some 24), .load none (.t 23), none⟩,
 ⟨(some 25), .bin .add (.t 24) (.c (.int .i64 1)), none⟩,
 ⟨(some 26), .faddr 0 (.t 3), none⟩,
 ⟨(some 27), .load none (.t 26), none⟩,
 ⟨(some 28), .bin .lss (.t 25) (.t 27), none⟩] [
 ] [0, 3, 5, 6, 7, 28])
 (.cond (.t 28) (.seq (.ops [
 ⟨(some 29), .mv (.t 5), none⟩,
 ⟨(some 30), .mv (.t 0), none⟩,
 ⟨(some 31), .mv (.t 7), none⟩,
 ⟨(some 32), .iaddr 2 (.t 30) (.t 31), none⟩,
 ⟨(some 33), .load (some 2) (.t 32), none⟩,
 ⟨(some 34), .bsl false 23 2 1 [.int .i64 0, .int .i64 0] [(0, 2, (.t 33))], none⟩,
 ⟨(some 35), .app 23 2 16 (.t 29) (.t 34), none⟩,
 ⟨(some 5), .mv (.t 35), none⟩] [0, 3, 5, 6, 7])
 (.exit 1))
 .skip))
 (.seq (.seq (.draw [
 ⟨(some 36), .faddr 1 (.t 3), none⟩,
 ⟨(some 37), .load none (.t 36), none⟩,
 ⟨(some 38), .bin .add (.t 37) (.c (.int .i64 1)), none⟩,
 ⟨(some 39), .mv (.t 0), none⟩,
 ⟨(some 40), .mv (.t 7), none⟩,
 ⟨(some 41), .iaddr 2 (.t 39) (.t 40), none⟩,
 ⟨(some 42), .faddr 0 (.t 41), none⟩,
 ⟨(some 43), .load none (.t 42), none⟩,
 ⟨(some 44), .bin .lss (.t 38) (.t 43), none⟩] [
 ] [0, 3, 5, 6, 7, 44])
 (.cond (.t 44) (.seq (.seq (.ops [
 ⟨(some 45), .mv (.t 6), none⟩,
 ⟨(some 46), .un .not (.t 45), none⟩] [0, 3, 5, 7, 46])
 (.cond (.t 46) (.ops [
 ⟨(some 47), .mv (.t 5), none⟩,
 ⟨(some 48), .load (some 2) (.t 3), none⟩,
 ⟨(some 49), .bsl false 23 2 1 [.int .i64 0, .int .i64 0] [(0, 2, (.t 48))], none⟩,
 ⟨(some 50), .app 23 2 16 (.t 47) (.t 49), none⟩,
 ⟨(some 5), .mv (.t 50), none⟩] [0, 3, 5, 7])
 .skip))
 (.seq (.ops [
 ⟨(some 6), .mv (.c (.bool true)), none⟩] [0, 3, 5, 6, 7])
 (.seq (.ops [
 ⟨(some 51), .mv (.t 5), none⟩,
 ⟨(some 52), .mv (.t 0), none⟩,
 ⟨(some 53), .mv (.t 7), none⟩,
 ⟨(some 54), .iaddr 2 (.t 52) (.t 53), none⟩,
 ⟨(some 55), .load (some 2) (.t 54), none⟩,
 ⟨(some 56), .bsl false 23 2 1 [.int .i64 0, .int .i64 0] [(0, 2, (.t 55))], none⟩,
 ⟨(some 57), .app 23 2 16 (.t 51) (.t 56), none⟩,
 ⟨(some 5), .mv (.t 57), none⟩] [0, 3, 5, 6, 7])
 (.exit 1))))
 .skip))
 (.draw [
 ⟨(some 58), .faddr 0 (.t 3), none⟩,
 ⟨(some 59), .load none (.t 58), none⟩,
 ⟨(some 60), .mv (.t 0), none⟩,
 ⟨(some 61), .mv (.t 7), none⟩,
 ⟨(some 62), .iaddr 2 (.t 60) (.t 61), none⟩,
 ⟨(some 63), .faddr 0 (.t 62), none⟩,
 ⟨(some 64), .load none (.t 63), none⟩,
 ⟨(some 65), .mnx false (.t 59) (.t 64), none⟩,
 ⟨(some 66), .faddr 1 (.t 3), none⟩,
 ⟨(some 67), .load none (.t 66), none⟩,
 ⟨(some 68), .mv (.t 0), none⟩,
 ⟨(some 69), .mv (.t 7), none⟩,
 ⟨(some 70), .iaddr 2 (.t 68) (.t 69), none⟩,
 ⟨(some 71), .faddr 1 (.t 70), none⟩,
 ⟨(some 72), .load none (.t 71), none⟩,
 ⟨(some 73), .mnx true (.t 67) (.t 72), none⟩,
 ⟨(some 74), .build [.int .i64 0, .int .i64 0] [(0, 1, (.t 65)), (1, 1, (.t 73))], none⟩] [
 ⟨none, .store 2 (.t 3) (.t 74), none⟩] [0, 3, 5, 6, 7]))))
 (.ops [
 ⟨(some 18), .mv (.t 7), none⟩,
 ⟨(some 19), .bin .add (.t 18) (.c (.int .i64 1)), none⟩,
 ⟨(some 7), .mv (.t 19), none⟩] [0, 3, 5, 6, 7]))))))
 (.seq (.seq (.ops [
 ⟨(some 75), .mv (.t 6), none⟩,
 ⟨(some 76), .un .not (.t 75), none⟩] [3, 5, 76])
 (.cond (.t 76) (.ops [
 ⟨(some 77), .mv (.t 5), none⟩,
 ⟨(some 78), .load (some 2) (.t 3), none⟩,
 ⟨(some 79), .bsl false 23 2 1 [.int .i64 0, .int .i64 0] [(0, 2, (.t 78))], none⟩,
 ⟨(some 80), .app 23 2 16 (.t 77) (.t 79), none⟩,
 ⟨(some 5), .mv (.t 80), none⟩] [5])
 .skip))
 (.seq (.ops [
 ⟨(some 81), .mv (.t 5), none⟩,
 ⟨(some 4), .mv (.t 81), none⟩] [4])
 .ret))))))),
 [.t 4]⟩
-- aneroid/aneroidref01.means
-- aneroid/aneroidref01.Means
theorem k105 : chkF Try.prog Try.f105 c105 = true := by kernel_rfl
/-- The first height from a on, of a number of heights, at which the arc is at least k. -/
def Pp.firstN (p : Pp) (k : Int) : Int → Nat → Int
  | a, 0 => a
  | a, c + 1 => if k ≤ p.arc a then a else p.firstN k (a + 1) c

def Pp.first (p : Pp) (lo hi k : Int) : Int := p.firstN k lo (hi + 1 - lo).toNat

theorem frz_sp' {σ : Sto} {f i m : Nat} (l : List Sp) (h : σ.at f i = some ⟨23, 2, l.map Sp.cs, none⟩) (hm : m = l.length) : Frz σ (.own f i m) (spS l) := hm ▸ frz_sp h

/-- A set with a further span, which may be empty. -/
def joinE (l : List Sp) (x : Sp) : List Sp := if x.hi < x.lo then l else join l x

theorem rJoin_spec (l : List Sp) (x : Sp) (hl : Norm l) (hb : ∀ s ∈ l, -1000000 ≤ s.lo ∧ s.hi ≤ 1000000) (hx : -1000000 ≤ x.lo ∧ x.hi ≤ 1000000) (hlen : l.length < 1000000000) :
    Pure Try.prog 105 [spS l, .agg x.cs] (spS (joinE l x)) := by
  refine Pure.of_body Try.call105 Try.func105 k105 (Nat.le_of_ble_eq_true rfl) ?_
  unfold c105
  by_cases hlt : x.hi < x.lo
  · (repeat' first
 | (refine AWPC.of_vcn rfl ?_; simp only [zT, zV, zS, zU, vcC, lateX, ex, strp, cnd, binA, kseq, kblk, kret, klp, Abs.one, elems, cells, scalar, eqC, Nat.reduceBEq, Nat.reduceAdd, Nat.reduceSub, Nat.reduceLT, Nat.reduceLeDiff, Nat.reduceMul, Nat.reduceEqDiff, cond_true, cond_false, if_true, if_false, reduceIte, implies_true, forall_const, ne_eq])
 | (simp (disch := omega) only [wr64, Int.zero_sub]; try simp only [zT, zV, zS, zU, vcC, lateX, ex, strp, cnd, binA, kseq, kblk, kret, klp, Abs.one, elems, cells, scalar, eqC, Nat.reduceBEq, Nat.reduceAdd, Nat.reduceSub, Nat.reduceLT, Nat.reduceLeDiff, Nat.reduceMul, Nat.reduceEqDiff, cond_true, cond_false, if_true, if_false, reduceIte, implies_true, forall_const, ne_eq])
 | (refine AWPC.both (fun _ => ?_) (fun _ => ?_))
 | (refine AWPC.imp (fun _ => ?_))
 | ((refine .inl ⟨_, _, _, .any, rfl, fun h => absurd h Bool.false_ne_true, ?_⟩); refine owp_of_exs ?_; simp only [zT, zV, zS, zU, vcC, lateX, ex, strp, cnd, binA, kseq, kblk, kret, klp, Abs.one, elems, cells, scalar, eqC, Nat.reduceBEq, Nat.reduceAdd, Nat.reduceSub, Nat.reduceLT, Nat.reduceLeDiff, Nat.reduceMul, Nat.reduceEqDiff, cond_true, cond_false, if_true, if_false, reduceIte, implies_true, forall_const, ne_eq])
 | (refine ⟨by omega, ?_⟩)
 | (refine And.intro (by (intros; first | (simp_all (config := { decide := false }); done) | fail)) ?_)
 | fail)
    · refine Frz.eq ?_ (by simp)
      rw [joinE, if_pos hlt]
    · exfalso; omega
  · rw [joinE, if_neg hlt]
    (repeat' first
 | (refine AWPC.of_vcn rfl ?_; simp only [zT, zV, zS, zU, vcC, lateX, ex, strp, cnd, binA, kseq, kblk, kret, klp, Abs.one, elems, cells, scalar, eqC, Nat.reduceBEq, Nat.reduceAdd, Nat.reduceSub, Nat.reduceLT, Nat.reduceLeDiff, Nat.reduceMul, Nat.reduceEqDiff, cond_true, cond_false, if_true, if_false, reduceIte, implies_true, forall_const, ne_eq])
 | (simp (disch := omega) only [wr64, Int.zero_sub]; try simp only [zT, zV, zS, zU, vcC, lateX, ex, strp, cnd, binA, kseq, kblk, kret, klp, Abs.one, elems, cells, scalar, eqC, Nat.reduceBEq, Nat.reduceAdd, Nat.reduceSub, Nat.reduceLT, Nat.reduceLeDiff, Nat.reduceMul, Nat.reduceEqDiff, cond_true, cond_false, if_true, if_false, reduceIte, implies_true, forall_const, ne_eq])
 | (refine AWPC.both (fun _ => ?_) (fun _ => ?_))
 | (refine AWPC.imp (fun _ => ?_))
 | ((refine .inl ⟨_, _, _, .any, rfl, fun h => absurd h Bool.false_ne_true, ?_⟩); refine owp_of_exs ?_; simp only [zT, zV, zS, zU, vcC, lateX, ex, strp, cnd, binA, kseq, kblk, kret, klp, Abs.one, elems, cells, scalar, eqC, Nat.reduceBEq, Nat.reduceAdd, Nat.reduceSub, Nat.reduceLT, Nat.reduceLeDiff, Nat.reduceMul, Nat.reduceEqDiff, cond_true, cond_false, if_true, if_false, reduceIte, implies_true, forall_const, ne_eq])
 | (refine ⟨by omega, ?_⟩)
 | (refine And.intro (by (intros; first | (simp_all (config := { decide := false }); done) | fail)) ?_)
 | fail)
    · exfalso; omega
    refine AWPC.own0 23 2 5 rfl ?_
    simp only [zS, zU, vcC, lateX, ex, strp, cnd, binA, kseq, kblk, kret, klp, Abs.one, elems, cells, scalar, eqC, Nat.reduceBEq, Nat.reduceAdd, Nat.reduceSub, Nat.reduceLT, Nat.reduceLeDiff, Nat.reduceMul, Nat.reduceEqDiff, cond_true, cond_false, if_true, if_false, reduceIte, implies_true, forall_const, ne_eq]
    refine AWPC.loop (α := { q : Nat × List Sp × Bool × Sp // q.1 ≤ l.length ∧ q.2.1.length ≤ q.1 + (if q.2.2.1 then 1 else 0) ∧ q.2.2.2.lo ≤ q.2.2.2.hi ∧ -1000000 ≤ q.2.2.2.lo ∧ q.2.2.2.hi ≤ 1000000 ∧ (q.2.2.1 = false → q.2.1 ++ join (l.drop q.1) q.2.2.2 = join l x) ∧
        (q.2.2.1 = true → q.2.1 ++ l.drop q.1 = join l x ∧ ∀ s ∈ l.drop q.1, q.2.2.2.hi + 1 < s.lo) })
      (fun q => ([(0, spS l), (3, .ptr 0 0 1 0 0), (5, .own 1 0 q.1.2.1.length), (6, bl q.1.2.2.1), (7, n q.1.1)], [some [⟨23, 2, [q.1.2.2.2.cs], none⟩], some [spO q.1.2.1]])) (fun q => l.length - q.1.1)
      ⟨(0, [], false, x), by simp, by simp, by simp only; omega, hx.1, hx.2, fun _ => by simp, fun h => by cases h⟩ ?_ rfl ?_
    · simp only [zS, zU, vcC, lateX, ex, strp, cnd, binA, kseq, kblk, kret, klp, Abs.one, elems, cells, scalar, eqC, Nat.reduceBEq, Nat.reduceAdd, Nat.reduceSub, Nat.reduceLT, Nat.reduceLeDiff, Nat.reduceMul, Nat.reduceEqDiff, cond_true, cond_false, if_true, if_false, reduceIte, implies_true, forall_const, ne_eq]; try simp
    · rintro ⟨⟨i, acc, put, z⟩, i1, i2, i3, i4, i5, i6, i7⟩
      simp only at i1 i2 i3 i4 i5 i6 i7
      have hal : acc.length ≤ l.length + 1 := by cases put <;> simp at i2 <;> omega
      by_cases hi : i < l.length
      · obtain ⟨s, hs⟩ : ∃ s, l[i]? = some s := ⟨_, List.getElem?_eq_getElem hi⟩
        have hsb := hb s (List.mem_of_getElem? hs)
        have hsn := hl.ne s (List.mem_of_getElem? hs)
        have hd := drop_cons hs
        (repeat' first
 | (refine AWPC.of_vcn rfl ?_; simp only [zT, zV, zS, zU, vcC, lateX, ex, strp, cnd, binA, kseq, kblk, kret, klp, Abs.one, elems, cells, scalar, eqC, Nat.reduceBEq, Nat.reduceAdd, Nat.reduceSub, Nat.reduceLT, Nat.reduceLeDiff, Nat.reduceMul, Nat.reduceEqDiff, cond_true, cond_false, if_true, if_false, reduceIte, implies_true, forall_const, ne_eq, getD_map hs])
 | (simp (disch := omega) only [wr64, Int.zero_sub]; try simp only [zT, zV, zS, zU, vcC, lateX, ex, strp, cnd, binA, kseq, kblk, kret, klp, Abs.one, elems, cells, scalar, eqC, Nat.reduceBEq, Nat.reduceAdd, Nat.reduceSub, Nat.reduceLT, Nat.reduceLeDiff, Nat.reduceMul, Nat.reduceEqDiff, cond_true, cond_false, if_true, if_false, reduceIte, implies_true, forall_const, ne_eq, getD_map hs])
 | (refine AWPC.both (fun _ => ?_) (fun _ => ?_))
 | (refine AWPC.imp (fun _ => ?_))
 | ((refine .inl ⟨_, _, _, .any, rfl, fun h => absurd h Bool.false_ne_true, ?_⟩); refine owp_of_exs ?_; simp only [zT, zV, zS, zU, vcC, lateX, ex, strp, cnd, binA, kseq, kblk, kret, klp, Abs.one, elems, cells, scalar, eqC, Nat.reduceBEq, Nat.reduceAdd, Nat.reduceSub, Nat.reduceLT, Nat.reduceLeDiff, Nat.reduceMul, Nat.reduceEqDiff, cond_true, cond_false, if_true, if_false, reduceIte, implies_true, forall_const, ne_eq, getD_map hs])
 | (refine ⟨by omega, ?_⟩)
 | (refine And.intro (by (intros; first | (simp_all (config := { decide := false }); done) | fail)) ?_)
 | fail)
        all_goals try (exfalso; omega)
        · refine ⟨⟨(i + 1, acc ++ [s], put, z), hi, by simp only [List.length_append, List.length_cons, List.length_nil]; omega, i3, i4, i5, fun hp => ?_, fun hp => ?_⟩, ⟨by simp, by simp, by simp⟩, by simp [spO], by simp only; omega⟩
          · have := i6 hp
            rw [hd, join, if_pos ‹_›] at this
            simpa using this
          · obtain ⟨j1, j2⟩ := i7 hp
            rw [hd] at j1 j2
            exact ⟨by simpa using j1, fun u hu => j2 u (by simp [hu])⟩
        · rename_i c1 c2 c3
          obtain rfl : put = false := by simpa using c3
          have hn : ∀ u ∈ l.drop (i + 1), z.hi + 1 < u.lo := fun u hu => by
            have hnd : Norm (l.drop i) := by
              have := hl; rw [← List.take_append_drop i l] at this; exact (norm_append.1 this).2.1
            rw [hd] at hnd
            have := hnd.2.1 u hu; omega
          refine ⟨⟨(i + 1, acc ++ [z, s], true, z), hi, by simp at i2 ⊢; omega, i3, i4, i5, fun hp => (by cases hp), fun _ => ⟨?_, hn⟩⟩, ⟨by simp, by simp⟩, by simp [spO], by simp only; omega⟩
          have := i6 rfl
          rw [hd, join, if_neg ‹_›, if_pos ‹_›] at this
          simpa using this
        · rename_i c1 c2 c3
          obtain rfl : put = true := by simpa using c3
          obtain ⟨j1, j2⟩ := i7 rfl
          rw [hd] at j1 j2
          exact ⟨⟨(i + 1, acc ++ [s], true, z), hi, by simp at i2 ⊢; omega, i3, i4, i5, fun hp => (by cases hp), fun _ => ⟨by simpa using j1, fun u hu => j2 u (by simp [hu])⟩⟩, ⟨by simp, by simp⟩, by simp [spO], by simp only; omega⟩
        · rename_i c1 c2
          have hpf : put = false := by
            cases put with
            | false => rfl
            | true => exact absurd ((i7 rfl).2 s (by rw [hd]; simp)) c2
          subst hpf
          refine ⟨⟨(i + 1, acc, false, ⟨min z.lo s.lo, max z.hi s.hi⟩), hi, by simp at i2 ⊢; omega, by simp only; omega, by simp only; omega, by simp only; omega, fun _ => ?_, fun hp => (by cases hp)⟩, by simp, by simp [spO], by simp only; omega⟩
          have := i6 rfl
          rw [hd, join, if_neg ‹_›, if_neg ‹_›] at this
          simpa using this
      · obtain rfl : i = l.length := by omega
        rw [List.drop_length] at i6 i7
        have hal : acc.length ≤ l.length + 1 := by cases put <;> simp at i2 <;> omega
        (repeat' first
 | (refine AWPC.of_vcn rfl ?_; simp only [zT, zV, zS, zU, vcC, lateX, ex, strp, cnd, binA, kseq, kblk, kret, klp, Abs.one, elems, cells, scalar, eqC, Nat.reduceBEq, Nat.reduceAdd, Nat.reduceSub, Nat.reduceLT, Nat.reduceLeDiff, Nat.reduceMul, Nat.reduceEqDiff, cond_true, cond_false, if_true, if_false, reduceIte, implies_true, forall_const, ne_eq])
 | (simp (disch := omega) only [wr64, Int.zero_sub]; try simp only [zT, zV, zS, zU, vcC, lateX, ex, strp, cnd, binA, kseq, kblk, kret, klp, Abs.one, elems, cells, scalar, eqC, Nat.reduceBEq, Nat.reduceAdd, Nat.reduceSub, Nat.reduceLT, Nat.reduceLeDiff, Nat.reduceMul, Nat.reduceEqDiff, cond_true, cond_false, if_true, if_false, reduceIte, implies_true, forall_const, ne_eq])
 | (refine AWPC.both (fun _ => ?_) (fun _ => ?_))
 | (refine AWPC.imp (fun _ => ?_))
 | ((refine .inl ⟨_, _, _, .any, rfl, fun h => absurd h Bool.false_ne_true, ?_⟩); refine owp_of_exs ?_; simp only [zT, zV, zS, zU, vcC, lateX, ex, strp, cnd, binA, kseq, kblk, kret, klp, Abs.one, elems, cells, scalar, eqC, Nat.reduceBEq, Nat.reduceAdd, Nat.reduceSub, Nat.reduceLT, Nat.reduceLeDiff, Nat.reduceMul, Nat.reduceEqDiff, cond_true, cond_false, if_true, if_false, reduceIte, implies_true, forall_const, ne_eq])
 | (refine ⟨by omega, ?_⟩)
 | (refine And.intro (by (intros; first | (simp_all (config := { decide := false }); done) | fail)) ?_)
 | fail)
        all_goals try (exfalso; omega)
        · rename_i c1 c2
          obtain rfl : put = false := by simpa using c2
          have := i6 rfl
          rw [join] at this
          rw [← this]
          exact frz_sp' (acc ++ [z]) (by simp [Sto.at]) (by simp)
        · rename_i c1 c2
          obtain rfl : put = true := by simpa using c2
          have := (i7 rfl).1
          rw [List.append_nil] at this
          rw [← this]
          exact frz_sp' acc (by simp [Sto.at]) rfl

theorem join_len (l : List Sp) (x : Sp) : (join l x).length ≤ l.length + 1 := by
  induction l generalizing x with
  | nil => simp [join]
  | cons s r ih =>
    unfold join
    split
    · have := ih x; simp only [List.length_cons]; omega
    · split
      · simp
      · have := ih ⟨min x.lo s.lo, max x.hi s.hi⟩; simp only [List.length_cons]; omega

end Go.Proofs.Ytgpdckmbojmlpaa

namespace Go.Proofs.Ytgpdckmbojmlpaa
open Go.Abs
set_option linter.unusedVariables false
set_option linter.unusedSimpArgs false
set_option maxHeartbeats 4000000
set_option maxRecDepth 100000
-- aneroid/aneroidlaw01.PaperMeans
-- aneroid/aneroidlaw01.PaperPlaces
def c9 : CF := ⟨110,
 (.seq (.ops [
 ⟨(some 2), .box false 25 10 (.t 0), none⟩,
 ⟨(some 3), .box false 32 3 (.t 1), none⟩,
 ⟨(some 4), .mv (.c (.bool false)), none⟩] [2, 3])
 (.seq (.ops [
 ⟨(some 22), .load (some 10) (.t 2), none⟩,
 ⟨(some 23), .load (some 3) (.t 3), none⟩,
 ⟨(some 24), .call (.f 34) [(.t 22), (.t 23)], none⟩,
 ⟨(some 21), .mv (.t 24), none⟩,
 ⟨(some 25), .ext 0 (.t 21), none⟩,
 ⟨(some 26), .ext 1 (.t 21), none⟩,
 ⟨(some 5), .alloc 23 2 [.int .i64 0, .int .i64 0], none⟩,
 ⟨none, .store 2 (.t 5) (.t 25), none⟩,
 ⟨(some 6), .mv (.t 26), none⟩] [2, 3, 5, 6])
 (.seq (.ops [
 ⟨(some 28), .load (some 10) (.t 2), none⟩,
 ⟨(some 29), .load (some 3) (.t 3), none⟩,
 ⟨(some 30), .call (.f 39) [(.t 28), (.t 29)], none⟩,
 ⟨(some 27), .mv (.t 30), none⟩,
 ⟨(some 31), .ext 0 (.t 27), none⟩,
 ⟨(some 32), .ext 1 (.t 27), none⟩,
 ⟨(some 7), .alloc 23 2 [.int .i64 0, .int .i64 0], none⟩,
 ⟨none, .store 2 (.t 7) (.t 31), none⟩,
 ⟨(some 8), .mv (.t 32), none⟩] [2, 3, 5, 6, 7, 8])
 (.seq (.ops [
 ⟨(some 34), .load (some 10) (.t 2), none⟩,
 ⟨(some 35), .load (some 3) (.t 3), none⟩,
 ⟨(some 36), .call (.f 35) [(.t 34), (.t 35)], none⟩,
 ⟨(some 33), .mv (.t 36), none⟩,
 ⟨(some 37), .ext 0 (.t 33), none⟩,
 ⟨(some 38), .ext 1 (.t 33), none⟩,
 ⟨(some 9), .alloc 23 2 [.int .i64 0, .int .i64 0], none⟩,
 ⟨none, .store 2 (.t 9) (.t 37), none⟩,
 ⟨(some 10), .mv (.t 38), none⟩] [2, 3, 5, 6, 7, 8, 9, 10])
 (.seq (.ops [
 ⟨(some 40), .load (some 10) (.t 2), none⟩,
 ⟨(some 41), .load (some 3) (.t 3), none⟩,
 ⟨(some 42), .call (.f 40) [(.t 40), (.t 41)], none⟩,
 ⟨(some 39), .mv (.t 42), none⟩,
 ⟨(some 43), .ext 0 (.t 39), none⟩,
 ⟨(some 44), .ext 1 (.t 39), none⟩,
 ⟨(some 11), .alloc 23 2 [.int .i64 0, .int .i64 0], none⟩,
 ⟨none, .store 2 (.t 11) (.t 43), none⟩,
 ⟨(some 12), .mv (.t 44), none⟩] [2, 3, 5, 6, 7, 8, 9, 10, 11, 12])
 (.seq (.ops [
 ⟨(some 46), .load (some 10) (.t 2), none⟩,
 ⟨(some 47), .load (some 3) (.t 3), none⟩,
 ⟨(some 48), .call (.f 22) [(.t 46), (.t 47)], none⟩,
 ⟨(some 45), .mv (.t 48), none⟩,
 ⟨(some 49), .ext 0 (.t 45), none⟩,
 ⟨(some 50), .ext 1 (.t 45), none⟩,
 ⟨(some 13), .alloc 23 2 [.int .i64 0, .int .i64 0], none⟩,
 ⟨none, .store 2 (.t 13) (.t 49), none⟩,
 ⟨(some 14), .mv (.t 50), none⟩] [2, 3, 5, 6, 7, 8, 9, 10, 11, 12, 13, 14])
 (.seq (.ops [
 ⟨(some 52), .load (some 10) (.t 2), none⟩,
 ⟨(some 53), .load (some 3) (.t 3), none⟩,
 ⟨(some 54), .call (.f 41) [(.t 52), (.t 53)], none⟩,
 ⟨(some 51), .mv (.t 54), none⟩,
 ⟨(some 55), .ext 0 (.t 51), none⟩,
 ⟨(some 56), .ext 1 (.t 51), none⟩,
 ⟨(some 15), .alloc 23 2 [.int .i64 0, .int .i64 0], none⟩,
 ⟨none, .store 2 (.t 15) (.t 55), none⟩,
 ⟨(some 16), .mv (.t 56), none⟩] [2, 3, 5, 6, 7, 8, 9, 10, 11, 12, 13, 14, 15, 16])
 (.seq (.ops [
 ⟨(some 58), .load (some 10) (.t 2), none⟩,
 ⟨(some 59), .load (some 3) (.t 3), none⟩,
 ⟨(some 60), .call (.f 42) [(.t 58), (.t 59)], none⟩,
 ⟨(some 57), .mv (.t 60), none⟩,
 ⟨(some 61), .ext 0 (.t 57), none⟩,
 ⟨(some 62), .ext 1 (.t 57), none⟩,
 ⟨(some 17), .alloc 23 2 [.int .i64 0, .int .i64 0], none⟩,
 ⟨none, .store 2 (.t 17) (.t 61), none⟩,
 ⟨(some 18), .mv (.t 62), none⟩] [2, 3, 5, 6, 7, 8, 9, 10, 11, 12, 13, 14, 15, 16, 17, 18])
 (.seq (.ops [
 ⟨(some 64), .load (some 10) (.t 2), none⟩,
 ⟨(some 65), .load (some 3) (.t 3), none⟩,
 ⟨(some 66), .call (.f 43) [(.t 64), (.t 65)], none⟩,
 ⟨(some 63), .mv (.t 66), none⟩,
 ⟨(some 67), .ext 0 (.t 63), none⟩,
 ⟨(some 68), .ext 1 (.t 63), none⟩,
 ⟨(some 19), .alloc 23 2 [.int .i64 0, .int .i64 0], none⟩,
 ⟨none, .store 2 (.t 19) (.t 67), none⟩,
 ⟨(some 20), .mv (.t 68), none⟩] [5, 6, 7, 8, 9, 10, 11, 12, 13, 14, 15, 16, 17, 18, 19, 20])
 (.seq (.ops [
 ⟨(some 69), .call (.f 18) [], none⟩,
 ⟨(some 70), .mv (.t 69), none⟩,
 ⟨(some 71), .load (some 2) (.t 5), (some (70, true))⟩,
 ⟨(some 72), .load (some 2) (.t 7), (some (70, true))⟩,
 ⟨(some 73), .eqs false [some .i64, some .i64] (.t 71) (.t 72), (some (70, true))⟩,
 ⟨(some 74), .pick (.t 70) (.t 73) (.c (.bool false)), none⟩,
 ⟨(some 75), .mv (.t 74), none⟩,
 ⟨(some 76), .mv (.t 6), (some (75, true))⟩,
 ⟨(some 77), .mv (.t 8), (some (75, true))⟩,
 ⟨(some 78), .bin .eql (.t 76) (.t 77), (some (75, true))⟩,
 ⟨(some 79), .pick (.t 75) (.t 78) (.c (.bool false)), none⟩,
 ⟨(some 80), .mv (.t 79), none⟩,
 ⟨(some 81), .load (some 2) (.t 9), (some (80, true))⟩,
 ⟨(some 82), .load (some 2) (.t 11), (some (80, true))⟩,
 ⟨(some 83), .eqs false [some .i64, some .i64] (.t 81) (.t 82), (some (80, true))⟩,
 ⟨(some 84), .pick (.t 80) (.t 83) (.c (.bool false)), none⟩,
 ⟨(some 85), .mv (.t 84), none⟩,
 ⟨(some 86), .mv (.t 10), (some (85, true))⟩,
 ⟨(some 87), .mv (.t 12), (some (85, true))⟩,
 ⟨(some 88), .bin .eql (.t 86) (.t 87), (some (85, true))⟩,
 ⟨(some 89), .pick (.t 85) (.t 88) (.c (.bool false)), none⟩,
 ⟨(some 90), .mv (.t 89), none⟩,
 ⟨(some 91), .load (some 2) (.t 13), (some (90, true))⟩,
 ⟨(some 92), .load (some 2) (.t 15), (some (90, true))⟩,
 ⟨(some 93), .eqs false [some .i64, some .i64] (.t 91) (.t 92), (some (90, true))⟩,
 ⟨(some 94), .pick (.t 90) (.t 93) (.c (.bool false)), none⟩,
 ⟨(some 95), .mv (.t 94), none⟩,
 ⟨(some 96), .mv (.t 14), (some (95, true))⟩,
 ⟨(some 97), .mv (.t 16), (some (95, true))⟩,
 ⟨(some 98), .bin .eql (.t 96) (.t 97), (some (95, true))⟩,
 ⟨(some 99), .pick (.t 95) (.t 98) (.c (.bool false)), none⟩,
 ⟨(some 100), .mv (.t 99), none⟩,
 ⟨(some 101), .load (some 2) (.t 17), (some (100, true))⟩,
 ⟨(some 102), .load (some 2) (.t 19), (some (100, true))⟩,
 ⟨(some 103), .eqs false [some .i64, some .i64] (.t 101) (.t 102), (some (100, true))⟩,
 ⟨(some 104), .pick (.t 100) (.t 103) (.c (.bool false)), none⟩,
 ⟨(some 105), .mv (.t 104), none⟩,
 ⟨(some 106), .mv (.t 18), (some (105, true))⟩,
 ⟨(some 107), .mv (.t 20), (some (105, true))⟩,
 ⟨(some 108), .bin .eql (.t 106) (.t 107), (some (105, true))⟩,
 ⟨(some 109), .pick (.t 105) (.t 108) (.c (.bool false)), none⟩,
 ⟨(some 4), .mv (.t 109), none⟩] [4])
 .ret)))))))))),
 [.t 4]⟩
-- aneroid/aneroidlaw01.PaperBack
end Go.Proofs.Ytgpdckmbojmlpaa

namespace Go.Proofs.Ytgpdckmbojmlpaa
open Go.Abs
set_option linter.unusedVariables false
set_option linter.unusedSimpArgs false
set_option maxHeartbeats 4000000
set_option maxRecDepth 100000

/-- Does some printed place of a point have a level and a column? -/
def Pp.W (p : Pp) (x y : Sp) (l c : Int) : Prop := (p.Hts l).2 = 0 ∧ ∃ z, max (p.Hts l).1.lo y.lo ≤ z ∧ z ≤ min (p.Hts l).1.hi y.hi ∧ (x.lo - p.arc z) / p.pi ≤ c ∧ c ≤ (x.hi - p.arc z) / p.pi

end Go.Proofs.Ytgpdckmbojmlpaa

namespace Go.Proofs.Ytgpdckmbojmlpaa
open Go.Abs
set_option linter.unusedVariables false
set_option linter.unusedSimpArgs false
set_option maxHeartbeats 4000000
set_option maxRecDepth 100000
-- aneroid/aneroidlaw01.few
-- aneroid/aneroidlaw01.small
def c45 : CF := ⟨25,
 (.seq (.ops [
 ⟨(some 1), .box false 56 1 (.t 0), none⟩,
 ⟨(some 2), .mv (.c (.bool false)), none⟩] [1])
 (.seq (.ops [
 ⟨(some 5), .faddr 0 (.t 1), none⟩,
 ⟨(some 6), .load none (.t 5), none⟩,
 ⟨(some 7), .len (.t 6), none⟩,
 ⟨(some 3), .mv (.t 7), none⟩] [1, 3])
 (.seq (.seq (.ops [
 ⟨(some 4), .mv (.c (.int .i64 0)), none⟩] [1, 3, 4])
 (.block 0 (.loop (.seq (.seq (.ops [
 ⟨(some 8), .mv (.t 4), none⟩,
 ⟨(some 9), .faddr 0 (.t 1), none⟩,
 ⟨(some 10), .load none (.t 9), none⟩,
 ⟨(some 11), .len (.t 10), none⟩,
 ⟨(some 12), .bin .lss (.t 8) (.t 11), none⟩] [1, 3, 4, 12])
 (.cond (.t 12) .skip
 (.exit 0)))
 (.seq (.block 1 (.ops [
 ⟨(some 15), .mv (.t 3), none⟩,
 ⟨(some 16), .faddr 0 (.t 1), none⟩,
 ⟨(some 17), .load none (.t 16), none⟩,
 ⟨(some 18), .mv (.t 4), none⟩,
 ⟨(some 19), .iaddr 1 (.t 17) (.t 18), none⟩,
 ⟨(some 20), .load none (.t 19), none⟩,
 ⟨(some 21), .len (.t 20), none⟩,
 ⟨(some 22), .bin .add (.t 15) (.t 21), none⟩,
 ⟨(some 3), .mv (.t 22), none⟩] [1, 3, 4]))
 (.ops [
 ⟨(some 13), .mv (.t 4), none⟩,
 ⟨(some 14), .bin .add (.t 13) (.c (.int .i64 1)), none⟩,
 ⟨(some 4), .mv (.t 14), none⟩] [1, 3, 4]))))))
 (.seq (.ops [
 ⟨(some 23), .mv (.t 3), none⟩,
 ⟨(some 24), .bin .leq (.t 23) (.c (.int .i64 2000)), none⟩,
 ⟨(some 2), .mv (.t 24), none⟩] [2])
 .ret)))),
 [.t 2]⟩
-- aneroid/paper.right
def c102 : CF := ⟨43,
 (.seq (.ops [
 ⟨(some 2), .mv (.c (.bool false)), none⟩] [0])
 (.seq (.seq (.ops [
 ⟨(some 5), .mv (.t 0), none⟩,
 ⟨(some 6), .len (.t 5), none⟩,
 ⟨(some 7), .mv (.c (.int .i64 0)), none⟩] [0, 5, 6, 7])
 (.block 0 (.loop (.seq (.ops [
 ⟨(some 8), .bin .lss (.t 7) (.t 6), none⟩] [0, 5, 6, 7, 8])
 (.seq (.cond (.t 8) .skip
 (.exit 0))
 (.seq (.block 1 (.seq (.ops [
 ⟨(some 9), .mv (.t 7), none⟩,
 ⟨(some 10), .iaddr 2 (.t 5) (.t 7), none⟩,
 ⟨(some 11), .load (some 2) (.t 10), none⟩,
 ⟨(some 4), .alloc 23 2 [.int .i64 0, .int .i64 0], none⟩,
 ⟨(some 3), .mv (.t 9), none⟩,
 ⟨none, .store 2 (.t 4) (.t 11), none⟩] [0, 3, 4, 5, 6, 7])
 (.seq (.draw [
 ⟨(some 12), .faddr 0 (.t 4), none⟩,
 ⟨(some 13), .load none (.t 12), none⟩,
 ⟨(some 14), .faddr 1 (.t 4), none⟩,
 ⟨(some 15), .load none (.t 14), none⟩,
 ⟨(some 16), .call (.f 72) [(.t 13), (.c (.int .i64 0)), (.t 15)], none⟩,
 ⟨(some 17), .un .not (.t 16), none⟩,
 ⟨(some 18), .mv (.t 17), none⟩,
 ⟨(some 19), .faddr 1 (.t 4), (some (18, false))⟩,
 ⟨(some 20), .load none (.t 19), (some (18, false))⟩,
 ⟨(some 21), .bin .gtr (.t 20) (.c (.int .i64 12000)), (some (18, false))⟩,
 ⟨(some 22), .pick (.t 18) (.c (.bool true)) (.t 21), none⟩,
 ⟨(some 23), .mv (.t 22), none⟩,
 ⟨(some 24), .mv (.t 3), (some (23, false))⟩,
 ⟨(some 25), .bin .gtr (.t 24) (.c (.int .i64 0)), (some (23, false))⟩,
 ⟨(some 26), .mv (.t 25), (some (23, false))⟩,
 ⟨(some 27), .faddr 0 (.t 4), (some (26, true))⟩,
 ⟨(some 28), .load none (.t 27), (some (26, true))⟩,
 ⟨(some 29), .mv (.t 0), (some (26, true))⟩,
 ⟨(some 30), .mv (.t 3), (some (26, true))⟩,
 ⟨(some 31), .bin .sub (.t 30) (.c (.int .i64 1)), (some (26, true))⟩,
 ⟨(some 32), .iaddr 2 (.t 29) (.t 31), (some (26, true))⟩,
 ⟨(some 33), .faddr 1 (.t 32), (some (26, true))⟩,
 ⟨(some 34), .load none (.t 33), (some (26, true))⟩,
 ⟨(some 35), .bin .add (.t 34) (.c (.int .i64 1)), (some (26, true))⟩,
 ⟨(some 36), .bin .leq (.t 28) (.t 35), (some (26, true))⟩,
 ⟨(some 37), .pick (.t 26) (.t 36) (.c (.bool false)), (some (23, false))⟩,
 ⟨(some 38), .pick (.t 23) (.c (.bool true)) (.t 37), none⟩] [
 ] [0, 5, 6, 7, 38])
 (.cond (.t 38) (.seq (.ops [
 ⟨(some 2), .mv (.c (.bool false)), none⟩] [2])
 .ret)
 .skip))))
 (.ops [
 ⟨(some 39), .bin .add (.t 7) (.c (.int .i64 1)), none⟩,
 ⟨(some 7), .mv (.t 39), none⟩] [0, 5, 6, 7])))))))
 (.seq (.ops [
 ⟨(some 40), .mv (.t 0), none⟩,
 ⟨(some 41), .len (.t 40), none⟩,
 ⟨(some 42), .bin .leq (.t 41) (.c (.int .i64 8)), none⟩,
 ⟨(some 2), .mv (.t 42), none⟩] [2])
 .ret))),
 [.t 2]⟩
-- aneroid/aneroidref01.goodSet
def c103 : CF := ⟨59,
 (.seq (.ops [
 ⟨(some 2), .mv (.c (.bool false)), none⟩] [0])
 (.seq (.seq (.ops [
 ⟨(some 3), .mv (.c (.int .i64 0)), none⟩] [0, 3])
 (.block 0 (.loop (.seq (.seq (.ops [
 ⟨(some 4), .mv (.t 3), none⟩,
 ⟨(some 5), .mv (.t 0), none⟩,
 ⟨(some 6), .len (.t 5), none⟩,
 ⟨(some 7), .bin .lss (.t 4) (.t 6), none⟩] [0, 3, 7])
 (.cond (.t 7) .skip
 (.exit 0)))
 (.seq (.block 1 (.seq (.draw [
 ⟨(some 10), .mv (.t 0), none⟩,
 ⟨(some 11), .mv (.t 3), none⟩,
 ⟨(some 12), .iaddr 2 (.t 10) (.t 11), none⟩,
 ⟨(some 13), .faddr 0 (.t 12), none⟩,
 ⟨(some 14), .load none (.t 13), none⟩,
 ⟨(some 15), .bin .lss (.t 14) (.c (.int .i64 0)), none⟩,
 ⟨(some 16), .mv (.t 15), none⟩,
 ⟨(some 17), .mv (.t 0), (some (16, false))⟩,
 ⟨(some 18), .mv (.t 3), (some (16, false))⟩,
 ⟨(some 19), .iaddr 2 (.t 17) (.t 18), (some (16, false))⟩,
 ⟨(some 20), .faddr 0 (.t 19), (some (16, false))⟩,
 ⟨(some 21), .load none (.t 20), (some (16, false))⟩,
 ⟨(some 22), .mv (.t 0), (some (16, false))⟩,
 ⟨(some 23), .mv (.t 3), (some (16, false))⟩,
 ⟨(some 24), .iaddr 2 (.t 22) (.t 23), (some (16, false))⟩,
 ⟨(some 25), .faddr 1 (.t 24), (some (16, false))⟩,
 ⟨(some 26), .load none (.t 25), (some (16, false))⟩,
 ⟨(some 27), .bin .gtr (.t 21) (.t 26), (some (16, false))⟩,
 ⟨(some 28), .pick (.t 16) (.c (.bool true)) (.t 27), none⟩,
 ⟨(some 29), .mv (.t 28), none⟩,
 ⟨(some 30), .mv (.t 0), (some (29, false))⟩,
 ⟨(some 31), .mv (.t 3), (some (29, false))⟩,
 ⟨(some 32), .iaddr 2 (.t 30) (.t 31), (some (29, false))⟩,
 ⟨(some 33), .faddr 1 (.t 32), (some (29, false))⟩,
 ⟨(some 34), .load none (.t 33), (some (29, false))⟩,
 ⟨(some 35), .bin .gtr (.t 34) (.c (.int .i64 12000)), (some (29, false))⟩,
 ⟨(some 36), .pick (.t 29) (.c (.bool true)) (.t 35), none⟩,
 ⟨(some 37), .mv (.t 36), none⟩,
 ⟨(some 38), .mv (.t 3), (some (37, false))⟩,
 ⟨(some 39), .bin .gtr (.t 38) (.c (.int .i64 0)), (some (37, false))⟩,
 ⟨(some 40), .mv (.t 39), (some (37, false))⟩,
 ⟨(some 41), .mv (.t 0), (some (40, true))⟩,
 ⟨(some 42), .mv (.t 3), (some (40, true))⟩,
 ⟨(some 43), .iaddr 2 (.t 41) (.t 42), (some (40, true))⟩,
 ⟨(some 44), .faddr 0 (.t 43), (some (40, true))⟩,
 ⟨(some 45), .load none (.t 44), (some (40, true))⟩,
 ⟨(some 46), .bin .sub (.t 45) (.c (.int .i64 1)), (some (40, true))⟩,
 ⟨(some 47), .mv (.t 0), (some (40, true))⟩,
 ⟨(some 48), .mv (.t 3), (some (40, true))⟩,
 ⟨(some 49), .bin .sub (.t 48) (.c (.int .i64 1)), (some (40, true))⟩,
 ⟨(some 50), .iaddr 2 (.t 47) (.t 49), (some (40, true))⟩,
 ⟨(some 51), .faddr 1 (.t 50), (some (40, true))⟩,
 ⟨(some 52), .load none (.t 51), (some (40, true))⟩,
 ⟨(some 53), .bin .leq (.t 46) (.t 52), (some (40, true))⟩,
 ⟨(some 54), .pick (.t 40) (.t 53) (.c (.bool false)), (some (37, false))⟩,
 ⟨(some 55), .pick (.t 37) (.c (.bool true)) (.t 54), none⟩] [
 ] [0, 3, 55])
 (.cond (.t 55) (.seq (.ops [
 ⟨(some 2), .mv (.c (.bool false)), none⟩] [2])
 .ret)
 .skip)))
 (.ops [
 ⟨(some 8), .mv (.t 3), none⟩,
 ⟨(some 9), .bin .add (.t 8) (.c (.int .i64 1)), none⟩,
 ⟨(some 3), .mv (.t 9), none⟩] [0, 3]))))))
 (.seq (.ops [
 ⟨(some 56), .mv (.t 0), none⟩,
 ⟨(some 57), .len (.t 56), none⟩,
 ⟨(some 58), .bin .leq (.t 57) (.c (.int .i64 8)), none⟩,
 ⟨(some 2), .mv (.t 58), none⟩] [2])
 .ret))),
 [.t 2]⟩
-- aneroid/paper.CheckInked$1
def c101 : CF := ⟨6,
 (.seq (.ops [
 ⟨(some 2), .mv (.c (.bool false)), none⟩] [0])
 (.seq (.ops [
 ⟨(some 3), .mv (.t 0), none⟩,
 ⟨(some 4), .call (.f 102) [(.t 3)], none⟩,
 ⟨(some 5), .un .not (.t 4), none⟩,
 ⟨(some 2), .mv (.t 5), none⟩] [2])
 .ret)),
 [.t 2]⟩
-- slices.IndexFunc[[][]aneroid/api.Span,[]aneroid/api.Span]
def c126 : CF := ⟨19,
 (.seq (.ops [
 ⟨(some 4), .mv (.c (.int .i64 0)), none⟩] [0, 1])
 (.seq (.seq (.ops [
 ⟨(some 6), .mv (.t 0), none⟩,
 ⟨(some 7), .len (.t 6), none⟩,
 ⟨(some 8), .mv (.c (.int .i64 0)), none⟩] [0, 1, 7, 8])
 (.block 0 (.loop (.seq (.ops [
 ⟨(some 9), .bin .lss (.t 8) (.t 7), none⟩] [0, 1, 7, 8, 9])
 (.seq (.cond (.t 9) .skip
 (.exit 0))
 (.seq (.block 1 (.seq (.ops [
 ⟨(some 10), .mv (.t 8), none⟩,
 ⟨(some 5), .mv (.t 10), none⟩] [0, 1, 5, 7, 8])
 (.seq (.ops [
 ⟨(some 11), .mv (.t 1), none⟩,
 ⟨(some 12), .mv (.t 0), none⟩,
 ⟨(some 13), .mv (.t 5), none⟩,
 ⟨(some 14), .iaddr 1 (.t 12) (.t 13), none⟩,
 ⟨(some 15), .load none (.t 14), none⟩,
 ⟨(some 16), .call (.t 11) [(.t 15)], none⟩] [0, 1, 5, 7, 8, 16])
 (.cond (.t 16) (.seq (.ops [
 ⟨(some 17), .mv (.t 5), none⟩,
 ⟨(some 4), .mv (.t 17), none⟩] [4])
 .ret)
 .skip))))
 (.ops [
 ⟨(some 18), .bin .add (.t 8) (.c (.int .i64 1)), none⟩,
 ⟨(some 8), .mv (.t 18), none⟩] [0, 1, 7, 8])))))))
 (.seq (.ops [
 ⟨(some 4), .mv (.c (.int .i64 (-1))), none⟩] [4])
 .ret))),
 [.t 4]⟩
-- slices.ContainsFunc[[][]aneroid/api.Span,[]aneroid/api.Span]
def c100 : CF := ⟨9,
 (.seq (.ops [
 ⟨(some 4), .mv (.c (.bool false)), none⟩] [0, 1])
 (.seq (.ops [
 ⟨(some 5), .mv (.t 0), none⟩,
 ⟨(some 6), .mv (.t 1), none⟩,
 ⟨(some 7), .call (.f 126) [(.t 5), (.t 6)], none⟩,
 ⟨(some 8), .bin .geq (.t 7) (.c (.int .i64 0)), none⟩,
 ⟨(some 4), .mv (.t 8), none⟩] [4])
 .ret)),
 [.t 4]⟩
-- aneroid/paper.CheckInked
def c54 : CF := ⟨13,
 (.seq (.ops [
 ⟨(some 1), .box false 56 1 (.t 0), none⟩,
 ⟨(some 2), .mv (.c (.int .i64 0)), none⟩] [1])
 (.seq (.seq (.ops [
 ⟨(some 3), .faddr 0 (.t 1), none⟩,
 ⟨(some 4), .load none (.t 3), none⟩,
 ⟨(some 5), .len (.t 4), none⟩,
 ⟨(some 6), .call (.f 72) [(.t 5), (.c (.int .i64 1)), (.c (.int .i64 200))], none⟩,
 ⟨(some 7), .un .not (.t 6), none⟩,
 ⟨(some 8), .mv (.t 7), none⟩,
 ⟨(some 9), .faddr 0 (.t 1), (some (8, false))⟩,
 ⟨(some 10), .load none (.t 9), (some (8, false))⟩,
 ⟨(some 11), .call (.f 100) [(.t 10), (.f 101)], (some (8, false))⟩,
 ⟨(some 12), .pick (.t 8) (.c (.bool true)) (.t 11), none⟩] [12])
 (.cond (.t 12) (.seq (.ops [
 ⟨(some 2), .mv (.c (.int .i64 12)), none⟩] [2])
 .ret)
 .skip))
 (.seq (.ops [
 ⟨(some 2), .mv (.c (.int .i64 0)), none⟩] [2])
 .ret))),
 [.t 2]⟩
-- aneroid/aneroidref01.CheckInked
def c55 : CF := ⟨23,
 (.seq (.ops [
 ⟨(some 1), .box false 56 1 (.t 0), none⟩,
 ⟨(some 2), .mv (.c (.int .i64 0)), none⟩] [1])
 (.seq (.seq (.ops [
 ⟨(some 4), .faddr 0 (.t 1), none⟩,
 ⟨(some 5), .load none (.t 4), none⟩,
 ⟨(some 6), .len (.t 5), none⟩,
 ⟨(some 7), .call (.f 76) [(.t 6), (.c (.int .i64 1)), (.c (.int .i64 200))], none⟩,
 ⟨(some 8), .un .not (.t 7), none⟩] [1, 8])
 (.cond (.t 8) (.seq (.ops [
 ⟨(some 2), .mv (.c (.int .i64 12)), none⟩] [2])
 .ret)
 .skip))
 (.seq (.seq (.ops [
 ⟨(some 3), .mv (.c (.int .i64 0)), none⟩] [1, 3])
 (.block 0 (.loop (.seq (.seq (.ops [
 ⟨(some 9), .mv (.t 3), none⟩,
 ⟨(some 10), .faddr 0 (.t 1), none⟩,
 ⟨(some 11), .load none (.t 10), none⟩,
 ⟨(some 12), .len (.t 11), none⟩,
 ⟨(some 13), .bin .lss (.t 9) (.t 12), none⟩] [1, 3, 13])
 (.cond (.t 13) .skip
 (.exit 0)))
 (.seq (.block 1 (.seq (.ops [
 ⟨(some 16), .faddr 0 (.t 1), none⟩,
 ⟨(some 17), .load none (.t 16), none⟩,
 ⟨(some 18), .mv (.t 3), none⟩,
 ⟨(some 19), .iaddr 1 (.t 17) (.t 18), none⟩,
 ⟨(some 20), .load none (.t 19), none⟩,
 ⟨(some 21), .call (.f 103) [(.t 20)], none⟩,
 ⟨(some 22), .un .not (.t 21), none⟩] [1, 3, 22])
 (.cond (.t 22) (.seq (.ops [
 ⟨(some 2), .mv (.c (.int .i64 12)), none⟩] [2])
 .ret)
 .skip)))
 (.ops [
 ⟨(some 14), .mv (.t 3), none⟩,
 ⟨(some 15), .bin .add (.t 14) (.c (.int .i64 1)), none⟩,
 ⟨(some 3), .mv (.t 15), none⟩] [1, 3]))))))
 (.seq (.ops [
 ⟨(some 2), .mv (.c (.int .i64 0)), none⟩] [2])
 .ret)))),
 [.t 2]⟩

abbrev colS (x : List (List Sp)) : AV := .sl 1 (x.map fun l => [spS l])
abbrev ink (x : List (List Sp)) : AV := .agg [colS x]

theorem k45 : chkF Try.prog Try.f45 c45 = true := by kernel_rfl
theorem k102 : chkF Try.prog Try.f102 c102 = true := by kernel_rfl
theorem k103 : chkF Try.prog Try.f103 c103 = true := by kernel_rfl
theorem k101 : chkF Try.prog Try.f101 c101 = true := by kernel_rfl
theorem k126 : chkF Try.prog Try.f126 c126 = true := by kernel_rfl
theorem k100 : chkF Try.prog Try.f100 c100 = true := by kernel_rfl
theorem k54 : chkF Try.prog Try.f54 c54 = true := by kernel_rfl
theorem k55 : chkF Try.prog Try.f55 c55 = true := by kernel_rfl

/-- The lengths of columns, as they are added. -/
def wsum : Int → List (List Sp) → Int
  | a, [] => a
  | a, l :: r => wsum (IntKind.i64.wrap (a + l.length)) r

theorem small_spec (x : List (List Sp)) (hx : x.length < 9223372036854775808) : Pure Try.prog 45 [ink x] (bl (decide (wsum x.length x ≤ 2000))) := by
  refine Pure.of_body Try.call45 Try.func45 k45 (Nat.le_of_ble_eq_true rfl) ?_
  unfold c45
  (repeat' first
 | (refine AWPC.of_vcn rfl ?_; simp only [zT, zV, zS, zU, vcC, lateX, ex, strp, cnd, binA, kseq, kblk, kret, klp, Abs.one, elems, cells, scalar, eqC, Nat.reduceBEq, Nat.reduceAdd, Nat.reduceSub, Nat.reduceLT, Nat.reduceLeDiff, Nat.reduceMul, Nat.reduceEqDiff, cond_true, cond_false, if_true, if_false, reduceIte, implies_true, forall_const, ne_eq])
 | (simp (disch := omega) only [wr64, Int.zero_sub]; try simp only [zT, zV, zS, zU, vcC, lateX, ex, strp, cnd, binA, kseq, kblk, kret, klp, Abs.one, elems, cells, scalar, eqC, Nat.reduceBEq, Nat.reduceAdd, Nat.reduceSub, Nat.reduceLT, Nat.reduceLeDiff, Nat.reduceMul, Nat.reduceEqDiff, cond_true, cond_false, if_true, if_false, reduceIte, implies_true, forall_const, ne_eq])
 | (refine AWPC.both (fun _ => ?_) (fun _ => ?_))
 | (refine AWPC.imp (fun _ => ?_))
 | ((refine .inl ⟨_, _, _, .any, rfl, fun h => absurd h Bool.false_ne_true, ?_⟩); refine owp_of_exs ?_; simp only [zT, zV, zS, zU, vcC, lateX, ex, strp, cnd, binA, kseq, kblk, kret, klp, Abs.one, elems, cells, scalar, eqC, Nat.reduceBEq, Nat.reduceAdd, Nat.reduceSub, Nat.reduceLT, Nat.reduceLeDiff, Nat.reduceMul, Nat.reduceEqDiff, cond_true, cond_false, if_true, if_false, reduceIte, implies_true, forall_const, ne_eq])
 | (refine ⟨by omega, ?_⟩)
 | (refine And.intro (by (intros; first | (simp_all (config := { decide := false }); done) | fail)) ?_)
 | fail)
  refine AWPC.loopS (α := { q : Nat × Int // q.1 ≤ x.length ∧ wsum q.2 (x.drop q.1) = wsum x.length x }) [3, 4] (fun q => [(3, n q.1.2), (4, n q.1.1)]) (fun q => x.length - q.1.1) ⟨(0, x.length), by simp, by simp⟩ ?_ ?_
  · (simp only [zT, zV, zS, zU, vcC, lateX, ex, strp, cnd, binA, kseq, kblk, kret, klp, Abs.one, elems, cells, scalar, eqC, Nat.reduceBEq, Nat.reduceAdd, Nat.reduceSub, Nat.reduceLT, Nat.reduceLeDiff, Nat.reduceMul, Nat.reduceEqDiff, cond_true, cond_false, if_true, if_false, reduceIte, implies_true, forall_const, ne_eq]; try simp)
  · rintro ⟨⟨i, a⟩, hi, ha⟩
    simp only at hi ha
    by_cases hlt : i < x.length
    · obtain ⟨l, hl⟩ : ∃ l, x[i]? = some l := ⟨_, List.getElem?_eq_getElem hlt⟩
      rw [drop_cons hl, wsum] at ha
      (repeat' first
 | (refine AWPC.of_vcn rfl ?_; simp only [zT, zV, zS, zU, vcC, lateX, ex, strp, cnd, binA, kseq, kblk, kret, klp, Abs.one, elems, cells, scalar, eqC, Nat.reduceBEq, Nat.reduceAdd, Nat.reduceSub, Nat.reduceLT, Nat.reduceLeDiff, Nat.reduceMul, Nat.reduceEqDiff, cond_true, cond_false, if_true, if_false, reduceIte, implies_true, forall_const, ne_eq, getD_map hl])
 | (simp (disch := omega) only [wr64, Int.zero_sub]; try simp only [zT, zV, zS, zU, vcC, lateX, ex, strp, cnd, binA, kseq, kblk, kret, klp, Abs.one, elems, cells, scalar, eqC, Nat.reduceBEq, Nat.reduceAdd, Nat.reduceSub, Nat.reduceLT, Nat.reduceLeDiff, Nat.reduceMul, Nat.reduceEqDiff, cond_true, cond_false, if_true, if_false, reduceIte, implies_true, forall_const, ne_eq, getD_map hl])
 | (refine AWPC.both (fun _ => ?_) (fun _ => ?_))
 | (refine AWPC.imp (fun _ => ?_))
 | ((refine .inl ⟨_, _, _, .any, rfl, fun h => absurd h Bool.false_ne_true, ?_⟩); refine owp_of_exs ?_; simp only [zT, zV, zS, zU, vcC, lateX, ex, strp, cnd, binA, kseq, kblk, kret, klp, Abs.one, elems, cells, scalar, eqC, Nat.reduceBEq, Nat.reduceAdd, Nat.reduceSub, Nat.reduceLT, Nat.reduceLeDiff, Nat.reduceMul, Nat.reduceEqDiff, cond_true, cond_false, if_true, if_false, reduceIte, implies_true, forall_const, ne_eq, getD_map hl])
 | (refine ⟨by omega, ?_⟩)
 | (refine And.intro (by (intros; first | (simp_all (config := { decide := false }); done) | fail)) ?_)
 | fail)
      all_goals try (exfalso; omega)
      exact ⟨⟨(i + 1, _), hlt, ha⟩, ⟨rfl, by simp⟩, by simp only; omega⟩
    · obtain rfl : i = x.length := by omega
      rw [List.drop_length, wsum] at ha
      subst ha
      (repeat' first
 | (refine AWPC.of_vcn rfl ?_; simp only [zT, zV, zS, zU, vcC, lateX, ex, strp, cnd, binA, kseq, kblk, kret, klp, Abs.one, elems, cells, scalar, eqC, Nat.reduceBEq, Nat.reduceAdd, Nat.reduceSub, Nat.reduceLT, Nat.reduceLeDiff, Nat.reduceMul, Nat.reduceEqDiff, cond_true, cond_false, if_true, if_false, reduceIte, implies_true, forall_const, ne_eq])
 | (simp (disch := omega) only [wr64, Int.zero_sub]; try simp only [zT, zV, zS, zU, vcC, lateX, ex, strp, cnd, binA, kseq, kblk, kret, klp, Abs.one, elems, cells, scalar, eqC, Nat.reduceBEq, Nat.reduceAdd, Nat.reduceSub, Nat.reduceLT, Nat.reduceLeDiff, Nat.reduceMul, Nat.reduceEqDiff, cond_true, cond_false, if_true, if_false, reduceIte, implies_true, forall_const, ne_eq])
 | (refine AWPC.both (fun _ => ?_) (fun _ => ?_))
 | (refine AWPC.imp (fun _ => ?_))
 | ((refine .inl ⟨_, _, _, .any, rfl, fun h => absurd h Bool.false_ne_true, ?_⟩); refine owp_of_exs ?_; simp only [zT, zV, zS, zU, vcC, lateX, ex, strp, cnd, binA, kseq, kblk, kret, klp, Abs.one, elems, cells, scalar, eqC, Nat.reduceBEq, Nat.reduceAdd, Nat.reduceSub, Nat.reduceLT, Nat.reduceLeDiff, Nat.reduceMul, Nat.reduceEqDiff, cond_true, cond_false, if_true, if_false, reduceIte, implies_true, forall_const, ne_eq])
 | (refine ⟨by omega, ?_⟩)
 | (refine And.intro (by (intros; first | (simp_all (config := { decide := false }); done) | fail)) ?_)
 | fail)
      all_goals try (exfalso; omega)
      exact Frz.eq rfl (by simp)

/-- A set of levels of a column. -/
def good (l : List Sp) : Prop := Norm l ∧ (∀ s ∈ l, 0 ≤ s.lo ∧ s.hi ≤ 12000) ∧ l.length ≤ 8

theorem norm_snoc {a : List Sp} {u s : Sp} (h : Norm (a ++ [u])) : Norm (a ++ [u] ++ [s]) ↔ s.lo ≤ s.hi ∧ u.hi + 1 < s.lo := by
  rw [norm_append]
  constructor
  · rintro ⟨_, h2, h3⟩; exact ⟨h2.1, h3 u (by simp) s (by simp)⟩
  · rintro ⟨h2, h3⟩
    refine ⟨h, ⟨h2, fun t ht => absurd ht (List.not_mem_nil), trivial⟩, fun w hw t ht => ?_⟩
    obtain rfl : t = s := by simpa using ht
    rcases List.mem_append.1 hw with hw | hw
    · have h4 := (norm_append.1 h).2.2 w hw u (by simp)
      have h5 := h.ne u (by simp)
      omega
    · obtain rfl : w = u := by simpa using hw
      exact h3

/-- What has been looked at so far is in order. -/
def okTo (l : List Sp) (i : Nat) : Prop := Norm (l.take i) ∧ ∀ s ∈ l.take i, 0 ≤ s.lo ∧ s.hi ≤ 12000

theorem okTo_0 (l : List Sp) : okTo l 0 := ⟨by simp [Norm], by simp⟩

theorem okTo_1 {l : List Sp} {s : Sp} (hs : l[0]? = some s) : okTo l 1 ↔ s.lo ≤ s.hi ∧ 0 ≤ s.lo ∧ s.hi ≤ 12000 := by
  unfold okTo
  rw [List.take_add_one, hs]
  simp [Norm]

theorem okTo_next {l : List Sp} {i : Nat} {u s : Sp} (hu : l[i]? = some u) (hs : l[i + 1]? = some s) (h : okTo l (i + 1)) : okTo l (i + 2) ↔ (s.lo ≤ s.hi ∧ u.hi + 1 < s.lo) ∧ 0 ≤ s.lo ∧ s.hi ≤ 12000 := by
  have e1 : l.take (i + 1) = l.take i ++ [u] := by rw [List.take_add_one, hu]; rfl
  have e2 : l.take (i + 2) = l.take i ++ [u] ++ [s] := by rw [List.take_add_one, hs, e1]; rfl
  unfold okTo at h ⊢
  rw [e1] at h
  rw [e2, norm_snoc h.1]
  constructor
  · rintro ⟨h1, h2⟩; exact ⟨h1, h2 s (by simp)⟩
  · rintro ⟨h1, h2⟩
    refine ⟨h1, fun w hw => ?_⟩
    rcases List.mem_append.1 hw with hw | hw
    · exact h.2 w hw
    · obtain rfl : w = s := by simpa using hw
      exact h2

theorem good_okTo {l : List Sp} (h : good l) (i : Nat) : okTo l i := by
  obtain ⟨h1, h2, _⟩ := h
  rw [← List.take_append_drop i l] at h1
  exact ⟨(norm_append.1 h1).1, fun s hs => h2 s (List.mem_of_mem_take hs)⟩

theorem okTo_good {l : List Sp} (h : okTo l l.length) (hl : l.length ≤ 8) : good l := by
  unfold okTo at h
  rw [List.take_length] at h
  exact ⟨h.1, h.2, hl⟩

theorem right_spec (l : List Sp) (hl : l.length < 9223372036854775808) : Pure Try.prog 102 [spS l] (bl (tr (good l))) := by
  refine Pure.of_body Try.call102 Try.func102 k102 (Nat.le_of_ble_eq_true rfl) ?_
  unfold c102
  (repeat' first
 | (refine AWPC.of_vcn rfl ?_; simp only [zT, zV, zS, zU, vcC, lateX, ex, strp, cnd, binA, kseq, kblk, kret, klp, Abs.one, elems, cells, scalar, eqC, Nat.reduceBEq, Nat.reduceAdd, Nat.reduceSub, Nat.reduceLT, Nat.reduceLeDiff, Nat.reduceMul, Nat.reduceEqDiff, cond_true, cond_false, if_true, if_false, reduceIte, implies_true, forall_const, ne_eq])
 | (simp (disch := omega) only [wr64, Int.zero_sub]; try simp only [zT, zV, zS, zU, vcC, lateX, ex, strp, cnd, binA, kseq, kblk, kret, klp, Abs.one, elems, cells, scalar, eqC, Nat.reduceBEq, Nat.reduceAdd, Nat.reduceSub, Nat.reduceLT, Nat.reduceLeDiff, Nat.reduceMul, Nat.reduceEqDiff, cond_true, cond_false, if_true, if_false, reduceIte, implies_true, forall_const, ne_eq])
 | (refine AWPC.both (fun _ => ?_) (fun _ => ?_))
 | (refine AWPC.imp (fun _ => ?_))
 | ((refine .inl ⟨_, _, _, .any, rfl, fun h => absurd h Bool.false_ne_true, ?_⟩); refine owp_of_exs ?_; simp only [zT, zV, zS, zU, vcC, lateX, ex, strp, cnd, binA, kseq, kblk, kret, klp, Abs.one, elems, cells, scalar, eqC, Nat.reduceBEq, Nat.reduceAdd, Nat.reduceSub, Nat.reduceLT, Nat.reduceLeDiff, Nat.reduceMul, Nat.reduceEqDiff, cond_true, cond_false, if_true, if_false, reduceIte, implies_true, forall_const, ne_eq])
 | (refine ⟨by omega, ?_⟩)
 | (refine And.intro (by (intros; first | (simp_all (config := { decide := false }); done) | fail)) ?_)
 | fail)
  refine AWPC.loop (α := { x : Nat × Sto // x.1 ≤ l.length ∧ okTo l x.1 }) (fun x => ([(0, spS l), (5, spS l), (6, n l.length), (7, n x.1.1)], x.1.2)) (fun x => l.length - x.1.1) ⟨(0, []), by simp, okTo_0 l⟩ ?_ rfl ?_
  · (simp only [zT, zV, zS, zU, vcC, lateX, ex, strp, cnd, binA, kseq, kblk, kret, klp, Abs.one, elems, cells, scalar, eqC, Nat.reduceBEq, Nat.reduceAdd, Nat.reduceSub, Nat.reduceLT, Nat.reduceLeDiff, Nat.reduceMul, Nat.reduceEqDiff, cond_true, cond_false, if_true, if_false, reduceIte, implies_true, forall_const, ne_eq]; try simp)
  · rintro ⟨⟨i, τ⟩, hi, hb⟩
    simp only at hi hb
    by_cases hlt : i < l.length
    · obtain ⟨s, hs⟩ : ∃ s, l[i]? = some s := ⟨_, List.getElem?_eq_getElem hlt⟩
      cases i with
      | zero =>
        have hn := okTo_1 hs
        have hz : (-1 : Int).toNat = 0 := rfl
        (repeat' first
 | (refine AWPC.of_vcn rfl ?_; simp only [zT, zV, zS, zU, vcC, lateX, ex, strp, cnd, binA, kseq, kblk, kret, klp, Abs.one, elems, cells, scalar, eqC, Nat.reduceBEq, Nat.reduceAdd, Nat.reduceSub, Nat.reduceLT, Nat.reduceLeDiff, Nat.reduceMul, Nat.reduceEqDiff, cond_true, cond_false, if_true, if_false, reduceIte, implies_true, forall_const, ne_eq, getD_map hs, hz])
 | (simp (disch := omega) only [wr64, Int.zero_sub]; try simp only [zT, zV, zS, zU, vcC, lateX, ex, strp, cnd, binA, kseq, kblk, kret, klp, Abs.one, elems, cells, scalar, eqC, Nat.reduceBEq, Nat.reduceAdd, Nat.reduceSub, Nat.reduceLT, Nat.reduceLeDiff, Nat.reduceMul, Nat.reduceEqDiff, cond_true, cond_false, if_true, if_false, reduceIte, implies_true, forall_const, ne_eq, getD_map hs, hz])
 | (refine AWPC.both (fun _ => ?_) (fun _ => ?_))
 | (refine AWPC.imp (fun _ => ?_))
 | ((repeat (refine And.intro (by (intros; first | omega | (simp_all (config := { decide := false }); done) | fail)) ?_)); (first
 | (refine .inl ⟨_, _, _, _, rfl, fun _hc => ⟨by simp, within_spec _ _ _⟩, ?_⟩)
 | (refine ⟨_, _, _, _, rfl, fun _hc => ⟨by simp, within_spec _ _ _⟩, ?_⟩)
 | fail); (first | refine owp_of_exs ?_ | refine pre_of_exd ?_ | refine pre_of_exe ?_ | fail); simp only [zT, zV, zS, zU, vcC, lateX, ex, strp, cnd, binA, kseq, kblk, kret, klp, Abs.one, elems, cells, scalar, eqC, Nat.reduceBEq, Nat.reduceAdd, Nat.reduceSub, Nat.reduceLT, Nat.reduceLeDiff, Nat.reduceMul, Nat.reduceEqDiff, cond_true, cond_false, if_true, if_false, reduceIte, implies_true, forall_const, ne_eq, getD_map hs, hz])
 | ((refine .inl ⟨_, _, _, .any, rfl, fun h => absurd h Bool.false_ne_true, ?_⟩); refine owp_of_exs ?_; simp only [zT, zV, zS, zU, vcC, lateX, ex, strp, cnd, binA, kseq, kblk, kret, klp, Abs.one, elems, cells, scalar, eqC, Nat.reduceBEq, Nat.reduceAdd, Nat.reduceSub, Nat.reduceLT, Nat.reduceLeDiff, Nat.reduceMul, Nat.reduceEqDiff, cond_true, cond_false, if_true, if_false, reduceIte, implies_true, forall_const, ne_eq, getD_map hs, hz])
 | (refine ⟨by omega, ?_⟩)
 | (refine And.intro (by (intros; first | (simp_all (config := { decide := false }); done) | fail)) ?_)
 | fail)
        all_goals try (exfalso; omega)
        · rename_i h
          rw [tr_0 (fun g => ?_)]
          · exact Frz.eq rfl (by simp)
          · have := hn.1 (good_okTo g 1); omega
        · rename_i h
          exact ⟨⟨(1, _), hlt, hn.2 (by omega)⟩, by simp, rfl, by simp only; omega⟩
      | succ i =>
        obtain ⟨u, hu⟩ : ∃ u, l[i]? = some u := ⟨_, List.getElem?_eq_getElem (by omega)⟩
        have hn := okTo_next hu hs hb
        have hub := hb.2 u (by rw [List.take_add_one, hu]; simp)
        have hune := hb.1.ne u (by rw [List.take_add_one, hu]; simp)
        have hw : IntKind.i64.wrap (((i + 1 : Nat) : Int) - 1) = (i : Int) := by rw [wr64 _ (by omega) (by omega)]; omega
        (repeat' first
 | (refine AWPC.of_vcn rfl ?_; simp only [zT, zV, zS, zU, vcC, lateX, ex, strp, cnd, binA, kseq, kblk, kret, klp, Abs.one, elems, cells, scalar, eqC, Nat.reduceBEq, Nat.reduceAdd, Nat.reduceSub, Nat.reduceLT, Nat.reduceLeDiff, Nat.reduceMul, Nat.reduceEqDiff, cond_true, cond_false, if_true, if_false, reduceIte, implies_true, forall_const, ne_eq, getD_map hs, getD_map hu, hw])
 | (simp (disch := omega) only [wr64, Int.zero_sub]; try simp only [zT, zV, zS, zU, vcC, lateX, ex, strp, cnd, binA, kseq, kblk, kret, klp, Abs.one, elems, cells, scalar, eqC, Nat.reduceBEq, Nat.reduceAdd, Nat.reduceSub, Nat.reduceLT, Nat.reduceLeDiff, Nat.reduceMul, Nat.reduceEqDiff, cond_true, cond_false, if_true, if_false, reduceIte, implies_true, forall_const, ne_eq, getD_map hs, getD_map hu, hw])
 | (refine AWPC.both (fun _ => ?_) (fun _ => ?_))
 | (refine AWPC.imp (fun _ => ?_))
 | ((repeat (refine And.intro (by (intros; first | omega | (simp_all (config := { decide := false }); done) | fail)) ?_)); (first
 | (refine .inl ⟨_, _, _, _, rfl, fun _hc => ⟨by simp, within_spec _ _ _⟩, ?_⟩)
 | (refine ⟨_, _, _, _, rfl, fun _hc => ⟨by simp, within_spec _ _ _⟩, ?_⟩)
 | fail); (first | refine owp_of_exs ?_ | refine pre_of_exd ?_ | refine pre_of_exe ?_ | fail); simp only [zT, zV, zS, zU, vcC, lateX, ex, strp, cnd, binA, kseq, kblk, kret, klp, Abs.one, elems, cells, scalar, eqC, Nat.reduceBEq, Nat.reduceAdd, Nat.reduceSub, Nat.reduceLT, Nat.reduceLeDiff, Nat.reduceMul, Nat.reduceEqDiff, cond_true, cond_false, if_true, if_false, reduceIte, implies_true, forall_const, ne_eq, getD_map hs, getD_map hu, hw])
 | ((refine .inl ⟨_, _, _, .any, rfl, fun h => absurd h Bool.false_ne_true, ?_⟩); refine owp_of_exs ?_; simp only [zT, zV, zS, zU, vcC, lateX, ex, strp, cnd, binA, kseq, kblk, kret, klp, Abs.one, elems, cells, scalar, eqC, Nat.reduceBEq, Nat.reduceAdd, Nat.reduceSub, Nat.reduceLT, Nat.reduceLeDiff, Nat.reduceMul, Nat.reduceEqDiff, cond_true, cond_false, if_true, if_false, reduceIte, implies_true, forall_const, ne_eq, getD_map hs, getD_map hu, hw])
 | (refine ⟨by omega, ?_⟩)
 | (refine And.intro (by (intros; first | (simp_all (config := { decide := false }); done) | fail)) ?_)
 | fail)
        all_goals try (exfalso; omega)
        · rename_i h
          rw [tr_0 (fun g => ?_)]
          · exact Frz.eq rfl (by simp)
          · have := hn.1 (good_okTo g (i + 2)); omega
        · rename_i h
          exact ⟨⟨(i + 2, _), hlt, hn.2 (by omega)⟩, by simp; omega, rfl, by simp only; omega⟩
    · obtain rfl : i = l.length := by omega
      (repeat' first
 | (refine AWPC.of_vcn rfl ?_; simp only [zT, zV, zS, zU, vcC, lateX, ex, strp, cnd, binA, kseq, kblk, kret, klp, Abs.one, elems, cells, scalar, eqC, Nat.reduceBEq, Nat.reduceAdd, Nat.reduceSub, Nat.reduceLT, Nat.reduceLeDiff, Nat.reduceMul, Nat.reduceEqDiff, cond_true, cond_false, if_true, if_false, reduceIte, implies_true, forall_const, ne_eq])
 | (simp (disch := omega) only [wr64, Int.zero_sub]; try simp only [zT, zV, zS, zU, vcC, lateX, ex, strp, cnd, binA, kseq, kblk, kret, klp, Abs.one, elems, cells, scalar, eqC, Nat.reduceBEq, Nat.reduceAdd, Nat.reduceSub, Nat.reduceLT, Nat.reduceLeDiff, Nat.reduceMul, Nat.reduceEqDiff, cond_true, cond_false, if_true, if_false, reduceIte, implies_true, forall_const, ne_eq])
 | (refine AWPC.both (fun _ => ?_) (fun _ => ?_))
 | (refine AWPC.imp (fun _ => ?_))
 | ((refine .inl ⟨_, _, _, .any, rfl, fun h => absurd h Bool.false_ne_true, ?_⟩); refine owp_of_exs ?_; simp only [zT, zV, zS, zU, vcC, lateX, ex, strp, cnd, binA, kseq, kblk, kret, klp, Abs.one, elems, cells, scalar, eqC, Nat.reduceBEq, Nat.reduceAdd, Nat.reduceSub, Nat.reduceLT, Nat.reduceLeDiff, Nat.reduceMul, Nat.reduceEqDiff, cond_true, cond_false, if_true, if_false, reduceIte, implies_true, forall_const, ne_eq])
 | (refine ⟨by omega, ?_⟩)
 | (refine And.intro (by (intros; first | (simp_all (config := { decide := false }); done) | fail)) ?_)
 | fail)
      all_goals try (exfalso; omega)
      exact Frz.eq (congrArg bl (decide_eq_decide.2 ⟨fun h => okTo_good hb (by omega), fun h => by have := h.2.2; omega⟩)) (by simp)

theorem goodSet_spec (l : List Sp) (hl : l.length < 9223372036854775808) : Pure Try.prog 103 [spS l] (bl (tr (good l))) := by
  refine Pure.of_body Try.call103 Try.func103 k103 (Nat.le_of_ble_eq_true rfl) ?_
  unfold c103
  (repeat' first
 | (refine AWPC.of_vcn rfl ?_; simp only [zT, zV, zS, zU, vcC, lateX, ex, strp, cnd, binA, kseq, kblk, kret, klp, Abs.one, elems, cells, scalar, eqC, Nat.reduceBEq, Nat.reduceAdd, Nat.reduceSub, Nat.reduceLT, Nat.reduceLeDiff, Nat.reduceMul, Nat.reduceEqDiff, cond_true, cond_false, if_true, if_false, reduceIte, implies_true, forall_const, ne_eq])
 | (simp (disch := omega) only [wr64, Int.zero_sub]; try simp only [zT, zV, zS, zU, vcC, lateX, ex, strp, cnd, binA, kseq, kblk, kret, klp, Abs.one, elems, cells, scalar, eqC, Nat.reduceBEq, Nat.reduceAdd, Nat.reduceSub, Nat.reduceLT, Nat.reduceLeDiff, Nat.reduceMul, Nat.reduceEqDiff, cond_true, cond_false, if_true, if_false, reduceIte, implies_true, forall_const, ne_eq])
 | (refine AWPC.both (fun _ => ?_) (fun _ => ?_))
 | (refine AWPC.imp (fun _ => ?_))
 | ((refine .inl ⟨_, _, _, .any, rfl, fun h => absurd h Bool.false_ne_true, ?_⟩); refine owp_of_exs ?_; simp only [zT, zV, zS, zU, vcC, lateX, ex, strp, cnd, binA, kseq, kblk, kret, klp, Abs.one, elems, cells, scalar, eqC, Nat.reduceBEq, Nat.reduceAdd, Nat.reduceSub, Nat.reduceLT, Nat.reduceLeDiff, Nat.reduceMul, Nat.reduceEqDiff, cond_true, cond_false, if_true, if_false, reduceIte, implies_true, forall_const, ne_eq])
 | (refine ⟨by omega, ?_⟩)
 | (refine And.intro (by (intros; first | (simp_all (config := { decide := false }); done) | fail)) ?_)
 | fail)
  refine AWPC.loopI 3 l.length (okTo l) (okTo_0 l) ?_ ?_
  · (simp only [zT, zV, zS, zU, vcC, lateX, ex, strp, cnd, binA, kseq, kblk, kret, klp, Abs.one, elems, cells, scalar, eqC, Nat.reduceBEq, Nat.reduceAdd, Nat.reduceSub, Nat.reduceLT, Nat.reduceLeDiff, Nat.reduceMul, Nat.reduceEqDiff, cond_true, cond_false, if_true, if_false, reduceIte, implies_true, forall_const, ne_eq]; try simp)
  · intro i hi hb
    by_cases hlt : i < l.length
    · obtain ⟨s, hs⟩ : ∃ s, l[i]? = some s := ⟨_, List.getElem?_eq_getElem hlt⟩
      by_cases hneg : s.lo < 0
      · have hno : ¬ good l := fun g => by
          have := (good_okTo g (i + 1)).2 s (by rw [List.take_add_one, hs]; simp)
          omega
        cases i with
        | zero =>
          have hz : (-1 : Int).toNat = 0 := rfl
          (repeat' first
 | (refine AWPC.of_vcn rfl ?_; simp only [zT, zV, zS, zU, vcC, lateX, ex, strp, cnd, binA, kseq, kblk, kret, klp, Abs.one, elems, cells, scalar, eqC, Nat.reduceBEq, Nat.reduceAdd, Nat.reduceSub, Nat.reduceLT, Nat.reduceLeDiff, Nat.reduceMul, Nat.reduceEqDiff, cond_true, cond_false, if_true, if_false, reduceIte, implies_true, forall_const, ne_eq, getD_map hs, hz])
 | (simp (disch := omega) only [wr64, Int.zero_sub]; try simp only [zT, zV, zS, zU, vcC, lateX, ex, strp, cnd, binA, kseq, kblk, kret, klp, Abs.one, elems, cells, scalar, eqC, Nat.reduceBEq, Nat.reduceAdd, Nat.reduceSub, Nat.reduceLT, Nat.reduceLeDiff, Nat.reduceMul, Nat.reduceEqDiff, cond_true, cond_false, if_true, if_false, reduceIte, implies_true, forall_const, ne_eq, getD_map hs, hz])
 | (refine AWPC.both (fun _ => ?_) (fun _ => ?_))
 | (refine AWPC.imp (fun _ => ?_))
 | ((refine .inl ⟨_, _, _, .any, rfl, fun h => absurd h Bool.false_ne_true, ?_⟩); refine owp_of_exs ?_; simp only [zT, zV, zS, zU, vcC, lateX, ex, strp, cnd, binA, kseq, kblk, kret, klp, Abs.one, elems, cells, scalar, eqC, Nat.reduceBEq, Nat.reduceAdd, Nat.reduceSub, Nat.reduceLT, Nat.reduceLeDiff, Nat.reduceMul, Nat.reduceEqDiff, cond_true, cond_false, if_true, if_false, reduceIte, implies_true, forall_const, ne_eq, getD_map hs, hz])
 | (refine ⟨by omega, ?_⟩)
 | (refine And.intro (by (intros; first | (simp_all (config := { decide := false }); done) | fail)) ?_)
 | fail)
          all_goals try (exfalso; omega)
          rw [tr_0 hno]
          exact Frz.eq rfl (by simp)
        | succ i =>
          obtain ⟨u, hu⟩ : ∃ u, l[i]? = some u := ⟨_, List.getElem?_eq_getElem (by omega)⟩
          have hw : IntKind.i64.wrap (((i + 1 : Nat) : Int) - 1) = (i : Int) := by rw [wr64 _ (by omega) (by omega)]; omega
          (repeat' first
 | (refine AWPC.of_vcn rfl ?_; simp only [zT, zV, zS, zU, vcC, lateX, ex, strp, cnd, binA, kseq, kblk, kret, klp, Abs.one, elems, cells, scalar, eqC, Nat.reduceBEq, Nat.reduceAdd, Nat.reduceSub, Nat.reduceLT, Nat.reduceLeDiff, Nat.reduceMul, Nat.reduceEqDiff, cond_true, cond_false, if_true, if_false, reduceIte, implies_true, forall_const, ne_eq, getD_map hs, getD_map hu, hw])
 | (simp (disch := omega) only [wr64, Int.zero_sub]; try simp only [zT, zV, zS, zU, vcC, lateX, ex, strp, cnd, binA, kseq, kblk, kret, klp, Abs.one, elems, cells, scalar, eqC, Nat.reduceBEq, Nat.reduceAdd, Nat.reduceSub, Nat.reduceLT, Nat.reduceLeDiff, Nat.reduceMul, Nat.reduceEqDiff, cond_true, cond_false, if_true, if_false, reduceIte, implies_true, forall_const, ne_eq, getD_map hs, getD_map hu, hw])
 | (refine AWPC.both (fun _ => ?_) (fun _ => ?_))
 | (refine AWPC.imp (fun _ => ?_))
 | ((refine .inl ⟨_, _, _, .any, rfl, fun h => absurd h Bool.false_ne_true, ?_⟩); refine owp_of_exs ?_; simp only [zT, zV, zS, zU, vcC, lateX, ex, strp, cnd, binA, kseq, kblk, kret, klp, Abs.one, elems, cells, scalar, eqC, Nat.reduceBEq, Nat.reduceAdd, Nat.reduceSub, Nat.reduceLT, Nat.reduceLeDiff, Nat.reduceMul, Nat.reduceEqDiff, cond_true, cond_false, if_true, if_false, reduceIte, implies_true, forall_const, ne_eq, getD_map hs, getD_map hu, hw])
 | (refine ⟨by omega, ?_⟩)
 | (refine And.intro (by (intros; first | (simp_all (config := { decide := false }); done) | fail)) ?_)
 | fail)
          all_goals try (exfalso; omega)
          rw [tr_0 hno]
          exact Frz.eq rfl (by simp)
      · by_cases hbig : 12000 < s.lo
        · have hno : ¬ good l := fun g => by
            have h1 := (good_okTo g (i + 1)).2 s (by rw [List.take_add_one, hs]; simp)
            have h2 := g.1.ne s (List.mem_of_getElem? hs)
            omega
          cases i with
          | zero =>
            have hz : (-1 : Int).toNat = 0 := rfl
            (repeat' first
 | (refine AWPC.of_vcn rfl ?_; simp only [zT, zV, zS, zU, vcC, lateX, ex, strp, cnd, binA, kseq, kblk, kret, klp, Abs.one, elems, cells, scalar, eqC, Nat.reduceBEq, Nat.reduceAdd, Nat.reduceSub, Nat.reduceLT, Nat.reduceLeDiff, Nat.reduceMul, Nat.reduceEqDiff, cond_true, cond_false, if_true, if_false, reduceIte, implies_true, forall_const, ne_eq, getD_map hs, hz])
 | (simp (disch := omega) only [wr64, Int.zero_sub]; try simp only [zT, zV, zS, zU, vcC, lateX, ex, strp, cnd, binA, kseq, kblk, kret, klp, Abs.one, elems, cells, scalar, eqC, Nat.reduceBEq, Nat.reduceAdd, Nat.reduceSub, Nat.reduceLT, Nat.reduceLeDiff, Nat.reduceMul, Nat.reduceEqDiff, cond_true, cond_false, if_true, if_false, reduceIte, implies_true, forall_const, ne_eq, getD_map hs, hz])
 | (refine AWPC.both (fun _ => ?_) (fun _ => ?_))
 | (refine AWPC.imp (fun _ => ?_))
 | ((refine .inl ⟨_, _, _, .any, rfl, fun h => absurd h Bool.false_ne_true, ?_⟩); refine owp_of_exs ?_; simp only [zT, zV, zS, zU, vcC, lateX, ex, strp, cnd, binA, kseq, kblk, kret, klp, Abs.one, elems, cells, scalar, eqC, Nat.reduceBEq, Nat.reduceAdd, Nat.reduceSub, Nat.reduceLT, Nat.reduceLeDiff, Nat.reduceMul, Nat.reduceEqDiff, cond_true, cond_false, if_true, if_false, reduceIte, implies_true, forall_const, ne_eq, getD_map hs, hz])
 | (refine ⟨by omega, ?_⟩)
 | (refine And.intro (by (intros; first | (simp_all (config := { decide := false }); done) | fail)) ?_)
 | fail)
            all_goals try (exfalso; omega)
            rw [tr_0 hno]
            exact Frz.eq rfl (by simp)
          | succ i =>
            obtain ⟨u, hu⟩ : ∃ u, l[i]? = some u := ⟨_, List.getElem?_eq_getElem (by omega)⟩
            have hw : IntKind.i64.wrap (((i + 1 : Nat) : Int) - 1) = (i : Int) := by rw [wr64 _ (by omega) (by omega)]; omega
            (repeat' first
 | (refine AWPC.of_vcn rfl ?_; simp only [zT, zV, zS, zU, vcC, lateX, ex, strp, cnd, binA, kseq, kblk, kret, klp, Abs.one, elems, cells, scalar, eqC, Nat.reduceBEq, Nat.reduceAdd, Nat.reduceSub, Nat.reduceLT, Nat.reduceLeDiff, Nat.reduceMul, Nat.reduceEqDiff, cond_true, cond_false, if_true, if_false, reduceIte, implies_true, forall_const, ne_eq, getD_map hs, getD_map hu, hw])
 | (simp (disch := omega) only [wr64, Int.zero_sub]; try simp only [zT, zV, zS, zU, vcC, lateX, ex, strp, cnd, binA, kseq, kblk, kret, klp, Abs.one, elems, cells, scalar, eqC, Nat.reduceBEq, Nat.reduceAdd, Nat.reduceSub, Nat.reduceLT, Nat.reduceLeDiff, Nat.reduceMul, Nat.reduceEqDiff, cond_true, cond_false, if_true, if_false, reduceIte, implies_true, forall_const, ne_eq, getD_map hs, getD_map hu, hw])
 | (refine AWPC.both (fun _ => ?_) (fun _ => ?_))
 | (refine AWPC.imp (fun _ => ?_))
 | ((refine .inl ⟨_, _, _, .any, rfl, fun h => absurd h Bool.false_ne_true, ?_⟩); refine owp_of_exs ?_; simp only [zT, zV, zS, zU, vcC, lateX, ex, strp, cnd, binA, kseq, kblk, kret, klp, Abs.one, elems, cells, scalar, eqC, Nat.reduceBEq, Nat.reduceAdd, Nat.reduceSub, Nat.reduceLT, Nat.reduceLeDiff, Nat.reduceMul, Nat.reduceEqDiff, cond_true, cond_false, if_true, if_false, reduceIte, implies_true, forall_const, ne_eq, getD_map hs, getD_map hu, hw])
 | (refine ⟨by omega, ?_⟩)
 | (refine And.intro (by (intros; first | (simp_all (config := { decide := false }); done) | fail)) ?_)
 | fail)
            all_goals try (exfalso; omega)
            rw [tr_0 hno]
            exact Frz.eq rfl (by simp)
        · cases i with
          | zero =>
            have hn := okTo_1 hs
            have hz : (-1 : Int).toNat = 0 := rfl
            (repeat' first
 | (refine AWPC.of_vcn rfl ?_; simp only [zT, zV, zS, zU, vcC, lateX, ex, strp, cnd, binA, kseq, kblk, kret, klp, Abs.one, elems, cells, scalar, eqC, Nat.reduceBEq, Nat.reduceAdd, Nat.reduceSub, Nat.reduceLT, Nat.reduceLeDiff, Nat.reduceMul, Nat.reduceEqDiff, cond_true, cond_false, if_true, if_false, reduceIte, implies_true, forall_const, ne_eq, getD_map hs, hz])
 | (simp (disch := omega) only [wr64, Int.zero_sub]; try simp only [zT, zV, zS, zU, vcC, lateX, ex, strp, cnd, binA, kseq, kblk, kret, klp, Abs.one, elems, cells, scalar, eqC, Nat.reduceBEq, Nat.reduceAdd, Nat.reduceSub, Nat.reduceLT, Nat.reduceLeDiff, Nat.reduceMul, Nat.reduceEqDiff, cond_true, cond_false, if_true, if_false, reduceIte, implies_true, forall_const, ne_eq, getD_map hs, hz])
 | (refine AWPC.both (fun _ => ?_) (fun _ => ?_))
 | (refine AWPC.imp (fun _ => ?_))
 | ((refine .inl ⟨_, _, _, .any, rfl, fun h => absurd h Bool.false_ne_true, ?_⟩); refine owp_of_exs ?_; simp only [zT, zV, zS, zU, vcC, lateX, ex, strp, cnd, binA, kseq, kblk, kret, klp, Abs.one, elems, cells, scalar, eqC, Nat.reduceBEq, Nat.reduceAdd, Nat.reduceSub, Nat.reduceLT, Nat.reduceLeDiff, Nat.reduceMul, Nat.reduceEqDiff, cond_true, cond_false, if_true, if_false, reduceIte, implies_true, forall_const, ne_eq, getD_map hs, hz])
 | (refine ⟨by omega, ?_⟩)
 | (refine And.intro (by (intros; first | (simp_all (config := { decide := false }); done) | fail)) ?_)
 | fail)
            all_goals try (exfalso; omega)
            · rw [tr_0 (fun g => ?_)]
              · exact Frz.eq rfl (by simp)
              · have := hn.1 (good_okTo g 1); omega
            · exact ⟨⟨1, hlt, hn.2 (by omega)⟩, by simp, by simp only; omega⟩
          | succ i =>
            obtain ⟨u, hu⟩ : ∃ u, l[i]? = some u := ⟨_, List.getElem?_eq_getElem (by omega)⟩
            have hn := okTo_next hu hs hb
            have hw : IntKind.i64.wrap (((i + 1 : Nat) : Int) - 1) = (i : Int) := by rw [wr64 _ (by omega) (by omega)]; omega
            (repeat' first
 | (refine AWPC.of_vcn rfl ?_; simp only [zT, zV, zS, zU, vcC, lateX, ex, strp, cnd, binA, kseq, kblk, kret, klp, Abs.one, elems, cells, scalar, eqC, Nat.reduceBEq, Nat.reduceAdd, Nat.reduceSub, Nat.reduceLT, Nat.reduceLeDiff, Nat.reduceMul, Nat.reduceEqDiff, cond_true, cond_false, if_true, if_false, reduceIte, implies_true, forall_const, ne_eq, getD_map hs, getD_map hu, hw])
 | (simp (disch := omega) only [wr64, Int.zero_sub]; try simp only [zT, zV, zS, zU, vcC, lateX, ex, strp, cnd, binA, kseq, kblk, kret, klp, Abs.one, elems, cells, scalar, eqC, Nat.reduceBEq, Nat.reduceAdd, Nat.reduceSub, Nat.reduceLT, Nat.reduceLeDiff, Nat.reduceMul, Nat.reduceEqDiff, cond_true, cond_false, if_true, if_false, reduceIte, implies_true, forall_const, ne_eq, getD_map hs, getD_map hu, hw])
 | (refine AWPC.both (fun _ => ?_) (fun _ => ?_))
 | (refine AWPC.imp (fun _ => ?_))
 | ((refine .inl ⟨_, _, _, .any, rfl, fun h => absurd h Bool.false_ne_true, ?_⟩); refine owp_of_exs ?_; simp only [zT, zV, zS, zU, vcC, lateX, ex, strp, cnd, binA, kseq, kblk, kret, klp, Abs.one, elems, cells, scalar, eqC, Nat.reduceBEq, Nat.reduceAdd, Nat.reduceSub, Nat.reduceLT, Nat.reduceLeDiff, Nat.reduceMul, Nat.reduceEqDiff, cond_true, cond_false, if_true, if_false, reduceIte, implies_true, forall_const, ne_eq, getD_map hs, getD_map hu, hw])
 | (refine ⟨by omega, ?_⟩)
 | (refine And.intro (by (intros; first | (simp_all (config := { decide := false }); done) | fail)) ?_)
 | fail)
            all_goals try (exfalso; omega)
            · rw [tr_0 (fun g => ?_)]
              · exact Frz.eq rfl (by simp)
              · have := hn.1 (good_okTo g (i + 2)); omega
            · exact ⟨⟨i + 2, hlt, hn.2 (by omega)⟩, by simp; omega, by simp only; omega⟩
    · obtain rfl : i = l.length := by omega
      (repeat' first
 | (refine AWPC.of_vcn rfl ?_; simp only [zT, zV, zS, zU, vcC, lateX, ex, strp, cnd, binA, kseq, kblk, kret, klp, Abs.one, elems, cells, scalar, eqC, Nat.reduceBEq, Nat.reduceAdd, Nat.reduceSub, Nat.reduceLT, Nat.reduceLeDiff, Nat.reduceMul, Nat.reduceEqDiff, cond_true, cond_false, if_true, if_false, reduceIte, implies_true, forall_const, ne_eq])
 | (simp (disch := omega) only [wr64, Int.zero_sub]; try simp only [zT, zV, zS, zU, vcC, lateX, ex, strp, cnd, binA, kseq, kblk, kret, klp, Abs.one, elems, cells, scalar, eqC, Nat.reduceBEq, Nat.reduceAdd, Nat.reduceSub, Nat.reduceLT, Nat.reduceLeDiff, Nat.reduceMul, Nat.reduceEqDiff, cond_true, cond_false, if_true, if_false, reduceIte, implies_true, forall_const, ne_eq])
 | (refine AWPC.both (fun _ => ?_) (fun _ => ?_))
 | (refine AWPC.imp (fun _ => ?_))
 | ((refine .inl ⟨_, _, _, .any, rfl, fun h => absurd h Bool.false_ne_true, ?_⟩); refine owp_of_exs ?_; simp only [zT, zV, zS, zU, vcC, lateX, ex, strp, cnd, binA, kseq, kblk, kret, klp, Abs.one, elems, cells, scalar, eqC, Nat.reduceBEq, Nat.reduceAdd, Nat.reduceSub, Nat.reduceLT, Nat.reduceLeDiff, Nat.reduceMul, Nat.reduceEqDiff, cond_true, cond_false, if_true, if_false, reduceIte, implies_true, forall_const, ne_eq])
 | (refine ⟨by omega, ?_⟩)
 | (refine And.intro (by (intros; first | (simp_all (config := { decide := false }); done) | fail)) ?_)
 | fail)
      all_goals try (exfalso; omega)
      exact Frz.eq (congrArg bl (decide_eq_decide.2 ⟨fun h => okTo_good hb (by omega), fun h => by have := h.2.2; omega⟩)) (by simp)

theorem bad_spec (l : List Sp) (hl : l.length < 9223372036854775808) : Pure Try.prog 101 [spS l] (bl (!tr (good l))) := by
  refine Pure.of_body Try.call101 Try.func101 k101 (Nat.le_of_ble_eq_true rfl) ?_
  unfold c101
  (repeat' first
 | (refine AWPC.of_vcn rfl ?_; simp only [zT, zV, zS, zU, vcC, lateX, ex, strp, cnd, binA, kseq, kblk, kret, klp, Abs.one, elems, cells, scalar, eqC, Nat.reduceBEq, Nat.reduceAdd, Nat.reduceSub, Nat.reduceLT, Nat.reduceLeDiff, Nat.reduceMul, Nat.reduceEqDiff, cond_true, cond_false, if_true, if_false, reduceIte, implies_true, forall_const, ne_eq])
 | (simp (disch := omega) only [wr64, Int.zero_sub]; try simp only [zT, zV, zS, zU, vcC, lateX, ex, strp, cnd, binA, kseq, kblk, kret, klp, Abs.one, elems, cells, scalar, eqC, Nat.reduceBEq, Nat.reduceAdd, Nat.reduceSub, Nat.reduceLT, Nat.reduceLeDiff, Nat.reduceMul, Nat.reduceEqDiff, cond_true, cond_false, if_true, if_false, reduceIte, implies_true, forall_const, ne_eq])
 | (refine AWPC.both (fun _ => ?_) (fun _ => ?_))
 | (refine AWPC.imp (fun _ => ?_))
 | ((repeat (refine And.intro (by (intros; first | omega | (simp_all (config := { decide := false }); done) | fail)) ?_)); (first
 | (refine .inl ⟨_, _, _, _, rfl, fun _hc => ⟨by simp, right_spec l hl⟩, ?_⟩)
 | (refine ⟨_, _, _, _, rfl, fun _hc => ⟨by simp, right_spec l hl⟩, ?_⟩)
 | fail); (first | refine owp_of_exs ?_ | refine pre_of_exd ?_ | refine pre_of_exe ?_ | fail); simp only [zT, zV, zS, zU, vcC, lateX, ex, strp, cnd, binA, kseq, kblk, kret, klp, Abs.one, elems, cells, scalar, eqC, Nat.reduceBEq, Nat.reduceAdd, Nat.reduceSub, Nat.reduceLT, Nat.reduceLeDiff, Nat.reduceMul, Nat.reduceEqDiff, cond_true, cond_false, if_true, if_false, reduceIte, implies_true, forall_const, ne_eq])
 | ((refine .inl ⟨_, _, _, .any, rfl, fun h => absurd h Bool.false_ne_true, ?_⟩); refine owp_of_exs ?_; simp only [zT, zV, zS, zU, vcC, lateX, ex, strp, cnd, binA, kseq, kblk, kret, klp, Abs.one, elems, cells, scalar, eqC, Nat.reduceBEq, Nat.reduceAdd, Nat.reduceSub, Nat.reduceLT, Nat.reduceLeDiff, Nat.reduceMul, Nat.reduceEqDiff, cond_true, cond_false, if_true, if_false, reduceIte, implies_true, forall_const, ne_eq])
 | (refine ⟨by omega, ?_⟩)
 | (refine And.intro (by (intros; first | (simp_all (config := { decide := false }); done) | fail)) ?_)
 | fail)
  exact Frz.eq (by simp) (by simp)

/-- The place of the first element with a property. -/
def fidx {α : Type} (q : α → Bool) : Nat → List α → Int
  | _, [] => -1
  | k, a :: r => bif q a then (k : Int) else fidx q (k + 1) r

theorem fidx_any {α : Type} (q : α → Bool) : ∀ (l : List α) (k : Nat), (0 ≤ fidx q k l ↔ l.any q = true) ∧ -1 ≤ fidx q k l
  | [], k => by simp [fidx]
  | a :: r, k => by
    have ih := fidx_any q r (k + 1)
    unfold fidx
    cases h : q a
    · simpa [h] using ih
    · simp [h]

theorem index_spec (f : Nat) (q : List Sp → Bool) (x : List (List Sp)) (hx : x.length < 9223372036854775808) (hq : ∀ l ∈ x, Pure Try.prog f [spS l] (bl (q l))) : Pure Try.prog 126 [colS x, .fn (.func f) [] []] (n (fidx q 0 x)) := by
  refine Pure.of_body Try.call126 Try.func126 k126 (Nat.le_of_ble_eq_true rfl) ?_
  unfold c126
  (repeat' first
 | (refine AWPC.of_vcn rfl ?_; simp only [zT, zV, zS, zU, vcC, lateX, ex, strp, cnd, binA, kseq, kblk, kret, klp, Abs.one, elems, cells, scalar, eqC, Nat.reduceBEq, Nat.reduceAdd, Nat.reduceSub, Nat.reduceLT, Nat.reduceLeDiff, Nat.reduceMul, Nat.reduceEqDiff, cond_true, cond_false, if_true, if_false, reduceIte, implies_true, forall_const, ne_eq])
 | (simp (disch := omega) only [wr64, Int.zero_sub]; try simp only [zT, zV, zS, zU, vcC, lateX, ex, strp, cnd, binA, kseq, kblk, kret, klp, Abs.one, elems, cells, scalar, eqC, Nat.reduceBEq, Nat.reduceAdd, Nat.reduceSub, Nat.reduceLT, Nat.reduceLeDiff, Nat.reduceMul, Nat.reduceEqDiff, cond_true, cond_false, if_true, if_false, reduceIte, implies_true, forall_const, ne_eq])
 | (refine AWPC.both (fun _ => ?_) (fun _ => ?_))
 | (refine AWPC.imp (fun _ => ?_))
 | ((refine .inl ⟨_, _, _, .any, rfl, fun h => absurd h Bool.false_ne_true, ?_⟩); refine owp_of_exs ?_; simp only [zT, zV, zS, zU, vcC, lateX, ex, strp, cnd, binA, kseq, kblk, kret, klp, Abs.one, elems, cells, scalar, eqC, Nat.reduceBEq, Nat.reduceAdd, Nat.reduceSub, Nat.reduceLT, Nat.reduceLeDiff, Nat.reduceMul, Nat.reduceEqDiff, cond_true, cond_false, if_true, if_false, reduceIte, implies_true, forall_const, ne_eq])
 | (refine ⟨by omega, ?_⟩)
 | (refine And.intro (by (intros; first | (simp_all (config := { decide := false }); done) | fail)) ?_)
 | fail)
  refine AWPC.loopI 8 x.length (fun i => fidx q i (x.drop i) = fidx q 0 x) (by simp) ?_ ?_
  · (simp only [zT, zV, zS, zU, vcC, lateX, ex, strp, cnd, binA, kseq, kblk, kret, klp, Abs.one, elems, cells, scalar, eqC, Nat.reduceBEq, Nat.reduceAdd, Nat.reduceSub, Nat.reduceLT, Nat.reduceLeDiff, Nat.reduceMul, Nat.reduceEqDiff, cond_true, cond_false, if_true, if_false, reduceIte, implies_true, forall_const, ne_eq]; try simp)
  · intro i hi hI
    by_cases hlt : i < x.length
    · obtain ⟨l, hl⟩ : ∃ l, x[i]? = some l := ⟨_, List.getElem?_eq_getElem hlt⟩
      have hc := hq l (List.mem_of_getElem? hl)
      rw [drop_cons hl, fidx] at hI
      (repeat' first
 | (refine AWPC.of_vcn rfl ?_; simp only [zT, zV, zS, zU, vcC, lateX, ex, strp, cnd, binA, kseq, kblk, kret, klp, Abs.one, elems, cells, scalar, eqC, Nat.reduceBEq, Nat.reduceAdd, Nat.reduceSub, Nat.reduceLT, Nat.reduceLeDiff, Nat.reduceMul, Nat.reduceEqDiff, cond_true, cond_false, if_true, if_false, reduceIte, implies_true, forall_const, ne_eq, getD_map hl])
 | (simp (disch := omega) only [wr64, Int.zero_sub]; try simp only [zT, zV, zS, zU, vcC, lateX, ex, strp, cnd, binA, kseq, kblk, kret, klp, Abs.one, elems, cells, scalar, eqC, Nat.reduceBEq, Nat.reduceAdd, Nat.reduceSub, Nat.reduceLT, Nat.reduceLeDiff, Nat.reduceMul, Nat.reduceEqDiff, cond_true, cond_false, if_true, if_false, reduceIte, implies_true, forall_const, ne_eq, getD_map hl])
 | (refine AWPC.both (fun _ => ?_) (fun _ => ?_))
 | (refine AWPC.imp (fun _ => ?_))
 | ((repeat (refine And.intro (by (intros; first | omega | (simp_all (config := { decide := false }); done) | fail)) ?_)); (first
 | (refine .inl ⟨_, _, _, _, rfl, fun _hc => ⟨by simp, hc⟩, ?_⟩)
 | (refine ⟨_, _, _, _, rfl, fun _hc => ⟨by simp, hc⟩, ?_⟩)
 | fail); (first | refine owp_of_exs ?_ | refine pre_of_exd ?_ | refine pre_of_exe ?_ | fail); simp only [zT, zV, zS, zU, vcC, lateX, ex, strp, cnd, binA, kseq, kblk, kret, klp, Abs.one, elems, cells, scalar, eqC, Nat.reduceBEq, Nat.reduceAdd, Nat.reduceSub, Nat.reduceLT, Nat.reduceLeDiff, Nat.reduceMul, Nat.reduceEqDiff, cond_true, cond_false, if_true, if_false, reduceIte, implies_true, forall_const, ne_eq, getD_map hl])
 | ((refine .inl ⟨_, _, _, .any, rfl, fun h => absurd h Bool.false_ne_true, ?_⟩); refine owp_of_exs ?_; simp only [zT, zV, zS, zU, vcC, lateX, ex, strp, cnd, binA, kseq, kblk, kret, klp, Abs.one, elems, cells, scalar, eqC, Nat.reduceBEq, Nat.reduceAdd, Nat.reduceSub, Nat.reduceLT, Nat.reduceLeDiff, Nat.reduceMul, Nat.reduceEqDiff, cond_true, cond_false, if_true, if_false, reduceIte, implies_true, forall_const, ne_eq, getD_map hl])
 | (refine ⟨by omega, ?_⟩)
 | (refine And.intro (by (intros; first | (simp_all (config := { decide := false }); done) | fail)) ?_)
 | fail)
      all_goals try (exfalso; omega)
      · rename_i h
        rw [h] at hI
        rw [← hI]
        exact Frz.eq rfl (by simp)
      · rename_i h
        rw [h] at hI
        exact ⟨⟨i + 1, hlt, hI⟩, by simp, by simp only; omega⟩
    · obtain rfl : i = x.length := by omega
      rw [List.drop_length, fidx] at hI
      (repeat' first
 | (refine AWPC.of_vcn rfl ?_; simp only [zT, zV, zS, zU, vcC, lateX, ex, strp, cnd, binA, kseq, kblk, kret, klp, Abs.one, elems, cells, scalar, eqC, Nat.reduceBEq, Nat.reduceAdd, Nat.reduceSub, Nat.reduceLT, Nat.reduceLeDiff, Nat.reduceMul, Nat.reduceEqDiff, cond_true, cond_false, if_true, if_false, reduceIte, implies_true, forall_const, ne_eq])
 | (simp (disch := omega) only [wr64, Int.zero_sub]; try simp only [zT, zV, zS, zU, vcC, lateX, ex, strp, cnd, binA, kseq, kblk, kret, klp, Abs.one, elems, cells, scalar, eqC, Nat.reduceBEq, Nat.reduceAdd, Nat.reduceSub, Nat.reduceLT, Nat.reduceLeDiff, Nat.reduceMul, Nat.reduceEqDiff, cond_true, cond_false, if_true, if_false, reduceIte, implies_true, forall_const, ne_eq])
 | (refine AWPC.both (fun _ => ?_) (fun _ => ?_))
 | (refine AWPC.imp (fun _ => ?_))
 | ((refine .inl ⟨_, _, _, .any, rfl, fun h => absurd h Bool.false_ne_true, ?_⟩); refine owp_of_exs ?_; simp only [zT, zV, zS, zU, vcC, lateX, ex, strp, cnd, binA, kseq, kblk, kret, klp, Abs.one, elems, cells, scalar, eqC, Nat.reduceBEq, Nat.reduceAdd, Nat.reduceSub, Nat.reduceLT, Nat.reduceLeDiff, Nat.reduceMul, Nat.reduceEqDiff, cond_true, cond_false, if_true, if_false, reduceIte, implies_true, forall_const, ne_eq])
 | (refine ⟨by omega, ?_⟩)
 | (refine And.intro (by (intros; first | (simp_all (config := { decide := false }); done) | fail)) ?_)
 | fail)
      all_goals try (exfalso; omega)
      rw [← hI]
      exact Frz.eq rfl (by simp)

theorem contains_spec (f : Nat) (q : List Sp → Bool) (x : List (List Sp)) (hx : x.length < 9223372036854775808) (hq : ∀ l ∈ x, Pure Try.prog f [spS l] (bl (q l))) : Pure Try.prog 100 [colS x, .fn (.func f) [] []] (bl (x.any q)) := by
  refine Pure.of_body Try.call100 Try.func100 k100 (Nat.le_of_ble_eq_true rfl) ?_
  unfold c100
  have h := (fidx_any q x 0).1
  (repeat' first
 | (refine AWPC.of_vcn rfl ?_; simp only [zT, zV, zS, zU, vcC, lateX, ex, strp, cnd, binA, kseq, kblk, kret, klp, Abs.one, elems, cells, scalar, eqC, Nat.reduceBEq, Nat.reduceAdd, Nat.reduceSub, Nat.reduceLT, Nat.reduceLeDiff, Nat.reduceMul, Nat.reduceEqDiff, cond_true, cond_false, if_true, if_false, reduceIte, implies_true, forall_const, ne_eq])
 | (simp (disch := omega) only [wr64, Int.zero_sub]; try simp only [zT, zV, zS, zU, vcC, lateX, ex, strp, cnd, binA, kseq, kblk, kret, klp, Abs.one, elems, cells, scalar, eqC, Nat.reduceBEq, Nat.reduceAdd, Nat.reduceSub, Nat.reduceLT, Nat.reduceLeDiff, Nat.reduceMul, Nat.reduceEqDiff, cond_true, cond_false, if_true, if_false, reduceIte, implies_true, forall_const, ne_eq])
 | (refine AWPC.both (fun _ => ?_) (fun _ => ?_))
 | (refine AWPC.imp (fun _ => ?_))
 | ((repeat (refine And.intro (by (intros; first | omega | (simp_all (config := { decide := false }); done) | fail)) ?_)); (first
 | (refine .inl ⟨_, _, _, _, rfl, fun _hc => ⟨by simp, index_spec f q x hx hq⟩, ?_⟩)
 | (refine ⟨_, _, _, _, rfl, fun _hc => ⟨by simp, index_spec f q x hx hq⟩, ?_⟩)
 | fail); (first | refine owp_of_exs ?_ | refine pre_of_exd ?_ | refine pre_of_exe ?_ | fail); simp only [zT, zV, zS, zU, vcC, lateX, ex, strp, cnd, binA, kseq, kblk, kret, klp, Abs.one, elems, cells, scalar, eqC, Nat.reduceBEq, Nat.reduceAdd, Nat.reduceSub, Nat.reduceLT, Nat.reduceLeDiff, Nat.reduceMul, Nat.reduceEqDiff, cond_true, cond_false, if_true, if_false, reduceIte, implies_true, forall_const, ne_eq])
 | ((refine .inl ⟨_, _, _, .any, rfl, fun h => absurd h Bool.false_ne_true, ?_⟩); refine owp_of_exs ?_; simp only [zT, zV, zS, zU, vcC, lateX, ex, strp, cnd, binA, kseq, kblk, kret, klp, Abs.one, elems, cells, scalar, eqC, Nat.reduceBEq, Nat.reduceAdd, Nat.reduceSub, Nat.reduceLT, Nat.reduceLeDiff, Nat.reduceMul, Nat.reduceEqDiff, cond_true, cond_false, if_true, if_false, reduceIte, implies_true, forall_const, ne_eq])
 | (refine ⟨by omega, ?_⟩)
 | (refine And.intro (by (intros; first | (simp_all (config := { decide := false }); done) | fail)) ?_)
 | fail)
  refine Frz.eq (congrArg bl ?_) (by simp)
  rw [Bool.eq_iff_iff, decide_eq_true_eq, h]

/-- An inked sheet that is right. -/
def rightInk (x : List (List Sp)) : Prop := (1 ≤ x.length ∧ x.length ≤ 200) ∧ ∀ l ∈ x, good l
noncomputable def ierr (x : List (List Sp)) : Int := bif tr (rightInk x) then 0 else 12
theorem ierr0 {x : List (List Sp)} : ierr x = 0 ↔ rightInk x := by
  unfold ierr
  by_cases h : rightInk x
  · rw [tr_1 h]; simp [h]
  · rw [tr_0 h]; simp [h]
theorem ierr1 {x : List (List Sp)} (h : ¬ rightInk x) : ierr x = 12 := by unfold ierr; rw [tr_0 h]; rfl

abbrev Lens (x : List (List Sp)) : Prop := x.length < 9223372036854775808 ∧ ∀ l ∈ x, l.length < 9223372036854775808

theorem checkInked_spec (x : List (List Sp)) (hx : Lens x) : Pure Try.prog 54 [ink x] (n (ierr x)) := by
  refine Pure.of_body Try.call54 Try.func54 k54 (Nat.le_of_ble_eq_true rfl) ?_
  have hc := contains_spec 101 (fun l => !tr (good l)) x hx.1 (fun l hl => bad_spec l (hx.2 l hl))
  have hany : (x.any fun l => !tr (good l)) = false ↔ ∀ l ∈ x, good l := by simp [List.any_eq_false]
  simp only [decNot] at hany
  unfold c54
  (repeat' first
 | (refine AWPC.of_vcn rfl ?_; simp only [zT, zV, zS, zU, vcC, lateX, ex, strp, cnd, binA, kseq, kblk, kret, klp, Abs.one, elems, cells, scalar, eqC, Nat.reduceBEq, Nat.reduceAdd, Nat.reduceSub, Nat.reduceLT, Nat.reduceLeDiff, Nat.reduceMul, Nat.reduceEqDiff, cond_true, cond_false, if_true, if_false, reduceIte, implies_true, forall_const, ne_eq])
 | (simp (disch := omega) only [wr64, Int.zero_sub]; try simp only [zT, zV, zS, zU, vcC, lateX, ex, strp, cnd, binA, kseq, kblk, kret, klp, Abs.one, elems, cells, scalar, eqC, Nat.reduceBEq, Nat.reduceAdd, Nat.reduceSub, Nat.reduceLT, Nat.reduceLeDiff, Nat.reduceMul, Nat.reduceEqDiff, cond_true, cond_false, if_true, if_false, reduceIte, implies_true, forall_const, ne_eq])
 | (refine AWPC.both (fun _ => ?_) (fun _ => ?_))
 | (refine AWPC.imp (fun _ => ?_))
 | ((repeat (refine And.intro (by (intros; first | omega | (simp_all (config := { decide := false }); done) | fail)) ?_)); (first
 | (refine .inl ⟨_, _, _, _, rfl, fun _hc => ⟨by simp, within_spec _ _ _⟩, ?_⟩)
 | (refine .inl ⟨_, _, _, _, rfl, fun _hc => ⟨by simp, hc⟩, ?_⟩)
 | (refine ⟨_, _, _, _, rfl, fun _hc => ⟨by simp, within_spec _ _ _⟩, ?_⟩)
 | (refine ⟨_, _, _, _, rfl, fun _hc => ⟨by simp, hc⟩, ?_⟩)
 | fail); (first | refine owp_of_exs ?_ | refine pre_of_exd ?_ | refine pre_of_exe ?_ | fail); simp only [zT, zV, zS, zU, vcC, lateX, ex, strp, cnd, binA, kseq, kblk, kret, klp, Abs.one, elems, cells, scalar, eqC, Nat.reduceBEq, Nat.reduceAdd, Nat.reduceSub, Nat.reduceLT, Nat.reduceLeDiff, Nat.reduceMul, Nat.reduceEqDiff, cond_true, cond_false, if_true, if_false, reduceIte, implies_true, forall_const, ne_eq])
 | ((refine .inl ⟨_, _, _, .any, rfl, fun h => absurd h Bool.false_ne_true, ?_⟩); refine owp_of_exs ?_; simp only [zT, zV, zS, zU, vcC, lateX, ex, strp, cnd, binA, kseq, kblk, kret, klp, Abs.one, elems, cells, scalar, eqC, Nat.reduceBEq, Nat.reduceAdd, Nat.reduceSub, Nat.reduceLT, Nat.reduceLeDiff, Nat.reduceMul, Nat.reduceEqDiff, cond_true, cond_false, if_true, if_false, reduceIte, implies_true, forall_const, ne_eq])
 | (refine ⟨by omega, ?_⟩)
 | (refine And.intro (by (intros; first | (simp_all (config := { decide := false }); done) | fail)) ?_)
 | fail)
  · rename_i h
    refine Frz.eq ?_ (by simp)
    rw [ierr1]
    intro g
    rw [hany.2 g.2, Bool.or_false, decide_eq_true_eq] at h
    exact h (by have := g.1; omega)
  · rename_i h
    refine Frz.eq ?_ (by simp)
    rw [Bool.or_eq_false_iff, decide_eq_false_iff_not] at h
    rw [ierr0.2 ⟨by omega, hany.1 h.2⟩]

theorem rcheckInked_spec (x : List (List Sp)) (hx : Lens x) : Pure Try.prog 55 [ink x] (n (ierr x)) := by
  refine Pure.of_body Try.call55 Try.func55 k55 (Nat.le_of_ble_eq_true rfl) ?_
  have hx1 := hx.1
  unfold c55
  (repeat' first
 | (refine AWPC.of_vcn rfl ?_; simp only [zT, zV, zS, zU, vcC, lateX, ex, strp, cnd, binA, kseq, kblk, kret, klp, Abs.one, elems, cells, scalar, eqC, Nat.reduceBEq, Nat.reduceAdd, Nat.reduceSub, Nat.reduceLT, Nat.reduceLeDiff, Nat.reduceMul, Nat.reduceEqDiff, cond_true, cond_false, if_true, if_false, reduceIte, implies_true, forall_const, ne_eq])
 | (simp (disch := omega) only [wr64, Int.zero_sub]; try simp only [zT, zV, zS, zU, vcC, lateX, ex, strp, cnd, binA, kseq, kblk, kret, klp, Abs.one, elems, cells, scalar, eqC, Nat.reduceBEq, Nat.reduceAdd, Nat.reduceSub, Nat.reduceLT, Nat.reduceLeDiff, Nat.reduceMul, Nat.reduceEqDiff, cond_true, cond_false, if_true, if_false, reduceIte, implies_true, forall_const, ne_eq])
 | (refine AWPC.both (fun _ => ?_) (fun _ => ?_))
 | (refine AWPC.imp (fun _ => ?_))
 | ((repeat (refine And.intro (by (intros; first | omega | (simp_all (config := { decide := false }); done) | fail)) ?_)); (first
 | (refine .inl ⟨_, _, _, _, rfl, fun _hc => ⟨by simp, rwithin_spec _ _ _⟩, ?_⟩)
 | (refine ⟨_, _, _, _, rfl, fun _hc => ⟨by simp, rwithin_spec _ _ _⟩, ?_⟩)
 | fail); (first | refine owp_of_exs ?_ | refine pre_of_exd ?_ | refine pre_of_exe ?_ | fail); simp only [zT, zV, zS, zU, vcC, lateX, ex, strp, cnd, binA, kseq, kblk, kret, klp, Abs.one, elems, cells, scalar, eqC, Nat.reduceBEq, Nat.reduceAdd, Nat.reduceSub, Nat.reduceLT, Nat.reduceLeDiff, Nat.reduceMul, Nat.reduceEqDiff, cond_true, cond_false, if_true, if_false, reduceIte, implies_true, forall_const, ne_eq])
 | ((refine .inl ⟨_, _, _, .any, rfl, fun h => absurd h Bool.false_ne_true, ?_⟩); refine owp_of_exs ?_; simp only [zT, zV, zS, zU, vcC, lateX, ex, strp, cnd, binA, kseq, kblk, kret, klp, Abs.one, elems, cells, scalar, eqC, Nat.reduceBEq, Nat.reduceAdd, Nat.reduceSub, Nat.reduceLT, Nat.reduceLeDiff, Nat.reduceMul, Nat.reduceEqDiff, cond_true, cond_false, if_true, if_false, reduceIte, implies_true, forall_const, ne_eq])
 | (refine ⟨by omega, ?_⟩)
 | (refine And.intro (by (intros; first | (simp_all (config := { decide := false }); done) | fail)) ?_)
 | fail)
  · rename_i h
    refine Frz.eq ?_ (by simp)
    rw [ierr1]
    intro g
    exact h (by have := g.1; omega)
  · rename_i h
    refine AWPC.loopI 3 x.length (fun i => ∀ l ∈ x.take i, good l) (by simp) ?_ ?_
    · (simp only [zT, zV, zS, zU, vcC, lateX, ex, strp, cnd, binA, kseq, kblk, kret, klp, Abs.one, elems, cells, scalar, eqC, Nat.reduceBEq, Nat.reduceAdd, Nat.reduceSub, Nat.reduceLT, Nat.reduceLeDiff, Nat.reduceMul, Nat.reduceEqDiff, cond_true, cond_false, if_true, if_false, reduceIte, implies_true, forall_const, ne_eq]; try simp)
    · intro i hi hI
      by_cases hlt : i < x.length
      · obtain ⟨l, hl⟩ : ∃ l, x[i]? = some l := ⟨_, List.getElem?_eq_getElem hlt⟩
        have hm := List.mem_of_getElem? hl
        (repeat' first
 | (refine AWPC.of_vcn rfl ?_; simp only [zT, zV, zS, zU, vcC, lateX, ex, strp, cnd, binA, kseq, kblk, kret, klp, Abs.one, elems, cells, scalar, eqC, Nat.reduceBEq, Nat.reduceAdd, Nat.reduceSub, Nat.reduceLT, Nat.reduceLeDiff, Nat.reduceMul, Nat.reduceEqDiff, cond_true, cond_false, if_true, if_false, reduceIte, implies_true, forall_const, ne_eq, getD_map hl])
 | (simp (disch := omega) only [wr64, Int.zero_sub]; try simp only [zT, zV, zS, zU, vcC, lateX, ex, strp, cnd, binA, kseq, kblk, kret, klp, Abs.one, elems, cells, scalar, eqC, Nat.reduceBEq, Nat.reduceAdd, Nat.reduceSub, Nat.reduceLT, Nat.reduceLeDiff, Nat.reduceMul, Nat.reduceEqDiff, cond_true, cond_false, if_true, if_false, reduceIte, implies_true, forall_const, ne_eq, getD_map hl])
 | (refine AWPC.both (fun _ => ?_) (fun _ => ?_))
 | (refine AWPC.imp (fun _ => ?_))
 | ((repeat (refine And.intro (by (intros; first | omega | (simp_all (config := { decide := false }); done) | fail)) ?_)); (first
 | (refine .inl ⟨_, _, _, _, rfl, fun _hc => ⟨by simp, goodSet_spec l (hx.2 l hm)⟩, ?_⟩)
 | (refine ⟨_, _, _, _, rfl, fun _hc => ⟨by simp, goodSet_spec l (hx.2 l hm)⟩, ?_⟩)
 | fail); (first | refine owp_of_exs ?_ | refine pre_of_exd ?_ | refine pre_of_exe ?_ | fail); simp only [zT, zV, zS, zU, vcC, lateX, ex, strp, cnd, binA, kseq, kblk, kret, klp, Abs.one, elems, cells, scalar, eqC, Nat.reduceBEq, Nat.reduceAdd, Nat.reduceSub, Nat.reduceLT, Nat.reduceLeDiff, Nat.reduceMul, Nat.reduceEqDiff, cond_true, cond_false, if_true, if_false, reduceIte, implies_true, forall_const, ne_eq, getD_map hl])
 | ((refine .inl ⟨_, _, _, .any, rfl, fun h => absurd h Bool.false_ne_true, ?_⟩); refine owp_of_exs ?_; simp only [zT, zV, zS, zU, vcC, lateX, ex, strp, cnd, binA, kseq, kblk, kret, klp, Abs.one, elems, cells, scalar, eqC, Nat.reduceBEq, Nat.reduceAdd, Nat.reduceSub, Nat.reduceLT, Nat.reduceLeDiff, Nat.reduceMul, Nat.reduceEqDiff, cond_true, cond_false, if_true, if_false, reduceIte, implies_true, forall_const, ne_eq, getD_map hl])
 | (refine ⟨by omega, ?_⟩)
 | (refine And.intro (by (intros; first | (simp_all (config := { decide := false }); done) | fail)) ?_)
 | fail)
        all_goals try (exfalso; omega)
        · rename_i g
          refine Frz.eq ?_ (by simp)
          rw [ierr1 (fun r => g (r.2 l hm))]
        · rename_i g
          refine ⟨⟨i + 1, hlt, fun u hu => ?_⟩, by simp, by simp only; omega⟩
          rw [List.take_add_one, hl] at hu
          rcases List.mem_append.1 hu with hu | hu
          · exact hI u hu
          · obtain rfl : u = l := by simpa using hu
            exact g
      · obtain rfl : i = x.length := by omega
        rw [List.take_length] at hI
        (repeat' first
 | (refine AWPC.of_vcn rfl ?_; simp only [zT, zV, zS, zU, vcC, lateX, ex, strp, cnd, binA, kseq, kblk, kret, klp, Abs.one, elems, cells, scalar, eqC, Nat.reduceBEq, Nat.reduceAdd, Nat.reduceSub, Nat.reduceLT, Nat.reduceLeDiff, Nat.reduceMul, Nat.reduceEqDiff, cond_true, cond_false, if_true, if_false, reduceIte, implies_true, forall_const, ne_eq])
 | (simp (disch := omega) only [wr64, Int.zero_sub]; try simp only [zT, zV, zS, zU, vcC, lateX, ex, strp, cnd, binA, kseq, kblk, kret, klp, Abs.one, elems, cells, scalar, eqC, Nat.reduceBEq, Nat.reduceAdd, Nat.reduceSub, Nat.reduceLT, Nat.reduceLeDiff, Nat.reduceMul, Nat.reduceEqDiff, cond_true, cond_false, if_true, if_false, reduceIte, implies_true, forall_const, ne_eq])
 | (refine AWPC.both (fun _ => ?_) (fun _ => ?_))
 | (refine AWPC.imp (fun _ => ?_))
 | ((refine .inl ⟨_, _, _, .any, rfl, fun h => absurd h Bool.false_ne_true, ?_⟩); refine owp_of_exs ?_; simp only [zT, zV, zS, zU, vcC, lateX, ex, strp, cnd, binA, kseq, kblk, kret, klp, Abs.one, elems, cells, scalar, eqC, Nat.reduceBEq, Nat.reduceAdd, Nat.reduceSub, Nat.reduceLT, Nat.reduceLeDiff, Nat.reduceMul, Nat.reduceEqDiff, cond_true, cond_false, if_true, if_false, reduceIte, implies_true, forall_const, ne_eq])
 | (refine ⟨by omega, ?_⟩)
 | (refine And.intro (by (intros; first | (simp_all (config := { decide := false }); done) | fail)) ?_)
 | fail)
        all_goals try (exfalso; omega)
        refine Frz.eq ?_ (by simp)
        rw [ierr0.2 ⟨by omega, hI⟩]
end Go.Proofs.Ytgpdckmbojmlpaa

namespace Go.Proofs.Ytgpdckmbojmlpaa
open Go.Abs
set_option linter.unusedVariables false
set_option linter.unusedSimpArgs false
set_option maxHeartbeats 4000000
set_option maxRecDepth 100000
-- aneroid/paper.find
-- aneroid/paper.Gaps$1
-- aneroid/paper.Crossings$1
-- aneroid/aneroidref01.sized
-- aneroid/paper.Gaps
-- aneroid/aneroidref01.Gaps
-- aneroid/paper.Crossings
-- aneroid/aneroidref01.Crossings
-- aneroid/aneroidref01.SameInts
-- aneroid/aneroidlaw01.PaperChecks
@[simp] theorem pureV_spS (l : List Sp) : PureV (spS l) := by simp
@[simp] theorem pureV_colS (x : List (List Sp)) : PureV (colS x) := by
  refine PureV.sl fun e he c hc => ?_
  obtain ⟨l, _, rfl⟩ := List.mem_map.1 he
  obtain rfl : c = spS l := by simpa using hc
  exact pureV_spS l
@[simp] theorem pureV_ink (x : List (List Sp)) : PureV (ink x) := PureV.agg fun c hc => by
  obtain rfl : c = colS x := by simpa using hc
  exact pureV_colS x

end Go.Proofs.Ytgpdckmbojmlpaa

namespace Go.Proofs.Ytgpdckmbojmlpaa
open Go.Shelf
def Try.sortS_ren : Go.Shelf.Ren := ⟨fun | 6 => 127 | 15 => 134 | 14 => 133 | 28 => 143 | 29 => 144 | 20 => 135 | 21 => 136 | 22 => 137 | 23 => 138 | 24 => 139 | 25 => 140 | 26 => 141 | 27 => 142 | 46 => 145 | 47 => 146 | 48 => 147 | 49 => 148 | 50 => 149 | 57 => 150 | n => n, fun | 22 => 34 | 24 => 23 | 25 => 136 | 3 => 3 | 39 => 143 | 0 => 0 | 53 => 153 | 55 => 155 | 4 => 4 | 46 => 146 | 45 => 145 | 50 => 150 | 5 => 5 | 9 => 9 | 66 => 156 | 70 => 160 | 76 => 162 | 77 => 163 | n => n, fun | n => n⟩
theorem Try.sortS : Go.Proofs.SlLaysF0.n6 Try.prog Try.sortS_ren := {
  mixed := by kernel_rfl
  f6 := ⟨Try.f127.name, by decide, Try.func127.trans (congrArg some (by kernel_rfl))⟩
  f14 := ⟨Try.f133.name, by decide, Try.func133.trans (congrArg some (by kernel_rfl))⟩
  f15 := Try.func134.trans (congrArg some (by kernel_rfl))
  f20 := ⟨Try.f135.name, by decide, Try.func135.trans (congrArg some (by kernel_rfl))⟩
  f21 := ⟨Try.f136.name, by decide, Try.func136.trans (congrArg some (by kernel_rfl))⟩
  f22 := ⟨Try.f137.name, by decide, Try.func137.trans (congrArg some (by kernel_rfl))⟩
  f23 := ⟨Try.f138.name, by decide, Try.func138.trans (congrArg some (by kernel_rfl))⟩
  f24 := ⟨Try.f139.name, by decide, Try.func139.trans (congrArg some (by kernel_rfl))⟩
  f25 := ⟨Try.f140.name, by decide, Try.func140.trans (congrArg some (by kernel_rfl))⟩
  f26 := ⟨Try.f141.name, by decide, Try.func141.trans (congrArg some (by kernel_rfl))⟩
  f27 := ⟨Try.f142.name, by decide, Try.func142.trans (congrArg some (by kernel_rfl))⟩
  f28 := Try.func143.trans (congrArg some (by kernel_rfl))
  f29 := Try.func144.trans (congrArg some (by kernel_rfl))
  f46 := ⟨Try.f145.name, by decide, Try.func145.trans (congrArg some (by kernel_rfl))⟩
  f47 := Try.func146.trans (congrArg some (by kernel_rfl))
  f48 := Try.func147.trans (congrArg some (by kernel_rfl))
  f49 := ⟨Try.f148.name, by decide, Try.func148.trans (congrArg some (by kernel_rfl))⟩
  f50 := ⟨Try.f149.name, by decide, Try.func149.trans (congrArg some (by kernel_rfl))⟩
  f57 := ⟨Try.f150.name, by decide, Try.func150.trans (congrArg some (by kernel_rfl))⟩
  t0 := Try.underlying0
  a0 := Try.isAgg0
  z0 := Try.sizeOf0
  v0 := Try.zeroValue0
  t3 := Try.underlying3
  a3 := Try.isAgg3
  z3 := Try.sizeOf3
  v3 := Try.zeroValue3
  t4 := Try.underlying4
  a4 := Try.isAgg4
  z4 := Try.sizeOf4
  v4 := Try.zeroValue4
  t5 := Try.underlying5
  a5 := Try.isAgg5
  z5 := Try.sizeOf5
  v5 := Try.zeroValue5
  t9 := Try.underlying9
  a9 := Try.isAgg9
  z9 := Try.sizeOf9
  v9 := Try.zeroValue9
  t22 := Try.underlying34
  a22 := Try.isAgg34
  z22 := Try.sizeOf34
  v22 := Try.zeroValue34
  t25 := Try.underlying136
  a25 := Try.isAgg136
  z25 := Try.sizeOf136
  v25 := Try.zeroValue136
  t39 := Try.underlying143
  a39 := Try.isAgg143
  z39 := Try.sizeOf143
  v39 := Try.zeroValue143
  t45 := Try.underlying145
  a45 := Try.isAgg145
  z45 := Try.sizeOf145
  v45 := Try.zeroValue145
  t46 := Try.underlying146
  a46 := Try.isAgg146
  z46 := Try.sizeOf146
  v46 := Try.zeroValue146
  t50 := Try.underlying150
  a50 := Try.isAgg150
  z50 := Try.sizeOf150
  v50 := Try.zeroValue150
  t53 := Try.underlying153
  a53 := Try.isAgg153
  z53 := Try.sizeOf153
  v53 := Try.zeroValue153
  t55 := Try.underlying155
  a55 := Try.isAgg155
  z55 := Try.sizeOf155
  v55 := Try.zeroValue155
  t66 := Try.underlying156
  a66 := Try.isAgg156
  z66 := Try.sizeOf156
  v66 := Try.zeroValue156
  t70 := Try.underlying160
  a70 := Try.isAgg160
  z70 := Try.sizeOf160
  v70 := Try.zeroValue160
  t76 := Try.underlying162
  a76 := Try.isAgg162
  z76 := Try.sizeOf162
  v76 := Try.zeroValue162
  t77 := Try.underlying163
  a77 := Try.isAgg163
  z77 := Try.sizeOf163
  v77 := Try.zeroValue163 }
def Try.growS_ren : Go.Shelf.Ren := ⟨fun | 4 => 131 | n => n, fun | 22 => 34 | 25 => 23 | 3 => 3 | 4 => 4 | 9 => 9 | 20 => 20 | 0 => 0 | 2 => 3 | n => n, fun | n => n⟩
theorem Try.growS : Go.Proofs.Lays8.n4 Try.prog Try.growS_ren := {
  mixed := by kernel_rfl
  f4 := ⟨Try.f131.name, by decide, Try.func131.trans (congrArg some (by kernel_rfl))⟩
  t0 := Try.underlying0
  a0 := Try.isAgg0
  z0 := Try.sizeOf0
  v0 := Try.zeroValue0
  t3 := Try.underlying3
  a3 := Try.isAgg3
  z3 := Try.sizeOf3
  v3 := Try.zeroValue3
  t4 := Try.underlying4
  a4 := Try.isAgg4
  z4 := Try.sizeOf4
  v4 := Try.zeroValue4
  t9 := Try.underlying9
  a9 := Try.isAgg9
  z9 := Try.sizeOf9
  v9 := Try.zeroValue9
  t20 := Try.underlying20
  a20 := Try.isAgg20
  z20 := Try.sizeOf20
  v20 := Try.zeroValue20
  t22 := Try.underlying34
  a22 := Try.isAgg34
  z22 := Try.sizeOf34
  v22 := Try.zeroValue34 }
end Go.Proofs.Ytgpdckmbojmlpaa

namespace Go.Abs
open Go
set_option linter.unusedVariables false
set_option linter.unusedSimpArgs false

/-- Cells that read as a type are those of a value of α, with its bounds. -/
structure Opens (P : Program) (t : TypeId) (α : Type) (row : α → List AV) (Pr : α → Prop) : Prop where
  go : ∀ {H : Type} (enc : TypeId × Value → H) (w : World) (base : Nat) (sp : Nat → Bool) (held : Bool) (fuel : Nat) (cs : List Value) (x : DataW H × List MemPlace),
    DataW.trod enc P w base sp held fuel t cs = some x →
    ∃ a : α, Pr a ∧ cs.length = (row a).length ∧ ∀ i, i < cs.length → (cs.getD i undef).oneCell' = true ∧ RV w (fun _ => False) nob [] ((row a).getD i .any) (cs.getD i undef)

variable {P : Program}

theorem Opens.to {t : TypeId} {α β : Type} {row : α → List AV} {row' : β → List AV} {Pr : α → Prop} {Pr' : β → Prop} (h : Opens P t α row Pr) (f : α → β) (hr : ∀ a, row' (f a) = row a) (hp : ∀ a, Pr a → Pr' (f a)) : Opens P t β row' Pr' :=
  ⟨fun enc w base sp held fuel cs x hx =>
    let ⟨a, h1, h2, h3⟩ := h.go enc w base sp held fuel cs x hx
    ⟨f a, hp a h1, by rw [hr]; exact h2, fun i hi => by rw [hr]; exact h3 i hi⟩⟩

theorem opens_int {t : TypeId} {k : IntKind} (ht : P.underlying t = some (.int k)) : Opens P t Int (fun z => [.v (.int k z)]) (fun z => (Lit.int k z).wf = true) := by
  constructor
  intro H enc w base sp held fuel cs x hx
  cases fuel with
  | zero => simp [DataW.trod] at hx
  | succ m =>
    unfold DataW.trod at hx
    rw [ht] at hx
    split at hx <;> try (simp_all; done)
    rename_i k0 k' z heq
    simp only [Option.some.injEq, TypeDesc.int.injEq] at heq
    split at hx
    · rename_i hk
      obtain ⟨rfl, hw⟩ := hk
      subst heq
      refine ⟨z, hw, rfl, fun i hi => ?_⟩
      obtain rfl : i = 0 := by simpa using hi
      exact ⟨rfl, .v _⟩
    · cases hx

theorem opens_slice {t e : TypeId} {k : Nat} {α : Type} {row : α → List AV} {Pr : α → Prop} (ht : P.underlying t = some (.slice e)) (hk : P.cellsOf e = k) (hk0 : k ≠ 0) (h : Opens P e α row Pr) (hl : ∀ a, (row a).length = k) :
    Opens P t (List α) (fun l => [.sl k (l.map row)]) (fun l => l.length < 9223372036854775808 ∧ ∀ a ∈ l, Pr a) := by
  constructor
  intro H enc w base sp held fuel cs x hx
  rcases DataW.trod_slice ht hx with ⟨rfl, _⟩ | ⟨a, len, cap, elems, rest, m, rfl, rfl, rfl, hb, hlc, hcap, hlen, hel, hsp, hns⟩
  · refine ⟨[], ⟨by simp, fun a ha => absurd ha (List.not_mem_nil)⟩, rfl, fun i hi => ?_⟩
    obtain rfl : i = 0 := by simpa using hi
    exact ⟨rfl, .slnil k⟩
  · have hlen2 : len < 9223372036854775808 := by unfold maxLen at hcap; omega
    -- the elements, one by one
    have each : ∀ i, i < len → ∃ (b : α) (c1 : List Value), Pr b ∧ c1.length = k ∧ w.cells? base (a.add (i * k)) k = some c1 ∧ ∀ j, j < k → (c1.getD j undef).oneCell' = true ∧ RV w (fun _ => False) nob [] ((row b).getD j .any) (c1.getD j undef) := by
      intro i hi
      have h1 := hel i hi
      rw [hk, List.getElem?_eq_getElem (by omega)] at h1
      simp only [Option.bind_eq_some_iff] at h1
      obtain ⟨c1, hc1, hy⟩ := h1
      obtain ⟨b, hp, hlb, hr⟩ := h.go enc w base sp held m c1 _ hy
      have hl1 := (World.cells?_some hc1).2.1
      exact ⟨b, c1, hp, hl1, hc1, fun j hj => hr j (by omega)⟩
    by_cases h0 : len = 0
    · subst h0
      refine ⟨[], ⟨by simp, fun a ha => absurd ha (List.not_mem_nil)⟩, rfl, fun i hi => ?_⟩
      obtain rfl : i = 0 := by simpa using hi
      exact ⟨rfl, .slemp k a cap⟩
    · -- the address
      have hspot : a.spot = none := by
        obtain ⟨b, c1, _, hl1, hc1, _⟩ := each 0 (by omega)
        have h2 := (World.cells?_some hc1).2.2 0 (by omega)
        rw [List.getElem?_eq_getElem (by omega)] at h2
        have e : (a.add (0 * k)).add 0 = a := by simp [Addr.add]
        rw [e] at h2
        unfold World.cell? at h2
        split at h2
        · split at h2
          · cases h2
          · rename_i hs; simpa using hs
        · cases h2
      obtain ⟨bl, off, spot⟩ := a
      simp only at hspot
      subst hspot
      have hadd : ∀ i j, ((⟨bl, off, none⟩ : Addr).add (i * k)).add j = ⟨bl, off + i * k + j, none⟩ := by
        intro i j
        simp only [Addr.add]
        split <;> split <;> simp_all <;> omega
      let B : Nat → α := fun i => if hi : i < len then Classical.choose (each i hi) else Classical.choose (each 0 (by omega))
      have hB : ∀ i, i < len → ∃ c1 : List Value, Pr (B i) ∧ c1.length = k ∧ w.cells? base ((⟨bl, off, none⟩ : Addr).add (i * k)) k = some c1 ∧ ∀ j, j < k → (c1.getD j undef).oneCell' = true ∧ RV w (fun _ => False) nob [] ((row (B i)).getD j .any) (c1.getD j undef) := by
        intro i hi
        have := Classical.choose_spec (each i hi)
        simp only [B, hi, dif_pos]
        exact this
      have hcell : ∀ i j, i < len → j < k → w.cell? ⟨bl, off + i * k + j, none⟩ = some ((w.cell? ⟨bl, off + i * k + j, none⟩).getD undef) ∧ ((w.cell? ⟨bl, off + i * k + j, none⟩).getD undef).oneCell' = true ∧
          RV w (fun _ => False) nob [] ((row (B i)).getD j .any) ((w.cell? ⟨bl, off + i * k + j, none⟩).getD undef) := by
        intro i j hi hj
        obtain ⟨c1, _, hl1, hc1, hr⟩ := hB i hi
        have h2 := (World.cells?_some hc1).2.2 j hj
        rw [hadd, List.getElem?_eq_getElem (by omega)] at h2
        rw [h2]
        have h3 := hr j hj
        rw [List.getD_eq_getElem?_getD, List.getElem?_eq_getElem (show j < c1.length by omega)] at h3
        exact ⟨rfl, h3⟩
      refine ⟨(List.range len).map B, ⟨by simpa using hlen2, fun b hb => ?_⟩, rfl, fun i hi => ?_⟩
      · obtain ⟨i, hi, rfl⟩ := List.mem_map.1 hb
        obtain ⟨c1, hp, _⟩ := hB i (List.mem_range.1 hi)
        exact hp
      · obtain rfl : i = 0 := by simpa using hi
        refine ⟨rfl, ?_⟩
        have hget : ∀ e, e < len → (((List.range len).map B).map row).getD e [] = row (B e) := fun e he => by simp [List.getD_eq_getElem?_getD, he]
        have hlm : (((List.range len).map B).map row).length = len := by simp
        have := RV.sl (w := w) (X := fun _ => False) (β := nob) (σ := []) k (((List.range len).map B).map row) bl off cap (fun i j => (w.cell? ⟨bl, off + i * k + j, none⟩).getD undef) (by rw [hlm]; exact hlc)
          (fun e he => by rw [hlm] at he; rw [hget e he]; exact hl _) (fun e he j hj => by rw [hlm] at he; exact (hcell e j he hj).1) (fun e j he hj hx => hx)
          (fun e j he hj => by rw [hlm] at he; exact (hcell e j he hj).2.1) (fun e j he hj => by rw [hlm] at he; rw [hget e he]; exact (hcell e j he hj).2.2)
        rw [hlm] at this
        exact this

/-- The fields of a struct, from a place on. -/
structure OpensF (P : Program) (fs : List Field) (off : Nat) (α : Type) (row : α → List AV) (Pr : α → Prop) : Prop where
  go : ∀ {H : Type} (enc : TypeId × Value → H) (w : World) (base : Nat) (sp : Nat → Bool) (held : Bool) (fuel : Nat) (cs : List Value) (xs : List (DataW H × List MemPlace)),
    (fs.mapM fun f => DataW.trod enc P w base sp held fuel f.type ((cs.drop f.offset).take (P.cellsOf f.type))) = some xs →
    ∃ a : α, Pr a ∧ ∀ i, i < (row a).length → off + i < cs.length ∧ (cs.getD (off + i) undef).oneCell' = true ∧ RV w (fun _ => False) nob [] ((row a).getD i .any) (cs.getD (off + i) undef)

theorem opensF_nil (off : Nat) : OpensF P [] off Unit (fun _ => []) (fun _ => True) :=
  ⟨fun enc w base sp held fuel cs xs _ => ⟨(), trivial, fun i hi => absurd hi (Nat.not_lt_zero _)⟩⟩

theorem opensF_cons {f : Field} {fs : List Field} {off k : Nat} {α β : Type} {row : α → List AV} {rows : β → List AV} {Pr : α → Prop} {Prs : β → Prop} (ho : f.offset = off) (hk : P.cellsOf f.type = k) (h : Opens P f.type α row Pr)
    (hl : ∀ a, (row a).length = k) (hs : OpensF P fs (off + k) β rows Prs) : OpensF P (f :: fs) off (α × β) (fun p => row p.1 ++ rows p.2) (fun p => Pr p.1 ∧ Prs p.2) := by
  constructor
  intro H enc w base sp held fuel cs xs hx
  rw [List.mapM_cons] at hx
  simp only [Option.bind_eq_bind, Option.bind_eq_some_iff] at hx
  obtain ⟨y, hy, ys, hys, _⟩ := hx
  rw [ho, hk] at hy
  obtain ⟨a, hp, hla, hr⟩ := h.go enc w base sp held fuel _ _ hy
  obtain ⟨b, hq, hr'⟩ := hs.go enc w base sp held fuel cs ys hys
  rw [hl] at hla
  have hlen : off + k ≤ cs.length ∨ k = 0 := by simp at hla; omega
  refine ⟨(a, b), ⟨hp, hq⟩, fun i hi => ?_⟩
  by_cases h1 : i < k
  · have hi' : i < ((cs.drop off).take k).length := by omega
    obtain ⟨g1, g2⟩ := hr i hi'
    have e : ((cs.drop off).take k).getD i undef = cs.getD (off + i) undef := by
      simp only [List.getD_eq_getElem?_getD, List.getElem?_take, h1, if_true, List.getElem?_drop]
    rw [e] at g1 g2
    refine ⟨by omega, g1, ?_⟩
    rw [getD_append, if_pos (by rw [hl]; exact h1)]
    exact g2
  · have := hr' (i - k) (by simp [hl] at hi; omega)
    rw [show off + k + (i - k) = off + i by omega] at this
    refine ⟨this.1, this.2.1, ?_⟩
    rw [getD_append, if_neg (by rw [hl]; omega), hl]
    exact this.2.2

theorem opens_struct {t : TypeId} {fs : Array Field} {k : Nat} {α : Type} {row : α → List AV} {Pr : α → Prop} (ht : P.underlying t = some (.struct fs)) (hk : P.cellsOf t = k) (hl : ∀ a, (row a).length = k) (h : OpensF P fs.toList 0 α row Pr) :
    Opens P t α row Pr := by
  constructor
  intro H enc w base sp held fuel cs x hx
  cases fuel with
  | zero => simp [DataW.trod] at hx
  | succ m =>
    unfold DataW.trod at hx
    rw [ht] at hx
    have hx' : (if cs.length = P.cellsOf t then (fs.toList.mapM fun f => DataW.trod enc P w base sp held m f.type ((cs.drop f.offset).take (P.cellsOf f.type))).map (fun xs => ((DataW.agg (xs.map (·.1)), xs.flatMap (·.2)) : DataW H × List MemPlace)) else none) = some x := by
      split at hx <;> first | (simp at *; done) | skip
      all_goals (try (rename_i heq; cases heq))
      exact hx
    split at hx'
    case isFalse => cases hx'
    rename_i hlen
    rw [Option.map_eq_some_iff] at hx'
    obtain ⟨xs, hxs, _⟩ := hx'
    obtain ⟨a, hp, hr⟩ := h.go enc w base sp held m cs xs hxs
    refine ⟨a, hp, by rw [hl, hlen, hk], fun i hi => ?_⟩
    have := hr i (by rw [hl, ← hk, ← hlen]; exact hi)
    rw [Nat.zero_add] at this
    exact this.2

/-- An argument that is not of struct type. -/
theorem Opens.one {t : TypeId} {α : Type} {av : α → AV} {Pr : α → Prop} (h : Opens P t α (fun a => [av a]) Pr) {H : Type} {enc : TypeId × Value → H} {w : World} {base : Nat} {sp : Nat → Bool} {held : Bool} {v : Value} {d : DataW H} {ps : List MemPlace}
    (hv : v.oneCell' = true) (hx : DataW.Trod enc P w base sp held t v d ps) : ∃ a, Pr a ∧ RV w (fun _ => False) nob [] (av a) v := by
  obtain ⟨fuel, hx⟩ := hx
  obtain ⟨a, hp, hl, hr⟩ := h.go enc w base sp held fuel _ _ hx
  have e : v.cells.toList = [v] := by cases v <;> first | rfl | simp [Value.oneCell'] at hv
  rw [e] at hr
  exact ⟨a, hp, (hr 0 (by simp)).2⟩

/-- An argument of struct type. -/
theorem Opens.agg {t : TypeId} {α : Type} {row : α → List AV} {Pr : α → Prop} (h : Opens P t α row Pr) {H : Type} {enc : TypeId × Value → H} {w : World} {base : Nat} {sp : Nat → Bool} {held : Bool} {cs : Array Value} {d : DataW H} {ps : List MemPlace}
    (hx : DataW.Trod enc P w base sp held t (.agg cs) d ps) : ∃ a, Pr a ∧ RV w (fun _ => False) nob [] (.agg (row a)) (.agg cs) := by
  obtain ⟨fuel, hx⟩ := hx
  obtain ⟨a, hp, hl, hr⟩ := h.go enc w base sp held fuel _ _ hx
  have e : (Value.agg cs).cells.toList = cs.toList := rfl
  rw [e] at hl hr
  refine ⟨a, hp, .agg _ _ (by simpa using hl) (fun i hi => ?_) fun i hi => ?_⟩
  · have := (hr i (by rw [hl]; exact hi)).1
    simpa [List.getD_eq_getElem?_getD, Array.getD_eq_getD_getElem?] using this
  · have := (hr i (by rw [hl]; exact hi)).2
    simpa [List.getD_eq_getElem?_getD, Array.getD_eq_getD_getElem?] using this

end Go.Abs

namespace Go.Proofs.Ytgpdckmbojmlpaa
open Go.Abs
set_option linter.unusedVariables false
set_option linter.unusedSimpArgs false
set_option maxHeartbeats 4000000
set_option maxRecDepth 100000
open Go.Shelf Go.RowKit Go.Lib Go.Sort

/-- A span whose beginning is not too far away. -/
abbrev Sb : Type := { s : Sp // -1000000 ≤ s.lo ∧ s.lo ≤ 1000000 }
instance : Inhabited Sb := ⟨⟨⟨0, 0⟩, by decide, by decide⟩⟩
def encS (x : Sb) : List Value := [.int .i64 x.1.lo, .int .i64 x.1.hi]
def cfS (x y : Sb) : Int := x.1.lo - y.1.lo

theorem ltS (x y : Sb) : ltOf cfS x y = decide (x.1.lo < y.1.lo) := by
  unfold ltOf cfS
  rw [decide_eq_decide]; omega

theorem swoS : SWO (ltOf cfS) where
  irrefl x := by rw [ltS]; simp
  trans x y z h1 h2 := by rw [ltS] at *; simp at *; omega
  ntrans x y z h1 h2 := by rw [ltS] at *; simp at *; omega

set_option maxHeartbeats 4000000 in
theorem closure128 (x y : Sb) (W : World) : Calls Try.prog 128 #[.agg #[.int .i64 x.1.lo, .int .i64 x.1.hi], .agg #[.int .i64 y.1.lo, .int .i64 y.1.hi]] W fun e w' => e = .returned (.int .i64 (cfS x y)) ∧ ∃ q os', w' = grow (W.drewN q) os' := by
  have hw : IntKind.i64.wrap (x.1.lo - y.1.lo) = cfS x y := by
    have h1 := x.2; have h2 := y.2
    unfold cfS
    rw [IntKind.wrap_i64]; omega
  obtain ⟨⟨a, b⟩, hx⟩ := x
  obtain ⟨⟨c, d⟩, hy⟩ := y
  simp only at hw ⊢
  generalize hr : cfS ⟨⟨a, b⟩, hx⟩ ⟨⟨c, d⟩, hy⟩ = r at hw ⊢
  clear hr
  go_enter Try.func128, Try.ntmps128
  go_wp2
  go_ret
  exact ⟨by simp [hw], 0, _, by rw [alloc_eq_grow, alloc_eq_grow, grow_grow]; rfl⟩

theorem cmpLaysS (blk off size : Nat) (w : World) : CmpLays Try.prog 128 #[] encS 2 cfS blk off size w :=
  fun _ _ _ _ x y => closure128 x y _

theorem isAgg23 (w : World) : (isAgg 23).run Try.prog w = .ok true w := by simp [isAgg, run_underlying Try.underlying23]
theorem sizeOf23 (w : World) : (Go.sizeOf 23).run Try.prog w = .ok 2 w := by
  have h : szF Try.prog 23 = some 2 := by kernel_rfl
  obtain ⟨i, hi, h2⟩ := sz_parts h
  simp [Go.sizeOf, typeInfo, hi, h2]

theorem sort_calls (blk off cap : Nat) (d : Array Sb) (w : World) (hH : HoldsK encS 2 w blk off d) (hblk : blk < w.heap.size) (hsz : d.size < 4611686018427387904) :
    Calls Try.prog 127 #[.slice (some ⟨blk, off, none⟩) d.size cap, .func (.func 128) #[] #[]] w fun e w' => e = .returned (.tuple #[]) ∧ ∃ d' n os, PermIn 0 d.size d d' ∧ SortedIn (ltOf cfS) 0 d.size d' ∧ w' = sortWorldK encS 2 w blk off n d' os := by
  have h := AnyQ.slices_SortFunc Try.sortS 2 isAgg23 sizeOf23 encS (fun _ => rfl) (fun x v hv => by simp [encS] at hv; rcases hv with rfl | rfl <;> rfl) cfS swoS 128 #[] blk off cap d w (fun xs w => Try.call128 xs w) (cmpLaysS blk off d.size w) hH hblk hsz
  exact h

/-- What the sort leaves of a block that it sorts. -/
theorem sorted_block {w : World} {b n : Nat} {d d' : Array Sb} {os : Array Obj} {c : Array Value} {T : TypeId} (hc : w.heap[b]? = some (.cells c T (0, 0))) (hs : d'.size = d.size) (hH : HoldsK encS 2 w b 0 d) :
    (∃ c', (sortWorldK encS 2 w b 0 n d' os).heap[b]? = some (.cells c' T (0, 0)) ∧ c'.size = c.size ∧ ∀ i j, i < d.size → j < 2 → c'.getD (i * 2 + j) undef = ((encS d'[i]!).getD j undef)) ∧
    w.heap.size ≤ (sortWorldK encS 2 w b 0 n d' os).heap.size ∧ (∀ b', b' < w.heap.size → b' ≠ b → (sortWorldK encS 2 w b 0 n d' os).heap[b']? = w.heap[b']?) ∧ Still w (sortWorldK encS 2 w b 0 n d' os) := by
  have hb : b < w.heap.size := (Array.getElem?_eq_some_iff.1 hc).1
  have hput : ∀ b', (putRowK encS 2 (Sort.ahead w n) b 0 d').heap[b']? = if b = b' then (w.heap[b']?).map (onCells (putCells id 0 (flatK encS 2 d'))) else w.heap[b']? := by
    intro b'
    simp only [putRowK, putRow, mapBlock, Sort.ahead]
    rw [Array.getElem?_modify]
  refine ⟨?_, by simp [sortWorldK, putRowK], fun b' h1 h2 => ?_, ⟨rfl, rfl, rfl⟩⟩
  · refine ⟨putCells id 0 (flatK encS 2 d') c, ?_, ?_, fun i j hi hj => ?_⟩
    · unfold sortWorldK
      rw [heap_grow_old _ _ (by simp [putRowK]; exact hb), hput, if_pos rfl, hc]
      rfl
    · simp [putCells]
    · have h1 := holdsK_putRowK (enc := encS) (k := 2) (Sort.ahead w n) b 0 d d' (show HoldsK encS 2 (Sort.ahead w n) b 0 d from hH) hs
      have h2 := (h1.cell (i := i) (c := j) (by omega) hj).1
      unfold World.cell? at h2
      rw [hput, if_pos rfl, hc] at h2
      simp only [Option.map_some, onCells, Option.isSome_none, Bool.false_eq_true, if_false, Nat.zero_add] at h2
      rw [Array.getD_eq_getD_getElem?, h2]
      match j, hj with
      | 0, _ => rfl
      | 1, _ => rfl
  · unfold sortWorldK
    rw [heap_grow_old _ _ (by simp [putRowK]; exact h1), hput, if_neg (fun e => h2 e.symm)]

theorem sorted_rows {d d' : Array Sb} (hp : PermIn 0 d.size d d') (hs : SortedIn (ltOf cfS) 0 d.size d') : d'.size = d.size ∧ d'.toList.Perm d.toList ∧ (d'.toList.map (·.1)).Pairwise (fun a b => a.lo ≤ b.lo) := by
  obtain ⟨h1, _, h3⟩ := hp
  refine ⟨h1, ?_, ?_⟩
  · simp only [Array.toList_extract, List.extract_eq_take_drop, Nat.sub_zero, List.drop_zero] at h3
    rw [List.take_of_length_le (by simp [h1]), List.take_of_length_le (by simp)] at h3
    exact h3
  · rw [List.pairwise_iff_getElem]
    intro i j hi hj hij
    simp only [List.length_map, Array.length_toList] at hi hj
    have := hs i j (Nat.zero_le _) hij (by omega)
    rw [ltS, decide_eq_false_iff_not, getElem!_pos d' i hi, getElem!_pos d' j hj] at this
    simp only [List.getElem_map, Array.getElem_toList]
    omega

/-- The sort of an owned slice of spans. -/
theorem sort_does (σ : Sto) (f : Nat) (l : List Sp) (hf : σ.at f 0 = some ⟨23, 2, l.map Sp.cs, none⟩) (hl : l.length < 4611686018427387904) (hb : ∀ s ∈ l, -1000000 ≤ s.lo ∧ s.lo ≤ 1000000) :
    Does Try.prog 127 [.own f 0 l.length, .fn (.func 128) [] []] σ (fun _ σ' => ∃ l' : List Sp, l'.Perm l ∧ l'.Pairwise (fun a b => a.lo ≤ b.lo) ∧ σ' = σ.upd f 0 ⟨23, 2, l'.map Sp.cs, none⟩) := by
  refine ⟨Try.call127, fun X β w xs hX hsr hlen hr => ?_⟩
  match xs, hlen with
  | [x, y], _ =>
    have hx := hr 0 (by simp)
    have hy := hr 1 (by simp)
    simp only [List.getD_cons_zero, List.getD_cons_succ] at hx hy
    have hy' : y = .func (.func 128) #[] #[] := by
      cases hy with
      | fn _ _ _ xs ys hn hm h h' =>
        have e1 : xs = #[] := Array.eq_empty_of_size_eq_zero (by simpa using hn)
        have e2 : ys = #[] := Array.eq_empty_of_size_eq_zero (by simpa using hm)
        rw [e1, e2]
    subst hy'
    have hob := hsr.obj f 0 _ hf
    cases hx with
    | own _ _ _ _ h1c hflt hle h =>
      have h' := h _ hf (by simp)
      unfold OwnSl at h'
      by_cases h0 : l = []
      · subst h0
        -- nothing to be sorted
        have hemp : ∃ p cap, x = .slice p 0 cap := by
          cases hbf : β f 0 with
          | none => rw [hbf] at h'; exact ⟨none, 0, h'.2⟩
          | some b => rw [hbf] at h'; obtain ⟨cap, _, _, rfl, _⟩ := h'; exact ⟨_, cap, rfl⟩
        obtain ⟨p, cap, rfl⟩ := hemp
        refine callsIn_wide.2 ((AnyF.slices_SortFunc_none Try.sortS p cap _ w).mono ?_)
        rintro e w' ⟨rfl, rfl⟩
        exact ⟨_, .any, σ, β, rfl, ⟨[], .nil, .nil, (upd_self hf).symm⟩, hsr, .any _, Ext.refl _ _ _, Kp.refl⟩
      · cases hbf : β f 0 with
        | none =>
          rw [hbf] at h'
          exact absurd (List.map_eq_nil_iff.1 h'.1) h0
        | some b =>
          rw [hbf] at h' hob
          obtain ⟨cap, c0, T0, rfl, hc0, hcs⟩ := h'
          obtain ⟨c, hc, hsz, hone, hrv⟩ := hob.2.1 rfl
          rw [hc] at hc0; injection hc0 with hc0; injection hc0 with hc0 _; subst hc0
          simp only [List.length_map] at hsz hone hrv hcs ⊢
          -- the row
          let d : Array Sb := (l.attach.map fun s => (⟨s.1, hb s.1 s.2⟩ : Sb)).toArray
          have hds : d.size = l.length := by simp [d]
          have hdl : d.toList.map (·.1) = l := by simp [d, List.map_map, Function.comp_def]
          have hdg : ∀ i, i < l.length → ∃ s, l[i]? = some s ∧ d[i]!.1 = s := by
            intro i hi
            refine ⟨_, List.getElem?_eq_getElem hi, ?_⟩
            rw [getElem!_pos d i (by omega)]
            simp [d]
          have hcell : ∀ i j, i < l.length → j < 2 → c.getD (i * 2 + j) undef = (encS d[i]!).getD j undef := by
            intro i j hi hj
            obtain ⟨s, hs, hds⟩ := hdg i hi
            have := hrv i j hi hj
            rw [getD_map hs] at this
            unfold encS
            rw [hds]
            match j, hj with
            | 0, _ => exact this.inv_v
            | 1, _ => exact this.inv_v
          have hH : HoldsK encS 2 w b 0 d := by
            intro t ht
            rw [size_flatK, hds] at ht
            have ht2 : t / 2 * 2 + t % 2 = t := by omega
            have hm : t % 2 < 2 := Nat.mod_lt _ (by decide)
            have h1 := hcell (t / 2) (t % 2) (by omega) hm
            rw [ht2] at h1
            have h2 : c[t]? = some (c.getD t undef) := by
              rw [Array.getD_eq_getD_getElem?, Array.getElem?_eq_getElem (by omega)]; rfl
            have h3 : (encS d[t / 2]!).getD (t % 2) undef = (encS d[t / 2]!)[t % 2]! := by
              generalize t % 2 = m at hm
              match m, hm with
              | 0, _ => rfl
              | 1, _ => rfl
            refine ⟨?_, ?_⟩
            · unfold World.cell?
              rw [hc]
              simp only [Option.isSome_none, Bool.false_eq_true, if_false, Nat.zero_add, id_eq]
              rw [h2, get_flatK _ _ _ _ (by rw [hds]; exact ht), h1, h3]
            · unfold World.frozen?
              rw [hc]
              simp
          have hblk : b < w.heap.size := (Array.getElem?_eq_some_iff.1 hc).1
          have hcon := sort_calls b 0 cap d w hH hblk (by omega)
          rw [hds] at hcon
          refine callsIn_wide.2 (hcon.mono ?_)
          rintro e w' ⟨rfl, d', n, os, hp, hs, rfl⟩
          rw [← hds] at hp hs
          obtain ⟨e1, e2, e3⟩ := sorted_rows hp hs
          obtain ⟨⟨c', hc', hcsz, hcg⟩, hge, hold, hstill⟩ := sorted_block (n := n) (os := os) hc e1 hH
          have hl' : (d'.toList.map (·.1)).length = l.length := by simp [e1, hds]
          have hperm : (d'.toList.map (·.1)).Perm l := by
            have := e2.map (·.1)
            rw [hdl] at this; exact this
          have ht : Turn w β f 0 (some b) (sortWorldK encS 2 w b 0 n d' os) := ⟨hge, fun b' h1 h2 => hold b' h1 (fun e => h2 (by rw [hbf, e])), fun b' hb' => .inl (by rw [hbf]; exact hb'), hstill⟩
          have hsame : (⟨23, 2, l.map Sp.cs, none⟩ : Ob).es.length = (⟨23, 2, (d'.toList.map (·.1)).map Sp.cs, none⟩ : Ob).es.length → some b = β f 0 ∧ ∀ b', β f 0 = some b' → SameSize w (sortWorldK encS 2 w b 0 n d' os) b' := fun _ =>
            ⟨hbf.symm, fun b' hb' cc T hcc => by
              rw [hbf] at hb'; injection hb' with hb'; subst hb'
              rw [hc] at hcc; injection hcc with hcc; injection hcc with hcc hT; subst hcc; subst hT
              exact ⟨c', _, hc', hcsz⟩⟩
          have hlen2 : (⟨23, 2, l.map Sp.cs, none⟩ : Ob).es.length ≤ (⟨23, 2, (d'.toList.map (·.1)).map Sp.cs, none⟩ : Ob).es.length := by simp [e1, hds]
          have K := Kp.turn (o' := ⟨23, 2, (d'.toList.map (·.1)).map Sp.cs, none⟩) hsr hf ht rfl hlen2 hsame
          have S := hsr.turn (o' := ⟨23, 2, (d'.toList.map (·.1)).map Sp.cs, none⟩) hX hf ht rfl hlen2 hsame (by
            refine ⟨fun e he => ?_, fun _ => ⟨c', hc', by simp [e1, hds]; omega, fun e j he hj => ?_, fun e j he hj => ?_⟩, fun r hr => by cases hr⟩
            · obtain ⟨s, hs⟩ : ∃ s, (d'.toList.map (·.1))[e]? = some s := ⟨_, List.getElem?_eq_getElem (by simpa using he)⟩
              rw [getD_map hs]; rfl
            · have he' : e < d.size := by simpa [e1] using he
              rw [hcg e j he' hj]
              match j, hj with
              | 0, _ => rfl
              | 1, _ => rfl
            · have he' : e < d.size := by simpa [e1] using he
              have he2 : e < d'.size := by omega
              rw [hcg e j he' hj]
              have hs : (d'.toList.map (·.1))[e]? = some d'[e]!.1 := by
                rw [getElem!_pos d' e he2]; simp [he2]
              rw [getD_map hs]
              match j, hj with
              | 0, _ => exact .v _
              | 1, _ => exact .v _)
          exact ⟨_, .any, _, _, rfl, ⟨d'.toList.map (·.1), hperm, e3, rfl⟩, S, .any _, Ext.turn hf ht, K⟩

/-- Room for a slice of spans that is to grow: an empty one that is owned. -/
theorem grow_does (σ : Sto) (z : Int) (h0 : 0 ≤ z) (h1 : z * 16 ≤ 140737488355328) :
    Does Try.prog 131 [.v (.slice none 0 0), n z] σ (fun r σ' => r = .own σ.length 0 0 ∧ σ' = σ ++ [some [⟨23, 2, [], none⟩]]) := by
  refine ⟨Try.call131, fun X β w xs hX hsr hlen hr => ?_⟩
  match xs, hlen with
  | [x, y], _ =>
    have hx := (hr 0 (by simp)).inv_v
    have hy := (hr 1 (by simp)).inv_v
    simp only [List.getD_cons_zero, List.getD_cons_succ] at hx hy
    subst hx; subst hy
    by_cases hz : z = 0
    · subst hz
      refine callsIn_wide.2 ((Any8.slices_Grow_room Try.growS none 0 0 0 w (Nat.le_refl _) (by decide) (by decide) (Nat.le_refl _)).mono ?_)
      rintro e w' ⟨rfl, rfl⟩
      exact ⟨_, _, _, _, rfl, ⟨rfl, rfl⟩, hsr.own0 hX, RV.own0 rfl, Ext.push (Nat.le_refl _) (fun _ _ => rfl) (fun b hb => by cases hb), Kp.own0 hsr⟩
    · obtain ⟨i0, hi0, hs2⟩ := sz_parts (show szF Try.prog 23 = some 2 by kernel_rfl)
      have hzr : zrF Try.prog 23 = some [.int .i64 0, .int .i64 0] := by kernel_rfl
      have hby : (Try.prog.info? 23).map (·.bytes) = some 16 := by kernel_rfl
      rw [hi0] at hby
      simp only [Option.map_some, Option.some.injEq] at hby
      unfold zrF at hzr
      rw [hi0] at hzr
      simp only [Option.bind_some, Option.map_eq_some_iff] at hzr
      obtain ⟨z0, hz0, hzc⟩ := hzr
      have hzn : (z.toNat : Int) = z := by omega
      have hg := Any8.slices_Grow_grow Try.growS i0 z0 hi0 hz0 (by omega) none 0 0 z.toNat [] w (Nat.le_refl _) (by omega) (by rw [hby]; omega) (by omega) (by simp) (fun _ => rfl) (fun a h => by cases h)
      have hge := grownCap_ge w (0 + z.toNat) 0 23
      refine callsIn_wide.2 ?_
      change Calls Try.prog 131 #[.slice none 0 0, .int .i64 z] w _
      rw [hzn] at hg
      refine Calls.mono hg ?_
      rintro e w' ⟨rfl, rfl⟩
      change grownCap w (0 + z.toNat) 0 23 ≥ _ at hge
      have hzs : z0.cells.size = 2 := by rw [← Array.length_toList, hzc]; rfl
      have hsz : w.heap.size ≤ (w.drew.alloc (.cells ((#[] : Array Value) ++ Builtin.zeroCells z0.cells (0 + z.toNat - 0) ++ Builtin.zeroCells z0.cells (grownCap w (0 + z.toNat) 0 23 - (0 + z.toNat))) 23)).heap.size := by rw [alc_size]; exact Nat.le_succ _
      have hold : ∀ b, b < w.heap.size → (w.drew.alloc (.cells ((#[] : Array Value) ++ Builtin.zeroCells z0.cells (0 + z.toNat - 0) ++ Builtin.zeroCells z0.cells (grownCap w (0 + z.toNat) 0 23 - (0 + z.toNat))) 23)).heap[b]? = w.heap[b]? := fun b hb => alc_old w.drew _ hb
      have hnew : (w.drew.alloc (.cells ((#[] : Array Value) ++ Builtin.zeroCells z0.cells (0 + z.toNat - 0) ++ Builtin.zeroCells z0.cells (grownCap w (0 + z.toNat) 0 23 - (0 + z.toNat))) 23)).heap[w.heap.size]? = some (.cells ((#[] : Array Value) ++ Builtin.zeroCells z0.cells (0 + z.toNat - 0) ++ Builtin.zeroCells z0.cells (grownCap w (0 + z.toNat) 0 23 - (0 + z.toNat))) 23) := alc_new w.drew _
      have hcsz : ((#[] : Array Value) ++ Builtin.zeroCells z0.cells (0 + z.toNat - 0) ++ Builtin.zeroCells z0.cells (grownCap w (0 + z.toNat) 0 23 - (0 + z.toNat))).size = grownCap w (0 + z.toNat) 0 23 * 2 := by
        simp only [Array.size_append, zeroCells_size, hzs]
        simp only [List.size_toArray, List.length_nil]
        omega
      have hbo : ∀ b, some w.heap.size = some b → b = w.heap.size := fun b hb => by injection hb with hb; exact hb.symm
      have K := Kp.push (o := ⟨23, 2, [], none⟩) (bo := some w.heap.size) hsr hsz hold hbo
      have S := hsr.push (o := ⟨23, 2, [], none⟩) (bo := some w.heap.size) hX hsz hold hbo ⟨fun e he => absurd he (Nat.not_lt_zero _), fun _ => ⟨_, hnew, by simp, fun e j he => absurd he (Nat.not_lt_zero _), fun e j he => absurd he (Nat.not_lt_zero _)⟩, fun r hr => by cases hr⟩
      refine ⟨_, _, _, _, rfl, ⟨rfl, rfl⟩, S, ?_, Ext.push hsz hold hbo ⟨rfl, rfl, rfl⟩, K⟩
      refine .own _ _ _ _ rfl (by simp) (fun o _ => Nat.zero_le _) fun o ho _ => ?_
      rw [at_push_new] at ho; simp at ho; subst ho
      unfold OwnSl; rw [addB_new]
      exact ⟨_, _, _, rfl, hnew, hcsz⟩
end Go.Proofs.Ytgpdckmbojmlpaa

namespace Go.Proofs.Ytgpdckmbojmlpaa
open Go.Abs
set_option linter.unusedVariables false
set_option linter.unusedSimpArgs false
set_option maxHeartbeats 4000000
set_option maxRecDepth 100000
-- slices.Concat[[]aneroid/api.Span,aneroid/api.Span]
def c119 : CF := ⟨36,
 (.seq (.ops [
 ⟨(some 2), .mv (.c (.slice none 0 0)), none⟩] [0])
 (.seq (.ops [
 ⟨(some 3), .mv (.c (.int .i64 0)), none⟩] [0, 3])
 (.seq (.seq (.ops [
 ⟨(some 9), .mv (.t 0), none⟩,
 ⟨(some 10), .len (.t 9), none⟩,
 ⟨(some 11), .mv (.c (.int .i64 0)), none⟩] [0, 3, 9, 10, 11])
 (.block 0 (.loop (.seq (.ops [
 ⟨(some 12), .bin .lss (.t 11) (.t 10), none⟩] [0, 3, 9, 10, 11, 12])
 (.seq (.cond (.t 12) .skip
 (.exit 0))
 (.seq (.block 1 (.seq (.ops [
 ⟨(some 13), .iaddr 1 (.t 9) (.t 11), none⟩,
 ⟨(some 14), .load none (.t 13), none⟩,
 ⟨(some 5), .mv (.t 14), none⟩] [0, 3, 5, 9, 10, 11])
 (.seq (.ops [
 ⟨(some 15), .mv (.t 3), none⟩,
 ⟨(some 16), .mv (.t 5), none⟩,
 ⟨(some 17), .len (.t 16), none⟩,
 ⟨(some 18), .bin .add (.t 15) (.t 17), none⟩,
 ⟨(some 3), .mv (.t 18), none⟩] [0, 3, 9, 10, 11])
 (.seq (.ops [
 ⟨(some 19), .mv (.t 3), none⟩,
 ⟨(some 20), .bin .lss (.t 19) (.c (.int .i64 0)), none⟩] [0, 3, 9, 10, 11, 20])
 (.cond (.t 20) (.ops [
 ⟨(some 21), .ifc 9 (.c (.string ⟨#[108, 101, 110, 32, 111, 117, 116, 32, 111, 102, 32, 114, 97, 110, 103, 101]⟩)), none⟩,
 ⟨none, .bad, none⟩] [0, 3, 9, 10, 11])
 .skip)))))
 (.ops [
 ⟨(some 22), .bin .add (.t 11) (.c (.int .i64 1)), none⟩,
 ⟨(some 11), .mv (.t 22), none⟩] [0, 3, 9, 10, 11])))))))
 (.seq (.ops [
 ⟨(some 23), .mv (.t 3), none⟩,
 ⟨(some 24), .call (.f 131) [(.c (.slice none 0 0)), (.t 23)], none⟩,
 ⟨(some 6), .mv (.t 24), none⟩] [0, 6])
 (.seq (.seq (.ops [
 ⟨(some 25), .mv (.t 0), none⟩,
 ⟨(some 26), .len (.t 25), none⟩,
 ⟨(some 27), .mv (.c (.int .i64 0)), none⟩] [6, 25, 26, 27])
 (.block 2 (.loop (.seq (.ops [
 ⟨(some 28), .bin .lss (.t 27) (.t 26), none⟩] [6, 25, 26, 27, 28])
 (.seq (.cond (.t 28) .skip
 (.exit 2))
 (.seq (.block 3 (.seq (.ops [
 ⟨(some 29), .iaddr 1 (.t 25) (.t 27), none⟩,
 ⟨(some 30), .load none (.t 29), none⟩,
 ⟨(some 8), .mv (.t 30), none⟩] [6, 8, 25, 26, 27])
 (.ops [
 ⟨(some 31), .mv (.t 6), none⟩,
 ⟨(some 32), .mv (.t 8), none⟩,
 ⟨(some 33), .app 23 2 16 (.t 31) (.t 32), none⟩,
 ⟨(some 6), .mv (.t 33), none⟩] [6, 25, 26, 27])))
 (.ops [
 ⟨(some 34), .bin .add (.t 27) (.c (.int .i64 1)), none⟩,
 ⟨(some 27), .mv (.t 34), none⟩] [6, 25, 26, 27])))))))
 (.seq (.ops [
 ⟨(some 35), .mv (.t 6), none⟩,
 ⟨(some 2), .mv (.t 35), none⟩] [2])
 .ret)))))),
 [.t 2]⟩
-- slices.Clone[[]aneroid/api.Span,aneroid/api.Span]
def c113 : CF := ⟨8,
 (.seq (.ops [
 ⟨(some 2), .mv (.c (.slice none 0 0)), none⟩] [0])
 (.seq (.seq (.ops [
 ⟨(some 3), .mv (.t 0), none⟩,
 ⟨(some 4), .nilq false (.t 3) (.c (.slice none 0 0)), none⟩] [0, 4])
 (.cond (.t 4) (.seq (.ops [
 ⟨(some 2), .mv (.c (.slice none 0 0)), none⟩] [2])
 .ret)
 .skip))
 (.seq (.ops [
 ⟨(some 5), .bsl true 23 2 0 [] [], none⟩,
 ⟨(some 6), .mv (.t 0), none⟩,
 ⟨(some 7), .app 23 2 16 (.t 5) (.t 6), none⟩,
 ⟨(some 2), .mv (.t 7), none⟩] [2])
 .ret))),
 [.t 2]⟩
-- (*aneroid/paper.set).add
def c104 : CF := ⟨79,
 (.seq (.ops [
 ⟨(some 8), .mv (.t 0), none⟩,
 ⟨(some 9), .nilc (.t 8), none⟩,
 ⟨(some 10), .faddr 0 (.t 9), none⟩,
 ⟨(some 11), .load none (.t 10), none⟩,
 ⟨(some 12), .mv (.t 1), none⟩,
 ⟨(some 13), .bsl false 34 1 2 [.slice none 0 0, .slice none 0 0] [(0, 1, (.t 11)), (1, 1, (.t 12))], none⟩,
 ⟨(some 14), .call (.f 119) [(.t 13)], none⟩,
 ⟨(some 4), .mv (.t 14), none⟩] [0, 4])
 (.seq (.ops [
 ⟨(some 15), .mv (.t 4), none⟩,
 ⟨(some 16), .call (.f 127) [(.t 15), (.f 128)], none⟩] [0, 4])
 (.seq (.ops [
 ⟨(some 17), .mv (.t 0), none⟩,
 ⟨(some 18), .nilc (.t 17), none⟩,
 ⟨(some 19), .faddr 0 (.t 18), none⟩,
 ⟨none, .store 1 (.t 19) (.c (.slice none 0 0)), none⟩] [0, 4])
 (.seq (.ops [
 ⟨(some 20), .mv (.t 4), none⟩,
 ⟨(some 21), .len (.t 20), none⟩,
 ⟨(some 22), .mv (.c (.int .i64 0)), none⟩] [0, 20, 21, 22])
 (.block 0 (.loop (.seq (.ops [
 ⟨(some 23), .bin .lss (.t 22) (.t 21), none⟩] [0, 20, 21, 22, 23])
 (.seq (.cond (.t 23) .skip
 (.exit 0))
 (.seq (.block 1 (.seq (.ops [
 ⟨(some 24), .iaddr 2 (.t 20) (.t 22), none⟩,
 ⟨(some 25), .load (some 2) (.t 24), none⟩,
 ⟨(some 6), .alloc 23 2 [.int .i64 0, .int .i64 0], none⟩,
 ⟨none, .store 2 (.t 6) (.t 25), none⟩] [0, 6, 20, 21, 22])
 (.seq (.ops [
 ⟨(some 26), .mv (.t 0), none⟩,
 ⟨(some 27), .nilc (.t 26), none⟩,
 ⟨(some 28), .faddr 0 (.t 27), none⟩,
 ⟨(some 29), .load none (.t 28), none⟩,
 ⟨(some 30), .len (.t 29), none⟩,
 ⟨(some 7), .mv (.t 30), none⟩] [0, 6, 7, 20, 21, 22])
 (.seq (.seq (.draw [
 ⟨(some 31), .mv (.t 7), none⟩,
 ⟨(some 32), .bin .gtr (.t 31) (.c (.int .i64 0)), none⟩,
 ⟨(some 33), .mv (.t 32), none⟩,
 ⟨(some 34), .faddr 0 (.t 6), (some (33, true))⟩,
 ⟨(some 35), .load none (.t 34), (some (33, true))⟩,
 ⟨(some 36), .mv (.t 0), (some (33, true))⟩,
 ⟨(some 37), .nilc (.t 36), (some (33, true))⟩,
 ⟨(some 38), .faddr 0 (.t 37), (some (33, true))⟩,
 ⟨(some 39), .load none (.t 38), (some (33, true))⟩,
 ⟨(some 40), .mv (.t 7), (some (33, true))⟩,
 ⟨(some 41), .bin .sub (.t 40) (.c (.int .i64 1)), (some (33, true))⟩,
 ⟨(some 42), .iaddr 2 (.t 39) (.t 41), (some (33, true))⟩,
 ⟨(some 43), .faddr 1 (.t 42), (some (33, true))⟩,
 ⟨(some 44), .load none (.t 43), (some (33, true))⟩,
 ⟨(some 45), .bin .add (.t 44) (.c (.int .i64 1)), (some (33, true))⟩,
 ⟨(some 46), .bin .leq (.t 35) (.t 45), (some (33, true))⟩,
 ⟨(some 47), .pick (.t 33) (.t 46) (.c (.bool false)), none⟩] [
 ] [0, 6, 7, 20, 21, 22, 47])
 (.cond (.t 47) (.seq (.draw [
 ⟨(some 48), .mv (.t 0), none⟩,
 ⟨(some 49), .nilc (.t 48), none⟩,
 ⟨(some 50), .faddr 0 (.t 49), none⟩,
 ⟨(some 51), .load none (.t 50), none⟩,
 ⟨(some 52), .mv (.t 7), none⟩,
 ⟨(some 53), .bin .sub (.t 52) (.c (.int .i64 1)), none⟩,
 ⟨(some 54), .mv (.t 0), none⟩,
 ⟨(some 55), .nilc (.t 54), none⟩,
 ⟨(some 56), .faddr 0 (.t 55), none⟩,
 ⟨(some 57), .load none (.t 56), none⟩,
 ⟨(some 58), .mv (.t 7), none⟩,
 ⟨(some 59), .bin .sub (.t 58) (.c (.int .i64 1)), none⟩,
 ⟨(some 60), .iaddr 2 (.t 57) (.t 59), none⟩,
 ⟨(some 61), .faddr 1 (.t 60), none⟩,
 ⟨(some 62), .load none (.t 61), none⟩,
 ⟨(some 63), .faddr 1 (.t 6), none⟩,
 ⟨(some 64), .load none (.t 63), none⟩,
 ⟨(some 65), .mnx true (.t 62) (.t 64), none⟩,
 ⟨(some 66), .iaddr 2 (.t 51) (.t 53), none⟩,
 ⟨(some 67), .faddr 1 (.t 66), none⟩] [
 ⟨none, .store 1 (.t 67) (.t 65), none⟩] [0, 20, 21, 22])
 (.exit 1))
 .skip))
 (.drawl 0 [
 ⟨(some 68), .mv (.t 0), none⟩,
 ⟨(some 69), .mv (.t 0), none⟩,
 ⟨(some 70), .nilc (.t 69), none⟩,
 ⟨(some 71), .faddr 0 (.t 70), none⟩,
 ⟨(some 72), .load none (.t 71), none⟩,
 ⟨(some 73), .load (some 2) (.t 6), none⟩,
 ⟨(some 74), .bsl false 23 2 1 [.int .i64 0, .int .i64 0] [(0, 2, (.t 73))], none⟩] [
 ⟨(some 75), .app 23 2 16 (.t 72) (.t 74), none⟩,
 ⟨(some 76), .nilc (.t 68), none⟩,
 ⟨(some 77), .faddr 0 (.t 76), none⟩,
 ⟨none, .store 1 (.t 77) (.t 75), none⟩] [0, 20, 21, 22])))))
 (.ops [
 ⟨(some 78), .bin .add (.t 22) (.c (.int .i64 1)), none⟩,
 ⟨(some 22), .mv (.t 78), none⟩] [0, 20, 21, 22])))))))))),
 []⟩
-- (*aneroid/paper.set).add$1
theorem k119 : chkF Try.prog Try.f119 c119 = true := by kernel_rfl
theorem k113 : chkF Try.prog Try.f113 c113 = true := by kernel_rfl
theorem k104 : chkF Try.prog Try.f104 c104 = true := by kernel_rfl
/-- A slice of spans: as it was handed in, or one that is owned. -/
def avR : List Sp × Option Nat → AV
  | (l, none) => spS l
  | (l, some g) => .own g 0 l.length
def okR (σ : Sto) : List Sp × Option Nat → Prop
  | (_, none) => True
  | (l, some g) => σ.at g 0 = some (spO l)
abbrev flat (rows : List (List Sp × Option Nat)) : List Sp := rows.flatMap (·.1)

theorem flat_take {rows : List (List Sp × Option Nat)} {i : Nat} {r : List Sp × Option Nat} (h : rows[i]? = some r) : flat (rows.take (i + 1)) = flat (rows.take i) ++ r.1 := by
  rw [List.take_add_one, h]; simp [flat]

theorem flat_le (rows : List (List Sp × Option Nat)) (i : Nat) : (flat (rows.take i)).length ≤ (flat rows).length := by
  have : flat rows = flat (rows.take i) ++ flat (rows.drop i) := by rw [← List.flatMap_append, List.take_append_drop]
  rw [this, List.length_append]; omega

theorem rows_ok (l : List Sp) : ∀ e, e < l.length → ((l.map Sp.cs).getD e []).length = 2 := fun e he => by
  obtain ⟨x, hx⟩ : ∃ x, l[e]? = some x := ⟨_, List.getElem?_eq_getElem he⟩
  rw [getD_map hx]; rfl

theorem concat_does (σ : Sto) (rows : List (List Sp × Option Nat)) (hok : ∀ r ∈ rows, okR σ r) (hlen : rows.length < 9223372036854775808) (htot : ((flat rows).length : Int) * 16 ≤ 140737488355328) :
    Does Try.prog 119 [.sl 1 (rows.map fun r => [avR r])] σ (fun r σ' => r = .own σ.length 0 (flat rows).length ∧ σ' = σ ++ [some [spO (flat rows)]]) := by
  refine Does.of_body Try.call119 Try.func119 k119 (Nat.le_of_ble_eq_true rfl) ?_
  unfold c119
  (repeat' first
 | (refine AWPC.of_vcn rfl ?_; simp only [zT, zV, zS, zU, vcC, lateX, ex, strp, cnd, binA, kseq, kblk, kret, klp, Abs.one, elems, cells, scalar, eqC, Nat.reduceBEq, Nat.reduceAdd, Nat.reduceSub, Nat.reduceLT, Nat.reduceLeDiff, Nat.reduceMul, Nat.reduceEqDiff, cond_true, cond_false, if_true, if_false, reduceIte, implies_true, forall_const, ne_eq])
 | (simp (disch := omega) only [wr64, Int.zero_sub]; try simp only [zT, zV, zS, zU, vcC, lateX, ex, strp, cnd, binA, kseq, kblk, kret, klp, Abs.one, elems, cells, scalar, eqC, Nat.reduceBEq, Nat.reduceAdd, Nat.reduceSub, Nat.reduceLT, Nat.reduceLeDiff, Nat.reduceMul, Nat.reduceEqDiff, cond_true, cond_false, if_true, if_false, reduceIte, implies_true, forall_const, ne_eq])
 | (refine AWPC.both (fun _ => ?_) (fun _ => ?_))
 | (refine AWPC.imp (fun _ => ?_))
 | ((refine .inl ⟨_, _, _, .any, rfl, fun h => absurd h Bool.false_ne_true, ?_⟩); refine owp_of_exs ?_; simp only [zT, zV, zS, zU, vcC, lateX, ex, strp, cnd, binA, kseq, kblk, kret, klp, Abs.one, elems, cells, scalar, eqC, Nat.reduceBEq, Nat.reduceAdd, Nat.reduceSub, Nat.reduceLT, Nat.reduceLeDiff, Nat.reduceMul, Nat.reduceEqDiff, cond_true, cond_false, if_true, if_false, reduceIte, implies_true, forall_const, ne_eq])
 | (refine ⟨by omega, ?_⟩)
 | (refine And.intro (by (intros; first | (simp_all (config := { decide := false }); done) | fail)) ?_)
 | fail)
  refine AWPC.loopS (α := { i : Nat // i ≤ rows.length }) [3, 11] (fun i => [(3, n ((flat (rows.take i.1)).length)), (11, n i.1)]) (fun i => rows.length - i.1) ⟨0, Nat.zero_le _⟩ ?_ ?_
  · (simp only [zT, zV, zS, zU, vcC, lateX, ex, strp, cnd, binA, kseq, kblk, kret, klp, Abs.one, elems, cells, scalar, eqC, Nat.reduceBEq, Nat.reduceAdd, Nat.reduceSub, Nat.reduceLT, Nat.reduceLeDiff, Nat.reduceMul, Nat.reduceEqDiff, cond_true, cond_false, if_true, if_false, reduceIte, implies_true, forall_const, ne_eq]; try simp)
  · rintro ⟨i, hi⟩
    have hfl := flat_le rows i
    by_cases hlt : i < rows.length
    · obtain ⟨r, hr⟩ : ∃ r, rows[i]? = some r := ⟨_, List.getElem?_eq_getElem hlt⟩
      have hok := hok r (List.mem_of_getElem? hr)
      have ft := flat_take hr
      have hfl1 := flat_le rows (i + 1)
      have hl2 : (flat (rows.take (i + 1))).length = (flat (rows.take i)).length + r.1.length := by rw [ft, List.length_append]
      obtain ⟨l, g⟩ := r
      simp only at hl2
      cases g with
      | none =>
        (repeat' first
 | (refine AWPC.of_vcn rfl ?_; simp only [zT, zV, zS, zU, vcC, lateX, ex, strp, cnd, binA, kseq, kblk, kret, klp, Abs.one, elems, cells, scalar, eqC, Nat.reduceBEq, Nat.reduceAdd, Nat.reduceSub, Nat.reduceLT, Nat.reduceLeDiff, Nat.reduceMul, Nat.reduceEqDiff, cond_true, cond_false, if_true, if_false, reduceIte, implies_true, forall_const, ne_eq, getD_map hr, avR])
 | (simp (disch := omega) only [wr64, Int.zero_sub]; try simp only [zT, zV, zS, zU, vcC, lateX, ex, strp, cnd, binA, kseq, kblk, kret, klp, Abs.one, elems, cells, scalar, eqC, Nat.reduceBEq, Nat.reduceAdd, Nat.reduceSub, Nat.reduceLT, Nat.reduceLeDiff, Nat.reduceMul, Nat.reduceEqDiff, cond_true, cond_false, if_true, if_false, reduceIte, implies_true, forall_const, ne_eq, getD_map hr, avR])
 | (refine AWPC.both (fun _ => ?_) (fun _ => ?_))
 | (refine AWPC.imp (fun _ => ?_))
 | ((refine .inl ⟨_, _, _, .any, rfl, fun h => absurd h Bool.false_ne_true, ?_⟩); refine owp_of_exs ?_; simp only [zT, zV, zS, zU, vcC, lateX, ex, strp, cnd, binA, kseq, kblk, kret, klp, Abs.one, elems, cells, scalar, eqC, Nat.reduceBEq, Nat.reduceAdd, Nat.reduceSub, Nat.reduceLT, Nat.reduceLeDiff, Nat.reduceMul, Nat.reduceEqDiff, cond_true, cond_false, if_true, if_false, reduceIte, implies_true, forall_const, ne_eq, getD_map hr, avR])
 | (refine ⟨by omega, ?_⟩)
 | (refine And.intro (by (intros; first | (simp_all (config := { decide := false }); done) | fail)) ?_)
 | fail)
        all_goals try (exfalso; omega)
        exact ⟨⟨i + 1, hlt⟩, ⟨by rw [hl2]; simp, by simp⟩, by simp only; omega⟩
      | some g =>
        simp only [okR] at hok
        (repeat' first
 | (refine AWPC.of_vcn rfl ?_; simp only [zT, zV, zS, zU, vcC, lateX, ex, strp, cnd, binA, kseq, kblk, kret, klp, Abs.one, elems, cells, scalar, eqC, Nat.reduceBEq, Nat.reduceAdd, Nat.reduceSub, Nat.reduceLT, Nat.reduceLeDiff, Nat.reduceMul, Nat.reduceEqDiff, cond_true, cond_false, if_true, if_false, reduceIte, implies_true, forall_const, ne_eq, getD_map hr, avR, hok])
 | (simp (disch := omega) only [wr64, Int.zero_sub]; try simp only [zT, zV, zS, zU, vcC, lateX, ex, strp, cnd, binA, kseq, kblk, kret, klp, Abs.one, elems, cells, scalar, eqC, Nat.reduceBEq, Nat.reduceAdd, Nat.reduceSub, Nat.reduceLT, Nat.reduceLeDiff, Nat.reduceMul, Nat.reduceEqDiff, cond_true, cond_false, if_true, if_false, reduceIte, implies_true, forall_const, ne_eq, getD_map hr, avR, hok])
 | (refine AWPC.both (fun _ => ?_) (fun _ => ?_))
 | (refine AWPC.imp (fun _ => ?_))
 | ((refine .inl ⟨_, _, _, .any, rfl, fun h => absurd h Bool.false_ne_true, ?_⟩); refine owp_of_exs ?_; simp only [zT, zV, zS, zU, vcC, lateX, ex, strp, cnd, binA, kseq, kblk, kret, klp, Abs.one, elems, cells, scalar, eqC, Nat.reduceBEq, Nat.reduceAdd, Nat.reduceSub, Nat.reduceLT, Nat.reduceLeDiff, Nat.reduceMul, Nat.reduceEqDiff, cond_true, cond_false, if_true, if_false, reduceIte, implies_true, forall_const, ne_eq, getD_map hr, avR, hok])
 | (refine ⟨by omega, ?_⟩)
 | (refine And.intro (by (intros; first | (simp_all (config := { decide := false }); done) | fail)) ?_)
 | fail)
        all_goals try (exfalso; omega)
        exact ⟨⟨i + 1, hlt⟩, ⟨by rw [hl2]; simp, by simp⟩, by simp only; omega⟩
    · obtain rfl : i = rows.length := by omega
      rw [List.take_length]
      (repeat' first
 | (refine AWPC.of_vcn rfl ?_; simp only [zT, zV, zS, zU, vcC, lateX, ex, strp, cnd, binA, kseq, kblk, kret, klp, Abs.one, elems, cells, scalar, eqC, Nat.reduceBEq, Nat.reduceAdd, Nat.reduceSub, Nat.reduceLT, Nat.reduceLeDiff, Nat.reduceMul, Nat.reduceEqDiff, cond_true, cond_false, if_true, if_false, reduceIte, implies_true, forall_const, ne_eq])
 | (simp (disch := omega) only [wr64, Int.zero_sub]; try simp only [zT, zV, zS, zU, vcC, lateX, ex, strp, cnd, binA, kseq, kblk, kret, klp, Abs.one, elems, cells, scalar, eqC, Nat.reduceBEq, Nat.reduceAdd, Nat.reduceSub, Nat.reduceLT, Nat.reduceLeDiff, Nat.reduceMul, Nat.reduceEqDiff, cond_true, cond_false, if_true, if_false, reduceIte, implies_true, forall_const, ne_eq])
 | (refine AWPC.both (fun _ => ?_) (fun _ => ?_))
 | (refine AWPC.imp (fun _ => ?_))
 | ((refine .inl ⟨_, _, _, .any, rfl, fun h => absurd h Bool.false_ne_true, ?_⟩); refine owp_of_exs ?_; simp only [zT, zV, zS, zU, vcC, lateX, ex, strp, cnd, binA, kseq, kblk, kret, klp, Abs.one, elems, cells, scalar, eqC, Nat.reduceBEq, Nat.reduceAdd, Nat.reduceSub, Nat.reduceLT, Nat.reduceLeDiff, Nat.reduceMul, Nat.reduceEqDiff, cond_true, cond_false, if_true, if_false, reduceIte, implies_true, forall_const, ne_eq])
 | (refine ⟨by omega, ?_⟩)
 | (refine And.intro (by (intros; first | (simp_all (config := { decide := false }); done) | fail)) ?_)
 | fail)
      all_goals try (exfalso; omega)
      refine .inr (.inl ⟨_, _, _, _, rfl, fun _ => ⟨grow_does σ _ (by omega) htot, ?_⟩, fun h => by cases h⟩)
      rintro res σ' ⟨rfl, rfl⟩
      refine owp_of_exs ?_
      simp only [zT, zV, zS, zU, vcC, lateX, ex, strp, cnd, binA, kseq, kblk, kret, klp, Abs.one, elems, cells, scalar, eqC, Nat.reduceBEq, Nat.reduceAdd, Nat.reduceSub, Nat.reduceLT, Nat.reduceLeDiff, Nat.reduceMul, Nat.reduceEqDiff, cond_true, cond_false, if_true, if_false, reduceIte, implies_true, forall_const, ne_eq]
      (repeat' first
 | (refine AWPC.of_vcn rfl ?_; simp only [zT, zV, zS, zU, vcC, lateX, ex, strp, cnd, binA, kseq, kblk, kret, klp, Abs.one, elems, cells, scalar, eqC, Nat.reduceBEq, Nat.reduceAdd, Nat.reduceSub, Nat.reduceLT, Nat.reduceLeDiff, Nat.reduceMul, Nat.reduceEqDiff, cond_true, cond_false, if_true, if_false, reduceIte, implies_true, forall_const, ne_eq])
 | (simp (disch := omega) only [wr64, Int.zero_sub]; try simp only [zT, zV, zS, zU, vcC, lateX, ex, strp, cnd, binA, kseq, kblk, kret, klp, Abs.one, elems, cells, scalar, eqC, Nat.reduceBEq, Nat.reduceAdd, Nat.reduceSub, Nat.reduceLT, Nat.reduceLeDiff, Nat.reduceMul, Nat.reduceEqDiff, cond_true, cond_false, if_true, if_false, reduceIte, implies_true, forall_const, ne_eq])
 | (refine AWPC.both (fun _ => ?_) (fun _ => ?_))
 | (refine AWPC.imp (fun _ => ?_))
 | ((refine .inl ⟨_, _, _, .any, rfl, fun h => absurd h Bool.false_ne_true, ?_⟩); refine owp_of_exs ?_; simp only [zT, zV, zS, zU, vcC, lateX, ex, strp, cnd, binA, kseq, kblk, kret, klp, Abs.one, elems, cells, scalar, eqC, Nat.reduceBEq, Nat.reduceAdd, Nat.reduceSub, Nat.reduceLT, Nat.reduceLeDiff, Nat.reduceMul, Nat.reduceEqDiff, cond_true, cond_false, if_true, if_false, reduceIte, implies_true, forall_const, ne_eq])
 | (refine ⟨by omega, ?_⟩)
 | (refine And.intro (by (intros; first | (simp_all (config := { decide := false }); done) | fail)) ?_)
 | fail)
      refine AWPC.loopE (α := { i : Nat // i ≤ rows.length }) [6, 27] (fun i => [(6, .own σ.length 0 (flat (rows.take i.1)).length), (27, n i.1)]) (fun i => σ ++ [some [spO (flat (rows.take i.1))]]) (fun i => rows.length - i.1) ⟨0, Nat.zero_le _⟩ ?_ (by simp [flat]) ?_
      · (simp only [zT, zV, zS, zU, vcC, lateX, ex, strp, cnd, binA, kseq, kblk, kret, klp, Abs.one, elems, cells, scalar, eqC, Nat.reduceBEq, Nat.reduceAdd, Nat.reduceSub, Nat.reduceLT, Nat.reduceLeDiff, Nat.reduceMul, Nat.reduceEqDiff, cond_true, cond_false, if_true, if_false, reduceIte, implies_true, forall_const, ne_eq]; try simp)
      · rintro ⟨i, hi⟩
        have hfl := flat_le rows i
        by_cases hlt : i < rows.length
        · obtain ⟨r, hr⟩ : ∃ r, rows[i]? = some r := ⟨_, List.getElem?_eq_getElem hlt⟩
          have hok := hok r (List.mem_of_getElem? hr)
          have ft := flat_take hr
          have hfl1 := flat_le rows (i + 1)
          have hl2 : (flat (rows.take (i + 1))).length = (flat (rows.take i)).length + r.1.length := by rw [ft, List.length_append]
          obtain ⟨l, g⟩ := r
          simp only at hl2 ft
          cases g with
          | none =>
            (repeat' first
 | (refine AWPC.of_vcn rfl ?_; simp only [zT, zV, zS, zU, vcC, lateX, ex, strp, cnd, binA, kseq, kblk, kret, klp, Abs.one, elems, cells, scalar, eqC, Nat.reduceBEq, Nat.reduceAdd, Nat.reduceSub, Nat.reduceLT, Nat.reduceLeDiff, Nat.reduceMul, Nat.reduceEqDiff, cond_true, cond_false, if_true, if_false, reduceIte, implies_true, forall_const, ne_eq, getD_map hr, avR])
 | (simp (disch := omega) only [wr64, Int.zero_sub]; try simp only [zT, zV, zS, zU, vcC, lateX, ex, strp, cnd, binA, kseq, kblk, kret, klp, Abs.one, elems, cells, scalar, eqC, Nat.reduceBEq, Nat.reduceAdd, Nat.reduceSub, Nat.reduceLT, Nat.reduceLeDiff, Nat.reduceMul, Nat.reduceEqDiff, cond_true, cond_false, if_true, if_false, reduceIte, implies_true, forall_const, ne_eq, getD_map hr, avR])
 | (refine AWPC.both (fun _ => ?_) (fun _ => ?_))
 | (refine AWPC.imp (fun _ => ?_))
 | ((refine .inl ⟨_, _, _, .any, rfl, fun h => absurd h Bool.false_ne_true, ?_⟩); refine owp_of_exs ?_; simp only [zT, zV, zS, zU, vcC, lateX, ex, strp, cnd, binA, kseq, kblk, kret, klp, Abs.one, elems, cells, scalar, eqC, Nat.reduceBEq, Nat.reduceAdd, Nat.reduceSub, Nat.reduceLT, Nat.reduceLeDiff, Nat.reduceMul, Nat.reduceEqDiff, cond_true, cond_false, if_true, if_false, reduceIte, implies_true, forall_const, ne_eq, getD_map hr, avR])
 | (refine ⟨by omega, ?_⟩)
 | (refine And.intro (by (intros; first | (simp_all (config := { decide := false }); done) | fail)) ?_)
 | fail)
            all_goals try (exfalso; omega)
            refine ⟨⟨rows_ok l, by omega⟩, ?_⟩
            (repeat' first
 | (refine AWPC.of_vcn rfl ?_; simp only [zT, zV, zS, zU, vcC, lateX, ex, strp, cnd, binA, kseq, kblk, kret, klp, Abs.one, elems, cells, scalar, eqC, Nat.reduceBEq, Nat.reduceAdd, Nat.reduceSub, Nat.reduceLT, Nat.reduceLeDiff, Nat.reduceMul, Nat.reduceEqDiff, cond_true, cond_false, if_true, if_false, reduceIte, implies_true, forall_const, ne_eq])
 | (simp (disch := omega) only [wr64, Int.zero_sub]; try simp only [zT, zV, zS, zU, vcC, lateX, ex, strp, cnd, binA, kseq, kblk, kret, klp, Abs.one, elems, cells, scalar, eqC, Nat.reduceBEq, Nat.reduceAdd, Nat.reduceSub, Nat.reduceLT, Nat.reduceLeDiff, Nat.reduceMul, Nat.reduceEqDiff, cond_true, cond_false, if_true, if_false, reduceIte, implies_true, forall_const, ne_eq])
 | (refine AWPC.both (fun _ => ?_) (fun _ => ?_))
 | (refine AWPC.imp (fun _ => ?_))
 | ((refine .inl ⟨_, _, _, .any, rfl, fun h => absurd h Bool.false_ne_true, ?_⟩); refine owp_of_exs ?_; simp only [zT, zV, zS, zU, vcC, lateX, ex, strp, cnd, binA, kseq, kblk, kret, klp, Abs.one, elems, cells, scalar, eqC, Nat.reduceBEq, Nat.reduceAdd, Nat.reduceSub, Nat.reduceLT, Nat.reduceLeDiff, Nat.reduceMul, Nat.reduceEqDiff, cond_true, cond_false, if_true, if_false, reduceIte, implies_true, forall_const, ne_eq])
 | (refine ⟨by omega, ?_⟩)
 | (refine And.intro (by (intros; first | (simp_all (config := { decide := false }); done) | fail)) ?_)
 | fail)
            exact ⟨⟨i + 1, hlt⟩, ⟨by rw [hl2], by simp⟩, by rw [ft]; simp [spO], by simp only; omega⟩
          | some g =>
            simp only [okR] at hok
            have hgl := at_lt hok
            (repeat' first
 | (refine AWPC.of_vcn rfl ?_; simp only [zT, zV, zS, zU, vcC, lateX, ex, strp, cnd, binA, kseq, kblk, kret, klp, Abs.one, elems, cells, scalar, eqC, Nat.reduceBEq, Nat.reduceAdd, Nat.reduceSub, Nat.reduceLT, Nat.reduceLeDiff, Nat.reduceMul, Nat.reduceEqDiff, cond_true, cond_false, if_true, if_false, reduceIte, implies_true, forall_const, ne_eq, getD_map hr, avR, at_appL hgl, hok])
 | (simp (disch := omega) only [wr64, Int.zero_sub]; try simp only [zT, zV, zS, zU, vcC, lateX, ex, strp, cnd, binA, kseq, kblk, kret, klp, Abs.one, elems, cells, scalar, eqC, Nat.reduceBEq, Nat.reduceAdd, Nat.reduceSub, Nat.reduceLT, Nat.reduceLeDiff, Nat.reduceMul, Nat.reduceEqDiff, cond_true, cond_false, if_true, if_false, reduceIte, implies_true, forall_const, ne_eq, getD_map hr, avR, at_appL hgl, hok])
 | (refine AWPC.both (fun _ => ?_) (fun _ => ?_))
 | (refine AWPC.imp (fun _ => ?_))
 | ((refine .inl ⟨_, _, _, .any, rfl, fun h => absurd h Bool.false_ne_true, ?_⟩); refine owp_of_exs ?_; simp only [zT, zV, zS, zU, vcC, lateX, ex, strp, cnd, binA, kseq, kblk, kret, klp, Abs.one, elems, cells, scalar, eqC, Nat.reduceBEq, Nat.reduceAdd, Nat.reduceSub, Nat.reduceLT, Nat.reduceLeDiff, Nat.reduceMul, Nat.reduceEqDiff, cond_true, cond_false, if_true, if_false, reduceIte, implies_true, forall_const, ne_eq, getD_map hr, avR, at_appL hgl, hok])
 | (refine ⟨by omega, ?_⟩)
 | (refine And.intro (by (intros; first | (simp_all (config := { decide := false }); done) | fail)) ?_)
 | fail)
            all_goals try (exfalso; omega)
            refine ⟨⟨rows_ok l, by omega⟩, ?_⟩
            (repeat' first
 | (refine AWPC.of_vcn rfl ?_; simp only [zT, zV, zS, zU, vcC, lateX, ex, strp, cnd, binA, kseq, kblk, kret, klp, Abs.one, elems, cells, scalar, eqC, Nat.reduceBEq, Nat.reduceAdd, Nat.reduceSub, Nat.reduceLT, Nat.reduceLeDiff, Nat.reduceMul, Nat.reduceEqDiff, cond_true, cond_false, if_true, if_false, reduceIte, implies_true, forall_const, ne_eq])
 | (simp (disch := omega) only [wr64, Int.zero_sub]; try simp only [zT, zV, zS, zU, vcC, lateX, ex, strp, cnd, binA, kseq, kblk, kret, klp, Abs.one, elems, cells, scalar, eqC, Nat.reduceBEq, Nat.reduceAdd, Nat.reduceSub, Nat.reduceLT, Nat.reduceLeDiff, Nat.reduceMul, Nat.reduceEqDiff, cond_true, cond_false, if_true, if_false, reduceIte, implies_true, forall_const, ne_eq])
 | (refine AWPC.both (fun _ => ?_) (fun _ => ?_))
 | (refine AWPC.imp (fun _ => ?_))
 | ((refine .inl ⟨_, _, _, .any, rfl, fun h => absurd h Bool.false_ne_true, ?_⟩); refine owp_of_exs ?_; simp only [zT, zV, zS, zU, vcC, lateX, ex, strp, cnd, binA, kseq, kblk, kret, klp, Abs.one, elems, cells, scalar, eqC, Nat.reduceBEq, Nat.reduceAdd, Nat.reduceSub, Nat.reduceLT, Nat.reduceLeDiff, Nat.reduceMul, Nat.reduceEqDiff, cond_true, cond_false, if_true, if_false, reduceIte, implies_true, forall_const, ne_eq])
 | (refine ⟨by omega, ?_⟩)
 | (refine And.intro (by (intros; first | (simp_all (config := { decide := false }); done) | fail)) ?_)
 | fail)
            exact ⟨⟨i + 1, hlt⟩, ⟨by rw [hl2], by simp⟩, by rw [ft]; simp [spO], by simp only; omega⟩
        · obtain rfl : i = rows.length := by omega
          rw [List.take_length]
          (repeat' first
 | (refine AWPC.of_vcn rfl ?_; simp only [zT, zV, zS, zU, vcC, lateX, ex, strp, cnd, binA, kseq, kblk, kret, klp, Abs.one, elems, cells, scalar, eqC, Nat.reduceBEq, Nat.reduceAdd, Nat.reduceSub, Nat.reduceLT, Nat.reduceLeDiff, Nat.reduceMul, Nat.reduceEqDiff, cond_true, cond_false, if_true, if_false, reduceIte, implies_true, forall_const, ne_eq])
 | (simp (disch := omega) only [wr64, Int.zero_sub]; try simp only [zT, zV, zS, zU, vcC, lateX, ex, strp, cnd, binA, kseq, kblk, kret, klp, Abs.one, elems, cells, scalar, eqC, Nat.reduceBEq, Nat.reduceAdd, Nat.reduceSub, Nat.reduceLT, Nat.reduceLeDiff, Nat.reduceMul, Nat.reduceEqDiff, cond_true, cond_false, if_true, if_false, reduceIte, implies_true, forall_const, ne_eq])
 | (refine AWPC.both (fun _ => ?_) (fun _ => ?_))
 | (refine AWPC.imp (fun _ => ?_))
 | ((refine .inl ⟨_, _, _, .any, rfl, fun h => absurd h Bool.false_ne_true, ?_⟩); refine owp_of_exs ?_; simp only [zT, zV, zS, zU, vcC, lateX, ex, strp, cnd, binA, kseq, kblk, kret, klp, Abs.one, elems, cells, scalar, eqC, Nat.reduceBEq, Nat.reduceAdd, Nat.reduceSub, Nat.reduceLT, Nat.reduceLeDiff, Nat.reduceMul, Nat.reduceEqDiff, cond_true, cond_false, if_true, if_false, reduceIte, implies_true, forall_const, ne_eq])
 | (refine ⟨by omega, ?_⟩)
 | (refine And.intro (by (intros; first | (simp_all (config := { decide := false }); done) | fail)) ?_)
 | fail)
          all_goals try (exfalso; omega)
          all_goals first | rfl | exact ⟨rfl, rfl⟩

theorem clone_spec (l : List Sp) (hl : (l.length : Int) * 16 ≤ 140737488355328) : Pure Try.prog 113 [spS l] (spS l) := by
  -- by what the slice is
  have nil : Pure Try.prog 113 [.v (.slice none 0 0)] (spS []) := by
    refine Pure.of_body Try.call113 Try.func113 k113 (Nat.le_of_ble_eq_true rfl) ?_
    unfold c113
    (repeat' first
 | (refine AWPC.of_vcn rfl ?_; simp only [zT, zV, zS, zU, vcC, lateX, ex, strp, cnd, binA, kseq, kblk, kret, klp, Abs.one, elems, cells, scalar, eqC, Nat.reduceBEq, Nat.reduceAdd, Nat.reduceSub, Nat.reduceLT, Nat.reduceLeDiff, Nat.reduceMul, Nat.reduceEqDiff, cond_true, cond_false, if_true, if_false, reduceIte, implies_true, forall_const, ne_eq])
 | (simp (disch := omega) only [wr64, Int.zero_sub]; try simp only [zT, zV, zS, zU, vcC, lateX, ex, strp, cnd, binA, kseq, kblk, kret, klp, Abs.one, elems, cells, scalar, eqC, Nat.reduceBEq, Nat.reduceAdd, Nat.reduceSub, Nat.reduceLT, Nat.reduceLeDiff, Nat.reduceMul, Nat.reduceEqDiff, cond_true, cond_false, if_true, if_false, reduceIte, implies_true, forall_const, ne_eq])
 | (refine AWPC.both (fun _ => ?_) (fun _ => ?_))
 | (refine AWPC.imp (fun _ => ?_))
 | ((refine .inl ⟨_, _, _, .any, rfl, fun h => absurd h Bool.false_ne_true, ?_⟩); refine owp_of_exs ?_; simp only [zT, zV, zS, zU, vcC, lateX, ex, strp, cnd, binA, kseq, kblk, kret, klp, Abs.one, elems, cells, scalar, eqC, Nat.reduceBEq, Nat.reduceAdd, Nat.reduceSub, Nat.reduceLT, Nat.reduceLeDiff, Nat.reduceMul, Nat.reduceEqDiff, cond_true, cond_false, if_true, if_false, reduceIte, implies_true, forall_const, ne_eq])
 | (refine ⟨by omega, ?_⟩)
 | (refine And.intro (by (intros; first | (simp_all (config := { decide := false }); done) | fail)) ?_)
 | fail)
    all_goals exact Frz.nil
  have emp : ∀ a cap, Pure Try.prog 113 [.v (.slice (some a) 0 cap)] (spS []) := by
    intro a cap
    refine Pure.of_body Try.call113 Try.func113 k113 (Nat.le_of_ble_eq_true rfl) ?_
    unfold c113
    (repeat' first
 | (refine AWPC.of_vcn rfl ?_; simp only [zT, zV, zS, zU, vcC, lateX, ex, strp, cnd, binA, kseq, kblk, kret, klp, Abs.one, elems, cells, scalar, eqC, Nat.reduceBEq, Nat.reduceAdd, Nat.reduceSub, Nat.reduceLT, Nat.reduceLeDiff, Nat.reduceMul, Nat.reduceEqDiff, cond_true, cond_false, if_true, if_false, reduceIte, implies_true, forall_const, ne_eq])
 | (simp (disch := omega) only [wr64, Int.zero_sub]; try simp only [zT, zV, zS, zU, vcC, lateX, ex, strp, cnd, binA, kseq, kblk, kret, klp, Abs.one, elems, cells, scalar, eqC, Nat.reduceBEq, Nat.reduceAdd, Nat.reduceSub, Nat.reduceLT, Nat.reduceLeDiff, Nat.reduceMul, Nat.reduceEqDiff, cond_true, cond_false, if_true, if_false, reduceIte, implies_true, forall_const, ne_eq])
 | (refine AWPC.both (fun _ => ?_) (fun _ => ?_))
 | (refine AWPC.imp (fun _ => ?_))
 | ((refine .inl ⟨_, _, _, .any, rfl, fun h => absurd h Bool.false_ne_true, ?_⟩); refine owp_of_exs ?_; simp only [zT, zV, zS, zU, vcC, lateX, ex, strp, cnd, binA, kseq, kblk, kret, klp, Abs.one, elems, cells, scalar, eqC, Nat.reduceBEq, Nat.reduceAdd, Nat.reduceSub, Nat.reduceLT, Nat.reduceLeDiff, Nat.reduceMul, Nat.reduceEqDiff, cond_true, cond_false, if_true, if_false, reduceIte, implies_true, forall_const, ne_eq])
 | (refine ⟨by omega, ?_⟩)
 | (refine And.intro (by (intros; first | (simp_all (config := { decide := false }); done) | fail)) ?_)
 | fail)
    all_goals exact frz_sp' [] rfl rfl
  by_cases h0 : l = []
  · subst h0
    refine ⟨nil.ent, fun X w xs hX hxl hr => ?_⟩
    match xs, hxl with
    | [x], _ =>
      have hx := hr 0 (by simp)
      simp only [List.getD_cons_zero] at hx
      cases hx with
      | slnil => exact nil.go X w _ hX rfl (fun i hi => by obtain rfl : i = 0 := (by simpa using hi); exact .v _)
      | slemp _ a cap => exact (emp a cap).go X w _ hX rfl (fun i hi => by obtain rfl : i = 0 := (by simpa using hi); exact .v _)
      | sl _ _ b o cap x hcap hk hc hX' h1 hr' => exact (emp _ cap).go X w _ hX rfl (fun i hi => by obtain rfl : i = 0 := (by simpa using hi); exact .v _)
  · refine Pure.of_body Try.call113 Try.func113 k113 (Nat.le_of_ble_eq_true rfl) ?_
    unfold c113
    have hne : l.map Sp.cs ≠ [] := by simpa using h0
    (repeat' first
 | (refine AWPC.of_vcn rfl ?_; simp only [zT, zV, zS, zU, vcC, lateX, ex, strp, cnd, binA, kseq, kblk, kret, klp, Abs.one, elems, cells, scalar, eqC, Nat.reduceBEq, Nat.reduceAdd, Nat.reduceSub, Nat.reduceLT, Nat.reduceLeDiff, Nat.reduceMul, Nat.reduceEqDiff, cond_true, cond_false, if_true, if_false, reduceIte, implies_true, forall_const, ne_eq])
 | (simp (disch := omega) only [wr64, Int.zero_sub]; try simp only [zT, zV, zS, zU, vcC, lateX, ex, strp, cnd, binA, kseq, kblk, kret, klp, Abs.one, elems, cells, scalar, eqC, Nat.reduceBEq, Nat.reduceAdd, Nat.reduceSub, Nat.reduceLT, Nat.reduceLeDiff, Nat.reduceMul, Nat.reduceEqDiff, cond_true, cond_false, if_true, if_false, reduceIte, implies_true, forall_const, ne_eq])
 | (refine AWPC.both (fun _ => ?_) (fun _ => ?_))
 | (refine AWPC.imp (fun _ => ?_))
 | ((refine .inl ⟨_, _, _, .any, rfl, fun h => absurd h Bool.false_ne_true, ?_⟩); refine owp_of_exs ?_; simp only [zT, zV, zS, zU, vcC, lateX, ex, strp, cnd, binA, kseq, kblk, kret, klp, Abs.one, elems, cells, scalar, eqC, Nat.reduceBEq, Nat.reduceAdd, Nat.reduceSub, Nat.reduceLT, Nat.reduceLeDiff, Nat.reduceMul, Nat.reduceEqDiff, cond_true, cond_false, if_true, if_false, reduceIte, implies_true, forall_const, ne_eq])
 | (refine ⟨by omega, ?_⟩)
 | (refine And.intro (by (intros; first | (simp_all (config := { decide := false }); done) | fail)) ?_)
 | fail)
    refine ⟨⟨rows_ok l, by omega⟩, ?_⟩
    (repeat' first
 | (refine AWPC.of_vcn rfl ?_; simp only [zT, zV, zS, zU, vcC, lateX, ex, strp, cnd, binA, kseq, kblk, kret, klp, Abs.one, elems, cells, scalar, eqC, Nat.reduceBEq, Nat.reduceAdd, Nat.reduceSub, Nat.reduceLT, Nat.reduceLeDiff, Nat.reduceMul, Nat.reduceEqDiff, cond_true, cond_false, if_true, if_false, reduceIte, implies_true, forall_const, ne_eq])
 | (simp (disch := omega) only [wr64, Int.zero_sub]; try simp only [zT, zV, zS, zU, vcC, lateX, ex, strp, cnd, binA, kseq, kblk, kret, klp, Abs.one, elems, cells, scalar, eqC, Nat.reduceBEq, Nat.reduceAdd, Nat.reduceSub, Nat.reduceLT, Nat.reduceLeDiff, Nat.reduceMul, Nat.reduceEqDiff, cond_true, cond_false, if_true, if_false, reduceIte, implies_true, forall_const, ne_eq])
 | (refine AWPC.both (fun _ => ?_) (fun _ => ?_))
 | (refine AWPC.imp (fun _ => ?_))
 | ((refine .inl ⟨_, _, _, .any, rfl, fun h => absurd h Bool.false_ne_true, ?_⟩); refine owp_of_exs ?_; simp only [zT, zV, zS, zU, vcC, lateX, ex, strp, cnd, binA, kseq, kblk, kret, klp, Abs.one, elems, cells, scalar, eqC, Nat.reduceBEq, Nat.reduceAdd, Nat.reduceSub, Nat.reduceLT, Nat.reduceLeDiff, Nat.reduceMul, Nat.reduceEqDiff, cond_true, cond_false, if_true, if_false, reduceIte, implies_true, forall_const, ne_eq])
 | (refine ⟨by omega, ?_⟩)
 | (refine And.intro (by (intros; first | (simp_all (config := { decide := false }); done) | fail)) ?_)
 | fail)
    exact frz_sp' l rfl rfl

theorem upd_upd {σ : Sto} {f i : Nat} {o o' : Ob} : (σ.upd f i o).upd f i o' = σ.upd f i o' := by
  unfold Sto.upd
  cases h : σ[f]? with
  | none => simp [h]
  | some F =>
    cases F with
    | none => simp [h]
    | some F =>
      have hlt := (List.getElem?_eq_some_iff.1 h).1
      simp only [List.getElem?_set_self hlt, List.set_set]

theorem upd_len {σ : Sto} {f i : Nat} {o : Ob} : (σ.upd f i o).length = σ.length := by
  unfold Sto.upd
  split <;> simp

theorem push_bd {l : List Sp} {x : Sp} {A B : Int} (hl : ∀ s ∈ l, A ≤ s.lo ∧ s.hi ≤ B) (hx : A ≤ x.lo ∧ x.hi ≤ B) : ∀ s ∈ push l x, A ≤ s.lo ∧ s.hi ≤ B := by
  rcases List.eq_nil_or_concat l with rfl | ⟨i, s, rfl⟩
  · simpa [push_nil] using hx
  · rw [List.concat_eq_append] at hl ⊢
    rw [push_last]
    have hs := hl s (by simp)
    split
    · intro u hu
      rcases List.mem_append.1 hu with hu | hu
      · exact hl u (by simp [hu])
      · obtain rfl : u = ⟨s.lo, max s.hi x.hi⟩ := by simpa using hu
        simp only; omega
    · intro u hu
      rw [show i ++ [s, x] = (i ++ [s]) ++ [x] by simp] at hu
      rcases List.mem_append.1 hu with hu | hu
      · exact hl u hu
      · obtain rfl : u = x := by simpa using hu
        exact hx

theorem push_len (l : List Sp) (x : Sp) : (push l x).length ≤ l.length + 1 := by
  rcases List.eq_nil_or_concat l with rfl | ⟨i, s, rfl⟩
  · simp [push_nil]
  · rw [List.concat_eq_append, push_last]; split <;> simp

/-- A set in a place of an object: its spans are owned. -/
abbrev setIn (o : Ob) (e g m : Nat) (rest : List AV) : Ob := { o with es := o.es.set e (.own g 0 m :: rest) }

/-- The store while spans are added. -/
def addS (σ : Sto) (f e : Nat) (o : Ob) (rest : List AV) (l' a : List Sp) (ν : Sto) : Sto := Sto.upd σ f 0 (setIn o e (σ.length + 1) a.length rest) ++ (some [spO l'] :: some [spO a] :: ν)
/-- What is gathered up to a place. -/
def acc (l : List Sp) (i : Nat) : List Sp := (l.take i).foldl push []

theorem addS_f {σ : Sto} {f N e : Nat} {o : Ob} {rest : List AV} (l' a : List Sp) (ν : Sto) (hf : σ.at f 0 = some o) (hN : o.es.length = N) (he : e < N) :
    (addS σ f e o rest l' a ν).at f 0 = some (setIn o e (σ.length + 1) a.length rest) := by
  have hfl := at_lt hf
  unfold addS
  rw [at_appL (by rw [upd_len]; exact hfl)]; exact at_upd_same hf
theorem addS_A (σ : Sto) (f e : Nat) (o : Ob) (rest : List AV) (l' a : List Sp) (ν : Sto) : (addS σ f e o rest l' a ν).at σ.length 0 = some (spO l') := by
  unfold addS
  have := at_app0 (Sto.upd σ f 0 (setIn o e (σ.length + 1) a.length rest)) (some [spO l'] :: some [spO a] :: ν) 0
  rw [upd_len] at this; rw [this]; rfl
theorem addS_G (σ : Sto) (f e : Nat) (o : Ob) (rest : List AV) (l' a : List Sp) (ν : Sto) : (addS σ f e o rest l' a ν).at (σ.length + 1) 0 = some (spO a) := by
  unfold addS
  have := at_app (Sto.upd σ f 0 (setIn o e (σ.length + 1) a.length rest)) (some [spO l'] :: some [spO a] :: ν) 1 0
  rw [upd_len] at this; rw [this]; rfl
theorem addS_len (σ : Sto) (f e : Nat) (o : Ob) (rest : List AV) (l' a : List Sp) (ν : Sto) : List.length (addS σ f e o rest l' a ν) = σ.length + 2 + List.length ν := by
  unfold addS; simp [upd_len]; omega
theorem addS_app (σ : Sto) (f e : Nat) (o : Ob) (rest : List AV) (l' a : List Sp) (ν L : Sto) : addS σ f e o rest l' a ν ++ L = addS σ f e o rest l' a (ν ++ L) := by
  unfold addS; simp
theorem addS_updG (σ : Sto) (f e : Nat) (o : Ob) (rest : List AV) (l' a : List Sp) (ν : Sto) (b : List Sp) : (addS σ f e o rest l' a ν).upd (σ.length + 1) 0 (spO b) = Sto.upd σ f 0 (setIn o e (σ.length + 1) a.length rest) ++ (some [spO l'] :: some [spO b] :: ν) := by
  unfold addS
  have := upd_app (Sto.upd σ f 0 (setIn o e (σ.length + 1) a.length rest)) (some [spO l'] :: some [spO a] :: ν) 1 0 (spO b)
  rw [upd_len] at this; rw [this]; rfl
theorem addS_upd1 (σ : Sto) (f e : Nat) (o : Ob) (rest : List AV) (l' a : List Sp) (ν : Sto) (b : List Sp) (h : b.length = a.length) : (addS σ f e o rest l' a ν).upd (σ.length + 1) 0 (spO b) = addS σ f e o rest l' b ν := by
  rw [addS_updG]; unfold addS; rw [h]
theorem addS_upd2 {σ : Sto} {f e : Nat} (o : Ob) (rest : List AV) (l' a : List Sp) (ν : Sto) (b : List Sp) (hf : f < σ.length) :
    ((addS σ f e o rest l' a ν).upd (σ.length + 1) 0 (spO b)).upd f 0 (setIn o e (σ.length + 1) b.length rest) = addS σ f e o rest l' b ν := by
  rw [addS_updG, upd_appL (by rw [upd_len]; exact hf), upd_upd]; rfl

theorem acc_len (l : List Sp) (i : Nat) : (acc l i).length ≤ i := by
  have h : ∀ (l a : List Sp), (l.foldl push a).length ≤ a.length + l.length := by
    intro l
    induction l with
    | nil => intro a; simp
    | cons x r ih => intro a; have := ih (push a x); have := push_len a x; simp only [List.foldl_cons, List.length_cons]; omega
  have := h (l.take i) []
  have := List.length_take_le i l
  simp only [acc]
  simp only [List.length_nil] at *
  omega
theorem acc_bd {l : List Sp} {i : Nat} {A B : Int} (h : ∀ u ∈ l, A ≤ u.lo ∧ u.hi ≤ B) : ∀ u ∈ acc l i, A ≤ u.lo ∧ u.hi ≤ B := by
  have g : ∀ (l a : List Sp), (∀ u ∈ l, A ≤ u.lo ∧ u.hi ≤ B) → (∀ u ∈ a, A ≤ u.lo ∧ u.hi ≤ B) → ∀ u ∈ l.foldl push a, A ≤ u.lo ∧ u.hi ≤ B := by
    intro l
    induction l with
    | nil => intro a _ h; exact h
    | cons x r ih => intro a h1 h2; exact ih _ (fun u hu => h1 u (List.mem_cons_of_mem _ hu)) (push_bd h2 (h1 x (List.mem_cons_self ..)))
  exact g _ _ (fun u hu => h u (List.mem_of_mem_take hu)) (fun u hu => by cases hu)
theorem acc_next {l : List Sp} {i : Nat} {x : Sp} (h : l[i]? = some x) : acc l (i + 1) = push (acc l i) x := by
  have hlt := (List.getElem?_eq_some_iff.1 h).1
  have : l.take (i + 1) = l.take i ++ [x] := by rw [List.take_add_one, h]; rfl
  simp only [acc, this, List.foldl_append, List.foldl_cons, List.foldl_nil]

/-- What is true when spans have been added to a set. -/
def Added (σ : Sto) (f e : Nat) (o : Ob) (rest : List AV) (s r : List Sp) (σ' : Sto) : Prop :=
  ∃ l' ν, σ' = Sto.upd σ f 0 (setIn o e (σ.length + 1) l'.length rest) ++ (ν : Sto) ∧ σ'.at (σ.length + 1) 0 = some (spO l') ∧ Norm l' ∧ (∀ v, Mem v l' ↔ Mem v s ∨ Mem v r) ∧ l'.length ≤ s.length + r.length ∧
    ∀ u ∈ l', -1000000 ≤ u.lo ∧ u.hi ≤ 1000000

theorem add_awpc (σ : Sto) (f N e : Nat) (o : Ob) (rest : List AV) (q r : List Sp × Option Nat) (hf : σ.at f 0 = some o) (hN : o.es.length = N) (he : e < N) (hk : o.k = rest.length + 1) (hrow : o.es.getD e [] = avR q :: rest) (hlp : o.lp = none)
    (hq : okR σ q) (hr : okR σ r) (hne : ∀ u ∈ q.1 ++ r.1, u.lo ≤ u.hi ∧ -1000000 ≤ u.lo ∧ u.hi ≤ 1000000) (hlen : q.1.length + r.1.length < 1000000000) :
    AWPC Try.prog c104.N none c104.c (kret c104.rs fun _ σ' => Added σ f e o rest q.1 r.1 σ') (argE 0 [.ptr f 0 N e 0, avR r]) σ := by
  have hfl := at_lt hf
  obtain ⟨l, h⟩ := r
  obtain ⟨s, q⟩ := q
  simp only at hne hlen hrow ⊢
  have hcat := concat_does σ [(s, q), (l, h)] (by intro z hz; simp only [List.mem_cons, List.not_mem_nil, or_false] at hz; rcases hz with rfl | rfl; exact hq; exact hr) (by simp) (by simp [flat]; omega)
  simp only [List.map_cons, List.map_nil, flat, List.flatMap_cons, List.flatMap_nil, List.append_nil] at hcat
  have hsort := sort_does (σ ++ [some [spO (s ++ l)]]) σ.length (s ++ l) (by simp [Sto.at]) (by simp; omega) (fun u hu => by have := hne u hu; omega)
  rw [List.length_append] at hsort
  unfold c104
  cases h <;> cases q
  all_goals
    simp only [avR] at hcat hrow ⊢
    (repeat' first
 | (refine AWPC.of_vcn rfl ?_; simp only [zT, zV, zS, zU, vcC, lateX, ex, strp, cnd, binA, kseq, kblk, kret, klp, Abs.one, elems, cells, scalar, eqC, Nat.reduceBEq, Nat.reduceAdd, Nat.reduceSub, Nat.reduceLT, Nat.reduceLeDiff, Nat.reduceMul, Nat.reduceEqDiff, cond_true, cond_false, if_true, if_false, reduceIte, implies_true, forall_const, ne_eq, hf, hrow, hN])
 | (simp (disch := omega) only [wr64, Int.zero_sub]; try simp only [zT, zV, zS, zU, vcC, lateX, ex, strp, cnd, binA, kseq, kblk, kret, klp, Abs.one, elems, cells, scalar, eqC, Nat.reduceBEq, Nat.reduceAdd, Nat.reduceSub, Nat.reduceLT, Nat.reduceLeDiff, Nat.reduceMul, Nat.reduceEqDiff, cond_true, cond_false, if_true, if_false, reduceIte, implies_true, forall_const, ne_eq, hf, hrow, hN])
 | (refine AWPC.both (fun _ => ?_) (fun _ => ?_))
 | (refine AWPC.imp (fun _ => ?_))
 | ((refine .inl ⟨_, _, _, .any, rfl, fun h => absurd h Bool.false_ne_true, ?_⟩); refine owp_of_exs ?_; simp only [zT, zV, zS, zU, vcC, lateX, ex, strp, cnd, binA, kseq, kblk, kret, klp, Abs.one, elems, cells, scalar, eqC, Nat.reduceBEq, Nat.reduceAdd, Nat.reduceSub, Nat.reduceLT, Nat.reduceLeDiff, Nat.reduceMul, Nat.reduceEqDiff, cond_true, cond_false, if_true, if_false, reduceIte, implies_true, forall_const, ne_eq, hf, hrow, hN])
 | (refine ⟨by omega, ?_⟩)
 | (refine And.intro (by (intros; first | (simp_all (config := { decide := false }); done) | fail)) ?_)
 | fail)
    refine .inr (.inl ⟨_, _, _, _, rfl, fun _ => ⟨hcat, ?_⟩, fun h => by cases h⟩)
    rintro res σ' ⟨rfl, rfl⟩
    refine owp_of_exs ?_
    simp only [zT, zV, zS, zU, vcC, lateX, ex, strp, cnd, binA, kseq, kblk, kret, klp, Abs.one, elems, cells, scalar, eqC, Nat.reduceBEq, Nat.reduceAdd, Nat.reduceSub, Nat.reduceLT, Nat.reduceLeDiff, Nat.reduceMul, Nat.reduceEqDiff, cond_true, cond_false, if_true, if_false, reduceIte, implies_true, forall_const, ne_eq]
    (repeat' first
 | (refine AWPC.of_vcn rfl ?_; simp only [zT, zV, zS, zU, vcC, lateX, ex, strp, cnd, binA, kseq, kblk, kret, klp, Abs.one, elems, cells, scalar, eqC, Nat.reduceBEq, Nat.reduceAdd, Nat.reduceSub, Nat.reduceLT, Nat.reduceLeDiff, Nat.reduceMul, Nat.reduceEqDiff, cond_true, cond_false, if_true, if_false, reduceIte, implies_true, forall_const, ne_eq])
 | (simp (disch := omega) only [wr64, Int.zero_sub]; try simp only [zT, zV, zS, zU, vcC, lateX, ex, strp, cnd, binA, kseq, kblk, kret, klp, Abs.one, elems, cells, scalar, eqC, Nat.reduceBEq, Nat.reduceAdd, Nat.reduceSub, Nat.reduceLT, Nat.reduceLeDiff, Nat.reduceMul, Nat.reduceEqDiff, cond_true, cond_false, if_true, if_false, reduceIte, implies_true, forall_const, ne_eq])
 | (refine AWPC.both (fun _ => ?_) (fun _ => ?_))
 | (refine AWPC.imp (fun _ => ?_))
 | ((refine .inl ⟨_, _, _, .any, rfl, fun h => absurd h Bool.false_ne_true, ?_⟩); refine owp_of_exs ?_; simp only [zT, zV, zS, zU, vcC, lateX, ex, strp, cnd, binA, kseq, kblk, kret, klp, Abs.one, elems, cells, scalar, eqC, Nat.reduceBEq, Nat.reduceAdd, Nat.reduceSub, Nat.reduceLT, Nat.reduceLeDiff, Nat.reduceMul, Nat.reduceEqDiff, cond_true, cond_false, if_true, if_false, reduceIte, implies_true, forall_const, ne_eq])
 | (refine ⟨by omega, ?_⟩)
 | (refine And.intro (by (intros; first | (simp_all (config := { decide := false }); done) | fail)) ?_)
 | fail)
    refine .inr (.inl ⟨_, _, _, _, rfl, fun _ => ⟨hsort, ?_⟩, fun h => by cases h⟩)
    rintro res σ' ⟨l', hperm, hsorted, rfl⟩
    refine owp_of_exs ?_
    simp only [zT, zV, zS, zU, vcC, lateX, ex, strp, cnd, binA, kseq, kblk, kret, klp, Abs.one, elems, cells, scalar, eqC, Nat.reduceBEq, Nat.reduceAdd, Nat.reduceSub, Nat.reduceLT, Nat.reduceLeDiff, Nat.reduceMul, Nat.reduceEqDiff, cond_true, cond_false, if_true, if_false, reduceIte, implies_true, forall_const, ne_eq]
    have hl' : l'.length = s.length + l.length := by rw [hperm.length_eq, List.length_append]
    have A0 : ∀ q (L : Sto), Sto.at (Sto.upd σ f 0 q ++ L) σ.length 0 = Sto.at L 0 0 := fun q L => by
      have := at_app0 (Sto.upd σ f 0 q) L 0
      rwa [upd_len] at this
    (repeat' first
 | (refine AWPC.of_vcn rfl ?_; simp only [zT, zV, zS, zU, vcC, lateX, ex, strp, cnd, binA, kseq, kblk, kret, klp, Abs.one, elems, cells, scalar, eqC, Nat.reduceBEq, Nat.reduceAdd, Nat.reduceSub, Nat.reduceLT, Nat.reduceLeDiff, Nat.reduceMul, Nat.reduceEqDiff, cond_true, cond_false, if_true, if_false, reduceIte, implies_true, forall_const, ne_eq, at_appL hfl, upd_appL hfl, hf, hN, hrow, A0])
 | (simp (disch := omega) only [wr64, Int.zero_sub]; try simp only [zT, zV, zS, zU, vcC, lateX, ex, strp, cnd, binA, kseq, kblk, kret, klp, Abs.one, elems, cells, scalar, eqC, Nat.reduceBEq, Nat.reduceAdd, Nat.reduceSub, Nat.reduceLT, Nat.reduceLeDiff, Nat.reduceMul, Nat.reduceEqDiff, cond_true, cond_false, if_true, if_false, reduceIte, implies_true, forall_const, ne_eq, at_appL hfl, upd_appL hfl, hf, hN, hrow, A0])
 | (refine AWPC.both (fun _ => ?_) (fun _ => ?_))
 | (refine AWPC.imp (fun _ => ?_))
 | ((refine .inl ⟨_, _, _, .any, rfl, fun h => absurd h Bool.false_ne_true, ?_⟩); refine owp_of_exs ?_; simp only [zT, zV, zS, zU, vcC, lateX, ex, strp, cnd, binA, kseq, kblk, kret, klp, Abs.one, elems, cells, scalar, eqC, Nat.reduceBEq, Nat.reduceAdd, Nat.reduceSub, Nat.reduceLT, Nat.reduceLeDiff, Nat.reduceMul, Nat.reduceEqDiff, cond_true, cond_false, if_true, if_false, reduceIte, implies_true, forall_const, ne_eq, at_appL hfl, upd_appL hfl, hf, hN, hrow, A0])
 | (refine ⟨by omega, ?_⟩)
 | (refine And.intro (by (intros; first | (simp_all (config := { decide := false }); done) | fail)) ?_)
 | fail)
    rw [← hl']
    generalize hPost : Added σ f e o rest s l = Post
    refine AWPC.own0c 23 2 (f := f) (i := 0) (e := e) (j := 0) (o := { o with es := o.es.set e (.v (.slice none 0 0) :: rest) }) ?_ ?_ ?_ ?_
    · rw [at_appL (by rw [upd_len]; exact hfl)]; exact at_upd_same hf
    · simp only [List.length_set, hN]; exact he
    · simp only [List.getD_eq_getElem?_getD, List.getElem?_set_self (by rw [hN]; exact he : e < o.es.length)]; rfl
    refine AWPC.loopE (α := { p : Nat × Sto // p.1 ≤ l'.length }) [22] (fun p => [(22, n p.1.1)]) (fun p => addS σ f e o rest l' (acc l' p.1.1) p.1.2) (fun p => l'.length - p.1.1) ⟨(0, []), Nat.zero_le _⟩ ?_ ?_ ?_
    · (simp only [zT, zV, zS, zU, vcC, lateX, ex, strp, cnd, binA, kseq, kblk, kret, klp, Abs.one, elems, cells, scalar, eqC, Nat.reduceBEq, Nat.reduceAdd, Nat.reduceSub, Nat.reduceLT, Nat.reduceLeDiff, Nat.reduceMul, Nat.reduceEqDiff, cond_true, cond_false, if_true, if_false, reduceIte, implies_true, forall_const, ne_eq]; try simp)
    · simp only [addS, acc, List.take_zero, List.foldl_nil]
      rw [List.append_assoc, upd_appL (by rw [upd_len]; exact hfl), upd_upd]
      simp [upd_len, setIn, spO, hN, he, List.getD_eq_getElem?_getD, List.getElem?_set_self (by rw [hN]; exact he : e < o.es.length)]
    rintro ⟨⟨i, ν⟩, hi⟩
    simp only at hi
    simp only
    have hF := addS_f (rest := rest) l' (acc l' i) ν hf hN he
    have hA := addS_A σ f e o rest l' (acc l' i) ν
    have hG := addS_G σ f e o rest l' (acc l' i) ν
    have hSl := addS_len σ f e o rest l' (acc l' i) ν
    have hup := addS_updG σ f e o rest l' (acc l' i) ν
    have hu1 := addS_upd1 σ f e o rest l' (acc l' i) ν
    have hu2 := fun b => addS_upd2 o rest l' (acc l' i) ν (f := f) (e := e) b hfl
    have happ := addS_app σ f e o rest l' (acc l' i) ν
    have hcl : (acc l' i).length ≤ i := acc_len l' i
    have hbd := acc_bd (l := l') (i := i) (A := -1000000) (B := 1000000) (fun u hu => (hne u (hperm.mem_iff.1 hu)).2)
    have hrow' : ∀ X, (o.es.set e X).getD e [] = X := fun X => by simp [List.getD_eq_getElem?_getD, List.getElem?_set_self (by rw [hN]; exact he : e < o.es.length)]
    have hnn : ∀ u ∈ acc l' i, u.lo ≤ u.hi := (merged_spec (l'.take i) [] trivial (fun u hu => (hne u (hperm.mem_iff.1 (List.mem_of_mem_take hu))).1) (fun _ h => by cases h) (hsorted.sublist (List.take_sublist ..))).1.ne
    by_cases hlt : i < l'.length
    · obtain ⟨x, hx⟩ : ∃ x, l'[i]? = some x := ⟨_, List.getElem?_eq_getElem hlt⟩
      have hxb := hne x (hperm.mem_iff.1 (List.mem_of_getElem? hx))
      have hxg : (l'.map Sp.cs).getD i [] = x.cs := by simp [List.getD_eq_getElem?_getD, hx]
      have hnext := acc_next hx
      generalize acc l' i = a at *
      generalize hSd : addS σ f e o rest l' a ν = S at *
      have hfS := at_lt hF
      have hAS := at_lt hA
      have hGS := at_lt hG
      have hX1 : ∀ q L, (S.upd (σ.length + 1) 0 q ++ L).at f 0 = S.at f 0 := fun q L => by rw [at_appL (by rw [upd_len]; exact hfS), at_upd_other (.inl (by omega))]
      have hX2 : ∀ q L q', (S.upd (σ.length + 1) 0 q ++ L).upd f 0 q' = (S.upd (σ.length + 1) 0 q).upd f 0 q' ++ L := fun q L q' => by rw [upd_appL (by rw [upd_len]; exact hfS)]
      rcases List.eq_nil_or_concat a with h0 | ⟨a0, y, h0⟩
      · subst h0
        (repeat' first
 | (refine AWPC.of_vcn rfl ?_; simp only [zT, zV, zS, zU, vcC, lateX, ex, strp, cnd, binA, kseq, kblk, kret, klp, Abs.one, elems, cells, scalar, eqC, Nat.reduceBEq, Nat.reduceAdd, Nat.reduceSub, Nat.reduceLT, Nat.reduceLeDiff, Nat.reduceMul, Nat.reduceEqDiff, cond_true, cond_false, if_true, if_false, reduceIte, implies_true, forall_const, ne_eq, hF, hA, hG, hX1, hX2, upd_appL hGS, at_appL hfS, at_appL hAS, at_appL hGS, hN, hk, List.length_set, hrow', hxg])
 | (simp (disch := omega) only [wr64, Int.zero_sub]; try simp only [zT, zV, zS, zU, vcC, lateX, ex, strp, cnd, binA, kseq, kblk, kret, klp, Abs.one, elems, cells, scalar, eqC, Nat.reduceBEq, Nat.reduceAdd, Nat.reduceSub, Nat.reduceLT, Nat.reduceLeDiff, Nat.reduceMul, Nat.reduceEqDiff, cond_true, cond_false, if_true, if_false, reduceIte, implies_true, forall_const, ne_eq, hF, hA, hG, hX1, hX2, upd_appL hGS, at_appL hfS, at_appL hAS, at_appL hGS, hN, hk, List.length_set, hrow', hxg])
 | (refine AWPC.both (fun _ => ?_) (fun _ => ?_))
 | (refine AWPC.imp (fun _ => ?_))
 | ((refine .inl ⟨_, _, _, .any, rfl, fun h => absurd h Bool.false_ne_true, ?_⟩); refine owp_of_exs ?_; simp only [zT, zV, zS, zU, vcC, lateX, ex, strp, cnd, binA, kseq, kblk, kret, klp, Abs.one, elems, cells, scalar, eqC, Nat.reduceBEq, Nat.reduceAdd, Nat.reduceSub, Nat.reduceLT, Nat.reduceLeDiff, Nat.reduceMul, Nat.reduceEqDiff, cond_true, cond_false, if_true, if_false, reduceIte, implies_true, forall_const, ne_eq, hF, hA, hG, hX1, hX2, upd_appL hGS, at_appL hfS, at_appL hAS, at_appL hGS, hN, hk, List.length_set, hrow', hxg])
 | (refine ⟨by omega, ?_⟩)
 | (refine And.intro (by (intros; first | (simp_all (config := { decide := false }); done) | fail)) ?_)
 | fail)
        all_goals try (exfalso; omega)
        refine ⟨⟨(i + 1, ν ++ [some [⟨23, 2, [x.cs], none⟩]]), hlt⟩, rfl, ?_, by simp only; omega⟩
        have hq := hu2 [x]
        simp only
        rw [hnext, push_nil, ← addS_app, ← hq]
        simp [setIn, spO, List.set_set, hk]
      · rw [List.concat_eq_append] at h0
        subst h0
        have hys := hbd y (by simp)
        have hyn := hnn y (by simp)
        have hlen : (a0 ++ [y]).length = a0.length + 1 := by simp
        have hmap : (a0 ++ [y]).map Sp.cs = a0.map Sp.cs ++ [y.cs] := by simp
        have e1 : spO (a0 ++ [⟨y.lo, max y.hi x.hi⟩]) = ⟨23, 2, a0.map Sp.cs ++ [[n y.lo, n (max y.hi x.hi)]], none⟩ := by simp [spO]
        have e2 : spO (a0 ++ [y, x]) = ⟨23, 2, a0.map Sp.cs ++ [y.cs, x.cs], none⟩ := by simp [spO]
        rw [hlen] at hcl hF
        have hw : IntKind.i64.wrap (((a0.length + 1 : Nat) : Int) - 1) = (a0.length : Int) := by rw [wr64 _ (by omega) (by omega)]; omega
        have hget : (a0.map Sp.cs ++ [y.cs]).getD a0.length [] = y.cs := by simp [List.getD_eq_getElem?_getD]
        have hset : ∀ X : List AV, (a0.map Sp.cs ++ [y.cs]).set a0.length X = a0.map Sp.cs ++ [X] := fun X => by
          rw [List.set_append_right _ _ (by simp)]; simp
        unfold spO at hG
        rw [hmap] at hG
        (repeat' first
 | (refine AWPC.of_vcn rfl ?_; simp only [zT, zV, zS, zU, vcC, lateX, ex, strp, cnd, binA, kseq, kblk, kret, klp, Abs.one, elems, cells, scalar, eqC, Nat.reduceBEq, Nat.reduceAdd, Nat.reduceSub, Nat.reduceLT, Nat.reduceLeDiff, Nat.reduceMul, Nat.reduceEqDiff, cond_true, cond_false, if_true, if_false, reduceIte, implies_true, forall_const, ne_eq, hF, hA, hG, hX1, hX2, hlen, hmap, hw, hget, hset, upd_appL hGS, at_appL hfS, at_appL hAS, at_appL hGS, hN, hk, List.length_set, hrow', hxg])
 | (simp (disch := omega) only [wr64, Int.zero_sub]; try simp only [zT, zV, zS, zU, vcC, lateX, ex, strp, cnd, binA, kseq, kblk, kret, klp, Abs.one, elems, cells, scalar, eqC, Nat.reduceBEq, Nat.reduceAdd, Nat.reduceSub, Nat.reduceLT, Nat.reduceLeDiff, Nat.reduceMul, Nat.reduceEqDiff, cond_true, cond_false, if_true, if_false, reduceIte, implies_true, forall_const, ne_eq, hF, hA, hG, hX1, hX2, hlen, hmap, hw, hget, hset, upd_appL hGS, at_appL hfS, at_appL hAS, at_appL hGS, hN, hk, List.length_set, hrow', hxg])
 | (refine AWPC.both (fun _ => ?_) (fun _ => ?_))
 | (refine AWPC.imp (fun _ => ?_))
 | ((refine .inl ⟨_, _, _, .any, rfl, fun h => absurd h Bool.false_ne_true, ?_⟩); refine owp_of_exs ?_; simp only [zT, zV, zS, zU, vcC, lateX, ex, strp, cnd, binA, kseq, kblk, kret, klp, Abs.one, elems, cells, scalar, eqC, Nat.reduceBEq, Nat.reduceAdd, Nat.reduceSub, Nat.reduceLT, Nat.reduceLeDiff, Nat.reduceMul, Nat.reduceEqDiff, cond_true, cond_false, if_true, if_false, reduceIte, implies_true, forall_const, ne_eq, hF, hA, hG, hX1, hX2, hlen, hmap, hw, hget, hset, upd_appL hGS, at_appL hfS, at_appL hAS, at_appL hGS, hN, hk, List.length_set, hrow', hxg])
 | (refine ⟨by omega, ?_⟩)
 | (refine And.intro (by (intros; first | (simp_all (config := { decide := false }); done) | fail)) ?_)
 | fail)
        all_goals try (exfalso; omega)
        all_goals refine ⟨⟨(i + 1, ν ++ [some [⟨23, 2, [x.cs], none⟩]]), hlt⟩, rfl, ?_, by simp only; omega⟩
        all_goals simp only
        · rw [hnext, push_last, if_pos (by omega), ← addS_app, ← hu1 _ (by simp), e1]
        · rw [hnext, push_last, if_neg (by omega), ← addS_app, ← hu2, e2]
          simp [setIn, List.set_set, hk]
    · obtain rfl : i = l'.length := by omega
      obtain ⟨m1, m2⟩ := merged_spec l' [] trivial (fun u hu => (hne u (hperm.mem_iff.1 hu)).1) (fun _ h => by cases h) hsorted
      have hfin : Added σ f e o rest s l (addS σ f e o rest l' (acc l' l'.length) ν) := by
        refine ⟨acc l' l'.length, _, rfl, hG, ?_, ?_, by omega, hbd⟩
        · simp only [acc, List.take_length]; exact m1
        · intro v
          simp only [acc, List.take_length]
          rw [m2]
          simp only [Mem, hperm.mem_iff, List.mem_append]
          constructor
          · rintro (⟨u, hu, _⟩ | ⟨u, hu | hu, h⟩)
            · cases hu
            · exact .inl ⟨u, hu, h⟩
            · exact .inr ⟨u, hu, h⟩
          · rintro (⟨u, hu, h⟩ | ⟨u, hu, h⟩)
            · exact .inr ⟨u, .inl hu, h⟩
            · exact .inr ⟨u, .inr hu, h⟩
      generalize hSd : addS σ f e o rest l' (acc l' l'.length) ν = S at *
      have hAS := at_lt hA
      (repeat' first
 | (refine AWPC.of_vcn rfl ?_; simp only [zT, zV, zS, zU, vcC, lateX, ex, strp, cnd, binA, kseq, kblk, kret, klp, Abs.one, elems, cells, scalar, eqC, Nat.reduceBEq, Nat.reduceAdd, Nat.reduceSub, Nat.reduceLT, Nat.reduceLeDiff, Nat.reduceMul, Nat.reduceEqDiff, cond_true, cond_false, if_true, if_false, reduceIte, implies_true, forall_const, ne_eq])
 | (simp (disch := omega) only [wr64, Int.zero_sub]; try simp only [zT, zV, zS, zU, vcC, lateX, ex, strp, cnd, binA, kseq, kblk, kret, klp, Abs.one, elems, cells, scalar, eqC, Nat.reduceBEq, Nat.reduceAdd, Nat.reduceSub, Nat.reduceLT, Nat.reduceLeDiff, Nat.reduceMul, Nat.reduceEqDiff, cond_true, cond_false, if_true, if_false, reduceIte, implies_true, forall_const, ne_eq])
 | (refine AWPC.both (fun _ => ?_) (fun _ => ?_))
 | (refine AWPC.imp (fun _ => ?_))
 | ((refine .inl ⟨_, _, _, .any, rfl, fun h => absurd h Bool.false_ne_true, ?_⟩); refine owp_of_exs ?_; simp only [zT, zV, zS, zU, vcC, lateX, ex, strp, cnd, binA, kseq, kblk, kret, klp, Abs.one, elems, cells, scalar, eqC, Nat.reduceBEq, Nat.reduceAdd, Nat.reduceSub, Nat.reduceLT, Nat.reduceLeDiff, Nat.reduceMul, Nat.reduceEqDiff, cond_true, cond_false, if_true, if_false, reduceIte, implies_true, forall_const, ne_eq])
 | (refine ⟨by omega, ?_⟩)
 | (refine And.intro (by (intros; first | (simp_all (config := { decide := false }); done) | fail)) ?_)
 | fail)
      all_goals try (exfalso; omega)
      exact hPost ▸ hfin

theorem add_does (σ : Sto) (f N e : Nat) (o : Ob) (rest : List AV) (q r : List Sp × Option Nat) (hf : σ.at f 0 = some o) (hN : o.es.length = N) (he : e < N) (hk : o.k = rest.length + 1) (hrow : o.es.getD e [] = avR q :: rest) (hlp : o.lp = none)
    (hq : okR σ q) (hr : okR σ r) (hne : ∀ u ∈ q.1 ++ r.1, u.lo ≤ u.hi ∧ -1000000 ≤ u.lo ∧ u.hi ≤ 1000000) (hlen : q.1.length + r.1.length < 1000000000) :
    Does Try.prog 104 [.ptr f 0 N e 0, avR r] σ (fun _ σ' => Added σ f e o rest q.1 r.1 σ') :=
  Does.of_body Try.call104 Try.func104 k104 (Nat.le_of_ble_eq_true rfl) (add_awpc σ f N e o rest q r hf hN he hk hrow hlp hq hr hne hlen)
end Go.Proofs.Ytgpdckmbojmlpaa

