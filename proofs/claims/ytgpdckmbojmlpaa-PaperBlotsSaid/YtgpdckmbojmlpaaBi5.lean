/- Part 5 of the texts that the claim rests on: abstract values over the walk, and contracts of functions. -/
import Derived.Test.YtgpdckmbojmlpaaBi4
import Derived.Test.YtgpdckmbojmlpaaRows
namespace Go.Proofs.Ytgpdckmbojmlpaa
open Go.Abs
set_option linter.unusedVariables false
set_option linter.unusedSimpArgs false
set_option maxHeartbeats 4000000
set_option maxRecDepth 100000
-- slices.Concat[[]aneroid/api.Span,aneroid/api.Span]
def c119 : CF := ⟨36,
 (.seq (.ops [
 ⟨(some 2), .mv (.c (.slice none 0 0)), none⟩] [0])
 (.seq (.ops [
 ⟨(some 3), .mv (.c (.int .i64 0)), none⟩] [0, 3])
 (.seq (.seq (.ops [
 ⟨(some 9), .mv (.t 0), none⟩,
 ⟨(some 10), .len (.t 9), none⟩,
 ⟨(some 11), .mv (.c (.int .i64 0)), none⟩] [0, 3, 9, 10, 11])
 (.block 0 (.loop (.seq (.ops [
 ⟨(some 12), .bin .lss (.t 11) (.t 10), none⟩] [0, 3, 9, 10, 11, 12])
 (.seq (.cond (.t 12) .skip
 (.exit 0))
 (.seq (.block 1 (.seq (.ops [
 ⟨(some 13), .iaddr 1 (.t 9) (.t 11), none⟩,
 ⟨(some 14), .load none (.t 13), none⟩,
 ⟨(some 5), .mv (.t 14), none⟩] [0, 3, 5, 9, 10, 11])
 (.seq (.ops [
 ⟨(some 15), .mv (.t 3), none⟩,
 ⟨(some 16), .mv (.t 5), none⟩,
 ⟨(some 17), .len (.t 16), none⟩,
 ⟨(some 18), .bin .add (.t 15) (.t 17), none⟩,
 ⟨(some 3), .mv (.t 18), none⟩] [0, 3, 9, 10, 11])
 (.seq (.ops [
 ⟨(some 19), .mv (.t 3), none⟩,
 ⟨(some 20), .bin .lss (.t 19) (.c (.int .i64 0)), none⟩] [0, 3, 9, 10, 11, 20])
 (.cond (.t 20) (.ops [
 ⟨(some 21), .ifc 9 (.c (.string ⟨#[108, 101, 110, 32, 111, 117, 116, 32, 111, 102, 32, 114, 97, 110, 103, 101]⟩)), none⟩,
 ⟨none, .bad, none⟩] [0, 3, 9, 10, 11])
 .skip)))))
 (.ops [
 ⟨(some 22), .bin .add (.t 11) (.c (.int .i64 1)), none⟩,
 ⟨(some 11), .mv (.t 22), none⟩] [0, 3, 9, 10, 11])))))))
 (.seq (.ops [
 ⟨(some 23), .mv (.t 3), none⟩,
 ⟨(some 24), .call (.f 131) [(.c (.slice none 0 0)), (.t 23)], none⟩,
 ⟨(some 6), .mv (.t 24), none⟩] [0, 6])
 (.seq (.seq (.ops [
 ⟨(some 25), .mv (.t 0), none⟩,
 ⟨(some 26), .len (.t 25), none⟩,
 ⟨(some 27), .mv (.c (.int .i64 0)), none⟩] [6, 25, 26, 27])
 (.block 2 (.loop (.seq (.ops [
 ⟨(some 28), .bin .lss (.t 27) (.t 26), none⟩] [6, 25, 26, 27, 28])
 (.seq (.cond (.t 28) .skip
 (.exit 2))
 (.seq (.block 3 (.seq (.ops [
 ⟨(some 29), .iaddr 1 (.t 25) (.t 27), none⟩,
 ⟨(some 30), .load none (.t 29), none⟩,
 ⟨(some 8), .mv (.t 30), none⟩] [6, 8, 25, 26, 27])
 (.ops [
 ⟨(some 31), .mv (.t 6), none⟩,
 ⟨(some 32), .mv (.t 8), none⟩,
 ⟨(some 33), .app 23 2 16 (.t 31) (.t 32), none⟩,
 ⟨(some 6), .mv (.t 33), none⟩] [6, 25, 26, 27])))
 (.ops [
 ⟨(some 34), .bin .add (.t 27) (.c (.int .i64 1)), none⟩,
 ⟨(some 27), .mv (.t 34), none⟩] [6, 25, 26, 27])))))))
 (.seq (.ops [
 ⟨(some 35), .mv (.t 6), none⟩,
 ⟨(some 2), .mv (.t 35), none⟩] [2])
 .ret)))))),
 [.t 2]⟩
-- slices.Clone[[]aneroid/api.Span,aneroid/api.Span]
-- (*aneroid/paper.set).add
def c104 : CF := ⟨79,
 (.seq (.ops [
 ⟨(some 8), .mv (.t 0), none⟩,
 ⟨(some 9), .nilc (.t 8), none⟩,
 ⟨(some 10), .faddr 0 (.t 9), none⟩,
 ⟨(some 11), .load none (.t 10), none⟩,
 ⟨(some 12), .mv (.t 1), none⟩,
 ⟨(some 13), .bsl false 34 1 2 [.slice none 0 0, .slice none 0 0] [(0, 1, (.t 11)), (1, 1, (.t 12))], none⟩,
 ⟨(some 14), .call (.f 119) [(.t 13)], none⟩,
 ⟨(some 4), .mv (.t 14), none⟩] [0, 4])
 (.seq (.ops [
 ⟨(some 15), .mv (.t 4), none⟩,
 ⟨(some 16), .call (.f 127) [(.t 15), (.f 128)], none⟩] [0, 4])
 (.seq (.ops [
 ⟨(some 17), .mv (.t 0), none⟩,
 ⟨(some 18), .nilc (.t 17), none⟩,
 ⟨(some 19), .faddr 0 (.t 18), none⟩,
 ⟨none, .store 1 (.t 19) (.c (.slice none 0 0)), none⟩] [0, 4])
 (.seq (.ops [
 ⟨(some 20), .mv (.t 4), none⟩,
 ⟨(some 21), .len (.t 20), none⟩,
 ⟨(some 22), .mv (.c (.int .i64 0)), none⟩] [0, 20, 21, 22])
 (.block 0 (.loop (.seq (.ops [
 ⟨(some 23), .bin .lss (.t 22) (.t 21), none⟩] [0, 20, 21, 22, 23])
 (.seq (.cond (.t 23) .skip
 (.exit 0))
 (.seq (.block 1 (.seq (.ops [
 ⟨(some 24), .iaddr 2 (.t 20) (.t 22), none⟩,
 ⟨(some 25), .load (some 2) (.t 24), none⟩,
 ⟨(some 6), .alloc 23 2 [.int .i64 0, .int .i64 0], none⟩,
 ⟨none, .store 2 (.t 6) (.t 25), none⟩] [0, 6, 20, 21, 22])
 (.seq (.ops [
 ⟨(some 26), .mv (.t 0), none⟩,
 ⟨(some 27), .nilc (.t 26), none⟩,
 ⟨(some 28), .faddr 0 (.t 27), none⟩,
 ⟨(some 29), .load none (.t 28), none⟩,
 ⟨(some 30), .len (.t 29), none⟩,
 ⟨(some 7), .mv (.t 30), none⟩] [0, 6, 7, 20, 21, 22])
 (.seq (.seq (.draw [
 ⟨(some 31), .mv (.t 7), none⟩,
 ⟨(some 32), .bin .gtr (.t 31) (.c (.int .i64 0)), none⟩,
 ⟨(some 33), .mv (.t 32), none⟩,
 ⟨(some 34), .faddr 0 (.t 6), (some (33, true))⟩,
 ⟨(some 35), .load none (.t 34), (some (33, true))⟩,
 ⟨(some 36), .mv (.t 0), (some (33, true))⟩,
 ⟨(some 37), .nilc (.t 36), (some (33, true))⟩,
 ⟨(some 38), .faddr 0 (.t 37), (some (33, true))⟩,
 ⟨(some 39), .load none (.t 38), (some (33, true))⟩,
 ⟨(some 40), .mv (.t 7), (some (33, true))⟩,
 ⟨(some 41), .bin .sub (.t 40) (.c (.int .i64 1)), (some (33, true))⟩,
 ⟨(some 42), .iaddr 2 (.t 39) (.t 41), (some (33, true))⟩,
 ⟨(some 43), .faddr 1 (.t 42), (some (33, true))⟩,
 ⟨(some 44), .load none (.t 43), (some (33, true))⟩,
 ⟨(some 45), .bin .add (.t 44) (.c (.int .i64 1)), (some (33, true))⟩,
 ⟨(some 46), .bin .leq (.t 35) (.t 45), (some (33, true))⟩,
 ⟨(some 47), .pick (.t 33) (.t 46) (.c (.bool false)), none⟩] [
 ] [0, 6, 7, 20, 21, 22, 47])
 (.cond (.t 47) (.seq (.draw [
 ⟨(some 48), .mv (.t 0), none⟩,
 ⟨(some 49), .nilc (.t 48), none⟩,
 ⟨(some 50), .faddr 0 (.t 49), none⟩,
 ⟨(some 51), .load none (.t 50), none⟩,
 ⟨(some 52), .mv (.t 7), none⟩,
 ⟨(some 53), .bin .sub (.t 52) (.c (.int .i64 1)), none⟩,
 ⟨(some 54), .mv (.t 0), none⟩,
 ⟨(some 55), .nilc (.t 54), none⟩,
 ⟨(some 56), .faddr 0 (.t 55), none⟩,
 ⟨(some 57), .load none (.t 56), none⟩,
 ⟨(some 58), .mv (.t 7), none⟩,
 ⟨(some 59), .bin .sub (.t 58) (.c (.int .i64 1)), none⟩,
 ⟨(some 60), .iaddr 2 (.t 57) (.t 59), none⟩,
 ⟨(some 61), .faddr 1 (.t 60), none⟩,
 ⟨(some 62), .load none (.t 61), none⟩,
 ⟨(some 63), .faddr 1 (.t 6), none⟩,
 ⟨(some 64), .load none (.t 63), none⟩,
 ⟨(some 65), .mnx true (.t 62) (.t 64), none⟩,
 ⟨(some 66), .iaddr 2 (.t 51) (.t 53), none⟩,
 ⟨(some 67), .faddr 1 (.t 66), none⟩] [
 ⟨none, .store 1 (.t 67) (.t 65), none⟩] [0, 20, 21, 22])
 (.exit 1))
 .skip))
 (.drawl 0 [
 ⟨(some 68), .mv (.t 0), none⟩,
 ⟨(some 69), .mv (.t 0), none⟩,
 ⟨(some 70), .nilc (.t 69), none⟩,
 ⟨(some 71), .faddr 0 (.t 70), none⟩,
 ⟨(some 72), .load none (.t 71), none⟩,
 ⟨(some 73), .load (some 2) (.t 6), none⟩,
 ⟨(some 74), .bsl false 23 2 1 [.int .i64 0, .int .i64 0] [(0, 2, (.t 73))], none⟩] [
 ⟨(some 75), .app 23 2 16 (.t 72) (.t 74), none⟩,
 ⟨(some 76), .nilc (.t 68), none⟩,
 ⟨(some 77), .faddr 0 (.t 76), none⟩,
 ⟨none, .store 1 (.t 77) (.t 75), none⟩] [0, 20, 21, 22])))))
 (.ops [
 ⟨(some 78), .bin .add (.t 22) (.c (.int .i64 1)), none⟩,
 ⟨(some 22), .mv (.t 78), none⟩] [0, 20, 21, 22])))))))))),
 []⟩
-- (*aneroid/paper.set).add$1
theorem k119 : chkF Try.prog Try.f119 c119 = true := by kernel_rfl
theorem k104 : chkF Try.prog Try.f104 c104 = true := by kernel_rfl
/-- A slice of spans: as it was handed in, or one that is owned. -/
def avR : List Sp × Option Nat → AV
  | (l, none) => spS l
  | (l, some g) => .own g 0 l.length
def okR (σ : Sto) : List Sp × Option Nat → Prop
  | (_, none) => True
  | (l, some g) => σ.at g 0 = some (spO l)
abbrev flat (rows : List (List Sp × Option Nat)) : List Sp := rows.flatMap (·.1)

theorem flat_take {rows : List (List Sp × Option Nat)} {i : Nat} {r : List Sp × Option Nat} (h : rows[i]? = some r) : flat (rows.take (i + 1)) = flat (rows.take i) ++ r.1 := by
  rw [List.take_add_one, h]; simp [flat]

theorem flat_le (rows : List (List Sp × Option Nat)) (i : Nat) : (flat (rows.take i)).length ≤ (flat rows).length := by
  have : flat rows = flat (rows.take i) ++ flat (rows.drop i) := by rw [← List.flatMap_append, List.take_append_drop]
  rw [this, List.length_append]; omega

theorem rows_ok (l : List Sp) : ∀ e, e < l.length → ((l.map Sp.cs).getD e []).length = 2 := fun e he => by
  obtain ⟨x, hx⟩ : ∃ x, l[e]? = some x := ⟨_, List.getElem?_eq_getElem he⟩
  rw [getD_map hx]; rfl

theorem concat_does (σ : Sto) (rows : List (List Sp × Option Nat)) (hok : ∀ r ∈ rows, okR σ r) (hlen : rows.length < 9223372036854775808) (htot : ((flat rows).length : Int) * 16 ≤ 140737488355328) :
    Does Try.prog 119 [.sl 1 (rows.map fun r => [avR r])] σ (fun r σ' => r = .own σ.length 0 (flat rows).length ∧ σ' = σ ++ [some [spO (flat rows)]]) := by
  refine Does.of_body Try.call119 Try.func119 k119 (Nat.le_of_ble_eq_true rfl) ?_
  unfold c119
  (repeat' first
 | (refine AWPC.of_vcn rfl ?_; simp only [zT, zV, zS, zU, vcC, lateX, ex, strp, cnd, binA, kseq, kblk, kret, klp, Abs.one, elems, cells, scalar, eqC, Nat.reduceBEq, Nat.reduceAdd, Nat.reduceSub, Nat.reduceLT, Nat.reduceLeDiff, Nat.reduceMul, Nat.reduceEqDiff, cond_true, cond_false, if_true, if_false, reduceIte, implies_true, forall_const, ne_eq])
 | (simp (disch := omega) only [wr64, Int.zero_sub]; try simp only [zT, zV, zS, zU, vcC, lateX, ex, strp, cnd, binA, kseq, kblk, kret, klp, Abs.one, elems, cells, scalar, eqC, Nat.reduceBEq, Nat.reduceAdd, Nat.reduceSub, Nat.reduceLT, Nat.reduceLeDiff, Nat.reduceMul, Nat.reduceEqDiff, cond_true, cond_false, if_true, if_false, reduceIte, implies_true, forall_const, ne_eq])
 | (refine AWPC.both (fun _ => ?_) (fun _ => ?_))
 | (refine AWPC.imp (fun _ => ?_))
 | ((refine .inl ⟨_, _, _, .any, rfl, fun h => absurd h Bool.false_ne_true, ?_⟩); refine owp_of_exs ?_; simp only [zT, zV, zS, zU, vcC, lateX, ex, strp, cnd, binA, kseq, kblk, kret, klp, Abs.one, elems, cells, scalar, eqC, Nat.reduceBEq, Nat.reduceAdd, Nat.reduceSub, Nat.reduceLT, Nat.reduceLeDiff, Nat.reduceMul, Nat.reduceEqDiff, cond_true, cond_false, if_true, if_false, reduceIte, implies_true, forall_const, ne_eq])
 | (refine ⟨by omega, ?_⟩)
 | (refine And.intro (by (intros; first | (simp_all (config := { decide := false }); done) | fail)) ?_)
 | fail)
  refine AWPC.loopS (α := { i : Nat // i ≤ rows.length }) [3, 11] (fun i => [(3, n ((flat (rows.take i.1)).length)), (11, n i.1)]) (fun i => rows.length - i.1) ⟨0, Nat.zero_le _⟩ ?_ ?_
  · (simp only [zT, zV, zS, zU, vcC, lateX, ex, strp, cnd, binA, kseq, kblk, kret, klp, Abs.one, elems, cells, scalar, eqC, Nat.reduceBEq, Nat.reduceAdd, Nat.reduceSub, Nat.reduceLT, Nat.reduceLeDiff, Nat.reduceMul, Nat.reduceEqDiff, cond_true, cond_false, if_true, if_false, reduceIte, implies_true, forall_const, ne_eq]; try simp)
  · rintro ⟨i, hi⟩
    have hfl := flat_le rows i
    by_cases hlt : i < rows.length
    · obtain ⟨r, hr⟩ : ∃ r, rows[i]? = some r := ⟨_, List.getElem?_eq_getElem hlt⟩
      have hok := hok r (List.mem_of_getElem? hr)
      have ft := flat_take hr
      have hfl1 := flat_le rows (i + 1)
      have hl2 : (flat (rows.take (i + 1))).length = (flat (rows.take i)).length + r.1.length := by rw [ft, List.length_append]
      obtain ⟨l, g⟩ := r
      simp only at hl2
      cases g with
      | none =>
        (repeat' first
 | (refine AWPC.of_vcn rfl ?_; simp only [zT, zV, zS, zU, vcC, lateX, ex, strp, cnd, binA, kseq, kblk, kret, klp, Abs.one, elems, cells, scalar, eqC, Nat.reduceBEq, Nat.reduceAdd, Nat.reduceSub, Nat.reduceLT, Nat.reduceLeDiff, Nat.reduceMul, Nat.reduceEqDiff, cond_true, cond_false, if_true, if_false, reduceIte, implies_true, forall_const, ne_eq, getD_map hr, avR])
 | (simp (disch := omega) only [wr64, Int.zero_sub]; try simp only [zT, zV, zS, zU, vcC, lateX, ex, strp, cnd, binA, kseq, kblk, kret, klp, Abs.one, elems, cells, scalar, eqC, Nat.reduceBEq, Nat.reduceAdd, Nat.reduceSub, Nat.reduceLT, Nat.reduceLeDiff, Nat.reduceMul, Nat.reduceEqDiff, cond_true, cond_false, if_true, if_false, reduceIte, implies_true, forall_const, ne_eq, getD_map hr, avR])
 | (refine AWPC.both (fun _ => ?_) (fun _ => ?_))
 | (refine AWPC.imp (fun _ => ?_))
 | ((refine .inl ⟨_, _, _, .any, rfl, fun h => absurd h Bool.false_ne_true, ?_⟩); refine owp_of_exs ?_; simp only [zT, zV, zS, zU, vcC, lateX, ex, strp, cnd, binA, kseq, kblk, kret, klp, Abs.one, elems, cells, scalar, eqC, Nat.reduceBEq, Nat.reduceAdd, Nat.reduceSub, Nat.reduceLT, Nat.reduceLeDiff, Nat.reduceMul, Nat.reduceEqDiff, cond_true, cond_false, if_true, if_false, reduceIte, implies_true, forall_const, ne_eq, getD_map hr, avR])
 | (refine ⟨by omega, ?_⟩)
 | (refine And.intro (by (intros; first | (simp_all (config := { decide := false }); done) | fail)) ?_)
 | fail)
        all_goals try (exfalso; omega)
        exact ⟨⟨i + 1, hlt⟩, ⟨by rw [hl2]; simp, by simp⟩, by simp only; omega⟩
      | some g =>
        simp only [okR] at hok
        (repeat' first
 | (refine AWPC.of_vcn rfl ?_; simp only [zT, zV, zS, zU, vcC, lateX, ex, strp, cnd, binA, kseq, kblk, kret, klp, Abs.one, elems, cells, scalar, eqC, Nat.reduceBEq, Nat.reduceAdd, Nat.reduceSub, Nat.reduceLT, Nat.reduceLeDiff, Nat.reduceMul, Nat.reduceEqDiff, cond_true, cond_false, if_true, if_false, reduceIte, implies_true, forall_const, ne_eq, getD_map hr, avR, hok])
 | (simp (disch := omega) only [wr64, Int.zero_sub]; try simp only [zT, zV, zS, zU, vcC, lateX, ex, strp, cnd, binA, kseq, kblk, kret, klp, Abs.one, elems, cells, scalar, eqC, Nat.reduceBEq, Nat.reduceAdd, Nat.reduceSub, Nat.reduceLT, Nat.reduceLeDiff, Nat.reduceMul, Nat.reduceEqDiff, cond_true, cond_false, if_true, if_false, reduceIte, implies_true, forall_const, ne_eq, getD_map hr, avR, hok])
 | (refine AWPC.both (fun _ => ?_) (fun _ => ?_))
 | (refine AWPC.imp (fun _ => ?_))
 | ((refine .inl ⟨_, _, _, .any, rfl, fun h => absurd h Bool.false_ne_true, ?_⟩); refine owp_of_exs ?_; simp only [zT, zV, zS, zU, vcC, lateX, ex, strp, cnd, binA, kseq, kblk, kret, klp, Abs.one, elems, cells, scalar, eqC, Nat.reduceBEq, Nat.reduceAdd, Nat.reduceSub, Nat.reduceLT, Nat.reduceLeDiff, Nat.reduceMul, Nat.reduceEqDiff, cond_true, cond_false, if_true, if_false, reduceIte, implies_true, forall_const, ne_eq, getD_map hr, avR, hok])
 | (refine ⟨by omega, ?_⟩)
 | (refine And.intro (by (intros; first | (simp_all (config := { decide := false }); done) | fail)) ?_)
 | fail)
        all_goals try (exfalso; omega)
        exact ⟨⟨i + 1, hlt⟩, ⟨by rw [hl2]; simp, by simp⟩, by simp only; omega⟩
    · obtain rfl : i = rows.length := by omega
      rw [List.take_length]
      (repeat' first
 | (refine AWPC.of_vcn rfl ?_; simp only [zT, zV, zS, zU, vcC, lateX, ex, strp, cnd, binA, kseq, kblk, kret, klp, Abs.one, elems, cells, scalar, eqC, Nat.reduceBEq, Nat.reduceAdd, Nat.reduceSub, Nat.reduceLT, Nat.reduceLeDiff, Nat.reduceMul, Nat.reduceEqDiff, cond_true, cond_false, if_true, if_false, reduceIte, implies_true, forall_const, ne_eq])
 | (simp (disch := omega) only [wr64, Int.zero_sub]; try simp only [zT, zV, zS, zU, vcC, lateX, ex, strp, cnd, binA, kseq, kblk, kret, klp, Abs.one, elems, cells, scalar, eqC, Nat.reduceBEq, Nat.reduceAdd, Nat.reduceSub, Nat.reduceLT, Nat.reduceLeDiff, Nat.reduceMul, Nat.reduceEqDiff, cond_true, cond_false, if_true, if_false, reduceIte, implies_true, forall_const, ne_eq])
 | (refine AWPC.both (fun _ => ?_) (fun _ => ?_))
 | (refine AWPC.imp (fun _ => ?_))
 | ((refine .inl ⟨_, _, _, .any, rfl, fun h => absurd h Bool.false_ne_true, ?_⟩); refine owp_of_exs ?_; simp only [zT, zV, zS, zU, vcC, lateX, ex, strp, cnd, binA, kseq, kblk, kret, klp, Abs.one, elems, cells, scalar, eqC, Nat.reduceBEq, Nat.reduceAdd, Nat.reduceSub, Nat.reduceLT, Nat.reduceLeDiff, Nat.reduceMul, Nat.reduceEqDiff, cond_true, cond_false, if_true, if_false, reduceIte, implies_true, forall_const, ne_eq])
 | (refine ⟨by omega, ?_⟩)
 | (refine And.intro (by (intros; first | (simp_all (config := { decide := false }); done) | fail)) ?_)
 | fail)
      all_goals try (exfalso; omega)
      refine .inr (.inl ⟨_, _, _, _, rfl, fun _ => ⟨grow_does σ _ (by omega) htot, ?_⟩, fun h => by cases h⟩)
      rintro res σ' ⟨rfl, rfl⟩
      refine owp_of_exs ?_
      simp only [zT, zV, zS, zU, vcC, lateX, ex, strp, cnd, binA, kseq, kblk, kret, klp, Abs.one, elems, cells, scalar, eqC, Nat.reduceBEq, Nat.reduceAdd, Nat.reduceSub, Nat.reduceLT, Nat.reduceLeDiff, Nat.reduceMul, Nat.reduceEqDiff, cond_true, cond_false, if_true, if_false, reduceIte, implies_true, forall_const, ne_eq]
      (repeat' first
 | (refine AWPC.of_vcn rfl ?_; simp only [zT, zV, zS, zU, vcC, lateX, ex, strp, cnd, binA, kseq, kblk, kret, klp, Abs.one, elems, cells, scalar, eqC, Nat.reduceBEq, Nat.reduceAdd, Nat.reduceSub, Nat.reduceLT, Nat.reduceLeDiff, Nat.reduceMul, Nat.reduceEqDiff, cond_true, cond_false, if_true, if_false, reduceIte, implies_true, forall_const, ne_eq])
 | (simp (disch := omega) only [wr64, Int.zero_sub]; try simp only [zT, zV, zS, zU, vcC, lateX, ex, strp, cnd, binA, kseq, kblk, kret, klp, Abs.one, elems, cells, scalar, eqC, Nat.reduceBEq, Nat.reduceAdd, Nat.reduceSub, Nat.reduceLT, Nat.reduceLeDiff, Nat.reduceMul, Nat.reduceEqDiff, cond_true, cond_false, if_true, if_false, reduceIte, implies_true, forall_const, ne_eq])
 | (refine AWPC.both (fun _ => ?_) (fun _ => ?_))
 | (refine AWPC.imp (fun _ => ?_))
 | ((refine .inl ⟨_, _, _, .any, rfl, fun h => absurd h Bool.false_ne_true, ?_⟩); refine owp_of_exs ?_; simp only [zT, zV, zS, zU, vcC, lateX, ex, strp, cnd, binA, kseq, kblk, kret, klp, Abs.one, elems, cells, scalar, eqC, Nat.reduceBEq, Nat.reduceAdd, Nat.reduceSub, Nat.reduceLT, Nat.reduceLeDiff, Nat.reduceMul, Nat.reduceEqDiff, cond_true, cond_false, if_true, if_false, reduceIte, implies_true, forall_const, ne_eq])
 | (refine ⟨by omega, ?_⟩)
 | (refine And.intro (by (intros; first | (simp_all (config := { decide := false }); done) | fail)) ?_)
 | fail)
      refine AWPC.loopE (α := { i : Nat // i ≤ rows.length }) [6, 27] (fun i => [(6, .own σ.length 0 (flat (rows.take i.1)).length), (27, n i.1)]) (fun i => σ ++ [some [spO (flat (rows.take i.1))]]) (fun i => rows.length - i.1) ⟨0, Nat.zero_le _⟩ ?_ (by simp [flat]) ?_
      · (simp only [zT, zV, zS, zU, vcC, lateX, ex, strp, cnd, binA, kseq, kblk, kret, klp, Abs.one, elems, cells, scalar, eqC, Nat.reduceBEq, Nat.reduceAdd, Nat.reduceSub, Nat.reduceLT, Nat.reduceLeDiff, Nat.reduceMul, Nat.reduceEqDiff, cond_true, cond_false, if_true, if_false, reduceIte, implies_true, forall_const, ne_eq]; try simp)
      · rintro ⟨i, hi⟩
        have hfl := flat_le rows i
        by_cases hlt : i < rows.length
        · obtain ⟨r, hr⟩ : ∃ r, rows[i]? = some r := ⟨_, List.getElem?_eq_getElem hlt⟩
          have hok := hok r (List.mem_of_getElem? hr)
          have ft := flat_take hr
          have hfl1 := flat_le rows (i + 1)
          have hl2 : (flat (rows.take (i + 1))).length = (flat (rows.take i)).length + r.1.length := by rw [ft, List.length_append]
          obtain ⟨l, g⟩ := r
          simp only at hl2 ft
          cases g with
          | none =>
            (repeat' first
 | (refine AWPC.of_vcn rfl ?_; simp only [zT, zV, zS, zU, vcC, lateX, ex, strp, cnd, binA, kseq, kblk, kret, klp, Abs.one, elems, cells, scalar, eqC, Nat.reduceBEq, Nat.reduceAdd, Nat.reduceSub, Nat.reduceLT, Nat.reduceLeDiff, Nat.reduceMul, Nat.reduceEqDiff, cond_true, cond_false, if_true, if_false, reduceIte, implies_true, forall_const, ne_eq, getD_map hr, avR])
 | (simp (disch := omega) only [wr64, Int.zero_sub]; try simp only [zT, zV, zS, zU, vcC, lateX, ex, strp, cnd, binA, kseq, kblk, kret, klp, Abs.one, elems, cells, scalar, eqC, Nat.reduceBEq, Nat.reduceAdd, Nat.reduceSub, Nat.reduceLT, Nat.reduceLeDiff, Nat.reduceMul, Nat.reduceEqDiff, cond_true, cond_false, if_true, if_false, reduceIte, implies_true, forall_const, ne_eq, getD_map hr, avR])
 | (refine AWPC.both (fun _ => ?_) (fun _ => ?_))
 | (refine AWPC.imp (fun _ => ?_))
 | ((refine .inl ⟨_, _, _, .any, rfl, fun h => absurd h Bool.false_ne_true, ?_⟩); refine owp_of_exs ?_; simp only [zT, zV, zS, zU, vcC, lateX, ex, strp, cnd, binA, kseq, kblk, kret, klp, Abs.one, elems, cells, scalar, eqC, Nat.reduceBEq, Nat.reduceAdd, Nat.reduceSub, Nat.reduceLT, Nat.reduceLeDiff, Nat.reduceMul, Nat.reduceEqDiff, cond_true, cond_false, if_true, if_false, reduceIte, implies_true, forall_const, ne_eq, getD_map hr, avR])
 | (refine ⟨by omega, ?_⟩)
 | (refine And.intro (by (intros; first | (simp_all (config := { decide := false }); done) | fail)) ?_)
 | fail)
            all_goals try (exfalso; omega)
            refine ⟨⟨rows_ok l, by omega⟩, ?_⟩
            (repeat' first
 | (refine AWPC.of_vcn rfl ?_; simp only [zT, zV, zS, zU, vcC, lateX, ex, strp, cnd, binA, kseq, kblk, kret, klp, Abs.one, elems, cells, scalar, eqC, Nat.reduceBEq, Nat.reduceAdd, Nat.reduceSub, Nat.reduceLT, Nat.reduceLeDiff, Nat.reduceMul, Nat.reduceEqDiff, cond_true, cond_false, if_true, if_false, reduceIte, implies_true, forall_const, ne_eq])
 | (simp (disch := omega) only [wr64, Int.zero_sub]; try simp only [zT, zV, zS, zU, vcC, lateX, ex, strp, cnd, binA, kseq, kblk, kret, klp, Abs.one, elems, cells, scalar, eqC, Nat.reduceBEq, Nat.reduceAdd, Nat.reduceSub, Nat.reduceLT, Nat.reduceLeDiff, Nat.reduceMul, Nat.reduceEqDiff, cond_true, cond_false, if_true, if_false, reduceIte, implies_true, forall_const, ne_eq])
 | (refine AWPC.both (fun _ => ?_) (fun _ => ?_))
 | (refine AWPC.imp (fun _ => ?_))
 | ((refine .inl ⟨_, _, _, .any, rfl, fun h => absurd h Bool.false_ne_true, ?_⟩); refine owp_of_exs ?_; simp only [zT, zV, zS, zU, vcC, lateX, ex, strp, cnd, binA, kseq, kblk, kret, klp, Abs.one, elems, cells, scalar, eqC, Nat.reduceBEq, Nat.reduceAdd, Nat.reduceSub, Nat.reduceLT, Nat.reduceLeDiff, Nat.reduceMul, Nat.reduceEqDiff, cond_true, cond_false, if_true, if_false, reduceIte, implies_true, forall_const, ne_eq])
 | (refine ⟨by omega, ?_⟩)
 | (refine And.intro (by (intros; first | (simp_all (config := { decide := false }); done) | fail)) ?_)
 | fail)
            exact ⟨⟨i + 1, hlt⟩, ⟨by rw [hl2], by simp⟩, by rw [ft]; simp [spO], by simp only; omega⟩
          | some g =>
            simp only [okR] at hok
            have hgl := at_lt hok
            (repeat' first
 | (refine AWPC.of_vcn rfl ?_; simp only [zT, zV, zS, zU, vcC, lateX, ex, strp, cnd, binA, kseq, kblk, kret, klp, Abs.one, elems, cells, scalar, eqC, Nat.reduceBEq, Nat.reduceAdd, Nat.reduceSub, Nat.reduceLT, Nat.reduceLeDiff, Nat.reduceMul, Nat.reduceEqDiff, cond_true, cond_false, if_true, if_false, reduceIte, implies_true, forall_const, ne_eq, getD_map hr, avR, at_appL hgl, hok])
 | (simp (disch := omega) only [wr64, Int.zero_sub]; try simp only [zT, zV, zS, zU, vcC, lateX, ex, strp, cnd, binA, kseq, kblk, kret, klp, Abs.one, elems, cells, scalar, eqC, Nat.reduceBEq, Nat.reduceAdd, Nat.reduceSub, Nat.reduceLT, Nat.reduceLeDiff, Nat.reduceMul, Nat.reduceEqDiff, cond_true, cond_false, if_true, if_false, reduceIte, implies_true, forall_const, ne_eq, getD_map hr, avR, at_appL hgl, hok])
 | (refine AWPC.both (fun _ => ?_) (fun _ => ?_))
 | (refine AWPC.imp (fun _ => ?_))
 | ((refine .inl ⟨_, _, _, .any, rfl, fun h => absurd h Bool.false_ne_true, ?_⟩); refine owp_of_exs ?_; simp only [zT, zV, zS, zU, vcC, lateX, ex, strp, cnd, binA, kseq, kblk, kret, klp, Abs.one, elems, cells, scalar, eqC, Nat.reduceBEq, Nat.reduceAdd, Nat.reduceSub, Nat.reduceLT, Nat.reduceLeDiff, Nat.reduceMul, Nat.reduceEqDiff, cond_true, cond_false, if_true, if_false, reduceIte, implies_true, forall_const, ne_eq, getD_map hr, avR, at_appL hgl, hok])
 | (refine ⟨by omega, ?_⟩)
 | (refine And.intro (by (intros; first | (simp_all (config := { decide := false }); done) | fail)) ?_)
 | fail)
            all_goals try (exfalso; omega)
            refine ⟨⟨rows_ok l, by omega⟩, ?_⟩
            (repeat' first
 | (refine AWPC.of_vcn rfl ?_; simp only [zT, zV, zS, zU, vcC, lateX, ex, strp, cnd, binA, kseq, kblk, kret, klp, Abs.one, elems, cells, scalar, eqC, Nat.reduceBEq, Nat.reduceAdd, Nat.reduceSub, Nat.reduceLT, Nat.reduceLeDiff, Nat.reduceMul, Nat.reduceEqDiff, cond_true, cond_false, if_true, if_false, reduceIte, implies_true, forall_const, ne_eq])
 | (simp (disch := omega) only [wr64, Int.zero_sub]; try simp only [zT, zV, zS, zU, vcC, lateX, ex, strp, cnd, binA, kseq, kblk, kret, klp, Abs.one, elems, cells, scalar, eqC, Nat.reduceBEq, Nat.reduceAdd, Nat.reduceSub, Nat.reduceLT, Nat.reduceLeDiff, Nat.reduceMul, Nat.reduceEqDiff, cond_true, cond_false, if_true, if_false, reduceIte, implies_true, forall_const, ne_eq])
 | (refine AWPC.both (fun _ => ?_) (fun _ => ?_))
 | (refine AWPC.imp (fun _ => ?_))
 | ((refine .inl ⟨_, _, _, .any, rfl, fun h => absurd h Bool.false_ne_true, ?_⟩); refine owp_of_exs ?_; simp only [zT, zV, zS, zU, vcC, lateX, ex, strp, cnd, binA, kseq, kblk, kret, klp, Abs.one, elems, cells, scalar, eqC, Nat.reduceBEq, Nat.reduceAdd, Nat.reduceSub, Nat.reduceLT, Nat.reduceLeDiff, Nat.reduceMul, Nat.reduceEqDiff, cond_true, cond_false, if_true, if_false, reduceIte, implies_true, forall_const, ne_eq])
 | (refine ⟨by omega, ?_⟩)
 | (refine And.intro (by (intros; first | (simp_all (config := { decide := false }); done) | fail)) ?_)
 | fail)
            exact ⟨⟨i + 1, hlt⟩, ⟨by rw [hl2], by simp⟩, by rw [ft]; simp [spO], by simp only; omega⟩
        · obtain rfl : i = rows.length := by omega
          rw [List.take_length]
          (repeat' first
 | (refine AWPC.of_vcn rfl ?_; simp only [zT, zV, zS, zU, vcC, lateX, ex, strp, cnd, binA, kseq, kblk, kret, klp, Abs.one, elems, cells, scalar, eqC, Nat.reduceBEq, Nat.reduceAdd, Nat.reduceSub, Nat.reduceLT, Nat.reduceLeDiff, Nat.reduceMul, Nat.reduceEqDiff, cond_true, cond_false, if_true, if_false, reduceIte, implies_true, forall_const, ne_eq])
 | (simp (disch := omega) only [wr64, Int.zero_sub]; try simp only [zT, zV, zS, zU, vcC, lateX, ex, strp, cnd, binA, kseq, kblk, kret, klp, Abs.one, elems, cells, scalar, eqC, Nat.reduceBEq, Nat.reduceAdd, Nat.reduceSub, Nat.reduceLT, Nat.reduceLeDiff, Nat.reduceMul, Nat.reduceEqDiff, cond_true, cond_false, if_true, if_false, reduceIte, implies_true, forall_const, ne_eq])
 | (refine AWPC.both (fun _ => ?_) (fun _ => ?_))
 | (refine AWPC.imp (fun _ => ?_))
 | ((refine .inl ⟨_, _, _, .any, rfl, fun h => absurd h Bool.false_ne_true, ?_⟩); refine owp_of_exs ?_; simp only [zT, zV, zS, zU, vcC, lateX, ex, strp, cnd, binA, kseq, kblk, kret, klp, Abs.one, elems, cells, scalar, eqC, Nat.reduceBEq, Nat.reduceAdd, Nat.reduceSub, Nat.reduceLT, Nat.reduceLeDiff, Nat.reduceMul, Nat.reduceEqDiff, cond_true, cond_false, if_true, if_false, reduceIte, implies_true, forall_const, ne_eq])
 | (refine ⟨by omega, ?_⟩)
 | (refine And.intro (by (intros; first | (simp_all (config := { decide := false }); done) | fail)) ?_)
 | fail)
          all_goals try (exfalso; omega)
          all_goals first | rfl | exact ⟨rfl, rfl⟩

theorem upd_upd {σ : Sto} {f i : Nat} {o o' : Ob} : (σ.upd f i o).upd f i o' = σ.upd f i o' := by
  unfold Sto.upd
  cases h : σ[f]? with
  | none => simp [h]
  | some F =>
    cases F with
    | none => simp [h]
    | some F =>
      have hlt := (List.getElem?_eq_some_iff.1 h).1
      simp only [List.getElem?_set_self hlt, List.set_set]

theorem upd_len {σ : Sto} {f i : Nat} {o : Ob} : (σ.upd f i o).length = σ.length := by
  unfold Sto.upd
  split <;> simp

theorem push_bd {l : List Sp} {x : Sp} {A B : Int} (hl : ∀ s ∈ l, A ≤ s.lo ∧ s.hi ≤ B) (hx : A ≤ x.lo ∧ x.hi ≤ B) : ∀ s ∈ push l x, A ≤ s.lo ∧ s.hi ≤ B := by
  rcases List.eq_nil_or_concat l with rfl | ⟨i, s, rfl⟩
  · simpa [push_nil] using hx
  · rw [List.concat_eq_append] at hl ⊢
    rw [push_last]
    have hs := hl s (by simp)
    split
    · intro u hu
      rcases List.mem_append.1 hu with hu | hu
      · exact hl u (by simp [hu])
      · obtain rfl : u = ⟨s.lo, max s.hi x.hi⟩ := by simpa using hu
        simp only; omega
    · intro u hu
      rw [show i ++ [s, x] = (i ++ [s]) ++ [x] by simp] at hu
      rcases List.mem_append.1 hu with hu | hu
      · exact hl u hu
      · obtain rfl : u = x := by simpa using hu
        exact hx

theorem push_len (l : List Sp) (x : Sp) : (push l x).length ≤ l.length + 1 := by
  rcases List.eq_nil_or_concat l with rfl | ⟨i, s, rfl⟩
  · simp [push_nil]
  · rw [List.concat_eq_append, push_last]; split <;> simp

/-- A set in a place of an object: its spans are owned. -/
abbrev setIn (o : Ob) (e g m : Nat) (rest : List AV) : Ob := { o with es := o.es.set e (.own g 0 m :: rest) }

/-- The store while spans are added. -/
def addS (σ : Sto) (f e : Nat) (o : Ob) (rest : List AV) (l' a : List Sp) (ν : Sto) : Sto := Sto.upd σ f 0 (setIn o e (σ.length + 1) a.length rest) ++ (some [spO l'] :: some [spO a] :: ν)
/-- What is gathered up to a place. -/
def acc (l : List Sp) (i : Nat) : List Sp := (l.take i).foldl push []

theorem addS_f {σ : Sto} {f N e : Nat} {o : Ob} {rest : List AV} (l' a : List Sp) (ν : Sto) (hf : σ.at f 0 = some o) (hN : o.es.length = N) (he : e < N) :
    (addS σ f e o rest l' a ν).at f 0 = some (setIn o e (σ.length + 1) a.length rest) := by
  have hfl := at_lt hf
  unfold addS
  rw [at_appL (by rw [upd_len]; exact hfl)]; exact at_upd_same hf
theorem addS_A (σ : Sto) (f e : Nat) (o : Ob) (rest : List AV) (l' a : List Sp) (ν : Sto) : (addS σ f e o rest l' a ν).at σ.length 0 = some (spO l') := by
  unfold addS
  have := at_app0 (Sto.upd σ f 0 (setIn o e (σ.length + 1) a.length rest)) (some [spO l'] :: some [spO a] :: ν) 0
  rw [upd_len] at this; rw [this]; rfl
theorem addS_G (σ : Sto) (f e : Nat) (o : Ob) (rest : List AV) (l' a : List Sp) (ν : Sto) : (addS σ f e o rest l' a ν).at (σ.length + 1) 0 = some (spO a) := by
  unfold addS
  have := at_app (Sto.upd σ f 0 (setIn o e (σ.length + 1) a.length rest)) (some [spO l'] :: some [spO a] :: ν) 1 0
  rw [upd_len] at this; rw [this]; rfl
theorem addS_len (σ : Sto) (f e : Nat) (o : Ob) (rest : List AV) (l' a : List Sp) (ν : Sto) : List.length (addS σ f e o rest l' a ν) = σ.length + 2 + List.length ν := by
  unfold addS; simp [upd_len]; omega
theorem addS_app (σ : Sto) (f e : Nat) (o : Ob) (rest : List AV) (l' a : List Sp) (ν L : Sto) : addS σ f e o rest l' a ν ++ L = addS σ f e o rest l' a (ν ++ L) := by
  unfold addS; simp
theorem addS_updG (σ : Sto) (f e : Nat) (o : Ob) (rest : List AV) (l' a : List Sp) (ν : Sto) (b : List Sp) : (addS σ f e o rest l' a ν).upd (σ.length + 1) 0 (spO b) = Sto.upd σ f 0 (setIn o e (σ.length + 1) a.length rest) ++ (some [spO l'] :: some [spO b] :: ν) := by
  unfold addS
  have := upd_app (Sto.upd σ f 0 (setIn o e (σ.length + 1) a.length rest)) (some [spO l'] :: some [spO a] :: ν) 1 0 (spO b)
  rw [upd_len] at this; rw [this]; rfl
theorem addS_upd1 (σ : Sto) (f e : Nat) (o : Ob) (rest : List AV) (l' a : List Sp) (ν : Sto) (b : List Sp) (h : b.length = a.length) : (addS σ f e o rest l' a ν).upd (σ.length + 1) 0 (spO b) = addS σ f e o rest l' b ν := by
  rw [addS_updG]; unfold addS; rw [h]
theorem addS_upd2 {σ : Sto} {f e : Nat} (o : Ob) (rest : List AV) (l' a : List Sp) (ν : Sto) (b : List Sp) (hf : f < σ.length) :
    ((addS σ f e o rest l' a ν).upd (σ.length + 1) 0 (spO b)).upd f 0 (setIn o e (σ.length + 1) b.length rest) = addS σ f e o rest l' b ν := by
  rw [addS_updG, upd_appL (by rw [upd_len]; exact hf), upd_upd]; rfl

theorem acc_len (l : List Sp) (i : Nat) : (acc l i).length ≤ i := by
  have h : ∀ (l a : List Sp), (l.foldl push a).length ≤ a.length + l.length := by
    intro l
    induction l with
    | nil => intro a; simp
    | cons x r ih => intro a; have := ih (push a x); have := push_len a x; simp only [List.foldl_cons, List.length_cons]; omega
  have := h (l.take i) []
  have := List.length_take_le i l
  simp only [acc]
  simp only [List.length_nil] at *
  omega
theorem acc_bd {l : List Sp} {i : Nat} {A B : Int} (h : ∀ u ∈ l, A ≤ u.lo ∧ u.hi ≤ B) : ∀ u ∈ acc l i, A ≤ u.lo ∧ u.hi ≤ B := by
  have g : ∀ (l a : List Sp), (∀ u ∈ l, A ≤ u.lo ∧ u.hi ≤ B) → (∀ u ∈ a, A ≤ u.lo ∧ u.hi ≤ B) → ∀ u ∈ l.foldl push a, A ≤ u.lo ∧ u.hi ≤ B := by
    intro l
    induction l with
    | nil => intro a _ h; exact h
    | cons x r ih => intro a h1 h2; exact ih _ (fun u hu => h1 u (List.mem_cons_of_mem _ hu)) (push_bd h2 (h1 x (List.mem_cons_self ..)))
  exact g _ _ (fun u hu => h u (List.mem_of_mem_take hu)) (fun u hu => by cases hu)
theorem acc_next {l : List Sp} {i : Nat} {x : Sp} (h : l[i]? = some x) : acc l (i + 1) = push (acc l i) x := by
  have hlt := (List.getElem?_eq_some_iff.1 h).1
  have : l.take (i + 1) = l.take i ++ [x] := by rw [List.take_add_one, h]; rfl
  simp only [acc, this, List.foldl_append, List.foldl_cons, List.foldl_nil]

/-- What is true when spans have been added to a set. -/
def Added (σ : Sto) (f e : Nat) (o : Ob) (rest : List AV) (s r : List Sp) (σ' : Sto) : Prop :=
  ∃ l' ν, σ' = Sto.upd σ f 0 (setIn o e (σ.length + 1) l'.length rest) ++ (ν : Sto) ∧ σ'.at (σ.length + 1) 0 = some (spO l') ∧ Norm l' ∧ (∀ v, Mem v l' ↔ Mem v s ∨ Mem v r) ∧ l'.length ≤ s.length + r.length ∧
    ∀ u ∈ l', -1000000 ≤ u.lo ∧ u.hi ≤ 1000000

theorem add_awpc (σ : Sto) (f N e : Nat) (o : Ob) (rest : List AV) (q r : List Sp × Option Nat) (hf : σ.at f 0 = some o) (hN : o.es.length = N) (he : e < N) (hk : o.k = rest.length + 1) (hrow : o.es.getD e [] = avR q :: rest) (hlp : o.lp = none)
    (hq : okR σ q) (hr : okR σ r) (hne : ∀ u ∈ q.1 ++ r.1, u.lo ≤ u.hi ∧ -1000000 ≤ u.lo ∧ u.hi ≤ 1000000) (hlen : q.1.length + r.1.length < 1000000000) :
    AWPC Try.prog c104.N none c104.c (kret c104.rs fun _ σ' => Added σ f e o rest q.1 r.1 σ') (argE 0 [.ptr f 0 N e 0, avR r]) σ := by
  have hfl := at_lt hf
  obtain ⟨l, h⟩ := r
  obtain ⟨s, q⟩ := q
  simp only at hne hlen hrow ⊢
  have hcat := concat_does σ [(s, q), (l, h)] (by intro z hz; simp only [List.mem_cons, List.not_mem_nil, or_false] at hz; rcases hz with rfl | rfl; exact hq; exact hr) (by simp) (by simp [flat]; omega)
  simp only [List.map_cons, List.map_nil, flat, List.flatMap_cons, List.flatMap_nil, List.append_nil] at hcat
  have hsort := sort_does (σ ++ [some [spO (s ++ l)]]) σ.length (s ++ l) (by simp [Sto.at]) (by simp; omega) (fun u hu => by have := hne u hu; omega)
  rw [List.length_append] at hsort
  unfold c104
  cases h <;> cases q
  all_goals
    simp only [avR] at hcat hrow ⊢
    (repeat' first
 | (refine AWPC.of_vcn rfl ?_; simp only [zT, zV, zS, zU, vcC, lateX, ex, strp, cnd, binA, kseq, kblk, kret, klp, Abs.one, elems, cells, scalar, eqC, Nat.reduceBEq, Nat.reduceAdd, Nat.reduceSub, Nat.reduceLT, Nat.reduceLeDiff, Nat.reduceMul, Nat.reduceEqDiff, cond_true, cond_false, if_true, if_false, reduceIte, implies_true, forall_const, ne_eq, hf, hrow, hN])
 | (simp (disch := omega) only [wr64, Int.zero_sub]; try simp only [zT, zV, zS, zU, vcC, lateX, ex, strp, cnd, binA, kseq, kblk, kret, klp, Abs.one, elems, cells, scalar, eqC, Nat.reduceBEq, Nat.reduceAdd, Nat.reduceSub, Nat.reduceLT, Nat.reduceLeDiff, Nat.reduceMul, Nat.reduceEqDiff, cond_true, cond_false, if_true, if_false, reduceIte, implies_true, forall_const, ne_eq, hf, hrow, hN])
 | (refine AWPC.both (fun _ => ?_) (fun _ => ?_))
 | (refine AWPC.imp (fun _ => ?_))
 | ((refine .inl ⟨_, _, _, .any, rfl, fun h => absurd h Bool.false_ne_true, ?_⟩); refine owp_of_exs ?_; simp only [zT, zV, zS, zU, vcC, lateX, ex, strp, cnd, binA, kseq, kblk, kret, klp, Abs.one, elems, cells, scalar, eqC, Nat.reduceBEq, Nat.reduceAdd, Nat.reduceSub, Nat.reduceLT, Nat.reduceLeDiff, Nat.reduceMul, Nat.reduceEqDiff, cond_true, cond_false, if_true, if_false, reduceIte, implies_true, forall_const, ne_eq, hf, hrow, hN])
 | (refine ⟨by omega, ?_⟩)
 | (refine And.intro (by (intros; first | (simp_all (config := { decide := false }); done) | fail)) ?_)
 | fail)
    refine .inr (.inl ⟨_, _, _, _, rfl, fun _ => ⟨hcat, ?_⟩, fun h => by cases h⟩)
    rintro res σ' ⟨rfl, rfl⟩
    refine owp_of_exs ?_
    simp only [zT, zV, zS, zU, vcC, lateX, ex, strp, cnd, binA, kseq, kblk, kret, klp, Abs.one, elems, cells, scalar, eqC, Nat.reduceBEq, Nat.reduceAdd, Nat.reduceSub, Nat.reduceLT, Nat.reduceLeDiff, Nat.reduceMul, Nat.reduceEqDiff, cond_true, cond_false, if_true, if_false, reduceIte, implies_true, forall_const, ne_eq]
    (repeat' first
 | (refine AWPC.of_vcn rfl ?_; simp only [zT, zV, zS, zU, vcC, lateX, ex, strp, cnd, binA, kseq, kblk, kret, klp, Abs.one, elems, cells, scalar, eqC, Nat.reduceBEq, Nat.reduceAdd, Nat.reduceSub, Nat.reduceLT, Nat.reduceLeDiff, Nat.reduceMul, Nat.reduceEqDiff, cond_true, cond_false, if_true, if_false, reduceIte, implies_true, forall_const, ne_eq])
 | (simp (disch := omega) only [wr64, Int.zero_sub]; try simp only [zT, zV, zS, zU, vcC, lateX, ex, strp, cnd, binA, kseq, kblk, kret, klp, Abs.one, elems, cells, scalar, eqC, Nat.reduceBEq, Nat.reduceAdd, Nat.reduceSub, Nat.reduceLT, Nat.reduceLeDiff, Nat.reduceMul, Nat.reduceEqDiff, cond_true, cond_false, if_true, if_false, reduceIte, implies_true, forall_const, ne_eq])
 | (refine AWPC.both (fun _ => ?_) (fun _ => ?_))
 | (refine AWPC.imp (fun _ => ?_))
 | ((refine .inl ⟨_, _, _, .any, rfl, fun h => absurd h Bool.false_ne_true, ?_⟩); refine owp_of_exs ?_; simp only [zT, zV, zS, zU, vcC, lateX, ex, strp, cnd, binA, kseq, kblk, kret, klp, Abs.one, elems, cells, scalar, eqC, Nat.reduceBEq, Nat.reduceAdd, Nat.reduceSub, Nat.reduceLT, Nat.reduceLeDiff, Nat.reduceMul, Nat.reduceEqDiff, cond_true, cond_false, if_true, if_false, reduceIte, implies_true, forall_const, ne_eq])
 | (refine ⟨by omega, ?_⟩)
 | (refine And.intro (by (intros; first | (simp_all (config := { decide := false }); done) | fail)) ?_)
 | fail)
    refine .inr (.inl ⟨_, _, _, _, rfl, fun _ => ⟨hsort, ?_⟩, fun h => by cases h⟩)
    rintro res σ' ⟨l', hperm, hsorted, rfl⟩
    refine owp_of_exs ?_
    simp only [zT, zV, zS, zU, vcC, lateX, ex, strp, cnd, binA, kseq, kblk, kret, klp, Abs.one, elems, cells, scalar, eqC, Nat.reduceBEq, Nat.reduceAdd, Nat.reduceSub, Nat.reduceLT, Nat.reduceLeDiff, Nat.reduceMul, Nat.reduceEqDiff, cond_true, cond_false, if_true, if_false, reduceIte, implies_true, forall_const, ne_eq]
    have hl' : l'.length = s.length + l.length := by rw [hperm.length_eq, List.length_append]
    have A0 : ∀ q (L : Sto), Sto.at (Sto.upd σ f 0 q ++ L) σ.length 0 = Sto.at L 0 0 := fun q L => by
      have := at_app0 (Sto.upd σ f 0 q) L 0
      rwa [upd_len] at this
    (repeat' first
 | (refine AWPC.of_vcn rfl ?_; simp only [zT, zV, zS, zU, vcC, lateX, ex, strp, cnd, binA, kseq, kblk, kret, klp, Abs.one, elems, cells, scalar, eqC, Nat.reduceBEq, Nat.reduceAdd, Nat.reduceSub, Nat.reduceLT, Nat.reduceLeDiff, Nat.reduceMul, Nat.reduceEqDiff, cond_true, cond_false, if_true, if_false, reduceIte, implies_true, forall_const, ne_eq, at_appL hfl, upd_appL hfl, hf, hN, hrow, A0])
 | (simp (disch := omega) only [wr64, Int.zero_sub]; try simp only [zT, zV, zS, zU, vcC, lateX, ex, strp, cnd, binA, kseq, kblk, kret, klp, Abs.one, elems, cells, scalar, eqC, Nat.reduceBEq, Nat.reduceAdd, Nat.reduceSub, Nat.reduceLT, Nat.reduceLeDiff, Nat.reduceMul, Nat.reduceEqDiff, cond_true, cond_false, if_true, if_false, reduceIte, implies_true, forall_const, ne_eq, at_appL hfl, upd_appL hfl, hf, hN, hrow, A0])
 | (refine AWPC.both (fun _ => ?_) (fun _ => ?_))
 | (refine AWPC.imp (fun _ => ?_))
 | ((refine .inl ⟨_, _, _, .any, rfl, fun h => absurd h Bool.false_ne_true, ?_⟩); refine owp_of_exs ?_; simp only [zT, zV, zS, zU, vcC, lateX, ex, strp, cnd, binA, kseq, kblk, kret, klp, Abs.one, elems, cells, scalar, eqC, Nat.reduceBEq, Nat.reduceAdd, Nat.reduceSub, Nat.reduceLT, Nat.reduceLeDiff, Nat.reduceMul, Nat.reduceEqDiff, cond_true, cond_false, if_true, if_false, reduceIte, implies_true, forall_const, ne_eq, at_appL hfl, upd_appL hfl, hf, hN, hrow, A0])
 | (refine ⟨by omega, ?_⟩)
 | (refine And.intro (by (intros; first | (simp_all (config := { decide := false }); done) | fail)) ?_)
 | fail)
    rw [← hl']
    generalize hPost : Added σ f e o rest s l = Post
    refine AWPC.own0c 23 2 (f := f) (i := 0) (e := e) (j := 0) (o := { o with es := o.es.set e (.v (.slice none 0 0) :: rest) }) ?_ ?_ ?_ ?_
    · rw [at_appL (by rw [upd_len]; exact hfl)]; exact at_upd_same hf
    · simp only [List.length_set, hN]; exact he
    · simp only [List.getD_eq_getElem?_getD, List.getElem?_set_self (by rw [hN]; exact he : e < o.es.length)]; rfl
    refine AWPC.loopE (α := { p : Nat × Sto // p.1 ≤ l'.length }) [22] (fun p => [(22, n p.1.1)]) (fun p => addS σ f e o rest l' (acc l' p.1.1) p.1.2) (fun p => l'.length - p.1.1) ⟨(0, []), Nat.zero_le _⟩ ?_ ?_ ?_
    · (simp only [zT, zV, zS, zU, vcC, lateX, ex, strp, cnd, binA, kseq, kblk, kret, klp, Abs.one, elems, cells, scalar, eqC, Nat.reduceBEq, Nat.reduceAdd, Nat.reduceSub, Nat.reduceLT, Nat.reduceLeDiff, Nat.reduceMul, Nat.reduceEqDiff, cond_true, cond_false, if_true, if_false, reduceIte, implies_true, forall_const, ne_eq]; try simp)
    · simp only [addS, acc, List.take_zero, List.foldl_nil]
      rw [List.append_assoc, upd_appL (by rw [upd_len]; exact hfl), upd_upd]
      simp [upd_len, setIn, spO, hN, he, List.getD_eq_getElem?_getD, List.getElem?_set_self (by rw [hN]; exact he : e < o.es.length)]
    rintro ⟨⟨i, ν⟩, hi⟩
    simp only at hi
    simp only
    have hF := addS_f (rest := rest) l' (acc l' i) ν hf hN he
    have hA := addS_A σ f e o rest l' (acc l' i) ν
    have hG := addS_G σ f e o rest l' (acc l' i) ν
    have hSl := addS_len σ f e o rest l' (acc l' i) ν
    have hup := addS_updG σ f e o rest l' (acc l' i) ν
    have hu1 := addS_upd1 σ f e o rest l' (acc l' i) ν
    have hu2 := fun b => addS_upd2 o rest l' (acc l' i) ν (f := f) (e := e) b hfl
    have happ := addS_app σ f e o rest l' (acc l' i) ν
    have hcl : (acc l' i).length ≤ i := acc_len l' i
    have hbd := acc_bd (l := l') (i := i) (A := -1000000) (B := 1000000) (fun u hu => (hne u (hperm.mem_iff.1 hu)).2)
    have hrow' : ∀ X, (o.es.set e X).getD e [] = X := fun X => by simp [List.getD_eq_getElem?_getD, List.getElem?_set_self (by rw [hN]; exact he : e < o.es.length)]
    have hnn : ∀ u ∈ acc l' i, u.lo ≤ u.hi := (merged_spec (l'.take i) [] trivial (fun u hu => (hne u (hperm.mem_iff.1 (List.mem_of_mem_take hu))).1) (fun _ h => by cases h) (hsorted.sublist (List.take_sublist ..))).1.ne
    by_cases hlt : i < l'.length
    · obtain ⟨x, hx⟩ : ∃ x, l'[i]? = some x := ⟨_, List.getElem?_eq_getElem hlt⟩
      have hxb := hne x (hperm.mem_iff.1 (List.mem_of_getElem? hx))
      have hxg : (l'.map Sp.cs).getD i [] = x.cs := by simp [List.getD_eq_getElem?_getD, hx]
      have hnext := acc_next hx
      generalize acc l' i = a at *
      generalize hSd : addS σ f e o rest l' a ν = S at *
      have hfS := at_lt hF
      have hAS := at_lt hA
      have hGS := at_lt hG
      have hX1 : ∀ q L, (S.upd (σ.length + 1) 0 q ++ L).at f 0 = S.at f 0 := fun q L => by rw [at_appL (by rw [upd_len]; exact hfS), at_upd_other (.inl (by omega))]
      have hX2 : ∀ q L q', (S.upd (σ.length + 1) 0 q ++ L).upd f 0 q' = (S.upd (σ.length + 1) 0 q).upd f 0 q' ++ L := fun q L q' => by rw [upd_appL (by rw [upd_len]; exact hfS)]
      rcases List.eq_nil_or_concat a with h0 | ⟨a0, y, h0⟩
      · subst h0
        (repeat' first
 | (refine AWPC.of_vcn rfl ?_; simp only [zT, zV, zS, zU, vcC, lateX, ex, strp, cnd, binA, kseq, kblk, kret, klp, Abs.one, elems, cells, scalar, eqC, Nat.reduceBEq, Nat.reduceAdd, Nat.reduceSub, Nat.reduceLT, Nat.reduceLeDiff, Nat.reduceMul, Nat.reduceEqDiff, cond_true, cond_false, if_true, if_false, reduceIte, implies_true, forall_const, ne_eq, hF, hA, hG, hX1, hX2, upd_appL hGS, at_appL hfS, at_appL hAS, at_appL hGS, hN, hk, List.length_set, hrow', hxg])
 | (simp (disch := omega) only [wr64, Int.zero_sub]; try simp only [zT, zV, zS, zU, vcC, lateX, ex, strp, cnd, binA, kseq, kblk, kret, klp, Abs.one, elems, cells, scalar, eqC, Nat.reduceBEq, Nat.reduceAdd, Nat.reduceSub, Nat.reduceLT, Nat.reduceLeDiff, Nat.reduceMul, Nat.reduceEqDiff, cond_true, cond_false, if_true, if_false, reduceIte, implies_true, forall_const, ne_eq, hF, hA, hG, hX1, hX2, upd_appL hGS, at_appL hfS, at_appL hAS, at_appL hGS, hN, hk, List.length_set, hrow', hxg])
 | (refine AWPC.both (fun _ => ?_) (fun _ => ?_))
 | (refine AWPC.imp (fun _ => ?_))
 | ((refine .inl ⟨_, _, _, .any, rfl, fun h => absurd h Bool.false_ne_true, ?_⟩); refine owp_of_exs ?_; simp only [zT, zV, zS, zU, vcC, lateX, ex, strp, cnd, binA, kseq, kblk, kret, klp, Abs.one, elems, cells, scalar, eqC, Nat.reduceBEq, Nat.reduceAdd, Nat.reduceSub, Nat.reduceLT, Nat.reduceLeDiff, Nat.reduceMul, Nat.reduceEqDiff, cond_true, cond_false, if_true, if_false, reduceIte, implies_true, forall_const, ne_eq, hF, hA, hG, hX1, hX2, upd_appL hGS, at_appL hfS, at_appL hAS, at_appL hGS, hN, hk, List.length_set, hrow', hxg])
 | (refine ⟨by omega, ?_⟩)
 | (refine And.intro (by (intros; first | (simp_all (config := { decide := false }); done) | fail)) ?_)
 | fail)
        all_goals try (exfalso; omega)
        refine ⟨⟨(i + 1, ν ++ [some [⟨23, 2, [x.cs], none⟩]]), hlt⟩, rfl, ?_, by simp only; omega⟩
        have hq := hu2 [x]
        simp only
        rw [hnext, push_nil, ← addS_app, ← hq]
        simp [setIn, spO, List.set_set, hk]
      · rw [List.concat_eq_append] at h0
        subst h0
        have hys := hbd y (by simp)
        have hyn := hnn y (by simp)
        have hlen : (a0 ++ [y]).length = a0.length + 1 := by simp
        have hmap : (a0 ++ [y]).map Sp.cs = a0.map Sp.cs ++ [y.cs] := by simp
        have e1 : spO (a0 ++ [⟨y.lo, max y.hi x.hi⟩]) = ⟨23, 2, a0.map Sp.cs ++ [[n y.lo, n (max y.hi x.hi)]], none⟩ := by simp [spO]
        have e2 : spO (a0 ++ [y, x]) = ⟨23, 2, a0.map Sp.cs ++ [y.cs, x.cs], none⟩ := by simp [spO]
        rw [hlen] at hcl hF
        have hw : IntKind.i64.wrap (((a0.length + 1 : Nat) : Int) - 1) = (a0.length : Int) := by rw [wr64 _ (by omega) (by omega)]; omega
        have hget : (a0.map Sp.cs ++ [y.cs]).getD a0.length [] = y.cs := by simp [List.getD_eq_getElem?_getD]
        have hset : ∀ X : List AV, (a0.map Sp.cs ++ [y.cs]).set a0.length X = a0.map Sp.cs ++ [X] := fun X => by
          rw [List.set_append_right _ _ (by simp)]; simp
        unfold spO at hG
        rw [hmap] at hG
        (repeat' first
 | (refine AWPC.of_vcn rfl ?_; simp only [zT, zV, zS, zU, vcC, lateX, ex, strp, cnd, binA, kseq, kblk, kret, klp, Abs.one, elems, cells, scalar, eqC, Nat.reduceBEq, Nat.reduceAdd, Nat.reduceSub, Nat.reduceLT, Nat.reduceLeDiff, Nat.reduceMul, Nat.reduceEqDiff, cond_true, cond_false, if_true, if_false, reduceIte, implies_true, forall_const, ne_eq, hF, hA, hG, hX1, hX2, hlen, hmap, hw, hget, hset, upd_appL hGS, at_appL hfS, at_appL hAS, at_appL hGS, hN, hk, List.length_set, hrow', hxg])
 | (simp (disch := omega) only [wr64, Int.zero_sub]; try simp only [zT, zV, zS, zU, vcC, lateX, ex, strp, cnd, binA, kseq, kblk, kret, klp, Abs.one, elems, cells, scalar, eqC, Nat.reduceBEq, Nat.reduceAdd, Nat.reduceSub, Nat.reduceLT, Nat.reduceLeDiff, Nat.reduceMul, Nat.reduceEqDiff, cond_true, cond_false, if_true, if_false, reduceIte, implies_true, forall_const, ne_eq, hF, hA, hG, hX1, hX2, hlen, hmap, hw, hget, hset, upd_appL hGS, at_appL hfS, at_appL hAS, at_appL hGS, hN, hk, List.length_set, hrow', hxg])
 | (refine AWPC.both (fun _ => ?_) (fun _ => ?_))
 | (refine AWPC.imp (fun _ => ?_))
 | ((refine .inl ⟨_, _, _, .any, rfl, fun h => absurd h Bool.false_ne_true, ?_⟩); refine owp_of_exs ?_; simp only [zT, zV, zS, zU, vcC, lateX, ex, strp, cnd, binA, kseq, kblk, kret, klp, Abs.one, elems, cells, scalar, eqC, Nat.reduceBEq, Nat.reduceAdd, Nat.reduceSub, Nat.reduceLT, Nat.reduceLeDiff, Nat.reduceMul, Nat.reduceEqDiff, cond_true, cond_false, if_true, if_false, reduceIte, implies_true, forall_const, ne_eq, hF, hA, hG, hX1, hX2, hlen, hmap, hw, hget, hset, upd_appL hGS, at_appL hfS, at_appL hAS, at_appL hGS, hN, hk, List.length_set, hrow', hxg])
 | (refine ⟨by omega, ?_⟩)
 | (refine And.intro (by (intros; first | (simp_all (config := { decide := false }); done) | fail)) ?_)
 | fail)
        all_goals try (exfalso; omega)
        all_goals refine ⟨⟨(i + 1, ν ++ [some [⟨23, 2, [x.cs], none⟩]]), hlt⟩, rfl, ?_, by simp only; omega⟩
        all_goals simp only
        · rw [hnext, push_last, if_pos (by omega), ← addS_app, ← hu1 _ (by simp), e1]
        · rw [hnext, push_last, if_neg (by omega), ← addS_app, ← hu2, e2]
          simp [setIn, List.set_set, hk]
    · obtain rfl : i = l'.length := by omega
      obtain ⟨m1, m2⟩ := merged_spec l' [] trivial (fun u hu => (hne u (hperm.mem_iff.1 hu)).1) (fun _ h => by cases h) hsorted
      have hfin : Added σ f e o rest s l (addS σ f e o rest l' (acc l' l'.length) ν) := by
        refine ⟨acc l' l'.length, _, rfl, hG, ?_, ?_, by omega, hbd⟩
        · simp only [acc, List.take_length]; exact m1
        · intro v
          simp only [acc, List.take_length]
          rw [m2]
          simp only [Mem, hperm.mem_iff, List.mem_append]
          constructor
          · rintro (⟨u, hu, _⟩ | ⟨u, hu | hu, h⟩)
            · cases hu
            · exact .inl ⟨u, hu, h⟩
            · exact .inr ⟨u, hu, h⟩
          · rintro (⟨u, hu, h⟩ | ⟨u, hu, h⟩)
            · exact .inr ⟨u, .inl hu, h⟩
            · exact .inr ⟨u, .inr hu, h⟩
      generalize hSd : addS σ f e o rest l' (acc l' l'.length) ν = S at *
      have hAS := at_lt hA
      (repeat' first
 | (refine AWPC.of_vcn rfl ?_; simp only [zT, zV, zS, zU, vcC, lateX, ex, strp, cnd, binA, kseq, kblk, kret, klp, Abs.one, elems, cells, scalar, eqC, Nat.reduceBEq, Nat.reduceAdd, Nat.reduceSub, Nat.reduceLT, Nat.reduceLeDiff, Nat.reduceMul, Nat.reduceEqDiff, cond_true, cond_false, if_true, if_false, reduceIte, implies_true, forall_const, ne_eq])
 | (simp (disch := omega) only [wr64, Int.zero_sub]; try simp only [zT, zV, zS, zU, vcC, lateX, ex, strp, cnd, binA, kseq, kblk, kret, klp, Abs.one, elems, cells, scalar, eqC, Nat.reduceBEq, Nat.reduceAdd, Nat.reduceSub, Nat.reduceLT, Nat.reduceLeDiff, Nat.reduceMul, Nat.reduceEqDiff, cond_true, cond_false, if_true, if_false, reduceIte, implies_true, forall_const, ne_eq])
 | (refine AWPC.both (fun _ => ?_) (fun _ => ?_))
 | (refine AWPC.imp (fun _ => ?_))
 | ((refine .inl ⟨_, _, _, .any, rfl, fun h => absurd h Bool.false_ne_true, ?_⟩); refine owp_of_exs ?_; simp only [zT, zV, zS, zU, vcC, lateX, ex, strp, cnd, binA, kseq, kblk, kret, klp, Abs.one, elems, cells, scalar, eqC, Nat.reduceBEq, Nat.reduceAdd, Nat.reduceSub, Nat.reduceLT, Nat.reduceLeDiff, Nat.reduceMul, Nat.reduceEqDiff, cond_true, cond_false, if_true, if_false, reduceIte, implies_true, forall_const, ne_eq])
 | (refine ⟨by omega, ?_⟩)
 | (refine And.intro (by (intros; first | (simp_all (config := { decide := false }); done) | fail)) ?_)
 | fail)
      all_goals try (exfalso; omega)
      exact hPost ▸ hfin

theorem add_does (σ : Sto) (f N e : Nat) (o : Ob) (rest : List AV) (q r : List Sp × Option Nat) (hf : σ.at f 0 = some o) (hN : o.es.length = N) (he : e < N) (hk : o.k = rest.length + 1) (hrow : o.es.getD e [] = avR q :: rest) (hlp : o.lp = none)
    (hq : okR σ q) (hr : okR σ r) (hne : ∀ u ∈ q.1 ++ r.1, u.lo ≤ u.hi ∧ -1000000 ≤ u.lo ∧ u.hi ≤ 1000000) (hlen : q.1.length + r.1.length < 1000000000) :
    Does Try.prog 104 [.ptr f 0 N e 0, avR r] σ (fun _ σ' => Added σ f e o rest q.1 r.1 σ') :=
  Does.of_body Try.call104 Try.func104 k104 (Nat.le_of_ble_eq_true rfl) (add_awpc σ f N e o rest q r hf hN he hk hrow hlp hq hr hne hlen)
end Go.Proofs.Ytgpdckmbojmlpaa

namespace Go.Proofs.Ytgpdckmbojmlpaa
open Go.Abs
set_option linter.unusedVariables false
set_option linter.unusedSimpArgs false
set_option maxHeartbeats 4000000
set_option maxRecDepth 100000
-- slices.Equal[[]aneroid/api.Span,aneroid/api.Span]
def c107 : CF := ⟨26,
 (.seq (.ops [
 ⟨(some 4), .mv (.c (.bool false)), none⟩] [0, 1])
 (.seq (.seq (.ops [
 ⟨(some 6), .mv (.t 0), none⟩,
 ⟨(some 7), .len (.t 6), none⟩,
 ⟨(some 8), .mv (.t 1), none⟩,
 ⟨(some 9), .len (.t 8), none⟩,
 ⟨(some 10), .bin .neq (.t 7) (.t 9), none⟩] [0, 1, 10])
 (.cond (.t 10) (.seq (.ops [
 ⟨(some 4), .mv (.c (.bool false)), none⟩] [4])
 .ret)
 .skip))
 (.seq (.seq (.ops [
 ⟨(some 11), .mv (.t 0), none⟩,
 ⟨(some 12), .len (.t 11), none⟩,
 ⟨(some 13), .mv (.c (.int .i64 0)), none⟩] [0, 1, 12, 13])
 (.block 0 (.loop (.seq (.ops [
 ⟨(some 14), .bin .lss (.t 13) (.t 12), none⟩] [0, 1, 12, 13, 14])
 (.seq (.cond (.t 14) .skip
 (.exit 0))
 (.seq (.block 1 (.seq (.ops [
 ⟨(some 15), .mv (.t 13), none⟩,
 ⟨(some 5), .mv (.t 15), none⟩] [0, 1, 5, 12, 13])
 (.seq (.draw [
 ⟨(some 16), .mv (.t 0), none⟩,
 ⟨(some 17), .mv (.t 5), none⟩,
 ⟨(some 18), .iaddr 2 (.t 16) (.t 17), none⟩,
 ⟨(some 19), .load (some 2) (.t 18), none⟩,
 ⟨(some 20), .mv (.t 1), none⟩,
 ⟨(some 21), .mv (.t 5), none⟩,
 ⟨(some 22), .iaddr 2 (.t 20) (.t 21), none⟩,
 ⟨(some 23), .load (some 2) (.t 22), none⟩,
 ⟨(some 24), .eqs true [some .i64, some .i64] (.t 19) (.t 23), none⟩] [
 ] [0, 1, 12, 13, 24])
 (.cond (.t 24) (.seq (.ops [
 ⟨(some 4), .mv (.c (.bool false)), none⟩] [4])
 .ret)
 .skip))))
 (.ops [
 ⟨(some 25), .bin .add (.t 13) (.c (.int .i64 1)), none⟩,
 ⟨(some 13), .mv (.t 25), none⟩] [0, 1, 12, 13])))))))
 (.seq (.ops [
 ⟨(some 4), .mv (.c (.bool true)), none⟩] [4])
 .ret)))),
 [.t 4]⟩
-- aneroid/paper.meet
def c108 : CF := ⟨46,
 (.seq (.ops [
 ⟨(some 4), .mv (.c (.slice none 0 0)), none⟩] [0, 1])
 (.seq (.ops [
 ⟨(some 5), .alloc 90 1 [.slice none 0 0], none⟩] [0, 1, 5])
 (.seq (.seq (.ops [
 ⟨(some 11), .mv (.t 0), none⟩,
 ⟨(some 12), .len (.t 11), none⟩,
 ⟨(some 13), .mv (.c (.int .i64 0)), none⟩] [1, 5, 11, 12, 13])
 (.block 0 (.loop (.seq (.ops [
 ⟨(some 14), .bin .lss (.t 13) (.t 12), none⟩] [1, 5, 11, 12, 13, 14])
 (.seq (.cond (.t 14) .skip
 (.exit 0))
 (.seq (.block 1 (.seq (.ops [
 ⟨(some 15), .iaddr 2 (.t 11) (.t 13), none⟩,
 ⟨(some 16), .load (some 2) (.t 15), none⟩,
 ⟨(some 7), .alloc 23 2 [.int .i64 0, .int .i64 0], none⟩,
 ⟨none, .store 2 (.t 7) (.t 16), none⟩] [1, 5, 7, 11, 12, 13])
 (.seq (.ops [
 ⟨(some 17), .mv (.t 1), none⟩,
 ⟨(some 18), .len (.t 17), none⟩,
 ⟨(some 19), .mv (.c (.int .i64 0)), none⟩] [1, 5, 7, 11, 12, 13, 17, 18, 19])
 (.block 2 (.loop (.seq (.ops [
 ⟨(some 20), .bin .lss (.t 19) (.t 18), none⟩] [1, 5, 7, 11, 12, 13, 17, 18, 19, 20])
 (.seq (.cond (.t 20) .skip
 (.exit 2))
 (.seq (.block 3 (.seq (.ops [
 ⟨(some 21), .iaddr 2 (.t 17) (.t 19), none⟩,
 ⟨(some 22), .load (some 2) (.t 21), none⟩,
 ⟨(some 9), .alloc 23 2 [.int .i64 0, .int .i64 0], none⟩,
 ⟨none, .store 2 (.t 9) (.t 22), none⟩] [1, 5, 7, 9, 11, 12, 13, 17, 18, 19])
 (.seq (.ops [
 ⟨(some 23), .faddr 0 (.t 7), none⟩,
 ⟨(some 24), .load none (.t 23), none⟩,
 ⟨(some 25), .faddr 0 (.t 9), none⟩,
 ⟨(some 26), .load none (.t 25), none⟩,
 ⟨(some 27), .mnx true (.t 24) (.t 26), none⟩,
 ⟨(some 28), .faddr 1 (.t 7), none⟩,
 ⟨(some 29), .load none (.t 28), none⟩,
 ⟨(some 30), .faddr 1 (.t 9), none⟩,
 ⟨(some 31), .load none (.t 30), none⟩,
 ⟨(some 32), .mnx false (.t 29) (.t 31), none⟩,
 ⟨(some 33), .build [.int .i64 0, .int .i64 0] [(0, 1, (.t 27)), (1, 1, (.t 32))], none⟩,
 ⟨(some 10), .alloc 23 2 [.int .i64 0, .int .i64 0], none⟩,
 ⟨none, .store 2 (.t 10) (.t 33), none⟩] [1, 5, 7, 10, 11, 12, 13, 17, 18, 19])
 (.seq (.ops [
 ⟨(some 34), .faddr 0 (.t 10), none⟩,
 ⟨(some 35), .load none (.t 34), none⟩,
 ⟨(some 36), .faddr 1 (.t 10), none⟩,
 ⟨(some 37), .load none (.t 36), none⟩,
 ⟨(some 38), .bin .leq (.t 35) (.t 37), none⟩] [1, 5, 7, 10, 11, 12, 13, 17, 18, 19, 38])
 (.cond (.t 38) (.ops [
 ⟨(some 39), .load (some 2) (.t 10), none⟩,
 ⟨(some 40), .bsl false 23 2 1 [.int .i64 0, .int .i64 0] [(0, 2, (.t 39))], none⟩,
 ⟨(some 41), .call (.f 104) [(.t 5), (.t 40)], none⟩] [1, 5, 7, 11, 12, 13, 17, 18, 19])
 .skip)))))
 (.ops [
 ⟨(some 42), .bin .add (.t 19) (.c (.int .i64 1)), none⟩,
 ⟨(some 19), .mv (.t 42), none⟩] [1, 5, 7, 11, 12, 13, 17, 18, 19])))))))))
 (.ops [
 ⟨(some 43), .bin .add (.t 13) (.c (.int .i64 1)), none⟩,
 ⟨(some 13), .mv (.t 43), none⟩] [1, 5, 11, 12, 13])))))))
 (.seq (.ops [
 ⟨(some 44), .faddr 0 (.t 5), none⟩,
 ⟨(some 45), .load none (.t 44), none⟩,
 ⟨(some 4), .mv (.t 45), none⟩] [4])
 .ret)))),
 [.t 4]⟩
-- aneroid/aneroidref01.meet
-- aneroid/aneroidref01.union
theorem k107 : chkF Try.prog Try.f107 c107 = true := by kernel_rfl
theorem k108 : chkF Try.prog Try.f108 c108 = true := by kernel_rfl

/-- A set that is small and whose numbers are. -/
structure OKs (m : Nat) (l : List Sp) : Prop where
  nm : Norm l
  bd : ∀ s ∈ l, -1000000 ≤ s.lo ∧ s.hi ≤ 1000000
  len : l.length ≤ m

theorem in_of_mem {l : List Sp} {A B : Int} (hn : Norm l) (h : ∀ v, Mem v l → A ≤ v ∧ v ≤ B) : ∀ s ∈ l, A ≤ s.lo ∧ s.hi ≤ B := fun s hs =>
  have hne := hn.ne s hs
  ⟨(h s.lo ⟨s, hs, Int.le_refl _, hne⟩).1, (h s.hi ⟨s, hs, hne, Int.le_refl _⟩).2⟩

theorem joinE_mem {l : List Sp} {x : Sp} (hl : Norm l) (v : Int) : Mem v (joinE l x) ↔ Mem v l ∨ (x.lo ≤ v ∧ v ≤ x.hi) := by
  unfold joinE
  split
  · exact ⟨.inl, fun h => h.elim id fun h => by omega⟩
  · exact join_mem hl (by omega) v
theorem joinE_norm {l : List Sp} {x : Sp} (hl : Norm l) : Norm (joinE l x) := by
  unfold joinE
  split
  · exact hl
  · exact join_norm hl (by omega)
theorem joinE_len (l : List Sp) (x : Sp) : (joinE l x).length ≤ l.length + 1 := by
  unfold joinE
  split
  · omega
  · exact join_len l x
theorem joinE_ok {m : Nat} {l : List Sp} {x : Sp} (hl : OKs m l) (hx : -1000000 ≤ x.lo ∧ x.hi ≤ 1000000) : OKs (m + 1) (joinE l x) := by
  refine ⟨joinE_norm hl.nm, in_of_mem (joinE_norm hl.nm) fun v hv => ?_, Nat.le_trans (joinE_len l x) (Nat.succ_le_succ hl.len)⟩
  rcases (joinE_mem hl.nm v).1 hv with ⟨s, hs, h1, h2⟩ | h
  · have := hl.bd s hs; omega
  · omega

/-- A set with what a list of spans adds. -/
def joins (l b : List Sp) : List Sp := b.foldl joinE l
theorem joins_next {l b : List Sp} {i : Nat} {x : Sp} (h : b[i]? = some x) : joins l (b.take (i + 1)) = joinE (joins l (b.take i)) x := by
  have hlt := (List.getElem?_eq_some_iff.1 h).1
  have : b.take (i + 1) = b.take i ++ [x] := by rw [List.take_add_one, h]; rfl
  simp only [joins, this, List.foldl_append, List.foldl_cons, List.foldl_nil]
theorem joins_ok {b : List Sp} (hb : ∀ x ∈ b, -1000000 ≤ x.lo ∧ x.hi ≤ 1000000) : ∀ {m : Nat} {l : List Sp}, OKs m l → OKs (m + b.length) (joins l b) := by
  induction b with
  | nil => intro m l h; exact h
  | cons x b ih => intro m l h; have := ih (fun y hy => hb y (by simp [hy])) (joinE_ok h (hb x (by simp))); rw [List.length_cons, show m + (b.length + 1) = m + 1 + b.length by omega]; exact this
theorem joins_mem {b : List Sp} : ∀ {l : List Sp}, Norm l → ∀ v, Mem v (joins l b) ↔ Mem v l ∨ Mem v b := by
  induction b with
  | nil => intro l h v; simp [joins, Mem.nil]
  | cons x b ih => intro l h v; show Mem v (joins (joinE l x) b) ↔ _; rw [ih (joinE_norm h), joinE_mem h, mem_cons, or_assoc]
theorem joins_norm {b : List Sp} : ∀ {l : List Sp}, Norm l → Norm (joins l b) := by
  induction b with
  | nil => intro l h; exact h
  | cons x b ih => intro l h; exact ih (joinE_norm h)

/-- What a span and a set have in common. -/
def caps (s : Sp) (b : List Sp) : List Sp := b.map s.cap
theorem caps_mem {s : Sp} {b : List Sp} (v : Int) : Mem v (caps s b) ↔ (s.lo ≤ v ∧ v ≤ s.hi) ∧ Mem v b := by
  unfold caps
  constructor
  · rintro ⟨u, hu, h⟩
    obtain ⟨t, ht, rfl⟩ := List.mem_map.1 hu
    have := mem_cap.1 h
    exact ⟨this.1, t, ht, this.2⟩
  · rintro ⟨h, t, ht, h'⟩
    exact ⟨s.cap t, List.mem_map.2 ⟨t, ht, rfl⟩, mem_cap.2 ⟨h, h'⟩⟩
theorem caps_bd {s : Sp} {b : List Sp} (hs : -1000000 ≤ s.lo ∧ s.hi ≤ 1000000) : ∀ x ∈ caps s b, -1000000 ≤ x.lo ∧ x.hi ≤ 1000000 := by
  intro x hx
  obtain ⟨t, ht, rfl⟩ := List.mem_map.1 hx
  simp only [Sp.cap]; omega
/-- What two sets have in common. -/
def meet (a b : List Sp) : List Sp := a.foldl (fun l s => joins l (caps s b)) []
theorem meet_next {a b : List Sp} {i : Nat} {x : Sp} (h : a[i]? = some x) : meet (a.take (i + 1)) b = joins (meet (a.take i) b) (caps x b) := by
  have hlt := (List.getElem?_eq_some_iff.1 h).1
  have : a.take (i + 1) = a.take i ++ [x] := by rw [List.take_add_one, h]; rfl
  simp only [meet, this, List.foldl_append, List.foldl_cons, List.foldl_nil]
theorem meet_all (a b : List Sp) (ha : ∀ x ∈ a, -1000000 ≤ x.lo ∧ x.hi ≤ 1000000) : OKs (a.length * b.length) (meet a b) ∧ ∀ v, Mem v (meet a b) ↔ Mem v a ∧ Mem v b := by
  have h : ∀ (a l : List Sp) (m : Nat), (∀ x ∈ a, -1000000 ≤ x.lo ∧ x.hi ≤ 1000000) → OKs m l → OKs (m + a.length * b.length) (a.foldl (fun l s => joins l (caps s b)) l) ∧ ∀ v, Mem v (a.foldl (fun l s => joins l (caps s b)) l) ↔ Mem v l ∨ (Mem v a ∧ Mem v b) := by
    intro a
    induction a with
    | nil => intro l m _ h; exact ⟨by simpa using h, fun v => by simp [Mem.nil]⟩
    | cons x a ih =>
      intro l m hb hl
      have j := joins_ok (caps_bd (b := b) (hb x (by simp))) hl
      obtain ⟨i1, i2⟩ := ih _ _ (fun y hy => hb y (by simp [hy])) j
      simp only [caps, List.length_map] at i1
      refine ⟨by rw [List.length_cons, Nat.succ_mul, show m + (a.length * b.length + b.length) = m + b.length + a.length * b.length by omega]; exact i1, fun v => ?_⟩
      rw [List.foldl_cons, i2, joins_mem hl.nm, caps_mem, mem_cons, or_and_right, or_assoc]
  have := h a [] 0 ha ⟨trivial, (fun s hs => by cases hs), Nat.le_refl _⟩
  refine ⟨by have := this.1; rw [Nat.zero_add] at this; exact this, fun v => ?_⟩
  rw [meet, this.2]; simp [Mem.nil]
theorem meet_take_ok {a b : List Sp} (i : Nat) (ha : ∀ x ∈ a, -1000000 ≤ x.lo ∧ x.hi ≤ 1000000) : OKs (a.length * b.length) (meet (a.take i) b) := by
  have h := (meet_all (a.take i) b (fun x hx => ha x (List.mem_of_mem_take hx))).1
  refine ⟨h.nm, h.bd, Nat.le_trans h.len (Nat.mul_le_mul_right _ (List.length_take_le' i a))⟩

theorem equal_spec (a b : List Sp) (ha : a.length < 9223372036854775808) (hb : b.length < 9223372036854775808) : Pure Try.prog 107 [spS a, spS b] (bl (decide (a = b))) := by
  refine Pure.of_body Try.call107 Try.func107 k107 (Nat.le_of_ble_eq_true rfl) ?_
  unfold c107
  (repeat' first
 | (refine AWPC.of_vcn rfl ?_; simp only [zT, zV, zS, zU, vcC, lateX, ex, strp, cnd, binA, kseq, kblk, kret, klp, Abs.one, elems, cells, scalar, eqC, Nat.reduceBEq, Nat.reduceAdd, Nat.reduceSub, Nat.reduceLT, Nat.reduceLeDiff, Nat.reduceMul, Nat.reduceEqDiff, cond_true, cond_false, if_true, if_false, reduceIte, implies_true, forall_const, ne_eq])
 | (simp (disch := omega) only [wr64, Int.zero_sub]; try simp only [zT, zV, zS, zU, vcC, lateX, ex, strp, cnd, binA, kseq, kblk, kret, klp, Abs.one, elems, cells, scalar, eqC, Nat.reduceBEq, Nat.reduceAdd, Nat.reduceSub, Nat.reduceLT, Nat.reduceLeDiff, Nat.reduceMul, Nat.reduceEqDiff, cond_true, cond_false, if_true, if_false, reduceIte, implies_true, forall_const, ne_eq])
 | (refine AWPC.both (fun _ => ?_) (fun _ => ?_))
 | (refine AWPC.imp (fun _ => ?_))
 | ((refine .inl ⟨_, _, _, .any, rfl, fun h => absurd h Bool.false_ne_true, ?_⟩); refine owp_of_exs ?_; simp only [zT, zV, zS, zU, vcC, lateX, ex, strp, cnd, binA, kseq, kblk, kret, klp, Abs.one, elems, cells, scalar, eqC, Nat.reduceBEq, Nat.reduceAdd, Nat.reduceSub, Nat.reduceLT, Nat.reduceLeDiff, Nat.reduceMul, Nat.reduceEqDiff, cond_true, cond_false, if_true, if_false, reduceIte, implies_true, forall_const, ne_eq])
 | (refine ⟨by omega, ?_⟩)
 | (refine And.intro (by (intros; first | (simp_all (config := { decide := false }); done) | fail)) ?_)
 | fail)
  · rename_i h
    exact Frz.eq (congrArg bl (by rw [decide_eq_false]; rintro rfl; exact h rfl)) (by simp)
  · rename_i h
    have hl : a.length = b.length := by omega
    refine AWPC.loopI 13 a.length (fun i => a.take i = b.take i) (by simp) ?_ ?_
    · (simp only [zT, zV, zS, zU, vcC, lateX, ex, strp, cnd, binA, kseq, kblk, kret, klp, Abs.one, elems, cells, scalar, eqC, Nat.reduceBEq, Nat.reduceAdd, Nat.reduceSub, Nat.reduceLT, Nat.reduceLeDiff, Nat.reduceMul, Nat.reduceEqDiff, cond_true, cond_false, if_true, if_false, reduceIte, implies_true, forall_const, ne_eq]; try simp)
    · intro i hi hI
      by_cases hlt : i < a.length
      · obtain ⟨x, hx⟩ : ∃ x, a[i]? = some x := ⟨_, List.getElem?_eq_getElem hlt⟩
        obtain ⟨y, hy⟩ : ∃ y, b[i]? = some y := ⟨_, List.getElem?_eq_getElem (by omega)⟩
        have htn := take_next hx hy
        (repeat' first
 | (refine AWPC.of_vcn rfl ?_; simp only [zT, zV, zS, zU, vcC, lateX, ex, strp, cnd, binA, kseq, kblk, kret, klp, Abs.one, elems, cells, scalar, eqC, Nat.reduceBEq, Nat.reduceAdd, Nat.reduceSub, Nat.reduceLT, Nat.reduceLeDiff, Nat.reduceMul, Nat.reduceEqDiff, cond_true, cond_false, if_true, if_false, reduceIte, implies_true, forall_const, ne_eq, getD_map hx, getD_map hy])
 | (simp (disch := omega) only [wr64, Int.zero_sub]; try simp only [zT, zV, zS, zU, vcC, lateX, ex, strp, cnd, binA, kseq, kblk, kret, klp, Abs.one, elems, cells, scalar, eqC, Nat.reduceBEq, Nat.reduceAdd, Nat.reduceSub, Nat.reduceLT, Nat.reduceLeDiff, Nat.reduceMul, Nat.reduceEqDiff, cond_true, cond_false, if_true, if_false, reduceIte, implies_true, forall_const, ne_eq, getD_map hx, getD_map hy])
 | (refine AWPC.both (fun _ => ?_) (fun _ => ?_))
 | (refine AWPC.imp (fun _ => ?_))
 | ((refine .inl ⟨_, _, _, .any, rfl, fun h => absurd h Bool.false_ne_true, ?_⟩); refine owp_of_exs ?_; simp only [zT, zV, zS, zU, vcC, lateX, ex, strp, cnd, binA, kseq, kblk, kret, klp, Abs.one, elems, cells, scalar, eqC, Nat.reduceBEq, Nat.reduceAdd, Nat.reduceSub, Nat.reduceLT, Nat.reduceLeDiff, Nat.reduceMul, Nat.reduceEqDiff, cond_true, cond_false, if_true, if_false, reduceIte, implies_true, forall_const, ne_eq, getD_map hx, getD_map hy])
 | (refine ⟨by omega, ?_⟩)
 | (refine And.intro (by (intros; first | (simp_all (config := { decide := false }); done) | fail)) ?_)
 | fail)
        all_goals try (exfalso; omega)
        · rename_i g
          refine Frz.eq (congrArg bl ?_) (by simp)
          rw [decide_eq_false]
          rintro rfl
          rw [hx] at hy; injection hy with hy; exact g (hy ▸ ⟨rfl, rfl⟩)
        · rename_i g
          refine ⟨⟨i + 1, hlt, htn.2 ⟨hI, ?_⟩⟩, by simp, by simp only; omega⟩
          cases x; cases y; simp only at g; rw [g.1, g.2]
      · obtain rfl : i = a.length := by omega
        rw [List.take_length, hl, List.take_length] at hI
        (repeat' first
 | (refine AWPC.of_vcn rfl ?_; simp only [zT, zV, zS, zU, vcC, lateX, ex, strp, cnd, binA, kseq, kblk, kret, klp, Abs.one, elems, cells, scalar, eqC, Nat.reduceBEq, Nat.reduceAdd, Nat.reduceSub, Nat.reduceLT, Nat.reduceLeDiff, Nat.reduceMul, Nat.reduceEqDiff, cond_true, cond_false, if_true, if_false, reduceIte, implies_true, forall_const, ne_eq])
 | (simp (disch := omega) only [wr64, Int.zero_sub]; try simp only [zT, zV, zS, zU, vcC, lateX, ex, strp, cnd, binA, kseq, kblk, kret, klp, Abs.one, elems, cells, scalar, eqC, Nat.reduceBEq, Nat.reduceAdd, Nat.reduceSub, Nat.reduceLT, Nat.reduceLeDiff, Nat.reduceMul, Nat.reduceEqDiff, cond_true, cond_false, if_true, if_false, reduceIte, implies_true, forall_const, ne_eq])
 | (refine AWPC.both (fun _ => ?_) (fun _ => ?_))
 | (refine AWPC.imp (fun _ => ?_))
 | ((refine .inl ⟨_, _, _, .any, rfl, fun h => absurd h Bool.false_ne_true, ?_⟩); refine owp_of_exs ?_; simp only [zT, zV, zS, zU, vcC, lateX, ex, strp, cnd, binA, kseq, kblk, kret, klp, Abs.one, elems, cells, scalar, eqC, Nat.reduceBEq, Nat.reduceAdd, Nat.reduceSub, Nat.reduceLT, Nat.reduceLeDiff, Nat.reduceMul, Nat.reduceEqDiff, cond_true, cond_false, if_true, if_false, reduceIte, implies_true, forall_const, ne_eq])
 | (refine ⟨by omega, ?_⟩)
 | (refine And.intro (by (intros; first | (simp_all (config := { decide := false }); done) | fail)) ?_)
 | fail)
        all_goals try (exfalso; omega)
        exact Frz.eq (by simp [hI]) (by simp)

theorem okR_app {σ τ : Sto} {q : List Sp × Option Nat} (h : okR σ q) : okR (σ ++ τ) q := by
  obtain ⟨l, g⟩ := q
  cases g with
  | none => trivial
  | some g => simp only [okR] at h ⊢; rw [at_appL (at_lt h)]; exact h
theorem kret_mono {rs : List RF} {R R' : AV → Sto → Prop} {e : Exit} {env : Env} {σ : Sto} (hR : ∀ v σ', R v σ' → R' v σ') (h : kret rs R e env σ) : kret rs R' e env σ := by
  unfold kret at h ⊢
  cases e with
  | normal =>
    simp only at h ⊢
    split at h
    · exact ⟨h.1, hR _ _ h.2⟩
    · exact h.elim
  | ret =>
    simp only at h ⊢
    split at h
    · exact ⟨h.1, hR _ _ h.2⟩
    · exact h.elim
  | _ => exact h

theorem Added.row {σ σ' : Sto} {f e : Nat} {o : Ob} {rest : List AV} {s r : List Sp} (h : Added σ f e o rest s r σ') (hf : σ.at f 0 = some o) (t : List Sp) (ht : Norm t) (hm : ∀ v, Mem v t ↔ Mem v s ∨ Mem v r) :
    σ'.at f 0 = some (setIn o e (σ.length + 1) t.length rest) ∧ okR σ' (t, some (σ.length + 1)) ∧ (∀ i j, i < σ.length → i ≠ f → σ'.at i j = σ.at i j) ∧ σ.length ≤ σ'.length := by
  obtain ⟨l', ν, rfl, h1, h2, h3, h4, h5⟩ := h
  have hfl := at_lt hf
  obtain rfl : l' = t := Norm.ext h2 ht fun v => by rw [h3, hm]
  refine ⟨?_, h1, fun i j hi hne => ?_, by rw [List.length_append, upd_len]; omega⟩
  · rw [at_appL (by rw [upd_len]; exact hfl)]; exact at_upd_same hf
  · rw [at_appL (by rw [upd_len]; exact hi)]; exact at_upd_other (.inl (fun h => hne h.symm))

/-- A cell of a set: nothing yet, or spans that can be read. -/
def RowR (σ : Sto) (c : AV) (s : List Sp) : Prop := (c = .v (.slice none 0 0) ∧ s = []) ∨ ∃ q, c = avR q ∧ q.1 = s ∧ okR σ q

theorem add_any (σ : Sto) (f N e : Nat) (o : Ob) (c : AV) (rest : List AV) (s : List Sp) (r : List Sp × Option Nat) (hf : σ.at f 0 = some o) (hN : o.es.length = N) (he : e < N) (hk : o.k = rest.length + 1) (hrow : o.es.getD e [] = c :: rest) (hlp : o.lp = none)
    (hc : RowR σ c s) (hr : okR σ r) (hne : ∀ u ∈ s ++ r.1, u.lo ≤ u.hi ∧ -1000000 ≤ u.lo ∧ u.hi ≤ 1000000) (hlen : s.length + r.1.length < 1000000000) (t : List Sp) (ht : Norm t) (hm : ∀ v, Mem v t ↔ Mem v s ∨ Mem v r.1) :
    Does Try.prog 104 [.ptr f 0 N e 0, avR r] σ (fun _ σ' => ∃ G, σ.length ≤ G ∧ σ'.at f 0 = some (setIn o e G t.length rest) ∧ okR σ' (t, some G) ∧ (∀ i j, i < σ.length → i ≠ f → σ'.at i j = σ.at i j) ∧ σ.length ≤ σ'.length) := by
  have hfl := at_lt hf
  refine Does.of_body Try.call104 Try.func104 k104 (Nat.le_of_ble_eq_true rfl) ?_
  rcases hc with ⟨rfl, rfl⟩ | ⟨q, rfl, rfl, hq⟩
  · have hgs : o.es.getD e [] = (o.es[e]'(by omega)) := by simp [List.getD_eq_getElem?_getD, show e < o.es.length by omega]
    refine AWPC.own0c 23 2 (f := f) (i := 0) (e := e) (j := 0) hf (by omega) (by rw [hrow]; rfl) ?_
    have hst : Sto.upd (σ ++ [some [⟨23, 2, [], none⟩]]) f 0 { o with es := o.es.set e ((o.es.getD e []).set 0 (.own σ.length 0 0)) } = Sto.upd σ f 0 (setIn o e σ.length 0 rest) ++ [some [spO []]] := by
      rw [upd_appL hfl, hrow]; rfl
    rw [hst]
    have hf2 : Sto.at (Sto.upd σ f 0 (setIn o e σ.length 0 rest) ++ [some [spO []]]) f 0 = some (setIn o e σ.length 0 rest) := by
      rw [at_appL (by rw [upd_len]; exact hfl)]; exact at_upd_same hf
    have hg2 : Sto.at (Sto.upd σ f 0 (setIn o e σ.length 0 rest) ++ [some [spO []]]) σ.length 0 = some (spO []) := by
      have := at_app0 (Sto.upd σ f 0 (setIn o e σ.length 0 rest)) [some [spO []]] 0
      rw [upd_len] at this; rw [this]; rfl
    have hl2 : List.length (Sto.upd σ f 0 (setIn o e σ.length 0 rest) ++ [some [spO []]]) = σ.length + 1 := by rw [List.length_append, upd_len]; rfl
    have hfar : ∀ i j, i < σ.length → i ≠ f → Sto.at (Sto.upd σ f 0 (setIn o e σ.length 0 rest) ++ [some [spO []]]) i j = σ.at i j := fun i j hi hne => by
      rw [at_appL (by rw [upd_len]; exact hi)]; exact at_upd_other (.inl (fun h => hne h.symm))
    have hr2 : okR (Sto.upd σ f 0 (setIn o e σ.length 0 rest) ++ [some [spO []]]) r := by
      obtain ⟨l, g⟩ := r
      cases g with
      | none => trivial
      | some g =>
        simp only [okR] at hr ⊢
        rw [hfar g 0 (at_lt hr) (by
          rintro rfl
          rw [hf] at hr; injection hr with hr
          subst hr
          have hel : e < (spO l).es.length := by omega
          have hex : e < l.length := by simpa [spO] using hel
          rw [show (spO l).es = l.map Sp.cs from rfl, getD_map (List.getElem?_eq_getElem hex)] at hrow
          cases hrow)]
        exact hr
    generalize Sto.upd σ f 0 (setIn o e σ.length 0 rest) ++ [some [spO []]] = σ2 at *
    refine AWPC.mono (fun ex env τ h => ?_) (add_awpc σ2 f N e (setIn o e σ.length 0 rest) rest ([], some σ.length) r hf2 (by simp [hN]) he hk (by simp [List.getD_eq_getElem?_getD, show e < o.es.length by omega, avR]) hlp hg2 hr2 hne hlen)
    refine kret_mono (fun v σ' h => ?_) h
    have hrw := Added.row h hf2 t ht hm
    refine ⟨σ2.length + 1, by omega, ?_, hrw.2.1, fun i j hi hne => by rw [hrw.2.2.1 i j (by omega) hne, hfar i j hi hne], by omega⟩
    rw [hrw.1]; simp [setIn]
  · refine AWPC.mono (fun ex env τ h => ?_) (add_awpc σ f N e o rest q r hf hN he hk hrow hlp hq hr hne hlen)
    refine kret_mono (fun v σ' h => ?_) h
    have hrw := Added.row h hf t ht hm
    exact ⟨σ.length + 1, by omega, hrw.1, hrw.2.1, hrw.2.2.1, hrw.2.2.2⟩

/-- The set that `meet` gathers. -/
def MS (L : List Sp) (σ : Sto) : Prop := ∃ q : List Sp × Option Nat, q.1 = L ∧ σ.at 0 0 = some ⟨90, 1, [[avR q]], none⟩ ∧ okR σ q

theorem meet_spec (a b : List Sp) (ha : ∀ x ∈ a, -1000000 ≤ x.lo ∧ x.hi ≤ 1000000) (hal : a.length ≤ 10000) (hbl : b.length ≤ 10000) : Pure Try.prog 108 [spS a, spS b] (spS (meet a b)) := by
  refine Pure.of_body Try.call108 Try.func108 k108 (Nat.le_of_ble_eq_true rfl) ?_
  have hmul : a.length * b.length ≤ 100000000 := Nat.le_trans (Nat.mul_le_mul hal hbl) (by decide)
  unfold c108
  (repeat' first
 | (refine AWPC.of_vcn rfl ?_; simp only [zT, zV, zS, zU, vcC, lateX, ex, strp, cnd, binA, kseq, kblk, kret, klp, Abs.one, elems, cells, scalar, eqC, Nat.reduceBEq, Nat.reduceAdd, Nat.reduceSub, Nat.reduceLT, Nat.reduceLeDiff, Nat.reduceMul, Nat.reduceEqDiff, cond_true, cond_false, if_true, if_false, reduceIte, implies_true, forall_const, ne_eq])
 | (simp (disch := omega) only [wr64, Int.zero_sub]; try simp only [zT, zV, zS, zU, vcC, lateX, ex, strp, cnd, binA, kseq, kblk, kret, klp, Abs.one, elems, cells, scalar, eqC, Nat.reduceBEq, Nat.reduceAdd, Nat.reduceSub, Nat.reduceLT, Nat.reduceLeDiff, Nat.reduceMul, Nat.reduceEqDiff, cond_true, cond_false, if_true, if_false, reduceIte, implies_true, forall_const, ne_eq])
 | (refine AWPC.both (fun _ => ?_) (fun _ => ?_))
 | (refine AWPC.imp (fun _ => ?_))
 | ((refine .inl ⟨_, _, _, .any, rfl, fun h => absurd h Bool.false_ne_true, ?_⟩); refine owp_of_exs ?_; simp only [zT, zV, zS, zU, vcC, lateX, ex, strp, cnd, binA, kseq, kblk, kret, klp, Abs.one, elems, cells, scalar, eqC, Nat.reduceBEq, Nat.reduceAdd, Nat.reduceSub, Nat.reduceLT, Nat.reduceLeDiff, Nat.reduceMul, Nat.reduceEqDiff, cond_true, cond_false, if_true, if_false, reduceIte, implies_true, forall_const, ne_eq])
 | (refine ⟨by omega, ?_⟩)
 | (refine And.intro (by (intros; first | (simp_all (config := { decide := false }); done) | fail)) ?_)
 | fail)
  refine AWPC.own0c 23 2 (f := 0) (i := 0) (e := 0) (j := 0) rfl (by simp) rfl ?_
  refine AWPC.loopE (α := { p : Nat × Sto // p.1 ≤ a.length ∧ MS (meet (a.take p.1) b) p.2 }) [13] (fun p => [(13, n p.1.1)]) (fun p => p.1.2) (fun p => a.length - p.1.1) ⟨(0, [some [⟨90, 1, [[.own 1 0 0]], none⟩], some [⟨23, 2, [], none⟩]]), Nat.zero_le _, ⟨([], some 1), rfl, rfl, rfl⟩⟩ ?_ rfl ?_
  · (simp only [zT, zV, zS, zU, vcC, lateX, ex, strp, cnd, binA, kseq, kblk, kret, klp, Abs.one, elems, cells, scalar, eqC, Nat.reduceBEq, Nat.reduceAdd, Nat.reduceSub, Nat.reduceLT, Nat.reduceLeDiff, Nat.reduceMul, Nat.reduceEqDiff, cond_true, cond_false, if_true, if_false, reduceIte, implies_true, forall_const, ne_eq]; try simp)
  rintro ⟨⟨i, σ⟩, hi, q, hqL, hq0, hq⟩
  simp only at hi hqL hq0 hq
  simp only
  have hok := meet_take_ok (b := b) i ha
  have h0S := at_lt hq0
  by_cases hlt : i < a.length
  · obtain ⟨s, hs⟩ : ∃ r, a[i]? = some r := ⟨_, List.getElem?_eq_getElem hlt⟩
    have hsb := ha s (List.mem_of_getElem? hs)
    have hnx := meet_next (b := b) hs
    have hsg : (a.map Sp.cs).getD i [] = s.cs := by simp [List.getD_eq_getElem?_getD, hs]
    (repeat' first
 | (refine AWPC.of_vcn rfl ?_; simp only [zT, zV, zS, zU, vcC, lateX, ex, strp, cnd, binA, kseq, kblk, kret, klp, Abs.one, elems, cells, scalar, eqC, Nat.reduceBEq, Nat.reduceAdd, Nat.reduceSub, Nat.reduceLT, Nat.reduceLeDiff, Nat.reduceMul, Nat.reduceEqDiff, cond_true, cond_false, if_true, if_false, reduceIte, implies_true, forall_const, ne_eq, hsg])
 | (simp (disch := omega) only [wr64, Int.zero_sub]; try simp only [zT, zV, zS, zU, vcC, lateX, ex, strp, cnd, binA, kseq, kblk, kret, klp, Abs.one, elems, cells, scalar, eqC, Nat.reduceBEq, Nat.reduceAdd, Nat.reduceSub, Nat.reduceLT, Nat.reduceLeDiff, Nat.reduceMul, Nat.reduceEqDiff, cond_true, cond_false, if_true, if_false, reduceIte, implies_true, forall_const, ne_eq, hsg])
 | (refine AWPC.both (fun _ => ?_) (fun _ => ?_))
 | (refine AWPC.imp (fun _ => ?_))
 | ((refine .inl ⟨_, _, _, .any, rfl, fun h => absurd h Bool.false_ne_true, ?_⟩); refine owp_of_exs ?_; simp only [zT, zV, zS, zU, vcC, lateX, ex, strp, cnd, binA, kseq, kblk, kret, klp, Abs.one, elems, cells, scalar, eqC, Nat.reduceBEq, Nat.reduceAdd, Nat.reduceSub, Nat.reduceLT, Nat.reduceLeDiff, Nat.reduceMul, Nat.reduceEqDiff, cond_true, cond_false, if_true, if_false, reduceIte, implies_true, forall_const, ne_eq, hsg])
 | (refine ⟨by omega, ?_⟩)
 | (refine And.intro (by (intros; first | (simp_all (config := { decide := false }); done) | fail)) ?_)
 | fail)
    all_goals try (exfalso; omega)
    refine AWPC.loopE (α := { p : Nat × Sto // p.1 ≤ b.length ∧ MS (joins (meet (a.take i) b) ((caps s b).take p.1)) p.2 ∧ p.2.at σ.length 0 = some ⟨23, 2, [s.cs], none⟩ }) [19] (fun p => [(19, n p.1.1)]) (fun p => p.1.2) (fun p => b.length - p.1.1)
      ⟨(0, σ ++ [some [⟨23, 2, [s.cs], none⟩]]), Nat.zero_le _, ⟨q, by rw [hqL]; rfl, by rw [at_appL h0S]; exact hq0, okR_app hq⟩, by simp [Sto.at]⟩ ?_ ?_ ?_
    · (simp only [zT, zV, zS, zU, vcC, lateX, ex, strp, cnd, binA, kseq, kblk, kret, klp, Abs.one, elems, cells, scalar, eqC, Nat.reduceBEq, Nat.reduceAdd, Nat.reduceSub, Nat.reduceLT, Nat.reduceLeDiff, Nat.reduceMul, Nat.reduceEqDiff, cond_true, cond_false, if_true, if_false, reduceIte, implies_true, forall_const, ne_eq]; try simp)
    · rfl
    rintro ⟨⟨j, τ⟩, hj, ⟨q2, hqL2, hq02, hq2⟩, hB⟩
    simp only at hj hqL2 hq02 hq2 hB
    simp only
    have hok2 := joins_ok (b := (caps s b).take j) (fun x hx => caps_bd (b := b) hsb x (List.mem_of_mem_take hx)) hok
    have hl2 : ((caps s b).take j).length ≤ b.length := by have := List.length_take_le' j (caps s b); simpa [caps] using this
    have hl3 := hok2.len
    have h0T := at_lt hq02
    have hBT := at_lt hB
    by_cases hlt2 : j < b.length
    · obtain ⟨t, ht⟩ : ∃ r, b[j]? = some r := ⟨_, List.getElem?_eq_getElem hlt2⟩
      have htg : (b.map Sp.cs).getD j [] = t.cs := by simp [List.getD_eq_getElem?_getD, ht]
      have hct : (caps s b)[j]? = some (s.cap t) := by simp [caps, ht]
      have hn2 := joins_next (l := meet (a.take i) b) hct
      rw [← hqL2] at hok2 hl3 hn2
      generalize hbox : ([some [⟨23, 2, [t.cs], none⟩], some [⟨23, 2, [(s.cap t).cs], none⟩]] : Sto) = bx
      have hadd : s.lo ≤ t.hi → t.lo ≤ s.hi → (s.cap t).lo ≤ (s.cap t).hi → Does Try.prog 104 [.ptr 0 0 1 0 0, avR ([s.cap t], none)] (τ ++ bx) (fun _ σ' => Added (τ ++ bx) 0 0 ⟨90, 1, [[avR q2]], none⟩ [] q2.1 [s.cap t] σ') := fun _ _ hc =>
        add_does (τ ++ bx) 0 1 0 ⟨90, 1, [[avR q2]], none⟩ [] q2 ([s.cap t], none) (by rw [at_appL h0T]; exact hq02) rfl (by omega) rfl rfl rfl (okR_app hq2) trivial (fun u hu => by
          rcases List.mem_append.1 hu with hu | hu
          · exact ⟨hok2.nm.ne u hu, hok2.bd u hu⟩
          · obtain rfl : u = s.cap t := by simpa using hu
            simp only [Sp.cap] at hc ⊢; omega) (by simp only [List.length_cons, List.length_nil]; omega)
      subst hbox
      (repeat' first
 | (refine AWPC.of_vcn rfl ?_; simp only [zT, zV, zS, zU, vcC, lateX, ex, strp, cnd, binA, kseq, kblk, kret, klp, Abs.one, elems, cells, scalar, eqC, Nat.reduceBEq, Nat.reduceAdd, Nat.reduceSub, Nat.reduceLT, Nat.reduceLeDiff, Nat.reduceMul, Nat.reduceEqDiff, cond_true, cond_false, if_true, if_false, reduceIte, implies_true, forall_const, ne_eq, htg, hB, at_appL hBT, at_appL h0T, hq02])
 | (simp (disch := omega) only [wr64, Int.zero_sub]; try simp only [zT, zV, zS, zU, vcC, lateX, ex, strp, cnd, binA, kseq, kblk, kret, klp, Abs.one, elems, cells, scalar, eqC, Nat.reduceBEq, Nat.reduceAdd, Nat.reduceSub, Nat.reduceLT, Nat.reduceLeDiff, Nat.reduceMul, Nat.reduceEqDiff, cond_true, cond_false, if_true, if_false, reduceIte, implies_true, forall_const, ne_eq, htg, hB, at_appL hBT, at_appL h0T, hq02])
 | (refine AWPC.both (fun _ => ?_) (fun _ => ?_))
 | (refine AWPC.imp (fun _ => ?_))
 | ((refine .inl ⟨_, _, _, .any, rfl, fun h => absurd h Bool.false_ne_true, ?_⟩); refine owp_of_exs ?_; simp only [zT, zV, zS, zU, vcC, lateX, ex, strp, cnd, binA, kseq, kblk, kret, klp, Abs.one, elems, cells, scalar, eqC, Nat.reduceBEq, Nat.reduceAdd, Nat.reduceSub, Nat.reduceLT, Nat.reduceLeDiff, Nat.reduceMul, Nat.reduceEqDiff, cond_true, cond_false, if_true, if_false, reduceIte, implies_true, forall_const, ne_eq, htg, hB, at_appL hBT, at_appL h0T, hq02])
 | (refine ⟨by omega, ?_⟩)
 | (refine And.intro (by (intros; first | (simp_all (config := { decide := false }); done) | fail)) ?_)
 | fail)
      all_goals try (exfalso; omega)
      · rename_i hc
        refine .inr (.inl ⟨_, _, _, _, rfl, fun _ => ⟨hadd (by omega) (by omega) hc, ?_⟩, fun h => by cases h⟩)
        rintro res σ' had
        have hrow := had.row (by rw [at_appL h0T]; exact hq02) (joinE q2.1 (s.cap t)) (joinE_norm hok2.nm) (fun v => by rw [joinE_mem hok2.nm, mem_cons]; simp [Mem.nil])
        refine owp_of_exs ?_
        simp only [zT, zV, zS, zU, vcC, lateX, ex, strp, cnd, binA, kseq, kblk, kret, klp, Abs.one, elems, cells, scalar, eqC, Nat.reduceBEq, Nat.reduceAdd, Nat.reduceSub, Nat.reduceLT, Nat.reduceLeDiff, Nat.reduceMul, Nat.reduceEqDiff, cond_true, cond_false, if_true, if_false, reduceIte, implies_true, forall_const, ne_eq]
        (repeat' first
 | (refine AWPC.of_vcn rfl ?_; simp only [zT, zV, zS, zU, vcC, lateX, ex, strp, cnd, binA, kseq, kblk, kret, klp, Abs.one, elems, cells, scalar, eqC, Nat.reduceBEq, Nat.reduceAdd, Nat.reduceSub, Nat.reduceLT, Nat.reduceLeDiff, Nat.reduceMul, Nat.reduceEqDiff, cond_true, cond_false, if_true, if_false, reduceIte, implies_true, forall_const, ne_eq])
 | (simp (disch := omega) only [wr64, Int.zero_sub]; try simp only [zT, zV, zS, zU, vcC, lateX, ex, strp, cnd, binA, kseq, kblk, kret, klp, Abs.one, elems, cells, scalar, eqC, Nat.reduceBEq, Nat.reduceAdd, Nat.reduceSub, Nat.reduceLT, Nat.reduceLeDiff, Nat.reduceMul, Nat.reduceEqDiff, cond_true, cond_false, if_true, if_false, reduceIte, implies_true, forall_const, ne_eq])
 | (refine AWPC.both (fun _ => ?_) (fun _ => ?_))
 | (refine AWPC.imp (fun _ => ?_))
 | ((refine .inl ⟨_, _, _, .any, rfl, fun h => absurd h Bool.false_ne_true, ?_⟩); refine owp_of_exs ?_; simp only [zT, zV, zS, zU, vcC, lateX, ex, strp, cnd, binA, kseq, kblk, kret, klp, Abs.one, elems, cells, scalar, eqC, Nat.reduceBEq, Nat.reduceAdd, Nat.reduceSub, Nat.reduceLT, Nat.reduceLeDiff, Nat.reduceMul, Nat.reduceEqDiff, cond_true, cond_false, if_true, if_false, reduceIte, implies_true, forall_const, ne_eq])
 | (refine ⟨by omega, ?_⟩)
 | (refine And.intro (by (intros; first | (simp_all (config := { decide := false }); done) | fail)) ?_)
 | fail)
        refine ⟨⟨(j + 1, σ'), hlt2, ⟨(_, some _), hn2.symm, hrow.1, hrow.2.1⟩, ?_⟩, by simp, rfl, by simp only; omega⟩
        rw [hrow.2.2.1 _ _ (by rw [List.length_append]; omega) (by omega), at_appL hBT]; exact hB
      · rename_i hc
        refine ⟨⟨(j + 1, _), hlt2, ⟨q2, ?_, by rw [at_appL h0T]; exact hq02, okR_app hq2⟩, by rw [at_appL hBT]; exact hB⟩, by simp, rfl, by simp only; omega⟩
        rw [hn2, joinE, if_pos (by simp only [Sp.cap]; omega)]
    · obtain rfl : j = b.length := by omega
      have e : (caps s b).take b.length = caps s b := List.take_of_length_le (by unfold caps; rw [List.length_map]; exact Nat.le_refl _)
      have hqn : q2.1 = meet (a.take (i + 1)) b := by rw [hqL2, e, hnx]
      (repeat' first
 | (refine AWPC.of_vcn rfl ?_; simp only [zT, zV, zS, zU, vcC, lateX, ex, strp, cnd, binA, kseq, kblk, kret, klp, Abs.one, elems, cells, scalar, eqC, Nat.reduceBEq, Nat.reduceAdd, Nat.reduceSub, Nat.reduceLT, Nat.reduceLeDiff, Nat.reduceMul, Nat.reduceEqDiff, cond_true, cond_false, if_true, if_false, reduceIte, implies_true, forall_const, ne_eq])
 | (simp (disch := omega) only [wr64, Int.zero_sub]; try simp only [zT, zV, zS, zU, vcC, lateX, ex, strp, cnd, binA, kseq, kblk, kret, klp, Abs.one, elems, cells, scalar, eqC, Nat.reduceBEq, Nat.reduceAdd, Nat.reduceSub, Nat.reduceLT, Nat.reduceLeDiff, Nat.reduceMul, Nat.reduceEqDiff, cond_true, cond_false, if_true, if_false, reduceIte, implies_true, forall_const, ne_eq])
 | (refine AWPC.both (fun _ => ?_) (fun _ => ?_))
 | (refine AWPC.imp (fun _ => ?_))
 | ((refine .inl ⟨_, _, _, .any, rfl, fun h => absurd h Bool.false_ne_true, ?_⟩); refine owp_of_exs ?_; simp only [zT, zV, zS, zU, vcC, lateX, ex, strp, cnd, binA, kseq, kblk, kret, klp, Abs.one, elems, cells, scalar, eqC, Nat.reduceBEq, Nat.reduceAdd, Nat.reduceSub, Nat.reduceLT, Nat.reduceLeDiff, Nat.reduceMul, Nat.reduceEqDiff, cond_true, cond_false, if_true, if_false, reduceIte, implies_true, forall_const, ne_eq])
 | (refine ⟨by omega, ?_⟩)
 | (refine And.intro (by (intros; first | (simp_all (config := { decide := false }); done) | fail)) ?_)
 | fail)
      all_goals try (exfalso; omega)
      exact ⟨⟨(i + 1, τ), hlt, q2, hqn, hq02, hq2⟩, by simp, rfl, by simp only; omega⟩
  · obtain rfl : i = a.length := by omega
    rw [List.take_length] at *
    obtain ⟨l, g⟩ := q
    simp only at hqL
    subst hqL
    cases g
    all_goals
      simp only [avR] at hq0 ⊢
      (repeat' first
 | (refine AWPC.of_vcn rfl ?_; simp only [zT, zV, zS, zU, vcC, lateX, ex, strp, cnd, binA, kseq, kblk, kret, klp, Abs.one, elems, cells, scalar, eqC, Nat.reduceBEq, Nat.reduceAdd, Nat.reduceSub, Nat.reduceLT, Nat.reduceLeDiff, Nat.reduceMul, Nat.reduceEqDiff, cond_true, cond_false, if_true, if_false, reduceIte, implies_true, forall_const, ne_eq, hq0])
 | (simp (disch := omega) only [wr64, Int.zero_sub]; try simp only [zT, zV, zS, zU, vcC, lateX, ex, strp, cnd, binA, kseq, kblk, kret, klp, Abs.one, elems, cells, scalar, eqC, Nat.reduceBEq, Nat.reduceAdd, Nat.reduceSub, Nat.reduceLT, Nat.reduceLeDiff, Nat.reduceMul, Nat.reduceEqDiff, cond_true, cond_false, if_true, if_false, reduceIte, implies_true, forall_const, ne_eq, hq0])
 | (refine AWPC.both (fun _ => ?_) (fun _ => ?_))
 | (refine AWPC.imp (fun _ => ?_))
 | ((refine .inl ⟨_, _, _, .any, rfl, fun h => absurd h Bool.false_ne_true, ?_⟩); refine owp_of_exs ?_; simp only [zT, zV, zS, zU, vcC, lateX, ex, strp, cnd, binA, kseq, kblk, kret, klp, Abs.one, elems, cells, scalar, eqC, Nat.reduceBEq, Nat.reduceAdd, Nat.reduceSub, Nat.reduceLT, Nat.reduceLeDiff, Nat.reduceMul, Nat.reduceEqDiff, cond_true, cond_false, if_true, if_false, reduceIte, implies_true, forall_const, ne_eq, hq0])
 | (refine ⟨by omega, ?_⟩)
 | (refine And.intro (by (intros; first | (simp_all (config := { decide := false }); done) | fail)) ?_)
 | fail)
      all_goals try (exfalso; omega)
    · exact Frz.eq rfl (by simp)
    · exact frz_sp' _ hq rfl
end Go.Proofs.Ytgpdckmbojmlpaa

namespace Go.Abs
set_option linter.unusedVariables false
set_option linter.unusedSimpArgs false

section
variable {w w0 : World} {X X0 X' : Nat → Prop} {β β0 : Blk} {σ σ0 σ1 ν : Sto}

/-- The objects before are blank. -/
def blank (m : Nat) (ν : Sto) : Sto := List.replicate m none ++ ν

theorem at_blank {m f i : Nat} {o : Ob} (h : Sto.at (blank m ν) f i = some o) : m ≤ f ∧ Sto.at ν (f - m) i = some o := by
  unfold blank Sto.at at h
  unfold Sto.at
  rcases Nat.lt_or_ge f m with hf | hf
  · rw [List.getElem?_append_left (by simpa using hf)] at h
    simp [List.getElem?_replicate, hf] at h
  · rw [List.getElem?_append_right (by simpa using hf)] at h
    simp only [List.length_replicate] at h
    exact ⟨hf, h⟩

theorem at_blank_app {f i : Nat} {o : Ob} (h : Sto.at (blank σ1.length ν) f i = some o) : Sto.at (σ1 ++ ν) f i = some o := by
  obtain ⟨hf, h⟩ := at_blank h
  unfold Sto.at at h ⊢
  rw [List.getElem?_append_right hf]; exact h

/-- A value, when objects are forgotten. -/
theorem RV.forget {v : AV} {x : Value} (h : RV w X β σ v x) (hX : ∀ b, X' b → X b) (hl : σ.length = σ1.length) (hs : ∀ f i o, σ1.at f i = some o → σ.at f i = some o) : RV w X' β σ1 v x := by
  induction h with
  | v x => exact .v x
  | any x => exact .any x
  | agg cs xs hn h1 _ ih => exact .agg cs xs hn h1 ih
  | tup cs xs hn _ ih => exact .tup cs xs hn ih
  | slnil k => exact .slnil k
  | slemp k a cap => exact .slemp k a cap
  | sl k es b o cap x hcap hk hc hXx h1 _ ih => exact .sl k es b o cap x hcap hk hc (fun e j he hj hb => hXx e j he hj (hX _ hb)) h1 ih
  | own f i n x h1 hf hle h => exact .own f i n x h1 (hl ▸ hf) (fun o ho => hle o (hs _ _ _ ho)) fun o ho => h o (hs _ _ _ ho)
  | ptr f i n e j x h1 hf hle h => exact .ptr f i n e j x h1 (hl ▸ hf) (fun o ho => hle o (hs _ _ _ ho)) fun o ho => h o (hs _ _ _ ho)
  | iptr cs j b o x hXx h1 hc _ ih => exact .iptr cs j b o x (fun t ht hb => hXx t ht (hX _ hb)) h1 hc ih
  | fn f first cap xs ys hn hm _ _ ih ih' => exact .fn f first cap xs ys hn hm ih ih'
  | yld f x h1 hf h => exact .yld f x h1 (hl ▸ hf) fun o ho => h o (hs _ _ _ ho)
  | ifc t a x _ ih => exact .ifc t a x ih
  | when c a x _ h' ih => exact .when c a x ih h'

/-- A value that was there before the new objects. -/
theorem RV.shrink {v : AV} {x : Value} (h : RV w X β (σ1 ++ ν) v x) (hX : ∀ b, X' b → X b) : ∀ {y : Value}, RV w0 X0 β0 σ0 v y → σ0.length = σ1.length → RV w X' β σ1 v x := by
  have at1 : ∀ f i, f < σ1.length → Sto.at (σ1 ++ ν) f i = Sto.at σ1 f i := fun f i hf => by unfold Sto.at; rw [List.getElem?_append_left hf]
  induction h with
  | v x => intro y hy hl; exact .v x
  | any x => intro y hy hl; exact .any x
  | agg cs xs hn h1 _ ih => intro y hy hl; cases hy with
    | agg _ ys hn' h1' hr => exact .agg cs xs hn h1 fun i hi => ih i hi (hr i hi) hl
  | tup cs xs hn _ ih => intro y hy hl; cases hy with
    | tup _ ys hn' hr => exact .tup cs xs hn fun i hi => ih i hi (hr i hi) hl
  | slnil k => intro y hy hl; exact .slnil k
  | slemp k a cap => intro y hy hl; exact .slemp k a cap
  | sl k es b o cap x hcap hk hc hXx h1 _ ih =>
    intro y hy hl
    refine .sl k es b o cap x hcap hk hc (fun e j he hj hb => hXx e j he hj (hX _ hb)) h1 fun e j he hj => ?_
    cases hy with
    | slnil => exact absurd he (Nat.not_lt_zero _)
    | slemp => exact absurd he (Nat.not_lt_zero _)
    | sl _ _ b' o' cap' x' hcap' hk' hc' hX' h1' hr => exact ih e j he hj (hr e j he hj) hl
  | own f i n x h1 hf hle h => intro y hy hl; cases hy with
    | own _ _ _ _ _ hf' => exact .own f i n x h1 (by omega) (fun o ho => hle o (by rw [at1 f i (by omega)]; exact ho)) fun o ho => h o (by rw [at1 f i (by omega)]; exact ho)
  | ptr f i n e j x h1 hf hle h => intro y hy hl; cases hy with
    | ptr _ _ _ _ _ _ _ hf' => exact .ptr f i n e j x h1 (by omega) (fun o ho => hle o (by rw [at1 f i (by omega)]; exact ho)) fun o ho => h o (by rw [at1 f i (by omega)]; exact ho)
  | iptr cs j b o x hXx h1 hc _ ih => intro y hy hl; cases hy with
    | iptr _ _ _ _ x' _ _ _ hr => exact .iptr cs j b o x (fun t ht hb => hXx t ht (hX _ hb)) h1 hc fun t ht => ih t ht (hr t ht) hl
  | fn f first cap xs ys hn hm _ _ ih ih' => intro y hy hl; cases hy with
    | fn _ _ _ xs' ys' hn' hm' hr hr' => exact .fn f first cap xs ys hn hm (fun i hi => ih i hi (hr i hi) hl) fun i hi => ih' i hi (hr' i hi) hl
  | yld f x h1 hf h => intro y hy hl; cases hy with
    | yld _ _ _ hf' => exact .yld f x h1 (by omega) fun o ho => h o (by rw [at1 f 0 (by omega)]; exact ho)
  | ifc t a x _ ih => intro y hy hl; cases hy with
    | ifc _ _ _ hr => exact .ifc t a x (ih hr hl)
  | when c a x _ h' ih => intro y hy hl; cases hy with
    | when _ _ _ hr _ => exact .when c a x (fun hc => ih hc (hr hc) hl) h'

theorem Xt_sub (b : Nat) (h : Xt X β σ1 b) : Xt X β (σ1 ++ ν) b := by
  rcases h with h | ⟨f, i, o, ho, hb⟩
  · exact .inl h
  · exact .inr ⟨f, i, o, by have := at_lt ho; unfold Sto.at at ho ⊢; rw [List.getElem?_append_left this]; exact ho, hb⟩

end

section
variable {P : Program}

/-- The callee's own objects are given away; those of the caller are as they were, or hold plain values. -/
theorem Does.frz {f : Nat} {args : List AV} {σ : Sto} {R : AV → Sto → Prop}
    (h : Does P f args σ (fun v σ' => ∃ (σ1 ν : Sto) (r : AV), σ' = σ1 ++ ν ∧ σ1.length = σ.length ∧ Frz (blank σ1.length ν) v r ∧ R r σ1 ∧
      ∀ g i o, σ1.at g i = some o → o.lp = none ∧ (σ.at g i = some o ∨ ∀ e j, e < o.es.length → j < o.k → PureV ((o.es.getD e []).getD j .any)))) : Does P f args σ R := by
  refine ⟨h.ent, fun X β w xs hX hs hxl hxr => (h.go X β w xs hX hs hxl hxr).mono ?_⟩
  rintro e w' ⟨x, v, σ', β', rfl, ⟨σ1, ν, r, rfl, hlen, hfr, hR, hob⟩, hs', hv, he, kp⟩
  have at1 : ∀ f i o, Sto.at σ1 f i = some o → Sto.at (σ1 ++ ν) f i = some o := fun f i o ho => by
    have := at_lt ho; unfold Sto.at at ho ⊢; rw [List.getElem?_append_left this]; exact ho
  have hsub : ∀ b, Xt X β' σ1 b → Xt X β' (σ1 ++ ν) b := fun b hb => Xt_sub b hb
  have hs1 : SRel w' X β' σ1 := by
    refine ⟨fun f i f' i' o o' b h1 h2 => hs'.inj f i f' i' o o' b (at1 _ _ _ h1) (at1 _ _ _ h2), fun f i o b h1 => hs'.dis f i o b (at1 _ _ _ h1), fun g i o h1 => ?_⟩
    have h2 := hs'.obj g i o (at1 _ _ _ h1)
    obtain ⟨hlp, hcase⟩ := hob g i o h1
    refine ⟨h2.1, ?_⟩
    have h3 := h2.2
    cases hb : β' g i with
    | none => rw [hb] at h3; exact h3
    | some b =>
      rw [hb] at h3
      refine ⟨fun hn => ?_, fun r hr => by rw [hlp] at hr; cases hr⟩
      obtain ⟨c, hc, hsz, hone, hr⟩ := h3.1 hn
      refine ⟨c, hc, hsz, hone, fun e j he hj => ?_⟩
      rcases hcase with hold | hpure
      · have h4 := hs.obj g i o hold
        have h5 := h4.2
        cases hb0 : β g i with
        | none => rw [hb0] at h5; rw [h5.1] at he; exact absurd he (Nat.not_lt_zero _)
        | some b0 =>
          rw [hb0] at h5
          obtain ⟨c0, _, _, _, hr0⟩ := h5.1 hn
          exact (hr e j he hj).shrink hsub (hr0 e j he hj) hlen.symm
      · have h6 := hpure e j he hj _ _ _ _ _ (hr e j he hj)
        exact (RV.forget (X' := Xt X β' σ1) h6 hsub rfl (fun _ _ _ h => h)).out
  have hs2 : SRel w' (Xt X β' σ1) β' (blank σ1.length ν) := by
    have hXX : ∀ b, Xt (Xt X β' σ1) β' (blank σ1.length ν) b → Xt X β' (σ1 ++ ν) b := by
      rintro b (hb | ⟨f, i, o, ho, hb⟩)
      · exact hsub b hb
      · exact .inr ⟨f, i, o, at_blank_app ho, hb⟩
    refine ⟨fun f i f' i' o o' b h1 h2 => hs'.inj f i f' i' o o' b (at_blank_app h1) (at_blank_app h2), fun f i o b h1 h2 hx => ?_, fun g i o h1 => ?_⟩
    · rcases hx with hx | ⟨f', i', o', ho', hb'⟩
      · exact hs'.dis f i o b (at_blank_app h1) h2 hx
      · have := hs'.inj f i f' i' o o' b (at_blank_app h1) (at1 _ _ _ ho') h2 hb'
        have h3 := (at_blank h1).1
        have := at_lt ho'
        omega
    · have h2 := hs'.obj g i o (at_blank_app h1)
      have hll : (σ1 ++ ν).length = (blank σ1.length ν).length := by unfold blank; simp
      refine ⟨h2.1, ?_⟩
      have h3 := h2.2
      cases hb : β' g i with
      | none => rw [hb] at h3; exact h3
      | some b =>
        rw [hb] at h3
        refine ⟨fun hn => ?_, fun r hr => ?_⟩
        · obtain ⟨c, hc, hsz, hone, hr⟩ := h3.1 hn
          exact ⟨c, hc, hsz, hone, fun e j he hj => (hr e j he hj).forget hXX hll fun _ _ _ => at_blank_app⟩
        · obtain ⟨e0, q, hq, a1, a2, a3, a4, a5, a6, a7⟩ := h3.2 r hr
          exact ⟨e0, q, hq, a1, a2, a3, a4, a5, a6, fun s => (a7 s).forget hXX hll fun _ _ _ => at_blank_app⟩
  have hv2 : RV w' (Xt (Xt X β' σ1) β' (blank σ1.length ν)) β' (blank σ1.length ν) v x := by
    refine hv.forget ?_ (by unfold blank; simp) fun _ _ _ => at_blank_app
    rintro b (hb | ⟨f, i, o, ho, hb⟩)
    · exact hsub b hb
    · exact .inr ⟨f, i, o, at_blank_app ho, hb⟩
  have hr := hfr w' (Xt X β' σ1) β' x hs2 hv2
  refine ⟨x, r, σ1, β', rfl, hR, hs1, hr.out, ⟨he.size, he.old, fun b ⟨f, i, o, ho, hb⟩ => he.new b ⟨f, i, o, at1 _ _ _ ho, hb⟩, he.io⟩, kp.size, kp.imm, fun b hb hx => kp.frb b hb (hsub b hx), by omega, fun g i o' hg ho => kp.obs g i o' hg (at1 _ _ _ ho)⟩

end
end Go.Abs

namespace Go.Proofs.Ytgpdckmbojmlpaa
open Go.Abs
set_option linter.unusedVariables false
set_option linter.unusedSimpArgs false
set_option maxHeartbeats 4000000
set_option maxRecDepth 100000
-- aneroid/aneroidref01.alike
-- aneroid/aneroidref01.limited
-- aneroid/aneroidref01.SameSets
def c59 : CF := ⟨27,
 (.seq (.ops [
 ⟨(some 4), .mv (.c (.bool false)), none⟩] [0, 1])
 (.seq (.seq (.ops [
 ⟨(some 6), .mv (.t 0), none⟩,
 ⟨(some 7), .len (.t 6), none⟩,
 ⟨(some 8), .mv (.t 1), none⟩,
 ⟨(some 9), .len (.t 8), none⟩,
 ⟨(some 10), .bin .neq (.t 7) (.t 9), none⟩] [0, 1, 10])
 (.cond (.t 10) (.seq (.ops [
 ⟨(some 4), .mv (.c (.bool false)), none⟩] [4])
 .ret)
 .skip))
 (.seq (.seq (.ops [
 ⟨(some 5), .mv (.c (.int .i64 0)), none⟩] [0, 1, 5])
 (.block 0 (.loop (.seq (.seq (.ops [
 ⟨(some 11), .mv (.t 5), none⟩,
 ⟨(some 12), .mv (.t 0), none⟩,
 ⟨(some 13), .len (.t 12), none⟩,
 ⟨(some 14), .bin .lss (.t 11) (.t 13), none⟩] [0, 1, 5, 14])
 (.cond (.t 14) .skip
 (.exit 0)))
 (.seq (.block 1 (.seq (.draw [
 ⟨(some 17), .mv (.t 0), none⟩,
 ⟨(some 18), .mv (.t 5), none⟩,
 ⟨(some 19), .iaddr 1 (.t 17) (.t 18), none⟩,
 ⟨(some 20), .load none (.t 19), none⟩,
 ⟨(some 21), .mv (.t 1), none⟩,
 ⟨(some 22), .mv (.t 5), none⟩,
 ⟨(some 23), .iaddr 1 (.t 21) (.t 22), none⟩,
 ⟨(some 24), .load none (.t 23), none⟩,
 ⟨(some 25), .call (.f 33) [(.t 20), (.t 24)], none⟩,
 ⟨(some 26), .un .not (.t 25), none⟩] [
 ] [0, 1, 5, 26])
 (.cond (.t 26) (.seq (.ops [
 ⟨(some 4), .mv (.c (.bool false)), none⟩] [4])
 .ret)
 .skip)))
 (.ops [
 ⟨(some 15), .mv (.t 5), none⟩,
 ⟨(some 16), .bin .add (.t 15) (.c (.int .i64 1)), none⟩,
 ⟨(some 5), .mv (.t 16), none⟩] [0, 1, 5]))))))
 (.seq (.ops [
 ⟨(some 4), .mv (.c (.bool true)), none⟩] [4])
 .ret)))),
 [.t 4]⟩
-- slices.Index[[]bool,bool]
def c129 : CF := ⟨19,
 (.seq (.ops [
 ⟨(some 4), .mv (.c (.int .i64 0)), none⟩] [0, 1])
 (.seq (.seq (.ops [
 ⟨(some 6), .mv (.t 0), none⟩,
 ⟨(some 7), .len (.t 6), none⟩,
 ⟨(some 8), .mv (.c (.int .i64 0)), none⟩] [0, 1, 7, 8])
 (.block 0 (.loop (.seq (.ops [
 ⟨(some 9), .bin .lss (.t 8) (.t 7), none⟩] [0, 1, 7, 8, 9])
 (.seq (.cond (.t 9) .skip
 (.exit 0))
 (.seq (.block 1 (.seq (.ops [
 ⟨(some 10), .mv (.t 8), none⟩,
 ⟨(some 5), .mv (.t 10), none⟩] [0, 1, 5, 7, 8])
 (.seq (.ops [
 ⟨(some 11), .mv (.t 1), none⟩,
 ⟨(some 12), .mv (.t 0), none⟩,
 ⟨(some 13), .mv (.t 5), none⟩,
 ⟨(some 14), .iaddr 1 (.t 12) (.t 13), none⟩,
 ⟨(some 15), .load none (.t 14), none⟩,
 ⟨(some 16), .eqb false (.t 11) (.t 15), none⟩] [0, 1, 5, 7, 8, 16])
 (.cond (.t 16) (.seq (.ops [
 ⟨(some 17), .mv (.t 5), none⟩,
 ⟨(some 4), .mv (.t 17), none⟩] [4])
 .ret)
 .skip))))
 (.ops [
 ⟨(some 18), .bin .add (.t 8) (.c (.int .i64 1)), none⟩,
 ⟨(some 8), .mv (.t 18), none⟩] [0, 1, 7, 8])))))))
 (.seq (.ops [
 ⟨(some 4), .mv (.c (.int .i64 (-1))), none⟩] [4])
 .ret))),
 [.t 4]⟩
-- slices.Contains[[]bool,bool]
def c110 : CF := ⟨9,
 (.seq (.ops [
 ⟨(some 4), .mv (.c (.bool false)), none⟩] [0, 1])
 (.seq (.ops [
 ⟨(some 5), .mv (.t 0), none⟩,
 ⟨(some 6), .mv (.t 1), none⟩,
 ⟨(some 7), .call (.f 129) [(.t 5), (.t 6)], none⟩,
 ⟨(some 8), .bin .geq (.t 7) (.c (.int .i64 0)), none⟩,
 ⟨(some 4), .mv (.t 8), none⟩] [4])
 .ret)),
 [.t 4]⟩
-- aneroid/paper.limited$1
-- aneroid/paper.limited
-- aneroid/paper.Within$1
def c106 : CF := ⟨20,
 (.seq (.ops [
 ⟨(some 4), .mv (.c (.bool false)), none⟩] [0, 1])
 (.seq (.ops [
 ⟨(some 5), .mv (.t 1), none⟩,
 ⟨(some 6), .len (.t 5), none⟩,
 ⟨(some 7), .bin .eql (.t 6) (.c (.int .i64 0)), none⟩,
 ⟨(some 8), .mv (.t 7), none⟩,
 ⟨(some 9), .mv (.t 0), (some (8, false))⟩,
 ⟨(some 10), .len (.t 9), (some (8, false))⟩,
 ⟨(some 11), .bin .gtr (.t 10) (.c (.int .i64 0)), (some (8, false))⟩,
 ⟨(some 12), .mv (.t 11), (some (8, false))⟩,
 ⟨(some 13), .mv (.t 0), (some (12, true))⟩,
 ⟨(some 14), .mv (.t 1), (some (12, true))⟩,
 ⟨(some 15), .call (.f 108) [(.t 13), (.t 14)], (some (12, true))⟩,
 ⟨(some 16), .mv (.t 0), (some (12, true))⟩,
 ⟨(some 17), .call (.f 107) [(.t 15), (.t 16)], (some (12, true))⟩,
 ⟨(some 18), .pick (.t 12) (.t 17) (.c (.bool false)), (some (8, false))⟩,
 ⟨(some 19), .pick (.t 8) (.c (.bool true)) (.t 18), none⟩,
 ⟨(some 4), .mv (.t 19), none⟩] [4])
 .ret)),
 [.t 4]⟩
theorem k59 : chkF Try.prog Try.f59 c59 = true := by kernel_rfl
theorem k129 : chkF Try.prog Try.f129 c129 = true := by kernel_rfl
theorem k110 : chkF Try.prog Try.f110 c110 = true := by kernel_rfl
theorem k106 : chkF Try.prog Try.f106 c106 = true := by kernel_rfl

/-- Why two inked sheets cannot be joined. -/
noncomputable def jerr (a b : List (List Sp)) : Int := if ierr a ≠ 0 ∨ ierr b ≠ 0 then 12 else if a.length ≠ b.length then 1 else 0

theorem jerr0 {a b : List (List Sp)} : jerr a b = 0 ↔ rightInk a ∧ rightInk b ∧ a.length = b.length := by
  unfold jerr
  by_cases h1 : ierr a = 0
  · by_cases h2 : ierr b = 0
    · by_cases h3 : a.length = b.length
      · simp [h1, h2, h3, ← ierr0]
      · simp [h1, h2, h3]
    · have : ¬ rightInk b := fun g => h2 (ierr0.2 g)
      simp [h2, this]
  · have : ¬ rightInk a := fun g => h1 (ierr0.2 g)
    simp [h1, this]

/-- A sheet of sets whose columns are few enough. -/
abbrev many (x : List (List Sp)) : Bool := x.any fun l => decide (8 < l.length)
abbrev lim (x : List (List Sp)) : List (List Sp) × Int := bif many x then ([], 2) else (x, 0)

theorem frz_ink0 {σ : Sto} (e : Int) : Frz σ (.tup [.agg [.v (.slice none 0 0)], n e]) (.tup [ink [], n e]) := by
  refine Frz.tup rfl fun i hi => ?_
  match i, hi with
  | 0, _ => exact Frz.agg rfl fun i hi => (by match i, hi with | 0, _ => exact Frz.nil)
  | 1, _ => exact Frz.eq rfl (by simp)
theorem sameSets_spec (a b : List (List Sp)) (ha1 : a.length < 9223372036854775808) (hb1 : b.length < 9223372036854775808) (ha : ∀ l ∈ a, l.length < 1000000000) (hb : ∀ l ∈ b, l.length < 1000000000) : Pure Try.prog 59 [colS a, colS b] (bl (decide (a = b))) := by
  refine Pure.of_body Try.call59 Try.func59 k59 (Nat.le_of_ble_eq_true rfl) ?_
  unfold c59
  (repeat' first
 | (refine AWPC.of_vcn rfl ?_; simp only [zT, zV, zS, zU, vcC, lateX, ex, strp, cnd, binA, kseq, kblk, kret, klp, Abs.one, elems, cells, scalar, eqC, Nat.reduceBEq, Nat.reduceAdd, Nat.reduceSub, Nat.reduceLT, Nat.reduceLeDiff, Nat.reduceMul, Nat.reduceEqDiff, cond_true, cond_false, if_true, if_false, reduceIte, implies_true, forall_const, ne_eq])
 | (simp (disch := omega) only [wr64, Int.zero_sub]; try simp only [zT, zV, zS, zU, vcC, lateX, ex, strp, cnd, binA, kseq, kblk, kret, klp, Abs.one, elems, cells, scalar, eqC, Nat.reduceBEq, Nat.reduceAdd, Nat.reduceSub, Nat.reduceLT, Nat.reduceLeDiff, Nat.reduceMul, Nat.reduceEqDiff, cond_true, cond_false, if_true, if_false, reduceIte, implies_true, forall_const, ne_eq])
 | (refine AWPC.both (fun _ => ?_) (fun _ => ?_))
 | (refine AWPC.imp (fun _ => ?_))
 | ((refine .inl ⟨_, _, _, .any, rfl, fun h => absurd h Bool.false_ne_true, ?_⟩); refine owp_of_exs ?_; simp only [zT, zV, zS, zU, vcC, lateX, ex, strp, cnd, binA, kseq, kblk, kret, klp, Abs.one, elems, cells, scalar, eqC, Nat.reduceBEq, Nat.reduceAdd, Nat.reduceSub, Nat.reduceLT, Nat.reduceLeDiff, Nat.reduceMul, Nat.reduceEqDiff, cond_true, cond_false, if_true, if_false, reduceIte, implies_true, forall_const, ne_eq])
 | (refine ⟨by omega, ?_⟩)
 | (refine And.intro (by (intros; first | (simp_all (config := { decide := false }); done) | fail)) ?_)
 | fail)
  · rename_i h
    exact Frz.eq (congrArg bl (by rw [decide_eq_false]; rintro rfl; exact h rfl)) (by simp)
  · rename_i h
    have hl : a.length = b.length := by omega
    refine AWPC.loopI 5 a.length (fun i => a.take i = b.take i) (by simp) ?_ ?_
    · (simp only [zT, zV, zS, zU, vcC, lateX, ex, strp, cnd, binA, kseq, kblk, kret, klp, Abs.one, elems, cells, scalar, eqC, Nat.reduceBEq, Nat.reduceAdd, Nat.reduceSub, Nat.reduceLT, Nat.reduceLeDiff, Nat.reduceMul, Nat.reduceEqDiff, cond_true, cond_false, if_true, if_false, reduceIte, implies_true, forall_const, ne_eq]; try simp)
    · intro i hi hI
      by_cases hlt : i < a.length
      · obtain ⟨x, hx⟩ : ∃ x, a[i]? = some x := ⟨_, List.getElem?_eq_getElem hlt⟩
        obtain ⟨y, hy⟩ : ∃ y, b[i]? = some y := ⟨_, List.getElem?_eq_getElem (by omega)⟩
        have htn := take_next hx hy
        have hs := sameSpans_spec x y (ha x (List.mem_of_getElem? hx)) (hb y (List.mem_of_getElem? hy))
        (repeat' first
 | (refine AWPC.of_vcn rfl ?_; simp only [zT, zV, zS, zU, vcC, lateX, ex, strp, cnd, binA, kseq, kblk, kret, klp, Abs.one, elems, cells, scalar, eqC, Nat.reduceBEq, Nat.reduceAdd, Nat.reduceSub, Nat.reduceLT, Nat.reduceLeDiff, Nat.reduceMul, Nat.reduceEqDiff, cond_true, cond_false, if_true, if_false, reduceIte, implies_true, forall_const, ne_eq, getD_map hx, getD_map hy])
 | (simp (disch := omega) only [wr64, Int.zero_sub]; try simp only [zT, zV, zS, zU, vcC, lateX, ex, strp, cnd, binA, kseq, kblk, kret, klp, Abs.one, elems, cells, scalar, eqC, Nat.reduceBEq, Nat.reduceAdd, Nat.reduceSub, Nat.reduceLT, Nat.reduceLeDiff, Nat.reduceMul, Nat.reduceEqDiff, cond_true, cond_false, if_true, if_false, reduceIte, implies_true, forall_const, ne_eq, getD_map hx, getD_map hy])
 | (refine AWPC.both (fun _ => ?_) (fun _ => ?_))
 | (refine AWPC.imp (fun _ => ?_))
 | ((repeat (refine And.intro (by (intros; first | omega | (simp_all (config := { decide := false }); done) | fail)) ?_)); (first
 | (refine .inl ⟨_, _, _, _, rfl, fun _hc => ⟨by simp, hs⟩, ?_⟩)
 | (refine ⟨_, _, _, _, rfl, fun _hc => ⟨by simp, hs⟩, ?_⟩)
 | fail); (first | refine owp_of_exs ?_ | refine pre_of_exd ?_ | refine pre_of_exe ?_ | fail); simp only [zT, zV, zS, zU, vcC, lateX, ex, strp, cnd, binA, kseq, kblk, kret, klp, Abs.one, elems, cells, scalar, eqC, Nat.reduceBEq, Nat.reduceAdd, Nat.reduceSub, Nat.reduceLT, Nat.reduceLeDiff, Nat.reduceMul, Nat.reduceEqDiff, cond_true, cond_false, if_true, if_false, reduceIte, implies_true, forall_const, ne_eq, getD_map hx, getD_map hy])
 | ((refine .inl ⟨_, _, _, .any, rfl, fun h => absurd h Bool.false_ne_true, ?_⟩); refine owp_of_exs ?_; simp only [zT, zV, zS, zU, vcC, lateX, ex, strp, cnd, binA, kseq, kblk, kret, klp, Abs.one, elems, cells, scalar, eqC, Nat.reduceBEq, Nat.reduceAdd, Nat.reduceSub, Nat.reduceLT, Nat.reduceLeDiff, Nat.reduceMul, Nat.reduceEqDiff, cond_true, cond_false, if_true, if_false, reduceIte, implies_true, forall_const, ne_eq, getD_map hx, getD_map hy])
 | (refine ⟨by omega, ?_⟩)
 | (refine And.intro (by (intros; first | (simp_all (config := { decide := false }); done) | fail)) ?_)
 | fail)
        all_goals try (exfalso; omega)
        · rename_i g
          refine Frz.eq (congrArg bl ?_) (by simp)
          rw [decide_eq_false]
          rintro rfl
          rw [hx] at hy; injection hy with hy; simp [hy] at g
        · rename_i g
          exact ⟨⟨i + 1, hlt, htn.2 ⟨hI, by simpa using g⟩⟩, by simp, by simp only; omega⟩
      · obtain rfl : i = a.length := by omega
        rw [List.take_length, hl, List.take_length] at hI
        (repeat' first
 | (refine AWPC.of_vcn rfl ?_; simp only [zT, zV, zS, zU, vcC, lateX, ex, strp, cnd, binA, kseq, kblk, kret, klp, Abs.one, elems, cells, scalar, eqC, Nat.reduceBEq, Nat.reduceAdd, Nat.reduceSub, Nat.reduceLT, Nat.reduceLeDiff, Nat.reduceMul, Nat.reduceEqDiff, cond_true, cond_false, if_true, if_false, reduceIte, implies_true, forall_const, ne_eq])
 | (simp (disch := omega) only [wr64, Int.zero_sub]; try simp only [zT, zV, zS, zU, vcC, lateX, ex, strp, cnd, binA, kseq, kblk, kret, klp, Abs.one, elems, cells, scalar, eqC, Nat.reduceBEq, Nat.reduceAdd, Nat.reduceSub, Nat.reduceLT, Nat.reduceLeDiff, Nat.reduceMul, Nat.reduceEqDiff, cond_true, cond_false, if_true, if_false, reduceIte, implies_true, forall_const, ne_eq])
 | (refine AWPC.both (fun _ => ?_) (fun _ => ?_))
 | (refine AWPC.imp (fun _ => ?_))
 | ((refine .inl ⟨_, _, _, .any, rfl, fun h => absurd h Bool.false_ne_true, ?_⟩); refine owp_of_exs ?_; simp only [zT, zV, zS, zU, vcC, lateX, ex, strp, cnd, binA, kseq, kblk, kret, klp, Abs.one, elems, cells, scalar, eqC, Nat.reduceBEq, Nat.reduceAdd, Nat.reduceSub, Nat.reduceLT, Nat.reduceLeDiff, Nat.reduceMul, Nat.reduceEqDiff, cond_true, cond_false, if_true, if_false, reduceIte, implies_true, forall_const, ne_eq])
 | (refine ⟨by omega, ?_⟩)
 | (refine And.intro (by (intros; first | (simp_all (config := { decide := false }); done) | fail)) ?_)
 | fail)
        all_goals try (exfalso; omega)
        exact Frz.eq (by simp [hI]) (by simp)
end Go.Proofs.Ytgpdckmbojmlpaa

namespace Go.Proofs.Ytgpdckmbojmlpaa
open Go.Abs
set_option linter.unusedVariables false
set_option linter.unusedSimpArgs false
set_option maxHeartbeats 4000000
set_option maxRecDepth 100000
-- aneroid/paper.Either$1
-- aneroid/paper.Both$1
theorem good.bd {l : List Sp} (h : good l) : ∀ s ∈ l, -1000000 ≤ s.lo ∧ s.hi ≤ 1000000 := fun s hs => by have := h.2.1 s hs; omega
/-- A column of two sheets, joined. -/
abbrev withinC (p q : List Sp) : Bool := decide (q.length = 0) || (decide (0 < p.length) && decide (meet p q = p))
theorem meet_len {p q : List Sp} (hp : good p) (hq : good q) : (meet p q).length ≤ 64 := by
  have h1 := (meet_all p q hp.bd).1.len
  have h2 : p.length * q.length ≤ 8 * 8 := Nat.mul_le_mul hp.2.2 hq.2.2
  omega

theorem within1_spec (p q : List Sp) (hp : good p) (hq : good q) : Pure Try.prog 106 [spS p, spS q] (bl (withinC p q)) := by
  refine Pure.of_body Try.call106 Try.func106 k106 (Nat.le_of_ble_eq_true rfl) ?_
  have hp8 := hp.2.2
  have hq8 := hq.2.2
  have hm := meet_spec p q hp.bd (by omega) (by omega)
  have hml := meet_len hp hq
  have he := equal_spec (meet p q) p (by omega) (by omega)
  unfold c106
  (repeat' first
 | (refine AWPC.of_vcn rfl ?_; simp only [zT, zV, zS, zU, vcC, lateX, ex, strp, cnd, binA, kseq, kblk, kret, klp, Abs.one, elems, cells, scalar, eqC, Nat.reduceBEq, Nat.reduceAdd, Nat.reduceSub, Nat.reduceLT, Nat.reduceLeDiff, Nat.reduceMul, Nat.reduceEqDiff, cond_true, cond_false, if_true, if_false, reduceIte, implies_true, forall_const, ne_eq])
 | (simp (disch := omega) only [wr64, Int.zero_sub]; try simp only [zT, zV, zS, zU, vcC, lateX, ex, strp, cnd, binA, kseq, kblk, kret, klp, Abs.one, elems, cells, scalar, eqC, Nat.reduceBEq, Nat.reduceAdd, Nat.reduceSub, Nat.reduceLT, Nat.reduceLeDiff, Nat.reduceMul, Nat.reduceEqDiff, cond_true, cond_false, if_true, if_false, reduceIte, implies_true, forall_const, ne_eq])
 | (refine AWPC.both (fun _ => ?_) (fun _ => ?_))
 | (refine AWPC.imp (fun _ => ?_))
 | ((repeat (refine And.intro (by (intros; first | omega | (simp_all (config := { decide := false }); done) | fail)) ?_)); (first
 | (refine .inl ⟨_, _, _, _, rfl, fun _hc => ⟨by simp, hm⟩, ?_⟩)
 | (refine .inl ⟨_, _, _, _, rfl, fun _hc => ⟨by simp, he⟩, ?_⟩)
 | (refine ⟨_, _, _, _, rfl, fun _hc => ⟨by simp, hm⟩, ?_⟩)
 | (refine ⟨_, _, _, _, rfl, fun _hc => ⟨by simp, he⟩, ?_⟩)
 | fail); (first | refine owp_of_exs ?_ | refine pre_of_exd ?_ | refine pre_of_exe ?_ | fail); simp only [zT, zV, zS, zU, vcC, lateX, ex, strp, cnd, binA, kseq, kblk, kret, klp, Abs.one, elems, cells, scalar, eqC, Nat.reduceBEq, Nat.reduceAdd, Nat.reduceSub, Nat.reduceLT, Nat.reduceLeDiff, Nat.reduceMul, Nat.reduceEqDiff, cond_true, cond_false, if_true, if_false, reduceIte, implies_true, forall_const, ne_eq])
 | ((refine .inl ⟨_, _, _, .any, rfl, fun h => absurd h Bool.false_ne_true, ?_⟩); refine owp_of_exs ?_; simp only [zT, zV, zS, zU, vcC, lateX, ex, strp, cnd, binA, kseq, kblk, kret, klp, Abs.one, elems, cells, scalar, eqC, Nat.reduceBEq, Nat.reduceAdd, Nat.reduceSub, Nat.reduceLT, Nat.reduceLeDiff, Nat.reduceMul, Nat.reduceEqDiff, cond_true, cond_false, if_true, if_false, reduceIte, implies_true, forall_const, ne_eq])
 | (refine ⟨by omega, ?_⟩)
 | (refine And.intro (by (intros; first | (simp_all (config := { decide := false }); done) | fail)) ?_)
 | fail)
  refine Frz.eq (congrArg bl ?_) (by simp)
  rw [Bool.eq_iff_iff]
  simp only [decide_eq_true_eq, Bool.or_eq_true, Bool.and_eq_true]
  by_cases hmm : meet p q = p <;> simp only [hmm, and_true, and_false, or_false] <;> omega

end Go.Proofs.Ytgpdckmbojmlpaa

namespace Go.Proofs.Ytgpdckmbojmlpaa
open Go.Abs
set_option linter.unusedVariables false
set_option linter.unusedSimpArgs false
set_option maxHeartbeats 4000000
set_option maxRecDepth 100000
-- (aneroid/paper.joint[[]aneroid/api.Span]).each
-- (aneroid/paper.joint[bool]).each
def c109 : CF := ⟨58,
 (.seq (.ops [
 ⟨(some 3), .box false 118 1 (.t 0), none⟩,
 ⟨(some 4), .box false 56 1 (.t 1), none⟩,
 ⟨(some 5), .box false 56 1 (.t 2), none⟩,
 ⟨(some 6), .mv (.c (.slice none 0 0)), none⟩,
 ⟨(some 7), .mv (.c (.int .i64 0)), none⟩] [3, 4, 5])
 (.seq (.seq (.ops [
 ⟨(some 13), .load (some 1) (.t 4), none⟩,
 ⟨(some 14), .load (some 1) (.t 5), none⟩,
 ⟨(some 15), .bsl false 56 1 2 [.slice none 0 0, .slice none 0 0] [(0, 1, (.t 13)), (1, 1, (.t 14))], none⟩,
 ⟨(some 16), .len (.t 15), none⟩,
 ⟨(some 17), .mv (.c (.int .i64 0)), none⟩] [3, 4, 5, 15, 16, 17])
 (.block 0 (.loop (.seq (.ops [
 ⟨(some 18), .bin .lss (.t 17) (.t 16), none⟩] [3, 4, 5, 15, 16, 17, 18])
 (.seq (.cond (.t 18) .skip
 (.exit 0))
 (.seq (.block 1 (.seq (.ops [
 ⟨(some 19), .iaddr 1 (.t 15) (.t 17), none⟩,
 ⟨(some 20), .load (some 1) (.t 19), none⟩,
 ⟨(some 9), .alloc 56 1 [.slice none 0 0], none⟩,
 ⟨none, .store 1 (.t 9) (.t 20), none⟩] [3, 4, 5, 9, 15, 16, 17])
 (.seq (.ops [
 ⟨(some 21), .load (some 1) (.t 9), none⟩,
 ⟨(some 22), .call (.f 54) [(.t 21)], none⟩,
 ⟨(some 10), .mv (.t 22), none⟩] [3, 4, 5, 10, 15, 16, 17])
 (.seq (.ops [
 ⟨(some 23), .mv (.t 10), none⟩,
 ⟨(some 24), .bin .neq (.t 23) (.c (.int .i64 0)), none⟩] [3, 4, 5, 10, 15, 16, 17, 24])
 (.cond (.t 24) (.seq (.ops [
 ⟨(some 25), .mv (.t 10), none⟩,
 ⟨(some 6), .mv (.c (.slice none 0 0)), none⟩,
 ⟨(some 7), .mv (.t 25), none⟩] [6, 7])
 .ret)
 .skip)))))
 (.ops [
 ⟨(some 26), .bin .add (.t 17) (.c (.int .i64 1)), none⟩,
 ⟨(some 17), .mv (.t 26), none⟩] [3, 4, 5, 15, 16, 17])))))))
 (.seq (.seq (.ops [
 ⟨(some 27), .faddr 0 (.t 4), none⟩,
 ⟨(some 28), .load none (.t 27), none⟩,
 ⟨(some 29), .len (.t 28), none⟩,
 ⟨(some 30), .faddr 0 (.t 5), none⟩,
 ⟨(some 31), .load none (.t 30), none⟩,
 ⟨(some 32), .len (.t 31), none⟩,
 ⟨(some 33), .bin .neq (.t 29) (.t 32), none⟩] [3, 4, 5, 33])
 (.cond (.t 33) (.seq (.ops [
 ⟨(some 6), .mv (.c (.slice none 0 0)), none⟩,
 ⟨(some 7), .mv (.c (.int .i64 1)), none⟩] [6, 7])
 .ret)
 .skip))
 (.seq (.ops [
 ⟨(some 11), .mv (.c (.slice none 0 0)), none⟩] [3, 4, 5, 11])
 (.seq (.seq (.ops [
 ⟨(some 34), .faddr 0 (.t 4), none⟩,
 ⟨(some 35), .load none (.t 34), none⟩,
 ⟨(some 36), .len (.t 35), none⟩,
 ⟨(some 37), .mv (.c (.int .i64 0)), none⟩] [3, 4, 5, 11, 36, 37])
 (.block 2 (.loop (.seq (.ops [
 ⟨(some 38), .bin .lss (.t 37) (.t 36), none⟩] [3, 4, 5, 11, 36, 37, 38])
 (.seq (.cond (.t 38) .skip
 (.exit 2))
 (.seq (.block 3 (.seq (.ops [
 ⟨(some 39), .mv (.t 37), none⟩,
 ⟨(some 12), .mv (.t 39), none⟩] [3, 4, 5, 11, 12, 36, 37])
 (.drawl 0 [
 ⟨(some 40), .mv (.t 11), none⟩,
 ⟨(some 41), .faddr 0 (.t 3), none⟩,
 ⟨(some 42), .load none (.t 41), none⟩,
 ⟨(some 43), .faddr 0 (.t 4), none⟩,
 ⟨(some 44), .load none (.t 43), none⟩,
 ⟨(some 45), .mv (.t 12), none⟩,
 ⟨(some 46), .iaddr 1 (.t 44) (.t 45), none⟩,
 ⟨(some 47), .load none (.t 46), none⟩,
 ⟨(some 48), .faddr 0 (.t 5), none⟩,
 ⟨(some 49), .load none (.t 48), none⟩,
 ⟨(some 50), .mv (.t 12), none⟩,
 ⟨(some 51), .iaddr 1 (.t 49) (.t 50), none⟩,
 ⟨(some 52), .load none (.t 51), none⟩] [
 ⟨(some 53), .call (.t 42) [(.t 47), (.t 52)], none⟩,
 ⟨(some 54), .bsl false 4 1 1 [.bool false] [(0, 1, (.t 53))], none⟩,
 ⟨(some 55), .app 4 1 1 (.t 40) (.t 54), none⟩,
 ⟨(some 11), .mv (.t 55), none⟩] [3, 4, 5, 11, 36, 37])))
 (.ops [
 ⟨(some 56), .bin .add (.t 37) (.c (.int .i64 1)), none⟩,
 ⟨(some 37), .mv (.t 56), none⟩] [3, 4, 5, 11, 36, 37])))))))
 (.seq (.ops [
 ⟨(some 57), .mv (.t 11), none⟩,
 ⟨(some 6), .mv (.t 57), none⟩,
 ⟨(some 7), .mv (.c (.int .i64 0)), none⟩] [6, 7])
 .ret)))))),
 [.t 6, .t 7]⟩
theorem k109 : chkF Try.prog Try.f109 c109 = true := by kernel_rfl

theorem frz_col {σ : Sto} {f i : Nat} {x : List (List Sp)} (h : σ.at f i = some ⟨34, 1, x.map (fun l => [spS l]), none⟩) : Frz σ (.own f i x.length) (colS x) := by
  refine Frz.own (o := ⟨34, 1, x.map (fun l => [spS l]), none⟩) (es := x.map fun l => [spS l]) (show (1 : Nat) ≠ 0 by decide) h (by simp) (by simp) (fun e j he hj => ?_) fun e he => ?_
  · obtain ⟨l, hl⟩ : ∃ l, x[e]? = some l := ⟨_, List.getElem?_eq_getElem he⟩
    rw [getD_map hl]
    match j, hj with
    | 0, _ => exact Frz.eq rfl (by simp)
  · obtain ⟨l, hl⟩ : ∃ l, x[e]? = some l := ⟨_, List.getElem?_eq_getElem he⟩
    rw [getD_map hl]; rfl

end Go.Proofs.Ytgpdckmbojmlpaa

namespace Go.Proofs.Ytgpdckmbojmlpaa
open Go.Abs
set_option linter.unusedVariables false
set_option linter.unusedSimpArgs false
set_option maxHeartbeats 4000000
set_option maxRecDepth 100000
-- aneroid/paper.Either
theorem Pure.does {P : Program} {f : Nat} {args : List AV} {r : AV} {σ : Sto} (h : Pure P f args r) (hp : ∀ a ∈ args, PureV a) : Does P f args σ (fun v σ' => v = r ∧ σ' = σ) := by
  refine ⟨h.ent, fun X β w xs hX hs hl hr => (h.go (Xt X β σ) w xs (fun b hb => Xt_lt hs hX hb) hl (fun i hi => hp _ (getD_mem hi) _ _ _ _ _ (hr i hi))).mono ?_⟩
  rintro e w' ⟨x, rfl, hr, hsz, hold, hio⟩
  exact ⟨x, r, σ, β, rfl, ⟨rfl, rfl⟩, hs.same hsz hold, hr.out, Ext.same hsz hold hio, Kp.same hsz hold hs⟩

end Go.Proofs.Ytgpdckmbojmlpaa

namespace Go.Proofs.Ytgpdckmbojmlpaa
open Go.Abs
set_option linter.unusedVariables false
set_option linter.unusedSimpArgs false
set_option maxHeartbeats 4000000
set_option maxRecDepth 100000

/-- A set of levels, of any length. -/
def Nb (p : List Sp) : Prop := Norm p ∧ ∀ s ∈ p, 0 ≤ s.lo ∧ s.hi ≤ 12000

section
variable {p q r : List Sp}
theorem Nb.bd (h : Nb p) : ∀ s ∈ p, -1000000 ≤ s.lo ∧ s.hi ≤ 1000000 := fun s hs => by have := h.2 s hs; omega
theorem Nb.mem (h : Nb p) {v : Int} (hv : Mem v p) : 0 ≤ v ∧ v ≤ 12000 := by
  obtain ⟨s, hs, h1, h2⟩ := hv
  have := h.2 s hs; omega
theorem Nb.of (hn : Norm p) (h : ∀ v, Mem v p → 0 ≤ v ∧ v ≤ 12000) : Nb p := ⟨hn, in_of_mem hn h⟩
theorem good.nb (h : good p) : Nb p := ⟨h.1, h.2.1⟩
theorem Nb.good (h : Nb p) (hl : p.length ≤ 8) : good p := ⟨h.1, h.2, hl⟩
theorem mem_meet (hp : Nb p) (v : Int) : Mem v (meet p q) ↔ Mem v p ∧ Mem v q := (meet_all p q hp.bd).2 v
theorem nb_meet (hp : Nb p) : Nb (meet p q) := .of (meet_all p q hp.bd).1.nm fun v hv => hp.mem ((mem_meet hp v).1 hv).1
theorem mem_joins (hp : Nb p) (v : Int) : Mem v (joins p q) ↔ Mem v p ∨ Mem v q := joins_mem hp.1 v
theorem nb_joins (hp : Nb p) (hq : Nb q) : Nb (joins p q) := .of (joins_norm hp.1) fun v hv => ((mem_joins hp v).1 hv).elim hp.mem hq.mem
theorem nb_nil : Nb [] := ⟨trivial, fun s h => by cases h⟩
theorem Nb.nil_iff (hp : Nb p) : p = [] ↔ ∀ v, ¬ Mem v p := hp.1.nil_iff
theorem Nb.ext (hp : Nb p) (hq : Nb q) (h : ∀ v, Mem v p ↔ Mem v q) : p = q := Norm.ext hp.1 hq.1 h
theorem Nb.ext_iff (hp : Nb p) (hq : Nb q) : p = q ↔ ∀ v, Mem v p ↔ Mem v q := ⟨fun h v => by rw [h], hp.ext hq⟩
theorem Nb.ne (hp : Nb p) (h : p ≠ []) : ∃ v, Mem v p := Classical.byContradiction fun g => h (hp.nil_iff.2 fun v hv => g ⟨v, hv⟩)
theorem meet_eq (hp : Nb p) : meet p q = p ↔ ∀ v, Mem v p → Mem v q := by
  rw [(nb_meet hp).ext_iff hp]
  exact ⟨fun h v hv => ((mem_meet hp v).1 ((h v).2 hv)).2, fun h v => by rw [mem_meet hp]; exact ⟨fun g => g.1, fun g => ⟨g, h v g⟩⟩⟩
theorem len0 {α : Type} {l : List α} : l.length = 0 ↔ l = [] := List.length_eq_zero_iff
theorem withinC_iff (hp : Nb p) : withinC p q = true ↔ q = [] ∨ p ≠ [] ∧ ∀ v, Mem v p → Mem v q := by
  rw [withinC, Bool.or_eq_true, Bool.and_eq_true, decide_eq_true_eq, decide_eq_true_eq, decide_eq_true_eq, meet_eq hp, len0, List.length_pos_iff]
end

section
variable {a b c : List (List Sp)} {F G : List Sp → List Sp → List Sp}
/-- A Boolean law of two sheets' columns. -/
abbrev zipB (B : List Sp → List Sp → Bool) (a b : List (List Sp)) : List Bool := List.zipWith B a b
theorem zipB_all {B : List Sp → List Sp → Bool} (hl : a.length = b.length) : (zipB B a b).all id = true ↔ ∀ (i : Nat) (p q : List Sp), a[i]? = some p → b[i]? = some q → B p q = true := by
  rw [List.all_eq_true]
  constructor
  · intro h i p q h1 h2
    refine h _ (List.mem_of_getElem? (i := i) ?_)
    simp [zipB, List.getElem?_zipWith, h1, h2]
  · intro h x hx
    obtain ⟨i, hi⟩ := List.getElem?_of_mem hx
    simp only [zipB, List.getElem?_zipWith] at hi
    cases h1 : a[i]? with
    | none => simp [h1] at hi
    | some p =>
      cases h2 : b[i]? with
      | none => simp [h1, h2] at hi
      | some q =>
        simp only [h1, h2, Option.some.injEq] at hi
        rw [← hi]; exact h i p q h1 h2
noncomputable def withinE (a b : List (List Sp)) : Bool × Int := (decide (jerr a b = 0) && (zipB withinC a b).all id, jerr a b)

/-- Sheets of one length, in order. -/
structure Al (x y : List (List Sp)) : Prop where
  a : rightInk x
  b : rightInk y
  l : x.length = y.length
theorem al_iff : jerr a b = 0 ↔ Al a b := jerr0.trans ⟨fun h => ⟨h.1, h.2.1, h.2.2⟩, fun h => ⟨h.a, h.b, h.l⟩⟩
theorem many_false {x : List (List Sp)} : many x = false ↔ ∀ l ∈ x, l.length ≤ 8 := by
  rw [many, List.any_eq_false]
  exact ⟨fun h l hl => by have := h l hl; simp at this; exact this, fun h l hl => by have := h l hl; simp; exact this⟩
theorem withinE_ok : (withinE a b).2 = 0 ↔ Al a b := al_iff
theorem withinE_fst (h : Al a b) : (withinE a b).1 = true ↔ ∀ (i : Nat) (p q : List Sp), a[i]? = some p → b[i]? = some q → withinC p q = true := by
  unfold withinE; simp only [al_iff.2 h, decide_true, Bool.true_and]; exact zipB_all h.l

end

section
variable {a b c : List (List Sp)}
theorem withinE_mk (al : Al a b) (h : ∀ (i : Nat) (p q : List Sp), a[i]? = some p → b[i]? = some q → withinC p q = true) : withinE a b = (true, 0) := by
  have := (withinE_fst al).2 h
  rw [show withinE a b = ((withinE a b).1, (withinE a b).2) from rfl, this, withinE_ok.2 al]
end
end Go.Proofs.Ytgpdckmbojmlpaa

namespace Go.Abs
set_option linter.unusedVariables false
set_option linter.unusedSimpArgs false

section
variable {P : Program} {N : Nat} {rd : Option Nat} {K : Kont} {σ : Sto}

theorem AWPC.weakO {f i : Nat} {o o' : Ob} {c : C} {env : Env} (ho : σ.at f i = some o) (hT : o'.T = o.T) (hk : o'.k = o.k) (hlp : o.lp = none) (hlp' : o'.lp = none) (hl : o'.es.length = o.es.length)
    (hrow : ∀ e, e < o.es.length → (o'.es.getD e []).length = o.k)
    (hw : ∀ e j, e < o.es.length → j < o.k → ∀ w X β σ x, RV w X β σ ((o.es.getD e []).getD j .any) x → RV w X β σ ((o'.es.getD e []).getD j .any) x)
    (h : AWPC P N rd c K env (σ.upd f i o')) : AWPC P N rd c K env σ := by
  intro code hc n0 X β a w hst
  have S1 := hst.sr
  have hob := S1.obj f i o ho
  have ht : Turn w β f i (β f i) w := ⟨Nat.le_refl _, fun _ _ _ => rfl, fun b hb => .inl hb, Still.refl w⟩
  have hsame : o.es.length = o'.es.length → β f i = β f i ∧ ∀ b, β f i = some b → SameSize w w b := fun _ => ⟨rfl, fun b _ => SameSize.refl w b⟩
  have K2 := Kp.turn (o' := o') S1 ho ht hk.symm (Nat.le_of_eq hl.symm) hsame
  have E2 : Ext w β σ w (mvB β f i (β f i)) (σ.upd f i o') := Ext.turn ho ht
  have S2 := S1.turn (o' := o') hst.bd ho ht hk.symm (Nat.le_of_eq hl.symm) hsame (by
    refine ⟨fun e' he' => by rw [hk]; exact hrow e' (by omega), ?_⟩
    have h2 := hob.2
    cases hb : β f i with
    | none => rw [hb] at h2; exact ⟨List.length_eq_zero_iff.1 (by rw [hl, h2.1]; rfl), hlp'⟩
    | some b =>
      rw [hb] at h2
      refine ⟨fun _ => ?_, fun r hr => by rw [hlp'] at hr; cases hr⟩
      obtain ⟨c, hcc, hle, h1, hr⟩ := h2.1 hlp
      refine ⟨c, by rw [hT]; exact hcc, by rw [hl, hk]; exact hle, fun e' j' he' hj' => by rw [hk]; exact h1 e' j' (by omega) (by omega), fun e' j' he' hj' => ?_⟩
      have h3 := hr e' j' (by omega) (by omega)
      have h4 := h3.tr K2
      rw [hb] at h4
      rw [hk]
      exact hw e' j' (by omega) (by omega) _ _ _ _ _ h4)
  exact wpIn_mono (h code hc n0 X _ a w (hst.tr S2 E2 K2)) fun e a w hp => hp.trans E2 K2


/-- A frame's objects are given up. -/
abbrev gone (σ : Sto) (f : Nat) : Sto := σ.set f none
theorem at_gone {σ : Sto} {f g i : Nat} {o : Ob} (h : (gone σ f).at g i = some o) : g ≠ f ∧ σ.at g i = some o := by
  unfold gone Sto.at at h
  unfold Sto.at
  by_cases hg : f = g
  · subst hg
    rw [List.getElem?_set] at h
    by_cases hl : f < σ.length
    · simp [hl] at h
    · simp [hl] at h
  · rw [List.getElem?_set_ne hg] at h
    exact ⟨fun e => hg e.symm, h⟩

theorem Xt_gone {X : Nat → Prop} {β : Blk} {σ : Sto} {f : Nat} (b : Nat) (h : Xt X β (gone σ f) b) : Xt X β σ b := by
  rcases h with h | ⟨g, i, o, ho, hb⟩
  · exact .inl h
  · exact .inr ⟨g, i, o, (at_gone ho).2, hb⟩

theorem RV.toGone {w : World} {X : Nat → Prop} {β : Blk} {σ : Sto} {f : Nat} {v : AV} {x : Value} (h : RV w (Xt X β σ) β σ v x) : RV w (Xt X β (gone σ f)) β (Abs.gone σ f) v x :=
  h.forget Xt_gone (by simp) fun _ _ _ ho => (at_gone ho).2

theorem SRel.toGone {w : World} {X : Nat → Prop} {β : Blk} {σ : Sto} {f : Nat} (h : SRel w X β σ) : SRel w X β (gone σ f) := by
  refine ⟨fun f i f' i' o o' b h1 h2 => h.inj f i f' i' o o' b (at_gone h1).2 (at_gone h2).2, fun f i o b h1 => h.dis f i o b (at_gone h1).2, fun g i o h1 => ?_⟩
  have h2 := h.obj g i o (at_gone h1).2
  refine ⟨h2.1, ?_⟩
  have h3 := h2.2
  cases hb : β g i with
  | none => rw [hb] at h3; exact h3
  | some b =>
    rw [hb] at h3
    refine ⟨fun hn => ?_, fun r hr => ?_⟩
    · obtain ⟨c, hc, hsz, hone, hr⟩ := h3.1 hn
      exact ⟨c, hc, hsz, hone, fun e j he hj => (hr e j he hj).toGone⟩
    · obtain ⟨e0, q, hq, a1, a2, a3, a4, a5, a6, a7⟩ := h3.2 r hr
      exact ⟨e0, q, hq, a1, a2, a3, a4, a5, a6, fun s => (a7 s).toGone⟩

/-- A slice of an object that is given up. -/
theorem RV.froze {w : World} {X : Nat → Prop} {β : Blk} {σ : Sto} {f i n : Nat} {o : Ob} {x : Value} (hs : SRel w X β σ) (h : RV w (Xt X β σ) β σ (.own f i n) x) (ho : σ.at f i = some o) (hn : o.es.length = n) (hk0 : o.k ≠ 0) :
    RV w (Xt X β (gone σ f)) β (Abs.gone σ f) (.sl o.k o.es) x := by
  have hob := hs.obj f i o ho
  cases h with
  | own _ _ _ _ h1c hf hle hh =>
    have h' := hh o ho hn
    unfold OwnSl at h'
    have h2 := hob.2
    cases hb : β f i with
    | none =>
      rw [hb] at h'
      obtain ⟨e0, rfl⟩ := h'
      rw [e0]
      exact .slnil _
    | some b =>
      rw [hb] at h' h2
      obtain ⟨cap, c0, T0, rfl, hc0, hcs⟩ := h'
      rw [hb] at hob
      obtain ⟨c, hc, hsz, hone, hr⟩ := h2.1 (hob.lp_cells hc0)
      rw [hc] at hc0; injection hc0 with hc0; injection hc0 with hc0 _; subst hc0
      subst hn
      refine .sl o.k o.es b 0 cap (fun e j => c.getD (e * o.k + j) undef) ?_ (fun e he => hob.1 e he) (fun e he j hj => ?_) (fun e j he hj hx => ?_) (fun e j he hj => hone e j he hj) fun e j he hj => (hr e j he hj).toGone
      · rw [hcs] at hsz; exact Nat.le_of_mul_le_mul_right hsz (by omega)
      · have := mul_lt (k := o.k) he
        rw [Nat.zero_add, cell_of_row w b _ c _ _ hc]
        simp [Array.getD_eq_getD_getElem?, show e * o.k + j < c.size by omega]
      · rcases hx with hx | ⟨g, j', o', ho', hb'⟩
        · exact hs.dis f i o b ho hb hx
        · have h3 := at_gone ho'
          exact h3.1 (hs.inj f i g j' o o' b ho h3.2 hb hb').1.symm

/-- What is owned is given up: slots that hold it read it from now on. -/
theorem AWPC.freeze {f n : Nat} {o : Ob} {c : C} {env env' : Env} (ho : σ.at f 0 = some o) (hn : o.es.length = n) (hk0 : o.k ≠ 0)
    (henv : ∀ s, gt env' s = gt env s ∨ (gt env s = .own f 0 n ∧ gt env' s = .sl o.k o.es)) (h : AWPC P N rd c K env' (gone σ f)) : AWPC P N rd c K env σ := by
  intro code hc n0 X β a w hst
  have E2 : Ext w β σ w β (gone σ f) := ⟨Nat.le_refl _, fun _ _ _ => rfl, fun b ⟨g, i, o, ho, hb⟩ => .inl ⟨g, i, o, (at_gone ho).2, hb⟩, Still.refl w⟩
  have K2 : Kp w (Xt X β σ) β σ w (Xt X β (gone σ f)) β (gone σ f) :=
    ⟨Nat.le_refl _, fun _ _ _ _ _ _ => rfl, fun b _ hx => Xt_gone b hx, by simp, fun g i o' _ ho' => ⟨o', (at_gone ho').2, rfl, Nat.le_refl _, fun _ => ⟨rfl, fun b _ => SameSize.refl w b⟩⟩⟩
  have hst1 := hst.tr hst.sr.toGone E2 K2
  have hst2 : Stt N n0 X env' (gone σ f) β a w := { hst1 with
    ev := fun s => (henv s).elim (fun e => by rw [e]; exact hst1.ev s) (fun e => by
      rw [e.2]
      have := hst.ev s
      rw [e.1] at this
      exact this.froze hst.sr ho hn hk0) }
  exact wpIn_mono (h code hc n0 X _ a w hst2) fun e a w hp => hp.trans E2 K2

theorem AWPC.freeze1 {f n t : Nat} {o : Ob} {c : C} {env : Env} (ht : gt env t = .own f 0 n) (ho : σ.at f 0 = some o) (hn : o.es.length = n) (hk0 : o.k ≠ 0) (h : AWPC P N rd c K ((t, .sl o.k o.es) :: env) (gone σ f)) : AWPC P N rd c K env σ := by
  refine AWPC.freeze ho hn hk0 (fun s => ?_) h
  simp only [gt]
  by_cases hs : t = s
  · subst hs; simp only [beq_self_eq_true, cond_true]; exact .inr ⟨ht, trivial⟩
  · have : (t == s) = false := by simpa using hs
    simp only [this, cond_false]; exact .inl trivial

end

theorem Does.mono {P : Program} {f : Nat} {args : List AV} {σ : Sto} {R R' : AV → Sto → Prop} (h : Does P f args σ R) (hR : ∀ r σ', R r σ' → R' r σ') : Does P f args σ R' :=
  ⟨h.ent, fun X β w xs h1 h2 h3 h4 => (h.go X β w xs h1 h2 h3 h4).mono fun e w' ⟨x, r, σ', β', a, b, c⟩ => ⟨x, r, σ', β', a, hR _ _ b, c⟩⟩
end Go.Abs

namespace Go.Proofs.Ytgpdckmbojmlpaa
open Go.Abs
set_option linter.unusedVariables false
set_option linter.unusedSimpArgs false
set_option maxHeartbeats 4000000
set_option maxRecDepth 100000

theorem Norm.len_le {l : List Sp} : ∀ {A B : Int}, Norm l → (∀ s ∈ l, A ≤ s.lo ∧ s.hi ≤ B) → (l.length : Int) ≤ max 0 (B - A + 1) := by
  induction l with
  | nil => intro A B _ _; simp only [List.length_nil]; omega
  | cons s r ih =>
    intro A B hn hb
    obtain ⟨h1, h2, h3⟩ := hn
    have hs := hb s (by simp)
    have := ih (A := s.hi + 2) (B := B) h3 fun t ht => by have := h2 t ht; have := hb t (by simp [ht]); omega
    rw [List.length_cons]
    push_cast
    omega

theorem riseR_spec (σ : Sto) (f N e g : Nat) (o : Ob) (l : List Sp) (v : Int) (hf : σ.at f 0 = some o) (hN : o.es.length = N) (he : e < N) (hk : o.k = 1) (hrow : o.es.getD e [] = [.own g 0 l.length]) (hlp : o.lp = none) (hg : σ.at g 0 = some (spO l)) (hne : g ≠ f)
    (hl : l.length < 1000000000) (hv : -1000000 ≤ v ∧ v ≤ 1000000) (hh : ∀ s ∈ l, -1000000 ≤ s.hi ∧ s.hi ≤ 1000000) :
    Does Try.prog 74 [.ptr f 0 N e 0, n v] σ (fun _ σ' => σ' = (σ.upd g 0 (spO (rise l v))).upd f 0 { o with es := o.es.set e [.own g 0 (rise l v).length] }) := by
  have ho : ∀ q, (σ.upd g 0 q).at f 0 = some o := fun q => by rw [at_upd_other (.inl hne)]; exact hf
  refine Does.of_body Try.call74 Try.func74 k74 (Nat.le_of_ble_eq_true rfl) ?_
  unfold c74
  rcases List.eq_nil_or_concat l with rfl | ⟨init, s, rfl⟩
  · simp only [List.length_nil] at hrow
    (repeat' first
 | (refine AWPC.of_vcn rfl ?_; simp only [zT, zV, zS, zU, vcC, lateX, ex, strp, cnd, binA, kseq, kblk, kret, klp, Abs.one, elems, cells, scalar, eqC, Nat.reduceBEq, Nat.reduceAdd, Nat.reduceSub, Nat.reduceLT, Nat.reduceLeDiff, Nat.reduceMul, Nat.reduceEqDiff, cond_true, cond_false, if_true, if_false, reduceIte, implies_true, forall_const, ne_eq, hf, hg, ho, hN, hk, hrow, hlp])
 | (simp (disch := omega) only [wr64, Int.zero_sub]; try simp only [zT, zV, zS, zU, vcC, lateX, ex, strp, cnd, binA, kseq, kblk, kret, klp, Abs.one, elems, cells, scalar, eqC, Nat.reduceBEq, Nat.reduceAdd, Nat.reduceSub, Nat.reduceLT, Nat.reduceLeDiff, Nat.reduceMul, Nat.reduceEqDiff, cond_true, cond_false, if_true, if_false, reduceIte, implies_true, forall_const, ne_eq, hf, hg, ho, hN, hk, hrow, hlp])
 | (refine AWPC.both (fun _ => ?_) (fun _ => ?_))
 | (refine AWPC.imp (fun _ => ?_))
 | ((refine .inl ⟨_, _, _, .any, rfl, fun h => absurd h Bool.false_ne_true, ?_⟩); refine owp_of_exs ?_; simp only [zT, zV, zS, zU, vcC, lateX, ex, strp, cnd, binA, kseq, kblk, kret, klp, Abs.one, elems, cells, scalar, eqC, Nat.reduceBEq, Nat.reduceAdd, Nat.reduceSub, Nat.reduceLT, Nat.reduceLeDiff, Nat.reduceMul, Nat.reduceEqDiff, cond_true, cond_false, if_true, if_false, reduceIte, implies_true, forall_const, ne_eq, hf, hg, ho, hN, hk, hrow, hlp])
 | (refine ⟨by omega, ?_⟩)
 | (refine And.intro (by (intros; first | (simp_all (config := { decide := false }); done) | fail)) ?_)
 | fail)
    all_goals try (exfalso; omega)
    simp [rise, spO, hk, hlp]
  · rw [List.concat_eq_append] at *
    have hl' : init.length + 1 < 1000000000 := by simpa using hl
    have hs := hh s (by simp)
    have hlen : (init ++ [s]).length = init.length + 1 := by simp
    have hmap : (init ++ [s]).map Sp.cs = init.map Sp.cs ++ [s.cs] := by simp
    have hw : IntKind.i64.wrap (((init.length + 1 : Nat) : Int) - 1) = (init.length : Int) := by rw [wr64 _ (by omega) (by omega)]; omega
    have hget : (init.map Sp.cs ++ [s.cs]).getD init.length [] = s.cs := by simp [List.getD_eq_getElem?_getD]
    have hset : ∀ X : List AV, (init.map Sp.cs ++ [s.cs]).set init.length X = init.map Sp.cs ++ [X] := fun X => by
      rw [List.set_append_right _ _ (by simp)]; simp
    rw [hlen] at hrow
    unfold spO at hg
    rw [hmap] at hg
    (repeat' first
 | (refine AWPC.of_vcn rfl ?_; simp only [zT, zV, zS, zU, vcC, lateX, ex, strp, cnd, binA, kseq, kblk, kret, klp, Abs.one, elems, cells, scalar, eqC, Nat.reduceBEq, Nat.reduceAdd, Nat.reduceSub, Nat.reduceLT, Nat.reduceLeDiff, Nat.reduceMul, Nat.reduceEqDiff, cond_true, cond_false, if_true, if_false, reduceIte, implies_true, forall_const, ne_eq, hf, hg, ho, hN, hk, hrow, hlp, hlen, hmap, hw, hget, hset])
 | (simp (disch := omega) only [wr64, Int.zero_sub]; try simp only [zT, zV, zS, zU, vcC, lateX, ex, strp, cnd, binA, kseq, kblk, kret, klp, Abs.one, elems, cells, scalar, eqC, Nat.reduceBEq, Nat.reduceAdd, Nat.reduceSub, Nat.reduceLT, Nat.reduceLeDiff, Nat.reduceMul, Nat.reduceEqDiff, cond_true, cond_false, if_true, if_false, reduceIte, implies_true, forall_const, ne_eq, hf, hg, ho, hN, hk, hrow, hlp, hlen, hmap, hw, hget, hset])
 | (refine AWPC.both (fun _ => ?_) (fun _ => ?_))
 | (refine AWPC.imp (fun _ => ?_))
 | ((refine .inl ⟨_, _, _, .any, rfl, fun h => absurd h Bool.false_ne_true, ?_⟩); refine owp_of_exs ?_; simp only [zT, zV, zS, zU, vcC, lateX, ex, strp, cnd, binA, kseq, kblk, kret, klp, Abs.one, elems, cells, scalar, eqC, Nat.reduceBEq, Nat.reduceAdd, Nat.reduceSub, Nat.reduceLT, Nat.reduceLeDiff, Nat.reduceMul, Nat.reduceEqDiff, cond_true, cond_false, if_true, if_false, reduceIte, implies_true, forall_const, ne_eq, hf, hg, ho, hN, hk, hrow, hlp, hlen, hmap, hw, hget, hset])
 | (refine ⟨by omega, ?_⟩)
 | (refine And.intro (by (intros; first | (simp_all (config := { decide := false }); done) | fail)) ?_)
 | fail)
    all_goals try (exfalso; omega)
    · rename_i h
      rw [rise_last, if_pos h.2]
      have e1 : spO (init ++ [⟨s.lo, max s.hi v⟩]) = ⟨23, 2, init.map Sp.cs ++ [[n s.lo, n (max s.hi v)]], none⟩ := by simp [spO]
      rw [e1]
      have e2 : (init ++ [⟨s.lo, max s.hi v⟩] : List Sp).length = init.length + 1 := by simp
      rw [e2]
      have e3 : o.es.set e [.own g 0 (init.length + 1)] = o.es := by
        rw [← hrow, List.getD_eq_getElem?_getD]
        refine List.ext_getElem? fun i => ?_
        rw [List.getElem?_set]
        by_cases hi : e = i
        · subst hi; simp [hN, he]
        · simp [hi]
      rw [e3]
      refine (upd_self ?_).symm
      rw [ho, ← hlp, ← hk]
    · rename_i h
      rw [rise_last, if_neg (by omega)]
      simp [spO, hk, hlp]

theorem updUpd {σ : Sto} {f i : Nat} {o o' : Ob} : (σ.upd f i o).upd f i o' = σ.upd f i o' := by
  unfold Sto.upd
  cases h : σ[f]? with
  | none => simp [h]
  | some F =>
    cases F with
    | none => simp [h]
    | some F =>
      have hlt := (List.getElem?_eq_some_iff.1 h).1
      simp [List.getElem?_set_self hlt]

/-- Rows that are taken up one by one: nothing yet, all of them. -/
def rowsO (G m N : Nat) : List (List AV) := (List.range N).map fun c => if c < m then [.own (G + c) 0 0] else [.v (.slice none 0 0)]

theorem AWPC.ownRows {P : Program} {N0 : Nat} {rd : Option Nat} {K : Kont} {env : Env} {σ : Sto} {c : C} {A N T : Nat} (ho : σ.at A 0 = some ⟨T, 1, List.replicate N [.v (.slice none 0 0)], none⟩)
    (h : AWPC P N0 rd c K env (σ.upd A 0 ⟨T, 1, rowsO σ.length N N, none⟩ ++ List.replicate N (some [spO []]))) : AWPC P N0 rd c K env σ := by
  have hA := at_lt ho
  have main : ∀ j, j ≤ N → AWPC P N0 rd c K env (σ.upd A 0 ⟨T, 1, rowsO σ.length (N - j) N, none⟩ ++ List.replicate (N - j) (some [spO []])) := by
    intro j
    induction j with
    | zero => intro _; exact h
    | succ j ih =>
      intro hj
      have ih := ih (by omega)
      obtain ⟨m, hm⟩ : ∃ m, N - j = m + 1 := ⟨N - j - 1, by omega⟩
      have hm' : N - (j + 1) = m := by omega
      rw [hm] at ih
      rw [hm']
      have hmN : m < N := by omega
      have hat : Sto.at (σ.upd A 0 ⟨T, 1, rowsO σ.length m N, none⟩ ++ List.replicate m (some [spO []])) A 0 = some ⟨T, 1, rowsO σ.length m N, none⟩ := by
        rw [at_appL (by rw [upd_length]; exact hA)]; exact at_upd_same ho
      refine AWPC.own0c 23 2 (f := A) (i := 0) (e := m) (j := 0) hat (by simp [rowsO]; exact hmN) (by simp [rowsO, List.getD_eq_getElem?_getD, hmN]) ?_
      have e1 : (rowsO σ.length m N).set m (((rowsO σ.length m N).getD m []).set 0 (.own (σ.length + m) 0 0)) = rowsO σ.length (m + 1) N := by
        refine List.ext_getElem? fun i => ?_
        rw [List.getElem?_set]
        by_cases hi : m = i
        · subst hi
          simp [rowsO, hmN, List.getD_eq_getElem?_getD]
        · simp only [hi, if_false]
          simp only [rowsO, List.getElem?_map]
          by_cases hiN : i < N
          · simp only [List.getElem?_range hiN, Option.map_some]
            have : (i < m) ↔ (i < m + 1) := by omega
            simp only [this]
          · simp [List.getElem?_eq_none, hiN]
      have e2 : List.length (σ.upd A 0 ⟨T, 1, rowsO σ.length m N, none⟩ ++ List.replicate m (some [spO []])) = σ.length + m := by simp [upd_length]
      rw [e2]
      simp only
      rw [e1]
      have e3 : Sto.upd (σ.upd A 0 ⟨T, 1, rowsO σ.length m N, none⟩ ++ List.replicate m (some [spO []]) ++ [some [⟨23, 2, [], none⟩]]) A 0 ⟨T, 1, rowsO σ.length (m + 1) N, none⟩ = σ.upd A 0 ⟨T, 1, rowsO σ.length (m + 1) N, none⟩ ++ List.replicate (m + 1) (some [spO []]) := by
        rw [List.append_assoc, upd_appL (by rw [upd_length]; exact hA)]
        congr 1
        · exact updUpd
        · rw [List.replicate_succ']; rfl
      rw [e3]
      exact ih
  have := main N (Nat.le_refl _)
  rw [Nat.sub_self] at this
  simp only [List.replicate_zero, List.append_nil] at this
  have e : rowsO σ.length 0 N = List.replicate N [.v (.slice none 0 0)] := by
    refine List.ext_getElem? fun i => ?_
    simp only [rowsO, List.getElem?_map, List.getElem?_replicate]
    by_cases hi : i < N
    · simp [hi]
    · simp [hi]
  rw [e, upd_self ho] at this
  exact this
end Go.Proofs.Ytgpdckmbojmlpaa

namespace Go.Proofs.Ytgpdckmbojmlpaa
open Go.Abs
set_option linter.unusedVariables false
set_option linter.unusedSimpArgs false
set_option maxHeartbeats 4000000
set_option maxRecDepth 100000

/-- Blots that rise, and are columns. -/
def bOK (N : Int) (l : List Int) : Prop := (∀ b ∈ l, 0 ≤ b ∧ b < N) ∧ l.Pairwise (· < ·)
theorem bOK_take {N : Int} {l : List Int} (h : bOK N l) (i : Nat) : bOK N (l.take i) := ⟨fun b hb => h.1 b (List.mem_of_mem_take hb), h.2.sublist (List.take_sublist i l)⟩
theorem bOK_1 {N : Int} {l : List Int} {b : Int} (hb : l[0]? = some b) : bOK N (l.take 1) ↔ 0 ≤ b ∧ b < N := by
  have e : l.take 1 = [b] := by rw [List.take_add_one, hb]; rfl
  rw [e]; simp [bOK]
theorem bOK_next {N : Int} {l : List Int} {i : Nat} {u b : Int} (hu : l[i]? = some u) (hb : l[i + 1]? = some b) (h : bOK N (l.take (i + 1))) : bOK N (l.take (i + 2)) ↔ (0 ≤ b ∧ b < N) ∧ u < b := by
  have e1 : l.take (i + 1) = l.take i ++ [u] := by rw [List.take_add_one, hu]; rfl
  have e2 : l.take (i + 2) = l.take i ++ [u] ++ [b] := by rw [List.take_add_one, hb, e1]; rfl
  unfold bOK at h ⊢
  rw [e1] at h
  rw [e2, List.pairwise_append]
  constructor
  · rintro ⟨h1, _, _, h2⟩
    exact ⟨h1 b (by simp), h2 u (by simp) b (by simp)⟩
  · rintro ⟨h1, h2⟩
    refine ⟨fun x hx => ?_, h.2, by simp, fun x hx y hy => ?_⟩
    · rcases List.mem_append.1 hx with hx | hx
      · exact h.1 x hx
      · obtain rfl : x = b := by simpa using hx
        exact h1
    · obtain rfl : y = b := by simpa using hy
      rcases List.mem_append.1 hx with hx | hx
      · have := (List.pairwise_append.1 h.2).2.2 x hx u (by simp)
        omega
      · obtain rfl : x = u := by simpa using hx
        exact h2

/-- What a sheet shows in a column without a blot. -/
def inkC (p : Pp) (l : List Pt) (c : Int) : List Sp := l.foldl (fun s t => joins s (p.rmeans t c)) []
theorem inkC_next {p : Pp} {l : List Pt} {i : Nat} {t : Pt} (h : l[i]? = some t) (c : Int) : inkC p (l.take (i + 1)) c = joins (inkC p (l.take i) c) (p.rmeans t c) := by
  have : l.take (i + 1) = l.take i ++ [t] := by rw [List.take_add_one, h]; rfl
  simp only [inkC, this, List.foldl_append, List.foldl_cons, List.foldl_nil]
theorem rmeans_nb {p : Pp} {t : Pt} {c : Int} (hg : p.good) (ht : t.right) : Nb (p.rmeans t c) := by
  obtain ⟨h1, h2, _⟩ := rmeans_set p t c hg ht
  refine .of h1 fun v hv => ?_
  obtain ⟨y, hy, _, rfl⟩ := (h2 v).1 hv
  have hb := heights_bd p t hg ht
  exact level_bd p y hg (by omega) (by omega)
theorem inkC_nb {p : Pp} {c : Int} (hg : p.good) : ∀ (l : List Pt) (s : List Sp), (∀ t ∈ l, t.right) → Nb s → Nb (l.foldl (fun s t => joins s (p.rmeans t c)) s) ∧ ∀ v, Mem v (l.foldl (fun s t => joins s (p.rmeans t c)) s) ↔ Mem v s ∨ ∃ t ∈ l, Mem v (p.rmeans t c)
  | [], s, _, hs => ⟨hs, fun v => by simp⟩
  | t :: l, s, hl, hs => by
    obtain ⟨h1, h2⟩ := inkC_nb (c := c) hg l (joins s (p.rmeans t c)) (fun u hu => hl u (by simp [hu])) (nb_joins hs (rmeans_nb hg (hl t (by simp))))
    refine ⟨h1, fun v => ?_⟩
    rw [List.foldl_cons, h2, mem_joins hs]
    simp [or_assoc]
theorem inkC_ok {p : Pp} {c : Int} {l : List Pt} (hg : p.good) (hl : ∀ t ∈ l, t.right) : Nb (inkC p l c) ∧ ∀ v, Mem v (inkC p l c) ↔ ∃ t ∈ l, Mem v (p.rmeans t c) := by
  obtain ⟨h1, h2⟩ := inkC_nb (c := c) hg l [] hl nb_nil
  exact ⟨h1, fun v => by rw [inkC, h2]; simp [Mem.nil]⟩
theorem Nb.len_le {l : List Sp} (h : Nb l) : l.length ≤ 12001 := by
  have := Norm.len_le (A := 0) (B := 12000) h.1 h.2
  omega
def inkB (p : Pp) (l : List Pt) (bs : List Int) (c : Nat) : List Sp := if (c : Int) ∈ bs then [] else inkC p l c
def inkX (p : Pp) (l : List Pt) (bs : List Int) : List (List Sp) := (List.range p.co.toNat).map (inkB p l bs)
/-- What a sheet shows, or why not. -/
noncomputable def inkE (p : Pp) (l : List Pt) (bs : List Int) : List (List Sp) × Int :=
  if ¬ p.good then ([], 10) else if (traceErr l).1 ≠ 0 then ([], (traceErr l).1) else if tr (bOK p.co bs) = false then ([], 1) else lim (inkX p l bs)

theorem inkB_nb {p : Pp} {l : List Pt} {bs : List Int} (hg : p.good) (hl : ∀ t ∈ l, t.right) (c : Nat) : Nb (inkB p l bs c) := by
  unfold inkB; split
  · exact nb_nil
  · exact (inkC_ok hg hl).1

/-- Columns of sets, as an object. -/
abbrev colsO (N : Nat) (f : Nat → List Sp) : Ob := ⟨34, 1, (List.range N).map fun (j : Nat) => [spS (f j)], none⟩
abbrev blotO (N : Nat) (l : List Int) : Ob := ⟨4, 1, (List.range N).map fun (j : Nat) => [bl (decide ((j : Int) ∈ l))], none⟩
theorem range_get {α : Type} {N : Nat} (f : Nat → α) {c : Nat} {d : α} (h : c < N) : ((List.range N).map f).getD c d = f c := by
  simp [List.getD_eq_getElem?_getD, h]
theorem range_set {α : Type} {N : Nat} (f : Nat → α) (c : Nat) (x : α) : ((List.range N).map f).set c x = (List.range N).map fun j => if j = c then x else f j := by
  refine List.ext_getElem? fun i => ?_
  rw [List.getElem?_set]
  by_cases hi : i < N
  · by_cases hc : c = i
    · subst hc; simp [hi]
    · have : ¬ i = c := fun h => hc h.symm
      simp [hi, hc, this]
  · by_cases hc : c = i
    · subst hc; simp [hi]
    · simp [hi, hc]
theorem range_congr {α : Type} {N : Nat} {f g : Nat → α} (h : ∀ j, j < N → f j = g j) : (List.range N).map f = (List.range N).map g :=
  List.map_congr_left fun j hj => h j (List.mem_range.1 hj)
theorem range_rep {α : Type} (N : Nat) (x : α) : List.replicate N x = (List.range N).map fun _ => x := by
  refine List.ext_getElem? fun i => ?_
  by_cases hi : i < N
  · simp [hi]
  · simp [hi]

theorem many_len {x : List (List Sp)} (h : many x = false) : ∀ l ∈ x, l.length ≤ 8 := many_false.1 h
end Go.Proofs.Ytgpdckmbojmlpaa

namespace Go.Proofs.Ytgpdckmbojmlpaa
open Go.Abs
set_option linter.unusedVariables false
set_option linter.unusedSimpArgs false
set_option maxHeartbeats 4000000
set_option maxRecDepth 100000
-- aneroid/aneroidref01.Ink
def c58 : CF := ⟨143,
 (.seq (.ops [
 ⟨(some 3), .box false 25 10 (.t 0), none⟩,
 ⟨(some 6), .alloc 56 1 [.slice none 0 0], none⟩,
 ⟨(some 7), .mv (.c (.int .i64 0)), none⟩] [1, 2, 3, 6])
 (.seq (.seq (.ops [
 ⟨(some 19), .load (some 10) (.t 3), none⟩,
 ⟨(some 20), .call (.f 53) [(.t 19)], none⟩,
 ⟨(some 21), .bin .neq (.t 20) (.c (.int .i64 0)), none⟩] [1, 2, 3, 6, 21])
 (.cond (.t 21) (.seq (.ops [
 ⟨(some 22), .build [.slice none 0 0] [], none⟩,
 ⟨none, .store 1 (.t 6) (.t 22), none⟩,
 ⟨(some 7), .mv (.c (.int .i64 10)), none⟩] [6, 7])
 .ret)
 .skip))
 (.seq (.ops [
 ⟨(some 24), .mv (.t 1), none⟩,
 ⟨(some 25), .call (.f 47) [(.t 24)], none⟩,
 ⟨(some 23), .mv (.t 25), none⟩,
 ⟨(some 26), .ext 0 (.t 23), none⟩,
 ⟨(some 27), .ext 1 (.t 23), none⟩,
 ⟨(some 8), .mv (.t 26), none⟩,
 ⟨(some 9), .mv (.t 27), none⟩] [1, 2, 3, 6, 8])
 (.seq (.seq (.ops [
 ⟨(some 28), .mv (.t 8), none⟩,
 ⟨(some 29), .bin .neq (.t 28) (.c (.int .i64 0)), none⟩] [1, 2, 3, 6, 8, 29])
 (.cond (.t 29) (.seq (.ops [
 ⟨(some 30), .build [.slice none 0 0] [], none⟩,
 ⟨(some 31), .mv (.t 8), none⟩,
 ⟨none, .store 1 (.t 6) (.t 30), none⟩,
 ⟨(some 7), .mv (.t 31), none⟩] [6, 7])
 .ret)
 .skip))
 (.seq (.ops [
 ⟨(some 32), .faddr 5 (.t 3), none⟩,
 ⟨(some 33), .load none (.t 32), none⟩,
 ⟨(some 34), .mksl 4 1 1 [.bool false] (.t 33) (.t 33), none⟩,
 ⟨(some 10), .mv (.t 34), none⟩] [1, 2, 3, 6, 10])
 (.seq (.seq (.ops [
 ⟨(some 11), .mv (.c (.int .i64 0)), none⟩] [1, 2, 3, 6, 10, 11])
 (.block 0 (.loop (.seq (.seq (.ops [
 ⟨(some 35), .mv (.t 11), none⟩,
 ⟨(some 36), .mv (.t 2), none⟩,
 ⟨(some 37), .len (.t 36), none⟩,
 ⟨(some 38), .bin .lss (.t 35) (.t 37), none⟩] [1, 2, 3, 6, 10, 11, 38])
 (.cond (.t 38) .skip
 (.exit 0)))
 (.seq (.block 1 (.seq (.seq (.draw [
 ⟨(some 41), .mv (.t 2), none⟩,
 ⟨(some 42), .mv (.t 11), none⟩,
 ⟨(some 43), .iaddr 1 (.t 41) (.t 42), none⟩,
 ⟨(some 44), .load none (.t 43), none⟩,
 ⟨(some 45), .faddr 5 (.t 3), none⟩,
 ⟨(some 46), .load none (.t 45), none⟩,
 ⟨(some 47), .bin .sub (.t 46) (.c (.int .i64 1)), none⟩,
 ⟨(some 48), .call (.f 76) [(.t 44), (.c (.int .i64 0)), (.t 47)], none⟩,
 ⟨(some 49), .un .not (.t 48), none⟩,
 ⟨(some 50), .mv (.t 49), none⟩,
 ⟨(some 51), .mv (.t 11), (some (50, false))⟩,
 ⟨(some 52), .bin .gtr (.t 51) (.c (.int .i64 0)), (some (50, false))⟩,
 ⟨(some 53), .mv (.t 52), (some (50, false))⟩,
 ⟨(some 54), .mv (.t 2), (some (53, true))⟩,
 ⟨(some 55), .mv (.t 11), (some (53, true))⟩,
 ⟨(some 56), .iaddr 1 (.t 54) (.t 55), (some (53, true))⟩,
 ⟨(some 57), .load none (.t 56), (some (53, true))⟩,
 ⟨(some 58), .mv (.t 2), (some (53, true))⟩,
 ⟨(some 59), .mv (.t 11), (some (53, true))⟩,
 ⟨(some 60), .bin .sub (.t 59) (.c (.int .i64 1)), (some (53, true))⟩,
 ⟨(some 61), .iaddr 1 (.t 58) (.t 60), (some (53, true))⟩,
 ⟨(some 62), .load none (.t 61), (some (53, true))⟩,
 ⟨(some 63), .bin .leq (.t 57) (.t 62), (some (53, true))⟩,
 ⟨(some 64), .pick (.t 53) (.t 63) (.c (.bool false)), (some (50, false))⟩,
 ⟨(some 65), .pick (.t 50) (.c (.bool true)) (.t 64), none⟩] [
 ] [1, 2, 3, 6, 10, 11, 65])
 (.cond (.t 65) (.seq (.ops [
 ⟨(some 66), .build [.slice none 0 0] [], none⟩,
 ⟨none, .store 1 (.t 6) (.t 66), none⟩,
 ⟨(some 7), .mv (.c (.int .i64 1)), none⟩] [6, 7])
 .ret)
 .skip))
 (.ops [
 ⟨(some 67), .mv (.t 10), none⟩,
 ⟨(some 68), .mv (.t 2), none⟩,
 ⟨(some 69), .mv (.t 11), none⟩,
 ⟨(some 70), .iaddr 1 (.t 68) (.t 69), none⟩,
 ⟨(some 71), .load none (.t 70), none⟩,
 ⟨(some 72), .iaddr 1 (.t 67) (.t 71), none⟩,
 ⟨none, .store 1 (.t 72) (.c (.bool true)), none⟩] [1, 2, 3, 6, 10, 11])))
 (.ops [
 ⟨(some 39), .mv (.t 11), none⟩,
 ⟨(some 40), .bin .add (.t 39) (.c (.int .i64 1)), none⟩,
 ⟨(some 11), .mv (.t 40), none⟩] [1, 2, 3, 6, 10, 11]))))))
 (.seq (.ops [
 ⟨(some 73), .faddr 5 (.t 3), none⟩,
 ⟨(some 74), .load none (.t 73), none⟩,
 ⟨(some 75), .mksl 34 1 24 [.slice none 0 0] (.t 74) (.t 74), none⟩,
 ⟨(some 12), .mv (.t 75), none⟩] [1, 3, 6, 10, 12])
 (.seq (.seq (.ops [
 ⟨(some 13), .mv (.c (.int .i64 0)), none⟩] [1, 3, 6, 10, 12, 13])
 (.block 2 (.loop (.seq (.seq (.ops [
 ⟨(some 76), .mv (.t 13), none⟩,
 ⟨(some 77), .mv (.t 1), none⟩,
 ⟨(some 78), .len (.t 77), none⟩,
 ⟨(some 79), .bin .lss (.t 76) (.t 78), none⟩] [1, 3, 6, 10, 12, 13, 79])
 (.cond (.t 79) .skip
 (.exit 2)))
 (.seq (.block 3 (.seq (.draw [
 ⟨(some 82), .load (some 10) (.t 3), none⟩,
 ⟨(some 83), .mv (.t 1), none⟩,
 ⟨(some 84), .mv (.t 13), none⟩,
 ⟨(some 85), .iaddr 3 (.t 83) (.t 84), none⟩,
 ⟨(some 86), .load (some 3) (.t 85), none⟩,
 ⟨(some 87), .call (.f 91) [(.t 82), (.t 86)], none⟩,
 ⟨(some 14), .alloc 23 2 [.int .i64 0, .int .i64 0], none⟩] [
 ⟨none, .store 2 (.t 14) (.t 87), none⟩] [1, 3, 6, 10, 12, 13, 14])
 (.seq (.ops [
 ⟨(some 88), .faddr 0 (.t 14), none⟩,
 ⟨(some 89), .load none (.t 88), none⟩,
 ⟨(some 15), .mv (.t 89), none⟩] [1, 3, 6, 10, 12, 13, 14, 15])
 (.block 4 (.loop (.seq (.seq (.ops [
 ⟨(some 90), .mv (.t 15), none⟩,
 ⟨(some 91), .faddr 1 (.t 14), none⟩,
 ⟨(some 92), .load none (.t 91), none⟩,
 ⟨(some 93), .bin .leq (.t 90) (.t 92), none⟩] [1, 3, 6, 10, 12, 13, 14, 15, 93])
 (.cond (.t 93) .skip
 (.exit 4)))
 (.seq (.block 5 (.seq (.draw [
 ⟨(some 96), .load (some 10) (.t 3), none⟩,
 ⟨(some 97), .mv (.t 1), none⟩,
 ⟨(some 98), .mv (.t 13), none⟩,
 ⟨(some 99), .iaddr 3 (.t 97) (.t 98), none⟩,
 ⟨(some 100), .load (some 3) (.t 99), none⟩,
 ⟨(some 101), .mv (.t 15), none⟩,
 ⟨(some 102), .call (.f 82) [(.t 96), (.t 100), (.t 101)], none⟩,
 ⟨(some 16), .mv (.t 102), none⟩] [
 ] [1, 3, 6, 10, 12, 13, 14, 15, 16])
 (.seq (.ops [
 ⟨(some 17), .mv (.c (.int .i64 0)), none⟩] [1, 3, 6, 10, 12, 13, 14, 15, 16, 17])
 (.block 6 (.loop (.seq (.seq (.ops [
 ⟨(some 103), .mv (.t 17), none⟩,
 ⟨(some 104), .mv (.t 16), none⟩,
 ⟨(some 105), .len (.t 104), none⟩,
 ⟨(some 106), .bin .lss (.t 103) (.t 105), none⟩,
 ⟨(some 107), .mv (.t 106), none⟩,
 ⟨(some 108), .mv (.t 10), (some (107, true))⟩,
 ⟨(some 109), .mv (.t 15), (some (107, true))⟩,
 ⟨(some 110), .iaddr 1 (.t 108) (.t 109), (some (107, true))⟩,
 ⟨(some 111), .load none (.t 110), (some (107, true))⟩,
 ⟨(some 112), .un .not (.t 111), (some (107, true))⟩,
 ⟨(some 113), .pick (.t 107) (.t 112) (.c (.bool false)), none⟩] [1, 3, 6, 10, 12, 13, 14, 15, 16, 17, 113])
 (.cond (.t 113) .skip
 (.exit 6)))
 (.seq (.block 7 (.draw [
 ⟨(some 116), .mv (.t 12), none⟩,
 ⟨(some 117), .mv (.t 15), none⟩,
 ⟨(some 118), .mv (.t 12), none⟩,
 ⟨(some 119), .mv (.t 15), none⟩,
 ⟨(some 120), .iaddr 1 (.t 118) (.t 119), none⟩,
 ⟨(some 121), .load none (.t 120), none⟩,
 ⟨(some 122), .mv (.t 16), none⟩,
 ⟨(some 123), .mv (.t 17), none⟩,
 ⟨(some 124), .iaddr 2 (.t 122) (.t 123), none⟩,
 ⟨(some 125), .load (some 2) (.t 124), none⟩,
 ⟨(some 126), .call (.f 105) [(.t 121), (.t 125)], none⟩,
 ⟨(some 127), .iaddr 1 (.t 116) (.t 117), none⟩] [
 ⟨none, .store 1 (.t 127) (.t 126), none⟩] [1, 3, 6, 10, 12, 13, 14, 15, 16, 17]))
 (.ops [
 ⟨(some 114), .mv (.t 17), none⟩,
 ⟨(some 115), .bin .add (.t 114) (.c (.int .i64 1)), none⟩,
 ⟨(some 17), .mv (.t 115), none⟩] [1, 3, 6, 10, 12, 13, 14, 15, 16, 17]))))))))
 (.ops [
 ⟨(some 94), .mv (.t 15), none⟩,
 ⟨(some 95), .bin .add (.t 94) (.c (.int .i64 1)), none⟩,
 ⟨(some 15), .mv (.t 95), none⟩] [1, 3, 6, 10, 12, 13, 14, 15]))))))))
 (.ops [
 ⟨(some 80), .mv (.t 13), none⟩,
 ⟨(some 81), .bin .add (.t 80) (.c (.int .i64 1)), none⟩,
 ⟨(some 13), .mv (.t 81), none⟩] [1, 3, 6, 10, 12, 13]))))))
 (.seq (.seq (.ops [
 ⟨(some 18), .mv (.c (.int .i64 0)), none⟩] [6, 12, 18])
 (.block 8 (.loop (.seq (.seq (.ops [
 ⟨(some 128), .mv (.t 18), none⟩,
 ⟨(some 129), .mv (.t 12), none⟩,
 ⟨(some 130), .len (.t 129), none⟩,
 ⟨(some 131), .bin .lss (.t 128) (.t 130), none⟩] [6, 12, 18, 131])
 (.cond (.t 131) .skip
 (.exit 8)))
 (.seq (.block 9 (.seq (.ops [
 ⟨(some 134), .mv (.t 12), none⟩,
 ⟨(some 135), .mv (.t 18), none⟩,
 ⟨(some 136), .iaddr 1 (.t 134) (.t 135), none⟩,
 ⟨(some 137), .load none (.t 136), none⟩,
 ⟨(some 138), .len (.t 137), none⟩,
 ⟨(some 139), .bin .gtr (.t 138) (.c (.int .i64 8)), none⟩] [6, 12, 18, 139])
 (.cond (.t 139) (.seq (.ops [
 ⟨(some 140), .build [.slice none 0 0] [], none⟩,
 ⟨none, .store 1 (.t 6) (.t 140), none⟩,
 ⟨(some 7), .mv (.c (.int .i64 2)), none⟩] [6, 7])
 .ret)
 .skip)))
 (.ops [
 ⟨(some 132), .mv (.t 18), none⟩,
 ⟨(some 133), .bin .add (.t 132) (.c (.int .i64 1)), none⟩,
 ⟨(some 18), .mv (.t 133), none⟩] [6, 12, 18]))))))
 (.seq (.ops [
 ⟨(some 141), .mv (.t 12), none⟩,
 ⟨(some 142), .build [.slice none 0 0] [(0, 1, (.t 141))], none⟩,
 ⟨none, .store 1 (.t 6) (.t 142), none⟩,
 ⟨(some 7), .mv (.c (.int .i64 0)), none⟩] [6, 7])
 .ret)))))))))),
 [.c 6 (some 1), .t 7]⟩
theorem k58 : chkF Try.prog Try.f58 c58 = true := by kernel_rfl

theorem frz_cols {σ : Sto} {g i : Nat} {N : Nat} {f : Nat → List Sp} (h : σ.at g i = some (colsO N f)) : Frz σ (.own g i N) (colS ((List.range N).map f)) := by
  have := frz_col (σ := σ) (f := g) (i := i) (x := (List.range N).map f) (by rw [h]; simp [colsO])
  simpa using this

/-- The columns up to one, with a point more. -/
def curC (p : Pp) (l : List Pt) (bs : List Int) (t : Pt) (i c j : Nat) : List Sp := if (p.rcols t).lo ≤ j ∧ j < c then inkB p (l.take (i + 1)) bs j else inkB p (l.take i) bs j

/-- The state of the sets. -/
def RI (N : Nat) (bs : List Int) (τ : Sto) (f : Nat → List Sp) : Prop := τ.at 0 0 = some ⟨56, 1, [[.v (.slice none 0 0)]], none⟩ ∧ τ.at 1 0 = some (blotO N bs) ∧ τ.at 2 0 = some (colsO N f)

theorem RI.app {N : Nat} {bs : List Int} {τ : Sto} {f : Nat → List Sp} (h : RI N bs τ f) (ν : Sto) : RI N bs (τ ++ ν) f :=
  ⟨by rw [at_appL (at_lt h.1)]; exact h.1, by rw [at_appL (at_lt h.2.1)]; exact h.2.1, by rw [at_appL (at_lt h.2.2)]; exact h.2.2⟩
theorem RI.upd {N : Nat} {bs : List Int} {τ : Sto} {f g : Nat → List Sp} {o : Ob} (h : RI N bs τ f) (ho : o = colsO N g) : RI N bs (τ.upd 2 0 o) g :=
  ⟨by rw [at_upd_other (.inl (by decide))]; exact h.1, by rw [at_upd_other (.inl (by decide))]; exact h.2.1, by rw [at_upd_same h.2.2, ho]⟩
theorem colsO_set {N : Nat} {f g : Nat → List Sp} {c : Nat} {x : List Sp} (hc : g c = x) (h : ∀ j, j < N → j ≠ c → g j = f j) : ({ colsO N f with es := (colsO N f).es.set c [spS x] } : Ob) = colsO N g := by
  unfold colsO
  simp only
  rw [range_set]
  refine congrArg (fun z => (⟨34, 1, z, none⟩ : Ob)) (range_congr fun j hj => ?_)
  by_cases hjc : j = c
  · subst hjc; rw [if_pos rfl, hc]
  · rw [if_neg hjc, h j hj hjc]

theorem rcols_bd (p : Pp) (t : Pt) (hg : p.good) (ht : t.right) : 0 ≤ (p.rcols t).lo ∧ (p.rcols t).lo ≤ 1000000000 ∧ (p.rcols t).hi ≤ p.co - 1 := by
  have hg' := hg
  obtain ⟨g1, g2, g3, g4, g5, g6, g7, g8, g9, g10, g11, g12, g13⟩ := hg'
  have h1 := along_bd p t hg ht
  have h2 := heights_bd p t hg ht
  unfold Pp.rcols
  split
  · simp only; omega
  · have h3 := arcs_bd p (p.heights t) hg (by omega) (by omega) (by omega)
    have h4 := ediv_bd (a := (p.along t).lo - (p.arcs (p.heights t)).hi) (b := p.pi) (A := 1000000000000) (by omega) (by omega) (by omega) g1
    have h5 : ((p.along t).lo - (p.arcs (p.heights t)).hi) / p.pi ≤ 405000000 / p.pi := Int.ediv_le_ediv (by omega) (by omega)
    have h6 := Int.ediv_le_self p.pi (show (0 : Int) ≤ 405000000 by omega)
    simp only
    omega
theorem rmeans_out {p : Pp} {t : Pt} (hg : p.good) (ht : t.right) {c : Int} (c0 : 0 ≤ c) (c1 : c < p.co) (h : ¬ ((p.rcols t).lo ≤ c ∧ c ≤ (p.rcols t).hi)) : p.rmeans t c = [] := by
  obtain ⟨h1, h2, _⟩ := rmeans_set p t c hg ht
  refine h1.nil_iff.2 fun v hv => h ((rcols_in p t hg ht c c0 c1).2 ?_)
  obtain ⟨y, hy, hh, _⟩ := (h2 v).1 hv
  exact ⟨y, hy, hh⟩
theorem inkB_out {p : Pp} {l : List Pt} {bs : List Int} {i : Nat} {t : Pt} (hti : l[i]? = some t) (hg : p.good) (ht : t.right) {c : Nat} (c1 : (c : Int) < p.co) (h : ¬ ((p.rcols t).lo ≤ c ∧ c ≤ (p.rcols t).hi)) : inkB p (l.take (i + 1)) bs c = inkB p (l.take i) bs c := by
  unfold inkB
  rw [inkC_next hti, rmeans_out hg ht (by omega) c1 h]
  rfl

theorem bad_ok : ∀ (l : List Pt) (i : Nat), (bad l i).1 = 0 → ∀ t ∈ l, t.right
  | [], _, _, t, ht => by cases ht
  | p :: r, i, h, t, ht => by
    unfold bad at h
    by_cases hp : p.right
    · rw [if_pos hp] at h
      rcases List.mem_cons.1 ht with rfl | ht
      · exact hp
      · exact bad_ok r (i + 1) h t ht
    · rw [if_neg hp] at h; simp at h
theorem trace_ok {l : List Pt} (h : (traceErr l).1 = 0) : l.length ≤ 2000 ∧ ∀ t ∈ l, t.right := by
  unfold traceErr at h
  by_cases hl : 2000 < l.length
  · rw [if_pos hl] at h; exact absurd h (by decide)
  · rw [if_neg hl] at h
    exact ⟨by omega, bad_ok l 0 h⟩

theorem rInk_spec (p : Pp) (l : List Pt) (bs : List Int) (hll : l.length < 9223372036854775808) (hbl : bs.length < 9223372036854775808) : Pure Try.prog 58 [.agg p.cs, ptS l, inS bs] (.tup [ink (inkE p l bs).1, n (inkE p l bs).2]) := by
  refine Pure.of_body Try.call58 Try.func58 k58 (Nat.le_of_ble_eq_true rfl) ?_
  have h1 := rcheckPaper_spec p
  have h2 := rcheckTrace_spec l hll
  unfold c58 inkE
  by_cases hg : p.good
  case neg =>
    rw [if_pos hg, err1 hg] at *
    (repeat' first
 | (refine AWPC.of_vcn rfl ?_; simp only [zT, zV, zS, zU, vcC, lateX, ex, strp, cnd, binA, kseq, kblk, kret, klp, Abs.one, elems, cells, scalar, eqC, Nat.reduceBEq, Nat.reduceAdd, Nat.reduceSub, Nat.reduceLT, Nat.reduceLeDiff, Nat.reduceMul, Nat.reduceEqDiff, cond_true, cond_false, if_true, if_false, reduceIte, implies_true, forall_const, ne_eq])
 | (simp (disch := omega) only [wr64, Int.zero_sub]; try simp only [zT, zV, zS, zU, vcC, lateX, ex, strp, cnd, binA, kseq, kblk, kret, klp, Abs.one, elems, cells, scalar, eqC, Nat.reduceBEq, Nat.reduceAdd, Nat.reduceSub, Nat.reduceLT, Nat.reduceLeDiff, Nat.reduceMul, Nat.reduceEqDiff, cond_true, cond_false, if_true, if_false, reduceIte, implies_true, forall_const, ne_eq])
 | (refine AWPC.both (fun _ => ?_) (fun _ => ?_))
 | (refine AWPC.imp (fun _ => ?_))
 | ((repeat (refine And.intro (by (intros; first | omega | (simp_all (config := { decide := false }); done) | fail)) ?_)); (first
 | (refine .inl ⟨_, _, _, _, rfl, fun _hc => ⟨by simp, h1⟩, ?_⟩)
 | (refine ⟨_, _, _, _, rfl, fun _hc => ⟨by simp, h1⟩, ?_⟩)
 | fail); (first | refine owp_of_exs ?_ | refine pre_of_exd ?_ | refine pre_of_exe ?_ | fail); simp only [zT, zV, zS, zU, vcC, lateX, ex, strp, cnd, binA, kseq, kblk, kret, klp, Abs.one, elems, cells, scalar, eqC, Nat.reduceBEq, Nat.reduceAdd, Nat.reduceSub, Nat.reduceLT, Nat.reduceLeDiff, Nat.reduceMul, Nat.reduceEqDiff, cond_true, cond_false, if_true, if_false, reduceIte, implies_true, forall_const, ne_eq])
 | ((refine .inl ⟨_, _, _, .any, rfl, fun h => absurd h Bool.false_ne_true, ?_⟩); refine owp_of_exs ?_; simp only [zT, zV, zS, zU, vcC, lateX, ex, strp, cnd, binA, kseq, kblk, kret, klp, Abs.one, elems, cells, scalar, eqC, Nat.reduceBEq, Nat.reduceAdd, Nat.reduceSub, Nat.reduceLT, Nat.reduceLeDiff, Nat.reduceMul, Nat.reduceEqDiff, cond_true, cond_false, if_true, if_false, reduceIte, implies_true, forall_const, ne_eq])
 | (refine ⟨by omega, ?_⟩)
 | (refine And.intro (by (intros; first | (simp_all (config := { decide := false }); done) | fail)) ?_)
 | fail)
    all_goals try (exfalso; omega)
    exact frz_ink0 _
  rw [if_neg (fun h => h hg)]
  rw [err0.2 hg] at h1
  by_cases ht : (traceErr l).1 ≠ 0
  · rw [if_pos ht]
    (repeat' first
 | (refine AWPC.of_vcn rfl ?_; simp only [zT, zV, zS, zU, vcC, lateX, ex, strp, cnd, binA, kseq, kblk, kret, klp, Abs.one, elems, cells, scalar, eqC, Nat.reduceBEq, Nat.reduceAdd, Nat.reduceSub, Nat.reduceLT, Nat.reduceLeDiff, Nat.reduceMul, Nat.reduceEqDiff, cond_true, cond_false, if_true, if_false, reduceIte, implies_true, forall_const, ne_eq])
 | (simp (disch := omega) only [wr64, Int.zero_sub]; try simp only [zT, zV, zS, zU, vcC, lateX, ex, strp, cnd, binA, kseq, kblk, kret, klp, Abs.one, elems, cells, scalar, eqC, Nat.reduceBEq, Nat.reduceAdd, Nat.reduceSub, Nat.reduceLT, Nat.reduceLeDiff, Nat.reduceMul, Nat.reduceEqDiff, cond_true, cond_false, if_true, if_false, reduceIte, implies_true, forall_const, ne_eq])
 | (refine AWPC.both (fun _ => ?_) (fun _ => ?_))
 | (refine AWPC.imp (fun _ => ?_))
 | ((repeat (refine And.intro (by (intros; first | omega | (simp_all (config := { decide := false }); done) | fail)) ?_)); (first
 | (refine .inl ⟨_, _, _, _, rfl, fun _hc => ⟨by simp, h1⟩, ?_⟩)
 | (refine .inl ⟨_, _, _, _, rfl, fun _hc => ⟨by simp, h2⟩, ?_⟩)
 | (refine ⟨_, _, _, _, rfl, fun _hc => ⟨by simp, h1⟩, ?_⟩)
 | (refine ⟨_, _, _, _, rfl, fun _hc => ⟨by simp, h2⟩, ?_⟩)
 | fail); (first | refine owp_of_exs ?_ | refine pre_of_exd ?_ | refine pre_of_exe ?_ | fail); simp only [zT, zV, zS, zU, vcC, lateX, ex, strp, cnd, binA, kseq, kblk, kret, klp, Abs.one, elems, cells, scalar, eqC, Nat.reduceBEq, Nat.reduceAdd, Nat.reduceSub, Nat.reduceLT, Nat.reduceLeDiff, Nat.reduceMul, Nat.reduceEqDiff, cond_true, cond_false, if_true, if_false, reduceIte, implies_true, forall_const, ne_eq])
 | ((refine .inl ⟨_, _, _, .any, rfl, fun h => absurd h Bool.false_ne_true, ?_⟩); refine owp_of_exs ?_; simp only [zT, zV, zS, zU, vcC, lateX, ex, strp, cnd, binA, kseq, kblk, kret, klp, Abs.one, elems, cells, scalar, eqC, Nat.reduceBEq, Nat.reduceAdd, Nat.reduceSub, Nat.reduceLT, Nat.reduceLeDiff, Nat.reduceMul, Nat.reduceEqDiff, cond_true, cond_false, if_true, if_false, reduceIte, implies_true, forall_const, ne_eq])
 | (refine ⟨by omega, ?_⟩)
 | (refine And.intro (by (intros; first | (simp_all (config := { decide := false }); done) | fail)) ?_)
 | fail)
    · exact frz_ink0 _
    · exfalso; omega
  rw [if_neg ht]
  have hg' := hg
  obtain ⟨g1, g2, g3, g4, g5, g6, g7, g8, g9, g10, g11, g12, g13⟩ := hg'
  obtain ⟨N, hN⟩ : ∃ N : Nat, p.co = N := ⟨p.co.toNat, by omega⟩
  have hNt : p.co.toNat = N := by omega
  obtain ⟨pre, hpre⟩ : ∃ pre : Nat → List Int, ∀ i, pre i = bs.take i := ⟨_, fun _ => rfl⟩
  have hbase : ([some [⟨56, 1, [[.v (.slice none 0 0)]], none⟩], some [⟨4, 1, List.replicate p.co.toNat [bl false], none⟩]] : Sto) = [some [⟨56, 1, [[.v (.slice none 0 0)]], none⟩], some [blotO N (pre 0)]] := by
    rw [hNt, range_rep, hpre]; simp
  (repeat' first
 | (refine AWPC.of_vcn rfl ?_; simp only [zT, zV, zS, zU, vcC, lateX, ex, strp, cnd, binA, kseq, kblk, kret, klp, Abs.one, elems, cells, scalar, eqC, Nat.reduceBEq, Nat.reduceAdd, Nat.reduceSub, Nat.reduceLT, Nat.reduceLeDiff, Nat.reduceMul, Nat.reduceEqDiff, cond_true, cond_false, if_true, if_false, reduceIte, implies_true, forall_const, ne_eq])
 | (simp (disch := omega) only [wr64, Int.zero_sub]; try simp only [zT, zV, zS, zU, vcC, lateX, ex, strp, cnd, binA, kseq, kblk, kret, klp, Abs.one, elems, cells, scalar, eqC, Nat.reduceBEq, Nat.reduceAdd, Nat.reduceSub, Nat.reduceLT, Nat.reduceLeDiff, Nat.reduceMul, Nat.reduceEqDiff, cond_true, cond_false, if_true, if_false, reduceIte, implies_true, forall_const, ne_eq])
 | (refine AWPC.both (fun _ => ?_) (fun _ => ?_))
 | (refine AWPC.imp (fun _ => ?_))
 | ((repeat (refine And.intro (by (intros; first | omega | (simp_all (config := { decide := false }); done) | fail)) ?_)); (first
 | (refine .inl ⟨_, _, _, _, rfl, fun _hc => ⟨by simp, h1⟩, ?_⟩)
 | (refine .inl ⟨_, _, _, _, rfl, fun _hc => ⟨by simp, h2⟩, ?_⟩)
 | (refine ⟨_, _, _, _, rfl, fun _hc => ⟨by simp, h1⟩, ?_⟩)
 | (refine ⟨_, _, _, _, rfl, fun _hc => ⟨by simp, h2⟩, ?_⟩)
 | fail); (first | refine owp_of_exs ?_ | refine pre_of_exd ?_ | refine pre_of_exe ?_ | fail); simp only [zT, zV, zS, zU, vcC, lateX, ex, strp, cnd, binA, kseq, kblk, kret, klp, Abs.one, elems, cells, scalar, eqC, Nat.reduceBEq, Nat.reduceAdd, Nat.reduceSub, Nat.reduceLT, Nat.reduceLeDiff, Nat.reduceMul, Nat.reduceEqDiff, cond_true, cond_false, if_true, if_false, reduceIte, implies_true, forall_const, ne_eq])
 | ((refine .inl ⟨_, _, _, .any, rfl, fun h => absurd h Bool.false_ne_true, ?_⟩); refine owp_of_exs ?_; simp only [zT, zV, zS, zU, vcC, lateX, ex, strp, cnd, binA, kseq, kblk, kret, klp, Abs.one, elems, cells, scalar, eqC, Nat.reduceBEq, Nat.reduceAdd, Nat.reduceSub, Nat.reduceLT, Nat.reduceLeDiff, Nat.reduceMul, Nat.reduceEqDiff, cond_true, cond_false, if_true, if_false, reduceIte, implies_true, forall_const, ne_eq])
 | (refine ⟨by omega, ?_⟩)
 | (refine And.intro (by (intros; first | (simp_all (config := { decide := false }); done) | fail)) ?_)
 | fail)
  · exfalso; omega
  refine AWPC.loopE (α := { i : Nat // i ≤ bs.length ∧ bOK p.co (bs.take i) }) [11] (fun i => [(11, n i.1)]) (fun i => [some [⟨56, 1, [[.v (.slice none 0 0)]], none⟩], some [blotO N (pre i.1)]]) (fun i => bs.length - i.1) ⟨0, Nat.zero_le _, by simp [bOK]⟩ ?_ hbase ?_
  · (simp only [zT, zV, zS, zU, vcC, lateX, ex, strp, cnd, binA, kseq, kblk, kret, klp, Abs.one, elems, cells, scalar, eqC, Nat.reduceBEq, Nat.reduceAdd, Nat.reduceSub, Nat.reduceLT, Nat.reduceLeDiff, Nat.reduceMul, Nat.reduceEqDiff, cond_true, cond_false, if_true, if_false, reduceIte, implies_true, forall_const, ne_eq]; try simp)
  rintro ⟨i, hi, hbi⟩
  by_cases hlt : i < bs.length
  · obtain ⟨b, hb⟩ : ∃ b, bs[i]? = some b := ⟨_, List.getElem?_eq_getElem hlt⟩
    have hbg := getD_map (f := fun z => [n z]) (d := []) hb
    have hw : IntKind.i64.wrap (p.co - 1) = p.co - 1 := wr64 _ (by omega) (by omega)
    by_cases hin : 0 ≤ b ∧ b < N
    · have hst : ((List.range N).map fun (j : Nat) => [bl (decide ((j : Int) ∈ pre i))]).set b.toNat [bl true] = (List.range N).map fun (j : Nat) => [bl (decide ((j : Int) ∈ pre (i + 1)))] := by
        rw [range_set, hpre (i + 1), List.take_add_one, hb, ← hpre]
        refine range_congr fun j hj => ?_
        simp only [List.mem_append, Option.toList, List.mem_singleton]
        by_cases hj : j = b.toNat
        · rw [if_pos hj, decide_eq_true]; right; omega
        · rw [if_neg hj]
          have : (j : Int) ≠ b := by omega
          simp [this]
      have hget : ((List.range N).map fun (j : Nat) => [bl (decide ((j : Int) ∈ pre i))]).getD b.toNat [] = [bl (decide (b ∈ pre i))] := by
        rw [range_get _ (by omega)]
        rw [show ((b.toNat : Nat) : Int) = b by omega]
      cases i with
      | zero =>
        have hn := bOK_1 (N := p.co) hb
        have hz : (-1 : Int).toNat = 0 := rfl
        (repeat' first
 | (refine AWPC.of_vcn rfl ?_; simp only [zT, zV, zS, zU, vcC, lateX, ex, strp, cnd, binA, kseq, kblk, kret, klp, Abs.one, elems, cells, scalar, eqC, Nat.reduceBEq, Nat.reduceAdd, Nat.reduceSub, Nat.reduceLT, Nat.reduceLeDiff, Nat.reduceMul, Nat.reduceEqDiff, cond_true, cond_false, if_true, if_false, reduceIte, implies_true, forall_const, ne_eq, hbg, hz, hNt, hw, hst, hget, List.length_range])
 | (simp (disch := omega) only [wr64, Int.zero_sub]; try simp only [zT, zV, zS, zU, vcC, lateX, ex, strp, cnd, binA, kseq, kblk, kret, klp, Abs.one, elems, cells, scalar, eqC, Nat.reduceBEq, Nat.reduceAdd, Nat.reduceSub, Nat.reduceLT, Nat.reduceLeDiff, Nat.reduceMul, Nat.reduceEqDiff, cond_true, cond_false, if_true, if_false, reduceIte, implies_true, forall_const, ne_eq, hbg, hz, hNt, hw, hst, hget, List.length_range])
 | (refine AWPC.both (fun _ => ?_) (fun _ => ?_))
 | (refine AWPC.imp (fun _ => ?_))
 | ((repeat (refine And.intro (by (intros; first | omega | (simp_all (config := { decide := false }); done) | fail)) ?_)); (first
 | (refine .inl ⟨_, _, _, _, rfl, fun _hc => ⟨by simp, rwithin_spec _ _ _⟩, ?_⟩)
 | (refine ⟨_, _, _, _, rfl, fun _hc => ⟨by simp, rwithin_spec _ _ _⟩, ?_⟩)
 | fail); (first | refine owp_of_exs ?_ | refine pre_of_exd ?_ | refine pre_of_exe ?_ | fail); simp only [zT, zV, zS, zU, vcC, lateX, ex, strp, cnd, binA, kseq, kblk, kret, klp, Abs.one, elems, cells, scalar, eqC, Nat.reduceBEq, Nat.reduceAdd, Nat.reduceSub, Nat.reduceLT, Nat.reduceLeDiff, Nat.reduceMul, Nat.reduceEqDiff, cond_true, cond_false, if_true, if_false, reduceIte, implies_true, forall_const, ne_eq, hbg, hz, hNt, hw, hst, hget, List.length_range])
 | ((refine .inl ⟨_, _, _, .any, rfl, fun h => absurd h Bool.false_ne_true, ?_⟩); refine owp_of_exs ?_; simp only [zT, zV, zS, zU, vcC, lateX, ex, strp, cnd, binA, kseq, kblk, kret, klp, Abs.one, elems, cells, scalar, eqC, Nat.reduceBEq, Nat.reduceAdd, Nat.reduceSub, Nat.reduceLT, Nat.reduceLeDiff, Nat.reduceMul, Nat.reduceEqDiff, cond_true, cond_false, if_true, if_false, reduceIte, implies_true, forall_const, ne_eq, hbg, hz, hNt, hw, hst, hget, List.length_range])
 | (refine ⟨by omega, ?_⟩)
 | (refine And.intro (by (intros; first | (simp_all (config := { decide := false }); done) | fail)) ?_)
 | fail)
        all_goals try (exfalso; omega)
        rename_i h
        exact ⟨⟨1, hlt, hn.2 (by omega)⟩, by simp, rfl, by simp only; omega⟩
      | succ i =>
        obtain ⟨u, hu⟩ : ∃ u, bs[i]? = some u := ⟨_, List.getElem?_eq_getElem (by omega)⟩
        have hug := getD_map (f := fun z => [n z]) (d := []) hu
        have hn := bOK_next hu hb hbi
        have hw2 : IntKind.i64.wrap (((i + 1 : Nat) : Int) - 1) = (i : Int) := by rw [wr64 _ (by omega) (by omega)]; omega
        (repeat' first
 | (refine AWPC.of_vcn rfl ?_; simp only [zT, zV, zS, zU, vcC, lateX, ex, strp, cnd, binA, kseq, kblk, kret, klp, Abs.one, elems, cells, scalar, eqC, Nat.reduceBEq, Nat.reduceAdd, Nat.reduceSub, Nat.reduceLT, Nat.reduceLeDiff, Nat.reduceMul, Nat.reduceEqDiff, cond_true, cond_false, if_true, if_false, reduceIte, implies_true, forall_const, ne_eq, hbg, hug, hw2, hNt, hw, hst, hget, List.length_range])
 | (simp (disch := omega) only [wr64, Int.zero_sub]; try simp only [zT, zV, zS, zU, vcC, lateX, ex, strp, cnd, binA, kseq, kblk, kret, klp, Abs.one, elems, cells, scalar, eqC, Nat.reduceBEq, Nat.reduceAdd, Nat.reduceSub, Nat.reduceLT, Nat.reduceLeDiff, Nat.reduceMul, Nat.reduceEqDiff, cond_true, cond_false, if_true, if_false, reduceIte, implies_true, forall_const, ne_eq, hbg, hug, hw2, hNt, hw, hst, hget, List.length_range])
 | (refine AWPC.both (fun _ => ?_) (fun _ => ?_))
 | (refine AWPC.imp (fun _ => ?_))
 | ((repeat (refine And.intro (by (intros; first | omega | (simp_all (config := { decide := false }); done) | fail)) ?_)); (first
 | (refine .inl ⟨_, _, _, _, rfl, fun _hc => ⟨by simp, rwithin_spec _ _ _⟩, ?_⟩)
 | (refine ⟨_, _, _, _, rfl, fun _hc => ⟨by simp, rwithin_spec _ _ _⟩, ?_⟩)
 | fail); (first | refine owp_of_exs ?_ | refine pre_of_exd ?_ | refine pre_of_exe ?_ | fail); simp only [zT, zV, zS, zU, vcC, lateX, ex, strp, cnd, binA, kseq, kblk, kret, klp, Abs.one, elems, cells, scalar, eqC, Nat.reduceBEq, Nat.reduceAdd, Nat.reduceSub, Nat.reduceLT, Nat.reduceLeDiff, Nat.reduceMul, Nat.reduceEqDiff, cond_true, cond_false, if_true, if_false, reduceIte, implies_true, forall_const, ne_eq, hbg, hug, hw2, hNt, hw, hst, hget, List.length_range])
 | ((refine .inl ⟨_, _, _, .any, rfl, fun h => absurd h Bool.false_ne_true, ?_⟩); refine owp_of_exs ?_; simp only [zT, zV, zS, zU, vcC, lateX, ex, strp, cnd, binA, kseq, kblk, kret, klp, Abs.one, elems, cells, scalar, eqC, Nat.reduceBEq, Nat.reduceAdd, Nat.reduceSub, Nat.reduceLT, Nat.reduceLeDiff, Nat.reduceMul, Nat.reduceEqDiff, cond_true, cond_false, if_true, if_false, reduceIte, implies_true, forall_const, ne_eq, hbg, hug, hw2, hNt, hw, hst, hget, List.length_range])
 | (refine ⟨by omega, ?_⟩)
 | (refine And.intro (by (intros; first | (simp_all (config := { decide := false }); done) | fail)) ?_)
 | fail)
        all_goals try (exfalso; omega)
        · rename_i h
          rw [tr_0 (fun g => ?_)]
          · exact frz_ink0 _
          · have := hn.1 (bOK_take g (i + 2)); omega
        · rename_i h
          exact ⟨⟨i + 2, hlt, hn.2 (by omega)⟩, by simp; omega, rfl, by simp only; omega⟩
    · have hno : ¬ bOK p.co bs := fun g => hin (by have := g.1 b (List.mem_of_getElem? hb); omega)
      rw [tr_0 hno]
      cases i with
      | zero =>
        have hz : (-1 : Int).toNat = 0 := rfl
        (repeat' first
 | (refine AWPC.of_vcn rfl ?_; simp only [zT, zV, zS, zU, vcC, lateX, ex, strp, cnd, binA, kseq, kblk, kret, klp, Abs.one, elems, cells, scalar, eqC, Nat.reduceBEq, Nat.reduceAdd, Nat.reduceSub, Nat.reduceLT, Nat.reduceLeDiff, Nat.reduceMul, Nat.reduceEqDiff, cond_true, cond_false, if_true, if_false, reduceIte, implies_true, forall_const, ne_eq, hbg, hz, hNt, hw])
 | (simp (disch := omega) only [wr64, Int.zero_sub]; try simp only [zT, zV, zS, zU, vcC, lateX, ex, strp, cnd, binA, kseq, kblk, kret, klp, Abs.one, elems, cells, scalar, eqC, Nat.reduceBEq, Nat.reduceAdd, Nat.reduceSub, Nat.reduceLT, Nat.reduceLeDiff, Nat.reduceMul, Nat.reduceEqDiff, cond_true, cond_false, if_true, if_false, reduceIte, implies_true, forall_const, ne_eq, hbg, hz, hNt, hw])
 | (refine AWPC.both (fun _ => ?_) (fun _ => ?_))
 | (refine AWPC.imp (fun _ => ?_))
 | ((repeat (refine And.intro (by (intros; first | omega | (simp_all (config := { decide := false }); done) | fail)) ?_)); (first
 | (refine .inl ⟨_, _, _, _, rfl, fun _hc => ⟨by simp, rwithin_spec _ _ _⟩, ?_⟩)
 | (refine ⟨_, _, _, _, rfl, fun _hc => ⟨by simp, rwithin_spec _ _ _⟩, ?_⟩)
 | fail); (first | refine owp_of_exs ?_ | refine pre_of_exd ?_ | refine pre_of_exe ?_ | fail); simp only [zT, zV, zS, zU, vcC, lateX, ex, strp, cnd, binA, kseq, kblk, kret, klp, Abs.one, elems, cells, scalar, eqC, Nat.reduceBEq, Nat.reduceAdd, Nat.reduceSub, Nat.reduceLT, Nat.reduceLeDiff, Nat.reduceMul, Nat.reduceEqDiff, cond_true, cond_false, if_true, if_false, reduceIte, implies_true, forall_const, ne_eq, hbg, hz, hNt, hw])
 | ((refine .inl ⟨_, _, _, .any, rfl, fun h => absurd h Bool.false_ne_true, ?_⟩); refine owp_of_exs ?_; simp only [zT, zV, zS, zU, vcC, lateX, ex, strp, cnd, binA, kseq, kblk, kret, klp, Abs.one, elems, cells, scalar, eqC, Nat.reduceBEq, Nat.reduceAdd, Nat.reduceSub, Nat.reduceLT, Nat.reduceLeDiff, Nat.reduceMul, Nat.reduceEqDiff, cond_true, cond_false, if_true, if_false, reduceIte, implies_true, forall_const, ne_eq, hbg, hz, hNt, hw])
 | (refine ⟨by omega, ?_⟩)
 | (refine And.intro (by (intros; first | (simp_all (config := { decide := false }); done) | fail)) ?_)
 | fail)
        all_goals try (exfalso; omega)
        exact frz_ink0 _
      | succ i =>
        obtain ⟨u, hu⟩ : ∃ u, bs[i]? = some u := ⟨_, List.getElem?_eq_getElem (by omega)⟩
        have hug := getD_map (f := fun z => [n z]) (d := []) hu
        have hw2 : IntKind.i64.wrap (((i + 1 : Nat) : Int) - 1) = (i : Int) := by rw [wr64 _ (by omega) (by omega)]; omega
        (repeat' first
 | (refine AWPC.of_vcn rfl ?_; simp only [zT, zV, zS, zU, vcC, lateX, ex, strp, cnd, binA, kseq, kblk, kret, klp, Abs.one, elems, cells, scalar, eqC, Nat.reduceBEq, Nat.reduceAdd, Nat.reduceSub, Nat.reduceLT, Nat.reduceLeDiff, Nat.reduceMul, Nat.reduceEqDiff, cond_true, cond_false, if_true, if_false, reduceIte, implies_true, forall_const, ne_eq, hbg, hug, hw2, hNt, hw])
 | (simp (disch := omega) only [wr64, Int.zero_sub]; try simp only [zT, zV, zS, zU, vcC, lateX, ex, strp, cnd, binA, kseq, kblk, kret, klp, Abs.one, elems, cells, scalar, eqC, Nat.reduceBEq, Nat.reduceAdd, Nat.reduceSub, Nat.reduceLT, Nat.reduceLeDiff, Nat.reduceMul, Nat.reduceEqDiff, cond_true, cond_false, if_true, if_false, reduceIte, implies_true, forall_const, ne_eq, hbg, hug, hw2, hNt, hw])
 | (refine AWPC.both (fun _ => ?_) (fun _ => ?_))
 | (refine AWPC.imp (fun _ => ?_))
 | ((repeat (refine And.intro (by (intros; first | omega | (simp_all (config := { decide := false }); done) | fail)) ?_)); (first
 | (refine .inl ⟨_, _, _, _, rfl, fun _hc => ⟨by simp, rwithin_spec _ _ _⟩, ?_⟩)
 | (refine ⟨_, _, _, _, rfl, fun _hc => ⟨by simp, rwithin_spec _ _ _⟩, ?_⟩)
 | fail); (first | refine owp_of_exs ?_ | refine pre_of_exd ?_ | refine pre_of_exe ?_ | fail); simp only [zT, zV, zS, zU, vcC, lateX, ex, strp, cnd, binA, kseq, kblk, kret, klp, Abs.one, elems, cells, scalar, eqC, Nat.reduceBEq, Nat.reduceAdd, Nat.reduceSub, Nat.reduceLT, Nat.reduceLeDiff, Nat.reduceMul, Nat.reduceEqDiff, cond_true, cond_false, if_true, if_false, reduceIte, implies_true, forall_const, ne_eq, hbg, hug, hw2, hNt, hw])
 | ((refine .inl ⟨_, _, _, .any, rfl, fun h => absurd h Bool.false_ne_true, ?_⟩); refine owp_of_exs ?_; simp only [zT, zV, zS, zU, vcC, lateX, ex, strp, cnd, binA, kseq, kblk, kret, klp, Abs.one, elems, cells, scalar, eqC, Nat.reduceBEq, Nat.reduceAdd, Nat.reduceSub, Nat.reduceLT, Nat.reduceLeDiff, Nat.reduceMul, Nat.reduceEqDiff, cond_true, cond_false, if_true, if_false, reduceIte, implies_true, forall_const, ne_eq, hbg, hug, hw2, hNt, hw])
 | (refine ⟨by omega, ?_⟩)
 | (refine And.intro (by (intros; first | (simp_all (config := { decide := false }); done) | fail)) ?_)
 | fail)
        all_goals try (exfalso; omega)
        exact frz_ink0 _
  · obtain rfl : i = bs.length := by omega
    have hbi' := hbi
    rw [List.take_length] at hbi'
    rw [tr_1 hbi']
    simp only [Bool.true_eq_false, if_false]
    have hok : ∀ t ∈ l, t.right := (trace_ok (by omega)).2
    have hl2 : l.length ≤ 2000 := (trace_ok (by omega)).1
    have hpe : pre bs.length = bs := by rw [hpre, List.take_length]
    (repeat' first
 | (refine AWPC.of_vcn rfl ?_; simp only [zT, zV, zS, zU, vcC, lateX, ex, strp, cnd, binA, kseq, kblk, kret, klp, Abs.one, elems, cells, scalar, eqC, Nat.reduceBEq, Nat.reduceAdd, Nat.reduceSub, Nat.reduceLT, Nat.reduceLeDiff, Nat.reduceMul, Nat.reduceEqDiff, cond_true, cond_false, if_true, if_false, reduceIte, implies_true, forall_const, ne_eq, hNt, hpe])
 | (simp (disch := omega) only [wr64, Int.zero_sub]; try simp only [zT, zV, zS, zU, vcC, lateX, ex, strp, cnd, binA, kseq, kblk, kret, klp, Abs.one, elems, cells, scalar, eqC, Nat.reduceBEq, Nat.reduceAdd, Nat.reduceSub, Nat.reduceLT, Nat.reduceLeDiff, Nat.reduceMul, Nat.reduceEqDiff, cond_true, cond_false, if_true, if_false, reduceIte, implies_true, forall_const, ne_eq, hNt, hpe])
 | (refine AWPC.both (fun _ => ?_) (fun _ => ?_))
 | (refine AWPC.imp (fun _ => ?_))
 | ((refine .inl ⟨_, _, _, .any, rfl, fun h => absurd h Bool.false_ne_true, ?_⟩); refine owp_of_exs ?_; simp only [zT, zV, zS, zU, vcC, lateX, ex, strp, cnd, binA, kseq, kblk, kret, klp, Abs.one, elems, cells, scalar, eqC, Nat.reduceBEq, Nat.reduceAdd, Nat.reduceSub, Nat.reduceLT, Nat.reduceLeDiff, Nat.reduceMul, Nat.reduceEqDiff, cond_true, cond_false, if_true, if_false, reduceIte, implies_true, forall_const, ne_eq, hNt, hpe])
 | (refine ⟨by omega, ?_⟩)
 | (refine And.intro (by (intros; first | (simp_all (config := { decide := false }); done) | fail)) ?_)
 | fail)
    all_goals try (exfalso; omega)
    refine AWPC.weakO (f := 2) (i := 0) (o := ⟨34, 1, List.replicate N [.v (.slice none 0 0)], none⟩) (o' := colsO N (inkB p (l.take 0) bs)) rfl rfl rfl rfl rfl (by simp) (fun e he => ?_) (fun e j he hj w X β σ x hx => ?_) ?_
    · have he' : e < N := by simpa using he
      rw [range_get _ he']; rfl
    · have he' : e < N := by simpa using he
      rw [range_get _ he']
      match j, hj with
      | 0, _ =>
        have e0 : inkB p (l.take 0) bs e = [] := by unfold inkB; split <;> rfl
        simp only [List.getD_cons_zero, e0]
        have e1 : (List.replicate N [AV.v (.slice none 0 0)]).getD e [] = [.v (.slice none 0 0)] := by simp [List.getD_eq_getElem?_getD, he']
        rw [e1] at hx
        exact RV.nil hx
    refine AWPC.loopE (α := { q : Nat × Sto × (Nat → List Sp) // q.1 ≤ l.length ∧ RI N bs q.2.1 q.2.2 ∧ ∀ j, j < N → q.2.2 j = inkB p (l.take q.1) bs j }) [13] (fun q => [(13, n q.1.1)]) (fun q => q.1.2.1) (fun q => l.length - q.1.1)
      ⟨(0, _, inkB p (l.take 0) bs), Nat.zero_le _, ⟨rfl, rfl, rfl⟩, fun j hj => rfl⟩ ?_ rfl ?_
    · (simp only [zT, zV, zS, zU, vcC, lateX, ex, strp, cnd, binA, kseq, kblk, kret, klp, Abs.one, elems, cells, scalar, eqC, Nat.reduceBEq, Nat.reduceAdd, Nat.reduceSub, Nat.reduceLT, Nat.reduceLeDiff, Nat.reduceMul, Nat.reduceEqDiff, cond_true, cond_false, if_true, if_false, reduceIte, implies_true, forall_const, ne_eq]; try simp)
    rintro ⟨⟨i, τ, f⟩, hi2, hR, hf⟩
    simp only at hi2 hR hf
    simp only
    obtain ⟨r0, r1, r2⟩ := hR
    have l0 := at_lt r0
    have l1 := at_lt r1
    have l2 := at_lt r2
    by_cases hlt2 : i < l.length
    · obtain ⟨t, hti⟩ : ∃ t, l[i]? = some t := ⟨_, List.getElem?_eq_getElem hlt2⟩
      have htr := hok t (List.mem_of_getElem? hti)
      have hcb := rcols_bd p t hg htr
      (repeat' first
 | (refine AWPC.of_vcn rfl ?_; simp only [zT, zV, zS, zU, vcC, lateX, ex, strp, cnd, binA, kseq, kblk, kret, klp, Abs.one, elems, cells, scalar, eqC, Nat.reduceBEq, Nat.reduceAdd, Nat.reduceSub, Nat.reduceLT, Nat.reduceLeDiff, Nat.reduceMul, Nat.reduceEqDiff, cond_true, cond_false, if_true, if_false, reduceIte, implies_true, forall_const, ne_eq, getD_map hti])
 | (simp (disch := omega) only [wr64, Int.zero_sub]; try simp only [zT, zV, zS, zU, vcC, lateX, ex, strp, cnd, binA, kseq, kblk, kret, klp, Abs.one, elems, cells, scalar, eqC, Nat.reduceBEq, Nat.reduceAdd, Nat.reduceSub, Nat.reduceLT, Nat.reduceLeDiff, Nat.reduceMul, Nat.reduceEqDiff, cond_true, cond_false, if_true, if_false, reduceIte, implies_true, forall_const, ne_eq, getD_map hti])
 | (refine AWPC.both (fun _ => ?_) (fun _ => ?_))
 | (refine AWPC.imp (fun _ => ?_))
 | ((repeat (refine And.intro (by (intros; first | omega | (simp_all (config := { decide := false }); done) | fail)) ?_)); (first
 | (refine .inl ⟨_, _, _, _, rfl, fun _hc => ⟨by simp, rcolumns_spec p t hg htr⟩, ?_⟩)
 | (refine ⟨_, _, _, _, rfl, fun _hc => ⟨by simp, rcolumns_spec p t hg htr⟩, ?_⟩)
 | fail); (first | refine owp_of_exs ?_ | refine pre_of_exd ?_ | refine pre_of_exe ?_ | fail); simp only [zT, zV, zS, zU, vcC, lateX, ex, strp, cnd, binA, kseq, kblk, kret, klp, Abs.one, elems, cells, scalar, eqC, Nat.reduceBEq, Nat.reduceAdd, Nat.reduceSub, Nat.reduceLT, Nat.reduceLeDiff, Nat.reduceMul, Nat.reduceEqDiff, cond_true, cond_false, if_true, if_false, reduceIte, implies_true, forall_const, ne_eq, getD_map hti])
 | ((refine .inl ⟨_, _, _, .any, rfl, fun h => absurd h Bool.false_ne_true, ?_⟩); refine owp_of_exs ?_; simp only [zT, zV, zS, zU, vcC, lateX, ex, strp, cnd, binA, kseq, kblk, kret, klp, Abs.one, elems, cells, scalar, eqC, Nat.reduceBEq, Nat.reduceAdd, Nat.reduceSub, Nat.reduceLT, Nat.reduceLeDiff, Nat.reduceMul, Nat.reduceEqDiff, cond_true, cond_false, if_true, if_false, reduceIte, implies_true, forall_const, ne_eq, getD_map hti])
 | (refine ⟨by omega, ?_⟩)
 | (refine And.intro (by (intros; first | (simp_all (config := { decide := false }); done) | fail)) ?_)
 | fail)
      all_goals try (exfalso; omega)
      have hBl : ∀ x, Sto.at (τ ++ [x]) (List.length τ) 0 = Sto.at [x] 0 0 := fun x => at_app0 τ [x] 0
      refine AWPC.loopE (α := { q : Nat × Sto × (Nat → List Sp) // (p.rcols t).lo ≤ q.1 ∧ (q.1 = (p.rcols t).lo ∨ q.1 ≤ (p.rcols t).hi + 1) ∧ RI N bs q.2.1 q.2.2 ∧ q.2.1.at (List.length τ) 0 = some ⟨23, 2, [(p.rcols t).cs], none⟩ ∧ ∀ j, j < N → q.2.2 j = curC p l bs t i q.1 j })
        [15] (fun q => [(15, n q.1.1)]) (fun q => q.1.2.1) (fun q => ((p.rcols t).hi + 1 - q.1.1).toNat)
        ⟨((p.rcols t).lo.toNat, τ ++ [some [⟨23, 2, [(p.rcols t).cs], none⟩]], f), by simp only; omega, by simp only; omega, RI.app ⟨r0, r1, r2⟩ _, by rw [hBl]; rfl, fun j hj => by
          simp only [curC]; rw [if_neg (by omega)]; exact hf j hj⟩ ?_ rfl ?_
      · (simp only [zT, zV, zS, zU, vcC, lateX, ex, strp, cnd, binA, kseq, kblk, kret, klp, Abs.one, elems, cells, scalar, eqC, Nat.reduceBEq, Nat.reduceAdd, Nat.reduceSub, Nat.reduceLT, Nat.reduceLeDiff, Nat.reduceMul, Nat.reduceEqDiff, cond_true, cond_false, if_true, if_false, reduceIte, implies_true, forall_const, ne_eq]; try simp)
        try omega
      rintro ⟨⟨c, τ2, f2⟩, hc1, hc2, hR2, hsp, hf2⟩
      simp only at hc1 hc2 hR2 hsp hf2
      simp only
      have hR2' := hR2
      obtain ⟨s0, s1, s2⟩ := hR2'
      by_cases hle : (c : Int) ≤ (p.rcols t).hi
      · have hcN : c < N := by omega
        have hm := rmeans_nb (c := c) hg htr
        have hm2 := (rmeans_set p t c hg htr).2.2
        have hmc := rmeans_spec p t c hg htr (by omega) (by omega)
        (repeat' first
 | (refine AWPC.of_vcn rfl ?_; simp only [zT, zV, zS, zU, vcC, lateX, ex, strp, cnd, binA, kseq, kblk, kret, klp, Abs.one, elems, cells, scalar, eqC, Nat.reduceBEq, Nat.reduceAdd, Nat.reduceSub, Nat.reduceLT, Nat.reduceLeDiff, Nat.reduceMul, Nat.reduceEqDiff, cond_true, cond_false, if_true, if_false, reduceIte, implies_true, forall_const, ne_eq, hsp, getD_map hti])
 | (simp (disch := omega) only [wr64, Int.zero_sub]; try simp only [zT, zV, zS, zU, vcC, lateX, ex, strp, cnd, binA, kseq, kblk, kret, klp, Abs.one, elems, cells, scalar, eqC, Nat.reduceBEq, Nat.reduceAdd, Nat.reduceSub, Nat.reduceLT, Nat.reduceLeDiff, Nat.reduceMul, Nat.reduceEqDiff, cond_true, cond_false, if_true, if_false, reduceIte, implies_true, forall_const, ne_eq, hsp, getD_map hti])
 | (refine AWPC.both (fun _ => ?_) (fun _ => ?_))
 | (refine AWPC.imp (fun _ => ?_))
 | ((repeat (refine And.intro (by (intros; first | omega | (simp_all (config := { decide := false }); done) | fail)) ?_)); (first
 | (refine .inl ⟨_, _, _, _, rfl, fun _hc => ⟨by simp, hmc⟩, ?_⟩)
 | (refine ⟨_, _, _, _, rfl, fun _hc => ⟨by simp, hmc⟩, ?_⟩)
 | fail); (first | refine owp_of_exs ?_ | refine pre_of_exd ?_ | refine pre_of_exe ?_ | fail); simp only [zT, zV, zS, zU, vcC, lateX, ex, strp, cnd, binA, kseq, kblk, kret, klp, Abs.one, elems, cells, scalar, eqC, Nat.reduceBEq, Nat.reduceAdd, Nat.reduceSub, Nat.reduceLT, Nat.reduceLeDiff, Nat.reduceMul, Nat.reduceEqDiff, cond_true, cond_false, if_true, if_false, reduceIte, implies_true, forall_const, ne_eq, hsp, getD_map hti])
 | ((refine .inl ⟨_, _, _, .any, rfl, fun h => absurd h Bool.false_ne_true, ?_⟩); refine owp_of_exs ?_; simp only [zT, zV, zS, zU, vcC, lateX, ex, strp, cnd, binA, kseq, kblk, kret, klp, Abs.one, elems, cells, scalar, eqC, Nat.reduceBEq, Nat.reduceAdd, Nat.reduceSub, Nat.reduceLT, Nat.reduceLeDiff, Nat.reduceMul, Nat.reduceEqDiff, cond_true, cond_false, if_true, if_false, reduceIte, implies_true, forall_const, ne_eq, hsp, getD_map hti])
 | (refine ⟨by omega, ?_⟩)
 | (refine And.intro (by (intros; first | (simp_all (config := { decide := false }); done) | fail)) ?_)
 | fail)
        all_goals try (exfalso; omega)
        generalize hmm : p.rmeans t c = m at *
        refine AWPC.loopE (α := { q : Nat × Sto × (Nat → List Sp) // q.1 ≤ m.length ∧ (q.1 = 0 ∨ ¬ (c : Int) ∈ bs) ∧ RI N bs q.2.1 q.2.2 ∧ q.2.1.at (List.length τ) 0 = some ⟨23, 2, [(p.rcols t).cs], none⟩ ∧ q.2.2 c = (if (c : Int) ∈ bs then [] else joins (inkC p (l.take i) c) (m.take q.1)) ∧ ∀ j, j < N → j ≠ c → q.2.2 j = f2 j })
          [17] (fun q => [(17, n q.1.1)]) (fun q => q.1.2.1) (fun q => m.length - q.1.1)
          ⟨(0, τ2, f2), Nat.zero_le _, .inl rfl, hR2, hsp, by
            simp only [hf2 c hcN, curC]; rw [if_neg (by omega)]; rfl, fun j hj hne => rfl⟩ ?_ rfl ?_
        · (simp only [zT, zV, zS, zU, vcC, lateX, ex, strp, cnd, binA, kseq, kblk, kret, klp, Abs.one, elems, cells, scalar, eqC, Nat.reduceBEq, Nat.reduceAdd, Nat.reduceSub, Nat.reduceLT, Nat.reduceLeDiff, Nat.reduceMul, Nat.reduceEqDiff, cond_true, cond_false, if_true, if_false, reduceIte, implies_true, forall_const, ne_eq]; try simp)
        rintro ⟨⟨k, τ3, f3⟩, hk, hk0, hR3, hsp3, hf3, hf3'⟩
        simp only at hk hk0 hR3 hsp3 hf3 hf3'
        simp only
        have hR3' := hR3
        obtain ⟨t0, t1, t2⟩ := hR3'
        have hrow : ((List.range N).map fun (j : Nat) => [spS (f3 j)]).getD c [] = [spS (f3 c)] := range_get _ hcN
        have hnext : ∀ j, j < N → j ≠ c → f3 j = curC p l bs t i (c + 1) j := fun j hj hne => by
          rw [hf3' j hj hne, hf2 j hj]
          unfold curC
          have : ((p.rcols t).lo ≤ (j : Int) ∧ j < c) ↔ ((p.rcols t).lo ≤ (j : Int) ∧ j < c + 1) := by omega
          simp only [this]
        by_cases hin : (c : Int) ∈ bs
        · have hbg : ((List.range N).map fun (j : Nat) => [bl (decide ((j : Int) ∈ bs))]).getD c [] = [bl true] := by rw [range_get _ hcN, decide_eq_true hin]
          (repeat' first
 | (refine AWPC.of_vcn rfl ?_; simp only [zT, zV, zS, zU, vcC, lateX, ex, strp, cnd, binA, kseq, kblk, kret, klp, Abs.one, elems, cells, scalar, eqC, Nat.reduceBEq, Nat.reduceAdd, Nat.reduceSub, Nat.reduceLT, Nat.reduceLeDiff, Nat.reduceMul, Nat.reduceEqDiff, cond_true, cond_false, if_true, if_false, reduceIte, implies_true, forall_const, ne_eq, hbg, t0, t1, t2, hsp3, List.length_range])
 | (simp (disch := omega) only [wr64, Int.zero_sub]; try simp only [zT, zV, zS, zU, vcC, lateX, ex, strp, cnd, binA, kseq, kblk, kret, klp, Abs.one, elems, cells, scalar, eqC, Nat.reduceBEq, Nat.reduceAdd, Nat.reduceSub, Nat.reduceLT, Nat.reduceLeDiff, Nat.reduceMul, Nat.reduceEqDiff, cond_true, cond_false, if_true, if_false, reduceIte, implies_true, forall_const, ne_eq, hbg, t0, t1, t2, hsp3, List.length_range])
 | (refine AWPC.both (fun _ => ?_) (fun _ => ?_))
 | (refine AWPC.imp (fun _ => ?_))
 | ((refine .inl ⟨_, _, _, .any, rfl, fun h => absurd h Bool.false_ne_true, ?_⟩); refine owp_of_exs ?_; simp only [zT, zV, zS, zU, vcC, lateX, ex, strp, cnd, binA, kseq, kblk, kret, klp, Abs.one, elems, cells, scalar, eqC, Nat.reduceBEq, Nat.reduceAdd, Nat.reduceSub, Nat.reduceLT, Nat.reduceLeDiff, Nat.reduceMul, Nat.reduceEqDiff, cond_true, cond_false, if_true, if_false, reduceIte, implies_true, forall_const, ne_eq, hbg, t0, t1, t2, hsp3, List.length_range])
 | (refine ⟨by omega, ?_⟩)
 | (refine And.intro (by (intros; first | (simp_all (config := { decide := false }); done) | fail)) ?_)
 | fail)
          all_goals try (exfalso; omega)
          all_goals
            refine ⟨⟨(c + 1, τ3, f3), by simp only; omega, by simp only; omega, hR3, hsp3, fun j hj => ?_⟩, by simp, rfl, by simp only; omega⟩
            simp only
            by_cases hjc : j = c
            · subst hjc
              rw [hf3, if_pos hin]
              simp only [curC]
              rw [if_pos ⟨hc1, by omega⟩]
              unfold inkB; rw [if_pos hin]
            · exact hnext j hj hjc
        · have hbg : ((List.range N).map fun (j : Nat) => [bl (decide ((j : Int) ∈ bs))]).getD c [] = [bl false] := by rw [range_get _ hcN, decide_eq_false hin]
          rw [if_neg hin] at hf3
          have hLn : Nb (f3 c) := by
            rw [hf3]
            have hok' : ∀ t ∈ l.take i, t.right := fun t ht => hok t (List.mem_of_mem_take ht)
            have h0 := (inkC_ok (c := c) hg hok').1
            have hmk : ∀ x ∈ m.take k, -1000000 ≤ x.lo ∧ x.hi ≤ 1000000 := fun x hx => hm.bd x (List.mem_of_mem_take hx)
            refine .of (joins_norm h0.1) fun v hv => ?_
            rcases (joins_mem h0.1 v).1 hv with hv | ⟨s, hs, hv⟩
            · exact h0.mem hv
            · exact hm.mem ⟨s, List.mem_of_mem_take hs, hv⟩
          by_cases hkl : k < m.length
          · obtain ⟨x, hx⟩ : ∃ x, m[k]? = some x := ⟨_, List.getElem?_eq_getElem hkl⟩
            have hxm := List.mem_of_getElem? hx
            have hj := rJoin_spec (f3 c) x hLn.1 hLn.bd (hm.bd x hxm) (by have := hLn.len_le; omega)
            (repeat' first
 | (refine AWPC.of_vcn rfl ?_; simp only [zT, zV, zS, zU, vcC, lateX, ex, strp, cnd, binA, kseq, kblk, kret, klp, Abs.one, elems, cells, scalar, eqC, Nat.reduceBEq, Nat.reduceAdd, Nat.reduceSub, Nat.reduceLT, Nat.reduceLeDiff, Nat.reduceMul, Nat.reduceEqDiff, cond_true, cond_false, if_true, if_false, reduceIte, implies_true, forall_const, ne_eq, hbg, hrow, t0, t1, t2, hsp3, getD_map hx, List.length_range])
 | (simp (disch := omega) only [wr64, Int.zero_sub]; try simp only [zT, zV, zS, zU, vcC, lateX, ex, strp, cnd, binA, kseq, kblk, kret, klp, Abs.one, elems, cells, scalar, eqC, Nat.reduceBEq, Nat.reduceAdd, Nat.reduceSub, Nat.reduceLT, Nat.reduceLeDiff, Nat.reduceMul, Nat.reduceEqDiff, cond_true, cond_false, if_true, if_false, reduceIte, implies_true, forall_const, ne_eq, hbg, hrow, t0, t1, t2, hsp3, getD_map hx, List.length_range])
 | (refine AWPC.both (fun _ => ?_) (fun _ => ?_))
 | (refine AWPC.imp (fun _ => ?_))
 | ((repeat (refine And.intro (by (intros; first | omega | (simp_all (config := { decide := false }); done) | fail)) ?_)); (first
 | (refine .inl ⟨_, _, _, _, rfl, fun _hc => ⟨by simp, hj⟩, ?_⟩)
 | (refine ⟨_, _, _, _, rfl, fun _hc => ⟨by simp, hj⟩, ?_⟩)
 | fail); (first | refine owp_of_exs ?_ | refine pre_of_exd ?_ | refine pre_of_exe ?_ | fail); simp only [zT, zV, zS, zU, vcC, lateX, ex, strp, cnd, binA, kseq, kblk, kret, klp, Abs.one, elems, cells, scalar, eqC, Nat.reduceBEq, Nat.reduceAdd, Nat.reduceSub, Nat.reduceLT, Nat.reduceLeDiff, Nat.reduceMul, Nat.reduceEqDiff, cond_true, cond_false, if_true, if_false, reduceIte, implies_true, forall_const, ne_eq, hbg, hrow, t0, t1, t2, hsp3, getD_map hx, List.length_range])
 | ((refine .inl ⟨_, _, _, .any, rfl, fun h => absurd h Bool.false_ne_true, ?_⟩); refine owp_of_exs ?_; simp only [zT, zV, zS, zU, vcC, lateX, ex, strp, cnd, binA, kseq, kblk, kret, klp, Abs.one, elems, cells, scalar, eqC, Nat.reduceBEq, Nat.reduceAdd, Nat.reduceSub, Nat.reduceLT, Nat.reduceLeDiff, Nat.reduceMul, Nat.reduceEqDiff, cond_true, cond_false, if_true, if_false, reduceIte, implies_true, forall_const, ne_eq, hbg, hrow, t0, t1, t2, hsp3, getD_map hx, List.length_range])
 | (refine ⟨by omega, ?_⟩)
 | (refine And.intro (by (intros; first | (simp_all (config := { decide := false }); done) | fail)) ?_)
 | fail)
            all_goals try (exfalso; omega)
            refine ⟨⟨(k + 1, _, fun j => if j = c then joinE (f3 c) x else f3 j), hkl, .inr hin, ?_, ?_, ?_, ?_⟩, by simp, rfl, by simp only; omega⟩
            · exact hR3.upd (colsO_set (f := f3) (if_pos rfl) fun j _ hne => if_neg hne)
            · exact (at_upd_other (σ := τ3) (f := 2) (i := 0) (.inl (by omega))).trans hsp3
            · simp only [if_pos, if_neg hin]
              rw [hf3, joins_next hx]
            · intro j hj hne
              simp only [if_neg hne]; exact hf3' j hj hne
          · obtain rfl : k = m.length := by omega
            rw [List.take_length] at hf3
            (repeat' first
 | (refine AWPC.of_vcn rfl ?_; simp only [zT, zV, zS, zU, vcC, lateX, ex, strp, cnd, binA, kseq, kblk, kret, klp, Abs.one, elems, cells, scalar, eqC, Nat.reduceBEq, Nat.reduceAdd, Nat.reduceSub, Nat.reduceLT, Nat.reduceLeDiff, Nat.reduceMul, Nat.reduceEqDiff, cond_true, cond_false, if_true, if_false, reduceIte, implies_true, forall_const, ne_eq, hbg, hrow, t0, t1, t2, hsp3, List.length_range])
 | (simp (disch := omega) only [wr64, Int.zero_sub]; try simp only [zT, zV, zS, zU, vcC, lateX, ex, strp, cnd, binA, kseq, kblk, kret, klp, Abs.one, elems, cells, scalar, eqC, Nat.reduceBEq, Nat.reduceAdd, Nat.reduceSub, Nat.reduceLT, Nat.reduceLeDiff, Nat.reduceMul, Nat.reduceEqDiff, cond_true, cond_false, if_true, if_false, reduceIte, implies_true, forall_const, ne_eq, hbg, hrow, t0, t1, t2, hsp3, List.length_range])
 | (refine AWPC.both (fun _ => ?_) (fun _ => ?_))
 | (refine AWPC.imp (fun _ => ?_))
 | ((refine .inl ⟨_, _, _, .any, rfl, fun h => absurd h Bool.false_ne_true, ?_⟩); refine owp_of_exs ?_; simp only [zT, zV, zS, zU, vcC, lateX, ex, strp, cnd, binA, kseq, kblk, kret, klp, Abs.one, elems, cells, scalar, eqC, Nat.reduceBEq, Nat.reduceAdd, Nat.reduceSub, Nat.reduceLT, Nat.reduceLeDiff, Nat.reduceMul, Nat.reduceEqDiff, cond_true, cond_false, if_true, if_false, reduceIte, implies_true, forall_const, ne_eq, hbg, hrow, t0, t1, t2, hsp3, List.length_range])
 | (refine ⟨by omega, ?_⟩)
 | (refine And.intro (by (intros; first | (simp_all (config := { decide := false }); done) | fail)) ?_)
 | fail)
            all_goals try (exfalso; omega)
            refine ⟨⟨(c + 1, τ3, f3), by simp only; omega, by simp only; omega, hR3, hsp3, fun j hj => ?_⟩, by simp, rfl, by simp only; omega⟩
            simp only
            by_cases hjc : j = c
            · subst hjc
              rw [hf3]
              simp only [curC]
              rw [if_pos ⟨hc1, by omega⟩]
              unfold inkB; rw [if_neg hin, inkC_next hti, hmm]
            · exact hnext j hj hjc
      · (repeat' first
 | (refine AWPC.of_vcn rfl ?_; simp only [zT, zV, zS, zU, vcC, lateX, ex, strp, cnd, binA, kseq, kblk, kret, klp, Abs.one, elems, cells, scalar, eqC, Nat.reduceBEq, Nat.reduceAdd, Nat.reduceSub, Nat.reduceLT, Nat.reduceLeDiff, Nat.reduceMul, Nat.reduceEqDiff, cond_true, cond_false, if_true, if_false, reduceIte, implies_true, forall_const, ne_eq, hsp])
 | (simp (disch := omega) only [wr64, Int.zero_sub]; try simp only [zT, zV, zS, zU, vcC, lateX, ex, strp, cnd, binA, kseq, kblk, kret, klp, Abs.one, elems, cells, scalar, eqC, Nat.reduceBEq, Nat.reduceAdd, Nat.reduceSub, Nat.reduceLT, Nat.reduceLeDiff, Nat.reduceMul, Nat.reduceEqDiff, cond_true, cond_false, if_true, if_false, reduceIte, implies_true, forall_const, ne_eq, hsp])
 | (refine AWPC.both (fun _ => ?_) (fun _ => ?_))
 | (refine AWPC.imp (fun _ => ?_))
 | ((refine .inl ⟨_, _, _, .any, rfl, fun h => absurd h Bool.false_ne_true, ?_⟩); refine owp_of_exs ?_; simp only [zT, zV, zS, zU, vcC, lateX, ex, strp, cnd, binA, kseq, kblk, kret, klp, Abs.one, elems, cells, scalar, eqC, Nat.reduceBEq, Nat.reduceAdd, Nat.reduceSub, Nat.reduceLT, Nat.reduceLeDiff, Nat.reduceMul, Nat.reduceEqDiff, cond_true, cond_false, if_true, if_false, reduceIte, implies_true, forall_const, ne_eq, hsp])
 | (refine ⟨by omega, ?_⟩)
 | (refine And.intro (by (intros; first | (simp_all (config := { decide := false }); done) | fail)) ?_)
 | fail)
        all_goals try (exfalso; omega)
        refine ⟨⟨(i + 1, τ2, f2), hlt2, hR2, fun j hj => ?_⟩, by simp, rfl, by simp only; omega⟩
        simp only
        rw [hf2 j hj]
        unfold curC
        by_cases hjj : (p.rcols t).lo ≤ (j : Int) ∧ j < c
        · rw [if_pos hjj]
        · rw [if_neg hjj]
          exact (inkB_out hti hg htr (by omega) (by omega)).symm
    · obtain rfl : i = l.length := by omega
      have hX : (List.range N).map f = inkX p l bs := by
        unfold inkX; rw [hNt]
        refine range_congr fun j hj => ?_
        rw [hf j hj, List.take_length]
      rw [← hX]
      have hlen : ∀ j, j < N → (f j).length ≤ 12001 := fun j hj => by
        rw [hf j hj, List.take_length]
        exact (inkB_nb hg hok j).len_le
      (repeat' first
 | (refine AWPC.of_vcn rfl ?_; simp only [zT, zV, zS, zU, vcC, lateX, ex, strp, cnd, binA, kseq, kblk, kret, klp, Abs.one, elems, cells, scalar, eqC, Nat.reduceBEq, Nat.reduceAdd, Nat.reduceSub, Nat.reduceLT, Nat.reduceLeDiff, Nat.reduceMul, Nat.reduceEqDiff, cond_true, cond_false, if_true, if_false, reduceIte, implies_true, forall_const, ne_eq, r2])
 | (simp (disch := omega) only [wr64, Int.zero_sub]; try simp only [zT, zV, zS, zU, vcC, lateX, ex, strp, cnd, binA, kseq, kblk, kret, klp, Abs.one, elems, cells, scalar, eqC, Nat.reduceBEq, Nat.reduceAdd, Nat.reduceSub, Nat.reduceLT, Nat.reduceLeDiff, Nat.reduceMul, Nat.reduceEqDiff, cond_true, cond_false, if_true, if_false, reduceIte, implies_true, forall_const, ne_eq, r2])
 | (refine AWPC.both (fun _ => ?_) (fun _ => ?_))
 | (refine AWPC.imp (fun _ => ?_))
 | ((refine .inl ⟨_, _, _, .any, rfl, fun h => absurd h Bool.false_ne_true, ?_⟩); refine owp_of_exs ?_; simp only [zT, zV, zS, zU, vcC, lateX, ex, strp, cnd, binA, kseq, kblk, kret, klp, Abs.one, elems, cells, scalar, eqC, Nat.reduceBEq, Nat.reduceAdd, Nat.reduceSub, Nat.reduceLT, Nat.reduceLeDiff, Nat.reduceMul, Nat.reduceEqDiff, cond_true, cond_false, if_true, if_false, reduceIte, implies_true, forall_const, ne_eq, r2])
 | (refine ⟨by omega, ?_⟩)
 | (refine And.intro (by (intros; first | (simp_all (config := { decide := false }); done) | fail)) ?_)
 | fail)
      all_goals try (exfalso; omega)
      refine AWPC.loopI 18 N (fun i => many (((List.range N).map f).drop i) = many ((List.range N).map f)) (by simp) ?_ ?_
      · (simp only [zT, zV, zS, zU, vcC, lateX, ex, strp, cnd, binA, kseq, kblk, kret, klp, Abs.one, elems, cells, scalar, eqC, Nat.reduceBEq, Nat.reduceAdd, Nat.reduceSub, Nat.reduceLT, Nat.reduceLeDiff, Nat.reduceMul, Nat.reduceEqDiff, cond_true, cond_false, if_true, if_false, reduceIte, implies_true, forall_const, ne_eq]; try simp)
      intro c hc hI
      by_cases hlt3 : c < N
      · have hrow : ((List.range N).map fun (j : Nat) => [spS (f j)]).getD c [] = [spS (f c)] := range_get _ hlt3
        have hget : ((List.range N).map f)[c]? = some (f c) := by simp [hlt3]
        have hl1 := hlen c hlt3
        rw [drop_cons hget] at hI
        (repeat' first
 | (refine AWPC.of_vcn rfl ?_; simp only [zT, zV, zS, zU, vcC, lateX, ex, strp, cnd, binA, kseq, kblk, kret, klp, Abs.one, elems, cells, scalar, eqC, Nat.reduceBEq, Nat.reduceAdd, Nat.reduceSub, Nat.reduceLT, Nat.reduceLeDiff, Nat.reduceMul, Nat.reduceEqDiff, cond_true, cond_false, if_true, if_false, reduceIte, implies_true, forall_const, ne_eq, r0, r2, hrow, List.length_range, at_upd_same r0])
 | (simp (disch := omega) only [wr64, Int.zero_sub]; try simp only [zT, zV, zS, zU, vcC, lateX, ex, strp, cnd, binA, kseq, kblk, kret, klp, Abs.one, elems, cells, scalar, eqC, Nat.reduceBEq, Nat.reduceAdd, Nat.reduceSub, Nat.reduceLT, Nat.reduceLeDiff, Nat.reduceMul, Nat.reduceEqDiff, cond_true, cond_false, if_true, if_false, reduceIte, implies_true, forall_const, ne_eq, r0, r2, hrow, List.length_range, at_upd_same r0])
 | (refine AWPC.both (fun _ => ?_) (fun _ => ?_))
 | (refine AWPC.imp (fun _ => ?_))
 | ((refine .inl ⟨_, _, _, .any, rfl, fun h => absurd h Bool.false_ne_true, ?_⟩); refine owp_of_exs ?_; simp only [zT, zV, zS, zU, vcC, lateX, ex, strp, cnd, binA, kseq, kblk, kret, klp, Abs.one, elems, cells, scalar, eqC, Nat.reduceBEq, Nat.reduceAdd, Nat.reduceSub, Nat.reduceLT, Nat.reduceLeDiff, Nat.reduceMul, Nat.reduceEqDiff, cond_true, cond_false, if_true, if_false, reduceIte, implies_true, forall_const, ne_eq, r0, r2, hrow, List.length_range, at_upd_same r0])
 | (refine ⟨by omega, ?_⟩)
 | (refine And.intro (by (intros; first | (simp_all (config := { decide := false }); done) | fail)) ?_)
 | fail)
        all_goals try (exfalso; omega)
        · rename_i g
          have hmy : many ((List.range N).map f) = true := by rw [← hI, many, List.any_cons]; simp; left; omega
          simp only [lim, hmy, cond_true]
          exact frz_ink0 2
        · rename_i g
          refine ⟨⟨c + 1, hlt3, ?_⟩, by simp, by simp only; omega⟩
          rw [← hI, many, many, List.any_cons, decide_eq_false (by omega), Bool.false_or]
      · have hcN : N = c := by omega
        subst hcN
        have hmn : many ((List.range N).map f) = false := by rw [← hI, List.drop_of_length_le (by simp)]; rfl
        simp only [lim, hmn, cond_false]
        (repeat' first
 | (refine AWPC.of_vcn rfl ?_; simp only [zT, zV, zS, zU, vcC, lateX, ex, strp, cnd, binA, kseq, kblk, kret, klp, Abs.one, elems, cells, scalar, eqC, Nat.reduceBEq, Nat.reduceAdd, Nat.reduceSub, Nat.reduceLT, Nat.reduceLeDiff, Nat.reduceMul, Nat.reduceEqDiff, cond_true, cond_false, if_true, if_false, reduceIte, implies_true, forall_const, ne_eq, r0, r2, List.length_range, at_upd_same r0])
 | (simp (disch := omega) only [wr64, Int.zero_sub]; try simp only [zT, zV, zS, zU, vcC, lateX, ex, strp, cnd, binA, kseq, kblk, kret, klp, Abs.one, elems, cells, scalar, eqC, Nat.reduceBEq, Nat.reduceAdd, Nat.reduceSub, Nat.reduceLT, Nat.reduceLeDiff, Nat.reduceMul, Nat.reduceEqDiff, cond_true, cond_false, if_true, if_false, reduceIte, implies_true, forall_const, ne_eq, r0, r2, List.length_range, at_upd_same r0])
 | (refine AWPC.both (fun _ => ?_) (fun _ => ?_))
 | (refine AWPC.imp (fun _ => ?_))
 | ((refine .inl ⟨_, _, _, .any, rfl, fun h => absurd h Bool.false_ne_true, ?_⟩); refine owp_of_exs ?_; simp only [zT, zV, zS, zU, vcC, lateX, ex, strp, cnd, binA, kseq, kblk, kret, klp, Abs.one, elems, cells, scalar, eqC, Nat.reduceBEq, Nat.reduceAdd, Nat.reduceSub, Nat.reduceLT, Nat.reduceLeDiff, Nat.reduceMul, Nat.reduceEqDiff, cond_true, cond_false, if_true, if_false, reduceIte, implies_true, forall_const, ne_eq, r0, r2, List.length_range, at_upd_same r0])
 | (refine ⟨by omega, ?_⟩)
 | (refine And.intro (by (intros; first | (simp_all (config := { decide := false }); done) | fail)) ?_)
 | fail)
        all_goals try (exfalso; omega)
        refine Frz.tup rfl fun i hi => ?_
        match i, hi with
        | 0, _ => exact Frz.agg rfl fun i hi => (by match i, hi with | 0, _ => exact frz_cols (by rw [at_upd_other (.inl (by decide))]; exact r2))
        | 1, _ => exact Frz.eq rfl (by simp)
end Go.Proofs.Ytgpdckmbojmlpaa

