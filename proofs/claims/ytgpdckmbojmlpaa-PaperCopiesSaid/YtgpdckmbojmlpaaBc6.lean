/- Part 6 of the texts that the claim rests on: abstract values over the walk, and contracts of functions. -/
import Derived.Test.YtgpdckmbojmlpaaBc5
import Derived.Test.YtgpdckmbojmlpaaRows
import Derived.WalkKit
import Derived.ProofKit
import Derived.OpenShut
import Derived.ShutString
import Derived.ChangeOld
import Derived.Below
namespace Go.Proofs.Ytgpdckmbojmlpaa
open Go.Abs
set_option linter.unusedVariables false
set_option linter.unusedSimpArgs false
set_option maxHeartbeats 4000000
set_option maxRecDepth 100000
-- aneroid/paper.Both
def c62 : CF := ⟨28,
 (.seq (.ops [
 ⟨(some 2), .box false 56 1 (.t 0), none⟩,
 ⟨(some 3), .box false 56 1 (.t 1), none⟩,
 ⟨(some 4), .alloc 56 1 [.slice none 0 0], none⟩,
 ⟨(some 5), .mv (.c (.int .i64 0)), none⟩] [2, 3, 4])
 (.seq (.ops [
 ⟨(some 6), .alloc 4 1 [.bool false], none⟩,
 ⟨none, .store 1 (.t 6) (.c (.bool false)), none⟩] [2, 3, 4, 6])
 (.seq (.ops [
 ⟨(some 10), .mkfn (.func 112) [] [(.t 6)], none⟩,
 ⟨(some 11), .build [.nilFunc] [(0, 1, (.t 10))], none⟩,
 ⟨(some 12), .load (some 1) (.t 2), none⟩,
 ⟨(some 13), .load (some 1) (.t 3), none⟩,
 ⟨(some 14), .call (.f 114) [(.t 11), (.t 12), (.t 13)], none⟩,
 ⟨(some 15), .ext 0 (.t 14), none⟩,
 ⟨(some 16), .ext 1 (.t 14), none⟩,
 ⟨(some 17), .call (.f 111) [(.t 15), (.t 16)], none⟩,
 ⟨(some 9), .mv (.t 17), none⟩,
 ⟨(some 18), .ext 0 (.t 9), none⟩,
 ⟨(some 19), .ext 1 (.t 9), none⟩,
 ⟨(some 7), .alloc 56 1 [.slice none 0 0], none⟩,
 ⟨none, .store 1 (.t 7) (.t 18), none⟩,
 ⟨(some 8), .mv (.t 19), none⟩] [4, 6, 7, 8])
 (.seq (.seq (.ops [
 ⟨(some 20), .mv (.t 8), none⟩,
 ⟨(some 21), .bin .eql (.t 20) (.c (.int .i64 0)), none⟩,
 ⟨(some 22), .mv (.t 21), none⟩,
 ⟨(some 23), .load none (.t 6), (some (22, true))⟩,
 ⟨(some 24), .pick (.t 22) (.t 23) (.c (.bool false)), none⟩] [4, 7, 8, 24])
 (.cond (.t 24) (.seq (.ops [
 ⟨(some 25), .build [.slice none 0 0] [], none⟩,
 ⟨none, .store 1 (.t 4) (.t 25), none⟩,
 ⟨(some 5), .mv (.c (.int .i64 3)), none⟩] [4, 5])
 .ret)
 .skip))
 (.seq (.ops [
 ⟨(some 26), .load (some 1) (.t 7), none⟩,
 ⟨(some 27), .mv (.t 8), none⟩,
 ⟨none, .store 1 (.t 4) (.t 26), none⟩,
 ⟨(some 5), .mv (.t 27), none⟩] [4, 5])
 .ret))))),
 [.c 4 (some 1), .t 5]⟩
-- aneroid/aneroidref01.Both
def c63 : CF := ⟨77,
 (.seq (.ops [
 ⟨(some 2), .box false 56 1 (.t 0), none⟩,
 ⟨(some 3), .box false 56 1 (.t 1), none⟩,
 ⟨(some 4), .alloc 56 1 [.slice none 0 0], none⟩,
 ⟨(some 5), .mv (.c (.int .i64 0)), none⟩] [2, 3, 4])
 (.seq (.ops [
 ⟨(some 14), .load (some 1) (.t 2), none⟩,
 ⟨(some 15), .load (some 1) (.t 3), none⟩,
 ⟨(some 16), .call (.f 115) [(.t 14), (.t 15)], none⟩,
 ⟨(some 6), .mv (.t 16), none⟩] [2, 3, 4, 6])
 (.seq (.seq (.ops [
 ⟨(some 17), .mv (.t 6), none⟩,
 ⟨(some 18), .bin .neq (.t 17) (.c (.int .i64 0)), none⟩] [2, 3, 4, 6, 18])
 (.cond (.t 18) (.seq (.ops [
 ⟨(some 19), .build [.slice none 0 0] [], none⟩,
 ⟨(some 20), .mv (.t 6), none⟩,
 ⟨none, .store 1 (.t 4) (.t 19), none⟩,
 ⟨(some 5), .mv (.t 20), none⟩] [4, 5])
 .ret)
 .skip))
 (.seq (.ops [
 ⟨(some 7), .mv (.c (.slice none 0 0)), none⟩] [2, 3, 4, 7])
 (.seq (.ops [
 ⟨(some 8), .mv (.c (.bool false)), none⟩] [2, 3, 4, 7, 8])
 (.seq (.seq (.ops [
 ⟨(some 9), .mv (.c (.int .i64 0)), none⟩] [2, 3, 4, 7, 8, 9])
 (.block 0 (.loop (.seq (.seq (.ops [
 ⟨(some 21), .mv (.t 9), none⟩,
 ⟨(some 22), .faddr 0 (.t 2), none⟩,
 ⟨(some 23), .load none (.t 22), none⟩,
 ⟨(some 24), .len (.t 23), none⟩,
 ⟨(some 25), .bin .lss (.t 21) (.t 24), none⟩] [2, 3, 4, 7, 8, 9, 25])
 (.cond (.t 25) .skip
 (.exit 0)))
 (.seq (.block 1 (.seq (.ops [
 ⟨(some 28), .faddr 0 (.t 2), none⟩,
 ⟨(some 29), .load none (.t 28), none⟩,
 ⟨(some 30), .mv (.t 9), none⟩,
 ⟨(some 31), .iaddr 1 (.t 29) (.t 30), none⟩,
 ⟨(some 32), .load none (.t 31), none⟩,
 ⟨(some 10), .mv (.t 32), none⟩] [2, 3, 4, 7, 8, 9, 10])
 (.seq (.ops [
 ⟨(some 33), .faddr 0 (.t 3), none⟩,
 ⟨(some 34), .load none (.t 33), none⟩,
 ⟨(some 35), .mv (.t 9), none⟩,
 ⟨(some 36), .iaddr 1 (.t 34) (.t 35), none⟩,
 ⟨(some 37), .load none (.t 36), none⟩,
 ⟨(some 11), .mv (.t 37), none⟩] [2, 3, 4, 7, 8, 9, 10, 11])
 (.seq (.ops [
 ⟨(some 38), .mv (.t 10), none⟩,
 ⟨(some 39), .len (.t 38), none⟩,
 ⟨(some 40), .bin .eql (.t 39) (.c (.int .i64 0)), none⟩] [2, 3, 4, 7, 8, 9, 10, 11, 40])
 (.cond (.t 40) (.ops [
 ⟨(some 41), .mv (.t 7), none⟩,
 ⟨(some 42), .mv (.t 11), none⟩,
 ⟨(some 43), .bsl false 34 1 1 [.slice none 0 0] [(0, 1, (.t 42))], none⟩,
 ⟨(some 44), .app 34 1 24 (.t 41) (.t 43), none⟩,
 ⟨(some 7), .mv (.t 44), none⟩] [2, 3, 4, 7, 8, 9])
 (.seq (.ops [
 ⟨(some 45), .mv (.t 11), none⟩,
 ⟨(some 46), .len (.t 45), none⟩,
 ⟨(some 47), .bin .eql (.t 46) (.c (.int .i64 0)), none⟩] [2, 3, 4, 7, 8, 9, 10, 11, 47])
 (.cond (.t 47) (.ops [
 ⟨(some 48), .mv (.t 7), none⟩,
 ⟨(some 49), .mv (.t 10), none⟩,
 ⟨(some 50), .bsl false 34 1 1 [.slice none 0 0] [(0, 1, (.t 49))], none⟩,
 ⟨(some 51), .app 34 1 24 (.t 48) (.t 50), none⟩,
 ⟨(some 7), .mv (.t 51), none⟩] [2, 3, 4, 7, 8, 9])
 (.seq (.ops [
 ⟨(some 52), .mv (.t 10), none⟩,
 ⟨(some 53), .mv (.t 11), none⟩,
 ⟨(some 54), .call (.f 116) [(.t 52), (.t 53)], none⟩,
 ⟨(some 12), .mv (.t 54), none⟩] [2, 3, 4, 7, 8, 9, 12])
 (.seq (.ops [
 ⟨(some 55), .mv (.t 8), none⟩,
 ⟨(some 56), .mv (.t 55), none⟩,
 ⟨(some 57), .mv (.t 12), (some (56, false))⟩,
 ⟨(some 58), .len (.t 57), (some (56, false))⟩,
 ⟨(some 59), .bin .eql (.t 58) (.c (.int .i64 0)), (some (56, false))⟩,
 ⟨(some 60), .pick (.t 56) (.c (.bool true)) (.t 59), none⟩,
 ⟨(some 8), .mv (.t 60), none⟩] [2, 3, 4, 7, 8, 9, 12])
 (.ops [
 ⟨(some 61), .mv (.t 7), none⟩,
 ⟨(some 62), .mv (.t 12), none⟩,
 ⟨(some 63), .bsl false 34 1 1 [.slice none 0 0] [(0, 1, (.t 62))], none⟩,
 ⟨(some 64), .app 34 1 24 (.t 61) (.t 63), none⟩,
 ⟨(some 7), .mv (.t 64), none⟩] [2, 3, 4, 7, 8, 9]))))))))))
 (.ops [
 ⟨(some 26), .mv (.t 9), none⟩,
 ⟨(some 27), .bin .add (.t 26) (.c (.int .i64 1)), none⟩,
 ⟨(some 9), .mv (.t 27), none⟩] [2, 3, 4, 7, 8, 9]))))))
 (.seq (.ops [
 ⟨(some 66), .mv (.t 7), none⟩,
 ⟨(some 67), .call (.f 117) [(.t 66)], none⟩,
 ⟨(some 65), .mv (.t 67), none⟩,
 ⟨(some 68), .ext 0 (.t 65), none⟩,
 ⟨(some 69), .ext 1 (.t 65), none⟩,
 ⟨(some 13), .alloc 56 1 [.slice none 0 0], none⟩,
 ⟨none, .store 1 (.t 13) (.t 68), none⟩,
 ⟨(some 6), .mv (.t 69), none⟩] [4, 6, 8, 13])
 (.seq (.seq (.ops [
 ⟨(some 70), .mv (.t 6), none⟩,
 ⟨(some 71), .bin .neq (.t 70) (.c (.int .i64 0)), none⟩] [4, 6, 8, 13, 71])
 (.cond (.t 71) (.seq (.ops [
 ⟨(some 72), .build [.slice none 0 0] [], none⟩,
 ⟨(some 73), .mv (.t 6), none⟩,
 ⟨none, .store 1 (.t 4) (.t 72), none⟩,
 ⟨(some 5), .mv (.t 73), none⟩] [4, 5])
 .ret)
 .skip))
 (.seq (.seq (.ops [
 ⟨(some 74), .mv (.t 8), none⟩] [4, 13, 74])
 (.cond (.t 74) (.seq (.ops [
 ⟨(some 75), .build [.slice none 0 0] [], none⟩,
 ⟨none, .store 1 (.t 4) (.t 75), none⟩,
 ⟨(some 5), .mv (.c (.int .i64 3)), none⟩] [4, 5])
 .ret)
 .skip))
 (.seq (.ops [
 ⟨(some 76), .load (some 1) (.t 13), none⟩,
 ⟨none, .store 1 (.t 4) (.t 76), none⟩,
 ⟨(some 5), .mv (.c (.int .i64 0)), none⟩] [4, 5])
 .ret)))))))))),
 [.c 4 (some 1), .t 5]⟩
-- aneroid/aneroidref01.Either
def c65 : CF := ⟨60,
 (.seq (.ops [
 ⟨(some 2), .box false 56 1 (.t 0), none⟩,
 ⟨(some 3), .box false 56 1 (.t 1), none⟩,
 ⟨(some 4), .alloc 56 1 [.slice none 0 0], none⟩,
 ⟨(some 5), .mv (.c (.int .i64 0)), none⟩] [2, 3, 4])
 (.seq (.ops [
 ⟨(some 9), .load (some 1) (.t 2), none⟩,
 ⟨(some 10), .load (some 1) (.t 3), none⟩,
 ⟨(some 11), .call (.f 115) [(.t 9), (.t 10)], none⟩,
 ⟨(some 6), .mv (.t 11), none⟩] [2, 3, 4, 6])
 (.seq (.seq (.ops [
 ⟨(some 12), .mv (.t 6), none⟩,
 ⟨(some 13), .bin .neq (.t 12) (.c (.int .i64 0)), none⟩] [2, 3, 4, 6, 13])
 (.cond (.t 13) (.seq (.ops [
 ⟨(some 14), .build [.slice none 0 0] [], none⟩,
 ⟨(some 15), .mv (.t 6), none⟩,
 ⟨none, .store 1 (.t 4) (.t 14), none⟩,
 ⟨(some 5), .mv (.t 15), none⟩] [4, 5])
 .ret)
 .skip))
 (.seq (.ops [
 ⟨(some 7), .mv (.c (.slice none 0 0)), none⟩] [2, 3, 4, 7])
 (.seq (.seq (.ops [
 ⟨(some 8), .mv (.c (.int .i64 0)), none⟩] [2, 3, 4, 7, 8])
 (.block 0 (.loop (.seq (.seq (.ops [
 ⟨(some 16), .mv (.t 8), none⟩,
 ⟨(some 17), .faddr 0 (.t 2), none⟩,
 ⟨(some 18), .load none (.t 17), none⟩,
 ⟨(some 19), .len (.t 18), none⟩,
 ⟨(some 20), .bin .lss (.t 16) (.t 19), none⟩] [2, 3, 4, 7, 8, 20])
 (.cond (.t 20) .skip
 (.exit 0)))
 (.seq (.block 1 (.seq (.ops [
 ⟨(some 23), .faddr 0 (.t 2), none⟩,
 ⟨(some 24), .load none (.t 23), none⟩,
 ⟨(some 25), .mv (.t 8), none⟩,
 ⟨(some 26), .iaddr 1 (.t 24) (.t 25), none⟩,
 ⟨(some 27), .load none (.t 26), none⟩,
 ⟨(some 28), .len (.t 27), none⟩,
 ⟨(some 29), .bin .eql (.t 28) (.c (.int .i64 0)), none⟩,
 ⟨(some 30), .mv (.t 29), none⟩,
 ⟨(some 31), .faddr 0 (.t 3), (some (30, false))⟩,
 ⟨(some 32), .load none (.t 31), (some (30, false))⟩,
 ⟨(some 33), .mv (.t 8), (some (30, false))⟩,
 ⟨(some 34), .iaddr 1 (.t 32) (.t 33), (some (30, false))⟩,
 ⟨(some 35), .load none (.t 34), (some (30, false))⟩,
 ⟨(some 36), .len (.t 35), (some (30, false))⟩,
 ⟨(some 37), .bin .eql (.t 36) (.c (.int .i64 0)), (some (30, false))⟩,
 ⟨(some 38), .pick (.t 30) (.c (.bool true)) (.t 37), none⟩] [2, 3, 4, 7, 8, 38])
 (.cond (.t 38) (.ops [
 ⟨(some 39), .mv (.t 7), none⟩,
 ⟨(some 40), .bsl false 34 1 1 [.slice none 0 0] [(0, 1, (.c (.slice none 0 0)))], none⟩,
 ⟨(some 41), .app 34 1 24 (.t 39) (.t 40), none⟩,
 ⟨(some 7), .mv (.t 41), none⟩] [2, 3, 4, 7, 8])
 (.draw [
 ⟨(some 42), .mv (.t 7), none⟩,
 ⟨(some 43), .faddr 0 (.t 2), none⟩,
 ⟨(some 44), .load none (.t 43), none⟩,
 ⟨(some 45), .mv (.t 8), none⟩,
 ⟨(some 46), .iaddr 1 (.t 44) (.t 45), none⟩,
 ⟨(some 47), .load none (.t 46), none⟩,
 ⟨(some 48), .faddr 0 (.t 3), none⟩,
 ⟨(some 49), .load none (.t 48), none⟩,
 ⟨(some 50), .mv (.t 8), none⟩,
 ⟨(some 51), .iaddr 1 (.t 49) (.t 50), none⟩,
 ⟨(some 52), .load none (.t 51), none⟩,
 ⟨(some 53), .call (.f 120) [(.t 47), (.t 52)], none⟩,
 ⟨(some 54), .bsl false 34 1 1 [.slice none 0 0] [(0, 1, (.t 53))], none⟩] [
 ⟨(some 55), .app 34 1 24 (.t 42) (.t 54), none⟩,
 ⟨(some 7), .mv (.t 55), none⟩] [2, 3, 4, 7, 8]))))
 (.ops [
 ⟨(some 21), .mv (.t 8), none⟩,
 ⟨(some 22), .bin .add (.t 21) (.c (.int .i64 1)), none⟩,
 ⟨(some 8), .mv (.t 22), none⟩] [2, 3, 4, 7, 8]))))))
 (.seq (.ops [
 ⟨(some 56), .mv (.t 7), none⟩,
 ⟨(some 57), .call (.f 117) [(.t 56)], none⟩,
 ⟨(some 58), .ext 0 (.t 57), none⟩,
 ⟨(some 59), .ext 1 (.t 57), none⟩,
 ⟨none, .store 1 (.t 4) (.t 58), none⟩,
 ⟨(some 5), .mv (.t 59), none⟩] [4, 5])
 .ret)))))),
 [.c 4 (some 1), .t 5]⟩
theorem k62 : chkF Try.prog Try.f62 c62 = true := by kernel_rfl
theorem k63 : chkF Try.prog Try.f63 c63 = true := by kernel_rfl
theorem k65 : chkF Try.prog Try.f65 c65 = true := by kernel_rfl

/-- Whether one of the first columns is lost. -/
noncomputable def lostTo (a b : List (List Sp)) (i : Nat) : Bool := ((zipB lostC a b).take i).any id
theorem lostTo_next {a b : List (List Sp)} {i : Nat} {p q : List Sp} (hp : a[i]? = some p) (hq : b[i]? = some q) : lostTo a b (i + 1) = (lostTo a b i || lostC p q) := by
  unfold lostTo
  rw [List.take_add_one, List.any_append]
  simp [zipB, List.getElem?_zipWith, hp, hq]
theorem lostTo_all (a b : List (List Sp)) : lostTo a b a.length = lost a b := by
  unfold lostTo lost
  rw [List.take_of_length_le (by simp [zipB]; omega)]
noncomputable def flagS (a b : List (List Sp)) (i : Nat) : Sto := [some [⟨56, 1, [[.v (.slice none 0 0)]], none⟩], some [⟨4, 1, [[bl (lostTo a b i)]], none⟩]]

theorem lens_both {a b : List (List Sp)} (al : Al a b) : Lens (zipC bothC a b) := by
  refine lens_zip al.a al.b fun p q hp hq => ?_
  have := meet_len hp hq
  have h1 := hp.2.2
  have h2 := hq.2.2
  by_cases h : p.length = 0
  · rw [show bothC p q = q from if_pos h]; omega
  · by_cases h' : q.length = 0
    · rw [show bothC p q = p by unfold bothC; rw [if_neg h, if_pos h']]; omega
    · rw [show bothC p q = meet p q by unfold bothC; rw [if_neg h, if_neg h']]; omega

theorem Both_spec (a b : List (List Sp)) (ha : Lens a) (hb : Lens b) : Pure Try.prog 62 [ink a, ink b] (.tup [ink (bothE a b).1, n (bothE a b).2]) := by
  refine Pure.of_body Try.call62 Try.func62 k62 (Nat.le_of_ble_eq_true rfl) ?_
  have he := each_does 112 [.ptr 1 0 1 0 0] bothC (flagS a b) a b ha hb (fun _ => rfl)
    (fun m g i o h => by
      match g, i, h with
      | 0, 0, h => cases h; exact ⟨rfl, .inl rfl⟩
      | 0, i + 1, h => simp [flagS, Sto.at] at h
      | 1, 0, h =>
        cases h
        refine ⟨rfl, .inr fun e j he hj => ?_⟩
        match e, he, j, hj with
        | 0, _, 0, _ => exact PureV.v _
      | 1, i + 1, h => simp [flagS, Sto.at] at h
      | g + 2, i, h => simp [flagS, Sto.at] at h)
    (fun i p q ν hp hq gp gq => (both1_does (flagS a b i ++ ν) 1 (lostTo a b i) p q rfl gp gq).mono (fun r σ' h => ⟨h.1, by
      rw [h.2, flagS, flagS, lostTo_next hp hq]; rfl⟩))
  have he0 : flagS a b 0 = [some [⟨56, 1, [[.v (.slice none 0 0)]], none⟩], some [⟨4, 1, [[bl false]], none⟩]] := rfl
  rw [he0] at he
  unfold c62
  by_cases hj : jerr a b = 0
  · have al := al_iff.1 hj
    rw [if_pos hj, if_pos hj, hj] at he
    have hl := limited_spec (zipC bothC a b) 0 (lens_both al)
    have hb := bothE_ok (a := a) (b := b)
    unfold bothE
    rw [if_pos hj]
    simp only [if_true] at hl
    cases hm : many (zipC bothC a b)
    · simp only [lim, hm, cond_false] at hl
      simp only [Bool.false_eq_true, if_false]
      (repeat' first
 | (refine AWPC.of_vcn rfl ?_; simp only [zT, zV, zS, zU, vcC, lateX, ex, strp, cnd, binA, kseq, kblk, kret, klp, Abs.one, elems, cells, scalar, eqC, Nat.reduceBEq, Nat.reduceAdd, Nat.reduceSub, Nat.reduceLT, Nat.reduceLeDiff, Nat.reduceMul, Nat.reduceEqDiff, cond_true, cond_false, if_true, if_false, reduceIte, implies_true, forall_const, ne_eq])
 | (simp (disch := omega) only [wr64, Int.zero_sub]; try simp only [zT, zV, zS, zU, vcC, lateX, ex, strp, cnd, binA, kseq, kblk, kret, klp, Abs.one, elems, cells, scalar, eqC, Nat.reduceBEq, Nat.reduceAdd, Nat.reduceSub, Nat.reduceLT, Nat.reduceLeDiff, Nat.reduceMul, Nat.reduceEqDiff, cond_true, cond_false, if_true, if_false, reduceIte, implies_true, forall_const, ne_eq])
 | (refine AWPC.both (fun _ => ?_) (fun _ => ?_))
 | (refine AWPC.imp (fun _ => ?_))
 | ((refine .inl ⟨_, _, _, .any, rfl, fun h => absurd h Bool.false_ne_true, ?_⟩); refine owp_of_exs ?_; simp only [zT, zV, zS, zU, vcC, lateX, ex, strp, cnd, binA, kseq, kblk, kret, klp, Abs.one, elems, cells, scalar, eqC, Nat.reduceBEq, Nat.reduceAdd, Nat.reduceSub, Nat.reduceLT, Nat.reduceLeDiff, Nat.reduceMul, Nat.reduceEqDiff, cond_true, cond_false, if_true, if_false, reduceIte, implies_true, forall_const, ne_eq])
 | (refine ⟨by omega, ?_⟩)
 | (refine And.intro (by (intros; first | (simp_all (config := { decide := false }); done) | fail)) ?_)
 | fail)
      refine .inr (.inl ⟨_, _, _, _, rfl, fun _ => ⟨he, ?_⟩, fun h => by cases h⟩)
      rintro res σ' ⟨rfl, rfl⟩
      refine owp_of_exs ?_
      rw [flagS, lostTo_all]
      simp only [zT, zV, zS, zU, vcC, lateX, ex, strp, cnd, binA, kseq, kblk, kret, klp, Abs.one, elems, cells, scalar, eqC, Nat.reduceBEq, Nat.reduceAdd, Nat.reduceSub, Nat.reduceLT, Nat.reduceLeDiff, Nat.reduceMul, Nat.reduceEqDiff, cond_true, cond_false, if_true, if_false, reduceIte, implies_true, forall_const, ne_eq]
      (repeat' first
 | (refine AWPC.of_vcn rfl ?_; simp only [zT, zV, zS, zU, vcC, lateX, ex, strp, cnd, binA, kseq, kblk, kret, klp, Abs.one, elems, cells, scalar, eqC, Nat.reduceBEq, Nat.reduceAdd, Nat.reduceSub, Nat.reduceLT, Nat.reduceLeDiff, Nat.reduceMul, Nat.reduceEqDiff, cond_true, cond_false, if_true, if_false, reduceIte, implies_true, forall_const, ne_eq])
 | (simp (disch := omega) only [wr64, Int.zero_sub]; try simp only [zT, zV, zS, zU, vcC, lateX, ex, strp, cnd, binA, kseq, kblk, kret, klp, Abs.one, elems, cells, scalar, eqC, Nat.reduceBEq, Nat.reduceAdd, Nat.reduceSub, Nat.reduceLT, Nat.reduceLeDiff, Nat.reduceMul, Nat.reduceEqDiff, cond_true, cond_false, if_true, if_false, reduceIte, implies_true, forall_const, ne_eq])
 | (refine AWPC.both (fun _ => ?_) (fun _ => ?_))
 | (refine AWPC.imp (fun _ => ?_))
 | ((repeat (refine And.intro (by (intros; first | omega | (simp_all (config := { decide := false }); done) | fail)) ?_)); (first
 | (refine .inl ⟨_, _, _, _, rfl, fun _hc => ⟨by simp, hl⟩, ?_⟩)
 | (refine ⟨_, _, _, _, rfl, fun _hc => ⟨by simp, hl⟩, ?_⟩)
 | fail); (first | refine owp_of_exs ?_ | refine pre_of_exd ?_ | refine pre_of_exe ?_ | fail); simp only [zT, zV, zS, zU, vcC, lateX, ex, strp, cnd, binA, kseq, kblk, kret, klp, Abs.one, elems, cells, scalar, eqC, Nat.reduceBEq, Nat.reduceAdd, Nat.reduceSub, Nat.reduceLT, Nat.reduceLeDiff, Nat.reduceMul, Nat.reduceEqDiff, cond_true, cond_false, if_true, if_false, reduceIte, implies_true, forall_const, ne_eq])
 | ((refine .inl ⟨_, _, _, .any, rfl, fun h => absurd h Bool.false_ne_true, ?_⟩); refine owp_of_exs ?_; simp only [zT, zV, zS, zU, vcC, lateX, ex, strp, cnd, binA, kseq, kblk, kret, klp, Abs.one, elems, cells, scalar, eqC, Nat.reduceBEq, Nat.reduceAdd, Nat.reduceSub, Nat.reduceLT, Nat.reduceLeDiff, Nat.reduceMul, Nat.reduceEqDiff, cond_true, cond_false, if_true, if_false, reduceIte, implies_true, forall_const, ne_eq])
 | (refine ⟨by omega, ?_⟩)
 | (refine And.intro (by (intros; first | (simp_all (config := { decide := false }); done) | fail)) ?_)
 | fail)
      · rename_i h
        simp only [h, if_true]
        exact frz_ink0 3
      · rename_i h
        simp only [h]
        exact Frz.eq rfl (pureV_inkE _ _)
    · simp only [lim, hm, cond_true] at hl
      simp only [if_true]
      (repeat' first
 | (refine AWPC.of_vcn rfl ?_; simp only [zT, zV, zS, zU, vcC, lateX, ex, strp, cnd, binA, kseq, kblk, kret, klp, Abs.one, elems, cells, scalar, eqC, Nat.reduceBEq, Nat.reduceAdd, Nat.reduceSub, Nat.reduceLT, Nat.reduceLeDiff, Nat.reduceMul, Nat.reduceEqDiff, cond_true, cond_false, if_true, if_false, reduceIte, implies_true, forall_const, ne_eq])
 | (simp (disch := omega) only [wr64, Int.zero_sub]; try simp only [zT, zV, zS, zU, vcC, lateX, ex, strp, cnd, binA, kseq, kblk, kret, klp, Abs.one, elems, cells, scalar, eqC, Nat.reduceBEq, Nat.reduceAdd, Nat.reduceSub, Nat.reduceLT, Nat.reduceLeDiff, Nat.reduceMul, Nat.reduceEqDiff, cond_true, cond_false, if_true, if_false, reduceIte, implies_true, forall_const, ne_eq])
 | (refine AWPC.both (fun _ => ?_) (fun _ => ?_))
 | (refine AWPC.imp (fun _ => ?_))
 | ((refine .inl ⟨_, _, _, .any, rfl, fun h => absurd h Bool.false_ne_true, ?_⟩); refine owp_of_exs ?_; simp only [zT, zV, zS, zU, vcC, lateX, ex, strp, cnd, binA, kseq, kblk, kret, klp, Abs.one, elems, cells, scalar, eqC, Nat.reduceBEq, Nat.reduceAdd, Nat.reduceSub, Nat.reduceLT, Nat.reduceLeDiff, Nat.reduceMul, Nat.reduceEqDiff, cond_true, cond_false, if_true, if_false, reduceIte, implies_true, forall_const, ne_eq])
 | (refine ⟨by omega, ?_⟩)
 | (refine And.intro (by (intros; first | (simp_all (config := { decide := false }); done) | fail)) ?_)
 | fail)
      refine .inr (.inl ⟨_, _, _, _, rfl, fun _ => ⟨he, ?_⟩, fun h => by cases h⟩)
      rintro res σ' ⟨rfl, rfl⟩
      refine owp_of_exs ?_
      rw [flagS, lostTo_all]
      simp only [zT, zV, zS, zU, vcC, lateX, ex, strp, cnd, binA, kseq, kblk, kret, klp, Abs.one, elems, cells, scalar, eqC, Nat.reduceBEq, Nat.reduceAdd, Nat.reduceSub, Nat.reduceLT, Nat.reduceLeDiff, Nat.reduceMul, Nat.reduceEqDiff, cond_true, cond_false, if_true, if_false, reduceIte, implies_true, forall_const, ne_eq]
      (repeat' first
 | (refine AWPC.of_vcn rfl ?_; simp only [zT, zV, zS, zU, vcC, lateX, ex, strp, cnd, binA, kseq, kblk, kret, klp, Abs.one, elems, cells, scalar, eqC, Nat.reduceBEq, Nat.reduceAdd, Nat.reduceSub, Nat.reduceLT, Nat.reduceLeDiff, Nat.reduceMul, Nat.reduceEqDiff, cond_true, cond_false, if_true, if_false, reduceIte, implies_true, forall_const, ne_eq])
 | (simp (disch := omega) only [wr64, Int.zero_sub]; try simp only [zT, zV, zS, zU, vcC, lateX, ex, strp, cnd, binA, kseq, kblk, kret, klp, Abs.one, elems, cells, scalar, eqC, Nat.reduceBEq, Nat.reduceAdd, Nat.reduceSub, Nat.reduceLT, Nat.reduceLeDiff, Nat.reduceMul, Nat.reduceEqDiff, cond_true, cond_false, if_true, if_false, reduceIte, implies_true, forall_const, ne_eq])
 | (refine AWPC.both (fun _ => ?_) (fun _ => ?_))
 | (refine AWPC.imp (fun _ => ?_))
 | ((repeat (refine And.intro (by (intros; first | omega | (simp_all (config := { decide := false }); done) | fail)) ?_)); (first
 | (refine .inl ⟨_, _, _, _, rfl, fun _hc => ⟨by simp, hl⟩, ?_⟩)
 | (refine ⟨_, _, _, _, rfl, fun _hc => ⟨by simp, hl⟩, ?_⟩)
 | fail); (first | refine owp_of_exs ?_ | refine pre_of_exd ?_ | refine pre_of_exe ?_ | fail); simp only [zT, zV, zS, zU, vcC, lateX, ex, strp, cnd, binA, kseq, kblk, kret, klp, Abs.one, elems, cells, scalar, eqC, Nat.reduceBEq, Nat.reduceAdd, Nat.reduceSub, Nat.reduceLT, Nat.reduceLeDiff, Nat.reduceMul, Nat.reduceEqDiff, cond_true, cond_false, if_true, if_false, reduceIte, implies_true, forall_const, ne_eq])
 | ((refine .inl ⟨_, _, _, .any, rfl, fun h => absurd h Bool.false_ne_true, ?_⟩); refine owp_of_exs ?_; simp only [zT, zV, zS, zU, vcC, lateX, ex, strp, cnd, binA, kseq, kblk, kret, klp, Abs.one, elems, cells, scalar, eqC, Nat.reduceBEq, Nat.reduceAdd, Nat.reduceSub, Nat.reduceLT, Nat.reduceLeDiff, Nat.reduceMul, Nat.reduceEqDiff, cond_true, cond_false, if_true, if_false, reduceIte, implies_true, forall_const, ne_eq])
 | (refine ⟨by omega, ?_⟩)
 | (refine And.intro (by (intros; first | (simp_all (config := { decide := false }); done) | fail)) ?_)
 | fail)
      all_goals first | (exfalso; omega) | exact Frz.eq rfl (pureV_inkE _ _) | (rename_i h; simp at h; done)
  · rw [if_neg hj, if_neg hj, he0] at he
    have hl := limited_spec [] (jerr a b) ⟨by simp, fun l h => by cases h⟩
    rw [if_neg hj, if_neg hj] at hl
    unfold bothE
    rw [if_neg hj]
    (repeat' first
 | (refine AWPC.of_vcn rfl ?_; simp only [zT, zV, zS, zU, vcC, lateX, ex, strp, cnd, binA, kseq, kblk, kret, klp, Abs.one, elems, cells, scalar, eqC, Nat.reduceBEq, Nat.reduceAdd, Nat.reduceSub, Nat.reduceLT, Nat.reduceLeDiff, Nat.reduceMul, Nat.reduceEqDiff, cond_true, cond_false, if_true, if_false, reduceIte, implies_true, forall_const, ne_eq])
 | (simp (disch := omega) only [wr64, Int.zero_sub]; try simp only [zT, zV, zS, zU, vcC, lateX, ex, strp, cnd, binA, kseq, kblk, kret, klp, Abs.one, elems, cells, scalar, eqC, Nat.reduceBEq, Nat.reduceAdd, Nat.reduceSub, Nat.reduceLT, Nat.reduceLeDiff, Nat.reduceMul, Nat.reduceEqDiff, cond_true, cond_false, if_true, if_false, reduceIte, implies_true, forall_const, ne_eq])
 | (refine AWPC.both (fun _ => ?_) (fun _ => ?_))
 | (refine AWPC.imp (fun _ => ?_))
 | ((refine .inl ⟨_, _, _, .any, rfl, fun h => absurd h Bool.false_ne_true, ?_⟩); refine owp_of_exs ?_; simp only [zT, zV, zS, zU, vcC, lateX, ex, strp, cnd, binA, kseq, kblk, kret, klp, Abs.one, elems, cells, scalar, eqC, Nat.reduceBEq, Nat.reduceAdd, Nat.reduceSub, Nat.reduceLT, Nat.reduceLeDiff, Nat.reduceMul, Nat.reduceEqDiff, cond_true, cond_false, if_true, if_false, reduceIte, implies_true, forall_const, ne_eq])
 | (refine ⟨by omega, ?_⟩)
 | (refine And.intro (by (intros; first | (simp_all (config := { decide := false }); done) | fail)) ?_)
 | fail)
    refine .inr (.inl ⟨_, _, _, _, rfl, fun _ => ⟨he, ?_⟩, fun h => by cases h⟩)
    rintro res σ' ⟨rfl, rfl⟩
    refine owp_of_exs ?_
    simp only [zT, zV, zS, zU, vcC, lateX, ex, strp, cnd, binA, kseq, kblk, kret, klp, Abs.one, elems, cells, scalar, eqC, Nat.reduceBEq, Nat.reduceAdd, Nat.reduceSub, Nat.reduceLT, Nat.reduceLeDiff, Nat.reduceMul, Nat.reduceEqDiff, cond_true, cond_false, if_true, if_false, reduceIte, implies_true, forall_const, ne_eq]
    (repeat' first
 | (refine AWPC.of_vcn rfl ?_; simp only [zT, zV, zS, zU, vcC, lateX, ex, strp, cnd, binA, kseq, kblk, kret, klp, Abs.one, elems, cells, scalar, eqC, Nat.reduceBEq, Nat.reduceAdd, Nat.reduceSub, Nat.reduceLT, Nat.reduceLeDiff, Nat.reduceMul, Nat.reduceEqDiff, cond_true, cond_false, if_true, if_false, reduceIte, implies_true, forall_const, ne_eq])
 | (simp (disch := omega) only [wr64, Int.zero_sub]; try simp only [zT, zV, zS, zU, vcC, lateX, ex, strp, cnd, binA, kseq, kblk, kret, klp, Abs.one, elems, cells, scalar, eqC, Nat.reduceBEq, Nat.reduceAdd, Nat.reduceSub, Nat.reduceLT, Nat.reduceLeDiff, Nat.reduceMul, Nat.reduceEqDiff, cond_true, cond_false, if_true, if_false, reduceIte, implies_true, forall_const, ne_eq])
 | (refine AWPC.both (fun _ => ?_) (fun _ => ?_))
 | (refine AWPC.imp (fun _ => ?_))
 | ((repeat (refine And.intro (by (intros; first | omega | (simp_all (config := { decide := false }); done) | fail)) ?_)); (first
 | (refine .inl ⟨_, _, _, _, rfl, fun _hc => ⟨by simp, hl⟩, ?_⟩)
 | (refine ⟨_, _, _, _, rfl, fun _hc => ⟨by simp, hl⟩, ?_⟩)
 | fail); (first | refine owp_of_exs ?_ | refine pre_of_exd ?_ | refine pre_of_exe ?_ | fail); simp only [zT, zV, zS, zU, vcC, lateX, ex, strp, cnd, binA, kseq, kblk, kret, klp, Abs.one, elems, cells, scalar, eqC, Nat.reduceBEq, Nat.reduceAdd, Nat.reduceSub, Nat.reduceLT, Nat.reduceLeDiff, Nat.reduceMul, Nat.reduceEqDiff, cond_true, cond_false, if_true, if_false, reduceIte, implies_true, forall_const, ne_eq])
 | ((refine .inl ⟨_, _, _, .any, rfl, fun h => absurd h Bool.false_ne_true, ?_⟩); refine owp_of_exs ?_; simp only [zT, zV, zS, zU, vcC, lateX, ex, strp, cnd, binA, kseq, kblk, kret, klp, Abs.one, elems, cells, scalar, eqC, Nat.reduceBEq, Nat.reduceAdd, Nat.reduceSub, Nat.reduceLT, Nat.reduceLeDiff, Nat.reduceMul, Nat.reduceEqDiff, cond_true, cond_false, if_true, if_false, reduceIte, implies_true, forall_const, ne_eq])
 | (refine ⟨by omega, ?_⟩)
 | (refine And.intro (by (intros; first | (simp_all (config := { decide := false }); done) | fail)) ?_)
 | fail)
    exact Frz.eq rfl (pureV_inkE _ _)

theorem rBoth_spec (a b : List (List Sp)) (ha : Lens a) (hb : Lens b) : Pure Try.prog 63 [ink a, ink b] (.tup [ink (bothE a b).1, n (bothE a b).2]) := by
  refine Pure.of_body Try.call63 Try.func63 k63 (Nat.le_of_ble_eq_true rfl) ?_
  have hk := alike_spec a b ha hb
  unfold c63 bothE
  by_cases hj : jerr a b = 0
  · have al := al_iff.1 hj
    rw [hj] at hk
    rw [if_pos hj]
    have hal := al.l
    have hz := zip_len (F := bothC) al.l
    have ha2 := al.a.1.2
    (repeat' first
 | (refine AWPC.of_vcn rfl ?_; simp only [zT, zV, zS, zU, vcC, lateX, ex, strp, cnd, binA, kseq, kblk, kret, klp, Abs.one, elems, cells, scalar, eqC, Nat.reduceBEq, Nat.reduceAdd, Nat.reduceSub, Nat.reduceLT, Nat.reduceLeDiff, Nat.reduceMul, Nat.reduceEqDiff, cond_true, cond_false, if_true, if_false, reduceIte, implies_true, forall_const, ne_eq])
 | (simp (disch := omega) only [wr64, Int.zero_sub]; try simp only [zT, zV, zS, zU, vcC, lateX, ex, strp, cnd, binA, kseq, kblk, kret, klp, Abs.one, elems, cells, scalar, eqC, Nat.reduceBEq, Nat.reduceAdd, Nat.reduceSub, Nat.reduceLT, Nat.reduceLeDiff, Nat.reduceMul, Nat.reduceEqDiff, cond_true, cond_false, if_true, if_false, reduceIte, implies_true, forall_const, ne_eq])
 | (refine AWPC.both (fun _ => ?_) (fun _ => ?_))
 | (refine AWPC.imp (fun _ => ?_))
 | ((repeat (refine And.intro (by (intros; first | omega | (simp_all (config := { decide := false }); done) | fail)) ?_)); (first
 | (refine .inl ⟨_, _, _, _, rfl, fun _hc => ⟨by simp, hk⟩, ?_⟩)
 | (refine ⟨_, _, _, _, rfl, fun _hc => ⟨by simp, hk⟩, ?_⟩)
 | fail); (first | refine owp_of_exs ?_ | refine pre_of_exd ?_ | refine pre_of_exe ?_ | fail); simp only [zT, zV, zS, zU, vcC, lateX, ex, strp, cnd, binA, kseq, kblk, kret, klp, Abs.one, elems, cells, scalar, eqC, Nat.reduceBEq, Nat.reduceAdd, Nat.reduceSub, Nat.reduceLT, Nat.reduceLeDiff, Nat.reduceMul, Nat.reduceEqDiff, cond_true, cond_false, if_true, if_false, reduceIte, implies_true, forall_const, ne_eq])
 | ((refine .inl ⟨_, _, _, .any, rfl, fun h => absurd h Bool.false_ne_true, ?_⟩); refine owp_of_exs ?_; simp only [zT, zV, zS, zU, vcC, lateX, ex, strp, cnd, binA, kseq, kblk, kret, klp, Abs.one, elems, cells, scalar, eqC, Nat.reduceBEq, Nat.reduceAdd, Nat.reduceSub, Nat.reduceLT, Nat.reduceLeDiff, Nat.reduceMul, Nat.reduceEqDiff, cond_true, cond_false, if_true, if_false, reduceIte, implies_true, forall_const, ne_eq])
 | (refine ⟨by omega, ?_⟩)
 | (refine And.intro (by (intros; first | (simp_all (config := { decide := false }); done) | fail)) ?_)
 | fail)
    refine AWPC.own0 34 1 7 rfl ?_
    simp only [zS, zU, vcC, lateX, ex, strp, cnd, binA, kseq, kblk, kret, klp, Abs.one, elems, cells, scalar, eqC, Nat.reduceBEq, Nat.reduceAdd, Nat.reduceSub, Nat.reduceLT, Nat.reduceLeDiff, Nat.reduceMul, Nat.reduceEqDiff, cond_true, cond_false, if_true, if_false, reduceIte, implies_true, forall_const, ne_eq]
    refine AWPC.loopE (α := { i : Nat // i ≤ a.length }) [7, 8, 9] (fun i => [(7, .own 1 0 i.1), (8, bl (lostTo a b i.1)), (9, n i.1)])
      (fun i => [some [⟨56, 1, [[.v (.slice none 0 0)]], none⟩], some [⟨34, 1, ((zipC bothC a b).take i.1).map (fun l => [spS l]), none⟩]]) (fun i => a.length - i.1) ⟨0, Nat.zero_le _⟩ ?_ rfl ?_
    · (simp only [zT, zV, zS, zU, vcC, lateX, ex, strp, cnd, binA, kseq, kblk, kret, klp, Abs.one, elems, cells, scalar, eqC, Nat.reduceBEq, Nat.reduceAdd, Nat.reduceSub, Nat.reduceLT, Nat.reduceLeDiff, Nat.reduceMul, Nat.reduceEqDiff, cond_true, cond_false, if_true, if_false, reduceIte, implies_true, forall_const, ne_eq]; try simp)
      rfl
    rintro ⟨i, hi⟩
    by_cases hlt : i < a.length
    · obtain ⟨p, hp⟩ : ∃ l, a[i]? = some l := ⟨_, List.getElem?_eq_getElem hlt⟩
      obtain ⟨q, hq⟩ : ∃ l, b[i]? = some l := ⟨_, List.getElem?_eq_getElem (by omega)⟩
      have gp := al.a.2 p (List.mem_of_getElem? hp)
      have gq := al.b.2 q (List.mem_of_getElem? hq)
      have hm := rmeet_spec p q gp.bd (by have := gp.2.2; omega) (by have := gq.2.2; omega)
      have hml := meet_len gp gq
      have hzi : (zipC bothC a b)[i]? = some (bothC p q) := by rw [zip_get, hp, hq]
      have hzt : (zipC bothC a b).take (i + 1) = (zipC bothC a b).take i ++ [bothC p q] := by rw [List.take_add_one, hzi]; rfl
      have htl : (((zipC bothC a b).take i).map (fun l => [spS l])).length = i := by simp [hz]; omega
      have hlo := lostTo_next hp hq
      have gp8 := gp.2.2
      have gq8 := gq.2.2
      (repeat' first
 | (refine AWPC.of_vcn rfl ?_; simp only [zT, zV, zS, zU, vcC, lateX, ex, strp, cnd, binA, kseq, kblk, kret, klp, Abs.one, elems, cells, scalar, eqC, Nat.reduceBEq, Nat.reduceAdd, Nat.reduceSub, Nat.reduceLT, Nat.reduceLeDiff, Nat.reduceMul, Nat.reduceEqDiff, cond_true, cond_false, if_true, if_false, reduceIte, implies_true, forall_const, ne_eq, getD_map hp, getD_map hq, htl])
 | (simp (disch := omega) only [wr64, Int.zero_sub]; try simp only [zT, zV, zS, zU, vcC, lateX, ex, strp, cnd, binA, kseq, kblk, kret, klp, Abs.one, elems, cells, scalar, eqC, Nat.reduceBEq, Nat.reduceAdd, Nat.reduceSub, Nat.reduceLT, Nat.reduceLeDiff, Nat.reduceMul, Nat.reduceEqDiff, cond_true, cond_false, if_true, if_false, reduceIte, implies_true, forall_const, ne_eq, getD_map hp, getD_map hq, htl])
 | (refine AWPC.both (fun _ => ?_) (fun _ => ?_))
 | (refine AWPC.imp (fun _ => ?_))
 | ((repeat (refine And.intro (by (intros; first | omega | (simp_all (config := { decide := false }); done) | fail)) ?_)); (first
 | (refine .inl ⟨_, _, _, _, rfl, fun _hc => ⟨by simp, hm⟩, ?_⟩)
 | (refine ⟨_, _, _, _, rfl, fun _hc => ⟨by simp, hm⟩, ?_⟩)
 | fail); (first | refine owp_of_exs ?_ | refine pre_of_exd ?_ | refine pre_of_exe ?_ | fail); simp only [zT, zV, zS, zU, vcC, lateX, ex, strp, cnd, binA, kseq, kblk, kret, klp, Abs.one, elems, cells, scalar, eqC, Nat.reduceBEq, Nat.reduceAdd, Nat.reduceSub, Nat.reduceLT, Nat.reduceLeDiff, Nat.reduceMul, Nat.reduceEqDiff, cond_true, cond_false, if_true, if_false, reduceIte, implies_true, forall_const, ne_eq, getD_map hp, getD_map hq, htl])
 | ((refine .inl ⟨_, _, _, .any, rfl, fun h => absurd h Bool.false_ne_true, ?_⟩); refine owp_of_exs ?_; simp only [zT, zV, zS, zU, vcC, lateX, ex, strp, cnd, binA, kseq, kblk, kret, klp, Abs.one, elems, cells, scalar, eqC, Nat.reduceBEq, Nat.reduceAdd, Nat.reduceSub, Nat.reduceLT, Nat.reduceLeDiff, Nat.reduceMul, Nat.reduceEqDiff, cond_true, cond_false, if_true, if_false, reduceIte, implies_true, forall_const, ne_eq, getD_map hp, getD_map hq, htl])
 | (refine ⟨by omega, ?_⟩)
 | (refine And.intro (by (intros; first | (simp_all (config := { decide := false }); done) | fail)) ?_)
 | fail)
      all_goals try (exfalso; omega)
      · rename_i h
        have hh : p.length = 0 := by omega
        exact ⟨⟨i + 1, hlt⟩, ⟨rfl, by rw [hlo, show lostC p q = false by simp [lostC, hh], Bool.or_false], by simp⟩, by simp only; rw [hzt, show bothC p q = q from if_pos hh]; simp, by simp only; omega⟩
      · rename_i h h'
        have hh : ¬ p.length = 0 := by omega
        have hh' : q.length = 0 := by omega
        exact ⟨⟨i + 1, hlt⟩, ⟨rfl, by rw [hlo, show lostC p q = false by simp [lostC, hh'], Bool.or_false], by simp⟩, by simp only; rw [hzt, show bothC p q = p by unfold bothC; rw [if_neg hh, if_pos hh']]; simp, by simp only; omega⟩
      · rename_i h h'
        have hh : ¬ p.length = 0 := by omega
        have hh' : ¬ q.length = 0 := by omega
        refine ⟨⟨i + 1, hlt⟩, ⟨rfl, ?_, by simp⟩, by simp only; rw [hzt, show bothC p q = meet p q by unfold bothC; rw [if_neg hh, if_neg hh']]; simp, by simp only; omega⟩
        rw [hlo]
        have : lostC p q = decide ((meet p q).length = 0) := by rw [lostC, decide_eq_decide]; omega
        rw [this]
        exact congrArg (fun z => bl (lostTo a b i || z)) (decide_eq_decide.2 (by omega))
    · obtain rfl : i = a.length := by omega
      have hl := rlimited_spec (zipC bothC a b) (lens_both al)
      have e : (zipC bothC a b).take a.length = zipC bothC a b := List.take_of_length_le (by omega)
      rw [lostTo_all]
      generalize zipC bothC a b = Z at *
      refine AWPC.freeze1 (f := 1) (t := 7) (o := ⟨34, 1, Z.map (fun l => [spS l]), none⟩) rfl (by simp only [e]; rfl) (by simp [hz]) (show (1 : Nat) ≠ 0 by decide) ?_
      cases hm : many Z
      · simp only [lim, hm, cond_false] at hl
        (repeat' first
 | (refine AWPC.of_vcn rfl ?_; simp only [zT, zV, zS, zU, vcC, lateX, ex, strp, cnd, binA, kseq, kblk, kret, klp, Abs.one, elems, cells, scalar, eqC, Nat.reduceBEq, Nat.reduceAdd, Nat.reduceSub, Nat.reduceLT, Nat.reduceLeDiff, Nat.reduceMul, Nat.reduceEqDiff, cond_true, cond_false, if_true, if_false, reduceIte, implies_true, forall_const, ne_eq, gone, List.set_cons_succ, List.set_cons_zero])
 | (simp (disch := omega) only [wr64, Int.zero_sub]; try simp only [zT, zV, zS, zU, vcC, lateX, ex, strp, cnd, binA, kseq, kblk, kret, klp, Abs.one, elems, cells, scalar, eqC, Nat.reduceBEq, Nat.reduceAdd, Nat.reduceSub, Nat.reduceLT, Nat.reduceLeDiff, Nat.reduceMul, Nat.reduceEqDiff, cond_true, cond_false, if_true, if_false, reduceIte, implies_true, forall_const, ne_eq, gone, List.set_cons_succ, List.set_cons_zero])
 | (refine AWPC.both (fun _ => ?_) (fun _ => ?_))
 | (refine AWPC.imp (fun _ => ?_))
 | ((repeat (refine And.intro (by (intros; first | omega | (simp_all (config := { decide := false }); done) | fail)) ?_)); (first
 | (refine .inl ⟨_, _, _, _, rfl, fun _hc => ⟨by simp, hl⟩, ?_⟩)
 | (refine ⟨_, _, _, _, rfl, fun _hc => ⟨by simp, hl⟩, ?_⟩)
 | fail); (first | refine owp_of_exs ?_ | refine pre_of_exd ?_ | refine pre_of_exe ?_ | fail); simp only [zT, zV, zS, zU, vcC, lateX, ex, strp, cnd, binA, kseq, kblk, kret, klp, Abs.one, elems, cells, scalar, eqC, Nat.reduceBEq, Nat.reduceAdd, Nat.reduceSub, Nat.reduceLT, Nat.reduceLeDiff, Nat.reduceMul, Nat.reduceEqDiff, cond_true, cond_false, if_true, if_false, reduceIte, implies_true, forall_const, ne_eq, gone, List.set_cons_succ, List.set_cons_zero])
 | ((refine .inl ⟨_, _, _, .any, rfl, fun h => absurd h Bool.false_ne_true, ?_⟩); refine owp_of_exs ?_; simp only [zT, zV, zS, zU, vcC, lateX, ex, strp, cnd, binA, kseq, kblk, kret, klp, Abs.one, elems, cells, scalar, eqC, Nat.reduceBEq, Nat.reduceAdd, Nat.reduceSub, Nat.reduceLT, Nat.reduceLeDiff, Nat.reduceMul, Nat.reduceEqDiff, cond_true, cond_false, if_true, if_false, reduceIte, implies_true, forall_const, ne_eq, gone, List.set_cons_succ, List.set_cons_zero])
 | (refine ⟨by omega, ?_⟩)
 | (refine And.intro (by (intros; first | (simp_all (config := { decide := false }); done) | fail)) ?_)
 | fail)
        all_goals try (exfalso; omega)
        · rename_i h
          simp only [h, if_true]
          exact frz_ink0 3
        · rename_i h
          simp only [h]
          exact Frz.eq rfl (pureV_inkE _ _)
      · simp only [lim, hm, cond_true] at hl
        (repeat' first
 | (refine AWPC.of_vcn rfl ?_; simp only [zT, zV, zS, zU, vcC, lateX, ex, strp, cnd, binA, kseq, kblk, kret, klp, Abs.one, elems, cells, scalar, eqC, Nat.reduceBEq, Nat.reduceAdd, Nat.reduceSub, Nat.reduceLT, Nat.reduceLeDiff, Nat.reduceMul, Nat.reduceEqDiff, cond_true, cond_false, if_true, if_false, reduceIte, implies_true, forall_const, ne_eq, gone, List.set_cons_succ, List.set_cons_zero])
 | (simp (disch := omega) only [wr64, Int.zero_sub]; try simp only [zT, zV, zS, zU, vcC, lateX, ex, strp, cnd, binA, kseq, kblk, kret, klp, Abs.one, elems, cells, scalar, eqC, Nat.reduceBEq, Nat.reduceAdd, Nat.reduceSub, Nat.reduceLT, Nat.reduceLeDiff, Nat.reduceMul, Nat.reduceEqDiff, cond_true, cond_false, if_true, if_false, reduceIte, implies_true, forall_const, ne_eq, gone, List.set_cons_succ, List.set_cons_zero])
 | (refine AWPC.both (fun _ => ?_) (fun _ => ?_))
 | (refine AWPC.imp (fun _ => ?_))
 | ((repeat (refine And.intro (by (intros; first | omega | (simp_all (config := { decide := false }); done) | fail)) ?_)); (first
 | (refine .inl ⟨_, _, _, _, rfl, fun _hc => ⟨by simp, hl⟩, ?_⟩)
 | (refine ⟨_, _, _, _, rfl, fun _hc => ⟨by simp, hl⟩, ?_⟩)
 | fail); (first | refine owp_of_exs ?_ | refine pre_of_exd ?_ | refine pre_of_exe ?_ | fail); simp only [zT, zV, zS, zU, vcC, lateX, ex, strp, cnd, binA, kseq, kblk, kret, klp, Abs.one, elems, cells, scalar, eqC, Nat.reduceBEq, Nat.reduceAdd, Nat.reduceSub, Nat.reduceLT, Nat.reduceLeDiff, Nat.reduceMul, Nat.reduceEqDiff, cond_true, cond_false, if_true, if_false, reduceIte, implies_true, forall_const, ne_eq, gone, List.set_cons_succ, List.set_cons_zero])
 | ((refine .inl ⟨_, _, _, .any, rfl, fun h => absurd h Bool.false_ne_true, ?_⟩); refine owp_of_exs ?_; simp only [zT, zV, zS, zU, vcC, lateX, ex, strp, cnd, binA, kseq, kblk, kret, klp, Abs.one, elems, cells, scalar, eqC, Nat.reduceBEq, Nat.reduceAdd, Nat.reduceSub, Nat.reduceLT, Nat.reduceLeDiff, Nat.reduceMul, Nat.reduceEqDiff, cond_true, cond_false, if_true, if_false, reduceIte, implies_true, forall_const, ne_eq, gone, List.set_cons_succ, List.set_cons_zero])
 | (refine ⟨by omega, ?_⟩)
 | (refine And.intro (by (intros; first | (simp_all (config := { decide := false }); done) | fail)) ?_)
 | fail)
        all_goals try (exfalso; omega)
        exact frz_ink0 2
  · rw [if_neg hj]
    (repeat' first
 | (refine AWPC.of_vcn rfl ?_; simp only [zT, zV, zS, zU, vcC, lateX, ex, strp, cnd, binA, kseq, kblk, kret, klp, Abs.one, elems, cells, scalar, eqC, Nat.reduceBEq, Nat.reduceAdd, Nat.reduceSub, Nat.reduceLT, Nat.reduceLeDiff, Nat.reduceMul, Nat.reduceEqDiff, cond_true, cond_false, if_true, if_false, reduceIte, implies_true, forall_const, ne_eq])
 | (simp (disch := omega) only [wr64, Int.zero_sub]; try simp only [zT, zV, zS, zU, vcC, lateX, ex, strp, cnd, binA, kseq, kblk, kret, klp, Abs.one, elems, cells, scalar, eqC, Nat.reduceBEq, Nat.reduceAdd, Nat.reduceSub, Nat.reduceLT, Nat.reduceLeDiff, Nat.reduceMul, Nat.reduceEqDiff, cond_true, cond_false, if_true, if_false, reduceIte, implies_true, forall_const, ne_eq])
 | (refine AWPC.both (fun _ => ?_) (fun _ => ?_))
 | (refine AWPC.imp (fun _ => ?_))
 | ((repeat (refine And.intro (by (intros; first | omega | (simp_all (config := { decide := false }); done) | fail)) ?_)); (first
 | (refine .inl ⟨_, _, _, _, rfl, fun _hc => ⟨by simp, hk⟩, ?_⟩)
 | (refine ⟨_, _, _, _, rfl, fun _hc => ⟨by simp, hk⟩, ?_⟩)
 | fail); (first | refine owp_of_exs ?_ | refine pre_of_exd ?_ | refine pre_of_exe ?_ | fail); simp only [zT, zV, zS, zU, vcC, lateX, ex, strp, cnd, binA, kseq, kblk, kret, klp, Abs.one, elems, cells, scalar, eqC, Nat.reduceBEq, Nat.reduceAdd, Nat.reduceSub, Nat.reduceLT, Nat.reduceLeDiff, Nat.reduceMul, Nat.reduceEqDiff, cond_true, cond_false, if_true, if_false, reduceIte, implies_true, forall_const, ne_eq])
 | ((refine .inl ⟨_, _, _, .any, rfl, fun h => absurd h Bool.false_ne_true, ?_⟩); refine owp_of_exs ?_; simp only [zT, zV, zS, zU, vcC, lateX, ex, strp, cnd, binA, kseq, kblk, kret, klp, Abs.one, elems, cells, scalar, eqC, Nat.reduceBEq, Nat.reduceAdd, Nat.reduceSub, Nat.reduceLT, Nat.reduceLeDiff, Nat.reduceMul, Nat.reduceEqDiff, cond_true, cond_false, if_true, if_false, reduceIte, implies_true, forall_const, ne_eq])
 | (refine ⟨by omega, ?_⟩)
 | (refine And.intro (by (intros; first | (simp_all (config := { decide := false }); done) | fail)) ?_)
 | fail)
    all_goals try contradiction
    exact frz_ink0 _
end Go.Proofs.Ytgpdckmbojmlpaa

namespace Go.Proofs.Ytgpdckmbojmlpaa
open Go.Abs
set_option linter.unusedVariables false
set_option linter.unusedSimpArgs false
set_option maxHeartbeats 4000000
set_option maxRecDepth 100000
-- aneroid/paper.Within
def c61 : CF := ⟨23,
 (.seq (.ops [
 ⟨(some 2), .box false 56 1 (.t 0), none⟩,
 ⟨(some 3), .box false 56 1 (.t 1), none⟩,
 ⟨(some 4), .mv (.c (.bool false)), none⟩,
 ⟨(some 5), .mv (.c (.int .i64 0)), none⟩] [2, 3])
 (.seq (.ops [
 ⟨(some 9), .build [.nilFunc] [(0, 1, (.f 106))], none⟩,
 ⟨(some 10), .load (some 1) (.t 2), none⟩,
 ⟨(some 11), .load (some 1) (.t 3), none⟩,
 ⟨(some 12), .call (.f 109) [(.t 9), (.t 10), (.t 11)], none⟩,
 ⟨(some 8), .mv (.t 12), none⟩,
 ⟨(some 13), .ext 0 (.t 8), none⟩,
 ⟨(some 14), .ext 1 (.t 8), none⟩,
 ⟨(some 6), .mv (.t 13), none⟩,
 ⟨(some 7), .mv (.t 14), none⟩] [6, 7])
 (.seq (.ops [
 ⟨(some 15), .mv (.t 7), none⟩,
 ⟨(some 16), .bin .eql (.t 15) (.c (.int .i64 0)), none⟩,
 ⟨(some 17), .mv (.t 16), none⟩,
 ⟨(some 18), .mv (.t 6), (some (17, true))⟩,
 ⟨(some 19), .call (.f 110) [(.t 18), (.c (.bool false))], (some (17, true))⟩,
 ⟨(some 20), .un .not (.t 19), (some (17, true))⟩,
 ⟨(some 21), .pick (.t 17) (.t 20) (.c (.bool false)), none⟩,
 ⟨(some 22), .mv (.t 7), none⟩,
 ⟨(some 4), .mv (.t 21), none⟩,
 ⟨(some 5), .mv (.t 22), none⟩] [4, 5])
 .ret))),
 [.t 4, .t 5]⟩
-- aneroid/aneroidref01.Within
def c66 : CF := ⟨49,
 (.seq (.ops [
 ⟨(some 2), .box false 56 1 (.t 0), none⟩,
 ⟨(some 3), .box false 56 1 (.t 1), none⟩,
 ⟨(some 4), .mv (.c (.bool false)), none⟩,
 ⟨(some 5), .mv (.c (.int .i64 0)), none⟩] [2, 3])
 (.seq (.ops [
 ⟨(some 10), .load (some 1) (.t 2), none⟩,
 ⟨(some 11), .load (some 1) (.t 3), none⟩,
 ⟨(some 12), .call (.f 115) [(.t 10), (.t 11)], none⟩,
 ⟨(some 6), .mv (.t 12), none⟩] [2, 3, 6])
 (.seq (.seq (.ops [
 ⟨(some 13), .mv (.t 6), none⟩,
 ⟨(some 14), .bin .neq (.t 13) (.c (.int .i64 0)), none⟩] [2, 3, 6, 14])
 (.cond (.t 14) (.seq (.ops [
 ⟨(some 15), .mv (.t 6), none⟩,
 ⟨(some 4), .mv (.c (.bool false)), none⟩,
 ⟨(some 5), .mv (.t 15), none⟩] [4, 5])
 .ret)
 .skip))
 (.seq (.seq (.ops [
 ⟨(some 7), .mv (.c (.int .i64 0)), none⟩] [2, 3, 7])
 (.block 0 (.loop (.seq (.seq (.ops [
 ⟨(some 16), .mv (.t 7), none⟩,
 ⟨(some 17), .faddr 0 (.t 2), none⟩,
 ⟨(some 18), .load none (.t 17), none⟩,
 ⟨(some 19), .len (.t 18), none⟩,
 ⟨(some 20), .bin .lss (.t 16) (.t 19), none⟩] [2, 3, 7, 20])
 (.cond (.t 20) .skip
 (.exit 0)))
 (.seq (.block 1 (.seq (.ops [
 ⟨(some 23), .faddr 0 (.t 2), none⟩,
 ⟨(some 24), .load none (.t 23), none⟩,
 ⟨(some 25), .mv (.t 7), none⟩,
 ⟨(some 26), .iaddr 1 (.t 24) (.t 25), none⟩,
 ⟨(some 27), .load none (.t 26), none⟩,
 ⟨(some 8), .mv (.t 27), none⟩] [2, 3, 7, 8])
 (.seq (.ops [
 ⟨(some 28), .faddr 0 (.t 3), none⟩,
 ⟨(some 29), .load none (.t 28), none⟩,
 ⟨(some 30), .mv (.t 7), none⟩,
 ⟨(some 31), .iaddr 1 (.t 29) (.t 30), none⟩,
 ⟨(some 32), .load none (.t 31), none⟩,
 ⟨(some 9), .mv (.t 32), none⟩] [2, 3, 7, 8, 9])
 (.seq (.ops [
 ⟨(some 33), .mv (.t 9), none⟩,
 ⟨(some 34), .len (.t 33), none⟩,
 ⟨(some 35), .bin .gtr (.t 34) (.c (.int .i64 0)), none⟩,
 ⟨(some 36), .mv (.t 35), none⟩,
 ⟨(some 37), .mv (.t 8), (some (36, true))⟩,
 ⟨(some 38), .len (.t 37), (some (36, true))⟩,
 ⟨(some 39), .bin .eql (.t 38) (.c (.int .i64 0)), (some (36, true))⟩,
 ⟨(some 40), .mv (.t 39), (some (36, true))⟩,
 ⟨(some 41), .mv (.t 8), (some (40, false))⟩,
 ⟨(some 42), .mv (.t 9), (some (40, false))⟩,
 ⟨(some 43), .call (.f 116) [(.t 41), (.t 42)], (some (40, false))⟩,
 ⟨(some 44), .mv (.t 8), (some (40, false))⟩,
 ⟨(some 45), .call (.f 33) [(.t 43), (.t 44)], (some (40, false))⟩,
 ⟨(some 46), .un .not (.t 45), (some (40, false))⟩,
 ⟨(some 47), .pick (.t 40) (.c (.bool true)) (.t 46), (some (36, true))⟩,
 ⟨(some 48), .pick (.t 36) (.t 47) (.c (.bool false)), none⟩] [2, 3, 7, 48])
 (.cond (.t 48) (.seq (.ops [
 ⟨(some 4), .mv (.c (.bool false)), none⟩,
 ⟨(some 5), .mv (.c (.int .i64 0)), none⟩] [4, 5])
 .ret)
 .skip)))))
 (.ops [
 ⟨(some 21), .mv (.t 7), none⟩,
 ⟨(some 22), .bin .add (.t 21) (.c (.int .i64 1)), none⟩,
 ⟨(some 7), .mv (.t 22), none⟩] [2, 3, 7]))))))
 (.seq (.ops [
 ⟨(some 4), .mv (.c (.bool true)), none⟩,
 ⟨(some 5), .mv (.c (.int .i64 0)), none⟩] [4, 5])
 .ret))))),
 [.t 4, .t 5]⟩
-- aneroid/aneroidlaw01.same
def c67 : CF := ⟨16,
 (.seq (.ops [
 ⟨(some 3), .box false 56 1 (.t 0), none⟩,
 ⟨(some 5), .box false 56 1 (.t 2), none⟩,
 ⟨(some 6), .mv (.c (.bool false)), none⟩] [1, 3, 5])
 (.seq (.ops [
 ⟨(some 7), .mv (.t 1), none⟩,
 ⟨(some 8), .bin .eql (.t 7) (.c (.int .i64 0)), none⟩,
 ⟨(some 9), .mv (.t 8), none⟩,
 ⟨(some 10), .faddr 0 (.t 3), (some (9, true))⟩,
 ⟨(some 11), .load none (.t 10), (some (9, true))⟩,
 ⟨(some 12), .faddr 0 (.t 5), (some (9, true))⟩,
 ⟨(some 13), .load none (.t 12), (some (9, true))⟩,
 ⟨(some 14), .call (.f 59) [(.t 11), (.t 13)], (some (9, true))⟩,
 ⟨(some 15), .pick (.t 9) (.t 14) (.c (.bool false)), none⟩,
 ⟨(some 6), .mv (.t 15), none⟩] [6])
 .ret)),
 [.t 6]⟩
theorem k61 : chkF Try.prog Try.f61 c61 = true := by kernel_rfl
theorem k66 : chkF Try.prog Try.f66 c66 = true := by kernel_rfl
theorem k67 : chkF Try.prog Try.f67 c67 = true := by kernel_rfl

/-- A slice of Booleans. -/
abbrev blS (l : List Bool) : AV := .sl 1 (l.map fun b => [bl b])
@[simp] theorem pureV_blS (l : List Bool) : PureV (blS l) := by
  refine PureV.sl fun e he c hc => ?_
  obtain ⟨b, _, rfl⟩ := List.mem_map.1 he
  obtain rfl : c = bl b := by simpa using hc
  exact PureV.v _

theorem indexB_spec (l : List Bool) (v : Bool) (hl : l.length < 9223372036854775808) : Pure Try.prog 129 [blS l, bl v] (n (fidx (fun b => v == b) 0 l)) := by
  refine Pure.of_body Try.call129 Try.func129 k129 (Nat.le_of_ble_eq_true rfl) ?_
  unfold c129
  (repeat' first
 | (refine AWPC.of_vcn rfl ?_; simp only [zT, zV, zS, zU, vcC, lateX, ex, strp, cnd, binA, kseq, kblk, kret, klp, Abs.one, elems, cells, scalar, eqC, Nat.reduceBEq, Nat.reduceAdd, Nat.reduceSub, Nat.reduceLT, Nat.reduceLeDiff, Nat.reduceMul, Nat.reduceEqDiff, cond_true, cond_false, if_true, if_false, reduceIte, implies_true, forall_const, ne_eq])
 | (simp (disch := omega) only [wr64, Int.zero_sub]; try simp only [zT, zV, zS, zU, vcC, lateX, ex, strp, cnd, binA, kseq, kblk, kret, klp, Abs.one, elems, cells, scalar, eqC, Nat.reduceBEq, Nat.reduceAdd, Nat.reduceSub, Nat.reduceLT, Nat.reduceLeDiff, Nat.reduceMul, Nat.reduceEqDiff, cond_true, cond_false, if_true, if_false, reduceIte, implies_true, forall_const, ne_eq])
 | (refine AWPC.both (fun _ => ?_) (fun _ => ?_))
 | (refine AWPC.imp (fun _ => ?_))
 | ((refine .inl ⟨_, _, _, .any, rfl, fun h => absurd h Bool.false_ne_true, ?_⟩); refine owp_of_exs ?_; simp only [zT, zV, zS, zU, vcC, lateX, ex, strp, cnd, binA, kseq, kblk, kret, klp, Abs.one, elems, cells, scalar, eqC, Nat.reduceBEq, Nat.reduceAdd, Nat.reduceSub, Nat.reduceLT, Nat.reduceLeDiff, Nat.reduceMul, Nat.reduceEqDiff, cond_true, cond_false, if_true, if_false, reduceIte, implies_true, forall_const, ne_eq])
 | (refine ⟨by omega, ?_⟩)
 | (refine And.intro (by (intros; first | (simp_all (config := { decide := false }); done) | fail)) ?_)
 | fail)
  refine AWPC.loopI 8 l.length (fun i => fidx (fun b => v == b) i (l.drop i) = fidx (fun b => v == b) 0 l) (by simp) ?_ ?_
  · (simp only [zT, zV, zS, zU, vcC, lateX, ex, strp, cnd, binA, kseq, kblk, kret, klp, Abs.one, elems, cells, scalar, eqC, Nat.reduceBEq, Nat.reduceAdd, Nat.reduceSub, Nat.reduceLT, Nat.reduceLeDiff, Nat.reduceMul, Nat.reduceEqDiff, cond_true, cond_false, if_true, if_false, reduceIte, implies_true, forall_const, ne_eq]; try simp)
  · intro i hi hI
    by_cases hlt : i < l.length
    · obtain ⟨b, hb⟩ : ∃ b, l[i]? = some b := ⟨_, List.getElem?_eq_getElem hlt⟩
      rw [drop_cons hb, fidx] at hI
      (repeat' first
 | (refine AWPC.of_vcn rfl ?_; simp only [zT, zV, zS, zU, vcC, lateX, ex, strp, cnd, binA, kseq, kblk, kret, klp, Abs.one, elems, cells, scalar, eqC, Nat.reduceBEq, Nat.reduceAdd, Nat.reduceSub, Nat.reduceLT, Nat.reduceLeDiff, Nat.reduceMul, Nat.reduceEqDiff, cond_true, cond_false, if_true, if_false, reduceIte, implies_true, forall_const, ne_eq, getD_map hb])
 | (simp (disch := omega) only [wr64, Int.zero_sub]; try simp only [zT, zV, zS, zU, vcC, lateX, ex, strp, cnd, binA, kseq, kblk, kret, klp, Abs.one, elems, cells, scalar, eqC, Nat.reduceBEq, Nat.reduceAdd, Nat.reduceSub, Nat.reduceLT, Nat.reduceLeDiff, Nat.reduceMul, Nat.reduceEqDiff, cond_true, cond_false, if_true, if_false, reduceIte, implies_true, forall_const, ne_eq, getD_map hb])
 | (refine AWPC.both (fun _ => ?_) (fun _ => ?_))
 | (refine AWPC.imp (fun _ => ?_))
 | ((refine .inl ⟨_, _, _, .any, rfl, fun h => absurd h Bool.false_ne_true, ?_⟩); refine owp_of_exs ?_; simp only [zT, zV, zS, zU, vcC, lateX, ex, strp, cnd, binA, kseq, kblk, kret, klp, Abs.one, elems, cells, scalar, eqC, Nat.reduceBEq, Nat.reduceAdd, Nat.reduceSub, Nat.reduceLT, Nat.reduceLeDiff, Nat.reduceMul, Nat.reduceEqDiff, cond_true, cond_false, if_true, if_false, reduceIte, implies_true, forall_const, ne_eq, getD_map hb])
 | (refine ⟨by omega, ?_⟩)
 | (refine And.intro (by (intros; first | (simp_all (config := { decide := false }); done) | fail)) ?_)
 | fail)
      all_goals try (exfalso; omega)
      · rename_i h
        rw [h] at hI
        rw [← hI]
        exact Frz.eq rfl (by simp)
      · rename_i h
        rw [show (v == b) = false by simpa using h] at hI
        exact ⟨⟨i + 1, hlt, hI⟩, by simp, by simp only; omega⟩
    · obtain rfl : i = l.length := by omega
      rw [List.drop_length, fidx] at hI
      (repeat' first
 | (refine AWPC.of_vcn rfl ?_; simp only [zT, zV, zS, zU, vcC, lateX, ex, strp, cnd, binA, kseq, kblk, kret, klp, Abs.one, elems, cells, scalar, eqC, Nat.reduceBEq, Nat.reduceAdd, Nat.reduceSub, Nat.reduceLT, Nat.reduceLeDiff, Nat.reduceMul, Nat.reduceEqDiff, cond_true, cond_false, if_true, if_false, reduceIte, implies_true, forall_const, ne_eq])
 | (simp (disch := omega) only [wr64, Int.zero_sub]; try simp only [zT, zV, zS, zU, vcC, lateX, ex, strp, cnd, binA, kseq, kblk, kret, klp, Abs.one, elems, cells, scalar, eqC, Nat.reduceBEq, Nat.reduceAdd, Nat.reduceSub, Nat.reduceLT, Nat.reduceLeDiff, Nat.reduceMul, Nat.reduceEqDiff, cond_true, cond_false, if_true, if_false, reduceIte, implies_true, forall_const, ne_eq])
 | (refine AWPC.both (fun _ => ?_) (fun _ => ?_))
 | (refine AWPC.imp (fun _ => ?_))
 | ((refine .inl ⟨_, _, _, .any, rfl, fun h => absurd h Bool.false_ne_true, ?_⟩); refine owp_of_exs ?_; simp only [zT, zV, zS, zU, vcC, lateX, ex, strp, cnd, binA, kseq, kblk, kret, klp, Abs.one, elems, cells, scalar, eqC, Nat.reduceBEq, Nat.reduceAdd, Nat.reduceSub, Nat.reduceLT, Nat.reduceLeDiff, Nat.reduceMul, Nat.reduceEqDiff, cond_true, cond_false, if_true, if_false, reduceIte, implies_true, forall_const, ne_eq])
 | (refine ⟨by omega, ?_⟩)
 | (refine And.intro (by (intros; first | (simp_all (config := { decide := false }); done) | fail)) ?_)
 | fail)
      all_goals try (exfalso; omega)
      rw [← hI]
      exact Frz.eq rfl (by simp)

theorem containsB_spec (l : List Bool) (v : Bool) (hl : l.length < 9223372036854775808) : Pure Try.prog 110 [blS l, bl v] (bl (l.any fun b => v == b)) := by
  refine Pure.of_body Try.call110 Try.func110 k110 (Nat.le_of_ble_eq_true rfl) ?_
  unfold c110
  have h := (fidx_any (fun b => v == b) l 0).1
  (repeat' first
 | (refine AWPC.of_vcn rfl ?_; simp only [zT, zV, zS, zU, vcC, lateX, ex, strp, cnd, binA, kseq, kblk, kret, klp, Abs.one, elems, cells, scalar, eqC, Nat.reduceBEq, Nat.reduceAdd, Nat.reduceSub, Nat.reduceLT, Nat.reduceLeDiff, Nat.reduceMul, Nat.reduceEqDiff, cond_true, cond_false, if_true, if_false, reduceIte, implies_true, forall_const, ne_eq])
 | (simp (disch := omega) only [wr64, Int.zero_sub]; try simp only [zT, zV, zS, zU, vcC, lateX, ex, strp, cnd, binA, kseq, kblk, kret, klp, Abs.one, elems, cells, scalar, eqC, Nat.reduceBEq, Nat.reduceAdd, Nat.reduceSub, Nat.reduceLT, Nat.reduceLeDiff, Nat.reduceMul, Nat.reduceEqDiff, cond_true, cond_false, if_true, if_false, reduceIte, implies_true, forall_const, ne_eq])
 | (refine AWPC.both (fun _ => ?_) (fun _ => ?_))
 | (refine AWPC.imp (fun _ => ?_))
 | ((repeat (refine And.intro (by (intros; first | omega | (simp_all (config := { decide := false }); done) | fail)) ?_)); (first
 | (refine .inl ⟨_, _, _, _, rfl, fun _hc => ⟨by simp, indexB_spec l v hl⟩, ?_⟩)
 | (refine ⟨_, _, _, _, rfl, fun _hc => ⟨by simp, indexB_spec l v hl⟩, ?_⟩)
 | fail); (first | refine owp_of_exs ?_ | refine pre_of_exd ?_ | refine pre_of_exe ?_ | fail); simp only [zT, zV, zS, zU, vcC, lateX, ex, strp, cnd, binA, kseq, kblk, kret, klp, Abs.one, elems, cells, scalar, eqC, Nat.reduceBEq, Nat.reduceAdd, Nat.reduceSub, Nat.reduceLT, Nat.reduceLeDiff, Nat.reduceMul, Nat.reduceEqDiff, cond_true, cond_false, if_true, if_false, reduceIte, implies_true, forall_const, ne_eq])
 | ((refine .inl ⟨_, _, _, .any, rfl, fun h => absurd h Bool.false_ne_true, ?_⟩); refine owp_of_exs ?_; simp only [zT, zV, zS, zU, vcC, lateX, ex, strp, cnd, binA, kseq, kblk, kret, klp, Abs.one, elems, cells, scalar, eqC, Nat.reduceBEq, Nat.reduceAdd, Nat.reduceSub, Nat.reduceLT, Nat.reduceLeDiff, Nat.reduceMul, Nat.reduceEqDiff, cond_true, cond_false, if_true, if_false, reduceIte, implies_true, forall_const, ne_eq])
 | (refine ⟨by omega, ?_⟩)
 | (refine And.intro (by (intros; first | (simp_all (config := { decide := false }); done) | fail)) ?_)
 | fail)
  refine Frz.eq (congrArg bl ?_) (by simp)
  rw [Bool.eq_iff_iff, decide_eq_true_eq, h]

theorem frz_bl {σ : Sto} {f i m : Nat} (l : List Bool) (h : σ.at f i = some ⟨4, 1, l.map (fun b => [bl b]), none⟩) (hm : m = l.length) : Frz σ (.own f i m) (blS l) := by
  subst hm
  refine Frz.own (o := ⟨4, 1, l.map (fun b => [bl b]), none⟩) (es := l.map (fun b => [bl b])) (show (1 : Nat) ≠ 0 by decide) h (by simp) (by simp) (fun e j he hj => ?_) fun e he => ?_
  · obtain ⟨x, hx⟩ : ∃ x, l[e]? = some x := ⟨_, List.getElem?_eq_getElem he⟩
    rw [getD_map hx]
    match j, hj with
    | 0, _ => exact Frz.eq rfl (by simp)
  · obtain ⟨x, hx⟩ : ∃ x, l[e]? = some x := ⟨_, List.getElem?_eq_getElem he⟩
    rw [getD_map hx]; rfl
theorem frz_blE {σ : Sto} (e : Int) : Frz σ (.tup [.v (.slice none 0 0), n e]) (.tup [blS [], n e]) := by
  refine Frz.tup rfl fun i hi => ?_
  match i, hi with
  | 0, _ => exact Frz.nil
  | 1, _ => exact Frz.eq rfl (by simp)

theorem eachB_spec (a b : List (List Sp)) (ha : Lens a) (hb : Lens b) : Pure Try.prog 109 [.agg [.fn (.func 106) [] []], ink a, ink b] (.tup [blS (if jerr a b = 0 then zipB withinC a b else []), n (jerr a b)]) := by
  refine Pure.of_body Try.call109 Try.func109 k109 (Nat.le_of_ble_eq_true rfl) ?_
  have h1 := checkInked_spec a ha
  have h2 := checkInked_spec b hb
  have ha1 := ha.1
  have hb1 := hb.1
  unfold c109
  (repeat' first
 | (refine AWPC.of_vcn rfl ?_; simp only [zT, zV, zS, zU, vcC, lateX, ex, strp, cnd, binA, kseq, kblk, kret, klp, Abs.one, elems, cells, scalar, eqC, Nat.reduceBEq, Nat.reduceAdd, Nat.reduceSub, Nat.reduceLT, Nat.reduceLeDiff, Nat.reduceMul, Nat.reduceEqDiff, cond_true, cond_false, if_true, if_false, reduceIte, implies_true, forall_const, ne_eq])
 | (simp (disch := omega) only [wr64, Int.zero_sub]; try simp only [zT, zV, zS, zU, vcC, lateX, ex, strp, cnd, binA, kseq, kblk, kret, klp, Abs.one, elems, cells, scalar, eqC, Nat.reduceBEq, Nat.reduceAdd, Nat.reduceSub, Nat.reduceLT, Nat.reduceLeDiff, Nat.reduceMul, Nat.reduceEqDiff, cond_true, cond_false, if_true, if_false, reduceIte, implies_true, forall_const, ne_eq])
 | (refine AWPC.both (fun _ => ?_) (fun _ => ?_))
 | (refine AWPC.imp (fun _ => ?_))
 | ((refine .inl ⟨_, _, _, .any, rfl, fun h => absurd h Bool.false_ne_true, ?_⟩); refine owp_of_exs ?_; simp only [zT, zV, zS, zU, vcC, lateX, ex, strp, cnd, binA, kseq, kblk, kret, klp, Abs.one, elems, cells, scalar, eqC, Nat.reduceBEq, Nat.reduceAdd, Nat.reduceSub, Nat.reduceLT, Nat.reduceLeDiff, Nat.reduceMul, Nat.reduceEqDiff, cond_true, cond_false, if_true, if_false, reduceIte, implies_true, forall_const, ne_eq])
 | (refine ⟨by omega, ?_⟩)
 | (refine And.intro (by (intros; first | (simp_all (config := { decide := false }); done) | fail)) ?_)
 | fail)
  refine AWPC.loopE (α := { p : Nat × Sto // p.1 ≤ 2 ∧ (1 ≤ p.1 → ierr a = 0) ∧ (2 ≤ p.1 → ierr b = 0) }) [17] (fun p => [(17, n p.1.1)]) (fun p => p.1.2) (fun p => 2 - p.1.1) ⟨(0, []), by simp⟩ ?_ (by simp) ?_
  · (simp only [zT, zV, zS, zU, vcC, lateX, ex, strp, cnd, binA, kseq, kblk, kret, klp, Abs.one, elems, cells, scalar, eqC, Nat.reduceBEq, Nat.reduceAdd, Nat.reduceSub, Nat.reduceLT, Nat.reduceLeDiff, Nat.reduceMul, Nat.reduceEqDiff, cond_true, cond_false, if_true, if_false, reduceIte, implies_true, forall_const, ne_eq]; try simp)
  rintro ⟨⟨i, ν⟩, hi, hi1, hi2⟩
  simp only at hi hi1 hi2
  simp only
  have hgd : ([[colS a], [colS b]] : List (List AV)).getD (Int.toNat 1) [] = [colS b] := rfl
  match i, hi with
  | 0, _ =>
    (repeat' first
 | (refine AWPC.of_vcn rfl ?_; simp only [zT, zV, zS, zU, vcC, lateX, ex, strp, cnd, binA, kseq, kblk, kret, klp, Abs.one, elems, cells, scalar, eqC, Nat.reduceBEq, Nat.reduceAdd, Nat.reduceSub, Nat.reduceLT, Nat.reduceLeDiff, Nat.reduceMul, Nat.reduceEqDiff, cond_true, cond_false, if_true, if_false, reduceIte, implies_true, forall_const, ne_eq])
 | (simp (disch := omega) only [wr64, Int.zero_sub]; try simp only [zT, zV, zS, zU, vcC, lateX, ex, strp, cnd, binA, kseq, kblk, kret, klp, Abs.one, elems, cells, scalar, eqC, Nat.reduceBEq, Nat.reduceAdd, Nat.reduceSub, Nat.reduceLT, Nat.reduceLeDiff, Nat.reduceMul, Nat.reduceEqDiff, cond_true, cond_false, if_true, if_false, reduceIte, implies_true, forall_const, ne_eq])
 | (refine AWPC.both (fun _ => ?_) (fun _ => ?_))
 | (refine AWPC.imp (fun _ => ?_))
 | ((repeat (refine And.intro (by (intros; first | omega | (simp_all (config := { decide := false }); done) | fail)) ?_)); (first
 | (refine .inl ⟨_, _, _, _, rfl, fun _hc => ⟨by simp, h1⟩, ?_⟩)
 | (refine ⟨_, _, _, _, rfl, fun _hc => ⟨by simp, h1⟩, ?_⟩)
 | fail); (first | refine owp_of_exs ?_ | refine pre_of_exd ?_ | refine pre_of_exe ?_ | fail); simp only [zT, zV, zS, zU, vcC, lateX, ex, strp, cnd, binA, kseq, kblk, kret, klp, Abs.one, elems, cells, scalar, eqC, Nat.reduceBEq, Nat.reduceAdd, Nat.reduceSub, Nat.reduceLT, Nat.reduceLeDiff, Nat.reduceMul, Nat.reduceEqDiff, cond_true, cond_false, if_true, if_false, reduceIte, implies_true, forall_const, ne_eq])
 | ((refine .inl ⟨_, _, _, .any, rfl, fun h => absurd h Bool.false_ne_true, ?_⟩); refine owp_of_exs ?_; simp only [zT, zV, zS, zU, vcC, lateX, ex, strp, cnd, binA, kseq, kblk, kret, klp, Abs.one, elems, cells, scalar, eqC, Nat.reduceBEq, Nat.reduceAdd, Nat.reduceSub, Nat.reduceLT, Nat.reduceLeDiff, Nat.reduceMul, Nat.reduceEqDiff, cond_true, cond_false, if_true, if_false, reduceIte, implies_true, forall_const, ne_eq])
 | (refine ⟨by omega, ?_⟩)
 | (refine And.intro (by (intros; first | (simp_all (config := { decide := false }); done) | fail)) ?_)
 | fail)
    all_goals try (exfalso; omega)
    · rename_i h
      have hj : jerr a b = ierr a := by unfold jerr; rw [if_pos (.inl h)]; exact (ierr1 fun g => h (ierr0.2 g)).symm
      rw [if_neg (by omega), ← hj]; exact frz_blE _
    · rename_i h
      exact ⟨⟨(1, _), by omega, fun _ => h, fun h => by omega⟩, by simp, rfl, by simp⟩
  | 1, _ =>
    (repeat' first
 | (refine AWPC.of_vcn rfl ?_; simp only [zT, zV, zS, zU, vcC, lateX, ex, strp, cnd, binA, kseq, kblk, kret, klp, Abs.one, elems, cells, scalar, eqC, Nat.reduceBEq, Nat.reduceAdd, Nat.reduceSub, Nat.reduceLT, Nat.reduceLeDiff, Nat.reduceMul, Nat.reduceEqDiff, cond_true, cond_false, if_true, if_false, reduceIte, implies_true, forall_const, ne_eq, hgd])
 | (simp (disch := omega) only [wr64, Int.zero_sub]; try simp only [zT, zV, zS, zU, vcC, lateX, ex, strp, cnd, binA, kseq, kblk, kret, klp, Abs.one, elems, cells, scalar, eqC, Nat.reduceBEq, Nat.reduceAdd, Nat.reduceSub, Nat.reduceLT, Nat.reduceLeDiff, Nat.reduceMul, Nat.reduceEqDiff, cond_true, cond_false, if_true, if_false, reduceIte, implies_true, forall_const, ne_eq, hgd])
 | (refine AWPC.both (fun _ => ?_) (fun _ => ?_))
 | (refine AWPC.imp (fun _ => ?_))
 | ((repeat (refine And.intro (by (intros; first | omega | (simp_all (config := { decide := false }); done) | fail)) ?_)); (first
 | (refine .inl ⟨_, _, _, _, rfl, fun _hc => ⟨by simp, h2⟩, ?_⟩)
 | (refine ⟨_, _, _, _, rfl, fun _hc => ⟨by simp, h2⟩, ?_⟩)
 | fail); (first | refine owp_of_exs ?_ | refine pre_of_exd ?_ | refine pre_of_exe ?_ | fail); simp only [zT, zV, zS, zU, vcC, lateX, ex, strp, cnd, binA, kseq, kblk, kret, klp, Abs.one, elems, cells, scalar, eqC, Nat.reduceBEq, Nat.reduceAdd, Nat.reduceSub, Nat.reduceLT, Nat.reduceLeDiff, Nat.reduceMul, Nat.reduceEqDiff, cond_true, cond_false, if_true, if_false, reduceIte, implies_true, forall_const, ne_eq, hgd])
 | ((refine .inl ⟨_, _, _, .any, rfl, fun h => absurd h Bool.false_ne_true, ?_⟩); refine owp_of_exs ?_; simp only [zT, zV, zS, zU, vcC, lateX, ex, strp, cnd, binA, kseq, kblk, kret, klp, Abs.one, elems, cells, scalar, eqC, Nat.reduceBEq, Nat.reduceAdd, Nat.reduceSub, Nat.reduceLT, Nat.reduceLeDiff, Nat.reduceMul, Nat.reduceEqDiff, cond_true, cond_false, if_true, if_false, reduceIte, implies_true, forall_const, ne_eq, hgd])
 | (refine ⟨by omega, ?_⟩)
 | (refine And.intro (by (intros; first | (simp_all (config := { decide := false }); done) | fail)) ?_)
 | fail)
    all_goals try (exfalso; omega)
    · rename_i h
      have hj : jerr a b = ierr b := by unfold jerr; rw [if_pos (.inr h)]; exact (ierr1 fun g => h (ierr0.2 g)).symm
      rw [if_neg (by omega), ← hj]; exact frz_blE _
    · rename_i h
      exact ⟨⟨(2, _), by omega, fun _ => hi1 (by omega), fun _ => h⟩, by simp, rfl, by simp⟩
  | 2, _ =>
    have e1 := hi1 (by omega)
    have e2 := hi2 (by omega)
    (repeat' first
 | (refine AWPC.of_vcn rfl ?_; simp only [zT, zV, zS, zU, vcC, lateX, ex, strp, cnd, binA, kseq, kblk, kret, klp, Abs.one, elems, cells, scalar, eqC, Nat.reduceBEq, Nat.reduceAdd, Nat.reduceSub, Nat.reduceLT, Nat.reduceLeDiff, Nat.reduceMul, Nat.reduceEqDiff, cond_true, cond_false, if_true, if_false, reduceIte, implies_true, forall_const, ne_eq])
 | (simp (disch := omega) only [wr64, Int.zero_sub]; try simp only [zT, zV, zS, zU, vcC, lateX, ex, strp, cnd, binA, kseq, kblk, kret, klp, Abs.one, elems, cells, scalar, eqC, Nat.reduceBEq, Nat.reduceAdd, Nat.reduceSub, Nat.reduceLT, Nat.reduceLeDiff, Nat.reduceMul, Nat.reduceEqDiff, cond_true, cond_false, if_true, if_false, reduceIte, implies_true, forall_const, ne_eq])
 | (refine AWPC.both (fun _ => ?_) (fun _ => ?_))
 | (refine AWPC.imp (fun _ => ?_))
 | ((refine .inl ⟨_, _, _, .any, rfl, fun h => absurd h Bool.false_ne_true, ?_⟩); refine owp_of_exs ?_; simp only [zT, zV, zS, zU, vcC, lateX, ex, strp, cnd, binA, kseq, kblk, kret, klp, Abs.one, elems, cells, scalar, eqC, Nat.reduceBEq, Nat.reduceAdd, Nat.reduceSub, Nat.reduceLT, Nat.reduceLeDiff, Nat.reduceMul, Nat.reduceEqDiff, cond_true, cond_false, if_true, if_false, reduceIte, implies_true, forall_const, ne_eq])
 | (refine ⟨by omega, ?_⟩)
 | (refine And.intro (by (intros; first | (simp_all (config := { decide := false }); done) | fail)) ?_)
 | fail)
    all_goals try (exfalso; omega)
    · rename_i h
      have hj : jerr a b = 1 := by unfold jerr; rw [if_neg (by omega), if_pos (by omega)]
      rw [if_neg (by omega), hj]; exact frz_blE _
    · rename_i h
      have hl : a.length = b.length := by omega
      have hj : jerr a b = 0 := by unfold jerr; rw [if_neg (by omega), if_neg (by omega)]
      obtain ⟨g1, g2, _⟩ := jerr0.1 hj
      rw [if_pos hj, hj]
      have hzl : (zipB withinC a b).length = a.length := by simp [zipB, hl]
      refine AWPC.own0 4 1 11 rfl ?_
      refine AWPC.loopE (α := { i : Nat // i ≤ a.length }) [11, 37] (fun i => [(11, .own ν.length 0 i.1), (37, n i.1)]) (fun i => ν ++ [some [⟨4, 1, ((zipB withinC a b).take i.1).map (fun l => [bl l]), none⟩]]) (fun i => a.length - i.1) ⟨0, Nat.zero_le _⟩ ?_ (by simp) ?_
      · (simp only [zT, zV, zS, zU, vcC, lateX, ex, strp, cnd, binA, kseq, kblk, kret, klp, Abs.one, elems, cells, scalar, eqC, Nat.reduceBEq, Nat.reduceAdd, Nat.reduceSub, Nat.reduceLT, Nat.reduceLeDiff, Nat.reduceMul, Nat.reduceEqDiff, cond_true, cond_false, if_true, if_false, reduceIte, implies_true, forall_const, ne_eq]; try simp)
      rintro ⟨i, hi⟩
      by_cases hlt : i < a.length
      · obtain ⟨p, hp⟩ : ∃ l, a[i]? = some l := ⟨_, List.getElem?_eq_getElem hlt⟩
        obtain ⟨q, hq⟩ : ∃ l, b[i]? = some l := ⟨_, List.getElem?_eq_getElem (by omega)⟩
        have hd := Pure.does (σ := ν ++ [some [⟨4, 1, ((zipB withinC a b).take i).map (fun l => [bl l]), none⟩]]) (within1_spec p q (g1.2 p (List.mem_of_getElem? hp)) (g2.2 q (List.mem_of_getElem? hq))) (fun c hc => by
          simp only [List.mem_cons, List.not_mem_nil, or_false] at hc
          rcases hc with rfl | rfl <;> exact pureV_spS _)
        have hz : (zipB withinC a b)[i]? = some (withinC p q) := by simp [zipB, List.getElem?_zipWith, hp, hq]
        have hzt : (zipB withinC a b).take (i + 1) = (zipB withinC a b).take i ++ [withinC p q] := by rw [List.take_add_one, hz]; rfl
        have htl : (((zipB withinC a b).take i).map (fun l => [bl l])).length = i := by simp [hzl]; omega
        have ha2 := g1.1.2
        (repeat' first
 | (refine AWPC.of_vcn rfl ?_; simp only [zT, zV, zS, zU, vcC, lateX, ex, strp, cnd, binA, kseq, kblk, kret, klp, Abs.one, elems, cells, scalar, eqC, Nat.reduceBEq, Nat.reduceAdd, Nat.reduceSub, Nat.reduceLT, Nat.reduceLeDiff, Nat.reduceMul, Nat.reduceEqDiff, cond_true, cond_false, if_true, if_false, reduceIte, implies_true, forall_const, ne_eq, getD_map hp, getD_map hq])
 | (simp (disch := omega) only [wr64, Int.zero_sub]; try simp only [zT, zV, zS, zU, vcC, lateX, ex, strp, cnd, binA, kseq, kblk, kret, klp, Abs.one, elems, cells, scalar, eqC, Nat.reduceBEq, Nat.reduceAdd, Nat.reduceSub, Nat.reduceLT, Nat.reduceLeDiff, Nat.reduceMul, Nat.reduceEqDiff, cond_true, cond_false, if_true, if_false, reduceIte, implies_true, forall_const, ne_eq, getD_map hp, getD_map hq])
 | (refine AWPC.both (fun _ => ?_) (fun _ => ?_))
 | (refine AWPC.imp (fun _ => ?_))
 | ((refine .inl ⟨_, _, _, .any, rfl, fun h => absurd h Bool.false_ne_true, ?_⟩); refine owp_of_exs ?_; simp only [zT, zV, zS, zU, vcC, lateX, ex, strp, cnd, binA, kseq, kblk, kret, klp, Abs.one, elems, cells, scalar, eqC, Nat.reduceBEq, Nat.reduceAdd, Nat.reduceSub, Nat.reduceLT, Nat.reduceLeDiff, Nat.reduceMul, Nat.reduceEqDiff, cond_true, cond_false, if_true, if_false, reduceIte, implies_true, forall_const, ne_eq, getD_map hp, getD_map hq])
 | (refine ⟨by omega, ?_⟩)
 | (refine And.intro (by (intros; first | (simp_all (config := { decide := false }); done) | fail)) ?_)
 | fail)
        all_goals try (exfalso; omega)
        refine ⟨.inr (.inl ⟨_, _, _, _, rfl, fun _ => ⟨hd, ?_⟩, fun h => by cases h⟩), .inr ⟨_, _, _, _, rfl, hd, ?_⟩⟩
        · rintro res σ' ⟨rfl, rfl⟩
          refine owp_of_exs ?_
          simp only [zT, zV, zS, zU, vcC, lateX, ex, strp, cnd, binA, kseq, kblk, kret, klp, Abs.one, elems, cells, scalar, eqC, Nat.reduceBEq, Nat.reduceAdd, Nat.reduceSub, Nat.reduceLT, Nat.reduceLeDiff, Nat.reduceMul, Nat.reduceEqDiff, cond_true, cond_false, if_true, if_false, reduceIte, implies_true, forall_const, ne_eq, htl]
          refine ⟨by omega, ?_⟩
          (repeat' first
 | (refine AWPC.of_vcn rfl ?_; simp only [zT, zV, zS, zU, vcC, lateX, ex, strp, cnd, binA, kseq, kblk, kret, klp, Abs.one, elems, cells, scalar, eqC, Nat.reduceBEq, Nat.reduceAdd, Nat.reduceSub, Nat.reduceLT, Nat.reduceLeDiff, Nat.reduceMul, Nat.reduceEqDiff, cond_true, cond_false, if_true, if_false, reduceIte, implies_true, forall_const, ne_eq])
 | (simp (disch := omega) only [wr64, Int.zero_sub]; try simp only [zT, zV, zS, zU, vcC, lateX, ex, strp, cnd, binA, kseq, kblk, kret, klp, Abs.one, elems, cells, scalar, eqC, Nat.reduceBEq, Nat.reduceAdd, Nat.reduceSub, Nat.reduceLT, Nat.reduceLeDiff, Nat.reduceMul, Nat.reduceEqDiff, cond_true, cond_false, if_true, if_false, reduceIte, implies_true, forall_const, ne_eq])
 | (refine AWPC.both (fun _ => ?_) (fun _ => ?_))
 | (refine AWPC.imp (fun _ => ?_))
 | ((refine .inl ⟨_, _, _, .any, rfl, fun h => absurd h Bool.false_ne_true, ?_⟩); refine owp_of_exs ?_; simp only [zT, zV, zS, zU, vcC, lateX, ex, strp, cnd, binA, kseq, kblk, kret, klp, Abs.one, elems, cells, scalar, eqC, Nat.reduceBEq, Nat.reduceAdd, Nat.reduceSub, Nat.reduceLT, Nat.reduceLeDiff, Nat.reduceMul, Nat.reduceEqDiff, cond_true, cond_false, if_true, if_false, reduceIte, implies_true, forall_const, ne_eq])
 | (refine ⟨by omega, ?_⟩)
 | (refine And.intro (by (intros; first | (simp_all (config := { decide := false }); done) | fail)) ?_)
 | fail)
          exact ⟨⟨i + 1, hlt⟩, ⟨rfl, by simp⟩, by simp only; rw [hzt]; simp, by simp only; omega⟩
        · rintro res σ' ⟨rfl, rfl⟩
          refine ⟨owp_of_exs ?_, owp_of_exs ?_⟩
          all_goals
            simp only [zT, zV, zS, zU, vcC, lateX, ex, strp, cnd, binA, kseq, kblk, kret, klp, Abs.one, elems, cells, scalar, eqC, Nat.reduceBEq, Nat.reduceAdd, Nat.reduceSub, Nat.reduceLT, Nat.reduceLeDiff, Nat.reduceMul, Nat.reduceEqDiff, cond_true, cond_false, if_true, if_false, reduceIte, implies_true, forall_const, ne_eq, htl]
            refine ⟨by omega, ?_⟩
            (repeat' first
 | (refine AWPC.of_vcn rfl ?_; simp only [zT, zV, zS, zU, vcC, lateX, ex, strp, cnd, binA, kseq, kblk, kret, klp, Abs.one, elems, cells, scalar, eqC, Nat.reduceBEq, Nat.reduceAdd, Nat.reduceSub, Nat.reduceLT, Nat.reduceLeDiff, Nat.reduceMul, Nat.reduceEqDiff, cond_true, cond_false, if_true, if_false, reduceIte, implies_true, forall_const, ne_eq])
 | (simp (disch := omega) only [wr64, Int.zero_sub]; try simp only [zT, zV, zS, zU, vcC, lateX, ex, strp, cnd, binA, kseq, kblk, kret, klp, Abs.one, elems, cells, scalar, eqC, Nat.reduceBEq, Nat.reduceAdd, Nat.reduceSub, Nat.reduceLT, Nat.reduceLeDiff, Nat.reduceMul, Nat.reduceEqDiff, cond_true, cond_false, if_true, if_false, reduceIte, implies_true, forall_const, ne_eq])
 | (refine AWPC.both (fun _ => ?_) (fun _ => ?_))
 | (refine AWPC.imp (fun _ => ?_))
 | ((refine .inl ⟨_, _, _, .any, rfl, fun h => absurd h Bool.false_ne_true, ?_⟩); refine owp_of_exs ?_; simp only [zT, zV, zS, zU, vcC, lateX, ex, strp, cnd, binA, kseq, kblk, kret, klp, Abs.one, elems, cells, scalar, eqC, Nat.reduceBEq, Nat.reduceAdd, Nat.reduceSub, Nat.reduceLT, Nat.reduceLeDiff, Nat.reduceMul, Nat.reduceEqDiff, cond_true, cond_false, if_true, if_false, reduceIte, implies_true, forall_const, ne_eq])
 | (refine ⟨by omega, ?_⟩)
 | (refine And.intro (by (intros; first | (simp_all (config := { decide := false }); done) | fail)) ?_)
 | fail)
            exact ⟨⟨i + 1, hlt⟩, ⟨rfl, by simp⟩, by simp only; rw [hzt]; simp, by simp only; omega⟩
      · obtain rfl : i = a.length := by omega
        (repeat' first
 | (refine AWPC.of_vcn rfl ?_; simp only [zT, zV, zS, zU, vcC, lateX, ex, strp, cnd, binA, kseq, kblk, kret, klp, Abs.one, elems, cells, scalar, eqC, Nat.reduceBEq, Nat.reduceAdd, Nat.reduceSub, Nat.reduceLT, Nat.reduceLeDiff, Nat.reduceMul, Nat.reduceEqDiff, cond_true, cond_false, if_true, if_false, reduceIte, implies_true, forall_const, ne_eq])
 | (simp (disch := omega) only [wr64, Int.zero_sub]; try simp only [zT, zV, zS, zU, vcC, lateX, ex, strp, cnd, binA, kseq, kblk, kret, klp, Abs.one, elems, cells, scalar, eqC, Nat.reduceBEq, Nat.reduceAdd, Nat.reduceSub, Nat.reduceLT, Nat.reduceLeDiff, Nat.reduceMul, Nat.reduceEqDiff, cond_true, cond_false, if_true, if_false, reduceIte, implies_true, forall_const, ne_eq])
 | (refine AWPC.both (fun _ => ?_) (fun _ => ?_))
 | (refine AWPC.imp (fun _ => ?_))
 | ((refine .inl ⟨_, _, _, .any, rfl, fun h => absurd h Bool.false_ne_true, ?_⟩); refine owp_of_exs ?_; simp only [zT, zV, zS, zU, vcC, lateX, ex, strp, cnd, binA, kseq, kblk, kret, klp, Abs.one, elems, cells, scalar, eqC, Nat.reduceBEq, Nat.reduceAdd, Nat.reduceSub, Nat.reduceLT, Nat.reduceLeDiff, Nat.reduceMul, Nat.reduceEqDiff, cond_true, cond_false, if_true, if_false, reduceIte, implies_true, forall_const, ne_eq])
 | (refine ⟨by omega, ?_⟩)
 | (refine And.intro (by (intros; first | (simp_all (config := { decide := false }); done) | fail)) ?_)
 | fail)
        all_goals try (exfalso; omega)
        rw [List.take_of_length_le (by omega)]
        refine Frz.tup rfl fun i hi => ?_
        match i, hi with
        | 0, _ => exact frz_bl (zipB withinC a b) (by rw [at_app0]; rfl) hzl.symm
        | 1, _ => exact Frz.eq rfl (by simp)

theorem Within_spec (a b : List (List Sp)) (ha : Lens a) (hb : Lens b) : Pure Try.prog 61 [ink a, ink b] (.tup [bl (withinE a b).1, n (withinE a b).2]) := by
  refine Pure.of_body Try.call61 Try.func61 k61 (Nat.le_of_ble_eq_true rfl) ?_
  have he := eachB_spec a b ha hb
  have ha1 := ha.1
  have hlen : (if jerr a b = 0 then zipB withinC a b else []).length < 9223372036854775808 := by
    by_cases hj : jerr a b = 0
    · rw [if_pos hj]; simp [zipB]; omega
    · rw [if_neg hj]; simp
  have hc := containsB_spec _ false hlen
  unfold c61 withinE
  (repeat' first
 | (refine AWPC.of_vcn rfl ?_; simp only [zT, zV, zS, zU, vcC, lateX, ex, strp, cnd, binA, kseq, kblk, kret, klp, Abs.one, elems, cells, scalar, eqC, Nat.reduceBEq, Nat.reduceAdd, Nat.reduceSub, Nat.reduceLT, Nat.reduceLeDiff, Nat.reduceMul, Nat.reduceEqDiff, cond_true, cond_false, if_true, if_false, reduceIte, implies_true, forall_const, ne_eq])
 | (simp (disch := omega) only [wr64, Int.zero_sub]; try simp only [zT, zV, zS, zU, vcC, lateX, ex, strp, cnd, binA, kseq, kblk, kret, klp, Abs.one, elems, cells, scalar, eqC, Nat.reduceBEq, Nat.reduceAdd, Nat.reduceSub, Nat.reduceLT, Nat.reduceLeDiff, Nat.reduceMul, Nat.reduceEqDiff, cond_true, cond_false, if_true, if_false, reduceIte, implies_true, forall_const, ne_eq])
 | (refine AWPC.both (fun _ => ?_) (fun _ => ?_))
 | (refine AWPC.imp (fun _ => ?_))
 | ((repeat (refine And.intro (by (intros; first | omega | (simp_all (config := { decide := false }); done) | fail)) ?_)); (first
 | (refine .inl ⟨_, _, _, _, rfl, fun _hc => ⟨by simp, he⟩, ?_⟩)
 | (refine .inl ⟨_, _, _, _, rfl, fun _hc => ⟨by simp, hc⟩, ?_⟩)
 | (refine ⟨_, _, _, _, rfl, fun _hc => ⟨by simp, he⟩, ?_⟩)
 | (refine ⟨_, _, _, _, rfl, fun _hc => ⟨by simp, hc⟩, ?_⟩)
 | fail); (first | refine owp_of_exs ?_ | refine pre_of_exd ?_ | refine pre_of_exe ?_ | fail); simp only [zT, zV, zS, zU, vcC, lateX, ex, strp, cnd, binA, kseq, kblk, kret, klp, Abs.one, elems, cells, scalar, eqC, Nat.reduceBEq, Nat.reduceAdd, Nat.reduceSub, Nat.reduceLT, Nat.reduceLeDiff, Nat.reduceMul, Nat.reduceEqDiff, cond_true, cond_false, if_true, if_false, reduceIte, implies_true, forall_const, ne_eq])
 | ((refine .inl ⟨_, _, _, .any, rfl, fun h => absurd h Bool.false_ne_true, ?_⟩); refine owp_of_exs ?_; simp only [zT, zV, zS, zU, vcC, lateX, ex, strp, cnd, binA, kseq, kblk, kret, klp, Abs.one, elems, cells, scalar, eqC, Nat.reduceBEq, Nat.reduceAdd, Nat.reduceSub, Nat.reduceLT, Nat.reduceLeDiff, Nat.reduceMul, Nat.reduceEqDiff, cond_true, cond_false, if_true, if_false, reduceIte, implies_true, forall_const, ne_eq])
 | (refine ⟨by omega, ?_⟩)
 | (refine And.intro (by (intros; first | (simp_all (config := { decide := false }); done) | fail)) ?_)
 | fail)
  refine Frz.eq ?_ (by simp)
  by_cases hj : jerr a b = 0
  · have e : ((zipB withinC a b).any fun b => false == b) = !(zipB withinC a b).all id := by
      rw [Bool.eq_iff_iff]; simp
    simp only [hj, if_true, e]
    simp
  · simp [hj]

theorem rWithin_spec (a b : List (List Sp)) (ha : Lens a) (hb : Lens b) : Pure Try.prog 66 [ink a, ink b] (.tup [bl (withinE a b).1, n (withinE a b).2]) := by
  refine Pure.of_body Try.call66 Try.func66 k66 (Nat.le_of_ble_eq_true rfl) ?_
  have hk := alike_spec a b ha hb
  unfold c66
  by_cases hj : jerr a b = 0
  · have al := al_iff.1 hj
    rw [hj] at hk
    have hal := al.l
    have ha2 := al.a.1.2
    (repeat' first
 | (refine AWPC.of_vcn rfl ?_; simp only [zT, zV, zS, zU, vcC, lateX, ex, strp, cnd, binA, kseq, kblk, kret, klp, Abs.one, elems, cells, scalar, eqC, Nat.reduceBEq, Nat.reduceAdd, Nat.reduceSub, Nat.reduceLT, Nat.reduceLeDiff, Nat.reduceMul, Nat.reduceEqDiff, cond_true, cond_false, if_true, if_false, reduceIte, implies_true, forall_const, ne_eq])
 | (simp (disch := omega) only [wr64, Int.zero_sub]; try simp only [zT, zV, zS, zU, vcC, lateX, ex, strp, cnd, binA, kseq, kblk, kret, klp, Abs.one, elems, cells, scalar, eqC, Nat.reduceBEq, Nat.reduceAdd, Nat.reduceSub, Nat.reduceLT, Nat.reduceLeDiff, Nat.reduceMul, Nat.reduceEqDiff, cond_true, cond_false, if_true, if_false, reduceIte, implies_true, forall_const, ne_eq])
 | (refine AWPC.both (fun _ => ?_) (fun _ => ?_))
 | (refine AWPC.imp (fun _ => ?_))
 | ((repeat (refine And.intro (by (intros; first | omega | (simp_all (config := { decide := false }); done) | fail)) ?_)); (first
 | (refine .inl ⟨_, _, _, _, rfl, fun _hc => ⟨by simp, hk⟩, ?_⟩)
 | (refine ⟨_, _, _, _, rfl, fun _hc => ⟨by simp, hk⟩, ?_⟩)
 | fail); (first | refine owp_of_exs ?_ | refine pre_of_exd ?_ | refine pre_of_exe ?_ | fail); simp only [zT, zV, zS, zU, vcC, lateX, ex, strp, cnd, binA, kseq, kblk, kret, klp, Abs.one, elems, cells, scalar, eqC, Nat.reduceBEq, Nat.reduceAdd, Nat.reduceSub, Nat.reduceLT, Nat.reduceLeDiff, Nat.reduceMul, Nat.reduceEqDiff, cond_true, cond_false, if_true, if_false, reduceIte, implies_true, forall_const, ne_eq])
 | ((refine .inl ⟨_, _, _, .any, rfl, fun h => absurd h Bool.false_ne_true, ?_⟩); refine owp_of_exs ?_; simp only [zT, zV, zS, zU, vcC, lateX, ex, strp, cnd, binA, kseq, kblk, kret, klp, Abs.one, elems, cells, scalar, eqC, Nat.reduceBEq, Nat.reduceAdd, Nat.reduceSub, Nat.reduceLT, Nat.reduceLeDiff, Nat.reduceMul, Nat.reduceEqDiff, cond_true, cond_false, if_true, if_false, reduceIte, implies_true, forall_const, ne_eq])
 | (refine ⟨by omega, ?_⟩)
 | (refine And.intro (by (intros; first | (simp_all (config := { decide := false }); done) | fail)) ?_)
 | fail)
    refine AWPC.loopI 7 a.length (fun i => ∀ k p q, k < i → a[k]? = some p → b[k]? = some q → withinC p q = true) (fun k p q hk => by omega) ?_ ?_
    · (simp only [zT, zV, zS, zU, vcC, lateX, ex, strp, cnd, binA, kseq, kblk, kret, klp, Abs.one, elems, cells, scalar, eqC, Nat.reduceBEq, Nat.reduceAdd, Nat.reduceSub, Nat.reduceLT, Nat.reduceLeDiff, Nat.reduceMul, Nat.reduceEqDiff, cond_true, cond_false, if_true, if_false, reduceIte, implies_true, forall_const, ne_eq]; try simp)
    · intro i hi hI
      by_cases hlt : i < a.length
      · obtain ⟨p, hp⟩ : ∃ l, a[i]? = some l := ⟨_, List.getElem?_eq_getElem hlt⟩
        obtain ⟨q, hq⟩ : ∃ l, b[i]? = some l := ⟨_, List.getElem?_eq_getElem (by omega)⟩
        have gp := al.a.2 p (List.mem_of_getElem? hp)
        have gq := al.b.2 q (List.mem_of_getElem? hq)
        have hm := rmeet_spec p q gp.bd (by have := gp.2.2; omega) (by have := gq.2.2; omega)
        have hml := meet_len gp gq
        have gp8 := gp.2.2
        have gq8 := gq.2.2
        have hs := sameSpans_spec (meet p q) p (by omega) (by omega)
        have hst : ¬ (0 < q.length ∧ (p.length = 0 ∨ meet p q ≠ p)) → withinC p q = true := by
          intro h
          rw [withinC, Bool.or_eq_true, Bool.and_eq_true, decide_eq_true_eq, decide_eq_true_eq, decide_eq_true_eq]
          by_cases hq0 : q.length = 0
          · exact .inl hq0
          · have h' : ¬ (p.length = 0 ∨ meet p q ≠ p) := fun g => h ⟨by omega, g⟩
            exact .inr ⟨by have := fun g => h' (.inl g); omega, Classical.byContradiction fun g => h' (.inr g)⟩
        have hsf : withinC p q = true → ¬ (0 < q.length ∧ (p.length = 0 ∨ meet p q ≠ p)) := by
          intro h
          rw [withinC, Bool.or_eq_true, Bool.and_eq_true, decide_eq_true_eq, decide_eq_true_eq, decide_eq_true_eq] at h
          rintro ⟨h1, h2⟩
          rcases h with h | ⟨h3, h4⟩
          · omega
          · rcases h2 with h2 | h2
            · omega
            · exact h2 h4
        (repeat' first
 | (refine AWPC.of_vcn rfl ?_; simp only [zT, zV, zS, zU, vcC, lateX, ex, strp, cnd, binA, kseq, kblk, kret, klp, Abs.one, elems, cells, scalar, eqC, Nat.reduceBEq, Nat.reduceAdd, Nat.reduceSub, Nat.reduceLT, Nat.reduceLeDiff, Nat.reduceMul, Nat.reduceEqDiff, cond_true, cond_false, if_true, if_false, reduceIte, implies_true, forall_const, ne_eq, getD_map hp, getD_map hq])
 | (simp (disch := omega) only [wr64, Int.zero_sub]; try simp only [zT, zV, zS, zU, vcC, lateX, ex, strp, cnd, binA, kseq, kblk, kret, klp, Abs.one, elems, cells, scalar, eqC, Nat.reduceBEq, Nat.reduceAdd, Nat.reduceSub, Nat.reduceLT, Nat.reduceLeDiff, Nat.reduceMul, Nat.reduceEqDiff, cond_true, cond_false, if_true, if_false, reduceIte, implies_true, forall_const, ne_eq, getD_map hp, getD_map hq])
 | (refine AWPC.both (fun _ => ?_) (fun _ => ?_))
 | (refine AWPC.imp (fun _ => ?_))
 | ((repeat (refine And.intro (by (intros; first | omega | (simp_all (config := { decide := false }); done) | fail)) ?_)); (first
 | (refine .inl ⟨_, _, _, _, rfl, fun _hc => ⟨by simp, hm⟩, ?_⟩)
 | (refine .inl ⟨_, _, _, _, rfl, fun _hc => ⟨by simp, hs⟩, ?_⟩)
 | (refine ⟨_, _, _, _, rfl, fun _hc => ⟨by simp, hm⟩, ?_⟩)
 | (refine ⟨_, _, _, _, rfl, fun _hc => ⟨by simp, hs⟩, ?_⟩)
 | fail); (first | refine owp_of_exs ?_ | refine pre_of_exd ?_ | refine pre_of_exe ?_ | fail); simp only [zT, zV, zS, zU, vcC, lateX, ex, strp, cnd, binA, kseq, kblk, kret, klp, Abs.one, elems, cells, scalar, eqC, Nat.reduceBEq, Nat.reduceAdd, Nat.reduceSub, Nat.reduceLT, Nat.reduceLeDiff, Nat.reduceMul, Nat.reduceEqDiff, cond_true, cond_false, if_true, if_false, reduceIte, implies_true, forall_const, ne_eq, getD_map hp, getD_map hq])
 | ((refine .inl ⟨_, _, _, .any, rfl, fun h => absurd h Bool.false_ne_true, ?_⟩); refine owp_of_exs ?_; simp only [zT, zV, zS, zU, vcC, lateX, ex, strp, cnd, binA, kseq, kblk, kret, klp, Abs.one, elems, cells, scalar, eqC, Nat.reduceBEq, Nat.reduceAdd, Nat.reduceSub, Nat.reduceLT, Nat.reduceLeDiff, Nat.reduceMul, Nat.reduceEqDiff, cond_true, cond_false, if_true, if_false, reduceIte, implies_true, forall_const, ne_eq, getD_map hp, getD_map hq])
 | (refine ⟨by omega, ?_⟩)
 | (refine And.intro (by (intros; first | (simp_all (config := { decide := false }); done) | fail)) ?_)
 | fail)
        all_goals try (exfalso; omega)
        · rename_i h
          have hw : (withinE a b).1 = false := by
            rw [Bool.eq_false_iff]
            exact fun g => hsf ((withinE_fst al).1 g i p q hp hq) ⟨by omega, h.2.imp (fun h => by omega) id⟩
          rw [hw, withinE_ok.2 al]
          exact Frz.eq rfl (by simp)
        · rename_i h
          refine ⟨⟨i + 1, hlt, fun k p' q' hk hp' hq' => ?_⟩, by simp, by simp only; omega⟩
          rcases Nat.lt_or_ge k i with hki | hki
          · exact hI k p' q' hki hp' hq'
          · obtain rfl : k = i := by omega
            obtain rfl := some_inj hp hp'
            obtain rfl := some_inj hq hq'
            exact hst fun g => h ⟨by omega, g.2.imp (fun h => by omega) id⟩
      · obtain rfl : i = a.length := by omega
        (repeat' first
 | (refine AWPC.of_vcn rfl ?_; simp only [zT, zV, zS, zU, vcC, lateX, ex, strp, cnd, binA, kseq, kblk, kret, klp, Abs.one, elems, cells, scalar, eqC, Nat.reduceBEq, Nat.reduceAdd, Nat.reduceSub, Nat.reduceLT, Nat.reduceLeDiff, Nat.reduceMul, Nat.reduceEqDiff, cond_true, cond_false, if_true, if_false, reduceIte, implies_true, forall_const, ne_eq])
 | (simp (disch := omega) only [wr64, Int.zero_sub]; try simp only [zT, zV, zS, zU, vcC, lateX, ex, strp, cnd, binA, kseq, kblk, kret, klp, Abs.one, elems, cells, scalar, eqC, Nat.reduceBEq, Nat.reduceAdd, Nat.reduceSub, Nat.reduceLT, Nat.reduceLeDiff, Nat.reduceMul, Nat.reduceEqDiff, cond_true, cond_false, if_true, if_false, reduceIte, implies_true, forall_const, ne_eq])
 | (refine AWPC.both (fun _ => ?_) (fun _ => ?_))
 | (refine AWPC.imp (fun _ => ?_))
 | ((refine .inl ⟨_, _, _, .any, rfl, fun h => absurd h Bool.false_ne_true, ?_⟩); refine owp_of_exs ?_; simp only [zT, zV, zS, zU, vcC, lateX, ex, strp, cnd, binA, kseq, kblk, kret, klp, Abs.one, elems, cells, scalar, eqC, Nat.reduceBEq, Nat.reduceAdd, Nat.reduceSub, Nat.reduceLT, Nat.reduceLeDiff, Nat.reduceMul, Nat.reduceEqDiff, cond_true, cond_false, if_true, if_false, reduceIte, implies_true, forall_const, ne_eq])
 | (refine ⟨by omega, ?_⟩)
 | (refine And.intro (by (intros; first | (simp_all (config := { decide := false }); done) | fail)) ?_)
 | fail)
        all_goals try (exfalso; omega)
        have hw : (withinE a b).1 = true := (withinE_fst al).2 fun i p q hp hq => hI i p q (List.getElem?_eq_some_iff.1 hp).1 hp hq
        rw [hw, withinE_ok.2 al]
        exact Frz.eq rfl (by simp)
  · unfold withinE
    (repeat' first
 | (refine AWPC.of_vcn rfl ?_; simp only [zT, zV, zS, zU, vcC, lateX, ex, strp, cnd, binA, kseq, kblk, kret, klp, Abs.one, elems, cells, scalar, eqC, Nat.reduceBEq, Nat.reduceAdd, Nat.reduceSub, Nat.reduceLT, Nat.reduceLeDiff, Nat.reduceMul, Nat.reduceEqDiff, cond_true, cond_false, if_true, if_false, reduceIte, implies_true, forall_const, ne_eq])
 | (simp (disch := omega) only [wr64, Int.zero_sub]; try simp only [zT, zV, zS, zU, vcC, lateX, ex, strp, cnd, binA, kseq, kblk, kret, klp, Abs.one, elems, cells, scalar, eqC, Nat.reduceBEq, Nat.reduceAdd, Nat.reduceSub, Nat.reduceLT, Nat.reduceLeDiff, Nat.reduceMul, Nat.reduceEqDiff, cond_true, cond_false, if_true, if_false, reduceIte, implies_true, forall_const, ne_eq])
 | (refine AWPC.both (fun _ => ?_) (fun _ => ?_))
 | (refine AWPC.imp (fun _ => ?_))
 | ((repeat (refine And.intro (by (intros; first | omega | (simp_all (config := { decide := false }); done) | fail)) ?_)); (first
 | (refine .inl ⟨_, _, _, _, rfl, fun _hc => ⟨by simp, hk⟩, ?_⟩)
 | (refine ⟨_, _, _, _, rfl, fun _hc => ⟨by simp, hk⟩, ?_⟩)
 | fail); (first | refine owp_of_exs ?_ | refine pre_of_exd ?_ | refine pre_of_exe ?_ | fail); simp only [zT, zV, zS, zU, vcC, lateX, ex, strp, cnd, binA, kseq, kblk, kret, klp, Abs.one, elems, cells, scalar, eqC, Nat.reduceBEq, Nat.reduceAdd, Nat.reduceSub, Nat.reduceLT, Nat.reduceLeDiff, Nat.reduceMul, Nat.reduceEqDiff, cond_true, cond_false, if_true, if_false, reduceIte, implies_true, forall_const, ne_eq])
 | ((refine .inl ⟨_, _, _, .any, rfl, fun h => absurd h Bool.false_ne_true, ?_⟩); refine owp_of_exs ?_; simp only [zT, zV, zS, zU, vcC, lateX, ex, strp, cnd, binA, kseq, kblk, kret, klp, Abs.one, elems, cells, scalar, eqC, Nat.reduceBEq, Nat.reduceAdd, Nat.reduceSub, Nat.reduceLT, Nat.reduceLeDiff, Nat.reduceMul, Nat.reduceEqDiff, cond_true, cond_false, if_true, if_false, reduceIte, implies_true, forall_const, ne_eq])
 | (refine ⟨by omega, ?_⟩)
 | (refine And.intro (by (intros; first | (simp_all (config := { decide := false }); done) | fail)) ?_)
 | fail)
    all_goals try contradiction
    simp only [hj, decide_false, Bool.false_and]
    exact Frz.eq rfl (by simp)

/-- A cell of either sheet, as it is put. -/
def eCell (p q : List Sp) : AV := if p.length = 0 ∨ q.length = 0 then .v (.slice none 0 0) else spS (joins p q)
theorem lens_either {a b : List (List Sp)} (al : Al a b) : Lens (zipC eitherC a b) := by
  refine lens_zip al.a al.b fun p q hp hq => ?_
  by_cases h : p.length = 0 ∨ q.length = 0
  · rw [show eitherC p q = [] from if_pos h]; simp
  · rw [show eitherC p q = joins p q from if_neg h]
    have h2 : (joins p q).length ≤ p.length + q.length := (joins_ok hq.bd (m := p.length) ⟨hp.1, hp.bd, Nat.le_refl _⟩).len
    have := hp.2.2; have := hq.2.2; omega

theorem rEither_spec (a b : List (List Sp)) (ha : Lens a) (hb : Lens b) : Pure Try.prog 65 [ink a, ink b] (.tup [ink (eitherE a b).1, n (eitherE a b).2]) := by
  refine Pure.of_body Try.call65 Try.func65 k65 (Nat.le_of_ble_eq_true rfl) ?_
  have hk := alike_spec a b ha hb
  unfold c65 eitherE
  by_cases hj : jerr a b = 0
  · have al := al_iff.1 hj
    rw [hj] at hk
    rw [if_pos hj]
    have hal := al.l
    have hz := zip_len (F := eitherC) al.l
    have ha2 := al.a.1.2
    (repeat' first
 | (refine AWPC.of_vcn rfl ?_; simp only [zT, zV, zS, zU, vcC, lateX, ex, strp, cnd, binA, kseq, kblk, kret, klp, Abs.one, elems, cells, scalar, eqC, Nat.reduceBEq, Nat.reduceAdd, Nat.reduceSub, Nat.reduceLT, Nat.reduceLeDiff, Nat.reduceMul, Nat.reduceEqDiff, cond_true, cond_false, if_true, if_false, reduceIte, implies_true, forall_const, ne_eq])
 | (simp (disch := omega) only [wr64, Int.zero_sub]; try simp only [zT, zV, zS, zU, vcC, lateX, ex, strp, cnd, binA, kseq, kblk, kret, klp, Abs.one, elems, cells, scalar, eqC, Nat.reduceBEq, Nat.reduceAdd, Nat.reduceSub, Nat.reduceLT, Nat.reduceLeDiff, Nat.reduceMul, Nat.reduceEqDiff, cond_true, cond_false, if_true, if_false, reduceIte, implies_true, forall_const, ne_eq])
 | (refine AWPC.both (fun _ => ?_) (fun _ => ?_))
 | (refine AWPC.imp (fun _ => ?_))
 | ((repeat (refine And.intro (by (intros; first | omega | (simp_all (config := { decide := false }); done) | fail)) ?_)); (first
 | (refine .inl ⟨_, _, _, _, rfl, fun _hc => ⟨by simp, hk⟩, ?_⟩)
 | (refine ⟨_, _, _, _, rfl, fun _hc => ⟨by simp, hk⟩, ?_⟩)
 | fail); (first | refine owp_of_exs ?_ | refine pre_of_exd ?_ | refine pre_of_exe ?_ | fail); simp only [zT, zV, zS, zU, vcC, lateX, ex, strp, cnd, binA, kseq, kblk, kret, klp, Abs.one, elems, cells, scalar, eqC, Nat.reduceBEq, Nat.reduceAdd, Nat.reduceSub, Nat.reduceLT, Nat.reduceLeDiff, Nat.reduceMul, Nat.reduceEqDiff, cond_true, cond_false, if_true, if_false, reduceIte, implies_true, forall_const, ne_eq])
 | ((refine .inl ⟨_, _, _, .any, rfl, fun h => absurd h Bool.false_ne_true, ?_⟩); refine owp_of_exs ?_; simp only [zT, zV, zS, zU, vcC, lateX, ex, strp, cnd, binA, kseq, kblk, kret, klp, Abs.one, elems, cells, scalar, eqC, Nat.reduceBEq, Nat.reduceAdd, Nat.reduceSub, Nat.reduceLT, Nat.reduceLeDiff, Nat.reduceMul, Nat.reduceEqDiff, cond_true, cond_false, if_true, if_false, reduceIte, implies_true, forall_const, ne_eq])
 | (refine ⟨by omega, ?_⟩)
 | (refine And.intro (by (intros; first | (simp_all (config := { decide := false }); done) | fail)) ?_)
 | fail)
    have hel : (List.zipWith eCell a b).length = a.length := by simp [hal]
    refine AWPC.own0 34 1 7 rfl ?_
    simp only [zS, zU, vcC, lateX, ex, strp, cnd, binA, kseq, kblk, kret, klp, Abs.one, elems, cells, scalar, eqC, Nat.reduceBEq, Nat.reduceAdd, Nat.reduceSub, Nat.reduceLT, Nat.reduceLeDiff, Nat.reduceMul, Nat.reduceEqDiff, cond_true, cond_false, if_true, if_false, reduceIte, implies_true, forall_const, ne_eq]
    refine AWPC.loopE (α := { i : Nat // i ≤ a.length }) [7, 8] (fun i => [(7, .own 1 0 i.1), (8, n i.1)])
      (fun i => [some [⟨56, 1, [[.v (.slice none 0 0)]], none⟩], some [⟨34, 1, ((List.zipWith eCell a b).take i.1).map (fun l => [l]), none⟩]]) (fun i => a.length - i.1) ⟨0, Nat.zero_le _⟩ ?_ rfl ?_
    · (simp only [zT, zV, zS, zU, vcC, lateX, ex, strp, cnd, binA, kseq, kblk, kret, klp, Abs.one, elems, cells, scalar, eqC, Nat.reduceBEq, Nat.reduceAdd, Nat.reduceSub, Nat.reduceLT, Nat.reduceLeDiff, Nat.reduceMul, Nat.reduceEqDiff, cond_true, cond_false, if_true, if_false, reduceIte, implies_true, forall_const, ne_eq]; try simp)
    rintro ⟨i, hi⟩
    by_cases hlt : i < a.length
    · obtain ⟨p, hp⟩ : ∃ l, a[i]? = some l := ⟨_, List.getElem?_eq_getElem hlt⟩
      obtain ⟨q, hq⟩ : ∃ l, b[i]? = some l := ⟨_, List.getElem?_eq_getElem (by omega)⟩
      have gp := al.a.2 p (List.mem_of_getElem? hp)
      have gq := al.b.2 q (List.mem_of_getElem? hq)
      have hm := runion_spec p q gp.oks gq.bd (by have := gq.2.2; omega)
      have hzi : (List.zipWith eCell a b)[i]? = some (eCell p q) := by simp [List.getElem?_zipWith, hp, hq]
      have hzt : (List.zipWith eCell a b).take (i + 1) = (List.zipWith eCell a b).take i ++ [eCell p q] := by rw [List.take_add_one, hzi]; rfl
      have htl : (((List.zipWith eCell a b).take i).map (fun l => [l])).length = i := by rw [List.length_map, List.length_take, hel]; omega
      have gp8 := gp.2.2
      have gq8 := gq.2.2
      (repeat' first
 | (refine AWPC.of_vcn rfl ?_; simp only [zT, zV, zS, zU, vcC, lateX, ex, strp, cnd, binA, kseq, kblk, kret, klp, Abs.one, elems, cells, scalar, eqC, Nat.reduceBEq, Nat.reduceAdd, Nat.reduceSub, Nat.reduceLT, Nat.reduceLeDiff, Nat.reduceMul, Nat.reduceEqDiff, cond_true, cond_false, if_true, if_false, reduceIte, implies_true, forall_const, ne_eq, getD_map hp, getD_map hq, htl])
 | (simp (disch := omega) only [wr64, Int.zero_sub]; try simp only [zT, zV, zS, zU, vcC, lateX, ex, strp, cnd, binA, kseq, kblk, kret, klp, Abs.one, elems, cells, scalar, eqC, Nat.reduceBEq, Nat.reduceAdd, Nat.reduceSub, Nat.reduceLT, Nat.reduceLeDiff, Nat.reduceMul, Nat.reduceEqDiff, cond_true, cond_false, if_true, if_false, reduceIte, implies_true, forall_const, ne_eq, getD_map hp, getD_map hq, htl])
 | (refine AWPC.both (fun _ => ?_) (fun _ => ?_))
 | (refine AWPC.imp (fun _ => ?_))
 | ((repeat (refine And.intro (by (intros; first | omega | (simp_all (config := { decide := false }); done) | fail)) ?_)); (first
 | (refine .inl ⟨_, _, _, _, rfl, fun _hc => ⟨by simp, hm⟩, ?_⟩)
 | (refine ⟨_, _, _, _, rfl, fun _hc => ⟨by simp, hm⟩, ?_⟩)
 | fail); (first | refine owp_of_exs ?_ | refine pre_of_exd ?_ | refine pre_of_exe ?_ | fail); simp only [zT, zV, zS, zU, vcC, lateX, ex, strp, cnd, binA, kseq, kblk, kret, klp, Abs.one, elems, cells, scalar, eqC, Nat.reduceBEq, Nat.reduceAdd, Nat.reduceSub, Nat.reduceLT, Nat.reduceLeDiff, Nat.reduceMul, Nat.reduceEqDiff, cond_true, cond_false, if_true, if_false, reduceIte, implies_true, forall_const, ne_eq, getD_map hp, getD_map hq, htl])
 | ((refine .inl ⟨_, _, _, .any, rfl, fun h => absurd h Bool.false_ne_true, ?_⟩); refine owp_of_exs ?_; simp only [zT, zV, zS, zU, vcC, lateX, ex, strp, cnd, binA, kseq, kblk, kret, klp, Abs.one, elems, cells, scalar, eqC, Nat.reduceBEq, Nat.reduceAdd, Nat.reduceSub, Nat.reduceLT, Nat.reduceLeDiff, Nat.reduceMul, Nat.reduceEqDiff, cond_true, cond_false, if_true, if_false, reduceIte, implies_true, forall_const, ne_eq, getD_map hp, getD_map hq, htl])
 | (refine ⟨by omega, ?_⟩)
 | (refine And.intro (by (intros; first | (simp_all (config := { decide := false }); done) | fail)) ?_)
 | fail)
      all_goals try (exfalso; omega)
      · rename_i h
        exact ⟨⟨i + 1, hlt⟩, ⟨rfl, by simp⟩, by simp only; rw [hzt, show eCell p q = .v (.slice none 0 0) from if_pos (by omega)]; simp, by simp only; omega⟩
      · rename_i h
        exact ⟨⟨i + 1, hlt⟩, ⟨rfl, by simp⟩, by simp only; rw [hzt, show eCell p q = spS (joins p q) from if_neg (by omega)]; simp, by simp only; omega⟩
    · obtain rfl : i = a.length := by omega
      have hl := rlimited_spec (zipC eitherC a b) (lens_either al)
      have e : (List.zipWith eCell a b).take a.length = List.zipWith eCell a b := List.take_of_length_le (by omega)
      refine AWPC.weakO (f := 1) (i := 0) (o := ⟨34, 1, (List.zipWith eCell a b).map (fun l => [l]), none⟩) (o' := ⟨34, 1, (zipC eitherC a b).map (fun l => [spS l]), none⟩) (by simp only [e]; rfl) rfl rfl rfl rfl (by rw [List.length_map, List.length_map, hz, hel]) (fun e he => ?_) (fun e j he hj w X β σ x hx => ?_) ?_
      · rw [List.length_map, hel] at he
        obtain ⟨x, hx⟩ : ∃ x, (zipC eitherC a b)[e]? = some x := ⟨_, List.getElem?_eq_getElem (by omega)⟩
        rw [getD_map hx]; rfl
      · rw [List.length_map, hel] at he
        obtain ⟨p, hp⟩ : ∃ l, a[e]? = some l := ⟨_, List.getElem?_eq_getElem he⟩
        obtain ⟨q, hq⟩ : ∃ l, b[e]? = some l := ⟨_, List.getElem?_eq_getElem (by omega)⟩
        have hz1 : (zipC eitherC a b)[e]? = some (eitherC p q) := by rw [zip_get, hp, hq]
        have hz2 : (List.zipWith eCell a b)[e]? = some (eCell p q) := by simp [List.getElem?_zipWith, hp, hq]
        rw [getD_map hz1]
        rw [getD_map hz2] at hx
        match j, hj with
        | 0, _ =>
          simp only [List.getD_cons_zero] at hx ⊢
          by_cases h : p.length = 0 ∨ q.length = 0
          · rw [show eCell p q = .v (.slice none 0 0) from if_pos h] at hx
            rw [show eitherC p q = [] from if_pos h]
            exact hx.nil
          · rw [show eCell p q = spS (joins p q) from if_neg h] at hx
            rw [show eitherC p q = joins p q from if_neg h]
            exact hx
      have hz := zip_len (F := eitherC) al.l
      generalize zipC eitherC a b = Z at *
      refine AWPC.freeze1 (f := 1) (t := 7) (o := ⟨34, 1, Z.map (fun l => [spS l]), none⟩) rfl rfl (by simp [hz]) (show (1 : Nat) ≠ 0 by decide) ?_
      (repeat' first
 | (refine AWPC.of_vcn rfl ?_; simp only [zT, zV, zS, zU, vcC, lateX, ex, strp, cnd, binA, kseq, kblk, kret, klp, Abs.one, elems, cells, scalar, eqC, Nat.reduceBEq, Nat.reduceAdd, Nat.reduceSub, Nat.reduceLT, Nat.reduceLeDiff, Nat.reduceMul, Nat.reduceEqDiff, cond_true, cond_false, if_true, if_false, reduceIte, implies_true, forall_const, ne_eq, gone, List.set_cons_succ, List.set_cons_zero])
 | (simp (disch := omega) only [wr64, Int.zero_sub]; try simp only [zT, zV, zS, zU, vcC, lateX, ex, strp, cnd, binA, kseq, kblk, kret, klp, Abs.one, elems, cells, scalar, eqC, Nat.reduceBEq, Nat.reduceAdd, Nat.reduceSub, Nat.reduceLT, Nat.reduceLeDiff, Nat.reduceMul, Nat.reduceEqDiff, cond_true, cond_false, if_true, if_false, reduceIte, implies_true, forall_const, ne_eq, gone, List.set_cons_succ, List.set_cons_zero])
 | (refine AWPC.both (fun _ => ?_) (fun _ => ?_))
 | (refine AWPC.imp (fun _ => ?_))
 | ((repeat (refine And.intro (by (intros; first | omega | (simp_all (config := { decide := false }); done) | fail)) ?_)); (first
 | (refine .inl ⟨_, _, _, _, rfl, fun _hc => ⟨by simp, hl⟩, ?_⟩)
 | (refine ⟨_, _, _, _, rfl, fun _hc => ⟨by simp, hl⟩, ?_⟩)
 | fail); (first | refine owp_of_exs ?_ | refine pre_of_exd ?_ | refine pre_of_exe ?_ | fail); simp only [zT, zV, zS, zU, vcC, lateX, ex, strp, cnd, binA, kseq, kblk, kret, klp, Abs.one, elems, cells, scalar, eqC, Nat.reduceBEq, Nat.reduceAdd, Nat.reduceSub, Nat.reduceLT, Nat.reduceLeDiff, Nat.reduceMul, Nat.reduceEqDiff, cond_true, cond_false, if_true, if_false, reduceIte, implies_true, forall_const, ne_eq, gone, List.set_cons_succ, List.set_cons_zero])
 | ((refine .inl ⟨_, _, _, .any, rfl, fun h => absurd h Bool.false_ne_true, ?_⟩); refine owp_of_exs ?_; simp only [zT, zV, zS, zU, vcC, lateX, ex, strp, cnd, binA, kseq, kblk, kret, klp, Abs.one, elems, cells, scalar, eqC, Nat.reduceBEq, Nat.reduceAdd, Nat.reduceSub, Nat.reduceLT, Nat.reduceLeDiff, Nat.reduceMul, Nat.reduceEqDiff, cond_true, cond_false, if_true, if_false, reduceIte, implies_true, forall_const, ne_eq, gone, List.set_cons_succ, List.set_cons_zero])
 | (refine ⟨by omega, ?_⟩)
 | (refine And.intro (by (intros; first | (simp_all (config := { decide := false }); done) | fail)) ?_)
 | fail)
      all_goals try (exfalso; omega)
      exact Frz.eq rfl (pureV_inkE _ _)
  · rw [if_neg hj]
    (repeat' first
 | (refine AWPC.of_vcn rfl ?_; simp only [zT, zV, zS, zU, vcC, lateX, ex, strp, cnd, binA, kseq, kblk, kret, klp, Abs.one, elems, cells, scalar, eqC, Nat.reduceBEq, Nat.reduceAdd, Nat.reduceSub, Nat.reduceLT, Nat.reduceLeDiff, Nat.reduceMul, Nat.reduceEqDiff, cond_true, cond_false, if_true, if_false, reduceIte, implies_true, forall_const, ne_eq])
 | (simp (disch := omega) only [wr64, Int.zero_sub]; try simp only [zT, zV, zS, zU, vcC, lateX, ex, strp, cnd, binA, kseq, kblk, kret, klp, Abs.one, elems, cells, scalar, eqC, Nat.reduceBEq, Nat.reduceAdd, Nat.reduceSub, Nat.reduceLT, Nat.reduceLeDiff, Nat.reduceMul, Nat.reduceEqDiff, cond_true, cond_false, if_true, if_false, reduceIte, implies_true, forall_const, ne_eq])
 | (refine AWPC.both (fun _ => ?_) (fun _ => ?_))
 | (refine AWPC.imp (fun _ => ?_))
 | ((repeat (refine And.intro (by (intros; first | omega | (simp_all (config := { decide := false }); done) | fail)) ?_)); (first
 | (refine .inl ⟨_, _, _, _, rfl, fun _hc => ⟨by simp, hk⟩, ?_⟩)
 | (refine ⟨_, _, _, _, rfl, fun _hc => ⟨by simp, hk⟩, ?_⟩)
 | fail); (first | refine owp_of_exs ?_ | refine pre_of_exd ?_ | refine pre_of_exe ?_ | fail); simp only [zT, zV, zS, zU, vcC, lateX, ex, strp, cnd, binA, kseq, kblk, kret, klp, Abs.one, elems, cells, scalar, eqC, Nat.reduceBEq, Nat.reduceAdd, Nat.reduceSub, Nat.reduceLT, Nat.reduceLeDiff, Nat.reduceMul, Nat.reduceEqDiff, cond_true, cond_false, if_true, if_false, reduceIte, implies_true, forall_const, ne_eq])
 | ((refine .inl ⟨_, _, _, .any, rfl, fun h => absurd h Bool.false_ne_true, ?_⟩); refine owp_of_exs ?_; simp only [zT, zV, zS, zU, vcC, lateX, ex, strp, cnd, binA, kseq, kblk, kret, klp, Abs.one, elems, cells, scalar, eqC, Nat.reduceBEq, Nat.reduceAdd, Nat.reduceSub, Nat.reduceLT, Nat.reduceLeDiff, Nat.reduceMul, Nat.reduceEqDiff, cond_true, cond_false, if_true, if_false, reduceIte, implies_true, forall_const, ne_eq])
 | (refine ⟨by omega, ?_⟩)
 | (refine And.intro (by (intros; first | (simp_all (config := { decide := false }); done) | fail)) ?_)
 | fail)
    all_goals try contradiction
    exact frz_ink0 _

theorem same_spec (x y : List (List Sp)) (e : Int) (hx : Lens x) (hy : Lens y) (hx9 : ∀ l ∈ x, l.length < 1000000000) (hy9 : ∀ l ∈ y, l.length < 1000000000) : Pure Try.prog 67 [ink x, n e, ink y] (bl (decide (e = 0) && decide (x = y))) := by
  refine Pure.of_body Try.call67 Try.func67 k67 (Nat.le_of_ble_eq_true rfl) ?_
  have hs := sameSets_spec x y hx.1 hy.1 hx9 hy9
  unfold c67
  (repeat' first
 | (refine AWPC.of_vcn rfl ?_; simp only [zT, zV, zS, zU, vcC, lateX, ex, strp, cnd, binA, kseq, kblk, kret, klp, Abs.one, elems, cells, scalar, eqC, Nat.reduceBEq, Nat.reduceAdd, Nat.reduceSub, Nat.reduceLT, Nat.reduceLeDiff, Nat.reduceMul, Nat.reduceEqDiff, cond_true, cond_false, if_true, if_false, reduceIte, implies_true, forall_const, ne_eq])
 | (simp (disch := omega) only [wr64, Int.zero_sub]; try simp only [zT, zV, zS, zU, vcC, lateX, ex, strp, cnd, binA, kseq, kblk, kret, klp, Abs.one, elems, cells, scalar, eqC, Nat.reduceBEq, Nat.reduceAdd, Nat.reduceSub, Nat.reduceLT, Nat.reduceLeDiff, Nat.reduceMul, Nat.reduceEqDiff, cond_true, cond_false, if_true, if_false, reduceIte, implies_true, forall_const, ne_eq])
 | (refine AWPC.both (fun _ => ?_) (fun _ => ?_))
 | (refine AWPC.imp (fun _ => ?_))
 | ((repeat (refine And.intro (by (intros; first | omega | (simp_all (config := { decide := false }); done) | fail)) ?_)); (first
 | (refine .inl ⟨_, _, _, _, rfl, fun _hc => ⟨by simp, hs⟩, ?_⟩)
 | (refine ⟨_, _, _, _, rfl, fun _hc => ⟨by simp, hs⟩, ?_⟩)
 | fail); (first | refine owp_of_exs ?_ | refine pre_of_exd ?_ | refine pre_of_exe ?_ | fail); simp only [zT, zV, zS, zU, vcC, lateX, ex, strp, cnd, binA, kseq, kblk, kret, klp, Abs.one, elems, cells, scalar, eqC, Nat.reduceBEq, Nat.reduceAdd, Nat.reduceSub, Nat.reduceLT, Nat.reduceLeDiff, Nat.reduceMul, Nat.reduceEqDiff, cond_true, cond_false, if_true, if_false, reduceIte, implies_true, forall_const, ne_eq])
 | ((refine .inl ⟨_, _, _, .any, rfl, fun h => absurd h Bool.false_ne_true, ?_⟩); refine owp_of_exs ?_; simp only [zT, zV, zS, zU, vcC, lateX, ex, strp, cnd, binA, kseq, kblk, kret, klp, Abs.one, elems, cells, scalar, eqC, Nat.reduceBEq, Nat.reduceAdd, Nat.reduceSub, Nat.reduceLT, Nat.reduceLeDiff, Nat.reduceMul, Nat.reduceEqDiff, cond_true, cond_false, if_true, if_false, reduceIte, implies_true, forall_const, ne_eq])
 | (refine ⟨by omega, ?_⟩)
 | (refine And.intro (by (intros; first | (simp_all (config := { decide := false }); done) | fail)) ?_)
 | fail)
  exact Frz.eq rfl (by simp)
end Go.Proofs.Ytgpdckmbojmlpaa

namespace Go.Proofs.Ytgpdckmbojmlpaa
open Go.Abs
set_option linter.unusedVariables false
set_option linter.unusedSimpArgs false
set_option maxHeartbeats 4000000
set_option maxRecDepth 100000
-- aneroid/aneroidlaw01.PaperCopies
def c15 : CF := ⟨99,
 (.seq (.ops [
 ⟨(some 2), .box false 56 1 (.t 0), none⟩,
 ⟨(some 3), .box false 56 1 (.t 1), none⟩,
 ⟨(some 4), .mv (.c (.bool false)), none⟩] [2, 3])
 (.seq (.ops [
 ⟨(some 18), .call (.f 18) [], none⟩,
 ⟨(some 5), .mv (.t 18), none⟩] [2, 3, 5])
 (.seq (.seq (.ops [
 ⟨(some 19), .load (some 1) (.t 2), none⟩,
 ⟨(some 20), .call (.f 45) [(.t 19)], none⟩,
 ⟨(some 21), .un .not (.t 20), none⟩,
 ⟨(some 22), .mv (.t 21), none⟩,
 ⟨(some 23), .load (some 1) (.t 3), (some (22, false))⟩,
 ⟨(some 24), .call (.f 45) [(.t 23)], (some (22, false))⟩,
 ⟨(some 25), .un .not (.t 24), (some (22, false))⟩,
 ⟨(some 26), .pick (.t 22) (.c (.bool true)) (.t 25), none⟩] [2, 3, 5, 26])
 (.cond (.t 26) (.seq (.ops [
 ⟨(some 27), .mv (.t 5), none⟩,
 ⟨(some 4), .mv (.t 27), none⟩] [4])
 .ret)
 .skip))
 (.seq (.ops [
 ⟨(some 29), .load (some 1) (.t 2), none⟩,
 ⟨(some 30), .load (some 1) (.t 3), none⟩,
 ⟨(some 31), .call (.f 62) [(.t 29), (.t 30)], none⟩,
 ⟨(some 28), .mv (.t 31), none⟩,
 ⟨(some 32), .ext 0 (.t 28), none⟩,
 ⟨(some 33), .ext 1 (.t 28), none⟩,
 ⟨(some 6), .alloc 56 1 [.slice none 0 0], none⟩,
 ⟨none, .store 1 (.t 6) (.t 32), none⟩,
 ⟨(some 7), .mv (.t 33), none⟩] [2, 3, 5, 6, 7])
 (.seq (.ops [
 ⟨(some 35), .load (some 1) (.t 2), none⟩,
 ⟨(some 36), .load (some 1) (.t 3), none⟩,
 ⟨(some 37), .call (.f 63) [(.t 35), (.t 36)], none⟩,
 ⟨(some 34), .mv (.t 37), none⟩,
 ⟨(some 38), .ext 0 (.t 34), none⟩,
 ⟨(some 39), .ext 1 (.t 34), none⟩,
 ⟨(some 8), .alloc 56 1 [.slice none 0 0], none⟩,
 ⟨none, .store 1 (.t 8) (.t 38), none⟩,
 ⟨(some 9), .mv (.t 39), none⟩] [2, 3, 5, 6, 7, 8, 9])
 (.seq (.ops [
 ⟨(some 41), .load (some 1) (.t 2), none⟩,
 ⟨(some 42), .load (some 1) (.t 3), none⟩,
 ⟨(some 43), .call (.f 64) [(.t 41), (.t 42)], none⟩,
 ⟨(some 40), .mv (.t 43), none⟩,
 ⟨(some 44), .ext 0 (.t 40), none⟩,
 ⟨(some 45), .ext 1 (.t 40), none⟩,
 ⟨(some 10), .alloc 56 1 [.slice none 0 0], none⟩,
 ⟨none, .store 1 (.t 10) (.t 44), none⟩,
 ⟨(some 11), .mv (.t 45), none⟩] [2, 3, 5, 6, 7, 8, 9, 10, 11])
 (.seq (.ops [
 ⟨(some 47), .load (some 1) (.t 2), none⟩,
 ⟨(some 48), .load (some 1) (.t 3), none⟩,
 ⟨(some 49), .call (.f 65) [(.t 47), (.t 48)], none⟩,
 ⟨(some 46), .mv (.t 49), none⟩,
 ⟨(some 50), .ext 0 (.t 46), none⟩,
 ⟨(some 51), .ext 1 (.t 46), none⟩,
 ⟨(some 12), .alloc 56 1 [.slice none 0 0], none⟩,
 ⟨none, .store 1 (.t 12) (.t 50), none⟩,
 ⟨(some 13), .mv (.t 51), none⟩] [2, 3, 5, 6, 7, 8, 9, 10, 11, 12, 13])
 (.seq (.ops [
 ⟨(some 53), .load (some 1) (.t 2), none⟩,
 ⟨(some 54), .load (some 1) (.t 3), none⟩,
 ⟨(some 55), .call (.f 61) [(.t 53), (.t 54)], none⟩,
 ⟨(some 52), .mv (.t 55), none⟩,
 ⟨(some 56), .ext 0 (.t 52), none⟩,
 ⟨(some 57), .ext 1 (.t 52), none⟩,
 ⟨(some 14), .mv (.t 56), none⟩,
 ⟨(some 15), .mv (.t 57), none⟩] [2, 3, 5, 6, 7, 8, 9, 10, 11, 12, 13, 14, 15])
 (.seq (.ops [
 ⟨(some 59), .load (some 1) (.t 2), none⟩,
 ⟨(some 60), .load (some 1) (.t 3), none⟩,
 ⟨(some 61), .call (.f 66) [(.t 59), (.t 60)], none⟩,
 ⟨(some 58), .mv (.t 61), none⟩,
 ⟨(some 62), .ext 0 (.t 58), none⟩,
 ⟨(some 63), .ext 1 (.t 58), none⟩,
 ⟨(some 16), .mv (.t 62), none⟩,
 ⟨(some 17), .mv (.t 63), none⟩] [5, 6, 7, 8, 9, 10, 11, 12, 13, 14, 15, 16, 17])
 (.seq (.ops [
 ⟨(some 64), .mv (.t 5), none⟩,
 ⟨(some 65), .mv (.t 64), none⟩,
 ⟨(some 66), .faddr 0 (.t 6), (some (65, true))⟩,
 ⟨(some 67), .load none (.t 66), (some (65, true))⟩,
 ⟨(some 68), .faddr 0 (.t 8), (some (65, true))⟩,
 ⟨(some 69), .load none (.t 68), (some (65, true))⟩,
 ⟨(some 70), .call (.f 59) [(.t 67), (.t 69)], (some (65, true))⟩,
 ⟨(some 71), .pick (.t 65) (.t 70) (.c (.bool false)), none⟩,
 ⟨(some 72), .mv (.t 71), none⟩,
 ⟨(some 73), .mv (.t 7), (some (72, true))⟩,
 ⟨(some 74), .mv (.t 9), (some (72, true))⟩,
 ⟨(some 75), .bin .eql (.t 73) (.t 74), (some (72, true))⟩,
 ⟨(some 76), .pick (.t 72) (.t 75) (.c (.bool false)), none⟩,
 ⟨(some 77), .mv (.t 76), none⟩,
 ⟨(some 78), .faddr 0 (.t 10), (some (77, true))⟩,
 ⟨(some 79), .load none (.t 78), (some (77, true))⟩,
 ⟨(some 80), .faddr 0 (.t 12), (some (77, true))⟩,
 ⟨(some 81), .load none (.t 80), (some (77, true))⟩,
 ⟨(some 82), .call (.f 59) [(.t 79), (.t 81)], (some (77, true))⟩,
 ⟨(some 83), .pick (.t 77) (.t 82) (.c (.bool false)), none⟩,
 ⟨(some 84), .mv (.t 83), none⟩,
 ⟨(some 85), .mv (.t 11), (some (84, true))⟩,
 ⟨(some 86), .mv (.t 13), (some (84, true))⟩,
 ⟨(some 87), .bin .eql (.t 85) (.t 86), (some (84, true))⟩,
 ⟨(some 88), .pick (.t 84) (.t 87) (.c (.bool false)), none⟩,
 ⟨(some 89), .mv (.t 88), none⟩,
 ⟨(some 90), .mv (.t 14), (some (89, true))⟩,
 ⟨(some 91), .mv (.t 16), (some (89, true))⟩,
 ⟨(some 92), .eqb false (.t 90) (.t 91), (some (89, true))⟩,
 ⟨(some 93), .pick (.t 89) (.t 92) (.c (.bool false)), none⟩,
 ⟨(some 94), .mv (.t 93), none⟩,
 ⟨(some 95), .mv (.t 15), (some (94, true))⟩,
 ⟨(some 96), .mv (.t 17), (some (94, true))⟩,
 ⟨(some 97), .bin .eql (.t 95) (.t 96), (some (94, true))⟩,
 ⟨(some 98), .pick (.t 94) (.t 97) (.c (.bool false)), none⟩,
 ⟨(some 4), .mv (.t 98), none⟩] [4])
 .ret)))))))))),
 [.t 4]⟩
-- aneroid/aneroidlaw01.PaperLattice
def c16 : CF := ⟨184,
 (.seq (.ops [
 ⟨(some 2), .box false 56 1 (.t 0), none⟩,
 ⟨(some 3), .box false 56 1 (.t 1), none⟩,
 ⟨(some 4), .mv (.c (.bool false)), none⟩] [2, 3])
 (.seq (.ops [
 ⟨(some 24), .call (.f 18) [], none⟩,
 ⟨(some 5), .mv (.t 24), none⟩] [2, 3, 5])
 (.seq (.seq (.ops [
 ⟨(some 25), .load (some 1) (.t 2), none⟩,
 ⟨(some 26), .call (.f 45) [(.t 25)], none⟩,
 ⟨(some 27), .un .not (.t 26), none⟩,
 ⟨(some 28), .mv (.t 27), none⟩,
 ⟨(some 29), .load (some 1) (.t 3), (some (28, false))⟩,
 ⟨(some 30), .call (.f 45) [(.t 29)], (some (28, false))⟩,
 ⟨(some 31), .un .not (.t 30), (some (28, false))⟩,
 ⟨(some 32), .pick (.t 28) (.c (.bool true)) (.t 31), none⟩] [2, 3, 5, 32])
 (.cond (.t 32) (.seq (.ops [
 ⟨(some 33), .mv (.t 5), none⟩,
 ⟨(some 4), .mv (.t 33), none⟩] [4])
 .ret)
 .skip))
 (.seq (.ops [
 ⟨(some 35), .load (some 1) (.t 2), none⟩,
 ⟨(some 36), .load (some 1) (.t 3), none⟩,
 ⟨(some 37), .call (.f 62) [(.t 35), (.t 36)], none⟩,
 ⟨(some 34), .mv (.t 37), none⟩,
 ⟨(some 38), .ext 0 (.t 34), none⟩,
 ⟨(some 39), .ext 1 (.t 34), none⟩,
 ⟨(some 6), .alloc 56 1 [.slice none 0 0], none⟩,
 ⟨none, .store 1 (.t 6) (.t 38), none⟩,
 ⟨(some 7), .mv (.t 39), none⟩] [2, 3, 5, 6, 7])
 (.seq (.ops [
 ⟨(some 41), .load (some 1) (.t 3), none⟩,
 ⟨(some 42), .load (some 1) (.t 2), none⟩,
 ⟨(some 43), .call (.f 62) [(.t 41), (.t 42)], none⟩,
 ⟨(some 40), .mv (.t 43), none⟩,
 ⟨(some 44), .ext 0 (.t 40), none⟩,
 ⟨(some 45), .ext 1 (.t 40), none⟩,
 ⟨(some 8), .alloc 56 1 [.slice none 0 0], none⟩,
 ⟨none, .store 1 (.t 8) (.t 44), none⟩,
 ⟨(some 9), .mv (.t 45), none⟩] [2, 3, 5, 6, 7, 8, 9])
 (.seq (.ops [
 ⟨(some 47), .load (some 1) (.t 2), none⟩,
 ⟨(some 48), .load (some 1) (.t 3), none⟩,
 ⟨(some 49), .call (.f 64) [(.t 47), (.t 48)], none⟩,
 ⟨(some 46), .mv (.t 49), none⟩,
 ⟨(some 50), .ext 0 (.t 46), none⟩,
 ⟨(some 51), .ext 1 (.t 46), none⟩,
 ⟨(some 10), .alloc 56 1 [.slice none 0 0], none⟩,
 ⟨none, .store 1 (.t 10) (.t 50), none⟩,
 ⟨(some 11), .mv (.t 51), none⟩] [2, 3, 5, 6, 7, 8, 9, 10, 11])
 (.seq (.ops [
 ⟨(some 53), .load (some 1) (.t 3), none⟩,
 ⟨(some 54), .load (some 1) (.t 2), none⟩,
 ⟨(some 55), .call (.f 64) [(.t 53), (.t 54)], none⟩,
 ⟨(some 52), .mv (.t 55), none⟩,
 ⟨(some 56), .ext 0 (.t 52), none⟩,
 ⟨(some 57), .ext 1 (.t 52), none⟩,
 ⟨(some 12), .alloc 56 1 [.slice none 0 0], none⟩,
 ⟨none, .store 1 (.t 12) (.t 56), none⟩,
 ⟨(some 13), .mv (.t 57), none⟩] [2, 3, 5, 6, 7, 8, 9, 10, 11, 12, 13])
 (.seq (.seq (.ops [
 ⟨(some 58), .mv (.t 7), none⟩,
 ⟨(some 59), .mv (.t 9), none⟩,
 ⟨(some 60), .bin .neq (.t 58) (.t 59), none⟩,
 ⟨(some 61), .mv (.t 60), none⟩,
 ⟨(some 62), .mv (.t 11), (some (61, false))⟩,
 ⟨(some 63), .mv (.t 13), (some (61, false))⟩,
 ⟨(some 64), .bin .neq (.t 62) (.t 63), (some (61, false))⟩,
 ⟨(some 65), .pick (.t 61) (.c (.bool true)) (.t 64), none⟩,
 ⟨(some 66), .mv (.t 65), none⟩,
 ⟨(some 67), .faddr 0 (.t 6), (some (66, false))⟩,
 ⟨(some 68), .load none (.t 67), (some (66, false))⟩,
 ⟨(some 69), .faddr 0 (.t 8), (some (66, false))⟩,
 ⟨(some 70), .load none (.t 69), (some (66, false))⟩,
 ⟨(some 71), .call (.f 59) [(.t 68), (.t 70)], (some (66, false))⟩,
 ⟨(some 72), .un .not (.t 71), (some (66, false))⟩,
 ⟨(some 73), .pick (.t 66) (.c (.bool true)) (.t 72), none⟩,
 ⟨(some 74), .mv (.t 73), none⟩,
 ⟨(some 75), .faddr 0 (.t 10), (some (74, false))⟩,
 ⟨(some 76), .load none (.t 75), (some (74, false))⟩,
 ⟨(some 77), .faddr 0 (.t 12), (some (74, false))⟩,
 ⟨(some 78), .load none (.t 77), (some (74, false))⟩,
 ⟨(some 79), .call (.f 59) [(.t 76), (.t 78)], (some (74, false))⟩,
 ⟨(some 80), .un .not (.t 79), (some (74, false))⟩,
 ⟨(some 81), .pick (.t 74) (.c (.bool true)) (.t 80), none⟩] [2, 3, 5, 6, 7, 10, 11, 81])
 (.cond (.t 81) (.seq (.ops [
 ⟨(some 4), .mv (.c (.bool false)), none⟩] [4])
 .ret)
 .skip))
 (.seq (.ops [
 ⟨(some 83), .load (some 1) (.t 2), none⟩,
 ⟨(some 84), .load (some 1) (.t 3), none⟩,
 ⟨(some 85), .call (.f 61) [(.t 83), (.t 84)], none⟩,
 ⟨(some 82), .mv (.t 85), none⟩,
 ⟨(some 86), .ext 0 (.t 82), none⟩,
 ⟨(some 87), .ext 1 (.t 82), none⟩,
 ⟨(some 14), .mv (.t 86), none⟩,
 ⟨(some 15), .mv (.t 87), none⟩] [2, 3, 5, 6, 7, 10, 11, 14, 15])
 (.seq (.seq (.ops [
 ⟨(some 88), .mv (.t 15), none⟩,
 ⟨(some 89), .bin .neq (.t 88) (.c (.int .i64 0)), none⟩] [2, 3, 5, 6, 7, 10, 11, 14, 89])
 (.cond (.t 89) (.seq (.ops [
 ⟨(some 90), .mv (.t 5), none⟩,
 ⟨(some 4), .mv (.t 90), none⟩] [4])
 .ret)
 .skip))
 (.seq (.ops [
 ⟨(some 92), .load (some 1) (.t 2), none⟩,
 ⟨(some 93), .load (some 1) (.t 2), none⟩,
 ⟨(some 94), .call (.f 62) [(.t 92), (.t 93)], none⟩,
 ⟨(some 91), .mv (.t 94), none⟩,
 ⟨(some 95), .ext 0 (.t 91), none⟩,
 ⟨(some 96), .ext 1 (.t 91), none⟩,
 ⟨(some 16), .alloc 56 1 [.slice none 0 0], none⟩,
 ⟨none, .store 1 (.t 16) (.t 95), none⟩,
 ⟨(some 17), .mv (.t 96), none⟩] [2, 3, 5, 6, 7, 10, 11, 14, 16, 17])
 (.seq (.ops [
 ⟨(some 98), .load (some 1) (.t 2), none⟩,
 ⟨(some 99), .load (some 1) (.t 2), none⟩,
 ⟨(some 100), .call (.f 64) [(.t 98), (.t 99)], none⟩,
 ⟨(some 97), .mv (.t 100), none⟩,
 ⟨(some 101), .ext 0 (.t 97), none⟩,
 ⟨(some 102), .ext 1 (.t 97), none⟩,
 ⟨(some 18), .alloc 56 1 [.slice none 0 0], none⟩,
 ⟨none, .store 1 (.t 18) (.t 101), none⟩,
 ⟨(some 19), .mv (.t 102), none⟩] [2, 3, 5, 6, 7, 10, 11, 14, 16, 17, 18, 19])
 (.seq (.seq (.ops [
 ⟨(some 103), .load (some 1) (.t 16), none⟩,
 ⟨(some 104), .mv (.t 17), none⟩,
 ⟨(some 105), .load (some 1) (.t 2), none⟩,
 ⟨(some 106), .call (.f 67) [(.t 103), (.t 104), (.t 105)], none⟩,
 ⟨(some 107), .un .not (.t 106), none⟩,
 ⟨(some 108), .mv (.t 107), none⟩,
 ⟨(some 109), .load (some 1) (.t 18), (some (108, false))⟩,
 ⟨(some 110), .mv (.t 19), (some (108, false))⟩,
 ⟨(some 111), .load (some 1) (.t 2), (some (108, false))⟩,
 ⟨(some 112), .call (.f 67) [(.t 109), (.t 110), (.t 111)], (some (108, false))⟩,
 ⟨(some 113), .un .not (.t 112), (some (108, false))⟩,
 ⟨(some 114), .pick (.t 108) (.c (.bool true)) (.t 113), none⟩] [2, 3, 5, 6, 7, 10, 11, 14, 114])
 (.cond (.t 114) (.seq (.ops [
 ⟨(some 4), .mv (.c (.bool false)), none⟩] [4])
 .ret)
 .skip))
 (.seq (.seq (.ops [
 ⟨(some 115), .mv (.t 7), none⟩,
 ⟨(some 116), .bin .eql (.t 115) (.c (.int .i64 0)), none⟩] [2, 3, 5, 6, 7, 10, 11, 14, 116])
 (.cond (.t 116) (.seq (.ops [
 ⟨(some 118), .load (some 1) (.t 2), none⟩,
 ⟨(some 119), .load (some 1) (.t 6), none⟩,
 ⟨(some 120), .call (.f 64) [(.t 118), (.t 119)], none⟩,
 ⟨(some 117), .mv (.t 120), none⟩,
 ⟨(some 121), .ext 0 (.t 117), none⟩,
 ⟨(some 122), .ext 1 (.t 117), none⟩,
 ⟨(some 20), .alloc 56 1 [.slice none 0 0], none⟩,
 ⟨none, .store 1 (.t 20) (.t 121), none⟩,
 ⟨(some 21), .mv (.t 122), none⟩] [2, 3, 5, 6, 7, 10, 11, 14, 20, 21])
 (.seq (.ops [
 ⟨(some 123), .mv (.t 21), none⟩,
 ⟨(some 124), .bin .eql (.t 123) (.c (.int .i64 0)), none⟩,
 ⟨(some 125), .mv (.t 124), none⟩,
 ⟨(some 126), .load (some 1) (.t 20), (some (125, true))⟩,
 ⟨(some 127), .mv (.t 21), (some (125, true))⟩,
 ⟨(some 128), .load (some 1) (.t 2), (some (125, true))⟩,
 ⟨(some 129), .call (.f 67) [(.t 126), (.t 127), (.t 128)], (some (125, true))⟩,
 ⟨(some 130), .un .not (.t 129), (some (125, true))⟩,
 ⟨(some 131), .pick (.t 125) (.t 130) (.c (.bool false)), none⟩,
 ⟨(some 132), .mv (.t 131), none⟩,
 ⟨(some 133), .mv (.t 14), (some (132, false))⟩,
 ⟨(some 134), .faddr 0 (.t 6), (some (132, false))⟩,
 ⟨(some 135), .load none (.t 134), (some (132, false))⟩,
 ⟨(some 136), .faddr 0 (.t 2), (some (132, false))⟩,
 ⟨(some 137), .load none (.t 136), (some (132, false))⟩,
 ⟨(some 138), .call (.f 59) [(.t 135), (.t 137)], (some (132, false))⟩,
 ⟨(some 139), .eqb true (.t 133) (.t 138), (some (132, false))⟩,
 ⟨(some 140), .pick (.t 132) (.c (.bool true)) (.t 139), none⟩] [2, 3, 5, 7, 10, 11, 14, 140])
 (.cond (.t 140) (.seq (.ops [
 ⟨(some 4), .mv (.c (.bool false)), none⟩] [4])
 .ret)
 .skip)))
 .skip))
 (.seq (.seq (.ops [
 ⟨(some 141), .mv (.t 11), none⟩,
 ⟨(some 142), .bin .eql (.t 141) (.c (.int .i64 0)), none⟩] [2, 3, 5, 7, 10, 11, 14, 142])
 (.cond (.t 142) (.seq (.ops [
 ⟨(some 144), .load (some 1) (.t 2), none⟩,
 ⟨(some 145), .load (some 1) (.t 10), none⟩,
 ⟨(some 146), .call (.f 62) [(.t 144), (.t 145)], none⟩,
 ⟨(some 143), .mv (.t 146), none⟩,
 ⟨(some 147), .ext 0 (.t 143), none⟩,
 ⟨(some 148), .ext 1 (.t 143), none⟩,
 ⟨(some 22), .alloc 56 1 [.slice none 0 0], none⟩,
 ⟨none, .store 1 (.t 22) (.t 147), none⟩,
 ⟨(some 23), .mv (.t 148), none⟩] [2, 3, 5, 7, 10, 11, 14, 22, 23])
 (.seq (.ops [
 ⟨(some 149), .mv (.t 23), none⟩,
 ⟨(some 150), .bin .eql (.t 149) (.c (.int .i64 0)), none⟩,
 ⟨(some 151), .mv (.t 150), none⟩,
 ⟨(some 152), .load (some 1) (.t 22), (some (151, true))⟩,
 ⟨(some 153), .mv (.t 23), (some (151, true))⟩,
 ⟨(some 154), .load (some 1) (.t 2), (some (151, true))⟩,
 ⟨(some 155), .call (.f 67) [(.t 152), (.t 153), (.t 154)], (some (151, true))⟩,
 ⟨(some 156), .un .not (.t 155), (some (151, true))⟩,
 ⟨(some 157), .pick (.t 151) (.t 156) (.c (.bool false)), none⟩,
 ⟨(some 158), .mv (.t 157), none⟩,
 ⟨(some 159), .mv (.t 23), (some (158, false))⟩,
 ⟨(some 160), .bin .eql (.t 159) (.c (.int .i64 3)), (some (158, false))⟩,
 ⟨(some 161), .pick (.t 158) (.c (.bool true)) (.t 160), none⟩,
 ⟨(some 162), .mv (.t 161), none⟩,
 ⟨(some 163), .mv (.t 14), (some (162, false))⟩,
 ⟨(some 164), .faddr 0 (.t 10), (some (162, false))⟩,
 ⟨(some 165), .load none (.t 164), (some (162, false))⟩,
 ⟨(some 166), .faddr 0 (.t 3), (some (162, false))⟩,
 ⟨(some 167), .load none (.t 166), (some (162, false))⟩,
 ⟨(some 168), .call (.f 59) [(.t 165), (.t 167)], (some (162, false))⟩,
 ⟨(some 169), .eqb true (.t 163) (.t 168), (some (162, false))⟩,
 ⟨(some 170), .pick (.t 162) (.c (.bool true)) (.t 169), none⟩] [5, 7, 11, 14, 170])
 (.cond (.t 170) (.seq (.ops [
 ⟨(some 4), .mv (.c (.bool false)), none⟩] [4])
 .ret)
 .skip)))
 .skip))
 (.seq (.ops [
 ⟨(some 171), .mv (.t 5), none⟩,
 ⟨(some 172), .mv (.t 171), none⟩,
 ⟨(some 173), .mv (.t 14), (some (172, true))⟩,
 ⟨(some 174), .un .not (.t 173), (some (172, true))⟩,
 ⟨(some 175), .mv (.t 174), (some (172, true))⟩,
 ⟨(some 176), .mv (.t 7), (some (175, false))⟩,
 ⟨(some 177), .bin .eql (.t 176) (.c (.int .i64 0)), (some (175, false))⟩,
 ⟨(some 178), .mv (.t 177), (some (175, false))⟩,
 ⟨(some 179), .mv (.t 11), (some (178, true))⟩,
 ⟨(some 180), .bin .eql (.t 179) (.c (.int .i64 0)), (some (178, true))⟩,
 ⟨(some 181), .pick (.t 178) (.t 180) (.c (.bool false)), (some (175, false))⟩,
 ⟨(some 182), .pick (.t 175) (.c (.bool true)) (.t 181), (some (172, true))⟩,
 ⟨(some 183), .pick (.t 172) (.t 182) (.c (.bool false)), none⟩,
 ⟨(some 4), .mv (.t 183), none⟩] [4])
 .ret)))))))))))))))),
 [.t 4]⟩
theorem k15 : chkF Try.prog Try.f15 c15 = true := by kernel_rfl
theorem k16 : chkF Try.prog Try.f16 c16 = true := by kernel_rfl

/-- A sheet whose lengths are small. -/
structure Tiny (x : List (List Sp)) : Prop where
  n : x.length ≤ 200
  c : ∀ l ∈ x, l.length ≤ 8
theorem Tiny.nil : Tiny [] := ⟨by simp, fun l h => by cases h⟩
theorem Tiny.right {x : List (List Sp)} (h : rightInk x) : Tiny x := ⟨h.1.2, fun l hl => (h.2 l hl).2.2⟩
theorem Tiny.lens {x : List (List Sp)} (h : Tiny x) : Lens x := ⟨by have := h.n; omega, fun l hl => by have := h.c l hl; omega⟩
theorem Tiny.c9 {x : List (List Sp)} (h : Tiny x) : ∀ l ∈ x, l.length < 1000000000 := fun l hl => by have := h.c l hl; omega
theorem tiny_both (a b : List (List Sp)) : Tiny (bothE a b).1 := by
  by_cases h : (bothE a b).2 = 0
  · exact .right (right_both h)
  · have : (bothE a b).1 = [] := by
      unfold bothE at h ⊢
      by_cases h0 : jerr a b = 0
      · simp only [h0, if_true] at h ⊢
        by_cases h1 : many (zipC bothC a b) = true
        · simp [h1]
        · by_cases h2 : lost a b = true
          · simp [h1, h2]
          · simp [h1, h2] at h
      · simp [h0]
    rw [this]; exact .nil
theorem tiny_either (a b : List (List Sp)) : Tiny (eitherE a b).1 := by
  by_cases h : (eitherE a b).2 = 0
  · exact .right (right_either h)
  · have : (eitherE a b).1 = [] := by
      unfold eitherE at h ⊢
      by_cases h0 : jerr a b = 0
      · simp only [h0, if_true, lim] at h ⊢
        cases h1 : many (zipC eitherC a b)
        · simp [h1] at h
        · rfl
      · simp [h0]
    rw [this]; exact .nil
theorem sets_tiny {a b : List (List Sp)} (ha : Tiny a) (hb : Tiny b) : Pure Try.prog 59 [colS a, colS b] (bl (decide (a = b))) := sameSets_spec a b ha.lens.1 hb.lens.1 ha.c9 hb.c9
theorem same_tiny {a b : List (List Sp)} (e : Int) (ha : Tiny a) (hb : Tiny b) : Pure Try.prog 67 [ink a, n e, ink b] (bl (decide (e = 0) && decide (a = b))) := same_spec a b e ha.lens hb.lens ha.c9 hb.c9

theorem PaperCopies_spec (a b : List (List Sp)) (ha : Lens a) (hb : Lens b) : Pure Try.prog 15 [ink a, ink b] (bl true) := by
  refine Pure.of_body Try.call15 Try.func15 k15 (Nat.le_of_ble_eq_true rfl) ?_
  have h1 := small_spec a ha.1
  have h2 := small_spec b hb.1
  have h3 := Both_spec a b ha hb
  have h4 := rBoth_spec a b ha hb
  have h5 := Either_spec a b ha hb
  have h6 := rEither_spec a b ha hb
  have h7 := Within_spec a b ha hb
  have h8 := rWithin_spec a b ha hb
  have h9 := sets_tiny (tiny_both a b) (tiny_both a b)
  have h10 := sets_tiny (tiny_either a b) (tiny_either a b)
  rw [decide_eq_true rfl] at h9 h10
  generalize bothE a b = B at *
  generalize eitherE a b = E at *
  generalize withinE a b = W at *
  generalize hw : decide (wsum a.length a ≤ 2000) = s1 at *
  generalize hw : decide (wsum b.length b ≤ 2000) = s2 at *
  unfold c15
  (repeat' first
 | (refine AWPC.of_vcn rfl ?_; simp only [zT, zV, zS, zU, vcC, lateX, ex, strp, cnd, binA, kseq, kblk, kret, klp, Abs.one, elems, cells, scalar, eqC, Nat.reduceBEq, Nat.reduceAdd, Nat.reduceSub, Nat.reduceLT, Nat.reduceLeDiff, Nat.reduceMul, Nat.reduceEqDiff, cond_true, cond_false, if_true, if_false, reduceIte, implies_true, forall_const, ne_eq])
 | (simp (disch := omega) only [wr64, Int.zero_sub]; try simp only [zT, zV, zS, zU, vcC, lateX, ex, strp, cnd, binA, kseq, kblk, kret, klp, Abs.one, elems, cells, scalar, eqC, Nat.reduceBEq, Nat.reduceAdd, Nat.reduceSub, Nat.reduceLT, Nat.reduceLeDiff, Nat.reduceMul, Nat.reduceEqDiff, cond_true, cond_false, if_true, if_false, reduceIte, implies_true, forall_const, ne_eq])
 | (refine AWPC.both (fun _ => ?_) (fun _ => ?_))
 | (refine AWPC.imp (fun _ => ?_))
 | ((repeat (refine And.intro (by (intros; first | omega | (simp_all (config := { decide := false }); done) | fail)) ?_)); (first
 | (refine .inl ⟨_, _, _, _, rfl, fun _hc => ⟨by simp, awake_spec⟩, ?_⟩)
 | (refine .inl ⟨_, _, _, _, rfl, fun _hc => ⟨by simp, h1⟩, ?_⟩)
 | (refine .inl ⟨_, _, _, _, rfl, fun _hc => ⟨by simp, h2⟩, ?_⟩)
 | (refine .inl ⟨_, _, _, _, rfl, fun _hc => ⟨by simp, h3⟩, ?_⟩)
 | (refine .inl ⟨_, _, _, _, rfl, fun _hc => ⟨by simp, h4⟩, ?_⟩)
 | (refine .inl ⟨_, _, _, _, rfl, fun _hc => ⟨by simp, h5⟩, ?_⟩)
 | (refine .inl ⟨_, _, _, _, rfl, fun _hc => ⟨by simp, h6⟩, ?_⟩)
 | (refine .inl ⟨_, _, _, _, rfl, fun _hc => ⟨by simp, h7⟩, ?_⟩)
 | (refine .inl ⟨_, _, _, _, rfl, fun _hc => ⟨by simp, h8⟩, ?_⟩)
 | (refine .inl ⟨_, _, _, _, rfl, fun _hc => ⟨by simp, h9⟩, ?_⟩)
 | (refine .inl ⟨_, _, _, _, rfl, fun _hc => ⟨by simp, h10⟩, ?_⟩)
 | (refine ⟨_, _, _, _, rfl, fun _hc => ⟨by simp, awake_spec⟩, ?_⟩)
 | (refine ⟨_, _, _, _, rfl, fun _hc => ⟨by simp, h1⟩, ?_⟩)
 | (refine ⟨_, _, _, _, rfl, fun _hc => ⟨by simp, h2⟩, ?_⟩)
 | (refine ⟨_, _, _, _, rfl, fun _hc => ⟨by simp, h3⟩, ?_⟩)
 | (refine ⟨_, _, _, _, rfl, fun _hc => ⟨by simp, h4⟩, ?_⟩)
 | (refine ⟨_, _, _, _, rfl, fun _hc => ⟨by simp, h5⟩, ?_⟩)
 | (refine ⟨_, _, _, _, rfl, fun _hc => ⟨by simp, h6⟩, ?_⟩)
 | (refine ⟨_, _, _, _, rfl, fun _hc => ⟨by simp, h7⟩, ?_⟩)
 | (refine ⟨_, _, _, _, rfl, fun _hc => ⟨by simp, h8⟩, ?_⟩)
 | (refine ⟨_, _, _, _, rfl, fun _hc => ⟨by simp, h9⟩, ?_⟩)
 | (refine ⟨_, _, _, _, rfl, fun _hc => ⟨by simp, h10⟩, ?_⟩)
 | fail); (first | refine owp_of_exs ?_ | refine pre_of_exd ?_ | refine pre_of_exe ?_ | fail); simp only [zT, zV, zS, zU, vcC, lateX, ex, strp, cnd, binA, kseq, kblk, kret, klp, Abs.one, elems, cells, scalar, eqC, Nat.reduceBEq, Nat.reduceAdd, Nat.reduceSub, Nat.reduceLT, Nat.reduceLeDiff, Nat.reduceMul, Nat.reduceEqDiff, cond_true, cond_false, if_true, if_false, reduceIte, implies_true, forall_const, ne_eq])
 | ((refine .inl ⟨_, _, _, .any, rfl, fun h => absurd h Bool.false_ne_true, ?_⟩); refine owp_of_exs ?_; simp only [zT, zV, zS, zU, vcC, lateX, ex, strp, cnd, binA, kseq, kblk, kret, klp, Abs.one, elems, cells, scalar, eqC, Nat.reduceBEq, Nat.reduceAdd, Nat.reduceSub, Nat.reduceLT, Nat.reduceLeDiff, Nat.reduceMul, Nat.reduceEqDiff, cond_true, cond_false, if_true, if_false, reduceIte, implies_true, forall_const, ne_eq])
 | (refine ⟨by omega, ?_⟩)
 | (refine And.intro (by (intros; first | (simp_all (config := { decide := false }); done) | fail)) ?_)
 | fail)
  all_goals first
    | exact Frz.eq rfl (by simp)
    | exact Frz.eq (by simp) (by simp)
    | trace_state

theorem PaperLattice_spec (a b : List (List Sp)) (ha : Lens a) (hb : Lens b) : Pure Try.prog 16 [ink a, ink b] (bl true) := by
  refine Pure.of_body Try.call16 Try.func16 k16 (Nat.le_of_ble_eq_true rfl) ?_
  have h1 := small_spec a ha.1
  have h2 := small_spec b hb.1
  have h3 := Both_spec a b ha hb
  have h4 := Both_spec b a hb ha
  have h5 := Either_spec a b ha hb
  have h6 := Either_spec b a hb ha
  have h7 := Within_spec a b ha hb
  have tB := tiny_both a b
  have tE := tiny_either a b
  have h8 := sets_tiny tB tB
  have h9 := sets_tiny tE tE
  rw [decide_eq_true rfl] at h8 h9
  rw [bothE_comm b a] at h4
  rw [eitherE_comm b a] at h6
  generalize hw : decide (wsum a.length a ≤ 2000) = s1 at *
  generalize hw : decide (wsum b.length b ≤ 2000) = s2 at *
  by_cases hj : (withinE a b).2 = 0
  case neg =>
    generalize bothE a b = B at *
    generalize eitherE a b = E at *
    generalize withinE a b = W at *
    unfold c16
    (repeat' first
 | (refine AWPC.of_vcn rfl ?_; simp only [zT, zV, zS, zU, vcC, lateX, ex, strp, cnd, binA, kseq, kblk, kret, klp, Abs.one, elems, cells, scalar, eqC, Nat.reduceBEq, Nat.reduceAdd, Nat.reduceSub, Nat.reduceLT, Nat.reduceLeDiff, Nat.reduceMul, Nat.reduceEqDiff, cond_true, cond_false, if_true, if_false, reduceIte, implies_true, forall_const, ne_eq])
 | (simp (disch := omega) only [wr64, Int.zero_sub]; try simp only [zT, zV, zS, zU, vcC, lateX, ex, strp, cnd, binA, kseq, kblk, kret, klp, Abs.one, elems, cells, scalar, eqC, Nat.reduceBEq, Nat.reduceAdd, Nat.reduceSub, Nat.reduceLT, Nat.reduceLeDiff, Nat.reduceMul, Nat.reduceEqDiff, cond_true, cond_false, if_true, if_false, reduceIte, implies_true, forall_const, ne_eq])
 | (refine AWPC.both (fun _ => ?_) (fun _ => ?_))
 | (refine AWPC.imp (fun _ => ?_))
 | ((repeat (refine And.intro (by (intros; first | omega | (simp_all (config := { decide := false }); done) | fail)) ?_)); (first
 | (refine .inl ⟨_, _, _, _, rfl, fun _hc => ⟨by simp, awake_spec⟩, ?_⟩)
 | (refine .inl ⟨_, _, _, _, rfl, fun _hc => ⟨by simp, h1⟩, ?_⟩)
 | (refine .inl ⟨_, _, _, _, rfl, fun _hc => ⟨by simp, h2⟩, ?_⟩)
 | (refine .inl ⟨_, _, _, _, rfl, fun _hc => ⟨by simp, h3⟩, ?_⟩)
 | (refine .inl ⟨_, _, _, _, rfl, fun _hc => ⟨by simp, h4⟩, ?_⟩)
 | (refine .inl ⟨_, _, _, _, rfl, fun _hc => ⟨by simp, h5⟩, ?_⟩)
 | (refine .inl ⟨_, _, _, _, rfl, fun _hc => ⟨by simp, h6⟩, ?_⟩)
 | (refine .inl ⟨_, _, _, _, rfl, fun _hc => ⟨by simp, h7⟩, ?_⟩)
 | (refine .inl ⟨_, _, _, _, rfl, fun _hc => ⟨by simp, h8⟩, ?_⟩)
 | (refine .inl ⟨_, _, _, _, rfl, fun _hc => ⟨by simp, h9⟩, ?_⟩)
 | (refine ⟨_, _, _, _, rfl, fun _hc => ⟨by simp, awake_spec⟩, ?_⟩)
 | (refine ⟨_, _, _, _, rfl, fun _hc => ⟨by simp, h1⟩, ?_⟩)
 | (refine ⟨_, _, _, _, rfl, fun _hc => ⟨by simp, h2⟩, ?_⟩)
 | (refine ⟨_, _, _, _, rfl, fun _hc => ⟨by simp, h3⟩, ?_⟩)
 | (refine ⟨_, _, _, _, rfl, fun _hc => ⟨by simp, h4⟩, ?_⟩)
 | (refine ⟨_, _, _, _, rfl, fun _hc => ⟨by simp, h5⟩, ?_⟩)
 | (refine ⟨_, _, _, _, rfl, fun _hc => ⟨by simp, h6⟩, ?_⟩)
 | (refine ⟨_, _, _, _, rfl, fun _hc => ⟨by simp, h7⟩, ?_⟩)
 | (refine ⟨_, _, _, _, rfl, fun _hc => ⟨by simp, h8⟩, ?_⟩)
 | (refine ⟨_, _, _, _, rfl, fun _hc => ⟨by simp, h9⟩, ?_⟩)
 | fail); (first | refine owp_of_exs ?_ | refine pre_of_exd ?_ | refine pre_of_exe ?_ | fail); simp only [zT, zV, zS, zU, vcC, lateX, ex, strp, cnd, binA, kseq, kblk, kret, klp, Abs.one, elems, cells, scalar, eqC, Nat.reduceBEq, Nat.reduceAdd, Nat.reduceSub, Nat.reduceLT, Nat.reduceLeDiff, Nat.reduceMul, Nat.reduceEqDiff, cond_true, cond_false, if_true, if_false, reduceIte, implies_true, forall_const, ne_eq])
 | ((refine .inl ⟨_, _, _, .any, rfl, fun h => absurd h Bool.false_ne_true, ?_⟩); refine owp_of_exs ?_; simp only [zT, zV, zS, zU, vcC, lateX, ex, strp, cnd, binA, kseq, kblk, kret, klp, Abs.one, elems, cells, scalar, eqC, Nat.reduceBEq, Nat.reduceAdd, Nat.reduceSub, Nat.reduceLT, Nat.reduceLeDiff, Nat.reduceMul, Nat.reduceEqDiff, cond_true, cond_false, if_true, if_false, reduceIte, implies_true, forall_const, ne_eq])
 | (refine ⟨by omega, ?_⟩)
 | (refine And.intro (by (intros; first | (simp_all (config := { decide := false }); done) | fail)) ?_)
 | fail)
    all_goals first
      | exact Frz.eq rfl (by simp)
      | (exfalso; omega)
      | (rename_i x; simp at x; done)
      | exact Frz.eq (by simp) (by simp)
      | (simp_all; done)
      | trace_state
  have al := withinE_ok.1 hj
  have tA := Tiny.right al.a
  have tb := Tiny.right al.b
  have h10 := Both_spec a a ha ha
  have h11 := Either_spec a a ha ha
  rw [bothE_self al.a] at h10
  rw [eitherE_self al.a] at h11
  have h12 := same_tiny 0 tA tA
  rw [decide_eq_true rfl, decide_eq_true rfl, Bool.and_self] at h12
  rw [hj] at h7
  have w1 := within_both_ok al
  have w2 := within_either_ok al
  have h15 := sets_tiny tB tA
  have h16 := sets_tiny tE tb
  by_cases hB : (bothE a b).2 = 0
  · have h13 := Either_spec a (bothE a b).1 ha tB.lens
    rw [either_bothE hB] at h13
    rw [← within_bothE hB] at h15
    rw [hB] at h3 h4
    by_cases hE : (eitherE a b).2 = 0
    · have h14 := Both_spec a (eitherE a b).1 ha tE.lens
      rw [both_eitherE hE] at h14
      rw [← within_eitherE hE] at h16
      rw [hE] at h5 h6
      generalize (bothE a b).1 = B at *
      generalize (eitherE a b).1 = E at *
      generalize (withinE a b).1 = W at *
      unfold c16
      (repeat' first
 | (refine AWPC.of_vcn rfl ?_; simp only [zT, zV, zS, zU, vcC, lateX, ex, strp, cnd, binA, kseq, kblk, kret, klp, Abs.one, elems, cells, scalar, eqC, Nat.reduceBEq, Nat.reduceAdd, Nat.reduceSub, Nat.reduceLT, Nat.reduceLeDiff, Nat.reduceMul, Nat.reduceEqDiff, cond_true, cond_false, if_true, if_false, reduceIte, implies_true, forall_const, ne_eq])
 | (simp (disch := omega) only [wr64, Int.zero_sub]; try simp only [zT, zV, zS, zU, vcC, lateX, ex, strp, cnd, binA, kseq, kblk, kret, klp, Abs.one, elems, cells, scalar, eqC, Nat.reduceBEq, Nat.reduceAdd, Nat.reduceSub, Nat.reduceLT, Nat.reduceLeDiff, Nat.reduceMul, Nat.reduceEqDiff, cond_true, cond_false, if_true, if_false, reduceIte, implies_true, forall_const, ne_eq])
 | (refine AWPC.both (fun _ => ?_) (fun _ => ?_))
 | (refine AWPC.imp (fun _ => ?_))
 | ((repeat (refine And.intro (by (intros; first | omega | (simp_all (config := { decide := false }); done) | fail)) ?_)); (first
 | (refine .inl ⟨_, _, _, _, rfl, fun _hc => ⟨by simp, awake_spec⟩, ?_⟩)
 | (refine .inl ⟨_, _, _, _, rfl, fun _hc => ⟨by simp, h1⟩, ?_⟩)
 | (refine .inl ⟨_, _, _, _, rfl, fun _hc => ⟨by simp, h2⟩, ?_⟩)
 | (refine .inl ⟨_, _, _, _, rfl, fun _hc => ⟨by simp, h3⟩, ?_⟩)
 | (refine .inl ⟨_, _, _, _, rfl, fun _hc => ⟨by simp, h4⟩, ?_⟩)
 | (refine .inl ⟨_, _, _, _, rfl, fun _hc => ⟨by simp, h5⟩, ?_⟩)
 | (refine .inl ⟨_, _, _, _, rfl, fun _hc => ⟨by simp, h6⟩, ?_⟩)
 | (refine .inl ⟨_, _, _, _, rfl, fun _hc => ⟨by simp, h7⟩, ?_⟩)
 | (refine .inl ⟨_, _, _, _, rfl, fun _hc => ⟨by simp, h8⟩, ?_⟩)
 | (refine .inl ⟨_, _, _, _, rfl, fun _hc => ⟨by simp, h9⟩, ?_⟩)
 | (refine .inl ⟨_, _, _, _, rfl, fun _hc => ⟨by simp, h10⟩, ?_⟩)
 | (refine .inl ⟨_, _, _, _, rfl, fun _hc => ⟨by simp, h11⟩, ?_⟩)
 | (refine .inl ⟨_, _, _, _, rfl, fun _hc => ⟨by simp, h12⟩, ?_⟩)
 | (refine .inl ⟨_, _, _, _, rfl, fun _hc => ⟨by simp, h13⟩, ?_⟩)
 | (refine .inl ⟨_, _, _, _, rfl, fun _hc => ⟨by simp, h14⟩, ?_⟩)
 | (refine .inl ⟨_, _, _, _, rfl, fun _hc => ⟨by simp, h15⟩, ?_⟩)
 | (refine .inl ⟨_, _, _, _, rfl, fun _hc => ⟨by simp, h16⟩, ?_⟩)
 | (refine ⟨_, _, _, _, rfl, fun _hc => ⟨by simp, awake_spec⟩, ?_⟩)
 | (refine ⟨_, _, _, _, rfl, fun _hc => ⟨by simp, h1⟩, ?_⟩)
 | (refine ⟨_, _, _, _, rfl, fun _hc => ⟨by simp, h2⟩, ?_⟩)
 | (refine ⟨_, _, _, _, rfl, fun _hc => ⟨by simp, h3⟩, ?_⟩)
 | (refine ⟨_, _, _, _, rfl, fun _hc => ⟨by simp, h4⟩, ?_⟩)
 | (refine ⟨_, _, _, _, rfl, fun _hc => ⟨by simp, h5⟩, ?_⟩)
 | (refine ⟨_, _, _, _, rfl, fun _hc => ⟨by simp, h6⟩, ?_⟩)
 | (refine ⟨_, _, _, _, rfl, fun _hc => ⟨by simp, h7⟩, ?_⟩)
 | (refine ⟨_, _, _, _, rfl, fun _hc => ⟨by simp, h8⟩, ?_⟩)
 | (refine ⟨_, _, _, _, rfl, fun _hc => ⟨by simp, h9⟩, ?_⟩)
 | (refine ⟨_, _, _, _, rfl, fun _hc => ⟨by simp, h10⟩, ?_⟩)
 | (refine ⟨_, _, _, _, rfl, fun _hc => ⟨by simp, h11⟩, ?_⟩)
 | (refine ⟨_, _, _, _, rfl, fun _hc => ⟨by simp, h12⟩, ?_⟩)
 | (refine ⟨_, _, _, _, rfl, fun _hc => ⟨by simp, h13⟩, ?_⟩)
 | (refine ⟨_, _, _, _, rfl, fun _hc => ⟨by simp, h14⟩, ?_⟩)
 | (refine ⟨_, _, _, _, rfl, fun _hc => ⟨by simp, h15⟩, ?_⟩)
 | (refine ⟨_, _, _, _, rfl, fun _hc => ⟨by simp, h16⟩, ?_⟩)
 | fail); (first | refine owp_of_exs ?_ | refine pre_of_exd ?_ | refine pre_of_exe ?_ | fail); simp only [zT, zV, zS, zU, vcC, lateX, ex, strp, cnd, binA, kseq, kblk, kret, klp, Abs.one, elems, cells, scalar, eqC, Nat.reduceBEq, Nat.reduceAdd, Nat.reduceSub, Nat.reduceLT, Nat.reduceLeDiff, Nat.reduceMul, Nat.reduceEqDiff, cond_true, cond_false, if_true, if_false, reduceIte, implies_true, forall_const, ne_eq])
 | ((refine .inl ⟨_, _, _, .any, rfl, fun h => absurd h Bool.false_ne_true, ?_⟩); refine owp_of_exs ?_; simp only [zT, zV, zS, zU, vcC, lateX, ex, strp, cnd, binA, kseq, kblk, kret, klp, Abs.one, elems, cells, scalar, eqC, Nat.reduceBEq, Nat.reduceAdd, Nat.reduceSub, Nat.reduceLT, Nat.reduceLeDiff, Nat.reduceMul, Nat.reduceEqDiff, cond_true, cond_false, if_true, if_false, reduceIte, implies_true, forall_const, ne_eq])
 | (refine ⟨by omega, ?_⟩)
 | (refine And.intro (by (intros; first | (simp_all (config := { decide := false }); done) | fail)) ?_)
 | fail)
      all_goals first
        | exact Frz.eq rfl (by simp)
        | (exfalso; omega)
        | (rename_i x; simp at x; done)
        | exact Frz.eq (by simp) (by simp)
        | (simp_all; done)
        | trace_state
    · have hWf : (withinE a b).1 = false := by rw [Bool.eq_false_iff]; exact fun g => hE (w2 g)
      generalize (bothE a b).1 = B at *
      generalize eitherE a b = E at *
      generalize (withinE a b).1 = W at *
      subst hWf
      unfold c16
      (repeat' first
 | (refine AWPC.of_vcn rfl ?_; simp only [zT, zV, zS, zU, vcC, lateX, ex, strp, cnd, binA, kseq, kblk, kret, klp, Abs.one, elems, cells, scalar, eqC, Nat.reduceBEq, Nat.reduceAdd, Nat.reduceSub, Nat.reduceLT, Nat.reduceLeDiff, Nat.reduceMul, Nat.reduceEqDiff, cond_true, cond_false, if_true, if_false, reduceIte, implies_true, forall_const, ne_eq])
 | (simp (disch := omega) only [wr64, Int.zero_sub]; try simp only [zT, zV, zS, zU, vcC, lateX, ex, strp, cnd, binA, kseq, kblk, kret, klp, Abs.one, elems, cells, scalar, eqC, Nat.reduceBEq, Nat.reduceAdd, Nat.reduceSub, Nat.reduceLT, Nat.reduceLeDiff, Nat.reduceMul, Nat.reduceEqDiff, cond_true, cond_false, if_true, if_false, reduceIte, implies_true, forall_const, ne_eq])
 | (refine AWPC.both (fun _ => ?_) (fun _ => ?_))
 | (refine AWPC.imp (fun _ => ?_))
 | ((repeat (refine And.intro (by (intros; first | omega | (simp_all (config := { decide := false }); done) | fail)) ?_)); (first
 | (refine .inl ⟨_, _, _, _, rfl, fun _hc => ⟨by simp, awake_spec⟩, ?_⟩)
 | (refine .inl ⟨_, _, _, _, rfl, fun _hc => ⟨by simp, h1⟩, ?_⟩)
 | (refine .inl ⟨_, _, _, _, rfl, fun _hc => ⟨by simp, h2⟩, ?_⟩)
 | (refine .inl ⟨_, _, _, _, rfl, fun _hc => ⟨by simp, h3⟩, ?_⟩)
 | (refine .inl ⟨_, _, _, _, rfl, fun _hc => ⟨by simp, h4⟩, ?_⟩)
 | (refine .inl ⟨_, _, _, _, rfl, fun _hc => ⟨by simp, h5⟩, ?_⟩)
 | (refine .inl ⟨_, _, _, _, rfl, fun _hc => ⟨by simp, h6⟩, ?_⟩)
 | (refine .inl ⟨_, _, _, _, rfl, fun _hc => ⟨by simp, h7⟩, ?_⟩)
 | (refine .inl ⟨_, _, _, _, rfl, fun _hc => ⟨by simp, h8⟩, ?_⟩)
 | (refine .inl ⟨_, _, _, _, rfl, fun _hc => ⟨by simp, h9⟩, ?_⟩)
 | (refine .inl ⟨_, _, _, _, rfl, fun _hc => ⟨by simp, h10⟩, ?_⟩)
 | (refine .inl ⟨_, _, _, _, rfl, fun _hc => ⟨by simp, h11⟩, ?_⟩)
 | (refine .inl ⟨_, _, _, _, rfl, fun _hc => ⟨by simp, h12⟩, ?_⟩)
 | (refine .inl ⟨_, _, _, _, rfl, fun _hc => ⟨by simp, h13⟩, ?_⟩)
 | (refine .inl ⟨_, _, _, _, rfl, fun _hc => ⟨by simp, h15⟩, ?_⟩)
 | (refine .inl ⟨_, _, _, _, rfl, fun _hc => ⟨by simp, h16⟩, ?_⟩)
 | (refine ⟨_, _, _, _, rfl, fun _hc => ⟨by simp, awake_spec⟩, ?_⟩)
 | (refine ⟨_, _, _, _, rfl, fun _hc => ⟨by simp, h1⟩, ?_⟩)
 | (refine ⟨_, _, _, _, rfl, fun _hc => ⟨by simp, h2⟩, ?_⟩)
 | (refine ⟨_, _, _, _, rfl, fun _hc => ⟨by simp, h3⟩, ?_⟩)
 | (refine ⟨_, _, _, _, rfl, fun _hc => ⟨by simp, h4⟩, ?_⟩)
 | (refine ⟨_, _, _, _, rfl, fun _hc => ⟨by simp, h5⟩, ?_⟩)
 | (refine ⟨_, _, _, _, rfl, fun _hc => ⟨by simp, h6⟩, ?_⟩)
 | (refine ⟨_, _, _, _, rfl, fun _hc => ⟨by simp, h7⟩, ?_⟩)
 | (refine ⟨_, _, _, _, rfl, fun _hc => ⟨by simp, h8⟩, ?_⟩)
 | (refine ⟨_, _, _, _, rfl, fun _hc => ⟨by simp, h9⟩, ?_⟩)
 | (refine ⟨_, _, _, _, rfl, fun _hc => ⟨by simp, h10⟩, ?_⟩)
 | (refine ⟨_, _, _, _, rfl, fun _hc => ⟨by simp, h11⟩, ?_⟩)
 | (refine ⟨_, _, _, _, rfl, fun _hc => ⟨by simp, h12⟩, ?_⟩)
 | (refine ⟨_, _, _, _, rfl, fun _hc => ⟨by simp, h13⟩, ?_⟩)
 | (refine ⟨_, _, _, _, rfl, fun _hc => ⟨by simp, h15⟩, ?_⟩)
 | (refine ⟨_, _, _, _, rfl, fun _hc => ⟨by simp, h16⟩, ?_⟩)
 | fail); (first | refine owp_of_exs ?_ | refine pre_of_exd ?_ | refine pre_of_exe ?_ | fail); simp only [zT, zV, zS, zU, vcC, lateX, ex, strp, cnd, binA, kseq, kblk, kret, klp, Abs.one, elems, cells, scalar, eqC, Nat.reduceBEq, Nat.reduceAdd, Nat.reduceSub, Nat.reduceLT, Nat.reduceLeDiff, Nat.reduceMul, Nat.reduceEqDiff, cond_true, cond_false, if_true, if_false, reduceIte, implies_true, forall_const, ne_eq])
 | ((refine .inl ⟨_, _, _, .any, rfl, fun h => absurd h Bool.false_ne_true, ?_⟩); refine owp_of_exs ?_; simp only [zT, zV, zS, zU, vcC, lateX, ex, strp, cnd, binA, kseq, kblk, kret, klp, Abs.one, elems, cells, scalar, eqC, Nat.reduceBEq, Nat.reduceAdd, Nat.reduceSub, Nat.reduceLT, Nat.reduceLeDiff, Nat.reduceMul, Nat.reduceEqDiff, cond_true, cond_false, if_true, if_false, reduceIte, implies_true, forall_const, ne_eq])
 | (refine ⟨by omega, ?_⟩)
 | (refine And.intro (by (intros; first | (simp_all (config := { decide := false }); done) | fail)) ?_)
 | fail)
      all_goals first
        | exact Frz.eq rfl (by simp)
        | (exfalso; omega)
        | (rename_i x; simp at x; done)
        | exact Frz.eq (by simp) (by simp)
        | (simp_all; done)
        | trace_state
  · have hWf : (withinE a b).1 = false := by rw [Bool.eq_false_iff]; exact fun g => hB (w1 g)
    by_cases hE : (eitherE a b).2 = 0
    · have h14 := Both_spec a (eitherE a b).1 ha tE.lens
      rw [both_eitherE hE] at h14
      rw [← within_eitherE hE] at h16
      rw [hE] at h5 h6
      generalize (withinE a b).1 = W at *
      subst hWf
      generalize bothE a b = B at *
      generalize (eitherE a b).1 = E at *
      unfold c16
      (repeat' first
 | (refine AWPC.of_vcn rfl ?_; simp only [zT, zV, zS, zU, vcC, lateX, ex, strp, cnd, binA, kseq, kblk, kret, klp, Abs.one, elems, cells, scalar, eqC, Nat.reduceBEq, Nat.reduceAdd, Nat.reduceSub, Nat.reduceLT, Nat.reduceLeDiff, Nat.reduceMul, Nat.reduceEqDiff, cond_true, cond_false, if_true, if_false, reduceIte, implies_true, forall_const, ne_eq])
 | (simp (disch := omega) only [wr64, Int.zero_sub]; try simp only [zT, zV, zS, zU, vcC, lateX, ex, strp, cnd, binA, kseq, kblk, kret, klp, Abs.one, elems, cells, scalar, eqC, Nat.reduceBEq, Nat.reduceAdd, Nat.reduceSub, Nat.reduceLT, Nat.reduceLeDiff, Nat.reduceMul, Nat.reduceEqDiff, cond_true, cond_false, if_true, if_false, reduceIte, implies_true, forall_const, ne_eq])
 | (refine AWPC.both (fun _ => ?_) (fun _ => ?_))
 | (refine AWPC.imp (fun _ => ?_))
 | ((repeat (refine And.intro (by (intros; first | omega | (simp_all (config := { decide := false }); done) | fail)) ?_)); (first
 | (refine .inl ⟨_, _, _, _, rfl, fun _hc => ⟨by simp, awake_spec⟩, ?_⟩)
 | (refine .inl ⟨_, _, _, _, rfl, fun _hc => ⟨by simp, h1⟩, ?_⟩)
 | (refine .inl ⟨_, _, _, _, rfl, fun _hc => ⟨by simp, h2⟩, ?_⟩)
 | (refine .inl ⟨_, _, _, _, rfl, fun _hc => ⟨by simp, h3⟩, ?_⟩)
 | (refine .inl ⟨_, _, _, _, rfl, fun _hc => ⟨by simp, h4⟩, ?_⟩)
 | (refine .inl ⟨_, _, _, _, rfl, fun _hc => ⟨by simp, h5⟩, ?_⟩)
 | (refine .inl ⟨_, _, _, _, rfl, fun _hc => ⟨by simp, h6⟩, ?_⟩)
 | (refine .inl ⟨_, _, _, _, rfl, fun _hc => ⟨by simp, h7⟩, ?_⟩)
 | (refine .inl ⟨_, _, _, _, rfl, fun _hc => ⟨by simp, h8⟩, ?_⟩)
 | (refine .inl ⟨_, _, _, _, rfl, fun _hc => ⟨by simp, h9⟩, ?_⟩)
 | (refine .inl ⟨_, _, _, _, rfl, fun _hc => ⟨by simp, h10⟩, ?_⟩)
 | (refine .inl ⟨_, _, _, _, rfl, fun _hc => ⟨by simp, h11⟩, ?_⟩)
 | (refine .inl ⟨_, _, _, _, rfl, fun _hc => ⟨by simp, h12⟩, ?_⟩)
 | (refine .inl ⟨_, _, _, _, rfl, fun _hc => ⟨by simp, h14⟩, ?_⟩)
 | (refine .inl ⟨_, _, _, _, rfl, fun _hc => ⟨by simp, h15⟩, ?_⟩)
 | (refine .inl ⟨_, _, _, _, rfl, fun _hc => ⟨by simp, h16⟩, ?_⟩)
 | (refine ⟨_, _, _, _, rfl, fun _hc => ⟨by simp, awake_spec⟩, ?_⟩)
 | (refine ⟨_, _, _, _, rfl, fun _hc => ⟨by simp, h1⟩, ?_⟩)
 | (refine ⟨_, _, _, _, rfl, fun _hc => ⟨by simp, h2⟩, ?_⟩)
 | (refine ⟨_, _, _, _, rfl, fun _hc => ⟨by simp, h3⟩, ?_⟩)
 | (refine ⟨_, _, _, _, rfl, fun _hc => ⟨by simp, h4⟩, ?_⟩)
 | (refine ⟨_, _, _, _, rfl, fun _hc => ⟨by simp, h5⟩, ?_⟩)
 | (refine ⟨_, _, _, _, rfl, fun _hc => ⟨by simp, h6⟩, ?_⟩)
 | (refine ⟨_, _, _, _, rfl, fun _hc => ⟨by simp, h7⟩, ?_⟩)
 | (refine ⟨_, _, _, _, rfl, fun _hc => ⟨by simp, h8⟩, ?_⟩)
 | (refine ⟨_, _, _, _, rfl, fun _hc => ⟨by simp, h9⟩, ?_⟩)
 | (refine ⟨_, _, _, _, rfl, fun _hc => ⟨by simp, h10⟩, ?_⟩)
 | (refine ⟨_, _, _, _, rfl, fun _hc => ⟨by simp, h11⟩, ?_⟩)
 | (refine ⟨_, _, _, _, rfl, fun _hc => ⟨by simp, h12⟩, ?_⟩)
 | (refine ⟨_, _, _, _, rfl, fun _hc => ⟨by simp, h14⟩, ?_⟩)
 | (refine ⟨_, _, _, _, rfl, fun _hc => ⟨by simp, h15⟩, ?_⟩)
 | (refine ⟨_, _, _, _, rfl, fun _hc => ⟨by simp, h16⟩, ?_⟩)
 | fail); (first | refine owp_of_exs ?_ | refine pre_of_exd ?_ | refine pre_of_exe ?_ | fail); simp only [zT, zV, zS, zU, vcC, lateX, ex, strp, cnd, binA, kseq, kblk, kret, klp, Abs.one, elems, cells, scalar, eqC, Nat.reduceBEq, Nat.reduceAdd, Nat.reduceSub, Nat.reduceLT, Nat.reduceLeDiff, Nat.reduceMul, Nat.reduceEqDiff, cond_true, cond_false, if_true, if_false, reduceIte, implies_true, forall_const, ne_eq])
 | ((refine .inl ⟨_, _, _, .any, rfl, fun h => absurd h Bool.false_ne_true, ?_⟩); refine owp_of_exs ?_; simp only [zT, zV, zS, zU, vcC, lateX, ex, strp, cnd, binA, kseq, kblk, kret, klp, Abs.one, elems, cells, scalar, eqC, Nat.reduceBEq, Nat.reduceAdd, Nat.reduceSub, Nat.reduceLT, Nat.reduceLeDiff, Nat.reduceMul, Nat.reduceEqDiff, cond_true, cond_false, if_true, if_false, reduceIte, implies_true, forall_const, ne_eq])
 | (refine ⟨by omega, ?_⟩)
 | (refine And.intro (by (intros; first | (simp_all (config := { decide := false }); done) | fail)) ?_)
 | fail)
      all_goals first
        | exact Frz.eq rfl (by simp)
        | (exfalso; omega)
        | (rename_i x; simp at x; done)
        | exact Frz.eq (by simp) (by simp)
        | (simp_all; done)
        | trace_state
    · generalize (withinE a b).1 = W at *
      subst hWf
      generalize bothE a b = B at *
      generalize eitherE a b = E at *
      unfold c16
      (repeat' first
 | (refine AWPC.of_vcn rfl ?_; simp only [zT, zV, zS, zU, vcC, lateX, ex, strp, cnd, binA, kseq, kblk, kret, klp, Abs.one, elems, cells, scalar, eqC, Nat.reduceBEq, Nat.reduceAdd, Nat.reduceSub, Nat.reduceLT, Nat.reduceLeDiff, Nat.reduceMul, Nat.reduceEqDiff, cond_true, cond_false, if_true, if_false, reduceIte, implies_true, forall_const, ne_eq])
 | (simp (disch := omega) only [wr64, Int.zero_sub]; try simp only [zT, zV, zS, zU, vcC, lateX, ex, strp, cnd, binA, kseq, kblk, kret, klp, Abs.one, elems, cells, scalar, eqC, Nat.reduceBEq, Nat.reduceAdd, Nat.reduceSub, Nat.reduceLT, Nat.reduceLeDiff, Nat.reduceMul, Nat.reduceEqDiff, cond_true, cond_false, if_true, if_false, reduceIte, implies_true, forall_const, ne_eq])
 | (refine AWPC.both (fun _ => ?_) (fun _ => ?_))
 | (refine AWPC.imp (fun _ => ?_))
 | ((repeat (refine And.intro (by (intros; first | omega | (simp_all (config := { decide := false }); done) | fail)) ?_)); (first
 | (refine .inl ⟨_, _, _, _, rfl, fun _hc => ⟨by simp, awake_spec⟩, ?_⟩)
 | (refine .inl ⟨_, _, _, _, rfl, fun _hc => ⟨by simp, h1⟩, ?_⟩)
 | (refine .inl ⟨_, _, _, _, rfl, fun _hc => ⟨by simp, h2⟩, ?_⟩)
 | (refine .inl ⟨_, _, _, _, rfl, fun _hc => ⟨by simp, h3⟩, ?_⟩)
 | (refine .inl ⟨_, _, _, _, rfl, fun _hc => ⟨by simp, h4⟩, ?_⟩)
 | (refine .inl ⟨_, _, _, _, rfl, fun _hc => ⟨by simp, h5⟩, ?_⟩)
 | (refine .inl ⟨_, _, _, _, rfl, fun _hc => ⟨by simp, h6⟩, ?_⟩)
 | (refine .inl ⟨_, _, _, _, rfl, fun _hc => ⟨by simp, h7⟩, ?_⟩)
 | (refine .inl ⟨_, _, _, _, rfl, fun _hc => ⟨by simp, h8⟩, ?_⟩)
 | (refine .inl ⟨_, _, _, _, rfl, fun _hc => ⟨by simp, h9⟩, ?_⟩)
 | (refine .inl ⟨_, _, _, _, rfl, fun _hc => ⟨by simp, h10⟩, ?_⟩)
 | (refine .inl ⟨_, _, _, _, rfl, fun _hc => ⟨by simp, h11⟩, ?_⟩)
 | (refine .inl ⟨_, _, _, _, rfl, fun _hc => ⟨by simp, h12⟩, ?_⟩)
 | (refine .inl ⟨_, _, _, _, rfl, fun _hc => ⟨by simp, h15⟩, ?_⟩)
 | (refine .inl ⟨_, _, _, _, rfl, fun _hc => ⟨by simp, h16⟩, ?_⟩)
 | (refine ⟨_, _, _, _, rfl, fun _hc => ⟨by simp, awake_spec⟩, ?_⟩)
 | (refine ⟨_, _, _, _, rfl, fun _hc => ⟨by simp, h1⟩, ?_⟩)
 | (refine ⟨_, _, _, _, rfl, fun _hc => ⟨by simp, h2⟩, ?_⟩)
 | (refine ⟨_, _, _, _, rfl, fun _hc => ⟨by simp, h3⟩, ?_⟩)
 | (refine ⟨_, _, _, _, rfl, fun _hc => ⟨by simp, h4⟩, ?_⟩)
 | (refine ⟨_, _, _, _, rfl, fun _hc => ⟨by simp, h5⟩, ?_⟩)
 | (refine ⟨_, _, _, _, rfl, fun _hc => ⟨by simp, h6⟩, ?_⟩)
 | (refine ⟨_, _, _, _, rfl, fun _hc => ⟨by simp, h7⟩, ?_⟩)
 | (refine ⟨_, _, _, _, rfl, fun _hc => ⟨by simp, h8⟩, ?_⟩)
 | (refine ⟨_, _, _, _, rfl, fun _hc => ⟨by simp, h9⟩, ?_⟩)
 | (refine ⟨_, _, _, _, rfl, fun _hc => ⟨by simp, h10⟩, ?_⟩)
 | (refine ⟨_, _, _, _, rfl, fun _hc => ⟨by simp, h11⟩, ?_⟩)
 | (refine ⟨_, _, _, _, rfl, fun _hc => ⟨by simp, h12⟩, ?_⟩)
 | (refine ⟨_, _, _, _, rfl, fun _hc => ⟨by simp, h15⟩, ?_⟩)
 | (refine ⟨_, _, _, _, rfl, fun _hc => ⟨by simp, h16⟩, ?_⟩)
 | fail); (first | refine owp_of_exs ?_ | refine pre_of_exd ?_ | refine pre_of_exe ?_ | fail); simp only [zT, zV, zS, zU, vcC, lateX, ex, strp, cnd, binA, kseq, kblk, kret, klp, Abs.one, elems, cells, scalar, eqC, Nat.reduceBEq, Nat.reduceAdd, Nat.reduceSub, Nat.reduceLT, Nat.reduceLeDiff, Nat.reduceMul, Nat.reduceEqDiff, cond_true, cond_false, if_true, if_false, reduceIte, implies_true, forall_const, ne_eq])
 | ((refine .inl ⟨_, _, _, .any, rfl, fun h => absurd h Bool.false_ne_true, ?_⟩); refine owp_of_exs ?_; simp only [zT, zV, zS, zU, vcC, lateX, ex, strp, cnd, binA, kseq, kblk, kret, klp, Abs.one, elems, cells, scalar, eqC, Nat.reduceBEq, Nat.reduceAdd, Nat.reduceSub, Nat.reduceLT, Nat.reduceLeDiff, Nat.reduceMul, Nat.reduceEqDiff, cond_true, cond_false, if_true, if_false, reduceIte, implies_true, forall_const, ne_eq])
 | (refine ⟨by omega, ?_⟩)
 | (refine And.intro (by (intros; first | (simp_all (config := { decide := false }); done) | fail)) ?_)
 | fail)
      all_goals first
        | exact Frz.eq rfl (by simp)
        | (exfalso; omega)
        | (rename_i x; simp at x; done)
        | exact Frz.eq (by simp) (by simp)
        | (simp_all; done)
        | trace_state

end Go.Proofs.Ytgpdckmbojmlpaa

namespace Go.Proofs.Ytgpdckmbojmlpaa
open Go.Abs
set_option linter.unusedVariables false
set_option linter.unusedSimpArgs false
set_option maxHeartbeats 4000000
set_option maxRecDepth 100000
-- aneroid/aneroidlaw01.PaperThree
def c17 : CF := ⟨268,
 (.seq (.ops [
 ⟨(some 3), .box false 56 1 (.t 0), none⟩,
 ⟨(some 4), .box false 56 1 (.t 1), none⟩,
 ⟨(some 5), .box false 56 1 (.t 2), none⟩,
 ⟨(some 6), .mv (.c (.bool false)), none⟩] [3, 4, 5])
 (.seq (.ops [
 ⟨(some 37), .call (.f 18) [], none⟩,
 ⟨(some 7), .mv (.t 37), none⟩] [3, 4, 5, 7])
 (.seq (.seq (.ops [
 ⟨(some 38), .load (some 1) (.t 3), none⟩,
 ⟨(some 39), .call (.f 45) [(.t 38)], none⟩,
 ⟨(some 40), .un .not (.t 39), none⟩,
 ⟨(some 41), .mv (.t 40), none⟩,
 ⟨(some 42), .load (some 1) (.t 4), (some (41, false))⟩,
 ⟨(some 43), .call (.f 45) [(.t 42)], (some (41, false))⟩,
 ⟨(some 44), .un .not (.t 43), (some (41, false))⟩,
 ⟨(some 45), .pick (.t 41) (.c (.bool true)) (.t 44), none⟩,
 ⟨(some 46), .mv (.t 45), none⟩,
 ⟨(some 47), .load (some 1) (.t 5), (some (46, false))⟩,
 ⟨(some 48), .call (.f 45) [(.t 47)], (some (46, false))⟩,
 ⟨(some 49), .un .not (.t 48), (some (46, false))⟩,
 ⟨(some 50), .pick (.t 46) (.c (.bool true)) (.t 49), none⟩] [3, 4, 5, 7, 50])
 (.cond (.t 50) (.seq (.ops [
 ⟨(some 51), .mv (.t 7), none⟩,
 ⟨(some 6), .mv (.t 51), none⟩] [6])
 .ret)
 .skip))
 (.seq (.ops [
 ⟨(some 53), .load (some 1) (.t 3), none⟩,
 ⟨(some 54), .load (some 1) (.t 4), none⟩,
 ⟨(some 55), .call (.f 62) [(.t 53), (.t 54)], none⟩,
 ⟨(some 52), .mv (.t 55), none⟩,
 ⟨(some 56), .ext 0 (.t 52), none⟩,
 ⟨(some 57), .ext 1 (.t 52), none⟩,
 ⟨(some 8), .alloc 56 1 [.slice none 0 0], none⟩,
 ⟨none, .store 1 (.t 8) (.t 56), none⟩,
 ⟨(some 9), .mv (.t 57), none⟩] [3, 4, 5, 7, 8, 9])
 (.seq (.ops [
 ⟨(some 59), .load (some 1) (.t 3), none⟩,
 ⟨(some 60), .load (some 1) (.t 4), none⟩,
 ⟨(some 61), .call (.f 64) [(.t 59), (.t 60)], none⟩,
 ⟨(some 58), .mv (.t 61), none⟩,
 ⟨(some 62), .ext 0 (.t 58), none⟩,
 ⟨(some 63), .ext 1 (.t 58), none⟩,
 ⟨(some 10), .alloc 56 1 [.slice none 0 0], none⟩,
 ⟨none, .store 1 (.t 10) (.t 62), none⟩,
 ⟨(some 11), .mv (.t 63), none⟩] [3, 4, 5, 7, 8, 9, 10, 11])
 (.seq (.ops [
 ⟨(some 65), .load (some 1) (.t 5), none⟩,
 ⟨(some 66), .load (some 1) (.t 3), none⟩,
 ⟨(some 67), .call (.f 61) [(.t 65), (.t 66)], none⟩,
 ⟨(some 64), .mv (.t 67), none⟩,
 ⟨(some 68), .ext 0 (.t 64), none⟩,
 ⟨(some 69), .ext 1 (.t 64), none⟩,
 ⟨(some 12), .mv (.t 68), none⟩,
 ⟨(some 13), .mv (.t 69), none⟩] [3, 4, 5, 7, 8, 9, 10, 11, 12, 13])
 (.seq (.ops [
 ⟨(some 71), .load (some 1) (.t 5), none⟩,
 ⟨(some 72), .load (some 1) (.t 4), none⟩,
 ⟨(some 73), .call (.f 61) [(.t 71), (.t 72)], none⟩,
 ⟨(some 70), .mv (.t 73), none⟩,
 ⟨(some 74), .ext 0 (.t 70), none⟩,
 ⟨(some 75), .ext 1 (.t 70), none⟩,
 ⟨(some 14), .mv (.t 74), none⟩,
 ⟨(some 15), .mv (.t 75), none⟩] [3, 4, 5, 7, 8, 9, 10, 11, 12, 13, 14, 15])
 (.seq (.seq (.ops [
 ⟨(some 76), .mv (.t 13), none⟩,
 ⟨(some 77), .bin .neq (.t 76) (.c (.int .i64 0)), none⟩,
 ⟨(some 78), .mv (.t 77), none⟩,
 ⟨(some 79), .mv (.t 15), (some (78, false))⟩,
 ⟨(some 80), .bin .neq (.t 79) (.c (.int .i64 0)), (some (78, false))⟩,
 ⟨(some 81), .pick (.t 78) (.c (.bool true)) (.t 80), none⟩] [3, 4, 5, 7, 8, 9, 10, 11, 12, 14, 81])
 (.cond (.t 81) (.seq (.ops [
 ⟨(some 82), .mv (.t 7), none⟩,
 ⟨(some 6), .mv (.t 82), none⟩] [6])
 .ret)
 .skip))
 (.seq (.seq (.ops [
 ⟨(some 83), .mv (.t 9), none⟩,
 ⟨(some 84), .bin .eql (.t 83) (.c (.int .i64 0)), none⟩] [3, 4, 5, 7, 8, 9, 10, 11, 12, 14, 84])
 (.cond (.t 84) (.seq (.ops [
 ⟨(some 86), .load (some 1) (.t 8), none⟩,
 ⟨(some 87), .load (some 1) (.t 3), none⟩,
 ⟨(some 88), .call (.f 61) [(.t 86), (.t 87)], none⟩,
 ⟨(some 85), .mv (.t 88), none⟩,
 ⟨(some 89), .ext 0 (.t 85), none⟩,
 ⟨(some 90), .ext 1 (.t 85), none⟩,
 ⟨(some 16), .mv (.t 89), none⟩,
 ⟨(some 17), .mv (.t 90), none⟩] [3, 4, 5, 7, 8, 9, 10, 11, 12, 14, 16, 17])
 (.seq (.ops [
 ⟨(some 92), .load (some 1) (.t 8), none⟩,
 ⟨(some 93), .load (some 1) (.t 4), none⟩,
 ⟨(some 94), .call (.f 61) [(.t 92), (.t 93)], none⟩,
 ⟨(some 91), .mv (.t 94), none⟩,
 ⟨(some 95), .ext 0 (.t 91), none⟩,
 ⟨(some 96), .ext 1 (.t 91), none⟩,
 ⟨(some 18), .mv (.t 95), none⟩,
 ⟨(some 19), .mv (.t 96), none⟩] [3, 4, 5, 7, 8, 9, 10, 11, 12, 14, 16, 17, 18, 19])
 (.seq (.ops [
 ⟨(some 98), .load (some 1) (.t 5), none⟩,
 ⟨(some 99), .load (some 1) (.t 8), none⟩,
 ⟨(some 100), .call (.f 61) [(.t 98), (.t 99)], none⟩,
 ⟨(some 97), .mv (.t 100), none⟩,
 ⟨(some 101), .ext 0 (.t 97), none⟩,
 ⟨(some 102), .ext 1 (.t 97), none⟩,
 ⟨(some 20), .mv (.t 101), none⟩,
 ⟨(some 21), .mv (.t 102), none⟩] [3, 4, 5, 7, 8, 9, 10, 11, 12, 14, 16, 17, 18, 19, 20, 21])
 (.seq (.ops [
 ⟨(some 103), .mv (.t 17), none⟩,
 ⟨(some 104), .bin .neq (.t 103) (.c (.int .i64 0)), none⟩,
 ⟨(some 105), .mv (.t 104), none⟩,
 ⟨(some 106), .mv (.t 19), (some (105, false))⟩,
 ⟨(some 107), .bin .neq (.t 106) (.c (.int .i64 0)), (some (105, false))⟩,
 ⟨(some 108), .pick (.t 105) (.c (.bool true)) (.t 107), none⟩,
 ⟨(some 109), .mv (.t 108), none⟩,
 ⟨(some 110), .mv (.t 21), (some (109, false))⟩,
 ⟨(some 111), .bin .neq (.t 110) (.c (.int .i64 0)), (some (109, false))⟩,
 ⟨(some 112), .pick (.t 109) (.c (.bool true)) (.t 111), none⟩,
 ⟨(some 113), .mv (.t 112), none⟩,
 ⟨(some 114), .mv (.t 16), (some (113, false))⟩,
 ⟨(some 115), .un .not (.t 114), (some (113, false))⟩,
 ⟨(some 116), .pick (.t 113) (.c (.bool true)) (.t 115), none⟩,
 ⟨(some 117), .mv (.t 116), none⟩,
 ⟨(some 118), .mv (.t 18), (some (117, false))⟩,
 ⟨(some 119), .un .not (.t 118), (some (117, false))⟩,
 ⟨(some 120), .pick (.t 117) (.c (.bool true)) (.t 119), none⟩,
 ⟨(some 121), .mv (.t 120), none⟩,
 ⟨(some 122), .mv (.t 20), (some (121, false))⟩,
 ⟨(some 123), .mv (.t 12), (some (121, false))⟩,
 ⟨(some 124), .mv (.t 123), (some (121, false))⟩,
 ⟨(some 125), .mv (.t 14), (some (124, true))⟩,
 ⟨(some 126), .pick (.t 124) (.t 125) (.c (.bool false)), (some (121, false))⟩,
 ⟨(some 127), .eqb true (.t 122) (.t 126), (some (121, false))⟩,
 ⟨(some 128), .pick (.t 121) (.c (.bool true)) (.t 127), none⟩] [3, 4, 5, 7, 8, 9, 10, 11, 12, 14, 128])
 (.cond (.t 128) (.seq (.ops [
 ⟨(some 6), .mv (.c (.bool false)), none⟩] [6])
 .ret)
 .skip)))))
 .skip))
 (.seq (.seq (.ops [
 ⟨(some 129), .mv (.t 9), none⟩,
 ⟨(some 130), .bin .eql (.t 129) (.c (.int .i64 3)), none⟩,
 ⟨(some 131), .mv (.t 130), none⟩,
 ⟨(some 132), .mv (.t 12), (some (131, true))⟩,
 ⟨(some 133), .pick (.t 131) (.t 132) (.c (.bool false)), none⟩,
 ⟨(some 134), .mv (.t 133), none⟩,
 ⟨(some 135), .mv (.t 14), (some (134, true))⟩,
 ⟨(some 136), .pick (.t 134) (.t 135) (.c (.bool false)), none⟩] [3, 4, 5, 7, 8, 9, 10, 11, 136])
 (.cond (.t 136) (.seq (.ops [
 ⟨(some 6), .mv (.c (.bool false)), none⟩] [6])
 .ret)
 .skip))
 (.seq (.seq (.ops [
 ⟨(some 137), .mv (.t 11), none⟩,
 ⟨(some 138), .bin .eql (.t 137) (.c (.int .i64 0)), none⟩] [3, 4, 5, 7, 8, 9, 10, 11, 138])
 (.cond (.t 138) (.seq (.ops [
 ⟨(some 140), .load (some 1) (.t 3), none⟩,
 ⟨(some 141), .load (some 1) (.t 10), none⟩,
 ⟨(some 142), .call (.f 61) [(.t 140), (.t 141)], none⟩,
 ⟨(some 139), .mv (.t 142), none⟩,
 ⟨(some 143), .ext 0 (.t 139), none⟩,
 ⟨(some 144), .ext 1 (.t 139), none⟩,
 ⟨(some 22), .mv (.t 143), none⟩,
 ⟨(some 23), .mv (.t 144), none⟩] [3, 4, 5, 7, 8, 9, 10, 11, 22, 23])
 (.seq (.ops [
 ⟨(some 146), .load (some 1) (.t 3), none⟩,
 ⟨(some 147), .load (some 1) (.t 5), none⟩,
 ⟨(some 148), .call (.f 61) [(.t 146), (.t 147)], none⟩,
 ⟨(some 145), .mv (.t 148), none⟩,
 ⟨(some 149), .ext 0 (.t 145), none⟩,
 ⟨(some 150), .ext 1 (.t 145), none⟩,
 ⟨(some 24), .mv (.t 149), none⟩,
 ⟨(some 25), .mv (.t 150), none⟩] [3, 4, 5, 7, 8, 9, 10, 11, 22, 23, 24, 25])
 (.seq (.ops [
 ⟨(some 152), .load (some 1) (.t 4), none⟩,
 ⟨(some 153), .load (some 1) (.t 5), none⟩,
 ⟨(some 154), .call (.f 61) [(.t 152), (.t 153)], none⟩,
 ⟨(some 151), .mv (.t 154), none⟩,
 ⟨(some 155), .ext 0 (.t 151), none⟩,
 ⟨(some 156), .ext 1 (.t 151), none⟩,
 ⟨(some 26), .mv (.t 155), none⟩,
 ⟨(some 27), .mv (.t 156), none⟩] [3, 4, 5, 7, 8, 9, 10, 11, 22, 23, 24, 25, 26, 27])
 (.seq (.ops [
 ⟨(some 158), .load (some 1) (.t 10), none⟩,
 ⟨(some 159), .load (some 1) (.t 5), none⟩,
 ⟨(some 160), .call (.f 61) [(.t 158), (.t 159)], none⟩,
 ⟨(some 157), .mv (.t 160), none⟩,
 ⟨(some 161), .ext 0 (.t 157), none⟩,
 ⟨(some 162), .ext 1 (.t 157), none⟩,
 ⟨(some 28), .mv (.t 161), none⟩,
 ⟨(some 29), .mv (.t 162), none⟩] [3, 4, 5, 7, 8, 9, 10, 11, 22, 23, 24, 25, 26, 27, 28, 29])
 (.seq (.ops [
 ⟨(some 163), .mv (.t 23), none⟩,
 ⟨(some 164), .bin .neq (.t 163) (.c (.int .i64 0)), none⟩,
 ⟨(some 165), .mv (.t 164), none⟩,
 ⟨(some 166), .mv (.t 25), (some (165, false))⟩,
 ⟨(some 167), .bin .neq (.t 166) (.c (.int .i64 0)), (some (165, false))⟩,
 ⟨(some 168), .pick (.t 165) (.c (.bool true)) (.t 167), none⟩,
 ⟨(some 169), .mv (.t 168), none⟩,
 ⟨(some 170), .mv (.t 27), (some (169, false))⟩,
 ⟨(some 171), .bin .neq (.t 170) (.c (.int .i64 0)), (some (169, false))⟩,
 ⟨(some 172), .pick (.t 169) (.c (.bool true)) (.t 171), none⟩,
 ⟨(some 173), .mv (.t 172), none⟩,
 ⟨(some 174), .mv (.t 29), (some (173, false))⟩,
 ⟨(some 175), .bin .neq (.t 174) (.c (.int .i64 0)), (some (173, false))⟩,
 ⟨(some 176), .pick (.t 173) (.c (.bool true)) (.t 175), none⟩,
 ⟨(some 177), .mv (.t 176), none⟩,
 ⟨(some 178), .mv (.t 22), (some (177, false))⟩,
 ⟨(some 179), .un .not (.t 178), (some (177, false))⟩,
 ⟨(some 180), .pick (.t 177) (.c (.bool true)) (.t 179), none⟩,
 ⟨(some 181), .mv (.t 180), none⟩,
 ⟨(some 182), .mv (.t 28), (some (181, false))⟩,
 ⟨(some 183), .mv (.t 24), (some (181, false))⟩,
 ⟨(some 184), .mv (.t 183), (some (181, false))⟩,
 ⟨(some 185), .mv (.t 26), (some (184, true))⟩,
 ⟨(some 186), .pick (.t 184) (.t 185) (.c (.bool false)), (some (181, false))⟩,
 ⟨(some 187), .eqb true (.t 182) (.t 186), (some (181, false))⟩,
 ⟨(some 188), .pick (.t 181) (.c (.bool true)) (.t 187), none⟩] [3, 4, 5, 7, 8, 9, 10, 11, 188])
 (.cond (.t 188) (.seq (.ops [
 ⟨(some 6), .mv (.c (.bool false)), none⟩] [6])
 .ret)
 .skip))))))
 .skip))
 (.seq (.ops [
 ⟨(some 190), .load (some 1) (.t 4), none⟩,
 ⟨(some 191), .load (some 1) (.t 5), none⟩,
 ⟨(some 192), .call (.f 62) [(.t 190), (.t 191)], none⟩,
 ⟨(some 189), .mv (.t 192), none⟩,
 ⟨(some 193), .ext 0 (.t 189), none⟩,
 ⟨(some 194), .ext 1 (.t 189), none⟩,
 ⟨(some 30), .alloc 56 1 [.slice none 0 0], none⟩,
 ⟨none, .store 1 (.t 30) (.t 193), none⟩,
 ⟨(some 31), .mv (.t 194), none⟩] [3, 4, 5, 7, 8, 9, 10, 11, 30, 31])
 (.seq (.ops [
 ⟨(some 196), .load (some 1) (.t 8), none⟩,
 ⟨(some 197), .load (some 1) (.t 5), none⟩,
 ⟨(some 198), .call (.f 62) [(.t 196), (.t 197)], none⟩,
 ⟨(some 195), .mv (.t 198), none⟩,
 ⟨(some 199), .ext 0 (.t 195), none⟩,
 ⟨(some 200), .ext 1 (.t 195), none⟩,
 ⟨(some 32), .alloc 56 1 [.slice none 0 0], none⟩,
 ⟨none, .store 1 (.t 32) (.t 199), none⟩,
 ⟨(some 33), .mv (.t 200), none⟩] [3, 4, 5, 7, 9, 10, 11, 30, 31, 32, 33])
 (.seq (.ops [
 ⟨(some 202), .load (some 1) (.t 3), none⟩,
 ⟨(some 203), .load (some 1) (.t 30), none⟩,
 ⟨(some 204), .call (.f 62) [(.t 202), (.t 203)], none⟩,
 ⟨(some 201), .mv (.t 204), none⟩,
 ⟨(some 205), .ext 0 (.t 201), none⟩,
 ⟨(some 206), .ext 1 (.t 201), none⟩,
 ⟨(some 34), .alloc 56 1 [.slice none 0 0], none⟩,
 ⟨none, .store 1 (.t 34) (.t 205), none⟩,
 ⟨(some 35), .mv (.t 206), none⟩] [3, 4, 5, 7, 9, 10, 11, 31, 32, 33, 34, 35])
 (.seq (.seq (.ops [
 ⟨(some 207), .mv (.t 9), none⟩,
 ⟨(some 208), .bin .eql (.t 207) (.c (.int .i64 0)), none⟩,
 ⟨(some 209), .mv (.t 208), none⟩,
 ⟨(some 210), .mv (.t 31), (some (209, true))⟩,
 ⟨(some 211), .bin .eql (.t 210) (.c (.int .i64 0)), (some (209, true))⟩,
 ⟨(some 212), .pick (.t 209) (.t 211) (.c (.bool false)), none⟩,
 ⟨(some 213), .mv (.t 212), none⟩,
 ⟨(some 214), .mv (.t 33), (some (213, true))⟩,
 ⟨(some 215), .bin .eql (.t 214) (.c (.int .i64 0)), (some (213, true))⟩,
 ⟨(some 216), .pick (.t 213) (.t 215) (.c (.bool false)), none⟩,
 ⟨(some 217), .mv (.t 216), none⟩,
 ⟨(some 218), .mv (.t 35), (some (217, true))⟩,
 ⟨(some 219), .bin .eql (.t 218) (.c (.int .i64 0)), (some (217, true))⟩,
 ⟨(some 220), .pick (.t 217) (.t 219) (.c (.bool false)), none⟩,
 ⟨(some 221), .mv (.t 220), none⟩,
 ⟨(some 222), .faddr 0 (.t 32), (some (221, true))⟩,
 ⟨(some 223), .load none (.t 222), (some (221, true))⟩,
 ⟨(some 224), .faddr 0 (.t 34), (some (221, true))⟩,
 ⟨(some 225), .load none (.t 224), (some (221, true))⟩,
 ⟨(some 226), .call (.f 59) [(.t 223), (.t 225)], (some (221, true))⟩,
 ⟨(some 227), .un .not (.t 226), (some (221, true))⟩,
 ⟨(some 228), .pick (.t 221) (.t 227) (.c (.bool false)), none⟩] [3, 4, 5, 7, 10, 11, 32, 34, 228])
 (.cond (.t 228) (.seq (.ops [
 ⟨(some 6), .mv (.c (.bool false)), none⟩] [6])
 .ret)
 .skip))
 (.seq (.ops [
 ⟨(some 230), .load (some 1) (.t 4), none⟩,
 ⟨(some 231), .load (some 1) (.t 5), none⟩,
 ⟨(some 232), .call (.f 64) [(.t 230), (.t 231)], none⟩,
 ⟨(some 229), .mv (.t 232), none⟩,
 ⟨(some 233), .ext 0 (.t 229), none⟩,
 ⟨(some 234), .ext 1 (.t 229), none⟩,
 ⟨(some 36), .alloc 56 1 [.slice none 0 0], none⟩,
 ⟨none, .store 1 (.t 36) (.t 233), none⟩,
 ⟨(some 31), .mv (.t 234), none⟩] [3, 5, 7, 10, 11, 31, 32, 34, 36])
 (.seq (.ops [
 ⟨(some 236), .load (some 1) (.t 10), none⟩,
 ⟨(some 237), .load (some 1) (.t 5), none⟩,
 ⟨(some 238), .call (.f 64) [(.t 236), (.t 237)], none⟩,
 ⟨(some 235), .mv (.t 238), none⟩,
 ⟨(some 239), .ext 0 (.t 235), none⟩,
 ⟨(some 240), .ext 1 (.t 235), none⟩,
 ⟨none, .store 1 (.t 32) (.t 239), none⟩,
 ⟨(some 33), .mv (.t 240), none⟩] [3, 7, 11, 31, 32, 33, 34, 36])
 (.seq (.ops [
 ⟨(some 242), .load (some 1) (.t 3), none⟩,
 ⟨(some 243), .load (some 1) (.t 36), none⟩,
 ⟨(some 244), .call (.f 64) [(.t 242), (.t 243)], none⟩,
 ⟨(some 241), .mv (.t 244), none⟩,
 ⟨(some 245), .ext 0 (.t 241), none⟩,
 ⟨(some 246), .ext 1 (.t 241), none⟩,
 ⟨none, .store 1 (.t 34) (.t 245), none⟩,
 ⟨(some 35), .mv (.t 246), none⟩] [7, 11, 31, 32, 33, 34, 35])
 (.seq (.ops [
 ⟨(some 247), .mv (.t 7), none⟩,
 ⟨(some 248), .mv (.t 247), none⟩,
 ⟨(some 249), .mv (.t 11), (some (248, true))⟩,
 ⟨(some 250), .bin .neq (.t 249) (.c (.int .i64 0)), (some (248, true))⟩,
 ⟨(some 251), .mv (.t 250), (some (248, true))⟩,
 ⟨(some 252), .mv (.t 31), (some (251, false))⟩,
 ⟨(some 253), .bin .neq (.t 252) (.c (.int .i64 0)), (some (251, false))⟩,
 ⟨(some 254), .pick (.t 251) (.c (.bool true)) (.t 253), (some (248, true))⟩,
 ⟨(some 255), .mv (.t 254), (some (248, true))⟩,
 ⟨(some 256), .mv (.t 33), (some (255, false))⟩,
 ⟨(some 257), .mv (.t 35), (some (255, false))⟩,
 ⟨(some 258), .bin .eql (.t 256) (.t 257), (some (255, false))⟩,
 ⟨(some 259), .mv (.t 258), (some (255, false))⟩,
 ⟨(some 260), .faddr 0 (.t 32), (some (259, true))⟩,
 ⟨(some 261), .load none (.t 260), (some (259, true))⟩,
 ⟨(some 262), .faddr 0 (.t 34), (some (259, true))⟩,
 ⟨(some 263), .load none (.t 262), (some (259, true))⟩,
 ⟨(some 264), .call (.f 59) [(.t 261), (.t 263)], (some (259, true))⟩,
 ⟨(some 265), .pick (.t 259) (.t 264) (.c (.bool false)), (some (255, false))⟩,
 ⟨(some 266), .pick (.t 255) (.c (.bool true)) (.t 265), (some (248, true))⟩,
 ⟨(some 267), .pick (.t 248) (.t 266) (.c (.bool false)), none⟩,
 ⟨(some 6), .mv (.t 267), none⟩] [6])
 .ret))))))))))))))))))),
 [.t 6]⟩
theorem k17 : chkF Try.prog Try.f17 c17 = true := by kernel_rfl

theorem three_leaf {α : Type} {a b : Int} {L R : α × Int} (h : a = 0 → b = 0 → L = R) : (¬ a = 0 ∨ ¬ b = 0) ∨ L.2 = R.2 ∧ L.1 = R.1 := by
  by_cases ha : a = 0
  · by_cases hb : b = 0
    · rw [h ha hb]; exact .inr ⟨rfl, rfl⟩
    · exact .inl (.inr hb)
  · exact .inl (.inl ha)

theorem PaperThree_spec (a b c : List (List Sp)) (ha : Lens a) (hb : Lens b) (hc : Lens c) : Pure Try.prog 17 [ink a, ink b, ink c] (bl true) := by
  refine Pure.of_body Try.call17 Try.func17 k17 (Nat.le_of_ble_eq_true rfl) ?_
  have h1 := small_spec a ha.1
  have h2 := small_spec b hb.1
  have h3 := small_spec c hc.1
  have h4 := Both_spec a b ha hb
  have h5 := Either_spec a b ha hb
  have h6 := Within_spec c a hc ha
  have h7 := Within_spec c b hc hb
  have tx := tiny_both a b
  have tu := tiny_either a b
  generalize hw : decide (wsum a.length a ≤ 2000) = s1 at *
  generalize hw : decide (wsum b.length b ≤ 2000) = s2 at *
  generalize hw : decide (wsum c.length c ≤ 2000) = s3 at *
  by_cases hj1 : (withinE c a).2 = 0
  case neg =>
    generalize bothE a b = B at *
    generalize eitherE a b = E at *
    generalize withinE c a = W1 at *
    generalize withinE c b = W2 at *
    unfold c17
    (repeat' first
 | (refine AWPC.of_vcn rfl ?_; simp only [zT, zV, zS, zU, vcC, lateX, ex, strp, cnd, binA, kseq, kblk, kret, klp, Abs.one, elems, cells, scalar, eqC, Nat.reduceBEq, Nat.reduceAdd, Nat.reduceSub, Nat.reduceLT, Nat.reduceLeDiff, Nat.reduceMul, Nat.reduceEqDiff, cond_true, cond_false, if_true, if_false, reduceIte, implies_true, forall_const, ne_eq])
 | (simp (disch := omega) only [wr64, Int.zero_sub]; try simp only [zT, zV, zS, zU, vcC, lateX, ex, strp, cnd, binA, kseq, kblk, kret, klp, Abs.one, elems, cells, scalar, eqC, Nat.reduceBEq, Nat.reduceAdd, Nat.reduceSub, Nat.reduceLT, Nat.reduceLeDiff, Nat.reduceMul, Nat.reduceEqDiff, cond_true, cond_false, if_true, if_false, reduceIte, implies_true, forall_const, ne_eq])
 | (refine AWPC.both (fun _ => ?_) (fun _ => ?_))
 | (refine AWPC.imp (fun _ => ?_))
 | ((repeat (refine And.intro (by (intros; first | omega | (simp_all (config := { decide := false }); done) | fail)) ?_)); (first
 | (refine .inl ⟨_, _, _, _, rfl, fun _hc => ⟨by simp, awake_spec⟩, ?_⟩)
 | (refine .inl ⟨_, _, _, _, rfl, fun _hc => ⟨by simp, h1⟩, ?_⟩)
 | (refine .inl ⟨_, _, _, _, rfl, fun _hc => ⟨by simp, h2⟩, ?_⟩)
 | (refine .inl ⟨_, _, _, _, rfl, fun _hc => ⟨by simp, h3⟩, ?_⟩)
 | (refine .inl ⟨_, _, _, _, rfl, fun _hc => ⟨by simp, h4⟩, ?_⟩)
 | (refine .inl ⟨_, _, _, _, rfl, fun _hc => ⟨by simp, h5⟩, ?_⟩)
 | (refine .inl ⟨_, _, _, _, rfl, fun _hc => ⟨by simp, h6⟩, ?_⟩)
 | (refine .inl ⟨_, _, _, _, rfl, fun _hc => ⟨by simp, h7⟩, ?_⟩)
 | (refine ⟨_, _, _, _, rfl, fun _hc => ⟨by simp, awake_spec⟩, ?_⟩)
 | (refine ⟨_, _, _, _, rfl, fun _hc => ⟨by simp, h1⟩, ?_⟩)
 | (refine ⟨_, _, _, _, rfl, fun _hc => ⟨by simp, h2⟩, ?_⟩)
 | (refine ⟨_, _, _, _, rfl, fun _hc => ⟨by simp, h3⟩, ?_⟩)
 | (refine ⟨_, _, _, _, rfl, fun _hc => ⟨by simp, h4⟩, ?_⟩)
 | (refine ⟨_, _, _, _, rfl, fun _hc => ⟨by simp, h5⟩, ?_⟩)
 | (refine ⟨_, _, _, _, rfl, fun _hc => ⟨by simp, h6⟩, ?_⟩)
 | (refine ⟨_, _, _, _, rfl, fun _hc => ⟨by simp, h7⟩, ?_⟩)
 | fail); (first | refine owp_of_exs ?_ | refine pre_of_exd ?_ | refine pre_of_exe ?_ | fail); simp only [zT, zV, zS, zU, vcC, lateX, ex, strp, cnd, binA, kseq, kblk, kret, klp, Abs.one, elems, cells, scalar, eqC, Nat.reduceBEq, Nat.reduceAdd, Nat.reduceSub, Nat.reduceLT, Nat.reduceLeDiff, Nat.reduceMul, Nat.reduceEqDiff, cond_true, cond_false, if_true, if_false, reduceIte, implies_true, forall_const, ne_eq])
 | ((refine .inl ⟨_, _, _, .any, rfl, fun h => absurd h Bool.false_ne_true, ?_⟩); refine owp_of_exs ?_; simp only [zT, zV, zS, zU, vcC, lateX, ex, strp, cnd, binA, kseq, kblk, kret, klp, Abs.one, elems, cells, scalar, eqC, Nat.reduceBEq, Nat.reduceAdd, Nat.reduceSub, Nat.reduceLT, Nat.reduceLeDiff, Nat.reduceMul, Nat.reduceEqDiff, cond_true, cond_false, if_true, if_false, reduceIte, implies_true, forall_const, ne_eq])
 | (refine ⟨by omega, ?_⟩)
 | (refine And.intro (by (intros; first | (simp_all (config := { decide := false }); done) | fail)) ?_)
 | fail)
    all_goals first
      | exact Frz.eq rfl (by simp)
      | (exfalso; omega)
      | (rename_i x; simp at x; done)
      | trace_state
  by_cases hj2 : (withinE c b).2 = 0
  case neg =>
    generalize bothE a b = B at *
    generalize eitherE a b = E at *
    generalize withinE c a = W1 at *
    generalize withinE c b = W2 at *
    unfold c17
    (repeat' first
 | (refine AWPC.of_vcn rfl ?_; simp only [zT, zV, zS, zU, vcC, lateX, ex, strp, cnd, binA, kseq, kblk, kret, klp, Abs.one, elems, cells, scalar, eqC, Nat.reduceBEq, Nat.reduceAdd, Nat.reduceSub, Nat.reduceLT, Nat.reduceLeDiff, Nat.reduceMul, Nat.reduceEqDiff, cond_true, cond_false, if_true, if_false, reduceIte, implies_true, forall_const, ne_eq])
 | (simp (disch := omega) only [wr64, Int.zero_sub]; try simp only [zT, zV, zS, zU, vcC, lateX, ex, strp, cnd, binA, kseq, kblk, kret, klp, Abs.one, elems, cells, scalar, eqC, Nat.reduceBEq, Nat.reduceAdd, Nat.reduceSub, Nat.reduceLT, Nat.reduceLeDiff, Nat.reduceMul, Nat.reduceEqDiff, cond_true, cond_false, if_true, if_false, reduceIte, implies_true, forall_const, ne_eq])
 | (refine AWPC.both (fun _ => ?_) (fun _ => ?_))
 | (refine AWPC.imp (fun _ => ?_))
 | ((repeat (refine And.intro (by (intros; first | omega | (simp_all (config := { decide := false }); done) | fail)) ?_)); (first
 | (refine .inl ⟨_, _, _, _, rfl, fun _hc => ⟨by simp, awake_spec⟩, ?_⟩)
 | (refine .inl ⟨_, _, _, _, rfl, fun _hc => ⟨by simp, h1⟩, ?_⟩)
 | (refine .inl ⟨_, _, _, _, rfl, fun _hc => ⟨by simp, h2⟩, ?_⟩)
 | (refine .inl ⟨_, _, _, _, rfl, fun _hc => ⟨by simp, h3⟩, ?_⟩)
 | (refine .inl ⟨_, _, _, _, rfl, fun _hc => ⟨by simp, h4⟩, ?_⟩)
 | (refine .inl ⟨_, _, _, _, rfl, fun _hc => ⟨by simp, h5⟩, ?_⟩)
 | (refine .inl ⟨_, _, _, _, rfl, fun _hc => ⟨by simp, h6⟩, ?_⟩)
 | (refine .inl ⟨_, _, _, _, rfl, fun _hc => ⟨by simp, h7⟩, ?_⟩)
 | (refine ⟨_, _, _, _, rfl, fun _hc => ⟨by simp, awake_spec⟩, ?_⟩)
 | (refine ⟨_, _, _, _, rfl, fun _hc => ⟨by simp, h1⟩, ?_⟩)
 | (refine ⟨_, _, _, _, rfl, fun _hc => ⟨by simp, h2⟩, ?_⟩)
 | (refine ⟨_, _, _, _, rfl, fun _hc => ⟨by simp, h3⟩, ?_⟩)
 | (refine ⟨_, _, _, _, rfl, fun _hc => ⟨by simp, h4⟩, ?_⟩)
 | (refine ⟨_, _, _, _, rfl, fun _hc => ⟨by simp, h5⟩, ?_⟩)
 | (refine ⟨_, _, _, _, rfl, fun _hc => ⟨by simp, h6⟩, ?_⟩)
 | (refine ⟨_, _, _, _, rfl, fun _hc => ⟨by simp, h7⟩, ?_⟩)
 | fail); (first | refine owp_of_exs ?_ | refine pre_of_exd ?_ | refine pre_of_exe ?_ | fail); simp only [zT, zV, zS, zU, vcC, lateX, ex, strp, cnd, binA, kseq, kblk, kret, klp, Abs.one, elems, cells, scalar, eqC, Nat.reduceBEq, Nat.reduceAdd, Nat.reduceSub, Nat.reduceLT, Nat.reduceLeDiff, Nat.reduceMul, Nat.reduceEqDiff, cond_true, cond_false, if_true, if_false, reduceIte, implies_true, forall_const, ne_eq])
 | ((refine .inl ⟨_, _, _, .any, rfl, fun h => absurd h Bool.false_ne_true, ?_⟩); refine owp_of_exs ?_; simp only [zT, zV, zS, zU, vcC, lateX, ex, strp, cnd, binA, kseq, kblk, kret, klp, Abs.one, elems, cells, scalar, eqC, Nat.reduceBEq, Nat.reduceAdd, Nat.reduceSub, Nat.reduceLT, Nat.reduceLeDiff, Nat.reduceMul, Nat.reduceEqDiff, cond_true, cond_false, if_true, if_false, reduceIte, implies_true, forall_const, ne_eq])
 | (refine ⟨by omega, ?_⟩)
 | (refine And.intro (by (intros; first | (simp_all (config := { decide := false }); done) | fail)) ?_)
 | fail)
    all_goals first
      | exact Frz.eq rfl (by simp)
      | (exfalso; omega)
      | (rename_i x; simp at x; done)
      | trace_state
  have ca := withinE_ok.1 hj1
  have cb := withinE_ok.1 hj2
  have ty := tiny_both b c
  have tv := tiny_either b c
  have h8 := Within_spec (bothE a b).1 a tx.lens ha
  have h9 := Within_spec (bothE a b).1 b tx.lens hb
  have h10 := Within_spec c (bothE a b).1 hc tx.lens
  have h11 := Within_spec a (eitherE a b).1 ha tu.lens
  have h12 := Within_spec a c ha hc
  have h13 := Within_spec b c hb hc
  have h14 := Within_spec (eitherE a b).1 c tu.lens hc
  have h15 := Both_spec b c hb hc
  have h16 := Both_spec (bothE a b).1 c tx.lens hc
  have h17 := Both_spec a (bothE b c).1 ha ty.lens
  have h18 := Either_spec b c hb hc
  have h19 := Either_spec (eitherE a b).1 c tu.lens hc
  have h20 := Either_spec a (eitherE b c).1 ha tv.lens
  have h21 := sets_tiny (tiny_both (bothE a b).1 c) (tiny_both a (bothE b c).1)
  have h22 := sets_tiny (tiny_either (eitherE a b).1 c) (tiny_either a (eitherE b c).1)
  have f1 := three_both ca cb
  have f2 := three_none ca cb
  have f3 := three_either ca cb
  have f4 := three_both_assoc (a := a) (b := b) (c := c)
  have f5 := three_either_assoc (a := a) (b := b) (c := c)
  have f6 := withinE_ok.2 ca.comm
  have f7 := withinE_ok.2 cb.comm
  rw [hj1] at h6
  rw [hj2] at h7
  rw [f6] at h12
  rw [f7] at h13
  clear ca cb f6 f7 hj1 hj2 tx tu ty tv ha hb hc
  generalize eitherE (eitherE a b).1 c = L2 at *
  generalize eitherE a (eitherE b c).1 = R2 at *
  generalize bothE (bothE a b).1 c = L1 at *
  generalize bothE a (bothE b c).1 = R1 at *
  generalize withinE (bothE a b).1 a = r at *
  generalize withinE (bothE a b).1 b = s at *
  generalize withinE c (bothE a b).1 = t at *
  generalize withinE a (eitherE a b).1 = v at *
  generalize withinE (eitherE a b).1 c = w at *
  generalize (withinE c a).1 = p at *
  generalize (withinE c b).1 = q at *
  generalize (withinE a c).1 = p' at *
  generalize (withinE b c).1 = q' at *
  generalize bothE a b = x at *
  generalize eitherE a b = u at *
  generalize bothE b c = y at *
  generalize eitherE b c = z at *
  by_cases he : x.2 = 0
  · obtain ⟨rfl, rfl, rfl⟩ := f1 he
    unfold c17
    (repeat' first
 | (refine AWPC.of_vcn rfl ?_; simp only [zT, zV, zS, zU, vcC, lateX, ex, strp, cnd, binA, kseq, kblk, kret, klp, Abs.one, elems, cells, scalar, eqC, Nat.reduceBEq, Nat.reduceAdd, Nat.reduceSub, Nat.reduceLT, Nat.reduceLeDiff, Nat.reduceMul, Nat.reduceEqDiff, cond_true, cond_false, if_true, if_false, reduceIte, implies_true, forall_const, ne_eq, Int.reduceEq])
 | (simp (disch := omega) only [wr64, Int.zero_sub]; try simp only [zT, zV, zS, zU, vcC, lateX, ex, strp, cnd, binA, kseq, kblk, kret, klp, Abs.one, elems, cells, scalar, eqC, Nat.reduceBEq, Nat.reduceAdd, Nat.reduceSub, Nat.reduceLT, Nat.reduceLeDiff, Nat.reduceMul, Nat.reduceEqDiff, cond_true, cond_false, if_true, if_false, reduceIte, implies_true, forall_const, ne_eq, Int.reduceEq])
 | (refine AWPC.both (fun _ => ?_) (fun _ => ?_))
 | (refine AWPC.imp (fun _ => ?_))
 | ((repeat (refine And.intro (by (intros; first | omega | (simp_all (config := { decide := false }); done) | fail)) ?_)); (first
 | (refine .inl ⟨_, _, _, _, rfl, fun _hc => ⟨by simp, awake_spec⟩, ?_⟩)
 | (refine .inl ⟨_, _, _, _, rfl, fun _hc => ⟨by simp, h1⟩, ?_⟩)
 | (refine .inl ⟨_, _, _, _, rfl, fun _hc => ⟨by simp, h2⟩, ?_⟩)
 | (refine .inl ⟨_, _, _, _, rfl, fun _hc => ⟨by simp, h3⟩, ?_⟩)
 | (refine .inl ⟨_, _, _, _, rfl, fun _hc => ⟨by simp, h4⟩, ?_⟩)
 | (refine .inl ⟨_, _, _, _, rfl, fun _hc => ⟨by simp, h5⟩, ?_⟩)
 | (refine .inl ⟨_, _, _, _, rfl, fun _hc => ⟨by simp, h6⟩, ?_⟩)
 | (refine .inl ⟨_, _, _, _, rfl, fun _hc => ⟨by simp, h7⟩, ?_⟩)
 | (refine .inl ⟨_, _, _, _, rfl, fun _hc => ⟨by simp, h8⟩, ?_⟩)
 | (refine .inl ⟨_, _, _, _, rfl, fun _hc => ⟨by simp, h9⟩, ?_⟩)
 | (refine .inl ⟨_, _, _, _, rfl, fun _hc => ⟨by simp, h10⟩, ?_⟩)
 | (refine .inl ⟨_, _, _, _, rfl, fun _hc => ⟨by simp, h11⟩, ?_⟩)
 | (refine .inl ⟨_, _, _, _, rfl, fun _hc => ⟨by simp, h12⟩, ?_⟩)
 | (refine .inl ⟨_, _, _, _, rfl, fun _hc => ⟨by simp, h13⟩, ?_⟩)
 | (refine .inl ⟨_, _, _, _, rfl, fun _hc => ⟨by simp, h14⟩, ?_⟩)
 | (refine .inl ⟨_, _, _, _, rfl, fun _hc => ⟨by simp, h15⟩, ?_⟩)
 | (refine .inl ⟨_, _, _, _, rfl, fun _hc => ⟨by simp, h16⟩, ?_⟩)
 | (refine .inl ⟨_, _, _, _, rfl, fun _hc => ⟨by simp, h17⟩, ?_⟩)
 | (refine .inl ⟨_, _, _, _, rfl, fun _hc => ⟨by simp, h18⟩, ?_⟩)
 | (refine .inl ⟨_, _, _, _, rfl, fun _hc => ⟨by simp, h19⟩, ?_⟩)
 | (refine .inl ⟨_, _, _, _, rfl, fun _hc => ⟨by simp, h20⟩, ?_⟩)
 | (refine .inl ⟨_, _, _, _, rfl, fun _hc => ⟨by simp, h21⟩, ?_⟩)
 | (refine .inl ⟨_, _, _, _, rfl, fun _hc => ⟨by simp, h22⟩, ?_⟩)
 | (refine ⟨_, _, _, _, rfl, fun _hc => ⟨by simp, awake_spec⟩, ?_⟩)
 | (refine ⟨_, _, _, _, rfl, fun _hc => ⟨by simp, h1⟩, ?_⟩)
 | (refine ⟨_, _, _, _, rfl, fun _hc => ⟨by simp, h2⟩, ?_⟩)
 | (refine ⟨_, _, _, _, rfl, fun _hc => ⟨by simp, h3⟩, ?_⟩)
 | (refine ⟨_, _, _, _, rfl, fun _hc => ⟨by simp, h4⟩, ?_⟩)
 | (refine ⟨_, _, _, _, rfl, fun _hc => ⟨by simp, h5⟩, ?_⟩)
 | (refine ⟨_, _, _, _, rfl, fun _hc => ⟨by simp, h6⟩, ?_⟩)
 | (refine ⟨_, _, _, _, rfl, fun _hc => ⟨by simp, h7⟩, ?_⟩)
 | (refine ⟨_, _, _, _, rfl, fun _hc => ⟨by simp, h8⟩, ?_⟩)
 | (refine ⟨_, _, _, _, rfl, fun _hc => ⟨by simp, h9⟩, ?_⟩)
 | (refine ⟨_, _, _, _, rfl, fun _hc => ⟨by simp, h10⟩, ?_⟩)
 | (refine ⟨_, _, _, _, rfl, fun _hc => ⟨by simp, h11⟩, ?_⟩)
 | (refine ⟨_, _, _, _, rfl, fun _hc => ⟨by simp, h12⟩, ?_⟩)
 | (refine ⟨_, _, _, _, rfl, fun _hc => ⟨by simp, h13⟩, ?_⟩)
 | (refine ⟨_, _, _, _, rfl, fun _hc => ⟨by simp, h14⟩, ?_⟩)
 | (refine ⟨_, _, _, _, rfl, fun _hc => ⟨by simp, h15⟩, ?_⟩)
 | (refine ⟨_, _, _, _, rfl, fun _hc => ⟨by simp, h16⟩, ?_⟩)
 | (refine ⟨_, _, _, _, rfl, fun _hc => ⟨by simp, h17⟩, ?_⟩)
 | (refine ⟨_, _, _, _, rfl, fun _hc => ⟨by simp, h18⟩, ?_⟩)
 | (refine ⟨_, _, _, _, rfl, fun _hc => ⟨by simp, h19⟩, ?_⟩)
 | (refine ⟨_, _, _, _, rfl, fun _hc => ⟨by simp, h20⟩, ?_⟩)
 | (refine ⟨_, _, _, _, rfl, fun _hc => ⟨by simp, h21⟩, ?_⟩)
 | (refine ⟨_, _, _, _, rfl, fun _hc => ⟨by simp, h22⟩, ?_⟩)
 | fail); (first | refine owp_of_exs ?_ | refine pre_of_exd ?_ | refine pre_of_exe ?_ | fail); simp only [zT, zV, zS, zU, vcC, lateX, ex, strp, cnd, binA, kseq, kblk, kret, klp, Abs.one, elems, cells, scalar, eqC, Nat.reduceBEq, Nat.reduceAdd, Nat.reduceSub, Nat.reduceLT, Nat.reduceLeDiff, Nat.reduceMul, Nat.reduceEqDiff, cond_true, cond_false, if_true, if_false, reduceIte, implies_true, forall_const, ne_eq, Int.reduceEq])
 | ((refine .inl ⟨_, _, _, .any, rfl, fun h => absurd h Bool.false_ne_true, ?_⟩); refine owp_of_exs ?_; simp only [zT, zV, zS, zU, vcC, lateX, ex, strp, cnd, binA, kseq, kblk, kret, klp, Abs.one, elems, cells, scalar, eqC, Nat.reduceBEq, Nat.reduceAdd, Nat.reduceSub, Nat.reduceLT, Nat.reduceLeDiff, Nat.reduceMul, Nat.reduceEqDiff, cond_true, cond_false, if_true, if_false, reduceIte, implies_true, forall_const, ne_eq, Int.reduceEq])
 | (refine ⟨by omega, ?_⟩)
 | (refine And.intro (by (intros; first | (simp_all (config := { decide := false }); done) | fail)) ?_)
 | fail)
    all_goals first
      | exact Frz.eq rfl (by simp)
      | exact Frz.eq (congrArg bl (decide_eq_true (three_leaf f5))) (PureV.v _)
      | (clear h1 h2 h3 h4 h5 h6 h7 h8 h9 h10 h11 h12 h13 h14 h15 h16 h17 h18 h19 h20 h21 h22; exfalso; simp_all; done)
      | (clear h1 h2 h3 h4 h5 h6 h7 h8 h9 h10 h11 h12 h13 h14 h15 h16 h17 h18 h19 h20 h21 h22; refine Frz.eq (congrArg bl ?_) (PureV.v _); simp_all; done)
      | trace_state
  · unfold c17
    (repeat' first
 | (refine AWPC.of_vcn rfl ?_; simp only [zT, zV, zS, zU, vcC, lateX, ex, strp, cnd, binA, kseq, kblk, kret, klp, Abs.one, elems, cells, scalar, eqC, Nat.reduceBEq, Nat.reduceAdd, Nat.reduceSub, Nat.reduceLT, Nat.reduceLeDiff, Nat.reduceMul, Nat.reduceEqDiff, cond_true, cond_false, if_true, if_false, reduceIte, implies_true, forall_const, ne_eq, Int.reduceEq])
 | (simp (disch := omega) only [wr64, Int.zero_sub]; try simp only [zT, zV, zS, zU, vcC, lateX, ex, strp, cnd, binA, kseq, kblk, kret, klp, Abs.one, elems, cells, scalar, eqC, Nat.reduceBEq, Nat.reduceAdd, Nat.reduceSub, Nat.reduceLT, Nat.reduceLeDiff, Nat.reduceMul, Nat.reduceEqDiff, cond_true, cond_false, if_true, if_false, reduceIte, implies_true, forall_const, ne_eq, Int.reduceEq])
 | (refine AWPC.both (fun _ => ?_) (fun _ => ?_))
 | (refine AWPC.imp (fun _ => ?_))
 | ((repeat (refine And.intro (by (intros; first | omega | (simp_all (config := { decide := false }); done) | fail)) ?_)); (first
 | (refine .inl ⟨_, _, _, _, rfl, fun _hc => ⟨by simp, awake_spec⟩, ?_⟩)
 | (refine .inl ⟨_, _, _, _, rfl, fun _hc => ⟨by simp, h1⟩, ?_⟩)
 | (refine .inl ⟨_, _, _, _, rfl, fun _hc => ⟨by simp, h2⟩, ?_⟩)
 | (refine .inl ⟨_, _, _, _, rfl, fun _hc => ⟨by simp, h3⟩, ?_⟩)
 | (refine .inl ⟨_, _, _, _, rfl, fun _hc => ⟨by simp, h4⟩, ?_⟩)
 | (refine .inl ⟨_, _, _, _, rfl, fun _hc => ⟨by simp, h5⟩, ?_⟩)
 | (refine .inl ⟨_, _, _, _, rfl, fun _hc => ⟨by simp, h6⟩, ?_⟩)
 | (refine .inl ⟨_, _, _, _, rfl, fun _hc => ⟨by simp, h7⟩, ?_⟩)
 | (refine .inl ⟨_, _, _, _, rfl, fun _hc => ⟨by simp, h8⟩, ?_⟩)
 | (refine .inl ⟨_, _, _, _, rfl, fun _hc => ⟨by simp, h9⟩, ?_⟩)
 | (refine .inl ⟨_, _, _, _, rfl, fun _hc => ⟨by simp, h10⟩, ?_⟩)
 | (refine .inl ⟨_, _, _, _, rfl, fun _hc => ⟨by simp, h11⟩, ?_⟩)
 | (refine .inl ⟨_, _, _, _, rfl, fun _hc => ⟨by simp, h12⟩, ?_⟩)
 | (refine .inl ⟨_, _, _, _, rfl, fun _hc => ⟨by simp, h13⟩, ?_⟩)
 | (refine .inl ⟨_, _, _, _, rfl, fun _hc => ⟨by simp, h14⟩, ?_⟩)
 | (refine .inl ⟨_, _, _, _, rfl, fun _hc => ⟨by simp, h15⟩, ?_⟩)
 | (refine .inl ⟨_, _, _, _, rfl, fun _hc => ⟨by simp, h16⟩, ?_⟩)
 | (refine .inl ⟨_, _, _, _, rfl, fun _hc => ⟨by simp, h17⟩, ?_⟩)
 | (refine .inl ⟨_, _, _, _, rfl, fun _hc => ⟨by simp, h18⟩, ?_⟩)
 | (refine .inl ⟨_, _, _, _, rfl, fun _hc => ⟨by simp, h19⟩, ?_⟩)
 | (refine .inl ⟨_, _, _, _, rfl, fun _hc => ⟨by simp, h20⟩, ?_⟩)
 | (refine .inl ⟨_, _, _, _, rfl, fun _hc => ⟨by simp, h21⟩, ?_⟩)
 | (refine .inl ⟨_, _, _, _, rfl, fun _hc => ⟨by simp, h22⟩, ?_⟩)
 | (refine ⟨_, _, _, _, rfl, fun _hc => ⟨by simp, awake_spec⟩, ?_⟩)
 | (refine ⟨_, _, _, _, rfl, fun _hc => ⟨by simp, h1⟩, ?_⟩)
 | (refine ⟨_, _, _, _, rfl, fun _hc => ⟨by simp, h2⟩, ?_⟩)
 | (refine ⟨_, _, _, _, rfl, fun _hc => ⟨by simp, h3⟩, ?_⟩)
 | (refine ⟨_, _, _, _, rfl, fun _hc => ⟨by simp, h4⟩, ?_⟩)
 | (refine ⟨_, _, _, _, rfl, fun _hc => ⟨by simp, h5⟩, ?_⟩)
 | (refine ⟨_, _, _, _, rfl, fun _hc => ⟨by simp, h6⟩, ?_⟩)
 | (refine ⟨_, _, _, _, rfl, fun _hc => ⟨by simp, h7⟩, ?_⟩)
 | (refine ⟨_, _, _, _, rfl, fun _hc => ⟨by simp, h8⟩, ?_⟩)
 | (refine ⟨_, _, _, _, rfl, fun _hc => ⟨by simp, h9⟩, ?_⟩)
 | (refine ⟨_, _, _, _, rfl, fun _hc => ⟨by simp, h10⟩, ?_⟩)
 | (refine ⟨_, _, _, _, rfl, fun _hc => ⟨by simp, h11⟩, ?_⟩)
 | (refine ⟨_, _, _, _, rfl, fun _hc => ⟨by simp, h12⟩, ?_⟩)
 | (refine ⟨_, _, _, _, rfl, fun _hc => ⟨by simp, h13⟩, ?_⟩)
 | (refine ⟨_, _, _, _, rfl, fun _hc => ⟨by simp, h14⟩, ?_⟩)
 | (refine ⟨_, _, _, _, rfl, fun _hc => ⟨by simp, h15⟩, ?_⟩)
 | (refine ⟨_, _, _, _, rfl, fun _hc => ⟨by simp, h16⟩, ?_⟩)
 | (refine ⟨_, _, _, _, rfl, fun _hc => ⟨by simp, h17⟩, ?_⟩)
 | (refine ⟨_, _, _, _, rfl, fun _hc => ⟨by simp, h18⟩, ?_⟩)
 | (refine ⟨_, _, _, _, rfl, fun _hc => ⟨by simp, h19⟩, ?_⟩)
 | (refine ⟨_, _, _, _, rfl, fun _hc => ⟨by simp, h20⟩, ?_⟩)
 | (refine ⟨_, _, _, _, rfl, fun _hc => ⟨by simp, h21⟩, ?_⟩)
 | (refine ⟨_, _, _, _, rfl, fun _hc => ⟨by simp, h22⟩, ?_⟩)
 | fail); (first | refine owp_of_exs ?_ | refine pre_of_exd ?_ | refine pre_of_exe ?_ | fail); simp only [zT, zV, zS, zU, vcC, lateX, ex, strp, cnd, binA, kseq, kblk, kret, klp, Abs.one, elems, cells, scalar, eqC, Nat.reduceBEq, Nat.reduceAdd, Nat.reduceSub, Nat.reduceLT, Nat.reduceLeDiff, Nat.reduceMul, Nat.reduceEqDiff, cond_true, cond_false, if_true, if_false, reduceIte, implies_true, forall_const, ne_eq, Int.reduceEq])
 | ((refine .inl ⟨_, _, _, .any, rfl, fun h => absurd h Bool.false_ne_true, ?_⟩); refine owp_of_exs ?_; simp only [zT, zV, zS, zU, vcC, lateX, ex, strp, cnd, binA, kseq, kblk, kret, klp, Abs.one, elems, cells, scalar, eqC, Nat.reduceBEq, Nat.reduceAdd, Nat.reduceSub, Nat.reduceLT, Nat.reduceLeDiff, Nat.reduceMul, Nat.reduceEqDiff, cond_true, cond_false, if_true, if_false, reduceIte, implies_true, forall_const, ne_eq, Int.reduceEq])
 | (refine ⟨by omega, ?_⟩)
 | (refine And.intro (by (intros; first | (simp_all (config := { decide := false }); done) | fail)) ?_)
 | fail)
    all_goals first
      | exact Frz.eq rfl (by simp)
      | exact Frz.eq (congrArg bl (decide_eq_true (three_leaf f5))) (PureV.v _)
      | (clear h1 h2 h3 h4 h5 h6 h7 h8 h9 h10 h11 h12 h13 h14 h15 h16 h17 h18 h19 h20 h21 h22; exfalso; simp_all; done)
      | (clear h1 h2 h3 h4 h5 h6 h7 h8 h9 h10 h11 h12 h13 h14 h15 h16 h17 h18 h19 h20 h21 h22; refine Frz.eq (congrArg bl ?_) (PureV.v _); simp_all; done)
      | trace_state
end Go.Proofs.Ytgpdckmbojmlpaa

namespace Go.Proofs.Ytgpdckmbojmlpaa
open Go.Abs
set_option linter.unusedVariables false
set_option linter.unusedSimpArgs false
set_option maxHeartbeats 4000000
set_option maxRecDepth 100000
open Go.ChangeShapes Go.WideShapes Go.ChangeAt Go.RowKit

theorem own : ownKnob Try.prog.godebug = none := by kernel_rfl
theorem laidOut : laidOutB Try.prog = true := by kernel_rfl

theorem cells23 : Try.prog.cellsOf 23 = 2 := by kernel_rfl

end Go.Proofs.Ytgpdckmbojmlpaa

namespace Go.Proofs.Ytgpdckmbojmlpaa
open Go.Abs
set_option linter.unusedVariables false
set_option linter.unusedSimpArgs false
set_option maxHeartbeats 4000000
set_option maxRecDepth 100000
open Go.ChangeShapes Go.WideShapes Go.RowKit

theorem cells3 : Try.prog.cellsOf 3 = 1 := by kernel_rfl
theorem cells34 : Try.prog.cellsOf 34 = 1 := by kernel_rfl
theorem cells54 : Try.prog.cellsOf 54 = 1 := by kernel_rfl
theorem cells56 : Try.prog.cellsOf 56 = 1 := by kernel_rfl

theorem op3 : Opens Try.prog 3 Int (fun z => [n z]) (fun _ => True) := (opens_int Try.underlying3).to id (fun _ => rfl) (fun _ _ => trivial)
theorem op23 : Opens Try.prog 23 Sp Sp.cs (fun _ => True) :=
  (opens_struct Try.underlying23 cells23 (fun _ => rfl) (opensF_cons rfl cells3 op3 (fun _ => rfl) (opensF_cons rfl cells3 op3 (fun _ => rfl) (opensF_nil _)))).to (fun a => ⟨a.1, a.2.1⟩) (fun _ => rfl) (fun _ _ => trivial)
theorem op34 : Opens Try.prog 34 (List Sp) (fun l => [spS l]) (fun l => l.length < 9223372036854775808) :=
  (opens_slice Try.underlying34 cells23 (by decide) op23 (fun _ => rfl)).to id (fun _ => rfl) (fun _ h => h.1)
theorem op54 : Opens Try.prog 54 (List (List Sp)) (fun l => [colS l]) Lens :=
  (opens_slice Try.underlying54 cells34 (by decide) op34 (fun _ => rfl)).to id (fun _ => rfl) (fun _ h => h)
theorem op56 : Opens Try.prog 56 (List (List Sp)) (fun l => [colS l]) Lens :=
  (opens_struct Try.underlying56 cells56 (fun _ => rfl) (opensF_cons rfl cells54 op54 (fun _ => rfl) (opensF_nil _))).to (fun a => a.1) (fun _ => rfl) (fun _ h => h.1)

section
variable {H : Type} {enc : TypeId × Value → H} {w : World} {r : Reach} {base b0 : Nat} {sp : Nat → Bool} {held : Bool} {v : Value} {d : DataW H} {ps : List MemPlace}

theorem open_ink (h : Value.okWide Try.prog w r base 56 v) (hx : DataW.Trod enc Try.prog w b0 sp held 56 v d ps) : ∃ l : List (List Sp), Lens l ∧ RV w (fun _ => False) nob [] (ink l) v := by
  obtain ⟨cs, rfl, _⟩ := okWide_struct Try.underlying56 h
  exact op56.agg hx
end
end Go.Proofs.Ytgpdckmbojmlpaa

