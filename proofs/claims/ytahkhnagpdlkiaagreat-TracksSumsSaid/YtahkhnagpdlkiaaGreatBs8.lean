/- Part 8 of the texts that the claim rests on: abstract values over the walk, and contracts of functions. -/
import Derived.Test.YtahkhnagpdlkiaaGreatBs7
import Derived.Test.YtahkhnagpdlkiaaGreatRows
import Derived.WalkKit
import Derived.ProofKit
import Derived.OpenShut
import Derived.ShutString
import Derived.ChangeOld
import Derived.Below
namespace Go.Proofs.YtahkhnagpdlkiaaGreat
open Go.Abs
set_option linter.unusedVariables false
set_option linter.unusedSimpArgs false
set_option maxHeartbeats 4000000
set_option maxRecDepth 100000
-- aneroid/aneroidlaw04.TracksSums
def c4 : CF := ⟨165,
 (.seq (.ops [
 ⟨(some 6), .mv (.c (.bool false)), none⟩] [0, 1, 2])
 (.seq (.ops [
 ⟨(some 20), .call (.f 16) [], none⟩,
 ⟨(some 7), .mv (.t 20), none⟩] [0, 1, 2, 7])
 (.seq (.seq (.ops [
 ⟨(some 21), .mv (.t 0), none⟩,
 ⟨(some 22), .call (.f 24) [(.t 21)], none⟩,
 ⟨(some 23), .un .not (.t 22), none⟩,
 ⟨(some 24), .mv (.t 23), none⟩,
 ⟨(some 25), .mv (.t 1), (some (24, false))⟩,
 ⟨(some 26), .call (.f 24) [(.t 25)], (some (24, false))⟩,
 ⟨(some 27), .un .not (.t 26), (some (24, false))⟩,
 ⟨(some 28), .pick (.t 24) (.c (.bool true)) (.t 27), none⟩] [0, 1, 2, 7, 28])
 (.cond (.t 28) (.seq (.ops [
 ⟨(some 29), .mv (.t 7), none⟩,
 ⟨(some 6), .mv (.t 29), none⟩] [6])
 .ret)
 .skip))
 (.seq (.ops [
 ⟨(some 31), .mv (.t 0), none⟩,
 ⟨(some 32), .mv (.t 1), none⟩,
 ⟨(some 33), .call (.f 25) [(.t 31), (.t 32)], none⟩,
 ⟨(some 30), .mv (.t 33), none⟩,
 ⟨(some 34), .ext 0 (.t 30), none⟩,
 ⟨(some 35), .ext 1 (.t 30), none⟩,
 ⟨(some 8), .mv (.t 34), none⟩,
 ⟨(some 9), .mv (.t 35), none⟩] [0, 1, 2, 7, 8, 9])
 (.seq (.ops [
 ⟨(some 37), .mv (.t 0), none⟩,
 ⟨(some 38), .mv (.t 1), none⟩,
 ⟨(some 39), .call (.f 26) [(.t 37), (.t 38)], none⟩,
 ⟨(some 36), .mv (.t 39), none⟩,
 ⟨(some 40), .ext 0 (.t 36), none⟩,
 ⟨(some 41), .ext 1 (.t 36), none⟩,
 ⟨(some 10), .mv (.t 40), none⟩,
 ⟨(some 11), .mv (.t 41), none⟩] [0, 1, 2, 7, 8, 9, 10, 11])
 (.seq (.seq (.ops [
 ⟨(some 42), .mv (.t 9), none⟩,
 ⟨(some 43), .bin .neq (.t 42) (.c (.int .i64 0)), none⟩] [0, 1, 2, 7, 8, 9, 10, 11, 43])
 (.cond (.t 43) (.seq (.ops [
 ⟨(some 44), .mv (.t 7), none⟩,
 ⟨(some 45), .mv (.t 44), none⟩,
 ⟨(some 46), .mv (.t 11), (some (45, true))⟩,
 ⟨(some 47), .mv (.t 9), (some (45, true))⟩,
 ⟨(some 48), .bin .eql (.t 46) (.t 47), (some (45, true))⟩,
 ⟨(some 49), .pick (.t 45) (.t 48) (.c (.bool false)), none⟩,
 ⟨(some 50), .mv (.t 49), none⟩,
 ⟨(some 51), .mv (.t 8), (some (50, true))⟩,
 ⟨(some 52), .len (.t 51), (some (50, true))⟩,
 ⟨(some 53), .bin .eql (.t 52) (.c (.int .i64 0)), (some (50, true))⟩,
 ⟨(some 54), .pick (.t 50) (.t 53) (.c (.bool false)), none⟩,
 ⟨(some 55), .mv (.t 54), none⟩,
 ⟨(some 56), .mv (.t 10), (some (55, true))⟩,
 ⟨(some 57), .len (.t 56), (some (55, true))⟩,
 ⟨(some 58), .bin .eql (.t 57) (.c (.int .i64 0)), (some (55, true))⟩,
 ⟨(some 59), .pick (.t 55) (.t 58) (.c (.bool false)), none⟩,
 ⟨(some 6), .mv (.t 59), none⟩] [6])
 .ret)
 .skip))
 (.seq (.ops [
 ⟨(some 61), .mv (.t 1), none⟩,
 ⟨(some 62), .mv (.t 0), none⟩,
 ⟨(some 63), .call (.f 25) [(.t 61), (.t 62)], none⟩,
 ⟨(some 60), .mv (.t 63), none⟩,
 ⟨(some 64), .ext 0 (.t 60), none⟩,
 ⟨(some 65), .ext 1 (.t 60), none⟩,
 ⟨(some 12), .mv (.t 64), none⟩,
 ⟨(some 13), .mv (.t 65), none⟩] [0, 1, 2, 7, 8, 10, 11, 12, 13])
 (.seq (.ops [
 ⟨(some 67), .mv (.t 1), none⟩,
 ⟨(some 68), .mv (.t 0), none⟩,
 ⟨(some 69), .call (.f 26) [(.t 67), (.t 68)], none⟩,
 ⟨(some 66), .mv (.t 69), none⟩,
 ⟨(some 70), .ext 0 (.t 66), none⟩,
 ⟨(some 71), .ext 1 (.t 66), none⟩,
 ⟨(some 14), .mv (.t 70), none⟩,
 ⟨(some 15), .mv (.t 71), none⟩] [0, 1, 2, 7, 8, 10, 11, 12, 13, 14, 15])
 (.seq (.ops [
 ⟨(some 73), .mv (.t 0), none⟩,
 ⟨(some 74), .mv (.t 0), none⟩,
 ⟨(some 75), .call (.f 25) [(.t 73), (.t 74)], none⟩,
 ⟨(some 72), .mv (.t 75), none⟩,
 ⟨(some 76), .ext 0 (.t 72), none⟩,
 ⟨(some 77), .ext 1 (.t 72), none⟩,
 ⟨(some 16), .mv (.t 76), none⟩,
 ⟨(some 17), .mv (.t 77), none⟩] [0, 1, 2, 7, 8, 10, 11, 12, 13, 14, 15, 16, 17])
 (.seq (.ops [
 ⟨(some 79), .mv (.t 0), none⟩,
 ⟨(some 80), .mv (.t 0), none⟩,
 ⟨(some 81), .call (.f 26) [(.t 79), (.t 80)], none⟩,
 ⟨(some 78), .mv (.t 81), none⟩,
 ⟨(some 82), .ext 0 (.t 78), none⟩,
 ⟨(some 83), .ext 1 (.t 78), none⟩,
 ⟨(some 18), .mv (.t 82), none⟩,
 ⟨(some 19), .mv (.t 83), none⟩] [0, 1, 2, 7, 8, 10, 11, 12, 13, 14, 15, 16, 17, 18, 19])
 (.seq (.seq (.ops [
 ⟨(some 84), .mv (.t 11), none⟩,
 ⟨(some 85), .bin .neq (.t 84) (.c (.int .i64 0)), none⟩,
 ⟨(some 86), .mv (.t 85), none⟩,
 ⟨(some 87), .mv (.t 13), (some (86, false))⟩,
 ⟨(some 88), .bin .neq (.t 87) (.c (.int .i64 0)), (some (86, false))⟩,
 ⟨(some 89), .pick (.t 86) (.c (.bool true)) (.t 88), none⟩,
 ⟨(some 90), .mv (.t 89), none⟩,
 ⟨(some 91), .mv (.t 15), (some (90, false))⟩,
 ⟨(some 92), .bin .neq (.t 91) (.c (.int .i64 0)), (some (90, false))⟩,
 ⟨(some 93), .pick (.t 90) (.c (.bool true)) (.t 92), none⟩,
 ⟨(some 94), .mv (.t 93), none⟩,
 ⟨(some 95), .mv (.t 17), (some (94, false))⟩,
 ⟨(some 96), .bin .neq (.t 95) (.c (.int .i64 0)), (some (94, false))⟩,
 ⟨(some 97), .pick (.t 94) (.c (.bool true)) (.t 96), none⟩,
 ⟨(some 98), .mv (.t 97), none⟩,
 ⟨(some 99), .mv (.t 19), (some (98, false))⟩,
 ⟨(some 100), .bin .neq (.t 99) (.c (.int .i64 0)), (some (98, false))⟩,
 ⟨(some 101), .pick (.t 98) (.c (.bool true)) (.t 100), none⟩,
 ⟨(some 102), .mv (.t 101), none⟩,
 ⟨(some 103), .mv (.t 8), (some (102, false))⟩,
 ⟨(some 104), .call (.f 27) [(.t 103)], (some (102, false))⟩,
 ⟨(some 105), .un .not (.t 104), (some (102, false))⟩,
 ⟨(some 106), .pick (.t 102) (.c (.bool true)) (.t 105), none⟩,
 ⟨(some 107), .mv (.t 106), none⟩,
 ⟨(some 108), .mv (.t 10), (some (107, false))⟩,
 ⟨(some 109), .call (.f 27) [(.t 108)], (some (107, false))⟩,
 ⟨(some 110), .un .not (.t 109), (some (107, false))⟩,
 ⟨(some 111), .pick (.t 107) (.c (.bool true)) (.t 110), none⟩,
 ⟨(some 112), .mv (.t 111), none⟩,
 ⟨(some 113), .mv (.t 8), (some (112, false))⟩,
 ⟨(some 114), .mv (.t 12), (some (112, false))⟩,
 ⟨(some 115), .call (.f 28) [(.t 113), (.t 114)], (some (112, false))⟩,
 ⟨(some 116), .un .not (.t 115), (some (112, false))⟩,
 ⟨(some 117), .pick (.t 112) (.c (.bool true)) (.t 116), none⟩,
 ⟨(some 118), .mv (.t 117), none⟩,
 ⟨(some 119), .mv (.t 10), (some (118, false))⟩,
 ⟨(some 120), .mv (.t 14), (some (118, false))⟩,
 ⟨(some 121), .call (.f 28) [(.t 119), (.t 120)], (some (118, false))⟩,
 ⟨(some 122), .un .not (.t 121), (some (118, false))⟩,
 ⟨(some 123), .pick (.t 118) (.c (.bool true)) (.t 122), none⟩,
 ⟨(some 124), .mv (.t 123), none⟩,
 ⟨(some 125), .mv (.t 16), (some (124, false))⟩,
 ⟨(some 126), .mv (.t 0), (some (124, false))⟩,
 ⟨(some 127), .call (.f 28) [(.t 125), (.t 126)], (some (124, false))⟩,
 ⟨(some 128), .un .not (.t 127), (some (124, false))⟩,
 ⟨(some 129), .pick (.t 124) (.c (.bool true)) (.t 128), none⟩,
 ⟨(some 130), .mv (.t 129), none⟩,
 ⟨(some 131), .mv (.t 18), (some (130, false))⟩,
 ⟨(some 132), .mv (.t 0), (some (130, false))⟩,
 ⟨(some 133), .call (.f 28) [(.t 131), (.t 132)], (some (130, false))⟩,
 ⟨(some 134), .un .not (.t 133), (some (130, false))⟩,
 ⟨(some 135), .pick (.t 130) (.c (.bool true)) (.t 134), none⟩] [0, 1, 2, 7, 8, 10, 135])
 (.cond (.t 135) (.seq (.ops [
 ⟨(some 6), .mv (.c (.bool false)), none⟩] [6])
 .ret)
 .skip))
 (.seq (.ops [
 ⟨(some 136), .mv (.t 7), none⟩,
 ⟨(some 137), .mv (.t 136), none⟩,
 ⟨(some 138), .mv (.t 8), (some (137, true))⟩,
 ⟨(some 139), .mv (.t 2), (some (137, true))⟩,
 ⟨(some 140), .call (.f 29) [(.t 138), (.t 139)], (some (137, true))⟩,
 ⟨(some 141), .mv (.t 0), (some (137, true))⟩,
 ⟨(some 142), .mv (.t 2), (some (137, true))⟩,
 ⟨(some 143), .call (.f 29) [(.t 141), (.t 142)], (some (137, true))⟩,
 ⟨(some 144), .mv (.t 143), (some (137, true))⟩,
 ⟨(some 145), .mv (.t 1), (some (144, false))⟩,
 ⟨(some 146), .mv (.t 2), (some (144, false))⟩,
 ⟨(some 147), .call (.f 29) [(.t 145), (.t 146)], (some (144, false))⟩,
 ⟨(some 148), .pick (.t 144) (.c (.bool true)) (.t 147), (some (137, true))⟩,
 ⟨(some 149), .eqb false (.t 140) (.t 148), (some (137, true))⟩,
 ⟨(some 150), .pick (.t 137) (.t 149) (.c (.bool false)), none⟩,
 ⟨(some 151), .mv (.t 150), none⟩,
 ⟨(some 152), .mv (.t 10), (some (151, true))⟩,
 ⟨(some 153), .mv (.t 2), (some (151, true))⟩,
 ⟨(some 154), .call (.f 29) [(.t 152), (.t 153)], (some (151, true))⟩,
 ⟨(some 155), .mv (.t 0), (some (151, true))⟩,
 ⟨(some 156), .mv (.t 2), (some (151, true))⟩,
 ⟨(some 157), .call (.f 29) [(.t 155), (.t 156)], (some (151, true))⟩,
 ⟨(some 158), .mv (.t 157), (some (151, true))⟩,
 ⟨(some 159), .mv (.t 1), (some (158, true))⟩,
 ⟨(some 160), .mv (.t 2), (some (158, true))⟩,
 ⟨(some 161), .call (.f 29) [(.t 159), (.t 160)], (some (158, true))⟩,
 ⟨(some 162), .pick (.t 158) (.t 161) (.c (.bool false)), (some (151, true))⟩,
 ⟨(some 163), .eqb false (.t 154) (.t 162), (some (151, true))⟩,
 ⟨(some 164), .pick (.t 151) (.t 163) (.c (.bool false)), none⟩,
 ⟨(some 6), .mv (.t 164), none⟩] [6])
 .ret)))))))))))),
 [.t 6]⟩

theorem k4 : chkF Tryz.prog Tryz.f4 c4 = true := by kernel_rfl

theorem mem_good {l : List Sp} (h : good l) {v : Int} (hv : Mem v l) : -100000 ≤ v ∧ v ≤ 100000 := by
  obtain ⟨s, hs, h1⟩ := hv
  have := h.2 s hs; omega
theorem good_of_mem {l : List Sp} (h : Norm l) (hv : ∀ v, Mem v l → -100000 ≤ v ∧ v ≤ 100000) : good l := ⟨h, fun s hs => by
  have hne := h.ne s hs
  exact ⟨(hv s.lo ⟨s, hs, by omega⟩).1, (hv s.hi ⟨s, hs, by omega⟩).2⟩⟩
theorem joins_good {a b : List Sp} (ha : good a) (hb : good b) : good (joins a b) := good_of_mem (joins_norm ha.1) fun v hv => by
  rcases (joins_mem ha.1 v).1 hv with h | h
  · exact mem_good ha h
  · exact mem_good hb h
theorem joins_comm {a b : List Sp} (ha : Norm a) (hb : Norm b) : joins a b = joins b a := Norm.ext (joins_norm ha) (joins_norm hb) fun v => by rw [joins_mem ha, joins_mem hb]; exact Or.comm
theorem joins_self {a : List Sp} (ha : Norm a) : joins a a = a := Norm.ext (joins_norm ha) ha fun v => by rw [joins_mem ha]; exact or_self_iff
theorem meet_comm' {a b : List Sp} : meet a b = meet b a := Norm.ext (meet_norm _ _) (meet_norm _ _) fun v => by rw [meet_mem, meet_mem]; exact And.comm
theorem meet_self {a : List Sp} (ha : Norm a) : meet a a = a := Norm.ext (meet_norm _ _) ha fun v => by rw [meet_mem]; exact and_self_iff

theorem Sums_spec (a b : List Sp) (v : Int) (hal : a.length < 9223372036854775808) (hbl : b.length < 9223372036854775808) : Pure Tryz.prog 4 [spS a, spS b, n v] (bl true) := by
  refine Pure.of_body Tryz.call4 Tryz.func4 k4 (Nat.le_of_ble_eq_true rfl) ?_
  unfold c4
  have hw := awake_spec
  have b1 := brief_spec a
  have b2 := brief_spec b
  have u1 := Union_spec a b hal hbl
  have m1 := Meet_spec a b hal hbl
  by_cases hs : small a ∧ small b
  · obtain ⟨⟨l1, ga⟩, l2, gb⟩ := hs
    have u2 := Union_spec b a hbl hal
    have m2 := Meet_spec b a hbl hal
    have u3 := Union_spec a a hal hal
    have m3 := Meet_spec a a hal hal
    have hs1 : tr (small a ∧ small b) = true := tr_1 ⟨⟨l1, ga⟩, l2, gb⟩
    have hs2 : tr (small b ∧ small a) = true := tr_1 ⟨⟨l2, gb⟩, l1, ga⟩
    have hs3 : tr (small a ∧ small a) = true := tr_1 ⟨⟨l1, ga⟩, l1, ga⟩
    rw [hs1] at u1 m1
    rw [hs2, joins_comm gb.1 ga.1] at u2
    rw [hs2, meet_comm'] at m2
    rw [hs3, joins_self ga.1] at u3
    rw [hs3, meet_self ga.1] at m3
    simp only [if_true] at u1 m1 u2 m2 u3 m3
    have lu : (joins a b).length < 9223372036854775808 := by have := joins_len (l := a) (b := b); omega
    have lm : (meet a b).length < 9223372036854775808 := by have := good_len (meet_good (a := a) gb); omega
    have n1 := Normal_spec _ lu
    have n2 := Normal_spec _ lm
    rw [tr_1 (joins_good ga gb)] at n1
    rw [tr_1 (meet_good gb)] at n2
    have s1 := SameSpans_spec _ _ lu lu
    have s2 := SameSpans_spec _ _ lm lm
    have s3 := SameSpans_spec _ _ hal hal
    rw [decide_eq_true rfl] at s1 s2 s3
    have i1 := In_spec _ v lu
    have i2 := In_spec _ v lm
    have i3 := In_spec a v hal
    have i4 := In_spec b v hbl
    by_cases ha : Mem v a
    · by_cases hb : Mem v b
      · rw [tr_1 ((joins_mem ga.1 v).2 (.inl ha))] at i1
        rw [tr_1 ((meet_mem a b v).2 ⟨ha, hb⟩)] at i2
        rw [tr_1 ha] at i3
        rw [tr_1 hb] at i4
        (repeat' ((first
 | refine AWPC.of_vcn rfl ?_
 | simp (disch := omega) only [wr64, Int.zero_sub]
 | refine AWPC.both (fun _ => ?_) (fun _ => ?_)
 | refine AWPC.imp (fun _ => ?_)
 | ((repeat (refine And.intro (by (intros; first | omega | (simp_all (config := { decide := false }); done) | fail)) ?_)); (first | refine .inl ⟨_, _, _, _, rfl, fun _hc => ⟨by simp (maxDischargeDepth := 9) <;> assumption, (by first | exact hw | exact b1 | exact b2 | exact u1 | exact m1 | exact u2 | exact m2 | exact u3 | exact m3 | exact n1 | exact n2 | exact s1 | exact s2 | exact s3 | exact i1 | exact i2 | exact i3 | exact i4)⟩, ?_⟩ | refine ⟨_, _, _, _, rfl, fun _hc => ⟨by simp (maxDischargeDepth := 9) <;> assumption, (by first | exact hw | exact b1 | exact b2 | exact u1 | exact m1 | exact u2 | exact m2 | exact u3 | exact m3 | exact n1 | exact n2 | exact s1 | exact s2 | exact s3 | exact i1 | exact i2 | exact i3 | exact i4)⟩, ?_⟩); (first | refine owp_of_exs ?_ | refine pre_of_exd ?_ | refine pre_of_exe ?_ | refine pre_of_exv ?_))
 | ((repeat (refine And.intro (by (intros; first | omega | (simp_all (config := { decide := false }); done) | fail)) ?_)); refine .inl ⟨_, _, _, _, rfl, ⟨by simp (maxDischargeDepth := 9) <;> assumption, (by first | exact hw | exact b1 | exact b2 | exact u1 | exact m1 | exact u2 | exact m2 | exact u3 | exact m3 | exact n1 | exact n2 | exact s1 | exact s2 | exact s3 | exact i1 | exact i2 | exact i3 | exact i4)⟩, ?_⟩)
 | (refine .inl ⟨_, _, _, .any, rfl, fun h => absurd h Bool.false_ne_true, ?_⟩; refine owp_of_exs ?_)
 | refine ⟨by omega, ?_⟩
 | refine And.intro (by (intros; first | (simp_all (config := { decide := false }); done) | fail)) ?_
 | fail) <;> try simp only [zT, zV, zS, zU, vcC, kscp, lateX, ex, strp, cnd, binA, kseq, kblk, kret, klp, Abs.one, elems, cells, scalar, eqC, Nat.reduceBEq, Nat.reduceAdd, Nat.reduceSub, Nat.reduceLT, Nat.reduceLeDiff, Nat.reduceMul, Nat.reduceEqDiff, cond_true, cond_false, if_true, if_false, reduceIte, implies_true, forall_const, ne_eq]))
        all_goals try (exfalso; omega)
        all_goals exact Frz.eq rfl (by simp)
      · rw [tr_1 ((joins_mem ga.1 v).2 (.inl ha))] at i1
        rw [tr_0 fun h => hb ((meet_mem a b v).1 h).2] at i2
        rw [tr_1 ha] at i3
        rw [tr_0 hb] at i4
        (repeat' ((first
 | refine AWPC.of_vcn rfl ?_
 | simp (disch := omega) only [wr64, Int.zero_sub]
 | refine AWPC.both (fun _ => ?_) (fun _ => ?_)
 | refine AWPC.imp (fun _ => ?_)
 | ((repeat (refine And.intro (by (intros; first | omega | (simp_all (config := { decide := false }); done) | fail)) ?_)); (first | refine .inl ⟨_, _, _, _, rfl, fun _hc => ⟨by simp (maxDischargeDepth := 9) <;> assumption, (by first | exact hw | exact b1 | exact b2 | exact u1 | exact m1 | exact u2 | exact m2 | exact u3 | exact m3 | exact n1 | exact n2 | exact s1 | exact s2 | exact s3 | exact i1 | exact i2 | exact i3 | exact i4)⟩, ?_⟩ | refine ⟨_, _, _, _, rfl, fun _hc => ⟨by simp (maxDischargeDepth := 9) <;> assumption, (by first | exact hw | exact b1 | exact b2 | exact u1 | exact m1 | exact u2 | exact m2 | exact u3 | exact m3 | exact n1 | exact n2 | exact s1 | exact s2 | exact s3 | exact i1 | exact i2 | exact i3 | exact i4)⟩, ?_⟩); (first | refine owp_of_exs ?_ | refine pre_of_exd ?_ | refine pre_of_exe ?_ | refine pre_of_exv ?_))
 | ((repeat (refine And.intro (by (intros; first | omega | (simp_all (config := { decide := false }); done) | fail)) ?_)); refine .inl ⟨_, _, _, _, rfl, ⟨by simp (maxDischargeDepth := 9) <;> assumption, (by first | exact hw | exact b1 | exact b2 | exact u1 | exact m1 | exact u2 | exact m2 | exact u3 | exact m3 | exact n1 | exact n2 | exact s1 | exact s2 | exact s3 | exact i1 | exact i2 | exact i3 | exact i4)⟩, ?_⟩)
 | (refine .inl ⟨_, _, _, .any, rfl, fun h => absurd h Bool.false_ne_true, ?_⟩; refine owp_of_exs ?_)
 | refine ⟨by omega, ?_⟩
 | refine And.intro (by (intros; first | (simp_all (config := { decide := false }); done) | fail)) ?_
 | fail) <;> try simp only [zT, zV, zS, zU, vcC, kscp, lateX, ex, strp, cnd, binA, kseq, kblk, kret, klp, Abs.one, elems, cells, scalar, eqC, Nat.reduceBEq, Nat.reduceAdd, Nat.reduceSub, Nat.reduceLT, Nat.reduceLeDiff, Nat.reduceMul, Nat.reduceEqDiff, cond_true, cond_false, if_true, if_false, reduceIte, implies_true, forall_const, ne_eq]))
        all_goals try (exfalso; omega)
        all_goals exact Frz.eq rfl (by simp)
    · by_cases hb : Mem v b
      · rw [tr_1 ((joins_mem ga.1 v).2 (.inr hb))] at i1
        rw [tr_0 fun h => ha ((meet_mem a b v).1 h).1] at i2
        rw [tr_0 ha] at i3
        rw [tr_1 hb] at i4
        (repeat' ((first
 | refine AWPC.of_vcn rfl ?_
 | simp (disch := omega) only [wr64, Int.zero_sub]
 | refine AWPC.both (fun _ => ?_) (fun _ => ?_)
 | refine AWPC.imp (fun _ => ?_)
 | ((repeat (refine And.intro (by (intros; first | omega | (simp_all (config := { decide := false }); done) | fail)) ?_)); (first | refine .inl ⟨_, _, _, _, rfl, fun _hc => ⟨by simp (maxDischargeDepth := 9) <;> assumption, (by first | exact hw | exact b1 | exact b2 | exact u1 | exact m1 | exact u2 | exact m2 | exact u3 | exact m3 | exact n1 | exact n2 | exact s1 | exact s2 | exact s3 | exact i1 | exact i2 | exact i3 | exact i4)⟩, ?_⟩ | refine ⟨_, _, _, _, rfl, fun _hc => ⟨by simp (maxDischargeDepth := 9) <;> assumption, (by first | exact hw | exact b1 | exact b2 | exact u1 | exact m1 | exact u2 | exact m2 | exact u3 | exact m3 | exact n1 | exact n2 | exact s1 | exact s2 | exact s3 | exact i1 | exact i2 | exact i3 | exact i4)⟩, ?_⟩); (first | refine owp_of_exs ?_ | refine pre_of_exd ?_ | refine pre_of_exe ?_ | refine pre_of_exv ?_))
 | ((repeat (refine And.intro (by (intros; first | omega | (simp_all (config := { decide := false }); done) | fail)) ?_)); refine .inl ⟨_, _, _, _, rfl, ⟨by simp (maxDischargeDepth := 9) <;> assumption, (by first | exact hw | exact b1 | exact b2 | exact u1 | exact m1 | exact u2 | exact m2 | exact u3 | exact m3 | exact n1 | exact n2 | exact s1 | exact s2 | exact s3 | exact i1 | exact i2 | exact i3 | exact i4)⟩, ?_⟩)
 | (refine .inl ⟨_, _, _, .any, rfl, fun h => absurd h Bool.false_ne_true, ?_⟩; refine owp_of_exs ?_)
 | refine ⟨by omega, ?_⟩
 | refine And.intro (by (intros; first | (simp_all (config := { decide := false }); done) | fail)) ?_
 | fail) <;> try simp only [zT, zV, zS, zU, vcC, kscp, lateX, ex, strp, cnd, binA, kseq, kblk, kret, klp, Abs.one, elems, cells, scalar, eqC, Nat.reduceBEq, Nat.reduceAdd, Nat.reduceSub, Nat.reduceLT, Nat.reduceLeDiff, Nat.reduceMul, Nat.reduceEqDiff, cond_true, cond_false, if_true, if_false, reduceIte, implies_true, forall_const, ne_eq]))
        all_goals try (exfalso; omega)
        all_goals exact Frz.eq rfl (by simp)
      · rw [tr_0 fun h => ((joins_mem ga.1 v).1 h).elim ha hb] at i1
        rw [tr_0 fun h => ha ((meet_mem a b v).1 h).1] at i2
        rw [tr_0 ha] at i3
        rw [tr_0 hb] at i4
        (repeat' ((first
 | refine AWPC.of_vcn rfl ?_
 | simp (disch := omega) only [wr64, Int.zero_sub]
 | refine AWPC.both (fun _ => ?_) (fun _ => ?_)
 | refine AWPC.imp (fun _ => ?_)
 | ((repeat (refine And.intro (by (intros; first | omega | (simp_all (config := { decide := false }); done) | fail)) ?_)); (first | refine .inl ⟨_, _, _, _, rfl, fun _hc => ⟨by simp (maxDischargeDepth := 9) <;> assumption, (by first | exact hw | exact b1 | exact b2 | exact u1 | exact m1 | exact u2 | exact m2 | exact u3 | exact m3 | exact n1 | exact n2 | exact s1 | exact s2 | exact s3 | exact i1 | exact i2 | exact i3 | exact i4)⟩, ?_⟩ | refine ⟨_, _, _, _, rfl, fun _hc => ⟨by simp (maxDischargeDepth := 9) <;> assumption, (by first | exact hw | exact b1 | exact b2 | exact u1 | exact m1 | exact u2 | exact m2 | exact u3 | exact m3 | exact n1 | exact n2 | exact s1 | exact s2 | exact s3 | exact i1 | exact i2 | exact i3 | exact i4)⟩, ?_⟩); (first | refine owp_of_exs ?_ | refine pre_of_exd ?_ | refine pre_of_exe ?_ | refine pre_of_exv ?_))
 | ((repeat (refine And.intro (by (intros; first | omega | (simp_all (config := { decide := false }); done) | fail)) ?_)); refine .inl ⟨_, _, _, _, rfl, ⟨by simp (maxDischargeDepth := 9) <;> assumption, (by first | exact hw | exact b1 | exact b2 | exact u1 | exact m1 | exact u2 | exact m2 | exact u3 | exact m3 | exact n1 | exact n2 | exact s1 | exact s2 | exact s3 | exact i1 | exact i2 | exact i3 | exact i4)⟩, ?_⟩)
 | (refine .inl ⟨_, _, _, .any, rfl, fun h => absurd h Bool.false_ne_true, ?_⟩; refine owp_of_exs ?_)
 | refine ⟨by omega, ?_⟩
 | refine And.intro (by (intros; first | (simp_all (config := { decide := false }); done) | fail)) ?_
 | fail) <;> try simp only [zT, zV, zS, zU, vcC, kscp, lateX, ex, strp, cnd, binA, kseq, kblk, kret, klp, Abs.one, elems, cells, scalar, eqC, Nat.reduceBEq, Nat.reduceAdd, Nat.reduceSub, Nat.reduceLT, Nat.reduceLeDiff, Nat.reduceMul, Nat.reduceEqDiff, cond_true, cond_false, if_true, if_false, reduceIte, implies_true, forall_const, ne_eq]))
        all_goals try (exfalso; omega)
        all_goals exact Frz.eq rfl (by simp)
  · rw [tr_0 hs] at u1 m1
    simp only [Bool.false_eq_true, if_false] at u1 m1
    (repeat' ((first
 | refine AWPC.of_vcn rfl ?_
 | simp (disch := omega) only [wr64, Int.zero_sub]
 | refine AWPC.both (fun _ => ?_) (fun _ => ?_)
 | refine AWPC.imp (fun _ => ?_)
 | ((repeat (refine And.intro (by (intros; first | omega | (simp_all (config := { decide := false }); done) | fail)) ?_)); (first | refine .inl ⟨_, _, _, _, rfl, fun _hc => ⟨by simp (maxDischargeDepth := 9) <;> assumption, (by first | exact hw | exact b1 | exact b2 | exact u1 | exact m1)⟩, ?_⟩ | refine ⟨_, _, _, _, rfl, fun _hc => ⟨by simp (maxDischargeDepth := 9) <;> assumption, (by first | exact hw | exact b1 | exact b2 | exact u1 | exact m1)⟩, ?_⟩); (first | refine owp_of_exs ?_ | refine pre_of_exd ?_ | refine pre_of_exe ?_ | refine pre_of_exv ?_))
 | ((repeat (refine And.intro (by (intros; first | omega | (simp_all (config := { decide := false }); done) | fail)) ?_)); refine .inl ⟨_, _, _, _, rfl, ⟨by simp (maxDischargeDepth := 9) <;> assumption, (by first | exact hw | exact b1 | exact b2 | exact u1 | exact m1)⟩, ?_⟩)
 | (refine .inl ⟨_, _, _, .any, rfl, fun h => absurd h Bool.false_ne_true, ?_⟩; refine owp_of_exs ?_)
 | refine ⟨by omega, ?_⟩
 | refine And.intro (by (intros; first | (simp_all (config := { decide := false }); done) | fail)) ?_
 | fail) <;> try simp only [zT, zV, zS, zU, vcC, kscp, lateX, ex, strp, cnd, binA, kseq, kblk, kret, klp, Abs.one, elems, cells, scalar, eqC, Nat.reduceBEq, Nat.reduceAdd, Nat.reduceSub, Nat.reduceLT, Nat.reduceLeDiff, Nat.reduceMul, Nat.reduceEqDiff, cond_true, cond_false, if_true, if_false, reduceIte, implies_true, forall_const, ne_eq]))
    all_goals try (exfalso; omega)
    all_goals exact Frz.eq rfl (by simp)
end Go.Proofs.YtahkhnagpdlkiaaGreat

namespace Go.Proofs.YtahkhnagpdlkiaaGreat
open Go.Abs
set_option linter.unusedVariables false
set_option linter.unusedSimpArgs false
set_option maxHeartbeats 4000000
set_option maxRecDepth 100000
open Go.ChangeShapes Go.WideShapes Go.ChangeAt Go.RowKit

theorem own : ownKnob Tryz.prog.godebug = none := by kernel_rfl
theorem laidOut : laidOutB Tryz.prog = true := by kernel_rfl

theorem cells3 : Tryz.prog.cellsOf 3 = 1 := by kernel_rfl
theorem cells30 : Tryz.prog.cellsOf 30 = 2 := by kernel_rfl
theorem op3 : Opens Tryz.prog 3 Int (fun z => [n z]) (fun _ => True) := (opens_int Tryz.underlying3).to id (fun _ => rfl) (fun _ _ => trivial)
theorem op30 : Opens Tryz.prog 30 Sp Sp.cs (fun _ => True) :=
  (opens_struct Tryz.underlying30 cells30 (fun _ => rfl) (opensF_cons rfl cells3 op3 (fun _ => rfl) (opensF_cons rfl cells3 op3 (fun _ => rfl) (opensF_nil _)))).to (fun a => ⟨a.1, a.2.1⟩) (fun _ => rfl) (fun _ _ => trivial)
theorem op45 : Opens Tryz.prog 45 (List Sp) (fun l => [spS l]) (fun l => l.length < 9223372036854775808) :=
  (opens_slice Tryz.underlying45 cells30 (by decide) op30 (fun _ => rfl)).to id (fun _ => rfl) (fun _ h => h.1)
/-- What is asked of a track. -/
structure Ask where
  stage : Int
  to : Int
  first : Int
  pl : At
  one : List At
  two : List At
  lims : List Lim
  ch : Sp
  sets : List (List (List Sp))
abbrev Ask.cs (x : Ask) : List AV := [n x.stage, n x.to, n x.first, n x.pl.node, n x.pl.val, atS x.one, atS x.two, liS x.lims, n x.ch.lo, n x.ch.hi, stgS x.sets]

def Ask.sz (x : Ask) : Prop := x.one.length < 9223372036854775808 ∧ x.two.length < 9223372036854775808 ∧ limSz x.lims ∧ setsSz x.sets
section
variable {H : Type} {enc : TypeId × Value → H} {w : World} {r : Reach} {base b0 : Nat} {sp : Nat → Bool} {held : Bool} {v : Value} {d : DataW H} {ps : List MemPlace}

theorem open_set (h : Value.okWide Tryz.prog w r base 45 v) (hx : DataW.Trod enc Tryz.prog w b0 sp held 45 v d ps) : ∃ l : List Sp, l.length < 9223372036854775808 ∧ RV w (fun _ => False) nob [] (spS l) v := by
  obtain ⟨a, len, cap, rfl⟩ := okWide_slice Tryz.underlying45 h
  exact op45.one rfl hx
end
end Go.Proofs.YtahkhnagpdlkiaaGreat

