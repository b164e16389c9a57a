/- Part 9 of the texts that the claim rests on: abstract values over the walk, and contracts of functions. -/
import Derived.Test.YtahkhnagpdlkiaaGreatBl8
import Derived.Test.YtahkhnagpdlkiaaGreatRows
import Derived.WalkKit
import Derived.ProofKit
import Derived.OpenShut
import Derived.ShutString
import Derived.ChangeOld
import Derived.Below
namespace Go.Proofs.YtahkhnagpdlkiaaGreat
open Go.Abs
open Nat (reduceAdd reduceSub reduceLT reduceLeDiff reduceMul reduceEqDiff)
set_option linter.unusedVariables false
set_option linter.unusedSimpArgs false
set_option maxHeartbeats 4000000
set_option maxRecDepth 100000
open Go.ChangeShapes Go.WideShapes Go.ChangeAt Go.RowKit
theorem own : ownKnob Tryz.prog.godebug = none := by kernel_rfl
theorem laidOut : laidOutB Tryz.prog = true := by kernel_rfl
theorem cells3 : Tryz.prog.cellsOf 3 = 1 := by kernel_rfl
theorem cells30 : Tryz.prog.cellsOf 30 = 2 := by kernel_rfl
theorem cells45 : Tryz.prog.cellsOf 45 = 1 := by kernel_rfl
theorem cells124 : Tryz.prog.cellsOf 124 = 3 := by kernel_rfl
theorem cells78 : Tryz.prog.cellsOf 78 = 1 := by kernel_rfl
theorem cells80 : Tryz.prog.cellsOf 80 = 2 := by kernel_rfl
theorem cells68 : Tryz.prog.cellsOf 68 = 1 := by kernel_rfl
theorem cells22 : Tryz.prog.cellsOf 22 = 1 := by kernel_rfl
theorem cells24 : Tryz.prog.cellsOf 24 = 1 := by kernel_rfl
theorem cells61 : Tryz.prog.cellsOf 61 = 1 := by kernel_rfl
theorem cells31 : Tryz.prog.cellsOf 31 = 1 := by kernel_rfl
theorem cells26 : Tryz.prog.cellsOf 26 = 2 := by kernel_rfl
theorem cells27 : Tryz.prog.cellsOf 27 = 1 := by kernel_rfl
theorem cells65 : Tryz.prog.cellsOf 65 = 2 := by kernel_rfl
theorem cells28 : Tryz.prog.cellsOf 28 = 1 := by kernel_rfl
theorem cells33 : Tryz.prog.cellsOf 33 = 11 := by kernel_rfl
theorem op3 : Opens Tryz.prog 3 Int (fun z => [n z]) (fun _ => True) := (opens_int Tryz.underlying3).to id (fun _ => rfl) (fun _ _ => trivial)
theorem op30 : Opens Tryz.prog 30 Sp Sp.cs (fun _ => True) :=
  (opens_struct Tryz.underlying30 cells30 (fun _ => rfl) (opensF_cons rfl cells3 op3 (fun _ => rfl) (opensF_cons rfl cells3 op3 (fun _ => rfl) (opensF_nil _)))).to (fun a => ⟨a.1, a.2.1⟩) (fun _ => rfl) (fun _ _ => trivial)
theorem op45 : Opens Tryz.prog 45 (List Sp) (fun l => [spS l]) (fun l => l.length < 9223372036854775808) :=
  (opens_slice Tryz.underlying45 cells30 (by decide) op30 (fun _ => rfl)).to id (fun _ => rfl) (fun _ h => h.1)
theorem op124 : Opens Tryz.prog 124 Edg Edg.cs (fun _ => True) :=
  (opens_struct Tryz.underlying124 cells124 (fun _ => rfl) (opensF_cons rfl cells3 op3 (fun _ => rfl) (opensF_cons rfl cells30 op30 (fun _ => rfl) (opensF_nil _)))).to (fun a => ⟨a.1, a.2.1⟩) (fun _ => rfl) (fun _ _ => trivial)
theorem op78 : Opens Tryz.prog 78 (List Edg) (fun l => [edS l]) (fun l => l.length < 9223372036854775808) :=
  (opens_slice Tryz.underlying78 cells124 (by decide) op124 (fun _ => rfl)).to id (fun _ => rfl) (fun _ h => h.1)
theorem op80 : Opens Tryz.prog 80 Nod Nod.cs nodSz :=
  (opens_struct Tryz.underlying80 cells80 (fun _ => rfl) (opensF_cons rfl cells45 op45 (fun _ => rfl) (opensF_cons rfl cells78 op78 (fun _ => rfl) (opensF_nil _)))).to (fun a => ⟨a.1, a.2.1⟩) (fun _ => rfl) (fun _ h => ⟨h.1, h.2.1⟩)
theorem op68 : Opens Tryz.prog 68 (List Nod) (fun l => [stS l]) stgSz :=
  (opens_slice Tryz.underlying68 cells80 (by decide) op80 (fun _ => rfl)).to id (fun _ => rfl) (fun _ h => h)
theorem op22 : Opens Tryz.prog 22 Trk (fun l => [tkS l]) trkSz :=
  (opens_slice Tryz.underlying22 cells68 (by decide) op68 (fun _ => rfl)).to id (fun _ => rfl) (fun _ h => h)
theorem op24 : Opens Tryz.prog 24 Trk (fun l => [tkS l]) trkSz :=
  (opens_struct Tryz.underlying24 cells24 (fun _ => rfl) (opensF_cons rfl cells22 op22 (fun _ => rfl) (opensF_nil _))).to (fun a => a.1) (fun _ => rfl) (fun _ h => h.1)
theorem op61 : Opens Tryz.prog 61 (List (List Sp)) (fun l => [nodS l]) (fun l => l.length < 9223372036854775808 ∧ ∀ x ∈ l, x.length < 9223372036854775808) :=
  (opens_slice Tryz.underlying61 cells45 (by decide) op45 (fun _ => rfl)).to id (fun _ => rfl) (fun _ h => h)
theorem op31 : Opens Tryz.prog 31 (List (List (List Sp))) (fun l => [stgS l]) setsSz :=
  (opens_slice Tryz.underlying31 cells61 (by decide) op61 (fun _ => rfl)).to id (fun _ => rfl) (fun _ h => h)
theorem op26 : Opens Tryz.prog 26 At At.cs (fun _ => True) :=
  (opens_struct Tryz.underlying26 cells26 (fun _ => rfl) (opensF_cons rfl cells3 op3 (fun _ => rfl) (opensF_cons rfl cells3 op3 (fun _ => rfl) (opensF_nil _)))).to (fun a => ⟨a.1, a.2.1⟩) (fun _ => rfl) (fun _ _ => trivial)
theorem op27 : Opens Tryz.prog 27 (List At) (fun l => [atS l]) (fun l => l.length < 9223372036854775808) :=
  (opens_slice Tryz.underlying27 cells26 (by decide) op26 (fun _ => rfl)).to id (fun _ => rfl) (fun _ h => h.1)
theorem op65 : Opens Tryz.prog 65 Lim Lim.cs (fun x => x.vs.length < 9223372036854775808) :=
  (opens_struct Tryz.underlying65 cells65 (fun _ => rfl) (opensF_cons rfl cells3 op3 (fun _ => rfl) (opensF_cons rfl cells45 op45 (fun _ => rfl) (opensF_nil _)))).to (fun a => ⟨a.1, a.2.1⟩) (fun _ => rfl) (fun _ h => h.2.1)
theorem op28 : Opens Tryz.prog 28 (List Lim) (fun l => [liS l]) limSz :=
  (opens_slice Tryz.underlying28 cells65 (by decide) op65 (fun _ => rfl)).to id (fun _ => rfl) (fun _ h => h)
structure Ask where
  stage : Int
  to : Int
  first : Int
  pl : At
  one : List At
  two : List At
  lims : List Lim
  ch : Sp
  sets : List (List (List Sp))
abbrev Ask.cs (x : Ask) : List AV := [n x.stage, n x.to, n x.first, n x.pl.node, n x.pl.val, atS x.one, atS x.two, liS x.lims, n x.ch.lo, n x.ch.hi, stgS x.sets]
def Ask.sz (x : Ask) : Prop := x.one.length < 9223372036854775808 ∧ x.two.length < 9223372036854775808 ∧ limSz x.lims ∧ setsSz x.sets
theorem op33 : Opens Tryz.prog 33 Ask Ask.cs Ask.sz :=
  (opens_struct Tryz.underlying33 cells33 (fun _ => rfl) (opensF_cons rfl cells3 op3 (fun _ => rfl) (opensF_cons rfl cells3 op3 (fun _ => rfl) (opensF_cons rfl cells3 op3 (fun _ => rfl) (opensF_cons rfl cells26 op26 (fun _ => rfl) (opensF_cons rfl cells27 op27 (fun _ => rfl) (opensF_cons rfl cells27 op27 (fun _ => rfl) (opensF_cons rfl cells28 op28 (fun _ => rfl) (opensF_cons rfl cells30 op30 (fun _ => rfl) (opensF_cons rfl cells31 op31 (fun _ => rfl) (opensF_nil _))))))))))).to (fun a => ⟨a.1, a.2.1, a.2.2.1, a.2.2.2.1, a.2.2.2.2.1, a.2.2.2.2.2.1, a.2.2.2.2.2.2.1, a.2.2.2.2.2.2.2.1, a.2.2.2.2.2.2.2.2.1⟩) (fun _ => rfl) (fun _ h => ⟨h.2.2.2.2.1, h.2.2.2.2.2.1, h.2.2.2.2.2.2.1, h.2.2.2.2.2.2.2.2.1⟩)
section
variable {H : Type} {enc : TypeId × Value → H} {w : World} {r : Reach} {base b0 : Nat} {sp : Nat → Bool} {held : Bool} {v : Value} {d : DataW H} {ps : List MemPlace}
theorem open_trk (h : Value.okWide Tryz.prog w r base 24 v) (hx : DataW.Trod enc Tryz.prog w b0 sp held 24 v d ps) : ∃ l : Trk, trkSz l ∧ RV w (fun _ => False) nob [] (trS l) v := by
  obtain ⟨cs, rfl, _⟩ := okWide_struct Tryz.underlying24 h
  exact op24.agg hx
theorem open_ask (h : Value.okWide Tryz.prog w r base 33 v) (hx : DataW.Trod enc Tryz.prog w b0 sp held 33 v d ps) : ∃ l : Ask, Ask.sz l ∧ RV w (fun _ => False) nob [] (.agg l.cs) v := by
  obtain ⟨cs, rfl, _⟩ := okWide_struct Tryz.underlying33 h
  exact op33.agg hx
end
end Go.Proofs.YtahkhnagpdlkiaaGreat
namespace Go.Proofs.YtahkhnagpdlkiaaGreat
open Go.Abs
open Nat (reduceAdd reduceSub reduceLT reduceLeDiff reduceMul reduceEqDiff)
set_option linter.unusedVariables false
set_option linter.unusedSimpArgs false
set_option maxHeartbeats 4000000
set_option maxRecDepth 100000
def c18 : CF := ⟨77,
 (.seq (.ops [
 ⟨some 1,.box false 33 11 (.t 0),none⟩,
 ⟨some 2,.mv (.c (.bool false)),none⟩] [1])
 (.seq (.seq (.ops [
 ⟨some 6,.faddr 5 (.t 1),none⟩,
 ⟨some 7,.load none (.t 6),none⟩,
 ⟨some 8,.len (.t 7),none⟩,
 ⟨some 9,.bin .gtr (.t 8) (.c (.int .i64 500)),none⟩,
 ⟨some 10,.mv (.t 9),none⟩,
 ⟨some 11,.faddr 6 (.t 1),some (10,false)⟩,
 ⟨some 12,.load none (.t 11),some (10,false)⟩,
 ⟨some 13,.len (.t 12),some (10,false)⟩,
 ⟨some 14,.bin .gtr (.t 13) (.c (.int .i64 500)),some (10,false)⟩,
 ⟨some 15,.pick (.t 10) (.c (.bool true)) (.t 14),none⟩,
 ⟨some 16,.mv (.t 15),none⟩,
 ⟨some 17,.faddr 7 (.t 1),some (16,false)⟩,
 ⟨some 18,.load none (.t 17),some (16,false)⟩,
 ⟨some 19,.len (.t 18),some (16,false)⟩,
 ⟨some 20,.bin .gtr (.t 19) (.c (.int .i64 12)),some (16,false)⟩,
 ⟨some 21,.pick (.t 16) (.c (.bool true)) (.t 20),none⟩,
 ⟨some 22,.mv (.t 21),none⟩,
 ⟨some 23,.faddr 10 (.t 1),some (22,false)⟩,
 ⟨some 24,.load none (.t 23),some (22,false)⟩,
 ⟨some 25,.len (.t 24),some (22,false)⟩,
 ⟨some 26,.bin .gtr (.t 25) (.c (.int .i64 12)),some (22,false)⟩,
 ⟨some 27,.pick (.t 22) (.c (.bool true)) (.t 26),none⟩] [1,27])
 (.cond (.t 27) (.seq (.ops [
 ⟨some 2,.mv (.c (.bool false)),none⟩] [2])
 .ret)
 .skip))
 (.seq (.seq (.ops [
 ⟨some 3,.mv (.c (.int .i64 0)),none⟩] [1,3])
 (.block 0 (.loop (.seq (.seq (.ops [
 ⟨some 28,.mv (.t 3),none⟩,
 ⟨some 29,.faddr 7 (.t 1),none⟩,
 ⟨some 30,.load none (.t 29),none⟩,
 ⟨some 31,.len (.t 30),none⟩,
 ⟨some 32,.bin .lss (.t 28) (.t 31),none⟩] [1,3,32])
 (.cond (.t 32) .skip
 (.exit 0)))
 (.seq (.block 1 (.seq (.ops [
 ⟨some 35,.faddr 7 (.t 1),none⟩,
 ⟨some 36,.load none (.t 35),none⟩,
 ⟨some 37,.mv (.t 3),none⟩,
 ⟨some 38,.iaddr 2 (.t 36) (.t 37),none⟩,
 ⟨some 39,.faddr 1 (.t 38),none⟩,
 ⟨some 40,.load none (.t 39),none⟩,
 ⟨some 41,.call (.f 24) [(.t 40)],none⟩,
 ⟨some 42,.un .not (.t 41),none⟩] [1,3,42])
 (.cond (.t 42) (.seq (.ops [
 ⟨some 2,.mv (.c (.bool false)),none⟩] [2])
 .ret)
 .skip)))
 (.ops [
 ⟨some 33,.mv (.t 3),none⟩,
 ⟨some 34,.bin .add (.t 33) (.c (.int .i64 1)),none⟩,
 ⟨some 3,.mv (.t 34),none⟩] [1,3]))))))
 (.seq (.seq (.ops [
 ⟨some 4,.mv (.c (.int .i64 0)),none⟩] [1,4])
 (.block 2 (.loop (.seq (.seq (.ops [
 ⟨some 43,.mv (.t 4),none⟩,
 ⟨some 44,.faddr 10 (.t 1),none⟩,
 ⟨some 45,.load none (.t 44),none⟩,
 ⟨some 46,.len (.t 45),none⟩,
 ⟨some 47,.bin .lss (.t 43) (.t 46),none⟩] [1,4,47])
 (.cond (.t 47) .skip
 (.exit 2)))
 (.seq (.block 3 (.seq (.seq (.ops [
 ⟨some 50,.faddr 10 (.t 1),none⟩,
 ⟨some 51,.load none (.t 50),none⟩,
 ⟨some 52,.mv (.t 4),none⟩,
 ⟨some 53,.iaddr 1 (.t 51) (.t 52),none⟩,
 ⟨some 54,.load none (.t 53),none⟩,
 ⟨some 55,.len (.t 54),none⟩,
 ⟨some 56,.bin .gtr (.t 55) (.c (.int .i64 12)),none⟩] [1,4,56])
 (.cond (.t 56) (.seq (.ops [
 ⟨some 2,.mv (.c (.bool false)),none⟩] [2])
 .ret)
 .skip))
 (.seq (.ops [
 ⟨some 5,.mv (.c (.int .i64 0)),none⟩] [1,4,5])
 (.block 4 (.loop (.seq (.seq (.ops [
 ⟨some 57,.mv (.t 5),none⟩,
 ⟨some 58,.faddr 10 (.t 1),none⟩,
 ⟨some 59,.load none (.t 58),none⟩,
 ⟨some 60,.mv (.t 4),none⟩,
 ⟨some 61,.iaddr 1 (.t 59) (.t 60),none⟩,
 ⟨some 62,.load none (.t 61),none⟩,
 ⟨some 63,.len (.t 62),none⟩,
 ⟨some 64,.bin .lss (.t 57) (.t 63),none⟩] [1,4,5,64])
 (.cond (.t 64) .skip
 (.exit 4)))
 (.seq (.block 5 (.seq (.ops [
 ⟨some 67,.faddr 10 (.t 1),none⟩,
 ⟨some 68,.load none (.t 67),none⟩,
 ⟨some 69,.mv (.t 4),none⟩,
 ⟨some 70,.iaddr 1 (.t 68) (.t 69),none⟩,
 ⟨some 71,.load none (.t 70),none⟩,
 ⟨some 72,.mv (.t 5),none⟩,
 ⟨some 73,.iaddr 1 (.t 71) (.t 72),none⟩,
 ⟨some 74,.load none (.t 73),none⟩,
 ⟨some 75,.len (.t 74),none⟩,
 ⟨some 76,.bin .gtr (.t 75) (.c (.int .i64 40)),none⟩] [1,4,5,76])
 (.cond (.t 76) (.seq (.ops [
 ⟨some 2,.mv (.c (.bool false)),none⟩] [2])
 .ret)
 .skip)))
 (.ops [
 ⟨some 65,.mv (.t 5),none⟩,
 ⟨some 66,.bin .add (.t 65) (.c (.int .i64 1)),none⟩,
 ⟨some 5,.mv (.t 66),none⟩] [1,4,5]))))))))
 (.ops [
 ⟨some 48,.mv (.t 4),none⟩,
 ⟨some 49,.bin .add (.t 48) (.c (.int .i64 1)),none⟩,
 ⟨some 4,.mv (.t 49),none⟩] [1,4]))))))
 (.seq (.ops [
 ⟨some 2,.mv (.c (.bool true)),none⟩] [2])
 .ret))))),
 [.t 2]⟩
theorem k18 : chkF Tryz.prog Tryz.f18 c18 = true := by kernel_rfl
abbrev bulky (x : Ask) : Prop := ((500 < x.one.length ∨ 500 < x.two.length) ∨ 12 < x.lims.length) ∨ 12 < x.sets.length
abbrev briefL (l : List Sp) : Prop := l.length ≤ 12 ∨ 64 < l.length ∧ l.length ≤ 128
structure Light (x : Ask) : Prop where
  no : ¬ bulky x
  lims : ∀ y ∈ x.lims, briefL y.vs
  sets : ∀ l ∈ x.sets, l.length ≤ 12 ∧ ∀ s ∈ l, s.length ≤ 40
theorem light_spec (x : Ask) (hs : Ask.sz x) : Pure Tryz.prog 18 [.agg x.cs] (bl (tr (Light x))) := by
  refine Pure.of_body Tryz.call18 Tryz.func18 k18 (Nat.le_of_ble_eq_true rfl) ?_
  unfold c18
  have hno : ¬ Light x → tr (Light x) = false := tr_0
  obtain ⟨s1, s2, ⟨s3, s4⟩, s5, s6⟩ := hs
  have hb := fun (h : bulky x) => hno fun g => g.no h
  have hli := fun (y : Lim) (hy : y ∈ x.lims) (h : ¬ briefL y.vs) => hno fun g => h (g.lims y hy)
  have hse := fun (l : List (List Sp)) (hl : l ∈ x.sets) (h : ¬ l.length ≤ 12) => hno fun g => h (g.sets l hl).1
  have hss := fun (l : List (List Sp)) (hl : l ∈ x.sets) (s : List Sp) (hs : s ∈ l) (h : ¬ s.length ≤ 40) => hno fun g => h ((g.sets l hl).2 s hs)
  have hok := fun (h : ¬ bulky x) (h2 : ∀ y ∈ x.lims, briefL y.vs) (h3 : ∀ l ∈ x.sets, l.length ≤ 12 ∧ ∀ s ∈ l, s.length ≤ 40) => (tr_1 (Light.mk h h2 h3) : tr (Light x) = true)
  generalize tr (Light x) = R at *
  clear hno
  obtain ⟨a1, a2, a3, ⟨a4, a5⟩, a6, a7, a8, ⟨a9, b1⟩, b2⟩ := x
  try simp only at s1 s2 s3 s4 s5 s6 hb hli hse hss hok
  (repeat' ((first
 | refine AWPC.of_vcn rfl ?_
 | simp (disch := omega) only [wr64, Int.zero_sub]
 | refine AWPC.both (fun _ => ?_) (fun _ => ?_)
 | refine AWPC.imp (fun _ => ?_)
 | (refine .inl ⟨_, _, _, .any, rfl, fun h => absurd h Bool.false_ne_true, ?_⟩; refine owp_of_exs ?_)
 | refine ⟨by omega, ?_⟩
 | refine And.intro (by (intros; first | (simp_all; done) | fail)) ?_
 | fail) <;> try simp only [zT, zV, zS, zU, vcC, kscp, lateX, ex, strp, cnd, binA, kseq, kblk, kret, klp, Abs.one, elems, cells, scalar, eqC, Nat.reduceBEq, reduceAdd, reduceSub, reduceLT, reduceLeDiff, reduceMul, reduceEqDiff, reduceIte]))
  all_goals try (exfalso; omega)
  · rename_i h
    rw [hb (by unfold bulky; simp only; omega)]
    exact Frz.eq rfl (by simp)
  rename_i h
  have hnb : ¬ bulky ⟨a1, a2, a3, ⟨a4, a5⟩, a6, a7, a8, ⟨a9, b1⟩, b2⟩ := by unfold bulky; simp only; omega
  refine AWPC.loopE (α := { y : Nat // y ≤ a8.length ∧ ∀ z ∈ a8.take y, briefL z.vs }) [3] (fun y => [(3, n y.1)]) (fun y => []) (fun y => a8.length - y.1) ⟨0, Nat.zero_le _, by simp⟩ ?_ rfl ?_
  · (simp only [zT, zV, zS, zU, vcC, kscp, lateX, ex, strp, cnd, binA, kseq, kblk, kret, klp, Abs.one, elems, cells, scalar, eqC, Nat.reduceBEq, reduceAdd, reduceSub, reduceLT, reduceLeDiff, reduceMul, reduceEqDiff, reduceIte]; try simp)
  rintro ⟨i, hi, hI⟩
  try simp only at hi hI
  try simp only
  by_cases hlt : i < a8.length
  · obtain ⟨y, hy⟩ : ∃ y, a8[i]? = some y := ⟨_, List.getElem?_eq_getElem hlt⟩
    have hym := List.mem_of_getElem? hy
    have hsn := take_snoc hy
    have hbr := brief_spec y.vs
    by_cases hb : briefL y.vs
    · rw [decide_eq_true hb] at hbr
      (repeat' ((first
 | refine AWPC.of_vcn rfl ?_
 | simp (disch := omega) only [wr64, Int.zero_sub]
 | refine AWPC.both (fun _ => ?_) (fun _ => ?_)
 | refine AWPC.imp (fun _ => ?_)
 | ((repeat (refine And.intro (by (intros; first | omega | (simp_all; done) | fail)) ?_)); (first | ((first | refine .inl ⟨_, _, _, _, rfl, fun _hc => ⟨by simp (maxDischargeDepth := 9) <;> assumption, hbr⟩, ?_⟩ | refine ⟨_, _, _, _, rfl, fun _hc => ⟨by simp (maxDischargeDepth := 9) <;> assumption, hbr⟩, ?_⟩); (first | refine owp_of_exs ?_ | refine pre_of_exd ?_ | refine pre_of_exe ?_ | refine pre_of_exv ?_)) | refine .inl ⟨_, _, _, _, rfl, ⟨by simp (maxDischargeDepth := 9) <;> assumption, hbr⟩, ?_⟩))
 | (refine .inl ⟨_, _, _, .any, rfl, fun h => absurd h Bool.false_ne_true, ?_⟩; refine owp_of_exs ?_)
 | refine ⟨by omega, ?_⟩
 | refine And.intro (by (intros; first | (simp_all; done) | fail)) ?_
 | fail) <;> try simp only [zT, zV, zS, zU, vcC, kscp, lateX, ex, strp, cnd, binA, kseq, kblk, kret, klp, Abs.one, elems, cells, scalar, eqC, Nat.reduceBEq, reduceAdd, reduceSub, reduceLT, reduceLeDiff, reduceMul, reduceEqDiff, reduceIte, getD_map hy]))
      all_goals try (exfalso; omega)
      exact ⟨⟨i + 1, hlt, fun z hz => by
        rw [hsn] at hz
        rcases List.mem_append.1 hz with h | h
        · exact hI z h
        · rw [List.mem_singleton.1 h]; exact hb⟩, rfl, by simp only; omega⟩
    · rw [decide_eq_false hb] at hbr
      (repeat' ((first
 | refine AWPC.of_vcn rfl ?_
 | simp (disch := omega) only [wr64, Int.zero_sub]
 | refine AWPC.both (fun _ => ?_) (fun _ => ?_)
 | refine AWPC.imp (fun _ => ?_)
 | ((repeat (refine And.intro (by (intros; first | omega | (simp_all; done) | fail)) ?_)); (first | ((first | refine .inl ⟨_, _, _, _, rfl, fun _hc => ⟨by simp (maxDischargeDepth := 9) <;> assumption, hbr⟩, ?_⟩ | refine ⟨_, _, _, _, rfl, fun _hc => ⟨by simp (maxDischargeDepth := 9) <;> assumption, hbr⟩, ?_⟩); (first | refine owp_of_exs ?_ | refine pre_of_exd ?_ | refine pre_of_exe ?_ | refine pre_of_exv ?_)) | refine .inl ⟨_, _, _, _, rfl, ⟨by simp (maxDischargeDepth := 9) <;> assumption, hbr⟩, ?_⟩))
 | (refine .inl ⟨_, _, _, .any, rfl, fun h => absurd h Bool.false_ne_true, ?_⟩; refine owp_of_exs ?_)
 | refine ⟨by omega, ?_⟩
 | refine And.intro (by (intros; first | (simp_all; done) | fail)) ?_
 | fail) <;> try simp only [zT, zV, zS, zU, vcC, kscp, lateX, ex, strp, cnd, binA, kseq, kblk, kret, klp, Abs.one, elems, cells, scalar, eqC, Nat.reduceBEq, reduceAdd, reduceSub, reduceLT, reduceLeDiff, reduceMul, reduceEqDiff, reduceIte, getD_map hy]))
      all_goals try (exfalso; omega)
      rw [hli y hym hb]
      exact Frz.eq rfl (by simp)
  · obtain rfl : i = a8.length := by omega
    rw [List.take_length] at hI
    (repeat' ((first
 | refine AWPC.of_vcn rfl ?_
 | simp (disch := omega) only [wr64, Int.zero_sub]
 | refine AWPC.both (fun _ => ?_) (fun _ => ?_)
 | refine AWPC.imp (fun _ => ?_)
 | (refine .inl ⟨_, _, _, .any, rfl, fun h => absurd h Bool.false_ne_true, ?_⟩; refine owp_of_exs ?_)
 | refine ⟨by omega, ?_⟩
 | refine And.intro (by (intros; first | (simp_all; done) | fail)) ?_
 | fail) <;> try simp only [zT, zV, zS, zU, vcC, kscp, lateX, ex, strp, cnd, binA, kseq, kblk, kret, klp, Abs.one, elems, cells, scalar, eqC, Nat.reduceBEq, reduceAdd, reduceSub, reduceLT, reduceLeDiff, reduceMul, reduceEqDiff, reduceIte]))
    all_goals try (exfalso; omega)
    refine AWPC.loopE (α := { y : Nat // y ≤ b2.length ∧ ∀ l ∈ b2.take y, l.length ≤ 12 ∧ ∀ s ∈ l, s.length ≤ 40 }) [4] (fun y => [(4, n y.1)]) (fun y => []) (fun y => b2.length - y.1) ⟨0, Nat.zero_le _, by simp⟩ ?_ rfl ?_
    · (simp only [zT, zV, zS, zU, vcC, kscp, lateX, ex, strp, cnd, binA, kseq, kblk, kret, klp, Abs.one, elems, cells, scalar, eqC, Nat.reduceBEq, reduceAdd, reduceSub, reduceLT, reduceLeDiff, reduceMul, reduceEqDiff, reduceIte]; try simp)
    rintro ⟨k, hk, hK⟩
    try simp only at hk hK
    try simp only
    by_cases hlt : k < b2.length
    · obtain ⟨l, hl⟩ : ∃ l, b2[k]? = some l := ⟨_, List.getElem?_eq_getElem hlt⟩
      have hlm := List.mem_of_getElem? hl
      have hsn := take_snoc hl
      have gl : (b2.map fun l => [nodS l]).getD k [] = [nodS l] := getD_map hl
      obtain ⟨l1, l2⟩ := s6 l hlm
      (repeat' ((first
 | refine AWPC.of_vcn rfl ?_
 | simp (disch := omega) only [wr64, Int.zero_sub]
 | refine AWPC.both (fun _ => ?_) (fun _ => ?_)
 | refine AWPC.imp (fun _ => ?_)
 | (refine .inl ⟨_, _, _, .any, rfl, fun h => absurd h Bool.false_ne_true, ?_⟩; refine owp_of_exs ?_)
 | refine ⟨by omega, ?_⟩
 | refine And.intro (by (intros; first | (simp_all; done) | fail)) ?_
 | fail) <;> try simp only [zT, zV, zS, zU, vcC, kscp, lateX, ex, strp, cnd, binA, kseq, kblk, kret, klp, Abs.one, elems, cells, scalar, eqC, Nat.reduceBEq, reduceAdd, reduceSub, reduceLT, reduceLeDiff, reduceMul, reduceEqDiff, reduceIte, gl]))
      all_goals try (exfalso; omega)
      · rename_i h
        rw [hse l hlm (by omega)]
        exact Frz.eq rfl (by simp)
      rename_i h12
      refine AWPC.loopE (α := { y : Nat // y ≤ l.length ∧ ∀ s ∈ l.take y, s.length ≤ 40 }) [5] (fun y => [(5, n y.1)]) (fun y => []) (fun y => l.length - y.1) ⟨0, Nat.zero_le _, by simp⟩ ?_ rfl ?_
      · (simp only [zT, zV, zS, zU, vcC, kscp, lateX, ex, strp, cnd, binA, kseq, kblk, kret, klp, Abs.one, elems, cells, scalar, eqC, Nat.reduceBEq, reduceAdd, reduceSub, reduceLT, reduceLeDiff, reduceMul, reduceEqDiff, reduceIte]; try simp)
      rintro ⟨j, hj, hJ⟩
      try simp only at hj hJ
      try simp only
      by_cases hlt2 : j < l.length
      · obtain ⟨s, hs⟩ : ∃ s, l[j]? = some s := ⟨_, List.getElem?_eq_getElem hlt2⟩
        have hsm := List.mem_of_getElem? hs
        have hsn2 := take_snoc hs
        have gs : (l.map fun l => [spS l]).getD j [] = [spS s] := getD_map hs
        have hsl := l2 s hsm
        (repeat' ((first
 | refine AWPC.of_vcn rfl ?_
 | simp (disch := omega) only [wr64, Int.zero_sub]
 | refine AWPC.both (fun _ => ?_) (fun _ => ?_)
 | refine AWPC.imp (fun _ => ?_)
 | (refine .inl ⟨_, _, _, .any, rfl, fun h => absurd h Bool.false_ne_true, ?_⟩; refine owp_of_exs ?_)
 | refine ⟨by omega, ?_⟩
 | refine And.intro (by (intros; first | (simp_all; done) | fail)) ?_
 | fail) <;> try simp only [zT, zV, zS, zU, vcC, kscp, lateX, ex, strp, cnd, binA, kseq, kblk, kret, klp, Abs.one, elems, cells, scalar, eqC, Nat.reduceBEq, reduceAdd, reduceSub, reduceLT, reduceLeDiff, reduceMul, reduceEqDiff, reduceIte, gl, gs]))
        all_goals try (exfalso; omega)
        · rename_i h
          rw [hss l hlm s hsm (by omega)]
          exact Frz.eq rfl (by simp)
        · rename_i h
          exact ⟨⟨j + 1, hlt2, fun z hz => by
            rw [hsn2] at hz
            rcases List.mem_append.1 hz with h' | h'
            · exact hJ z h'
            · rw [List.mem_singleton.1 h']; omega⟩, rfl, by simp only; omega⟩
      · obtain rfl : j = l.length := by omega
        rw [List.take_length] at hJ
        (repeat' ((first
 | refine AWPC.of_vcn rfl ?_
 | simp (disch := omega) only [wr64, Int.zero_sub]
 | refine AWPC.both (fun _ => ?_) (fun _ => ?_)
 | refine AWPC.imp (fun _ => ?_)
 | (refine .inl ⟨_, _, _, .any, rfl, fun h => absurd h Bool.false_ne_true, ?_⟩; refine owp_of_exs ?_)
 | refine ⟨by omega, ?_⟩
 | refine And.intro (by (intros; first | (simp_all; done) | fail)) ?_
 | fail) <;> try simp only [zT, zV, zS, zU, vcC, kscp, lateX, ex, strp, cnd, binA, kseq, kblk, kret, klp, Abs.one, elems, cells, scalar, eqC, Nat.reduceBEq, reduceAdd, reduceSub, reduceLT, reduceLeDiff, reduceMul, reduceEqDiff, reduceIte, gl]))
        all_goals try (exfalso; omega)
        exact ⟨⟨k + 1, hlt, fun z hz => by
          rw [hsn] at hz
          rcases List.mem_append.1 hz with h' | h'
          · exact hK z h'
          · rw [List.mem_singleton.1 h']; exact ⟨by omega, hJ⟩⟩, rfl, by simp only; omega⟩
    · obtain rfl : k = b2.length := by omega
      rw [List.take_length] at hK
      rw [hok hnb hI hK]
      (repeat' ((first
 | refine AWPC.of_vcn rfl ?_
 | simp (disch := omega) only [wr64, Int.zero_sub]
 | refine AWPC.both (fun _ => ?_) (fun _ => ?_)
 | refine AWPC.imp (fun _ => ?_)
 | (refine .inl ⟨_, _, _, .any, rfl, fun h => absurd h Bool.false_ne_true, ?_⟩; refine owp_of_exs ?_)
 | refine ⟨by omega, ?_⟩
 | refine And.intro (by (intros; first | (simp_all; done) | fail)) ?_
 | fail) <;> try simp only [zT, zV, zS, zU, vcC, kscp, lateX, ex, strp, cnd, binA, kseq, kblk, kret, klp, Abs.one, elems, cells, scalar, eqC, Nat.reduceBEq, reduceAdd, reduceSub, reduceLT, reduceLeDiff, reduceMul, reduceEqDiff, reduceIte]))
      all_goals try (exfalso; omega)
      exact Frz.eq rfl (by simp)
def c83 : CF := ⟨15,
 (.seq (.ops [
 ⟨some 2,.box false 24 1 (.t 0),none⟩,
 ⟨some 4,.mv (.c (.slice none 0 0)),none⟩,
 ⟨some 5,.mv (.c (.int .i64 0)),none⟩] [1,2])
 (.seq (.seq (.ops [
 ⟨some 7,.load (some 1) (.t 2),none⟩,
 ⟨some 8,.call (.f 53) [(.t 7)],none⟩,
 ⟨some 6,.mv (.t 8),none⟩] [1,2,6])
 (.seq (.ops [
 ⟨some 9,.mv (.t 6),none⟩,
 ⟨some 10,.bin .neq (.t 9) (.c (.int .i64 0)),none⟩] [1,2,6,10])
 (.cond (.t 10) (.seq (.ops [
 ⟨some 11,.mv (.t 6),none⟩,
 ⟨some 4,.mv (.c (.slice none 0 0)),none⟩,
 ⟨some 5,.mv (.t 11),none⟩] [4,5])
 .ret)
 .skip)))
 (.seq (.ops [
 ⟨some 12,.mv (.t 1),none⟩,
 ⟨some 13,.load (some 1) (.t 2),none⟩,
 ⟨some 14,.call (.t 12) [(.t 13)],none⟩,
 ⟨some 4,.mv (.t 14),none⟩,
 ⟨some 5,.mv (.c (.int .i64 0)),none⟩] [4,5])
 .ret))),
 [.t 4,.t 5]⟩
def c34 : CF := ⟨8,
 (.seq (.ops [
 ⟨some 1,.box false 24 1 (.t 0),none⟩,
 ⟨some 2,.mv (.c (.slice none 0 0)),none⟩,
 ⟨some 3,.mv (.c (.int .i64 0)),none⟩] [1])
 (.seq (.ops [
 ⟨some 4,.load (some 1) (.t 1),none⟩,
 ⟨some 5,.call (.f 83) [(.t 4),(.f 88)],none⟩,
 ⟨some 6,.ext 0 (.t 5),none⟩,
 ⟨some 7,.ext 1 (.t 5),none⟩,
 ⟨some 2,.mv (.t 6),none⟩,
 ⟨some 3,.mv (.t 7),none⟩] [2,3])
 .ret)),
 [.t 2,.t 3]⟩
def c106 : CF := ⟨15,
 (.seq (.ops [
 ⟨some 5,.mv (.c (.slice none 0 0)),none⟩] [0,1,2])
 (.seq (.ops [
 ⟨some 6,.faddr 0 (.t 2),none⟩,
 ⟨some 7,.load none (.t 6),none⟩,
 ⟨some 8,.mv (.t 0),none⟩,
 ⟨some 9,.iaddr 1 (.t 7) (.t 8),none⟩,
 ⟨some 10,.load none (.t 9),none⟩,
 ⟨some 11,.mv (.t 1),none⟩,
 ⟨some 12,.iaddr 2 (.t 10) (.t 11),none⟩,
 ⟨some 13,.faddr 0 (.t 12),none⟩,
 ⟨some 14,.load none (.t 13),none⟩,
 ⟨some 5,.mv (.t 14),none⟩] [5])
 .ret)),
 [.t 5]⟩
def c107 : CF := ⟨22,
 (.seq (.ops [
 ⟨some 5,.box false 30 2 (.t 1),none⟩,
 ⟨some 6,.alloc 30 2 [.int .i64 0,.int .i64 0],none⟩] [0,2,3,5,6])
 (.seq (.seq (.ops [
 ⟨some 7,.mv (.t 0),none⟩,
 ⟨some 8,.load none (.t 2),none⟩,
 ⟨some 9,.bin .neq (.t 7) (.t 8),none⟩] [3,5,6,9])
 (.cond (.t 9) (.seq (.ops [
 ⟨some 10,.load (some 2) (.t 5),none⟩,
 ⟨none,.store 2 (.t 6) (.t 10),none⟩] [6])
 .ret)
 .skip))
 (.seq (.ops [
 ⟨some 11,.faddr 0 (.t 5),none⟩,
 ⟨some 12,.load none (.t 11),none⟩,
 ⟨some 13,.faddr 0 (.t 3),none⟩,
 ⟨some 14,.load none (.t 13),none⟩,
 ⟨some 15,.mnx true (.t 12) (.t 14),none⟩,
 ⟨some 16,.faddr 1 (.t 5),none⟩,
 ⟨some 17,.load none (.t 16),none⟩,
 ⟨some 18,.faddr 1 (.t 3),none⟩,
 ⟨some 19,.load none (.t 18),none⟩,
 ⟨some 20,.mnx false (.t 17) (.t 19),none⟩,
 ⟨some 21,.build [.int .i64 0,.int .i64 0] [(0,1,(.t 15)),(1,1,(.t 20))],none⟩,
 ⟨none,.store 2 (.t 6) (.t 21),none⟩] [6])
 .ret))),
 [.c 6 (some 2)]⟩
def c43 : CF := ⟨29,
 (.seq (.ops [
 ⟨some 3,.box false 24 1 (.t 0),none⟩,
 ⟨some 4,.box false 3 1 (.t 1),none⟩,
 ⟨some 5,.box false 30 2 (.t 2),none⟩,
 ⟨some 6,.alloc 24 1 [.slice none 0 0],none⟩,
 ⟨some 7,.mv (.c (.int .i64 0)),none⟩] [3,4,5,6])
 (.seq (.seq (.ops [
 ⟨some 9,.load (some 1) (.t 3),none⟩,
 ⟨some 10,.call (.f 53) [(.t 9)],none⟩,
 ⟨some 8,.mv (.t 10),none⟩] [3,4,5,6,8])
 (.seq (.ops [
 ⟨some 11,.mv (.t 8),none⟩,
 ⟨some 12,.bin .neq (.t 11) (.c (.int .i64 0)),none⟩] [3,4,5,6,8,12])
 (.cond (.t 12) (.seq (.ops [
 ⟨some 13,.build [.slice none 0 0] [],none⟩,
 ⟨some 14,.mv (.t 8),none⟩,
 ⟨none,.store 1 (.t 6) (.t 13),none⟩,
 ⟨some 7,.mv (.t 14),none⟩] [6,7])
 .ret)
 .skip)))
 (.seq (.seq (.ops [
 ⟨some 15,.load (some 1) (.t 3),none⟩,
 ⟨some 16,.load none (.t 4),none⟩,
 ⟨some 17,.call (.f 104) [(.t 15),(.t 16)],none⟩,
 ⟨some 18,.un .not (.t 17),none⟩,
 ⟨some 19,.mv (.t 18),none⟩,
 ⟨some 20,.load (some 2) (.t 5),some (19,false)⟩,
 ⟨some 21,.call (.f 105) [(.t 20)],some (19,false)⟩,
 ⟨some 22,.un .not (.t 21),some (19,false)⟩,
 ⟨some 23,.pick (.t 19) (.c (.bool true)) (.t 22),none⟩] [3,4,5,6,23])
 (.cond (.t 23) (.seq (.ops [
 ⟨some 24,.build [.slice none 0 0] [],none⟩,
 ⟨none,.store 1 (.t 6) (.t 24),none⟩,
 ⟨some 7,.mv (.c (.int .i64 1)),none⟩] [6,7])
 .ret)
 .skip))
 (.seq (.ops [
 ⟨some 25,.load (some 1) (.t 3),none⟩,
 ⟨some 26,.mkfn (.func 106) [] [(.t 3)],none⟩,
 ⟨some 27,.mkfn (.func 107) [] [(.t 4),(.t 5)],none⟩,
 ⟨some 28,.call (.f 101) [(.t 25),(.t 26),(.t 27)],none⟩,
 ⟨none,.store 1 (.t 6) (.t 28),none⟩,
 ⟨some 7,.mv (.c (.int .i64 0)),none⟩] [6,7])
 .ret)))),
 [.c 6 (some 1),.t 7]⟩
def c44 : CF := ⟨30,
 (.seq (.ops [
 ⟨some 2,.box false 24 1 (.t 0),none⟩,
 ⟨some 4,.mv (.c (.bool false)),none⟩] [1,2])
 (.seq (.seq (.ops [
 ⟨some 6,.mv (.t 1),none⟩,
 ⟨some 7,.len (.t 6),none⟩,
 ⟨some 8,.faddr 0 (.t 2),none⟩,
 ⟨some 9,.load none (.t 8),none⟩,
 ⟨some 10,.len (.t 9),none⟩,
 ⟨some 11,.bin .neq (.t 7) (.t 10),none⟩] [1,2,11])
 (.cond (.t 11) (.seq (.ops [
 ⟨some 4,.mv (.c (.bool false)),none⟩] [4])
 .ret)
 .skip))
 (.seq (.seq (.ops [
 ⟨some 5,.mv (.c (.int .i64 0)),none⟩] [1,2,5])
 (.block 0 (.loop (.seq (.seq (.ops [
 ⟨some 12,.mv (.t 5),none⟩,
 ⟨some 13,.mv (.t 1),none⟩,
 ⟨some 14,.len (.t 13),none⟩,
 ⟨some 15,.bin .lss (.t 12) (.t 14),none⟩] [1,2,5,15])
 (.cond (.t 15) .skip
 (.exit 0)))
 (.seq (.block 1 (.seq (.draw [
 ⟨some 18,.mv (.t 1),none⟩,
 ⟨some 19,.mv (.t 5),none⟩,
 ⟨some 20,.iaddr 1 (.t 18) (.t 19),none⟩,
 ⟨some 21,.load none (.t 20),none⟩,
 ⟨some 22,.len (.t 21),none⟩,
 ⟨some 23,.faddr 0 (.t 2),none⟩,
 ⟨some 24,.load none (.t 23),none⟩,
 ⟨some 25,.mv (.t 5),none⟩,
 ⟨some 26,.iaddr 1 (.t 24) (.t 25),none⟩,
 ⟨some 27,.load none (.t 26),none⟩,
 ⟨some 28,.len (.t 27),none⟩,
 ⟨some 29,.bin .neq (.t 22) (.t 28),none⟩] [
 ] [1,2,5,29])
 (.cond (.t 29) (.seq (.ops [
 ⟨some 4,.mv (.c (.bool false)),none⟩] [4])
 .ret)
 .skip)))
 (.ops [
 ⟨some 16,.mv (.t 5),none⟩,
 ⟨some 17,.bin .add (.t 16) (.c (.int .i64 1)),none⟩,
 ⟨some 5,.mv (.t 17),none⟩] [1,2,5]))))))
 (.seq (.ops [
 ⟨some 4,.mv (.c (.bool true)),none⟩] [4])
 .ret)))),
 [.t 4]⟩
def c45 : CF := ⟨49,
 (.seq (.ops [
 ⟨some 4,.mv (.c (.bool false)),none⟩] [0,1])
 (.seq (.seq (.ops [
 ⟨some 5,.mv (.c (.int .i64 0)),none⟩] [0,1,5])
 (.block 0 (.loop (.seq (.seq (.ops [
 ⟨some 8,.mv (.t 5),none⟩,
 ⟨some 9,.mv (.t 0),none⟩,
 ⟨some 10,.len (.t 9),none⟩,
 ⟨some 11,.bin .lss (.t 8) (.t 10),none⟩] [0,1,5,11])
 (.cond (.t 11) .skip
 (.exit 0)))
 (.seq (.block 1 (.seq (.ops [
 ⟨some 6,.mv (.c (.bool false)),none⟩] [0,1,5,6])
 (.seq (.seq (.ops [
 ⟨some 7,.mv (.c (.int .i64 0)),none⟩] [0,1,5,6,7])
 (.block 2 (.loop (.seq (.seq (.ops [
 ⟨some 14,.mv (.t 7),none⟩,
 ⟨some 15,.mv (.t 1),none⟩,
 ⟨some 16,.len (.t 15),none⟩,
 ⟨some 17,.bin .lss (.t 14) (.t 16),none⟩] [0,1,5,6,7,17])
 (.cond (.t 17) .skip
 (.exit 2)))
 (.seq (.block 3 (.draw [
 ⟨some 20,.mv (.t 6),none⟩,
 ⟨some 21,.mv (.t 20),none⟩,
 ⟨some 22,.mv (.t 1),some (21,false)⟩,
 ⟨some 23,.mv (.t 7),some (21,false)⟩,
 ⟨some 24,.iaddr 2 (.t 22) (.t 23),some (21,false)⟩,
 ⟨some 25,.faddr 0 (.t 24),some (21,false)⟩,
 ⟨some 26,.load none (.t 25),some (21,false)⟩,
 ⟨some 27,.mv (.t 0),some (21,false)⟩,
 ⟨some 28,.mv (.t 5),some (21,false)⟩,
 ⟨some 29,.iaddr 2 (.t 27) (.t 28),some (21,false)⟩,
 ⟨some 30,.faddr 0 (.t 29),some (21,false)⟩,
 ⟨some 31,.load none (.t 30),some (21,false)⟩,
 ⟨some 32,.bin .leq (.t 26) (.t 31),some (21,false)⟩,
 ⟨some 33,.mv (.t 32),some (21,false)⟩,
 ⟨some 34,.mv (.t 0),some (33,true)⟩,
 ⟨some 35,.mv (.t 5),some (33,true)⟩,
 ⟨some 36,.iaddr 2 (.t 34) (.t 35),some (33,true)⟩,
 ⟨some 37,.faddr 1 (.t 36),some (33,true)⟩,
 ⟨some 38,.load none (.t 37),some (33,true)⟩,
 ⟨some 39,.mv (.t 1),some (33,true)⟩,
 ⟨some 40,.mv (.t 7),some (33,true)⟩,
 ⟨some 41,.iaddr 2 (.t 39) (.t 40),some (33,true)⟩,
 ⟨some 42,.faddr 1 (.t 41),some (33,true)⟩,
 ⟨some 43,.load none (.t 42),some (33,true)⟩,
 ⟨some 44,.bin .leq (.t 38) (.t 43),some (33,true)⟩,
 ⟨some 45,.pick (.t 33) (.t 44) (.c (.bool false)),some (21,false)⟩,
 ⟨some 46,.pick (.t 21) (.c (.bool true)) (.t 45),none⟩] [
 ⟨some 6,.mv (.t 46),none⟩] [0,1,5,6,7]))
 (.ops [
 ⟨some 18,.mv (.t 7),none⟩,
 ⟨some 19,.bin .add (.t 18) (.c (.int .i64 1)),none⟩,
 ⟨some 7,.mv (.t 19),none⟩] [0,1,5,6,7]))))))
 (.seq (.ops [
 ⟨some 47,.mv (.t 6),none⟩,
 ⟨some 48,.un .not (.t 47),none⟩] [0,1,5,48])
 (.cond (.t 48) (.seq (.ops [
 ⟨some 4,.mv (.c (.bool false)),none⟩] [4])
 .ret)
 .skip)))))
 (.ops [
 ⟨some 12,.mv (.t 5),none⟩,
 ⟨some 13,.bin .add (.t 12) (.c (.int .i64 1)),none⟩,
 ⟨some 5,.mv (.t 13),none⟩] [0,1,5]))))))
 (.seq (.ops [
 ⟨some 4,.mv (.c (.bool true)),none⟩] [4])
 .ret))),
 [.t 4]⟩
theorem k83 : chkF Tryz.prog Tryz.f83 c83 = true := by kernel_rfl
theorem k34 : chkF Tryz.prog Tryz.f34 c34 = true := by kernel_rfl
theorem k106 : chkF Tryz.prog Tryz.f106 c106 = true := by kernel_rfl
theorem k107 : chkF Tryz.prog Tryz.f107 c107 = true := by kernel_rfl
theorem k43 : chkF Tryz.prog Tryz.f43 c43 = true := by kernel_rfl
theorem k44 : chkF Tryz.prog Tryz.f44 c44 = true := by kernel_rfl
theorem k45 : chkF Tryz.prog Tryz.f45 c45 = true := by kernel_rfl
theorem told_spec (t : Trk) (hs : trkSz t) (f : Nat) (x : List (List (List Sp))) (hf : valid t → Pure Tryz.prog f [trS t] (stgS x)) :
    Pure Tryz.prog 83 [trS t, .fn (.func f) [] []] (.tup [stgS (if tr (valid t) = true then x else []), n (if tr (valid t) = true then 0 else 40)]) := by
  refine Pure.of_body Tryz.call83 Tryz.func83 k83 (Nat.le_of_ble_eq_true rfl) ?_
  unfold c83
  have hc := Check_spec t hs
  by_cases hv : valid t
  · rw [tr_1 hv] at hc ⊢
    simp only [if_true] at hc ⊢
    have hx := hf hv
    (repeat' ((first
 | refine AWPC.of_vcn rfl ?_
 | simp (disch := omega) only [wr64, Int.zero_sub]
 | refine AWPC.both (fun _ => ?_) (fun _ => ?_)
 | refine AWPC.imp (fun _ => ?_)
 | ((repeat (refine And.intro (by (intros; first | omega | (simp_all; done) | fail)) ?_)); (first | ((first | refine .inl ⟨_, _, _, _, rfl, fun _hc => ⟨by simp (maxDischargeDepth := 9) <;> assumption, (by first | exact hc | exact hx)⟩, ?_⟩ | refine ⟨_, _, _, _, rfl, fun _hc => ⟨by simp (maxDischargeDepth := 9) <;> assumption, (by first | exact hc | exact hx)⟩, ?_⟩); (first | refine owp_of_exs ?_ | refine pre_of_exd ?_ | refine pre_of_exe ?_ | refine pre_of_exv ?_)) | refine .inl ⟨_, _, _, _, rfl, ⟨by simp (maxDischargeDepth := 9) <;> assumption, (by first | exact hc | exact hx)⟩, ?_⟩))
 | (refine .inl ⟨_, _, _, .any, rfl, fun h => absurd h Bool.false_ne_true, ?_⟩; refine owp_of_exs ?_)
 | refine ⟨by omega, ?_⟩
 | refine And.intro (by (intros; first | (simp_all; done) | fail)) ?_
 | fail) <;> try simp only [zT, zV, zS, zU, vcC, kscp, lateX, ex, strp, cnd, binA, kseq, kblk, kret, klp, Abs.one, elems, cells, scalar, eqC, Nat.reduceBEq, reduceAdd, reduceSub, reduceLT, reduceLeDiff, reduceMul, reduceEqDiff, reduceIte]))
    all_goals try (exfalso; omega)
    all_goals exact Frz.eq rfl (by simp)
  · rw [tr_0 hv] at hc ⊢
    simp only [Bool.false_eq_true, if_false] at hc ⊢
    (repeat' ((first
 | refine AWPC.of_vcn rfl ?_
 | simp (disch := omega) only [wr64, Int.zero_sub]
 | refine AWPC.both (fun _ => ?_) (fun _ => ?_)
 | refine AWPC.imp (fun _ => ?_)
 | ((repeat (refine And.intro (by (intros; first | omega | (simp_all; done) | fail)) ?_)); (first | ((first | refine .inl ⟨_, _, _, _, rfl, fun _hc => ⟨by simp (maxDischargeDepth := 9) <;> assumption, hc⟩, ?_⟩ | refine ⟨_, _, _, _, rfl, fun _hc => ⟨by simp (maxDischargeDepth := 9) <;> assumption, hc⟩, ?_⟩); (first | refine owp_of_exs ?_ | refine pre_of_exd ?_ | refine pre_of_exe ?_ | refine pre_of_exv ?_)) | refine .inl ⟨_, _, _, _, rfl, ⟨by simp (maxDischargeDepth := 9) <;> assumption, hc⟩, ?_⟩))
 | (refine .inl ⟨_, _, _, .any, rfl, fun h => absurd h Bool.false_ne_true, ?_⟩; refine owp_of_exs ?_)
 | refine ⟨by omega, ?_⟩
 | refine And.intro (by (intros; first | (simp_all; done) | fail)) ?_
 | fail) <;> try simp only [zT, zV, zS, zU, vcC, kscp, lateX, ex, strp, cnd, binA, kseq, kblk, kret, klp, Abs.one, elems, cells, scalar, eqC, Nat.reduceBEq, reduceAdd, reduceSub, reduceLT, reduceLeDiff, reduceMul, reduceEqDiff, reduceIte]))
    all_goals try (exfalso; omega)
    exact frz2 frz_nil (by simp)
theorem All_spec (t : Trk) (hs : trkSz t) : Pure Tryz.prog 34 [trS t] (.tup [stgS (if tr (valid t) = true then allvs t else []), n (if tr (valid t) = true then 0 else 40)]) := by
  refine Pure.of_body Tryz.call34 Tryz.func34 k34 (Nat.le_of_ble_eq_true rfl) ?_
  unfold c34
  have ht := told_spec t hs 88 (allvs t) (all_spec t)
  generalize (if tr (valid t) = true then (0 : Int) else 40) = E at *
  generalize (if tr (valid t) = true then allvs t else []) = X at *
  (repeat' ((first
 | refine AWPC.of_vcn rfl ?_
 | simp (disch := omega) only [wr64, Int.zero_sub]
 | refine AWPC.both (fun _ => ?_) (fun _ => ?_)
 | refine AWPC.imp (fun _ => ?_)
 | ((repeat (refine And.intro (by (intros; first | omega | (simp_all; done) | fail)) ?_)); (first | ((first | refine .inl ⟨_, _, _, _, rfl, fun _hc => ⟨by simp (maxDischargeDepth := 9) <;> assumption, ht⟩, ?_⟩ | refine ⟨_, _, _, _, rfl, fun _hc => ⟨by simp (maxDischargeDepth := 9) <;> assumption, ht⟩, ?_⟩); (first | refine owp_of_exs ?_ | refine pre_of_exd ?_ | refine pre_of_exe ?_ | refine pre_of_exv ?_)) | refine .inl ⟨_, _, _, _, rfl, ⟨by simp (maxDischargeDepth := 9) <;> assumption, ht⟩, ?_⟩))
 | (refine .inl ⟨_, _, _, .any, rfl, fun h => absurd h Bool.false_ne_true, ?_⟩; refine owp_of_exs ?_)
 | refine ⟨by omega, ?_⟩
 | refine And.intro (by (intros; first | (simp_all; done) | fail)) ?_
 | fail) <;> try simp only [zT, zV, zS, zU, vcC, kscp, lateX, ex, strp, cnd, binA, kseq, kblk, kret, klp, Abs.one, elems, cells, scalar, eqC, Nat.reduceBEq, reduceAdd, reduceSub, reduceLT, reduceLeDiff, reduceMul, reduceEqDiff, reduceIte]))
  all_goals exact Frz.eq rfl (by simp)
theorem calm1_spec (t : Trk) (hv : valid t) (k i : Nat) (hk : k < t.length) (hi : i < wd t k) : Pure Tryz.prog 106 [n k, n i, .iptr [tkS t] 0] (spS ((als t k).getD i [])) := by
  refine Pure.of_body Tryz.call106 Tryz.func106 k106 (Nat.le_of_ble_eq_true rfl) ?_
  unfold c106
  have gtk : (t.map fun l => [stS l]).getD k [] = [stS (t.getD k [])] := getD_map (getD_some hk)
  have hx : (t.getD k [])[i]? = some ((t.getD k []).getD i ⟨[], []⟩) := getD_some hi
  have gx : ((t.getD k []).map Nod.cs).getD i [] = Nod.cs ((t.getD k []).getD i ⟨[], []⟩) := getD_map hx
  have hal : (als t k).getD i [] = ((t.getD k []).getD i ⟨[], []⟩).al := getD_map hx
  have hww : wd t k = (t.getD k []).length := rfl
  rw [hal]
  rw [hww] at hi
  generalize ((t.getD k []).getD i ⟨[], []⟩) = x at *
  (repeat' ((first
 | refine AWPC.of_vcn rfl ?_
 | simp (disch := omega) only [wr64, Int.zero_sub]
 | refine AWPC.both (fun _ => ?_) (fun _ => ?_)
 | refine AWPC.imp (fun _ => ?_)
 | (refine .inl ⟨_, _, _, .any, rfl, fun h => absurd h Bool.false_ne_true, ?_⟩; refine owp_of_exs ?_)
 | refine ⟨by omega, ?_⟩
 | refine And.intro (by (intros; first | (simp_all; done) | fail)) ?_
 | fail) <;> try simp only [zT, zV, zS, zU, vcC, kscp, lateX, ex, strp, cnd, binA, kseq, kblk, kret, klp, Abs.one, elems, cells, scalar, eqC, Nat.reduceBEq, reduceAdd, reduceSub, reduceLT, reduceLeDiff, reduceMul, reduceEqDiff, reduceIte, gtk, gx]))
  all_goals try (exfalso; omega)
  all_goals exact Frz.eq rfl (by simp)
def calmC (st : Int) (c : Sp) (k : Nat) (s : Sp) : Sp := if (k : Int) = st then s.cap c else s
theorem calm2_spec (st : Int) (c : Sp) (k : Nat) (s : Sp) : Pure Tryz.prog 107 [n k, .agg s.cs, .iptr [n st] 0, .iptr c.cs 0] (.agg (calmC st c k s).cs) := by
  refine Pure.of_body Tryz.call107 Tryz.func107 k107 (Nat.le_of_ble_eq_true rfl) ?_
  unfold c107 calmC
  by_cases h : (k : Int) = st
  · rw [if_pos h]
    (repeat' ((first
 | refine AWPC.of_vcn rfl ?_
 | simp (disch := omega) only [wr64, Int.zero_sub]
 | refine AWPC.both (fun _ => ?_) (fun _ => ?_)
 | refine AWPC.imp (fun _ => ?_)
 | (refine .inl ⟨_, _, _, .any, rfl, fun h => absurd h Bool.false_ne_true, ?_⟩; refine owp_of_exs ?_)
 | refine ⟨by omega, ?_⟩
 | refine And.intro (by (intros; first | (simp_all; done) | fail)) ?_
 | fail) <;> try simp only [zT, zV, zS, zU, vcC, kscp, lateX, ex, strp, cnd, binA, kseq, kblk, kret, klp, Abs.one, elems, cells, scalar, eqC, Nat.reduceBEq, reduceAdd, reduceSub, reduceLT, reduceLeDiff, reduceMul, reduceEqDiff, reduceIte]))
    all_goals try (exfalso; omega)
    all_goals exact Frz.eq rfl (by simp)
  · rw [if_neg h]
    (repeat' ((first
 | refine AWPC.of_vcn rfl ?_
 | simp (disch := omega) only [wr64, Int.zero_sub]
 | refine AWPC.both (fun _ => ?_) (fun _ => ?_)
 | refine AWPC.imp (fun _ => ?_)
 | (refine .inl ⟨_, _, _, .any, rfl, fun h => absurd h Bool.false_ne_true, ?_⟩; refine owp_of_exs ?_)
 | refine ⟨by omega, ?_⟩
 | refine And.intro (by (intros; first | (simp_all; done) | fail)) ?_
 | fail) <;> try simp only [zT, zV, zS, zU, vcC, kscp, lateX, ex, strp, cnd, binA, kseq, kblk, kret, klp, Abs.one, elems, cells, scalar, eqC, Nat.reduceBEq, reduceAdd, reduceSub, reduceLT, reduceLeDiff, reduceMul, reduceEqDiff, reduceIte]))
    all_goals try (exfalso; omega)
    all_goals exact Frz.eq rfl (by simp)
def stepB (t : Trk) (k : Int) : Bool := decide (0 ≤ k ∧ IntKind.i64.wrap (k + 1) < (t.length : Int))
theorem stepB_spec (t : Trk) (k : Int) : Pure Tryz.prog 104 [trS t, n k] (bl (stepB t k)) := by
  refine Pure.of_body Tryz.call104 Tryz.func104 k104 (Nat.le_of_ble_eq_true rfl) ?_
  unfold c104 stepB
  (repeat' ((first
 | refine AWPC.of_vcn rfl ?_
 | simp (disch := omega) only [wr64, Int.zero_sub]
 | refine AWPC.both (fun _ => ?_) (fun _ => ?_)
 | refine AWPC.imp (fun _ => ?_)
 | (refine .inl ⟨_, _, _, .any, rfl, fun h => absurd h Bool.false_ne_true, ?_⟩; refine owp_of_exs ?_)
 | refine ⟨by omega, ?_⟩
 | refine And.intro (by (intros; first | (simp_all; done) | fail)) ?_
 | fail) <;> try simp only [zT, zV, zS, zU, vcC, kscp, lateX, ex, strp, cnd, binA, kseq, kblk, kret, klp, Abs.one, elems, cells, scalar, eqC, Nat.reduceBEq, reduceAdd, reduceSub, reduceLT, reduceLeDiff, reduceMul, reduceEqDiff, reduceIte]))
  all_goals exact Frz.eq (congrArg bl (by simp)) (by simp)
abbrev calmT (t : Trk) (st : Int) (c : Sp) : Trk := copyT t (fun k i => (als t k).getD i []) (calmC st c)
noncomputable def calmE (t : Trk) (st : Int) (c : Sp) : Int := if tr (valid t) = true then (if stepB t st = true ∧ chOk c then 0 else 1) else 40
theorem Calm_spec (t : Trk) (st : Int) (c : Sp) (hs : trkSz t) : Pure Tryz.prog 43 [trS t, n st, .agg c.cs] (.tup [trS (if calmE t st c = 0 then calmT t st c else []), n (calmE t st c)]) := by
  refine Pure.of_body Tryz.call43 Tryz.func43 k43 (Nat.le_of_ble_eq_true rfl) ?_
  unfold c43
  have hc := Check_spec t hs
  have hE : calmE t st c = if tr (valid t) = true then (if stepB t st = true ∧ chOk c then 0 else 1) else 40 := rfl
  have h1 := stepB_spec t st
  have h2 := isChange_spec c
  by_cases hv : valid t
  · rw [tr_1 hv] at hc hE
    simp only [if_true] at hc hE
    have hcp := copied_spec t hv 106 107 [.iptr [tkS t] 0] [.iptr [n st] 0, .iptr c.cs 0] (by simp (maxDischargeDepth := 9)) (by simp (maxDischargeDepth := 9)) (fun k i => (als t k).getD i []) (calmC st c)
      (fun k i hk hi => ⟨calm1_spec t hv k i hk hi, by have := good_len (goods_get (als_goods hv k) i); omega⟩) (fun k s => calm2_spec st c k s)
    by_cases hb : stepB t st = true
    · by_cases hch : chOk c
      · rw [if_pos ⟨hb, hch⟩] at hE
        rw [hE, if_pos rfl]
        rw [hb] at h1
        rw [decide_eq_true hch] at h2
        (repeat' ((first
 | refine AWPC.of_vcn rfl ?_
 | simp (disch := omega) only [wr64, Int.zero_sub]
 | refine AWPC.both (fun _ => ?_) (fun _ => ?_)
 | refine AWPC.imp (fun _ => ?_)
 | ((repeat (refine And.intro (by (intros; first | omega | (simp_all; done) | fail)) ?_)); (first | ((first | refine .inl ⟨_, _, _, _, rfl, fun _hc => ⟨by simp (maxDischargeDepth := 9) <;> assumption, (by first | exact hc | exact h1 | exact h2 | exact hcp)⟩, ?_⟩ | refine ⟨_, _, _, _, rfl, fun _hc => ⟨by simp (maxDischargeDepth := 9) <;> assumption, (by first | exact hc | exact h1 | exact h2 | exact hcp)⟩, ?_⟩); (first | refine owp_of_exs ?_ | refine pre_of_exd ?_ | refine pre_of_exe ?_ | refine pre_of_exv ?_)) | refine .inl ⟨_, _, _, _, rfl, ⟨by simp (maxDischargeDepth := 9) <;> assumption, (by first | exact hc | exact h1 | exact h2 | exact hcp)⟩, ?_⟩))
 | (refine .inl ⟨_, _, _, .any, rfl, fun h => absurd h Bool.false_ne_true, ?_⟩; refine owp_of_exs ?_)
 | refine ⟨by omega, ?_⟩
 | refine And.intro (by (intros; first | (simp_all; done) | fail)) ?_
 | fail) <;> try simp only [zT, zV, zS, zU, vcC, kscp, lateX, ex, strp, cnd, binA, kseq, kblk, kret, klp, Abs.one, elems, cells, scalar, eqC, Nat.reduceBEq, reduceAdd, reduceSub, reduceLT, reduceLeDiff, reduceMul, reduceEqDiff, reduceIte]))
        all_goals try (exfalso; omega)
        all_goals exact Frz.eq rfl (by simp (maxDischargeDepth := 9))
      · rw [if_neg fun h => hch h.2] at hE
        rw [hE, if_neg (by decide)]
        rw [hb] at h1
        rw [decide_eq_false hch] at h2
        (repeat' ((first
 | refine AWPC.of_vcn rfl ?_
 | simp (disch := omega) only [wr64, Int.zero_sub]
 | refine AWPC.both (fun _ => ?_) (fun _ => ?_)
 | refine AWPC.imp (fun _ => ?_)
 | ((repeat (refine And.intro (by (intros; first | omega | (simp_all; done) | fail)) ?_)); (first | ((first | refine .inl ⟨_, _, _, _, rfl, fun _hc => ⟨by simp (maxDischargeDepth := 9) <;> assumption, (by first | exact hc | exact h1 | exact h2)⟩, ?_⟩ | refine ⟨_, _, _, _, rfl, fun _hc => ⟨by simp (maxDischargeDepth := 9) <;> assumption, (by first | exact hc | exact h1 | exact h2)⟩, ?_⟩); (first | refine owp_of_exs ?_ | refine pre_of_exd ?_ | refine pre_of_exe ?_ | refine pre_of_exv ?_)) | refine .inl ⟨_, _, _, _, rfl, ⟨by simp (maxDischargeDepth := 9) <;> assumption, (by first | exact hc | exact h1 | exact h2)⟩, ?_⟩))
 | (refine .inl ⟨_, _, _, .any, rfl, fun h => absurd h Bool.false_ne_true, ?_⟩; refine owp_of_exs ?_)
 | refine ⟨by omega, ?_⟩
 | refine And.intro (by (intros; first | (simp_all; done) | fail)) ?_
 | fail) <;> try simp only [zT, zV, zS, zU, vcC, kscp, lateX, ex, strp, cnd, binA, kseq, kblk, kret, klp, Abs.one, elems, cells, scalar, eqC, Nat.reduceBEq, reduceAdd, reduceSub, reduceLT, reduceLeDiff, reduceMul, reduceEqDiff, reduceIte]))
        all_goals try (exfalso; omega)
        exact frz2 frz_aggnil (by simp)
    · rw [if_neg fun h => hb h.1] at hE
      rw [hE, if_neg (by decide)]
      rw [show stepB t st = false by simpa using hb] at h1
      (repeat' ((first
 | refine AWPC.of_vcn rfl ?_
 | simp (disch := omega) only [wr64, Int.zero_sub]
 | refine AWPC.both (fun _ => ?_) (fun _ => ?_)
 | refine AWPC.imp (fun _ => ?_)
 | ((repeat (refine And.intro (by (intros; first | omega | (simp_all; done) | fail)) ?_)); (first | ((first | refine .inl ⟨_, _, _, _, rfl, fun _hc => ⟨by simp (maxDischargeDepth := 9) <;> assumption, (by first | exact hc | exact h1 | exact h2)⟩, ?_⟩ | refine ⟨_, _, _, _, rfl, fun _hc => ⟨by simp (maxDischargeDepth := 9) <;> assumption, (by first | exact hc | exact h1 | exact h2)⟩, ?_⟩); (first | refine owp_of_exs ?_ | refine pre_of_exd ?_ | refine pre_of_exe ?_ | refine pre_of_exv ?_)) | refine .inl ⟨_, _, _, _, rfl, ⟨by simp (maxDischargeDepth := 9) <;> assumption, (by first | exact hc | exact h1 | exact h2)⟩, ?_⟩))
 | (refine .inl ⟨_, _, _, .any, rfl, fun h => absurd h Bool.false_ne_true, ?_⟩; refine owp_of_exs ?_)
 | refine ⟨by omega, ?_⟩
 | refine And.intro (by (intros; first | (simp_all; done) | fail)) ?_
 | fail) <;> try simp only [zT, zV, zS, zU, vcC, kscp, lateX, ex, strp, cnd, binA, kseq, kblk, kret, klp, Abs.one, elems, cells, scalar, eqC, Nat.reduceBEq, reduceAdd, reduceSub, reduceLT, reduceLeDiff, reduceMul, reduceEqDiff, reduceIte]))
      all_goals try (exfalso; omega)
      exact frz2 frz_aggnil (by simp)
  · rw [tr_0 hv] at hc hE
    simp only [Bool.false_eq_true, if_false] at hc hE
    rw [hE, if_neg (by decide)]
    (repeat' ((first
 | refine AWPC.of_vcn rfl ?_
 | simp (disch := omega) only [wr64, Int.zero_sub]
 | refine AWPC.both (fun _ => ?_) (fun _ => ?_)
 | refine AWPC.imp (fun _ => ?_)
 | ((repeat (refine And.intro (by (intros; first | omega | (simp_all; done) | fail)) ?_)); (first | ((first | refine .inl ⟨_, _, _, _, rfl, fun _hc => ⟨by simp (maxDischargeDepth := 9) <;> assumption, hc⟩, ?_⟩ | refine ⟨_, _, _, _, rfl, fun _hc => ⟨by simp (maxDischargeDepth := 9) <;> assumption, hc⟩, ?_⟩); (first | refine owp_of_exs ?_ | refine pre_of_exd ?_ | refine pre_of_exe ?_ | refine pre_of_exv ?_)) | refine .inl ⟨_, _, _, _, rfl, ⟨by simp (maxDischargeDepth := 9) <;> assumption, hc⟩, ?_⟩))
 | (refine .inl ⟨_, _, _, .any, rfl, fun h => absurd h Bool.false_ne_true, ?_⟩; refine owp_of_exs ?_)
 | refine ⟨by omega, ?_⟩
 | refine And.intro (by (intros; first | (simp_all; done) | fail)) ?_
 | fail) <;> try simp only [zT, zV, zS, zU, vcC, kscp, lateX, ex, strp, cnd, binA, kseq, kblk, kret, klp, Abs.one, elems, cells, scalar, eqC, Nat.reduceBEq, reduceAdd, reduceSub, reduceLT, reduceLeDiff, reduceMul, reduceEqDiff, reduceIte]))
    all_goals try (exfalso; omega)
    exact frz2 frz_aggnil (by simp)
def shaped (t : Trk) (ps : List (List (List Sp))) : Prop := ps.length = t.length ∧ ∀ k, k < t.length → (ps.getD k []).length = wd t k
theorem shaped_spec (t : Trk) (ps : List (List (List Sp))) (hs : trkSz t) (hp : setsSz ps) : Pure Tryz.prog 44 [trS t, stgS ps] (bl (tr (shaped t ps))) := by
  refine Pure.of_body Tryz.call44 Tryz.func44 k44 (Nat.le_of_ble_eq_true rfl) ?_
  unfold c44
  have hno : ¬ shaped t ps → tr (shaped t ps) = false := tr_0
  have hyes : shaped t ps → tr (shaped t ps) = true := tr_1
  have h1 := hs.1
  obtain ⟨hpl, hpx⟩ := hp
  generalize tr (shaped t ps) = R at *
  (repeat' ((first
 | refine AWPC.of_vcn rfl ?_
 | simp (disch := omega) only [wr64, Int.zero_sub]
 | refine AWPC.both (fun _ => ?_) (fun _ => ?_)
 | refine AWPC.imp (fun _ => ?_)
 | (refine .inl ⟨_, _, _, .any, rfl, fun h => absurd h Bool.false_ne_true, ?_⟩; refine owp_of_exs ?_)
 | refine ⟨by omega, ?_⟩
 | refine And.intro (by (intros; first | (simp_all; done) | fail)) ?_
 | fail) <;> try simp only [zT, zV, zS, zU, vcC, kscp, lateX, ex, strp, cnd, binA, kseq, kblk, kret, klp, Abs.one, elems, cells, scalar, eqC, Nat.reduceBEq, reduceAdd, reduceSub, reduceLT, reduceLeDiff, reduceMul, reduceEqDiff, reduceIte]))
  · rename_i h
    rw [hno fun e => h (by have := e.1; omega)]
    exact Frz.eq rfl (by simp)
  rename_i h
  have hlen : ps.length = t.length := by omega
  refine AWPC.loopE (α := { y : Nat // y ≤ ps.length ∧ ∀ k, k < y → (ps.getD k []).length = wd t k }) [5] (fun y => [(5, n y.1)]) (fun y => []) (fun y => ps.length - y.1) ⟨0, Nat.zero_le _, by simp⟩ ?_ rfl ?_
  · (simp only [zT, zV, zS, zU, vcC, kscp, lateX, ex, strp, cnd, binA, kseq, kblk, kret, klp, Abs.one, elems, cells, scalar, eqC, Nat.reduceBEq, reduceAdd, reduceSub, reduceLT, reduceLeDiff, reduceMul, reduceEqDiff, reduceIte]; try simp)
  rintro ⟨i, hi, hI⟩
  try simp only at hi hI
  try simp only
  by_cases hlt : i < ps.length
  · have hpi : ps[i]? = some (ps.getD i []) := getD_some hlt
    have gp : (ps.map fun l => [nodS l]).getD i [] = [nodS (ps.getD i [])] := getD_map hpi
    have hti : t[i]? = some (t.getD i []) := getD_some (by omega)
    have gt' : (t.map fun l => [stS l]).getD i [] = [stS (t.getD i [])] := getD_map hti
    have hww : wd t i = (t.getD i []).length := rfl
    obtain ⟨x1, x2⟩ := hpx _ (List.mem_of_getElem? hpi)
    have hL := (hs.2 _ (List.mem_of_getElem? hti)).1
    have hb1 : (ps.getD i []).length ≠ wd t i → ¬ shaped t ps := fun h g => h (g.2 i (by omega))
    have hnext : (ps.getD i []).length = wd t i → ∀ k, k < i + 1 → (ps.getD k []).length = wd t k := fun a k hk => by
      by_cases hki : k = i
      · subst hki; exact a
      · exact hI k (by omega)
    generalize ps.getD i [] = X at *
    rw [hww] at hb1 hnext
    generalize t.getD i [] = L at *
    (repeat' ((first
 | refine AWPC.of_vcn rfl ?_
 | simp (disch := omega) only [wr64, Int.zero_sub]
 | refine AWPC.both (fun _ => ?_) (fun _ => ?_)
 | refine AWPC.imp (fun _ => ?_)
 | (refine .inl ⟨_, _, _, .any, rfl, fun h => absurd h Bool.false_ne_true, ?_⟩; refine owp_of_exs ?_)
 | refine ⟨by omega, ?_⟩
 | refine And.intro (by (intros; first | (simp_all; done) | fail)) ?_
 | fail) <;> try simp only [zT, zV, zS, zU, vcC, kscp, lateX, ex, strp, cnd, binA, kseq, kblk, kret, klp, Abs.one, elems, cells, scalar, eqC, Nat.reduceBEq, reduceAdd, reduceSub, reduceLT, reduceLeDiff, reduceMul, reduceEqDiff, reduceIte, gp, gt']))
    all_goals try (exfalso; omega)
    · rename_i h
      rw [hno (hb1 (by omega))]
      exact Frz.eq rfl (by simp)
    · rename_i h
      exact ⟨⟨i + 1, hlt, hnext (by omega)⟩, rfl, by first | omega | (simp only; omega)⟩
  · obtain rfl : i = ps.length := by omega
    rw [hyes ⟨hlen, fun k hk => hI k (by omega)⟩]
    (repeat' ((first
 | refine AWPC.of_vcn rfl ?_
 | simp (disch := omega) only [wr64, Int.zero_sub]
 | refine AWPC.both (fun _ => ?_) (fun _ => ?_)
 | refine AWPC.imp (fun _ => ?_)
 | (refine .inl ⟨_, _, _, .any, rfl, fun h => absurd h Bool.false_ne_true, ?_⟩; refine owp_of_exs ?_)
 | refine ⟨by omega, ?_⟩
 | refine And.intro (by (intros; first | (simp_all; done) | fail)) ?_
 | fail) <;> try simp only [zT, zV, zS, zU, vcC, kscp, lateX, ex, strp, cnd, binA, kseq, kblk, kret, klp, Abs.one, elems, cells, scalar, eqC, Nat.reduceBEq, reduceAdd, reduceSub, reduceLT, reduceLeDiff, reduceMul, reduceEqDiff, reduceIte]))
    all_goals try (exfalso; omega)
    exact Frz.eq rfl (by simp)
def fnd (s : Sp) (l : List Sp) : Bool := l.any fun r => decide (r.lo ≤ s.lo) && decide (s.hi ≤ r.hi)
theorem fnd_snoc {s : Sp} {l : List Sp} {i : Nat} {r : Sp} (h : l[i]? = some r) : fnd s (l.take (i + 1)) = (fnd s (l.take i) || (decide (r.lo ≤ s.lo) && decide (s.hi ≤ r.hi))) := by
  rw [take_snoc h]; unfold fnd; rw [List.any_append]; simp
def insB (a b : List Sp) : Prop := ∀ s ∈ a, fnd s b = true
theorem inside45_spec (a b : List Sp) (ha : a.length < 9223372036854775808) (hb : b.length < 9223372036854775808) : Pure Tryz.prog 45 [spS a, spS b] (bl (tr (insB a b))) := by
  refine Pure.of_body Tryz.call45 Tryz.func45 k45 (Nat.le_of_ble_eq_true rfl) ?_
  unfold c45
  have hno : ¬ insB a b → tr (insB a b) = false := tr_0
  have hyes : insB a b → tr (insB a b) = true := tr_1
  generalize tr (insB a b) = R at *
  (repeat' ((first
 | refine AWPC.of_vcn rfl ?_
 | simp (disch := omega) only [wr64, Int.zero_sub]
 | refine AWPC.both (fun _ => ?_) (fun _ => ?_)
 | refine AWPC.imp (fun _ => ?_)
 | (refine .inl ⟨_, _, _, .any, rfl, fun h => absurd h Bool.false_ne_true, ?_⟩; refine owp_of_exs ?_)
 | refine ⟨by omega, ?_⟩
 | refine And.intro (by (intros; first | (simp_all; done) | fail)) ?_
 | fail) <;> try simp only [zT, zV, zS, zU, vcC, kscp, lateX, ex, strp, cnd, binA, kseq, kblk, kret, klp, Abs.one, elems, cells, scalar, eqC, Nat.reduceBEq, reduceAdd, reduceSub, reduceLT, reduceLeDiff, reduceMul, reduceEqDiff, reduceIte]))
  refine AWPC.loopE (α := { y : Nat // y ≤ a.length ∧ ∀ s ∈ a.take y, fnd s b = true }) [5] (fun y => [(5, n y.1)]) (fun y => []) (fun y => a.length - y.1) ⟨0, Nat.zero_le _, by simp⟩ ?_ rfl ?_
  · (simp only [zT, zV, zS, zU, vcC, kscp, lateX, ex, strp, cnd, binA, kseq, kblk, kret, klp, Abs.one, elems, cells, scalar, eqC, Nat.reduceBEq, reduceAdd, reduceSub, reduceLT, reduceLeDiff, reduceMul, reduceEqDiff, reduceIte]; try simp)
  rintro ⟨i, hi, hI⟩
  try simp only at hi hI
  try simp only
  by_cases hlt : i < a.length
  · obtain ⟨s, hs⟩ : ∃ s, a[i]? = some s := ⟨_, List.getElem?_eq_getElem hlt⟩
    have hsm := List.mem_of_getElem? hs
    have hsn := take_snoc hs
    (repeat' ((first
 | refine AWPC.of_vcn rfl ?_
 | simp (disch := omega) only [wr64, Int.zero_sub]
 | refine AWPC.both (fun _ => ?_) (fun _ => ?_)
 | refine AWPC.imp (fun _ => ?_)
 | (refine .inl ⟨_, _, _, .any, rfl, fun h => absurd h Bool.false_ne_true, ?_⟩; refine owp_of_exs ?_)
 | refine ⟨by omega, ?_⟩
 | refine And.intro (by (intros; first | (simp_all; done) | fail)) ?_
 | fail) <;> try simp only [zT, zV, zS, zU, vcC, kscp, lateX, ex, strp, cnd, binA, kseq, kblk, kret, klp, Abs.one, elems, cells, scalar, eqC, Nat.reduceBEq, reduceAdd, reduceSub, reduceLT, reduceLeDiff, reduceMul, reduceEqDiff, reduceIte]))
    all_goals try (exfalso; omega)
    refine AWPC.loopE (α := { y : Nat // y ≤ b.length }) [6, 7] (fun y => [(6, bl (fnd s (b.take y.1))), (7, n y.1)]) (fun y => []) (fun y => b.length - y.1) ⟨0, Nat.zero_le _⟩ ?_ rfl ?_
    · (simp only [zT, zV, zS, zU, vcC, kscp, lateX, ex, strp, cnd, binA, kseq, kblk, kret, klp, Abs.one, elems, cells, scalar, eqC, Nat.reduceBEq, reduceAdd, reduceSub, reduceLT, reduceLeDiff, reduceMul, reduceEqDiff, reduceIte]; try simp)
      try rfl
    rintro ⟨j, hj⟩
    try simp only at hj
    try simp only
    by_cases hlt2 : j < b.length
    · obtain ⟨r, hr⟩ : ∃ r, b[j]? = some r := ⟨_, List.getElem?_eq_getElem hlt2⟩
      have hf := fnd_snoc (s := s) hr
      cases hB : fnd s (b.take j) with
      | true =>
        rw [hB, Bool.true_or] at hf
        (repeat' ((first
 | refine AWPC.of_vcn rfl ?_
 | simp (disch := omega) only [wr64, Int.zero_sub]
 | refine AWPC.both (fun _ => ?_) (fun _ => ?_)
 | refine AWPC.imp (fun _ => ?_)
 | (refine .inl ⟨_, _, _, .any, rfl, fun h => absurd h Bool.false_ne_true, ?_⟩; refine owp_of_exs ?_)
 | refine ⟨by omega, ?_⟩
 | refine And.intro (by (intros; first | (simp_all; done) | fail)) ?_
 | fail) <;> try simp only [zT, zV, zS, zU, vcC, kscp, lateX, ex, strp, cnd, binA, kseq, kblk, kret, klp, Abs.one, elems, cells, scalar, eqC, Nat.reduceBEq, reduceAdd, reduceSub, reduceLT, reduceLeDiff, reduceMul, reduceEqDiff, reduceIte, getD_map hs, getD_map hr]))
        all_goals try (exfalso; omega)
        all_goals exact ⟨⟨j + 1, hlt2⟩, ⟨by simp only; rw [hf], rfl⟩, by first | omega | (simp only; omega)⟩
      | false =>
        rw [hB, Bool.false_or] at hf
        by_cases h1 : r.lo ≤ s.lo
        · rw [decide_eq_true h1, Bool.true_and] at hf
          by_cases h2 : s.hi ≤ r.hi
          · rw [decide_eq_true h2] at hf
            (repeat' ((first
 | refine AWPC.of_vcn rfl ?_
 | simp (disch := omega) only [wr64, Int.zero_sub]
 | refine AWPC.both (fun _ => ?_) (fun _ => ?_)
 | refine AWPC.imp (fun _ => ?_)
 | (refine .inl ⟨_, _, _, .any, rfl, fun h => absurd h Bool.false_ne_true, ?_⟩; refine owp_of_exs ?_)
 | refine ⟨by omega, ?_⟩
 | refine And.intro (by (intros; first | (simp_all; done) | fail)) ?_
 | fail) <;> try simp only [zT, zV, zS, zU, vcC, kscp, lateX, ex, strp, cnd, binA, kseq, kblk, kret, klp, Abs.one, elems, cells, scalar, eqC, Nat.reduceBEq, reduceAdd, reduceSub, reduceLT, reduceLeDiff, reduceMul, reduceEqDiff, reduceIte, getD_map hs, getD_map hr, h1, h2]))
            all_goals try (exfalso; omega)
            all_goals exact ⟨⟨j + 1, hlt2⟩, ⟨by simp only; rw [hf], rfl⟩, by first | omega | (simp only; omega)⟩
          · rw [decide_eq_false h2] at hf
            (repeat' ((first
 | refine AWPC.of_vcn rfl ?_
 | simp (disch := omega) only [wr64, Int.zero_sub]
 | refine AWPC.both (fun _ => ?_) (fun _ => ?_)
 | refine AWPC.imp (fun _ => ?_)
 | (refine .inl ⟨_, _, _, .any, rfl, fun h => absurd h Bool.false_ne_true, ?_⟩; refine owp_of_exs ?_)
 | refine ⟨by omega, ?_⟩
 | refine And.intro (by (intros; first | (simp_all; done) | fail)) ?_
 | fail) <;> try simp only [zT, zV, zS, zU, vcC, kscp, lateX, ex, strp, cnd, binA, kseq, kblk, kret, klp, Abs.one, elems, cells, scalar, eqC, Nat.reduceBEq, reduceAdd, reduceSub, reduceLT, reduceLeDiff, reduceMul, reduceEqDiff, reduceIte, getD_map hs, getD_map hr, h1, h2]))
            all_goals try (exfalso; omega)
            all_goals exact ⟨⟨j + 1, hlt2⟩, ⟨by simp only; rw [hf], rfl⟩, by first | omega | (simp only; omega)⟩
        · rw [decide_eq_false h1, Bool.false_and] at hf
          (repeat' ((first
 | refine AWPC.of_vcn rfl ?_
 | simp (disch := omega) only [wr64, Int.zero_sub]
 | refine AWPC.both (fun _ => ?_) (fun _ => ?_)
 | refine AWPC.imp (fun _ => ?_)
 | (refine .inl ⟨_, _, _, .any, rfl, fun h => absurd h Bool.false_ne_true, ?_⟩; refine owp_of_exs ?_)
 | refine ⟨by omega, ?_⟩
 | refine And.intro (by (intros; first | (simp_all; done) | fail)) ?_
 | fail) <;> try simp only [zT, zV, zS, zU, vcC, kscp, lateX, ex, strp, cnd, binA, kseq, kblk, kret, klp, Abs.one, elems, cells, scalar, eqC, Nat.reduceBEq, reduceAdd, reduceSub, reduceLT, reduceLeDiff, reduceMul, reduceEqDiff, reduceIte, getD_map hs, getD_map hr, h1]))
          all_goals try (exfalso; omega)
          all_goals exact ⟨⟨j + 1, hlt2⟩, ⟨by simp only; rw [hf], rfl⟩, by first | omega | (simp only; omega)⟩
    · obtain rfl : j = b.length := by omega
      rw [List.take_length]
      cases hB : fnd s b with
      | true =>
        (repeat' ((first
 | refine AWPC.of_vcn rfl ?_
 | simp (disch := omega) only [wr64, Int.zero_sub]
 | refine AWPC.both (fun _ => ?_) (fun _ => ?_)
 | refine AWPC.imp (fun _ => ?_)
 | (refine .inl ⟨_, _, _, .any, rfl, fun h => absurd h Bool.false_ne_true, ?_⟩; refine owp_of_exs ?_)
 | refine ⟨by omega, ?_⟩
 | refine And.intro (by (intros; first | (simp_all; done) | fail)) ?_
 | fail) <;> try simp only [zT, zV, zS, zU, vcC, kscp, lateX, ex, strp, cnd, binA, kseq, kblk, kret, klp, Abs.one, elems, cells, scalar, eqC, Nat.reduceBEq, reduceAdd, reduceSub, reduceLT, reduceLeDiff, reduceMul, reduceEqDiff, reduceIte]))
        all_goals try (exfalso; omega)
        exact ⟨⟨i + 1, hlt, fun y hy => by
          rw [hsn] at hy
          rcases List.mem_append.1 hy with h | h
          · exact hI y h
          · rw [List.mem_singleton.1 h]; exact hB⟩, rfl, by first | omega | (simp only; omega)⟩
      | false =>
        (repeat' ((first
 | refine AWPC.of_vcn rfl ?_
 | simp (disch := omega) only [wr64, Int.zero_sub]
 | refine AWPC.both (fun _ => ?_) (fun _ => ?_)
 | refine AWPC.imp (fun _ => ?_)
 | (refine .inl ⟨_, _, _, .any, rfl, fun h => absurd h Bool.false_ne_true, ?_⟩; refine owp_of_exs ?_)
 | refine ⟨by omega, ?_⟩
 | refine And.intro (by (intros; first | (simp_all; done) | fail)) ?_
 | fail) <;> try simp only [zT, zV, zS, zU, vcC, kscp, lateX, ex, strp, cnd, binA, kseq, kblk, kret, klp, Abs.one, elems, cells, scalar, eqC, Nat.reduceBEq, reduceAdd, reduceSub, reduceLT, reduceLeDiff, reduceMul, reduceEqDiff, reduceIte]))
        all_goals try (exfalso; omega)
        rw [hno fun h => by have := h s hsm; rw [hB] at this; cases this]
        exact Frz.eq rfl (by simp)
  · obtain rfl : i = a.length := by omega
    rw [List.take_length] at hI
    rw [hyes hI]
    (repeat' ((first
 | refine AWPC.of_vcn rfl ?_
 | simp (disch := omega) only [wr64, Int.zero_sub]
 | refine AWPC.both (fun _ => ?_) (fun _ => ?_)
 | refine AWPC.imp (fun _ => ?_)
 | (refine .inl ⟨_, _, _, .any, rfl, fun h => absurd h Bool.false_ne_true, ?_⟩; refine owp_of_exs ?_)
 | refine ⟨by omega, ?_⟩
 | refine And.intro (by (intros; first | (simp_all; done) | fail)) ?_
 | fail) <;> try simp only [zT, zV, zS, zU, vcC, kscp, lateX, ex, strp, cnd, binA, kseq, kblk, kret, klp, Abs.one, elems, cells, scalar, eqC, Nat.reduceBEq, reduceAdd, reduceSub, reduceLT, reduceLeDiff, reduceMul, reduceEqDiff, reduceIte]))
    all_goals try (exfalso; omega)
    exact Frz.eq rfl (by simp)
theorem Norm.gap {l : List Sp} (h : Norm l) : ∀ s ∈ l, ∀ t ∈ l, s = t ∨ s.hi + 1 < t.lo ∨ t.hi + 1 < s.lo := by
  induction l with
  | nil => intro s hs; cases hs
  | cons x r ih =>
    obtain ⟨h1, h2, h3⟩ := h
    intro s hs t ht
    rcases List.mem_cons.1 hs with e | hs'
    · rcases List.mem_cons.1 ht with e2 | ht'
      · exact .inl (e.trans e2.symm)
      · rw [e]; exact .inr (.inl (h2 t ht'))
    · rcases List.mem_cons.1 ht with e2 | ht'
      · rw [e2]; exact .inr (.inr (h2 s hs'))
      · exact ih h3 s hs' t ht'
theorem insB_of {a b : List Sp} (ha : nee a) (hb : Norm b) (h : ∀ v, Mem v a → Mem v b) : insB a b := fun s hs => by
  have hne := ha s hs
  obtain ⟨r, hr, r1, r2⟩ := h s.lo ⟨s, hs, Int.le_refl _, hne⟩
  refine List.any_eq_true.2 ⟨r, hr, ?_⟩
  simp only [Bool.and_eq_true, decide_eq_true_eq]
  refine ⟨r1, Int.not_lt.1 fun hlt => ?_⟩
  obtain ⟨q, hq, q1, q2⟩ := h (r.hi + 1) ⟨s, hs, by omega, by omega⟩
  have hrn := hb.ne r hr
  have hqn := hb.ne q hq
  rcases Norm.gap hb r hr q hq with e | e | e
  · subst e; omega
  · omega
  · omega
theorem copyF_getD (al : Nat → Nat → List Sp) (chg : Nat → Sp → Sp) : ∀ (t : Trk) (j k : Nat), (copyF al chg j t).getD k [] = copyL (al (j + k)) (chg (j + k)) 0 (t.getD k [])
  | [], _, _ => by simp [copyF, copyL]
  | l :: r, j, 0 => by simp [copyF]
  | l :: r, j, k + 1 => by
    have := copyF_getD al chg r (j + 1) k
    rw [show j + 1 + k = j + (k + 1) by omega] at this
    simpa [copyF, List.getD_eq_getElem?_getD] using this
theorem copyL_get (al : Nat → List Sp) (chg : Sp → Sp) : ∀ (l : List Nod) (j i : Nat), (copyL al chg j l)[i]? = (l[i]?).map (copyN (al (j + i)) chg)
  | [], _, _ => by simp [copyL]
  | x :: r, j, 0 => by simp [copyL]
  | x :: r, j, i + 1 => by
    have := copyL_get al chg r (j + 1) i
    rw [show j + 1 + i = j + (i + 1) by omega] at this
    simpa [copyL] using this
section
variable {t : Trk} {al : Nat → Nat → List Sp} {chg : Nat → Sp → Sp}
theorem copyT_stg (k : Nat) : (copyT t al chg).getD k [] = copyL (al k) (chg k) 0 (t.getD k []) := by
  have := copyF_getD al chg t 0 k
  rwa [Nat.zero_add] at this
theorem copyT_wd (k : Nat) : wd (copyT t al chg) k = wd t k := by unfold wd; rw [copyT_stg, copyL_len]
theorem copyT_nod {k i : Nat} {y : Nod} (h : ((copyT t al chg).getD k [])[i]? = some y) : ∃ x, (t.getD k [])[i]? = some x ∧ y = copyN (al k i) (chg k) x := by
  rw [copyT_stg, copyL_get, Nat.zero_add] at h
  cases hx : (t.getD k [])[i]? with
  | none => rw [hx] at h; cases h
  | some x => rw [hx] at h; injection h with h; exact ⟨x, rfl, h.symm⟩
theorem copyT_als {k i : Nat} (hi : i < wd t k) : (als (copyT t al chg) k).getD i [] = al k i := by
  have hx : (t.getD k [])[i]? = some ((t.getD k []).getD i ⟨[], []⟩) := getD_some hi
  have : (als (copyT t al chg) k)[i]? = some (al k i) := by
    unfold als
    rw [List.getElem?_map, copyT_stg, copyL_get, Nat.zero_add, hx]; rfl
  rw [List.getD_eq_getElem?_getD, this]; rfl
theorem chgE_mem {c : Sp → Sp} {l : List Edg} {e : Edg} : e ∈ l.flatMap (chgE c) ↔ ∃ x ∈ l, (c x.ch).lo ≤ (c x.ch).hi ∧ e = ⟨x.to, c x.ch⟩ := by
  rw [List.mem_flatMap]
  refine exists_congr fun x => and_congr_right fun _ => ?_
  unfold chgE
  split
  · rename_i h; rw [List.mem_singleton]; exact ⟨fun e => ⟨h, e⟩, fun e => e.2⟩
  · rename_i h; exact ⟨fun e => (by cases e), fun e => absurd e.1 h⟩
theorem copyT_stp {k : Nat} {g : Hop} (hg : g ∈ stp (copyT t al chg) k) : ∃ h ∈ stp t k, h.fr = g.fr ∧ h.to = g.to ∧ g.ch = chg k h.ch := by
  obtain ⟨i, y, e, hy, he, rfl⟩ := hops_mem.1 hg
  obtain ⟨x, hx, rfl⟩ := copyT_nod hy
  obtain ⟨e', he', _, rfl⟩ := chgE_mem.1 he
  exact ⟨⟨i, e'.to.toNat, e'.ch⟩, hops_mem.2 ⟨i, x, e', hx, he', rfl⟩, rfl, rfl, rfl⟩
theorem copyT_valid (hv : valid t) (ha : ∀ k i, k < t.length → i < wd t k → small (al k i)) (hc : ∀ k s, chOk s → (chg k s).lo ≤ (chg k s).hi → chOk (chg k s)) : valid (copyT t al chg) := by
  refine ⟨by rw [copyF_len]; exact hv.1, by rw [copyF_len]; exact hv.2.1, fun k hk => ?_⟩
  rw [copyF_len] at hk
  obtain ⟨v1, v2, v3⟩ := valid_stg hv hk
  rw [copyT_wd, copyT_stg]
  refine ⟨by rw [copyL_len]; exact v1, by rw [copyL_len]; exact v2, fun y hy => ?_⟩
  obtain ⟨i, hi⟩ := List.mem_iff_getElem?.1 hy
  rw [← copyT_stg (al := al) (chg := chg)] at hi
  obtain ⟨x, hx, rfl⟩ := copyT_nod hi
  obtain ⟨x1, x2, x3⟩ := v3 x (List.mem_of_getElem? hx)
  refine ⟨ha k i hk (List.getElem?_eq_some_iff.1 hx).1, Nat.le_trans (chgE_len _ _) x2, fun e he => ?_⟩
  obtain ⟨e', he', hle, rfl⟩ := chgE_mem.1 he
  obtain ⟨e1, e2, e3⟩ := x3 e' he'
  exact ⟨e1, e2, hc k _ e3 hle⟩
theorem way_mono {t' : Trk} (hw : ∀ k, wd t' k = wd t k) (hal : ∀ k i v, i < wd t k → Mem v ((als t' k).getD i []) → Mem v ((als t k).getD i []))
    (hst : ∀ k, ∀ g ∈ stp t' k, ∃ h ∈ stp t k, h.fr = g.fr ∧ h.to = g.to ∧ h.ch.lo ≤ g.ch.lo ∧ g.ch.hi ≤ h.ch.hi) : ∀ (c : List At) (k : Nat), way t' k c → way t k c := by
  have hp : ∀ k a, placeOk t' k a → placeOk t k a := fun k a ⟨h1, h2, h3⟩ => by
    rw [hw] at h2
    exact ⟨h1, h2, hal k _ _ (by omega) h3⟩
  intro c
  induction c with
  | nil => intro k _; trivial
  | cons a r ih =>
    intro k h
    rw [way_cons] at h ⊢
    refine ⟨hp k a h.1, fun b hb => ?_, ih (k + 1) h.2.2⟩
    obtain ⟨g, hg, g1, g2, g3, g4⟩ := h.2.1 b hb
    obtain ⟨q, hq, q1, q2, q3, q4⟩ := hst k g hg
    exact ⟨q, hq, q1.trans g1, q2.trans g2, by omega, by omega⟩
theorem allv_mono {t' : Trk} (hv : valid t) (hv' : valid t') (hl : t'.length = t.length) (hw : ∀ k, wd t' k = wd t k) (hal : ∀ k i v, i < wd t k → Mem v ((als t' k).getD i []) → Mem v ((als t k).getD i []))
    (hst : ∀ k, ∀ g ∈ stp t' k, ∃ h ∈ stp t k, h.fr = g.fr ∧ h.to = g.to ∧ h.ch.lo ≤ g.ch.lo ∧ g.ch.hi ≤ h.ch.hi) {k i : Nat} {v : Int} (hk : k < t.length) (hi : i < wd t k) (h : Mem v ((allv t' k).getD i [])) : Mem v ((allv t k).getD i []) := by
  have h' : 0 ≤ (i : Int) ∧ (i : Int) < (wd t' k : Int) ∧ Mem v ((allv t' k).getD (i : Int).toNat []) := ⟨by omega, by rw [hw]; omega, by rw [Int.toNat_natCast]; exact h⟩
  obtain ⟨c, ⟨c1, c2⟩, hc⟩ := (allv_course hv' k ⟨i, v⟩ (by omega)).1 h'
  have := ((allv_course hv k ⟨i, v⟩ hk).2 ⟨c, ⟨by omega, way_mono hw hal hst c 0 c2⟩, hc⟩).2.2
  rwa [Int.toNat_natCast] at this
theorem copyT_less (hv : valid t) (hv' : valid (copyT t al chg)) (ha : ∀ k i v, i < wd t k → Mem v (al k i) → Mem v ((als t k).getD i [])) (hc : ∀ k s, s.lo ≤ (chg k s).lo ∧ (chg k s).hi ≤ s.hi)
    {k i : Nat} (hk : k < t.length) (hi : i < wd t k) : insB ((allv (copyT t al chg) k).getD i []) ((allv t k).getD i []) := by
  have hk' : k < (copyT t al chg).length := by rw [copyF_len]; exact hk
  refine insB_of (goods_get (allv_goods hv' hk') i).1.ne (goods_get (allv_goods hv hk) i).1 fun v hm => ?_
  refine allv_mono hv hv' (copyF_len _ _ _ _) copyT_wd (fun k i v hi h => ?_) (fun k g hg => ?_) hk hi hm
  · rw [copyT_als hi] at h; exact ha k i v hi h
  · obtain ⟨h, hh, h1, h2, h3⟩ := copyT_stp hg
    rw [h3]
    exact ⟨h, hh, h1, h2, (hc k h.ch).1, (hc k h.ch).2⟩
end
theorem limA_mem (k : Nat) : ∀ (l : List Lim) (a : List Sp) (v : Int), Mem v (limA l k a) → Mem v a
  | [], _, _, h => h
  | x :: l, a, v, h => by
    have := limA_mem k l _ v h
    by_cases e : x.st = (k : Int)
    · simp only [if_pos e] at this; exact ((meet_mem _ _ _).1 this).1
    · simp only [if_neg e] at this; exact this
def c17 : CF := ⟨112,
 (.seq (.ops [
 ⟨some 1,.box false 24 1 (.t 0),none⟩,
 ⟨some 2,.mv (.c (.bool false)),none⟩] [1])
 (.seq (.seq (.ops [
 ⟨some 6,.faddr 0 (.t 1),none⟩,
 ⟨some 7,.load none (.t 6),none⟩,
 ⟨some 8,.len (.t 7),none⟩,
 ⟨some 9,.bin .gtr (.t 8) (.c (.int .i64 8)),none⟩,
 ⟨some 10,.mv (.t 9),none⟩,
 ⟨some 11,.faddr 0 (.t 1),some (10,true)⟩,
 ⟨some 12,.load none (.t 11),some (10,true)⟩,
 ⟨some 13,.len (.t 12),some (10,true)⟩,
 ⟨some 14,.bin .leq (.t 13) (.c (.int .i64 401)),some (10,true)⟩,
 ⟨some 15,.pick (.t 10) (.t 14) (.c (.bool false)),none⟩,
 ⟨some 16,.mv (.t 15),none⟩,
 ⟨some 17,.faddr 0 (.t 1),some (16,false)⟩,
 ⟨some 18,.load none (.t 17),some (16,false)⟩,
 ⟨some 19,.len (.t 18),some (16,false)⟩,
 ⟨some 20,.bin .gtr (.t 19) (.c (.int .i64 802)),some (16,false)⟩,
 ⟨some 21,.pick (.t 16) (.c (.bool true)) (.t 20),none⟩] [1,21])
 (.cond (.t 21) (.seq (.ops [
 ⟨some 2,.mv (.c (.bool false)),none⟩] [2])
 .ret)
 .skip))
 (.seq (.seq (.ops [
 ⟨some 3,.mv (.c (.int .i64 0)),none⟩] [1,3])
 (.block 0 (.loop (.seq (.seq (.ops [
 ⟨some 22,.mv (.t 3),none⟩,
 ⟨some 23,.faddr 0 (.t 1),none⟩,
 ⟨some 24,.load none (.t 23),none⟩,
 ⟨some 25,.len (.t 24),none⟩,
 ⟨some 26,.bin .lss (.t 22) (.t 25),none⟩] [1,3,26])
 (.cond (.t 26) .skip
 (.exit 0)))
 (.seq (.block 1 (.seq (.seq (.ops [
 ⟨some 29,.faddr 0 (.t 1),none⟩,
 ⟨some 30,.load none (.t 29),none⟩,
 ⟨some 31,.mv (.t 3),none⟩,
 ⟨some 32,.iaddr 1 (.t 30) (.t 31),none⟩,
 ⟨some 33,.load none (.t 32),none⟩,
 ⟨some 34,.len (.t 33),none⟩,
 ⟨some 35,.bin .gtr (.t 34) (.c (.int .i64 6)),none⟩,
 ⟨some 36,.mv (.t 35),none⟩,
 ⟨some 37,.faddr 0 (.t 1),some (36,true)⟩,
 ⟨some 38,.load none (.t 37),some (36,true)⟩,
 ⟨some 39,.mv (.t 3),some (36,true)⟩,
 ⟨some 40,.iaddr 1 (.t 38) (.t 39),some (36,true)⟩,
 ⟨some 41,.load none (.t 40),some (36,true)⟩,
 ⟨some 42,.len (.t 41),some (36,true)⟩,
 ⟨some 43,.bin .leq (.t 42) (.c (.int .i64 4000)),some (36,true)⟩,
 ⟨some 44,.mv (.t 43),some (36,true)⟩,
 ⟨some 45,.faddr 0 (.t 1),some (44,false)⟩,
 ⟨some 46,.load none (.t 45),some (44,false)⟩,
 ⟨some 47,.len (.t 46),some (44,false)⟩,
 ⟨some 48,.bin .gtr (.t 47) (.c (.int .i64 8)),some (44,false)⟩,
 ⟨some 49,.pick (.t 44) (.c (.bool true)) (.t 48),some (36,true)⟩,
 ⟨some 50,.pick (.t 36) (.t 49) (.c (.bool false)),none⟩,
 ⟨some 51,.mv (.t 50),none⟩,
 ⟨some 52,.faddr 0 (.t 1),some (51,false)⟩,
 ⟨some 53,.load none (.t 52),some (51,false)⟩,
 ⟨some 54,.mv (.t 3),some (51,false)⟩,
 ⟨some 55,.iaddr 1 (.t 53) (.t 54),some (51,false)⟩,
 ⟨some 56,.load none (.t 55),some (51,false)⟩,
 ⟨some 57,.len (.t 56),some (51,false)⟩,
 ⟨some 58,.bin .gtr (.t 57) (.c (.int .i64 8000)),some (51,false)⟩,
 ⟨some 59,.pick (.t 51) (.c (.bool true)) (.t 58),none⟩] [1,3,59])
 (.cond (.t 59) (.seq (.ops [
 ⟨some 2,.mv (.c (.bool false)),none⟩] [2])
 .ret)
 .skip))
 (.seq (.ops [
 ⟨some 4,.mv (.c (.int .i64 0)),none⟩] [1,3,4])
 (.block 2 (.loop (.seq (.seq (.ops [
 ⟨some 60,.mv (.t 4),none⟩,
 ⟨some 61,.faddr 0 (.t 1),none⟩,
 ⟨some 62,.load none (.t 61),none⟩,
 ⟨some 63,.mv (.t 3),none⟩,
 ⟨some 64,.iaddr 1 (.t 62) (.t 63),none⟩,
 ⟨some 65,.load none (.t 64),none⟩,
 ⟨some 66,.len (.t 65),none⟩,
 ⟨some 67,.bin .lss (.t 60) (.t 66),none⟩] [1,3,4,67])
 (.cond (.t 67) .skip
 (.exit 2)))
 (.seq (.block 3 (.seq (.ops [
 ⟨some 70,.faddr 0 (.t 1),none⟩,
 ⟨some 71,.load none (.t 70),none⟩,
 ⟨some 72,.mv (.t 3),none⟩,
 ⟨some 73,.iaddr 1 (.t 71) (.t 72),none⟩,
 ⟨some 74,.load none (.t 73),none⟩,
 ⟨some 75,.mv (.t 4),none⟩,
 ⟨some 76,.iaddr 2 (.t 74) (.t 75),none⟩,
 ⟨some 77,.load (some 2) (.t 76),none⟩,
 ⟨some 5,.alloc 80 2 [.slice none 0 0,.slice none 0 0],none⟩,
 ⟨none,.store 2 (.t 5) (.t 77),none⟩] [1,3,4,5])
 (.seq (.ops [
 ⟨some 78,.faddr 0 (.t 5),none⟩,
 ⟨some 79,.load none (.t 78),none⟩,
 ⟨some 80,.len (.t 79),none⟩,
 ⟨some 81,.bin .gtr (.t 80) (.c (.int .i64 8)),none⟩,
 ⟨some 82,.mv (.t 81),none⟩,
 ⟨some 83,.faddr 0 (.t 5),some (82,true)⟩,
 ⟨some 84,.load none (.t 83),some (82,true)⟩,
 ⟨some 85,.len (.t 84),some (82,true)⟩,
 ⟨some 86,.bin .leq (.t 85) (.c (.int .i64 64)),some (82,true)⟩,
 ⟨some 87,.pick (.t 82) (.t 86) (.c (.bool false)),none⟩,
 ⟨some 88,.mv (.t 87),none⟩,
 ⟨some 89,.faddr 0 (.t 5),some (88,false)⟩,
 ⟨some 90,.load none (.t 89),some (88,false)⟩,
 ⟨some 91,.len (.t 90),some (88,false)⟩,
 ⟨some 92,.bin .gtr (.t 91) (.c (.int .i64 128)),some (88,false)⟩,
 ⟨some 93,.pick (.t 88) (.c (.bool true)) (.t 92),none⟩,
 ⟨some 94,.mv (.t 93),none⟩,
 ⟨some 95,.faddr 1 (.t 5),some (94,false)⟩,
 ⟨some 96,.load none (.t 95),some (94,false)⟩,
 ⟨some 97,.len (.t 96),some (94,false)⟩,
 ⟨some 98,.bin .gtr (.t 97) (.c (.int .i64 8)),some (94,false)⟩,
 ⟨some 99,.mv (.t 98),some (94,false)⟩,
 ⟨some 100,.faddr 1 (.t 5),some (99,true)⟩,
 ⟨some 101,.load none (.t 100),some (99,true)⟩,
 ⟨some 102,.len (.t 101),some (99,true)⟩,
 ⟨some 103,.bin .leq (.t 102) (.c (.int .i64 64)),some (99,true)⟩,
 ⟨some 104,.pick (.t 99) (.t 103) (.c (.bool false)),some (94,false)⟩,
 ⟨some 105,.pick (.t 94) (.c (.bool true)) (.t 104),none⟩,
 ⟨some 106,.mv (.t 105),none⟩,
 ⟨some 107,.faddr 1 (.t 5),some (106,false)⟩,
 ⟨some 108,.load none (.t 107),some (106,false)⟩,
 ⟨some 109,.len (.t 108),some (106,false)⟩,
 ⟨some 110,.bin .gtr (.t 109) (.c (.int .i64 128)),some (106,false)⟩,
 ⟨some 111,.pick (.t 106) (.c (.bool true)) (.t 110),none⟩] [1,3,4,111])
 (.cond (.t 111) (.seq (.ops [
 ⟨some 2,.mv (.c (.bool false)),none⟩] [2])
 .ret)
 .skip))))
 (.ops [
 ⟨some 68,.mv (.t 4),none⟩,
 ⟨some 69,.bin .add (.t 68) (.c (.int .i64 1)),none⟩,
 ⟨some 4,.mv (.t 69),none⟩] [1,3,4]))))))))
 (.ops [
 ⟨some 27,.mv (.t 3),none⟩,
 ⟨some 28,.bin .add (.t 27) (.c (.int .i64 1)),none⟩,
 ⟨some 3,.mv (.t 28),none⟩] [1,3]))))))
 (.seq (.ops [
 ⟨some 2,.mv (.c (.bool true)),none⟩] [2])
 .ret)))),
 [.t 2]⟩
theorem k17 : chkF Tryz.prog Tryz.f17 c17 = true := by kernel_rfl
abbrev manyN (x : Nod) : Prop := ((8 < x.al.length ∧ x.al.length ≤ 64) ∨ 128 < x.al.length) ∨ (8 < x.nx.length ∧ x.nx.length ≤ 64) ∨ 128 < x.nx.length
abbrev manyL (m : Nat) (l : List Nod) : Prop := (6 < l.length ∧ (l.length ≤ 4000 ∨ 8 < m)) ∨ 8000 < l.length
abbrev manyT (m : Nat) : Prop := (8 < m ∧ m ≤ 401) ∨ 802 < m
def fewB (t : Trk) : Bool := !decide (manyT t.length) && t.all fun l => !decide (manyL t.length l) && l.all fun x => !decide (manyN x)
theorem fewB_f1 {t : Trk} (h : manyT t.length) : fewB t = false := by unfold fewB; rw [decide_eq_true h]; rfl
theorem fewB_f {t : Trk} {l : List Nod} (hl : l ∈ t) (h : (!decide (manyL t.length l) && l.all fun x => !decide (manyN x)) = false) : fewB t = false := by
  unfold fewB
  have : (t.all fun l => !decide (manyL t.length l) && l.all fun x => !decide (manyN x)) = false := by
    cases ha : t.all fun l => !decide (manyL t.length l) && l.all fun x => !decide (manyN x) with
    | false => rfl
    | true => rw [List.all_eq_true.1 ha l hl] at h; cases h
  rw [this]; simp
theorem fewB_t {t : Trk} (h1 : ¬ manyT t.length) (h : ∀ l ∈ t, ¬ manyL t.length l ∧ ∀ x ∈ l, ¬ manyN x) : fewB t = true := by
  unfold fewB
  rw [decide_eq_false h1]
  have : (t.all fun l => !decide (manyL t.length l) && l.all fun x => !decide (manyN x)) = true := List.all_eq_true.2 fun l hl => by
    obtain ⟨h2, h3⟩ := h l hl
    rw [decide_eq_false h2]
    have : (l.all fun x => !decide (manyN x)) = true := List.all_eq_true.2 fun x hx => by rw [decide_eq_false (h3 x hx)]; rfl
    rw [this]; rfl
  rw [this]; rfl
theorem few_spec (t : Trk) (hs : trkSz t) : Pure Tryz.prog 17 [trS t] (bl (fewB t)) := by
  refine Pure.of_body Tryz.call17 Tryz.func17 k17 (Nat.le_of_ble_eq_true rfl) ?_
  unfold c17
  have h1 := hs.1
  (repeat' ((first
 | refine AWPC.of_vcn rfl ?_
 | simp (disch := omega) only [wr64, Int.zero_sub]
 | refine AWPC.both (fun _ => ?_) (fun _ => ?_)
 | refine AWPC.imp (fun _ => ?_)
 | (refine .inl ⟨_, _, _, .any, rfl, fun h => absurd h Bool.false_ne_true, ?_⟩; refine owp_of_exs ?_)
 | refine ⟨by omega, ?_⟩
 | refine And.intro (by (intros; first | (simp_all; done) | fail)) ?_
 | fail) <;> try simp only [zT, zV, zS, zU, vcC, kscp, lateX, ex, strp, cnd, binA, kseq, kblk, kret, klp, Abs.one, elems, cells, scalar, eqC, Nat.reduceBEq, reduceAdd, reduceSub, reduceLT, reduceLeDiff, reduceMul, reduceEqDiff, reduceIte]))
  · rename_i h
    rw [fewB_f1 (by unfold manyT; omega)]
    exact Frz.eq rfl (by simp)
  rename_i hT
  refine AWPC.loopE (α := { x : Nat × Sto // x.1 ≤ t.length ∧ ∀ l ∈ t.take x.1, ¬ manyL t.length l ∧ ∀ y ∈ l, ¬ manyN y }) [3] (fun x => [(3, n x.1.1)]) (fun x => x.1.2) (fun x => t.length - x.1.1) ⟨(0, []), Nat.zero_le _, by simp⟩ ?_ rfl ?_
  · (simp only [zT, zV, zS, zU, vcC, kscp, lateX, ex, strp, cnd, binA, kseq, kblk, kret, klp, Abs.one, elems, cells, scalar, eqC, Nat.reduceBEq, reduceAdd, reduceSub, reduceLT, reduceLeDiff, reduceMul, reduceEqDiff, reduceIte]; try simp)
  rintro ⟨⟨k, μ⟩, hk, hk2⟩
  try simp only at hk hk2
  try simp only
  by_cases hlt : k < t.length
  · have htk : t[k]? = some (t.getD k []) := getD_some hlt
    have gtk : (t.map fun l => [stS l]).getD k [] = [stS (t.getD k [])] := getD_map htk
    have hm := List.mem_of_getElem? htk
    have hs2 := hs.2 _ hm
    have hsn := take_snoc htk
    generalize t.getD k [] = L at *
    obtain ⟨hL, hL2⟩ := hs2
    (repeat' ((first
 | refine AWPC.of_vcn rfl ?_
 | simp (disch := omega) only [wr64, Int.zero_sub]
 | refine AWPC.both (fun _ => ?_) (fun _ => ?_)
 | refine AWPC.imp (fun _ => ?_)
 | (refine .inl ⟨_, _, _, .any, rfl, fun h => absurd h Bool.false_ne_true, ?_⟩; refine owp_of_exs ?_)
 | refine ⟨by omega, ?_⟩
 | refine And.intro (by (intros; first | (simp_all; done) | fail)) ?_
 | fail) <;> try simp only [zT, zV, zS, zU, vcC, kscp, lateX, ex, strp, cnd, binA, kseq, kblk, kret, klp, Abs.one, elems, cells, scalar, eqC, Nat.reduceBEq, reduceAdd, reduceSub, reduceLT, reduceLeDiff, reduceMul, reduceEqDiff, reduceIte, gtk]))
    all_goals try (exfalso; omega)
    · rename_i h
      rw [fewB_f hm (by rw [decide_eq_true (by unfold manyL; omega)]; rfl)]
      exact Frz.eq rfl (by simp)
    rename_i hM
    have hM' : ¬ manyL t.length L := by unfold manyL; omega
    refine AWPC.loopE (α := { x : Nat × Sto // x.1 ≤ L.length ∧ ∀ y ∈ L.take x.1, ¬ manyN y }) [4] (fun x => [(4, n x.1.1)]) (fun x => x.1.2) (fun x => L.length - x.1.1) ⟨(0, μ), Nat.zero_le _, by simp⟩ ?_ rfl ?_
    · (simp only [zT, zV, zS, zU, vcC, kscp, lateX, ex, strp, cnd, binA, kseq, kblk, kret, klp, Abs.one, elems, cells, scalar, eqC, Nat.reduceBEq, reduceAdd, reduceSub, reduceLT, reduceLeDiff, reduceMul, reduceEqDiff, reduceIte]; try simp)
    rintro ⟨⟨i, ν⟩, hi, hi2⟩
    try simp only at hi hi2
    try simp only
    by_cases hlt2 : i < L.length
    · obtain ⟨x, hx⟩ : ∃ x, L[i]? = some x := ⟨_, List.getElem?_eq_getElem hlt2⟩
      have hxm := List.mem_of_getElem? hx
      obtain ⟨x1, x2⟩ := hL2 x hxm
      have hsx := take_snoc hx
      (repeat' ((first
 | refine AWPC.of_vcn rfl ?_
 | simp (disch := omega) only [wr64, Int.zero_sub]
 | refine AWPC.both (fun _ => ?_) (fun _ => ?_)
 | refine AWPC.imp (fun _ => ?_)
 | (refine .inl ⟨_, _, _, .any, rfl, fun h => absurd h Bool.false_ne_true, ?_⟩; refine owp_of_exs ?_)
 | refine ⟨by omega, ?_⟩
 | refine And.intro (by (intros; first | (simp_all; done) | fail)) ?_
 | fail) <;> try simp only [zT, zV, zS, zU, vcC, kscp, lateX, ex, strp, cnd, binA, kseq, kblk, kret, klp, Abs.one, elems, cells, scalar, eqC, Nat.reduceBEq, reduceAdd, reduceSub, reduceLT, reduceLeDiff, reduceMul, reduceEqDiff, reduceIte, gtk, getD_map hx, List.cons_append]))
      all_goals try (exfalso; omega)
      · rename_i h
        have hN : manyN x := by unfold manyN; omega
        have hf : (!decide (manyL t.length L) && L.all fun x => !decide (manyN x)) = false := by
          rw [Bool.and_eq_false_iff]
          refine .inr ?_
          cases ha : L.all fun x => !decide (manyN x) with
          | false => rfl
          | true => have := List.all_eq_true.1 ha x hxm; rw [decide_eq_true hN] at this; cases this
        rw [fewB_f hm hf]
        exact Frz.eq rfl (by simp)
      · rename_i h
        have hN : ¬ manyN x := by unfold manyN; omega
        exact ⟨⟨(i + 1, ν ++ [some [⟨80, 2, [Nod.cs x], none⟩]]), hlt2, fun y hy => by
          rw [hsx] at hy
          rcases List.mem_append.1 hy with h | h
          · exact hi2 y h
          · rw [List.mem_singleton.1 h]; exact hN⟩, rfl, rfl, by simp only; omega⟩
    · obtain rfl : i = L.length := by omega
      rw [List.take_length] at hi2
      (repeat' ((first
 | refine AWPC.of_vcn rfl ?_
 | simp (disch := omega) only [wr64, Int.zero_sub]
 | refine AWPC.both (fun _ => ?_) (fun _ => ?_)
 | refine AWPC.imp (fun _ => ?_)
 | (refine .inl ⟨_, _, _, .any, rfl, fun h => absurd h Bool.false_ne_true, ?_⟩; refine owp_of_exs ?_)
 | refine ⟨by omega, ?_⟩
 | refine And.intro (by (intros; first | (simp_all; done) | fail)) ?_
 | fail) <;> try simp only [zT, zV, zS, zU, vcC, kscp, lateX, ex, strp, cnd, binA, kseq, kblk, kret, klp, Abs.one, elems, cells, scalar, eqC, Nat.reduceBEq, reduceAdd, reduceSub, reduceLT, reduceLeDiff, reduceMul, reduceEqDiff, reduceIte, gtk]))
      all_goals try (exfalso; omega)
      exact ⟨⟨(k + 1, ν), hlt, fun l hl => by
        rw [hsn] at hl
        rcases List.mem_append.1 hl with h | h
        · exact hk2 l h
        · rw [List.mem_singleton.1 h]
          exact ⟨hM', hi2⟩⟩, rfl, rfl, by simp only; omega⟩
  · obtain rfl : k = t.length := by omega
    rw [List.take_length] at hk2
    rw [fewB_t (by unfold manyT; omega) hk2]
    (repeat' ((first
 | refine AWPC.of_vcn rfl ?_
 | simp (disch := omega) only [wr64, Int.zero_sub]
 | refine AWPC.both (fun _ => ?_) (fun _ => ?_)
 | refine AWPC.imp (fun _ => ?_)
 | (refine .inl ⟨_, _, _, .any, rfl, fun h => absurd h Bool.false_ne_true, ?_⟩; refine owp_of_exs ?_)
 | refine ⟨by omega, ?_⟩
 | refine And.intro (by (intros; first | (simp_all; done) | fail)) ?_
 | fail) <;> try simp only [zT, zV, zS, zU, vcC, kscp, lateX, ex, strp, cnd, binA, kseq, kblk, kret, klp, Abs.one, elems, cells, scalar, eqC, Nat.reduceBEq, reduceAdd, reduceSub, reduceLT, reduceLeDiff, reduceMul, reduceEqDiff, reduceIte]))
    all_goals try (exfalso; omega)
    exact Frz.eq rfl (by simp)
def c6 : CF := ⟨154,
 (.seq (.ops [
 ⟨some 2,.box false 24 1 (.t 0),none⟩,
 ⟨some 3,.box false 33 11 (.t 1),none⟩,
 ⟨some 4,.mv (.c (.bool false)),none⟩] [2,3])
 (.seq (.ops [
 ⟨some 18,.call (.f 16) [],none⟩,
 ⟨some 5,.mv (.t 18),none⟩] [2,3,5])
 (.seq (.seq (.ops [
 ⟨some 19,.load (some 1) (.t 2),none⟩,
 ⟨some 20,.call (.f 17) [(.t 19)],none⟩,
 ⟨some 21,.un .not (.t 20),none⟩,
 ⟨some 22,.mv (.t 21),none⟩,
 ⟨some 23,.load (some 11) (.t 3),some (22,false)⟩,
 ⟨some 24,.call (.f 18) [(.t 23)],some (22,false)⟩,
 ⟨some 25,.un .not (.t 24),some (22,false)⟩,
 ⟨some 26,.pick (.t 22) (.c (.bool true)) (.t 25),none⟩] [2,3,5,26])
 (.cond (.t 26) (.seq (.ops [
 ⟨some 27,.mv (.t 5),none⟩,
 ⟨some 4,.mv (.t 27),none⟩] [4])
 .ret)
 .skip))
 (.seq (.ops [
 ⟨some 29,.load (some 1) (.t 2),none⟩,
 ⟨some 30,.call (.f 34) [(.t 29)],none⟩,
 ⟨some 28,.mv (.t 30),none⟩,
 ⟨some 31,.ext 0 (.t 28),none⟩,
 ⟨some 32,.ext 1 (.t 28),none⟩,
 ⟨some 6,.mv (.t 31),none⟩,
 ⟨some 7,.mv (.t 32),none⟩] [2,3,5,6,7])
 (.seq (.ops [
 ⟨some 34,.load (some 1) (.t 2),none⟩,
 ⟨some 35,.faddr 7 (.t 3),none⟩,
 ⟨some 36,.load none (.t 35),none⟩,
 ⟨some 37,.call (.f 42) [(.t 34),(.t 36)],none⟩,
 ⟨some 33,.mv (.t 37),none⟩,
 ⟨some 38,.ext 0 (.t 33),none⟩,
 ⟨some 39,.ext 1 (.t 33),none⟩,
 ⟨some 8,.alloc 24 1 [.slice none 0 0],none⟩,
 ⟨none,.store 1 (.t 8) (.t 38),none⟩,
 ⟨some 9,.mv (.t 39),none⟩] [2,3,5,6,7,8,9])
 (.seq (.ops [
 ⟨some 41,.load (some 1) (.t 2),none⟩,
 ⟨some 42,.faddr 0 (.t 3),none⟩,
 ⟨some 43,.load none (.t 42),none⟩,
 ⟨some 44,.faddr 8 (.t 3),none⟩,
 ⟨some 45,.load (some 2) (.t 44),none⟩,
 ⟨some 46,.call (.f 43) [(.t 41),(.t 43),(.t 45)],none⟩,
 ⟨some 40,.mv (.t 46),none⟩,
 ⟨some 47,.ext 0 (.t 40),none⟩,
 ⟨some 48,.ext 1 (.t 40),none⟩,
 ⟨some 10,.alloc 24 1 [.slice none 0 0],none⟩,
 ⟨none,.store 1 (.t 10) (.t 47),none⟩,
 ⟨some 11,.mv (.t 48),none⟩] [2,5,6,7,8,9,10,11])
 (.seq (.ops [
 ⟨some 50,.load (some 1) (.t 8),none⟩,
 ⟨some 51,.call (.f 34) [(.t 50)],none⟩,
 ⟨some 49,.mv (.t 51),none⟩,
 ⟨some 52,.ext 0 (.t 49),none⟩,
 ⟨some 53,.ext 1 (.t 49),none⟩,
 ⟨some 12,.mv (.t 52),none⟩,
 ⟨some 13,.mv (.t 53),none⟩] [2,5,6,7,9,10,11,12,13])
 (.seq (.ops [
 ⟨some 55,.load (some 1) (.t 10),none⟩,
 ⟨some 56,.call (.f 34) [(.t 55)],none⟩,
 ⟨some 54,.mv (.t 56),none⟩,
 ⟨some 57,.ext 0 (.t 54),none⟩,
 ⟨some 58,.ext 1 (.t 54),none⟩,
 ⟨some 14,.mv (.t 57),none⟩,
 ⟨some 15,.mv (.t 58),none⟩] [2,5,6,7,9,11,12,13,14,15])
 (.seq (.seq (.ops [
 ⟨some 59,.mv (.t 7),none⟩,
 ⟨some 60,.bin .neq (.t 59) (.c (.int .i64 0)),none⟩] [2,5,6,9,11,12,13,14,15,60])
 (.cond (.t 60) (.seq (.ops [
 ⟨some 61,.mv (.t 5),none⟩,
 ⟨some 62,.mv (.t 61),none⟩,
 ⟨some 63,.mv (.t 9),some (62,true)⟩,
 ⟨some 64,.bin .neq (.t 63) (.c (.int .i64 0)),some (62,true)⟩,
 ⟨some 65,.pick (.t 62) (.t 64) (.c (.bool false)),none⟩,
 ⟨some 66,.mv (.t 65),none⟩,
 ⟨some 67,.mv (.t 11),some (66,true)⟩,
 ⟨some 68,.bin .neq (.t 67) (.c (.int .i64 0)),some (66,true)⟩,
 ⟨some 69,.pick (.t 66) (.t 68) (.c (.bool false)),none⟩,
 ⟨some 4,.mv (.t 69),none⟩] [4])
 .ret)
 .skip))
 (.seq (.seq (.ops [
 ⟨some 70,.mv (.t 9),none⟩,
 ⟨some 71,.bin .eql (.t 70) (.c (.int .i64 0)),none⟩,
 ⟨some 72,.mv (.t 71),none⟩,
 ⟨some 73,.mv (.t 13),some (72,true)⟩,
 ⟨some 74,.bin .neq (.t 73) (.c (.int .i64 0)),some (72,true)⟩,
 ⟨some 75,.mv (.t 74),some (72,true)⟩,
 ⟨some 76,.load (some 1) (.t 2),some (75,false)⟩,
 ⟨some 77,.mv (.t 12),some (75,false)⟩,
 ⟨some 78,.call (.f 44) [(.t 76),(.t 77)],some (75,false)⟩,
 ⟨some 79,.un .not (.t 78),some (75,false)⟩,
 ⟨some 80,.pick (.t 75) (.c (.bool true)) (.t 79),some (72,true)⟩,
 ⟨some 81,.pick (.t 72) (.t 80) (.c (.bool false)),none⟩,
 ⟨some 82,.mv (.t 81),none⟩,
 ⟨some 83,.mv (.t 11),some (82,false)⟩,
 ⟨some 84,.bin .eql (.t 83) (.c (.int .i64 0)),some (82,false)⟩,
 ⟨some 85,.mv (.t 84),some (82,false)⟩,
 ⟨some 86,.mv (.t 15),some (85,true)⟩,
 ⟨some 87,.bin .neq (.t 86) (.c (.int .i64 0)),some (85,true)⟩,
 ⟨some 88,.mv (.t 87),some (85,true)⟩,
 ⟨some 89,.load (some 1) (.t 2),some (88,false)⟩,
 ⟨some 90,.mv (.t 14),some (88,false)⟩,
 ⟨some 91,.call (.f 44) [(.t 89),(.t 90)],some (88,false)⟩,
 ⟨some 92,.un .not (.t 91),some (88,false)⟩,
 ⟨some 93,.pick (.t 88) (.c (.bool true)) (.t 92),some (85,true)⟩,
 ⟨some 94,.pick (.t 85) (.t 93) (.c (.bool false)),some (82,false)⟩,
 ⟨some 95,.pick (.t 82) (.c (.bool true)) (.t 94),none⟩] [5,6,9,11,12,14,95])
 (.cond (.t 95) (.seq (.ops [
 ⟨some 4,.mv (.c (.bool false)),none⟩] [4])
 .ret)
 .skip))
 (.seq (.seq (.ops [
 ⟨some 16,.mv (.c (.int .i64 0)),none⟩] [5,6,9,11,12,14,16])
 (.block 0 (.loop (.seq (.seq (.ops [
 ⟨some 96,.mv (.t 16),none⟩,
 ⟨some 97,.mv (.t 6),none⟩,
 ⟨some 98,.len (.t 97),none⟩,
 ⟨some 99,.bin .lss (.t 96) (.t 98),none⟩] [5,6,9,11,12,14,16,99])
 (.cond (.t 99) .skip
 (.exit 0)))
 (.seq (.block 1 (.seq (.ops [
 ⟨some 17,.mv (.c (.int .i64 0)),none⟩] [5,6,9,11,12,14,16,17])
 (.block 2 (.loop (.seq (.seq (.ops [
 ⟨some 102,.mv (.t 17),none⟩,
 ⟨some 103,.mv (.t 6),none⟩,
 ⟨some 104,.mv (.t 16),none⟩,
 ⟨some 105,.iaddr 1 (.t 103) (.t 104),none⟩,
 ⟨some 106,.load none (.t 105),none⟩,
 ⟨some 107,.len (.t 106),none⟩,
 ⟨some 108,.bin .lss (.t 102) (.t 107),none⟩] [5,6,9,11,12,14,16,17,108])
 (.cond (.t 108) .skip
 (.exit 2)))
 (.seq (.block 3 (.seq (.draw [
 ⟨some 111,.mv (.t 9),none⟩,
 ⟨some 112,.bin .eql (.t 111) (.c (.int .i64 0)),none⟩,
 ⟨some 113,.mv (.t 112),none⟩,
 ⟨some 114,.mv (.t 12),some (113,true)⟩,
 ⟨some 115,.mv (.t 16),some (113,true)⟩,
 ⟨some 116,.iaddr 1 (.t 114) (.t 115),some (113,true)⟩,
 ⟨some 117,.load none (.t 116),some (113,true)⟩,
 ⟨some 118,.mv (.t 17),some (113,true)⟩,
 ⟨some 119,.iaddr 1 (.t 117) (.t 118),some (113,true)⟩,
 ⟨some 120,.load none (.t 119),some (113,true)⟩,
 ⟨some 121,.mv (.t 6),some (113,true)⟩,
 ⟨some 122,.mv (.t 16),some (113,true)⟩,
 ⟨some 123,.iaddr 1 (.t 121) (.t 122),some (113,true)⟩,
 ⟨some 124,.load none (.t 123),some (113,true)⟩,
 ⟨some 125,.mv (.t 17),some (113,true)⟩,
 ⟨some 126,.iaddr 1 (.t 124) (.t 125),some (113,true)⟩,
 ⟨some 127,.load none (.t 126),some (113,true)⟩,
 ⟨some 128,.call (.f 45) [(.t 120),(.t 127)],some (113,true)⟩,
 ⟨some 129,.un .not (.t 128),some (113,true)⟩,
 ⟨some 130,.pick (.t 113) (.t 129) (.c (.bool false)),none⟩,
 ⟨some 131,.mv (.t 130),none⟩,
 ⟨some 132,.mv (.t 11),some (131,false)⟩,
 ⟨some 133,.bin .eql (.t 132) (.c (.int .i64 0)),some (131,false)⟩,
 ⟨some 134,.mv (.t 133),some (131,false)⟩,
 ⟨some 135,.mv (.t 14),some (134,true)⟩,
 ⟨some 136,.mv (.t 16),some (134,true)⟩,
 ⟨some 137,.iaddr 1 (.t 135) (.t 136),some (134,true)⟩,
 ⟨some 138,.load none (.t 137),some (134,true)⟩,
 ⟨some 139,.mv (.t 17),some (134,true)⟩,
 ⟨some 140,.iaddr 1 (.t 138) (.t 139),some (134,true)⟩,
 ⟨some 141,.load none (.t 140),some (134,true)⟩,
 ⟨some 142,.mv (.t 6),some (134,true)⟩,
 ⟨some 143,.mv (.t 16),some (134,true)⟩,
 ⟨some 144,.iaddr 1 (.t 142) (.t 143),some (134,true)⟩,
 ⟨some 145,.load none (.t 144),some (134,true)⟩,
 ⟨some 146,.mv (.t 17),some (134,true)⟩,
 ⟨some 147,.iaddr 1 (.t 145) (.t 146),some (134,true)⟩,
 ⟨some 148,.load none (.t 147),some (134,true)⟩,
 ⟨some 149,.call (.f 45) [(.t 141),(.t 148)],some (134,true)⟩,
 ⟨some 150,.un .not (.t 149),some (134,true)⟩,
 ⟨some 151,.pick (.t 134) (.t 150) (.c (.bool false)),some (131,false)⟩,
 ⟨some 152,.pick (.t 131) (.c (.bool true)) (.t 151),none⟩] [
 ] [5,6,9,11,12,14,16,17,152])
 (.cond (.t 152) (.seq (.ops [
 ⟨some 4,.mv (.c (.bool false)),none⟩] [4])
 .ret)
 .skip)))
 (.ops [
 ⟨some 109,.mv (.t 17),none⟩,
 ⟨some 110,.bin .add (.t 109) (.c (.int .i64 1)),none⟩,
 ⟨some 17,.mv (.t 110),none⟩] [5,6,9,11,12,14,16,17])))))))
 (.ops [
 ⟨some 100,.mv (.t 16),none⟩,
 ⟨some 101,.bin .add (.t 100) (.c (.int .i64 1)),none⟩,
 ⟨some 16,.mv (.t 101),none⟩] [5,6,9,11,12,14,16]))))))
 (.seq (.ops [
 ⟨some 153,.mv (.t 5),none⟩,
 ⟨some 4,.mv (.t 153),none⟩] [4])
 .ret)))))))))))),
 [.t 4]⟩
theorem k6 : chkF Tryz.prog Tryz.f6 c6 = true := by kernel_rfl
theorem fix_ok {t : Trk} {l : List Lim} (h : fixE t l = 0) : valid t ∧ valid (fixT t l) ∧ (∀ x ∈ l, good x.vs) ∧ ∀ k i, k < t.length → i < wd t k → insB ((allv (fixT t l) k).getD i []) ((allv t k).getD i []) := by
  have hv : valid t := Classical.byContradiction fun hv => by
    unfold fixE at h; rw [tr_0 hv] at h; simp at h
  unfold fixE at h
  rw [tr_1 hv, if_pos rfl] at h
  cases hb : l.any (badL t) with
  | true => rw [hb] at h; simp at h
  | false =>
    rw [hb] at h
    cases hB : big (fixT t l) with
    | true => rw [hB] at h; simp at h
    | false =>
      have hg : ∀ x ∈ l, good x.vs := fun x hx => by
        have h := List.any_eq_false.1 hb x hx
        unfold badL at h
        by_cases hsm : small x.vs
        · exact hsm.2
        · rw [tr_0 hsm] at h; simp at h
      have hgA : ∀ k i, good (limA l k ((als t k).getD i [])) := fun k i => limA_good k l _ (goods_get (als_goods hv k) i) hg
      have hvf : valid (fixT t l) := copyT_valid hv (fun k i hk hi => ⟨by
        have hx : (t.getD k [])[i]? = some ((t.getD k []).getD i ⟨[], []⟩) := getD_some hi
        have hy : ((fixT t l).getD k [])[i]? = some (copyN (limA l k ((als t k).getD i [])) (fun s => s) ((t.getD k []).getD i ⟨[], []⟩)) := by
          rw [copyT_stg, copyL_get, Nat.zero_add, hx]; rfl
        have hk' : (fixT t l)[k]? = some ((fixT t l).getD k []) := getD_some (by rw [copyF_len]; exact hk)
        have hn := List.any_eq_false.1 (big_f hB (List.mem_of_getElem? hk')) _ (List.mem_of_getElem? hy)
        have h64 : ¬ 64 < (limA l k ((als t k).getD i [])).length := fun h => hn (by unfold bigN copyN; simp only; rw [decide_eq_true h]; rfl)
        show (limA l k ((als t k).getD i [])).length ≤ 64
        omega, hgA k i⟩) fun k s hs _ => hs
      exact ⟨hv, hvf, hg, fun k i hk hi => copyT_less hv hvf (fun k i v _ hm => limA_mem k l _ v hm) (fun k s => ⟨Int.le_refl _, Int.le_refl _⟩) hk hi⟩
theorem calm_ok {t : Trk} {st : Int} {c : Sp} (h : calmE t st c = 0) : valid t ∧ valid (calmT t st c) ∧ ∀ k i, k < t.length → i < wd t k → insB ((allv (calmT t st c) k).getD i []) ((allv t k).getD i []) := by
  have hv : valid t := Classical.byContradiction fun hv => by
    unfold calmE at h; rw [tr_0 hv] at h; simp at h
  unfold calmE at h
  rw [tr_1 hv, if_pos rfl] at h
  have hch : chOk c := Classical.byContradiction fun hc => by rw [if_neg fun g => hc g.2] at h; simp at h
  obtain ⟨c1, c2, c3⟩ := hch
  have hvc : valid (calmT t st c) := copyT_valid hv (fun k i hk hi => by
    have hx : (t.getD k [])[i]? = some ((t.getD k []).getD i ⟨[], []⟩) := getD_some hi
    have hal : (als t k).getD i [] = ((t.getD k []).getD i ⟨[], []⟩).al := getD_map hx
    rw [hal]
    exact ((valid_stg hv hk).2.2 _ (List.mem_of_getElem? hx)).1) fun k s hs hle => by
      obtain ⟨s1, s2, s3⟩ := hs
      unfold calmC at hle ⊢
      split
      · rename_i e
        rw [if_pos e] at hle
        simp only [Sp.cap, chOk] at hle ⊢
        omega
      · exact ⟨s1, s2, s3⟩
  refine ⟨hv, hvc, fun k i hk hi => copyT_less hv hvc (fun k i v _ hm => hm) (fun k s => ?_) hk hi⟩
  unfold calmC
  split
  · simp only [Sp.cap]; omega
  · exact ⟨Int.le_refl _, Int.le_refl _⟩
theorem nil_sz : trkSz [] := ⟨by simp, fun l hl => absurd hl (List.not_mem_nil)⟩
theorem nil_bad : ¬ valid [] := fun h => by have := h.1; simp at this
theorem allvs_sz {t : Trk} (hv : valid t) : setsSz (allvs t) := by
  have h2 := hv.2.1
  refine ⟨by rw [allvs_len]; omega, fun x hx => ?_⟩
  obtain ⟨k, hk, rfl⟩ := List.mem_map.1 hx
  have hk := List.mem_range.1 hk
  have hw := wd_le hv k
  exact ⟨by rw [allv_len hk]; omega, fun l hl => by have := good_len (allv_goods hv hk l hl); omega⟩
inductive Made (t : Trk) (E : Int) (F : Trk) (A : List (List (List Sp))) (e : Int) : Prop
  | yes (hE : E = 0) (hA : A = allvs F) (he : e = 0) (hv : valid t) (hvF : valid F) (hl : F.length = t.length) (hw : ∀ k, wd F k = wd t k) (hi : ∀ k i, k < t.length → i < wd t k → insB ((allv F k).getD i []) ((allv t k).getD i []))
  | no (hE : E ≠ 0) (hA : A = []) (he : e = 40) (hx : True)
theorem made_fix (t : Trk) (l : List Lim) : Made t (fixE t l) (fixR t l) (if tr (valid (fixR t l)) = true then allvs (fixR t l) else []) (if tr (valid (fixR t l)) = true then 0 else 40) := by
  by_cases h : fixE t l = 0
  · have hF : fixR t l = fixT t l := if_pos h
    obtain ⟨hv, hvf, hg, hi⟩ := fix_ok h
    rw [hF, tr_1 hvf]
    exact .yes h rfl rfl hv hvf (copyF_len _ _ _ _) copyT_wd hi
  · have hF : fixR t l = [] := if_neg h
    rw [hF, tr_0 nil_bad]
    exact .no h rfl rfl trivial
noncomputable def calmR (t : Trk) (st : Int) (c : Sp) : Trk := if calmE t st c = 0 then calmT t st c else []
theorem made_calm (t : Trk) (st : Int) (c : Sp) : Made t (calmE t st c) (calmR t st c) (if tr (valid (calmR t st c)) = true then allvs (calmR t st c) else []) (if tr (valid (calmR t st c)) = true then 0 else 40) := by
  by_cases h : calmE t st c = 0
  · have hF : calmR t st c = calmT t st c := if_pos h
    obtain ⟨hv, hvf, hi⟩ := calm_ok h
    rw [hF, tr_1 hvf]
    exact .yes h rfl rfl hv hvf (copyF_len _ _ _ _) copyT_wd hi
  · have hF : calmR t st c = [] := if_neg h
    rw [hF, tr_0 nil_bad]
    exact .no h rfl rfl trivial
theorem fixR_sz {t : Trk} {l : List Lim} (hs : trkSz t) : trkSz (fixR t l) := by
  unfold fixR
  split
  · rename_i h
    obtain ⟨hv, _, hg, _⟩ := fix_ok h
    exact copyT_sz (fun k i => by have := good_len (limA_good k l _ (goods_get (als_goods hv k) i) hg); omega) hs
  · exact nil_sz
theorem calmR_sz {t : Trk} {st : Int} {c : Sp} (hs : trkSz t) : trkSz (calmR t st c) := by
  unfold calmR
  split
  · rename_i h
    obtain ⟨hv, _⟩ := calm_ok h
    exact copyT_sz (fun k i => by have := good_len (goods_get (als_goods hv k) i); omega) hs
  · exact nil_sz
theorem getD_allvs {t : Trk} {k : Nat} (hk : k < t.length) : (allvs t).getD k [] = allv t k := by
  have : (allvs t)[k]? = some (allv t k) := by simp [allvs, hk]
  rw [List.getD_eq_getElem?_getD, this]; rfl
theorem Less_spec (t : Trk) (x : Ask) (hs : trkSz t) (hx : Ask.sz x) : Pure Tryz.prog 6 [trS t, .agg x.cs] (bl true) := by
  refine Pure.of_body Tryz.call6 Tryz.func6 k6 (Nat.le_of_ble_eq_true rfl) ?_
  unfold c6
  have hw := awake_spec
  have hf := few_spec t hs
  have hl := light_spec x hx
  have hA := All_spec t hs
  have hF := Fix_spec t x.lims hs hx.2.2.1
  have hC := Calm_spec t x.stage x.ch hs
  have sF := fixR_sz (l := x.lims) hs
  have sC := calmR_sz (st := x.stage) (c := x.ch) hs
  have hA2 := All_spec _ sF
  have hA3 := All_spec _ sC
  have mF := made_fix t x.lims
  have mC := made_calm t x.stage x.ch
  rw [show (if calmE t x.stage x.ch = 0 then calmT t x.stage x.ch else []) = calmR t x.stage x.ch from rfl] at hC
  have nF : ¬ valid t → ¬ fixE t x.lims = 0 := fun h e => h (fix_ok e).1
  have nC : ¬ valid t → ¬ calmE t x.stage x.ch = 0 := fun h e => h (calm_ok e).1
  generalize (if tr (valid (fixR t x.lims)) = true then allvs (fixR t x.lims) else []) = A2 at *
  generalize (if tr (valid (fixR t x.lims)) = true then (0 : Int) else 40) = e2 at *
  generalize (if tr (valid (calmR t x.stage x.ch)) = true then allvs (calmR t x.stage x.ch) else []) = A3 at *
  generalize (if tr (valid (calmR t x.stage x.ch)) = true then (0 : Int) else 40) = e3 at *
  generalize fixE t x.lims = E2 at *
  generalize calmE t x.stage x.ch = E3 at *
  generalize fixR t x.lims = F at *
  generalize calmR t x.stage x.ch = C at *
  generalize fewB t = B1 at *
  generalize tr (Light x) = B2 at *
  obtain ⟨a1, a2, a3, ⟨a4, a5⟩, a6, a7, a8, ⟨a9, b1⟩, b2⟩ := x
  try simp only at hF hC
  cases B1 with
  | false =>
    (repeat' ((first
 | refine AWPC.of_vcn rfl ?_
 | simp (disch := omega) only [wr64, Int.zero_sub]
 | refine AWPC.both (fun _ => ?_) (fun _ => ?_)
 | refine AWPC.imp (fun _ => ?_)
 | ((repeat (refine And.intro (by (intros; first | omega | (simp_all; done) | fail)) ?_)); (first | ((first | refine .inl ⟨_, _, _, _, rfl, fun _hc => ⟨by simp (maxDischargeDepth := 9) <;> assumption, (by first | exact hw | exact hf | exact hl)⟩, ?_⟩ | refine ⟨_, _, _, _, rfl, fun _hc => ⟨by simp (maxDischargeDepth := 9) <;> assumption, (by first | exact hw | exact hf | exact hl)⟩, ?_⟩); (first | refine owp_of_exs ?_ | refine pre_of_exd ?_ | refine pre_of_exe ?_ | refine pre_of_exv ?_)) | refine .inl ⟨_, _, _, _, rfl, ⟨by simp (maxDischargeDepth := 9) <;> assumption, (by first | exact hw | exact hf | exact hl)⟩, ?_⟩))
 | (refine .inl ⟨_, _, _, .any, rfl, fun h => absurd h Bool.false_ne_true, ?_⟩; refine owp_of_exs ?_)
 | refine ⟨by omega, ?_⟩
 | refine And.intro (by (intros; first | (simp_all; done) | fail)) ?_
 | fail) <;> try simp only [zT, zV, zS, zU, vcC, kscp, lateX, ex, strp, cnd, binA, kseq, kblk, kret, klp, Abs.one, elems, cells, scalar, eqC, Nat.reduceBEq, reduceAdd, reduceSub, reduceLT, reduceLeDiff, reduceMul, reduceEqDiff, reduceIte]))
    all_goals try (exfalso; omega)
    all_goals exact Frz.eq rfl (by simp)
  | true =>
    cases B2 with
    | false =>
      (repeat' ((first
 | refine AWPC.of_vcn rfl ?_
 | simp (disch := omega) only [wr64, Int.zero_sub]
 | refine AWPC.both (fun _ => ?_) (fun _ => ?_)
 | refine AWPC.imp (fun _ => ?_)
 | ((repeat (refine And.intro (by (intros; first | omega | (simp_all; done) | fail)) ?_)); (first | ((first | refine .inl ⟨_, _, _, _, rfl, fun _hc => ⟨by simp (maxDischargeDepth := 9) <;> assumption, (by first | exact hw | exact hf | exact hl)⟩, ?_⟩ | refine ⟨_, _, _, _, rfl, fun _hc => ⟨by simp (maxDischargeDepth := 9) <;> assumption, (by first | exact hw | exact hf | exact hl)⟩, ?_⟩); (first | refine owp_of_exs ?_ | refine pre_of_exd ?_ | refine pre_of_exe ?_ | refine pre_of_exv ?_)) | refine .inl ⟨_, _, _, _, rfl, ⟨by simp (maxDischargeDepth := 9) <;> assumption, (by first | exact hw | exact hf | exact hl)⟩, ?_⟩))
 | (refine .inl ⟨_, _, _, .any, rfl, fun h => absurd h Bool.false_ne_true, ?_⟩; refine owp_of_exs ?_)
 | refine ⟨by omega, ?_⟩
 | refine And.intro (by (intros; first | (simp_all; done) | fail)) ?_
 | fail) <;> try simp only [zT, zV, zS, zU, vcC, kscp, lateX, ex, strp, cnd, binA, kseq, kblk, kret, klp, Abs.one, elems, cells, scalar, eqC, Nat.reduceBEq, reduceAdd, reduceSub, reduceLT, reduceLeDiff, reduceMul, reduceEqDiff, reduceIte]))
      all_goals try (exfalso; omega)
      all_goals exact Frz.eq rfl (by simp)
    | true =>
      by_cases hv : valid t
      · rw [tr_1 hv] at hA
        simp only [if_true] at hA
        have h1 := hv.1
        have h2 := hv.2.1
        have l1 := allvs_len t
        rcases mF with ⟨hEF, rfl, rfl, _, vF, lF, wF, iF⟩ | ⟨hEF, rfl, rfl, _⟩
        · subst hEF
          rcases mC with ⟨hEC, rfl, rfl, _, vC, lC, wC, iC⟩ | ⟨hEC, rfl, rfl, _⟩
          · subst hEC
            have sh2 := shaped_spec t (allvs F) hs (allvs_sz vF)
            rw [tr_1 (show shaped t (allvs F) from ⟨by rw [allvs_len]; exact lF, fun k hk => by rw [getD_allvs (by omega), allv_len (by omega), wF]⟩)] at sh2
            have l2 := allvs_len F
            have sh3 := shaped_spec t (allvs C) hs (allvs_sz vC)
            rw [tr_1 (show shaped t (allvs C) from ⟨by rw [allvs_len]; exact lC, fun k hk => by rw [getD_allvs (by omega), allv_len (by omega), wC]⟩)] at sh3
            have l3 := allvs_len C
            (repeat' ((first
 | refine AWPC.of_vcn rfl ?_
 | simp (disch := omega) only [wr64, Int.zero_sub]
 | refine AWPC.both (fun _ => ?_) (fun _ => ?_)
 | refine AWPC.imp (fun _ => ?_)
 | ((repeat (refine And.intro (by (intros; first | omega | (simp_all; done) | fail)) ?_)); (first | ((first | refine .inl ⟨_, _, _, _, rfl, fun _hc => ⟨by simp (maxDischargeDepth := 9) <;> assumption, (by first | exact hw | exact hf | exact hl | exact hA | exact hF | exact hC | exact hA2 | exact hA3 | exact sh2 | exact sh3)⟩, ?_⟩ | refine ⟨_, _, _, _, rfl, fun _hc => ⟨by simp (maxDischargeDepth := 9) <;> assumption, (by first | exact hw | exact hf | exact hl | exact hA | exact hF | exact hC | exact hA2 | exact hA3 | exact sh2 | exact sh3)⟩, ?_⟩); (first | refine owp_of_exs ?_ | refine pre_of_exd ?_ | refine pre_of_exe ?_ | refine pre_of_exv ?_)) | refine .inl ⟨_, _, _, _, rfl, ⟨by simp (maxDischargeDepth := 9) <;> assumption, (by first | exact hw | exact hf | exact hl | exact hA | exact hF | exact hC | exact hA2 | exact hA3 | exact sh2 | exact sh3)⟩, ?_⟩))
 | (refine .inl ⟨_, _, _, .any, rfl, fun h => absurd h Bool.false_ne_true, ?_⟩; refine owp_of_exs ?_)
 | refine ⟨by omega, ?_⟩
 | refine And.intro (by (intros; first | (simp_all; done) | fail)) ?_
 | fail) <;> try simp only [zT, zV, zS, zU, vcC, kscp, lateX, ex, strp, cnd, binA, kseq, kblk, kret, klp, Abs.one, elems, cells, scalar, eqC, Nat.reduceBEq, reduceAdd, reduceSub, reduceLT, reduceLeDiff, reduceMul, reduceEqDiff, reduceIte, l1]))
            all_goals try (exfalso; omega)
            refine AWPC.loopE (α := { y : Nat // y ≤ t.length }) [16] (fun y => [(16, n y.1)]) (fun y => [some [⟨24, 1, [[tkS F]], none⟩], some [⟨24, 1, [[tkS C]], none⟩]]) (fun y => t.length - y.1) ⟨0, Nat.zero_le _⟩ ?_ rfl ?_
            · (simp only [zT, zV, zS, zU, vcC, kscp, lateX, ex, strp, cnd, binA, kseq, kblk, kret, klp, Abs.one, elems, cells, scalar, eqC, Nat.reduceBEq, reduceAdd, reduceSub, reduceLT, reduceLeDiff, reduceMul, reduceEqDiff, reduceIte]; try simp)
            rintro ⟨k, hk⟩
            try simp only at hk
            try simp only
            by_cases hlt : k < t.length
            · have g1 := allvs_get (t := t) hlt
              have w1 := allv_len (t := t) hlt
              have hwl := wd_le hv k
              have g2 := allvs_get (t := F) (k := k) (by omega)
              have w2 := allv_len (t := F) (k := k) (by omega)
              rw [wF] at w2
              have g3 := allvs_get (t := C) (k := k) (by omega)
              have w3 := allv_len (t := C) (k := k) (by omega)
              rw [wC] at w3
              (repeat' ((first
 | refine AWPC.of_vcn rfl ?_
 | simp (disch := omega) only [wr64, Int.zero_sub]
 | refine AWPC.both (fun _ => ?_) (fun _ => ?_)
 | refine AWPC.imp (fun _ => ?_)
 | (refine .inl ⟨_, _, _, .any, rfl, fun h => absurd h Bool.false_ne_true, ?_⟩; refine owp_of_exs ?_)
 | refine ⟨by omega, ?_⟩
 | refine And.intro (by (intros; first | (simp_all; done) | fail)) ?_
 | fail) <;> try simp only [zT, zV, zS, zU, vcC, kscp, lateX, ex, strp, cnd, binA, kseq, kblk, kret, klp, Abs.one, elems, cells, scalar, eqC, Nat.reduceBEq, reduceAdd, reduceSub, reduceLT, reduceLeDiff, reduceMul, reduceEqDiff, reduceIte, g1, l1]))
              all_goals try (exfalso; omega)
              refine AWPC.loopE (α := { y : Nat // y ≤ wd t k }) [17] (fun y => [(17, n y.1)]) (fun y => [some [⟨24, 1, [[tkS F]], none⟩], some [⟨24, 1, [[tkS C]], none⟩]]) (fun y => wd t k - y.1) ⟨0, Nat.zero_le _⟩ ?_ rfl ?_
              · (simp only [zT, zV, zS, zU, vcC, kscp, lateX, ex, strp, cnd, binA, kseq, kblk, kret, klp, Abs.one, elems, cells, scalar, eqC, Nat.reduceBEq, reduceAdd, reduceSub, reduceLT, reduceLeDiff, reduceMul, reduceEqDiff, reduceIte]; try simp)
              rintro ⟨i, hi⟩
              try simp only at hi
              try simp only
              by_cases hlt2 : i < wd t k
              · have r1 : ((allv t k).map fun l => [spS l]).getD i [] = [spS ((allv t k).getD i [])] := getD_map (getD_some (by omega))
                have q1 := goods_get (allv_goods hv hlt) i
                have r2 : ((allv F k).map fun l => [spS l]).getD i [] = [spS ((allv F k).getD i [])] := getD_map (getD_some (by omega))
                have q2 := goods_get (allv_goods vF (show k < F.length by omega)) i
                have n2 := inside45_spec ((allv F k).getD i []) ((allv t k).getD i []) (by have := good_len q2; omega) (by have := good_len q1; omega)
                rw [tr_1 (iF k i hlt hlt2)] at n2
                have r3 : ((allv C k).map fun l => [spS l]).getD i [] = [spS ((allv C k).getD i [])] := getD_map (getD_some (by omega))
                have q3 := goods_get (allv_goods vC (show k < C.length by omega)) i
                have n3 := inside45_spec ((allv C k).getD i []) ((allv t k).getD i []) (by have := good_len q3; omega) (by have := good_len q1; omega)
                rw [tr_1 (iC k i hlt hlt2)] at n3
                (repeat' ((first
 | refine AWPC.of_vcn rfl ?_
 | simp (disch := omega) only [wr64, Int.zero_sub]
 | refine AWPC.both (fun _ => ?_) (fun _ => ?_)
 | refine AWPC.imp (fun _ => ?_)
 | ((repeat (refine And.intro (by (intros; first | omega | (simp_all; done) | fail)) ?_)); (first | ((first | refine .inl ⟨_, _, _, _, rfl, fun _hc => ⟨by simp (maxDischargeDepth := 9) <;> assumption, (by first | exact n2 | exact n3)⟩, ?_⟩ | refine ⟨_, _, _, _, rfl, fun _hc => ⟨by simp (maxDischargeDepth := 9) <;> assumption, (by first | exact n2 | exact n3)⟩, ?_⟩); (first | refine owp_of_exs ?_ | refine pre_of_exd ?_ | refine pre_of_exe ?_ | refine pre_of_exv ?_)) | refine .inl ⟨_, _, _, _, rfl, ⟨by simp (maxDischargeDepth := 9) <;> assumption, (by first | exact n2 | exact n3)⟩, ?_⟩))
 | (refine .inl ⟨_, _, _, .any, rfl, fun h => absurd h Bool.false_ne_true, ?_⟩; refine owp_of_exs ?_)
 | (refine ⟨_, _, _, .any, rfl, fun h => absurd h Bool.false_ne_true, ?_⟩; refine pre_of_exd ?_)
 | refine ⟨by omega, ?_⟩
 | refine And.intro (by (intros; first | (simp_all; done) | fail)) ?_
 | fail) <;> try simp only [zT, zV, zS, zU, vcC, kscp, lateX, ex, strp, cnd, binA, kseq, kblk, kret, klp, Abs.one, elems, cells, scalar, eqC, Nat.reduceBEq, reduceAdd, reduceSub, reduceLT, reduceLeDiff, reduceMul, reduceEqDiff, reduceIte, g1, w1, l1, r1, g2, w2, l2, g3, w3, l3, r2, r3, List.map_nil, List.getElem?_nil]))
                all_goals try (exfalso; omega)
                all_goals exact ⟨⟨i + 1, hlt2⟩, rfl, by first | omega | (simp only; omega)⟩
              · obtain rfl : i = wd t k := by omega
                (repeat' ((first
 | refine AWPC.of_vcn rfl ?_
 | simp (disch := omega) only [wr64, Int.zero_sub]
 | refine AWPC.both (fun _ => ?_) (fun _ => ?_)
 | refine AWPC.imp (fun _ => ?_)
 | (refine .inl ⟨_, _, _, .any, rfl, fun h => absurd h Bool.false_ne_true, ?_⟩; refine owp_of_exs ?_)
 | refine ⟨by omega, ?_⟩
 | refine And.intro (by (intros; first | (simp_all; done) | fail)) ?_
 | fail) <;> try simp only [zT, zV, zS, zU, vcC, kscp, lateX, ex, strp, cnd, binA, kseq, kblk, kret, klp, Abs.one, elems, cells, scalar, eqC, Nat.reduceBEq, reduceAdd, reduceSub, reduceLT, reduceLeDiff, reduceMul, reduceEqDiff, reduceIte, g1, w1, l1]))
                all_goals try (exfalso; omega)
                all_goals exact ⟨⟨k + 1, hlt⟩, rfl, by first | omega | (simp only; omega)⟩
            · obtain rfl : k = t.length := by omega
              (repeat' ((first
 | refine AWPC.of_vcn rfl ?_
 | simp (disch := omega) only [wr64, Int.zero_sub]
 | refine AWPC.both (fun _ => ?_) (fun _ => ?_)
 | refine AWPC.imp (fun _ => ?_)
 | (refine .inl ⟨_, _, _, .any, rfl, fun h => absurd h Bool.false_ne_true, ?_⟩; refine owp_of_exs ?_)
 | refine ⟨by omega, ?_⟩
 | refine And.intro (by (intros; first | (simp_all; done) | fail)) ?_
 | fail) <;> try simp only [zT, zV, zS, zU, vcC, kscp, lateX, ex, strp, cnd, binA, kseq, kblk, kret, klp, Abs.one, elems, cells, scalar, eqC, Nat.reduceBEq, reduceAdd, reduceSub, reduceLT, reduceLeDiff, reduceMul, reduceEqDiff, reduceIte, l1]))
              all_goals try (exfalso; omega)
              all_goals exact Frz.eq rfl (by simp)
          · skip
            have sh2 := shaped_spec t (allvs F) hs (allvs_sz vF)
            rw [tr_1 (show shaped t (allvs F) from ⟨by rw [allvs_len]; exact lF, fun k hk => by rw [getD_allvs (by omega), allv_len (by omega), wF]⟩)] at sh2
            have l2 := allvs_len F
            (repeat' ((first
 | refine AWPC.of_vcn rfl ?_
 | simp (disch := omega) only [wr64, Int.zero_sub]
 | refine AWPC.both (fun _ => ?_) (fun _ => ?_)
 | refine AWPC.imp (fun _ => ?_)
 | ((repeat (refine And.intro (by (intros; first | omega | (simp_all; done) | fail)) ?_)); (first | ((first | refine .inl ⟨_, _, _, _, rfl, fun _hc => ⟨by simp (maxDischargeDepth := 9) <;> assumption, (by first | exact hw | exact hf | exact hl | exact hA | exact hF | exact hC | exact hA2 | exact hA3 | exact sh2)⟩, ?_⟩ | refine ⟨_, _, _, _, rfl, fun _hc => ⟨by simp (maxDischargeDepth := 9) <;> assumption, (by first | exact hw | exact hf | exact hl | exact hA | exact hF | exact hC | exact hA2 | exact hA3 | exact sh2)⟩, ?_⟩); (first | refine owp_of_exs ?_ | refine pre_of_exd ?_ | refine pre_of_exe ?_ | refine pre_of_exv ?_)) | refine .inl ⟨_, _, _, _, rfl, ⟨by simp (maxDischargeDepth := 9) <;> assumption, (by first | exact hw | exact hf | exact hl | exact hA | exact hF | exact hC | exact hA2 | exact hA3 | exact sh2)⟩, ?_⟩))
 | (refine .inl ⟨_, _, _, .any, rfl, fun h => absurd h Bool.false_ne_true, ?_⟩; refine owp_of_exs ?_)
 | refine ⟨by omega, ?_⟩
 | refine And.intro (by (intros; first | (simp_all; done) | fail)) ?_
 | fail) <;> try simp only [zT, zV, zS, zU, vcC, kscp, lateX, ex, strp, cnd, binA, kseq, kblk, kret, klp, Abs.one, elems, cells, scalar, eqC, Nat.reduceBEq, reduceAdd, reduceSub, reduceLT, reduceLeDiff, reduceMul, reduceEqDiff, reduceIte, l1, hEC]))
            all_goals try (exfalso; omega)
            refine AWPC.loopE (α := { y : Nat // y ≤ t.length }) [16] (fun y => [(16, n y.1)]) (fun y => [some [⟨24, 1, [[tkS F]], none⟩], some [⟨24, 1, [[tkS C]], none⟩]]) (fun y => t.length - y.1) ⟨0, Nat.zero_le _⟩ ?_ rfl ?_
            · (simp only [zT, zV, zS, zU, vcC, kscp, lateX, ex, strp, cnd, binA, kseq, kblk, kret, klp, Abs.one, elems, cells, scalar, eqC, Nat.reduceBEq, reduceAdd, reduceSub, reduceLT, reduceLeDiff, reduceMul, reduceEqDiff, reduceIte]; try simp)
            rintro ⟨k, hk⟩
            try simp only at hk
            try simp only
            by_cases hlt : k < t.length
            · have g1 := allvs_get (t := t) hlt
              have w1 := allv_len (t := t) hlt
              have hwl := wd_le hv k
              have g2 := allvs_get (t := F) (k := k) (by omega)
              have w2 := allv_len (t := F) (k := k) (by omega)
              rw [wF] at w2
              (repeat' ((first
 | refine AWPC.of_vcn rfl ?_
 | simp (disch := omega) only [wr64, Int.zero_sub]
 | refine AWPC.both (fun _ => ?_) (fun _ => ?_)
 | refine AWPC.imp (fun _ => ?_)
 | (refine .inl ⟨_, _, _, .any, rfl, fun h => absurd h Bool.false_ne_true, ?_⟩; refine owp_of_exs ?_)
 | refine ⟨by omega, ?_⟩
 | refine And.intro (by (intros; first | (simp_all; done) | fail)) ?_
 | fail) <;> try simp only [zT, zV, zS, zU, vcC, kscp, lateX, ex, strp, cnd, binA, kseq, kblk, kret, klp, Abs.one, elems, cells, scalar, eqC, Nat.reduceBEq, reduceAdd, reduceSub, reduceLT, reduceLeDiff, reduceMul, reduceEqDiff, reduceIte, g1, l1, hEC]))
              all_goals try (exfalso; omega)
              refine AWPC.loopE (α := { y : Nat // y ≤ wd t k }) [17] (fun y => [(17, n y.1)]) (fun y => [some [⟨24, 1, [[tkS F]], none⟩], some [⟨24, 1, [[tkS C]], none⟩]]) (fun y => wd t k - y.1) ⟨0, Nat.zero_le _⟩ ?_ rfl ?_
              · (simp only [zT, zV, zS, zU, vcC, kscp, lateX, ex, strp, cnd, binA, kseq, kblk, kret, klp, Abs.one, elems, cells, scalar, eqC, Nat.reduceBEq, reduceAdd, reduceSub, reduceLT, reduceLeDiff, reduceMul, reduceEqDiff, reduceIte]; try simp)
              rintro ⟨i, hi⟩
              try simp only at hi
              try simp only
              by_cases hlt2 : i < wd t k
              · have r1 : ((allv t k).map fun l => [spS l]).getD i [] = [spS ((allv t k).getD i [])] := getD_map (getD_some (by omega))
                have q1 := goods_get (allv_goods hv hlt) i
                have r2 : ((allv F k).map fun l => [spS l]).getD i [] = [spS ((allv F k).getD i [])] := getD_map (getD_some (by omega))
                have q2 := goods_get (allv_goods vF (show k < F.length by omega)) i
                have n2 := inside45_spec ((allv F k).getD i []) ((allv t k).getD i []) (by have := good_len q2; omega) (by have := good_len q1; omega)
                rw [tr_1 (iF k i hlt hlt2)] at n2
                (repeat' ((first
 | refine AWPC.of_vcn rfl ?_
 | simp (disch := omega) only [wr64, Int.zero_sub]
 | refine AWPC.both (fun _ => ?_) (fun _ => ?_)
 | refine AWPC.imp (fun _ => ?_)
 | ((repeat (refine And.intro (by (intros; first | omega | (simp_all; done) | fail)) ?_)); (first | ((first | refine .inl ⟨_, _, _, _, rfl, fun _hc => ⟨by simp (maxDischargeDepth := 9) <;> assumption, n2⟩, ?_⟩ | refine ⟨_, _, _, _, rfl, fun _hc => ⟨by simp (maxDischargeDepth := 9) <;> assumption, n2⟩, ?_⟩); (first | refine owp_of_exs ?_ | refine pre_of_exd ?_ | refine pre_of_exe ?_ | refine pre_of_exv ?_)) | refine .inl ⟨_, _, _, _, rfl, ⟨by simp (maxDischargeDepth := 9) <;> assumption, n2⟩, ?_⟩))
 | (refine .inl ⟨_, _, _, .any, rfl, fun h => absurd h Bool.false_ne_true, ?_⟩; refine owp_of_exs ?_)
 | (refine ⟨_, _, _, .any, rfl, fun h => absurd h Bool.false_ne_true, ?_⟩; refine pre_of_exd ?_)
 | refine ⟨by omega, ?_⟩
 | refine And.intro (by (intros; first | (simp_all; done) | fail)) ?_
 | fail) <;> try simp only [zT, zV, zS, zU, vcC, kscp, lateX, ex, strp, cnd, binA, kseq, kblk, kret, klp, Abs.one, elems, cells, scalar, eqC, Nat.reduceBEq, reduceAdd, reduceSub, reduceLT, reduceLeDiff, reduceMul, reduceEqDiff, reduceIte, g1, w1, l1, r1, g2, w2, l2, r2, hEC, List.map_nil, List.getElem?_nil]))
                all_goals try (exfalso; omega)
                all_goals exact ⟨⟨i + 1, hlt2⟩, rfl, by first | omega | (simp only; omega)⟩
              · obtain rfl : i = wd t k := by omega
                (repeat' ((first
 | refine AWPC.of_vcn rfl ?_
 | simp (disch := omega) only [wr64, Int.zero_sub]
 | refine AWPC.both (fun _ => ?_) (fun _ => ?_)
 | refine AWPC.imp (fun _ => ?_)
 | (refine .inl ⟨_, _, _, .any, rfl, fun h => absurd h Bool.false_ne_true, ?_⟩; refine owp_of_exs ?_)
 | refine ⟨by omega, ?_⟩
 | refine And.intro (by (intros; first | (simp_all; done) | fail)) ?_
 | fail) <;> try simp only [zT, zV, zS, zU, vcC, kscp, lateX, ex, strp, cnd, binA, kseq, kblk, kret, klp, Abs.one, elems, cells, scalar, eqC, Nat.reduceBEq, reduceAdd, reduceSub, reduceLT, reduceLeDiff, reduceMul, reduceEqDiff, reduceIte, g1, w1, l1]))
                all_goals try (exfalso; omega)
                all_goals exact ⟨⟨k + 1, hlt⟩, rfl, by first | omega | (simp only; omega)⟩
            · obtain rfl : k = t.length := by omega
              (repeat' ((first
 | refine AWPC.of_vcn rfl ?_
 | simp (disch := omega) only [wr64, Int.zero_sub]
 | refine AWPC.both (fun _ => ?_) (fun _ => ?_)
 | refine AWPC.imp (fun _ => ?_)
 | (refine .inl ⟨_, _, _, .any, rfl, fun h => absurd h Bool.false_ne_true, ?_⟩; refine owp_of_exs ?_)
 | refine ⟨by omega, ?_⟩
 | refine And.intro (by (intros; first | (simp_all; done) | fail)) ?_
 | fail) <;> try simp only [zT, zV, zS, zU, vcC, kscp, lateX, ex, strp, cnd, binA, kseq, kblk, kret, klp, Abs.one, elems, cells, scalar, eqC, Nat.reduceBEq, reduceAdd, reduceSub, reduceLT, reduceLeDiff, reduceMul, reduceEqDiff, reduceIte, l1]))
              all_goals try (exfalso; omega)
              all_goals exact Frz.eq rfl (by simp)
        · rcases mC with ⟨hEC, rfl, rfl, _, vC, lC, wC, iC⟩ | ⟨hEC, rfl, rfl, _⟩
          · subst hEC
            have sh3 := shaped_spec t (allvs C) hs (allvs_sz vC)
            rw [tr_1 (show shaped t (allvs C) from ⟨by rw [allvs_len]; exact lC, fun k hk => by rw [getD_allvs (by omega), allv_len (by omega), wC]⟩)] at sh3
            have l3 := allvs_len C
            (repeat' ((first
 | refine AWPC.of_vcn rfl ?_
 | simp (disch := omega) only [wr64, Int.zero_sub]
 | refine AWPC.both (fun _ => ?_) (fun _ => ?_)
 | refine AWPC.imp (fun _ => ?_)
 | ((repeat (refine And.intro (by (intros; first | omega | (simp_all; done) | fail)) ?_)); (first | ((first | refine .inl ⟨_, _, _, _, rfl, fun _hc => ⟨by simp (maxDischargeDepth := 9) <;> assumption, (by first | exact hw | exact hf | exact hl | exact hA | exact hF | exact hC | exact hA2 | exact hA3 | exact sh3)⟩, ?_⟩ | refine ⟨_, _, _, _, rfl, fun _hc => ⟨by simp (maxDischargeDepth := 9) <;> assumption, (by first | exact hw | exact hf | exact hl | exact hA | exact hF | exact hC | exact hA2 | exact hA3 | exact sh3)⟩, ?_⟩); (first | refine owp_of_exs ?_ | refine pre_of_exd ?_ | refine pre_of_exe ?_ | refine pre_of_exv ?_)) | refine .inl ⟨_, _, _, _, rfl, ⟨by simp (maxDischargeDepth := 9) <;> assumption, (by first | exact hw | exact hf | exact hl | exact hA | exact hF | exact hC | exact hA2 | exact hA3 | exact sh3)⟩, ?_⟩))
 | (refine .inl ⟨_, _, _, .any, rfl, fun h => absurd h Bool.false_ne_true, ?_⟩; refine owp_of_exs ?_)
 | refine ⟨by omega, ?_⟩
 | refine And.intro (by (intros; first | (simp_all; done) | fail)) ?_
 | fail) <;> try simp only [zT, zV, zS, zU, vcC, kscp, lateX, ex, strp, cnd, binA, kseq, kblk, kret, klp, Abs.one, elems, cells, scalar, eqC, Nat.reduceBEq, reduceAdd, reduceSub, reduceLT, reduceLeDiff, reduceMul, reduceEqDiff, reduceIte, l1, hEF]))
            all_goals try (exfalso; omega)
            refine AWPC.loopE (α := { y : Nat // y ≤ t.length }) [16] (fun y => [(16, n y.1)]) (fun y => [some [⟨24, 1, [[tkS F]], none⟩], some [⟨24, 1, [[tkS C]], none⟩]]) (fun y => t.length - y.1) ⟨0, Nat.zero_le _⟩ ?_ rfl ?_
            · (simp only [zT, zV, zS, zU, vcC, kscp, lateX, ex, strp, cnd, binA, kseq, kblk, kret, klp, Abs.one, elems, cells, scalar, eqC, Nat.reduceBEq, reduceAdd, reduceSub, reduceLT, reduceLeDiff, reduceMul, reduceEqDiff, reduceIte]; try simp)
            rintro ⟨k, hk⟩
            try simp only at hk
            try simp only
            by_cases hlt : k < t.length
            · have g1 := allvs_get (t := t) hlt
              have w1 := allv_len (t := t) hlt
              have hwl := wd_le hv k
              have g3 := allvs_get (t := C) (k := k) (by omega)
              have w3 := allv_len (t := C) (k := k) (by omega)
              rw [wC] at w3
              (repeat' ((first
 | refine AWPC.of_vcn rfl ?_
 | simp (disch := omega) only [wr64, Int.zero_sub]
 | refine AWPC.both (fun _ => ?_) (fun _ => ?_)
 | refine AWPC.imp (fun _ => ?_)
 | (refine .inl ⟨_, _, _, .any, rfl, fun h => absurd h Bool.false_ne_true, ?_⟩; refine owp_of_exs ?_)
 | refine ⟨by omega, ?_⟩
 | refine And.intro (by (intros; first | (simp_all; done) | fail)) ?_
 | fail) <;> try simp only [zT, zV, zS, zU, vcC, kscp, lateX, ex, strp, cnd, binA, kseq, kblk, kret, klp, Abs.one, elems, cells, scalar, eqC, Nat.reduceBEq, reduceAdd, reduceSub, reduceLT, reduceLeDiff, reduceMul, reduceEqDiff, reduceIte, g1, l1, hEF]))
              all_goals try (exfalso; omega)
              refine AWPC.loopE (α := { y : Nat // y ≤ wd t k }) [17] (fun y => [(17, n y.1)]) (fun y => [some [⟨24, 1, [[tkS F]], none⟩], some [⟨24, 1, [[tkS C]], none⟩]]) (fun y => wd t k - y.1) ⟨0, Nat.zero_le _⟩ ?_ rfl ?_
              · (simp only [zT, zV, zS, zU, vcC, kscp, lateX, ex, strp, cnd, binA, kseq, kblk, kret, klp, Abs.one, elems, cells, scalar, eqC, Nat.reduceBEq, reduceAdd, reduceSub, reduceLT, reduceLeDiff, reduceMul, reduceEqDiff, reduceIte]; try simp)
              rintro ⟨i, hi⟩
              try simp only at hi
              try simp only
              by_cases hlt2 : i < wd t k
              · have r1 : ((allv t k).map fun l => [spS l]).getD i [] = [spS ((allv t k).getD i [])] := getD_map (getD_some (by omega))
                have q1 := goods_get (allv_goods hv hlt) i
                have r3 : ((allv C k).map fun l => [spS l]).getD i [] = [spS ((allv C k).getD i [])] := getD_map (getD_some (by omega))
                have q3 := goods_get (allv_goods vC (show k < C.length by omega)) i
                have n3 := inside45_spec ((allv C k).getD i []) ((allv t k).getD i []) (by have := good_len q3; omega) (by have := good_len q1; omega)
                rw [tr_1 (iC k i hlt hlt2)] at n3
                (repeat' ((first
 | refine AWPC.of_vcn rfl ?_
 | simp (disch := omega) only [wr64, Int.zero_sub]
 | refine AWPC.both (fun _ => ?_) (fun _ => ?_)
 | refine AWPC.imp (fun _ => ?_)
 | ((repeat (refine And.intro (by (intros; first | omega | (simp_all; done) | fail)) ?_)); (first | ((first | refine .inl ⟨_, _, _, _, rfl, fun _hc => ⟨by simp (maxDischargeDepth := 9) <;> assumption, n3⟩, ?_⟩ | refine ⟨_, _, _, _, rfl, fun _hc => ⟨by simp (maxDischargeDepth := 9) <;> assumption, n3⟩, ?_⟩); (first | refine owp_of_exs ?_ | refine pre_of_exd ?_ | refine pre_of_exe ?_ | refine pre_of_exv ?_)) | refine .inl ⟨_, _, _, _, rfl, ⟨by simp (maxDischargeDepth := 9) <;> assumption, n3⟩, ?_⟩))
 | (refine .inl ⟨_, _, _, .any, rfl, fun h => absurd h Bool.false_ne_true, ?_⟩; refine owp_of_exs ?_)
 | (refine ⟨_, _, _, .any, rfl, fun h => absurd h Bool.false_ne_true, ?_⟩; refine pre_of_exd ?_)
 | refine ⟨by omega, ?_⟩
 | refine And.intro (by (intros; first | (simp_all; done) | fail)) ?_
 | fail) <;> try simp only [zT, zV, zS, zU, vcC, kscp, lateX, ex, strp, cnd, binA, kseq, kblk, kret, klp, Abs.one, elems, cells, scalar, eqC, Nat.reduceBEq, reduceAdd, reduceSub, reduceLT, reduceLeDiff, reduceMul, reduceEqDiff, reduceIte, g1, w1, l1, r1, g3, w3, l3, r3, hEF, List.map_nil, List.getElem?_nil]))
                all_goals try (exfalso; omega)
                all_goals exact ⟨⟨i + 1, hlt2⟩, rfl, by first | omega | (simp only; omega)⟩
              · obtain rfl : i = wd t k := by omega
                (repeat' ((first
 | refine AWPC.of_vcn rfl ?_
 | simp (disch := omega) only [wr64, Int.zero_sub]
 | refine AWPC.both (fun _ => ?_) (fun _ => ?_)
 | refine AWPC.imp (fun _ => ?_)
 | (refine .inl ⟨_, _, _, .any, rfl, fun h => absurd h Bool.false_ne_true, ?_⟩; refine owp_of_exs ?_)
 | refine ⟨by omega, ?_⟩
 | refine And.intro (by (intros; first | (simp_all; done) | fail)) ?_
 | fail) <;> try simp only [zT, zV, zS, zU, vcC, kscp, lateX, ex, strp, cnd, binA, kseq, kblk, kret, klp, Abs.one, elems, cells, scalar, eqC, Nat.reduceBEq, reduceAdd, reduceSub, reduceLT, reduceLeDiff, reduceMul, reduceEqDiff, reduceIte, g1, w1, l1]))
                all_goals try (exfalso; omega)
                all_goals exact ⟨⟨k + 1, hlt⟩, rfl, by first | omega | (simp only; omega)⟩
            · obtain rfl : k = t.length := by omega
              (repeat' ((first
 | refine AWPC.of_vcn rfl ?_
 | simp (disch := omega) only [wr64, Int.zero_sub]
 | refine AWPC.both (fun _ => ?_) (fun _ => ?_)
 | refine AWPC.imp (fun _ => ?_)
 | (refine .inl ⟨_, _, _, .any, rfl, fun h => absurd h Bool.false_ne_true, ?_⟩; refine owp_of_exs ?_)
 | refine ⟨by omega, ?_⟩
 | refine And.intro (by (intros; first | (simp_all; done) | fail)) ?_
 | fail) <;> try simp only [zT, zV, zS, zU, vcC, kscp, lateX, ex, strp, cnd, binA, kseq, kblk, kret, klp, Abs.one, elems, cells, scalar, eqC, Nat.reduceBEq, reduceAdd, reduceSub, reduceLT, reduceLeDiff, reduceMul, reduceEqDiff, reduceIte, l1]))
              all_goals try (exfalso; omega)
              all_goals exact Frz.eq rfl (by simp)
          · skip
            (repeat' ((first
 | refine AWPC.of_vcn rfl ?_
 | simp (disch := omega) only [wr64, Int.zero_sub]
 | refine AWPC.both (fun _ => ?_) (fun _ => ?_)
 | refine AWPC.imp (fun _ => ?_)
 | ((repeat (refine And.intro (by (intros; first | omega | (simp_all; done) | fail)) ?_)); (first | ((first | refine .inl ⟨_, _, _, _, rfl, fun _hc => ⟨by simp (maxDischargeDepth := 9) <;> assumption, (by first | exact hw | exact hf | exact hl | exact hA | exact hF | exact hC | exact hA2 | exact hA3)⟩, ?_⟩ | refine ⟨_, _, _, _, rfl, fun _hc => ⟨by simp (maxDischargeDepth := 9) <;> assumption, (by first | exact hw | exact hf | exact hl | exact hA | exact hF | exact hC | exact hA2 | exact hA3)⟩, ?_⟩); (first | refine owp_of_exs ?_ | refine pre_of_exd ?_ | refine pre_of_exe ?_ | refine pre_of_exv ?_)) | refine .inl ⟨_, _, _, _, rfl, ⟨by simp (maxDischargeDepth := 9) <;> assumption, (by first | exact hw | exact hf | exact hl | exact hA | exact hF | exact hC | exact hA2 | exact hA3)⟩, ?_⟩))
 | (refine .inl ⟨_, _, _, .any, rfl, fun h => absurd h Bool.false_ne_true, ?_⟩; refine owp_of_exs ?_)
 | refine ⟨by omega, ?_⟩
 | refine And.intro (by (intros; first | (simp_all; done) | fail)) ?_
 | fail) <;> try simp only [zT, zV, zS, zU, vcC, kscp, lateX, ex, strp, cnd, binA, kseq, kblk, kret, klp, Abs.one, elems, cells, scalar, eqC, Nat.reduceBEq, reduceAdd, reduceSub, reduceLT, reduceLeDiff, reduceMul, reduceEqDiff, reduceIte, l1, hEF, hEC]))
            all_goals try (exfalso; omega)
            refine AWPC.loopE (α := { y : Nat // y ≤ t.length }) [16] (fun y => [(16, n y.1)]) (fun y => [some [⟨24, 1, [[tkS F]], none⟩], some [⟨24, 1, [[tkS C]], none⟩]]) (fun y => t.length - y.1) ⟨0, Nat.zero_le _⟩ ?_ rfl ?_
            · (simp only [zT, zV, zS, zU, vcC, kscp, lateX, ex, strp, cnd, binA, kseq, kblk, kret, klp, Abs.one, elems, cells, scalar, eqC, Nat.reduceBEq, reduceAdd, reduceSub, reduceLT, reduceLeDiff, reduceMul, reduceEqDiff, reduceIte]; try simp)
            rintro ⟨k, hk⟩
            try simp only at hk
            try simp only
            by_cases hlt : k < t.length
            · have g1 := allvs_get (t := t) hlt
              have w1 := allv_len (t := t) hlt
              have hwl := wd_le hv k
              (repeat' ((first
 | refine AWPC.of_vcn rfl ?_
 | simp (disch := omega) only [wr64, Int.zero_sub]
 | refine AWPC.both (fun _ => ?_) (fun _ => ?_)
 | refine AWPC.imp (fun _ => ?_)
 | (refine .inl ⟨_, _, _, .any, rfl, fun h => absurd h Bool.false_ne_true, ?_⟩; refine owp_of_exs ?_)
 | refine ⟨by omega, ?_⟩
 | refine And.intro (by (intros; first | (simp_all; done) | fail)) ?_
 | fail) <;> try simp only [zT, zV, zS, zU, vcC, kscp, lateX, ex, strp, cnd, binA, kseq, kblk, kret, klp, Abs.one, elems, cells, scalar, eqC, Nat.reduceBEq, reduceAdd, reduceSub, reduceLT, reduceLeDiff, reduceMul, reduceEqDiff, reduceIte, g1, l1, hEF, hEC]))
              all_goals try (exfalso; omega)
              refine AWPC.loopE (α := { y : Nat // y ≤ wd t k }) [17] (fun y => [(17, n y.1)]) (fun y => [some [⟨24, 1, [[tkS F]], none⟩], some [⟨24, 1, [[tkS C]], none⟩]]) (fun y => wd t k - y.1) ⟨0, Nat.zero_le _⟩ ?_ rfl ?_
              · (simp only [zT, zV, zS, zU, vcC, kscp, lateX, ex, strp, cnd, binA, kseq, kblk, kret, klp, Abs.one, elems, cells, scalar, eqC, Nat.reduceBEq, reduceAdd, reduceSub, reduceLT, reduceLeDiff, reduceMul, reduceEqDiff, reduceIte]; try simp)
              rintro ⟨i, hi⟩
              try simp only at hi
              try simp only
              by_cases hlt2 : i < wd t k
              · have r1 : ((allv t k).map fun l => [spS l]).getD i [] = [spS ((allv t k).getD i [])] := getD_map (getD_some (by omega))
                have q1 := goods_get (allv_goods hv hlt) i
                (repeat' ((first
 | refine AWPC.of_vcn rfl ?_
 | simp (disch := omega) only [wr64, Int.zero_sub]
 | refine AWPC.both (fun _ => ?_) (fun _ => ?_)
 | refine AWPC.imp (fun _ => ?_)
 | (refine .inl ⟨_, _, _, .any, rfl, fun h => absurd h Bool.false_ne_true, ?_⟩; refine owp_of_exs ?_)
 | (refine ⟨_, _, _, .any, rfl, fun h => absurd h Bool.false_ne_true, ?_⟩; refine pre_of_exd ?_)
 | refine ⟨by omega, ?_⟩
 | refine And.intro (by (intros; first | (simp_all; done) | fail)) ?_
 | fail) <;> try simp only [zT, zV, zS, zU, vcC, kscp, lateX, ex, strp, cnd, binA, kseq, kblk, kret, klp, Abs.one, elems, cells, scalar, eqC, Nat.reduceBEq, reduceAdd, reduceSub, reduceLT, reduceLeDiff, reduceMul, reduceEqDiff, reduceIte, g1, w1, l1, r1, hEF, hEC, List.map_nil, List.getElem?_nil]))
                all_goals try (exfalso; omega)
                all_goals exact ⟨⟨i + 1, hlt2⟩, rfl, by first | omega | (simp only; omega)⟩
              · obtain rfl : i = wd t k := by omega
                (repeat' ((first
 | refine AWPC.of_vcn rfl ?_
 | simp (disch := omega) only [wr64, Int.zero_sub]
 | refine AWPC.both (fun _ => ?_) (fun _ => ?_)
 | refine AWPC.imp (fun _ => ?_)
 | (refine .inl ⟨_, _, _, .any, rfl, fun h => absurd h Bool.false_ne_true, ?_⟩; refine owp_of_exs ?_)
 | refine ⟨by omega, ?_⟩
 | refine And.intro (by (intros; first | (simp_all; done) | fail)) ?_
 | fail) <;> try simp only [zT, zV, zS, zU, vcC, kscp, lateX, ex, strp, cnd, binA, kseq, kblk, kret, klp, Abs.one, elems, cells, scalar, eqC, Nat.reduceBEq, reduceAdd, reduceSub, reduceLT, reduceLeDiff, reduceMul, reduceEqDiff, reduceIte, g1, w1, l1]))
                all_goals try (exfalso; omega)
                all_goals exact ⟨⟨k + 1, hlt⟩, rfl, by first | omega | (simp only; omega)⟩
            · obtain rfl : k = t.length := by omega
              (repeat' ((first
 | refine AWPC.of_vcn rfl ?_
 | simp (disch := omega) only [wr64, Int.zero_sub]
 | refine AWPC.both (fun _ => ?_) (fun _ => ?_)
 | refine AWPC.imp (fun _ => ?_)
 | (refine .inl ⟨_, _, _, .any, rfl, fun h => absurd h Bool.false_ne_true, ?_⟩; refine owp_of_exs ?_)
 | refine ⟨by omega, ?_⟩
 | refine And.intro (by (intros; first | (simp_all; done) | fail)) ?_
 | fail) <;> try simp only [zT, zV, zS, zU, vcC, kscp, lateX, ex, strp, cnd, binA, kseq, kblk, kret, klp, Abs.one, elems, cells, scalar, eqC, Nat.reduceBEq, reduceAdd, reduceSub, reduceLT, reduceLeDiff, reduceMul, reduceEqDiff, reduceIte, l1]))
              all_goals try (exfalso; omega)
              all_goals exact Frz.eq rfl (by simp)
      · rw [tr_0 hv] at hA
        simp only [Bool.false_eq_true, if_false] at hA
        have hEF := nF hv
        have hEC := nC hv
        (repeat' ((first
 | refine AWPC.of_vcn rfl ?_
 | simp (disch := omega) only [wr64, Int.zero_sub]
 | refine AWPC.both (fun _ => ?_) (fun _ => ?_)
 | refine AWPC.imp (fun _ => ?_)
 | ((repeat (refine And.intro (by (intros; first | omega | (simp_all; done) | fail)) ?_)); (first | ((first | refine .inl ⟨_, _, _, _, rfl, fun _hc => ⟨by simp (maxDischargeDepth := 9) <;> assumption, (by first | exact hw | exact hf | exact hl | exact hA | exact hF | exact hC | exact hA2 | exact hA3)⟩, ?_⟩ | refine ⟨_, _, _, _, rfl, fun _hc => ⟨by simp (maxDischargeDepth := 9) <;> assumption, (by first | exact hw | exact hf | exact hl | exact hA | exact hF | exact hC | exact hA2 | exact hA3)⟩, ?_⟩); (first | refine owp_of_exs ?_ | refine pre_of_exd ?_ | refine pre_of_exe ?_ | refine pre_of_exv ?_)) | refine .inl ⟨_, _, _, _, rfl, ⟨by simp (maxDischargeDepth := 9) <;> assumption, (by first | exact hw | exact hf | exact hl | exact hA | exact hF | exact hC | exact hA2 | exact hA3)⟩, ?_⟩))
 | (refine .inl ⟨_, _, _, .any, rfl, fun h => absurd h Bool.false_ne_true, ?_⟩; refine owp_of_exs ?_)
 | refine ⟨by omega, ?_⟩
 | refine And.intro (by (intros; first | (simp_all; done) | fail)) ?_
 | fail) <;> try simp only [zT, zV, zS, zU, vcC, kscp, lateX, ex, strp, cnd, binA, kseq, kblk, kret, klp, Abs.one, elems, cells, scalar, eqC, Nat.reduceBEq, reduceAdd, reduceSub, reduceLT, reduceLeDiff, reduceMul, reduceEqDiff, reduceIte]))
        all_goals try (exfalso; omega)
        all_goals exact Frz.eq (congrArg bl (by simp [hEF, hEC])) (by simp)
end Go.Proofs.YtahkhnagpdlkiaaGreat
