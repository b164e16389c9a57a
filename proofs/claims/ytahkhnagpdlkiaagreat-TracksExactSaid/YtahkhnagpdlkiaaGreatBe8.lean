/- Part 8 of the texts that the claim rests on: abstract values over the walk, and contracts of functions. -/
import Derived.Test.YtahkhnagpdlkiaaGreatBe7
import Derived.Test.YtahkhnagpdlkiaaGreatRows
import Derived.WalkKit
import Derived.ProofKit
import Derived.OpenShut
import Derived.ShutString
import Derived.ChangeOld
import Derived.Below
namespace Go.Proofs.YtahkhnagpdlkiaaGreat
open Go.Abs
open Nat (reduceAdd reduceSub reduceLT reduceLeDiff reduceMul reduceEqDiff)
set_option linter.unusedVariables false
set_option linter.unusedSimpArgs false
set_option maxHeartbeats 4000000
set_option maxRecDepth 100000
open Go.ChangeShapes Go.WideShapes Go.ChangeAt Go.RowKit
theorem own : ownKnob Tryz.prog.godebug = none := by kernel_rfl
theorem laidOut : laidOutB Tryz.prog = true := by kernel_rfl
theorem cells3 : Tryz.prog.cellsOf 3 = 1 := by kernel_rfl
theorem cells30 : Tryz.prog.cellsOf 30 = 2 := by kernel_rfl
theorem cells45 : Tryz.prog.cellsOf 45 = 1 := by kernel_rfl
theorem cells124 : Tryz.prog.cellsOf 124 = 3 := by kernel_rfl
theorem cells78 : Tryz.prog.cellsOf 78 = 1 := by kernel_rfl
theorem cells80 : Tryz.prog.cellsOf 80 = 2 := by kernel_rfl
theorem cells68 : Tryz.prog.cellsOf 68 = 1 := by kernel_rfl
theorem cells22 : Tryz.prog.cellsOf 22 = 1 := by kernel_rfl
theorem cells24 : Tryz.prog.cellsOf 24 = 1 := by kernel_rfl
theorem cells61 : Tryz.prog.cellsOf 61 = 1 := by kernel_rfl
theorem cells31 : Tryz.prog.cellsOf 31 = 1 := by kernel_rfl
theorem cells26 : Tryz.prog.cellsOf 26 = 2 := by kernel_rfl
theorem cells27 : Tryz.prog.cellsOf 27 = 1 := by kernel_rfl
theorem cells65 : Tryz.prog.cellsOf 65 = 2 := by kernel_rfl
theorem cells28 : Tryz.prog.cellsOf 28 = 1 := by kernel_rfl
theorem cells33 : Tryz.prog.cellsOf 33 = 11 := by kernel_rfl
theorem op3 : Opens Tryz.prog 3 Int (fun z => [n z]) (fun _ => True) := (opens_int Tryz.underlying3).to id (fun _ => rfl) (fun _ _ => trivial)
theorem op30 : Opens Tryz.prog 30 Sp Sp.cs (fun _ => True) :=
  (opens_struct Tryz.underlying30 cells30 (fun _ => rfl) (opensF_cons rfl cells3 op3 (fun _ => rfl) (opensF_cons rfl cells3 op3 (fun _ => rfl) (opensF_nil _)))).to (fun a => ⟨a.1, a.2.1⟩) (fun _ => rfl) (fun _ _ => trivial)
theorem op45 : Opens Tryz.prog 45 (List Sp) (fun l => [spS l]) (fun l => l.length < 9223372036854775808) :=
  (opens_slice Tryz.underlying45 cells30 (by decide) op30 (fun _ => rfl)).to id (fun _ => rfl) (fun _ h => h.1)
theorem op124 : Opens Tryz.prog 124 Edg Edg.cs (fun _ => True) :=
  (opens_struct Tryz.underlying124 cells124 (fun _ => rfl) (opensF_cons rfl cells3 op3 (fun _ => rfl) (opensF_cons rfl cells30 op30 (fun _ => rfl) (opensF_nil _)))).to (fun a => ⟨a.1, a.2.1⟩) (fun _ => rfl) (fun _ _ => trivial)
theorem op78 : Opens Tryz.prog 78 (List Edg) (fun l => [edS l]) (fun l => l.length < 9223372036854775808) :=
  (opens_slice Tryz.underlying78 cells124 (by decide) op124 (fun _ => rfl)).to id (fun _ => rfl) (fun _ h => h.1)
theorem op80 : Opens Tryz.prog 80 Nod Nod.cs nodSz :=
  (opens_struct Tryz.underlying80 cells80 (fun _ => rfl) (opensF_cons rfl cells45 op45 (fun _ => rfl) (opensF_cons rfl cells78 op78 (fun _ => rfl) (opensF_nil _)))).to (fun a => ⟨a.1, a.2.1⟩) (fun _ => rfl) (fun _ h => ⟨h.1, h.2.1⟩)
theorem op68 : Opens Tryz.prog 68 (List Nod) (fun l => [stS l]) stgSz :=
  (opens_slice Tryz.underlying68 cells80 (by decide) op80 (fun _ => rfl)).to id (fun _ => rfl) (fun _ h => h)
theorem op22 : Opens Tryz.prog 22 Trk (fun l => [tkS l]) trkSz :=
  (opens_slice Tryz.underlying22 cells68 (by decide) op68 (fun _ => rfl)).to id (fun _ => rfl) (fun _ h => h)
theorem op24 : Opens Tryz.prog 24 Trk (fun l => [tkS l]) trkSz :=
  (opens_struct Tryz.underlying24 cells24 (fun _ => rfl) (opensF_cons rfl cells22 op22 (fun _ => rfl) (opensF_nil _))).to (fun a => a.1) (fun _ => rfl) (fun _ h => h.1)
theorem op61 : Opens Tryz.prog 61 (List (List Sp)) (fun l => [nodS l]) (fun l => l.length < 9223372036854775808 ∧ ∀ x ∈ l, x.length < 9223372036854775808) :=
  (opens_slice Tryz.underlying61 cells45 (by decide) op45 (fun _ => rfl)).to id (fun _ => rfl) (fun _ h => h)
theorem op31 : Opens Tryz.prog 31 (List (List (List Sp))) (fun l => [stgS l]) setsSz :=
  (opens_slice Tryz.underlying31 cells61 (by decide) op61 (fun _ => rfl)).to id (fun _ => rfl) (fun _ h => h)
theorem op26 : Opens Tryz.prog 26 At At.cs (fun _ => True) :=
  (opens_struct Tryz.underlying26 cells26 (fun _ => rfl) (opensF_cons rfl cells3 op3 (fun _ => rfl) (opensF_cons rfl cells3 op3 (fun _ => rfl) (opensF_nil _)))).to (fun a => ⟨a.1, a.2.1⟩) (fun _ => rfl) (fun _ _ => trivial)
theorem op27 : Opens Tryz.prog 27 (List At) (fun l => [atS l]) (fun l => l.length < 9223372036854775808) :=
  (opens_slice Tryz.underlying27 cells26 (by decide) op26 (fun _ => rfl)).to id (fun _ => rfl) (fun _ h => h.1)
theorem op65 : Opens Tryz.prog 65 Lim Lim.cs (fun x => x.vs.length < 9223372036854775808) :=
  (opens_struct Tryz.underlying65 cells65 (fun _ => rfl) (opensF_cons rfl cells3 op3 (fun _ => rfl) (opensF_cons rfl cells45 op45 (fun _ => rfl) (opensF_nil _)))).to (fun a => ⟨a.1, a.2.1⟩) (fun _ => rfl) (fun _ h => h.2.1)
theorem op28 : Opens Tryz.prog 28 (List Lim) (fun l => [liS l]) limSz :=
  (opens_slice Tryz.underlying28 cells65 (by decide) op65 (fun _ => rfl)).to id (fun _ => rfl) (fun _ h => h)
structure Ask where
  stage : Int
  to : Int
  first : Int
  pl : At
  one : List At
  two : List At
  lims : List Lim
  ch : Sp
  sets : List (List (List Sp))
abbrev Ask.cs (x : Ask) : List AV := [n x.stage, n x.to, n x.first, n x.pl.node, n x.pl.val, atS x.one, atS x.two, liS x.lims, n x.ch.lo, n x.ch.hi, stgS x.sets]
def Ask.sz (x : Ask) : Prop := x.one.length < 9223372036854775808 ∧ x.two.length < 9223372036854775808 ∧ limSz x.lims ∧ setsSz x.sets
theorem op33 : Opens Tryz.prog 33 Ask Ask.cs Ask.sz :=
  (opens_struct Tryz.underlying33 cells33 (fun _ => rfl) (opensF_cons rfl cells3 op3 (fun _ => rfl) (opensF_cons rfl cells3 op3 (fun _ => rfl) (opensF_cons rfl cells3 op3 (fun _ => rfl) (opensF_cons rfl cells26 op26 (fun _ => rfl) (opensF_cons rfl cells27 op27 (fun _ => rfl) (opensF_cons rfl cells27 op27 (fun _ => rfl) (opensF_cons rfl cells28 op28 (fun _ => rfl) (opensF_cons rfl cells30 op30 (fun _ => rfl) (opensF_cons rfl cells31 op31 (fun _ => rfl) (opensF_nil _))))))))))).to (fun a => ⟨a.1, a.2.1, a.2.2.1, a.2.2.2.1, a.2.2.2.2.1, a.2.2.2.2.2.1, a.2.2.2.2.2.2.1, a.2.2.2.2.2.2.2.1, a.2.2.2.2.2.2.2.2.1⟩) (fun _ => rfl) (fun _ h => ⟨h.2.2.2.2.1, h.2.2.2.2.2.1, h.2.2.2.2.2.2.1, h.2.2.2.2.2.2.2.2.1⟩)
section
variable {H : Type} {enc : TypeId × Value → H} {w : World} {r : Reach} {base b0 : Nat} {sp : Nat → Bool} {held : Bool} {v : Value} {d : DataW H} {ps : List MemPlace}
theorem open_trk (h : Value.okWide Tryz.prog w r base 24 v) (hx : DataW.Trod enc Tryz.prog w b0 sp held 24 v d ps) : ∃ l : Trk, trkSz l ∧ RV w (fun _ => False) nob [] (trS l) v := by
  obtain ⟨cs, rfl, _⟩ := okWide_struct Tryz.underlying24 h
  exact op24.agg hx
theorem open_ask (h : Value.okWide Tryz.prog w r base 33 v) (hx : DataW.Trod enc Tryz.prog w b0 sp held 33 v d ps) : ∃ l : Ask, Ask.sz l ∧ RV w (fun _ => False) nob [] (.agg l.cs) v := by
  obtain ⟨cs, rfl, _⟩ := okWide_struct Tryz.underlying33 h
  exact op33.agg hx
end
end Go.Proofs.YtahkhnagpdlkiaaGreat
namespace Go.Proofs.YtahkhnagpdlkiaaGreat
open Go.Abs
open Nat (reduceAdd reduceSub reduceLT reduceLeDiff reduceMul reduceEqDiff)
set_option linter.unusedVariables false
set_option linter.unusedSimpArgs false
set_option maxHeartbeats 4000000
set_option maxRecDepth 100000
def c18 : CF := ⟨77,
 (.seq (.ops [
 ⟨some 1,.box false 33 11 (.t 0),none⟩,
 ⟨some 2,.mv (.c (.bool false)),none⟩] [1])
 (.seq (.seq (.ops [
 ⟨some 6,.faddr 5 (.t 1),none⟩,
 ⟨some 7,.load none (.t 6),none⟩,
 ⟨some 8,.len (.t 7),none⟩,
 ⟨some 9,.bin .gtr (.t 8) (.c (.int .i64 500)),none⟩,
 ⟨some 10,.mv (.t 9),none⟩,
 ⟨some 11,.faddr 6 (.t 1),some (10,false)⟩,
 ⟨some 12,.load none (.t 11),some (10,false)⟩,
 ⟨some 13,.len (.t 12),some (10,false)⟩,
 ⟨some 14,.bin .gtr (.t 13) (.c (.int .i64 500)),some (10,false)⟩,
 ⟨some 15,.pick (.t 10) (.c (.bool true)) (.t 14),none⟩,
 ⟨some 16,.mv (.t 15),none⟩,
 ⟨some 17,.faddr 7 (.t 1),some (16,false)⟩,
 ⟨some 18,.load none (.t 17),some (16,false)⟩,
 ⟨some 19,.len (.t 18),some (16,false)⟩,
 ⟨some 20,.bin .gtr (.t 19) (.c (.int .i64 12)),some (16,false)⟩,
 ⟨some 21,.pick (.t 16) (.c (.bool true)) (.t 20),none⟩,
 ⟨some 22,.mv (.t 21),none⟩,
 ⟨some 23,.faddr 10 (.t 1),some (22,false)⟩,
 ⟨some 24,.load none (.t 23),some (22,false)⟩,
 ⟨some 25,.len (.t 24),some (22,false)⟩,
 ⟨some 26,.bin .gtr (.t 25) (.c (.int .i64 12)),some (22,false)⟩,
 ⟨some 27,.pick (.t 22) (.c (.bool true)) (.t 26),none⟩] [1,27])
 (.cond (.t 27) (.seq (.ops [
 ⟨some 2,.mv (.c (.bool false)),none⟩] [2])
 .ret)
 .skip))
 (.seq (.seq (.ops [
 ⟨some 3,.mv (.c (.int .i64 0)),none⟩] [1,3])
 (.block 0 (.loop (.seq (.seq (.ops [
 ⟨some 28,.mv (.t 3),none⟩,
 ⟨some 29,.faddr 7 (.t 1),none⟩,
 ⟨some 30,.load none (.t 29),none⟩,
 ⟨some 31,.len (.t 30),none⟩,
 ⟨some 32,.bin .lss (.t 28) (.t 31),none⟩] [1,3,32])
 (.cond (.t 32) .skip
 (.exit 0)))
 (.seq (.block 1 (.seq (.ops [
 ⟨some 35,.faddr 7 (.t 1),none⟩,
 ⟨some 36,.load none (.t 35),none⟩,
 ⟨some 37,.mv (.t 3),none⟩,
 ⟨some 38,.iaddr 2 (.t 36) (.t 37),none⟩,
 ⟨some 39,.faddr 1 (.t 38),none⟩,
 ⟨some 40,.load none (.t 39),none⟩,
 ⟨some 41,.call (.f 24) [(.t 40)],none⟩,
 ⟨some 42,.un .not (.t 41),none⟩] [1,3,42])
 (.cond (.t 42) (.seq (.ops [
 ⟨some 2,.mv (.c (.bool false)),none⟩] [2])
 .ret)
 .skip)))
 (.ops [
 ⟨some 33,.mv (.t 3),none⟩,
 ⟨some 34,.bin .add (.t 33) (.c (.int .i64 1)),none⟩,
 ⟨some 3,.mv (.t 34),none⟩] [1,3]))))))
 (.seq (.seq (.ops [
 ⟨some 4,.mv (.c (.int .i64 0)),none⟩] [1,4])
 (.block 2 (.loop (.seq (.seq (.ops [
 ⟨some 43,.mv (.t 4),none⟩,
 ⟨some 44,.faddr 10 (.t 1),none⟩,
 ⟨some 45,.load none (.t 44),none⟩,
 ⟨some 46,.len (.t 45),none⟩,
 ⟨some 47,.bin .lss (.t 43) (.t 46),none⟩] [1,4,47])
 (.cond (.t 47) .skip
 (.exit 2)))
 (.seq (.block 3 (.seq (.seq (.ops [
 ⟨some 50,.faddr 10 (.t 1),none⟩,
 ⟨some 51,.load none (.t 50),none⟩,
 ⟨some 52,.mv (.t 4),none⟩,
 ⟨some 53,.iaddr 1 (.t 51) (.t 52),none⟩,
 ⟨some 54,.load none (.t 53),none⟩,
 ⟨some 55,.len (.t 54),none⟩,
 ⟨some 56,.bin .gtr (.t 55) (.c (.int .i64 12)),none⟩] [1,4,56])
 (.cond (.t 56) (.seq (.ops [
 ⟨some 2,.mv (.c (.bool false)),none⟩] [2])
 .ret)
 .skip))
 (.seq (.ops [
 ⟨some 5,.mv (.c (.int .i64 0)),none⟩] [1,4,5])
 (.block 4 (.loop (.seq (.seq (.ops [
 ⟨some 57,.mv (.t 5),none⟩,
 ⟨some 58,.faddr 10 (.t 1),none⟩,
 ⟨some 59,.load none (.t 58),none⟩,
 ⟨some 60,.mv (.t 4),none⟩,
 ⟨some 61,.iaddr 1 (.t 59) (.t 60),none⟩,
 ⟨some 62,.load none (.t 61),none⟩,
 ⟨some 63,.len (.t 62),none⟩,
 ⟨some 64,.bin .lss (.t 57) (.t 63),none⟩] [1,4,5,64])
 (.cond (.t 64) .skip
 (.exit 4)))
 (.seq (.block 5 (.seq (.ops [
 ⟨some 67,.faddr 10 (.t 1),none⟩,
 ⟨some 68,.load none (.t 67),none⟩,
 ⟨some 69,.mv (.t 4),none⟩,
 ⟨some 70,.iaddr 1 (.t 68) (.t 69),none⟩,
 ⟨some 71,.load none (.t 70),none⟩,
 ⟨some 72,.mv (.t 5),none⟩,
 ⟨some 73,.iaddr 1 (.t 71) (.t 72),none⟩,
 ⟨some 74,.load none (.t 73),none⟩,
 ⟨some 75,.len (.t 74),none⟩,
 ⟨some 76,.bin .gtr (.t 75) (.c (.int .i64 40)),none⟩] [1,4,5,76])
 (.cond (.t 76) (.seq (.ops [
 ⟨some 2,.mv (.c (.bool false)),none⟩] [2])
 .ret)
 .skip)))
 (.ops [
 ⟨some 65,.mv (.t 5),none⟩,
 ⟨some 66,.bin .add (.t 65) (.c (.int .i64 1)),none⟩,
 ⟨some 5,.mv (.t 66),none⟩] [1,4,5]))))))))
 (.ops [
 ⟨some 48,.mv (.t 4),none⟩,
 ⟨some 49,.bin .add (.t 48) (.c (.int .i64 1)),none⟩,
 ⟨some 4,.mv (.t 49),none⟩] [1,4]))))))
 (.seq (.ops [
 ⟨some 2,.mv (.c (.bool true)),none⟩] [2])
 .ret))))),
 [.t 2]⟩
theorem k18 : chkF Tryz.prog Tryz.f18 c18 = true := by kernel_rfl
abbrev bulky (x : Ask) : Prop := ((500 < x.one.length ∨ 500 < x.two.length) ∨ 12 < x.lims.length) ∨ 12 < x.sets.length
abbrev briefL (l : List Sp) : Prop := l.length ≤ 12 ∨ 64 < l.length ∧ l.length ≤ 128
structure Light (x : Ask) : Prop where
  no : ¬ bulky x
  lims : ∀ y ∈ x.lims, briefL y.vs
  sets : ∀ l ∈ x.sets, l.length ≤ 12 ∧ ∀ s ∈ l, s.length ≤ 40
theorem light_spec (x : Ask) (hs : Ask.sz x) : Pure Tryz.prog 18 [.agg x.cs] (bl (tr (Light x))) := by
  refine Pure.of_body Tryz.call18 Tryz.func18 k18 (Nat.le_of_ble_eq_true rfl) ?_
  unfold c18
  have hno : ¬ Light x → tr (Light x) = false := tr_0
  obtain ⟨s1, s2, ⟨s3, s4⟩, s5, s6⟩ := hs
  have hb := fun (h : bulky x) => hno fun g => g.no h
  have hli := fun (y : Lim) (hy : y ∈ x.lims) (h : ¬ briefL y.vs) => hno fun g => h (g.lims y hy)
  have hse := fun (l : List (List Sp)) (hl : l ∈ x.sets) (h : ¬ l.length ≤ 12) => hno fun g => h (g.sets l hl).1
  have hss := fun (l : List (List Sp)) (hl : l ∈ x.sets) (s : List Sp) (hs : s ∈ l) (h : ¬ s.length ≤ 40) => hno fun g => h ((g.sets l hl).2 s hs)
  have hok := fun (h : ¬ bulky x) (h2 : ∀ y ∈ x.lims, briefL y.vs) (h3 : ∀ l ∈ x.sets, l.length ≤ 12 ∧ ∀ s ∈ l, s.length ≤ 40) => (tr_1 (Light.mk h h2 h3) : tr (Light x) = true)
  generalize tr (Light x) = R at *
  clear hno
  obtain ⟨a1, a2, a3, ⟨a4, a5⟩, a6, a7, a8, ⟨a9, b1⟩, b2⟩ := x
  try simp only at s1 s2 s3 s4 s5 s6 hb hli hse hss hok
  (repeat' ((first
 | refine vn rfl ?_
 | simp (disch := omega) only [wr64, Int.zero_sub]
 | refine AWPC.both (fun _ => ?_) (fun _ => ?_)
 | refine AWPC.imp (fun _ => ?_)
 | refine cF ?_
 | refine om ?_
 | refine an ?_
 | fail) <;> try simp only [zT, zV, zS, zU, vcC, kscp, lateX, ex, strp, cnd, binA, kseq, kblk, kret, klp, Abs.one, elems, cells, scalar, eqC, keyA, intsA, lookA, ofVs, mpOf, Nat.reduceBEq, reduceAdd, reduceSub, reduceLT, reduceLeDiff, reduceMul, reduceEqDiff, reduceIte]))
  all_goals try (exfalso; omega)
  · rename_i h
    rw [hb (by unfold bulky; simp only; omega)]
    exact Frz.eq rfl (by simp)
  rename_i h
  have hnb : ¬ bulky ⟨a1, a2, a3, ⟨a4, a5⟩, a6, a7, a8, ⟨a9, b1⟩, b2⟩ := by unfold bulky; simp only; omega
  refine AWPC.loopE (α := { y : Nat // y ≤ a8.length ∧ ∀ z ∈ a8.take y, briefL z.vs }) [3] (fun y => [(3, n y.1)]) (fun y => []) (fun y => a8.length - y.1) ⟨0, Nat.zero_le _, by simp⟩ ?_ rfl ?_
  · (simp only [zT, zV, zS, zU, vcC, kscp, lateX, ex, strp, cnd, binA, kseq, kblk, kret, klp, Abs.one, elems, cells, scalar, eqC, keyA, intsA, lookA, ofVs, mpOf, Nat.reduceBEq, reduceAdd, reduceSub, reduceLT, reduceLeDiff, reduceMul, reduceEqDiff, reduceIte]; try simp)
  rintro ⟨i, hi, hI⟩
  try simp only at hi hI
  try simp only
  by_cases hlt : i < a8.length
  · obtain ⟨y, hy⟩ : ∃ y, a8[i]? = some y := ⟨_, List.getElem?_eq_getElem hlt⟩
    have hym := List.mem_of_getElem? hy
    have hsn := take_snoc hy
    have hbr := brief_spec y.vs
    by_cases hb : briefL y.vs
    · rw [decide_eq_true hb] at hbr
      (repeat' ((first
 | refine vn rfl ?_
 | simp (disch := omega) only [wr64, Int.zero_sub]
 | refine AWPC.both (fun _ => ?_) (fun _ => ?_)
 | refine AWPC.imp (fun _ => ?_)
 | ((repeat refine si ?_); (first | ((first | refine .inl ⟨_, _, _, _, rfl, fun _ => pu hbr, ?_⟩ | refine ⟨_, _, _, _, rfl, fun _ => pu hbr, ?_⟩); (first | refine owp_of_exs ?_ | refine pre_of_exd ?_ | refine pre_of_exe ?_ | refine pre_of_exv ?_)) | refine .inl ⟨_, _, _, _, rfl, pu hbr, ?_⟩))
 | refine cF ?_
 | refine om ?_
 | refine an ?_
 | fail) <;> try simp only [zT, zV, zS, zU, vcC, kscp, lateX, ex, strp, cnd, binA, kseq, kblk, kret, klp, Abs.one, elems, cells, scalar, eqC, keyA, intsA, lookA, ofVs, mpOf, Nat.reduceBEq, reduceAdd, reduceSub, reduceLT, reduceLeDiff, reduceMul, reduceEqDiff, reduceIte, getD_map hy]))
      all_goals try (exfalso; omega)
      exact ⟨⟨i + 1, hlt, fun z hz => by
        rw [hsn] at hz
        rcases List.mem_append.1 hz with h | h
        · exact hI z h
        · rw [List.mem_singleton.1 h]; exact hb⟩, rfl, by simp only; omega⟩
    · rw [decide_eq_false hb] at hbr
      (repeat' ((first
 | refine vn rfl ?_
 | simp (disch := omega) only [wr64, Int.zero_sub]
 | refine AWPC.both (fun _ => ?_) (fun _ => ?_)
 | refine AWPC.imp (fun _ => ?_)
 | ((repeat refine si ?_); (first | ((first | refine .inl ⟨_, _, _, _, rfl, fun _ => pu hbr, ?_⟩ | refine ⟨_, _, _, _, rfl, fun _ => pu hbr, ?_⟩); (first | refine owp_of_exs ?_ | refine pre_of_exd ?_ | refine pre_of_exe ?_ | refine pre_of_exv ?_)) | refine .inl ⟨_, _, _, _, rfl, pu hbr, ?_⟩))
 | refine cF ?_
 | refine om ?_
 | refine an ?_
 | fail) <;> try simp only [zT, zV, zS, zU, vcC, kscp, lateX, ex, strp, cnd, binA, kseq, kblk, kret, klp, Abs.one, elems, cells, scalar, eqC, keyA, intsA, lookA, ofVs, mpOf, Nat.reduceBEq, reduceAdd, reduceSub, reduceLT, reduceLeDiff, reduceMul, reduceEqDiff, reduceIte, getD_map hy]))
      all_goals try (exfalso; omega)
      rw [hli y hym hb]
      exact Frz.eq rfl (by simp)
  · obtain rfl : i = a8.length := by omega
    rw [List.take_length] at hI
    (repeat' ((first
 | refine vn rfl ?_
 | simp (disch := omega) only [wr64, Int.zero_sub]
 | refine AWPC.both (fun _ => ?_) (fun _ => ?_)
 | refine AWPC.imp (fun _ => ?_)
 | refine cF ?_
 | refine om ?_
 | refine an ?_
 | fail) <;> try simp only [zT, zV, zS, zU, vcC, kscp, lateX, ex, strp, cnd, binA, kseq, kblk, kret, klp, Abs.one, elems, cells, scalar, eqC, keyA, intsA, lookA, ofVs, mpOf, Nat.reduceBEq, reduceAdd, reduceSub, reduceLT, reduceLeDiff, reduceMul, reduceEqDiff, reduceIte]))
    all_goals try (exfalso; omega)
    refine AWPC.loopE (α := { y : Nat // y ≤ b2.length ∧ ∀ l ∈ b2.take y, l.length ≤ 12 ∧ ∀ s ∈ l, s.length ≤ 40 }) [4] (fun y => [(4, n y.1)]) (fun y => []) (fun y => b2.length - y.1) ⟨0, Nat.zero_le _, by simp⟩ ?_ rfl ?_
    · (simp only [zT, zV, zS, zU, vcC, kscp, lateX, ex, strp, cnd, binA, kseq, kblk, kret, klp, Abs.one, elems, cells, scalar, eqC, keyA, intsA, lookA, ofVs, mpOf, Nat.reduceBEq, reduceAdd, reduceSub, reduceLT, reduceLeDiff, reduceMul, reduceEqDiff, reduceIte]; try simp)
    rintro ⟨k, hk, hK⟩
    try simp only at hk hK
    try simp only
    by_cases hlt : k < b2.length
    · obtain ⟨l, hl⟩ : ∃ l, b2[k]? = some l := ⟨_, List.getElem?_eq_getElem hlt⟩
      have hlm := List.mem_of_getElem? hl
      have hsn := take_snoc hl
      have gl : (b2.map fun l => [nodS l]).getD k [] = [nodS l] := getD_map hl
      obtain ⟨l1, l2⟩ := s6 l hlm
      (repeat' ((first
 | refine vn rfl ?_
 | simp (disch := omega) only [wr64, Int.zero_sub]
 | refine AWPC.both (fun _ => ?_) (fun _ => ?_)
 | refine AWPC.imp (fun _ => ?_)
 | refine cF ?_
 | refine om ?_
 | refine an ?_
 | fail) <;> try simp only [zT, zV, zS, zU, vcC, kscp, lateX, ex, strp, cnd, binA, kseq, kblk, kret, klp, Abs.one, elems, cells, scalar, eqC, keyA, intsA, lookA, ofVs, mpOf, Nat.reduceBEq, reduceAdd, reduceSub, reduceLT, reduceLeDiff, reduceMul, reduceEqDiff, reduceIte, gl]))
      all_goals try (exfalso; omega)
      · rename_i h
        rw [hse l hlm (by omega)]
        exact Frz.eq rfl (by simp)
      rename_i h12
      refine AWPC.loopE (α := { y : Nat // y ≤ l.length ∧ ∀ s ∈ l.take y, s.length ≤ 40 }) [5] (fun y => [(5, n y.1)]) (fun y => []) (fun y => l.length - y.1) ⟨0, Nat.zero_le _, by simp⟩ ?_ rfl ?_
      · (simp only [zT, zV, zS, zU, vcC, kscp, lateX, ex, strp, cnd, binA, kseq, kblk, kret, klp, Abs.one, elems, cells, scalar, eqC, keyA, intsA, lookA, ofVs, mpOf, Nat.reduceBEq, reduceAdd, reduceSub, reduceLT, reduceLeDiff, reduceMul, reduceEqDiff, reduceIte]; try simp)
      rintro ⟨j, hj, hJ⟩
      try simp only at hj hJ
      try simp only
      by_cases hlt2 : j < l.length
      · obtain ⟨s, hs⟩ : ∃ s, l[j]? = some s := ⟨_, List.getElem?_eq_getElem hlt2⟩
        have hsm := List.mem_of_getElem? hs
        have hsn2 := take_snoc hs
        have gs : (l.map fun l => [spS l]).getD j [] = [spS s] := getD_map hs
        have hsl := l2 s hsm
        (repeat' ((first
 | refine vn rfl ?_
 | simp (disch := omega) only [wr64, Int.zero_sub]
 | refine AWPC.both (fun _ => ?_) (fun _ => ?_)
 | refine AWPC.imp (fun _ => ?_)
 | refine cF ?_
 | refine om ?_
 | refine an ?_
 | fail) <;> try simp only [zT, zV, zS, zU, vcC, kscp, lateX, ex, strp, cnd, binA, kseq, kblk, kret, klp, Abs.one, elems, cells, scalar, eqC, keyA, intsA, lookA, ofVs, mpOf, Nat.reduceBEq, reduceAdd, reduceSub, reduceLT, reduceLeDiff, reduceMul, reduceEqDiff, reduceIte, gl, gs]))
        all_goals try (exfalso; omega)
        · rename_i h
          rw [hss l hlm s hsm (by omega)]
          exact Frz.eq rfl (by simp)
        · rename_i h
          exact ⟨⟨j + 1, hlt2, fun z hz => by
            rw [hsn2] at hz
            rcases List.mem_append.1 hz with h' | h'
            · exact hJ z h'
            · rw [List.mem_singleton.1 h']; omega⟩, rfl, by simp only; omega⟩
      · obtain rfl : j = l.length := by omega
        rw [List.take_length] at hJ
        (repeat' ((first
 | refine vn rfl ?_
 | simp (disch := omega) only [wr64, Int.zero_sub]
 | refine AWPC.both (fun _ => ?_) (fun _ => ?_)
 | refine AWPC.imp (fun _ => ?_)
 | refine cF ?_
 | refine om ?_
 | refine an ?_
 | fail) <;> try simp only [zT, zV, zS, zU, vcC, kscp, lateX, ex, strp, cnd, binA, kseq, kblk, kret, klp, Abs.one, elems, cells, scalar, eqC, keyA, intsA, lookA, ofVs, mpOf, Nat.reduceBEq, reduceAdd, reduceSub, reduceLT, reduceLeDiff, reduceMul, reduceEqDiff, reduceIte, gl]))
        all_goals try (exfalso; omega)
        exact ⟨⟨k + 1, hlt, fun z hz => by
          rw [hsn] at hz
          rcases List.mem_append.1 hz with h' | h'
          · exact hK z h'
          · rw [List.mem_singleton.1 h']; exact ⟨by omega, hJ⟩⟩, rfl, by simp only; omega⟩
    · obtain rfl : k = b2.length := by omega
      rw [List.take_length] at hK
      rw [hok hnb hI hK]
      (repeat' ((first
 | refine vn rfl ?_
 | simp (disch := omega) only [wr64, Int.zero_sub]
 | refine AWPC.both (fun _ => ?_) (fun _ => ?_)
 | refine AWPC.imp (fun _ => ?_)
 | refine cF ?_
 | refine om ?_
 | refine an ?_
 | fail) <;> try simp only [zT, zV, zS, zU, vcC, kscp, lateX, ex, strp, cnd, binA, kseq, kblk, kret, klp, Abs.one, elems, cells, scalar, eqC, keyA, intsA, lookA, ofVs, mpOf, Nat.reduceBEq, reduceAdd, reduceSub, reduceLT, reduceLeDiff, reduceMul, reduceEqDiff, reduceIte]))
      all_goals try (exfalso; omega)
      exact Frz.eq rfl (by simp)
def c83 : CF := ⟨15,
 (.seq (.ops [
 ⟨some 2,.box false 24 1 (.t 0),none⟩,
 ⟨some 4,.mv (.c (.slice none 0 0)),none⟩,
 ⟨some 5,.mv (.c (.int .i64 0)),none⟩] [1,2])
 (.seq (.seq (.ops [
 ⟨some 7,.load (some 1) (.t 2),none⟩,
 ⟨some 8,.call (.f 53) [(.t 7)],none⟩,
 ⟨some 6,.mv (.t 8),none⟩] [1,2,6])
 (.seq (.ops [
 ⟨some 9,.mv (.t 6),none⟩,
 ⟨some 10,.bin .neq (.t 9) (.c (.int .i64 0)),none⟩] [1,2,6,10])
 (.cond (.t 10) (.seq (.ops [
 ⟨some 11,.mv (.t 6),none⟩,
 ⟨some 4,.mv (.c (.slice none 0 0)),none⟩,
 ⟨some 5,.mv (.t 11),none⟩] [4,5])
 .ret)
 .skip)))
 (.seq (.ops [
 ⟨some 12,.mv (.t 1),none⟩,
 ⟨some 13,.load (some 1) (.t 2),none⟩,
 ⟨some 14,.call (.t 12) [(.t 13)],none⟩,
 ⟨some 4,.mv (.t 14),none⟩,
 ⟨some 5,.mv (.c (.int .i64 0)),none⟩] [4,5])
 .ret))),
 [.t 4,.t 5]⟩
def c34 : CF := ⟨8,
 (.seq (.ops [
 ⟨some 1,.box false 24 1 (.t 0),none⟩,
 ⟨some 2,.mv (.c (.slice none 0 0)),none⟩,
 ⟨some 3,.mv (.c (.int .i64 0)),none⟩] [1])
 (.seq (.ops [
 ⟨some 4,.load (some 1) (.t 1),none⟩,
 ⟨some 5,.call (.f 83) [(.t 4),(.f 88)],none⟩,
 ⟨some 6,.ext 0 (.t 5),none⟩,
 ⟨some 7,.ext 1 (.t 5),none⟩,
 ⟨some 2,.mv (.t 6),none⟩,
 ⟨some 3,.mv (.t 7),none⟩] [2,3])
 .ret)),
 [.t 2,.t 3]⟩
def c44 : CF := ⟨30,
 (.seq (.ops [
 ⟨some 2,.box false 24 1 (.t 0),none⟩,
 ⟨some 4,.mv (.c (.bool false)),none⟩] [1,2])
 (.seq (.seq (.ops [
 ⟨some 6,.mv (.t 1),none⟩,
 ⟨some 7,.len (.t 6),none⟩,
 ⟨some 8,.faddr 0 (.t 2),none⟩,
 ⟨some 9,.load none (.t 8),none⟩,
 ⟨some 10,.len (.t 9),none⟩,
 ⟨some 11,.bin .neq (.t 7) (.t 10),none⟩] [1,2,11])
 (.cond (.t 11) (.seq (.ops [
 ⟨some 4,.mv (.c (.bool false)),none⟩] [4])
 .ret)
 .skip))
 (.seq (.seq (.ops [
 ⟨some 5,.mv (.c (.int .i64 0)),none⟩] [1,2,5])
 (.block 0 (.loop (.seq (.seq (.ops [
 ⟨some 12,.mv (.t 5),none⟩,
 ⟨some 13,.mv (.t 1),none⟩,
 ⟨some 14,.len (.t 13),none⟩,
 ⟨some 15,.bin .lss (.t 12) (.t 14),none⟩] [1,2,5,15])
 (.cond (.t 15) .skip
 (.exit 0)))
 (.seq (.block 1 (.seq (.draw [
 ⟨some 18,.mv (.t 1),none⟩,
 ⟨some 19,.mv (.t 5),none⟩,
 ⟨some 20,.iaddr 1 (.t 18) (.t 19),none⟩,
 ⟨some 21,.load none (.t 20),none⟩,
 ⟨some 22,.len (.t 21),none⟩,
 ⟨some 23,.faddr 0 (.t 2),none⟩,
 ⟨some 24,.load none (.t 23),none⟩,
 ⟨some 25,.mv (.t 5),none⟩,
 ⟨some 26,.iaddr 1 (.t 24) (.t 25),none⟩,
 ⟨some 27,.load none (.t 26),none⟩,
 ⟨some 28,.len (.t 27),none⟩,
 ⟨some 29,.bin .neq (.t 22) (.t 28),none⟩] [
 ] [1,2,5,29])
 (.cond (.t 29) (.seq (.ops [
 ⟨some 4,.mv (.c (.bool false)),none⟩] [4])
 .ret)
 .skip)))
 (.ops [
 ⟨some 16,.mv (.t 5),none⟩,
 ⟨some 17,.bin .add (.t 16) (.c (.int .i64 1)),none⟩,
 ⟨some 5,.mv (.t 17),none⟩] [1,2,5]))))))
 (.seq (.ops [
 ⟨some 4,.mv (.c (.bool true)),none⟩] [4])
 .ret)))),
 [.t 4]⟩
theorem k83 : chkF Tryz.prog Tryz.f83 c83 = true := by kernel_rfl
theorem k34 : chkF Tryz.prog Tryz.f34 c34 = true := by kernel_rfl
theorem k44 : chkF Tryz.prog Tryz.f44 c44 = true := by kernel_rfl
theorem told_spec (t : Trk) (hs : trkSz t) (f : Nat) (x : List (List (List Sp))) (hf : valid t → Pure Tryz.prog f [trS t] (stgS x)) :
    Pure Tryz.prog 83 [trS t, .fn (.func f) [] []] (.tup [stgS (if tr (valid t) = true then x else []), n (if tr (valid t) = true then 0 else 40)]) := by
  refine Pure.of_body Tryz.call83 Tryz.func83 k83 (Nat.le_of_ble_eq_true rfl) ?_
  unfold c83
  have hc := Check_spec t hs
  by_cases hv : valid t
  · rw [tr_1 hv] at hc ⊢
    simp only [if_true] at hc ⊢
    have hx := hf hv
    (repeat' ((first
 | refine vn rfl ?_
 | simp (disch := omega) only [wr64, Int.zero_sub]
 | refine AWPC.both (fun _ => ?_) (fun _ => ?_)
 | refine AWPC.imp (fun _ => ?_)
 | ((repeat refine si ?_); (first | ((first | refine .inl ⟨_, _, _, _, rfl, fun _ => pu (by first | exact hc | exact hx), ?_⟩ | refine ⟨_, _, _, _, rfl, fun _ => pu (by first | exact hc | exact hx), ?_⟩); (first | refine owp_of_exs ?_ | refine pre_of_exd ?_ | refine pre_of_exe ?_ | refine pre_of_exv ?_)) | refine .inl ⟨_, _, _, _, rfl, pu (by first | exact hc | exact hx), ?_⟩))
 | refine cF ?_
 | refine om ?_
 | refine an ?_
 | fail) <;> try simp only [zT, zV, zS, zU, vcC, kscp, lateX, ex, strp, cnd, binA, kseq, kblk, kret, klp, Abs.one, elems, cells, scalar, eqC, keyA, intsA, lookA, ofVs, mpOf, Nat.reduceBEq, reduceAdd, reduceSub, reduceLT, reduceLeDiff, reduceMul, reduceEqDiff, reduceIte]))
    all_goals try (exfalso; omega)
    all_goals exact Frz.eq rfl (by simp)
  · rw [tr_0 hv] at hc ⊢
    simp only [Bool.false_eq_true, if_false] at hc ⊢
    (repeat' ((first
 | refine vn rfl ?_
 | simp (disch := omega) only [wr64, Int.zero_sub]
 | refine AWPC.both (fun _ => ?_) (fun _ => ?_)
 | refine AWPC.imp (fun _ => ?_)
 | ((repeat refine si ?_); (first | ((first | refine .inl ⟨_, _, _, _, rfl, fun _ => pu hc, ?_⟩ | refine ⟨_, _, _, _, rfl, fun _ => pu hc, ?_⟩); (first | refine owp_of_exs ?_ | refine pre_of_exd ?_ | refine pre_of_exe ?_ | refine pre_of_exv ?_)) | refine .inl ⟨_, _, _, _, rfl, pu hc, ?_⟩))
 | refine cF ?_
 | refine om ?_
 | refine an ?_
 | fail) <;> try simp only [zT, zV, zS, zU, vcC, kscp, lateX, ex, strp, cnd, binA, kseq, kblk, kret, klp, Abs.one, elems, cells, scalar, eqC, keyA, intsA, lookA, ofVs, mpOf, Nat.reduceBEq, reduceAdd, reduceSub, reduceLT, reduceLeDiff, reduceMul, reduceEqDiff, reduceIte]))
    all_goals try (exfalso; omega)
    exact frz2 frz_nil (by simp)
theorem All_spec (t : Trk) (hs : trkSz t) : Pure Tryz.prog 34 [trS t] (.tup [stgS (if tr (valid t) = true then allvs t else []), n (if tr (valid t) = true then 0 else 40)]) := by
  refine Pure.of_body Tryz.call34 Tryz.func34 k34 (Nat.le_of_ble_eq_true rfl) ?_
  unfold c34
  have ht := told_spec t hs 88 (allvs t) (all_spec t)
  generalize (if tr (valid t) = true then (0 : Int) else 40) = E at *
  generalize (if tr (valid t) = true then allvs t else []) = X at *
  (repeat' ((first
 | refine vn rfl ?_
 | simp (disch := omega) only [wr64, Int.zero_sub]
 | refine AWPC.both (fun _ => ?_) (fun _ => ?_)
 | refine AWPC.imp (fun _ => ?_)
 | ((repeat refine si ?_); (first | ((first | refine .inl ⟨_, _, _, _, rfl, fun _ => pu ht, ?_⟩ | refine ⟨_, _, _, _, rfl, fun _ => pu ht, ?_⟩); (first | refine owp_of_exs ?_ | refine pre_of_exd ?_ | refine pre_of_exe ?_ | refine pre_of_exv ?_)) | refine .inl ⟨_, _, _, _, rfl, pu ht, ?_⟩))
 | refine cF ?_
 | refine om ?_
 | refine an ?_
 | fail) <;> try simp only [zT, zV, zS, zU, vcC, kscp, lateX, ex, strp, cnd, binA, kseq, kblk, kret, klp, Abs.one, elems, cells, scalar, eqC, keyA, intsA, lookA, ofVs, mpOf, Nat.reduceBEq, reduceAdd, reduceSub, reduceLT, reduceLeDiff, reduceMul, reduceEqDiff, reduceIte]))
  all_goals exact Frz.eq rfl (by simp)
def shaped (t : Trk) (ps : List (List (List Sp))) : Prop := ps.length = t.length ∧ ∀ k, k < t.length → (ps.getD k []).length = wd t k
theorem shaped_spec (t : Trk) (ps : List (List (List Sp))) (hs : trkSz t) (hp : setsSz ps) : Pure Tryz.prog 44 [trS t, stgS ps] (bl (tr (shaped t ps))) := by
  refine Pure.of_body Tryz.call44 Tryz.func44 k44 (Nat.le_of_ble_eq_true rfl) ?_
  unfold c44
  have hno : ¬ shaped t ps → tr (shaped t ps) = false := tr_0
  have hyes : shaped t ps → tr (shaped t ps) = true := tr_1
  have h1 := hs.1
  obtain ⟨hpl, hpx⟩ := hp
  generalize tr (shaped t ps) = R at *
  (repeat' ((first
 | refine vn rfl ?_
 | simp (disch := omega) only [wr64, Int.zero_sub]
 | refine AWPC.both (fun _ => ?_) (fun _ => ?_)
 | refine AWPC.imp (fun _ => ?_)
 | refine cF ?_
 | refine om ?_
 | refine an ?_
 | fail) <;> try simp only [zT, zV, zS, zU, vcC, kscp, lateX, ex, strp, cnd, binA, kseq, kblk, kret, klp, Abs.one, elems, cells, scalar, eqC, keyA, intsA, lookA, ofVs, mpOf, Nat.reduceBEq, reduceAdd, reduceSub, reduceLT, reduceLeDiff, reduceMul, reduceEqDiff, reduceIte]))
  · rename_i h
    rw [hno fun e => h (by have := e.1; omega)]
    exact Frz.eq rfl (by simp)
  rename_i h
  have hlen : ps.length = t.length := by omega
  refine AWPC.loopE (α := { y : Nat // y ≤ ps.length ∧ ∀ k, k < y → (ps.getD k []).length = wd t k }) [5] (fun y => [(5, n y.1)]) (fun y => []) (fun y => ps.length - y.1) ⟨0, Nat.zero_le _, by simp⟩ ?_ rfl ?_
  · (simp only [zT, zV, zS, zU, vcC, kscp, lateX, ex, strp, cnd, binA, kseq, kblk, kret, klp, Abs.one, elems, cells, scalar, eqC, keyA, intsA, lookA, ofVs, mpOf, Nat.reduceBEq, reduceAdd, reduceSub, reduceLT, reduceLeDiff, reduceMul, reduceEqDiff, reduceIte]; try simp)
  rintro ⟨i, hi, hI⟩
  try simp only at hi hI
  try simp only
  by_cases hlt : i < ps.length
  · have hpi : ps[i]? = some (ps.getD i []) := getD_some hlt
    have gp : (ps.map fun l => [nodS l]).getD i [] = [nodS (ps.getD i [])] := getD_map hpi
    have hti : t[i]? = some (t.getD i []) := getD_some (by omega)
    have gt' : (t.map fun l => [stS l]).getD i [] = [stS (t.getD i [])] := getD_map hti
    have hww : wd t i = (t.getD i []).length := rfl
    obtain ⟨x1, x2⟩ := hpx _ (List.mem_of_getElem? hpi)
    have hL := (hs.2 _ (List.mem_of_getElem? hti)).1
    have hb1 : (ps.getD i []).length ≠ wd t i → ¬ shaped t ps := fun h g => h (g.2 i (by omega))
    have hnext : (ps.getD i []).length = wd t i → ∀ k, k < i + 1 → (ps.getD k []).length = wd t k := fun a k hk => by
      by_cases hki : k = i
      · subst hki; exact a
      · exact hI k (by omega)
    generalize ps.getD i [] = X at *
    rw [hww] at hb1 hnext
    generalize t.getD i [] = L at *
    (repeat' ((first
 | refine vn rfl ?_
 | simp (disch := omega) only [wr64, Int.zero_sub]
 | refine AWPC.both (fun _ => ?_) (fun _ => ?_)
 | refine AWPC.imp (fun _ => ?_)
 | refine cF ?_
 | refine om ?_
 | refine an ?_
 | fail) <;> try simp only [zT, zV, zS, zU, vcC, kscp, lateX, ex, strp, cnd, binA, kseq, kblk, kret, klp, Abs.one, elems, cells, scalar, eqC, keyA, intsA, lookA, ofVs, mpOf, Nat.reduceBEq, reduceAdd, reduceSub, reduceLT, reduceLeDiff, reduceMul, reduceEqDiff, reduceIte, gp, gt']))
    all_goals try (exfalso; omega)
    · rename_i h
      rw [hno (hb1 (by omega))]
      exact Frz.eq rfl (by simp)
    · rename_i h
      exact ⟨⟨i + 1, hlt, hnext (by omega)⟩, rfl, by first | omega | (simp only; omega)⟩
  · obtain rfl : i = ps.length := by omega
    rw [hyes ⟨hlen, fun k hk => hI k (by omega)⟩]
    (repeat' ((first
 | refine vn rfl ?_
 | simp (disch := omega) only [wr64, Int.zero_sub]
 | refine AWPC.both (fun _ => ?_) (fun _ => ?_)
 | refine AWPC.imp (fun _ => ?_)
 | refine cF ?_
 | refine om ?_
 | refine an ?_
 | fail) <;> try simp only [zT, zV, zS, zU, vcC, kscp, lateX, ex, strp, cnd, binA, kseq, kblk, kret, klp, Abs.one, elems, cells, scalar, eqC, keyA, intsA, lookA, ofVs, mpOf, Nat.reduceBEq, reduceAdd, reduceSub, reduceLT, reduceLeDiff, reduceMul, reduceEqDiff, reduceIte]))
    all_goals try (exfalso; omega)
    exact Frz.eq rfl (by simp)
end Go.Proofs.YtahkhnagpdlkiaaGreat
namespace Go.Abs
set_option linter.unusedVariables false
set_option linter.unusedSimpArgs false
theorem Frz.mp {σ : Sto} {f n : Nat} {o : Ob} {m m' : List (List Int × AV)} (ho : σ.at f 0 = some o) (hm : mpOf o n = some m) (hl : m.length = m'.length)
    (hk : ∀ i, i < m.length → (m'.getD i ([], .any)).1 = (m.getD i ([], .any)).1) (hv : ∀ i, i < m.length → Frz σ (m.getD i ([], .any)).2 (m'.getD i ([], .any)).2) : Frz σ (.mp f) (.imap n m') := fun w X β x hs hx => by
  obtain ⟨b, es, cl, hβ, rfl, _, hb, hr⟩ := mp_block hs ho hm hx
  obtain ⟨h1, h2, h3⟩ := of_mprel hr
  have hd : ∀ i, es.getD i ⟨undef, undef, 0⟩ = es.toList.getD i ⟨undef, undef, 0⟩ := fun i => by simp [Array.getD_eq_getD_getElem?, List.getD_eq_getElem?_getD]
  refine .imap n m' b es cl hb (fun hX => hs.dis f 0 o b ho hβ hX) (by rw [← hl, ← h1]; simp) (fun i hi => ?_) fun i hi => ?_
  · rw [hd, hk i (by omega)]; exact h2 i (by omega)
  · rw [hd]; exact hv i (by omega) w X β _ hs (h3 i (by omega))
theorem mget_map {α : Type} (key : α → List Int) (val : α → AV) (ks : List Int) : ∀ l : List α, mget (l.map fun a => (key a, val a)) ks = (l.find? fun a => decide (key a = ks)).map val
  | [] => rfl
  | a :: l => by
    simp only [List.map_cons, mget, List.find?_cons, mget_map key val ks l]
    by_cases h : key a = ks <;> simp [h]
end Go.Abs
