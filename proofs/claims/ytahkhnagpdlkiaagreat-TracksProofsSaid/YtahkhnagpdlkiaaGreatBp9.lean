/- Part 9 of the texts that the claim rests on: abstract values over the walk, and contracts of functions. -/
import Derived.Test.YtahkhnagpdlkiaaGreatBp8
import Derived.Test.YtahkhnagpdlkiaaGreatRows
import Derived.WalkKit
import Derived.ProofKit
import Derived.OpenShut
import Derived.ShutString
import Derived.ChangeOld
import Derived.Below
namespace Go.Proofs.YtahkhnagpdlkiaaGreat
open Go.Abs
open Nat (reduceAdd reduceSub reduceLT reduceLeDiff reduceMul reduceEqDiff)
set_option linter.unusedVariables false
set_option linter.unusedSimpArgs false
set_option maxHeartbeats 4000000
set_option maxRecDepth 100000
open Go.ChangeShapes Go.WideShapes Go.ChangeAt Go.RowKit
theorem own : ownKnob Tryz.prog.godebug = none := by kernel_rfl
theorem laidOut : laidOutB Tryz.prog = true := by kernel_rfl
theorem cells3 : Tryz.prog.cellsOf 3 = 1 := by kernel_rfl
theorem cells30 : Tryz.prog.cellsOf 30 = 2 := by kernel_rfl
theorem cells45 : Tryz.prog.cellsOf 45 = 1 := by kernel_rfl
theorem cells124 : Tryz.prog.cellsOf 124 = 3 := by kernel_rfl
theorem cells78 : Tryz.prog.cellsOf 78 = 1 := by kernel_rfl
theorem cells80 : Tryz.prog.cellsOf 80 = 2 := by kernel_rfl
theorem cells68 : Tryz.prog.cellsOf 68 = 1 := by kernel_rfl
theorem cells22 : Tryz.prog.cellsOf 22 = 1 := by kernel_rfl
theorem cells24 : Tryz.prog.cellsOf 24 = 1 := by kernel_rfl
theorem cells61 : Tryz.prog.cellsOf 61 = 1 := by kernel_rfl
theorem cells31 : Tryz.prog.cellsOf 31 = 1 := by kernel_rfl
theorem cells26 : Tryz.prog.cellsOf 26 = 2 := by kernel_rfl
theorem cells27 : Tryz.prog.cellsOf 27 = 1 := by kernel_rfl
theorem cells65 : Tryz.prog.cellsOf 65 = 2 := by kernel_rfl
theorem cells28 : Tryz.prog.cellsOf 28 = 1 := by kernel_rfl
theorem cells33 : Tryz.prog.cellsOf 33 = 11 := by kernel_rfl
theorem op3 : Opens Tryz.prog 3 Int (fun z => [n z]) (fun _ => True) := (opens_int Tryz.underlying3).to id (fun _ => rfl) (fun _ _ => trivial)
theorem op30 : Opens Tryz.prog 30 Sp Sp.cs (fun _ => True) :=
  (opens_struct Tryz.underlying30 cells30 (fun _ => rfl) (opensF_cons rfl cells3 op3 (fun _ => rfl) (opensF_cons rfl cells3 op3 (fun _ => rfl) (opensF_nil _)))).to (fun a => ⟨a.1, a.2.1⟩) (fun _ => rfl) (fun _ _ => trivial)
theorem op45 : Opens Tryz.prog 45 (List Sp) (fun l => [spS l]) (fun l => l.length < 9223372036854775808) :=
  (opens_slice Tryz.underlying45 cells30 (by decide) op30 (fun _ => rfl)).to id (fun _ => rfl) (fun _ h => h.1)
theorem op124 : Opens Tryz.prog 124 Edg Edg.cs (fun _ => True) :=
  (opens_struct Tryz.underlying124 cells124 (fun _ => rfl) (opensF_cons rfl cells3 op3 (fun _ => rfl) (opensF_cons rfl cells30 op30 (fun _ => rfl) (opensF_nil _)))).to (fun a => ⟨a.1, a.2.1⟩) (fun _ => rfl) (fun _ _ => trivial)
theorem op78 : Opens Tryz.prog 78 (List Edg) (fun l => [edS l]) (fun l => l.length < 9223372036854775808) :=
  (opens_slice Tryz.underlying78 cells124 (by decide) op124 (fun _ => rfl)).to id (fun _ => rfl) (fun _ h => h.1)
theorem op80 : Opens Tryz.prog 80 Nod Nod.cs nodSz :=
  (opens_struct Tryz.underlying80 cells80 (fun _ => rfl) (opensF_cons rfl cells45 op45 (fun _ => rfl) (opensF_cons rfl cells78 op78 (fun _ => rfl) (opensF_nil _)))).to (fun a => ⟨a.1, a.2.1⟩) (fun _ => rfl) (fun _ h => ⟨h.1, h.2.1⟩)
theorem op68 : Opens Tryz.prog 68 (List Nod) (fun l => [stS l]) stgSz :=
  (opens_slice Tryz.underlying68 cells80 (by decide) op80 (fun _ => rfl)).to id (fun _ => rfl) (fun _ h => h)
theorem op22 : Opens Tryz.prog 22 Trk (fun l => [tkS l]) trkSz :=
  (opens_slice Tryz.underlying22 cells68 (by decide) op68 (fun _ => rfl)).to id (fun _ => rfl) (fun _ h => h)
theorem op24 : Opens Tryz.prog 24 Trk (fun l => [tkS l]) trkSz :=
  (opens_struct Tryz.underlying24 cells24 (fun _ => rfl) (opensF_cons rfl cells22 op22 (fun _ => rfl) (opensF_nil _))).to (fun a => a.1) (fun _ => rfl) (fun _ h => h.1)
theorem op61 : Opens Tryz.prog 61 (List (List Sp)) (fun l => [nodS l]) (fun l => l.length < 9223372036854775808 ∧ ∀ x ∈ l, x.length < 9223372036854775808) :=
  (opens_slice Tryz.underlying61 cells45 (by decide) op45 (fun _ => rfl)).to id (fun _ => rfl) (fun _ h => h)
theorem op31 : Opens Tryz.prog 31 (List (List (List Sp))) (fun l => [stgS l]) setsSz :=
  (opens_slice Tryz.underlying31 cells61 (by decide) op61 (fun _ => rfl)).to id (fun _ => rfl) (fun _ h => h)
theorem op26 : Opens Tryz.prog 26 At At.cs (fun _ => True) :=
  (opens_struct Tryz.underlying26 cells26 (fun _ => rfl) (opensF_cons rfl cells3 op3 (fun _ => rfl) (opensF_cons rfl cells3 op3 (fun _ => rfl) (opensF_nil _)))).to (fun a => ⟨a.1, a.2.1⟩) (fun _ => rfl) (fun _ _ => trivial)
theorem op27 : Opens Tryz.prog 27 (List At) (fun l => [atS l]) (fun l => l.length < 9223372036854775808) :=
  (opens_slice Tryz.underlying27 cells26 (by decide) op26 (fun _ => rfl)).to id (fun _ => rfl) (fun _ h => h.1)
theorem op65 : Opens Tryz.prog 65 Lim Lim.cs (fun x => x.vs.length < 9223372036854775808) :=
  (opens_struct Tryz.underlying65 cells65 (fun _ => rfl) (opensF_cons rfl cells3 op3 (fun _ => rfl) (opensF_cons rfl cells45 op45 (fun _ => rfl) (opensF_nil _)))).to (fun a => ⟨a.1, a.2.1⟩) (fun _ => rfl) (fun _ h => h.2.1)
theorem op28 : Opens Tryz.prog 28 (List Lim) (fun l => [liS l]) limSz :=
  (opens_slice Tryz.underlying28 cells65 (by decide) op65 (fun _ => rfl)).to id (fun _ => rfl) (fun _ h => h)
structure Ask where
  stage : Int
  to : Int
  first : Int
  pl : At
  one : List At
  two : List At
  lims : List Lim
  ch : Sp
  sets : List (List (List Sp))
abbrev Ask.cs (x : Ask) : List AV := [n x.stage, n x.to, n x.first, n x.pl.node, n x.pl.val, atS x.one, atS x.two, liS x.lims, n x.ch.lo, n x.ch.hi, stgS x.sets]
def Ask.sz (x : Ask) : Prop := x.one.length < 9223372036854775808 ∧ x.two.length < 9223372036854775808 ∧ limSz x.lims ∧ setsSz x.sets
theorem op33 : Opens Tryz.prog 33 Ask Ask.cs Ask.sz :=
  (opens_struct Tryz.underlying33 cells33 (fun _ => rfl) (opensF_cons rfl cells3 op3 (fun _ => rfl) (opensF_cons rfl cells3 op3 (fun _ => rfl) (opensF_cons rfl cells3 op3 (fun _ => rfl) (opensF_cons rfl cells26 op26 (fun _ => rfl) (opensF_cons rfl cells27 op27 (fun _ => rfl) (opensF_cons rfl cells27 op27 (fun _ => rfl) (opensF_cons rfl cells28 op28 (fun _ => rfl) (opensF_cons rfl cells30 op30 (fun _ => rfl) (opensF_cons rfl cells31 op31 (fun _ => rfl) (opensF_nil _))))))))))).to (fun a => ⟨a.1, a.2.1, a.2.2.1, a.2.2.2.1, a.2.2.2.2.1, a.2.2.2.2.2.1, a.2.2.2.2.2.2.1, a.2.2.2.2.2.2.2.1, a.2.2.2.2.2.2.2.2.1⟩) (fun _ => rfl) (fun _ h => ⟨h.2.2.2.2.1, h.2.2.2.2.2.1, h.2.2.2.2.2.2.1, h.2.2.2.2.2.2.2.2.1⟩)
section
variable {H : Type} {enc : TypeId × Value → H} {w : World} {r : Reach} {base b0 : Nat} {sp : Nat → Bool} {held : Bool} {v : Value} {d : DataW H} {ps : List MemPlace}
theorem open_trk (h : Value.okWide Tryz.prog w r base 24 v) (hx : DataW.Trod enc Tryz.prog w b0 sp held 24 v d ps) : ∃ l : Trk, trkSz l ∧ RV w (fun _ => False) nob [] (trS l) v := by
  obtain ⟨cs, rfl, _⟩ := okWide_struct Tryz.underlying24 h
  exact op24.agg hx
theorem open_ask (h : Value.okWide Tryz.prog w r base 33 v) (hx : DataW.Trod enc Tryz.prog w b0 sp held 33 v d ps) : ∃ l : Ask, Ask.sz l ∧ RV w (fun _ => False) nob [] (.agg l.cs) v := by
  obtain ⟨cs, rfl, _⟩ := okWide_struct Tryz.underlying33 h
  exact op33.agg hx
end
end Go.Proofs.YtahkhnagpdlkiaaGreat
namespace Go.Proofs.YtahkhnagpdlkiaaGreat
open Go.Abs
open Nat (reduceAdd reduceSub reduceLT reduceLeDiff reduceMul reduceEqDiff)
set_option linter.unusedVariables false
set_option linter.unusedSimpArgs false
set_option maxHeartbeats 4000000
set_option maxRecDepth 100000
def c21 : CF := ⟨54,
 (.seq (.ops [
 ⟨some 4,.mv (.c (.bool false)),none⟩] [0,1])
 (.seq (.seq (.ops [
 ⟨some 7,.mv (.t 0),none⟩,
 ⟨some 8,.len (.t 7),none⟩,
 ⟨some 9,.mv (.t 1),none⟩,
 ⟨some 10,.len (.t 9),none⟩,
 ⟨some 11,.bin .neq (.t 8) (.t 10),none⟩] [0,1,11])
 (.cond (.t 11) (.seq (.ops [
 ⟨some 4,.mv (.c (.bool false)),none⟩] [4])
 .ret)
 .skip))
 (.seq (.seq (.ops [
 ⟨some 5,.mv (.c (.int .i64 0)),none⟩] [0,1,5])
 (.block 0 (.loop (.seq (.seq (.ops [
 ⟨some 12,.mv (.t 5),none⟩,
 ⟨some 13,.mv (.t 0),none⟩,
 ⟨some 14,.len (.t 13),none⟩,
 ⟨some 15,.bin .lss (.t 12) (.t 14),none⟩] [0,1,5,15])
 (.cond (.t 15) .skip
 (.exit 0)))
 (.seq (.block 1 (.seq (.seq (.draw [
 ⟨some 18,.mv (.t 0),none⟩,
 ⟨some 19,.mv (.t 5),none⟩,
 ⟨some 20,.iaddr 1 (.t 18) (.t 19),none⟩,
 ⟨some 21,.load none (.t 20),none⟩,
 ⟨some 22,.len (.t 21),none⟩,
 ⟨some 23,.mv (.t 1),none⟩,
 ⟨some 24,.mv (.t 5),none⟩,
 ⟨some 25,.iaddr 1 (.t 23) (.t 24),none⟩,
 ⟨some 26,.load none (.t 25),none⟩,
 ⟨some 27,.len (.t 26),none⟩,
 ⟨some 28,.bin .neq (.t 22) (.t 27),none⟩] [
 ] [0,1,5,28])
 (.cond (.t 28) (.seq (.ops [
 ⟨some 4,.mv (.c (.bool false)),none⟩] [4])
 .ret)
 .skip))
 (.seq (.ops [
 ⟨some 6,.mv (.c (.int .i64 0)),none⟩] [0,1,5,6])
 (.block 2 (.loop (.seq (.seq (.ops [
 ⟨some 29,.mv (.t 6),none⟩,
 ⟨some 30,.mv (.t 0),none⟩,
 ⟨some 31,.mv (.t 5),none⟩,
 ⟨some 32,.iaddr 1 (.t 30) (.t 31),none⟩,
 ⟨some 33,.load none (.t 32),none⟩,
 ⟨some 34,.len (.t 33),none⟩,
 ⟨some 35,.bin .lss (.t 29) (.t 34),none⟩] [0,1,5,6,35])
 (.cond (.t 35) .skip
 (.exit 2)))
 (.seq (.block 3 (.seq (.draw [
 ⟨some 38,.mv (.t 0),none⟩,
 ⟨some 39,.mv (.t 5),none⟩,
 ⟨some 40,.iaddr 1 (.t 38) (.t 39),none⟩,
 ⟨some 41,.load none (.t 40),none⟩,
 ⟨some 42,.mv (.t 6),none⟩,
 ⟨some 43,.iaddr 1 (.t 41) (.t 42),none⟩,
 ⟨some 44,.load none (.t 43),none⟩,
 ⟨some 45,.mv (.t 1),none⟩,
 ⟨some 46,.mv (.t 5),none⟩,
 ⟨some 47,.iaddr 1 (.t 45) (.t 46),none⟩,
 ⟨some 48,.load none (.t 47),none⟩,
 ⟨some 49,.mv (.t 6),none⟩,
 ⟨some 50,.iaddr 1 (.t 48) (.t 49),none⟩,
 ⟨some 51,.load none (.t 50),none⟩,
 ⟨some 52,.call (.f 28) [(.t 44),(.t 51)],none⟩,
 ⟨some 53,.un .not (.t 52),none⟩] [
 ] [0,1,5,6,53])
 (.cond (.t 53) (.seq (.ops [
 ⟨some 4,.mv (.c (.bool false)),none⟩] [4])
 .ret)
 .skip)))
 (.ops [
 ⟨some 36,.mv (.t 6),none⟩,
 ⟨some 37,.bin .add (.t 36) (.c (.int .i64 1)),none⟩,
 ⟨some 6,.mv (.t 37),none⟩] [0,1,5,6]))))))))
 (.ops [
 ⟨some 16,.mv (.t 5),none⟩,
 ⟨some 17,.bin .add (.t 16) (.c (.int .i64 1)),none⟩,
 ⟨some 5,.mv (.t 17),none⟩] [0,1,5]))))))
 (.seq (.ops [
 ⟨some 4,.mv (.c (.bool true)),none⟩] [4])
 .ret)))),
 [.t 4]⟩
def c17 : CF := ⟨112,
 (.seq (.ops [
 ⟨some 1,.box false 24 1 (.t 0),none⟩,
 ⟨some 2,.mv (.c (.bool false)),none⟩] [1])
 (.seq (.seq (.ops [
 ⟨some 6,.faddr 0 (.t 1),none⟩,
 ⟨some 7,.load none (.t 6),none⟩,
 ⟨some 8,.len (.t 7),none⟩,
 ⟨some 9,.bin .gtr (.t 8) (.c (.int .i64 8)),none⟩,
 ⟨some 10,.mv (.t 9),none⟩,
 ⟨some 11,.faddr 0 (.t 1),some (10,true)⟩,
 ⟨some 12,.load none (.t 11),some (10,true)⟩,
 ⟨some 13,.len (.t 12),some (10,true)⟩,
 ⟨some 14,.bin .leq (.t 13) (.c (.int .i64 401)),some (10,true)⟩,
 ⟨some 15,.pick (.t 10) (.t 14) (.c (.bool false)),none⟩,
 ⟨some 16,.mv (.t 15),none⟩,
 ⟨some 17,.faddr 0 (.t 1),some (16,false)⟩,
 ⟨some 18,.load none (.t 17),some (16,false)⟩,
 ⟨some 19,.len (.t 18),some (16,false)⟩,
 ⟨some 20,.bin .gtr (.t 19) (.c (.int .i64 802)),some (16,false)⟩,
 ⟨some 21,.pick (.t 16) (.c (.bool true)) (.t 20),none⟩] [1,21])
 (.cond (.t 21) (.seq (.ops [
 ⟨some 2,.mv (.c (.bool false)),none⟩] [2])
 .ret)
 .skip))
 (.seq (.seq (.ops [
 ⟨some 3,.mv (.c (.int .i64 0)),none⟩] [1,3])
 (.block 0 (.loop (.seq (.seq (.ops [
 ⟨some 22,.mv (.t 3),none⟩,
 ⟨some 23,.faddr 0 (.t 1),none⟩,
 ⟨some 24,.load none (.t 23),none⟩,
 ⟨some 25,.len (.t 24),none⟩,
 ⟨some 26,.bin .lss (.t 22) (.t 25),none⟩] [1,3,26])
 (.cond (.t 26) .skip
 (.exit 0)))
 (.seq (.block 1 (.seq (.seq (.ops [
 ⟨some 29,.faddr 0 (.t 1),none⟩,
 ⟨some 30,.load none (.t 29),none⟩,
 ⟨some 31,.mv (.t 3),none⟩,
 ⟨some 32,.iaddr 1 (.t 30) (.t 31),none⟩,
 ⟨some 33,.load none (.t 32),none⟩,
 ⟨some 34,.len (.t 33),none⟩,
 ⟨some 35,.bin .gtr (.t 34) (.c (.int .i64 6)),none⟩,
 ⟨some 36,.mv (.t 35),none⟩,
 ⟨some 37,.faddr 0 (.t 1),some (36,true)⟩,
 ⟨some 38,.load none (.t 37),some (36,true)⟩,
 ⟨some 39,.mv (.t 3),some (36,true)⟩,
 ⟨some 40,.iaddr 1 (.t 38) (.t 39),some (36,true)⟩,
 ⟨some 41,.load none (.t 40),some (36,true)⟩,
 ⟨some 42,.len (.t 41),some (36,true)⟩,
 ⟨some 43,.bin .leq (.t 42) (.c (.int .i64 4000)),some (36,true)⟩,
 ⟨some 44,.mv (.t 43),some (36,true)⟩,
 ⟨some 45,.faddr 0 (.t 1),some (44,false)⟩,
 ⟨some 46,.load none (.t 45),some (44,false)⟩,
 ⟨some 47,.len (.t 46),some (44,false)⟩,
 ⟨some 48,.bin .gtr (.t 47) (.c (.int .i64 8)),some (44,false)⟩,
 ⟨some 49,.pick (.t 44) (.c (.bool true)) (.t 48),some (36,true)⟩,
 ⟨some 50,.pick (.t 36) (.t 49) (.c (.bool false)),none⟩,
 ⟨some 51,.mv (.t 50),none⟩,
 ⟨some 52,.faddr 0 (.t 1),some (51,false)⟩,
 ⟨some 53,.load none (.t 52),some (51,false)⟩,
 ⟨some 54,.mv (.t 3),some (51,false)⟩,
 ⟨some 55,.iaddr 1 (.t 53) (.t 54),some (51,false)⟩,
 ⟨some 56,.load none (.t 55),some (51,false)⟩,
 ⟨some 57,.len (.t 56),some (51,false)⟩,
 ⟨some 58,.bin .gtr (.t 57) (.c (.int .i64 8000)),some (51,false)⟩,
 ⟨some 59,.pick (.t 51) (.c (.bool true)) (.t 58),none⟩] [1,3,59])
 (.cond (.t 59) (.seq (.ops [
 ⟨some 2,.mv (.c (.bool false)),none⟩] [2])
 .ret)
 .skip))
 (.seq (.ops [
 ⟨some 4,.mv (.c (.int .i64 0)),none⟩] [1,3,4])
 (.block 2 (.loop (.seq (.seq (.ops [
 ⟨some 60,.mv (.t 4),none⟩,
 ⟨some 61,.faddr 0 (.t 1),none⟩,
 ⟨some 62,.load none (.t 61),none⟩,
 ⟨some 63,.mv (.t 3),none⟩,
 ⟨some 64,.iaddr 1 (.t 62) (.t 63),none⟩,
 ⟨some 65,.load none (.t 64),none⟩,
 ⟨some 66,.len (.t 65),none⟩,
 ⟨some 67,.bin .lss (.t 60) (.t 66),none⟩] [1,3,4,67])
 (.cond (.t 67) .skip
 (.exit 2)))
 (.seq (.block 3 (.seq (.ops [
 ⟨some 70,.faddr 0 (.t 1),none⟩,
 ⟨some 71,.load none (.t 70),none⟩,
 ⟨some 72,.mv (.t 3),none⟩,
 ⟨some 73,.iaddr 1 (.t 71) (.t 72),none⟩,
 ⟨some 74,.load none (.t 73),none⟩,
 ⟨some 75,.mv (.t 4),none⟩,
 ⟨some 76,.iaddr 2 (.t 74) (.t 75),none⟩,
 ⟨some 77,.load (some 2) (.t 76),none⟩,
 ⟨some 5,.alloc 80 2 [.slice none 0 0,.slice none 0 0],none⟩,
 ⟨none,.store 2 (.t 5) (.t 77),none⟩] [1,3,4,5])
 (.seq (.ops [
 ⟨some 78,.faddr 0 (.t 5),none⟩,
 ⟨some 79,.load none (.t 78),none⟩,
 ⟨some 80,.len (.t 79),none⟩,
 ⟨some 81,.bin .gtr (.t 80) (.c (.int .i64 8)),none⟩,
 ⟨some 82,.mv (.t 81),none⟩,
 ⟨some 83,.faddr 0 (.t 5),some (82,true)⟩,
 ⟨some 84,.load none (.t 83),some (82,true)⟩,
 ⟨some 85,.len (.t 84),some (82,true)⟩,
 ⟨some 86,.bin .leq (.t 85) (.c (.int .i64 64)),some (82,true)⟩,
 ⟨some 87,.pick (.t 82) (.t 86) (.c (.bool false)),none⟩,
 ⟨some 88,.mv (.t 87),none⟩,
 ⟨some 89,.faddr 0 (.t 5),some (88,false)⟩,
 ⟨some 90,.load none (.t 89),some (88,false)⟩,
 ⟨some 91,.len (.t 90),some (88,false)⟩,
 ⟨some 92,.bin .gtr (.t 91) (.c (.int .i64 128)),some (88,false)⟩,
 ⟨some 93,.pick (.t 88) (.c (.bool true)) (.t 92),none⟩,
 ⟨some 94,.mv (.t 93),none⟩,
 ⟨some 95,.faddr 1 (.t 5),some (94,false)⟩,
 ⟨some 96,.load none (.t 95),some (94,false)⟩,
 ⟨some 97,.len (.t 96),some (94,false)⟩,
 ⟨some 98,.bin .gtr (.t 97) (.c (.int .i64 8)),some (94,false)⟩,
 ⟨some 99,.mv (.t 98),some (94,false)⟩,
 ⟨some 100,.faddr 1 (.t 5),some (99,true)⟩,
 ⟨some 101,.load none (.t 100),some (99,true)⟩,
 ⟨some 102,.len (.t 101),some (99,true)⟩,
 ⟨some 103,.bin .leq (.t 102) (.c (.int .i64 64)),some (99,true)⟩,
 ⟨some 104,.pick (.t 99) (.t 103) (.c (.bool false)),some (94,false)⟩,
 ⟨some 105,.pick (.t 94) (.c (.bool true)) (.t 104),none⟩,
 ⟨some 106,.mv (.t 105),none⟩,
 ⟨some 107,.faddr 1 (.t 5),some (106,false)⟩,
 ⟨some 108,.load none (.t 107),some (106,false)⟩,
 ⟨some 109,.len (.t 108),some (106,false)⟩,
 ⟨some 110,.bin .gtr (.t 109) (.c (.int .i64 128)),some (106,false)⟩,
 ⟨some 111,.pick (.t 106) (.c (.bool true)) (.t 110),none⟩] [1,3,4,111])
 (.cond (.t 111) (.seq (.ops [
 ⟨some 2,.mv (.c (.bool false)),none⟩] [2])
 .ret)
 .skip))))
 (.ops [
 ⟨some 68,.mv (.t 4),none⟩,
 ⟨some 69,.bin .add (.t 68) (.c (.int .i64 1)),none⟩,
 ⟨some 4,.mv (.t 69),none⟩] [1,3,4]))))))))
 (.ops [
 ⟨some 27,.mv (.t 3),none⟩,
 ⟨some 28,.bin .add (.t 27) (.c (.int .i64 1)),none⟩,
 ⟨some 3,.mv (.t 28),none⟩] [1,3]))))))
 (.seq (.ops [
 ⟨some 2,.mv (.c (.bool true)),none⟩] [2])
 .ret)))),
 [.t 2]⟩
theorem k21 : chkF Tryz.prog Tryz.f21 c21 = true := by kernel_rfl
theorem k17 : chkF Tryz.prog Tryz.f17 c17 = true := by kernel_rfl
abbrev manyN (x : Nod) : Prop := ((8 < x.al.length ∧ x.al.length ≤ 64) ∨ 128 < x.al.length) ∨ (8 < x.nx.length ∧ x.nx.length ≤ 64) ∨ 128 < x.nx.length
abbrev manyL (m : Nat) (l : List Nod) : Prop := (6 < l.length ∧ (l.length ≤ 4000 ∨ 8 < m)) ∨ 8000 < l.length
abbrev manyT (m : Nat) : Prop := (8 < m ∧ m ≤ 401) ∨ 802 < m
def fewB (t : Trk) : Bool := !decide (manyT t.length) && t.all fun l => !decide (manyL t.length l) && l.all fun x => !decide (manyN x)
theorem fewB_f1 {t : Trk} (h : manyT t.length) : fewB t = false := by unfold fewB; rw [decide_eq_true h]; rfl
theorem fewB_f {t : Trk} {l : List Nod} (hl : l ∈ t) (h : (!decide (manyL t.length l) && l.all fun x => !decide (manyN x)) = false) : fewB t = false := by
  unfold fewB
  have : (t.all fun l => !decide (manyL t.length l) && l.all fun x => !decide (manyN x)) = false := by
    cases ha : t.all fun l => !decide (manyL t.length l) && l.all fun x => !decide (manyN x) with
    | false => rfl
    | true => rw [List.all_eq_true.1 ha l hl] at h; cases h
  rw [this]; simp
theorem fewB_t {t : Trk} (h1 : ¬ manyT t.length) (h : ∀ l ∈ t, ¬ manyL t.length l ∧ ∀ x ∈ l, ¬ manyN x) : fewB t = true := by
  unfold fewB
  rw [decide_eq_false h1]
  have : (t.all fun l => !decide (manyL t.length l) && l.all fun x => !decide (manyN x)) = true := List.all_eq_true.2 fun l hl => by
    obtain ⟨h2, h3⟩ := h l hl
    rw [decide_eq_false h2]
    have : (l.all fun x => !decide (manyN x)) = true := List.all_eq_true.2 fun x hx => by rw [decide_eq_false (h3 x hx)]; rfl
    rw [this]; rfl
  rw [this]; rfl
theorem few_spec (t : Trk) (hs : trkSz t) : Pure Tryz.prog 17 [trS t] (bl (fewB t)) := by
  refine Pure.of_body Tryz.call17 Tryz.func17 k17 (Nat.le_of_ble_eq_true rfl) ?_
  unfold c17
  have h1 := hs.1
  (repeat' ((first
 | refine AWPC.of_vcn rfl ?_
 | simp (disch := omega) only [wr64, Int.zero_sub]
 | refine AWPC.both (fun _ => ?_) (fun _ => ?_)
 | refine AWPC.imp (fun _ => ?_)
 | (refine .inl ⟨_, _, _, .any, rfl, fun h => absurd h Bool.false_ne_true, ?_⟩; refine owp_of_exs ?_)
 | refine ⟨by omega, ?_⟩
 | refine And.intro (by (intros; first | (simp_all; done) | fail)) ?_
 | fail) <;> try simp only [zT, zV, zS, zU, vcC, kscp, lateX, ex, strp, cnd, binA, kseq, kblk, kret, klp, Abs.one, elems, cells, scalar, eqC, Nat.reduceBEq, reduceAdd, reduceSub, reduceLT, reduceLeDiff, reduceMul, reduceEqDiff, reduceIte]))
  · rename_i h
    rw [fewB_f1 (by unfold manyT; omega)]
    exact Frz.eq rfl (by simp)
  rename_i hT
  refine AWPC.loopE (α := { x : Nat × Sto // x.1 ≤ t.length ∧ ∀ l ∈ t.take x.1, ¬ manyL t.length l ∧ ∀ y ∈ l, ¬ manyN y }) [3] (fun x => [(3, n x.1.1)]) (fun x => x.1.2) (fun x => t.length - x.1.1) ⟨(0, []), Nat.zero_le _, by simp⟩ ?_ rfl ?_
  · (simp only [zT, zV, zS, zU, vcC, kscp, lateX, ex, strp, cnd, binA, kseq, kblk, kret, klp, Abs.one, elems, cells, scalar, eqC, Nat.reduceBEq, reduceAdd, reduceSub, reduceLT, reduceLeDiff, reduceMul, reduceEqDiff, reduceIte]; try simp)
  rintro ⟨⟨k, μ⟩, hk, hk2⟩
  try simp only at hk hk2
  try simp only
  by_cases hlt : k < t.length
  · have htk : t[k]? = some (t.getD k []) := getD_some hlt
    have gtk : (t.map fun l => [stS l]).getD k [] = [stS (t.getD k [])] := getD_map htk
    have hm := List.mem_of_getElem? htk
    have hs2 := hs.2 _ hm
    have hsn := take_snoc htk
    generalize t.getD k [] = L at *
    obtain ⟨hL, hL2⟩ := hs2
    (repeat' ((first
 | refine AWPC.of_vcn rfl ?_
 | simp (disch := omega) only [wr64, Int.zero_sub]
 | refine AWPC.both (fun _ => ?_) (fun _ => ?_)
 | refine AWPC.imp (fun _ => ?_)
 | (refine .inl ⟨_, _, _, .any, rfl, fun h => absurd h Bool.false_ne_true, ?_⟩; refine owp_of_exs ?_)
 | refine ⟨by omega, ?_⟩
 | refine And.intro (by (intros; first | (simp_all; done) | fail)) ?_
 | fail) <;> try simp only [zT, zV, zS, zU, vcC, kscp, lateX, ex, strp, cnd, binA, kseq, kblk, kret, klp, Abs.one, elems, cells, scalar, eqC, Nat.reduceBEq, reduceAdd, reduceSub, reduceLT, reduceLeDiff, reduceMul, reduceEqDiff, reduceIte, gtk]))
    all_goals try (exfalso; omega)
    · rename_i h
      rw [fewB_f hm (by rw [decide_eq_true (by unfold manyL; omega)]; rfl)]
      exact Frz.eq rfl (by simp)
    rename_i hM
    have hM' : ¬ manyL t.length L := by unfold manyL; omega
    refine AWPC.loopE (α := { x : Nat × Sto // x.1 ≤ L.length ∧ ∀ y ∈ L.take x.1, ¬ manyN y }) [4] (fun x => [(4, n x.1.1)]) (fun x => x.1.2) (fun x => L.length - x.1.1) ⟨(0, μ), Nat.zero_le _, by simp⟩ ?_ rfl ?_
    · (simp only [zT, zV, zS, zU, vcC, kscp, lateX, ex, strp, cnd, binA, kseq, kblk, kret, klp, Abs.one, elems, cells, scalar, eqC, Nat.reduceBEq, reduceAdd, reduceSub, reduceLT, reduceLeDiff, reduceMul, reduceEqDiff, reduceIte]; try simp)
    rintro ⟨⟨i, ν⟩, hi, hi2⟩
    try simp only at hi hi2
    try simp only
    by_cases hlt2 : i < L.length
    · obtain ⟨x, hx⟩ : ∃ x, L[i]? = some x := ⟨_, List.getElem?_eq_getElem hlt2⟩
      have hxm := List.mem_of_getElem? hx
      obtain ⟨x1, x2⟩ := hL2 x hxm
      have hsx := take_snoc hx
      (repeat' ((first
 | refine AWPC.of_vcn rfl ?_
 | simp (disch := omega) only [wr64, Int.zero_sub]
 | refine AWPC.both (fun _ => ?_) (fun _ => ?_)
 | refine AWPC.imp (fun _ => ?_)
 | (refine .inl ⟨_, _, _, .any, rfl, fun h => absurd h Bool.false_ne_true, ?_⟩; refine owp_of_exs ?_)
 | refine ⟨by omega, ?_⟩
 | refine And.intro (by (intros; first | (simp_all; done) | fail)) ?_
 | fail) <;> try simp only [zT, zV, zS, zU, vcC, kscp, lateX, ex, strp, cnd, binA, kseq, kblk, kret, klp, Abs.one, elems, cells, scalar, eqC, Nat.reduceBEq, reduceAdd, reduceSub, reduceLT, reduceLeDiff, reduceMul, reduceEqDiff, reduceIte, gtk, getD_map hx, List.cons_append]))
      all_goals try (exfalso; omega)
      · rename_i h
        have hN : manyN x := by unfold manyN; omega
        have hf : (!decide (manyL t.length L) && L.all fun x => !decide (manyN x)) = false := by
          rw [Bool.and_eq_false_iff]
          refine .inr ?_
          cases ha : L.all fun x => !decide (manyN x) with
          | false => rfl
          | true => have := List.all_eq_true.1 ha x hxm; rw [decide_eq_true hN] at this; cases this
        rw [fewB_f hm hf]
        exact Frz.eq rfl (by simp)
      · rename_i h
        have hN : ¬ manyN x := by unfold manyN; omega
        exact ⟨⟨(i + 1, ν ++ [some [⟨80, 2, [Nod.cs x], none⟩]]), hlt2, fun y hy => by
          rw [hsx] at hy
          rcases List.mem_append.1 hy with h | h
          · exact hi2 y h
          · rw [List.mem_singleton.1 h]; exact hN⟩, rfl, rfl, by simp only; omega⟩
    · obtain rfl : i = L.length := by omega
      rw [List.take_length] at hi2
      (repeat' ((first
 | refine AWPC.of_vcn rfl ?_
 | simp (disch := omega) only [wr64, Int.zero_sub]
 | refine AWPC.both (fun _ => ?_) (fun _ => ?_)
 | refine AWPC.imp (fun _ => ?_)
 | (refine .inl ⟨_, _, _, .any, rfl, fun h => absurd h Bool.false_ne_true, ?_⟩; refine owp_of_exs ?_)
 | refine ⟨by omega, ?_⟩
 | refine And.intro (by (intros; first | (simp_all; done) | fail)) ?_
 | fail) <;> try simp only [zT, zV, zS, zU, vcC, kscp, lateX, ex, strp, cnd, binA, kseq, kblk, kret, klp, Abs.one, elems, cells, scalar, eqC, Nat.reduceBEq, reduceAdd, reduceSub, reduceLT, reduceLeDiff, reduceMul, reduceEqDiff, reduceIte, gtk]))
      all_goals try (exfalso; omega)
      exact ⟨⟨(k + 1, ν), hlt, fun l hl => by
        rw [hsn] at hl
        rcases List.mem_append.1 hl with h | h
        · exact hk2 l h
        · rw [List.mem_singleton.1 h]
          exact ⟨hM', hi2⟩⟩, rfl, rfl, by simp only; omega⟩
  · obtain rfl : k = t.length := by omega
    rw [List.take_length] at hk2
    rw [fewB_t (by unfold manyT; omega) hk2]
    (repeat' ((first
 | refine AWPC.of_vcn rfl ?_
 | simp (disch := omega) only [wr64, Int.zero_sub]
 | refine AWPC.both (fun _ => ?_) (fun _ => ?_)
 | refine AWPC.imp (fun _ => ?_)
 | (refine .inl ⟨_, _, _, .any, rfl, fun h => absurd h Bool.false_ne_true, ?_⟩; refine owp_of_exs ?_)
 | refine ⟨by omega, ?_⟩
 | refine And.intro (by (intros; first | (simp_all; done) | fail)) ?_
 | fail) <;> try simp only [zT, zV, zS, zU, vcC, kscp, lateX, ex, strp, cnd, binA, kseq, kblk, kret, klp, Abs.one, elems, cells, scalar, eqC, Nat.reduceBEq, reduceAdd, reduceSub, reduceLT, reduceLeDiff, reduceMul, reduceEqDiff, reduceIte]))
    all_goals try (exfalso; omega)
    exact Frz.eq rfl (by simp)
theorem SameSets_spec (p q : List (List (List Sp))) (hp : setsSz p) (hq : setsSz q) : Pure Tryz.prog 21 [stgS p, stgS q] (bl (decide (p = q))) := by
  refine Pure.of_body Tryz.call21 Tryz.func21 k21 (Nat.le_of_ble_eq_true rfl) ?_
  unfold c21
  obtain ⟨hpl, hpx⟩ := hp
  obtain ⟨hql, hqx⟩ := hq
  (repeat' ((first
 | refine AWPC.of_vcn rfl ?_
 | simp (disch := omega) only [wr64, Int.zero_sub]
 | refine AWPC.both (fun _ => ?_) (fun _ => ?_)
 | refine AWPC.imp (fun _ => ?_)
 | (refine .inl ⟨_, _, _, .any, rfl, fun h => absurd h Bool.false_ne_true, ?_⟩; refine owp_of_exs ?_)
 | refine ⟨by omega, ?_⟩
 | refine And.intro (by (intros; first | (simp_all; done) | fail)) ?_
 | fail) <;> try simp only [zT, zV, zS, zU, vcC, kscp, lateX, ex, strp, cnd, binA, kseq, kblk, kret, klp, Abs.one, elems, cells, scalar, eqC, Nat.reduceBEq, reduceAdd, reduceSub, reduceLT, reduceLeDiff, reduceMul, reduceEqDiff, reduceIte]))
  · rename_i h
    rw [decide_eq_false (fun e => by rw [e] at h; simp at h)]
    exact Frz.eq rfl (by simp)
  rename_i h
  have hlen : p.length = q.length := by omega
  refine AWPC.loopE (α := { y : Nat // y ≤ p.length ∧ p.take y = q.take y }) [5] (fun y => [(5, n y.1)]) (fun y => []) (fun y => p.length - y.1) ⟨0, Nat.zero_le _, rfl⟩ ?_ rfl ?_
  · (simp only [zT, zV, zS, zU, vcC, kscp, lateX, ex, strp, cnd, binA, kseq, kblk, kret, klp, Abs.one, elems, cells, scalar, eqC, Nat.reduceBEq, reduceAdd, reduceSub, reduceLT, reduceLeDiff, reduceMul, reduceEqDiff, reduceIte]; try simp)
  rintro ⟨i, hi, hI⟩
  try simp only at hi hI
  try simp only
  by_cases hlt : i < p.length
  · obtain ⟨x, hx⟩ : ∃ x, p[i]? = some x := ⟨_, List.getElem?_eq_getElem hlt⟩
    obtain ⟨y, hy⟩ : ∃ y, q[i]? = some y := ⟨_, List.getElem?_eq_getElem (by omega)⟩
    obtain ⟨x1, x2⟩ := hpx x (List.mem_of_getElem? hx)
    obtain ⟨y1, y2⟩ := hqx y (List.mem_of_getElem? hy)
    have gx : (p.map fun l => [nodS l]).getD i [] = [nodS x] := getD_map hx
    have gy : (q.map fun l => [nodS l]).getD i [] = [nodS y] := getD_map hy
    have hne : x ≠ y → decide (p = q) = false := fun h => decide_eq_false fun e => h (by rw [e, hy] at hx; exact (Option.some.inj hx).symm)
    (repeat' ((first
 | refine AWPC.of_vcn rfl ?_
 | simp (disch := omega) only [wr64, Int.zero_sub]
 | refine AWPC.both (fun _ => ?_) (fun _ => ?_)
 | refine AWPC.imp (fun _ => ?_)
 | (refine .inl ⟨_, _, _, .any, rfl, fun h => absurd h Bool.false_ne_true, ?_⟩; refine owp_of_exs ?_)
 | refine ⟨by omega, ?_⟩
 | refine And.intro (by (intros; first | (simp_all; done) | fail)) ?_
 | fail) <;> try simp only [zT, zV, zS, zU, vcC, kscp, lateX, ex, strp, cnd, binA, kseq, kblk, kret, klp, Abs.one, elems, cells, scalar, eqC, Nat.reduceBEq, reduceAdd, reduceSub, reduceLT, reduceLeDiff, reduceMul, reduceEqDiff, reduceIte, gx, gy]))
    all_goals try (exfalso; omega)
    · rename_i h2
      rw [hne fun e => by rw [e] at h2; simp at h2]
      exact Frz.eq rfl (by simp)
    rename_i h2
    have hlen2 : x.length = y.length := by omega
    refine AWPC.loopE (α := { z : Nat // z ≤ x.length ∧ x.take z = y.take z }) [6] (fun z => [(6, n z.1)]) (fun z => []) (fun z => x.length - z.1) ⟨0, Nat.zero_le _, rfl⟩ ?_ rfl ?_
    · (simp only [zT, zV, zS, zU, vcC, kscp, lateX, ex, strp, cnd, binA, kseq, kblk, kret, klp, Abs.one, elems, cells, scalar, eqC, Nat.reduceBEq, reduceAdd, reduceSub, reduceLT, reduceLeDiff, reduceMul, reduceEqDiff, reduceIte]; try simp)
    rintro ⟨j, hj, hJ⟩
    try simp only at hj hJ
    try simp only
    by_cases hlt2 : j < x.length
    · obtain ⟨u, hu⟩ : ∃ u, x[j]? = some u := ⟨_, List.getElem?_eq_getElem hlt2⟩
      obtain ⟨v, hv⟩ : ∃ v, y[j]? = some v := ⟨_, List.getElem?_eq_getElem (by omega)⟩
      have gu : (x.map fun l => [spS l]).getD j [] = [spS u] := getD_map hu
      have gv : (y.map fun l => [spS l]).getD j [] = [spS v] := getD_map hv
      have hss := SameSpans_spec u v (x2 u (List.mem_of_getElem? hu)) (y2 v (List.mem_of_getElem? hv))
      by_cases huv : u = v
      · rw [decide_eq_true huv] at hss
        (repeat' ((first
 | refine AWPC.of_vcn rfl ?_
 | simp (disch := omega) only [wr64, Int.zero_sub]
 | refine AWPC.both (fun _ => ?_) (fun _ => ?_)
 | refine AWPC.imp (fun _ => ?_)
 | ((repeat (refine And.intro (by (intros; first | omega | (simp_all; done) | fail)) ?_)); (first | ((first | refine .inl ⟨_, _, _, _, rfl, fun _hc => ⟨by simp (maxDischargeDepth := 9) <;> assumption, hss⟩, ?_⟩ | refine ⟨_, _, _, _, rfl, fun _hc => ⟨by simp (maxDischargeDepth := 9) <;> assumption, hss⟩, ?_⟩); (first | refine owp_of_exs ?_ | refine pre_of_exd ?_ | refine pre_of_exe ?_ | refine pre_of_exv ?_)) | refine .inl ⟨_, _, _, _, rfl, ⟨by simp (maxDischargeDepth := 9) <;> assumption, hss⟩, ?_⟩))
 | (refine .inl ⟨_, _, _, .any, rfl, fun h => absurd h Bool.false_ne_true, ?_⟩; refine owp_of_exs ?_)
 | refine ⟨by omega, ?_⟩
 | refine And.intro (by (intros; first | (simp_all; done) | fail)) ?_
 | fail) <;> try simp only [zT, zV, zS, zU, vcC, kscp, lateX, ex, strp, cnd, binA, kseq, kblk, kret, klp, Abs.one, elems, cells, scalar, eqC, Nat.reduceBEq, reduceAdd, reduceSub, reduceLT, reduceLeDiff, reduceMul, reduceEqDiff, reduceIte, gx, gy, gu, gv]))
        all_goals try (exfalso; omega)
        exact ⟨⟨j + 1, hlt2, by rw [List.take_add_one, List.take_add_one, hJ, hu, hv, huv]⟩, by simp, by simp only; omega⟩
      · rw [decide_eq_false huv] at hss
        have hxy : x ≠ y := fun e => huv (by rw [e, hv] at hu; exact (Option.some.inj hu).symm)
        (repeat' ((first
 | refine AWPC.of_vcn rfl ?_
 | simp (disch := omega) only [wr64, Int.zero_sub]
 | refine AWPC.both (fun _ => ?_) (fun _ => ?_)
 | refine AWPC.imp (fun _ => ?_)
 | ((repeat (refine And.intro (by (intros; first | omega | (simp_all; done) | fail)) ?_)); (first | ((first | refine .inl ⟨_, _, _, _, rfl, fun _hc => ⟨by simp (maxDischargeDepth := 9) <;> assumption, hss⟩, ?_⟩ | refine ⟨_, _, _, _, rfl, fun _hc => ⟨by simp (maxDischargeDepth := 9) <;> assumption, hss⟩, ?_⟩); (first | refine owp_of_exs ?_ | refine pre_of_exd ?_ | refine pre_of_exe ?_ | refine pre_of_exv ?_)) | refine .inl ⟨_, _, _, _, rfl, ⟨by simp (maxDischargeDepth := 9) <;> assumption, hss⟩, ?_⟩))
 | (refine .inl ⟨_, _, _, .any, rfl, fun h => absurd h Bool.false_ne_true, ?_⟩; refine owp_of_exs ?_)
 | refine ⟨by omega, ?_⟩
 | refine And.intro (by (intros; first | (simp_all; done) | fail)) ?_
 | fail) <;> try simp only [zT, zV, zS, zU, vcC, kscp, lateX, ex, strp, cnd, binA, kseq, kblk, kret, klp, Abs.one, elems, cells, scalar, eqC, Nat.reduceBEq, reduceAdd, reduceSub, reduceLT, reduceLeDiff, reduceMul, reduceEqDiff, reduceIte, gx, gy, gu, gv]))
        all_goals try (exfalso; omega)
        rw [hne hxy]
        exact Frz.eq rfl (by simp)
    · obtain rfl : j = x.length := by omega
      rw [List.take_length, hlen2, List.take_length] at hJ
      (repeat' ((first
 | refine AWPC.of_vcn rfl ?_
 | simp (disch := omega) only [wr64, Int.zero_sub]
 | refine AWPC.both (fun _ => ?_) (fun _ => ?_)
 | refine AWPC.imp (fun _ => ?_)
 | (refine .inl ⟨_, _, _, .any, rfl, fun h => absurd h Bool.false_ne_true, ?_⟩; refine owp_of_exs ?_)
 | refine ⟨by omega, ?_⟩
 | refine And.intro (by (intros; first | (simp_all; done) | fail)) ?_
 | fail) <;> try simp only [zT, zV, zS, zU, vcC, kscp, lateX, ex, strp, cnd, binA, kseq, kblk, kret, klp, Abs.one, elems, cells, scalar, eqC, Nat.reduceBEq, reduceAdd, reduceSub, reduceLT, reduceLeDiff, reduceMul, reduceEqDiff, reduceIte, gx, gy]))
      all_goals try (exfalso; omega)
      exact ⟨⟨i + 1, hlt, by rw [List.take_add_one, List.take_add_one, hI, hx, hy, hJ]⟩, by simp, by simp only; omega⟩
  · obtain rfl : i = p.length := by omega
    rw [List.take_length, hlen, List.take_length] at hI
    (repeat' ((first
 | refine AWPC.of_vcn rfl ?_
 | simp (disch := omega) only [wr64, Int.zero_sub]
 | refine AWPC.both (fun _ => ?_) (fun _ => ?_)
 | refine AWPC.imp (fun _ => ?_)
 | (refine .inl ⟨_, _, _, .any, rfl, fun h => absurd h Bool.false_ne_true, ?_⟩; refine owp_of_exs ?_)
 | refine ⟨by omega, ?_⟩
 | refine And.intro (by (intros; first | (simp_all; done) | fail)) ?_
 | fail) <;> try simp only [zT, zV, zS, zU, vcC, kscp, lateX, ex, strp, cnd, binA, kseq, kblk, kret, klp, Abs.one, elems, cells, scalar, eqC, Nat.reduceBEq, reduceAdd, reduceSub, reduceLT, reduceLeDiff, reduceMul, reduceEqDiff, reduceIte]))
    all_goals try (exfalso; omega)
    rw [decide_eq_true hI]
    exact Frz.eq rfl (by simp)
def c120 : CF := ⟨49,
 (.seq (.ops [
 ⟨some 4,.mv (.c (.bool false)),none⟩] [0,1])
 (.seq (.seq (.ops [
 ⟨some 6,.mv (.t 0),none⟩,
 ⟨some 7,.len (.t 6),none⟩,
 ⟨some 8,.bin .gtr (.t 7) (.c (.int .i64 64)),none⟩] [0,1,8])
 (.cond (.t 8) (.seq (.ops [
 ⟨some 4,.mv (.c (.bool false)),none⟩] [4])
 .ret)
 .skip))
 (.seq (.seq (.ops [
 ⟨some 5,.mv (.c (.int .i64 0)),none⟩] [0,1,5])
 (.block 0 (.loop (.seq (.seq (.ops [
 ⟨some 9,.mv (.t 5),none⟩,
 ⟨some 10,.mv (.t 0),none⟩,
 ⟨some 11,.len (.t 10),none⟩,
 ⟨some 12,.bin .lss (.t 9) (.t 11),none⟩] [0,1,5,12])
 (.cond (.t 12) .skip
 (.exit 0)))
 (.seq (.block 1 (.seq (.draw [
 ⟨some 15,.mv (.t 0),none⟩,
 ⟨some 16,.mv (.t 5),none⟩,
 ⟨some 17,.iaddr 3 (.t 15) (.t 16),none⟩,
 ⟨some 18,.faddr 0 (.t 17),none⟩,
 ⟨some 19,.load none (.t 18),none⟩,
 ⟨some 20,.mv (.t 1),none⟩,
 ⟨some 21,.bin .sub (.t 20) (.c (.int .i64 1)),none⟩,
 ⟨some 22,.call (.f 82) [(.t 19),(.c (.int .i64 0)),(.t 21)],none⟩,
 ⟨some 23,.un .not (.t 22),none⟩,
 ⟨some 24,.mv (.t 23),none⟩,
 ⟨some 25,.mv (.t 0),some (24,false)⟩,
 ⟨some 26,.mv (.t 5),some (24,false)⟩,
 ⟨some 27,.iaddr 3 (.t 25) (.t 26),some (24,false)⟩,
 ⟨some 28,.faddr 1 (.t 27),some (24,false)⟩,
 ⟨some 29,.faddr 0 (.t 28),some (24,false)⟩,
 ⟨some 30,.load none (.t 29),some (24,false)⟩,
 ⟨some 31,.mv (.t 0),some (24,false)⟩,
 ⟨some 32,.mv (.t 5),some (24,false)⟩,
 ⟨some 33,.iaddr 3 (.t 31) (.t 32),some (24,false)⟩,
 ⟨some 34,.faddr 1 (.t 33),some (24,false)⟩,
 ⟨some 35,.faddr 1 (.t 34),some (24,false)⟩,
 ⟨some 36,.load none (.t 35),some (24,false)⟩,
 ⟨some 37,.call (.f 82) [(.t 30),(.c (.int .i64 (-100000))),(.t 36)],some (24,false)⟩,
 ⟨some 38,.un .not (.t 37),some (24,false)⟩,
 ⟨some 39,.pick (.t 24) (.c (.bool true)) (.t 38),none⟩,
 ⟨some 40,.mv (.t 39),none⟩,
 ⟨some 41,.mv (.t 0),some (40,false)⟩,
 ⟨some 42,.mv (.t 5),some (40,false)⟩,
 ⟨some 43,.iaddr 3 (.t 41) (.t 42),some (40,false)⟩,
 ⟨some 44,.faddr 1 (.t 43),some (40,false)⟩,
 ⟨some 45,.faddr 1 (.t 44),some (40,false)⟩,
 ⟨some 46,.load none (.t 45),some (40,false)⟩,
 ⟨some 47,.bin .gtr (.t 46) (.c (.int .i64 100000)),some (40,false)⟩,
 ⟨some 48,.pick (.t 40) (.c (.bool true)) (.t 47),none⟩] [
 ] [0,1,5,48])
 (.cond (.t 48) (.seq (.ops [
 ⟨some 4,.mv (.c (.bool false)),none⟩] [4])
 .ret)
 .skip)))
 (.ops [
 ⟨some 13,.mv (.t 5),none⟩,
 ⟨some 14,.bin .add (.t 13) (.c (.int .i64 1)),none⟩,
 ⟨some 5,.mv (.t 14),none⟩] [0,1,5]))))))
 (.seq (.ops [
 ⟨some 4,.mv (.c (.bool true)),none⟩] [4])
 .ret)))),
 [.t 4]⟩
def c58 : CF := ⟨77,
 (.seq (.ops [
 ⟨some 1,.box false 24 1 (.t 0),none⟩,
 ⟨some 2,.mv (.c (.int .i64 0)),none⟩] [1])
 (.seq (.seq (.ops [
 ⟨some 8,.faddr 0 (.t 1),none⟩,
 ⟨some 9,.load none (.t 8),none⟩,
 ⟨some 10,.len (.t 9),none⟩,
 ⟨some 11,.call (.f 82) [(.t 10),(.c (.int .i64 1)),(.c (.int .i64 401))],none⟩,
 ⟨some 12,.un .not (.t 11),none⟩] [1,12])
 (.cond (.t 12) (.seq (.ops [
 ⟨some 2,.mv (.c (.int .i64 40)),none⟩] [2])
 .ret)
 .skip))
 (.seq (.seq (.ops [
 ⟨some 3,.mv (.c (.int .i64 0)),none⟩] [1,3])
 (.block 0 (.loop (.seq (.seq (.ops [
 ⟨some 13,.mv (.t 3),none⟩,
 ⟨some 14,.faddr 0 (.t 1),none⟩,
 ⟨some 15,.load none (.t 14),none⟩,
 ⟨some 16,.len (.t 15),none⟩,
 ⟨some 17,.bin .lss (.t 13) (.t 16),none⟩] [1,3,17])
 (.cond (.t 17) .skip
 (.exit 0)))
 (.seq (.block 1 (.seq (.ops [
 ⟨some 20,.faddr 0 (.t 1),none⟩,
 ⟨some 21,.load none (.t 20),none⟩,
 ⟨some 22,.mv (.t 3),none⟩,
 ⟨some 23,.iaddr 1 (.t 21) (.t 22),none⟩,
 ⟨some 24,.load none (.t 23),none⟩,
 ⟨some 25,.len (.t 24),none⟩,
 ⟨some 26,.call (.f 82) [(.t 25),(.c (.int .i64 1)),(.c (.int .i64 4000))],none⟩,
 ⟨some 27,.un .not (.t 26),none⟩] [1,3,27])
 (.cond (.t 27) (.seq (.ops [
 ⟨some 2,.mv (.c (.int .i64 40)),none⟩] [2])
 .ret)
 .skip)))
 (.ops [
 ⟨some 18,.mv (.t 3),none⟩,
 ⟨some 19,.bin .add (.t 18) (.c (.int .i64 1)),none⟩,
 ⟨some 3,.mv (.t 19),none⟩] [1,3]))))))
 (.seq (.seq (.ops [
 ⟨some 4,.mv (.c (.int .i64 0)),none⟩] [1,4])
 (.block 2 (.loop (.seq (.seq (.ops [
 ⟨some 28,.mv (.t 4),none⟩,
 ⟨some 29,.faddr 0 (.t 1),none⟩,
 ⟨some 30,.load none (.t 29),none⟩,
 ⟨some 31,.len (.t 30),none⟩,
 ⟨some 32,.bin .lss (.t 28) (.t 31),none⟩] [1,4,32])
 (.cond (.t 32) .skip
 (.exit 2)))
 (.seq (.block 3 (.seq (.ops [
 ⟨some 5,.mv (.c (.int .i64 0)),none⟩] [1,4,5])
 (.seq (.seq (.ops [
 ⟨some 35,.mv (.t 4),none⟩,
 ⟨some 36,.bin .add (.t 35) (.c (.int .i64 1)),none⟩,
 ⟨some 37,.faddr 0 (.t 1),none⟩,
 ⟨some 38,.load none (.t 37),none⟩,
 ⟨some 39,.len (.t 38),none⟩,
 ⟨some 40,.bin .lss (.t 36) (.t 39),none⟩] [1,4,5,40])
 (.cond (.t 40) (.ops [
 ⟨some 41,.faddr 0 (.t 1),none⟩,
 ⟨some 42,.load none (.t 41),none⟩,
 ⟨some 43,.mv (.t 4),none⟩,
 ⟨some 44,.bin .add (.t 43) (.c (.int .i64 1)),none⟩,
 ⟨some 45,.iaddr 1 (.t 42) (.t 44),none⟩,
 ⟨some 46,.load none (.t 45),none⟩,
 ⟨some 47,.len (.t 46),none⟩,
 ⟨some 5,.mv (.t 47),none⟩] [1,4,5])
 .skip))
 (.seq (.ops [
 ⟨some 6,.mv (.c (.int .i64 0)),none⟩] [1,4,5,6])
 (.block 4 (.loop (.seq (.seq (.ops [
 ⟨some 48,.mv (.t 6),none⟩,
 ⟨some 49,.faddr 0 (.t 1),none⟩,
 ⟨some 50,.load none (.t 49),none⟩,
 ⟨some 51,.mv (.t 4),none⟩,
 ⟨some 52,.iaddr 1 (.t 50) (.t 51),none⟩,
 ⟨some 53,.load none (.t 52),none⟩,
 ⟨some 54,.len (.t 53),none⟩,
 ⟨some 55,.bin .lss (.t 48) (.t 54),none⟩] [1,4,5,6,55])
 (.cond (.t 55) .skip
 (.exit 4)))
 (.seq (.block 5 (.seq (.ops [
 ⟨some 58,.faddr 0 (.t 1),none⟩,
 ⟨some 59,.load none (.t 58),none⟩,
 ⟨some 60,.mv (.t 4),none⟩,
 ⟨some 61,.iaddr 1 (.t 59) (.t 60),none⟩,
 ⟨some 62,.load none (.t 61),none⟩,
 ⟨some 63,.mv (.t 6),none⟩,
 ⟨some 64,.iaddr 2 (.t 62) (.t 63),none⟩,
 ⟨some 65,.load (some 2) (.t 64),none⟩,
 ⟨some 7,.alloc 80 2 [.slice none 0 0,.slice none 0 0],none⟩,
 ⟨none,.store 2 (.t 7) (.t 65),none⟩] [1,4,5,6,7])
 (.seq (.ops [
 ⟨some 66,.faddr 0 (.t 7),none⟩,
 ⟨some 67,.load none (.t 66),none⟩,
 ⟨some 68,.call (.f 60) [(.t 67)],none⟩,
 ⟨some 69,.bin .neq (.t 68) (.c (.int .i64 0)),none⟩,
 ⟨some 70,.mv (.t 69),none⟩,
 ⟨some 71,.faddr 1 (.t 7),some (70,false)⟩,
 ⟨some 72,.load none (.t 71),some (70,false)⟩,
 ⟨some 73,.mv (.t 5),some (70,false)⟩,
 ⟨some 74,.call (.f 120) [(.t 72),(.t 73)],some (70,false)⟩,
 ⟨some 75,.un .not (.t 74),some (70,false)⟩,
 ⟨some 76,.pick (.t 70) (.c (.bool true)) (.t 75),none⟩] [1,4,5,6,76])
 (.cond (.t 76) (.seq (.ops [
 ⟨some 2,.mv (.c (.int .i64 40)),none⟩] [2])
 .ret)
 .skip))))
 (.ops [
 ⟨some 56,.mv (.t 6),none⟩,
 ⟨some 57,.bin .add (.t 56) (.c (.int .i64 1)),none⟩,
 ⟨some 6,.mv (.t 57),none⟩] [1,4,5,6])))))))))
 (.ops [
 ⟨some 33,.mv (.t 4),none⟩,
 ⟨some 34,.bin .add (.t 33) (.c (.int .i64 1)),none⟩,
 ⟨some 4,.mv (.t 34),none⟩] [1,4]))))))
 (.seq (.ops [
 ⟨some 2,.mv (.c (.int .i64 0)),none⟩] [2])
 .ret))))),
 [.t 2]⟩
theorem k120 : chkF Tryz.prog Tryz.f120 c120 = true := by kernel_rfl
theorem k58 : chkF Tryz.prog Tryz.f58 c58 = true := by kernel_rfl
def edgsOk (m : Nat) (l : List Edg) : Prop := l.length ≤ 64 ∧ ∀ e ∈ l, edgOk m e
theorem edges_spec (l : List Edg) (m : Nat) (hl : l.length < 9223372036854775808) (hm : m < 9223372036854775808) : Pure Tryz.prog 120 [edS l, n m] (bl (tr (edgsOk m l))) := by
  refine Pure.of_body Tryz.call120 Tryz.func120 k120 (Nat.le_of_ble_eq_true rfl) ?_
  unfold c120
  have hno : ¬ edgsOk m l → tr (edgsOk m l) = false := tr_0
  (repeat' ((first
 | refine AWPC.of_vcn rfl ?_
 | simp (disch := omega) only [wr64, Int.zero_sub]
 | refine AWPC.both (fun _ => ?_) (fun _ => ?_)
 | refine AWPC.imp (fun _ => ?_)
 | (refine .inl ⟨_, _, _, .any, rfl, fun h => absurd h Bool.false_ne_true, ?_⟩; refine owp_of_exs ?_)
 | refine ⟨by omega, ?_⟩
 | refine And.intro (by (intros; first | (simp_all; done) | fail)) ?_
 | fail) <;> try simp only [zT, zV, zS, zU, vcC, kscp, lateX, ex, strp, cnd, binA, kseq, kblk, kret, klp, Abs.one, elems, cells, scalar, eqC, Nat.reduceBEq, reduceAdd, reduceSub, reduceLT, reduceLeDiff, reduceMul, reduceEqDiff, reduceIte]))
  · rename_i h
    rw [hno fun e => by have := e.1; omega]
    exact Frz.eq rfl (by simp)
  rename_i h64
  refine AWPC.loopE (α := { y : Nat // y ≤ l.length ∧ ∀ e ∈ l.take y, edgOk m e }) [5] (fun y => [(5, n y.1)]) (fun y => []) (fun y => l.length - y.1) ⟨0, Nat.zero_le _, by simp⟩ ?_ rfl ?_
  · (simp only [zT, zV, zS, zU, vcC, kscp, lateX, ex, strp, cnd, binA, kseq, kblk, kret, klp, Abs.one, elems, cells, scalar, eqC, Nat.reduceBEq, reduceAdd, reduceSub, reduceLT, reduceLeDiff, reduceMul, reduceEqDiff, reduceIte]; try simp)
  rintro ⟨i, hi, hI⟩
  try simp only at hi hI
  try simp only
  by_cases hlt : i < l.length
  · obtain ⟨e, he⟩ : ∃ e, l[i]? = some e := ⟨_, List.getElem?_eq_getElem hlt⟩
    have hem := List.mem_of_getElem? he
    have hsn := take_snoc he
    have w1 := within_spec e.to 0 ((m : Int) - 1)
    have w2 := within_spec e.ch.lo (-100000) e.ch.hi
    have hok : edgOk m e ↔ (0 ≤ e.to ∧ e.to ≤ (m : Int) - 1) ∧ (-100000 ≤ e.ch.lo ∧ e.ch.lo ≤ e.ch.hi) ∧ e.ch.hi ≤ 100000 := by unfold edgOk chOk; omega
    have hbad : ¬ edgOk m e → tr (edgsOk m l) = false := fun h => hno fun g => h (g.2 e hem)
    by_cases h1 : 0 ≤ e.to ∧ e.to ≤ (m : Int) - 1
    · rw [decide_eq_true h1] at w1
      by_cases h2 : -100000 ≤ e.ch.lo ∧ e.ch.lo ≤ e.ch.hi
      · rw [decide_eq_true h2] at w2
        (repeat' ((first
 | refine AWPC.of_vcn rfl ?_
 | simp (disch := omega) only [wr64, Int.zero_sub]
 | refine AWPC.both (fun _ => ?_) (fun _ => ?_)
 | refine AWPC.imp (fun _ => ?_)
 | ((repeat (refine And.intro (by (intros; first | omega | (simp_all; done) | fail)) ?_)); (first | ((first | refine .inl ⟨_, _, _, _, rfl, fun _hc => ⟨by simp (maxDischargeDepth := 9) <;> assumption, (by first | exact w1 | exact w2)⟩, ?_⟩ | refine ⟨_, _, _, _, rfl, fun _hc => ⟨by simp (maxDischargeDepth := 9) <;> assumption, (by first | exact w1 | exact w2)⟩, ?_⟩); (first | refine owp_of_exs ?_ | refine pre_of_exd ?_ | refine pre_of_exe ?_ | refine pre_of_exv ?_)) | refine .inl ⟨_, _, _, _, rfl, ⟨by simp (maxDischargeDepth := 9) <;> assumption, (by first | exact w1 | exact w2)⟩, ?_⟩))
 | (refine .inl ⟨_, _, _, .any, rfl, fun h => absurd h Bool.false_ne_true, ?_⟩; refine owp_of_exs ?_)
 | refine ⟨by omega, ?_⟩
 | refine And.intro (by (intros; first | (simp_all; done) | fail)) ?_
 | fail) <;> try simp only [zT, zV, zS, zU, vcC, kscp, lateX, ex, strp, cnd, binA, kseq, kblk, kret, klp, Abs.one, elems, cells, scalar, eqC, Nat.reduceBEq, reduceAdd, reduceSub, reduceLT, reduceLeDiff, reduceMul, reduceEqDiff, reduceIte, getD_map he]))
        all_goals try (exfalso; omega)
        · rename_i h3
          rw [hbad fun h => by have := (hok.1 h).2.2; omega]
          exact Frz.eq rfl (by simp)
        · rename_i h3
          exact ⟨⟨i + 1, hlt, fun y hy => by
            rw [hsn] at hy
            rcases List.mem_append.1 hy with h | h
            · exact hI y h
            · rw [List.mem_singleton.1 h]; exact hok.2 ⟨h1, h2, by omega⟩⟩, rfl, by simp only; omega⟩
      · rw [decide_eq_false h2] at w2
        (repeat' ((first
 | refine AWPC.of_vcn rfl ?_
 | simp (disch := omega) only [wr64, Int.zero_sub]
 | refine AWPC.both (fun _ => ?_) (fun _ => ?_)
 | refine AWPC.imp (fun _ => ?_)
 | ((repeat (refine And.intro (by (intros; first | omega | (simp_all; done) | fail)) ?_)); (first | ((first | refine .inl ⟨_, _, _, _, rfl, fun _hc => ⟨by simp (maxDischargeDepth := 9) <;> assumption, (by first | exact w1 | exact w2)⟩, ?_⟩ | refine ⟨_, _, _, _, rfl, fun _hc => ⟨by simp (maxDischargeDepth := 9) <;> assumption, (by first | exact w1 | exact w2)⟩, ?_⟩); (first | refine owp_of_exs ?_ | refine pre_of_exd ?_ | refine pre_of_exe ?_ | refine pre_of_exv ?_)) | refine .inl ⟨_, _, _, _, rfl, ⟨by simp (maxDischargeDepth := 9) <;> assumption, (by first | exact w1 | exact w2)⟩, ?_⟩))
 | (refine .inl ⟨_, _, _, .any, rfl, fun h => absurd h Bool.false_ne_true, ?_⟩; refine owp_of_exs ?_)
 | refine ⟨by omega, ?_⟩
 | refine And.intro (by (intros; first | (simp_all; done) | fail)) ?_
 | fail) <;> try simp only [zT, zV, zS, zU, vcC, kscp, lateX, ex, strp, cnd, binA, kseq, kblk, kret, klp, Abs.one, elems, cells, scalar, eqC, Nat.reduceBEq, reduceAdd, reduceSub, reduceLT, reduceLeDiff, reduceMul, reduceEqDiff, reduceIte, getD_map he]))
        all_goals try (exfalso; omega)
        rw [hbad fun h => h2 (hok.1 h).2.1]
        exact Frz.eq rfl (by simp)
    · rw [decide_eq_false h1] at w1
      (repeat' ((first
 | refine AWPC.of_vcn rfl ?_
 | simp (disch := omega) only [wr64, Int.zero_sub]
 | refine AWPC.both (fun _ => ?_) (fun _ => ?_)
 | refine AWPC.imp (fun _ => ?_)
 | ((repeat (refine And.intro (by (intros; first | omega | (simp_all; done) | fail)) ?_)); (first | ((first | refine .inl ⟨_, _, _, _, rfl, fun _hc => ⟨by simp (maxDischargeDepth := 9) <;> assumption, (by first | exact w1 | exact w2)⟩, ?_⟩ | refine ⟨_, _, _, _, rfl, fun _hc => ⟨by simp (maxDischargeDepth := 9) <;> assumption, (by first | exact w1 | exact w2)⟩, ?_⟩); (first | refine owp_of_exs ?_ | refine pre_of_exd ?_ | refine pre_of_exe ?_ | refine pre_of_exv ?_)) | refine .inl ⟨_, _, _, _, rfl, ⟨by simp (maxDischargeDepth := 9) <;> assumption, (by first | exact w1 | exact w2)⟩, ?_⟩))
 | (refine .inl ⟨_, _, _, .any, rfl, fun h => absurd h Bool.false_ne_true, ?_⟩; refine owp_of_exs ?_)
 | refine ⟨by omega, ?_⟩
 | refine And.intro (by (intros; first | (simp_all; done) | fail)) ?_
 | fail) <;> try simp only [zT, zV, zS, zU, vcC, kscp, lateX, ex, strp, cnd, binA, kseq, kblk, kret, klp, Abs.one, elems, cells, scalar, eqC, Nat.reduceBEq, reduceAdd, reduceSub, reduceLT, reduceLeDiff, reduceMul, reduceEqDiff, reduceIte, getD_map he]))
      all_goals try (exfalso; omega)
      rw [hbad fun h => h1 (hok.1 h).1]
      exact Frz.eq rfl (by simp)
  · obtain rfl : i = l.length := by omega
    rw [List.take_length] at hI
    have : tr (edgsOk m l) = true := tr_1 ⟨by omega, hI⟩
    rw [this]
    (repeat' ((first
 | refine AWPC.of_vcn rfl ?_
 | simp (disch := omega) only [wr64, Int.zero_sub]
 | refine AWPC.both (fun _ => ?_) (fun _ => ?_)
 | refine AWPC.imp (fun _ => ?_)
 | (refine .inl ⟨_, _, _, .any, rfl, fun h => absurd h Bool.false_ne_true, ?_⟩; refine owp_of_exs ?_)
 | refine ⟨by omega, ?_⟩
 | refine And.intro (by (intros; first | (simp_all; done) | fail)) ?_
 | fail) <;> try simp only [zT, zV, zS, zU, vcC, kscp, lateX, ex, strp, cnd, binA, kseq, kblk, kret, klp, Abs.one, elems, cells, scalar, eqC, Nat.reduceBEq, reduceAdd, reduceSub, reduceLT, reduceLeDiff, reduceMul, reduceEqDiff, reduceIte]))
    all_goals try (exfalso; omega)
    exact Frz.eq rfl (by simp)
theorem rCheck_spec (t : Trk) (hs : trkSz t) : Pure Tryz.prog 58 [trS t] (n (if tr (valid t) = true then 0 else 40)) := by
  refine Pure.of_body Tryz.call58 Tryz.func58 k58 (Nat.le_of_ble_eq_true rfl) ?_
  unfold c58
  have h1 := hs.1
  have hno : ¬ valid t → (if tr (valid t) = true then (0 : Int) else 40) = 40 := fun h => by rw [tr_0 h]; rfl
  have hyes : valid t → (if tr (valid t) = true then (0 : Int) else 40) = 0 := fun h => by rw [tr_1 h]; rfl
  generalize (if tr (valid t) = true then (0 : Int) else 40) = R at *
  have w0 := within_spec (t.length : Int) 1 401
  by_cases h0 : 1 ≤ (t.length : Int) ∧ (t.length : Int) ≤ 401
  · rw [decide_eq_true h0] at w0
    (repeat' ((first
 | refine AWPC.of_vcn rfl ?_
 | simp (disch := omega) only [wr64, Int.zero_sub]
 | refine AWPC.both (fun _ => ?_) (fun _ => ?_)
 | refine AWPC.imp (fun _ => ?_)
 | ((repeat (refine And.intro (by (intros; first | omega | (simp_all; done) | fail)) ?_)); (first | ((first | refine .inl ⟨_, _, _, _, rfl, fun _hc => ⟨by simp (maxDischargeDepth := 9) <;> assumption, w0⟩, ?_⟩ | refine ⟨_, _, _, _, rfl, fun _hc => ⟨by simp (maxDischargeDepth := 9) <;> assumption, w0⟩, ?_⟩); (first | refine owp_of_exs ?_ | refine pre_of_exd ?_ | refine pre_of_exe ?_ | refine pre_of_exv ?_)) | refine .inl ⟨_, _, _, _, rfl, ⟨by simp (maxDischargeDepth := 9) <;> assumption, w0⟩, ?_⟩))
 | (refine .inl ⟨_, _, _, .any, rfl, fun h => absurd h Bool.false_ne_true, ?_⟩; refine owp_of_exs ?_)
 | refine ⟨by omega, ?_⟩
 | refine And.intro (by (intros; first | (simp_all; done) | fail)) ?_
 | fail) <;> try simp only [zT, zV, zS, zU, vcC, kscp, lateX, ex, strp, cnd, binA, kseq, kblk, kret, klp, Abs.one, elems, cells, scalar, eqC, Nat.reduceBEq, reduceAdd, reduceSub, reduceLT, reduceLeDiff, reduceMul, reduceEqDiff, reduceIte]))
    all_goals try (exfalso; omega)
    refine AWPC.loopE (α := { y : Nat // y ≤ t.length ∧ ∀ k, k < y → 1 ≤ wd t k ∧ wd t k ≤ 4000 }) [3] (fun y => [(3, n y.1)]) (fun y => []) (fun y => t.length - y.1) ⟨0, Nat.zero_le _, by simp⟩ ?_ rfl ?_
    · (simp only [zT, zV, zS, zU, vcC, kscp, lateX, ex, strp, cnd, binA, kseq, kblk, kret, klp, Abs.one, elems, cells, scalar, eqC, Nat.reduceBEq, reduceAdd, reduceSub, reduceLT, reduceLeDiff, reduceMul, reduceEqDiff, reduceIte]; try simp)
    rintro ⟨i, hi, hI⟩
    try simp only at hi hI
    try simp only
    by_cases hlt : i < t.length
    · have htk : t[i]? = some (t.getD i []) := getD_some hlt
      have gtk : (t.map fun l => [stS l]).getD i [] = [stS (t.getD i [])] := getD_map htk
      have hm := List.mem_of_getElem? htk
      have hs2 := (hs.2 _ hm).1
      have hww : wd t i = (t.getD i []).length := rfl
      have w1 := within_spec ((t.getD i []).length : Int) 1 4000
      have hbad : ¬ (1 ≤ wd t i ∧ wd t i ≤ 4000) → ¬ valid t := fun h v => h ⟨(valid_stg v hlt).1, (valid_stg v hlt).2.1⟩
      generalize t.getD i [] = L at *
      by_cases h2 : 1 ≤ (L.length : Int) ∧ (L.length : Int) ≤ 4000
      · rw [decide_eq_true h2] at w1
        (repeat' ((first
 | refine AWPC.of_vcn rfl ?_
 | simp (disch := omega) only [wr64, Int.zero_sub]
 | refine AWPC.both (fun _ => ?_) (fun _ => ?_)
 | refine AWPC.imp (fun _ => ?_)
 | ((repeat (refine And.intro (by (intros; first | omega | (simp_all; done) | fail)) ?_)); (first | ((first | refine .inl ⟨_, _, _, _, rfl, fun _hc => ⟨by simp (maxDischargeDepth := 9) <;> assumption, w1⟩, ?_⟩ | refine ⟨_, _, _, _, rfl, fun _hc => ⟨by simp (maxDischargeDepth := 9) <;> assumption, w1⟩, ?_⟩); (first | refine owp_of_exs ?_ | refine pre_of_exd ?_ | refine pre_of_exe ?_ | refine pre_of_exv ?_)) | refine .inl ⟨_, _, _, _, rfl, ⟨by simp (maxDischargeDepth := 9) <;> assumption, w1⟩, ?_⟩))
 | (refine .inl ⟨_, _, _, .any, rfl, fun h => absurd h Bool.false_ne_true, ?_⟩; refine owp_of_exs ?_)
 | refine ⟨by omega, ?_⟩
 | refine And.intro (by (intros; first | (simp_all; done) | fail)) ?_
 | fail) <;> try simp only [zT, zV, zS, zU, vcC, kscp, lateX, ex, strp, cnd, binA, kseq, kblk, kret, klp, Abs.one, elems, cells, scalar, eqC, Nat.reduceBEq, reduceAdd, reduceSub, reduceLT, reduceLeDiff, reduceMul, reduceEqDiff, reduceIte, gtk]))
        all_goals try (exfalso; omega)
        exact ⟨⟨i + 1, hlt, fun k hk => by
          by_cases hki : k = i
          · subst hki; omega
          · exact hI k (by omega)⟩, rfl, by simp only; omega⟩
      · rw [decide_eq_false h2] at w1
        (repeat' ((first
 | refine AWPC.of_vcn rfl ?_
 | simp (disch := omega) only [wr64, Int.zero_sub]
 | refine AWPC.both (fun _ => ?_) (fun _ => ?_)
 | refine AWPC.imp (fun _ => ?_)
 | ((repeat (refine And.intro (by (intros; first | omega | (simp_all; done) | fail)) ?_)); (first | ((first | refine .inl ⟨_, _, _, _, rfl, fun _hc => ⟨by simp (maxDischargeDepth := 9) <;> assumption, w1⟩, ?_⟩ | refine ⟨_, _, _, _, rfl, fun _hc => ⟨by simp (maxDischargeDepth := 9) <;> assumption, w1⟩, ?_⟩); (first | refine owp_of_exs ?_ | refine pre_of_exd ?_ | refine pre_of_exe ?_ | refine pre_of_exv ?_)) | refine .inl ⟨_, _, _, _, rfl, ⟨by simp (maxDischargeDepth := 9) <;> assumption, w1⟩, ?_⟩))
 | (refine .inl ⟨_, _, _, .any, rfl, fun h => absurd h Bool.false_ne_true, ?_⟩; refine owp_of_exs ?_)
 | refine ⟨by omega, ?_⟩
 | refine And.intro (by (intros; first | (simp_all; done) | fail)) ?_
 | fail) <;> try simp only [zT, zV, zS, zU, vcC, kscp, lateX, ex, strp, cnd, binA, kseq, kblk, kret, klp, Abs.one, elems, cells, scalar, eqC, Nat.reduceBEq, reduceAdd, reduceSub, reduceLT, reduceLeDiff, reduceMul, reduceEqDiff, reduceIte, gtk]))
        all_goals try (exfalso; omega)
        rw [hno (hbad (by omega))]
        exact Frz.eq rfl (by simp)
    · obtain rfl : i = t.length := by omega
      (repeat' ((first
 | refine AWPC.of_vcn rfl ?_
 | simp (disch := omega) only [wr64, Int.zero_sub]
 | refine AWPC.both (fun _ => ?_) (fun _ => ?_)
 | refine AWPC.imp (fun _ => ?_)
 | (refine .inl ⟨_, _, _, .any, rfl, fun h => absurd h Bool.false_ne_true, ?_⟩; refine owp_of_exs ?_)
 | refine ⟨by omega, ?_⟩
 | refine And.intro (by (intros; first | (simp_all; done) | fail)) ?_
 | fail) <;> try simp only [zT, zV, zS, zU, vcC, kscp, lateX, ex, strp, cnd, binA, kseq, kblk, kret, klp, Abs.one, elems, cells, scalar, eqC, Nat.reduceBEq, reduceAdd, reduceSub, reduceLT, reduceLeDiff, reduceMul, reduceEqDiff, reduceIte]))
      all_goals try (exfalso; omega)
      refine AWPC.loopE (α := { y : Nat × Sto // y.1 ≤ t.length ∧ ∀ k, k < y.1 → ∀ x ∈ t.getD k [], nodOk (wd t (k + 1)) x }) [4] (fun y => [(4, n y.1.1)]) (fun y => y.1.2) (fun y => t.length - y.1.1) ⟨(0, []), Nat.zero_le _, by simp⟩ ?_ rfl ?_
      · (simp only [zT, zV, zS, zU, vcC, kscp, lateX, ex, strp, cnd, binA, kseq, kblk, kret, klp, Abs.one, elems, cells, scalar, eqC, Nat.reduceBEq, reduceAdd, reduceSub, reduceLT, reduceLeDiff, reduceMul, reduceEqDiff, reduceIte]; try simp)
      rintro ⟨⟨k, μ⟩, hk, hK⟩
      try simp only at hk hK
      try simp only
      by_cases hlt : k < t.length
      · have htk : t[k]? = some (t.getD k []) := getD_some hlt
        have gtk : (t.map fun l => [stS l]).getD k [] = [stS (t.getD k [])] := getD_map htk
        have gt1 : k + 1 < t.length → (t.map fun l => [stS l]).getD (k + 1) [] = [stS (t.getD (k + 1) [])] := fun h => getD_map (getD_some h)
        have hm := List.mem_of_getElem? htk
        obtain ⟨hL, hL2⟩ := hs.2 _ hm
        have hww : wd t (k + 1) = (t.getD (k + 1) []).length := rfl
        have hw4 : wd t (k + 1) ≤ 4000 := by
          by_cases h : k + 1 < t.length
          · exact (hI (k + 1) h).2
          · rw [hww, List.getD_eq_getElem?_getD, List.getElem?_eq_none (by omega)]; exact Nat.zero_le _
        have hbad : ∀ x ∈ t.getD k [], ¬ nodOk (wd t (k + 1)) x → ¬ valid t := fun x hx h v => h ((valid_stg v hlt).2.2 x hx)
        have hw0 : ¬ k + 1 < t.length → wd t (k + 1) = 0 := fun h => by rw [hww, List.getD_eq_getElem?_getD, List.getElem?_eq_none (by omega)]; rfl
        have ek : ((k : Int) + 1).toNat = k + 1 := by omega
        obtain ⟨M, hM⟩ : ∃ M, M = wd t (k + 1) := ⟨_, rfl⟩
        rw [← hM] at hw4 hbad hw0
        have hK2 : (∀ x ∈ t.getD k [], nodOk M x) → ∀ k', k' < k + 1 → ∀ x ∈ t.getD k' [], nodOk (wd t (k' + 1)) x := fun h k' hk' => by
          by_cases e : k' = k
          · subst e; rw [← hM]; exact h
          · exact hK k' (by omega)
        rw [hww] at hM
        generalize hLL : t.getD k [] = L at *
        by_cases hk1 : k + 1 < t.length
        case' pos => (have g1 := gt1 hk1; (repeat' ((first
 | refine AWPC.of_vcn rfl ?_
 | simp (disch := omega) only [wr64, Int.zero_sub]
 | refine AWPC.both (fun _ => ?_) (fun _ => ?_)
 | refine AWPC.imp (fun _ => ?_)
 | (refine .inl ⟨_, _, _, .any, rfl, fun h => absurd h Bool.false_ne_true, ?_⟩; refine owp_of_exs ?_)
 | refine ⟨by omega, ?_⟩
 | refine And.intro (by (intros; first | (simp_all; done) | fail)) ?_
 | fail) <;> try simp only [zT, zV, zS, zU, vcC, kscp, lateX, ex, strp, cnd, binA, kseq, kblk, kret, klp, Abs.one, elems, cells, scalar, eqC, Nat.reduceBEq, reduceAdd, reduceSub, reduceLT, reduceLeDiff, reduceMul, reduceEqDiff, reduceIte, gtk, g1, ek])))
        case' neg => (have hM0 := hw0 hk1; (repeat' ((first
 | refine AWPC.of_vcn rfl ?_
 | simp (disch := omega) only [wr64, Int.zero_sub]
 | refine AWPC.both (fun _ => ?_) (fun _ => ?_)
 | refine AWPC.imp (fun _ => ?_)
 | (refine .inl ⟨_, _, _, .any, rfl, fun h => absurd h Bool.false_ne_true, ?_⟩; refine owp_of_exs ?_)
 | refine ⟨by omega, ?_⟩
 | refine And.intro (by (intros; first | (simp_all; done) | fail)) ?_
 | fail) <;> try simp only [zT, zV, zS, zU, vcC, kscp, lateX, ex, strp, cnd, binA, kseq, kblk, kret, klp, Abs.one, elems, cells, scalar, eqC, Nat.reduceBEq, reduceAdd, reduceSub, reduceLT, reduceLeDiff, reduceMul, reduceEqDiff, reduceIte, gtk, ek])))
        all_goals try (exfalso; omega)
        all_goals refine AWPC.loopE (α := { y : Nat × Sto // y.1 ≤ L.length ∧ ∀ x ∈ L.take y.1, nodOk M x }) [5, 6] (fun y => [(5, n (M : Int)), (6, n y.1.1)]) (fun y => y.1.2) (fun y => L.length - y.1.1) ⟨(0, μ), Nat.zero_le _, by simp⟩ (by (simp only [zT, zV, zS, zU, vcC, kscp, lateX, ex, strp, cnd, binA, kseq, kblk, kret, klp, Abs.one, elems, cells, scalar, eqC, Nat.reduceBEq, reduceAdd, reduceSub, reduceLT, reduceLeDiff, reduceMul, reduceEqDiff, reduceIte]; try simp); first | done | omega | (rw [hM, List.getD_eq_getElem?_getD]) | fail) rfl ?_
        all_goals (
          rintro ⟨⟨i, ν⟩, hi, hi2⟩
          try simp only at hi hi2
          try simp only
          by_cases hlt2 : i < L.length
          · obtain ⟨x, hx⟩ : ∃ x, L[i]? = some x := ⟨_, List.getElem?_eq_getElem hlt2⟩
            have hxm := List.mem_of_getElem? hx
            obtain ⟨x1, x2⟩ := hL2 x hxm
            have hsx := take_snoc hx
            have c1 := rCheckSet_spec x.al x1
            have c2 := edges_spec x.nx M x2 (by omega)
            have hbx := hbad x hxm
            by_cases hsm : small x.al
            · rw [tr_1 hsm] at c1
              by_cases he : edgsOk M x.nx
              · rw [tr_1 he] at c2
                simp only [if_true] at c1
                (repeat' ((first
 | refine AWPC.of_vcn rfl ?_
 | simp (disch := omega) only [wr64, Int.zero_sub]
 | refine AWPC.both (fun _ => ?_) (fun _ => ?_)
 | refine AWPC.imp (fun _ => ?_)
 | ((repeat (refine And.intro (by (intros; first | omega | (simp_all; done) | fail)) ?_)); (first | ((first | refine .inl ⟨_, _, _, _, rfl, fun _hc => ⟨by simp (maxDischargeDepth := 9) <;> assumption, (by first | exact c1 | exact c2)⟩, ?_⟩ | refine ⟨_, _, _, _, rfl, fun _hc => ⟨by simp (maxDischargeDepth := 9) <;> assumption, (by first | exact c1 | exact c2)⟩, ?_⟩); (first | refine owp_of_exs ?_ | refine pre_of_exd ?_ | refine pre_of_exe ?_ | refine pre_of_exv ?_)) | refine .inl ⟨_, _, _, _, rfl, ⟨by simp (maxDischargeDepth := 9) <;> assumption, (by first | exact c1 | exact c2)⟩, ?_⟩))
 | (refine .inl ⟨_, _, _, .any, rfl, fun h => absurd h Bool.false_ne_true, ?_⟩; refine owp_of_exs ?_)
 | refine ⟨by omega, ?_⟩
 | refine And.intro (by (intros; first | (simp_all; done) | fail)) ?_
 | fail) <;> try simp only [zT, zV, zS, zU, vcC, kscp, lateX, ex, strp, cnd, binA, kseq, kblk, kret, klp, Abs.one, elems, cells, scalar, eqC, Nat.reduceBEq, reduceAdd, reduceSub, reduceLT, reduceLeDiff, reduceMul, reduceEqDiff, reduceIte, gtk, getD_map hx, List.cons_append]))
                all_goals try (exfalso; omega)
                exact ⟨⟨(i + 1, ν ++ [some [⟨80, 2, [Nod.cs x], none⟩]]), hlt2, fun y hy => by
                  rw [hsx] at hy
                  rcases List.mem_append.1 hy with h | h
                  · exact hi2 y h
                  · rw [List.mem_singleton.1 h]; exact ⟨hsm, he.1, he.2⟩⟩, rfl, rfl, by simp only; omega⟩
              · rw [tr_0 he] at c2
                simp only [if_true] at c1
                (repeat' ((first
 | refine AWPC.of_vcn rfl ?_
 | simp (disch := omega) only [wr64, Int.zero_sub]
 | refine AWPC.both (fun _ => ?_) (fun _ => ?_)
 | refine AWPC.imp (fun _ => ?_)
 | ((repeat (refine And.intro (by (intros; first | omega | (simp_all; done) | fail)) ?_)); (first | ((first | refine .inl ⟨_, _, _, _, rfl, fun _hc => ⟨by simp (maxDischargeDepth := 9) <;> assumption, (by first | exact c1 | exact c2)⟩, ?_⟩ | refine ⟨_, _, _, _, rfl, fun _hc => ⟨by simp (maxDischargeDepth := 9) <;> assumption, (by first | exact c1 | exact c2)⟩, ?_⟩); (first | refine owp_of_exs ?_ | refine pre_of_exd ?_ | refine pre_of_exe ?_ | refine pre_of_exv ?_)) | refine .inl ⟨_, _, _, _, rfl, ⟨by simp (maxDischargeDepth := 9) <;> assumption, (by first | exact c1 | exact c2)⟩, ?_⟩))
 | (refine .inl ⟨_, _, _, .any, rfl, fun h => absurd h Bool.false_ne_true, ?_⟩; refine owp_of_exs ?_)
 | refine ⟨by omega, ?_⟩
 | refine And.intro (by (intros; first | (simp_all; done) | fail)) ?_
 | fail) <;> try simp only [zT, zV, zS, zU, vcC, kscp, lateX, ex, strp, cnd, binA, kseq, kblk, kret, klp, Abs.one, elems, cells, scalar, eqC, Nat.reduceBEq, reduceAdd, reduceSub, reduceLT, reduceLeDiff, reduceMul, reduceEqDiff, reduceIte, gtk, getD_map hx, List.cons_append]))
                all_goals try (exfalso; omega)
                rw [hno (hbx fun h => he ⟨h.2.1, h.2.2⟩)]
                exact Frz.eq rfl (by simp)
            · rw [tr_0 hsm] at c1
              simp only [Bool.false_eq_true, if_false] at c1
              (repeat' ((first
 | refine AWPC.of_vcn rfl ?_
 | simp (disch := omega) only [wr64, Int.zero_sub]
 | refine AWPC.both (fun _ => ?_) (fun _ => ?_)
 | refine AWPC.imp (fun _ => ?_)
 | ((repeat (refine And.intro (by (intros; first | omega | (simp_all; done) | fail)) ?_)); (first | ((first | refine .inl ⟨_, _, _, _, rfl, fun _hc => ⟨by simp (maxDischargeDepth := 9) <;> assumption, (by first | exact c1 | exact c2)⟩, ?_⟩ | refine ⟨_, _, _, _, rfl, fun _hc => ⟨by simp (maxDischargeDepth := 9) <;> assumption, (by first | exact c1 | exact c2)⟩, ?_⟩); (first | refine owp_of_exs ?_ | refine pre_of_exd ?_ | refine pre_of_exe ?_ | refine pre_of_exv ?_)) | refine .inl ⟨_, _, _, _, rfl, ⟨by simp (maxDischargeDepth := 9) <;> assumption, (by first | exact c1 | exact c2)⟩, ?_⟩))
 | (refine .inl ⟨_, _, _, .any, rfl, fun h => absurd h Bool.false_ne_true, ?_⟩; refine owp_of_exs ?_)
 | refine ⟨by omega, ?_⟩
 | refine And.intro (by (intros; first | (simp_all; done) | fail)) ?_
 | fail) <;> try simp only [zT, zV, zS, zU, vcC, kscp, lateX, ex, strp, cnd, binA, kseq, kblk, kret, klp, Abs.one, elems, cells, scalar, eqC, Nat.reduceBEq, reduceAdd, reduceSub, reduceLT, reduceLeDiff, reduceMul, reduceEqDiff, reduceIte, gtk, getD_map hx, List.cons_append]))
              all_goals try (exfalso; omega)
              rw [hno (hbx fun h => hsm h.1)]
              exact Frz.eq rfl (by simp)
          · obtain rfl : i = L.length := by omega
            rw [List.take_length] at hi2
            (repeat' ((first
 | refine AWPC.of_vcn rfl ?_
 | simp (disch := omega) only [wr64, Int.zero_sub]
 | refine AWPC.both (fun _ => ?_) (fun _ => ?_)
 | refine AWPC.imp (fun _ => ?_)
 | (refine .inl ⟨_, _, _, .any, rfl, fun h => absurd h Bool.false_ne_true, ?_⟩; refine owp_of_exs ?_)
 | refine ⟨by omega, ?_⟩
 | refine And.intro (by (intros; first | (simp_all; done) | fail)) ?_
 | fail) <;> try simp only [zT, zV, zS, zU, vcC, kscp, lateX, ex, strp, cnd, binA, kseq, kblk, kret, klp, Abs.one, elems, cells, scalar, eqC, Nat.reduceBEq, reduceAdd, reduceSub, reduceLT, reduceLeDiff, reduceMul, reduceEqDiff, reduceIte, gtk]))
            all_goals try (exfalso; omega)
            exact ⟨⟨(k + 1, ν), hlt, hK2 hi2⟩, rfl, rfl, by simp only; omega⟩)
      · obtain rfl : k = t.length := by omega
        have hv : valid t := ⟨by omega, by omega, fun k hk => ⟨(hI k hk).1, (hI k hk).2, hK k hk⟩⟩
        rw [hyes hv]
        (repeat' ((first
 | refine AWPC.of_vcn rfl ?_
 | simp (disch := omega) only [wr64, Int.zero_sub]
 | refine AWPC.both (fun _ => ?_) (fun _ => ?_)
 | refine AWPC.imp (fun _ => ?_)
 | (refine .inl ⟨_, _, _, .any, rfl, fun h => absurd h Bool.false_ne_true, ?_⟩; refine owp_of_exs ?_)
 | refine ⟨by omega, ?_⟩
 | refine And.intro (by (intros; first | (simp_all; done) | fail)) ?_
 | fail) <;> try simp only [zT, zV, zS, zU, vcC, kscp, lateX, ex, strp, cnd, binA, kseq, kblk, kret, klp, Abs.one, elems, cells, scalar, eqC, Nat.reduceBEq, reduceAdd, reduceSub, reduceLT, reduceLeDiff, reduceMul, reduceEqDiff, reduceIte]))
        all_goals try (exfalso; omega)
        exact Frz.eq rfl (by simp)
  · rw [decide_eq_false h0] at w0
    (repeat' ((first
 | refine AWPC.of_vcn rfl ?_
 | simp (disch := omega) only [wr64, Int.zero_sub]
 | refine AWPC.both (fun _ => ?_) (fun _ => ?_)
 | refine AWPC.imp (fun _ => ?_)
 | ((repeat (refine And.intro (by (intros; first | omega | (simp_all; done) | fail)) ?_)); (first | ((first | refine .inl ⟨_, _, _, _, rfl, fun _hc => ⟨by simp (maxDischargeDepth := 9) <;> assumption, w0⟩, ?_⟩ | refine ⟨_, _, _, _, rfl, fun _hc => ⟨by simp (maxDischargeDepth := 9) <;> assumption, w0⟩, ?_⟩); (first | refine owp_of_exs ?_ | refine pre_of_exd ?_ | refine pre_of_exe ?_ | refine pre_of_exv ?_)) | refine .inl ⟨_, _, _, _, rfl, ⟨by simp (maxDischargeDepth := 9) <;> assumption, w0⟩, ?_⟩))
 | (refine .inl ⟨_, _, _, .any, rfl, fun h => absurd h Bool.false_ne_true, ?_⟩; refine owp_of_exs ?_)
 | refine ⟨by omega, ?_⟩
 | refine And.intro (by (intros; first | (simp_all; done) | fail)) ?_
 | fail) <;> try simp only [zT, zV, zS, zU, vcC, kscp, lateX, ex, strp, cnd, binA, kseq, kblk, kret, klp, Abs.one, elems, cells, scalar, eqC, Nat.reduceBEq, reduceAdd, reduceSub, reduceLT, reduceLeDiff, reduceMul, reduceEqDiff, reduceIte]))
    all_goals try (exfalso; omega)
    rw [hno fun v => h0 (by have := v.1; have := v.2.1; omega)]
    exact Frz.eq rfl (by simp)
def c85 : CF := ⟨32,
 (.seq (.ops [
 ⟨some 2,.box false 24 1 (.t 0),none⟩,
 ⟨some 4,.mv (.c (.slice none 0 0)),none⟩] [1,2])
 (.seq (.ops [
 ⟨some 5,.mv (.c (.slice none 0 0)),none⟩] [1,2,5])
 (.seq (.seq (.ops [
 ⟨some 6,.mv (.c (.int .i64 0)),none⟩] [1,2,5,6])
 (.block 0 (.loop (.seq (.seq (.ops [
 ⟨some 7,.mv (.t 6),none⟩,
 ⟨some 8,.faddr 0 (.t 2),none⟩,
 ⟨some 9,.load none (.t 8),none⟩,
 ⟨some 10,.mv (.t 1),none⟩,
 ⟨some 11,.iaddr 1 (.t 9) (.t 10),none⟩,
 ⟨some 12,.load none (.t 11),none⟩,
 ⟨some 13,.len (.t 12),none⟩,
 ⟨some 14,.bin .lss (.t 7) (.t 13),none⟩] [1,2,5,6,14])
 (.cond (.t 14) .skip
 (.exit 0)))
 (.seq (.block 1 (.ops [
 ⟨some 17,.mv (.t 5),none⟩,
 ⟨some 18,.bsl true 30 2 0 [] [],none⟩,
 ⟨some 19,.faddr 0 (.t 2),none⟩,
 ⟨some 20,.load none (.t 19),none⟩,
 ⟨some 21,.mv (.t 1),none⟩,
 ⟨some 22,.iaddr 1 (.t 20) (.t 21),none⟩,
 ⟨some 23,.load none (.t 22),none⟩,
 ⟨some 24,.mv (.t 6),none⟩,
 ⟨some 25,.iaddr 2 (.t 23) (.t 24),none⟩,
 ⟨some 26,.faddr 0 (.t 25),none⟩,
 ⟨some 27,.load none (.t 26),none⟩,
 ⟨some 28,.app 30 2 16 (.t 18) (.t 27),none⟩,
 ⟨some 29,.bsl false 45 1 1 [.slice none 0 0] [(0,1,(.t 28))],none⟩,
 ⟨some 30,.app 45 1 24 (.t 17) (.t 29),none⟩,
 ⟨some 5,.mv (.t 30),none⟩] [1,2,5,6]))
 (.ops [
 ⟨some 15,.mv (.t 6),none⟩,
 ⟨some 16,.bin .add (.t 15) (.c (.int .i64 1)),none⟩,
 ⟨some 6,.mv (.t 16),none⟩] [1,2,5,6]))))))
 (.seq (.ops [
 ⟨some 31,.mv (.t 5),none⟩,
 ⟨some 4,.mv (.t 31),none⟩] [4])
 .ret)))),
 [.t 4]⟩
def c116 : CF := ⟨86,
 (.seq (.ops [
 ⟨some 3,.box false 24 1 (.t 0),none⟩,
 ⟨some 6,.mv (.c (.slice none 0 0)),none⟩] [1,2,3])
 (.seq (.ops [
 ⟨some 11,.faddr 0 (.t 3),none⟩,
 ⟨some 12,.load none (.t 11),none⟩,
 ⟨some 13,.mv (.t 1),none⟩,
 ⟨some 14,.bin .add (.t 13) (.c (.int .i64 1)),none⟩,
 ⟨some 15,.iaddr 1 (.t 12) (.t 14),none⟩,
 ⟨some 16,.load none (.t 15),none⟩,
 ⟨some 17,.len (.t 16),none⟩,
 ⟨some 18,.mksl 45 1 24 [.slice none 0 0] (.t 17) (.t 17),none⟩,
 ⟨some 7,.mv (.t 18),none⟩] [1,2,3,7])
 (.seq (.seq (.ops [
 ⟨some 8,.mv (.c (.int .i64 0)),none⟩] [1,2,3,7,8])
 (.block 0 (.loop (.seq (.seq (.ops [
 ⟨some 19,.mv (.t 8),none⟩,
 ⟨some 20,.faddr 0 (.t 3),none⟩,
 ⟨some 21,.load none (.t 20),none⟩,
 ⟨some 22,.mv (.t 1),none⟩,
 ⟨some 23,.iaddr 1 (.t 21) (.t 22),none⟩,
 ⟨some 24,.load none (.t 23),none⟩,
 ⟨some 25,.len (.t 24),none⟩,
 ⟨some 26,.bin .lss (.t 19) (.t 25),none⟩] [1,2,3,7,8,26])
 (.cond (.t 26) .skip
 (.exit 0)))
 (.seq (.block 1 (.seq (.ops [
 ⟨some 29,.faddr 0 (.t 3),none⟩,
 ⟨some 30,.load none (.t 29),none⟩,
 ⟨some 31,.mv (.t 1),none⟩,
 ⟨some 32,.iaddr 1 (.t 30) (.t 31),none⟩,
 ⟨some 33,.load none (.t 32),none⟩,
 ⟨some 34,.mv (.t 8),none⟩,
 ⟨some 35,.iaddr 2 (.t 33) (.t 34),none⟩,
 ⟨some 36,.faddr 1 (.t 35),none⟩,
 ⟨some 37,.load none (.t 36),none⟩,
 ⟨some 9,.mv (.t 37),none⟩] [1,2,3,7,8,9])
 (.seq (.ops [
 ⟨some 10,.mv (.c (.int .i64 0)),none⟩] [1,2,3,7,8,9,10])
 (.block 2 (.loop (.seq (.seq (.ops [
 ⟨some 38,.mv (.t 10),none⟩,
 ⟨some 39,.mv (.t 9),none⟩,
 ⟨some 40,.len (.t 39),none⟩,
 ⟨some 41,.bin .lss (.t 38) (.t 40),none⟩] [1,2,3,7,8,9,10,41])
 (.cond (.t 41) .skip
 (.exit 2)))
 (.seq (.block 3 (.draw [
 ⟨some 44,.mv (.t 7),none⟩,
 ⟨some 45,.mv (.t 9),none⟩,
 ⟨some 46,.mv (.t 10),none⟩,
 ⟨some 47,.iaddr 3 (.t 45) (.t 46),none⟩,
 ⟨some 48,.faddr 0 (.t 47),none⟩,
 ⟨some 49,.load none (.t 48),none⟩,
 ⟨some 50,.mv (.t 7),none⟩,
 ⟨some 51,.mv (.t 9),none⟩,
 ⟨some 52,.mv (.t 10),none⟩,
 ⟨some 53,.iaddr 3 (.t 51) (.t 52),none⟩,
 ⟨some 54,.faddr 0 (.t 53),none⟩,
 ⟨some 55,.load none (.t 54),none⟩,
 ⟨some 56,.iaddr 1 (.t 50) (.t 55),none⟩,
 ⟨some 57,.load none (.t 56),none⟩,
 ⟨some 58,.faddr 0 (.t 3),none⟩,
 ⟨some 59,.load none (.t 58),none⟩,
 ⟨some 60,.mv (.t 1),none⟩,
 ⟨some 61,.bin .add (.t 60) (.c (.int .i64 1)),none⟩,
 ⟨some 62,.iaddr 1 (.t 59) (.t 61),none⟩,
 ⟨some 63,.load none (.t 62),none⟩,
 ⟨some 64,.mv (.t 9),none⟩,
 ⟨some 65,.mv (.t 10),none⟩,
 ⟨some 66,.iaddr 3 (.t 64) (.t 65),none⟩,
 ⟨some 67,.faddr 0 (.t 66),none⟩,
 ⟨some 68,.load none (.t 67),none⟩,
 ⟨some 69,.iaddr 2 (.t 63) (.t 68),none⟩,
 ⟨some 70,.faddr 0 (.t 69),none⟩,
 ⟨some 71,.load none (.t 70),none⟩,
 ⟨some 72,.mv (.t 2),none⟩,
 ⟨some 73,.mv (.t 8),none⟩,
 ⟨some 74,.iaddr 1 (.t 72) (.t 73),none⟩,
 ⟨some 75,.load none (.t 74),none⟩,
 ⟨some 76,.mv (.t 9),none⟩,
 ⟨some 77,.mv (.t 10),none⟩,
 ⟨some 78,.iaddr 3 (.t 76) (.t 77),none⟩,
 ⟨some 79,.faddr 1 (.t 78),none⟩,
 ⟨some 80,.load (some 2) (.t 79),none⟩,
 ⟨some 81,.call (.f 155) [(.t 75),(.t 80)],none⟩,
 ⟨some 82,.call (.f 127) [(.t 71),(.t 81)],none⟩,
 ⟨some 83,.call (.f 126) [(.t 57),(.t 82)],none⟩,
 ⟨some 84,.iaddr 1 (.t 44) (.t 49),none⟩] [
 ⟨none,.store 1 (.t 84) (.t 83),none⟩] [1,2,3,7,8,9,10]))
 (.ops [
 ⟨some 42,.mv (.t 10),none⟩,
 ⟨some 43,.bin .add (.t 42) (.c (.int .i64 1)),none⟩,
 ⟨some 10,.mv (.t 43),none⟩] [1,2,3,7,8,9,10]))))))))
 (.ops [
 ⟨some 27,.mv (.t 8),none⟩,
 ⟨some 28,.bin .add (.t 27) (.c (.int .i64 1)),none⟩,
 ⟨some 8,.mv (.t 28),none⟩] [1,2,3,7,8]))))))
 (.seq (.ops [
 ⟨some 85,.mv (.t 7),none⟩,
 ⟨some 6,.mv (.t 85),none⟩] [6])
 .ret)))),
 [.t 6]⟩
theorem k85 : chkF Tryz.prog Tryz.f85 c85 = true := by kernel_rfl
theorem k116 : chkF Tryz.prog Tryz.f116 c116 = true := by kernel_rfl
theorem allowed_spec (t : Trk) (k : Nat) (hv : valid t) (hk : k < t.length) : Pure Tryz.prog 85 [trS t, n k] (nodS (als t k)) := by
  refine Pure.of_body Tryz.call85 Tryz.func85 k85 (Nat.le_of_ble_eq_true rfl) ?_
  unfold c85
  have h2 := hv.2.1
  have htk : t[k]? = some (t.getD k []) := getD_some hk
  have gtk : (t.map fun l => [stS l]).getD k [] = [stS (t.getD k [])] := getD_map htk
  obtain ⟨v1, v2, v3⟩ := valid_stg hv hk
  have hww : als t k = (t.getD k []).map (·.al) := rfl
  rw [hww]
  generalize t.getD k [] = L at *
  ((first
 | refine AWPC.of_vcn rfl ?_
 | simp (disch := omega) only [wr64, Int.zero_sub]
 | refine AWPC.both (fun _ => ?_) (fun _ => ?_)
 | refine AWPC.imp (fun _ => ?_)
 | (refine .inl ⟨_, _, _, .any, rfl, fun h => absurd h Bool.false_ne_true, ?_⟩; refine owp_of_exs ?_)
 | refine ⟨by omega, ?_⟩
 | refine And.intro (by (intros; first | (simp_all; done) | fail)) ?_
 | fail) <;> try simp only [zT, zV, zS, zU, vcC, kscp, lateX, ex, strp, cnd, binA, kseq, kblk, kret, klp, Abs.one, elems, cells, scalar, eqC, Nat.reduceBEq, reduceAdd, reduceSub, reduceLT, reduceLeDiff, reduceMul, reduceEqDiff, reduceIte])
  ((first
 | refine AWPC.of_vcn rfl ?_
 | simp (disch := omega) only [wr64, Int.zero_sub]
 | refine AWPC.both (fun _ => ?_) (fun _ => ?_)
 | refine AWPC.imp (fun _ => ?_)
 | (refine .inl ⟨_, _, _, .any, rfl, fun h => absurd h Bool.false_ne_true, ?_⟩; refine owp_of_exs ?_)
 | refine ⟨by omega, ?_⟩
 | refine And.intro (by (intros; first | (simp_all; done) | fail)) ?_
 | fail) <;> try simp only [zT, zV, zS, zU, vcC, kscp, lateX, ex, strp, cnd, binA, kseq, kblk, kret, klp, Abs.one, elems, cells, scalar, eqC, Nat.reduceBEq, reduceAdd, reduceSub, reduceLT, reduceLeDiff, reduceMul, reduceEqDiff, reduceIte])
  ((first
 | refine AWPC.of_vcn rfl ?_
 | simp (disch := omega) only [wr64, Int.zero_sub]
 | refine AWPC.both (fun _ => ?_) (fun _ => ?_)
 | refine AWPC.imp (fun _ => ?_)
 | (refine .inl ⟨_, _, _, .any, rfl, fun h => absurd h Bool.false_ne_true, ?_⟩; refine owp_of_exs ?_)
 | refine ⟨by omega, ?_⟩
 | refine And.intro (by (intros; first | (simp_all; done) | fail)) ?_
 | fail) <;> try simp only [zT, zV, zS, zU, vcC, kscp, lateX, ex, strp, cnd, binA, kseq, kblk, kret, klp, Abs.one, elems, cells, scalar, eqC, Nat.reduceBEq, reduceAdd, reduceSub, reduceLT, reduceLeDiff, reduceMul, reduceEqDiff, reduceIte])
  ((first
 | refine AWPC.of_vcn rfl ?_
 | simp (disch := omega) only [wr64, Int.zero_sub]
 | refine AWPC.both (fun _ => ?_) (fun _ => ?_)
 | refine AWPC.imp (fun _ => ?_)
 | (refine .inl ⟨_, _, _, .any, rfl, fun h => absurd h Bool.false_ne_true, ?_⟩; refine owp_of_exs ?_)
 | refine ⟨by omega, ?_⟩
 | refine And.intro (by (intros; first | (simp_all; done) | fail)) ?_
 | fail) <;> try simp only [zT, zV, zS, zU, vcC, kscp, lateX, ex, strp, cnd, binA, kseq, kblk, kret, klp, Abs.one, elems, cells, scalar, eqC, Nat.reduceBEq, reduceAdd, reduceSub, reduceLT, reduceLeDiff, reduceMul, reduceEqDiff, reduceIte])
  refine AWPC.own0 45 1 5 rfl ?_
  refine AWPC.loopE (α := { y : Nat // y ≤ L.length }) [5, 6] (fun y => [(5, .own 0 0 y.1), (6, n y.1)]) (fun y => some [⟨45, 1, (List.range y.1).map fun j => [.own (j + 1) 0 (L.getD j ⟨[], []⟩).al.length], none⟩] :: (L.take y.1).map fun x => some [spO x.al]) (fun y => L.length - y.1) ⟨0, Nat.zero_le _⟩ ?_ rfl ?_
  · (simp only [zT, zV, zS, zU, vcC, kscp, lateX, ex, strp, cnd, binA, kseq, kblk, kret, klp, Abs.one, elems, cells, scalar, eqC, Nat.reduceBEq, reduceAdd, reduceSub, reduceLT, reduceLeDiff, reduceMul, reduceEqDiff, reduceIte]; try simp)
  rintro ⟨i, hi⟩
  try simp only at hi
  try simp only
  by_cases hlt : i < L.length
  · obtain ⟨x, hx⟩ : ∃ x, L[i]? = some x := ⟨_, List.getElem?_eq_getElem hlt⟩
    have hxl := (v3 x (List.mem_of_getElem? hx)).1.1
    have hsn := take_snoc hx
    have hgd : L.getD i ⟨[], []⟩ = x := by rw [List.getD_eq_getElem?_getD, hx]; rfl
    obtain ⟨τ, hτ⟩ : ∃ τ : Sto, τ = (L.take i).map fun x => some [spO x.al] := ⟨_, rfl⟩
    have hτl : List.length τ = i := by rw [hτ, List.length_map, List.length_take]; omega
    rw [← hτ]
    obtain ⟨E, hE⟩ : ∃ E : List (List AV), E = (List.range i).map fun j => [.own (j + 1) 0 (L.getD j ⟨[], []⟩).al.length] := ⟨_, rfl⟩
    have hEl : E.length = i := by rw [hE]; simp
    rw [← hE]
    have ro := rows_ok x.al
    (repeat' ((first
 | refine AWPC.of_vcn rfl ?_
 | simp (disch := omega) only [wr64, Int.zero_sub]
 | refine AWPC.both (fun _ => ?_) (fun _ => ?_)
 | refine AWPC.imp (fun _ => ?_)
 | (refine .inl ⟨_, _, _, .any, rfl, fun h => absurd h Bool.false_ne_true, ?_⟩; refine owp_of_exs ?_)
 | refine ⟨by omega, ?_⟩
 | refine And.intro (by (intros; first | (simp_all; done) | fail)) ?_
 | fail) <;> try simp only [zT, zV, zS, zU, vcC, kscp, lateX, ex, strp, cnd, binA, kseq, kblk, kret, klp, Abs.one, elems, cells, scalar, eqC, Nat.reduceBEq, reduceAdd, reduceSub, reduceLT, reduceLeDiff, reduceMul, reduceEqDiff, reduceIte, gtk, getD_map hx, hEl]))
    all_goals try (exfalso; omega)
    refine ⟨⟨ro, by omega⟩, by omega, ?_⟩
    (repeat' ((first
 | refine AWPC.of_vcn rfl ?_
 | simp (disch := omega) only [wr64, Int.zero_sub]
 | refine AWPC.both (fun _ => ?_) (fun _ => ?_)
 | refine AWPC.imp (fun _ => ?_)
 | (refine .inl ⟨_, _, _, .any, rfl, fun h => absurd h Bool.false_ne_true, ?_⟩; refine owp_of_exs ?_)
 | refine ⟨by omega, ?_⟩
 | refine And.intro (by (intros; first | (simp_all; done) | fail)) ?_
 | fail) <;> try simp only [zT, zV, zS, zU, vcC, kscp, lateX, ex, strp, cnd, binA, kseq, kblk, kret, klp, Abs.one, elems, cells, scalar, eqC, Nat.reduceBEq, reduceAdd, reduceSub, reduceLT, reduceLeDiff, reduceMul, reduceEqDiff, reduceIte]))
    all_goals try (exfalso; omega)
    exact ⟨⟨i + 1, hlt⟩, ⟨rfl, rfl⟩, by simp only; rw [hsn, List.range_succ, List.map_append, List.map_append, ← hτ, ← hE, hτl]; simp only [List.map_cons, List.map_nil, hgd]; (try rfl), by simp only; omega⟩
  · obtain rfl : i = L.length := by omega
    rw [List.take_length]
    (repeat' ((first
 | refine AWPC.of_vcn rfl ?_
 | simp (disch := omega) only [wr64, Int.zero_sub]
 | refine AWPC.both (fun _ => ?_) (fun _ => ?_)
 | refine AWPC.imp (fun _ => ?_)
 | (refine .inl ⟨_, _, _, .any, rfl, fun h => absurd h Bool.false_ne_true, ?_⟩; refine owp_of_exs ?_)
 | refine ⟨by omega, ?_⟩
 | refine And.intro (by (intros; first | (simp_all; done) | fail)) ?_
 | fail) <;> try simp only [zT, zV, zS, zU, vcC, kscp, lateX, ex, strp, cnd, binA, kseq, kblk, kret, klp, Abs.one, elems, cells, scalar, eqC, Nat.reduceBEq, reduceAdd, reduceSub, reduceLT, reduceLeDiff, reduceMul, reduceEqDiff, reduceIte, gtk]))
    all_goals try (exfalso; omega)
    refine Frz.own (σ := some [⟨45, 1, (List.range L.length).map fun j => [.own (j + 1) 0 (L.getD j ⟨[], []⟩).al.length], none⟩] :: L.map fun x => some [spO x.al]) (f := 0) (i := 0) (n := L.length) (o := ⟨45, 1, (List.range L.length).map fun j => [.own (j + 1) 0 (L.getD j ⟨[], []⟩).al.length], none⟩) (es := (L.map (·.al)).map fun l => [spS l]) (show (1 : Nat) ≠ 0 by decide) rfl (by simp) (by simp) (fun e j he hj => ?_) fun e he => ?_
    · obtain rfl : j = 0 := by simp only at hj; omega
      have hx := getD_some (l := L) (d := ⟨[], []⟩) he
      have hx2 : (L.map (·.al))[e]? = some (L.getD e ⟨[], []⟩).al := by rw [List.getElem?_map, hx]; rfl
      rw [getD_map hx2, range_get _ he]
      refine frz_sp ?_
      rw [at_consS]
      unfold Sto.at
      rw [List.getElem?_map, hx]; rfl
    · have hx := getD_some (l := L) (d := ⟨[], []⟩) he
      have hx2 : (L.map (·.al))[e]? = some (L.getD e ⟨[], []⟩).al := by rw [List.getElem?_map, hx]; rfl
      rw [getD_map hx2]; rfl
def onR1 (cur al : List (List Sp)) (j : Nat) (acc : List Sp) (h : Hop) : List Sp := if h.to = j then joins acc (meet (al.getD j []) (joins [] (Abs.wide (cur.getD h.fr []) h.ch))) else acc
def onR (cur al : List (List Sp)) (hs : List Hop) (j : Nat) : List Sp := hs.foldl (onR1 cur al j) []
theorem onR_snoc (cur al : List (List Sp)) (hs : List Hop) (h : Hop) (j : Nat) : onR cur al (hs ++ [h]) j = onR1 cur al j (onR cur al hs j) h := by unfold onR; rw [List.foldl_append]; rfl
theorem wideJ_ok {l : List Sp} {c : Sp} (hl : good l) (hc : chOk c) : OKs (joins [] (Abs.wide l c)) := joins_ok (wide_bdd hl.2 hc) OKs.nil
theorem onR_laws {cur al : List (List Sp)} (hc : goods cur) : ∀ {hs : List Hop}, (∀ h ∈ hs, chOk h.ch) → ∀ (j : Nat) (acc : List Sp), OKs acc →
    OKs (hs.foldl (onR1 cur al j) acc) ∧ ∀ v, Mem v (hs.foldl (onR1 cur al j) acc) ↔ Mem v acc ∨ (Mem v (into hs cur j) ∧ Mem v (al.getD j []))
  | [], _, j, acc, ha => ⟨ha, fun v => by simp [into, Mem.nil]⟩
  | h :: hs, hh, j, acc, ha => by
    have hch := hh h List.mem_cons_self
    have hW := wideJ_ok (goods_get hc h.fr) hch
    have ha' : OKs (onR1 cur al j acc h) := by
      unfold onR1
      split
      · exact joins_ok (meet_ok hW.bd).bd ha
      · exact ha
    obtain ⟨i1, i2⟩ := onR_laws hc (fun g hg => hh g (List.mem_cons_of_mem _ hg)) j _ ha'
    refine ⟨i1, fun v => ?_⟩
    rw [List.foldl_cons, i2]
    have e : into (h :: hs) cur j = hop1 cur j h ++ into hs cur j := rfl
    rw [e, mem_append]
    unfold onR1 hop1
    by_cases hj : h.to = j
    · rw [if_pos hj, if_pos hj, joins_mem ha.nm, meet_mem, joins0_mem]
      constructor
      · rintro ((a | ⟨a, b⟩) | ⟨a, b⟩)
        · exact .inl a
        · exact .inr ⟨.inl b, a⟩
        · exact .inr ⟨.inr a, b⟩
      · rintro (a | ⟨a | a, b⟩)
        · exact .inl (.inl a)
        · exact .inl (.inr ⟨b, a⟩)
        · exact .inr ⟨a, b⟩
    · rw [if_neg hj, if_neg hj]
      simp [Mem.nil]
theorem onR_ok {cur al : List (List Sp)} (hc : goods cur) {hs : List Hop} (hh : ∀ h ∈ hs, chOk h.ch) (j : Nat) : OKs (onR cur al hs j) := (onR_laws hc hh j [] OKs.nil).1
theorem onR_onto {cur al : List (List Sp)} (hc : goods cur) {hs : List Hop} (hh : ∀ h ∈ hs, chOk h.ch) (j : Nat) : onR cur al hs j = onto1 hs cur al j := by
  obtain ⟨h1, h2⟩ := onR_laws (al := al) hc hh j [] OKs.nil
  refine Norm.ext h1.nm (meet_norm _ _) fun v => ?_
  show Mem v (hs.foldl (onR1 cur al j) []) ↔ _
  rw [h2, onto1, meet_mem, joins0_mem]
  exact ⟨fun h => h.resolve_left Mem.nil, .inr⟩
theorem hopsF_take : ∀ (l : List Nod) (a i : Nat) (x : Nod), l[i]? = some x → hopsF a (l.take (i + 1)) = hopsF a (l.take i) ++ hopsOf (a + i) x
  | [], _, _, _, h => by simp at h
  | y :: r, a, 0, x, h => by simp at h; subst h; simp [hopsF]
  | y :: r, a, i + 1, x, h => by
    have := hopsF_take r (a + 1) i x (by simpa using h)
    rw [List.take_succ_cons, hopsF, this, show a + 1 + i = a + (i + 1) by omega, ← List.append_assoc]; rfl
def hopsP (l : List Nod) (i : Nat) (es : List Edg) : List Hop := hopsF 0 (l.take i) ++ es.map fun e => ⟨i, e.to.toNat, e.ch⟩
theorem hopsP_snoc (l : List Nod) (i : Nat) {es : List Edg} {y : Nat} {e : Edg} (h : es[y]? = some e) : hopsP l i (es.take (y + 1)) = hopsP l i (es.take y) ++ [⟨i, e.to.toNat, e.ch⟩] := by
  unfold hopsP; rw [take_snoc h, List.map_append, List.append_assoc]; rfl
theorem hopsP_full {l : List Nod} {i : Nat} {x : Nod} (h : l[i]? = some x) : hopsP l i x.nx = hopsF 0 (l.take (i + 1)) := by
  rw [hopsF_take l 0 i x h, Nat.zero_add]; rfl
theorem hopsF_ch {l : List Nod} (hl : ∀ x ∈ l, ∀ e ∈ x.nx, chOk e.ch) (a : Nat) : ∀ h ∈ hopsF a l, chOk h.ch := fun h hh => by
  obtain ⟨k, x, e, hx, he, rfl⟩ := hopsF_mem.1 hh
  exact hl x (List.mem_of_getElem? hx) e he
theorem hopsP_ch {l : List Nod} (hl : ∀ x ∈ l, ∀ e ∈ x.nx, chOk e.ch) (i : Nat) {es : List Edg} (he : ∀ e ∈ es, chOk e.ch) : ∀ h ∈ hopsP l i es, chOk h.ch := fun h hh => by
  rcases List.mem_append.1 hh with hh | hh
  · exact hopsF_ch (fun x hx => hl x (List.mem_of_mem_take hx)) 0 h hh
  · obtain ⟨e, hem, rfl⟩ := List.mem_map.1 hh
    exact he e hem
def rowsR (cur al : List (List Sp)) (N : Nat) (hs : List Hop) : List (List AV) := (List.range N).map fun j => [spS (onR cur al hs j)]
theorem rowsR_get {cur al : List (List Sp)} {N : Nat} {hs : List Hop} {j : Nat} (h : j < N) : (rowsR cur al N hs).getD j [] = [spS (onR cur al hs j)] := range_get _ h
theorem rowsR_len {cur al : List (List Sp)} {N : Nat} {hs : List Hop} : (rowsR cur al N hs).length = N := by simp [rowsR]
theorem rowsR_set {cur al : List (List Sp)} {N : Nat} {hs : List Hop} (h : Hop) : (rowsR cur al N hs).set h.to [spS (joins (onR cur al hs h.to) (meet (al.getD h.to []) (joins [] (Abs.wide (cur.getD h.fr []) h.ch))))] = rowsR cur al N (hs ++ [h]) := by
  unfold rowsR
  rw [range_set]
  refine range_congr fun j hj => ?_
  rw [onR_snoc, onR1]
  by_cases hjc : j = h.to
  · subst hjc; rw [if_pos rfl, if_pos rfl]
  · rw [if_neg hjc, if_neg fun e => hjc e.symm]
theorem frz_nodO' {σ : Sto} {f m : Nat} {x : List (List Sp)} (h : σ.at f 0 = some ⟨45, 1, x.map (fun l => [spS l]), none⟩) (hm : m = x.length) : Frz σ (.own f 0 m) (nodS x) := hm ▸ frz_nodO h
theorem onward_spec (t : Trk) (k : Nat) (cur : List (List Sp)) (hv : valid t) (hk : k + 1 < t.length) (hl : cur.length = wd t k) (hc : goods cur) :
    Pure Tryz.prog 116 [trS t, n k, nodS cur] (nodS (onto (stp t k) cur (als t (k + 1)))) := by
  refine Pure.of_body Tryz.call116 Tryz.func116 k116 (Nat.le_of_ble_eq_true rfl) ?_
  unfold c116
  have h2 := hv.2.1
  have gtk : (t.map fun l => [stS l]).getD k [] = [stS (t.getD k [])] := getD_map (getD_some (by omega))
  have gtk1 : (t.map fun l => [stS l]).getD (k + 1) [] = [stS (t.getD (k + 1) [])] := getD_map (getD_some hk)
  have ek : ((k : Int) + 1).toNat = k + 1 := by omega
  obtain ⟨v1, v2, v3⟩ := valid_stg hv (show k < t.length by omega)
  obtain ⟨w1, w2, w3⟩ := valid_stg hv hk
  have hwk : wd t (k + 1) = (t.getD (k + 1) []).length := rfl
  have hwk0 : wd t k = (t.getD k []).length := rfl
  have hal : als t (k + 1) = (t.getD (k + 1) []).map (·.al) := rfl
  have hst : stp t k = hopsF 0 (t.getD k []) := rfl
  rw [hal, hst]
  rw [hwk0] at hl
  rw [hwk] at v3
  generalize t.getD k [] = L at *
  generalize t.getD (k + 1) [] = L2 at *
  have hch : ∀ x ∈ L, ∀ e ∈ x.nx, chOk e.ch := fun x hx e he => ((v3 x hx).2.2 e he).2.2
  (repeat' ((first
 | refine AWPC.of_vcn rfl ?_
 | simp (disch := omega) only [wr64, Int.zero_sub]
 | refine AWPC.both (fun _ => ?_) (fun _ => ?_)
 | refine AWPC.imp (fun _ => ?_)
 | (refine .inl ⟨_, _, _, .any, rfl, fun h => absurd h Bool.false_ne_true, ?_⟩; refine owp_of_exs ?_)
 | refine ⟨by omega, ?_⟩
 | refine And.intro (by (intros; first | (simp_all; done) | fail)) ?_
 | fail) <;> try simp only [zT, zV, zS, zU, vcC, kscp, lateX, ex, strp, cnd, binA, kseq, kblk, kret, klp, Abs.one, elems, cells, scalar, eqC, Nat.reduceBEq, reduceAdd, reduceSub, reduceLT, reduceLeDiff, reduceMul, reduceEqDiff, reduceIte, gtk, gtk1, ek]))
  all_goals try (exfalso; omega)
  refine AWPC.weakO (f := 0) (i := 0) (o := ⟨45, 1, List.replicate L2.length [.v (.slice none 0 0)], none⟩) (o' := ⟨45, 1, rowsR cur (L2.map (·.al)) L2.length [], none⟩) rfl rfl rfl rfl rfl (by simp [rowsR_len]) (fun e he => ?_) (fun e j he hj => ?_) ?_
  · rw [rowsR_get (by simpa using he)]; rfl
  · simp only [List.length_replicate] at he
    obtain rfl : j = 0 := by simp only at hj; omega
    intro w X β σ x hx
    rw [rowsR_get he]
    simp only [List.getD_eq_getElem?_getD, List.getElem?_replicate, if_pos he] at hx
    exact hx.nil
  simp only [zT, zV, zS, zU, vcC, kscp, lateX, ex, strp, cnd, binA, kseq, kblk, kret, klp, Abs.one, elems, cells, scalar, eqC, Nat.reduceBEq, reduceAdd, reduceSub, reduceLT, reduceLeDiff, reduceMul, reduceEqDiff, reduceIte]
  refine AWPC.loopE (α := { y : Nat // y ≤ L.length }) [8] (fun y => [(8, n y.1)]) (fun y => [some [⟨45, 1, rowsR cur (L2.map (·.al)) L2.length (hopsF 0 (L.take y.1)), none⟩]]) (fun y => L.length - y.1) ⟨0, Nat.zero_le _⟩ ?_ ?_ ?_
  · (simp only [zT, zV, zS, zU, vcC, kscp, lateX, ex, strp, cnd, binA, kseq, kblk, kret, klp, Abs.one, elems, cells, scalar, eqC, Nat.reduceBEq, reduceAdd, reduceSub, reduceLT, reduceLeDiff, reduceMul, reduceEqDiff, reduceIte]; try simp)
  · rfl
  rintro ⟨i, hi⟩
  try simp only at hi
  try simp only
  by_cases hlt : i < L.length
  · obtain ⟨x, hx⟩ : ∃ x, L[i]? = some x := ⟨_, List.getElem?_eq_getElem hlt⟩
    have hxm := List.mem_of_getElem? hx
    obtain ⟨x1, x2, x3⟩ := v3 x hxm
    have gcur : (cur.map fun l => [spS l]).getD i [] = [spS (cur.getD i [])] := getD_map (getD_some (by omega))
    have gci := goods_get hc i
    (repeat' ((first
 | refine AWPC.of_vcn rfl ?_
 | simp (disch := omega) only [wr64, Int.zero_sub]
 | refine AWPC.both (fun _ => ?_) (fun _ => ?_)
 | refine AWPC.imp (fun _ => ?_)
 | (refine .inl ⟨_, _, _, .any, rfl, fun h => absurd h Bool.false_ne_true, ?_⟩; refine owp_of_exs ?_)
 | refine ⟨by omega, ?_⟩
 | refine And.intro (by (intros; first | (simp_all; done) | fail)) ?_
 | fail) <;> try simp only [zT, zV, zS, zU, vcC, kscp, lateX, ex, strp, cnd, binA, kseq, kblk, kret, klp, Abs.one, elems, cells, scalar, eqC, Nat.reduceBEq, reduceAdd, reduceSub, reduceLT, reduceLeDiff, reduceMul, reduceEqDiff, reduceIte, gtk, getD_map hx]))
    all_goals try (exfalso; omega)
    refine AWPC.loopE (α := { y : Nat // y ≤ x.nx.length }) [10] (fun y => [(10, n y.1)]) (fun y => [some [⟨45, 1, rowsR cur (L2.map (·.al)) L2.length (hopsP L i (x.nx.take y.1)), none⟩]]) (fun y => x.nx.length - y.1) ⟨0, Nat.zero_le _⟩ ?_ ?_ ?_
    · (simp only [zT, zV, zS, zU, vcC, kscp, lateX, ex, strp, cnd, binA, kseq, kblk, kret, klp, Abs.one, elems, cells, scalar, eqC, Nat.reduceBEq, reduceAdd, reduceSub, reduceLT, reduceLeDiff, reduceMul, reduceEqDiff, reduceIte]; try simp)
    · simp [hopsP]
    rintro ⟨y, hy⟩
    try simp only at hy
    try simp only
    by_cases hlt2 : y < x.nx.length
    · obtain ⟨e, he⟩ : ∃ e, x.nx[y]? = some e := ⟨_, List.getElem?_eq_getElem hlt2⟩
      have hem := List.mem_of_getElem? he
      obtain ⟨e1, e2, e3⟩ := x3 e hem
      have hcN : e.to.toNat < L2.length := by omega
      have gL2 : (L2.map Nod.cs).getD e.to.toNat [] = Nod.cs (L2.getD e.to.toNat ⟨[], []⟩) := getD_map (getD_some hcN)
      have gal : (L2.map (·.al)).getD e.to.toNat [] = (L2.getD e.to.toNat ⟨[], []⟩).al := getD_map (getD_some (d := ⟨[], []⟩) hcN)
      have gga : good (L2.getD e.to.toNat ⟨[], []⟩).al := (w3 _ (List.mem_of_getElem? (getD_some (d := ⟨[], []⟩) hcN))).1.2
      have hops := hopsP_snoc L i he
      have hpc : ∀ h ∈ hopsP L i (x.nx.take y), chOk h.ch := hopsP_ch hch i fun f hf => hch x hxm f (List.mem_of_mem_take hf)
      have hgR := rowsR_get (cur := cur) (al := L2.map (·.al)) (hs := hopsP L i (x.nx.take y)) hcN
      have hset := rowsR_set (cur := cur) (al := L2.map (·.al)) (N := L2.length) (hs := hopsP L i (x.nx.take y)) ⟨i, e.to.toNat, e.ch⟩
      try simp only at hset
      rw [gal, ← hops] at hset
      have hRl := rowsR_len (cur := cur) (al := L2.map (·.al)) (N := L2.length) (hs := hopsP L i (x.nx.take y))
      have hR := onR_ok (al := L2.map (·.al)) hc hpc e.to.toNat
      have hW := wideJ_ok gci e3
      have hwi := wide_spec (cur.getD i []) e.ch gci e3
      have hme := meetR_spec (L2.getD e.to.toNat ⟨[], []⟩).al (joins [] (Abs.wide (cur.getD i []) e.ch)) (good_ok gga).bd hW.bd (by have := good_len gga; omega) (by have := hW.len; omega)
      have hM := meet_ok (a := (L2.getD e.to.toNat ⟨[], []⟩).al) hW.bd
      have hun := union_spec _ _ hR hM.bd hM.nm.ne (by have := hM.len; omega)
      generalize onR cur (L2.map (·.al)) (hopsP L i (x.nx.take y)) e.to.toNat = Q at *
      generalize rowsR cur (L2.map (·.al)) L2.length (hopsP L i (x.nx.take y)) = E at *
      generalize (L2.getD e.to.toNat ⟨[], []⟩) = x' at *
      (repeat' ((first
 | refine AWPC.of_vcn rfl ?_
 | simp (disch := omega) only [wr64, Int.zero_sub]
 | refine AWPC.both (fun _ => ?_) (fun _ => ?_)
 | refine AWPC.imp (fun _ => ?_)
 | ((repeat (refine And.intro (by (intros; first | omega | (simp_all; done) | fail)) ?_)); (first | ((first | refine .inl ⟨_, _, _, _, rfl, fun _hc => ⟨by simp (maxDischargeDepth := 9) <;> assumption, (by first | exact hwi | exact hme | exact hun)⟩, ?_⟩ | refine ⟨_, _, _, _, rfl, fun _hc => ⟨by simp (maxDischargeDepth := 9) <;> assumption, (by first | exact hwi | exact hme | exact hun)⟩, ?_⟩); (first | refine owp_of_exs ?_ | refine pre_of_exd ?_ | refine pre_of_exe ?_ | refine pre_of_exv ?_)) | refine .inl ⟨_, _, _, _, rfl, ⟨by simp (maxDischargeDepth := 9) <;> assumption, (by first | exact hwi | exact hme | exact hun)⟩, ?_⟩))
 | (refine .inl ⟨_, _, _, .any, rfl, fun h => absurd h Bool.false_ne_true, ?_⟩; refine owp_of_exs ?_)
 | refine ⟨by omega, ?_⟩
 | refine And.intro (by (intros; first | (simp_all; done) | fail)) ?_
 | fail) <;> try simp only [zT, zV, zS, zU, vcC, kscp, lateX, ex, strp, cnd, binA, kseq, kblk, kret, klp, Abs.one, elems, cells, scalar, eqC, Nat.reduceBEq, reduceAdd, reduceSub, reduceLT, reduceLeDiff, reduceMul, reduceEqDiff, reduceIte, gtk, gtk1, ek, getD_map hx, getD_map he, gL2, gcur, hgR, hRl]))
      all_goals try (exfalso; omega)
      exact ⟨⟨y + 1, hlt2⟩, rfl, congrArg (fun z => [some [(⟨45, 1, z, none⟩ : Ob)]]) hset, by simp only; omega⟩
    · obtain rfl : y = x.nx.length := by omega
      rw [List.take_length, hopsP_full hx]
      (repeat' ((first
 | refine AWPC.of_vcn rfl ?_
 | simp (disch := omega) only [wr64, Int.zero_sub]
 | refine AWPC.both (fun _ => ?_) (fun _ => ?_)
 | refine AWPC.imp (fun _ => ?_)
 | (refine .inl ⟨_, _, _, .any, rfl, fun h => absurd h Bool.false_ne_true, ?_⟩; refine owp_of_exs ?_)
 | refine ⟨by omega, ?_⟩
 | refine And.intro (by (intros; first | (simp_all; done) | fail)) ?_
 | fail) <;> try simp only [zT, zV, zS, zU, vcC, kscp, lateX, ex, strp, cnd, binA, kseq, kblk, kret, klp, Abs.one, elems, cells, scalar, eqC, Nat.reduceBEq, reduceAdd, reduceSub, reduceLT, reduceLeDiff, reduceMul, reduceEqDiff, reduceIte]))
      all_goals try (exfalso; omega)
      exact ⟨⟨i + 1, hlt⟩, rfl, rfl, by simp only; omega⟩
  · obtain rfl : i = L.length := by omega
    rw [List.take_length]
    (repeat' ((first
 | refine AWPC.of_vcn rfl ?_
 | simp (disch := omega) only [wr64, Int.zero_sub]
 | refine AWPC.both (fun _ => ?_) (fun _ => ?_)
 | refine AWPC.imp (fun _ => ?_)
 | (refine .inl ⟨_, _, _, .any, rfl, fun h => absurd h Bool.false_ne_true, ?_⟩; refine owp_of_exs ?_)
 | refine ⟨by omega, ?_⟩
 | refine And.intro (by (intros; first | (simp_all; done) | fail)) ?_
 | fail) <;> try simp only [zT, zV, zS, zU, vcC, kscp, lateX, ex, strp, cnd, binA, kseq, kblk, kret, klp, Abs.one, elems, cells, scalar, eqC, Nat.reduceBEq, reduceAdd, reduceSub, reduceLT, reduceLeDiff, reduceMul, reduceEqDiff, reduceIte, gtk]))
    all_goals try (exfalso; omega)
    have hfin : rowsR cur (L2.map (·.al)) L2.length (hopsF 0 L) = (onto (hopsF 0 L) cur (L2.map (·.al))).map fun l => [spS l] := by
      unfold rowsR onto
      rw [List.map_map, List.length_map]
      exact range_congr fun j _ => by rw [onR_onto hc (hopsF_ch hch 0)]; rfl
    rw [hfin]
    exact frz_nodO' rfl (by simp [onto])
def c84 : CF := ⟨28,
 (.seq (.ops [
 ⟨some 2,.box false 24 1 (.t 0),none⟩,
 ⟨some 4,.mv (.c (.slice none 0 0)),none⟩] [1,2])
 (.seq (.ops [
 ⟨some 7,.mv (.t 1),none⟩,
 ⟨some 8,.bsl true 61 1 1 [.slice none 0 0] [(0,1,(.t 7))],none⟩,
 ⟨some 5,.mv (.t 8),none⟩] [2,5])
 (.seq (.seq (.ops [
 ⟨some 6,.mv (.c (.int .i64 0)),none⟩] [2,5,6])
 (.block 0 (.loop (.seq (.seq (.ops [
 ⟨some 9,.mv (.t 6),none⟩,
 ⟨some 10,.bin .add (.t 9) (.c (.int .i64 1)),none⟩,
 ⟨some 11,.faddr 0 (.t 2),none⟩,
 ⟨some 12,.load none (.t 11),none⟩,
 ⟨some 13,.len (.t 12),none⟩,
 ⟨some 14,.bin .lss (.t 10) (.t 13),none⟩] [2,5,6,14])
 (.cond (.t 14) .skip
 (.exit 0)))
 (.seq (.block 1 (.draw [
 ⟨some 17,.mv (.t 5),none⟩,
 ⟨some 18,.load (some 1) (.t 2),none⟩,
 ⟨some 19,.mv (.t 6),none⟩,
 ⟨some 20,.mv (.t 5),none⟩,
 ⟨some 21,.mv (.t 6),none⟩,
 ⟨some 22,.iaddr 1 (.t 20) (.t 21),none⟩,
 ⟨some 23,.load none (.t 22),none⟩,
 ⟨some 24,.call (.f 116) [(.t 18),(.t 19),(.t 23)],none⟩,
 ⟨some 25,.bsl false 61 1 1 [.slice none 0 0] [(0,1,(.t 24))],none⟩] [
 ⟨some 26,.app 61 1 24 (.t 17) (.t 25),none⟩,
 ⟨some 5,.mv (.t 26),none⟩] [2,5,6]))
 (.ops [
 ⟨some 15,.mv (.t 6),none⟩,
 ⟨some 16,.bin .add (.t 15) (.c (.int .i64 1)),none⟩,
 ⟨some 6,.mv (.t 16),none⟩] [2,5,6]))))))
 (.seq (.ops [
 ⟨some 27,.mv (.t 5),none⟩,
 ⟨some 4,.mv (.t 27),none⟩] [4])
 .ret)))),
 [.t 4]⟩
def c31 : CF := ⟨14,
 (.seq (.ops [
 ⟨some 1,.box false 24 1 (.t 0),none⟩,
 ⟨some 2,.mv (.c (.slice none 0 0)),none⟩,
 ⟨some 3,.mv (.c (.int .i64 0)),none⟩] [1])
 (.seq (.ops [
 ⟨some 5,.load (some 1) (.t 1),none⟩,
 ⟨some 6,.call (.f 58) [(.t 5)],none⟩,
 ⟨some 4,.mv (.t 6),none⟩] [1,4])
 (.seq (.seq (.ops [
 ⟨some 7,.mv (.t 4),none⟩,
 ⟨some 8,.bin .neq (.t 7) (.c (.int .i64 0)),none⟩] [1,4,8])
 (.cond (.t 8) (.seq (.ops [
 ⟨some 9,.mv (.t 4),none⟩,
 ⟨some 2,.mv (.c (.slice none 0 0)),none⟩,
 ⟨some 3,.mv (.t 9),none⟩] [2,3])
 .ret)
 .skip))
 (.seq (.draw [
 ⟨some 10,.load (some 1) (.t 1),none⟩,
 ⟨some 11,.load (some 1) (.t 1),none⟩,
 ⟨some 12,.call (.f 85) [(.t 11),(.c (.int .i64 0))],none⟩,
 ⟨some 13,.call (.f 84) [(.t 10),(.t 12)],none⟩,
 ⟨some 2,.mv (.t 13),none⟩,
 ⟨some 3,.mv (.c (.int .i64 0)),none⟩] [
 ] [2,3])
 .ret)))),
 [.t 2,.t 3]⟩
def c20 : CF := ⟨27,
 (.seq (.ops [
 ⟨some 1,.box false 24 1 (.t 0),none⟩,
 ⟨some 2,.alloc 38 1 [.slice none 0 0],none⟩,
 ⟨some 3,.mv (.c (.int .i64 0)),none⟩] [1,2])
 (.seq (.ops [
 ⟨some 7,.load (some 1) (.t 1),none⟩,
 ⟨some 8,.call (.f 31) [(.t 7)],none⟩,
 ⟨some 6,.mv (.t 8),none⟩,
 ⟨some 9,.ext 0 (.t 6),none⟩,
 ⟨some 10,.ext 1 (.t 6),none⟩,
 ⟨some 4,.mv (.t 9),none⟩,
 ⟨some 5,.mv (.t 10),none⟩] [2,4,5])
 (.seq (.seq (.ops [
 ⟨some 11,.mv (.t 5),none⟩,
 ⟨some 12,.bin .neq (.t 11) (.c (.int .i64 0)),none⟩] [2,4,5,12])
 (.cond (.t 12) (.seq (.ops [
 ⟨some 13,.build [.slice none 0 0] [],none⟩,
 ⟨some 14,.mv (.t 5),none⟩,
 ⟨none,.store 1 (.t 2) (.t 13),none⟩,
 ⟨some 3,.mv (.t 14),none⟩] [2,3])
 .ret)
 .skip))
 (.seq (.seq (.ops [
 ⟨some 15,.mv (.t 4),none⟩,
 ⟨some 16,.mv (.t 4),none⟩,
 ⟨some 17,.len (.t 16),none⟩,
 ⟨some 18,.bin .sub (.t 17) (.c (.int .i64 1)),none⟩,
 ⟨some 19,.iaddr 1 (.t 15) (.t 18),none⟩,
 ⟨some 20,.load none (.t 19),none⟩,
 ⟨some 21,.call (.f 73) [(.t 20)],none⟩,
 ⟨some 22,.len (.t 21),none⟩,
 ⟨some 23,.bin .gtr (.t 22) (.c (.int .i64 0)),none⟩] [2,4,23])
 (.cond (.t 23) (.seq (.ops [
 ⟨some 24,.build [.slice none 0 0] [],none⟩,
 ⟨none,.store 1 (.t 2) (.t 24),none⟩,
 ⟨some 3,.mv (.c (.int .i64 3)),none⟩] [2,3])
 .ret)
 .skip))
 (.seq (.ops [
 ⟨some 25,.mv (.t 4),none⟩,
 ⟨some 26,.build [.slice none 0 0] [(0,1,(.t 25))],none⟩,
 ⟨none,.store 1 (.t 2) (.t 26),none⟩,
 ⟨some 3,.mv (.c (.int .i64 0)),none⟩] [2,3])
 .ret))))),
 [.c 2 (some 1),.t 3]⟩
theorem k84 : chkF Tryz.prog Tryz.f84 c84 = true := by kernel_rfl
theorem k31 : chkF Tryz.prog Tryz.f31 c31 = true := by kernel_rfl
theorem k20 : chkF Tryz.prog Tryz.f20 c20 = true := by kernel_rfl
theorem frz_stgO {σ : Sto} {f m : Nat} {l : List (List (List Sp))} (h : σ.at f 0 = some ⟨61, 1, l.map fun x => [nodS x], none⟩) (hm : m = l.length) : Frz σ (.own f 0 m) (stgS l) := by
  subst hm
  refine Frz.own (o := ⟨61, 1, l.map fun x => [nodS x], none⟩) (es := l.map fun x => [nodS x]) (show (1 : Nat) ≠ 0 by decide) h (by simp) (by simp) (fun e j he hj => ?_) fun e he => ?_
  · obtain ⟨x, hx⟩ : ∃ x, l[e]? = some x := ⟨_, List.getElem?_eq_getElem he⟩
    rw [getD_map hx]
    match j, hj with
    | 0, _ => exact Frz.eq rfl (by simp)
  · obtain ⟨x, hx⟩ : ∃ x, l[e]? = some x := ⟨_, List.getElem?_eq_getElem he⟩
    rw [getD_map hx]; rfl
def rowsL (t : Trk) (first : List (List Sp)) (m : Nat) : List (List (List Sp)) := (List.range m).map (lev (als t) (stp t) first)
theorem rowsL_snoc (t : Trk) (first : List (List Sp)) (m : Nat) : rowsL t first (m + 1) = rowsL t first m ++ [lev (als t) (stp t) first m] := by unfold rowsL; rw [List.range_succ, List.map_append]; rfl
theorem rowsL_len (t : Trk) (first : List (List Sp)) (m : Nat) : (rowsL t first m).length = m := by simp [rowsL]
theorem rowsL_get {t : Trk} {first : List (List Sp)} {m i : Nat} (h : i < m) : ((rowsL t first m).map fun x => [nodS x]).getD i [] = [nodS (lev (als t) (stp t) first i)] := getD_map (by simp [rowsL, h])
theorem forwardsR_spec (t : Trk) (first : List (List Sp)) (hv : valid t) (hl : first.length = (als t 0).length) (hg : goods first) : Pure Tryz.prog 84 [trS t, nodS first] (stgS (rowsL t first t.length)) := by
  refine Pure.of_body Tryz.call84 Tryz.func84 k84 (Nat.le_of_ble_eq_true rfl) ?_
  unfold c84
  have h1 := hv.1
  have h2 := hv.2.1
  (repeat' ((first
 | refine AWPC.of_vcn rfl ?_
 | simp (disch := omega) only [wr64, Int.zero_sub]
 | refine AWPC.both (fun _ => ?_) (fun _ => ?_)
 | refine AWPC.imp (fun _ => ?_)
 | (refine .inl ⟨_, _, _, .any, rfl, fun h => absurd h Bool.false_ne_true, ?_⟩; refine owp_of_exs ?_)
 | refine ⟨by omega, ?_⟩
 | refine And.intro (by (intros; first | (simp_all; done) | fail)) ?_
 | fail) <;> try simp only [zT, zV, zS, zU, vcC, kscp, lateX, ex, strp, cnd, binA, kseq, kblk, kret, klp, Abs.one, elems, cells, scalar, eqC, Nat.reduceBEq, reduceAdd, reduceSub, reduceLT, reduceLeDiff, reduceMul, reduceEqDiff, reduceIte]))
  all_goals try (exfalso; omega)
  refine AWPC.loopE (α := { y : Nat // y + 1 ≤ t.length }) [5, 6] (fun y => [(5, .own 0 0 (y.1 + 1)), (6, n y.1)]) (fun y => [some [⟨61, 1, (rowsL t first (y.1 + 1)).map fun x => [nodS x], none⟩]]) (fun y => t.length - y.1) ⟨0, h1⟩ ?_ ?_ ?_
  · (simp only [zT, zV, zS, zU, vcC, kscp, lateX, ex, strp, cnd, binA, kseq, kblk, kret, klp, Abs.one, elems, cells, scalar, eqC, Nat.reduceBEq, reduceAdd, reduceSub, reduceLT, reduceLeDiff, reduceMul, reduceEqDiff, reduceIte]; try simp)
  · rfl
  rintro ⟨i, hi⟩
  try simp only at hi
  try simp only
  have hrl := rowsL_len t first (i + 1)
  by_cases hlt : i + 1 < t.length
  · have hon := onward_spec t i (lev (als t) (stp t) first i) hv hlt (by rw [lev_len hl, als_len]) (lev_goods hg (als_goods hv) i)
    have hs : onto (stp t i) (lev (als t) (stp t) first i) (als t (i + 1)) = lev (als t) (stp t) first (i + 1) := rfl
    rw [hs] at hon
    have gi := rowsL_get (t := t) (first := first) (show i < i + 1 by omega)
    have hsn := rowsL_snoc t first (i + 1)
    generalize rowsL t first (i + 1) = E at *
    (repeat' ((first
 | refine AWPC.of_vcn rfl ?_
 | simp (disch := omega) only [wr64, Int.zero_sub]
 | refine AWPC.both (fun _ => ?_) (fun _ => ?_)
 | refine AWPC.imp (fun _ => ?_)
 | ((repeat (refine And.intro (by (intros; first | omega | (simp_all; done) | fail)) ?_)); (first | ((first | refine .inl ⟨_, _, _, _, rfl, fun _hc => ⟨by simp (maxDischargeDepth := 9) <;> assumption, hon⟩, ?_⟩ | refine ⟨_, _, _, _, rfl, fun _hc => ⟨by simp (maxDischargeDepth := 9) <;> assumption, hon⟩, ?_⟩); (first | refine owp_of_exs ?_ | refine pre_of_exd ?_ | refine pre_of_exe ?_ | refine pre_of_exv ?_)) | refine .inl ⟨_, _, _, _, rfl, ⟨by simp (maxDischargeDepth := 9) <;> assumption, hon⟩, ?_⟩))
 | (refine .inl ⟨_, _, _, .any, rfl, fun h => absurd h Bool.false_ne_true, ?_⟩; refine owp_of_exs ?_)
 | refine ⟨by omega, ?_⟩
 | refine And.intro (by (intros; first | (simp_all; done) | fail)) ?_
 | fail) <;> try simp only [zT, zV, zS, zU, vcC, kscp, lateX, ex, strp, cnd, binA, kseq, kblk, kret, klp, Abs.one, elems, cells, scalar, eqC, Nat.reduceBEq, reduceAdd, reduceSub, reduceLT, reduceLeDiff, reduceMul, reduceEqDiff, reduceIte, gi, hrl]))
    all_goals try (exfalso; omega)
    exact ⟨⟨i + 1, hlt⟩, ⟨rfl, rfl⟩, by simp only; rw [hsn]; simp, by simp only; omega⟩
  · have hti : t.length = i + 1 := by omega
    (repeat' ((first
 | refine AWPC.of_vcn rfl ?_
 | simp (disch := omega) only [wr64, Int.zero_sub]
 | refine AWPC.both (fun _ => ?_) (fun _ => ?_)
 | refine AWPC.imp (fun _ => ?_)
 | (refine .inl ⟨_, _, _, .any, rfl, fun h => absurd h Bool.false_ne_true, ?_⟩; refine owp_of_exs ?_)
 | refine ⟨by omega, ?_⟩
 | refine And.intro (by (intros; first | (simp_all; done) | fail)) ?_
 | fail) <;> try simp only [zT, zV, zS, zU, vcC, kscp, lateX, ex, strp, cnd, binA, kseq, kblk, kret, klp, Abs.one, elems, cells, scalar, eqC, Nat.reduceBEq, reduceAdd, reduceSub, reduceLT, reduceLeDiff, reduceMul, reduceEqDiff, reduceIte]))
    all_goals try (exfalso; omega)
    rw [hti]
    exact frz_stgO rfl hrl.symm
theorem rForward_spec (t : Trk) (hs : trkSz t) : Pure Tryz.prog 31 [trS t] (.tup [stgS (if tr (valid t) = true then fwds t else []), n (if tr (valid t) = true then 0 else 40)]) := by
  refine Pure.of_body Tryz.call31 Tryz.func31 k31 (Nat.le_of_ble_eq_true rfl) ?_
  unfold c31
  have hc := rCheck_spec t hs
  by_cases hv : valid t
  · rw [tr_1 hv] at hc ⊢
    simp only [if_true] at hc ⊢
    have ha := allowed_spec t 0 hv hv.1
    have hf := forwardsR_spec t (als t 0) hv rfl (als_goods hv 0)
    (repeat' ((first
 | refine AWPC.of_vcn rfl ?_
 | simp (disch := omega) only [wr64, Int.zero_sub]
 | refine AWPC.both (fun _ => ?_) (fun _ => ?_)
 | refine AWPC.imp (fun _ => ?_)
 | ((repeat (refine And.intro (by (intros; first | omega | (simp_all; done) | fail)) ?_)); (first | ((first | refine .inl ⟨_, _, _, _, rfl, fun _hc => ⟨by simp (maxDischargeDepth := 9) <;> assumption, (by first | exact hc | exact ha | exact hf)⟩, ?_⟩ | refine ⟨_, _, _, _, rfl, fun _hc => ⟨by simp (maxDischargeDepth := 9) <;> assumption, (by first | exact hc | exact ha | exact hf)⟩, ?_⟩); (first | refine owp_of_exs ?_ | refine pre_of_exd ?_ | refine pre_of_exe ?_ | refine pre_of_exv ?_)) | refine .inl ⟨_, _, _, _, rfl, ⟨by simp (maxDischargeDepth := 9) <;> assumption, (by first | exact hc | exact ha | exact hf)⟩, ?_⟩))
 | (refine .inl ⟨_, _, _, .any, rfl, fun h => absurd h Bool.false_ne_true, ?_⟩; refine owp_of_exs ?_)
 | refine ⟨by omega, ?_⟩
 | refine And.intro (by (intros; first | (simp_all; done) | fail)) ?_
 | fail) <;> try simp only [zT, zV, zS, zU, vcC, kscp, lateX, ex, strp, cnd, binA, kseq, kblk, kret, klp, Abs.one, elems, cells, scalar, eqC, Nat.reduceBEq, reduceAdd, reduceSub, reduceLT, reduceLeDiff, reduceMul, reduceEqDiff, reduceIte]))
    all_goals try (exfalso; omega)
    all_goals exact Frz.eq rfl (by simp)
  · rw [tr_0 hv] at hc ⊢
    simp only [Bool.false_eq_true, if_false] at hc ⊢
    (repeat' ((first
 | refine AWPC.of_vcn rfl ?_
 | simp (disch := omega) only [wr64, Int.zero_sub]
 | refine AWPC.both (fun _ => ?_) (fun _ => ?_)
 | refine AWPC.imp (fun _ => ?_)
 | ((repeat (refine And.intro (by (intros; first | omega | (simp_all; done) | fail)) ?_)); (first | ((first | refine .inl ⟨_, _, _, _, rfl, fun _hc => ⟨by simp (maxDischargeDepth := 9) <;> assumption, hc⟩, ?_⟩ | refine ⟨_, _, _, _, rfl, fun _hc => ⟨by simp (maxDischargeDepth := 9) <;> assumption, hc⟩, ?_⟩); (first | refine owp_of_exs ?_ | refine pre_of_exd ?_ | refine pre_of_exe ?_ | refine pre_of_exv ?_)) | refine .inl ⟨_, _, _, _, rfl, ⟨by simp (maxDischargeDepth := 9) <;> assumption, hc⟩, ?_⟩))
 | (refine .inl ⟨_, _, _, .any, rfl, fun h => absurd h Bool.false_ne_true, ?_⟩; refine owp_of_exs ?_)
 | refine ⟨by omega, ?_⟩
 | refine And.intro (by (intros; first | (simp_all; done) | fail)) ?_
 | fail) <;> try simp only [zT, zV, zS, zU, vcC, kscp, lateX, ex, strp, cnd, binA, kseq, kblk, kret, klp, Abs.one, elems, cells, scalar, eqC, Nat.reduceBEq, reduceAdd, reduceSub, reduceLT, reduceLeDiff, reduceMul, reduceEqDiff, reduceIte]))
    all_goals try (exfalso; omega)
    exact frz2 frz_nil (by simp)
theorem unis_nil {l : List (List Sp)} (h : goods l) : unis l = [] ↔ some' l = false := by
  have hn : Norm (unis l) := joins0_norm _
  rw [hn.nil_iff]
  constructor
  · intro hm
    refine List.any_eq_false.2 fun x hx => ?_
    cases x with
    | nil => simp
    | cons s r =>
      exfalso
      have := (h _ hx).1.ne s List.mem_cons_self
      exact hm s.lo ((joins0_mem _ _).2 ⟨s, List.mem_flatten.2 ⟨_, hx, List.mem_cons_self⟩, by omega, by omega⟩)
  · intro hs v hv
    obtain ⟨s, hs', h1, h2⟩ := (joins0_mem _ _).1 hv
    obtain ⟨x, hx, hsx⟩ := List.mem_flatten.1 hs'
    have := List.any_eq_false.1 hs x hx
    cases x with
    | nil => cases hsx
    | cons a r => simp at this
theorem rProve_spec (t : Trk) (hs : trkSz t) : Pure Tryz.prog 20 [trS t] (.tup [.agg [stgS (if proveE t = 0 then fwds t else [])], n (proveE t)]) := by
  refine Pure.of_body Tryz.call20 Tryz.func20 k20 (Nat.le_of_ble_eq_true rfl) ?_
  unfold c20
  have hf := rForward_spec t hs
  unfold proveE
  by_cases hv : valid t
  · rw [tr_1 hv] at hf ⊢
    simp only [if_true] at hf ⊢
    have h1 := hv.1
    have h2 := hv.2.1
    have hg := fwds_get (t := t) (k := t.length - 1) (by omega)
    have hi : ((t.length : Int) - 1).toNat = t.length - 1 := by omega
    have hl := fwds_len t
    have hw := wd_le hv (t.length - 1)
    have hgd := fwd_goods hv (t.length - 1)
    have hva := valuesR_spec (fwd t (t.length - 1)) (by rw [fwd_len]; omega) hgd
    have hun := unis_nil hgd
    have hfe : some' (fwd t (t.length - 1)) = feas t := rfl
    rw [hfe] at hun
    have hlen : (unis (fwd t (t.length - 1))).length = 0 ↔ feas t = false := by rw [List.length_eq_zero_iff]; exact hun
    generalize unis (fwd t (t.length - 1)) = U at *
    by_cases hfs : feas t = true
    · have hU : ¬ U.length = 0 := fun e => by rw [hlen.1 e] at hfs; cases hfs
      rw [hfs]
      simp only [if_true]
      (repeat' ((first
 | refine AWPC.of_vcn rfl ?_
 | simp (disch := omega) only [wr64, Int.zero_sub]
 | refine AWPC.both (fun _ => ?_) (fun _ => ?_)
 | refine AWPC.imp (fun _ => ?_)
 | ((repeat (refine And.intro (by (intros; first | omega | (simp_all; done) | fail)) ?_)); (first | ((first | refine .inl ⟨_, _, _, _, rfl, fun _hc => ⟨by simp (maxDischargeDepth := 9) <;> assumption, (by first | exact hf | exact hva)⟩, ?_⟩ | refine ⟨_, _, _, _, rfl, fun _hc => ⟨by simp (maxDischargeDepth := 9) <;> assumption, (by first | exact hf | exact hva)⟩, ?_⟩); (first | refine owp_of_exs ?_ | refine pre_of_exd ?_ | refine pre_of_exe ?_ | refine pre_of_exv ?_)) | refine .inl ⟨_, _, _, _, rfl, ⟨by simp (maxDischargeDepth := 9) <;> assumption, (by first | exact hf | exact hva)⟩, ?_⟩))
 | (refine .inl ⟨_, _, _, .any, rfl, fun h => absurd h Bool.false_ne_true, ?_⟩; refine owp_of_exs ?_)
 | refine ⟨by omega, ?_⟩
 | refine And.intro (by (intros; first | (simp_all; done) | fail)) ?_
 | fail) <;> try simp only [zT, zV, zS, zU, vcC, kscp, lateX, ex, strp, cnd, binA, kseq, kblk, kret, klp, Abs.one, elems, cells, scalar, eqC, Nat.reduceBEq, reduceAdd, reduceSub, reduceLT, reduceLeDiff, reduceMul, reduceEqDiff, reduceIte, hg, hi, hl]))
      all_goals try (exfalso; omega)
      exact frz2 frz_aggnil (by simp)
    · have hfs' : feas t = false := by simpa using hfs
      have hU := hlen.2 hfs'
      rw [hfs']
      simp only [Bool.false_eq_true, if_false, if_true]
      (repeat' ((first
 | refine AWPC.of_vcn rfl ?_
 | simp (disch := omega) only [wr64, Int.zero_sub]
 | refine AWPC.both (fun _ => ?_) (fun _ => ?_)
 | refine AWPC.imp (fun _ => ?_)
 | ((repeat (refine And.intro (by (intros; first | omega | (simp_all; done) | fail)) ?_)); (first | ((first | refine .inl ⟨_, _, _, _, rfl, fun _hc => ⟨by simp (maxDischargeDepth := 9) <;> assumption, (by first | exact hf | exact hva)⟩, ?_⟩ | refine ⟨_, _, _, _, rfl, fun _hc => ⟨by simp (maxDischargeDepth := 9) <;> assumption, (by first | exact hf | exact hva)⟩, ?_⟩); (first | refine owp_of_exs ?_ | refine pre_of_exd ?_ | refine pre_of_exe ?_ | refine pre_of_exv ?_)) | refine .inl ⟨_, _, _, _, rfl, ⟨by simp (maxDischargeDepth := 9) <;> assumption, (by first | exact hf | exact hva)⟩, ?_⟩))
 | (refine .inl ⟨_, _, _, .any, rfl, fun h => absurd h Bool.false_ne_true, ?_⟩; refine owp_of_exs ?_)
 | refine ⟨by omega, ?_⟩
 | refine And.intro (by (intros; first | (simp_all; done) | fail)) ?_
 | fail) <;> try simp only [zT, zV, zS, zU, vcC, kscp, lateX, ex, strp, cnd, binA, kseq, kblk, kret, klp, Abs.one, elems, cells, scalar, eqC, Nat.reduceBEq, reduceAdd, reduceSub, reduceLT, reduceLeDiff, reduceMul, reduceEqDiff, reduceIte, hg, hi, hl]))
      all_goals try (exfalso; omega)
      exact Frz.eq rfl (by simp (maxDischargeDepth := 9))
  · rw [tr_0 hv] at hf ⊢
    simp only [Bool.false_eq_true, if_false] at hf ⊢
    (repeat' ((first
 | refine AWPC.of_vcn rfl ?_
 | simp (disch := omega) only [wr64, Int.zero_sub]
 | refine AWPC.both (fun _ => ?_) (fun _ => ?_)
 | refine AWPC.imp (fun _ => ?_)
 | ((repeat (refine And.intro (by (intros; first | omega | (simp_all; done) | fail)) ?_)); (first | ((first | refine .inl ⟨_, _, _, _, rfl, fun _hc => ⟨by simp (maxDischargeDepth := 9) <;> assumption, hf⟩, ?_⟩ | refine ⟨_, _, _, _, rfl, fun _hc => ⟨by simp (maxDischargeDepth := 9) <;> assumption, hf⟩, ?_⟩); (first | refine owp_of_exs ?_ | refine pre_of_exd ?_ | refine pre_of_exe ?_ | refine pre_of_exv ?_)) | refine .inl ⟨_, _, _, _, rfl, ⟨by simp (maxDischargeDepth := 9) <;> assumption, hf⟩, ?_⟩))
 | (refine .inl ⟨_, _, _, .any, rfl, fun h => absurd h Bool.false_ne_true, ?_⟩; refine owp_of_exs ?_)
 | refine ⟨by omega, ?_⟩
 | refine And.intro (by (intros; first | (simp_all; done) | fail)) ?_
 | fail) <;> try simp only [zT, zV, zS, zU, vcC, kscp, lateX, ex, strp, cnd, binA, kseq, kblk, kret, klp, Abs.one, elems, cells, scalar, eqC, Nat.reduceBEq, reduceAdd, reduceSub, reduceLT, reduceLeDiff, reduceMul, reduceEqDiff, reduceIte]))
    all_goals try (exfalso; omega)
    exact frz2 frz_aggnil (by simp)
def c54 : CF := ⟨93,
 (.seq (.ops [
 ⟨some 2,.box false 24 1 (.t 0),none⟩,
 ⟨some 4,.mv (.c (.bool false)),none⟩] [1,2])
 (.seq (.seq (.ops [
 ⟨some 10,.mv (.t 1),none⟩,
 ⟨some 11,.len (.t 10),none⟩,
 ⟨some 12,.faddr 0 (.t 2),none⟩,
 ⟨some 13,.load none (.t 12),none⟩,
 ⟨some 14,.len (.t 13),none⟩,
 ⟨some 15,.bin .neq (.t 11) (.t 14),none⟩] [1,2,15])
 (.cond (.t 15) (.seq (.ops [
 ⟨some 4,.mv (.c (.bool false)),none⟩] [4])
 .ret)
 .skip))
 (.seq (.seq (.ops [
 ⟨some 5,.mv (.c (.int .i64 0)),none⟩] [1,2,5])
 (.block 0 (.loop (.seq (.seq (.ops [
 ⟨some 16,.mv (.t 5),none⟩,
 ⟨some 17,.mv (.t 1),none⟩,
 ⟨some 18,.len (.t 17),none⟩,
 ⟨some 19,.bin .lss (.t 16) (.t 18),none⟩] [1,2,5,19])
 (.cond (.t 19) .skip
 (.exit 0)))
 (.seq (.block 1 (.seq (.seq (.draw [
 ⟨some 22,.mv (.t 1),none⟩,
 ⟨some 23,.mv (.t 5),none⟩,
 ⟨some 24,.iaddr 1 (.t 22) (.t 23),none⟩,
 ⟨some 25,.load none (.t 24),none⟩,
 ⟨some 26,.len (.t 25),none⟩,
 ⟨some 27,.faddr 0 (.t 2),none⟩,
 ⟨some 28,.load none (.t 27),none⟩,
 ⟨some 29,.mv (.t 5),none⟩,
 ⟨some 30,.iaddr 1 (.t 28) (.t 29),none⟩,
 ⟨some 31,.load none (.t 30),none⟩,
 ⟨some 32,.len (.t 31),none⟩,
 ⟨some 33,.bin .neq (.t 26) (.t 32),none⟩] [
 ] [1,2,5,33])
 (.cond (.t 33) (.seq (.ops [
 ⟨some 4,.mv (.c (.bool false)),none⟩] [4])
 .ret)
 .skip))
 (.seq (.ops [
 ⟨some 6,.mv (.c (.int .i64 0)),none⟩] [1,2,5,6])
 (.block 2 (.loop (.seq (.seq (.ops [
 ⟨some 34,.mv (.t 6),none⟩,
 ⟨some 35,.mv (.t 1),none⟩,
 ⟨some 36,.mv (.t 5),none⟩,
 ⟨some 37,.iaddr 1 (.t 35) (.t 36),none⟩,
 ⟨some 38,.load none (.t 37),none⟩,
 ⟨some 39,.len (.t 38),none⟩,
 ⟨some 40,.bin .lss (.t 34) (.t 39),none⟩] [1,2,5,6,40])
 (.cond (.t 40) .skip
 (.exit 2)))
 (.seq (.block 3 (.seq (.ops [
 ⟨some 43,.mv (.t 1),none⟩,
 ⟨some 44,.mv (.t 5),none⟩,
 ⟨some 45,.iaddr 1 (.t 43) (.t 44),none⟩,
 ⟨some 46,.load none (.t 45),none⟩,
 ⟨some 47,.mv (.t 6),none⟩,
 ⟨some 48,.iaddr 1 (.t 46) (.t 47),none⟩,
 ⟨some 49,.load none (.t 48),none⟩,
 ⟨some 50,.call (.f 27) [(.t 49)],none⟩,
 ⟨some 51,.un .not (.t 50),none⟩] [1,2,5,6,51])
 (.cond (.t 51) (.seq (.ops [
 ⟨some 4,.mv (.c (.bool false)),none⟩] [4])
 .ret)
 .skip)))
 (.ops [
 ⟨some 41,.mv (.t 6),none⟩,
 ⟨some 42,.bin .add (.t 41) (.c (.int .i64 1)),none⟩,
 ⟨some 6,.mv (.t 42),none⟩] [1,2,5,6]))))))))
 (.ops [
 ⟨some 20,.mv (.t 5),none⟩,
 ⟨some 21,.bin .add (.t 20) (.c (.int .i64 1)),none⟩,
 ⟨some 5,.mv (.t 21),none⟩] [1,2,5]))))))
 (.seq (.seq (.ops [
 ⟨some 7,.mv (.c (.int .i64 0)),none⟩] [1,2,7])
 (.block 4 (.loop (.seq (.seq (.ops [
 ⟨some 52,.mv (.t 7),none⟩,
 ⟨some 53,.mv (.t 1),none⟩,
 ⟨some 54,.len (.t 53),none⟩,
 ⟨some 55,.bin .lss (.t 52) (.t 54),none⟩] [1,2,7,55])
 (.cond (.t 55) .skip
 (.exit 4)))
 (.seq (.block 5 (.seq (.ops [
 ⟨some 58,.load (some 1) (.t 2),none⟩,
 ⟨some 59,.call (.f 85) [(.t 58),(.c (.int .i64 0))],none⟩,
 ⟨some 8,.mv (.t 59),none⟩] [1,2,7,8])
 (.seq (.seq (.ops [
 ⟨some 60,.mv (.t 7),none⟩,
 ⟨some 61,.bin .gtr (.t 60) (.c (.int .i64 0)),none⟩] [1,2,7,8,61])
 (.cond (.t 61) (.draw [
 ⟨some 62,.load (some 1) (.t 2),none⟩,
 ⟨some 63,.mv (.t 7),none⟩,
 ⟨some 64,.bin .sub (.t 63) (.c (.int .i64 1)),none⟩,
 ⟨some 65,.mv (.t 1),none⟩,
 ⟨some 66,.mv (.t 7),none⟩,
 ⟨some 67,.bin .sub (.t 66) (.c (.int .i64 1)),none⟩,
 ⟨some 68,.iaddr 1 (.t 65) (.t 67),none⟩,
 ⟨some 69,.load none (.t 68),none⟩,
 ⟨some 70,.call (.f 116) [(.t 62),(.t 64),(.t 69)],none⟩,
 ⟨some 8,.mv (.t 70),none⟩] [
 ] [1,2,7,8])
 .skip))
 (.seq (.ops [
 ⟨some 9,.mv (.c (.int .i64 0)),none⟩] [1,2,7,8,9])
 (.block 6 (.loop (.seq (.seq (.ops [
 ⟨some 71,.mv (.t 9),none⟩,
 ⟨some 72,.mv (.t 1),none⟩,
 ⟨some 73,.mv (.t 7),none⟩,
 ⟨some 74,.iaddr 1 (.t 72) (.t 73),none⟩,
 ⟨some 75,.load none (.t 74),none⟩,
 ⟨some 76,.len (.t 75),none⟩,
 ⟨some 77,.bin .lss (.t 71) (.t 76),none⟩] [1,2,7,8,9,77])
 (.cond (.t 77) .skip
 (.exit 6)))
 (.seq (.block 7 (.seq (.draw [
 ⟨some 80,.mv (.t 8),none⟩,
 ⟨some 81,.mv (.t 9),none⟩,
 ⟨some 82,.iaddr 1 (.t 80) (.t 81),none⟩,
 ⟨some 83,.load none (.t 82),none⟩,
 ⟨some 84,.mv (.t 1),none⟩,
 ⟨some 85,.mv (.t 7),none⟩,
 ⟨some 86,.iaddr 1 (.t 84) (.t 85),none⟩,
 ⟨some 87,.load none (.t 86),none⟩,
 ⟨some 88,.mv (.t 9),none⟩,
 ⟨some 89,.iaddr 1 (.t 87) (.t 88),none⟩,
 ⟨some 90,.load none (.t 89),none⟩,
 ⟨some 91,.call (.f 117) [(.t 83),(.t 90)],none⟩,
 ⟨some 92,.un .not (.t 91),none⟩] [
 ] [1,2,7,8,9,92])
 (.cond (.t 92) (.seq (.ops [
 ⟨some 4,.mv (.c (.bool false)),none⟩] [4])
 .ret)
 .skip)))
 (.ops [
 ⟨some 78,.mv (.t 9),none⟩,
 ⟨some 79,.bin .add (.t 78) (.c (.int .i64 1)),none⟩,
 ⟨some 9,.mv (.t 79),none⟩] [1,2,7,8,9])))))))))
 (.ops [
 ⟨some 56,.mv (.t 7),none⟩,
 ⟨some 57,.bin .add (.t 56) (.c (.int .i64 1)),none⟩,
 ⟨some 7,.mv (.t 57),none⟩] [1,2,7]))))))
 (.seq (.ops [
 ⟨some 4,.mv (.c (.bool true)),none⟩] [4])
 .ret))))),
 [.t 4]⟩
def c23 : CF := ⟨29,
 (.seq (.ops [
 ⟨some 2,.box false 24 1 (.t 0),none⟩,
 ⟨some 3,.box false 38 1 (.t 1),none⟩,
 ⟨some 4,.mv (.c (.int .i64 0)),none⟩] [2,3])
 (.seq (.ops [
 ⟨some 6,.load (some 1) (.t 2),none⟩,
 ⟨some 7,.call (.f 58) [(.t 6)],none⟩,
 ⟨some 5,.mv (.t 7),none⟩] [2,3,5])
 (.seq (.seq (.ops [
 ⟨some 8,.mv (.t 5),none⟩,
 ⟨some 9,.bin .neq (.t 8) (.c (.int .i64 0)),none⟩] [2,3,5,9])
 (.cond (.t 9) (.seq (.ops [
 ⟨some 10,.mv (.t 5),none⟩,
 ⟨some 4,.mv (.t 10),none⟩] [4])
 .ret)
 .skip))
 (.seq (.seq (.ops [
 ⟨some 11,.load (some 1) (.t 2),none⟩,
 ⟨some 12,.faddr 0 (.t 3),none⟩,
 ⟨some 13,.load none (.t 12),none⟩,
 ⟨some 14,.call (.f 54) [(.t 11),(.t 13)],none⟩,
 ⟨some 15,.un .not (.t 14),none⟩,
 ⟨some 16,.mv (.t 15),none⟩,
 ⟨some 17,.faddr 0 (.t 3),some (16,false)⟩,
 ⟨some 18,.load none (.t 17),some (16,false)⟩,
 ⟨some 19,.faddr 0 (.t 3),some (16,false)⟩,
 ⟨some 20,.load none (.t 19),some (16,false)⟩,
 ⟨some 21,.len (.t 20),some (16,false)⟩,
 ⟨some 22,.bin .sub (.t 21) (.c (.int .i64 1)),some (16,false)⟩,
 ⟨some 23,.iaddr 1 (.t 18) (.t 22),some (16,false)⟩,
 ⟨some 24,.load none (.t 23),some (16,false)⟩,
 ⟨some 25,.call (.f 73) [(.t 24)],some (16,false)⟩,
 ⟨some 26,.len (.t 25),some (16,false)⟩,
 ⟨some 27,.bin .gtr (.t 26) (.c (.int .i64 0)),some (16,false)⟩,
 ⟨some 28,.pick (.t 16) (.c (.bool true)) (.t 27),none⟩] [28])
 (.cond (.t 28) (.seq (.ops [
 ⟨some 4,.mv (.c (.int .i64 43)),none⟩] [4])
 .ret)
 .skip))
 (.seq (.ops [
 ⟨some 4,.mv (.c (.int .i64 0)),none⟩] [4])
 .ret))))),
 [.t 4]⟩
theorem k54 : chkF Tryz.prog Tryz.f54 c54 = true := by kernel_rfl
theorem k23 : chkF Tryz.prog Tryz.f23 c23 = true := by kernel_rfl
def nxR (t : Trk) (ps : List (List (List Sp))) : Nat → List (List Sp)
  | 0 => als t 0
  | k + 1 => onto (stp t k) (ps.getD k []) (als t (k + 1))
def restR (t : Trk) (ps : List (List (List Sp))) (k : Nat) : Prop := ∀ j, j < wd t k → meet ((nxR t ps k).getD j []) ((ps.getD k []).getD j []) = (nxR t ps k).getD j []
def holdsR (t : Trk) (ps : List (List (List Sp))) : Prop := setsOk t ps ∧ ∀ k, k < t.length → restR t ps k
theorem meet_sub {a b : List Sp} (ha : Norm a) : meet a b = a ↔ ∀ v, Mem v a → Mem v b := by
  constructor
  · intro h v hv
    rw [← h, meet_mem] at hv
    exact hv.2
  · intro h
    exact Norm.ext (meet_norm _ _) ha fun v => by rw [meet_mem]; exact ⟨fun x => x.1, fun x => ⟨x, h v x⟩⟩
theorem into_hop {hs : List Hop} {cur : List (List Sp)} {j : Nat} {v : Int} : Mem v (into hs cur j) ↔ ∃ h ∈ hs, h.to = j ∧ Mem v (Abs.wide (cur.getD h.fr []) h.ch) := by
  unfold into
  rw [mem_flatMap]
  refine exists_congr fun h => and_congr_right fun hm => ?_
  unfold hop1
  by_cases e : h.to = j
  · rw [if_pos e]; exact ⟨fun h => ⟨e, h⟩, fun h => h.2⟩
  · rw [if_neg e]; exact ⟨fun h => absurd h Mem.nil, fun h => absurd h.1 e⟩
theorem hold_iff {t : Trk} {ps : List (List (List Sp))} (hv : valid t) (hs : setsOk t ps) : hold t ps ↔ (∀ k, k < t.length → restR t ps k) ∧ some' (ps.getD (t.length - 1) []) = false := by
  unfold hold
  have key : ∀ k, k + 1 < t.length → ((∀ h ∈ stp t k, hopHolds t ps k h) ↔ restR t ps (k + 1)) := by
    intro k hk
    unfold restR hopHolds
    have hon : ∀ j, j < wd t (k + 1) → (nxR t ps (k + 1)).getD j [] = onto1 (stp t k) (ps.getD k []) (als t (k + 1)) j := fun j hj => by
      show (onto _ _ _).getD j [] = _
      rw [onto_getD (by rw [als_len]; exact hj)]
    constructor
    · intro h j hj
      rw [hon j hj]
      rw [meet_sub (show Norm (onto1 (stp t k) (ps.getD k []) (als t (k + 1)) j) from meet_norm _ _)]
      intro v hv'
      rw [onto1, meet_mem, joins0_mem, into_hop] at hv'
      obtain ⟨⟨g, hg, rfl, hw⟩, ha⟩ := hv'
      exact (meet_sub (meet_norm _ _)).1 (h g hg) v ((meet_mem _ _ _).2 ⟨(joins0_mem _ _).2 hw, ha⟩)
    · intro h g hg
      have hj := (stp_ok hv hg).2.1
      have := h g.to hj
      rw [hon _ hj, meet_sub (show Norm (onto1 (stp t k) (ps.getD k []) (als t (k + 1)) g.to) from meet_norm _ _)] at this
      rw [meet_sub (meet_norm _ _)]
      intro v hv'
      rw [meet_mem, joins0_mem] at hv'
      exact this v (by rw [onto1, meet_mem, joins0_mem, into_hop]; exact ⟨⟨g, hg, rfl, hv'.1⟩, hv'.2⟩)
  constructor
  · rintro ⟨h1, h2, h3⟩
    refine ⟨fun k hk => ?_, h3⟩
    cases k with
    | zero => exact h1
    | succ k => exact (key k hk).1 (h2 k hk)
  · rintro ⟨h1, h2⟩
    exact ⟨h1 0 hv.1, fun k hk => (key k hk).2 (h1 (k + 1) hk), h2⟩
theorem nxR_goods {t : Trk} {ps : List (List (List Sp))} (hv : valid t) (k : Nat) : goods (nxR t ps k) := by
  cases k with
  | zero => exact als_goods hv 0
  | succ k => exact onto_goods (als_goods hv (k + 1))
theorem nxR_len {t : Trk} {ps : List (List (List Sp))} (k : Nat) : (nxR t ps k).length = wd t k := by
  cases k with
  | zero => exact als_len t 0
  | succ k => rw [nxR, onto_len, als_len]
theorem Holds_spec (t : Trk) (ps : List (List (List Sp))) (hv : valid t) (hp : setsSz ps) : Pure Tryz.prog 54 [trS t, stgS ps] (bl (tr (holdsR t ps))) := by
  refine Pure.of_body Tryz.call54 Tryz.func54 k54 (Nat.le_of_ble_eq_true rfl) ?_
  unfold c54
  have h1 := hv.1
  have h2 := hv.2.1
  have hno : ¬ holdsR t ps → tr (holdsR t ps) = false := tr_0
  obtain ⟨hpl, hpx⟩ := hp
  (repeat' ((first
 | refine AWPC.of_vcn rfl ?_
 | simp (disch := omega) only [wr64, Int.zero_sub]
 | refine AWPC.both (fun _ => ?_) (fun _ => ?_)
 | refine AWPC.imp (fun _ => ?_)
 | (refine .inl ⟨_, _, _, .any, rfl, fun h => absurd h Bool.false_ne_true, ?_⟩; refine owp_of_exs ?_)
 | refine ⟨by omega, ?_⟩
 | refine And.intro (by (intros; first | (simp_all; done) | fail)) ?_
 | fail) <;> try simp only [zT, zV, zS, zU, vcC, kscp, lateX, ex, strp, cnd, binA, kseq, kblk, kret, klp, Abs.one, elems, cells, scalar, eqC, Nat.reduceBEq, reduceAdd, reduceSub, reduceLT, reduceLeDiff, reduceMul, reduceEqDiff, reduceIte]))
  · rename_i h
    rw [hno fun e => h (by have := e.1.1; omega)]
    exact Frz.eq rfl (by simp)
  rename_i h
  have hlen : ps.length = t.length := by omega
  refine AWPC.loopE (α := { y : Nat // y ≤ ps.length ∧ ∀ k, k < y → (ps.getD k []).length = wd t k ∧ goods (ps.getD k []) }) [5] (fun y => [(5, n y.1)]) (fun y => []) (fun y => ps.length - y.1) ⟨0, Nat.zero_le _, by simp⟩ ?_ rfl ?_
  · (simp only [zT, zV, zS, zU, vcC, kscp, lateX, ex, strp, cnd, binA, kseq, kblk, kret, klp, Abs.one, elems, cells, scalar, eqC, Nat.reduceBEq, reduceAdd, reduceSub, reduceLT, reduceLeDiff, reduceMul, reduceEqDiff, reduceIte]; try simp)
  rintro ⟨i, hi, hI⟩
  try simp only at hi hI
  try simp only
  by_cases hlt : i < ps.length
  · have hpi : ps[i]? = some (ps.getD i []) := getD_some hlt
    have gp : (ps.map fun l => [nodS l]).getD i [] = [nodS (ps.getD i [])] := getD_map hpi
    have gt' : (t.map fun l => [stS l]).getD i [] = [stS (t.getD i [])] := getD_map (getD_some (by omega))
    have hww : wd t i = (t.getD i []).length := rfl
    obtain ⟨x1, x2⟩ := hpx _ (List.mem_of_getElem? hpi)
    have hb1 : (ps.getD i []).length ≠ wd t i → ¬ holdsR t ps := fun h g => h (g.1.2 i (by omega)).1
    have hb2 : ∀ l ∈ ps.getD i [], ¬ good l → ¬ holdsR t ps := fun l hl h g => h ((g.1.2 i (by omega)).2 l hl)
    have hwi := wd_le hv i
    have hnext : (ps.getD i []).length = wd t i → goods (ps.getD i []) → ∀ k, k < i + 1 → (ps.getD k []).length = wd t k ∧ goods (ps.getD k []) := fun a b k hk => by
      by_cases hki : k = i
      · subst hki; exact ⟨a, b⟩
      · exact hI k (by omega)
    generalize ps.getD i [] = X at *
    rw [hww] at hb1 hnext hwi
    generalize t.getD i [] = L at *
    (repeat' ((first
 | refine AWPC.of_vcn rfl ?_
 | simp (disch := omega) only [wr64, Int.zero_sub]
 | refine AWPC.both (fun _ => ?_) (fun _ => ?_)
 | refine AWPC.imp (fun _ => ?_)
 | (refine .inl ⟨_, _, _, .any, rfl, fun h => absurd h Bool.false_ne_true, ?_⟩; refine owp_of_exs ?_)
 | refine ⟨by omega, ?_⟩
 | refine And.intro (by (intros; first | (simp_all; done) | fail)) ?_
 | fail) <;> try simp only [zT, zV, zS, zU, vcC, kscp, lateX, ex, strp, cnd, binA, kseq, kblk, kret, klp, Abs.one, elems, cells, scalar, eqC, Nat.reduceBEq, reduceAdd, reduceSub, reduceLT, reduceLeDiff, reduceMul, reduceEqDiff, reduceIte, gp, gt']))
    all_goals try (exfalso; omega)
    · rename_i h
      rw [hno (hb1 (by omega))]
      exact Frz.eq rfl (by simp)
    rename_i h
    refine AWPC.loopE (α := { y : Nat // y ≤ X.length ∧ ∀ l ∈ X.take y, good l }) [6] (fun y => [(6, n y.1)]) (fun y => []) (fun y => X.length - y.1) ⟨0, Nat.zero_le _, by simp⟩ ?_ rfl ?_
    · (simp only [zT, zV, zS, zU, vcC, kscp, lateX, ex, strp, cnd, binA, kseq, kblk, kret, klp, Abs.one, elems, cells, scalar, eqC, Nat.reduceBEq, reduceAdd, reduceSub, reduceLT, reduceLeDiff, reduceMul, reduceEqDiff, reduceIte]; try simp)
    rintro ⟨j, hj, hJ⟩
    try simp only at hj hJ
    try simp only
    by_cases hlt2 : j < X.length
    · obtain ⟨u, hu⟩ : ∃ u, X[j]? = some u := ⟨_, List.getElem?_eq_getElem hlt2⟩
      have hum := List.mem_of_getElem? hu
      have hsn := take_snoc hu
      have gu : (X.map fun l => [spS l]).getD j [] = [spS u] := getD_map hu
      have hn := Normal_spec u (x2 u hum)
      by_cases hgu : good u
      · rw [tr_1 hgu] at hn
        (repeat' ((first
 | refine AWPC.of_vcn rfl ?_
 | simp (disch := omega) only [wr64, Int.zero_sub]
 | refine AWPC.both (fun _ => ?_) (fun _ => ?_)
 | refine AWPC.imp (fun _ => ?_)
 | ((repeat (refine And.intro (by (intros; first | omega | (simp_all; done) | fail)) ?_)); (first | ((first | refine .inl ⟨_, _, _, _, rfl, fun _hc => ⟨by simp (maxDischargeDepth := 9) <;> assumption, hn⟩, ?_⟩ | refine ⟨_, _, _, _, rfl, fun _hc => ⟨by simp (maxDischargeDepth := 9) <;> assumption, hn⟩, ?_⟩); (first | refine owp_of_exs ?_ | refine pre_of_exd ?_ | refine pre_of_exe ?_ | refine pre_of_exv ?_)) | refine .inl ⟨_, _, _, _, rfl, ⟨by simp (maxDischargeDepth := 9) <;> assumption, hn⟩, ?_⟩))
 | (refine .inl ⟨_, _, _, .any, rfl, fun h => absurd h Bool.false_ne_true, ?_⟩; refine owp_of_exs ?_)
 | refine ⟨by omega, ?_⟩
 | refine And.intro (by (intros; first | (simp_all; done) | fail)) ?_
 | fail) <;> try simp only [zT, zV, zS, zU, vcC, kscp, lateX, ex, strp, cnd, binA, kseq, kblk, kret, klp, Abs.one, elems, cells, scalar, eqC, Nat.reduceBEq, reduceAdd, reduceSub, reduceLT, reduceLeDiff, reduceMul, reduceEqDiff, reduceIte, gp, gu]))
        all_goals try (exfalso; omega)
        exact ⟨⟨j + 1, hlt2, fun l hl => by
          rw [hsn] at hl
          rcases List.mem_append.1 hl with h | h
          · exact hJ l h
          · rw [List.mem_singleton.1 h]; exact hgu⟩, rfl, by first | omega | (simp only; omega)⟩
      · rw [tr_0 hgu] at hn
        (repeat' ((first
 | refine AWPC.of_vcn rfl ?_
 | simp (disch := omega) only [wr64, Int.zero_sub]
 | refine AWPC.both (fun _ => ?_) (fun _ => ?_)
 | refine AWPC.imp (fun _ => ?_)
 | ((repeat (refine And.intro (by (intros; first | omega | (simp_all; done) | fail)) ?_)); (first | ((first | refine .inl ⟨_, _, _, _, rfl, fun _hc => ⟨by simp (maxDischargeDepth := 9) <;> assumption, hn⟩, ?_⟩ | refine ⟨_, _, _, _, rfl, fun _hc => ⟨by simp (maxDischargeDepth := 9) <;> assumption, hn⟩, ?_⟩); (first | refine owp_of_exs ?_ | refine pre_of_exd ?_ | refine pre_of_exe ?_ | refine pre_of_exv ?_)) | refine .inl ⟨_, _, _, _, rfl, ⟨by simp (maxDischargeDepth := 9) <;> assumption, hn⟩, ?_⟩))
 | (refine .inl ⟨_, _, _, .any, rfl, fun h => absurd h Bool.false_ne_true, ?_⟩; refine owp_of_exs ?_)
 | refine ⟨by omega, ?_⟩
 | refine And.intro (by (intros; first | (simp_all; done) | fail)) ?_
 | fail) <;> try simp only [zT, zV, zS, zU, vcC, kscp, lateX, ex, strp, cnd, binA, kseq, kblk, kret, klp, Abs.one, elems, cells, scalar, eqC, Nat.reduceBEq, reduceAdd, reduceSub, reduceLT, reduceLeDiff, reduceMul, reduceEqDiff, reduceIte, gp, gu]))
        all_goals try (exfalso; omega)
        rw [hno (hb2 u hum hgu)]
        exact Frz.eq rfl (by simp)
    · obtain rfl : j = X.length := by omega
      rw [List.take_length] at hJ
      (repeat' ((first
 | refine AWPC.of_vcn rfl ?_
 | simp (disch := omega) only [wr64, Int.zero_sub]
 | refine AWPC.both (fun _ => ?_) (fun _ => ?_)
 | refine AWPC.imp (fun _ => ?_)
 | (refine .inl ⟨_, _, _, .any, rfl, fun h => absurd h Bool.false_ne_true, ?_⟩; refine owp_of_exs ?_)
 | refine ⟨by omega, ?_⟩
 | refine And.intro (by (intros; first | (simp_all; done) | fail)) ?_
 | fail) <;> try simp only [zT, zV, zS, zU, vcC, kscp, lateX, ex, strp, cnd, binA, kseq, kblk, kret, klp, Abs.one, elems, cells, scalar, eqC, Nat.reduceBEq, reduceAdd, reduceSub, reduceLT, reduceLeDiff, reduceMul, reduceEqDiff, reduceIte, gp]))
      all_goals try (exfalso; omega)
      exact ⟨⟨i + 1, hlt, hnext (by omega) hJ⟩, rfl, by first | omega | (simp only; omega)⟩
  · obtain rfl : i = ps.length := by omega
    have hset : setsOk t ps := ⟨hlen, fun k hk => hI k (by omega)⟩
    (repeat' ((first
 | refine AWPC.of_vcn rfl ?_
 | simp (disch := omega) only [wr64, Int.zero_sub]
 | refine AWPC.both (fun _ => ?_) (fun _ => ?_)
 | refine AWPC.imp (fun _ => ?_)
 | (refine .inl ⟨_, _, _, .any, rfl, fun h => absurd h Bool.false_ne_true, ?_⟩; refine owp_of_exs ?_)
 | refine ⟨by omega, ?_⟩
 | refine And.intro (by (intros; first | (simp_all; done) | fail)) ?_
 | fail) <;> try simp only [zT, zV, zS, zU, vcC, kscp, lateX, ex, strp, cnd, binA, kseq, kblk, kret, klp, Abs.one, elems, cells, scalar, eqC, Nat.reduceBEq, reduceAdd, reduceSub, reduceLT, reduceLeDiff, reduceMul, reduceEqDiff, reduceIte]))
    all_goals try (exfalso; omega)
    refine AWPC.loopE (α := { y : Nat // y ≤ ps.length ∧ ∀ k, k < y → restR t ps k }) [7] (fun y => [(7, n y.1)]) (fun y => []) (fun y => ps.length - y.1) ⟨0, Nat.zero_le _, by simp⟩ ?_ rfl ?_
    · (simp only [zT, zV, zS, zU, vcC, kscp, lateX, ex, strp, cnd, binA, kseq, kblk, kret, klp, Abs.one, elems, cells, scalar, eqC, Nat.reduceBEq, reduceAdd, reduceSub, reduceLT, reduceLeDiff, reduceMul, reduceEqDiff, reduceIte]; try simp)
    rintro ⟨k, hk, hK⟩
    try simp only at hk hK
    try simp only
    by_cases hlt : k < ps.length
    · have gpk : (ps.map fun l => [nodS l]).getD k [] = [nodS (ps.getD k [])] := getD_map (getD_some hlt)
      have hal := allowed_spec t 0 hv hv.1
      obtain ⟨q1, q2⟩ := hI k hlt
      have hnl := nxR_len (t := t) (ps := ps) k
      have hng := nxR_goods (ps := ps) hv k
      have hb : ∀ j, j < wd t k → ¬ meet ((nxR t ps k).getD j []) ((ps.getD k []).getD j []) = (nxR t ps k).getD j [] → ¬ holdsR t ps := fun j hj h g => h (g.2 k (by omega) j hj)
      have hr : restR t ps k = ∀ j, j < wd t k → meet ((nxR t ps k).getD j []) ((ps.getD k []).getD j []) = (nxR t ps k).getD j [] := rfl
      have hK2 : restR t ps k → ∀ k', k' < k + 1 → restR t ps k' := fun a k' hk' => by
        by_cases e : k' = k
        · subst e; exact a
        · exact hK k' (by omega)
      have hwk := wd_le hv k
      obtain ⟨NX, hNX⟩ : ∃ NX, NX = nxR t ps k := ⟨_, rfl⟩
      rw [← hNX] at hnl hng hb hr
      obtain ⟨X, hX⟩ : ∃ X, X = ps.getD k [] := ⟨_, rfl⟩
      rw [← hX] at gpk q1 q2 hb hr
      by_cases hk0 : k = 0
      case' pos => (have hN0 : NX = als t 0 := by rw [hNX, hk0]; rfl
                    rw [← hN0] at hal
                    (repeat' ((first
 | refine AWPC.of_vcn rfl ?_
 | simp (disch := omega) only [wr64, Int.zero_sub]
 | refine AWPC.both (fun _ => ?_) (fun _ => ?_)
 | refine AWPC.imp (fun _ => ?_)
 | ((repeat (refine And.intro (by (intros; first | omega | (simp_all; done) | fail)) ?_)); (first | ((first | refine .inl ⟨_, _, _, _, rfl, fun _hc => ⟨by simp (maxDischargeDepth := 9) <;> assumption, hal⟩, ?_⟩ | refine ⟨_, _, _, _, rfl, fun _hc => ⟨by simp (maxDischargeDepth := 9) <;> assumption, hal⟩, ?_⟩); (first | refine owp_of_exs ?_ | refine pre_of_exd ?_ | refine pre_of_exe ?_ | refine pre_of_exv ?_)) | refine .inl ⟨_, _, _, _, rfl, ⟨by simp (maxDischargeDepth := 9) <;> assumption, hal⟩, ?_⟩))
 | (refine .inl ⟨_, _, _, .any, rfl, fun h => absurd h Bool.false_ne_true, ?_⟩; refine owp_of_exs ?_)
 | refine ⟨by omega, ?_⟩
 | refine And.intro (by (intros; first | (simp_all; done) | fail)) ?_
 | fail) <;> try simp only [zT, zV, zS, zU, vcC, kscp, lateX, ex, strp, cnd, binA, kseq, kblk, kret, klp, Abs.one, elems, cells, scalar, eqC, Nat.reduceBEq, reduceAdd, reduceSub, reduceLT, reduceLeDiff, reduceMul, reduceEqDiff, reduceIte, gpk])))
      case' neg => (
        obtain ⟨k', hk'⟩ : ∃ k', k = k' + 1 := ⟨k - 1, by omega⟩
        have hN1 : NX = onto (stp t k') (ps.getD k' []) (als t (k' + 1)) := by rw [hNX, hk']; rfl
        have gpk' : (ps.map fun l => [nodS l]).getD k' [] = [nodS (ps.getD k' [])] := getD_map (getD_some (by omega))
        have hz : (k : Int) - 1 = (k' : Int) := by omega
        have hon := onward_spec t k' (ps.getD k' []) hv (by omega) (hI k' (by omega)).1 (hI k' (by omega)).2
        rw [← hN1] at hon
        (repeat' ((first
 | refine AWPC.of_vcn rfl ?_
 | simp (disch := omega) only [wr64, Int.zero_sub]
 | refine AWPC.both (fun _ => ?_) (fun _ => ?_)
 | refine AWPC.imp (fun _ => ?_)
 | ((repeat (refine And.intro (by (intros; first | omega | (simp_all; done) | fail)) ?_)); (first | ((first | refine .inl ⟨_, _, _, _, rfl, fun _hc => ⟨by simp (maxDischargeDepth := 9) <;> assumption, (by first | exact hal | exact hon)⟩, ?_⟩ | refine ⟨_, _, _, _, rfl, fun _hc => ⟨by simp (maxDischargeDepth := 9) <;> assumption, (by first | exact hal | exact hon)⟩, ?_⟩); (first | refine owp_of_exs ?_ | refine pre_of_exd ?_ | refine pre_of_exe ?_ | refine pre_of_exv ?_)) | refine .inl ⟨_, _, _, _, rfl, ⟨by simp (maxDischargeDepth := 9) <;> assumption, (by first | exact hal | exact hon)⟩, ?_⟩))
 | (refine .inl ⟨_, _, _, .any, rfl, fun h => absurd h Bool.false_ne_true, ?_⟩; refine owp_of_exs ?_)
 | refine ⟨by omega, ?_⟩
 | refine And.intro (by (intros; first | (simp_all; done) | fail)) ?_
 | fail) <;> try simp only [zT, zV, zS, zU, vcC, kscp, lateX, ex, strp, cnd, binA, kseq, kblk, kret, klp, Abs.one, elems, cells, scalar, eqC, Nat.reduceBEq, reduceAdd, reduceSub, reduceLT, reduceLeDiff, reduceMul, reduceEqDiff, reduceIte, gpk, gpk', hz])))
      all_goals try (exfalso; omega)
      all_goals refine AWPC.loopE (α := { y : Nat // y ≤ X.length ∧ ∀ j, j < y → meet (NX.getD j []) (X.getD j []) = NX.getD j [] }) [8, 9] (fun y => [(8, nodS NX), (9, n y.1)]) (fun y => []) (fun y => X.length - y.1) ⟨0, Nat.zero_le _, by simp⟩ (by (simp only [zT, zV, zS, zU, vcC, kscp, lateX, ex, strp, cnd, binA, kseq, kblk, kret, klp, Abs.one, elems, cells, scalar, eqC, Nat.reduceBEq, reduceAdd, reduceSub, reduceLT, reduceLeDiff, reduceMul, reduceEqDiff, reduceIte]; try simp)) rfl ?_
      all_goals (
        rintro ⟨j, hj, hJ⟩
        try simp only at hj hJ
        try simp only
        by_cases hlt2 : j < X.length
        · have gx : (X.map fun l => [spS l]).getD j [] = [spS (X.getD j [])] := getD_map (getD_some hlt2)
          have gn : (NX.map fun l => [spS l]).getD j [] = [spS (NX.getD j [])] := getD_map (getD_some (by omega))
          have gdx := goods_get q2 j
          have gdn := goods_get hng j
          have hin := inside_spec (NX.getD j []) (X.getD j []) (good_ok gdn).bd (good_ok gdx).bd (by have := good_len gdn; omega) (by have := good_len gdx; omega)
          by_cases hm : meet (NX.getD j []) (X.getD j []) = NX.getD j []
          · rw [decide_eq_true hm] at hin
            (repeat' ((first
 | refine AWPC.of_vcn rfl ?_
 | simp (disch := omega) only [wr64, Int.zero_sub]
 | refine AWPC.both (fun _ => ?_) (fun _ => ?_)
 | refine AWPC.imp (fun _ => ?_)
 | ((repeat (refine And.intro (by (intros; first | omega | (simp_all; done) | fail)) ?_)); (first | ((first | refine .inl ⟨_, _, _, _, rfl, fun _hc => ⟨by simp (maxDischargeDepth := 9) <;> assumption, hin⟩, ?_⟩ | refine ⟨_, _, _, _, rfl, fun _hc => ⟨by simp (maxDischargeDepth := 9) <;> assumption, hin⟩, ?_⟩); (first | refine owp_of_exs ?_ | refine pre_of_exd ?_ | refine pre_of_exe ?_ | refine pre_of_exv ?_)) | refine .inl ⟨_, _, _, _, rfl, ⟨by simp (maxDischargeDepth := 9) <;> assumption, hin⟩, ?_⟩))
 | (refine .inl ⟨_, _, _, .any, rfl, fun h => absurd h Bool.false_ne_true, ?_⟩; refine owp_of_exs ?_)
 | refine ⟨by omega, ?_⟩
 | refine And.intro (by (intros; first | (simp_all; done) | fail)) ?_
 | fail) <;> try simp only [zT, zV, zS, zU, vcC, kscp, lateX, ex, strp, cnd, binA, kseq, kblk, kret, klp, Abs.one, elems, cells, scalar, eqC, Nat.reduceBEq, reduceAdd, reduceSub, reduceLT, reduceLeDiff, reduceMul, reduceEqDiff, reduceIte, gpk, gx, gn]))
            all_goals try (exfalso; omega)
            exact ⟨⟨j + 1, hlt2, fun i hi => by
              by_cases e : i = j
              · subst e; exact hm
              · exact hJ i (by omega)⟩, rfl, by first | omega | (simp only; omega)⟩
          · rw [decide_eq_false hm] at hin
            (repeat' ((first
 | refine AWPC.of_vcn rfl ?_
 | simp (disch := omega) only [wr64, Int.zero_sub]
 | refine AWPC.both (fun _ => ?_) (fun _ => ?_)
 | refine AWPC.imp (fun _ => ?_)
 | ((repeat (refine And.intro (by (intros; first | omega | (simp_all; done) | fail)) ?_)); (first | ((first | refine .inl ⟨_, _, _, _, rfl, fun _hc => ⟨by simp (maxDischargeDepth := 9) <;> assumption, hin⟩, ?_⟩ | refine ⟨_, _, _, _, rfl, fun _hc => ⟨by simp (maxDischargeDepth := 9) <;> assumption, hin⟩, ?_⟩); (first | refine owp_of_exs ?_ | refine pre_of_exd ?_ | refine pre_of_exe ?_ | refine pre_of_exv ?_)) | refine .inl ⟨_, _, _, _, rfl, ⟨by simp (maxDischargeDepth := 9) <;> assumption, hin⟩, ?_⟩))
 | (refine .inl ⟨_, _, _, .any, rfl, fun h => absurd h Bool.false_ne_true, ?_⟩; refine owp_of_exs ?_)
 | refine ⟨by omega, ?_⟩
 | refine And.intro (by (intros; first | (simp_all; done) | fail)) ?_
 | fail) <;> try simp only [zT, zV, zS, zU, vcC, kscp, lateX, ex, strp, cnd, binA, kseq, kblk, kret, klp, Abs.one, elems, cells, scalar, eqC, Nat.reduceBEq, reduceAdd, reduceSub, reduceLT, reduceLeDiff, reduceMul, reduceEqDiff, reduceIte, gpk, gx, gn]))
            all_goals try (exfalso; omega)
            rw [hno (hb j (by omega) hm)]
            exact Frz.eq rfl (by simp)
        · obtain rfl : j = X.length := by omega
          (repeat' ((first
 | refine AWPC.of_vcn rfl ?_
 | simp (disch := omega) only [wr64, Int.zero_sub]
 | refine AWPC.both (fun _ => ?_) (fun _ => ?_)
 | refine AWPC.imp (fun _ => ?_)
 | (refine .inl ⟨_, _, _, .any, rfl, fun h => absurd h Bool.false_ne_true, ?_⟩; refine owp_of_exs ?_)
 | refine ⟨by omega, ?_⟩
 | refine And.intro (by (intros; first | (simp_all; done) | fail)) ?_
 | fail) <;> try simp only [zT, zV, zS, zU, vcC, kscp, lateX, ex, strp, cnd, binA, kseq, kblk, kret, klp, Abs.one, elems, cells, scalar, eqC, Nat.reduceBEq, reduceAdd, reduceSub, reduceLT, reduceLeDiff, reduceMul, reduceEqDiff, reduceIte, gpk]))
          all_goals try (exfalso; omega)
          exact ⟨⟨k + 1, hlt, hK2 (by rw [hr]; intro j hj; exact hJ j (by omega))⟩, rfl, by first | omega | (simp only; omega)⟩)
    · obtain rfl : k = ps.length := by omega
      have : tr (holdsR t ps) = true := tr_1 ⟨hset, fun k hk => hK k (by omega)⟩
      rw [this]
      (repeat' ((first
 | refine AWPC.of_vcn rfl ?_
 | simp (disch := omega) only [wr64, Int.zero_sub]
 | refine AWPC.both (fun _ => ?_) (fun _ => ?_)
 | refine AWPC.imp (fun _ => ?_)
 | (refine .inl ⟨_, _, _, .any, rfl, fun h => absurd h Bool.false_ne_true, ?_⟩; refine owp_of_exs ?_)
 | refine ⟨by omega, ?_⟩
 | refine And.intro (by (intros; first | (simp_all; done) | fail)) ?_
 | fail) <;> try simp only [zT, zV, zS, zU, vcC, kscp, lateX, ex, strp, cnd, binA, kseq, kblk, kret, klp, Abs.one, elems, cells, scalar, eqC, Nat.reduceBEq, reduceAdd, reduceSub, reduceLT, reduceLeDiff, reduceMul, reduceEqDiff, reduceIte]))
      all_goals try (exfalso; omega)
      exact Frz.eq rfl (by simp)
theorem rCheckProof_spec (t : Trk) (ps : List (List (List Sp))) (hs : trkSz t) (hp : setsSz ps) : Pure Tryz.prog 23 [trS t, .agg [stgS ps]] (n (if tr (valid t) = true then (if tr (proofOk t ps) = true then 0 else 43) else 40)) := by
  refine Pure.of_body Tryz.call23 Tryz.func23 k23 (Nat.le_of_ble_eq_true rfl) ?_
  unfold c23
  have hc := rCheck_spec t hs
  by_cases hv : valid t
  · rw [tr_1 hv] at hc ⊢
    simp only [if_true] at hc ⊢
    have hh := Holds_spec t ps hv hp
    by_cases hho : holdsR t ps
    · rw [tr_1 hho] at hh
      obtain ⟨⟨hl, hw⟩, hr⟩ := hho
      have h1 := hv.1
      have h2 := hv.2.1
      obtain ⟨w1, w2⟩ := hw (t.length - 1) (by omega)
      have hwl := wd_le hv (t.length - 1)
      have hva := valuesR_spec (ps.getD (t.length - 1) []) (by omega) w2
      have hun := unis_nil w2
      have gl : (ps.map fun l => [nodS l]).getD (t.length - 1) [] = [nodS (ps.getD (t.length - 1) [])] := getD_map (getD_some (by omega))
      have hi : ((ps.length : Int) - 1).toNat = t.length - 1 := by omega
      have hlen : (unis (ps.getD (t.length - 1) [])).length = 0 ↔ some' (ps.getD (t.length - 1) []) = false := by rw [List.length_eq_zero_iff]; exact hun
      have hpo : proofOk t ps ↔ some' (ps.getD (t.length - 1) []) = false := by
        unfold proofOk
        rw [hold_iff hv ⟨hl, hw⟩]
        exact ⟨fun h => h.2.2, fun h => ⟨⟨hl, hw⟩, hr, h⟩⟩
      by_cases hs0 : some' (ps.getD (t.length - 1) []) = false
      · rw [tr_1 (hpo.2 hs0)]
        have hU := hlen.2 hs0
        generalize unis (ps.getD (t.length - 1) []) = U at *
        simp only [if_true]
        (repeat' ((first
 | refine AWPC.of_vcn rfl ?_
 | simp (disch := omega) only [wr64, Int.zero_sub]
 | refine AWPC.both (fun _ => ?_) (fun _ => ?_)
 | refine AWPC.imp (fun _ => ?_)
 | ((repeat (refine And.intro (by (intros; first | omega | (simp_all; done) | fail)) ?_)); (first | ((first | refine .inl ⟨_, _, _, _, rfl, fun _hc => ⟨by simp (maxDischargeDepth := 9) <;> assumption, (by first | exact hc | exact hh | exact hva)⟩, ?_⟩ | refine ⟨_, _, _, _, rfl, fun _hc => ⟨by simp (maxDischargeDepth := 9) <;> assumption, (by first | exact hc | exact hh | exact hva)⟩, ?_⟩); (first | refine owp_of_exs ?_ | refine pre_of_exd ?_ | refine pre_of_exe ?_ | refine pre_of_exv ?_)) | refine .inl ⟨_, _, _, _, rfl, ⟨by simp (maxDischargeDepth := 9) <;> assumption, (by first | exact hc | exact hh | exact hva)⟩, ?_⟩))
 | (refine .inl ⟨_, _, _, .any, rfl, fun h => absurd h Bool.false_ne_true, ?_⟩; refine owp_of_exs ?_)
 | refine ⟨by omega, ?_⟩
 | refine And.intro (by (intros; first | (simp_all; done) | fail)) ?_
 | fail) <;> try simp only [zT, zV, zS, zU, vcC, kscp, lateX, ex, strp, cnd, binA, kseq, kblk, kret, klp, Abs.one, elems, cells, scalar, eqC, Nat.reduceBEq, reduceAdd, reduceSub, reduceLT, reduceLeDiff, reduceMul, reduceEqDiff, reduceIte, gl, hi]))
        all_goals try (exfalso; omega)
        all_goals exact Frz.eq rfl (by simp)
      · rw [tr_0 fun h => hs0 (hpo.1 h)]
        have hU : ¬ (unis (ps.getD (t.length - 1) [])).length = 0 := fun h => hs0 (hlen.1 h)
        generalize unis (ps.getD (t.length - 1) []) = U at *
        simp only [Bool.false_eq_true, if_false]
        (repeat' ((first
 | refine AWPC.of_vcn rfl ?_
 | simp (disch := omega) only [wr64, Int.zero_sub]
 | refine AWPC.both (fun _ => ?_) (fun _ => ?_)
 | refine AWPC.imp (fun _ => ?_)
 | ((repeat (refine And.intro (by (intros; first | omega | (simp_all; done) | fail)) ?_)); (first | ((first | refine .inl ⟨_, _, _, _, rfl, fun _hc => ⟨by simp (maxDischargeDepth := 9) <;> assumption, (by first | exact hc | exact hh | exact hva)⟩, ?_⟩ | refine ⟨_, _, _, _, rfl, fun _hc => ⟨by simp (maxDischargeDepth := 9) <;> assumption, (by first | exact hc | exact hh | exact hva)⟩, ?_⟩); (first | refine owp_of_exs ?_ | refine pre_of_exd ?_ | refine pre_of_exe ?_ | refine pre_of_exv ?_)) | refine .inl ⟨_, _, _, _, rfl, ⟨by simp (maxDischargeDepth := 9) <;> assumption, (by first | exact hc | exact hh | exact hva)⟩, ?_⟩))
 | (refine .inl ⟨_, _, _, .any, rfl, fun h => absurd h Bool.false_ne_true, ?_⟩; refine owp_of_exs ?_)
 | refine ⟨by omega, ?_⟩
 | refine And.intro (by (intros; first | (simp_all; done) | fail)) ?_
 | fail) <;> try simp only [zT, zV, zS, zU, vcC, kscp, lateX, ex, strp, cnd, binA, kseq, kblk, kret, klp, Abs.one, elems, cells, scalar, eqC, Nat.reduceBEq, reduceAdd, reduceSub, reduceLT, reduceLeDiff, reduceMul, reduceEqDiff, reduceIte, gl, hi]))
        all_goals try (exfalso; omega)
        all_goals exact Frz.eq rfl (by simp)
    · rw [tr_0 hho] at hh
      have hpo : ¬ proofOk t ps := fun h => hho ⟨h.1, ((hold_iff hv h.1).1 h.2).1⟩
      rw [tr_0 hpo]
      simp only [Bool.false_eq_true, if_false]
      have hrow : (ps.map fun l => [nodS l]).getD (IntKind.i64.wrap ((ps.length : Int) - 1)).toNat [] = [] ∨ ∃ X, (ps.map fun l => [nodS l]).getD (IntKind.i64.wrap ((ps.length : Int) - 1)).toNat [] = [nodS X] := by
        generalize (IntKind.i64.wrap ((ps.length : Int) - 1)).toNat = j
        cases hj : ps[j]? with
        | none => exact .inl (by rw [List.getD_eq_getElem?_getD, List.getElem?_map, hj]; rfl)
        | some X => exact .inr ⟨X, getD_map hj⟩
      rcases hrow with hrow | ⟨X, hrow⟩
      · (repeat' ((first
 | refine AWPC.of_vcn rfl ?_
 | simp (disch := omega) only [wr64, Int.zero_sub]
 | refine AWPC.both (fun _ => ?_) (fun _ => ?_)
 | refine AWPC.imp (fun _ => ?_)
 | ((repeat (refine And.intro (by (intros; first | omega | (simp_all; done) | fail)) ?_)); (first | ((first | refine .inl ⟨_, _, _, _, rfl, fun _hc => ⟨by simp (maxDischargeDepth := 9) <;> assumption, (by first | exact hc | exact hh)⟩, ?_⟩ | refine ⟨_, _, _, _, rfl, fun _hc => ⟨by simp (maxDischargeDepth := 9) <;> assumption, (by first | exact hc | exact hh)⟩, ?_⟩); (first | refine owp_of_exs ?_ | refine pre_of_exd ?_ | refine pre_of_exe ?_ | refine pre_of_exv ?_)) | refine .inl ⟨_, _, _, _, rfl, ⟨by simp (maxDischargeDepth := 9) <;> assumption, (by first | exact hc | exact hh)⟩, ?_⟩))
 | (refine .inl ⟨_, _, _, .any, rfl, fun h => absurd h Bool.false_ne_true, ?_⟩; refine owp_of_exs ?_)
 | refine ⟨by omega, ?_⟩
 | refine And.intro (by (intros; first | (simp_all; done) | fail)) ?_
 | fail) <;> try simp only [zT, zV, zS, zU, vcC, kscp, lateX, ex, strp, cnd, binA, kseq, kblk, kret, klp, Abs.one, elems, cells, scalar, eqC, Nat.reduceBEq, reduceAdd, reduceSub, reduceLT, reduceLeDiff, reduceMul, reduceEqDiff, reduceIte, hrow, List.getElem?_nil]))
        all_goals try (exfalso; omega)
        all_goals exact Frz.eq rfl (by simp)
      · (repeat' ((first
 | refine AWPC.of_vcn rfl ?_
 | simp (disch := omega) only [wr64, Int.zero_sub]
 | refine AWPC.both (fun _ => ?_) (fun _ => ?_)
 | refine AWPC.imp (fun _ => ?_)
 | ((repeat (refine And.intro (by (intros; first | omega | (simp_all; done) | fail)) ?_)); (first | ((first | refine .inl ⟨_, _, _, _, rfl, fun _hc => ⟨by simp (maxDischargeDepth := 9) <;> assumption, (by first | exact hc | exact hh)⟩, ?_⟩ | refine ⟨_, _, _, _, rfl, fun _hc => ⟨by simp (maxDischargeDepth := 9) <;> assumption, (by first | exact hc | exact hh)⟩, ?_⟩); (first | refine owp_of_exs ?_ | refine pre_of_exd ?_ | refine pre_of_exe ?_ | refine pre_of_exv ?_)) | refine .inl ⟨_, _, _, _, rfl, ⟨by simp (maxDischargeDepth := 9) <;> assumption, (by first | exact hc | exact hh)⟩, ?_⟩))
 | (refine .inl ⟨_, _, _, .any, rfl, fun h => absurd h Bool.false_ne_true, ?_⟩; refine owp_of_exs ?_)
 | refine ⟨by omega, ?_⟩
 | refine And.intro (by (intros; first | (simp_all; done) | fail)) ?_
 | fail) <;> try simp only [zT, zV, zS, zU, vcC, kscp, lateX, ex, strp, cnd, binA, kseq, kblk, kret, klp, Abs.one, elems, cells, scalar, eqC, Nat.reduceBEq, reduceAdd, reduceSub, reduceLT, reduceLeDiff, reduceMul, reduceEqDiff, reduceIte, hrow]))
        all_goals try (exfalso; omega)
        all_goals exact Frz.eq rfl (by simp)
  · rw [tr_0 hv] at hc ⊢
    simp only [Bool.false_eq_true, if_false] at hc ⊢
    (repeat' ((first
 | refine AWPC.of_vcn rfl ?_
 | simp (disch := omega) only [wr64, Int.zero_sub]
 | refine AWPC.both (fun _ => ?_) (fun _ => ?_)
 | refine AWPC.imp (fun _ => ?_)
 | ((repeat (refine And.intro (by (intros; first | omega | (simp_all; done) | fail)) ?_)); (first | ((first | refine .inl ⟨_, _, _, _, rfl, fun _hc => ⟨by simp (maxDischargeDepth := 9) <;> assumption, hc⟩, ?_⟩ | refine ⟨_, _, _, _, rfl, fun _hc => ⟨by simp (maxDischargeDepth := 9) <;> assumption, hc⟩, ?_⟩); (first | refine owp_of_exs ?_ | refine pre_of_exd ?_ | refine pre_of_exe ?_ | refine pre_of_exv ?_)) | refine .inl ⟨_, _, _, _, rfl, ⟨by simp (maxDischargeDepth := 9) <;> assumption, hc⟩, ?_⟩))
 | (refine .inl ⟨_, _, _, .any, rfl, fun h => absurd h Bool.false_ne_true, ?_⟩; refine owp_of_exs ?_)
 | refine ⟨by omega, ?_⟩
 | refine And.intro (by (intros; first | (simp_all; done) | fail)) ?_
 | fail) <;> try simp only [zT, zV, zS, zU, vcC, kscp, lateX, ex, strp, cnd, binA, kseq, kblk, kret, klp, Abs.one, elems, cells, scalar, eqC, Nat.reduceBEq, reduceAdd, reduceSub, reduceLT, reduceLeDiff, reduceMul, reduceEqDiff, reduceIte]))
    all_goals try (exfalso; omega)
    all_goals exact Frz.eq rfl (by simp)
def c18 : CF := ⟨77,
 (.seq (.ops [
 ⟨some 1,.box false 33 11 (.t 0),none⟩,
 ⟨some 2,.mv (.c (.bool false)),none⟩] [1])
 (.seq (.seq (.ops [
 ⟨some 6,.faddr 5 (.t 1),none⟩,
 ⟨some 7,.load none (.t 6),none⟩,
 ⟨some 8,.len (.t 7),none⟩,
 ⟨some 9,.bin .gtr (.t 8) (.c (.int .i64 500)),none⟩,
 ⟨some 10,.mv (.t 9),none⟩,
 ⟨some 11,.faddr 6 (.t 1),some (10,false)⟩,
 ⟨some 12,.load none (.t 11),some (10,false)⟩,
 ⟨some 13,.len (.t 12),some (10,false)⟩,
 ⟨some 14,.bin .gtr (.t 13) (.c (.int .i64 500)),some (10,false)⟩,
 ⟨some 15,.pick (.t 10) (.c (.bool true)) (.t 14),none⟩,
 ⟨some 16,.mv (.t 15),none⟩,
 ⟨some 17,.faddr 7 (.t 1),some (16,false)⟩,
 ⟨some 18,.load none (.t 17),some (16,false)⟩,
 ⟨some 19,.len (.t 18),some (16,false)⟩,
 ⟨some 20,.bin .gtr (.t 19) (.c (.int .i64 12)),some (16,false)⟩,
 ⟨some 21,.pick (.t 16) (.c (.bool true)) (.t 20),none⟩,
 ⟨some 22,.mv (.t 21),none⟩,
 ⟨some 23,.faddr 10 (.t 1),some (22,false)⟩,
 ⟨some 24,.load none (.t 23),some (22,false)⟩,
 ⟨some 25,.len (.t 24),some (22,false)⟩,
 ⟨some 26,.bin .gtr (.t 25) (.c (.int .i64 12)),some (22,false)⟩,
 ⟨some 27,.pick (.t 22) (.c (.bool true)) (.t 26),none⟩] [1,27])
 (.cond (.t 27) (.seq (.ops [
 ⟨some 2,.mv (.c (.bool false)),none⟩] [2])
 .ret)
 .skip))
 (.seq (.seq (.ops [
 ⟨some 3,.mv (.c (.int .i64 0)),none⟩] [1,3])
 (.block 0 (.loop (.seq (.seq (.ops [
 ⟨some 28,.mv (.t 3),none⟩,
 ⟨some 29,.faddr 7 (.t 1),none⟩,
 ⟨some 30,.load none (.t 29),none⟩,
 ⟨some 31,.len (.t 30),none⟩,
 ⟨some 32,.bin .lss (.t 28) (.t 31),none⟩] [1,3,32])
 (.cond (.t 32) .skip
 (.exit 0)))
 (.seq (.block 1 (.seq (.ops [
 ⟨some 35,.faddr 7 (.t 1),none⟩,
 ⟨some 36,.load none (.t 35),none⟩,
 ⟨some 37,.mv (.t 3),none⟩,
 ⟨some 38,.iaddr 2 (.t 36) (.t 37),none⟩,
 ⟨some 39,.faddr 1 (.t 38),none⟩,
 ⟨some 40,.load none (.t 39),none⟩,
 ⟨some 41,.call (.f 24) [(.t 40)],none⟩,
 ⟨some 42,.un .not (.t 41),none⟩] [1,3,42])
 (.cond (.t 42) (.seq (.ops [
 ⟨some 2,.mv (.c (.bool false)),none⟩] [2])
 .ret)
 .skip)))
 (.ops [
 ⟨some 33,.mv (.t 3),none⟩,
 ⟨some 34,.bin .add (.t 33) (.c (.int .i64 1)),none⟩,
 ⟨some 3,.mv (.t 34),none⟩] [1,3]))))))
 (.seq (.seq (.ops [
 ⟨some 4,.mv (.c (.int .i64 0)),none⟩] [1,4])
 (.block 2 (.loop (.seq (.seq (.ops [
 ⟨some 43,.mv (.t 4),none⟩,
 ⟨some 44,.faddr 10 (.t 1),none⟩,
 ⟨some 45,.load none (.t 44),none⟩,
 ⟨some 46,.len (.t 45),none⟩,
 ⟨some 47,.bin .lss (.t 43) (.t 46),none⟩] [1,4,47])
 (.cond (.t 47) .skip
 (.exit 2)))
 (.seq (.block 3 (.seq (.seq (.ops [
 ⟨some 50,.faddr 10 (.t 1),none⟩,
 ⟨some 51,.load none (.t 50),none⟩,
 ⟨some 52,.mv (.t 4),none⟩,
 ⟨some 53,.iaddr 1 (.t 51) (.t 52),none⟩,
 ⟨some 54,.load none (.t 53),none⟩,
 ⟨some 55,.len (.t 54),none⟩,
 ⟨some 56,.bin .gtr (.t 55) (.c (.int .i64 12)),none⟩] [1,4,56])
 (.cond (.t 56) (.seq (.ops [
 ⟨some 2,.mv (.c (.bool false)),none⟩] [2])
 .ret)
 .skip))
 (.seq (.ops [
 ⟨some 5,.mv (.c (.int .i64 0)),none⟩] [1,4,5])
 (.block 4 (.loop (.seq (.seq (.ops [
 ⟨some 57,.mv (.t 5),none⟩,
 ⟨some 58,.faddr 10 (.t 1),none⟩,
 ⟨some 59,.load none (.t 58),none⟩,
 ⟨some 60,.mv (.t 4),none⟩,
 ⟨some 61,.iaddr 1 (.t 59) (.t 60),none⟩,
 ⟨some 62,.load none (.t 61),none⟩,
 ⟨some 63,.len (.t 62),none⟩,
 ⟨some 64,.bin .lss (.t 57) (.t 63),none⟩] [1,4,5,64])
 (.cond (.t 64) .skip
 (.exit 4)))
 (.seq (.block 5 (.seq (.ops [
 ⟨some 67,.faddr 10 (.t 1),none⟩,
 ⟨some 68,.load none (.t 67),none⟩,
 ⟨some 69,.mv (.t 4),none⟩,
 ⟨some 70,.iaddr 1 (.t 68) (.t 69),none⟩,
 ⟨some 71,.load none (.t 70),none⟩,
 ⟨some 72,.mv (.t 5),none⟩,
 ⟨some 73,.iaddr 1 (.t 71) (.t 72),none⟩,
 ⟨some 74,.load none (.t 73),none⟩,
 ⟨some 75,.len (.t 74),none⟩,
 ⟨some 76,.bin .gtr (.t 75) (.c (.int .i64 40)),none⟩] [1,4,5,76])
 (.cond (.t 76) (.seq (.ops [
 ⟨some 2,.mv (.c (.bool false)),none⟩] [2])
 .ret)
 .skip)))
 (.ops [
 ⟨some 65,.mv (.t 5),none⟩,
 ⟨some 66,.bin .add (.t 65) (.c (.int .i64 1)),none⟩,
 ⟨some 5,.mv (.t 66),none⟩] [1,4,5]))))))))
 (.ops [
 ⟨some 48,.mv (.t 4),none⟩,
 ⟨some 49,.bin .add (.t 48) (.c (.int .i64 1)),none⟩,
 ⟨some 4,.mv (.t 49),none⟩] [1,4]))))))
 (.seq (.ops [
 ⟨some 2,.mv (.c (.bool true)),none⟩] [2])
 .ret))))),
 [.t 2]⟩
theorem k18 : chkF Tryz.prog Tryz.f18 c18 = true := by kernel_rfl
abbrev bulky (x : Ask) : Prop := ((500 < x.one.length ∨ 500 < x.two.length) ∨ 12 < x.lims.length) ∨ 12 < x.sets.length
abbrev briefL (l : List Sp) : Prop := l.length ≤ 12 ∨ 64 < l.length ∧ l.length ≤ 128
structure Light (x : Ask) : Prop where
  no : ¬ bulky x
  lims : ∀ y ∈ x.lims, briefL y.vs
  sets : ∀ l ∈ x.sets, l.length ≤ 12 ∧ ∀ s ∈ l, s.length ≤ 40
theorem light_spec (x : Ask) (hs : Ask.sz x) : Pure Tryz.prog 18 [.agg x.cs] (bl (tr (Light x))) := by
  refine Pure.of_body Tryz.call18 Tryz.func18 k18 (Nat.le_of_ble_eq_true rfl) ?_
  unfold c18
  have hno : ¬ Light x → tr (Light x) = false := tr_0
  obtain ⟨s1, s2, ⟨s3, s4⟩, s5, s6⟩ := hs
  have hb := fun (h : bulky x) => hno fun g => g.no h
  have hli := fun (y : Lim) (hy : y ∈ x.lims) (h : ¬ briefL y.vs) => hno fun g => h (g.lims y hy)
  have hse := fun (l : List (List Sp)) (hl : l ∈ x.sets) (h : ¬ l.length ≤ 12) => hno fun g => h (g.sets l hl).1
  have hss := fun (l : List (List Sp)) (hl : l ∈ x.sets) (s : List Sp) (hs : s ∈ l) (h : ¬ s.length ≤ 40) => hno fun g => h ((g.sets l hl).2 s hs)
  have hok := fun (h : ¬ bulky x) (h2 : ∀ y ∈ x.lims, briefL y.vs) (h3 : ∀ l ∈ x.sets, l.length ≤ 12 ∧ ∀ s ∈ l, s.length ≤ 40) => (tr_1 (Light.mk h h2 h3) : tr (Light x) = true)
  generalize tr (Light x) = R at *
  clear hno
  obtain ⟨a1, a2, a3, ⟨a4, a5⟩, a6, a7, a8, ⟨a9, b1⟩, b2⟩ := x
  try simp only at s1 s2 s3 s4 s5 s6 hb hli hse hss hok
  (repeat' ((first
 | refine AWPC.of_vcn rfl ?_
 | simp (disch := omega) only [wr64, Int.zero_sub]
 | refine AWPC.both (fun _ => ?_) (fun _ => ?_)
 | refine AWPC.imp (fun _ => ?_)
 | (refine .inl ⟨_, _, _, .any, rfl, fun h => absurd h Bool.false_ne_true, ?_⟩; refine owp_of_exs ?_)
 | refine ⟨by omega, ?_⟩
 | refine And.intro (by (intros; first | (simp_all; done) | fail)) ?_
 | fail) <;> try simp only [zT, zV, zS, zU, vcC, kscp, lateX, ex, strp, cnd, binA, kseq, kblk, kret, klp, Abs.one, elems, cells, scalar, eqC, Nat.reduceBEq, reduceAdd, reduceSub, reduceLT, reduceLeDiff, reduceMul, reduceEqDiff, reduceIte]))
  all_goals try (exfalso; omega)
  · rename_i h
    rw [hb (by unfold bulky; simp only; omega)]
    exact Frz.eq rfl (by simp)
  rename_i h
  have hnb : ¬ bulky ⟨a1, a2, a3, ⟨a4, a5⟩, a6, a7, a8, ⟨a9, b1⟩, b2⟩ := by unfold bulky; simp only; omega
  refine AWPC.loopE (α := { y : Nat // y ≤ a8.length ∧ ∀ z ∈ a8.take y, briefL z.vs }) [3] (fun y => [(3, n y.1)]) (fun y => []) (fun y => a8.length - y.1) ⟨0, Nat.zero_le _, by simp⟩ ?_ rfl ?_
  · (simp only [zT, zV, zS, zU, vcC, kscp, lateX, ex, strp, cnd, binA, kseq, kblk, kret, klp, Abs.one, elems, cells, scalar, eqC, Nat.reduceBEq, reduceAdd, reduceSub, reduceLT, reduceLeDiff, reduceMul, reduceEqDiff, reduceIte]; try simp)
  rintro ⟨i, hi, hI⟩
  try simp only at hi hI
  try simp only
  by_cases hlt : i < a8.length
  · obtain ⟨y, hy⟩ : ∃ y, a8[i]? = some y := ⟨_, List.getElem?_eq_getElem hlt⟩
    have hym := List.mem_of_getElem? hy
    have hsn := take_snoc hy
    have hbr := brief_spec y.vs
    by_cases hb : briefL y.vs
    · rw [decide_eq_true hb] at hbr
      (repeat' ((first
 | refine AWPC.of_vcn rfl ?_
 | simp (disch := omega) only [wr64, Int.zero_sub]
 | refine AWPC.both (fun _ => ?_) (fun _ => ?_)
 | refine AWPC.imp (fun _ => ?_)
 | ((repeat (refine And.intro (by (intros; first | omega | (simp_all; done) | fail)) ?_)); (first | ((first | refine .inl ⟨_, _, _, _, rfl, fun _hc => ⟨by simp (maxDischargeDepth := 9) <;> assumption, hbr⟩, ?_⟩ | refine ⟨_, _, _, _, rfl, fun _hc => ⟨by simp (maxDischargeDepth := 9) <;> assumption, hbr⟩, ?_⟩); (first | refine owp_of_exs ?_ | refine pre_of_exd ?_ | refine pre_of_exe ?_ | refine pre_of_exv ?_)) | refine .inl ⟨_, _, _, _, rfl, ⟨by simp (maxDischargeDepth := 9) <;> assumption, hbr⟩, ?_⟩))
 | (refine .inl ⟨_, _, _, .any, rfl, fun h => absurd h Bool.false_ne_true, ?_⟩; refine owp_of_exs ?_)
 | refine ⟨by omega, ?_⟩
 | refine And.intro (by (intros; first | (simp_all; done) | fail)) ?_
 | fail) <;> try simp only [zT, zV, zS, zU, vcC, kscp, lateX, ex, strp, cnd, binA, kseq, kblk, kret, klp, Abs.one, elems, cells, scalar, eqC, Nat.reduceBEq, reduceAdd, reduceSub, reduceLT, reduceLeDiff, reduceMul, reduceEqDiff, reduceIte, getD_map hy]))
      all_goals try (exfalso; omega)
      exact ⟨⟨i + 1, hlt, fun z hz => by
        rw [hsn] at hz
        rcases List.mem_append.1 hz with h | h
        · exact hI z h
        · rw [List.mem_singleton.1 h]; exact hb⟩, rfl, by simp only; omega⟩
    · rw [decide_eq_false hb] at hbr
      (repeat' ((first
 | refine AWPC.of_vcn rfl ?_
 | simp (disch := omega) only [wr64, Int.zero_sub]
 | refine AWPC.both (fun _ => ?_) (fun _ => ?_)
 | refine AWPC.imp (fun _ => ?_)
 | ((repeat (refine And.intro (by (intros; first | omega | (simp_all; done) | fail)) ?_)); (first | ((first | refine .inl ⟨_, _, _, _, rfl, fun _hc => ⟨by simp (maxDischargeDepth := 9) <;> assumption, hbr⟩, ?_⟩ | refine ⟨_, _, _, _, rfl, fun _hc => ⟨by simp (maxDischargeDepth := 9) <;> assumption, hbr⟩, ?_⟩); (first | refine owp_of_exs ?_ | refine pre_of_exd ?_ | refine pre_of_exe ?_ | refine pre_of_exv ?_)) | refine .inl ⟨_, _, _, _, rfl, ⟨by simp (maxDischargeDepth := 9) <;> assumption, hbr⟩, ?_⟩))
 | (refine .inl ⟨_, _, _, .any, rfl, fun h => absurd h Bool.false_ne_true, ?_⟩; refine owp_of_exs ?_)
 | refine ⟨by omega, ?_⟩
 | refine And.intro (by (intros; first | (simp_all; done) | fail)) ?_
 | fail) <;> try simp only [zT, zV, zS, zU, vcC, kscp, lateX, ex, strp, cnd, binA, kseq, kblk, kret, klp, Abs.one, elems, cells, scalar, eqC, Nat.reduceBEq, reduceAdd, reduceSub, reduceLT, reduceLeDiff, reduceMul, reduceEqDiff, reduceIte, getD_map hy]))
      all_goals try (exfalso; omega)
      rw [hli y hym hb]
      exact Frz.eq rfl (by simp)
  · obtain rfl : i = a8.length := by omega
    rw [List.take_length] at hI
    (repeat' ((first
 | refine AWPC.of_vcn rfl ?_
 | simp (disch := omega) only [wr64, Int.zero_sub]
 | refine AWPC.both (fun _ => ?_) (fun _ => ?_)
 | refine AWPC.imp (fun _ => ?_)
 | (refine .inl ⟨_, _, _, .any, rfl, fun h => absurd h Bool.false_ne_true, ?_⟩; refine owp_of_exs ?_)
 | refine ⟨by omega, ?_⟩
 | refine And.intro (by (intros; first | (simp_all; done) | fail)) ?_
 | fail) <;> try simp only [zT, zV, zS, zU, vcC, kscp, lateX, ex, strp, cnd, binA, kseq, kblk, kret, klp, Abs.one, elems, cells, scalar, eqC, Nat.reduceBEq, reduceAdd, reduceSub, reduceLT, reduceLeDiff, reduceMul, reduceEqDiff, reduceIte]))
    all_goals try (exfalso; omega)
    refine AWPC.loopE (α := { y : Nat // y ≤ b2.length ∧ ∀ l ∈ b2.take y, l.length ≤ 12 ∧ ∀ s ∈ l, s.length ≤ 40 }) [4] (fun y => [(4, n y.1)]) (fun y => []) (fun y => b2.length - y.1) ⟨0, Nat.zero_le _, by simp⟩ ?_ rfl ?_
    · (simp only [zT, zV, zS, zU, vcC, kscp, lateX, ex, strp, cnd, binA, kseq, kblk, kret, klp, Abs.one, elems, cells, scalar, eqC, Nat.reduceBEq, reduceAdd, reduceSub, reduceLT, reduceLeDiff, reduceMul, reduceEqDiff, reduceIte]; try simp)
    rintro ⟨k, hk, hK⟩
    try simp only at hk hK
    try simp only
    by_cases hlt : k < b2.length
    · obtain ⟨l, hl⟩ : ∃ l, b2[k]? = some l := ⟨_, List.getElem?_eq_getElem hlt⟩
      have hlm := List.mem_of_getElem? hl
      have hsn := take_snoc hl
      have gl : (b2.map fun l => [nodS l]).getD k [] = [nodS l] := getD_map hl
      obtain ⟨l1, l2⟩ := s6 l hlm
      (repeat' ((first
 | refine AWPC.of_vcn rfl ?_
 | simp (disch := omega) only [wr64, Int.zero_sub]
 | refine AWPC.both (fun _ => ?_) (fun _ => ?_)
 | refine AWPC.imp (fun _ => ?_)
 | (refine .inl ⟨_, _, _, .any, rfl, fun h => absurd h Bool.false_ne_true, ?_⟩; refine owp_of_exs ?_)
 | refine ⟨by omega, ?_⟩
 | refine And.intro (by (intros; first | (simp_all; done) | fail)) ?_
 | fail) <;> try simp only [zT, zV, zS, zU, vcC, kscp, lateX, ex, strp, cnd, binA, kseq, kblk, kret, klp, Abs.one, elems, cells, scalar, eqC, Nat.reduceBEq, reduceAdd, reduceSub, reduceLT, reduceLeDiff, reduceMul, reduceEqDiff, reduceIte, gl]))
      all_goals try (exfalso; omega)
      · rename_i h
        rw [hse l hlm (by omega)]
        exact Frz.eq rfl (by simp)
      rename_i h12
      refine AWPC.loopE (α := { y : Nat // y ≤ l.length ∧ ∀ s ∈ l.take y, s.length ≤ 40 }) [5] (fun y => [(5, n y.1)]) (fun y => []) (fun y => l.length - y.1) ⟨0, Nat.zero_le _, by simp⟩ ?_ rfl ?_
      · (simp only [zT, zV, zS, zU, vcC, kscp, lateX, ex, strp, cnd, binA, kseq, kblk, kret, klp, Abs.one, elems, cells, scalar, eqC, Nat.reduceBEq, reduceAdd, reduceSub, reduceLT, reduceLeDiff, reduceMul, reduceEqDiff, reduceIte]; try simp)
      rintro ⟨j, hj, hJ⟩
      try simp only at hj hJ
      try simp only
      by_cases hlt2 : j < l.length
      · obtain ⟨s, hs⟩ : ∃ s, l[j]? = some s := ⟨_, List.getElem?_eq_getElem hlt2⟩
        have hsm := List.mem_of_getElem? hs
        have hsn2 := take_snoc hs
        have gs : (l.map fun l => [spS l]).getD j [] = [spS s] := getD_map hs
        have hsl := l2 s hsm
        (repeat' ((first
 | refine AWPC.of_vcn rfl ?_
 | simp (disch := omega) only [wr64, Int.zero_sub]
 | refine AWPC.both (fun _ => ?_) (fun _ => ?_)
 | refine AWPC.imp (fun _ => ?_)
 | (refine .inl ⟨_, _, _, .any, rfl, fun h => absurd h Bool.false_ne_true, ?_⟩; refine owp_of_exs ?_)
 | refine ⟨by omega, ?_⟩
 | refine And.intro (by (intros; first | (simp_all; done) | fail)) ?_
 | fail) <;> try simp only [zT, zV, zS, zU, vcC, kscp, lateX, ex, strp, cnd, binA, kseq, kblk, kret, klp, Abs.one, elems, cells, scalar, eqC, Nat.reduceBEq, reduceAdd, reduceSub, reduceLT, reduceLeDiff, reduceMul, reduceEqDiff, reduceIte, gl, gs]))
        all_goals try (exfalso; omega)
        · rename_i h
          rw [hss l hlm s hsm (by omega)]
          exact Frz.eq rfl (by simp)
        · rename_i h
          exact ⟨⟨j + 1, hlt2, fun z hz => by
            rw [hsn2] at hz
            rcases List.mem_append.1 hz with h' | h'
            · exact hJ z h'
            · rw [List.mem_singleton.1 h']; omega⟩, rfl, by simp only; omega⟩
      · obtain rfl : j = l.length := by omega
        rw [List.take_length] at hJ
        (repeat' ((first
 | refine AWPC.of_vcn rfl ?_
 | simp (disch := omega) only [wr64, Int.zero_sub]
 | refine AWPC.both (fun _ => ?_) (fun _ => ?_)
 | refine AWPC.imp (fun _ => ?_)
 | (refine .inl ⟨_, _, _, .any, rfl, fun h => absurd h Bool.false_ne_true, ?_⟩; refine owp_of_exs ?_)
 | refine ⟨by omega, ?_⟩
 | refine And.intro (by (intros; first | (simp_all; done) | fail)) ?_
 | fail) <;> try simp only [zT, zV, zS, zU, vcC, kscp, lateX, ex, strp, cnd, binA, kseq, kblk, kret, klp, Abs.one, elems, cells, scalar, eqC, Nat.reduceBEq, reduceAdd, reduceSub, reduceLT, reduceLeDiff, reduceMul, reduceEqDiff, reduceIte, gl]))
        all_goals try (exfalso; omega)
        exact ⟨⟨k + 1, hlt, fun z hz => by
          rw [hsn] at hz
          rcases List.mem_append.1 hz with h' | h'
          · exact hK z h'
          · rw [List.mem_singleton.1 h']; exact ⟨by omega, hJ⟩⟩, rfl, by simp only; omega⟩
    · obtain rfl : k = b2.length := by omega
      rw [List.take_length] at hK
      rw [hok hnb hI hK]
      (repeat' ((first
 | refine AWPC.of_vcn rfl ?_
 | simp (disch := omega) only [wr64, Int.zero_sub]
 | refine AWPC.both (fun _ => ?_) (fun _ => ?_)
 | refine AWPC.imp (fun _ => ?_)
 | (refine .inl ⟨_, _, _, .any, rfl, fun h => absurd h Bool.false_ne_true, ?_⟩; refine owp_of_exs ?_)
 | refine ⟨by omega, ?_⟩
 | refine And.intro (by (intros; first | (simp_all; done) | fail)) ?_
 | fail) <;> try simp only [zT, zV, zS, zU, vcC, kscp, lateX, ex, strp, cnd, binA, kseq, kblk, kret, klp, Abs.one, elems, cells, scalar, eqC, Nat.reduceBEq, reduceAdd, reduceSub, reduceLT, reduceLeDiff, reduceMul, reduceEqDiff, reduceIte]))
      all_goals try (exfalso; omega)
      exact Frz.eq rfl (by simp)
def c3 : CF := ⟨65,
 (.seq (.ops [
 ⟨some 2,.box false 24 1 (.t 0),none⟩,
 ⟨some 3,.box false 33 11 (.t 1),none⟩,
 ⟨some 4,.mv (.c (.bool false)),none⟩] [2,3])
 (.seq (.ops [
 ⟨some 11,.call (.f 16) [],none⟩,
 ⟨some 5,.mv (.t 11),none⟩] [2,3,5])
 (.seq (.seq (.ops [
 ⟨some 12,.load (some 1) (.t 2),none⟩,
 ⟨some 13,.call (.f 17) [(.t 12)],none⟩,
 ⟨some 14,.un .not (.t 13),none⟩,
 ⟨some 15,.mv (.t 14),none⟩,
 ⟨some 16,.load (some 11) (.t 3),some (15,false)⟩,
 ⟨some 17,.call (.f 18) [(.t 16)],some (15,false)⟩,
 ⟨some 18,.un .not (.t 17),some (15,false)⟩,
 ⟨some 19,.pick (.t 15) (.c (.bool true)) (.t 18),none⟩] [2,3,5,19])
 (.cond (.t 19) (.seq (.ops [
 ⟨some 20,.mv (.t 5),none⟩,
 ⟨some 4,.mv (.t 20),none⟩] [4])
 .ret)
 .skip))
 (.seq (.ops [
 ⟨some 22,.load (some 1) (.t 2),none⟩,
 ⟨some 23,.call (.f 19) [(.t 22)],none⟩,
 ⟨some 21,.mv (.t 23),none⟩,
 ⟨some 24,.ext 0 (.t 21),none⟩,
 ⟨some 25,.ext 1 (.t 21),none⟩,
 ⟨some 6,.alloc 38 1 [.slice none 0 0],none⟩,
 ⟨none,.store 1 (.t 6) (.t 24),none⟩,
 ⟨some 7,.mv (.t 25),none⟩] [2,3,5,6,7])
 (.seq (.ops [
 ⟨some 27,.load (some 1) (.t 2),none⟩,
 ⟨some 28,.call (.f 20) [(.t 27)],none⟩,
 ⟨some 26,.mv (.t 28),none⟩,
 ⟨some 29,.ext 0 (.t 26),none⟩,
 ⟨some 30,.ext 1 (.t 26),none⟩,
 ⟨some 8,.alloc 38 1 [.slice none 0 0],none⟩,
 ⟨none,.store 1 (.t 8) (.t 29),none⟩,
 ⟨some 9,.mv (.t 30),none⟩] [2,3,5,6,7,8,9])
 (.seq (.ops [
 ⟨some 31,.faddr 10 (.t 3),none⟩,
 ⟨some 32,.load none (.t 31),none⟩,
 ⟨some 33,.build [.slice none 0 0] [(0,1,(.t 32))],none⟩,
 ⟨some 10,.alloc 38 1 [.slice none 0 0],none⟩,
 ⟨none,.store 1 (.t 10) (.t 33),none⟩] [2,5,6,7,8,9,10])
 (.seq (.draw [
 ⟨some 34,.mv (.t 5),none⟩,
 ⟨some 35,.mv (.t 34),none⟩,
 ⟨some 36,.faddr 0 (.t 6),some (35,true)⟩,
 ⟨some 37,.load none (.t 36),some (35,true)⟩,
 ⟨some 38,.faddr 0 (.t 8),some (35,true)⟩,
 ⟨some 39,.load none (.t 38),some (35,true)⟩,
 ⟨some 40,.call (.f 21) [(.t 37),(.t 39)],some (35,true)⟩,
 ⟨some 41,.pick (.t 35) (.t 40) (.c (.bool false)),none⟩,
 ⟨some 42,.mv (.t 41),none⟩,
 ⟨some 43,.mv (.t 7),some (42,true)⟩,
 ⟨some 44,.mv (.t 9),some (42,true)⟩,
 ⟨some 45,.bin .eql (.t 43) (.t 44),some (42,true)⟩,
 ⟨some 46,.pick (.t 42) (.t 45) (.c (.bool false)),none⟩,
 ⟨some 47,.mv (.t 46),none⟩,
 ⟨some 48,.load (some 1) (.t 2),some (47,true)⟩,
 ⟨some 49,.load (some 1) (.t 10),some (47,true)⟩,
 ⟨some 50,.call (.f 22) [(.t 48),(.t 49)],some (47,true)⟩,
 ⟨some 51,.load (some 1) (.t 2),some (47,true)⟩,
 ⟨some 52,.load (some 1) (.t 10),some (47,true)⟩,
 ⟨some 53,.call (.f 23) [(.t 51),(.t 52)],some (47,true)⟩,
 ⟨some 54,.bin .eql (.t 50) (.t 53),some (47,true)⟩,
 ⟨some 55,.pick (.t 47) (.t 54) (.c (.bool false)),none⟩,
 ⟨some 56,.mv (.t 55),none⟩,
 ⟨some 57,.load (some 1) (.t 2),some (56,true)⟩,
 ⟨some 58,.load (some 1) (.t 8),some (56,true)⟩,
 ⟨some 59,.call (.f 22) [(.t 57),(.t 58)],some (56,true)⟩,
 ⟨some 60,.load (some 1) (.t 2),some (56,true)⟩,
 ⟨some 61,.load (some 1) (.t 8),some (56,true)⟩,
 ⟨some 62,.call (.f 23) [(.t 60),(.t 61)],some (56,true)⟩,
 ⟨some 63,.bin .eql (.t 59) (.t 62),some (56,true)⟩,
 ⟨some 64,.pick (.t 56) (.t 63) (.c (.bool false)),none⟩,
 ⟨some 4,.mv (.t 64),none⟩] [
 ] [4])
 .ret))))))),
 [.t 4]⟩
theorem k3 : chkF Tryz.prog Tryz.f3 c3 = true := by kernel_rfl
theorem proveE0 {t : Trk} (h : proveE t = 0) : valid t := Classical.byContradiction fun hv => by
  unfold proveE at h
  rw [tr_0 hv] at h
  simp at h
theorem fwds_sz {t : Trk} (hv : valid t) : setsSz (fwds t) := by
  have h2 := hv.2.1
  refine ⟨by rw [fwds_len]; omega, fun x hx => ?_⟩
  obtain ⟨k, _, rfl⟩ := List.mem_map.1 hx
  have hw := wd_le hv k
  exact ⟨by rw [fwd_len]; omega, fun l hl => by have := good_len (fwd_goods hv k l hl); omega⟩
theorem proveQ_sz (t : Trk) : setsSz (if proveE t = 0 then fwds t else []) := by
  split
  · rename_i h; exact fwds_sz (proveE0 h)
  · exact ⟨by simp, fun x hx => absurd hx (List.not_mem_nil)⟩
theorem Proofs_spec (t : Trk) (x : Ask) (hs : trkSz t) (hx : Ask.sz x) : Pure Tryz.prog 3 [trS t, .agg x.cs] (bl true) := by
  refine Pure.of_body Tryz.call3 Tryz.func3 k3 (Nat.le_of_ble_eq_true rfl) ?_
  unfold c3
  have hw := awake_spec
  have hf := few_spec t hs
  have hl := light_spec x hx
  have hp := Prove_spec t hs
  have hq := rProve_spec t hs
  have hQ := proveQ_sz t
  have s1 := SameSets_spec _ _ hQ hQ
  rw [decide_eq_true rfl] at s1
  have c1 := CheckProof_spec t x.sets hs hx.2.2.2
  have d1 := rCheckProof_spec t x.sets hs hx.2.2.2
  have c2 := CheckProof_spec t _ hs hQ
  have d2 := rCheckProof_spec t _ hs hQ
  generalize (if proveE t = 0 then fwds t else []) = Q at *
  generalize proveE t = E at *
  generalize (if tr (valid t) = true then (if tr (proofOk t x.sets) = true then (0 : Int) else 43) else 40) = C1 at *
  generalize (if tr (valid t) = true then (if tr (proofOk t Q) = true then (0 : Int) else 43) else 40) = C2 at *
  generalize fewB t = B1 at *
  generalize tr (Light x) = B2 at *
  obtain ⟨a1, a2, a3, ⟨a4, a5⟩, a6, a7, a8, ⟨a9, b1⟩, b2⟩ := x
  try simp only at c1 d1
  cases B1 with
  | false =>
    (repeat' ((first
 | refine AWPC.of_vcn rfl ?_
 | simp (disch := omega) only [wr64, Int.zero_sub]
 | refine AWPC.both (fun _ => ?_) (fun _ => ?_)
 | refine AWPC.imp (fun _ => ?_)
 | ((repeat (refine And.intro (by (intros; first | omega | (simp_all; done) | fail)) ?_)); (first | ((first | refine .inl ⟨_, _, _, _, rfl, fun _hc => ⟨by simp (maxDischargeDepth := 9) <;> assumption, (by first | exact hw | exact hf | exact hl)⟩, ?_⟩ | refine ⟨_, _, _, _, rfl, fun _hc => ⟨by simp (maxDischargeDepth := 9) <;> assumption, (by first | exact hw | exact hf | exact hl)⟩, ?_⟩); (first | refine owp_of_exs ?_ | refine pre_of_exd ?_ | refine pre_of_exe ?_ | refine pre_of_exv ?_)) | refine .inl ⟨_, _, _, _, rfl, ⟨by simp (maxDischargeDepth := 9) <;> assumption, (by first | exact hw | exact hf | exact hl)⟩, ?_⟩))
 | (refine .inl ⟨_, _, _, .any, rfl, fun h => absurd h Bool.false_ne_true, ?_⟩; refine owp_of_exs ?_)
 | refine ⟨by omega, ?_⟩
 | refine And.intro (by (intros; first | (simp_all; done) | fail)) ?_
 | fail) <;> try simp only [zT, zV, zS, zU, vcC, kscp, lateX, ex, strp, cnd, binA, kseq, kblk, kret, klp, Abs.one, elems, cells, scalar, eqC, Nat.reduceBEq, reduceAdd, reduceSub, reduceLT, reduceLeDiff, reduceMul, reduceEqDiff, reduceIte]))
    all_goals try (exfalso; omega)
    all_goals exact Frz.eq rfl (by simp)
  | true =>
    cases B2 with
    | false =>
      (repeat' ((first
 | refine AWPC.of_vcn rfl ?_
 | simp (disch := omega) only [wr64, Int.zero_sub]
 | refine AWPC.both (fun _ => ?_) (fun _ => ?_)
 | refine AWPC.imp (fun _ => ?_)
 | ((repeat (refine And.intro (by (intros; first | omega | (simp_all; done) | fail)) ?_)); (first | ((first | refine .inl ⟨_, _, _, _, rfl, fun _hc => ⟨by simp (maxDischargeDepth := 9) <;> assumption, (by first | exact hw | exact hf | exact hl)⟩, ?_⟩ | refine ⟨_, _, _, _, rfl, fun _hc => ⟨by simp (maxDischargeDepth := 9) <;> assumption, (by first | exact hw | exact hf | exact hl)⟩, ?_⟩); (first | refine owp_of_exs ?_ | refine pre_of_exd ?_ | refine pre_of_exe ?_ | refine pre_of_exv ?_)) | refine .inl ⟨_, _, _, _, rfl, ⟨by simp (maxDischargeDepth := 9) <;> assumption, (by first | exact hw | exact hf | exact hl)⟩, ?_⟩))
 | (refine .inl ⟨_, _, _, .any, rfl, fun h => absurd h Bool.false_ne_true, ?_⟩; refine owp_of_exs ?_)
 | refine ⟨by omega, ?_⟩
 | refine And.intro (by (intros; first | (simp_all; done) | fail)) ?_
 | fail) <;> try simp only [zT, zV, zS, zU, vcC, kscp, lateX, ex, strp, cnd, binA, kseq, kblk, kret, klp, Abs.one, elems, cells, scalar, eqC, Nat.reduceBEq, reduceAdd, reduceSub, reduceLT, reduceLeDiff, reduceMul, reduceEqDiff, reduceIte]))
      all_goals try (exfalso; omega)
      all_goals exact Frz.eq rfl (by simp)
    | true =>
      (repeat' ((first
 | refine AWPC.of_vcn rfl ?_
 | simp (disch := omega) only [wr64, Int.zero_sub]
 | refine AWPC.both (fun _ => ?_) (fun _ => ?_)
 | refine AWPC.imp (fun _ => ?_)
 | ((repeat (refine And.intro (by (intros; first | omega | (simp_all; done) | fail)) ?_)); (first | ((first | refine .inl ⟨_, _, _, _, rfl, fun _hc => ⟨by simp (maxDischargeDepth := 9) <;> assumption, (by first | exact hw | exact hf | exact hl | exact hp | exact hq | exact s1 | exact c1 | exact d1 | exact c2 | exact d2)⟩, ?_⟩ | refine ⟨_, _, _, _, rfl, fun _hc => ⟨by simp (maxDischargeDepth := 9) <;> assumption, (by first | exact hw | exact hf | exact hl | exact hp | exact hq | exact s1 | exact c1 | exact d1 | exact c2 | exact d2)⟩, ?_⟩); (first | refine owp_of_exs ?_ | refine pre_of_exd ?_ | refine pre_of_exe ?_ | refine pre_of_exv ?_)) | refine .inl ⟨_, _, _, _, rfl, ⟨by simp (maxDischargeDepth := 9) <;> assumption, (by first | exact hw | exact hf | exact hl | exact hp | exact hq | exact s1 | exact c1 | exact d1 | exact c2 | exact d2)⟩, ?_⟩))
 | (refine .inl ⟨_, _, _, .any, rfl, fun h => absurd h Bool.false_ne_true, ?_⟩; refine owp_of_exs ?_)
 | refine ⟨by omega, ?_⟩
 | refine And.intro (by (intros; first | (simp_all; done) | fail)) ?_
 | fail) <;> try simp only [zT, zV, zS, zU, vcC, kscp, lateX, ex, strp, cnd, binA, kseq, kblk, kret, klp, Abs.one, elems, cells, scalar, eqC, Nat.reduceBEq, reduceAdd, reduceSub, reduceLT, reduceLeDiff, reduceMul, reduceEqDiff, reduceIte]))
      all_goals try (exfalso; omega)
      all_goals exact Frz.eq rfl (by simp)
end Go.Proofs.YtahkhnagpdlkiaaGreat
