/- Part 9 of the texts that the claim rests on: abstract values over the walk, and contracts of functions. -/
import Derived.Test.YtahkhnagpdlkiaaGreatBu8
import Derived.Test.YtahkhnagpdlkiaaGreatRows
import Derived.WalkKit
import Derived.ProofKit
import Derived.OpenShut
import Derived.ShutString
import Derived.ChangeOld
import Derived.Below
namespace Go.Proofs.YtahkhnagpdlkiaaGreat
open Go.Abs
open Nat (reduceAdd reduceSub reduceLT reduceLeDiff reduceMul reduceEqDiff)
set_option linter.unusedVariables false
set_option linter.unusedSimpArgs false
set_option maxHeartbeats 4000000
set_option maxRecDepth 100000
open Go.ChangeShapes Go.WideShapes Go.ChangeAt Go.RowKit
theorem own:ownKnob Tryz.prog.godebug=none:=by kernel_rfl
theorem laidOut:laidOutB Tryz.prog=true:=by kernel_rfl
theorem cells3:Tryz.prog.cellsOf 3=1:=by kernel_rfl
theorem cells30:Tryz.prog.cellsOf 30=2:=by kernel_rfl
theorem cells45:Tryz.prog.cellsOf 45=1:=by kernel_rfl
theorem cells124:Tryz.prog.cellsOf 124=3:=by kernel_rfl
theorem cells78:Tryz.prog.cellsOf 78=1:=by kernel_rfl
theorem cells80:Tryz.prog.cellsOf 80=2:=by kernel_rfl
theorem cells68:Tryz.prog.cellsOf 68=1:=by kernel_rfl
theorem cells22:Tryz.prog.cellsOf 22=1:=by kernel_rfl
theorem cells24:Tryz.prog.cellsOf 24=1:=by kernel_rfl
theorem cells61:Tryz.prog.cellsOf 61=1:=by kernel_rfl
theorem cells31:Tryz.prog.cellsOf 31=1:=by kernel_rfl
theorem cells26:Tryz.prog.cellsOf 26=2:=by kernel_rfl
theorem cells27:Tryz.prog.cellsOf 27=1:=by kernel_rfl
theorem cells65:Tryz.prog.cellsOf 65=2:=by kernel_rfl
theorem cells28:Tryz.prog.cellsOf 28=1:=by kernel_rfl
theorem cells33:Tryz.prog.cellsOf 33=11:=by kernel_rfl
theorem op3:Opens Tryz.prog 3 Int (fun z=>[n z]) (fun _=>True):=(opens_int Tryz.underlying3).to id (fun _=>rfl) (fun _ _=>trivial)
theorem op30:Opens Tryz.prog 30 Sp Sp.cs (fun _=>True) :=
  (opens_struct Tryz.underlying30 cells30 (fun _=>rfl) (opensF_cons rfl cells3 op3 (fun _=>rfl) (opensF_cons rfl cells3 op3 (fun _=>rfl) (opensF_nil _)))).to (fun a=>⟨a.1,a.2.1⟩) (fun _=>rfl) (fun _ _=>trivial)
theorem op45:Opens Tryz.prog 45 (List Sp) (fun l=>[spS l]) (fun l=>l.length < 9223372036854775808) :=
  (opens_slice Tryz.underlying45 cells30 (by decide) op30 (fun _=>rfl)).to id (fun _=>rfl) (fun _ h=>h.1)
theorem op124:Opens Tryz.prog 124 Edg Edg.cs (fun _=>True) :=
  (opens_struct Tryz.underlying124 cells124 (fun _=>rfl) (opensF_cons rfl cells3 op3 (fun _=>rfl) (opensF_cons rfl cells30 op30 (fun _=>rfl) (opensF_nil _)))).to (fun a=>⟨a.1,a.2.1⟩) (fun _=>rfl) (fun _ _=>trivial)
theorem op78:Opens Tryz.prog 78 (List Edg) (fun l=>[edS l]) (fun l=>l.length < 9223372036854775808) :=
  (opens_slice Tryz.underlying78 cells124 (by decide) op124 (fun _=>rfl)).to id (fun _=>rfl) (fun _ h=>h.1)
theorem op80:Opens Tryz.prog 80 Nod Nod.cs nodSz :=
  (opens_struct Tryz.underlying80 cells80 (fun _=>rfl) (opensF_cons rfl cells45 op45 (fun _=>rfl) (opensF_cons rfl cells78 op78 (fun _=>rfl) (opensF_nil _)))).to (fun a=>⟨a.1,a.2.1⟩) (fun _=>rfl) (fun _ h=>⟨h.1,h.2.1⟩)
theorem op68:Opens Tryz.prog 68 (List Nod) (fun l=>[stS l]) stgSz :=
  (opens_slice Tryz.underlying68 cells80 (by decide) op80 (fun _=>rfl)).to id (fun _=>rfl) (fun _ h=>h)
theorem op22:Opens Tryz.prog 22 Trk (fun l=>[tkS l]) trkSz :=
  (opens_slice Tryz.underlying22 cells68 (by decide) op68 (fun _=>rfl)).to id (fun _=>rfl) (fun _ h=>h)
theorem op24:Opens Tryz.prog 24 Trk (fun l=>[tkS l]) trkSz :=
  (opens_struct Tryz.underlying24 cells24 (fun _=>rfl) (opensF_cons rfl cells22 op22 (fun _=>rfl) (opensF_nil _))).to (fun a=>a.1) (fun _=>rfl) (fun _ h=>h.1)
theorem op61:Opens Tryz.prog 61 (List (List Sp)) (fun l=>[nodS l]) (fun l=>l.length < 9223372036854775808∧∀ x∈l,x.length < 9223372036854775808) :=
  (opens_slice Tryz.underlying61 cells45 (by decide) op45 (fun _=>rfl)).to id (fun _=>rfl) (fun _ h=>h)
theorem op31:Opens Tryz.prog 31 (List (List (List Sp))) (fun l=>[stgS l]) setsSz :=
  (opens_slice Tryz.underlying31 cells61 (by decide) op61 (fun _=>rfl)).to id (fun _=>rfl) (fun _ h=>h)
theorem op26:Opens Tryz.prog 26 At At.cs (fun _=>True) :=
  (opens_struct Tryz.underlying26 cells26 (fun _=>rfl) (opensF_cons rfl cells3 op3 (fun _=>rfl) (opensF_cons rfl cells3 op3 (fun _=>rfl) (opensF_nil _)))).to (fun a=>⟨a.1,a.2.1⟩) (fun _=>rfl) (fun _ _=>trivial)
theorem op27:Opens Tryz.prog 27 (List At) (fun l=>[atS l]) (fun l=>l.length < 9223372036854775808) :=
  (opens_slice Tryz.underlying27 cells26 (by decide) op26 (fun _=>rfl)).to id (fun _=>rfl) (fun _ h=>h.1)
theorem op65:Opens Tryz.prog 65 Lim Lim.cs (fun x=>x.vs.length < 9223372036854775808) :=
  (opens_struct Tryz.underlying65 cells65 (fun _=>rfl) (opensF_cons rfl cells3 op3 (fun _=>rfl) (opensF_cons rfl cells45 op45 (fun _=>rfl) (opensF_nil _)))).to (fun a=>⟨a.1,a.2.1⟩) (fun _=>rfl) (fun _ h=>h.2.1)
theorem op28:Opens Tryz.prog 28 (List Lim) (fun l=>[liS l]) limSz :=
  (opens_slice Tryz.underlying28 cells65 (by decide) op65 (fun _=>rfl)).to id (fun _=>rfl) (fun _ h=>h)
structure Ask where
  stage:Int
  to:Int
  first:Int
  pl:At
  one:List At
  two:List At
  lims:List Lim
  ch:Sp
  sets:List (List (List Sp))
abbrev Ask.cs (x:Ask):List AV:=[n x.stage,n x.to,n x.first,n x.pl.node,n x.pl.val,atS x.one,atS x.two,liS x.lims,n x.ch.lo,n x.ch.hi,stgS x.sets]
def Ask.sz (x:Ask):Prop:=x.one.length < 9223372036854775808∧x.two.length < 9223372036854775808∧limSz x.lims∧setsSz x.sets
theorem op33:Opens Tryz.prog 33 Ask Ask.cs Ask.sz :=
  (opens_struct Tryz.underlying33 cells33 (fun _=>rfl) (opensF_cons rfl cells3 op3 (fun _=>rfl) (opensF_cons rfl cells3 op3 (fun _=>rfl) (opensF_cons rfl cells3 op3 (fun _=>rfl) (opensF_cons rfl cells26 op26 (fun _=>rfl) (opensF_cons rfl cells27 op27 (fun _=>rfl) (opensF_cons rfl cells27 op27 (fun _=>rfl) (opensF_cons rfl cells28 op28 (fun _=>rfl) (opensF_cons rfl cells30 op30 (fun _=>rfl) (opensF_cons rfl cells31 op31 (fun _=>rfl) (opensF_nil _))))))))))).to (fun a=>⟨a.1,a.2.1,a.2.2.1,a.2.2.2.1,a.2.2.2.2.1,a.2.2.2.2.2.1,a.2.2.2.2.2.2.1,a.2.2.2.2.2.2.2.1,a.2.2.2.2.2.2.2.2.1⟩) (fun _=>rfl) (fun _ h=>⟨h.2.2.2.2.1,h.2.2.2.2.2.1,h.2.2.2.2.2.2.1,h.2.2.2.2.2.2.2.2.1⟩)
section
variable {H:Type} {enc:TypeId × Value→H} {w:World} {r:Reach} {base b0:Nat} {sp:Nat→Bool} {held:Bool} {v:Value} {d:DataW H} {ps:List MemPlace}
theorem open_trk (h:Value.okWide Tryz.prog w r base 24 v) (hx:DataW.Trod enc Tryz.prog w b0 sp held 24 v d ps):∃ l:Trk,trkSz l∧RV w (fun _=>False) nob [] (trS l) v:=by
  obtain ⟨cs,rfl,_⟩:=okWide_struct Tryz.underlying24 h
  exact op24.agg hx
theorem open_ask (h:Value.okWide Tryz.prog w r base 33 v) (hx:DataW.Trod enc Tryz.prog w b0 sp held 33 v d ps):∃ l:Ask,Ask.sz l∧RV w (fun _=>False) nob [] (.agg l.cs) v:=by
  obtain ⟨cs,rfl,_⟩:=okWide_struct Tryz.underlying33 h
  exact op33.agg hx
end
end Go.Proofs.YtahkhnagpdlkiaaGreat
namespace Go.Proofs.YtahkhnagpdlkiaaGreat
open Go.Abs
open Nat (reduceAdd reduceSub reduceLT reduceLeDiff reduceMul reduceEqDiff)
set_option linter.unusedVariables false
set_option linter.unusedSimpArgs false
set_option maxHeartbeats 4000000
set_option maxRecDepth 100000
def c21:CF:=⟨54,
 (.seq (.ops [
 ⟨some 4,.mv (.c (.bool false)),none⟩] [0,1])
 (.seq (.seq (.ops [
 ⟨some 7,.mv (.t 0),none⟩,
 ⟨some 8,.len (.t 7),none⟩,
 ⟨some 9,.mv (.t 1),none⟩,
 ⟨some 10,.len (.t 9),none⟩,
 ⟨some 11,.bin .neq (.t 8) (.t 10),none⟩] [0,1,11])
 (.cond (.t 11) (.seq (.ops [
 ⟨some 4,.mv (.c (.bool false)),none⟩] [4])
 .ret)
 .skip))
 (.seq (.seq (.ops [
 ⟨some 5,.mv (.c (.int .i64 0)),none⟩] [0,1,5])
 (.block 0 (.loop (.seq (.seq (.ops [
 ⟨some 12,.mv (.t 5),none⟩,
 ⟨some 13,.mv (.t 0),none⟩,
 ⟨some 14,.len (.t 13),none⟩,
 ⟨some 15,.bin .lss (.t 12) (.t 14),none⟩] [0,1,5,15])
 (.cond (.t 15) .skip
 (.exit 0)))
 (.seq (.block 1 (.seq (.seq (.draw [
 ⟨some 18,.mv (.t 0),none⟩,
 ⟨some 19,.mv (.t 5),none⟩,
 ⟨some 20,.iaddr 1 (.t 18) (.t 19),none⟩,
 ⟨some 21,.load none (.t 20),none⟩,
 ⟨some 22,.len (.t 21),none⟩,
 ⟨some 23,.mv (.t 1),none⟩,
 ⟨some 24,.mv (.t 5),none⟩,
 ⟨some 25,.iaddr 1 (.t 23) (.t 24),none⟩,
 ⟨some 26,.load none (.t 25),none⟩,
 ⟨some 27,.len (.t 26),none⟩,
 ⟨some 28,.bin .neq (.t 22) (.t 27),none⟩] [
 ] [0,1,5,28])
 (.cond (.t 28) (.seq (.ops [
 ⟨some 4,.mv (.c (.bool false)),none⟩] [4])
 .ret)
 .skip))
 (.seq (.ops [
 ⟨some 6,.mv (.c (.int .i64 0)),none⟩] [0,1,5,6])
 (.block 2 (.loop (.seq (.seq (.ops [
 ⟨some 29,.mv (.t 6),none⟩,
 ⟨some 30,.mv (.t 0),none⟩,
 ⟨some 31,.mv (.t 5),none⟩,
 ⟨some 32,.iaddr 1 (.t 30) (.t 31),none⟩,
 ⟨some 33,.load none (.t 32),none⟩,
 ⟨some 34,.len (.t 33),none⟩,
 ⟨some 35,.bin .lss (.t 29) (.t 34),none⟩] [0,1,5,6,35])
 (.cond (.t 35) .skip
 (.exit 2)))
 (.seq (.block 3 (.seq (.draw [
 ⟨some 38,.mv (.t 0),none⟩,
 ⟨some 39,.mv (.t 5),none⟩,
 ⟨some 40,.iaddr 1 (.t 38) (.t 39),none⟩,
 ⟨some 41,.load none (.t 40),none⟩,
 ⟨some 42,.mv (.t 6),none⟩,
 ⟨some 43,.iaddr 1 (.t 41) (.t 42),none⟩,
 ⟨some 44,.load none (.t 43),none⟩,
 ⟨some 45,.mv (.t 1),none⟩,
 ⟨some 46,.mv (.t 5),none⟩,
 ⟨some 47,.iaddr 1 (.t 45) (.t 46),none⟩,
 ⟨some 48,.load none (.t 47),none⟩,
 ⟨some 49,.mv (.t 6),none⟩,
 ⟨some 50,.iaddr 1 (.t 48) (.t 49),none⟩,
 ⟨some 51,.load none (.t 50),none⟩,
 ⟨some 52,.call (.f 28) [(.t 44),(.t 51)],none⟩,
 ⟨some 53,.un .not (.t 52),none⟩] [
 ] [0,1,5,6,53])
 (.cond (.t 53) (.seq (.ops [
 ⟨some 4,.mv (.c (.bool false)),none⟩] [4])
 .ret)
 .skip)))
 (.ops [
 ⟨some 36,.mv (.t 6),none⟩,
 ⟨some 37,.bin .add (.t 36) (.c (.int .i64 1)),none⟩,
 ⟨some 6,.mv (.t 37),none⟩] [0,1,5,6]))))))))
 (.ops [
 ⟨some 16,.mv (.t 5),none⟩,
 ⟨some 17,.bin .add (.t 16) (.c (.int .i64 1)),none⟩,
 ⟨some 5,.mv (.t 17),none⟩] [0,1,5]))))))
 (.seq (.ops [
 ⟨some 4,.mv (.c (.bool true)),none⟩] [4])
 .ret)))),
 [.t 4]⟩
def c17:CF:=⟨112,
 (.seq (.ops [
 ⟨some 1,.box false 24 1 (.t 0),none⟩,
 ⟨some 2,.mv (.c (.bool false)),none⟩] [1])
 (.seq (.seq (.ops [
 ⟨some 6,.faddr 0 (.t 1),none⟩,
 ⟨some 7,.load none (.t 6),none⟩,
 ⟨some 8,.len (.t 7),none⟩,
 ⟨some 9,.bin .gtr (.t 8) (.c (.int .i64 8)),none⟩,
 ⟨some 10,.mv (.t 9),none⟩,
 ⟨some 11,.faddr 0 (.t 1),some (10,true)⟩,
 ⟨some 12,.load none (.t 11),some (10,true)⟩,
 ⟨some 13,.len (.t 12),some (10,true)⟩,
 ⟨some 14,.bin .leq (.t 13) (.c (.int .i64 401)),some (10,true)⟩,
 ⟨some 15,.pick (.t 10) (.t 14) (.c (.bool false)),none⟩,
 ⟨some 16,.mv (.t 15),none⟩,
 ⟨some 17,.faddr 0 (.t 1),some (16,false)⟩,
 ⟨some 18,.load none (.t 17),some (16,false)⟩,
 ⟨some 19,.len (.t 18),some (16,false)⟩,
 ⟨some 20,.bin .gtr (.t 19) (.c (.int .i64 802)),some (16,false)⟩,
 ⟨some 21,.pick (.t 16) (.c (.bool true)) (.t 20),none⟩] [1,21])
 (.cond (.t 21) (.seq (.ops [
 ⟨some 2,.mv (.c (.bool false)),none⟩] [2])
 .ret)
 .skip))
 (.seq (.seq (.ops [
 ⟨some 3,.mv (.c (.int .i64 0)),none⟩] [1,3])
 (.block 0 (.loop (.seq (.seq (.ops [
 ⟨some 22,.mv (.t 3),none⟩,
 ⟨some 23,.faddr 0 (.t 1),none⟩,
 ⟨some 24,.load none (.t 23),none⟩,
 ⟨some 25,.len (.t 24),none⟩,
 ⟨some 26,.bin .lss (.t 22) (.t 25),none⟩] [1,3,26])
 (.cond (.t 26) .skip
 (.exit 0)))
 (.seq (.block 1 (.seq (.seq (.ops [
 ⟨some 29,.faddr 0 (.t 1),none⟩,
 ⟨some 30,.load none (.t 29),none⟩,
 ⟨some 31,.mv (.t 3),none⟩,
 ⟨some 32,.iaddr 1 (.t 30) (.t 31),none⟩,
 ⟨some 33,.load none (.t 32),none⟩,
 ⟨some 34,.len (.t 33),none⟩,
 ⟨some 35,.bin .gtr (.t 34) (.c (.int .i64 6)),none⟩,
 ⟨some 36,.mv (.t 35),none⟩,
 ⟨some 37,.faddr 0 (.t 1),some (36,true)⟩,
 ⟨some 38,.load none (.t 37),some (36,true)⟩,
 ⟨some 39,.mv (.t 3),some (36,true)⟩,
 ⟨some 40,.iaddr 1 (.t 38) (.t 39),some (36,true)⟩,
 ⟨some 41,.load none (.t 40),some (36,true)⟩,
 ⟨some 42,.len (.t 41),some (36,true)⟩,
 ⟨some 43,.bin .leq (.t 42) (.c (.int .i64 4000)),some (36,true)⟩,
 ⟨some 44,.mv (.t 43),some (36,true)⟩,
 ⟨some 45,.faddr 0 (.t 1),some (44,false)⟩,
 ⟨some 46,.load none (.t 45),some (44,false)⟩,
 ⟨some 47,.len (.t 46),some (44,false)⟩,
 ⟨some 48,.bin .gtr (.t 47) (.c (.int .i64 8)),some (44,false)⟩,
 ⟨some 49,.pick (.t 44) (.c (.bool true)) (.t 48),some (36,true)⟩,
 ⟨some 50,.pick (.t 36) (.t 49) (.c (.bool false)),none⟩,
 ⟨some 51,.mv (.t 50),none⟩,
 ⟨some 52,.faddr 0 (.t 1),some (51,false)⟩,
 ⟨some 53,.load none (.t 52),some (51,false)⟩,
 ⟨some 54,.mv (.t 3),some (51,false)⟩,
 ⟨some 55,.iaddr 1 (.t 53) (.t 54),some (51,false)⟩,
 ⟨some 56,.load none (.t 55),some (51,false)⟩,
 ⟨some 57,.len (.t 56),some (51,false)⟩,
 ⟨some 58,.bin .gtr (.t 57) (.c (.int .i64 8000)),some (51,false)⟩,
 ⟨some 59,.pick (.t 51) (.c (.bool true)) (.t 58),none⟩] [1,3,59])
 (.cond (.t 59) (.seq (.ops [
 ⟨some 2,.mv (.c (.bool false)),none⟩] [2])
 .ret)
 .skip))
 (.seq (.ops [
 ⟨some 4,.mv (.c (.int .i64 0)),none⟩] [1,3,4])
 (.block 2 (.loop (.seq (.seq (.ops [
 ⟨some 60,.mv (.t 4),none⟩,
 ⟨some 61,.faddr 0 (.t 1),none⟩,
 ⟨some 62,.load none (.t 61),none⟩,
 ⟨some 63,.mv (.t 3),none⟩,
 ⟨some 64,.iaddr 1 (.t 62) (.t 63),none⟩,
 ⟨some 65,.load none (.t 64),none⟩,
 ⟨some 66,.len (.t 65),none⟩,
 ⟨some 67,.bin .lss (.t 60) (.t 66),none⟩] [1,3,4,67])
 (.cond (.t 67) .skip
 (.exit 2)))
 (.seq (.block 3 (.seq (.ops [
 ⟨some 70,.faddr 0 (.t 1),none⟩,
 ⟨some 71,.load none (.t 70),none⟩,
 ⟨some 72,.mv (.t 3),none⟩,
 ⟨some 73,.iaddr 1 (.t 71) (.t 72),none⟩,
 ⟨some 74,.load none (.t 73),none⟩,
 ⟨some 75,.mv (.t 4),none⟩,
 ⟨some 76,.iaddr 2 (.t 74) (.t 75),none⟩,
 ⟨some 77,.load (some 2) (.t 76),none⟩,
 ⟨some 5,.alloc 80 2 [.slice none 0 0,.slice none 0 0],none⟩,
 ⟨none,.store 2 (.t 5) (.t 77),none⟩] [1,3,4,5])
 (.seq (.ops [
 ⟨some 78,.faddr 0 (.t 5),none⟩,
 ⟨some 79,.load none (.t 78),none⟩,
 ⟨some 80,.len (.t 79),none⟩,
 ⟨some 81,.bin .gtr (.t 80) (.c (.int .i64 8)),none⟩,
 ⟨some 82,.mv (.t 81),none⟩,
 ⟨some 83,.faddr 0 (.t 5),some (82,true)⟩,
 ⟨some 84,.load none (.t 83),some (82,true)⟩,
 ⟨some 85,.len (.t 84),some (82,true)⟩,
 ⟨some 86,.bin .leq (.t 85) (.c (.int .i64 64)),some (82,true)⟩,
 ⟨some 87,.pick (.t 82) (.t 86) (.c (.bool false)),none⟩,
 ⟨some 88,.mv (.t 87),none⟩,
 ⟨some 89,.faddr 0 (.t 5),some (88,false)⟩,
 ⟨some 90,.load none (.t 89),some (88,false)⟩,
 ⟨some 91,.len (.t 90),some (88,false)⟩,
 ⟨some 92,.bin .gtr (.t 91) (.c (.int .i64 128)),some (88,false)⟩,
 ⟨some 93,.pick (.t 88) (.c (.bool true)) (.t 92),none⟩,
 ⟨some 94,.mv (.t 93),none⟩,
 ⟨some 95,.faddr 1 (.t 5),some (94,false)⟩,
 ⟨some 96,.load none (.t 95),some (94,false)⟩,
 ⟨some 97,.len (.t 96),some (94,false)⟩,
 ⟨some 98,.bin .gtr (.t 97) (.c (.int .i64 8)),some (94,false)⟩,
 ⟨some 99,.mv (.t 98),some (94,false)⟩,
 ⟨some 100,.faddr 1 (.t 5),some (99,true)⟩,
 ⟨some 101,.load none (.t 100),some (99,true)⟩,
 ⟨some 102,.len (.t 101),some (99,true)⟩,
 ⟨some 103,.bin .leq (.t 102) (.c (.int .i64 64)),some (99,true)⟩,
 ⟨some 104,.pick (.t 99) (.t 103) (.c (.bool false)),some (94,false)⟩,
 ⟨some 105,.pick (.t 94) (.c (.bool true)) (.t 104),none⟩,
 ⟨some 106,.mv (.t 105),none⟩,
 ⟨some 107,.faddr 1 (.t 5),some (106,false)⟩,
 ⟨some 108,.load none (.t 107),some (106,false)⟩,
 ⟨some 109,.len (.t 108),some (106,false)⟩,
 ⟨some 110,.bin .gtr (.t 109) (.c (.int .i64 128)),some (106,false)⟩,
 ⟨some 111,.pick (.t 106) (.c (.bool true)) (.t 110),none⟩] [1,3,4,111])
 (.cond (.t 111) (.seq (.ops [
 ⟨some 2,.mv (.c (.bool false)),none⟩] [2])
 .ret)
 .skip))))
 (.ops [
 ⟨some 68,.mv (.t 4),none⟩,
 ⟨some 69,.bin .add (.t 68) (.c (.int .i64 1)),none⟩,
 ⟨some 4,.mv (.t 69),none⟩] [1,3,4]))))))))
 (.ops [
 ⟨some 27,.mv (.t 3),none⟩,
 ⟨some 28,.bin .add (.t 27) (.c (.int .i64 1)),none⟩,
 ⟨some 3,.mv (.t 28),none⟩] [1,3]))))))
 (.seq (.ops [
 ⟨some 2,.mv (.c (.bool true)),none⟩] [2])
 .ret)))),
 [.t 2]⟩
theorem k21:chkF Tryz.prog Tryz.f21 c21=true:=by kernel_rfl
theorem k17:chkF Tryz.prog Tryz.f17 c17=true:=by kernel_rfl
abbrev manyN (x:Nod):Prop:=((8 < x.al.length∧x.al.length≤64)∨128 < x.al.length)∨(8 < x.nx.length∧x.nx.length≤64)∨128 < x.nx.length
abbrev manyL (m:Nat) (l:List Nod):Prop:=(6 < l.length∧(l.length≤4000∨8 < m))∨8000 < l.length
abbrev manyT (m:Nat):Prop:=(8 < m∧m≤401)∨802 < m
def fewB (t:Trk):Bool:=!decide (manyT t.length) && t.all fun l=>!decide (manyL t.length l) && l.all fun x=>!decide (manyN x)
theorem fewB_f1 {t:Trk} (h:manyT t.length):fewB t=false:=by unfold fewB; rw [decide_eq_true h]; rfl
theorem fewB_f {t:Trk} {l:List Nod} (hl:l∈t) (h:(!decide (manyL t.length l) && l.all fun x=>!decide (manyN x))=false):fewB t=false:=by
  unfold fewB
  have:(t.all fun l=>!decide (manyL t.length l) && l.all fun x=>!decide (manyN x))=false:=by
    cases ha:t.all fun l=>!decide (manyL t.length l) && l.all fun x=>!decide (manyN x) with
    | false=>rfl
    | true=>rw [List.all_eq_true.1 ha l hl] at h; cases h
  rw [this]; simp
theorem fewB_t {t:Trk} (h1:¬ manyT t.length) (h:∀ l∈t,¬ manyL t.length l∧∀ x∈l,¬ manyN x):fewB t=true:=by
  unfold fewB
  rw [decide_eq_false h1]
  have:(t.all fun l=>!decide (manyL t.length l) && l.all fun x=>!decide (manyN x))=true:=List.all_eq_true.2 fun l hl=>by
    obtain ⟨h2,h3⟩:=h l hl
    rw [decide_eq_false h2]
    have:(l.all fun x=>!decide (manyN x))=true:=List.all_eq_true.2 fun x hx=>by rw [decide_eq_false (h3 x hx)]; rfl
    rw [this]; rfl
  rw [this]; rfl
theorem few_spec (t:Trk) (hs:trkSz t):Pure Tryz.prog 17 [trS t] (bl (fewB t)):=by
  refine Pure.of_body Tryz.call17 Tryz.func17 k17 (Nat.le_of_ble_eq_true rfl) ?_
  unfold c17
  have h1:=hs.1
  (repeat' ((first
 | refine vn rfl ?_
 | simp (disch:=omega) only [wr64,Int.zero_sub]
 | refine bo (fun _=>?_) fun _=>?_
 | refine im fun _=>?_
 | refine cF ?_
 | refine om ?_
 | refine an ?_
 | fail) <;> try simp only [zT,zV,zS,zU,vcC,lateX,ex,strp,binA,elems,cells,scalar,eqC,keyA,intsA,lookA,ofVs,mpOf,Nat.reduceBEq,reduceAdd,reduceSub,reduceLT,reduceLeDiff,reduceMul,reduceEqDiff,reduceIte]))
  · rename_i h
    rw [fewB_f1 (by unfold manyT; omega)]
    exact Frz.eq rfl (by simp)
  rename_i hT
  refine AWPC.loopE (α:={ x:Nat × Sto // x.1≤t.length∧∀ l∈t.take x.1,¬ manyL t.length l∧∀ y∈l,¬ manyN y }) [3] (fun x=>[(3,n x.1.1)]) (fun x=>x.1.2) (fun x=>t.length - x.1.1) ⟨(0,[]),Nat.zero_le _,by simp⟩ ?_ rfl ?_
  · (simp only [zT,zV,zS,zU,vcC,lateX,ex,strp,binA,elems,cells,scalar,eqC,keyA,intsA,lookA,ofVs,mpOf,Nat.reduceBEq,reduceAdd,reduceSub,reduceLT,reduceLeDiff,reduceMul,reduceEqDiff,reduceIte]; try simp)
  rintro ⟨⟨k,μ⟩,hk,hk2⟩
  try simp only at hk hk2
  try simp only
  by_cases hlt:k < t.length
  · have htk:t[k]?=some (t.getD k []):=getD_some hlt
    have gtk:(t.map fun l=>[stS l]).getD k []=[stS (t.getD k [])]:=getD_map htk
    have hm:=List.mem_of_getElem? htk
    have hs2:=hs.2 _ hm
    have hsn:=take_snoc htk
    generalize t.getD k []=L at *
    obtain ⟨hL,hL2⟩:=hs2
    (repeat' ((first
 | refine vn rfl ?_
 | simp (disch:=omega) only [wr64,Int.zero_sub]
 | refine bo (fun _=>?_) fun _=>?_
 | refine im fun _=>?_
 | refine cF ?_
 | refine om ?_
 | refine an ?_
 | fail) <;> try simp only [zT,zV,zS,zU,vcC,lateX,ex,strp,binA,elems,cells,scalar,eqC,keyA,intsA,lookA,ofVs,mpOf,Nat.reduceBEq,reduceAdd,reduceSub,reduceLT,reduceLeDiff,reduceMul,reduceEqDiff,reduceIte,gtk]))
    all_goals try (exfalso; omega)
    · rename_i h
      rw [fewB_f hm (by rw [decide_eq_true (by unfold manyL; omega)]; rfl)]
      exact Frz.eq rfl (by simp)
    rename_i hM
    have hM':¬ manyL t.length L:=by unfold manyL; omega
    refine AWPC.loopE (α:={ x:Nat × Sto // x.1≤L.length∧∀ y∈L.take x.1,¬ manyN y }) [4] (fun x=>[(4,n x.1.1)]) (fun x=>x.1.2) (fun x=>L.length - x.1.1) ⟨(0,μ),Nat.zero_le _,by simp⟩ ?_ rfl ?_
    · (simp only [zT,zV,zS,zU,vcC,lateX,ex,strp,binA,elems,cells,scalar,eqC,keyA,intsA,lookA,ofVs,mpOf,Nat.reduceBEq,reduceAdd,reduceSub,reduceLT,reduceLeDiff,reduceMul,reduceEqDiff,reduceIte]; try simp)
    rintro ⟨⟨i,ν⟩,hi,hi2⟩
    try simp only at hi hi2
    try simp only
    by_cases hlt2:i < L.length
    · obtain ⟨x,hx⟩:∃ x,L[i]?=some x:=⟨_,List.getElem?_eq_getElem hlt2⟩
      have hxm:=List.mem_of_getElem? hx
      obtain ⟨x1,x2⟩:=hL2 x hxm
      have hsx:=take_snoc hx
      (repeat' ((first
 | refine vn rfl ?_
 | simp (disch:=omega) only [wr64,Int.zero_sub]
 | refine bo (fun _=>?_) fun _=>?_
 | refine im fun _=>?_
 | refine cF ?_
 | refine om ?_
 | refine an ?_
 | fail) <;> try simp only [zT,zV,zS,zU,vcC,lateX,ex,strp,binA,elems,cells,scalar,eqC,keyA,intsA,lookA,ofVs,mpOf,Nat.reduceBEq,reduceAdd,reduceSub,reduceLT,reduceLeDiff,reduceMul,reduceEqDiff,reduceIte,gtk,getD_map hx,List.cons_append]))
      all_goals try (exfalso; omega)
      · rename_i h
        have hN:manyN x:=by unfold manyN; omega
        have hf:(!decide (manyL t.length L) && L.all fun x=>!decide (manyN x))=false:=by
          rw [Bool.and_eq_false_iff]
          refine .inr ?_
          cases ha:L.all fun x=>!decide (manyN x) with
          | false=>rfl
          | true=>have:=List.all_eq_true.1 ha x hxm; rw [decide_eq_true hN] at this; cases this
        rw [fewB_f hm hf]
        exact Frz.eq rfl (by simp)
      · rename_i h
        have hN:¬ manyN x:=by unfold manyN; omega
        exact ⟨⟨(i+1,ν++[some [⟨80,2,[Nod.cs x],none⟩]]),hlt2,fun y hy=>by
          rw [hsx] at hy
          rcases List.mem_append.1 hy with h | h
          · exact hi2 y h
          · rw [List.mem_singleton.1 h]; exact hN⟩,rfl,rfl,by simp only; omega⟩
    · obtain rfl:i=L.length:=by omega
      rw [List.take_length] at hi2
      (repeat' ((first
 | refine vn rfl ?_
 | simp (disch:=omega) only [wr64,Int.zero_sub]
 | refine bo (fun _=>?_) fun _=>?_
 | refine im fun _=>?_
 | refine cF ?_
 | refine om ?_
 | refine an ?_
 | fail) <;> try simp only [zT,zV,zS,zU,vcC,lateX,ex,strp,binA,elems,cells,scalar,eqC,keyA,intsA,lookA,ofVs,mpOf,Nat.reduceBEq,reduceAdd,reduceSub,reduceLT,reduceLeDiff,reduceMul,reduceEqDiff,reduceIte,gtk]))
      all_goals try (exfalso; omega)
      exact ⟨⟨(k+1,ν),hlt,fun l hl=>by
        rw [hsn] at hl
        rcases List.mem_append.1 hl with h | h
        · exact hk2 l h
        · rw [List.mem_singleton.1 h]
          exact ⟨hM',hi2⟩⟩,rfl,rfl,by simp only; omega⟩
  · obtain rfl:k=t.length:=by omega
    rw [List.take_length] at hk2
    rw [fewB_t (by unfold manyT; omega) hk2]
    (repeat' ((first
 | refine vn rfl ?_
 | simp (disch:=omega) only [wr64,Int.zero_sub]
 | refine bo (fun _=>?_) fun _=>?_
 | refine im fun _=>?_
 | refine cF ?_
 | refine om ?_
 | refine an ?_
 | fail) <;> try simp only [zT,zV,zS,zU,vcC,lateX,ex,strp,binA,elems,cells,scalar,eqC,keyA,intsA,lookA,ofVs,mpOf,Nat.reduceBEq,reduceAdd,reduceSub,reduceLT,reduceLeDiff,reduceMul,reduceEqDiff,reduceIte]))
    all_goals try (exfalso; omega)
    exact Frz.eq rfl (by simp)
theorem SameSets_spec (p q:List (List (List Sp))) (hp:setsSz p) (hq:setsSz q):Pure Tryz.prog 21 [stgS p,stgS q] (bl (decide (p=q))):=by
  refine Pure.of_body Tryz.call21 Tryz.func21 k21 (Nat.le_of_ble_eq_true rfl) ?_
  unfold c21
  obtain ⟨hpl,hpx⟩:=hp
  obtain ⟨hql,hqx⟩:=hq
  (repeat' ((first
 | refine vn rfl ?_
 | simp (disch:=omega) only [wr64,Int.zero_sub]
 | refine bo (fun _=>?_) fun _=>?_
 | refine im fun _=>?_
 | refine cF ?_
 | refine om ?_
 | refine an ?_
 | fail) <;> try simp only [zT,zV,zS,zU,vcC,lateX,ex,strp,binA,elems,cells,scalar,eqC,keyA,intsA,lookA,ofVs,mpOf,Nat.reduceBEq,reduceAdd,reduceSub,reduceLT,reduceLeDiff,reduceMul,reduceEqDiff,reduceIte]))
  · rename_i h
    rw [decide_eq_false (fun e=>by rw [e] at h; simp at h)]
    exact Frz.eq rfl (by simp)
  rename_i h
  have hlen:p.length=q.length:=by omega
  refine AWPC.loopE (α:={ y:Nat // y≤p.length∧p.take y=q.take y }) [5] (fun y=>[(5,n y.1)]) (fun y=>[]) (fun y=>p.length - y.1) ⟨0,Nat.zero_le _,rfl⟩ ?_ rfl ?_
  · (simp only [zT,zV,zS,zU,vcC,lateX,ex,strp,binA,elems,cells,scalar,eqC,keyA,intsA,lookA,ofVs,mpOf,Nat.reduceBEq,reduceAdd,reduceSub,reduceLT,reduceLeDiff,reduceMul,reduceEqDiff,reduceIte]; try simp)
  rintro ⟨i,hi,hI⟩
  try simp only at hi hI
  try simp only
  by_cases hlt:i < p.length
  · obtain ⟨x,hx⟩:∃ x,p[i]?=some x:=⟨_,List.getElem?_eq_getElem hlt⟩
    obtain ⟨y,hy⟩:∃ y,q[i]?=some y:=⟨_,List.getElem?_eq_getElem (by omega)⟩
    obtain ⟨x1,x2⟩:=hpx x (List.mem_of_getElem? hx)
    obtain ⟨y1,y2⟩:=hqx y (List.mem_of_getElem? hy)
    have gx:(p.map fun l=>[nodS l]).getD i []=[nodS x]:=getD_map hx
    have gy:(q.map fun l=>[nodS l]).getD i []=[nodS y]:=getD_map hy
    have hne:x≠y→decide (p=q)=false:=fun h=>decide_eq_false fun e=>h (by rw [e,hy] at hx; exact (Option.some.inj hx).symm)
    (repeat' ((first
 | refine vn rfl ?_
 | simp (disch:=omega) only [wr64,Int.zero_sub]
 | refine bo (fun _=>?_) fun _=>?_
 | refine im fun _=>?_
 | refine cF ?_
 | refine om ?_
 | refine an ?_
 | fail) <;> try simp only [zT,zV,zS,zU,vcC,lateX,ex,strp,binA,elems,cells,scalar,eqC,keyA,intsA,lookA,ofVs,mpOf,Nat.reduceBEq,reduceAdd,reduceSub,reduceLT,reduceLeDiff,reduceMul,reduceEqDiff,reduceIte,gx,gy]))
    all_goals try (exfalso; omega)
    · rename_i h2
      rw [hne fun e=>by rw [e] at h2; simp at h2]
      exact Frz.eq rfl (by simp)
    rename_i h2
    have hlen2:x.length=y.length:=by omega
    refine AWPC.loopE (α:={ z:Nat // z≤x.length∧x.take z=y.take z }) [6] (fun z=>[(6,n z.1)]) (fun z=>[]) (fun z=>x.length - z.1) ⟨0,Nat.zero_le _,rfl⟩ ?_ rfl ?_
    · (simp only [zT,zV,zS,zU,vcC,lateX,ex,strp,binA,elems,cells,scalar,eqC,keyA,intsA,lookA,ofVs,mpOf,Nat.reduceBEq,reduceAdd,reduceSub,reduceLT,reduceLeDiff,reduceMul,reduceEqDiff,reduceIte]; try simp)
    rintro ⟨j,hj,hJ⟩
    try simp only at hj hJ
    try simp only
    by_cases hlt2:j < x.length
    · obtain ⟨u,hu⟩:∃ u,x[j]?=some u:=⟨_,List.getElem?_eq_getElem hlt2⟩
      obtain ⟨v,hv⟩:∃ v,y[j]?=some v:=⟨_,List.getElem?_eq_getElem (by omega)⟩
      have gu:(x.map fun l=>[spS l]).getD j []=[spS u]:=getD_map hu
      have gv:(y.map fun l=>[spS l]).getD j []=[spS v]:=getD_map hv
      have hss:=SameSpans_spec u v (x2 u (List.mem_of_getElem? hu)) (y2 v (List.mem_of_getElem? hv))
      by_cases huv:u=v
      · rw [decide_eq_true huv] at hss
        (repeat' ((first
 | refine vn rfl ?_
 | simp (disch:=omega) only [wr64,Int.zero_sub]
 | refine bo (fun _=>?_) fun _=>?_
 | refine im fun _=>?_
 | ((repeat refine si ?_); (first | ((first | refine .inl ⟨_,_,_,_,rfl,fun _=>pu hss,?_⟩ | refine ⟨_,_,_,_,rfl,fun _=>pu hss,?_⟩); (first | refine o1 ?_ | refine o2 ?_ | refine o3 ?_ | refine o4 ?_)) | refine .inl ⟨_,_,_,_,rfl,pu hss,?_⟩))
 | refine cF ?_
 | refine om ?_
 | refine an ?_
 | fail) <;> try simp only [zT, zV, zS, zU, vcC, lateX, ex, strp, binA, elems, cells, scalar, eqC, keyA, intsA, lookA, ofVs, mpOf, Nat.reduceBEq, reduceAdd, reduceSub, reduceLT, reduceLeDiff, reduceMul, reduceEqDiff, reduceIte, gx, gy, gu, gv]))
        all_goals try (exfalso; omega)
        exact ⟨⟨j+1,hlt2,by rw [List.take_add_one,List.take_add_one,hJ,hu,hv,huv]⟩,by simp,by simp only; omega⟩
      · rw [decide_eq_false huv] at hss
        have hxy:x≠y:=fun e=>huv (by rw [e,hv] at hu; exact (Option.some.inj hu).symm)
        (repeat' ((first
 | refine vn rfl ?_
 | simp (disch:=omega) only [wr64,Int.zero_sub]
 | refine bo (fun _=>?_) fun _=>?_
 | refine im fun _=>?_
 | ((repeat refine si ?_); (first | ((first | refine .inl ⟨_,_,_,_,rfl,fun _=>pu hss,?_⟩ | refine ⟨_,_,_,_,rfl,fun _=>pu hss,?_⟩); (first | refine o1 ?_ | refine o2 ?_ | refine o3 ?_ | refine o4 ?_)) | refine .inl ⟨_,_,_,_,rfl,pu hss,?_⟩))
 | refine cF ?_
 | refine om ?_
 | refine an ?_
 | fail) <;> try simp only [zT, zV, zS, zU, vcC, lateX, ex, strp, binA, elems, cells, scalar, eqC, keyA, intsA, lookA, ofVs, mpOf, Nat.reduceBEq, reduceAdd, reduceSub, reduceLT, reduceLeDiff, reduceMul, reduceEqDiff, reduceIte, gx, gy, gu, gv]))
        all_goals try (exfalso; omega)
        rw [hne hxy]
        exact Frz.eq rfl (by simp)
    · obtain rfl:j=x.length:=by omega
      rw [List.take_length,hlen2,List.take_length] at hJ
      (repeat' ((first
 | refine vn rfl ?_
 | simp (disch:=omega) only [wr64,Int.zero_sub]
 | refine bo (fun _=>?_) fun _=>?_
 | refine im fun _=>?_
 | refine cF ?_
 | refine om ?_
 | refine an ?_
 | fail) <;> try simp only [zT,zV,zS,zU,vcC,lateX,ex,strp,binA,elems,cells,scalar,eqC,keyA,intsA,lookA,ofVs,mpOf,Nat.reduceBEq,reduceAdd,reduceSub,reduceLT,reduceLeDiff,reduceMul,reduceEqDiff,reduceIte,gx,gy]))
      all_goals try (exfalso; omega)
      exact ⟨⟨i+1,hlt,by rw [List.take_add_one,List.take_add_one,hI,hx,hy,hJ]⟩,by simp,by simp only; omega⟩
  · obtain rfl:i=p.length:=by omega
    rw [List.take_length,hlen,List.take_length] at hI
    (repeat' ((first
 | refine vn rfl ?_
 | simp (disch:=omega) only [wr64,Int.zero_sub]
 | refine bo (fun _=>?_) fun _=>?_
 | refine im fun _=>?_
 | refine cF ?_
 | refine om ?_
 | refine an ?_
 | fail) <;> try simp only [zT,zV,zS,zU,vcC,lateX,ex,strp,binA,elems,cells,scalar,eqC,keyA,intsA,lookA,ofVs,mpOf,Nat.reduceBEq,reduceAdd,reduceSub,reduceLT,reduceLeDiff,reduceMul,reduceEqDiff,reduceIte]))
    all_goals try (exfalso; omega)
    rw [decide_eq_true hI]
    exact Frz.eq rfl (by simp)
def c120:CF:=⟨49,
 (.seq (.ops [
 ⟨some 4,.mv (.c (.bool false)),none⟩] [0,1])
 (.seq (.seq (.ops [
 ⟨some 6,.mv (.t 0),none⟩,
 ⟨some 7,.len (.t 6),none⟩,
 ⟨some 8,.bin .gtr (.t 7) (.c (.int .i64 64)),none⟩] [0,1,8])
 (.cond (.t 8) (.seq (.ops [
 ⟨some 4,.mv (.c (.bool false)),none⟩] [4])
 .ret)
 .skip))
 (.seq (.seq (.ops [
 ⟨some 5,.mv (.c (.int .i64 0)),none⟩] [0,1,5])
 (.block 0 (.loop (.seq (.seq (.ops [
 ⟨some 9,.mv (.t 5),none⟩,
 ⟨some 10,.mv (.t 0),none⟩,
 ⟨some 11,.len (.t 10),none⟩,
 ⟨some 12,.bin .lss (.t 9) (.t 11),none⟩] [0,1,5,12])
 (.cond (.t 12) .skip
 (.exit 0)))
 (.seq (.block 1 (.seq (.draw [
 ⟨some 15,.mv (.t 0),none⟩,
 ⟨some 16,.mv (.t 5),none⟩,
 ⟨some 17,.iaddr 3 (.t 15) (.t 16),none⟩,
 ⟨some 18,.faddr 0 (.t 17),none⟩,
 ⟨some 19,.load none (.t 18),none⟩,
 ⟨some 20,.mv (.t 1),none⟩,
 ⟨some 21,.bin .sub (.t 20) (.c (.int .i64 1)),none⟩,
 ⟨some 22,.call (.f 82) [(.t 19),(.c (.int .i64 0)),(.t 21)],none⟩,
 ⟨some 23,.un .not (.t 22),none⟩,
 ⟨some 24,.mv (.t 23),none⟩,
 ⟨some 25,.mv (.t 0),some (24,false)⟩,
 ⟨some 26,.mv (.t 5),some (24,false)⟩,
 ⟨some 27,.iaddr 3 (.t 25) (.t 26),some (24,false)⟩,
 ⟨some 28,.faddr 1 (.t 27),some (24,false)⟩,
 ⟨some 29,.faddr 0 (.t 28),some (24,false)⟩,
 ⟨some 30,.load none (.t 29),some (24,false)⟩,
 ⟨some 31,.mv (.t 0),some (24,false)⟩,
 ⟨some 32,.mv (.t 5),some (24,false)⟩,
 ⟨some 33,.iaddr 3 (.t 31) (.t 32),some (24,false)⟩,
 ⟨some 34,.faddr 1 (.t 33),some (24,false)⟩,
 ⟨some 35,.faddr 1 (.t 34),some (24,false)⟩,
 ⟨some 36,.load none (.t 35),some (24,false)⟩,
 ⟨some 37,.call (.f 82) [(.t 30),(.c (.int .i64 (-100000))),(.t 36)],some (24,false)⟩,
 ⟨some 38,.un .not (.t 37),some (24,false)⟩,
 ⟨some 39,.pick (.t 24) (.c (.bool true)) (.t 38),none⟩,
 ⟨some 40,.mv (.t 39),none⟩,
 ⟨some 41,.mv (.t 0),some (40,false)⟩,
 ⟨some 42,.mv (.t 5),some (40,false)⟩,
 ⟨some 43,.iaddr 3 (.t 41) (.t 42),some (40,false)⟩,
 ⟨some 44,.faddr 1 (.t 43),some (40,false)⟩,
 ⟨some 45,.faddr 1 (.t 44),some (40,false)⟩,
 ⟨some 46,.load none (.t 45),some (40,false)⟩,
 ⟨some 47,.bin .gtr (.t 46) (.c (.int .i64 100000)),some (40,false)⟩,
 ⟨some 48,.pick (.t 40) (.c (.bool true)) (.t 47),none⟩] [
 ] [0,1,5,48])
 (.cond (.t 48) (.seq (.ops [
 ⟨some 4,.mv (.c (.bool false)),none⟩] [4])
 .ret)
 .skip)))
 (.ops [
 ⟨some 13,.mv (.t 5),none⟩,
 ⟨some 14,.bin .add (.t 13) (.c (.int .i64 1)),none⟩,
 ⟨some 5,.mv (.t 14),none⟩] [0,1,5]))))))
 (.seq (.ops [
 ⟨some 4,.mv (.c (.bool true)),none⟩] [4])
 .ret)))),
 [.t 4]⟩
def c58:CF:=⟨77,
 (.seq (.ops [
 ⟨some 1,.box false 24 1 (.t 0),none⟩,
 ⟨some 2,.mv (.c (.int .i64 0)),none⟩] [1])
 (.seq (.seq (.ops [
 ⟨some 8,.faddr 0 (.t 1),none⟩,
 ⟨some 9,.load none (.t 8),none⟩,
 ⟨some 10,.len (.t 9),none⟩,
 ⟨some 11,.call (.f 82) [(.t 10),(.c (.int .i64 1)),(.c (.int .i64 401))],none⟩,
 ⟨some 12,.un .not (.t 11),none⟩] [1,12])
 (.cond (.t 12) (.seq (.ops [
 ⟨some 2,.mv (.c (.int .i64 40)),none⟩] [2])
 .ret)
 .skip))
 (.seq (.seq (.ops [
 ⟨some 3,.mv (.c (.int .i64 0)),none⟩] [1,3])
 (.block 0 (.loop (.seq (.seq (.ops [
 ⟨some 13,.mv (.t 3),none⟩,
 ⟨some 14,.faddr 0 (.t 1),none⟩,
 ⟨some 15,.load none (.t 14),none⟩,
 ⟨some 16,.len (.t 15),none⟩,
 ⟨some 17,.bin .lss (.t 13) (.t 16),none⟩] [1,3,17])
 (.cond (.t 17) .skip
 (.exit 0)))
 (.seq (.block 1 (.seq (.ops [
 ⟨some 20,.faddr 0 (.t 1),none⟩,
 ⟨some 21,.load none (.t 20),none⟩,
 ⟨some 22,.mv (.t 3),none⟩,
 ⟨some 23,.iaddr 1 (.t 21) (.t 22),none⟩,
 ⟨some 24,.load none (.t 23),none⟩,
 ⟨some 25,.len (.t 24),none⟩,
 ⟨some 26,.call (.f 82) [(.t 25),(.c (.int .i64 1)),(.c (.int .i64 4000))],none⟩,
 ⟨some 27,.un .not (.t 26),none⟩] [1,3,27])
 (.cond (.t 27) (.seq (.ops [
 ⟨some 2,.mv (.c (.int .i64 40)),none⟩] [2])
 .ret)
 .skip)))
 (.ops [
 ⟨some 18,.mv (.t 3),none⟩,
 ⟨some 19,.bin .add (.t 18) (.c (.int .i64 1)),none⟩,
 ⟨some 3,.mv (.t 19),none⟩] [1,3]))))))
 (.seq (.seq (.ops [
 ⟨some 4,.mv (.c (.int .i64 0)),none⟩] [1,4])
 (.block 2 (.loop (.seq (.seq (.ops [
 ⟨some 28,.mv (.t 4),none⟩,
 ⟨some 29,.faddr 0 (.t 1),none⟩,
 ⟨some 30,.load none (.t 29),none⟩,
 ⟨some 31,.len (.t 30),none⟩,
 ⟨some 32,.bin .lss (.t 28) (.t 31),none⟩] [1,4,32])
 (.cond (.t 32) .skip
 (.exit 2)))
 (.seq (.block 3 (.seq (.ops [
 ⟨some 5,.mv (.c (.int .i64 0)),none⟩] [1,4,5])
 (.seq (.seq (.ops [
 ⟨some 35,.mv (.t 4),none⟩,
 ⟨some 36,.bin .add (.t 35) (.c (.int .i64 1)),none⟩,
 ⟨some 37,.faddr 0 (.t 1),none⟩,
 ⟨some 38,.load none (.t 37),none⟩,
 ⟨some 39,.len (.t 38),none⟩,
 ⟨some 40,.bin .lss (.t 36) (.t 39),none⟩] [1,4,5,40])
 (.cond (.t 40) (.ops [
 ⟨some 41,.faddr 0 (.t 1),none⟩,
 ⟨some 42,.load none (.t 41),none⟩,
 ⟨some 43,.mv (.t 4),none⟩,
 ⟨some 44,.bin .add (.t 43) (.c (.int .i64 1)),none⟩,
 ⟨some 45,.iaddr 1 (.t 42) (.t 44),none⟩,
 ⟨some 46,.load none (.t 45),none⟩,
 ⟨some 47,.len (.t 46),none⟩,
 ⟨some 5,.mv (.t 47),none⟩] [1,4,5])
 .skip))
 (.seq (.ops [
 ⟨some 6,.mv (.c (.int .i64 0)),none⟩] [1,4,5,6])
 (.block 4 (.loop (.seq (.seq (.ops [
 ⟨some 48,.mv (.t 6),none⟩,
 ⟨some 49,.faddr 0 (.t 1),none⟩,
 ⟨some 50,.load none (.t 49),none⟩,
 ⟨some 51,.mv (.t 4),none⟩,
 ⟨some 52,.iaddr 1 (.t 50) (.t 51),none⟩,
 ⟨some 53,.load none (.t 52),none⟩,
 ⟨some 54,.len (.t 53),none⟩,
 ⟨some 55,.bin .lss (.t 48) (.t 54),none⟩] [1,4,5,6,55])
 (.cond (.t 55) .skip
 (.exit 4)))
 (.seq (.block 5 (.seq (.ops [
 ⟨some 58,.faddr 0 (.t 1),none⟩,
 ⟨some 59,.load none (.t 58),none⟩,
 ⟨some 60,.mv (.t 4),none⟩,
 ⟨some 61,.iaddr 1 (.t 59) (.t 60),none⟩,
 ⟨some 62,.load none (.t 61),none⟩,
 ⟨some 63,.mv (.t 6),none⟩,
 ⟨some 64,.iaddr 2 (.t 62) (.t 63),none⟩,
 ⟨some 65,.load (some 2) (.t 64),none⟩,
 ⟨some 7,.alloc 80 2 [.slice none 0 0,.slice none 0 0],none⟩,
 ⟨none,.store 2 (.t 7) (.t 65),none⟩] [1,4,5,6,7])
 (.seq (.ops [
 ⟨some 66,.faddr 0 (.t 7),none⟩,
 ⟨some 67,.load none (.t 66),none⟩,
 ⟨some 68,.call (.f 60) [(.t 67)],none⟩,
 ⟨some 69,.bin .neq (.t 68) (.c (.int .i64 0)),none⟩,
 ⟨some 70,.mv (.t 69),none⟩,
 ⟨some 71,.faddr 1 (.t 7),some (70,false)⟩,
 ⟨some 72,.load none (.t 71),some (70,false)⟩,
 ⟨some 73,.mv (.t 5),some (70,false)⟩,
 ⟨some 74,.call (.f 120) [(.t 72),(.t 73)],some (70,false)⟩,
 ⟨some 75,.un .not (.t 74),some (70,false)⟩,
 ⟨some 76,.pick (.t 70) (.c (.bool true)) (.t 75),none⟩] [1,4,5,6,76])
 (.cond (.t 76) (.seq (.ops [
 ⟨some 2,.mv (.c (.int .i64 40)),none⟩] [2])
 .ret)
 .skip))))
 (.ops [
 ⟨some 56,.mv (.t 6),none⟩,
 ⟨some 57,.bin .add (.t 56) (.c (.int .i64 1)),none⟩,
 ⟨some 6,.mv (.t 57),none⟩] [1,4,5,6])))))))))
 (.ops [
 ⟨some 33,.mv (.t 4),none⟩,
 ⟨some 34,.bin .add (.t 33) (.c (.int .i64 1)),none⟩,
 ⟨some 4,.mv (.t 34),none⟩] [1,4]))))))
 (.seq (.ops [
 ⟨some 2,.mv (.c (.int .i64 0)),none⟩] [2])
 .ret))))),
 [.t 2]⟩
theorem k120:chkF Tryz.prog Tryz.f120 c120=true:=by kernel_rfl
theorem k58:chkF Tryz.prog Tryz.f58 c58=true:=by kernel_rfl
def edgsOk (m:Nat) (l:List Edg):Prop:=l.length≤64∧∀ e∈l,edgOk m e
theorem edges_spec (l:List Edg) (m:Nat) (hl:l.length < 9223372036854775808) (hm:m < 9223372036854775808):Pure Tryz.prog 120 [edS l,n m] (bl (tr (edgsOk m l))):=by
  refine Pure.of_body Tryz.call120 Tryz.func120 k120 (Nat.le_of_ble_eq_true rfl) ?_
  unfold c120
  have hno:¬ edgsOk m l→tr (edgsOk m l)=false:=tr_0
  (repeat' ((first
 | refine vn rfl ?_
 | simp (disch:=omega) only [wr64,Int.zero_sub]
 | refine bo (fun _=>?_) fun _=>?_
 | refine im fun _=>?_
 | refine cF ?_
 | refine om ?_
 | refine an ?_
 | fail) <;> try simp only [zT,zV,zS,zU,vcC,lateX,ex,strp,binA,elems,cells,scalar,eqC,keyA,intsA,lookA,ofVs,mpOf,Nat.reduceBEq,reduceAdd,reduceSub,reduceLT,reduceLeDiff,reduceMul,reduceEqDiff,reduceIte]))
  · rename_i h
    rw [hno fun e=>by have:=e.1; omega]
    exact Frz.eq rfl (by simp)
  rename_i h64
  refine AWPC.loopE (α:={ y:Nat // y≤l.length∧∀ e∈l.take y,edgOk m e }) [5] (fun y=>[(5,n y.1)]) (fun y=>[]) (fun y=>l.length - y.1) ⟨0,Nat.zero_le _,by simp⟩ ?_ rfl ?_
  · (simp only [zT,zV,zS,zU,vcC,lateX,ex,strp,binA,elems,cells,scalar,eqC,keyA,intsA,lookA,ofVs,mpOf,Nat.reduceBEq,reduceAdd,reduceSub,reduceLT,reduceLeDiff,reduceMul,reduceEqDiff,reduceIte]; try simp)
  rintro ⟨i,hi,hI⟩
  try simp only at hi hI
  try simp only
  by_cases hlt:i < l.length
  · obtain ⟨e,he⟩:∃ e,l[i]?=some e:=⟨_,List.getElem?_eq_getElem hlt⟩
    have hem:=List.mem_of_getElem? he
    have hsn:=take_snoc he
    have w1:=within_spec e.to 0 ((m:Int) - 1)
    have w2:=within_spec e.ch.lo (-100000) e.ch.hi
    have hok:edgOk m e↔(0≤e.to∧e.to≤(m:Int) - 1)∧(-100000≤e.ch.lo∧e.ch.lo≤e.ch.hi)∧e.ch.hi≤100000:=by unfold edgOk chOk; omega
    have hbad:¬ edgOk m e→tr (edgsOk m l)=false:=fun h=>hno fun g=>h (g.2 e hem)
    by_cases h1:0≤e.to∧e.to≤(m:Int) - 1
    · rw [decide_eq_true h1] at w1
      by_cases h2:-100000≤e.ch.lo∧e.ch.lo≤e.ch.hi
      · rw [decide_eq_true h2] at w2
        (repeat' ((first
 | refine vn rfl ?_
 | simp (disch:=omega) only [wr64,Int.zero_sub]
 | refine bo (fun _=>?_) fun _=>?_
 | refine im fun _=>?_
 | ((repeat refine si ?_); (first | ((first | refine .inl ⟨_,_,_,_,rfl,fun _=>pu (by first | exact w1 | exact w2),?_⟩ | refine ⟨_,_,_,_,rfl,fun _=>pu (by first | exact w1 | exact w2),?_⟩); (first | refine o1 ?_ | refine o2 ?_ | refine o3 ?_ | refine o4 ?_)) | refine .inl ⟨_,_,_,_,rfl,pu (by first | exact w1 | exact w2),?_⟩))
 | refine cF ?_
 | refine om ?_
 | refine an ?_
 | fail) <;> try simp only [zT, zV, zS, zU, vcC, lateX, ex, strp, binA, elems, cells, scalar, eqC, keyA, intsA, lookA, ofVs, mpOf, Nat.reduceBEq, reduceAdd, reduceSub, reduceLT, reduceLeDiff, reduceMul, reduceEqDiff, reduceIte, getD_map he]))
        all_goals try (exfalso; omega)
        · rename_i h3
          rw [hbad fun h=>by have:=(hok.1 h).2.2; omega]
          exact Frz.eq rfl (by simp)
        · rename_i h3
          exact ⟨⟨i+1,hlt,fun y hy=>by
            rw [hsn] at hy
            rcases List.mem_append.1 hy with h | h
            · exact hI y h
            · rw [List.mem_singleton.1 h]; exact hok.2 ⟨h1,h2,by omega⟩⟩,rfl,by simp only; omega⟩
      · rw [decide_eq_false h2] at w2
        (repeat' ((first
 | refine vn rfl ?_
 | simp (disch:=omega) only [wr64,Int.zero_sub]
 | refine bo (fun _=>?_) fun _=>?_
 | refine im fun _=>?_
 | ((repeat refine si ?_); (first | ((first | refine .inl ⟨_,_,_,_,rfl,fun _=>pu (by first | exact w1 | exact w2),?_⟩ | refine ⟨_,_,_,_,rfl,fun _=>pu (by first | exact w1 | exact w2),?_⟩); (first | refine o1 ?_ | refine o2 ?_ | refine o3 ?_ | refine o4 ?_)) | refine .inl ⟨_,_,_,_,rfl,pu (by first | exact w1 | exact w2),?_⟩))
 | refine cF ?_
 | refine om ?_
 | refine an ?_
 | fail) <;> try simp only [zT, zV, zS, zU, vcC, lateX, ex, strp, binA, elems, cells, scalar, eqC, keyA, intsA, lookA, ofVs, mpOf, Nat.reduceBEq, reduceAdd, reduceSub, reduceLT, reduceLeDiff, reduceMul, reduceEqDiff, reduceIte, getD_map he]))
        all_goals try (exfalso; omega)
        rw [hbad fun h=>h2 (hok.1 h).2.1]
        exact Frz.eq rfl (by simp)
    · rw [decide_eq_false h1] at w1
      (repeat' ((first
 | refine vn rfl ?_
 | simp (disch:=omega) only [wr64,Int.zero_sub]
 | refine bo (fun _=>?_) fun _=>?_
 | refine im fun _=>?_
 | ((repeat refine si ?_); (first | ((first | refine .inl ⟨_,_,_,_,rfl,fun _=>pu (by first | exact w1 | exact w2),?_⟩ | refine ⟨_,_,_,_,rfl,fun _=>pu (by first | exact w1 | exact w2),?_⟩); (first | refine o1 ?_ | refine o2 ?_ | refine o3 ?_ | refine o4 ?_)) | refine .inl ⟨_,_,_,_,rfl,pu (by first | exact w1 | exact w2),?_⟩))
 | refine cF ?_
 | refine om ?_
 | refine an ?_
 | fail) <;> try simp only [zT,zV,zS,zU,vcC,lateX,ex,strp,binA,elems,cells,scalar,eqC,keyA,intsA,lookA,ofVs,mpOf,Nat.reduceBEq,reduceAdd,reduceSub,reduceLT,reduceLeDiff,reduceMul,reduceEqDiff,reduceIte,getD_map he]))
      all_goals try (exfalso; omega)
      rw [hbad fun h=>h1 (hok.1 h).1]
      exact Frz.eq rfl (by simp)
  · obtain rfl:i=l.length:=by omega
    rw [List.take_length] at hI
    have:tr (edgsOk m l)=true:=tr_1 ⟨by omega,hI⟩
    rw [this]
    (repeat' ((first
 | refine vn rfl ?_
 | simp (disch:=omega) only [wr64,Int.zero_sub]
 | refine bo (fun _=>?_) fun _=>?_
 | refine im fun _=>?_
 | refine cF ?_
 | refine om ?_
 | refine an ?_
 | fail) <;> try simp only [zT,zV,zS,zU,vcC,lateX,ex,strp,binA,elems,cells,scalar,eqC,keyA,intsA,lookA,ofVs,mpOf,Nat.reduceBEq,reduceAdd,reduceSub,reduceLT,reduceLeDiff,reduceMul,reduceEqDiff,reduceIte]))
    all_goals try (exfalso; omega)
    exact Frz.eq rfl (by simp)
theorem rCheck_spec (t:Trk) (hs:trkSz t):Pure Tryz.prog 58 [trS t] (n (if tr (valid t)=true then 0 else 40)):=by
  refine Pure.of_body Tryz.call58 Tryz.func58 k58 (Nat.le_of_ble_eq_true rfl) ?_
  unfold c58
  have h1:=hs.1
  have hno:¬ valid t→(if tr (valid t)=true then (0:Int) else 40)=40:=fun h=>by rw [tr_0 h]; rfl
  have hyes:valid t→(if tr (valid t)=true then (0:Int) else 40)=0:=fun h=>by rw [tr_1 h]; rfl
  generalize (if tr (valid t)=true then (0:Int) else 40)=R at *
  have w0:=within_spec (t.length:Int) 1 401
  by_cases h0:1≤(t.length:Int)∧(t.length:Int)≤401
  · rw [decide_eq_true h0] at w0
    (repeat' ((first
 | refine vn rfl ?_
 | simp (disch:=omega) only [wr64,Int.zero_sub]
 | refine bo (fun _=>?_) fun _=>?_
 | refine im fun _=>?_
 | ((repeat refine si ?_); (first | ((first | refine .inl ⟨_,_,_,_,rfl,fun _=>pu w0,?_⟩ | refine ⟨_,_,_,_,rfl,fun _=>pu w0,?_⟩); (first | refine o1 ?_ | refine o2 ?_ | refine o3 ?_ | refine o4 ?_)) | refine .inl ⟨_,_,_,_,rfl,pu w0,?_⟩))
 | refine cF ?_
 | refine om ?_
 | refine an ?_
 | fail) <;> try simp only [zT,zV,zS,zU,vcC,lateX,ex,strp,binA,elems,cells,scalar,eqC,keyA,intsA,lookA,ofVs,mpOf,Nat.reduceBEq,reduceAdd,reduceSub,reduceLT,reduceLeDiff,reduceMul,reduceEqDiff,reduceIte]))
    all_goals try (exfalso; omega)
    refine AWPC.loopE (α:={ y:Nat // y≤t.length∧∀ k,k < y→1≤wd t k∧wd t k≤4000 }) [3] (fun y=>[(3,n y.1)]) (fun y=>[]) (fun y=>t.length - y.1) ⟨0,Nat.zero_le _,by simp⟩ ?_ rfl ?_
    · (simp only [zT,zV,zS,zU,vcC,lateX,ex,strp,binA,elems,cells,scalar,eqC,keyA,intsA,lookA,ofVs,mpOf,Nat.reduceBEq,reduceAdd,reduceSub,reduceLT,reduceLeDiff,reduceMul,reduceEqDiff,reduceIte]; try simp)
    rintro ⟨i,hi,hI⟩
    try simp only at hi hI
    try simp only
    by_cases hlt:i < t.length
    · have htk:t[i]?=some (t.getD i []):=getD_some hlt
      have gtk:(t.map fun l=>[stS l]).getD i []=[stS (t.getD i [])]:=getD_map htk
      have hm:=List.mem_of_getElem? htk
      have hs2:=(hs.2 _ hm).1
      have hww:wd t i=(t.getD i []).length:=rfl
      have w1:=within_spec ((t.getD i []).length:Int) 1 4000
      have hbad:¬ (1≤wd t i∧wd t i≤4000)→¬ valid t:=fun h v=>h ⟨(valid_stg v hlt).1,(valid_stg v hlt).2.1⟩
      generalize t.getD i []=L at *
      by_cases h2:1≤(L.length:Int)∧(L.length:Int)≤4000
      · rw [decide_eq_true h2] at w1
        (repeat' ((first
 | refine vn rfl ?_
 | simp (disch:=omega) only [wr64,Int.zero_sub]
 | refine bo (fun _=>?_) fun _=>?_
 | refine im fun _=>?_
 | ((repeat refine si ?_); (first | ((first | refine .inl ⟨_,_,_,_,rfl,fun _=>pu w1,?_⟩ | refine ⟨_,_,_,_,rfl,fun _=>pu w1,?_⟩); (first | refine o1 ?_ | refine o2 ?_ | refine o3 ?_ | refine o4 ?_)) | refine .inl ⟨_,_,_,_,rfl,pu w1,?_⟩))
 | refine cF ?_
 | refine om ?_
 | refine an ?_
 | fail) <;> try simp only [zT, zV, zS, zU, vcC, lateX, ex, strp, binA, elems, cells, scalar, eqC, keyA, intsA, lookA, ofVs, mpOf, Nat.reduceBEq, reduceAdd, reduceSub, reduceLT, reduceLeDiff, reduceMul, reduceEqDiff, reduceIte, gtk]))
        all_goals try (exfalso; omega)
        exact ⟨⟨i+1,hlt,fun k hk=>by
          by_cases hki:k=i
          · subst hki; omega
          · exact hI k (by omega)⟩,rfl,by simp only; omega⟩
      · rw [decide_eq_false h2] at w1
        (repeat' ((first
 | refine vn rfl ?_
 | simp (disch:=omega) only [wr64,Int.zero_sub]
 | refine bo (fun _=>?_) fun _=>?_
 | refine im fun _=>?_
 | ((repeat refine si ?_); (first | ((first | refine .inl ⟨_,_,_,_,rfl,fun _=>pu w1,?_⟩ | refine ⟨_,_,_,_,rfl,fun _=>pu w1,?_⟩); (first | refine o1 ?_ | refine o2 ?_ | refine o3 ?_ | refine o4 ?_)) | refine .inl ⟨_,_,_,_,rfl,pu w1,?_⟩))
 | refine cF ?_
 | refine om ?_
 | refine an ?_
 | fail) <;> try simp only [zT, zV, zS, zU, vcC, lateX, ex, strp, binA, elems, cells, scalar, eqC, keyA, intsA, lookA, ofVs, mpOf, Nat.reduceBEq, reduceAdd, reduceSub, reduceLT, reduceLeDiff, reduceMul, reduceEqDiff, reduceIte, gtk]))
        all_goals try (exfalso; omega)
        rw [hno (hbad (by omega))]
        exact Frz.eq rfl (by simp)
    · obtain rfl:i=t.length:=by omega
      (repeat' ((first
 | refine vn rfl ?_
 | simp (disch:=omega) only [wr64,Int.zero_sub]
 | refine bo (fun _=>?_) fun _=>?_
 | refine im fun _=>?_
 | refine cF ?_
 | refine om ?_
 | refine an ?_
 | fail) <;> try simp only [zT,zV,zS,zU,vcC,lateX,ex,strp,binA,elems,cells,scalar,eqC,keyA,intsA,lookA,ofVs,mpOf,Nat.reduceBEq,reduceAdd,reduceSub,reduceLT,reduceLeDiff,reduceMul,reduceEqDiff,reduceIte]))
      all_goals try (exfalso; omega)
      refine AWPC.loopE (α:={ y:Nat × Sto // y.1≤t.length∧∀ k,k < y.1→∀ x∈t.getD k [],nodOk (wd t (k+1)) x }) [4] (fun y=>[(4,n y.1.1)]) (fun y=>y.1.2) (fun y=>t.length - y.1.1) ⟨(0,[]),Nat.zero_le _,by simp⟩ ?_ rfl ?_
      · (simp only [zT,zV,zS,zU,vcC,lateX,ex,strp,binA,elems,cells,scalar,eqC,keyA,intsA,lookA,ofVs,mpOf,Nat.reduceBEq,reduceAdd,reduceSub,reduceLT,reduceLeDiff,reduceMul,reduceEqDiff,reduceIte]; try simp)
      rintro ⟨⟨k,μ⟩,hk,hK⟩
      try simp only at hk hK
      try simp only
      by_cases hlt:k < t.length
      · have htk:t[k]?=some (t.getD k []):=getD_some hlt
        have gtk:(t.map fun l=>[stS l]).getD k []=[stS (t.getD k [])]:=getD_map htk
        have gt1:k+1 < t.length→(t.map fun l=>[stS l]).getD (k+1) []=[stS (t.getD (k+1) [])]:=fun h=>getD_map (getD_some h)
        have hm:=List.mem_of_getElem? htk
        obtain ⟨hL,hL2⟩:=hs.2 _ hm
        have hww:wd t (k+1)=(t.getD (k+1) []).length:=rfl
        have hw4:wd t (k+1)≤4000:=by
          by_cases h:k+1 < t.length
          · exact (hI (k+1) h).2
          · rw [hww,List.getD_eq_getElem?_getD,List.getElem?_eq_none (by omega)]; exact Nat.zero_le _
        have hbad:∀ x∈t.getD k [],¬ nodOk (wd t (k+1)) x→¬ valid t:=fun x hx h v=>h ((valid_stg v hlt).2.2 x hx)
        have hw0:¬ k+1 < t.length→wd t (k+1)=0:=fun h=>by rw [hww,List.getD_eq_getElem?_getD,List.getElem?_eq_none (by omega)]; rfl
        have ek:((k:Int)+1).toNat=k+1:=by omega
        obtain ⟨M,hM⟩:∃ M,M=wd t (k+1):=⟨_,rfl⟩
        rw [← hM] at hw4 hbad hw0
        have hK2:(∀ x∈t.getD k [],nodOk M x)→∀ k',k' < k+1→∀ x∈t.getD k' [],nodOk (wd t (k'+1)) x:=fun h k' hk'=>by
          by_cases e:k'=k
          · subst e; rw [← hM]; exact h
          · exact hK k' (by omega)
        rw [hww] at hM
        generalize hLL:t.getD k []=L at *
        by_cases hk1:k+1 < t.length
        case' pos=>(have g1:=gt1 hk1; (repeat' ((first
 | refine vn rfl ?_
 | simp (disch:=omega) only [wr64,Int.zero_sub]
 | refine bo (fun _=>?_) fun _=>?_
 | refine im fun _=>?_
 | refine cF ?_
 | refine om ?_
 | refine an ?_
 | fail) <;> try simp only [zT, zV, zS, zU, vcC, lateX, ex, strp, binA, elems, cells, scalar, eqC, keyA, intsA, lookA, ofVs, mpOf, Nat.reduceBEq, reduceAdd, reduceSub, reduceLT, reduceLeDiff, reduceMul, reduceEqDiff, reduceIte, gtk, g1, ek])))
        case' neg=>(have hM0:=hw0 hk1; (repeat' ((first
 | refine vn rfl ?_
 | simp (disch:=omega) only [wr64,Int.zero_sub]
 | refine bo (fun _=>?_) fun _=>?_
 | refine im fun _=>?_
 | refine cF ?_
 | refine om ?_
 | refine an ?_
 | fail) <;> try simp only [zT, zV, zS, zU, vcC, lateX, ex, strp, binA, elems, cells, scalar, eqC, keyA, intsA, lookA, ofVs, mpOf, Nat.reduceBEq, reduceAdd, reduceSub, reduceLT, reduceLeDiff, reduceMul, reduceEqDiff, reduceIte, gtk, ek])))
        all_goals try (exfalso; omega)
        all_goals refine AWPC.loopE (α:={ y:Nat × Sto // y.1≤L.length∧∀ x∈L.take y.1,nodOk M x }) [5,6] (fun y=>[(5,n (M:Int)),(6,n y.1.1)]) (fun y=>y.1.2) (fun y=>L.length - y.1.1) ⟨(0,μ),Nat.zero_le _,by simp⟩ (by (simp only [zT,zV,zS,zU,vcC,lateX,ex,strp,binA,elems,cells,scalar,eqC,keyA,intsA,lookA,ofVs,mpOf,Nat.reduceBEq,reduceAdd,reduceSub,reduceLT,reduceLeDiff,reduceMul,reduceEqDiff,reduceIte]; try simp); first | done | omega | (rw [hM,List.getD_eq_getElem?_getD]) | fail) rfl ?_
        all_goals (
          rintro ⟨⟨i,ν⟩,hi,hi2⟩
          try simp only at hi hi2
          try simp only
          by_cases hlt2:i < L.length
          · obtain ⟨x,hx⟩:∃ x,L[i]?=some x:=⟨_,List.getElem?_eq_getElem hlt2⟩
            have hxm:=List.mem_of_getElem? hx
            obtain ⟨x1,x2⟩:=hL2 x hxm
            have hsx:=take_snoc hx
            have c1:=rCheckSet_spec x.al x1
            have c2:=edges_spec x.nx M x2 (by omega)
            have hbx:=hbad x hxm
            by_cases hsm:small x.al
            · rw [tr_1 hsm] at c1
              by_cases he:edgsOk M x.nx
              · rw [tr_1 he] at c2
                simp only [if_true] at c1
                (repeat' ((first
 | refine vn rfl ?_
 | simp (disch:=omega) only [wr64,Int.zero_sub]
 | refine bo (fun _=>?_) fun _=>?_
 | refine im fun _=>?_
 | ((repeat refine si ?_); (first | ((first | refine .inl ⟨_,_,_,_,rfl,fun _=>pu (by first | exact c1 | exact c2),?_⟩ | refine ⟨_,_,_,_,rfl,fun _=>pu (by first | exact c1 | exact c2),?_⟩); (first | refine o1 ?_ | refine o2 ?_ | refine o3 ?_ | refine o4 ?_)) | refine .inl ⟨_,_,_,_,rfl,pu (by first | exact c1 | exact c2),?_⟩))
 | refine cF ?_
 | refine om ?_
 | refine an ?_
 | fail) <;> try simp only [zT, zV, zS, zU, vcC, lateX, ex, strp, binA, elems, cells, scalar, eqC, keyA, intsA, lookA, ofVs, mpOf, Nat.reduceBEq, reduceAdd, reduceSub, reduceLT, reduceLeDiff, reduceMul, reduceEqDiff, reduceIte, gtk, getD_map hx, List.cons_append]))
                all_goals try (exfalso; omega)
                exact ⟨⟨(i+1,ν++[some [⟨80,2,[Nod.cs x],none⟩]]),hlt2,fun y hy=>by
                  rw [hsx] at hy
                  rcases List.mem_append.1 hy with h | h
                  · exact hi2 y h
                  · rw [List.mem_singleton.1 h]; exact ⟨hsm,he.1,he.2⟩⟩,rfl,rfl,by simp only; omega⟩
              · rw [tr_0 he] at c2
                simp only [if_true] at c1
                (repeat' ((first
 | refine vn rfl ?_
 | simp (disch:=omega) only [wr64,Int.zero_sub]
 | refine bo (fun _=>?_) fun _=>?_
 | refine im fun _=>?_
 | ((repeat refine si ?_); (first | ((first | refine .inl ⟨_,_,_,_,rfl,fun _=>pu (by first | exact c1 | exact c2),?_⟩ | refine ⟨_,_,_,_,rfl,fun _=>pu (by first | exact c1 | exact c2),?_⟩); (first | refine o1 ?_ | refine o2 ?_ | refine o3 ?_ | refine o4 ?_)) | refine .inl ⟨_,_,_,_,rfl,pu (by first | exact c1 | exact c2),?_⟩))
 | refine cF ?_
 | refine om ?_
 | refine an ?_
 | fail) <;> try simp only [zT, zV, zS, zU, vcC, lateX, ex, strp, binA, elems, cells, scalar, eqC, keyA, intsA, lookA, ofVs, mpOf, Nat.reduceBEq, reduceAdd, reduceSub, reduceLT, reduceLeDiff, reduceMul, reduceEqDiff, reduceIte, gtk, getD_map hx, List.cons_append]))
                all_goals try (exfalso; omega)
                rw [hno (hbx fun h=>he ⟨h.2.1,h.2.2⟩)]
                exact Frz.eq rfl (by simp)
            · rw [tr_0 hsm] at c1
              simp only [Bool.false_eq_true,if_false] at c1
              (repeat' ((first
 | refine vn rfl ?_
 | simp (disch:=omega) only [wr64,Int.zero_sub]
 | refine bo (fun _=>?_) fun _=>?_
 | refine im fun _=>?_
 | ((repeat refine si ?_); (first | ((first | refine .inl ⟨_,_,_,_,rfl,fun _=>pu (by first | exact c1 | exact c2),?_⟩ | refine ⟨_,_,_,_,rfl,fun _=>pu (by first | exact c1 | exact c2),?_⟩); (first | refine o1 ?_ | refine o2 ?_ | refine o3 ?_ | refine o4 ?_)) | refine .inl ⟨_,_,_,_,rfl,pu (by first | exact c1 | exact c2),?_⟩))
 | refine cF ?_
 | refine om ?_
 | refine an ?_
 | fail) <;> try simp only [zT, zV, zS, zU, vcC, lateX, ex, strp, binA, elems, cells, scalar, eqC, keyA, intsA, lookA, ofVs, mpOf, Nat.reduceBEq, reduceAdd, reduceSub, reduceLT, reduceLeDiff, reduceMul, reduceEqDiff, reduceIte, gtk, getD_map hx, List.cons_append]))
              all_goals try (exfalso; omega)
              rw [hno (hbx fun h=>hsm h.1)]
              exact Frz.eq rfl (by simp)
          · obtain rfl:i=L.length:=by omega
            rw [List.take_length] at hi2
            (repeat' ((first
 | refine vn rfl ?_
 | simp (disch:=omega) only [wr64,Int.zero_sub]
 | refine bo (fun _=>?_) fun _=>?_
 | refine im fun _=>?_
 | refine cF ?_
 | refine om ?_
 | refine an ?_
 | fail) <;> try simp only [zT, zV, zS, zU, vcC, lateX, ex, strp, binA, elems, cells, scalar, eqC, keyA, intsA, lookA, ofVs, mpOf, Nat.reduceBEq, reduceAdd, reduceSub, reduceLT, reduceLeDiff, reduceMul, reduceEqDiff, reduceIte, gtk]))
            all_goals try (exfalso; omega)
            exact ⟨⟨(k+1,ν),hlt,hK2 hi2⟩,rfl,rfl,by simp only; omega⟩)
      · obtain rfl:k=t.length:=by omega
        have hv:valid t:=⟨by omega,by omega,fun k hk=>⟨(hI k hk).1,(hI k hk).2,hK k hk⟩⟩
        rw [hyes hv]
        (repeat' ((first
 | refine vn rfl ?_
 | simp (disch:=omega) only [wr64,Int.zero_sub]
 | refine bo (fun _=>?_) fun _=>?_
 | refine im fun _=>?_
 | refine cF ?_
 | refine om ?_
 | refine an ?_
 | fail) <;> try simp only [zT, zV, zS, zU, vcC, lateX, ex, strp, binA, elems, cells, scalar, eqC, keyA, intsA, lookA, ofVs, mpOf, Nat.reduceBEq, reduceAdd, reduceSub, reduceLT, reduceLeDiff, reduceMul, reduceEqDiff, reduceIte]))
        all_goals try (exfalso; omega)
        exact Frz.eq rfl (by simp)
  · rw [decide_eq_false h0] at w0
    (repeat' ((first
 | refine vn rfl ?_
 | simp (disch:=omega) only [wr64,Int.zero_sub]
 | refine bo (fun _=>?_) fun _=>?_
 | refine im fun _=>?_
 | ((repeat refine si ?_); (first | ((first | refine .inl ⟨_,_,_,_,rfl,fun _=>pu w0,?_⟩ | refine ⟨_,_,_,_,rfl,fun _=>pu w0,?_⟩); (first | refine o1 ?_ | refine o2 ?_ | refine o3 ?_ | refine o4 ?_)) | refine .inl ⟨_,_,_,_,rfl,pu w0,?_⟩))
 | refine cF ?_
 | refine om ?_
 | refine an ?_
 | fail) <;> try simp only [zT,zV,zS,zU,vcC,lateX,ex,strp,binA,elems,cells,scalar,eqC,keyA,intsA,lookA,ofVs,mpOf,Nat.reduceBEq,reduceAdd,reduceSub,reduceLT,reduceLeDiff,reduceMul,reduceEqDiff,reduceIte]))
    all_goals try (exfalso; omega)
    rw [hno fun v=>h0 (by have:=v.1; have:=v.2.1; omega)]
    exact Frz.eq rfl (by simp)
def c85:CF:=⟨32,
 (.seq (.ops [
 ⟨some 2,.box false 24 1 (.t 0),none⟩,
 ⟨some 4,.mv (.c (.slice none 0 0)),none⟩] [1,2])
 (.seq (.ops [
 ⟨some 5,.mv (.c (.slice none 0 0)),none⟩] [1,2,5])
 (.seq (.seq (.ops [
 ⟨some 6,.mv (.c (.int .i64 0)),none⟩] [1,2,5,6])
 (.block 0 (.loop (.seq (.seq (.ops [
 ⟨some 7,.mv (.t 6),none⟩,
 ⟨some 8,.faddr 0 (.t 2),none⟩,
 ⟨some 9,.load none (.t 8),none⟩,
 ⟨some 10,.mv (.t 1),none⟩,
 ⟨some 11,.iaddr 1 (.t 9) (.t 10),none⟩,
 ⟨some 12,.load none (.t 11),none⟩,
 ⟨some 13,.len (.t 12),none⟩,
 ⟨some 14,.bin .lss (.t 7) (.t 13),none⟩] [1,2,5,6,14])
 (.cond (.t 14) .skip
 (.exit 0)))
 (.seq (.block 1 (.ops [
 ⟨some 17,.mv (.t 5),none⟩,
 ⟨some 18,.bsl true 30 2 0 [] [],none⟩,
 ⟨some 19,.faddr 0 (.t 2),none⟩,
 ⟨some 20,.load none (.t 19),none⟩,
 ⟨some 21,.mv (.t 1),none⟩,
 ⟨some 22,.iaddr 1 (.t 20) (.t 21),none⟩,
 ⟨some 23,.load none (.t 22),none⟩,
 ⟨some 24,.mv (.t 6),none⟩,
 ⟨some 25,.iaddr 2 (.t 23) (.t 24),none⟩,
 ⟨some 26,.faddr 0 (.t 25),none⟩,
 ⟨some 27,.load none (.t 26),none⟩,
 ⟨some 28,.app 30 2 16 (.t 18) (.t 27),none⟩,
 ⟨some 29,.bsl false 45 1 1 [.slice none 0 0] [(0,1,(.t 28))],none⟩,
 ⟨some 30,.app 45 1 24 (.t 17) (.t 29),none⟩,
 ⟨some 5,.mv (.t 30),none⟩] [1,2,5,6]))
 (.ops [
 ⟨some 15,.mv (.t 6),none⟩,
 ⟨some 16,.bin .add (.t 15) (.c (.int .i64 1)),none⟩,
 ⟨some 6,.mv (.t 16),none⟩] [1,2,5,6]))))))
 (.seq (.ops [
 ⟨some 31,.mv (.t 5),none⟩,
 ⟨some 4,.mv (.t 31),none⟩] [4])
 .ret)))),
 [.t 4]⟩
def c116:CF:=⟨86,
 (.seq (.ops [
 ⟨some 3,.box false 24 1 (.t 0),none⟩,
 ⟨some 6,.mv (.c (.slice none 0 0)),none⟩] [1,2,3])
 (.seq (.ops [
 ⟨some 11,.faddr 0 (.t 3),none⟩,
 ⟨some 12,.load none (.t 11),none⟩,
 ⟨some 13,.mv (.t 1),none⟩,
 ⟨some 14,.bin .add (.t 13) (.c (.int .i64 1)),none⟩,
 ⟨some 15,.iaddr 1 (.t 12) (.t 14),none⟩,
 ⟨some 16,.load none (.t 15),none⟩,
 ⟨some 17,.len (.t 16),none⟩,
 ⟨some 18,.mksl 45 1 24 [.slice none 0 0] (.t 17) (.t 17),none⟩,
 ⟨some 7,.mv (.t 18),none⟩] [1,2,3,7])
 (.seq (.seq (.ops [
 ⟨some 8,.mv (.c (.int .i64 0)),none⟩] [1,2,3,7,8])
 (.block 0 (.loop (.seq (.seq (.ops [
 ⟨some 19,.mv (.t 8),none⟩,
 ⟨some 20,.faddr 0 (.t 3),none⟩,
 ⟨some 21,.load none (.t 20),none⟩,
 ⟨some 22,.mv (.t 1),none⟩,
 ⟨some 23,.iaddr 1 (.t 21) (.t 22),none⟩,
 ⟨some 24,.load none (.t 23),none⟩,
 ⟨some 25,.len (.t 24),none⟩,
 ⟨some 26,.bin .lss (.t 19) (.t 25),none⟩] [1,2,3,7,8,26])
 (.cond (.t 26) .skip
 (.exit 0)))
 (.seq (.block 1 (.seq (.ops [
 ⟨some 29,.faddr 0 (.t 3),none⟩,
 ⟨some 30,.load none (.t 29),none⟩,
 ⟨some 31,.mv (.t 1),none⟩,
 ⟨some 32,.iaddr 1 (.t 30) (.t 31),none⟩,
 ⟨some 33,.load none (.t 32),none⟩,
 ⟨some 34,.mv (.t 8),none⟩,
 ⟨some 35,.iaddr 2 (.t 33) (.t 34),none⟩,
 ⟨some 36,.faddr 1 (.t 35),none⟩,
 ⟨some 37,.load none (.t 36),none⟩,
 ⟨some 9,.mv (.t 37),none⟩] [1,2,3,7,8,9])
 (.seq (.ops [
 ⟨some 10,.mv (.c (.int .i64 0)),none⟩] [1,2,3,7,8,9,10])
 (.block 2 (.loop (.seq (.seq (.ops [
 ⟨some 38,.mv (.t 10),none⟩,
 ⟨some 39,.mv (.t 9),none⟩,
 ⟨some 40,.len (.t 39),none⟩,
 ⟨some 41,.bin .lss (.t 38) (.t 40),none⟩] [1,2,3,7,8,9,10,41])
 (.cond (.t 41) .skip
 (.exit 2)))
 (.seq (.block 3 (.draw [
 ⟨some 44,.mv (.t 7),none⟩,
 ⟨some 45,.mv (.t 9),none⟩,
 ⟨some 46,.mv (.t 10),none⟩,
 ⟨some 47,.iaddr 3 (.t 45) (.t 46),none⟩,
 ⟨some 48,.faddr 0 (.t 47),none⟩,
 ⟨some 49,.load none (.t 48),none⟩,
 ⟨some 50,.mv (.t 7),none⟩,
 ⟨some 51,.mv (.t 9),none⟩,
 ⟨some 52,.mv (.t 10),none⟩,
 ⟨some 53,.iaddr 3 (.t 51) (.t 52),none⟩,
 ⟨some 54,.faddr 0 (.t 53),none⟩,
 ⟨some 55,.load none (.t 54),none⟩,
 ⟨some 56,.iaddr 1 (.t 50) (.t 55),none⟩,
 ⟨some 57,.load none (.t 56),none⟩,
 ⟨some 58,.faddr 0 (.t 3),none⟩,
 ⟨some 59,.load none (.t 58),none⟩,
 ⟨some 60,.mv (.t 1),none⟩,
 ⟨some 61,.bin .add (.t 60) (.c (.int .i64 1)),none⟩,
 ⟨some 62,.iaddr 1 (.t 59) (.t 61),none⟩,
 ⟨some 63,.load none (.t 62),none⟩,
 ⟨some 64,.mv (.t 9),none⟩,
 ⟨some 65,.mv (.t 10),none⟩,
 ⟨some 66,.iaddr 3 (.t 64) (.t 65),none⟩,
 ⟨some 67,.faddr 0 (.t 66),none⟩,
 ⟨some 68,.load none (.t 67),none⟩,
 ⟨some 69,.iaddr 2 (.t 63) (.t 68),none⟩,
 ⟨some 70,.faddr 0 (.t 69),none⟩,
 ⟨some 71,.load none (.t 70),none⟩,
 ⟨some 72,.mv (.t 2),none⟩,
 ⟨some 73,.mv (.t 8),none⟩,
 ⟨some 74,.iaddr 1 (.t 72) (.t 73),none⟩,
 ⟨some 75,.load none (.t 74),none⟩,
 ⟨some 76,.mv (.t 9),none⟩,
 ⟨some 77,.mv (.t 10),none⟩,
 ⟨some 78,.iaddr 3 (.t 76) (.t 77),none⟩,
 ⟨some 79,.faddr 1 (.t 78),none⟩,
 ⟨some 80,.load (some 2) (.t 79),none⟩,
 ⟨some 81,.call (.f 155) [(.t 75),(.t 80)],none⟩,
 ⟨some 82,.call (.f 127) [(.t 71),(.t 81)],none⟩,
 ⟨some 83,.call (.f 126) [(.t 57),(.t 82)],none⟩,
 ⟨some 84,.iaddr 1 (.t 44) (.t 49),none⟩] [
 ⟨none,.store 1 (.t 84) (.t 83),none⟩] [1,2,3,7,8,9,10]))
 (.ops [
 ⟨some 42,.mv (.t 10),none⟩,
 ⟨some 43,.bin .add (.t 42) (.c (.int .i64 1)),none⟩,
 ⟨some 10,.mv (.t 43),none⟩] [1,2,3,7,8,9,10]))))))))
 (.ops [
 ⟨some 27,.mv (.t 8),none⟩,
 ⟨some 28,.bin .add (.t 27) (.c (.int .i64 1)),none⟩,
 ⟨some 8,.mv (.t 28),none⟩] [1,2,3,7,8]))))))
 (.seq (.ops [
 ⟨some 85,.mv (.t 7),none⟩,
 ⟨some 6,.mv (.t 85),none⟩] [6])
 .ret)))),
 [.t 6]⟩
theorem k85:chkF Tryz.prog Tryz.f85 c85=true:=by kernel_rfl
theorem k116:chkF Tryz.prog Tryz.f116 c116=true:=by kernel_rfl
theorem allowed_spec (t:Trk) (k:Nat) (hv:valid t) (hk:k < t.length):Pure Tryz.prog 85 [trS t,n k] (nodS (als t k)):=by
  refine Pure.of_body Tryz.call85 Tryz.func85 k85 (Nat.le_of_ble_eq_true rfl) ?_
  unfold c85
  have h2:=hv.2.1
  have htk:t[k]?=some (t.getD k []):=getD_some hk
  have gtk:(t.map fun l=>[stS l]).getD k []=[stS (t.getD k [])]:=getD_map htk
  obtain ⟨v1,v2,v3⟩:=valid_stg hv hk
  have hww:als t k=(t.getD k []).map (·.al):=rfl
  rw [hww]
  generalize t.getD k []=L at *
  ((first
 | refine vn rfl ?_
 | simp (disch:=omega) only [wr64,Int.zero_sub]
 | refine bo (fun _=>?_) fun _=>?_
 | refine im fun _=>?_
 | refine cF ?_
 | refine om ?_
 | refine an ?_
 | fail) <;> try simp only [zT,zV,zS,zU,vcC,lateX,ex,strp,binA,elems,cells,scalar,eqC,keyA,intsA,lookA,ofVs,mpOf,Nat.reduceBEq,reduceAdd,reduceSub,reduceLT,reduceLeDiff,reduceMul,reduceEqDiff,reduceIte])
  ((first
 | refine vn rfl ?_
 | simp (disch:=omega) only [wr64,Int.zero_sub]
 | refine bo (fun _=>?_) fun _=>?_
 | refine im fun _=>?_
 | refine cF ?_
 | refine om ?_
 | refine an ?_
 | fail) <;> try simp only [zT,zV,zS,zU,vcC,lateX,ex,strp,binA,elems,cells,scalar,eqC,keyA,intsA,lookA,ofVs,mpOf,Nat.reduceBEq,reduceAdd,reduceSub,reduceLT,reduceLeDiff,reduceMul,reduceEqDiff,reduceIte])
  ((first
 | refine vn rfl ?_
 | simp (disch:=omega) only [wr64,Int.zero_sub]
 | refine bo (fun _=>?_) fun _=>?_
 | refine im fun _=>?_
 | refine cF ?_
 | refine om ?_
 | refine an ?_
 | fail) <;> try simp only [zT,zV,zS,zU,vcC,lateX,ex,strp,binA,elems,cells,scalar,eqC,keyA,intsA,lookA,ofVs,mpOf,Nat.reduceBEq,reduceAdd,reduceSub,reduceLT,reduceLeDiff,reduceMul,reduceEqDiff,reduceIte])
  ((first
 | refine vn rfl ?_
 | simp (disch:=omega) only [wr64,Int.zero_sub]
 | refine bo (fun _=>?_) fun _=>?_
 | refine im fun _=>?_
 | refine cF ?_
 | refine om ?_
 | refine an ?_
 | fail) <;> try simp only [zT,zV,zS,zU,vcC,lateX,ex,strp,binA,elems,cells,scalar,eqC,keyA,intsA,lookA,ofVs,mpOf,Nat.reduceBEq,reduceAdd,reduceSub,reduceLT,reduceLeDiff,reduceMul,reduceEqDiff,reduceIte])
  refine AWPC.own0 45 1 5 rfl ?_
  refine AWPC.loopE (α:={ y:Nat // y≤L.length }) [5,6] (fun y=>[(5,.own 0 0 y.1),(6,n y.1)]) (fun y=>some [⟨45,1,(List.range y.1).map fun j=>[.own (j+1) 0 (L.getD j ⟨[],[]⟩).al.length],none⟩]::(L.take y.1).map fun x=>some [spO x.al]) (fun y=>L.length - y.1) ⟨0,Nat.zero_le _⟩ ?_ rfl ?_
  · (simp only [zT,zV,zS,zU,vcC,lateX,ex,strp,binA,elems,cells,scalar,eqC,keyA,intsA,lookA,ofVs,mpOf,Nat.reduceBEq,reduceAdd,reduceSub,reduceLT,reduceLeDiff,reduceMul,reduceEqDiff,reduceIte]; try simp)
  rintro ⟨i,hi⟩
  try simp only at hi
  try simp only
  by_cases hlt:i < L.length
  · obtain ⟨x,hx⟩:∃ x,L[i]?=some x:=⟨_,List.getElem?_eq_getElem hlt⟩
    have hxl:=(v3 x (List.mem_of_getElem? hx)).1.1
    have hsn:=take_snoc hx
    have hgd:L.getD i ⟨[],[]⟩=x:=by rw [List.getD_eq_getElem?_getD,hx]; rfl
    obtain ⟨τ,hτ⟩:∃ τ:Sto,τ=(L.take i).map fun x=>some [spO x.al]:=⟨_,rfl⟩
    have hτl:List.length τ=i:=by rw [hτ,List.length_map,List.length_take]; omega
    rw [← hτ]
    obtain ⟨E,hE⟩:∃ E:List (List AV),E=(List.range i).map fun j=>[.own (j+1) 0 (L.getD j ⟨[],[]⟩).al.length]:=⟨_,rfl⟩
    have hEl:E.length=i:=by rw [hE]; simp
    rw [← hE]
    have ro:=rows_ok x.al
    (repeat' ((first
 | refine vn rfl ?_
 | simp (disch:=omega) only [wr64,Int.zero_sub]
 | refine bo (fun _=>?_) fun _=>?_
 | refine im fun _=>?_
 | refine cF ?_
 | refine om ?_
 | refine an ?_
 | fail) <;> try simp only [zT,zV,zS,zU,vcC,lateX,ex,strp,binA,elems,cells,scalar,eqC,keyA,intsA,lookA,ofVs,mpOf,Nat.reduceBEq,reduceAdd,reduceSub,reduceLT,reduceLeDiff,reduceMul,reduceEqDiff,reduceIte,gtk,getD_map hx,hEl]))
    all_goals try (exfalso; omega)
    refine ⟨⟨ro,by omega⟩,by omega,?_⟩
    (repeat' ((first
 | refine vn rfl ?_
 | simp (disch:=omega) only [wr64,Int.zero_sub]
 | refine bo (fun _=>?_) fun _=>?_
 | refine im fun _=>?_
 | refine cF ?_
 | refine om ?_
 | refine an ?_
 | fail) <;> try simp only [zT,zV,zS,zU,vcC,lateX,ex,strp,binA,elems,cells,scalar,eqC,keyA,intsA,lookA,ofVs,mpOf,Nat.reduceBEq,reduceAdd,reduceSub,reduceLT,reduceLeDiff,reduceMul,reduceEqDiff,reduceIte]))
    all_goals try (exfalso; omega)
    exact ⟨⟨i+1,hlt⟩,⟨rfl,rfl⟩,by simp only; rw [hsn,List.range_succ,List.map_append,List.map_append,← hτ,← hE,hτl]; simp only [List.map_cons,List.map_nil,hgd]; (try rfl),by simp only; omega⟩
  · obtain rfl:i=L.length:=by omega
    rw [List.take_length]
    (repeat' ((first
 | refine vn rfl ?_
 | simp (disch:=omega) only [wr64,Int.zero_sub]
 | refine bo (fun _=>?_) fun _=>?_
 | refine im fun _=>?_
 | refine cF ?_
 | refine om ?_
 | refine an ?_
 | fail) <;> try simp only [zT,zV,zS,zU,vcC,lateX,ex,strp,binA,elems,cells,scalar,eqC,keyA,intsA,lookA,ofVs,mpOf,Nat.reduceBEq,reduceAdd,reduceSub,reduceLT,reduceLeDiff,reduceMul,reduceEqDiff,reduceIte,gtk]))
    all_goals try (exfalso; omega)
    refine Frz.own (σ:=some [⟨45,1,(List.range L.length).map fun j=>[.own (j+1) 0 (L.getD j ⟨[],[]⟩).al.length],none⟩]::L.map fun x=>some [spO x.al]) (f:=0) (i:=0) (n:=L.length) (o:=⟨45,1,(List.range L.length).map fun j=>[.own (j+1) 0 (L.getD j ⟨[],[]⟩).al.length],none⟩) (es:=(L.map (·.al)).map fun l=>[spS l]) (show (1:Nat)≠0 by decide) rfl (by simp) (by simp) (fun e j he hj=>?_) fun e he=>?_
    · obtain rfl:j=0:=by simp only at hj; omega
      have hx:=getD_some (l:=L) (d:=⟨[],[]⟩) he
      have hx2:(L.map (·.al))[e]?=some (L.getD e ⟨[],[]⟩).al:=by rw [List.getElem?_map,hx]; rfl
      rw [getD_map hx2,range_get _ he]
      refine frz_sp ?_
      rw [at_consS]
      unfold Sto.at
      rw [List.getElem?_map,hx]; rfl
    · have hx:=getD_some (l:=L) (d:=⟨[],[]⟩) he
      have hx2:(L.map (·.al))[e]?=some (L.getD e ⟨[],[]⟩).al:=by rw [List.getElem?_map,hx]; rfl
      rw [getD_map hx2]; rfl
def onR1 (cur al:List (List Sp)) (j:Nat) (acc:List Sp) (h:Hop):List Sp:=if h.to=j then joins acc (meet (al.getD j []) (joins [] (Abs.wide (cur.getD h.fr []) h.ch))) else acc
def onR (cur al:List (List Sp)) (hs:List Hop) (j:Nat):List Sp:=hs.foldl (onR1 cur al j) []
theorem onR_snoc (cur al:List (List Sp)) (hs:List Hop) (h:Hop) (j:Nat):onR cur al (hs++[h]) j=onR1 cur al j (onR cur al hs j) h:=by unfold onR; rw [List.foldl_append]; rfl
theorem wideJ_ok {l:List Sp} {c:Sp} (hl:good l) (hc:chOk c):OKs (joins [] (Abs.wide l c)):=joins_ok (wide_bdd hl.2 hc) OKs.nil
theorem onR_laws {cur al:List (List Sp)} (hc:goods cur):∀ {hs:List Hop},(∀ h∈hs,chOk h.ch)→∀ (j:Nat) (acc:List Sp),OKs acc →
    OKs (hs.foldl (onR1 cur al j) acc)∧∀ v,Mem v (hs.foldl (onR1 cur al j) acc)↔Mem v acc∨(Mem v (into hs cur j)∧Mem v (al.getD j []))
  | [],_,j,acc,ha=>⟨ha,fun v=>by simp [into,Mem.nil]⟩
  | h::hs,hh,j,acc,ha=>by
    have hch:=hh h List.mem_cons_self
    have hW:=wideJ_ok (goods_get hc h.fr) hch
    have ha':OKs (onR1 cur al j acc h):=by
      unfold onR1
      split
      · exact joins_ok (meet_ok hW.bd).bd ha
      · exact ha
    obtain ⟨i1,i2⟩:=onR_laws hc (fun g hg=>hh g (List.mem_cons_of_mem _ hg)) j _ ha'
    refine ⟨i1,fun v=>?_⟩
    rw [List.foldl_cons,i2]
    have e:into (h::hs) cur j=hop1 cur j h++into hs cur j:=rfl
    rw [e,mem_append]
    unfold onR1 hop1
    by_cases hj:h.to=j
    · rw [if_pos hj,if_pos hj,joins_mem ha.nm,meet_mem,joins0_mem]
      constructor
      · rintro ((a | ⟨a,b⟩) | ⟨a,b⟩)
        · exact .inl a
        · exact .inr ⟨.inl b,a⟩
        · exact .inr ⟨.inr a,b⟩
      · rintro (a | ⟨a | a,b⟩)
        · exact .inl (.inl a)
        · exact .inl (.inr ⟨b,a⟩)
        · exact .inr ⟨a,b⟩
    · rw [if_neg hj,if_neg hj]
      simp [Mem.nil]
theorem onR_ok {cur al:List (List Sp)} (hc:goods cur) {hs:List Hop} (hh:∀ h∈hs,chOk h.ch) (j:Nat):OKs (onR cur al hs j):=(onR_laws hc hh j [] OKs.nil).1
theorem onR_onto {cur al:List (List Sp)} (hc:goods cur) {hs:List Hop} (hh:∀ h∈hs,chOk h.ch) (j:Nat):onR cur al hs j=onto1 hs cur al j:=by
  obtain ⟨h1,h2⟩:=onR_laws (al:=al) hc hh j [] OKs.nil
  refine Norm.ext h1.nm (meet_norm _ _) fun v=>?_
  show Mem v (hs.foldl (onR1 cur al j) [])↔_
  rw [h2,onto1,meet_mem,joins0_mem]
  exact ⟨fun h=>h.resolve_left Mem.nil,.inr⟩
theorem hopsF_take:∀ (l:List Nod) (a i:Nat) (x:Nod),l[i]?=some x→hopsF a (l.take (i+1))=hopsF a (l.take i)++hopsOf (a+i) x
  | [],_,_,_,h=>by simp at h
  | y::r,a,0,x,h=>by simp at h; subst h; simp [hopsF]
  | y::r,a,i+1,x,h=>by
    have:=hopsF_take r (a+1) i x (by simpa using h)
    rw [List.take_succ_cons,hopsF,this,show a+1+i=a+(i+1) by omega,← List.append_assoc]; rfl
def hopsP (l:List Nod) (i:Nat) (es:List Edg):List Hop:=hopsF 0 (l.take i)++es.map fun e=>⟨i,e.to.toNat,e.ch⟩
theorem hopsP_snoc (l:List Nod) (i:Nat) {es:List Edg} {y:Nat} {e:Edg} (h:es[y]?=some e):hopsP l i (es.take (y+1))=hopsP l i (es.take y)++[⟨i,e.to.toNat,e.ch⟩]:=by
  unfold hopsP; rw [take_snoc h,List.map_append,List.append_assoc]; rfl
theorem hopsP_full {l:List Nod} {i:Nat} {x:Nod} (h:l[i]?=some x):hopsP l i x.nx=hopsF 0 (l.take (i+1)):=by
  rw [hopsF_take l 0 i x h,Nat.zero_add]; rfl
theorem hopsF_ch {l:List Nod} (hl:∀ x∈l,∀ e∈x.nx,chOk e.ch) (a:Nat):∀ h∈hopsF a l,chOk h.ch:=fun h hh=>by
  obtain ⟨k,x,e,hx,he,rfl⟩:=hopsF_mem.1 hh
  exact hl x (List.mem_of_getElem? hx) e he
theorem hopsP_ch {l:List Nod} (hl:∀ x∈l,∀ e∈x.nx,chOk e.ch) (i:Nat) {es:List Edg} (he:∀ e∈es,chOk e.ch):∀ h∈hopsP l i es,chOk h.ch:=fun h hh=>by
  rcases List.mem_append.1 hh with hh | hh
  · exact hopsF_ch (fun x hx=>hl x (List.mem_of_mem_take hx)) 0 h hh
  · obtain ⟨e,hem,rfl⟩:=List.mem_map.1 hh
    exact he e hem
def rowsR (cur al:List (List Sp)) (N:Nat) (hs:List Hop):List (List AV):=(List.range N).map fun j=>[spS (onR cur al hs j)]
theorem rowsR_get {cur al:List (List Sp)} {N:Nat} {hs:List Hop} {j:Nat} (h:j < N):(rowsR cur al N hs).getD j []=[spS (onR cur al hs j)]:=range_get _ h
theorem rowsR_len {cur al:List (List Sp)} {N:Nat} {hs:List Hop}:(rowsR cur al N hs).length=N:=by simp [rowsR]
theorem rowsR_set {cur al:List (List Sp)} {N:Nat} {hs:List Hop} (h:Hop):(rowsR cur al N hs).set h.to [spS (joins (onR cur al hs h.to) (meet (al.getD h.to []) (joins [] (Abs.wide (cur.getD h.fr []) h.ch))))]=rowsR cur al N (hs++[h]):=by
  unfold rowsR
  rw [range_set]
  refine range_congr fun j hj=>?_
  rw [onR_snoc,onR1]
  by_cases hjc:j=h.to
  · subst hjc; rw [if_pos rfl,if_pos rfl]
  · rw [if_neg hjc,if_neg fun e=>hjc e.symm]
theorem frz_nodO' {σ:Sto} {f m:Nat} {x:List (List Sp)} (h:σ.at f 0=some ⟨45,1,x.map (fun l=>[spS l]),none⟩) (hm:m=x.length):Frz σ (.own f 0 m) (nodS x):=hm ▸ frz_nodO h
theorem onward_spec (t:Trk) (k:Nat) (cur:List (List Sp)) (hv:valid t) (hk:k+1 < t.length) (hl:cur.length=wd t k) (hc:goods cur) :
    Pure Tryz.prog 116 [trS t,n k,nodS cur] (nodS (onto (stp t k) cur (als t (k+1)))):=by
  refine Pure.of_body Tryz.call116 Tryz.func116 k116 (Nat.le_of_ble_eq_true rfl) ?_
  unfold c116
  have h2:=hv.2.1
  have gtk:(t.map fun l=>[stS l]).getD k []=[stS (t.getD k [])]:=getD_map (getD_some (by omega))
  have gtk1:(t.map fun l=>[stS l]).getD (k+1) []=[stS (t.getD (k+1) [])]:=getD_map (getD_some hk)
  have ek:((k:Int)+1).toNat=k+1:=by omega
  obtain ⟨v1,v2,v3⟩:=valid_stg hv (show k < t.length by omega)
  obtain ⟨w1,w2,w3⟩:=valid_stg hv hk
  have hwk:wd t (k+1)=(t.getD (k+1) []).length:=rfl
  have hwk0:wd t k=(t.getD k []).length:=rfl
  have hal:als t (k+1)=(t.getD (k+1) []).map (·.al):=rfl
  have hst:stp t k=hopsF 0 (t.getD k []):=rfl
  rw [hal,hst]
  rw [hwk0] at hl
  rw [hwk] at v3
  generalize t.getD k []=L at *
  generalize t.getD (k+1) []=L2 at *
  have hch:∀ x∈L,∀ e∈x.nx,chOk e.ch:=fun x hx e he=>((v3 x hx).2.2 e he).2.2
  (repeat' ((first
 | refine vn rfl ?_
 | simp (disch:=omega) only [wr64,Int.zero_sub]
 | refine bo (fun _=>?_) fun _=>?_
 | refine im fun _=>?_
 | refine cF ?_
 | refine om ?_
 | refine an ?_
 | fail) <;> try simp only [zT,zV,zS,zU,vcC,lateX,ex,strp,binA,elems,cells,scalar,eqC,keyA,intsA,lookA,ofVs,mpOf,Nat.reduceBEq,reduceAdd,reduceSub,reduceLT,reduceLeDiff,reduceMul,reduceEqDiff,reduceIte,gtk,gtk1,ek]))
  all_goals try (exfalso; omega)
  refine AWPC.weakO (f:=0) (i:=0) (o:=⟨45,1,List.replicate L2.length [.v (.slice none 0 0)],none⟩) (o':=⟨45,1,rowsR cur (L2.map (·.al)) L2.length [],none⟩) rfl rfl rfl rfl rfl (by simp [rowsR_len]) (fun e he=>?_) (fun e j he hj=>?_) ?_
  · rw [rowsR_get (by simpa using he)]; rfl
  · simp only [List.length_replicate] at he
    obtain rfl:j=0:=by simp only at hj; omega
    intro w X β σ x hx
    rw [rowsR_get he]
    simp only [List.getD_eq_getElem?_getD,List.getElem?_replicate,if_pos he] at hx
    exact hx.nil
  simp only [zT,zV,zS,zU,vcC,lateX,ex,strp,binA,elems,cells,scalar,eqC,keyA,intsA,lookA,ofVs,mpOf,Nat.reduceBEq,reduceAdd,reduceSub,reduceLT,reduceLeDiff,reduceMul,reduceEqDiff,reduceIte]
  refine AWPC.loopE (α:={ y:Nat // y≤L.length }) [8] (fun y=>[(8,n y.1)]) (fun y=>[some [⟨45,1,rowsR cur (L2.map (·.al)) L2.length (hopsF 0 (L.take y.1)),none⟩]]) (fun y=>L.length - y.1) ⟨0,Nat.zero_le _⟩ ?_ ?_ ?_
  · (simp only [zT,zV,zS,zU,vcC,lateX,ex,strp,binA,elems,cells,scalar,eqC,keyA,intsA,lookA,ofVs,mpOf,Nat.reduceBEq,reduceAdd,reduceSub,reduceLT,reduceLeDiff,reduceMul,reduceEqDiff,reduceIte]; try simp)
  · rfl
  rintro ⟨i,hi⟩
  try simp only at hi
  try simp only
  by_cases hlt:i < L.length
  · obtain ⟨x,hx⟩:∃ x,L[i]?=some x:=⟨_,List.getElem?_eq_getElem hlt⟩
    have hxm:=List.mem_of_getElem? hx
    obtain ⟨x1,x2,x3⟩:=v3 x hxm
    have gcur:(cur.map fun l=>[spS l]).getD i []=[spS (cur.getD i [])]:=getD_map (getD_some (by omega))
    have gci:=goods_get hc i
    (repeat' ((first
 | refine vn rfl ?_
 | simp (disch:=omega) only [wr64,Int.zero_sub]
 | refine bo (fun _=>?_) fun _=>?_
 | refine im fun _=>?_
 | refine cF ?_
 | refine om ?_
 | refine an ?_
 | fail) <;> try simp only [zT,zV,zS,zU,vcC,lateX,ex,strp,binA,elems,cells,scalar,eqC,keyA,intsA,lookA,ofVs,mpOf,Nat.reduceBEq,reduceAdd,reduceSub,reduceLT,reduceLeDiff,reduceMul,reduceEqDiff,reduceIte,gtk,getD_map hx]))
    all_goals try (exfalso; omega)
    refine AWPC.loopE (α:={ y:Nat // y≤x.nx.length }) [10] (fun y=>[(10,n y.1)]) (fun y=>[some [⟨45,1,rowsR cur (L2.map (·.al)) L2.length (hopsP L i (x.nx.take y.1)),none⟩]]) (fun y=>x.nx.length - y.1) ⟨0,Nat.zero_le _⟩ ?_ ?_ ?_
    · (simp only [zT,zV,zS,zU,vcC,lateX,ex,strp,binA,elems,cells,scalar,eqC,keyA,intsA,lookA,ofVs,mpOf,Nat.reduceBEq,reduceAdd,reduceSub,reduceLT,reduceLeDiff,reduceMul,reduceEqDiff,reduceIte]; try simp)
    · simp [hopsP]
    rintro ⟨y,hy⟩
    try simp only at hy
    try simp only
    by_cases hlt2:y < x.nx.length
    · obtain ⟨e,he⟩:∃ e,x.nx[y]?=some e:=⟨_,List.getElem?_eq_getElem hlt2⟩
      have hem:=List.mem_of_getElem? he
      obtain ⟨e1,e2,e3⟩:=x3 e hem
      have hcN:e.to.toNat < L2.length:=by omega
      have gL2:(L2.map Nod.cs).getD e.to.toNat []=Nod.cs (L2.getD e.to.toNat ⟨[],[]⟩):=getD_map (getD_some hcN)
      have gal:(L2.map (·.al)).getD e.to.toNat []=(L2.getD e.to.toNat ⟨[],[]⟩).al:=getD_map (getD_some (d:=⟨[],[]⟩) hcN)
      have gga:good (L2.getD e.to.toNat ⟨[],[]⟩).al:=(w3 _ (List.mem_of_getElem? (getD_some (d:=⟨[],[]⟩) hcN))).1.2
      have hops:=hopsP_snoc L i he
      have hpc:∀ h∈hopsP L i (x.nx.take y),chOk h.ch:=hopsP_ch hch i fun f hf=>hch x hxm f (List.mem_of_mem_take hf)
      have hgR:=rowsR_get (cur:=cur) (al:=L2.map (·.al)) (hs:=hopsP L i (x.nx.take y)) hcN
      have hset:=rowsR_set (cur:=cur) (al:=L2.map (·.al)) (N:=L2.length) (hs:=hopsP L i (x.nx.take y)) ⟨i,e.to.toNat,e.ch⟩
      try simp only at hset
      rw [gal,← hops] at hset
      have hRl:=rowsR_len (cur:=cur) (al:=L2.map (·.al)) (N:=L2.length) (hs:=hopsP L i (x.nx.take y))
      have hR:=onR_ok (al:=L2.map (·.al)) hc hpc e.to.toNat
      have hW:=wideJ_ok gci e3
      have hwi:=wide_spec (cur.getD i []) e.ch gci e3
      have hme:=meetR_spec (L2.getD e.to.toNat ⟨[],[]⟩).al (joins [] (Abs.wide (cur.getD i []) e.ch)) (good_ok gga).bd hW.bd (by have:=good_len gga; omega) (by have:=hW.len; omega)
      have hM:=meet_ok (a:=(L2.getD e.to.toNat ⟨[],[]⟩).al) hW.bd
      have hun:=union_spec _ _ hR hM.bd hM.nm.ne (by have:=hM.len; omega)
      generalize onR cur (L2.map (·.al)) (hopsP L i (x.nx.take y)) e.to.toNat=Q at *
      generalize rowsR cur (L2.map (·.al)) L2.length (hopsP L i (x.nx.take y))=E at *
      generalize (L2.getD e.to.toNat ⟨[],[]⟩)=x' at *
      (repeat' ((first
 | refine vn rfl ?_
 | simp (disch:=omega) only [wr64,Int.zero_sub]
 | refine bo (fun _=>?_) fun _=>?_
 | refine im fun _=>?_
 | ((repeat refine si ?_); (first | ((first | refine .inl ⟨_,_,_,_,rfl,fun _=>pu (by first | exact hwi | exact hme | exact hun),?_⟩ | refine ⟨_,_,_,_,rfl,fun _=>pu (by first | exact hwi | exact hme | exact hun),?_⟩); (first | refine o1 ?_ | refine o2 ?_ | refine o3 ?_ | refine o4 ?_)) | refine .inl ⟨_,_,_,_,rfl,pu (by first | exact hwi | exact hme | exact hun),?_⟩))
 | refine cF ?_
 | refine om ?_
 | refine an ?_
 | fail) <;> try simp only [zT,zV,zS,zU,vcC,lateX,ex,strp,binA,elems,cells,scalar,eqC,keyA,intsA,lookA,ofVs,mpOf,Nat.reduceBEq,reduceAdd,reduceSub,reduceLT,reduceLeDiff,reduceMul,reduceEqDiff,reduceIte,gtk,gtk1,ek,getD_map hx,getD_map he,gL2,gcur,hgR,hRl]))
      all_goals try (exfalso; omega)
      exact ⟨⟨y+1,hlt2⟩,rfl,congrArg (fun z=>[some [(⟨45,1,z,none⟩:Ob)]]) hset,by simp only; omega⟩
    · obtain rfl:y=x.nx.length:=by omega
      rw [List.take_length,hopsP_full hx]
      (repeat' ((first
 | refine vn rfl ?_
 | simp (disch:=omega) only [wr64,Int.zero_sub]
 | refine bo (fun _=>?_) fun _=>?_
 | refine im fun _=>?_
 | refine cF ?_
 | refine om ?_
 | refine an ?_
 | fail) <;> try simp only [zT,zV,zS,zU,vcC,lateX,ex,strp,binA,elems,cells,scalar,eqC,keyA,intsA,lookA,ofVs,mpOf,Nat.reduceBEq,reduceAdd,reduceSub,reduceLT,reduceLeDiff,reduceMul,reduceEqDiff,reduceIte]))
      all_goals try (exfalso; omega)
      exact ⟨⟨i+1,hlt⟩,rfl,rfl,by simp only; omega⟩
  · obtain rfl:i=L.length:=by omega
    rw [List.take_length]
    (repeat' ((first
 | refine vn rfl ?_
 | simp (disch:=omega) only [wr64,Int.zero_sub]
 | refine bo (fun _=>?_) fun _=>?_
 | refine im fun _=>?_
 | refine cF ?_
 | refine om ?_
 | refine an ?_
 | fail) <;> try simp only [zT,zV,zS,zU,vcC,lateX,ex,strp,binA,elems,cells,scalar,eqC,keyA,intsA,lookA,ofVs,mpOf,Nat.reduceBEq,reduceAdd,reduceSub,reduceLT,reduceLeDiff,reduceMul,reduceEqDiff,reduceIte,gtk]))
    all_goals try (exfalso; omega)
    have hfin:rowsR cur (L2.map (·.al)) L2.length (hopsF 0 L)=(onto (hopsF 0 L) cur (L2.map (·.al))).map fun l=>[spS l]:=by
      unfold rowsR onto
      rw [List.map_map,List.length_map]
      exact range_congr fun j _=>by rw [onR_onto hc (hopsF_ch hch 0)]; rfl
    rw [hfin]
    exact frz_nodO' rfl (by simp [onto])
def c84:CF:=⟨28,
 (.seq (.ops [
 ⟨some 2,.box false 24 1 (.t 0),none⟩,
 ⟨some 4,.mv (.c (.slice none 0 0)),none⟩] [1,2])
 (.seq (.ops [
 ⟨some 7,.mv (.t 1),none⟩,
 ⟨some 8,.bsl true 61 1 1 [.slice none 0 0] [(0,1,(.t 7))],none⟩,
 ⟨some 5,.mv (.t 8),none⟩] [2,5])
 (.seq (.seq (.ops [
 ⟨some 6,.mv (.c (.int .i64 0)),none⟩] [2,5,6])
 (.block 0 (.loop (.seq (.seq (.ops [
 ⟨some 9,.mv (.t 6),none⟩,
 ⟨some 10,.bin .add (.t 9) (.c (.int .i64 1)),none⟩,
 ⟨some 11,.faddr 0 (.t 2),none⟩,
 ⟨some 12,.load none (.t 11),none⟩,
 ⟨some 13,.len (.t 12),none⟩,
 ⟨some 14,.bin .lss (.t 10) (.t 13),none⟩] [2,5,6,14])
 (.cond (.t 14) .skip
 (.exit 0)))
 (.seq (.block 1 (.draw [
 ⟨some 17,.mv (.t 5),none⟩,
 ⟨some 18,.load (some 1) (.t 2),none⟩,
 ⟨some 19,.mv (.t 6),none⟩,
 ⟨some 20,.mv (.t 5),none⟩,
 ⟨some 21,.mv (.t 6),none⟩,
 ⟨some 22,.iaddr 1 (.t 20) (.t 21),none⟩,
 ⟨some 23,.load none (.t 22),none⟩,
 ⟨some 24,.call (.f 116) [(.t 18),(.t 19),(.t 23)],none⟩,
 ⟨some 25,.bsl false 61 1 1 [.slice none 0 0] [(0,1,(.t 24))],none⟩] [
 ⟨some 26,.app 61 1 24 (.t 17) (.t 25),none⟩,
 ⟨some 5,.mv (.t 26),none⟩] [2,5,6]))
 (.ops [
 ⟨some 15,.mv (.t 6),none⟩,
 ⟨some 16,.bin .add (.t 15) (.c (.int .i64 1)),none⟩,
 ⟨some 6,.mv (.t 16),none⟩] [2,5,6]))))))
 (.seq (.ops [
 ⟨some 27,.mv (.t 5),none⟩,
 ⟨some 4,.mv (.t 27),none⟩] [4])
 .ret)))),
 [.t 4]⟩
def c31:CF:=⟨14,
 (.seq (.ops [
 ⟨some 1,.box false 24 1 (.t 0),none⟩,
 ⟨some 2,.mv (.c (.slice none 0 0)),none⟩,
 ⟨some 3,.mv (.c (.int .i64 0)),none⟩] [1])
 (.seq (.ops [
 ⟨some 5,.load (some 1) (.t 1),none⟩,
 ⟨some 6,.call (.f 58) [(.t 5)],none⟩,
 ⟨some 4,.mv (.t 6),none⟩] [1,4])
 (.seq (.seq (.ops [
 ⟨some 7,.mv (.t 4),none⟩,
 ⟨some 8,.bin .neq (.t 7) (.c (.int .i64 0)),none⟩] [1,4,8])
 (.cond (.t 8) (.seq (.ops [
 ⟨some 9,.mv (.t 4),none⟩,
 ⟨some 2,.mv (.c (.slice none 0 0)),none⟩,
 ⟨some 3,.mv (.t 9),none⟩] [2,3])
 .ret)
 .skip))
 (.seq (.draw [
 ⟨some 10,.load (some 1) (.t 1),none⟩,
 ⟨some 11,.load (some 1) (.t 1),none⟩,
 ⟨some 12,.call (.f 85) [(.t 11),(.c (.int .i64 0))],none⟩,
 ⟨some 13,.call (.f 84) [(.t 10),(.t 12)],none⟩,
 ⟨some 2,.mv (.t 13),none⟩,
 ⟨some 3,.mv (.c (.int .i64 0)),none⟩] [
 ] [2,3])
 .ret)))),
 [.t 2,.t 3]⟩
theorem k84:chkF Tryz.prog Tryz.f84 c84=true:=by kernel_rfl
theorem k31:chkF Tryz.prog Tryz.f31 c31=true:=by kernel_rfl
theorem frz_stgO {σ:Sto} {f m:Nat} {l:List (List (List Sp))} (h:σ.at f 0=some ⟨61,1,l.map fun x=>[nodS x],none⟩) (hm:m=l.length):Frz σ (.own f 0 m) (stgS l):=by
  subst hm
  refine Frz.own (o:=⟨61,1,l.map fun x=>[nodS x],none⟩) (es:=l.map fun x=>[nodS x]) (show (1:Nat)≠0 by decide) h (by simp) (by simp) (fun e j he hj=>?_) fun e he=>?_
  · obtain ⟨x,hx⟩:∃ x,l[e]?=some x:=⟨_,List.getElem?_eq_getElem he⟩
    rw [getD_map hx]
    match j,hj with
    | 0,_=>exact Frz.eq rfl (by simp)
  · obtain ⟨x,hx⟩:∃ x,l[e]?=some x:=⟨_,List.getElem?_eq_getElem he⟩
    rw [getD_map hx]; rfl
def rowsL (t:Trk) (first:List (List Sp)) (m:Nat):List (List (List Sp)):=(List.range m).map (lev (als t) (stp t) first)
theorem rowsL_snoc (t:Trk) (first:List (List Sp)) (m:Nat):rowsL t first (m+1)=rowsL t first m++[lev (als t) (stp t) first m]:=by unfold rowsL; rw [List.range_succ,List.map_append]; rfl
theorem rowsL_len (t:Trk) (first:List (List Sp)) (m:Nat):(rowsL t first m).length=m:=by simp [rowsL]
theorem rowsL_get {t:Trk} {first:List (List Sp)} {m i:Nat} (h:i < m):((rowsL t first m).map fun x=>[nodS x]).getD i []=[nodS (lev (als t) (stp t) first i)]:=getD_map (by simp [rowsL,h])
theorem forwardsR_spec (t:Trk) (first:List (List Sp)) (hv:valid t) (hl:first.length=(als t 0).length) (hg:goods first):Pure Tryz.prog 84 [trS t,nodS first] (stgS (rowsL t first t.length)):=by
  refine Pure.of_body Tryz.call84 Tryz.func84 k84 (Nat.le_of_ble_eq_true rfl) ?_
  unfold c84
  have h1:=hv.1
  have h2:=hv.2.1
  (repeat' ((first
 | refine vn rfl ?_
 | simp (disch:=omega) only [wr64,Int.zero_sub]
 | refine bo (fun _=>?_) fun _=>?_
 | refine im fun _=>?_
 | refine cF ?_
 | refine om ?_
 | refine an ?_
 | fail) <;> try simp only [zT,zV,zS,zU,vcC,lateX,ex,strp,binA,elems,cells,scalar,eqC,keyA,intsA,lookA,ofVs,mpOf,Nat.reduceBEq,reduceAdd,reduceSub,reduceLT,reduceLeDiff,reduceMul,reduceEqDiff,reduceIte]))
  all_goals try (exfalso; omega)
  refine AWPC.loopE (α:={ y:Nat // y+1≤t.length }) [5,6] (fun y=>[(5,.own 0 0 (y.1+1)),(6,n y.1)]) (fun y=>[some [⟨61,1,(rowsL t first (y.1+1)).map fun x=>[nodS x],none⟩]]) (fun y=>t.length - y.1) ⟨0,h1⟩ ?_ ?_ ?_
  · (simp only [zT,zV,zS,zU,vcC,lateX,ex,strp,binA,elems,cells,scalar,eqC,keyA,intsA,lookA,ofVs,mpOf,Nat.reduceBEq,reduceAdd,reduceSub,reduceLT,reduceLeDiff,reduceMul,reduceEqDiff,reduceIte]; try simp)
  · rfl
  rintro ⟨i,hi⟩
  try simp only at hi
  try simp only
  have hrl:=rowsL_len t first (i+1)
  by_cases hlt:i+1 < t.length
  · have hon:=onward_spec t i (lev (als t) (stp t) first i) hv hlt (by rw [lev_len hl,als_len]) (lev_goods hg (als_goods hv) i)
    have hs:onto (stp t i) (lev (als t) (stp t) first i) (als t (i+1))=lev (als t) (stp t) first (i+1):=rfl
    rw [hs] at hon
    have gi:=rowsL_get (t:=t) (first:=first) (show i < i+1 by omega)
    have hsn:=rowsL_snoc t first (i+1)
    generalize rowsL t first (i+1)=E at *
    (repeat' ((first
 | refine vn rfl ?_
 | simp (disch:=omega) only [wr64,Int.zero_sub]
 | refine bo (fun _=>?_) fun _=>?_
 | refine im fun _=>?_
 | ((repeat refine si ?_); (first | ((first | refine .inl ⟨_,_,_,_,rfl,fun _=>pu hon,?_⟩ | refine ⟨_,_,_,_,rfl,fun _=>pu hon,?_⟩); (first | refine o1 ?_ | refine o2 ?_ | refine o3 ?_ | refine o4 ?_)) | refine .inl ⟨_,_,_,_,rfl,pu hon,?_⟩))
 | refine cF ?_
 | refine om ?_
 | refine an ?_
 | fail) <;> try simp only [zT,zV,zS,zU,vcC,lateX,ex,strp,binA,elems,cells,scalar,eqC,keyA,intsA,lookA,ofVs,mpOf,Nat.reduceBEq,reduceAdd,reduceSub,reduceLT,reduceLeDiff,reduceMul,reduceEqDiff,reduceIte,gi,hrl]))
    all_goals try (exfalso; omega)
    exact ⟨⟨i+1,hlt⟩,⟨rfl,rfl⟩,by simp only; rw [hsn]; simp,by simp only; omega⟩
  · have hti:t.length=i+1:=by omega
    (repeat' ((first
 | refine vn rfl ?_
 | simp (disch:=omega) only [wr64,Int.zero_sub]
 | refine bo (fun _=>?_) fun _=>?_
 | refine im fun _=>?_
 | refine cF ?_
 | refine om ?_
 | refine an ?_
 | fail) <;> try simp only [zT,zV,zS,zU,vcC,lateX,ex,strp,binA,elems,cells,scalar,eqC,keyA,intsA,lookA,ofVs,mpOf,Nat.reduceBEq,reduceAdd,reduceSub,reduceLT,reduceLeDiff,reduceMul,reduceEqDiff,reduceIte]))
    all_goals try (exfalso; omega)
    rw [hti]
    exact frz_stgO rfl hrl.symm
theorem rForward_spec (t:Trk) (hs:trkSz t):Pure Tryz.prog 31 [trS t] (.tup [stgS (if tr (valid t)=true then fwds t else []),n (if tr (valid t)=true then 0 else 40)]):=by
  refine Pure.of_body Tryz.call31 Tryz.func31 k31 (Nat.le_of_ble_eq_true rfl) ?_
  unfold c31
  have hc:=rCheck_spec t hs
  by_cases hv:valid t
  · rw [tr_1 hv] at hc ⊢
    simp only [if_true] at hc ⊢
    have ha:=allowed_spec t 0 hv hv.1
    have hf:=forwardsR_spec t (als t 0) hv rfl (als_goods hv 0)
    (repeat' ((first
 | refine vn rfl ?_
 | simp (disch:=omega) only [wr64,Int.zero_sub]
 | refine bo (fun _=>?_) fun _=>?_
 | refine im fun _=>?_
 | ((repeat refine si ?_); (first | ((first | refine .inl ⟨_,_,_,_,rfl,fun _=>pu (by first | exact hc | exact ha | exact hf),?_⟩ | refine ⟨_,_,_,_,rfl,fun _=>pu (by first | exact hc | exact ha | exact hf),?_⟩); (first | refine o1 ?_ | refine o2 ?_ | refine o3 ?_ | refine o4 ?_)) | refine .inl ⟨_,_,_,_,rfl,pu (by first | exact hc | exact ha | exact hf),?_⟩))
 | refine cF ?_
 | refine om ?_
 | refine an ?_
 | fail) <;> try simp only [zT,zV,zS,zU,vcC,lateX,ex,strp,binA,elems,cells,scalar,eqC,keyA,intsA,lookA,ofVs,mpOf,Nat.reduceBEq,reduceAdd,reduceSub,reduceLT,reduceLeDiff,reduceMul,reduceEqDiff,reduceIte]))
    all_goals try (exfalso; omega)
    all_goals exact Frz.eq rfl (by simp)
  · rw [tr_0 hv] at hc ⊢
    simp only [Bool.false_eq_true,if_false] at hc ⊢
    (repeat' ((first
 | refine vn rfl ?_
 | simp (disch:=omega) only [wr64,Int.zero_sub]
 | refine bo (fun _=>?_) fun _=>?_
 | refine im fun _=>?_
 | ((repeat refine si ?_); (first | ((first | refine .inl ⟨_,_,_,_,rfl,fun _=>pu hc,?_⟩ | refine ⟨_,_,_,_,rfl,fun _=>pu hc,?_⟩); (first | refine o1 ?_ | refine o2 ?_ | refine o3 ?_ | refine o4 ?_)) | refine .inl ⟨_,_,_,_,rfl,pu hc,?_⟩))
 | refine cF ?_
 | refine om ?_
 | refine an ?_
 | fail) <;> try simp only [zT,zV,zS,zU,vcC,lateX,ex,strp,binA,elems,cells,scalar,eqC,keyA,intsA,lookA,ofVs,mpOf,Nat.reduceBEq,reduceAdd,reduceSub,reduceLT,reduceLeDiff,reduceMul,reduceEqDiff,reduceIte]))
    all_goals try (exfalso; omega)
    exact frz2 frz_nil (by simp)
def c84n:CF:=⟨28,
 (.seq (.ops [
 ⟨some 2,.box false 24 1 (.t 0),none⟩,
 ⟨some 4,.mv (.c (.slice none 0 0)),none⟩] [1,2])
 (.seq (.ops [
 ⟨some 7,.mv (.t 1),none⟩,
 ⟨some 8,.bsl true 61 1 1 [.slice none 0 0] [(0,1,(.t 7))],none⟩,
 ⟨some 5,.mv (.t 8),none⟩] [2,5])
 (.seq (.seq (.ops [
 ⟨some 6,.mv (.c (.int .i64 0)),none⟩] [2,5,6])
 (.block 0 (.loop (.seq (.seq (.ops [
 ⟨some 9,.mv (.t 6),none⟩,
 ⟨some 10,.bin .add (.t 9) (.c (.int .i64 1)),none⟩,
 ⟨some 11,.faddr 0 (.t 2),none⟩,
 ⟨some 12,.load none (.t 11),none⟩,
 ⟨some 13,.len (.t 12),none⟩,
 ⟨some 14,.bin .lss (.t 10) (.t 13),none⟩] [2,5,6,14])
 (.cond (.t 14) .skip
 (.exit 0)))
 (.seq (.block 1 (.drawl 0 [
 ⟨some 17,.mv (.t 5),none⟩,
 ⟨some 18,.load (some 1) (.t 2),none⟩,
 ⟨some 19,.mv (.t 6),none⟩,
 ⟨some 20,.mv (.t 5),none⟩,
 ⟨some 21,.mv (.t 6),none⟩,
 ⟨some 22,.iaddr 1 (.t 20) (.t 21),none⟩,
 ⟨some 23,.load none (.t 22),none⟩] [
 ⟨some 24,.call (.f 116) [(.t 18),(.t 19),(.t 23)],none⟩,
 ⟨some 25,.bsl false 61 1 1 [.slice none 0 0] [(0,1,(.t 24))],none⟩,
 ⟨some 26,.app 61 1 24 (.t 17) (.t 25),none⟩,
 ⟨some 5,.mv (.t 26),none⟩] [2,5,6]))
 (.ops [
 ⟨some 15,.mv (.t 6),none⟩,
 ⟨some 16,.bin .add (.t 15) (.c (.int .i64 1)),none⟩,
 ⟨some 6,.mv (.t 16),none⟩] [2,5,6]))))))
 (.seq (.ops [
 ⟨some 27,.mv (.t 5),none⟩,
 ⟨some 4,.mv (.t 27),none⟩] [4])
 .ret)))),
 [.t 4]⟩
def c89:CF:=⟨50,
 (.seq (.ops [
 ⟨some 1,.box false 24 1 (.t 0),none⟩,
 ⟨some 2,.mv (.c (.slice none 0 0)),none⟩] [1])
 (.seq (.drawl 0 [
 ⟨some 7,.load (some 1) (.t 1),none⟩,
 ⟨some 8,.load (some 1) (.t 1),none⟩] [
 ⟨some 9,.call (.f 85) [(.t 8),(.c (.int .i64 0))],none⟩,
 ⟨some 10,.call (.f 84) [(.t 7),(.t 9)],none⟩,
 ⟨some 3,.mv (.t 10),none⟩] [1,3])
 (.seq (.ops [
 ⟨some 11,.load (some 1) (.t 1),none⟩,
 ⟨some 12,.call (.f 87) [(.t 11)],none⟩,
 ⟨some 4,.mv (.t 12),none⟩] [3,4])
 (.seq (.seq (.ops [
 ⟨some 5,.mv (.c (.int .i64 0)),none⟩] [3,4,5])
 (.block 0 (.loop (.seq (.seq (.ops [
 ⟨some 13,.mv (.t 5),none⟩,
 ⟨some 14,.mv (.t 3),none⟩,
 ⟨some 15,.len (.t 14),none⟩,
 ⟨some 16,.bin .lss (.t 13) (.t 15),none⟩] [3,4,5,16])
 (.cond (.t 16) .skip
 (.exit 0)))
 (.seq (.block 1 (.seq (.ops [
 ⟨some 6,.mv (.c (.int .i64 0)),none⟩] [3,4,5,6])
 (.block 2 (.loop (.seq (.seq (.ops [
 ⟨some 19,.mv (.t 6),none⟩,
 ⟨some 20,.mv (.t 3),none⟩,
 ⟨some 21,.mv (.t 5),none⟩,
 ⟨some 22,.iaddr 1 (.t 20) (.t 21),none⟩,
 ⟨some 23,.load none (.t 22),none⟩,
 ⟨some 24,.len (.t 23),none⟩,
 ⟨some 25,.bin .lss (.t 19) (.t 24),none⟩] [3,4,5,6,25])
 (.cond (.t 25) .skip
 (.exit 2)))
 (.seq (.block 3 (.draw [
 ⟨some 28,.mv (.t 3),none⟩,
 ⟨some 29,.mv (.t 5),none⟩,
 ⟨some 30,.iaddr 1 (.t 28) (.t 29),none⟩,
 ⟨some 31,.load none (.t 30),none⟩,
 ⟨some 32,.mv (.t 6),none⟩,
 ⟨some 33,.mv (.t 3),none⟩,
 ⟨some 34,.mv (.t 5),none⟩,
 ⟨some 35,.iaddr 1 (.t 33) (.t 34),none⟩,
 ⟨some 36,.load none (.t 35),none⟩,
 ⟨some 37,.mv (.t 6),none⟩,
 ⟨some 38,.iaddr 1 (.t 36) (.t 37),none⟩,
 ⟨some 39,.load none (.t 38),none⟩,
 ⟨some 40,.mv (.t 4),none⟩,
 ⟨some 41,.mv (.t 5),none⟩,
 ⟨some 42,.iaddr 1 (.t 40) (.t 41),none⟩,
 ⟨some 43,.load none (.t 42),none⟩,
 ⟨some 44,.mv (.t 6),none⟩,
 ⟨some 45,.iaddr 1 (.t 43) (.t 44),none⟩,
 ⟨some 46,.load none (.t 45),none⟩,
 ⟨some 47,.call (.f 127) [(.t 39),(.t 46)],none⟩,
 ⟨some 48,.iaddr 1 (.t 31) (.t 32),none⟩] [
 ⟨none,.store 1 (.t 48) (.t 47),none⟩] [3,4,5,6]))
 (.ops [
 ⟨some 26,.mv (.t 6),none⟩,
 ⟨some 27,.bin .add (.t 26) (.c (.int .i64 1)),none⟩,
 ⟨some 6,.mv (.t 27),none⟩] [3,4,5,6])))))))
 (.ops [
 ⟨some 17,.mv (.t 5),none⟩,
 ⟨some 18,.bin .add (.t 17) (.c (.int .i64 1)),none⟩,
 ⟨some 5,.mv (.t 18),none⟩] [3,4,5]))))))
 (.seq (.ops [
 ⟨some 49,.mv (.t 3),none⟩,
 ⟨some 2,.mv (.t 49),none⟩] [2])
 .ret))))),
 [.t 2]⟩
theorem k84n:chkF Tryz.prog Tryz.f84 c84n=true:=by kernel_rfl
theorem k89:chkF Tryz.prog Tryz.f89 c89=true:=by kernel_rfl
theorem onward_does (σ:Sto) (t:Trk) (k:Nat) (cur:List (List Sp)) (cA:AV) (hrow:RowAt σ cA cur) (hv:valid t) (hk:k+1 < t.length) (hl:cur.length=wd t k) (hc:goods cur) :
    Does Tryz.prog 116 [trS t,n k,cA] σ (fun v σ'=>v=.own σ.length 0 (wd t (k+1))∧σ'=σ++[some [⟨45,1,(onto (stp t k) cur (als t (k+1))).map (fun l=>[spS l]),none⟩]]):=by
  refine Does.of_body Tryz.call116 Tryz.func116 k116 (Nat.le_of_ble_eq_true rfl) ?_
  unfold c116
  have h2:=hv.2.1
  have gtk:(t.map fun l=>[stS l]).getD k []=[stS (t.getD k [])]:=getD_map (getD_some (by omega))
  have gtk1:(t.map fun l=>[stS l]).getD (k+1) []=[stS (t.getD (k+1) [])]:=getD_map (getD_some hk)
  have ek:((k:Int)+1).toNat=k+1:=by omega
  obtain ⟨v1,v2,v3⟩:=valid_stg hv (show k < t.length by omega)
  obtain ⟨w1,w2,w3⟩:=valid_stg hv hk
  have hwk:wd t (k+1)=(t.getD (k+1) []).length:=rfl
  have hwk0:wd t k=(t.getD k []).length:=rfl
  have hal:als t (k+1)=(t.getD (k+1) []).map (·.al):=rfl
  have hst:stp t k=hopsF 0 (t.getD k []):=rfl
  rw [hal,hst]
  rw [hwk0] at hl
  rw [hwk] at v3
  generalize t.getD k []=L at *
  rw [hwk]
  generalize t.getD (k+1) []=L2 at *
  have hch:∀ x∈L,∀ e∈x.nx,chOk e.ch:=fun x hx e he=>((v3 x hx).2.2 e he).2.2
  (repeat' ((first
 | refine vn rfl ?_
 | simp (disch:=omega) only [wr64,Int.zero_sub]
 | refine bo (fun _=>?_) fun _=>?_
 | refine im fun _=>?_
 | refine cF ?_
 | refine om ?_
 | refine an ?_
 | fail) <;> try simp only [zT,zV,zS,zU,vcC,lateX,ex,strp,binA,elems,cells,scalar,eqC,keyA,intsA,lookA,ofVs,mpOf,Nat.reduceBEq,reduceAdd,reduceSub,reduceLT,reduceLeDiff,reduceMul,reduceEqDiff,reduceIte,gtk,gtk1,ek]))
  all_goals try (exfalso; omega)
  refine AWPC.weakO (f:=σ.length) (i:=0) (o:=⟨45,1,List.replicate L2.length [.v (.slice none 0 0)],none⟩) (o':=⟨45,1,rowsR cur (L2.map (·.al)) L2.length [],none⟩) (by rw [at_app0]; rfl) rfl rfl rfl rfl (by simp [rowsR_len]) (fun e he=>?_) (fun e j he hj=>?_) ?_
  · rw [rowsR_get (by simpa using he)]; rfl
  · simp only [List.length_replicate] at he
    obtain rfl:j=0:=by simp only at hj; omega
    intro w X β σ' x hx
    rw [rowsR_get he]
    simp only [List.getD_eq_getElem?_getD,List.getElem?_replicate,if_pos he] at hx
    exact hx.nil
  simp only [zT,zV,zS,zU,vcC,lateX,ex,strp,binA,elems,cells,scalar,eqC,keyA,intsA,lookA,ofVs,mpOf,Nat.reduceBEq,reduceAdd,reduceSub,reduceLT,reduceLeDiff,reduceMul,reduceEqDiff,reduceIte]
  refine AWPC.loopE (α:={ y:Nat // y≤L.length }) [8] (fun y=>[(8,n y.1)]) (fun y=>σ++[some [⟨45,1,rowsR cur (L2.map (·.al)) L2.length (hopsF 0 (L.take y.1)),none⟩]]) (fun y=>L.length - y.1) ⟨0,Nat.zero_le _⟩ ?_ ?_ ?_
  · (simp only [zT,zV,zS,zU,vcC,lateX,ex,strp,binA,elems,cells,scalar,eqC,keyA,intsA,lookA,ofVs,mpOf,Nat.reduceBEq,reduceAdd,reduceSub,reduceLT,reduceLeDiff,reduceMul,reduceEqDiff,reduceIte]; try simp)
  · rfl
  rintro ⟨i,hi⟩
  try simp only at hi
  try simp only
  by_cases hlt:i < L.length
  · obtain ⟨x,hx⟩:∃ x,L[i]?=some x:=⟨_,List.getElem?_eq_getElem hlt⟩
    have hxm:=List.mem_of_getElem? hx
    obtain ⟨x1,x2,x3⟩:=v3 x hxm
    have gcur:(cur.map fun l=>[spS l]).getD i []=[spS (cur.getD i [])]:=getD_map (getD_some (by omega))
    have gci:=goods_get hc i
    (repeat' ((first
 | refine vn rfl ?_
 | simp (disch:=omega) only [wr64,Int.zero_sub]
 | refine bo (fun _=>?_) fun _=>?_
 | refine im fun _=>?_
 | refine cF ?_
 | refine om ?_
 | refine an ?_
 | fail) <;> try simp only [zT,zV,zS,zU,vcC,lateX,ex,strp,binA,elems,cells,scalar,eqC,keyA,intsA,lookA,ofVs,mpOf,Nat.reduceBEq,reduceAdd,reduceSub,reduceLT,reduceLeDiff,reduceMul,reduceEqDiff,reduceIte,gtk,getD_map hx]))
    all_goals try (exfalso; omega)
    refine AWPC.loopE (α:={ y:Nat // y≤x.nx.length }) [10] (fun y=>[(10,n y.1)]) (fun y=>σ++[some [⟨45,1,rowsR cur (L2.map (·.al)) L2.length (hopsP L i (x.nx.take y.1)),none⟩]]) (fun y=>x.nx.length - y.1) ⟨0,Nat.zero_le _⟩ ?_ ?_ ?_
    · (simp only [zT,zV,zS,zU,vcC,lateX,ex,strp,binA,elems,cells,scalar,eqC,keyA,intsA,lookA,ofVs,mpOf,Nat.reduceBEq,reduceAdd,reduceSub,reduceLT,reduceLeDiff,reduceMul,reduceEqDiff,reduceIte]; try simp)
    · simp [hopsP]
    rintro ⟨y,hy⟩
    try simp only at hy
    try simp only
    by_cases hlt2:y < x.nx.length
    · obtain ⟨e,he⟩:∃ e,x.nx[y]?=some e:=⟨_,List.getElem?_eq_getElem hlt2⟩
      have hem:=List.mem_of_getElem? he
      obtain ⟨e1,e2,e3⟩:=x3 e hem
      have hcN:e.to.toNat < L2.length:=by omega
      have gL2:(L2.map Nod.cs).getD e.to.toNat []=Nod.cs (L2.getD e.to.toNat ⟨[],[]⟩):=getD_map (getD_some hcN)
      have gal:(L2.map (·.al)).getD e.to.toNat []=(L2.getD e.to.toNat ⟨[],[]⟩).al:=getD_map (getD_some (d:=⟨[],[]⟩) hcN)
      have gga:good (L2.getD e.to.toNat ⟨[],[]⟩).al:=(w3 _ (List.mem_of_getElem? (getD_some (d:=⟨[],[]⟩) hcN))).1.2
      have hops:=hopsP_snoc L i he
      have hpc:∀ h∈hopsP L i (x.nx.take y),chOk h.ch:=hopsP_ch hch i fun f hf=>hch x hxm f (List.mem_of_mem_take hf)
      have hgR:=rowsR_get (cur:=cur) (al:=L2.map (·.al)) (hs:=hopsP L i (x.nx.take y)) hcN
      have hset:=rowsR_set (cur:=cur) (al:=L2.map (·.al)) (N:=L2.length) (hs:=hopsP L i (x.nx.take y)) ⟨i,e.to.toNat,e.ch⟩
      try simp only at hset
      rw [gal,← hops] at hset
      have hRl:=rowsR_len (cur:=cur) (al:=L2.map (·.al)) (N:=L2.length) (hs:=hopsP L i (x.nx.take y))
      have hR:=onR_ok (al:=L2.map (·.al)) hc hpc e.to.toNat
      have hW:=wideJ_ok gci e3
      have hwi:=wide_spec (cur.getD i []) e.ch gci e3
      have hme:=meetR_spec (L2.getD e.to.toNat ⟨[],[]⟩).al (joins [] (Abs.wide (cur.getD i []) e.ch)) (good_ok gga).bd hW.bd (by have:=good_len gga; omega) (by have:=hW.len; omega)
      have hM:=meet_ok (a:=(L2.getD e.to.toNat ⟨[],[]⟩).al) hW.bd
      have hun:=union_spec _ _ hR hM.bd hM.nm.ne (by have:=hM.len; omega)
      generalize onR cur (L2.map (·.al)) (hopsP L i (x.nx.take y)) e.to.toNat=Q at *
      generalize rowsR cur (L2.map (·.al)) L2.length (hopsP L i (x.nx.take y))=E at *
      generalize (L2.getD e.to.toNat ⟨[],[]⟩)=x' at *
      rcases hrow with rfl | ⟨gg,rfl,hgg⟩
      · (repeat' ((first
 | refine vn rfl ?_
 | simp (disch:=omega) only [wr64,Int.zero_sub]
 | refine bo (fun _=>?_) fun _=>?_
 | refine im fun _=>?_
 | ((repeat refine si ?_); (first | ((first | refine .inl ⟨_,_,_,_,rfl,fun _=>pu (by first | exact hwi | exact hme | exact hun),?_⟩ | refine ⟨_,_,_,_,rfl,fun _=>pu (by first | exact hwi | exact hme | exact hun),?_⟩); (first | refine o1 ?_ | refine o2 ?_ | refine o3 ?_ | refine o4 ?_)) | refine .inl ⟨_,_,_,_,rfl,pu (by first | exact hwi | exact hme | exact hun),?_⟩))
 | refine cF ?_
 | refine om ?_
 | refine an ?_
 | fail) <;> try simp only [zT, zV, zS, zU, vcC, lateX, ex, strp, binA, elems, cells, scalar, eqC, keyA, intsA, lookA, ofVs, mpOf, Nat.reduceBEq, reduceAdd, reduceSub, reduceLT, reduceLeDiff, reduceMul, reduceEqDiff, reduceIte, gtk, gtk1, ek, getD_map hx, getD_map he, gL2, gcur, hgR, hRl]))
        all_goals try (exfalso; omega)
        exact ⟨⟨y+1,hlt2⟩,rfl,congrArg (fun z=>σ++[some [(⟨45,1,z,none⟩:Ob)]]) hset,by simp only; omega⟩
      · have aG:∀ ν,Sto.at (σ++ν) gg 0=some ⟨45,1,cur.map (fun l=>[spS l]),none⟩:=fun ν=>by rw [at_appL (at_lt hgg)]; exact hgg
        (repeat' ((first
 | refine vn rfl ?_
 | simp (disch:=omega) only [wr64,Int.zero_sub]
 | refine bo (fun _=>?_) fun _=>?_
 | refine im fun _=>?_
 | ((repeat refine si ?_); (first | ((first | refine .inl ⟨_,_,_,_,rfl,fun _=>pu (by first | exact hwi | exact hme | exact hun),?_⟩ | refine ⟨_,_,_,_,rfl,fun _=>pu (by first | exact hwi | exact hme | exact hun),?_⟩); (first | refine o1 ?_ | refine o2 ?_ | refine o3 ?_ | refine o4 ?_)) | refine .inl ⟨_,_,_,_,rfl,pu (by first | exact hwi | exact hme | exact hun),?_⟩))
 | refine cF ?_
 | refine om ?_
 | refine an ?_
 | fail) <;> try simp only [zT, zV, zS, zU, vcC, lateX, ex, strp, binA, elems, cells, scalar, eqC, keyA, intsA, lookA, ofVs, mpOf, Nat.reduceBEq, reduceAdd, reduceSub, reduceLT, reduceLeDiff, reduceMul, reduceEqDiff, reduceIte, aG, gtk, gtk1, ek, getD_map hx, getD_map he, gL2, gcur, hgR, hRl]))
        all_goals try (exfalso; omega)
        exact ⟨⟨y+1,hlt2⟩,rfl,congrArg (fun z=>σ++[some [(⟨45,1,z,none⟩:Ob)]]) hset,by simp only; omega⟩
    · obtain rfl:y=x.nx.length:=by omega
      rw [List.take_length,hopsP_full hx]
      (repeat' ((first
 | refine vn rfl ?_
 | simp (disch:=omega) only [wr64,Int.zero_sub]
 | refine bo (fun _=>?_) fun _=>?_
 | refine im fun _=>?_
 | refine cF ?_
 | refine om ?_
 | refine an ?_
 | fail) <;> try simp only [zT,zV,zS,zU,vcC,lateX,ex,strp,binA,elems,cells,scalar,eqC,keyA,intsA,lookA,ofVs,mpOf,Nat.reduceBEq,reduceAdd,reduceSub,reduceLT,reduceLeDiff,reduceMul,reduceEqDiff,reduceIte]))
      all_goals try (exfalso; omega)
      exact ⟨⟨i+1,hlt⟩,rfl,rfl,by simp only; omega⟩
  · obtain rfl:i=L.length:=by omega
    rw [List.take_length]
    (repeat' ((first
 | refine vn rfl ?_
 | simp (disch:=omega) only [wr64,Int.zero_sub]
 | refine bo (fun _=>?_) fun _=>?_
 | refine im fun _=>?_
 | refine cF ?_
 | refine om ?_
 | refine an ?_
 | fail) <;> try simp only [zT,zV,zS,zU,vcC,lateX,ex,strp,binA,elems,cells,scalar,eqC,keyA,intsA,lookA,ofVs,mpOf,Nat.reduceBEq,reduceAdd,reduceSub,reduceLT,reduceLeDiff,reduceMul,reduceEqDiff,reduceIte,gtk]))
    all_goals try (exfalso; omega)
    have hfin:rowsR cur (L2.map (·.al)) L2.length (hopsF 0 L)=(onto (hopsF 0 L) cur (L2.map (·.al))).map fun l=>[spS l]:=by
      unfold rowsR onto
      rw [List.map_map,List.length_map]
      exact range_congr fun j _=>by rw [onR_onto hc (hopsF_ch hch 0)]; rfl
    rw [hfin]
theorem getD_end {α:Type} {Q:List α} {z d:α} {i:Nat} (h:Q.length=i):(Q++[z]).getD i d=z:=by
  rw [List.getD_eq_getElem?_getD,List.getElem?_append_right (by omega),h]; simp
theorem set_end {α:Type} {Q:List α} {z y:α} {i:Nat} (h:Q.length=i):(Q++[z]).set i y=Q++[y]:=by
  rw [List.set_append_right _ _ (by omega),h]; simp
theorem at_mid {σ ν:Sto} {l:List Ob} {b:Option (List Ob)}:Sto.at (σ++some l::(ν++[b])) σ.length 0=l[0]?:=by
  simp [Sto.at]
theorem at_far {σ ν:Sto} {l:List Ob} {a:Option (List Ob)}:Sto.at (σ++a::(ν++[some l])) (σ.length+(ν.length+1)) 0=l[0]?:=by
  unfold Sto.at
  rw [List.getElem?_append_right (by omega),show σ.length+(ν.length+1) - σ.length=ν.length+1 by omega,List.getElem?_cons_succ,List.getElem?_append_right (by omega)]
  simp
theorem gone_far {σ ν:Sto} {a b:Option (List Ob)}:gone (σ++a::(ν++[b])) (σ.length+(ν.length+1))=σ++a::(ν++[none]):=by
  unfold gone
  rw [List.set_append_right _ _ (by omega),show σ.length+(ν.length+1) - σ.length=ν.length+1 by omega,List.set_cons_succ,List.set_append_right _ _ (by omega)]
  simp
theorem upd_mid {σ ν:Sto} {o o':Ob}:Sto.upd (σ++some [o]::ν) σ.length 0 o'=σ++some [o']::ν:=by
  simp [Sto.upd]
theorem allowed_does (σ:Sto) (t:Trk) (k:Nat) (hv:valid t) (hk:k < t.length):Does Tryz.prog 85 [trS t,n k] σ (fun v σ'=>v=.own σ.length 0 (wd t k)∧∃ ν,σ'=σ++(some [⟨45,1,(als t k).map (fun l=>[spS l]),none⟩]::ν)):=by
  refine Does.of_body Tryz.call85 Tryz.func85 k85 (Nat.le_of_ble_eq_true rfl) ?_
  unfold c85
  have h2:=hv.2.1
  have htk:t[k]?=some (t.getD k []):=getD_some hk
  have gtk:(t.map fun l=>[stS l]).getD k []=[stS (t.getD k [])]:=getD_map htk
  obtain ⟨v1,v2,v3⟩:=valid_stg hv hk
  have hww:als t k=(t.getD k []).map (·.al):=rfl
  have hwd:wd t k=(t.getD k []).length:=rfl
  rw [hww,hwd]
  generalize t.getD k []=L at *
  ((first
 | refine vn rfl ?_
 | simp (disch:=omega) only [wr64,Int.zero_sub]
 | refine bo (fun _=>?_) fun _=>?_
 | refine im fun _=>?_
 | refine cF ?_
 | refine om ?_
 | refine an ?_
 | fail) <;> try simp only [zT,zV,zS,zU,vcC,lateX,ex,strp,binA,elems,cells,scalar,eqC,keyA,intsA,lookA,ofVs,mpOf,Nat.reduceBEq,reduceAdd,reduceSub,reduceLT,reduceLeDiff,reduceMul,reduceEqDiff,reduceIte])
  ((first
 | refine vn rfl ?_
 | simp (disch:=omega) only [wr64,Int.zero_sub]
 | refine bo (fun _=>?_) fun _=>?_
 | refine im fun _=>?_
 | refine cF ?_
 | refine om ?_
 | refine an ?_
 | fail) <;> try simp only [zT,zV,zS,zU,vcC,lateX,ex,strp,binA,elems,cells,scalar,eqC,keyA,intsA,lookA,ofVs,mpOf,Nat.reduceBEq,reduceAdd,reduceSub,reduceLT,reduceLeDiff,reduceMul,reduceEqDiff,reduceIte])
  ((first
 | refine vn rfl ?_
 | simp (disch:=omega) only [wr64,Int.zero_sub]
 | refine bo (fun _=>?_) fun _=>?_
 | refine im fun _=>?_
 | refine cF ?_
 | refine om ?_
 | refine an ?_
 | fail) <;> try simp only [zT,zV,zS,zU,vcC,lateX,ex,strp,binA,elems,cells,scalar,eqC,keyA,intsA,lookA,ofVs,mpOf,Nat.reduceBEq,reduceAdd,reduceSub,reduceLT,reduceLeDiff,reduceMul,reduceEqDiff,reduceIte])
  ((first
 | refine vn rfl ?_
 | simp (disch:=omega) only [wr64,Int.zero_sub]
 | refine bo (fun _=>?_) fun _=>?_
 | refine im fun _=>?_
 | refine cF ?_
 | refine om ?_
 | refine an ?_
 | fail) <;> try simp only [zT,zV,zS,zU,vcC,lateX,ex,strp,binA,elems,cells,scalar,eqC,keyA,intsA,lookA,ofVs,mpOf,Nat.reduceBEq,reduceAdd,reduceSub,reduceLT,reduceLeDiff,reduceMul,reduceEqDiff,reduceIte])
  refine AWPC.own0 45 1 5 rfl ?_
  refine AWPC.loopE (α:={ y:Nat × Sto // y.1≤L.length }) [5,6] (fun y=>[(5,.own σ.length 0 y.1.1),(6,n y.1.1)]) (fun y=>σ++(some [⟨45,1,(L.take y.1.1).map fun x=>[spS x.al],none⟩]::y.1.2)) (fun y=>L.length - y.1.1) ⟨(0,[]),Nat.zero_le _⟩ ?_ (by simp) ?_
  · (simp only [zT,zV,zS,zU,vcC,lateX,ex,strp,binA,elems,cells,scalar,eqC,keyA,intsA,lookA,ofVs,mpOf,Nat.reduceBEq,reduceAdd,reduceSub,reduceLT,reduceLeDiff,reduceMul,reduceEqDiff,reduceIte]; try simp)
  rintro ⟨⟨i,ν⟩,hi⟩
  try simp only at hi
  try simp only
  have htl:(L.take i).length=i:=by rw [List.length_take]; omega
  by_cases hlt:i < L.length
  · obtain ⟨x,hx⟩:∃ x,L[i]?=some x:=⟨_,List.getElem?_eq_getElem hlt⟩
    have hxl:=(v3 x (List.mem_of_getElem? hx)).1.1
    have hsn:=take_snoc hx
    have ro:=rows_ok x.al
    (repeat' ((first
 | refine vn rfl ?_
 | simp (disch:=omega) only [wr64,Int.zero_sub]
 | refine bo (fun _=>?_) fun _=>?_
 | refine im fun _=>?_
 | refine cF ?_
 | refine om ?_
 | refine an ?_
 | fail) <;> try simp only [zT,zV,zS,zU,vcC,lateX,ex,strp,binA,elems,cells,scalar,eqC,keyA,intsA,lookA,ofVs,mpOf,Nat.reduceBEq,reduceAdd,reduceSub,reduceLT,reduceLeDiff,reduceMul,reduceEqDiff,reduceIte,gtk,getD_map hx,htl,List.append_assoc,List.cons_append]))
    all_goals try (exfalso; omega)
    refine ⟨⟨ro,by omega⟩,by omega,?_⟩
    have hQl:((L.take i).map (fun x=>[spS x.al])).length=i:=by rw [List.length_map,htl]
    have hQs:((L.take i).map (fun x=>[spS x.al]))++[[spS x.al]]=(L.take (i+1)).map fun x=>[spS x.al]:=by rw [hsn,List.map_append]; rfl
    generalize (L.take i).map (fun x=>[spS x.al])=Q at *
    refine AWPC.freezeC (f:=σ.length+(ν.length+1)) (n:=x.al.length) (h:=σ.length) (e:=i) (j:=0) at_far (by simp) (show (2:Nat)≠0 by decide) at_mid (by omega) rfl (by simp; omega) (by rw [getD_end hQl]; rfl) ?_
    rw [gone_far,upd_mid]
    simp only [getD_end hQl,set_end hQl,List.set_cons_zero]
    have hset:Q++[[AV.sl 2 (x.al.map Sp.cs)]]=(L.take (i+1)).map fun x=>[spS x.al]:=hQs
    rw [hset]
    (repeat' ((first
 | refine vn rfl ?_
 | simp (disch:=omega) only [wr64,Int.zero_sub]
 | refine bo (fun _=>?_) fun _=>?_
 | refine im fun _=>?_
 | refine cF ?_
 | refine om ?_
 | refine an ?_
 | fail) <;> try simp only [zT,zV,zS,zU,vcC,lateX,ex,strp,binA,elems,cells,scalar,eqC,keyA,intsA,lookA,ofVs,mpOf,Nat.reduceBEq,reduceAdd,reduceSub,reduceLT,reduceLeDiff,reduceMul,reduceEqDiff,reduceIte]))
    exact ⟨⟨(i+1,ν++[none]),hlt⟩,⟨rfl,rfl⟩,rfl,by simp only; omega⟩
  · obtain rfl:i=L.length:=by omega
    rw [List.take_length]
    (repeat' ((first
 | refine vn rfl ?_
 | simp (disch:=omega) only [wr64,Int.zero_sub]
 | refine bo (fun _=>?_) fun _=>?_
 | refine im fun _=>?_
 | refine cF ?_
 | refine om ?_
 | refine an ?_
 | fail) <;> try simp only [zT,zV,zS,zU,vcC,lateX,ex,strp,binA,elems,cells,scalar,eqC,keyA,intsA,lookA,ofVs,mpOf,Nat.reduceBEq,reduceAdd,reduceSub,reduceLT,reduceLeDiff,reduceMul,reduceEqDiff,reduceIte,gtk,List.append_assoc,List.cons_append]))
    all_goals try (exfalso; omega)
    exact ⟨ν,by rw [List.map_map]; rfl⟩
structure RowsO (σ:Sto) (A N:Nat) (lv:Nat→List (List Sp)) (g:Nat→Nat):Prop where
  a:σ.at A 0=some ⟨61,1,(List.range N).map fun i=>[.own (g i) 0 (lv i).length],none⟩
  row:∀ i,i < N→σ.at (g i) 0=some ⟨45,1,(lv i).map (fun l=>[spS l]),none⟩
  inj:∀ i j,i < j→j < N→g i < g j
theorem RowsO.push {τ:Sto} {A N M:Nat} {lv:Nat→List (List Sp)} {g:Nat→Nat} (h:RowsO τ A N lv g) (hm:(lv N).length=M) :
    RowsO (Sto.upd (τ++[some [⟨45,1,(lv N).map (fun l=>[spS l]),none⟩]]) A 0 ⟨61,1,((List.range N).map fun i=>[AV.own (g i) 0 (lv i).length])++[[AV.own τ.length 0 M]],none⟩) A (N+1) lv (fun i=>if i=N then τ.length else g i):=by
  have la:=at_lt h.a
  have hA:Sto.at (τ++[some [⟨45,1,(lv N).map (fun l=>[spS l]),none⟩]]) A 0=some ⟨61,1,(List.range N).map fun i=>[.own (g i) 0 (lv i).length],none⟩:=by rw [at_appL la]; exact h.a
  refine ⟨?_,fun i hi=>?_,fun i j h3 h4=>?_⟩
  · rw [at_upd_same hA,List.range_succ,List.map_append]
    refine congrArg (fun z=>some (⟨61,1,z,none⟩:Ob)) ?_
    congr 1
    · exact range_congr fun i hi=>by rw [if_neg (by omega)]
    · simp [hm]
  · by_cases e:i=N
    · subst e
      rw [if_pos rfl,at_upd_other (.inl (by omega)),at_app0]; rfl
    · rw [if_neg e]
      have hr:=h.row i (by omega)
      have hne:g i≠A:=fun e=>by rw [e,h.a] at hr; injection hr with hr; injection hr with hr; cases hr
      rw [at_upd_other (.inl fun e=>hne e.symm),at_appL (at_lt hr)]; exact hr
  · rw [if_neg (show i≠N by omega)]
    by_cases e:j=N
    · rw [if_pos e]; exact at_lt (h.row i (by omega))
    · rw [if_neg e]; exact h.inj i j h3 (by omega)
inductive FwdR (t:Trk) (v:AV) (σ':Sto):Prop
  | mk (A:Nat) (g:Nat→Nat) (hv:v=.own A 0 t.length) (hs:RowsO σ' A t.length (fwd t) g)
theorem forwards_does (σ:Sto) (t:Trk) (g0:Nat) (hv:valid t) (hg0:σ.at g0 0=some ⟨45,1,(als t 0).map (fun l=>[spS l]),none⟩):Does Tryz.prog 84 [trS t,.own g0 0 (wd t 0)] σ (FwdR t):=by
  refine Does.of_body Tryz.call84 Tryz.func84 k84n (Nat.le_of_ble_eq_true rfl) ?_
  unfold c84n
  have h1:=hv.1
  have h2:=hv.2.1
  have lg:=at_lt hg0
  have hl0:(fwd t 0).length=wd t 0:=fwd_len t 0
  (repeat' ((first
 | refine vn rfl ?_
 | simp (disch:=omega) only [wr64,Int.zero_sub]
 | refine bo (fun _=>?_) fun _=>?_
 | refine im fun _=>?_
 | refine cF ?_
 | refine om ?_
 | refine an ?_
 | fail) <;> try simp only [zT,zV,zS,zU,vcC,lateX,ex,strp,binA,elems,cells,scalar,eqC,keyA,intsA,lookA,ofVs,mpOf,Nat.reduceBEq,reduceAdd,reduceSub,reduceLT,reduceLeDiff,reduceMul,reduceEqDiff,reduceIte]))
  all_goals try (exfalso; omega)
  have hS0:RowsO (σ++[some [⟨61,1,[[.own g0 0 (wd t 0)]],none⟩]]) σ.length 1 (fwd t) (fun _=>g0):=by
    refine ⟨?_,fun i hi=>?_,fun i j h3 h4=>absurd h3 (by omega)⟩
    · rw [at_app0]; simp [Sto.at,hl0]
    · obtain rfl:i=0:=by omega
      rw [at_appL lg]; exact hg0
  refine AWPC.loopE (α:={ x:Nat × Sto × (Nat→Nat) // x.1+1≤t.length∧σ.length < x.2.1.length∧RowsO x.2.1 σ.length (x.1+1) (fwd t) x.2.2 }) [5,6] (fun x=>[(5,.own σ.length 0 (x.1.1+1)),(6,n x.1.1)]) (fun x=>x.1.2.1) (fun x=>t.length - x.1.1)
    ⟨(0,_,_),by simpa using h1,by simp,hS0⟩ ?_ rfl ?_
  · (simp only [zT,zV,zS,zU,vcC,lateX,ex,strp,binA,elems,cells,scalar,eqC,keyA,intsA,lookA,ofVs,mpOf,Nat.reduceBEq,reduceAdd,reduceSub,reduceLT,reduceLeDiff,reduceMul,reduceEqDiff,reduceIte]; try simp)
  rintro ⟨⟨k,τ,g⟩,hk,hlen,hS⟩
  try simp only at hk hlen hS
  try simp only
  have aA:∀ ν,Sto.at (τ++ν) σ.length 0=some ⟨61,1,(List.range (k+1)).map fun i=>[.own (g i) 0 (fwd t i).length],none⟩:=fun ν=>by rw [at_appL (at_lt hS.a)]; exact hS.a
  have a0:Sto.at τ σ.length 0=some ⟨61,1,(List.range (k+1)).map fun i=>[.own (g i) 0 (fwd t i).length],none⟩:=hS.a
  by_cases hlt:k+1 < t.length
  · have gk:((List.range (k+1)).map fun i=>[AV.own (g i) 0 (fwd t i).length]).getD k []=[.own (g k) 0 (fwd t k).length]:=range_get _ (by omega)
    have hrow:=hS.row k (by omega)
    have hon:=onward_does τ t k (fwd t k) (.own (g k) 0 (fwd t k).length) (.inr ⟨g k,rfl,hrow⟩) hv hlt (fwd_len t k) (fwd_goods hv k)
    have hs:onto (stp t k) (fwd t k) (als t (k+1))=fwd t (k+1):=rfl
    rw [hs] at hon
    have hP:=hS.push (fwd_len t (k+1))
    have hPl:σ.length < (Sto.upd (τ++[some [(⟨45,1,(fwd t (k+1)).map (fun l=>[spS l]),none⟩:Ob)]]) σ.length 0 ⟨61,1,((List.range (k+1)).map fun i=>[AV.own (g i) 0 (fwd t i).length])++[[AV.own τ.length 0 (wd t (k+1))]],none⟩).length:=by rw [upd_length,List.length_append]; omega
    (repeat' ((first
 | refine vn rfl ?_
 | simp (disch:=omega) only [wr64,Int.zero_sub]
 | refine bo (fun _=>?_) fun _=>?_
 | refine im fun _=>?_
 | refine cF ?_
 | refine om ?_
 | refine an ?_
 | fail) <;> try simp only [zT,zV,zS,zU,vcC,lateX,ex,strp,binA,elems,cells,scalar,eqC,keyA,intsA,lookA,ofVs,mpOf,Nat.reduceBEq,reduceAdd,reduceSub,reduceLT,reduceLeDiff,reduceMul,reduceEqDiff,reduceIte,a0,aA,gk,List.length_range]))
    all_goals try (exfalso; omega)
    refine ⟨.inr (.inl ⟨_,_,_,_,rfl,fun _=>⟨hon,?_⟩,fun h=>by cases h⟩),.inr ⟨_,_,_,_,rfl,hon,?_⟩⟩
    · rintro res σ2 ⟨rfl,rfl⟩
      refine owp_of_exs ?_
      simp only [zT,zV,zS,zU,vcC,lateX,ex,strp,binA,elems,cells,scalar,eqC,keyA,intsA,lookA,ofVs,mpOf,Nat.reduceBEq,reduceAdd,reduceSub,reduceLT,reduceLeDiff,reduceMul,reduceEqDiff,reduceIte,a0,aA,gk,List.length_range]
      (repeat' ((first
 | refine vn rfl ?_
 | simp (disch:=omega) only [wr64,Int.zero_sub]
 | refine bo (fun _=>?_) fun _=>?_
 | refine im fun _=>?_
 | refine cF ?_
 | refine om ?_
 | refine an ?_
 | fail) <;> try simp only [zT,zV,zS,zU,vcC,lateX,ex,strp,binA,elems,cells,scalar,eqC,keyA,intsA,lookA,ofVs,mpOf,Nat.reduceBEq,reduceAdd,reduceSub,reduceLT,reduceLeDiff,reduceMul,reduceEqDiff,reduceIte,a0,aA,gk,List.length_range]))
      all_goals try (exfalso; omega)
      exact ⟨⟨(k+1,_,_),hlt,hPl,hP⟩,⟨rfl,rfl⟩,rfl,by simp only; omega⟩
    · rintro res σ2 ⟨rfl,rfl⟩
      refine ⟨owp_of_exs ?_,owp_of_exs ?_⟩
      · simp only [zT,zV,zS,zU,vcC,lateX,ex,strp,binA,elems,cells,scalar,eqC,keyA,intsA,lookA,ofVs,mpOf,Nat.reduceBEq,reduceAdd,reduceSub,reduceLT,reduceLeDiff,reduceMul,reduceEqDiff,reduceIte,a0,aA,gk,List.length_range]
        (repeat' ((first
 | refine vn rfl ?_
 | simp (disch:=omega) only [wr64,Int.zero_sub]
 | refine bo (fun _=>?_) fun _=>?_
 | refine im fun _=>?_
 | refine cF ?_
 | refine om ?_
 | refine an ?_
 | fail) <;> try simp only [zT, zV, zS, zU, vcC, lateX, ex, strp, binA, elems, cells, scalar, eqC, keyA, intsA, lookA, ofVs, mpOf, Nat.reduceBEq, reduceAdd, reduceSub, reduceLT, reduceLeDiff, reduceMul, reduceEqDiff, reduceIte, a0, aA, gk, List.length_range]))
        all_goals try (exfalso; omega)
        exact ⟨⟨(k+1,_,_),hlt,hPl,hP⟩,⟨rfl,rfl⟩,rfl,by simp only; omega⟩
      · simp only [zT,zV,zS,zU,vcC,lateX,ex,strp,binA,elems,cells,scalar,eqC,keyA,intsA,lookA,ofVs,mpOf,Nat.reduceBEq,reduceAdd,reduceSub,reduceLT,reduceLeDiff,reduceMul,reduceEqDiff,reduceIte,a0,aA,gk,List.length_range]
        (repeat' ((first
 | refine vn rfl ?_
 | simp (disch:=omega) only [wr64,Int.zero_sub]
 | refine bo (fun _=>?_) fun _=>?_
 | refine im fun _=>?_
 | refine cF ?_
 | refine om ?_
 | refine an ?_
 | fail) <;> try simp only [zT, zV, zS, zU, vcC, lateX, ex, strp, binA, elems, cells, scalar, eqC, keyA, intsA, lookA, ofVs, mpOf, Nat.reduceBEq, reduceAdd, reduceSub, reduceLT, reduceLeDiff, reduceMul, reduceEqDiff, reduceIte, a0, aA, gk, List.length_range]))
        all_goals try (exfalso; omega)
        exact ⟨⟨(k+1,_,_),hlt,hPl,hP⟩,⟨rfl,rfl⟩,rfl,by simp only; omega⟩
  · have hti:t.length=k+1:=by omega
    (repeat' ((first
 | refine vn rfl ?_
 | simp (disch:=omega) only [wr64,Int.zero_sub]
 | refine bo (fun _=>?_) fun _=>?_
 | refine im fun _=>?_
 | refine cF ?_
 | refine om ?_
 | refine an ?_
 | fail) <;> try simp only [zT,zV,zS,zU,vcC,lateX,ex,strp,binA,elems,cells,scalar,eqC,keyA,intsA,lookA,ofVs,mpOf,Nat.reduceBEq,reduceAdd,reduceSub,reduceLT,reduceLeDiff,reduceMul,reduceEqDiff,reduceIte]))
    all_goals try (exfalso; omega)
    exact .mk σ.length g (by rw [hti]) (by rw [hti]; exact hS)
inductive OutR (t:Trk) (env:Env) (σ:Sto):Prop
  | mk (A:Nat) (g:Nat→Nat) (h:Sub [(1,.iptr [tkS t] 0),(3,.own A 0 t.length)] env) (hs:RowsO σ A t.length (fwd t) g)
theorem rall_spec (t:Trk) (h:valid t) (hbw:Pure Tryz.prog 87 [trS t] (stgS (bwds t))):Pure Tryz.prog 89 [trS t] (stgS (allvs t)):=by
  refine Pure.of_body Tryz.call89 Tryz.func89 k89 (Nat.le_of_ble_eq_true rfl) ?_
  unfold c89
  have hN:=h.1
  have hN2:=h.2.1
  have hbl:(bwds t).length=t.length:=by simp [bwds]
  have hz:((0:Nat):Int)=0:=rfl
  ((first
 | refine vn rfl ?_
 | simp (disch:=omega) only [wr64,Int.zero_sub]
 | refine bo (fun _=>?_) fun _=>?_
 | refine im fun _=>?_
 | refine cF ?_
 | refine om ?_
 | refine an ?_
 | fail) <;> try simp only [zT,zV,zS,zU,vcC,lateX,ex,strp,binA,elems,cells,scalar,eqC,keyA,intsA,lookA,ofVs,mpOf,Nat.reduceBEq,reduceAdd,reduceSub,reduceLT,reduceLeDiff,reduceMul,reduceEqDiff,reduceIte])
  refine AWPC.cut (OutR t) ?_ ?_
  · have key:∀ (σ1:Sto),σ1.at 0 0=some ⟨45,1,(als t 0).map (fun l=>[spS l]),none⟩→Does Tryz.prog 84 [trS t,.own 0 0 (wd t 0)] σ1 (FwdR t):=fun σ1 h1=>forwards_does σ1 t 0 h h1
    have ha:=allowed_does [] t 0 h hN
    rw [hz] at ha
    (repeat' ((first
 | refine vn rfl ?_
 | simp (disch:=omega) only [wr64,Int.zero_sub]
 | refine bo (fun _=>?_) fun _=>?_
 | refine im fun _=>?_
 | refine cF ?_
 | refine om ?_
 | refine an ?_
 | fail) <;> try simp only [zT,zV,zS,zU,vcC,lateX,ex,strp,binA,elems,cells,scalar,eqC,keyA,intsA,lookA,ofVs,mpOf,Nat.reduceBEq,reduceAdd,reduceSub,reduceLT,reduceLeDiff,reduceMul,reduceEqDiff,reduceIte]))
    refine ⟨?_,?_⟩
    · refine .inr (.inl ⟨_,_,_,_,rfl,fun _=>⟨ha,?_⟩,fun h=>by cases h⟩)
      rintro res σ1 ⟨rfl,ν,rfl⟩
      refine owp_of_exs ?_
      simp only [zT,zV,zS,zU,vcC,lateX,ex,strp,binA,elems,cells,scalar,eqC,keyA,intsA,lookA,ofVs,mpOf,Nat.reduceBEq,reduceAdd,reduceSub,reduceLT,reduceLeDiff,reduceMul,reduceEqDiff,reduceIte]
      refine .inr (.inl ⟨_,_,_,_,rfl,fun _=>⟨key _ rfl,?_⟩,fun h=>by cases h⟩)
      rintro res σ0 ⟨A,g,rfl,hS⟩
      refine owp_of_exs ?_
      simp only [zT,zV,zS,zU,vcC,lateX,ex,strp,binA,elems,cells,scalar,eqC,keyA,intsA,lookA,ofVs,mpOf,Nat.reduceBEq,reduceAdd,reduceSub,reduceLT,reduceLeDiff,reduceMul,reduceEqDiff,reduceIte]
      exact .mk A g (by simp only [Sub_cons,SubT]; simp [gt]) hS
    · refine .inr (.inl ⟨_,_,_,_,rfl,fun _=>⟨ha,?_⟩,fun h=>by cases h⟩)
      rintro res σ1 ⟨rfl,ν,rfl⟩
      refine owp_of_exs ?_
      simp only [zT,zV,zS,zU,vcC,lateX,ex,strp,binA,elems,cells,scalar,eqC,keyA,intsA,lookA,ofVs,mpOf,Nat.reduceBEq,reduceAdd,reduceSub,reduceLT,reduceLeDiff,reduceMul,reduceEqDiff,reduceIte]
      refine .inr (.inl ⟨_,_,_,_,rfl,fun _=>⟨key _ rfl,?_⟩,fun h=>by cases h⟩)
      rintro res σ0 ⟨A,g,rfl,hS⟩
      refine owp_of_exs ?_
      simp only [zT,zV,zS,zU,vcC,lateX,ex,strp,binA,elems,cells,scalar,eqC,keyA,intsA,lookA,ofVs,mpOf,Nat.reduceBEq,reduceAdd,reduceSub,reduceLT,reduceLeDiff,reduceMul,reduceEqDiff,reduceIte]
      exact .mk A g (by simp only [Sub_cons,SubT]; simp [gt]) hS
  rintro env σ0 ⟨A,g,hsub,hS⟩
  refine AWPC.weaken hsub ?_
  clear hsub
  have hat:=hS.a
  rw [range_congr (f:=fun i=>[AV.own (g i) 0 (fwd t i).length]) (g:=fun i=>[AV.own (g i) 0 (wd t i)]) fun i hi=>by rw [fwd_len]] at hat
  have hgA:∀ i,i < t.length→g i≠A:=fun i hi e=>by
    have h2:=hS.row i hi
    rw [e,hat] at h2; injection h2 with h2; injection h2 with h2; cases h2
  have hgi:∀ i j,i < t.length→j < t.length→i≠j→g i≠g j:=fun i j hi hj hij=>by
    rcases Nat.lt_or_ge i j with h1 | h1
    · have:=hS.inj i j h1 hj; omega
    · have:=hS.inj j i (by omega) hi; omega
  (repeat' ((first
 | refine vn rfl ?_
 | simp (disch:=omega) only [wr64,Int.zero_sub]
 | refine bo (fun _=>?_) fun _=>?_
 | refine im fun _=>?_
 | ((repeat refine si ?_); (first | ((first | refine .inl ⟨_,_,_,_,rfl,fun _=>pu hbw,?_⟩ | refine ⟨_,_,_,_,rfl,fun _=>pu hbw,?_⟩); (first | refine o1 ?_ | refine o2 ?_ | refine o3 ?_ | refine o4 ?_)) | refine .inl ⟨_,_,_,_,rfl,pu hbw,?_⟩))
 | refine cF ?_
 | refine om ?_
 | refine an ?_
 | fail) <;> try simp only [zT,zV,zS,zU,vcC,lateX,ex,strp,binA,elems,cells,scalar,eqC,keyA,intsA,lookA,ofVs,mpOf,Nat.reduceBEq,reduceAdd,reduceSub,reduceLT,reduceLeDiff,reduceMul,reduceEqDiff,reduceIte]))
  all_goals try (exfalso; omega)
  refine AWPC.loopE (α:={ x:Nat × Sto // x.1≤t.length∧x.2.at A 0=some ⟨61,1,(List.range t.length).map fun i=>[.own (g i) 0 (wd t i)],none⟩∧∀ i,i < t.length→x.2.at (g i) 0=some ⟨45,1,(if i < x.1 then allv t i else fwd t i).map (fun l=>[spS l]),none⟩ })
    [5,6] (fun x=>[(5,n x.1.1)]) (fun x=>x.1.2) (fun x=>t.length - x.1.1) ⟨(0,σ0),Nat.zero_le _,hat,fun i hi=>by rw [if_neg (by omega)]; exact hS.row i hi⟩ ?_ rfl ?_
  · (simp only [zT,zV,zS,zU,vcC,lateX,ex,strp,binA,elems,cells,scalar,eqC,keyA,intsA,lookA,ofVs,mpOf,Nat.reduceBEq,reduceAdd,reduceSub,reduceLT,reduceLeDiff,reduceMul,reduceEqDiff,reduceIte]; try simp)
  rintro ⟨⟨k,τ⟩,hk,y1,y2⟩
  simp only at hk y1 y2
  simp only
  by_cases hlt:k < t.length
  · have gk:((List.range t.length).map fun i=>[AV.own (g i) 0 (wd t i)]).getD k []=[.own (g k) 0 (wd t k)]:=range_get _ hlt
    have yk:=y2 k hlt
    rw [if_neg (Nat.lt_irrefl k),map_range _ _ [],fwd_len] at yk
    have bk:=bwds_get hlt
    have hw:=wd_le h k
    (repeat' ((first
 | refine vn rfl ?_
 | simp (disch:=omega) only [wr64,Int.zero_sub]
 | refine bo (fun _=>?_) fun _=>?_
 | refine im fun _=>?_
 | refine cF ?_
 | refine om ?_
 | refine an ?_
 | fail) <;> try simp only [zT,zV,zS,zU,vcC,lateX,ex,strp,binA,elems,cells,scalar,eqC,keyA,intsA,lookA,ofVs,mpOf,Nat.reduceBEq,reduceAdd,reduceSub,reduceLT,reduceLeDiff,reduceMul,reduceEqDiff,reduceIte,y1,gk,yk,List.length_range]))
    all_goals try (exfalso; omega)
    refine AWPC.loopE (α:={ x:Nat × Sto // x.1≤wd t k∧x.2.at A 0=some ⟨61,1,(List.range t.length).map fun i=>[.own (g i) 0 (wd t i)],none⟩∧(∀ i,i < t.length→i≠k→x.2.at (g i) 0=some ⟨45,1,(if i < k then allv t i else fwd t i).map (fun l=>[spS l]),none⟩) ∧
        x.2.at (g k) 0=some ⟨45,1,(List.range (wd t k)).map fun j=>[spS (if j < x.1 then meet ((fwd t k).getD j []) ((bwd t k).getD j []) else (fwd t k).getD j [])],none⟩ })
      [6] (fun x=>[(6,n x.1.1)]) (fun x=>x.1.2) (fun x=>wd t k - x.1.1) ⟨(0,τ),Nat.zero_le _,y1,fun i hi _=>y2 i hi,by simpa using yk⟩ ?_ rfl ?_
    · (simp only [zT,zV,zS,zU,vcC,lateX,ex,strp,binA,elems,cells,scalar,eqC,keyA,intsA,lookA,ofVs,mpOf,Nat.reduceBEq,reduceAdd,reduceSub,reduceLT,reduceLeDiff,reduceMul,reduceEqDiff,reduceIte]; try simp)
    rintro ⟨⟨j,τ⟩,hj,z1,z2,z3⟩
    simp only at hj z1 z2 z3
    simp only
    by_cases hlt2:j < wd t k
    · have gj:((List.range (wd t k)).map fun m=>[spS (if m < j then meet ((fwd t k).getD m []) ((bwd t k).getD m []) else (fwd t k).getD m [])]).getD j []=[spS ((fwd t k).getD j [])]:=by rw [range_get _ hlt2,if_neg (Nat.lt_irrefl j)]
      have bj:((bwd t k).map fun l=>[spS l]).getD j []=[spS ((bwd t k).getD j [])]:=getD_map (getD_some (by rw [bwd_len hlt]; exact hlt2))
      have hbw2:=bwd_len hlt
      have q1:=goods_get (fwd_goods h k) j
      have q2:=goods_get (bwd_goods h k) j
      have z4:=good_len q1
      have z5:=good_len q2
      have hme:=meetR_spec _ _ (good_ok q1).bd (good_ok q2).bd (by omega) (by omega)
      (repeat' ((first
 | refine vn rfl ?_
 | simp (disch:=omega) only [wr64,Int.zero_sub]
 | refine bo (fun _=>?_) fun _=>?_
 | refine im fun _=>?_
 | ((repeat refine si ?_); (first | ((first | refine .inl ⟨_,_,_,_,rfl,fun _=>pu hme,?_⟩ | refine ⟨_,_,_,_,rfl,fun _=>pu hme,?_⟩); (first | refine o1 ?_ | refine o2 ?_ | refine o3 ?_ | refine o4 ?_)) | refine .inl ⟨_,_,_,_,rfl,pu hme,?_⟩))
 | refine cF ?_
 | refine om ?_
 | refine an ?_
 | fail) <;> try simp only [zT,zV,zS,zU,vcC,lateX,ex,strp,binA,elems,cells,scalar,eqC,keyA,intsA,lookA,ofVs,mpOf,Nat.reduceBEq,reduceAdd,reduceSub,reduceLT,reduceLeDiff,reduceMul,reduceEqDiff,reduceIte,z1,z3,gk,gj,bk,bj,hbl,hbw2,List.length_range]))
      all_goals try (exfalso; omega)
      generalize hσ4:Sto.upd τ (g k) 0 _=σ4
      have w1:∀ q,q≠g k→σ4.at q 0=τ.at q 0:=fun q hq=>by rw [← hσ4,at_upd_other (.inl fun e=>hq e.symm)]
      have w2:σ4.at (g k) 0=some ⟨45,1,((List.range (wd t k)).map fun m=>[spS (if m < j then meet ((fwd t k).getD m []) ((bwd t k).getD m []) else (fwd t k).getD m [])]).set j [spS (meet ((fwd t k).getD j []) ((bwd t k).getD j []))],none⟩:=by rw [← hσ4,at_upd_same z3]
      refine ⟨⟨(j+1,σ4),hlt2,?_,fun i hi hik=>?_,?_⟩,by simp,rfl,by simp only; omega⟩
      · simp only; rw [w1 _ (hgA k hlt).symm]; exact z1
      · simp only; rw [w1 _ (hgi i k hi hlt hik)]; exact z2 i hi hik
      · simp only
        rw [w2,range_set]
        refine congrArg (fun z=>some (⟨45,1,z,none⟩:Ob)) (range_congr fun m hm=>?_)
        by_cases hmj:m=j
        · subst hmj; simp
        · rw [if_neg hmj]
          by_cases hml:m < j
          · rw [if_pos hml,if_pos (by omega)]
          · rw [if_neg hml,if_neg (by omega)]
    · obtain rfl:j=wd t k:=by omega
      (repeat' ((first
 | refine vn rfl ?_
 | simp (disch:=omega) only [wr64,Int.zero_sub]
 | refine bo (fun _=>?_) fun _=>?_
 | refine im fun _=>?_
 | refine cF ?_
 | refine om ?_
 | refine an ?_
 | fail) <;> try simp only [zT,zV,zS,zU,vcC,lateX,ex,strp,binA,elems,cells,scalar,eqC,keyA,intsA,lookA,ofVs,mpOf,Nat.reduceBEq,reduceAdd,reduceSub,reduceLT,reduceLeDiff,reduceMul,reduceEqDiff,reduceIte,z1,z3,gk,List.length_range]))
      all_goals try (exfalso; omega)
      refine ⟨⟨(k+1,τ),hlt,z1,fun i hi=>?_⟩,by simp,rfl,by simp only; omega⟩
      simp only
      by_cases hik:i=k
      · subst hik
        rw [if_pos (by omega),allv_map hi,z3]
        exact congrArg (fun z=>some (⟨45,1,z,none⟩:Ob)) (range_congr fun m hm=>by rw [if_pos hm])
      · rw [z2 i hi hik]
        by_cases hil:i < k
        · rw [if_pos hil,if_pos (by omega)]
        · rw [if_neg hil,if_neg (by omega)]
  · obtain rfl:k=t.length:=by omega
    (repeat' ((first
 | refine vn rfl ?_
 | simp (disch:=omega) only [wr64,Int.zero_sub]
 | refine bo (fun _=>?_) fun _=>?_
 | refine im fun _=>?_
 | refine cF ?_
 | refine om ?_
 | refine an ?_
 | fail) <;> try simp only [zT,zV,zS,zU,vcC,lateX,ex,strp,binA,elems,cells,scalar,eqC,keyA,intsA,lookA,ofVs,mpOf,Nat.reduceBEq,reduceAdd,reduceSub,reduceLT,reduceLeDiff,reduceMul,reduceEqDiff,reduceIte,y1,List.length_range]))
    all_goals try (exfalso; omega)
    refine frz_stg y1 fun i hi=>.inr ⟨g i,by rw [allv_len hi],?_⟩
    have:=y2 i hi
    rwa [if_pos hi] at this
def c169:CF:=⟨10,
 (.seq (.ops [
 ⟨some 1,.box false 30 2 (.t 0),none⟩,
 ⟨some 2,.alloc 30 2 [.int .i64 0,.int .i64 0],none⟩] [1,2])
 (.seq (.ops [
 ⟨some 3,.faddr 1 (.t 1),none⟩,
 ⟨some 4,.load none (.t 3),none⟩,
 ⟨some 5,.bin .sub (.c (.int .i64 0)) (.t 4),none⟩,
 ⟨some 6,.faddr 0 (.t 1),none⟩,
 ⟨some 7,.load none (.t 6),none⟩,
 ⟨some 8,.bin .sub (.c (.int .i64 0)) (.t 7),none⟩,
 ⟨some 9,.build [.int .i64 0,.int .i64 0] [(0,1,(.t 5)),(1,1,(.t 8))],none⟩,
 ⟨none,.store 2 (.t 2) (.t 9),none⟩] [2])
 .ret)),
 [.c 2 (some 2)]⟩
def c143:CF:=⟨81,
 (.seq (.ops [
 ⟨some 3,.box false 24 1 (.t 0),none⟩,
 ⟨some 6,.mv (.c (.slice none 0 0)),none⟩] [1,2,3])
 (.seq (.ops [
 ⟨some 11,.faddr 0 (.t 3),none⟩,
 ⟨some 12,.load none (.t 11),none⟩,
 ⟨some 13,.mv (.t 1),none⟩,
 ⟨some 14,.bin .sub (.t 13) (.c (.int .i64 1)),none⟩,
 ⟨some 15,.iaddr 1 (.t 12) (.t 14),none⟩,
 ⟨some 16,.load none (.t 15),none⟩,
 ⟨some 17,.len (.t 16),none⟩,
 ⟨some 18,.mksl 45 1 24 [.slice none 0 0] (.t 17) (.t 17),none⟩,
 ⟨some 7,.mv (.t 18),none⟩] [1,2,3,7])
 (.seq (.seq (.ops [
 ⟨some 8,.mv (.c (.int .i64 0)),none⟩] [1,2,3,7,8])
 (.block 0 (.loop (.seq (.seq (.ops [
 ⟨some 19,.mv (.t 8),none⟩,
 ⟨some 20,.faddr 0 (.t 3),none⟩,
 ⟨some 21,.load none (.t 20),none⟩,
 ⟨some 22,.mv (.t 1),none⟩,
 ⟨some 23,.bin .sub (.t 22) (.c (.int .i64 1)),none⟩,
 ⟨some 24,.iaddr 1 (.t 21) (.t 23),none⟩,
 ⟨some 25,.load none (.t 24),none⟩,
 ⟨some 26,.len (.t 25),none⟩,
 ⟨some 27,.bin .lss (.t 19) (.t 26),none⟩] [1,2,3,7,8,27])
 (.cond (.t 27) .skip
 (.exit 0)))
 (.seq (.block 1 (.seq (.ops [
 ⟨some 30,.faddr 0 (.t 3),none⟩,
 ⟨some 31,.load none (.t 30),none⟩,
 ⟨some 32,.mv (.t 1),none⟩,
 ⟨some 33,.bin .sub (.t 32) (.c (.int .i64 1)),none⟩,
 ⟨some 34,.iaddr 1 (.t 31) (.t 33),none⟩,
 ⟨some 35,.load none (.t 34),none⟩,
 ⟨some 36,.mv (.t 8),none⟩,
 ⟨some 37,.iaddr 2 (.t 35) (.t 36),none⟩,
 ⟨some 38,.faddr 1 (.t 37),none⟩,
 ⟨some 39,.load none (.t 38),none⟩,
 ⟨some 9,.mv (.t 39),none⟩] [1,2,3,7,8,9])
 (.seq (.ops [
 ⟨some 10,.mv (.c (.int .i64 0)),none⟩] [1,2,3,7,8,9,10])
 (.block 2 (.loop (.seq (.seq (.ops [
 ⟨some 40,.mv (.t 10),none⟩,
 ⟨some 41,.mv (.t 9),none⟩,
 ⟨some 42,.len (.t 41),none⟩,
 ⟨some 43,.bin .lss (.t 40) (.t 42),none⟩] [1,2,3,7,8,9,10,43])
 (.cond (.t 43) .skip
 (.exit 2)))
 (.seq (.block 3 (.draw [
 ⟨some 46,.mv (.t 7),none⟩,
 ⟨some 47,.mv (.t 8),none⟩,
 ⟨some 48,.mv (.t 7),none⟩,
 ⟨some 49,.mv (.t 8),none⟩,
 ⟨some 50,.iaddr 1 (.t 48) (.t 49),none⟩,
 ⟨some 51,.load none (.t 50),none⟩,
 ⟨some 52,.faddr 0 (.t 3),none⟩,
 ⟨some 53,.load none (.t 52),none⟩,
 ⟨some 54,.mv (.t 1),none⟩,
 ⟨some 55,.bin .sub (.t 54) (.c (.int .i64 1)),none⟩,
 ⟨some 56,.iaddr 1 (.t 53) (.t 55),none⟩,
 ⟨some 57,.load none (.t 56),none⟩,
 ⟨some 58,.mv (.t 8),none⟩,
 ⟨some 59,.iaddr 2 (.t 57) (.t 58),none⟩,
 ⟨some 60,.faddr 0 (.t 59),none⟩,
 ⟨some 61,.load none (.t 60),none⟩,
 ⟨some 62,.mv (.t 2),none⟩,
 ⟨some 63,.mv (.t 9),none⟩,
 ⟨some 64,.mv (.t 10),none⟩,
 ⟨some 65,.iaddr 3 (.t 63) (.t 64),none⟩,
 ⟨some 66,.faddr 0 (.t 65),none⟩,
 ⟨some 67,.load none (.t 66),none⟩,
 ⟨some 68,.iaddr 1 (.t 62) (.t 67),none⟩,
 ⟨some 69,.load none (.t 68),none⟩,
 ⟨some 70,.mv (.t 9),none⟩,
 ⟨some 71,.mv (.t 10),none⟩,
 ⟨some 72,.iaddr 3 (.t 70) (.t 71),none⟩,
 ⟨some 73,.faddr 1 (.t 72),none⟩,
 ⟨some 74,.load (some 2) (.t 73),none⟩,
 ⟨some 75,.call (.f 169) [(.t 74)],none⟩,
 ⟨some 76,.call (.f 155) [(.t 69),(.t 75)],none⟩,
 ⟨some 77,.call (.f 127) [(.t 61),(.t 76)],none⟩,
 ⟨some 78,.call (.f 126) [(.t 51),(.t 77)],none⟩,
 ⟨some 79,.iaddr 1 (.t 46) (.t 47),none⟩] [
 ⟨none,.store 1 (.t 79) (.t 78),none⟩] [1,2,3,7,8,9,10]))
 (.ops [
 ⟨some 44,.mv (.t 10),none⟩,
 ⟨some 45,.bin .add (.t 44) (.c (.int .i64 1)),none⟩,
 ⟨some 10,.mv (.t 45),none⟩] [1,2,3,7,8,9,10]))))))))
 (.ops [
 ⟨some 28,.mv (.t 8),none⟩,
 ⟨some 29,.bin .add (.t 28) (.c (.int .i64 1)),none⟩,
 ⟨some 8,.mv (.t 29),none⟩] [1,2,3,7,8]))))))
 (.seq (.ops [
 ⟨some 80,.mv (.t 7),none⟩,
 ⟨some 6,.mv (.t 80),none⟩] [6])
 .ret)))),
 [.t 6]⟩
def c87:CF:=⟨37,
 (.seq (.ops [
 ⟨some 1,.box false 24 1 (.t 0),none⟩,
 ⟨some 2,.mv (.c (.slice none 0 0)),none⟩] [1])
 (.seq (.ops [
 ⟨some 6,.faddr 0 (.t 1),none⟩,
 ⟨some 7,.load none (.t 6),none⟩,
 ⟨some 8,.len (.t 7),none⟩,
 ⟨some 3,.mv (.t 8),none⟩] [1,3])
 (.seq (.ops [
 ⟨some 9,.mv (.t 3),none⟩,
 ⟨some 10,.mksl 61 1 24 [.slice none 0 0] (.t 9) (.t 9),none⟩,
 ⟨some 4,.mv (.t 10),none⟩] [1,3,4])
 (.seq (.ops [
 ⟨some 11,.mv (.t 4),none⟩,
 ⟨some 12,.mv (.t 3),none⟩,
 ⟨some 13,.bin .sub (.t 12) (.c (.int .i64 1)),none⟩,
 ⟨some 14,.load (some 1) (.t 1),none⟩,
 ⟨some 15,.mv (.t 3),none⟩,
 ⟨some 16,.bin .sub (.t 15) (.c (.int .i64 1)),none⟩,
 ⟨some 17,.call (.f 85) [(.t 14),(.t 16)],none⟩,
 ⟨some 18,.iaddr 1 (.t 11) (.t 13),none⟩,
 ⟨none,.store 1 (.t 18) (.t 17),none⟩] [1,3,4])
 (.seq (.seq (.ops [
 ⟨some 19,.mv (.t 3),none⟩,
 ⟨some 20,.bin .sub (.t 19) (.c (.int .i64 1)),none⟩,
 ⟨some 5,.mv (.t 20),none⟩] [1,4,5])
 (.block 0 (.loop (.seq (.seq (.ops [
 ⟨some 21,.mv (.t 5),none⟩,
 ⟨some 22,.bin .gtr (.t 21) (.c (.int .i64 0)),none⟩] [1,4,5,22])
 (.cond (.t 22) .skip
 (.exit 0)))
 (.seq (.block 1 (.draw [
 ⟨some 25,.mv (.t 4),none⟩,
 ⟨some 26,.mv (.t 5),none⟩,
 ⟨some 27,.bin .sub (.t 26) (.c (.int .i64 1)),none⟩,
 ⟨some 28,.load (some 1) (.t 1),none⟩,
 ⟨some 29,.mv (.t 5),none⟩,
 ⟨some 30,.mv (.t 4),none⟩,
 ⟨some 31,.mv (.t 5),none⟩,
 ⟨some 32,.iaddr 1 (.t 30) (.t 31),none⟩,
 ⟨some 33,.load none (.t 32),none⟩,
 ⟨some 34,.call (.f 143) [(.t 28),(.t 29),(.t 33)],none⟩,
 ⟨some 35,.iaddr 1 (.t 25) (.t 27),none⟩] [
 ⟨none,.store 1 (.t 35) (.t 34),none⟩] [1,4,5]))
 (.ops [
 ⟨some 23,.mv (.t 5),none⟩,
 ⟨some 24,.bin .sub (.t 23) (.c (.int .i64 1)),none⟩,
 ⟨some 5,.mv (.t 24),none⟩] [1,4,5]))))))
 (.seq (.ops [
 ⟨some 36,.mv (.t 4),none⟩,
 ⟨some 2,.mv (.t 36),none⟩] [2])
 .ret)))))),
 [.t 2]⟩
theorem k169:chkF Tryz.prog Tryz.f169 c169=true:=by kernel_rfl
theorem k143:chkF Tryz.prog Tryz.f143 c143=true:=by kernel_rfl
theorem k87:chkF Tryz.prog Tryz.f87 c87=true:=by kernel_rfl
theorem back_spec (c:Sp) (hc:chOk c):Pure Tryz.prog 169 [.agg c.cs] (.agg (Sp.cs ⟨-c.hi,-c.lo⟩)):=by
  refine Pure.of_body Tryz.call169 Tryz.func169 k169 (Nat.le_of_ble_eq_true rfl) ?_
  unfold c169
  obtain ⟨c1,c2,c3⟩:=hc
  (repeat' ((first
 | refine vn rfl ?_
 | simp (disch:=omega) only [wr64,Int.zero_sub]
 | refine bo (fun _=>?_) fun _=>?_
 | refine im fun _=>?_
 | refine cF ?_
 | refine om ?_
 | refine an ?_
 | fail) <;> try simp only [zT,zV,zS,zU,vcC,lateX,ex,strp,binA,elems,cells,scalar,eqC,keyA,intsA,lookA,ofVs,mpOf,Nat.reduceBEq,reduceAdd,reduceSub,reduceLT,reduceLeDiff,reduceMul,reduceEqDiff,reduceIte]))
  all_goals try (exfalso; omega)
  all_goals exact Frz.eq rfl (by simp (maxDischargeDepth:=9))
theorem backwardR_spec (t:Trk) (k:Nat) (cur:List (List Sp)) (hv:valid t) (hk:k+1 < t.length) (hl:cur.length=wd t (k+1)) (hc:goods cur) :
    Pure Tryz.prog 143 [trS t,n ((k:Int)+1),nodS cur] (nodS (onto ((stp t k).map Hop.flip) cur (als t k))):=by
  refine Pure.of_body Tryz.call143 Tryz.func143 k143 (Nat.le_of_ble_eq_true rfl) ?_
  unfold c143
  have h2:=hv.2.1
  have gtk:(t.map fun l=>[stS l]).getD k []=[stS (t.getD k [])]:=getD_map (getD_some (by omega))
  have gtk1:(t.map fun l=>[stS l]).getD (k+1) []=[stS (t.getD (k+1) [])]:=getD_map (getD_some hk)
  have ek:((k:Int)+1 - 1)=(k:Int):=by omega
  have h401:=hv.2.1
  obtain ⟨v1,v2,v3⟩:=valid_stg hv (show k < t.length by omega)
  obtain ⟨w1,w2,w3⟩:=valid_stg hv hk
  have hwk:wd t (k+1)=(t.getD (k+1) []).length:=rfl
  have hwk0:wd t k=(t.getD k []).length:=rfl
  have hal:als t k=(t.getD k []).map (·.al):=rfl
  have hst:stp t k=hopsF 0 (t.getD k []):=rfl
  rw [hal,hst]
  rw [hwk] at hl
  rw [hwk] at v3
  generalize t.getD k []=L at *
  generalize t.getD (k+1) []=L2 at *
  have hch:∀ x∈L,∀ e∈x.nx,chOk e.ch:=fun x hx e he=>((v3 x hx).2.2 e he).2.2
  have hflip:∀ h∈(hopsF 0 L).map Hop.flip,chOk h.ch:=fun h hh=>by
    obtain ⟨h',hh',rfl⟩:=List.mem_map.1 hh
    obtain ⟨c1,c2,c3⟩:=hopsF_ch hch 0 h' hh'
    exact ⟨by simp only [Hop.flip]; omega,by simp only [Hop.flip]; omega,by simp only [Hop.flip]; omega⟩
  (repeat' ((first
 | refine vn rfl ?_
 | simp (disch:=omega) only [wr64,Int.zero_sub]
 | refine bo (fun _=>?_) fun _=>?_
 | refine im fun _=>?_
 | refine cF ?_
 | refine om ?_
 | refine an ?_
 | fail) <;> try simp only [zT,zV,zS,zU,vcC,lateX,ex,strp,binA,elems,cells,scalar,eqC,keyA,intsA,lookA,ofVs,mpOf,Nat.reduceBEq,reduceAdd,reduceSub,reduceLT,reduceLeDiff,reduceMul,reduceEqDiff,reduceIte,gtk,gtk1,ek]))
  all_goals try (exfalso; omega)
  refine AWPC.weakO (f:=0) (i:=0) (o:=⟨45,1,List.replicate L.length [.v (.slice none 0 0)],none⟩) (o':=⟨45,1,rowsR cur (L.map (·.al)) L.length [],none⟩) rfl rfl rfl rfl rfl (by simp [rowsR_len]) (fun e he=>?_) (fun e j he hj=>?_) ?_
  · rw [rowsR_get (by simpa using he)]; rfl
  · simp only [List.length_replicate] at he
    obtain rfl:j=0:=by simp only at hj; omega
    intro w X β σ x hx
    rw [rowsR_get he]
    simp only [List.getD_eq_getElem?_getD,List.getElem?_replicate,if_pos he] at hx
    exact hx.nil
  simp only [zT,zV,zS,zU,vcC,lateX,ex,strp,binA,elems,cells,scalar,eqC,keyA,intsA,lookA,ofVs,mpOf,Nat.reduceBEq,reduceAdd,reduceSub,reduceLT,reduceLeDiff,reduceMul,reduceEqDiff,reduceIte]
  refine AWPC.loopE (α:={ y:Nat // y≤L.length }) [8] (fun y=>[(8,n y.1)]) (fun y=>[some [⟨45,1,rowsR cur (L.map (·.al)) L.length ((hopsF 0 (L.take y.1)).map Hop.flip),none⟩]]) (fun y=>L.length - y.1) ⟨0,Nat.zero_le _⟩ ?_ ?_ ?_
  · (simp only [zT,zV,zS,zU,vcC,lateX,ex,strp,binA,elems,cells,scalar,eqC,keyA,intsA,lookA,ofVs,mpOf,Nat.reduceBEq,reduceAdd,reduceSub,reduceLT,reduceLeDiff,reduceMul,reduceEqDiff,reduceIte]; try simp)
  · rfl
  rintro ⟨i,hi⟩
  try simp only at hi
  try simp only
  by_cases hlt:i < L.length
  · obtain ⟨x,hx⟩:∃ x,L[i]?=some x:=⟨_,List.getElem?_eq_getElem hlt⟩
    have hxm:=List.mem_of_getElem? hx
    obtain ⟨x1,x2,x3⟩:=v3 x hxm
    (repeat' ((first
 | refine vn rfl ?_
 | simp (disch:=omega) only [wr64,Int.zero_sub]
 | refine bo (fun _=>?_) fun _=>?_
 | refine im fun _=>?_
 | refine cF ?_
 | refine om ?_
 | refine an ?_
 | fail) <;> try simp only [zT,zV,zS,zU,vcC,lateX,ex,strp,binA,elems,cells,scalar,eqC,keyA,intsA,lookA,ofVs,mpOf,Nat.reduceBEq,reduceAdd,reduceSub,reduceLT,reduceLeDiff,reduceMul,reduceEqDiff,reduceIte,gtk,ek,getD_map hx]))
    all_goals try (exfalso; omega)
    refine AWPC.loopE (α:={ y:Nat // y≤x.nx.length }) [10] (fun y=>[(10,n y.1)]) (fun y=>[some [⟨45,1,rowsR cur (L.map (·.al)) L.length ((hopsP L i (x.nx.take y.1)).map Hop.flip),none⟩]]) (fun y=>x.nx.length - y.1) ⟨0,Nat.zero_le _⟩ ?_ ?_ ?_
    · (simp only [zT,zV,zS,zU,vcC,lateX,ex,strp,binA,elems,cells,scalar,eqC,keyA,intsA,lookA,ofVs,mpOf,Nat.reduceBEq,reduceAdd,reduceSub,reduceLT,reduceLeDiff,reduceMul,reduceEqDiff,reduceIte]; try simp)
    · simp [hopsP]
    rintro ⟨y,hy⟩
    try simp only at hy
    try simp only
    by_cases hlt2:y < x.nx.length
    · obtain ⟨e,he⟩:∃ e,x.nx[y]?=some e:=⟨_,List.getElem?_eq_getElem hlt2⟩
      have hem:=List.mem_of_getElem? he
      obtain ⟨e1,e2,e3⟩:=x3 e hem
      have hcN:e.to.toNat < L2.length:=by omega
      have gcur:(cur.map fun l=>[spS l]).getD e.to.toNat []=[spS (cur.getD e.to.toNat [])]:=getD_map (getD_some (by omega))
      have gci:=goods_get hc e.to.toNat
      have gal:(L.map (·.al)).getD i []=x.al:=getD_map' hx
      have gga:good x.al:=x1.2
      have hops:=hopsP_snoc L i he
      have hpc:∀ h∈(hopsP L i (x.nx.take y)).map Hop.flip,chOk h.ch:=fun h hh=>by
        obtain ⟨h',hh',rfl⟩:=List.mem_map.1 hh
        have:=hopsP_ch hch i (fun f hf=>hch x hxm f (List.mem_of_mem_take hf)) h' hh'
        obtain ⟨c1,c2,c3⟩:=this
        exact ⟨by simp only [Hop.flip]; omega,by simp only [Hop.flip]; omega,by simp only [Hop.flip]; omega⟩
      have hgR:=rowsR_get (cur:=cur) (al:=L.map (·.al)) (hs:=(hopsP L i (x.nx.take y)).map Hop.flip) hlt
      have hset:=rowsR_set (cur:=cur) (al:=L.map (·.al)) (N:=L.length) (hs:=(hopsP L i (x.nx.take y)).map Hop.flip) ⟨e.to.toNat,i,⟨-e.ch.hi,-e.ch.lo⟩⟩
      try simp only at hset
      have hfl:(hopsP L i (x.nx.take y)).map Hop.flip++[⟨e.to.toNat,i,⟨-e.ch.hi,-e.ch.lo⟩⟩]=(hopsP L i (x.nx.take (y+1))).map Hop.flip:=by rw [hops,List.map_append]; rfl
      rw [gal,hfl] at hset
      have hRl:=rowsR_len (cur:=cur) (al:=L.map (·.al)) (N:=L.length) (hs:=(hopsP L i (x.nx.take y)).map Hop.flip)
      have hR:=onR_ok (al:=L.map (·.al)) hc hpc i
      have e3':chOk ⟨-e.ch.hi,-e.ch.lo⟩:=by obtain ⟨c1,c2,c3⟩:=e3; exact ⟨by simp only; omega,by simp only; omega,by simp only; omega⟩
      have hW:=wideJ_ok gci e3'
      have hwi:=wide_spec (cur.getD e.to.toNat []) ⟨-e.ch.hi,-e.ch.lo⟩ gci e3'
      have hme:=meetR_spec x.al (joins [] (Abs.wide (cur.getD e.to.toNat []) ⟨-e.ch.hi,-e.ch.lo⟩)) (good_ok gga).bd hW.bd (by have:=good_len gga; omega) (by have:=hW.len; omega)
      have hM:=meet_ok (a:=x.al) hW.bd
      have hun:=union_spec _ _ hR hM.bd hM.nm.ne (by have:=hM.len; omega)
      have hbk:=back_spec e.ch e3
      generalize onR cur (L.map (·.al)) ((hopsP L i (x.nx.take y)).map Hop.flip) i=Q at *
      generalize rowsR cur (L.map (·.al)) L.length ((hopsP L i (x.nx.take y)).map Hop.flip)=E at *
      (repeat' ((first
 | refine vn rfl ?_
 | simp (disch:=omega) only [wr64,Int.zero_sub]
 | refine bo (fun _=>?_) fun _=>?_
 | refine im fun _=>?_
 | ((repeat refine si ?_); (first | ((first | refine .inl ⟨_,_,_,_,rfl,fun _=>pu (by first | exact hbk | exact hwi | exact hme | exact hun),?_⟩ | refine ⟨_,_,_,_,rfl,fun _=>pu (by first | exact hbk | exact hwi | exact hme | exact hun),?_⟩); (first | refine o1 ?_ | refine o2 ?_ | refine o3 ?_ | refine o4 ?_)) | refine .inl ⟨_,_,_,_,rfl,pu (by first | exact hbk | exact hwi | exact hme | exact hun),?_⟩))
 | refine cF ?_
 | refine om ?_
 | refine an ?_
 | fail) <;> try simp only [zT,zV,zS,zU,vcC,lateX,ex,strp,binA,elems,cells,scalar,eqC,keyA,intsA,lookA,ofVs,mpOf,Nat.reduceBEq,reduceAdd,reduceSub,reduceLT,reduceLeDiff,reduceMul,reduceEqDiff,reduceIte,gtk,gtk1,ek,getD_map hx,getD_map he,gcur,hgR,hRl]))
      all_goals try (exfalso; omega)
      exact ⟨⟨y+1,hlt2⟩,rfl,congrArg (fun z=>[some [(⟨45,1,z,none⟩:Ob)]]) hset,by simp only; omega⟩
    · obtain rfl:y=x.nx.length:=by omega
      rw [List.take_length,hopsP_full hx]
      (repeat' ((first
 | refine vn rfl ?_
 | simp (disch:=omega) only [wr64,Int.zero_sub]
 | refine bo (fun _=>?_) fun _=>?_
 | refine im fun _=>?_
 | refine cF ?_
 | refine om ?_
 | refine an ?_
 | fail) <;> try simp only [zT,zV,zS,zU,vcC,lateX,ex,strp,binA,elems,cells,scalar,eqC,keyA,intsA,lookA,ofVs,mpOf,Nat.reduceBEq,reduceAdd,reduceSub,reduceLT,reduceLeDiff,reduceMul,reduceEqDiff,reduceIte]))
      all_goals try (exfalso; omega)
      exact ⟨⟨i+1,hlt⟩,rfl,rfl,by simp only; omega⟩
  · obtain rfl:i=L.length:=by omega
    rw [List.take_length]
    (repeat' ((first
 | refine vn rfl ?_
 | simp (disch:=omega) only [wr64,Int.zero_sub]
 | refine bo (fun _=>?_) fun _=>?_
 | refine im fun _=>?_
 | refine cF ?_
 | refine om ?_
 | refine an ?_
 | fail) <;> try simp only [zT,zV,zS,zU,vcC,lateX,ex,strp,binA,elems,cells,scalar,eqC,keyA,intsA,lookA,ofVs,mpOf,Nat.reduceBEq,reduceAdd,reduceSub,reduceLT,reduceLeDiff,reduceMul,reduceEqDiff,reduceIte,gtk,ek]))
    all_goals try (exfalso; omega)
    have hfin:rowsR cur (L.map (·.al)) L.length ((hopsF 0 L).map Hop.flip)=(onto ((hopsF 0 L).map Hop.flip) cur (L.map (·.al))).map fun l=>[spS l]:=by
      unfold rowsR onto
      rw [List.map_map,List.length_map]
      exact range_congr fun j _=>by rw [onR_onto hc hflip]; rfl
    rw [hfin]
    exact frz_nodO' rfl (by simp [onto])
theorem bwd_last {t:Trk} (h:1≤t.length):bwd t (t.length - 1)=als t (t.length - 1):=by
  unfold bwd
  rw [show t.length - 1 - (t.length - 1)=0 by omega]
  show alsB t 0=_
  unfold alsB
  rw [Nat.sub_zero]
theorem bwd_prev {t:Trk} {k:Nat} (h:k+1 < t.length):bwd t k=onto ((stp t k).map Hop.flip) (bwd t (k+1)) (als t k):=by
  obtain ⟨m,hm⟩:∃ m,t.length - 1 - k=m+1:=⟨t.length - 2 - k,by omega⟩
  unfold bwd
  rw [hm,show t.length - 1 - (k+1)=m by omega]
  show onto (stpB t m) (bwdB t m) (alsB t (m+1))=_
  unfold stpB alsB
  rw [show t.length - 2 - m=k by omega,show t.length - 1 - (m+1)=k by omega]
theorem backwardsR_spec (t:Trk) (hv:valid t):Pure Tryz.prog 87 [trS t] (stgS (bwds t)):=by
  refine Pure.of_body Tryz.call87 Tryz.func87 k87 (Nat.le_of_ble_eq_true rfl) ?_
  unfold c87
  have h1:=hv.1
  have h2:=hv.2.1
  have hal:=allowed_spec t (t.length - 1) hv (by omega)
  rw [show ((t.length - 1:Nat):Int)=(t.length:Int) - 1 by omega] at hal
  have hi:((t.length:Int) - 1).toNat=t.length - 1:=by omega
  (repeat' ((first
 | refine vn rfl ?_
 | simp (disch:=omega) only [wr64,Int.zero_sub]
 | refine bo (fun _=>?_) fun _=>?_
 | refine im fun _=>?_
 | ((repeat refine si ?_); (first | ((first | refine .inl ⟨_,_,_,_,rfl,fun _=>pu hal,?_⟩ | refine ⟨_,_,_,_,rfl,fun _=>pu hal,?_⟩); (first | refine o1 ?_ | refine o2 ?_ | refine o3 ?_ | refine o4 ?_)) | refine .inl ⟨_,_,_,_,rfl,pu hal,?_⟩))
 | refine cF ?_
 | refine om ?_
 | refine an ?_
 | fail) <;> try simp only [zT,zV,zS,zU,vcC,lateX,ex,strp,binA,elems,cells,scalar,eqC,keyA,intsA,lookA,ofVs,mpOf,Nat.reduceBEq,reduceAdd,reduceSub,reduceLT,reduceLeDiff,reduceMul,reduceEqDiff,reduceIte,hi,List.length_replicate]))
  all_goals try (exfalso; omega)
  refine AWPC.loopE (α:={ s:Nat // s+1≤t.length }) [5] (fun s=>[(5,n s.1)]) (fun s=>[some [⟨61,1,(List.range t.length).map fun j=>if s.1≤j then [nodS (bwd t j)] else [.v (.slice none 0 0)],none⟩]]) (fun s=>s.1) ⟨t.length - 1,by omega⟩ ?_ ?_ ?_
  · (simp only [zT,zV,zS,zU,vcC,lateX,ex,strp,binA,elems,cells,scalar,eqC,keyA,intsA,lookA,ofVs,mpOf,Nat.reduceBEq,reduceAdd,reduceSub,reduceLT,reduceLeDiff,reduceMul,reduceEqDiff,reduceIte]; try simp)
    omega
  · refine congrArg (fun z=>[some [(⟨61,1,z,none⟩:Ob)]]) (List.ext_getElem? fun i=>?_)
    rw [List.getElem?_set]
    by_cases hi:i < t.length
    · by_cases e:t.length - 1=i
      · subst e
        simp [hi,bwd_last h1]; omega
      · have:¬ t.length - 1≤i:=by omega
        simp [hi,e,this]; omega
    · have:¬ t.length - 1=i:=by omega
      simp [hi,this,List.getElem?_eq_none (show t.length≤i by omega)]
  rintro ⟨s,hs⟩
  try simp only at hs
  try simp only
  by_cases h0:0 < s
  · obtain ⟨k,rfl⟩:∃ k,s=k+1:=⟨s - 1,by omega⟩
    have hb:=backwardR_spec t k (bwd t (k+1)) hv (by omega) (bwd_len (by omega)) (bwd_goods hv (k+1))
    rw [← bwd_prev (by omega)] at hb
    have gk:((List.range t.length).map fun j=>if k+1≤j then [nodS (bwd t j)] else [AV.v (.slice none 0 0)]).getD (k+1) []=[nodS (bwd t (k+1))]:=by rw [range_get _ (by omega),if_pos (Nat.le_refl _)]
    have e1:((k:Int)+1).toNat=k+1:=by omega
    have e2:((k:Int)+1 - 1)=(k:Int):=by omega
    have e3:(((k+1:Nat):Nat):Int)=(k:Int)+1:=by omega
    (repeat' ((first
 | refine vn rfl ?_
 | simp (disch:=omega) only [wr64,Int.zero_sub]
 | refine bo (fun _=>?_) fun _=>?_
 | refine im fun _=>?_
 | ((repeat refine si ?_); (first | ((first | refine .inl ⟨_,_,_,_,rfl,fun _=>pu hb,?_⟩ | refine ⟨_,_,_,_,rfl,fun _=>pu hb,?_⟩); (first | refine o1 ?_ | refine o2 ?_ | refine o3 ?_ | refine o4 ?_)) | refine .inl ⟨_,_,_,_,rfl,pu hb,?_⟩))
 | refine cF ?_
 | refine om ?_
 | refine an ?_
 | fail) <;> try simp only [zT,zV,zS,zU,vcC,lateX,ex,strp,binA,elems,cells,scalar,eqC,keyA,intsA,lookA,ofVs,mpOf,Nat.reduceBEq,reduceAdd,reduceSub,reduceLT,reduceLeDiff,reduceMul,reduceEqDiff,reduceIte,gk,e1,e2,e3,List.length_range]))
    all_goals try (exfalso; omega)
    have gkk:((List.range t.length).map fun j=>if k+1≤j then [nodS (bwd t j)] else [AV.v (Value.slice none 0 0)]).getD k []=[AV.v (Value.slice none 0 0)]:=by rw [range_get _ (by omega),if_neg (by omega)]
    refine ⟨⟨k,by omega⟩,rfl,congrArg (fun z=>[some [(⟨61,1,z,none⟩:Ob)]]) ?_,Nat.lt_succ_self k⟩
    rw [gkk,range_set]
    refine range_congr fun m hm=>?_
    by_cases e:m=k
    · subst e; rw [if_pos rfl,if_pos (Nat.le_refl _)]; rfl
    · rw [if_neg e]
      by_cases e2:k≤m
      · rw [if_pos (by omega),if_pos e2]
      · rw [if_neg (by omega),if_neg e2]
  · obtain rfl:s=0:=by omega
    (repeat' ((first
 | refine vn rfl ?_
 | simp (disch:=omega) only [wr64,Int.zero_sub]
 | refine bo (fun _=>?_) fun _=>?_
 | refine im fun _=>?_
 | refine cF ?_
 | refine om ?_
 | refine an ?_
 | fail) <;> try simp only [zT,zV,zS,zU,vcC,lateX,ex,strp,binA,elems,cells,scalar,eqC,keyA,intsA,lookA,ofVs,mpOf,Nat.reduceBEq,reduceAdd,reduceSub,reduceLT,reduceLeDiff,reduceMul,reduceEqDiff,reduceIte]))
    all_goals try (exfalso; omega)
    refine frz_stgO (l:=bwds t) ?_ (by simp [bwds])
    refine congrArg (fun z=>some (⟨61,1,z,none⟩:Ob)) ?_
    unfold bwds
    rw [List.map_map]
    exact range_congr fun j _=>by simp
def c33:CF:=⟨12,
 (.seq (.ops [
 ⟨some 1,.box false 24 1 (.t 0),none⟩,
 ⟨some 2,.mv (.c (.slice none 0 0)),none⟩,
 ⟨some 3,.mv (.c (.int .i64 0)),none⟩] [1])
 (.seq (.ops [
 ⟨some 5,.load (some 1) (.t 1),none⟩,
 ⟨some 6,.call (.f 58) [(.t 5)],none⟩,
 ⟨some 4,.mv (.t 6),none⟩] [1,4])
 (.seq (.seq (.ops [
 ⟨some 7,.mv (.t 4),none⟩,
 ⟨some 8,.bin .neq (.t 7) (.c (.int .i64 0)),none⟩] [1,4,8])
 (.cond (.t 8) (.seq (.ops [
 ⟨some 9,.mv (.t 4),none⟩,
 ⟨some 2,.mv (.c (.slice none 0 0)),none⟩,
 ⟨some 3,.mv (.t 9),none⟩] [2,3])
 .ret)
 .skip))
 (.seq (.ops [
 ⟨some 10,.load (some 1) (.t 1),none⟩,
 ⟨some 11,.call (.f 87) [(.t 10)],none⟩,
 ⟨some 2,.mv (.t 11),none⟩,
 ⟨some 3,.mv (.c (.int .i64 0)),none⟩] [2,3])
 .ret)))),
 [.t 2,.t 3]⟩
def c35:CF:=⟨12,
 (.seq (.ops [
 ⟨some 1,.box false 24 1 (.t 0),none⟩,
 ⟨some 2,.mv (.c (.slice none 0 0)),none⟩,
 ⟨some 3,.mv (.c (.int .i64 0)),none⟩] [1])
 (.seq (.ops [
 ⟨some 5,.load (some 1) (.t 1),none⟩,
 ⟨some 6,.call (.f 58) [(.t 5)],none⟩,
 ⟨some 4,.mv (.t 6),none⟩] [1,4])
 (.seq (.seq (.ops [
 ⟨some 7,.mv (.t 4),none⟩,
 ⟨some 8,.bin .neq (.t 7) (.c (.int .i64 0)),none⟩] [1,4,8])
 (.cond (.t 8) (.seq (.ops [
 ⟨some 9,.mv (.t 4),none⟩,
 ⟨some 2,.mv (.c (.slice none 0 0)),none⟩,
 ⟨some 3,.mv (.t 9),none⟩] [2,3])
 .ret)
 .skip))
 (.seq (.ops [
 ⟨some 10,.load (some 1) (.t 1),none⟩,
 ⟨some 11,.call (.f 89) [(.t 10)],none⟩,
 ⟨some 2,.mv (.t 11),none⟩,
 ⟨some 3,.mv (.c (.int .i64 0)),none⟩] [2,3])
 .ret)))),
 [.t 2,.t 3]⟩
def c95:CF:=⟨33,
 (.seq (.ops [
 ⟨some 2,.box false 24 1 (.t 0),none⟩,
 ⟨some 4,.mv (.c (.slice none 0 0)),none⟩,
 ⟨some 5,.mv (.c (.int .i64 0)),none⟩] [1,2])
 (.seq (.ops [
 ⟨some 8,.load (some 1) (.t 2),none⟩,
 ⟨some 9,.call (.f 58) [(.t 8)],none⟩,
 ⟨some 6,.mv (.t 9),none⟩] [1,2,6])
 (.seq (.seq (.ops [
 ⟨some 10,.mv (.t 6),none⟩,
 ⟨some 11,.bin .eql (.t 10) (.c (.int .i64 0)),none⟩,
 ⟨some 12,.mv (.t 11),none⟩,
 ⟨some 13,.mv (.t 1),some (12,true)⟩,
 ⟨some 14,.faddr 0 (.t 2),some (12,true)⟩,
 ⟨some 15,.load none (.t 14),some (12,true)⟩,
 ⟨some 16,.len (.t 15),some (12,true)⟩,
 ⟨some 17,.bin .sub (.t 16) (.c (.int .i64 1)),some (12,true)⟩,
 ⟨some 18,.call (.f 82) [(.t 13),(.c (.int .i64 0)),(.t 17)],some (12,true)⟩,
 ⟨some 19,.un .not (.t 18),some (12,true)⟩,
 ⟨some 20,.pick (.t 12) (.t 19) (.c (.bool false)),none⟩] [2,6,20])
 (.cond (.t 20) (.seq (.ops [
 ⟨some 4,.mv (.c (.slice none 0 0)),none⟩,
 ⟨some 5,.mv (.c (.int .i64 1)),none⟩] [4,5])
 .ret)
 .skip))
 (.seq (.seq (.ops [
 ⟨some 21,.mv (.t 6),none⟩,
 ⟨some 22,.bin .neq (.t 21) (.c (.int .i64 0)),none⟩] [2,6,22])
 (.cond (.t 22) (.seq (.ops [
 ⟨some 23,.mv (.t 6),none⟩,
 ⟨some 4,.mv (.c (.slice none 0 0)),none⟩,
 ⟨some 5,.mv (.t 23),none⟩] [4,5])
 .ret)
 .skip))
 (.seq (.ops [
 ⟨some 24,.load (some 1) (.t 2),none⟩,
 ⟨some 25,.call (.f 89) [(.t 24)],none⟩,
 ⟨some 7,.mv (.t 25),none⟩] [7])
 (.seq (.seq (.ops [
 ⟨some 26,.mv (.t 7),none⟩,
 ⟨some 27,.iaddr 1 (.t 26) (.c (.int .i64 0)),none⟩,
 ⟨some 28,.load none (.t 27),none⟩,
 ⟨some 29,.call (.f 73) [(.t 28)],none⟩,
 ⟨some 30,.len (.t 29),none⟩,
 ⟨some 31,.bin .eql (.t 30) (.c (.int .i64 0)),none⟩] [7,31])
 (.cond (.t 31) (.seq (.ops [
 ⟨some 4,.mv (.c (.slice none 0 0)),none⟩,
 ⟨some 5,.mv (.c (.int .i64 42)),none⟩] [4,5])
 .ret)
 .skip))
 (.seq (.ops [
 ⟨some 32,.mv (.t 7),none⟩,
 ⟨some 4,.mv (.t 32),none⟩,
 ⟨some 5,.mv (.c (.int .i64 0)),none⟩] [4,5])
 .ret))))))),
 [.t 4,.t 5]⟩
def c37:CF:=⟨22,
 (.seq (.ops [
 ⟨some 2,.box false 24 1 (.t 0),none⟩,
 ⟨some 4,.mv (.c (.slice none 0 0)),none⟩,
 ⟨some 5,.mv (.c (.int .i64 0)),none⟩] [1,2])
 (.seq (.ops [
 ⟨some 9,.load (some 1) (.t 2),none⟩,
 ⟨some 10,.mv (.t 1),none⟩,
 ⟨some 11,.call (.f 95) [(.t 9),(.t 10)],none⟩,
 ⟨some 8,.mv (.t 11),none⟩,
 ⟨some 12,.ext 0 (.t 8),none⟩,
 ⟨some 13,.ext 1 (.t 8),none⟩,
 ⟨some 6,.mv (.t 12),none⟩,
 ⟨some 7,.mv (.t 13),none⟩] [1,6,7])
 (.seq (.seq (.ops [
 ⟨some 14,.mv (.t 7),none⟩,
 ⟨some 15,.bin .neq (.t 14) (.c (.int .i64 0)),none⟩] [1,6,7,15])
 (.cond (.t 15) (.seq (.ops [
 ⟨some 16,.mv (.t 7),none⟩,
 ⟨some 4,.mv (.c (.slice none 0 0)),none⟩,
 ⟨some 5,.mv (.t 16),none⟩] [4,5])
 .ret)
 .skip))
 (.seq (.ops [
 ⟨some 17,.mv (.t 6),none⟩,
 ⟨some 18,.mv (.t 1),none⟩,
 ⟨some 19,.iaddr 1 (.t 17) (.t 18),none⟩,
 ⟨some 20,.load none (.t 19),none⟩,
 ⟨some 21,.call (.f 73) [(.t 20)],none⟩,
 ⟨some 4,.mv (.t 21),none⟩,
 ⟨some 5,.mv (.c (.int .i64 0)),none⟩] [4,5])
 .ret)))),
 [.t 4,.t 5]⟩
def c38:CF:=⟨30,
 (.seq (.ops [
 ⟨some 2,.box false 24 1 (.t 0),none⟩,
 ⟨some 4,.alloc 30 2 [.int .i64 0,.int .i64 0],none⟩,
 ⟨some 5,.mv (.c (.int .i64 0)),none⟩] [1,2,4])
 (.seq (.ops [
 ⟨some 9,.load (some 1) (.t 2),none⟩,
 ⟨some 10,.mv (.t 1),none⟩,
 ⟨some 11,.call (.f 36) [(.t 9),(.t 10)],none⟩,
 ⟨some 8,.mv (.t 11),none⟩,
 ⟨some 12,.ext 0 (.t 8),none⟩,
 ⟨some 13,.ext 1 (.t 8),none⟩,
 ⟨some 6,.mv (.t 12),none⟩,
 ⟨some 7,.mv (.t 13),none⟩] [4,6,7])
 (.seq (.seq (.ops [
 ⟨some 14,.mv (.t 7),none⟩,
 ⟨some 15,.bin .neq (.t 14) (.c (.int .i64 0)),none⟩] [4,6,7,15])
 (.cond (.t 15) (.seq (.ops [
 ⟨some 16,.build [.int .i64 0,.int .i64 0] [],none⟩,
 ⟨some 17,.mv (.t 7),none⟩,
 ⟨none,.store 2 (.t 4) (.t 16),none⟩,
 ⟨some 5,.mv (.t 17),none⟩] [4,5])
 .ret)
 .skip))
 (.seq (.draw [
 ⟨some 18,.mv (.t 6),none⟩,
 ⟨some 19,.iaddr 2 (.t 18) (.c (.int .i64 0)),none⟩,
 ⟨some 20,.faddr 0 (.t 19),none⟩,
 ⟨some 21,.load none (.t 20),none⟩,
 ⟨some 22,.mv (.t 6),none⟩,
 ⟨some 23,.mv (.t 6),none⟩,
 ⟨some 24,.len (.t 23),none⟩,
 ⟨some 25,.bin .sub (.t 24) (.c (.int .i64 1)),none⟩,
 ⟨some 26,.iaddr 2 (.t 22) (.t 25),none⟩,
 ⟨some 27,.faddr 1 (.t 26),none⟩,
 ⟨some 28,.load none (.t 27),none⟩,
 ⟨some 29,.build [.int .i64 0,.int .i64 0] [(0,1,(.t 21)),(1,1,(.t 28))],none⟩] [
 ⟨none,.store 2 (.t 4) (.t 29),none⟩,
 ⟨some 5,.mv (.c (.int .i64 0)),none⟩] [4,5])
 .ret)))),
 [.c 4 (some 2),.t 5]⟩
def c39:CF:=⟨30,
 (.seq (.ops [
 ⟨some 2,.box false 24 1 (.t 0),none⟩,
 ⟨some 4,.alloc 30 2 [.int .i64 0,.int .i64 0],none⟩,
 ⟨some 5,.mv (.c (.int .i64 0)),none⟩] [1,2,4])
 (.seq (.ops [
 ⟨some 9,.load (some 1) (.t 2),none⟩,
 ⟨some 10,.mv (.t 1),none⟩,
 ⟨some 11,.call (.f 37) [(.t 9),(.t 10)],none⟩,
 ⟨some 8,.mv (.t 11),none⟩,
 ⟨some 12,.ext 0 (.t 8),none⟩,
 ⟨some 13,.ext 1 (.t 8),none⟩,
 ⟨some 6,.mv (.t 12),none⟩,
 ⟨some 7,.mv (.t 13),none⟩] [4,6,7])
 (.seq (.seq (.ops [
 ⟨some 14,.mv (.t 7),none⟩,
 ⟨some 15,.bin .neq (.t 14) (.c (.int .i64 0)),none⟩] [4,6,7,15])
 (.cond (.t 15) (.seq (.ops [
 ⟨some 16,.build [.int .i64 0,.int .i64 0] [],none⟩,
 ⟨some 17,.mv (.t 7),none⟩,
 ⟨none,.store 2 (.t 4) (.t 16),none⟩,
 ⟨some 5,.mv (.t 17),none⟩] [4,5])
 .ret)
 .skip))
 (.seq (.draw [
 ⟨some 18,.mv (.t 6),none⟩,
 ⟨some 19,.iaddr 2 (.t 18) (.c (.int .i64 0)),none⟩,
 ⟨some 20,.faddr 0 (.t 19),none⟩,
 ⟨some 21,.load none (.t 20),none⟩,
 ⟨some 22,.mv (.t 6),none⟩,
 ⟨some 23,.mv (.t 6),none⟩,
 ⟨some 24,.len (.t 23),none⟩,
 ⟨some 25,.bin .sub (.t 24) (.c (.int .i64 1)),none⟩,
 ⟨some 26,.iaddr 2 (.t 22) (.t 25),none⟩,
 ⟨some 27,.faddr 1 (.t 26),none⟩,
 ⟨some 28,.load none (.t 27),none⟩,
 ⟨some 29,.build [.int .i64 0,.int .i64 0] [(0,1,(.t 21)),(1,1,(.t 28))],none⟩] [
 ⟨none,.store 2 (.t 4) (.t 29),none⟩,
 ⟨some 5,.mv (.c (.int .i64 0)),none⟩] [4,5])
 .ret)))),
 [.c 4 (some 2),.t 5]⟩
def c41:CF:=⟨63,
 (.seq (.ops [
 ⟨some 2,.box false 24 1 (.t 0),none⟩,
 ⟨some 4,.mv (.c (.slice none 0 0)),none⟩,
 ⟨some 5,.mv (.c (.int .i64 0)),none⟩] [1,2])
 (.seq (.ops [
 ⟨some 13,.load (some 1) (.t 2),none⟩,
 ⟨some 14,.call (.f 95) [(.t 13),(.c (.int .i64 0))],none⟩,
 ⟨some 12,.mv (.t 14),none⟩,
 ⟨some 15,.ext 0 (.t 12),none⟩,
 ⟨some 16,.ext 1 (.t 12),none⟩,
 ⟨some 6,.mv (.t 15),none⟩,
 ⟨some 7,.mv (.t 16),none⟩] [1,2,7])
 (.seq (.seq (.ops [
 ⟨some 17,.mv (.t 7),none⟩,
 ⟨some 18,.bin .neq (.t 17) (.c (.int .i64 0)),none⟩] [1,2,7,18])
 (.cond (.t 18) (.seq (.ops [
 ⟨some 19,.mv (.t 7),none⟩,
 ⟨some 4,.mv (.c (.slice none 0 0)),none⟩,
 ⟨some 5,.mv (.t 19),none⟩] [4,5])
 .ret)
 .skip))
 (.seq (.ops [
 ⟨some 8,.mv (.c (.slice none 0 0)),none⟩] [1,2,8])
 (.seq (.seq (.ops [
 ⟨some 9,.mv (.c (.int .i64 0)),none⟩] [1,2,8,9])
 (.block 0 (.loop (.seq (.seq (.ops [
 ⟨some 20,.mv (.t 9),none⟩,
 ⟨some 21,.faddr 0 (.t 2),none⟩,
 ⟨some 22,.load none (.t 21),none⟩,
 ⟨some 23,.iaddr 1 (.t 22) (.c (.int .i64 0)),none⟩,
 ⟨some 24,.load none (.t 23),none⟩,
 ⟨some 25,.len (.t 24),none⟩,
 ⟨some 26,.bin .lss (.t 20) (.t 25),none⟩] [1,2,8,9,26])
 (.cond (.t 26) .skip
 (.exit 0)))
 (.seq (.block 1 (.seq (.ops [
 ⟨some 29,.faddr 0 (.t 2),none⟩,
 ⟨some 30,.load none (.t 29),none⟩,
 ⟨some 31,.iaddr 1 (.t 30) (.c (.int .i64 0)),none⟩,
 ⟨some 32,.load none (.t 31),none⟩,
 ⟨some 33,.mv (.t 9),none⟩,
 ⟨some 34,.iaddr 2 (.t 32) (.t 33),none⟩,
 ⟨some 35,.faddr 0 (.t 34),none⟩,
 ⟨some 36,.load none (.t 35),none⟩,
 ⟨some 37,.mv (.t 1),none⟩,
 ⟨some 38,.call (.f 29) [(.t 36),(.t 37)],none⟩] [1,2,8,9,38])
 (.cond (.t 38) (.ops [
 ⟨some 39,.mv (.t 8),none⟩,
 ⟨some 40,.mv (.t 1),none⟩,
 ⟨some 41,.mv (.t 1),none⟩,
 ⟨some 42,.build [.int .i64 0,.int .i64 0] [(0,1,(.t 40)),(1,1,(.t 41))],none⟩,
 ⟨some 43,.bsl false 30 2 1 [.int .i64 0,.int .i64 0] [(0,2,(.t 42))],none⟩,
 ⟨some 44,.bsl false 45 1 1 [.slice none 0 0] [(0,1,(.t 43))],none⟩,
 ⟨some 45,.app 45 1 24 (.t 39) (.t 44),none⟩,
 ⟨some 8,.mv (.t 45),none⟩] [1,2,8,9])
 (.ops [
 ⟨some 46,.mv (.t 8),none⟩,
 ⟨some 47,.bsl false 45 1 1 [.slice none 0 0] [(0,1,(.c (.slice none 0 0)))],none⟩,
 ⟨some 48,.app 45 1 24 (.t 46) (.t 47),none⟩,
 ⟨some 8,.mv (.t 48),none⟩] [1,2,8,9]))))
 (.ops [
 ⟨some 27,.mv (.t 9),none⟩,
 ⟨some 28,.bin .add (.t 27) (.c (.int .i64 1)),none⟩,
 ⟨some 9,.mv (.t 28),none⟩] [1,2,8,9]))))))
 (.seq (.ops [
 ⟨some 49,.load (some 1) (.t 2),none⟩,
 ⟨some 50,.mv (.t 8),none⟩,
 ⟨some 51,.call (.f 84) [(.t 49),(.t 50)],none⟩,
 ⟨some 10,.mv (.t 51),none⟩] [10])
 (.seq (.ops [
 ⟨some 52,.mv (.t 10),none⟩,
 ⟨some 53,.mv (.t 10),none⟩,
 ⟨some 54,.len (.t 53),none⟩,
 ⟨some 55,.bin .sub (.t 54) (.c (.int .i64 1)),none⟩,
 ⟨some 56,.iaddr 1 (.t 52) (.t 55),none⟩,
 ⟨some 57,.load none (.t 56),none⟩,
 ⟨some 58,.call (.f 73) [(.t 57)],none⟩,
 ⟨some 11,.mv (.t 58),none⟩] [11])
 (.seq (.seq (.ops [
 ⟨some 59,.mv (.t 11),none⟩,
 ⟨some 60,.len (.t 59),none⟩,
 ⟨some 61,.bin .eql (.t 60) (.c (.int .i64 0)),none⟩] [11,61])
 (.cond (.t 61) (.seq (.ops [
 ⟨some 4,.mv (.c (.slice none 0 0)),none⟩,
 ⟨some 5,.mv (.c (.int .i64 3)),none⟩] [4,5])
 .ret)
 .skip))
 (.seq (.ops [
 ⟨some 62,.mv (.t 11),none⟩,
 ⟨some 4,.mv (.t 62),none⟩,
 ⟨some 5,.mv (.c (.int .i64 0)),none⟩] [4,5])
 .ret))))))))),
 [.t 4,.t 5]⟩
theorem k33:chkF Tryz.prog Tryz.f33 c33=true:=by kernel_rfl
theorem k35:chkF Tryz.prog Tryz.f35 c35=true:=by kernel_rfl
theorem k95:chkF Tryz.prog Tryz.f95 c95=true:=by kernel_rfl
theorem k37:chkF Tryz.prog Tryz.f37 c37=true:=by kernel_rfl
theorem k38:chkF Tryz.prog Tryz.f38 c38=true:=by kernel_rfl
theorem k39:chkF Tryz.prog Tryz.f39 c39=true:=by kernel_rfl
theorem k41:chkF Tryz.prog Tryz.f41 c41=true:=by kernel_rfl
theorem rallS (t:Trk) (hv:valid t):Pure Tryz.prog 89 [trS t] (stgS (allvs t)):=rall_spec t hv (backwardsR_spec t hv)
theorem rBackward_spec (t:Trk) (hs:trkSz t):Pure Tryz.prog 33 [trS t] (.tup [stgS (if tr (valid t)=true then bwds t else []),n (if tr (valid t)=true then 0 else 40)]):=by
  refine Pure.of_body Tryz.call33 Tryz.func33 k33 (Nat.le_of_ble_eq_true rfl) ?_
  unfold c33
  have hc:=rCheck_spec t hs
  by_cases hv:valid t
  · rw [tr_1 hv] at hc ⊢
    simp only [if_true] at hc ⊢
    have hb:=backwardsR_spec t hv
    (repeat' ((first
 | refine vn rfl ?_
 | simp (disch:=omega) only [wr64,Int.zero_sub]
 | refine bo (fun _=>?_) fun _=>?_
 | refine im fun _=>?_
 | ((repeat refine si ?_); (first | ((first | refine .inl ⟨_,_,_,_,rfl,fun _=>pu (by first | exact hc | exact hb),?_⟩ | refine ⟨_,_,_,_,rfl,fun _=>pu (by first | exact hc | exact hb),?_⟩); (first | refine o1 ?_ | refine o2 ?_ | refine o3 ?_ | refine o4 ?_)) | refine .inl ⟨_,_,_,_,rfl,pu (by first | exact hc | exact hb),?_⟩))
 | refine cF ?_
 | refine om ?_
 | refine an ?_
 | fail) <;> try simp only [zT,zV,zS,zU,vcC,lateX,ex,strp,binA,elems,cells,scalar,eqC,keyA,intsA,lookA,ofVs,mpOf,Nat.reduceBEq,reduceAdd,reduceSub,reduceLT,reduceLeDiff,reduceMul,reduceEqDiff,reduceIte]))
    all_goals try (exfalso; omega)
    all_goals exact Frz.eq rfl (by simp)
  · rw [tr_0 hv] at hc ⊢
    simp only [Bool.false_eq_true,if_false] at hc ⊢
    (repeat' ((first
 | refine vn rfl ?_
 | simp (disch:=omega) only [wr64,Int.zero_sub]
 | refine bo (fun _=>?_) fun _=>?_
 | refine im fun _=>?_
 | ((repeat refine si ?_); (first | ((first | refine .inl ⟨_,_,_,_,rfl,fun _=>pu hc,?_⟩ | refine ⟨_,_,_,_,rfl,fun _=>pu hc,?_⟩); (first | refine o1 ?_ | refine o2 ?_ | refine o3 ?_ | refine o4 ?_)) | refine .inl ⟨_,_,_,_,rfl,pu hc,?_⟩))
 | refine cF ?_
 | refine om ?_
 | refine an ?_
 | fail) <;> try simp only [zT,zV,zS,zU,vcC,lateX,ex,strp,binA,elems,cells,scalar,eqC,keyA,intsA,lookA,ofVs,mpOf,Nat.reduceBEq,reduceAdd,reduceSub,reduceLT,reduceLeDiff,reduceMul,reduceEqDiff,reduceIte]))
    all_goals try (exfalso; omega)
    exact frz2 frz_nil (by simp)
theorem rAll_spec (t:Trk) (hs:trkSz t):Pure Tryz.prog 35 [trS t] (.tup [stgS (if tr (valid t)=true then allvs t else []),n (if tr (valid t)=true then 0 else 40)]):=by
  refine Pure.of_body Tryz.call35 Tryz.func35 k35 (Nat.le_of_ble_eq_true rfl) ?_
  unfold c35
  have hc:=rCheck_spec t hs
  by_cases hv:valid t
  · rw [tr_1 hv] at hc ⊢
    simp only [if_true] at hc ⊢
    have hb:=rallS t hv
    (repeat' ((first
 | refine vn rfl ?_
 | simp (disch:=omega) only [wr64,Int.zero_sub]
 | refine bo (fun _=>?_) fun _=>?_
 | refine im fun _=>?_
 | ((repeat refine si ?_); (first | ((first | refine .inl ⟨_,_,_,_,rfl,fun _=>pu (by first | exact hc | exact hb),?_⟩ | refine ⟨_,_,_,_,rfl,fun _=>pu (by first | exact hc | exact hb),?_⟩); (first | refine o1 ?_ | refine o2 ?_ | refine o3 ?_ | refine o4 ?_)) | refine .inl ⟨_,_,_,_,rfl,pu (by first | exact hc | exact hb),?_⟩))
 | refine cF ?_
 | refine om ?_
 | refine an ?_
 | fail) <;> try simp only [zT,zV,zS,zU,vcC,lateX,ex,strp,binA,elems,cells,scalar,eqC,keyA,intsA,lookA,ofVs,mpOf,Nat.reduceBEq,reduceAdd,reduceSub,reduceLT,reduceLeDiff,reduceMul,reduceEqDiff,reduceIte]))
    all_goals try (exfalso; omega)
    all_goals exact Frz.eq rfl (by simp)
  · rw [tr_0 hv] at hc ⊢
    simp only [Bool.false_eq_true,if_false] at hc ⊢
    (repeat' ((first
 | refine vn rfl ?_
 | simp (disch:=omega) only [wr64,Int.zero_sub]
 | refine bo (fun _=>?_) fun _=>?_
 | refine im fun _=>?_
 | ((repeat refine si ?_); (first | ((first | refine .inl ⟨_,_,_,_,rfl,fun _=>pu hc,?_⟩ | refine ⟨_,_,_,_,rfl,fun _=>pu hc,?_⟩); (first | refine o1 ?_ | refine o2 ?_ | refine o3 ?_ | refine o4 ?_)) | refine .inl ⟨_,_,_,_,rfl,pu hc,?_⟩))
 | refine cF ?_
 | refine om ?_
 | refine an ?_
 | fail) <;> try simp only [zT,zV,zS,zU,vcC,lateX,ex,strp,binA,elems,cells,scalar,eqC,keyA,intsA,lookA,ofVs,mpOf,Nat.reduceBEq,reduceAdd,reduceSub,reduceLT,reduceLeDiff,reduceMul,reduceEqDiff,reduceIte]))
    all_goals try (exfalso; omega)
    exact frz2 frz_nil (by simp)
theorem some_unisV {l:List (List Sp)} (h:goods l):some' l=!(unis l).isEmpty:=by
  rw [Bool.eq_iff_iff,some_iff h]
  unfold unis
  have hn:=joins0_norm l.flatten
  constructor
  · rintro ⟨i,v,hi,hm⟩
    have:Mem v (joins [] l.flatten):=(joins0_mem _ _).2 (mem_flatten.2 ⟨_,List.mem_of_getElem? (getD_some hi),hm⟩)
    cases hj:joins [] l.flatten with
    | nil=>rw [hj] at this; exact absurd this Mem.nil
    | cons _ _=>rfl
  · intro hj
    cases hj':joins [] l.flatten with
    | nil=>rw [hj'] at hj; cases hj
    | cons s r =>
      have hm:Mem s.lo (joins [] l.flatten):=⟨s,by rw [hj']; simp,Int.le_refl _,hn.ne s (by rw [hj']; simp)⟩
      rw [joins0_mem,mem_flatten] at hm
      obtain ⟨x,hx,hm⟩:=hm
      obtain ⟨i,hi⟩:=List.mem_iff_getElem?.1 hx
      exact ⟨i,s.lo,(List.getElem?_eq_some_iff.1 hi).1,by rw [List.getD_eq_getElem?_getD,hi]; exact hm⟩
theorem some_allv {t:Trk} (hv:valid t) {k:Nat} (hk:k < t.length):some' (allv t k)=feas t:=by
  rw [Bool.eq_iff_iff,some_iff (allv_goods hv hk),feas_course hv]
  constructor
  · rintro ⟨i,v,hi,hm⟩
    rw [allv_len hk] at hi
    obtain ⟨c,hc,_⟩:=(allv_course hv k ⟨(i:Int),v⟩ hk).1 ⟨by simp,by simp only; omega,by simpa using hm⟩
    exact ⟨c,hc⟩
  · rintro ⟨c,hc⟩
    have hl:=hc.1
    obtain ⟨a,ha⟩:∃ a,c[k]?=some a:=⟨_,List.getElem?_eq_getElem (by omega)⟩
    obtain ⟨h1,h2,h3⟩:=(allv_course hv k a hk).2 ⟨c,hc,ha⟩
    exact ⟨a.node.toNat,a.val,by rw [allv_len hk]; omega,h3⟩
theorem solved_spec (t:Trk) (k:Int) (hs:trkSz t):Pure Tryz.prog 95 [trS t,n k] (.tup [stgS (if askE t (decide (0≤k∧k < (t.length:Int)))=0 then allvs t else []),n (askE t (decide (0≤k∧k < (t.length:Int))))]):=by
  refine Pure.of_body Tryz.call95 Tryz.func95 k95 (Nat.le_of_ble_eq_true rfl) ?_
  unfold c95
  have hc:=rCheck_spec t hs
  have hl:=hs.1
  by_cases hv:valid t
  · rw [tr_1 hv,if_pos rfl] at hc
    have h1:=hv.1
    have h2:=hv.2.1
    have hwi:=within_spec k 0 ((t.length:Int) - 1)
    by_cases hk:0≤k∧k < (t.length:Int)
    · rw [decide_eq_true (by omega)] at hwi
      rw [decide_eq_true hk]
      have hb:=rallS t hv
      have h0:0 < t.length:=by omega
      have hz:Int.toNat 0=0:=rfl
      have g0:=allvs_get (t:=t) h0
      have hwd:=wd_le hv 0
      have hg:=allv_goods hv h0
      have hva:=valuesR_spec (allv t 0) (by rw [allv_len h0]; omega) hg
      have hsu:=some_unisV hg
      rw [some_allv hv h0] at hsu
      cases hf:feas t with
      | true =>
        have ha:askE t true=0:=askE0.2 ⟨hv,rfl,hf⟩
        rw [ha,if_pos rfl]
        rw [hf] at hsu
        cases hU:unis (allv t 0) with
        | nil=>rw [hU] at hsu; cases hsu
        | cons s r =>
          rw [hU] at hva
          clear hU hsu hg ha hf
          (repeat' ((first
 | refine vn rfl ?_
 | simp (disch:=omega) only [wr64,Int.zero_sub]
 | refine bo (fun _=>?_) fun _=>?_
 | refine im fun _=>?_
 | ((repeat refine si ?_); (first | ((first | refine .inl ⟨_,_,_,_,rfl,fun _=>pu (by first | exact hc | exact hwi | exact hb | exact hva),?_⟩ | refine ⟨_,_,_,_,rfl,fun _=>pu (by first | exact hc | exact hwi | exact hb | exact hva),?_⟩); (first | refine o1 ?_ | refine o2 ?_ | refine o3 ?_ | refine o4 ?_)) | refine .inl ⟨_,_,_,_,rfl,pu (by first | exact hc | exact hwi | exact hb | exact hva),?_⟩))
 | refine cF ?_
 | refine om ?_
 | refine an ?_
 | fail) <;> try simp only [zT, zV, zS, zU, vcC, lateX, ex, strp, binA, elems, cells, scalar, eqC, keyA, intsA, lookA, ofVs, mpOf, Nat.reduceBEq, reduceAdd, reduceSub, reduceLT, reduceLeDiff, reduceMul, reduceEqDiff, reduceIte, g0, hz, allvs_len]))
          all_goals try (exfalso; omega)
          all_goals exact Frz.eq rfl (by simp)
      | false =>
        have ha:askE t true=42:=by unfold askE; rw [tr_1 hv,hf]; rfl
        rw [ha,if_neg (by decide)]
        rw [hf] at hsu
        cases hU:unis (allv t 0) with
        | nil =>
          rw [hU] at hva
          (repeat' ((first
 | refine vn rfl ?_
 | simp (disch:=omega) only [wr64,Int.zero_sub]
 | refine bo (fun _=>?_) fun _=>?_
 | refine im fun _=>?_
 | ((repeat refine si ?_); (first | ((first | refine .inl ⟨_,_,_,_,rfl,fun _=>pu (by first | exact hc | exact hwi | exact hb | exact hva),?_⟩ | refine ⟨_,_,_,_,rfl,fun _=>pu (by first | exact hc | exact hwi | exact hb | exact hva),?_⟩); (first | refine o1 ?_ | refine o2 ?_ | refine o3 ?_ | refine o4 ?_)) | refine .inl ⟨_,_,_,_,rfl,pu (by first | exact hc | exact hwi | exact hb | exact hva),?_⟩))
 | refine cF ?_
 | refine om ?_
 | refine an ?_
 | fail) <;> try simp only [zT, zV, zS, zU, vcC, lateX, ex, strp, binA, elems, cells, scalar, eqC, keyA, intsA, lookA, ofVs, mpOf, Nat.reduceBEq, reduceAdd, reduceSub, reduceLT, reduceLeDiff, reduceMul, reduceEqDiff, reduceIte, g0, hz, allvs_len]))
          all_goals try (exfalso; omega)
          all_goals exact frz2 frz_nil (by simp)
        | cons s r=>rw [hU] at hsu; cases hsu
    · rw [decide_eq_false (by omega)] at hwi
      rw [decide_eq_false hk]
      have ha:askE t false=1:=by unfold askE; rw [tr_1 hv]; rfl
      rw [ha,if_neg (by decide)]
      (repeat' ((first
 | refine vn rfl ?_
 | simp (disch:=omega) only [wr64,Int.zero_sub]
 | refine bo (fun _=>?_) fun _=>?_
 | refine im fun _=>?_
 | ((repeat refine si ?_); (first | ((first | refine .inl ⟨_,_,_,_,rfl,fun _=>pu (by first | exact hc | exact hwi),?_⟩ | refine ⟨_,_,_,_,rfl,fun _=>pu (by first | exact hc | exact hwi),?_⟩); (first | refine o1 ?_ | refine o2 ?_ | refine o3 ?_ | refine o4 ?_)) | refine .inl ⟨_,_,_,_,rfl,pu (by first | exact hc | exact hwi),?_⟩))
 | refine cF ?_
 | refine om ?_
 | refine an ?_
 | fail) <;> try simp only [zT,zV,zS,zU,vcC,lateX,ex,strp,binA,elems,cells,scalar,eqC,keyA,intsA,lookA,ofVs,mpOf,Nat.reduceBEq,reduceAdd,reduceSub,reduceLT,reduceLeDiff,reduceMul,reduceEqDiff,reduceIte]))
      all_goals try (exfalso; omega)
      all_goals exact frz2 frz_nil (by simp)
  · rw [tr_0 hv,if_neg (by decide)] at hc
    have ha:∀ b,askE t b=40:=fun b=>by unfold askE; rw [tr_0 hv]; rfl
    rw [ha,if_neg (by decide)]
    (repeat' ((first
 | refine vn rfl ?_
 | simp (disch:=omega) only [wr64,Int.zero_sub]
 | refine bo (fun _=>?_) fun _=>?_
 | refine im fun _=>?_
 | ((repeat refine si ?_); (first | ((first | refine .inl ⟨_,_,_,_,rfl,fun _=>pu hc,?_⟩ | refine ⟨_,_,_,_,rfl,fun _=>pu hc,?_⟩); (first | refine o1 ?_ | refine o2 ?_ | refine o3 ?_ | refine o4 ?_)) | refine .inl ⟨_,_,_,_,rfl,pu hc,?_⟩))
 | refine cF ?_
 | refine om ?_
 | refine an ?_
 | fail) <;> try simp only [zT,zV,zS,zU,vcC,lateX,ex,strp,binA,elems,cells,scalar,eqC,keyA,intsA,lookA,ofVs,mpOf,Nat.reduceBEq,reduceAdd,reduceSub,reduceLT,reduceLeDiff,reduceMul,reduceEqDiff,reduceIte]))
    all_goals try (exfalso; omega)
    all_goals exact frz2 frz_nil (by simp)
noncomputable abbrev valL (t:Trk) (k:Int):List Sp:=if askE t (decide (0≤k∧k < (t.length:Int)))=0 then unis (allv t k.toNat) else []
theorem ValuesA_spec (t:Trk) (hs:trkSz t) (k:Int):Pure Tryz.prog 36 [trS t,n k] (.tup [spS (valL t k),n (askE t (decide (0≤k∧k < (t.length:Int))))]):=by
  by_cases hk:0≤k→k < 9223372036854775808
  · exact Values_spec t hs k hk
  · have hl:=hs.1
    refine Pure.of_body Tryz.call36 Tryz.func36 k36 (Nat.le_of_ble_eq_true rfl) ?_
    unfold c36
    have ha:=asked_spec t hs 91 [.iptr [tkS t] 0,.iptr [n k] 0] (by simp) _ (fun _=>values1_spec t k)
    have hno:decide (0≤k∧k < (t.length:Int))=false:=decide_eq_false (by omega)
    have hne:askE t (decide (0≤k∧k < (t.length:Int)))≠0:=fun h=>by have:=(askE0.1 h).2.1; rw [hno] at this; cases this
    unfold valL
    rw [if_neg hne]
    generalize askE t (decide (0≤k∧k < (t.length:Int)))=e at *
    (repeat' ((first
 | refine vn rfl ?_
 | simp (disch:=omega) only [wr64,Int.zero_sub]
 | refine bo (fun _=>?_) fun _=>?_
 | refine im fun _=>?_
 | ((repeat refine si ?_); (first | ((first | refine .inl ⟨_,_,_,_,rfl,fun _=>pu ha,?_⟩ | refine ⟨_,_,_,_,rfl,fun _=>pu ha,?_⟩); (first | refine o1 ?_ | refine o2 ?_ | refine o3 ?_ | refine o4 ?_)) | refine .inl ⟨_,_,_,_,rfl,pu ha,?_⟩))
 | refine cF ?_
 | refine om ?_
 | refine an ?_
 | fail) <;> try simp only [zT,zV,zS,zU,vcC,lateX,ex,strp,binA,elems,cells,scalar,eqC,keyA,intsA,lookA,ofVs,mpOf,Nat.reduceBEq,reduceAdd,reduceSub,reduceLT,reduceLeDiff,reduceMul,reduceEqDiff,reduceIte]))
    all_goals try (exfalso; omega)
    exact frz2 frz_nil (by simp)
theorem rValues_spec (t:Trk) (k:Int) (hs:trkSz t):Pure Tryz.prog 37 [trS t,n k] (.tup [spS (valL t k),n (askE t (decide (0≤k∧k < (t.length:Int))))]):=by
  refine Pure.of_body Tryz.call37 Tryz.func37 k37 (Nat.le_of_ble_eq_true rfl) ?_
  unfold c37
  have hso:=solved_spec t k hs
  unfold valL
  by_cases h0:askE t (decide (0≤k∧k < (t.length:Int)))=0
  · rw [if_pos h0]
    rw [if_pos h0] at hso
    rw [h0] at hso ⊢
    obtain ⟨hv,hk,hf⟩:=askE0.1 h0
    simp only [decide_eq_true_eq] at hk
    have hkl:k.toNat < t.length:=by omega
    have h2:=hv.2.1
    have g:=allvs_get (t:=t) hkl
    have hwd:=wd_le hv k.toNat
    have hva:=valuesR_spec (allv t k.toNat) (by rw [allv_len hkl]; omega) (allv_goods hv hkl)
    obtain ⟨k1,k2⟩:=hk
    (repeat' ((first
 | refine vn rfl ?_
 | simp (disch:=omega) only [wr64,Int.zero_sub]
 | refine bo (fun _=>?_) fun _=>?_
 | refine im fun _=>?_
 | ((repeat refine si ?_); (first | ((first | refine .inl ⟨_,_,_,_,rfl,fun _=>pu (by first | exact hso | exact hva),?_⟩ | refine ⟨_,_,_,_,rfl,fun _=>pu (by first | exact hso | exact hva),?_⟩); (first | refine o1 ?_ | refine o2 ?_ | refine o3 ?_ | refine o4 ?_)) | refine .inl ⟨_,_,_,_,rfl,pu (by first | exact hso | exact hva),?_⟩))
 | refine cF ?_
 | refine om ?_
 | refine an ?_
 | fail) <;> try simp only [zT,zV,zS,zU,vcC,lateX,ex,strp,binA,elems,cells,scalar,eqC,keyA,intsA,lookA,ofVs,mpOf,Nat.reduceBEq,reduceAdd,reduceSub,reduceLT,reduceLeDiff,reduceMul,reduceEqDiff,reduceIte,g,allvs_len]))
    all_goals try (exfalso; omega)
    all_goals exact Frz.eq rfl (by simp)
  · rw [if_neg h0]
    rw [if_neg h0] at hso
    generalize askE t (decide (0≤k∧k < (t.length:Int)))=e at *
    (repeat' ((first
 | refine vn rfl ?_
 | simp (disch:=omega) only [wr64,Int.zero_sub]
 | refine bo (fun _=>?_) fun _=>?_
 | refine im fun _=>?_
 | ((repeat refine si ?_); (first | ((first | refine .inl ⟨_,_,_,_,rfl,fun _=>pu hso,?_⟩ | refine ⟨_,_,_,_,rfl,fun _=>pu hso,?_⟩); (first | refine o1 ?_ | refine o2 ?_ | refine o3 ?_ | refine o4 ?_)) | refine .inl ⟨_,_,_,_,rfl,pu hso,?_⟩))
 | refine cF ?_
 | refine om ?_
 | refine an ?_
 | fail) <;> try simp only [zT,zV,zS,zU,vcC,lateX,ex,strp,binA,elems,cells,scalar,eqC,keyA,intsA,lookA,ofVs,mpOf,Nat.reduceBEq,reduceAdd,reduceSub,reduceLT,reduceLeDiff,reduceMul,reduceEqDiff,reduceIte]))
    all_goals try (exfalso; omega)
    exact frz2 frz_nil (by simp)
theorem valL_ne {t:Trk} {k:Int} (h:askE t (decide (0≤k∧k < (t.length:Int)))=0):∃ s r,valL t k=s::r:=by
  obtain ⟨hv,hk,hf⟩:=askE0.1 h
  simp only [decide_eq_true_eq] at hk
  have hkl:k.toNat < t.length:=by omega
  have hsu:=some_unisV (allv_goods hv hkl)
  rw [some_allv hv hkl,hf] at hsu
  unfold valL
  rw [if_pos h]
  cases hU:unis (allv t k.toNat) with
  | nil=>rw [hU] at hsu; cases hsu
  | cons s r=>exact ⟨s,r,rfl⟩
theorem valL_len (t:Trk) (k:Int):(valL t k).length < 2000000000:=by
  unfold valL
  split
  · rename_i h
    obtain ⟨hv,hk,hf⟩:=askE0.1 h
    simp only [decide_eq_true_eq] at hk
    have hkl:k.toNat < t.length:=by omega
    obtain ⟨_,_,b3⟩:=goods_bd (allv_goods hv hkl)
    have hwd:=wd_le hv k.toNat
    have hal:=allv_len (t:=t) hkl
    have:=joins_len (l:=[]) (b:=(allv t k.toNat).flatten)
    simp only [List.length_nil] at this
    show (joins [] (allv t k.toNat).flatten).length < _
    omega
  · simp
def spanL:List Sp→Sp
  | []=>⟨0,0⟩
  | s::r=>⟨s.lo,((s::r).getD r.length ⟨0,0⟩).hi⟩
theorem Span_spec (t:Trk) (k:Int) (hs:trkSz t):Pure Tryz.prog 38 [trS t,n k] (.tup [.agg (Sp.cs (spanL (valL t k))),n (askE t (decide (0≤k∧k < (t.length:Int))))]):=by
  refine Pure.of_body Tryz.call38 Tryz.func38 k38 (Nat.le_of_ble_eq_true rfl) ?_
  unfold c38
  have hso:=ValuesA_spec t hs k
  have hll:=valL_len t k
  by_cases h0:askE t (decide (0≤k∧k < (t.length:Int)))=0
  · obtain ⟨s,r,hU⟩:=valL_ne h0
    rw [hU] at hso hll ⊢
    rw [h0] at hso ⊢
    have hz:Int.toNat 0=0:=rfl
    have hi:(((s::r).length:Int) - 1).toNat=r.length:=by simp only [List.length_cons]; omega
    have hj:(((r.length+1:Nat):Int) - 1).toNat=r.length:=by omega
    simp only [List.length_cons] at hll
    have hg:=getD_map (f:=Sp.cs) (d:=[]) (getD_some (l:=s::r) (i:=r.length) (d:=⟨0,0⟩) (by simp))
    simp only [List.map_cons] at hg
    (repeat' ((first
 | refine vn rfl ?_
 | simp (disch:=omega) only [wr64,Int.zero_sub]
 | refine bo (fun _=>?_) fun _=>?_
 | refine im fun _=>?_
 | ((repeat refine si ?_); (first | ((first | refine .inl ⟨_,_,_,_,rfl,fun _=>pu hso,?_⟩ | refine ⟨_,_,_,_,rfl,fun _=>pu hso,?_⟩); (first | refine o1 ?_ | refine o2 ?_ | refine o3 ?_ | refine o4 ?_)) | refine .inl ⟨_,_,_,_,rfl,pu hso,?_⟩))
 | refine cF ?_
 | refine om ?_
 | refine an ?_
 | fail) <;> try simp only [zT,zV,zS,zU,vcC,lateX,ex,strp,binA,elems,cells,scalar,eqC,keyA,intsA,lookA,ofVs,mpOf,Nat.reduceBEq,reduceAdd,reduceSub,reduceLT,reduceLeDiff,reduceMul,reduceEqDiff,reduceIte,hz,hj,hg]))
    all_goals try (exfalso; omega)
    all_goals exact Frz.eq rfl (by simp (maxDischargeDepth:=9))
  · have hU:valL t k=[]:=if_neg h0
    rw [hU] at hso ⊢
    generalize askE t (decide (0≤k∧k < (t.length:Int)))=e at *
    (repeat' ((first
 | refine vn rfl ?_
 | simp (disch:=omega) only [wr64,Int.zero_sub]
 | refine bo (fun _=>?_) fun _=>?_
 | refine im fun _=>?_
 | ((repeat refine si ?_); (first | ((first | refine .inl ⟨_,_,_,_,rfl,fun _=>pu hso,?_⟩ | refine ⟨_,_,_,_,rfl,fun _=>pu hso,?_⟩); (first | refine o1 ?_ | refine o2 ?_ | refine o3 ?_ | refine o4 ?_)) | refine .inl ⟨_,_,_,_,rfl,pu hso,?_⟩))
 | refine cF ?_
 | refine om ?_
 | refine an ?_
 | fail) <;> try simp only [zT,zV,zS,zU,vcC,lateX,ex,strp,binA,elems,cells,scalar,eqC,keyA,intsA,lookA,ofVs,mpOf,Nat.reduceBEq,reduceAdd,reduceSub,reduceLT,reduceLeDiff,reduceMul,reduceEqDiff,reduceIte]))
    all_goals try (exfalso; omega)
    all_goals exact Frz.eq rfl (by simp (maxDischargeDepth:=9))
theorem rSpan_spec (t:Trk) (k:Int) (hs:trkSz t):Pure Tryz.prog 39 [trS t,n k] (.tup [.agg (Sp.cs (spanL (valL t k))),n (askE t (decide (0≤k∧k < (t.length:Int))))]):=by
  refine Pure.of_body Tryz.call39 Tryz.func39 k39 (Nat.le_of_ble_eq_true rfl) ?_
  unfold c39
  have hso:=rValues_spec t k hs
  have hll:=valL_len t k
  by_cases h0:askE t (decide (0≤k∧k < (t.length:Int)))=0
  · obtain ⟨s,r,hU⟩:=valL_ne h0
    rw [hU] at hso hll ⊢
    rw [h0] at hso ⊢
    have hz:Int.toNat 0=0:=rfl
    have hi:(((s::r).length:Int) - 1).toNat=r.length:=by simp only [List.length_cons]; omega
    have hj:(((r.length+1:Nat):Int) - 1).toNat=r.length:=by omega
    simp only [List.length_cons] at hll
    have hg:=getD_map (f:=Sp.cs) (d:=[]) (getD_some (l:=s::r) (i:=r.length) (d:=⟨0,0⟩) (by simp))
    simp only [List.map_cons] at hg
    (repeat' ((first
 | refine vn rfl ?_
 | simp (disch:=omega) only [wr64,Int.zero_sub]
 | refine bo (fun _=>?_) fun _=>?_
 | refine im fun _=>?_
 | ((repeat refine si ?_); (first | ((first | refine .inl ⟨_,_,_,_,rfl,fun _=>pu hso,?_⟩ | refine ⟨_,_,_,_,rfl,fun _=>pu hso,?_⟩); (first | refine o1 ?_ | refine o2 ?_ | refine o3 ?_ | refine o4 ?_)) | refine .inl ⟨_,_,_,_,rfl,pu hso,?_⟩))
 | refine cF ?_
 | refine om ?_
 | refine an ?_
 | fail) <;> try simp only [zT,zV,zS,zU,vcC,lateX,ex,strp,binA,elems,cells,scalar,eqC,keyA,intsA,lookA,ofVs,mpOf,Nat.reduceBEq,reduceAdd,reduceSub,reduceLT,reduceLeDiff,reduceMul,reduceEqDiff,reduceIte,hz,hj,hg]))
    all_goals try (exfalso; omega)
    all_goals exact Frz.eq rfl (by simp (maxDischargeDepth:=9))
  · have hU:valL t k=[]:=if_neg h0
    rw [hU] at hso ⊢
    generalize askE t (decide (0≤k∧k < (t.length:Int)))=e at *
    (repeat' ((first
 | refine vn rfl ?_
 | simp (disch:=omega) only [wr64,Int.zero_sub]
 | refine bo (fun _=>?_) fun _=>?_
 | refine im fun _=>?_
 | ((repeat refine si ?_); (first | ((first | refine .inl ⟨_,_,_,_,rfl,fun _=>pu hso,?_⟩ | refine ⟨_,_,_,_,rfl,fun _=>pu hso,?_⟩); (first | refine o1 ?_ | refine o2 ?_ | refine o3 ?_ | refine o4 ?_)) | refine .inl ⟨_,_,_,_,rfl,pu hso,?_⟩))
 | refine cF ?_
 | refine om ?_
 | refine an ?_
 | fail) <;> try simp only [zT,zV,zS,zU,vcC,lateX,ex,strp,binA,elems,cells,scalar,eqC,keyA,intsA,lookA,ofVs,mpOf,Nat.reduceBEq,reduceAdd,reduceSub,reduceLT,reduceLeDiff,reduceMul,reduceEqDiff,reduceIte]))
    all_goals try (exfalso; omega)
    all_goals exact Frz.eq rfl (by simp (maxDischargeDepth:=9))
theorem meet_point {l:List Sp} (v:Int):meet l [⟨v,v⟩]=if tr (Mem v l)=true then [⟨v,v⟩] else []:=by
  by_cases h:Mem v l
  · rw [tr_1 h,if_pos rfl]
    refine Norm.ext (meet_norm _ _) (norm1 _ _ (Int.le_refl _)) fun u=>?_
    rw [meet_mem]
    constructor
    · exact fun h=>h.2
    · rintro ⟨s,hs,h1,h2⟩
      rw [List.mem_singleton] at hs; subst hs
      simp only at h1 h2
      obtain rfl:u=v:=by omega
      exact ⟨h,⟨u,u⟩,by simp,Int.le_refl _,Int.le_refl _⟩
  · rw [tr_0 h,if_neg (by decide)]
    refine Norm.ext (meet_norm _ _) norm_nil fun u=>?_
    rw [meet_mem]
    refine ⟨fun hu=>?_,fun hu=>absurd hu Mem.nil⟩
    obtain ⟨h1,s,hs,h2,h3⟩:=hu
    rw [List.mem_singleton] at hs; subst hs
    simp only at h2 h3
    obtain rfl:u=v:=by omega
    exact absurd h1 h
theorem rEnds_spec (t:Trk) (v:Int) (hs:trkSz t):Pure Tryz.prog 41 [trS t,n v] (.tup [spS (if askE t true=0 then endsL t v else []),n (endsE t v)]):=by
  refine Pure.of_body Tryz.call41 Tryz.func41 k41 (Nat.le_of_ble_eq_true rfl) ?_
  unfold c41 endsE
  have hso:=solved_spec t 0 hs
  have hask:askE t (decide (0≤(0:Int)∧(0:Int) < (t.length:Int)))=askE t true:=by
    by_cases hv:valid t
    · have:=hv.1
      rw [decide_eq_true (by omega)]
    · unfold askE; rw [tr_0 hv]; rfl
  rw [hask] at hso
  by_cases h0:askE t true=0
  · rw [if_pos h0,if_pos h0]
    rw [if_pos h0,h0] at hso
    obtain ⟨hv,_,hf⟩:=askE0.1 h0
    have h1:=hv.1
    have h2:=hv.2.1
    have g0:(t.map fun l=>[stS l]).getD 0 []=[stS (t.getD 0 [])]:=getD_map (getD_some (by omega))
    have hz:Int.toNat 0=0:=rfl
    have hst:=valid_stg hv (k:=0) (by omega)
    have hbg:=begF_goods hv v
    have hbe:begF t v=(t.getD 0 []).map fun x=>if tr (Mem v x.al)=true then [⟨v,v⟩] else []:=by
      unfold begF als
      rw [List.map_map]
      exact List.map_congr_left fun x _=>meet_point v
    have hbl:(begF t v).length=(t.getD 0 []).length:=by rw [hbe]; simp
    have hfw:=forwardsR_spec t (begF t v) hv (by rw [hbl,als_len]; rfl) hbg
    have hen:endsL t v=unis (lev (als t) (stp t) (begF t v) (t.length - 1)):=rfl
    obtain ⟨l1,l2,l3⟩:=hst
    have hgl:=rowsL_get (t:=t) (first:=begF t v) (m:=t.length) (i:=t.length - 1) (by omega)
    have hll:=rowsL_len t (begF t v) t.length
    have hgg:goods (lev (als t) (stp t) (begF t v) (t.length - 1)):=lev_goods hbg (als_goods hv) _
    have hgn:(lev (als t) (stp t) (begF t v) (t.length - 1)).length=wd t (t.length - 1):=by rw [lev_len (by rw [hbl,als_len]; rfl),als_len]
    have hwd:=wd_le hv (t.length - 1)
    have hva:=valuesR_spec _ (by rw [hgn]; omega) hgg
    rw [← hen] at hva
    have ei:((t.length:Int) - 1).toNat=t.length - 1:=by omega
    generalize endsL t v=U at *
    generalize hF0:begF t v=F0 at *
    generalize hL:t.getD 0 []=L at *
    (repeat' ((first
 | refine vn rfl ?_
 | simp (disch:=omega) only [wr64,Int.zero_sub]
 | refine bo (fun _=>?_) fun _=>?_
 | refine im fun _=>?_
 | ((repeat refine si ?_); (first | ((first | refine .inl ⟨_,_,_,_,rfl,fun _=>pu hso,?_⟩ | refine ⟨_,_,_,_,rfl,fun _=>pu hso,?_⟩); (first | refine o1 ?_ | refine o2 ?_ | refine o3 ?_ | refine o4 ?_)) | refine .inl ⟨_,_,_,_,rfl,pu hso,?_⟩))
 | refine cF ?_
 | refine om ?_
 | refine an ?_
 | fail) <;> try simp only [zT,zV,zS,zU,vcC,lateX,ex,strp,binA,elems,cells,scalar,eqC,keyA,intsA,lookA,ofVs,mpOf,Nat.reduceBEq,reduceAdd,reduceSub,reduceLT,reduceLeDiff,reduceMul,reduceEqDiff,reduceIte,g0,hz]))
    all_goals try (exfalso; omega)
    refine AWPC.own0 45 1 8 rfl ?_
    refine AWPC.loopE (α:={ x:Nat // x≤L.length }) [8,9] (fun x=>[(8,.own 0 0 x.1),(9,n x.1)]) (fun x=>[some [⟨45,1,((L.take x.1).map fun x=>if tr (Mem v x.al)=true then [spS [⟨v,v⟩]] else [.v (.slice none 0 0)]),none⟩]]) (fun x=>L.length - x.1) ⟨0,Nat.zero_le _⟩ ?_ rfl ?_
    · (simp only [zT,zV,zS,zU,vcC,lateX,ex,strp,binA,elems,cells,scalar,eqC,keyA,intsA,lookA,ofVs,mpOf,Nat.reduceBEq,reduceAdd,reduceSub,reduceLT,reduceLeDiff,reduceMul,reduceEqDiff,reduceIte]; try simp)
    rintro ⟨k,hk⟩
    try simp only at hk
    try simp only
    have htl:(L.take k).length=k:=by rw [List.length_take]; omega
    by_cases hlt:k < L.length
    · obtain ⟨x,hx⟩:∃ x,L[k]?=some x:=⟨_,List.getElem?_eq_getElem hlt⟩
      have hxg:=(l3 x (List.mem_of_getElem? hx)).1
      have hin:=In_spec x.al v (by have:=hxg.1; omega)
      have hsn:=take_snoc hx
      by_cases hm:Mem v x.al
      · rw [tr_1 hm] at hin
        (repeat' ((first
 | refine vn rfl ?_
 | simp (disch:=omega) only [wr64,Int.zero_sub]
 | refine bo (fun _=>?_) fun _=>?_
 | refine im fun _=>?_
 | ((repeat refine si ?_); (first | ((first | refine .inl ⟨_,_,_,_,rfl,fun _=>pu hin,?_⟩ | refine ⟨_,_,_,_,rfl,fun _=>pu hin,?_⟩); (first | refine o1 ?_ | refine o2 ?_ | refine o3 ?_ | refine o4 ?_)) | refine .inl ⟨_,_,_,_,rfl,pu hin,?_⟩))
 | refine cF ?_
 | refine om ?_
 | refine an ?_
 | fail) <;> try simp only [zT, zV, zS, zU, vcC, lateX, ex, strp, binA, elems, cells, scalar, eqC, keyA, intsA, lookA, ofVs, mpOf, Nat.reduceBEq, reduceAdd, reduceSub, reduceLT, reduceLeDiff, reduceMul, reduceEqDiff, reduceIte, g0, hz, getD_map hx, htl]))
        all_goals try (exfalso; omega)
        exact ⟨⟨k+1,hlt⟩,by simp,by rw [hsn,List.map_append]; simp [tr_1 hm],by simp only; omega⟩
      · rw [tr_0 hm] at hin
        (repeat' ((first
 | refine vn rfl ?_
 | simp (disch:=omega) only [wr64,Int.zero_sub]
 | refine bo (fun _=>?_) fun _=>?_
 | refine im fun _=>?_
 | ((repeat refine si ?_); (first | ((first | refine .inl ⟨_,_,_,_,rfl,fun _=>pu hin,?_⟩ | refine ⟨_,_,_,_,rfl,fun _=>pu hin,?_⟩); (first | refine o1 ?_ | refine o2 ?_ | refine o3 ?_ | refine o4 ?_)) | refine .inl ⟨_,_,_,_,rfl,pu hin,?_⟩))
 | refine cF ?_
 | refine om ?_
 | refine an ?_
 | fail) <;> try simp only [zT, zV, zS, zU, vcC, lateX, ex, strp, binA, elems, cells, scalar, eqC, keyA, intsA, lookA, ofVs, mpOf, Nat.reduceBEq, reduceAdd, reduceSub, reduceLT, reduceLeDiff, reduceMul, reduceEqDiff, reduceIte, g0, hz, getD_map hx, htl]))
        all_goals try (exfalso; omega)
        exact ⟨⟨k+1,hlt⟩,by simp,by rw [hsn,List.map_append]; simp [tr_0 hm],by simp only; omega⟩
    · obtain rfl:k=L.length:=by omega
      rw [List.take_length]
      ((first
 | refine vn rfl ?_
 | simp (disch:=omega) only [wr64,Int.zero_sub]
 | refine bo (fun _=>?_) fun _=>?_
 | refine im fun _=>?_
 | refine cF ?_
 | refine om ?_
 | refine an ?_
 | fail) <;> try simp only [zT,zV,zS,zU,vcC,lateX,ex,strp,binA,elems,cells,scalar,eqC,keyA,intsA,lookA,ofVs,mpOf,Nat.reduceBEq,reduceAdd,reduceSub,reduceLT,reduceLeDiff,reduceMul,reduceEqDiff,reduceIte,g0,hz])
      ((first
 | refine vn rfl ?_
 | simp (disch:=omega) only [wr64,Int.zero_sub]
 | refine bo (fun _=>?_) fun _=>?_
 | refine im fun _=>?_
 | refine cF ?_
 | refine om ?_
 | refine an ?_
 | fail) <;> try simp only [zT,zV,zS,zU,vcC,lateX,ex,strp,binA,elems,cells,scalar,eqC,keyA,intsA,lookA,ofVs,mpOf,Nat.reduceBEq,reduceAdd,reduceSub,reduceLT,reduceLeDiff,reduceMul,reduceEqDiff,reduceIte])
      ((first
 | refine vn rfl ?_
 | simp (disch:=omega) only [wr64,Int.zero_sub]
 | refine bo (fun _=>?_) fun _=>?_
 | refine im fun _=>?_
 | refine cF ?_
 | refine om ?_
 | refine an ?_
 | fail) <;> try simp only [zT,zV,zS,zU,vcC,lateX,ex,strp,binA,elems,cells,scalar,eqC,keyA,intsA,lookA,ofVs,mpOf,Nat.reduceBEq,reduceAdd,reduceSub,reduceLT,reduceLeDiff,reduceMul,reduceEqDiff,reduceIte])
      refine AWPC.weakO (f:=0) (i:=0) (o:=⟨45,1,(L.map fun x=>if tr (Mem v x.al)=true then [spS [⟨v,v⟩]] else [.v (.slice none 0 0)]),none⟩) (o':=⟨45,1,F0.map (fun l=>[spS l]),none⟩) rfl rfl rfl rfl rfl (by rw [hbe]; simp) (fun e he=>?_) (fun e j he hj=>?_) ?_
      · simp only [List.length_map] at he
        rw [getD_map (getD_some (d:=[]) (by omega))]; rfl
      · simp only [List.length_map] at he
        obtain rfl:j=0:=by simp only at hj; omega
        intro w X β σ' x hx
        have hfe:F0.getD e []=if tr (Mem v (L.getD e ⟨[],[]⟩).al)=true then [⟨v,v⟩] else []:=by rw [hbe]; exact getD_map (getD_some he)
        rw [getD_map (getD_some (d:=⟨[],[]⟩) he)] at hx
        rw [getD_map (getD_some (d:=[]) (by omega)),hfe]
        split
        · rename_i h; rw [if_pos h] at hx; exact hx
        · rename_i h; rw [if_neg h] at hx; exact hx.nil
      refine AWPC.freeze1 (t:=8) (n:=L.length) rfl rfl (by rw [hbe]; simp) (show (1:Nat)≠0 by decide) ?_
      (repeat' ((first
 | refine vn rfl ?_
 | simp (disch:=omega) only [wr64,Int.zero_sub]
 | refine bo (fun _=>?_) fun _=>?_
 | refine im fun _=>?_
 | ((repeat refine si ?_); (first | ((first | refine .inl ⟨_,_,_,_,rfl,fun _=>pu (by first | exact hfw | exact hva),?_⟩ | refine ⟨_,_,_,_,rfl,fun _=>pu (by first | exact hfw | exact hva),?_⟩); (first | refine o1 ?_ | refine o2 ?_ | refine o3 ?_ | refine o4 ?_)) | refine .inl ⟨_,_,_,_,rfl,pu (by first | exact hfw | exact hva),?_⟩))
 | refine cF ?_
 | refine om ?_
 | refine an ?_
 | fail) <;> try simp only [zT,zV,zS,zU,vcC,lateX,ex,strp,binA,elems,cells,scalar,eqC,keyA,intsA,lookA,ofVs,mpOf,Nat.reduceBEq,reduceAdd,reduceSub,reduceLT,reduceLeDiff,reduceMul,reduceEqDiff,reduceIte,hgl,hll,ei]))
      all_goals try (exfalso; omega)
      · rename_i h
        have hU:U=[]:=List.length_eq_zero_iff.1 (by omega)
        rw [hU]
        exact frz2 frz_nil (by simp)
      · rename_i h
        rw [if_neg fun e=>h (by rw [e]; rfl)]
        exact Frz.eq rfl (by simp)
  · rw [if_neg h0,if_neg h0]
    rw [if_neg h0] at hso
    generalize askE t true=e at *
    (repeat' ((first
 | refine vn rfl ?_
 | simp (disch:=omega) only [wr64,Int.zero_sub]
 | refine bo (fun _=>?_) fun _=>?_
 | refine im fun _=>?_
 | ((repeat refine si ?_); (first | ((first | refine .inl ⟨_,_,_,_,rfl,fun _=>pu hso,?_⟩ | refine ⟨_,_,_,_,rfl,fun _=>pu hso,?_⟩); (first | refine o1 ?_ | refine o2 ?_ | refine o3 ?_ | refine o4 ?_)) | refine .inl ⟨_,_,_,_,rfl,pu hso,?_⟩))
 | refine cF ?_
 | refine om ?_
 | refine an ?_
 | fail) <;> try simp only [zT,zV,zS,zU,vcC,lateX,ex,strp,binA,elems,cells,scalar,eqC,keyA,intsA,lookA,ofVs,mpOf,Nat.reduceBEq,reduceAdd,reduceSub,reduceLT,reduceLeDiff,reduceMul,reduceEqDiff,reduceIte]))
    all_goals try (exfalso; omega)
    exact frz2 frz_nil (by simp)
abbrev bulky (x:Ask):Prop:=((500 < x.one.length∨500 < x.two.length)∨12 < x.lims.length)∨12 < x.sets.length
abbrev briefL (l:List Sp):Prop:=l.length≤12∨64 < l.length∧l.length≤128
structure Light (x:Ask):Prop where
  no:¬ bulky x
  lims:∀ y∈x.lims,briefL y.vs
  sets:∀ l∈x.sets,l.length≤12∧∀ s∈l,s.length≤40
def c83:CF:=⟨15,
 (.seq (.ops [
 ⟨some 2,.box false 24 1 (.t 0),none⟩,
 ⟨some 4,.mv (.c (.slice none 0 0)),none⟩,
 ⟨some 5,.mv (.c (.int .i64 0)),none⟩] [1,2])
 (.seq (.seq (.ops [
 ⟨some 7,.load (some 1) (.t 2),none⟩,
 ⟨some 8,.call (.f 53) [(.t 7)],none⟩,
 ⟨some 6,.mv (.t 8),none⟩] [1,2,6])
 (.seq (.ops [
 ⟨some 9,.mv (.t 6),none⟩,
 ⟨some 10,.bin .neq (.t 9) (.c (.int .i64 0)),none⟩] [1,2,6,10])
 (.cond (.t 10) (.seq (.ops [
 ⟨some 11,.mv (.t 6),none⟩,
 ⟨some 4,.mv (.c (.slice none 0 0)),none⟩,
 ⟨some 5,.mv (.t 11),none⟩] [4,5])
 .ret)
 .skip)))
 (.seq (.ops [
 ⟨some 12,.mv (.t 1),none⟩,
 ⟨some 13,.load (some 1) (.t 2),none⟩,
 ⟨some 14,.call (.t 12) [(.t 13)],none⟩,
 ⟨some 4,.mv (.t 14),none⟩,
 ⟨some 5,.mv (.c (.int .i64 0)),none⟩] [4,5])
 .ret))),
 [.t 4,.t 5]⟩
def c34:CF:=⟨8,
 (.seq (.ops [
 ⟨some 1,.box false 24 1 (.t 0),none⟩,
 ⟨some 2,.mv (.c (.slice none 0 0)),none⟩,
 ⟨some 3,.mv (.c (.int .i64 0)),none⟩] [1])
 (.seq (.ops [
 ⟨some 4,.load (some 1) (.t 1),none⟩,
 ⟨some 5,.call (.f 83) [(.t 4),(.f 88)],none⟩,
 ⟨some 6,.ext 0 (.t 5),none⟩,
 ⟨some 7,.ext 1 (.t 5),none⟩,
 ⟨some 2,.mv (.t 6),none⟩,
 ⟨some 3,.mv (.t 7),none⟩] [2,3])
 .ret)),
 [.t 2,.t 3]⟩
theorem k83:chkF Tryz.prog Tryz.f83 c83=true:=by kernel_rfl
theorem k34:chkF Tryz.prog Tryz.f34 c34=true:=by kernel_rfl
theorem told_spec (t:Trk) (hs:trkSz t) (f:Nat) (x:List (List (List Sp))) (hf:valid t→Pure Tryz.prog f [trS t] (stgS x)) :
    Pure Tryz.prog 83 [trS t,.fn (.func f) [] []] (.tup [stgS (if tr (valid t)=true then x else []),n (if tr (valid t)=true then 0 else 40)]):=by
  refine Pure.of_body Tryz.call83 Tryz.func83 k83 (Nat.le_of_ble_eq_true rfl) ?_
  unfold c83
  have hc:=Check_spec t hs
  by_cases hv:valid t
  · rw [tr_1 hv] at hc ⊢
    simp only [if_true] at hc ⊢
    have hx:=hf hv
    (repeat' ((first
 | refine vn rfl ?_
 | simp (disch:=omega) only [wr64,Int.zero_sub]
 | refine bo (fun _=>?_) fun _=>?_
 | refine im fun _=>?_
 | ((repeat refine si ?_); (first | ((first | refine .inl ⟨_,_,_,_,rfl,fun _=>pu (by first | exact hc | exact hx),?_⟩ | refine ⟨_,_,_,_,rfl,fun _=>pu (by first | exact hc | exact hx),?_⟩); (first | refine o1 ?_ | refine o2 ?_ | refine o3 ?_ | refine o4 ?_)) | refine .inl ⟨_,_,_,_,rfl,pu (by first | exact hc | exact hx),?_⟩))
 | refine cF ?_
 | refine om ?_
 | refine an ?_
 | fail) <;> try simp only [zT,zV,zS,zU,vcC,lateX,ex,strp,binA,elems,cells,scalar,eqC,keyA,intsA,lookA,ofVs,mpOf,Nat.reduceBEq,reduceAdd,reduceSub,reduceLT,reduceLeDiff,reduceMul,reduceEqDiff,reduceIte]))
    all_goals try (exfalso; omega)
    all_goals exact Frz.eq rfl (by simp)
  · rw [tr_0 hv] at hc ⊢
    simp only [Bool.false_eq_true,if_false] at hc ⊢
    (repeat' ((first
 | refine vn rfl ?_
 | simp (disch:=omega) only [wr64,Int.zero_sub]
 | refine bo (fun _=>?_) fun _=>?_
 | refine im fun _=>?_
 | ((repeat refine si ?_); (first | ((first | refine .inl ⟨_,_,_,_,rfl,fun _=>pu hc,?_⟩ | refine ⟨_,_,_,_,rfl,fun _=>pu hc,?_⟩); (first | refine o1 ?_ | refine o2 ?_ | refine o3 ?_ | refine o4 ?_)) | refine .inl ⟨_,_,_,_,rfl,pu hc,?_⟩))
 | refine cF ?_
 | refine om ?_
 | refine an ?_
 | fail) <;> try simp only [zT,zV,zS,zU,vcC,lateX,ex,strp,binA,elems,cells,scalar,eqC,keyA,intsA,lookA,ofVs,mpOf,Nat.reduceBEq,reduceAdd,reduceSub,reduceLT,reduceLeDiff,reduceMul,reduceEqDiff,reduceIte]))
    all_goals try (exfalso; omega)
    exact frz2 frz_nil (by simp)
theorem All_spec (t:Trk) (hs:trkSz t):Pure Tryz.prog 34 [trS t] (.tup [stgS (if tr (valid t)=true then allvs t else []),n (if tr (valid t)=true then 0 else 40)]):=by
  refine Pure.of_body Tryz.call34 Tryz.func34 k34 (Nat.le_of_ble_eq_true rfl) ?_
  unfold c34
  have ht:=told_spec t hs 88 (allvs t) (all_spec t)
  generalize (if tr (valid t)=true then (0:Int) else 40)=E at *
  generalize (if tr (valid t)=true then allvs t else [])=X at *
  (repeat' ((first
 | refine vn rfl ?_
 | simp (disch:=omega) only [wr64,Int.zero_sub]
 | refine bo (fun _=>?_) fun _=>?_
 | refine im fun _=>?_
 | ((repeat refine si ?_); (first | ((first | refine .inl ⟨_,_,_,_,rfl,fun _=>pu ht,?_⟩ | refine ⟨_,_,_,_,rfl,fun _=>pu ht,?_⟩); (first | refine o1 ?_ | refine o2 ?_ | refine o3 ?_ | refine o4 ?_)) | refine .inl ⟨_,_,_,_,rfl,pu ht,?_⟩))
 | refine cF ?_
 | refine om ?_
 | refine an ?_
 | fail) <;> try simp only [zT,zV,zS,zU,vcC,lateX,ex,strp,binA,elems,cells,scalar,eqC,keyA,intsA,lookA,ofVs,mpOf,Nat.reduceBEq,reduceAdd,reduceSub,reduceLT,reduceLeDiff,reduceMul,reduceEqDiff,reduceIte]))
  all_goals exact Frz.eq rfl (by simp)
def c30:CF:=⟨8,
 (.seq (.ops [
 ⟨some 1,.box false 24 1 (.t 0),none⟩,
 ⟨some 2,.mv (.c (.slice none 0 0)),none⟩,
 ⟨some 3,.mv (.c (.int .i64 0)),none⟩] [1])
 (.seq (.ops [
 ⟨some 4,.load (some 1) (.t 1),none⟩,
 ⟨some 5,.call (.f 83) [(.t 4),(.f 71)],none⟩,
 ⟨some 6,.ext 0 (.t 5),none⟩,
 ⟨some 7,.ext 1 (.t 5),none⟩,
 ⟨some 2,.mv (.t 6),none⟩,
 ⟨some 3,.mv (.t 7),none⟩] [2,3])
 .ret)),
 [.t 2,.t 3]⟩
def c32:CF:=⟨8,
 (.seq (.ops [
 ⟨some 1,.box false 24 1 (.t 0),none⟩,
 ⟨some 2,.mv (.c (.slice none 0 0)),none⟩,
 ⟨some 3,.mv (.c (.int .i64 0)),none⟩] [1])
 (.seq (.ops [
 ⟨some 4,.load (some 1) (.t 1),none⟩,
 ⟨some 5,.call (.f 83) [(.t 4),(.f 86)],none⟩,
 ⟨some 6,.ext 0 (.t 5),none⟩,
 ⟨some 7,.ext 1 (.t 5),none⟩,
 ⟨some 2,.mv (.t 6),none⟩,
 ⟨some 3,.mv (.t 7),none⟩] [2,3])
 .ret)),
 [.t 2,.t 3]⟩
theorem k30:chkF Tryz.prog Tryz.f30 c30=true:=by kernel_rfl
theorem k32:chkF Tryz.prog Tryz.f32 c32=true:=by kernel_rfl
theorem Forward_spec (t:Trk) (hs:trkSz t):Pure Tryz.prog 30 [trS t] (.tup [stgS (if tr (valid t)=true then fwds t else []),n (if tr (valid t)=true then 0 else 40)]):=by
  refine Pure.of_body Tryz.call30 Tryz.func30 k30 (Nat.le_of_ble_eq_true rfl) ?_
  unfold c30
  have ht:=told_spec t hs 71 (fwds t) (forward_spec t)
  generalize (if tr (valid t)=true then (0:Int) else 40)=E at *
  generalize (if tr (valid t)=true then fwds t else [])=X at *
  (repeat' ((first
 | refine vn rfl ?_
 | simp (disch:=omega) only [wr64,Int.zero_sub]
 | refine bo (fun _=>?_) fun _=>?_
 | refine im fun _=>?_
 | ((repeat refine si ?_); (first | ((first | refine .inl ⟨_,_,_,_,rfl,fun _=>pu ht,?_⟩ | refine ⟨_,_,_,_,rfl,fun _=>pu ht,?_⟩); (first | refine o1 ?_ | refine o2 ?_ | refine o3 ?_ | refine o4 ?_)) | refine .inl ⟨_,_,_,_,rfl,pu ht,?_⟩))
 | refine cF ?_
 | refine om ?_
 | refine an ?_
 | fail) <;> try simp only [zT,zV,zS,zU,vcC,lateX,ex,strp,binA,elems,cells,scalar,eqC,keyA,intsA,lookA,ofVs,mpOf,Nat.reduceBEq,reduceAdd,reduceSub,reduceLT,reduceLeDiff,reduceMul,reduceEqDiff,reduceIte]))
  all_goals exact Frz.eq rfl (by simp)
theorem Backward_spec (t:Trk) (hs:trkSz t):Pure Tryz.prog 32 [trS t] (.tup [stgS (if tr (valid t)=true then bwds t else []),n (if tr (valid t)=true then 0 else 40)]):=by
  refine Pure.of_body Tryz.call32 Tryz.func32 k32 (Nat.le_of_ble_eq_true rfl) ?_
  unfold c32
  have ht:=told_spec t hs 86 (bwds t) (backward_spec t)
  generalize (if tr (valid t)=true then (0:Int) else 40)=E at *
  generalize (if tr (valid t)=true then bwds t else [])=X at *
  (repeat' ((first
 | refine vn rfl ?_
 | simp (disch:=omega) only [wr64,Int.zero_sub]
 | refine bo (fun _=>?_) fun _=>?_
 | refine im fun _=>?_
 | ((repeat refine si ?_); (first | ((first | refine .inl ⟨_,_,_,_,rfl,fun _=>pu ht,?_⟩ | refine ⟨_,_,_,_,rfl,fun _=>pu ht,?_⟩); (first | refine o1 ?_ | refine o2 ?_ | refine o3 ?_ | refine o4 ?_)) | refine .inl ⟨_,_,_,_,rfl,pu ht,?_⟩))
 | refine cF ?_
 | refine om ?_
 | refine an ?_
 | fail) <;> try simp only [zT,zV,zS,zU,vcC,lateX,ex,strp,binA,elems,cells,scalar,eqC,keyA,intsA,lookA,ofVs,mpOf,Nat.reduceBEq,reduceAdd,reduceSub,reduceLT,reduceLeDiff,reduceMul,reduceEqDiff,reduceIte]))
  all_goals exact Frz.eq rfl (by simp)
theorem setsIf_sz {p:Prop} [Decidable p] {l:List (List (List Sp))} (h:p→setsSz l):setsSz (if p then l else []):=by
  split
  · rename_i hp; exact h hp
  · exact ⟨by simp,fun x hx=>absurd hx (by simp)⟩
theorem bwds_sz {t:Trk} (hv:valid t):setsSz (bwds t):=by
  have h2:=hv.2.1
  refine ⟨by simp [bwds]; omega,fun x hx=>?_⟩
  obtain ⟨k,hk,rfl⟩:=List.mem_map.1 hx
  have hk:=List.mem_range.1 hk
  have hw:=wd_le hv k
  exact ⟨by rw [bwd_len hk]; omega,fun l hl=>by have:=good_len (bwd_goods hv k l hl); omega⟩
theorem fwds_szV {t:Trk} (hv:valid t):setsSz (fwds t):=by
  have h2:=hv.2.1
  refine ⟨by simp [fwds]; omega,fun x hx=>?_⟩
  obtain ⟨k,_,rfl⟩:=List.mem_map.1 hx
  have hw:=wd_le hv k
  exact ⟨by rw [fwd_len]; omega,fun l hl=>by have:=good_len (fwd_goods hv k l hl); omega⟩
theorem allvs_szV {t:Trk} (hv:valid t):setsSz (allvs t):=by
  have h2:=hv.2.1
  refine ⟨by simp [allvs]; omega,fun x hx=>?_⟩
  obtain ⟨k,hk,rfl⟩:=List.mem_map.1 hx
  have hk:=List.mem_range.1 hk
  have hw:=wd_le hv k
  exact ⟨by rw [allv_len hk]; omega,fun l hl=>by have:=good_len (allv_goods hv hk l hl); omega⟩
theorem tr_is {p:Prop} (h:tr p=true):p:=Classical.byContradiction fun hn=>by rw [tr_0 hn] at h; cases h
theorem endsL_len {t:Trk} (hv:valid t) (v:Int):(endsL t v).length < 2000000000:=by
  have hbg:=begF_goods hv v
  have hbl:(begF t v).length=(als t 0).length:=by unfold begF; simp
  have hgg:goods (lev (als t) (stp t) (begF t v) (t.length - 1)):=lev_goods hbg (als_goods hv) _
  have hgn:(lev (als t) (stp t) (begF t v) (t.length - 1)).length=wd t (t.length - 1):=by rw [lev_len hbl,als_len]
  obtain ⟨_,_,b3⟩:=goods_bd hgg
  have hwd:=wd_le hv (t.length - 1)
  have:=joins_len (l:=[]) (b:=(lev (als t) (stp t) (begF t v) (t.length - 1)).flatten)
  simp only [List.length_nil] at this
  show (joins [] (lev (als t) (stp t) (begF t v) (t.length - 1)).flatten).length < _
  omega
theorem endsQ_len (t:Trk) (v:Int):(if askE t true=0 then endsL t v else []).length < 2000000000:=by
  split
  · rename_i h; exact endsL_len (askE0.1 h).1 v
  · simp
def c5:CF:=⟨163,
 (.seq (.ops [
 ⟨some 2,.box false 24 1 (.t 0),none⟩,
 ⟨some 3,.box false 33 11 (.t 1),none⟩,
 ⟨some 4,.mv (.c (.bool false)),none⟩] [2,3])
 (.seq (.ops [
 ⟨some 24,.call (.f 16) [],none⟩,
 ⟨some 5,.mv (.t 24),none⟩] [2,3,5])
 (.seq (.seq (.ops [
 ⟨some 25,.load (some 1) (.t 2),none⟩,
 ⟨some 26,.call (.f 17) [(.t 25)],none⟩,
 ⟨some 27,.un .not (.t 26),none⟩] [2,3,5,27])
 (.cond (.t 27) (.seq (.ops [
 ⟨some 28,.mv (.t 5),none⟩,
 ⟨some 4,.mv (.t 28),none⟩] [4])
 .ret)
 .skip))
 (.seq (.ops [
 ⟨some 30,.load (some 1) (.t 2),none⟩,
 ⟨some 31,.call (.f 30) [(.t 30)],none⟩,
 ⟨some 29,.mv (.t 31),none⟩,
 ⟨some 32,.ext 0 (.t 29),none⟩,
 ⟨some 33,.ext 1 (.t 29),none⟩,
 ⟨some 6,.mv (.t 32),none⟩,
 ⟨some 7,.mv (.t 33),none⟩] [2,3,5,6,7])
 (.seq (.ops [
 ⟨some 35,.load (some 1) (.t 2),none⟩,
 ⟨some 36,.call (.f 31) [(.t 35)],none⟩,
 ⟨some 34,.mv (.t 36),none⟩,
 ⟨some 37,.ext 0 (.t 34),none⟩,
 ⟨some 38,.ext 1 (.t 34),none⟩,
 ⟨some 8,.mv (.t 37),none⟩,
 ⟨some 9,.mv (.t 38),none⟩] [2,3,5,6,7,8,9])
 (.seq (.ops [
 ⟨some 40,.load (some 1) (.t 2),none⟩,
 ⟨some 41,.call (.f 32) [(.t 40)],none⟩,
 ⟨some 39,.mv (.t 41),none⟩,
 ⟨some 42,.ext 0 (.t 39),none⟩,
 ⟨some 43,.ext 1 (.t 39),none⟩,
 ⟨some 10,.mv (.t 42),none⟩,
 ⟨some 11,.mv (.t 43),none⟩] [2,3,5,6,7,8,9,10,11])
 (.seq (.ops [
 ⟨some 45,.load (some 1) (.t 2),none⟩,
 ⟨some 46,.call (.f 33) [(.t 45)],none⟩,
 ⟨some 44,.mv (.t 46),none⟩,
 ⟨some 47,.ext 0 (.t 44),none⟩,
 ⟨some 48,.ext 1 (.t 44),none⟩,
 ⟨some 12,.mv (.t 47),none⟩,
 ⟨some 13,.mv (.t 48),none⟩] [2,3,5,6,7,8,9,10,11,12,13])
 (.seq (.ops [
 ⟨some 50,.load (some 1) (.t 2),none⟩,
 ⟨some 51,.call (.f 34) [(.t 50)],none⟩,
 ⟨some 49,.mv (.t 51),none⟩,
 ⟨some 52,.ext 0 (.t 49),none⟩,
 ⟨some 53,.ext 1 (.t 49),none⟩,
 ⟨some 14,.mv (.t 52),none⟩,
 ⟨some 15,.mv (.t 53),none⟩] [2,3,5,6,7,8,9,10,11,12,13,14,15])
 (.seq (.ops [
 ⟨some 55,.load (some 1) (.t 2),none⟩,
 ⟨some 56,.call (.f 35) [(.t 55)],none⟩,
 ⟨some 54,.mv (.t 56),none⟩,
 ⟨some 57,.ext 0 (.t 54),none⟩,
 ⟨some 58,.ext 1 (.t 54),none⟩,
 ⟨some 16,.mv (.t 57),none⟩,
 ⟨some 17,.mv (.t 58),none⟩] [2,3,5,6,7,8,9,10,11,12,13,14,15,16,17])
 (.seq (.seq (.ops [
 ⟨some 59,.mv (.t 6),none⟩,
 ⟨some 60,.mv (.t 8),none⟩,
 ⟨some 61,.call (.f 21) [(.t 59),(.t 60)],none⟩,
 ⟨some 62,.un .not (.t 61),none⟩,
 ⟨some 63,.mv (.t 62),none⟩,
 ⟨some 64,.mv (.t 7),some (63,false)⟩,
 ⟨some 65,.mv (.t 9),some (63,false)⟩,
 ⟨some 66,.bin .neq (.t 64) (.t 65),some (63,false)⟩,
 ⟨some 67,.pick (.t 63) (.c (.bool true)) (.t 66),none⟩,
 ⟨some 68,.mv (.t 67),none⟩,
 ⟨some 69,.mv (.t 10),some (68,false)⟩,
 ⟨some 70,.mv (.t 12),some (68,false)⟩,
 ⟨some 71,.call (.f 21) [(.t 69),(.t 70)],some (68,false)⟩,
 ⟨some 72,.un .not (.t 71),some (68,false)⟩,
 ⟨some 73,.pick (.t 68) (.c (.bool true)) (.t 72),none⟩,
 ⟨some 74,.mv (.t 73),none⟩,
 ⟨some 75,.mv (.t 11),some (74,false)⟩,
 ⟨some 76,.mv (.t 13),some (74,false)⟩,
 ⟨some 77,.bin .neq (.t 75) (.t 76),some (74,false)⟩,
 ⟨some 78,.pick (.t 74) (.c (.bool true)) (.t 77),none⟩,
 ⟨some 79,.mv (.t 78),none⟩,
 ⟨some 80,.mv (.t 14),some (79,false)⟩,
 ⟨some 81,.mv (.t 16),some (79,false)⟩,
 ⟨some 82,.call (.f 21) [(.t 80),(.t 81)],some (79,false)⟩,
 ⟨some 83,.un .not (.t 82),some (79,false)⟩,
 ⟨some 84,.pick (.t 79) (.c (.bool true)) (.t 83),none⟩,
 ⟨some 85,.mv (.t 84),none⟩,
 ⟨some 86,.mv (.t 15),some (85,false)⟩,
 ⟨some 87,.mv (.t 17),some (85,false)⟩,
 ⟨some 88,.bin .neq (.t 86) (.t 87),some (85,false)⟩,
 ⟨some 89,.pick (.t 85) (.c (.bool true)) (.t 88),none⟩] [2,3,5,89])
 (.cond (.t 89) (.seq (.ops [
 ⟨some 4,.mv (.c (.bool false)),none⟩] [4])
 .ret)
 .skip))
 (.seq (.ops [
 ⟨some 91,.load (some 1) (.t 2),none⟩,
 ⟨some 92,.faddr 0 (.t 3),none⟩,
 ⟨some 93,.load none (.t 92),none⟩,
 ⟨some 94,.call (.f 36) [(.t 91),(.t 93)],none⟩,
 ⟨some 90,.mv (.t 94),none⟩,
 ⟨some 95,.ext 0 (.t 90),none⟩,
 ⟨some 96,.ext 1 (.t 90),none⟩,
 ⟨some 18,.mv (.t 95),none⟩,
 ⟨some 7,.mv (.t 96),none⟩] [2,3,5,7,18])
 (.seq (.ops [
 ⟨some 98,.load (some 1) (.t 2),none⟩,
 ⟨some 99,.faddr 0 (.t 3),none⟩,
 ⟨some 100,.load none (.t 99),none⟩,
 ⟨some 101,.call (.f 37) [(.t 98),(.t 100)],none⟩,
 ⟨some 97,.mv (.t 101),none⟩,
 ⟨some 102,.ext 0 (.t 97),none⟩,
 ⟨some 103,.ext 1 (.t 97),none⟩,
 ⟨some 19,.mv (.t 102),none⟩,
 ⟨some 9,.mv (.t 103),none⟩] [2,3,5,7,9,18,19])
 (.seq (.ops [
 ⟨some 105,.load (some 1) (.t 2),none⟩,
 ⟨some 106,.faddr 0 (.t 3),none⟩,
 ⟨some 107,.load none (.t 106),none⟩,
 ⟨some 108,.call (.f 38) [(.t 105),(.t 107)],none⟩,
 ⟨some 104,.mv (.t 108),none⟩,
 ⟨some 109,.ext 0 (.t 104),none⟩,
 ⟨some 110,.ext 1 (.t 104),none⟩,
 ⟨some 20,.alloc 30 2 [.int .i64 0,.int .i64 0],none⟩,
 ⟨none,.store 2 (.t 20) (.t 109),none⟩,
 ⟨some 11,.mv (.t 110),none⟩] [2,3,5,7,9,11,18,19,20])
 (.seq (.ops [
 ⟨some 112,.load (some 1) (.t 2),none⟩,
 ⟨some 113,.faddr 0 (.t 3),none⟩,
 ⟨some 114,.load none (.t 113),none⟩,
 ⟨some 115,.call (.f 39) [(.t 112),(.t 114)],none⟩,
 ⟨some 111,.mv (.t 115),none⟩,
 ⟨some 116,.ext 0 (.t 111),none⟩,
 ⟨some 117,.ext 1 (.t 111),none⟩,
 ⟨some 21,.alloc 30 2 [.int .i64 0,.int .i64 0],none⟩,
 ⟨none,.store 2 (.t 21) (.t 116),none⟩,
 ⟨some 13,.mv (.t 117),none⟩] [2,3,5,7,9,11,13,18,19,20,21])
 (.seq (.ops [
 ⟨some 119,.load (some 1) (.t 2),none⟩,
 ⟨some 120,.faddr 2 (.t 3),none⟩,
 ⟨some 121,.load none (.t 120),none⟩,
 ⟨some 122,.call (.f 40) [(.t 119),(.t 121)],none⟩,
 ⟨some 118,.mv (.t 122),none⟩,
 ⟨some 123,.ext 0 (.t 118),none⟩,
 ⟨some 124,.ext 1 (.t 118),none⟩,
 ⟨some 22,.mv (.t 123),none⟩,
 ⟨some 15,.mv (.t 124),none⟩] [2,3,5,7,9,11,13,15,18,19,20,21,22])
 (.seq (.ops [
 ⟨some 126,.load (some 1) (.t 2),none⟩,
 ⟨some 127,.faddr 2 (.t 3),none⟩,
 ⟨some 128,.load none (.t 127),none⟩,
 ⟨some 129,.call (.f 41) [(.t 126),(.t 128)],none⟩,
 ⟨some 125,.mv (.t 129),none⟩,
 ⟨some 130,.ext 0 (.t 125),none⟩,
 ⟨some 131,.ext 1 (.t 125),none⟩,
 ⟨some 23,.mv (.t 130),none⟩,
 ⟨some 17,.mv (.t 131),none⟩] [5,7,9,11,13,15,17,18,19,20,21,22,23])
 (.seq (.ops [
 ⟨some 132,.mv (.t 5),none⟩,
 ⟨some 133,.mv (.t 132),none⟩,
 ⟨some 134,.mv (.t 18),some (133,true)⟩,
 ⟨some 135,.mv (.t 19),some (133,true)⟩,
 ⟨some 136,.call (.f 28) [(.t 134),(.t 135)],some (133,true)⟩,
 ⟨some 137,.pick (.t 133) (.t 136) (.c (.bool false)),none⟩,
 ⟨some 138,.mv (.t 137),none⟩,
 ⟨some 139,.mv (.t 7),some (138,true)⟩,
 ⟨some 140,.mv (.t 9),some (138,true)⟩,
 ⟨some 141,.bin .eql (.t 139) (.t 140),some (138,true)⟩,
 ⟨some 142,.pick (.t 138) (.t 141) (.c (.bool false)),none⟩,
 ⟨some 143,.mv (.t 142),none⟩,
 ⟨some 144,.load (some 2) (.t 20),some (143,true)⟩,
 ⟨some 145,.load (some 2) (.t 21),some (143,true)⟩,
 ⟨some 146,.eqs false [some .i64,some .i64] (.t 144) (.t 145),some (143,true)⟩,
 ⟨some 147,.pick (.t 143) (.t 146) (.c (.bool false)),none⟩,
 ⟨some 148,.mv (.t 147),none⟩,
 ⟨some 149,.mv (.t 11),some (148,true)⟩,
 ⟨some 150,.mv (.t 13),some (148,true)⟩,
 ⟨some 151,.bin .eql (.t 149) (.t 150),some (148,true)⟩,
 ⟨some 152,.pick (.t 148) (.t 151) (.c (.bool false)),none⟩,
 ⟨some 153,.mv (.t 152),none⟩,
 ⟨some 154,.mv (.t 22),some (153,true)⟩,
 ⟨some 155,.mv (.t 23),some (153,true)⟩,
 ⟨some 156,.call (.f 28) [(.t 154),(.t 155)],some (153,true)⟩,
 ⟨some 157,.pick (.t 153) (.t 156) (.c (.bool false)),none⟩,
 ⟨some 158,.mv (.t 157),none⟩,
 ⟨some 159,.mv (.t 15),some (158,true)⟩,
 ⟨some 160,.mv (.t 17),some (158,true)⟩,
 ⟨some 161,.bin .eql (.t 159) (.t 160),some (158,true)⟩,
 ⟨some 162,.pick (.t 158) (.t 161) (.c (.bool false)),none⟩,
 ⟨some 4,.mv (.t 162),none⟩] [4])
 .ret))))))))))))))))),
 [.t 4]⟩
theorem k5:chkF Tryz.prog Tryz.f5 c5=true:=by kernel_rfl
theorem Sets_spec (t:Trk) (x:Ask) (hs:trkSz t) (hx:Ask.sz x):Pure Tryz.prog 5 [trS t,.agg x.cs] (bl true):=by
  refine Pure.of_body Tryz.call5 Tryz.func5 k5 (Nat.le_of_ble_eq_true rfl) ?_
  unfold c5
  have hw:=awake_spec
  have hf:=few_spec t hs
  have f1:=Forward_spec t hs
  have f2:=rForward_spec t hs
  have b1:=Backward_spec t hs
  have b2:=rBackward_spec t hs
  have a1:=All_spec t hs
  have a2:=rAll_spec t hs
  have s1:=SameSets_spec _ _ (setsIf_sz (p:=tr (valid t)=true) fun h=>fwds_szV (tr_is h)) (setsIf_sz (p:=tr (valid t)=true) fun h=>fwds_szV (tr_is h))
  have s2:=SameSets_spec _ _ (setsIf_sz (p:=tr (valid t)=true) fun h=>bwds_sz (tr_is h)) (setsIf_sz (p:=tr (valid t)=true) fun h=>bwds_sz (tr_is h))
  have s3:=SameSets_spec _ _ (setsIf_sz (p:=tr (valid t)=true) fun h=>allvs_szV (tr_is h)) (setsIf_sz (p:=tr (valid t)=true) fun h=>allvs_szV (tr_is h))
  have v1:=ValuesA_spec t hs x.stage
  have v2:=rValues_spec t x.stage hs
  have p1:=Span_spec t x.stage hs
  have p2:=rSpan_spec t x.stage hs
  have e1:=Ends_spec t x.first hs
  have e2:=rEnds_spec t x.first hs
  have s4:=SameSpans_spec (valL t x.stage) (valL t x.stage) (by have:=valL_len t x.stage; omega) (by have:=valL_len t x.stage; omega)
  have s5:=SameSpans_spec (if askE t true=0 then endsL t x.first else []) (if askE t true=0 then endsL t x.first else []) (by have:=endsQ_len t x.first; omega) (by have:=endsQ_len t x.first; omega)
  rw [decide_eq_true rfl] at s1 s2 s3 s4 s5
  obtain ⟨xs,x2,xf,⟨x4,x5⟩,one,two,lims,⟨x9,x10⟩,sets⟩:=x
  simp only at *
  generalize fewB t=B1 at *
  generalize (if tr (valid t)=true then (0:Int) else 40)=E at *
  generalize (if tr (valid t)=true then fwds t else [])=F1 at *
  generalize (if tr (valid t)=true then bwds t else [])=F2 at *
  generalize (if tr (valid t)=true then allvs t else [])=F3 at *
  generalize valL t xs=V at *
  generalize spanL V=P at *
  generalize (if askE t true=0 then endsL t xf else [])=W at *
  generalize askE t (decide (0≤xs∧xs < (t.length:Int)))=EV at *
  generalize endsE t xf=EE at *
  obtain ⟨q1,q2⟩:=P
  have hn:∀ a:Int,decide (a=a)=true:=fun a=>decide_eq_true rfl
  have hnb:(true != true)=false:=rfl
  cases B1 with
  | false =>
    (repeat' ((first
 | refine vn rfl ?_
 | simp (disch:=omega) only [wr64,Int.zero_sub]
 | refine bo (fun _=>?_) fun _=>?_
 | refine im fun _=>?_
 | ((repeat refine si ?_); (first | ((first | refine .inl ⟨_,_,_,_,rfl,fun _=>pu (by first | exact hw | exact hf),?_⟩ | refine ⟨_,_,_,_,rfl,fun _=>pu (by first | exact hw | exact hf),?_⟩); (first | refine o1 ?_ | refine o2 ?_ | refine o3 ?_ | refine o4 ?_)) | refine .inl ⟨_,_,_,_,rfl,pu (by first | exact hw | exact hf),?_⟩))
 | refine cF ?_
 | refine om ?_
 | refine an ?_
 | fail) <;> try simp only [zT,zV,zS,zU,vcC,lateX,ex,strp,binA,elems,cells,scalar,eqC,keyA,intsA,lookA,ofVs,mpOf,Nat.reduceBEq,reduceAdd,reduceSub,reduceLT,reduceLeDiff,reduceMul,reduceEqDiff,reduceIte]))
    all_goals try (exfalso; omega)
    all_goals exact Frz.eq rfl (by simp)
  | true =>
    (repeat' ((first
 | refine vn rfl ?_
 | simp (disch:=omega) only [wr64,Int.zero_sub]
 | refine bo (fun _=>?_) fun _=>?_
 | refine im fun _=>?_
 | ((repeat refine si ?_); (first | ((first | refine .inl ⟨_,_,_,_,rfl,fun _=>pu (by first | exact hw | exact hf | exact f1 | exact f2 | exact b1 | exact b2 | exact a1 | exact a2 | exact s1 | exact s2 | exact s3 | exact v1 | exact v2 | exact p1 | exact p2 | exact e1 | exact e2 | exact s4 | exact s5),?_⟩ | refine ⟨_,_,_,_,rfl,fun _=>pu (by first | exact hw | exact hf | exact f1 | exact f2 | exact b1 | exact b2 | exact a1 | exact a2 | exact s1 | exact s2 | exact s3 | exact v1 | exact v2 | exact p1 | exact p2 | exact e1 | exact e2 | exact s4 | exact s5),?_⟩); (first | refine o1 ?_ | refine o2 ?_ | refine o3 ?_ | refine o4 ?_)) | refine .inl ⟨_,_,_,_,rfl,pu (by first | exact hw | exact hf | exact f1 | exact f2 | exact b1 | exact b2 | exact a1 | exact a2 | exact s1 | exact s2 | exact s3 | exact v1 | exact v2 | exact p1 | exact p2 | exact e1 | exact e2 | exact s4 | exact s5),?_⟩))
 | refine cF ?_
 | refine om ?_
 | refine an ?_
 | fail) <;> try simp only [zT,zV,zS,zU,vcC,lateX,ex,strp,binA,elems,cells,scalar,eqC,keyA,intsA,lookA,ofVs,mpOf,Nat.reduceBEq,reduceAdd,reduceSub,reduceLT,reduceLeDiff,reduceMul,reduceEqDiff,reduceIte,hn,hnb,bne_self_eq_false]))
    all_goals try (exfalso; omega)
    all_goals exact Frz.eq rfl (by simp)
end Go.Proofs.YtahkhnagpdlkiaaGreat
