/- Part 9 of the texts that the claim rests on: abstract values over the walk, and contracts of functions. -/
import Derived.Test.YtahkhnagpdlkiaaGreatBq8
import Derived.Test.YtahkhnagpdlkiaaGreatRows
import Derived.WalkKit
import Derived.ProofKit
import Derived.OpenShut
import Derived.ShutString
import Derived.ChangeOld
import Derived.Below
namespace Go.Proofs.YtahkhnagpdlkiaaGreat
open Go.Abs
open Nat (reduceAdd reduceSub reduceLT reduceLeDiff reduceMul reduceEqDiff)
set_option linter.unusedVariables false
set_option linter.unusedSimpArgs false
set_option maxHeartbeats 4000000
set_option maxRecDepth 100000
open Go.ChangeShapes Go.WideShapes Go.ChangeAt Go.RowKit
theorem own:ownKnob Tryz.prog.godebug=none:=by kernel_rfl
theorem laidOut:laidOutB Tryz.prog=true:=by kernel_rfl
theorem cells3:Tryz.prog.cellsOf 3=1:=by kernel_rfl
theorem cells30:Tryz.prog.cellsOf 30=2:=by kernel_rfl
theorem cells45:Tryz.prog.cellsOf 45=1:=by kernel_rfl
theorem cells124:Tryz.prog.cellsOf 124=3:=by kernel_rfl
theorem cells78:Tryz.prog.cellsOf 78=1:=by kernel_rfl
theorem cells80:Tryz.prog.cellsOf 80=2:=by kernel_rfl
theorem cells68:Tryz.prog.cellsOf 68=1:=by kernel_rfl
theorem cells22:Tryz.prog.cellsOf 22=1:=by kernel_rfl
theorem cells24:Tryz.prog.cellsOf 24=1:=by kernel_rfl
theorem cells61:Tryz.prog.cellsOf 61=1:=by kernel_rfl
theorem cells31:Tryz.prog.cellsOf 31=1:=by kernel_rfl
theorem cells26:Tryz.prog.cellsOf 26=2:=by kernel_rfl
theorem cells27:Tryz.prog.cellsOf 27=1:=by kernel_rfl
theorem cells65:Tryz.prog.cellsOf 65=2:=by kernel_rfl
theorem cells28:Tryz.prog.cellsOf 28=1:=by kernel_rfl
theorem cells33:Tryz.prog.cellsOf 33=11:=by kernel_rfl
theorem op3:Opens Tryz.prog 3 Int (fun z=>[n z]) (fun _=>True):=(opens_int Tryz.underlying3).to id (fun _=>rfl) (fun _ _=>trivial)
theorem op30:Opens Tryz.prog 30 Sp Sp.cs (fun _=>True) :=
  (opens_struct Tryz.underlying30 cells30 (fun _=>rfl) (opensF_cons rfl cells3 op3 (fun _=>rfl) (opensF_cons rfl cells3 op3 (fun _=>rfl) (opensF_nil _)))).to (fun a=>⟨a.1,a.2.1⟩) (fun _=>rfl) (fun _ _=>trivial)
theorem op45:Opens Tryz.prog 45 (List Sp) (fun l=>[spS l]) (fun l=>l.length < 9223372036854775808) :=
  (opens_slice Tryz.underlying45 cells30 (by decide) op30 (fun _=>rfl)).to id (fun _=>rfl) (fun _ h=>h.1)
theorem op124:Opens Tryz.prog 124 Edg Edg.cs (fun _=>True) :=
  (opens_struct Tryz.underlying124 cells124 (fun _=>rfl) (opensF_cons rfl cells3 op3 (fun _=>rfl) (opensF_cons rfl cells30 op30 (fun _=>rfl) (opensF_nil _)))).to (fun a=>⟨a.1,a.2.1⟩) (fun _=>rfl) (fun _ _=>trivial)
theorem op78:Opens Tryz.prog 78 (List Edg) (fun l=>[edS l]) (fun l=>l.length < 9223372036854775808) :=
  (opens_slice Tryz.underlying78 cells124 (by decide) op124 (fun _=>rfl)).to id (fun _=>rfl) (fun _ h=>h.1)
theorem op80:Opens Tryz.prog 80 Nod Nod.cs nodSz :=
  (opens_struct Tryz.underlying80 cells80 (fun _=>rfl) (opensF_cons rfl cells45 op45 (fun _=>rfl) (opensF_cons rfl cells78 op78 (fun _=>rfl) (opensF_nil _)))).to (fun a=>⟨a.1,a.2.1⟩) (fun _=>rfl) (fun _ h=>⟨h.1,h.2.1⟩)
theorem op68:Opens Tryz.prog 68 (List Nod) (fun l=>[stS l]) stgSz :=
  (opens_slice Tryz.underlying68 cells80 (by decide) op80 (fun _=>rfl)).to id (fun _=>rfl) (fun _ h=>h)
theorem op22:Opens Tryz.prog 22 Trk (fun l=>[tkS l]) trkSz :=
  (opens_slice Tryz.underlying22 cells68 (by decide) op68 (fun _=>rfl)).to id (fun _=>rfl) (fun _ h=>h)
theorem op24:Opens Tryz.prog 24 Trk (fun l=>[tkS l]) trkSz :=
  (opens_struct Tryz.underlying24 cells24 (fun _=>rfl) (opensF_cons rfl cells22 op22 (fun _=>rfl) (opensF_nil _))).to (fun a=>a.1) (fun _=>rfl) (fun _ h=>h.1)
theorem op61:Opens Tryz.prog 61 (List (List Sp)) (fun l=>[nodS l]) (fun l=>l.length < 9223372036854775808∧∀ x∈l,x.length < 9223372036854775808) :=
  (opens_slice Tryz.underlying61 cells45 (by decide) op45 (fun _=>rfl)).to id (fun _=>rfl) (fun _ h=>h)
theorem op31:Opens Tryz.prog 31 (List (List (List Sp))) (fun l=>[stgS l]) setsSz :=
  (opens_slice Tryz.underlying31 cells61 (by decide) op61 (fun _=>rfl)).to id (fun _=>rfl) (fun _ h=>h)
theorem op26:Opens Tryz.prog 26 At At.cs (fun _=>True) :=
  (opens_struct Tryz.underlying26 cells26 (fun _=>rfl) (opensF_cons rfl cells3 op3 (fun _=>rfl) (opensF_cons rfl cells3 op3 (fun _=>rfl) (opensF_nil _)))).to (fun a=>⟨a.1,a.2.1⟩) (fun _=>rfl) (fun _ _=>trivial)
theorem op27:Opens Tryz.prog 27 (List At) (fun l=>[atS l]) (fun l=>l.length < 9223372036854775808) :=
  (opens_slice Tryz.underlying27 cells26 (by decide) op26 (fun _=>rfl)).to id (fun _=>rfl) (fun _ h=>h.1)
theorem op65:Opens Tryz.prog 65 Lim Lim.cs (fun x=>x.vs.length < 9223372036854775808) :=
  (opens_struct Tryz.underlying65 cells65 (fun _=>rfl) (opensF_cons rfl cells3 op3 (fun _=>rfl) (opensF_cons rfl cells45 op45 (fun _=>rfl) (opensF_nil _)))).to (fun a=>⟨a.1,a.2.1⟩) (fun _=>rfl) (fun _ h=>h.2.1)
theorem op28:Opens Tryz.prog 28 (List Lim) (fun l=>[liS l]) limSz :=
  (opens_slice Tryz.underlying28 cells65 (by decide) op65 (fun _=>rfl)).to id (fun _=>rfl) (fun _ h=>h)
structure Ask where
  stage:Int
  to:Int
  first:Int
  pl:At
  one:List At
  two:List At
  lims:List Lim
  ch:Sp
  sets:List (List (List Sp))
abbrev Ask.cs (x:Ask):List AV:=[n x.stage,n x.to,n x.first,n x.pl.node,n x.pl.val,atS x.one,atS x.two,liS x.lims,n x.ch.lo,n x.ch.hi,stgS x.sets]
def Ask.sz (x:Ask):Prop:=x.one.length < 9223372036854775808∧x.two.length < 9223372036854775808∧limSz x.lims∧setsSz x.sets
theorem op33:Opens Tryz.prog 33 Ask Ask.cs Ask.sz :=
  (opens_struct Tryz.underlying33 cells33 (fun _=>rfl) (opensF_cons rfl cells3 op3 (fun _=>rfl) (opensF_cons rfl cells3 op3 (fun _=>rfl) (opensF_cons rfl cells3 op3 (fun _=>rfl) (opensF_cons rfl cells26 op26 (fun _=>rfl) (opensF_cons rfl cells27 op27 (fun _=>rfl) (opensF_cons rfl cells27 op27 (fun _=>rfl) (opensF_cons rfl cells28 op28 (fun _=>rfl) (opensF_cons rfl cells30 op30 (fun _=>rfl) (opensF_cons rfl cells31 op31 (fun _=>rfl) (opensF_nil _))))))))))).to (fun a=>⟨a.1,a.2.1,a.2.2.1,a.2.2.2.1,a.2.2.2.2.1,a.2.2.2.2.2.1,a.2.2.2.2.2.2.1,a.2.2.2.2.2.2.2.1,a.2.2.2.2.2.2.2.2.1⟩) (fun _=>rfl) (fun _ h=>⟨h.2.2.2.2.1,h.2.2.2.2.2.1,h.2.2.2.2.2.2.1,h.2.2.2.2.2.2.2.2.1⟩)
section
variable {H:Type} {enc:TypeId × Value→H} {w:World} {r:Reach} {base b0:Nat} {sp:Nat→Bool} {held:Bool} {v:Value} {d:DataW H} {ps:List MemPlace}
theorem open_set (h:Value.okWide Tryz.prog w r base 45 v) (hx:DataW.Trod enc Tryz.prog w b0 sp held 45 v d ps):∃ l:List Sp,l.length < 9223372036854775808∧RV w (fun _=>False) nob [] (spS l) v:=by
  obtain ⟨a,len,cap,rfl⟩:=okWide_slice Tryz.underlying45 h
  exact op45.one rfl hx
theorem open_trk (h:Value.okWide Tryz.prog w r base 24 v) (hx:DataW.Trod enc Tryz.prog w b0 sp held 24 v d ps):∃ l:Trk,trkSz l∧RV w (fun _=>False) nob [] (trS l) v:=by
  obtain ⟨cs,rfl,_⟩:=okWide_struct Tryz.underlying24 h
  exact op24.agg hx
theorem open_ask (h:Value.okWide Tryz.prog w r base 33 v) (hx:DataW.Trod enc Tryz.prog w b0 sp held 33 v d ps):∃ l:Ask,Ask.sz l∧RV w (fun _=>False) nob [] (.agg l.cs) v:=by
  obtain ⟨cs,rfl,_⟩:=okWide_struct Tryz.underlying33 h
  exact op33.agg hx
end
end Go.Proofs.YtahkhnagpdlkiaaGreat
namespace Go.Proofs.YtahkhnagpdlkiaaGreat
open Go.Abs
open Nat (reduceAdd reduceSub reduceLT reduceLeDiff reduceMul reduceEqDiff)
set_option linter.unusedVariables false
set_option linter.unusedSimpArgs false
set_option maxHeartbeats 4000000
set_option maxRecDepth 100000
def c17:CF:=⟨112,
 (.seq (.ops [
 ⟨some 1,.box false 24 1 (.t 0),none⟩,
 ⟨some 2,.mv (.c (.bool false)),none⟩] [1])
 (.seq (.seq (.ops [
 ⟨some 6,.faddr 0 (.t 1),none⟩,
 ⟨some 7,.load none (.t 6),none⟩,
 ⟨some 8,.len (.t 7),none⟩,
 ⟨some 9,.bin .gtr (.t 8) (.c (.int .i64 8)),none⟩,
 ⟨some 10,.mv (.t 9),none⟩,
 ⟨some 11,.faddr 0 (.t 1),some (10,true)⟩,
 ⟨some 12,.load none (.t 11),some (10,true)⟩,
 ⟨some 13,.len (.t 12),some (10,true)⟩,
 ⟨some 14,.bin .leq (.t 13) (.c (.int .i64 401)),some (10,true)⟩,
 ⟨some 15,.pick (.t 10) (.t 14) (.c (.bool false)),none⟩,
 ⟨some 16,.mv (.t 15),none⟩,
 ⟨some 17,.faddr 0 (.t 1),some (16,false)⟩,
 ⟨some 18,.load none (.t 17),some (16,false)⟩,
 ⟨some 19,.len (.t 18),some (16,false)⟩,
 ⟨some 20,.bin .gtr (.t 19) (.c (.int .i64 802)),some (16,false)⟩,
 ⟨some 21,.pick (.t 16) (.c (.bool true)) (.t 20),none⟩] [1,21])
 (.cond (.t 21) (.seq (.ops [
 ⟨some 2,.mv (.c (.bool false)),none⟩] [2])
 .ret)
 .skip))
 (.seq (.seq (.ops [
 ⟨some 3,.mv (.c (.int .i64 0)),none⟩] [1,3])
 (.block 0 (.loop (.seq (.seq (.ops [
 ⟨some 22,.mv (.t 3),none⟩,
 ⟨some 23,.faddr 0 (.t 1),none⟩,
 ⟨some 24,.load none (.t 23),none⟩,
 ⟨some 25,.len (.t 24),none⟩,
 ⟨some 26,.bin .lss (.t 22) (.t 25),none⟩] [1,3,26])
 (.cond (.t 26) .skip
 (.exit 0)))
 (.seq (.block 1 (.seq (.seq (.ops [
 ⟨some 29,.faddr 0 (.t 1),none⟩,
 ⟨some 30,.load none (.t 29),none⟩,
 ⟨some 31,.mv (.t 3),none⟩,
 ⟨some 32,.iaddr 1 (.t 30) (.t 31),none⟩,
 ⟨some 33,.load none (.t 32),none⟩,
 ⟨some 34,.len (.t 33),none⟩,
 ⟨some 35,.bin .gtr (.t 34) (.c (.int .i64 6)),none⟩,
 ⟨some 36,.mv (.t 35),none⟩,
 ⟨some 37,.faddr 0 (.t 1),some (36,true)⟩,
 ⟨some 38,.load none (.t 37),some (36,true)⟩,
 ⟨some 39,.mv (.t 3),some (36,true)⟩,
 ⟨some 40,.iaddr 1 (.t 38) (.t 39),some (36,true)⟩,
 ⟨some 41,.load none (.t 40),some (36,true)⟩,
 ⟨some 42,.len (.t 41),some (36,true)⟩,
 ⟨some 43,.bin .leq (.t 42) (.c (.int .i64 4000)),some (36,true)⟩,
 ⟨some 44,.mv (.t 43),some (36,true)⟩,
 ⟨some 45,.faddr 0 (.t 1),some (44,false)⟩,
 ⟨some 46,.load none (.t 45),some (44,false)⟩,
 ⟨some 47,.len (.t 46),some (44,false)⟩,
 ⟨some 48,.bin .gtr (.t 47) (.c (.int .i64 8)),some (44,false)⟩,
 ⟨some 49,.pick (.t 44) (.c (.bool true)) (.t 48),some (36,true)⟩,
 ⟨some 50,.pick (.t 36) (.t 49) (.c (.bool false)),none⟩,
 ⟨some 51,.mv (.t 50),none⟩,
 ⟨some 52,.faddr 0 (.t 1),some (51,false)⟩,
 ⟨some 53,.load none (.t 52),some (51,false)⟩,
 ⟨some 54,.mv (.t 3),some (51,false)⟩,
 ⟨some 55,.iaddr 1 (.t 53) (.t 54),some (51,false)⟩,
 ⟨some 56,.load none (.t 55),some (51,false)⟩,
 ⟨some 57,.len (.t 56),some (51,false)⟩,
 ⟨some 58,.bin .gtr (.t 57) (.c (.int .i64 8000)),some (51,false)⟩,
 ⟨some 59,.pick (.t 51) (.c (.bool true)) (.t 58),none⟩] [1,3,59])
 (.cond (.t 59) (.seq (.ops [
 ⟨some 2,.mv (.c (.bool false)),none⟩] [2])
 .ret)
 .skip))
 (.seq (.ops [
 ⟨some 4,.mv (.c (.int .i64 0)),none⟩] [1,3,4])
 (.block 2 (.loop (.seq (.seq (.ops [
 ⟨some 60,.mv (.t 4),none⟩,
 ⟨some 61,.faddr 0 (.t 1),none⟩,
 ⟨some 62,.load none (.t 61),none⟩,
 ⟨some 63,.mv (.t 3),none⟩,
 ⟨some 64,.iaddr 1 (.t 62) (.t 63),none⟩,
 ⟨some 65,.load none (.t 64),none⟩,
 ⟨some 66,.len (.t 65),none⟩,
 ⟨some 67,.bin .lss (.t 60) (.t 66),none⟩] [1,3,4,67])
 (.cond (.t 67) .skip
 (.exit 2)))
 (.seq (.block 3 (.seq (.ops [
 ⟨some 70,.faddr 0 (.t 1),none⟩,
 ⟨some 71,.load none (.t 70),none⟩,
 ⟨some 72,.mv (.t 3),none⟩,
 ⟨some 73,.iaddr 1 (.t 71) (.t 72),none⟩,
 ⟨some 74,.load none (.t 73),none⟩,
 ⟨some 75,.mv (.t 4),none⟩,
 ⟨some 76,.iaddr 2 (.t 74) (.t 75),none⟩,
 ⟨some 77,.load (some 2) (.t 76),none⟩,
 ⟨some 5,.alloc 80 2 [.slice none 0 0,.slice none 0 0],none⟩,
 ⟨none,.store 2 (.t 5) (.t 77),none⟩] [1,3,4,5])
 (.seq (.ops [
 ⟨some 78,.faddr 0 (.t 5),none⟩,
 ⟨some 79,.load none (.t 78),none⟩,
 ⟨some 80,.len (.t 79),none⟩,
 ⟨some 81,.bin .gtr (.t 80) (.c (.int .i64 8)),none⟩,
 ⟨some 82,.mv (.t 81),none⟩,
 ⟨some 83,.faddr 0 (.t 5),some (82,true)⟩,
 ⟨some 84,.load none (.t 83),some (82,true)⟩,
 ⟨some 85,.len (.t 84),some (82,true)⟩,
 ⟨some 86,.bin .leq (.t 85) (.c (.int .i64 64)),some (82,true)⟩,
 ⟨some 87,.pick (.t 82) (.t 86) (.c (.bool false)),none⟩,
 ⟨some 88,.mv (.t 87),none⟩,
 ⟨some 89,.faddr 0 (.t 5),some (88,false)⟩,
 ⟨some 90,.load none (.t 89),some (88,false)⟩,
 ⟨some 91,.len (.t 90),some (88,false)⟩,
 ⟨some 92,.bin .gtr (.t 91) (.c (.int .i64 128)),some (88,false)⟩,
 ⟨some 93,.pick (.t 88) (.c (.bool true)) (.t 92),none⟩,
 ⟨some 94,.mv (.t 93),none⟩,
 ⟨some 95,.faddr 1 (.t 5),some (94,false)⟩,
 ⟨some 96,.load none (.t 95),some (94,false)⟩,
 ⟨some 97,.len (.t 96),some (94,false)⟩,
 ⟨some 98,.bin .gtr (.t 97) (.c (.int .i64 8)),some (94,false)⟩,
 ⟨some 99,.mv (.t 98),some (94,false)⟩,
 ⟨some 100,.faddr 1 (.t 5),some (99,true)⟩,
 ⟨some 101,.load none (.t 100),some (99,true)⟩,
 ⟨some 102,.len (.t 101),some (99,true)⟩,
 ⟨some 103,.bin .leq (.t 102) (.c (.int .i64 64)),some (99,true)⟩,
 ⟨some 104,.pick (.t 99) (.t 103) (.c (.bool false)),some (94,false)⟩,
 ⟨some 105,.pick (.t 94) (.c (.bool true)) (.t 104),none⟩,
 ⟨some 106,.mv (.t 105),none⟩,
 ⟨some 107,.faddr 1 (.t 5),some (106,false)⟩,
 ⟨some 108,.load none (.t 107),some (106,false)⟩,
 ⟨some 109,.len (.t 108),some (106,false)⟩,
 ⟨some 110,.bin .gtr (.t 109) (.c (.int .i64 128)),some (106,false)⟩,
 ⟨some 111,.pick (.t 106) (.c (.bool true)) (.t 110),none⟩] [1,3,4,111])
 (.cond (.t 111) (.seq (.ops [
 ⟨some 2,.mv (.c (.bool false)),none⟩] [2])
 .ret)
 .skip))))
 (.ops [
 ⟨some 68,.mv (.t 4),none⟩,
 ⟨some 69,.bin .add (.t 68) (.c (.int .i64 1)),none⟩,
 ⟨some 4,.mv (.t 69),none⟩] [1,3,4]))))))))
 (.ops [
 ⟨some 27,.mv (.t 3),none⟩,
 ⟨some 28,.bin .add (.t 27) (.c (.int .i64 1)),none⟩,
 ⟨some 3,.mv (.t 28),none⟩] [1,3]))))))
 (.seq (.ops [
 ⟨some 2,.mv (.c (.bool true)),none⟩] [2])
 .ret)))),
 [.t 2]⟩
theorem k17:chkF Tryz.prog Tryz.f17 c17=true:=by kernel_rfl
abbrev manyN (x:Nod):Prop:=((8 < x.al.length∧x.al.length≤64)∨128 < x.al.length)∨(8 < x.nx.length∧x.nx.length≤64)∨128 < x.nx.length
abbrev manyL (m:Nat) (l:List Nod):Prop:=(6 < l.length∧(l.length≤4000∨8 < m))∨8000 < l.length
abbrev manyT (m:Nat):Prop:=(8 < m∧m≤401)∨802 < m
def fewB (t:Trk):Bool:=!decide (manyT t.length) && t.all fun l=>!decide (manyL t.length l) && l.all fun x=>!decide (manyN x)
theorem fewB_f1 {t:Trk} (h:manyT t.length):fewB t=false:=by unfold fewB; rw [decide_eq_true h]; rfl
theorem fewB_f {t:Trk} {l:List Nod} (hl:l∈t) (h:(!decide (manyL t.length l) && l.all fun x=>!decide (manyN x))=false):fewB t=false:=by
  unfold fewB
  have:(t.all fun l=>!decide (manyL t.length l) && l.all fun x=>!decide (manyN x))=false:=by
    cases ha:t.all fun l=>!decide (manyL t.length l) && l.all fun x=>!decide (manyN x) with
    | false=>rfl
    | true=>rw [List.all_eq_true.1 ha l hl] at h; cases h
  rw [this]; simp
theorem fewB_t {t:Trk} (h1:¬ manyT t.length) (h:∀ l∈t,¬ manyL t.length l∧∀ x∈l,¬ manyN x):fewB t=true:=by
  unfold fewB
  rw [decide_eq_false h1]
  have:(t.all fun l=>!decide (manyL t.length l) && l.all fun x=>!decide (manyN x))=true:=List.all_eq_true.2 fun l hl=>by
    obtain ⟨h2,h3⟩:=h l hl
    rw [decide_eq_false h2]
    have:(l.all fun x=>!decide (manyN x))=true:=List.all_eq_true.2 fun x hx=>by rw [decide_eq_false (h3 x hx)]; rfl
    rw [this]; rfl
  rw [this]; rfl
theorem few_spec (t:Trk) (hs:trkSz t):Pure Tryz.prog 17 [trS t] (bl (fewB t)):=by
  refine Pure.of_body Tryz.call17 Tryz.func17 k17 (Nat.le_of_ble_eq_true rfl) ?_
  unfold c17
  have h1:=hs.1
  (repeat' ((first
 | refine vn rfl ?_
 | simp (disch:=omega) only [wr64,Int.zero_sub]
 | refine bo (fun _=>?_) fun _=>?_
 | refine im fun _=>?_
 | refine cF ?_
 | refine om ?_
 | refine an ?_
 | fail) <;> try simp only [zT,zV,zS,zU,vcC,lateX,ex,strp,binA,elems,cells,scalar,eqC,keyA,intsA,lookA,ofVs,mpOf,Nat.reduceBEq,reduceAdd,reduceSub,reduceLT,reduceLeDiff,reduceMul,reduceEqDiff,reduceIte]))
  · rename_i h
    rw [fewB_f1 (by unfold manyT; omega)]
    exact Frz.eq rfl (by simp)
  rename_i hT
  refine AWPC.loopE (α:={ x:Nat × Sto // x.1≤t.length∧∀ l∈t.take x.1,¬ manyL t.length l∧∀ y∈l,¬ manyN y }) [3] (fun x=>[(3,n x.1.1)]) (fun x=>x.1.2) (fun x=>t.length - x.1.1) ⟨(0,[]),Nat.zero_le _,by simp⟩ ?_ rfl ?_
  · (simp only [zT,zV,zS,zU,vcC,lateX,ex,strp,binA,elems,cells,scalar,eqC,keyA,intsA,lookA,ofVs,mpOf,Nat.reduceBEq,reduceAdd,reduceSub,reduceLT,reduceLeDiff,reduceMul,reduceEqDiff,reduceIte]; try simp)
  rintro ⟨⟨k,μ⟩,hk,hk2⟩
  try simp only at hk hk2
  try simp only
  by_cases hlt:k < t.length
  · have htk:t[k]?=some (t.getD k []):=getD_some hlt
    have gtk:(t.map fun l=>[stS l]).getD k []=[stS (t.getD k [])]:=getD_map htk
    have hm:=List.mem_of_getElem? htk
    have hs2:=hs.2 _ hm
    have hsn:=take_snoc htk
    generalize t.getD k []=L at *
    obtain ⟨hL,hL2⟩:=hs2
    (repeat' ((first
 | refine vn rfl ?_
 | simp (disch:=omega) only [wr64,Int.zero_sub]
 | refine bo (fun _=>?_) fun _=>?_
 | refine im fun _=>?_
 | refine cF ?_
 | refine om ?_
 | refine an ?_
 | fail) <;> try simp only [zT,zV,zS,zU,vcC,lateX,ex,strp,binA,elems,cells,scalar,eqC,keyA,intsA,lookA,ofVs,mpOf,Nat.reduceBEq,reduceAdd,reduceSub,reduceLT,reduceLeDiff,reduceMul,reduceEqDiff,reduceIte,gtk]))
    all_goals try (exfalso; omega)
    · rename_i h
      rw [fewB_f hm (by rw [decide_eq_true (by unfold manyL; omega)]; rfl)]
      exact Frz.eq rfl (by simp)
    rename_i hM
    have hM':¬ manyL t.length L:=by unfold manyL; omega
    refine AWPC.loopE (α:={ x:Nat × Sto // x.1≤L.length∧∀ y∈L.take x.1,¬ manyN y }) [4] (fun x=>[(4,n x.1.1)]) (fun x=>x.1.2) (fun x=>L.length - x.1.1) ⟨(0,μ),Nat.zero_le _,by simp⟩ ?_ rfl ?_
    · (simp only [zT,zV,zS,zU,vcC,lateX,ex,strp,binA,elems,cells,scalar,eqC,keyA,intsA,lookA,ofVs,mpOf,Nat.reduceBEq,reduceAdd,reduceSub,reduceLT,reduceLeDiff,reduceMul,reduceEqDiff,reduceIte]; try simp)
    rintro ⟨⟨i,ν⟩,hi,hi2⟩
    try simp only at hi hi2
    try simp only
    by_cases hlt2:i < L.length
    · obtain ⟨x,hx⟩:∃ x,L[i]?=some x:=⟨_,List.getElem?_eq_getElem hlt2⟩
      have hxm:=List.mem_of_getElem? hx
      obtain ⟨x1,x2⟩:=hL2 x hxm
      have hsx:=take_snoc hx
      (repeat' ((first
 | refine vn rfl ?_
 | simp (disch:=omega) only [wr64,Int.zero_sub]
 | refine bo (fun _=>?_) fun _=>?_
 | refine im fun _=>?_
 | refine cF ?_
 | refine om ?_
 | refine an ?_
 | fail) <;> try simp only [zT,zV,zS,zU,vcC,lateX,ex,strp,binA,elems,cells,scalar,eqC,keyA,intsA,lookA,ofVs,mpOf,Nat.reduceBEq,reduceAdd,reduceSub,reduceLT,reduceLeDiff,reduceMul,reduceEqDiff,reduceIte,gtk,getD_map hx,List.cons_append]))
      all_goals try (exfalso; omega)
      · rename_i h
        have hN:manyN x:=by unfold manyN; omega
        have hf:(!decide (manyL t.length L) && L.all fun x=>!decide (manyN x))=false:=by
          rw [Bool.and_eq_false_iff]
          refine .inr ?_
          cases ha:L.all fun x=>!decide (manyN x) with
          | false=>rfl
          | true=>have:=List.all_eq_true.1 ha x hxm; rw [decide_eq_true hN] at this; cases this
        rw [fewB_f hm hf]
        exact Frz.eq rfl (by simp)
      · rename_i h
        have hN:¬ manyN x:=by unfold manyN; omega
        exact ⟨⟨(i+1,ν++[some [⟨80,2,[Nod.cs x],none⟩]]),hlt2,fun y hy=>by
          rw [hsx] at hy
          rcases List.mem_append.1 hy with h | h
          · exact hi2 y h
          · rw [List.mem_singleton.1 h]; exact hN⟩,rfl,rfl,by simp only; omega⟩
    · obtain rfl:i=L.length:=by omega
      rw [List.take_length] at hi2
      (repeat' ((first
 | refine vn rfl ?_
 | simp (disch:=omega) only [wr64,Int.zero_sub]
 | refine bo (fun _=>?_) fun _=>?_
 | refine im fun _=>?_
 | refine cF ?_
 | refine om ?_
 | refine an ?_
 | fail) <;> try simp only [zT,zV,zS,zU,vcC,lateX,ex,strp,binA,elems,cells,scalar,eqC,keyA,intsA,lookA,ofVs,mpOf,Nat.reduceBEq,reduceAdd,reduceSub,reduceLT,reduceLeDiff,reduceMul,reduceEqDiff,reduceIte,gtk]))
      all_goals try (exfalso; omega)
      exact ⟨⟨(k+1,ν),hlt,fun l hl=>by
        rw [hsn] at hl
        rcases List.mem_append.1 hl with h | h
        · exact hk2 l h
        · rw [List.mem_singleton.1 h]
          exact ⟨hM',hi2⟩⟩,rfl,rfl,by simp only; omega⟩
  · obtain rfl:k=t.length:=by omega
    rw [List.take_length] at hk2
    rw [fewB_t (by unfold manyT; omega) hk2]
    (repeat' ((first
 | refine vn rfl ?_
 | simp (disch:=omega) only [wr64,Int.zero_sub]
 | refine bo (fun _=>?_) fun _=>?_
 | refine im fun _=>?_
 | refine cF ?_
 | refine om ?_
 | refine an ?_
 | fail) <;> try simp only [zT,zV,zS,zU,vcC,lateX,ex,strp,binA,elems,cells,scalar,eqC,keyA,intsA,lookA,ofVs,mpOf,Nat.reduceBEq,reduceAdd,reduceSub,reduceLT,reduceLeDiff,reduceMul,reduceEqDiff,reduceIte]))
    all_goals try (exfalso; omega)
    exact Frz.eq rfl (by simp)
def c120:CF:=⟨49,
 (.seq (.ops [
 ⟨some 4,.mv (.c (.bool false)),none⟩] [0,1])
 (.seq (.seq (.ops [
 ⟨some 6,.mv (.t 0),none⟩,
 ⟨some 7,.len (.t 6),none⟩,
 ⟨some 8,.bin .gtr (.t 7) (.c (.int .i64 64)),none⟩] [0,1,8])
 (.cond (.t 8) (.seq (.ops [
 ⟨some 4,.mv (.c (.bool false)),none⟩] [4])
 .ret)
 .skip))
 (.seq (.seq (.ops [
 ⟨some 5,.mv (.c (.int .i64 0)),none⟩] [0,1,5])
 (.block 0 (.loop (.seq (.seq (.ops [
 ⟨some 9,.mv (.t 5),none⟩,
 ⟨some 10,.mv (.t 0),none⟩,
 ⟨some 11,.len (.t 10),none⟩,
 ⟨some 12,.bin .lss (.t 9) (.t 11),none⟩] [0,1,5,12])
 (.cond (.t 12) .skip
 (.exit 0)))
 (.seq (.block 1 (.seq (.draw [
 ⟨some 15,.mv (.t 0),none⟩,
 ⟨some 16,.mv (.t 5),none⟩,
 ⟨some 17,.iaddr 3 (.t 15) (.t 16),none⟩,
 ⟨some 18,.faddr 0 (.t 17),none⟩,
 ⟨some 19,.load none (.t 18),none⟩,
 ⟨some 20,.mv (.t 1),none⟩,
 ⟨some 21,.bin .sub (.t 20) (.c (.int .i64 1)),none⟩,
 ⟨some 22,.call (.f 82) [(.t 19),(.c (.int .i64 0)),(.t 21)],none⟩,
 ⟨some 23,.un .not (.t 22),none⟩,
 ⟨some 24,.mv (.t 23),none⟩,
 ⟨some 25,.mv (.t 0),some (24,false)⟩,
 ⟨some 26,.mv (.t 5),some (24,false)⟩,
 ⟨some 27,.iaddr 3 (.t 25) (.t 26),some (24,false)⟩,
 ⟨some 28,.faddr 1 (.t 27),some (24,false)⟩,
 ⟨some 29,.faddr 0 (.t 28),some (24,false)⟩,
 ⟨some 30,.load none (.t 29),some (24,false)⟩,
 ⟨some 31,.mv (.t 0),some (24,false)⟩,
 ⟨some 32,.mv (.t 5),some (24,false)⟩,
 ⟨some 33,.iaddr 3 (.t 31) (.t 32),some (24,false)⟩,
 ⟨some 34,.faddr 1 (.t 33),some (24,false)⟩,
 ⟨some 35,.faddr 1 (.t 34),some (24,false)⟩,
 ⟨some 36,.load none (.t 35),some (24,false)⟩,
 ⟨some 37,.call (.f 82) [(.t 30),(.c (.int .i64 (-100000))),(.t 36)],some (24,false)⟩,
 ⟨some 38,.un .not (.t 37),some (24,false)⟩,
 ⟨some 39,.pick (.t 24) (.c (.bool true)) (.t 38),none⟩,
 ⟨some 40,.mv (.t 39),none⟩,
 ⟨some 41,.mv (.t 0),some (40,false)⟩,
 ⟨some 42,.mv (.t 5),some (40,false)⟩,
 ⟨some 43,.iaddr 3 (.t 41) (.t 42),some (40,false)⟩,
 ⟨some 44,.faddr 1 (.t 43),some (40,false)⟩,
 ⟨some 45,.faddr 1 (.t 44),some (40,false)⟩,
 ⟨some 46,.load none (.t 45),some (40,false)⟩,
 ⟨some 47,.bin .gtr (.t 46) (.c (.int .i64 100000)),some (40,false)⟩,
 ⟨some 48,.pick (.t 40) (.c (.bool true)) (.t 47),none⟩] [
 ] [0,1,5,48])
 (.cond (.t 48) (.seq (.ops [
 ⟨some 4,.mv (.c (.bool false)),none⟩] [4])
 .ret)
 .skip)))
 (.ops [
 ⟨some 13,.mv (.t 5),none⟩,
 ⟨some 14,.bin .add (.t 13) (.c (.int .i64 1)),none⟩,
 ⟨some 5,.mv (.t 14),none⟩] [0,1,5]))))))
 (.seq (.ops [
 ⟨some 4,.mv (.c (.bool true)),none⟩] [4])
 .ret)))),
 [.t 4]⟩
def c58:CF:=⟨77,
 (.seq (.ops [
 ⟨some 1,.box false 24 1 (.t 0),none⟩,
 ⟨some 2,.mv (.c (.int .i64 0)),none⟩] [1])
 (.seq (.seq (.ops [
 ⟨some 8,.faddr 0 (.t 1),none⟩,
 ⟨some 9,.load none (.t 8),none⟩,
 ⟨some 10,.len (.t 9),none⟩,
 ⟨some 11,.call (.f 82) [(.t 10),(.c (.int .i64 1)),(.c (.int .i64 401))],none⟩,
 ⟨some 12,.un .not (.t 11),none⟩] [1,12])
 (.cond (.t 12) (.seq (.ops [
 ⟨some 2,.mv (.c (.int .i64 40)),none⟩] [2])
 .ret)
 .skip))
 (.seq (.seq (.ops [
 ⟨some 3,.mv (.c (.int .i64 0)),none⟩] [1,3])
 (.block 0 (.loop (.seq (.seq (.ops [
 ⟨some 13,.mv (.t 3),none⟩,
 ⟨some 14,.faddr 0 (.t 1),none⟩,
 ⟨some 15,.load none (.t 14),none⟩,
 ⟨some 16,.len (.t 15),none⟩,
 ⟨some 17,.bin .lss (.t 13) (.t 16),none⟩] [1,3,17])
 (.cond (.t 17) .skip
 (.exit 0)))
 (.seq (.block 1 (.seq (.ops [
 ⟨some 20,.faddr 0 (.t 1),none⟩,
 ⟨some 21,.load none (.t 20),none⟩,
 ⟨some 22,.mv (.t 3),none⟩,
 ⟨some 23,.iaddr 1 (.t 21) (.t 22),none⟩,
 ⟨some 24,.load none (.t 23),none⟩,
 ⟨some 25,.len (.t 24),none⟩,
 ⟨some 26,.call (.f 82) [(.t 25),(.c (.int .i64 1)),(.c (.int .i64 4000))],none⟩,
 ⟨some 27,.un .not (.t 26),none⟩] [1,3,27])
 (.cond (.t 27) (.seq (.ops [
 ⟨some 2,.mv (.c (.int .i64 40)),none⟩] [2])
 .ret)
 .skip)))
 (.ops [
 ⟨some 18,.mv (.t 3),none⟩,
 ⟨some 19,.bin .add (.t 18) (.c (.int .i64 1)),none⟩,
 ⟨some 3,.mv (.t 19),none⟩] [1,3]))))))
 (.seq (.seq (.ops [
 ⟨some 4,.mv (.c (.int .i64 0)),none⟩] [1,4])
 (.block 2 (.loop (.seq (.seq (.ops [
 ⟨some 28,.mv (.t 4),none⟩,
 ⟨some 29,.faddr 0 (.t 1),none⟩,
 ⟨some 30,.load none (.t 29),none⟩,
 ⟨some 31,.len (.t 30),none⟩,
 ⟨some 32,.bin .lss (.t 28) (.t 31),none⟩] [1,4,32])
 (.cond (.t 32) .skip
 (.exit 2)))
 (.seq (.block 3 (.seq (.ops [
 ⟨some 5,.mv (.c (.int .i64 0)),none⟩] [1,4,5])
 (.seq (.seq (.ops [
 ⟨some 35,.mv (.t 4),none⟩,
 ⟨some 36,.bin .add (.t 35) (.c (.int .i64 1)),none⟩,
 ⟨some 37,.faddr 0 (.t 1),none⟩,
 ⟨some 38,.load none (.t 37),none⟩,
 ⟨some 39,.len (.t 38),none⟩,
 ⟨some 40,.bin .lss (.t 36) (.t 39),none⟩] [1,4,5,40])
 (.cond (.t 40) (.ops [
 ⟨some 41,.faddr 0 (.t 1),none⟩,
 ⟨some 42,.load none (.t 41),none⟩,
 ⟨some 43,.mv (.t 4),none⟩,
 ⟨some 44,.bin .add (.t 43) (.c (.int .i64 1)),none⟩,
 ⟨some 45,.iaddr 1 (.t 42) (.t 44),none⟩,
 ⟨some 46,.load none (.t 45),none⟩,
 ⟨some 47,.len (.t 46),none⟩,
 ⟨some 5,.mv (.t 47),none⟩] [1,4,5])
 .skip))
 (.seq (.ops [
 ⟨some 6,.mv (.c (.int .i64 0)),none⟩] [1,4,5,6])
 (.block 4 (.loop (.seq (.seq (.ops [
 ⟨some 48,.mv (.t 6),none⟩,
 ⟨some 49,.faddr 0 (.t 1),none⟩,
 ⟨some 50,.load none (.t 49),none⟩,
 ⟨some 51,.mv (.t 4),none⟩,
 ⟨some 52,.iaddr 1 (.t 50) (.t 51),none⟩,
 ⟨some 53,.load none (.t 52),none⟩,
 ⟨some 54,.len (.t 53),none⟩,
 ⟨some 55,.bin .lss (.t 48) (.t 54),none⟩] [1,4,5,6,55])
 (.cond (.t 55) .skip
 (.exit 4)))
 (.seq (.block 5 (.seq (.ops [
 ⟨some 58,.faddr 0 (.t 1),none⟩,
 ⟨some 59,.load none (.t 58),none⟩,
 ⟨some 60,.mv (.t 4),none⟩,
 ⟨some 61,.iaddr 1 (.t 59) (.t 60),none⟩,
 ⟨some 62,.load none (.t 61),none⟩,
 ⟨some 63,.mv (.t 6),none⟩,
 ⟨some 64,.iaddr 2 (.t 62) (.t 63),none⟩,
 ⟨some 65,.load (some 2) (.t 64),none⟩,
 ⟨some 7,.alloc 80 2 [.slice none 0 0,.slice none 0 0],none⟩,
 ⟨none,.store 2 (.t 7) (.t 65),none⟩] [1,4,5,6,7])
 (.seq (.ops [
 ⟨some 66,.faddr 0 (.t 7),none⟩,
 ⟨some 67,.load none (.t 66),none⟩,
 ⟨some 68,.call (.f 60) [(.t 67)],none⟩,
 ⟨some 69,.bin .neq (.t 68) (.c (.int .i64 0)),none⟩,
 ⟨some 70,.mv (.t 69),none⟩,
 ⟨some 71,.faddr 1 (.t 7),some (70,false)⟩,
 ⟨some 72,.load none (.t 71),some (70,false)⟩,
 ⟨some 73,.mv (.t 5),some (70,false)⟩,
 ⟨some 74,.call (.f 120) [(.t 72),(.t 73)],some (70,false)⟩,
 ⟨some 75,.un .not (.t 74),some (70,false)⟩,
 ⟨some 76,.pick (.t 70) (.c (.bool true)) (.t 75),none⟩] [1,4,5,6,76])
 (.cond (.t 76) (.seq (.ops [
 ⟨some 2,.mv (.c (.int .i64 40)),none⟩] [2])
 .ret)
 .skip))))
 (.ops [
 ⟨some 56,.mv (.t 6),none⟩,
 ⟨some 57,.bin .add (.t 56) (.c (.int .i64 1)),none⟩,
 ⟨some 6,.mv (.t 57),none⟩] [1,4,5,6])))))))))
 (.ops [
 ⟨some 33,.mv (.t 4),none⟩,
 ⟨some 34,.bin .add (.t 33) (.c (.int .i64 1)),none⟩,
 ⟨some 4,.mv (.t 34),none⟩] [1,4]))))))
 (.seq (.ops [
 ⟨some 2,.mv (.c (.int .i64 0)),none⟩] [2])
 .ret))))),
 [.t 2]⟩
theorem k120:chkF Tryz.prog Tryz.f120 c120=true:=by kernel_rfl
theorem k58:chkF Tryz.prog Tryz.f58 c58=true:=by kernel_rfl
def edgsOk (m:Nat) (l:List Edg):Prop:=l.length≤64∧∀ e∈l,edgOk m e
theorem edges_spec (l:List Edg) (m:Nat) (hl:l.length < 9223372036854775808) (hm:m < 9223372036854775808):Pure Tryz.prog 120 [edS l,n m] (bl (tr (edgsOk m l))):=by
  refine Pure.of_body Tryz.call120 Tryz.func120 k120 (Nat.le_of_ble_eq_true rfl) ?_
  unfold c120
  have hno:¬ edgsOk m l→tr (edgsOk m l)=false:=tr_0
  (repeat' ((first
 | refine vn rfl ?_
 | simp (disch:=omega) only [wr64,Int.zero_sub]
 | refine bo (fun _=>?_) fun _=>?_
 | refine im fun _=>?_
 | refine cF ?_
 | refine om ?_
 | refine an ?_
 | fail) <;> try simp only [zT,zV,zS,zU,vcC,lateX,ex,strp,binA,elems,cells,scalar,eqC,keyA,intsA,lookA,ofVs,mpOf,Nat.reduceBEq,reduceAdd,reduceSub,reduceLT,reduceLeDiff,reduceMul,reduceEqDiff,reduceIte]))
  · rename_i h
    rw [hno fun e=>by have:=e.1; omega]
    exact Frz.eq rfl (by simp)
  rename_i h64
  refine AWPC.loopE (α:={ y:Nat // y≤l.length∧∀ e∈l.take y,edgOk m e }) [5] (fun y=>[(5,n y.1)]) (fun y=>[]) (fun y=>l.length - y.1) ⟨0,Nat.zero_le _,by simp⟩ ?_ rfl ?_
  · (simp only [zT,zV,zS,zU,vcC,lateX,ex,strp,binA,elems,cells,scalar,eqC,keyA,intsA,lookA,ofVs,mpOf,Nat.reduceBEq,reduceAdd,reduceSub,reduceLT,reduceLeDiff,reduceMul,reduceEqDiff,reduceIte]; try simp)
  rintro ⟨i,hi,hI⟩
  try simp only at hi hI
  try simp only
  by_cases hlt:i < l.length
  · obtain ⟨e,he⟩:∃ e,l[i]?=some e:=⟨_,List.getElem?_eq_getElem hlt⟩
    have hem:=List.mem_of_getElem? he
    have hsn:=take_snoc he
    have w1:=within_spec e.to 0 ((m:Int) - 1)
    have w2:=within_spec e.ch.lo (-100000) e.ch.hi
    have hok:edgOk m e↔(0≤e.to∧e.to≤(m:Int) - 1)∧(-100000≤e.ch.lo∧e.ch.lo≤e.ch.hi)∧e.ch.hi≤100000:=by unfold edgOk chOk; omega
    have hbad:¬ edgOk m e→tr (edgsOk m l)=false:=fun h=>hno fun g=>h (g.2 e hem)
    by_cases h1:0≤e.to∧e.to≤(m:Int) - 1
    · rw [decide_eq_true h1] at w1
      by_cases h2:-100000≤e.ch.lo∧e.ch.lo≤e.ch.hi
      · rw [decide_eq_true h2] at w2
        (repeat' ((first
 | refine vn rfl ?_
 | simp (disch:=omega) only [wr64,Int.zero_sub]
 | refine bo (fun _=>?_) fun _=>?_
 | refine im fun _=>?_
 | ((repeat refine si ?_); (first | ((first | refine .inl ⟨_,_,_,_,rfl,fun _=>pu (by first | exact w1 | exact w2),?_⟩ | refine ⟨_,_,_,_,rfl,fun _=>pu (by first | exact w1 | exact w2),?_⟩); (first | refine o1 ?_ | refine o2 ?_ | refine o3 ?_ | refine o4 ?_)) | refine .inl ⟨_,_,_,_,rfl,pu (by first | exact w1 | exact w2),?_⟩))
 | refine cF ?_
 | refine om ?_
 | refine an ?_
 | fail) <;> try simp only [zT, zV, zS, zU, vcC, lateX, ex, strp, binA, elems, cells, scalar, eqC, keyA, intsA, lookA, ofVs, mpOf, Nat.reduceBEq, reduceAdd, reduceSub, reduceLT, reduceLeDiff, reduceMul, reduceEqDiff, reduceIte, getD_map he]))
        all_goals try (exfalso; omega)
        · rename_i h3
          rw [hbad fun h=>by have:=(hok.1 h).2.2; omega]
          exact Frz.eq rfl (by simp)
        · rename_i h3
          exact ⟨⟨i+1,hlt,fun y hy=>by
            rw [hsn] at hy
            rcases List.mem_append.1 hy with h | h
            · exact hI y h
            · rw [List.mem_singleton.1 h]; exact hok.2 ⟨h1,h2,by omega⟩⟩,rfl,by simp only; omega⟩
      · rw [decide_eq_false h2] at w2
        (repeat' ((first
 | refine vn rfl ?_
 | simp (disch:=omega) only [wr64,Int.zero_sub]
 | refine bo (fun _=>?_) fun _=>?_
 | refine im fun _=>?_
 | ((repeat refine si ?_); (first | ((first | refine .inl ⟨_,_,_,_,rfl,fun _=>pu (by first | exact w1 | exact w2),?_⟩ | refine ⟨_,_,_,_,rfl,fun _=>pu (by first | exact w1 | exact w2),?_⟩); (first | refine o1 ?_ | refine o2 ?_ | refine o3 ?_ | refine o4 ?_)) | refine .inl ⟨_,_,_,_,rfl,pu (by first | exact w1 | exact w2),?_⟩))
 | refine cF ?_
 | refine om ?_
 | refine an ?_
 | fail) <;> try simp only [zT, zV, zS, zU, vcC, lateX, ex, strp, binA, elems, cells, scalar, eqC, keyA, intsA, lookA, ofVs, mpOf, Nat.reduceBEq, reduceAdd, reduceSub, reduceLT, reduceLeDiff, reduceMul, reduceEqDiff, reduceIte, getD_map he]))
        all_goals try (exfalso; omega)
        rw [hbad fun h=>h2 (hok.1 h).2.1]
        exact Frz.eq rfl (by simp)
    · rw [decide_eq_false h1] at w1
      (repeat' ((first
 | refine vn rfl ?_
 | simp (disch:=omega) only [wr64,Int.zero_sub]
 | refine bo (fun _=>?_) fun _=>?_
 | refine im fun _=>?_
 | ((repeat refine si ?_); (first | ((first | refine .inl ⟨_,_,_,_,rfl,fun _=>pu (by first | exact w1 | exact w2),?_⟩ | refine ⟨_,_,_,_,rfl,fun _=>pu (by first | exact w1 | exact w2),?_⟩); (first | refine o1 ?_ | refine o2 ?_ | refine o3 ?_ | refine o4 ?_)) | refine .inl ⟨_,_,_,_,rfl,pu (by first | exact w1 | exact w2),?_⟩))
 | refine cF ?_
 | refine om ?_
 | refine an ?_
 | fail) <;> try simp only [zT,zV,zS,zU,vcC,lateX,ex,strp,binA,elems,cells,scalar,eqC,keyA,intsA,lookA,ofVs,mpOf,Nat.reduceBEq,reduceAdd,reduceSub,reduceLT,reduceLeDiff,reduceMul,reduceEqDiff,reduceIte,getD_map he]))
      all_goals try (exfalso; omega)
      rw [hbad fun h=>h1 (hok.1 h).1]
      exact Frz.eq rfl (by simp)
  · obtain rfl:i=l.length:=by omega
    rw [List.take_length] at hI
    have:tr (edgsOk m l)=true:=tr_1 ⟨by omega,hI⟩
    rw [this]
    (repeat' ((first
 | refine vn rfl ?_
 | simp (disch:=omega) only [wr64,Int.zero_sub]
 | refine bo (fun _=>?_) fun _=>?_
 | refine im fun _=>?_
 | refine cF ?_
 | refine om ?_
 | refine an ?_
 | fail) <;> try simp only [zT,zV,zS,zU,vcC,lateX,ex,strp,binA,elems,cells,scalar,eqC,keyA,intsA,lookA,ofVs,mpOf,Nat.reduceBEq,reduceAdd,reduceSub,reduceLT,reduceLeDiff,reduceMul,reduceEqDiff,reduceIte]))
    all_goals try (exfalso; omega)
    exact Frz.eq rfl (by simp)
theorem rCheck_spec (t:Trk) (hs:trkSz t):Pure Tryz.prog 58 [trS t] (n (if tr (valid t)=true then 0 else 40)):=by
  refine Pure.of_body Tryz.call58 Tryz.func58 k58 (Nat.le_of_ble_eq_true rfl) ?_
  unfold c58
  have h1:=hs.1
  have hno:¬ valid t→(if tr (valid t)=true then (0:Int) else 40)=40:=fun h=>by rw [tr_0 h]; rfl
  have hyes:valid t→(if tr (valid t)=true then (0:Int) else 40)=0:=fun h=>by rw [tr_1 h]; rfl
  generalize (if tr (valid t)=true then (0:Int) else 40)=R at *
  have w0:=within_spec (t.length:Int) 1 401
  by_cases h0:1≤(t.length:Int)∧(t.length:Int)≤401
  · rw [decide_eq_true h0] at w0
    (repeat' ((first
 | refine vn rfl ?_
 | simp (disch:=omega) only [wr64,Int.zero_sub]
 | refine bo (fun _=>?_) fun _=>?_
 | refine im fun _=>?_
 | ((repeat refine si ?_); (first | ((first | refine .inl ⟨_,_,_,_,rfl,fun _=>pu w0,?_⟩ | refine ⟨_,_,_,_,rfl,fun _=>pu w0,?_⟩); (first | refine o1 ?_ | refine o2 ?_ | refine o3 ?_ | refine o4 ?_)) | refine .inl ⟨_,_,_,_,rfl,pu w0,?_⟩))
 | refine cF ?_
 | refine om ?_
 | refine an ?_
 | fail) <;> try simp only [zT,zV,zS,zU,vcC,lateX,ex,strp,binA,elems,cells,scalar,eqC,keyA,intsA,lookA,ofVs,mpOf,Nat.reduceBEq,reduceAdd,reduceSub,reduceLT,reduceLeDiff,reduceMul,reduceEqDiff,reduceIte]))
    all_goals try (exfalso; omega)
    refine AWPC.loopE (α:={ y:Nat // y≤t.length∧∀ k,k < y→1≤wd t k∧wd t k≤4000 }) [3] (fun y=>[(3,n y.1)]) (fun y=>[]) (fun y=>t.length - y.1) ⟨0,Nat.zero_le _,by simp⟩ ?_ rfl ?_
    · (simp only [zT,zV,zS,zU,vcC,lateX,ex,strp,binA,elems,cells,scalar,eqC,keyA,intsA,lookA,ofVs,mpOf,Nat.reduceBEq,reduceAdd,reduceSub,reduceLT,reduceLeDiff,reduceMul,reduceEqDiff,reduceIte]; try simp)
    rintro ⟨i,hi,hI⟩
    try simp only at hi hI
    try simp only
    by_cases hlt:i < t.length
    · have htk:t[i]?=some (t.getD i []):=getD_some hlt
      have gtk:(t.map fun l=>[stS l]).getD i []=[stS (t.getD i [])]:=getD_map htk
      have hm:=List.mem_of_getElem? htk
      have hs2:=(hs.2 _ hm).1
      have hww:wd t i=(t.getD i []).length:=rfl
      have w1:=within_spec ((t.getD i []).length:Int) 1 4000
      have hbad:¬ (1≤wd t i∧wd t i≤4000)→¬ valid t:=fun h v=>h ⟨(valid_stg v hlt).1,(valid_stg v hlt).2.1⟩
      generalize t.getD i []=L at *
      by_cases h2:1≤(L.length:Int)∧(L.length:Int)≤4000
      · rw [decide_eq_true h2] at w1
        (repeat' ((first
 | refine vn rfl ?_
 | simp (disch:=omega) only [wr64,Int.zero_sub]
 | refine bo (fun _=>?_) fun _=>?_
 | refine im fun _=>?_
 | ((repeat refine si ?_); (first | ((first | refine .inl ⟨_,_,_,_,rfl,fun _=>pu w1,?_⟩ | refine ⟨_,_,_,_,rfl,fun _=>pu w1,?_⟩); (first | refine o1 ?_ | refine o2 ?_ | refine o3 ?_ | refine o4 ?_)) | refine .inl ⟨_,_,_,_,rfl,pu w1,?_⟩))
 | refine cF ?_
 | refine om ?_
 | refine an ?_
 | fail) <;> try simp only [zT, zV, zS, zU, vcC, lateX, ex, strp, binA, elems, cells, scalar, eqC, keyA, intsA, lookA, ofVs, mpOf, Nat.reduceBEq, reduceAdd, reduceSub, reduceLT, reduceLeDiff, reduceMul, reduceEqDiff, reduceIte, gtk]))
        all_goals try (exfalso; omega)
        exact ⟨⟨i+1,hlt,fun k hk=>by
          by_cases hki:k=i
          · subst hki; omega
          · exact hI k (by omega)⟩,rfl,by simp only; omega⟩
      · rw [decide_eq_false h2] at w1
        (repeat' ((first
 | refine vn rfl ?_
 | simp (disch:=omega) only [wr64,Int.zero_sub]
 | refine bo (fun _=>?_) fun _=>?_
 | refine im fun _=>?_
 | ((repeat refine si ?_); (first | ((first | refine .inl ⟨_,_,_,_,rfl,fun _=>pu w1,?_⟩ | refine ⟨_,_,_,_,rfl,fun _=>pu w1,?_⟩); (first | refine o1 ?_ | refine o2 ?_ | refine o3 ?_ | refine o4 ?_)) | refine .inl ⟨_,_,_,_,rfl,pu w1,?_⟩))
 | refine cF ?_
 | refine om ?_
 | refine an ?_
 | fail) <;> try simp only [zT, zV, zS, zU, vcC, lateX, ex, strp, binA, elems, cells, scalar, eqC, keyA, intsA, lookA, ofVs, mpOf, Nat.reduceBEq, reduceAdd, reduceSub, reduceLT, reduceLeDiff, reduceMul, reduceEqDiff, reduceIte, gtk]))
        all_goals try (exfalso; omega)
        rw [hno (hbad (by omega))]
        exact Frz.eq rfl (by simp)
    · obtain rfl:i=t.length:=by omega
      (repeat' ((first
 | refine vn rfl ?_
 | simp (disch:=omega) only [wr64,Int.zero_sub]
 | refine bo (fun _=>?_) fun _=>?_
 | refine im fun _=>?_
 | refine cF ?_
 | refine om ?_
 | refine an ?_
 | fail) <;> try simp only [zT,zV,zS,zU,vcC,lateX,ex,strp,binA,elems,cells,scalar,eqC,keyA,intsA,lookA,ofVs,mpOf,Nat.reduceBEq,reduceAdd,reduceSub,reduceLT,reduceLeDiff,reduceMul,reduceEqDiff,reduceIte]))
      all_goals try (exfalso; omega)
      refine AWPC.loopE (α:={ y:Nat × Sto // y.1≤t.length∧∀ k,k < y.1→∀ x∈t.getD k [],nodOk (wd t (k+1)) x }) [4] (fun y=>[(4,n y.1.1)]) (fun y=>y.1.2) (fun y=>t.length - y.1.1) ⟨(0,[]),Nat.zero_le _,by simp⟩ ?_ rfl ?_
      · (simp only [zT,zV,zS,zU,vcC,lateX,ex,strp,binA,elems,cells,scalar,eqC,keyA,intsA,lookA,ofVs,mpOf,Nat.reduceBEq,reduceAdd,reduceSub,reduceLT,reduceLeDiff,reduceMul,reduceEqDiff,reduceIte]; try simp)
      rintro ⟨⟨k,μ⟩,hk,hK⟩
      try simp only at hk hK
      try simp only
      by_cases hlt:k < t.length
      · have htk:t[k]?=some (t.getD k []):=getD_some hlt
        have gtk:(t.map fun l=>[stS l]).getD k []=[stS (t.getD k [])]:=getD_map htk
        have gt1:k+1 < t.length→(t.map fun l=>[stS l]).getD (k+1) []=[stS (t.getD (k+1) [])]:=fun h=>getD_map (getD_some h)
        have hm:=List.mem_of_getElem? htk
        obtain ⟨hL,hL2⟩:=hs.2 _ hm
        have hww:wd t (k+1)=(t.getD (k+1) []).length:=rfl
        have hw4:wd t (k+1)≤4000:=by
          by_cases h:k+1 < t.length
          · exact (hI (k+1) h).2
          · rw [hww,List.getD_eq_getElem?_getD,List.getElem?_eq_none (by omega)]; exact Nat.zero_le _
        have hbad:∀ x∈t.getD k [],¬ nodOk (wd t (k+1)) x→¬ valid t:=fun x hx h v=>h ((valid_stg v hlt).2.2 x hx)
        have hw0:¬ k+1 < t.length→wd t (k+1)=0:=fun h=>by rw [hww,List.getD_eq_getElem?_getD,List.getElem?_eq_none (by omega)]; rfl
        have ek:((k:Int)+1).toNat=k+1:=by omega
        obtain ⟨M,hM⟩:∃ M,M=wd t (k+1):=⟨_,rfl⟩
        rw [← hM] at hw4 hbad hw0
        have hK2:(∀ x∈t.getD k [],nodOk M x)→∀ k',k' < k+1→∀ x∈t.getD k' [],nodOk (wd t (k'+1)) x:=fun h k' hk'=>by
          by_cases e:k'=k
          · subst e; rw [← hM]; exact h
          · exact hK k' (by omega)
        rw [hww] at hM
        generalize hLL:t.getD k []=L at *
        by_cases hk1:k+1 < t.length
        case' pos=>(have g1:=gt1 hk1; (repeat' ((first
 | refine vn rfl ?_
 | simp (disch:=omega) only [wr64,Int.zero_sub]
 | refine bo (fun _=>?_) fun _=>?_
 | refine im fun _=>?_
 | refine cF ?_
 | refine om ?_
 | refine an ?_
 | fail) <;> try simp only [zT, zV, zS, zU, vcC, lateX, ex, strp, binA, elems, cells, scalar, eqC, keyA, intsA, lookA, ofVs, mpOf, Nat.reduceBEq, reduceAdd, reduceSub, reduceLT, reduceLeDiff, reduceMul, reduceEqDiff, reduceIte, gtk, g1, ek])))
        case' neg=>(have hM0:=hw0 hk1; (repeat' ((first
 | refine vn rfl ?_
 | simp (disch:=omega) only [wr64,Int.zero_sub]
 | refine bo (fun _=>?_) fun _=>?_
 | refine im fun _=>?_
 | refine cF ?_
 | refine om ?_
 | refine an ?_
 | fail) <;> try simp only [zT, zV, zS, zU, vcC, lateX, ex, strp, binA, elems, cells, scalar, eqC, keyA, intsA, lookA, ofVs, mpOf, Nat.reduceBEq, reduceAdd, reduceSub, reduceLT, reduceLeDiff, reduceMul, reduceEqDiff, reduceIte, gtk, ek])))
        all_goals try (exfalso; omega)
        all_goals refine AWPC.loopE (α:={ y:Nat × Sto // y.1≤L.length∧∀ x∈L.take y.1,nodOk M x }) [5,6] (fun y=>[(5,n (M:Int)),(6,n y.1.1)]) (fun y=>y.1.2) (fun y=>L.length - y.1.1) ⟨(0,μ),Nat.zero_le _,by simp⟩ (by (simp only [zT,zV,zS,zU,vcC,lateX,ex,strp,binA,elems,cells,scalar,eqC,keyA,intsA,lookA,ofVs,mpOf,Nat.reduceBEq,reduceAdd,reduceSub,reduceLT,reduceLeDiff,reduceMul,reduceEqDiff,reduceIte]; try simp); first | done | omega | (rw [hM,List.getD_eq_getElem?_getD]) | fail) rfl ?_
        all_goals (
          rintro ⟨⟨i,ν⟩,hi,hi2⟩
          try simp only at hi hi2
          try simp only
          by_cases hlt2:i < L.length
          · obtain ⟨x,hx⟩:∃ x,L[i]?=some x:=⟨_,List.getElem?_eq_getElem hlt2⟩
            have hxm:=List.mem_of_getElem? hx
            obtain ⟨x1,x2⟩:=hL2 x hxm
            have hsx:=take_snoc hx
            have c1:=rCheckSet_spec x.al x1
            have c2:=edges_spec x.nx M x2 (by omega)
            have hbx:=hbad x hxm
            by_cases hsm:small x.al
            · rw [tr_1 hsm] at c1
              by_cases he:edgsOk M x.nx
              · rw [tr_1 he] at c2
                simp only [if_true] at c1
                (repeat' ((first
 | refine vn rfl ?_
 | simp (disch:=omega) only [wr64,Int.zero_sub]
 | refine bo (fun _=>?_) fun _=>?_
 | refine im fun _=>?_
 | ((repeat refine si ?_); (first | ((first | refine .inl ⟨_,_,_,_,rfl,fun _=>pu (by first | exact c1 | exact c2),?_⟩ | refine ⟨_,_,_,_,rfl,fun _=>pu (by first | exact c1 | exact c2),?_⟩); (first | refine o1 ?_ | refine o2 ?_ | refine o3 ?_ | refine o4 ?_)) | refine .inl ⟨_,_,_,_,rfl,pu (by first | exact c1 | exact c2),?_⟩))
 | refine cF ?_
 | refine om ?_
 | refine an ?_
 | fail) <;> try simp only [zT, zV, zS, zU, vcC, lateX, ex, strp, binA, elems, cells, scalar, eqC, keyA, intsA, lookA, ofVs, mpOf, Nat.reduceBEq, reduceAdd, reduceSub, reduceLT, reduceLeDiff, reduceMul, reduceEqDiff, reduceIte, gtk, getD_map hx, List.cons_append]))
                all_goals try (exfalso; omega)
                exact ⟨⟨(i+1,ν++[some [⟨80,2,[Nod.cs x],none⟩]]),hlt2,fun y hy=>by
                  rw [hsx] at hy
                  rcases List.mem_append.1 hy with h | h
                  · exact hi2 y h
                  · rw [List.mem_singleton.1 h]; exact ⟨hsm,he.1,he.2⟩⟩,rfl,rfl,by simp only; omega⟩
              · rw [tr_0 he] at c2
                simp only [if_true] at c1
                (repeat' ((first
 | refine vn rfl ?_
 | simp (disch:=omega) only [wr64,Int.zero_sub]
 | refine bo (fun _=>?_) fun _=>?_
 | refine im fun _=>?_
 | ((repeat refine si ?_); (first | ((first | refine .inl ⟨_,_,_,_,rfl,fun _=>pu (by first | exact c1 | exact c2),?_⟩ | refine ⟨_,_,_,_,rfl,fun _=>pu (by first | exact c1 | exact c2),?_⟩); (first | refine o1 ?_ | refine o2 ?_ | refine o3 ?_ | refine o4 ?_)) | refine .inl ⟨_,_,_,_,rfl,pu (by first | exact c1 | exact c2),?_⟩))
 | refine cF ?_
 | refine om ?_
 | refine an ?_
 | fail) <;> try simp only [zT, zV, zS, zU, vcC, lateX, ex, strp, binA, elems, cells, scalar, eqC, keyA, intsA, lookA, ofVs, mpOf, Nat.reduceBEq, reduceAdd, reduceSub, reduceLT, reduceLeDiff, reduceMul, reduceEqDiff, reduceIte, gtk, getD_map hx, List.cons_append]))
                all_goals try (exfalso; omega)
                rw [hno (hbx fun h=>he ⟨h.2.1,h.2.2⟩)]
                exact Frz.eq rfl (by simp)
            · rw [tr_0 hsm] at c1
              simp only [Bool.false_eq_true,if_false] at c1
              (repeat' ((first
 | refine vn rfl ?_
 | simp (disch:=omega) only [wr64,Int.zero_sub]
 | refine bo (fun _=>?_) fun _=>?_
 | refine im fun _=>?_
 | ((repeat refine si ?_); (first | ((first | refine .inl ⟨_,_,_,_,rfl,fun _=>pu (by first | exact c1 | exact c2),?_⟩ | refine ⟨_,_,_,_,rfl,fun _=>pu (by first | exact c1 | exact c2),?_⟩); (first | refine o1 ?_ | refine o2 ?_ | refine o3 ?_ | refine o4 ?_)) | refine .inl ⟨_,_,_,_,rfl,pu (by first | exact c1 | exact c2),?_⟩))
 | refine cF ?_
 | refine om ?_
 | refine an ?_
 | fail) <;> try simp only [zT, zV, zS, zU, vcC, lateX, ex, strp, binA, elems, cells, scalar, eqC, keyA, intsA, lookA, ofVs, mpOf, Nat.reduceBEq, reduceAdd, reduceSub, reduceLT, reduceLeDiff, reduceMul, reduceEqDiff, reduceIte, gtk, getD_map hx, List.cons_append]))
              all_goals try (exfalso; omega)
              rw [hno (hbx fun h=>hsm h.1)]
              exact Frz.eq rfl (by simp)
          · obtain rfl:i=L.length:=by omega
            rw [List.take_length] at hi2
            (repeat' ((first
 | refine vn rfl ?_
 | simp (disch:=omega) only [wr64,Int.zero_sub]
 | refine bo (fun _=>?_) fun _=>?_
 | refine im fun _=>?_
 | refine cF ?_
 | refine om ?_
 | refine an ?_
 | fail) <;> try simp only [zT, zV, zS, zU, vcC, lateX, ex, strp, binA, elems, cells, scalar, eqC, keyA, intsA, lookA, ofVs, mpOf, Nat.reduceBEq, reduceAdd, reduceSub, reduceLT, reduceLeDiff, reduceMul, reduceEqDiff, reduceIte, gtk]))
            all_goals try (exfalso; omega)
            exact ⟨⟨(k+1,ν),hlt,hK2 hi2⟩,rfl,rfl,by simp only; omega⟩)
      · obtain rfl:k=t.length:=by omega
        have hv:valid t:=⟨by omega,by omega,fun k hk=>⟨(hI k hk).1,(hI k hk).2,hK k hk⟩⟩
        rw [hyes hv]
        (repeat' ((first
 | refine vn rfl ?_
 | simp (disch:=omega) only [wr64,Int.zero_sub]
 | refine bo (fun _=>?_) fun _=>?_
 | refine im fun _=>?_
 | refine cF ?_
 | refine om ?_
 | refine an ?_
 | fail) <;> try simp only [zT, zV, zS, zU, vcC, lateX, ex, strp, binA, elems, cells, scalar, eqC, keyA, intsA, lookA, ofVs, mpOf, Nat.reduceBEq, reduceAdd, reduceSub, reduceLT, reduceLeDiff, reduceMul, reduceEqDiff, reduceIte]))
        all_goals try (exfalso; omega)
        exact Frz.eq rfl (by simp)
  · rw [decide_eq_false h0] at w0
    (repeat' ((first
 | refine vn rfl ?_
 | simp (disch:=omega) only [wr64,Int.zero_sub]
 | refine bo (fun _=>?_) fun _=>?_
 | refine im fun _=>?_
 | ((repeat refine si ?_); (first | ((first | refine .inl ⟨_,_,_,_,rfl,fun _=>pu w0,?_⟩ | refine ⟨_,_,_,_,rfl,fun _=>pu w0,?_⟩); (first | refine o1 ?_ | refine o2 ?_ | refine o3 ?_ | refine o4 ?_)) | refine .inl ⟨_,_,_,_,rfl,pu w0,?_⟩))
 | refine cF ?_
 | refine om ?_
 | refine an ?_
 | fail) <;> try simp only [zT,zV,zS,zU,vcC,lateX,ex,strp,binA,elems,cells,scalar,eqC,keyA,intsA,lookA,ofVs,mpOf,Nat.reduceBEq,reduceAdd,reduceSub,reduceLT,reduceLeDiff,reduceMul,reduceEqDiff,reduceIte]))
    all_goals try (exfalso; omega)
    rw [hno fun v=>h0 (by have:=v.1; have:=v.2.1; omega)]
    exact Frz.eq rfl (by simp)
def c85:CF:=⟨32,
 (.seq (.ops [
 ⟨some 2,.box false 24 1 (.t 0),none⟩,
 ⟨some 4,.mv (.c (.slice none 0 0)),none⟩] [1,2])
 (.seq (.ops [
 ⟨some 5,.mv (.c (.slice none 0 0)),none⟩] [1,2,5])
 (.seq (.seq (.ops [
 ⟨some 6,.mv (.c (.int .i64 0)),none⟩] [1,2,5,6])
 (.block 0 (.loop (.seq (.seq (.ops [
 ⟨some 7,.mv (.t 6),none⟩,
 ⟨some 8,.faddr 0 (.t 2),none⟩,
 ⟨some 9,.load none (.t 8),none⟩,
 ⟨some 10,.mv (.t 1),none⟩,
 ⟨some 11,.iaddr 1 (.t 9) (.t 10),none⟩,
 ⟨some 12,.load none (.t 11),none⟩,
 ⟨some 13,.len (.t 12),none⟩,
 ⟨some 14,.bin .lss (.t 7) (.t 13),none⟩] [1,2,5,6,14])
 (.cond (.t 14) .skip
 (.exit 0)))
 (.seq (.block 1 (.ops [
 ⟨some 17,.mv (.t 5),none⟩,
 ⟨some 18,.bsl true 30 2 0 [] [],none⟩,
 ⟨some 19,.faddr 0 (.t 2),none⟩,
 ⟨some 20,.load none (.t 19),none⟩,
 ⟨some 21,.mv (.t 1),none⟩,
 ⟨some 22,.iaddr 1 (.t 20) (.t 21),none⟩,
 ⟨some 23,.load none (.t 22),none⟩,
 ⟨some 24,.mv (.t 6),none⟩,
 ⟨some 25,.iaddr 2 (.t 23) (.t 24),none⟩,
 ⟨some 26,.faddr 0 (.t 25),none⟩,
 ⟨some 27,.load none (.t 26),none⟩,
 ⟨some 28,.app 30 2 16 (.t 18) (.t 27),none⟩,
 ⟨some 29,.bsl false 45 1 1 [.slice none 0 0] [(0,1,(.t 28))],none⟩,
 ⟨some 30,.app 45 1 24 (.t 17) (.t 29),none⟩,
 ⟨some 5,.mv (.t 30),none⟩] [1,2,5,6]))
 (.ops [
 ⟨some 15,.mv (.t 6),none⟩,
 ⟨some 16,.bin .add (.t 15) (.c (.int .i64 1)),none⟩,
 ⟨some 6,.mv (.t 16),none⟩] [1,2,5,6]))))))
 (.seq (.ops [
 ⟨some 31,.mv (.t 5),none⟩,
 ⟨some 4,.mv (.t 31),none⟩] [4])
 .ret)))),
 [.t 4]⟩
def c116:CF:=⟨86,
 (.seq (.ops [
 ⟨some 3,.box false 24 1 (.t 0),none⟩,
 ⟨some 6,.mv (.c (.slice none 0 0)),none⟩] [1,2,3])
 (.seq (.ops [
 ⟨some 11,.faddr 0 (.t 3),none⟩,
 ⟨some 12,.load none (.t 11),none⟩,
 ⟨some 13,.mv (.t 1),none⟩,
 ⟨some 14,.bin .add (.t 13) (.c (.int .i64 1)),none⟩,
 ⟨some 15,.iaddr 1 (.t 12) (.t 14),none⟩,
 ⟨some 16,.load none (.t 15),none⟩,
 ⟨some 17,.len (.t 16),none⟩,
 ⟨some 18,.mksl 45 1 24 [.slice none 0 0] (.t 17) (.t 17),none⟩,
 ⟨some 7,.mv (.t 18),none⟩] [1,2,3,7])
 (.seq (.seq (.ops [
 ⟨some 8,.mv (.c (.int .i64 0)),none⟩] [1,2,3,7,8])
 (.block 0 (.loop (.seq (.seq (.ops [
 ⟨some 19,.mv (.t 8),none⟩,
 ⟨some 20,.faddr 0 (.t 3),none⟩,
 ⟨some 21,.load none (.t 20),none⟩,
 ⟨some 22,.mv (.t 1),none⟩,
 ⟨some 23,.iaddr 1 (.t 21) (.t 22),none⟩,
 ⟨some 24,.load none (.t 23),none⟩,
 ⟨some 25,.len (.t 24),none⟩,
 ⟨some 26,.bin .lss (.t 19) (.t 25),none⟩] [1,2,3,7,8,26])
 (.cond (.t 26) .skip
 (.exit 0)))
 (.seq (.block 1 (.seq (.ops [
 ⟨some 29,.faddr 0 (.t 3),none⟩,
 ⟨some 30,.load none (.t 29),none⟩,
 ⟨some 31,.mv (.t 1),none⟩,
 ⟨some 32,.iaddr 1 (.t 30) (.t 31),none⟩,
 ⟨some 33,.load none (.t 32),none⟩,
 ⟨some 34,.mv (.t 8),none⟩,
 ⟨some 35,.iaddr 2 (.t 33) (.t 34),none⟩,
 ⟨some 36,.faddr 1 (.t 35),none⟩,
 ⟨some 37,.load none (.t 36),none⟩,
 ⟨some 9,.mv (.t 37),none⟩] [1,2,3,7,8,9])
 (.seq (.ops [
 ⟨some 10,.mv (.c (.int .i64 0)),none⟩] [1,2,3,7,8,9,10])
 (.block 2 (.loop (.seq (.seq (.ops [
 ⟨some 38,.mv (.t 10),none⟩,
 ⟨some 39,.mv (.t 9),none⟩,
 ⟨some 40,.len (.t 39),none⟩,
 ⟨some 41,.bin .lss (.t 38) (.t 40),none⟩] [1,2,3,7,8,9,10,41])
 (.cond (.t 41) .skip
 (.exit 2)))
 (.seq (.block 3 (.draw [
 ⟨some 44,.mv (.t 7),none⟩,
 ⟨some 45,.mv (.t 9),none⟩,
 ⟨some 46,.mv (.t 10),none⟩,
 ⟨some 47,.iaddr 3 (.t 45) (.t 46),none⟩,
 ⟨some 48,.faddr 0 (.t 47),none⟩,
 ⟨some 49,.load none (.t 48),none⟩,
 ⟨some 50,.mv (.t 7),none⟩,
 ⟨some 51,.mv (.t 9),none⟩,
 ⟨some 52,.mv (.t 10),none⟩,
 ⟨some 53,.iaddr 3 (.t 51) (.t 52),none⟩,
 ⟨some 54,.faddr 0 (.t 53),none⟩,
 ⟨some 55,.load none (.t 54),none⟩,
 ⟨some 56,.iaddr 1 (.t 50) (.t 55),none⟩,
 ⟨some 57,.load none (.t 56),none⟩,
 ⟨some 58,.faddr 0 (.t 3),none⟩,
 ⟨some 59,.load none (.t 58),none⟩,
 ⟨some 60,.mv (.t 1),none⟩,
 ⟨some 61,.bin .add (.t 60) (.c (.int .i64 1)),none⟩,
 ⟨some 62,.iaddr 1 (.t 59) (.t 61),none⟩,
 ⟨some 63,.load none (.t 62),none⟩,
 ⟨some 64,.mv (.t 9),none⟩,
 ⟨some 65,.mv (.t 10),none⟩,
 ⟨some 66,.iaddr 3 (.t 64) (.t 65),none⟩,
 ⟨some 67,.faddr 0 (.t 66),none⟩,
 ⟨some 68,.load none (.t 67),none⟩,
 ⟨some 69,.iaddr 2 (.t 63) (.t 68),none⟩,
 ⟨some 70,.faddr 0 (.t 69),none⟩,
 ⟨some 71,.load none (.t 70),none⟩,
 ⟨some 72,.mv (.t 2),none⟩,
 ⟨some 73,.mv (.t 8),none⟩,
 ⟨some 74,.iaddr 1 (.t 72) (.t 73),none⟩,
 ⟨some 75,.load none (.t 74),none⟩,
 ⟨some 76,.mv (.t 9),none⟩,
 ⟨some 77,.mv (.t 10),none⟩,
 ⟨some 78,.iaddr 3 (.t 76) (.t 77),none⟩,
 ⟨some 79,.faddr 1 (.t 78),none⟩,
 ⟨some 80,.load (some 2) (.t 79),none⟩,
 ⟨some 81,.call (.f 155) [(.t 75),(.t 80)],none⟩,
 ⟨some 82,.call (.f 127) [(.t 71),(.t 81)],none⟩,
 ⟨some 83,.call (.f 126) [(.t 57),(.t 82)],none⟩,
 ⟨some 84,.iaddr 1 (.t 44) (.t 49),none⟩] [
 ⟨none,.store 1 (.t 84) (.t 83),none⟩] [1,2,3,7,8,9,10]))
 (.ops [
 ⟨some 42,.mv (.t 10),none⟩,
 ⟨some 43,.bin .add (.t 42) (.c (.int .i64 1)),none⟩,
 ⟨some 10,.mv (.t 43),none⟩] [1,2,3,7,8,9,10]))))))))
 (.ops [
 ⟨some 27,.mv (.t 8),none⟩,
 ⟨some 28,.bin .add (.t 27) (.c (.int .i64 1)),none⟩,
 ⟨some 8,.mv (.t 28),none⟩] [1,2,3,7,8]))))))
 (.seq (.ops [
 ⟨some 85,.mv (.t 7),none⟩,
 ⟨some 6,.mv (.t 85),none⟩] [6])
 .ret)))),
 [.t 6]⟩
theorem k85:chkF Tryz.prog Tryz.f85 c85=true:=by kernel_rfl
theorem k116:chkF Tryz.prog Tryz.f116 c116=true:=by kernel_rfl
theorem allowed_spec (t:Trk) (k:Nat) (hv:valid t) (hk:k < t.length):Pure Tryz.prog 85 [trS t,n k] (nodS (als t k)):=by
  refine Pure.of_body Tryz.call85 Tryz.func85 k85 (Nat.le_of_ble_eq_true rfl) ?_
  unfold c85
  have h2:=hv.2.1
  have htk:t[k]?=some (t.getD k []):=getD_some hk
  have gtk:(t.map fun l=>[stS l]).getD k []=[stS (t.getD k [])]:=getD_map htk
  obtain ⟨v1,v2,v3⟩:=valid_stg hv hk
  have hww:als t k=(t.getD k []).map (·.al):=rfl
  rw [hww]
  generalize t.getD k []=L at *
  ((first
 | refine vn rfl ?_
 | simp (disch:=omega) only [wr64,Int.zero_sub]
 | refine bo (fun _=>?_) fun _=>?_
 | refine im fun _=>?_
 | refine cF ?_
 | refine om ?_
 | refine an ?_
 | fail) <;> try simp only [zT,zV,zS,zU,vcC,lateX,ex,strp,binA,elems,cells,scalar,eqC,keyA,intsA,lookA,ofVs,mpOf,Nat.reduceBEq,reduceAdd,reduceSub,reduceLT,reduceLeDiff,reduceMul,reduceEqDiff,reduceIte])
  ((first
 | refine vn rfl ?_
 | simp (disch:=omega) only [wr64,Int.zero_sub]
 | refine bo (fun _=>?_) fun _=>?_
 | refine im fun _=>?_
 | refine cF ?_
 | refine om ?_
 | refine an ?_
 | fail) <;> try simp only [zT,zV,zS,zU,vcC,lateX,ex,strp,binA,elems,cells,scalar,eqC,keyA,intsA,lookA,ofVs,mpOf,Nat.reduceBEq,reduceAdd,reduceSub,reduceLT,reduceLeDiff,reduceMul,reduceEqDiff,reduceIte])
  ((first
 | refine vn rfl ?_
 | simp (disch:=omega) only [wr64,Int.zero_sub]
 | refine bo (fun _=>?_) fun _=>?_
 | refine im fun _=>?_
 | refine cF ?_
 | refine om ?_
 | refine an ?_
 | fail) <;> try simp only [zT,zV,zS,zU,vcC,lateX,ex,strp,binA,elems,cells,scalar,eqC,keyA,intsA,lookA,ofVs,mpOf,Nat.reduceBEq,reduceAdd,reduceSub,reduceLT,reduceLeDiff,reduceMul,reduceEqDiff,reduceIte])
  ((first
 | refine vn rfl ?_
 | simp (disch:=omega) only [wr64,Int.zero_sub]
 | refine bo (fun _=>?_) fun _=>?_
 | refine im fun _=>?_
 | refine cF ?_
 | refine om ?_
 | refine an ?_
 | fail) <;> try simp only [zT,zV,zS,zU,vcC,lateX,ex,strp,binA,elems,cells,scalar,eqC,keyA,intsA,lookA,ofVs,mpOf,Nat.reduceBEq,reduceAdd,reduceSub,reduceLT,reduceLeDiff,reduceMul,reduceEqDiff,reduceIte])
  refine AWPC.own0 45 1 5 rfl ?_
  refine AWPC.loopE (α:={ y:Nat // y≤L.length }) [5,6] (fun y=>[(5,.own 0 0 y.1),(6,n y.1)]) (fun y=>some [⟨45,1,(List.range y.1).map fun j=>[.own (j+1) 0 (L.getD j ⟨[],[]⟩).al.length],none⟩]::(L.take y.1).map fun x=>some [spO x.al]) (fun y=>L.length - y.1) ⟨0,Nat.zero_le _⟩ ?_ rfl ?_
  · (simp only [zT,zV,zS,zU,vcC,lateX,ex,strp,binA,elems,cells,scalar,eqC,keyA,intsA,lookA,ofVs,mpOf,Nat.reduceBEq,reduceAdd,reduceSub,reduceLT,reduceLeDiff,reduceMul,reduceEqDiff,reduceIte]; try simp)
  rintro ⟨i,hi⟩
  try simp only at hi
  try simp only
  by_cases hlt:i < L.length
  · obtain ⟨x,hx⟩:∃ x,L[i]?=some x:=⟨_,List.getElem?_eq_getElem hlt⟩
    have hxl:=(v3 x (List.mem_of_getElem? hx)).1.1
    have hsn:=take_snoc hx
    have hgd:L.getD i ⟨[],[]⟩=x:=by rw [List.getD_eq_getElem?_getD,hx]; rfl
    obtain ⟨τ,hτ⟩:∃ τ:Sto,τ=(L.take i).map fun x=>some [spO x.al]:=⟨_,rfl⟩
    have hτl:List.length τ=i:=by rw [hτ,List.length_map,List.length_take]; omega
    rw [← hτ]
    obtain ⟨E,hE⟩:∃ E:List (List AV),E=(List.range i).map fun j=>[.own (j+1) 0 (L.getD j ⟨[],[]⟩).al.length]:=⟨_,rfl⟩
    have hEl:E.length=i:=by rw [hE]; simp
    rw [← hE]
    have ro:=rows_ok x.al
    (repeat' ((first
 | refine vn rfl ?_
 | simp (disch:=omega) only [wr64,Int.zero_sub]
 | refine bo (fun _=>?_) fun _=>?_
 | refine im fun _=>?_
 | refine cF ?_
 | refine om ?_
 | refine an ?_
 | fail) <;> try simp only [zT,zV,zS,zU,vcC,lateX,ex,strp,binA,elems,cells,scalar,eqC,keyA,intsA,lookA,ofVs,mpOf,Nat.reduceBEq,reduceAdd,reduceSub,reduceLT,reduceLeDiff,reduceMul,reduceEqDiff,reduceIte,gtk,getD_map hx,hEl]))
    all_goals try (exfalso; omega)
    refine ⟨⟨ro,by omega⟩,by omega,?_⟩
    (repeat' ((first
 | refine vn rfl ?_
 | simp (disch:=omega) only [wr64,Int.zero_sub]
 | refine bo (fun _=>?_) fun _=>?_
 | refine im fun _=>?_
 | refine cF ?_
 | refine om ?_
 | refine an ?_
 | fail) <;> try simp only [zT,zV,zS,zU,vcC,lateX,ex,strp,binA,elems,cells,scalar,eqC,keyA,intsA,lookA,ofVs,mpOf,Nat.reduceBEq,reduceAdd,reduceSub,reduceLT,reduceLeDiff,reduceMul,reduceEqDiff,reduceIte]))
    all_goals try (exfalso; omega)
    exact ⟨⟨i+1,hlt⟩,⟨rfl,rfl⟩,by simp only; rw [hsn,List.range_succ,List.map_append,List.map_append,← hτ,← hE,hτl]; simp only [List.map_cons,List.map_nil,hgd]; (try rfl),by simp only; omega⟩
  · obtain rfl:i=L.length:=by omega
    rw [List.take_length]
    (repeat' ((first
 | refine vn rfl ?_
 | simp (disch:=omega) only [wr64,Int.zero_sub]
 | refine bo (fun _=>?_) fun _=>?_
 | refine im fun _=>?_
 | refine cF ?_
 | refine om ?_
 | refine an ?_
 | fail) <;> try simp only [zT,zV,zS,zU,vcC,lateX,ex,strp,binA,elems,cells,scalar,eqC,keyA,intsA,lookA,ofVs,mpOf,Nat.reduceBEq,reduceAdd,reduceSub,reduceLT,reduceLeDiff,reduceMul,reduceEqDiff,reduceIte,gtk]))
    all_goals try (exfalso; omega)
    refine Frz.own (σ:=some [⟨45,1,(List.range L.length).map fun j=>[.own (j+1) 0 (L.getD j ⟨[],[]⟩).al.length],none⟩]::L.map fun x=>some [spO x.al]) (f:=0) (i:=0) (n:=L.length) (o:=⟨45,1,(List.range L.length).map fun j=>[.own (j+1) 0 (L.getD j ⟨[],[]⟩).al.length],none⟩) (es:=(L.map (·.al)).map fun l=>[spS l]) (show (1:Nat)≠0 by decide) rfl (by simp) (by simp) (fun e j he hj=>?_) fun e he=>?_
    · obtain rfl:j=0:=by simp only at hj; omega
      have hx:=getD_some (l:=L) (d:=⟨[],[]⟩) he
      have hx2:(L.map (·.al))[e]?=some (L.getD e ⟨[],[]⟩).al:=by rw [List.getElem?_map,hx]; rfl
      rw [getD_map hx2,range_get _ he]
      refine frz_sp ?_
      rw [at_consS]
      unfold Sto.at
      rw [List.getElem?_map,hx]; rfl
    · have hx:=getD_some (l:=L) (d:=⟨[],[]⟩) he
      have hx2:(L.map (·.al))[e]?=some (L.getD e ⟨[],[]⟩).al:=by rw [List.getElem?_map,hx]; rfl
      rw [getD_map hx2]; rfl
def onR1 (cur al:List (List Sp)) (j:Nat) (acc:List Sp) (h:Hop):List Sp:=if h.to=j then joins acc (meet (al.getD j []) (joins [] (Abs.wide (cur.getD h.fr []) h.ch))) else acc
def onR (cur al:List (List Sp)) (hs:List Hop) (j:Nat):List Sp:=hs.foldl (onR1 cur al j) []
theorem onR_snoc (cur al:List (List Sp)) (hs:List Hop) (h:Hop) (j:Nat):onR cur al (hs++[h]) j=onR1 cur al j (onR cur al hs j) h:=by unfold onR; rw [List.foldl_append]; rfl
theorem wideJ_ok {l:List Sp} {c:Sp} (hl:good l) (hc:chOk c):OKs (joins [] (Abs.wide l c)):=joins_ok (wide_bdd hl.2 hc) OKs.nil
theorem onR_laws {cur al:List (List Sp)} (hc:goods cur):∀ {hs:List Hop},(∀ h∈hs,chOk h.ch)→∀ (j:Nat) (acc:List Sp),OKs acc →
    OKs (hs.foldl (onR1 cur al j) acc)∧∀ v,Mem v (hs.foldl (onR1 cur al j) acc)↔Mem v acc∨(Mem v (into hs cur j)∧Mem v (al.getD j []))
  | [],_,j,acc,ha=>⟨ha,fun v=>by simp [into,Mem.nil]⟩
  | h::hs,hh,j,acc,ha=>by
    have hch:=hh h List.mem_cons_self
    have hW:=wideJ_ok (goods_get hc h.fr) hch
    have ha':OKs (onR1 cur al j acc h):=by
      unfold onR1
      split
      · exact joins_ok (meet_ok hW.bd).bd ha
      · exact ha
    obtain ⟨i1,i2⟩:=onR_laws hc (fun g hg=>hh g (List.mem_cons_of_mem _ hg)) j _ ha'
    refine ⟨i1,fun v=>?_⟩
    rw [List.foldl_cons,i2]
    have e:into (h::hs) cur j=hop1 cur j h++into hs cur j:=rfl
    rw [e,mem_append]
    unfold onR1 hop1
    by_cases hj:h.to=j
    · rw [if_pos hj,if_pos hj,joins_mem ha.nm,meet_mem,joins0_mem]
      constructor
      · rintro ((a | ⟨a,b⟩) | ⟨a,b⟩)
        · exact .inl a
        · exact .inr ⟨.inl b,a⟩
        · exact .inr ⟨.inr a,b⟩
      · rintro (a | ⟨a | a,b⟩)
        · exact .inl (.inl a)
        · exact .inl (.inr ⟨b,a⟩)
        · exact .inr ⟨a,b⟩
    · rw [if_neg hj,if_neg hj]
      simp [Mem.nil]
theorem onR_ok {cur al:List (List Sp)} (hc:goods cur) {hs:List Hop} (hh:∀ h∈hs,chOk h.ch) (j:Nat):OKs (onR cur al hs j):=(onR_laws hc hh j [] OKs.nil).1
theorem onR_onto {cur al:List (List Sp)} (hc:goods cur) {hs:List Hop} (hh:∀ h∈hs,chOk h.ch) (j:Nat):onR cur al hs j=onto1 hs cur al j:=by
  obtain ⟨h1,h2⟩:=onR_laws (al:=al) hc hh j [] OKs.nil
  refine Norm.ext h1.nm (meet_norm _ _) fun v=>?_
  show Mem v (hs.foldl (onR1 cur al j) [])↔_
  rw [h2,onto1,meet_mem,joins0_mem]
  exact ⟨fun h=>h.resolve_left Mem.nil,.inr⟩
theorem hopsF_take:∀ (l:List Nod) (a i:Nat) (x:Nod),l[i]?=some x→hopsF a (l.take (i+1))=hopsF a (l.take i)++hopsOf (a+i) x
  | [],_,_,_,h=>by simp at h
  | y::r,a,0,x,h=>by simp at h; subst h; simp [hopsF]
  | y::r,a,i+1,x,h=>by
    have:=hopsF_take r (a+1) i x (by simpa using h)
    rw [List.take_succ_cons,hopsF,this,show a+1+i=a+(i+1) by omega,← List.append_assoc]; rfl
def hopsP (l:List Nod) (i:Nat) (es:List Edg):List Hop:=hopsF 0 (l.take i)++es.map fun e=>⟨i,e.to.toNat,e.ch⟩
theorem hopsP_snoc (l:List Nod) (i:Nat) {es:List Edg} {y:Nat} {e:Edg} (h:es[y]?=some e):hopsP l i (es.take (y+1))=hopsP l i (es.take y)++[⟨i,e.to.toNat,e.ch⟩]:=by
  unfold hopsP; rw [take_snoc h,List.map_append,List.append_assoc]; rfl
theorem hopsP_full {l:List Nod} {i:Nat} {x:Nod} (h:l[i]?=some x):hopsP l i x.nx=hopsF 0 (l.take (i+1)):=by
  rw [hopsF_take l 0 i x h,Nat.zero_add]; rfl
theorem hopsF_ch {l:List Nod} (hl:∀ x∈l,∀ e∈x.nx,chOk e.ch) (a:Nat):∀ h∈hopsF a l,chOk h.ch:=fun h hh=>by
  obtain ⟨k,x,e,hx,he,rfl⟩:=hopsF_mem.1 hh
  exact hl x (List.mem_of_getElem? hx) e he
theorem hopsP_ch {l:List Nod} (hl:∀ x∈l,∀ e∈x.nx,chOk e.ch) (i:Nat) {es:List Edg} (he:∀ e∈es,chOk e.ch):∀ h∈hopsP l i es,chOk h.ch:=fun h hh=>by
  rcases List.mem_append.1 hh with hh | hh
  · exact hopsF_ch (fun x hx=>hl x (List.mem_of_mem_take hx)) 0 h hh
  · obtain ⟨e,hem,rfl⟩:=List.mem_map.1 hh
    exact he e hem
def rowsR (cur al:List (List Sp)) (N:Nat) (hs:List Hop):List (List AV):=(List.range N).map fun j=>[spS (onR cur al hs j)]
theorem rowsR_get {cur al:List (List Sp)} {N:Nat} {hs:List Hop} {j:Nat} (h:j < N):(rowsR cur al N hs).getD j []=[spS (onR cur al hs j)]:=range_get _ h
theorem rowsR_len {cur al:List (List Sp)} {N:Nat} {hs:List Hop}:(rowsR cur al N hs).length=N:=by simp [rowsR]
theorem rowsR_set {cur al:List (List Sp)} {N:Nat} {hs:List Hop} (h:Hop):(rowsR cur al N hs).set h.to [spS (joins (onR cur al hs h.to) (meet (al.getD h.to []) (joins [] (Abs.wide (cur.getD h.fr []) h.ch))))]=rowsR cur al N (hs++[h]):=by
  unfold rowsR
  rw [range_set]
  refine range_congr fun j hj=>?_
  rw [onR_snoc,onR1]
  by_cases hjc:j=h.to
  · subst hjc; rw [if_pos rfl,if_pos rfl]
  · rw [if_neg hjc,if_neg fun e=>hjc e.symm]
theorem frz_nodO' {σ:Sto} {f m:Nat} {x:List (List Sp)} (h:σ.at f 0=some ⟨45,1,x.map (fun l=>[spS l]),none⟩) (hm:m=x.length):Frz σ (.own f 0 m) (nodS x):=hm ▸ frz_nodO h
theorem onward_spec (t:Trk) (k:Nat) (cur:List (List Sp)) (hv:valid t) (hk:k+1 < t.length) (hl:cur.length=wd t k) (hc:goods cur) :
    Pure Tryz.prog 116 [trS t,n k,nodS cur] (nodS (onto (stp t k) cur (als t (k+1)))):=by
  refine Pure.of_body Tryz.call116 Tryz.func116 k116 (Nat.le_of_ble_eq_true rfl) ?_
  unfold c116
  have h2:=hv.2.1
  have gtk:(t.map fun l=>[stS l]).getD k []=[stS (t.getD k [])]:=getD_map (getD_some (by omega))
  have gtk1:(t.map fun l=>[stS l]).getD (k+1) []=[stS (t.getD (k+1) [])]:=getD_map (getD_some hk)
  have ek:((k:Int)+1).toNat=k+1:=by omega
  obtain ⟨v1,v2,v3⟩:=valid_stg hv (show k < t.length by omega)
  obtain ⟨w1,w2,w3⟩:=valid_stg hv hk
  have hwk:wd t (k+1)=(t.getD (k+1) []).length:=rfl
  have hwk0:wd t k=(t.getD k []).length:=rfl
  have hal:als t (k+1)=(t.getD (k+1) []).map (·.al):=rfl
  have hst:stp t k=hopsF 0 (t.getD k []):=rfl
  rw [hal,hst]
  rw [hwk0] at hl
  rw [hwk] at v3
  generalize t.getD k []=L at *
  generalize t.getD (k+1) []=L2 at *
  have hch:∀ x∈L,∀ e∈x.nx,chOk e.ch:=fun x hx e he=>((v3 x hx).2.2 e he).2.2
  (repeat' ((first
 | refine vn rfl ?_
 | simp (disch:=omega) only [wr64,Int.zero_sub]
 | refine bo (fun _=>?_) fun _=>?_
 | refine im fun _=>?_
 | refine cF ?_
 | refine om ?_
 | refine an ?_
 | fail) <;> try simp only [zT,zV,zS,zU,vcC,lateX,ex,strp,binA,elems,cells,scalar,eqC,keyA,intsA,lookA,ofVs,mpOf,Nat.reduceBEq,reduceAdd,reduceSub,reduceLT,reduceLeDiff,reduceMul,reduceEqDiff,reduceIte,gtk,gtk1,ek]))
  all_goals try (exfalso; omega)
  refine AWPC.weakO (f:=0) (i:=0) (o:=⟨45,1,List.replicate L2.length [.v (.slice none 0 0)],none⟩) (o':=⟨45,1,rowsR cur (L2.map (·.al)) L2.length [],none⟩) rfl rfl rfl rfl rfl (by simp [rowsR_len]) (fun e he=>?_) (fun e j he hj=>?_) ?_
  · rw [rowsR_get (by simpa using he)]; rfl
  · simp only [List.length_replicate] at he
    obtain rfl:j=0:=by simp only at hj; omega
    intro w X β σ x hx
    rw [rowsR_get he]
    simp only [List.getD_eq_getElem?_getD,List.getElem?_replicate,if_pos he] at hx
    exact hx.nil
  simp only [zT,zV,zS,zU,vcC,lateX,ex,strp,binA,elems,cells,scalar,eqC,keyA,intsA,lookA,ofVs,mpOf,Nat.reduceBEq,reduceAdd,reduceSub,reduceLT,reduceLeDiff,reduceMul,reduceEqDiff,reduceIte]
  refine AWPC.loopE (α:={ y:Nat // y≤L.length }) [8] (fun y=>[(8,n y.1)]) (fun y=>[some [⟨45,1,rowsR cur (L2.map (·.al)) L2.length (hopsF 0 (L.take y.1)),none⟩]]) (fun y=>L.length - y.1) ⟨0,Nat.zero_le _⟩ ?_ ?_ ?_
  · (simp only [zT,zV,zS,zU,vcC,lateX,ex,strp,binA,elems,cells,scalar,eqC,keyA,intsA,lookA,ofVs,mpOf,Nat.reduceBEq,reduceAdd,reduceSub,reduceLT,reduceLeDiff,reduceMul,reduceEqDiff,reduceIte]; try simp)
  · rfl
  rintro ⟨i,hi⟩
  try simp only at hi
  try simp only
  by_cases hlt:i < L.length
  · obtain ⟨x,hx⟩:∃ x,L[i]?=some x:=⟨_,List.getElem?_eq_getElem hlt⟩
    have hxm:=List.mem_of_getElem? hx
    obtain ⟨x1,x2,x3⟩:=v3 x hxm
    have gcur:(cur.map fun l=>[spS l]).getD i []=[spS (cur.getD i [])]:=getD_map (getD_some (by omega))
    have gci:=goods_get hc i
    (repeat' ((first
 | refine vn rfl ?_
 | simp (disch:=omega) only [wr64,Int.zero_sub]
 | refine bo (fun _=>?_) fun _=>?_
 | refine im fun _=>?_
 | refine cF ?_
 | refine om ?_
 | refine an ?_
 | fail) <;> try simp only [zT,zV,zS,zU,vcC,lateX,ex,strp,binA,elems,cells,scalar,eqC,keyA,intsA,lookA,ofVs,mpOf,Nat.reduceBEq,reduceAdd,reduceSub,reduceLT,reduceLeDiff,reduceMul,reduceEqDiff,reduceIte,gtk,getD_map hx]))
    all_goals try (exfalso; omega)
    refine AWPC.loopE (α:={ y:Nat // y≤x.nx.length }) [10] (fun y=>[(10,n y.1)]) (fun y=>[some [⟨45,1,rowsR cur (L2.map (·.al)) L2.length (hopsP L i (x.nx.take y.1)),none⟩]]) (fun y=>x.nx.length - y.1) ⟨0,Nat.zero_le _⟩ ?_ ?_ ?_
    · (simp only [zT,zV,zS,zU,vcC,lateX,ex,strp,binA,elems,cells,scalar,eqC,keyA,intsA,lookA,ofVs,mpOf,Nat.reduceBEq,reduceAdd,reduceSub,reduceLT,reduceLeDiff,reduceMul,reduceEqDiff,reduceIte]; try simp)
    · simp [hopsP]
    rintro ⟨y,hy⟩
    try simp only at hy
    try simp only
    by_cases hlt2:y < x.nx.length
    · obtain ⟨e,he⟩:∃ e,x.nx[y]?=some e:=⟨_,List.getElem?_eq_getElem hlt2⟩
      have hem:=List.mem_of_getElem? he
      obtain ⟨e1,e2,e3⟩:=x3 e hem
      have hcN:e.to.toNat < L2.length:=by omega
      have gL2:(L2.map Nod.cs).getD e.to.toNat []=Nod.cs (L2.getD e.to.toNat ⟨[],[]⟩):=getD_map (getD_some hcN)
      have gal:(L2.map (·.al)).getD e.to.toNat []=(L2.getD e.to.toNat ⟨[],[]⟩).al:=getD_map (getD_some (d:=⟨[],[]⟩) hcN)
      have gga:good (L2.getD e.to.toNat ⟨[],[]⟩).al:=(w3 _ (List.mem_of_getElem? (getD_some (d:=⟨[],[]⟩) hcN))).1.2
      have hops:=hopsP_snoc L i he
      have hpc:∀ h∈hopsP L i (x.nx.take y),chOk h.ch:=hopsP_ch hch i fun f hf=>hch x hxm f (List.mem_of_mem_take hf)
      have hgR:=rowsR_get (cur:=cur) (al:=L2.map (·.al)) (hs:=hopsP L i (x.nx.take y)) hcN
      have hset:=rowsR_set (cur:=cur) (al:=L2.map (·.al)) (N:=L2.length) (hs:=hopsP L i (x.nx.take y)) ⟨i,e.to.toNat,e.ch⟩
      try simp only at hset
      rw [gal,← hops] at hset
      have hRl:=rowsR_len (cur:=cur) (al:=L2.map (·.al)) (N:=L2.length) (hs:=hopsP L i (x.nx.take y))
      have hR:=onR_ok (al:=L2.map (·.al)) hc hpc e.to.toNat
      have hW:=wideJ_ok gci e3
      have hwi:=wide_spec (cur.getD i []) e.ch gci e3
      have hme:=meetR_spec (L2.getD e.to.toNat ⟨[],[]⟩).al (joins [] (Abs.wide (cur.getD i []) e.ch)) (good_ok gga).bd hW.bd (by have:=good_len gga; omega) (by have:=hW.len; omega)
      have hM:=meet_ok (a:=(L2.getD e.to.toNat ⟨[],[]⟩).al) hW.bd
      have hun:=union_spec _ _ hR hM.bd hM.nm.ne (by have:=hM.len; omega)
      generalize onR cur (L2.map (·.al)) (hopsP L i (x.nx.take y)) e.to.toNat=Q at *
      generalize rowsR cur (L2.map (·.al)) L2.length (hopsP L i (x.nx.take y))=E at *
      generalize (L2.getD e.to.toNat ⟨[],[]⟩)=x' at *
      (repeat' ((first
 | refine vn rfl ?_
 | simp (disch:=omega) only [wr64,Int.zero_sub]
 | refine bo (fun _=>?_) fun _=>?_
 | refine im fun _=>?_
 | ((repeat refine si ?_); (first | ((first | refine .inl ⟨_,_,_,_,rfl,fun _=>pu (by first | exact hwi | exact hme | exact hun),?_⟩ | refine ⟨_,_,_,_,rfl,fun _=>pu (by first | exact hwi | exact hme | exact hun),?_⟩); (first | refine o1 ?_ | refine o2 ?_ | refine o3 ?_ | refine o4 ?_)) | refine .inl ⟨_,_,_,_,rfl,pu (by first | exact hwi | exact hme | exact hun),?_⟩))
 | refine cF ?_
 | refine om ?_
 | refine an ?_
 | fail) <;> try simp only [zT,zV,zS,zU,vcC,lateX,ex,strp,binA,elems,cells,scalar,eqC,keyA,intsA,lookA,ofVs,mpOf,Nat.reduceBEq,reduceAdd,reduceSub,reduceLT,reduceLeDiff,reduceMul,reduceEqDiff,reduceIte,gtk,gtk1,ek,getD_map hx,getD_map he,gL2,gcur,hgR,hRl]))
      all_goals try (exfalso; omega)
      exact ⟨⟨y+1,hlt2⟩,rfl,congrArg (fun z=>[some [(⟨45,1,z,none⟩:Ob)]]) hset,by simp only; omega⟩
    · obtain rfl:y=x.nx.length:=by omega
      rw [List.take_length,hopsP_full hx]
      (repeat' ((first
 | refine vn rfl ?_
 | simp (disch:=omega) only [wr64,Int.zero_sub]
 | refine bo (fun _=>?_) fun _=>?_
 | refine im fun _=>?_
 | refine cF ?_
 | refine om ?_
 | refine an ?_
 | fail) <;> try simp only [zT,zV,zS,zU,vcC,lateX,ex,strp,binA,elems,cells,scalar,eqC,keyA,intsA,lookA,ofVs,mpOf,Nat.reduceBEq,reduceAdd,reduceSub,reduceLT,reduceLeDiff,reduceMul,reduceEqDiff,reduceIte]))
      all_goals try (exfalso; omega)
      exact ⟨⟨i+1,hlt⟩,rfl,rfl,by simp only; omega⟩
  · obtain rfl:i=L.length:=by omega
    rw [List.take_length]
    (repeat' ((first
 | refine vn rfl ?_
 | simp (disch:=omega) only [wr64,Int.zero_sub]
 | refine bo (fun _=>?_) fun _=>?_
 | refine im fun _=>?_
 | refine cF ?_
 | refine om ?_
 | refine an ?_
 | fail) <;> try simp only [zT,zV,zS,zU,vcC,lateX,ex,strp,binA,elems,cells,scalar,eqC,keyA,intsA,lookA,ofVs,mpOf,Nat.reduceBEq,reduceAdd,reduceSub,reduceLT,reduceLeDiff,reduceMul,reduceEqDiff,reduceIte,gtk]))
    all_goals try (exfalso; omega)
    have hfin:rowsR cur (L2.map (·.al)) L2.length (hopsF 0 L)=(onto (hopsF 0 L) cur (L2.map (·.al))).map fun l=>[spS l]:=by
      unfold rowsR onto
      rw [List.map_map,List.length_map]
      exact range_congr fun j _=>by rw [onR_onto hc (hopsF_ch hch 0)]; rfl
    rw [hfin]
    exact frz_nodO' rfl (by simp [onto])
def c84:CF:=⟨28,
 (.seq (.ops [
 ⟨some 2,.box false 24 1 (.t 0),none⟩,
 ⟨some 4,.mv (.c (.slice none 0 0)),none⟩] [1,2])
 (.seq (.ops [
 ⟨some 7,.mv (.t 1),none⟩,
 ⟨some 8,.bsl true 61 1 1 [.slice none 0 0] [(0,1,(.t 7))],none⟩,
 ⟨some 5,.mv (.t 8),none⟩] [2,5])
 (.seq (.seq (.ops [
 ⟨some 6,.mv (.c (.int .i64 0)),none⟩] [2,5,6])
 (.block 0 (.loop (.seq (.seq (.ops [
 ⟨some 9,.mv (.t 6),none⟩,
 ⟨some 10,.bin .add (.t 9) (.c (.int .i64 1)),none⟩,
 ⟨some 11,.faddr 0 (.t 2),none⟩,
 ⟨some 12,.load none (.t 11),none⟩,
 ⟨some 13,.len (.t 12),none⟩,
 ⟨some 14,.bin .lss (.t 10) (.t 13),none⟩] [2,5,6,14])
 (.cond (.t 14) .skip
 (.exit 0)))
 (.seq (.block 1 (.draw [
 ⟨some 17,.mv (.t 5),none⟩,
 ⟨some 18,.load (some 1) (.t 2),none⟩,
 ⟨some 19,.mv (.t 6),none⟩,
 ⟨some 20,.mv (.t 5),none⟩,
 ⟨some 21,.mv (.t 6),none⟩,
 ⟨some 22,.iaddr 1 (.t 20) (.t 21),none⟩,
 ⟨some 23,.load none (.t 22),none⟩,
 ⟨some 24,.call (.f 116) [(.t 18),(.t 19),(.t 23)],none⟩,
 ⟨some 25,.bsl false 61 1 1 [.slice none 0 0] [(0,1,(.t 24))],none⟩] [
 ⟨some 26,.app 61 1 24 (.t 17) (.t 25),none⟩,
 ⟨some 5,.mv (.t 26),none⟩] [2,5,6]))
 (.ops [
 ⟨some 15,.mv (.t 6),none⟩,
 ⟨some 16,.bin .add (.t 15) (.c (.int .i64 1)),none⟩,
 ⟨some 6,.mv (.t 16),none⟩] [2,5,6]))))))
 (.seq (.ops [
 ⟨some 27,.mv (.t 5),none⟩,
 ⟨some 4,.mv (.t 27),none⟩] [4])
 .ret)))),
 [.t 4]⟩
def c31:CF:=⟨14,
 (.seq (.ops [
 ⟨some 1,.box false 24 1 (.t 0),none⟩,
 ⟨some 2,.mv (.c (.slice none 0 0)),none⟩,
 ⟨some 3,.mv (.c (.int .i64 0)),none⟩] [1])
 (.seq (.ops [
 ⟨some 5,.load (some 1) (.t 1),none⟩,
 ⟨some 6,.call (.f 58) [(.t 5)],none⟩,
 ⟨some 4,.mv (.t 6),none⟩] [1,4])
 (.seq (.seq (.ops [
 ⟨some 7,.mv (.t 4),none⟩,
 ⟨some 8,.bin .neq (.t 7) (.c (.int .i64 0)),none⟩] [1,4,8])
 (.cond (.t 8) (.seq (.ops [
 ⟨some 9,.mv (.t 4),none⟩,
 ⟨some 2,.mv (.c (.slice none 0 0)),none⟩,
 ⟨some 3,.mv (.t 9),none⟩] [2,3])
 .ret)
 .skip))
 (.seq (.draw [
 ⟨some 10,.load (some 1) (.t 1),none⟩,
 ⟨some 11,.load (some 1) (.t 1),none⟩,
 ⟨some 12,.call (.f 85) [(.t 11),(.c (.int .i64 0))],none⟩,
 ⟨some 13,.call (.f 84) [(.t 10),(.t 12)],none⟩,
 ⟨some 2,.mv (.t 13),none⟩,
 ⟨some 3,.mv (.c (.int .i64 0)),none⟩] [
 ] [2,3])
 .ret)))),
 [.t 2,.t 3]⟩
theorem k84:chkF Tryz.prog Tryz.f84 c84=true:=by kernel_rfl
theorem k31:chkF Tryz.prog Tryz.f31 c31=true:=by kernel_rfl
theorem frz_stgO {σ:Sto} {f m:Nat} {l:List (List (List Sp))} (h:σ.at f 0=some ⟨61,1,l.map fun x=>[nodS x],none⟩) (hm:m=l.length):Frz σ (.own f 0 m) (stgS l):=by
  subst hm
  refine Frz.own (o:=⟨61,1,l.map fun x=>[nodS x],none⟩) (es:=l.map fun x=>[nodS x]) (show (1:Nat)≠0 by decide) h (by simp) (by simp) (fun e j he hj=>?_) fun e he=>?_
  · obtain ⟨x,hx⟩:∃ x,l[e]?=some x:=⟨_,List.getElem?_eq_getElem he⟩
    rw [getD_map hx]
    match j,hj with
    | 0,_=>exact Frz.eq rfl (by simp)
  · obtain ⟨x,hx⟩:∃ x,l[e]?=some x:=⟨_,List.getElem?_eq_getElem he⟩
    rw [getD_map hx]; rfl
def rowsL (t:Trk) (first:List (List Sp)) (m:Nat):List (List (List Sp)):=(List.range m).map (lev (als t) (stp t) first)
theorem rowsL_snoc (t:Trk) (first:List (List Sp)) (m:Nat):rowsL t first (m+1)=rowsL t first m++[lev (als t) (stp t) first m]:=by unfold rowsL; rw [List.range_succ,List.map_append]; rfl
theorem rowsL_len (t:Trk) (first:List (List Sp)) (m:Nat):(rowsL t first m).length=m:=by simp [rowsL]
theorem rowsL_get {t:Trk} {first:List (List Sp)} {m i:Nat} (h:i < m):((rowsL t first m).map fun x=>[nodS x]).getD i []=[nodS (lev (als t) (stp t) first i)]:=getD_map (by simp [rowsL,h])
theorem forwardsR_spec (t:Trk) (first:List (List Sp)) (hv:valid t) (hl:first.length=(als t 0).length) (hg:goods first):Pure Tryz.prog 84 [trS t,nodS first] (stgS (rowsL t first t.length)):=by
  refine Pure.of_body Tryz.call84 Tryz.func84 k84 (Nat.le_of_ble_eq_true rfl) ?_
  unfold c84
  have h1:=hv.1
  have h2:=hv.2.1
  (repeat' ((first
 | refine vn rfl ?_
 | simp (disch:=omega) only [wr64,Int.zero_sub]
 | refine bo (fun _=>?_) fun _=>?_
 | refine im fun _=>?_
 | refine cF ?_
 | refine om ?_
 | refine an ?_
 | fail) <;> try simp only [zT,zV,zS,zU,vcC,lateX,ex,strp,binA,elems,cells,scalar,eqC,keyA,intsA,lookA,ofVs,mpOf,Nat.reduceBEq,reduceAdd,reduceSub,reduceLT,reduceLeDiff,reduceMul,reduceEqDiff,reduceIte]))
  all_goals try (exfalso; omega)
  refine AWPC.loopE (α:={ y:Nat // y+1≤t.length }) [5,6] (fun y=>[(5,.own 0 0 (y.1+1)),(6,n y.1)]) (fun y=>[some [⟨61,1,(rowsL t first (y.1+1)).map fun x=>[nodS x],none⟩]]) (fun y=>t.length - y.1) ⟨0,h1⟩ ?_ ?_ ?_
  · (simp only [zT,zV,zS,zU,vcC,lateX,ex,strp,binA,elems,cells,scalar,eqC,keyA,intsA,lookA,ofVs,mpOf,Nat.reduceBEq,reduceAdd,reduceSub,reduceLT,reduceLeDiff,reduceMul,reduceEqDiff,reduceIte]; try simp)
  · rfl
  rintro ⟨i,hi⟩
  try simp only at hi
  try simp only
  have hrl:=rowsL_len t first (i+1)
  by_cases hlt:i+1 < t.length
  · have hon:=onward_spec t i (lev (als t) (stp t) first i) hv hlt (by rw [lev_len hl,als_len]) (lev_goods hg (als_goods hv) i)
    have hs:onto (stp t i) (lev (als t) (stp t) first i) (als t (i+1))=lev (als t) (stp t) first (i+1):=rfl
    rw [hs] at hon
    have gi:=rowsL_get (t:=t) (first:=first) (show i < i+1 by omega)
    have hsn:=rowsL_snoc t first (i+1)
    generalize rowsL t first (i+1)=E at *
    (repeat' ((first
 | refine vn rfl ?_
 | simp (disch:=omega) only [wr64,Int.zero_sub]
 | refine bo (fun _=>?_) fun _=>?_
 | refine im fun _=>?_
 | ((repeat refine si ?_); (first | ((first | refine .inl ⟨_,_,_,_,rfl,fun _=>pu hon,?_⟩ | refine ⟨_,_,_,_,rfl,fun _=>pu hon,?_⟩); (first | refine o1 ?_ | refine o2 ?_ | refine o3 ?_ | refine o4 ?_)) | refine .inl ⟨_,_,_,_,rfl,pu hon,?_⟩))
 | refine cF ?_
 | refine om ?_
 | refine an ?_
 | fail) <;> try simp only [zT,zV,zS,zU,vcC,lateX,ex,strp,binA,elems,cells,scalar,eqC,keyA,intsA,lookA,ofVs,mpOf,Nat.reduceBEq,reduceAdd,reduceSub,reduceLT,reduceLeDiff,reduceMul,reduceEqDiff,reduceIte,gi,hrl]))
    all_goals try (exfalso; omega)
    exact ⟨⟨i+1,hlt⟩,⟨rfl,rfl⟩,by simp only; rw [hsn]; simp,by simp only; omega⟩
  · have hti:t.length=i+1:=by omega
    (repeat' ((first
 | refine vn rfl ?_
 | simp (disch:=omega) only [wr64,Int.zero_sub]
 | refine bo (fun _=>?_) fun _=>?_
 | refine im fun _=>?_
 | refine cF ?_
 | refine om ?_
 | refine an ?_
 | fail) <;> try simp only [zT,zV,zS,zU,vcC,lateX,ex,strp,binA,elems,cells,scalar,eqC,keyA,intsA,lookA,ofVs,mpOf,Nat.reduceBEq,reduceAdd,reduceSub,reduceLT,reduceLeDiff,reduceMul,reduceEqDiff,reduceIte]))
    all_goals try (exfalso; omega)
    rw [hti]
    exact frz_stgO rfl hrl.symm
theorem rForward_spec (t:Trk) (hs:trkSz t):Pure Tryz.prog 31 [trS t] (.tup [stgS (if tr (valid t)=true then fwds t else []),n (if tr (valid t)=true then 0 else 40)]):=by
  refine Pure.of_body Tryz.call31 Tryz.func31 k31 (Nat.le_of_ble_eq_true rfl) ?_
  unfold c31
  have hc:=rCheck_spec t hs
  by_cases hv:valid t
  · rw [tr_1 hv] at hc ⊢
    simp only [if_true] at hc ⊢
    have ha:=allowed_spec t 0 hv hv.1
    have hf:=forwardsR_spec t (als t 0) hv rfl (als_goods hv 0)
    (repeat' ((first
 | refine vn rfl ?_
 | simp (disch:=omega) only [wr64,Int.zero_sub]
 | refine bo (fun _=>?_) fun _=>?_
 | refine im fun _=>?_
 | ((repeat refine si ?_); (first | ((first | refine .inl ⟨_,_,_,_,rfl,fun _=>pu (by first | exact hc | exact ha | exact hf),?_⟩ | refine ⟨_,_,_,_,rfl,fun _=>pu (by first | exact hc | exact ha | exact hf),?_⟩); (first | refine o1 ?_ | refine o2 ?_ | refine o3 ?_ | refine o4 ?_)) | refine .inl ⟨_,_,_,_,rfl,pu (by first | exact hc | exact ha | exact hf),?_⟩))
 | refine cF ?_
 | refine om ?_
 | refine an ?_
 | fail) <;> try simp only [zT,zV,zS,zU,vcC,lateX,ex,strp,binA,elems,cells,scalar,eqC,keyA,intsA,lookA,ofVs,mpOf,Nat.reduceBEq,reduceAdd,reduceSub,reduceLT,reduceLeDiff,reduceMul,reduceEqDiff,reduceIte]))
    all_goals try (exfalso; omega)
    all_goals exact Frz.eq rfl (by simp)
  · rw [tr_0 hv] at hc ⊢
    simp only [Bool.false_eq_true,if_false] at hc ⊢
    (repeat' ((first
 | refine vn rfl ?_
 | simp (disch:=omega) only [wr64,Int.zero_sub]
 | refine bo (fun _=>?_) fun _=>?_
 | refine im fun _=>?_
 | ((repeat refine si ?_); (first | ((first | refine .inl ⟨_,_,_,_,rfl,fun _=>pu hc,?_⟩ | refine ⟨_,_,_,_,rfl,fun _=>pu hc,?_⟩); (first | refine o1 ?_ | refine o2 ?_ | refine o3 ?_ | refine o4 ?_)) | refine .inl ⟨_,_,_,_,rfl,pu hc,?_⟩))
 | refine cF ?_
 | refine om ?_
 | refine an ?_
 | fail) <;> try simp only [zT,zV,zS,zU,vcC,lateX,ex,strp,binA,elems,cells,scalar,eqC,keyA,intsA,lookA,ofVs,mpOf,Nat.reduceBEq,reduceAdd,reduceSub,reduceLT,reduceLeDiff,reduceMul,reduceEqDiff,reduceIte]))
    all_goals try (exfalso; omega)
    exact frz2 frz_nil (by simp)
end Go.Proofs.YtahkhnagpdlkiaaGreat
namespace Go.Abs
set_option linter.unusedVariables false
set_option linter.unusedSimpArgs false
theorem Frz.mp {σ:Sto} {f n:Nat} {o:Ob} {m m':List (List Int × AV)} (ho:σ.at f 0=some o) (hm:mpOf o n=some m) (hl:m.length=m'.length)
    (hk:∀ i,i < m.length→(m'.getD i ([],.any)).1=(m.getD i ([],.any)).1) (hv:∀ i,i < m.length→Frz σ (m.getD i ([],.any)).2 (m'.getD i ([],.any)).2):Frz σ (.mp f) (.imap n m'):=fun w X β x hs hx=>by
  obtain ⟨b,es,cl,hβ,rfl,_,hb,hr⟩:=mp_block hs ho hm hx
  obtain ⟨h1,h2,h3⟩:=of_mprel hr
  have hd:∀ i,es.getD i ⟨undef,undef,0⟩=es.toList.getD i ⟨undef,undef,0⟩:=fun i=>by simp [Array.getD_eq_getD_getElem?,List.getD_eq_getElem?_getD]
  refine .imap n m' b es cl hb (fun hX=>hs.dis f 0 o b ho hβ hX) (by rw [← hl,← h1]; simp) (fun i hi=>?_) fun i hi=>?_
  · rw [hd,hk i (by omega)]; exact h2 i (by omega)
  · rw [hd]; exact hv i (by omega) w X β _ hs (h3 i (by omega))
theorem mget_map {α:Type} (key:α→List Int) (val:α→AV) (ks:List Int):∀ l:List α,mget (l.map fun a=>(key a,val a)) ks=(l.find? fun a=>decide (key a=ks)).map val
  | []=>rfl
  | a::l=>by
    simp only [List.map_cons,mget,List.find?_cons,mget_map key val ks l]
    by_cases h:key a=ks <;> simp [h]
end Go.Abs
namespace Go.Proofs.YtahkhnagpdlkiaaGreat
open Go.Abs
open Nat (reduceAdd reduceSub reduceLT reduceLeDiff reduceMul reduceEqDiff)
set_option linter.unusedVariables false
set_option linter.unusedSimpArgs false
set_option maxHeartbeats 4000000
set_option maxRecDepth 100000
def c123:CF:=⟨41,
 (.seq (.ops [
 ⟨some 2,.mv (.c (.map none)),none⟩] [0])
 (.seq (.ops [
 ⟨some 8,.mkmp 2,none⟩,
 ⟨some 3,.mv (.t 8),none⟩] [0,3])
 (.seq (.seq (.ops [
 ⟨some 9,.mv (.t 0),none⟩,
 ⟨some 10,.len (.t 9),none⟩,
 ⟨some 11,.mv (.c (.int .i64 0)),none⟩] [3,9,10,11])
 (.block 0 (.loop (.seq (.ops [
 ⟨some 12,.bin .lss (.t 11) (.t 10),none⟩] [3,9,10,11,12])
 (.seq (.cond (.t 12) .skip
 (.exit 0))
 (.seq (.block 1 (.seq (.ops [
 ⟨some 13,.mv (.t 11),none⟩,
 ⟨some 14,.iaddr 2 (.t 9) (.t 11),none⟩,
 ⟨some 15,.load (some 2) (.t 14),none⟩,
 ⟨some 5,.alloc 80 2 [.slice none 0 0,.slice none 0 0],none⟩,
 ⟨some 4,.mv (.t 13),none⟩,
 ⟨none,.store 2 (.t 5) (.t 15),none⟩] [3,4,5,9,10,11])
 (.seq (.ops [
 ⟨some 16,.faddr 1 (.t 5),none⟩,
 ⟨some 17,.load none (.t 16),none⟩,
 ⟨some 18,.len (.t 17),none⟩,
 ⟨some 19,.mv (.c (.int .i64 0)),none⟩] [3,4,9,10,11,17,18,19])
 (.block 2 (.loop (.seq (.ops [
 ⟨some 20,.bin .lss (.t 19) (.t 18),none⟩] [3,4,9,10,11,17,18,19,20])
 (.seq (.cond (.t 20) .skip
 (.exit 2))
 (.seq (.block 3 (.seq (.ops [
 ⟨some 21,.iaddr 3 (.t 17) (.t 19),none⟩,
 ⟨some 22,.load (some 3) (.t 21),none⟩,
 ⟨some 7,.alloc 124 3 [.int .i64 0,.int .i64 0,.int .i64 0],none⟩,
 ⟨none,.store 3 (.t 7) (.t 22),none⟩] [3,4,7,9,10,11,17,18,19])
 (.draww [0,1,2,3,4,5,6,7,8,9,10,11,12,13,14,15] [0,1,2,3,4] 1 [
 ⟨some 23,.mv (.t 3),none⟩,
 ⟨some 24,.mv (.t 4),none⟩,
 ⟨some 25,.faddr 0 (.t 7),none⟩,
 ⟨some 26,.load none (.t 25),none⟩,
 ⟨some 27,.build [.int .i64 0,.int .i64 0] [(0,1,(.t 24)),(1,1,(.t 26))],none⟩,
 ⟨some 28,.mv (.t 3),none⟩,
 ⟨some 29,.mv (.t 4),none⟩,
 ⟨some 30,.faddr 0 (.t 7),none⟩,
 ⟨some 31,.load none (.t 30),none⟩,
 ⟨some 32,.build [.int .i64 0,.int .i64 0] [(0,1,(.t 29)),(1,1,(.t 31))],none⟩,
 ⟨some 33,.look 2 false [.slice none 0 0] false (.t 28) (.t 32),none⟩,
 ⟨some 34,.faddr 1 (.t 7),none⟩,
 ⟨some 35,.load (some 2) (.t 34),none⟩,
 ⟨some 36,.bsl false 30 2 1 [.int .i64 0,.int .i64 0] [(0,2,(.t 35))],none⟩] [
 ⟨some 37,.app 30 2 16 (.t 33) (.t 36),none⟩,
 ⟨none,.mput 2 (.t 23) (.t 27) (.t 37),none⟩] [3,4,9,10,11,17,18,19])))
 (.ops [
 ⟨some 38,.bin .add (.t 19) (.c (.int .i64 1)),none⟩,
 ⟨some 19,.mv (.t 38),none⟩] [3,4,9,10,11,17,18,19])))))))))
 (.ops [
 ⟨some 39,.bin .add (.t 11) (.c (.int .i64 1)),none⟩,
 ⟨some 11,.mv (.t 39),none⟩] [3,9,10,11])))))))
 (.seq (.ops [
 ⟨some 40,.mv (.t 3),none⟩,
 ⟨some 2,.mv (.t 40),none⟩] [2])
 .ret)))),
 [.t 2]⟩
def c121:CF:=⟨26,
 (.seq (.ops [
 ⟨some 3,.box false 26 2 (.t 1),none⟩,
 ⟨some 4,.mv (.c (.bool false)),none⟩] [0,3])
 (.seq (.draw [
 ⟨some 5,.faddr 0 (.t 3),none⟩,
 ⟨some 6,.load none (.t 5),none⟩,
 ⟨some 7,.bin .geq (.t 6) (.c (.int .i64 0)),none⟩,
 ⟨some 8,.mv (.t 7),none⟩,
 ⟨some 9,.faddr 0 (.t 3),some (8,true)⟩,
 ⟨some 10,.load none (.t 9),some (8,true)⟩,
 ⟨some 11,.mv (.t 0),some (8,true)⟩,
 ⟨some 12,.len (.t 11),some (8,true)⟩,
 ⟨some 13,.bin .lss (.t 10) (.t 12),some (8,true)⟩,
 ⟨some 14,.pick (.t 8) (.t 13) (.c (.bool false)),none⟩,
 ⟨some 15,.mv (.t 14),none⟩,
 ⟨some 16,.mv (.t 0),some (15,true)⟩,
 ⟨some 17,.faddr 0 (.t 3),some (15,true)⟩,
 ⟨some 18,.load none (.t 17),some (15,true)⟩,
 ⟨some 19,.iaddr 2 (.t 16) (.t 18),some (15,true)⟩,
 ⟨some 20,.faddr 0 (.t 19),some (15,true)⟩,
 ⟨some 21,.load none (.t 20),some (15,true)⟩,
 ⟨some 22,.faddr 1 (.t 3),some (15,true)⟩,
 ⟨some 23,.load none (.t 22),some (15,true)⟩,
 ⟨some 24,.call (.f 122) [(.t 21),(.t 23)],some (15,true)⟩,
 ⟨some 25,.pick (.t 15) (.t 24) (.c (.bool false)),none⟩,
 ⟨some 4,.mv (.t 25),none⟩] [
 ] [4])
 .ret)),
 [.t 4]⟩
def c61:CF:=⟨67,
 (.seq (.ops [
 ⟨some 2,.box false 24 1 (.t 0),none⟩,
 ⟨some 4,.mv (.c (.int .i64 0)),none⟩] [1,2])
 (.seq (.seq (.ops [
 ⟨some 8,.load (some 1) (.t 2),none⟩,
 ⟨some 9,.call (.f 53) [(.t 8)],none⟩,
 ⟨some 5,.mv (.t 9),none⟩] [1,2,5])
 (.seq (.ops [
 ⟨some 10,.mv (.t 5),none⟩,
 ⟨some 11,.bin .neq (.t 10) (.c (.int .i64 0)),none⟩] [1,2,5,11])
 (.cond (.t 11) (.seq (.ops [
 ⟨some 12,.mv (.t 5),none⟩,
 ⟨some 4,.mv (.t 12),none⟩] [4])
 .ret)
 .skip)))
 (.seq (.seq (.ops [
 ⟨some 13,.mv (.t 1),none⟩,
 ⟨some 14,.len (.t 13),none⟩,
 ⟨some 15,.faddr 0 (.t 2),none⟩,
 ⟨some 16,.load none (.t 15),none⟩,
 ⟨some 17,.len (.t 16),none⟩,
 ⟨some 18,.bin .neq (.t 14) (.t 17),none⟩] [1,2,18])
 (.cond (.t 18) (.seq (.ops [
 ⟨some 4,.mv (.c (.int .i64 41)),none⟩] [4])
 .ret)
 .skip))
 (.seq (.seq (.ops [
 ⟨some 19,.mv (.t 1),none⟩,
 ⟨some 20,.len (.t 19),none⟩,
 ⟨some 21,.mv (.c (.int .i64 0)),none⟩] [1,2,19,20,21])
 (.block 0 (.loop (.seq (.ops [
 ⟨some 22,.bin .lss (.t 21) (.t 20),none⟩] [1,2,19,20,21,22])
 (.seq (.cond (.t 22) .skip
 (.exit 0))
 (.seq (.block 1 (.seq (.ops [
 ⟨some 23,.mv (.t 21),none⟩,
 ⟨some 24,.iaddr 2 (.t 19) (.t 21),none⟩,
 ⟨some 25,.load (some 2) (.t 24),none⟩,
 ⟨some 7,.alloc 26 2 [.int .i64 0,.int .i64 0],none⟩,
 ⟨some 6,.mv (.t 23),none⟩,
 ⟨none,.store 2 (.t 7) (.t 25),none⟩] [1,2,6,7,19,20,21])
 (.seq (.seq (.draw [
 ⟨some 26,.faddr 0 (.t 2),none⟩,
 ⟨some 27,.load none (.t 26),none⟩,
 ⟨some 28,.mv (.t 6),none⟩,
 ⟨some 29,.iaddr 1 (.t 27) (.t 28),none⟩,
 ⟨some 30,.load none (.t 29),none⟩,
 ⟨some 31,.load (some 2) (.t 7),none⟩,
 ⟨some 32,.call (.f 121) [(.t 30),(.t 31)],none⟩,
 ⟨some 33,.un .not (.t 32),none⟩] [
 ] [1,2,6,7,19,20,21,33])
 (.cond (.t 33) (.seq (.ops [
 ⟨some 4,.mv (.c (.int .i64 41)),none⟩] [4])
 .ret)
 .skip))
 (.seq (.draw [
 ⟨some 34,.mv (.t 6),none⟩,
 ⟨some 35,.bin .gtr (.t 34) (.c (.int .i64 0)),none⟩,
 ⟨some 36,.mv (.t 35),none⟩,
 ⟨some 37,.faddr 0 (.t 2),some (36,true)⟩,
 ⟨some 38,.load none (.t 37),some (36,true)⟩,
 ⟨some 39,.mv (.t 6),some (36,true)⟩,
 ⟨some 40,.bin .sub (.t 39) (.c (.int .i64 1)),some (36,true)⟩,
 ⟨some 41,.iaddr 1 (.t 38) (.t 40),some (36,true)⟩,
 ⟨some 42,.load none (.t 41),some (36,true)⟩,
 ⟨some 43,.call (.f 123) [(.t 42)],some (36,true)⟩,
 ⟨some 44,.mv (.t 1),some (36,true)⟩,
 ⟨some 45,.mv (.t 6),some (36,true)⟩,
 ⟨some 46,.bin .sub (.t 45) (.c (.int .i64 1)),some (36,true)⟩,
 ⟨some 47,.iaddr 2 (.t 44) (.t 46),some (36,true)⟩,
 ⟨some 48,.faddr 0 (.t 47),some (36,true)⟩,
 ⟨some 49,.load none (.t 48),some (36,true)⟩,
 ⟨some 50,.faddr 0 (.t 7),some (36,true)⟩,
 ⟨some 51,.load none (.t 50),some (36,true)⟩,
 ⟨some 52,.build [.int .i64 0,.int .i64 0] [(0,1,(.t 49)),(1,1,(.t 51))],some (36,true)⟩,
 ⟨some 53,.look 2 false [.slice none 0 0] false (.t 43) (.t 52),some (36,true)⟩,
 ⟨some 54,.faddr 1 (.t 7),some (36,true)⟩,
 ⟨some 55,.load none (.t 54),some (36,true)⟩,
 ⟨some 56,.mv (.t 1),some (36,true)⟩,
 ⟨some 57,.mv (.t 6),some (36,true)⟩,
 ⟨some 58,.bin .sub (.t 57) (.c (.int .i64 1)),some (36,true)⟩,
 ⟨some 59,.iaddr 2 (.t 56) (.t 58),some (36,true)⟩,
 ⟨some 60,.faddr 1 (.t 59),some (36,true)⟩,
 ⟨some 61,.load none (.t 60),some (36,true)⟩,
 ⟨some 62,.bin .sub (.t 55) (.t 61),some (36,true)⟩,
 ⟨some 63,.call (.f 122) [(.t 53),(.t 62)],some (36,true)⟩,
 ⟨some 64,.un .not (.t 63),some (36,true)⟩,
 ⟨some 65,.pick (.t 36) (.t 64) (.c (.bool false)),none⟩] [
 ] [1,2,19,20,21,65])
 (.cond (.t 65) (.seq (.ops [
 ⟨some 4,.mv (.c (.int .i64 41)),none⟩] [4])
 .ret)
 .skip)))))
 (.ops [
 ⟨some 66,.bin .add (.t 21) (.c (.int .i64 1)),none⟩,
 ⟨some 21,.mv (.t 66),none⟩] [1,2,19,20,21])))))))
 (.seq (.ops [
 ⟨some 4,.mv (.c (.int .i64 0)),none⟩] [4])
 .ret))))),
 [.t 4]⟩
theorem k123:chkF Tryz.prog Tryz.f123 c123=true:=by kernel_rfl
theorem k121:chkF Tryz.prog Tryz.f121 c121=true:=by kernel_rfl
theorem k61:chkF Tryz.prog Tryz.f61 c61=true:=by kernel_rfl
theorem Pure.arg {P:Program} {f:Nat} {args args':List AV} {r:AV} (h:Pure P f args r) (hl:args'.length=args.length)
    (hw:∀ i,i < args.length→∀ w X β σ x,RV w X β σ (args'.getD i .any) x→RV w X β σ (args.getD i .any) x):Pure P f args' r :=
  ⟨h.ent,fun X w xs hX hxl hr=>h.go X w xs hX (by omega) fun i hi=>hw i hi _ _ _ _ _ (hr i (by omega))⟩
structure Ent where
  k:List Int
  l:List Sp
  g:Nat
abbrev entA (T:List Ent):List (List Int × AV):=T.map fun t=>(t.k,AV.own t.g 0 t.l.length)
def addE:List Ent→List Int→Sp→Nat→List Ent
  | [],k,s,g=>[⟨k,[s],g⟩]
  | t::r,k,s,g=>if t.k=k then ⟨t.k,t.l++[s],t.g⟩::r else t::addE r k s g
def addK:List (List Int × List Sp)→List Int→Sp→List (List Int × List Sp)
  | [],k,s=>[(k,[s])]
  | t::r,k,s=>if t.1=k then (t.1,t.2++[s])::r else t::addK r k s
abbrev hkey (h:Hop):List Int:=[(h.fr:Int),(h.to:Int)]
def hopK (hs:List Hop):List (List Int × List Sp):=hs.foldl (fun a h=>addK a (hkey h) h.ch) []
abbrev strE (T:List Ent):List (List Int × List Sp):=T.map fun t=>(t.k,t.l)
theorem strE_add:∀ (T:List Ent) (k:List Int) (s:Sp) (g:Nat),strE (addE T k s g)=addK (strE T) k s
  | [],_,_,_=>rfl
  | t::r,k,s,g=>by
    unfold addE
    simp only [strE,List.map_cons,addK]
    split
    · rfl
    · simp only [List.map_cons]; rw [← strE_add r k s g]
theorem hopK_next {hs:List Hop} {i:Nat} {h:Hop} (e:hs[i]?=some h):hopK (hs.take (i+1))=addK (hopK (hs.take i)) (hkey h) h.ch:=by
  rw [take_snoc e]; simp [hopK]
theorem addK_len {N:Nat} {k:List Int} {s:Sp}:∀ {E:List (List Int × List Sp)},(∀ e∈E,e.2.length≤N)→∀ e∈addK E k s,e.2.length≤N+1
  | [],_,e,he=>by simp only [addK,List.mem_singleton] at he; subst he; simp
  | t::r,h,e,he=>by
    unfold addK at he
    split at he
    · rcases List.mem_cons.1 he with rfl | he
      · have:=h t (by simp); simp; omega
      · have:=h e (by simp [he]); omega
    · rcases List.mem_cons.1 he with rfl | he
      · have:=h e (by simp); omega
      · exact addK_len (fun x hx=>h x (by simp [hx])) e he
theorem hopK_len {hs:List Hop} (i:Nat) (hi:i≤hs.length):∀ e∈hopK (hs.take i),e.2.length≤i:=by
  induction i with
  | zero=>simp [hopK]
  | succ i ih =>
    rw [hopK_next (List.getElem?_eq_getElem (by omega))]
    exact addK_len (ih (by omega))
theorem hops_len {m:Nat}:∀ {l:List Nod} {i:Nat},(∀ x∈l,nodOk m x)→(hopsF i l).length≤64 * l.length
  | [],_,_=>by simp [hopsF]
  | x::r,i,h=>by
    have h1:=(h x (by simp)).2.1
    have h2:=hops_len (i:=i+1) (fun y hy=>h y (by simp [hy]):∀ y∈r,nodOk m y)
    simp only [hopsF,List.length_append,hopsOf,List.length_map,List.length_cons]; omega
structure HopS (σ:Sto) (T:List Ent):Prop where
  a:σ.at 0 0=some ⟨0,0,[],some (.mp 2 (entA T))⟩
  o:∀ t∈T,σ.at t.g 0=some (spO t.l)
  inj:T.Pairwise fun a b=>a.g≠b.g
theorem ent_none {T:List Ent} {k:List Int} {s:Sp} {g:Nat} (h:∀ t∈T,t.k≠k):mget (entA T) k=none∧mset (entA T) k (.own g 0 1)=entA (addE T k s g)∧addE T k s g=T++[⟨k,[s],g⟩]:=by
  induction T with
  | nil=>exact ⟨rfl,rfl,rfl⟩
  | cons t r ih =>
    obtain ⟨h1,h2,h3⟩:=ih fun t ht=>h t (by simp [ht])
    have hk:¬ t.k=k:=h t (by simp)
    simp only [entA,List.map_cons,mget,hk,if_false,mset,addE,List.cons_append,h3] at h1 h2 ⊢
    exact ⟨h1,by rw [h2],trivial⟩
theorem ent_some {T:List Ent} {k:List Int} {s:Sp} {g:Nat} (h:¬ ∀ t∈T,t.k≠k):∃ A t B,T=A++t::B∧t.k=k∧mget (entA T) k=some (.own t.g 0 t.l.length)∧mset (entA T) k (.own t.g 0 (t.l.length+1))=entA (addE T k s g) ∧
    addE T k s g=A++⟨t.k,t.l++[s],t.g⟩::B:=by
  induction T with
  | nil=>exact absurd (by simp) h
  | cons t r ih =>
    by_cases hk:t.k=k
    · subst hk
      exact ⟨[],t,r,rfl,rfl,by simp [mget],by simp [mset,addE],by simp [addE]⟩
    · obtain ⟨A,u,B,rfl,h1,h2,h3,h4⟩:=ih fun h'=>h fun t' ht=>by
        rcases List.mem_cons.1 ht with rfl | ht
        · exact hk
        · exact h' t' ht
      refine ⟨t::A,u,B,rfl,h1,?_,?_,?_⟩
      · simp only [entA,List.map_cons,mget,hk,if_false]; exact h2
      · simp only [entA,List.map_cons,mset,hk,if_false,addE]; rw [h3]
      · simp only [addE,hk,if_false,h4,List.cons_append]
theorem HopS.app {σ:Sto} {T:List Ent} (h:HopS σ T) (ν:Sto):HopS (σ++ν) T :=
  ⟨by rw [at_appL (at_lt h.a)]; exact h.a,fun t ht=>by rw [at_appL (at_lt (h.o t ht))]; exact h.o t ht,h.inj⟩
theorem HopS.lt {σ:Sto} {T:List Ent} (h:HopS σ T) {t:Ent} (ht:t∈T):t.g < σ.length∧t.g≠0:=by
  refine ⟨at_lt (h.o t ht),fun e=>?_⟩
  have h1:=h.o t ht
  rw [e,h.a] at h1
  injection h1 with h1
  have:=congrArg Ob.T h1
  cases this
theorem HopS.new {σ:Sto} {T:List Ent} {k:List Int} {s:Sp} (h:HopS σ T) (hk:∀ t∈T,t.k≠k) :
    HopS (Sto.upd (σ++[some [spO [s]]]) 0 0 ⟨0,0,[],some (.mp 2 (entA (addE T k s σ.length)))⟩) (addE T k s σ.length):=by
  have h0:=at_lt h.a
  obtain ⟨_,_,h3⟩:=ent_none (s:=s) (g:=σ.length) hk
  refine ⟨at_upd_same (h.app _).a,fun t ht=>?_,?_⟩
  · rw [h3,List.mem_append,List.mem_singleton] at ht
    rcases ht with ht | rfl
    · rw [at_upd_other (.inl (h.lt ht).2.symm),at_appL (h.lt ht).1]; exact h.o t ht
    · rw [at_upd_other (.inl (by simp only; omega))]; simp only; rw [at_app0]; simp [Sto.at]
  · rw [h3,List.pairwise_append]
    refine ⟨h.inj,by simp,fun a ha b hb=>?_⟩
    rw [List.mem_singleton] at hb; subst hb
    have:=(h.lt ha).1
    simp only; omega
theorem HopS.old {σ:Sto} {A B:List Ent} {t:Ent} {s:Sp} {M:List (List Int × AV)} (h:HopS σ (A++t::B)) (hM:M=entA (A++⟨t.k,t.l++[s],t.g⟩::B)) :
    HopS (Sto.upd (σ.upd t.g 0 (spO (t.l++[s]))) 0 0 ⟨0,0,[],some (.mp 2 M)⟩) (A++⟨t.k,t.l++[s],t.g⟩::B):=by
  subst hM
  have ht:=h.lt (t:=t) (by simp)
  have hp:=h.inj
  rw [List.pairwise_append,List.pairwise_cons] at hp
  obtain ⟨p1,⟨p2,p3⟩,p4⟩:=hp
  have key:∀ u,(u∈A∨u∈B)→Sto.at (Sto.upd (σ.upd t.g 0 (spO (t.l++[s]))) 0 0 ⟨0,0,[],some (.mp 2 (entA (A++⟨t.k,t.l++[s],t.g⟩::B)))⟩) u.g 0=some (spO u.l):=by
    intro u hu
    have hm:u∈A++t::B:=by rcases hu with hu | hu <;> simp [hu]
    have hne:t.g≠u.g:=by
      rcases hu with hu | hu
      · exact (p4 u hu t (by simp)).symm
      · exact p2 u hu
    rw [at_upd_other (.inl (h.lt hm).2.symm),at_upd_other (.inl hne)]
    exact h.o u hm
  refine ⟨at_upd_same (o:=⟨0,0,[],some (.mp 2 (entA (A++t::B)))⟩) (by rw [at_upd_other (.inl ht.2)]; exact h.a),fun u hu=>?_,?_⟩
  · rw [List.mem_append,List.mem_cons] at hu
    rcases hu with hu | rfl | hu
    · exact key u (.inl hu)
    · simp only
      rw [at_upd_other (.inl ht.2.symm)]
      exact at_upd_same (h.o t (by simp))
    · exact key u (.inr hu)
  · rw [List.pairwise_append,List.pairwise_cons]
    refine ⟨p1,⟨p2,p3⟩,fun a ha b hb=>?_⟩
    rcases List.mem_cons.1 hb with rfl | hb
    · exact p4 a ha t (by simp)
    · exact p4 a ha b (by simp [hb])
abbrev mapS (E:List (List Int × List Sp)):AV:=.imap 2 (E.map fun e=>(e.1,spS e.2))
theorem hops_spec (m:Nat) (l:List Nod) (hl:stgOk m l):Pure Tryz.prog 123 [stS l] (mapS (hopK (hops l))):=by
  refine Pure.of_body Tryz.call123 Tryz.func123 k123 (Nat.le_of_ble_eq_true rfl) ?_
  unfold c123
  obtain ⟨v1,v2,v3⟩:=hl
  (repeat' ((first
 | refine vn rfl ?_
 | simp (disch:=omega) only [wr64,Int.zero_sub]
 | refine bo (fun _=>?_) fun _=>?_
 | refine im fun _=>?_
 | refine cF ?_
 | refine om ?_
 | refine an ?_
 | fail) <;> try simp only [zT,zV,zS,zU,vcC,lateX,ex,strp,binA,elems,cells,scalar,eqC,keyA,intsA,lookA,ofVs,mpOf,Nat.reduceBEq,reduceAdd,reduceSub,reduceLT,reduceLeDiff,reduceMul,reduceEqDiff,reduceIte]))
  have h00:HopS [some [⟨0,0,[],some (.mp 2 [])⟩]] []:=⟨rfl,by simp,List.Pairwise.nil⟩
  refine AWPC.loopE (α:={ x:Nat × Nat × List Ent × Sto // x.1≤l.length∧(hops l).drop x.2.1=hopsF x.1 (l.drop x.1)∧x.2.1≤(hops l).length∧HopS x.2.2.2 x.2.2.1∧strE x.2.2.1=hopK ((hops l).take x.2.1) }) [11] (fun x=>[(11,n x.1.1)]) (fun x=>x.1.2.2.2) (fun x=>l.length - x.1.1)
    ⟨(0,0,[],_),by simp,by simp,by simp,h00,rfl⟩ ?_ ?_ ?_
  · (simp only [zT,zV,zS,zU,vcC,lateX,ex,strp,binA,elems,cells,scalar,eqC,keyA,intsA,lookA,ofVs,mpOf,Nat.reduceBEq,reduceAdd,reduceSub,reduceLT,reduceLeDiff,reduceMul,reduceEqDiff,reduceIte]; try simp)
  · rfl
  rintro ⟨⟨i,m',T,τ⟩,hi,hd,hm,hS,hT⟩
  simp only at hi hd hm hS hT
  by_cases hlt:i < l.length
  · obtain ⟨x,hx⟩:∃ x,l[i]?=some x:=⟨_,List.getElem?_eq_getElem hlt⟩
    obtain ⟨w1,w2,w3⟩:=v3 x (List.mem_of_getElem? hx)
    have hdi:(hops l).drop m'=hopsOf i x++hopsF (i+1) (l.drop (i+1)):=by rw [hd,drop_cons hx]; rfl
    (repeat' ((first
 | refine vn rfl ?_
 | simp (disch:=omega) only [wr64,Int.zero_sub]
 | refine bo (fun _=>?_) fun _=>?_
 | refine im fun _=>?_
 | refine cF ?_
 | refine om ?_
 | refine an ?_
 | fail) <;> try simp only [zT,zV,zS,zU,vcC,lateX,ex,strp,binA,elems,cells,scalar,eqC,keyA,intsA,lookA,ofVs,mpOf,Nat.reduceBEq,reduceAdd,reduceSub,reduceLT,reduceLeDiff,reduceMul,reduceEqDiff,reduceIte,getD_map hx]))
    all_goals try (exfalso; omega)
    refine AWPC.loopE (α:={ x':Nat × Nat × List Ent × Sto // x'.1≤x.nx.length∧(hops l).drop x'.2.1=(hopsOf i x).drop x'.1++hopsF (i+1) (l.drop (i+1))∧x'.2.1≤(hops l).length∧HopS x'.2.2.2 x'.2.2.1∧strE x'.2.2.1=hopK ((hops l).take x'.2.1) }) [19]
      (fun x=>[(19,n x.1.1)]) (fun x=>x.1.2.2.2) (fun x'=>x.nx.length - x'.1.1) ⟨(0,m',T,τ++[some [⟨80,2,[Nod.cs x],none⟩]]),by simp,by simpa using hdi,hm,hS.app _,hT⟩ ?_ ?_ ?_
    · (simp only [zT,zV,zS,zU,vcC,lateX,ex,strp,binA,elems,cells,scalar,eqC,keyA,intsA,lookA,ofVs,mpOf,Nat.reduceBEq,reduceAdd,reduceSub,reduceLT,reduceLeDiff,reduceMul,reduceEqDiff,reduceIte]; try simp)
    · rfl
    rintro ⟨⟨j,m',T,τ⟩,hj,hd,hm,hS,hT⟩
    simp only at hj hd hm hS hT
    have aM:∀ ν,Sto.at (τ++ν) 0 0=some ⟨0,0,[],some (.mp 2 (entA T))⟩:=fun ν=>by rw [at_appL (at_lt hS.a)]; exact hS.a
    by_cases hlt2:j < x.nx.length
    · obtain ⟨e,he⟩:∃ e,x.nx[j]?=some e:=⟨_,List.getElem?_eq_getElem hlt2⟩
      obtain ⟨u1,u2,u3⟩:=w3 e (List.mem_of_getElem? he)
      have hho:(hopsOf i x)[j]?=some ⟨i,e.to.toNat,e.ch⟩:=by simp [hopsOf,he]
      rw [drop_cons hho,List.cons_append] at hd
      obtain ⟨hxm,hd'⟩:=drop_next hd
      have hm1:=(List.getElem?_eq_some_iff.1 hxm).1
      have hnx:=hopK_next hxm
      have ht0:((e.to.toNat:Nat):Int)=e.to:=by omega
      simp only [hkey,ht0] at hnx
      by_cases hk:∀ t∈T,t.k≠[(i:Int),e.to]
      · obtain ⟨g1,g2,g3⟩:=ent_none (s:=e.ch) (g:=List.length τ+1) hk
        have hN:=(hS.app [some [⟨124,3,[Edg.cs e],none⟩]]).new (s:=e.ch) hk
        rw [List.length_append,List.length_singleton,List.append_assoc] at hN
        have hT':=strE_add T [(i:Int),e.to] e.ch (List.length τ+1)
        (repeat' ((first
 | refine vn rfl ?_
 | simp (disch:=omega) only [wr64,Int.zero_sub]
 | refine bo (fun _=>?_) fun _=>?_
 | refine im fun _=>?_
 | refine cF ?_
 | refine om ?_
 | refine an ?_
 | fail) <;> try simp only [zT, zV, zS, zU, vcC, lateX, ex, strp, binA, elems, cells, scalar, eqC, keyA, intsA, lookA, ofVs, mpOf, Nat.reduceBEq, reduceAdd, reduceSub, reduceLT, reduceLeDiff, reduceMul, reduceEqDiff, reduceIte, getD_map he, aM, g1, g2]))
        all_goals try (exfalso; omega)
        exact ⟨⟨(j+1,m'+1,_,_),hlt2,hd',hm1,hN,by simp only; rw [hT',hT,hnx]⟩,by simp,rfl,by simp only; omega⟩
      · obtain ⟨A,t,B,rfl,ek,g1,g2,g3⟩:=ent_some (s:=e.ch) (g:=0) hk
        have htm:t∈A++t::B:=by simp
        obtain ⟨tl,t0⟩:=hS.lt htm
        have hN:=(hS.app [some [⟨124,3,[Edg.cs e],none⟩]]).old (s:=e.ch) (M:=entA (addE (A++t::B) [(i:Int),e.to] e.ch 0)) (by rw [g3])
        have hT':=strE_add (A++t::B) [(i:Int),e.to] e.ch 0
        rw [show spO (t.l++[e.ch])=⟨30,2,t.l.map Sp.cs++[Sp.cs e.ch],none⟩ from by simp [spO]] at hN
        have aG:∀ ν,Sto.at (τ++ν) t.g 0=some (spO t.l):=fun ν=>by rw [at_appL tl]; exact hS.o t htm
        have aU:∀ ν o,Sto.at (Sto.upd (τ++ν) t.g 0 o) 0 0=some ⟨0,0,[],some (.mp 2 (entA (A++t::B)))⟩:=fun ν o=>by rw [at_upd_other (.inl t0)]; exact aM ν
        have aV:∀ x ν o,Sto.at (Sto.upd (τ++some [x]::ν) t.g 0 o) (List.length τ) 0=some x:=fun x ν o=>by rw [at_upd_other (.inl (by omega)),at_app0]; rfl
        have hsz:t.l.length≤m':=hopK_len m' hm (t.k,t.l) (by rw [← hT]; exact List.mem_map.2 ⟨t,htm,rfl⟩)
        have hsz2:t.l.length+1≤1000000:=by
          have hhl:(hops l).length≤64 * l.length:=hops_len v3
          omega
        (repeat' ((first
 | refine vn rfl ?_
 | simp (disch:=omega) only [wr64,Int.zero_sub]
 | refine bo (fun _=>?_) fun _=>?_
 | refine im fun _=>?_
 | refine cF ?_
 | refine om ?_
 | refine an ?_
 | fail) <;> try simp only [zT, zV, zS, zU, vcC, lateX, ex, strp, binA, elems, cells, scalar, eqC, keyA, intsA, lookA, ofVs, mpOf, Nat.reduceBEq, reduceAdd, reduceSub, reduceLT, reduceLeDiff, reduceMul, reduceEqDiff, reduceIte, getD_map he, aM, aG, aU, aV, g1, g2]))
        all_goals try (exfalso; omega)
        exact ⟨⟨(j+1,m'+1,A++⟨t.k,t.l++[e.ch],t.g⟩::B,_),hlt2,hd',hm1,hN,by simp only; rw [← g3,hT',hT,hnx]⟩,by simp,rfl,by simp only; omega⟩
    · obtain rfl:j=x.nx.length:=by omega
      have hdn:(hopsOf i x).drop x.nx.length=[]:=List.drop_eq_nil_of_le (by simp [hopsOf])
      rw [hdn,List.nil_append] at hd
      (repeat' ((first
 | refine vn rfl ?_
 | simp (disch:=omega) only [wr64,Int.zero_sub]
 | refine bo (fun _=>?_) fun _=>?_
 | refine im fun _=>?_
 | refine cF ?_
 | refine om ?_
 | refine an ?_
 | fail) <;> try simp only [zT,zV,zS,zU,vcC,lateX,ex,strp,binA,elems,cells,scalar,eqC,keyA,intsA,lookA,ofVs,mpOf,Nat.reduceBEq,reduceAdd,reduceSub,reduceLT,reduceLeDiff,reduceMul,reduceEqDiff,reduceIte]))
      all_goals try (exfalso; omega)
      exact ⟨⟨(i+1,m',T,τ),hlt,hd,hm,hS,hT⟩,by simp,rfl,by simp only; omega⟩
  · obtain rfl:i=l.length:=by omega
    rw [List.drop_length] at hd
    have:m'=(hops l).length:=by have:=List.drop_eq_nil_iff.1 hd; omega
    subst this
    rw [List.take_length] at hT
    (repeat' ((first
 | refine vn rfl ?_
 | simp (disch:=omega) only [wr64,Int.zero_sub]
 | refine bo (fun _=>?_) fun _=>?_
 | refine im fun _=>?_
 | refine cF ?_
 | refine om ?_
 | refine an ?_
 | fail) <;> try simp only [zT,zV,zS,zU,vcC,lateX,ex,strp,binA,elems,cells,scalar,eqC,keyA,intsA,lookA,ofVs,mpOf,Nat.reduceBEq,reduceAdd,reduceSub,reduceLT,reduceLeDiff,reduceMul,reduceEqDiff,reduceIte]))
    all_goals try (exfalso; omega)
    have hlen:(hopK (hops l)).length=T.length:=by rw [← hT]; simp
    refine Frz.mp (n:=2) (m:=entA T) hS.a (by simp [mpOf]) (by simp [hlen]) (fun q hq=>?_) fun q hq=>?_
    · simp only [List.length_map] at hq
      rw [← hT,List.map_map,getD_map' (List.getElem?_eq_getElem hq),getD_map' (List.getElem?_eq_getElem hq)]
      rfl
    · simp only [List.length_map] at hq
      rw [← hT,List.map_map,getD_map' (List.getElem?_eq_getElem hq),getD_map' (List.getElem?_eq_getElem hq)]
      exact frz_sp (hS.o _ (List.getElem_mem hq))
def chs (hs:List Hop) (k:List Int):List Sp:=(hs.filter fun h=>decide (hkey h=k)).map (·.ch)
theorem addK_get {E:List (List Int × List Sp)} {k k':List Int} {s:Sp} :
    ((addK E k s).find? fun e=>decide (e.1=k')).map (·.2)=if k=k' then some ((((E.find? fun e=>decide (e.1=k')).map (·.2)).getD [])++[s]) else (E.find? fun e=>decide (e.1=k')).map (·.2):=by
  induction E with
  | nil =>
    by_cases h:k=k' <;> simp [addK,h]
  | cons e r ih =>
    unfold addK
    by_cases h1:e.1=k
    · subst h1
      by_cases h2:e.1=k' <;> simp [h2]
    · simp only [h1,if_false,List.find?_cons]
      by_cases h2:e.1=k'
      · have h3:¬ k=k':=fun h=>h1 (h2.trans h.symm)
        simp [h2,h3]
      · simp only [h2,decide_false,ih]
theorem hopK_get (hs:List Hop) (k:List Int):((hopK hs).find? fun e=>decide (e.1=k)).map (·.2)=if chs hs k=[] then none else some (chs hs k):=by
  have key:∀ i,i≤hs.length→((hopK (hs.take i)).find? fun e=>decide (e.1=k)).map (·.2)=if chs (hs.take i) k=[] then none else some (chs (hs.take i) k):=by
    intro i
    induction i with
    | zero=>intro _; rfl
    | succ i ih =>
      intro hi
      have e:=List.getElem?_eq_getElem (l:=hs) (i:=i) (by omega)
      have hc:chs (hs.take (i+1)) k=if hkey hs[i]=k then chs (hs.take i) k++[hs[i].ch] else chs (hs.take i) k:=by
        rw [take_snoc e]
        unfold chs
        rw [List.filter_append]
        by_cases h:hkey hs[i]=k <;> simp [h]
      rw [hopK_next e,addK_get,ih (by omega),hc]
      by_cases h:hkey hs[i]=k
      · simp only [h,if_true]
        by_cases h2:chs (hs.take i) k=[] <;> simp [h2]
      · simp only [h,if_false]
  have:=key hs.length (Nat.le_refl _)
  rwa [List.take_length] at this
theorem mapS_get (hs:List Hop) (k:List Int):mget ((hopK hs).map fun e=>(e.1,spS e.2)) k=if chs hs k=[] then none else some (spS (chs hs k)):=by
  rw [mget_map (fun e:List Int × List Sp=>e.1) (fun e=>spS e.2)]
  have h:=hopK_get hs k
  generalize (hopK hs).find? (fun e=>decide (e.1=k))=q at *
  cases q with
  | none =>
    by_cases h2:chs hs k=[]
    · simp [h2]
    · rw [if_neg h2] at h; cases h
  | some e =>
    by_cases h2:chs hs k=[]
    · rw [if_pos h2] at h; cases h
    · rw [if_neg h2] at h ⊢
      simp only [Option.map_some,Option.some.injEq] at h ⊢
      rw [h]
theorem isPlace_spec (l:List Nod) (a:At) (hl:stgSz l):Pure Tryz.prog 121 [stS l,.agg (At.cs a)] (bl (tr (0≤a.node∧a.node < (l.length:Int)∧Mem a.val ((l.map (·.al)).getD a.node.toNat [])))):=by
  refine Pure.of_body Tryz.call121 Tryz.func121 k121 (Nat.le_of_ble_eq_true rfl) ?_
  unfold c121
  by_cases h:0≤a.node∧a.node < (l.length:Int)
  · obtain ⟨x,hx⟩:∃ x,l[a.node.toNat]?=some x:=⟨_,List.getElem?_eq_getElem (by omega)⟩
    have hs:=hl.2 x (List.mem_of_getElem? hx)
    rw [getD_map' hx]
    obtain ⟨h1,h2⟩:=h
    (repeat' ((first
 | refine vn rfl ?_
 | simp (disch:=omega) only [wr64,Int.zero_sub]
 | refine bo (fun _=>?_) fun _=>?_
 | refine im fun _=>?_
 | ((repeat refine si ?_); (first | ((first | refine .inl ⟨_,_,_,_,rfl,fun _=>pu (has_spec x.al a.val hs.1),?_⟩ | refine ⟨_,_,_,_,rfl,fun _=>pu (has_spec x.al a.val hs.1),?_⟩); (first | refine o1 ?_ | refine o2 ?_ | refine o3 ?_ | refine o4 ?_)) | refine .inl ⟨_,_,_,_,rfl,pu (has_spec x.al a.val hs.1),?_⟩))
 | refine cF ?_
 | refine om ?_
 | refine an ?_
 | fail) <;> try simp only [zT,zV,zS,zU,vcC,lateX,ex,strp,binA,elems,cells,scalar,eqC,keyA,intsA,lookA,ofVs,mpOf,Nat.reduceBEq,reduceAdd,reduceSub,reduceLT,reduceLeDiff,reduceMul,reduceEqDiff,reduceIte,getD_map hx]))
    all_goals try (exfalso; omega)
    refine Frz.eq (congrArg bl ?_) (by simp)
    simp [h1,h2]
  · have fin:∀ q:Prop,tr (0≤a.node∧a.node < (l.length:Int)∧q)=false:=fun q=>tr_0 fun h'=>h ⟨h'.1,h'.2.1⟩
    rw [fin]
    cases hq:l[a.node.toNat]? with
    | none =>
      have h0:(l.map Nod.cs).getD a.node.toNat []=[]:=by simp [List.getD_eq_getElem?_getD,hq]
      (repeat' ((first
 | refine vn rfl ?_
 | simp (disch:=omega) only [wr64,Int.zero_sub]
 | refine bo (fun _=>?_) fun _=>?_
 | refine im fun _=>?_
 | refine cF ?_
 | refine cG ?_
 | refine om ?_
 | refine an ?_
 | fail) <;> try simp only [zT,zV,zS,zU,vcC,lateX,ex,strp,binA,elems,cells,scalar,eqC,keyA,intsA,lookA,ofVs,mpOf,Nat.reduceBEq,reduceAdd,reduceSub,reduceLT,reduceLeDiff,reduceMul,reduceEqDiff,reduceIte,h0,h]))
      all_goals exact Frz.eq rfl (by simp)
    | some x =>
      (repeat' ((first
 | refine vn rfl ?_
 | simp (disch:=omega) only [wr64,Int.zero_sub]
 | refine bo (fun _=>?_) fun _=>?_
 | refine im fun _=>?_
 | ((repeat refine si ?_); (first | ((first | refine .inl ⟨_,_,_,_,rfl,fun _=>pu (has_spec x.al a.val (hl.2 x (List.mem_of_getElem? hq)).1),?_⟩ | refine ⟨_,_,_,_,rfl,fun _=>pu (has_spec x.al a.val (hl.2 x (List.mem_of_getElem? hq)).1),?_⟩); (first | refine o1 ?_ | refine o2 ?_ | refine o3 ?_ | refine o4 ?_)) | refine .inl ⟨_,_,_,_,rfl,pu (has_spec x.al a.val (hl.2 x (List.mem_of_getElem? hq)).1),?_⟩))
 | refine cF ?_
 | refine om ?_
 | refine an ?_
 | fail) <;> try simp only [zT,zV,zS,zU,vcC,lateX,ex,strp,binA,elems,cells,scalar,eqC,keyA,intsA,lookA,ofVs,mpOf,Nat.reduceBEq,reduceAdd,reduceSub,reduceLT,reduceLeDiff,reduceMul,reduceEqDiff,reduceIte,getD_map hq]))
      refine Frz.eq (congrArg bl ?_) (by simp)
      simp only [decide_eq_false_iff_not]
      exact fun h'=>h h'.1
theorem has_nil (v:Int):Pure Tryz.prog 122 [.v (.slice none 0 0),n v] (bl (tr (Mem v []))) :=
  Pure.arg (has_spec [] v (by decide)) rfl fun i hi w X β σ x hx=>by
    match i,hi with
    | 0,_=>cases hx; exact .slnil _
    | 1,_=>exact hx
theorem way_snoc {t:Trk} {c:List At} {k:Nat} {a:At} (ha:c[k]?=some a):way t 0 (c.take (k+1))↔way t 0 (c.take k)∧placeOk t k a∧(∀ p,0 < k→c[k - 1]?=some p→stepOk t (k - 1) p a):=by
  have hk:=(List.getElem?_eq_some_iff.1 ha).1
  have hlen:(c.take k).length=k:=by rw [List.length_take]; omega
  rw [take_snoc ha,way_append,hlen]
  refine and_congr_right fun _=>?_
  simp only [way,Nat.zero_add,List.getElem?_cons_zero,Option.some.injEq]
  refine and_congr_right fun _=>?_
  constructor
  · intro h p h0 hp
    refine h p a ?_ rfl
    rw [List.getLast?_eq_getElem?,hlen,List.getElem?_take,if_pos (by omega)]; exact hp
  · rintro h p b hp rfl
    rw [List.getLast?_eq_getElem?,hlen] at hp
    by_cases h0:0 < k
    · rw [List.getElem?_take,if_pos (by omega)] at hp
      exact h p h0 hp
    · obtain rfl:k=0:=by omega
      simp at hp
theorem way_take {t:Trk} {c:List At} (h:way t 0 c) (k:Nat):way t 0 (c.take k):=by
  rw [← List.take_append_drop k c,way_append] at h
  exact h.1
theorem stepOk_chs {t:Trk} {k:Nat} {p a:At} (hp:0≤p.node) (ha:0≤a.node):stepOk t k p a↔Mem (a.val - p.val) (chs (stp t k) [p.node,a.node]):=by
  unfold stepOk chs Mem
  constructor
  · rintro ⟨h,hm,e1,e2,h1,h2⟩
    refine ⟨h.ch,List.mem_map.2 ⟨h,List.mem_filter.2 ⟨hm,?_⟩,rfl⟩,h1,h2⟩
    simp only [hkey,List.cons.injEq,and_true,decide_eq_true_eq]; omega
  · rintro ⟨s,hs,h1,h2⟩
    obtain ⟨h,hm,rfl⟩:=List.mem_map.1 hs
    obtain ⟨hm,e⟩:=List.mem_filter.1 hm
    simp only [hkey,List.cons.injEq,and_true,decide_eq_true_eq] at e
    exact ⟨h,hm,by omega,by omega,h1,h2⟩
theorem mem_val {t:Trk} (hv:valid t) {k:Nat} {a:At} (h:placeOk t k a):-100000≤a.val∧a.val≤100000:=mem_of_in (goods_get (als_goods hv k) _).2 h.2.2
theorem Keeps_spec (t:Trk) (c:List At) (hs:trkSz t) (hc:c.length < 9223372036854775808):Pure Tryz.prog 61 [trS t,atS c] (n (if tr (valid t) then (if tr (course t c) then 0 else 41) else 40)):=by
  refine Pure.of_body Tryz.call61 Tryz.func61 k61 (Nat.le_of_ble_eq_true rfl) ?_
  unfold c61
  by_cases hv:valid t
  · rw [tr_1 hv,if_pos rfl]
    have hck:=Check_spec t hs
    rw [tr_1 hv,if_pos rfl] at hck
    by_cases hl:c.length=t.length
    · have hln:=hs.1
      (repeat' ((first
 | refine vn rfl ?_
 | simp (disch:=omega) only [wr64,Int.zero_sub]
 | refine bo (fun _=>?_) fun _=>?_
 | refine im fun _=>?_
 | ((repeat refine si ?_); (first | ((first | refine .inl ⟨_,_,_,_,rfl,fun _=>pu hck,?_⟩ | refine ⟨_,_,_,_,rfl,fun _=>pu hck,?_⟩); (first | refine o1 ?_ | refine o2 ?_ | refine o3 ?_ | refine o4 ?_)) | refine .inl ⟨_,_,_,_,rfl,pu hck,?_⟩))
 | refine cF ?_
 | refine om ?_
 | refine an ?_
 | fail) <;> try simp only [zT,zV,zS,zU,vcC,lateX,ex,strp,binA,elems,cells,scalar,eqC,keyA,intsA,lookA,ofVs,mpOf,Nat.reduceBEq,reduceAdd,reduceSub,reduceLT,reduceLeDiff,reduceMul,reduceEqDiff,reduceIte]))
      all_goals try (exfalso; omega)
      refine AWPC.loopE (α:={ x:Nat × Sto // x.1≤c.length∧way t 0 (c.take x.1) }) [21] (fun x=>[(21,n x.1.1)]) (fun x=>x.1.2) (fun x=>c.length - x.1.1) ⟨(0,[]),by simp,trivial⟩ ?_ ?_ ?_
      · (simp only [zT,zV,zS,zU,vcC,lateX,ex,strp,binA,elems,cells,scalar,eqC,keyA,intsA,lookA,ofVs,mpOf,Nat.reduceBEq,reduceAdd,reduceSub,reduceLT,reduceLeDiff,reduceMul,reduceEqDiff,reduceIte]; try simp)
      · rfl
      rintro ⟨⟨k,τ⟩,hk,hw⟩
      simp only at hk hw
      simp only
      by_cases hlt:k < c.length
      · obtain ⟨a,ha⟩:∃ a,c[k]?=some a:=⟨_,List.getElem?_eq_getElem hlt⟩
        obtain ⟨L,hL⟩:∃ L,t[k]?=some L:=⟨_,List.getElem?_eq_getElem (by omega)⟩
        have hp:=isPlace_spec L a (hs.2 L (List.mem_of_getElem? hL))
        have hL':t.getD k []=L:=by rw [List.getD_eq_getElem?_getD,hL]; rfl
        have hpl:(0≤a.node∧a.node < (L.length:Int)∧Mem a.val ((L.map (·.al)).getD a.node.toNat []))↔placeOk t k a:=by unfold placeOk wd als; rw [hL']
        have hsn:=way_snoc (t:=t) ha
        have hno:¬ way t 0 (c.take (k+1))→¬ course t c:=fun h h'=>h (way_take h'.2 _)
        by_cases hpa:placeOk t k a
        · rw [tr_1 (hpl.2 hpa)] at hp
          obtain ⟨b1,b2⟩:=mem_val hv hpa
          by_cases h0:k=0
          · subst h0
            have hm1:(-1:Int).toNat=0:=rfl
            (repeat' ((first
 | refine vn rfl ?_
 | simp (disch:=omega) only [wr64,Int.zero_sub]
 | refine bo (fun _=>?_) fun _=>?_
 | refine im fun _=>?_
 | ((repeat refine si ?_); (first | ((first | refine .inl ⟨_,_,_,_,rfl,fun _=>pu hp,?_⟩ | refine ⟨_,_,_,_,rfl,fun _=>pu hp,?_⟩); (first | refine o1 ?_ | refine o2 ?_ | refine o3 ?_ | refine o4 ?_)) | refine .inl ⟨_,_,_,_,rfl,pu hp,?_⟩))
 | refine cF ?_
 | refine cG ?_
 | refine om ?_
 | refine an ?_
 | fail) <;> try simp only [zT, zV, zS, zU, vcC, lateX, ex, strp, binA, elems, cells, scalar, eqC, keyA, intsA, lookA, ofVs, mpOf, Nat.reduceBEq, reduceAdd, reduceSub, reduceLT, reduceLeDiff, reduceMul, reduceEqDiff, reduceIte, getD_map ha, getD_map hL, hm1]))
            all_goals try (exfalso; omega)
            exact ⟨⟨(1,_),hlt,hsn.2 ⟨hw,hpa,fun p h=>absurd h (by omega)⟩⟩,by simp,rfl,by simp only; omega⟩
          · obtain ⟨p,hpp⟩:∃ p,c[k - 1]?=some p:=⟨_,List.getElem?_eq_getElem (by omega)⟩
            obtain ⟨L',hL2⟩:∃ L,t[k - 1]?=some L:=⟨_,List.getElem?_eq_getElem (by omega)⟩
            have hL3:t.getD (k - 1) []=L':=by rw [List.getD_eq_getElem?_getD,hL2]; rfl
            have hpp2:placeOk t (k - 1) p:=by
              have h1:=way_take hw k
              have h2:=way_snoc (t:=t) hpp
              rw [show k - 1+1=k by omega] at h2
              exact (h2.1 hw).2.1
            obtain ⟨b3,b4⟩:=mem_val hv hpp2
            have hh:=hops_spec (wd t (k - 1+1)) L' (hL3 ▸ valid_stg hv (by omega))
            have hi:((k:Int) - 1).toNat=k - 1:=by omega
            have hst:=stepOk_chs (t:=t) (k:=k - 1) hpp2.1 hpa.1
            rw [show stp t (k - 1)=hops L' by unfold stp; rw [hL3]] at hst
            have hmg:=mapS_get (hops L') [p.node,a.node]
            have hcl:(chs (hops L') [p.node,a.node]).length < 9223372036854775808:=by
              have h1:=valid_stg hv (show k - 1 < t.length by omega)
              rw [hL3] at h1
              have h2:(hops L').length≤64 * L'.length:=hops_len h1.2.2
              have h3:(chs (hops L') [p.node,a.node]).length≤(hops L').length:=by unfold chs; rw [List.length_map]; exact List.length_filter_le _ _
              have:=h1.2.1
              omega
            have hsn2:way t 0 (c.take (k+1))↔stepOk t (k - 1) p a:=by
              rw [hsn]
              exact ⟨fun h=>h.2.2 p (by omega) hpp,fun h=>⟨hw,hpa,fun q _ hq=>by rw [hpp] at hq; injection hq with hq; subst hq; exact h⟩⟩
            have fin:∀ b:Bool,b=tr (Mem (a.val - p.val) (chs (hops L') [p.node,a.node]))→(b=true→way t 0 (c.take (k+1)))∧(b=false→tr (course t c)=false):=by
              rintro b rfl
              exact ⟨fun h=>hsn2.2 (hst.2 (tr_iff.1 h)),fun h=>tr_0 (hno fun h'=>tr_not.1 h (hst.1 (hsn2.1 h')))⟩
            by_cases hnil:chs (hops L') [p.node,a.node]=[]
            · rw [if_pos hnil] at hmg
              rw [hnil] at fin
              obtain ⟨f1,f2⟩:=fin _ rfl
              have hz:tr (Mem (a.val - p.val) [])=false:=tr_0 Mem.nil
              have hhn:=has_nil (a.val - p.val)
              rw [hz] at hhn f2
              rw [f2 rfl]
              (repeat' ((first
 | refine vn rfl ?_
 | simp (disch:=omega) only [wr64,Int.zero_sub]
 | refine bo (fun _=>?_) fun _=>?_
 | refine im fun _=>?_
 | ((repeat refine si ?_); (first | ((first | refine .inl ⟨_,_,_,_,rfl,fun _=>pu (by first | exact hp | exact hh | exact hhn),?_⟩ | refine ⟨_,_,_,_,rfl,fun _=>pu (by first | exact hp | exact hh | exact hhn),?_⟩); (first | refine o1 ?_ | refine o2 ?_ | refine o3 ?_ | refine o4 ?_)) | refine .inl ⟨_,_,_,_,rfl,pu (by first | exact hp | exact hh | exact hhn),?_⟩))
 | refine cF ?_
 | refine om ?_
 | refine an ?_
 | fail) <;> try simp only [zT, zV, zS, zU, vcC, lateX, ex, strp, binA, elems, cells, scalar, eqC, keyA, intsA, lookA, ofVs, mpOf, Nat.reduceBEq, reduceAdd, reduceSub, reduceLT, reduceLeDiff, reduceMul, reduceEqDiff, reduceIte, getD_map ha, getD_map hL, getD_map hpp, getD_map hL2, hi, hmg]))
              all_goals try (exfalso; omega)
              all_goals exact Frz.eq rfl (by simp)
            · rw [if_neg hnil] at hmg
              have hha:=has_spec (chs (hops L') [p.node,a.node]) (a.val - p.val) hcl
              obtain ⟨f1,f2⟩:=fin _ rfl
              generalize tr (Mem (a.val - p.val) (chs (hops L') [p.node,a.node]))=b at *
              cases b with
              | false =>
                rw [f2 rfl]
                (repeat' ((first
 | refine vn rfl ?_
 | simp (disch:=omega) only [wr64,Int.zero_sub]
 | refine bo (fun _=>?_) fun _=>?_
 | refine im fun _=>?_
 | ((repeat refine si ?_); (first | ((first | refine .inl ⟨_,_,_,_,rfl,fun _=>pu (by first | exact hp | exact hh | exact hha),?_⟩ | refine ⟨_,_,_,_,rfl,fun _=>pu (by first | exact hp | exact hh | exact hha),?_⟩); (first | refine o1 ?_ | refine o2 ?_ | refine o3 ?_ | refine o4 ?_)) | refine .inl ⟨_,_,_,_,rfl,pu (by first | exact hp | exact hh | exact hha),?_⟩))
 | refine cF ?_
 | refine om ?_
 | refine an ?_
 | fail) <;> try simp only [zT, zV, zS, zU, vcC, lateX, ex, strp, binA, elems, cells, scalar, eqC, keyA, intsA, lookA, ofVs, mpOf, Nat.reduceBEq, reduceAdd, reduceSub, reduceLT, reduceLeDiff, reduceMul, reduceEqDiff, reduceIte, getD_map ha, getD_map hL, getD_map hpp, getD_map hL2, hi, hmg]))
                all_goals try (exfalso; omega)
                all_goals exact Frz.eq rfl (by simp)
              | true =>
                (repeat' ((first
 | refine vn rfl ?_
 | simp (disch:=omega) only [wr64,Int.zero_sub]
 | refine bo (fun _=>?_) fun _=>?_
 | refine im fun _=>?_
 | ((repeat refine si ?_); (first | ((first | refine .inl ⟨_,_,_,_,rfl,fun _=>pu (by first | exact hp | exact hh | exact hha),?_⟩ | refine ⟨_,_,_,_,rfl,fun _=>pu (by first | exact hp | exact hh | exact hha),?_⟩); (first | refine o1 ?_ | refine o2 ?_ | refine o3 ?_ | refine o4 ?_)) | refine .inl ⟨_,_,_,_,rfl,pu (by first | exact hp | exact hh | exact hha),?_⟩))
 | refine cF ?_
 | refine om ?_
 | refine an ?_
 | fail) <;> try simp only [zT, zV, zS, zU, vcC, lateX, ex, strp, binA, elems, cells, scalar, eqC, keyA, intsA, lookA, ofVs, mpOf, Nat.reduceBEq, reduceAdd, reduceSub, reduceLT, reduceLeDiff, reduceMul, reduceEqDiff, reduceIte, getD_map ha, getD_map hL, getD_map hpp, getD_map hL2, hi, hmg]))
                all_goals try (exfalso; omega)
                exact ⟨⟨(k+1,_),hlt,f1 rfl⟩,by simp,rfl,by simp only; omega⟩
        · rw [tr_0 (fun h=>hpa (hpl.1 h))] at hp
          rw [tr_0 (hno fun h=>hpa (hsn.1 h).2.1)]
          (repeat' ((first
 | refine vn rfl ?_
 | simp (disch:=omega) only [wr64,Int.zero_sub]
 | refine bo (fun _=>?_) fun _=>?_
 | refine im fun _=>?_
 | ((repeat refine si ?_); (first | ((first | refine .inl ⟨_,_,_,_,rfl,fun _=>pu hp,?_⟩ | refine ⟨_,_,_,_,rfl,fun _=>pu hp,?_⟩); (first | refine o1 ?_ | refine o2 ?_ | refine o3 ?_ | refine o4 ?_)) | refine .inl ⟨_,_,_,_,rfl,pu hp,?_⟩))
 | refine cF ?_
 | refine om ?_
 | refine an ?_
 | fail) <;> try simp only [zT, zV, zS, zU, vcC, lateX, ex, strp, binA, elems, cells, scalar, eqC, keyA, intsA, lookA, ofVs, mpOf, Nat.reduceBEq, reduceAdd, reduceSub, reduceLT, reduceLeDiff, reduceMul, reduceEqDiff, reduceIte, getD_map ha, getD_map hL]))
          all_goals try (exfalso; omega)
          all_goals exact Frz.eq rfl (by simp)
      · obtain rfl:k=c.length:=by omega
        rw [List.take_length] at hw
        rw [tr_1 (show course t c from ⟨hl,hw⟩)]
        (repeat' ((first
 | refine vn rfl ?_
 | simp (disch:=omega) only [wr64,Int.zero_sub]
 | refine bo (fun _=>?_) fun _=>?_
 | refine im fun _=>?_
 | refine cF ?_
 | refine om ?_
 | refine an ?_
 | fail) <;> try simp only [zT, zV, zS, zU, vcC, lateX, ex, strp, binA, elems, cells, scalar, eqC, keyA, intsA, lookA, ofVs, mpOf, Nat.reduceBEq, reduceAdd, reduceSub, reduceLT, reduceLeDiff, reduceMul, reduceEqDiff, reduceIte]))
        all_goals try (exfalso; omega)
        all_goals exact Frz.eq rfl (by simp)
    · have hnc:¬ course t c:=fun h=>hl h.1
      rw [tr_0 hnc]
      (repeat' ((first
 | refine vn rfl ?_
 | simp (disch:=omega) only [wr64,Int.zero_sub]
 | refine bo (fun _=>?_) fun _=>?_
 | refine im fun _=>?_
 | ((repeat refine si ?_); (first | ((first | refine .inl ⟨_,_,_,_,rfl,fun _=>pu hck,?_⟩ | refine ⟨_,_,_,_,rfl,fun _=>pu hck,?_⟩); (first | refine o1 ?_ | refine o2 ?_ | refine o3 ?_ | refine o4 ?_)) | refine .inl ⟨_,_,_,_,rfl,pu hck,?_⟩))
 | refine cF ?_
 | refine om ?_
 | refine an ?_
 | fail) <;> try simp only [zT,zV,zS,zU,vcC,lateX,ex,strp,binA,elems,cells,scalar,eqC,keyA,intsA,lookA,ofVs,mpOf,Nat.reduceBEq,reduceAdd,reduceSub,reduceLT,reduceLeDiff,reduceMul,reduceEqDiff,reduceIte]))
      all_goals try (exfalso; omega)
      all_goals exact Frz.eq rfl (by simp)
  · rw [tr_0 hv]
    have hck:=Check_spec t hs
    rw [tr_0 hv,if_neg (by decide)] at hck
    (repeat' ((first
 | refine vn rfl ?_
 | simp (disch:=omega) only [wr64,Int.zero_sub]
 | refine bo (fun _=>?_) fun _=>?_
 | refine im fun _=>?_
 | ((repeat refine si ?_); (first | ((first | refine .inl ⟨_,_,_,_,rfl,fun _=>pu hck,?_⟩ | refine ⟨_,_,_,_,rfl,fun _=>pu hck,?_⟩); (first | refine o1 ?_ | refine o2 ?_ | refine o3 ?_ | refine o4 ?_)) | refine .inl ⟨_,_,_,_,rfl,pu hck,?_⟩))
 | refine cF ?_
 | refine om ?_
 | refine an ?_
 | fail) <;> try simp only [zT,zV,zS,zU,vcC,lateX,ex,strp,binA,elems,cells,scalar,eqC,keyA,intsA,lookA,ofVs,mpOf,Nat.reduceBEq,reduceAdd,reduceSub,reduceLT,reduceLeDiff,reduceMul,reduceEqDiff,reduceIte]))
    all_goals try (exfalso; omega)
    all_goals exact Frz.eq rfl (by simp)
def c124:CF:=⟨32,
 (.seq (.ops [
 ⟨some 3,.box false 24 1 (.t 0),none⟩,
 ⟨some 5,.box false 26 2 (.t 2),none⟩,
 ⟨some 6,.mv (.c (.bool false)),none⟩] [1,3,5])
 (.seq (.draw [
 ⟨some 7,.faddr 0 (.t 5),none⟩,
 ⟨some 8,.load none (.t 7),none⟩,
 ⟨some 9,.faddr 0 (.t 3),none⟩,
 ⟨some 10,.load none (.t 9),none⟩,
 ⟨some 11,.mv (.t 1),none⟩,
 ⟨some 12,.iaddr 1 (.t 10) (.t 11),none⟩,
 ⟨some 13,.load none (.t 12),none⟩,
 ⟨some 14,.len (.t 13),none⟩,
 ⟨some 15,.bin .sub (.t 14) (.c (.int .i64 1)),none⟩,
 ⟨some 16,.call (.f 82) [(.t 8),(.c (.int .i64 0)),(.t 15)],none⟩,
 ⟨some 17,.mv (.t 16),none⟩,
 ⟨some 18,.faddr 0 (.t 3),some (17,true)⟩,
 ⟨some 19,.load none (.t 18),some (17,true)⟩,
 ⟨some 20,.mv (.t 1),some (17,true)⟩,
 ⟨some 21,.iaddr 1 (.t 19) (.t 20),some (17,true)⟩,
 ⟨some 22,.load none (.t 21),some (17,true)⟩,
 ⟨some 23,.faddr 0 (.t 5),some (17,true)⟩,
 ⟨some 24,.load none (.t 23),some (17,true)⟩,
 ⟨some 25,.iaddr 2 (.t 22) (.t 24),some (17,true)⟩,
 ⟨some 26,.faddr 0 (.t 25),some (17,true)⟩,
 ⟨some 27,.load none (.t 26),some (17,true)⟩,
 ⟨some 28,.faddr 1 (.t 5),some (17,true)⟩,
 ⟨some 29,.load none (.t 28),some (17,true)⟩,
 ⟨some 30,.call (.f 29) [(.t 27),(.t 29)],some (17,true)⟩,
 ⟨some 31,.pick (.t 17) (.t 30) (.c (.bool false)),none⟩,
 ⟨some 6,.mv (.t 31),none⟩] [
 ] [6])
 .ret)),
 [.t 6]⟩
def c125:CF:=⟨55,
 (.seq (.ops [
 ⟨some 4,.box false 24 1 (.t 0),none⟩,
 ⟨some 6,.box false 26 2 (.t 2),none⟩,
 ⟨some 7,.box false 26 2 (.t 3),none⟩,
 ⟨some 8,.mv (.c (.bool false)),none⟩] [1,4,6,7])
 (.seq (.draw [
 ⟨some 11,.faddr 0 (.t 4),none⟩,
 ⟨some 12,.load none (.t 11),none⟩,
 ⟨some 13,.mv (.t 1),none⟩,
 ⟨some 14,.iaddr 1 (.t 12) (.t 13),none⟩,
 ⟨some 15,.load none (.t 14),none⟩,
 ⟨some 16,.faddr 0 (.t 6),none⟩,
 ⟨some 17,.load none (.t 16),none⟩,
 ⟨some 18,.iaddr 2 (.t 15) (.t 17),none⟩,
 ⟨some 19,.faddr 1 (.t 18),none⟩,
 ⟨some 20,.load none (.t 19),none⟩,
 ⟨some 9,.mv (.t 20),none⟩] [
 ] [6,7,9])
 (.seq (.seq (.ops [
 ⟨some 10,.mv (.c (.int .i64 0)),none⟩] [6,7,9,10])
 (.block 0 (.loop (.seq (.seq (.ops [
 ⟨some 21,.mv (.t 10),none⟩,
 ⟨some 22,.mv (.t 9),none⟩,
 ⟨some 23,.len (.t 22),none⟩,
 ⟨some 24,.bin .lss (.t 21) (.t 23),none⟩] [6,7,9,10,24])
 (.cond (.t 24) .skip
 (.exit 0)))
 (.seq (.block 1 (.seq (.draw [
 ⟨some 27,.mv (.t 9),none⟩,
 ⟨some 28,.mv (.t 10),none⟩,
 ⟨some 29,.iaddr 3 (.t 27) (.t 28),none⟩,
 ⟨some 30,.faddr 0 (.t 29),none⟩,
 ⟨some 31,.load none (.t 30),none⟩,
 ⟨some 32,.faddr 0 (.t 7),none⟩,
 ⟨some 33,.load none (.t 32),none⟩,
 ⟨some 34,.bin .eql (.t 31) (.t 33),none⟩,
 ⟨some 35,.mv (.t 34),none⟩,
 ⟨some 36,.faddr 1 (.t 7),some (35,true)⟩,
 ⟨some 37,.load none (.t 36),some (35,true)⟩,
 ⟨some 38,.faddr 1 (.t 6),some (35,true)⟩,
 ⟨some 39,.load none (.t 38),some (35,true)⟩,
 ⟨some 40,.bin .sub (.t 37) (.t 39),some (35,true)⟩,
 ⟨some 41,.mv (.t 9),some (35,true)⟩,
 ⟨some 42,.mv (.t 10),some (35,true)⟩,
 ⟨some 43,.iaddr 3 (.t 41) (.t 42),some (35,true)⟩,
 ⟨some 44,.faddr 1 (.t 43),some (35,true)⟩,
 ⟨some 45,.faddr 0 (.t 44),some (35,true)⟩,
 ⟨some 46,.load none (.t 45),some (35,true)⟩,
 ⟨some 47,.mv (.t 9),some (35,true)⟩,
 ⟨some 48,.mv (.t 10),some (35,true)⟩,
 ⟨some 49,.iaddr 3 (.t 47) (.t 48),some (35,true)⟩,
 ⟨some 50,.faddr 1 (.t 49),some (35,true)⟩,
 ⟨some 51,.faddr 1 (.t 50),some (35,true)⟩,
 ⟨some 52,.load none (.t 51),some (35,true)⟩,
 ⟨some 53,.call (.f 82) [(.t 40),(.t 46),(.t 52)],some (35,true)⟩,
 ⟨some 54,.pick (.t 35) (.t 53) (.c (.bool false)),none⟩] [
 ] [6,7,9,10,54])
 (.cond (.t 54) (.seq (.ops [
 ⟨some 8,.mv (.c (.bool true)),none⟩] [8])
 .ret)
 .skip)))
 (.ops [
 ⟨some 25,.mv (.t 10),none⟩,
 ⟨some 26,.bin .add (.t 25) (.c (.int .i64 1)),none⟩,
 ⟨some 10,.mv (.t 26),none⟩] [6,7,9,10]))))))
 (.seq (.ops [
 ⟨some 8,.mv (.c (.bool false)),none⟩] [8])
 .ret)))),
 [.t 8]⟩
def c62:CF:=⟨52,
 (.seq (.ops [
 ⟨some 2,.box false 24 1 (.t 0),none⟩,
 ⟨some 4,.mv (.c (.int .i64 0)),none⟩] [1,2])
 (.seq (.ops [
 ⟨some 7,.load (some 1) (.t 2),none⟩,
 ⟨some 8,.call (.f 58) [(.t 7)],none⟩,
 ⟨some 5,.mv (.t 8),none⟩] [1,2,5])
 (.seq (.seq (.ops [
 ⟨some 9,.mv (.t 5),none⟩,
 ⟨some 10,.bin .neq (.t 9) (.c (.int .i64 0)),none⟩] [1,2,5,10])
 (.cond (.t 10) (.seq (.ops [
 ⟨some 11,.mv (.t 5),none⟩,
 ⟨some 4,.mv (.t 11),none⟩] [4])
 .ret)
 .skip))
 (.seq (.seq (.ops [
 ⟨some 12,.mv (.t 1),none⟩,
 ⟨some 13,.len (.t 12),none⟩,
 ⟨some 14,.faddr 0 (.t 2),none⟩,
 ⟨some 15,.load none (.t 14),none⟩,
 ⟨some 16,.len (.t 15),none⟩,
 ⟨some 17,.bin .neq (.t 13) (.t 16),none⟩] [1,2,17])
 (.cond (.t 17) (.seq (.ops [
 ⟨some 4,.mv (.c (.int .i64 41)),none⟩] [4])
 .ret)
 .skip))
 (.seq (.seq (.ops [
 ⟨some 6,.mv (.c (.int .i64 0)),none⟩] [1,2,6])
 (.block 0 (.loop (.seq (.seq (.ops [
 ⟨some 18,.mv (.t 6),none⟩,
 ⟨some 19,.mv (.t 1),none⟩,
 ⟨some 20,.len (.t 19),none⟩,
 ⟨some 21,.bin .lss (.t 18) (.t 20),none⟩] [1,2,6,21])
 (.cond (.t 21) .skip
 (.exit 0)))
 (.seq (.block 1 (.seq (.draw [
 ⟨some 24,.load (some 1) (.t 2),none⟩,
 ⟨some 25,.mv (.t 6),none⟩,
 ⟨some 26,.mv (.t 1),none⟩,
 ⟨some 27,.mv (.t 6),none⟩,
 ⟨some 28,.iaddr 2 (.t 26) (.t 27),none⟩,
 ⟨some 29,.load (some 2) (.t 28),none⟩,
 ⟨some 30,.call (.f 124) [(.t 24),(.t 25),(.t 29)],none⟩,
 ⟨some 31,.un .not (.t 30),none⟩,
 ⟨some 32,.mv (.t 31),none⟩,
 ⟨some 33,.mv (.t 6),some (32,false)⟩,
 ⟨some 34,.bin .gtr (.t 33) (.c (.int .i64 0)),some (32,false)⟩,
 ⟨some 35,.mv (.t 34),some (32,false)⟩,
 ⟨some 36,.load (some 1) (.t 2),some (35,true)⟩,
 ⟨some 37,.mv (.t 6),some (35,true)⟩,
 ⟨some 38,.bin .sub (.t 37) (.c (.int .i64 1)),some (35,true)⟩,
 ⟨some 39,.mv (.t 1),some (35,true)⟩,
 ⟨some 40,.mv (.t 6),some (35,true)⟩,
 ⟨some 41,.bin .sub (.t 40) (.c (.int .i64 1)),some (35,true)⟩,
 ⟨some 42,.iaddr 2 (.t 39) (.t 41),some (35,true)⟩,
 ⟨some 43,.load (some 2) (.t 42),some (35,true)⟩,
 ⟨some 44,.mv (.t 1),some (35,true)⟩,
 ⟨some 45,.mv (.t 6),some (35,true)⟩,
 ⟨some 46,.iaddr 2 (.t 44) (.t 45),some (35,true)⟩,
 ⟨some 47,.load (some 2) (.t 46),some (35,true)⟩,
 ⟨some 48,.call (.f 125) [(.t 36),(.t 38),(.t 43),(.t 47)],some (35,true)⟩,
 ⟨some 49,.un .not (.t 48),some (35,true)⟩,
 ⟨some 50,.pick (.t 35) (.t 49) (.c (.bool false)),some (32,false)⟩,
 ⟨some 51,.pick (.t 32) (.c (.bool true)) (.t 50),none⟩] [
 ] [1,2,6,51])
 (.cond (.t 51) (.seq (.ops [
 ⟨some 4,.mv (.c (.int .i64 41)),none⟩] [4])
 .ret)
 .skip)))
 (.ops [
 ⟨some 22,.mv (.t 6),none⟩,
 ⟨some 23,.bin .add (.t 22) (.c (.int .i64 1)),none⟩,
 ⟨some 6,.mv (.t 23),none⟩] [1,2,6]))))))
 (.seq (.ops [
 ⟨some 4,.mv (.c (.int .i64 0)),none⟩] [4])
 .ret)))))),
 [.t 4]⟩
def c57:CF:=⟨23,
 (.seq (.ops [
 ⟨some 1,.box false 24 1 (.t 0),none⟩,
 ⟨some 2,.mv (.c (.bool false)),none⟩,
 ⟨some 3,.mv (.c (.int .i64 0)),none⟩] [1])
 (.seq (.ops [
 ⟨some 7,.load (some 1) (.t 1),none⟩,
 ⟨some 8,.call (.f 31) [(.t 7)],none⟩,
 ⟨some 6,.mv (.t 8),none⟩,
 ⟨some 9,.ext 0 (.t 6),none⟩,
 ⟨some 10,.ext 1 (.t 6),none⟩,
 ⟨some 4,.mv (.t 9),none⟩,
 ⟨some 5,.mv (.t 10),none⟩] [4,5])
 (.seq (.seq (.ops [
 ⟨some 11,.mv (.t 5),none⟩,
 ⟨some 12,.bin .neq (.t 11) (.c (.int .i64 0)),none⟩] [4,5,12])
 (.cond (.t 12) (.seq (.ops [
 ⟨some 13,.mv (.t 5),none⟩,
 ⟨some 2,.mv (.c (.bool false)),none⟩,
 ⟨some 3,.mv (.t 13),none⟩] [2,3])
 .ret)
 .skip))
 (.seq (.ops [
 ⟨some 14,.mv (.t 4),none⟩,
 ⟨some 15,.mv (.t 4),none⟩,
 ⟨some 16,.len (.t 15),none⟩,
 ⟨some 17,.bin .sub (.t 16) (.c (.int .i64 1)),none⟩,
 ⟨some 18,.iaddr 1 (.t 14) (.t 17),none⟩,
 ⟨some 19,.load none (.t 18),none⟩,
 ⟨some 20,.call (.f 73) [(.t 19)],none⟩,
 ⟨some 21,.len (.t 20),none⟩,
 ⟨some 22,.bin .gtr (.t 21) (.c (.int .i64 0)),none⟩,
 ⟨some 2,.mv (.t 22),none⟩,
 ⟨some 3,.mv (.c (.int .i64 0)),none⟩] [2,3])
 .ret)))),
 [.t 2,.t 3]⟩
def c63:CF:=⟨17,
 (.seq (.ops [
 ⟨some 4,.mv (.c (.slice none 0 0)),none⟩,
 ⟨some 5,.mv (.c (.int .i64 0)),none⟩] [0,1])
 (.seq (.seq (.ops [
 ⟨some 6,.mv (.t 0),none⟩,
 ⟨some 7,.call (.f 60) [(.t 6)],none⟩,
 ⟨some 8,.bin .neq (.t 7) (.c (.int .i64 0)),none⟩,
 ⟨some 9,.mv (.t 8),none⟩,
 ⟨some 10,.mv (.t 1),some (9,false)⟩,
 ⟨some 11,.call (.f 60) [(.t 10)],some (9,false)⟩,
 ⟨some 12,.bin .neq (.t 11) (.c (.int .i64 0)),some (9,false)⟩,
 ⟨some 13,.pick (.t 9) (.c (.bool true)) (.t 12),none⟩] [0,1,13])
 (.cond (.t 13) (.seq (.ops [
 ⟨some 4,.mv (.c (.slice none 0 0)),none⟩,
 ⟨some 5,.mv (.c (.int .i64 1)),none⟩] [4,5])
 .ret)
 .skip))
 (.seq (.ops [
 ⟨some 14,.mv (.t 0),none⟩,
 ⟨some 15,.mv (.t 1),none⟩,
 ⟨some 16,.call (.f 126) [(.t 14),(.t 15)],none⟩,
 ⟨some 4,.mv (.t 16),none⟩,
 ⟨some 5,.mv (.c (.int .i64 0)),none⟩] [4,5])
 .ret))),
 [.t 4,.t 5]⟩
def c64:CF:=⟨17,
 (.seq (.ops [
 ⟨some 4,.mv (.c (.slice none 0 0)),none⟩,
 ⟨some 5,.mv (.c (.int .i64 0)),none⟩] [0,1])
 (.seq (.seq (.ops [
 ⟨some 6,.mv (.t 0),none⟩,
 ⟨some 7,.call (.f 60) [(.t 6)],none⟩,
 ⟨some 8,.bin .neq (.t 7) (.c (.int .i64 0)),none⟩,
 ⟨some 9,.mv (.t 8),none⟩,
 ⟨some 10,.mv (.t 1),some (9,false)⟩,
 ⟨some 11,.call (.f 60) [(.t 10)],some (9,false)⟩,
 ⟨some 12,.bin .neq (.t 11) (.c (.int .i64 0)),some (9,false)⟩,
 ⟨some 13,.pick (.t 9) (.c (.bool true)) (.t 12),none⟩] [0,1,13])
 (.cond (.t 13) (.seq (.ops [
 ⟨some 4,.mv (.c (.slice none 0 0)),none⟩,
 ⟨some 5,.mv (.c (.int .i64 1)),none⟩] [4,5])
 .ret)
 .skip))
 (.seq (.ops [
 ⟨some 14,.mv (.t 0),none⟩,
 ⟨some 15,.mv (.t 1),none⟩,
 ⟨some 16,.call (.f 127) [(.t 14),(.t 15)],none⟩,
 ⟨some 4,.mv (.t 16),none⟩,
 ⟨some 5,.mv (.c (.int .i64 0)),none⟩] [4,5])
 .ret))),
 [.t 4,.t 5]⟩
theorem k124:chkF Tryz.prog Tryz.f124 c124=true:=by kernel_rfl
theorem k125:chkF Tryz.prog Tryz.f125 c125=true:=by kernel_rfl
theorem k62:chkF Tryz.prog Tryz.f62 c62=true:=by kernel_rfl
theorem k57:chkF Tryz.prog Tryz.f57 c57=true:=by kernel_rfl
theorem k63:chkF Tryz.prog Tryz.f63 c63=true:=by kernel_rfl
theorem k64:chkF Tryz.prog Tryz.f64 c64=true:=by kernel_rfl
theorem place_spec (t:Trk) (k:Nat) (a:At) (hs:trkSz t) (hk:k < t.length):Pure Tryz.prog 124 [trS t,n k,.agg (At.cs a)] (bl (tr (placeOk t k a))):=by
  refine Pure.of_body Tryz.call124 Tryz.func124 k124 (Nat.le_of_ble_eq_true rfl) ?_
  unfold c124
  have gt1:(t.map fun l=>[stS l]).getD k []=[stS (t.getD k [])]:=getD_map (getD_some hk)
  have hL:stgSz (t.getD k []):=hs.2 _ (List.mem_of_getElem? (getD_some hk))
  have hll:=hL.1
  unfold placeOk wd als
  generalize t.getD k []=L at *
  have hwi:=within_spec a.node 0 ((L.length:Int) - 1)
  by_cases h:0≤a.node∧a.node < (L.length:Int)
  · obtain ⟨x,hx⟩:∃ x,L[a.node.toNat]?=some x:=⟨_,List.getElem?_eq_getElem (by omega)⟩
    have hsx:=hL.2 x (List.mem_of_getElem? hx)
    rw [getD_map' hx]
    rw [decide_eq_true (by omega)] at hwi
    obtain ⟨h1,h2⟩:=h
    (repeat' ((first
 | refine vn rfl ?_
 | simp (disch:=omega) only [wr64,Int.zero_sub]
 | refine bo (fun _=>?_) fun _=>?_
 | refine im fun _=>?_
 | ((repeat refine si ?_); (first | ((first | refine .inl ⟨_,_,_,_,rfl,fun _=>pu (by first | exact hwi | exact In_spec x.al a.val hsx.1),?_⟩ | refine ⟨_,_,_,_,rfl,fun _=>pu (by first | exact hwi | exact In_spec x.al a.val hsx.1),?_⟩); (first | refine o1 ?_ | refine o2 ?_ | refine o3 ?_ | refine o4 ?_)) | refine .inl ⟨_,_,_,_,rfl,pu (by first | exact hwi | exact In_spec x.al a.val hsx.1),?_⟩))
 | refine cF ?_
 | refine om ?_
 | refine an ?_
 | fail) <;> try simp only [zT,zV,zS,zU,vcC,lateX,ex,strp,binA,elems,cells,scalar,eqC,keyA,intsA,lookA,ofVs,mpOf,Nat.reduceBEq,reduceAdd,reduceSub,reduceLT,reduceLeDiff,reduceMul,reduceEqDiff,reduceIte,gt1,getD_map hx]))
    all_goals try (exfalso; omega)
    refine Frz.eq (congrArg bl ?_) (by simp)
    simp [h1,h2]
  · have fin:∀ q:Prop,tr (0≤a.node∧a.node < (L.length:Int)∧q)=false:=fun q=>tr_0 fun h'=>h ⟨h'.1,h'.2.1⟩
    rw [fin]
    rw [decide_eq_false (by omega)] at hwi
    cases hq:L[a.node.toNat]? with
    | none =>
      have h0:(L.map Nod.cs).getD a.node.toNat []=[]:=by simp [List.getD_eq_getElem?_getD,hq]
      (repeat' ((first
 | refine vn rfl ?_
 | simp (disch:=omega) only [wr64,Int.zero_sub]
 | refine bo (fun _=>?_) fun _=>?_
 | refine im fun _=>?_
 | ((repeat refine si ?_); (first | ((first | refine .inl ⟨_,_,_,_,rfl,fun _=>pu hwi,?_⟩ | refine ⟨_,_,_,_,rfl,fun _=>pu hwi,?_⟩); (first | refine o1 ?_ | refine o2 ?_ | refine o3 ?_ | refine o4 ?_)) | refine .inl ⟨_,_,_,_,rfl,pu hwi,?_⟩))
 | refine cF ?_
 | refine cG ?_
 | refine om ?_
 | refine an ?_
 | fail) <;> try simp only [zT,zV,zS,zU,vcC,lateX,ex,strp,binA,elems,cells,scalar,eqC,keyA,intsA,lookA,ofVs,mpOf,Nat.reduceBEq,reduceAdd,reduceSub,reduceLT,reduceLeDiff,reduceMul,reduceEqDiff,reduceIte,gt1,h0]))
      all_goals try (exfalso; omega)
      all_goals exact Frz.eq rfl (by simp)
    | some x =>
      (repeat' ((first
 | refine vn rfl ?_
 | simp (disch:=omega) only [wr64,Int.zero_sub]
 | refine bo (fun _=>?_) fun _=>?_
 | refine im fun _=>?_
 | ((repeat refine si ?_); (first | ((first | refine .inl ⟨_,_,_,_,rfl,fun _=>pu hwi,?_⟩ | refine ⟨_,_,_,_,rfl,fun _=>pu hwi,?_⟩); (first | refine o1 ?_ | refine o2 ?_ | refine o3 ?_ | refine o4 ?_)) | refine .inl ⟨_,_,_,_,rfl,pu hwi,?_⟩))
 | refine cF ?_
 | refine cG ?_
 | refine om ?_
 | refine an ?_
 | fail) <;> try simp only [zT,zV,zS,zU,vcC,lateX,ex,strp,binA,elems,cells,scalar,eqC,keyA,intsA,lookA,ofVs,mpOf,Nat.reduceBEq,reduceAdd,reduceSub,reduceLT,reduceLeDiff,reduceMul,reduceEqDiff,reduceIte,gt1,getD_map hq]))
      all_goals try (exfalso; omega)
      all_goals exact Frz.eq rfl (by simp)
theorem step_spec (t:Trk) (k:Nat) (p a:At) (hv:valid t) (hs:trkSz t) (hk:k < t.length) (hp:placeOk t k p) (ha0:0≤a.node) (hav:-1000000≤a.val∧a.val≤1000000):Pure Tryz.prog 125 [trS t,n k,.agg (At.cs p),.agg (At.cs a)] (bl (tr (stepOk t k p a))):=by
  refine Pure.of_body Tryz.call125 Tryz.func125 k125 (Nat.le_of_ble_eq_true rfl) ?_
  unfold c125
  have gt1:(t.map fun l=>[stS l]).getD k []=[stS (t.getD k [])]:=getD_map (getD_some hk)
  have hL:stgSz (t.getD k []):=hs.2 _ (List.mem_of_getElem? (getD_some hk))
  have hpv:=mem_val hv hp
  obtain ⟨p1,p2,p3⟩:=hp
  have hiff:=stepOk_iff (t:=t) (k:=k) (a:=p) (b:=a) hv p1 ha0 p2
  have hlt:p.node.toNat < (t.getD k []).length:=by unfold wd at p2; omega
  have hx:(t.getD k [])[p.node.toNat]?=some (nodAt t k p.node.toNat):=getD_some hlt
  have hsx:=hL.2 _ (List.mem_of_getElem? hx)
  have hnx:=hsx.2
  have hok:=(valid_nod hv hx).2.2
  unfold wd at p2
  generalize nodAt t k p.node.toNat=x at *
  generalize t.getD k []=L at *
  have hno:(¬ ∃ e∈x.nx,e.to=a.node∧p.val+e.ch.lo≤a.val∧a.val≤p.val+e.ch.hi)→tr (stepOk t k p a)=false:=fun h=>tr_0 fun h'=>h (hiff.1 h')
  have hyes:(∃ e∈x.nx,e.to=a.node∧p.val+e.ch.lo≤a.val∧a.val≤p.val+e.ch.hi)→tr (stepOk t k p a)=true:=fun h=>tr_1 (hiff.2 h)
  generalize tr (stepOk t k p a)=R at *
  (repeat' ((first
 | refine vn rfl ?_
 | simp (disch:=omega) only [wr64,Int.zero_sub]
 | refine bo (fun _=>?_) fun _=>?_
 | refine im fun _=>?_
 | refine cF ?_
 | refine om ?_
 | refine an ?_
 | fail) <;> try simp only [zT,zV,zS,zU,vcC,lateX,ex,strp,binA,elems,cells,scalar,eqC,keyA,intsA,lookA,ofVs,mpOf,Nat.reduceBEq,reduceAdd,reduceSub,reduceLT,reduceLeDiff,reduceMul,reduceEqDiff,reduceIte,gt1,getD_map hx]))
  all_goals try (exfalso; omega)
  refine AWPC.loopE (α:={ i:Nat // i≤x.nx.length∧∀ e∈x.nx.take i,¬ (e.to=a.node∧p.val+e.ch.lo≤a.val∧a.val≤p.val+e.ch.hi) }) [10] (fun i=>[(10,n i.1)]) (fun _=>[]) (fun i=>x.nx.length - i.1) ⟨0,by simp⟩ ?_ rfl ?_
  · (simp only [zT,zV,zS,zU,vcC,lateX,ex,strp,binA,elems,cells,scalar,eqC,keyA,intsA,lookA,ofVs,mpOf,Nat.reduceBEq,reduceAdd,reduceSub,reduceLT,reduceLeDiff,reduceMul,reduceEqDiff,reduceIte]; try simp)
  rintro ⟨i,hi,hI⟩
  by_cases hlt:i < x.nx.length
  · obtain ⟨e,he⟩:∃ e,x.nx[i]?=some e:=⟨_,List.getElem?_eq_getElem hlt⟩
    have hem:=List.mem_of_getElem? he
    obtain ⟨e1,e2,e3⟩:=hok e hem
    obtain ⟨c1,c2,c3⟩:=e3
    obtain ⟨v1,v2⟩:=hav
    obtain ⟨v3,v4⟩:=hpv
    have hwi:=within_spec (a.val - p.val) e.ch.lo e.ch.hi
    have hsn:=take_snoc he
    have nxt:¬ (e.to=a.node∧p.val+e.ch.lo≤a.val∧a.val≤p.val+e.ch.hi)→∀ e∈x.nx.take (i+1),¬ (e.to=a.node∧p.val+e.ch.lo≤a.val∧a.val≤p.val+e.ch.hi):=fun h e' he'=>by
      rw [hsn] at he'
      rcases List.mem_append.1 he' with h' | h'
      · exact hI e' h'
      · rw [List.mem_singleton.1 h']; exact h
    by_cases h:e.to=a.node∧p.val+e.ch.lo≤a.val∧a.val≤p.val+e.ch.hi
    · rw [hyes ⟨e,hem,h⟩]
      rw [decide_eq_true (by omega)] at hwi
      obtain ⟨h1,_⟩:=h
      (repeat' ((first
 | refine vn rfl ?_
 | simp (disch:=omega) only [wr64,Int.zero_sub]
 | refine bo (fun _=>?_) fun _=>?_
 | refine im fun _=>?_
 | ((repeat refine si ?_); (first | ((first | refine .inl ⟨_,_,_,_,rfl,fun _=>pu hwi,?_⟩ | refine ⟨_,_,_,_,rfl,fun _=>pu hwi,?_⟩); (first | refine o1 ?_ | refine o2 ?_ | refine o3 ?_ | refine o4 ?_)) | refine .inl ⟨_,_,_,_,rfl,pu hwi,?_⟩))
 | refine cF ?_
 | refine om ?_
 | refine an ?_
 | fail) <;> try simp only [zT,zV,zS,zU,vcC,lateX,ex,strp,binA,elems,cells,scalar,eqC,keyA,intsA,lookA,ofVs,mpOf,Nat.reduceBEq,reduceAdd,reduceSub,reduceLT,reduceLeDiff,reduceMul,reduceEqDiff,reduceIte,getD_map he]))
      all_goals try (exfalso; omega)
      all_goals exact Frz.eq rfl (by simp)
    · (repeat' ((first
 | refine vn rfl ?_
 | simp (disch:=omega) only [wr64,Int.zero_sub]
 | refine bo (fun _=>?_) fun _=>?_
 | refine im fun _=>?_
 | ((repeat refine si ?_); (first | ((first | refine .inl ⟨_,_,_,_,rfl,fun _=>pu hwi,?_⟩ | refine ⟨_,_,_,_,rfl,fun _=>pu hwi,?_⟩); (first | refine o1 ?_ | refine o2 ?_ | refine o3 ?_ | refine o4 ?_)) | refine .inl ⟨_,_,_,_,rfl,pu hwi,?_⟩))
 | refine cF ?_
 | refine om ?_
 | refine an ?_
 | fail) <;> try simp only [zT,zV,zS,zU,vcC,lateX,ex,strp,binA,elems,cells,scalar,eqC,keyA,intsA,lookA,ofVs,mpOf,Nat.reduceBEq,reduceAdd,reduceSub,reduceLT,reduceLeDiff,reduceMul,reduceEqDiff,reduceIte,getD_map he]))
      all_goals try (exfalso; omega)
      exact ⟨⟨i+1,hlt,nxt h⟩,by simp,by simp only; omega⟩
  · obtain rfl:i=x.nx.length:=by omega
    rw [List.take_length] at hI
    rw [hno fun ⟨e,he,h⟩=>hI e he h]
    (repeat' ((first
 | refine vn rfl ?_
 | simp (disch:=omega) only [wr64,Int.zero_sub]
 | refine bo (fun _=>?_) fun _=>?_
 | refine im fun _=>?_
 | refine cF ?_
 | refine om ?_
 | refine an ?_
 | fail) <;> try simp only [zT,zV,zS,zU,vcC,lateX,ex,strp,binA,elems,cells,scalar,eqC,keyA,intsA,lookA,ofVs,mpOf,Nat.reduceBEq,reduceAdd,reduceSub,reduceLT,reduceLeDiff,reduceMul,reduceEqDiff,reduceIte]))
    all_goals try (exfalso; omega)
    all_goals exact Frz.eq rfl (by simp)
theorem rKeeps_spec (t:Trk) (c:List At) (hs:trkSz t) (hc:c.length < 9223372036854775808):Pure Tryz.prog 62 [trS t,atS c] (n (if tr (valid t) then (if tr (course t c) then 0 else 41) else 40)):=by
  refine Pure.of_body Tryz.call62 Tryz.func62 k62 (Nat.le_of_ble_eq_true rfl) ?_
  unfold c62
  by_cases hv:valid t
  · rw [tr_1 hv,if_pos rfl]
    have hck:=rCheck_spec t hs
    rw [tr_1 hv,if_pos rfl] at hck
    by_cases hl:c.length=t.length
    · have hln:=hs.1
      (repeat' ((first
 | refine vn rfl ?_
 | simp (disch:=omega) only [wr64,Int.zero_sub]
 | refine bo (fun _=>?_) fun _=>?_
 | refine im fun _=>?_
 | ((repeat refine si ?_); (first | ((first | refine .inl ⟨_,_,_,_,rfl,fun _=>pu hck,?_⟩ | refine ⟨_,_,_,_,rfl,fun _=>pu hck,?_⟩); (first | refine o1 ?_ | refine o2 ?_ | refine o3 ?_ | refine o4 ?_)) | refine .inl ⟨_,_,_,_,rfl,pu hck,?_⟩))
 | refine cF ?_
 | refine om ?_
 | refine an ?_
 | fail) <;> try simp only [zT,zV,zS,zU,vcC,lateX,ex,strp,binA,elems,cells,scalar,eqC,keyA,intsA,lookA,ofVs,mpOf,Nat.reduceBEq,reduceAdd,reduceSub,reduceLT,reduceLeDiff,reduceMul,reduceEqDiff,reduceIte]))
      all_goals try (exfalso; omega)
      refine AWPC.loopE (α:={ x:Nat // x≤c.length∧way t 0 (c.take x) }) [6] (fun x=>[(6,n x.1)]) (fun _=>[]) (fun x=>c.length - x.1) ⟨0,by simp,trivial⟩ ?_ rfl ?_
      · (simp only [zT,zV,zS,zU,vcC,lateX,ex,strp,binA,elems,cells,scalar,eqC,keyA,intsA,lookA,ofVs,mpOf,Nat.reduceBEq,reduceAdd,reduceSub,reduceLT,reduceLeDiff,reduceMul,reduceEqDiff,reduceIte]; try simp)
      rintro ⟨k,hk,hw⟩
      try simp only at hk hw
      try simp only
      by_cases hlt:k < c.length
      · obtain ⟨a,ha⟩:∃ a,c[k]?=some a:=⟨_,List.getElem?_eq_getElem hlt⟩
        have hp:=place_spec t k a hs (by omega)
        have hsn:=way_snoc (t:=t) ha
        have hno:¬ way t 0 (c.take (k+1))→¬ course t c:=fun h h'=>h (way_take h'.2 _)
        by_cases hpa:placeOk t k a
        · rw [tr_1 hpa] at hp
          obtain ⟨b1,b2⟩:=mem_val hv hpa
          by_cases h0:k=0
          · subst h0
            have hm1:(-1:Int).toNat=0:=rfl
            (repeat' ((first
 | refine vn rfl ?_
 | simp (disch:=omega) only [wr64,Int.zero_sub]
 | refine bo (fun _=>?_) fun _=>?_
 | refine im fun _=>?_
 | ((repeat refine si ?_); (first | ((first | refine .inl ⟨_,_,_,_,rfl,fun _=>pu hp,?_⟩ | refine ⟨_,_,_,_,rfl,fun _=>pu hp,?_⟩); (first | refine o1 ?_ | refine o2 ?_ | refine o3 ?_ | refine o4 ?_)) | refine .inl ⟨_,_,_,_,rfl,pu hp,?_⟩))
 | refine cF ?_
 | refine cG ?_
 | refine om ?_
 | refine an ?_
 | fail) <;> try simp only [zT, zV, zS, zU, vcC, lateX, ex, strp, binA, elems, cells, scalar, eqC, keyA, intsA, lookA, ofVs, mpOf, Nat.reduceBEq, reduceAdd, reduceSub, reduceLT, reduceLeDiff, reduceMul, reduceEqDiff, reduceIte, getD_map ha, hm1]))
            all_goals try (exfalso; omega)
            exact ⟨⟨1,hlt,hsn.2 ⟨hw,hpa,fun p h=>absurd h (by omega)⟩⟩,by simp,by simp only; omega⟩
          · obtain ⟨p,hpp⟩:∃ p,c[k - 1]?=some p:=⟨_,List.getElem?_eq_getElem (by omega)⟩
            have hpp2:placeOk t (k - 1) p:=by
              have h2:=way_snoc (t:=t) hpp
              rw [show k - 1+1=k by omega] at h2
              exact (h2.1 hw).2.1
            have hi:((k:Int) - 1).toNat=k - 1:=by omega
            have hst:=step_spec t (k - 1) p a hv hs (by omega) hpp2 hpa.1 (by omega)
            rw [show ((k - 1:Nat):Int)=(k:Int) - 1 by omega] at hst
            have hsn2:way t 0 (c.take (k+1))↔stepOk t (k - 1) p a:=by
              rw [hsn]
              exact ⟨fun h=>h.2.2 p (by omega) hpp,fun h=>⟨hw,hpa,fun q _ hq=>by rw [hpp] at hq; injection hq with hq; subst hq; exact h⟩⟩
            by_cases hso:stepOk t (k - 1) p a
            · rw [tr_1 hso] at hst
              (repeat' ((first
 | refine vn rfl ?_
 | simp (disch:=omega) only [wr64,Int.zero_sub]
 | refine bo (fun _=>?_) fun _=>?_
 | refine im fun _=>?_
 | ((repeat refine si ?_); (first | ((first | refine .inl ⟨_,_,_,_,rfl,fun _=>pu (by first | exact hp | exact hst),?_⟩ | refine ⟨_,_,_,_,rfl,fun _=>pu (by first | exact hp | exact hst),?_⟩); (first | refine o1 ?_ | refine o2 ?_ | refine o3 ?_ | refine o4 ?_)) | refine .inl ⟨_,_,_,_,rfl,pu (by first | exact hp | exact hst),?_⟩))
 | refine cF ?_
 | refine om ?_
 | refine an ?_
 | fail) <;> try simp only [zT, zV, zS, zU, vcC, lateX, ex, strp, binA, elems, cells, scalar, eqC, keyA, intsA, lookA, ofVs, mpOf, Nat.reduceBEq, reduceAdd, reduceSub, reduceLT, reduceLeDiff, reduceMul, reduceEqDiff, reduceIte, getD_map ha, getD_map hpp, hi]))
              all_goals try (exfalso; omega)
              exact ⟨⟨k+1,hlt,hsn2.2 hso⟩,by simp,by simp only; omega⟩
            · rw [tr_0 hso] at hst
              rw [tr_0 (hno fun h=>hso (hsn2.1 h))]
              (repeat' ((first
 | refine vn rfl ?_
 | simp (disch:=omega) only [wr64,Int.zero_sub]
 | refine bo (fun _=>?_) fun _=>?_
 | refine im fun _=>?_
 | ((repeat refine si ?_); (first | ((first | refine .inl ⟨_,_,_,_,rfl,fun _=>pu (by first | exact hp | exact hst),?_⟩ | refine ⟨_,_,_,_,rfl,fun _=>pu (by first | exact hp | exact hst),?_⟩); (first | refine o1 ?_ | refine o2 ?_ | refine o3 ?_ | refine o4 ?_)) | refine .inl ⟨_,_,_,_,rfl,pu (by first | exact hp | exact hst),?_⟩))
 | refine cF ?_
 | refine om ?_
 | refine an ?_
 | fail) <;> try simp only [zT, zV, zS, zU, vcC, lateX, ex, strp, binA, elems, cells, scalar, eqC, keyA, intsA, lookA, ofVs, mpOf, Nat.reduceBEq, reduceAdd, reduceSub, reduceLT, reduceLeDiff, reduceMul, reduceEqDiff, reduceIte, getD_map ha, getD_map hpp, hi]))
              all_goals try (exfalso; omega)
              all_goals exact Frz.eq rfl (by simp)
        · rw [tr_0 hpa] at hp
          rw [tr_0 (hno fun h=>hpa (hsn.1 h).2.1)]
          have hpg:(c.map At.cs).getD ((k:Int) - 1).toNat []=[]∨∃ y:At,(c.map At.cs).getD ((k:Int) - 1).toNat []=At.cs y:=by
            rcases hq:c[((k:Int) - 1).toNat]? with _ | y
            · exact .inl (by rw [List.getD_eq_getElem?_getD,List.getElem?_map,hq]; rfl)
            · exact .inr ⟨y,getD_map hq⟩
          rcases hpg with hpg | ⟨y,hpg⟩
          · (repeat' ((first
 | refine vn rfl ?_
 | simp (disch:=omega) only [wr64,Int.zero_sub]
 | refine bo (fun _=>?_) fun _=>?_
 | refine im fun _=>?_
 | ((repeat refine si ?_); (first | ((first | refine .inl ⟨_,_,_,_,rfl,fun _=>pu hp,?_⟩ | refine ⟨_,_,_,_,rfl,fun _=>pu hp,?_⟩); (first | refine o1 ?_ | refine o2 ?_ | refine o3 ?_ | refine o4 ?_)) | refine .inl ⟨_,_,_,_,rfl,pu hp,?_⟩))
 | refine cF ?_
 | refine cG ?_
 | refine om ?_
 | refine an ?_
 | fail) <;> try simp only [zT, zV, zS, zU, vcC, lateX, ex, strp, binA, elems, cells, scalar, eqC, keyA, intsA, lookA, ofVs, mpOf, Nat.reduceBEq, reduceAdd, reduceSub, reduceLT, reduceLeDiff, reduceMul, reduceEqDiff, reduceIte, getD_map ha, hpg]))
            all_goals try (exfalso; omega)
            all_goals exact Frz.eq rfl (by simp)
          · (repeat' ((first
 | refine vn rfl ?_
 | simp (disch:=omega) only [wr64,Int.zero_sub]
 | refine bo (fun _=>?_) fun _=>?_
 | refine im fun _=>?_
 | ((repeat refine si ?_); (first | ((first | refine .inl ⟨_,_,_,_,rfl,fun _=>pu hp,?_⟩ | refine ⟨_,_,_,_,rfl,fun _=>pu hp,?_⟩); (first | refine o1 ?_ | refine o2 ?_ | refine o3 ?_ | refine o4 ?_)) | refine .inl ⟨_,_,_,_,rfl,pu hp,?_⟩))
 | refine cF ?_
 | refine cG ?_
 | refine om ?_
 | refine an ?_
 | fail) <;> try simp only [zT, zV, zS, zU, vcC, lateX, ex, strp, binA, elems, cells, scalar, eqC, keyA, intsA, lookA, ofVs, mpOf, Nat.reduceBEq, reduceAdd, reduceSub, reduceLT, reduceLeDiff, reduceMul, reduceEqDiff, reduceIte, getD_map ha, hpg]))
            all_goals try (exfalso; omega)
            all_goals exact Frz.eq rfl (by simp)
      · obtain rfl:k=c.length:=by omega
        rw [List.take_length] at hw
        rw [tr_1 (show course t c from ⟨hl,hw⟩)]
        (repeat' ((first
 | refine vn rfl ?_
 | simp (disch:=omega) only [wr64,Int.zero_sub]
 | refine bo (fun _=>?_) fun _=>?_
 | refine im fun _=>?_
 | refine cF ?_
 | refine om ?_
 | refine an ?_
 | fail) <;> try simp only [zT, zV, zS, zU, vcC, lateX, ex, strp, binA, elems, cells, scalar, eqC, keyA, intsA, lookA, ofVs, mpOf, Nat.reduceBEq, reduceAdd, reduceSub, reduceLT, reduceLeDiff, reduceMul, reduceEqDiff, reduceIte]))
        all_goals try (exfalso; omega)
        all_goals exact Frz.eq rfl (by simp)
    · have hnc:¬ course t c:=fun h=>hl h.1
      rw [tr_0 hnc]
      (repeat' ((first
 | refine vn rfl ?_
 | simp (disch:=omega) only [wr64,Int.zero_sub]
 | refine bo (fun _=>?_) fun _=>?_
 | refine im fun _=>?_
 | ((repeat refine si ?_); (first | ((first | refine .inl ⟨_,_,_,_,rfl,fun _=>pu hck,?_⟩ | refine ⟨_,_,_,_,rfl,fun _=>pu hck,?_⟩); (first | refine o1 ?_ | refine o2 ?_ | refine o3 ?_ | refine o4 ?_)) | refine .inl ⟨_,_,_,_,rfl,pu hck,?_⟩))
 | refine cF ?_
 | refine om ?_
 | refine an ?_
 | fail) <;> try simp only [zT,zV,zS,zU,vcC,lateX,ex,strp,binA,elems,cells,scalar,eqC,keyA,intsA,lookA,ofVs,mpOf,Nat.reduceBEq,reduceAdd,reduceSub,reduceLT,reduceLeDiff,reduceMul,reduceEqDiff,reduceIte]))
      all_goals try (exfalso; omega)
      all_goals exact Frz.eq rfl (by simp)
  · rw [tr_0 hv]
    have hck:=rCheck_spec t hs
    rw [tr_0 hv,if_neg (by decide)] at hck
    (repeat' ((first
 | refine vn rfl ?_
 | simp (disch:=omega) only [wr64,Int.zero_sub]
 | refine bo (fun _=>?_) fun _=>?_
 | refine im fun _=>?_
 | ((repeat refine si ?_); (first | ((first | refine .inl ⟨_,_,_,_,rfl,fun _=>pu hck,?_⟩ | refine ⟨_,_,_,_,rfl,fun _=>pu hck,?_⟩); (first | refine o1 ?_ | refine o2 ?_ | refine o3 ?_ | refine o4 ?_)) | refine .inl ⟨_,_,_,_,rfl,pu hck,?_⟩))
 | refine cF ?_
 | refine om ?_
 | refine an ?_
 | fail) <;> try simp only [zT,zV,zS,zU,vcC,lateX,ex,strp,binA,elems,cells,scalar,eqC,keyA,intsA,lookA,ofVs,mpOf,Nat.reduceBEq,reduceAdd,reduceSub,reduceLT,reduceLeDiff,reduceMul,reduceEqDiff,reduceIte]))
    all_goals try (exfalso; omega)
    all_goals exact Frz.eq rfl (by simp)
theorem some_unis {l:List (List Sp)} (h:goods l):some' l=!(unis l).isEmpty:=by
  rw [Bool.eq_iff_iff,some_iff h]
  unfold unis
  have hn:=joins0_norm l.flatten
  constructor
  · rintro ⟨i,v,hi,hm⟩
    have:Mem v (joins [] l.flatten):=(joins0_mem _ _).2 (mem_flatten.2 ⟨_,List.mem_of_getElem? (getD_some hi),hm⟩)
    cases hj:joins [] l.flatten with
    | nil=>rw [hj] at this; exact absurd this Mem.nil
    | cons _ _=>rfl
  · intro hj
    cases hj':joins [] l.flatten with
    | nil=>rw [hj'] at hj; cases hj
    | cons s r =>
      have hm:Mem s.lo (joins [] l.flatten):=⟨s,by rw [hj']; simp,Int.le_refl _,hn.ne s (by rw [hj']; simp)⟩
      rw [joins0_mem,mem_flatten] at hm
      obtain ⟨x,hx,hm⟩:=hm
      obtain ⟨i,hi⟩:=List.mem_iff_getElem?.1 hx
      exact ⟨i,s.lo,(List.getElem?_eq_some_iff.1 hi).1,by rw [List.getD_eq_getElem?_getD,hi]; exact hm⟩
theorem rFeasible_spec (t:Trk) (hs:trkSz t):Pure Tryz.prog 57 [trS t] (.tup [bl (tr (valid t) && feas t),n (if tr (valid t)=true then 0 else 40)]):=by
  refine Pure.of_body Tryz.call57 Tryz.func57 k57 (Nat.le_of_ble_eq_true rfl) ?_
  unfold c57
  have hf:=rForward_spec t hs
  by_cases hv:valid t
  · rw [tr_1 hv] at hf ⊢
    simp only [if_true,Bool.true_and] at hf ⊢
    have h1:=hv.1
    have h2:=hv.2.1
    have hg:=fwds_get (t:=t) (k:=t.length - 1) (by omega)
    have hi:((t.length:Int) - 1).toNat=t.length - 1:=by omega
    have hw:=wd_le hv (t.length - 1)
    have hva:=valuesR_spec (fwd t (t.length - 1)) (by rw [fwd_len]; omega) (fwd_goods hv _)
    have hsu:=some_unis (fwd_goods hv (t.length - 1))
    unfold feas
    rw [hsu]
    have hul:=joins_len (l:=[]) (b:=(fwd t (t.length - 1)).flatten)
    cases hU:unis (fwd t (t.length - 1)) with
    | nil =>
      rw [hU] at hva
      (repeat' ((first
 | refine vn rfl ?_
 | simp (disch:=omega) only [wr64,Int.zero_sub]
 | refine bo (fun _=>?_) fun _=>?_
 | refine im fun _=>?_
 | ((repeat refine si ?_); (first | ((first | refine .inl ⟨_,_,_,_,rfl,fun _=>pu (by first | exact hf | exact hva),?_⟩ | refine ⟨_,_,_,_,rfl,fun _=>pu (by first | exact hf | exact hva),?_⟩); (first | refine o1 ?_ | refine o2 ?_ | refine o3 ?_ | refine o4 ?_)) | refine .inl ⟨_,_,_,_,rfl,pu (by first | exact hf | exact hva),?_⟩))
 | refine cF ?_
 | refine om ?_
 | refine an ?_
 | fail) <;> try simp only [zT,zV,zS,zU,vcC,lateX,ex,strp,binA,elems,cells,scalar,eqC,keyA,intsA,lookA,ofVs,mpOf,Nat.reduceBEq,reduceAdd,reduceSub,reduceLT,reduceLeDiff,reduceMul,reduceEqDiff,reduceIte,fwds_len,hi,hg]))
      all_goals try (exfalso; omega)
      all_goals exact Frz.eq rfl (by simp)
    | cons s r =>
      rw [hU] at hva
      (repeat' ((first
 | refine vn rfl ?_
 | simp (disch:=omega) only [wr64,Int.zero_sub]
 | refine bo (fun _=>?_) fun _=>?_
 | refine im fun _=>?_
 | ((repeat refine si ?_); (first | ((first | refine .inl ⟨_,_,_,_,rfl,fun _=>pu (by first | exact hf | exact hva),?_⟩ | refine ⟨_,_,_,_,rfl,fun _=>pu (by first | exact hf | exact hva),?_⟩); (first | refine o1 ?_ | refine o2 ?_ | refine o3 ?_ | refine o4 ?_)) | refine .inl ⟨_,_,_,_,rfl,pu (by first | exact hf | exact hva),?_⟩))
 | refine cF ?_
 | refine om ?_
 | refine an ?_
 | fail) <;> try simp only [zT,zV,zS,zU,vcC,lateX,ex,strp,binA,elems,cells,scalar,eqC,keyA,intsA,lookA,ofVs,mpOf,Nat.reduceBEq,reduceAdd,reduceSub,reduceLT,reduceLeDiff,reduceMul,reduceEqDiff,reduceIte,fwds_len,hi,hg]))
      all_goals try (exfalso; omega)
      all_goals refine Frz.eq ?_ (by simp)
      all_goals first | rfl | (simp; done) | (simp; omega)
  · rw [tr_0 hv] at hf ⊢
    simp only [Bool.false_eq_true,if_false,Bool.false_and] at hf ⊢
    (repeat' ((first
 | refine vn rfl ?_
 | simp (disch:=omega) only [wr64,Int.zero_sub]
 | refine bo (fun _=>?_) fun _=>?_
 | refine im fun _=>?_
 | ((repeat refine si ?_); (first | ((first | refine .inl ⟨_,_,_,_,rfl,fun _=>pu hf,?_⟩ | refine ⟨_,_,_,_,rfl,fun _=>pu hf,?_⟩); (first | refine o1 ?_ | refine o2 ?_ | refine o3 ?_ | refine o4 ?_)) | refine .inl ⟨_,_,_,_,rfl,pu hf,?_⟩))
 | refine cF ?_
 | refine om ?_
 | refine an ?_
 | fail) <;> try simp only [zT,zV,zS,zU,vcC,lateX,ex,strp,binA,elems,cells,scalar,eqC,keyA,intsA,lookA,ofVs,mpOf,Nat.reduceBEq,reduceAdd,reduceSub,reduceLT,reduceLeDiff,reduceMul,reduceEqDiff,reduceIte]))
    all_goals try (exfalso; omega)
    all_goals exact Frz.eq rfl (by simp)
theorem rUnion_spec (a b:List Sp) (ha:a.length < 9223372036854775808) (hb:b.length < 9223372036854775808):Pure Tryz.prog 63 [spS a,spS b] (.tup [spS (if tr (small a∧small b) then joins a b else []),n (if tr (small a∧small b) then 0 else 1)]):=by
  refine Pure.of_body Tryz.call63 Tryz.func63 k63 (Nat.le_of_ble_eq_true rfl) ?_
  unfold c63
  by_cases h:small a∧small b
  · rw [tr_1 h]
    obtain ⟨h1,h2⟩:=h
    have t1:=tr_1 h1
    have t2:=tr_1 h2
    simp only [if_true]
    have c1:=rCheckSet_spec a ha
    have c2:=rCheckSet_spec b hb
    rw [t1,if_pos rfl] at c1
    rw [t2,if_pos rfl] at c2
    have l2:=h2.1
    have hu:=union_spec a b (good_ok h1.2) (good_in h2.2) h2.2.1.ne (by omega)
    (repeat' ((first
 | refine vn rfl ?_
 | simp (disch:=omega) only [wr64,Int.zero_sub]
 | refine bo (fun _=>?_) fun _=>?_
 | refine im fun _=>?_
 | ((repeat refine si ?_); (first | ((first | refine .inl ⟨_,_,_,_,rfl,fun _=>pu (by first | exact c1 | exact c2 | exact hu),?_⟩ | refine ⟨_,_,_,_,rfl,fun _=>pu (by first | exact c1 | exact c2 | exact hu),?_⟩); (first | refine o1 ?_ | refine o2 ?_ | refine o3 ?_ | refine o4 ?_)) | refine .inl ⟨_,_,_,_,rfl,pu (by first | exact c1 | exact c2 | exact hu),?_⟩))
 | refine cF ?_
 | refine om ?_
 | refine an ?_
 | fail) <;> try simp only [zT,zV,zS,zU,vcC,lateX,ex,strp,binA,elems,cells,scalar,eqC,keyA,intsA,lookA,ofVs,mpOf,Nat.reduceBEq,reduceAdd,reduceSub,reduceLT,reduceLeDiff,reduceMul,reduceEqDiff,reduceIte]))
    all_goals try (exfalso; omega)
    all_goals exact Frz.eq rfl (by simp)
  · rw [tr_0 h]
    have c1:=rCheckSet_spec a ha
    have c2:=rCheckSet_spec b hb
    by_cases ha':small a
    · have hb':¬ small b:=fun h'=>h ⟨ha',h'⟩
      rw [tr_1 ha',if_pos rfl] at c1
      rw [tr_0 hb',if_neg (by decide)] at c2
      (repeat' ((first
 | refine vn rfl ?_
 | simp (disch:=omega) only [wr64,Int.zero_sub]
 | refine bo (fun _=>?_) fun _=>?_
 | refine im fun _=>?_
 | ((repeat refine si ?_); (first | ((first | refine .inl ⟨_,_,_,_,rfl,fun _=>pu (by first | exact c1 | exact c2),?_⟩ | refine ⟨_,_,_,_,rfl,fun _=>pu (by first | exact c1 | exact c2),?_⟩); (first | refine o1 ?_ | refine o2 ?_ | refine o3 ?_ | refine o4 ?_)) | refine .inl ⟨_,_,_,_,rfl,pu (by first | exact c1 | exact c2),?_⟩))
 | refine cF ?_
 | refine om ?_
 | refine an ?_
 | fail) <;> try simp only [zT,zV,zS,zU,vcC,lateX,ex,strp,binA,elems,cells,scalar,eqC,keyA,intsA,lookA,ofVs,mpOf,Nat.reduceBEq,reduceAdd,reduceSub,reduceLT,reduceLeDiff,reduceMul,reduceEqDiff,reduceIte]))
      all_goals try (exfalso; omega)
      all_goals exact frz2 frz_nil (by simp)
    · rw [tr_0 ha',if_neg (by decide)] at c1
      (repeat' ((first
 | refine vn rfl ?_
 | simp (disch:=omega) only [wr64,Int.zero_sub]
 | refine bo (fun _=>?_) fun _=>?_
 | refine im fun _=>?_
 | ((repeat refine si ?_); (first | ((first | refine .inl ⟨_,_,_,_,rfl,fun _=>pu (by first | exact c1 | exact c2),?_⟩ | refine ⟨_,_,_,_,rfl,fun _=>pu (by first | exact c1 | exact c2),?_⟩); (first | refine o1 ?_ | refine o2 ?_ | refine o3 ?_ | refine o4 ?_)) | refine .inl ⟨_,_,_,_,rfl,pu (by first | exact c1 | exact c2),?_⟩))
 | refine cF ?_
 | refine om ?_
 | refine an ?_
 | fail) <;> try simp only [zT,zV,zS,zU,vcC,lateX,ex,strp,binA,elems,cells,scalar,eqC,keyA,intsA,lookA,ofVs,mpOf,Nat.reduceBEq,reduceAdd,reduceSub,reduceLT,reduceLeDiff,reduceMul,reduceEqDiff,reduceIte]))
      all_goals try (exfalso; omega)
      all_goals exact frz2 frz_nil (by simp)
theorem rMeet_spec (a b:List Sp) (ha:a.length < 9223372036854775808) (hb:b.length < 9223372036854775808):Pure Tryz.prog 64 [spS a,spS b] (.tup [spS (if tr (small a∧small b) then meet a b else []),n (if tr (small a∧small b) then 0 else 1)]):=by
  refine Pure.of_body Tryz.call64 Tryz.func64 k64 (Nat.le_of_ble_eq_true rfl) ?_
  unfold c64
  by_cases h:small a∧small b
  · rw [tr_1 h]
    obtain ⟨h1,h2⟩:=h
    have t1:=tr_1 h1
    have t2:=tr_1 h2
    simp only [if_true]
    have c1:=rCheckSet_spec a ha
    have c2:=rCheckSet_spec b hb
    rw [t1,if_pos rfl] at c1
    rw [t2,if_pos rfl] at c2
    have l1:=h1.1
    have l2:=h2.1
    have hu:=meetR_spec a b (good_in h1.2) (good_in h2.2) (by omega) (by omega)
    (repeat' ((first
 | refine vn rfl ?_
 | simp (disch:=omega) only [wr64,Int.zero_sub]
 | refine bo (fun _=>?_) fun _=>?_
 | refine im fun _=>?_
 | ((repeat refine si ?_); (first | ((first | refine .inl ⟨_,_,_,_,rfl,fun _=>pu (by first | exact c1 | exact c2 | exact hu),?_⟩ | refine ⟨_,_,_,_,rfl,fun _=>pu (by first | exact c1 | exact c2 | exact hu),?_⟩); (first | refine o1 ?_ | refine o2 ?_ | refine o3 ?_ | refine o4 ?_)) | refine .inl ⟨_,_,_,_,rfl,pu (by first | exact c1 | exact c2 | exact hu),?_⟩))
 | refine cF ?_
 | refine om ?_
 | refine an ?_
 | fail) <;> try simp only [zT,zV,zS,zU,vcC,lateX,ex,strp,binA,elems,cells,scalar,eqC,keyA,intsA,lookA,ofVs,mpOf,Nat.reduceBEq,reduceAdd,reduceSub,reduceLT,reduceLeDiff,reduceMul,reduceEqDiff,reduceIte]))
    all_goals try (exfalso; omega)
    all_goals exact Frz.eq rfl (by simp)
  · rw [tr_0 h]
    have c1:=rCheckSet_spec a ha
    have c2:=rCheckSet_spec b hb
    by_cases ha':small a
    · have hb':¬ small b:=fun h'=>h ⟨ha',h'⟩
      rw [tr_1 ha',if_pos rfl] at c1
      rw [tr_0 hb',if_neg (by decide)] at c2
      (repeat' ((first
 | refine vn rfl ?_
 | simp (disch:=omega) only [wr64,Int.zero_sub]
 | refine bo (fun _=>?_) fun _=>?_
 | refine im fun _=>?_
 | ((repeat refine si ?_); (first | ((first | refine .inl ⟨_,_,_,_,rfl,fun _=>pu (by first | exact c1 | exact c2),?_⟩ | refine ⟨_,_,_,_,rfl,fun _=>pu (by first | exact c1 | exact c2),?_⟩); (first | refine o1 ?_ | refine o2 ?_ | refine o3 ?_ | refine o4 ?_)) | refine .inl ⟨_,_,_,_,rfl,pu (by first | exact c1 | exact c2),?_⟩))
 | refine cF ?_
 | refine om ?_
 | refine an ?_
 | fail) <;> try simp only [zT,zV,zS,zU,vcC,lateX,ex,strp,binA,elems,cells,scalar,eqC,keyA,intsA,lookA,ofVs,mpOf,Nat.reduceBEq,reduceAdd,reduceSub,reduceLT,reduceLeDiff,reduceMul,reduceEqDiff,reduceIte]))
      all_goals try (exfalso; omega)
      all_goals exact frz2 frz_nil (by simp)
    · rw [tr_0 ha',if_neg (by decide)] at c1
      (repeat' ((first
 | refine vn rfl ?_
 | simp (disch:=omega) only [wr64,Int.zero_sub]
 | refine bo (fun _=>?_) fun _=>?_
 | refine im fun _=>?_
 | ((repeat refine si ?_); (first | ((first | refine .inl ⟨_,_,_,_,rfl,fun _=>pu (by first | exact c1 | exact c2),?_⟩ | refine ⟨_,_,_,_,rfl,fun _=>pu (by first | exact c1 | exact c2),?_⟩); (first | refine o1 ?_ | refine o2 ?_ | refine o3 ?_ | refine o4 ?_)) | refine .inl ⟨_,_,_,_,rfl,pu (by first | exact c1 | exact c2),?_⟩))
 | refine cF ?_
 | refine om ?_
 | refine an ?_
 | fail) <;> try simp only [zT,zV,zS,zU,vcC,lateX,ex,strp,binA,elems,cells,scalar,eqC,keyA,intsA,lookA,ofVs,mpOf,Nat.reduceBEq,reduceAdd,reduceSub,reduceLT,reduceLeDiff,reduceMul,reduceEqDiff,reduceIte]))
      all_goals try (exfalso; omega)
      all_goals exact frz2 frz_nil (by simp)
def c18:CF:=⟨77,
 (.seq (.ops [
 ⟨some 1,.box false 33 11 (.t 0),none⟩,
 ⟨some 2,.mv (.c (.bool false)),none⟩] [1])
 (.seq (.seq (.ops [
 ⟨some 6,.faddr 5 (.t 1),none⟩,
 ⟨some 7,.load none (.t 6),none⟩,
 ⟨some 8,.len (.t 7),none⟩,
 ⟨some 9,.bin .gtr (.t 8) (.c (.int .i64 500)),none⟩,
 ⟨some 10,.mv (.t 9),none⟩,
 ⟨some 11,.faddr 6 (.t 1),some (10,false)⟩,
 ⟨some 12,.load none (.t 11),some (10,false)⟩,
 ⟨some 13,.len (.t 12),some (10,false)⟩,
 ⟨some 14,.bin .gtr (.t 13) (.c (.int .i64 500)),some (10,false)⟩,
 ⟨some 15,.pick (.t 10) (.c (.bool true)) (.t 14),none⟩,
 ⟨some 16,.mv (.t 15),none⟩,
 ⟨some 17,.faddr 7 (.t 1),some (16,false)⟩,
 ⟨some 18,.load none (.t 17),some (16,false)⟩,
 ⟨some 19,.len (.t 18),some (16,false)⟩,
 ⟨some 20,.bin .gtr (.t 19) (.c (.int .i64 12)),some (16,false)⟩,
 ⟨some 21,.pick (.t 16) (.c (.bool true)) (.t 20),none⟩,
 ⟨some 22,.mv (.t 21),none⟩,
 ⟨some 23,.faddr 10 (.t 1),some (22,false)⟩,
 ⟨some 24,.load none (.t 23),some (22,false)⟩,
 ⟨some 25,.len (.t 24),some (22,false)⟩,
 ⟨some 26,.bin .gtr (.t 25) (.c (.int .i64 12)),some (22,false)⟩,
 ⟨some 27,.pick (.t 22) (.c (.bool true)) (.t 26),none⟩] [1,27])
 (.cond (.t 27) (.seq (.ops [
 ⟨some 2,.mv (.c (.bool false)),none⟩] [2])
 .ret)
 .skip))
 (.seq (.seq (.ops [
 ⟨some 3,.mv (.c (.int .i64 0)),none⟩] [1,3])
 (.block 0 (.loop (.seq (.seq (.ops [
 ⟨some 28,.mv (.t 3),none⟩,
 ⟨some 29,.faddr 7 (.t 1),none⟩,
 ⟨some 30,.load none (.t 29),none⟩,
 ⟨some 31,.len (.t 30),none⟩,
 ⟨some 32,.bin .lss (.t 28) (.t 31),none⟩] [1,3,32])
 (.cond (.t 32) .skip
 (.exit 0)))
 (.seq (.block 1 (.seq (.ops [
 ⟨some 35,.faddr 7 (.t 1),none⟩,
 ⟨some 36,.load none (.t 35),none⟩,
 ⟨some 37,.mv (.t 3),none⟩,
 ⟨some 38,.iaddr 2 (.t 36) (.t 37),none⟩,
 ⟨some 39,.faddr 1 (.t 38),none⟩,
 ⟨some 40,.load none (.t 39),none⟩,
 ⟨some 41,.call (.f 24) [(.t 40)],none⟩,
 ⟨some 42,.un .not (.t 41),none⟩] [1,3,42])
 (.cond (.t 42) (.seq (.ops [
 ⟨some 2,.mv (.c (.bool false)),none⟩] [2])
 .ret)
 .skip)))
 (.ops [
 ⟨some 33,.mv (.t 3),none⟩,
 ⟨some 34,.bin .add (.t 33) (.c (.int .i64 1)),none⟩,
 ⟨some 3,.mv (.t 34),none⟩] [1,3]))))))
 (.seq (.seq (.ops [
 ⟨some 4,.mv (.c (.int .i64 0)),none⟩] [1,4])
 (.block 2 (.loop (.seq (.seq (.ops [
 ⟨some 43,.mv (.t 4),none⟩,
 ⟨some 44,.faddr 10 (.t 1),none⟩,
 ⟨some 45,.load none (.t 44),none⟩,
 ⟨some 46,.len (.t 45),none⟩,
 ⟨some 47,.bin .lss (.t 43) (.t 46),none⟩] [1,4,47])
 (.cond (.t 47) .skip
 (.exit 2)))
 (.seq (.block 3 (.seq (.seq (.ops [
 ⟨some 50,.faddr 10 (.t 1),none⟩,
 ⟨some 51,.load none (.t 50),none⟩,
 ⟨some 52,.mv (.t 4),none⟩,
 ⟨some 53,.iaddr 1 (.t 51) (.t 52),none⟩,
 ⟨some 54,.load none (.t 53),none⟩,
 ⟨some 55,.len (.t 54),none⟩,
 ⟨some 56,.bin .gtr (.t 55) (.c (.int .i64 12)),none⟩] [1,4,56])
 (.cond (.t 56) (.seq (.ops [
 ⟨some 2,.mv (.c (.bool false)),none⟩] [2])
 .ret)
 .skip))
 (.seq (.ops [
 ⟨some 5,.mv (.c (.int .i64 0)),none⟩] [1,4,5])
 (.block 4 (.loop (.seq (.seq (.ops [
 ⟨some 57,.mv (.t 5),none⟩,
 ⟨some 58,.faddr 10 (.t 1),none⟩,
 ⟨some 59,.load none (.t 58),none⟩,
 ⟨some 60,.mv (.t 4),none⟩,
 ⟨some 61,.iaddr 1 (.t 59) (.t 60),none⟩,
 ⟨some 62,.load none (.t 61),none⟩,
 ⟨some 63,.len (.t 62),none⟩,
 ⟨some 64,.bin .lss (.t 57) (.t 63),none⟩] [1,4,5,64])
 (.cond (.t 64) .skip
 (.exit 4)))
 (.seq (.block 5 (.seq (.ops [
 ⟨some 67,.faddr 10 (.t 1),none⟩,
 ⟨some 68,.load none (.t 67),none⟩,
 ⟨some 69,.mv (.t 4),none⟩,
 ⟨some 70,.iaddr 1 (.t 68) (.t 69),none⟩,
 ⟨some 71,.load none (.t 70),none⟩,
 ⟨some 72,.mv (.t 5),none⟩,
 ⟨some 73,.iaddr 1 (.t 71) (.t 72),none⟩,
 ⟨some 74,.load none (.t 73),none⟩,
 ⟨some 75,.len (.t 74),none⟩,
 ⟨some 76,.bin .gtr (.t 75) (.c (.int .i64 40)),none⟩] [1,4,5,76])
 (.cond (.t 76) (.seq (.ops [
 ⟨some 2,.mv (.c (.bool false)),none⟩] [2])
 .ret)
 .skip)))
 (.ops [
 ⟨some 65,.mv (.t 5),none⟩,
 ⟨some 66,.bin .add (.t 65) (.c (.int .i64 1)),none⟩,
 ⟨some 5,.mv (.t 66),none⟩] [1,4,5]))))))))
 (.ops [
 ⟨some 48,.mv (.t 4),none⟩,
 ⟨some 49,.bin .add (.t 48) (.c (.int .i64 1)),none⟩,
 ⟨some 4,.mv (.t 49),none⟩] [1,4]))))))
 (.seq (.ops [
 ⟨some 2,.mv (.c (.bool true)),none⟩] [2])
 .ret))))),
 [.t 2]⟩
theorem k18:chkF Tryz.prog Tryz.f18 c18=true:=by kernel_rfl
abbrev bulky (x:Ask):Prop:=((500 < x.one.length∨500 < x.two.length)∨12 < x.lims.length)∨12 < x.sets.length
abbrev briefL (l:List Sp):Prop:=l.length≤12∨64 < l.length∧l.length≤128
structure Light (x:Ask):Prop where
  no:¬ bulky x
  lims:∀ y∈x.lims,briefL y.vs
  sets:∀ l∈x.sets,l.length≤12∧∀ s∈l,s.length≤40
theorem light_spec (x:Ask) (hs:Ask.sz x):Pure Tryz.prog 18 [.agg x.cs] (bl (tr (Light x))):=by
  refine Pure.of_body Tryz.call18 Tryz.func18 k18 (Nat.le_of_ble_eq_true rfl) ?_
  unfold c18
  have hno:¬ Light x→tr (Light x)=false:=tr_0
  obtain ⟨s1,s2,⟨s3,s4⟩,s5,s6⟩:=hs
  have hb:=fun (h:bulky x)=>hno fun g=>g.no h
  have hli:=fun (y:Lim) (hy:y∈x.lims) (h:¬ briefL y.vs)=>hno fun g=>h (g.lims y hy)
  have hse:=fun (l:List (List Sp)) (hl:l∈x.sets) (h:¬ l.length≤12)=>hno fun g=>h (g.sets l hl).1
  have hss:=fun (l:List (List Sp)) (hl:l∈x.sets) (s:List Sp) (hs:s∈l) (h:¬ s.length≤40)=>hno fun g=>h ((g.sets l hl).2 s hs)
  have hok:=fun (h:¬ bulky x) (h2:∀ y∈x.lims,briefL y.vs) (h3:∀ l∈x.sets,l.length≤12∧∀ s∈l,s.length≤40)=>(tr_1 (Light.mk h h2 h3):tr (Light x)=true)
  generalize tr (Light x)=R at *
  clear hno
  obtain ⟨a1,a2,a3,⟨a4,a5⟩,a6,a7,a8,⟨a9,b1⟩,b2⟩:=x
  try simp only at s1 s2 s3 s4 s5 s6 hb hli hse hss hok
  (repeat' ((first
 | refine vn rfl ?_
 | simp (disch:=omega) only [wr64,Int.zero_sub]
 | refine bo (fun _=>?_) fun _=>?_
 | refine im fun _=>?_
 | refine cF ?_
 | refine om ?_
 | refine an ?_
 | fail) <;> try simp only [zT,zV,zS,zU,vcC,lateX,ex,strp,binA,elems,cells,scalar,eqC,keyA,intsA,lookA,ofVs,mpOf,Nat.reduceBEq,reduceAdd,reduceSub,reduceLT,reduceLeDiff,reduceMul,reduceEqDiff,reduceIte]))
  all_goals try (exfalso; omega)
  · rename_i h
    rw [hb (by unfold bulky; simp only; omega)]
    exact Frz.eq rfl (by simp)
  rename_i h
  have hnb:¬ bulky ⟨a1,a2,a3,⟨a4,a5⟩,a6,a7,a8,⟨a9,b1⟩,b2⟩:=by unfold bulky; simp only; omega
  refine AWPC.loopE (α:={ y:Nat // y≤a8.length∧∀ z∈a8.take y,briefL z.vs }) [3] (fun y=>[(3,n y.1)]) (fun y=>[]) (fun y=>a8.length - y.1) ⟨0,Nat.zero_le _,by simp⟩ ?_ rfl ?_
  · (simp only [zT,zV,zS,zU,vcC,lateX,ex,strp,binA,elems,cells,scalar,eqC,keyA,intsA,lookA,ofVs,mpOf,Nat.reduceBEq,reduceAdd,reduceSub,reduceLT,reduceLeDiff,reduceMul,reduceEqDiff,reduceIte]; try simp)
  rintro ⟨i,hi,hI⟩
  try simp only at hi hI
  try simp only
  by_cases hlt:i < a8.length
  · obtain ⟨y,hy⟩:∃ y,a8[i]?=some y:=⟨_,List.getElem?_eq_getElem hlt⟩
    have hym:=List.mem_of_getElem? hy
    have hsn:=take_snoc hy
    have hbr:=brief_spec y.vs
    by_cases hb:briefL y.vs
    · rw [decide_eq_true hb] at hbr
      (repeat' ((first
 | refine vn rfl ?_
 | simp (disch:=omega) only [wr64,Int.zero_sub]
 | refine bo (fun _=>?_) fun _=>?_
 | refine im fun _=>?_
 | ((repeat refine si ?_); (first | ((first | refine .inl ⟨_,_,_,_,rfl,fun _=>pu hbr,?_⟩ | refine ⟨_,_,_,_,rfl,fun _=>pu hbr,?_⟩); (first | refine o1 ?_ | refine o2 ?_ | refine o3 ?_ | refine o4 ?_)) | refine .inl ⟨_,_,_,_,rfl,pu hbr,?_⟩))
 | refine cF ?_
 | refine om ?_
 | refine an ?_
 | fail) <;> try simp only [zT,zV,zS,zU,vcC,lateX,ex,strp,binA,elems,cells,scalar,eqC,keyA,intsA,lookA,ofVs,mpOf,Nat.reduceBEq,reduceAdd,reduceSub,reduceLT,reduceLeDiff,reduceMul,reduceEqDiff,reduceIte,getD_map hy]))
      all_goals try (exfalso; omega)
      exact ⟨⟨i+1,hlt,fun z hz=>by
        rw [hsn] at hz
        rcases List.mem_append.1 hz with h | h
        · exact hI z h
        · rw [List.mem_singleton.1 h]; exact hb⟩,rfl,by simp only; omega⟩
    · rw [decide_eq_false hb] at hbr
      (repeat' ((first
 | refine vn rfl ?_
 | simp (disch:=omega) only [wr64,Int.zero_sub]
 | refine bo (fun _=>?_) fun _=>?_
 | refine im fun _=>?_
 | ((repeat refine si ?_); (first | ((first | refine .inl ⟨_,_,_,_,rfl,fun _=>pu hbr,?_⟩ | refine ⟨_,_,_,_,rfl,fun _=>pu hbr,?_⟩); (first | refine o1 ?_ | refine o2 ?_ | refine o3 ?_ | refine o4 ?_)) | refine .inl ⟨_,_,_,_,rfl,pu hbr,?_⟩))
 | refine cF ?_
 | refine om ?_
 | refine an ?_
 | fail) <;> try simp only [zT,zV,zS,zU,vcC,lateX,ex,strp,binA,elems,cells,scalar,eqC,keyA,intsA,lookA,ofVs,mpOf,Nat.reduceBEq,reduceAdd,reduceSub,reduceLT,reduceLeDiff,reduceMul,reduceEqDiff,reduceIte,getD_map hy]))
      all_goals try (exfalso; omega)
      rw [hli y hym hb]
      exact Frz.eq rfl (by simp)
  · obtain rfl:i=a8.length:=by omega
    rw [List.take_length] at hI
    (repeat' ((first
 | refine vn rfl ?_
 | simp (disch:=omega) only [wr64,Int.zero_sub]
 | refine bo (fun _=>?_) fun _=>?_
 | refine im fun _=>?_
 | refine cF ?_
 | refine om ?_
 | refine an ?_
 | fail) <;> try simp only [zT,zV,zS,zU,vcC,lateX,ex,strp,binA,elems,cells,scalar,eqC,keyA,intsA,lookA,ofVs,mpOf,Nat.reduceBEq,reduceAdd,reduceSub,reduceLT,reduceLeDiff,reduceMul,reduceEqDiff,reduceIte]))
    all_goals try (exfalso; omega)
    refine AWPC.loopE (α:={ y:Nat // y≤b2.length∧∀ l∈b2.take y,l.length≤12∧∀ s∈l,s.length≤40 }) [4] (fun y=>[(4,n y.1)]) (fun y=>[]) (fun y=>b2.length - y.1) ⟨0,Nat.zero_le _,by simp⟩ ?_ rfl ?_
    · (simp only [zT,zV,zS,zU,vcC,lateX,ex,strp,binA,elems,cells,scalar,eqC,keyA,intsA,lookA,ofVs,mpOf,Nat.reduceBEq,reduceAdd,reduceSub,reduceLT,reduceLeDiff,reduceMul,reduceEqDiff,reduceIte]; try simp)
    rintro ⟨k,hk,hK⟩
    try simp only at hk hK
    try simp only
    by_cases hlt:k < b2.length
    · obtain ⟨l,hl⟩:∃ l,b2[k]?=some l:=⟨_,List.getElem?_eq_getElem hlt⟩
      have hlm:=List.mem_of_getElem? hl
      have hsn:=take_snoc hl
      have gl:(b2.map fun l=>[nodS l]).getD k []=[nodS l]:=getD_map hl
      obtain ⟨l1,l2⟩:=s6 l hlm
      (repeat' ((first
 | refine vn rfl ?_
 | simp (disch:=omega) only [wr64,Int.zero_sub]
 | refine bo (fun _=>?_) fun _=>?_
 | refine im fun _=>?_
 | refine cF ?_
 | refine om ?_
 | refine an ?_
 | fail) <;> try simp only [zT,zV,zS,zU,vcC,lateX,ex,strp,binA,elems,cells,scalar,eqC,keyA,intsA,lookA,ofVs,mpOf,Nat.reduceBEq,reduceAdd,reduceSub,reduceLT,reduceLeDiff,reduceMul,reduceEqDiff,reduceIte,gl]))
      all_goals try (exfalso; omega)
      · rename_i h
        rw [hse l hlm (by omega)]
        exact Frz.eq rfl (by simp)
      rename_i h12
      refine AWPC.loopE (α:={ y:Nat // y≤l.length∧∀ s∈l.take y,s.length≤40 }) [5] (fun y=>[(5,n y.1)]) (fun y=>[]) (fun y=>l.length - y.1) ⟨0,Nat.zero_le _,by simp⟩ ?_ rfl ?_
      · (simp only [zT,zV,zS,zU,vcC,lateX,ex,strp,binA,elems,cells,scalar,eqC,keyA,intsA,lookA,ofVs,mpOf,Nat.reduceBEq,reduceAdd,reduceSub,reduceLT,reduceLeDiff,reduceMul,reduceEqDiff,reduceIte]; try simp)
      rintro ⟨j,hj,hJ⟩
      try simp only at hj hJ
      try simp only
      by_cases hlt2:j < l.length
      · obtain ⟨s,hs⟩:∃ s,l[j]?=some s:=⟨_,List.getElem?_eq_getElem hlt2⟩
        have hsm:=List.mem_of_getElem? hs
        have hsn2:=take_snoc hs
        have gs:(l.map fun l=>[spS l]).getD j []=[spS s]:=getD_map hs
        have hsl:=l2 s hsm
        (repeat' ((first
 | refine vn rfl ?_
 | simp (disch:=omega) only [wr64,Int.zero_sub]
 | refine bo (fun _=>?_) fun _=>?_
 | refine im fun _=>?_
 | refine cF ?_
 | refine om ?_
 | refine an ?_
 | fail) <;> try simp only [zT, zV, zS, zU, vcC, lateX, ex, strp, binA, elems, cells, scalar, eqC, keyA, intsA, lookA, ofVs, mpOf, Nat.reduceBEq, reduceAdd, reduceSub, reduceLT, reduceLeDiff, reduceMul, reduceEqDiff, reduceIte, gl, gs]))
        all_goals try (exfalso; omega)
        · rename_i h
          rw [hss l hlm s hsm (by omega)]
          exact Frz.eq rfl (by simp)
        · rename_i h
          exact ⟨⟨j+1,hlt2,fun z hz=>by
            rw [hsn2] at hz
            rcases List.mem_append.1 hz with h' | h'
            · exact hJ z h'
            · rw [List.mem_singleton.1 h']; omega⟩,rfl,by simp only; omega⟩
      · obtain rfl:j=l.length:=by omega
        rw [List.take_length] at hJ
        (repeat' ((first
 | refine vn rfl ?_
 | simp (disch:=omega) only [wr64,Int.zero_sub]
 | refine bo (fun _=>?_) fun _=>?_
 | refine im fun _=>?_
 | refine cF ?_
 | refine om ?_
 | refine an ?_
 | fail) <;> try simp only [zT, zV, zS, zU, vcC, lateX, ex, strp, binA, elems, cells, scalar, eqC, keyA, intsA, lookA, ofVs, mpOf, Nat.reduceBEq, reduceAdd, reduceSub, reduceLT, reduceLeDiff, reduceMul, reduceEqDiff, reduceIte, gl]))
        all_goals try (exfalso; omega)
        exact ⟨⟨k+1,hlt,fun z hz=>by
          rw [hsn] at hz
          rcases List.mem_append.1 hz with h' | h'
          · exact hK z h'
          · rw [List.mem_singleton.1 h']; exact ⟨by omega,hJ⟩⟩,rfl,by simp only; omega⟩
    · obtain rfl:k=b2.length:=by omega
      rw [List.take_length] at hK
      rw [hok hnb hI hK]
      (repeat' ((first
 | refine vn rfl ?_
 | simp (disch:=omega) only [wr64,Int.zero_sub]
 | refine bo (fun _=>?_) fun _=>?_
 | refine im fun _=>?_
 | refine cF ?_
 | refine om ?_
 | refine an ?_
 | fail) <;> try simp only [zT,zV,zS,zU,vcC,lateX,ex,strp,binA,elems,cells,scalar,eqC,keyA,intsA,lookA,ofVs,mpOf,Nat.reduceBEq,reduceAdd,reduceSub,reduceLT,reduceLeDiff,reduceMul,reduceEqDiff,reduceIte]))
      all_goals try (exfalso; omega)
      exact Frz.eq rfl (by simp)
def c14:CF:=⟨128,
 (.seq (.ops [
 ⟨some 4,.box false 24 1 (.t 0),none⟩,
 ⟨some 5,.box false 33 11 (.t 1),none⟩,
 ⟨some 8,.mv (.c (.bool false)),none⟩] [2,3,4,5])
 (.seq (.ops [
 ⟨some 20,.call (.f 16) [],none⟩,
 ⟨some 9,.mv (.t 20),none⟩] [2,3,4,5,9])
 (.seq (.seq (.ops [
 ⟨some 21,.load (some 1) (.t 4),none⟩,
 ⟨some 22,.call (.f 17) [(.t 21)],none⟩,
 ⟨some 23,.un .not (.t 22),none⟩,
 ⟨some 24,.mv (.t 23),none⟩,
 ⟨some 25,.load (some 11) (.t 5),some (24,false)⟩,
 ⟨some 26,.call (.f 18) [(.t 25)],some (24,false)⟩,
 ⟨some 27,.un .not (.t 26),some (24,false)⟩,
 ⟨some 28,.pick (.t 24) (.c (.bool true)) (.t 27),none⟩,
 ⟨some 29,.mv (.t 28),none⟩,
 ⟨some 30,.mv (.t 2),some (29,false)⟩,
 ⟨some 31,.call (.f 24) [(.t 30)],some (29,false)⟩,
 ⟨some 32,.un .not (.t 31),some (29,false)⟩,
 ⟨some 33,.pick (.t 29) (.c (.bool true)) (.t 32),none⟩,
 ⟨some 34,.mv (.t 33),none⟩,
 ⟨some 35,.mv (.t 3),some (34,false)⟩,
 ⟨some 36,.call (.f 24) [(.t 35)],some (34,false)⟩,
 ⟨some 37,.un .not (.t 36),some (34,false)⟩,
 ⟨some 38,.pick (.t 34) (.c (.bool true)) (.t 37),none⟩] [2,3,4,5,9,38])
 (.cond (.t 38) (.seq (.ops [
 ⟨some 39,.mv (.t 9),none⟩,
 ⟨some 8,.mv (.t 39),none⟩] [8])
 .ret)
 .skip))
 (.seq (.ops [
 ⟨some 41,.load (some 1) (.t 4),none⟩,
 ⟨some 42,.call (.f 47) [(.t 41)],none⟩,
 ⟨some 40,.mv (.t 42),none⟩,
 ⟨some 43,.ext 0 (.t 40),none⟩,
 ⟨some 44,.ext 1 (.t 40),none⟩,
 ⟨some 10,.mv (.t 43),none⟩,
 ⟨some 11,.mv (.t 44),none⟩] [2,3,4,5,9,10,11])
 (.seq (.ops [
 ⟨some 46,.load (some 1) (.t 4),none⟩,
 ⟨some 47,.call (.f 57) [(.t 46)],none⟩,
 ⟨some 45,.mv (.t 47),none⟩,
 ⟨some 48,.ext 0 (.t 45),none⟩,
 ⟨some 49,.ext 1 (.t 45),none⟩,
 ⟨some 12,.mv (.t 48),none⟩,
 ⟨some 13,.mv (.t 49),none⟩] [2,3,4,5,9,10,11,12,13])
 (.seq (.seq (.draw [
 ⟨some 50,.load (some 1) (.t 4),none⟩,
 ⟨some 51,.call (.f 53) [(.t 50)],none⟩,
 ⟨some 52,.load (some 1) (.t 4),none⟩,
 ⟨some 53,.call (.f 58) [(.t 52)],none⟩,
 ⟨some 54,.bin .neq (.t 51) (.t 53),none⟩,
 ⟨some 55,.mv (.t 54),none⟩,
 ⟨some 56,.mv (.t 2),some (55,false)⟩,
 ⟨some 57,.call (.f 59) [(.t 56)],some (55,false)⟩,
 ⟨some 58,.mv (.t 2),some (55,false)⟩,
 ⟨some 59,.call (.f 60) [(.t 58)],some (55,false)⟩,
 ⟨some 60,.bin .neq (.t 57) (.t 59),some (55,false)⟩,
 ⟨some 61,.pick (.t 55) (.c (.bool true)) (.t 60),none⟩,
 ⟨some 62,.mv (.t 61),none⟩,
 ⟨some 63,.load (some 1) (.t 4),some (62,false)⟩,
 ⟨some 64,.faddr 5 (.t 5),some (62,false)⟩,
 ⟨some 65,.load none (.t 64),some (62,false)⟩,
 ⟨some 66,.call (.f 61) [(.t 63),(.t 65)],some (62,false)⟩,
 ⟨some 67,.load (some 1) (.t 4),some (62,false)⟩,
 ⟨some 68,.faddr 5 (.t 5),some (62,false)⟩,
 ⟨some 69,.load none (.t 68),some (62,false)⟩,
 ⟨some 70,.call (.f 62) [(.t 67),(.t 69)],some (62,false)⟩,
 ⟨some 71,.bin .neq (.t 66) (.t 70),some (62,false)⟩,
 ⟨some 72,.pick (.t 62) (.c (.bool true)) (.t 71),none⟩,
 ⟨some 73,.mv (.t 72),none⟩,
 ⟨some 74,.mv (.t 10),some (73,false)⟩,
 ⟨some 75,.mv (.t 12),some (73,false)⟩,
 ⟨some 76,.eqb true (.t 74) (.t 75),some (73,false)⟩,
 ⟨some 77,.pick (.t 73) (.c (.bool true)) (.t 76),none⟩,
 ⟨some 78,.mv (.t 77),none⟩,
 ⟨some 79,.mv (.t 11),some (78,false)⟩,
 ⟨some 80,.mv (.t 13),some (78,false)⟩,
 ⟨some 81,.bin .neq (.t 79) (.t 80),some (78,false)⟩,
 ⟨some 82,.pick (.t 78) (.c (.bool true)) (.t 81),none⟩] [
 ] [2,3,9,82])
 (.cond (.t 82) (.seq (.ops [
 ⟨some 8,.mv (.c (.bool false)),none⟩] [8])
 .ret)
 .skip))
 (.seq (.ops [
 ⟨some 84,.mv (.t 2),none⟩,
 ⟨some 85,.mv (.t 3),none⟩,
 ⟨some 86,.call (.f 25) [(.t 84),(.t 85)],none⟩,
 ⟨some 83,.mv (.t 86),none⟩,
 ⟨some 87,.ext 0 (.t 83),none⟩,
 ⟨some 88,.ext 1 (.t 83),none⟩,
 ⟨some 14,.mv (.t 87),none⟩,
 ⟨some 11,.mv (.t 88),none⟩] [2,3,9,11,14])
 (.seq (.ops [
 ⟨some 90,.mv (.t 2),none⟩,
 ⟨some 91,.mv (.t 3),none⟩,
 ⟨some 92,.call (.f 63) [(.t 90),(.t 91)],none⟩,
 ⟨some 89,.mv (.t 92),none⟩,
 ⟨some 93,.ext 0 (.t 89),none⟩,
 ⟨some 94,.ext 1 (.t 89),none⟩,
 ⟨some 15,.mv (.t 93),none⟩,
 ⟨some 13,.mv (.t 94),none⟩] [2,3,9,11,13,14,15])
 (.seq (.ops [
 ⟨some 96,.mv (.t 2),none⟩,
 ⟨some 97,.mv (.t 3),none⟩,
 ⟨some 98,.call (.f 26) [(.t 96),(.t 97)],none⟩,
 ⟨some 95,.mv (.t 98),none⟩,
 ⟨some 99,.ext 0 (.t 95),none⟩,
 ⟨some 100,.ext 1 (.t 95),none⟩,
 ⟨some 16,.mv (.t 99),none⟩,
 ⟨some 17,.mv (.t 100),none⟩] [2,3,9,11,13,14,15,16,17])
 (.seq (.ops [
 ⟨some 102,.mv (.t 2),none⟩,
 ⟨some 103,.mv (.t 3),none⟩,
 ⟨some 104,.call (.f 64) [(.t 102),(.t 103)],none⟩,
 ⟨some 101,.mv (.t 104),none⟩,
 ⟨some 105,.ext 0 (.t 101),none⟩,
 ⟨some 106,.ext 1 (.t 101),none⟩,
 ⟨some 18,.mv (.t 105),none⟩,
 ⟨some 19,.mv (.t 106),none⟩] [9,11,13,14,15,16,17,18,19])
 (.seq (.ops [
 ⟨some 107,.mv (.t 9),none⟩,
 ⟨some 108,.mv (.t 107),none⟩,
 ⟨some 109,.mv (.t 14),some (108,true)⟩,
 ⟨some 110,.mv (.t 15),some (108,true)⟩,
 ⟨some 111,.call (.f 28) [(.t 109),(.t 110)],some (108,true)⟩,
 ⟨some 112,.pick (.t 108) (.t 111) (.c (.bool false)),none⟩,
 ⟨some 113,.mv (.t 112),none⟩,
 ⟨some 114,.mv (.t 11),some (113,true)⟩,
 ⟨some 115,.mv (.t 13),some (113,true)⟩,
 ⟨some 116,.bin .eql (.t 114) (.t 115),some (113,true)⟩,
 ⟨some 117,.pick (.t 113) (.t 116) (.c (.bool false)),none⟩,
 ⟨some 118,.mv (.t 117),none⟩,
 ⟨some 119,.mv (.t 16),some (118,true)⟩,
 ⟨some 120,.mv (.t 18),some (118,true)⟩,
 ⟨some 121,.call (.f 28) [(.t 119),(.t 120)],some (118,true)⟩,
 ⟨some 122,.pick (.t 118) (.t 121) (.c (.bool false)),none⟩,
 ⟨some 123,.mv (.t 122),none⟩,
 ⟨some 124,.mv (.t 17),some (123,true)⟩,
 ⟨some 125,.mv (.t 19),some (123,true)⟩,
 ⟨some 126,.bin .eql (.t 124) (.t 125),some (123,true)⟩,
 ⟨some 127,.pick (.t 123) (.t 126) (.c (.bool false)),none⟩,
 ⟨some 8,.mv (.t 127),none⟩] [8])
 .ret))))))))))),
 [.t 8]⟩
theorem k14:chkF Tryz.prog Tryz.f14 c14=true:=by kernel_rfl
theorem Checks_spec (t:Trk) (x:Ask) (a b:List Sp) (hs:trkSz t) (hx:Ask.sz x) (hal:a.length < 9223372036854775808) (hbl:b.length < 9223372036854775808):Pure Tryz.prog 14 [trS t,.agg x.cs,spS a,spS b] (bl true):=by
  refine Pure.of_body Tryz.call14 Tryz.func14 k14 (Nat.le_of_ble_eq_true rfl) ?_
  unfold c14
  have hw:=awake_spec
  have hf:=few_spec t hs
  have hl:=light_spec x hx
  have b1:=brief_spec a
  have b2:=brief_spec b
  have f1:=Feasible_spec t hs
  have f2:=rFeasible_spec t hs
  have c1:=Check_spec t hs
  have c2:=rCheck_spec t hs
  have s1:=CheckSet_spec a hal
  have s2:=rCheckSet_spec a hal
  have p1:=Keeps_spec t x.one hs hx.1
  have p2:=rKeeps_spec t x.one hs hx.1
  have u1:=Union_spec a b hal hbl
  have u2:=rUnion_spec a b hal hbl
  have m1:=Meet_spec a b hal hbl
  have m2:=rMeet_spec a b hal hbl
  have lu:(if tr (small a∧small b)=true then joins a b else []).length < 9223372036854775808:=by
    by_cases h:small a∧small b
    · rw [tr_1 h,if_pos rfl]
      have:=joins_len (l:=a) (b:=b)
      have:=h.1.1
      have:=h.2.1
      omega
    · rw [tr_0 h]; simp
  have lm:(if tr (small a∧small b)=true then meet a b else []).length < 9223372036854775808:=by
    by_cases h:small a∧small b
    · rw [tr_1 h,if_pos rfl]
      have:=good_len (meet_good (a:=a) h.2.2)
      omega
    · rw [tr_0 h]; simp
  have q1:=SameSpans_spec _ _ lu lu
  have q2:=SameSpans_spec _ _ lm lm
  rw [decide_eq_true rfl] at q1 q2
  generalize (if tr (small a∧small b)=true then joins a b else [])=U at *
  generalize (if tr (small a∧small b)=true then meet a b else [])=M at *
  generalize (if tr (small a∧small b)=true then (0:Int) else 1)=E1 at *
  generalize (if tr (small a)=true then (0:Int) else 1)=E2 at *
  generalize (if tr (valid t)=true then (if tr (course t x.one)=true then (0:Int) else 41) else 40)=E3 at *
  generalize (if tr (valid t)=true then (0:Int) else 40)=E4 at *
  generalize (tr (valid t) && feas t)=F at *
  generalize fewB t=B1 at *
  generalize tr (Light x)=B2 at *
  generalize decide (a.length≤12∨64 < a.length∧a.length≤128)=B3 at *
  generalize decide (b.length≤12∨64 < b.length∧b.length≤128)=B4 at *
  have bnB:(true != true)=false∧(false != false)=false:=by decide
  obtain ⟨x1,x2,x3,⟨x4,x5⟩,one,two,lims,⟨x9,x10⟩,sets⟩:=x
  simp only at *
  cases B1 <;> cases B2 <;> cases B3 <;> cases B4 <;> cases F
  all_goals (repeat' ((first
 | refine vn rfl ?_
 | simp (disch:=omega) only [wr64,Int.zero_sub]
 | refine bo (fun _=>?_) fun _=>?_
 | refine im fun _=>?_
 | ((repeat refine si ?_); (first | ((first | refine .inl ⟨_,_,_,_,rfl,fun _=>pu (by first | exact hw | exact hf | exact hl | exact b1 | exact b2 | exact f1 | exact f2 | exact c1 | exact c2 | exact s1 | exact s2 | exact p1 | exact p2 | exact u1 | exact u2 | exact m1 | exact m2 | exact q1 | exact q2),?_⟩ | refine ⟨_,_,_,_,rfl,fun _=>pu (by first | exact hw | exact hf | exact hl | exact b1 | exact b2 | exact f1 | exact f2 | exact c1 | exact c2 | exact s1 | exact s2 | exact p1 | exact p2 | exact u1 | exact u2 | exact m1 | exact m2 | exact q1 | exact q2),?_⟩); (first | refine o1 ?_ | refine o2 ?_ | refine o3 ?_ | refine o4 ?_)) | refine .inl ⟨_,_,_,_,rfl,pu (by first | exact hw | exact hf | exact hl | exact b1 | exact b2 | exact f1 | exact f2 | exact c1 | exact c2 | exact s1 | exact s2 | exact p1 | exact p2 | exact u1 | exact u2 | exact m1 | exact m2 | exact q1 | exact q2),?_⟩))
 | refine cF ?_
 | refine om ?_
 | refine an ?_
 | fail) <;> try simp only [zT,zV,zS,zU,vcC,lateX,ex,strp,binA,elems,cells,scalar,eqC,keyA,intsA,lookA,ofVs,mpOf,Nat.reduceBEq,reduceAdd,reduceSub,reduceLT,reduceLeDiff,reduceMul,reduceEqDiff,reduceIte,bnB]))
  all_goals try (exfalso; omega)
  all_goals exact Frz.eq rfl (by simp)
end Go.Proofs.YtahkhnagpdlkiaaGreat
