/- Part 9 of the texts that the claim rests on: abstract values over the walk, and contracts of functions. -/
import Derived.Test.YtahkhnagpdlkiaaGreatBr8
import Derived.Test.YtahkhnagpdlkiaaGreatRows
import Derived.WalkKit
import Derived.ProofKit
import Derived.OpenShut
import Derived.ShutString
import Derived.ChangeOld
import Derived.Below
namespace Go.Proofs.YtahkhnagpdlkiaaGreat
open Go.Abs
open Nat (reduceAdd reduceSub reduceLT reduceLeDiff reduceMul reduceEqDiff)
set_option linter.unusedVariables false
set_option linter.unusedSimpArgs false
set_option maxHeartbeats 4000000
set_option maxRecDepth 100000
open Go.ChangeShapes Go.WideShapes Go.ChangeAt Go.RowKit
theorem own:ownKnob Tryz.prog.godebug=none:=by kernel_rfl
theorem laidOut:laidOutB Tryz.prog=true:=by kernel_rfl
theorem cells3:Tryz.prog.cellsOf 3=1:=by kernel_rfl
theorem cells30:Tryz.prog.cellsOf 30=2:=by kernel_rfl
theorem cells45:Tryz.prog.cellsOf 45=1:=by kernel_rfl
theorem cells124:Tryz.prog.cellsOf 124=3:=by kernel_rfl
theorem cells78:Tryz.prog.cellsOf 78=1:=by kernel_rfl
theorem cells80:Tryz.prog.cellsOf 80=2:=by kernel_rfl
theorem cells68:Tryz.prog.cellsOf 68=1:=by kernel_rfl
theorem cells22:Tryz.prog.cellsOf 22=1:=by kernel_rfl
theorem cells24:Tryz.prog.cellsOf 24=1:=by kernel_rfl
theorem cells61:Tryz.prog.cellsOf 61=1:=by kernel_rfl
theorem cells31:Tryz.prog.cellsOf 31=1:=by kernel_rfl
theorem cells26:Tryz.prog.cellsOf 26=2:=by kernel_rfl
theorem cells27:Tryz.prog.cellsOf 27=1:=by kernel_rfl
theorem cells65:Tryz.prog.cellsOf 65=2:=by kernel_rfl
theorem cells28:Tryz.prog.cellsOf 28=1:=by kernel_rfl
theorem cells33:Tryz.prog.cellsOf 33=11:=by kernel_rfl
theorem op3:Opens Tryz.prog 3 Int (fun z=>[n z]) (fun _=>True):=(opens_int Tryz.underlying3).to id (fun _=>rfl) (fun _ _=>trivial)
theorem op30:Opens Tryz.prog 30 Sp Sp.cs (fun _=>True) :=
  (opens_struct Tryz.underlying30 cells30 (fun _=>rfl) (opensF_cons rfl cells3 op3 (fun _=>rfl) (opensF_cons rfl cells3 op3 (fun _=>rfl) (opensF_nil _)))).to (fun a=>⟨a.1,a.2.1⟩) (fun _=>rfl) (fun _ _=>trivial)
theorem op45:Opens Tryz.prog 45 (List Sp) (fun l=>[spS l]) (fun l=>l.length < 9223372036854775808) :=
  (opens_slice Tryz.underlying45 cells30 (by decide) op30 (fun _=>rfl)).to id (fun _=>rfl) (fun _ h=>h.1)
theorem op124:Opens Tryz.prog 124 Edg Edg.cs (fun _=>True) :=
  (opens_struct Tryz.underlying124 cells124 (fun _=>rfl) (opensF_cons rfl cells3 op3 (fun _=>rfl) (opensF_cons rfl cells30 op30 (fun _=>rfl) (opensF_nil _)))).to (fun a=>⟨a.1,a.2.1⟩) (fun _=>rfl) (fun _ _=>trivial)
theorem op78:Opens Tryz.prog 78 (List Edg) (fun l=>[edS l]) (fun l=>l.length < 9223372036854775808) :=
  (opens_slice Tryz.underlying78 cells124 (by decide) op124 (fun _=>rfl)).to id (fun _=>rfl) (fun _ h=>h.1)
theorem op80:Opens Tryz.prog 80 Nod Nod.cs nodSz :=
  (opens_struct Tryz.underlying80 cells80 (fun _=>rfl) (opensF_cons rfl cells45 op45 (fun _=>rfl) (opensF_cons rfl cells78 op78 (fun _=>rfl) (opensF_nil _)))).to (fun a=>⟨a.1,a.2.1⟩) (fun _=>rfl) (fun _ h=>⟨h.1,h.2.1⟩)
theorem op68:Opens Tryz.prog 68 (List Nod) (fun l=>[stS l]) stgSz :=
  (opens_slice Tryz.underlying68 cells80 (by decide) op80 (fun _=>rfl)).to id (fun _=>rfl) (fun _ h=>h)
theorem op22:Opens Tryz.prog 22 Trk (fun l=>[tkS l]) trkSz :=
  (opens_slice Tryz.underlying22 cells68 (by decide) op68 (fun _=>rfl)).to id (fun _=>rfl) (fun _ h=>h)
theorem op24:Opens Tryz.prog 24 Trk (fun l=>[tkS l]) trkSz :=
  (opens_struct Tryz.underlying24 cells24 (fun _=>rfl) (opensF_cons rfl cells22 op22 (fun _=>rfl) (opensF_nil _))).to (fun a=>a.1) (fun _=>rfl) (fun _ h=>h.1)
theorem op61:Opens Tryz.prog 61 (List (List Sp)) (fun l=>[nodS l]) (fun l=>l.length < 9223372036854775808∧∀ x∈l,x.length < 9223372036854775808) :=
  (opens_slice Tryz.underlying61 cells45 (by decide) op45 (fun _=>rfl)).to id (fun _=>rfl) (fun _ h=>h)
theorem op31:Opens Tryz.prog 31 (List (List (List Sp))) (fun l=>[stgS l]) setsSz :=
  (opens_slice Tryz.underlying31 cells61 (by decide) op61 (fun _=>rfl)).to id (fun _=>rfl) (fun _ h=>h)
theorem op26:Opens Tryz.prog 26 At At.cs (fun _=>True) :=
  (opens_struct Tryz.underlying26 cells26 (fun _=>rfl) (opensF_cons rfl cells3 op3 (fun _=>rfl) (opensF_cons rfl cells3 op3 (fun _=>rfl) (opensF_nil _)))).to (fun a=>⟨a.1,a.2.1⟩) (fun _=>rfl) (fun _ _=>trivial)
theorem op27:Opens Tryz.prog 27 (List At) (fun l=>[atS l]) (fun l=>l.length < 9223372036854775808) :=
  (opens_slice Tryz.underlying27 cells26 (by decide) op26 (fun _=>rfl)).to id (fun _=>rfl) (fun _ h=>h.1)
theorem op65:Opens Tryz.prog 65 Lim Lim.cs (fun x=>x.vs.length < 9223372036854775808) :=
  (opens_struct Tryz.underlying65 cells65 (fun _=>rfl) (opensF_cons rfl cells3 op3 (fun _=>rfl) (opensF_cons rfl cells45 op45 (fun _=>rfl) (opensF_nil _)))).to (fun a=>⟨a.1,a.2.1⟩) (fun _=>rfl) (fun _ h=>h.2.1)
theorem op28:Opens Tryz.prog 28 (List Lim) (fun l=>[liS l]) limSz :=
  (opens_slice Tryz.underlying28 cells65 (by decide) op65 (fun _=>rfl)).to id (fun _=>rfl) (fun _ h=>h)
structure Ask where
  stage:Int
  to:Int
  first:Int
  pl:At
  one:List At
  two:List At
  lims:List Lim
  ch:Sp
  sets:List (List (List Sp))
abbrev Ask.cs (x:Ask):List AV:=[n x.stage,n x.to,n x.first,n x.pl.node,n x.pl.val,atS x.one,atS x.two,liS x.lims,n x.ch.lo,n x.ch.hi,stgS x.sets]
def Ask.sz (x:Ask):Prop:=x.one.length < 9223372036854775808∧x.two.length < 9223372036854775808∧limSz x.lims∧setsSz x.sets
theorem op33:Opens Tryz.prog 33 Ask Ask.cs Ask.sz :=
  (opens_struct Tryz.underlying33 cells33 (fun _=>rfl) (opensF_cons rfl cells3 op3 (fun _=>rfl) (opensF_cons rfl cells3 op3 (fun _=>rfl) (opensF_cons rfl cells3 op3 (fun _=>rfl) (opensF_cons rfl cells26 op26 (fun _=>rfl) (opensF_cons rfl cells27 op27 (fun _=>rfl) (opensF_cons rfl cells27 op27 (fun _=>rfl) (opensF_cons rfl cells28 op28 (fun _=>rfl) (opensF_cons rfl cells30 op30 (fun _=>rfl) (opensF_cons rfl cells31 op31 (fun _=>rfl) (opensF_nil _))))))))))).to (fun a=>⟨a.1,a.2.1,a.2.2.1,a.2.2.2.1,a.2.2.2.2.1,a.2.2.2.2.2.1,a.2.2.2.2.2.2.1,a.2.2.2.2.2.2.2.1,a.2.2.2.2.2.2.2.2.1⟩) (fun _=>rfl) (fun _ h=>⟨h.2.2.2.2.1,h.2.2.2.2.2.1,h.2.2.2.2.2.2.1,h.2.2.2.2.2.2.2.2.1⟩)
section
variable {H:Type} {enc:TypeId × Value→H} {w:World} {r:Reach} {base b0:Nat} {sp:Nat→Bool} {held:Bool} {v:Value} {d:DataW H} {ps:List MemPlace}
theorem open_trk (h:Value.okWide Tryz.prog w r base 24 v) (hx:DataW.Trod enc Tryz.prog w b0 sp held 24 v d ps):∃ l:Trk,trkSz l∧RV w (fun _=>False) nob [] (trS l) v:=by
  obtain ⟨cs,rfl,_⟩:=okWide_struct Tryz.underlying24 h
  exact op24.agg hx
theorem open_ask (h:Value.okWide Tryz.prog w r base 33 v) (hx:DataW.Trod enc Tryz.prog w b0 sp held 33 v d ps):∃ l:Ask,Ask.sz l∧RV w (fun _=>False) nob [] (.agg l.cs) v:=by
  obtain ⟨cs,rfl,_⟩:=okWide_struct Tryz.underlying33 h
  exact op33.agg hx
end
end Go.Proofs.YtahkhnagpdlkiaaGreat
namespace Go.Proofs.YtahkhnagpdlkiaaGreat
open Go.Abs
open Nat (reduceAdd reduceSub reduceLT reduceLeDiff reduceMul reduceEqDiff)
set_option linter.unusedVariables false
set_option linter.unusedSimpArgs false
set_option maxHeartbeats 4000000
set_option maxRecDepth 100000
def c18:CF:=⟨77,
 (.seq (.ops [
 ⟨some 1,.box false 33 11 (.t 0),none⟩,
 ⟨some 2,.mv (.c (.bool false)),none⟩] [1])
 (.seq (.seq (.ops [
 ⟨some 6,.faddr 5 (.t 1),none⟩,
 ⟨some 7,.load none (.t 6),none⟩,
 ⟨some 8,.len (.t 7),none⟩,
 ⟨some 9,.bin .gtr (.t 8) (.c (.int .i64 500)),none⟩,
 ⟨some 10,.mv (.t 9),none⟩,
 ⟨some 11,.faddr 6 (.t 1),some (10,false)⟩,
 ⟨some 12,.load none (.t 11),some (10,false)⟩,
 ⟨some 13,.len (.t 12),some (10,false)⟩,
 ⟨some 14,.bin .gtr (.t 13) (.c (.int .i64 500)),some (10,false)⟩,
 ⟨some 15,.pick (.t 10) (.c (.bool true)) (.t 14),none⟩,
 ⟨some 16,.mv (.t 15),none⟩,
 ⟨some 17,.faddr 7 (.t 1),some (16,false)⟩,
 ⟨some 18,.load none (.t 17),some (16,false)⟩,
 ⟨some 19,.len (.t 18),some (16,false)⟩,
 ⟨some 20,.bin .gtr (.t 19) (.c (.int .i64 12)),some (16,false)⟩,
 ⟨some 21,.pick (.t 16) (.c (.bool true)) (.t 20),none⟩,
 ⟨some 22,.mv (.t 21),none⟩,
 ⟨some 23,.faddr 10 (.t 1),some (22,false)⟩,
 ⟨some 24,.load none (.t 23),some (22,false)⟩,
 ⟨some 25,.len (.t 24),some (22,false)⟩,
 ⟨some 26,.bin .gtr (.t 25) (.c (.int .i64 12)),some (22,false)⟩,
 ⟨some 27,.pick (.t 22) (.c (.bool true)) (.t 26),none⟩] [1,27])
 (.cond (.t 27) (.seq (.ops [
 ⟨some 2,.mv (.c (.bool false)),none⟩] [2])
 .ret)
 .skip))
 (.seq (.seq (.ops [
 ⟨some 3,.mv (.c (.int .i64 0)),none⟩] [1,3])
 (.block 0 (.loop (.seq (.seq (.ops [
 ⟨some 28,.mv (.t 3),none⟩,
 ⟨some 29,.faddr 7 (.t 1),none⟩,
 ⟨some 30,.load none (.t 29),none⟩,
 ⟨some 31,.len (.t 30),none⟩,
 ⟨some 32,.bin .lss (.t 28) (.t 31),none⟩] [1,3,32])
 (.cond (.t 32) .skip
 (.exit 0)))
 (.seq (.block 1 (.seq (.ops [
 ⟨some 35,.faddr 7 (.t 1),none⟩,
 ⟨some 36,.load none (.t 35),none⟩,
 ⟨some 37,.mv (.t 3),none⟩,
 ⟨some 38,.iaddr 2 (.t 36) (.t 37),none⟩,
 ⟨some 39,.faddr 1 (.t 38),none⟩,
 ⟨some 40,.load none (.t 39),none⟩,
 ⟨some 41,.call (.f 24) [(.t 40)],none⟩,
 ⟨some 42,.un .not (.t 41),none⟩] [1,3,42])
 (.cond (.t 42) (.seq (.ops [
 ⟨some 2,.mv (.c (.bool false)),none⟩] [2])
 .ret)
 .skip)))
 (.ops [
 ⟨some 33,.mv (.t 3),none⟩,
 ⟨some 34,.bin .add (.t 33) (.c (.int .i64 1)),none⟩,
 ⟨some 3,.mv (.t 34),none⟩] [1,3]))))))
 (.seq (.seq (.ops [
 ⟨some 4,.mv (.c (.int .i64 0)),none⟩] [1,4])
 (.block 2 (.loop (.seq (.seq (.ops [
 ⟨some 43,.mv (.t 4),none⟩,
 ⟨some 44,.faddr 10 (.t 1),none⟩,
 ⟨some 45,.load none (.t 44),none⟩,
 ⟨some 46,.len (.t 45),none⟩,
 ⟨some 47,.bin .lss (.t 43) (.t 46),none⟩] [1,4,47])
 (.cond (.t 47) .skip
 (.exit 2)))
 (.seq (.block 3 (.seq (.seq (.ops [
 ⟨some 50,.faddr 10 (.t 1),none⟩,
 ⟨some 51,.load none (.t 50),none⟩,
 ⟨some 52,.mv (.t 4),none⟩,
 ⟨some 53,.iaddr 1 (.t 51) (.t 52),none⟩,
 ⟨some 54,.load none (.t 53),none⟩,
 ⟨some 55,.len (.t 54),none⟩,
 ⟨some 56,.bin .gtr (.t 55) (.c (.int .i64 12)),none⟩] [1,4,56])
 (.cond (.t 56) (.seq (.ops [
 ⟨some 2,.mv (.c (.bool false)),none⟩] [2])
 .ret)
 .skip))
 (.seq (.ops [
 ⟨some 5,.mv (.c (.int .i64 0)),none⟩] [1,4,5])
 (.block 4 (.loop (.seq (.seq (.ops [
 ⟨some 57,.mv (.t 5),none⟩,
 ⟨some 58,.faddr 10 (.t 1),none⟩,
 ⟨some 59,.load none (.t 58),none⟩,
 ⟨some 60,.mv (.t 4),none⟩,
 ⟨some 61,.iaddr 1 (.t 59) (.t 60),none⟩,
 ⟨some 62,.load none (.t 61),none⟩,
 ⟨some 63,.len (.t 62),none⟩,
 ⟨some 64,.bin .lss (.t 57) (.t 63),none⟩] [1,4,5,64])
 (.cond (.t 64) .skip
 (.exit 4)))
 (.seq (.block 5 (.seq (.ops [
 ⟨some 67,.faddr 10 (.t 1),none⟩,
 ⟨some 68,.load none (.t 67),none⟩,
 ⟨some 69,.mv (.t 4),none⟩,
 ⟨some 70,.iaddr 1 (.t 68) (.t 69),none⟩,
 ⟨some 71,.load none (.t 70),none⟩,
 ⟨some 72,.mv (.t 5),none⟩,
 ⟨some 73,.iaddr 1 (.t 71) (.t 72),none⟩,
 ⟨some 74,.load none (.t 73),none⟩,
 ⟨some 75,.len (.t 74),none⟩,
 ⟨some 76,.bin .gtr (.t 75) (.c (.int .i64 40)),none⟩] [1,4,5,76])
 (.cond (.t 76) (.seq (.ops [
 ⟨some 2,.mv (.c (.bool false)),none⟩] [2])
 .ret)
 .skip)))
 (.ops [
 ⟨some 65,.mv (.t 5),none⟩,
 ⟨some 66,.bin .add (.t 65) (.c (.int .i64 1)),none⟩,
 ⟨some 5,.mv (.t 66),none⟩] [1,4,5]))))))))
 (.ops [
 ⟨some 48,.mv (.t 4),none⟩,
 ⟨some 49,.bin .add (.t 48) (.c (.int .i64 1)),none⟩,
 ⟨some 4,.mv (.t 49),none⟩] [1,4]))))))
 (.seq (.ops [
 ⟨some 2,.mv (.c (.bool true)),none⟩] [2])
 .ret))))),
 [.t 2]⟩
theorem k18:chkF Tryz.prog Tryz.f18 c18=true:=by kernel_rfl
abbrev bulky (x:Ask):Prop:=((500 < x.one.length∨500 < x.two.length)∨12 < x.lims.length)∨12 < x.sets.length
abbrev briefL (l:List Sp):Prop:=l.length≤12∨64 < l.length∧l.length≤128
structure Light (x:Ask):Prop where
  no:¬ bulky x
  lims:∀ y∈x.lims,briefL y.vs
  sets:∀ l∈x.sets,l.length≤12∧∀ s∈l,s.length≤40
theorem light_spec (x:Ask) (hs:Ask.sz x):Pure Tryz.prog 18 [.agg x.cs] (bl (tr (Light x))):=by
  refine Pure.of_body Tryz.call18 Tryz.func18 k18 (Nat.le_of_ble_eq_true rfl) ?_
  unfold c18
  have hno:¬ Light x→tr (Light x)=false:=tr_0
  obtain ⟨s1,s2,⟨s3,s4⟩,s5,s6⟩:=hs
  have hb:=fun (h:bulky x)=>hno fun g=>g.no h
  have hli:=fun (y:Lim) (hy:y∈x.lims) (h:¬ briefL y.vs)=>hno fun g=>h (g.lims y hy)
  have hse:=fun (l:List (List Sp)) (hl:l∈x.sets) (h:¬ l.length≤12)=>hno fun g=>h (g.sets l hl).1
  have hss:=fun (l:List (List Sp)) (hl:l∈x.sets) (s:List Sp) (hs:s∈l) (h:¬ s.length≤40)=>hno fun g=>h ((g.sets l hl).2 s hs)
  have hok:=fun (h:¬ bulky x) (h2:∀ y∈x.lims,briefL y.vs) (h3:∀ l∈x.sets,l.length≤12∧∀ s∈l,s.length≤40)=>(tr_1 (Light.mk h h2 h3):tr (Light x)=true)
  generalize tr (Light x)=R at *
  clear hno
  obtain ⟨a1,a2,a3,⟨a4,a5⟩,a6,a7,a8,⟨a9,b1⟩,b2⟩:=x
  try simp only at s1 s2 s3 s4 s5 s6 hb hli hse hss hok
  (repeat' ((first
 | refine vn rfl ?_
 | simp (disch:=omega) only [wr64,Int.zero_sub]
 | refine bo (fun _=>?_) fun _=>?_
 | refine im fun _=>?_
 | refine cF ?_
 | refine om ?_
 | refine an ?_
 | fail) <;> try simp only [zT,zV,zS,zU,vcC,lateX,ex,strp,binA,elems,cells,scalar,eqC,keyA,intsA,lookA,ofVs,mpOf,Nat.reduceBEq,reduceAdd,reduceSub,reduceLT,reduceLeDiff,reduceMul,reduceEqDiff,reduceIte]))
  all_goals try (exfalso; omega)
  · rename_i h
    rw [hb (by unfold bulky; simp only; omega)]
    exact Frz.eq rfl (by simp)
  rename_i h
  have hnb:¬ bulky ⟨a1,a2,a3,⟨a4,a5⟩,a6,a7,a8,⟨a9,b1⟩,b2⟩:=by unfold bulky; simp only; omega
  refine AWPC.loopE (α:={ y:Nat // y≤a8.length∧∀ z∈a8.take y,briefL z.vs }) [3] (fun y=>[(3,n y.1)]) (fun y=>[]) (fun y=>a8.length - y.1) ⟨0,Nat.zero_le _,by simp⟩ ?_ rfl ?_
  · (simp only [zT,zV,zS,zU,vcC,lateX,ex,strp,binA,elems,cells,scalar,eqC,keyA,intsA,lookA,ofVs,mpOf,Nat.reduceBEq,reduceAdd,reduceSub,reduceLT,reduceLeDiff,reduceMul,reduceEqDiff,reduceIte]; try simp)
  rintro ⟨i,hi,hI⟩
  try simp only at hi hI
  try simp only
  by_cases hlt:i < a8.length
  · obtain ⟨y,hy⟩:∃ y,a8[i]?=some y:=⟨_,List.getElem?_eq_getElem hlt⟩
    have hym:=List.mem_of_getElem? hy
    have hsn:=take_snoc hy
    have hbr:=brief_spec y.vs
    by_cases hb:briefL y.vs
    · rw [decide_eq_true hb] at hbr
      (repeat' ((first
 | refine vn rfl ?_
 | simp (disch:=omega) only [wr64,Int.zero_sub]
 | refine bo (fun _=>?_) fun _=>?_
 | refine im fun _=>?_
 | ((repeat refine si ?_); (first | ((first | refine .inl ⟨_,_,_,_,rfl,fun _=>pu hbr,?_⟩ | refine ⟨_,_,_,_,rfl,fun _=>pu hbr,?_⟩); (first | refine o1 ?_ | refine o2 ?_ | refine o3 ?_ | refine o4 ?_)) | refine .inl ⟨_,_,_,_,rfl,pu hbr,?_⟩))
 | refine cF ?_
 | refine om ?_
 | refine an ?_
 | fail) <;> try simp only [zT,zV,zS,zU,vcC,lateX,ex,strp,binA,elems,cells,scalar,eqC,keyA,intsA,lookA,ofVs,mpOf,Nat.reduceBEq,reduceAdd,reduceSub,reduceLT,reduceLeDiff,reduceMul,reduceEqDiff,reduceIte,getD_map hy]))
      all_goals try (exfalso; omega)
      exact ⟨⟨i+1,hlt,fun z hz=>by
        rw [hsn] at hz
        rcases List.mem_append.1 hz with h | h
        · exact hI z h
        · rw [List.mem_singleton.1 h]; exact hb⟩,rfl,by simp only; omega⟩
    · rw [decide_eq_false hb] at hbr
      (repeat' ((first
 | refine vn rfl ?_
 | simp (disch:=omega) only [wr64,Int.zero_sub]
 | refine bo (fun _=>?_) fun _=>?_
 | refine im fun _=>?_
 | ((repeat refine si ?_); (first | ((first | refine .inl ⟨_,_,_,_,rfl,fun _=>pu hbr,?_⟩ | refine ⟨_,_,_,_,rfl,fun _=>pu hbr,?_⟩); (first | refine o1 ?_ | refine o2 ?_ | refine o3 ?_ | refine o4 ?_)) | refine .inl ⟨_,_,_,_,rfl,pu hbr,?_⟩))
 | refine cF ?_
 | refine om ?_
 | refine an ?_
 | fail) <;> try simp only [zT,zV,zS,zU,vcC,lateX,ex,strp,binA,elems,cells,scalar,eqC,keyA,intsA,lookA,ofVs,mpOf,Nat.reduceBEq,reduceAdd,reduceSub,reduceLT,reduceLeDiff,reduceMul,reduceEqDiff,reduceIte,getD_map hy]))
      all_goals try (exfalso; omega)
      rw [hli y hym hb]
      exact Frz.eq rfl (by simp)
  · obtain rfl:i=a8.length:=by omega
    rw [List.take_length] at hI
    (repeat' ((first
 | refine vn rfl ?_
 | simp (disch:=omega) only [wr64,Int.zero_sub]
 | refine bo (fun _=>?_) fun _=>?_
 | refine im fun _=>?_
 | refine cF ?_
 | refine om ?_
 | refine an ?_
 | fail) <;> try simp only [zT,zV,zS,zU,vcC,lateX,ex,strp,binA,elems,cells,scalar,eqC,keyA,intsA,lookA,ofVs,mpOf,Nat.reduceBEq,reduceAdd,reduceSub,reduceLT,reduceLeDiff,reduceMul,reduceEqDiff,reduceIte]))
    all_goals try (exfalso; omega)
    refine AWPC.loopE (α:={ y:Nat // y≤b2.length∧∀ l∈b2.take y,l.length≤12∧∀ s∈l,s.length≤40 }) [4] (fun y=>[(4,n y.1)]) (fun y=>[]) (fun y=>b2.length - y.1) ⟨0,Nat.zero_le _,by simp⟩ ?_ rfl ?_
    · (simp only [zT,zV,zS,zU,vcC,lateX,ex,strp,binA,elems,cells,scalar,eqC,keyA,intsA,lookA,ofVs,mpOf,Nat.reduceBEq,reduceAdd,reduceSub,reduceLT,reduceLeDiff,reduceMul,reduceEqDiff,reduceIte]; try simp)
    rintro ⟨k,hk,hK⟩
    try simp only at hk hK
    try simp only
    by_cases hlt:k < b2.length
    · obtain ⟨l,hl⟩:∃ l,b2[k]?=some l:=⟨_,List.getElem?_eq_getElem hlt⟩
      have hlm:=List.mem_of_getElem? hl
      have hsn:=take_snoc hl
      have gl:(b2.map fun l=>[nodS l]).getD k []=[nodS l]:=getD_map hl
      obtain ⟨l1,l2⟩:=s6 l hlm
      (repeat' ((first
 | refine vn rfl ?_
 | simp (disch:=omega) only [wr64,Int.zero_sub]
 | refine bo (fun _=>?_) fun _=>?_
 | refine im fun _=>?_
 | refine cF ?_
 | refine om ?_
 | refine an ?_
 | fail) <;> try simp only [zT,zV,zS,zU,vcC,lateX,ex,strp,binA,elems,cells,scalar,eqC,keyA,intsA,lookA,ofVs,mpOf,Nat.reduceBEq,reduceAdd,reduceSub,reduceLT,reduceLeDiff,reduceMul,reduceEqDiff,reduceIte,gl]))
      all_goals try (exfalso; omega)
      · rename_i h
        rw [hse l hlm (by omega)]
        exact Frz.eq rfl (by simp)
      rename_i h12
      refine AWPC.loopE (α:={ y:Nat // y≤l.length∧∀ s∈l.take y,s.length≤40 }) [5] (fun y=>[(5,n y.1)]) (fun y=>[]) (fun y=>l.length - y.1) ⟨0,Nat.zero_le _,by simp⟩ ?_ rfl ?_
      · (simp only [zT,zV,zS,zU,vcC,lateX,ex,strp,binA,elems,cells,scalar,eqC,keyA,intsA,lookA,ofVs,mpOf,Nat.reduceBEq,reduceAdd,reduceSub,reduceLT,reduceLeDiff,reduceMul,reduceEqDiff,reduceIte]; try simp)
      rintro ⟨j,hj,hJ⟩
      try simp only at hj hJ
      try simp only
      by_cases hlt2:j < l.length
      · obtain ⟨s,hs⟩:∃ s,l[j]?=some s:=⟨_,List.getElem?_eq_getElem hlt2⟩
        have hsm:=List.mem_of_getElem? hs
        have hsn2:=take_snoc hs
        have gs:(l.map fun l=>[spS l]).getD j []=[spS s]:=getD_map hs
        have hsl:=l2 s hsm
        (repeat' ((first
 | refine vn rfl ?_
 | simp (disch:=omega) only [wr64,Int.zero_sub]
 | refine bo (fun _=>?_) fun _=>?_
 | refine im fun _=>?_
 | refine cF ?_
 | refine om ?_
 | refine an ?_
 | fail) <;> try simp only [zT, zV, zS, zU, vcC, lateX, ex, strp, binA, elems, cells, scalar, eqC, keyA, intsA, lookA, ofVs, mpOf, Nat.reduceBEq, reduceAdd, reduceSub, reduceLT, reduceLeDiff, reduceMul, reduceEqDiff, reduceIte, gl, gs]))
        all_goals try (exfalso; omega)
        · rename_i h
          rw [hss l hlm s hsm (by omega)]
          exact Frz.eq rfl (by simp)
        · rename_i h
          exact ⟨⟨j+1,hlt2,fun z hz=>by
            rw [hsn2] at hz
            rcases List.mem_append.1 hz with h' | h'
            · exact hJ z h'
            · rw [List.mem_singleton.1 h']; omega⟩,rfl,by simp only; omega⟩
      · obtain rfl:j=l.length:=by omega
        rw [List.take_length] at hJ
        (repeat' ((first
 | refine vn rfl ?_
 | simp (disch:=omega) only [wr64,Int.zero_sub]
 | refine bo (fun _=>?_) fun _=>?_
 | refine im fun _=>?_
 | refine cF ?_
 | refine om ?_
 | refine an ?_
 | fail) <;> try simp only [zT, zV, zS, zU, vcC, lateX, ex, strp, binA, elems, cells, scalar, eqC, keyA, intsA, lookA, ofVs, mpOf, Nat.reduceBEq, reduceAdd, reduceSub, reduceLT, reduceLeDiff, reduceMul, reduceEqDiff, reduceIte, gl]))
        all_goals try (exfalso; omega)
        exact ⟨⟨k+1,hlt,fun z hz=>by
          rw [hsn] at hz
          rcases List.mem_append.1 hz with h' | h'
          · exact hK z h'
          · rw [List.mem_singleton.1 h']; exact ⟨by omega,hJ⟩⟩,rfl,by simp only; omega⟩
    · obtain rfl:k=b2.length:=by omega
      rw [List.take_length] at hK
      rw [hok hnb hI hK]
      (repeat' ((first
 | refine vn rfl ?_
 | simp (disch:=omega) only [wr64,Int.zero_sub]
 | refine bo (fun _=>?_) fun _=>?_
 | refine im fun _=>?_
 | refine cF ?_
 | refine om ?_
 | refine an ?_
 | fail) <;> try simp only [zT,zV,zS,zU,vcC,lateX,ex,strp,binA,elems,cells,scalar,eqC,keyA,intsA,lookA,ofVs,mpOf,Nat.reduceBEq,reduceAdd,reduceSub,reduceLT,reduceLeDiff,reduceMul,reduceEqDiff,reduceIte]))
      all_goals try (exfalso; omega)
      exact Frz.eq rfl (by simp)
def c83:CF:=⟨15,
 (.seq (.ops [
 ⟨some 2,.box false 24 1 (.t 0),none⟩,
 ⟨some 4,.mv (.c (.slice none 0 0)),none⟩,
 ⟨some 5,.mv (.c (.int .i64 0)),none⟩] [1,2])
 (.seq (.seq (.ops [
 ⟨some 7,.load (some 1) (.t 2),none⟩,
 ⟨some 8,.call (.f 53) [(.t 7)],none⟩,
 ⟨some 6,.mv (.t 8),none⟩] [1,2,6])
 (.seq (.ops [
 ⟨some 9,.mv (.t 6),none⟩,
 ⟨some 10,.bin .neq (.t 9) (.c (.int .i64 0)),none⟩] [1,2,6,10])
 (.cond (.t 10) (.seq (.ops [
 ⟨some 11,.mv (.t 6),none⟩,
 ⟨some 4,.mv (.c (.slice none 0 0)),none⟩,
 ⟨some 5,.mv (.t 11),none⟩] [4,5])
 .ret)
 .skip)))
 (.seq (.ops [
 ⟨some 12,.mv (.t 1),none⟩,
 ⟨some 13,.load (some 1) (.t 2),none⟩,
 ⟨some 14,.call (.t 12) [(.t 13)],none⟩,
 ⟨some 4,.mv (.t 14),none⟩,
 ⟨some 5,.mv (.c (.int .i64 0)),none⟩] [4,5])
 .ret))),
 [.t 4,.t 5]⟩
def c44:CF:=⟨30,
 (.seq (.ops [
 ⟨some 2,.box false 24 1 (.t 0),none⟩,
 ⟨some 4,.mv (.c (.bool false)),none⟩] [1,2])
 (.seq (.seq (.ops [
 ⟨some 6,.mv (.t 1),none⟩,
 ⟨some 7,.len (.t 6),none⟩,
 ⟨some 8,.faddr 0 (.t 2),none⟩,
 ⟨some 9,.load none (.t 8),none⟩,
 ⟨some 10,.len (.t 9),none⟩,
 ⟨some 11,.bin .neq (.t 7) (.t 10),none⟩] [1,2,11])
 (.cond (.t 11) (.seq (.ops [
 ⟨some 4,.mv (.c (.bool false)),none⟩] [4])
 .ret)
 .skip))
 (.seq (.seq (.ops [
 ⟨some 5,.mv (.c (.int .i64 0)),none⟩] [1,2,5])
 (.block 0 (.loop (.seq (.seq (.ops [
 ⟨some 12,.mv (.t 5),none⟩,
 ⟨some 13,.mv (.t 1),none⟩,
 ⟨some 14,.len (.t 13),none⟩,
 ⟨some 15,.bin .lss (.t 12) (.t 14),none⟩] [1,2,5,15])
 (.cond (.t 15) .skip
 (.exit 0)))
 (.seq (.block 1 (.seq (.draw [
 ⟨some 18,.mv (.t 1),none⟩,
 ⟨some 19,.mv (.t 5),none⟩,
 ⟨some 20,.iaddr 1 (.t 18) (.t 19),none⟩,
 ⟨some 21,.load none (.t 20),none⟩,
 ⟨some 22,.len (.t 21),none⟩,
 ⟨some 23,.faddr 0 (.t 2),none⟩,
 ⟨some 24,.load none (.t 23),none⟩,
 ⟨some 25,.mv (.t 5),none⟩,
 ⟨some 26,.iaddr 1 (.t 24) (.t 25),none⟩,
 ⟨some 27,.load none (.t 26),none⟩,
 ⟨some 28,.len (.t 27),none⟩,
 ⟨some 29,.bin .neq (.t 22) (.t 28),none⟩] [
 ] [1,2,5,29])
 (.cond (.t 29) (.seq (.ops [
 ⟨some 4,.mv (.c (.bool false)),none⟩] [4])
 .ret)
 .skip)))
 (.ops [
 ⟨some 16,.mv (.t 5),none⟩,
 ⟨some 17,.bin .add (.t 16) (.c (.int .i64 1)),none⟩,
 ⟨some 5,.mv (.t 17),none⟩] [1,2,5]))))))
 (.seq (.ops [
 ⟨some 4,.mv (.c (.bool true)),none⟩] [4])
 .ret)))),
 [.t 4]⟩
def c45:CF:=⟨49,
 (.seq (.ops [
 ⟨some 4,.mv (.c (.bool false)),none⟩] [0,1])
 (.seq (.seq (.ops [
 ⟨some 5,.mv (.c (.int .i64 0)),none⟩] [0,1,5])
 (.block 0 (.loop (.seq (.seq (.ops [
 ⟨some 8,.mv (.t 5),none⟩,
 ⟨some 9,.mv (.t 0),none⟩,
 ⟨some 10,.len (.t 9),none⟩,
 ⟨some 11,.bin .lss (.t 8) (.t 10),none⟩] [0,1,5,11])
 (.cond (.t 11) .skip
 (.exit 0)))
 (.seq (.block 1 (.seq (.ops [
 ⟨some 6,.mv (.c (.bool false)),none⟩] [0,1,5,6])
 (.seq (.seq (.ops [
 ⟨some 7,.mv (.c (.int .i64 0)),none⟩] [0,1,5,6,7])
 (.block 2 (.loop (.seq (.seq (.ops [
 ⟨some 14,.mv (.t 7),none⟩,
 ⟨some 15,.mv (.t 1),none⟩,
 ⟨some 16,.len (.t 15),none⟩,
 ⟨some 17,.bin .lss (.t 14) (.t 16),none⟩] [0,1,5,6,7,17])
 (.cond (.t 17) .skip
 (.exit 2)))
 (.seq (.block 3 (.draw [
 ⟨some 20,.mv (.t 6),none⟩,
 ⟨some 21,.mv (.t 20),none⟩,
 ⟨some 22,.mv (.t 1),some (21,false)⟩,
 ⟨some 23,.mv (.t 7),some (21,false)⟩,
 ⟨some 24,.iaddr 2 (.t 22) (.t 23),some (21,false)⟩,
 ⟨some 25,.faddr 0 (.t 24),some (21,false)⟩,
 ⟨some 26,.load none (.t 25),some (21,false)⟩,
 ⟨some 27,.mv (.t 0),some (21,false)⟩,
 ⟨some 28,.mv (.t 5),some (21,false)⟩,
 ⟨some 29,.iaddr 2 (.t 27) (.t 28),some (21,false)⟩,
 ⟨some 30,.faddr 0 (.t 29),some (21,false)⟩,
 ⟨some 31,.load none (.t 30),some (21,false)⟩,
 ⟨some 32,.bin .leq (.t 26) (.t 31),some (21,false)⟩,
 ⟨some 33,.mv (.t 32),some (21,false)⟩,
 ⟨some 34,.mv (.t 0),some (33,true)⟩,
 ⟨some 35,.mv (.t 5),some (33,true)⟩,
 ⟨some 36,.iaddr 2 (.t 34) (.t 35),some (33,true)⟩,
 ⟨some 37,.faddr 1 (.t 36),some (33,true)⟩,
 ⟨some 38,.load none (.t 37),some (33,true)⟩,
 ⟨some 39,.mv (.t 1),some (33,true)⟩,
 ⟨some 40,.mv (.t 7),some (33,true)⟩,
 ⟨some 41,.iaddr 2 (.t 39) (.t 40),some (33,true)⟩,
 ⟨some 42,.faddr 1 (.t 41),some (33,true)⟩,
 ⟨some 43,.load none (.t 42),some (33,true)⟩,
 ⟨some 44,.bin .leq (.t 38) (.t 43),some (33,true)⟩,
 ⟨some 45,.pick (.t 33) (.t 44) (.c (.bool false)),some (21,false)⟩,
 ⟨some 46,.pick (.t 21) (.c (.bool true)) (.t 45),none⟩] [
 ⟨some 6,.mv (.t 46),none⟩] [0,1,5,6,7]))
 (.ops [
 ⟨some 18,.mv (.t 7),none⟩,
 ⟨some 19,.bin .add (.t 18) (.c (.int .i64 1)),none⟩,
 ⟨some 7,.mv (.t 19),none⟩] [0,1,5,6,7]))))))
 (.seq (.ops [
 ⟨some 47,.mv (.t 6),none⟩,
 ⟨some 48,.un .not (.t 47),none⟩] [0,1,5,48])
 (.cond (.t 48) (.seq (.ops [
 ⟨some 4,.mv (.c (.bool false)),none⟩] [4])
 .ret)
 .skip)))))
 (.ops [
 ⟨some 12,.mv (.t 5),none⟩,
 ⟨some 13,.bin .add (.t 12) (.c (.int .i64 1)),none⟩,
 ⟨some 5,.mv (.t 13),none⟩] [0,1,5]))))))
 (.seq (.ops [
 ⟨some 4,.mv (.c (.bool true)),none⟩] [4])
 .ret))),
 [.t 4]⟩
theorem k83:chkF Tryz.prog Tryz.f83 c83=true:=by kernel_rfl
theorem k44:chkF Tryz.prog Tryz.f44 c44=true:=by kernel_rfl
theorem k45:chkF Tryz.prog Tryz.f45 c45=true:=by kernel_rfl
theorem told_spec (t:Trk) (hs:trkSz t) (f:Nat) (x:List (List (List Sp))) (hf:valid t→Pure Tryz.prog f [trS t] (stgS x)) :
    Pure Tryz.prog 83 [trS t,.fn (.func f) [] []] (.tup [stgS (if tr (valid t)=true then x else []),n (if tr (valid t)=true then 0 else 40)]):=by
  refine Pure.of_body Tryz.call83 Tryz.func83 k83 (Nat.le_of_ble_eq_true rfl) ?_
  unfold c83
  have hc:=Check_spec t hs
  by_cases hv:valid t
  · rw [tr_1 hv] at hc ⊢
    simp only [if_true] at hc ⊢
    have hx:=hf hv
    (repeat' ((first
 | refine vn rfl ?_
 | simp (disch:=omega) only [wr64,Int.zero_sub]
 | refine bo (fun _=>?_) fun _=>?_
 | refine im fun _=>?_
 | ((repeat refine si ?_); (first | ((first | refine .inl ⟨_,_,_,_,rfl,fun _=>pu (by first | exact hc | exact hx),?_⟩ | refine ⟨_,_,_,_,rfl,fun _=>pu (by first | exact hc | exact hx),?_⟩); (first | refine o1 ?_ | refine o2 ?_ | refine o3 ?_ | refine o4 ?_)) | refine .inl ⟨_,_,_,_,rfl,pu (by first | exact hc | exact hx),?_⟩))
 | refine cF ?_
 | refine om ?_
 | refine an ?_
 | fail) <;> try simp only [zT,zV,zS,zU,vcC,lateX,ex,strp,binA,elems,cells,scalar,eqC,keyA,intsA,lookA,ofVs,mpOf,Nat.reduceBEq,reduceAdd,reduceSub,reduceLT,reduceLeDiff,reduceMul,reduceEqDiff,reduceIte]))
    all_goals try (exfalso; omega)
    all_goals exact Frz.eq rfl (by simp)
  · rw [tr_0 hv] at hc ⊢
    simp only [Bool.false_eq_true,if_false] at hc ⊢
    (repeat' ((first
 | refine vn rfl ?_
 | simp (disch:=omega) only [wr64,Int.zero_sub]
 | refine bo (fun _=>?_) fun _=>?_
 | refine im fun _=>?_
 | ((repeat refine si ?_); (first | ((first | refine .inl ⟨_,_,_,_,rfl,fun _=>pu hc,?_⟩ | refine ⟨_,_,_,_,rfl,fun _=>pu hc,?_⟩); (first | refine o1 ?_ | refine o2 ?_ | refine o3 ?_ | refine o4 ?_)) | refine .inl ⟨_,_,_,_,rfl,pu hc,?_⟩))
 | refine cF ?_
 | refine om ?_
 | refine an ?_
 | fail) <;> try simp only [zT,zV,zS,zU,vcC,lateX,ex,strp,binA,elems,cells,scalar,eqC,keyA,intsA,lookA,ofVs,mpOf,Nat.reduceBEq,reduceAdd,reduceSub,reduceLT,reduceLeDiff,reduceMul,reduceEqDiff,reduceIte]))
    all_goals try (exfalso; omega)
    exact frz2 frz_nil (by simp)
def shaped (t:Trk) (ps:List (List (List Sp))):Prop:=ps.length=t.length∧∀ k,k < t.length→(ps.getD k []).length=wd t k
theorem shaped_spec (t:Trk) (ps:List (List (List Sp))) (hs:trkSz t) (hp:setsSz ps):Pure Tryz.prog 44 [trS t,stgS ps] (bl (tr (shaped t ps))):=by
  refine Pure.of_body Tryz.call44 Tryz.func44 k44 (Nat.le_of_ble_eq_true rfl) ?_
  unfold c44
  have hno:¬ shaped t ps→tr (shaped t ps)=false:=tr_0
  have hyes:shaped t ps→tr (shaped t ps)=true:=tr_1
  have h1:=hs.1
  obtain ⟨hpl,hpx⟩:=hp
  generalize tr (shaped t ps)=R at *
  (repeat' ((first
 | refine vn rfl ?_
 | simp (disch:=omega) only [wr64,Int.zero_sub]
 | refine bo (fun _=>?_) fun _=>?_
 | refine im fun _=>?_
 | refine cF ?_
 | refine om ?_
 | refine an ?_
 | fail) <;> try simp only [zT,zV,zS,zU,vcC,lateX,ex,strp,binA,elems,cells,scalar,eqC,keyA,intsA,lookA,ofVs,mpOf,Nat.reduceBEq,reduceAdd,reduceSub,reduceLT,reduceLeDiff,reduceMul,reduceEqDiff,reduceIte]))
  · rename_i h
    rw [hno fun e=>h (by have:=e.1; omega)]
    exact Frz.eq rfl (by simp)
  rename_i h
  have hlen:ps.length=t.length:=by omega
  refine AWPC.loopE (α:={ y:Nat // y≤ps.length∧∀ k,k < y→(ps.getD k []).length=wd t k }) [5] (fun y=>[(5,n y.1)]) (fun y=>[]) (fun y=>ps.length - y.1) ⟨0,Nat.zero_le _,by simp⟩ ?_ rfl ?_
  · (simp only [zT,zV,zS,zU,vcC,lateX,ex,strp,binA,elems,cells,scalar,eqC,keyA,intsA,lookA,ofVs,mpOf,Nat.reduceBEq,reduceAdd,reduceSub,reduceLT,reduceLeDiff,reduceMul,reduceEqDiff,reduceIte]; try simp)
  rintro ⟨i,hi,hI⟩
  try simp only at hi hI
  try simp only
  by_cases hlt:i < ps.length
  · have hpi:ps[i]?=some (ps.getD i []):=getD_some hlt
    have gp:(ps.map fun l=>[nodS l]).getD i []=[nodS (ps.getD i [])]:=getD_map hpi
    have hti:t[i]?=some (t.getD i []):=getD_some (by omega)
    have gt':(t.map fun l=>[stS l]).getD i []=[stS (t.getD i [])]:=getD_map hti
    have hww:wd t i=(t.getD i []).length:=rfl
    obtain ⟨x1,x2⟩:=hpx _ (List.mem_of_getElem? hpi)
    have hL:=(hs.2 _ (List.mem_of_getElem? hti)).1
    have hb1:(ps.getD i []).length≠wd t i→¬ shaped t ps:=fun h g=>h (g.2 i (by omega))
    have hnext:(ps.getD i []).length=wd t i→∀ k,k < i+1→(ps.getD k []).length=wd t k:=fun a k hk=>by
      by_cases hki:k=i
      · subst hki; exact a
      · exact hI k (by omega)
    generalize ps.getD i []=X at *
    rw [hww] at hb1 hnext
    generalize t.getD i []=L at *
    (repeat' ((first
 | refine vn rfl ?_
 | simp (disch:=omega) only [wr64,Int.zero_sub]
 | refine bo (fun _=>?_) fun _=>?_
 | refine im fun _=>?_
 | refine cF ?_
 | refine om ?_
 | refine an ?_
 | fail) <;> try simp only [zT,zV,zS,zU,vcC,lateX,ex,strp,binA,elems,cells,scalar,eqC,keyA,intsA,lookA,ofVs,mpOf,Nat.reduceBEq,reduceAdd,reduceSub,reduceLT,reduceLeDiff,reduceMul,reduceEqDiff,reduceIte,gp,gt']))
    all_goals try (exfalso; omega)
    · rename_i h
      rw [hno (hb1 (by omega))]
      exact Frz.eq rfl (by simp)
    · rename_i h
      exact ⟨⟨i+1,hlt,hnext (by omega)⟩,rfl,by first | omega | (simp only; omega)⟩
  · obtain rfl:i=ps.length:=by omega
    rw [hyes ⟨hlen,fun k hk=>hI k (by omega)⟩]
    (repeat' ((first
 | refine vn rfl ?_
 | simp (disch:=omega) only [wr64,Int.zero_sub]
 | refine bo (fun _=>?_) fun _=>?_
 | refine im fun _=>?_
 | refine cF ?_
 | refine om ?_
 | refine an ?_
 | fail) <;> try simp only [zT,zV,zS,zU,vcC,lateX,ex,strp,binA,elems,cells,scalar,eqC,keyA,intsA,lookA,ofVs,mpOf,Nat.reduceBEq,reduceAdd,reduceSub,reduceLT,reduceLeDiff,reduceMul,reduceEqDiff,reduceIte]))
    all_goals try (exfalso; omega)
    exact Frz.eq rfl (by simp)
end Go.Proofs.YtahkhnagpdlkiaaGreat
namespace Go.Abs
set_option linter.unusedVariables false
set_option linter.unusedSimpArgs false
theorem Frz.mp {σ:Sto} {f n:Nat} {o:Ob} {m m':List (List Int × AV)} (ho:σ.at f 0=some o) (hm:mpOf o n=some m) (hl:m.length=m'.length)
    (hk:∀ i,i < m.length→(m'.getD i ([],.any)).1=(m.getD i ([],.any)).1) (hv:∀ i,i < m.length→Frz σ (m.getD i ([],.any)).2 (m'.getD i ([],.any)).2):Frz σ (.mp f) (.imap n m'):=fun w X β x hs hx=>by
  obtain ⟨b,es,cl,hβ,rfl,_,hb,hr⟩:=mp_block hs ho hm hx
  obtain ⟨h1,h2,h3⟩:=of_mprel hr
  have hd:∀ i,es.getD i ⟨undef,undef,0⟩=es.toList.getD i ⟨undef,undef,0⟩:=fun i=>by simp [Array.getD_eq_getD_getElem?,List.getD_eq_getElem?_getD]
  refine .imap n m' b es cl hb (fun hX=>hs.dis f 0 o b ho hβ hX) (by rw [← hl,← h1]; simp) (fun i hi=>?_) fun i hi=>?_
  · rw [hd,hk i (by omega)]; exact h2 i (by omega)
  · rw [hd]; exact hv i (by omega) w X β _ hs (h3 i (by omega))
theorem mget_map {α:Type} (key:α→List Int) (val:α→AV) (ks:List Int):∀ l:List α,mget (l.map fun a=>(key a,val a)) ks=(l.find? fun a=>decide (key a=ks)).map val
  | []=>rfl
  | a::l=>by
    simp only [List.map_cons,mget,List.find?_cons,mget_map key val ks l]
    by_cases h:key a=ks <;> simp [h]
end Go.Abs
namespace Go.Proofs.YtahkhnagpdlkiaaGreat
open Go.Abs
open Nat (reduceAdd reduceSub reduceLT reduceLeDiff reduceMul reduceEqDiff)
set_option linter.unusedVariables false
set_option linter.unusedSimpArgs false
set_option maxHeartbeats 4000000
set_option maxRecDepth 100000
def c123:CF:=⟨41,
 (.seq (.ops [
 ⟨some 2,.mv (.c (.map none)),none⟩] [0])
 (.seq (.ops [
 ⟨some 8,.mkmp 2,none⟩,
 ⟨some 3,.mv (.t 8),none⟩] [0,3])
 (.seq (.seq (.ops [
 ⟨some 9,.mv (.t 0),none⟩,
 ⟨some 10,.len (.t 9),none⟩,
 ⟨some 11,.mv (.c (.int .i64 0)),none⟩] [3,9,10,11])
 (.block 0 (.loop (.seq (.ops [
 ⟨some 12,.bin .lss (.t 11) (.t 10),none⟩] [3,9,10,11,12])
 (.seq (.cond (.t 12) .skip
 (.exit 0))
 (.seq (.block 1 (.seq (.ops [
 ⟨some 13,.mv (.t 11),none⟩,
 ⟨some 14,.iaddr 2 (.t 9) (.t 11),none⟩,
 ⟨some 15,.load (some 2) (.t 14),none⟩,
 ⟨some 5,.alloc 80 2 [.slice none 0 0,.slice none 0 0],none⟩,
 ⟨some 4,.mv (.t 13),none⟩,
 ⟨none,.store 2 (.t 5) (.t 15),none⟩] [3,4,5,9,10,11])
 (.seq (.ops [
 ⟨some 16,.faddr 1 (.t 5),none⟩,
 ⟨some 17,.load none (.t 16),none⟩,
 ⟨some 18,.len (.t 17),none⟩,
 ⟨some 19,.mv (.c (.int .i64 0)),none⟩] [3,4,9,10,11,17,18,19])
 (.block 2 (.loop (.seq (.ops [
 ⟨some 20,.bin .lss (.t 19) (.t 18),none⟩] [3,4,9,10,11,17,18,19,20])
 (.seq (.cond (.t 20) .skip
 (.exit 2))
 (.seq (.block 3 (.seq (.ops [
 ⟨some 21,.iaddr 3 (.t 17) (.t 19),none⟩,
 ⟨some 22,.load (some 3) (.t 21),none⟩,
 ⟨some 7,.alloc 124 3 [.int .i64 0,.int .i64 0,.int .i64 0],none⟩,
 ⟨none,.store 3 (.t 7) (.t 22),none⟩] [3,4,7,9,10,11,17,18,19])
 (.draww [0,1,2,3,4,5,6,7,8,9,10,11,12,13,14,15] [0,1,2,3,4] 1 [
 ⟨some 23,.mv (.t 3),none⟩,
 ⟨some 24,.mv (.t 4),none⟩,
 ⟨some 25,.faddr 0 (.t 7),none⟩,
 ⟨some 26,.load none (.t 25),none⟩,
 ⟨some 27,.build [.int .i64 0,.int .i64 0] [(0,1,(.t 24)),(1,1,(.t 26))],none⟩,
 ⟨some 28,.mv (.t 3),none⟩,
 ⟨some 29,.mv (.t 4),none⟩,
 ⟨some 30,.faddr 0 (.t 7),none⟩,
 ⟨some 31,.load none (.t 30),none⟩,
 ⟨some 32,.build [.int .i64 0,.int .i64 0] [(0,1,(.t 29)),(1,1,(.t 31))],none⟩,
 ⟨some 33,.look 2 false [.slice none 0 0] false (.t 28) (.t 32),none⟩,
 ⟨some 34,.faddr 1 (.t 7),none⟩,
 ⟨some 35,.load (some 2) (.t 34),none⟩,
 ⟨some 36,.bsl false 30 2 1 [.int .i64 0,.int .i64 0] [(0,2,(.t 35))],none⟩] [
 ⟨some 37,.app 30 2 16 (.t 33) (.t 36),none⟩,
 ⟨none,.mput 2 (.t 23) (.t 27) (.t 37),none⟩] [3,4,9,10,11,17,18,19])))
 (.ops [
 ⟨some 38,.bin .add (.t 19) (.c (.int .i64 1)),none⟩,
 ⟨some 19,.mv (.t 38),none⟩] [3,4,9,10,11,17,18,19])))))))))
 (.ops [
 ⟨some 39,.bin .add (.t 11) (.c (.int .i64 1)),none⟩,
 ⟨some 11,.mv (.t 39),none⟩] [3,9,10,11])))))))
 (.seq (.ops [
 ⟨some 40,.mv (.t 3),none⟩,
 ⟨some 2,.mv (.t 40),none⟩] [2])
 .ret)))),
 [.t 2]⟩
def c121:CF:=⟨26,
 (.seq (.ops [
 ⟨some 3,.box false 26 2 (.t 1),none⟩,
 ⟨some 4,.mv (.c (.bool false)),none⟩] [0,3])
 (.seq (.draw [
 ⟨some 5,.faddr 0 (.t 3),none⟩,
 ⟨some 6,.load none (.t 5),none⟩,
 ⟨some 7,.bin .geq (.t 6) (.c (.int .i64 0)),none⟩,
 ⟨some 8,.mv (.t 7),none⟩,
 ⟨some 9,.faddr 0 (.t 3),some (8,true)⟩,
 ⟨some 10,.load none (.t 9),some (8,true)⟩,
 ⟨some 11,.mv (.t 0),some (8,true)⟩,
 ⟨some 12,.len (.t 11),some (8,true)⟩,
 ⟨some 13,.bin .lss (.t 10) (.t 12),some (8,true)⟩,
 ⟨some 14,.pick (.t 8) (.t 13) (.c (.bool false)),none⟩,
 ⟨some 15,.mv (.t 14),none⟩,
 ⟨some 16,.mv (.t 0),some (15,true)⟩,
 ⟨some 17,.faddr 0 (.t 3),some (15,true)⟩,
 ⟨some 18,.load none (.t 17),some (15,true)⟩,
 ⟨some 19,.iaddr 2 (.t 16) (.t 18),some (15,true)⟩,
 ⟨some 20,.faddr 0 (.t 19),some (15,true)⟩,
 ⟨some 21,.load none (.t 20),some (15,true)⟩,
 ⟨some 22,.faddr 1 (.t 3),some (15,true)⟩,
 ⟨some 23,.load none (.t 22),some (15,true)⟩,
 ⟨some 24,.call (.f 122) [(.t 21),(.t 23)],some (15,true)⟩,
 ⟨some 25,.pick (.t 15) (.t 24) (.c (.bool false)),none⟩,
 ⟨some 4,.mv (.t 25),none⟩] [
 ] [4])
 .ret)),
 [.t 4]⟩
def c61:CF:=⟨67,
 (.seq (.ops [
 ⟨some 2,.box false 24 1 (.t 0),none⟩,
 ⟨some 4,.mv (.c (.int .i64 0)),none⟩] [1,2])
 (.seq (.seq (.ops [
 ⟨some 8,.load (some 1) (.t 2),none⟩,
 ⟨some 9,.call (.f 53) [(.t 8)],none⟩,
 ⟨some 5,.mv (.t 9),none⟩] [1,2,5])
 (.seq (.ops [
 ⟨some 10,.mv (.t 5),none⟩,
 ⟨some 11,.bin .neq (.t 10) (.c (.int .i64 0)),none⟩] [1,2,5,11])
 (.cond (.t 11) (.seq (.ops [
 ⟨some 12,.mv (.t 5),none⟩,
 ⟨some 4,.mv (.t 12),none⟩] [4])
 .ret)
 .skip)))
 (.seq (.seq (.ops [
 ⟨some 13,.mv (.t 1),none⟩,
 ⟨some 14,.len (.t 13),none⟩,
 ⟨some 15,.faddr 0 (.t 2),none⟩,
 ⟨some 16,.load none (.t 15),none⟩,
 ⟨some 17,.len (.t 16),none⟩,
 ⟨some 18,.bin .neq (.t 14) (.t 17),none⟩] [1,2,18])
 (.cond (.t 18) (.seq (.ops [
 ⟨some 4,.mv (.c (.int .i64 41)),none⟩] [4])
 .ret)
 .skip))
 (.seq (.seq (.ops [
 ⟨some 19,.mv (.t 1),none⟩,
 ⟨some 20,.len (.t 19),none⟩,
 ⟨some 21,.mv (.c (.int .i64 0)),none⟩] [1,2,19,20,21])
 (.block 0 (.loop (.seq (.ops [
 ⟨some 22,.bin .lss (.t 21) (.t 20),none⟩] [1,2,19,20,21,22])
 (.seq (.cond (.t 22) .skip
 (.exit 0))
 (.seq (.block 1 (.seq (.ops [
 ⟨some 23,.mv (.t 21),none⟩,
 ⟨some 24,.iaddr 2 (.t 19) (.t 21),none⟩,
 ⟨some 25,.load (some 2) (.t 24),none⟩,
 ⟨some 7,.alloc 26 2 [.int .i64 0,.int .i64 0],none⟩,
 ⟨some 6,.mv (.t 23),none⟩,
 ⟨none,.store 2 (.t 7) (.t 25),none⟩] [1,2,6,7,19,20,21])
 (.seq (.seq (.draw [
 ⟨some 26,.faddr 0 (.t 2),none⟩,
 ⟨some 27,.load none (.t 26),none⟩,
 ⟨some 28,.mv (.t 6),none⟩,
 ⟨some 29,.iaddr 1 (.t 27) (.t 28),none⟩,
 ⟨some 30,.load none (.t 29),none⟩,
 ⟨some 31,.load (some 2) (.t 7),none⟩,
 ⟨some 32,.call (.f 121) [(.t 30),(.t 31)],none⟩,
 ⟨some 33,.un .not (.t 32),none⟩] [
 ] [1,2,6,7,19,20,21,33])
 (.cond (.t 33) (.seq (.ops [
 ⟨some 4,.mv (.c (.int .i64 41)),none⟩] [4])
 .ret)
 .skip))
 (.seq (.draw [
 ⟨some 34,.mv (.t 6),none⟩,
 ⟨some 35,.bin .gtr (.t 34) (.c (.int .i64 0)),none⟩,
 ⟨some 36,.mv (.t 35),none⟩,
 ⟨some 37,.faddr 0 (.t 2),some (36,true)⟩,
 ⟨some 38,.load none (.t 37),some (36,true)⟩,
 ⟨some 39,.mv (.t 6),some (36,true)⟩,
 ⟨some 40,.bin .sub (.t 39) (.c (.int .i64 1)),some (36,true)⟩,
 ⟨some 41,.iaddr 1 (.t 38) (.t 40),some (36,true)⟩,
 ⟨some 42,.load none (.t 41),some (36,true)⟩,
 ⟨some 43,.call (.f 123) [(.t 42)],some (36,true)⟩,
 ⟨some 44,.mv (.t 1),some (36,true)⟩,
 ⟨some 45,.mv (.t 6),some (36,true)⟩,
 ⟨some 46,.bin .sub (.t 45) (.c (.int .i64 1)),some (36,true)⟩,
 ⟨some 47,.iaddr 2 (.t 44) (.t 46),some (36,true)⟩,
 ⟨some 48,.faddr 0 (.t 47),some (36,true)⟩,
 ⟨some 49,.load none (.t 48),some (36,true)⟩,
 ⟨some 50,.faddr 0 (.t 7),some (36,true)⟩,
 ⟨some 51,.load none (.t 50),some (36,true)⟩,
 ⟨some 52,.build [.int .i64 0,.int .i64 0] [(0,1,(.t 49)),(1,1,(.t 51))],some (36,true)⟩,
 ⟨some 53,.look 2 false [.slice none 0 0] false (.t 43) (.t 52),some (36,true)⟩,
 ⟨some 54,.faddr 1 (.t 7),some (36,true)⟩,
 ⟨some 55,.load none (.t 54),some (36,true)⟩,
 ⟨some 56,.mv (.t 1),some (36,true)⟩,
 ⟨some 57,.mv (.t 6),some (36,true)⟩,
 ⟨some 58,.bin .sub (.t 57) (.c (.int .i64 1)),some (36,true)⟩,
 ⟨some 59,.iaddr 2 (.t 56) (.t 58),some (36,true)⟩,
 ⟨some 60,.faddr 1 (.t 59),some (36,true)⟩,
 ⟨some 61,.load none (.t 60),some (36,true)⟩,
 ⟨some 62,.bin .sub (.t 55) (.t 61),some (36,true)⟩,
 ⟨some 63,.call (.f 122) [(.t 53),(.t 62)],some (36,true)⟩,
 ⟨some 64,.un .not (.t 63),some (36,true)⟩,
 ⟨some 65,.pick (.t 36) (.t 64) (.c (.bool false)),none⟩] [
 ] [1,2,19,20,21,65])
 (.cond (.t 65) (.seq (.ops [
 ⟨some 4,.mv (.c (.int .i64 41)),none⟩] [4])
 .ret)
 .skip)))))
 (.ops [
 ⟨some 66,.bin .add (.t 21) (.c (.int .i64 1)),none⟩,
 ⟨some 21,.mv (.t 66),none⟩] [1,2,19,20,21])))))))
 (.seq (.ops [
 ⟨some 4,.mv (.c (.int .i64 0)),none⟩] [4])
 .ret))))),
 [.t 4]⟩
theorem k123:chkF Tryz.prog Tryz.f123 c123=true:=by kernel_rfl
theorem k121:chkF Tryz.prog Tryz.f121 c121=true:=by kernel_rfl
theorem k61:chkF Tryz.prog Tryz.f61 c61=true:=by kernel_rfl
theorem Pure.arg {P:Program} {f:Nat} {args args':List AV} {r:AV} (h:Pure P f args r) (hl:args'.length=args.length)
    (hw:∀ i,i < args.length→∀ w X β σ x,RV w X β σ (args'.getD i .any) x→RV w X β σ (args.getD i .any) x):Pure P f args' r :=
  ⟨h.ent,fun X w xs hX hxl hr=>h.go X w xs hX (by omega) fun i hi=>hw i hi _ _ _ _ _ (hr i (by omega))⟩
structure Ent where
  k:List Int
  l:List Sp
  g:Nat
abbrev entA (T:List Ent):List (List Int × AV):=T.map fun t=>(t.k,AV.own t.g 0 t.l.length)
def addE:List Ent→List Int→Sp→Nat→List Ent
  | [],k,s,g=>[⟨k,[s],g⟩]
  | t::r,k,s,g=>if t.k=k then ⟨t.k,t.l++[s],t.g⟩::r else t::addE r k s g
def addK:List (List Int × List Sp)→List Int→Sp→List (List Int × List Sp)
  | [],k,s=>[(k,[s])]
  | t::r,k,s=>if t.1=k then (t.1,t.2++[s])::r else t::addK r k s
abbrev hkey (h:Hop):List Int:=[(h.fr:Int),(h.to:Int)]
def hopK (hs:List Hop):List (List Int × List Sp):=hs.foldl (fun a h=>addK a (hkey h) h.ch) []
abbrev strE (T:List Ent):List (List Int × List Sp):=T.map fun t=>(t.k,t.l)
theorem strE_add:∀ (T:List Ent) (k:List Int) (s:Sp) (g:Nat),strE (addE T k s g)=addK (strE T) k s
  | [],_,_,_=>rfl
  | t::r,k,s,g=>by
    unfold addE
    simp only [strE,List.map_cons,addK]
    split
    · rfl
    · simp only [List.map_cons]; rw [← strE_add r k s g]
theorem hopK_next {hs:List Hop} {i:Nat} {h:Hop} (e:hs[i]?=some h):hopK (hs.take (i+1))=addK (hopK (hs.take i)) (hkey h) h.ch:=by
  rw [take_snoc e]; simp [hopK]
theorem addK_len {N:Nat} {k:List Int} {s:Sp}:∀ {E:List (List Int × List Sp)},(∀ e∈E,e.2.length≤N)→∀ e∈addK E k s,e.2.length≤N+1
  | [],_,e,he=>by simp only [addK,List.mem_singleton] at he; subst he; simp
  | t::r,h,e,he=>by
    unfold addK at he
    split at he
    · rcases List.mem_cons.1 he with rfl | he
      · have:=h t (by simp); simp; omega
      · have:=h e (by simp [he]); omega
    · rcases List.mem_cons.1 he with rfl | he
      · have:=h e (by simp); omega
      · exact addK_len (fun x hx=>h x (by simp [hx])) e he
theorem hopK_len {hs:List Hop} (i:Nat) (hi:i≤hs.length):∀ e∈hopK (hs.take i),e.2.length≤i:=by
  induction i with
  | zero=>simp [hopK]
  | succ i ih =>
    rw [hopK_next (List.getElem?_eq_getElem (by omega))]
    exact addK_len (ih (by omega))
theorem hops_len {m:Nat}:∀ {l:List Nod} {i:Nat},(∀ x∈l,nodOk m x)→(hopsF i l).length≤64 * l.length
  | [],_,_=>by simp [hopsF]
  | x::r,i,h=>by
    have h1:=(h x (by simp)).2.1
    have h2:=hops_len (i:=i+1) (fun y hy=>h y (by simp [hy]):∀ y∈r,nodOk m y)
    simp only [hopsF,List.length_append,hopsOf,List.length_map,List.length_cons]; omega
structure HopS (σ:Sto) (T:List Ent):Prop where
  a:σ.at 0 0=some ⟨0,0,[],some (.mp 2 (entA T))⟩
  o:∀ t∈T,σ.at t.g 0=some (spO t.l)
  inj:T.Pairwise fun a b=>a.g≠b.g
theorem ent_none {T:List Ent} {k:List Int} {s:Sp} {g:Nat} (h:∀ t∈T,t.k≠k):mget (entA T) k=none∧mset (entA T) k (.own g 0 1)=entA (addE T k s g)∧addE T k s g=T++[⟨k,[s],g⟩]:=by
  induction T with
  | nil=>exact ⟨rfl,rfl,rfl⟩
  | cons t r ih =>
    obtain ⟨h1,h2,h3⟩:=ih fun t ht=>h t (by simp [ht])
    have hk:¬ t.k=k:=h t (by simp)
    simp only [entA,List.map_cons,mget,hk,if_false,mset,addE,List.cons_append,h3] at h1 h2 ⊢
    exact ⟨h1,by rw [h2],trivial⟩
theorem ent_some {T:List Ent} {k:List Int} {s:Sp} {g:Nat} (h:¬ ∀ t∈T,t.k≠k):∃ A t B,T=A++t::B∧t.k=k∧mget (entA T) k=some (.own t.g 0 t.l.length)∧mset (entA T) k (.own t.g 0 (t.l.length+1))=entA (addE T k s g) ∧
    addE T k s g=A++⟨t.k,t.l++[s],t.g⟩::B:=by
  induction T with
  | nil=>exact absurd (by simp) h
  | cons t r ih =>
    by_cases hk:t.k=k
    · subst hk
      exact ⟨[],t,r,rfl,rfl,by simp [mget],by simp [mset,addE],by simp [addE]⟩
    · obtain ⟨A,u,B,rfl,h1,h2,h3,h4⟩:=ih fun h'=>h fun t' ht=>by
        rcases List.mem_cons.1 ht with rfl | ht
        · exact hk
        · exact h' t' ht
      refine ⟨t::A,u,B,rfl,h1,?_,?_,?_⟩
      · simp only [entA,List.map_cons,mget,hk,if_false]; exact h2
      · simp only [entA,List.map_cons,mset,hk,if_false,addE]; rw [h3]
      · simp only [addE,hk,if_false,h4,List.cons_append]
theorem HopS.app {σ:Sto} {T:List Ent} (h:HopS σ T) (ν:Sto):HopS (σ++ν) T :=
  ⟨by rw [at_appL (at_lt h.a)]; exact h.a,fun t ht=>by rw [at_appL (at_lt (h.o t ht))]; exact h.o t ht,h.inj⟩
theorem HopS.lt {σ:Sto} {T:List Ent} (h:HopS σ T) {t:Ent} (ht:t∈T):t.g < σ.length∧t.g≠0:=by
  refine ⟨at_lt (h.o t ht),fun e=>?_⟩
  have h1:=h.o t ht
  rw [e,h.a] at h1
  injection h1 with h1
  have:=congrArg Ob.T h1
  cases this
theorem HopS.new {σ:Sto} {T:List Ent} {k:List Int} {s:Sp} (h:HopS σ T) (hk:∀ t∈T,t.k≠k) :
    HopS (Sto.upd (σ++[some [spO [s]]]) 0 0 ⟨0,0,[],some (.mp 2 (entA (addE T k s σ.length)))⟩) (addE T k s σ.length):=by
  have h0:=at_lt h.a
  obtain ⟨_,_,h3⟩:=ent_none (s:=s) (g:=σ.length) hk
  refine ⟨at_upd_same (h.app _).a,fun t ht=>?_,?_⟩
  · rw [h3,List.mem_append,List.mem_singleton] at ht
    rcases ht with ht | rfl
    · rw [at_upd_other (.inl (h.lt ht).2.symm),at_appL (h.lt ht).1]; exact h.o t ht
    · rw [at_upd_other (.inl (by simp only; omega))]; simp only; rw [at_app0]; simp [Sto.at]
  · rw [h3,List.pairwise_append]
    refine ⟨h.inj,by simp,fun a ha b hb=>?_⟩
    rw [List.mem_singleton] at hb; subst hb
    have:=(h.lt ha).1
    simp only; omega
theorem HopS.old {σ:Sto} {A B:List Ent} {t:Ent} {s:Sp} {M:List (List Int × AV)} (h:HopS σ (A++t::B)) (hM:M=entA (A++⟨t.k,t.l++[s],t.g⟩::B)) :
    HopS (Sto.upd (σ.upd t.g 0 (spO (t.l++[s]))) 0 0 ⟨0,0,[],some (.mp 2 M)⟩) (A++⟨t.k,t.l++[s],t.g⟩::B):=by
  subst hM
  have ht:=h.lt (t:=t) (by simp)
  have hp:=h.inj
  rw [List.pairwise_append,List.pairwise_cons] at hp
  obtain ⟨p1,⟨p2,p3⟩,p4⟩:=hp
  have key:∀ u,(u∈A∨u∈B)→Sto.at (Sto.upd (σ.upd t.g 0 (spO (t.l++[s]))) 0 0 ⟨0,0,[],some (.mp 2 (entA (A++⟨t.k,t.l++[s],t.g⟩::B)))⟩) u.g 0=some (spO u.l):=by
    intro u hu
    have hm:u∈A++t::B:=by rcases hu with hu | hu <;> simp [hu]
    have hne:t.g≠u.g:=by
      rcases hu with hu | hu
      · exact (p4 u hu t (by simp)).symm
      · exact p2 u hu
    rw [at_upd_other (.inl (h.lt hm).2.symm),at_upd_other (.inl hne)]
    exact h.o u hm
  refine ⟨at_upd_same (o:=⟨0,0,[],some (.mp 2 (entA (A++t::B)))⟩) (by rw [at_upd_other (.inl ht.2)]; exact h.a),fun u hu=>?_,?_⟩
  · rw [List.mem_append,List.mem_cons] at hu
    rcases hu with hu | rfl | hu
    · exact key u (.inl hu)
    · simp only
      rw [at_upd_other (.inl ht.2.symm)]
      exact at_upd_same (h.o t (by simp))
    · exact key u (.inr hu)
  · rw [List.pairwise_append,List.pairwise_cons]
    refine ⟨p1,⟨p2,p3⟩,fun a ha b hb=>?_⟩
    rcases List.mem_cons.1 hb with rfl | hb
    · exact p4 a ha t (by simp)
    · exact p4 a ha b (by simp [hb])
abbrev mapS (E:List (List Int × List Sp)):AV:=.imap 2 (E.map fun e=>(e.1,spS e.2))
theorem hops_spec (m:Nat) (l:List Nod) (hl:stgOk m l):Pure Tryz.prog 123 [stS l] (mapS (hopK (hops l))):=by
  refine Pure.of_body Tryz.call123 Tryz.func123 k123 (Nat.le_of_ble_eq_true rfl) ?_
  unfold c123
  obtain ⟨v1,v2,v3⟩:=hl
  (repeat' ((first
 | refine vn rfl ?_
 | simp (disch:=omega) only [wr64,Int.zero_sub]
 | refine bo (fun _=>?_) fun _=>?_
 | refine im fun _=>?_
 | refine cF ?_
 | refine om ?_
 | refine an ?_
 | fail) <;> try simp only [zT,zV,zS,zU,vcC,lateX,ex,strp,binA,elems,cells,scalar,eqC,keyA,intsA,lookA,ofVs,mpOf,Nat.reduceBEq,reduceAdd,reduceSub,reduceLT,reduceLeDiff,reduceMul,reduceEqDiff,reduceIte]))
  have h00:HopS [some [⟨0,0,[],some (.mp 2 [])⟩]] []:=⟨rfl,by simp,List.Pairwise.nil⟩
  refine AWPC.loopE (α:={ x:Nat × Nat × List Ent × Sto // x.1≤l.length∧(hops l).drop x.2.1=hopsF x.1 (l.drop x.1)∧x.2.1≤(hops l).length∧HopS x.2.2.2 x.2.2.1∧strE x.2.2.1=hopK ((hops l).take x.2.1) }) [11] (fun x=>[(11,n x.1.1)]) (fun x=>x.1.2.2.2) (fun x=>l.length - x.1.1)
    ⟨(0,0,[],_),by simp,by simp,by simp,h00,rfl⟩ ?_ ?_ ?_
  · (simp only [zT,zV,zS,zU,vcC,lateX,ex,strp,binA,elems,cells,scalar,eqC,keyA,intsA,lookA,ofVs,mpOf,Nat.reduceBEq,reduceAdd,reduceSub,reduceLT,reduceLeDiff,reduceMul,reduceEqDiff,reduceIte]; try simp)
  · rfl
  rintro ⟨⟨i,m',T,τ⟩,hi,hd,hm,hS,hT⟩
  simp only at hi hd hm hS hT
  by_cases hlt:i < l.length
  · obtain ⟨x,hx⟩:∃ x,l[i]?=some x:=⟨_,List.getElem?_eq_getElem hlt⟩
    obtain ⟨w1,w2,w3⟩:=v3 x (List.mem_of_getElem? hx)
    have hdi:(hops l).drop m'=hopsOf i x++hopsF (i+1) (l.drop (i+1)):=by rw [hd,drop_cons hx]; rfl
    (repeat' ((first
 | refine vn rfl ?_
 | simp (disch:=omega) only [wr64,Int.zero_sub]
 | refine bo (fun _=>?_) fun _=>?_
 | refine im fun _=>?_
 | refine cF ?_
 | refine om ?_
 | refine an ?_
 | fail) <;> try simp only [zT,zV,zS,zU,vcC,lateX,ex,strp,binA,elems,cells,scalar,eqC,keyA,intsA,lookA,ofVs,mpOf,Nat.reduceBEq,reduceAdd,reduceSub,reduceLT,reduceLeDiff,reduceMul,reduceEqDiff,reduceIte,getD_map hx]))
    all_goals try (exfalso; omega)
    refine AWPC.loopE (α:={ x':Nat × Nat × List Ent × Sto // x'.1≤x.nx.length∧(hops l).drop x'.2.1=(hopsOf i x).drop x'.1++hopsF (i+1) (l.drop (i+1))∧x'.2.1≤(hops l).length∧HopS x'.2.2.2 x'.2.2.1∧strE x'.2.2.1=hopK ((hops l).take x'.2.1) }) [19]
      (fun x=>[(19,n x.1.1)]) (fun x=>x.1.2.2.2) (fun x'=>x.nx.length - x'.1.1) ⟨(0,m',T,τ++[some [⟨80,2,[Nod.cs x],none⟩]]),by simp,by simpa using hdi,hm,hS.app _,hT⟩ ?_ ?_ ?_
    · (simp only [zT,zV,zS,zU,vcC,lateX,ex,strp,binA,elems,cells,scalar,eqC,keyA,intsA,lookA,ofVs,mpOf,Nat.reduceBEq,reduceAdd,reduceSub,reduceLT,reduceLeDiff,reduceMul,reduceEqDiff,reduceIte]; try simp)
    · rfl
    rintro ⟨⟨j,m',T,τ⟩,hj,hd,hm,hS,hT⟩
    simp only at hj hd hm hS hT
    have aM:∀ ν,Sto.at (τ++ν) 0 0=some ⟨0,0,[],some (.mp 2 (entA T))⟩:=fun ν=>by rw [at_appL (at_lt hS.a)]; exact hS.a
    by_cases hlt2:j < x.nx.length
    · obtain ⟨e,he⟩:∃ e,x.nx[j]?=some e:=⟨_,List.getElem?_eq_getElem hlt2⟩
      obtain ⟨u1,u2,u3⟩:=w3 e (List.mem_of_getElem? he)
      have hho:(hopsOf i x)[j]?=some ⟨i,e.to.toNat,e.ch⟩:=by simp [hopsOf,he]
      rw [drop_cons hho,List.cons_append] at hd
      obtain ⟨hxm,hd'⟩:=drop_next hd
      have hm1:=(List.getElem?_eq_some_iff.1 hxm).1
      have hnx:=hopK_next hxm
      have ht0:((e.to.toNat:Nat):Int)=e.to:=by omega
      simp only [hkey,ht0] at hnx
      by_cases hk:∀ t∈T,t.k≠[(i:Int),e.to]
      · obtain ⟨g1,g2,g3⟩:=ent_none (s:=e.ch) (g:=List.length τ+1) hk
        have hN:=(hS.app [some [⟨124,3,[Edg.cs e],none⟩]]).new (s:=e.ch) hk
        rw [List.length_append,List.length_singleton,List.append_assoc] at hN
        have hT':=strE_add T [(i:Int),e.to] e.ch (List.length τ+1)
        (repeat' ((first
 | refine vn rfl ?_
 | simp (disch:=omega) only [wr64,Int.zero_sub]
 | refine bo (fun _=>?_) fun _=>?_
 | refine im fun _=>?_
 | refine cF ?_
 | refine om ?_
 | refine an ?_
 | fail) <;> try simp only [zT, zV, zS, zU, vcC, lateX, ex, strp, binA, elems, cells, scalar, eqC, keyA, intsA, lookA, ofVs, mpOf, Nat.reduceBEq, reduceAdd, reduceSub, reduceLT, reduceLeDiff, reduceMul, reduceEqDiff, reduceIte, getD_map he, aM, g1, g2]))
        all_goals try (exfalso; omega)
        exact ⟨⟨(j+1,m'+1,_,_),hlt2,hd',hm1,hN,by simp only; rw [hT',hT,hnx]⟩,by simp,rfl,by simp only; omega⟩
      · obtain ⟨A,t,B,rfl,ek,g1,g2,g3⟩:=ent_some (s:=e.ch) (g:=0) hk
        have htm:t∈A++t::B:=by simp
        obtain ⟨tl,t0⟩:=hS.lt htm
        have hN:=(hS.app [some [⟨124,3,[Edg.cs e],none⟩]]).old (s:=e.ch) (M:=entA (addE (A++t::B) [(i:Int),e.to] e.ch 0)) (by rw [g3])
        have hT':=strE_add (A++t::B) [(i:Int),e.to] e.ch 0
        rw [show spO (t.l++[e.ch])=⟨30,2,t.l.map Sp.cs++[Sp.cs e.ch],none⟩ from by simp [spO]] at hN
        have aG:∀ ν,Sto.at (τ++ν) t.g 0=some (spO t.l):=fun ν=>by rw [at_appL tl]; exact hS.o t htm
        have aU:∀ ν o,Sto.at (Sto.upd (τ++ν) t.g 0 o) 0 0=some ⟨0,0,[],some (.mp 2 (entA (A++t::B)))⟩:=fun ν o=>by rw [at_upd_other (.inl t0)]; exact aM ν
        have aV:∀ x ν o,Sto.at (Sto.upd (τ++some [x]::ν) t.g 0 o) (List.length τ) 0=some x:=fun x ν o=>by rw [at_upd_other (.inl (by omega)),at_app0]; rfl
        have hsz:t.l.length≤m':=hopK_len m' hm (t.k,t.l) (by rw [← hT]; exact List.mem_map.2 ⟨t,htm,rfl⟩)
        have hsz2:t.l.length+1≤1000000:=by
          have hhl:(hops l).length≤64 * l.length:=hops_len v3
          omega
        (repeat' ((first
 | refine vn rfl ?_
 | simp (disch:=omega) only [wr64,Int.zero_sub]
 | refine bo (fun _=>?_) fun _=>?_
 | refine im fun _=>?_
 | refine cF ?_
 | refine om ?_
 | refine an ?_
 | fail) <;> try simp only [zT, zV, zS, zU, vcC, lateX, ex, strp, binA, elems, cells, scalar, eqC, keyA, intsA, lookA, ofVs, mpOf, Nat.reduceBEq, reduceAdd, reduceSub, reduceLT, reduceLeDiff, reduceMul, reduceEqDiff, reduceIte, getD_map he, aM, aG, aU, aV, g1, g2]))
        all_goals try (exfalso; omega)
        exact ⟨⟨(j+1,m'+1,A++⟨t.k,t.l++[e.ch],t.g⟩::B,_),hlt2,hd',hm1,hN,by simp only; rw [← g3,hT',hT,hnx]⟩,by simp,rfl,by simp only; omega⟩
    · obtain rfl:j=x.nx.length:=by omega
      have hdn:(hopsOf i x).drop x.nx.length=[]:=List.drop_eq_nil_of_le (by simp [hopsOf])
      rw [hdn,List.nil_append] at hd
      (repeat' ((first
 | refine vn rfl ?_
 | simp (disch:=omega) only [wr64,Int.zero_sub]
 | refine bo (fun _=>?_) fun _=>?_
 | refine im fun _=>?_
 | refine cF ?_
 | refine om ?_
 | refine an ?_
 | fail) <;> try simp only [zT,zV,zS,zU,vcC,lateX,ex,strp,binA,elems,cells,scalar,eqC,keyA,intsA,lookA,ofVs,mpOf,Nat.reduceBEq,reduceAdd,reduceSub,reduceLT,reduceLeDiff,reduceMul,reduceEqDiff,reduceIte]))
      all_goals try (exfalso; omega)
      exact ⟨⟨(i+1,m',T,τ),hlt,hd,hm,hS,hT⟩,by simp,rfl,by simp only; omega⟩
  · obtain rfl:i=l.length:=by omega
    rw [List.drop_length] at hd
    have:m'=(hops l).length:=by have:=List.drop_eq_nil_iff.1 hd; omega
    subst this
    rw [List.take_length] at hT
    (repeat' ((first
 | refine vn rfl ?_
 | simp (disch:=omega) only [wr64,Int.zero_sub]
 | refine bo (fun _=>?_) fun _=>?_
 | refine im fun _=>?_
 | refine cF ?_
 | refine om ?_
 | refine an ?_
 | fail) <;> try simp only [zT,zV,zS,zU,vcC,lateX,ex,strp,binA,elems,cells,scalar,eqC,keyA,intsA,lookA,ofVs,mpOf,Nat.reduceBEq,reduceAdd,reduceSub,reduceLT,reduceLeDiff,reduceMul,reduceEqDiff,reduceIte]))
    all_goals try (exfalso; omega)
    have hlen:(hopK (hops l)).length=T.length:=by rw [← hT]; simp
    refine Frz.mp (n:=2) (m:=entA T) hS.a (by simp [mpOf]) (by simp [hlen]) (fun q hq=>?_) fun q hq=>?_
    · simp only [List.length_map] at hq
      rw [← hT,List.map_map,getD_map' (List.getElem?_eq_getElem hq),getD_map' (List.getElem?_eq_getElem hq)]
      rfl
    · simp only [List.length_map] at hq
      rw [← hT,List.map_map,getD_map' (List.getElem?_eq_getElem hq),getD_map' (List.getElem?_eq_getElem hq)]
      exact frz_sp (hS.o _ (List.getElem_mem hq))
def chs (hs:List Hop) (k:List Int):List Sp:=(hs.filter fun h=>decide (hkey h=k)).map (·.ch)
theorem addK_get {E:List (List Int × List Sp)} {k k':List Int} {s:Sp} :
    ((addK E k s).find? fun e=>decide (e.1=k')).map (·.2)=if k=k' then some ((((E.find? fun e=>decide (e.1=k')).map (·.2)).getD [])++[s]) else (E.find? fun e=>decide (e.1=k')).map (·.2):=by
  induction E with
  | nil =>
    by_cases h:k=k' <;> simp [addK,h]
  | cons e r ih =>
    unfold addK
    by_cases h1:e.1=k
    · subst h1
      by_cases h2:e.1=k' <;> simp [h2]
    · simp only [h1,if_false,List.find?_cons]
      by_cases h2:e.1=k'
      · have h3:¬ k=k':=fun h=>h1 (h2.trans h.symm)
        simp [h2,h3]
      · simp only [h2,decide_false,ih]
theorem hopK_get (hs:List Hop) (k:List Int):((hopK hs).find? fun e=>decide (e.1=k)).map (·.2)=if chs hs k=[] then none else some (chs hs k):=by
  have key:∀ i,i≤hs.length→((hopK (hs.take i)).find? fun e=>decide (e.1=k)).map (·.2)=if chs (hs.take i) k=[] then none else some (chs (hs.take i) k):=by
    intro i
    induction i with
    | zero=>intro _; rfl
    | succ i ih =>
      intro hi
      have e:=List.getElem?_eq_getElem (l:=hs) (i:=i) (by omega)
      have hc:chs (hs.take (i+1)) k=if hkey hs[i]=k then chs (hs.take i) k++[hs[i].ch] else chs (hs.take i) k:=by
        rw [take_snoc e]
        unfold chs
        rw [List.filter_append]
        by_cases h:hkey hs[i]=k <;> simp [h]
      rw [hopK_next e,addK_get,ih (by omega),hc]
      by_cases h:hkey hs[i]=k
      · simp only [h,if_true]
        by_cases h2:chs (hs.take i) k=[] <;> simp [h2]
      · simp only [h,if_false]
  have:=key hs.length (Nat.le_refl _)
  rwa [List.take_length] at this
theorem mapS_get (hs:List Hop) (k:List Int):mget ((hopK hs).map fun e=>(e.1,spS e.2)) k=if chs hs k=[] then none else some (spS (chs hs k)):=by
  rw [mget_map (fun e:List Int × List Sp=>e.1) (fun e=>spS e.2)]
  have h:=hopK_get hs k
  generalize (hopK hs).find? (fun e=>decide (e.1=k))=q at *
  cases q with
  | none =>
    by_cases h2:chs hs k=[]
    · simp [h2]
    · rw [if_neg h2] at h; cases h
  | some e =>
    by_cases h2:chs hs k=[]
    · rw [if_pos h2] at h; cases h
    · rw [if_neg h2] at h ⊢
      simp only [Option.map_some,Option.some.injEq] at h ⊢
      rw [h]
theorem isPlace_spec (l:List Nod) (a:At) (hl:stgSz l):Pure Tryz.prog 121 [stS l,.agg (At.cs a)] (bl (tr (0≤a.node∧a.node < (l.length:Int)∧Mem a.val ((l.map (·.al)).getD a.node.toNat [])))):=by
  refine Pure.of_body Tryz.call121 Tryz.func121 k121 (Nat.le_of_ble_eq_true rfl) ?_
  unfold c121
  by_cases h:0≤a.node∧a.node < (l.length:Int)
  · obtain ⟨x,hx⟩:∃ x,l[a.node.toNat]?=some x:=⟨_,List.getElem?_eq_getElem (by omega)⟩
    have hs:=hl.2 x (List.mem_of_getElem? hx)
    rw [getD_map' hx]
    obtain ⟨h1,h2⟩:=h
    (repeat' ((first
 | refine vn rfl ?_
 | simp (disch:=omega) only [wr64,Int.zero_sub]
 | refine bo (fun _=>?_) fun _=>?_
 | refine im fun _=>?_
 | ((repeat refine si ?_); (first | ((first | refine .inl ⟨_,_,_,_,rfl,fun _=>pu (has_spec x.al a.val hs.1),?_⟩ | refine ⟨_,_,_,_,rfl,fun _=>pu (has_spec x.al a.val hs.1),?_⟩); (first | refine o1 ?_ | refine o2 ?_ | refine o3 ?_ | refine o4 ?_)) | refine .inl ⟨_,_,_,_,rfl,pu (has_spec x.al a.val hs.1),?_⟩))
 | refine cF ?_
 | refine om ?_
 | refine an ?_
 | fail) <;> try simp only [zT,zV,zS,zU,vcC,lateX,ex,strp,binA,elems,cells,scalar,eqC,keyA,intsA,lookA,ofVs,mpOf,Nat.reduceBEq,reduceAdd,reduceSub,reduceLT,reduceLeDiff,reduceMul,reduceEqDiff,reduceIte,getD_map hx]))
    all_goals try (exfalso; omega)
    refine Frz.eq (congrArg bl ?_) (by simp)
    simp [h1,h2]
  · have fin:∀ q:Prop,tr (0≤a.node∧a.node < (l.length:Int)∧q)=false:=fun q=>tr_0 fun h'=>h ⟨h'.1,h'.2.1⟩
    rw [fin]
    cases hq:l[a.node.toNat]? with
    | none =>
      have h0:(l.map Nod.cs).getD a.node.toNat []=[]:=by simp [List.getD_eq_getElem?_getD,hq]
      (repeat' ((first
 | refine vn rfl ?_
 | simp (disch:=omega) only [wr64,Int.zero_sub]
 | refine bo (fun _=>?_) fun _=>?_
 | refine im fun _=>?_
 | refine cF ?_
 | refine cG ?_
 | refine om ?_
 | refine an ?_
 | fail) <;> try simp only [zT,zV,zS,zU,vcC,lateX,ex,strp,binA,elems,cells,scalar,eqC,keyA,intsA,lookA,ofVs,mpOf,Nat.reduceBEq,reduceAdd,reduceSub,reduceLT,reduceLeDiff,reduceMul,reduceEqDiff,reduceIte,h0,h]))
      all_goals exact Frz.eq rfl (by simp)
    | some x =>
      (repeat' ((first
 | refine vn rfl ?_
 | simp (disch:=omega) only [wr64,Int.zero_sub]
 | refine bo (fun _=>?_) fun _=>?_
 | refine im fun _=>?_
 | ((repeat refine si ?_); (first | ((first | refine .inl ⟨_,_,_,_,rfl,fun _=>pu (has_spec x.al a.val (hl.2 x (List.mem_of_getElem? hq)).1),?_⟩ | refine ⟨_,_,_,_,rfl,fun _=>pu (has_spec x.al a.val (hl.2 x (List.mem_of_getElem? hq)).1),?_⟩); (first | refine o1 ?_ | refine o2 ?_ | refine o3 ?_ | refine o4 ?_)) | refine .inl ⟨_,_,_,_,rfl,pu (has_spec x.al a.val (hl.2 x (List.mem_of_getElem? hq)).1),?_⟩))
 | refine cF ?_
 | refine om ?_
 | refine an ?_
 | fail) <;> try simp only [zT,zV,zS,zU,vcC,lateX,ex,strp,binA,elems,cells,scalar,eqC,keyA,intsA,lookA,ofVs,mpOf,Nat.reduceBEq,reduceAdd,reduceSub,reduceLT,reduceLeDiff,reduceMul,reduceEqDiff,reduceIte,getD_map hq]))
      refine Frz.eq (congrArg bl ?_) (by simp)
      simp only [decide_eq_false_iff_not]
      exact fun h'=>h h'.1
theorem has_nil (v:Int):Pure Tryz.prog 122 [.v (.slice none 0 0),n v] (bl (tr (Mem v []))) :=
  Pure.arg (has_spec [] v (by decide)) rfl fun i hi w X β σ x hx=>by
    match i,hi with
    | 0,_=>cases hx; exact .slnil _
    | 1,_=>exact hx
theorem way_snoc {t:Trk} {c:List At} {k:Nat} {a:At} (ha:c[k]?=some a):way t 0 (c.take (k+1))↔way t 0 (c.take k)∧placeOk t k a∧(∀ p,0 < k→c[k - 1]?=some p→stepOk t (k - 1) p a):=by
  have hk:=(List.getElem?_eq_some_iff.1 ha).1
  have hlen:(c.take k).length=k:=by rw [List.length_take]; omega
  rw [take_snoc ha,way_append,hlen]
  refine and_congr_right fun _=>?_
  simp only [way,Nat.zero_add,List.getElem?_cons_zero,Option.some.injEq]
  refine and_congr_right fun _=>?_
  constructor
  · intro h p h0 hp
    refine h p a ?_ rfl
    rw [List.getLast?_eq_getElem?,hlen,List.getElem?_take,if_pos (by omega)]; exact hp
  · rintro h p b hp rfl
    rw [List.getLast?_eq_getElem?,hlen] at hp
    by_cases h0:0 < k
    · rw [List.getElem?_take,if_pos (by omega)] at hp
      exact h p h0 hp
    · obtain rfl:k=0:=by omega
      simp at hp
theorem way_take {t:Trk} {c:List At} (h:way t 0 c) (k:Nat):way t 0 (c.take k):=by
  rw [← List.take_append_drop k c,way_append] at h
  exact h.1
theorem stepOk_chs {t:Trk} {k:Nat} {p a:At} (hp:0≤p.node) (ha:0≤a.node):stepOk t k p a↔Mem (a.val - p.val) (chs (stp t k) [p.node,a.node]):=by
  unfold stepOk chs Mem
  constructor
  · rintro ⟨h,hm,e1,e2,h1,h2⟩
    refine ⟨h.ch,List.mem_map.2 ⟨h,List.mem_filter.2 ⟨hm,?_⟩,rfl⟩,h1,h2⟩
    simp only [hkey,List.cons.injEq,and_true,decide_eq_true_eq]; omega
  · rintro ⟨s,hs,h1,h2⟩
    obtain ⟨h,hm,rfl⟩:=List.mem_map.1 hs
    obtain ⟨hm,e⟩:=List.mem_filter.1 hm
    simp only [hkey,List.cons.injEq,and_true,decide_eq_true_eq] at e
    exact ⟨h,hm,by omega,by omega,h1,h2⟩
theorem mem_val {t:Trk} (hv:valid t) {k:Nat} {a:At} (h:placeOk t k a):-100000≤a.val∧a.val≤100000:=mem_of_in (goods_get (als_goods hv k) _).2 h.2.2
theorem Keeps_spec (t:Trk) (c:List At) (hs:trkSz t) (hc:c.length < 9223372036854775808):Pure Tryz.prog 61 [trS t,atS c] (n (if tr (valid t) then (if tr (course t c) then 0 else 41) else 40)):=by
  refine Pure.of_body Tryz.call61 Tryz.func61 k61 (Nat.le_of_ble_eq_true rfl) ?_
  unfold c61
  by_cases hv:valid t
  · rw [tr_1 hv,if_pos rfl]
    have hck:=Check_spec t hs
    rw [tr_1 hv,if_pos rfl] at hck
    by_cases hl:c.length=t.length
    · have hln:=hs.1
      (repeat' ((first
 | refine vn rfl ?_
 | simp (disch:=omega) only [wr64,Int.zero_sub]
 | refine bo (fun _=>?_) fun _=>?_
 | refine im fun _=>?_
 | ((repeat refine si ?_); (first | ((first | refine .inl ⟨_,_,_,_,rfl,fun _=>pu hck,?_⟩ | refine ⟨_,_,_,_,rfl,fun _=>pu hck,?_⟩); (first | refine o1 ?_ | refine o2 ?_ | refine o3 ?_ | refine o4 ?_)) | refine .inl ⟨_,_,_,_,rfl,pu hck,?_⟩))
 | refine cF ?_
 | refine om ?_
 | refine an ?_
 | fail) <;> try simp only [zT,zV,zS,zU,vcC,lateX,ex,strp,binA,elems,cells,scalar,eqC,keyA,intsA,lookA,ofVs,mpOf,Nat.reduceBEq,reduceAdd,reduceSub,reduceLT,reduceLeDiff,reduceMul,reduceEqDiff,reduceIte]))
      all_goals try (exfalso; omega)
      refine AWPC.loopE (α:={ x:Nat × Sto // x.1≤c.length∧way t 0 (c.take x.1) }) [21] (fun x=>[(21,n x.1.1)]) (fun x=>x.1.2) (fun x=>c.length - x.1.1) ⟨(0,[]),by simp,trivial⟩ ?_ ?_ ?_
      · (simp only [zT,zV,zS,zU,vcC,lateX,ex,strp,binA,elems,cells,scalar,eqC,keyA,intsA,lookA,ofVs,mpOf,Nat.reduceBEq,reduceAdd,reduceSub,reduceLT,reduceLeDiff,reduceMul,reduceEqDiff,reduceIte]; try simp)
      · rfl
      rintro ⟨⟨k,τ⟩,hk,hw⟩
      simp only at hk hw
      simp only
      by_cases hlt:k < c.length
      · obtain ⟨a,ha⟩:∃ a,c[k]?=some a:=⟨_,List.getElem?_eq_getElem hlt⟩
        obtain ⟨L,hL⟩:∃ L,t[k]?=some L:=⟨_,List.getElem?_eq_getElem (by omega)⟩
        have hp:=isPlace_spec L a (hs.2 L (List.mem_of_getElem? hL))
        have hL':t.getD k []=L:=by rw [List.getD_eq_getElem?_getD,hL]; rfl
        have hpl:(0≤a.node∧a.node < (L.length:Int)∧Mem a.val ((L.map (·.al)).getD a.node.toNat []))↔placeOk t k a:=by unfold placeOk wd als; rw [hL']
        have hsn:=way_snoc (t:=t) ha
        have hno:¬ way t 0 (c.take (k+1))→¬ course t c:=fun h h'=>h (way_take h'.2 _)
        by_cases hpa:placeOk t k a
        · rw [tr_1 (hpl.2 hpa)] at hp
          obtain ⟨b1,b2⟩:=mem_val hv hpa
          by_cases h0:k=0
          · subst h0
            have hm1:(-1:Int).toNat=0:=rfl
            (repeat' ((first
 | refine vn rfl ?_
 | simp (disch:=omega) only [wr64,Int.zero_sub]
 | refine bo (fun _=>?_) fun _=>?_
 | refine im fun _=>?_
 | ((repeat refine si ?_); (first | ((first | refine .inl ⟨_,_,_,_,rfl,fun _=>pu hp,?_⟩ | refine ⟨_,_,_,_,rfl,fun _=>pu hp,?_⟩); (first | refine o1 ?_ | refine o2 ?_ | refine o3 ?_ | refine o4 ?_)) | refine .inl ⟨_,_,_,_,rfl,pu hp,?_⟩))
 | refine cF ?_
 | refine cG ?_
 | refine om ?_
 | refine an ?_
 | fail) <;> try simp only [zT, zV, zS, zU, vcC, lateX, ex, strp, binA, elems, cells, scalar, eqC, keyA, intsA, lookA, ofVs, mpOf, Nat.reduceBEq, reduceAdd, reduceSub, reduceLT, reduceLeDiff, reduceMul, reduceEqDiff, reduceIte, getD_map ha, getD_map hL, hm1]))
            all_goals try (exfalso; omega)
            exact ⟨⟨(1,_),hlt,hsn.2 ⟨hw,hpa,fun p h=>absurd h (by omega)⟩⟩,by simp,rfl,by simp only; omega⟩
          · obtain ⟨p,hpp⟩:∃ p,c[k - 1]?=some p:=⟨_,List.getElem?_eq_getElem (by omega)⟩
            obtain ⟨L',hL2⟩:∃ L,t[k - 1]?=some L:=⟨_,List.getElem?_eq_getElem (by omega)⟩
            have hL3:t.getD (k - 1) []=L':=by rw [List.getD_eq_getElem?_getD,hL2]; rfl
            have hpp2:placeOk t (k - 1) p:=by
              have h1:=way_take hw k
              have h2:=way_snoc (t:=t) hpp
              rw [show k - 1+1=k by omega] at h2
              exact (h2.1 hw).2.1
            obtain ⟨b3,b4⟩:=mem_val hv hpp2
            have hh:=hops_spec (wd t (k - 1+1)) L' (hL3 ▸ valid_stg hv (by omega))
            have hi:((k:Int) - 1).toNat=k - 1:=by omega
            have hst:=stepOk_chs (t:=t) (k:=k - 1) hpp2.1 hpa.1
            rw [show stp t (k - 1)=hops L' by unfold stp; rw [hL3]] at hst
            have hmg:=mapS_get (hops L') [p.node,a.node]
            have hcl:(chs (hops L') [p.node,a.node]).length < 9223372036854775808:=by
              have h1:=valid_stg hv (show k - 1 < t.length by omega)
              rw [hL3] at h1
              have h2:(hops L').length≤64 * L'.length:=hops_len h1.2.2
              have h3:(chs (hops L') [p.node,a.node]).length≤(hops L').length:=by unfold chs; rw [List.length_map]; exact List.length_filter_le _ _
              have:=h1.2.1
              omega
            have hsn2:way t 0 (c.take (k+1))↔stepOk t (k - 1) p a:=by
              rw [hsn]
              exact ⟨fun h=>h.2.2 p (by omega) hpp,fun h=>⟨hw,hpa,fun q _ hq=>by rw [hpp] at hq; injection hq with hq; subst hq; exact h⟩⟩
            have fin:∀ b:Bool,b=tr (Mem (a.val - p.val) (chs (hops L') [p.node,a.node]))→(b=true→way t 0 (c.take (k+1)))∧(b=false→tr (course t c)=false):=by
              rintro b rfl
              exact ⟨fun h=>hsn2.2 (hst.2 (tr_iff.1 h)),fun h=>tr_0 (hno fun h'=>tr_not.1 h (hst.1 (hsn2.1 h')))⟩
            by_cases hnil:chs (hops L') [p.node,a.node]=[]
            · rw [if_pos hnil] at hmg
              rw [hnil] at fin
              obtain ⟨f1,f2⟩:=fin _ rfl
              have hz:tr (Mem (a.val - p.val) [])=false:=tr_0 Mem.nil
              have hhn:=has_nil (a.val - p.val)
              rw [hz] at hhn f2
              rw [f2 rfl]
              (repeat' ((first
 | refine vn rfl ?_
 | simp (disch:=omega) only [wr64,Int.zero_sub]
 | refine bo (fun _=>?_) fun _=>?_
 | refine im fun _=>?_
 | ((repeat refine si ?_); (first | ((first | refine .inl ⟨_,_,_,_,rfl,fun _=>pu (by first | exact hp | exact hh | exact hhn),?_⟩ | refine ⟨_,_,_,_,rfl,fun _=>pu (by first | exact hp | exact hh | exact hhn),?_⟩); (first | refine o1 ?_ | refine o2 ?_ | refine o3 ?_ | refine o4 ?_)) | refine .inl ⟨_,_,_,_,rfl,pu (by first | exact hp | exact hh | exact hhn),?_⟩))
 | refine cF ?_
 | refine om ?_
 | refine an ?_
 | fail) <;> try simp only [zT, zV, zS, zU, vcC, lateX, ex, strp, binA, elems, cells, scalar, eqC, keyA, intsA, lookA, ofVs, mpOf, Nat.reduceBEq, reduceAdd, reduceSub, reduceLT, reduceLeDiff, reduceMul, reduceEqDiff, reduceIte, getD_map ha, getD_map hL, getD_map hpp, getD_map hL2, hi, hmg]))
              all_goals try (exfalso; omega)
              all_goals exact Frz.eq rfl (by simp)
            · rw [if_neg hnil] at hmg
              have hha:=has_spec (chs (hops L') [p.node,a.node]) (a.val - p.val) hcl
              obtain ⟨f1,f2⟩:=fin _ rfl
              generalize tr (Mem (a.val - p.val) (chs (hops L') [p.node,a.node]))=b at *
              cases b with
              | false =>
                rw [f2 rfl]
                (repeat' ((first
 | refine vn rfl ?_
 | simp (disch:=omega) only [wr64,Int.zero_sub]
 | refine bo (fun _=>?_) fun _=>?_
 | refine im fun _=>?_
 | ((repeat refine si ?_); (first | ((first | refine .inl ⟨_,_,_,_,rfl,fun _=>pu (by first | exact hp | exact hh | exact hha),?_⟩ | refine ⟨_,_,_,_,rfl,fun _=>pu (by first | exact hp | exact hh | exact hha),?_⟩); (first | refine o1 ?_ | refine o2 ?_ | refine o3 ?_ | refine o4 ?_)) | refine .inl ⟨_,_,_,_,rfl,pu (by first | exact hp | exact hh | exact hha),?_⟩))
 | refine cF ?_
 | refine om ?_
 | refine an ?_
 | fail) <;> try simp only [zT, zV, zS, zU, vcC, lateX, ex, strp, binA, elems, cells, scalar, eqC, keyA, intsA, lookA, ofVs, mpOf, Nat.reduceBEq, reduceAdd, reduceSub, reduceLT, reduceLeDiff, reduceMul, reduceEqDiff, reduceIte, getD_map ha, getD_map hL, getD_map hpp, getD_map hL2, hi, hmg]))
                all_goals try (exfalso; omega)
                all_goals exact Frz.eq rfl (by simp)
              | true =>
                (repeat' ((first
 | refine vn rfl ?_
 | simp (disch:=omega) only [wr64,Int.zero_sub]
 | refine bo (fun _=>?_) fun _=>?_
 | refine im fun _=>?_
 | ((repeat refine si ?_); (first | ((first | refine .inl ⟨_,_,_,_,rfl,fun _=>pu (by first | exact hp | exact hh | exact hha),?_⟩ | refine ⟨_,_,_,_,rfl,fun _=>pu (by first | exact hp | exact hh | exact hha),?_⟩); (first | refine o1 ?_ | refine o2 ?_ | refine o3 ?_ | refine o4 ?_)) | refine .inl ⟨_,_,_,_,rfl,pu (by first | exact hp | exact hh | exact hha),?_⟩))
 | refine cF ?_
 | refine om ?_
 | refine an ?_
 | fail) <;> try simp only [zT, zV, zS, zU, vcC, lateX, ex, strp, binA, elems, cells, scalar, eqC, keyA, intsA, lookA, ofVs, mpOf, Nat.reduceBEq, reduceAdd, reduceSub, reduceLT, reduceLeDiff, reduceMul, reduceEqDiff, reduceIte, getD_map ha, getD_map hL, getD_map hpp, getD_map hL2, hi, hmg]))
                all_goals try (exfalso; omega)
                exact ⟨⟨(k+1,_),hlt,f1 rfl⟩,by simp,rfl,by simp only; omega⟩
        · rw [tr_0 (fun h=>hpa (hpl.1 h))] at hp
          rw [tr_0 (hno fun h=>hpa (hsn.1 h).2.1)]
          (repeat' ((first
 | refine vn rfl ?_
 | simp (disch:=omega) only [wr64,Int.zero_sub]
 | refine bo (fun _=>?_) fun _=>?_
 | refine im fun _=>?_
 | ((repeat refine si ?_); (first | ((first | refine .inl ⟨_,_,_,_,rfl,fun _=>pu hp,?_⟩ | refine ⟨_,_,_,_,rfl,fun _=>pu hp,?_⟩); (first | refine o1 ?_ | refine o2 ?_ | refine o3 ?_ | refine o4 ?_)) | refine .inl ⟨_,_,_,_,rfl,pu hp,?_⟩))
 | refine cF ?_
 | refine om ?_
 | refine an ?_
 | fail) <;> try simp only [zT, zV, zS, zU, vcC, lateX, ex, strp, binA, elems, cells, scalar, eqC, keyA, intsA, lookA, ofVs, mpOf, Nat.reduceBEq, reduceAdd, reduceSub, reduceLT, reduceLeDiff, reduceMul, reduceEqDiff, reduceIte, getD_map ha, getD_map hL]))
          all_goals try (exfalso; omega)
          all_goals exact Frz.eq rfl (by simp)
      · obtain rfl:k=c.length:=by omega
        rw [List.take_length] at hw
        rw [tr_1 (show course t c from ⟨hl,hw⟩)]
        (repeat' ((first
 | refine vn rfl ?_
 | simp (disch:=omega) only [wr64,Int.zero_sub]
 | refine bo (fun _=>?_) fun _=>?_
 | refine im fun _=>?_
 | refine cF ?_
 | refine om ?_
 | refine an ?_
 | fail) <;> try simp only [zT, zV, zS, zU, vcC, lateX, ex, strp, binA, elems, cells, scalar, eqC, keyA, intsA, lookA, ofVs, mpOf, Nat.reduceBEq, reduceAdd, reduceSub, reduceLT, reduceLeDiff, reduceMul, reduceEqDiff, reduceIte]))
        all_goals try (exfalso; omega)
        all_goals exact Frz.eq rfl (by simp)
    · have hnc:¬ course t c:=fun h=>hl h.1
      rw [tr_0 hnc]
      (repeat' ((first
 | refine vn rfl ?_
 | simp (disch:=omega) only [wr64,Int.zero_sub]
 | refine bo (fun _=>?_) fun _=>?_
 | refine im fun _=>?_
 | ((repeat refine si ?_); (first | ((first | refine .inl ⟨_,_,_,_,rfl,fun _=>pu hck,?_⟩ | refine ⟨_,_,_,_,rfl,fun _=>pu hck,?_⟩); (first | refine o1 ?_ | refine o2 ?_ | refine o3 ?_ | refine o4 ?_)) | refine .inl ⟨_,_,_,_,rfl,pu hck,?_⟩))
 | refine cF ?_
 | refine om ?_
 | refine an ?_
 | fail) <;> try simp only [zT,zV,zS,zU,vcC,lateX,ex,strp,binA,elems,cells,scalar,eqC,keyA,intsA,lookA,ofVs,mpOf,Nat.reduceBEq,reduceAdd,reduceSub,reduceLT,reduceLeDiff,reduceMul,reduceEqDiff,reduceIte]))
      all_goals try (exfalso; omega)
      all_goals exact Frz.eq rfl (by simp)
  · rw [tr_0 hv]
    have hck:=Check_spec t hs
    rw [tr_0 hv,if_neg (by decide)] at hck
    (repeat' ((first
 | refine vn rfl ?_
 | simp (disch:=omega) only [wr64,Int.zero_sub]
 | refine bo (fun _=>?_) fun _=>?_
 | refine im fun _=>?_
 | ((repeat refine si ?_); (first | ((first | refine .inl ⟨_,_,_,_,rfl,fun _=>pu hck,?_⟩ | refine ⟨_,_,_,_,rfl,fun _=>pu hck,?_⟩); (first | refine o1 ?_ | refine o2 ?_ | refine o3 ?_ | refine o4 ?_)) | refine .inl ⟨_,_,_,_,rfl,pu hck,?_⟩))
 | refine cF ?_
 | refine om ?_
 | refine an ?_
 | fail) <;> try simp only [zT,zV,zS,zU,vcC,lateX,ex,strp,binA,elems,cells,scalar,eqC,keyA,intsA,lookA,ofVs,mpOf,Nat.reduceBEq,reduceAdd,reduceSub,reduceLT,reduceLeDiff,reduceMul,reduceEqDiff,reduceIte]))
    all_goals try (exfalso; omega)
    all_goals exact Frz.eq rfl (by simp)
def c49:CF:=⟨9,
 (.seq (.ops [
 ⟨some 2,.box false 24 1 (.t 0),none⟩,
 ⟨some 4,.mv (.c (.bool false)),none⟩] [1,2])
 (.seq (.ops [
 ⟨some 5,.load (some 1) (.t 2),none⟩,
 ⟨some 6,.mv (.t 1),none⟩,
 ⟨some 7,.call (.f 61) [(.t 5),(.t 6)],none⟩,
 ⟨some 8,.bin .eql (.t 7) (.c (.int .i64 0)),none⟩,
 ⟨some 4,.mv (.t 8),none⟩] [4])
 .ret)),
 [.t 4]⟩
def c30:CF:=⟨8,
 (.seq (.ops [
 ⟨some 1,.box false 24 1 (.t 0),none⟩,
 ⟨some 2,.mv (.c (.slice none 0 0)),none⟩,
 ⟨some 3,.mv (.c (.int .i64 0)),none⟩] [1])
 (.seq (.ops [
 ⟨some 4,.load (some 1) (.t 1),none⟩,
 ⟨some 5,.call (.f 83) [(.t 4),(.f 71)],none⟩,
 ⟨some 6,.ext 0 (.t 5),none⟩,
 ⟨some 7,.ext 1 (.t 5),none⟩,
 ⟨some 2,.mv (.t 6),none⟩,
 ⟨some 3,.mv (.t 7),none⟩] [2,3])
 .ret)),
 [.t 2,.t 3]⟩
theorem k49:chkF Tryz.prog Tryz.f49 c49=true:=by kernel_rfl
theorem k30:chkF Tryz.prog Tryz.f30 c30=true:=by kernel_rfl
theorem is_spec (t:Trk) (c:List At) (hs:trkSz t) (hc:c.length < 9223372036854775808):Pure Tryz.prog 49 [trS t,atS c] (bl (tr (valid t∧course t c))):=by
  refine Pure.of_body Tryz.call49 Tryz.func49 k49 (Nat.le_of_ble_eq_true rfl) ?_
  unfold c49
  have hk:=Keeps_spec t c hs hc
  by_cases hv:valid t
  · rw [tr_1 hv,if_pos rfl] at hk
    by_cases h:course t c
    · rw [tr_1 h,if_pos rfl] at hk
      rw [tr_1 ⟨hv,h⟩]
      (repeat' ((first
 | refine vn rfl ?_
 | simp (disch:=omega) only [wr64,Int.zero_sub]
 | refine bo (fun _=>?_) fun _=>?_
 | refine im fun _=>?_
 | ((repeat refine si ?_); (first | ((first | refine .inl ⟨_,_,_,_,rfl,fun _=>pu hk,?_⟩ | refine ⟨_,_,_,_,rfl,fun _=>pu hk,?_⟩); (first | refine o1 ?_ | refine o2 ?_ | refine o3 ?_ | refine o4 ?_)) | refine .inl ⟨_,_,_,_,rfl,pu hk,?_⟩))
 | refine cF ?_
 | refine om ?_
 | refine an ?_
 | fail) <;> try simp only [zT,zV,zS,zU,vcC,lateX,ex,strp,binA,elems,cells,scalar,eqC,keyA,intsA,lookA,ofVs,mpOf,Nat.reduceBEq,reduceAdd,reduceSub,reduceLT,reduceLeDiff,reduceMul,reduceEqDiff,reduceIte]))
      all_goals exact Frz.eq rfl (by simp)
    · rw [tr_0 h,if_neg (by decide)] at hk
      rw [tr_0 (fun h'=>h h'.2)]
      (repeat' ((first
 | refine vn rfl ?_
 | simp (disch:=omega) only [wr64,Int.zero_sub]
 | refine bo (fun _=>?_) fun _=>?_
 | refine im fun _=>?_
 | ((repeat refine si ?_); (first | ((first | refine .inl ⟨_,_,_,_,rfl,fun _=>pu hk,?_⟩ | refine ⟨_,_,_,_,rfl,fun _=>pu hk,?_⟩); (first | refine o1 ?_ | refine o2 ?_ | refine o3 ?_ | refine o4 ?_)) | refine .inl ⟨_,_,_,_,rfl,pu hk,?_⟩))
 | refine cF ?_
 | refine om ?_
 | refine an ?_
 | fail) <;> try simp only [zT,zV,zS,zU,vcC,lateX,ex,strp,binA,elems,cells,scalar,eqC,keyA,intsA,lookA,ofVs,mpOf,Nat.reduceBEq,reduceAdd,reduceSub,reduceLT,reduceLeDiff,reduceMul,reduceEqDiff,reduceIte]))
      all_goals exact Frz.eq rfl (by simp)
  · rw [tr_0 hv,if_neg (by decide)] at hk
    rw [tr_0 (fun h'=>hv h'.1)]
    (repeat' ((first
 | refine vn rfl ?_
 | simp (disch:=omega) only [wr64,Int.zero_sub]
 | refine bo (fun _=>?_) fun _=>?_
 | refine im fun _=>?_
 | ((repeat refine si ?_); (first | ((first | refine .inl ⟨_,_,_,_,rfl,fun _=>pu hk,?_⟩ | refine ⟨_,_,_,_,rfl,fun _=>pu hk,?_⟩); (first | refine o1 ?_ | refine o2 ?_ | refine o3 ?_ | refine o4 ?_)) | refine .inl ⟨_,_,_,_,rfl,pu hk,?_⟩))
 | refine cF ?_
 | refine om ?_
 | refine an ?_
 | fail) <;> try simp only [zT,zV,zS,zU,vcC,lateX,ex,strp,binA,elems,cells,scalar,eqC,keyA,intsA,lookA,ofVs,mpOf,Nat.reduceBEq,reduceAdd,reduceSub,reduceLT,reduceLeDiff,reduceMul,reduceEqDiff,reduceIte]))
    all_goals exact Frz.eq rfl (by simp)
theorem Forward_spec (t:Trk) (hs:trkSz t):Pure Tryz.prog 30 [trS t] (.tup [stgS (if tr (valid t)=true then fwds t else []),n (if tr (valid t)=true then 0 else 40)]):=by
  refine Pure.of_body Tryz.call30 Tryz.func30 k30 (Nat.le_of_ble_eq_true rfl) ?_
  unfold c30
  have ht:=told_spec t hs 71 (fwds t) (forward_spec t)
  generalize (if tr (valid t)=true then (0:Int) else 40)=E at *
  generalize (if tr (valid t)=true then fwds t else [])=X at *
  (repeat' ((first
 | refine vn rfl ?_
 | simp (disch:=omega) only [wr64,Int.zero_sub]
 | refine bo (fun _=>?_) fun _=>?_
 | refine im fun _=>?_
 | ((repeat refine si ?_); (first | ((first | refine .inl ⟨_,_,_,_,rfl,fun _=>pu ht,?_⟩ | refine ⟨_,_,_,_,rfl,fun _=>pu ht,?_⟩); (first | refine o1 ?_ | refine o2 ?_ | refine o3 ?_ | refine o4 ?_)) | refine .inl ⟨_,_,_,_,rfl,pu ht,?_⟩))
 | refine cF ?_
 | refine om ?_
 | refine an ?_
 | fail) <;> try simp only [zT,zV,zS,zU,vcC,lateX,ex,strp,binA,elems,cells,scalar,eqC,keyA,intsA,lookA,ofVs,mpOf,Nat.reduceBEq,reduceAdd,reduceSub,reduceLT,reduceLeDiff,reduceMul,reduceEqDiff,reduceIte]))
  all_goals exact Frz.eq rfl (by simp)
def c17:CF:=⟨112,
 (.seq (.ops [
 ⟨some 1,.box false 24 1 (.t 0),none⟩,
 ⟨some 2,.mv (.c (.bool false)),none⟩] [1])
 (.seq (.seq (.ops [
 ⟨some 6,.faddr 0 (.t 1),none⟩,
 ⟨some 7,.load none (.t 6),none⟩,
 ⟨some 8,.len (.t 7),none⟩,
 ⟨some 9,.bin .gtr (.t 8) (.c (.int .i64 8)),none⟩,
 ⟨some 10,.mv (.t 9),none⟩,
 ⟨some 11,.faddr 0 (.t 1),some (10,true)⟩,
 ⟨some 12,.load none (.t 11),some (10,true)⟩,
 ⟨some 13,.len (.t 12),some (10,true)⟩,
 ⟨some 14,.bin .leq (.t 13) (.c (.int .i64 401)),some (10,true)⟩,
 ⟨some 15,.pick (.t 10) (.t 14) (.c (.bool false)),none⟩,
 ⟨some 16,.mv (.t 15),none⟩,
 ⟨some 17,.faddr 0 (.t 1),some (16,false)⟩,
 ⟨some 18,.load none (.t 17),some (16,false)⟩,
 ⟨some 19,.len (.t 18),some (16,false)⟩,
 ⟨some 20,.bin .gtr (.t 19) (.c (.int .i64 802)),some (16,false)⟩,
 ⟨some 21,.pick (.t 16) (.c (.bool true)) (.t 20),none⟩] [1,21])
 (.cond (.t 21) (.seq (.ops [
 ⟨some 2,.mv (.c (.bool false)),none⟩] [2])
 .ret)
 .skip))
 (.seq (.seq (.ops [
 ⟨some 3,.mv (.c (.int .i64 0)),none⟩] [1,3])
 (.block 0 (.loop (.seq (.seq (.ops [
 ⟨some 22,.mv (.t 3),none⟩,
 ⟨some 23,.faddr 0 (.t 1),none⟩,
 ⟨some 24,.load none (.t 23),none⟩,
 ⟨some 25,.len (.t 24),none⟩,
 ⟨some 26,.bin .lss (.t 22) (.t 25),none⟩] [1,3,26])
 (.cond (.t 26) .skip
 (.exit 0)))
 (.seq (.block 1 (.seq (.seq (.ops [
 ⟨some 29,.faddr 0 (.t 1),none⟩,
 ⟨some 30,.load none (.t 29),none⟩,
 ⟨some 31,.mv (.t 3),none⟩,
 ⟨some 32,.iaddr 1 (.t 30) (.t 31),none⟩,
 ⟨some 33,.load none (.t 32),none⟩,
 ⟨some 34,.len (.t 33),none⟩,
 ⟨some 35,.bin .gtr (.t 34) (.c (.int .i64 6)),none⟩,
 ⟨some 36,.mv (.t 35),none⟩,
 ⟨some 37,.faddr 0 (.t 1),some (36,true)⟩,
 ⟨some 38,.load none (.t 37),some (36,true)⟩,
 ⟨some 39,.mv (.t 3),some (36,true)⟩,
 ⟨some 40,.iaddr 1 (.t 38) (.t 39),some (36,true)⟩,
 ⟨some 41,.load none (.t 40),some (36,true)⟩,
 ⟨some 42,.len (.t 41),some (36,true)⟩,
 ⟨some 43,.bin .leq (.t 42) (.c (.int .i64 4000)),some (36,true)⟩,
 ⟨some 44,.mv (.t 43),some (36,true)⟩,
 ⟨some 45,.faddr 0 (.t 1),some (44,false)⟩,
 ⟨some 46,.load none (.t 45),some (44,false)⟩,
 ⟨some 47,.len (.t 46),some (44,false)⟩,
 ⟨some 48,.bin .gtr (.t 47) (.c (.int .i64 8)),some (44,false)⟩,
 ⟨some 49,.pick (.t 44) (.c (.bool true)) (.t 48),some (36,true)⟩,
 ⟨some 50,.pick (.t 36) (.t 49) (.c (.bool false)),none⟩,
 ⟨some 51,.mv (.t 50),none⟩,
 ⟨some 52,.faddr 0 (.t 1),some (51,false)⟩,
 ⟨some 53,.load none (.t 52),some (51,false)⟩,
 ⟨some 54,.mv (.t 3),some (51,false)⟩,
 ⟨some 55,.iaddr 1 (.t 53) (.t 54),some (51,false)⟩,
 ⟨some 56,.load none (.t 55),some (51,false)⟩,
 ⟨some 57,.len (.t 56),some (51,false)⟩,
 ⟨some 58,.bin .gtr (.t 57) (.c (.int .i64 8000)),some (51,false)⟩,
 ⟨some 59,.pick (.t 51) (.c (.bool true)) (.t 58),none⟩] [1,3,59])
 (.cond (.t 59) (.seq (.ops [
 ⟨some 2,.mv (.c (.bool false)),none⟩] [2])
 .ret)
 .skip))
 (.seq (.ops [
 ⟨some 4,.mv (.c (.int .i64 0)),none⟩] [1,3,4])
 (.block 2 (.loop (.seq (.seq (.ops [
 ⟨some 60,.mv (.t 4),none⟩,
 ⟨some 61,.faddr 0 (.t 1),none⟩,
 ⟨some 62,.load none (.t 61),none⟩,
 ⟨some 63,.mv (.t 3),none⟩,
 ⟨some 64,.iaddr 1 (.t 62) (.t 63),none⟩,
 ⟨some 65,.load none (.t 64),none⟩,
 ⟨some 66,.len (.t 65),none⟩,
 ⟨some 67,.bin .lss (.t 60) (.t 66),none⟩] [1,3,4,67])
 (.cond (.t 67) .skip
 (.exit 2)))
 (.seq (.block 3 (.seq (.ops [
 ⟨some 70,.faddr 0 (.t 1),none⟩,
 ⟨some 71,.load none (.t 70),none⟩,
 ⟨some 72,.mv (.t 3),none⟩,
 ⟨some 73,.iaddr 1 (.t 71) (.t 72),none⟩,
 ⟨some 74,.load none (.t 73),none⟩,
 ⟨some 75,.mv (.t 4),none⟩,
 ⟨some 76,.iaddr 2 (.t 74) (.t 75),none⟩,
 ⟨some 77,.load (some 2) (.t 76),none⟩,
 ⟨some 5,.alloc 80 2 [.slice none 0 0,.slice none 0 0],none⟩,
 ⟨none,.store 2 (.t 5) (.t 77),none⟩] [1,3,4,5])
 (.seq (.ops [
 ⟨some 78,.faddr 0 (.t 5),none⟩,
 ⟨some 79,.load none (.t 78),none⟩,
 ⟨some 80,.len (.t 79),none⟩,
 ⟨some 81,.bin .gtr (.t 80) (.c (.int .i64 8)),none⟩,
 ⟨some 82,.mv (.t 81),none⟩,
 ⟨some 83,.faddr 0 (.t 5),some (82,true)⟩,
 ⟨some 84,.load none (.t 83),some (82,true)⟩,
 ⟨some 85,.len (.t 84),some (82,true)⟩,
 ⟨some 86,.bin .leq (.t 85) (.c (.int .i64 64)),some (82,true)⟩,
 ⟨some 87,.pick (.t 82) (.t 86) (.c (.bool false)),none⟩,
 ⟨some 88,.mv (.t 87),none⟩,
 ⟨some 89,.faddr 0 (.t 5),some (88,false)⟩,
 ⟨some 90,.load none (.t 89),some (88,false)⟩,
 ⟨some 91,.len (.t 90),some (88,false)⟩,
 ⟨some 92,.bin .gtr (.t 91) (.c (.int .i64 128)),some (88,false)⟩,
 ⟨some 93,.pick (.t 88) (.c (.bool true)) (.t 92),none⟩,
 ⟨some 94,.mv (.t 93),none⟩,
 ⟨some 95,.faddr 1 (.t 5),some (94,false)⟩,
 ⟨some 96,.load none (.t 95),some (94,false)⟩,
 ⟨some 97,.len (.t 96),some (94,false)⟩,
 ⟨some 98,.bin .gtr (.t 97) (.c (.int .i64 8)),some (94,false)⟩,
 ⟨some 99,.mv (.t 98),some (94,false)⟩,
 ⟨some 100,.faddr 1 (.t 5),some (99,true)⟩,
 ⟨some 101,.load none (.t 100),some (99,true)⟩,
 ⟨some 102,.len (.t 101),some (99,true)⟩,
 ⟨some 103,.bin .leq (.t 102) (.c (.int .i64 64)),some (99,true)⟩,
 ⟨some 104,.pick (.t 99) (.t 103) (.c (.bool false)),some (94,false)⟩,
 ⟨some 105,.pick (.t 94) (.c (.bool true)) (.t 104),none⟩,
 ⟨some 106,.mv (.t 105),none⟩,
 ⟨some 107,.faddr 1 (.t 5),some (106,false)⟩,
 ⟨some 108,.load none (.t 107),some (106,false)⟩,
 ⟨some 109,.len (.t 108),some (106,false)⟩,
 ⟨some 110,.bin .gtr (.t 109) (.c (.int .i64 128)),some (106,false)⟩,
 ⟨some 111,.pick (.t 106) (.c (.bool true)) (.t 110),none⟩] [1,3,4,111])
 (.cond (.t 111) (.seq (.ops [
 ⟨some 2,.mv (.c (.bool false)),none⟩] [2])
 .ret)
 .skip))))
 (.ops [
 ⟨some 68,.mv (.t 4),none⟩,
 ⟨some 69,.bin .add (.t 68) (.c (.int .i64 1)),none⟩,
 ⟨some 4,.mv (.t 69),none⟩] [1,3,4]))))))))
 (.ops [
 ⟨some 27,.mv (.t 3),none⟩,
 ⟨some 28,.bin .add (.t 27) (.c (.int .i64 1)),none⟩,
 ⟨some 3,.mv (.t 28),none⟩] [1,3]))))))
 (.seq (.ops [
 ⟨some 2,.mv (.c (.bool true)),none⟩] [2])
 .ret)))),
 [.t 2]⟩
theorem k17:chkF Tryz.prog Tryz.f17 c17=true:=by kernel_rfl
abbrev manyN (x:Nod):Prop:=((8 < x.al.length∧x.al.length≤64)∨128 < x.al.length)∨(8 < x.nx.length∧x.nx.length≤64)∨128 < x.nx.length
abbrev manyL (m:Nat) (l:List Nod):Prop:=(6 < l.length∧(l.length≤4000∨8 < m))∨8000 < l.length
abbrev manyT (m:Nat):Prop:=(8 < m∧m≤401)∨802 < m
def fewB (t:Trk):Bool:=!decide (manyT t.length) && t.all fun l=>!decide (manyL t.length l) && l.all fun x=>!decide (manyN x)
theorem fewB_f1 {t:Trk} (h:manyT t.length):fewB t=false:=by unfold fewB; rw [decide_eq_true h]; rfl
theorem fewB_f {t:Trk} {l:List Nod} (hl:l∈t) (h:(!decide (manyL t.length l) && l.all fun x=>!decide (manyN x))=false):fewB t=false:=by
  unfold fewB
  have:(t.all fun l=>!decide (manyL t.length l) && l.all fun x=>!decide (manyN x))=false:=by
    cases ha:t.all fun l=>!decide (manyL t.length l) && l.all fun x=>!decide (manyN x) with
    | false=>rfl
    | true=>rw [List.all_eq_true.1 ha l hl] at h; cases h
  rw [this]; simp
theorem fewB_t {t:Trk} (h1:¬ manyT t.length) (h:∀ l∈t,¬ manyL t.length l∧∀ x∈l,¬ manyN x):fewB t=true:=by
  unfold fewB
  rw [decide_eq_false h1]
  have:(t.all fun l=>!decide (manyL t.length l) && l.all fun x=>!decide (manyN x))=true:=List.all_eq_true.2 fun l hl=>by
    obtain ⟨h2,h3⟩:=h l hl
    rw [decide_eq_false h2]
    have:(l.all fun x=>!decide (manyN x))=true:=List.all_eq_true.2 fun x hx=>by rw [decide_eq_false (h3 x hx)]; rfl
    rw [this]; rfl
  rw [this]; rfl
theorem few_spec (t:Trk) (hs:trkSz t):Pure Tryz.prog 17 [trS t] (bl (fewB t)):=by
  refine Pure.of_body Tryz.call17 Tryz.func17 k17 (Nat.le_of_ble_eq_true rfl) ?_
  unfold c17
  have h1:=hs.1
  (repeat' ((first
 | refine vn rfl ?_
 | simp (disch:=omega) only [wr64,Int.zero_sub]
 | refine bo (fun _=>?_) fun _=>?_
 | refine im fun _=>?_
 | refine cF ?_
 | refine om ?_
 | refine an ?_
 | fail) <;> try simp only [zT,zV,zS,zU,vcC,lateX,ex,strp,binA,elems,cells,scalar,eqC,keyA,intsA,lookA,ofVs,mpOf,Nat.reduceBEq,reduceAdd,reduceSub,reduceLT,reduceLeDiff,reduceMul,reduceEqDiff,reduceIte]))
  · rename_i h
    rw [fewB_f1 (by unfold manyT; omega)]
    exact Frz.eq rfl (by simp)
  rename_i hT
  refine AWPC.loopE (α:={ x:Nat × Sto // x.1≤t.length∧∀ l∈t.take x.1,¬ manyL t.length l∧∀ y∈l,¬ manyN y }) [3] (fun x=>[(3,n x.1.1)]) (fun x=>x.1.2) (fun x=>t.length - x.1.1) ⟨(0,[]),Nat.zero_le _,by simp⟩ ?_ rfl ?_
  · (simp only [zT,zV,zS,zU,vcC,lateX,ex,strp,binA,elems,cells,scalar,eqC,keyA,intsA,lookA,ofVs,mpOf,Nat.reduceBEq,reduceAdd,reduceSub,reduceLT,reduceLeDiff,reduceMul,reduceEqDiff,reduceIte]; try simp)
  rintro ⟨⟨k,μ⟩,hk,hk2⟩
  try simp only at hk hk2
  try simp only
  by_cases hlt:k < t.length
  · have htk:t[k]?=some (t.getD k []):=getD_some hlt
    have gtk:(t.map fun l=>[stS l]).getD k []=[stS (t.getD k [])]:=getD_map htk
    have hm:=List.mem_of_getElem? htk
    have hs2:=hs.2 _ hm
    have hsn:=take_snoc htk
    generalize t.getD k []=L at *
    obtain ⟨hL,hL2⟩:=hs2
    (repeat' ((first
 | refine vn rfl ?_
 | simp (disch:=omega) only [wr64,Int.zero_sub]
 | refine bo (fun _=>?_) fun _=>?_
 | refine im fun _=>?_
 | refine cF ?_
 | refine om ?_
 | refine an ?_
 | fail) <;> try simp only [zT,zV,zS,zU,vcC,lateX,ex,strp,binA,elems,cells,scalar,eqC,keyA,intsA,lookA,ofVs,mpOf,Nat.reduceBEq,reduceAdd,reduceSub,reduceLT,reduceLeDiff,reduceMul,reduceEqDiff,reduceIte,gtk]))
    all_goals try (exfalso; omega)
    · rename_i h
      rw [fewB_f hm (by rw [decide_eq_true (by unfold manyL; omega)]; rfl)]
      exact Frz.eq rfl (by simp)
    rename_i hM
    have hM':¬ manyL t.length L:=by unfold manyL; omega
    refine AWPC.loopE (α:={ x:Nat × Sto // x.1≤L.length∧∀ y∈L.take x.1,¬ manyN y }) [4] (fun x=>[(4,n x.1.1)]) (fun x=>x.1.2) (fun x=>L.length - x.1.1) ⟨(0,μ),Nat.zero_le _,by simp⟩ ?_ rfl ?_
    · (simp only [zT,zV,zS,zU,vcC,lateX,ex,strp,binA,elems,cells,scalar,eqC,keyA,intsA,lookA,ofVs,mpOf,Nat.reduceBEq,reduceAdd,reduceSub,reduceLT,reduceLeDiff,reduceMul,reduceEqDiff,reduceIte]; try simp)
    rintro ⟨⟨i,ν⟩,hi,hi2⟩
    try simp only at hi hi2
    try simp only
    by_cases hlt2:i < L.length
    · obtain ⟨x,hx⟩:∃ x,L[i]?=some x:=⟨_,List.getElem?_eq_getElem hlt2⟩
      have hxm:=List.mem_of_getElem? hx
      obtain ⟨x1,x2⟩:=hL2 x hxm
      have hsx:=take_snoc hx
      (repeat' ((first
 | refine vn rfl ?_
 | simp (disch:=omega) only [wr64,Int.zero_sub]
 | refine bo (fun _=>?_) fun _=>?_
 | refine im fun _=>?_
 | refine cF ?_
 | refine om ?_
 | refine an ?_
 | fail) <;> try simp only [zT,zV,zS,zU,vcC,lateX,ex,strp,binA,elems,cells,scalar,eqC,keyA,intsA,lookA,ofVs,mpOf,Nat.reduceBEq,reduceAdd,reduceSub,reduceLT,reduceLeDiff,reduceMul,reduceEqDiff,reduceIte,gtk,getD_map hx,List.cons_append]))
      all_goals try (exfalso; omega)
      · rename_i h
        have hN:manyN x:=by unfold manyN; omega
        have hf:(!decide (manyL t.length L) && L.all fun x=>!decide (manyN x))=false:=by
          rw [Bool.and_eq_false_iff]
          refine .inr ?_
          cases ha:L.all fun x=>!decide (manyN x) with
          | false=>rfl
          | true=>have:=List.all_eq_true.1 ha x hxm; rw [decide_eq_true hN] at this; cases this
        rw [fewB_f hm hf]
        exact Frz.eq rfl (by simp)
      · rename_i h
        have hN:¬ manyN x:=by unfold manyN; omega
        exact ⟨⟨(i+1,ν++[some [⟨80,2,[Nod.cs x],none⟩]]),hlt2,fun y hy=>by
          rw [hsx] at hy
          rcases List.mem_append.1 hy with h | h
          · exact hi2 y h
          · rw [List.mem_singleton.1 h]; exact hN⟩,rfl,rfl,by simp only; omega⟩
    · obtain rfl:i=L.length:=by omega
      rw [List.take_length] at hi2
      (repeat' ((first
 | refine vn rfl ?_
 | simp (disch:=omega) only [wr64,Int.zero_sub]
 | refine bo (fun _=>?_) fun _=>?_
 | refine im fun _=>?_
 | refine cF ?_
 | refine om ?_
 | refine an ?_
 | fail) <;> try simp only [zT,zV,zS,zU,vcC,lateX,ex,strp,binA,elems,cells,scalar,eqC,keyA,intsA,lookA,ofVs,mpOf,Nat.reduceBEq,reduceAdd,reduceSub,reduceLT,reduceLeDiff,reduceMul,reduceEqDiff,reduceIte,gtk]))
      all_goals try (exfalso; omega)
      exact ⟨⟨(k+1,ν),hlt,fun l hl=>by
        rw [hsn] at hl
        rcases List.mem_append.1 hl with h | h
        · exact hk2 l h
        · rw [List.mem_singleton.1 h]
          exact ⟨hM',hi2⟩⟩,rfl,rfl,by simp only; omega⟩
  · obtain rfl:k=t.length:=by omega
    rw [List.take_length] at hk2
    rw [fewB_t (by unfold manyT; omega) hk2]
    (repeat' ((first
 | refine vn rfl ?_
 | simp (disch:=omega) only [wr64,Int.zero_sub]
 | refine bo (fun _=>?_) fun _=>?_
 | refine im fun _=>?_
 | refine cF ?_
 | refine om ?_
 | refine an ?_
 | fail) <;> try simp only [zT,zV,zS,zU,vcC,lateX,ex,strp,binA,elems,cells,scalar,eqC,keyA,intsA,lookA,ofVs,mpOf,Nat.reduceBEq,reduceAdd,reduceSub,reduceLT,reduceLeDiff,reduceMul,reduceEqDiff,reduceIte]))
    all_goals try (exfalso; omega)
    exact Frz.eq rfl (by simp)
def c10:CF:=⟨233,
 (.seq (.ops [
 ⟨some 2,.box false 24 1 (.t 0),none⟩,
 ⟨some 3,.box false 33 11 (.t 1),none⟩,
 ⟨some 4,.mv (.c (.bool false)),none⟩] [2,3])
 (.seq (.ops [
 ⟨some 18,.call (.f 16) [],none⟩,
 ⟨some 5,.mv (.t 18),none⟩] [2,3,5])
 (.seq (.seq (.ops [
 ⟨some 19,.load (some 1) (.t 2),none⟩,
 ⟨some 20,.call (.f 17) [(.t 19)],none⟩,
 ⟨some 21,.un .not (.t 20),none⟩,
 ⟨some 22,.mv (.t 21),none⟩,
 ⟨some 23,.load (some 11) (.t 3),some (22,false)⟩,
 ⟨some 24,.call (.f 18) [(.t 23)],some (22,false)⟩,
 ⟨some 25,.un .not (.t 24),some (22,false)⟩,
 ⟨some 26,.pick (.t 22) (.c (.bool true)) (.t 25),none⟩] [2,3,5,26])
 (.cond (.t 26) (.seq (.ops [
 ⟨some 27,.mv (.t 5),none⟩,
 ⟨some 4,.mv (.t 27),none⟩] [4])
 .ret)
 .skip))
 (.seq (.ops [
 ⟨some 29,.load (some 1) (.t 2),none⟩,
 ⟨some 30,.call (.f 34) [(.t 29)],none⟩,
 ⟨some 28,.mv (.t 30),none⟩,
 ⟨some 31,.ext 0 (.t 28),none⟩,
 ⟨some 32,.ext 1 (.t 28),none⟩,
 ⟨some 6,.mv (.t 31),none⟩,
 ⟨some 7,.mv (.t 32),none⟩] [2,3,5,6,7])
 (.seq (.ops [
 ⟨some 34,.load (some 1) (.t 2),none⟩,
 ⟨some 35,.call (.f 30) [(.t 34)],none⟩,
 ⟨some 33,.mv (.t 35),none⟩,
 ⟨some 36,.ext 0 (.t 33),none⟩,
 ⟨some 37,.ext 1 (.t 33),none⟩,
 ⟨some 8,.mv (.t 36),none⟩,
 ⟨some 9,.mv (.t 37),none⟩] [2,3,5,6,7,8,9])
 (.seq (.ops [
 ⟨some 39,.load (some 1) (.t 2),none⟩,
 ⟨some 40,.call (.f 32) [(.t 39)],none⟩,
 ⟨some 38,.mv (.t 40),none⟩,
 ⟨some 41,.ext 0 (.t 38),none⟩,
 ⟨some 42,.ext 1 (.t 38),none⟩,
 ⟨some 10,.mv (.t 41),none⟩,
 ⟨some 11,.mv (.t 42),none⟩] [2,3,5,6,7,8,9,10,11])
 (.seq (.seq (.ops [
 ⟨some 43,.mv (.t 7),none⟩,
 ⟨some 44,.bin .neq (.t 43) (.c (.int .i64 0)),none⟩] [2,3,5,6,7,8,9,10,11,44])
 (.cond (.t 44) (.seq (.ops [
 ⟨some 45,.mv (.t 5),none⟩,
 ⟨some 46,.mv (.t 45),none⟩,
 ⟨some 47,.mv (.t 9),some (46,true)⟩,
 ⟨some 48,.mv (.t 7),some (46,true)⟩,
 ⟨some 49,.bin .eql (.t 47) (.t 48),some (46,true)⟩,
 ⟨some 50,.pick (.t 46) (.t 49) (.c (.bool false)),none⟩,
 ⟨some 51,.mv (.t 50),none⟩,
 ⟨some 52,.mv (.t 11),some (51,true)⟩,
 ⟨some 53,.mv (.t 7),some (51,true)⟩,
 ⟨some 54,.bin .eql (.t 52) (.t 53),some (51,true)⟩,
 ⟨some 55,.pick (.t 51) (.t 54) (.c (.bool false)),none⟩,
 ⟨some 56,.mv (.t 55),none⟩,
 ⟨some 57,.load (some 1) (.t 2),some (56,true)⟩,
 ⟨some 58,.faddr 5 (.t 3),some (56,true)⟩,
 ⟨some 59,.load none (.t 58),some (56,true)⟩,
 ⟨some 60,.call (.f 49) [(.t 57),(.t 59)],some (56,true)⟩,
 ⟨some 61,.un .not (.t 60),some (56,true)⟩,
 ⟨some 62,.pick (.t 56) (.t 61) (.c (.bool false)),none⟩,
 ⟨some 4,.mv (.t 62),none⟩] [4])
 .ret)
 .skip))
 (.seq (.seq (.ops [
 ⟨some 63,.mv (.t 9),none⟩,
 ⟨some 64,.bin .neq (.t 63) (.c (.int .i64 0)),none⟩,
 ⟨some 65,.mv (.t 64),none⟩,
 ⟨some 66,.mv (.t 11),some (65,false)⟩,
 ⟨some 67,.bin .neq (.t 66) (.c (.int .i64 0)),some (65,false)⟩,
 ⟨some 68,.pick (.t 65) (.c (.bool true)) (.t 67),none⟩,
 ⟨some 69,.mv (.t 68),none⟩,
 ⟨some 70,.load (some 1) (.t 2),some (69,false)⟩,
 ⟨some 71,.mv (.t 6),some (69,false)⟩,
 ⟨some 72,.call (.f 44) [(.t 70),(.t 71)],some (69,false)⟩,
 ⟨some 73,.un .not (.t 72),some (69,false)⟩,
 ⟨some 74,.pick (.t 69) (.c (.bool true)) (.t 73),none⟩,
 ⟨some 75,.mv (.t 74),none⟩,
 ⟨some 76,.load (some 1) (.t 2),some (75,false)⟩,
 ⟨some 77,.mv (.t 8),some (75,false)⟩,
 ⟨some 78,.call (.f 44) [(.t 76),(.t 77)],some (75,false)⟩,
 ⟨some 79,.un .not (.t 78),some (75,false)⟩,
 ⟨some 80,.pick (.t 75) (.c (.bool true)) (.t 79),none⟩,
 ⟨some 81,.mv (.t 80),none⟩,
 ⟨some 82,.load (some 1) (.t 2),some (81,false)⟩,
 ⟨some 83,.mv (.t 10),some (81,false)⟩,
 ⟨some 84,.call (.f 44) [(.t 82),(.t 83)],some (81,false)⟩,
 ⟨some 85,.un .not (.t 84),some (81,false)⟩,
 ⟨some 86,.pick (.t 81) (.c (.bool true)) (.t 85),none⟩] [2,3,5,6,8,10,86])
 (.cond (.t 86) (.seq (.ops [
 ⟨some 4,.mv (.c (.bool false)),none⟩] [4])
 .ret)
 .skip))
 (.seq (.seq (.ops [
 ⟨some 87,.load (some 1) (.t 2),none⟩,
 ⟨some 88,.faddr 5 (.t 3),none⟩,
 ⟨some 89,.load none (.t 88),none⟩,
 ⟨some 90,.call (.f 49) [(.t 87),(.t 89)],none⟩] [2,3,5,6,8,10,90])
 (.cond (.t 90) (.seq (.ops [
 ⟨some 12,.mv (.c (.int .i64 0)),none⟩] [2,3,5,6,8,10,12])
 (.block 0 (.loop (.seq (.seq (.ops [
 ⟨some 91,.mv (.t 12),none⟩,
 ⟨some 92,.faddr 5 (.t 3),none⟩,
 ⟨some 93,.load none (.t 92),none⟩,
 ⟨some 94,.len (.t 93),none⟩,
 ⟨some 95,.bin .lss (.t 91) (.t 94),none⟩] [2,3,5,6,8,10,12,95])
 (.cond (.t 95) .skip
 (.exit 0)))
 (.seq (.block 1 (.seq (.draw [
 ⟨some 98,.mv (.t 6),none⟩,
 ⟨some 99,.mv (.t 12),none⟩,
 ⟨some 100,.iaddr 1 (.t 98) (.t 99),none⟩,
 ⟨some 101,.load none (.t 100),none⟩,
 ⟨some 102,.faddr 5 (.t 3),none⟩,
 ⟨some 103,.load none (.t 102),none⟩,
 ⟨some 104,.mv (.t 12),none⟩,
 ⟨some 105,.iaddr 2 (.t 103) (.t 104),none⟩,
 ⟨some 106,.faddr 0 (.t 105),none⟩,
 ⟨some 107,.load none (.t 106),none⟩,
 ⟨some 108,.iaddr 1 (.t 101) (.t 107),none⟩,
 ⟨some 109,.load none (.t 108),none⟩,
 ⟨some 110,.faddr 5 (.t 3),none⟩,
 ⟨some 111,.load none (.t 110),none⟩,
 ⟨some 112,.mv (.t 12),none⟩,
 ⟨some 113,.iaddr 2 (.t 111) (.t 112),none⟩,
 ⟨some 114,.faddr 1 (.t 113),none⟩,
 ⟨some 115,.load none (.t 114),none⟩,
 ⟨some 116,.call (.f 29) [(.t 109),(.t 115)],none⟩,
 ⟨some 117,.un .not (.t 116),none⟩] [
 ] [2,3,5,6,8,10,12,117])
 (.cond (.t 117) (.seq (.ops [
 ⟨some 4,.mv (.c (.bool false)),none⟩] [4])
 .ret)
 .skip)))
 (.ops [
 ⟨some 96,.mv (.t 12),none⟩,
 ⟨some 97,.bin .add (.t 96) (.c (.int .i64 1)),none⟩,
 ⟨some 12,.mv (.t 97),none⟩] [2,3,5,6,8,10,12]))))))
 .skip))
 (.seq (.seq (.draw [
 ⟨some 118,.faddr 0 (.t 3),none⟩,
 ⟨some 119,.load none (.t 118),none⟩,
 ⟨some 120,.bin .lss (.t 119) (.c (.int .i64 0)),none⟩,
 ⟨some 121,.mv (.t 120),none⟩,
 ⟨some 122,.faddr 0 (.t 3),some (121,false)⟩,
 ⟨some 123,.load none (.t 122),some (121,false)⟩,
 ⟨some 124,.faddr 0 (.t 2),some (121,false)⟩,
 ⟨some 125,.load none (.t 124),some (121,false)⟩,
 ⟨some 126,.len (.t 125),some (121,false)⟩,
 ⟨some 127,.bin .geq (.t 123) (.t 126),some (121,false)⟩,
 ⟨some 128,.pick (.t 121) (.c (.bool true)) (.t 127),none⟩,
 ⟨some 129,.mv (.t 128),none⟩,
 ⟨some 130,.faddr 3 (.t 3),some (129,false)⟩,
 ⟨some 131,.faddr 0 (.t 130),some (129,false)⟩,
 ⟨some 132,.load none (.t 131),some (129,false)⟩,
 ⟨some 133,.bin .lss (.t 132) (.c (.int .i64 0)),some (129,false)⟩,
 ⟨some 134,.pick (.t 129) (.c (.bool true)) (.t 133),none⟩,
 ⟨some 135,.mv (.t 134),none⟩,
 ⟨some 136,.faddr 3 (.t 3),some (135,false)⟩,
 ⟨some 137,.faddr 0 (.t 136),some (135,false)⟩,
 ⟨some 138,.load none (.t 137),some (135,false)⟩,
 ⟨some 139,.faddr 0 (.t 2),some (135,false)⟩,
 ⟨some 140,.load none (.t 139),some (135,false)⟩,
 ⟨some 141,.faddr 0 (.t 3),some (135,false)⟩,
 ⟨some 142,.load none (.t 141),some (135,false)⟩,
 ⟨some 143,.iaddr 1 (.t 140) (.t 142),some (135,false)⟩,
 ⟨some 144,.load none (.t 143),some (135,false)⟩,
 ⟨some 145,.len (.t 144),some (135,false)⟩,
 ⟨some 146,.bin .geq (.t 138) (.t 145),some (135,false)⟩,
 ⟨some 147,.pick (.t 135) (.c (.bool true)) (.t 146),none⟩] [
 ] [2,3,5,6,8,10,147])
 (.cond (.t 147) (.seq (.ops [
 ⟨some 148,.mv (.t 5),none⟩,
 ⟨some 4,.mv (.t 148),none⟩] [4])
 .ret)
 .skip))
 (.seq (.ops [
 ⟨some 149,.faddr 0 (.t 3),none⟩,
 ⟨some 150,.load none (.t 149),none⟩,
 ⟨some 13,.mv (.t 150),none⟩] [2,3,5,6,8,10,13])
 (.seq (.ops [
 ⟨some 151,.faddr 3 (.t 3),none⟩,
 ⟨some 152,.faddr 0 (.t 151),none⟩,
 ⟨some 153,.load none (.t 152),none⟩,
 ⟨some 14,.mv (.t 153),none⟩] [2,3,5,6,8,10,13,14])
 (.seq (.draw [
 ⟨some 154,.mv (.t 6),none⟩,
 ⟨some 155,.mv (.t 13),none⟩,
 ⟨some 156,.iaddr 1 (.t 154) (.t 155),none⟩,
 ⟨some 157,.load none (.t 156),none⟩,
 ⟨some 158,.mv (.t 14),none⟩,
 ⟨some 159,.iaddr 1 (.t 157) (.t 158),none⟩,
 ⟨some 160,.load none (.t 159),none⟩,
 ⟨some 161,.faddr 3 (.t 3),none⟩,
 ⟨some 162,.faddr 1 (.t 161),none⟩,
 ⟨some 163,.load none (.t 162),none⟩,
 ⟨some 164,.call (.f 29) [(.t 160),(.t 163)],none⟩,
 ⟨some 15,.mv (.t 164),none⟩] [
 ] [2,3,5,6,8,10,13,14,15])
 (.seq (.seq (.draw [
 ⟨some 165,.mv (.t 15),none⟩,
 ⟨some 166,.mv (.t 8),none⟩,
 ⟨some 167,.mv (.t 13),none⟩,
 ⟨some 168,.iaddr 1 (.t 166) (.t 167),none⟩,
 ⟨some 169,.load none (.t 168),none⟩,
 ⟨some 170,.mv (.t 14),none⟩,
 ⟨some 171,.iaddr 1 (.t 169) (.t 170),none⟩,
 ⟨some 172,.load none (.t 171),none⟩,
 ⟨some 173,.faddr 3 (.t 3),none⟩,
 ⟨some 174,.faddr 1 (.t 173),none⟩,
 ⟨some 175,.load none (.t 174),none⟩,
 ⟨some 176,.call (.f 29) [(.t 172),(.t 175)],none⟩,
 ⟨some 177,.mv (.t 176),none⟩,
 ⟨some 178,.mv (.t 10),some (177,true)⟩,
 ⟨some 179,.mv (.t 13),some (177,true)⟩,
 ⟨some 180,.iaddr 1 (.t 178) (.t 179),some (177,true)⟩,
 ⟨some 181,.load none (.t 180),some (177,true)⟩,
 ⟨some 182,.mv (.t 14),some (177,true)⟩,
 ⟨some 183,.iaddr 1 (.t 181) (.t 182),some (177,true)⟩,
 ⟨some 184,.load none (.t 183),some (177,true)⟩,
 ⟨some 185,.faddr 3 (.t 3),some (177,true)⟩,
 ⟨some 186,.faddr 1 (.t 185),some (177,true)⟩,
 ⟨some 187,.load none (.t 186),some (177,true)⟩,
 ⟨some 188,.call (.f 29) [(.t 184),(.t 187)],some (177,true)⟩,
 ⟨some 189,.pick (.t 177) (.t 188) (.c (.bool false)),none⟩,
 ⟨some 190,.eqb true (.t 165) (.t 189),none⟩,
 ⟨some 191,.mv (.t 190),none⟩,
 ⟨some 192,.mv (.t 6),some (191,false)⟩,
 ⟨some 193,.mv (.t 13),some (191,false)⟩,
 ⟨some 194,.iaddr 1 (.t 192) (.t 193),some (191,false)⟩,
 ⟨some 195,.load none (.t 194),some (191,false)⟩,
 ⟨some 196,.mv (.t 14),some (191,false)⟩,
 ⟨some 197,.iaddr 1 (.t 195) (.t 196),some (191,false)⟩,
 ⟨some 198,.load none (.t 197),some (191,false)⟩,
 ⟨some 199,.call (.f 27) [(.t 198)],some (191,false)⟩,
 ⟨some 200,.un .not (.t 199),some (191,false)⟩,
 ⟨some 201,.pick (.t 191) (.c (.bool true)) (.t 200),none⟩] [
 ] [2,3,5,13,15,201])
 (.cond (.t 201) (.seq (.ops [
 ⟨some 4,.mv (.c (.bool false)),none⟩] [4])
 .ret)
 .skip))
 (.seq (.ops [
 ⟨some 203,.load (some 1) (.t 2),none⟩,
 ⟨some 204,.mv (.t 13),none⟩,
 ⟨some 205,.faddr 3 (.t 3),none⟩,
 ⟨some 206,.load (some 2) (.t 205),none⟩,
 ⟨some 207,.call (.f 50) [(.t 203),(.t 204),(.t 206)],none⟩,
 ⟨some 202,.mv (.t 207),none⟩,
 ⟨some 208,.ext 0 (.t 202),none⟩,
 ⟨some 209,.ext 1 (.t 202),none⟩,
 ⟨some 16,.mv (.t 208),none⟩,
 ⟨some 17,.mv (.t 209),none⟩] [2,3,5,13,15,16,17])
 (.seq (.seq (.ops [
 ⟨some 210,.mv (.t 15),none⟩,
 ⟨some 211,.mv (.t 17),none⟩,
 ⟨some 212,.bin .eql (.t 211) (.c (.int .i64 0)),none⟩,
 ⟨some 213,.eqb true (.t 210) (.t 212),none⟩] [2,3,5,13,15,16,213])
 (.cond (.t 213) (.seq (.ops [
 ⟨some 4,.mv (.c (.bool false)),none⟩] [4])
 .ret)
 .skip))
 (.seq (.draw [
 ⟨some 214,.mv (.t 5),none⟩,
 ⟨some 215,.mv (.t 214),none⟩,
 ⟨some 216,.mv (.t 15),some (215,true)⟩,
 ⟨some 217,.un .not (.t 216),some (215,true)⟩,
 ⟨some 218,.mv (.t 217),some (215,true)⟩,
 ⟨some 219,.load (some 1) (.t 2),some (218,false)⟩,
 ⟨some 220,.mv (.t 16),some (218,false)⟩,
 ⟨some 221,.call (.f 49) [(.t 219),(.t 220)],some (218,false)⟩,
 ⟨some 222,.mv (.t 221),some (218,false)⟩,
 ⟨some 223,.mv (.t 16),some (222,true)⟩,
 ⟨some 224,.mv (.t 13),some (222,true)⟩,
 ⟨some 225,.iaddr 2 (.t 223) (.t 224),some (222,true)⟩,
 ⟨some 226,.load (some 2) (.t 225),some (222,true)⟩,
 ⟨some 227,.faddr 3 (.t 3),some (222,true)⟩,
 ⟨some 228,.load (some 2) (.t 227),some (222,true)⟩,
 ⟨some 229,.eqs false [some .i64,some .i64] (.t 226) (.t 228),some (222,true)⟩,
 ⟨some 230,.pick (.t 222) (.t 229) (.c (.bool false)),some (218,false)⟩,
 ⟨some 231,.pick (.t 218) (.c (.bool true)) (.t 230),some (215,true)⟩,
 ⟨some 232,.pick (.t 215) (.t 231) (.c (.bool false)),none⟩,
 ⟨some 4,.mv (.t 232),none⟩] [
 ] [4])
 .ret))))))))))))))))),
 [.t 4]⟩
theorem bnB:(true != true)=false∧(false != false)=false∧(true != false)=true∧(false != true)=true:=by decide
theorem fwds_szV {t:Trk} (hv:valid t):setsSz (fwds t):=by
  have h2:=hv.2.1
  refine ⟨by simp [fwds]; omega,fun x hx=>?_⟩
  obtain ⟨k,_,rfl⟩:=List.mem_map.1 hx
  have hw:=wd_le hv k
  exact ⟨by rw [fwd_len]; omega,fun l hl=>by have:=good_len (fwd_goods hv k l hl); omega⟩
theorem shaped_of {t:Trk} {f:Nat→List (List Sp)} (h:∀ k,k < t.length→(f k).length=wd t k):shaped t ((List.range t.length).map f):=by
  refine ⟨by simp,fun k hk=>?_⟩
  have hk':k < t.length:=by simpa using hk
  have:((List.range t.length).map f).getD k []=f k:=by simp [List.getD_eq_getElem?_getD,hk']
  rw [this,h k hk']
def c85:CF:=⟨32,
 (.seq (.ops [
 ⟨some 2,.box false 24 1 (.t 0),none⟩,
 ⟨some 4,.mv (.c (.slice none 0 0)),none⟩] [1,2])
 (.seq (.ops [
 ⟨some 5,.mv (.c (.slice none 0 0)),none⟩] [1,2,5])
 (.seq (.seq (.ops [
 ⟨some 6,.mv (.c (.int .i64 0)),none⟩] [1,2,5,6])
 (.block 0 (.loop (.seq (.seq (.ops [
 ⟨some 7,.mv (.t 6),none⟩,
 ⟨some 8,.faddr 0 (.t 2),none⟩,
 ⟨some 9,.load none (.t 8),none⟩,
 ⟨some 10,.mv (.t 1),none⟩,
 ⟨some 11,.iaddr 1 (.t 9) (.t 10),none⟩,
 ⟨some 12,.load none (.t 11),none⟩,
 ⟨some 13,.len (.t 12),none⟩,
 ⟨some 14,.bin .lss (.t 7) (.t 13),none⟩] [1,2,5,6,14])
 (.cond (.t 14) .skip
 (.exit 0)))
 (.seq (.block 1 (.ops [
 ⟨some 17,.mv (.t 5),none⟩,
 ⟨some 18,.bsl true 30 2 0 [] [],none⟩,
 ⟨some 19,.faddr 0 (.t 2),none⟩,
 ⟨some 20,.load none (.t 19),none⟩,
 ⟨some 21,.mv (.t 1),none⟩,
 ⟨some 22,.iaddr 1 (.t 20) (.t 21),none⟩,
 ⟨some 23,.load none (.t 22),none⟩,
 ⟨some 24,.mv (.t 6),none⟩,
 ⟨some 25,.iaddr 2 (.t 23) (.t 24),none⟩,
 ⟨some 26,.faddr 0 (.t 25),none⟩,
 ⟨some 27,.load none (.t 26),none⟩,
 ⟨some 28,.app 30 2 16 (.t 18) (.t 27),none⟩,
 ⟨some 29,.bsl false 45 1 1 [.slice none 0 0] [(0,1,(.t 28))],none⟩,
 ⟨some 30,.app 45 1 24 (.t 17) (.t 29),none⟩,
 ⟨some 5,.mv (.t 30),none⟩] [1,2,5,6]))
 (.ops [
 ⟨some 15,.mv (.t 6),none⟩,
 ⟨some 16,.bin .add (.t 15) (.c (.int .i64 1)),none⟩,
 ⟨some 6,.mv (.t 16),none⟩] [1,2,5,6]))))))
 (.seq (.ops [
 ⟨some 31,.mv (.t 5),none⟩,
 ⟨some 4,.mv (.t 31),none⟩] [4])
 .ret)))),
 [.t 4]⟩
def c116:CF:=⟨86,
 (.seq (.ops [
 ⟨some 3,.box false 24 1 (.t 0),none⟩,
 ⟨some 6,.mv (.c (.slice none 0 0)),none⟩] [1,2,3])
 (.seq (.ops [
 ⟨some 11,.faddr 0 (.t 3),none⟩,
 ⟨some 12,.load none (.t 11),none⟩,
 ⟨some 13,.mv (.t 1),none⟩,
 ⟨some 14,.bin .add (.t 13) (.c (.int .i64 1)),none⟩,
 ⟨some 15,.iaddr 1 (.t 12) (.t 14),none⟩,
 ⟨some 16,.load none (.t 15),none⟩,
 ⟨some 17,.len (.t 16),none⟩,
 ⟨some 18,.mksl 45 1 24 [.slice none 0 0] (.t 17) (.t 17),none⟩,
 ⟨some 7,.mv (.t 18),none⟩] [1,2,3,7])
 (.seq (.seq (.ops [
 ⟨some 8,.mv (.c (.int .i64 0)),none⟩] [1,2,3,7,8])
 (.block 0 (.loop (.seq (.seq (.ops [
 ⟨some 19,.mv (.t 8),none⟩,
 ⟨some 20,.faddr 0 (.t 3),none⟩,
 ⟨some 21,.load none (.t 20),none⟩,
 ⟨some 22,.mv (.t 1),none⟩,
 ⟨some 23,.iaddr 1 (.t 21) (.t 22),none⟩,
 ⟨some 24,.load none (.t 23),none⟩,
 ⟨some 25,.len (.t 24),none⟩,
 ⟨some 26,.bin .lss (.t 19) (.t 25),none⟩] [1,2,3,7,8,26])
 (.cond (.t 26) .skip
 (.exit 0)))
 (.seq (.block 1 (.seq (.ops [
 ⟨some 29,.faddr 0 (.t 3),none⟩,
 ⟨some 30,.load none (.t 29),none⟩,
 ⟨some 31,.mv (.t 1),none⟩,
 ⟨some 32,.iaddr 1 (.t 30) (.t 31),none⟩,
 ⟨some 33,.load none (.t 32),none⟩,
 ⟨some 34,.mv (.t 8),none⟩,
 ⟨some 35,.iaddr 2 (.t 33) (.t 34),none⟩,
 ⟨some 36,.faddr 1 (.t 35),none⟩,
 ⟨some 37,.load none (.t 36),none⟩,
 ⟨some 9,.mv (.t 37),none⟩] [1,2,3,7,8,9])
 (.seq (.ops [
 ⟨some 10,.mv (.c (.int .i64 0)),none⟩] [1,2,3,7,8,9,10])
 (.block 2 (.loop (.seq (.seq (.ops [
 ⟨some 38,.mv (.t 10),none⟩,
 ⟨some 39,.mv (.t 9),none⟩,
 ⟨some 40,.len (.t 39),none⟩,
 ⟨some 41,.bin .lss (.t 38) (.t 40),none⟩] [1,2,3,7,8,9,10,41])
 (.cond (.t 41) .skip
 (.exit 2)))
 (.seq (.block 3 (.draw [
 ⟨some 44,.mv (.t 7),none⟩,
 ⟨some 45,.mv (.t 9),none⟩,
 ⟨some 46,.mv (.t 10),none⟩,
 ⟨some 47,.iaddr 3 (.t 45) (.t 46),none⟩,
 ⟨some 48,.faddr 0 (.t 47),none⟩,
 ⟨some 49,.load none (.t 48),none⟩,
 ⟨some 50,.mv (.t 7),none⟩,
 ⟨some 51,.mv (.t 9),none⟩,
 ⟨some 52,.mv (.t 10),none⟩,
 ⟨some 53,.iaddr 3 (.t 51) (.t 52),none⟩,
 ⟨some 54,.faddr 0 (.t 53),none⟩,
 ⟨some 55,.load none (.t 54),none⟩,
 ⟨some 56,.iaddr 1 (.t 50) (.t 55),none⟩,
 ⟨some 57,.load none (.t 56),none⟩,
 ⟨some 58,.faddr 0 (.t 3),none⟩,
 ⟨some 59,.load none (.t 58),none⟩,
 ⟨some 60,.mv (.t 1),none⟩,
 ⟨some 61,.bin .add (.t 60) (.c (.int .i64 1)),none⟩,
 ⟨some 62,.iaddr 1 (.t 59) (.t 61),none⟩,
 ⟨some 63,.load none (.t 62),none⟩,
 ⟨some 64,.mv (.t 9),none⟩,
 ⟨some 65,.mv (.t 10),none⟩,
 ⟨some 66,.iaddr 3 (.t 64) (.t 65),none⟩,
 ⟨some 67,.faddr 0 (.t 66),none⟩,
 ⟨some 68,.load none (.t 67),none⟩,
 ⟨some 69,.iaddr 2 (.t 63) (.t 68),none⟩,
 ⟨some 70,.faddr 0 (.t 69),none⟩,
 ⟨some 71,.load none (.t 70),none⟩,
 ⟨some 72,.mv (.t 2),none⟩,
 ⟨some 73,.mv (.t 8),none⟩,
 ⟨some 74,.iaddr 1 (.t 72) (.t 73),none⟩,
 ⟨some 75,.load none (.t 74),none⟩,
 ⟨some 76,.mv (.t 9),none⟩,
 ⟨some 77,.mv (.t 10),none⟩,
 ⟨some 78,.iaddr 3 (.t 76) (.t 77),none⟩,
 ⟨some 79,.faddr 1 (.t 78),none⟩,
 ⟨some 80,.load (some 2) (.t 79),none⟩,
 ⟨some 81,.call (.f 155) [(.t 75),(.t 80)],none⟩,
 ⟨some 82,.call (.f 127) [(.t 71),(.t 81)],none⟩,
 ⟨some 83,.call (.f 126) [(.t 57),(.t 82)],none⟩,
 ⟨some 84,.iaddr 1 (.t 44) (.t 49),none⟩] [
 ⟨none,.store 1 (.t 84) (.t 83),none⟩] [1,2,3,7,8,9,10]))
 (.ops [
 ⟨some 42,.mv (.t 10),none⟩,
 ⟨some 43,.bin .add (.t 42) (.c (.int .i64 1)),none⟩,
 ⟨some 10,.mv (.t 43),none⟩] [1,2,3,7,8,9,10]))))))))
 (.ops [
 ⟨some 27,.mv (.t 8),none⟩,
 ⟨some 28,.bin .add (.t 27) (.c (.int .i64 1)),none⟩,
 ⟨some 8,.mv (.t 28),none⟩] [1,2,3,7,8]))))))
 (.seq (.ops [
 ⟨some 85,.mv (.t 7),none⟩,
 ⟨some 6,.mv (.t 85),none⟩] [6])
 .ret)))),
 [.t 6]⟩
theorem k85:chkF Tryz.prog Tryz.f85 c85=true:=by kernel_rfl
theorem k116:chkF Tryz.prog Tryz.f116 c116=true:=by kernel_rfl
theorem allowed_spec (t:Trk) (k:Nat) (hv:valid t) (hk:k < t.length):Pure Tryz.prog 85 [trS t,n k] (nodS (als t k)):=by
  refine Pure.of_body Tryz.call85 Tryz.func85 k85 (Nat.le_of_ble_eq_true rfl) ?_
  unfold c85
  have h2:=hv.2.1
  have htk:t[k]?=some (t.getD k []):=getD_some hk
  have gtk:(t.map fun l=>[stS l]).getD k []=[stS (t.getD k [])]:=getD_map htk
  obtain ⟨v1,v2,v3⟩:=valid_stg hv hk
  have hww:als t k=(t.getD k []).map (·.al):=rfl
  rw [hww]
  generalize t.getD k []=L at *
  ((first
 | refine vn rfl ?_
 | simp (disch:=omega) only [wr64,Int.zero_sub]
 | refine bo (fun _=>?_) fun _=>?_
 | refine im fun _=>?_
 | refine cF ?_
 | refine om ?_
 | refine an ?_
 | fail) <;> try simp only [zT,zV,zS,zU,vcC,lateX,ex,strp,binA,elems,cells,scalar,eqC,keyA,intsA,lookA,ofVs,mpOf,Nat.reduceBEq,reduceAdd,reduceSub,reduceLT,reduceLeDiff,reduceMul,reduceEqDiff,reduceIte])
  ((first
 | refine vn rfl ?_
 | simp (disch:=omega) only [wr64,Int.zero_sub]
 | refine bo (fun _=>?_) fun _=>?_
 | refine im fun _=>?_
 | refine cF ?_
 | refine om ?_
 | refine an ?_
 | fail) <;> try simp only [zT,zV,zS,zU,vcC,lateX,ex,strp,binA,elems,cells,scalar,eqC,keyA,intsA,lookA,ofVs,mpOf,Nat.reduceBEq,reduceAdd,reduceSub,reduceLT,reduceLeDiff,reduceMul,reduceEqDiff,reduceIte])
  ((first
 | refine vn rfl ?_
 | simp (disch:=omega) only [wr64,Int.zero_sub]
 | refine bo (fun _=>?_) fun _=>?_
 | refine im fun _=>?_
 | refine cF ?_
 | refine om ?_
 | refine an ?_
 | fail) <;> try simp only [zT,zV,zS,zU,vcC,lateX,ex,strp,binA,elems,cells,scalar,eqC,keyA,intsA,lookA,ofVs,mpOf,Nat.reduceBEq,reduceAdd,reduceSub,reduceLT,reduceLeDiff,reduceMul,reduceEqDiff,reduceIte])
  ((first
 | refine vn rfl ?_
 | simp (disch:=omega) only [wr64,Int.zero_sub]
 | refine bo (fun _=>?_) fun _=>?_
 | refine im fun _=>?_
 | refine cF ?_
 | refine om ?_
 | refine an ?_
 | fail) <;> try simp only [zT,zV,zS,zU,vcC,lateX,ex,strp,binA,elems,cells,scalar,eqC,keyA,intsA,lookA,ofVs,mpOf,Nat.reduceBEq,reduceAdd,reduceSub,reduceLT,reduceLeDiff,reduceMul,reduceEqDiff,reduceIte])
  refine AWPC.own0 45 1 5 rfl ?_
  refine AWPC.loopE (α:={ y:Nat // y≤L.length }) [5,6] (fun y=>[(5,.own 0 0 y.1),(6,n y.1)]) (fun y=>some [⟨45,1,(List.range y.1).map fun j=>[.own (j+1) 0 (L.getD j ⟨[],[]⟩).al.length],none⟩]::(L.take y.1).map fun x=>some [spO x.al]) (fun y=>L.length - y.1) ⟨0,Nat.zero_le _⟩ ?_ rfl ?_
  · (simp only [zT,zV,zS,zU,vcC,lateX,ex,strp,binA,elems,cells,scalar,eqC,keyA,intsA,lookA,ofVs,mpOf,Nat.reduceBEq,reduceAdd,reduceSub,reduceLT,reduceLeDiff,reduceMul,reduceEqDiff,reduceIte]; try simp)
  rintro ⟨i,hi⟩
  try simp only at hi
  try simp only
  by_cases hlt:i < L.length
  · obtain ⟨x,hx⟩:∃ x,L[i]?=some x:=⟨_,List.getElem?_eq_getElem hlt⟩
    have hxl:=(v3 x (List.mem_of_getElem? hx)).1.1
    have hsn:=take_snoc hx
    have hgd:L.getD i ⟨[],[]⟩=x:=by rw [List.getD_eq_getElem?_getD,hx]; rfl
    obtain ⟨τ,hτ⟩:∃ τ:Sto,τ=(L.take i).map fun x=>some [spO x.al]:=⟨_,rfl⟩
    have hτl:List.length τ=i:=by rw [hτ,List.length_map,List.length_take]; omega
    rw [← hτ]
    obtain ⟨E,hE⟩:∃ E:List (List AV),E=(List.range i).map fun j=>[.own (j+1) 0 (L.getD j ⟨[],[]⟩).al.length]:=⟨_,rfl⟩
    have hEl:E.length=i:=by rw [hE]; simp
    rw [← hE]
    have ro:=rows_ok x.al
    (repeat' ((first
 | refine vn rfl ?_
 | simp (disch:=omega) only [wr64,Int.zero_sub]
 | refine bo (fun _=>?_) fun _=>?_
 | refine im fun _=>?_
 | refine cF ?_
 | refine om ?_
 | refine an ?_
 | fail) <;> try simp only [zT,zV,zS,zU,vcC,lateX,ex,strp,binA,elems,cells,scalar,eqC,keyA,intsA,lookA,ofVs,mpOf,Nat.reduceBEq,reduceAdd,reduceSub,reduceLT,reduceLeDiff,reduceMul,reduceEqDiff,reduceIte,gtk,getD_map hx,hEl]))
    all_goals try (exfalso; omega)
    refine ⟨⟨ro,by omega⟩,by omega,?_⟩
    (repeat' ((first
 | refine vn rfl ?_
 | simp (disch:=omega) only [wr64,Int.zero_sub]
 | refine bo (fun _=>?_) fun _=>?_
 | refine im fun _=>?_
 | refine cF ?_
 | refine om ?_
 | refine an ?_
 | fail) <;> try simp only [zT,zV,zS,zU,vcC,lateX,ex,strp,binA,elems,cells,scalar,eqC,keyA,intsA,lookA,ofVs,mpOf,Nat.reduceBEq,reduceAdd,reduceSub,reduceLT,reduceLeDiff,reduceMul,reduceEqDiff,reduceIte]))
    all_goals try (exfalso; omega)
    exact ⟨⟨i+1,hlt⟩,⟨rfl,rfl⟩,by simp only; rw [hsn,List.range_succ,List.map_append,List.map_append,← hτ,← hE,hτl]; simp only [List.map_cons,List.map_nil,hgd]; (try rfl),by simp only; omega⟩
  · obtain rfl:i=L.length:=by omega
    rw [List.take_length]
    (repeat' ((first
 | refine vn rfl ?_
 | simp (disch:=omega) only [wr64,Int.zero_sub]
 | refine bo (fun _=>?_) fun _=>?_
 | refine im fun _=>?_
 | refine cF ?_
 | refine om ?_
 | refine an ?_
 | fail) <;> try simp only [zT,zV,zS,zU,vcC,lateX,ex,strp,binA,elems,cells,scalar,eqC,keyA,intsA,lookA,ofVs,mpOf,Nat.reduceBEq,reduceAdd,reduceSub,reduceLT,reduceLeDiff,reduceMul,reduceEqDiff,reduceIte,gtk]))
    all_goals try (exfalso; omega)
    refine Frz.own (σ:=some [⟨45,1,(List.range L.length).map fun j=>[.own (j+1) 0 (L.getD j ⟨[],[]⟩).al.length],none⟩]::L.map fun x=>some [spO x.al]) (f:=0) (i:=0) (n:=L.length) (o:=⟨45,1,(List.range L.length).map fun j=>[.own (j+1) 0 (L.getD j ⟨[],[]⟩).al.length],none⟩) (es:=(L.map (·.al)).map fun l=>[spS l]) (show (1:Nat)≠0 by decide) rfl (by simp) (by simp) (fun e j he hj=>?_) fun e he=>?_
    · obtain rfl:j=0:=by simp only at hj; omega
      have hx:=getD_some (l:=L) (d:=⟨[],[]⟩) he
      have hx2:(L.map (·.al))[e]?=some (L.getD e ⟨[],[]⟩).al:=by rw [List.getElem?_map,hx]; rfl
      rw [getD_map hx2,range_get _ he]
      refine frz_sp ?_
      rw [at_consS]
      unfold Sto.at
      rw [List.getElem?_map,hx]; rfl
    · have hx:=getD_some (l:=L) (d:=⟨[],[]⟩) he
      have hx2:(L.map (·.al))[e]?=some (L.getD e ⟨[],[]⟩).al:=by rw [List.getElem?_map,hx]; rfl
      rw [getD_map hx2]; rfl
def onR1 (cur al:List (List Sp)) (j:Nat) (acc:List Sp) (h:Hop):List Sp:=if h.to=j then joins acc (meet (al.getD j []) (joins [] (Abs.wide (cur.getD h.fr []) h.ch))) else acc
def onR (cur al:List (List Sp)) (hs:List Hop) (j:Nat):List Sp:=hs.foldl (onR1 cur al j) []
theorem onR_snoc (cur al:List (List Sp)) (hs:List Hop) (h:Hop) (j:Nat):onR cur al (hs++[h]) j=onR1 cur al j (onR cur al hs j) h:=by unfold onR; rw [List.foldl_append]; rfl
theorem wideJ_ok {l:List Sp} {c:Sp} (hl:good l) (hc:chOk c):OKs (joins [] (Abs.wide l c)):=joins_ok (wide_bdd hl.2 hc) OKs.nil
theorem onR_laws {cur al:List (List Sp)} (hc:goods cur):∀ {hs:List Hop},(∀ h∈hs,chOk h.ch)→∀ (j:Nat) (acc:List Sp),OKs acc →
    OKs (hs.foldl (onR1 cur al j) acc)∧∀ v,Mem v (hs.foldl (onR1 cur al j) acc)↔Mem v acc∨(Mem v (into hs cur j)∧Mem v (al.getD j []))
  | [],_,j,acc,ha=>⟨ha,fun v=>by simp [into,Mem.nil]⟩
  | h::hs,hh,j,acc,ha=>by
    have hch:=hh h List.mem_cons_self
    have hW:=wideJ_ok (goods_get hc h.fr) hch
    have ha':OKs (onR1 cur al j acc h):=by
      unfold onR1
      split
      · exact joins_ok (meet_ok hW.bd).bd ha
      · exact ha
    obtain ⟨i1,i2⟩:=onR_laws hc (fun g hg=>hh g (List.mem_cons_of_mem _ hg)) j _ ha'
    refine ⟨i1,fun v=>?_⟩
    rw [List.foldl_cons,i2]
    have e:into (h::hs) cur j=hop1 cur j h++into hs cur j:=rfl
    rw [e,mem_append]
    unfold onR1 hop1
    by_cases hj:h.to=j
    · rw [if_pos hj,if_pos hj,joins_mem ha.nm,meet_mem,joins0_mem]
      constructor
      · rintro ((a | ⟨a,b⟩) | ⟨a,b⟩)
        · exact .inl a
        · exact .inr ⟨.inl b,a⟩
        · exact .inr ⟨.inr a,b⟩
      · rintro (a | ⟨a | a,b⟩)
        · exact .inl (.inl a)
        · exact .inl (.inr ⟨b,a⟩)
        · exact .inr ⟨a,b⟩
    · rw [if_neg hj,if_neg hj]
      simp [Mem.nil]
theorem onR_ok {cur al:List (List Sp)} (hc:goods cur) {hs:List Hop} (hh:∀ h∈hs,chOk h.ch) (j:Nat):OKs (onR cur al hs j):=(onR_laws hc hh j [] OKs.nil).1
theorem onR_onto {cur al:List (List Sp)} (hc:goods cur) {hs:List Hop} (hh:∀ h∈hs,chOk h.ch) (j:Nat):onR cur al hs j=onto1 hs cur al j:=by
  obtain ⟨h1,h2⟩:=onR_laws (al:=al) hc hh j [] OKs.nil
  refine Norm.ext h1.nm (meet_norm _ _) fun v=>?_
  show Mem v (hs.foldl (onR1 cur al j) [])↔_
  rw [h2,onto1,meet_mem,joins0_mem]
  exact ⟨fun h=>h.resolve_left Mem.nil,.inr⟩
theorem hopsF_take:∀ (l:List Nod) (a i:Nat) (x:Nod),l[i]?=some x→hopsF a (l.take (i+1))=hopsF a (l.take i)++hopsOf (a+i) x
  | [],_,_,_,h=>by simp at h
  | y::r,a,0,x,h=>by simp at h; subst h; simp [hopsF]
  | y::r,a,i+1,x,h=>by
    have:=hopsF_take r (a+1) i x (by simpa using h)
    rw [List.take_succ_cons,hopsF,this,show a+1+i=a+(i+1) by omega,← List.append_assoc]; rfl
def hopsP (l:List Nod) (i:Nat) (es:List Edg):List Hop:=hopsF 0 (l.take i)++es.map fun e=>⟨i,e.to.toNat,e.ch⟩
theorem hopsP_snoc (l:List Nod) (i:Nat) {es:List Edg} {y:Nat} {e:Edg} (h:es[y]?=some e):hopsP l i (es.take (y+1))=hopsP l i (es.take y)++[⟨i,e.to.toNat,e.ch⟩]:=by
  unfold hopsP; rw [take_snoc h,List.map_append,List.append_assoc]; rfl
theorem hopsP_full {l:List Nod} {i:Nat} {x:Nod} (h:l[i]?=some x):hopsP l i x.nx=hopsF 0 (l.take (i+1)):=by
  rw [hopsF_take l 0 i x h,Nat.zero_add]; rfl
theorem hopsF_ch {l:List Nod} (hl:∀ x∈l,∀ e∈x.nx,chOk e.ch) (a:Nat):∀ h∈hopsF a l,chOk h.ch:=fun h hh=>by
  obtain ⟨k,x,e,hx,he,rfl⟩:=hopsF_mem.1 hh
  exact hl x (List.mem_of_getElem? hx) e he
theorem hopsP_ch {l:List Nod} (hl:∀ x∈l,∀ e∈x.nx,chOk e.ch) (i:Nat) {es:List Edg} (he:∀ e∈es,chOk e.ch):∀ h∈hopsP l i es,chOk h.ch:=fun h hh=>by
  rcases List.mem_append.1 hh with hh | hh
  · exact hopsF_ch (fun x hx=>hl x (List.mem_of_mem_take hx)) 0 h hh
  · obtain ⟨e,hem,rfl⟩:=List.mem_map.1 hh
    exact he e hem
def rowsR (cur al:List (List Sp)) (N:Nat) (hs:List Hop):List (List AV):=(List.range N).map fun j=>[spS (onR cur al hs j)]
theorem rowsR_get {cur al:List (List Sp)} {N:Nat} {hs:List Hop} {j:Nat} (h:j < N):(rowsR cur al N hs).getD j []=[spS (onR cur al hs j)]:=range_get _ h
theorem rowsR_len {cur al:List (List Sp)} {N:Nat} {hs:List Hop}:(rowsR cur al N hs).length=N:=by simp [rowsR]
theorem rowsR_set {cur al:List (List Sp)} {N:Nat} {hs:List Hop} (h:Hop):(rowsR cur al N hs).set h.to [spS (joins (onR cur al hs h.to) (meet (al.getD h.to []) (joins [] (Abs.wide (cur.getD h.fr []) h.ch))))]=rowsR cur al N (hs++[h]):=by
  unfold rowsR
  rw [range_set]
  refine range_congr fun j hj=>?_
  rw [onR_snoc,onR1]
  by_cases hjc:j=h.to
  · subst hjc; rw [if_pos rfl,if_pos rfl]
  · rw [if_neg hjc,if_neg fun e=>hjc e.symm]
theorem frz_nodO' {σ:Sto} {f m:Nat} {x:List (List Sp)} (h:σ.at f 0=some ⟨45,1,x.map (fun l=>[spS l]),none⟩) (hm:m=x.length):Frz σ (.own f 0 m) (nodS x):=hm ▸ frz_nodO h
theorem onward_spec (t:Trk) (k:Nat) (cur:List (List Sp)) (hv:valid t) (hk:k+1 < t.length) (hl:cur.length=wd t k) (hc:goods cur) :
    Pure Tryz.prog 116 [trS t,n k,nodS cur] (nodS (onto (stp t k) cur (als t (k+1)))):=by
  refine Pure.of_body Tryz.call116 Tryz.func116 k116 (Nat.le_of_ble_eq_true rfl) ?_
  unfold c116
  have h2:=hv.2.1
  have gtk:(t.map fun l=>[stS l]).getD k []=[stS (t.getD k [])]:=getD_map (getD_some (by omega))
  have gtk1:(t.map fun l=>[stS l]).getD (k+1) []=[stS (t.getD (k+1) [])]:=getD_map (getD_some hk)
  have ek:((k:Int)+1).toNat=k+1:=by omega
  obtain ⟨v1,v2,v3⟩:=valid_stg hv (show k < t.length by omega)
  obtain ⟨w1,w2,w3⟩:=valid_stg hv hk
  have hwk:wd t (k+1)=(t.getD (k+1) []).length:=rfl
  have hwk0:wd t k=(t.getD k []).length:=rfl
  have hal:als t (k+1)=(t.getD (k+1) []).map (·.al):=rfl
  have hst:stp t k=hopsF 0 (t.getD k []):=rfl
  rw [hal,hst]
  rw [hwk0] at hl
  rw [hwk] at v3
  generalize t.getD k []=L at *
  generalize t.getD (k+1) []=L2 at *
  have hch:∀ x∈L,∀ e∈x.nx,chOk e.ch:=fun x hx e he=>((v3 x hx).2.2 e he).2.2
  (repeat' ((first
 | refine vn rfl ?_
 | simp (disch:=omega) only [wr64,Int.zero_sub]
 | refine bo (fun _=>?_) fun _=>?_
 | refine im fun _=>?_
 | refine cF ?_
 | refine om ?_
 | refine an ?_
 | fail) <;> try simp only [zT,zV,zS,zU,vcC,lateX,ex,strp,binA,elems,cells,scalar,eqC,keyA,intsA,lookA,ofVs,mpOf,Nat.reduceBEq,reduceAdd,reduceSub,reduceLT,reduceLeDiff,reduceMul,reduceEqDiff,reduceIte,gtk,gtk1,ek]))
  all_goals try (exfalso; omega)
  refine AWPC.weakO (f:=0) (i:=0) (o:=⟨45,1,List.replicate L2.length [.v (.slice none 0 0)],none⟩) (o':=⟨45,1,rowsR cur (L2.map (·.al)) L2.length [],none⟩) rfl rfl rfl rfl rfl (by simp [rowsR_len]) (fun e he=>?_) (fun e j he hj=>?_) ?_
  · rw [rowsR_get (by simpa using he)]; rfl
  · simp only [List.length_replicate] at he
    obtain rfl:j=0:=by simp only at hj; omega
    intro w X β σ x hx
    rw [rowsR_get he]
    simp only [List.getD_eq_getElem?_getD,List.getElem?_replicate,if_pos he] at hx
    exact hx.nil
  simp only [zT,zV,zS,zU,vcC,lateX,ex,strp,binA,elems,cells,scalar,eqC,keyA,intsA,lookA,ofVs,mpOf,Nat.reduceBEq,reduceAdd,reduceSub,reduceLT,reduceLeDiff,reduceMul,reduceEqDiff,reduceIte]
  refine AWPC.loopE (α:={ y:Nat // y≤L.length }) [8] (fun y=>[(8,n y.1)]) (fun y=>[some [⟨45,1,rowsR cur (L2.map (·.al)) L2.length (hopsF 0 (L.take y.1)),none⟩]]) (fun y=>L.length - y.1) ⟨0,Nat.zero_le _⟩ ?_ ?_ ?_
  · (simp only [zT,zV,zS,zU,vcC,lateX,ex,strp,binA,elems,cells,scalar,eqC,keyA,intsA,lookA,ofVs,mpOf,Nat.reduceBEq,reduceAdd,reduceSub,reduceLT,reduceLeDiff,reduceMul,reduceEqDiff,reduceIte]; try simp)
  · rfl
  rintro ⟨i,hi⟩
  try simp only at hi
  try simp only
  by_cases hlt:i < L.length
  · obtain ⟨x,hx⟩:∃ x,L[i]?=some x:=⟨_,List.getElem?_eq_getElem hlt⟩
    have hxm:=List.mem_of_getElem? hx
    obtain ⟨x1,x2,x3⟩:=v3 x hxm
    have gcur:(cur.map fun l=>[spS l]).getD i []=[spS (cur.getD i [])]:=getD_map (getD_some (by omega))
    have gci:=goods_get hc i
    (repeat' ((first
 | refine vn rfl ?_
 | simp (disch:=omega) only [wr64,Int.zero_sub]
 | refine bo (fun _=>?_) fun _=>?_
 | refine im fun _=>?_
 | refine cF ?_
 | refine om ?_
 | refine an ?_
 | fail) <;> try simp only [zT,zV,zS,zU,vcC,lateX,ex,strp,binA,elems,cells,scalar,eqC,keyA,intsA,lookA,ofVs,mpOf,Nat.reduceBEq,reduceAdd,reduceSub,reduceLT,reduceLeDiff,reduceMul,reduceEqDiff,reduceIte,gtk,getD_map hx]))
    all_goals try (exfalso; omega)
    refine AWPC.loopE (α:={ y:Nat // y≤x.nx.length }) [10] (fun y=>[(10,n y.1)]) (fun y=>[some [⟨45,1,rowsR cur (L2.map (·.al)) L2.length (hopsP L i (x.nx.take y.1)),none⟩]]) (fun y=>x.nx.length - y.1) ⟨0,Nat.zero_le _⟩ ?_ ?_ ?_
    · (simp only [zT,zV,zS,zU,vcC,lateX,ex,strp,binA,elems,cells,scalar,eqC,keyA,intsA,lookA,ofVs,mpOf,Nat.reduceBEq,reduceAdd,reduceSub,reduceLT,reduceLeDiff,reduceMul,reduceEqDiff,reduceIte]; try simp)
    · simp [hopsP]
    rintro ⟨y,hy⟩
    try simp only at hy
    try simp only
    by_cases hlt2:y < x.nx.length
    · obtain ⟨e,he⟩:∃ e,x.nx[y]?=some e:=⟨_,List.getElem?_eq_getElem hlt2⟩
      have hem:=List.mem_of_getElem? he
      obtain ⟨e1,e2,e3⟩:=x3 e hem
      have hcN:e.to.toNat < L2.length:=by omega
      have gL2:(L2.map Nod.cs).getD e.to.toNat []=Nod.cs (L2.getD e.to.toNat ⟨[],[]⟩):=getD_map (getD_some hcN)
      have gal:(L2.map (·.al)).getD e.to.toNat []=(L2.getD e.to.toNat ⟨[],[]⟩).al:=getD_map (getD_some (d:=⟨[],[]⟩) hcN)
      have gga:good (L2.getD e.to.toNat ⟨[],[]⟩).al:=(w3 _ (List.mem_of_getElem? (getD_some (d:=⟨[],[]⟩) hcN))).1.2
      have hops:=hopsP_snoc L i he
      have hpc:∀ h∈hopsP L i (x.nx.take y),chOk h.ch:=hopsP_ch hch i fun f hf=>hch x hxm f (List.mem_of_mem_take hf)
      have hgR:=rowsR_get (cur:=cur) (al:=L2.map (·.al)) (hs:=hopsP L i (x.nx.take y)) hcN
      have hset:=rowsR_set (cur:=cur) (al:=L2.map (·.al)) (N:=L2.length) (hs:=hopsP L i (x.nx.take y)) ⟨i,e.to.toNat,e.ch⟩
      try simp only at hset
      rw [gal,← hops] at hset
      have hRl:=rowsR_len (cur:=cur) (al:=L2.map (·.al)) (N:=L2.length) (hs:=hopsP L i (x.nx.take y))
      have hR:=onR_ok (al:=L2.map (·.al)) hc hpc e.to.toNat
      have hW:=wideJ_ok gci e3
      have hwi:=wide_spec (cur.getD i []) e.ch gci e3
      have hme:=meetR_spec (L2.getD e.to.toNat ⟨[],[]⟩).al (joins [] (Abs.wide (cur.getD i []) e.ch)) (good_ok gga).bd hW.bd (by have:=good_len gga; omega) (by have:=hW.len; omega)
      have hM:=meet_ok (a:=(L2.getD e.to.toNat ⟨[],[]⟩).al) hW.bd
      have hun:=union_spec _ _ hR hM.bd hM.nm.ne (by have:=hM.len; omega)
      generalize onR cur (L2.map (·.al)) (hopsP L i (x.nx.take y)) e.to.toNat=Q at *
      generalize rowsR cur (L2.map (·.al)) L2.length (hopsP L i (x.nx.take y))=E at *
      generalize (L2.getD e.to.toNat ⟨[],[]⟩)=x' at *
      (repeat' ((first
 | refine vn rfl ?_
 | simp (disch:=omega) only [wr64,Int.zero_sub]
 | refine bo (fun _=>?_) fun _=>?_
 | refine im fun _=>?_
 | ((repeat refine si ?_); (first | ((first | refine .inl ⟨_,_,_,_,rfl,fun _=>pu (by first | exact hwi | exact hme | exact hun),?_⟩ | refine ⟨_,_,_,_,rfl,fun _=>pu (by first | exact hwi | exact hme | exact hun),?_⟩); (first | refine o1 ?_ | refine o2 ?_ | refine o3 ?_ | refine o4 ?_)) | refine .inl ⟨_,_,_,_,rfl,pu (by first | exact hwi | exact hme | exact hun),?_⟩))
 | refine cF ?_
 | refine om ?_
 | refine an ?_
 | fail) <;> try simp only [zT,zV,zS,zU,vcC,lateX,ex,strp,binA,elems,cells,scalar,eqC,keyA,intsA,lookA,ofVs,mpOf,Nat.reduceBEq,reduceAdd,reduceSub,reduceLT,reduceLeDiff,reduceMul,reduceEqDiff,reduceIte,gtk,gtk1,ek,getD_map hx,getD_map he,gL2,gcur,hgR,hRl]))
      all_goals try (exfalso; omega)
      exact ⟨⟨y+1,hlt2⟩,rfl,congrArg (fun z=>[some [(⟨45,1,z,none⟩:Ob)]]) hset,by simp only; omega⟩
    · obtain rfl:y=x.nx.length:=by omega
      rw [List.take_length,hopsP_full hx]
      (repeat' ((first
 | refine vn rfl ?_
 | simp (disch:=omega) only [wr64,Int.zero_sub]
 | refine bo (fun _=>?_) fun _=>?_
 | refine im fun _=>?_
 | refine cF ?_
 | refine om ?_
 | refine an ?_
 | fail) <;> try simp only [zT,zV,zS,zU,vcC,lateX,ex,strp,binA,elems,cells,scalar,eqC,keyA,intsA,lookA,ofVs,mpOf,Nat.reduceBEq,reduceAdd,reduceSub,reduceLT,reduceLeDiff,reduceMul,reduceEqDiff,reduceIte]))
      all_goals try (exfalso; omega)
      exact ⟨⟨i+1,hlt⟩,rfl,rfl,by simp only; omega⟩
  · obtain rfl:i=L.length:=by omega
    rw [List.take_length]
    (repeat' ((first
 | refine vn rfl ?_
 | simp (disch:=omega) only [wr64,Int.zero_sub]
 | refine bo (fun _=>?_) fun _=>?_
 | refine im fun _=>?_
 | refine cF ?_
 | refine om ?_
 | refine an ?_
 | fail) <;> try simp only [zT,zV,zS,zU,vcC,lateX,ex,strp,binA,elems,cells,scalar,eqC,keyA,intsA,lookA,ofVs,mpOf,Nat.reduceBEq,reduceAdd,reduceSub,reduceLT,reduceLeDiff,reduceMul,reduceEqDiff,reduceIte,gtk]))
    all_goals try (exfalso; omega)
    have hfin:rowsR cur (L2.map (·.al)) L2.length (hopsF 0 L)=(onto (hopsF 0 L) cur (L2.map (·.al))).map fun l=>[spS l]:=by
      unfold rowsR onto
      rw [List.map_map,List.length_map]
      exact range_congr fun j _=>by rw [onR_onto hc (hopsF_ch hch 0)]; rfl
    rw [hfin]
    exact frz_nodO' rfl (by simp [onto])
def c54:CF:=⟨93,
 (.seq (.ops [
 ⟨some 2,.box false 24 1 (.t 0),none⟩,
 ⟨some 4,.mv (.c (.bool false)),none⟩] [1,2])
 (.seq (.seq (.ops [
 ⟨some 10,.mv (.t 1),none⟩,
 ⟨some 11,.len (.t 10),none⟩,
 ⟨some 12,.faddr 0 (.t 2),none⟩,
 ⟨some 13,.load none (.t 12),none⟩,
 ⟨some 14,.len (.t 13),none⟩,
 ⟨some 15,.bin .neq (.t 11) (.t 14),none⟩] [1,2,15])
 (.cond (.t 15) (.seq (.ops [
 ⟨some 4,.mv (.c (.bool false)),none⟩] [4])
 .ret)
 .skip))
 (.seq (.seq (.ops [
 ⟨some 5,.mv (.c (.int .i64 0)),none⟩] [1,2,5])
 (.block 0 (.loop (.seq (.seq (.ops [
 ⟨some 16,.mv (.t 5),none⟩,
 ⟨some 17,.mv (.t 1),none⟩,
 ⟨some 18,.len (.t 17),none⟩,
 ⟨some 19,.bin .lss (.t 16) (.t 18),none⟩] [1,2,5,19])
 (.cond (.t 19) .skip
 (.exit 0)))
 (.seq (.block 1 (.seq (.seq (.draw [
 ⟨some 22,.mv (.t 1),none⟩,
 ⟨some 23,.mv (.t 5),none⟩,
 ⟨some 24,.iaddr 1 (.t 22) (.t 23),none⟩,
 ⟨some 25,.load none (.t 24),none⟩,
 ⟨some 26,.len (.t 25),none⟩,
 ⟨some 27,.faddr 0 (.t 2),none⟩,
 ⟨some 28,.load none (.t 27),none⟩,
 ⟨some 29,.mv (.t 5),none⟩,
 ⟨some 30,.iaddr 1 (.t 28) (.t 29),none⟩,
 ⟨some 31,.load none (.t 30),none⟩,
 ⟨some 32,.len (.t 31),none⟩,
 ⟨some 33,.bin .neq (.t 26) (.t 32),none⟩] [
 ] [1,2,5,33])
 (.cond (.t 33) (.seq (.ops [
 ⟨some 4,.mv (.c (.bool false)),none⟩] [4])
 .ret)
 .skip))
 (.seq (.ops [
 ⟨some 6,.mv (.c (.int .i64 0)),none⟩] [1,2,5,6])
 (.block 2 (.loop (.seq (.seq (.ops [
 ⟨some 34,.mv (.t 6),none⟩,
 ⟨some 35,.mv (.t 1),none⟩,
 ⟨some 36,.mv (.t 5),none⟩,
 ⟨some 37,.iaddr 1 (.t 35) (.t 36),none⟩,
 ⟨some 38,.load none (.t 37),none⟩,
 ⟨some 39,.len (.t 38),none⟩,
 ⟨some 40,.bin .lss (.t 34) (.t 39),none⟩] [1,2,5,6,40])
 (.cond (.t 40) .skip
 (.exit 2)))
 (.seq (.block 3 (.seq (.ops [
 ⟨some 43,.mv (.t 1),none⟩,
 ⟨some 44,.mv (.t 5),none⟩,
 ⟨some 45,.iaddr 1 (.t 43) (.t 44),none⟩,
 ⟨some 46,.load none (.t 45),none⟩,
 ⟨some 47,.mv (.t 6),none⟩,
 ⟨some 48,.iaddr 1 (.t 46) (.t 47),none⟩,
 ⟨some 49,.load none (.t 48),none⟩,
 ⟨some 50,.call (.f 27) [(.t 49)],none⟩,
 ⟨some 51,.un .not (.t 50),none⟩] [1,2,5,6,51])
 (.cond (.t 51) (.seq (.ops [
 ⟨some 4,.mv (.c (.bool false)),none⟩] [4])
 .ret)
 .skip)))
 (.ops [
 ⟨some 41,.mv (.t 6),none⟩,
 ⟨some 42,.bin .add (.t 41) (.c (.int .i64 1)),none⟩,
 ⟨some 6,.mv (.t 42),none⟩] [1,2,5,6]))))))))
 (.ops [
 ⟨some 20,.mv (.t 5),none⟩,
 ⟨some 21,.bin .add (.t 20) (.c (.int .i64 1)),none⟩,
 ⟨some 5,.mv (.t 21),none⟩] [1,2,5]))))))
 (.seq (.seq (.ops [
 ⟨some 7,.mv (.c (.int .i64 0)),none⟩] [1,2,7])
 (.block 4 (.loop (.seq (.seq (.ops [
 ⟨some 52,.mv (.t 7),none⟩,
 ⟨some 53,.mv (.t 1),none⟩,
 ⟨some 54,.len (.t 53),none⟩,
 ⟨some 55,.bin .lss (.t 52) (.t 54),none⟩] [1,2,7,55])
 (.cond (.t 55) .skip
 (.exit 4)))
 (.seq (.block 5 (.seq (.ops [
 ⟨some 58,.load (some 1) (.t 2),none⟩,
 ⟨some 59,.call (.f 85) [(.t 58),(.c (.int .i64 0))],none⟩,
 ⟨some 8,.mv (.t 59),none⟩] [1,2,7,8])
 (.seq (.seq (.ops [
 ⟨some 60,.mv (.t 7),none⟩,
 ⟨some 61,.bin .gtr (.t 60) (.c (.int .i64 0)),none⟩] [1,2,7,8,61])
 (.cond (.t 61) (.draw [
 ⟨some 62,.load (some 1) (.t 2),none⟩,
 ⟨some 63,.mv (.t 7),none⟩,
 ⟨some 64,.bin .sub (.t 63) (.c (.int .i64 1)),none⟩,
 ⟨some 65,.mv (.t 1),none⟩,
 ⟨some 66,.mv (.t 7),none⟩,
 ⟨some 67,.bin .sub (.t 66) (.c (.int .i64 1)),none⟩,
 ⟨some 68,.iaddr 1 (.t 65) (.t 67),none⟩,
 ⟨some 69,.load none (.t 68),none⟩,
 ⟨some 70,.call (.f 116) [(.t 62),(.t 64),(.t 69)],none⟩,
 ⟨some 8,.mv (.t 70),none⟩] [
 ] [1,2,7,8])
 .skip))
 (.seq (.ops [
 ⟨some 9,.mv (.c (.int .i64 0)),none⟩] [1,2,7,8,9])
 (.block 6 (.loop (.seq (.seq (.ops [
 ⟨some 71,.mv (.t 9),none⟩,
 ⟨some 72,.mv (.t 1),none⟩,
 ⟨some 73,.mv (.t 7),none⟩,
 ⟨some 74,.iaddr 1 (.t 72) (.t 73),none⟩,
 ⟨some 75,.load none (.t 74),none⟩,
 ⟨some 76,.len (.t 75),none⟩,
 ⟨some 77,.bin .lss (.t 71) (.t 76),none⟩] [1,2,7,8,9,77])
 (.cond (.t 77) .skip
 (.exit 6)))
 (.seq (.block 7 (.seq (.draw [
 ⟨some 80,.mv (.t 8),none⟩,
 ⟨some 81,.mv (.t 9),none⟩,
 ⟨some 82,.iaddr 1 (.t 80) (.t 81),none⟩,
 ⟨some 83,.load none (.t 82),none⟩,
 ⟨some 84,.mv (.t 1),none⟩,
 ⟨some 85,.mv (.t 7),none⟩,
 ⟨some 86,.iaddr 1 (.t 84) (.t 85),none⟩,
 ⟨some 87,.load none (.t 86),none⟩,
 ⟨some 88,.mv (.t 9),none⟩,
 ⟨some 89,.iaddr 1 (.t 87) (.t 88),none⟩,
 ⟨some 90,.load none (.t 89),none⟩,
 ⟨some 91,.call (.f 117) [(.t 83),(.t 90)],none⟩,
 ⟨some 92,.un .not (.t 91),none⟩] [
 ] [1,2,7,8,9,92])
 (.cond (.t 92) (.seq (.ops [
 ⟨some 4,.mv (.c (.bool false)),none⟩] [4])
 .ret)
 .skip)))
 (.ops [
 ⟨some 78,.mv (.t 9),none⟩,
 ⟨some 79,.bin .add (.t 78) (.c (.int .i64 1)),none⟩,
 ⟨some 9,.mv (.t 79),none⟩] [1,2,7,8,9])))))))))
 (.ops [
 ⟨some 56,.mv (.t 7),none⟩,
 ⟨some 57,.bin .add (.t 56) (.c (.int .i64 1)),none⟩,
 ⟨some 7,.mv (.t 57),none⟩] [1,2,7]))))))
 (.seq (.ops [
 ⟨some 4,.mv (.c (.bool true)),none⟩] [4])
 .ret))))),
 [.t 4]⟩
theorem k54:chkF Tryz.prog Tryz.f54 c54=true:=by kernel_rfl
def nxR (t:Trk) (ps:List (List (List Sp))):Nat→List (List Sp)
  | 0=>als t 0
  | k+1=>onto (stp t k) (ps.getD k []) (als t (k+1))
def restR (t:Trk) (ps:List (List (List Sp))) (k:Nat):Prop:=∀ j,j < wd t k→meet ((nxR t ps k).getD j []) ((ps.getD k []).getD j [])=(nxR t ps k).getD j []
def holdsR (t:Trk) (ps:List (List (List Sp))):Prop:=setsOk t ps∧∀ k,k < t.length→restR t ps k
theorem meet_sub {a b:List Sp} (ha:Norm a):meet a b=a↔∀ v,Mem v a→Mem v b:=by
  constructor
  · intro h v hv
    rw [← h,meet_mem] at hv
    exact hv.2
  · intro h
    exact Norm.ext (meet_norm _ _) ha fun v=>by rw [meet_mem]; exact ⟨fun x=>x.1,fun x=>⟨x,h v x⟩⟩
theorem into_hop {hs:List Hop} {cur:List (List Sp)} {j:Nat} {v:Int}:Mem v (into hs cur j)↔∃ h∈hs,h.to=j∧Mem v (Abs.wide (cur.getD h.fr []) h.ch):=by
  unfold into
  rw [mem_flatMap]
  refine exists_congr fun h=>and_congr_right fun hm=>?_
  unfold hop1
  by_cases e:h.to=j
  · rw [if_pos e]; exact ⟨fun h=>⟨e,h⟩,fun h=>h.2⟩
  · rw [if_neg e]; exact ⟨fun h=>absurd h Mem.nil,fun h=>absurd h.1 e⟩
theorem hold_iff {t:Trk} {ps:List (List (List Sp))} (hv:valid t) (hs:setsOk t ps):hold t ps↔(∀ k,k < t.length→restR t ps k)∧some' (ps.getD (t.length - 1) [])=false:=by
  unfold hold
  have key:∀ k,k+1 < t.length→((∀ h∈stp t k,hopHolds t ps k h)↔restR t ps (k+1)):=by
    intro k hk
    unfold restR hopHolds
    have hon:∀ j,j < wd t (k+1)→(nxR t ps (k+1)).getD j []=onto1 (stp t k) (ps.getD k []) (als t (k+1)) j:=fun j hj=>by
      show (onto _ _ _).getD j []=_
      rw [onto_getD (by rw [als_len]; exact hj)]
    constructor
    · intro h j hj
      rw [hon j hj]
      rw [meet_sub (show Norm (onto1 (stp t k) (ps.getD k []) (als t (k+1)) j) from meet_norm _ _)]
      intro v hv'
      rw [onto1,meet_mem,joins0_mem,into_hop] at hv'
      obtain ⟨⟨g,hg,rfl,hw⟩,ha⟩:=hv'
      exact (meet_sub (meet_norm _ _)).1 (h g hg) v ((meet_mem _ _ _).2 ⟨(joins0_mem _ _).2 hw,ha⟩)
    · intro h g hg
      have hj:=(stp_ok hv hg).2.1
      have:=h g.to hj
      rw [hon _ hj,meet_sub (show Norm (onto1 (stp t k) (ps.getD k []) (als t (k+1)) g.to) from meet_norm _ _)] at this
      rw [meet_sub (meet_norm _ _)]
      intro v hv'
      rw [meet_mem,joins0_mem] at hv'
      exact this v (by rw [onto1,meet_mem,joins0_mem,into_hop]; exact ⟨⟨g,hg,rfl,hv'.1⟩,hv'.2⟩)
  constructor
  · rintro ⟨h1,h2,h3⟩
    refine ⟨fun k hk=>?_,h3⟩
    cases k with
    | zero=>exact h1
    | succ k=>exact (key k hk).1 (h2 k hk)
  · rintro ⟨h1,h2⟩
    exact ⟨h1 0 hv.1,fun k hk=>(key k hk).2 (h1 (k+1) hk),h2⟩
theorem nxR_goods {t:Trk} {ps:List (List (List Sp))} (hv:valid t) (k:Nat):goods (nxR t ps k):=by
  cases k with
  | zero=>exact als_goods hv 0
  | succ k=>exact onto_goods (als_goods hv (k+1))
theorem nxR_len {t:Trk} {ps:List (List (List Sp))} (k:Nat):(nxR t ps k).length=wd t k:=by
  cases k with
  | zero=>exact als_len t 0
  | succ k=>rw [nxR,onto_len,als_len]
theorem Holds_spec (t:Trk) (ps:List (List (List Sp))) (hv:valid t) (hp:setsSz ps):Pure Tryz.prog 54 [trS t,stgS ps] (bl (tr (holdsR t ps))):=by
  refine Pure.of_body Tryz.call54 Tryz.func54 k54 (Nat.le_of_ble_eq_true rfl) ?_
  unfold c54
  have h1:=hv.1
  have h2:=hv.2.1
  have hno:¬ holdsR t ps→tr (holdsR t ps)=false:=tr_0
  obtain ⟨hpl,hpx⟩:=hp
  (repeat' ((first
 | refine vn rfl ?_
 | simp (disch:=omega) only [wr64,Int.zero_sub]
 | refine bo (fun _=>?_) fun _=>?_
 | refine im fun _=>?_
 | refine cF ?_
 | refine om ?_
 | refine an ?_
 | fail) <;> try simp only [zT,zV,zS,zU,vcC,lateX,ex,strp,binA,elems,cells,scalar,eqC,keyA,intsA,lookA,ofVs,mpOf,Nat.reduceBEq,reduceAdd,reduceSub,reduceLT,reduceLeDiff,reduceMul,reduceEqDiff,reduceIte]))
  · rename_i h
    rw [hno fun e=>h (by have:=e.1.1; omega)]
    exact Frz.eq rfl (by simp)
  rename_i h
  have hlen:ps.length=t.length:=by omega
  refine AWPC.loopE (α:={ y:Nat // y≤ps.length∧∀ k,k < y→(ps.getD k []).length=wd t k∧goods (ps.getD k []) }) [5] (fun y=>[(5,n y.1)]) (fun y=>[]) (fun y=>ps.length - y.1) ⟨0,Nat.zero_le _,by simp⟩ ?_ rfl ?_
  · (simp only [zT,zV,zS,zU,vcC,lateX,ex,strp,binA,elems,cells,scalar,eqC,keyA,intsA,lookA,ofVs,mpOf,Nat.reduceBEq,reduceAdd,reduceSub,reduceLT,reduceLeDiff,reduceMul,reduceEqDiff,reduceIte]; try simp)
  rintro ⟨i,hi,hI⟩
  try simp only at hi hI
  try simp only
  by_cases hlt:i < ps.length
  · have hpi:ps[i]?=some (ps.getD i []):=getD_some hlt
    have gp:(ps.map fun l=>[nodS l]).getD i []=[nodS (ps.getD i [])]:=getD_map hpi
    have gt':(t.map fun l=>[stS l]).getD i []=[stS (t.getD i [])]:=getD_map (getD_some (by omega))
    have hww:wd t i=(t.getD i []).length:=rfl
    obtain ⟨x1,x2⟩:=hpx _ (List.mem_of_getElem? hpi)
    have hb1:(ps.getD i []).length≠wd t i→¬ holdsR t ps:=fun h g=>h (g.1.2 i (by omega)).1
    have hb2:∀ l∈ps.getD i [],¬ good l→¬ holdsR t ps:=fun l hl h g=>h ((g.1.2 i (by omega)).2 l hl)
    have hwi:=wd_le hv i
    have hnext:(ps.getD i []).length=wd t i→goods (ps.getD i [])→∀ k,k < i+1→(ps.getD k []).length=wd t k∧goods (ps.getD k []):=fun a b k hk=>by
      by_cases hki:k=i
      · subst hki; exact ⟨a,b⟩
      · exact hI k (by omega)
    generalize ps.getD i []=X at *
    rw [hww] at hb1 hnext hwi
    generalize t.getD i []=L at *
    (repeat' ((first
 | refine vn rfl ?_
 | simp (disch:=omega) only [wr64,Int.zero_sub]
 | refine bo (fun _=>?_) fun _=>?_
 | refine im fun _=>?_
 | refine cF ?_
 | refine om ?_
 | refine an ?_
 | fail) <;> try simp only [zT,zV,zS,zU,vcC,lateX,ex,strp,binA,elems,cells,scalar,eqC,keyA,intsA,lookA,ofVs,mpOf,Nat.reduceBEq,reduceAdd,reduceSub,reduceLT,reduceLeDiff,reduceMul,reduceEqDiff,reduceIte,gp,gt']))
    all_goals try (exfalso; omega)
    · rename_i h
      rw [hno (hb1 (by omega))]
      exact Frz.eq rfl (by simp)
    rename_i h
    refine AWPC.loopE (α:={ y:Nat // y≤X.length∧∀ l∈X.take y,good l }) [6] (fun y=>[(6,n y.1)]) (fun y=>[]) (fun y=>X.length - y.1) ⟨0,Nat.zero_le _,by simp⟩ ?_ rfl ?_
    · (simp only [zT,zV,zS,zU,vcC,lateX,ex,strp,binA,elems,cells,scalar,eqC,keyA,intsA,lookA,ofVs,mpOf,Nat.reduceBEq,reduceAdd,reduceSub,reduceLT,reduceLeDiff,reduceMul,reduceEqDiff,reduceIte]; try simp)
    rintro ⟨j,hj,hJ⟩
    try simp only at hj hJ
    try simp only
    by_cases hlt2:j < X.length
    · obtain ⟨u,hu⟩:∃ u,X[j]?=some u:=⟨_,List.getElem?_eq_getElem hlt2⟩
      have hum:=List.mem_of_getElem? hu
      have hsn:=take_snoc hu
      have gu:(X.map fun l=>[spS l]).getD j []=[spS u]:=getD_map hu
      have hn:=Normal_spec u (x2 u hum)
      by_cases hgu:good u
      · rw [tr_1 hgu] at hn
        (repeat' ((first
 | refine vn rfl ?_
 | simp (disch:=omega) only [wr64,Int.zero_sub]
 | refine bo (fun _=>?_) fun _=>?_
 | refine im fun _=>?_
 | ((repeat refine si ?_); (first | ((first | refine .inl ⟨_,_,_,_,rfl,fun _=>pu hn,?_⟩ | refine ⟨_,_,_,_,rfl,fun _=>pu hn,?_⟩); (first | refine o1 ?_ | refine o2 ?_ | refine o3 ?_ | refine o4 ?_)) | refine .inl ⟨_,_,_,_,rfl,pu hn,?_⟩))
 | refine cF ?_
 | refine om ?_
 | refine an ?_
 | fail) <;> try simp only [zT, zV, zS, zU, vcC, lateX, ex, strp, binA, elems, cells, scalar, eqC, keyA, intsA, lookA, ofVs, mpOf, Nat.reduceBEq, reduceAdd, reduceSub, reduceLT, reduceLeDiff, reduceMul, reduceEqDiff, reduceIte, gp, gu]))
        all_goals try (exfalso; omega)
        exact ⟨⟨j+1,hlt2,fun l hl=>by
          rw [hsn] at hl
          rcases List.mem_append.1 hl with h | h
          · exact hJ l h
          · rw [List.mem_singleton.1 h]; exact hgu⟩,rfl,by first | omega | (simp only; omega)⟩
      · rw [tr_0 hgu] at hn
        (repeat' ((first
 | refine vn rfl ?_
 | simp (disch:=omega) only [wr64,Int.zero_sub]
 | refine bo (fun _=>?_) fun _=>?_
 | refine im fun _=>?_
 | ((repeat refine si ?_); (first | ((first | refine .inl ⟨_,_,_,_,rfl,fun _=>pu hn,?_⟩ | refine ⟨_,_,_,_,rfl,fun _=>pu hn,?_⟩); (first | refine o1 ?_ | refine o2 ?_ | refine o3 ?_ | refine o4 ?_)) | refine .inl ⟨_,_,_,_,rfl,pu hn,?_⟩))
 | refine cF ?_
 | refine om ?_
 | refine an ?_
 | fail) <;> try simp only [zT, zV, zS, zU, vcC, lateX, ex, strp, binA, elems, cells, scalar, eqC, keyA, intsA, lookA, ofVs, mpOf, Nat.reduceBEq, reduceAdd, reduceSub, reduceLT, reduceLeDiff, reduceMul, reduceEqDiff, reduceIte, gp, gu]))
        all_goals try (exfalso; omega)
        rw [hno (hb2 u hum hgu)]
        exact Frz.eq rfl (by simp)
    · obtain rfl:j=X.length:=by omega
      rw [List.take_length] at hJ
      (repeat' ((first
 | refine vn rfl ?_
 | simp (disch:=omega) only [wr64,Int.zero_sub]
 | refine bo (fun _=>?_) fun _=>?_
 | refine im fun _=>?_
 | refine cF ?_
 | refine om ?_
 | refine an ?_
 | fail) <;> try simp only [zT,zV,zS,zU,vcC,lateX,ex,strp,binA,elems,cells,scalar,eqC,keyA,intsA,lookA,ofVs,mpOf,Nat.reduceBEq,reduceAdd,reduceSub,reduceLT,reduceLeDiff,reduceMul,reduceEqDiff,reduceIte,gp]))
      all_goals try (exfalso; omega)
      exact ⟨⟨i+1,hlt,hnext (by omega) hJ⟩,rfl,by first | omega | (simp only; omega)⟩
  · obtain rfl:i=ps.length:=by omega
    have hset:setsOk t ps:=⟨hlen,fun k hk=>hI k (by omega)⟩
    (repeat' ((first
 | refine vn rfl ?_
 | simp (disch:=omega) only [wr64,Int.zero_sub]
 | refine bo (fun _=>?_) fun _=>?_
 | refine im fun _=>?_
 | refine cF ?_
 | refine om ?_
 | refine an ?_
 | fail) <;> try simp only [zT,zV,zS,zU,vcC,lateX,ex,strp,binA,elems,cells,scalar,eqC,keyA,intsA,lookA,ofVs,mpOf,Nat.reduceBEq,reduceAdd,reduceSub,reduceLT,reduceLeDiff,reduceMul,reduceEqDiff,reduceIte]))
    all_goals try (exfalso; omega)
    refine AWPC.loopE (α:={ y:Nat // y≤ps.length∧∀ k,k < y→restR t ps k }) [7] (fun y=>[(7,n y.1)]) (fun y=>[]) (fun y=>ps.length - y.1) ⟨0,Nat.zero_le _,by simp⟩ ?_ rfl ?_
    · (simp only [zT,zV,zS,zU,vcC,lateX,ex,strp,binA,elems,cells,scalar,eqC,keyA,intsA,lookA,ofVs,mpOf,Nat.reduceBEq,reduceAdd,reduceSub,reduceLT,reduceLeDiff,reduceMul,reduceEqDiff,reduceIte]; try simp)
    rintro ⟨k,hk,hK⟩
    try simp only at hk hK
    try simp only
    by_cases hlt:k < ps.length
    · have gpk:(ps.map fun l=>[nodS l]).getD k []=[nodS (ps.getD k [])]:=getD_map (getD_some hlt)
      have hal:=allowed_spec t 0 hv hv.1
      obtain ⟨q1,q2⟩:=hI k hlt
      have hnl:=nxR_len (t:=t) (ps:=ps) k
      have hng:=nxR_goods (ps:=ps) hv k
      have hb:∀ j,j < wd t k→¬ meet ((nxR t ps k).getD j []) ((ps.getD k []).getD j [])=(nxR t ps k).getD j []→¬ holdsR t ps:=fun j hj h g=>h (g.2 k (by omega) j hj)
      have hr:restR t ps k=∀ j,j < wd t k→meet ((nxR t ps k).getD j []) ((ps.getD k []).getD j [])=(nxR t ps k).getD j []:=rfl
      have hK2:restR t ps k→∀ k',k' < k+1→restR t ps k':=fun a k' hk'=>by
        by_cases e:k'=k
        · subst e; exact a
        · exact hK k' (by omega)
      have hwk:=wd_le hv k
      obtain ⟨NX,hNX⟩:∃ NX,NX=nxR t ps k:=⟨_,rfl⟩
      rw [← hNX] at hnl hng hb hr
      obtain ⟨X,hX⟩:∃ X,X=ps.getD k []:=⟨_,rfl⟩
      rw [← hX] at gpk q1 q2 hb hr
      by_cases hk0:k=0
      case' pos => (have hN0 : NX = als t 0 := by rw [hNX, hk0]; rfl
                    rw [← hN0] at hal
                    (repeat' ((first
 | refine vn rfl ?_
 | simp (disch:=omega) only [wr64,Int.zero_sub]
 | refine bo (fun _=>?_) fun _=>?_
 | refine im fun _=>?_
 | ((repeat refine si ?_); (first | ((first | refine .inl ⟨_,_,_,_,rfl,fun _=>pu hal,?_⟩ | refine ⟨_,_,_,_,rfl,fun _=>pu hal,?_⟩); (first | refine o1 ?_ | refine o2 ?_ | refine o3 ?_ | refine o4 ?_)) | refine .inl ⟨_,_,_,_,rfl,pu hal,?_⟩))
 | refine cF ?_
 | refine om ?_
 | refine an ?_
 | fail) <;> try simp only [zT,zV,zS,zU,vcC,lateX,ex,strp,binA,elems,cells,scalar,eqC,keyA,intsA,lookA,ofVs,mpOf,Nat.reduceBEq,reduceAdd,reduceSub,reduceLT,reduceLeDiff,reduceMul,reduceEqDiff,reduceIte,gpk])))
      case' neg=>(
        obtain ⟨k',hk'⟩:∃ k',k=k'+1:=⟨k - 1,by omega⟩
        have hN1:NX=onto (stp t k') (ps.getD k' []) (als t (k'+1)):=by rw [hNX,hk']; rfl
        have gpk':(ps.map fun l=>[nodS l]).getD k' []=[nodS (ps.getD k' [])]:=getD_map (getD_some (by omega))
        have hz:(k:Int) - 1=(k':Int):=by omega
        have hon:=onward_spec t k' (ps.getD k' []) hv (by omega) (hI k' (by omega)).1 (hI k' (by omega)).2
        rw [← hN1] at hon
        (repeat' ((first
 | refine vn rfl ?_
 | simp (disch:=omega) only [wr64,Int.zero_sub]
 | refine bo (fun _=>?_) fun _=>?_
 | refine im fun _=>?_
 | ((repeat refine si ?_); (first | ((first | refine .inl ⟨_,_,_,_,rfl,fun _=>pu (by first | exact hal | exact hon),?_⟩ | refine ⟨_,_,_,_,rfl,fun _=>pu (by first | exact hal | exact hon),?_⟩); (first | refine o1 ?_ | refine o2 ?_ | refine o3 ?_ | refine o4 ?_)) | refine .inl ⟨_,_,_,_,rfl,pu (by first | exact hal | exact hon),?_⟩))
 | refine cF ?_
 | refine om ?_
 | refine an ?_
 | fail) <;> try simp only [zT,zV,zS,zU,vcC,lateX,ex,strp,binA,elems,cells,scalar,eqC,keyA,intsA,lookA,ofVs,mpOf,Nat.reduceBEq,reduceAdd,reduceSub,reduceLT,reduceLeDiff,reduceMul,reduceEqDiff,reduceIte,gpk,gpk',hz])))
      all_goals try (exfalso; omega)
      all_goals refine AWPC.loopE (α:={ y:Nat // y≤X.length∧∀ j,j < y→meet (NX.getD j []) (X.getD j [])=NX.getD j [] }) [8,9] (fun y=>[(8,nodS NX),(9,n y.1)]) (fun y=>[]) (fun y=>X.length - y.1) ⟨0,Nat.zero_le _,by simp⟩ (by (simp only [zT,zV,zS,zU,vcC,lateX,ex,strp,binA,elems,cells,scalar,eqC,keyA,intsA,lookA,ofVs,mpOf,Nat.reduceBEq,reduceAdd,reduceSub,reduceLT,reduceLeDiff,reduceMul,reduceEqDiff,reduceIte]; try simp)) rfl ?_
      all_goals (
        rintro ⟨j,hj,hJ⟩
        try simp only at hj hJ
        try simp only
        by_cases hlt2:j < X.length
        · have gx:(X.map fun l=>[spS l]).getD j []=[spS (X.getD j [])]:=getD_map (getD_some hlt2)
          have gn:(NX.map fun l=>[spS l]).getD j []=[spS (NX.getD j [])]:=getD_map (getD_some (by omega))
          have gdx:=goods_get q2 j
          have gdn:=goods_get hng j
          have hin:=inside_spec (NX.getD j []) (X.getD j []) (good_ok gdn).bd (good_ok gdx).bd (by have:=good_len gdn; omega) (by have:=good_len gdx; omega)
          by_cases hm:meet (NX.getD j []) (X.getD j [])=NX.getD j []
          · rw [decide_eq_true hm] at hin
            (repeat' ((first
 | refine vn rfl ?_
 | simp (disch:=omega) only [wr64,Int.zero_sub]
 | refine bo (fun _=>?_) fun _=>?_
 | refine im fun _=>?_
 | ((repeat refine si ?_); (first | ((first | refine .inl ⟨_,_,_,_,rfl,fun _=>pu hin,?_⟩ | refine ⟨_,_,_,_,rfl,fun _=>pu hin,?_⟩); (first | refine o1 ?_ | refine o2 ?_ | refine o3 ?_ | refine o4 ?_)) | refine .inl ⟨_,_,_,_,rfl,pu hin,?_⟩))
 | refine cF ?_
 | refine om ?_
 | refine an ?_
 | fail) <;> try simp only [zT, zV, zS, zU, vcC, lateX, ex, strp, binA, elems, cells, scalar, eqC, keyA, intsA, lookA, ofVs, mpOf, Nat.reduceBEq, reduceAdd, reduceSub, reduceLT, reduceLeDiff, reduceMul, reduceEqDiff, reduceIte, gpk, gx, gn]))
            all_goals try (exfalso; omega)
            exact ⟨⟨j+1,hlt2,fun i hi=>by
              by_cases e:i=j
              · subst e; exact hm
              · exact hJ i (by omega)⟩,rfl,by first | omega | (simp only; omega)⟩
          · rw [decide_eq_false hm] at hin
            (repeat' ((first
 | refine vn rfl ?_
 | simp (disch:=omega) only [wr64,Int.zero_sub]
 | refine bo (fun _=>?_) fun _=>?_
 | refine im fun _=>?_
 | ((repeat refine si ?_); (first | ((first | refine .inl ⟨_,_,_,_,rfl,fun _=>pu hin,?_⟩ | refine ⟨_,_,_,_,rfl,fun _=>pu hin,?_⟩); (first | refine o1 ?_ | refine o2 ?_ | refine o3 ?_ | refine o4 ?_)) | refine .inl ⟨_,_,_,_,rfl,pu hin,?_⟩))
 | refine cF ?_
 | refine om ?_
 | refine an ?_
 | fail) <;> try simp only [zT, zV, zS, zU, vcC, lateX, ex, strp, binA, elems, cells, scalar, eqC, keyA, intsA, lookA, ofVs, mpOf, Nat.reduceBEq, reduceAdd, reduceSub, reduceLT, reduceLeDiff, reduceMul, reduceEqDiff, reduceIte, gpk, gx, gn]))
            all_goals try (exfalso; omega)
            rw [hno (hb j (by omega) hm)]
            exact Frz.eq rfl (by simp)
        · obtain rfl:j=X.length:=by omega
          (repeat' ((first
 | refine vn rfl ?_
 | simp (disch:=omega) only [wr64,Int.zero_sub]
 | refine bo (fun _=>?_) fun _=>?_
 | refine im fun _=>?_
 | refine cF ?_
 | refine om ?_
 | refine an ?_
 | fail) <;> try simp only [zT, zV, zS, zU, vcC, lateX, ex, strp, binA, elems, cells, scalar, eqC, keyA, intsA, lookA, ofVs, mpOf, Nat.reduceBEq, reduceAdd, reduceSub, reduceLT, reduceLeDiff, reduceMul, reduceEqDiff, reduceIte, gpk]))
          all_goals try (exfalso; omega)
          exact ⟨⟨k+1,hlt,hK2 (by rw [hr]; intro j hj; exact hJ j (by omega))⟩,rfl,by first | omega | (simp only; omega)⟩)
    · obtain rfl:k=ps.length:=by omega
      have:tr (holdsR t ps)=true:=tr_1 ⟨hset,fun k hk=>hK k (by omega)⟩
      rw [this]
      (repeat' ((first
 | refine vn rfl ?_
 | simp (disch:=omega) only [wr64,Int.zero_sub]
 | refine bo (fun _=>?_) fun _=>?_
 | refine im fun _=>?_
 | refine cF ?_
 | refine om ?_
 | refine an ?_
 | fail) <;> try simp only [zT,zV,zS,zU,vcC,lateX,ex,strp,binA,elems,cells,scalar,eqC,keyA,intsA,lookA,ofVs,mpOf,Nat.reduceBEq,reduceAdd,reduceSub,reduceLT,reduceLeDiff,reduceMul,reduceEqDiff,reduceIte]))
      all_goals try (exfalso; omega)
      exact Frz.eq rfl (by simp)
def fnd (s:Sp) (l:List Sp):Bool:=l.any fun r=>decide (r.lo≤s.lo) && decide (s.hi≤r.hi)
theorem fnd_snoc {s:Sp} {l:List Sp} {i:Nat} {r:Sp} (h:l[i]?=some r):fnd s (l.take (i+1))=(fnd s (l.take i) || (decide (r.lo≤s.lo) && decide (s.hi≤r.hi))):=by
  rw [take_snoc h]; unfold fnd; rw [List.any_append]; simp
def insB (a b:List Sp):Prop:=∀ s∈a,fnd s b=true
theorem inside45_spec (a b:List Sp) (ha:a.length < 9223372036854775808) (hb:b.length < 9223372036854775808):Pure Tryz.prog 45 [spS a,spS b] (bl (tr (insB a b))):=by
  refine Pure.of_body Tryz.call45 Tryz.func45 k45 (Nat.le_of_ble_eq_true rfl) ?_
  unfold c45
  have hno:¬ insB a b→tr (insB a b)=false:=tr_0
  have hyes:insB a b→tr (insB a b)=true:=tr_1
  generalize tr (insB a b)=R at *
  (repeat' ((first
 | refine vn rfl ?_
 | simp (disch:=omega) only [wr64,Int.zero_sub]
 | refine bo (fun _=>?_) fun _=>?_
 | refine im fun _=>?_
 | refine cF ?_
 | refine om ?_
 | refine an ?_
 | fail) <;> try simp only [zT,zV,zS,zU,vcC,lateX,ex,strp,binA,elems,cells,scalar,eqC,keyA,intsA,lookA,ofVs,mpOf,Nat.reduceBEq,reduceAdd,reduceSub,reduceLT,reduceLeDiff,reduceMul,reduceEqDiff,reduceIte]))
  refine AWPC.loopE (α:={ y:Nat // y≤a.length∧∀ s∈a.take y,fnd s b=true }) [5] (fun y=>[(5,n y.1)]) (fun y=>[]) (fun y=>a.length - y.1) ⟨0,Nat.zero_le _,by simp⟩ ?_ rfl ?_
  · (simp only [zT,zV,zS,zU,vcC,lateX,ex,strp,binA,elems,cells,scalar,eqC,keyA,intsA,lookA,ofVs,mpOf,Nat.reduceBEq,reduceAdd,reduceSub,reduceLT,reduceLeDiff,reduceMul,reduceEqDiff,reduceIte]; try simp)
  rintro ⟨i,hi,hI⟩
  try simp only at hi hI
  try simp only
  by_cases hlt:i < a.length
  · obtain ⟨s,hs⟩:∃ s,a[i]?=some s:=⟨_,List.getElem?_eq_getElem hlt⟩
    have hsm:=List.mem_of_getElem? hs
    have hsn:=take_snoc hs
    (repeat' ((first
 | refine vn rfl ?_
 | simp (disch:=omega) only [wr64,Int.zero_sub]
 | refine bo (fun _=>?_) fun _=>?_
 | refine im fun _=>?_
 | refine cF ?_
 | refine om ?_
 | refine an ?_
 | fail) <;> try simp only [zT,zV,zS,zU,vcC,lateX,ex,strp,binA,elems,cells,scalar,eqC,keyA,intsA,lookA,ofVs,mpOf,Nat.reduceBEq,reduceAdd,reduceSub,reduceLT,reduceLeDiff,reduceMul,reduceEqDiff,reduceIte]))
    all_goals try (exfalso; omega)
    refine AWPC.loopE (α:={ y:Nat // y≤b.length }) [6,7] (fun y=>[(6,bl (fnd s (b.take y.1))),(7,n y.1)]) (fun y=>[]) (fun y=>b.length - y.1) ⟨0,Nat.zero_le _⟩ ?_ rfl ?_
    · (simp only [zT,zV,zS,zU,vcC,lateX,ex,strp,binA,elems,cells,scalar,eqC,keyA,intsA,lookA,ofVs,mpOf,Nat.reduceBEq,reduceAdd,reduceSub,reduceLT,reduceLeDiff,reduceMul,reduceEqDiff,reduceIte]; try simp)
      try rfl
    rintro ⟨j,hj⟩
    try simp only at hj
    try simp only
    by_cases hlt2:j < b.length
    · obtain ⟨r,hr⟩:∃ r,b[j]?=some r:=⟨_,List.getElem?_eq_getElem hlt2⟩
      have hf:=fnd_snoc (s:=s) hr
      cases hB:fnd s (b.take j) with
      | true =>
        rw [hB,Bool.true_or] at hf
        (repeat' ((first
 | refine vn rfl ?_
 | simp (disch:=omega) only [wr64,Int.zero_sub]
 | refine bo (fun _=>?_) fun _=>?_
 | refine im fun _=>?_
 | refine cF ?_
 | refine om ?_
 | refine an ?_
 | fail) <;> try simp only [zT, zV, zS, zU, vcC, lateX, ex, strp, binA, elems, cells, scalar, eqC, keyA, intsA, lookA, ofVs, mpOf, Nat.reduceBEq, reduceAdd, reduceSub, reduceLT, reduceLeDiff, reduceMul, reduceEqDiff, reduceIte, getD_map hs, getD_map hr]))
        all_goals try (exfalso; omega)
        all_goals exact ⟨⟨j+1,hlt2⟩,⟨by simp only; rw [hf],rfl⟩,by first | omega | (simp only; omega)⟩
      | false =>
        rw [hB,Bool.false_or] at hf
        by_cases h1:r.lo≤s.lo
        · rw [decide_eq_true h1,Bool.true_and] at hf
          by_cases h2:s.hi≤r.hi
          · rw [decide_eq_true h2] at hf
            (repeat' ((first
 | refine vn rfl ?_
 | simp (disch:=omega) only [wr64,Int.zero_sub]
 | refine bo (fun _=>?_) fun _=>?_
 | refine im fun _=>?_
 | refine cF ?_
 | refine om ?_
 | refine an ?_
 | fail) <;> try simp only [zT, zV, zS, zU, vcC, lateX, ex, strp, binA, elems, cells, scalar, eqC, keyA, intsA, lookA, ofVs, mpOf, Nat.reduceBEq, reduceAdd, reduceSub, reduceLT, reduceLeDiff, reduceMul, reduceEqDiff, reduceIte, getD_map hs, getD_map hr, h1, h2]))
            all_goals try (exfalso; omega)
            all_goals exact ⟨⟨j+1,hlt2⟩,⟨by simp only; rw [hf],rfl⟩,by first | omega | (simp only; omega)⟩
          · rw [decide_eq_false h2] at hf
            (repeat' ((first
 | refine vn rfl ?_
 | simp (disch:=omega) only [wr64,Int.zero_sub]
 | refine bo (fun _=>?_) fun _=>?_
 | refine im fun _=>?_
 | refine cF ?_
 | refine om ?_
 | refine an ?_
 | fail) <;> try simp only [zT, zV, zS, zU, vcC, lateX, ex, strp, binA, elems, cells, scalar, eqC, keyA, intsA, lookA, ofVs, mpOf, Nat.reduceBEq, reduceAdd, reduceSub, reduceLT, reduceLeDiff, reduceMul, reduceEqDiff, reduceIte, getD_map hs, getD_map hr, h1, h2]))
            all_goals try (exfalso; omega)
            all_goals exact ⟨⟨j+1,hlt2⟩,⟨by simp only; rw [hf],rfl⟩,by first | omega | (simp only; omega)⟩
        · rw [decide_eq_false h1,Bool.false_and] at hf
          (repeat' ((first
 | refine vn rfl ?_
 | simp (disch:=omega) only [wr64,Int.zero_sub]
 | refine bo (fun _=>?_) fun _=>?_
 | refine im fun _=>?_
 | refine cF ?_
 | refine om ?_
 | refine an ?_
 | fail) <;> try simp only [zT, zV, zS, zU, vcC, lateX, ex, strp, binA, elems, cells, scalar, eqC, keyA, intsA, lookA, ofVs, mpOf, Nat.reduceBEq, reduceAdd, reduceSub, reduceLT, reduceLeDiff, reduceMul, reduceEqDiff, reduceIte, getD_map hs, getD_map hr, h1]))
          all_goals try (exfalso; omega)
          all_goals exact ⟨⟨j+1,hlt2⟩,⟨by simp only; rw [hf],rfl⟩,by first | omega | (simp only; omega)⟩
    · obtain rfl:j=b.length:=by omega
      rw [List.take_length]
      cases hB:fnd s b with
      | true =>
        (repeat' ((first
 | refine vn rfl ?_
 | simp (disch:=omega) only [wr64,Int.zero_sub]
 | refine bo (fun _=>?_) fun _=>?_
 | refine im fun _=>?_
 | refine cF ?_
 | refine om ?_
 | refine an ?_
 | fail) <;> try simp only [zT, zV, zS, zU, vcC, lateX, ex, strp, binA, elems, cells, scalar, eqC, keyA, intsA, lookA, ofVs, mpOf, Nat.reduceBEq, reduceAdd, reduceSub, reduceLT, reduceLeDiff, reduceMul, reduceEqDiff, reduceIte]))
        all_goals try (exfalso; omega)
        exact ⟨⟨i+1,hlt,fun y hy=>by
          rw [hsn] at hy
          rcases List.mem_append.1 hy with h | h
          · exact hI y h
          · rw [List.mem_singleton.1 h]; exact hB⟩,rfl,by first | omega | (simp only; omega)⟩
      | false =>
        (repeat' ((first
 | refine vn rfl ?_
 | simp (disch:=omega) only [wr64,Int.zero_sub]
 | refine bo (fun _=>?_) fun _=>?_
 | refine im fun _=>?_
 | refine cF ?_
 | refine om ?_
 | refine an ?_
 | fail) <;> try simp only [zT, zV, zS, zU, vcC, lateX, ex, strp, binA, elems, cells, scalar, eqC, keyA, intsA, lookA, ofVs, mpOf, Nat.reduceBEq, reduceAdd, reduceSub, reduceLT, reduceLeDiff, reduceMul, reduceEqDiff, reduceIte]))
        all_goals try (exfalso; omega)
        rw [hno fun h=>by have:=h s hsm; rw [hB] at this; cases this]
        exact Frz.eq rfl (by simp)
  · obtain rfl:i=a.length:=by omega
    rw [List.take_length] at hI
    rw [hyes hI]
    (repeat' ((first
 | refine vn rfl ?_
 | simp (disch:=omega) only [wr64,Int.zero_sub]
 | refine bo (fun _=>?_) fun _=>?_
 | refine im fun _=>?_
 | refine cF ?_
 | refine om ?_
 | refine an ?_
 | fail) <;> try simp only [zT,zV,zS,zU,vcC,lateX,ex,strp,binA,elems,cells,scalar,eqC,keyA,intsA,lookA,ofVs,mpOf,Nat.reduceBEq,reduceAdd,reduceSub,reduceLT,reduceLeDiff,reduceMul,reduceEqDiff,reduceIte]))
    all_goals try (exfalso; omega)
    exact Frz.eq rfl (by simp)
theorem Norm.gap {l:List Sp} (h:Norm l):∀ s∈l,∀ t∈l,s=t∨s.hi+1 < t.lo∨t.hi+1 < s.lo:=by
  induction l with
  | nil=>intro s hs; cases hs
  | cons x r ih =>
    obtain ⟨h1,h2,h3⟩:=h
    intro s hs t ht
    rcases List.mem_cons.1 hs with e | hs'
    · rcases List.mem_cons.1 ht with e2 | ht'
      · exact .inl (e.trans e2.symm)
      · rw [e]; exact .inr (.inl (h2 t ht'))
    · rcases List.mem_cons.1 ht with e2 | ht'
      · rw [e2]; exact .inr (.inr (h2 s hs'))
      · exact ih h3 s hs' t ht'
theorem insB_of {a b:List Sp} (ha:nee a) (hb:Norm b) (h:∀ v,Mem v a→Mem v b):insB a b:=fun s hs=>by
  have hne:=ha s hs
  obtain ⟨r,hr,r1,r2⟩:=h s.lo ⟨s,hs,Int.le_refl _,hne⟩
  refine List.any_eq_true.2 ⟨r,hr,?_⟩
  simp only [Bool.and_eq_true,decide_eq_true_eq]
  refine ⟨r1,Int.not_lt.1 fun hlt=>?_⟩
  obtain ⟨q,hq,q1,q2⟩:=h (r.hi+1) ⟨s,hs,by omega,by omega⟩
  have hrn:=hb.ne r hr
  have hqn:=hb.ne q hq
  rcases Norm.gap hb r hr q hq with e | e | e
  · subst e; omega
  · omega
  · omega
section
variable {t:Trk} {al:Nat→Nat→List Sp} {chg:Nat→Sp→Sp}
end
def c11:CF:=⟨141,
 (.seq (.ops [
 ⟨some 2,.box false 24 1 (.t 0),none⟩,
 ⟨some 3,.box false 33 11 (.t 1),none⟩,
 ⟨some 4,.mv (.c (.bool false)),none⟩] [2,3])
 (.seq (.ops [
 ⟨some 15,.call (.f 16) [],none⟩,
 ⟨some 5,.mv (.t 15),none⟩] [2,3,5])
 (.seq (.seq (.ops [
 ⟨some 16,.load (some 1) (.t 2),none⟩,
 ⟨some 17,.call (.f 17) [(.t 16)],none⟩,
 ⟨some 18,.un .not (.t 17),none⟩,
 ⟨some 19,.mv (.t 18),none⟩,
 ⟨some 20,.load (some 11) (.t 3),some (19,false)⟩,
 ⟨some 21,.call (.f 18) [(.t 20)],some (19,false)⟩,
 ⟨some 22,.un .not (.t 21),some (19,false)⟩,
 ⟨some 23,.pick (.t 19) (.c (.bool true)) (.t 22),none⟩] [2,3,5,23])
 (.cond (.t 23) (.seq (.ops [
 ⟨some 24,.mv (.t 5),none⟩,
 ⟨some 4,.mv (.t 24),none⟩] [4])
 .ret)
 .skip))
 (.seq (.ops [
 ⟨some 26,.load (some 1) (.t 2),none⟩,
 ⟨some 27,.call (.f 47) [(.t 26)],none⟩,
 ⟨some 25,.mv (.t 27),none⟩,
 ⟨some 28,.ext 0 (.t 25),none⟩,
 ⟨some 29,.ext 1 (.t 25),none⟩,
 ⟨some 6,.mv (.t 28),none⟩,
 ⟨some 7,.mv (.t 29),none⟩] [2,3,5,6,7])
 (.seq (.ops [
 ⟨some 31,.load (some 1) (.t 2),none⟩,
 ⟨some 32,.call (.f 19) [(.t 31)],none⟩,
 ⟨some 30,.mv (.t 32),none⟩,
 ⟨some 33,.ext 0 (.t 30),none⟩,
 ⟨some 34,.ext 1 (.t 30),none⟩,
 ⟨some 8,.alloc 38 1 [.slice none 0 0],none⟩,
 ⟨none,.store 1 (.t 8) (.t 33),none⟩,
 ⟨some 9,.mv (.t 34),none⟩] [2,3,5,6,7,8,9])
 (.seq (.ops [
 ⟨some 35,.load (some 1) (.t 2),none⟩,
 ⟨some 36,.faddr 10 (.t 3),none⟩,
 ⟨some 37,.load none (.t 36),none⟩,
 ⟨some 38,.build [.slice none 0 0] [(0,1,(.t 37))],none⟩,
 ⟨some 39,.call (.f 22) [(.t 35),(.t 38)],none⟩,
 ⟨some 40,.bin .eql (.t 39) (.c (.int .i64 0)),none⟩,
 ⟨some 10,.mv (.t 40),none⟩] [2,3,5,6,7,8,9,10])
 (.seq (.seq (.ops [
 ⟨some 41,.mv (.t 7),none⟩,
 ⟨some 42,.bin .neq (.t 41) (.c (.int .i64 0)),none⟩] [2,3,5,6,7,8,9,10,42])
 (.cond (.t 42) (.seq (.ops [
 ⟨some 43,.mv (.t 5),none⟩,
 ⟨some 44,.mv (.t 43),none⟩,
 ⟨some 45,.mv (.t 9),some (44,true)⟩,
 ⟨some 46,.mv (.t 7),some (44,true)⟩,
 ⟨some 47,.bin .eql (.t 45) (.t 46),some (44,true)⟩,
 ⟨some 48,.pick (.t 44) (.t 47) (.c (.bool false)),none⟩,
 ⟨some 49,.mv (.t 48),none⟩,
 ⟨some 50,.mv (.t 10),some (49,true)⟩,
 ⟨some 51,.un .not (.t 50),some (49,true)⟩,
 ⟨some 52,.pick (.t 49) (.t 51) (.c (.bool false)),none⟩,
 ⟨some 4,.mv (.t 52),none⟩] [4])
 .ret)
 .skip))
 (.seq (.seq (.ops [
 ⟨some 53,.mv (.t 6),none⟩,
 ⟨some 54,.mv (.t 9),none⟩,
 ⟨some 55,.bin .eql (.t 54) (.c (.int .i64 3)),none⟩,
 ⟨some 56,.eqb true (.t 53) (.t 55),none⟩,
 ⟨some 57,.mv (.t 56),none⟩,
 ⟨some 58,.mv (.t 6),some (57,false)⟩,
 ⟨some 59,.mv (.t 58),some (57,false)⟩,
 ⟨some 60,.mv (.t 10),some (59,true)⟩,
 ⟨some 61,.pick (.t 59) (.t 60) (.c (.bool false)),some (57,false)⟩,
 ⟨some 62,.pick (.t 57) (.c (.bool true)) (.t 61),none⟩,
 ⟨some 63,.mv (.t 62),none⟩,
 ⟨some 64,.mv (.t 6),some (63,false)⟩,
 ⟨some 65,.un .not (.t 64),some (63,false)⟩,
 ⟨some 66,.mv (.t 65),some (63,false)⟩,
 ⟨some 67,.mv (.t 9),some (66,true)⟩,
 ⟨some 68,.bin .neq (.t 67) (.c (.int .i64 0)),some (66,true)⟩,
 ⟨some 69,.mv (.t 68),some (66,true)⟩,
 ⟨some 70,.load (some 1) (.t 2),some (69,false)⟩,
 ⟨some 71,.load (some 1) (.t 8),some (69,false)⟩,
 ⟨some 72,.call (.f 22) [(.t 70),(.t 71)],some (69,false)⟩,
 ⟨some 73,.bin .neq (.t 72) (.c (.int .i64 0)),some (69,false)⟩,
 ⟨some 74,.pick (.t 69) (.c (.bool true)) (.t 73),some (66,true)⟩,
 ⟨some 75,.mv (.t 74),some (66,true)⟩,
 ⟨some 76,.load (some 1) (.t 2),some (75,false)⟩,
 ⟨some 77,.faddr 5 (.t 3),some (75,false)⟩,
 ⟨some 78,.load none (.t 77),some (75,false)⟩,
 ⟨some 79,.call (.f 49) [(.t 76),(.t 78)],some (75,false)⟩,
 ⟨some 80,.pick (.t 75) (.c (.bool true)) (.t 79),some (66,true)⟩,
 ⟨some 81,.pick (.t 66) (.t 80) (.c (.bool false)),some (63,false)⟩,
 ⟨some 82,.pick (.t 63) (.c (.bool true)) (.t 81),none⟩] [2,3,5,82])
 (.cond (.t 82) (.seq (.ops [
 ⟨some 4,.mv (.c (.bool false)),none⟩] [4])
 .ret)
 .skip))
 (.seq (.ops [
 ⟨some 84,.load (some 1) (.t 2),none⟩,
 ⟨some 85,.call (.f 30) [(.t 84)],none⟩,
 ⟨some 83,.mv (.t 85),none⟩,
 ⟨some 86,.ext 0 (.t 83),none⟩,
 ⟨some 87,.ext 1 (.t 83),none⟩,
 ⟨some 11,.mv (.t 86),none⟩,
 ⟨some 12,.mv (.t 87),none⟩] [2,3,5,11,12])
 (.seq (.seq (.ops [
 ⟨some 88,.mv (.t 12),none⟩,
 ⟨some 89,.bin .neq (.t 88) (.c (.int .i64 0)),none⟩,
 ⟨some 90,.mv (.t 89),none⟩,
 ⟨some 91,.load (some 1) (.t 2),some (90,false)⟩,
 ⟨some 92,.mv (.t 11),some (90,false)⟩,
 ⟨some 93,.call (.f 44) [(.t 91),(.t 92)],some (90,false)⟩,
 ⟨some 94,.un .not (.t 93),some (90,false)⟩,
 ⟨some 95,.pick (.t 90) (.c (.bool true)) (.t 94),none⟩,
 ⟨some 96,.mv (.t 95),none⟩,
 ⟨some 97,.load (some 1) (.t 2),some (96,false)⟩,
 ⟨some 98,.mv (.t 11),some (96,false)⟩,
 ⟨some 99,.call (.f 54) [(.t 97),(.t 98)],some (96,false)⟩,
 ⟨some 100,.un .not (.t 99),some (96,false)⟩,
 ⟨some 101,.pick (.t 96) (.c (.bool true)) (.t 100),none⟩] [2,3,5,11,101])
 (.cond (.t 101) (.seq (.ops [
 ⟨some 4,.mv (.c (.bool false)),none⟩] [4])
 .ret)
 .skip))
 (.seq (.seq (.ops [
 ⟨some 102,.load (some 1) (.t 2),none⟩,
 ⟨some 103,.faddr 10 (.t 3),none⟩,
 ⟨some 104,.load none (.t 103),none⟩,
 ⟨some 105,.call (.f 54) [(.t 102),(.t 104)],none⟩,
 ⟨some 106,.un .not (.t 105),none⟩] [3,5,11,106])
 (.cond (.t 106) (.seq (.ops [
 ⟨some 107,.mv (.t 5),none⟩,
 ⟨some 4,.mv (.t 107),none⟩] [4])
 .ret)
 .skip))
 (.seq (.seq (.ops [
 ⟨some 13,.mv (.c (.int .i64 0)),none⟩] [3,5,11,13])
 (.block 0 (.loop (.seq (.seq (.ops [
 ⟨some 108,.mv (.t 13),none⟩,
 ⟨some 109,.mv (.t 11),none⟩,
 ⟨some 110,.len (.t 109),none⟩,
 ⟨some 111,.bin .lss (.t 108) (.t 110),none⟩] [3,5,11,13,111])
 (.cond (.t 111) .skip
 (.exit 0)))
 (.seq (.block 1 (.seq (.ops [
 ⟨some 14,.mv (.c (.int .i64 0)),none⟩] [3,5,11,13,14])
 (.block 2 (.loop (.seq (.seq (.ops [
 ⟨some 114,.mv (.t 14),none⟩,
 ⟨some 115,.mv (.t 11),none⟩,
 ⟨some 116,.mv (.t 13),none⟩,
 ⟨some 117,.iaddr 1 (.t 115) (.t 116),none⟩,
 ⟨some 118,.load none (.t 117),none⟩,
 ⟨some 119,.len (.t 118),none⟩,
 ⟨some 120,.bin .lss (.t 114) (.t 119),none⟩] [3,5,11,13,14,120])
 (.cond (.t 120) .skip
 (.exit 2)))
 (.seq (.block 3 (.seq (.draw [
 ⟨some 123,.mv (.t 11),none⟩,
 ⟨some 124,.mv (.t 13),none⟩,
 ⟨some 125,.iaddr 1 (.t 123) (.t 124),none⟩,
 ⟨some 126,.load none (.t 125),none⟩,
 ⟨some 127,.mv (.t 14),none⟩,
 ⟨some 128,.iaddr 1 (.t 126) (.t 127),none⟩,
 ⟨some 129,.load none (.t 128),none⟩,
 ⟨some 130,.faddr 10 (.t 3),none⟩,
 ⟨some 131,.load none (.t 130),none⟩,
 ⟨some 132,.mv (.t 13),none⟩,
 ⟨some 133,.iaddr 1 (.t 131) (.t 132),none⟩,
 ⟨some 134,.load none (.t 133),none⟩,
 ⟨some 135,.mv (.t 14),none⟩,
 ⟨some 136,.iaddr 1 (.t 134) (.t 135),none⟩,
 ⟨some 137,.load none (.t 136),none⟩,
 ⟨some 138,.call (.f 45) [(.t 129),(.t 137)],none⟩,
 ⟨some 139,.un .not (.t 138),none⟩] [
 ] [3,5,11,13,14,139])
 (.cond (.t 139) (.seq (.ops [
 ⟨some 4,.mv (.c (.bool false)),none⟩] [4])
 .ret)
 .skip)))
 (.ops [
 ⟨some 121,.mv (.t 14),none⟩,
 ⟨some 122,.bin .add (.t 121) (.c (.int .i64 1)),none⟩,
 ⟨some 14,.mv (.t 122),none⟩] [3,5,11,13,14])))))))
 (.ops [
 ⟨some 112,.mv (.t 13),none⟩,
 ⟨some 113,.bin .add (.t 112) (.c (.int .i64 1)),none⟩,
 ⟨some 13,.mv (.t 113),none⟩] [3,5,11,13]))))))
 (.seq (.ops [
 ⟨some 140,.mv (.t 5),none⟩,
 ⟨some 4,.mv (.t 140),none⟩] [4])
 .ret))))))))))))),
 [.t 4]⟩
theorem k11:chkF Tryz.prog Tryz.f11 c11=true:=by kernel_rfl
theorem meet_self {a:List Sp} (h:Norm a):meet a a=a:=(meet_sub h).2 fun _ h=>h
theorem fwds_getD {t:Trk} {k:Nat} (h:k < t.length):(fwds t).getD k []=fwd t k:=by simp [fwds,List.getD_eq_getElem?_getD,h]
theorem fwds_ok {t:Trk} (hv:valid t):setsOk t (fwds t):=⟨fwds_len t,fun k hk=>by rw [fwds_getD hk]; exact ⟨fwd_len t k,fwd_goods hv k⟩⟩
theorem fwds_rest {t:Trk} (hv:valid t) {k:Nat} (hk:k < t.length):restR t (fwds t) k:=by
  have e:nxR t (fwds t) k=fwd t k:=by
    cases k with
    | zero=>rfl
    | succ k=>show onto _ _ _=_; rw [fwds_getD (by omega)]; rfl
  intro j hj
  rw [e,fwds_getD hk]
  exact meet_self (goods_get (fwd_goods hv k) j).1
theorem fwds_holds {t:Trk} (hv:valid t):holdsR t (fwds t):=⟨fwds_ok hv,fun k hk=>fwds_rest hv hk⟩
theorem holds_sub {t:Trk} {ps:List (List (List Sp))} (hv:valid t) (hs:setsOk t ps) (h:∀ k,k < t.length→restR t ps k) :
    ∀ (k:Nat),k < t.length→∀ j,j < wd t k→∀ v,Mem v ((fwd t k).getD j [])→Mem v ((ps.getD k []).getD j [])
  | 0,hk,j,hj,v,hm=>by
    have:=(meet_sub (goods_get (nxR_goods hv 0) j).1).1 (h 0 hk j hj)
    exact this v hm
  | k+1,hk,j,hj,v,hm=>by
    have h1:=(meet_sub (goods_get (nxR_goods hv (k+1)) j).1).1 (h (k+1) hk j hj)
    refine h1 v ?_
    have hj':j < (als t (k+1)).length:=by rw [als_len]; exact hj
    show Mem v ((onto (stp t k) (ps.getD k []) (als t (k+1))).getD j [])
    have h2:Mem v ((onto (stp t k) (fwd t k) (als t (k+1))).getD j []):=hm
    rw [onto_getD hj',onto_mem (fwd_goods hv k) (als_goods hv _) (stp_ch hv k)] at h2
    rw [onto_getD hj',onto_mem (hs.2 k (by omega)).2 (als_goods hv _) (stp_ch hv k)]
    obtain ⟨⟨g,hg,e1,u,hu,e2,e3⟩,h3⟩:=h2
    exact ⟨⟨g,hg,e1,u,holds_sub hv hs h k (by omega) g.fr (stp_ok hv hg).1 u hu,e2,e3⟩,h3⟩
theorem proof_none {t:Trk} {ps:List (List (List Sp))} (hv:valid t) (h:proofOk t ps):feas t=false:=by
  obtain ⟨hs,hh⟩:=h
  obtain ⟨h1,h2⟩:=(hold_iff hv hs).1 hh
  have hl:=hv.1
  cases hf:feas t with
  | false=>rfl
  | true =>
    exfalso
    unfold feas at hf
    obtain ⟨i,v,hi,hm⟩:=(some_iff (fwd_goods hv _)).1 hf
    rw [fwd_len] at hi
    have h3:=holds_sub hv hs h1 (t.length - 1) (by omega) i hi v hm
    have h4:=hs.2 (t.length - 1) (by omega)
    have:some' (ps.getD (t.length - 1) [])=true:=(some_iff h4.2).2 ⟨i,v,by rw [h4.1]; exact hi,h3⟩
    rw [h2] at this; cases this
theorem proof_fwds {t:Trk} (hv:valid t) (hf:feas t=false):proofOk t (fwds t):=by
  have hl:=hv.1
  refine ⟨fwds_ok hv,(hold_iff hv (fwds_ok hv)).2 ⟨fun k hk=>fwds_rest hv hk,?_⟩⟩
  rw [fwds_getD (by omega)]; exact hf
theorem Sound_spec (t:Trk) (x:Ask) (hs:trkSz t) (hx:Ask.sz x):Pure Tryz.prog 11 [trS t,.agg x.cs] (bl true):=by
  refine Pure.of_body Tryz.call11 Tryz.func11 k11 (Nat.le_of_ble_eq_true rfl) ?_
  unfold c11
  have hw:=awake_spec
  have hf:=few_spec t hs
  have hl:=light_spec x hx
  have hfe:=Feasible_spec t hs
  have hp:=Prove_spec t hs
  have hF:=Forward_spec t hs
  have hc1:=CheckProof_spec t x.sets hs hx.2.2.2
  have i1:=is_spec t x.one hs hx.1
  have hx4:=hx.2.2.2
  generalize fewB t=B1 at *
  generalize tr (Light x)=B2 at *
  obtain ⟨x1,x2,x3,⟨x4,x5⟩,one,two,lims,⟨x9,x10⟩,sets⟩:=x
  simp only at *
  cases B1 with
  | false =>
    (repeat' ((first
 | refine vn rfl ?_
 | simp (disch:=omega) only [wr64,Int.zero_sub]
 | refine bo (fun _=>?_) fun _=>?_
 | refine im fun _=>?_
 | ((repeat refine si ?_); (first | ((first | refine .inl ⟨_,_,_,_,rfl,fun _=>pu (by first | exact hw | exact hf),?_⟩ | refine ⟨_,_,_,_,rfl,fun _=>pu (by first | exact hw | exact hf),?_⟩); (first | refine o1 ?_ | refine o2 ?_ | refine o3 ?_ | refine o4 ?_)) | refine .inl ⟨_,_,_,_,rfl,pu (by first | exact hw | exact hf),?_⟩))
 | refine cF ?_
 | refine om ?_
 | refine an ?_
 | fail) <;> try simp only [zT,zV,zS,zU,vcC,lateX,ex,strp,binA,elems,cells,scalar,eqC,keyA,intsA,lookA,ofVs,mpOf,Nat.reduceBEq,reduceAdd,reduceSub,reduceLT,reduceLeDiff,reduceMul,reduceEqDiff,reduceIte]))
    all_goals exact Frz.eq rfl (by simp)
  | true =>
  cases B2 with
  | false =>
    (repeat' ((first
 | refine vn rfl ?_
 | simp (disch:=omega) only [wr64,Int.zero_sub]
 | refine bo (fun _=>?_) fun _=>?_
 | refine im fun _=>?_
 | ((repeat refine si ?_); (first | ((first | refine .inl ⟨_,_,_,_,rfl,fun _=>pu (by first | exact hw | exact hf | exact hl),?_⟩ | refine ⟨_,_,_,_,rfl,fun _=>pu (by first | exact hw | exact hf | exact hl),?_⟩); (first | refine o1 ?_ | refine o2 ?_ | refine o3 ?_ | refine o4 ?_)) | refine .inl ⟨_,_,_,_,rfl,pu (by first | exact hw | exact hf | exact hl),?_⟩))
 | refine cF ?_
 | refine om ?_
 | refine an ?_
 | fail) <;> try simp only [zT,zV,zS,zU,vcC,lateX,ex,strp,binA,elems,cells,scalar,eqC,keyA,intsA,lookA,ofVs,mpOf,Nat.reduceBEq,reduceAdd,reduceSub,reduceLT,reduceLeDiff,reduceMul,reduceEqDiff,reduceIte]))
    all_goals exact Frz.eq rfl (by simp)
  | true =>
  by_cases hv:valid t
  · rw [tr_1 hv] at hfe hF hc1
    simp only [if_true,Bool.true_and] at hfe hF hc1
    have hh1:=Holds_spec t (fwds t) hv (fwds_szV hv)
    rw [tr_1 (fwds_holds hv)] at hh1
    have hh2:=Holds_spec t sets hv hx4
    have s2:=shaped_spec t (fwds t) hs (fwds_szV hv)
    rw [tr_1 (show shaped t (fwds t) from shaped_of fun k hk=>fwd_len t k)] at s2
    have h1l:=hs.1
    have fin:∀ (σ0:Sto) (hok:holdsR t sets),True:=fun _ _=>trivial
    by_cases hok:holdsR t sets
    · rw [tr_1 hok] at hh2
      have hsub:=holds_sub hv hok.1 hok.2
      cases hfe':feas t with
      | true =>
        rw [hfe'] at hfe
        have hp0:proveE t=3:=by unfold proveE; rw [tr_1 hv,hfe']; rfl
        rw [hp0] at hp
        simp only [show ¬ (3:Int)=0 by decide,if_false] at hp
        have hno:¬ proofOk t sets:=fun h=>by rw [proof_none hv h] at hfe'; cases hfe'
        rw [tr_0 hno,if_neg (by decide)] at hc1
        (repeat' ((first
 | refine vn rfl ?_
 | simp (disch:=omega) only [wr64,Int.zero_sub]
 | refine bo (fun _=>?_) fun _=>?_
 | refine im fun _=>?_
 | ((repeat refine si ?_); (first | ((first | refine .inl ⟨_,_,_,_,rfl,fun _=>pu (by first | exact hw | exact hf | exact hl | exact hfe | exact hp | exact hc1 | exact hF | exact s2 | exact hh1 | exact hh2),?_⟩ | refine ⟨_,_,_,_,rfl,fun _=>pu (by first | exact hw | exact hf | exact hl | exact hfe | exact hp | exact hc1 | exact hF | exact s2 | exact hh1 | exact hh2),?_⟩); (first | refine o1 ?_ | refine o2 ?_ | refine o3 ?_ | refine o4 ?_)) | refine .inl ⟨_,_,_,_,rfl,pu (by first | exact hw | exact hf | exact hl | exact hfe | exact hp | exact hc1 | exact hF | exact s2 | exact hh1 | exact hh2),?_⟩))
 | refine cF ?_
 | refine om ?_
 | refine an ?_
 | fail) <;> try simp only [zT, zV, zS, zU, vcC, lateX, ex, strp, binA, elems, cells, scalar, eqC, keyA, intsA, lookA, ofVs, mpOf, Nat.reduceBEq, reduceAdd, reduceSub, reduceLT, reduceLeDiff, reduceMul, reduceEqDiff, reduceIte, bnB]))
        all_goals try (exfalso; omega)
        have ll:=fwds_len t
        refine AWPC.loopE (α:={ y:Nat // y≤t.length }) [13,14] (fun y=>[(13,n y.1)]) (fun y=>[some [⟨38,1,[[stgS []]],none⟩]]) (fun y=>t.length - y.1) ⟨0,Nat.zero_le _⟩ ?_ rfl ?_
        · (simp only [zT,zV,zS,zU,vcC,lateX,ex,strp,binA,elems,cells,scalar,eqC,keyA,intsA,lookA,ofVs,mpOf,Nat.reduceBEq,reduceAdd,reduceSub,reduceLT,reduceLeDiff,reduceMul,reduceEqDiff,reduceIte]; try simp)
        rintro ⟨k,hk⟩
        try simp only at hk
        by_cases hlt:k < t.length
        · have g1:=fwds_get (t:=t) hlt
          have w1:=fwd_len t k
          have hwl:=wd_le hv k
          have hsk:=hok.1.2 k hlt
          have hsl:=hok.1.1
          have g2:(sets.map fun l=>[nodS l]).getD k []=[nodS (sets.getD k [])]:=getD_map (getD_some (by omega))
          (repeat' ((first
 | refine vn rfl ?_
 | simp (disch:=omega) only [wr64,Int.zero_sub]
 | refine bo (fun _=>?_) fun _=>?_
 | refine im fun _=>?_
 | refine cF ?_
 | refine om ?_
 | refine an ?_
 | fail) <;> try simp only [zT, zV, zS, zU, vcC, lateX, ex, strp, binA, elems, cells, scalar, eqC, keyA, intsA, lookA, ofVs, mpOf, Nat.reduceBEq, reduceAdd, reduceSub, reduceLT, reduceLeDiff, reduceMul, reduceEqDiff, reduceIte, g1, ll, w1, fwds_len]))
          all_goals try (exfalso; omega)
          refine AWPC.loopE (α:={ y:Nat // y≤wd t k }) [14] (fun y=>[(14,n y.1)]) (fun y=>[some [⟨38,1,[[stgS []]],none⟩]]) (fun y=>wd t k - y.1) ⟨0,Nat.zero_le _⟩ ?_ rfl ?_
          · (simp only [zT,zV,zS,zU,vcC,lateX,ex,strp,binA,elems,cells,scalar,eqC,keyA,intsA,lookA,ofVs,mpOf,Nat.reduceBEq,reduceAdd,reduceSub,reduceLT,reduceLeDiff,reduceMul,reduceEqDiff,reduceIte]; try simp)
          rintro ⟨i,hi⟩
          try simp only at hi
          by_cases hlt2:i < wd t k
          · have r1:((fwd t k).map fun l=>[spS l]).getD i []=[spS ((fwd t k).getD i [])]:=getD_map (getD_some (by omega))
            have r2:((sets.getD k []).map fun l=>[spS l]).getD i []=[spS ((sets.getD k []).getD i [])]:=getD_map (getD_some (by omega))
            have q1:=goods_get (fwd_goods hv k) i
            have q2:=goods_get hsk.2 i
            have z1:=good_len q1
            have z2:=good_len q2
            have hin:=inside45_spec ((fwd t k).getD i []) ((sets.getD k []).getD i []) (by omega) (by omega)
            rw [tr_1 (insB_of q1.1.ne q2.1 fun v hm=>hsub k hlt i hlt2 v hm)] at hin
            have hw2:=hsk.1
            (repeat' ((first
 | refine vn rfl ?_
 | simp (disch:=omega) only [wr64,Int.zero_sub]
 | refine bo (fun _=>?_) fun _=>?_
 | refine im fun _=>?_
 | ((repeat refine si ?_); (first | ((first | refine .inl ⟨_,_,_,_,rfl,fun _=>pu hin,?_⟩ | refine ⟨_,_,_,_,rfl,fun _=>pu hin,?_⟩); (first | refine o1 ?_ | refine o2 ?_ | refine o3 ?_ | refine o4 ?_)) | refine .inl ⟨_,_,_,_,rfl,pu hin,?_⟩))
 | refine cF ?_
 | refine om ?_
 | refine an ?_
 | fail) <;> try simp only [zT, zV, zS, zU, vcC, lateX, ex, strp, binA, elems, cells, scalar, eqC, keyA, intsA, lookA, ofVs, mpOf, Nat.reduceBEq, reduceAdd, reduceSub, reduceLT, reduceLeDiff, reduceMul, reduceEqDiff, reduceIte, g1, g2, ll, w1, hw2, r1, r2, fwds_len, hsl]))
            all_goals try (exfalso; omega)
            exact ⟨⟨i+1,hlt2⟩,by simp,by simp only; omega⟩
          · obtain rfl:i=wd t k:=by omega
            (repeat' ((first
 | refine vn rfl ?_
 | simp (disch:=omega) only [wr64,Int.zero_sub]
 | refine bo (fun _=>?_) fun _=>?_
 | refine im fun _=>?_
 | refine cF ?_
 | refine om ?_
 | refine an ?_
 | fail) <;> try simp only [zT, zV, zS, zU, vcC, lateX, ex, strp, binA, elems, cells, scalar, eqC, keyA, intsA, lookA, ofVs, mpOf, Nat.reduceBEq, reduceAdd, reduceSub, reduceLT, reduceLeDiff, reduceMul, reduceEqDiff, reduceIte, g1, ll, w1, fwds_len]))
            all_goals try (exfalso; omega)
            exact ⟨⟨k+1,hlt⟩,by simp,by simp only; omega⟩
        · obtain rfl:k=t.length:=by omega
          (repeat' ((first
 | refine vn rfl ?_
 | simp (disch:=omega) only [wr64,Int.zero_sub]
 | refine bo (fun _=>?_) fun _=>?_
 | refine im fun _=>?_
 | refine cF ?_
 | refine om ?_
 | refine an ?_
 | fail) <;> try simp only [zT, zV, zS, zU, vcC, lateX, ex, strp, binA, elems, cells, scalar, eqC, keyA, intsA, lookA, ofVs, mpOf, Nat.reduceBEq, reduceAdd, reduceSub, reduceLT, reduceLeDiff, reduceMul, reduceEqDiff, reduceIte, ll, fwds_len]))
          all_goals try (exfalso; omega)
          all_goals exact Frz.eq rfl (by simp)
      | false =>
        rw [hfe'] at hfe
        have hp0:proveE t=0:=by unfold proveE; rw [tr_1 hv,hfe']; rfl
        rw [hp0] at hp
        simp only [if_true] at hp
        have hc2:=CheckProof_spec t (fwds t) hs (fwds_szV hv)
        rw [tr_1 hv,if_pos rfl,tr_1 (proof_fwds hv hfe'),if_pos rfl] at hc2
        rw [tr_0 (fun h=>by have:=(feas_course hv).2 ⟨_,h.2⟩; rw [hfe'] at this; cases this)] at i1
        generalize (if tr (proofOk t sets)=true then (0:Int) else 43)=E at *
        have h03:¬ (0:Int)=3:=by decide
        (repeat' ((first
 | refine vn rfl ?_
 | simp (disch:=omega) only [wr64,Int.zero_sub]
 | refine bo (fun _=>?_) fun _=>?_
 | refine im fun _=>?_
 | ((repeat refine si ?_); (first | ((first | refine .inl ⟨_,_,_,_,rfl,fun _=>pu (by first | exact hw | exact hf | exact hl | exact hfe | exact hp | exact hc1 | exact hc2 | exact i1 | exact hF | exact s2 | exact hh1 | exact hh2),?_⟩ | refine ⟨_,_,_,_,rfl,fun _=>pu (by first | exact hw | exact hf | exact hl | exact hfe | exact hp | exact hc1 | exact hc2 | exact i1 | exact hF | exact s2 | exact hh1 | exact hh2),?_⟩); (first | refine o1 ?_ | refine o2 ?_ | refine o3 ?_ | refine o4 ?_)) | refine .inl ⟨_,_,_,_,rfl,pu (by first | exact hw | exact hf | exact hl | exact hfe | exact hp | exact hc1 | exact hc2 | exact i1 | exact hF | exact s2 | exact hh1 | exact hh2),?_⟩))
 | refine cF ?_
 | refine om ?_
 | refine an ?_
 | fail) <;> try simp only [zT, zV, zS, zU, vcC, lateX, ex, strp, binA, elems, cells, scalar, eqC, keyA, intsA, lookA, ofVs, mpOf, Nat.reduceBEq, reduceAdd, reduceSub, reduceLT, reduceLeDiff, reduceMul, reduceEqDiff, reduceIte, bnB, h03]))
        all_goals try (exfalso; omega)
        have ll:=fwds_len t
        refine AWPC.loopE (α:={ y:Nat // y≤t.length }) [13,14] (fun y=>[(13,n y.1)]) (fun y=>[some [⟨38,1,[[stgS (fwds t)]],none⟩]]) (fun y=>t.length - y.1) ⟨0,Nat.zero_le _⟩ ?_ rfl ?_
        · (simp only [zT,zV,zS,zU,vcC,lateX,ex,strp,binA,elems,cells,scalar,eqC,keyA,intsA,lookA,ofVs,mpOf,Nat.reduceBEq,reduceAdd,reduceSub,reduceLT,reduceLeDiff,reduceMul,reduceEqDiff,reduceIte]; try simp)
        rintro ⟨k,hk⟩
        try simp only at hk
        by_cases hlt:k < t.length
        · have g1:=fwds_get (t:=t) hlt
          have w1:=fwd_len t k
          have hwl:=wd_le hv k
          have hsk:=hok.1.2 k hlt
          have hsl:=hok.1.1
          have g2:(sets.map fun l=>[nodS l]).getD k []=[nodS (sets.getD k [])]:=getD_map (getD_some (by omega))
          (repeat' ((first
 | refine vn rfl ?_
 | simp (disch:=omega) only [wr64,Int.zero_sub]
 | refine bo (fun _=>?_) fun _=>?_
 | refine im fun _=>?_
 | refine cF ?_
 | refine om ?_
 | refine an ?_
 | fail) <;> try simp only [zT, zV, zS, zU, vcC, lateX, ex, strp, binA, elems, cells, scalar, eqC, keyA, intsA, lookA, ofVs, mpOf, Nat.reduceBEq, reduceAdd, reduceSub, reduceLT, reduceLeDiff, reduceMul, reduceEqDiff, reduceIte, g1, ll, w1, fwds_len]))
          all_goals try (exfalso; omega)
          refine AWPC.loopE (α:={ y:Nat // y≤wd t k }) [14] (fun y=>[(14,n y.1)]) (fun y=>[some [⟨38,1,[[stgS (fwds t)]],none⟩]]) (fun y=>wd t k - y.1) ⟨0,Nat.zero_le _⟩ ?_ rfl ?_
          · (simp only [zT,zV,zS,zU,vcC,lateX,ex,strp,binA,elems,cells,scalar,eqC,keyA,intsA,lookA,ofVs,mpOf,Nat.reduceBEq,reduceAdd,reduceSub,reduceLT,reduceLeDiff,reduceMul,reduceEqDiff,reduceIte]; try simp)
          rintro ⟨i,hi⟩
          try simp only at hi
          by_cases hlt2:i < wd t k
          · have r1:((fwd t k).map fun l=>[spS l]).getD i []=[spS ((fwd t k).getD i [])]:=getD_map (getD_some (by omega))
            have r2:((sets.getD k []).map fun l=>[spS l]).getD i []=[spS ((sets.getD k []).getD i [])]:=getD_map (getD_some (by omega))
            have q1:=goods_get (fwd_goods hv k) i
            have q2:=goods_get hsk.2 i
            have z1:=good_len q1
            have z2:=good_len q2
            have hin:=inside45_spec ((fwd t k).getD i []) ((sets.getD k []).getD i []) (by omega) (by omega)
            rw [tr_1 (insB_of q1.1.ne q2.1 fun v hm=>hsub k hlt i hlt2 v hm)] at hin
            have hw2:=hsk.1
            (repeat' ((first
 | refine vn rfl ?_
 | simp (disch:=omega) only [wr64,Int.zero_sub]
 | refine bo (fun _=>?_) fun _=>?_
 | refine im fun _=>?_
 | ((repeat refine si ?_); (first | ((first | refine .inl ⟨_,_,_,_,rfl,fun _=>pu hin,?_⟩ | refine ⟨_,_,_,_,rfl,fun _=>pu hin,?_⟩); (first | refine o1 ?_ | refine o2 ?_ | refine o3 ?_ | refine o4 ?_)) | refine .inl ⟨_,_,_,_,rfl,pu hin,?_⟩))
 | refine cF ?_
 | refine om ?_
 | refine an ?_
 | fail) <;> try simp only [zT, zV, zS, zU, vcC, lateX, ex, strp, binA, elems, cells, scalar, eqC, keyA, intsA, lookA, ofVs, mpOf, Nat.reduceBEq, reduceAdd, reduceSub, reduceLT, reduceLeDiff, reduceMul, reduceEqDiff, reduceIte, g1, g2, ll, w1, hw2, r1, r2, fwds_len, hsl]))
            all_goals try (exfalso; omega)
            exact ⟨⟨i+1,hlt2⟩,by simp,by simp only; omega⟩
          · obtain rfl:i=wd t k:=by omega
            (repeat' ((first
 | refine vn rfl ?_
 | simp (disch:=omega) only [wr64,Int.zero_sub]
 | refine bo (fun _=>?_) fun _=>?_
 | refine im fun _=>?_
 | refine cF ?_
 | refine om ?_
 | refine an ?_
 | fail) <;> try simp only [zT, zV, zS, zU, vcC, lateX, ex, strp, binA, elems, cells, scalar, eqC, keyA, intsA, lookA, ofVs, mpOf, Nat.reduceBEq, reduceAdd, reduceSub, reduceLT, reduceLeDiff, reduceMul, reduceEqDiff, reduceIte, g1, ll, w1, fwds_len]))
            all_goals try (exfalso; omega)
            exact ⟨⟨k+1,hlt⟩,by simp,by simp only; omega⟩
        · obtain rfl:k=t.length:=by omega
          (repeat' ((first
 | refine vn rfl ?_
 | simp (disch:=omega) only [wr64,Int.zero_sub]
 | refine bo (fun _=>?_) fun _=>?_
 | refine im fun _=>?_
 | refine cF ?_
 | refine om ?_
 | refine an ?_
 | fail) <;> try simp only [zT, zV, zS, zU, vcC, lateX, ex, strp, binA, elems, cells, scalar, eqC, keyA, intsA, lookA, ofVs, mpOf, Nat.reduceBEq, reduceAdd, reduceSub, reduceLT, reduceLeDiff, reduceMul, reduceEqDiff, reduceIte, ll, fwds_len]))
          all_goals try (exfalso; omega)
          all_goals exact Frz.eq rfl (by simp)
    · rw [tr_0 hok] at hh2
      cases hfe':feas t with
      | true =>
        rw [hfe'] at hfe
        have hp0:proveE t=3:=by unfold proveE; rw [tr_1 hv,hfe']; rfl
        rw [hp0] at hp
        simp only [show ¬ (3:Int)=0 by decide,if_false] at hp
        have hno:¬ proofOk t sets:=fun h=>by rw [proof_none hv h] at hfe'; cases hfe'
        rw [tr_0 hno,if_neg (by decide)] at hc1
        (repeat' ((first
 | refine vn rfl ?_
 | simp (disch:=omega) only [wr64,Int.zero_sub]
 | refine bo (fun _=>?_) fun _=>?_
 | refine im fun _=>?_
 | ((repeat refine si ?_); (first | ((first | refine .inl ⟨_,_,_,_,rfl,fun _=>pu (by first | exact hw | exact hf | exact hl | exact hfe | exact hp | exact hc1 | exact hF | exact s2 | exact hh1 | exact hh2),?_⟩ | refine ⟨_,_,_,_,rfl,fun _=>pu (by first | exact hw | exact hf | exact hl | exact hfe | exact hp | exact hc1 | exact hF | exact s2 | exact hh1 | exact hh2),?_⟩); (first | refine o1 ?_ | refine o2 ?_ | refine o3 ?_ | refine o4 ?_)) | refine .inl ⟨_,_,_,_,rfl,pu (by first | exact hw | exact hf | exact hl | exact hfe | exact hp | exact hc1 | exact hF | exact s2 | exact hh1 | exact hh2),?_⟩))
 | refine cF ?_
 | refine om ?_
 | refine an ?_
 | fail) <;> try simp only [zT, zV, zS, zU, vcC, lateX, ex, strp, binA, elems, cells, scalar, eqC, keyA, intsA, lookA, ofVs, mpOf, Nat.reduceBEq, reduceAdd, reduceSub, reduceLT, reduceLeDiff, reduceMul, reduceEqDiff, reduceIte, bnB]))
        all_goals try (exfalso; omega)
        all_goals exact Frz.eq rfl (by simp)
      | false =>
        rw [hfe'] at hfe
        have hp0:proveE t=0:=by unfold proveE; rw [tr_1 hv,hfe']; rfl
        rw [hp0] at hp
        simp only [if_true] at hp
        have hc2:=CheckProof_spec t (fwds t) hs (fwds_szV hv)
        rw [tr_1 hv,if_pos rfl,tr_1 (proof_fwds hv hfe'),if_pos rfl] at hc2
        rw [tr_0 (fun h=>by have:=(feas_course hv).2 ⟨_,h.2⟩; rw [hfe'] at this; cases this)] at i1
        generalize (if tr (proofOk t sets)=true then (0:Int) else 43)=E at *
        have h03:¬ (0:Int)=3:=by decide
        (repeat' ((first
 | refine vn rfl ?_
 | simp (disch:=omega) only [wr64,Int.zero_sub]
 | refine bo (fun _=>?_) fun _=>?_
 | refine im fun _=>?_
 | ((repeat refine si ?_); (first | ((first | refine .inl ⟨_,_,_,_,rfl,fun _=>pu (by first | exact hw | exact hf | exact hl | exact hfe | exact hp | exact hc1 | exact hc2 | exact i1 | exact hF | exact s2 | exact hh1 | exact hh2),?_⟩ | refine ⟨_,_,_,_,rfl,fun _=>pu (by first | exact hw | exact hf | exact hl | exact hfe | exact hp | exact hc1 | exact hc2 | exact i1 | exact hF | exact s2 | exact hh1 | exact hh2),?_⟩); (first | refine o1 ?_ | refine o2 ?_ | refine o3 ?_ | refine o4 ?_)) | refine .inl ⟨_,_,_,_,rfl,pu (by first | exact hw | exact hf | exact hl | exact hfe | exact hp | exact hc1 | exact hc2 | exact i1 | exact hF | exact s2 | exact hh1 | exact hh2),?_⟩))
 | refine cF ?_
 | refine om ?_
 | refine an ?_
 | fail) <;> try simp only [zT, zV, zS, zU, vcC, lateX, ex, strp, binA, elems, cells, scalar, eqC, keyA, intsA, lookA, ofVs, mpOf, Nat.reduceBEq, reduceAdd, reduceSub, reduceLT, reduceLeDiff, reduceMul, reduceEqDiff, reduceIte, bnB, h03]))
        all_goals try (exfalso; omega)
        all_goals exact Frz.eq rfl (by simp)
  · have hp0:proveE t=40:=by unfold proveE; rw [tr_0 hv]; rfl
    rw [hp0] at hp
    rw [tr_0 hv] at hfe hc1
    simp only [Bool.false_eq_true,if_false,Bool.false_and,show ¬ (40:Int)=0 by decide] at hfe hc1 hp
    (repeat' ((first
 | refine vn rfl ?_
 | simp (disch:=omega) only [wr64,Int.zero_sub]
 | refine bo (fun _=>?_) fun _=>?_
 | refine im fun _=>?_
 | ((repeat refine si ?_); (first | ((first | refine .inl ⟨_,_,_,_,rfl,fun _=>pu (by first | exact hw | exact hf | exact hl | exact hfe | exact hp | exact hc1),?_⟩ | refine ⟨_,_,_,_,rfl,fun _=>pu (by first | exact hw | exact hf | exact hl | exact hfe | exact hp | exact hc1),?_⟩); (first | refine o1 ?_ | refine o2 ?_ | refine o3 ?_ | refine o4 ?_)) | refine .inl ⟨_,_,_,_,rfl,pu (by first | exact hw | exact hf | exact hl | exact hfe | exact hp | exact hc1),?_⟩))
 | refine cF ?_
 | refine om ?_
 | refine an ?_
 | fail) <;> try simp only [zT,zV,zS,zU,vcC,lateX,ex,strp,binA,elems,cells,scalar,eqC,keyA,intsA,lookA,ofVs,mpOf,Nat.reduceBEq,reduceAdd,reduceSub,reduceLT,reduceLeDiff,reduceMul,reduceEqDiff,reduceIte]))
    all_goals try (exfalso; omega)
    all_goals exact Frz.eq rfl (by simp)
end Go.Proofs.YtahkhnagpdlkiaaGreat
