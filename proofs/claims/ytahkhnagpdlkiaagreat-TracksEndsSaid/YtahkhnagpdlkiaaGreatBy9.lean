/- Part 9 of the texts that the claim rests on: abstract values over the walk, and contracts of functions. -/
import Derived.Test.YtahkhnagpdlkiaaGreatBy8
import Derived.Test.YtahkhnagpdlkiaaGreatRows
import Derived.WalkKit
import Derived.ProofKit
import Derived.OpenShut
import Derived.ShutString
import Derived.ChangeOld
import Derived.Below
namespace Go.Proofs.YtahkhnagpdlkiaaGreat
open Go.Abs
open Nat (reduceAdd reduceSub reduceLT reduceLeDiff reduceMul reduceEqDiff)
set_option linter.unusedVariables false
set_option linter.unusedSimpArgs false
set_option maxHeartbeats 4000000
set_option maxRecDepth 100000
open Go.ChangeShapes Go.WideShapes Go.ChangeAt Go.RowKit
theorem own:ownKnob Tryz.prog.godebug=none:=by kernel_rfl
theorem laidOut:laidOutB Tryz.prog=true:=by kernel_rfl
theorem cells3:Tryz.prog.cellsOf 3=1:=by kernel_rfl
theorem cells30:Tryz.prog.cellsOf 30=2:=by kernel_rfl
theorem cells45:Tryz.prog.cellsOf 45=1:=by kernel_rfl
theorem cells124:Tryz.prog.cellsOf 124=3:=by kernel_rfl
theorem cells78:Tryz.prog.cellsOf 78=1:=by kernel_rfl
theorem cells80:Tryz.prog.cellsOf 80=2:=by kernel_rfl
theorem cells68:Tryz.prog.cellsOf 68=1:=by kernel_rfl
theorem cells22:Tryz.prog.cellsOf 22=1:=by kernel_rfl
theorem cells24:Tryz.prog.cellsOf 24=1:=by kernel_rfl
theorem cells61:Tryz.prog.cellsOf 61=1:=by kernel_rfl
theorem cells31:Tryz.prog.cellsOf 31=1:=by kernel_rfl
theorem cells26:Tryz.prog.cellsOf 26=2:=by kernel_rfl
theorem cells27:Tryz.prog.cellsOf 27=1:=by kernel_rfl
theorem cells65:Tryz.prog.cellsOf 65=2:=by kernel_rfl
theorem cells28:Tryz.prog.cellsOf 28=1:=by kernel_rfl
theorem cells33:Tryz.prog.cellsOf 33=11:=by kernel_rfl
theorem op3:Opens Tryz.prog 3 Int (fun z=>[n z]) (fun _=>True):=(opens_int Tryz.underlying3).to id (fun _=>rfl) (fun _ _=>trivial)
theorem op30:Opens Tryz.prog 30 Sp Sp.cs (fun _=>True) :=
  (opens_struct Tryz.underlying30 cells30 (fun _=>rfl) (opensF_cons rfl cells3 op3 (fun _=>rfl) (opensF_cons rfl cells3 op3 (fun _=>rfl) (opensF_nil _)))).to (fun a=>⟨a.1,a.2.1⟩) (fun _=>rfl) (fun _ _=>trivial)
theorem op45:Opens Tryz.prog 45 (List Sp) (fun l=>[spS l]) (fun l=>l.length < 9223372036854775808) :=
  (opens_slice Tryz.underlying45 cells30 (by decide) op30 (fun _=>rfl)).to id (fun _=>rfl) (fun _ h=>h.1)
theorem op124:Opens Tryz.prog 124 Edg Edg.cs (fun _=>True) :=
  (opens_struct Tryz.underlying124 cells124 (fun _=>rfl) (opensF_cons rfl cells3 op3 (fun _=>rfl) (opensF_cons rfl cells30 op30 (fun _=>rfl) (opensF_nil _)))).to (fun a=>⟨a.1,a.2.1⟩) (fun _=>rfl) (fun _ _=>trivial)
theorem op78:Opens Tryz.prog 78 (List Edg) (fun l=>[edS l]) (fun l=>l.length < 9223372036854775808) :=
  (opens_slice Tryz.underlying78 cells124 (by decide) op124 (fun _=>rfl)).to id (fun _=>rfl) (fun _ h=>h.1)
theorem op80:Opens Tryz.prog 80 Nod Nod.cs nodSz :=
  (opens_struct Tryz.underlying80 cells80 (fun _=>rfl) (opensF_cons rfl cells45 op45 (fun _=>rfl) (opensF_cons rfl cells78 op78 (fun _=>rfl) (opensF_nil _)))).to (fun a=>⟨a.1,a.2.1⟩) (fun _=>rfl) (fun _ h=>⟨h.1,h.2.1⟩)
theorem op68:Opens Tryz.prog 68 (List Nod) (fun l=>[stS l]) stgSz :=
  (opens_slice Tryz.underlying68 cells80 (by decide) op80 (fun _=>rfl)).to id (fun _=>rfl) (fun _ h=>h)
theorem op22:Opens Tryz.prog 22 Trk (fun l=>[tkS l]) trkSz :=
  (opens_slice Tryz.underlying22 cells68 (by decide) op68 (fun _=>rfl)).to id (fun _=>rfl) (fun _ h=>h)
theorem op24:Opens Tryz.prog 24 Trk (fun l=>[tkS l]) trkSz :=
  (opens_struct Tryz.underlying24 cells24 (fun _=>rfl) (opensF_cons rfl cells22 op22 (fun _=>rfl) (opensF_nil _))).to (fun a=>a.1) (fun _=>rfl) (fun _ h=>h.1)
theorem op61:Opens Tryz.prog 61 (List (List Sp)) (fun l=>[nodS l]) (fun l=>l.length < 9223372036854775808∧∀ x∈l,x.length < 9223372036854775808) :=
  (opens_slice Tryz.underlying61 cells45 (by decide) op45 (fun _=>rfl)).to id (fun _=>rfl) (fun _ h=>h)
theorem op31:Opens Tryz.prog 31 (List (List (List Sp))) (fun l=>[stgS l]) setsSz :=
  (opens_slice Tryz.underlying31 cells61 (by decide) op61 (fun _=>rfl)).to id (fun _=>rfl) (fun _ h=>h)
theorem op26:Opens Tryz.prog 26 At At.cs (fun _=>True) :=
  (opens_struct Tryz.underlying26 cells26 (fun _=>rfl) (opensF_cons rfl cells3 op3 (fun _=>rfl) (opensF_cons rfl cells3 op3 (fun _=>rfl) (opensF_nil _)))).to (fun a=>⟨a.1,a.2.1⟩) (fun _=>rfl) (fun _ _=>trivial)
theorem op27:Opens Tryz.prog 27 (List At) (fun l=>[atS l]) (fun l=>l.length < 9223372036854775808) :=
  (opens_slice Tryz.underlying27 cells26 (by decide) op26 (fun _=>rfl)).to id (fun _=>rfl) (fun _ h=>h.1)
theorem op65:Opens Tryz.prog 65 Lim Lim.cs (fun x=>x.vs.length < 9223372036854775808) :=
  (opens_struct Tryz.underlying65 cells65 (fun _=>rfl) (opensF_cons rfl cells3 op3 (fun _=>rfl) (opensF_cons rfl cells45 op45 (fun _=>rfl) (opensF_nil _)))).to (fun a=>⟨a.1,a.2.1⟩) (fun _=>rfl) (fun _ h=>h.2.1)
theorem op28:Opens Tryz.prog 28 (List Lim) (fun l=>[liS l]) limSz :=
  (opens_slice Tryz.underlying28 cells65 (by decide) op65 (fun _=>rfl)).to id (fun _=>rfl) (fun _ h=>h)
structure Ask where
  stage:Int
  to:Int
  first:Int
  pl:At
  one:List At
  two:List At
  lims:List Lim
  ch:Sp
  sets:List (List (List Sp))
abbrev Ask.cs (x:Ask):List AV:=[n x.stage,n x.to,n x.first,n x.pl.node,n x.pl.val,atS x.one,atS x.two,liS x.lims,n x.ch.lo,n x.ch.hi,stgS x.sets]
def Ask.sz (x:Ask):Prop:=x.one.length < 9223372036854775808∧x.two.length < 9223372036854775808∧limSz x.lims∧setsSz x.sets
theorem op33:Opens Tryz.prog 33 Ask Ask.cs Ask.sz :=
  (opens_struct Tryz.underlying33 cells33 (fun _=>rfl) (opensF_cons rfl cells3 op3 (fun _=>rfl) (opensF_cons rfl cells3 op3 (fun _=>rfl) (opensF_cons rfl cells3 op3 (fun _=>rfl) (opensF_cons rfl cells26 op26 (fun _=>rfl) (opensF_cons rfl cells27 op27 (fun _=>rfl) (opensF_cons rfl cells27 op27 (fun _=>rfl) (opensF_cons rfl cells28 op28 (fun _=>rfl) (opensF_cons rfl cells30 op30 (fun _=>rfl) (opensF_cons rfl cells31 op31 (fun _=>rfl) (opensF_nil _))))))))))).to (fun a=>⟨a.1,a.2.1,a.2.2.1,a.2.2.2.1,a.2.2.2.2.1,a.2.2.2.2.2.1,a.2.2.2.2.2.2.1,a.2.2.2.2.2.2.2.1,a.2.2.2.2.2.2.2.2.1⟩) (fun _=>rfl) (fun _ h=>⟨h.2.2.2.2.1,h.2.2.2.2.2.1,h.2.2.2.2.2.2.1,h.2.2.2.2.2.2.2.2.1⟩)
section
variable {H:Type} {enc:TypeId × Value→H} {w:World} {r:Reach} {base b0:Nat} {sp:Nat→Bool} {held:Bool} {v:Value} {d:DataW H} {ps:List MemPlace}
theorem open_trk (h:Value.okWide Tryz.prog w r base 24 v) (hx:DataW.Trod enc Tryz.prog w b0 sp held 24 v d ps):∃ l:Trk,trkSz l∧RV w (fun _=>False) nob [] (trS l) v:=by
  obtain ⟨cs,rfl,_⟩:=okWide_struct Tryz.underlying24 h
  exact op24.agg hx
theorem open_ask (h:Value.okWide Tryz.prog w r base 33 v) (hx:DataW.Trod enc Tryz.prog w b0 sp held 33 v d ps):∃ l:Ask,Ask.sz l∧RV w (fun _=>False) nob [] (.agg l.cs) v:=by
  obtain ⟨cs,rfl,_⟩:=okWide_struct Tryz.underlying33 h
  exact op33.agg hx
end
end Go.Proofs.YtahkhnagpdlkiaaGreat
namespace Go.Proofs.YtahkhnagpdlkiaaGreat
open Go.Abs
open Nat (reduceAdd reduceSub reduceLT reduceLeDiff reduceMul reduceEqDiff)
set_option linter.unusedVariables false
set_option linter.unusedSimpArgs false
set_option maxHeartbeats 4000000
set_option maxRecDepth 100000
def c18:CF:=⟨77,
 (.seq (.ops [
 ⟨some 1,.box false 33 11 (.t 0),none⟩,
 ⟨some 2,.mv (.c (.bool false)),none⟩] [1])
 (.seq (.seq (.ops [
 ⟨some 6,.faddr 5 (.t 1),none⟩,
 ⟨some 7,.load none (.t 6),none⟩,
 ⟨some 8,.len (.t 7),none⟩,
 ⟨some 9,.bin .gtr (.t 8) (.c (.int .i64 500)),none⟩,
 ⟨some 10,.mv (.t 9),none⟩,
 ⟨some 11,.faddr 6 (.t 1),some (10,false)⟩,
 ⟨some 12,.load none (.t 11),some (10,false)⟩,
 ⟨some 13,.len (.t 12),some (10,false)⟩,
 ⟨some 14,.bin .gtr (.t 13) (.c (.int .i64 500)),some (10,false)⟩,
 ⟨some 15,.pick (.t 10) (.c (.bool true)) (.t 14),none⟩,
 ⟨some 16,.mv (.t 15),none⟩,
 ⟨some 17,.faddr 7 (.t 1),some (16,false)⟩,
 ⟨some 18,.load none (.t 17),some (16,false)⟩,
 ⟨some 19,.len (.t 18),some (16,false)⟩,
 ⟨some 20,.bin .gtr (.t 19) (.c (.int .i64 12)),some (16,false)⟩,
 ⟨some 21,.pick (.t 16) (.c (.bool true)) (.t 20),none⟩,
 ⟨some 22,.mv (.t 21),none⟩,
 ⟨some 23,.faddr 10 (.t 1),some (22,false)⟩,
 ⟨some 24,.load none (.t 23),some (22,false)⟩,
 ⟨some 25,.len (.t 24),some (22,false)⟩,
 ⟨some 26,.bin .gtr (.t 25) (.c (.int .i64 12)),some (22,false)⟩,
 ⟨some 27,.pick (.t 22) (.c (.bool true)) (.t 26),none⟩] [1,27])
 (.cond (.t 27) (.seq (.ops [
 ⟨some 2,.mv (.c (.bool false)),none⟩] [2])
 .ret)
 .skip))
 (.seq (.seq (.ops [
 ⟨some 3,.mv (.c (.int .i64 0)),none⟩] [1,3])
 (.block 0 (.loop (.seq (.seq (.ops [
 ⟨some 28,.mv (.t 3),none⟩,
 ⟨some 29,.faddr 7 (.t 1),none⟩,
 ⟨some 30,.load none (.t 29),none⟩,
 ⟨some 31,.len (.t 30),none⟩,
 ⟨some 32,.bin .lss (.t 28) (.t 31),none⟩] [1,3,32])
 (.cond (.t 32) .skip
 (.exit 0)))
 (.seq (.block 1 (.seq (.ops [
 ⟨some 35,.faddr 7 (.t 1),none⟩,
 ⟨some 36,.load none (.t 35),none⟩,
 ⟨some 37,.mv (.t 3),none⟩,
 ⟨some 38,.iaddr 2 (.t 36) (.t 37),none⟩,
 ⟨some 39,.faddr 1 (.t 38),none⟩,
 ⟨some 40,.load none (.t 39),none⟩,
 ⟨some 41,.call (.f 24) [(.t 40)],none⟩,
 ⟨some 42,.un .not (.t 41),none⟩] [1,3,42])
 (.cond (.t 42) (.seq (.ops [
 ⟨some 2,.mv (.c (.bool false)),none⟩] [2])
 .ret)
 .skip)))
 (.ops [
 ⟨some 33,.mv (.t 3),none⟩,
 ⟨some 34,.bin .add (.t 33) (.c (.int .i64 1)),none⟩,
 ⟨some 3,.mv (.t 34),none⟩] [1,3]))))))
 (.seq (.seq (.ops [
 ⟨some 4,.mv (.c (.int .i64 0)),none⟩] [1,4])
 (.block 2 (.loop (.seq (.seq (.ops [
 ⟨some 43,.mv (.t 4),none⟩,
 ⟨some 44,.faddr 10 (.t 1),none⟩,
 ⟨some 45,.load none (.t 44),none⟩,
 ⟨some 46,.len (.t 45),none⟩,
 ⟨some 47,.bin .lss (.t 43) (.t 46),none⟩] [1,4,47])
 (.cond (.t 47) .skip
 (.exit 2)))
 (.seq (.block 3 (.seq (.seq (.ops [
 ⟨some 50,.faddr 10 (.t 1),none⟩,
 ⟨some 51,.load none (.t 50),none⟩,
 ⟨some 52,.mv (.t 4),none⟩,
 ⟨some 53,.iaddr 1 (.t 51) (.t 52),none⟩,
 ⟨some 54,.load none (.t 53),none⟩,
 ⟨some 55,.len (.t 54),none⟩,
 ⟨some 56,.bin .gtr (.t 55) (.c (.int .i64 12)),none⟩] [1,4,56])
 (.cond (.t 56) (.seq (.ops [
 ⟨some 2,.mv (.c (.bool false)),none⟩] [2])
 .ret)
 .skip))
 (.seq (.ops [
 ⟨some 5,.mv (.c (.int .i64 0)),none⟩] [1,4,5])
 (.block 4 (.loop (.seq (.seq (.ops [
 ⟨some 57,.mv (.t 5),none⟩,
 ⟨some 58,.faddr 10 (.t 1),none⟩,
 ⟨some 59,.load none (.t 58),none⟩,
 ⟨some 60,.mv (.t 4),none⟩,
 ⟨some 61,.iaddr 1 (.t 59) (.t 60),none⟩,
 ⟨some 62,.load none (.t 61),none⟩,
 ⟨some 63,.len (.t 62),none⟩,
 ⟨some 64,.bin .lss (.t 57) (.t 63),none⟩] [1,4,5,64])
 (.cond (.t 64) .skip
 (.exit 4)))
 (.seq (.block 5 (.seq (.ops [
 ⟨some 67,.faddr 10 (.t 1),none⟩,
 ⟨some 68,.load none (.t 67),none⟩,
 ⟨some 69,.mv (.t 4),none⟩,
 ⟨some 70,.iaddr 1 (.t 68) (.t 69),none⟩,
 ⟨some 71,.load none (.t 70),none⟩,
 ⟨some 72,.mv (.t 5),none⟩,
 ⟨some 73,.iaddr 1 (.t 71) (.t 72),none⟩,
 ⟨some 74,.load none (.t 73),none⟩,
 ⟨some 75,.len (.t 74),none⟩,
 ⟨some 76,.bin .gtr (.t 75) (.c (.int .i64 40)),none⟩] [1,4,5,76])
 (.cond (.t 76) (.seq (.ops [
 ⟨some 2,.mv (.c (.bool false)),none⟩] [2])
 .ret)
 .skip)))
 (.ops [
 ⟨some 65,.mv (.t 5),none⟩,
 ⟨some 66,.bin .add (.t 65) (.c (.int .i64 1)),none⟩,
 ⟨some 5,.mv (.t 66),none⟩] [1,4,5]))))))))
 (.ops [
 ⟨some 48,.mv (.t 4),none⟩,
 ⟨some 49,.bin .add (.t 48) (.c (.int .i64 1)),none⟩,
 ⟨some 4,.mv (.t 49),none⟩] [1,4]))))))
 (.seq (.ops [
 ⟨some 2,.mv (.c (.bool true)),none⟩] [2])
 .ret))))),
 [.t 2]⟩
theorem k18:chkF Tryz.prog Tryz.f18 c18=true:=by kernel_rfl
abbrev bulky (x:Ask):Prop:=((500 < x.one.length∨500 < x.two.length)∨12 < x.lims.length)∨12 < x.sets.length
abbrev briefL (l:List Sp):Prop:=l.length≤12∨64 < l.length∧l.length≤128
structure Light (x:Ask):Prop where
  no:¬ bulky x
  lims:∀ y∈x.lims,briefL y.vs
  sets:∀ l∈x.sets,l.length≤12∧∀ s∈l,s.length≤40
theorem light_spec (x:Ask) (hs:Ask.sz x):Pure Tryz.prog 18 [.agg x.cs] (bl (tr (Light x))):=by
  refine Pure.of_body Tryz.call18 Tryz.func18 k18 (Nat.le_of_ble_eq_true rfl) ?_
  unfold c18
  have hno:¬ Light x→tr (Light x)=false:=tr_0
  obtain ⟨s1,s2,⟨s3,s4⟩,s5,s6⟩:=hs
  have hb:=fun (h:bulky x)=>hno fun g=>g.no h
  have hli:=fun (y:Lim) (hy:y∈x.lims) (h:¬ briefL y.vs)=>hno fun g=>h (g.lims y hy)
  have hse:=fun (l:List (List Sp)) (hl:l∈x.sets) (h:¬ l.length≤12)=>hno fun g=>h (g.sets l hl).1
  have hss:=fun (l:List (List Sp)) (hl:l∈x.sets) (s:List Sp) (hs:s∈l) (h:¬ s.length≤40)=>hno fun g=>h ((g.sets l hl).2 s hs)
  have hok:=fun (h:¬ bulky x) (h2:∀ y∈x.lims,briefL y.vs) (h3:∀ l∈x.sets,l.length≤12∧∀ s∈l,s.length≤40)=>(tr_1 (Light.mk h h2 h3):tr (Light x)=true)
  generalize tr (Light x)=R at *
  clear hno
  obtain ⟨a1,a2,a3,⟨a4,a5⟩,a6,a7,a8,⟨a9,b1⟩,b2⟩:=x
  try simp only at s1 s2 s3 s4 s5 s6 hb hli hse hss hok
  (repeat' ((first
 | refine vn rfl ?_
 | simp (disch:=omega) only [wr64,Int.zero_sub]
 | refine bo (fun _=>?_) fun _=>?_
 | refine im fun _=>?_
 | refine cF ?_
 | refine om ?_
 | refine an ?_
 | fail) <;> try simp only [zT,zV,zS,zU,vcC,lateX,ex,strp,binA,elems,cells,scalar,eqC,keyA,intsA,lookA,ofVs,mpOf,Nat.reduceBEq,reduceAdd,reduceSub,reduceLT,reduceLeDiff,reduceMul,reduceEqDiff,reduceIte]))
  all_goals try (exfalso; omega)
  · rename_i h
    rw [hb (by unfold bulky; simp only; omega)]
    exact Frz.eq rfl (by simp)
  rename_i h
  have hnb:¬ bulky ⟨a1,a2,a3,⟨a4,a5⟩,a6,a7,a8,⟨a9,b1⟩,b2⟩:=by unfold bulky; simp only; omega
  refine AWPC.loopE (α:={ y:Nat // y≤a8.length∧∀ z∈a8.take y,briefL z.vs }) [3] (fun y=>[(3,n y.1)]) (fun y=>[]) (fun y=>a8.length - y.1) ⟨0,Nat.zero_le _,by simp⟩ ?_ rfl ?_
  · (simp only [zT,zV,zS,zU,vcC,lateX,ex,strp,binA,elems,cells,scalar,eqC,keyA,intsA,lookA,ofVs,mpOf,Nat.reduceBEq,reduceAdd,reduceSub,reduceLT,reduceLeDiff,reduceMul,reduceEqDiff,reduceIte]; try simp)
  rintro ⟨i,hi,hI⟩
  try simp only at hi hI
  try simp only
  by_cases hlt:i < a8.length
  · obtain ⟨y,hy⟩:∃ y,a8[i]?=some y:=⟨_,List.getElem?_eq_getElem hlt⟩
    have hym:=List.mem_of_getElem? hy
    have hsn:=take_snoc hy
    have hbr:=brief_spec y.vs
    by_cases hb:briefL y.vs
    · rw [decide_eq_true hb] at hbr
      (repeat' ((first
 | refine vn rfl ?_
 | simp (disch:=omega) only [wr64,Int.zero_sub]
 | refine bo (fun _=>?_) fun _=>?_
 | refine im fun _=>?_
 | ((repeat refine si ?_); (first | ((first | refine .inl ⟨_,_,_,_,rfl,fun _=>pu hbr,?_⟩ | refine ⟨_,_,_,_,rfl,fun _=>pu hbr,?_⟩); (first | refine o1 ?_ | refine o2 ?_ | refine o3 ?_ | refine o4 ?_)) | refine .inl ⟨_,_,_,_,rfl,pu hbr,?_⟩))
 | refine cF ?_
 | refine om ?_
 | refine an ?_
 | fail) <;> try simp only [zT,zV,zS,zU,vcC,lateX,ex,strp,binA,elems,cells,scalar,eqC,keyA,intsA,lookA,ofVs,mpOf,Nat.reduceBEq,reduceAdd,reduceSub,reduceLT,reduceLeDiff,reduceMul,reduceEqDiff,reduceIte,getD_map hy]))
      all_goals try (exfalso; omega)
      exact ⟨⟨i+1,hlt,fun z hz=>by
        rw [hsn] at hz
        rcases List.mem_append.1 hz with h | h
        · exact hI z h
        · rw [List.mem_singleton.1 h]; exact hb⟩,rfl,by simp only; omega⟩
    · rw [decide_eq_false hb] at hbr
      (repeat' ((first
 | refine vn rfl ?_
 | simp (disch:=omega) only [wr64,Int.zero_sub]
 | refine bo (fun _=>?_) fun _=>?_
 | refine im fun _=>?_
 | ((repeat refine si ?_); (first | ((first | refine .inl ⟨_,_,_,_,rfl,fun _=>pu hbr,?_⟩ | refine ⟨_,_,_,_,rfl,fun _=>pu hbr,?_⟩); (first | refine o1 ?_ | refine o2 ?_ | refine o3 ?_ | refine o4 ?_)) | refine .inl ⟨_,_,_,_,rfl,pu hbr,?_⟩))
 | refine cF ?_
 | refine om ?_
 | refine an ?_
 | fail) <;> try simp only [zT,zV,zS,zU,vcC,lateX,ex,strp,binA,elems,cells,scalar,eqC,keyA,intsA,lookA,ofVs,mpOf,Nat.reduceBEq,reduceAdd,reduceSub,reduceLT,reduceLeDiff,reduceMul,reduceEqDiff,reduceIte,getD_map hy]))
      all_goals try (exfalso; omega)
      rw [hli y hym hb]
      exact Frz.eq rfl (by simp)
  · obtain rfl:i=a8.length:=by omega
    rw [List.take_length] at hI
    (repeat' ((first
 | refine vn rfl ?_
 | simp (disch:=omega) only [wr64,Int.zero_sub]
 | refine bo (fun _=>?_) fun _=>?_
 | refine im fun _=>?_
 | refine cF ?_
 | refine om ?_
 | refine an ?_
 | fail) <;> try simp only [zT,zV,zS,zU,vcC,lateX,ex,strp,binA,elems,cells,scalar,eqC,keyA,intsA,lookA,ofVs,mpOf,Nat.reduceBEq,reduceAdd,reduceSub,reduceLT,reduceLeDiff,reduceMul,reduceEqDiff,reduceIte]))
    all_goals try (exfalso; omega)
    refine AWPC.loopE (α:={ y:Nat // y≤b2.length∧∀ l∈b2.take y,l.length≤12∧∀ s∈l,s.length≤40 }) [4] (fun y=>[(4,n y.1)]) (fun y=>[]) (fun y=>b2.length - y.1) ⟨0,Nat.zero_le _,by simp⟩ ?_ rfl ?_
    · (simp only [zT,zV,zS,zU,vcC,lateX,ex,strp,binA,elems,cells,scalar,eqC,keyA,intsA,lookA,ofVs,mpOf,Nat.reduceBEq,reduceAdd,reduceSub,reduceLT,reduceLeDiff,reduceMul,reduceEqDiff,reduceIte]; try simp)
    rintro ⟨k,hk,hK⟩
    try simp only at hk hK
    try simp only
    by_cases hlt:k < b2.length
    · obtain ⟨l,hl⟩:∃ l,b2[k]?=some l:=⟨_,List.getElem?_eq_getElem hlt⟩
      have hlm:=List.mem_of_getElem? hl
      have hsn:=take_snoc hl
      have gl:(b2.map fun l=>[nodS l]).getD k []=[nodS l]:=getD_map hl
      obtain ⟨l1,l2⟩:=s6 l hlm
      (repeat' ((first
 | refine vn rfl ?_
 | simp (disch:=omega) only [wr64,Int.zero_sub]
 | refine bo (fun _=>?_) fun _=>?_
 | refine im fun _=>?_
 | refine cF ?_
 | refine om ?_
 | refine an ?_
 | fail) <;> try simp only [zT,zV,zS,zU,vcC,lateX,ex,strp,binA,elems,cells,scalar,eqC,keyA,intsA,lookA,ofVs,mpOf,Nat.reduceBEq,reduceAdd,reduceSub,reduceLT,reduceLeDiff,reduceMul,reduceEqDiff,reduceIte,gl]))
      all_goals try (exfalso; omega)
      · rename_i h
        rw [hse l hlm (by omega)]
        exact Frz.eq rfl (by simp)
      rename_i h12
      refine AWPC.loopE (α:={ y:Nat // y≤l.length∧∀ s∈l.take y,s.length≤40 }) [5] (fun y=>[(5,n y.1)]) (fun y=>[]) (fun y=>l.length - y.1) ⟨0,Nat.zero_le _,by simp⟩ ?_ rfl ?_
      · (simp only [zT,zV,zS,zU,vcC,lateX,ex,strp,binA,elems,cells,scalar,eqC,keyA,intsA,lookA,ofVs,mpOf,Nat.reduceBEq,reduceAdd,reduceSub,reduceLT,reduceLeDiff,reduceMul,reduceEqDiff,reduceIte]; try simp)
      rintro ⟨j,hj,hJ⟩
      try simp only at hj hJ
      try simp only
      by_cases hlt2:j < l.length
      · obtain ⟨s,hs⟩:∃ s,l[j]?=some s:=⟨_,List.getElem?_eq_getElem hlt2⟩
        have hsm:=List.mem_of_getElem? hs
        have hsn2:=take_snoc hs
        have gs:(l.map fun l=>[spS l]).getD j []=[spS s]:=getD_map hs
        have hsl:=l2 s hsm
        (repeat' ((first
 | refine vn rfl ?_
 | simp (disch:=omega) only [wr64,Int.zero_sub]
 | refine bo (fun _=>?_) fun _=>?_
 | refine im fun _=>?_
 | refine cF ?_
 | refine om ?_
 | refine an ?_
 | fail) <;> try simp only [zT, zV, zS, zU, vcC, lateX, ex, strp, binA, elems, cells, scalar, eqC, keyA, intsA, lookA, ofVs, mpOf, Nat.reduceBEq, reduceAdd, reduceSub, reduceLT, reduceLeDiff, reduceMul, reduceEqDiff, reduceIte, gl, gs]))
        all_goals try (exfalso; omega)
        · rename_i h
          rw [hss l hlm s hsm (by omega)]
          exact Frz.eq rfl (by simp)
        · rename_i h
          exact ⟨⟨j+1,hlt2,fun z hz=>by
            rw [hsn2] at hz
            rcases List.mem_append.1 hz with h' | h'
            · exact hJ z h'
            · rw [List.mem_singleton.1 h']; omega⟩,rfl,by simp only; omega⟩
      · obtain rfl:j=l.length:=by omega
        rw [List.take_length] at hJ
        (repeat' ((first
 | refine vn rfl ?_
 | simp (disch:=omega) only [wr64,Int.zero_sub]
 | refine bo (fun _=>?_) fun _=>?_
 | refine im fun _=>?_
 | refine cF ?_
 | refine om ?_
 | refine an ?_
 | fail) <;> try simp only [zT, zV, zS, zU, vcC, lateX, ex, strp, binA, elems, cells, scalar, eqC, keyA, intsA, lookA, ofVs, mpOf, Nat.reduceBEq, reduceAdd, reduceSub, reduceLT, reduceLeDiff, reduceMul, reduceEqDiff, reduceIte, gl]))
        all_goals try (exfalso; omega)
        exact ⟨⟨k+1,hlt,fun z hz=>by
          rw [hsn] at hz
          rcases List.mem_append.1 hz with h' | h'
          · exact hK z h'
          · rw [List.mem_singleton.1 h']; exact ⟨by omega,hJ⟩⟩,rfl,by simp only; omega⟩
    · obtain rfl:k=b2.length:=by omega
      rw [List.take_length] at hK
      rw [hok hnb hI hK]
      (repeat' ((first
 | refine vn rfl ?_
 | simp (disch:=omega) only [wr64,Int.zero_sub]
 | refine bo (fun _=>?_) fun _=>?_
 | refine im fun _=>?_
 | refine cF ?_
 | refine om ?_
 | refine an ?_
 | fail) <;> try simp only [zT,zV,zS,zU,vcC,lateX,ex,strp,binA,elems,cells,scalar,eqC,keyA,intsA,lookA,ofVs,mpOf,Nat.reduceBEq,reduceAdd,reduceSub,reduceLT,reduceLeDiff,reduceMul,reduceEqDiff,reduceIte]))
      all_goals try (exfalso; omega)
      exact Frz.eq rfl (by simp)
theorem copyF_getD (al:Nat→Nat→List Sp) (chg:Nat→Sp→Sp):∀ (t:Trk) (j k:Nat),(copyF al chg j t).getD k []=copyL (al (j+k)) (chg (j+k)) 0 (t.getD k [])
  | [],_,_=>by simp [copyF,copyL]
  | l::r,j,0=>by simp [copyF]
  | l::r,j,k+1=>by
    have:=copyF_getD al chg r (j+1) k
    rw [show j+1+k=j+(k+1) by omega] at this
    simpa [copyF,List.getD_eq_getElem?_getD] using this
theorem copyL_get (al:Nat→List Sp) (chg:Sp→Sp):∀ (l:List Nod) (j i:Nat),(copyL al chg j l)[i]?=(l[i]?).map (copyN (al (j+i)) chg)
  | [],_,_=>by simp [copyL]
  | x::r,j,0=>by simp [copyL]
  | x::r,j,i+1=>by
    have:=copyL_get al chg r (j+1) i
    rw [show j+1+i=j+(i+1) by omega] at this
    simpa [copyL] using this
section
variable {t:Trk} {al:Nat→Nat→List Sp} {chg:Nat→Sp→Sp}
theorem copyT_stg (k:Nat):(copyT t al chg).getD k []=copyL (al k) (chg k) 0 (t.getD k []):=by
  have:=copyF_getD al chg t 0 k
  rwa [Nat.zero_add] at this
theorem copyT_wd (k:Nat):wd (copyT t al chg) k=wd t k:=by unfold wd; rw [copyT_stg,copyL_len]
theorem copyT_nod {k i:Nat} {y:Nod} (h:((copyT t al chg).getD k [])[i]?=some y):∃ x,(t.getD k [])[i]?=some x∧y=copyN (al k i) (chg k) x:=by
  rw [copyT_stg,copyL_get,Nat.zero_add] at h
  cases hx:(t.getD k [])[i]? with
  | none=>rw [hx] at h; cases h
  | some x=>rw [hx] at h; injection h with h; exact ⟨x,rfl,h.symm⟩
theorem copyT_als {k i:Nat} (hi:i < wd t k):(als (copyT t al chg) k).getD i []=al k i:=by
  have hx:(t.getD k [])[i]?=some ((t.getD k []).getD i ⟨[],[]⟩):=getD_some hi
  have:(als (copyT t al chg) k)[i]?=some (al k i):=by
    unfold als
    rw [List.getElem?_map,copyT_stg,copyL_get,Nat.zero_add,hx]; rfl
  rw [List.getD_eq_getElem?_getD,this]; rfl
theorem chgE_mem {c:Sp→Sp} {l:List Edg} {e:Edg}:e∈l.flatMap (chgE c)↔∃ x∈l,(c x.ch).lo≤(c x.ch).hi∧e=⟨x.to,c x.ch⟩:=by
  rw [List.mem_flatMap]
  refine exists_congr fun x=>and_congr_right fun _=>?_
  unfold chgE
  split
  · rename_i h; rw [List.mem_singleton]; exact ⟨fun e=>⟨h,e⟩,fun e=>e.2⟩
  · rename_i h; exact ⟨fun e=>(by cases e),fun e=>absurd e.1 h⟩
theorem copyT_valid (hv:valid t) (ha:∀ k i,k < t.length→i < wd t k→small (al k i)) (hc:∀ k s,chOk s→(chg k s).lo≤(chg k s).hi→chOk (chg k s)):valid (copyT t al chg):=by
  refine ⟨by rw [copyF_len]; exact hv.1,by rw [copyF_len]; exact hv.2.1,fun k hk=>?_⟩
  rw [copyF_len] at hk
  obtain ⟨v1,v2,v3⟩:=valid_stg hv hk
  rw [copyT_wd,copyT_stg]
  refine ⟨by rw [copyL_len]; exact v1,by rw [copyL_len]; exact v2,fun y hy=>?_⟩
  obtain ⟨i,hi⟩:=List.mem_iff_getElem?.1 hy
  rw [← copyT_stg (al:=al) (chg:=chg)] at hi
  obtain ⟨x,hx,rfl⟩:=copyT_nod hi
  obtain ⟨x1,x2,x3⟩:=v3 x (List.mem_of_getElem? hx)
  refine ⟨ha k i hk (List.getElem?_eq_some_iff.1 hx).1,Nat.le_trans (chgE_len _ _) x2,fun e he=>?_⟩
  obtain ⟨e',he',hle,rfl⟩:=chgE_mem.1 he
  obtain ⟨e1,e2,e3⟩:=x3 e' he'
  exact ⟨e1,e2,hc k _ e3 hle⟩
end
end Go.Proofs.YtahkhnagpdlkiaaGreat
namespace Go.Abs
set_option linter.unusedVariables false
set_option linter.unusedSimpArgs false
theorem Frz.mp {σ:Sto} {f n:Nat} {o:Ob} {m m':List (List Int × AV)} (ho:σ.at f 0=some o) (hm:mpOf o n=some m) (hl:m.length=m'.length)
    (hk:∀ i,i < m.length→(m'.getD i ([],.any)).1=(m.getD i ([],.any)).1) (hv:∀ i,i < m.length→Frz σ (m.getD i ([],.any)).2 (m'.getD i ([],.any)).2):Frz σ (.mp f) (.imap n m'):=fun w X β x hs hx=>by
  obtain ⟨b,es,cl,hβ,rfl,_,hb,hr⟩:=mp_block hs ho hm hx
  obtain ⟨h1,h2,h3⟩:=of_mprel hr
  have hd:∀ i,es.getD i ⟨undef,undef,0⟩=es.toList.getD i ⟨undef,undef,0⟩:=fun i=>by simp [Array.getD_eq_getD_getElem?,List.getD_eq_getElem?_getD]
  refine .imap n m' b es cl hb (fun hX=>hs.dis f 0 o b ho hβ hX) (by rw [← hl,← h1]; simp) (fun i hi=>?_) fun i hi=>?_
  · rw [hd,hk i (by omega)]; exact h2 i (by omega)
  · rw [hd]; exact hv i (by omega) w X β _ hs (h3 i (by omega))
structure Emb (L:Nat) (X:Nat→Prop) (β:Blk) (σ:Sto) (X2:Nat→Prop) (β2:Blk) (σ2:Sto):Prop where
  len:σ2.length=L+σ.length
  obj:∀ f i o2,σ2.at (L+f) i=some o2→∃ o,σ.at f i=some o∧o2.k=o.k∧o2.es.length=o.es.length
  blk:∀ f i,β2 (L+f) i=β f i
  sub:∀ b,X2 b→X b
def Shf (L:Nat) (v v':AV):Prop:=∀ w X β σ X2 β2 σ2 x,Emb L X β σ X2 β2 σ2→RV w X β σ v x→RV w X2 β2 σ2 v' x
section
variable {L:Nat}
theorem Shf.pure {v:AV} (h:PureV v):Shf L v v:=fun w X β σ X2 β2 σ2 x he hx=>by
  have h1:=(h _ _ _ _ _ hx).tr (w':=w) (X':=X2) (β':=nob) (σ':=[]) ⟨Nat.le_refl _,fun _ _ _ _ _=>rfl,fun b _ hb=>he.sub b hb,Nat.le_refl _,fun f i o' hf=>absurd hf (Nat.not_lt_zero _)⟩
  exact h1.out
theorem Shf.any (v:AV):Shf L v .any:=fun _ _ _ _ _ _ _ _ _ _=>.any _
theorem Shf.own (f i n:Nat):Shf L (.own f i n) (.own (L+f) i n):=fun w X β σ X2 β2 σ2 x he hx=>by
  cases hx with
  | own _ _ _ _ h1 hf hle h =>
    refine .own _ i n x h1 (by rw [he.len]; omega) (fun o2 h2=>?_) fun o2 h2 hn=>?_
    · obtain ⟨o,ho,hk,hl⟩:=he.obj f i o2 h2
      rw [hl]; exact hle o ho
    · obtain ⟨o,ho,hk,hl⟩:=he.obj f i o2 h2
      have h3:=h o ho (by omega)
      rw [he.blk]
      unfold OwnSl at h3 ⊢
      cases hb:β f i with
      | none =>
        rw [hb] at h3
        exact ⟨List.length_eq_zero_iff.1 (by rw [hl,h3.1]; rfl),h3.2⟩
      | some b =>
        rw [hb] at h3
        obtain ⟨cap,c,T,h4,h5,h6⟩:=h3
        exact ⟨cap,c,T,by rw [hl]; exact h4,h5,by rw [hk]; exact h6⟩
theorem Shf.ptr (f i n e j:Nat):Shf L (.ptr f i n e j) (.ptr (L+f) i n e j):=fun w X β σ X2 β2 σ2 x he hx=>by
  cases hx with
  | ptr _ _ _ _ _ _ h1 hf hle h =>
    refine .ptr _ i n e j x h1 (by rw [he.len]; omega) (fun o2 h2=>?_) fun o2 h2 hn=>?_
    · obtain ⟨o,ho,hk,hl⟩:=he.obj f i o2 h2
      rw [hl]; exact hle o ho
    · obtain ⟨o,ho,hk,hl⟩:=he.obj f i o2 h2
      obtain ⟨b,hb,hx⟩:=h o ho (by omega)
      exact ⟨b,by rw [he.blk]; exact hb,by rw [hk]; exact hx⟩
theorem Shf.agg {cs ds:List AV} (hl:cs.length=ds.length) (h:∀ i,i < cs.length→Shf L (cs.getD i .any) (ds.getD i .any)):Shf L (.agg cs) (.agg ds):=fun w X β σ X2 β2 σ2 x he hx=>by
  cases hx with
  | agg _ xs hn h1 hr=>exact .agg ds xs (hn.trans hl) (fun i hi=>h1 i (by omega)) fun i hi=>h i (by omega) w X β σ X2 β2 σ2 _ he (hr i (by omega))
theorem Shf.tup {cs ds:List AV} (hl:cs.length=ds.length) (h:∀ i,i < cs.length→Shf L (cs.getD i .any) (ds.getD i .any)):Shf L (.tup cs) (.tup ds):=fun w X β σ X2 β2 σ2 x he hx=>by
  cases hx with
  | tup _ xs hn hr=>exact .tup ds xs (hn.trans hl) fun i hi=>h i (by omega) w X β σ X2 β2 σ2 _ he (hr i (by omega))
theorem Shf.sl {k:Nat} {es ds:List (List AV)} (hl:es.length=ds.length) (hk:∀ e,e < ds.length→(ds.getD e []).length=k) (h:∀ e j,e < es.length→j < k→Shf L ((es.getD e []).getD j .any) ((ds.getD e []).getD j .any)):Shf L (.sl k es) (.sl k ds):=fun w X β σ X2 β2 σ2 x he hx=>by
  generalize hes:es=es' at hx
  cases hx with
  | slnil =>
    subst hes
    obtain rfl:ds=[]:=List.length_eq_zero_iff.1 (by rw [← hl]; rfl)
    exact .slnil k
  | slemp _ a cap =>
    subst hes
    obtain rfl:ds=[]:=List.length_eq_zero_iff.1 (by rw [← hl]; rfl)
    exact .slemp k a cap
  | sl _ _ b o cap x hcap _ hc hX h1 hr =>
    subst hes
    rw [hl]
    exact .sl k ds b o cap x (by omega) hk (fun e he' j hj=>hc e (by omega) j hj) (fun e j he' hj hb=>hX e j (by omega) hj (he.sub b hb)) (fun e j he' hj=>h1 e j (by omega) hj)
      fun e j he' hj=>h e j (by omega) hj w X β σ X2 β2 σ2 _ he (hr e j (by omega) hj)
structure ShfS (L:Nat) (ν ν':Sto):Prop where
  len:ν'.length=ν.length
  obj:∀ f i o2,ν'.at f i=some o2→∃ o,ν.at f i=some o∧o2.T=o.T∧o2.k=o.k∧o.lp=none∧o2.lp=none∧o2.es.length=o.es.length∧(∀ e,e < o2.es.length→(o2.es.getD e []).length=o2.k) ∧
    ∀ e j,e < o2.es.length→j < o2.k→Shf L ((o.es.getD e []).getD j .any) ((o2.es.getD e []).getD j .any)
theorem at_app_iff {σ ν:Sto} {f i:Nat} {o:Ob}:(σ++ν).at f i=some o↔(f < σ.length∧σ.at f i=some o)∨(σ.length≤f∧ν.at (f - σ.length) i=some o):=by
  by_cases h:f < σ.length
  · rw [at_appL h]
    constructor
    · exact fun hh=>.inl ⟨h,hh⟩
    · rintro (⟨_,hh⟩ | ⟨h',_⟩)
      · exact hh
      · omega
  · obtain ⟨g,rfl⟩:∃ g,f=σ.length+g:=⟨f - σ.length,by omega⟩
    rw [show σ.length+g - σ.length=g by omega]
    have:(σ++ν).at (σ.length+g) i=ν.at g i:=by
      unfold Sto.at
      rw [List.getElem?_append_right (by omega),show σ.length+g - σ.length=g by omega]
    rw [this]
    constructor
    · exact fun hh=>.inr ⟨by omega,hh⟩
    · rintro (⟨h',_⟩ | ⟨_,hh⟩)
      · omega
      · exact hh
theorem Does.lift {P:Program} {f:Nat} {args:List AV} {R R':AV→Sto→Prop} {σ:Sto} (h:Does P f args [] R) (hp:∀ a∈args,PureV a)
    (hR:∀ r ν,R r ν→∃ r' ν',Shf σ.length r r'∧ShfS σ.length ν ν'∧R' r' (σ++ν')):Does P f args σ R':=by
  refine ⟨h.ent,fun X β w xs hX hs hl hr=>?_⟩
  have hlt:∀ b,Xt X β σ b→b < w.heap.size:=fun b hb=>Xt_lt hs hX hb
  have hs0:SRel w (Xt X β σ) nob []:=⟨fun f i f' i' o o' b ho=>by simp [Sto.at] at ho,fun f i o b ho=>by simp [Sto.at] at ho,fun f i o ho=>by simp [Sto.at] at ho⟩
  have hargs:∀ i,i < args.length→RV w (Xt (Xt X β σ) nob []) nob [] (args.getD i .any) (xs.getD i undef):=fun i hi=>by
    have h1:=hp _ (getD_mem hi) _ _ _ _ _ (hr i hi)
    refine h1.tr ⟨Nat.le_refl _,fun _ _ _ _ _=>rfl,fun b _ hb=>?_,Nat.le_refl _,fun f i o' hf=>absurd hf (Nat.not_lt_zero _)⟩
    rcases hb with hb | ⟨f,i,o,ho,_⟩
    · exact hb
    · simp [Sto.at] at ho
  refine (h.go (Xt X β σ) nob w xs hlt hs0 hl hargs).mono ?_
  rintro e w' ⟨x,r,ν,β',rfl,hRr,S',hx,E',K'⟩
  obtain ⟨r',ν',hsr,hsν,hR'⟩:=hR r ν hRr
  let β2:Blk:=fun f i=>if f < σ.length then β f i else β' (f - σ.length) i
  have hb1:∀ f i,f < σ.length→β2 f i=β f i:=fun f i hf=>by simp only [β2,hf,if_true]
  have hb2:∀ f i,β2 (σ.length+f) i=β' f i:=fun f i=>by simp only [β2]; rw [if_neg (by omega),show σ.length+f - σ.length=f by omega]
  have hb3:∀ f i,σ.length≤f→β2 f i=β' (f - σ.length) i:=fun f i hf=>by simp only [β2]; rw [if_neg (by omega)]
  have hold:∀ b,b < w.heap.size→w'.heap[b]?=w.heap[b]?:=fun b hb=>E'.old b hb fun ⟨f,i,o,ho,_⟩=>by simp [Sto.at] at ho
  have hnew:∀ b,owned β' ν b→w.heap.size≤b:=fun b hb=>(E'.new b hb).resolve_left fun ⟨f,i,o,ho,_⟩=>by simp [Sto.at] at ho
  have how:∀ b,owned β2 (σ++ν') b→owned β σ b∨owned β' ν b:=fun b ⟨f,i,o,ho,hb⟩=>by
    rcases at_app_iff.1 ho with ⟨h1,h2⟩ | ⟨h1,h2⟩
    · rw [hb1 f i h1] at hb; exact .inl ⟨f,i,o,h2,hb⟩
    · rw [hb3 f i h1] at hb
      obtain ⟨o1,h3,_⟩:=hsν.obj _ _ _ h2
      exact .inr ⟨_,i,o1,h3,hb⟩
  have hXX:∀ b,Xt X β2 (σ++ν') b→Xt (Xt X β σ) β' ν b:=fun b hb=>by
    rcases hb with hb | hb
    · exact .inl (.inl hb)
    · rcases how b hb with h | h
      · exact .inl (.inr h)
      · exact .inr h
  have hemb:Emb σ.length (Xt (Xt X β σ) β' ν) β' ν (Xt X β2 (σ++ν')) β2 (σ++ν'):=by
    refine ⟨by rw [List.length_append,hsν.len],fun f i o2 h2=>?_,hb2,hXX⟩
    rcases at_app_iff.1 h2 with ⟨h1,_⟩ | ⟨_,h3⟩
    · omega
    · rw [show σ.length+f - σ.length=f by omega] at h3
      obtain ⟨o,h4,_,h5,_,_,h6,_⟩:=hsν.obj _ _ _ h3
      exact ⟨o,h4,h5,h6⟩
  have K2:Kp w (Xt X β σ) β σ w' (Xt X β2 (σ++ν')) β2 (σ++ν'):=by
    refine ⟨E'.size,fun b o hc _ _=>hold b (heap_lt hc),fun b hb hx=>?_,by rw [List.length_append]; omega,fun f i o' hf ho=>?_⟩
    · rcases hx with hx | hx
      · exact .inl hx
      · rcases how b hx with h | h
        · exact .inr h
        · have:=hnew b h; omega
    · rcases at_app_iff.1 ho with ⟨_,h2⟩ | ⟨h1,_⟩
      · refine ⟨o',h2,rfl,Nat.le_refl _,fun _=>⟨hb1 f i hf,fun b hb c T hc=>⟨c,T,by rw [hold b (heap_lt hc)]; exact hc,rfl⟩⟩⟩
      · omega
  have E2:Ext w β σ w' β2 (σ++ν'):=by
    refine ⟨E'.size,fun b hb _=>hold b hb,fun b hb=>?_,E'.io⟩
    rcases how b hb with h | h
    · exact .inl h
    · exact .inr (hnew b h)
  have S2:SRel w' X β2 (σ++ν'):=by
    refine ⟨fun f i f' i' o o' b h1 h2 h3 h4=>?_,fun f i o b h1 h3=>?_,fun f i o h1=>?_⟩
    · rcases at_app_iff.1 h1 with ⟨p1,p2⟩ | ⟨p1,p2⟩
      · rw [hb1 f i p1] at h3
        rcases at_app_iff.1 h2 with ⟨q1,q2⟩ | ⟨q1,q2⟩
        · rw [hb1 f' i' q1] at h4
          exact hs.inj f i f' i' o o' b p2 q2 h3 h4
        · rw [hb3 f' i' q1] at h4
          obtain ⟨o1,h5,_⟩:=hsν.obj _ _ _ q2
          exact absurd (.inr ⟨f,i,o,p2,h3⟩) (S'.dis _ i' o1 b h5 h4)
      · rw [hb3 f i p1] at h3
        obtain ⟨o1,h5,_⟩:=hsν.obj _ _ _ p2
        rcases at_app_iff.1 h2 with ⟨q1,q2⟩ | ⟨q1,q2⟩
        · rw [hb1 f' i' q1] at h4
          exact absurd (.inr ⟨f',i',o',q2,h4⟩) (S'.dis _ i o1 b h5 h3)
        · rw [hb3 f' i' q1] at h4
          obtain ⟨o2,h6,_⟩:=hsν.obj _ _ _ q2
          have:=S'.inj _ i _ i' o1 o2 b h5 h6 h3 h4
          exact ⟨by omega,this.2⟩
    · rcases at_app_iff.1 h1 with ⟨p1,p2⟩ | ⟨p1,p2⟩
      · rw [hb1 f i p1] at h3; exact hs.dis f i o b p2 h3
      · rw [hb3 f i p1] at h3
        obtain ⟨o1,h5,_⟩:=hsν.obj _ _ _ p2
        exact fun hx=>S'.dis _ i o1 b h5 h3 (.inl hx)
    · rcases at_app_iff.1 h1 with ⟨p1,p2⟩ | ⟨p1,p2⟩
      · rw [hb1 f i p1]
        exact (hs.obj f i o p2).tr K2 fun b hb=>hold b (hlt b (.inr ⟨f,i,o,p2,hb⟩))
      · rw [hb3 f i p1]
        obtain ⟨o1,h5,hT,hk,hl1,hl2,hes,hrow,hcell⟩:=hsν.obj _ _ _ p2
        have hob:=S'.obj _ i o1 h5
        refine ⟨hrow,?_⟩
        have h2:=hob.2
        cases hb:β' (f - σ.length) i with
        | none =>
          rw [hb] at h2
          exact ⟨List.length_eq_zero_iff.1 (by rw [hes,h2.1]; rfl),hl2⟩
        | some b =>
          rw [hb] at h2
          refine ⟨fun _=>?_,fun q hq=>by rw [hl2] at hq; cases hq⟩
          obtain ⟨c,hc,hle,h1c,hrc⟩:=h2.1 hl1
          refine ⟨c,by rw [hT]; exact hc,by rw [hes,hk]; exact hle,fun e j he hj=>?_,fun e j he hj=>?_⟩
          · rw [hk] at hj ⊢; exact h1c e j (by omega) hj
          · have:=hcell e j he hj
            rw [hk] at hj ⊢
            exact this _ _ _ _ _ _ _ _ hemb (hrc e j (by omega) hj)
  exact ⟨x,r',σ++ν',β2,rfl,hR',S2,hsr _ _ _ _ _ _ _ _ hemb hx,E2,K2⟩
end
end Go.Abs
namespace Go.Proofs.YtahkhnagpdlkiaaGreat
open Go.Abs
open Nat (reduceAdd reduceSub reduceLT reduceLeDiff reduceMul reduceEqDiff)
set_option linter.unusedVariables false
set_option linter.unusedSimpArgs false
set_option maxHeartbeats 4000000
set_option maxRecDepth 100000
def rowsQ (T:Trk) (q J:Nat):List (List AV):=(List.range T.length).map fun m=>if m=q then [.own J 0 (T.getD m []).length] else [stS (T.getD m [])]
theorem rowsQ_len (T:Trk) (q J:Nat):(rowsQ T q J).length=T.length:=by simp [rowsQ]
theorem rowsQ_snoc (T:Trk) (l:List Nod) (q J:Nat):rowsQ (T++[l]) q J=rowsQ T q J++[if T.length=q then [.own J 0 l.length] else [stS l]]:=by
  unfold rowsQ
  rw [List.length_append,List.length_singleton,List.range_succ,List.map_append]
  congr 1
  · refine range_congr fun m hm=>?_
    have:(T++[l]).getD m []=T.getD m []:=by rw [List.getD_eq_getElem?_getD,List.getElem?_append_left hm,← List.getD_eq_getElem?_getD]
    rw [this]
  · have:(T++[l]).getD T.length []=l:=by simp [List.getD_eq_getElem?_getD]
    simp only [List.map_cons,List.map_nil,this]
theorem rowsQ_free (T:Trk) (q J J':Nat) (h:T.length≤q):rowsQ T q J=rowsQ T q J':=range_congr fun m hm=>by rw [if_neg (by omega),if_neg (by omega)]
inductive CopyQ (T:Trk) (q:Nat) (r:AV) (ν:Sto):Prop
  | mk (J:Nat) (h:r=.agg [.sl 1 (rowsQ T q J)]) (hJ:ν.at J 0=some ⟨80,2,(T.getD q []).map Nod.cs,none⟩)
theorem copied_does0 (q:Nat) (t:Trk) (hv:valid t) (fa fc:Nat) (ca cc:List AV) (hca:∀ c∈ca,PureV c) (hcc:∀ c∈cc,PureV c) (al:Nat→Nat→List Sp) (chg:Nat→Sp→Sp)
    (hA:∀ k i,k < t.length→i < wd t k→Pure Tryz.prog fa ([n (k:Int),n (i:Int)]++ca) (spS (al k i))∧((al k i).length:Int) * 16≤140737488355328)
    (hC:∀ (k:Nat) (s:Sp),Pure Tryz.prog fc ([n (k:Int),.agg s.cs]++cc) (.agg (chg k s).cs))
    (hq:q < t.length):Does Tryz.prog 101 [trS t,.fn (.func fa) [] ca,.fn (.func fc) [] cc] [] (CopyQ (copyT t al chg) q):=by
  refine Does.of_body Tryz.call101 Tryz.func101 k101 (Nat.le_of_ble_eq_true rfl) ?_
  unfold c101
  have h2:=hv.2.1
  ((first
 | refine vn rfl ?_
 | simp (disch:=omega) only [wr64,Int.zero_sub]
 | refine bo (fun _=>?_) fun _=>?_
 | refine im fun _=>?_
 | refine cF ?_
 | refine om ?_
 | refine an ?_
 | fail) <;> try simp only [zT,zV,zS,zU,vcC,lateX,ex,strp,binA,elems,cells,scalar,eqC,keyA,intsA,lookA,ofVs,mpOf,Nat.reduceBEq,reduceAdd,reduceSub,reduceLT,reduceLeDiff,reduceMul,reduceEqDiff,reduceIte])
  ((first
 | refine vn rfl ?_
 | simp (disch:=omega) only [wr64,Int.zero_sub]
 | refine bo (fun _=>?_) fun _=>?_
 | refine im fun _=>?_
 | refine cF ?_
 | refine om ?_
 | refine an ?_
 | fail) <;> try simp only [zT,zV,zS,zU,vcC,lateX,ex,strp,binA,elems,cells,scalar,eqC,keyA,intsA,lookA,ofVs,mpOf,Nat.reduceBEq,reduceAdd,reduceSub,reduceLT,reduceLeDiff,reduceMul,reduceEqDiff,reduceIte])
  refine AWPC.own0c 68 1 (f:=1) (i:=0) (e:=0) (j:=0) rfl (by simp) rfl ?_
  (repeat' ((first
 | refine vn rfl ?_
 | simp (disch:=omega) only [wr64,Int.zero_sub]
 | refine bo (fun _=>?_) fun _=>?_
 | refine im fun _=>?_
 | refine cF ?_
 | refine om ?_
 | refine an ?_
 | fail) <;> try simp only [zT,zV,zS,zU,vcC,lateX,ex,strp,binA,elems,cells,scalar,eqC,keyA,intsA,lookA,ofVs,mpOf,Nat.reduceBEq,reduceAdd,reduceSub,reduceLT,reduceLeDiff,reduceMul,reduceEqDiff,reduceIte]))
  refine AWPC.loopE (α:={ x:Nat × Sto × Nat // x.1≤t.length∧(q < x.1→3≤x.2.2∧Sto.at x.2.1 (x.2.2 - 3) 0=some ⟨80,2,((copyT t al chg).getD q []).map Nod.cs,none⟩) }) [20] (fun x=>[(20,n x.1.1)]) (fun x=>some [⟨24,1,[[.v (.slice none 0 0)]],none⟩]::some [⟨24,1,[[.own 2 0 x.1.1]],none⟩]::some [⟨68,1,rowsQ (copyF al chg 0 (t.take x.1.1)) q x.1.2.2,none⟩]::x.1.2.1) (fun x=>t.length - x.1.1) ⟨(0,[],0),Nat.zero_le _,fun h=>absurd h (Nat.not_lt_zero _)⟩ ?_ rfl ?_
  · (simp only [zT,zV,zS,zU,vcC,lateX,ex,strp,binA,elems,cells,scalar,eqC,keyA,intsA,lookA,ofVs,mpOf,Nat.reduceBEq,reduceAdd,reduceSub,reduceLT,reduceLeDiff,reduceMul,reduceEqDiff,reduceIte]; try simp)
  rintro ⟨⟨k,μ,J⟩,hk,hJ⟩
  simp only at hk hJ
  simp only
  have hfl:(copyF al chg 0 (t.take k)).length=k:=by rw [copyF_len,List.length_take]; omega
  by_cases hlt:k < t.length
  · have htk:t[k]?=some (t.getD k []):=getD_some hlt
    have gtk:(t.map fun l=>[stS l]).getD k []=[stS (t.getD k [])]:=getD_map htk
    have hcf:=copyF_take al chg t 0 k _ htk
    rw [Nat.zero_add] at hcf
    obtain ⟨v1,v2,v3⟩:=valid_stg hv hlt
    have hwd:wd t k=(t.getD k []).length:=rfl
    generalize hL:t.getD k []=L at *
    (repeat' ((first
 | refine vn rfl ?_
 | simp (disch:=omega) only [wr64,Int.zero_sub]
 | refine bo (fun _=>?_) fun _=>?_
 | refine im fun _=>?_
 | refine cF ?_
 | refine om ?_
 | refine an ?_
 | fail) <;> try simp only [zT,zV,zS,zU,vcC,lateX,ex,strp,binA,elems,cells,scalar,eqC,keyA,intsA,lookA,ofVs,mpOf,Nat.reduceBEq,reduceAdd,reduceSub,reduceLT,reduceLeDiff,reduceMul,reduceEqDiff,reduceIte,gtk]))
    all_goals try (exfalso; omega)
    refine AWPC.own0 80 2 10 rfl ?_
    generalize hW:(some [⟨24,1,[[.v (.slice none 0 0)]],none⟩]::some [⟨24,1,[[.own 2 0 k]],none⟩]::some [⟨68,1,rowsQ (copyF al chg 0 (t.take k)) q J,none⟩]::μ:Sto)=W
    obtain ⟨L1,hL1⟩:∃ L1,L1=List.length W:=⟨_,rfl⟩
    rw [← hL1]
    have c1:∀ a X,Sto.at (W++(a::X)) L1 0=Sto.at (a::X) 0 0:=fun a X=>by rw [hL1,at_app0]
    have c1u:∀ a X o,Sto.upd (W++(a::X)) L1 0 o=W++Sto.upd (a::X) 0 0 o:=fun a X o=>by rw [hL1,upd_app0]
    refine AWPC.loopE (α:={ x:Nat × Sto // x.1≤L.length }) [10,27] (fun x=>[(10,.own L1 0 x.1.1),(27,n x.1.1)]) (fun x=>W++(some [⟨80,2,(copyL (al k) (chg k) 0 (L.take x.1.1)).map Nod.cs,none⟩]::x.1.2)) (fun x=>L.length - x.1.1) ⟨(0,[]),Nat.zero_le _⟩ ?_ rfl ?_
    · (simp only [zT,zV,zS,zU,vcC,lateX,ex,strp,binA,elems,cells,scalar,eqC,keyA,intsA,lookA,ofVs,mpOf,Nat.reduceBEq,reduceAdd,reduceSub,reduceLT,reduceLeDiff,reduceMul,reduceEqDiff,reduceIte]; try simp)
    · rintro ⟨⟨i,ν⟩,hi⟩
      simp only at hi
      simp only
      have hcl:(copyL (al k) (chg k) 0 (L.take i)).length=i:=by rw [copyL_len,List.length_take]; omega
      by_cases hlt2:i < L.length
      · obtain ⟨x,hx⟩:∃ x,L[i]?=some x:=⟨_,List.getElem?_eq_getElem hlt2⟩
        have hcp:=copyL_take (al k) (chg k) L 0 i x hx
        rw [Nat.zero_add] at hcp
        obtain ⟨x1,x2,x3⟩:=v3 x (List.mem_of_getElem? hx)
        obtain ⟨hfa,hal⟩:=hA k i hlt (by omega)
        have hclo:=clone_spec (al k i) hal
        have m1:∀ a (ν X:Sto),Sto.at (W++(a::(ν++X))) (L1+(List.length ν+1)) 0=Sto.at X 0 0:=fun a ν X=>by rw [hL1,at_app,at_consS,at_app0]
        have m1u:∀ a (ν X:Sto) o,Sto.upd (W++(a::(ν++X))) (L1+(List.length ν+1)) 0 o=W++(a::(ν++Sto.upd X 0 0 o)):=fun a ν X o=>by rw [hL1,upd_app,upd_consS,upd_app0]
        have m2:∀ a b (ν X:Sto),Sto.at (W++(a::(ν++(b::X)))) (L1+(List.length ν+2)) 0=Sto.at X 0 0:=fun a b ν X=>by rw [hL1,at_app,show List.length ν+2=List.length ν+1+1 by omega,at_consS,at_app,at_consS]
        have m2u:∀ a b (ν X:Sto) o,Sto.upd (W++(a::(ν++(b::X)))) (L1+(List.length ν+2)) 0 o=W++(a::(ν++(b::Sto.upd X 0 0 o))):=fun a b ν X o=>by rw [hL1,upd_app,show List.length ν+2=List.length ν+1+1 by omega,upd_consS,upd_app,upd_consS]
        (repeat' ((first
 | refine vn rfl ?_
 | simp (disch:=omega) only [wr64,Int.zero_sub]
 | refine bo (fun _=>?_) fun _=>?_
 | refine im fun _=>?_
 | refine cF ?_
 | refine om ?_
 | refine an ?_
 | fail) <;> try simp only [zT, zV, zS, zU, vcC, lateX, ex, strp, binA, elems, cells, scalar, eqC, keyA, intsA, lookA, ofVs, mpOf, Nat.reduceBEq, reduceAdd, reduceSub, reduceLT, reduceLeDiff, reduceMul, reduceEqDiff, reduceIte, getD_map hx, ← hL1, m1, m1u, m2, m2u, List.append_assoc, List.cons_append]))
        all_goals try (exfalso; omega)
        refine .inl ⟨_,_,_,_,rfl,fun _=>⟨pureApp (by simp) hca,hfa⟩,?_⟩
        refine owp_of_exs ?_
        simp only [zT,zV,zS,zU,vcC,lateX,ex,strp,binA,elems,cells,scalar,eqC,keyA,intsA,lookA,ofVs,mpOf,Nat.reduceBEq,reduceAdd,reduceSub,reduceLT,reduceLeDiff,reduceMul,reduceEqDiff,reduceIte]
        (repeat' ((first
 | refine vn rfl ?_
 | simp (disch:=omega) only [wr64,Int.zero_sub]
 | refine bo (fun _=>?_) fun _=>?_
 | refine im fun _=>?_
 | ((repeat refine si ?_); (first | ((first | refine .inl ⟨_,_,_,_,rfl,fun _=>pu hclo,?_⟩ | refine ⟨_,_,_,_,rfl,fun _=>pu hclo,?_⟩); (first | refine o1 ?_ | refine o2 ?_ | refine o3 ?_ | refine o4 ?_)) | refine .inl ⟨_,_,_,_,rfl,pu hclo,?_⟩))
 | refine cF ?_
 | refine om ?_
 | refine an ?_
 | fail) <;> try simp only [zT, zV, zS, zU, vcC, lateX, ex, strp, binA, elems, cells, scalar, eqC, keyA, intsA, lookA, ofVs, mpOf, Nat.reduceBEq, reduceAdd, reduceSub, reduceLT, reduceLeDiff, reduceMul, reduceEqDiff, reduceIte, getD_map hx, ← hL1, m1, m1u, m2, m2u, List.append_assoc, List.cons_append]))
        all_goals try (exfalso; omega)
        obtain ⟨V,hV⟩:∃ V:Sto,V=W++some [⟨80,2,(copyL (al k) (chg k) 0 (L.take i)).map Nod.cs,none⟩]::(ν++[some [⟨80,2,[[spS x.al,edS x.nx]],none⟩]]):=⟨_,rfl⟩
        have hVl:L1+(List.length ν+2)=List.length V:=by rw [hV,hL1]; simp [Nat.add_assoc]
        rw [show (W++some [⟨80,2,(copyL (al k) (chg k) 0 (L.take i)).map Nod.cs,none⟩]::(ν++[some [⟨80,2,[[spS x.al,edS x.nx]],none⟩],some [⟨80,2,[[spS (al k i),.v (.slice none 0 0)]],none⟩]]):Sto)=V++[some [⟨80,2,[[spS (al k i),.v (.slice none 0 0)]],none⟩]] by rw [hV]; simp,hVl]
        obtain ⟨Lv,hLv⟩:∃ Lv,Lv=List.length V:=⟨_,rfl⟩
        rw [← hLv]
        have d0:∀ a X,Sto.at (V++(a::X)) Lv 0=Sto.at (a::X) 0 0:=fun a X=>by rw [hLv,at_app0]
        have d0u:∀ a X o,Sto.upd (V++(a::X)) Lv 0 o=V++Sto.upd (a::X) 0 0 o:=fun a X o=>by rw [hLv,upd_app0]
        have d1:∀ a X,Sto.at (V++(a::X)) (Lv+1) 0=Sto.at X 0 0:=fun a X=>by rw [hLv,at_app,at_consS]
        have d1u:∀ a X o,Sto.upd (V++(a::X)) (Lv+1) 0 o=V++(a::Sto.upd X 0 0 o):=fun a X o=>by rw [hLv,upd_app,upd_consS]
        have e1:∀ a b (ν X:Sto),Sto.at (V++(a::b::(ν++X))) (Lv+(List.length ν+2)) 0=Sto.at X 0 0:=fun a b ν X=>by rw [hLv,at_app,at_consS,at_consS,at_app0]
        have e1u:∀ a b (ν X:Sto) o,Sto.upd (V++(a::b::(ν++X))) (Lv+(List.length ν+2)) 0 o=V++(a::b::(ν++Sto.upd X 0 0 o)):=fun a b ν X o=>by rw [hLv,upd_app,upd_consS,upd_consS,upd_app0]
        have e2:∀ a b c (ν X:Sto),Sto.at (V++(a::b::(ν++(c::X)))) (Lv+(List.length ν+3)) 0=Sto.at X 0 0:=fun a b c ν X=>by rw [hLv,at_app,show List.length ν+3=List.length ν+1+1+1 by omega,at_consS,at_consS,at_app,at_consS]
        have e2u:∀ a b c (ν X:Sto) o,Sto.upd (V++(a::b::(ν++(c::X)))) (Lv+(List.length ν+3)) 0 o=V++(a::b::(ν++(c::Sto.upd X 0 0 o))):=fun a b c ν X o=>by rw [hLv,upd_app,show List.length ν+3=List.length ν+1+1+1 by omega,upd_consS,upd_consS,upd_app,upd_consS]
        refine AWPC.own0c 124 3 (f:=Lv) (i:=0) (e:=0) (j:=1) (d0 _ _) (by simp) rfl ?_
        rw [show List.length (V++[some [⟨80,2,[[spS (al k i),.v (.slice none 0 0)]],none⟩]]:Sto)=Lv+1 by rw [hLv]; simp]
        rw [List.append_assoc,List.cons_append,d0u]
        refine AWPC.loopE (α:={ y:Nat × Sto // y.1≤x.nx.length }) [41] (fun y=>[(41,n y.1.1)]) (fun y=>V++(some [⟨80,2,[[spS (al k i),.own (Lv+1) 0 ((x.nx.take y.1.1).flatMap (chgE (chg k))).length]],none⟩]::some [⟨124,3,((x.nx.take y.1.1).flatMap (chgE (chg k))).map Edg.cs,none⟩]::y.1.2)) (fun y=>x.nx.length - y.1.1) ⟨(0,[]),Nat.zero_le _⟩ ?_ rfl ?_
        · (simp only [zT,zV,zS,zU,vcC,lateX,ex,strp,binA,elems,cells,scalar,eqC,keyA,intsA,lookA,ofVs,mpOf,Nat.reduceBEq,reduceAdd,reduceSub,reduceLT,reduceLeDiff,reduceMul,reduceEqDiff,reduceIte]; try simp)
        · rintro ⟨⟨j,ρ⟩,hj⟩
          simp only at hj
          simp only
          have hfl2:=chgE_len (chg k) (x.nx.take j)
          have htl:(x.nx.take j).length=j:=by rw [List.length_take]; omega
          by_cases hlt3:j < x.nx.length
          · obtain ⟨e,he⟩:∃ e,x.nx[j]?=some e:=⟨_,List.getElem?_eq_getElem hlt3⟩
            have htk3:=chgE_take (chg:=chg k) he
            have hcc':=hC k e.ch
            have gch:chgE (chg k) e=if (chg k e.ch).lo≤(chg k e.ch).hi then [⟨e.to,chg k e.ch⟩] else []:=rfl
            generalize hF:(x.nx.take j).flatMap (chgE (chg k))=F at *
            (repeat' ((first
 | refine vn rfl ?_
 | simp (disch:=omega) only [wr64,Int.zero_sub]
 | refine bo (fun _=>?_) fun _=>?_
 | refine im fun _=>?_
 | refine cF ?_
 | refine om ?_
 | refine an ?_
 | fail) <;> try simp only [zT, zV, zS, zU, vcC, lateX, ex, strp, binA, elems, cells, scalar, eqC, keyA, intsA, lookA, ofVs, mpOf, Nat.reduceBEq, reduceAdd, reduceSub, reduceLT, reduceLeDiff, reduceMul, reduceEqDiff, reduceIte, getD_map he, ← hLv, d0, d0u, d1, d1u, e1, e1u, e2, e2u, List.append_assoc, List.cons_append]))
            all_goals try (exfalso; omega)
            refine .inl ⟨_,_,_,_,rfl,fun _=>⟨pureApp (by simp) hcc,hcc'⟩,?_⟩
            refine owp_of_exs ?_
            simp only [zT,zV,zS,zU,vcC,lateX,ex,strp,binA,elems,cells,scalar,eqC,keyA,intsA,lookA,ofVs,mpOf,Nat.reduceBEq,reduceAdd,reduceSub,reduceLT,reduceLeDiff,reduceMul,reduceEqDiff,reduceIte]
            generalize chg k e.ch=sp at *
            (repeat' ((first
 | refine vn rfl ?_
 | simp (disch:=omega) only [wr64,Int.zero_sub]
 | refine bo (fun _=>?_) fun _=>?_
 | refine im fun _=>?_
 | refine cF ?_
 | refine om ?_
 | refine an ?_
 | fail) <;> try simp only [zT, zV, zS, zU, vcC, lateX, ex, strp, binA, elems, cells, scalar, eqC, keyA, intsA, lookA, ofVs, mpOf, Nat.reduceBEq, reduceAdd, reduceSub, reduceLT, reduceLeDiff, reduceMul, reduceEqDiff, reduceIte, getD_map he, ← hLv, d0, d0u, d1, d1u, e1, e1u, e2, e2u, List.append_assoc, List.cons_append]))
            all_goals try (exfalso; omega)
            · rename_i hc
              rw [if_pos hc] at gch
              exact ⟨⟨(j+1,ρ++[some [⟨124,3,[Edg.cs e],none⟩],some [⟨30,2,[Sp.cs sp],none⟩]]),hlt3⟩,by simp,by simp only; rw [htk3,gch]; simp,by simp only; omega⟩
            · rename_i hc
              rw [if_neg hc] at gch
              exact ⟨⟨(j+1,ρ++[some [⟨124,3,[Edg.cs e],none⟩],some [⟨30,2,[Sp.cs sp],none⟩]]),hlt3⟩,by simp,by simp only; rw [htk3,gch]; simp,by simp only; omega⟩
          · obtain rfl:j=x.nx.length:=by omega
            rw [List.take_length]
            ((first
 | refine vn rfl ?_
 | simp (disch:=omega) only [wr64,Int.zero_sub]
 | refine bo (fun _=>?_) fun _=>?_
 | refine im fun _=>?_
 | refine cF ?_
 | refine om ?_
 | refine an ?_
 | fail) <;> try simp only [zT, zV, zS, zU, vcC, lateX, ex, strp, binA, elems, cells, scalar, eqC, keyA, intsA, lookA, ofVs, mpOf, Nat.reduceBEq, reduceAdd, reduceSub, reduceLT, reduceLeDiff, reduceMul, reduceEqDiff, reduceIte])
            ((first
 | refine vn rfl ?_
 | simp (disch:=omega) only [wr64,Int.zero_sub]
 | refine bo (fun _=>?_) fun _=>?_
 | refine im fun _=>?_
 | refine cF ?_
 | refine om ?_
 | refine an ?_
 | fail) <;> try simp only [zT, zV, zS, zU, vcC, lateX, ex, strp, binA, elems, cells, scalar, eqC, keyA, intsA, lookA, ofVs, mpOf, Nat.reduceBEq, reduceAdd, reduceSub, reduceLT, reduceLeDiff, reduceMul, reduceEqDiff, reduceIte])
            refine AWPC.freezeC (f:=Lv+1) (n:=(x.nx.flatMap (chgE (chg k))).length) (h:=Lv) (e:=0) (j:=1) (d1 _ _) (by simp) (show (3:Nat)≠0 by decide) (d0 _ _) (by omega) rfl (by simp) rfl ?_
            rw [goneV hLv,d0u]
            rw [hLv,← hVl,hV]
            simp only [zT,zV,zS,zU,vcC,lateX,ex,strp,binA,elems,cells,scalar,eqC,keyA,intsA,lookA,ofVs,mpOf,Nat.reduceBEq,reduceAdd,reduceSub,reduceLT,reduceLeDiff,reduceMul,reduceEqDiff,reduceIte,List.append_assoc,List.cons_append,List.nil_append]
            (repeat' ((first
 | refine vn rfl ?_
 | simp (disch:=omega) only [wr64,Int.zero_sub]
 | refine bo (fun _=>?_) fun _=>?_
 | refine im fun _=>?_
 | refine cF ?_
 | refine om ?_
 | refine an ?_
 | fail) <;> try simp only [zT, zV, zS, zU, vcC, lateX, ex, strp, binA, elems, cells, scalar, eqC, keyA, intsA, lookA, ofVs, mpOf, Nat.reduceBEq, reduceAdd, reduceSub, reduceLT, reduceLeDiff, reduceMul, reduceEqDiff, reduceIte, m1, m1u, m2, m2u, c1, c1u, List.append_assoc, List.cons_append]))
            all_goals try (exfalso; omega)
            exact ⟨⟨(i+1,ν++some [⟨80,2,[[spS x.al,edS x.nx]],none⟩]::some [⟨80,2,[[spS (al k i),edS (x.nx.flatMap (chgE (chg k)))]],none⟩]::none::ρ),hlt2⟩,⟨rfl,rfl⟩,by simp only; rw [hcp]; simp [copyN],by simp only; omega⟩
      · obtain rfl:i=L.length:=by omega
        rw [List.take_length]
        have hLW:L1=3+μ.length:=by rw [hL1,← hW]; simp; omega
        by_cases hkq:k=q
        · have hqe:(copyT t al chg).getD q []=copyL (al k) (chg k) 0 L:=by rw [← hkq,copyT_stg,hL]
          rw [← hW]
          have hfree:=rowsQ_free (copyF al chg 0 (t.take k)) q J L1 (by omega)
          have hmu:Sto.at (μ++some [⟨80,2,(copyL (al k) (chg k) 0 L).map Nod.cs,none⟩]::ν) μ.length 0=some ⟨80,2,(copyL (al k) (chg k) 0 L).map Nod.cs,none⟩:=by rw [at_app0]; rfl
          rw [hfree]
          (repeat' ((first
 | refine vn rfl ?_
 | simp (disch:=omega) only [wr64,Int.zero_sub]
 | refine bo (fun _=>?_) fun _=>?_
 | refine im fun _=>?_
 | refine cF ?_
 | refine om ?_
 | refine an ?_
 | fail) <;> try simp only [zT, zV, zS, zU, vcC, lateX, ex, strp, binA, elems, cells, scalar, eqC, keyA, intsA, lookA, ofVs, mpOf, Nat.reduceBEq, reduceAdd, reduceSub, reduceLT, reduceLeDiff, reduceMul, reduceEqDiff, reduceIte, List.append_assoc, List.cons_append, rowsQ_len, hfl]))
          all_goals try (exfalso; omega)
          refine ⟨⟨(k+1,μ++some [⟨80,2,(copyL (al k) (chg k) 0 L).map Nod.cs,none⟩]::ν,L1),hlt,fun _=>⟨by simp only; omega,?_⟩⟩,rfl,by simp only; rw [hcf,rowsQ_snoc,hfl,if_pos hkq,copyL_len]; (try simp),by simp only; omega⟩
          simp only
          rw [show L1 - 3=μ.length by omega,hqe]
          exact hmu
        · ((first
 | refine vn rfl ?_
 | simp (disch:=omega) only [wr64,Int.zero_sub]
 | refine bo (fun _=>?_) fun _=>?_
 | refine im fun _=>?_
 | refine cF ?_
 | refine om ?_
 | refine an ?_
 | fail) <;> try simp only [zT, zV, zS, zU, vcC, lateX, ex, strp, binA, elems, cells, scalar, eqC, keyA, intsA, lookA, ofVs, mpOf, Nat.reduceBEq, reduceAdd, reduceSub, reduceLT, reduceLeDiff, reduceMul, reduceEqDiff, reduceIte])
          ((first
 | refine vn rfl ?_
 | simp (disch:=omega) only [wr64,Int.zero_sub]
 | refine bo (fun _=>?_) fun _=>?_
 | refine im fun _=>?_
 | refine cF ?_
 | refine om ?_
 | refine an ?_
 | fail) <;> try simp only [zT, zV, zS, zU, vcC, lateX, ex, strp, binA, elems, cells, scalar, eqC, keyA, intsA, lookA, ofVs, mpOf, Nat.reduceBEq, reduceAdd, reduceSub, reduceLT, reduceLeDiff, reduceMul, reduceEqDiff, reduceIte])
          refine AWPC.freeze1 (t:=10) (n:=L.length) rfl (c1 _ _) (by simp [copyL_len]) (show (2:Nat)≠0 by decide) ?_
          rw [goneW hL1,← hW]
          (repeat' ((first
 | refine vn rfl ?_
 | simp (disch:=omega) only [wr64,Int.zero_sub]
 | refine bo (fun _=>?_) fun _=>?_
 | refine im fun _=>?_
 | refine cF ?_
 | refine om ?_
 | refine an ?_
 | fail) <;> try simp only [zT, zV, zS, zU, vcC, lateX, ex, strp, binA, elems, cells, scalar, eqC, keyA, intsA, lookA, ofVs, mpOf, Nat.reduceBEq, reduceAdd, reduceSub, reduceLT, reduceLeDiff, reduceMul, reduceEqDiff, reduceIte, List.append_assoc, List.cons_append, rowsQ_len, hfl]))
          all_goals try (exfalso; omega)
          refine ⟨⟨(k+1,μ++none::ν,J),hlt,fun h=>?_⟩,rfl,by simp only; rw [hcf,rowsQ_snoc,hfl,if_neg hkq]; (try simp),by simp only; omega⟩
          obtain ⟨j1,j2⟩:=hJ (by simp only at h; omega)
          exact ⟨j1,by simp only; rw [at_appL (at_lt j2)]; exact j2⟩
  · obtain rfl:k=t.length:=by omega
    rw [List.take_length] at hfl ⊢
    obtain ⟨j1,j2⟩:=hJ hq
    have hrl:=rowsQ_len (copyF al chg 0 t) q J
    ((first
 | refine vn rfl ?_
 | simp (disch:=omega) only [wr64,Int.zero_sub]
 | refine bo (fun _=>?_) fun _=>?_
 | refine im fun _=>?_
 | refine cF ?_
 | refine om ?_
 | refine an ?_
 | fail) <;> try simp only [zT,zV,zS,zU,vcC,lateX,ex,strp,binA,elems,cells,scalar,eqC,keyA,intsA,lookA,ofVs,mpOf,Nat.reduceBEq,reduceAdd,reduceSub,reduceLT,reduceLeDiff,reduceMul,reduceEqDiff,reduceIte])
    ((first
 | refine vn rfl ?_
 | simp (disch:=omega) only [wr64,Int.zero_sub]
 | refine bo (fun _=>?_) fun _=>?_
 | refine im fun _=>?_
 | refine cF ?_
 | refine om ?_
 | refine an ?_
 | fail) <;> try simp only [zT,zV,zS,zU,vcC,lateX,ex,strp,binA,elems,cells,scalar,eqC,keyA,intsA,lookA,ofVs,mpOf,Nat.reduceBEq,reduceAdd,reduceSub,reduceLT,reduceLeDiff,reduceMul,reduceEqDiff,reduceIte])
    refine AWPC.freezeC (f:=2) (n:=t.length) (h:=1) (e:=0) (j:=0) (o:=⟨68,1,rowsQ (copyF al chg 0 t) q J,none⟩) rfl (by simp [hrl,hfl]) (show (1:Nat)≠0 by decide) (oh:=⟨24,1,[[.own 2 0 t.length]],none⟩) rfl (by omega) rfl (by simp) rfl ?_
    have hg:gone (some [⟨24,1,[[.v (.slice none 0 0)]],none⟩]::some [⟨24,1,[[.own 2 0 t.length]],none⟩]::some [⟨68,1,rowsQ (copyF al chg 0 t) q J,none⟩]::μ:Sto) 2=some [⟨24,1,[[.v (.slice none 0 0)]],none⟩]::some [⟨24,1,[[.own 2 0 t.length]],none⟩]::none::μ:=rfl
    rw [hg]
    (repeat' ((first
 | refine vn rfl ?_
 | simp (disch:=omega) only [wr64,Int.zero_sub]
 | refine bo (fun _=>?_) fun _=>?_
 | refine im fun _=>?_
 | refine cF ?_
 | refine om ?_
 | refine an ?_
 | fail) <;> try simp only [zT,zV,zS,zU,vcC,lateX,ex,strp,binA,elems,cells,scalar,eqC,keyA,intsA,lookA,ofVs,mpOf,Nat.reduceBEq,reduceAdd,reduceSub,reduceLT,reduceLeDiff,reduceMul,reduceEqDiff,reduceIte]))
    all_goals try (exfalso; omega)
    refine .mk J rfl ?_
    rw [show J=J - 3+1+1+1 by omega,at_consS,at_consS,at_consS]
    exact j2
inductive CopyR (σ:Sto) (T:Trk) (q:Nat) (r:AV) (σ':Sto):Prop
  | mk (J:Nat) (ν:Sto) (h:r=.agg [.sl 1 (rowsQ T q J)]) (hσ:σ'=σ++ν) (hge:σ.length≤J) (hJ:σ'.at J 0=some ⟨80,2,(T.getD q []).map Nod.cs,none⟩)
theorem CopyQ.shf {σ:Sto} {T:Trk} {q:Nat} (hq:q < T.length) {r:AV} {ν:Sto} (h:CopyQ T q r ν):∃ r' ν',Shf σ.length r r'∧ShfS σ.length ν ν'∧CopyR σ T q r' (σ++ν'):=by
  obtain ⟨J,rfl,hJ⟩:=h
  have hlt:=at_lt hJ
  obtain ⟨ν',hν⟩:∃ ν':Sto,ν'=(List.replicate ν.length none).set J (some [⟨80,2,(T.getD q []).map Nod.cs,none⟩]):=⟨_,rfl⟩
  have hl:ν'.length=ν.length:=by rw [hν]; simp
  have hat:∀ f i o,ν'.at f i=some o→f=J∧i=0∧o=⟨80,2,(T.getD q []).map Nod.cs,none⟩:=fun f i o ho=>by
    rw [hν] at ho
    unfold Sto.at at ho
    rw [List.getElem?_set] at ho
    by_cases hf:J=f
    · subst hf
      simp only [if_true,List.length_replicate,hlt] at ho
      cases i with
      | zero=>simp at ho; exact ⟨rfl,rfl,ho.symm⟩
      | succ i=>simp at ho
    · simp only [hf,if_false,List.getElem?_replicate] at ho
      split at ho
      · rename_i h1
        split at h1
        · simp at h1
        · simp at h1
      · cases ho
  have hatJ:ν'.at J 0=some ⟨80,2,(T.getD q []).map Nod.cs,none⟩:=by
    rw [hν]
    unfold Sto.at
    rw [List.getElem?_set_self (by simpa using hlt)]; rfl
  refine ⟨.agg [.sl 1 (rowsQ T q (σ.length+J))],ν',?_,⟨hl,fun f i o2 h2=>?_⟩,.mk (σ.length+J) ν' rfl rfl (by omega) ?_⟩
  · refine Shf.agg rfl fun i hi=>?_
    obtain rfl:i=0:=by simpa using hi
    refine Shf.sl (by rw [rowsQ_len,rowsQ_len]) (fun e he=>?_) fun e j he hj=>?_
    · rw [rowsQ_len] at he
      unfold rowsQ
      rw [range_get _ he]
      split <;> rfl
    · obtain rfl:j=0:=by omega
      rw [rowsQ_len] at he
      unfold rowsQ
      rw [range_get _ he,range_get _ he]
      by_cases hq:e=q
      · rw [if_pos hq,if_pos hq]; exact Shf.own _ _ _
      · rw [if_neg hq,if_neg hq]; exact Shf.pure (by simp)
  · obtain ⟨rfl,rfl,rfl⟩:=hat f i o2 h2
    refine ⟨_,hJ,rfl,rfl,rfl,rfl,rfl,fun e he=>?_,fun e j he hj=>?_⟩
    · obtain ⟨x,hx⟩:∃ x,(T.getD q [])[e]?=some x:=⟨_,List.getElem?_eq_getElem (by simpa using he)⟩
      rw [getD_map hx]; rfl
    · obtain ⟨x,hx⟩:∃ x,(T.getD q [])[e]?=some x:=⟨_,List.getElem?_eq_getElem (by simpa using he)⟩
      rw [getD_map hx]
      match j,hj with
      | 0,_=>exact Shf.pure (by simp)
      | 1,_=>exact Shf.pure (by simp)
  · rw [at_app]; exact hatJ
structure Ent where
  k:List Int
  l:List Sp
  g:Nat
abbrev entA (T:List Ent):List (List Int × AV):=T.map fun t=>(t.k,AV.own t.g 0 t.l.length)
def addE:List Ent→List Int→Sp→Nat→List Ent
  | [],k,s,g=>[⟨k,[s],g⟩]
  | t::r,k,s,g=>if t.k=k then ⟨t.k,t.l++[s],t.g⟩::r else t::addE r k s g
structure HopS (σ:Sto) (T:List Ent):Prop where
  a:σ.at 0 0=some ⟨0,0,[],some (.mp 2 (entA T))⟩
  o:∀ t∈T,σ.at t.g 0=some (spO t.l)
  inj:T.Pairwise fun a b=>a.g≠b.g
theorem ent_none {T:List Ent} {k:List Int} {s:Sp} {g:Nat} (h:∀ t∈T,t.k≠k):mget (entA T) k=none∧mset (entA T) k (.own g 0 1)=entA (addE T k s g)∧addE T k s g=T++[⟨k,[s],g⟩]:=by
  induction T with
  | nil=>exact ⟨rfl,rfl,rfl⟩
  | cons t r ih =>
    obtain ⟨h1,h2,h3⟩:=ih fun t ht=>h t (by simp [ht])
    have hk:¬ t.k=k:=h t (by simp)
    simp only [entA,List.map_cons,mget,hk,if_false,mset,addE,List.cons_append,h3] at h1 h2 ⊢
    exact ⟨h1,by rw [h2],trivial⟩
theorem HopS.app {σ:Sto} {T:List Ent} (h:HopS σ T) (ν:Sto):HopS (σ++ν) T :=
  ⟨by rw [at_appL (at_lt h.a)]; exact h.a,fun t ht=>by rw [at_appL (at_lt (h.o t ht))]; exact h.o t ht,h.inj⟩
theorem HopS.lt {σ:Sto} {T:List Ent} (h:HopS σ T) {t:Ent} (ht:t∈T):t.g < σ.length∧t.g≠0:=by
  refine ⟨at_lt (h.o t ht),fun e=>?_⟩
  have h1:=h.o t ht
  rw [e,h.a] at h1
  injection h1 with h1
  have:=congrArg Ob.T h1
  cases this
theorem HopS.new {σ:Sto} {T:List Ent} {k:List Int} {s:Sp} (h:HopS σ T) (hk:∀ t∈T,t.k≠k) :
    HopS (Sto.upd (σ++[some [spO [s]]]) 0 0 ⟨0,0,[],some (.mp 2 (entA (addE T k s σ.length)))⟩) (addE T k s σ.length):=by
  have h0:=at_lt h.a
  obtain ⟨_,_,h3⟩:=ent_none (s:=s) (g:=σ.length) hk
  refine ⟨at_upd_same (h.app _).a,fun t ht=>?_,?_⟩
  · rw [h3,List.mem_append,List.mem_singleton] at ht
    rcases ht with ht | rfl
    · rw [at_upd_other (.inl (h.lt ht).2.symm),at_appL (h.lt ht).1]; exact h.o t ht
    · rw [at_upd_other (.inl (by simp only; omega))]; simp only; rw [at_app0]; simp [Sto.at]
  · rw [h3,List.pairwise_append]
    refine ⟨h.inj,by simp,fun a ha b hb=>?_⟩
    rw [List.mem_singleton] at hb; subst hb
    have:=(h.lt ha).1
    simp only; omega
theorem HopS.old {σ:Sto} {A B:List Ent} {t:Ent} {s:Sp} {M:List (List Int × AV)} (h:HopS σ (A++t::B)) (hM:M=entA (A++⟨t.k,t.l++[s],t.g⟩::B)) :
    HopS (Sto.upd (σ.upd t.g 0 (spO (t.l++[s]))) 0 0 ⟨0,0,[],some (.mp 2 M)⟩) (A++⟨t.k,t.l++[s],t.g⟩::B):=by
  subst hM
  have ht:=h.lt (t:=t) (by simp)
  have hp:=h.inj
  rw [List.pairwise_append,List.pairwise_cons] at hp
  obtain ⟨p1,⟨p2,p3⟩,p4⟩:=hp
  have key:∀ u,(u∈A∨u∈B)→Sto.at (Sto.upd (σ.upd t.g 0 (spO (t.l++[s]))) 0 0 ⟨0,0,[],some (.mp 2 (entA (A++⟨t.k,t.l++[s],t.g⟩::B)))⟩) u.g 0=some (spO u.l):=by
    intro u hu
    have hm:u∈A++t::B:=by rcases hu with hu | hu <;> simp [hu]
    have hne:t.g≠u.g:=by
      rcases hu with hu | hu
      · exact (p4 u hu t (by simp)).symm
      · exact p2 u hu
    rw [at_upd_other (.inl (h.lt hm).2.symm),at_upd_other (.inl hne)]
    exact h.o u hm
  refine ⟨at_upd_same (o:=⟨0,0,[],some (.mp 2 (entA (A++t::B)))⟩) (by rw [at_upd_other (.inl ht.2)]; exact h.a),fun u hu=>?_,?_⟩
  · rw [List.mem_append,List.mem_cons] at hu
    rcases hu with hu | rfl | hu
    · exact key u (.inl hu)
    · simp only
      rw [at_upd_other (.inl ht.2.symm)]
      exact at_upd_same (h.o t (by simp))
    · exact key u (.inr hu)
  · rw [List.pairwise_append,List.pairwise_cons]
    refine ⟨p1,⟨p2,p3⟩,fun a ha b hb=>?_⟩
    rcases List.mem_cons.1 hb with rfl | hb
    · exact p4 a ha t (by simp)
    · exact p4 a ha b (by simp [hb])
end Go.Proofs.YtahkhnagpdlkiaaGreat
namespace Go.Abs
set_option linter.unusedVariables false
set_option linter.unusedSimpArgs false
theorem way_iff {t:Trk}:∀ {p:List At} {k:Nat},way t k p↔∀ i a,p[i]?=some a→placeOk t (k+i) a∧∀ b,p[i+1]?=some b→stepOk t (k+i) a b
  | [],k=>by simp [way]
  | a::r,k=>by
    rw [way_cons,way_iff (p:=r)]
    constructor
    · rintro ⟨h1,h2,h3⟩ i b hb
      cases i with
      | zero =>
        simp only [List.getElem?_cons_zero,Option.some.injEq] at hb; subst hb
        exact ⟨h1,fun b hb=>h2 b (by simpa using hb)⟩
      | succ i =>
        have:=h3 i b (by simpa using hb)
        rw [show k+(i+1)=k+1+i by omega]
        exact ⟨this.1,fun c hc=>this.2 c (by simpa using hc)⟩
    · intro h
      have h0:=h 0 a rfl
      refine ⟨h0.1,fun b hb=>h0.2 b (by simpa using hb),fun i b hb=>?_⟩
      have:=h (i+1) b (by simpa using hb)
      rw [show k+(i+1)=k+1+i by omega] at this
      exact ⟨this.1,fun c hc=>this.2 c (by simpa using hc)⟩
theorem course_iff {t:Trk} {c:List At}:course t c↔c.length=t.length∧∀ i a,c[i]?=some a→placeOk t i a∧∀ b,c[i+1]?=some b→stepOk t i a b:=by
  unfold course
  rw [way_iff]
  simp only [Nat.zero_add]
def lessC:List At→List At→Bool
  | a::r,b::s=>if a.node≠b.node then decide (a.node < b.node) else if a.val≠b.val then decide (a.val < b.val) else lessC r s
  | _,_=>false
theorem firstGo_min {t t':Trk} (hv:valid t') (hl:t'.length=t.length) (hnx:∀ j i,i < wd t' j→(nodAt t' j i).nx=(nodAt t j i).nx) :
    ∀ (m k:Nat) (may:List (List Sp)) (p:List At),m+k+1=t.length→goods may→(∀ (j:Nat) v,Mem v (may.getD j [])→j < wd t' k∧Mem v ((bwd t' k).getD j []))→p.length=m+1→way t' k p →
      (∀ a,p[0]?=some a→Mem a.val (may.getD a.node.toNat []))→lessC p (firstGo t (bwds t') (m+1) k may)=false:=by
  intro m
  induction m with
  | zero =>
    intro k may p hk hg hsub hp hw h0
    cases hq:pickF 0 may with
    | none=>rw [show firstGo t (bwds t') 1 k may=[] by simp [firstGo,hq]]; cases p <;> rfl
    | some a =>
      have e:firstGo t (bwds t') 1 k may=[a]:=by simp [firstGo,hq]
      obtain ⟨b,rfl⟩:=List.length_eq_one_iff.1 hp
      rw [e]
      obtain ⟨j,s,r,h1,ha,h2⟩:=pickF_some hq
      have hb:=h0 b rfl
      have hpl:placeOk t' k b:=hw
      have hpn0:=hpl.1
      have hge:(j:Int)≤b.node:=by
        by_cases hlt:b.node.toNat < j
        · have h3:=h2 _ hlt
          rw [List.getD_eq_getElem?_getD] at hb
          rcases hx:may[b.node.toNat]? with _ | x
          · rw [hx] at hb; exact absurd hb Mem.nil
          · rw [hx] at hb h3
            simp at h3; subst h3
            exact absurd hb Mem.nil
        · omega
      have hpn:=hpl.1
      simp only [lessC]
      subst ha
      simp only [Nat.zero_add]
      by_cases hn:b.node=(j:Int)
      · rw [if_neg (by simp [hn])]
        have hgd:may.getD j []=s::r:=by rw [List.getD_eq_getElem?_getD,h1]; rfl
        rw [hn,Int.toNat_natCast,hgd] at hb
        have hnorm:Norm (s::r):=by rw [← hgd]; exact (goods_get hg j).1
        have hmin:s.lo≤b.val:=by
          obtain ⟨x,hx,hx1,hx2⟩:=hb
          rcases List.mem_cons.1 hx with rfl | hx
          · exact hx1
          · have h3:=norm_append (a:=[s]) (b:=r)
            simp only [List.singleton_append] at h3
            have h4:=(h3.1 hnorm).2.2 s (by simp) x hx
            have h5:=hnorm.ne s (by simp)
            omega
        by_cases hvv:b.val=s.lo
        · simp [hvv]
        · rw [if_pos hvv]; simp; omega
      · rw [if_pos hn]; simp; omega
  | succ m ih =>
    intro k may p hk hg hsub hp hw h0
    cases hq:pickF 0 may with
    | none =>
      exfalso
      cases p with
      | nil=>cases hp
      | cons b p =>
        have hb:=h0 b rfl
        rw [pickF_none] at hq
        by_cases hi:b.node.toNat < may.length
        · rw [hq _ (List.mem_of_getElem? (getD_some hi))] at hb; exact Mem.nil hb
        · rw [getD_none (by omega)] at hb; exact Mem.nil hb
    | some a =>
      have e:firstGo t (bwds t') (m+1+1) k may=a::firstGo t (bwds t') (m+1) (k+1) (nextM t (bwds t') k may a):=by rw [firstGo,hq]
      cases p with
      | nil=>cases hp
      | cons b p =>
      rw [e]
      obtain ⟨j,s,r,h1,ha,h2⟩:=pickF_some hq
      have hb:=h0 b rfl
      rw [way_cons] at hw
      obtain ⟨hpl,hst,hw⟩:=hw
      have hge:(j:Int)≤b.node:=by
        by_cases hlt:b.node.toNat < j
        · have h3:=h2 _ hlt
          rw [List.getD_eq_getElem?_getD] at hb
          rcases hx:may[b.node.toNat]? with _ | x
          · rw [hx] at hb; exact absurd hb Mem.nil
          · rw [hx] at hb h3
            simp at h3; subst h3
            exact absurd hb Mem.nil
        · have:=hpl.1; omega
      have hpn:=hpl.1
      simp only [lessC]
      have ha1:a.node=(j:Int):=by rw [ha]; simp
      have ha2:a.val=s.lo:=by rw [ha]
      by_cases hn:b.node=(j:Int)
      · rw [if_neg (by simp [hn,ha1])]
        have hgd:may.getD j []=s::r:=by rw [List.getD_eq_getElem?_getD,h1]; rfl
        rw [hn,Int.toNat_natCast,hgd] at hb
        have hnorm:Norm (s::r):=by rw [← hgd]; exact (goods_get hg j).1
        have hmin:s.lo≤b.val:=by
          obtain ⟨x,hx,hx1,hx2⟩:=hb
          rcases List.mem_cons.1 hx with rfl | hx
          · exact hx1
          · have h3:=norm_append (a:=[s]) (b:=r)
            simp only [List.singleton_append] at h3
            have h4:=(h3.1 hnorm).2.2 s (by simp) x hx
            have h5:=hnorm.ne s (by simp)
            omega
        by_cases hvv:b.val=s.lo
        · rw [if_neg (by simp [hvv,ha2])]
          have hN:nextM t (bwds t') k may a=stepS (nodAt t k j) a.val (bwd t' (k+1)):=by
            unfold nextM
            rw [if_pos (by omega),bwds_getD (by omega),ha1]; simp
          have hms:Mem s.lo (may.getD j []):=by rw [hgd]; exact ⟨s,by simp,Int.le_refl _,hnorm.ne s (by simp)⟩
          obtain ⟨hj,_⟩:=hsub j s.lo hms
          have hgb:=bwd_goods hv (k+1)
          have hlb:=bwd_len (t:=t') (k:=k+1) (by omega)
          have hg':goods (stepS (nodAt t k j) a.val (bwd t' (k+1))):=fun l hl=>by
            obtain ⟨q,_,rfl⟩:=List.mem_map.1 hl
            refine ⟨joins0_norm _,in_of_mem (joins0_norm _) fun u hu=>?_⟩
            exact mem_of_in (goods_get hgb q).2 ((step1_mem q u).1 hu).2
          have hlen:∀ q u,Mem u ((stepS (nodAt t k j) a.val (bwd t' (k+1))).getD q [])→q < wd t' (k+1)∧Mem u (step1 (nodAt t k j) a.val (bwd t' (k+1)) q):=fun q u hu=>by
            by_cases hq:q < (bwd t' (k+1)).length
            · rw [stepS_get hq] at hu
              exact ⟨by omega,hu⟩
            · rw [getD_none (by simp [stepS]; omega)] at hu
              exact absurd hu Mem.nil
          rw [hN]
          refine ih (k+1) _ p (by omega) hg' (fun q u hu=>⟨(hlen q u hu).1,((step1_mem q u).1 (hlen q u hu).2).2⟩) (by simpa using hp) hw fun c hc=>?_
          cases p with
          | nil=>cases hc
          | cons c' p =>
            simp only [List.getElem?_cons_zero,Option.some.injEq] at hc; subst hc
            have hbw:=(bwd_way hv (k+1) c' (by omega)).2 ⟨p,by simp at hp; omega,hw⟩
            obtain ⟨b1,b2,b3⟩:=hbw
            rw [stepS_get (by omega),step1_mem]
            refine ⟨?_,b3⟩
            obtain ⟨e',he',q1,q2,q3⟩:=(stepOk_iff hv hpl.1 b1 hpl.2.1).1 (hst c' rfl)
            rw [hn,Int.toNat_natCast,hnx k j hj] at he'
            exact ⟨e',he',by omega,by omega,by omega⟩
        · rw [if_pos (by rw [ha2]; exact hvv)]; simp; omega
      · rw [if_pos (by rw [ha1]; exact hn)]; simp; omega
theorem firstT_min {t t':Trk} (hv:valid t') (hl:t'.length=t.length) (hnx:∀ j i,i < wd t' j→(nodAt t' j i).nx=(nodAt t j i).nx) {c:List At} (hc:course t' c):lessC c (firstT t (bwds t'))=false:=by
  have h1:=hv.1
  obtain ⟨m,hm⟩:∃ m,t.length=m+1:=⟨t.length - 1,by omega⟩
  unfold firstT
  rw [hm,bwds_getD (by omega)]
  refine firstGo_min hv hl hnx m 0 (bwd t' 0) c (by omega) (bwd_goods hv 0) (fun j v h=>by
    by_cases hj:j < (bwd t' 0).length
    · exact ⟨by rw [bwd_len (by omega)] at hj; exact hj,h⟩
    · rw [getD_none (by omega)] at h; exact absurd h Mem.nil) (by rw [hc.1]; omega) hc.2 fun a ha=>?_
  cases c with
  | nil=>cases ha
  | cons b p =>
    simp only [List.getElem?_cons_zero,Option.some.injEq] at ha; subst ha
    have:=hc.1
    simp only [List.length_cons] at this
    exact ((bwd_way hv 0 b (by omega)).2 ⟨p,by omega,hc.2⟩).2.2
end Go.Abs
namespace Go.Proofs.YtahkhnagpdlkiaaGreat
open Go.Abs
open Nat (reduceAdd reduceSub reduceLT reduceLeDiff reduceMul reduceEqDiff)
set_option linter.unusedVariables false
set_option linter.unusedSimpArgs false
set_option maxHeartbeats 4000000
set_option maxRecDepth 100000
def c108:CF:=⟨1,
 (.seq (.ops [
 ⟨some 0,.mv (.c (.bool false)),none⟩] [])
 (.seq (.ops [
 ⟨some 0,.mv (.c (.bool true)),none⟩] [0])
 .ret)),
 [.t 0]⟩
def c46:CF:=⟨14,
 (.seq (.ops [
 ⟨some 1,.box false 24 1 (.t 0),none⟩,
 ⟨some 2,.mv (.c (.slice none 0 0)),none⟩,
 ⟨some 3,.mv (.c (.int .i64 0)),none⟩] [1])
 (.seq (.seq (.ops [
 ⟨some 5,.load (some 1) (.t 1),none⟩,
 ⟨some 6,.call (.f 90) [(.t 5),(.f 108)],none⟩,
 ⟨some 4,.mv (.t 6),none⟩] [1,4])
 (.seq (.ops [
 ⟨some 7,.mv (.t 4),none⟩,
 ⟨some 8,.bin .neq (.t 7) (.c (.int .i64 0)),none⟩] [1,4,8])
 (.cond (.t 8) (.seq (.ops [
 ⟨some 9,.mv (.t 4),none⟩,
 ⟨some 2,.mv (.c (.slice none 0 0)),none⟩,
 ⟨some 3,.mv (.t 9),none⟩] [2,3])
 .ret)
 .skip)))
 (.seq (.draw [
 ⟨some 10,.load (some 1) (.t 1),none⟩,
 ⟨some 11,.load (some 1) (.t 1),none⟩,
 ⟨some 12,.call (.f 86) [(.t 11)],none⟩,
 ⟨some 13,.call (.f 109) [(.t 10),(.t 12)],none⟩,
 ⟨some 2,.mv (.t 13),none⟩,
 ⟨some 3,.mv (.c (.int .i64 0)),none⟩] [
 ] [2,3])
 .ret))),
 [.t 2,.t 3]⟩
theorem k108:chkF Tryz.prog Tryz.f108 c108=true:=by kernel_rfl
theorem k46:chkF Tryz.prog Tryz.f46 c46=true:=by kernel_rfl
theorem true_spec:Pure Tryz.prog 108 [] (bl true):=by
  refine Pure.of_body Tryz.call108 Tryz.func108 k108 (Nat.le_of_ble_eq_true rfl) ?_
  unfold c108
  (repeat' ((first
 | refine vn rfl ?_
 | simp (disch:=omega) only [wr64,Int.zero_sub]
 | refine bo (fun _=>?_) fun _=>?_
 | refine im fun _=>?_
 | refine cF ?_
 | refine om ?_
 | refine an ?_
 | fail) <;> try simp only [zT,zV,zS,zU,vcC,lateX,ex,strp,binA,elems,cells,scalar,eqC,keyA,intsA,lookA,ofVs,mpOf,Nat.reduceBEq,reduceAdd,reduceSub,reduceLT,reduceLeDiff,reduceMul,reduceEqDiff,reduceIte]))
  all_goals exact Frz.eq rfl (by simp)
noncomputable abbrev courseR (t:Trk):List At × Int:=if askE t true=0 then (firstT t (bwds t),0) else ([],askE t true)
theorem Course_spec (t:Trk) (hs:trkSz t):Pure Tryz.prog 46 [trS t] (.tup [atS (courseR t).1,n (courseR t).2]):=by
  refine Pure.of_body Tryz.call46 Tryz.func46 k46 (Nat.le_of_ble_eq_true rfl) ?_
  unfold c46
  have ha:=asked_spec t hs 108 [] (by simp) true (fun _=>true_spec)
  unfold courseR
  by_cases h0:askE t true=0
  · rw [if_pos h0]
    rw [h0] at ha
    obtain ⟨hv,_,hf⟩:=askE0.1 h0
    have hbw:=backward_spec t hv
    have hfi:=first_spec t (bwds t) hv (by simp [bwds]) (fun j hj=>by rw [bwds_getD (by omega),bwd_len (by omega)]) (fun j hj=>by rw [bwds_getD (by omega)]; exact bwd_goods hv j)
    (repeat' ((first
 | refine vn rfl ?_
 | simp (disch:=omega) only [wr64,Int.zero_sub]
 | refine bo (fun _=>?_) fun _=>?_
 | refine im fun _=>?_
 | ((repeat refine si ?_); (first | ((first | refine .inl ⟨_,_,_,_,rfl,fun _=>pu (by first | exact ha | exact hbw | exact hfi),?_⟩ | refine ⟨_,_,_,_,rfl,fun _=>pu (by first | exact ha | exact hbw | exact hfi),?_⟩); (first | refine o1 ?_ | refine o2 ?_ | refine o3 ?_ | refine o4 ?_)) | refine .inl ⟨_,_,_,_,rfl,pu (by first | exact ha | exact hbw | exact hfi),?_⟩))
 | refine cF ?_
 | refine om ?_
 | refine an ?_
 | fail) <;> try simp only [zT,zV,zS,zU,vcC,lateX,ex,strp,binA,elems,cells,scalar,eqC,keyA,intsA,lookA,ofVs,mpOf,Nat.reduceBEq,reduceAdd,reduceSub,reduceLT,reduceLeDiff,reduceMul,reduceEqDiff,reduceIte]))
    all_goals try (exfalso; omega)
    all_goals exact Frz.eq rfl (by simp)
  · rw [if_neg h0]
    generalize askE t true=e at *
    (repeat' ((first
 | refine vn rfl ?_
 | simp (disch:=omega) only [wr64,Int.zero_sub]
 | refine bo (fun _=>?_) fun _=>?_
 | refine im fun _=>?_
 | ((repeat refine si ?_); (first | ((first | refine .inl ⟨_,_,_,_,rfl,fun _=>pu ha,?_⟩ | refine ⟨_,_,_,_,rfl,fun _=>pu ha,?_⟩); (first | refine o1 ?_ | refine o2 ?_ | refine o3 ?_ | refine o4 ?_)) | refine .inl ⟨_,_,_,_,rfl,pu ha,?_⟩))
 | refine cF ?_
 | refine om ?_
 | refine an ?_
 | fail) <;> try simp only [zT,zV,zS,zU,vcC,lateX,ex,strp,binA,elems,cells,scalar,eqC,keyA,intsA,lookA,ofVs,mpOf,Nat.reduceBEq,reduceAdd,reduceSub,reduceLT,reduceLeDiff,reduceMul,reduceEqDiff,reduceIte]))
    all_goals try (exfalso; omega)
    all_goals exact frz2 frz_nil (by simp)
theorem course_E {t:Trk}:(courseR t).2=0→valid t∧course t (courseR t).1∧∀ c,course t c→lessC c (courseR t).1=false:=by
  unfold courseR
  by_cases h0:askE t true=0
  · rw [if_pos h0]
    intro _
    obtain ⟨hv,_,hf⟩:=askE0.1 h0
    obtain ⟨c,hc⟩:=(feas_course hv).1 hf
    have hl:=hv.1
    have hs:some' (bwd t 0)=true:=by
      rw [some_iff (bwd_goods hv 0)]
      cases c with
      | nil=>have:=hc.1; simp at this; omega
      | cons b p =>
        have h1:=hc.1
        simp only [List.length_cons] at h1
        have hb:=(bwd_way hv 0 b (by omega)).2 ⟨p,by omega,hc.2⟩
        exact ⟨b.node.toNat,b.val,by rw [bwd_len (by omega)]; omega,hb.2.2⟩
    exact ⟨hv,firstT_course hv rfl (fun _ _ _=>rfl) hs,fun c hc=>firstT_min hv rfl (fun _ _ _=>rfl) hc⟩
  · rw [if_neg h0]; intro h; exact absurd h h0
section
variable {t:Trk}
theorem copyT_stp_id {al:Nat→Nat→List Sp} (hv:valid t) (k:Nat):stp (copyT t al fun _ s=>s) k=stp t k:=by
  have key:∀ (l:List Nod) (i j:Nat),(∀ x∈l,∀ e∈x.nx,chOk e.ch)→hopsF j (copyL (al k) (fun s=>s) i l)=hopsF j l:=by
    intro l
    induction l with
    | nil=>intro i j _; rfl
    | cons x r ih =>
      intro i j h
      have hx:x.nx.flatMap (chgE fun s=>s)=x.nx:=by
        have h1:∀ e∈x.nx,chgE (fun s=>s) e=[e]:=fun e he=>by
          have:=(h x (by simp) e he).2.1
          unfold chgE; rw [if_pos this]
        have:∀ l:List Edg,(∀ e∈l,chgE (fun s=>s) e=[e])→l.flatMap (chgE fun s=>s)=l:=by
          intro l
          induction l with
          | nil=>intro _; rfl
          | cons e l ih=>intro hl; rw [List.flatMap_cons,hl e (by simp),ih fun e' he'=>hl e' (by simp [he'])]; rfl
        exact this _ h1
      simp only [copyL,hopsF,hopsOf,copyN,hx,ih (i+1) (j+1) fun y hy=>h y (by simp [hy])]
  unfold stp
  rw [copyT_stg]
  refine key _ _ _ fun x hx e he=>?_
  by_cases hk:k < t.length
  · exact ((valid_stg hv hk).2.2 x hx).2.2 e he |>.2.2
  · rw [List.getD_eq_getElem?_getD,List.getElem?_eq_none (by omega)] at hx; cases hx
theorem copyL_id {al:Nat→List Sp}:∀ (l:List Nod) (i:Nat),(∀ j x,l[j]?=some x→al (i+j)=x.al)→(∀ x∈l,∀ e∈x.nx,chOk e.ch)→copyL al (fun s=>s) i l=l
  | [],_,_,_=>rfl
  | x::r,i,h,hc=>by
    have hx:x.nx.flatMap (chgE fun s=>s)=x.nx:=by
      have:∀ l:List Edg,(∀ e∈l,chOk e.ch)→l.flatMap (chgE fun s=>s)=l:=by
        intro l
        induction l with
        | nil=>intro _; rfl
        | cons e l ih =>
          intro hl
          have:=(hl e (by simp)).2.1
          rw [List.flatMap_cons,ih fun e' he'=>hl e' (by simp [he'])]
          unfold chgE; rw [if_pos this]; rfl
      exact this _ (hc x (by simp))
    have ha:=h 0 x rfl
    have ih:=copyL_id r (i+1) (fun j y hy=>by rw [← h (j+1) y (by simpa using hy)]; congr 1; omega) fun y hy=>hc y (by simp [hy])
    simp only [copyL,copyN,hx,ih]
    rw [show al i=x.al from ha]
end
def c48:CF:=⟨60,
 (.seq (.ops [
 ⟨some 3,.box false 24 1 (.t 0),none⟩,
 ⟨some 6,.alloc 24 1 [.slice none 0 0],none⟩,
 ⟨some 7,.mv (.c (.int .i64 0)),none⟩] [1,2,3,6])
 (.seq (.seq (.ops [
 ⟨some 12,.load (some 1) (.t 3),none⟩,
 ⟨some 13,.call (.f 53) [(.t 12)],none⟩,
 ⟨some 8,.mv (.t 13),none⟩] [1,2,3,6,8])
 (.seq (.ops [
 ⟨some 14,.mv (.t 8),none⟩,
 ⟨some 15,.bin .neq (.t 14) (.c (.int .i64 0)),none⟩] [1,2,3,6,8,15])
 (.cond (.t 15) (.seq (.ops [
 ⟨some 16,.build [.slice none 0 0] [],none⟩,
 ⟨some 17,.mv (.t 8),none⟩,
 ⟨none,.store 1 (.t 6) (.t 16),none⟩,
 ⟨some 7,.mv (.t 17),none⟩] [6,7])
 .ret)
 .skip)))
 (.seq (.seq (.ops [
 ⟨some 18,.mv (.t 1),none⟩,
 ⟨some 19,.bin .lss (.t 18) (.c (.int .i64 0)),none⟩,
 ⟨some 20,.mv (.t 19),none⟩,
 ⟨some 21,.mv (.t 1),some (20,false)⟩,
 ⟨some 22,.mv (.t 2),some (20,false)⟩,
 ⟨some 23,.bin .gtr (.t 21) (.t 22),some (20,false)⟩,
 ⟨some 24,.pick (.t 20) (.c (.bool true)) (.t 23),none⟩,
 ⟨some 25,.mv (.t 24),none⟩,
 ⟨some 26,.load (some 1) (.t 3),some (25,false)⟩,
 ⟨some 27,.mv (.t 2),some (25,false)⟩,
 ⟨some 28,.call (.f 92) [(.t 26),(.t 27)],some (25,false)⟩,
 ⟨some 29,.un .not (.t 28),some (25,false)⟩,
 ⟨some 30,.pick (.t 25) (.c (.bool true)) (.t 29),none⟩] [1,2,3,6,30])
 (.cond (.t 30) (.seq (.ops [
 ⟨some 31,.build [.slice none 0 0] [],none⟩,
 ⟨none,.store 1 (.t 6) (.t 31),none⟩,
 ⟨some 7,.mv (.c (.int .i64 1)),none⟩] [6,7])
 .ret)
 .skip))
 (.seq (.ops [
 ⟨some 32,.load (some 1) (.t 3),none⟩,
 ⟨some 33,.mkfn (.func 111) [] [(.t 3)],none⟩,
 ⟨some 34,.call (.f 101) [(.t 32),(.t 33),(.f 103)],none⟩,
 ⟨some 9,.alloc 24 1 [.slice none 0 0],none⟩,
 ⟨none,.store 1 (.t 9) (.t 34),none⟩] [1,2,6,9])
 (.seq (.ops [
 ⟨some 35,.faddr 0 (.t 9),none⟩,
 ⟨some 36,.load none (.t 35),none⟩,
 ⟨some 37,.mv (.t 1),none⟩,
 ⟨some 38,.mv (.t 2),none⟩,
 ⟨some 39,.bin .add (.t 38) (.c (.int .i64 1)),none⟩,
 ⟨some 40,.slice 1 (.t 36) (some (.t 37)) (some (.t 39)),none⟩,
 ⟨some 41,.faddr 0 (.t 9),none⟩,
 ⟨none,.store 1 (.t 41) (.t 40),none⟩] [1,2,6,9])
 (.seq (.ops [
 ⟨some 42,.faddr 0 (.t 9),none⟩,
 ⟨some 43,.load none (.t 42),none⟩,
 ⟨some 44,.mv (.t 2),none⟩,
 ⟨some 45,.mv (.t 1),none⟩,
 ⟨some 46,.bin .sub (.t 44) (.t 45),none⟩,
 ⟨some 47,.iaddr 1 (.t 43) (.t 46),none⟩,
 ⟨some 48,.load none (.t 47),none⟩,
 ⟨some 10,.mv (.t 48),none⟩] [6,9,10])
 (.seq (.seq (.ops [
 ⟨some 49,.mv (.t 10),none⟩,
 ⟨some 50,.len (.t 49),none⟩,
 ⟨some 51,.mv (.c (.int .i64 0)),none⟩] [6,9,10,50,51])
 (.block 0 (.loop (.seq (.ops [
 ⟨some 52,.bin .lss (.t 51) (.t 50),none⟩] [6,9,10,50,51,52])
 (.seq (.cond (.t 52) .skip
 (.exit 0))
 (.seq (.block 1 (.seq (.ops [
 ⟨some 53,.mv (.t 51),none⟩,
 ⟨some 11,.mv (.t 53),none⟩] [6,9,10,11,50,51])
 (.ops [
 ⟨some 54,.mv (.t 10),none⟩,
 ⟨some 55,.mv (.t 11),none⟩,
 ⟨some 56,.iaddr 2 (.t 54) (.t 55),none⟩,
 ⟨some 57,.faddr 1 (.t 56),none⟩,
 ⟨none,.store 1 (.t 57) (.c (.slice none 0 0)),none⟩] [6,9,10,50,51])))
 (.ops [
 ⟨some 58,.bin .add (.t 51) (.c (.int .i64 1)),none⟩,
 ⟨some 51,.mv (.t 58),none⟩] [6,9,10,50,51])))))))
 (.seq (.ops [
 ⟨some 59,.load (some 1) (.t 9),none⟩,
 ⟨none,.store 1 (.t 6) (.t 59),none⟩,
 ⟨some 7,.mv (.c (.int .i64 0)),none⟩] [6,7])
 .ret)))))))),
 [.c 6 (some 1),.t 7]⟩
def c111:CF:=⟨15,
 (.seq (.ops [
 ⟨some 5,.mv (.c (.slice none 0 0)),none⟩] [0,1,2])
 (.seq (.ops [
 ⟨some 6,.faddr 0 (.t 2),none⟩,
 ⟨some 7,.load none (.t 6),none⟩,
 ⟨some 8,.mv (.t 0),none⟩,
 ⟨some 9,.iaddr 1 (.t 7) (.t 8),none⟩,
 ⟨some 10,.load none (.t 9),none⟩,
 ⟨some 11,.mv (.t 1),none⟩,
 ⟨some 12,.iaddr 2 (.t 10) (.t 11),none⟩,
 ⟨some 13,.faddr 0 (.t 12),none⟩,
 ⟨some 14,.load none (.t 13),none⟩,
 ⟨some 5,.mv (.t 14),none⟩] [5])
 .ret)),
 [.t 5]⟩
theorem k48:chkF Tryz.prog Tryz.f48 c48=true:=by kernel_rfl
theorem k111:chkF Tryz.prog Tryz.f111 c111=true:=by kernel_rfl
theorem part1_spec (t:Trk) (hv:valid t) (k i:Nat) (hk:k < t.length) (hi:i < wd t k):Pure Tryz.prog 111 [n (k:Int),n (i:Int),.iptr [tkS t] 0] (spS ((als t k).getD i [])):=by
  refine Pure.of_body Tryz.call111 Tryz.func111 k111 (Nat.le_of_ble_eq_true rfl) ?_
  unfold c111
  have gtk:(t.map fun l=>[stS l]).getD k []=[stS (t.getD k [])]:=getD_map (getD_some hk)
  have hx:(t.getD k [])[i]?=some ((t.getD k []).getD i ⟨[],[]⟩):=getD_some hi
  have gx:((t.getD k []).map Nod.cs).getD i []=Nod.cs ((t.getD k []).getD i ⟨[],[]⟩):=getD_map hx
  have hal:(als t k).getD i []=((t.getD k []).getD i ⟨[],[]⟩).al:=getD_map hx
  have hww:wd t k=(t.getD k []).length:=rfl
  rw [hal]
  rw [hww] at hi
  generalize ((t.getD k []).getD i ⟨[],[]⟩)=x at *
  (repeat' ((first
 | refine vn rfl ?_
 | simp (disch:=omega) only [wr64,Int.zero_sub]
 | refine bo (fun _=>?_) fun _=>?_
 | refine im fun _=>?_
 | refine cF ?_
 | refine om ?_
 | refine an ?_
 | fail) <;> try simp only [zT,zV,zS,zU,vcC,lateX,ex,strp,binA,elems,cells,scalar,eqC,keyA,intsA,lookA,ofVs,mpOf,Nat.reduceBEq,reduceAdd,reduceSub,reduceLT,reduceLeDiff,reduceMul,reduceEqDiff,reduceIte,gtk,gx]))
  all_goals try (exfalso; omega)
  all_goals exact Frz.eq rfl (by simp)
def noNx (x:Nod):Nod:=⟨x.al,[]⟩
def partT (t:Trk) (a b:Nat):Trk:=(List.range (b+1 - a)).map fun k=>if k=b - a then (t.getD b []).map noNx else t.getD (a+k) []
noncomputable def partE (t:Trk) (a b:Int):Int:=if tr (valid t)=true then (if 0≤a∧a≤b∧b < (t.length:Int) then 0 else 1) else 40
noncomputable def partR (t:Trk) (a b:Int):Trk:=if partE t a b=0 then partT t a.toNat b.toNat else []
theorem copyT_id {t:Trk} (hv:valid t):copyT t (fun k i=>(als t k).getD i []) (fun _ s=>s)=t:=by
  refine List.ext_getElem? fun k=>?_
  by_cases hk:k < t.length
  · rw [getD_some (d:=[]) (show k < (copyT t (fun k i=>(als t k).getD i []) (fun _ s=>s)).length by rw [copyF_len]; exact hk),getD_some (d:=[]) hk,copyT_stg]
    refine congrArg some (copyL_id _ 0 (fun j x hx=>?_) fun x hx e he=>(((valid_stg hv hk).2.2 x hx).2.2 e he).2.2)
    rw [Nat.zero_add]
    exact getD_map hx
  · rw [List.getElem?_eq_none (by rw [copyF_len]; omega),List.getElem?_eq_none (by omega)]
theorem getD_dropTake {α:Type} {l:List α} {a b i:Nat} {d:α} (hb:b < l.length) (h:a+i≤b):((l.take (b+1)).drop a).getD i d=l.getD (a+i) d:=by
  rw [List.getD_eq_getElem?_getD,List.getElem?_drop,List.getElem?_take_of_lt (by omega),← List.getD_eq_getElem?_getD]
theorem Part_spec (t:Trk) (a b:Int) (hs:trkSz t):Pure Tryz.prog 48 [trS t,n a,n b] (.tup [trS (partR t a b),n (partE t a b)]):=by
  refine Pure.of_body Tryz.call48 Tryz.func48 k48 (Nat.le_of_ble_eq_true rfl) ?_
  unfold c48
  have hck:=Check_spec t hs
  have hst:=isStageOf_spec t b
  by_cases hv:valid t
  case neg =>
    have e1:partE t a b=40:=by unfold partE; rw [tr_0 hv]; rfl
    have e2:partR t a b=[]:=by unfold partR; rw [e1]; rfl
    rw [e1,e2]
    rw [tr_0 hv] at hck
    simp only [Bool.false_eq_true,if_false] at hck
    (repeat' ((first
 | refine vn rfl ?_
 | simp (disch:=omega) only [wr64,Int.zero_sub]
 | refine bo (fun _=>?_) fun _=>?_
 | refine im fun _=>?_
 | ((repeat refine si ?_); (first | ((first | refine .inl ⟨_,_,_,_,rfl,fun _=>pu hck,?_⟩ | refine ⟨_,_,_,_,rfl,fun _=>pu hck,?_⟩); (first | refine o1 ?_ | refine o2 ?_ | refine o3 ?_ | refine o4 ?_)) | refine .inl ⟨_,_,_,_,rfl,pu hck,?_⟩))
 | refine cF ?_
 | refine om ?_
 | refine an ?_
 | fail) <;> try simp only [zT,zV,zS,zU,vcC,lateX,ex,strp,binA,elems,cells,scalar,eqC,keyA,intsA,lookA,ofVs,mpOf,Nat.reduceBEq,reduceAdd,reduceSub,reduceLT,reduceLeDiff,reduceMul,reduceEqDiff,reduceIte]))
    all_goals try (exfalso; omega)
    all_goals exact frz2 frz_aggnil (by simp)
  rw [tr_1 hv] at hck
  simp only [if_true] at hck
  have hE:partE t a b=if 0≤a∧a≤b∧b < (t.length:Int) then 0 else 1:=by unfold partE; rw [tr_1 hv,if_pos rfl]
  have h2:=hv.2.1
  by_cases hab:0≤a∧a≤b∧b < (t.length:Int)
  case neg =>
    rw [if_neg hab] at hE
    have e2:partR t a b=[]:=by unfold partR; rw [hE]; rfl
    rw [hE,e2]
    (repeat' ((first
 | refine vn rfl ?_
 | simp (disch:=omega) only [wr64,Int.zero_sub]
 | refine bo (fun _=>?_) fun _=>?_
 | refine im fun _=>?_
 | ((repeat refine si ?_); (first | ((first | refine .inl ⟨_,_,_,_,rfl,fun _=>pu (by first | exact hck | exact hst),?_⟩ | refine ⟨_,_,_,_,rfl,fun _=>pu (by first | exact hck | exact hst),?_⟩); (first | refine o1 ?_ | refine o2 ?_ | refine o3 ?_ | refine o4 ?_)) | refine .inl ⟨_,_,_,_,rfl,pu (by first | exact hck | exact hst),?_⟩))
 | refine cF ?_
 | refine om ?_
 | refine an ?_
 | fail) <;> try simp only [zT,zV,zS,zU,vcC,lateX,ex,strp,binA,elems,cells,scalar,eqC,keyA,intsA,lookA,ofVs,mpOf,Nat.reduceBEq,reduceAdd,reduceSub,reduceLT,reduceLeDiff,reduceMul,reduceEqDiff,reduceIte]))
    all_goals try (exfalso; omega)
    all_goals exact frz2 frz_aggnil (by simp)
  rw [if_pos hab] at hE
  have e2:partR t a b=partT t a.toNat b.toNat:=by unfold partR; rw [hE]; rfl
  rw [hE,e2]
  obtain ⟨ha,hle,hb⟩:=hab
  obtain ⟨p,rfl⟩:∃ p:Nat,a=p:=⟨a.toNat,by omega⟩
  obtain ⟨q,rfl⟩:∃ q:Nat,b=q:=⟨b.toNat,by omega⟩
  simp only [Int.toNat_natCast]
  have hq:q < t.length:=by omega
  have hcp:=copied_does0 q t hv 111 103 [.iptr [tkS t] 0] [] (by simp (maxDischargeDepth:=9)) (by simp) (fun k i=>(als t k).getD i []) (fun _ s=>s)
    (fun k i hk hi=>⟨part1_spec t hv k i hk hi,by have:=good_len (goods_get (als_goods hv k) i); omega⟩) (fun k s=>same_spec k s) hq
  rw [copyT_id hv] at hcp
  have hcd:∀ σ,Does Tryz.prog 101 [trS t,.fn (.func 111) [] [.iptr [tkS t] 0],.fn (.func 103) [] []] σ (CopyR σ t q):=fun σ=>hcp.lift (by simp (maxDischargeDepth:=9)) fun r ν h=>h.shf hq
  rw [decide_eq_true (show 0≤(q:Int)∧(q:Int) < (t.length:Int) by omega)] at hst
  (repeat' ((first
 | refine vn rfl ?_
 | simp (disch:=omega) only [wr64,Int.zero_sub]
 | refine bo (fun _=>?_) fun _=>?_
 | refine im fun _=>?_
 | ((repeat refine si ?_); (first | ((first | refine .inl ⟨_,_,_,_,rfl,fun _=>pu (by first | exact hck | exact hst),?_⟩ | refine ⟨_,_,_,_,rfl,fun _=>pu (by first | exact hck | exact hst),?_⟩); (first | refine o1 ?_ | refine o2 ?_ | refine o3 ?_ | refine o4 ?_)) | refine .inl ⟨_,_,_,_,rfl,pu (by first | exact hck | exact hst),?_⟩))
 | refine cF ?_
 | refine om ?_
 | refine an ?_
 | fail) <;> try simp only [zT,zV,zS,zU,vcC,lateX,ex,strp,binA,elems,cells,scalar,eqC,keyA,intsA,lookA,ofVs,mpOf,Nat.reduceBEq,reduceAdd,reduceSub,reduceLT,reduceLeDiff,reduceMul,reduceEqDiff,reduceIte]))
  all_goals try (exfalso; omega)
  refine .inr (.inl ⟨_,_,_,_,rfl,fun _=>⟨hcd _,?_⟩,fun h=>by cases h⟩)
  rintro res σ' ⟨J,ν,rfl,rfl,hge,hJ⟩
  refine owp_of_exs ?_
  simp only [zT,zV,zS,zU,vcC,lateX,ex,strp,binA,elems,cells,scalar,eqC,keyA,intsA,lookA,ofVs,mpOf,Nat.reduceBEq,reduceAdd,reduceSub,reduceLT,reduceLeDiff,reduceMul,reduceEqDiff,reduceIte]
  simp only [List.singleton_append,List.length_singleton,List.cons_append,List.nil_append] at hJ hge ⊢
  have hJl:=at_lt hJ
  have a0:Sto.at (some [⟨24,1,[[.v (.slice none 0 0)]],none⟩]::(ν++[some [⟨24,1,[[.sl 1 (rowsQ t q J)]],none⟩]])) 0 0=some ⟨24,1,[[.v (.slice none 0 0)]],none⟩:=rfl
  have aM:Sto.at (some [⟨24,1,[[.v (.slice none 0 0)]],none⟩]::(ν++[some [⟨24,1,[[.sl 1 (rowsQ t q J)]],none⟩]])) (List.length ν+1) 0=some ⟨24,1,[[.sl 1 (rowsQ t q J)]],none⟩:=by rw [at_consS,at_app0]; rfl
  have aJ:Sto.at (some [⟨24,1,[[.v (.slice none 0 0)]],none⟩]::(ν++[some [⟨24,1,[[.sl 1 (rowsQ t q J)]],none⟩]])) J 0=some ⟨80,2,(t.getD q []).map Nod.cs,none⟩:=by
    rw [← List.cons_append,at_appL hJl]; exact hJ
  have hJM:J < List.length ν+1:=by simpa using hJl
  generalize (some [⟨24,1,[[.v (.slice none 0 0)]],none⟩]::(ν++[some [⟨24,1,[[.sl 1 (rowsQ t q J)]],none⟩]]):Sto)=σA at *
  generalize List.length ν+1=M at *
  clear hJ hJl
  have hrl:=rowsQ_len t q J
  have hz1:((q:Int)+1).toNat=q+1:=by omega
  have hz2:((q:Int) - p).toNat=q - p:=by omega
  obtain ⟨X,hX⟩:∃ X,X=((rowsQ t q J).take (q+1)).drop p:=⟨_,rfl⟩
  have hXl:X.length=q+1 - p:=by rw [hX,List.length_drop,List.length_take,hrl]; omega
  have hXg:∀ i,p+i≤q→X.getD i []=if p+i=q then [.own J 0 (t.getD (p+i) []).length] else [stS (t.getD (p+i) [])]:=fun i hi=>by
    rw [hX,getD_dropTake (by omega) hi]
    unfold rowsQ
    rw [range_get _ (by omega)]
  have hXq:X.getD (q - p) []=[.own J 0 (t.getD q []).length]:=by
    rw [hXg _ (by omega),if_pos (by omega),show p+(q - p)=q by omega]
  have uM:∀ o,Sto.at (Sto.upd σA M 0 o) M 0=some o:=fun o=>at_upd_same aM
  have uJ:∀ o,Sto.at (Sto.upd σA M 0 o) J 0=some ⟨80,2,(t.getD q []).map Nod.cs,none⟩:=fun o=>by rw [at_upd_other (.inl (by omega))]; exact aJ
  have hwq:=wd_le hv q
  have hww:wd t q=(t.getD q []).length:=rfl
  (repeat' ((first
 | refine vn rfl ?_
 | simp (disch:=omega) only [wr64,Int.zero_sub]
 | refine bo (fun _=>?_) fun _=>?_
 | refine im fun _=>?_
 | refine cF ?_
 | refine om ?_
 | refine an ?_
 | fail) <;> try simp only [zT,zV,zS,zU,vcC,lateX,ex,strp,binA,elems,cells,scalar,eqC,keyA,intsA,lookA,ofVs,mpOf,Nat.reduceBEq,reduceAdd,reduceSub,reduceLT,reduceLeDiff,reduceMul,reduceEqDiff,reduceIte,Option.toList_some,List.cons_append,List.nil_append,aM,uM,uJ,hz1,hz2,← hX,hXl,hXq,hrl,Int.toNat_natCast]))
  all_goals try (exfalso; omega)
  generalize hσB:Sto.upd σA M 0 _=σB
  have b0:σB.at 0 0=some ⟨24,1,[[.v (.slice none 0 0)]],none⟩:=by rw [← hσB,at_upd_other (.inl (by omega))]; exact a0
  have bM:σB.at M 0=some ⟨24,1,[[.sl 1 X]],none⟩:=by rw [← hσB]; exact uM _
  have bJ:σB.at J 0=some ⟨80,2,(t.getD q []).map Nod.cs,none⟩:=by rw [← hσB]; exact uJ _
  clear hσB uM uJ aM aJ a0
  obtain ⟨L,hL⟩:∃ L,L=t.getD q []:=⟨_,rfl⟩
  rw [← hL] at bJ hww ⊢
  have hr0:L.map Nod.cs=(List.range L.length).map fun i=>[spS (L.getD i ⟨[],[]⟩).al,if i < 0 then .v (.slice none 0 0) else edS (L.getD i ⟨[],[]⟩).nx]:=by
    refine List.ext_getElem? fun i=>?_
    by_cases hi:i < L.length
    · simp [hi,List.getD_eq_getElem?_getD]
    · simp [List.getElem?_eq_none (show L.length≤i by omega),hi]
  rw [hr0] at bJ
  refine AWPC.loopE (α:={ x:Nat × Sto // x.1≤L.length∧x.2.at 0 0=some ⟨24,1,[[.v (.slice none 0 0)]],none⟩∧x.2.at M 0=some ⟨24,1,[[.sl 1 X]],none⟩ ∧
      x.2.at J 0=some ⟨80,2,(List.range L.length).map fun i=>[spS (L.getD i ⟨[],[]⟩).al,if i < x.1 then .v (.slice none 0 0) else edS (L.getD i ⟨[],[]⟩).nx],none⟩ }) [11,51] (fun x=>[(51,n x.1.1)]) (fun x=>x.1.2) (fun x=>L.length - x.1.1) ⟨(0,σB),Nat.zero_le _,b0,bM,bJ⟩ ?_ rfl ?_
  · (simp only [zT,zV,zS,zU,vcC,lateX,ex,strp,binA,elems,cells,scalar,eqC,keyA,intsA,lookA,ofVs,mpOf,Nat.reduceBEq,reduceAdd,reduceSub,reduceLT,reduceLeDiff,reduceMul,reduceEqDiff,reduceIte]; try simp)
  rintro ⟨⟨i,σC⟩,hi,c0,cM,cJ⟩
  simp only at hi c0 cM cJ
  simp only
  by_cases hlt:i < L.length
  · have cJ':∀ o,Sto.at (Sto.upd σC J 0 o) J 0=some o:=fun o=>at_upd_same cJ
    have gi:((List.range L.length).map fun (j:Nat)=>[spS (L.getD j ⟨[],[]⟩).al,if j < i then AV.v (.slice none 0 0) else edS (L.getD j ⟨[],[]⟩).nx]).getD i []=[spS (L.getD i ⟨[],[]⟩).al,edS (L.getD i ⟨[],[]⟩).nx]:=by rw [range_get _ hlt,if_neg (Nat.lt_irrefl i)]
    (repeat' ((first
 | refine vn rfl ?_
 | simp (disch:=omega) only [wr64,Int.zero_sub]
 | refine bo (fun _=>?_) fun _=>?_
 | refine im fun _=>?_
 | refine cF ?_
 | refine om ?_
 | refine an ?_
 | fail) <;> try simp only [zT,zV,zS,zU,vcC,lateX,ex,strp,binA,elems,cells,scalar,eqC,keyA,intsA,lookA,ofVs,mpOf,Nat.reduceBEq,reduceAdd,reduceSub,reduceLT,reduceLeDiff,reduceMul,reduceEqDiff,reduceIte,cJ,gi,List.length_range]))
    all_goals try (exfalso; omega)
    generalize hσD:Sto.upd σC J 0 _=σD
    refine ⟨⟨(i+1,σD),hlt,?_,?_,?_⟩,rfl,rfl,by simp only; omega⟩
    · simp only; rw [← hσD,at_upd_other (.inl (by omega))]; exact c0
    · simp only; rw [← hσD,at_upd_other (.inl (by omega))]; exact cM
    · simp only
      rw [← hσD,at_upd_same cJ,range_set]
      refine congrArg (fun z=>some (⟨80,2,z,none⟩:Ob)) (range_congr fun j hj=>?_)
      by_cases hji:j=i
      · subst hji; simp
      · have:(j < i)↔(j < i+1):=by omega
        simp [hji,this]
  obtain rfl:i=L.length:=by omega
  have c0':∀ o,Sto.at (Sto.upd σC 0 0 o) 0 0=some o:=fun o=>at_upd_same c0
  (repeat' ((first
 | refine vn rfl ?_
 | simp (disch:=omega) only [wr64,Int.zero_sub]
 | refine bo (fun _=>?_) fun _=>?_
 | refine im fun _=>?_
 | refine cF ?_
 | refine om ?_
 | refine an ?_
 | fail) <;> try simp only [zT,zV,zS,zU,vcC,lateX,ex,strp,binA,elems,cells,scalar,eqC,keyA,intsA,lookA,ofVs,mpOf,Nat.reduceBEq,reduceAdd,reduceSub,reduceLT,reduceLeDiff,reduceMul,reduceEqDiff,reduceIte,c0,cM,c0']))
  all_goals try (exfalso; omega)
  have hrow:Frz (Sto.upd σC 0 0 ⟨24,1,[[.sl 1 X]],none⟩) (.own J 0 L.length) (stS (L.map noNx)):=by
    have cJ0:(Sto.upd σC 0 0 ⟨24,1,[[.sl 1 X]],none⟩).at J 0=_:=(at_upd_other (.inl (show (0:Nat)≠J by omega))).trans cJ
    refine Frz.own (n:=L.length) (es:=(L.map noNx).map Nod.cs) (show (2:Nat)≠0 by decide) cJ0 (by simp) (by simp) (fun e j he hj=>?_) fun e he=>?_
    · have hx:=getD_some (l:=L) (d:=⟨[],[]⟩) he
      have hx2:(L.map noNx)[e]?=some (noNx (L.getD e ⟨[],[]⟩)):=by rw [List.getElem?_map,hx]; rfl
      simp only
      rw [getD_map hx2,range_get _ he,if_pos he]
      match j,hj with
      | 0,_=>exact Frz.eq rfl (by simp)
      | 1,_=>exact frz_nil
    · have hx:=getD_some (l:=L) (d:=⟨[],[]⟩) he
      have hx2:(L.map noNx)[e]?=some (noNx (L.getD e ⟨[],[]⟩)):=by rw [List.getElem?_map,hx]; rfl
      rw [getD_map hx2]; rfl
  have hpl:(partT t p q).length=q+1 - p:=by simp [partT]
  have hpg:∀ i,p+i≤q→(partT t p q)[i]?=some (if i=q - p then L.map noNx else t.getD (p+i) []):=fun i hi=>by
    unfold partT
    rw [List.getElem?_map,List.getElem?_range (by omega),hL]; rfl
  refine frz2 (Frz.agg rfl fun z hz=>?_) (by simp)
  obtain rfl:z=0:=by simpa using hz
  refine Frz.sl (by rw [List.length_map,hXl,hpl]) (fun e he=>?_) fun e j he hj=>?_
  · rw [List.length_map,hpl] at he
    rw [getD_map (hpg e (by omega))]; rfl
  · rw [List.length_map,hpl] at he
    obtain rfl:j=0:=by omega
    rw [getD_map (hpg e (by omega)),hXg e (by omega)]
    by_cases hq2:p+e=q
    · rw [if_pos hq2,if_pos (by omega),hq2,← hL]
      exact hrow
    · rw [if_neg hq2,if_neg (by omega)]
      exact Frz.eq rfl (by simp)
section
variable {t:Trk} {p q:Nat}
theorem part_len:(partT t p q).length=q+1 - p:=by simp [partT]
theorem part_stg {k:Nat} (hk:p+k≤q):(partT t p q).getD k []=if k=q - p then (t.getD q []).map noNx else t.getD (p+k) []:=by
  unfold partT
  rw [List.getD_eq_getElem?_getD,List.getElem?_map,List.getElem?_range (by omega)]; rfl
theorem part_wd {k:Nat} (hk:p+k≤q):wd (partT t p q) k=wd t (p+k):=by
  show ((partT t p q).getD k []).length=_
  rw [part_stg hk]
  split
  · rename_i h; rw [List.length_map,show p+k=q by omega]; rfl
  · rfl
theorem part_als {k:Nat} (hk:p+k≤q):als (partT t p q) k=als t (p+k):=by
  unfold als
  rw [part_stg hk]
  split
  · rename_i h; rw [List.map_map,show p+k=q by omega]; rfl
  · rfl
theorem part_stp {k:Nat} (hk:p+k < q):stp (partT t p q) k=stp t (p+k):=by
  unfold stp
  rw [part_stg (by omega),if_neg (by omega)]
theorem part_valid (hv:valid t) (hpq:p≤q) (hq:q < t.length):valid (partT t p q):=by
  have h2:=hv.2.1
  refine ⟨by rw [part_len]; omega,by rw [part_len]; omega,fun k hk=>?_⟩
  rw [part_len] at hk
  obtain ⟨v1,v2,v3⟩:=valid_stg hv (show p+k < t.length by omega)
  rw [part_stg (by omega)]
  by_cases hl:k=q - p
  · rw [if_pos hl]
    rw [show p+k=q by omega] at v1 v2 v3
    refine ⟨by rw [List.length_map]; exact v1,by rw [List.length_map]; exact v2,fun x hx=>?_⟩
    obtain ⟨y,hy,rfl⟩:=List.mem_map.1 hx
    exact ⟨(v3 y hy).1,by simp [noNx],fun e he=>by simp [noNx] at he⟩
  · rw [if_neg hl,part_wd (by omega)]
    exact ⟨v1,v2,v3⟩
theorem part_course (hpq:p≤q) {c:List At}:course (partT t p q) c↔c.length=q+1 - p∧way t p c:=by
  unfold course
  rw [part_len]
  refine and_congr_right fun hl=>?_
  rw [way_iff,way_iff]
  refine forall_congr' fun i=>forall_congr' fun a=>imp_congr_right fun ha=>?_
  have hi:=(List.getElem?_eq_some_iff.1 ha).1
  rw [Nat.zero_add]
  refine and_congr ?_ (forall_congr' fun b=>imp_congr_right fun hb=>?_)
  · unfold placeOk
    rw [part_wd (by omega),part_als (by omega)]
  · have hi1:=(List.getElem?_eq_some_iff.1 hb).1
    unfold stepOk
    rw [part_stp (by omega)]
theorem way_takeN {c:List At} {k:Nat} (m:Nat) (h:way t k c):way t k (c.take m):=by
  rw [way_iff] at h ⊢
  intro i a ha
  have hi:=(List.getElem?_eq_some_iff.1 ha).1
  rw [List.length_take] at hi
  rw [List.getElem?_take_of_lt (by omega)] at ha
  obtain ⟨h1,h2⟩:=h i a ha
  refine ⟨h1,fun b hb=>?_⟩
  have hi1:=(List.getElem?_eq_some_iff.1 hb).1
  rw [List.length_take] at hi1
  rw [List.getElem?_take_of_lt (by omega)] at hb
  exact h2 b hb
theorem way_dropN {c:List At} {k:Nat} (m:Nat) (h:way t k c):way t (k+m) (c.drop m):=by
  rw [way_iff] at h ⊢
  intro i a ha
  rw [List.getElem?_drop] at ha
  obtain ⟨h1,h2⟩:=h _ a ha
  rw [show k+m+i=k+(m+i) by omega]
  refine ⟨h1,fun b hb=>?_⟩
  rw [List.getElem?_drop,show m+(i+1)=m+i+1 by omega] at hb
  exact h2 b hb
theorem exchW {x c:List At} {s:Nat} (hs:s < x.length) (hx:way t 0 x) (hc:way t s c) (h0:c[0]?=x[s]?):way t 0 (x.take s++c):=by
  rw [way_iff] at hx hc ⊢
  simp only [Nat.zero_add] at hx ⊢
  have htl:(x.take s).length=s:=by rw [List.length_take]; omega
  intro i a ha
  by_cases hi:i < s
  · rw [List.getElem?_append_left (by omega),List.getElem?_take_of_lt hi] at ha
    obtain ⟨h1,h2⟩:=hx i a ha
    refine ⟨h1,fun b hb=>?_⟩
    by_cases hi1:i+1 < s
    · rw [List.getElem?_append_left (by omega),List.getElem?_take_of_lt hi1] at hb
      exact h2 b hb
    · rw [List.getElem?_append_right (by omega),htl,show i+1 - s=0 by omega,h0,show s=i+1 by omega] at hb
      exact h2 b hb
  · rw [List.getElem?_append_right (by omega),htl] at ha
    obtain ⟨h1,h2⟩:=hc _ a ha
    rw [show s+(i - s)=i by omega] at h1 h2
    refine ⟨h1,fun b hb=>?_⟩
    rw [List.getElem?_append_right (by omega),htl,show i+1 - s=i - s+1 by omega] at hb
    exact h2 b hb
end
theorem partE_0 {t:Trk} {p q:Nat} (hv:valid t) (hpq:p≤q) (hq:q < t.length):partE t p q=0∧partR t p q=partT t p q:=by
  have h:partE t p q=0:=by unfold partE; rw [tr_1 hv,if_pos rfl,if_pos (by omega)]
  exact ⟨h,by unfold partR; rw [if_pos h]; rfl⟩
theorem partT_sz {t:Trk} {p q:Nat} (hs:trkSz t) (hpq:p≤q) (hq:q < t.length):trkSz (partT t p q):=by
  refine ⟨by rw [part_len]; have:=hs.1; omega,fun L hL=>?_⟩
  obtain ⟨k,hk⟩:=List.mem_iff_getElem?.1 hL
  have hkl:=(List.getElem?_eq_some_iff.1 hk).1
  rw [part_len] at hkl
  have e:(partT t p q).getD k []=L:=by rw [List.getD_eq_getElem?_getD,hk]; rfl
  rw [part_stg (by omega)] at e
  subst e
  by_cases hl:k=q - p
  · rw [if_pos hl]
    have h:=hs.2 _ (List.mem_of_getElem? (getD_some (d:=[]) (show q < t.length from hq)))
    refine ⟨by rw [List.length_map]; exact h.1,fun x hx=>?_⟩
    obtain ⟨y,hy,rfl⟩:=List.mem_map.1 hx
    exact ⟨(h.2 y hy).1,by simp [noNx]⟩
  · rw [if_neg hl]
    exact hs.2 _ (List.mem_of_getElem? (getD_some (d:=[]) (show p+k < t.length by omega)))
section
variable {t:Trk}
theorem beg_way (h:valid t) (v:Int):∀ (k:Nat) (a:At),k < t.length→(0≤a.node∧a.node < (wd t k:Int)∧Mem a.val ((lev (als t) (stp t) (begF t v) k).getD a.node.toNat []) ↔
    ∃ p,p.length=k∧way t 0 (p++[a])∧∃ b,(p++[a])[0]?=some b∧b.val=v):=by
  intro k
  induction k with
  | zero =>
    intro a hk
    have hb:∀ i:Nat,i < wd t 0→(begF t v).getD i []=meet ((als t 0).getD i []) [⟨v,v⟩]:=fun i hi=>by
      have:=getD_some (l:=als t 0) (d:=[]) (show i < (als t 0).length by rw [als_len]; exact hi)
      unfold begF
      rw [getD_map this]
    have hm:∀ u:Int,Mem u [⟨v,v⟩]↔u=v:=fun u=>by simp only [Mem,List.mem_singleton,exists_eq_left]; omega
    constructor
    · rintro ⟨h1,h2,h3⟩
      rw [lev,hb _ (by omega),meet_mem,hm] at h3
      exact ⟨[],rfl,⟨h1,h2,h3.1⟩,a,rfl,h3.2⟩
    · rintro ⟨p,hp,hw,b,hb0,hbv⟩
      obtain rfl:=List.length_eq_zero_iff.1 hp
      simp at hb0; subst hb0
      obtain ⟨h1,h2,h3⟩:=hw
      refine ⟨h1,h2,?_⟩
      rw [lev,hb _ (by omega),meet_mem,hm]
      exact ⟨h3,hbv⟩
  | succ k ih =>
    intro a hk
    have hlen:∀ n:Int,0≤n→n < (wd t (k+1):Int)→n.toNat < (als t (k+1)).length:=fun n h1 h2=>by rw [als_len]; omega
    constructor
    · rintro ⟨h1,h2,h3⟩
      rw [lev_mem (begF_goods h v) (als_goods h) (stp_ch h) k _ (hlen _ h1 h2)] at h3
      obtain ⟨⟨g,hg,hto,u,hu,h4,h5⟩,h6⟩:=h3
      have hgk:=stp_ok h hg
      obtain ⟨p,hp,hw,b,hb0,hbv⟩:=(ih ⟨(g.fr:Int),u⟩ (by omega)).1 ⟨by simp,by simp only; omega,by simpa using hu⟩
      refine ⟨p++[⟨(g.fr:Int),u⟩],by simp [hp],?_,b,by rw [List.getElem?_append_left (by simp)]; exact hb0,hbv⟩
      rw [way_append]
      refine ⟨hw,(show way t _ [a] from ?_),fun x y hx hy=>?_⟩
      · simp only [List.length_append,List.length_singleton,hp,Nat.zero_add]
        exact ⟨h1,h2,h6⟩
      simp at hx hy
      subst hx hy
      simp only [List.length_append,List.length_singleton,hp]
      rw [show 0+(k+1) - 1=k by omega]
      exact ⟨g,hg,by simp,hto,h4,h5⟩
    · rintro ⟨p,hp,hw,b0,hb0,hbv⟩
      obtain ⟨q,b,rfl⟩:∃ q b,p=q++[b]:=by
        rcases List.eq_nil_or_concat p with rfl | ⟨q,b,rfl⟩
        · simp at hp
        · exact ⟨q,b,List.concat_eq_append⟩
      have hq:q.length=k:=by simpa using hp
      rw [way_append] at hw
      obtain ⟨w1,w2,w3⟩:=hw
      rw [List.getElem?_append_left (by simp)] at hb0
      have h4:=(ih b (by omega)).2 ⟨q,hq,w1,b0,hb0,hbv⟩
      simp only [List.length_append,List.length_singleton,hq,Nat.zero_add] at w2 w3
      obtain ⟨g,hg,e1,e2,e3,e4⟩:=w3 b a (by simp) (by simp)
      rw [show k+1 - 1=k by omega] at hg
      obtain ⟨p1,p2,p3⟩:=w2
      refine ⟨p1,p2,?_⟩
      rw [lev_mem (begF_goods h v) (als_goods h) (stp_ch h) k _ (hlen _ p1 p2)]
      exact ⟨⟨g,hg,e2,b.val,by rw [e1]; exact h4.2.2,e3,e4⟩,p3⟩
theorem beg_len (v:Int) (k:Nat):(lev (als t) (stp t) (begF t v) k).length=wd t k:=by
  rw [lev_len (by simp [begF]),als_len]
theorem ends_iff (h:valid t) (v u:Int):Mem u (endsL t v)↔∃ c,course t c∧(∃ a,c[0]?=some a∧a.val=v)∧∃ b,c[t.length - 1]?=some b∧b.val=u:=by
  have h1:=h.1
  unfold endsL unis
  rw [joins0_mem,mem_flatten]
  constructor
  · rintro ⟨x,hx,hm⟩
    obtain ⟨j,hj⟩:=List.mem_iff_getElem?.1 hx
    have hjl:=(List.getElem?_eq_some_iff.1 hj).1
    rw [beg_len] at hjl
    have e:(lev (als t) (stp t) (begF t v) (t.length - 1)).getD j []=x:=by rw [List.getD_eq_getElem?_getD,hj]; rfl
    obtain ⟨p,hp,hw,b,hb0,hbv⟩:=(beg_way h v (t.length - 1) ⟨j,u⟩ (by omega)).1 ⟨by simp,by simp only; omega,by simp only [Int.toNat_natCast]; rw [e]; exact hm⟩
    refine ⟨p++[⟨j,u⟩],⟨by simp [hp]; omega,hw⟩,⟨b,hb0,hbv⟩,⟨j,u⟩,?_,rfl⟩
    rw [← hp,List.getElem?_append_right (Nat.le_refl _)]; simp
  · rintro ⟨c,hc,⟨a,ha,hav⟩,b,hb,hbu⟩
    have hcl:=hc.1
    have hce:c=c.take (t.length - 1)++[b]:=by
      have:=take_snoc hb
      rw [← this,List.take_of_length_le (by omega)]
    have hw:=hc.2
    rw [hce] at hw ha
    obtain ⟨h2,h3,h4⟩:=(beg_way h v (t.length - 1) b (by omega)).2 ⟨c.take (t.length - 1),by rw [List.length_take]; omega,hw,a,ha,hav⟩
    rw [hbu] at h4
    exact ⟨_,getD_mem (by rw [beg_len]; omega),h4⟩
theorem fix_bigN {l:List Lim} (hv:valid t) (h1:∀ x∈l,x.vs.length≤1):big (fixT t l)=false:=by
  have hA:∀ (l:List Lim) (k:Nat) (a:List Sp),(∀ x∈l,x.vs.length≤1)→a.length≤64→(limA l k a).length≤64:=by
    intro l
    induction l with
    | nil=>intro k a _ h; exact h
    | cons x r ih =>
      intro k a hl ha
      refine ih k _ (fun y hy=>hl y (by simp [hy])) ?_
      show (if x.st=(k:Int) then meet a x.vs else a).length≤64
      split
      · have h3:=(meet_laws a x.vs).2.2
        have h4:a.length * x.vs.length≤64 * 1:=Nat.mul_le_mul ha (hl x (by simp))
        omega
      · exact ha
  cases hb:big (fixT t l) with
  | false=>rfl
  | true =>
    exfalso
    unfold big at hb
    obtain ⟨L,hL,hb⟩:=List.any_eq_true.1 hb
    obtain ⟨y,hy,hb⟩:=List.any_eq_true.1 hb
    obtain ⟨k,hk⟩:=List.mem_iff_getElem?.1 hL
    obtain ⟨i,hi⟩:=List.mem_iff_getElem?.1 hy
    have e:(fixT t l).getD k []=L:=by rw [List.getD_eq_getElem?_getD,hk]; rfl
    rw [← e] at hi
    obtain ⟨x,hx,rfl⟩:=copyT_nod hi
    obtain ⟨⟨n1,_⟩,n2,_⟩:=valid_nod hv hx
    have hal:(als t k).getD i []=x.al:=getD_map hx
    have ha:=hA l k x.al h1 n1
    have hnx:(x.nx.flatMap (chgE fun s=>s)).length≤x.nx.length:=chgE_len _ _
    unfold bigN copyN at hb
    simp only [Bool.or_eq_true,decide_eq_true_eq,hal] at hb
    omega
theorem ends_split (hv:valid t) {s:Nat} (hs:s < t.length) (h1:wd t s=1) (v u:Int) :
    Mem u (endsL t v)↔∃ m,Mem m (endsL (partT t 0 s) v)∧Mem u (endsL (partT t s (t.length - 1)) m):=by
  have va:=part_valid hv (Nat.zero_le s) hs
  have vb:=part_valid hv (show s≤t.length - 1 by omega) (show t.length - 1 < t.length by omega)
  rw [ends_iff hv]
  constructor
  · rintro ⟨c,hc,⟨a,ha,hav⟩,b,hb,hbu⟩
    have hcl:=hc.1
    obtain ⟨z,hz⟩:∃ z,c[s]?=some z:=⟨_,List.getElem?_eq_getElem (by omega)⟩
    refine ⟨z.val,(ends_iff va v z.val).2 ⟨c.take (s+1),(part_course (Nat.zero_le s)).2 ⟨by rw [List.length_take]; omega,way_takeN _ hc.2⟩,⟨a,?_,hav⟩,z,?_,rfl⟩,
      (ends_iff vb z.val u).2 ⟨c.drop s,(part_course (by omega)).2 ⟨by rw [List.length_drop]; omega,?_⟩,⟨z,?_,rfl⟩,b,?_,hbu⟩⟩
    · rw [List.getElem?_take_of_lt (by omega)]; exact ha
    · rw [part_len,List.getElem?_take_of_lt (by omega),show s+1 - 0 - 1=s by omega]; exact hz
    · have:=way_dropN s hc.2; rwa [Nat.zero_add] at this
    · rw [List.getElem?_drop]; exact hz
    · rw [part_len,List.getElem?_drop,show s+(t.length - 1+1 - s - 1)=t.length - 1 by omega]; exact hb
  · rintro ⟨m,hm,hu⟩
    obtain ⟨x,hx,⟨a,ha,hav⟩,z,hz,hzm⟩:=(ends_iff va v m).1 hm
    obtain ⟨y,hy,⟨w,hw,hwm⟩,b,hb,hbu⟩:=(ends_iff vb m u).1 hu
    obtain ⟨xl,xw⟩:=(part_course (Nat.zero_le s)).1 hx
    obtain ⟨yl,yw⟩:=(part_course (show s≤t.length - 1 by omega)).1 hy
    rw [part_len,show s+1 - 0 - 1=s by omega] at hz
    rw [part_len] at hb
    have p1:=((way_iff.1 xw) s z hz).1
    have p2:=((way_iff.1 yw) 0 w hw).1
    rw [Nat.zero_add] at p1
    rw [Nat.add_zero] at p2
    have hzw:w=z:=by
      obtain ⟨q1,q2,_⟩:=p1
      obtain ⟨q3,q4,_⟩:=p2
      rw [h1] at q2 q4
      exact at_ext (by omega) (by omega)
    have hxs:(x.take s).length=s:=by rw [List.length_take]; omega
    refine ⟨x.take s++y,⟨by rw [List.length_append,hxs]; omega,exchW (by omega) xw yw (by rw [hw,hz,hzw])⟩,?_,b,?_,hbu⟩
    · by_cases h0:0 < s
      · exact ⟨a,by rw [List.getElem?_append_left (by omega),List.getElem?_take_of_lt h0]; exact ha,hav⟩
      · obtain rfl:s=0:=by omega
        rw [ha] at hz; cases hz
        exact ⟨w,by simpa using hw,by rw [hzw]; exact hav⟩
    · rw [List.getElem?_append_right (by omega),hxs,show t.length - 1 - s=t.length - 1+1 - s - 1 by omega]; exact hb
end
def fits (c:List At) (l:List Lim):Prop:=∀ x∈l,∃ a,c[x.st.toNat]?=some a∧Mem a.val x.vs
section
variable {t:Trk} {l:List Lim}
theorem limA_iff {k:Nat} {v:Int}:∀ {l:List Lim} {a:List Sp},Mem v (limA l k a)↔Mem v a∧∀ x∈l,x.st=(k:Int)→Mem v x.vs:=by
  intro l
  induction l with
  | nil=>intro a; simp [limA]
  | cons x r ih =>
    intro a
    have:limA (x::r) k a=limA r k (if x.st=(k:Int) then meet a x.vs else a):=rfl
    rw [this,ih]
    by_cases h:x.st=(k:Int)
    · rw [if_pos h,meet_mem]
      constructor
      · rintro ⟨⟨h1,h2⟩,h3⟩
        refine ⟨h1,fun y hy=>?_⟩
        rcases List.mem_cons.1 hy with rfl | hy
        · exact fun _=>h2
        · exact h3 y hy
      · rintro ⟨h1,h2⟩
        exact ⟨⟨h1,h2 x (by simp) h⟩,fun y hy=>h2 y (by simp [hy])⟩
    · rw [if_neg h]
      constructor
      · rintro ⟨h1,h2⟩
        refine ⟨h1,fun y hy=>?_⟩
        rcases List.mem_cons.1 hy with rfl | hy
        · exact fun e=>absurd e h
        · exact h2 y hy
      · rintro ⟨h1,h2⟩
        exact ⟨h1,fun y hy=>h2 y (by simp [hy])⟩
theorem fix_ok (h:fixE t l=0):valid t∧l.any (badL t)=false∧big (fixT t l)=false:=by
  unfold fixE at h
  split at h
  · rename_i hv
    split at h
    · cases h
    · rename_i h1
      split at h
      · cases h
      · rename_i h2
        exact ⟨tr_iff.1 hv,by simpa using h1,by simpa using h2⟩
  · cases h
theorem fix_lim (h:l.any (badL t)=false) {x:Lim} (hx:x∈l):0≤x.st∧x.st < (t.length:Int)∧small x.vs:=by
  have:=List.any_eq_false.1 h x hx
  unfold badL at this
  simp only [Bool.or_eq_true,Bool.not_eq_true',decide_eq_false_iff_not,not_or,Decidable.not_not,Bool.not_eq_false] at this
  exact ⟨this.1.1,this.1.2,this.2⟩
theorem fix_small (hv:valid t) (hg:∀ x∈l,good x.vs) (hb:big (fixT t l)=false):∀ k i,k < t.length→i < wd t k→small (limA l k ((als t k).getD i [])):=fun k i hk hi=>by
  refine ⟨?_,limA_good k l _ (goods_get (als_goods hv k) i) hg⟩
  have hx:(t.getD k [])[i]?=some ((t.getD k []).getD i ⟨[],[]⟩):=getD_some hi
  have hy:((fixT t l).getD k [])[i]?=some (copyN (limA l k ((als t k).getD i [])) (fun s=>s) ((t.getD k []).getD i ⟨[],[]⟩)):=by
    rw [copyT_stg,copyL_get,Nat.zero_add,hx]; rfl
  have hk':(fixT t l)[k]?=some ((fixT t l).getD k []):=getD_some (by rw [copyF_len]; exact hk)
  have hn:=List.any_eq_false.1 (big_f hb (List.mem_of_getElem? hk')) _ (List.mem_of_getElem? hy)
  have h64:¬ 64 < (limA l k ((als t k).getD i [])).length:=fun h=>hn (by unfold bigN copyN; simp only; rw [decide_eq_true h]; rfl)
  omega
theorem fix_good (h:l.any (badL t)=false):∀ x∈l,good x.vs:=fun x hx=>(fix_lim h hx).2.2.2
theorem fix_valid (h:fixE t l=0):valid (fixT t l):=by
  obtain ⟨hv,h1,h2⟩:=fix_ok h
  exact copyT_valid hv (fix_small hv (fix_good h1) h2) fun k s hs _=>hs
theorem fix_course (hv:valid t) (h1:l.any (badL t)=false) {c:List At}:course (fixT t l) c↔course t c∧fits c l:=by
  have hlen:(fixT t l).length=t.length:=copyF_len _ _ _ _
  constructor
  · intro h
    have hc:course t c:=by
      rw [course_iff] at h ⊢
      rw [hlen] at h
      refine ⟨h.1,fun i a ha=>?_⟩
      obtain ⟨⟨p1,p2,p3⟩,h2⟩:=h.2 i a ha
      rw [copyT_wd] at p2
      rw [copyT_als (by omega),limA_iff] at p3
      refine ⟨⟨p1,p2,p3.1⟩,fun b hb=>?_⟩
      have:=h2 b hb
      unfold stepOk at this ⊢
      rwa [copyT_stp_id hv] at this
    refine ⟨hc,fun x hx=>?_⟩
    obtain ⟨x0,x1,_⟩:=fix_lim h1 hx
    have hxl:x.st.toNat < c.length:=by rw [hc.1]; omega
    obtain ⟨a,ha⟩:∃ a,c[x.st.toNat]?=some a:=⟨_,List.getElem?_eq_getElem hxl⟩
    refine ⟨a,ha,?_⟩
    obtain ⟨p1,p2,p3⟩:=((course_iff.1 h).2 _ _ ha).1
    rw [copyT_wd] at p2
    rw [copyT_als (by omega),limA_iff] at p3
    exact p3.2 x hx (by omega)
  · rintro ⟨hc,hf⟩
    have h:=hc
    rw [course_iff] at h ⊢
    rw [hlen]
    refine ⟨h.1,fun i a ha=>?_⟩
    obtain ⟨⟨p1,p2,p3⟩,h2⟩:=h.2 i a ha
    refine ⟨⟨p1,by rw [copyT_wd]; exact p2,?_⟩,fun b hb=>?_⟩
    · rw [copyT_als (by omega),limA_iff]
      refine ⟨p3,fun x hx e=>?_⟩
      obtain ⟨a',ha',hm⟩:=hf x hx
      have e2:x.st.toNat=i:=by omega
      rw [e2,ha] at ha'; cases ha'
      exact hm
    · have:=h2 b hb
      unfold stepOk at this ⊢
      rwa [copyT_stp_id hv]
theorem fix_feas (h:fixE t l=0):feas (fixT t l)=true↔∃ c,course t c∧fits c l:=by
  obtain ⟨hv,h1,h2⟩:=fix_ok h
  rw [feas_course (fix_valid h)]
  exact exists_congr fun c=>fix_course hv h1
end
section
variable {t:Trk}
end
def c17:CF:=⟨112,
 (.seq (.ops [
 ⟨some 1,.box false 24 1 (.t 0),none⟩,
 ⟨some 2,.mv (.c (.bool false)),none⟩] [1])
 (.seq (.seq (.ops [
 ⟨some 6,.faddr 0 (.t 1),none⟩,
 ⟨some 7,.load none (.t 6),none⟩,
 ⟨some 8,.len (.t 7),none⟩,
 ⟨some 9,.bin .gtr (.t 8) (.c (.int .i64 8)),none⟩,
 ⟨some 10,.mv (.t 9),none⟩,
 ⟨some 11,.faddr 0 (.t 1),some (10,true)⟩,
 ⟨some 12,.load none (.t 11),some (10,true)⟩,
 ⟨some 13,.len (.t 12),some (10,true)⟩,
 ⟨some 14,.bin .leq (.t 13) (.c (.int .i64 401)),some (10,true)⟩,
 ⟨some 15,.pick (.t 10) (.t 14) (.c (.bool false)),none⟩,
 ⟨some 16,.mv (.t 15),none⟩,
 ⟨some 17,.faddr 0 (.t 1),some (16,false)⟩,
 ⟨some 18,.load none (.t 17),some (16,false)⟩,
 ⟨some 19,.len (.t 18),some (16,false)⟩,
 ⟨some 20,.bin .gtr (.t 19) (.c (.int .i64 802)),some (16,false)⟩,
 ⟨some 21,.pick (.t 16) (.c (.bool true)) (.t 20),none⟩] [1,21])
 (.cond (.t 21) (.seq (.ops [
 ⟨some 2,.mv (.c (.bool false)),none⟩] [2])
 .ret)
 .skip))
 (.seq (.seq (.ops [
 ⟨some 3,.mv (.c (.int .i64 0)),none⟩] [1,3])
 (.block 0 (.loop (.seq (.seq (.ops [
 ⟨some 22,.mv (.t 3),none⟩,
 ⟨some 23,.faddr 0 (.t 1),none⟩,
 ⟨some 24,.load none (.t 23),none⟩,
 ⟨some 25,.len (.t 24),none⟩,
 ⟨some 26,.bin .lss (.t 22) (.t 25),none⟩] [1,3,26])
 (.cond (.t 26) .skip
 (.exit 0)))
 (.seq (.block 1 (.seq (.seq (.ops [
 ⟨some 29,.faddr 0 (.t 1),none⟩,
 ⟨some 30,.load none (.t 29),none⟩,
 ⟨some 31,.mv (.t 3),none⟩,
 ⟨some 32,.iaddr 1 (.t 30) (.t 31),none⟩,
 ⟨some 33,.load none (.t 32),none⟩,
 ⟨some 34,.len (.t 33),none⟩,
 ⟨some 35,.bin .gtr (.t 34) (.c (.int .i64 6)),none⟩,
 ⟨some 36,.mv (.t 35),none⟩,
 ⟨some 37,.faddr 0 (.t 1),some (36,true)⟩,
 ⟨some 38,.load none (.t 37),some (36,true)⟩,
 ⟨some 39,.mv (.t 3),some (36,true)⟩,
 ⟨some 40,.iaddr 1 (.t 38) (.t 39),some (36,true)⟩,
 ⟨some 41,.load none (.t 40),some (36,true)⟩,
 ⟨some 42,.len (.t 41),some (36,true)⟩,
 ⟨some 43,.bin .leq (.t 42) (.c (.int .i64 4000)),some (36,true)⟩,
 ⟨some 44,.mv (.t 43),some (36,true)⟩,
 ⟨some 45,.faddr 0 (.t 1),some (44,false)⟩,
 ⟨some 46,.load none (.t 45),some (44,false)⟩,
 ⟨some 47,.len (.t 46),some (44,false)⟩,
 ⟨some 48,.bin .gtr (.t 47) (.c (.int .i64 8)),some (44,false)⟩,
 ⟨some 49,.pick (.t 44) (.c (.bool true)) (.t 48),some (36,true)⟩,
 ⟨some 50,.pick (.t 36) (.t 49) (.c (.bool false)),none⟩,
 ⟨some 51,.mv (.t 50),none⟩,
 ⟨some 52,.faddr 0 (.t 1),some (51,false)⟩,
 ⟨some 53,.load none (.t 52),some (51,false)⟩,
 ⟨some 54,.mv (.t 3),some (51,false)⟩,
 ⟨some 55,.iaddr 1 (.t 53) (.t 54),some (51,false)⟩,
 ⟨some 56,.load none (.t 55),some (51,false)⟩,
 ⟨some 57,.len (.t 56),some (51,false)⟩,
 ⟨some 58,.bin .gtr (.t 57) (.c (.int .i64 8000)),some (51,false)⟩,
 ⟨some 59,.pick (.t 51) (.c (.bool true)) (.t 58),none⟩] [1,3,59])
 (.cond (.t 59) (.seq (.ops [
 ⟨some 2,.mv (.c (.bool false)),none⟩] [2])
 .ret)
 .skip))
 (.seq (.ops [
 ⟨some 4,.mv (.c (.int .i64 0)),none⟩] [1,3,4])
 (.block 2 (.loop (.seq (.seq (.ops [
 ⟨some 60,.mv (.t 4),none⟩,
 ⟨some 61,.faddr 0 (.t 1),none⟩,
 ⟨some 62,.load none (.t 61),none⟩,
 ⟨some 63,.mv (.t 3),none⟩,
 ⟨some 64,.iaddr 1 (.t 62) (.t 63),none⟩,
 ⟨some 65,.load none (.t 64),none⟩,
 ⟨some 66,.len (.t 65),none⟩,
 ⟨some 67,.bin .lss (.t 60) (.t 66),none⟩] [1,3,4,67])
 (.cond (.t 67) .skip
 (.exit 2)))
 (.seq (.block 3 (.seq (.ops [
 ⟨some 70,.faddr 0 (.t 1),none⟩,
 ⟨some 71,.load none (.t 70),none⟩,
 ⟨some 72,.mv (.t 3),none⟩,
 ⟨some 73,.iaddr 1 (.t 71) (.t 72),none⟩,
 ⟨some 74,.load none (.t 73),none⟩,
 ⟨some 75,.mv (.t 4),none⟩,
 ⟨some 76,.iaddr 2 (.t 74) (.t 75),none⟩,
 ⟨some 77,.load (some 2) (.t 76),none⟩,
 ⟨some 5,.alloc 80 2 [.slice none 0 0,.slice none 0 0],none⟩,
 ⟨none,.store 2 (.t 5) (.t 77),none⟩] [1,3,4,5])
 (.seq (.ops [
 ⟨some 78,.faddr 0 (.t 5),none⟩,
 ⟨some 79,.load none (.t 78),none⟩,
 ⟨some 80,.len (.t 79),none⟩,
 ⟨some 81,.bin .gtr (.t 80) (.c (.int .i64 8)),none⟩,
 ⟨some 82,.mv (.t 81),none⟩,
 ⟨some 83,.faddr 0 (.t 5),some (82,true)⟩,
 ⟨some 84,.load none (.t 83),some (82,true)⟩,
 ⟨some 85,.len (.t 84),some (82,true)⟩,
 ⟨some 86,.bin .leq (.t 85) (.c (.int .i64 64)),some (82,true)⟩,
 ⟨some 87,.pick (.t 82) (.t 86) (.c (.bool false)),none⟩,
 ⟨some 88,.mv (.t 87),none⟩,
 ⟨some 89,.faddr 0 (.t 5),some (88,false)⟩,
 ⟨some 90,.load none (.t 89),some (88,false)⟩,
 ⟨some 91,.len (.t 90),some (88,false)⟩,
 ⟨some 92,.bin .gtr (.t 91) (.c (.int .i64 128)),some (88,false)⟩,
 ⟨some 93,.pick (.t 88) (.c (.bool true)) (.t 92),none⟩,
 ⟨some 94,.mv (.t 93),none⟩,
 ⟨some 95,.faddr 1 (.t 5),some (94,false)⟩,
 ⟨some 96,.load none (.t 95),some (94,false)⟩,
 ⟨some 97,.len (.t 96),some (94,false)⟩,
 ⟨some 98,.bin .gtr (.t 97) (.c (.int .i64 8)),some (94,false)⟩,
 ⟨some 99,.mv (.t 98),some (94,false)⟩,
 ⟨some 100,.faddr 1 (.t 5),some (99,true)⟩,
 ⟨some 101,.load none (.t 100),some (99,true)⟩,
 ⟨some 102,.len (.t 101),some (99,true)⟩,
 ⟨some 103,.bin .leq (.t 102) (.c (.int .i64 64)),some (99,true)⟩,
 ⟨some 104,.pick (.t 99) (.t 103) (.c (.bool false)),some (94,false)⟩,
 ⟨some 105,.pick (.t 94) (.c (.bool true)) (.t 104),none⟩,
 ⟨some 106,.mv (.t 105),none⟩,
 ⟨some 107,.faddr 1 (.t 5),some (106,false)⟩,
 ⟨some 108,.load none (.t 107),some (106,false)⟩,
 ⟨some 109,.len (.t 108),some (106,false)⟩,
 ⟨some 110,.bin .gtr (.t 109) (.c (.int .i64 128)),some (106,false)⟩,
 ⟨some 111,.pick (.t 106) (.c (.bool true)) (.t 110),none⟩] [1,3,4,111])
 (.cond (.t 111) (.seq (.ops [
 ⟨some 2,.mv (.c (.bool false)),none⟩] [2])
 .ret)
 .skip))))
 (.ops [
 ⟨some 68,.mv (.t 4),none⟩,
 ⟨some 69,.bin .add (.t 68) (.c (.int .i64 1)),none⟩,
 ⟨some 4,.mv (.t 69),none⟩] [1,3,4]))))))))
 (.ops [
 ⟨some 27,.mv (.t 3),none⟩,
 ⟨some 28,.bin .add (.t 27) (.c (.int .i64 1)),none⟩,
 ⟨some 3,.mv (.t 28),none⟩] [1,3]))))))
 (.seq (.ops [
 ⟨some 2,.mv (.c (.bool true)),none⟩] [2])
 .ret)))),
 [.t 2]⟩
theorem k17:chkF Tryz.prog Tryz.f17 c17=true:=by kernel_rfl
abbrev manyN (x:Nod):Prop:=((8 < x.al.length∧x.al.length≤64)∨128 < x.al.length)∨(8 < x.nx.length∧x.nx.length≤64)∨128 < x.nx.length
abbrev manyL (m:Nat) (l:List Nod):Prop:=(6 < l.length∧(l.length≤4000∨8 < m))∨8000 < l.length
abbrev manyT (m:Nat):Prop:=(8 < m∧m≤401)∨802 < m
def fewB (t:Trk):Bool:=!decide (manyT t.length) && t.all fun l=>!decide (manyL t.length l) && l.all fun x=>!decide (manyN x)
theorem fewB_f1 {t:Trk} (h:manyT t.length):fewB t=false:=by unfold fewB; rw [decide_eq_true h]; rfl
theorem fewB_f {t:Trk} {l:List Nod} (hl:l∈t) (h:(!decide (manyL t.length l) && l.all fun x=>!decide (manyN x))=false):fewB t=false:=by
  unfold fewB
  have:(t.all fun l=>!decide (manyL t.length l) && l.all fun x=>!decide (manyN x))=false:=by
    cases ha:t.all fun l=>!decide (manyL t.length l) && l.all fun x=>!decide (manyN x) with
    | false=>rfl
    | true=>rw [List.all_eq_true.1 ha l hl] at h; cases h
  rw [this]; simp
theorem fewB_t {t:Trk} (h1:¬ manyT t.length) (h:∀ l∈t,¬ manyL t.length l∧∀ x∈l,¬ manyN x):fewB t=true:=by
  unfold fewB
  rw [decide_eq_false h1]
  have:(t.all fun l=>!decide (manyL t.length l) && l.all fun x=>!decide (manyN x))=true:=List.all_eq_true.2 fun l hl=>by
    obtain ⟨h2,h3⟩:=h l hl
    rw [decide_eq_false h2]
    have:(l.all fun x=>!decide (manyN x))=true:=List.all_eq_true.2 fun x hx=>by rw [decide_eq_false (h3 x hx)]; rfl
    rw [this]; rfl
  rw [this]; rfl
theorem few_spec (t:Trk) (hs:trkSz t):Pure Tryz.prog 17 [trS t] (bl (fewB t)):=by
  refine Pure.of_body Tryz.call17 Tryz.func17 k17 (Nat.le_of_ble_eq_true rfl) ?_
  unfold c17
  have h1:=hs.1
  (repeat' ((first
 | refine vn rfl ?_
 | simp (disch:=omega) only [wr64,Int.zero_sub]
 | refine bo (fun _=>?_) fun _=>?_
 | refine im fun _=>?_
 | refine cF ?_
 | refine om ?_
 | refine an ?_
 | fail) <;> try simp only [zT,zV,zS,zU,vcC,lateX,ex,strp,binA,elems,cells,scalar,eqC,keyA,intsA,lookA,ofVs,mpOf,Nat.reduceBEq,reduceAdd,reduceSub,reduceLT,reduceLeDiff,reduceMul,reduceEqDiff,reduceIte]))
  · rename_i h
    rw [fewB_f1 (by unfold manyT; omega)]
    exact Frz.eq rfl (by simp)
  rename_i hT
  refine AWPC.loopE (α:={ x:Nat × Sto // x.1≤t.length∧∀ l∈t.take x.1,¬ manyL t.length l∧∀ y∈l,¬ manyN y }) [3] (fun x=>[(3,n x.1.1)]) (fun x=>x.1.2) (fun x=>t.length - x.1.1) ⟨(0,[]),Nat.zero_le _,by simp⟩ ?_ rfl ?_
  · (simp only [zT,zV,zS,zU,vcC,lateX,ex,strp,binA,elems,cells,scalar,eqC,keyA,intsA,lookA,ofVs,mpOf,Nat.reduceBEq,reduceAdd,reduceSub,reduceLT,reduceLeDiff,reduceMul,reduceEqDiff,reduceIte]; try simp)
  rintro ⟨⟨k,μ⟩,hk,hk2⟩
  try simp only at hk hk2
  try simp only
  by_cases hlt:k < t.length
  · have htk:t[k]?=some (t.getD k []):=getD_some hlt
    have gtk:(t.map fun l=>[stS l]).getD k []=[stS (t.getD k [])]:=getD_map htk
    have hm:=List.mem_of_getElem? htk
    have hs2:=hs.2 _ hm
    have hsn:=take_snoc htk
    generalize t.getD k []=L at *
    obtain ⟨hL,hL2⟩:=hs2
    (repeat' ((first
 | refine vn rfl ?_
 | simp (disch:=omega) only [wr64,Int.zero_sub]
 | refine bo (fun _=>?_) fun _=>?_
 | refine im fun _=>?_
 | refine cF ?_
 | refine om ?_
 | refine an ?_
 | fail) <;> try simp only [zT,zV,zS,zU,vcC,lateX,ex,strp,binA,elems,cells,scalar,eqC,keyA,intsA,lookA,ofVs,mpOf,Nat.reduceBEq,reduceAdd,reduceSub,reduceLT,reduceLeDiff,reduceMul,reduceEqDiff,reduceIte,gtk]))
    all_goals try (exfalso; omega)
    · rename_i h
      rw [fewB_f hm (by rw [decide_eq_true (by unfold manyL; omega)]; rfl)]
      exact Frz.eq rfl (by simp)
    rename_i hM
    have hM':¬ manyL t.length L:=by unfold manyL; omega
    refine AWPC.loopE (α:={ x:Nat × Sto // x.1≤L.length∧∀ y∈L.take x.1,¬ manyN y }) [4] (fun x=>[(4,n x.1.1)]) (fun x=>x.1.2) (fun x=>L.length - x.1.1) ⟨(0,μ),Nat.zero_le _,by simp⟩ ?_ rfl ?_
    · (simp only [zT,zV,zS,zU,vcC,lateX,ex,strp,binA,elems,cells,scalar,eqC,keyA,intsA,lookA,ofVs,mpOf,Nat.reduceBEq,reduceAdd,reduceSub,reduceLT,reduceLeDiff,reduceMul,reduceEqDiff,reduceIte]; try simp)
    rintro ⟨⟨i,ν⟩,hi,hi2⟩
    try simp only at hi hi2
    try simp only
    by_cases hlt2:i < L.length
    · obtain ⟨x,hx⟩:∃ x,L[i]?=some x:=⟨_,List.getElem?_eq_getElem hlt2⟩
      have hxm:=List.mem_of_getElem? hx
      obtain ⟨x1,x2⟩:=hL2 x hxm
      have hsx:=take_snoc hx
      (repeat' ((first
 | refine vn rfl ?_
 | simp (disch:=omega) only [wr64,Int.zero_sub]
 | refine bo (fun _=>?_) fun _=>?_
 | refine im fun _=>?_
 | refine cF ?_
 | refine om ?_
 | refine an ?_
 | fail) <;> try simp only [zT,zV,zS,zU,vcC,lateX,ex,strp,binA,elems,cells,scalar,eqC,keyA,intsA,lookA,ofVs,mpOf,Nat.reduceBEq,reduceAdd,reduceSub,reduceLT,reduceLeDiff,reduceMul,reduceEqDiff,reduceIte,gtk,getD_map hx,List.cons_append]))
      all_goals try (exfalso; omega)
      · rename_i h
        have hN:manyN x:=by unfold manyN; omega
        have hf:(!decide (manyL t.length L) && L.all fun x=>!decide (manyN x))=false:=by
          rw [Bool.and_eq_false_iff]
          refine .inr ?_
          cases ha:L.all fun x=>!decide (manyN x) with
          | false=>rfl
          | true=>have:=List.all_eq_true.1 ha x hxm; rw [decide_eq_true hN] at this; cases this
        rw [fewB_f hm hf]
        exact Frz.eq rfl (by simp)
      · rename_i h
        have hN:¬ manyN x:=by unfold manyN; omega
        exact ⟨⟨(i+1,ν++[some [⟨80,2,[Nod.cs x],none⟩]]),hlt2,fun y hy=>by
          rw [hsx] at hy
          rcases List.mem_append.1 hy with h | h
          · exact hi2 y h
          · rw [List.mem_singleton.1 h]; exact hN⟩,rfl,rfl,by simp only; omega⟩
    · obtain rfl:i=L.length:=by omega
      rw [List.take_length] at hi2
      (repeat' ((first
 | refine vn rfl ?_
 | simp (disch:=omega) only [wr64,Int.zero_sub]
 | refine bo (fun _=>?_) fun _=>?_
 | refine im fun _=>?_
 | refine cF ?_
 | refine om ?_
 | refine an ?_
 | fail) <;> try simp only [zT,zV,zS,zU,vcC,lateX,ex,strp,binA,elems,cells,scalar,eqC,keyA,intsA,lookA,ofVs,mpOf,Nat.reduceBEq,reduceAdd,reduceSub,reduceLT,reduceLeDiff,reduceMul,reduceEqDiff,reduceIte,gtk]))
      all_goals try (exfalso; omega)
      exact ⟨⟨(k+1,ν),hlt,fun l hl=>by
        rw [hsn] at hl
        rcases List.mem_append.1 hl with h | h
        · exact hk2 l h
        · rw [List.mem_singleton.1 h]
          exact ⟨hM',hi2⟩⟩,rfl,rfl,by simp only; omega⟩
  · obtain rfl:k=t.length:=by omega
    rw [List.take_length] at hk2
    rw [fewB_t (by unfold manyT; omega) hk2]
    (repeat' ((first
 | refine vn rfl ?_
 | simp (disch:=omega) only [wr64,Int.zero_sub]
 | refine bo (fun _=>?_) fun _=>?_
 | refine im fun _=>?_
 | refine cF ?_
 | refine om ?_
 | refine an ?_
 | fail) <;> try simp only [zT,zV,zS,zU,vcC,lateX,ex,strp,binA,elems,cells,scalar,eqC,keyA,intsA,lookA,ofVs,mpOf,Nat.reduceBEq,reduceAdd,reduceSub,reduceLT,reduceLeDiff,reduceMul,reduceEqDiff,reduceIte]))
    all_goals try (exfalso; omega)
    exact Frz.eq rfl (by simp)
def c7:CF:=⟨243,
 (.seq (.ops [
 ⟨some 3,.box false 24 1 (.t 0),none⟩,
 ⟨some 4,.box false 33 11 (.t 1),none⟩,
 ⟨some 6,.mv (.c (.bool false)),none⟩] [2,3,4])
 (.seq (.ops [
 ⟨some 28,.call (.f 16) [],none⟩,
 ⟨some 7,.mv (.t 28),none⟩] [2,3,4,7])
 (.seq (.seq (.ops [
 ⟨some 29,.load (some 1) (.t 3),none⟩,
 ⟨some 30,.call (.f 17) [(.t 29)],none⟩,
 ⟨some 31,.un .not (.t 30),none⟩,
 ⟨some 32,.mv (.t 31),none⟩,
 ⟨some 33,.load (some 11) (.t 4),some (32,false)⟩,
 ⟨some 34,.call (.f 18) [(.t 33)],some (32,false)⟩,
 ⟨some 35,.un .not (.t 34),some (32,false)⟩,
 ⟨some 36,.pick (.t 32) (.c (.bool true)) (.t 35),none⟩] [2,3,4,7,36])
 (.cond (.t 36) (.seq (.ops [
 ⟨some 37,.mv (.t 7),none⟩,
 ⟨some 6,.mv (.t 37),none⟩] [6])
 .ret)
 .skip))
 (.seq (.seq (.ops [
 ⟨some 39,.load (some 1) (.t 3),none⟩,
 ⟨some 40,.call (.f 46) [(.t 39)],none⟩,
 ⟨some 38,.mv (.t 40),none⟩,
 ⟨some 41,.ext 0 (.t 38),none⟩,
 ⟨some 42,.ext 1 (.t 38),none⟩,
 ⟨some 8,.mv (.t 41),none⟩,
 ⟨some 9,.mv (.t 42),none⟩] [2,3,4,7,9])
 (.seq (.ops [
 ⟨some 43,.mv (.t 9),none⟩,
 ⟨some 44,.bin .neq (.t 43) (.c (.int .i64 0)),none⟩] [2,3,4,7,44])
 (.cond (.t 44) (.seq (.ops [
 ⟨some 45,.mv (.t 7),none⟩,
 ⟨some 6,.mv (.t 45),none⟩] [6])
 .ret)
 .skip)))
 (.seq (.ops [
 ⟨some 47,.load (some 1) (.t 3),none⟩,
 ⟨some 48,.faddr 2 (.t 4),none⟩,
 ⟨some 49,.load none (.t 48),none⟩,
 ⟨some 50,.call (.f 40) [(.t 47),(.t 49)],none⟩,
 ⟨some 46,.mv (.t 50),none⟩,
 ⟨some 51,.ext 0 (.t 46),none⟩,
 ⟨some 52,.ext 1 (.t 46),none⟩,
 ⟨some 10,.mv (.t 51),none⟩,
 ⟨some 11,.mv (.t 52),none⟩] [2,3,4,7,10,11])
 (.seq (.ops [
 ⟨some 53,.faddr 0 (.t 3),none⟩,
 ⟨some 54,.load none (.t 53),none⟩,
 ⟨some 55,.len (.t 54),none⟩,
 ⟨some 56,.bin .sub (.t 55) (.c (.int .i64 1)),none⟩,
 ⟨some 12,.mv (.t 56),none⟩] [2,3,4,7,10,11,12])
 (.seq (.seq (.ops [
 ⟨some 57,.mv (.t 2),none⟩,
 ⟨some 58,.bin .lss (.t 57) (.c (.int .i64 (-100000))),none⟩,
 ⟨some 59,.mv (.t 58),none⟩,
 ⟨some 60,.mv (.t 2),some (59,false)⟩,
 ⟨some 61,.bin .gtr (.t 60) (.c (.int .i64 100000)),some (59,false)⟩,
 ⟨some 62,.pick (.t 59) (.c (.bool true)) (.t 61),none⟩,
 ⟨some 63,.mv (.t 62),none⟩,
 ⟨some 64,.faddr 2 (.t 4),some (63,false)⟩,
 ⟨some 65,.load none (.t 64),some (63,false)⟩,
 ⟨some 66,.bin .lss (.t 65) (.c (.int .i64 (-100000))),some (63,false)⟩,
 ⟨some 67,.pick (.t 63) (.c (.bool true)) (.t 66),none⟩,
 ⟨some 68,.mv (.t 67),none⟩,
 ⟨some 69,.faddr 2 (.t 4),some (68,false)⟩,
 ⟨some 70,.load none (.t 69),some (68,false)⟩,
 ⟨some 71,.bin .gtr (.t 70) (.c (.int .i64 100000)),some (68,false)⟩,
 ⟨some 72,.pick (.t 68) (.c (.bool true)) (.t 71),none⟩] [2,3,4,7,10,11,12,72])
 (.cond (.t 72) (.seq (.ops [
 ⟨some 73,.mv (.t 7),none⟩,
 ⟨some 6,.mv (.t 73),none⟩] [6])
 .ret)
 .skip))
 (.seq (.ops [
 ⟨some 75,.load (some 1) (.t 3),none⟩,
 ⟨some 76,.faddr 2 (.t 4),none⟩,
 ⟨some 77,.load none (.t 76),none⟩,
 ⟨some 78,.faddr 2 (.t 4),none⟩,
 ⟨some 79,.load none (.t 78),none⟩,
 ⟨some 80,.build [.int .i64 0,.int .i64 0] [(0,1,(.t 77)),(1,1,(.t 79))],none⟩,
 ⟨some 81,.bsl false 30 2 1 [.int .i64 0,.int .i64 0] [(0,2,(.t 80))],none⟩,
 ⟨some 82,.build [.int .i64 0,.slice none 0 0] [(0,1,(.c (.int .i64 0))),(1,1,(.t 81))],none⟩,
 ⟨some 83,.mv (.t 12),none⟩,
 ⟨some 84,.mv (.t 2),none⟩,
 ⟨some 85,.mv (.t 2),none⟩,
 ⟨some 86,.build [.int .i64 0,.int .i64 0] [(0,1,(.t 84)),(1,1,(.t 85))],none⟩,
 ⟨some 87,.bsl false 30 2 1 [.int .i64 0,.int .i64 0] [(0,2,(.t 86))],none⟩,
 ⟨some 88,.build [.int .i64 0,.slice none 0 0] [(0,1,(.t 83)),(1,1,(.t 87))],none⟩,
 ⟨some 89,.bsl false 65 2 2 [.int .i64 0,.slice none 0 0,.int .i64 0,.slice none 0 0] [(0,2,(.t 82)),(2,2,(.t 88))],none⟩,
 ⟨some 90,.call (.f 42) [(.t 75),(.t 89)],none⟩,
 ⟨some 74,.mv (.t 90),none⟩,
 ⟨some 91,.ext 0 (.t 74),none⟩,
 ⟨some 92,.ext 1 (.t 74),none⟩,
 ⟨some 13,.alloc 24 1 [.slice none 0 0],none⟩,
 ⟨none,.store 1 (.t 13) (.t 91),none⟩,
 ⟨some 14,.mv (.t 92),none⟩] [2,3,4,7,10,11,12,13,14])
 (.seq (.ops [
 ⟨some 94,.load (some 1) (.t 13),none⟩,
 ⟨some 95,.call (.f 47) [(.t 94)],none⟩,
 ⟨some 93,.mv (.t 95),none⟩,
 ⟨some 96,.ext 0 (.t 93),none⟩,
 ⟨some 97,.ext 1 (.t 93),none⟩,
 ⟨some 15,.mv (.t 96),none⟩,
 ⟨some 16,.mv (.t 97),none⟩] [2,3,4,7,10,11,12,14,15,16])
 (.seq (.seq (.ops [
 ⟨some 98,.mv (.t 14),none⟩,
 ⟨some 99,.bin .neq (.t 98) (.c (.int .i64 0)),none⟩,
 ⟨some 100,.mv (.t 99),none⟩,
 ⟨some 101,.mv (.t 16),some (100,false)⟩,
 ⟨some 102,.bin .neq (.t 101) (.c (.int .i64 0)),some (100,false)⟩,
 ⟨some 103,.pick (.t 100) (.c (.bool true)) (.t 102),none⟩,
 ⟨some 104,.mv (.t 103),none⟩,
 ⟨some 105,.mv (.t 15),some (104,false)⟩,
 ⟨some 106,.mv (.t 10),some (104,false)⟩,
 ⟨some 107,.mv (.t 2),some (104,false)⟩,
 ⟨some 108,.call (.f 29) [(.t 106),(.t 107)],some (104,false)⟩,
 ⟨some 109,.eqb true (.t 105) (.t 108),some (104,false)⟩,
 ⟨some 110,.pick (.t 104) (.c (.bool true)) (.t 109),none⟩,
 ⟨some 111,.mv (.t 110),none⟩,
 ⟨some 112,.mv (.t 11),some (111,false)⟩,
 ⟨some 113,.bin .neq (.t 112) (.c (.int .i64 0)),some (111,false)⟩,
 ⟨some 114,.mv (.t 113),some (111,false)⟩,
 ⟨some 115,.mv (.t 11),some (114,true)⟩,
 ⟨some 116,.bin .neq (.t 115) (.c (.int .i64 3)),some (114,true)⟩,
 ⟨some 117,.mv (.t 116),some (114,true)⟩,
 ⟨some 118,.mv (.t 10),some (117,false)⟩,
 ⟨some 119,.len (.t 118),some (117,false)⟩,
 ⟨some 120,.bin .gtr (.t 119) (.c (.int .i64 0)),some (117,false)⟩,
 ⟨some 121,.pick (.t 117) (.c (.bool true)) (.t 120),some (114,true)⟩,
 ⟨some 122,.pick (.t 114) (.t 121) (.c (.bool false)),some (111,false)⟩,
 ⟨some 123,.pick (.t 111) (.c (.bool true)) (.t 122),none⟩] [2,3,4,7,10,12,123])
 (.cond (.t 123) (.seq (.ops [
 ⟨some 6,.mv (.c (.bool false)),none⟩] [6])
 .ret)
 .skip))
 (.seq (.seq (.ops [
 ⟨some 124,.faddr 0 (.t 4),none⟩,
 ⟨some 125,.load none (.t 124),none⟩,
 ⟨some 126,.bin .lss (.t 125) (.c (.int .i64 0)),none⟩,
 ⟨some 127,.mv (.t 126),none⟩,
 ⟨some 128,.faddr 0 (.t 4),some (127,false)⟩,
 ⟨some 129,.load none (.t 128),some (127,false)⟩,
 ⟨some 130,.mv (.t 12),some (127,false)⟩,
 ⟨some 131,.bin .gtr (.t 129) (.t 130),some (127,false)⟩,
 ⟨some 132,.pick (.t 127) (.c (.bool true)) (.t 131),none⟩,
 ⟨some 133,.mv (.t 132),none⟩,
 ⟨some 134,.faddr 0 (.t 3),some (133,false)⟩,
 ⟨some 135,.load none (.t 134),some (133,false)⟩,
 ⟨some 136,.faddr 0 (.t 4),some (133,false)⟩,
 ⟨some 137,.load none (.t 136),some (133,false)⟩,
 ⟨some 138,.iaddr 1 (.t 135) (.t 137),some (133,false)⟩,
 ⟨some 139,.load none (.t 138),some (133,false)⟩,
 ⟨some 140,.len (.t 139),some (133,false)⟩,
 ⟨some 141,.bin .neq (.t 140) (.c (.int .i64 1)),some (133,false)⟩,
 ⟨some 142,.pick (.t 133) (.c (.bool true)) (.t 141),none⟩] [2,3,4,7,10,12,142])
 (.cond (.t 142) (.seq (.ops [
 ⟨some 143,.mv (.t 7),none⟩,
 ⟨some 6,.mv (.t 143),none⟩] [6])
 .ret)
 .skip))
 (.seq (.ops [
 ⟨some 145,.load (some 1) (.t 3),none⟩,
 ⟨some 146,.faddr 0 (.t 4),none⟩,
 ⟨some 147,.load none (.t 146),none⟩,
 ⟨some 148,.call (.f 48) [(.t 145),(.c (.int .i64 0)),(.t 147)],none⟩,
 ⟨some 144,.mv (.t 148),none⟩,
 ⟨some 149,.ext 0 (.t 144),none⟩,
 ⟨some 150,.ext 1 (.t 144),none⟩,
 ⟨some 17,.alloc 24 1 [.slice none 0 0],none⟩,
 ⟨none,.store 1 (.t 17) (.t 149),none⟩,
 ⟨some 14,.mv (.t 150),none⟩] [2,3,4,7,10,12,14,17])
 (.seq (.ops [
 ⟨some 152,.load (some 1) (.t 3),none⟩,
 ⟨some 153,.faddr 0 (.t 4),none⟩,
 ⟨some 154,.load none (.t 153),none⟩,
 ⟨some 155,.mv (.t 12),none⟩,
 ⟨some 156,.call (.f 48) [(.t 152),(.t 154),(.t 155)],none⟩,
 ⟨some 151,.mv (.t 156),none⟩,
 ⟨some 157,.ext 0 (.t 151),none⟩,
 ⟨some 158,.ext 1 (.t 151),none⟩,
 ⟨some 18,.alloc 24 1 [.slice none 0 0],none⟩,
 ⟨none,.store 1 (.t 18) (.t 157),none⟩,
 ⟨some 16,.mv (.t 158),none⟩] [2,4,7,10,14,16,17,18])
 (.seq (.ops [
 ⟨some 160,.load (some 1) (.t 17),none⟩,
 ⟨some 161,.faddr 2 (.t 4),none⟩,
 ⟨some 162,.load none (.t 161),none⟩,
 ⟨some 163,.call (.f 40) [(.t 160),(.t 162)],none⟩,
 ⟨some 159,.mv (.t 163),none⟩,
 ⟨some 164,.ext 0 (.t 159),none⟩,
 ⟨some 165,.ext 1 (.t 159),none⟩,
 ⟨some 19,.mv (.t 164),none⟩,
 ⟨some 20,.mv (.t 165),none⟩] [2,7,10,14,16,18,19,20])
 (.seq (.seq (.ops [
 ⟨some 166,.mv (.t 14),none⟩,
 ⟨some 167,.bin .neq (.t 166) (.c (.int .i64 0)),none⟩,
 ⟨some 168,.mv (.t 167),none⟩,
 ⟨some 169,.mv (.t 16),some (168,false)⟩,
 ⟨some 170,.bin .neq (.t 169) (.c (.int .i64 0)),some (168,false)⟩,
 ⟨some 171,.pick (.t 168) (.c (.bool true)) (.t 170),none⟩,
 ⟨some 172,.mv (.t 171),none⟩,
 ⟨some 173,.mv (.t 20),some (172,false)⟩,
 ⟨some 174,.bin .neq (.t 173) (.c (.int .i64 0)),some (172,false)⟩,
 ⟨some 175,.mv (.t 174),some (172,false)⟩,
 ⟨some 176,.mv (.t 20),some (175,true)⟩,
 ⟨some 177,.bin .neq (.t 176) (.c (.int .i64 3)),some (175,true)⟩,
 ⟨some 178,.pick (.t 175) (.t 177) (.c (.bool false)),some (172,false)⟩,
 ⟨some 179,.pick (.t 172) (.c (.bool true)) (.t 178),none⟩] [2,7,10,18,19,179])
 (.cond (.t 179) (.seq (.ops [
 ⟨some 6,.mv (.c (.bool false)),none⟩] [6])
 .ret)
 .skip))
 (.seq (.ops [
 ⟨some 21,.mv (.c (.int .i64 0)),none⟩] [2,7,10,18,19,21])
 (.seq (.seq (.ops [
 ⟨some 22,.mv (.c (.int .i64 0)),none⟩] [2,7,10,18,19,21,22])
 (.block 0 (.loop (.seq (.seq (.ops [
 ⟨some 180,.mv (.t 22),none⟩,
 ⟨some 181,.mv (.t 19),none⟩,
 ⟨some 182,.len (.t 181),none⟩,
 ⟨some 183,.bin .lss (.t 180) (.t 182),none⟩] [2,7,10,18,19,21,22,183])
 (.cond (.t 183) .skip
 (.exit 0)))
 (.seq (.block 1 (.draw [
 ⟨some 186,.mv (.t 21),none⟩,
 ⟨some 187,.mv (.t 19),none⟩,
 ⟨some 188,.mv (.t 22),none⟩,
 ⟨some 189,.iaddr 2 (.t 187) (.t 188),none⟩,
 ⟨some 190,.faddr 1 (.t 189),none⟩,
 ⟨some 191,.load none (.t 190),none⟩,
 ⟨some 192,.mv (.t 19),none⟩,
 ⟨some 193,.mv (.t 22),none⟩,
 ⟨some 194,.iaddr 2 (.t 192) (.t 193),none⟩,
 ⟨some 195,.faddr 0 (.t 194),none⟩,
 ⟨some 196,.load none (.t 195),none⟩,
 ⟨some 197,.bin .sub (.t 191) (.t 196),none⟩,
 ⟨some 198,.bin .add (.t 197) (.c (.int .i64 1)),none⟩,
 ⟨some 199,.bin .add (.t 186) (.t 198),none⟩] [
 ⟨some 21,.mv (.t 199),none⟩] [2,7,10,18,19,21,22]))
 (.ops [
 ⟨some 184,.mv (.t 22),none⟩,
 ⟨some 185,.bin .add (.t 184) (.c (.int .i64 1)),none⟩,
 ⟨some 22,.mv (.t 185),none⟩] [2,7,10,18,19,21,22]))))))
 (.seq (.seq (.ops [
 ⟨some 200,.mv (.t 21),none⟩,
 ⟨some 201,.bin .gtr (.t 200) (.c (.int .i64 60)),none⟩] [2,7,10,18,19,201])
 (.cond (.t 201) (.seq (.ops [
 ⟨some 202,.mv (.t 7),none⟩,
 ⟨some 6,.mv (.t 202),none⟩] [6])
 .ret)
 .skip))
 (.seq (.ops [
 ⟨some 23,.mv (.c (.bool false)),none⟩] [2,7,10,18,19,23])
 (.seq (.seq (.ops [
 ⟨some 24,.mv (.c (.int .i64 0)),none⟩] [2,7,10,18,19,23,24])
 (.block 2 (.loop (.seq (.seq (.ops [
 ⟨some 203,.mv (.t 24),none⟩,
 ⟨some 204,.mv (.t 19),none⟩,
 ⟨some 205,.len (.t 204),none⟩,
 ⟨some 206,.bin .lss (.t 203) (.t 205),none⟩] [2,7,10,18,19,23,24,206])
 (.cond (.t 206) .skip
 (.exit 2)))
 (.seq (.block 3 (.seq (.ops [
 ⟨some 209,.mv (.t 19),none⟩,
 ⟨some 210,.mv (.t 24),none⟩,
 ⟨some 211,.iaddr 2 (.t 209) (.t 210),none⟩,
 ⟨some 212,.faddr 0 (.t 211),none⟩,
 ⟨some 213,.load none (.t 212),none⟩,
 ⟨some 25,.mv (.t 213),none⟩] [2,7,10,18,19,23,24,25])
 (.block 4 (.loop (.seq (.seq (.ops [
 ⟨some 214,.mv (.t 25),none⟩,
 ⟨some 215,.mv (.t 19),none⟩,
 ⟨some 216,.mv (.t 24),none⟩,
 ⟨some 217,.iaddr 2 (.t 215) (.t 216),none⟩,
 ⟨some 218,.faddr 1 (.t 217),none⟩,
 ⟨some 219,.load none (.t 218),none⟩,
 ⟨some 220,.bin .leq (.t 214) (.t 219),none⟩] [2,7,10,18,19,23,24,25,220])
 (.cond (.t 220) .skip
 (.exit 4)))
 (.seq (.block 5 (.seq (.ops [
 ⟨some 224,.load (some 1) (.t 18),none⟩,
 ⟨some 225,.mv (.t 25),none⟩,
 ⟨some 226,.call (.f 40) [(.t 224),(.t 225)],none⟩,
 ⟨some 223,.mv (.t 226),none⟩,
 ⟨some 227,.ext 0 (.t 223),none⟩,
 ⟨some 228,.ext 1 (.t 223),none⟩,
 ⟨some 26,.mv (.t 227),none⟩,
 ⟨some 27,.mv (.t 228),none⟩] [2,7,10,18,19,23,24,25,26])
 (.ops [
 ⟨some 229,.mv (.t 23),none⟩,
 ⟨some 230,.mv (.t 229),none⟩,
 ⟨some 231,.mv (.t 26),some (230,false)⟩,
 ⟨some 232,.mv (.t 2),some (230,false)⟩,
 ⟨some 233,.call (.f 29) [(.t 231),(.t 232)],some (230,false)⟩,
 ⟨some 234,.pick (.t 230) (.c (.bool true)) (.t 233),none⟩,
 ⟨some 23,.mv (.t 234),none⟩] [2,7,10,18,19,23,24,25])))
 (.ops [
 ⟨some 221,.mv (.t 25),none⟩,
 ⟨some 222,.bin .add (.t 221) (.c (.int .i64 1)),none⟩,
 ⟨some 25,.mv (.t 222),none⟩] [2,7,10,18,19,23,24,25])))))))
 (.ops [
 ⟨some 207,.mv (.t 24),none⟩,
 ⟨some 208,.bin .add (.t 207) (.c (.int .i64 1)),none⟩,
 ⟨some 24,.mv (.t 208),none⟩] [2,7,10,18,19,23,24]))))))
 (.seq (.ops [
 ⟨some 235,.mv (.t 7),none⟩,
 ⟨some 236,.mv (.t 235),none⟩,
 ⟨some 237,.mv (.t 23),some (236,true)⟩,
 ⟨some 238,.mv (.t 10),some (236,true)⟩,
 ⟨some 239,.mv (.t 2),some (236,true)⟩,
 ⟨some 240,.call (.f 29) [(.t 238),(.t 239)],some (236,true)⟩,
 ⟨some 241,.eqb false (.t 237) (.t 240),some (236,true)⟩,
 ⟨some 242,.pick (.t 236) (.t 241) (.c (.bool false)),none⟩,
 ⟨some 6,.mv (.t 242),none⟩] [6])
 .ret))))))))))))))))))))),
 [.t 6]⟩
theorem k7:chkF Tryz.prog Tryz.f7 c7=true:=by kernel_rfl
theorem fix_0 {t:Trk} {l:List Lim} (hv:valid t) (h1:l.any (badL t)=false) (h2:big (fixT t l)=false):fixE t l=0:=by
  unfold fixE; rw [tr_1 hv,if_pos rfl,h1,h2]; rfl
theorem feas_fix {t:Trk} {l:List Lim} (h:fixE t l=0):feas (fixT t l)=tr (∃ c,course t c∧fits c l):=by
  cases hf:feas (fixT t l) with
  | true=>exact (tr_1 ((fix_feas h).1 hf)).symm
  | false=>exact (tr_0 fun h'=>by rw [(fix_feas h).2 h'] at hf; cases hf).symm
theorem fix_sz {t:Trk} {l:List Lim} (hs:trkSz t) (h:fixE t l=0):trkSz (fixT t l):=by
  obtain ⟨hv,h1,h2⟩:=fix_ok h
  exact copyT_sz (fun k i=>by have:=good_len (limA_good k l _ (goods_get (als_goods hv k) i) (fix_good h1)); omega) hs
theorem endsL_good {t:Trk} (hv:valid t) (v:Int):good (endsL t v):=by
  have hn:Norm (endsL t v):=joins0_norm _
  refine ⟨hn,in_of_mem hn fun u hu=>?_⟩
  obtain ⟨c,hc,_,b,hb,rfl⟩:=(ends_iff hv v u).1 hu
  obtain ⟨_,_,h3⟩:=((course_iff.1 hc).2 _ _ hb).1
  exact mem_of_in (goods_get (als_goods hv _) _).2 h3
def widS (l:List Sp):Int:=l.foldl (fun a s=>a+(s.hi - s.lo+1)) 0
theorem widS_next {l:List Sp} {i:Nat} {s:Sp} (h:l[i]?=some s):widS (l.take (i+1))=widS (l.take i)+(s.hi - s.lo+1):=by
  rw [take_snoc h]; unfold widS; rw [List.foldl_append]; rfl
theorem widS_bd {l:List Sp} (hl:good l):∀ i,i≤l.length→0≤widS (l.take i)∧widS (l.take i)≤200001 * (i:Int)
  | 0,_=>by simp [widS]
  | i+1,hi=>by
    obtain ⟨s,hs⟩:∃ s,l[i]?=some s:=⟨_,List.getElem?_eq_getElem (by omega)⟩
    have:=widS_bd hl i (by omega)
    rw [widS_next hs]
    have h1:=hl.2 s (List.mem_of_getElem? hs)
    have h2:=hl.1.ne s (List.mem_of_getElem? hs)
    omega
def endF (b:Trk) (last:Int) (l:List Sp):Prop:=∃ s∈l,∃ v,(s.lo≤v∧v≤s.hi)∧Mem last (endsL b v)
def endG (b:Trk) (last:Int) (l:List Sp) (lo m:Int):Prop:=endF b last l∨∃ v,(lo≤v∧v < m)∧Mem last (endsL b v)
theorem endG_0 {b:Trk} {last:Int} {l:List Sp} {lo:Int}:endG b last l lo lo↔endF b last l :=
  ⟨fun h=>h.elim id fun ⟨v,h,_⟩=>by omega,.inl⟩
theorem endG_next {b:Trk} {last:Int} {l:List Sp} {lo m:Int} (h:lo≤m):endG b last l lo (m+1)↔endG b last l lo m∨Mem last (endsL b m):=by
  unfold endG
  constructor
  · rintro (h1 | ⟨v,h1,h2⟩)
    · exact .inl (.inl h1)
    · by_cases e:v=m
      · subst e; exact .inr h2
      · exact .inl (.inr ⟨v,by omega,h2⟩)
  · rintro ((h1 | ⟨v,h1,h2⟩) | h1)
    · exact .inl h1
    · exact .inr ⟨v,by omega,h2⟩
    · exact .inr ⟨m,by omega,h1⟩
theorem endG_end {b:Trk} {last:Int} {l:List Sp} {i:Nat} {s:Sp} (h:l[i]?=some s):endG b last (l.take i) s.lo (s.hi+1)↔endF b last (l.take (i+1)):=by
  rw [take_snoc h]
  unfold endG endF
  constructor
  · rintro (⟨r,hr,h1⟩ | ⟨v,h1,h2⟩)
    · exact ⟨r,List.mem_append_left _ hr,h1⟩
    · exact ⟨s,by simp,v,by omega,h2⟩
  · rintro ⟨r,hr,v,h1,h2⟩
    rcases List.mem_append.1 hr with hr | hr
    · exact .inl ⟨r,hr,v,h1,h2⟩
    · rw [List.mem_singleton.1 hr] at h1
      exact .inr ⟨v,by omega,h2⟩
theorem one_small (v:Int) (h1:-100000≤v) (h2:v≤100000):small [⟨v,v⟩]:=by
  refine ⟨by simp,⟨by simp [Norm],fun s hs=>?_⟩⟩
  rw [List.mem_singleton.1 hs]
  exact ⟨h1,h2⟩
theorem mem_one {u v:Int}:Mem u [⟨v,v⟩]↔u=v:=by simp only [Mem,List.mem_singleton,exists_eq_left]; omega
theorem EndsLaw_spec (t:Trk) (x:Ask) (last:Int) (hs:trkSz t) (hx:Ask.sz x):Pure Tryz.prog 7 [trS t,.agg x.cs,n last] (bl true):=by
  refine Pure.of_body Tryz.call7 Tryz.func7 k7 (Nat.le_of_ble_eq_true rfl) ?_
  unfold c7
  have hw:=awake_spec
  have hf:=few_spec t hs
  have hl:=light_spec x hx
  have hC:=Course_spec t hs
  have hE1:=Ends_spec t x.first hs
  have htl:=hs.1
  obtain ⟨x1,x2,xf,⟨x4,x5⟩,one,two,lims,⟨x9,x10⟩,sets⟩:=x
  simp only at *
  generalize fewB t=B1 at *
  generalize tr (Light _)=B2 at *
  cases B1 with
  | false =>
    (repeat' ((first
 | refine vn rfl ?_
 | simp (disch:=omega) only [wr64,Int.zero_sub]
 | refine bo (fun _=>?_) fun _=>?_
 | refine im fun _=>?_
 | ((repeat refine si ?_); (first | ((first | refine .inl ⟨_,_,_,_,rfl,fun _=>pu (by first | exact hw | exact hf),?_⟩ | refine ⟨_,_,_,_,rfl,fun _=>pu (by first | exact hw | exact hf),?_⟩); (first | refine o1 ?_ | refine o2 ?_ | refine o3 ?_ | refine o4 ?_)) | refine .inl ⟨_,_,_,_,rfl,pu (by first | exact hw | exact hf),?_⟩))
 | refine cF ?_
 | refine om ?_
 | refine an ?_
 | fail) <;> try simp only [zT,zV,zS,zU,vcC,lateX,ex,strp,binA,elems,cells,scalar,eqC,keyA,intsA,lookA,ofVs,mpOf,Nat.reduceBEq,reduceAdd,reduceSub,reduceLT,reduceLeDiff,reduceMul,reduceEqDiff,reduceIte]))
    all_goals exact Frz.eq rfl (by simp)
  | true =>
  cases B2 with
  | false =>
    (repeat' ((first
 | refine vn rfl ?_
 | simp (disch:=omega) only [wr64,Int.zero_sub]
 | refine bo (fun _=>?_) fun _=>?_
 | refine im fun _=>?_
 | ((repeat refine si ?_); (first | ((first | refine .inl ⟨_,_,_,_,rfl,fun _=>pu (by first | exact hw | exact hf | exact hl),?_⟩ | refine ⟨_,_,_,_,rfl,fun _=>pu (by first | exact hw | exact hf | exact hl),?_⟩); (first | refine o1 ?_ | refine o2 ?_ | refine o3 ?_ | refine o4 ?_)) | refine .inl ⟨_,_,_,_,rfl,pu (by first | exact hw | exact hf | exact hl),?_⟩))
 | refine cF ?_
 | refine om ?_
 | refine an ?_
 | fail) <;> try simp only [zT,zV,zS,zU,vcC,lateX,ex,strp,binA,elems,cells,scalar,eqC,keyA,intsA,lookA,ofVs,mpOf,Nat.reduceBEq,reduceAdd,reduceSub,reduceLT,reduceLeDiff,reduceMul,reduceEqDiff,reduceIte]))
    all_goals exact Frz.eq rfl (by simp)
  | true =>
  have hcE:=@course_E t
  generalize courseR t=CR at *
  obtain ⟨c0,e0⟩:=CR
  simp only at hC hcE
  by_cases h0:e0=0
  case neg =>
    (repeat' ((first
 | refine vn rfl ?_
 | simp (disch:=omega) only [wr64,Int.zero_sub]
 | refine bo (fun _=>?_) fun _=>?_
 | refine im fun _=>?_
 | ((repeat refine si ?_); (first | ((first | refine .inl ⟨_,_,_,_,rfl,fun _=>pu (by first | exact hw | exact hf | exact hl | exact hC),?_⟩ | refine ⟨_,_,_,_,rfl,fun _=>pu (by first | exact hw | exact hf | exact hl | exact hC),?_⟩); (first | refine o1 ?_ | refine o2 ?_ | refine o3 ?_ | refine o4 ?_)) | refine .inl ⟨_,_,_,_,rfl,pu (by first | exact hw | exact hf | exact hl | exact hC),?_⟩))
 | refine cF ?_
 | refine om ?_
 | refine an ?_
 | fail) <;> try simp only [zT,zV,zS,zU,vcC,lateX,ex,strp,binA,elems,cells,scalar,eqC,keyA,intsA,lookA,ofVs,mpOf,Nat.reduceBEq,reduceAdd,reduceSub,reduceLT,reduceLeDiff,reduceMul,reduceEqDiff,reduceIte,h0]))
    all_goals try (exfalso; omega)
    all_goals exact Frz.eq rfl (by simp)
  obtain ⟨hv,hcc,_⟩:=hcE h0
  subst h0
  clear hcE
  have hfe:=(feas_course hv).2 ⟨_,hcc⟩
  have hask:askE t true=0:=askE0.2 ⟨hv,rfl,hfe⟩
  have hlen1:=hv.1
  have hlen2:=hv.2.1
  have hee:endsE t xf=if endsL t xf=[] then 3 else 0:=by unfold endsE; rw [if_pos hask]
  rw [if_pos hask,hee] at hE1
  have hgE:=endsL_good hv xf
  have hlE:=good_len hgE
  have hIn:=In_spec (endsL t xf) last (by omega)
  by_cases hbd:-100000≤last∧last≤100000∧-100000≤xf∧xf≤100000
  case neg =>
    generalize endsL t xf=EL at *
    generalize (if EL=[] then (3:Int) else 0)=EE at *
    (repeat' ((first
 | refine vn rfl ?_
 | simp (disch:=omega) only [wr64,Int.zero_sub]
 | refine bo (fun _=>?_) fun _=>?_
 | refine im fun _=>?_
 | ((repeat refine si ?_); (first | ((first | refine .inl ⟨_,_,_,_,rfl,fun _=>pu (by first | exact hw | exact hf | exact hl | exact hC | exact hE1),?_⟩ | refine ⟨_,_,_,_,rfl,fun _=>pu (by first | exact hw | exact hf | exact hl | exact hC | exact hE1),?_⟩); (first | refine o1 ?_ | refine o2 ?_ | refine o3 ?_ | refine o4 ?_)) | refine .inl ⟨_,_,_,_,rfl,pu (by first | exact hw | exact hf | exact hl | exact hC | exact hE1),?_⟩))
 | refine cF ?_
 | refine om ?_
 | refine an ?_
 | fail) <;> try simp only [zT,zV,zS,zU,vcC,lateX,ex,strp,binA,elems,cells,scalar,eqC,keyA,intsA,lookA,ofVs,mpOf,Nat.reduceBEq,reduceAdd,reduceSub,reduceLT,reduceLeDiff,reduceMul,reduceEqDiff,reduceIte]))
    all_goals try (exfalso; omega)
    all_goals exact Frz.eq rfl (by simp)
  obtain ⟨b1,b2,b3,b4⟩:=hbd
  have hbadL:([⟨0,[⟨xf,xf⟩]⟩,⟨(t.length:Int) - 1,[⟨last,last⟩]⟩]:List Lim).any (badL t)=false:=by
    have q1:badL t ⟨0,[⟨xf,xf⟩]⟩=false:=by unfold badL; simp only; rw [decide_eq_true (by omega),tr_1 (one_small xf b3 b4)]; rfl
    have q2:badL t ⟨(t.length:Int) - 1,[⟨last,last⟩]⟩=false:=by unfold badL; simp only; rw [decide_eq_true (by omega),tr_1 (one_small last b1 b2)]; rfl
    simp only [List.any_cons,List.any_nil,q1,q2]; rfl
  have hF0:=fix_0 hv hbadL (fix_bigN hv (l:=[⟨0,[⟨xf,xf⟩]⟩,⟨(t.length:Int) - 1,[⟨last,last⟩]⟩]) (by simp))
  have hF:=Fix_spec t [⟨0,[⟨xf,xf⟩]⟩,⟨(t.length:Int) - 1,[⟨last,last⟩]⟩] hs ⟨by simp,by simp⟩
  have hFR:fixR t [⟨0,[⟨xf,xf⟩]⟩,⟨(t.length:Int) - 1,[⟨last,last⟩]⟩]=fixT t [⟨0,[⟨xf,xf⟩]⟩,⟨(t.length:Int) - 1,[⟨last,last⟩]⟩]:=by unfold fixR; rw [if_pos hF0]
  have hFe:=Feasible_spec _ (fix_sz hs hF0)
  rw [tr_1 (fix_valid hF0),feas_fix hF0] at hFe
  rw [hFR,hF0] at hF
  simp only [if_true,Bool.true_and] at hFe
  have hQ:tr (∃ c,course t c∧fits c [⟨0,[⟨xf,xf⟩]⟩,⟨(t.length:Int) - 1,[⟨last,last⟩]⟩])=tr (Mem last (endsL t xf)):=by
    rw [decide_eq_decide,ends_iff hv]
    refine exists_congr fun c=>and_congr_right fun hc=>?_
    have z1:((t.length:Int) - 1).toNat=t.length - 1:=by omega
    constructor
    · intro h
      obtain ⟨a,ha,hm⟩:=h ⟨0,[⟨xf,xf⟩]⟩ (by simp)
      obtain ⟨b,hb,hm2⟩:=h ⟨(t.length:Int) - 1,[⟨last,last⟩]⟩ (by simp)
      simp only [z1] at ha hb
      exact ⟨⟨a,ha,mem_one.1 hm⟩,b,hb,mem_one.1 hm2⟩
    · rintro ⟨⟨a,ha,hm⟩,b,hb,hm2⟩ y hy
      rcases List.mem_cons.1 hy with rfl | hy
      · exact ⟨a,ha,mem_one.2 hm⟩
      · rw [List.mem_singleton.1 hy]
        exact ⟨b,by simp only [z1]; exact hb,mem_one.2 hm2⟩
  rw [hQ] at hFe
  have hsplit:=fun s hs h1=>@ends_split t hv s hs h1 xf last
  generalize fixT t _=FT at *
  clear hQ hbadL
  have hEE:(if endsL t xf=[] then (3:Int) else 0)=0∧True∨(if endsL t xf=[] then (3:Int) else 0)=3∧(endsL t xf).length=0:=by
    by_cases h:endsL t xf=[]
    · rw [if_pos h,h]; exact .inr ⟨rfl,rfl⟩
    · rw [if_neg h]; exact .inl ⟨rfl,trivial⟩
  generalize (if endsL t xf=[] then (3:Int) else 0)=EE at *
  generalize hEL:endsL t xf=EL at *
  have hlt64:=hs.1
  by_cases hin:0≤x1∧x1 < (t.length:Int)
  case neg =>
    have hg:(t.map fun l=>[stS l]).getD x1.toNat []=[]∨∃ L,(t.map fun l=>[stS l]).getD x1.toNat []=[stS L]:=by
      by_cases h:x1.toNat < t.length
      · exact .inr ⟨_,getD_map (getD_some (d:=[]) h)⟩
      · exact .inl (getD_none (by simpa using h))
    generalize tr (Mem last EL)=Q at *
    rcases hEE with ⟨rfl,hel⟩ | ⟨rfl,hel⟩
    · rcases hg with hg | ⟨L,hg⟩
      · (repeat' ((first
 | refine vn rfl ?_
 | simp (disch:=omega) only [wr64,Int.zero_sub]
 | refine bo (fun _=>?_) fun _=>?_
 | refine im fun _=>?_
 | ((repeat refine si ?_); (first | ((first | refine .inl ⟨_,_,_,_,rfl,fun _=>pu (by first | exact hw | exact hf | exact hl | exact hC | exact hE1 | exact hF | exact hFe | exact hIn),?_⟩ | refine ⟨_,_,_,_,rfl,fun _=>pu (by first | exact hw | exact hf | exact hl | exact hC | exact hE1 | exact hF | exact hFe | exact hIn),?_⟩); (first | refine o1 ?_ | refine o2 ?_ | refine o3 ?_ | refine o4 ?_)) | refine .inl ⟨_,_,_,_,rfl,pu (by first | exact hw | exact hf | exact hl | exact hC | exact hE1 | exact hF | exact hFe | exact hIn),?_⟩))
 | refine cF ?_
 | refine cG ?_
 | refine om ?_
 | refine an ?_
 | fail) <;> try simp only [zT, zV, zS, zU, vcC, lateX, ex, strp, binA, elems, cells, scalar, eqC, keyA, intsA, lookA, ofVs, mpOf, Nat.reduceBEq, reduceAdd, reduceSub, reduceLT, reduceLeDiff, reduceMul, reduceEqDiff, reduceIte, hg, bne_self_eq_false]))
        all_goals try (exfalso; omega)
        all_goals exact Frz.eq rfl (by simp)
      · (repeat' ((first
 | refine vn rfl ?_
 | simp (disch:=omega) only [wr64,Int.zero_sub]
 | refine bo (fun _=>?_) fun _=>?_
 | refine im fun _=>?_
 | ((repeat refine si ?_); (first | ((first | refine .inl ⟨_,_,_,_,rfl,fun _=>pu (by first | exact hw | exact hf | exact hl | exact hC | exact hE1 | exact hF | exact hFe | exact hIn),?_⟩ | refine ⟨_,_,_,_,rfl,fun _=>pu (by first | exact hw | exact hf | exact hl | exact hC | exact hE1 | exact hF | exact hFe | exact hIn),?_⟩); (first | refine o1 ?_ | refine o2 ?_ | refine o3 ?_ | refine o4 ?_)) | refine .inl ⟨_,_,_,_,rfl,pu (by first | exact hw | exact hf | exact hl | exact hC | exact hE1 | exact hF | exact hFe | exact hIn),?_⟩))
 | refine cF ?_
 | refine cG ?_
 | refine om ?_
 | refine an ?_
 | fail) <;> try simp only [zT, zV, zS, zU, vcC, lateX, ex, strp, binA, elems, cells, scalar, eqC, keyA, intsA, lookA, ofVs, mpOf, Nat.reduceBEq, reduceAdd, reduceSub, reduceLT, reduceLeDiff, reduceMul, reduceEqDiff, reduceIte, hg, bne_self_eq_false]))
        all_goals try (exfalso; omega)
        all_goals exact Frz.eq rfl (by simp)
    · rcases hg with hg | ⟨L,hg⟩
      · (repeat' ((first
 | refine vn rfl ?_
 | simp (disch:=omega) only [wr64,Int.zero_sub]
 | refine bo (fun _=>?_) fun _=>?_
 | refine im fun _=>?_
 | ((repeat refine si ?_); (first | ((first | refine .inl ⟨_,_,_,_,rfl,fun _=>pu (by first | exact hw | exact hf | exact hl | exact hC | exact hE1 | exact hF | exact hFe | exact hIn),?_⟩ | refine ⟨_,_,_,_,rfl,fun _=>pu (by first | exact hw | exact hf | exact hl | exact hC | exact hE1 | exact hF | exact hFe | exact hIn),?_⟩); (first | refine o1 ?_ | refine o2 ?_ | refine o3 ?_ | refine o4 ?_)) | refine .inl ⟨_,_,_,_,rfl,pu (by first | exact hw | exact hf | exact hl | exact hC | exact hE1 | exact hF | exact hFe | exact hIn),?_⟩))
 | refine cF ?_
 | refine cG ?_
 | refine om ?_
 | refine an ?_
 | fail) <;> try simp only [zT, zV, zS, zU, vcC, lateX, ex, strp, binA, elems, cells, scalar, eqC, keyA, intsA, lookA, ofVs, mpOf, Nat.reduceBEq, reduceAdd, reduceSub, reduceLT, reduceLeDiff, reduceMul, reduceEqDiff, reduceIte, hg, hel, bne_self_eq_false]))
        all_goals try (exfalso; omega)
        all_goals exact Frz.eq rfl (by simp)
      · (repeat' ((first
 | refine vn rfl ?_
 | simp (disch:=omega) only [wr64,Int.zero_sub]
 | refine bo (fun _=>?_) fun _=>?_
 | refine im fun _=>?_
 | ((repeat refine si ?_); (first | ((first | refine .inl ⟨_,_,_,_,rfl,fun _=>pu (by first | exact hw | exact hf | exact hl | exact hC | exact hE1 | exact hF | exact hFe | exact hIn),?_⟩ | refine ⟨_,_,_,_,rfl,fun _=>pu (by first | exact hw | exact hf | exact hl | exact hC | exact hE1 | exact hF | exact hFe | exact hIn),?_⟩); (first | refine o1 ?_ | refine o2 ?_ | refine o3 ?_ | refine o4 ?_)) | refine .inl ⟨_,_,_,_,rfl,pu (by first | exact hw | exact hf | exact hl | exact hC | exact hE1 | exact hF | exact hFe | exact hIn),?_⟩))
 | refine cF ?_
 | refine cG ?_
 | refine om ?_
 | refine an ?_
 | fail) <;> try simp only [zT, zV, zS, zU, vcC, lateX, ex, strp, binA, elems, cells, scalar, eqC, keyA, intsA, lookA, ofVs, mpOf, Nat.reduceBEq, reduceAdd, reduceSub, reduceLT, reduceLeDiff, reduceMul, reduceEqDiff, reduceIte, hg, hel, bne_self_eq_false]))
        all_goals try (exfalso; omega)
        all_goals exact Frz.eq rfl (by simp)
  obtain ⟨s,rfl⟩:∃ s:Nat,x1=s:=⟨x1.toNat,by omega⟩
  have hsl:s < t.length:=by omega
  have gt1:(t.map fun l=>[stS l]).getD s []=[stS (t.getD s [])]:=getD_map (getD_some hsl)
  have hww:wd t s=(t.getD s []).length:=rfl
  have z0:(s:Int).toNat=s:=by omega
  by_cases hone:wd t s=1
  case neg =>
    rw [hww] at hone
    generalize t.getD s []=L at *
    have hne:((L.length:Int) != 1)=true:=by simp; omega
    generalize tr (Mem last EL)=Q at *
    rcases hEE with ⟨rfl,hel⟩ | ⟨rfl,hel⟩
    · (repeat' ((first
 | refine vn rfl ?_
 | simp (disch:=omega) only [wr64,Int.zero_sub]
 | refine bo (fun _=>?_) fun _=>?_
 | refine im fun _=>?_
 | ((repeat refine si ?_); (first | ((first | refine .inl ⟨_,_,_,_,rfl,fun _=>pu (by first | exact hw | exact hf | exact hl | exact hC | exact hE1 | exact hF | exact hFe | exact hIn),?_⟩ | refine ⟨_,_,_,_,rfl,fun _=>pu (by first | exact hw | exact hf | exact hl | exact hC | exact hE1 | exact hF | exact hFe | exact hIn),?_⟩); (first | refine o1 ?_ | refine o2 ?_ | refine o3 ?_ | refine o4 ?_)) | refine .inl ⟨_,_,_,_,rfl,pu (by first | exact hw | exact hf | exact hl | exact hC | exact hE1 | exact hF | exact hFe | exact hIn),?_⟩))
 | refine cF ?_
 | refine om ?_
 | refine an ?_
 | fail) <;> try simp only [zT,zV,zS,zU,vcC,lateX,ex,strp,binA,elems,cells,scalar,eqC,keyA,intsA,lookA,ofVs,mpOf,Nat.reduceBEq,reduceAdd,reduceSub,reduceLT,reduceLeDiff,reduceMul,reduceEqDiff,reduceIte,gt1,hne,z0,bne_self_eq_false]))
      all_goals try (exfalso; omega)
      all_goals exact Frz.eq rfl (by simp)
    · (repeat' ((first
 | refine vn rfl ?_
 | simp (disch:=omega) only [wr64,Int.zero_sub]
 | refine bo (fun _=>?_) fun _=>?_
 | refine im fun _=>?_
 | ((repeat refine si ?_); (first | ((first | refine .inl ⟨_,_,_,_,rfl,fun _=>pu (by first | exact hw | exact hf | exact hl | exact hC | exact hE1 | exact hF | exact hFe | exact hIn),?_⟩ | refine ⟨_,_,_,_,rfl,fun _=>pu (by first | exact hw | exact hf | exact hl | exact hC | exact hE1 | exact hF | exact hFe | exact hIn),?_⟩); (first | refine o1 ?_ | refine o2 ?_ | refine o3 ?_ | refine o4 ?_)) | refine .inl ⟨_,_,_,_,rfl,pu (by first | exact hw | exact hf | exact hl | exact hC | exact hE1 | exact hF | exact hFe | exact hIn),?_⟩))
 | refine cF ?_
 | refine om ?_
 | refine an ?_
 | fail) <;> try simp only [zT,zV,zS,zU,vcC,lateX,ex,strp,binA,elems,cells,scalar,eqC,keyA,intsA,lookA,ofVs,mpOf,Nat.reduceBEq,reduceAdd,reduceSub,reduceLT,reduceLeDiff,reduceMul,reduceEqDiff,reduceIte,gt1,hne,z0,hel,bne_self_eq_false]))
      all_goals try (exfalso; omega)
      all_goals exact Frz.eq rfl (by simp)
  have hsp:=hsplit s hsl hone
  have hL1:(t.getD s []).length=1:=hone
  have hN:((t.length:Int) - 1)=((t.length - 1:Nat):Int):=by omega
  obtain ⟨pe1,pr1⟩:=partE_0 hv (Nat.zero_le s) hsl
  obtain ⟨pe2,pr2⟩:=partE_0 hv (show s≤t.length - 1 by omega) (show t.length - 1 < t.length by omega)
  have hP1:=Part_spec t ((0:Nat):Int) s hs
  have hP2:=Part_spec t s ((t.length - 1:Nat):Int) hs
  rw [pe1,pr1] at hP1
  rw [pe2,pr2,← hN] at hP2
  have va:=part_valid hv (Nat.zero_le s) hsl
  have vb:=part_valid hv (show s≤t.length - 1 by omega) (show t.length - 1 < t.length by omega)
  have sa:=partT_sz hs (Nat.zero_le s) hsl
  have sb:=partT_sz hs (show s≤t.length - 1 by omega) (show t.length - 1 < t.length by omega)
  have ca:course (partT t 0 s) (c0.take (s+1)):=(part_course (Nat.zero_le s)).2 ⟨by have:=hcc.1; rw [List.length_take]; omega,way_takeN _ hcc.2⟩
  have cb:course (partT t s (t.length - 1)) (c0.drop s):=(part_course (by omega)).2 ⟨by have:=hcc.1; rw [List.length_drop]; omega,by have:=way_dropN s hcc.2; rwa [Nat.zero_add] at this⟩
  have aska:askE (partT t 0 s) true=0:=askE0.2 ⟨va,rfl,(feas_course va).2 ⟨_,ca⟩⟩
  have askb:askE (partT t s (t.length - 1)) true=0:=askE0.2 ⟨vb,rfl,(feas_course vb).2 ⟨_,cb⟩⟩
  have hE2:=Ends_spec (partT t 0 s) xf sa
  have hE3:=fun m=>Ends_spec (partT t s (t.length - 1)) m sb
  have he2:endsE (partT t 0 s) xf=0∨endsE (partT t 0 s) xf=3:=by
    unfold endsE; rw [if_pos aska]; split <;> simp
  rw [if_pos aska] at hE2
  simp only [if_pos askb] at hE3
  have hgM:=endsL_good va xf
  have hIn3:=fun m=>In_spec (endsL (partT t s (t.length - 1)) m) last (by have:=good_len (endsL_good vb m); omega)
  generalize partT t s (t.length - 1)=Tb at *
  generalize endsL (partT t 0 s) xf=M at *
  generalize endsE (partT t 0 s) xf=e2 at *
  generalize partT t 0 s=Ta at *
  generalize t.getD s []=L at *
  have hMl:=good_len hgM
  have hwb:=widS_bd hgM
  have hend:tr (endF Tb last M)=tr (Mem last EL):=by
    rw [decide_eq_decide,hsp]
    unfold endF
    constructor
    · rintro ⟨r,hr,v,h1,h2⟩
      exact ⟨v,⟨r,hr,h1⟩,h2⟩
    · rintro ⟨m,⟨r,hr,h1⟩,h2⟩
      exact ⟨r,hr,m,h1,h2⟩
  clear hsp hsplit pe1 pr1 pe2 pr2
  rcases hEE with ⟨rfl,hel⟩ | ⟨rfl,hel⟩ <;> rcases he2 with rfl | rfl
  all_goals (
    (repeat' ((first
 | refine vn rfl ?_
 | simp (disch:=omega) only [wr64,Int.zero_sub]
 | refine bo (fun _=>?_) fun _=>?_
 | refine im fun _=>?_
 | ((repeat refine si ?_); (first | ((first | refine .inl ⟨_,_,_,_,rfl,fun _=>pu (by first | exact hw | exact hf | exact hl | exact hC | exact hE1 | exact hF | exact hFe | exact hIn | exact hP1 | exact hP2 | exact hE2),?_⟩ | refine ⟨_,_,_,_,rfl,fun _=>pu (by first | exact hw | exact hf | exact hl | exact hC | exact hE1 | exact hF | exact hFe | exact hIn | exact hP1 | exact hP2 | exact hE2),?_⟩); (first | refine o1 ?_ | refine o2 ?_ | refine o3 ?_ | refine o4 ?_)) | refine .inl ⟨_,_,_,_,rfl,pu (by first | exact hw | exact hf | exact hl | exact hC | exact hE1 | exact hF | exact hFe | exact hIn | exact hP1 | exact hP2 | exact hE2),?_⟩))
 | refine cF ?_
 | refine om ?_
 | refine an ?_
 | fail) <;> try simp only [zT,zV,zS,zU,vcC,lateX,ex,strp,binA,elems,cells,scalar,eqC,keyA,intsA,lookA,ofVs,mpOf,Nat.reduceBEq,reduceAdd,reduceSub,reduceLT,reduceLeDiff,reduceMul,reduceEqDiff,reduceIte,gt1,hL1,z0,hel,bne_self_eq_false]))
    all_goals try (exfalso; omega))
  all_goals refine AWPC.loopS (α:={ y:Nat // y≤M.length }) [21,22] (fun y=>[(21,n (widS (M.take y.1))),(22,n y.1)]) (fun y=>M.length - y.1) ⟨0,Nat.zero_le _⟩ ?_ ?_
  all_goals first | ((simp only [zT,zV,zS,zU,vcC,lateX,ex,strp,binA,elems,cells,scalar,eqC,keyA,intsA,lookA,ofVs,mpOf,Nat.reduceBEq,reduceAdd,reduceSub,reduceLT,reduceLeDiff,reduceMul,reduceEqDiff,reduceIte]; try simp); done) | ((simp only [zT,zV,zS,zU,vcC,lateX,ex,strp,binA,elems,cells,scalar,eqC,keyA,intsA,lookA,ofVs,mpOf,Nat.reduceBEq,reduceAdd,reduceSub,reduceLT,reduceLeDiff,reduceMul,reduceEqDiff,reduceIte]; try simp); rfl) | skip
  all_goals
    rintro ⟨i,hi⟩
    try simp only at hi
    try simp only
    by_cases hlt:i < M.length
    · obtain ⟨r,hr⟩:∃ r,M[i]?=some r:=⟨_,List.getElem?_eq_getElem hlt⟩
      have r1:=hgM.2 r (List.mem_of_getElem? hr)
      have r2:=hgM.1.ne r (List.mem_of_getElem? hr)
      have r3:=hwb i hi
      have r4:=widS_next hr
      generalize widS (M.take i)=W at *
      (repeat' ((first
 | refine vn rfl ?_
 | simp (disch:=omega) only [wr64,Int.zero_sub]
 | refine bo (fun _=>?_) fun _=>?_
 | refine im fun _=>?_
 | refine cF ?_
 | refine om ?_
 | refine an ?_
 | fail) <;> try simp only [zT,zV,zS,zU,vcC,lateX,ex,strp,binA,elems,cells,scalar,eqC,keyA,intsA,lookA,ofVs,mpOf,Nat.reduceBEq,reduceAdd,reduceSub,reduceLT,reduceLeDiff,reduceMul,reduceEqDiff,reduceIte,getD_map hr]))
      all_goals try (exfalso; omega)
      all_goals exact ⟨⟨i+1,hlt⟩,⟨congrArg n r4.symm,rfl⟩,by first | omega | (simp only; omega)⟩
    obtain rfl:i=M.length:=by omega
    rw [List.take_length]
    by_cases h60:60 < widS M
    · generalize widS M=W at *
      (repeat' ((first
 | refine vn rfl ?_
 | simp (disch:=omega) only [wr64,Int.zero_sub]
 | refine bo (fun _=>?_) fun _=>?_
 | refine im fun _=>?_
 | refine cF ?_
 | refine om ?_
 | refine an ?_
 | fail) <;> try simp only [zT,zV,zS,zU,vcC,lateX,ex,strp,binA,elems,cells,scalar,eqC,keyA,intsA,lookA,ofVs,mpOf,Nat.reduceBEq,reduceAdd,reduceSub,reduceLT,reduceLeDiff,reduceMul,reduceEqDiff,reduceIte]))
      all_goals try (exfalso; omega)
      all_goals exact Frz.eq rfl (by simp)
    have he0:tr (endF Tb last [])=false:=tr_0 (by simp [endF])
    generalize widS M=W at *
    (repeat' ((first
 | refine vn rfl ?_
 | simp (disch:=omega) only [wr64,Int.zero_sub]
 | refine bo (fun _=>?_) fun _=>?_
 | refine im fun _=>?_
 | refine cF ?_
 | refine om ?_
 | refine an ?_
 | fail) <;> try simp only [zT,zV,zS,zU,vcC,lateX,ex,strp,binA,elems,cells,scalar,eqC,keyA,intsA,lookA,ofVs,mpOf,Nat.reduceBEq,reduceAdd,reduceSub,reduceLT,reduceLeDiff,reduceMul,reduceEqDiff,reduceIte]))
    all_goals try (exfalso; omega)
    refine AWPC.loopS (α:={ y:Nat // y≤M.length }) [23,24] (fun y=>[(23,bl (tr (endF Tb last (M.take y.1)))),(24,n y.1)]) (fun y=>M.length - y.1) ⟨0,Nat.zero_le _⟩ ?_ ?_
    · simp only [zT,zV,zS,zU,vcC,lateX,ex,strp,binA,elems,cells,scalar,eqC,keyA,intsA,lookA,ofVs,mpOf,Nat.reduceBEq,reduceAdd,reduceSub,reduceLT,reduceLeDiff,reduceMul,reduceEqDiff,reduceIte,List.take_zero,he0]; try simp
    rintro ⟨j,hj⟩
    try simp only at hj
    try simp only
    by_cases hlt2:j < M.length
    · obtain ⟨r,hr⟩:∃ r,M[j]?=some r:=⟨_,List.getElem?_eq_getElem hlt2⟩
      have r1:=hgM.2 r (List.mem_of_getElem? hr)
      have r2:=hgM.1.ne r (List.mem_of_getElem? hr)
      have hG0:tr (endG Tb last (M.take j) r.lo r.lo)=tr (endF Tb last (M.take j)):=decide_eq_decide.2 endG_0
      have hGe:tr (endG Tb last (M.take j) r.lo (r.hi+1))=tr (endF Tb last (M.take (j+1))):=decide_eq_decide.2 (endG_end hr)
      (repeat' ((first
 | refine vn rfl ?_
 | simp (disch:=omega) only [wr64,Int.zero_sub]
 | refine bo (fun _=>?_) fun _=>?_
 | refine im fun _=>?_
 | refine cF ?_
 | refine om ?_
 | refine an ?_
 | fail) <;> try simp only [zT,zV,zS,zU,vcC,lateX,ex,strp,binA,elems,cells,scalar,eqC,keyA,intsA,lookA,ofVs,mpOf,Nat.reduceBEq,reduceAdd,reduceSub,reduceLT,reduceLeDiff,reduceMul,reduceEqDiff,reduceIte,getD_map hr]))
      all_goals try (exfalso; omega)
      refine AWPC.loopS (α:={ m:Int // r.lo≤m∧m≤r.hi+1 }) [23,25] (fun m=>[(23,bl (tr (endG Tb last (M.take j) r.lo m.1))),(25,n m.1)]) (fun m=>(r.hi+1 - m.1).toNat) ⟨r.lo,by omega,by omega⟩ ?_ ?_
      · simp only [zT,zV,zS,zU,vcC,lateX,ex,strp,binA,elems,cells,scalar,eqC,keyA,intsA,lookA,ofVs,mpOf,Nat.reduceBEq,reduceAdd,reduceSub,reduceLT,reduceLeDiff,reduceMul,reduceEqDiff,reduceIte,hG0]; try simp
      rintro ⟨m,hm1,hm2⟩
      try simp only at hm1 hm2
      try simp only
      by_cases hlt3:m≤r.hi
      · have hnx:=@endG_next Tb last (M.take j) r.lo m hm1
        have h3:=hE3 m
        have h4:=hIn3 m
        by_cases hG:endG Tb last (M.take j) r.lo m
        · rw [tr_1 hG]
          have hG':=tr_1 (hnx.2 (.inl hG))
          (repeat' ((first
 | refine vn rfl ?_
 | simp (disch:=omega) only [wr64,Int.zero_sub]
 | refine bo (fun _=>?_) fun _=>?_
 | refine im fun _=>?_
 | ((repeat refine si ?_); (first | ((first | refine .inl ⟨_,_,_,_,rfl,fun _=>pu h3,?_⟩ | refine ⟨_,_,_,_,rfl,fun _=>pu h3,?_⟩); (first | refine o1 ?_ | refine o2 ?_ | refine o3 ?_ | refine o4 ?_)) | refine .inl ⟨_,_,_,_,rfl,pu h3,?_⟩))
 | refine cF ?_
 | refine om ?_
 | refine an ?_
 | fail) <;> try simp only [zT, zV, zS, zU, vcC, lateX, ex, strp, binA, elems, cells, scalar, eqC, keyA, intsA, lookA, ofVs, mpOf, Nat.reduceBEq, reduceAdd, reduceSub, reduceLT, reduceLeDiff, reduceMul, reduceEqDiff, reduceIte, getD_map hr]))
          all_goals try (exfalso; omega)
          all_goals exact ⟨⟨m+1,by omega,by omega⟩,⟨congrArg bl hG'.symm,rfl⟩,by first | omega | (simp only; omega)⟩
        · rw [tr_0 hG]
          by_cases hMm:Mem last (endsL Tb m)
          · have hG':=tr_1 (hnx.2 (.inr hMm))
            rw [tr_1 hMm] at h4
            (repeat' ((first
 | refine vn rfl ?_
 | simp (disch:=omega) only [wr64,Int.zero_sub]
 | refine bo (fun _=>?_) fun _=>?_
 | refine im fun _=>?_
 | ((repeat refine si ?_); (first | ((first | refine .inl ⟨_,_,_,_,rfl,fun _=>pu (by first | exact h3 | exact h4),?_⟩ | refine ⟨_,_,_,_,rfl,fun _=>pu (by first | exact h3 | exact h4),?_⟩); (first | refine o1 ?_ | refine o2 ?_ | refine o3 ?_ | refine o4 ?_)) | refine .inl ⟨_,_,_,_,rfl,pu (by first | exact h3 | exact h4),?_⟩))
 | refine cF ?_
 | refine om ?_
 | refine an ?_
 | fail) <;> try simp only [zT, zV, zS, zU, vcC, lateX, ex, strp, binA, elems, cells, scalar, eqC, keyA, intsA, lookA, ofVs, mpOf, Nat.reduceBEq, reduceAdd, reduceSub, reduceLT, reduceLeDiff, reduceMul, reduceEqDiff, reduceIte, getD_map hr]))
            all_goals try (exfalso; omega)
            all_goals exact ⟨⟨m+1,by omega,by omega⟩,⟨congrArg bl hG'.symm,rfl⟩,by first | omega | (simp only; omega)⟩
          · have hG':=tr_0 (fun h=>(hnx.1 h).elim hG hMm)
            rw [tr_0 hMm] at h4
            (repeat' ((first
 | refine vn rfl ?_
 | simp (disch:=omega) only [wr64,Int.zero_sub]
 | refine bo (fun _=>?_) fun _=>?_
 | refine im fun _=>?_
 | ((repeat refine si ?_); (first | ((first | refine .inl ⟨_,_,_,_,rfl,fun _=>pu (by first | exact h3 | exact h4),?_⟩ | refine ⟨_,_,_,_,rfl,fun _=>pu (by first | exact h3 | exact h4),?_⟩); (first | refine o1 ?_ | refine o2 ?_ | refine o3 ?_ | refine o4 ?_)) | refine .inl ⟨_,_,_,_,rfl,pu (by first | exact h3 | exact h4),?_⟩))
 | refine cF ?_
 | refine om ?_
 | refine an ?_
 | fail) <;> try simp only [zT, zV, zS, zU, vcC, lateX, ex, strp, binA, elems, cells, scalar, eqC, keyA, intsA, lookA, ofVs, mpOf, Nat.reduceBEq, reduceAdd, reduceSub, reduceLT, reduceLeDiff, reduceMul, reduceEqDiff, reduceIte, getD_map hr]))
            all_goals try (exfalso; omega)
            all_goals exact ⟨⟨m+1,by omega,by omega⟩,⟨congrArg bl hG'.symm,rfl⟩,by first | omega | (simp only; omega)⟩
      · obtain rfl:m=r.hi+1:=by omega
        rw [hGe]
        (repeat' ((first
 | refine vn rfl ?_
 | simp (disch:=omega) only [wr64,Int.zero_sub]
 | refine bo (fun _=>?_) fun _=>?_
 | refine im fun _=>?_
 | refine cF ?_
 | refine om ?_
 | refine an ?_
 | fail) <;> try simp only [zT, zV, zS, zU, vcC, lateX, ex, strp, binA, elems, cells, scalar, eqC, keyA, intsA, lookA, ofVs, mpOf, Nat.reduceBEq, reduceAdd, reduceSub, reduceLT, reduceLeDiff, reduceMul, reduceEqDiff, reduceIte, getD_map hr]))
        all_goals try (exfalso; omega)
        all_goals exact ⟨⟨j+1,hlt2⟩,⟨rfl,rfl⟩,by first | omega | (simp only; omega)⟩
    · obtain rfl:j=M.length:=by omega
      rw [List.take_length,hend]
      generalize tr (Mem last EL)=Q at *
      (repeat' ((first
 | refine vn rfl ?_
 | simp (disch:=omega) only [wr64,Int.zero_sub]
 | refine bo (fun _=>?_) fun _=>?_
 | refine im fun _=>?_
 | ((repeat refine si ?_); (first | ((first | refine .inl ⟨_,_,_,_,rfl,fun _=>pu hIn,?_⟩ | refine ⟨_,_,_,_,rfl,fun _=>pu hIn,?_⟩); (first | refine o1 ?_ | refine o2 ?_ | refine o3 ?_ | refine o4 ?_)) | refine .inl ⟨_,_,_,_,rfl,pu hIn,?_⟩))
 | refine cF ?_
 | refine om ?_
 | refine an ?_
 | fail) <;> try simp only [zT,zV,zS,zU,vcC,lateX,ex,strp,binA,elems,cells,scalar,eqC,keyA,intsA,lookA,ofVs,mpOf,Nat.reduceBEq,reduceAdd,reduceSub,reduceLT,reduceLeDiff,reduceMul,reduceEqDiff,reduceIte,beq_self_eq_true]))
      all_goals try (exfalso; omega)
      all_goals exact Frz.eq rfl (by simp)
end Go.Proofs.YtahkhnagpdlkiaaGreat
