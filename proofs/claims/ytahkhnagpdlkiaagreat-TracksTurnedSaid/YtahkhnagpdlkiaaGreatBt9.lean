/- Part 9 of the texts that the claim rests on: abstract values over the walk, and contracts of functions. -/
import Derived.Test.YtahkhnagpdlkiaaGreatBt8
import Derived.Test.YtahkhnagpdlkiaaGreatRows
import Derived.WalkKit
import Derived.ProofKit
import Derived.OpenShut
import Derived.ShutString
import Derived.ChangeOld
import Derived.Below
namespace Go.Proofs.YtahkhnagpdlkiaaGreat
open Go.Abs
open Nat (reduceAdd reduceSub reduceLT reduceLeDiff reduceMul reduceEqDiff)
set_option linter.unusedVariables false
set_option linter.unusedSimpArgs false
set_option maxHeartbeats 4000000
set_option maxRecDepth 100000
open Go.ChangeShapes Go.WideShapes Go.ChangeAt Go.RowKit
theorem own:ownKnob Tryz.prog.godebug=none:=by kernel_rfl
theorem laidOut:laidOutB Tryz.prog=true:=by kernel_rfl
theorem cells3:Tryz.prog.cellsOf 3=1:=by kernel_rfl
theorem cells30:Tryz.prog.cellsOf 30=2:=by kernel_rfl
theorem cells45:Tryz.prog.cellsOf 45=1:=by kernel_rfl
theorem cells124:Tryz.prog.cellsOf 124=3:=by kernel_rfl
theorem cells78:Tryz.prog.cellsOf 78=1:=by kernel_rfl
theorem cells80:Tryz.prog.cellsOf 80=2:=by kernel_rfl
theorem cells68:Tryz.prog.cellsOf 68=1:=by kernel_rfl
theorem cells22:Tryz.prog.cellsOf 22=1:=by kernel_rfl
theorem cells24:Tryz.prog.cellsOf 24=1:=by kernel_rfl
theorem cells61:Tryz.prog.cellsOf 61=1:=by kernel_rfl
theorem cells31:Tryz.prog.cellsOf 31=1:=by kernel_rfl
theorem cells26:Tryz.prog.cellsOf 26=2:=by kernel_rfl
theorem cells27:Tryz.prog.cellsOf 27=1:=by kernel_rfl
theorem cells65:Tryz.prog.cellsOf 65=2:=by kernel_rfl
theorem cells28:Tryz.prog.cellsOf 28=1:=by kernel_rfl
theorem cells33:Tryz.prog.cellsOf 33=11:=by kernel_rfl
theorem op3:Opens Tryz.prog 3 Int (fun z=>[n z]) (fun _=>True):=(opens_int Tryz.underlying3).to id (fun _=>rfl) (fun _ _=>trivial)
theorem op30:Opens Tryz.prog 30 Sp Sp.cs (fun _=>True) :=
  (opens_struct Tryz.underlying30 cells30 (fun _=>rfl) (opensF_cons rfl cells3 op3 (fun _=>rfl) (opensF_cons rfl cells3 op3 (fun _=>rfl) (opensF_nil _)))).to (fun a=>⟨a.1,a.2.1⟩) (fun _=>rfl) (fun _ _=>trivial)
theorem op45:Opens Tryz.prog 45 (List Sp) (fun l=>[spS l]) (fun l=>l.length < 9223372036854775808) :=
  (opens_slice Tryz.underlying45 cells30 (by decide) op30 (fun _=>rfl)).to id (fun _=>rfl) (fun _ h=>h.1)
theorem op124:Opens Tryz.prog 124 Edg Edg.cs (fun _=>True) :=
  (opens_struct Tryz.underlying124 cells124 (fun _=>rfl) (opensF_cons rfl cells3 op3 (fun _=>rfl) (opensF_cons rfl cells30 op30 (fun _=>rfl) (opensF_nil _)))).to (fun a=>⟨a.1,a.2.1⟩) (fun _=>rfl) (fun _ _=>trivial)
theorem op78:Opens Tryz.prog 78 (List Edg) (fun l=>[edS l]) (fun l=>l.length < 9223372036854775808) :=
  (opens_slice Tryz.underlying78 cells124 (by decide) op124 (fun _=>rfl)).to id (fun _=>rfl) (fun _ h=>h.1)
theorem op80:Opens Tryz.prog 80 Nod Nod.cs nodSz :=
  (opens_struct Tryz.underlying80 cells80 (fun _=>rfl) (opensF_cons rfl cells45 op45 (fun _=>rfl) (opensF_cons rfl cells78 op78 (fun _=>rfl) (opensF_nil _)))).to (fun a=>⟨a.1,a.2.1⟩) (fun _=>rfl) (fun _ h=>⟨h.1,h.2.1⟩)
theorem op68:Opens Tryz.prog 68 (List Nod) (fun l=>[stS l]) stgSz :=
  (opens_slice Tryz.underlying68 cells80 (by decide) op80 (fun _=>rfl)).to id (fun _=>rfl) (fun _ h=>h)
theorem op22:Opens Tryz.prog 22 Trk (fun l=>[tkS l]) trkSz :=
  (opens_slice Tryz.underlying22 cells68 (by decide) op68 (fun _=>rfl)).to id (fun _=>rfl) (fun _ h=>h)
theorem op24:Opens Tryz.prog 24 Trk (fun l=>[tkS l]) trkSz :=
  (opens_struct Tryz.underlying24 cells24 (fun _=>rfl) (opensF_cons rfl cells22 op22 (fun _=>rfl) (opensF_nil _))).to (fun a=>a.1) (fun _=>rfl) (fun _ h=>h.1)
theorem op61:Opens Tryz.prog 61 (List (List Sp)) (fun l=>[nodS l]) (fun l=>l.length < 9223372036854775808∧∀ x∈l,x.length < 9223372036854775808) :=
  (opens_slice Tryz.underlying61 cells45 (by decide) op45 (fun _=>rfl)).to id (fun _=>rfl) (fun _ h=>h)
theorem op31:Opens Tryz.prog 31 (List (List (List Sp))) (fun l=>[stgS l]) setsSz :=
  (opens_slice Tryz.underlying31 cells61 (by decide) op61 (fun _=>rfl)).to id (fun _=>rfl) (fun _ h=>h)
theorem op26:Opens Tryz.prog 26 At At.cs (fun _=>True) :=
  (opens_struct Tryz.underlying26 cells26 (fun _=>rfl) (opensF_cons rfl cells3 op3 (fun _=>rfl) (opensF_cons rfl cells3 op3 (fun _=>rfl) (opensF_nil _)))).to (fun a=>⟨a.1,a.2.1⟩) (fun _=>rfl) (fun _ _=>trivial)
theorem op27:Opens Tryz.prog 27 (List At) (fun l=>[atS l]) (fun l=>l.length < 9223372036854775808) :=
  (opens_slice Tryz.underlying27 cells26 (by decide) op26 (fun _=>rfl)).to id (fun _=>rfl) (fun _ h=>h.1)
theorem op65:Opens Tryz.prog 65 Lim Lim.cs (fun x=>x.vs.length < 9223372036854775808) :=
  (opens_struct Tryz.underlying65 cells65 (fun _=>rfl) (opensF_cons rfl cells3 op3 (fun _=>rfl) (opensF_cons rfl cells45 op45 (fun _=>rfl) (opensF_nil _)))).to (fun a=>⟨a.1,a.2.1⟩) (fun _=>rfl) (fun _ h=>h.2.1)
theorem op28:Opens Tryz.prog 28 (List Lim) (fun l=>[liS l]) limSz :=
  (opens_slice Tryz.underlying28 cells65 (by decide) op65 (fun _=>rfl)).to id (fun _=>rfl) (fun _ h=>h)
structure Ask where
  stage:Int
  to:Int
  first:Int
  pl:At
  one:List At
  two:List At
  lims:List Lim
  ch:Sp
  sets:List (List (List Sp))
abbrev Ask.cs (x:Ask):List AV:=[n x.stage,n x.to,n x.first,n x.pl.node,n x.pl.val,atS x.one,atS x.two,liS x.lims,n x.ch.lo,n x.ch.hi,stgS x.sets]
def Ask.sz (x:Ask):Prop:=x.one.length < 9223372036854775808∧x.two.length < 9223372036854775808∧limSz x.lims∧setsSz x.sets
theorem op33:Opens Tryz.prog 33 Ask Ask.cs Ask.sz :=
  (opens_struct Tryz.underlying33 cells33 (fun _=>rfl) (opensF_cons rfl cells3 op3 (fun _=>rfl) (opensF_cons rfl cells3 op3 (fun _=>rfl) (opensF_cons rfl cells3 op3 (fun _=>rfl) (opensF_cons rfl cells26 op26 (fun _=>rfl) (opensF_cons rfl cells27 op27 (fun _=>rfl) (opensF_cons rfl cells27 op27 (fun _=>rfl) (opensF_cons rfl cells28 op28 (fun _=>rfl) (opensF_cons rfl cells30 op30 (fun _=>rfl) (opensF_cons rfl cells31 op31 (fun _=>rfl) (opensF_nil _))))))))))).to (fun a=>⟨a.1,a.2.1,a.2.2.1,a.2.2.2.1,a.2.2.2.2.1,a.2.2.2.2.2.1,a.2.2.2.2.2.2.1,a.2.2.2.2.2.2.2.1,a.2.2.2.2.2.2.2.2.1⟩) (fun _=>rfl) (fun _ h=>⟨h.2.2.2.2.1,h.2.2.2.2.2.1,h.2.2.2.2.2.2.1,h.2.2.2.2.2.2.2.2.1⟩)
section
variable {H:Type} {enc:TypeId × Value→H} {w:World} {r:Reach} {base b0:Nat} {sp:Nat→Bool} {held:Bool} {v:Value} {d:DataW H} {ps:List MemPlace}
theorem open_trk (h:Value.okWide Tryz.prog w r base 24 v) (hx:DataW.Trod enc Tryz.prog w b0 sp held 24 v d ps):∃ l:Trk,trkSz l∧RV w (fun _=>False) nob [] (trS l) v:=by
  obtain ⟨cs,rfl,_⟩:=okWide_struct Tryz.underlying24 h
  exact op24.agg hx
theorem open_ask (h:Value.okWide Tryz.prog w r base 33 v) (hx:DataW.Trod enc Tryz.prog w b0 sp held 33 v d ps):∃ l:Ask,Ask.sz l∧RV w (fun _=>False) nob [] (.agg l.cs) v:=by
  obtain ⟨cs,rfl,_⟩:=okWide_struct Tryz.underlying33 h
  exact op33.agg hx
end
end Go.Proofs.YtahkhnagpdlkiaaGreat
namespace Go.Proofs.YtahkhnagpdlkiaaGreat
open Go.Abs
open Nat (reduceAdd reduceSub reduceLT reduceLeDiff reduceMul reduceEqDiff)
set_option linter.unusedVariables false
set_option linter.unusedSimpArgs false
set_option maxHeartbeats 4000000
set_option maxRecDepth 100000
def c18:CF:=⟨77,
 (.seq (.ops [
 ⟨some 1,.box false 33 11 (.t 0),none⟩,
 ⟨some 2,.mv (.c (.bool false)),none⟩] [1])
 (.seq (.seq (.ops [
 ⟨some 6,.faddr 5 (.t 1),none⟩,
 ⟨some 7,.load none (.t 6),none⟩,
 ⟨some 8,.len (.t 7),none⟩,
 ⟨some 9,.bin .gtr (.t 8) (.c (.int .i64 500)),none⟩,
 ⟨some 10,.mv (.t 9),none⟩,
 ⟨some 11,.faddr 6 (.t 1),some (10,false)⟩,
 ⟨some 12,.load none (.t 11),some (10,false)⟩,
 ⟨some 13,.len (.t 12),some (10,false)⟩,
 ⟨some 14,.bin .gtr (.t 13) (.c (.int .i64 500)),some (10,false)⟩,
 ⟨some 15,.pick (.t 10) (.c (.bool true)) (.t 14),none⟩,
 ⟨some 16,.mv (.t 15),none⟩,
 ⟨some 17,.faddr 7 (.t 1),some (16,false)⟩,
 ⟨some 18,.load none (.t 17),some (16,false)⟩,
 ⟨some 19,.len (.t 18),some (16,false)⟩,
 ⟨some 20,.bin .gtr (.t 19) (.c (.int .i64 12)),some (16,false)⟩,
 ⟨some 21,.pick (.t 16) (.c (.bool true)) (.t 20),none⟩,
 ⟨some 22,.mv (.t 21),none⟩,
 ⟨some 23,.faddr 10 (.t 1),some (22,false)⟩,
 ⟨some 24,.load none (.t 23),some (22,false)⟩,
 ⟨some 25,.len (.t 24),some (22,false)⟩,
 ⟨some 26,.bin .gtr (.t 25) (.c (.int .i64 12)),some (22,false)⟩,
 ⟨some 27,.pick (.t 22) (.c (.bool true)) (.t 26),none⟩] [1,27])
 (.cond (.t 27) (.seq (.ops [
 ⟨some 2,.mv (.c (.bool false)),none⟩] [2])
 .ret)
 .skip))
 (.seq (.seq (.ops [
 ⟨some 3,.mv (.c (.int .i64 0)),none⟩] [1,3])
 (.block 0 (.loop (.seq (.seq (.ops [
 ⟨some 28,.mv (.t 3),none⟩,
 ⟨some 29,.faddr 7 (.t 1),none⟩,
 ⟨some 30,.load none (.t 29),none⟩,
 ⟨some 31,.len (.t 30),none⟩,
 ⟨some 32,.bin .lss (.t 28) (.t 31),none⟩] [1,3,32])
 (.cond (.t 32) .skip
 (.exit 0)))
 (.seq (.block 1 (.seq (.ops [
 ⟨some 35,.faddr 7 (.t 1),none⟩,
 ⟨some 36,.load none (.t 35),none⟩,
 ⟨some 37,.mv (.t 3),none⟩,
 ⟨some 38,.iaddr 2 (.t 36) (.t 37),none⟩,
 ⟨some 39,.faddr 1 (.t 38),none⟩,
 ⟨some 40,.load none (.t 39),none⟩,
 ⟨some 41,.call (.f 24) [(.t 40)],none⟩,
 ⟨some 42,.un .not (.t 41),none⟩] [1,3,42])
 (.cond (.t 42) (.seq (.ops [
 ⟨some 2,.mv (.c (.bool false)),none⟩] [2])
 .ret)
 .skip)))
 (.ops [
 ⟨some 33,.mv (.t 3),none⟩,
 ⟨some 34,.bin .add (.t 33) (.c (.int .i64 1)),none⟩,
 ⟨some 3,.mv (.t 34),none⟩] [1,3]))))))
 (.seq (.seq (.ops [
 ⟨some 4,.mv (.c (.int .i64 0)),none⟩] [1,4])
 (.block 2 (.loop (.seq (.seq (.ops [
 ⟨some 43,.mv (.t 4),none⟩,
 ⟨some 44,.faddr 10 (.t 1),none⟩,
 ⟨some 45,.load none (.t 44),none⟩,
 ⟨some 46,.len (.t 45),none⟩,
 ⟨some 47,.bin .lss (.t 43) (.t 46),none⟩] [1,4,47])
 (.cond (.t 47) .skip
 (.exit 2)))
 (.seq (.block 3 (.seq (.seq (.ops [
 ⟨some 50,.faddr 10 (.t 1),none⟩,
 ⟨some 51,.load none (.t 50),none⟩,
 ⟨some 52,.mv (.t 4),none⟩,
 ⟨some 53,.iaddr 1 (.t 51) (.t 52),none⟩,
 ⟨some 54,.load none (.t 53),none⟩,
 ⟨some 55,.len (.t 54),none⟩,
 ⟨some 56,.bin .gtr (.t 55) (.c (.int .i64 12)),none⟩] [1,4,56])
 (.cond (.t 56) (.seq (.ops [
 ⟨some 2,.mv (.c (.bool false)),none⟩] [2])
 .ret)
 .skip))
 (.seq (.ops [
 ⟨some 5,.mv (.c (.int .i64 0)),none⟩] [1,4,5])
 (.block 4 (.loop (.seq (.seq (.ops [
 ⟨some 57,.mv (.t 5),none⟩,
 ⟨some 58,.faddr 10 (.t 1),none⟩,
 ⟨some 59,.load none (.t 58),none⟩,
 ⟨some 60,.mv (.t 4),none⟩,
 ⟨some 61,.iaddr 1 (.t 59) (.t 60),none⟩,
 ⟨some 62,.load none (.t 61),none⟩,
 ⟨some 63,.len (.t 62),none⟩,
 ⟨some 64,.bin .lss (.t 57) (.t 63),none⟩] [1,4,5,64])
 (.cond (.t 64) .skip
 (.exit 4)))
 (.seq (.block 5 (.seq (.ops [
 ⟨some 67,.faddr 10 (.t 1),none⟩,
 ⟨some 68,.load none (.t 67),none⟩,
 ⟨some 69,.mv (.t 4),none⟩,
 ⟨some 70,.iaddr 1 (.t 68) (.t 69),none⟩,
 ⟨some 71,.load none (.t 70),none⟩,
 ⟨some 72,.mv (.t 5),none⟩,
 ⟨some 73,.iaddr 1 (.t 71) (.t 72),none⟩,
 ⟨some 74,.load none (.t 73),none⟩,
 ⟨some 75,.len (.t 74),none⟩,
 ⟨some 76,.bin .gtr (.t 75) (.c (.int .i64 40)),none⟩] [1,4,5,76])
 (.cond (.t 76) (.seq (.ops [
 ⟨some 2,.mv (.c (.bool false)),none⟩] [2])
 .ret)
 .skip)))
 (.ops [
 ⟨some 65,.mv (.t 5),none⟩,
 ⟨some 66,.bin .add (.t 65) (.c (.int .i64 1)),none⟩,
 ⟨some 5,.mv (.t 66),none⟩] [1,4,5]))))))))
 (.ops [
 ⟨some 48,.mv (.t 4),none⟩,
 ⟨some 49,.bin .add (.t 48) (.c (.int .i64 1)),none⟩,
 ⟨some 4,.mv (.t 49),none⟩] [1,4]))))))
 (.seq (.ops [
 ⟨some 2,.mv (.c (.bool true)),none⟩] [2])
 .ret))))),
 [.t 2]⟩
theorem k18:chkF Tryz.prog Tryz.f18 c18=true:=by kernel_rfl
abbrev bulky (x:Ask):Prop:=((500 < x.one.length∨500 < x.two.length)∨12 < x.lims.length)∨12 < x.sets.length
abbrev briefL (l:List Sp):Prop:=l.length≤12∨64 < l.length∧l.length≤128
structure Light (x:Ask):Prop where
  no:¬ bulky x
  lims:∀ y∈x.lims,briefL y.vs
  sets:∀ l∈x.sets,l.length≤12∧∀ s∈l,s.length≤40
theorem light_spec (x:Ask) (hs:Ask.sz x):Pure Tryz.prog 18 [.agg x.cs] (bl (tr (Light x))):=by
  refine Pure.of_body Tryz.call18 Tryz.func18 k18 (Nat.le_of_ble_eq_true rfl) ?_
  unfold c18
  have hno:¬ Light x→tr (Light x)=false:=tr_0
  obtain ⟨s1,s2,⟨s3,s4⟩,s5,s6⟩:=hs
  have hb:=fun (h:bulky x)=>hno fun g=>g.no h
  have hli:=fun (y:Lim) (hy:y∈x.lims) (h:¬ briefL y.vs)=>hno fun g=>h (g.lims y hy)
  have hse:=fun (l:List (List Sp)) (hl:l∈x.sets) (h:¬ l.length≤12)=>hno fun g=>h (g.sets l hl).1
  have hss:=fun (l:List (List Sp)) (hl:l∈x.sets) (s:List Sp) (hs:s∈l) (h:¬ s.length≤40)=>hno fun g=>h ((g.sets l hl).2 s hs)
  have hok:=fun (h:¬ bulky x) (h2:∀ y∈x.lims,briefL y.vs) (h3:∀ l∈x.sets,l.length≤12∧∀ s∈l,s.length≤40)=>(tr_1 (Light.mk h h2 h3):tr (Light x)=true)
  generalize tr (Light x)=R at *
  clear hno
  obtain ⟨a1,a2,a3,⟨a4,a5⟩,a6,a7,a8,⟨a9,b1⟩,b2⟩:=x
  try simp only at s1 s2 s3 s4 s5 s6 hb hli hse hss hok
  (repeat' ((first
 | refine vn rfl ?_
 | simp (disch:=omega) only [wr64,Int.zero_sub]
 | refine bo (fun _=>?_) fun _=>?_
 | refine im fun _=>?_
 | refine cF ?_
 | refine om ?_
 | refine an ?_
 | fail) <;> try simp only [zT,zV,zS,zU,vcC,lateX,ex,strp,binA,elems,cells,scalar,eqC,keyA,intsA,lookA,ofVs,mpOf,Nat.reduceBEq,reduceAdd,reduceSub,reduceLT,reduceLeDiff,reduceMul,reduceEqDiff,reduceIte]))
  all_goals try (exfalso; omega)
  · rename_i h
    rw [hb (by unfold bulky; simp only; omega)]
    exact Frz.eq rfl (by simp)
  rename_i h
  have hnb:¬ bulky ⟨a1,a2,a3,⟨a4,a5⟩,a6,a7,a8,⟨a9,b1⟩,b2⟩:=by unfold bulky; simp only; omega
  refine AWPC.loopE (α:={ y:Nat // y≤a8.length∧∀ z∈a8.take y,briefL z.vs }) [3] (fun y=>[(3,n y.1)]) (fun y=>[]) (fun y=>a8.length - y.1) ⟨0,Nat.zero_le _,by simp⟩ ?_ rfl ?_
  · (simp only [zT,zV,zS,zU,vcC,lateX,ex,strp,binA,elems,cells,scalar,eqC,keyA,intsA,lookA,ofVs,mpOf,Nat.reduceBEq,reduceAdd,reduceSub,reduceLT,reduceLeDiff,reduceMul,reduceEqDiff,reduceIte]; try simp)
  rintro ⟨i,hi,hI⟩
  try simp only at hi hI
  try simp only
  by_cases hlt:i < a8.length
  · obtain ⟨y,hy⟩:∃ y,a8[i]?=some y:=⟨_,List.getElem?_eq_getElem hlt⟩
    have hym:=List.mem_of_getElem? hy
    have hsn:=take_snoc hy
    have hbr:=brief_spec y.vs
    by_cases hb:briefL y.vs
    · rw [decide_eq_true hb] at hbr
      (repeat' ((first
 | refine vn rfl ?_
 | simp (disch:=omega) only [wr64,Int.zero_sub]
 | refine bo (fun _=>?_) fun _=>?_
 | refine im fun _=>?_
 | ((repeat refine si ?_); (first | ((first | refine .inl ⟨_,_,_,_,rfl,fun _=>pu hbr,?_⟩ | refine ⟨_,_,_,_,rfl,fun _=>pu hbr,?_⟩); (first | refine o1 ?_ | refine o2 ?_ | refine o3 ?_ | refine o4 ?_)) | refine .inl ⟨_,_,_,_,rfl,pu hbr,?_⟩))
 | refine cF ?_
 | refine om ?_
 | refine an ?_
 | fail) <;> try simp only [zT,zV,zS,zU,vcC,lateX,ex,strp,binA,elems,cells,scalar,eqC,keyA,intsA,lookA,ofVs,mpOf,Nat.reduceBEq,reduceAdd,reduceSub,reduceLT,reduceLeDiff,reduceMul,reduceEqDiff,reduceIte,getD_map hy]))
      all_goals try (exfalso; omega)
      exact ⟨⟨i+1,hlt,fun z hz=>by
        rw [hsn] at hz
        rcases List.mem_append.1 hz with h | h
        · exact hI z h
        · rw [List.mem_singleton.1 h]; exact hb⟩,rfl,by simp only; omega⟩
    · rw [decide_eq_false hb] at hbr
      (repeat' ((first
 | refine vn rfl ?_
 | simp (disch:=omega) only [wr64,Int.zero_sub]
 | refine bo (fun _=>?_) fun _=>?_
 | refine im fun _=>?_
 | ((repeat refine si ?_); (first | ((first | refine .inl ⟨_,_,_,_,rfl,fun _=>pu hbr,?_⟩ | refine ⟨_,_,_,_,rfl,fun _=>pu hbr,?_⟩); (first | refine o1 ?_ | refine o2 ?_ | refine o3 ?_ | refine o4 ?_)) | refine .inl ⟨_,_,_,_,rfl,pu hbr,?_⟩))
 | refine cF ?_
 | refine om ?_
 | refine an ?_
 | fail) <;> try simp only [zT,zV,zS,zU,vcC,lateX,ex,strp,binA,elems,cells,scalar,eqC,keyA,intsA,lookA,ofVs,mpOf,Nat.reduceBEq,reduceAdd,reduceSub,reduceLT,reduceLeDiff,reduceMul,reduceEqDiff,reduceIte,getD_map hy]))
      all_goals try (exfalso; omega)
      rw [hli y hym hb]
      exact Frz.eq rfl (by simp)
  · obtain rfl:i=a8.length:=by omega
    rw [List.take_length] at hI
    (repeat' ((first
 | refine vn rfl ?_
 | simp (disch:=omega) only [wr64,Int.zero_sub]
 | refine bo (fun _=>?_) fun _=>?_
 | refine im fun _=>?_
 | refine cF ?_
 | refine om ?_
 | refine an ?_
 | fail) <;> try simp only [zT,zV,zS,zU,vcC,lateX,ex,strp,binA,elems,cells,scalar,eqC,keyA,intsA,lookA,ofVs,mpOf,Nat.reduceBEq,reduceAdd,reduceSub,reduceLT,reduceLeDiff,reduceMul,reduceEqDiff,reduceIte]))
    all_goals try (exfalso; omega)
    refine AWPC.loopE (α:={ y:Nat // y≤b2.length∧∀ l∈b2.take y,l.length≤12∧∀ s∈l,s.length≤40 }) [4] (fun y=>[(4,n y.1)]) (fun y=>[]) (fun y=>b2.length - y.1) ⟨0,Nat.zero_le _,by simp⟩ ?_ rfl ?_
    · (simp only [zT,zV,zS,zU,vcC,lateX,ex,strp,binA,elems,cells,scalar,eqC,keyA,intsA,lookA,ofVs,mpOf,Nat.reduceBEq,reduceAdd,reduceSub,reduceLT,reduceLeDiff,reduceMul,reduceEqDiff,reduceIte]; try simp)
    rintro ⟨k,hk,hK⟩
    try simp only at hk hK
    try simp only
    by_cases hlt:k < b2.length
    · obtain ⟨l,hl⟩:∃ l,b2[k]?=some l:=⟨_,List.getElem?_eq_getElem hlt⟩
      have hlm:=List.mem_of_getElem? hl
      have hsn:=take_snoc hl
      have gl:(b2.map fun l=>[nodS l]).getD k []=[nodS l]:=getD_map hl
      obtain ⟨l1,l2⟩:=s6 l hlm
      (repeat' ((first
 | refine vn rfl ?_
 | simp (disch:=omega) only [wr64,Int.zero_sub]
 | refine bo (fun _=>?_) fun _=>?_
 | refine im fun _=>?_
 | refine cF ?_
 | refine om ?_
 | refine an ?_
 | fail) <;> try simp only [zT,zV,zS,zU,vcC,lateX,ex,strp,binA,elems,cells,scalar,eqC,keyA,intsA,lookA,ofVs,mpOf,Nat.reduceBEq,reduceAdd,reduceSub,reduceLT,reduceLeDiff,reduceMul,reduceEqDiff,reduceIte,gl]))
      all_goals try (exfalso; omega)
      · rename_i h
        rw [hse l hlm (by omega)]
        exact Frz.eq rfl (by simp)
      rename_i h12
      refine AWPC.loopE (α:={ y:Nat // y≤l.length∧∀ s∈l.take y,s.length≤40 }) [5] (fun y=>[(5,n y.1)]) (fun y=>[]) (fun y=>l.length - y.1) ⟨0,Nat.zero_le _,by simp⟩ ?_ rfl ?_
      · (simp only [zT,zV,zS,zU,vcC,lateX,ex,strp,binA,elems,cells,scalar,eqC,keyA,intsA,lookA,ofVs,mpOf,Nat.reduceBEq,reduceAdd,reduceSub,reduceLT,reduceLeDiff,reduceMul,reduceEqDiff,reduceIte]; try simp)
      rintro ⟨j,hj,hJ⟩
      try simp only at hj hJ
      try simp only
      by_cases hlt2:j < l.length
      · obtain ⟨s,hs⟩:∃ s,l[j]?=some s:=⟨_,List.getElem?_eq_getElem hlt2⟩
        have hsm:=List.mem_of_getElem? hs
        have hsn2:=take_snoc hs
        have gs:(l.map fun l=>[spS l]).getD j []=[spS s]:=getD_map hs
        have hsl:=l2 s hsm
        (repeat' ((first
 | refine vn rfl ?_
 | simp (disch:=omega) only [wr64,Int.zero_sub]
 | refine bo (fun _=>?_) fun _=>?_
 | refine im fun _=>?_
 | refine cF ?_
 | refine om ?_
 | refine an ?_
 | fail) <;> try simp only [zT, zV, zS, zU, vcC, lateX, ex, strp, binA, elems, cells, scalar, eqC, keyA, intsA, lookA, ofVs, mpOf, Nat.reduceBEq, reduceAdd, reduceSub, reduceLT, reduceLeDiff, reduceMul, reduceEqDiff, reduceIte, gl, gs]))
        all_goals try (exfalso; omega)
        · rename_i h
          rw [hss l hlm s hsm (by omega)]
          exact Frz.eq rfl (by simp)
        · rename_i h
          exact ⟨⟨j+1,hlt2,fun z hz=>by
            rw [hsn2] at hz
            rcases List.mem_append.1 hz with h' | h'
            · exact hJ z h'
            · rw [List.mem_singleton.1 h']; omega⟩,rfl,by simp only; omega⟩
      · obtain rfl:j=l.length:=by omega
        rw [List.take_length] at hJ
        (repeat' ((first
 | refine vn rfl ?_
 | simp (disch:=omega) only [wr64,Int.zero_sub]
 | refine bo (fun _=>?_) fun _=>?_
 | refine im fun _=>?_
 | refine cF ?_
 | refine om ?_
 | refine an ?_
 | fail) <;> try simp only [zT, zV, zS, zU, vcC, lateX, ex, strp, binA, elems, cells, scalar, eqC, keyA, intsA, lookA, ofVs, mpOf, Nat.reduceBEq, reduceAdd, reduceSub, reduceLT, reduceLeDiff, reduceMul, reduceEqDiff, reduceIte, gl]))
        all_goals try (exfalso; omega)
        exact ⟨⟨k+1,hlt,fun z hz=>by
          rw [hsn] at hz
          rcases List.mem_append.1 hz with h' | h'
          · exact hK z h'
          · rw [List.mem_singleton.1 h']; exact ⟨by omega,hJ⟩⟩,rfl,by simp only; omega⟩
    · obtain rfl:k=b2.length:=by omega
      rw [List.take_length] at hK
      rw [hok hnb hI hK]
      (repeat' ((first
 | refine vn rfl ?_
 | simp (disch:=omega) only [wr64,Int.zero_sub]
 | refine bo (fun _=>?_) fun _=>?_
 | refine im fun _=>?_
 | refine cF ?_
 | refine om ?_
 | refine an ?_
 | fail) <;> try simp only [zT,zV,zS,zU,vcC,lateX,ex,strp,binA,elems,cells,scalar,eqC,keyA,intsA,lookA,ofVs,mpOf,Nat.reduceBEq,reduceAdd,reduceSub,reduceLT,reduceLeDiff,reduceMul,reduceEqDiff,reduceIte]))
      all_goals try (exfalso; omega)
      exact Frz.eq rfl (by simp)
def c83:CF:=⟨15,
 (.seq (.ops [
 ⟨some 2,.box false 24 1 (.t 0),none⟩,
 ⟨some 4,.mv (.c (.slice none 0 0)),none⟩,
 ⟨some 5,.mv (.c (.int .i64 0)),none⟩] [1,2])
 (.seq (.seq (.ops [
 ⟨some 7,.load (some 1) (.t 2),none⟩,
 ⟨some 8,.call (.f 53) [(.t 7)],none⟩,
 ⟨some 6,.mv (.t 8),none⟩] [1,2,6])
 (.seq (.ops [
 ⟨some 9,.mv (.t 6),none⟩,
 ⟨some 10,.bin .neq (.t 9) (.c (.int .i64 0)),none⟩] [1,2,6,10])
 (.cond (.t 10) (.seq (.ops [
 ⟨some 11,.mv (.t 6),none⟩,
 ⟨some 4,.mv (.c (.slice none 0 0)),none⟩,
 ⟨some 5,.mv (.t 11),none⟩] [4,5])
 .ret)
 .skip)))
 (.seq (.ops [
 ⟨some 12,.mv (.t 1),none⟩,
 ⟨some 13,.load (some 1) (.t 2),none⟩,
 ⟨some 14,.call (.t 12) [(.t 13)],none⟩,
 ⟨some 4,.mv (.t 14),none⟩,
 ⟨some 5,.mv (.c (.int .i64 0)),none⟩] [4,5])
 .ret))),
 [.t 4,.t 5]⟩
theorem k83:chkF Tryz.prog Tryz.f83 c83=true:=by kernel_rfl
theorem told_spec (t:Trk) (hs:trkSz t) (f:Nat) (x:List (List (List Sp))) (hf:valid t→Pure Tryz.prog f [trS t] (stgS x)) :
    Pure Tryz.prog 83 [trS t,.fn (.func f) [] []] (.tup [stgS (if tr (valid t)=true then x else []),n (if tr (valid t)=true then 0 else 40)]):=by
  refine Pure.of_body Tryz.call83 Tryz.func83 k83 (Nat.le_of_ble_eq_true rfl) ?_
  unfold c83
  have hc:=Check_spec t hs
  by_cases hv:valid t
  · rw [tr_1 hv] at hc ⊢
    simp only [if_true] at hc ⊢
    have hx:=hf hv
    (repeat' ((first
 | refine vn rfl ?_
 | simp (disch:=omega) only [wr64,Int.zero_sub]
 | refine bo (fun _=>?_) fun _=>?_
 | refine im fun _=>?_
 | ((repeat refine si ?_); (first | ((first | refine .inl ⟨_,_,_,_,rfl,fun _=>pu (by first | exact hc | exact hx),?_⟩ | refine ⟨_,_,_,_,rfl,fun _=>pu (by first | exact hc | exact hx),?_⟩); (first | refine o1 ?_ | refine o2 ?_ | refine o3 ?_ | refine o4 ?_)) | refine .inl ⟨_,_,_,_,rfl,pu (by first | exact hc | exact hx),?_⟩))
 | refine cF ?_
 | refine om ?_
 | refine an ?_
 | fail) <;> try simp only [zT,zV,zS,zU,vcC,lateX,ex,strp,binA,elems,cells,scalar,eqC,keyA,intsA,lookA,ofVs,mpOf,Nat.reduceBEq,reduceAdd,reduceSub,reduceLT,reduceLeDiff,reduceMul,reduceEqDiff,reduceIte]))
    all_goals try (exfalso; omega)
    all_goals exact Frz.eq rfl (by simp)
  · rw [tr_0 hv] at hc ⊢
    simp only [Bool.false_eq_true,if_false] at hc ⊢
    (repeat' ((first
 | refine vn rfl ?_
 | simp (disch:=omega) only [wr64,Int.zero_sub]
 | refine bo (fun _=>?_) fun _=>?_
 | refine im fun _=>?_
 | ((repeat refine si ?_); (first | ((first | refine .inl ⟨_,_,_,_,rfl,fun _=>pu hc,?_⟩ | refine ⟨_,_,_,_,rfl,fun _=>pu hc,?_⟩); (first | refine o1 ?_ | refine o2 ?_ | refine o3 ?_ | refine o4 ?_)) | refine .inl ⟨_,_,_,_,rfl,pu hc,?_⟩))
 | refine cF ?_
 | refine om ?_
 | refine an ?_
 | fail) <;> try simp only [zT,zV,zS,zU,vcC,lateX,ex,strp,binA,elems,cells,scalar,eqC,keyA,intsA,lookA,ofVs,mpOf,Nat.reduceBEq,reduceAdd,reduceSub,reduceLT,reduceLeDiff,reduceMul,reduceEqDiff,reduceIte]))
    all_goals try (exfalso; omega)
    exact frz2 frz_nil (by simp)
end Go.Proofs.YtahkhnagpdlkiaaGreat
namespace Go.Abs
set_option linter.unusedVariables false
set_option linter.unusedSimpArgs false
theorem Frz.mp {σ:Sto} {f n:Nat} {o:Ob} {m m':List (List Int × AV)} (ho:σ.at f 0=some o) (hm:mpOf o n=some m) (hl:m.length=m'.length)
    (hk:∀ i,i < m.length→(m'.getD i ([],.any)).1=(m.getD i ([],.any)).1) (hv:∀ i,i < m.length→Frz σ (m.getD i ([],.any)).2 (m'.getD i ([],.any)).2):Frz σ (.mp f) (.imap n m'):=fun w X β x hs hx=>by
  obtain ⟨b,es,cl,hβ,rfl,_,hb,hr⟩:=mp_block hs ho hm hx
  obtain ⟨h1,h2,h3⟩:=of_mprel hr
  have hd:∀ i,es.getD i ⟨undef,undef,0⟩=es.toList.getD i ⟨undef,undef,0⟩:=fun i=>by simp [Array.getD_eq_getD_getElem?,List.getD_eq_getElem?_getD]
  refine .imap n m' b es cl hb (fun hX=>hs.dis f 0 o b ho hβ hX) (by rw [← hl,← h1]; simp) (fun i hi=>?_) fun i hi=>?_
  · rw [hd,hk i (by omega)]; exact h2 i (by omega)
  · rw [hd]; exact hv i (by omega) w X β _ hs (h3 i (by omega))
theorem mget_map {α:Type} (key:α→List Int) (val:α→AV) (ks:List Int):∀ l:List α,mget (l.map fun a=>(key a,val a)) ks=(l.find? fun a=>decide (key a=ks)).map val
  | []=>rfl
  | a::l=>by
    simp only [List.map_cons,mget,List.find?_cons,mget_map key val ks l]
    by_cases h:key a=ks <;> simp [h]
end Go.Abs
namespace Go.Proofs.YtahkhnagpdlkiaaGreat
open Go.Abs
open Nat (reduceAdd reduceSub reduceLT reduceLeDiff reduceMul reduceEqDiff)
set_option linter.unusedVariables false
set_option linter.unusedSimpArgs false
set_option maxHeartbeats 4000000
set_option maxRecDepth 100000
def c123:CF:=⟨41,
 (.seq (.ops [
 ⟨some 2,.mv (.c (.map none)),none⟩] [0])
 (.seq (.ops [
 ⟨some 8,.mkmp 2,none⟩,
 ⟨some 3,.mv (.t 8),none⟩] [0,3])
 (.seq (.seq (.ops [
 ⟨some 9,.mv (.t 0),none⟩,
 ⟨some 10,.len (.t 9),none⟩,
 ⟨some 11,.mv (.c (.int .i64 0)),none⟩] [3,9,10,11])
 (.block 0 (.loop (.seq (.ops [
 ⟨some 12,.bin .lss (.t 11) (.t 10),none⟩] [3,9,10,11,12])
 (.seq (.cond (.t 12) .skip
 (.exit 0))
 (.seq (.block 1 (.seq (.ops [
 ⟨some 13,.mv (.t 11),none⟩,
 ⟨some 14,.iaddr 2 (.t 9) (.t 11),none⟩,
 ⟨some 15,.load (some 2) (.t 14),none⟩,
 ⟨some 5,.alloc 80 2 [.slice none 0 0,.slice none 0 0],none⟩,
 ⟨some 4,.mv (.t 13),none⟩,
 ⟨none,.store 2 (.t 5) (.t 15),none⟩] [3,4,5,9,10,11])
 (.seq (.ops [
 ⟨some 16,.faddr 1 (.t 5),none⟩,
 ⟨some 17,.load none (.t 16),none⟩,
 ⟨some 18,.len (.t 17),none⟩,
 ⟨some 19,.mv (.c (.int .i64 0)),none⟩] [3,4,9,10,11,17,18,19])
 (.block 2 (.loop (.seq (.ops [
 ⟨some 20,.bin .lss (.t 19) (.t 18),none⟩] [3,4,9,10,11,17,18,19,20])
 (.seq (.cond (.t 20) .skip
 (.exit 2))
 (.seq (.block 3 (.seq (.ops [
 ⟨some 21,.iaddr 3 (.t 17) (.t 19),none⟩,
 ⟨some 22,.load (some 3) (.t 21),none⟩,
 ⟨some 7,.alloc 124 3 [.int .i64 0,.int .i64 0,.int .i64 0],none⟩,
 ⟨none,.store 3 (.t 7) (.t 22),none⟩] [3,4,7,9,10,11,17,18,19])
 (.draww [0,1,2,3,4,5,6,7,8,9,10,11,12,13,14,15] [0,1,2,3,4] 1 [
 ⟨some 23,.mv (.t 3),none⟩,
 ⟨some 24,.mv (.t 4),none⟩,
 ⟨some 25,.faddr 0 (.t 7),none⟩,
 ⟨some 26,.load none (.t 25),none⟩,
 ⟨some 27,.build [.int .i64 0,.int .i64 0] [(0,1,(.t 24)),(1,1,(.t 26))],none⟩,
 ⟨some 28,.mv (.t 3),none⟩,
 ⟨some 29,.mv (.t 4),none⟩,
 ⟨some 30,.faddr 0 (.t 7),none⟩,
 ⟨some 31,.load none (.t 30),none⟩,
 ⟨some 32,.build [.int .i64 0,.int .i64 0] [(0,1,(.t 29)),(1,1,(.t 31))],none⟩,
 ⟨some 33,.look 2 false [.slice none 0 0] false (.t 28) (.t 32),none⟩,
 ⟨some 34,.faddr 1 (.t 7),none⟩,
 ⟨some 35,.load (some 2) (.t 34),none⟩,
 ⟨some 36,.bsl false 30 2 1 [.int .i64 0,.int .i64 0] [(0,2,(.t 35))],none⟩] [
 ⟨some 37,.app 30 2 16 (.t 33) (.t 36),none⟩,
 ⟨none,.mput 2 (.t 23) (.t 27) (.t 37),none⟩] [3,4,9,10,11,17,18,19])))
 (.ops [
 ⟨some 38,.bin .add (.t 19) (.c (.int .i64 1)),none⟩,
 ⟨some 19,.mv (.t 38),none⟩] [3,4,9,10,11,17,18,19])))))))))
 (.ops [
 ⟨some 39,.bin .add (.t 11) (.c (.int .i64 1)),none⟩,
 ⟨some 11,.mv (.t 39),none⟩] [3,9,10,11])))))))
 (.seq (.ops [
 ⟨some 40,.mv (.t 3),none⟩,
 ⟨some 2,.mv (.t 40),none⟩] [2])
 .ret)))),
 [.t 2]⟩
def c121:CF:=⟨26,
 (.seq (.ops [
 ⟨some 3,.box false 26 2 (.t 1),none⟩,
 ⟨some 4,.mv (.c (.bool false)),none⟩] [0,3])
 (.seq (.draw [
 ⟨some 5,.faddr 0 (.t 3),none⟩,
 ⟨some 6,.load none (.t 5),none⟩,
 ⟨some 7,.bin .geq (.t 6) (.c (.int .i64 0)),none⟩,
 ⟨some 8,.mv (.t 7),none⟩,
 ⟨some 9,.faddr 0 (.t 3),some (8,true)⟩,
 ⟨some 10,.load none (.t 9),some (8,true)⟩,
 ⟨some 11,.mv (.t 0),some (8,true)⟩,
 ⟨some 12,.len (.t 11),some (8,true)⟩,
 ⟨some 13,.bin .lss (.t 10) (.t 12),some (8,true)⟩,
 ⟨some 14,.pick (.t 8) (.t 13) (.c (.bool false)),none⟩,
 ⟨some 15,.mv (.t 14),none⟩,
 ⟨some 16,.mv (.t 0),some (15,true)⟩,
 ⟨some 17,.faddr 0 (.t 3),some (15,true)⟩,
 ⟨some 18,.load none (.t 17),some (15,true)⟩,
 ⟨some 19,.iaddr 2 (.t 16) (.t 18),some (15,true)⟩,
 ⟨some 20,.faddr 0 (.t 19),some (15,true)⟩,
 ⟨some 21,.load none (.t 20),some (15,true)⟩,
 ⟨some 22,.faddr 1 (.t 3),some (15,true)⟩,
 ⟨some 23,.load none (.t 22),some (15,true)⟩,
 ⟨some 24,.call (.f 122) [(.t 21),(.t 23)],some (15,true)⟩,
 ⟨some 25,.pick (.t 15) (.t 24) (.c (.bool false)),none⟩,
 ⟨some 4,.mv (.t 25),none⟩] [
 ] [4])
 .ret)),
 [.t 4]⟩
def c61:CF:=⟨67,
 (.seq (.ops [
 ⟨some 2,.box false 24 1 (.t 0),none⟩,
 ⟨some 4,.mv (.c (.int .i64 0)),none⟩] [1,2])
 (.seq (.seq (.ops [
 ⟨some 8,.load (some 1) (.t 2),none⟩,
 ⟨some 9,.call (.f 53) [(.t 8)],none⟩,
 ⟨some 5,.mv (.t 9),none⟩] [1,2,5])
 (.seq (.ops [
 ⟨some 10,.mv (.t 5),none⟩,
 ⟨some 11,.bin .neq (.t 10) (.c (.int .i64 0)),none⟩] [1,2,5,11])
 (.cond (.t 11) (.seq (.ops [
 ⟨some 12,.mv (.t 5),none⟩,
 ⟨some 4,.mv (.t 12),none⟩] [4])
 .ret)
 .skip)))
 (.seq (.seq (.ops [
 ⟨some 13,.mv (.t 1),none⟩,
 ⟨some 14,.len (.t 13),none⟩,
 ⟨some 15,.faddr 0 (.t 2),none⟩,
 ⟨some 16,.load none (.t 15),none⟩,
 ⟨some 17,.len (.t 16),none⟩,
 ⟨some 18,.bin .neq (.t 14) (.t 17),none⟩] [1,2,18])
 (.cond (.t 18) (.seq (.ops [
 ⟨some 4,.mv (.c (.int .i64 41)),none⟩] [4])
 .ret)
 .skip))
 (.seq (.seq (.ops [
 ⟨some 19,.mv (.t 1),none⟩,
 ⟨some 20,.len (.t 19),none⟩,
 ⟨some 21,.mv (.c (.int .i64 0)),none⟩] [1,2,19,20,21])
 (.block 0 (.loop (.seq (.ops [
 ⟨some 22,.bin .lss (.t 21) (.t 20),none⟩] [1,2,19,20,21,22])
 (.seq (.cond (.t 22) .skip
 (.exit 0))
 (.seq (.block 1 (.seq (.ops [
 ⟨some 23,.mv (.t 21),none⟩,
 ⟨some 24,.iaddr 2 (.t 19) (.t 21),none⟩,
 ⟨some 25,.load (some 2) (.t 24),none⟩,
 ⟨some 7,.alloc 26 2 [.int .i64 0,.int .i64 0],none⟩,
 ⟨some 6,.mv (.t 23),none⟩,
 ⟨none,.store 2 (.t 7) (.t 25),none⟩] [1,2,6,7,19,20,21])
 (.seq (.seq (.draw [
 ⟨some 26,.faddr 0 (.t 2),none⟩,
 ⟨some 27,.load none (.t 26),none⟩,
 ⟨some 28,.mv (.t 6),none⟩,
 ⟨some 29,.iaddr 1 (.t 27) (.t 28),none⟩,
 ⟨some 30,.load none (.t 29),none⟩,
 ⟨some 31,.load (some 2) (.t 7),none⟩,
 ⟨some 32,.call (.f 121) [(.t 30),(.t 31)],none⟩,
 ⟨some 33,.un .not (.t 32),none⟩] [
 ] [1,2,6,7,19,20,21,33])
 (.cond (.t 33) (.seq (.ops [
 ⟨some 4,.mv (.c (.int .i64 41)),none⟩] [4])
 .ret)
 .skip))
 (.seq (.draw [
 ⟨some 34,.mv (.t 6),none⟩,
 ⟨some 35,.bin .gtr (.t 34) (.c (.int .i64 0)),none⟩,
 ⟨some 36,.mv (.t 35),none⟩,
 ⟨some 37,.faddr 0 (.t 2),some (36,true)⟩,
 ⟨some 38,.load none (.t 37),some (36,true)⟩,
 ⟨some 39,.mv (.t 6),some (36,true)⟩,
 ⟨some 40,.bin .sub (.t 39) (.c (.int .i64 1)),some (36,true)⟩,
 ⟨some 41,.iaddr 1 (.t 38) (.t 40),some (36,true)⟩,
 ⟨some 42,.load none (.t 41),some (36,true)⟩,
 ⟨some 43,.call (.f 123) [(.t 42)],some (36,true)⟩,
 ⟨some 44,.mv (.t 1),some (36,true)⟩,
 ⟨some 45,.mv (.t 6),some (36,true)⟩,
 ⟨some 46,.bin .sub (.t 45) (.c (.int .i64 1)),some (36,true)⟩,
 ⟨some 47,.iaddr 2 (.t 44) (.t 46),some (36,true)⟩,
 ⟨some 48,.faddr 0 (.t 47),some (36,true)⟩,
 ⟨some 49,.load none (.t 48),some (36,true)⟩,
 ⟨some 50,.faddr 0 (.t 7),some (36,true)⟩,
 ⟨some 51,.load none (.t 50),some (36,true)⟩,
 ⟨some 52,.build [.int .i64 0,.int .i64 0] [(0,1,(.t 49)),(1,1,(.t 51))],some (36,true)⟩,
 ⟨some 53,.look 2 false [.slice none 0 0] false (.t 43) (.t 52),some (36,true)⟩,
 ⟨some 54,.faddr 1 (.t 7),some (36,true)⟩,
 ⟨some 55,.load none (.t 54),some (36,true)⟩,
 ⟨some 56,.mv (.t 1),some (36,true)⟩,
 ⟨some 57,.mv (.t 6),some (36,true)⟩,
 ⟨some 58,.bin .sub (.t 57) (.c (.int .i64 1)),some (36,true)⟩,
 ⟨some 59,.iaddr 2 (.t 56) (.t 58),some (36,true)⟩,
 ⟨some 60,.faddr 1 (.t 59),some (36,true)⟩,
 ⟨some 61,.load none (.t 60),some (36,true)⟩,
 ⟨some 62,.bin .sub (.t 55) (.t 61),some (36,true)⟩,
 ⟨some 63,.call (.f 122) [(.t 53),(.t 62)],some (36,true)⟩,
 ⟨some 64,.un .not (.t 63),some (36,true)⟩,
 ⟨some 65,.pick (.t 36) (.t 64) (.c (.bool false)),none⟩] [
 ] [1,2,19,20,21,65])
 (.cond (.t 65) (.seq (.ops [
 ⟨some 4,.mv (.c (.int .i64 41)),none⟩] [4])
 .ret)
 .skip)))))
 (.ops [
 ⟨some 66,.bin .add (.t 21) (.c (.int .i64 1)),none⟩,
 ⟨some 21,.mv (.t 66),none⟩] [1,2,19,20,21])))))))
 (.seq (.ops [
 ⟨some 4,.mv (.c (.int .i64 0)),none⟩] [4])
 .ret))))),
 [.t 4]⟩
theorem k123:chkF Tryz.prog Tryz.f123 c123=true:=by kernel_rfl
theorem k121:chkF Tryz.prog Tryz.f121 c121=true:=by kernel_rfl
theorem k61:chkF Tryz.prog Tryz.f61 c61=true:=by kernel_rfl
theorem Pure.arg {P:Program} {f:Nat} {args args':List AV} {r:AV} (h:Pure P f args r) (hl:args'.length=args.length)
    (hw:∀ i,i < args.length→∀ w X β σ x,RV w X β σ (args'.getD i .any) x→RV w X β σ (args.getD i .any) x):Pure P f args' r :=
  ⟨h.ent,fun X w xs hX hxl hr=>h.go X w xs hX (by omega) fun i hi=>hw i hi _ _ _ _ _ (hr i (by omega))⟩
structure Ent where
  k:List Int
  l:List Sp
  g:Nat
abbrev entA (T:List Ent):List (List Int × AV):=T.map fun t=>(t.k,AV.own t.g 0 t.l.length)
def addE:List Ent→List Int→Sp→Nat→List Ent
  | [],k,s,g=>[⟨k,[s],g⟩]
  | t::r,k,s,g=>if t.k=k then ⟨t.k,t.l++[s],t.g⟩::r else t::addE r k s g
def addK:List (List Int × List Sp)→List Int→Sp→List (List Int × List Sp)
  | [],k,s=>[(k,[s])]
  | t::r,k,s=>if t.1=k then (t.1,t.2++[s])::r else t::addK r k s
abbrev hkey (h:Hop):List Int:=[(h.fr:Int),(h.to:Int)]
def hopK (hs:List Hop):List (List Int × List Sp):=hs.foldl (fun a h=>addK a (hkey h) h.ch) []
abbrev strE (T:List Ent):List (List Int × List Sp):=T.map fun t=>(t.k,t.l)
theorem strE_add:∀ (T:List Ent) (k:List Int) (s:Sp) (g:Nat),strE (addE T k s g)=addK (strE T) k s
  | [],_,_,_=>rfl
  | t::r,k,s,g=>by
    unfold addE
    simp only [strE,List.map_cons,addK]
    split
    · rfl
    · simp only [List.map_cons]; rw [← strE_add r k s g]
theorem hopK_next {hs:List Hop} {i:Nat} {h:Hop} (e:hs[i]?=some h):hopK (hs.take (i+1))=addK (hopK (hs.take i)) (hkey h) h.ch:=by
  rw [take_snoc e]; simp [hopK]
theorem addK_len {N:Nat} {k:List Int} {s:Sp}:∀ {E:List (List Int × List Sp)},(∀ e∈E,e.2.length≤N)→∀ e∈addK E k s,e.2.length≤N+1
  | [],_,e,he=>by simp only [addK,List.mem_singleton] at he; subst he; simp
  | t::r,h,e,he=>by
    unfold addK at he
    split at he
    · rcases List.mem_cons.1 he with rfl | he
      · have:=h t (by simp); simp; omega
      · have:=h e (by simp [he]); omega
    · rcases List.mem_cons.1 he with rfl | he
      · have:=h e (by simp); omega
      · exact addK_len (fun x hx=>h x (by simp [hx])) e he
theorem hopK_len {hs:List Hop} (i:Nat) (hi:i≤hs.length):∀ e∈hopK (hs.take i),e.2.length≤i:=by
  induction i with
  | zero=>simp [hopK]
  | succ i ih =>
    rw [hopK_next (List.getElem?_eq_getElem (by omega))]
    exact addK_len (ih (by omega))
theorem hops_len {m:Nat}:∀ {l:List Nod} {i:Nat},(∀ x∈l,nodOk m x)→(hopsF i l).length≤64 * l.length
  | [],_,_=>by simp [hopsF]
  | x::r,i,h=>by
    have h1:=(h x (by simp)).2.1
    have h2:=hops_len (i:=i+1) (fun y hy=>h y (by simp [hy]):∀ y∈r,nodOk m y)
    simp only [hopsF,List.length_append,hopsOf,List.length_map,List.length_cons]; omega
structure HopS (σ:Sto) (T:List Ent):Prop where
  a:σ.at 0 0=some ⟨0,0,[],some (.mp 2 (entA T))⟩
  o:∀ t∈T,σ.at t.g 0=some (spO t.l)
  inj:T.Pairwise fun a b=>a.g≠b.g
theorem ent_none {T:List Ent} {k:List Int} {s:Sp} {g:Nat} (h:∀ t∈T,t.k≠k):mget (entA T) k=none∧mset (entA T) k (.own g 0 1)=entA (addE T k s g)∧addE T k s g=T++[⟨k,[s],g⟩]:=by
  induction T with
  | nil=>exact ⟨rfl,rfl,rfl⟩
  | cons t r ih =>
    obtain ⟨h1,h2,h3⟩:=ih fun t ht=>h t (by simp [ht])
    have hk:¬ t.k=k:=h t (by simp)
    simp only [entA,List.map_cons,mget,hk,if_false,mset,addE,List.cons_append,h3] at h1 h2 ⊢
    exact ⟨h1,by rw [h2],trivial⟩
theorem ent_some {T:List Ent} {k:List Int} {s:Sp} {g:Nat} (h:¬ ∀ t∈T,t.k≠k):∃ A t B,T=A++t::B∧t.k=k∧mget (entA T) k=some (.own t.g 0 t.l.length)∧mset (entA T) k (.own t.g 0 (t.l.length+1))=entA (addE T k s g) ∧
    addE T k s g=A++⟨t.k,t.l++[s],t.g⟩::B:=by
  induction T with
  | nil=>exact absurd (by simp) h
  | cons t r ih =>
    by_cases hk:t.k=k
    · subst hk
      exact ⟨[],t,r,rfl,rfl,by simp [mget],by simp [mset,addE],by simp [addE]⟩
    · obtain ⟨A,u,B,rfl,h1,h2,h3,h4⟩:=ih fun h'=>h fun t' ht=>by
        rcases List.mem_cons.1 ht with rfl | ht
        · exact hk
        · exact h' t' ht
      refine ⟨t::A,u,B,rfl,h1,?_,?_,?_⟩
      · simp only [entA,List.map_cons,mget,hk,if_false]; exact h2
      · simp only [entA,List.map_cons,mset,hk,if_false,addE]; rw [h3]
      · simp only [addE,hk,if_false,h4,List.cons_append]
theorem HopS.app {σ:Sto} {T:List Ent} (h:HopS σ T) (ν:Sto):HopS (σ++ν) T :=
  ⟨by rw [at_appL (at_lt h.a)]; exact h.a,fun t ht=>by rw [at_appL (at_lt (h.o t ht))]; exact h.o t ht,h.inj⟩
theorem HopS.lt {σ:Sto} {T:List Ent} (h:HopS σ T) {t:Ent} (ht:t∈T):t.g < σ.length∧t.g≠0:=by
  refine ⟨at_lt (h.o t ht),fun e=>?_⟩
  have h1:=h.o t ht
  rw [e,h.a] at h1
  injection h1 with h1
  have:=congrArg Ob.T h1
  cases this
theorem HopS.new {σ:Sto} {T:List Ent} {k:List Int} {s:Sp} (h:HopS σ T) (hk:∀ t∈T,t.k≠k) :
    HopS (Sto.upd (σ++[some [spO [s]]]) 0 0 ⟨0,0,[],some (.mp 2 (entA (addE T k s σ.length)))⟩) (addE T k s σ.length):=by
  have h0:=at_lt h.a
  obtain ⟨_,_,h3⟩:=ent_none (s:=s) (g:=σ.length) hk
  refine ⟨at_upd_same (h.app _).a,fun t ht=>?_,?_⟩
  · rw [h3,List.mem_append,List.mem_singleton] at ht
    rcases ht with ht | rfl
    · rw [at_upd_other (.inl (h.lt ht).2.symm),at_appL (h.lt ht).1]; exact h.o t ht
    · rw [at_upd_other (.inl (by simp only; omega))]; simp only; rw [at_app0]; simp [Sto.at]
  · rw [h3,List.pairwise_append]
    refine ⟨h.inj,by simp,fun a ha b hb=>?_⟩
    rw [List.mem_singleton] at hb; subst hb
    have:=(h.lt ha).1
    simp only; omega
theorem HopS.old {σ:Sto} {A B:List Ent} {t:Ent} {s:Sp} {M:List (List Int × AV)} (h:HopS σ (A++t::B)) (hM:M=entA (A++⟨t.k,t.l++[s],t.g⟩::B)) :
    HopS (Sto.upd (σ.upd t.g 0 (spO (t.l++[s]))) 0 0 ⟨0,0,[],some (.mp 2 M)⟩) (A++⟨t.k,t.l++[s],t.g⟩::B):=by
  subst hM
  have ht:=h.lt (t:=t) (by simp)
  have hp:=h.inj
  rw [List.pairwise_append,List.pairwise_cons] at hp
  obtain ⟨p1,⟨p2,p3⟩,p4⟩:=hp
  have key:∀ u,(u∈A∨u∈B)→Sto.at (Sto.upd (σ.upd t.g 0 (spO (t.l++[s]))) 0 0 ⟨0,0,[],some (.mp 2 (entA (A++⟨t.k,t.l++[s],t.g⟩::B)))⟩) u.g 0=some (spO u.l):=by
    intro u hu
    have hm:u∈A++t::B:=by rcases hu with hu | hu <;> simp [hu]
    have hne:t.g≠u.g:=by
      rcases hu with hu | hu
      · exact (p4 u hu t (by simp)).symm
      · exact p2 u hu
    rw [at_upd_other (.inl (h.lt hm).2.symm),at_upd_other (.inl hne)]
    exact h.o u hm
  refine ⟨at_upd_same (o:=⟨0,0,[],some (.mp 2 (entA (A++t::B)))⟩) (by rw [at_upd_other (.inl ht.2)]; exact h.a),fun u hu=>?_,?_⟩
  · rw [List.mem_append,List.mem_cons] at hu
    rcases hu with hu | rfl | hu
    · exact key u (.inl hu)
    · simp only
      rw [at_upd_other (.inl ht.2.symm)]
      exact at_upd_same (h.o t (by simp))
    · exact key u (.inr hu)
  · rw [List.pairwise_append,List.pairwise_cons]
    refine ⟨p1,⟨p2,p3⟩,fun a ha b hb=>?_⟩
    rcases List.mem_cons.1 hb with rfl | hb
    · exact p4 a ha t (by simp)
    · exact p4 a ha b (by simp [hb])
abbrev mapS (E:List (List Int × List Sp)):AV:=.imap 2 (E.map fun e=>(e.1,spS e.2))
theorem hops_spec (m:Nat) (l:List Nod) (hl:stgOk m l):Pure Tryz.prog 123 [stS l] (mapS (hopK (hops l))):=by
  refine Pure.of_body Tryz.call123 Tryz.func123 k123 (Nat.le_of_ble_eq_true rfl) ?_
  unfold c123
  obtain ⟨v1,v2,v3⟩:=hl
  (repeat' ((first
 | refine vn rfl ?_
 | simp (disch:=omega) only [wr64,Int.zero_sub]
 | refine bo (fun _=>?_) fun _=>?_
 | refine im fun _=>?_
 | refine cF ?_
 | refine om ?_
 | refine an ?_
 | fail) <;> try simp only [zT,zV,zS,zU,vcC,lateX,ex,strp,binA,elems,cells,scalar,eqC,keyA,intsA,lookA,ofVs,mpOf,Nat.reduceBEq,reduceAdd,reduceSub,reduceLT,reduceLeDiff,reduceMul,reduceEqDiff,reduceIte]))
  have h00:HopS [some [⟨0,0,[],some (.mp 2 [])⟩]] []:=⟨rfl,by simp,List.Pairwise.nil⟩
  refine AWPC.loopE (α:={ x:Nat × Nat × List Ent × Sto // x.1≤l.length∧(hops l).drop x.2.1=hopsF x.1 (l.drop x.1)∧x.2.1≤(hops l).length∧HopS x.2.2.2 x.2.2.1∧strE x.2.2.1=hopK ((hops l).take x.2.1) }) [11] (fun x=>[(11,n x.1.1)]) (fun x=>x.1.2.2.2) (fun x=>l.length - x.1.1)
    ⟨(0,0,[],_),by simp,by simp,by simp,h00,rfl⟩ ?_ ?_ ?_
  · (simp only [zT,zV,zS,zU,vcC,lateX,ex,strp,binA,elems,cells,scalar,eqC,keyA,intsA,lookA,ofVs,mpOf,Nat.reduceBEq,reduceAdd,reduceSub,reduceLT,reduceLeDiff,reduceMul,reduceEqDiff,reduceIte]; try simp)
  · rfl
  rintro ⟨⟨i,m',T,τ⟩,hi,hd,hm,hS,hT⟩
  simp only at hi hd hm hS hT
  by_cases hlt:i < l.length
  · obtain ⟨x,hx⟩:∃ x,l[i]?=some x:=⟨_,List.getElem?_eq_getElem hlt⟩
    obtain ⟨w1,w2,w3⟩:=v3 x (List.mem_of_getElem? hx)
    have hdi:(hops l).drop m'=hopsOf i x++hopsF (i+1) (l.drop (i+1)):=by rw [hd,drop_cons hx]; rfl
    (repeat' ((first
 | refine vn rfl ?_
 | simp (disch:=omega) only [wr64,Int.zero_sub]
 | refine bo (fun _=>?_) fun _=>?_
 | refine im fun _=>?_
 | refine cF ?_
 | refine om ?_
 | refine an ?_
 | fail) <;> try simp only [zT,zV,zS,zU,vcC,lateX,ex,strp,binA,elems,cells,scalar,eqC,keyA,intsA,lookA,ofVs,mpOf,Nat.reduceBEq,reduceAdd,reduceSub,reduceLT,reduceLeDiff,reduceMul,reduceEqDiff,reduceIte,getD_map hx]))
    all_goals try (exfalso; omega)
    refine AWPC.loopE (α:={ x':Nat × Nat × List Ent × Sto // x'.1≤x.nx.length∧(hops l).drop x'.2.1=(hopsOf i x).drop x'.1++hopsF (i+1) (l.drop (i+1))∧x'.2.1≤(hops l).length∧HopS x'.2.2.2 x'.2.2.1∧strE x'.2.2.1=hopK ((hops l).take x'.2.1) }) [19]
      (fun x=>[(19,n x.1.1)]) (fun x=>x.1.2.2.2) (fun x'=>x.nx.length - x'.1.1) ⟨(0,m',T,τ++[some [⟨80,2,[Nod.cs x],none⟩]]),by simp,by simpa using hdi,hm,hS.app _,hT⟩ ?_ ?_ ?_
    · (simp only [zT,zV,zS,zU,vcC,lateX,ex,strp,binA,elems,cells,scalar,eqC,keyA,intsA,lookA,ofVs,mpOf,Nat.reduceBEq,reduceAdd,reduceSub,reduceLT,reduceLeDiff,reduceMul,reduceEqDiff,reduceIte]; try simp)
    · rfl
    rintro ⟨⟨j,m',T,τ⟩,hj,hd,hm,hS,hT⟩
    simp only at hj hd hm hS hT
    have aM:∀ ν,Sto.at (τ++ν) 0 0=some ⟨0,0,[],some (.mp 2 (entA T))⟩:=fun ν=>by rw [at_appL (at_lt hS.a)]; exact hS.a
    by_cases hlt2:j < x.nx.length
    · obtain ⟨e,he⟩:∃ e,x.nx[j]?=some e:=⟨_,List.getElem?_eq_getElem hlt2⟩
      obtain ⟨u1,u2,u3⟩:=w3 e (List.mem_of_getElem? he)
      have hho:(hopsOf i x)[j]?=some ⟨i,e.to.toNat,e.ch⟩:=by simp [hopsOf,he]
      rw [drop_cons hho,List.cons_append] at hd
      obtain ⟨hxm,hd'⟩:=drop_next hd
      have hm1:=(List.getElem?_eq_some_iff.1 hxm).1
      have hnx:=hopK_next hxm
      have ht0:((e.to.toNat:Nat):Int)=e.to:=by omega
      simp only [hkey,ht0] at hnx
      by_cases hk:∀ t∈T,t.k≠[(i:Int),e.to]
      · obtain ⟨g1,g2,g3⟩:=ent_none (s:=e.ch) (g:=List.length τ+1) hk
        have hN:=(hS.app [some [⟨124,3,[Edg.cs e],none⟩]]).new (s:=e.ch) hk
        rw [List.length_append,List.length_singleton,List.append_assoc] at hN
        have hT':=strE_add T [(i:Int),e.to] e.ch (List.length τ+1)
        (repeat' ((first
 | refine vn rfl ?_
 | simp (disch:=omega) only [wr64,Int.zero_sub]
 | refine bo (fun _=>?_) fun _=>?_
 | refine im fun _=>?_
 | refine cF ?_
 | refine om ?_
 | refine an ?_
 | fail) <;> try simp only [zT, zV, zS, zU, vcC, lateX, ex, strp, binA, elems, cells, scalar, eqC, keyA, intsA, lookA, ofVs, mpOf, Nat.reduceBEq, reduceAdd, reduceSub, reduceLT, reduceLeDiff, reduceMul, reduceEqDiff, reduceIte, getD_map he, aM, g1, g2]))
        all_goals try (exfalso; omega)
        exact ⟨⟨(j+1,m'+1,_,_),hlt2,hd',hm1,hN,by simp only; rw [hT',hT,hnx]⟩,by simp,rfl,by simp only; omega⟩
      · obtain ⟨A,t,B,rfl,ek,g1,g2,g3⟩:=ent_some (s:=e.ch) (g:=0) hk
        have htm:t∈A++t::B:=by simp
        obtain ⟨tl,t0⟩:=hS.lt htm
        have hN:=(hS.app [some [⟨124,3,[Edg.cs e],none⟩]]).old (s:=e.ch) (M:=entA (addE (A++t::B) [(i:Int),e.to] e.ch 0)) (by rw [g3])
        have hT':=strE_add (A++t::B) [(i:Int),e.to] e.ch 0
        rw [show spO (t.l++[e.ch])=⟨30,2,t.l.map Sp.cs++[Sp.cs e.ch],none⟩ from by simp [spO]] at hN
        have aG:∀ ν,Sto.at (τ++ν) t.g 0=some (spO t.l):=fun ν=>by rw [at_appL tl]; exact hS.o t htm
        have aU:∀ ν o,Sto.at (Sto.upd (τ++ν) t.g 0 o) 0 0=some ⟨0,0,[],some (.mp 2 (entA (A++t::B)))⟩:=fun ν o=>by rw [at_upd_other (.inl t0)]; exact aM ν
        have aV:∀ x ν o,Sto.at (Sto.upd (τ++some [x]::ν) t.g 0 o) (List.length τ) 0=some x:=fun x ν o=>by rw [at_upd_other (.inl (by omega)),at_app0]; rfl
        have hsz:t.l.length≤m':=hopK_len m' hm (t.k,t.l) (by rw [← hT]; exact List.mem_map.2 ⟨t,htm,rfl⟩)
        have hsz2:t.l.length+1≤1000000:=by
          have hhl:(hops l).length≤64 * l.length:=hops_len v3
          omega
        (repeat' ((first
 | refine vn rfl ?_
 | simp (disch:=omega) only [wr64,Int.zero_sub]
 | refine bo (fun _=>?_) fun _=>?_
 | refine im fun _=>?_
 | refine cF ?_
 | refine om ?_
 | refine an ?_
 | fail) <;> try simp only [zT, zV, zS, zU, vcC, lateX, ex, strp, binA, elems, cells, scalar, eqC, keyA, intsA, lookA, ofVs, mpOf, Nat.reduceBEq, reduceAdd, reduceSub, reduceLT, reduceLeDiff, reduceMul, reduceEqDiff, reduceIte, getD_map he, aM, aG, aU, aV, g1, g2]))
        all_goals try (exfalso; omega)
        exact ⟨⟨(j+1,m'+1,A++⟨t.k,t.l++[e.ch],t.g⟩::B,_),hlt2,hd',hm1,hN,by simp only; rw [← g3,hT',hT,hnx]⟩,by simp,rfl,by simp only; omega⟩
    · obtain rfl:j=x.nx.length:=by omega
      have hdn:(hopsOf i x).drop x.nx.length=[]:=List.drop_eq_nil_of_le (by simp [hopsOf])
      rw [hdn,List.nil_append] at hd
      (repeat' ((first
 | refine vn rfl ?_
 | simp (disch:=omega) only [wr64,Int.zero_sub]
 | refine bo (fun _=>?_) fun _=>?_
 | refine im fun _=>?_
 | refine cF ?_
 | refine om ?_
 | refine an ?_
 | fail) <;> try simp only [zT,zV,zS,zU,vcC,lateX,ex,strp,binA,elems,cells,scalar,eqC,keyA,intsA,lookA,ofVs,mpOf,Nat.reduceBEq,reduceAdd,reduceSub,reduceLT,reduceLeDiff,reduceMul,reduceEqDiff,reduceIte]))
      all_goals try (exfalso; omega)
      exact ⟨⟨(i+1,m',T,τ),hlt,hd,hm,hS,hT⟩,by simp,rfl,by simp only; omega⟩
  · obtain rfl:i=l.length:=by omega
    rw [List.drop_length] at hd
    have:m'=(hops l).length:=by have:=List.drop_eq_nil_iff.1 hd; omega
    subst this
    rw [List.take_length] at hT
    (repeat' ((first
 | refine vn rfl ?_
 | simp (disch:=omega) only [wr64,Int.zero_sub]
 | refine bo (fun _=>?_) fun _=>?_
 | refine im fun _=>?_
 | refine cF ?_
 | refine om ?_
 | refine an ?_
 | fail) <;> try simp only [zT,zV,zS,zU,vcC,lateX,ex,strp,binA,elems,cells,scalar,eqC,keyA,intsA,lookA,ofVs,mpOf,Nat.reduceBEq,reduceAdd,reduceSub,reduceLT,reduceLeDiff,reduceMul,reduceEqDiff,reduceIte]))
    all_goals try (exfalso; omega)
    have hlen:(hopK (hops l)).length=T.length:=by rw [← hT]; simp
    refine Frz.mp (n:=2) (m:=entA T) hS.a (by simp [mpOf]) (by simp [hlen]) (fun q hq=>?_) fun q hq=>?_
    · simp only [List.length_map] at hq
      rw [← hT,List.map_map,getD_map' (List.getElem?_eq_getElem hq),getD_map' (List.getElem?_eq_getElem hq)]
      rfl
    · simp only [List.length_map] at hq
      rw [← hT,List.map_map,getD_map' (List.getElem?_eq_getElem hq),getD_map' (List.getElem?_eq_getElem hq)]
      exact frz_sp (hS.o _ (List.getElem_mem hq))
def chs (hs:List Hop) (k:List Int):List Sp:=(hs.filter fun h=>decide (hkey h=k)).map (·.ch)
theorem addK_get {E:List (List Int × List Sp)} {k k':List Int} {s:Sp} :
    ((addK E k s).find? fun e=>decide (e.1=k')).map (·.2)=if k=k' then some ((((E.find? fun e=>decide (e.1=k')).map (·.2)).getD [])++[s]) else (E.find? fun e=>decide (e.1=k')).map (·.2):=by
  induction E with
  | nil =>
    by_cases h:k=k' <;> simp [addK,h]
  | cons e r ih =>
    unfold addK
    by_cases h1:e.1=k
    · subst h1
      by_cases h2:e.1=k' <;> simp [h2]
    · simp only [h1,if_false,List.find?_cons]
      by_cases h2:e.1=k'
      · have h3:¬ k=k':=fun h=>h1 (h2.trans h.symm)
        simp [h2,h3]
      · simp only [h2,decide_false,ih]
theorem hopK_get (hs:List Hop) (k:List Int):((hopK hs).find? fun e=>decide (e.1=k)).map (·.2)=if chs hs k=[] then none else some (chs hs k):=by
  have key:∀ i,i≤hs.length→((hopK (hs.take i)).find? fun e=>decide (e.1=k)).map (·.2)=if chs (hs.take i) k=[] then none else some (chs (hs.take i) k):=by
    intro i
    induction i with
    | zero=>intro _; rfl
    | succ i ih =>
      intro hi
      have e:=List.getElem?_eq_getElem (l:=hs) (i:=i) (by omega)
      have hc:chs (hs.take (i+1)) k=if hkey hs[i]=k then chs (hs.take i) k++[hs[i].ch] else chs (hs.take i) k:=by
        rw [take_snoc e]
        unfold chs
        rw [List.filter_append]
        by_cases h:hkey hs[i]=k <;> simp [h]
      rw [hopK_next e,addK_get,ih (by omega),hc]
      by_cases h:hkey hs[i]=k
      · simp only [h,if_true]
        by_cases h2:chs (hs.take i) k=[] <;> simp [h2]
      · simp only [h,if_false]
  have:=key hs.length (Nat.le_refl _)
  rwa [List.take_length] at this
theorem mapS_get (hs:List Hop) (k:List Int):mget ((hopK hs).map fun e=>(e.1,spS e.2)) k=if chs hs k=[] then none else some (spS (chs hs k)):=by
  rw [mget_map (fun e:List Int × List Sp=>e.1) (fun e=>spS e.2)]
  have h:=hopK_get hs k
  generalize (hopK hs).find? (fun e=>decide (e.1=k))=q at *
  cases q with
  | none =>
    by_cases h2:chs hs k=[]
    · simp [h2]
    · rw [if_neg h2] at h; cases h
  | some e =>
    by_cases h2:chs hs k=[]
    · rw [if_pos h2] at h; cases h
    · rw [if_neg h2] at h ⊢
      simp only [Option.map_some,Option.some.injEq] at h ⊢
      rw [h]
theorem isPlace_spec (l:List Nod) (a:At) (hl:stgSz l):Pure Tryz.prog 121 [stS l,.agg (At.cs a)] (bl (tr (0≤a.node∧a.node < (l.length:Int)∧Mem a.val ((l.map (·.al)).getD a.node.toNat [])))):=by
  refine Pure.of_body Tryz.call121 Tryz.func121 k121 (Nat.le_of_ble_eq_true rfl) ?_
  unfold c121
  by_cases h:0≤a.node∧a.node < (l.length:Int)
  · obtain ⟨x,hx⟩:∃ x,l[a.node.toNat]?=some x:=⟨_,List.getElem?_eq_getElem (by omega)⟩
    have hs:=hl.2 x (List.mem_of_getElem? hx)
    rw [getD_map' hx]
    obtain ⟨h1,h2⟩:=h
    (repeat' ((first
 | refine vn rfl ?_
 | simp (disch:=omega) only [wr64,Int.zero_sub]
 | refine bo (fun _=>?_) fun _=>?_
 | refine im fun _=>?_
 | ((repeat refine si ?_); (first | ((first | refine .inl ⟨_,_,_,_,rfl,fun _=>pu (has_spec x.al a.val hs.1),?_⟩ | refine ⟨_,_,_,_,rfl,fun _=>pu (has_spec x.al a.val hs.1),?_⟩); (first | refine o1 ?_ | refine o2 ?_ | refine o3 ?_ | refine o4 ?_)) | refine .inl ⟨_,_,_,_,rfl,pu (has_spec x.al a.val hs.1),?_⟩))
 | refine cF ?_
 | refine om ?_
 | refine an ?_
 | fail) <;> try simp only [zT,zV,zS,zU,vcC,lateX,ex,strp,binA,elems,cells,scalar,eqC,keyA,intsA,lookA,ofVs,mpOf,Nat.reduceBEq,reduceAdd,reduceSub,reduceLT,reduceLeDiff,reduceMul,reduceEqDiff,reduceIte,getD_map hx]))
    all_goals try (exfalso; omega)
    refine Frz.eq (congrArg bl ?_) (by simp)
    simp [h1,h2]
  · have fin:∀ q:Prop,tr (0≤a.node∧a.node < (l.length:Int)∧q)=false:=fun q=>tr_0 fun h'=>h ⟨h'.1,h'.2.1⟩
    rw [fin]
    cases hq:l[a.node.toNat]? with
    | none =>
      have h0:(l.map Nod.cs).getD a.node.toNat []=[]:=by simp [List.getD_eq_getElem?_getD,hq]
      (repeat' ((first
 | refine vn rfl ?_
 | simp (disch:=omega) only [wr64,Int.zero_sub]
 | refine bo (fun _=>?_) fun _=>?_
 | refine im fun _=>?_
 | refine cF ?_
 | refine cG ?_
 | refine om ?_
 | refine an ?_
 | fail) <;> try simp only [zT,zV,zS,zU,vcC,lateX,ex,strp,binA,elems,cells,scalar,eqC,keyA,intsA,lookA,ofVs,mpOf,Nat.reduceBEq,reduceAdd,reduceSub,reduceLT,reduceLeDiff,reduceMul,reduceEqDiff,reduceIte,h0,h]))
      all_goals exact Frz.eq rfl (by simp)
    | some x =>
      (repeat' ((first
 | refine vn rfl ?_
 | simp (disch:=omega) only [wr64,Int.zero_sub]
 | refine bo (fun _=>?_) fun _=>?_
 | refine im fun _=>?_
 | ((repeat refine si ?_); (first | ((first | refine .inl ⟨_,_,_,_,rfl,fun _=>pu (has_spec x.al a.val (hl.2 x (List.mem_of_getElem? hq)).1),?_⟩ | refine ⟨_,_,_,_,rfl,fun _=>pu (has_spec x.al a.val (hl.2 x (List.mem_of_getElem? hq)).1),?_⟩); (first | refine o1 ?_ | refine o2 ?_ | refine o3 ?_ | refine o4 ?_)) | refine .inl ⟨_,_,_,_,rfl,pu (has_spec x.al a.val (hl.2 x (List.mem_of_getElem? hq)).1),?_⟩))
 | refine cF ?_
 | refine om ?_
 | refine an ?_
 | fail) <;> try simp only [zT,zV,zS,zU,vcC,lateX,ex,strp,binA,elems,cells,scalar,eqC,keyA,intsA,lookA,ofVs,mpOf,Nat.reduceBEq,reduceAdd,reduceSub,reduceLT,reduceLeDiff,reduceMul,reduceEqDiff,reduceIte,getD_map hq]))
      refine Frz.eq (congrArg bl ?_) (by simp)
      simp only [decide_eq_false_iff_not]
      exact fun h'=>h h'.1
theorem has_nil (v:Int):Pure Tryz.prog 122 [.v (.slice none 0 0),n v] (bl (tr (Mem v []))) :=
  Pure.arg (has_spec [] v (by decide)) rfl fun i hi w X β σ x hx=>by
    match i,hi with
    | 0,_=>cases hx; exact .slnil _
    | 1,_=>exact hx
theorem way_snoc {t:Trk} {c:List At} {k:Nat} {a:At} (ha:c[k]?=some a):way t 0 (c.take (k+1))↔way t 0 (c.take k)∧placeOk t k a∧(∀ p,0 < k→c[k - 1]?=some p→stepOk t (k - 1) p a):=by
  have hk:=(List.getElem?_eq_some_iff.1 ha).1
  have hlen:(c.take k).length=k:=by rw [List.length_take]; omega
  rw [take_snoc ha,way_append,hlen]
  refine and_congr_right fun _=>?_
  simp only [way,Nat.zero_add,List.getElem?_cons_zero,Option.some.injEq]
  refine and_congr_right fun _=>?_
  constructor
  · intro h p h0 hp
    refine h p a ?_ rfl
    rw [List.getLast?_eq_getElem?,hlen,List.getElem?_take,if_pos (by omega)]; exact hp
  · rintro h p b hp rfl
    rw [List.getLast?_eq_getElem?,hlen] at hp
    by_cases h0:0 < k
    · rw [List.getElem?_take,if_pos (by omega)] at hp
      exact h p h0 hp
    · obtain rfl:k=0:=by omega
      simp at hp
theorem way_take {t:Trk} {c:List At} (h:way t 0 c) (k:Nat):way t 0 (c.take k):=by
  rw [← List.take_append_drop k c,way_append] at h
  exact h.1
theorem stepOk_chs {t:Trk} {k:Nat} {p a:At} (hp:0≤p.node) (ha:0≤a.node):stepOk t k p a↔Mem (a.val - p.val) (chs (stp t k) [p.node,a.node]):=by
  unfold stepOk chs Mem
  constructor
  · rintro ⟨h,hm,e1,e2,h1,h2⟩
    refine ⟨h.ch,List.mem_map.2 ⟨h,List.mem_filter.2 ⟨hm,?_⟩,rfl⟩,h1,h2⟩
    simp only [hkey,List.cons.injEq,and_true,decide_eq_true_eq]; omega
  · rintro ⟨s,hs,h1,h2⟩
    obtain ⟨h,hm,rfl⟩:=List.mem_map.1 hs
    obtain ⟨hm,e⟩:=List.mem_filter.1 hm
    simp only [hkey,List.cons.injEq,and_true,decide_eq_true_eq] at e
    exact ⟨h,hm,by omega,by omega,h1,h2⟩
theorem mem_val {t:Trk} (hv:valid t) {k:Nat} {a:At} (h:placeOk t k a):-100000≤a.val∧a.val≤100000:=mem_of_in (goods_get (als_goods hv k) _).2 h.2.2
theorem Keeps_spec (t:Trk) (c:List At) (hs:trkSz t) (hc:c.length < 9223372036854775808):Pure Tryz.prog 61 [trS t,atS c] (n (if tr (valid t) then (if tr (course t c) then 0 else 41) else 40)):=by
  refine Pure.of_body Tryz.call61 Tryz.func61 k61 (Nat.le_of_ble_eq_true rfl) ?_
  unfold c61
  by_cases hv:valid t
  · rw [tr_1 hv,if_pos rfl]
    have hck:=Check_spec t hs
    rw [tr_1 hv,if_pos rfl] at hck
    by_cases hl:c.length=t.length
    · have hln:=hs.1
      (repeat' ((first
 | refine vn rfl ?_
 | simp (disch:=omega) only [wr64,Int.zero_sub]
 | refine bo (fun _=>?_) fun _=>?_
 | refine im fun _=>?_
 | ((repeat refine si ?_); (first | ((first | refine .inl ⟨_,_,_,_,rfl,fun _=>pu hck,?_⟩ | refine ⟨_,_,_,_,rfl,fun _=>pu hck,?_⟩); (first | refine o1 ?_ | refine o2 ?_ | refine o3 ?_ | refine o4 ?_)) | refine .inl ⟨_,_,_,_,rfl,pu hck,?_⟩))
 | refine cF ?_
 | refine om ?_
 | refine an ?_
 | fail) <;> try simp only [zT,zV,zS,zU,vcC,lateX,ex,strp,binA,elems,cells,scalar,eqC,keyA,intsA,lookA,ofVs,mpOf,Nat.reduceBEq,reduceAdd,reduceSub,reduceLT,reduceLeDiff,reduceMul,reduceEqDiff,reduceIte]))
      all_goals try (exfalso; omega)
      refine AWPC.loopE (α:={ x:Nat × Sto // x.1≤c.length∧way t 0 (c.take x.1) }) [21] (fun x=>[(21,n x.1.1)]) (fun x=>x.1.2) (fun x=>c.length - x.1.1) ⟨(0,[]),by simp,trivial⟩ ?_ ?_ ?_
      · (simp only [zT,zV,zS,zU,vcC,lateX,ex,strp,binA,elems,cells,scalar,eqC,keyA,intsA,lookA,ofVs,mpOf,Nat.reduceBEq,reduceAdd,reduceSub,reduceLT,reduceLeDiff,reduceMul,reduceEqDiff,reduceIte]; try simp)
      · rfl
      rintro ⟨⟨k,τ⟩,hk,hw⟩
      simp only at hk hw
      simp only
      by_cases hlt:k < c.length
      · obtain ⟨a,ha⟩:∃ a,c[k]?=some a:=⟨_,List.getElem?_eq_getElem hlt⟩
        obtain ⟨L,hL⟩:∃ L,t[k]?=some L:=⟨_,List.getElem?_eq_getElem (by omega)⟩
        have hp:=isPlace_spec L a (hs.2 L (List.mem_of_getElem? hL))
        have hL':t.getD k []=L:=by rw [List.getD_eq_getElem?_getD,hL]; rfl
        have hpl:(0≤a.node∧a.node < (L.length:Int)∧Mem a.val ((L.map (·.al)).getD a.node.toNat []))↔placeOk t k a:=by unfold placeOk wd als; rw [hL']
        have hsn:=way_snoc (t:=t) ha
        have hno:¬ way t 0 (c.take (k+1))→¬ course t c:=fun h h'=>h (way_take h'.2 _)
        by_cases hpa:placeOk t k a
        · rw [tr_1 (hpl.2 hpa)] at hp
          obtain ⟨b1,b2⟩:=mem_val hv hpa
          by_cases h0:k=0
          · subst h0
            have hm1:(-1:Int).toNat=0:=rfl
            (repeat' ((first
 | refine vn rfl ?_
 | simp (disch:=omega) only [wr64,Int.zero_sub]
 | refine bo (fun _=>?_) fun _=>?_
 | refine im fun _=>?_
 | ((repeat refine si ?_); (first | ((first | refine .inl ⟨_,_,_,_,rfl,fun _=>pu hp,?_⟩ | refine ⟨_,_,_,_,rfl,fun _=>pu hp,?_⟩); (first | refine o1 ?_ | refine o2 ?_ | refine o3 ?_ | refine o4 ?_)) | refine .inl ⟨_,_,_,_,rfl,pu hp,?_⟩))
 | refine cF ?_
 | refine cG ?_
 | refine om ?_
 | refine an ?_
 | fail) <;> try simp only [zT, zV, zS, zU, vcC, lateX, ex, strp, binA, elems, cells, scalar, eqC, keyA, intsA, lookA, ofVs, mpOf, Nat.reduceBEq, reduceAdd, reduceSub, reduceLT, reduceLeDiff, reduceMul, reduceEqDiff, reduceIte, getD_map ha, getD_map hL, hm1]))
            all_goals try (exfalso; omega)
            exact ⟨⟨(1,_),hlt,hsn.2 ⟨hw,hpa,fun p h=>absurd h (by omega)⟩⟩,by simp,rfl,by simp only; omega⟩
          · obtain ⟨p,hpp⟩:∃ p,c[k - 1]?=some p:=⟨_,List.getElem?_eq_getElem (by omega)⟩
            obtain ⟨L',hL2⟩:∃ L,t[k - 1]?=some L:=⟨_,List.getElem?_eq_getElem (by omega)⟩
            have hL3:t.getD (k - 1) []=L':=by rw [List.getD_eq_getElem?_getD,hL2]; rfl
            have hpp2:placeOk t (k - 1) p:=by
              have h1:=way_take hw k
              have h2:=way_snoc (t:=t) hpp
              rw [show k - 1+1=k by omega] at h2
              exact (h2.1 hw).2.1
            obtain ⟨b3,b4⟩:=mem_val hv hpp2
            have hh:=hops_spec (wd t (k - 1+1)) L' (hL3 ▸ valid_stg hv (by omega))
            have hi:((k:Int) - 1).toNat=k - 1:=by omega
            have hst:=stepOk_chs (t:=t) (k:=k - 1) hpp2.1 hpa.1
            rw [show stp t (k - 1)=hops L' by unfold stp; rw [hL3]] at hst
            have hmg:=mapS_get (hops L') [p.node,a.node]
            have hcl:(chs (hops L') [p.node,a.node]).length < 9223372036854775808:=by
              have h1:=valid_stg hv (show k - 1 < t.length by omega)
              rw [hL3] at h1
              have h2:(hops L').length≤64 * L'.length:=hops_len h1.2.2
              have h3:(chs (hops L') [p.node,a.node]).length≤(hops L').length:=by unfold chs; rw [List.length_map]; exact List.length_filter_le _ _
              have:=h1.2.1
              omega
            have hsn2:way t 0 (c.take (k+1))↔stepOk t (k - 1) p a:=by
              rw [hsn]
              exact ⟨fun h=>h.2.2 p (by omega) hpp,fun h=>⟨hw,hpa,fun q _ hq=>by rw [hpp] at hq; injection hq with hq; subst hq; exact h⟩⟩
            have fin:∀ b:Bool,b=tr (Mem (a.val - p.val) (chs (hops L') [p.node,a.node]))→(b=true→way t 0 (c.take (k+1)))∧(b=false→tr (course t c)=false):=by
              rintro b rfl
              exact ⟨fun h=>hsn2.2 (hst.2 (tr_iff.1 h)),fun h=>tr_0 (hno fun h'=>tr_not.1 h (hst.1 (hsn2.1 h')))⟩
            by_cases hnil:chs (hops L') [p.node,a.node]=[]
            · rw [if_pos hnil] at hmg
              rw [hnil] at fin
              obtain ⟨f1,f2⟩:=fin _ rfl
              have hz:tr (Mem (a.val - p.val) [])=false:=tr_0 Mem.nil
              have hhn:=has_nil (a.val - p.val)
              rw [hz] at hhn f2
              rw [f2 rfl]
              (repeat' ((first
 | refine vn rfl ?_
 | simp (disch:=omega) only [wr64,Int.zero_sub]
 | refine bo (fun _=>?_) fun _=>?_
 | refine im fun _=>?_
 | ((repeat refine si ?_); (first | ((first | refine .inl ⟨_,_,_,_,rfl,fun _=>pu (by first | exact hp | exact hh | exact hhn),?_⟩ | refine ⟨_,_,_,_,rfl,fun _=>pu (by first | exact hp | exact hh | exact hhn),?_⟩); (first | refine o1 ?_ | refine o2 ?_ | refine o3 ?_ | refine o4 ?_)) | refine .inl ⟨_,_,_,_,rfl,pu (by first | exact hp | exact hh | exact hhn),?_⟩))
 | refine cF ?_
 | refine om ?_
 | refine an ?_
 | fail) <;> try simp only [zT, zV, zS, zU, vcC, lateX, ex, strp, binA, elems, cells, scalar, eqC, keyA, intsA, lookA, ofVs, mpOf, Nat.reduceBEq, reduceAdd, reduceSub, reduceLT, reduceLeDiff, reduceMul, reduceEqDiff, reduceIte, getD_map ha, getD_map hL, getD_map hpp, getD_map hL2, hi, hmg]))
              all_goals try (exfalso; omega)
              all_goals exact Frz.eq rfl (by simp)
            · rw [if_neg hnil] at hmg
              have hha:=has_spec (chs (hops L') [p.node,a.node]) (a.val - p.val) hcl
              obtain ⟨f1,f2⟩:=fin _ rfl
              generalize tr (Mem (a.val - p.val) (chs (hops L') [p.node,a.node]))=b at *
              cases b with
              | false =>
                rw [f2 rfl]
                (repeat' ((first
 | refine vn rfl ?_
 | simp (disch:=omega) only [wr64,Int.zero_sub]
 | refine bo (fun _=>?_) fun _=>?_
 | refine im fun _=>?_
 | ((repeat refine si ?_); (first | ((first | refine .inl ⟨_,_,_,_,rfl,fun _=>pu (by first | exact hp | exact hh | exact hha),?_⟩ | refine ⟨_,_,_,_,rfl,fun _=>pu (by first | exact hp | exact hh | exact hha),?_⟩); (first | refine o1 ?_ | refine o2 ?_ | refine o3 ?_ | refine o4 ?_)) | refine .inl ⟨_,_,_,_,rfl,pu (by first | exact hp | exact hh | exact hha),?_⟩))
 | refine cF ?_
 | refine om ?_
 | refine an ?_
 | fail) <;> try simp only [zT, zV, zS, zU, vcC, lateX, ex, strp, binA, elems, cells, scalar, eqC, keyA, intsA, lookA, ofVs, mpOf, Nat.reduceBEq, reduceAdd, reduceSub, reduceLT, reduceLeDiff, reduceMul, reduceEqDiff, reduceIte, getD_map ha, getD_map hL, getD_map hpp, getD_map hL2, hi, hmg]))
                all_goals try (exfalso; omega)
                all_goals exact Frz.eq rfl (by simp)
              | true =>
                (repeat' ((first
 | refine vn rfl ?_
 | simp (disch:=omega) only [wr64,Int.zero_sub]
 | refine bo (fun _=>?_) fun _=>?_
 | refine im fun _=>?_
 | ((repeat refine si ?_); (first | ((first | refine .inl ⟨_,_,_,_,rfl,fun _=>pu (by first | exact hp | exact hh | exact hha),?_⟩ | refine ⟨_,_,_,_,rfl,fun _=>pu (by first | exact hp | exact hh | exact hha),?_⟩); (first | refine o1 ?_ | refine o2 ?_ | refine o3 ?_ | refine o4 ?_)) | refine .inl ⟨_,_,_,_,rfl,pu (by first | exact hp | exact hh | exact hha),?_⟩))
 | refine cF ?_
 | refine om ?_
 | refine an ?_
 | fail) <;> try simp only [zT, zV, zS, zU, vcC, lateX, ex, strp, binA, elems, cells, scalar, eqC, keyA, intsA, lookA, ofVs, mpOf, Nat.reduceBEq, reduceAdd, reduceSub, reduceLT, reduceLeDiff, reduceMul, reduceEqDiff, reduceIte, getD_map ha, getD_map hL, getD_map hpp, getD_map hL2, hi, hmg]))
                all_goals try (exfalso; omega)
                exact ⟨⟨(k+1,_),hlt,f1 rfl⟩,by simp,rfl,by simp only; omega⟩
        · rw [tr_0 (fun h=>hpa (hpl.1 h))] at hp
          rw [tr_0 (hno fun h=>hpa (hsn.1 h).2.1)]
          (repeat' ((first
 | refine vn rfl ?_
 | simp (disch:=omega) only [wr64,Int.zero_sub]
 | refine bo (fun _=>?_) fun _=>?_
 | refine im fun _=>?_
 | ((repeat refine si ?_); (first | ((first | refine .inl ⟨_,_,_,_,rfl,fun _=>pu hp,?_⟩ | refine ⟨_,_,_,_,rfl,fun _=>pu hp,?_⟩); (first | refine o1 ?_ | refine o2 ?_ | refine o3 ?_ | refine o4 ?_)) | refine .inl ⟨_,_,_,_,rfl,pu hp,?_⟩))
 | refine cF ?_
 | refine om ?_
 | refine an ?_
 | fail) <;> try simp only [zT, zV, zS, zU, vcC, lateX, ex, strp, binA, elems, cells, scalar, eqC, keyA, intsA, lookA, ofVs, mpOf, Nat.reduceBEq, reduceAdd, reduceSub, reduceLT, reduceLeDiff, reduceMul, reduceEqDiff, reduceIte, getD_map ha, getD_map hL]))
          all_goals try (exfalso; omega)
          all_goals exact Frz.eq rfl (by simp)
      · obtain rfl:k=c.length:=by omega
        rw [List.take_length] at hw
        rw [tr_1 (show course t c from ⟨hl,hw⟩)]
        (repeat' ((first
 | refine vn rfl ?_
 | simp (disch:=omega) only [wr64,Int.zero_sub]
 | refine bo (fun _=>?_) fun _=>?_
 | refine im fun _=>?_
 | refine cF ?_
 | refine om ?_
 | refine an ?_
 | fail) <;> try simp only [zT, zV, zS, zU, vcC, lateX, ex, strp, binA, elems, cells, scalar, eqC, keyA, intsA, lookA, ofVs, mpOf, Nat.reduceBEq, reduceAdd, reduceSub, reduceLT, reduceLeDiff, reduceMul, reduceEqDiff, reduceIte]))
        all_goals try (exfalso; omega)
        all_goals exact Frz.eq rfl (by simp)
    · have hnc:¬ course t c:=fun h=>hl h.1
      rw [tr_0 hnc]
      (repeat' ((first
 | refine vn rfl ?_
 | simp (disch:=omega) only [wr64,Int.zero_sub]
 | refine bo (fun _=>?_) fun _=>?_
 | refine im fun _=>?_
 | ((repeat refine si ?_); (first | ((first | refine .inl ⟨_,_,_,_,rfl,fun _=>pu hck,?_⟩ | refine ⟨_,_,_,_,rfl,fun _=>pu hck,?_⟩); (first | refine o1 ?_ | refine o2 ?_ | refine o3 ?_ | refine o4 ?_)) | refine .inl ⟨_,_,_,_,rfl,pu hck,?_⟩))
 | refine cF ?_
 | refine om ?_
 | refine an ?_
 | fail) <;> try simp only [zT,zV,zS,zU,vcC,lateX,ex,strp,binA,elems,cells,scalar,eqC,keyA,intsA,lookA,ofVs,mpOf,Nat.reduceBEq,reduceAdd,reduceSub,reduceLT,reduceLeDiff,reduceMul,reduceEqDiff,reduceIte]))
      all_goals try (exfalso; omega)
      all_goals exact Frz.eq rfl (by simp)
  · rw [tr_0 hv]
    have hck:=Check_spec t hs
    rw [tr_0 hv,if_neg (by decide)] at hck
    (repeat' ((first
 | refine vn rfl ?_
 | simp (disch:=omega) only [wr64,Int.zero_sub]
 | refine bo (fun _=>?_) fun _=>?_
 | refine im fun _=>?_
 | ((repeat refine si ?_); (first | ((first | refine .inl ⟨_,_,_,_,rfl,fun _=>pu hck,?_⟩ | refine ⟨_,_,_,_,rfl,fun _=>pu hck,?_⟩); (first | refine o1 ?_ | refine o2 ?_ | refine o3 ?_ | refine o4 ?_)) | refine .inl ⟨_,_,_,_,rfl,pu hck,?_⟩))
 | refine cF ?_
 | refine om ?_
 | refine an ?_
 | fail) <;> try simp only [zT,zV,zS,zU,vcC,lateX,ex,strp,binA,elems,cells,scalar,eqC,keyA,intsA,lookA,ofVs,mpOf,Nat.reduceBEq,reduceAdd,reduceSub,reduceLT,reduceLeDiff,reduceMul,reduceEqDiff,reduceIte]))
    all_goals try (exfalso; omega)
    all_goals exact Frz.eq rfl (by simp)
end Go.Proofs.YtahkhnagpdlkiaaGreat
namespace Go.Abs
set_option linter.unusedVariables false
set_option linter.unusedSimpArgs false
theorem way_iff {t:Trk}:∀ {p:List At} {k:Nat},way t k p↔∀ i a,p[i]?=some a→placeOk t (k+i) a∧∀ b,p[i+1]?=some b→stepOk t (k+i) a b
  | [],k=>by simp [way]
  | a::r,k=>by
    rw [way_cons,way_iff (p:=r)]
    constructor
    · rintro ⟨h1,h2,h3⟩ i b hb
      cases i with
      | zero =>
        simp only [List.getElem?_cons_zero,Option.some.injEq] at hb; subst hb
        exact ⟨h1,fun b hb=>h2 b (by simpa using hb)⟩
      | succ i =>
        have:=h3 i b (by simpa using hb)
        rw [show k+(i+1)=k+1+i by omega]
        exact ⟨this.1,fun c hc=>this.2 c (by simpa using hc)⟩
    · intro h
      have h0:=h 0 a rfl
      refine ⟨h0.1,fun b hb=>h0.2 b (by simpa using hb),fun i b hb=>?_⟩
      have:=h (i+1) b (by simpa using hb)
      rw [show k+(i+1)=k+1+i by omega] at this
      exact ⟨this.1,fun c hc=>this.2 c (by simpa using hc)⟩
theorem course_iff {t:Trk} {c:List At}:course t c↔c.length=t.length∧∀ i a,c[i]?=some a→placeOk t i a∧∀ b,c[i+1]?=some b→stepOk t i a b:=by
  unfold course
  rw [way_iff]
  simp only [Nat.zero_add]
end Go.Abs
namespace Go.Proofs.YtahkhnagpdlkiaaGreat
open Go.Abs
open Nat (reduceAdd reduceSub reduceLT reduceLeDiff reduceMul reduceEqDiff)
set_option linter.unusedVariables false
set_option linter.unusedSimpArgs false
set_option maxHeartbeats 4000000
set_option maxRecDepth 100000
def c49:CF:=⟨9,
 (.seq (.ops [
 ⟨some 2,.box false 24 1 (.t 0),none⟩,
 ⟨some 4,.mv (.c (.bool false)),none⟩] [1,2])
 (.seq (.ops [
 ⟨some 5,.load (some 1) (.t 2),none⟩,
 ⟨some 6,.mv (.t 1),none⟩,
 ⟨some 7,.call (.f 61) [(.t 5),(.t 6)],none⟩,
 ⟨some 8,.bin .eql (.t 7) (.c (.int .i64 0)),none⟩,
 ⟨some 4,.mv (.t 8),none⟩] [4])
 .ret)),
 [.t 4]⟩
def c30:CF:=⟨8,
 (.seq (.ops [
 ⟨some 1,.box false 24 1 (.t 0),none⟩,
 ⟨some 2,.mv (.c (.slice none 0 0)),none⟩,
 ⟨some 3,.mv (.c (.int .i64 0)),none⟩] [1])
 (.seq (.ops [
 ⟨some 4,.load (some 1) (.t 1),none⟩,
 ⟨some 5,.call (.f 83) [(.t 4),(.f 71)],none⟩,
 ⟨some 6,.ext 0 (.t 5),none⟩,
 ⟨some 7,.ext 1 (.t 5),none⟩,
 ⟨some 2,.mv (.t 6),none⟩,
 ⟨some 3,.mv (.t 7),none⟩] [2,3])
 .ret)),
 [.t 2,.t 3]⟩
def c32:CF:=⟨8,
 (.seq (.ops [
 ⟨some 1,.box false 24 1 (.t 0),none⟩,
 ⟨some 2,.mv (.c (.slice none 0 0)),none⟩,
 ⟨some 3,.mv (.c (.int .i64 0)),none⟩] [1])
 (.seq (.ops [
 ⟨some 4,.load (some 1) (.t 1),none⟩,
 ⟨some 5,.call (.f 83) [(.t 4),(.f 86)],none⟩,
 ⟨some 6,.ext 0 (.t 5),none⟩,
 ⟨some 7,.ext 1 (.t 5),none⟩,
 ⟨some 2,.mv (.t 6),none⟩,
 ⟨some 3,.mv (.t 7),none⟩] [2,3])
 .ret)),
 [.t 2,.t 3]⟩
theorem k49:chkF Tryz.prog Tryz.f49 c49=true:=by kernel_rfl
theorem k30:chkF Tryz.prog Tryz.f30 c30=true:=by kernel_rfl
theorem k32:chkF Tryz.prog Tryz.f32 c32=true:=by kernel_rfl
theorem is_spec (t:Trk) (c:List At) (hs:trkSz t) (hc:c.length < 9223372036854775808):Pure Tryz.prog 49 [trS t,atS c] (bl (tr (valid t∧course t c))):=by
  refine Pure.of_body Tryz.call49 Tryz.func49 k49 (Nat.le_of_ble_eq_true rfl) ?_
  unfold c49
  have hk:=Keeps_spec t c hs hc
  by_cases hv:valid t
  · rw [tr_1 hv,if_pos rfl] at hk
    by_cases h:course t c
    · rw [tr_1 h,if_pos rfl] at hk
      rw [tr_1 ⟨hv,h⟩]
      (repeat' ((first
 | refine vn rfl ?_
 | simp (disch:=omega) only [wr64,Int.zero_sub]
 | refine bo (fun _=>?_) fun _=>?_
 | refine im fun _=>?_
 | ((repeat refine si ?_); (first | ((first | refine .inl ⟨_,_,_,_,rfl,fun _=>pu hk,?_⟩ | refine ⟨_,_,_,_,rfl,fun _=>pu hk,?_⟩); (first | refine o1 ?_ | refine o2 ?_ | refine o3 ?_ | refine o4 ?_)) | refine .inl ⟨_,_,_,_,rfl,pu hk,?_⟩))
 | refine cF ?_
 | refine om ?_
 | refine an ?_
 | fail) <;> try simp only [zT,zV,zS,zU,vcC,lateX,ex,strp,binA,elems,cells,scalar,eqC,keyA,intsA,lookA,ofVs,mpOf,Nat.reduceBEq,reduceAdd,reduceSub,reduceLT,reduceLeDiff,reduceMul,reduceEqDiff,reduceIte]))
      all_goals exact Frz.eq rfl (by simp)
    · rw [tr_0 h,if_neg (by decide)] at hk
      rw [tr_0 (fun h'=>h h'.2)]
      (repeat' ((first
 | refine vn rfl ?_
 | simp (disch:=omega) only [wr64,Int.zero_sub]
 | refine bo (fun _=>?_) fun _=>?_
 | refine im fun _=>?_
 | ((repeat refine si ?_); (first | ((first | refine .inl ⟨_,_,_,_,rfl,fun _=>pu hk,?_⟩ | refine ⟨_,_,_,_,rfl,fun _=>pu hk,?_⟩); (first | refine o1 ?_ | refine o2 ?_ | refine o3 ?_ | refine o4 ?_)) | refine .inl ⟨_,_,_,_,rfl,pu hk,?_⟩))
 | refine cF ?_
 | refine om ?_
 | refine an ?_
 | fail) <;> try simp only [zT,zV,zS,zU,vcC,lateX,ex,strp,binA,elems,cells,scalar,eqC,keyA,intsA,lookA,ofVs,mpOf,Nat.reduceBEq,reduceAdd,reduceSub,reduceLT,reduceLeDiff,reduceMul,reduceEqDiff,reduceIte]))
      all_goals exact Frz.eq rfl (by simp)
  · rw [tr_0 hv,if_neg (by decide)] at hk
    rw [tr_0 (fun h'=>hv h'.1)]
    (repeat' ((first
 | refine vn rfl ?_
 | simp (disch:=omega) only [wr64,Int.zero_sub]
 | refine bo (fun _=>?_) fun _=>?_
 | refine im fun _=>?_
 | ((repeat refine si ?_); (first | ((first | refine .inl ⟨_,_,_,_,rfl,fun _=>pu hk,?_⟩ | refine ⟨_,_,_,_,rfl,fun _=>pu hk,?_⟩); (first | refine o1 ?_ | refine o2 ?_ | refine o3 ?_ | refine o4 ?_)) | refine .inl ⟨_,_,_,_,rfl,pu hk,?_⟩))
 | refine cF ?_
 | refine om ?_
 | refine an ?_
 | fail) <;> try simp only [zT,zV,zS,zU,vcC,lateX,ex,strp,binA,elems,cells,scalar,eqC,keyA,intsA,lookA,ofVs,mpOf,Nat.reduceBEq,reduceAdd,reduceSub,reduceLT,reduceLeDiff,reduceMul,reduceEqDiff,reduceIte]))
    all_goals exact Frz.eq rfl (by simp)
theorem Forward_spec (t:Trk) (hs:trkSz t):Pure Tryz.prog 30 [trS t] (.tup [stgS (if tr (valid t)=true then fwds t else []),n (if tr (valid t)=true then 0 else 40)]):=by
  refine Pure.of_body Tryz.call30 Tryz.func30 k30 (Nat.le_of_ble_eq_true rfl) ?_
  unfold c30
  have ht:=told_spec t hs 71 (fwds t) (forward_spec t)
  generalize (if tr (valid t)=true then (0:Int) else 40)=E at *
  generalize (if tr (valid t)=true then fwds t else [])=X at *
  (repeat' ((first
 | refine vn rfl ?_
 | simp (disch:=omega) only [wr64,Int.zero_sub]
 | refine bo (fun _=>?_) fun _=>?_
 | refine im fun _=>?_
 | ((repeat refine si ?_); (first | ((first | refine .inl ⟨_,_,_,_,rfl,fun _=>pu ht,?_⟩ | refine ⟨_,_,_,_,rfl,fun _=>pu ht,?_⟩); (first | refine o1 ?_ | refine o2 ?_ | refine o3 ?_ | refine o4 ?_)) | refine .inl ⟨_,_,_,_,rfl,pu ht,?_⟩))
 | refine cF ?_
 | refine om ?_
 | refine an ?_
 | fail) <;> try simp only [zT,zV,zS,zU,vcC,lateX,ex,strp,binA,elems,cells,scalar,eqC,keyA,intsA,lookA,ofVs,mpOf,Nat.reduceBEq,reduceAdd,reduceSub,reduceLT,reduceLeDiff,reduceMul,reduceEqDiff,reduceIte]))
  all_goals exact Frz.eq rfl (by simp)
theorem Backward_spec (t:Trk) (hs:trkSz t):Pure Tryz.prog 32 [trS t] (.tup [stgS (if tr (valid t)=true then bwds t else []),n (if tr (valid t)=true then 0 else 40)]):=by
  refine Pure.of_body Tryz.call32 Tryz.func32 k32 (Nat.le_of_ble_eq_true rfl) ?_
  unfold c32
  have ht:=told_spec t hs 86 (bwds t) (backward_spec t)
  generalize (if tr (valid t)=true then (0:Int) else 40)=E at *
  generalize (if tr (valid t)=true then bwds t else [])=X at *
  (repeat' ((first
 | refine vn rfl ?_
 | simp (disch:=omega) only [wr64,Int.zero_sub]
 | refine bo (fun _=>?_) fun _=>?_
 | refine im fun _=>?_
 | ((repeat refine si ?_); (first | ((first | refine .inl ⟨_,_,_,_,rfl,fun _=>pu ht,?_⟩ | refine ⟨_,_,_,_,rfl,fun _=>pu ht,?_⟩); (first | refine o1 ?_ | refine o2 ?_ | refine o3 ?_ | refine o4 ?_)) | refine .inl ⟨_,_,_,_,rfl,pu ht,?_⟩))
 | refine cF ?_
 | refine om ?_
 | refine an ?_
 | fail) <;> try simp only [zT,zV,zS,zU,vcC,lateX,ex,strp,binA,elems,cells,scalar,eqC,keyA,intsA,lookA,ofVs,mpOf,Nat.reduceBEq,reduceAdd,reduceSub,reduceLT,reduceLeDiff,reduceMul,reduceEqDiff,reduceIte]))
  all_goals exact Frz.eq rfl (by simp)
def hopsB (t:Trk) (k:Nat):List Hop:=if k+1 < t.length then stpB t k else []
def turnN (t:Trk) (k i:Nat):Nod:=⟨((t.getD (t.length - 1 - k) []).getD i ⟨[],[]⟩).al,((hopsB t k).filter fun h=>h.fr == i).map fun h=>⟨(h.to:Int),h.ch⟩⟩
def turnL (t:Trk) (k:Nat):List Nod:=(List.range (wd t (t.length - 1 - k))).map (turnN t k)
def turnT (t:Trk):Trk:=(List.range t.length).map (turnL t)
section
variable {t:Trk}
theorem turn_len:(turnT t).length=t.length:=by simp [turnT]
theorem turn_stg {k:Nat} (hk:k < t.length):(turnT t).getD k []=turnL t k:=by
  unfold turnT
  rw [List.getD_eq_getElem?_getD,List.getElem?_map,List.getElem?_range hk]; rfl
theorem turn_wd {k:Nat} (hk:k < t.length):wd (turnT t) k=wd t (t.length - 1 - k):=by
  show ((turnT t).getD k []).length=_
  rw [turn_stg hk]; simp [turnL]
theorem turn_nod {k i:Nat} {y:Nod} (hk:k < t.length) (h:((turnT t).getD k [])[i]?=some y):i < wd t (t.length - 1 - k)∧y=turnN t k i:=by
  rw [turn_stg hk] at h
  unfold turnL at h
  have hi:i < wd t (t.length - 1 - k):=by have:=(List.getElem?_eq_some_iff.1 h).1; simpa using this
  rw [List.getElem?_map,List.getElem?_range hi] at h
  simp only [Option.map_some,Option.some.injEq] at h
  exact ⟨hi,h.symm⟩
theorem turn_als {k:Nat} (hk:k < t.length):als (turnT t) k=alsB t k:=by
  unfold alsB als
  rw [turn_stg hk]
  unfold turnL
  refine List.ext_getElem? fun i=>?_
  rw [List.getElem?_map,List.getElem?_map,List.getElem?_map]
  by_cases hi:i < wd t (t.length - 1 - k)
  · rw [List.getElem?_range hi]
    have h:(t.getD (t.length - 1 - k) [])[i]?=some ((t.getD (t.length - 1 - k) []).getD i ⟨[],[]⟩):=getD_some hi
    rw [h]
    simp only [Option.map_some]
    unfold turnN
    rfl
  · rw [List.getElem?_eq_none (by simpa using hi),List.getElem?_eq_none (l:=t.getD (t.length - 1 - k) []) (i:=i) (by unfold wd at hi; omega)]; rfl
theorem stpB_fr (hv:valid t) {k:Nat} (hk:k+1 < t.length) {g:Hop} (hg:g∈stpB t k):g.fr < wd t (t.length - 1 - k)∧g.to < wd t (t.length - 2 - k)∧chOk g.ch:=by
  obtain ⟨x,hx,rfl⟩:=List.mem_map.1 hg
  obtain ⟨h1,h2,h3,h4,h5⟩:=stp_ok hv hx
  rw [show t.length - 2 - k+1=t.length - 1 - k by omega] at h2
  refine ⟨h2,h1,?_⟩
  unfold Hop.flip chOk
  simp only
  omega
theorem turn_stp (hv:valid t) {k:Nat} (hk:k+1 < t.length) {h:Hop}:h∈stp (turnT t) k↔h∈stpB t k:=by
  unfold stp
  rw [hops_mem]
  constructor
  · rintro ⟨i,x,e,hx,he,rfl⟩
    obtain ⟨hi,rfl⟩:=turn_nod (by omega) hx
    obtain ⟨g,hg,rfl⟩:=List.mem_map.1 he
    obtain ⟨hg,hf⟩:=List.mem_filter.1 hg
    have hf:g.fr=i:=by simpa using hf
    unfold hopsB at hg
    rw [if_pos hk] at hg
    simpa [← hf] using hg
  · intro hg
    have h1:=stpB_fr hv hk hg
    refine ⟨h.fr,turnN t k h.fr,⟨(h.to:Int),h.ch⟩,?_,?_,by simp⟩
    · rw [turn_stg (by omega)]
      unfold turnL
      rw [List.getElem?_map,List.getElem?_range h1.1]; rfl
    · refine List.mem_map.2 ⟨h,List.mem_filter.2 ⟨?_,by simp⟩,rfl⟩
      unfold hopsB; rw [if_pos hk]; exact hg
theorem turn_valid (hv:valid t) (hb:big (turnT t)=false):valid (turnT t):=by
  refine ⟨by rw [turn_len]; exact hv.1,by rw [turn_len]; exact hv.2.1,fun k hk=>?_⟩
  rw [turn_len] at hk
  obtain ⟨v1,v2,v3⟩:=valid_stg hv (show t.length - 1 - k < t.length by omega)
  have hw:=turn_wd hk
  refine ⟨?_,?_,fun x hx=>?_⟩
  · have:((turnT t).getD k []).length=wd t (t.length - 1 - k):=hw
    have h2:wd t (t.length - 1 - k)=(t.getD (t.length - 1 - k) []).length:=rfl
    omega
  · have:((turnT t).getD k []).length=wd t (t.length - 1 - k):=hw
    have h2:wd t (t.length - 1 - k)=(t.getD (t.length - 1 - k) []).length:=rfl
    omega
  · obtain ⟨i,hi⟩:=List.mem_iff_getElem?.1 hx
    obtain ⟨hiw,rfl⟩:=turn_nod hk hi
    have hk':(turnT t)[k]?=some ((turnT t).getD k []):=getD_some (by rw [turn_len]; exact hk)
    have hn:=List.any_eq_false.1 (big_f hb (List.mem_of_getElem? hk')) _ hx
    unfold bigN at hn
    simp only [Bool.or_eq_true,decide_eq_true_eq,not_or] at hn
    have hal:=v3 _ (List.mem_of_getElem? (getD_some (d:=⟨[],[]⟩) (show i < (t.getD (t.length - 1 - k) []).length from hiw)))
    refine ⟨hal.1,by omega,fun e he=>?_⟩
    obtain ⟨g,hg,rfl⟩:=List.mem_map.1 he
    have hg:=(List.mem_filter.1 hg).1
    unfold hopsB at hg
    split at hg
    · rename_i hk1
      obtain ⟨g1,g2,g3⟩:=stpB_fr hv hk1 hg
      refine ⟨by simp only; omega,?_,g3⟩
      rw [turn_wd hk1,show t.length - 1 - (k+1)=t.length - 2 - k by omega]
      simp only
      omega
    · simp at hg
theorem rev_get {c:List At} {i:Nat} (h:i < c.length):c.reverse[i]?=c[c.length - 1 - i]?:=by
  rw [List.getElem?_reverse h]
theorem turn_place (hv:valid t) {k:Nat} (hk:k < t.length) {a:At}:placeOk (turnT t) k a↔placeOk t (t.length - 1 - k) a:=by
  unfold placeOk
  rw [turn_wd hk,turn_als hk]; rfl
theorem turn_step (hv:valid t) {k:Nat} (hk:k+1 < t.length) {a b:At}:stepOk (turnT t) k a b↔stepOk t (t.length - 2 - k) b a:=by
  unfold stepOk
  constructor
  · rintro ⟨h,hh,h1,h2,h3,h4⟩
    rw [turn_stp hv hk] at hh
    obtain ⟨g,hg,rfl⟩:=List.mem_map.1 hh
    unfold Hop.flip at h1 h2 h3 h4
    simp only at h1 h2 h3 h4
    exact ⟨g,hg,h2,h1,by omega,by omega⟩
  · rintro ⟨g,hg,h1,h2,h3,h4⟩
    refine ⟨g.flip,(turn_stp hv hk).2 (List.mem_map.2 ⟨g,hg,rfl⟩),h2,h1,?_,?_⟩
    · unfold Hop.flip; simp only; omega
    · unfold Hop.flip; simp only; omega
theorem turn_course1 (hv:valid t) {c:List At} (h:course t c):course (turnT t) c.reverse:=by
  rw [course_iff] at h ⊢
  rw [turn_len]
  refine ⟨by rw [List.length_reverse]; exact h.1,fun i a ha=>?_⟩
  have hi:i < c.length:=by have:=(List.getElem?_eq_some_iff.1 ha).1; rwa [List.length_reverse] at this
  rw [rev_get hi] at ha
  obtain ⟨p,_⟩:=h.2 _ _ ha
  refine ⟨(turn_place hv (by omega)).2 (by rw [← h.1]; exact p),fun b hb=>?_⟩
  have hi1:i+1 < c.length:=by have:=(List.getElem?_eq_some_iff.1 hb).1; rwa [List.length_reverse] at this
  rw [rev_get hi1] at hb
  rw [turn_step hv (by omega)]
  have:=(h.2 _ _ hb).2 a (by rw [show c.length - 1 - (i+1)+1=c.length - 1 - i by omega]; exact ha)
  rwa [show t.length - 2 - i=c.length - 1 - (i+1) by omega]
theorem turn_course (hv:valid t) {c:List At}:course (turnT t) c.reverse↔course t c:=by
  refine ⟨fun h=>?_,turn_course1 hv⟩
  rw [course_iff] at h ⊢
  rw [turn_len,List.length_reverse] at h
  refine ⟨h.1,fun i a ha=>?_⟩
  have hi:i < c.length:=(List.getElem?_eq_some_iff.1 ha).1
  have ha':c.reverse[c.length - 1 - i]?=some a:=by rw [rev_get (by omega),show c.length - 1 - (c.length - 1 - i)=i by omega]; exact ha
  refine ⟨?_,fun b hb=>?_⟩
  · have:=(h.2 _ _ ha').1
    rw [turn_place hv (by omega),show t.length - 1 - (c.length - 1 - i)=i by omega] at this
    exact this
  · have hi1:i+1 < c.length:=(List.getElem?_eq_some_iff.1 hb).1
    have hb':c.reverse[c.length - 1 - (i+1)]?=some b:=by rw [rev_get (by omega),show c.length - 1 - (c.length - 1 - (i+1))=i+1 by omega]; exact hb
    have:=(h.2 _ _ hb').2 a (by rw [show c.length - 1 - (i+1)+1=c.length - 1 - i by omega]; exact ha')
    rw [turn_step hv (by omega),show t.length - 2 - (c.length - 1 - (i+1))=i by omega] at this
    exact this
theorem onto_same {hs hs':List Hop} {cur al:List (List Sp)} (hc:goods cur) (h:∀ g,g∈hs↔g∈hs') (hh:∀ g∈hs,g.ch.lo≤g.ch.hi):onto hs cur al=onto hs' cur al:=by
  unfold onto
  refine List.map_congr_left fun j _=>?_
  unfold onto1
  congr 1
  refine Norm.ext (joins0_norm _) (joins0_norm _) fun v=>?_
  rw [joins0_mem,joins0_mem,into_mem hc hh,into_mem hc fun g hg=>hh g ((h g).2 hg)]
  exact exists_congr fun g=>and_congr_left fun _=>h g
theorem turn_fwd (hv:valid t):∀ k,k < t.length→fwd (turnT t) k=bwdB t k
  | 0,hk=>turn_als hk
  | k+1,hk=>by
    have ih:=turn_fwd hv k (by omega)
    show onto (stp (turnT t) k) (fwd (turnT t) k) (als (turnT t) (k+1))=onto (stpB t k) (bwdB t k) (alsB t (k+1))
    rw [ih,turn_als hk]
    exact onto_same (bwdB_goods hv k) (fun g=>turn_stp hv hk) fun g hg=>stpB_ch hv k g ((turn_stp hv hk).1 hg)
end
def c65:CF:=⟨82,
 (.seq (.ops [
 ⟨some 1,.box false 24 1 (.t 0),none⟩,
 ⟨some 2,.alloc 24 1 [.slice none 0 0],none⟩,
 ⟨some 3,.mv (.c (.int .i64 0)),none⟩] [1,2])
 (.seq (.seq (.ops [
 ⟨some 13,.load (some 1) (.t 1),none⟩,
 ⟨some 14,.call (.f 53) [(.t 13)],none⟩,
 ⟨some 4,.mv (.t 14),none⟩] [1,2,4])
 (.seq (.ops [
 ⟨some 15,.mv (.t 4),none⟩,
 ⟨some 16,.bin .neq (.t 15) (.c (.int .i64 0)),none⟩] [1,2,4,16])
 (.cond (.t 16) (.seq (.ops [
 ⟨some 17,.build [.slice none 0 0] [],none⟩,
 ⟨some 18,.mv (.t 4),none⟩,
 ⟨none,.store 1 (.t 2) (.t 17),none⟩,
 ⟨some 3,.mv (.t 18),none⟩] [2,3])
 .ret)
 .skip)))
 (.seq (.ops [
 ⟨some 5,.alloc 24 1 [.slice none 0 0],none⟩] [1,2,5])
 (.seq (.ops [
 ⟨some 19,.load (some 1) (.t 1),none⟩,
 ⟨some 20,.build [.slice none 0 0] [(0,1,(.t 19))],none⟩,
 ⟨some 6,.alloc 133 1 [.slice none 0 0],none⟩,
 ⟨none,.store 1 (.t 6) (.t 20),none⟩] [1,2,5,6])
 (.seq (.seq (.ops [
 ⟨some 21,.faddr 0 (.t 1),none⟩,
 ⟨some 22,.load none (.t 21),none⟩,
 ⟨some 23,.len (.t 22),none⟩,
 ⟨some 24,.mv (.c (.int .i64 0)),none⟩] [1,2,5,6,23,24])
 (.block 0 (.loop (.seq (.ops [
 ⟨some 25,.bin .lss (.t 24) (.t 23),none⟩] [1,2,5,6,23,24,25])
 (.seq (.cond (.t 25) .skip
 (.exit 0))
 (.seq (.block 1 (.seq (.ops [
 ⟨some 26,.mv (.t 24),none⟩,
 ⟨some 7,.mv (.t 26),none⟩] [1,2,5,6,7,23,24])
 (.seq (.ops [
 ⟨some 8,.alloc 68 1 [.slice none 0 0],none⟩] [1,2,5,6,7,8,23,24])
 (.seq (.seq (.ops [
 ⟨some 27,.load (some 1) (.t 6),none⟩,
 ⟨some 28,.mv (.t 7),none⟩,
 ⟨some 29,.call (.f 128) [(.t 27),(.t 28)],none⟩,
 ⟨some 30,.len (.t 29),none⟩,
 ⟨some 31,.mv (.c (.int .i64 0)),none⟩] [1,2,5,6,7,8,23,24,29,30,31])
 (.block 2 (.loop (.seq (.ops [
 ⟨some 32,.bin .lss (.t 31) (.t 30),none⟩] [1,2,5,6,7,8,23,24,29,30,31,32])
 (.seq (.cond (.t 32) .skip
 (.exit 2))
 (.seq (.block 3 (.seq (.ops [
 ⟨some 33,.iaddr 2 (.t 29) (.t 31),none⟩,
 ⟨some 34,.load (some 2) (.t 33),none⟩,
 ⟨some 10,.alloc 80 2 [.slice none 0 0,.slice none 0 0],none⟩,
 ⟨none,.store 2 (.t 10) (.t 34),none⟩] [1,2,5,6,7,8,10,23,24,29,30,31])
 (.draw [
 ⟨some 35,.load none (.t 8),none⟩,
 ⟨some 36,.faddr 0 (.t 10),none⟩,
 ⟨some 37,.load none (.t 36),none⟩,
 ⟨some 38,.call (.f 129) [(.t 37)],none⟩,
 ⟨some 39,.build [.slice none 0 0,.slice none 0 0] [(0,1,(.t 38))],none⟩,
 ⟨some 40,.bsl false 80 2 1 [.slice none 0 0,.slice none 0 0] [(0,2,(.t 39))],none⟩] [
 ⟨some 41,.app 80 2 48 (.t 35) (.t 40),none⟩,
 ⟨none,.store 1 (.t 8) (.t 41),none⟩] [1,2,5,6,7,8,23,24,29,30,31])))
 (.ops [
 ⟨some 42,.bin .add (.t 31) (.c (.int .i64 1)),none⟩,
 ⟨some 31,.mv (.t 42),none⟩] [1,2,5,6,7,8,23,24,29,30,31])))))))
 (.seq (.seq (.ops [
 ⟨some 43,.mv (.t 7),none⟩,
 ⟨some 44,.bin .add (.t 43) (.c (.int .i64 1)),none⟩,
 ⟨some 45,.faddr 0 (.t 1),none⟩,
 ⟨some 46,.load none (.t 45),none⟩,
 ⟨some 47,.len (.t 46),none⟩,
 ⟨some 48,.bin .lss (.t 44) (.t 47),none⟩] [1,2,5,6,7,8,23,24,48])
 (.cond (.t 48) (.seq (.ops [
 ⟨some 49,.load (some 1) (.t 6),none⟩,
 ⟨some 50,.mv (.t 7),none⟩,
 ⟨some 51,.call (.f 130) [(.t 49),(.t 50)],none⟩] [1,2,5,6,8,23,24,51])
 (.block 4 (.rng (.t 51) [52,53] (.seq (.ops [
 ⟨some 11,.alloc 130 2 [.int .i64 0,.int .i64 0],none⟩,
 ⟨none,.store 2 (.t 11) (.t 52),none⟩] [1,2,5,6,8,11,23,24,53])
 (.ops [
 ⟨some 12,.alloc 30 2 [.int .i64 0,.int .i64 0],none⟩,
 ⟨none,.store 2 (.t 12) (.t 53),none⟩] [1,2,5,6,8,11,12,23,24]))
 (.block 5 (.draww [0,1,2,3,4,5,6,7,8,9,10,11,12,13,14,15,16,17] [0,1,2] 1 [
 ⟨some 54,.load none (.t 8),none⟩,
 ⟨some 55,.faddr 0 (.t 11),none⟩,
 ⟨some 56,.load none (.t 55),none⟩,
 ⟨some 57,.load none (.t 8),none⟩,
 ⟨some 58,.faddr 0 (.t 11),none⟩,
 ⟨some 59,.load none (.t 58),none⟩,
 ⟨some 60,.iaddr 2 (.t 57) (.t 59),none⟩,
 ⟨some 61,.faddr 1 (.t 60),none⟩,
 ⟨some 62,.load none (.t 61),none⟩,
 ⟨some 63,.faddr 1 (.t 11),none⟩,
 ⟨some 64,.load none (.t 63),none⟩,
 ⟨some 65,.load (some 2) (.t 12),none⟩,
 ⟨some 66,.build [.int .i64 0,.int .i64 0,.int .i64 0] [(0,1,(.t 64)),(1,2,(.t 65))],none⟩,
 ⟨some 67,.bsl false 124 3 1 [.int .i64 0,.int .i64 0,.int .i64 0] [(0,3,(.t 66))],none⟩] [
 ⟨some 68,.app 124 3 24 (.t 62) (.t 67),none⟩,
 ⟨some 69,.iaddr 2 (.t 54) (.t 56),none⟩,
 ⟨some 70,.faddr 1 (.t 69),none⟩,
 ⟨none,.store 1 (.t 70) (.t 68),none⟩] [1,2,5,6,8,23,24])))))
 .skip))
 (.ops [
 ⟨some 71,.faddr 0 (.t 5),none⟩,
 ⟨some 72,.load none (.t 71),none⟩,
 ⟨some 73,.load none (.t 8),none⟩,
 ⟨some 74,.bsl false 68 1 1 [.slice none 0 0] [(0,1,(.t 73))],none⟩,
 ⟨some 75,.app 68 1 24 (.t 72) (.t 74),none⟩,
 ⟨some 76,.faddr 0 (.t 5),none⟩,
 ⟨none,.store 1 (.t 76) (.t 75),none⟩] [1,2,5,6,23,24]))))))
 (.ops [
 ⟨some 77,.bin .add (.t 24) (.c (.int .i64 1)),none⟩,
 ⟨some 24,.mv (.t 77),none⟩] [1,2,5,6,23,24])))))))
 (.seq (.ops [
 ⟨some 78,.load (some 1) (.t 5),none⟩,
 ⟨some 79,.call (.f 100) [(.t 78)],none⟩,
 ⟨some 80,.ext 0 (.t 79),none⟩,
 ⟨some 81,.ext 1 (.t 79),none⟩,
 ⟨none,.store 1 (.t 2) (.t 80),none⟩,
 ⟨some 3,.mv (.t 81),none⟩] [2,3])
 .ret)))))),
 [.c 2 (some 1),.t 3]⟩
theorem k65:chkF Tryz.prog Tryz.f65 c65=true:=by kernel_rfl
section
variable {P:Program} {N0:Nat} {rd:Option Nat} {K:Kont} {env:Env} {σ:Sto} {c:C}
theorem AWPC.rows2 {A N T T' k':Nat} {f:Nat→AV} (ho:σ.at A 0=some ⟨T,2,(List.range N).map fun i=>[f i,.v (.slice none 0 0)],none⟩)
    (h:∀ σ':Sto,σ'.length=σ.length+N→σ'.at A 0=some ⟨T,2,(List.range N).map fun i=>[f i,.own (σ.length+i) 0 0],none⟩→(∀ i,i < N→σ'.at (σ.length+i) 0=some ⟨T',k',[],none⟩) →
      (∀ i,i < σ.length→i≠A→σ'.at i 0=σ.at i 0)→AWPC P N0 rd c K env σ'):AWPC P N0 rd c K env σ:=by
  have hA:=at_lt ho
  have main:∀ j,j≤N→∀ σ':Sto,σ'.length=σ.length+(N - j)→σ'.at A 0=some ⟨T,2,(List.range N).map fun i=>[f i,if i < N - j then .own (σ.length+i) 0 0 else .v (.slice none 0 0)],none⟩ →
      (∀ i,i < N - j→σ'.at (σ.length+i) 0=some ⟨T',k',[],none⟩)→(∀ i,i < σ.length→i≠A→σ'.at i 0=σ.at i 0)→AWPC P N0 rd c K env σ':=by
    intro j
    induction j with
    | zero =>
      intro _ σ' h1 h2 h3 h4
      refine h σ' h1 ?_ h3 h4
      rw [h2]
      exact congrArg (fun z=>some (⟨T,2,z,none⟩:Ob)) (range_congr fun i hi=>by rw [if_pos (by omega)])
    | succ j ih =>
      intro hj σ' h1 h2 h3 h4
      obtain ⟨m,hm⟩:∃ m,N - j=m+1:=⟨N - j - 1,by omega⟩
      rw [show N - (j+1)=m by omega] at h1 h2 h3
      rw [hm] at ih
      refine AWPC.own0c T' k' (f:=A) (i:=0) (e:=m) (j:=1) h2 (by simp; omega) (by rw [range_get _ (show m < N by omega)]; simp) ?_
      refine ih (by omega) _ ?_ ?_ (fun i hi=>?_) fun i hi hiA=>?_
      · rw [upd_length,List.length_append,h1]; simp; omega
      · rw [at_upd_same (by rw [at_appL (at_lt h2)]; exact h2)]
        simp only
        rw [range_get _ (show m < N by omega),range_set]
        refine congrArg (fun z=>some (⟨T,2,z,none⟩:Ob)) (range_congr fun i hi=>?_)
        by_cases hi2:i=m
        · subst hi2; simp [h1]
        · have:(i < m)↔(i < m+1):=by omega
          simp [hi2,this]
      · rw [at_upd_other (.inl (by omega))]
        by_cases hi2:i=m
        · subst hi2
          rw [← h1,at_app0]; rfl
        · rw [at_appL (by omega)]; exact h3 i (by omega)
      · rw [at_upd_other (.inl fun e=>hiA e.symm),at_appL (by omega)]; exact h4 i hi hiA
  exact main N (Nat.le_refl _) σ (by omega) (by rw [ho]; exact congrArg (fun z=>some (⟨T,2,z,none⟩:Ob)) (range_congr fun i hi=>by rw [if_neg (by omega)])) (fun i hi=>by omega) fun _ _ _=>rfl
theorem AWPC.freezeRows2 {A G N T T' k':Nat} {f:Nat→AV} {R:Nat→List (List AV)} (hk0:k'≠0) (ho:σ.at A 0=some ⟨T,2,(List.range N).map fun i=>[f i,.own (G+i) 0 (R i).length],none⟩)
    (hr:∀ i,i < N→σ.at (G+i) 0=some ⟨T',k',R i,none⟩) (hA:A < G)
    (h:∀ σ':Sto,σ'.length=σ.length→σ'.at A 0=some ⟨T,2,(List.range N).map fun i=>[f i,.sl k' (R i)],none⟩ →
      (∀ i,i≠A→(∀ c,c < N→i≠G+c)→σ'.at i 0=σ.at i 0)→AWPC P N0 rd c K env σ'):AWPC P N0 rd c K env σ:=by
  have main:∀ j,j≤N→∀ σ':Sto,σ'.length=σ.length→σ'.at A 0=some ⟨T,2,(List.range N).map fun i=>[f i,if i < N - j then .sl k' (R i) else .own (G+i) 0 (R i).length],none⟩ →
      (∀ i,N - j≤i→i < N→σ'.at (G+i) 0=some ⟨T',k',R i,none⟩)→(∀ i,i≠A→(∀ c,c < N→i≠G+c)→σ'.at i 0=σ.at i 0)→AWPC P N0 rd c K env σ':=by
    intro j
    induction j with
    | zero =>
      intro _ σ' h1 h2 h3 h4
      refine h σ' h1 ?_ h4
      rw [h2]
      exact congrArg (fun z=>some (⟨T,2,z,none⟩:Ob)) (range_congr fun i hi=>by rw [if_pos (by omega)])
    | succ j ih =>
      intro hj σ' h1 h2 h3 h4
      obtain ⟨m,hm⟩:∃ m,N - j=m+1:=⟨N - j - 1,by omega⟩
      rw [show N - (j+1)=m by omega] at h2 h3
      rw [hm] at ih
      refine AWPC.freezeC (f:=G+m) (n:=(R m).length) (h:=A) (e:=m) (j:=1) (h3 m (Nat.le_refl _) (by omega)) rfl hk0 h2 (by omega) rfl (by simp; omega) (by rw [range_get _ (show m < N by omega)]; simp) ?_
      have hg:∀ i,i≠G+m→(gone σ' (G+m)).at i 0=σ'.at i 0:=fun i hi=>at_gone' hi
      refine ih (by omega) _ ?_ ?_ (fun i hi hi2=>?_) fun i hi hi2=>?_
      · rw [upd_length,← h1]; simp [gone]
      · rw [at_upd_same (by rw [hg _ (by omega)]; exact h2)]
        simp only
        rw [range_get _ (show m < N by omega),range_set]
        refine congrArg (fun z=>some (⟨T,2,z,none⟩:Ob)) (range_congr fun i hi=>?_)
        by_cases hi2:i=m
        · subst hi2; simp
        · have:(i < m)↔(i < m+1):=by omega
          simp [hi2,this]
      · rw [at_upd_other (.inl (by omega)),hg _ (by omega)]; exact h3 i (by omega) hi2
      · rw [at_upd_other (.inl fun e=>hi e.symm),hg _ (hi2 m (by omega))]; exact h4 i hi hi2
  refine main N (Nat.le_refl _) σ rfl (by rw [ho]; exact congrArg (fun z=>some (⟨T,2,z,none⟩:Ob)) (range_congr fun i hi=>by rw [if_neg (by omega)])) (fun i _ hi=>hr i hi) fun _ _ _=>rfl
end
def ColsE (σ:Sto) (A G N:Nat) (f:Nat→AV) (R:Nat→List Edg):Prop :=
  σ.at A 0=some ⟨80,2,(List.range N).map fun (j:Nat)=>[f j,.own (G+j) 0 (R j).length],none⟩∧∀ j,j < N→σ.at (G+j) 0=some ⟨124,3,(R j).map Edg.cs,none⟩
theorem ColsE.congr {σ:Sto} {A G N:Nat} {f:Nat→AV} {R R':Nat→List Edg} (h:ColsE σ A G N f R) (hR:∀ j,j < N→R' j=R j):ColsE σ A G N f R':=by
  refine ⟨?_,fun j hj=>by rw [hR j hj]; exact h.2 j hj⟩
  rw [h.1]
  exact congrArg (fun z=>some (⟨80,2,z,none⟩:Ob)) (range_congr fun j hj=>by rw [hR j hj])
def putE (σ:Sto) (A G N c:Nat) (f:Nat→AV) (R:Nat→List Edg) (l:List Edg):Sto :=
  (σ.upd (G+c) 0 ⟨124,3,l.map Edg.cs,none⟩).upd A 0 ⟨80,2,((List.range N).map fun (j:Nat)=>[f j,AV.own (G+j) 0 (R j).length]).set c [f c,.own (G+c) 0 l.length],none⟩
theorem putE_len {σ:Sto} {A G N c:Nat} {f:Nat→AV} {R:Nat→List Edg} {v:List Edg}:(putE σ A G N c f R v).length=σ.length:=by rw [putE,upd_length,upd_length]
theorem putE_at {σ:Sto} {A G N c:Nat} {f:Nat→AV} {R:Nat→List Edg} {v:List Edg} {i:Nat} (h:i≠A) (h':i≠G+c):(putE σ A G N c f R v).at i 0=σ.at i 0:=by
  rw [putE,at_upd_other (.inl fun e=>h e.symm),at_upd_other (.inl fun e=>h' e.symm)]
theorem putE_one {σ:Sto} {A G N c:Nat} {f:Nat→AV} {R:Nat→List Edg} {v:List Edg} (h:ColsE σ A G N f R) (hAG:A < G) (hc:c < N):ColsE (putE σ A G N c f R v) A G N f (fun j=>if j=c then v else R j):=by
  have h1:(σ.upd (G+c) 0 ⟨124,3,v.map Edg.cs,none⟩).at A 0=some ⟨80,2,(List.range N).map fun (j:Nat)=>[f j,.own (G+j) 0 (R j).length],none⟩:=by rw [at_upd_other (.inl (by omega))]; exact h.1
  refine ⟨?_,fun j hj=>?_⟩
  · rw [putE,at_upd_same h1,range_set]
    refine congrArg (fun z=>some (⟨80,2,z,none⟩:Ob)) (range_congr fun j hj=>?_)
    by_cases hjc:j=c
    · subst hjc; simp
    · simp [hjc]
  · rw [putE,at_upd_other (.inl (by omega))]
    by_cases hjc:j=c
    · subst hjc; rw [at_upd_same (h.2 j hj)]; simp
    · rw [at_upd_other (.inl (by omega)),h.2 j hj]; simp [hjc]
def turnR1 (H:List Hop) (j:Nat):List Edg:=(H.filter fun h=>h.fr == j).map fun h=>⟨(h.to:Int),h.ch⟩
theorem turnR1_len (H:List Hop) (j:Nat):(turnR1 H j).length≤H.length:=by
  unfold turnR1; rw [List.length_map]; exact List.length_filter_le _ _
theorem turnR1_next {H:List Hop} {m:Nat} {h:Hop} (e:H[m]?=some h) (j:Nat):turnR1 (H.take (m+1)) j=if j=h.fr then turnR1 (H.take m) j++[⟨(h.to:Int),h.ch⟩] else turnR1 (H.take m) j:=by
  rw [take_snoc e]
  unfold turnR1
  rw [List.filter_append,List.map_append]
  by_cases hj:j=h.fr
  · subst hj; simp
  · have:¬ h.fr=j:=fun e=>hj e.symm
    simp [hj,this]
noncomputable def turnE (t:Trk):Int:=if tr (valid t)=true then (if big (turnT t)=true then 2 else 0) else 40
noncomputable def turnR (t:Trk):Trk:=if turnE t=0 then turnT t else []
structure TurnO (t:Trk) (k:Nat) (τ:Sto):Prop where
  a0:τ.at 0 0=some ⟨24,1,[[.v (.slice none 0 0)]],none⟩
  a1:τ.at 1 0=some ⟨24,1,[[.own 3 0 k]],none⟩
  a2:τ.at 2 0=some ⟨133,1,[[tkS t]],none⟩
  a3:τ.at 3 0=some ⟨68,1,(List.range k).map fun j=>[stS (turnL t j)],none⟩
theorem TurnO.frame {t:Trk} {k:Nat} {τ τ':Sto} (h:TurnO t k τ) (h':∀ i,i < 4→τ'.at i 0=τ.at i 0):TurnO t k τ' :=
  ⟨by rw [h' 0 (by omega)]; exact h.a0,by rw [h' 1 (by omega)]; exact h.a1,by rw [h' 2 (by omega)]; exact h.a2,by rw [h' 3 (by omega)]; exact h.a3⟩
inductive TurnI (t:Trk) (k A G N:Nat) (f:Nat→AV) (env:Env) (σ:Sto):Prop
  | mk (h:Sub [(1,.iptr [tkS t] 0),(2,.ptr 0 0 1 0 0),(5,.ptr 1 0 1 0 0),(6,.ptr 2 0 1 0 0),(8,.ptr A 0 1 0 0),(23,n (t.length:Int)),(24,n (k:Int))] env)
      (hc:ColsE σ (A+1) G N f (turnR1 (hopsB t k))) (hA:σ.at A 0=some ⟨68,1,[[.own (A+1) 0 N]],none⟩) (ho:TurnO t k σ)
theorem turnT_sz {t:Trk} (hv:valid t):trkSz (turnT t):=by
  refine ⟨by rw [turn_len]; have:=hv.2.1; omega,fun L hL=>?_⟩
  obtain ⟨k,hk,rfl⟩:=List.mem_map.1 hL
  have hk:=List.mem_range.1 hk
  have hw:=wd_le hv (t.length - 1 - k)
  refine ⟨by unfold turnL; rw [List.length_map,List.length_range]; omega,fun x hx=>?_⟩
  obtain ⟨i,hi,rfl⟩:=List.mem_map.1 hx
  have hi:=List.mem_range.1 hi
  have h2:=(valid_stg hv (show t.length - 1 - k < t.length by omega)).2.2 _ (List.mem_of_getElem? (getD_some (d:=⟨[],[]⟩) (show i < (t.getD (t.length - 1 - k) []).length from hi)))
  refine ⟨?_,?_⟩
  · have:=h2.1.1
    show (turnN t k i).al.length < 9223372036854775808
    unfold turnN; simp only; omega
  · have h3:=turnR1_len (hopsB t k) i
    have h4:(hopsB t k).length≤256000:=by
      unfold hopsB
      split
      · unfold stpB; rw [List.length_map]; exact stp_len hv (by omega)
      · simp
    show (turnR1 (hopsB t k) i).length < 9223372036854775808
    omega
theorem Turn_spec (t:Trk) (hs:trkSz t):Pure Tryz.prog 65 [trS t] (.tup [trS (turnR t),n (turnE t)]):=by
  refine Pure.of_body Tryz.call65 Tryz.func65 k65 (Nat.le_of_ble_eq_true rfl) ?_
  unfold c65
  have hck:=Check_spec t hs
  by_cases hv:valid t
  case neg =>
    have e1:turnE t=40:=by unfold turnE; rw [tr_0 hv]; rfl
    have e2:turnR t=[]:=by unfold turnR; rw [e1]; rfl
    rw [e1,e2]
    rw [tr_0 hv] at hck
    simp only [Bool.false_eq_true,if_false] at hck
    (repeat' ((first
 | refine vn rfl ?_
 | simp (disch:=omega) only [wr64,Int.zero_sub]
 | refine bo (fun _=>?_) fun _=>?_
 | refine im fun _=>?_
 | ((repeat refine si ?_); (first | ((first | refine .inl ⟨_,_,_,_,rfl,fun _=>pu hck,?_⟩ | refine ⟨_,_,_,_,rfl,fun _=>pu hck,?_⟩); (first | refine o1 ?_ | refine o2 ?_ | refine o3 ?_ | refine o4 ?_)) | refine .inl ⟨_,_,_,_,rfl,pu hck,?_⟩))
 | refine cF ?_
 | refine om ?_
 | refine an ?_
 | fail) <;> try simp only [zT,zV,zS,zU,vcC,lateX,ex,strp,binA,elems,cells,scalar,eqC,keyA,intsA,lookA,ofVs,mpOf,Nat.reduceBEq,reduceAdd,reduceSub,reduceLT,reduceLeDiff,reduceMul,reduceEqDiff,reduceIte]))
    all_goals try (exfalso; omega)
    all_goals exact frz2 frz_aggnil (by simp)
  rw [tr_1 hv] at hck
  simp only [if_true] at hck
  have h2:=hv.2.1
  (repeat' ((first
 | refine vn rfl ?_
 | simp (disch:=omega) only [wr64,Int.zero_sub]
 | refine bo (fun _=>?_) fun _=>?_
 | refine im fun _=>?_
 | ((repeat refine si ?_); (first | ((first | refine .inl ⟨_,_,_,_,rfl,fun _=>pu hck,?_⟩ | refine ⟨_,_,_,_,rfl,fun _=>pu hck,?_⟩); (first | refine o1 ?_ | refine o2 ?_ | refine o3 ?_ | refine o4 ?_)) | refine .inl ⟨_,_,_,_,rfl,pu hck,?_⟩))
 | refine cF ?_
 | refine om ?_
 | refine an ?_
 | fail) <;> try simp only [zT,zV,zS,zU,vcC,lateX,ex,strp,binA,elems,cells,scalar,eqC,keyA,intsA,lookA,ofVs,mpOf,Nat.reduceBEq,reduceAdd,reduceSub,reduceLT,reduceLeDiff,reduceMul,reduceEqDiff,reduceIte]))
  all_goals try (exfalso; omega)
  refine AWPC.own0c 68 1 (f:=1) (i:=0) (e:=0) (j:=0) rfl (by simp) rfl ?_
  refine AWPC.loopE (α:={ x:Nat × Sto // x.1≤t.length∧TurnO t x.1 x.2 }) [24] (fun x=>[(24,n x.1.1)]) (fun x=>x.1.2) (fun x=>t.length - x.1.1) ⟨(0,_),Nat.zero_le _,⟨rfl,rfl,rfl,rfl⟩⟩ ?_ rfl ?_
  · (simp only [zT,zV,zS,zU,vcC,lateX,ex,strp,binA,elems,cells,scalar,eqC,keyA,intsA,lookA,ofVs,mpOf,Nat.reduceBEq,reduceAdd,reduceSub,reduceLT,reduceLeDiff,reduceMul,reduceEqDiff,reduceIte]; try simp)
  rintro ⟨⟨k,τ⟩,hk,hO⟩
  simp only at hk hO
  simp only
  have l3:=at_lt hO.a3
  have b0:∀ ν,Sto.at (τ++ν) 0 0=some ⟨24,1,[[.v (.slice none 0 0)]],none⟩:=fun ν=>by rw [at_appL (by omega)]; exact hO.a0
  have b1:∀ ν,Sto.at (τ++ν) 1 0=some ⟨24,1,[[.own 3 0 k]],none⟩:=fun ν=>by rw [at_appL (by omega)]; exact hO.a1
  have b2:∀ ν,Sto.at (τ++ν) 2 0=some ⟨133,1,[[tkS t]],none⟩:=fun ν=>by rw [at_appL (by omega)]; exact hO.a2
  by_cases hlt:k < t.length
  · have hbn:=back_nodes t k hs.1 hlt
    have hbs:=back_steps t (k:Int)
    obtain ⟨v1,v2,v3⟩:=valid_stg hv (show t.length - 1 - k < t.length by omega)
    have hwd:wd t (t.length - 1 - k)=(t.getD (t.length - 1 - k) []).length:=rfl
    have htl:turnL t k=(List.range (t.getD (t.length - 1 - k) []).length).map (turnN t k):=rfl
    have htn:∀ i,turnN t k i=⟨((t.getD (t.length - 1 - k) []).getD i ⟨[],[]⟩).al,turnR1 (hopsB t k) i⟩:=fun i=>rfl
    have hfr:∀ g∈hopsB t k,g.fr < (t.getD (t.length - 1 - k) []).length:=fun g hg=>by
      unfold hopsB at hg
      split at hg
      · rename_i h; exact (stpB_fr hv h hg).1
      · simp at hg
    have hHl:(hopsB t k).length≤256000:=by
      unfold hopsB
      split
      · unfold stpB; rw [List.length_map]; exact stp_len hv (by omega)
      · simp
    have hHe:k+1 < t.length→hopsB t k=stpB t k:=fun h=>by unfold hopsB; rw [if_pos h]
    have hHn:¬ k+1 < t.length→hopsB t k=[]:=fun h=>by unfold hopsB; rw [if_neg h]
    generalize hL:t.getD (t.length - 1 - k) []=L at *
    (repeat' ((first
 | refine vn rfl ?_
 | simp (disch:=omega) only [wr64,Int.zero_sub]
 | refine bo (fun _=>?_) fun _=>?_
 | refine im fun _=>?_
 | ((repeat refine si ?_); (first | ((first | refine .inl ⟨_,_,_,_,rfl,fun _=>pu hbn,?_⟩ | refine ⟨_,_,_,_,rfl,fun _=>pu hbn,?_⟩); (first | refine o1 ?_ | refine o2 ?_ | refine o3 ?_ | refine o4 ?_)) | refine .inl ⟨_,_,_,_,rfl,pu hbn,?_⟩))
 | refine cF ?_
 | refine om ?_
 | refine an ?_
 | fail) <;> try simp only [zT,zV,zS,zU,vcC,lateX,ex,strp,binA,elems,cells,scalar,eqC,keyA,intsA,lookA,ofVs,mpOf,Nat.reduceBEq,reduceAdd,reduceSub,reduceLT,reduceLeDiff,reduceMul,reduceEqDiff,reduceIte,b2]))
    all_goals try (exfalso; omega)
    obtain ⟨A,hA⟩:∃ A,A=List.length τ:=⟨_,rfl⟩
    refine AWPC.own0c 80 2 (f:=List.length τ) (i:=0) (e:=0) (j:=0) (by rw [at_app0]; rfl) (by simp) rfl ?_
    rw [List.append_assoc,List.singleton_append,upd_app0,show List.length (τ++[some [⟨68,1,[[AV.v (Value.slice none 0 0)]],none⟩]]:Sto)=A+1 by rw [hA]; simp]
    have c0:∀ a X,Sto.at (τ++(a::X)) A 0=Sto.at (a::X) 0 0:=fun a X=>by rw [hA,at_app0]
    have c0u:∀ a X o,Sto.upd (τ++(a::X)) A 0 o=τ++Sto.upd (a::X) 0 0 o:=fun a X o=>by rw [hA,upd_app0]
    have c1:∀ a X,Sto.at (τ++(a::X)) (A+1) 0=Sto.at X 0 0:=fun a X=>by rw [hA,at_app,at_consS]
    have c1u:∀ a X o,Sto.upd (τ++(a::X)) (A+1) 0 o=τ++(a::Sto.upd X 0 0 o):=fun a X o=>by rw [hA,upd_app,upd_consS]
    have c2:∀ a b (ν X:Sto),Sto.at (τ++(a::b::(ν++X))) (A+(List.length ν+2)) 0=Sto.at X 0 0:=fun a b ν X=>by rw [hA,at_app,at_consS,at_consS,at_app0]
    have c2u:∀ a b (ν X:Sto) o,Sto.upd (τ++(a::b::(ν++X))) (A+(List.length ν+2)) 0 o=τ++(a::b::(ν++Sto.upd X 0 0 o)):=fun a b ν X o=>by rw [hA,upd_app,upd_consS,upd_consS,upd_app0]
    rw [← hA]
    refine AWPC.loopE (α:={ x:Nat × Sto // x.1≤L.length }) [31] (fun x=>[(31,n x.1.1)]) (fun x=>τ++(some [⟨68,1,[[.own (A+1) 0 x.1.1]],none⟩]::some [⟨80,2,(List.range x.1.1).map fun i=>[spS (L.getD i ⟨[],[]⟩).al,.v (.slice none 0 0)],none⟩]::x.1.2)) (fun x=>L.length - x.1.1) ⟨(0,[]),Nat.zero_le _⟩ ?_ rfl ?_
    · (simp only [zT,zV,zS,zU,vcC,lateX,ex,strp,binA,elems,cells,scalar,eqC,keyA,intsA,lookA,ofVs,mpOf,Nat.reduceBEq,reduceAdd,reduceSub,reduceLT,reduceLeDiff,reduceMul,reduceEqDiff,reduceIte]; try simp)
    rintro ⟨⟨i,ν⟩,hi⟩
    simp only at hi
    simp only
    by_cases hlt2:i < L.length
    · obtain ⟨x,hx⟩:∃ x,L[i]?=some x:=⟨_,List.getElem?_eq_getElem hlt2⟩
      have hgx:L.getD i ⟨[],[]⟩=x:=by rw [List.getD_eq_getElem?_getD,hx]; rfl
      obtain ⟨x1,x2,x3⟩:=v3 x (List.mem_of_getElem? hx)
      have hclo:=clone_spec x.al (by have:=x1.1; omega)
      (repeat' ((first
 | refine vn rfl ?_
 | simp (disch:=omega) only [wr64,Int.zero_sub]
 | refine bo (fun _=>?_) fun _=>?_
 | refine im fun _=>?_
 | ((repeat refine si ?_); (first | ((first | refine .inl ⟨_,_,_,_,rfl,fun _=>pu hclo,?_⟩ | refine ⟨_,_,_,_,rfl,fun _=>pu hclo,?_⟩); (first | refine o1 ?_ | refine o2 ?_ | refine o3 ?_ | refine o4 ?_)) | refine .inl ⟨_,_,_,_,rfl,pu hclo,?_⟩))
 | refine cF ?_
 | refine om ?_
 | refine an ?_
 | fail) <;> try simp only [zT,zV,zS,zU,vcC,lateX,ex,strp,binA,elems,cells,scalar,eqC,keyA,intsA,lookA,ofVs,mpOf,Nat.reduceBEq,reduceAdd,reduceSub,reduceLT,reduceLeDiff,reduceMul,reduceEqDiff,reduceIte,getD_map hx,← hA,c0,c0u,c1,c1u,c2,c2u,List.append_assoc,List.cons_append,List.length_range]))
      all_goals try (exfalso; omega)
      exact ⟨⟨(i+1,ν++[some [⟨80,2,[[spS x.al,edS x.nx]],none⟩]]),hlt2⟩,rfl,by simp only; rw [List.range_succ,List.map_append]; simp only [List.map_cons,List.map_nil,hgx]; (try simp),by simp only; omega⟩
    obtain rfl:i=L.length:=by omega
    ((first
 | refine vn rfl ?_
 | simp (disch:=omega) only [wr64,Int.zero_sub]
 | refine bo (fun _=>?_) fun _=>?_
 | refine im fun _=>?_
 | refine cF ?_
 | refine om ?_
 | refine an ?_
 | fail) <;> try simp only [zT,zV,zS,zU,vcC,lateX,ex,strp,binA,elems,cells,scalar,eqC,keyA,intsA,lookA,ofVs,mpOf,Nat.reduceBEq,reduceAdd,reduceSub,reduceLT,reduceLeDiff,reduceMul,reduceEqDiff,reduceIte])
    ((first
 | refine vn rfl ?_
 | simp (disch:=omega) only [wr64,Int.zero_sub]
 | refine bo (fun _=>?_) fun _=>?_
 | refine im fun _=>?_
 | refine cF ?_
 | refine om ?_
 | refine an ?_
 | fail) <;> try simp only [zT,zV,zS,zU,vcC,lateX,ex,strp,binA,elems,cells,scalar,eqC,keyA,intsA,lookA,ofVs,mpOf,Nat.reduceBEq,reduceAdd,reduceSub,reduceLT,reduceLeDiff,reduceMul,reduceEqDiff,reduceIte])
    ((first
 | refine vn rfl ?_
 | simp (disch:=omega) only [wr64,Int.zero_sub]
 | refine bo (fun _=>?_) fun _=>?_
 | refine im fun _=>?_
 | refine cF ?_
 | refine om ?_
 | refine an ?_
 | fail) <;> try simp only [zT,zV,zS,zU,vcC,lateX,ex,strp,binA,elems,cells,scalar,eqC,keyA,intsA,lookA,ofVs,mpOf,Nat.reduceBEq,reduceAdd,reduceSub,reduceLT,reduceLeDiff,reduceMul,reduceEqDiff,reduceIte])
    refine AWPC.rows2 (A:=A+1) (N:=L.length) (T:=80) (T':=124) (k':=3) (f:=fun i=>spS (L.getD i ⟨[],[]⟩).al) (by rw [c1]; rfl) fun σ1 s1 s2 s3 s4=>?_
    generalize hG:List.length (τ++some [⟨68,1,[[AV.own (A+1) 0 L.length]],none⟩]::some [⟨80,2,(List.range L.length).map fun i=>[spS (L.getD i ⟨[],[]⟩).al,AV.v (.slice none 0 0)],none⟩]::ν:Sto)=G at *
    have hGA:A+1 < G:=by rw [← hG,hA]; simp only [List.length_append,List.length_cons]; omega
    have hcol:ColsE σ1 (A+1) G L.length (fun i=>spS (L.getD i ⟨[],[]⟩).al) (turnR1 []):=⟨s2,s3⟩
    have hat:σ1.at A 0=some ⟨68,1,[[.own (A+1) 0 L.length]],none⟩:=by rw [s4 A (by omega) (by omega),c0]; rfl
    have hO1:TurnO t k σ1:=hO.frame fun i hi=>by rw [s4 i (by omega) (by omega),at_appL (by omega)]
    clear s2 s3 s4 hG c0 c0u c1 c1u c2 c2u
    refine AWPC.cut (TurnI t k A G L.length (fun i=>spS (L.getD i ⟨[],[]⟩).al)) ?_ ?_
    · by_cases hk1:k+1 < t.length
      case neg =>
        rw [← hHn hk1] at hcol
        (repeat' ((first
 | refine vn rfl ?_
 | simp (disch:=omega) only [wr64,Int.zero_sub]
 | refine bo (fun _=>?_) fun _=>?_
 | refine im fun _=>?_
 | refine cF ?_
 | refine om ?_
 | refine an ?_
 | fail) <;> try simp only [zT, zV, zS, zU, vcC, lateX, ex, strp, binA, elems, cells, scalar, eqC, keyA, intsA, lookA, ofVs, mpOf, Nat.reduceBEq, reduceAdd, reduceSub, reduceLT, reduceLeDiff, reduceMul, reduceEqDiff, reduceIte]))
        all_goals try (exfalso; omega)
        exact .mk (by simp only [Sub_cons,SubT]; simp [gt]) hcol hat hO1
      have hit:=back_iter t k hv hk1
      rw [← hHe hk1] at hit
      obtain ⟨H,hH⟩:∃ H,H=hopsB t k:=⟨_,rfl⟩
      rw [← hH] at hit hHl hfr
      have e2:∀ ν,Sto.at (σ1++ν) 2 0=some ⟨133,1,[[tkS t]],none⟩:=fun ν=>by rw [at_appL (by omega)]; exact hO1.a2
      have e2':=hO1.a2
      (repeat' ((first
 | refine vn rfl ?_
 | simp (disch:=omega) only [wr64,Int.zero_sub]
 | refine bo (fun _=>?_) fun _=>?_
 | refine im fun _=>?_
 | ((repeat refine si ?_); (first | ((first | refine .inl ⟨_,_,_,_,rfl,fun _=>pu hbs,?_⟩ | refine ⟨_,_,_,_,rfl,fun _=>pu hbs,?_⟩); (first | refine o1 ?_ | refine o2 ?_ | refine o3 ?_ | refine o4 ?_)) | refine .inl ⟨_,_,_,_,rfl,pu hbs,?_⟩))
 | refine cF ?_
 | refine om ?_
 | refine an ?_
 | fail) <;> try simp only [zT,zV,zS,zU,vcC,lateX,ex,strp,binA,elems,cells,scalar,eqC,keyA,intsA,lookA,ofVs,mpOf,Nat.reduceBEq,reduceAdd,reduceSub,reduceLT,reduceLeDiff,reduceMul,reduceEqDiff,reduceIte,e2',e2]))
      all_goals try (exfalso; omega)
      refine AWPC.rng (fun x:{ σ:Sto // σ.length=G+L.length }=>x.1) (G+L.length) (fun x=>x.2)
        (fun m x=>ColsE x.1 (A+1) G L.length (fun i=>spS (L.getD i ⟨[],[]⟩).al) (turnR1 (H.take m))∧x.1.at A 0=some ⟨68,1,[[.own (A+1) 0 L.length]],none⟩∧TurnO t k x.1)
        (fun _ _=>False) (rdsH H) ⟨σ1,s1⟩ rfl rfl ⟨hcol,hat,hO1⟩ hit (fun m args h=>?_) (fun m x args ll ρ μ hm hx=>?_) (fun x μ hx=>?_) (fun _ _ _ h=>h.elim)
      · obtain ⟨h,hh,rfl⟩:=rdsH_inv h; rfl
      · obtain ⟨x,hxl⟩:=x
        simp only at hx ⊢
        obtain ⟨x1,x2,x3⟩:=hx
        obtain ⟨h,hh,rfl⟩:=rdsH_inv hm
        have h2:=hfr h (List.mem_of_getElem? hh)
        have hil:=turnR1_len (H.take m) h.fr
        rw [List.length_take] at hil
        have hnx:=turnR1_next hh
        simp only [Hop.cs,par]
        (repeat' ((first
 | refine vn rfl ?_
 | simp (disch:=omega) only [wr64,Int.zero_sub]
 | refine bo (fun _=>?_) fun _=>?_
 | refine im fun _=>?_
 | refine cF ?_
 | refine om ?_
 | refine an ?_
 | fail) <;> try simp only [zT, zV, zS, zU, vcC, lateX, ex, strp, binA, elems, cells, scalar, eqC, keyA, intsA, lookA, ofVs, mpOf, Nat.reduceBEq, reduceAdd, reduceSub, reduceLT, reduceLeDiff, reduceMul, reduceEqDiff, reduceIte]))
        refine ⟨⟨x,hxl⟩,_,by simp only [List.append_assoc]; rfl,fun ρ'=>?_⟩
        have bA:∀ ν,Sto.at (x++ν) A 0=some ⟨68,1,[[.own (A+1) 0 L.length]],none⟩:=fun ν=>by rw [at_appL (by omega)]; exact x2
        have bR:∀ ν,Sto.at (x++ν) (A+1) 0=some ⟨80,2,(List.range L.length).map fun (j:Nat)=>[spS (L.getD j ⟨[],[]⟩).al,.own (G+j) 0 (turnR1 (H.take m) j).length],none⟩:=fun ν=>by rw [at_appL (by omega)]; exact x1.1
        have bgt:((List.range L.length).map fun (j:Nat)=>[spS (L.getD j ⟨[],[]⟩).al,AV.own (G+j) 0 (turnR1 (H.take m) j).length]).getD h.fr []=[spS (L.getD h.fr ⟨[],[]⟩).al,.own (G+h.fr) 0 (turnR1 (H.take m) h.fr).length]:=range_get _ h2
        have bG:∀ ν,Sto.at (x++ν) (G+h.fr) 0=some ⟨124,3,(turnR1 (H.take m) h.fr).map Edg.cs,none⟩:=fun ν=>by rw [at_appL (by omega)]; exact x1.2 _ h2
        have b11:∀ (ν:Sto),Sto.at (x++ρ'::(μ++(some [⟨130,2,[[n (h.fr:Int),n (h.to:Int)]],none⟩]::ν))) (List.length x+(List.length μ+1)) 0=some ⟨130,2,[[n (h.fr:Int),n (h.to:Int)]],none⟩:=fun ν=>by rw [at_app,at_consS,at_app0]; rfl
        have b12:∀ (a:Option (List Ob)) (ν:Sto),Sto.at (x++ρ'::(μ++(a::some [⟨30,2,[h.ch.cs],none⟩]::ν))) (List.length x+(List.length μ+1+1)) 0=some ⟨30,2,[h.ch.cs],none⟩:=fun a ν=>by rw [at_app,at_consS,at_app]; rfl
        have bU:∀ o ν,Sto.upd (x++ν) (G+h.fr) 0 o=Sto.upd x (G+h.fr) 0 o++ν:=fun o ν=>upd_appL (by omega)
        have cL:∀ o,List.length (Sto.upd x (G+h.fr) 0 o)=List.length x:=fun o=>upd_length _ _ _ _
        have cA:∀ o ν,Sto.at (Sto.upd x (G+h.fr) 0 o++ν) A 0=some ⟨68,1,[[.own (A+1) 0 L.length]],none⟩:=fun o ν=>by rw [at_appL (by rw [cL]; omega),at_upd_other (.inl (by omega))]; exact x2
        have cR:∀ o ν,Sto.at (Sto.upd x (G+h.fr) 0 o++ν) (A+1) 0=some ⟨80,2,(List.range L.length).map fun (j:Nat)=>[spS (L.getD j ⟨[],[]⟩).al,.own (G+j) 0 (turnR1 (H.take m) j).length],none⟩:=fun o ν=>by rw [at_appL (by rw [cL]; omega),at_upd_other (.inl (by omega))]; exact x1.1
        have c11:∀ o (ν:Sto),Sto.at (Sto.upd x (G+h.fr) 0 o++ρ'::(μ++(some [⟨130,2,[[n (h.fr:Int),n (h.to:Int)]],none⟩]::ν))) (List.length x+(List.length μ+1)) 0=some ⟨130,2,[[n (h.fr:Int),n (h.to:Int)]],none⟩:=fun o ν=>by rw [← cL o,at_app,at_consS,at_app0]; rfl
        have cU:∀ o o' ν,Sto.upd (Sto.upd x (G+h.fr) 0 o++ν) (A+1) 0 o'=Sto.upd (Sto.upd x (G+h.fr) 0 o) (A+1) 0 o'++ν:=fun o o' ν=>upd_appL (by rw [cL]; omega)
        have hput:=putE_one (c:=h.fr) (v:=turnR1 (H.take m) h.fr++[⟨(h.to:Int),h.ch⟩]) x1 (by omega) h2
        have hpl:=putE_len (σ:=x) (A:=A+1) (G:=G) (N:=L.length) (c:=h.fr) (f:=fun i=>spS (L.getD i ⟨[],[]⟩).al) (R:=turnR1 (H.take m)) (v:=turnR1 (H.take m) h.fr++[⟨(h.to:Int),h.ch⟩])
        have hpa:=fun i=>putE_at (σ:=x) (A:=A+1) (G:=G) (N:=L.length) (c:=h.fr) (f:=fun i=>spS (L.getD i ⟨[],[]⟩).al) (R:=turnR1 (H.take m)) (v:=turnR1 (H.take m) h.fr++[⟨(h.to:Int),h.ch⟩]) (i:=i)
        (repeat' ((first
 | refine vn rfl ?_
 | simp (disch:=omega) only [wr64,Int.zero_sub]
 | refine bo (fun _=>?_) fun _=>?_
 | refine im fun _=>?_
 | refine cF ?_
 | refine om ?_
 | refine an ?_
 | fail) <;> try simp only [zT, zV, zS, zU, vcC, lateX, ex, strp, binA, elems, cells, scalar, eqC, keyA, intsA, lookA, ofVs, mpOf, Nat.reduceBEq, reduceAdd, reduceSub, reduceLT, reduceLeDiff, reduceMul, reduceEqDiff, reduceIte, bA, bR, bgt, bG, b11, b12, bU, cA, cR, c11, cU, List.length_range]))
        all_goals try (exfalso; omega)
        refine ⟨⟨putE x (A+1) G L.length h.fr (fun i=>spS (L.getD i ⟨[],[]⟩).al) (turnR1 (H.take m)) (turnR1 (H.take m) h.fr++[⟨(h.to:Int),h.ch⟩]),by rw [hpl]; exact hxl⟩,[],?_,hput.congr fun j hj=>?_,?_,?_⟩
        · simp [putE]
        · rw [hnx]; by_cases hj2:j=h.fr
          · subst hj2; simp
          · simp [hj2]
        · exact (hpa _ (by omega) (by omega)).trans x2
        · exact x3.frame fun i hi=>hpa i (by omega) (by omega)
      · obtain ⟨x,hxl⟩:=x
        simp only at hx ⊢
        obtain ⟨x1,x2,x3⟩:=hx
        have hHlen:(rdsH H).length=H.length:=by simp [rdsH]
        rw [hHlen,List.take_length] at x1
        simp only [zT,zV,zS,zU,vcC,lateX,ex,strp,binA,elems,cells,scalar,eqC,keyA,intsA,lookA,ofVs,mpOf,Nat.reduceBEq,reduceAdd,reduceSub,reduceLT,reduceLeDiff,reduceMul,reduceEqDiff,reduceIte]
        (repeat' ((first
 | refine vn rfl ?_
 | simp (disch:=omega) only [wr64,Int.zero_sub]
 | refine bo (fun _=>?_) fun _=>?_
 | refine im fun _=>?_
 | refine cF ?_
 | refine om ?_
 | refine an ?_
 | fail) <;> try simp only [zT, zV, zS, zU, vcC, lateX, ex, strp, binA, elems, cells, scalar, eqC, keyA, intsA, lookA, ofVs, mpOf, Nat.reduceBEq, reduceAdd, reduceSub, reduceLT, reduceLeDiff, reduceMul, reduceEqDiff, reduceIte]))
        rw [hH] at x1
        exact .mk (by simp only [Sub_cons,SubT]; simp [gt]) ⟨by rw [at_appL (at_lt x1.1)]; exact x1.1,fun j hj=>by rw [at_appL (at_lt (x1.2 j hj))]; exact x1.2 j hj⟩ (by rw [at_appL (at_lt x2)]; exact x2) (x3.frame fun i hi=>at_appL (by have:=at_lt x3.a3; omega))
    rintro env σ2 ⟨hsub,hc2,hA2,hO2⟩
    refine AWPC.weaken hsub ?_
    clear hsub
    refine AWPC.freezeRows2 (A:=A+1) (G:=G) (N:=L.length) (T:=80) (T':=124) (k':=3) (f:=fun i=>spS (L.getD i ⟨[],[]⟩).al) (R:=fun i=>(turnR1 (hopsB t k) i).map Edg.cs) (by decide) (by rw [hc2.1]; simp) hc2.2 hGA fun σ3 r1 r2 r3=>?_
    have q1:σ3.at A 0=some ⟨68,1,[[.own (A+1) 0 L.length]],none⟩:=by rw [r3 A (by omega) fun c hc=>by omega]; exact hA2
    have hO3:TurnO t k σ3:=hO2.frame fun i hi=>r3 i (by omega) fun c hc=>by omega
    refine AWPC.freezeC (f:=A+1) (n:=L.length) (h:=A) (e:=0) (j:=0) r2 (by simp) (show (2:Nat)≠0 by decide) q1 (by omega) rfl (by simp) rfl ?_
    have hrow:(List.range L.length).map (fun i=>[spS (L.getD i ⟨[],[]⟩).al,AV.sl 3 ((turnR1 (hopsB t k) i).map Edg.cs)])=(turnL t k).map Nod.cs:=by
      rw [htl,List.map_map]
      exact range_congr fun i _=>by simp only [Function.comp,htn]
    simp only [List.getD_cons_zero,List.set_cons_zero]
    rw [hrow]
    generalize hσ4:Sto.upd (gone σ3 (A+1)) A 0 _=σ4
    have w1:σ4.at A 0=some ⟨68,1,[[stS (turnL t k)]],none⟩:=by rw [← hσ4,at_upd_same (by rw [at_gone' (by omega)]; exact q1)]
    have hO4:TurnO t k σ4:=hO3.frame fun i hi=>by rw [← hσ4,at_upd_other (.inl (by omega)),at_gone' (by omega)]
    clear hσ4
    have z1:=hO4.a1
    have z3:=hO4.a3
    have z13:∀ o,Sto.at (Sto.upd σ4 3 0 o) 1 0=some ⟨24,1,[[.own 3 0 k]],none⟩:=fun o=>by rw [at_upd_other (.inl (by omega))]; exact z1
    (repeat' ((first
 | refine vn rfl ?_
 | simp (disch:=omega) only [wr64,Int.zero_sub]
 | refine bo (fun _=>?_) fun _=>?_
 | refine im fun _=>?_
 | refine cF ?_
 | refine om ?_
 | refine an ?_
 | fail) <;> try simp only [zT,zV,zS,zU,vcC,lateX,ex,strp,binA,elems,cells,scalar,eqC,keyA,intsA,lookA,ofVs,mpOf,Nat.reduceBEq,reduceAdd,reduceSub,reduceLT,reduceLeDiff,reduceMul,reduceEqDiff,reduceIte,w1,z1,z3,z13,List.length_range]))
    all_goals try (exfalso; omega)
    refine ⟨⟨(k+1,Sto.upd (Sto.upd σ4 3 0 ⟨68,1,(List.range k).map (fun j=>[stS (turnL t j)])++[[stS (turnL t k)]],none⟩) 1 0 ⟨24,1,[[.own 3 0 (k+1)]],none⟩),hlt,⟨?_,at_upd_same (z13 _),?_,?_⟩⟩,rfl,rfl,by simp only; omega⟩
    all_goals simp only
    · rw [at_upd_other (.inl (by omega)),at_upd_other (.inl (by omega))]; exact hO4.a0
    · rw [at_upd_other (.inl (by omega)),at_upd_other (.inl (by omega))]; exact hO4.a2
    · rw [at_upd_other (.inl (by omega)),at_upd_same z3,List.range_succ,List.map_append]; rfl
  obtain rfl:k=t.length:=by omega
  ((first
 | refine vn rfl ?_
 | simp (disch:=omega) only [wr64,Int.zero_sub]
 | refine bo (fun _=>?_) fun _=>?_
 | refine im fun _=>?_
 | refine cF ?_
 | refine om ?_
 | refine an ?_
 | fail) <;> try simp only [zT,zV,zS,zU,vcC,lateX,ex,strp,binA,elems,cells,scalar,eqC,keyA,intsA,lookA,ofVs,mpOf,Nat.reduceBEq,reduceAdd,reduceSub,reduceLT,reduceLeDiff,reduceMul,reduceEqDiff,reduceIte])
  ((first
 | refine vn rfl ?_
 | simp (disch:=omega) only [wr64,Int.zero_sub]
 | refine bo (fun _=>?_) fun _=>?_
 | refine im fun _=>?_
 | refine cF ?_
 | refine om ?_
 | refine an ?_
 | fail) <;> try simp only [zT,zV,zS,zU,vcC,lateX,ex,strp,binA,elems,cells,scalar,eqC,keyA,intsA,lookA,ofVs,mpOf,Nat.reduceBEq,reduceAdd,reduceSub,reduceLT,reduceLeDiff,reduceMul,reduceEqDiff,reduceIte])
  have hTT:(List.range t.length).map (fun j=>[stS (turnL t j)])=(turnT t).map fun l=>[stS l]:=by unfold turnT; rw [List.map_map]; rfl
  refine AWPC.freezeC (f:=3) (n:=t.length) (h:=1) (e:=0) (j:=0) hO.a3 (by simp) (show (1:Nat)≠0 by decide) hO.a1 (by omega) rfl (by simp) rfl ?_
  simp only [List.getD_cons_zero,List.set_cons_zero]
  rw [hTT]
  generalize hσ4:Sto.upd (gone τ 3) 1 0 _=σ4
  have w1:σ4.at 1 0=some ⟨24,1,[[tkS (turnT t)]],none⟩:=by rw [← hσ4,at_upd_same (by rw [at_gone' (by omega)]; exact hO.a1)]
  have w0:σ4.at 0 0=some ⟨24,1,[[.v (.slice none 0 0)]],none⟩:=by rw [← hσ4,at_upd_other (.inl (by omega)),at_gone' (by omega)]; exact hO.a0
  clear hσ4
  have hsz:=sized_spec (turnT t) (turnT_sz hv)
  have he:turnE t=if big (turnT t)=true then 2 else 0:=by unfold turnE; rw [tr_1 hv,if_pos rfl]
  have hr:turnR t=if big (turnT t)=true then [] else turnT t:=by
    unfold turnR
    rw [he]
    cases big (turnT t) <;> rfl
  rw [he,hr]
  generalize turnT t=T at *
  generalize (if big T=true then (2:Int) else 0)=E at *
  generalize (if big T=true then [] else T)=X at *
  have w0':∀ o,Sto.at (Sto.upd σ4 0 0 o) 0 0=some o:=fun o=>at_upd_same w0
  (repeat' ((first
 | refine vn rfl ?_
 | simp (disch:=omega) only [wr64,Int.zero_sub]
 | refine bo (fun _=>?_) fun _=>?_
 | refine im fun _=>?_
 | ((repeat refine si ?_); (first | ((first | refine .inl ⟨_,_,_,_,rfl,fun _=>pu hsz,?_⟩ | refine ⟨_,_,_,_,rfl,fun _=>pu hsz,?_⟩); (first | refine o1 ?_ | refine o2 ?_ | refine o3 ?_ | refine o4 ?_)) | refine .inl ⟨_,_,_,_,rfl,pu hsz,?_⟩))
 | refine cF ?_
 | refine om ?_
 | refine an ?_
 | fail) <;> try simp only [zT,zV,zS,zU,vcC,lateX,ex,strp,binA,elems,cells,scalar,eqC,keyA,intsA,lookA,ofVs,mpOf,Nat.reduceBEq,reduceAdd,reduceSub,reduceLT,reduceLeDiff,reduceMul,reduceEqDiff,reduceIte,w1,w0,w0']))
  all_goals try (exfalso; omega)
  all_goals exact Frz.eq rfl (by simp (maxDischargeDepth:=9))
def c21:CF:=⟨54,
 (.seq (.ops [
 ⟨some 4,.mv (.c (.bool false)),none⟩] [0,1])
 (.seq (.seq (.ops [
 ⟨some 7,.mv (.t 0),none⟩,
 ⟨some 8,.len (.t 7),none⟩,
 ⟨some 9,.mv (.t 1),none⟩,
 ⟨some 10,.len (.t 9),none⟩,
 ⟨some 11,.bin .neq (.t 8) (.t 10),none⟩] [0,1,11])
 (.cond (.t 11) (.seq (.ops [
 ⟨some 4,.mv (.c (.bool false)),none⟩] [4])
 .ret)
 .skip))
 (.seq (.seq (.ops [
 ⟨some 5,.mv (.c (.int .i64 0)),none⟩] [0,1,5])
 (.block 0 (.loop (.seq (.seq (.ops [
 ⟨some 12,.mv (.t 5),none⟩,
 ⟨some 13,.mv (.t 0),none⟩,
 ⟨some 14,.len (.t 13),none⟩,
 ⟨some 15,.bin .lss (.t 12) (.t 14),none⟩] [0,1,5,15])
 (.cond (.t 15) .skip
 (.exit 0)))
 (.seq (.block 1 (.seq (.seq (.draw [
 ⟨some 18,.mv (.t 0),none⟩,
 ⟨some 19,.mv (.t 5),none⟩,
 ⟨some 20,.iaddr 1 (.t 18) (.t 19),none⟩,
 ⟨some 21,.load none (.t 20),none⟩,
 ⟨some 22,.len (.t 21),none⟩,
 ⟨some 23,.mv (.t 1),none⟩,
 ⟨some 24,.mv (.t 5),none⟩,
 ⟨some 25,.iaddr 1 (.t 23) (.t 24),none⟩,
 ⟨some 26,.load none (.t 25),none⟩,
 ⟨some 27,.len (.t 26),none⟩,
 ⟨some 28,.bin .neq (.t 22) (.t 27),none⟩] [
 ] [0,1,5,28])
 (.cond (.t 28) (.seq (.ops [
 ⟨some 4,.mv (.c (.bool false)),none⟩] [4])
 .ret)
 .skip))
 (.seq (.ops [
 ⟨some 6,.mv (.c (.int .i64 0)),none⟩] [0,1,5,6])
 (.block 2 (.loop (.seq (.seq (.ops [
 ⟨some 29,.mv (.t 6),none⟩,
 ⟨some 30,.mv (.t 0),none⟩,
 ⟨some 31,.mv (.t 5),none⟩,
 ⟨some 32,.iaddr 1 (.t 30) (.t 31),none⟩,
 ⟨some 33,.load none (.t 32),none⟩,
 ⟨some 34,.len (.t 33),none⟩,
 ⟨some 35,.bin .lss (.t 29) (.t 34),none⟩] [0,1,5,6,35])
 (.cond (.t 35) .skip
 (.exit 2)))
 (.seq (.block 3 (.seq (.draw [
 ⟨some 38,.mv (.t 0),none⟩,
 ⟨some 39,.mv (.t 5),none⟩,
 ⟨some 40,.iaddr 1 (.t 38) (.t 39),none⟩,
 ⟨some 41,.load none (.t 40),none⟩,
 ⟨some 42,.mv (.t 6),none⟩,
 ⟨some 43,.iaddr 1 (.t 41) (.t 42),none⟩,
 ⟨some 44,.load none (.t 43),none⟩,
 ⟨some 45,.mv (.t 1),none⟩,
 ⟨some 46,.mv (.t 5),none⟩,
 ⟨some 47,.iaddr 1 (.t 45) (.t 46),none⟩,
 ⟨some 48,.load none (.t 47),none⟩,
 ⟨some 49,.mv (.t 6),none⟩,
 ⟨some 50,.iaddr 1 (.t 48) (.t 49),none⟩,
 ⟨some 51,.load none (.t 50),none⟩,
 ⟨some 52,.call (.f 28) [(.t 44),(.t 51)],none⟩,
 ⟨some 53,.un .not (.t 52),none⟩] [
 ] [0,1,5,6,53])
 (.cond (.t 53) (.seq (.ops [
 ⟨some 4,.mv (.c (.bool false)),none⟩] [4])
 .ret)
 .skip)))
 (.ops [
 ⟨some 36,.mv (.t 6),none⟩,
 ⟨some 37,.bin .add (.t 36) (.c (.int .i64 1)),none⟩,
 ⟨some 6,.mv (.t 37),none⟩] [0,1,5,6]))))))))
 (.ops [
 ⟨some 16,.mv (.t 5),none⟩,
 ⟨some 17,.bin .add (.t 16) (.c (.int .i64 1)),none⟩,
 ⟨some 5,.mv (.t 17),none⟩] [0,1,5]))))))
 (.seq (.ops [
 ⟨some 4,.mv (.c (.bool true)),none⟩] [4])
 .ret)))),
 [.t 4]⟩
def c17:CF:=⟨112,
 (.seq (.ops [
 ⟨some 1,.box false 24 1 (.t 0),none⟩,
 ⟨some 2,.mv (.c (.bool false)),none⟩] [1])
 (.seq (.seq (.ops [
 ⟨some 6,.faddr 0 (.t 1),none⟩,
 ⟨some 7,.load none (.t 6),none⟩,
 ⟨some 8,.len (.t 7),none⟩,
 ⟨some 9,.bin .gtr (.t 8) (.c (.int .i64 8)),none⟩,
 ⟨some 10,.mv (.t 9),none⟩,
 ⟨some 11,.faddr 0 (.t 1),some (10,true)⟩,
 ⟨some 12,.load none (.t 11),some (10,true)⟩,
 ⟨some 13,.len (.t 12),some (10,true)⟩,
 ⟨some 14,.bin .leq (.t 13) (.c (.int .i64 401)),some (10,true)⟩,
 ⟨some 15,.pick (.t 10) (.t 14) (.c (.bool false)),none⟩,
 ⟨some 16,.mv (.t 15),none⟩,
 ⟨some 17,.faddr 0 (.t 1),some (16,false)⟩,
 ⟨some 18,.load none (.t 17),some (16,false)⟩,
 ⟨some 19,.len (.t 18),some (16,false)⟩,
 ⟨some 20,.bin .gtr (.t 19) (.c (.int .i64 802)),some (16,false)⟩,
 ⟨some 21,.pick (.t 16) (.c (.bool true)) (.t 20),none⟩] [1,21])
 (.cond (.t 21) (.seq (.ops [
 ⟨some 2,.mv (.c (.bool false)),none⟩] [2])
 .ret)
 .skip))
 (.seq (.seq (.ops [
 ⟨some 3,.mv (.c (.int .i64 0)),none⟩] [1,3])
 (.block 0 (.loop (.seq (.seq (.ops [
 ⟨some 22,.mv (.t 3),none⟩,
 ⟨some 23,.faddr 0 (.t 1),none⟩,
 ⟨some 24,.load none (.t 23),none⟩,
 ⟨some 25,.len (.t 24),none⟩,
 ⟨some 26,.bin .lss (.t 22) (.t 25),none⟩] [1,3,26])
 (.cond (.t 26) .skip
 (.exit 0)))
 (.seq (.block 1 (.seq (.seq (.ops [
 ⟨some 29,.faddr 0 (.t 1),none⟩,
 ⟨some 30,.load none (.t 29),none⟩,
 ⟨some 31,.mv (.t 3),none⟩,
 ⟨some 32,.iaddr 1 (.t 30) (.t 31),none⟩,
 ⟨some 33,.load none (.t 32),none⟩,
 ⟨some 34,.len (.t 33),none⟩,
 ⟨some 35,.bin .gtr (.t 34) (.c (.int .i64 6)),none⟩,
 ⟨some 36,.mv (.t 35),none⟩,
 ⟨some 37,.faddr 0 (.t 1),some (36,true)⟩,
 ⟨some 38,.load none (.t 37),some (36,true)⟩,
 ⟨some 39,.mv (.t 3),some (36,true)⟩,
 ⟨some 40,.iaddr 1 (.t 38) (.t 39),some (36,true)⟩,
 ⟨some 41,.load none (.t 40),some (36,true)⟩,
 ⟨some 42,.len (.t 41),some (36,true)⟩,
 ⟨some 43,.bin .leq (.t 42) (.c (.int .i64 4000)),some (36,true)⟩,
 ⟨some 44,.mv (.t 43),some (36,true)⟩,
 ⟨some 45,.faddr 0 (.t 1),some (44,false)⟩,
 ⟨some 46,.load none (.t 45),some (44,false)⟩,
 ⟨some 47,.len (.t 46),some (44,false)⟩,
 ⟨some 48,.bin .gtr (.t 47) (.c (.int .i64 8)),some (44,false)⟩,
 ⟨some 49,.pick (.t 44) (.c (.bool true)) (.t 48),some (36,true)⟩,
 ⟨some 50,.pick (.t 36) (.t 49) (.c (.bool false)),none⟩,
 ⟨some 51,.mv (.t 50),none⟩,
 ⟨some 52,.faddr 0 (.t 1),some (51,false)⟩,
 ⟨some 53,.load none (.t 52),some (51,false)⟩,
 ⟨some 54,.mv (.t 3),some (51,false)⟩,
 ⟨some 55,.iaddr 1 (.t 53) (.t 54),some (51,false)⟩,
 ⟨some 56,.load none (.t 55),some (51,false)⟩,
 ⟨some 57,.len (.t 56),some (51,false)⟩,
 ⟨some 58,.bin .gtr (.t 57) (.c (.int .i64 8000)),some (51,false)⟩,
 ⟨some 59,.pick (.t 51) (.c (.bool true)) (.t 58),none⟩] [1,3,59])
 (.cond (.t 59) (.seq (.ops [
 ⟨some 2,.mv (.c (.bool false)),none⟩] [2])
 .ret)
 .skip))
 (.seq (.ops [
 ⟨some 4,.mv (.c (.int .i64 0)),none⟩] [1,3,4])
 (.block 2 (.loop (.seq (.seq (.ops [
 ⟨some 60,.mv (.t 4),none⟩,
 ⟨some 61,.faddr 0 (.t 1),none⟩,
 ⟨some 62,.load none (.t 61),none⟩,
 ⟨some 63,.mv (.t 3),none⟩,
 ⟨some 64,.iaddr 1 (.t 62) (.t 63),none⟩,
 ⟨some 65,.load none (.t 64),none⟩,
 ⟨some 66,.len (.t 65),none⟩,
 ⟨some 67,.bin .lss (.t 60) (.t 66),none⟩] [1,3,4,67])
 (.cond (.t 67) .skip
 (.exit 2)))
 (.seq (.block 3 (.seq (.ops [
 ⟨some 70,.faddr 0 (.t 1),none⟩,
 ⟨some 71,.load none (.t 70),none⟩,
 ⟨some 72,.mv (.t 3),none⟩,
 ⟨some 73,.iaddr 1 (.t 71) (.t 72),none⟩,
 ⟨some 74,.load none (.t 73),none⟩,
 ⟨some 75,.mv (.t 4),none⟩,
 ⟨some 76,.iaddr 2 (.t 74) (.t 75),none⟩,
 ⟨some 77,.load (some 2) (.t 76),none⟩,
 ⟨some 5,.alloc 80 2 [.slice none 0 0,.slice none 0 0],none⟩,
 ⟨none,.store 2 (.t 5) (.t 77),none⟩] [1,3,4,5])
 (.seq (.ops [
 ⟨some 78,.faddr 0 (.t 5),none⟩,
 ⟨some 79,.load none (.t 78),none⟩,
 ⟨some 80,.len (.t 79),none⟩,
 ⟨some 81,.bin .gtr (.t 80) (.c (.int .i64 8)),none⟩,
 ⟨some 82,.mv (.t 81),none⟩,
 ⟨some 83,.faddr 0 (.t 5),some (82,true)⟩,
 ⟨some 84,.load none (.t 83),some (82,true)⟩,
 ⟨some 85,.len (.t 84),some (82,true)⟩,
 ⟨some 86,.bin .leq (.t 85) (.c (.int .i64 64)),some (82,true)⟩,
 ⟨some 87,.pick (.t 82) (.t 86) (.c (.bool false)),none⟩,
 ⟨some 88,.mv (.t 87),none⟩,
 ⟨some 89,.faddr 0 (.t 5),some (88,false)⟩,
 ⟨some 90,.load none (.t 89),some (88,false)⟩,
 ⟨some 91,.len (.t 90),some (88,false)⟩,
 ⟨some 92,.bin .gtr (.t 91) (.c (.int .i64 128)),some (88,false)⟩,
 ⟨some 93,.pick (.t 88) (.c (.bool true)) (.t 92),none⟩,
 ⟨some 94,.mv (.t 93),none⟩,
 ⟨some 95,.faddr 1 (.t 5),some (94,false)⟩,
 ⟨some 96,.load none (.t 95),some (94,false)⟩,
 ⟨some 97,.len (.t 96),some (94,false)⟩,
 ⟨some 98,.bin .gtr (.t 97) (.c (.int .i64 8)),some (94,false)⟩,
 ⟨some 99,.mv (.t 98),some (94,false)⟩,
 ⟨some 100,.faddr 1 (.t 5),some (99,true)⟩,
 ⟨some 101,.load none (.t 100),some (99,true)⟩,
 ⟨some 102,.len (.t 101),some (99,true)⟩,
 ⟨some 103,.bin .leq (.t 102) (.c (.int .i64 64)),some (99,true)⟩,
 ⟨some 104,.pick (.t 99) (.t 103) (.c (.bool false)),some (94,false)⟩,
 ⟨some 105,.pick (.t 94) (.c (.bool true)) (.t 104),none⟩,
 ⟨some 106,.mv (.t 105),none⟩,
 ⟨some 107,.faddr 1 (.t 5),some (106,false)⟩,
 ⟨some 108,.load none (.t 107),some (106,false)⟩,
 ⟨some 109,.len (.t 108),some (106,false)⟩,
 ⟨some 110,.bin .gtr (.t 109) (.c (.int .i64 128)),some (106,false)⟩,
 ⟨some 111,.pick (.t 106) (.c (.bool true)) (.t 110),none⟩] [1,3,4,111])
 (.cond (.t 111) (.seq (.ops [
 ⟨some 2,.mv (.c (.bool false)),none⟩] [2])
 .ret)
 .skip))))
 (.ops [
 ⟨some 68,.mv (.t 4),none⟩,
 ⟨some 69,.bin .add (.t 68) (.c (.int .i64 1)),none⟩,
 ⟨some 4,.mv (.t 69),none⟩] [1,3,4]))))))))
 (.ops [
 ⟨some 27,.mv (.t 3),none⟩,
 ⟨some 28,.bin .add (.t 27) (.c (.int .i64 1)),none⟩,
 ⟨some 3,.mv (.t 28),none⟩] [1,3]))))))
 (.seq (.ops [
 ⟨some 2,.mv (.c (.bool true)),none⟩] [2])
 .ret)))),
 [.t 2]⟩
theorem k21:chkF Tryz.prog Tryz.f21 c21=true:=by kernel_rfl
theorem k17:chkF Tryz.prog Tryz.f17 c17=true:=by kernel_rfl
abbrev manyN (x:Nod):Prop:=((8 < x.al.length∧x.al.length≤64)∨128 < x.al.length)∨(8 < x.nx.length∧x.nx.length≤64)∨128 < x.nx.length
abbrev manyL (m:Nat) (l:List Nod):Prop:=(6 < l.length∧(l.length≤4000∨8 < m))∨8000 < l.length
abbrev manyT (m:Nat):Prop:=(8 < m∧m≤401)∨802 < m
def fewB (t:Trk):Bool:=!decide (manyT t.length) && t.all fun l=>!decide (manyL t.length l) && l.all fun x=>!decide (manyN x)
theorem fewB_f1 {t:Trk} (h:manyT t.length):fewB t=false:=by unfold fewB; rw [decide_eq_true h]; rfl
theorem fewB_f {t:Trk} {l:List Nod} (hl:l∈t) (h:(!decide (manyL t.length l) && l.all fun x=>!decide (manyN x))=false):fewB t=false:=by
  unfold fewB
  have:(t.all fun l=>!decide (manyL t.length l) && l.all fun x=>!decide (manyN x))=false:=by
    cases ha:t.all fun l=>!decide (manyL t.length l) && l.all fun x=>!decide (manyN x) with
    | false=>rfl
    | true=>rw [List.all_eq_true.1 ha l hl] at h; cases h
  rw [this]; simp
theorem fewB_t {t:Trk} (h1:¬ manyT t.length) (h:∀ l∈t,¬ manyL t.length l∧∀ x∈l,¬ manyN x):fewB t=true:=by
  unfold fewB
  rw [decide_eq_false h1]
  have:(t.all fun l=>!decide (manyL t.length l) && l.all fun x=>!decide (manyN x))=true:=List.all_eq_true.2 fun l hl=>by
    obtain ⟨h2,h3⟩:=h l hl
    rw [decide_eq_false h2]
    have:(l.all fun x=>!decide (manyN x))=true:=List.all_eq_true.2 fun x hx=>by rw [decide_eq_false (h3 x hx)]; rfl
    rw [this]; rfl
  rw [this]; rfl
theorem few_spec (t:Trk) (hs:trkSz t):Pure Tryz.prog 17 [trS t] (bl (fewB t)):=by
  refine Pure.of_body Tryz.call17 Tryz.func17 k17 (Nat.le_of_ble_eq_true rfl) ?_
  unfold c17
  have h1:=hs.1
  (repeat' ((first
 | refine vn rfl ?_
 | simp (disch:=omega) only [wr64,Int.zero_sub]
 | refine bo (fun _=>?_) fun _=>?_
 | refine im fun _=>?_
 | refine cF ?_
 | refine om ?_
 | refine an ?_
 | fail) <;> try simp only [zT,zV,zS,zU,vcC,lateX,ex,strp,binA,elems,cells,scalar,eqC,keyA,intsA,lookA,ofVs,mpOf,Nat.reduceBEq,reduceAdd,reduceSub,reduceLT,reduceLeDiff,reduceMul,reduceEqDiff,reduceIte]))
  · rename_i h
    rw [fewB_f1 (by unfold manyT; omega)]
    exact Frz.eq rfl (by simp)
  rename_i hT
  refine AWPC.loopE (α:={ x:Nat × Sto // x.1≤t.length∧∀ l∈t.take x.1,¬ manyL t.length l∧∀ y∈l,¬ manyN y }) [3] (fun x=>[(3,n x.1.1)]) (fun x=>x.1.2) (fun x=>t.length - x.1.1) ⟨(0,[]),Nat.zero_le _,by simp⟩ ?_ rfl ?_
  · (simp only [zT,zV,zS,zU,vcC,lateX,ex,strp,binA,elems,cells,scalar,eqC,keyA,intsA,lookA,ofVs,mpOf,Nat.reduceBEq,reduceAdd,reduceSub,reduceLT,reduceLeDiff,reduceMul,reduceEqDiff,reduceIte]; try simp)
  rintro ⟨⟨k,μ⟩,hk,hk2⟩
  try simp only at hk hk2
  try simp only
  by_cases hlt:k < t.length
  · have htk:t[k]?=some (t.getD k []):=getD_some hlt
    have gtk:(t.map fun l=>[stS l]).getD k []=[stS (t.getD k [])]:=getD_map htk
    have hm:=List.mem_of_getElem? htk
    have hs2:=hs.2 _ hm
    have hsn:=take_snoc htk
    generalize t.getD k []=L at *
    obtain ⟨hL,hL2⟩:=hs2
    (repeat' ((first
 | refine vn rfl ?_
 | simp (disch:=omega) only [wr64,Int.zero_sub]
 | refine bo (fun _=>?_) fun _=>?_
 | refine im fun _=>?_
 | refine cF ?_
 | refine om ?_
 | refine an ?_
 | fail) <;> try simp only [zT,zV,zS,zU,vcC,lateX,ex,strp,binA,elems,cells,scalar,eqC,keyA,intsA,lookA,ofVs,mpOf,Nat.reduceBEq,reduceAdd,reduceSub,reduceLT,reduceLeDiff,reduceMul,reduceEqDiff,reduceIte,gtk]))
    all_goals try (exfalso; omega)
    · rename_i h
      rw [fewB_f hm (by rw [decide_eq_true (by unfold manyL; omega)]; rfl)]
      exact Frz.eq rfl (by simp)
    rename_i hM
    have hM':¬ manyL t.length L:=by unfold manyL; omega
    refine AWPC.loopE (α:={ x:Nat × Sto // x.1≤L.length∧∀ y∈L.take x.1,¬ manyN y }) [4] (fun x=>[(4,n x.1.1)]) (fun x=>x.1.2) (fun x=>L.length - x.1.1) ⟨(0,μ),Nat.zero_le _,by simp⟩ ?_ rfl ?_
    · (simp only [zT,zV,zS,zU,vcC,lateX,ex,strp,binA,elems,cells,scalar,eqC,keyA,intsA,lookA,ofVs,mpOf,Nat.reduceBEq,reduceAdd,reduceSub,reduceLT,reduceLeDiff,reduceMul,reduceEqDiff,reduceIte]; try simp)
    rintro ⟨⟨i,ν⟩,hi,hi2⟩
    try simp only at hi hi2
    try simp only
    by_cases hlt2:i < L.length
    · obtain ⟨x,hx⟩:∃ x,L[i]?=some x:=⟨_,List.getElem?_eq_getElem hlt2⟩
      have hxm:=List.mem_of_getElem? hx
      obtain ⟨x1,x2⟩:=hL2 x hxm
      have hsx:=take_snoc hx
      (repeat' ((first
 | refine vn rfl ?_
 | simp (disch:=omega) only [wr64,Int.zero_sub]
 | refine bo (fun _=>?_) fun _=>?_
 | refine im fun _=>?_
 | refine cF ?_
 | refine om ?_
 | refine an ?_
 | fail) <;> try simp only [zT,zV,zS,zU,vcC,lateX,ex,strp,binA,elems,cells,scalar,eqC,keyA,intsA,lookA,ofVs,mpOf,Nat.reduceBEq,reduceAdd,reduceSub,reduceLT,reduceLeDiff,reduceMul,reduceEqDiff,reduceIte,gtk,getD_map hx,List.cons_append]))
      all_goals try (exfalso; omega)
      · rename_i h
        have hN:manyN x:=by unfold manyN; omega
        have hf:(!decide (manyL t.length L) && L.all fun x=>!decide (manyN x))=false:=by
          rw [Bool.and_eq_false_iff]
          refine .inr ?_
          cases ha:L.all fun x=>!decide (manyN x) with
          | false=>rfl
          | true=>have:=List.all_eq_true.1 ha x hxm; rw [decide_eq_true hN] at this; cases this
        rw [fewB_f hm hf]
        exact Frz.eq rfl (by simp)
      · rename_i h
        have hN:¬ manyN x:=by unfold manyN; omega
        exact ⟨⟨(i+1,ν++[some [⟨80,2,[Nod.cs x],none⟩]]),hlt2,fun y hy=>by
          rw [hsx] at hy
          rcases List.mem_append.1 hy with h | h
          · exact hi2 y h
          · rw [List.mem_singleton.1 h]; exact hN⟩,rfl,rfl,by simp only; omega⟩
    · obtain rfl:i=L.length:=by omega
      rw [List.take_length] at hi2
      (repeat' ((first
 | refine vn rfl ?_
 | simp (disch:=omega) only [wr64,Int.zero_sub]
 | refine bo (fun _=>?_) fun _=>?_
 | refine im fun _=>?_
 | refine cF ?_
 | refine om ?_
 | refine an ?_
 | fail) <;> try simp only [zT,zV,zS,zU,vcC,lateX,ex,strp,binA,elems,cells,scalar,eqC,keyA,intsA,lookA,ofVs,mpOf,Nat.reduceBEq,reduceAdd,reduceSub,reduceLT,reduceLeDiff,reduceMul,reduceEqDiff,reduceIte,gtk]))
      all_goals try (exfalso; omega)
      exact ⟨⟨(k+1,ν),hlt,fun l hl=>by
        rw [hsn] at hl
        rcases List.mem_append.1 hl with h | h
        · exact hk2 l h
        · rw [List.mem_singleton.1 h]
          exact ⟨hM',hi2⟩⟩,rfl,rfl,by simp only; omega⟩
  · obtain rfl:k=t.length:=by omega
    rw [List.take_length] at hk2
    rw [fewB_t (by unfold manyT; omega) hk2]
    (repeat' ((first
 | refine vn rfl ?_
 | simp (disch:=omega) only [wr64,Int.zero_sub]
 | refine bo (fun _=>?_) fun _=>?_
 | refine im fun _=>?_
 | refine cF ?_
 | refine om ?_
 | refine an ?_
 | fail) <;> try simp only [zT,zV,zS,zU,vcC,lateX,ex,strp,binA,elems,cells,scalar,eqC,keyA,intsA,lookA,ofVs,mpOf,Nat.reduceBEq,reduceAdd,reduceSub,reduceLT,reduceLeDiff,reduceMul,reduceEqDiff,reduceIte]))
    all_goals try (exfalso; omega)
    exact Frz.eq rfl (by simp)
theorem SameSets_spec (p q:List (List (List Sp))) (hp:setsSz p) (hq:setsSz q):Pure Tryz.prog 21 [stgS p,stgS q] (bl (decide (p=q))):=by
  refine Pure.of_body Tryz.call21 Tryz.func21 k21 (Nat.le_of_ble_eq_true rfl) ?_
  unfold c21
  obtain ⟨hpl,hpx⟩:=hp
  obtain ⟨hql,hqx⟩:=hq
  (repeat' ((first
 | refine vn rfl ?_
 | simp (disch:=omega) only [wr64,Int.zero_sub]
 | refine bo (fun _=>?_) fun _=>?_
 | refine im fun _=>?_
 | refine cF ?_
 | refine om ?_
 | refine an ?_
 | fail) <;> try simp only [zT,zV,zS,zU,vcC,lateX,ex,strp,binA,elems,cells,scalar,eqC,keyA,intsA,lookA,ofVs,mpOf,Nat.reduceBEq,reduceAdd,reduceSub,reduceLT,reduceLeDiff,reduceMul,reduceEqDiff,reduceIte]))
  · rename_i h
    rw [decide_eq_false (fun e=>by rw [e] at h; simp at h)]
    exact Frz.eq rfl (by simp)
  rename_i h
  have hlen:p.length=q.length:=by omega
  refine AWPC.loopE (α:={ y:Nat // y≤p.length∧p.take y=q.take y }) [5] (fun y=>[(5,n y.1)]) (fun y=>[]) (fun y=>p.length - y.1) ⟨0,Nat.zero_le _,rfl⟩ ?_ rfl ?_
  · (simp only [zT,zV,zS,zU,vcC,lateX,ex,strp,binA,elems,cells,scalar,eqC,keyA,intsA,lookA,ofVs,mpOf,Nat.reduceBEq,reduceAdd,reduceSub,reduceLT,reduceLeDiff,reduceMul,reduceEqDiff,reduceIte]; try simp)
  rintro ⟨i,hi,hI⟩
  try simp only at hi hI
  try simp only
  by_cases hlt:i < p.length
  · obtain ⟨x,hx⟩:∃ x,p[i]?=some x:=⟨_,List.getElem?_eq_getElem hlt⟩
    obtain ⟨y,hy⟩:∃ y,q[i]?=some y:=⟨_,List.getElem?_eq_getElem (by omega)⟩
    obtain ⟨x1,x2⟩:=hpx x (List.mem_of_getElem? hx)
    obtain ⟨y1,y2⟩:=hqx y (List.mem_of_getElem? hy)
    have gx:(p.map fun l=>[nodS l]).getD i []=[nodS x]:=getD_map hx
    have gy:(q.map fun l=>[nodS l]).getD i []=[nodS y]:=getD_map hy
    have hne:x≠y→decide (p=q)=false:=fun h=>decide_eq_false fun e=>h (by rw [e,hy] at hx; exact (Option.some.inj hx).symm)
    (repeat' ((first
 | refine vn rfl ?_
 | simp (disch:=omega) only [wr64,Int.zero_sub]
 | refine bo (fun _=>?_) fun _=>?_
 | refine im fun _=>?_
 | refine cF ?_
 | refine om ?_
 | refine an ?_
 | fail) <;> try simp only [zT,zV,zS,zU,vcC,lateX,ex,strp,binA,elems,cells,scalar,eqC,keyA,intsA,lookA,ofVs,mpOf,Nat.reduceBEq,reduceAdd,reduceSub,reduceLT,reduceLeDiff,reduceMul,reduceEqDiff,reduceIte,gx,gy]))
    all_goals try (exfalso; omega)
    · rename_i h2
      rw [hne fun e=>by rw [e] at h2; simp at h2]
      exact Frz.eq rfl (by simp)
    rename_i h2
    have hlen2:x.length=y.length:=by omega
    refine AWPC.loopE (α:={ z:Nat // z≤x.length∧x.take z=y.take z }) [6] (fun z=>[(6,n z.1)]) (fun z=>[]) (fun z=>x.length - z.1) ⟨0,Nat.zero_le _,rfl⟩ ?_ rfl ?_
    · (simp only [zT,zV,zS,zU,vcC,lateX,ex,strp,binA,elems,cells,scalar,eqC,keyA,intsA,lookA,ofVs,mpOf,Nat.reduceBEq,reduceAdd,reduceSub,reduceLT,reduceLeDiff,reduceMul,reduceEqDiff,reduceIte]; try simp)
    rintro ⟨j,hj,hJ⟩
    try simp only at hj hJ
    try simp only
    by_cases hlt2:j < x.length
    · obtain ⟨u,hu⟩:∃ u,x[j]?=some u:=⟨_,List.getElem?_eq_getElem hlt2⟩
      obtain ⟨v,hv⟩:∃ v,y[j]?=some v:=⟨_,List.getElem?_eq_getElem (by omega)⟩
      have gu:(x.map fun l=>[spS l]).getD j []=[spS u]:=getD_map hu
      have gv:(y.map fun l=>[spS l]).getD j []=[spS v]:=getD_map hv
      have hss:=SameSpans_spec u v (x2 u (List.mem_of_getElem? hu)) (y2 v (List.mem_of_getElem? hv))
      by_cases huv:u=v
      · rw [decide_eq_true huv] at hss
        (repeat' ((first
 | refine vn rfl ?_
 | simp (disch:=omega) only [wr64,Int.zero_sub]
 | refine bo (fun _=>?_) fun _=>?_
 | refine im fun _=>?_
 | ((repeat refine si ?_); (first | ((first | refine .inl ⟨_,_,_,_,rfl,fun _=>pu hss,?_⟩ | refine ⟨_,_,_,_,rfl,fun _=>pu hss,?_⟩); (first | refine o1 ?_ | refine o2 ?_ | refine o3 ?_ | refine o4 ?_)) | refine .inl ⟨_,_,_,_,rfl,pu hss,?_⟩))
 | refine cF ?_
 | refine om ?_
 | refine an ?_
 | fail) <;> try simp only [zT, zV, zS, zU, vcC, lateX, ex, strp, binA, elems, cells, scalar, eqC, keyA, intsA, lookA, ofVs, mpOf, Nat.reduceBEq, reduceAdd, reduceSub, reduceLT, reduceLeDiff, reduceMul, reduceEqDiff, reduceIte, gx, gy, gu, gv]))
        all_goals try (exfalso; omega)
        exact ⟨⟨j+1,hlt2,by rw [List.take_add_one,List.take_add_one,hJ,hu,hv,huv]⟩,by simp,by simp only; omega⟩
      · rw [decide_eq_false huv] at hss
        have hxy:x≠y:=fun e=>huv (by rw [e,hv] at hu; exact (Option.some.inj hu).symm)
        (repeat' ((first
 | refine vn rfl ?_
 | simp (disch:=omega) only [wr64,Int.zero_sub]
 | refine bo (fun _=>?_) fun _=>?_
 | refine im fun _=>?_
 | ((repeat refine si ?_); (first | ((first | refine .inl ⟨_,_,_,_,rfl,fun _=>pu hss,?_⟩ | refine ⟨_,_,_,_,rfl,fun _=>pu hss,?_⟩); (first | refine o1 ?_ | refine o2 ?_ | refine o3 ?_ | refine o4 ?_)) | refine .inl ⟨_,_,_,_,rfl,pu hss,?_⟩))
 | refine cF ?_
 | refine om ?_
 | refine an ?_
 | fail) <;> try simp only [zT, zV, zS, zU, vcC, lateX, ex, strp, binA, elems, cells, scalar, eqC, keyA, intsA, lookA, ofVs, mpOf, Nat.reduceBEq, reduceAdd, reduceSub, reduceLT, reduceLeDiff, reduceMul, reduceEqDiff, reduceIte, gx, gy, gu, gv]))
        all_goals try (exfalso; omega)
        rw [hne hxy]
        exact Frz.eq rfl (by simp)
    · obtain rfl:j=x.length:=by omega
      rw [List.take_length,hlen2,List.take_length] at hJ
      (repeat' ((first
 | refine vn rfl ?_
 | simp (disch:=omega) only [wr64,Int.zero_sub]
 | refine bo (fun _=>?_) fun _=>?_
 | refine im fun _=>?_
 | refine cF ?_
 | refine om ?_
 | refine an ?_
 | fail) <;> try simp only [zT,zV,zS,zU,vcC,lateX,ex,strp,binA,elems,cells,scalar,eqC,keyA,intsA,lookA,ofVs,mpOf,Nat.reduceBEq,reduceAdd,reduceSub,reduceLT,reduceLeDiff,reduceMul,reduceEqDiff,reduceIte,gx,gy]))
      all_goals try (exfalso; omega)
      exact ⟨⟨i+1,hlt,by rw [List.take_add_one,List.take_add_one,hI,hx,hy,hJ]⟩,by simp,by simp only; omega⟩
  · obtain rfl:i=p.length:=by omega
    rw [List.take_length,hlen,List.take_length] at hI
    (repeat' ((first
 | refine vn rfl ?_
 | simp (disch:=omega) only [wr64,Int.zero_sub]
 | refine bo (fun _=>?_) fun _=>?_
 | refine im fun _=>?_
 | refine cF ?_
 | refine om ?_
 | refine an ?_
 | fail) <;> try simp only [zT,zV,zS,zU,vcC,lateX,ex,strp,binA,elems,cells,scalar,eqC,keyA,intsA,lookA,ofVs,mpOf,Nat.reduceBEq,reduceAdd,reduceSub,reduceLT,reduceLeDiff,reduceMul,reduceEqDiff,reduceIte]))
    all_goals try (exfalso; omega)
    rw [decide_eq_true hI]
    exact Frz.eq rfl (by simp)
def c15:CF:=⟨111,
 (.seq (.ops [
 ⟨some 2,.box false 24 1 (.t 0),none⟩,
 ⟨some 3,.box false 33 11 (.t 1),none⟩,
 ⟨some 4,.mv (.c (.bool false)),none⟩] [2,3])
 (.seq (.ops [
 ⟨some 15,.call (.f 16) [],none⟩,
 ⟨some 5,.mv (.t 15),none⟩] [2,3,5])
 (.seq (.seq (.ops [
 ⟨some 16,.load (some 1) (.t 2),none⟩,
 ⟨some 17,.call (.f 17) [(.t 16)],none⟩,
 ⟨some 18,.un .not (.t 17),none⟩,
 ⟨some 19,.mv (.t 18),none⟩,
 ⟨some 20,.load (some 11) (.t 3),some (19,false)⟩,
 ⟨some 21,.call (.f 18) [(.t 20)],some (19,false)⟩,
 ⟨some 22,.un .not (.t 21),some (19,false)⟩,
 ⟨some 23,.pick (.t 19) (.c (.bool true)) (.t 22),none⟩] [2,3,5,23])
 (.cond (.t 23) (.seq (.ops [
 ⟨some 24,.mv (.t 5),none⟩,
 ⟨some 4,.mv (.t 24),none⟩] [4])
 .ret)
 .skip))
 (.seq (.ops [
 ⟨some 26,.load (some 1) (.t 2),none⟩,
 ⟨some 27,.call (.f 65) [(.t 26)],none⟩,
 ⟨some 25,.mv (.t 27),none⟩,
 ⟨some 28,.ext 0 (.t 25),none⟩,
 ⟨some 29,.ext 1 (.t 25),none⟩,
 ⟨some 6,.alloc 24 1 [.slice none 0 0],none⟩,
 ⟨none,.store 1 (.t 6) (.t 28),none⟩,
 ⟨some 7,.mv (.t 29),none⟩] [2,3,5,6,7])
 (.seq (.seq (.ops [
 ⟨some 30,.mv (.t 7),none⟩,
 ⟨some 31,.bin .neq (.t 30) (.c (.int .i64 0)),none⟩] [2,3,5,6,31])
 (.cond (.t 31) (.seq (.ops [
 ⟨some 32,.mv (.t 5),none⟩,
 ⟨some 4,.mv (.t 32),none⟩] [4])
 .ret)
 .skip))
 (.seq (.ops [
 ⟨some 34,.load (some 1) (.t 6),none⟩,
 ⟨some 35,.call (.f 30) [(.t 34)],none⟩,
 ⟨some 33,.mv (.t 35),none⟩,
 ⟨some 36,.ext 0 (.t 33),none⟩,
 ⟨some 37,.ext 1 (.t 33),none⟩,
 ⟨some 8,.mv (.t 36),none⟩,
 ⟨some 9,.mv (.t 37),none⟩] [2,3,5,6,8,9])
 (.seq (.ops [
 ⟨some 39,.load (some 1) (.t 2),none⟩,
 ⟨some 40,.call (.f 32) [(.t 39)],none⟩,
 ⟨some 38,.mv (.t 40),none⟩,
 ⟨some 41,.ext 0 (.t 38),none⟩,
 ⟨some 42,.ext 1 (.t 38),none⟩,
 ⟨some 10,.mv (.t 41),none⟩,
 ⟨some 11,.mv (.t 42),none⟩] [2,3,5,6,8,9,10,11])
 (.seq (.seq (.draw [
 ⟨some 43,.mv (.t 9),none⟩,
 ⟨some 44,.bin .neq (.t 43) (.c (.int .i64 0)),none⟩,
 ⟨some 45,.mv (.t 44),none⟩,
 ⟨some 46,.mv (.t 11),some (45,false)⟩,
 ⟨some 47,.bin .neq (.t 46) (.c (.int .i64 0)),some (45,false)⟩,
 ⟨some 48,.pick (.t 45) (.c (.bool true)) (.t 47),none⟩,
 ⟨some 49,.mv (.t 48),none⟩,
 ⟨some 50,.mv (.t 8),some (49,false)⟩,
 ⟨some 51,.len (.t 50),some (49,false)⟩,
 ⟨some 52,.mv (.t 10),some (49,false)⟩,
 ⟨some 53,.len (.t 52),some (49,false)⟩,
 ⟨some 54,.bin .neq (.t 51) (.t 53),some (49,false)⟩,
 ⟨some 55,.pick (.t 49) (.c (.bool true)) (.t 54),none⟩,
 ⟨some 56,.mv (.t 55),none⟩,
 ⟨some 57,.load (some 1) (.t 6),some (56,false)⟩,
 ⟨some 58,.faddr 5 (.t 3),some (56,false)⟩,
 ⟨some 59,.load none (.t 58),some (56,false)⟩,
 ⟨some 60,.call (.f 66) [(.t 59)],some (56,false)⟩,
 ⟨some 61,.call (.f 49) [(.t 57),(.t 60)],some (56,false)⟩,
 ⟨some 62,.load (some 1) (.t 2),some (56,false)⟩,
 ⟨some 63,.faddr 5 (.t 3),some (56,false)⟩,
 ⟨some 64,.load none (.t 63),some (56,false)⟩,
 ⟨some 65,.call (.f 49) [(.t 62),(.t 64)],some (56,false)⟩,
 ⟨some 66,.eqb true (.t 61) (.t 65),some (56,false)⟩,
 ⟨some 67,.pick (.t 56) (.c (.bool true)) (.t 66),none⟩] [
 ] [2,3,5,6,8,10,67])
 (.cond (.t 67) (.seq (.ops [
 ⟨some 4,.mv (.c (.bool false)),none⟩] [4])
 .ret)
 .skip))
 (.seq (.seq (.ops [
 ⟨some 12,.mv (.c (.int .i64 0)),none⟩] [2,3,5,6,8,10,12])
 (.block 0 (.loop (.seq (.seq (.ops [
 ⟨some 68,.mv (.t 12),none⟩,
 ⟨some 69,.mv (.t 8),none⟩,
 ⟨some 70,.len (.t 69),none⟩,
 ⟨some 71,.bin .lss (.t 68) (.t 70),none⟩] [2,3,5,6,8,10,12,71])
 (.cond (.t 71) .skip
 (.exit 0)))
 (.seq (.block 1 (.seq (.draw [
 ⟨some 74,.mv (.t 8),none⟩,
 ⟨some 75,.mv (.t 12),none⟩,
 ⟨some 76,.iaddr 1 (.t 74) (.t 75),none⟩,
 ⟨some 77,.load none (.t 76),none⟩,
 ⟨some 78,.bsl false 61 1 1 [.slice none 0 0] [(0,1,(.t 77))],none⟩,
 ⟨some 79,.mv (.t 10),none⟩,
 ⟨some 80,.mv (.t 10),none⟩,
 ⟨some 81,.len (.t 80),none⟩,
 ⟨some 82,.bin .sub (.t 81) (.c (.int .i64 1)),none⟩,
 ⟨some 83,.mv (.t 12),none⟩,
 ⟨some 84,.bin .sub (.t 82) (.t 83),none⟩,
 ⟨some 85,.iaddr 1 (.t 79) (.t 84),none⟩,
 ⟨some 86,.load none (.t 85),none⟩,
 ⟨some 87,.bsl false 61 1 1 [.slice none 0 0] [(0,1,(.t 86))],none⟩,
 ⟨some 88,.call (.f 21) [(.t 78),(.t 87)],none⟩,
 ⟨some 89,.un .not (.t 88),none⟩] [
 ] [2,3,5,6,8,10,12,89])
 (.cond (.t 89) (.seq (.ops [
 ⟨some 4,.mv (.c (.bool false)),none⟩] [4])
 .ret)
 .skip)))
 (.ops [
 ⟨some 72,.mv (.t 12),none⟩,
 ⟨some 73,.bin .add (.t 72) (.c (.int .i64 1)),none⟩,
 ⟨some 12,.mv (.t 73),none⟩] [2,3,5,6,8,10,12]))))))
 (.seq (.ops [
 ⟨some 91,.load (some 1) (.t 6),none⟩,
 ⟨some 92,.call (.f 65) [(.t 91)],none⟩,
 ⟨some 90,.mv (.t 92),none⟩,
 ⟨some 93,.ext 0 (.t 90),none⟩,
 ⟨some 94,.ext 1 (.t 90),none⟩,
 ⟨some 13,.alloc 24 1 [.slice none 0 0],none⟩,
 ⟨none,.store 1 (.t 13) (.t 93),none⟩,
 ⟨some 14,.mv (.t 94),none⟩] [2,3,5,13,14])
 (.seq (.draw [
 ⟨some 95,.mv (.t 5),none⟩,
 ⟨some 96,.mv (.t 95),none⟩,
 ⟨some 97,.mv (.t 14),some (96,true)⟩,
 ⟨some 98,.bin .neq (.t 97) (.c (.int .i64 0)),some (96,true)⟩,
 ⟨some 99,.mv (.t 98),some (96,true)⟩,
 ⟨some 100,.load (some 1) (.t 13),some (99,false)⟩,
 ⟨some 101,.faddr 5 (.t 3),some (99,false)⟩,
 ⟨some 102,.load none (.t 101),some (99,false)⟩,
 ⟨some 103,.call (.f 49) [(.t 100),(.t 102)],some (99,false)⟩,
 ⟨some 104,.load (some 1) (.t 2),some (99,false)⟩,
 ⟨some 105,.faddr 5 (.t 3),some (99,false)⟩,
 ⟨some 106,.load none (.t 105),some (99,false)⟩,
 ⟨some 107,.call (.f 49) [(.t 104),(.t 106)],some (99,false)⟩,
 ⟨some 108,.eqb false (.t 103) (.t 107),some (99,false)⟩,
 ⟨some 109,.pick (.t 99) (.c (.bool true)) (.t 108),some (96,true)⟩,
 ⟨some 110,.pick (.t 96) (.t 109) (.c (.bool false)),none⟩,
 ⟨some 4,.mv (.t 110),none⟩] [
 ] [4])
 .ret))))))))))),
 [.t 4]⟩
def c66:CF:=⟨20,
 (.seq (.ops [
 ⟨some 2,.mv (.c (.slice none 0 0)),none⟩] [0])
 (.seq (.ops [
 ⟨some 3,.mv (.c (.slice none 0 0)),none⟩] [0,3])
 (.seq (.seq (.ops [
 ⟨some 5,.mv (.t 0),none⟩,
 ⟨some 6,.len (.t 5),none⟩,
 ⟨some 7,.bin .sub (.t 6) (.c (.int .i64 1)),none⟩,
 ⟨some 4,.mv (.t 7),none⟩] [0,3,4])
 (.block 0 (.loop (.seq (.seq (.ops [
 ⟨some 8,.mv (.t 4),none⟩,
 ⟨some 9,.bin .geq (.t 8) (.c (.int .i64 0)),none⟩] [0,3,4,9])
 (.cond (.t 9) .skip
 (.exit 0)))
 (.seq (.block 1 (.ops [
 ⟨some 12,.mv (.t 3),none⟩,
 ⟨some 13,.mv (.t 0),none⟩,
 ⟨some 14,.mv (.t 4),none⟩,
 ⟨some 15,.iaddr 2 (.t 13) (.t 14),none⟩,
 ⟨some 16,.load (some 2) (.t 15),none⟩,
 ⟨some 17,.bsl false 26 2 1 [.int .i64 0,.int .i64 0] [(0,2,(.t 16))],none⟩,
 ⟨some 18,.app 26 2 16 (.t 12) (.t 17),none⟩,
 ⟨some 3,.mv (.t 18),none⟩] [0,3,4]))
 (.ops [
 ⟨some 10,.mv (.t 4),none⟩,
 ⟨some 11,.bin .sub (.t 10) (.c (.int .i64 1)),none⟩,
 ⟨some 4,.mv (.t 11),none⟩] [0,3,4]))))))
 (.seq (.ops [
 ⟨some 19,.mv (.t 3),none⟩,
 ⟨some 2,.mv (.t 19),none⟩] [2])
 .ret)))),
 [.t 2]⟩
theorem k15:chkF Tryz.prog Tryz.f15 c15=true:=by kernel_rfl
theorem k66:chkF Tryz.prog Tryz.f66 c66=true:=by kernel_rfl
theorem back_spec (l:List At) (hl:l.length≤500):Pure Tryz.prog 66 [atS l] (atS l.reverse):=by
  refine Pure.of_body Tryz.call66 Tryz.func66 k66 (Nat.le_of_ble_eq_true rfl) ?_
  unfold c66
  (repeat' ((first
 | refine vn rfl ?_
 | simp (disch:=omega) only [wr64,Int.zero_sub]
 | refine bo (fun _=>?_) fun _=>?_
 | refine im fun _=>?_
 | refine cF ?_
 | refine om ?_
 | refine an ?_
 | fail) <;> try simp only [zT,zV,zS,zU,vcC,lateX,ex,strp,binA,elems,cells,scalar,eqC,keyA,intsA,lookA,ofVs,mpOf,Nat.reduceBEq,reduceAdd,reduceSub,reduceLT,reduceLeDiff,reduceMul,reduceEqDiff,reduceIte]))
  all_goals try (exfalso; omega)
  refine AWPC.own0 26 2 3 rfl ?_
  refine AWPC.loopE (α:={ y:Nat // y≤l.length }) [3,4] (fun y=>[(3,.own 0 0 y.1),(4,n ((l.length:Int) - 1 - y.1))]) (fun y=>[some [⟨26,2,(l.reverse.take y.1).map At.cs,none⟩]]) (fun y=>l.length - y.1) ⟨0,Nat.zero_le _⟩ ?_ rfl ?_
  · (simp only [zT,zV,zS,zU,vcC,lateX,ex,strp,binA,elems,cells,scalar,eqC,keyA,intsA,lookA,ofVs,mpOf,Nat.reduceBEq,reduceAdd,reduceSub,reduceLT,reduceLeDiff,reduceMul,reduceEqDiff,reduceIte]; try simp)
  rintro ⟨i,hi⟩
  try simp only at hi
  try simp only
  by_cases hlt:i < l.length
  · obtain ⟨a,ha⟩:∃ a,l[l.length - 1 - i]?=some a:=⟨_,List.getElem?_eq_getElem (by omega)⟩
    have hr:l.reverse[i]?=some a:=by rw [rev_get hlt]; exact ha
    have hsn:=take_snoc hr
    have hz:((l.length:Int) - 1 - i).toNat=l.length - 1 - i:=by omega
    have hlen:(l.reverse.take i).length=i:=by rw [List.length_take,List.length_reverse]; omega
    (repeat' ((first
 | refine vn rfl ?_
 | simp (disch:=omega) only [wr64,Int.zero_sub]
 | refine bo (fun _=>?_) fun _=>?_
 | refine im fun _=>?_
 | refine cF ?_
 | refine om ?_
 | refine an ?_
 | fail) <;> try simp only [zT,zV,zS,zU,vcC,lateX,ex,strp,binA,elems,cells,scalar,eqC,keyA,intsA,lookA,ofVs,mpOf,Nat.reduceBEq,reduceAdd,reduceSub,reduceLT,reduceLeDiff,reduceMul,reduceEqDiff,reduceIte,hz,getD_map ha,hlen]))
    all_goals try (exfalso; omega)
    all_goals exact ⟨⟨i+1,hlt⟩,⟨rfl,congrArg n (by simp only; omega)⟩,by rw [hsn]; (try simp),by first | omega | (simp only; omega)⟩
  · obtain rfl:i=l.length:=by omega
    have hr:l.reverse.length=l.length:=List.length_reverse
    rw [List.take_of_length_le (by omega)]
    (repeat' ((first
 | refine vn rfl ?_
 | simp (disch:=omega) only [wr64,Int.zero_sub]
 | refine bo (fun _=>?_) fun _=>?_
 | refine im fun _=>?_
 | refine cF ?_
 | refine om ?_
 | refine an ?_
 | fail) <;> try simp only [zT,zV,zS,zU,vcC,lateX,ex,strp,binA,elems,cells,scalar,eqC,keyA,intsA,lookA,ofVs,mpOf,Nat.reduceBEq,reduceAdd,reduceSub,reduceLT,reduceLeDiff,reduceMul,reduceEqDiff,reduceIte]))
    all_goals try (exfalso; omega)
    refine Frz.own (o:=⟨26,2,l.reverse.map At.cs,none⟩) (es:=l.reverse.map At.cs) (show (2:Nat)≠0 by decide) rfl (by simp) (by simp) (fun e j he hj=>?_) fun e he=>?_
    · obtain ⟨x,hx⟩:∃ x,l.reverse[e]?=some x:=⟨_,List.getElem?_eq_getElem (by omega)⟩
      rw [getD_map hx]
      match j,hj with
      | 0,_=>exact Frz.eq rfl (by simp)
      | 1,_=>exact Frz.eq rfl (by simp)
    · obtain ⟨x,hx⟩:∃ x,l.reverse[e]?=some x:=⟨_,List.getElem?_eq_getElem (by omega)⟩
      rw [getD_map hx]; rfl
theorem fwds_szT {t:Trk} (hv:valid t):setsSz (fwds t):=by
  have h2:=hv.2.1
  refine ⟨by simp [fwds]; omega,fun x hx=>?_⟩
  obtain ⟨k,_,rfl⟩:=List.mem_map.1 hx
  have hw:=wd_le hv k
  exact ⟨by rw [fwd_len]; omega,fun l hl=>by have:=good_len (fwd_goods hv k l hl); omega⟩
theorem turn_E {t:Trk} (h:turnE t=0):valid t∧big (turnT t)=false:=by
  unfold turnE at h
  by_cases hv:valid t
  · rw [tr_1 hv] at h
    refine ⟨hv,?_⟩
    cases hb:big (turnT t) with
    | false=>rfl
    | true=>rw [hb] at h; simp at h
  · rw [tr_0 hv] at h; simp at h
theorem turn_twice {t:Trk} (hv:valid t) (hv':valid (turnT t)) {c:List At}:course (turnT (turnT t)) c↔course t c:=by
  have h1:=turn_course hv' (c:=c.reverse)
  rw [List.reverse_reverse] at h1
  exact h1.trans (turn_course hv)
theorem Turned_spec (t:Trk) (x:Ask) (hs:trkSz t) (hx:Ask.sz x):Pure Tryz.prog 15 [trS t,.agg x.cs] (bl true):=by
  refine Pure.of_body Tryz.call15 Tryz.func15 k15 (Nat.le_of_ble_eq_true rfl) ?_
  unfold c15
  have hw:=awake_spec
  have hf:=few_spec t hs
  have hl:=light_spec x hx
  have h1:=Turn_spec t hs
  have i1:=is_spec t x.one hs hx.1
  have hB:=Backward_spec t hs
  have hx1:=hx.1
  have hlong:tr (Light x)=true→x.one.length≤500:=fun h=>by
    have:=(tr_iff.1 h).no
    unfold bulky at this
    omega
  obtain ⟨x1,x2,x3,⟨x4,x5⟩,one,two,lims,⟨x9,x10⟩,sets⟩:=x
  simp only at *
  generalize fewB t=B1 at *
  generalize tr (Light _)=B2 at *
  cases B1 with
  | false =>
    (repeat' ((first
 | refine vn rfl ?_
 | simp (disch:=omega) only [wr64,Int.zero_sub]
 | refine bo (fun _=>?_) fun _=>?_
 | refine im fun _=>?_
 | ((repeat refine si ?_); (first | ((first | refine .inl ⟨_,_,_,_,rfl,fun _=>pu (by first | exact hw | exact hf),?_⟩ | refine ⟨_,_,_,_,rfl,fun _=>pu (by first | exact hw | exact hf),?_⟩); (first | refine o1 ?_ | refine o2 ?_ | refine o3 ?_ | refine o4 ?_)) | refine .inl ⟨_,_,_,_,rfl,pu (by first | exact hw | exact hf),?_⟩))
 | refine cF ?_
 | refine om ?_
 | refine an ?_
 | fail) <;> try simp only [zT,zV,zS,zU,vcC,lateX,ex,strp,binA,elems,cells,scalar,eqC,keyA,intsA,lookA,ofVs,mpOf,Nat.reduceBEq,reduceAdd,reduceSub,reduceLT,reduceLeDiff,reduceMul,reduceEqDiff,reduceIte]))
    all_goals exact Frz.eq rfl (by simp)
  | true =>
  cases B2 with
  | false =>
    (repeat' ((first
 | refine vn rfl ?_
 | simp (disch:=omega) only [wr64,Int.zero_sub]
 | refine bo (fun _=>?_) fun _=>?_
 | refine im fun _=>?_
 | ((repeat refine si ?_); (first | ((first | refine .inl ⟨_,_,_,_,rfl,fun _=>pu (by first | exact hw | exact hf | exact hl),?_⟩ | refine ⟨_,_,_,_,rfl,fun _=>pu (by first | exact hw | exact hf | exact hl),?_⟩); (first | refine o1 ?_ | refine o2 ?_ | refine o3 ?_ | refine o4 ?_)) | refine .inl ⟨_,_,_,_,rfl,pu (by first | exact hw | exact hf | exact hl),?_⟩))
 | refine cF ?_
 | refine om ?_
 | refine an ?_
 | fail) <;> try simp only [zT,zV,zS,zU,vcC,lateX,ex,strp,binA,elems,cells,scalar,eqC,keyA,intsA,lookA,ofVs,mpOf,Nat.reduceBEq,reduceAdd,reduceSub,reduceLT,reduceLeDiff,reduceMul,reduceEqDiff,reduceIte]))
    all_goals exact Frz.eq rfl (by simp)
  | true =>
  have h500:=hlong rfl
  clear hlong
  have hbk:=back_spec one h500
  by_cases he:turnE t=0
  case neg =>
    generalize turnE t=e at *
    (repeat' ((first
 | refine vn rfl ?_
 | simp (disch:=omega) only [wr64,Int.zero_sub]
 | refine bo (fun _=>?_) fun _=>?_
 | refine im fun _=>?_
 | ((repeat refine si ?_); (first | ((first | refine .inl ⟨_,_,_,_,rfl,fun _=>pu (by first | exact hw | exact hf | exact hl | exact h1),?_⟩ | refine ⟨_,_,_,_,rfl,fun _=>pu (by first | exact hw | exact hf | exact hl | exact h1),?_⟩); (first | refine o1 ?_ | refine o2 ?_ | refine o3 ?_ | refine o4 ?_)) | refine .inl ⟨_,_,_,_,rfl,pu (by first | exact hw | exact hf | exact hl | exact h1),?_⟩))
 | refine cF ?_
 | refine om ?_
 | refine an ?_
 | fail) <;> try simp only [zT,zV,zS,zU,vcC,lateX,ex,strp,binA,elems,cells,scalar,eqC,keyA,intsA,lookA,ofVs,mpOf,Nat.reduceBEq,reduceAdd,reduceSub,reduceLT,reduceLeDiff,reduceMul,reduceEqDiff,reduceIte,he]))
    all_goals try (exfalso; omega)
    all_goals exact Frz.eq rfl (by simp)
  obtain ⟨hv,hb⟩:=turn_E he
  have hr:turnR t=turnT t:=by unfold turnR; rw [if_pos he]
  rw [hr,he] at h1
  have hvT:=turn_valid hv hb
  have hsT:=turnT_sz hv
  have hlen:(turnT t).length=t.length:=turn_len
  have hF:=Forward_spec (turnT t) hsT
  rw [tr_1 hvT] at hF
  rw [tr_1 hv] at hB
  simp only [if_true] at hF hB
  have i2:=is_spec (turnT t) one.reverse hsT (by rw [List.length_reverse]; exact hx1)
  have hicc:tr (valid (turnT t)∧course (turnT t) one.reverse)=tr (valid t∧course t one):=by
    rw [decide_eq_decide]
    exact ⟨fun h=>⟨hv,(turn_course hv).1 h.2⟩,fun h=>⟨hvT,(turn_course hv).2 h.2⟩⟩
  rw [hicc] at i2
  have h2:=Turn_spec (turnT t) hsT
  have i3:=is_spec (turnT (turnT t)) one (turnT_sz hvT) hx1
  have hE2:turnE (turnT t)=0→turnR (turnT t)=turnT (turnT t)∧tr (valid (turnT (turnT t))∧course (turnT (turnT t)) one)=tr (valid t∧course t one):=fun h=>by
    obtain ⟨_,hb2⟩:=turn_E h
    refine ⟨by unfold turnR; rw [if_pos h],?_⟩
    rw [decide_eq_decide]
    exact ⟨fun h=>⟨hv,(turn_twice hv hvT).1 h.2⟩,fun h=>⟨turn_valid hvT hb2,(turn_twice hv hvT).2 h.2⟩⟩
  have hrow:∀ s,s < t.length→fwd (turnT t) s=bwd t (t.length - 1 - s):=fun s h=>by
    rw [turn_fwd hv s h]
    unfold bwd
    rw [show t.length - 1 - (t.length - 1 - s)=s by omega]
  have f1:=fwds_len (turnT t)
  have f2:=bwds_len t
  have fz:=fwds_szT hvT
  have htl:=hs.1
  have gB:∀ k,k < t.length→((bwds t).map fun l=>[nodS l]).getD k []=[nodS (bwd t k)]:=fun k h=>bwds_get h
  have gF:∀ k,k < t.length→((fwds (turnT t)).map fun l=>[nodS l]).getD k []=[nodS (fwd (turnT t) k)]:=fun k h=>fwds_get (by rw [hlen]; exact h)
  generalize turnT t=T at *
  generalize turnT T=T2 at *
  generalize tr (valid T2∧course T2 one)=Q2 at *
  generalize tr (valid t∧course t one)=Q at *
  generalize turnR T=R2 at *
  generalize turnE T=E2 at *
  have bnB:(true != true)=false∧(false != false)=false∧(true == true)=true∧(false == false)=true:=by decide
  rw [hlen] at f1
  cases Q <;> (
    (repeat' ((first
 | refine vn rfl ?_
 | simp (disch:=omega) only [wr64,Int.zero_sub]
 | refine bo (fun _=>?_) fun _=>?_
 | refine im fun _=>?_
 | ((repeat refine si ?_); (first | ((first | refine .inl ⟨_,_,_,_,rfl,fun _=>pu (by first | exact hw | exact hf | exact hl | exact h1 | exact hF | exact hB | exact hbk | exact i1 | exact i2),?_⟩ | refine ⟨_,_,_,_,rfl,fun _=>pu (by first | exact hw | exact hf | exact hl | exact h1 | exact hF | exact hB | exact hbk | exact i1 | exact i2),?_⟩); (first | refine o1 ?_ | refine o2 ?_ | refine o3 ?_ | refine o4 ?_)) | refine .inl ⟨_,_,_,_,rfl,pu (by first | exact hw | exact hf | exact hl | exact h1 | exact hF | exact hB | exact hbk | exact i1 | exact i2),?_⟩))
 | refine cF ?_
 | refine om ?_
 | refine an ?_
 | fail) <;> try simp only [zT,zV,zS,zU,vcC,lateX,ex,strp,binA,elems,cells,scalar,eqC,keyA,intsA,lookA,ofVs,mpOf,Nat.reduceBEq,reduceAdd,reduceSub,reduceLT,reduceLeDiff,reduceMul,reduceEqDiff,reduceIte,f1,f2,bnB,bne_self_eq_false]))
    all_goals try (exfalso; omega))
  all_goals refine AWPC.loopS (α:={ y:Nat // y≤t.length }) [12] (fun y=>[(12,n y.1)]) (fun y=>t.length - y.1) ⟨0,Nat.zero_le _⟩ ?_ ?_
  all_goals first | ((simp only [zT,zV,zS,zU,vcC,lateX,ex,strp,binA,elems,cells,scalar,eqC,keyA,intsA,lookA,ofVs,mpOf,Nat.reduceBEq,reduceAdd,reduceSub,reduceLT,reduceLeDiff,reduceMul,reduceEqDiff,reduceIte]; try simp); done) | skip
  all_goals
    rintro ⟨k,hk⟩
    try simp only at hk
    by_cases hlt:k < t.length
    · have g1:=gF k hlt
      have g2:=gB (t.length - 1 - k) (by omega)
      rw [hrow k hlt] at g1
      have hz:((t.length:Int) - 1 - k).toNat=t.length - 1 - k:=by omega
      have sz:setsSz [bwd t (t.length - 1 - k)]:=by
        rw [← hrow k hlt]
        refine ⟨by simp,fun l h=>?_⟩
        rw [List.mem_singleton.1 h]
        exact fz.2 _ (List.mem_map.2 ⟨k,List.mem_range.2 (by omega),rfl⟩)
      have hss:=SameSets_spec _ _ sz sz
      rw [decide_eq_true rfl] at hss
      generalize bwd t (t.length - 1 - k)=X at *
      (repeat' ((first
 | refine vn rfl ?_
 | simp (disch:=omega) only [wr64,Int.zero_sub]
 | refine bo (fun _=>?_) fun _=>?_
 | refine im fun _=>?_
 | ((repeat refine si ?_); (first | ((first | refine .inl ⟨_,_,_,_,rfl,fun _=>pu hss,?_⟩ | refine ⟨_,_,_,_,rfl,fun _=>pu hss,?_⟩); (first | refine o1 ?_ | refine o2 ?_ | refine o3 ?_ | refine o4 ?_)) | refine .inl ⟨_,_,_,_,rfl,pu hss,?_⟩))
 | refine cF ?_
 | refine om ?_
 | refine an ?_
 | fail) <;> try simp only [zT,zV,zS,zU,vcC,lateX,ex,strp,binA,elems,cells,scalar,eqC,keyA,intsA,lookA,ofVs,mpOf,Nat.reduceBEq,reduceAdd,reduceSub,reduceLT,reduceLeDiff,reduceMul,reduceEqDiff,reduceIte,f1,f2,g1,g2,hz]))
      all_goals try (exfalso; omega)
      all_goals exact ⟨⟨k+1,hlt⟩,by simp,by first | omega | (simp only; omega)⟩
    · obtain rfl:k=t.length:=by omega
      by_cases hE:E2=0
      · obtain ⟨rfl,rfl⟩:=hE2 hE
        subst hE
        (repeat' ((first
 | refine vn rfl ?_
 | simp (disch:=omega) only [wr64,Int.zero_sub]
 | refine bo (fun _=>?_) fun _=>?_
 | refine im fun _=>?_
 | ((repeat refine si ?_); (first | ((first | refine .inl ⟨_,_,_,_,rfl,fun _=>pu (by first | exact h2 | exact i1 | exact i3),?_⟩ | refine ⟨_,_,_,_,rfl,fun _=>pu (by first | exact h2 | exact i1 | exact i3),?_⟩); (first | refine o1 ?_ | refine o2 ?_ | refine o3 ?_ | refine o4 ?_)) | refine .inl ⟨_,_,_,_,rfl,pu (by first | exact h2 | exact i1 | exact i3),?_⟩))
 | refine cF ?_
 | refine om ?_
 | refine an ?_
 | fail) <;> try simp only [zT, zV, zS, zU, vcC, lateX, ex, strp, binA, elems, cells, scalar, eqC, keyA, intsA, lookA, ofVs, mpOf, Nat.reduceBEq, reduceAdd, reduceSub, reduceLT, reduceLeDiff, reduceMul, reduceEqDiff, reduceIte, f1, bnB]))
        all_goals try (exfalso; omega)
        all_goals exact Frz.eq rfl (by simp)
      · (repeat' ((first
 | refine vn rfl ?_
 | simp (disch:=omega) only [wr64,Int.zero_sub]
 | refine bo (fun _=>?_) fun _=>?_
 | refine im fun _=>?_
 | ((repeat refine si ?_); (first | ((first | refine .inl ⟨_,_,_,_,rfl,fun _=>pu h2,?_⟩ | refine ⟨_,_,_,_,rfl,fun _=>pu h2,?_⟩); (first | refine o1 ?_ | refine o2 ?_ | refine o3 ?_ | refine o4 ?_)) | refine .inl ⟨_,_,_,_,rfl,pu h2,?_⟩))
 | refine cF ?_
 | refine cG ?_
 | refine om ?_
 | refine an ?_
 | fail) <;> try simp only [zT, zV, zS, zU, vcC, lateX, ex, strp, binA, elems, cells, scalar, eqC, keyA, intsA, lookA, ofVs, mpOf, Nat.reduceBEq, reduceAdd, reduceSub, reduceLT, reduceLeDiff, reduceMul, reduceEqDiff, reduceIte, f1, hE]))
        all_goals try (exfalso; omega)
        all_goals exact Frz.eq rfl (by simp)
end Go.Proofs.YtahkhnagpdlkiaaGreat
