/- Part 9 of the texts that the claim rests on: abstract values over the walk, and contracts of functions. -/
import Derived.Test.YtahkhnagpdlkiaaGreatBp8
import Derived.Test.YtahkhnagpdlkiaaGreatRows
import Derived.WalkKit
import Derived.ProofKit
import Derived.OpenShut
import Derived.ShutString
import Derived.ChangeOld
import Derived.Below
namespace Go.Proofs.YtahkhnagpdlkiaaGreat
open Go.Abs
open Nat (reduceAdd reduceSub reduceLT reduceLeDiff reduceMul reduceEqDiff)
set_option linter.unusedVariables false
set_option linter.unusedSimpArgs false
set_option maxHeartbeats 4000000
set_option maxRecDepth 100000
open Go.ChangeShapes Go.WideShapes Go.ChangeAt Go.RowKit
theorem own:ownKnob Tryz.prog.godebug=none:=by kernel_rfl
theorem laidOut:laidOutB Tryz.prog=true:=by kernel_rfl
theorem cells3:Tryz.prog.cellsOf 3=1:=by kernel_rfl
theorem cells30:Tryz.prog.cellsOf 30=2:=by kernel_rfl
theorem cells45:Tryz.prog.cellsOf 45=1:=by kernel_rfl
theorem cells124:Tryz.prog.cellsOf 124=3:=by kernel_rfl
theorem cells78:Tryz.prog.cellsOf 78=1:=by kernel_rfl
theorem cells80:Tryz.prog.cellsOf 80=2:=by kernel_rfl
theorem cells68:Tryz.prog.cellsOf 68=1:=by kernel_rfl
theorem cells22:Tryz.prog.cellsOf 22=1:=by kernel_rfl
theorem cells24:Tryz.prog.cellsOf 24=1:=by kernel_rfl
theorem cells61:Tryz.prog.cellsOf 61=1:=by kernel_rfl
theorem cells31:Tryz.prog.cellsOf 31=1:=by kernel_rfl
theorem cells26:Tryz.prog.cellsOf 26=2:=by kernel_rfl
theorem cells27:Tryz.prog.cellsOf 27=1:=by kernel_rfl
theorem cells65:Tryz.prog.cellsOf 65=2:=by kernel_rfl
theorem cells28:Tryz.prog.cellsOf 28=1:=by kernel_rfl
theorem cells33:Tryz.prog.cellsOf 33=11:=by kernel_rfl
theorem op3:Opens Tryz.prog 3 Int (fun z=>[n z]) (fun _=>True):=(opens_int Tryz.underlying3).to id (fun _=>rfl) (fun _ _=>trivial)
theorem op30:Opens Tryz.prog 30 Sp Sp.cs (fun _=>True) :=
  (opens_struct Tryz.underlying30 cells30 (fun _=>rfl) (opensF_cons rfl cells3 op3 (fun _=>rfl) (opensF_cons rfl cells3 op3 (fun _=>rfl) (opensF_nil _)))).to (fun a=>⟨a.1,a.2.1⟩) (fun _=>rfl) (fun _ _=>trivial)
theorem op45:Opens Tryz.prog 45 (List Sp) (fun l=>[spS l]) (fun l=>l.length < 9223372036854775808) :=
  (opens_slice Tryz.underlying45 cells30 (by decide) op30 (fun _=>rfl)).to id (fun _=>rfl) (fun _ h=>h.1)
theorem op124:Opens Tryz.prog 124 Edg Edg.cs (fun _=>True) :=
  (opens_struct Tryz.underlying124 cells124 (fun _=>rfl) (opensF_cons rfl cells3 op3 (fun _=>rfl) (opensF_cons rfl cells30 op30 (fun _=>rfl) (opensF_nil _)))).to (fun a=>⟨a.1,a.2.1⟩) (fun _=>rfl) (fun _ _=>trivial)
theorem op78:Opens Tryz.prog 78 (List Edg) (fun l=>[edS l]) (fun l=>l.length < 9223372036854775808) :=
  (opens_slice Tryz.underlying78 cells124 (by decide) op124 (fun _=>rfl)).to id (fun _=>rfl) (fun _ h=>h.1)
theorem op80:Opens Tryz.prog 80 Nod Nod.cs nodSz :=
  (opens_struct Tryz.underlying80 cells80 (fun _=>rfl) (opensF_cons rfl cells45 op45 (fun _=>rfl) (opensF_cons rfl cells78 op78 (fun _=>rfl) (opensF_nil _)))).to (fun a=>⟨a.1,a.2.1⟩) (fun _=>rfl) (fun _ h=>⟨h.1,h.2.1⟩)
theorem op68:Opens Tryz.prog 68 (List Nod) (fun l=>[stS l]) stgSz :=
  (opens_slice Tryz.underlying68 cells80 (by decide) op80 (fun _=>rfl)).to id (fun _=>rfl) (fun _ h=>h)
theorem op22:Opens Tryz.prog 22 Trk (fun l=>[tkS l]) trkSz :=
  (opens_slice Tryz.underlying22 cells68 (by decide) op68 (fun _=>rfl)).to id (fun _=>rfl) (fun _ h=>h)
theorem op24:Opens Tryz.prog 24 Trk (fun l=>[tkS l]) trkSz :=
  (opens_struct Tryz.underlying24 cells24 (fun _=>rfl) (opensF_cons rfl cells22 op22 (fun _=>rfl) (opensF_nil _))).to (fun a=>a.1) (fun _=>rfl) (fun _ h=>h.1)
theorem op61:Opens Tryz.prog 61 (List (List Sp)) (fun l=>[nodS l]) (fun l=>l.length < 9223372036854775808∧∀ x∈l,x.length < 9223372036854775808) :=
  (opens_slice Tryz.underlying61 cells45 (by decide) op45 (fun _=>rfl)).to id (fun _=>rfl) (fun _ h=>h)
theorem op31:Opens Tryz.prog 31 (List (List (List Sp))) (fun l=>[stgS l]) setsSz :=
  (opens_slice Tryz.underlying31 cells61 (by decide) op61 (fun _=>rfl)).to id (fun _=>rfl) (fun _ h=>h)
theorem op26:Opens Tryz.prog 26 At At.cs (fun _=>True) :=
  (opens_struct Tryz.underlying26 cells26 (fun _=>rfl) (opensF_cons rfl cells3 op3 (fun _=>rfl) (opensF_cons rfl cells3 op3 (fun _=>rfl) (opensF_nil _)))).to (fun a=>⟨a.1,a.2.1⟩) (fun _=>rfl) (fun _ _=>trivial)
theorem op27:Opens Tryz.prog 27 (List At) (fun l=>[atS l]) (fun l=>l.length < 9223372036854775808) :=
  (opens_slice Tryz.underlying27 cells26 (by decide) op26 (fun _=>rfl)).to id (fun _=>rfl) (fun _ h=>h.1)
theorem op65:Opens Tryz.prog 65 Lim Lim.cs (fun x=>x.vs.length < 9223372036854775808) :=
  (opens_struct Tryz.underlying65 cells65 (fun _=>rfl) (opensF_cons rfl cells3 op3 (fun _=>rfl) (opensF_cons rfl cells45 op45 (fun _=>rfl) (opensF_nil _)))).to (fun a=>⟨a.1,a.2.1⟩) (fun _=>rfl) (fun _ h=>h.2.1)
theorem op28:Opens Tryz.prog 28 (List Lim) (fun l=>[liS l]) limSz :=
  (opens_slice Tryz.underlying28 cells65 (by decide) op65 (fun _=>rfl)).to id (fun _=>rfl) (fun _ h=>h)
structure Ask where
  stage:Int
  to:Int
  first:Int
  pl:At
  one:List At
  two:List At
  lims:List Lim
  ch:Sp
  sets:List (List (List Sp))
abbrev Ask.cs (x:Ask):List AV:=[n x.stage,n x.to,n x.first,n x.pl.node,n x.pl.val,atS x.one,atS x.two,liS x.lims,n x.ch.lo,n x.ch.hi,stgS x.sets]
def Ask.sz (x:Ask):Prop:=x.one.length < 9223372036854775808∧x.two.length < 9223372036854775808∧limSz x.lims∧setsSz x.sets
theorem op33:Opens Tryz.prog 33 Ask Ask.cs Ask.sz :=
  (opens_struct Tryz.underlying33 cells33 (fun _=>rfl) (opensF_cons rfl cells3 op3 (fun _=>rfl) (opensF_cons rfl cells3 op3 (fun _=>rfl) (opensF_cons rfl cells3 op3 (fun _=>rfl) (opensF_cons rfl cells26 op26 (fun _=>rfl) (opensF_cons rfl cells27 op27 (fun _=>rfl) (opensF_cons rfl cells27 op27 (fun _=>rfl) (opensF_cons rfl cells28 op28 (fun _=>rfl) (opensF_cons rfl cells30 op30 (fun _=>rfl) (opensF_cons rfl cells31 op31 (fun _=>rfl) (opensF_nil _))))))))))).to (fun a=>⟨a.1,a.2.1,a.2.2.1,a.2.2.2.1,a.2.2.2.2.1,a.2.2.2.2.2.1,a.2.2.2.2.2.2.1,a.2.2.2.2.2.2.2.1,a.2.2.2.2.2.2.2.2.1⟩) (fun _=>rfl) (fun _ h=>⟨h.2.2.2.2.1,h.2.2.2.2.2.1,h.2.2.2.2.2.2.1,h.2.2.2.2.2.2.2.2.1⟩)
section
variable {H:Type} {enc:TypeId × Value→H} {w:World} {r:Reach} {base b0:Nat} {sp:Nat→Bool} {held:Bool} {v:Value} {d:DataW H} {ps:List MemPlace}
theorem open_ats (h:Value.okWide Tryz.prog w r base 27 v) (hx:DataW.Trod enc Tryz.prog w b0 sp held 27 v d ps):∃ l:List At,l.length < 9223372036854775808∧RV w (fun _=>False) nob [] (atS l) v:=by
  obtain ⟨a,len,cap,rfl⟩:=okWide_slice Tryz.underlying27 h
  exact op27.one rfl hx
theorem open_trk (h:Value.okWide Tryz.prog w r base 24 v) (hx:DataW.Trod enc Tryz.prog w b0 sp held 24 v d ps):∃ l:Trk,trkSz l∧RV w (fun _=>False) nob [] (trS l) v:=by
  obtain ⟨cs,rfl,_⟩:=okWide_struct Tryz.underlying24 h
  exact op24.agg hx
theorem open_ask (h:Value.okWide Tryz.prog w r base 33 v) (hx:DataW.Trod enc Tryz.prog w b0 sp held 33 v d ps):∃ l:Ask,Ask.sz l∧RV w (fun _=>False) nob [] (.agg l.cs) v:=by
  obtain ⟨cs,rfl,_⟩:=okWide_struct Tryz.underlying33 h
  exact op33.agg hx
end
end Go.Proofs.YtahkhnagpdlkiaaGreat
namespace Go.Proofs.YtahkhnagpdlkiaaGreat
open Go.Abs
open Nat (reduceAdd reduceSub reduceLT reduceLeDiff reduceMul reduceEqDiff)
set_option linter.unusedVariables false
set_option linter.unusedSimpArgs false
set_option maxHeartbeats 4000000
set_option maxRecDepth 100000
def c18:CF:=⟨77,
 (.seq (.ops [
 ⟨some 1,.box false 33 11 (.t 0),none⟩,
 ⟨some 2,.mv (.c (.bool false)),none⟩] [1])
 (.seq (.seq (.ops [
 ⟨some 6,.faddr 5 (.t 1),none⟩,
 ⟨some 7,.load none (.t 6),none⟩,
 ⟨some 8,.len (.t 7),none⟩,
 ⟨some 9,.bin .gtr (.t 8) (.c (.int .i64 500)),none⟩,
 ⟨some 10,.mv (.t 9),none⟩,
 ⟨some 11,.faddr 6 (.t 1),some (10,false)⟩,
 ⟨some 12,.load none (.t 11),some (10,false)⟩,
 ⟨some 13,.len (.t 12),some (10,false)⟩,
 ⟨some 14,.bin .gtr (.t 13) (.c (.int .i64 500)),some (10,false)⟩,
 ⟨some 15,.pick (.t 10) (.c (.bool true)) (.t 14),none⟩,
 ⟨some 16,.mv (.t 15),none⟩,
 ⟨some 17,.faddr 7 (.t 1),some (16,false)⟩,
 ⟨some 18,.load none (.t 17),some (16,false)⟩,
 ⟨some 19,.len (.t 18),some (16,false)⟩,
 ⟨some 20,.bin .gtr (.t 19) (.c (.int .i64 12)),some (16,false)⟩,
 ⟨some 21,.pick (.t 16) (.c (.bool true)) (.t 20),none⟩,
 ⟨some 22,.mv (.t 21),none⟩,
 ⟨some 23,.faddr 10 (.t 1),some (22,false)⟩,
 ⟨some 24,.load none (.t 23),some (22,false)⟩,
 ⟨some 25,.len (.t 24),some (22,false)⟩,
 ⟨some 26,.bin .gtr (.t 25) (.c (.int .i64 12)),some (22,false)⟩,
 ⟨some 27,.pick (.t 22) (.c (.bool true)) (.t 26),none⟩] [1,27])
 (.cond (.t 27) (.seq (.ops [
 ⟨some 2,.mv (.c (.bool false)),none⟩] [2])
 .ret)
 .skip))
 (.seq (.seq (.ops [
 ⟨some 3,.mv (.c (.int .i64 0)),none⟩] [1,3])
 (.block 0 (.loop (.seq (.seq (.ops [
 ⟨some 28,.mv (.t 3),none⟩,
 ⟨some 29,.faddr 7 (.t 1),none⟩,
 ⟨some 30,.load none (.t 29),none⟩,
 ⟨some 31,.len (.t 30),none⟩,
 ⟨some 32,.bin .lss (.t 28) (.t 31),none⟩] [1,3,32])
 (.cond (.t 32) .skip
 (.exit 0)))
 (.seq (.block 1 (.seq (.ops [
 ⟨some 35,.faddr 7 (.t 1),none⟩,
 ⟨some 36,.load none (.t 35),none⟩,
 ⟨some 37,.mv (.t 3),none⟩,
 ⟨some 38,.iaddr 2 (.t 36) (.t 37),none⟩,
 ⟨some 39,.faddr 1 (.t 38),none⟩,
 ⟨some 40,.load none (.t 39),none⟩,
 ⟨some 41,.call (.f 24) [(.t 40)],none⟩,
 ⟨some 42,.un .not (.t 41),none⟩] [1,3,42])
 (.cond (.t 42) (.seq (.ops [
 ⟨some 2,.mv (.c (.bool false)),none⟩] [2])
 .ret)
 .skip)))
 (.ops [
 ⟨some 33,.mv (.t 3),none⟩,
 ⟨some 34,.bin .add (.t 33) (.c (.int .i64 1)),none⟩,
 ⟨some 3,.mv (.t 34),none⟩] [1,3]))))))
 (.seq (.seq (.ops [
 ⟨some 4,.mv (.c (.int .i64 0)),none⟩] [1,4])
 (.block 2 (.loop (.seq (.seq (.ops [
 ⟨some 43,.mv (.t 4),none⟩,
 ⟨some 44,.faddr 10 (.t 1),none⟩,
 ⟨some 45,.load none (.t 44),none⟩,
 ⟨some 46,.len (.t 45),none⟩,
 ⟨some 47,.bin .lss (.t 43) (.t 46),none⟩] [1,4,47])
 (.cond (.t 47) .skip
 (.exit 2)))
 (.seq (.block 3 (.seq (.seq (.ops [
 ⟨some 50,.faddr 10 (.t 1),none⟩,
 ⟨some 51,.load none (.t 50),none⟩,
 ⟨some 52,.mv (.t 4),none⟩,
 ⟨some 53,.iaddr 1 (.t 51) (.t 52),none⟩,
 ⟨some 54,.load none (.t 53),none⟩,
 ⟨some 55,.len (.t 54),none⟩,
 ⟨some 56,.bin .gtr (.t 55) (.c (.int .i64 12)),none⟩] [1,4,56])
 (.cond (.t 56) (.seq (.ops [
 ⟨some 2,.mv (.c (.bool false)),none⟩] [2])
 .ret)
 .skip))
 (.seq (.ops [
 ⟨some 5,.mv (.c (.int .i64 0)),none⟩] [1,4,5])
 (.block 4 (.loop (.seq (.seq (.ops [
 ⟨some 57,.mv (.t 5),none⟩,
 ⟨some 58,.faddr 10 (.t 1),none⟩,
 ⟨some 59,.load none (.t 58),none⟩,
 ⟨some 60,.mv (.t 4),none⟩,
 ⟨some 61,.iaddr 1 (.t 59) (.t 60),none⟩,
 ⟨some 62,.load none (.t 61),none⟩,
 ⟨some 63,.len (.t 62),none⟩,
 ⟨some 64,.bin .lss (.t 57) (.t 63),none⟩] [1,4,5,64])
 (.cond (.t 64) .skip
 (.exit 4)))
 (.seq (.block 5 (.seq (.ops [
 ⟨some 67,.faddr 10 (.t 1),none⟩,
 ⟨some 68,.load none (.t 67),none⟩,
 ⟨some 69,.mv (.t 4),none⟩,
 ⟨some 70,.iaddr 1 (.t 68) (.t 69),none⟩,
 ⟨some 71,.load none (.t 70),none⟩,
 ⟨some 72,.mv (.t 5),none⟩,
 ⟨some 73,.iaddr 1 (.t 71) (.t 72),none⟩,
 ⟨some 74,.load none (.t 73),none⟩,
 ⟨some 75,.len (.t 74),none⟩,
 ⟨some 76,.bin .gtr (.t 75) (.c (.int .i64 40)),none⟩] [1,4,5,76])
 (.cond (.t 76) (.seq (.ops [
 ⟨some 2,.mv (.c (.bool false)),none⟩] [2])
 .ret)
 .skip)))
 (.ops [
 ⟨some 65,.mv (.t 5),none⟩,
 ⟨some 66,.bin .add (.t 65) (.c (.int .i64 1)),none⟩,
 ⟨some 5,.mv (.t 66),none⟩] [1,4,5]))))))))
 (.ops [
 ⟨some 48,.mv (.t 4),none⟩,
 ⟨some 49,.bin .add (.t 48) (.c (.int .i64 1)),none⟩,
 ⟨some 4,.mv (.t 49),none⟩] [1,4]))))))
 (.seq (.ops [
 ⟨some 2,.mv (.c (.bool true)),none⟩] [2])
 .ret))))),
 [.t 2]⟩
theorem k18:chkF Tryz.prog Tryz.f18 c18=true:=by kernel_rfl
abbrev bulky (x:Ask):Prop:=((500 < x.one.length∨500 < x.two.length)∨12 < x.lims.length)∨12 < x.sets.length
abbrev briefL (l:List Sp):Prop:=l.length≤12∨64 < l.length∧l.length≤128
structure Light (x:Ask):Prop where
  no:¬ bulky x
  lims:∀ y∈x.lims,briefL y.vs
  sets:∀ l∈x.sets,l.length≤12∧∀ s∈l,s.length≤40
theorem light_spec (x:Ask) (hs:Ask.sz x):Pure Tryz.prog 18 [.agg x.cs] (bl (tr (Light x))):=by
  refine Pure.of_body Tryz.call18 Tryz.func18 k18 (Nat.le_of_ble_eq_true rfl) ?_
  unfold c18
  have hno:¬ Light x→tr (Light x)=false:=tr_0
  obtain ⟨s1,s2,⟨s3,s4⟩,s5,s6⟩:=hs
  have hb:=fun (h:bulky x)=>hno fun g=>g.no h
  have hli:=fun (y:Lim) (hy:y∈x.lims) (h:¬ briefL y.vs)=>hno fun g=>h (g.lims y hy)
  have hse:=fun (l:List (List Sp)) (hl:l∈x.sets) (h:¬ l.length≤12)=>hno fun g=>h (g.sets l hl).1
  have hss:=fun (l:List (List Sp)) (hl:l∈x.sets) (s:List Sp) (hs:s∈l) (h:¬ s.length≤40)=>hno fun g=>h ((g.sets l hl).2 s hs)
  have hok:=fun (h:¬ bulky x) (h2:∀ y∈x.lims,briefL y.vs) (h3:∀ l∈x.sets,l.length≤12∧∀ s∈l,s.length≤40)=>(tr_1 (Light.mk h h2 h3):tr (Light x)=true)
  generalize tr (Light x)=R at *
  clear hno
  obtain ⟨a1,a2,a3,⟨a4,a5⟩,a6,a7,a8,⟨a9,b1⟩,b2⟩:=x
  try simp only at s1 s2 s3 s4 s5 s6 hb hli hse hss hok
  (repeat' ((first
 | refine vn rfl ?_
 | simp (disch:=omega) only [wr64,Int.zero_sub]
 | refine bo (fun _=>?_) fun _=>?_
 | refine im fun _=>?_
 | refine cF ?_
 | refine om ?_
 | refine an ?_
 | fail) <;> try simp only [zT,zV,zS,zU,vcC,lateX,ex,strp,binA,elems,cells,scalar,eqC,keyA,intsA,lookA,ofVs,mpOf,Nat.reduceBEq,reduceAdd,reduceSub,reduceLT,reduceLeDiff,reduceMul,reduceEqDiff,reduceIte]))
  all_goals try (exfalso; omega)
  · rename_i h
    rw [hb (by unfold bulky; simp only; omega)]
    exact Frz.eq rfl (by simp)
  rename_i h
  have hnb:¬ bulky ⟨a1,a2,a3,⟨a4,a5⟩,a6,a7,a8,⟨a9,b1⟩,b2⟩:=by unfold bulky; simp only; omega
  refine AWPC.loopE (α:={ y:Nat // y≤a8.length∧∀ z∈a8.take y,briefL z.vs }) [3] (fun y=>[(3,n y.1)]) (fun y=>[]) (fun y=>a8.length - y.1) ⟨0,Nat.zero_le _,by simp⟩ ?_ rfl ?_
  · (simp only [zT,zV,zS,zU,vcC,lateX,ex,strp,binA,elems,cells,scalar,eqC,keyA,intsA,lookA,ofVs,mpOf,Nat.reduceBEq,reduceAdd,reduceSub,reduceLT,reduceLeDiff,reduceMul,reduceEqDiff,reduceIte]; try simp)
  rintro ⟨i,hi,hI⟩
  try simp only at hi hI
  try simp only
  by_cases hlt:i < a8.length
  · obtain ⟨y,hy⟩:∃ y,a8[i]?=some y:=⟨_,List.getElem?_eq_getElem hlt⟩
    have hym:=List.mem_of_getElem? hy
    have hsn:=take_snoc hy
    have hbr:=brief_spec y.vs
    by_cases hb:briefL y.vs
    · rw [decide_eq_true hb] at hbr
      (repeat' ((first
 | refine vn rfl ?_
 | simp (disch:=omega) only [wr64,Int.zero_sub]
 | refine bo (fun _=>?_) fun _=>?_
 | refine im fun _=>?_
 | ((repeat refine si ?_); (first | ((first | refine .inl ⟨_,_,_,_,rfl,fun _=>pu hbr,?_⟩ | refine ⟨_,_,_,_,rfl,fun _=>pu hbr,?_⟩); (first | refine o1 ?_ | refine o2 ?_ | refine o3 ?_ | refine o4 ?_)) | refine .inl ⟨_,_,_,_,rfl,pu hbr,?_⟩))
 | refine cF ?_
 | refine om ?_
 | refine an ?_
 | fail) <;> try simp only [zT,zV,zS,zU,vcC,lateX,ex,strp,binA,elems,cells,scalar,eqC,keyA,intsA,lookA,ofVs,mpOf,Nat.reduceBEq,reduceAdd,reduceSub,reduceLT,reduceLeDiff,reduceMul,reduceEqDiff,reduceIte,getD_map hy]))
      all_goals try (exfalso; omega)
      exact ⟨⟨i+1,hlt,fun z hz=>by
        rw [hsn] at hz
        rcases List.mem_append.1 hz with h | h
        · exact hI z h
        · rw [List.mem_singleton.1 h]; exact hb⟩,rfl,by simp only; omega⟩
    · rw [decide_eq_false hb] at hbr
      (repeat' ((first
 | refine vn rfl ?_
 | simp (disch:=omega) only [wr64,Int.zero_sub]
 | refine bo (fun _=>?_) fun _=>?_
 | refine im fun _=>?_
 | ((repeat refine si ?_); (first | ((first | refine .inl ⟨_,_,_,_,rfl,fun _=>pu hbr,?_⟩ | refine ⟨_,_,_,_,rfl,fun _=>pu hbr,?_⟩); (first | refine o1 ?_ | refine o2 ?_ | refine o3 ?_ | refine o4 ?_)) | refine .inl ⟨_,_,_,_,rfl,pu hbr,?_⟩))
 | refine cF ?_
 | refine om ?_
 | refine an ?_
 | fail) <;> try simp only [zT,zV,zS,zU,vcC,lateX,ex,strp,binA,elems,cells,scalar,eqC,keyA,intsA,lookA,ofVs,mpOf,Nat.reduceBEq,reduceAdd,reduceSub,reduceLT,reduceLeDiff,reduceMul,reduceEqDiff,reduceIte,getD_map hy]))
      all_goals try (exfalso; omega)
      rw [hli y hym hb]
      exact Frz.eq rfl (by simp)
  · obtain rfl:i=a8.length:=by omega
    rw [List.take_length] at hI
    (repeat' ((first
 | refine vn rfl ?_
 | simp (disch:=omega) only [wr64,Int.zero_sub]
 | refine bo (fun _=>?_) fun _=>?_
 | refine im fun _=>?_
 | refine cF ?_
 | refine om ?_
 | refine an ?_
 | fail) <;> try simp only [zT,zV,zS,zU,vcC,lateX,ex,strp,binA,elems,cells,scalar,eqC,keyA,intsA,lookA,ofVs,mpOf,Nat.reduceBEq,reduceAdd,reduceSub,reduceLT,reduceLeDiff,reduceMul,reduceEqDiff,reduceIte]))
    all_goals try (exfalso; omega)
    refine AWPC.loopE (α:={ y:Nat // y≤b2.length∧∀ l∈b2.take y,l.length≤12∧∀ s∈l,s.length≤40 }) [4] (fun y=>[(4,n y.1)]) (fun y=>[]) (fun y=>b2.length - y.1) ⟨0,Nat.zero_le _,by simp⟩ ?_ rfl ?_
    · (simp only [zT,zV,zS,zU,vcC,lateX,ex,strp,binA,elems,cells,scalar,eqC,keyA,intsA,lookA,ofVs,mpOf,Nat.reduceBEq,reduceAdd,reduceSub,reduceLT,reduceLeDiff,reduceMul,reduceEqDiff,reduceIte]; try simp)
    rintro ⟨k,hk,hK⟩
    try simp only at hk hK
    try simp only
    by_cases hlt:k < b2.length
    · obtain ⟨l,hl⟩:∃ l,b2[k]?=some l:=⟨_,List.getElem?_eq_getElem hlt⟩
      have hlm:=List.mem_of_getElem? hl
      have hsn:=take_snoc hl
      have gl:(b2.map fun l=>[nodS l]).getD k []=[nodS l]:=getD_map hl
      obtain ⟨l1,l2⟩:=s6 l hlm
      (repeat' ((first
 | refine vn rfl ?_
 | simp (disch:=omega) only [wr64,Int.zero_sub]
 | refine bo (fun _=>?_) fun _=>?_
 | refine im fun _=>?_
 | refine cF ?_
 | refine om ?_
 | refine an ?_
 | fail) <;> try simp only [zT,zV,zS,zU,vcC,lateX,ex,strp,binA,elems,cells,scalar,eqC,keyA,intsA,lookA,ofVs,mpOf,Nat.reduceBEq,reduceAdd,reduceSub,reduceLT,reduceLeDiff,reduceMul,reduceEqDiff,reduceIte,gl]))
      all_goals try (exfalso; omega)
      · rename_i h
        rw [hse l hlm (by omega)]
        exact Frz.eq rfl (by simp)
      rename_i h12
      refine AWPC.loopE (α:={ y:Nat // y≤l.length∧∀ s∈l.take y,s.length≤40 }) [5] (fun y=>[(5,n y.1)]) (fun y=>[]) (fun y=>l.length - y.1) ⟨0,Nat.zero_le _,by simp⟩ ?_ rfl ?_
      · (simp only [zT,zV,zS,zU,vcC,lateX,ex,strp,binA,elems,cells,scalar,eqC,keyA,intsA,lookA,ofVs,mpOf,Nat.reduceBEq,reduceAdd,reduceSub,reduceLT,reduceLeDiff,reduceMul,reduceEqDiff,reduceIte]; try simp)
      rintro ⟨j,hj,hJ⟩
      try simp only at hj hJ
      try simp only
      by_cases hlt2:j < l.length
      · obtain ⟨s,hs⟩:∃ s,l[j]?=some s:=⟨_,List.getElem?_eq_getElem hlt2⟩
        have hsm:=List.mem_of_getElem? hs
        have hsn2:=take_snoc hs
        have gs:(l.map fun l=>[spS l]).getD j []=[spS s]:=getD_map hs
        have hsl:=l2 s hsm
        (repeat' ((first
 | refine vn rfl ?_
 | simp (disch:=omega) only [wr64,Int.zero_sub]
 | refine bo (fun _=>?_) fun _=>?_
 | refine im fun _=>?_
 | refine cF ?_
 | refine om ?_
 | refine an ?_
 | fail) <;> try simp only [zT, zV, zS, zU, vcC, lateX, ex, strp, binA, elems, cells, scalar, eqC, keyA, intsA, lookA, ofVs, mpOf, Nat.reduceBEq, reduceAdd, reduceSub, reduceLT, reduceLeDiff, reduceMul, reduceEqDiff, reduceIte, gl, gs]))
        all_goals try (exfalso; omega)
        · rename_i h
          rw [hss l hlm s hsm (by omega)]
          exact Frz.eq rfl (by simp)
        · rename_i h
          exact ⟨⟨j+1,hlt2,fun z hz=>by
            rw [hsn2] at hz
            rcases List.mem_append.1 hz with h' | h'
            · exact hJ z h'
            · rw [List.mem_singleton.1 h']; omega⟩,rfl,by simp only; omega⟩
      · obtain rfl:j=l.length:=by omega
        rw [List.take_length] at hJ
        (repeat' ((first
 | refine vn rfl ?_
 | simp (disch:=omega) only [wr64,Int.zero_sub]
 | refine bo (fun _=>?_) fun _=>?_
 | refine im fun _=>?_
 | refine cF ?_
 | refine om ?_
 | refine an ?_
 | fail) <;> try simp only [zT, zV, zS, zU, vcC, lateX, ex, strp, binA, elems, cells, scalar, eqC, keyA, intsA, lookA, ofVs, mpOf, Nat.reduceBEq, reduceAdd, reduceSub, reduceLT, reduceLeDiff, reduceMul, reduceEqDiff, reduceIte, gl]))
        all_goals try (exfalso; omega)
        exact ⟨⟨k+1,hlt,fun z hz=>by
          rw [hsn] at hz
          rcases List.mem_append.1 hz with h' | h'
          · exact hK z h'
          · rw [List.mem_singleton.1 h']; exact ⟨by omega,hJ⟩⟩,rfl,by simp only; omega⟩
    · obtain rfl:k=b2.length:=by omega
      rw [List.take_length] at hK
      rw [hok hnb hI hK]
      (repeat' ((first
 | refine vn rfl ?_
 | simp (disch:=omega) only [wr64,Int.zero_sub]
 | refine bo (fun _=>?_) fun _=>?_
 | refine im fun _=>?_
 | refine cF ?_
 | refine om ?_
 | refine an ?_
 | fail) <;> try simp only [zT,zV,zS,zU,vcC,lateX,ex,strp,binA,elems,cells,scalar,eqC,keyA,intsA,lookA,ofVs,mpOf,Nat.reduceBEq,reduceAdd,reduceSub,reduceLT,reduceLeDiff,reduceMul,reduceEqDiff,reduceIte]))
      all_goals try (exfalso; omega)
      exact Frz.eq rfl (by simp)
end Go.Proofs.YtahkhnagpdlkiaaGreat
namespace Go.Abs
set_option linter.unusedVariables false
set_option linter.unusedSimpArgs false
theorem Frz.mp {σ:Sto} {f n:Nat} {o:Ob} {m m':List (List Int × AV)} (ho:σ.at f 0=some o) (hm:mpOf o n=some m) (hl:m.length=m'.length)
    (hk:∀ i,i < m.length→(m'.getD i ([],.any)).1=(m.getD i ([],.any)).1) (hv:∀ i,i < m.length→Frz σ (m.getD i ([],.any)).2 (m'.getD i ([],.any)).2):Frz σ (.mp f) (.imap n m'):=fun w X β x hs hx=>by
  obtain ⟨b,es,cl,hβ,rfl,_,hb,hr⟩:=mp_block hs ho hm hx
  obtain ⟨h1,h2,h3⟩:=of_mprel hr
  have hd:∀ i,es.getD i ⟨undef,undef,0⟩=es.toList.getD i ⟨undef,undef,0⟩:=fun i=>by simp [Array.getD_eq_getD_getElem?,List.getD_eq_getElem?_getD]
  refine .imap n m' b es cl hb (fun hX=>hs.dis f 0 o b ho hβ hX) (by rw [← hl,← h1]; simp) (fun i hi=>?_) fun i hi=>?_
  · rw [hd,hk i (by omega)]; exact h2 i (by omega)
  · rw [hd]; exact hv i (by omega) w X β _ hs (h3 i (by omega))
theorem mget_map {α:Type} (key:α→List Int) (val:α→AV) (ks:List Int):∀ l:List α,mget (l.map fun a=>(key a,val a)) ks=(l.find? fun a=>decide (key a=ks)).map val
  | []=>rfl
  | a::l=>by
    simp only [List.map_cons,mget,List.find?_cons,mget_map key val ks l]
    by_cases h:key a=ks <;> simp [h]
end Go.Abs
namespace Go.Proofs.YtahkhnagpdlkiaaGreat
open Go.Abs
open Nat (reduceAdd reduceSub reduceLT reduceLeDiff reduceMul reduceEqDiff)
set_option linter.unusedVariables false
set_option linter.unusedSimpArgs false
set_option maxHeartbeats 4000000
set_option maxRecDepth 100000
def c123:CF:=⟨41,
 (.seq (.ops [
 ⟨some 2,.mv (.c (.map none)),none⟩] [0])
 (.seq (.ops [
 ⟨some 8,.mkmp 2,none⟩,
 ⟨some 3,.mv (.t 8),none⟩] [0,3])
 (.seq (.seq (.ops [
 ⟨some 9,.mv (.t 0),none⟩,
 ⟨some 10,.len (.t 9),none⟩,
 ⟨some 11,.mv (.c (.int .i64 0)),none⟩] [3,9,10,11])
 (.block 0 (.loop (.seq (.ops [
 ⟨some 12,.bin .lss (.t 11) (.t 10),none⟩] [3,9,10,11,12])
 (.seq (.cond (.t 12) .skip
 (.exit 0))
 (.seq (.block 1 (.seq (.ops [
 ⟨some 13,.mv (.t 11),none⟩,
 ⟨some 14,.iaddr 2 (.t 9) (.t 11),none⟩,
 ⟨some 15,.load (some 2) (.t 14),none⟩,
 ⟨some 5,.alloc 80 2 [.slice none 0 0,.slice none 0 0],none⟩,
 ⟨some 4,.mv (.t 13),none⟩,
 ⟨none,.store 2 (.t 5) (.t 15),none⟩] [3,4,5,9,10,11])
 (.seq (.ops [
 ⟨some 16,.faddr 1 (.t 5),none⟩,
 ⟨some 17,.load none (.t 16),none⟩,
 ⟨some 18,.len (.t 17),none⟩,
 ⟨some 19,.mv (.c (.int .i64 0)),none⟩] [3,4,9,10,11,17,18,19])
 (.block 2 (.loop (.seq (.ops [
 ⟨some 20,.bin .lss (.t 19) (.t 18),none⟩] [3,4,9,10,11,17,18,19,20])
 (.seq (.cond (.t 20) .skip
 (.exit 2))
 (.seq (.block 3 (.seq (.ops [
 ⟨some 21,.iaddr 3 (.t 17) (.t 19),none⟩,
 ⟨some 22,.load (some 3) (.t 21),none⟩,
 ⟨some 7,.alloc 124 3 [.int .i64 0,.int .i64 0,.int .i64 0],none⟩,
 ⟨none,.store 3 (.t 7) (.t 22),none⟩] [3,4,7,9,10,11,17,18,19])
 (.draww [0,1,2,3,4,5,6,7,8,9,10,11,12,13,14,15] [0,1,2,3,4] 1 [
 ⟨some 23,.mv (.t 3),none⟩,
 ⟨some 24,.mv (.t 4),none⟩,
 ⟨some 25,.faddr 0 (.t 7),none⟩,
 ⟨some 26,.load none (.t 25),none⟩,
 ⟨some 27,.build [.int .i64 0,.int .i64 0] [(0,1,(.t 24)),(1,1,(.t 26))],none⟩,
 ⟨some 28,.mv (.t 3),none⟩,
 ⟨some 29,.mv (.t 4),none⟩,
 ⟨some 30,.faddr 0 (.t 7),none⟩,
 ⟨some 31,.load none (.t 30),none⟩,
 ⟨some 32,.build [.int .i64 0,.int .i64 0] [(0,1,(.t 29)),(1,1,(.t 31))],none⟩,
 ⟨some 33,.look 2 false [.slice none 0 0] false (.t 28) (.t 32),none⟩,
 ⟨some 34,.faddr 1 (.t 7),none⟩,
 ⟨some 35,.load (some 2) (.t 34),none⟩,
 ⟨some 36,.bsl false 30 2 1 [.int .i64 0,.int .i64 0] [(0,2,(.t 35))],none⟩] [
 ⟨some 37,.app 30 2 16 (.t 33) (.t 36),none⟩,
 ⟨none,.mput 2 (.t 23) (.t 27) (.t 37),none⟩] [3,4,9,10,11,17,18,19])))
 (.ops [
 ⟨some 38,.bin .add (.t 19) (.c (.int .i64 1)),none⟩,
 ⟨some 19,.mv (.t 38),none⟩] [3,4,9,10,11,17,18,19])))))))))
 (.ops [
 ⟨some 39,.bin .add (.t 11) (.c (.int .i64 1)),none⟩,
 ⟨some 11,.mv (.t 39),none⟩] [3,9,10,11])))))))
 (.seq (.ops [
 ⟨some 40,.mv (.t 3),none⟩,
 ⟨some 2,.mv (.t 40),none⟩] [2])
 .ret)))),
 [.t 2]⟩
def c121:CF:=⟨26,
 (.seq (.ops [
 ⟨some 3,.box false 26 2 (.t 1),none⟩,
 ⟨some 4,.mv (.c (.bool false)),none⟩] [0,3])
 (.seq (.draw [
 ⟨some 5,.faddr 0 (.t 3),none⟩,
 ⟨some 6,.load none (.t 5),none⟩,
 ⟨some 7,.bin .geq (.t 6) (.c (.int .i64 0)),none⟩,
 ⟨some 8,.mv (.t 7),none⟩,
 ⟨some 9,.faddr 0 (.t 3),some (8,true)⟩,
 ⟨some 10,.load none (.t 9),some (8,true)⟩,
 ⟨some 11,.mv (.t 0),some (8,true)⟩,
 ⟨some 12,.len (.t 11),some (8,true)⟩,
 ⟨some 13,.bin .lss (.t 10) (.t 12),some (8,true)⟩,
 ⟨some 14,.pick (.t 8) (.t 13) (.c (.bool false)),none⟩,
 ⟨some 15,.mv (.t 14),none⟩,
 ⟨some 16,.mv (.t 0),some (15,true)⟩,
 ⟨some 17,.faddr 0 (.t 3),some (15,true)⟩,
 ⟨some 18,.load none (.t 17),some (15,true)⟩,
 ⟨some 19,.iaddr 2 (.t 16) (.t 18),some (15,true)⟩,
 ⟨some 20,.faddr 0 (.t 19),some (15,true)⟩,
 ⟨some 21,.load none (.t 20),some (15,true)⟩,
 ⟨some 22,.faddr 1 (.t 3),some (15,true)⟩,
 ⟨some 23,.load none (.t 22),some (15,true)⟩,
 ⟨some 24,.call (.f 122) [(.t 21),(.t 23)],some (15,true)⟩,
 ⟨some 25,.pick (.t 15) (.t 24) (.c (.bool false)),none⟩,
 ⟨some 4,.mv (.t 25),none⟩] [
 ] [4])
 .ret)),
 [.t 4]⟩
def c61:CF:=⟨67,
 (.seq (.ops [
 ⟨some 2,.box false 24 1 (.t 0),none⟩,
 ⟨some 4,.mv (.c (.int .i64 0)),none⟩] [1,2])
 (.seq (.seq (.ops [
 ⟨some 8,.load (some 1) (.t 2),none⟩,
 ⟨some 9,.call (.f 53) [(.t 8)],none⟩,
 ⟨some 5,.mv (.t 9),none⟩] [1,2,5])
 (.seq (.ops [
 ⟨some 10,.mv (.t 5),none⟩,
 ⟨some 11,.bin .neq (.t 10) (.c (.int .i64 0)),none⟩] [1,2,5,11])
 (.cond (.t 11) (.seq (.ops [
 ⟨some 12,.mv (.t 5),none⟩,
 ⟨some 4,.mv (.t 12),none⟩] [4])
 .ret)
 .skip)))
 (.seq (.seq (.ops [
 ⟨some 13,.mv (.t 1),none⟩,
 ⟨some 14,.len (.t 13),none⟩,
 ⟨some 15,.faddr 0 (.t 2),none⟩,
 ⟨some 16,.load none (.t 15),none⟩,
 ⟨some 17,.len (.t 16),none⟩,
 ⟨some 18,.bin .neq (.t 14) (.t 17),none⟩] [1,2,18])
 (.cond (.t 18) (.seq (.ops [
 ⟨some 4,.mv (.c (.int .i64 41)),none⟩] [4])
 .ret)
 .skip))
 (.seq (.seq (.ops [
 ⟨some 19,.mv (.t 1),none⟩,
 ⟨some 20,.len (.t 19),none⟩,
 ⟨some 21,.mv (.c (.int .i64 0)),none⟩] [1,2,19,20,21])
 (.block 0 (.loop (.seq (.ops [
 ⟨some 22,.bin .lss (.t 21) (.t 20),none⟩] [1,2,19,20,21,22])
 (.seq (.cond (.t 22) .skip
 (.exit 0))
 (.seq (.block 1 (.seq (.ops [
 ⟨some 23,.mv (.t 21),none⟩,
 ⟨some 24,.iaddr 2 (.t 19) (.t 21),none⟩,
 ⟨some 25,.load (some 2) (.t 24),none⟩,
 ⟨some 7,.alloc 26 2 [.int .i64 0,.int .i64 0],none⟩,
 ⟨some 6,.mv (.t 23),none⟩,
 ⟨none,.store 2 (.t 7) (.t 25),none⟩] [1,2,6,7,19,20,21])
 (.seq (.seq (.draw [
 ⟨some 26,.faddr 0 (.t 2),none⟩,
 ⟨some 27,.load none (.t 26),none⟩,
 ⟨some 28,.mv (.t 6),none⟩,
 ⟨some 29,.iaddr 1 (.t 27) (.t 28),none⟩,
 ⟨some 30,.load none (.t 29),none⟩,
 ⟨some 31,.load (some 2) (.t 7),none⟩,
 ⟨some 32,.call (.f 121) [(.t 30),(.t 31)],none⟩,
 ⟨some 33,.un .not (.t 32),none⟩] [
 ] [1,2,6,7,19,20,21,33])
 (.cond (.t 33) (.seq (.ops [
 ⟨some 4,.mv (.c (.int .i64 41)),none⟩] [4])
 .ret)
 .skip))
 (.seq (.draw [
 ⟨some 34,.mv (.t 6),none⟩,
 ⟨some 35,.bin .gtr (.t 34) (.c (.int .i64 0)),none⟩,
 ⟨some 36,.mv (.t 35),none⟩,
 ⟨some 37,.faddr 0 (.t 2),some (36,true)⟩,
 ⟨some 38,.load none (.t 37),some (36,true)⟩,
 ⟨some 39,.mv (.t 6),some (36,true)⟩,
 ⟨some 40,.bin .sub (.t 39) (.c (.int .i64 1)),some (36,true)⟩,
 ⟨some 41,.iaddr 1 (.t 38) (.t 40),some (36,true)⟩,
 ⟨some 42,.load none (.t 41),some (36,true)⟩,
 ⟨some 43,.call (.f 123) [(.t 42)],some (36,true)⟩,
 ⟨some 44,.mv (.t 1),some (36,true)⟩,
 ⟨some 45,.mv (.t 6),some (36,true)⟩,
 ⟨some 46,.bin .sub (.t 45) (.c (.int .i64 1)),some (36,true)⟩,
 ⟨some 47,.iaddr 2 (.t 44) (.t 46),some (36,true)⟩,
 ⟨some 48,.faddr 0 (.t 47),some (36,true)⟩,
 ⟨some 49,.load none (.t 48),some (36,true)⟩,
 ⟨some 50,.faddr 0 (.t 7),some (36,true)⟩,
 ⟨some 51,.load none (.t 50),some (36,true)⟩,
 ⟨some 52,.build [.int .i64 0,.int .i64 0] [(0,1,(.t 49)),(1,1,(.t 51))],some (36,true)⟩,
 ⟨some 53,.look 2 false [.slice none 0 0] false (.t 43) (.t 52),some (36,true)⟩,
 ⟨some 54,.faddr 1 (.t 7),some (36,true)⟩,
 ⟨some 55,.load none (.t 54),some (36,true)⟩,
 ⟨some 56,.mv (.t 1),some (36,true)⟩,
 ⟨some 57,.mv (.t 6),some (36,true)⟩,
 ⟨some 58,.bin .sub (.t 57) (.c (.int .i64 1)),some (36,true)⟩,
 ⟨some 59,.iaddr 2 (.t 56) (.t 58),some (36,true)⟩,
 ⟨some 60,.faddr 1 (.t 59),some (36,true)⟩,
 ⟨some 61,.load none (.t 60),some (36,true)⟩,
 ⟨some 62,.bin .sub (.t 55) (.t 61),some (36,true)⟩,
 ⟨some 63,.call (.f 122) [(.t 53),(.t 62)],some (36,true)⟩,
 ⟨some 64,.un .not (.t 63),some (36,true)⟩,
 ⟨some 65,.pick (.t 36) (.t 64) (.c (.bool false)),none⟩] [
 ] [1,2,19,20,21,65])
 (.cond (.t 65) (.seq (.ops [
 ⟨some 4,.mv (.c (.int .i64 41)),none⟩] [4])
 .ret)
 .skip)))))
 (.ops [
 ⟨some 66,.bin .add (.t 21) (.c (.int .i64 1)),none⟩,
 ⟨some 21,.mv (.t 66),none⟩] [1,2,19,20,21])))))))
 (.seq (.ops [
 ⟨some 4,.mv (.c (.int .i64 0)),none⟩] [4])
 .ret))))),
 [.t 4]⟩
theorem k123:chkF Tryz.prog Tryz.f123 c123=true:=by kernel_rfl
theorem k121:chkF Tryz.prog Tryz.f121 c121=true:=by kernel_rfl
theorem k61:chkF Tryz.prog Tryz.f61 c61=true:=by kernel_rfl
theorem Pure.arg {P:Program} {f:Nat} {args args':List AV} {r:AV} (h:Pure P f args r) (hl:args'.length=args.length)
    (hw:∀ i,i < args.length→∀ w X β σ x,RV w X β σ (args'.getD i .any) x→RV w X β σ (args.getD i .any) x):Pure P f args' r :=
  ⟨h.ent,fun X w xs hX hxl hr=>h.go X w xs hX (by omega) fun i hi=>hw i hi _ _ _ _ _ (hr i (by omega))⟩
structure Ent where
  k:List Int
  l:List Sp
  g:Nat
abbrev entA (T:List Ent):List (List Int × AV):=T.map fun t=>(t.k,AV.own t.g 0 t.l.length)
def addE:List Ent→List Int→Sp→Nat→List Ent
  | [],k,s,g=>[⟨k,[s],g⟩]
  | t::r,k,s,g=>if t.k=k then ⟨t.k,t.l++[s],t.g⟩::r else t::addE r k s g
def addK:List (List Int × List Sp)→List Int→Sp→List (List Int × List Sp)
  | [],k,s=>[(k,[s])]
  | t::r,k,s=>if t.1=k then (t.1,t.2++[s])::r else t::addK r k s
abbrev hkey (h:Hop):List Int:=[(h.fr:Int),(h.to:Int)]
def hopK (hs:List Hop):List (List Int × List Sp):=hs.foldl (fun a h=>addK a (hkey h) h.ch) []
abbrev strE (T:List Ent):List (List Int × List Sp):=T.map fun t=>(t.k,t.l)
theorem strE_add:∀ (T:List Ent) (k:List Int) (s:Sp) (g:Nat),strE (addE T k s g)=addK (strE T) k s
  | [],_,_,_=>rfl
  | t::r,k,s,g=>by
    unfold addE
    simp only [strE,List.map_cons,addK]
    split
    · rfl
    · simp only [List.map_cons]; rw [← strE_add r k s g]
theorem hopK_next {hs:List Hop} {i:Nat} {h:Hop} (e:hs[i]?=some h):hopK (hs.take (i+1))=addK (hopK (hs.take i)) (hkey h) h.ch:=by
  rw [take_snoc e]; simp [hopK]
theorem addK_len {N:Nat} {k:List Int} {s:Sp}:∀ {E:List (List Int × List Sp)},(∀ e∈E,e.2.length≤N)→∀ e∈addK E k s,e.2.length≤N+1
  | [],_,e,he=>by simp only [addK,List.mem_singleton] at he; subst he; simp
  | t::r,h,e,he=>by
    unfold addK at he
    split at he
    · rcases List.mem_cons.1 he with rfl | he
      · have:=h t (by simp); simp; omega
      · have:=h e (by simp [he]); omega
    · rcases List.mem_cons.1 he with rfl | he
      · have:=h e (by simp); omega
      · exact addK_len (fun x hx=>h x (by simp [hx])) e he
theorem hopK_len {hs:List Hop} (i:Nat) (hi:i≤hs.length):∀ e∈hopK (hs.take i),e.2.length≤i:=by
  induction i with
  | zero=>simp [hopK]
  | succ i ih =>
    rw [hopK_next (List.getElem?_eq_getElem (by omega))]
    exact addK_len (ih (by omega))
theorem hops_len {m:Nat}:∀ {l:List Nod} {i:Nat},(∀ x∈l,nodOk m x)→(hopsF i l).length≤64 * l.length
  | [],_,_=>by simp [hopsF]
  | x::r,i,h=>by
    have h1:=(h x (by simp)).2.1
    have h2:=hops_len (i:=i+1) (fun y hy=>h y (by simp [hy]):∀ y∈r,nodOk m y)
    simp only [hopsF,List.length_append,hopsOf,List.length_map,List.length_cons]; omega
structure HopS (σ:Sto) (T:List Ent):Prop where
  a:σ.at 0 0=some ⟨0,0,[],some (.mp 2 (entA T))⟩
  o:∀ t∈T,σ.at t.g 0=some (spO t.l)
  inj:T.Pairwise fun a b=>a.g≠b.g
theorem ent_none {T:List Ent} {k:List Int} {s:Sp} {g:Nat} (h:∀ t∈T,t.k≠k):mget (entA T) k=none∧mset (entA T) k (.own g 0 1)=entA (addE T k s g)∧addE T k s g=T++[⟨k,[s],g⟩]:=by
  induction T with
  | nil=>exact ⟨rfl,rfl,rfl⟩
  | cons t r ih =>
    obtain ⟨h1,h2,h3⟩:=ih fun t ht=>h t (by simp [ht])
    have hk:¬ t.k=k:=h t (by simp)
    simp only [entA,List.map_cons,mget,hk,if_false,mset,addE,List.cons_append,h3] at h1 h2 ⊢
    exact ⟨h1,by rw [h2],trivial⟩
theorem ent_some {T:List Ent} {k:List Int} {s:Sp} {g:Nat} (h:¬ ∀ t∈T,t.k≠k):∃ A t B,T=A++t::B∧t.k=k∧mget (entA T) k=some (.own t.g 0 t.l.length)∧mset (entA T) k (.own t.g 0 (t.l.length+1))=entA (addE T k s g) ∧
    addE T k s g=A++⟨t.k,t.l++[s],t.g⟩::B:=by
  induction T with
  | nil=>exact absurd (by simp) h
  | cons t r ih =>
    by_cases hk:t.k=k
    · subst hk
      exact ⟨[],t,r,rfl,rfl,by simp [mget],by simp [mset,addE],by simp [addE]⟩
    · obtain ⟨A,u,B,rfl,h1,h2,h3,h4⟩:=ih fun h'=>h fun t' ht=>by
        rcases List.mem_cons.1 ht with rfl | ht
        · exact hk
        · exact h' t' ht
      refine ⟨t::A,u,B,rfl,h1,?_,?_,?_⟩
      · simp only [entA,List.map_cons,mget,hk,if_false]; exact h2
      · simp only [entA,List.map_cons,mset,hk,if_false,addE]; rw [h3]
      · simp only [addE,hk,if_false,h4,List.cons_append]
theorem HopS.app {σ:Sto} {T:List Ent} (h:HopS σ T) (ν:Sto):HopS (σ++ν) T :=
  ⟨by rw [at_appL (at_lt h.a)]; exact h.a,fun t ht=>by rw [at_appL (at_lt (h.o t ht))]; exact h.o t ht,h.inj⟩
theorem HopS.lt {σ:Sto} {T:List Ent} (h:HopS σ T) {t:Ent} (ht:t∈T):t.g < σ.length∧t.g≠0:=by
  refine ⟨at_lt (h.o t ht),fun e=>?_⟩
  have h1:=h.o t ht
  rw [e,h.a] at h1
  injection h1 with h1
  have:=congrArg Ob.T h1
  cases this
theorem HopS.new {σ:Sto} {T:List Ent} {k:List Int} {s:Sp} (h:HopS σ T) (hk:∀ t∈T,t.k≠k) :
    HopS (Sto.upd (σ++[some [spO [s]]]) 0 0 ⟨0,0,[],some (.mp 2 (entA (addE T k s σ.length)))⟩) (addE T k s σ.length):=by
  have h0:=at_lt h.a
  obtain ⟨_,_,h3⟩:=ent_none (s:=s) (g:=σ.length) hk
  refine ⟨at_upd_same (h.app _).a,fun t ht=>?_,?_⟩
  · rw [h3,List.mem_append,List.mem_singleton] at ht
    rcases ht with ht | rfl
    · rw [at_upd_other (.inl (h.lt ht).2.symm),at_appL (h.lt ht).1]; exact h.o t ht
    · rw [at_upd_other (.inl (by simp only; omega))]; simp only; rw [at_app0]; simp [Sto.at]
  · rw [h3,List.pairwise_append]
    refine ⟨h.inj,by simp,fun a ha b hb=>?_⟩
    rw [List.mem_singleton] at hb; subst hb
    have:=(h.lt ha).1
    simp only; omega
theorem HopS.old {σ:Sto} {A B:List Ent} {t:Ent} {s:Sp} {M:List (List Int × AV)} (h:HopS σ (A++t::B)) (hM:M=entA (A++⟨t.k,t.l++[s],t.g⟩::B)) :
    HopS (Sto.upd (σ.upd t.g 0 (spO (t.l++[s]))) 0 0 ⟨0,0,[],some (.mp 2 M)⟩) (A++⟨t.k,t.l++[s],t.g⟩::B):=by
  subst hM
  have ht:=h.lt (t:=t) (by simp)
  have hp:=h.inj
  rw [List.pairwise_append,List.pairwise_cons] at hp
  obtain ⟨p1,⟨p2,p3⟩,p4⟩:=hp
  have key:∀ u,(u∈A∨u∈B)→Sto.at (Sto.upd (σ.upd t.g 0 (spO (t.l++[s]))) 0 0 ⟨0,0,[],some (.mp 2 (entA (A++⟨t.k,t.l++[s],t.g⟩::B)))⟩) u.g 0=some (spO u.l):=by
    intro u hu
    have hm:u∈A++t::B:=by rcases hu with hu | hu <;> simp [hu]
    have hne:t.g≠u.g:=by
      rcases hu with hu | hu
      · exact (p4 u hu t (by simp)).symm
      · exact p2 u hu
    rw [at_upd_other (.inl (h.lt hm).2.symm),at_upd_other (.inl hne)]
    exact h.o u hm
  refine ⟨at_upd_same (o:=⟨0,0,[],some (.mp 2 (entA (A++t::B)))⟩) (by rw [at_upd_other (.inl ht.2)]; exact h.a),fun u hu=>?_,?_⟩
  · rw [List.mem_append,List.mem_cons] at hu
    rcases hu with hu | rfl | hu
    · exact key u (.inl hu)
    · simp only
      rw [at_upd_other (.inl ht.2.symm)]
      exact at_upd_same (h.o t (by simp))
    · exact key u (.inr hu)
  · rw [List.pairwise_append,List.pairwise_cons]
    refine ⟨p1,⟨p2,p3⟩,fun a ha b hb=>?_⟩
    rcases List.mem_cons.1 hb with rfl | hb
    · exact p4 a ha t (by simp)
    · exact p4 a ha b (by simp [hb])
abbrev mapS (E:List (List Int × List Sp)):AV:=.imap 2 (E.map fun e=>(e.1,spS e.2))
theorem hops_spec (m:Nat) (l:List Nod) (hl:stgOk m l):Pure Tryz.prog 123 [stS l] (mapS (hopK (hops l))):=by
  refine Pure.of_body Tryz.call123 Tryz.func123 k123 (Nat.le_of_ble_eq_true rfl) ?_
  unfold c123
  obtain ⟨v1,v2,v3⟩:=hl
  (repeat' ((first
 | refine vn rfl ?_
 | simp (disch:=omega) only [wr64,Int.zero_sub]
 | refine bo (fun _=>?_) fun _=>?_
 | refine im fun _=>?_
 | refine cF ?_
 | refine om ?_
 | refine an ?_
 | fail) <;> try simp only [zT,zV,zS,zU,vcC,lateX,ex,strp,binA,elems,cells,scalar,eqC,keyA,intsA,lookA,ofVs,mpOf,Nat.reduceBEq,reduceAdd,reduceSub,reduceLT,reduceLeDiff,reduceMul,reduceEqDiff,reduceIte]))
  have h00:HopS [some [⟨0,0,[],some (.mp 2 [])⟩]] []:=⟨rfl,by simp,List.Pairwise.nil⟩
  refine AWPC.loopE (α:={ x:Nat × Nat × List Ent × Sto // x.1≤l.length∧(hops l).drop x.2.1=hopsF x.1 (l.drop x.1)∧x.2.1≤(hops l).length∧HopS x.2.2.2 x.2.2.1∧strE x.2.2.1=hopK ((hops l).take x.2.1) }) [11] (fun x=>[(11,n x.1.1)]) (fun x=>x.1.2.2.2) (fun x=>l.length - x.1.1)
    ⟨(0,0,[],_),by simp,by simp,by simp,h00,rfl⟩ ?_ ?_ ?_
  · (simp only [zT,zV,zS,zU,vcC,lateX,ex,strp,binA,elems,cells,scalar,eqC,keyA,intsA,lookA,ofVs,mpOf,Nat.reduceBEq,reduceAdd,reduceSub,reduceLT,reduceLeDiff,reduceMul,reduceEqDiff,reduceIte]; try simp)
  · rfl
  rintro ⟨⟨i,m',T,τ⟩,hi,hd,hm,hS,hT⟩
  simp only at hi hd hm hS hT
  by_cases hlt:i < l.length
  · obtain ⟨x,hx⟩:∃ x,l[i]?=some x:=⟨_,List.getElem?_eq_getElem hlt⟩
    obtain ⟨w1,w2,w3⟩:=v3 x (List.mem_of_getElem? hx)
    have hdi:(hops l).drop m'=hopsOf i x++hopsF (i+1) (l.drop (i+1)):=by rw [hd,drop_cons hx]; rfl
    (repeat' ((first
 | refine vn rfl ?_
 | simp (disch:=omega) only [wr64,Int.zero_sub]
 | refine bo (fun _=>?_) fun _=>?_
 | refine im fun _=>?_
 | refine cF ?_
 | refine om ?_
 | refine an ?_
 | fail) <;> try simp only [zT,zV,zS,zU,vcC,lateX,ex,strp,binA,elems,cells,scalar,eqC,keyA,intsA,lookA,ofVs,mpOf,Nat.reduceBEq,reduceAdd,reduceSub,reduceLT,reduceLeDiff,reduceMul,reduceEqDiff,reduceIte,getD_map hx]))
    all_goals try (exfalso; omega)
    refine AWPC.loopE (α:={ x':Nat × Nat × List Ent × Sto // x'.1≤x.nx.length∧(hops l).drop x'.2.1=(hopsOf i x).drop x'.1++hopsF (i+1) (l.drop (i+1))∧x'.2.1≤(hops l).length∧HopS x'.2.2.2 x'.2.2.1∧strE x'.2.2.1=hopK ((hops l).take x'.2.1) }) [19]
      (fun x=>[(19,n x.1.1)]) (fun x=>x.1.2.2.2) (fun x'=>x.nx.length - x'.1.1) ⟨(0,m',T,τ++[some [⟨80,2,[Nod.cs x],none⟩]]),by simp,by simpa using hdi,hm,hS.app _,hT⟩ ?_ ?_ ?_
    · (simp only [zT,zV,zS,zU,vcC,lateX,ex,strp,binA,elems,cells,scalar,eqC,keyA,intsA,lookA,ofVs,mpOf,Nat.reduceBEq,reduceAdd,reduceSub,reduceLT,reduceLeDiff,reduceMul,reduceEqDiff,reduceIte]; try simp)
    · rfl
    rintro ⟨⟨j,m',T,τ⟩,hj,hd,hm,hS,hT⟩
    simp only at hj hd hm hS hT
    have aM:∀ ν,Sto.at (τ++ν) 0 0=some ⟨0,0,[],some (.mp 2 (entA T))⟩:=fun ν=>by rw [at_appL (at_lt hS.a)]; exact hS.a
    by_cases hlt2:j < x.nx.length
    · obtain ⟨e,he⟩:∃ e,x.nx[j]?=some e:=⟨_,List.getElem?_eq_getElem hlt2⟩
      obtain ⟨u1,u2,u3⟩:=w3 e (List.mem_of_getElem? he)
      have hho:(hopsOf i x)[j]?=some ⟨i,e.to.toNat,e.ch⟩:=by simp [hopsOf,he]
      rw [drop_cons hho,List.cons_append] at hd
      obtain ⟨hxm,hd'⟩:=drop_next hd
      have hm1:=(List.getElem?_eq_some_iff.1 hxm).1
      have hnx:=hopK_next hxm
      have ht0:((e.to.toNat:Nat):Int)=e.to:=by omega
      simp only [hkey,ht0] at hnx
      by_cases hk:∀ t∈T,t.k≠[(i:Int),e.to]
      · obtain ⟨g1,g2,g3⟩:=ent_none (s:=e.ch) (g:=List.length τ+1) hk
        have hN:=(hS.app [some [⟨124,3,[Edg.cs e],none⟩]]).new (s:=e.ch) hk
        rw [List.length_append,List.length_singleton,List.append_assoc] at hN
        have hT':=strE_add T [(i:Int),e.to] e.ch (List.length τ+1)
        (repeat' ((first
 | refine vn rfl ?_
 | simp (disch:=omega) only [wr64,Int.zero_sub]
 | refine bo (fun _=>?_) fun _=>?_
 | refine im fun _=>?_
 | refine cF ?_
 | refine om ?_
 | refine an ?_
 | fail) <;> try simp only [zT, zV, zS, zU, vcC, lateX, ex, strp, binA, elems, cells, scalar, eqC, keyA, intsA, lookA, ofVs, mpOf, Nat.reduceBEq, reduceAdd, reduceSub, reduceLT, reduceLeDiff, reduceMul, reduceEqDiff, reduceIte, getD_map he, aM, g1, g2]))
        all_goals try (exfalso; omega)
        exact ⟨⟨(j+1,m'+1,_,_),hlt2,hd',hm1,hN,by simp only; rw [hT',hT,hnx]⟩,by simp,rfl,by simp only; omega⟩
      · obtain ⟨A,t,B,rfl,ek,g1,g2,g3⟩:=ent_some (s:=e.ch) (g:=0) hk
        have htm:t∈A++t::B:=by simp
        obtain ⟨tl,t0⟩:=hS.lt htm
        have hN:=(hS.app [some [⟨124,3,[Edg.cs e],none⟩]]).old (s:=e.ch) (M:=entA (addE (A++t::B) [(i:Int),e.to] e.ch 0)) (by rw [g3])
        have hT':=strE_add (A++t::B) [(i:Int),e.to] e.ch 0
        rw [show spO (t.l++[e.ch])=⟨30,2,t.l.map Sp.cs++[Sp.cs e.ch],none⟩ from by simp [spO]] at hN
        have aG:∀ ν,Sto.at (τ++ν) t.g 0=some (spO t.l):=fun ν=>by rw [at_appL tl]; exact hS.o t htm
        have aU:∀ ν o,Sto.at (Sto.upd (τ++ν) t.g 0 o) 0 0=some ⟨0,0,[],some (.mp 2 (entA (A++t::B)))⟩:=fun ν o=>by rw [at_upd_other (.inl t0)]; exact aM ν
        have aV:∀ x ν o,Sto.at (Sto.upd (τ++some [x]::ν) t.g 0 o) (List.length τ) 0=some x:=fun x ν o=>by rw [at_upd_other (.inl (by omega)),at_app0]; rfl
        have hsz:t.l.length≤m':=hopK_len m' hm (t.k,t.l) (by rw [← hT]; exact List.mem_map.2 ⟨t,htm,rfl⟩)
        have hsz2:t.l.length+1≤1000000:=by
          have hhl:(hops l).length≤64 * l.length:=hops_len v3
          omega
        (repeat' ((first
 | refine vn rfl ?_
 | simp (disch:=omega) only [wr64,Int.zero_sub]
 | refine bo (fun _=>?_) fun _=>?_
 | refine im fun _=>?_
 | refine cF ?_
 | refine om ?_
 | refine an ?_
 | fail) <;> try simp only [zT, zV, zS, zU, vcC, lateX, ex, strp, binA, elems, cells, scalar, eqC, keyA, intsA, lookA, ofVs, mpOf, Nat.reduceBEq, reduceAdd, reduceSub, reduceLT, reduceLeDiff, reduceMul, reduceEqDiff, reduceIte, getD_map he, aM, aG, aU, aV, g1, g2]))
        all_goals try (exfalso; omega)
        exact ⟨⟨(j+1,m'+1,A++⟨t.k,t.l++[e.ch],t.g⟩::B,_),hlt2,hd',hm1,hN,by simp only; rw [← g3,hT',hT,hnx]⟩,by simp,rfl,by simp only; omega⟩
    · obtain rfl:j=x.nx.length:=by omega
      have hdn:(hopsOf i x).drop x.nx.length=[]:=List.drop_eq_nil_of_le (by simp [hopsOf])
      rw [hdn,List.nil_append] at hd
      (repeat' ((first
 | refine vn rfl ?_
 | simp (disch:=omega) only [wr64,Int.zero_sub]
 | refine bo (fun _=>?_) fun _=>?_
 | refine im fun _=>?_
 | refine cF ?_
 | refine om ?_
 | refine an ?_
 | fail) <;> try simp only [zT,zV,zS,zU,vcC,lateX,ex,strp,binA,elems,cells,scalar,eqC,keyA,intsA,lookA,ofVs,mpOf,Nat.reduceBEq,reduceAdd,reduceSub,reduceLT,reduceLeDiff,reduceMul,reduceEqDiff,reduceIte]))
      all_goals try (exfalso; omega)
      exact ⟨⟨(i+1,m',T,τ),hlt,hd,hm,hS,hT⟩,by simp,rfl,by simp only; omega⟩
  · obtain rfl:i=l.length:=by omega
    rw [List.drop_length] at hd
    have:m'=(hops l).length:=by have:=List.drop_eq_nil_iff.1 hd; omega
    subst this
    rw [List.take_length] at hT
    (repeat' ((first
 | refine vn rfl ?_
 | simp (disch:=omega) only [wr64,Int.zero_sub]
 | refine bo (fun _=>?_) fun _=>?_
 | refine im fun _=>?_
 | refine cF ?_
 | refine om ?_
 | refine an ?_
 | fail) <;> try simp only [zT,zV,zS,zU,vcC,lateX,ex,strp,binA,elems,cells,scalar,eqC,keyA,intsA,lookA,ofVs,mpOf,Nat.reduceBEq,reduceAdd,reduceSub,reduceLT,reduceLeDiff,reduceMul,reduceEqDiff,reduceIte]))
    all_goals try (exfalso; omega)
    have hlen:(hopK (hops l)).length=T.length:=by rw [← hT]; simp
    refine Frz.mp (n:=2) (m:=entA T) hS.a (by simp [mpOf]) (by simp [hlen]) (fun q hq=>?_) fun q hq=>?_
    · simp only [List.length_map] at hq
      rw [← hT,List.map_map,getD_map' (List.getElem?_eq_getElem hq),getD_map' (List.getElem?_eq_getElem hq)]
      rfl
    · simp only [List.length_map] at hq
      rw [← hT,List.map_map,getD_map' (List.getElem?_eq_getElem hq),getD_map' (List.getElem?_eq_getElem hq)]
      exact frz_sp (hS.o _ (List.getElem_mem hq))
def chs (hs:List Hop) (k:List Int):List Sp:=(hs.filter fun h=>decide (hkey h=k)).map (·.ch)
theorem addK_get {E:List (List Int × List Sp)} {k k':List Int} {s:Sp} :
    ((addK E k s).find? fun e=>decide (e.1=k')).map (·.2)=if k=k' then some ((((E.find? fun e=>decide (e.1=k')).map (·.2)).getD [])++[s]) else (E.find? fun e=>decide (e.1=k')).map (·.2):=by
  induction E with
  | nil =>
    by_cases h:k=k' <;> simp [addK,h]
  | cons e r ih =>
    unfold addK
    by_cases h1:e.1=k
    · subst h1
      by_cases h2:e.1=k' <;> simp [h2]
    · simp only [h1,if_false,List.find?_cons]
      by_cases h2:e.1=k'
      · have h3:¬ k=k':=fun h=>h1 (h2.trans h.symm)
        simp [h2,h3]
      · simp only [h2,decide_false,ih]
theorem hopK_get (hs:List Hop) (k:List Int):((hopK hs).find? fun e=>decide (e.1=k)).map (·.2)=if chs hs k=[] then none else some (chs hs k):=by
  have key:∀ i,i≤hs.length→((hopK (hs.take i)).find? fun e=>decide (e.1=k)).map (·.2)=if chs (hs.take i) k=[] then none else some (chs (hs.take i) k):=by
    intro i
    induction i with
    | zero=>intro _; rfl
    | succ i ih =>
      intro hi
      have e:=List.getElem?_eq_getElem (l:=hs) (i:=i) (by omega)
      have hc:chs (hs.take (i+1)) k=if hkey hs[i]=k then chs (hs.take i) k++[hs[i].ch] else chs (hs.take i) k:=by
        rw [take_snoc e]
        unfold chs
        rw [List.filter_append]
        by_cases h:hkey hs[i]=k <;> simp [h]
      rw [hopK_next e,addK_get,ih (by omega),hc]
      by_cases h:hkey hs[i]=k
      · simp only [h,if_true]
        by_cases h2:chs (hs.take i) k=[] <;> simp [h2]
      · simp only [h,if_false]
  have:=key hs.length (Nat.le_refl _)
  rwa [List.take_length] at this
theorem mapS_get (hs:List Hop) (k:List Int):mget ((hopK hs).map fun e=>(e.1,spS e.2)) k=if chs hs k=[] then none else some (spS (chs hs k)):=by
  rw [mget_map (fun e:List Int × List Sp=>e.1) (fun e=>spS e.2)]
  have h:=hopK_get hs k
  generalize (hopK hs).find? (fun e=>decide (e.1=k))=q at *
  cases q with
  | none =>
    by_cases h2:chs hs k=[]
    · simp [h2]
    · rw [if_neg h2] at h; cases h
  | some e =>
    by_cases h2:chs hs k=[]
    · rw [if_pos h2] at h; cases h
    · rw [if_neg h2] at h ⊢
      simp only [Option.map_some,Option.some.injEq] at h ⊢
      rw [h]
theorem isPlace_spec (l:List Nod) (a:At) (hl:stgSz l):Pure Tryz.prog 121 [stS l,.agg (At.cs a)] (bl (tr (0≤a.node∧a.node < (l.length:Int)∧Mem a.val ((l.map (·.al)).getD a.node.toNat [])))):=by
  refine Pure.of_body Tryz.call121 Tryz.func121 k121 (Nat.le_of_ble_eq_true rfl) ?_
  unfold c121
  by_cases h:0≤a.node∧a.node < (l.length:Int)
  · obtain ⟨x,hx⟩:∃ x,l[a.node.toNat]?=some x:=⟨_,List.getElem?_eq_getElem (by omega)⟩
    have hs:=hl.2 x (List.mem_of_getElem? hx)
    rw [getD_map' hx]
    obtain ⟨h1,h2⟩:=h
    (repeat' ((first
 | refine vn rfl ?_
 | simp (disch:=omega) only [wr64,Int.zero_sub]
 | refine bo (fun _=>?_) fun _=>?_
 | refine im fun _=>?_
 | ((repeat refine si ?_); (first | ((first | refine .inl ⟨_,_,_,_,rfl,fun _=>pu (has_spec x.al a.val hs.1),?_⟩ | refine ⟨_,_,_,_,rfl,fun _=>pu (has_spec x.al a.val hs.1),?_⟩); (first | refine o1 ?_ | refine o2 ?_ | refine o3 ?_ | refine o4 ?_)) | refine .inl ⟨_,_,_,_,rfl,pu (has_spec x.al a.val hs.1),?_⟩))
 | refine cF ?_
 | refine om ?_
 | refine an ?_
 | fail) <;> try simp only [zT,zV,zS,zU,vcC,lateX,ex,strp,binA,elems,cells,scalar,eqC,keyA,intsA,lookA,ofVs,mpOf,Nat.reduceBEq,reduceAdd,reduceSub,reduceLT,reduceLeDiff,reduceMul,reduceEqDiff,reduceIte,getD_map hx]))
    all_goals try (exfalso; omega)
    refine Frz.eq (congrArg bl ?_) (by simp)
    simp [h1,h2]
  · have fin:∀ q:Prop,tr (0≤a.node∧a.node < (l.length:Int)∧q)=false:=fun q=>tr_0 fun h'=>h ⟨h'.1,h'.2.1⟩
    rw [fin]
    cases hq:l[a.node.toNat]? with
    | none =>
      have h0:(l.map Nod.cs).getD a.node.toNat []=[]:=by simp [List.getD_eq_getElem?_getD,hq]
      (repeat' ((first
 | refine vn rfl ?_
 | simp (disch:=omega) only [wr64,Int.zero_sub]
 | refine bo (fun _=>?_) fun _=>?_
 | refine im fun _=>?_
 | refine cF ?_
 | refine cG ?_
 | refine om ?_
 | refine an ?_
 | fail) <;> try simp only [zT,zV,zS,zU,vcC,lateX,ex,strp,binA,elems,cells,scalar,eqC,keyA,intsA,lookA,ofVs,mpOf,Nat.reduceBEq,reduceAdd,reduceSub,reduceLT,reduceLeDiff,reduceMul,reduceEqDiff,reduceIte,h0,h]))
      all_goals exact Frz.eq rfl (by simp)
    | some x =>
      (repeat' ((first
 | refine vn rfl ?_
 | simp (disch:=omega) only [wr64,Int.zero_sub]
 | refine bo (fun _=>?_) fun _=>?_
 | refine im fun _=>?_
 | ((repeat refine si ?_); (first | ((first | refine .inl ⟨_,_,_,_,rfl,fun _=>pu (has_spec x.al a.val (hl.2 x (List.mem_of_getElem? hq)).1),?_⟩ | refine ⟨_,_,_,_,rfl,fun _=>pu (has_spec x.al a.val (hl.2 x (List.mem_of_getElem? hq)).1),?_⟩); (first | refine o1 ?_ | refine o2 ?_ | refine o3 ?_ | refine o4 ?_)) | refine .inl ⟨_,_,_,_,rfl,pu (has_spec x.al a.val (hl.2 x (List.mem_of_getElem? hq)).1),?_⟩))
 | refine cF ?_
 | refine om ?_
 | refine an ?_
 | fail) <;> try simp only [zT,zV,zS,zU,vcC,lateX,ex,strp,binA,elems,cells,scalar,eqC,keyA,intsA,lookA,ofVs,mpOf,Nat.reduceBEq,reduceAdd,reduceSub,reduceLT,reduceLeDiff,reduceMul,reduceEqDiff,reduceIte,getD_map hq]))
      refine Frz.eq (congrArg bl ?_) (by simp)
      simp only [decide_eq_false_iff_not]
      exact fun h'=>h h'.1
theorem has_nil (v:Int):Pure Tryz.prog 122 [.v (.slice none 0 0),n v] (bl (tr (Mem v []))) :=
  Pure.arg (has_spec [] v (by decide)) rfl fun i hi w X β σ x hx=>by
    match i,hi with
    | 0,_=>cases hx; exact .slnil _
    | 1,_=>exact hx
theorem way_snoc {t:Trk} {c:List At} {k:Nat} {a:At} (ha:c[k]?=some a):way t 0 (c.take (k+1))↔way t 0 (c.take k)∧placeOk t k a∧(∀ p,0 < k→c[k - 1]?=some p→stepOk t (k - 1) p a):=by
  have hk:=(List.getElem?_eq_some_iff.1 ha).1
  have hlen:(c.take k).length=k:=by rw [List.length_take]; omega
  rw [take_snoc ha,way_append,hlen]
  refine and_congr_right fun _=>?_
  simp only [way,Nat.zero_add,List.getElem?_cons_zero,Option.some.injEq]
  refine and_congr_right fun _=>?_
  constructor
  · intro h p h0 hp
    refine h p a ?_ rfl
    rw [List.getLast?_eq_getElem?,hlen,List.getElem?_take,if_pos (by omega)]; exact hp
  · rintro h p b hp rfl
    rw [List.getLast?_eq_getElem?,hlen] at hp
    by_cases h0:0 < k
    · rw [List.getElem?_take,if_pos (by omega)] at hp
      exact h p h0 hp
    · obtain rfl:k=0:=by omega
      simp at hp
theorem way_take {t:Trk} {c:List At} (h:way t 0 c) (k:Nat):way t 0 (c.take k):=by
  rw [← List.take_append_drop k c,way_append] at h
  exact h.1
theorem stepOk_chs {t:Trk} {k:Nat} {p a:At} (hp:0≤p.node) (ha:0≤a.node):stepOk t k p a↔Mem (a.val - p.val) (chs (stp t k) [p.node,a.node]):=by
  unfold stepOk chs Mem
  constructor
  · rintro ⟨h,hm,e1,e2,h1,h2⟩
    refine ⟨h.ch,List.mem_map.2 ⟨h,List.mem_filter.2 ⟨hm,?_⟩,rfl⟩,h1,h2⟩
    simp only [hkey,List.cons.injEq,and_true,decide_eq_true_eq]; omega
  · rintro ⟨s,hs,h1,h2⟩
    obtain ⟨h,hm,rfl⟩:=List.mem_map.1 hs
    obtain ⟨hm,e⟩:=List.mem_filter.1 hm
    simp only [hkey,List.cons.injEq,and_true,decide_eq_true_eq] at e
    exact ⟨h,hm,by omega,by omega,h1,h2⟩
theorem mem_val {t:Trk} (hv:valid t) {k:Nat} {a:At} (h:placeOk t k a):-100000≤a.val∧a.val≤100000:=mem_of_in (goods_get (als_goods hv k) _).2 h.2.2
theorem Keeps_spec (t:Trk) (c:List At) (hs:trkSz t) (hc:c.length < 9223372036854775808):Pure Tryz.prog 61 [trS t,atS c] (n (if tr (valid t) then (if tr (course t c) then 0 else 41) else 40)):=by
  refine Pure.of_body Tryz.call61 Tryz.func61 k61 (Nat.le_of_ble_eq_true rfl) ?_
  unfold c61
  by_cases hv:valid t
  · rw [tr_1 hv,if_pos rfl]
    have hck:=Check_spec t hs
    rw [tr_1 hv,if_pos rfl] at hck
    by_cases hl:c.length=t.length
    · have hln:=hs.1
      (repeat' ((first
 | refine vn rfl ?_
 | simp (disch:=omega) only [wr64,Int.zero_sub]
 | refine bo (fun _=>?_) fun _=>?_
 | refine im fun _=>?_
 | ((repeat refine si ?_); (first | ((first | refine .inl ⟨_,_,_,_,rfl,fun _=>pu hck,?_⟩ | refine ⟨_,_,_,_,rfl,fun _=>pu hck,?_⟩); (first | refine o1 ?_ | refine o2 ?_ | refine o3 ?_ | refine o4 ?_)) | refine .inl ⟨_,_,_,_,rfl,pu hck,?_⟩))
 | refine cF ?_
 | refine om ?_
 | refine an ?_
 | fail) <;> try simp only [zT,zV,zS,zU,vcC,lateX,ex,strp,binA,elems,cells,scalar,eqC,keyA,intsA,lookA,ofVs,mpOf,Nat.reduceBEq,reduceAdd,reduceSub,reduceLT,reduceLeDiff,reduceMul,reduceEqDiff,reduceIte]))
      all_goals try (exfalso; omega)
      refine AWPC.loopE (α:={ x:Nat × Sto // x.1≤c.length∧way t 0 (c.take x.1) }) [21] (fun x=>[(21,n x.1.1)]) (fun x=>x.1.2) (fun x=>c.length - x.1.1) ⟨(0,[]),by simp,trivial⟩ ?_ ?_ ?_
      · (simp only [zT,zV,zS,zU,vcC,lateX,ex,strp,binA,elems,cells,scalar,eqC,keyA,intsA,lookA,ofVs,mpOf,Nat.reduceBEq,reduceAdd,reduceSub,reduceLT,reduceLeDiff,reduceMul,reduceEqDiff,reduceIte]; try simp)
      · rfl
      rintro ⟨⟨k,τ⟩,hk,hw⟩
      simp only at hk hw
      simp only
      by_cases hlt:k < c.length
      · obtain ⟨a,ha⟩:∃ a,c[k]?=some a:=⟨_,List.getElem?_eq_getElem hlt⟩
        obtain ⟨L,hL⟩:∃ L,t[k]?=some L:=⟨_,List.getElem?_eq_getElem (by omega)⟩
        have hp:=isPlace_spec L a (hs.2 L (List.mem_of_getElem? hL))
        have hL':t.getD k []=L:=by rw [List.getD_eq_getElem?_getD,hL]; rfl
        have hpl:(0≤a.node∧a.node < (L.length:Int)∧Mem a.val ((L.map (·.al)).getD a.node.toNat []))↔placeOk t k a:=by unfold placeOk wd als; rw [hL']
        have hsn:=way_snoc (t:=t) ha
        have hno:¬ way t 0 (c.take (k+1))→¬ course t c:=fun h h'=>h (way_take h'.2 _)
        by_cases hpa:placeOk t k a
        · rw [tr_1 (hpl.2 hpa)] at hp
          obtain ⟨b1,b2⟩:=mem_val hv hpa
          by_cases h0:k=0
          · subst h0
            have hm1:(-1:Int).toNat=0:=rfl
            (repeat' ((first
 | refine vn rfl ?_
 | simp (disch:=omega) only [wr64,Int.zero_sub]
 | refine bo (fun _=>?_) fun _=>?_
 | refine im fun _=>?_
 | ((repeat refine si ?_); (first | ((first | refine .inl ⟨_,_,_,_,rfl,fun _=>pu hp,?_⟩ | refine ⟨_,_,_,_,rfl,fun _=>pu hp,?_⟩); (first | refine o1 ?_ | refine o2 ?_ | refine o3 ?_ | refine o4 ?_)) | refine .inl ⟨_,_,_,_,rfl,pu hp,?_⟩))
 | refine cF ?_
 | refine cG ?_
 | refine om ?_
 | refine an ?_
 | fail) <;> try simp only [zT, zV, zS, zU, vcC, lateX, ex, strp, binA, elems, cells, scalar, eqC, keyA, intsA, lookA, ofVs, mpOf, Nat.reduceBEq, reduceAdd, reduceSub, reduceLT, reduceLeDiff, reduceMul, reduceEqDiff, reduceIte, getD_map ha, getD_map hL, hm1]))
            all_goals try (exfalso; omega)
            exact ⟨⟨(1,_),hlt,hsn.2 ⟨hw,hpa,fun p h=>absurd h (by omega)⟩⟩,by simp,rfl,by simp only; omega⟩
          · obtain ⟨p,hpp⟩:∃ p,c[k - 1]?=some p:=⟨_,List.getElem?_eq_getElem (by omega)⟩
            obtain ⟨L',hL2⟩:∃ L,t[k - 1]?=some L:=⟨_,List.getElem?_eq_getElem (by omega)⟩
            have hL3:t.getD (k - 1) []=L':=by rw [List.getD_eq_getElem?_getD,hL2]; rfl
            have hpp2:placeOk t (k - 1) p:=by
              have h1:=way_take hw k
              have h2:=way_snoc (t:=t) hpp
              rw [show k - 1+1=k by omega] at h2
              exact (h2.1 hw).2.1
            obtain ⟨b3,b4⟩:=mem_val hv hpp2
            have hh:=hops_spec (wd t (k - 1+1)) L' (hL3 ▸ valid_stg hv (by omega))
            have hi:((k:Int) - 1).toNat=k - 1:=by omega
            have hst:=stepOk_chs (t:=t) (k:=k - 1) hpp2.1 hpa.1
            rw [show stp t (k - 1)=hops L' by unfold stp; rw [hL3]] at hst
            have hmg:=mapS_get (hops L') [p.node,a.node]
            have hcl:(chs (hops L') [p.node,a.node]).length < 9223372036854775808:=by
              have h1:=valid_stg hv (show k - 1 < t.length by omega)
              rw [hL3] at h1
              have h2:(hops L').length≤64 * L'.length:=hops_len h1.2.2
              have h3:(chs (hops L') [p.node,a.node]).length≤(hops L').length:=by unfold chs; rw [List.length_map]; exact List.length_filter_le _ _
              have:=h1.2.1
              omega
            have hsn2:way t 0 (c.take (k+1))↔stepOk t (k - 1) p a:=by
              rw [hsn]
              exact ⟨fun h=>h.2.2 p (by omega) hpp,fun h=>⟨hw,hpa,fun q _ hq=>by rw [hpp] at hq; injection hq with hq; subst hq; exact h⟩⟩
            have fin:∀ b:Bool,b=tr (Mem (a.val - p.val) (chs (hops L') [p.node,a.node]))→(b=true→way t 0 (c.take (k+1)))∧(b=false→tr (course t c)=false):=by
              rintro b rfl
              exact ⟨fun h=>hsn2.2 (hst.2 (tr_iff.1 h)),fun h=>tr_0 (hno fun h'=>tr_not.1 h (hst.1 (hsn2.1 h')))⟩
            by_cases hnil:chs (hops L') [p.node,a.node]=[]
            · rw [if_pos hnil] at hmg
              rw [hnil] at fin
              obtain ⟨f1,f2⟩:=fin _ rfl
              have hz:tr (Mem (a.val - p.val) [])=false:=tr_0 Mem.nil
              have hhn:=has_nil (a.val - p.val)
              rw [hz] at hhn f2
              rw [f2 rfl]
              (repeat' ((first
 | refine vn rfl ?_
 | simp (disch:=omega) only [wr64,Int.zero_sub]
 | refine bo (fun _=>?_) fun _=>?_
 | refine im fun _=>?_
 | ((repeat refine si ?_); (first | ((first | refine .inl ⟨_,_,_,_,rfl,fun _=>pu (by first | exact hp | exact hh | exact hhn),?_⟩ | refine ⟨_,_,_,_,rfl,fun _=>pu (by first | exact hp | exact hh | exact hhn),?_⟩); (first | refine o1 ?_ | refine o2 ?_ | refine o3 ?_ | refine o4 ?_)) | refine .inl ⟨_,_,_,_,rfl,pu (by first | exact hp | exact hh | exact hhn),?_⟩))
 | refine cF ?_
 | refine om ?_
 | refine an ?_
 | fail) <;> try simp only [zT, zV, zS, zU, vcC, lateX, ex, strp, binA, elems, cells, scalar, eqC, keyA, intsA, lookA, ofVs, mpOf, Nat.reduceBEq, reduceAdd, reduceSub, reduceLT, reduceLeDiff, reduceMul, reduceEqDiff, reduceIte, getD_map ha, getD_map hL, getD_map hpp, getD_map hL2, hi, hmg]))
              all_goals try (exfalso; omega)
              all_goals exact Frz.eq rfl (by simp)
            · rw [if_neg hnil] at hmg
              have hha:=has_spec (chs (hops L') [p.node,a.node]) (a.val - p.val) hcl
              obtain ⟨f1,f2⟩:=fin _ rfl
              generalize tr (Mem (a.val - p.val) (chs (hops L') [p.node,a.node]))=b at *
              cases b with
              | false =>
                rw [f2 rfl]
                (repeat' ((first
 | refine vn rfl ?_
 | simp (disch:=omega) only [wr64,Int.zero_sub]
 | refine bo (fun _=>?_) fun _=>?_
 | refine im fun _=>?_
 | ((repeat refine si ?_); (first | ((first | refine .inl ⟨_,_,_,_,rfl,fun _=>pu (by first | exact hp | exact hh | exact hha),?_⟩ | refine ⟨_,_,_,_,rfl,fun _=>pu (by first | exact hp | exact hh | exact hha),?_⟩); (first | refine o1 ?_ | refine o2 ?_ | refine o3 ?_ | refine o4 ?_)) | refine .inl ⟨_,_,_,_,rfl,pu (by first | exact hp | exact hh | exact hha),?_⟩))
 | refine cF ?_
 | refine om ?_
 | refine an ?_
 | fail) <;> try simp only [zT, zV, zS, zU, vcC, lateX, ex, strp, binA, elems, cells, scalar, eqC, keyA, intsA, lookA, ofVs, mpOf, Nat.reduceBEq, reduceAdd, reduceSub, reduceLT, reduceLeDiff, reduceMul, reduceEqDiff, reduceIte, getD_map ha, getD_map hL, getD_map hpp, getD_map hL2, hi, hmg]))
                all_goals try (exfalso; omega)
                all_goals exact Frz.eq rfl (by simp)
              | true =>
                (repeat' ((first
 | refine vn rfl ?_
 | simp (disch:=omega) only [wr64,Int.zero_sub]
 | refine bo (fun _=>?_) fun _=>?_
 | refine im fun _=>?_
 | ((repeat refine si ?_); (first | ((first | refine .inl ⟨_,_,_,_,rfl,fun _=>pu (by first | exact hp | exact hh | exact hha),?_⟩ | refine ⟨_,_,_,_,rfl,fun _=>pu (by first | exact hp | exact hh | exact hha),?_⟩); (first | refine o1 ?_ | refine o2 ?_ | refine o3 ?_ | refine o4 ?_)) | refine .inl ⟨_,_,_,_,rfl,pu (by first | exact hp | exact hh | exact hha),?_⟩))
 | refine cF ?_
 | refine om ?_
 | refine an ?_
 | fail) <;> try simp only [zT, zV, zS, zU, vcC, lateX, ex, strp, binA, elems, cells, scalar, eqC, keyA, intsA, lookA, ofVs, mpOf, Nat.reduceBEq, reduceAdd, reduceSub, reduceLT, reduceLeDiff, reduceMul, reduceEqDiff, reduceIte, getD_map ha, getD_map hL, getD_map hpp, getD_map hL2, hi, hmg]))
                all_goals try (exfalso; omega)
                exact ⟨⟨(k+1,_),hlt,f1 rfl⟩,by simp,rfl,by simp only; omega⟩
        · rw [tr_0 (fun h=>hpa (hpl.1 h))] at hp
          rw [tr_0 (hno fun h=>hpa (hsn.1 h).2.1)]
          (repeat' ((first
 | refine vn rfl ?_
 | simp (disch:=omega) only [wr64,Int.zero_sub]
 | refine bo (fun _=>?_) fun _=>?_
 | refine im fun _=>?_
 | ((repeat refine si ?_); (first | ((first | refine .inl ⟨_,_,_,_,rfl,fun _=>pu hp,?_⟩ | refine ⟨_,_,_,_,rfl,fun _=>pu hp,?_⟩); (first | refine o1 ?_ | refine o2 ?_ | refine o3 ?_ | refine o4 ?_)) | refine .inl ⟨_,_,_,_,rfl,pu hp,?_⟩))
 | refine cF ?_
 | refine om ?_
 | refine an ?_
 | fail) <;> try simp only [zT, zV, zS, zU, vcC, lateX, ex, strp, binA, elems, cells, scalar, eqC, keyA, intsA, lookA, ofVs, mpOf, Nat.reduceBEq, reduceAdd, reduceSub, reduceLT, reduceLeDiff, reduceMul, reduceEqDiff, reduceIte, getD_map ha, getD_map hL]))
          all_goals try (exfalso; omega)
          all_goals exact Frz.eq rfl (by simp)
      · obtain rfl:k=c.length:=by omega
        rw [List.take_length] at hw
        rw [tr_1 (show course t c from ⟨hl,hw⟩)]
        (repeat' ((first
 | refine vn rfl ?_
 | simp (disch:=omega) only [wr64,Int.zero_sub]
 | refine bo (fun _=>?_) fun _=>?_
 | refine im fun _=>?_
 | refine cF ?_
 | refine om ?_
 | refine an ?_
 | fail) <;> try simp only [zT, zV, zS, zU, vcC, lateX, ex, strp, binA, elems, cells, scalar, eqC, keyA, intsA, lookA, ofVs, mpOf, Nat.reduceBEq, reduceAdd, reduceSub, reduceLT, reduceLeDiff, reduceMul, reduceEqDiff, reduceIte]))
        all_goals try (exfalso; omega)
        all_goals exact Frz.eq rfl (by simp)
    · have hnc:¬ course t c:=fun h=>hl h.1
      rw [tr_0 hnc]
      (repeat' ((first
 | refine vn rfl ?_
 | simp (disch:=omega) only [wr64,Int.zero_sub]
 | refine bo (fun _=>?_) fun _=>?_
 | refine im fun _=>?_
 | ((repeat refine si ?_); (first | ((first | refine .inl ⟨_,_,_,_,rfl,fun _=>pu hck,?_⟩ | refine ⟨_,_,_,_,rfl,fun _=>pu hck,?_⟩); (first | refine o1 ?_ | refine o2 ?_ | refine o3 ?_ | refine o4 ?_)) | refine .inl ⟨_,_,_,_,rfl,pu hck,?_⟩))
 | refine cF ?_
 | refine om ?_
 | refine an ?_
 | fail) <;> try simp only [zT,zV,zS,zU,vcC,lateX,ex,strp,binA,elems,cells,scalar,eqC,keyA,intsA,lookA,ofVs,mpOf,Nat.reduceBEq,reduceAdd,reduceSub,reduceLT,reduceLeDiff,reduceMul,reduceEqDiff,reduceIte]))
      all_goals try (exfalso; omega)
      all_goals exact Frz.eq rfl (by simp)
  · rw [tr_0 hv]
    have hck:=Check_spec t hs
    rw [tr_0 hv,if_neg (by decide)] at hck
    (repeat' ((first
 | refine vn rfl ?_
 | simp (disch:=omega) only [wr64,Int.zero_sub]
 | refine bo (fun _=>?_) fun _=>?_
 | refine im fun _=>?_
 | ((repeat refine si ?_); (first | ((first | refine .inl ⟨_,_,_,_,rfl,fun _=>pu hck,?_⟩ | refine ⟨_,_,_,_,rfl,fun _=>pu hck,?_⟩); (first | refine o1 ?_ | refine o2 ?_ | refine o3 ?_ | refine o4 ?_)) | refine .inl ⟨_,_,_,_,rfl,pu hck,?_⟩))
 | refine cF ?_
 | refine om ?_
 | refine an ?_
 | fail) <;> try simp only [zT,zV,zS,zU,vcC,lateX,ex,strp,binA,elems,cells,scalar,eqC,keyA,intsA,lookA,ofVs,mpOf,Nat.reduceBEq,reduceAdd,reduceSub,reduceLT,reduceLeDiff,reduceMul,reduceEqDiff,reduceIte]))
    all_goals try (exfalso; omega)
    all_goals exact Frz.eq rfl (by simp)
end Go.Proofs.YtahkhnagpdlkiaaGreat
namespace Go.Abs
set_option linter.unusedVariables false
set_option linter.unusedSimpArgs false
theorem way_iff {t:Trk}:∀ {p:List At} {k:Nat},way t k p↔∀ i a,p[i]?=some a→placeOk t (k+i) a∧∀ b,p[i+1]?=some b→stepOk t (k+i) a b
  | [],k=>by simp [way]
  | a::r,k=>by
    rw [way_cons,way_iff (p:=r)]
    constructor
    · rintro ⟨h1,h2,h3⟩ i b hb
      cases i with
      | zero =>
        simp only [List.getElem?_cons_zero,Option.some.injEq] at hb; subst hb
        exact ⟨h1,fun b hb=>h2 b (by simpa using hb)⟩
      | succ i =>
        have:=h3 i b (by simpa using hb)
        rw [show k+(i+1)=k+1+i by omega]
        exact ⟨this.1,fun c hc=>this.2 c (by simpa using hc)⟩
    · intro h
      have h0:=h 0 a rfl
      refine ⟨h0.1,fun b hb=>h0.2 b (by simpa using hb),fun i b hb=>?_⟩
      have:=h (i+1) b (by simpa using hb)
      rw [show k+(i+1)=k+1+i by omega] at this
      exact ⟨this.1,fun c hc=>this.2 c (by simpa using hc)⟩
theorem course_iff {t:Trk} {c:List At}:course t c↔c.length=t.length∧∀ i a,c[i]?=some a→placeOk t i a∧∀ b,c[i+1]?=some b→stepOk t i a b:=by
  unfold course
  rw [way_iff]
  simp only [Nat.zero_add]
end Go.Abs
namespace Go.Proofs.YtahkhnagpdlkiaaGreat
open Go.Abs
open Nat (reduceAdd reduceSub reduceLT reduceLeDiff reduceMul reduceEqDiff)
set_option linter.unusedVariables false
set_option linter.unusedSimpArgs false
set_option maxHeartbeats 4000000
set_option maxRecDepth 100000
def c49:CF:=⟨9,
 (.seq (.ops [
 ⟨some 2,.box false 24 1 (.t 0),none⟩,
 ⟨some 4,.mv (.c (.bool false)),none⟩] [1,2])
 (.seq (.ops [
 ⟨some 5,.load (some 1) (.t 2),none⟩,
 ⟨some 6,.mv (.t 1),none⟩,
 ⟨some 7,.call (.f 61) [(.t 5),(.t 6)],none⟩,
 ⟨some 8,.bin .eql (.t 7) (.c (.int .i64 0)),none⟩,
 ⟨some 4,.mv (.t 8),none⟩] [4])
 .ret)),
 [.t 4]⟩
theorem k49:chkF Tryz.prog Tryz.f49 c49=true:=by kernel_rfl
theorem is_spec (t:Trk) (c:List At) (hs:trkSz t) (hc:c.length < 9223372036854775808):Pure Tryz.prog 49 [trS t,atS c] (bl (tr (valid t∧course t c))):=by
  refine Pure.of_body Tryz.call49 Tryz.func49 k49 (Nat.le_of_ble_eq_true rfl) ?_
  unfold c49
  have hk:=Keeps_spec t c hs hc
  by_cases hv:valid t
  · rw [tr_1 hv,if_pos rfl] at hk
    by_cases h:course t c
    · rw [tr_1 h,if_pos rfl] at hk
      rw [tr_1 ⟨hv,h⟩]
      (repeat' ((first
 | refine vn rfl ?_
 | simp (disch:=omega) only [wr64,Int.zero_sub]
 | refine bo (fun _=>?_) fun _=>?_
 | refine im fun _=>?_
 | ((repeat refine si ?_); (first | ((first | refine .inl ⟨_,_,_,_,rfl,fun _=>pu hk,?_⟩ | refine ⟨_,_,_,_,rfl,fun _=>pu hk,?_⟩); (first | refine o1 ?_ | refine o2 ?_ | refine o3 ?_ | refine o4 ?_)) | refine .inl ⟨_,_,_,_,rfl,pu hk,?_⟩))
 | refine cF ?_
 | refine om ?_
 | refine an ?_
 | fail) <;> try simp only [zT,zV,zS,zU,vcC,lateX,ex,strp,binA,elems,cells,scalar,eqC,keyA,intsA,lookA,ofVs,mpOf,Nat.reduceBEq,reduceAdd,reduceSub,reduceLT,reduceLeDiff,reduceMul,reduceEqDiff,reduceIte]))
      all_goals exact Frz.eq rfl (by simp)
    · rw [tr_0 h,if_neg (by decide)] at hk
      rw [tr_0 (fun h'=>h h'.2)]
      (repeat' ((first
 | refine vn rfl ?_
 | simp (disch:=omega) only [wr64,Int.zero_sub]
 | refine bo (fun _=>?_) fun _=>?_
 | refine im fun _=>?_
 | ((repeat refine si ?_); (first | ((first | refine .inl ⟨_,_,_,_,rfl,fun _=>pu hk,?_⟩ | refine ⟨_,_,_,_,rfl,fun _=>pu hk,?_⟩); (first | refine o1 ?_ | refine o2 ?_ | refine o3 ?_ | refine o4 ?_)) | refine .inl ⟨_,_,_,_,rfl,pu hk,?_⟩))
 | refine cF ?_
 | refine om ?_
 | refine an ?_
 | fail) <;> try simp only [zT,zV,zS,zU,vcC,lateX,ex,strp,binA,elems,cells,scalar,eqC,keyA,intsA,lookA,ofVs,mpOf,Nat.reduceBEq,reduceAdd,reduceSub,reduceLT,reduceLeDiff,reduceMul,reduceEqDiff,reduceIte]))
      all_goals exact Frz.eq rfl (by simp)
  · rw [tr_0 hv,if_neg (by decide)] at hk
    rw [tr_0 (fun h'=>hv h'.1)]
    (repeat' ((first
 | refine vn rfl ?_
 | simp (disch:=omega) only [wr64,Int.zero_sub]
 | refine bo (fun _=>?_) fun _=>?_
 | refine im fun _=>?_
 | ((repeat refine si ?_); (first | ((first | refine .inl ⟨_,_,_,_,rfl,fun _=>pu hk,?_⟩ | refine ⟨_,_,_,_,rfl,fun _=>pu hk,?_⟩); (first | refine o1 ?_ | refine o2 ?_ | refine o3 ?_ | refine o4 ?_)) | refine .inl ⟨_,_,_,_,rfl,pu hk,?_⟩))
 | refine cF ?_
 | refine om ?_
 | refine an ?_
 | fail) <;> try simp only [zT,zV,zS,zU,vcC,lateX,ex,strp,binA,elems,cells,scalar,eqC,keyA,intsA,lookA,ofVs,mpOf,Nat.reduceBEq,reduceAdd,reduceSub,reduceLT,reduceLeDiff,reduceMul,reduceEqDiff,reduceIte]))
    all_goals exact Frz.eq rfl (by simp)
theorem copyF_getD (al:Nat→Nat→List Sp) (chg:Nat→Sp→Sp):∀ (t:Trk) (j k:Nat),(copyF al chg j t).getD k []=copyL (al (j+k)) (chg (j+k)) 0 (t.getD k [])
  | [],_,_=>by simp [copyF,copyL]
  | l::r,j,0=>by simp [copyF]
  | l::r,j,k+1=>by
    have:=copyF_getD al chg r (j+1) k
    rw [show j+1+k=j+(k+1) by omega] at this
    simpa [copyF,List.getD_eq_getElem?_getD] using this
theorem copyL_get (al:Nat→List Sp) (chg:Sp→Sp):∀ (l:List Nod) (j i:Nat),(copyL al chg j l)[i]?=(l[i]?).map (copyN (al (j+i)) chg)
  | [],_,_=>by simp [copyL]
  | x::r,j,0=>by simp [copyL]
  | x::r,j,i+1=>by
    have:=copyL_get al chg r (j+1) i
    rw [show j+1+i=j+(i+1) by omega] at this
    simpa [copyL] using this
section
variable {t:Trk} {al:Nat→Nat→List Sp} {chg:Nat→Sp→Sp}
theorem copyT_stg (k:Nat):(copyT t al chg).getD k []=copyL (al k) (chg k) 0 (t.getD k []):=by
  have:=copyF_getD al chg t 0 k
  rwa [Nat.zero_add] at this
theorem copyT_wd (k:Nat):wd (copyT t al chg) k=wd t k:=by unfold wd; rw [copyT_stg,copyL_len]
theorem copyT_nod {k i:Nat} {y:Nod} (h:((copyT t al chg).getD k [])[i]?=some y):∃ x,(t.getD k [])[i]?=some x∧y=copyN (al k i) (chg k) x:=by
  rw [copyT_stg,copyL_get,Nat.zero_add] at h
  cases hx:(t.getD k [])[i]? with
  | none=>rw [hx] at h; cases h
  | some x=>rw [hx] at h; injection h with h; exact ⟨x,rfl,h.symm⟩
theorem copyT_als {k i:Nat} (hi:i < wd t k):(als (copyT t al chg) k).getD i []=al k i:=by
  have hx:(t.getD k [])[i]?=some ((t.getD k []).getD i ⟨[],[]⟩):=getD_some hi
  have:(als (copyT t al chg) k)[i]?=some (al k i):=by
    unfold als
    rw [List.getElem?_map,copyT_stg,copyL_get,Nat.zero_add,hx]; rfl
  rw [List.getD_eq_getElem?_getD,this]; rfl
theorem chgE_mem {c:Sp→Sp} {l:List Edg} {e:Edg}:e∈l.flatMap (chgE c)↔∃ x∈l,(c x.ch).lo≤(c x.ch).hi∧e=⟨x.to,c x.ch⟩:=by
  rw [List.mem_flatMap]
  refine exists_congr fun x=>and_congr_right fun _=>?_
  unfold chgE
  split
  · rename_i h; rw [List.mem_singleton]; exact ⟨fun e=>⟨h,e⟩,fun e=>e.2⟩
  · rename_i h; exact ⟨fun e=>(by cases e),fun e=>absurd e.1 h⟩
theorem copyT_valid (hv:valid t) (ha:∀ k i,k < t.length→i < wd t k→small (al k i)) (hc:∀ k s,chOk s→(chg k s).lo≤(chg k s).hi→chOk (chg k s)):valid (copyT t al chg):=by
  refine ⟨by rw [copyF_len]; exact hv.1,by rw [copyF_len]; exact hv.2.1,fun k hk=>?_⟩
  rw [copyF_len] at hk
  obtain ⟨v1,v2,v3⟩:=valid_stg hv hk
  rw [copyT_wd,copyT_stg]
  refine ⟨by rw [copyL_len]; exact v1,by rw [copyL_len]; exact v2,fun y hy=>?_⟩
  obtain ⟨i,hi⟩:=List.mem_iff_getElem?.1 hy
  rw [← copyT_stg (al:=al) (chg:=chg)] at hi
  obtain ⟨x,hx,rfl⟩:=copyT_nod hi
  obtain ⟨x1,x2,x3⟩:=v3 x (List.mem_of_getElem? hx)
  refine ⟨ha k i hk (List.getElem?_eq_some_iff.1 hx).1,Nat.le_trans (chgE_len _ _) x2,fun e he=>?_⟩
  obtain ⟨e',he',hle,rfl⟩:=chgE_mem.1 he
  obtain ⟨e1,e2,e3⟩:=x3 e' he'
  exact ⟨e1,e2,hc k _ e3 hle⟩
end
section
variable {t:Trk}
theorem copyT_stp_id {al:Nat→Nat→List Sp} (hv:valid t) (k:Nat):stp (copyT t al fun _ s=>s) k=stp t k:=by
  have key:∀ (l:List Nod) (i j:Nat),(∀ x∈l,∀ e∈x.nx,chOk e.ch)→hopsF j (copyL (al k) (fun s=>s) i l)=hopsF j l:=by
    intro l
    induction l with
    | nil=>intro i j _; rfl
    | cons x r ih =>
      intro i j h
      have hx:x.nx.flatMap (chgE fun s=>s)=x.nx:=by
        have h1:∀ e∈x.nx,chgE (fun s=>s) e=[e]:=fun e he=>by
          have:=(h x (by simp) e he).2.1
          unfold chgE; rw [if_pos this]
        have:∀ l:List Edg,(∀ e∈l,chgE (fun s=>s) e=[e])→l.flatMap (chgE fun s=>s)=l:=by
          intro l
          induction l with
          | nil=>intro _; rfl
          | cons e l ih=>intro hl; rw [List.flatMap_cons,hl e (by simp),ih fun e' he'=>hl e' (by simp [he'])]; rfl
        exact this _ h1
      simp only [copyL,hopsF,hopsOf,copyN,hx,ih (i+1) (j+1) fun y hy=>h y (by simp [hy])]
  unfold stp
  rw [copyT_stg]
  refine key _ _ _ fun x hx e he=>?_
  by_cases hk:k < t.length
  · exact ((valid_stg hv hk).2.2 x hx).2.2 e he |>.2.2
  · rw [List.getD_eq_getElem?_getD,List.getElem?_eq_none (by omega)] at hx; cases hx
end
def fits (c:List At) (l:List Lim):Prop:=∀ x∈l,∃ a,c[x.st.toNat]?=some a∧Mem a.val x.vs
section
variable {t:Trk} {l:List Lim}
theorem limA_iff {k:Nat} {v:Int}:∀ {l:List Lim} {a:List Sp},Mem v (limA l k a)↔Mem v a∧∀ x∈l,x.st=(k:Int)→Mem v x.vs:=by
  intro l
  induction l with
  | nil=>intro a; simp [limA]
  | cons x r ih =>
    intro a
    have:limA (x::r) k a=limA r k (if x.st=(k:Int) then meet a x.vs else a):=rfl
    rw [this,ih]
    by_cases h:x.st=(k:Int)
    · rw [if_pos h,meet_mem]
      constructor
      · rintro ⟨⟨h1,h2⟩,h3⟩
        refine ⟨h1,fun y hy=>?_⟩
        rcases List.mem_cons.1 hy with rfl | hy
        · exact fun _=>h2
        · exact h3 y hy
      · rintro ⟨h1,h2⟩
        exact ⟨⟨h1,h2 x (by simp) h⟩,fun y hy=>h2 y (by simp [hy])⟩
    · rw [if_neg h]
      constructor
      · rintro ⟨h1,h2⟩
        refine ⟨h1,fun y hy=>?_⟩
        rcases List.mem_cons.1 hy with rfl | hy
        · exact fun e=>absurd e h
        · exact h2 y hy
      · rintro ⟨h1,h2⟩
        exact ⟨h1,fun y hy=>h2 y (by simp [hy])⟩
theorem fix_ok (h:fixE t l=0):valid t∧l.any (badL t)=false∧big (fixT t l)=false:=by
  unfold fixE at h
  split at h
  · rename_i hv
    split at h
    · cases h
    · rename_i h1
      split at h
      · cases h
      · rename_i h2
        exact ⟨tr_iff.1 hv,by simpa using h1,by simpa using h2⟩
  · cases h
theorem fix_lim (h:l.any (badL t)=false) {x:Lim} (hx:x∈l):0≤x.st∧x.st < (t.length:Int)∧small x.vs:=by
  have:=List.any_eq_false.1 h x hx
  unfold badL at this
  simp only [Bool.or_eq_true,Bool.not_eq_true',decide_eq_false_iff_not,not_or,Decidable.not_not,Bool.not_eq_false] at this
  exact ⟨this.1.1,this.1.2,this.2⟩
theorem fix_small (hv:valid t) (hg:∀ x∈l,good x.vs) (hb:big (fixT t l)=false):∀ k i,k < t.length→i < wd t k→small (limA l k ((als t k).getD i [])):=fun k i hk hi=>by
  refine ⟨?_,limA_good k l _ (goods_get (als_goods hv k) i) hg⟩
  have hx:(t.getD k [])[i]?=some ((t.getD k []).getD i ⟨[],[]⟩):=getD_some hi
  have hy:((fixT t l).getD k [])[i]?=some (copyN (limA l k ((als t k).getD i [])) (fun s=>s) ((t.getD k []).getD i ⟨[],[]⟩)):=by
    rw [copyT_stg,copyL_get,Nat.zero_add,hx]; rfl
  have hk':(fixT t l)[k]?=some ((fixT t l).getD k []):=getD_some (by rw [copyF_len]; exact hk)
  have hn:=List.any_eq_false.1 (big_f hb (List.mem_of_getElem? hk')) _ (List.mem_of_getElem? hy)
  have h64:¬ 64 < (limA l k ((als t k).getD i [])).length:=fun h=>hn (by unfold bigN copyN; simp only; rw [decide_eq_true h]; rfl)
  omega
theorem fix_good (h:l.any (badL t)=false):∀ x∈l,good x.vs:=fun x hx=>(fix_lim h hx).2.2.2
theorem fix_valid (h:fixE t l=0):valid (fixT t l):=by
  obtain ⟨hv,h1,h2⟩:=fix_ok h
  exact copyT_valid hv (fix_small hv (fix_good h1) h2) fun k s hs _=>hs
theorem fix_course (hv:valid t) (h1:l.any (badL t)=false) {c:List At}:course (fixT t l) c↔course t c∧fits c l:=by
  have hlen:(fixT t l).length=t.length:=copyF_len _ _ _ _
  constructor
  · intro h
    have hc:course t c:=by
      rw [course_iff] at h ⊢
      rw [hlen] at h
      refine ⟨h.1,fun i a ha=>?_⟩
      obtain ⟨⟨p1,p2,p3⟩,h2⟩:=h.2 i a ha
      rw [copyT_wd] at p2
      rw [copyT_als (by omega),limA_iff] at p3
      refine ⟨⟨p1,p2,p3.1⟩,fun b hb=>?_⟩
      have:=h2 b hb
      unfold stepOk at this ⊢
      rwa [copyT_stp_id hv] at this
    refine ⟨hc,fun x hx=>?_⟩
    obtain ⟨x0,x1,_⟩:=fix_lim h1 hx
    have hxl:x.st.toNat < c.length:=by rw [hc.1]; omega
    obtain ⟨a,ha⟩:∃ a,c[x.st.toNat]?=some a:=⟨_,List.getElem?_eq_getElem hxl⟩
    refine ⟨a,ha,?_⟩
    obtain ⟨p1,p2,p3⟩:=((course_iff.1 h).2 _ _ ha).1
    rw [copyT_wd] at p2
    rw [copyT_als (by omega),limA_iff] at p3
    exact p3.2 x hx (by omega)
  · rintro ⟨hc,hf⟩
    have h:=hc
    rw [course_iff] at h ⊢
    rw [hlen]
    refine ⟨h.1,fun i a ha=>?_⟩
    obtain ⟨⟨p1,p2,p3⟩,h2⟩:=h.2 i a ha
    refine ⟨⟨p1,by rw [copyT_wd]; exact p2,?_⟩,fun b hb=>?_⟩
    · rw [copyT_als (by omega),limA_iff]
      refine ⟨p3,fun x hx e=>?_⟩
      obtain ⟨a',ha',hm⟩:=hf x hx
      have e2:x.st.toNat=i:=by omega
      rw [e2,ha] at ha'; cases ha'
      exact hm
    · have:=h2 b hb
      unfold stepOk at this ⊢
      rwa [copyT_stp_id hv]
theorem fix_feas (h:fixE t l=0):feas (fixT t l)=true↔∃ c,course t c∧fits c l:=by
  obtain ⟨hv,h1,h2⟩:=fix_ok h
  rw [feas_course (fix_valid h)]
  exact exists_congr fun c=>fix_course hv h1
end
def plainN (t:Trk) (k:Nat) (l:List Nod):Bool:=match l with
  | [x]=>decide (x.al.length=1) && decide (x.nx.length≤1) && (decide (t.length≤k+1) || decide (x.nx.length≠0))
  | _=>false
def plainB (t:Trk):Prop:=∀ k,k < t.length→plainN t k (t.getD k [])=true
section
variable {t:Trk}
theorem plain_nod (h:plainB t) {k:Nat} (hk:k < t.length):∃ x s,t.getD k []=[x]∧x.al=[s]∧x.nx.length≤1∧(k+1 < t.length→x.nx.length=1):=by
  have:=h k hk
  unfold plainN at this
  split at this
  · rename_i x hx
    simp only [Bool.and_eq_true,Bool.or_eq_true,decide_eq_true_eq] at this
    obtain ⟨⟨h1,h2⟩,h3⟩:=this
    obtain ⟨s,hs⟩:=List.length_eq_one_iff.1 h1
    refine ⟨x,s,hx,hs,h2,fun h=>?_⟩
    rcases h3 with h3 | h3
    · omega
    · have:x.nx.length≠0:=h3
      omega
  · cases this
theorem plain_way (hp:plainB t) (hv:valid t):∃ (L H D E:Nat→Int),∀ c,course t c↔c.length=t.length∧∀ i a,c[i]?=some a→(a.node=0∧L i≤a.val∧a.val≤H i)∧∀ b,c[i+1]?=some b→D i≤b.val - a.val∧b.val - a.val≤E i:=by
  have hst:∀ k,∃ s:Sp,k < t.length→wd t k=1∧(als t k)=[[s]]:=fun k=>by
    by_cases hk:k < t.length
    · obtain ⟨x,s,h1,h2,_⟩:=plain_nod hp hk
      exact ⟨s,fun _=>⟨by unfold wd; rw [h1]; rfl,by unfold als; rw [h1]; simp [h2]⟩⟩
    · exact ⟨⟨0,0⟩,fun h=>absurd h hk⟩
  have hsp:∀ k,∃ g:Sp,k+1 < t.length→stp t k=[⟨0,0,g⟩]:=fun k=>by
    by_cases hk:k+1 < t.length
    · obtain ⟨x,s,h1,h2,h3,h4⟩:=plain_nod hp (show k < t.length by omega)
      obtain ⟨e,he⟩:=List.length_eq_one_iff.1 (h4 hk)
      refine ⟨e.ch,fun _=>?_⟩
      have hs:stp t k=[⟨0,e.to.toNat,e.ch⟩]:=by unfold stp hops; rw [h1]; simp [hopsF,hopsOf,he]
      have:=stp_ok hv (k:=k) (g:=⟨0,e.to.toNat,e.ch⟩) (by rw [hs]; simp)
      have h1':=(hst (k+1)).choose_spec hk
      have h0:e.to.toNat=0:=by have:=this.2.1; simp only at this; omega
      rw [hs,h0]
    · exact ⟨⟨0,0⟩,fun h=>absurd h hk⟩
  obtain ⟨S,hS0⟩:∃ S:Nat→Sp,∀ k,k < t.length→wd t k=1∧als t k=[[S k]]:=⟨fun k=>(hst k).choose,fun k=>(hst k).choose_spec⟩
  obtain ⟨G,hG0⟩:∃ G:Nat→Sp,∀ k,k+1 < t.length→stp t k=[⟨0,0,G k⟩]:=⟨fun k=>(hsp k).choose,fun k=>(hsp k).choose_spec⟩
  clear hst hsp
  refine ⟨fun k=>(S k).lo,fun k=>(S k).hi,fun k=>(G k).lo,fun k=>(G k).hi,fun c=>?_⟩
  rw [course_iff]
  refine and_congr_right fun hl=>?_
  have hP:∀ i a,c[i]?=some a→(placeOk t i a↔a.node=0∧(S i).lo≤a.val∧a.val≤(S i).hi):=fun i a ha=>by
    have hi:i < t.length:=by have:=(List.getElem?_eq_some_iff.1 ha).1; omega
    obtain ⟨w1,w2⟩:=hS0 i hi
    unfold placeOk
    rw [w1,w2]
    constructor
    · rintro ⟨h1,h2,s,hs,h3⟩
      have h0:a.node=0:=by omega
      rw [h0] at hs
      simp at hs
      rw [← hs]
      exact ⟨h0,h3⟩
    · rintro ⟨h1,h2⟩
      refine ⟨by omega,by omega,(S i),by rw [h1]; simp,h2⟩
  have hS:∀ i a b,c[i+1]?=some b→a.node=0→b.node=0→(stepOk t i a b↔(G i).lo≤b.val - a.val∧b.val - a.val≤(G i).hi):=fun i a b hb ha0 hb0=>by
    have hi1:i+1 < t.length:=by have:=(List.getElem?_eq_some_iff.1 hb).1; omega
    have w3:=hG0 i hi1
    unfold stepOk
    rw [w3]
    constructor
    · rintro ⟨h,hh,_,_,h3⟩
      simp only [List.mem_singleton] at hh
      rw [hh] at h3
      exact h3
    · intro h
      exact ⟨_,List.mem_singleton.2 rfl,by rw [ha0]; rfl,by rw [hb0]; rfl,h⟩
  constructor
  · intro h i a ha
    obtain ⟨h1,h2⟩:=h i a ha
    have h3:=(hP i a ha).1 h1
    refine ⟨h3,fun b hb=>?_⟩
    exact (hS i a b hb h3.1 ((hP _ _ hb).1 (h _ _ hb).1).1).1 (h2 b hb)
  · intro h i a ha
    obtain ⟨h1,h2⟩:=h i a ha
    refine ⟨(hP i a ha).2 h1,fun b hb=>?_⟩
    exact (hS i a b hb h1.1 (h _ _ hb).1.1).2 (h2 b hb)
def mix (f:Int→Int→Int→Int) (x y z:List At):List At:=(List.range z.length).map fun i=>⟨0,f (x.getD i ⟨0,0⟩).val (y.getD i ⟨0,0⟩).val (z.getD i ⟨0,0⟩).val⟩
theorem mix_len (f:Int→Int→Int→Int) (x y z:List At):(mix f x y z).length=z.length:=by simp [mix]
theorem mix_get {f:Int→Int→Int→Int} {x y z:List At} {i:Nat} {a:At} (h:(mix f x y z)[i]?=some a):i < z.length∧a=⟨0,f (x.getD i ⟨0,0⟩).val (y.getD i ⟨0,0⟩).val (z.getD i ⟨0,0⟩).val⟩:=by
  have hi:i < z.length:=by have:=(List.getElem?_eq_some_iff.1 h).1; rwa [mix_len] at this
  unfold mix at h
  rw [List.getElem?_map,List.getElem?_range hi] at h
  simp only [Option.map_some,Option.some.injEq] at h
  exact ⟨hi,h.symm⟩
theorem mix_at (f:Int→Int→Int→Int) (x y z:List At) {i:Nat} (h:i < z.length):(mix f x y z)[i]?=some ⟨0,f (x.getD i ⟨0,0⟩).val (y.getD i ⟨0,0⟩).val (z.getD i ⟨0,0⟩).val⟩:=by
  unfold mix
  rw [List.getElem?_map,List.getElem?_range h]; rfl
def lowF (a b _c:Int):Int:=min a b
def highF (a b _c:Int):Int:=max a b
def midF (a b c:Int):Int:=max (max (min a b) (min b c)) (min a c)
theorem mix_course (hp:plainB t) (hv:valid t) {f:Int→Int→Int→Int} (hf:∀ a b c lo hi,lo≤a→a≤hi→lo≤b→b≤hi→lo≤c→c≤hi→lo≤f a b c∧f a b c≤hi)
    (hd:∀ a b c a' b' c' lo hi,lo≤a' - a→a' - a≤hi→lo≤b' - b→b' - b≤hi→lo≤c' - c→c' - c≤hi→lo≤f a' b' c' - f a b c∧f a' b' c' - f a b c≤hi)
    {x y z:List At} (hx:course t x) (hy:course t y) (hz:course t z):course t (mix f x y z):=by
  obtain ⟨L,H,D,E,hw⟩:=plain_way hp hv
  rw [hw] at hx hy hz ⊢
  obtain ⟨lx,hx⟩:=hx
  obtain ⟨ly,hy⟩:=hy
  obtain ⟨lz,hz⟩:=hz
  refine ⟨by rw [mix_len,lz],fun i a ha=>?_⟩
  obtain ⟨hi,rfl⟩:=mix_get ha
  obtain ⟨x1,x2⟩:=hx i _ (getD_some (d:=⟨0,0⟩) (show i < x.length by omega))
  obtain ⟨y1,y2⟩:=hy i _ (getD_some (d:=⟨0,0⟩) (show i < y.length by omega))
  obtain ⟨z1,z2⟩:=hz i _ (getD_some (d:=⟨0,0⟩) (show i < z.length by omega))
  refine ⟨⟨rfl,hf _ _ _ _ _ x1.2.1 x1.2.2 y1.2.1 y1.2.2 z1.2.1 z1.2.2⟩,fun b hb=>?_⟩
  obtain ⟨hi1,rfl⟩:=mix_get hb
  have x3:=x2 _ (getD_some (d:=⟨0,0⟩) (show i+1 < x.length by omega))
  have y3:=y2 _ (getD_some (d:=⟨0,0⟩) (show i+1 < y.length by omega))
  have z3:=z2 _ (getD_some (d:=⟨0,0⟩) (show i+1 < z.length by omega))
  exact hd _ _ _ _ _ _ _ _ x3.1 x3.2 y3.1 y3.2 z3.1 z3.2
theorem low_course (hp:plainB t) (hv:valid t) {x y z:List At} (hx:course t x) (hy:course t y) (hz:course t z):course t (mix lowF x y z) :=
  mix_course hp hv (by unfold lowF; intros; omega) (by unfold lowF; intros; omega) hx hy hz
theorem high_course (hp:plainB t) (hv:valid t) {x y z:List At} (hx:course t x) (hy:course t y) (hz:course t z):course t (mix highF x y z) :=
  mix_course hp hv (by unfold highF; intros; omega) (by unfold highF; intros; omega) hx hy hz
theorem mid_course (hp:plainB t) (hv:valid t) {x y z:List At} (hx:course t x) (hy:course t y) (hz:course t z):course t (mix midF x y z) :=
  mix_course hp hv (by unfold midF; intros; omega) (by unfold midF; intros; omega) hx hy hz
def Conv (t:Trk) (A:List At→Prop):Prop:=∀ x y z,course t x→course t y→course t z→(A x∧A y∨A y∧A z∨A x∧A z)→A (mix midF x y z)
theorem Conv.and {A B:List At→Prop} (hA:Conv t A) (hB:Conv t B):Conv t fun c=>A c∧B c:=fun x y z hx hy hz h =>
  ⟨hA x y z hx hy hz (by rcases h with h | h | h <;> simp [h.1.1,h.2.1]),hB x y z hx hy hz (by rcases h with h | h | h <;> simp [h.1.2,h.2.2])⟩
theorem helly (hp:plainB t) (hv:valid t):∀ (n:Nat) (As:List (List At→Prop)),As.length=n→(∃ c,course t c)→(∀ A∈As,Conv t A)→(∀ A∈As,∀ B∈As,∃ c,course t c∧A c∧B c)→∃ c,course t c∧∀ A∈As,A c
  | _,[],_,⟨c,hc⟩,_,_=>⟨c,hc,by simp⟩
  | _,[A],_,_,_,h=>by
    obtain ⟨c,hc,ha,_⟩:=h A (by simp) A (by simp)
    exact ⟨c,hc,by simpa using ha⟩
  | 0,_::_::_,hl,_,_,_=>by simp at hl
  | n+1,A::B::r,hl,h0,hC,h=>by
    have hA:=hC A (by simp)
    have hB:=hC B (by simp)
    obtain ⟨p,hp1,hp2,hp3⟩:=h A (by simp) B (by simp)
    have three:∀ D∈r,∃ c,course t c∧(A c∧B c)∧D c:=fun D hD=>by
      obtain ⟨x,hx1,hx2,hx3⟩:=h A (by simp) D (by simp [hD])
      obtain ⟨y,hy1,hy2,hy3⟩:=h B (by simp) D (by simp [hD])
      exact ⟨mix midF p x y,mid_course hp hv hp1 hx1 hy1,⟨hA p x y hp1 hx1 hy1 (.inl ⟨hp2,hx2⟩),hB p x y hp1 hx1 hy1 (.inr (.inr ⟨hp3,hy2⟩))⟩,hC D (by simp [hD]) p x y hp1 hx1 hy1 (.inr (.inl ⟨hx3,hy3⟩))⟩
    obtain ⟨c,hc,hall⟩:=helly hp hv n ((fun c=>A c∧B c)::r) (by simpa using hl) h0 (fun D hD=>by
        rcases List.mem_cons.1 hD with rfl | hD
        · exact hA.and hB
        · exact hC D (by simp [hD])) fun D hD D' hD'=>by
      rcases List.mem_cons.1 hD with rfl | hD
      · rcases List.mem_cons.1 hD' with rfl | hD'
        · exact ⟨p,hp1,⟨hp2,hp3⟩,hp2,hp3⟩
        · exact three D' hD'
      · rcases List.mem_cons.1 hD' with rfl | hD'
        · obtain ⟨c,h1,h2,h3⟩:=three D hD
          exact ⟨c,h1,h3,h2⟩
        · exact h D (by simp [hD]) D' (by simp [hD'])
    refine ⟨c,hc,fun D hD=>?_⟩
    have h1:=hall _ List.mem_cons_self
    rcases List.mem_cons.1 hD with rfl | hD
    · exact h1.1
    · rcases List.mem_cons.1 hD with rfl | hD
      · exact h1.2
      · exact hall D (by simp [hD])
def fit1 (x:Lim) (c:List At):Prop:=∃ a,c[x.st.toNat]?=some a∧Mem a.val x.vs
theorem fit1_conv {x:Lim} (h1:x.vs.length=1):Conv t (fit1 x):=fun p q r hp hq hr h=>by
  obtain ⟨s,hs⟩:=List.length_eq_one_iff.1 h1
  have hM:∀ v,Mem v x.vs↔s.lo≤v∧v≤s.hi:=fun v=>by rw [hs]; simp [Mem]
  have key:∀ c:List At,fit1 x c→x.st.toNat < c.length∧s.lo≤(c.getD x.st.toNat ⟨0,0⟩).val∧(c.getD x.st.toNat ⟨0,0⟩).val≤s.hi:=fun c ⟨a,ha,hm⟩=>by
    have e:c.getD x.st.toNat ⟨0,0⟩=a:=by rw [List.getD_eq_getElem?_getD,ha]; rfl
    rw [e]
    exact ⟨(List.getElem?_eq_some_iff.1 ha).1,(hM _).1 hm⟩
  have l1:=hp.1
  have l2:=hq.1
  have l3:=hr.1
  have hlt:x.st.toNat < r.length:=by
    rcases h with h | h | h
    · have:=(key _ h.1).1; omega
    · have:=(key _ h.1).1; omega
    · have:=(key _ h.1).1; omega
  refine ⟨_,mix_at midF p q r hlt,(hM _).2 ?_⟩
  simp only
  unfold midF
  rcases h with h | h | h
  · have a:=key _ h.1; have b:=key _ h.2; omega
  · have a:=key _ h.1; have b:=key _ h.2; omega
  · have a:=key _ h.1; have b:=key _ h.2; omega
theorem plain_limits (hp:plainB t) (hv:valid t) {l:List Lim} (h1:∀ x∈l,x.vs.length=1) :
    (∃ c,course t c∧fits c l)↔(∃ c,course t c)∧∀ x∈l,∀ y∈l,∃ c,course t c∧fits c [x,y]:=by
  constructor
  · rintro ⟨c,hc,hf⟩
    refine ⟨⟨c,hc⟩,fun x hx y hy=>⟨c,hc,fun z hz=>?_⟩⟩
    rcases List.mem_cons.1 hz with rfl | hz
    · exact hf _ hx
    · rw [List.mem_singleton.1 hz]; exact hf _ hy
  · rintro ⟨h0,h2⟩
    obtain ⟨c,hc,hall⟩:=helly hp hv _ (l.map fit1) rfl h0 (fun A hA=>by
        obtain ⟨x,hx,rfl⟩:=List.mem_map.1 hA
        exact fit1_conv (h1 x hx)) fun A hA B hB=>by
      obtain ⟨x,hx,rfl⟩:=List.mem_map.1 hA
      obtain ⟨y,hy,rfl⟩:=List.mem_map.1 hB
      obtain ⟨c,hc,hf⟩:=h2 x hx y hy
      exact ⟨c,hc,hf x (by simp),hf y (by simp)⟩
    exact ⟨c,hc,fun x hx=>hall _ (List.mem_map_of_mem hx)⟩
theorem fits_pair {c:List At} {x y:Lim}:fits c [x,y]↔fits c [y,x]:=by
  unfold fits
  constructor <;> intro h z hz <;> exact h z (by simp at hz ⊢; exact hz.symm)
theorem lev1 (hp:plainB t) {al:Nat→List (List Sp)} {hs:Nat→List Hop} {f:List (List Sp)} (hf:f.length≤1∧∀ x∈f,x.length≤1) (ha:∀ k,(al k).length≤1∧∀ x∈al k,x.length≤1) (hh:∀ k,(hs k).length≤1) :
    ∀ k,∀ x∈lev al hs f k,x.length≤1
  | 0=>hf.2
  | k+1=>fun x hx=>by
    have ih:=lev1 hp hf ha hh k
    obtain ⟨j,hj,rfl⟩:=List.mem_map.1 hx
    have hj:=List.mem_range.1 hj
    have hA:((al (k+1)).getD j []).length≤1:=(ha (k+1)).2 _ (getD_mem hj)
    have hI:(into (hs k) (lev al hs f k) j).length≤1:=by
      have:=hh k
      unfold into
      match hk:hs k,this with
      | [],_=>simp
      | [h],_ =>
        simp only [List.flatMap_cons,List.flatMap_nil,List.append_nil]
        unfold hop1
        split
        · unfold Abs.wide
          rw [List.length_map]
          by_cases hfr:h.fr < (lev al hs f k).length
          · exact ih _ (getD_mem hfr)
          · rw [List.getD_eq_getElem?_getD,List.getElem?_eq_none (by omega)]; simp
        · simp
    unfold onto1
    have h1:=joins_len (l:=[]) (b:=into (hs k) (lev al hs f k) j)
    simp only [List.length_nil,Nat.zero_add] at h1
    have h2:=(meet_laws (joins [] (into (hs k) (lev al hs f k) j)) ((al (k+1)).getD j [])).2.2
    have h3:(joins [] (into (hs k) (lev al hs f k) j)).length * ((al (k+1)).getD j []).length≤1 * 1:=Nat.mul_le_mul (by omega) hA
    omega
theorem plain_als (hp:plainB t) (k:Nat):(als t k).length≤1∧∀ x∈als t k,x.length≤1:=by
  by_cases hk:k < t.length
  · obtain ⟨x,s,h1,h2,_⟩:=plain_nod hp hk
    unfold als; rw [h1]; simp [h2]
  · unfold als
    rw [List.getD_eq_getElem?_getD,List.getElem?_eq_none (by omega)]; simp
theorem plain_stp (hp:plainB t) (k:Nat):(stp t k).length≤1:=by
  by_cases hk:k < t.length
  · obtain ⟨x,s,h1,h2,h3,_⟩:=plain_nod hp hk
    unfold stp hops; rw [h1]; simpa [hopsF,hopsOf] using h3
  · unfold stp
    rw [List.getD_eq_getElem?_getD,List.getElem?_eq_none (by omega)]; simp [hops,hopsF]
theorem plain_fwd (hp:plainB t) (k:Nat):∀ x∈fwd t k,x.length≤1:=lev1 hp (plain_als hp 0) (plain_als hp) (plain_stp hp) k
theorem plain_bwd (hp:plainB t) (k:Nat):∀ x∈bwd t k,x.length≤1 :=
  lev1 hp (al:=alsB t) (hs:=stpB t) (plain_als hp _) (fun k=>plain_als hp _) (fun k=>by unfold stpB; rw [List.length_map]; exact plain_stp hp _) _
theorem plain_vals (hp:plainB t) (hv:valid t) (hf:feas t=true) {k:Nat} (hk:k < t.length):(unis (allv t k)).length=1:=by
  obtain ⟨c,hc⟩:=(feas_course hv).1 hf
  have hw:wd t k=1:=by obtain ⟨x,s,h1,_⟩:=plain_nod hp hk; unfold wd; rw [h1]; rfl
  have l0:=allv_len (t:=t) hk
  obtain ⟨S,hS⟩:=List.length_eq_one_iff.1 (l0.trans hw)
  have l1:(fwd t k).length=1:=by rw [fwd_len,hw]
  have l2:(bwd t k).length=1:=by rw [bwd_len hk,hw]
  obtain ⟨F,hF⟩:=List.length_eq_one_iff.1 l1
  obtain ⟨B,hB⟩:=List.length_eq_one_iff.1 l2
  have hSe:S=meet F B:=by
    have:allv t k=[meet F B]:=by unfold allv both; rw [hF,hB]; rfl
    rw [hS] at this
    exact List.cons.inj this |>.1
  have f1:=plain_fwd hp k F (by rw [hF]; simp)
  have b1:=plain_bwd hp k B (by rw [hB]; simp)
  have h3:=(meet_laws F B).2.2
  have h4:F.length * B.length≤1 * 1:=Nat.mul_le_mul f1 b1
  obtain ⟨a,ha⟩:∃ a,c[k]?=some a:=⟨_,List.getElem?_eq_getElem (by rw [hc.1]; exact hk)⟩
  obtain ⟨p1,p2,hm⟩:=(allv_course hv k a hk).2 ⟨c,hc,ha⟩
  rw [hw] at p2
  have hm2:Mem a.val (allv t k).flatten:=by
    rw [mem_flatten]
    refine ⟨_,getD_mem (d:=[]) (i:=a.node.toNat) ?_,hm⟩
    rw [l0,hw]; omega
  have hm3:Mem a.val (unis (allv t k)):=(joins0_mem _ _).2 hm2
  have h5:(unis (allv t k)).length≤1:=by
    unfold unis
    have:=joins_len (l:=[]) (b:=(allv t k).flatten)
    have e:(allv t k).flatten.length=S.length:=by rw [hS]; simp
    simp only [List.length_nil] at this
    rw [hSe] at e
    omega
  have h6:(unis (allv t k)).length≠0:=fun h=>by
    rw [List.length_eq_zero_iff.1 h] at hm3; exact hm3.elim (by simp)
  omega
theorem plain_big (hp:plainB t) {l:List Lim} (h1:∀ x∈l,x.vs.length=1) (hv:valid t):big (fixT t l)=false:=by
  have hA:∀ (l:List Lim) (k:Nat) (a:List Sp),(∀ x∈l,x.vs.length=1)→a.length≤1→(limA l k a).length≤1:=by
    intro l
    induction l with
    | nil=>intro k a _ h; exact h
    | cons x r ih =>
      intro k a hl ha
      refine ih k _ (fun y hy=>hl y (by simp [hy])) ?_
      show (if x.st=(k:Int) then meet a x.vs else a).length≤1
      split
      · have h3:=(meet_laws a x.vs).2.2
        have h4:a.length * x.vs.length≤1 * 1:=Nat.mul_le_mul ha (by rw [hl x (by simp)]; omega)
        omega
      · exact ha
  cases hb:big (fixT t l) with
  | false=>rfl
  | true =>
    exfalso
    unfold big at hb
    obtain ⟨L,hL,hb⟩:=List.any_eq_true.1 hb
    obtain ⟨y,hy,hb⟩:=List.any_eq_true.1 hb
    obtain ⟨k,hk⟩:=List.mem_iff_getElem?.1 hL
    obtain ⟨i,hi⟩:=List.mem_iff_getElem?.1 hy
    have hkt:k < t.length:=by have:=(List.getElem?_eq_some_iff.1 hk).1; rwa [copyF_len] at this
    have e:(fixT t l).getD k []=L:=by rw [List.getD_eq_getElem?_getD,hk]; rfl
    rw [← e] at hi
    obtain ⟨x,hx,rfl⟩:=copyT_nod hi
    obtain ⟨x',s,q1,q2,q3,_⟩:=plain_nod hp hkt
    have hx':=hx
    rw [q1] at hx
    cases i with
    | succ i=>simp at hx
    | zero =>
      simp at hx; subst hx
      have hal:(als t k).getD 0 []=[s]:=by unfold als; rw [q1]; simp [q2]
      have ha:=hA l k [s] h1 (by simp)
      unfold bigN copyN at hb
      simp only [Bool.or_eq_true,decide_eq_true_eq,hal] at hb
      have hnx:(x'.nx.flatMap (chgE fun s=>s)).length≤1:=by
        have hz:∀ e:Edg,(chgE (fun s=>s) e).length≤1:=fun e=>by unfold chgE; split <;> simp
        match hq:x'.nx,q3 with
        | [],_=>simp
        | [e],_=>simpa using hz e
      omega
end
def c17:CF:=⟨112,
 (.seq (.ops [
 ⟨some 1,.box false 24 1 (.t 0),none⟩,
 ⟨some 2,.mv (.c (.bool false)),none⟩] [1])
 (.seq (.seq (.ops [
 ⟨some 6,.faddr 0 (.t 1),none⟩,
 ⟨some 7,.load none (.t 6),none⟩,
 ⟨some 8,.len (.t 7),none⟩,
 ⟨some 9,.bin .gtr (.t 8) (.c (.int .i64 8)),none⟩,
 ⟨some 10,.mv (.t 9),none⟩,
 ⟨some 11,.faddr 0 (.t 1),some (10,true)⟩,
 ⟨some 12,.load none (.t 11),some (10,true)⟩,
 ⟨some 13,.len (.t 12),some (10,true)⟩,
 ⟨some 14,.bin .leq (.t 13) (.c (.int .i64 401)),some (10,true)⟩,
 ⟨some 15,.pick (.t 10) (.t 14) (.c (.bool false)),none⟩,
 ⟨some 16,.mv (.t 15),none⟩,
 ⟨some 17,.faddr 0 (.t 1),some (16,false)⟩,
 ⟨some 18,.load none (.t 17),some (16,false)⟩,
 ⟨some 19,.len (.t 18),some (16,false)⟩,
 ⟨some 20,.bin .gtr (.t 19) (.c (.int .i64 802)),some (16,false)⟩,
 ⟨some 21,.pick (.t 16) (.c (.bool true)) (.t 20),none⟩] [1,21])
 (.cond (.t 21) (.seq (.ops [
 ⟨some 2,.mv (.c (.bool false)),none⟩] [2])
 .ret)
 .skip))
 (.seq (.seq (.ops [
 ⟨some 3,.mv (.c (.int .i64 0)),none⟩] [1,3])
 (.block 0 (.loop (.seq (.seq (.ops [
 ⟨some 22,.mv (.t 3),none⟩,
 ⟨some 23,.faddr 0 (.t 1),none⟩,
 ⟨some 24,.load none (.t 23),none⟩,
 ⟨some 25,.len (.t 24),none⟩,
 ⟨some 26,.bin .lss (.t 22) (.t 25),none⟩] [1,3,26])
 (.cond (.t 26) .skip
 (.exit 0)))
 (.seq (.block 1 (.seq (.seq (.ops [
 ⟨some 29,.faddr 0 (.t 1),none⟩,
 ⟨some 30,.load none (.t 29),none⟩,
 ⟨some 31,.mv (.t 3),none⟩,
 ⟨some 32,.iaddr 1 (.t 30) (.t 31),none⟩,
 ⟨some 33,.load none (.t 32),none⟩,
 ⟨some 34,.len (.t 33),none⟩,
 ⟨some 35,.bin .gtr (.t 34) (.c (.int .i64 6)),none⟩,
 ⟨some 36,.mv (.t 35),none⟩,
 ⟨some 37,.faddr 0 (.t 1),some (36,true)⟩,
 ⟨some 38,.load none (.t 37),some (36,true)⟩,
 ⟨some 39,.mv (.t 3),some (36,true)⟩,
 ⟨some 40,.iaddr 1 (.t 38) (.t 39),some (36,true)⟩,
 ⟨some 41,.load none (.t 40),some (36,true)⟩,
 ⟨some 42,.len (.t 41),some (36,true)⟩,
 ⟨some 43,.bin .leq (.t 42) (.c (.int .i64 4000)),some (36,true)⟩,
 ⟨some 44,.mv (.t 43),some (36,true)⟩,
 ⟨some 45,.faddr 0 (.t 1),some (44,false)⟩,
 ⟨some 46,.load none (.t 45),some (44,false)⟩,
 ⟨some 47,.len (.t 46),some (44,false)⟩,
 ⟨some 48,.bin .gtr (.t 47) (.c (.int .i64 8)),some (44,false)⟩,
 ⟨some 49,.pick (.t 44) (.c (.bool true)) (.t 48),some (36,true)⟩,
 ⟨some 50,.pick (.t 36) (.t 49) (.c (.bool false)),none⟩,
 ⟨some 51,.mv (.t 50),none⟩,
 ⟨some 52,.faddr 0 (.t 1),some (51,false)⟩,
 ⟨some 53,.load none (.t 52),some (51,false)⟩,
 ⟨some 54,.mv (.t 3),some (51,false)⟩,
 ⟨some 55,.iaddr 1 (.t 53) (.t 54),some (51,false)⟩,
 ⟨some 56,.load none (.t 55),some (51,false)⟩,
 ⟨some 57,.len (.t 56),some (51,false)⟩,
 ⟨some 58,.bin .gtr (.t 57) (.c (.int .i64 8000)),some (51,false)⟩,
 ⟨some 59,.pick (.t 51) (.c (.bool true)) (.t 58),none⟩] [1,3,59])
 (.cond (.t 59) (.seq (.ops [
 ⟨some 2,.mv (.c (.bool false)),none⟩] [2])
 .ret)
 .skip))
 (.seq (.ops [
 ⟨some 4,.mv (.c (.int .i64 0)),none⟩] [1,3,4])
 (.block 2 (.loop (.seq (.seq (.ops [
 ⟨some 60,.mv (.t 4),none⟩,
 ⟨some 61,.faddr 0 (.t 1),none⟩,
 ⟨some 62,.load none (.t 61),none⟩,
 ⟨some 63,.mv (.t 3),none⟩,
 ⟨some 64,.iaddr 1 (.t 62) (.t 63),none⟩,
 ⟨some 65,.load none (.t 64),none⟩,
 ⟨some 66,.len (.t 65),none⟩,
 ⟨some 67,.bin .lss (.t 60) (.t 66),none⟩] [1,3,4,67])
 (.cond (.t 67) .skip
 (.exit 2)))
 (.seq (.block 3 (.seq (.ops [
 ⟨some 70,.faddr 0 (.t 1),none⟩,
 ⟨some 71,.load none (.t 70),none⟩,
 ⟨some 72,.mv (.t 3),none⟩,
 ⟨some 73,.iaddr 1 (.t 71) (.t 72),none⟩,
 ⟨some 74,.load none (.t 73),none⟩,
 ⟨some 75,.mv (.t 4),none⟩,
 ⟨some 76,.iaddr 2 (.t 74) (.t 75),none⟩,
 ⟨some 77,.load (some 2) (.t 76),none⟩,
 ⟨some 5,.alloc 80 2 [.slice none 0 0,.slice none 0 0],none⟩,
 ⟨none,.store 2 (.t 5) (.t 77),none⟩] [1,3,4,5])
 (.seq (.ops [
 ⟨some 78,.faddr 0 (.t 5),none⟩,
 ⟨some 79,.load none (.t 78),none⟩,
 ⟨some 80,.len (.t 79),none⟩,
 ⟨some 81,.bin .gtr (.t 80) (.c (.int .i64 8)),none⟩,
 ⟨some 82,.mv (.t 81),none⟩,
 ⟨some 83,.faddr 0 (.t 5),some (82,true)⟩,
 ⟨some 84,.load none (.t 83),some (82,true)⟩,
 ⟨some 85,.len (.t 84),some (82,true)⟩,
 ⟨some 86,.bin .leq (.t 85) (.c (.int .i64 64)),some (82,true)⟩,
 ⟨some 87,.pick (.t 82) (.t 86) (.c (.bool false)),none⟩,
 ⟨some 88,.mv (.t 87),none⟩,
 ⟨some 89,.faddr 0 (.t 5),some (88,false)⟩,
 ⟨some 90,.load none (.t 89),some (88,false)⟩,
 ⟨some 91,.len (.t 90),some (88,false)⟩,
 ⟨some 92,.bin .gtr (.t 91) (.c (.int .i64 128)),some (88,false)⟩,
 ⟨some 93,.pick (.t 88) (.c (.bool true)) (.t 92),none⟩,
 ⟨some 94,.mv (.t 93),none⟩,
 ⟨some 95,.faddr 1 (.t 5),some (94,false)⟩,
 ⟨some 96,.load none (.t 95),some (94,false)⟩,
 ⟨some 97,.len (.t 96),some (94,false)⟩,
 ⟨some 98,.bin .gtr (.t 97) (.c (.int .i64 8)),some (94,false)⟩,
 ⟨some 99,.mv (.t 98),some (94,false)⟩,
 ⟨some 100,.faddr 1 (.t 5),some (99,true)⟩,
 ⟨some 101,.load none (.t 100),some (99,true)⟩,
 ⟨some 102,.len (.t 101),some (99,true)⟩,
 ⟨some 103,.bin .leq (.t 102) (.c (.int .i64 64)),some (99,true)⟩,
 ⟨some 104,.pick (.t 99) (.t 103) (.c (.bool false)),some (94,false)⟩,
 ⟨some 105,.pick (.t 94) (.c (.bool true)) (.t 104),none⟩,
 ⟨some 106,.mv (.t 105),none⟩,
 ⟨some 107,.faddr 1 (.t 5),some (106,false)⟩,
 ⟨some 108,.load none (.t 107),some (106,false)⟩,
 ⟨some 109,.len (.t 108),some (106,false)⟩,
 ⟨some 110,.bin .gtr (.t 109) (.c (.int .i64 128)),some (106,false)⟩,
 ⟨some 111,.pick (.t 106) (.c (.bool true)) (.t 110),none⟩] [1,3,4,111])
 (.cond (.t 111) (.seq (.ops [
 ⟨some 2,.mv (.c (.bool false)),none⟩] [2])
 .ret)
 .skip))))
 (.ops [
 ⟨some 68,.mv (.t 4),none⟩,
 ⟨some 69,.bin .add (.t 68) (.c (.int .i64 1)),none⟩,
 ⟨some 4,.mv (.t 69),none⟩] [1,3,4]))))))))
 (.ops [
 ⟨some 27,.mv (.t 3),none⟩,
 ⟨some 28,.bin .add (.t 27) (.c (.int .i64 1)),none⟩,
 ⟨some 3,.mv (.t 28),none⟩] [1,3]))))))
 (.seq (.ops [
 ⟨some 2,.mv (.c (.bool true)),none⟩] [2])
 .ret)))),
 [.t 2]⟩
theorem k17:chkF Tryz.prog Tryz.f17 c17=true:=by kernel_rfl
abbrev manyN (x:Nod):Prop:=((8 < x.al.length∧x.al.length≤64)∨128 < x.al.length)∨(8 < x.nx.length∧x.nx.length≤64)∨128 < x.nx.length
abbrev manyL (m:Nat) (l:List Nod):Prop:=(6 < l.length∧(l.length≤4000∨8 < m))∨8000 < l.length
abbrev manyT (m:Nat):Prop:=(8 < m∧m≤401)∨802 < m
def fewB (t:Trk):Bool:=!decide (manyT t.length) && t.all fun l=>!decide (manyL t.length l) && l.all fun x=>!decide (manyN x)
theorem fewB_f1 {t:Trk} (h:manyT t.length):fewB t=false:=by unfold fewB; rw [decide_eq_true h]; rfl
theorem fewB_f {t:Trk} {l:List Nod} (hl:l∈t) (h:(!decide (manyL t.length l) && l.all fun x=>!decide (manyN x))=false):fewB t=false:=by
  unfold fewB
  have:(t.all fun l=>!decide (manyL t.length l) && l.all fun x=>!decide (manyN x))=false:=by
    cases ha:t.all fun l=>!decide (manyL t.length l) && l.all fun x=>!decide (manyN x) with
    | false=>rfl
    | true=>rw [List.all_eq_true.1 ha l hl] at h; cases h
  rw [this]; simp
theorem fewB_t {t:Trk} (h1:¬ manyT t.length) (h:∀ l∈t,¬ manyL t.length l∧∀ x∈l,¬ manyN x):fewB t=true:=by
  unfold fewB
  rw [decide_eq_false h1]
  have:(t.all fun l=>!decide (manyL t.length l) && l.all fun x=>!decide (manyN x))=true:=List.all_eq_true.2 fun l hl=>by
    obtain ⟨h2,h3⟩:=h l hl
    rw [decide_eq_false h2]
    have:(l.all fun x=>!decide (manyN x))=true:=List.all_eq_true.2 fun x hx=>by rw [decide_eq_false (h3 x hx)]; rfl
    rw [this]; rfl
  rw [this]; rfl
theorem few_spec (t:Trk) (hs:trkSz t):Pure Tryz.prog 17 [trS t] (bl (fewB t)):=by
  refine Pure.of_body Tryz.call17 Tryz.func17 k17 (Nat.le_of_ble_eq_true rfl) ?_
  unfold c17
  have h1:=hs.1
  (repeat' ((first
 | refine vn rfl ?_
 | simp (disch:=omega) only [wr64,Int.zero_sub]
 | refine bo (fun _=>?_) fun _=>?_
 | refine im fun _=>?_
 | refine cF ?_
 | refine om ?_
 | refine an ?_
 | fail) <;> try simp only [zT,zV,zS,zU,vcC,lateX,ex,strp,binA,elems,cells,scalar,eqC,keyA,intsA,lookA,ofVs,mpOf,Nat.reduceBEq,reduceAdd,reduceSub,reduceLT,reduceLeDiff,reduceMul,reduceEqDiff,reduceIte]))
  · rename_i h
    rw [fewB_f1 (by unfold manyT; omega)]
    exact Frz.eq rfl (by simp)
  rename_i hT
  refine AWPC.loopE (α:={ x:Nat × Sto // x.1≤t.length∧∀ l∈t.take x.1,¬ manyL t.length l∧∀ y∈l,¬ manyN y }) [3] (fun x=>[(3,n x.1.1)]) (fun x=>x.1.2) (fun x=>t.length - x.1.1) ⟨(0,[]),Nat.zero_le _,by simp⟩ ?_ rfl ?_
  · (simp only [zT,zV,zS,zU,vcC,lateX,ex,strp,binA,elems,cells,scalar,eqC,keyA,intsA,lookA,ofVs,mpOf,Nat.reduceBEq,reduceAdd,reduceSub,reduceLT,reduceLeDiff,reduceMul,reduceEqDiff,reduceIte]; try simp)
  rintro ⟨⟨k,μ⟩,hk,hk2⟩
  try simp only at hk hk2
  try simp only
  by_cases hlt:k < t.length
  · have htk:t[k]?=some (t.getD k []):=getD_some hlt
    have gtk:(t.map fun l=>[stS l]).getD k []=[stS (t.getD k [])]:=getD_map htk
    have hm:=List.mem_of_getElem? htk
    have hs2:=hs.2 _ hm
    have hsn:=take_snoc htk
    generalize t.getD k []=L at *
    obtain ⟨hL,hL2⟩:=hs2
    (repeat' ((first
 | refine vn rfl ?_
 | simp (disch:=omega) only [wr64,Int.zero_sub]
 | refine bo (fun _=>?_) fun _=>?_
 | refine im fun _=>?_
 | refine cF ?_
 | refine om ?_
 | refine an ?_
 | fail) <;> try simp only [zT,zV,zS,zU,vcC,lateX,ex,strp,binA,elems,cells,scalar,eqC,keyA,intsA,lookA,ofVs,mpOf,Nat.reduceBEq,reduceAdd,reduceSub,reduceLT,reduceLeDiff,reduceMul,reduceEqDiff,reduceIte,gtk]))
    all_goals try (exfalso; omega)
    · rename_i h
      rw [fewB_f hm (by rw [decide_eq_true (by unfold manyL; omega)]; rfl)]
      exact Frz.eq rfl (by simp)
    rename_i hM
    have hM':¬ manyL t.length L:=by unfold manyL; omega
    refine AWPC.loopE (α:={ x:Nat × Sto // x.1≤L.length∧∀ y∈L.take x.1,¬ manyN y }) [4] (fun x=>[(4,n x.1.1)]) (fun x=>x.1.2) (fun x=>L.length - x.1.1) ⟨(0,μ),Nat.zero_le _,by simp⟩ ?_ rfl ?_
    · (simp only [zT,zV,zS,zU,vcC,lateX,ex,strp,binA,elems,cells,scalar,eqC,keyA,intsA,lookA,ofVs,mpOf,Nat.reduceBEq,reduceAdd,reduceSub,reduceLT,reduceLeDiff,reduceMul,reduceEqDiff,reduceIte]; try simp)
    rintro ⟨⟨i,ν⟩,hi,hi2⟩
    try simp only at hi hi2
    try simp only
    by_cases hlt2:i < L.length
    · obtain ⟨x,hx⟩:∃ x,L[i]?=some x:=⟨_,List.getElem?_eq_getElem hlt2⟩
      have hxm:=List.mem_of_getElem? hx
      obtain ⟨x1,x2⟩:=hL2 x hxm
      have hsx:=take_snoc hx
      (repeat' ((first
 | refine vn rfl ?_
 | simp (disch:=omega) only [wr64,Int.zero_sub]
 | refine bo (fun _=>?_) fun _=>?_
 | refine im fun _=>?_
 | refine cF ?_
 | refine om ?_
 | refine an ?_
 | fail) <;> try simp only [zT,zV,zS,zU,vcC,lateX,ex,strp,binA,elems,cells,scalar,eqC,keyA,intsA,lookA,ofVs,mpOf,Nat.reduceBEq,reduceAdd,reduceSub,reduceLT,reduceLeDiff,reduceMul,reduceEqDiff,reduceIte,gtk,getD_map hx,List.cons_append]))
      all_goals try (exfalso; omega)
      · rename_i h
        have hN:manyN x:=by unfold manyN; omega
        have hf:(!decide (manyL t.length L) && L.all fun x=>!decide (manyN x))=false:=by
          rw [Bool.and_eq_false_iff]
          refine .inr ?_
          cases ha:L.all fun x=>!decide (manyN x) with
          | false=>rfl
          | true=>have:=List.all_eq_true.1 ha x hxm; rw [decide_eq_true hN] at this; cases this
        rw [fewB_f hm hf]
        exact Frz.eq rfl (by simp)
      · rename_i h
        have hN:¬ manyN x:=by unfold manyN; omega
        exact ⟨⟨(i+1,ν++[some [⟨80,2,[Nod.cs x],none⟩]]),hlt2,fun y hy=>by
          rw [hsx] at hy
          rcases List.mem_append.1 hy with h | h
          · exact hi2 y h
          · rw [List.mem_singleton.1 h]; exact hN⟩,rfl,rfl,by simp only; omega⟩
    · obtain rfl:i=L.length:=by omega
      rw [List.take_length] at hi2
      (repeat' ((first
 | refine vn rfl ?_
 | simp (disch:=omega) only [wr64,Int.zero_sub]
 | refine bo (fun _=>?_) fun _=>?_
 | refine im fun _=>?_
 | refine cF ?_
 | refine om ?_
 | refine an ?_
 | fail) <;> try simp only [zT,zV,zS,zU,vcC,lateX,ex,strp,binA,elems,cells,scalar,eqC,keyA,intsA,lookA,ofVs,mpOf,Nat.reduceBEq,reduceAdd,reduceSub,reduceLT,reduceLeDiff,reduceMul,reduceEqDiff,reduceIte,gtk]))
      all_goals try (exfalso; omega)
      exact ⟨⟨(k+1,ν),hlt,fun l hl=>by
        rw [hsn] at hl
        rcases List.mem_append.1 hl with h | h
        · exact hk2 l h
        · rw [List.mem_singleton.1 h]
          exact ⟨hM',hi2⟩⟩,rfl,rfl,by simp only; omega⟩
  · obtain rfl:k=t.length:=by omega
    rw [List.take_length] at hk2
    rw [fewB_t (by unfold manyT; omega) hk2]
    (repeat' ((first
 | refine vn rfl ?_
 | simp (disch:=omega) only [wr64,Int.zero_sub]
 | refine bo (fun _=>?_) fun _=>?_
 | refine im fun _=>?_
 | refine cF ?_
 | refine om ?_
 | refine an ?_
 | fail) <;> try simp only [zT,zV,zS,zU,vcC,lateX,ex,strp,binA,elems,cells,scalar,eqC,keyA,intsA,lookA,ofVs,mpOf,Nat.reduceBEq,reduceAdd,reduceSub,reduceLT,reduceLeDiff,reduceMul,reduceEqDiff,reduceIte]))
    all_goals try (exfalso; omega)
    exact Frz.eq rfl (by simp)
def c9:CF:=⟨247,
 (.seq (.ops [
 ⟨some 3,.box false 24 1 (.t 0),none⟩,
 ⟨some 4,.box false 33 11 (.t 1),none⟩,
 ⟨some 6,.mv (.c (.bool false)),none⟩] [2,3,4])
 (.seq (.ops [
 ⟨some 30,.call (.f 16) [],none⟩,
 ⟨some 7,.mv (.t 30),none⟩] [2,3,4,7])
 (.seq (.seq (.ops [
 ⟨some 31,.load (some 1) (.t 3),none⟩,
 ⟨some 32,.call (.f 17) [(.t 31)],none⟩,
 ⟨some 33,.un .not (.t 32),none⟩,
 ⟨some 34,.mv (.t 33),none⟩,
 ⟨some 35,.load (some 11) (.t 4),some (34,false)⟩,
 ⟨some 36,.call (.f 18) [(.t 35)],some (34,false)⟩,
 ⟨some 37,.un .not (.t 36),some (34,false)⟩,
 ⟨some 38,.pick (.t 34) (.c (.bool true)) (.t 37),none⟩,
 ⟨some 39,.mv (.t 38),none⟩,
 ⟨some 40,.mv (.t 2),some (39,false)⟩,
 ⟨some 41,.len (.t 40),some (39,false)⟩,
 ⟨some 42,.bin .gtr (.t 41) (.c (.int .i64 500)),some (39,false)⟩,
 ⟨some 43,.pick (.t 39) (.c (.bool true)) (.t 42),none⟩,
 ⟨some 44,.mv (.t 43),none⟩,
 ⟨some 45,.load (some 1) (.t 3),some (44,false)⟩,
 ⟨some 46,.call (.f 52) [(.t 45)],some (44,false)⟩,
 ⟨some 47,.un .not (.t 46),some (44,false)⟩,
 ⟨some 48,.pick (.t 44) (.c (.bool true)) (.t 47),none⟩,
 ⟨some 49,.mv (.t 48),none⟩,
 ⟨some 50,.load (some 1) (.t 3),some (49,false)⟩,
 ⟨some 51,.call (.f 53) [(.t 50)],some (49,false)⟩,
 ⟨some 52,.bin .neq (.t 51) (.c (.int .i64 0)),some (49,false)⟩,
 ⟨some 53,.pick (.t 49) (.c (.bool true)) (.t 52),none⟩,
 ⟨some 54,.mv (.t 53),none⟩,
 ⟨some 55,.faddr 7 (.t 4),some (54,false)⟩,
 ⟨some 56,.load none (.t 55),some (54,false)⟩,
 ⟨some 57,.len (.t 56),some (54,false)⟩,
 ⟨some 58,.bin .gtr (.t 57) (.c (.int .i64 8)),some (54,false)⟩,
 ⟨some 59,.pick (.t 54) (.c (.bool true)) (.t 58),none⟩] [2,3,4,7,59])
 (.cond (.t 59) (.seq (.ops [
 ⟨some 60,.mv (.t 7),none⟩,
 ⟨some 6,.mv (.t 60),none⟩] [6])
 .ret)
 .skip))
 (.seq (.seq (.ops [
 ⟨some 61,.load (some 1) (.t 3),none⟩,
 ⟨some 62,.faddr 5 (.t 4),none⟩,
 ⟨some 63,.load none (.t 62),none⟩,
 ⟨some 64,.call (.f 49) [(.t 61),(.t 63)],none⟩,
 ⟨some 65,.mv (.t 64),none⟩,
 ⟨some 66,.load (some 1) (.t 3),some (65,true)⟩,
 ⟨some 67,.faddr 6 (.t 4),some (65,true)⟩,
 ⟨some 68,.load none (.t 67),some (65,true)⟩,
 ⟨some 69,.call (.f 49) [(.t 66),(.t 68)],some (65,true)⟩,
 ⟨some 70,.pick (.t 65) (.t 69) (.c (.bool false)),none⟩,
 ⟨some 71,.mv (.t 70),none⟩,
 ⟨some 72,.load (some 1) (.t 3),some (71,true)⟩,
 ⟨some 73,.mv (.t 2),some (71,true)⟩,
 ⟨some 74,.call (.f 49) [(.t 72),(.t 73)],some (71,true)⟩,
 ⟨some 75,.pick (.t 71) (.t 74) (.c (.bool false)),none⟩] [2,3,4,7,75])
 (.cond (.t 75) (.seq (.ops [
 ⟨some 8,.mv (.c (.slice none 0 0)),none⟩] [2,3,4,7,8])
 (.seq (.ops [
 ⟨some 9,.mv (.c (.slice none 0 0)),none⟩] [2,3,4,7,8,9])
 (.seq (.ops [
 ⟨some 10,.mv (.c (.slice none 0 0)),none⟩] [2,3,4,7,8,9,10])
 (.seq (.seq (.ops [
 ⟨some 11,.mv (.c (.int .i64 0)),none⟩] [2,3,4,7,8,9,10,11])
 (.block 0 (.loop (.seq (.seq (.ops [
 ⟨some 76,.mv (.t 11),none⟩,
 ⟨some 77,.mv (.t 2),none⟩,
 ⟨some 78,.len (.t 77),none⟩,
 ⟨some 79,.bin .lss (.t 76) (.t 78),none⟩] [2,3,4,7,8,9,10,11,79])
 (.cond (.t 79) .skip
 (.exit 0)))
 (.seq (.block 1 (.seq (.ops [
 ⟨some 82,.faddr 5 (.t 4),none⟩,
 ⟨some 83,.load none (.t 82),none⟩,
 ⟨some 84,.mv (.t 11),none⟩,
 ⟨some 85,.iaddr 2 (.t 83) (.t 84),none⟩,
 ⟨some 86,.faddr 1 (.t 85),none⟩,
 ⟨some 87,.load none (.t 86),none⟩,
 ⟨some 12,.mv (.t 87),none⟩] [2,3,4,7,8,9,10,11,12])
 (.seq (.ops [
 ⟨some 88,.faddr 6 (.t 4),none⟩,
 ⟨some 89,.load none (.t 88),none⟩,
 ⟨some 90,.mv (.t 11),none⟩,
 ⟨some 91,.iaddr 2 (.t 89) (.t 90),none⟩,
 ⟨some 92,.faddr 1 (.t 91),none⟩,
 ⟨some 93,.load none (.t 92),none⟩,
 ⟨some 13,.mv (.t 93),none⟩] [2,3,4,7,8,9,10,11,12,13])
 (.seq (.ops [
 ⟨some 94,.mv (.t 2),none⟩,
 ⟨some 95,.mv (.t 11),none⟩,
 ⟨some 96,.iaddr 2 (.t 94) (.t 95),none⟩,
 ⟨some 97,.faddr 1 (.t 96),none⟩,
 ⟨some 98,.load none (.t 97),none⟩,
 ⟨some 14,.mv (.t 98),none⟩] [2,3,4,7,8,9,10,11,12,13,14])
 (.seq (.ops [
 ⟨some 99,.mv (.t 8),none⟩,
 ⟨some 100,.mv (.t 12),none⟩,
 ⟨some 101,.mv (.t 13),none⟩,
 ⟨some 102,.mnx false (.t 100) (.t 101),none⟩,
 ⟨some 103,.build [.int .i64 0,.int .i64 0] [(1,1,(.t 102))],none⟩,
 ⟨some 104,.bsl false 26 2 1 [.int .i64 0,.int .i64 0] [(0,2,(.t 103))],none⟩,
 ⟨some 105,.app 26 2 16 (.t 99) (.t 104),none⟩,
 ⟨some 8,.mv (.t 105),none⟩] [2,3,4,7,8,9,10,11,12,13,14])
 (.seq (.ops [
 ⟨some 106,.mv (.t 9),none⟩,
 ⟨some 107,.mv (.t 12),none⟩,
 ⟨some 108,.mv (.t 13),none⟩,
 ⟨some 109,.mnx true (.t 107) (.t 108),none⟩,
 ⟨some 110,.build [.int .i64 0,.int .i64 0] [(1,1,(.t 109))],none⟩,
 ⟨some 111,.bsl false 26 2 1 [.int .i64 0,.int .i64 0] [(0,2,(.t 110))],none⟩,
 ⟨some 112,.app 26 2 16 (.t 106) (.t 111),none⟩,
 ⟨some 9,.mv (.t 112),none⟩] [2,3,4,7,8,9,10,11,12,13,14])
 (.ops [
 ⟨some 113,.mv (.t 10),none⟩,
 ⟨some 114,.mv (.t 12),none⟩,
 ⟨some 115,.mv (.t 13),none⟩,
 ⟨some 116,.mnx false (.t 114) (.t 115),none⟩,
 ⟨some 117,.mv (.t 13),none⟩,
 ⟨some 118,.mv (.t 14),none⟩,
 ⟨some 119,.mnx false (.t 117) (.t 118),none⟩,
 ⟨some 120,.mv (.t 12),none⟩,
 ⟨some 121,.mv (.t 14),none⟩,
 ⟨some 122,.mnx false (.t 120) (.t 121),none⟩,
 ⟨some 123,.mn3 true (.t 116) (.t 119) (.t 122),none⟩,
 ⟨some 124,.build [.int .i64 0,.int .i64 0] [(1,1,(.t 123))],none⟩,
 ⟨some 125,.bsl false 26 2 1 [.int .i64 0,.int .i64 0] [(0,2,(.t 124))],none⟩,
 ⟨some 126,.app 26 2 16 (.t 113) (.t 125),none⟩,
 ⟨some 10,.mv (.t 126),none⟩] [2,3,4,7,8,9,10,11])))))))
 (.ops [
 ⟨some 80,.mv (.t 11),none⟩,
 ⟨some 81,.bin .add (.t 80) (.c (.int .i64 1)),none⟩,
 ⟨some 11,.mv (.t 81),none⟩] [2,3,4,7,8,9,10,11]))))))
 (.seq (.ops [
 ⟨some 127,.load (some 1) (.t 3),none⟩,
 ⟨some 128,.mv (.t 8),none⟩,
 ⟨some 129,.call (.f 49) [(.t 127),(.t 128)],none⟩,
 ⟨some 130,.un .not (.t 129),none⟩,
 ⟨some 131,.mv (.t 130),none⟩,
 ⟨some 132,.load (some 1) (.t 3),some (131,false)⟩,
 ⟨some 133,.mv (.t 9),some (131,false)⟩,
 ⟨some 134,.call (.f 49) [(.t 132),(.t 133)],some (131,false)⟩,
 ⟨some 135,.un .not (.t 134),some (131,false)⟩,
 ⟨some 136,.pick (.t 131) (.c (.bool true)) (.t 135),none⟩,
 ⟨some 137,.mv (.t 136),none⟩,
 ⟨some 138,.load (some 1) (.t 3),some (137,false)⟩,
 ⟨some 139,.mv (.t 10),some (137,false)⟩,
 ⟨some 140,.call (.f 49) [(.t 138),(.t 139)],some (137,false)⟩,
 ⟨some 141,.un .not (.t 140),some (137,false)⟩,
 ⟨some 142,.pick (.t 137) (.c (.bool true)) (.t 141),none⟩] [3,4,7,142])
 (.cond (.t 142) (.seq (.ops [
 ⟨some 6,.mv (.c (.bool false)),none⟩] [6])
 .ret)
 .skip))))))
 .skip))
 (.seq (.seq (.ops [
 ⟨some 15,.mv (.c (.int .i64 0)),none⟩] [3,4,7,15])
 (.block 2 (.loop (.seq (.seq (.ops [
 ⟨some 143,.mv (.t 15),none⟩,
 ⟨some 144,.faddr 0 (.t 3),none⟩,
 ⟨some 145,.load none (.t 144),none⟩,
 ⟨some 146,.len (.t 145),none⟩,
 ⟨some 147,.bin .lss (.t 143) (.t 146),none⟩] [3,4,7,15,147])
 (.cond (.t 147) .skip
 (.exit 2)))
 (.seq (.block 3 (.seq (.ops [
 ⟨some 151,.load (some 1) (.t 3),none⟩,
 ⟨some 152,.mv (.t 15),none⟩,
 ⟨some 153,.call (.f 36) [(.t 151),(.t 152)],none⟩,
 ⟨some 150,.mv (.t 153),none⟩,
 ⟨some 154,.ext 0 (.t 150),none⟩,
 ⟨some 155,.ext 1 (.t 150),none⟩,
 ⟨some 16,.mv (.t 154),none⟩,
 ⟨some 17,.mv (.t 155),none⟩] [3,4,7,15,16,17])
 (.seq (.ops [
 ⟨some 156,.mv (.t 17),none⟩,
 ⟨some 157,.bin .eql (.t 156) (.c (.int .i64 0)),none⟩,
 ⟨some 158,.mv (.t 157),none⟩,
 ⟨some 159,.mv (.t 16),some (158,true)⟩,
 ⟨some 160,.len (.t 159),some (158,true)⟩,
 ⟨some 161,.bin .neq (.t 160) (.c (.int .i64 1)),some (158,true)⟩,
 ⟨some 162,.pick (.t 158) (.t 161) (.c (.bool false)),none⟩] [3,4,7,15,162])
 (.cond (.t 162) (.seq (.ops [
 ⟨some 6,.mv (.c (.bool false)),none⟩] [6])
 .ret)
 .skip))))
 (.ops [
 ⟨some 148,.mv (.t 15),none⟩,
 ⟨some 149,.bin .add (.t 148) (.c (.int .i64 1)),none⟩,
 ⟨some 15,.mv (.t 149),none⟩] [3,4,7,15]))))))
 (.seq (.ops [
 ⟨some 164,.load (some 1) (.t 3),none⟩,
 ⟨some 165,.faddr 7 (.t 4),none⟩,
 ⟨some 166,.load none (.t 165),none⟩,
 ⟨some 167,.call (.f 42) [(.t 164),(.t 166)],none⟩,
 ⟨some 163,.mv (.t 167),none⟩,
 ⟨some 168,.ext 0 (.t 163),none⟩,
 ⟨some 169,.ext 1 (.t 163),none⟩,
 ⟨some 18,.alloc 24 1 [.slice none 0 0],none⟩,
 ⟨none,.store 1 (.t 18) (.t 168),none⟩,
 ⟨some 19,.mv (.t 169),none⟩] [3,4,7,18,19])
 (.seq (.seq (.ops [
 ⟨some 170,.mv (.t 19),none⟩,
 ⟨some 171,.bin .neq (.t 170) (.c (.int .i64 0)),none⟩] [3,4,7,18,171])
 (.cond (.t 171) (.seq (.ops [
 ⟨some 172,.mv (.t 7),none⟩,
 ⟨some 6,.mv (.t 172),none⟩] [6])
 .ret)
 .skip))
 (.seq (.ops [
 ⟨some 174,.load (some 1) (.t 3),none⟩,
 ⟨some 175,.call (.f 47) [(.t 174)],none⟩,
 ⟨some 173,.mv (.t 175),none⟩,
 ⟨some 176,.ext 0 (.t 173),none⟩,
 ⟨some 177,.ext 1 (.t 173),none⟩,
 ⟨some 20,.mv (.t 176),none⟩,
 ⟨some 21,.mv (.t 177),none⟩] [3,4,7,18,20])
 (.seq (.seq (.ops [
 ⟨some 22,.mv (.c (.int .i64 0)),none⟩] [3,4,7,18,20,22])
 (.block 4 (.loop (.seq (.seq (.ops [
 ⟨some 178,.mv (.t 22),none⟩,
 ⟨some 179,.faddr 7 (.t 4),none⟩,
 ⟨some 180,.load none (.t 179),none⟩,
 ⟨some 181,.len (.t 180),none⟩,
 ⟨some 182,.bin .lss (.t 178) (.t 181),none⟩] [3,4,7,18,20,22,182])
 (.cond (.t 182) .skip
 (.exit 4)))
 (.seq (.block 5 (.seq (.seq (.ops [
 ⟨some 185,.faddr 7 (.t 4),none⟩,
 ⟨some 186,.load none (.t 185),none⟩,
 ⟨some 187,.mv (.t 22),none⟩,
 ⟨some 188,.iaddr 2 (.t 186) (.t 187),none⟩,
 ⟨some 189,.faddr 1 (.t 188),none⟩,
 ⟨some 190,.load none (.t 189),none⟩,
 ⟨some 191,.len (.t 190),none⟩,
 ⟨some 192,.bin .neq (.t 191) (.c (.int .i64 1)),none⟩] [3,4,7,18,20,22,192])
 (.cond (.t 192) (.seq (.ops [
 ⟨some 193,.mv (.t 7),none⟩,
 ⟨some 6,.mv (.t 193),none⟩] [6])
 .ret)
 .skip))
 (.seq (.ops [
 ⟨some 23,.mv (.c (.int .i64 0)),none⟩] [3,4,7,18,20,22,23])
 (.block 6 (.loop (.seq (.seq (.ops [
 ⟨some 194,.mv (.t 23),none⟩,
 ⟨some 195,.mv (.t 22),none⟩,
 ⟨some 196,.bin .leq (.t 194) (.t 195),none⟩] [3,4,7,18,20,22,23,196])
 (.cond (.t 196) .skip
 (.exit 6)))
 (.seq (.block 7 (.seq (.drawl 15 [
 ⟨some 200,.load (some 1) (.t 3),none⟩,
 ⟨some 201,.faddr 7 (.t 4),none⟩,
 ⟨some 202,.load none (.t 201),none⟩,
 ⟨some 203,.mv (.t 22),none⟩,
 ⟨some 204,.iaddr 2 (.t 202) (.t 203),none⟩,
 ⟨some 205,.load (some 2) (.t 204),none⟩,
 ⟨some 206,.faddr 7 (.t 4),none⟩,
 ⟨some 207,.load none (.t 206),none⟩,
 ⟨some 208,.mv (.t 23),none⟩,
 ⟨some 209,.iaddr 2 (.t 207) (.t 208),none⟩,
 ⟨some 210,.load (some 2) (.t 209),none⟩,
 ⟨some 211,.bsl false 65 2 2 [.int .i64 0,.slice none 0 0,.int .i64 0,.slice none 0 0] [(0,2,(.t 205)),(2,2,(.t 210))],none⟩,
 ⟨some 212,.call (.f 42) [(.t 200),(.t 211)],none⟩,
 ⟨some 199,.mv (.t 212),none⟩,
 ⟨some 213,.ext 0 (.t 199),none⟩,
 ⟨some 214,.ext 1 (.t 199),none⟩,
 ⟨some 24,.alloc 24 1 [.slice none 0 0],none⟩] [
 ⟨none,.store 1 (.t 24) (.t 213),none⟩,
 ⟨some 25,.mv (.t 214),none⟩] [3,4,7,18,20,22,23,24,25])
 (.seq (.ops [
 ⟨some 216,.load (some 1) (.t 24),none⟩,
 ⟨some 217,.call (.f 47) [(.t 216)],none⟩,
 ⟨some 215,.mv (.t 217),none⟩,
 ⟨some 218,.ext 0 (.t 215),none⟩,
 ⟨some 219,.ext 1 (.t 215),none⟩,
 ⟨some 26,.mv (.t 218),none⟩,
 ⟨some 27,.mv (.t 219),none⟩] [3,4,7,18,20,22,23,25,26,27])
 (.ops [
 ⟨some 220,.mv (.t 20),none⟩,
 ⟨some 221,.mv (.t 220),none⟩,
 ⟨some 222,.mv (.t 25),some (221,true)⟩,
 ⟨some 223,.bin .eql (.t 222) (.c (.int .i64 0)),some (221,true)⟩,
 ⟨some 224,.pick (.t 221) (.t 223) (.c (.bool false)),none⟩,
 ⟨some 225,.mv (.t 224),none⟩,
 ⟨some 226,.mv (.t 27),some (225,true)⟩,
 ⟨some 227,.bin .eql (.t 226) (.c (.int .i64 0)),some (225,true)⟩,
 ⟨some 228,.pick (.t 225) (.t 227) (.c (.bool false)),none⟩,
 ⟨some 229,.mv (.t 228),none⟩,
 ⟨some 230,.mv (.t 26),some (229,true)⟩,
 ⟨some 231,.pick (.t 229) (.t 230) (.c (.bool false)),none⟩,
 ⟨some 20,.mv (.t 231),none⟩] [3,4,7,18,20,22,23]))))
 (.ops [
 ⟨some 197,.mv (.t 23),none⟩,
 ⟨some 198,.bin .add (.t 197) (.c (.int .i64 1)),none⟩,
 ⟨some 23,.mv (.t 198),none⟩] [3,4,7,18,20,22,23]))))))))
 (.ops [
 ⟨some 183,.mv (.t 22),none⟩,
 ⟨some 184,.bin .add (.t 183) (.c (.int .i64 1)),none⟩,
 ⟨some 22,.mv (.t 184),none⟩] [3,4,7,18,20,22]))))))
 (.seq (.ops [
 ⟨some 233,.load (some 1) (.t 18),none⟩,
 ⟨some 234,.call (.f 47) [(.t 233)],none⟩,
 ⟨some 232,.mv (.t 234),none⟩,
 ⟨some 235,.ext 0 (.t 232),none⟩,
 ⟨some 236,.ext 1 (.t 232),none⟩,
 ⟨some 28,.mv (.t 235),none⟩,
 ⟨some 29,.mv (.t 236),none⟩] [7,20,28,29])
 (.seq (.ops [
 ⟨some 237,.mv (.t 7),none⟩,
 ⟨some 238,.mv (.t 237),none⟩,
 ⟨some 239,.mv (.t 29),some (238,true)⟩,
 ⟨some 240,.bin .eql (.t 239) (.c (.int .i64 0)),some (238,true)⟩,
 ⟨some 241,.pick (.t 238) (.t 240) (.c (.bool false)),none⟩,
 ⟨some 242,.mv (.t 241),none⟩,
 ⟨some 243,.mv (.t 28),some (242,true)⟩,
 ⟨some 244,.mv (.t 20),some (242,true)⟩,
 ⟨some 245,.eqb false (.t 243) (.t 244),some (242,true)⟩,
 ⟨some 246,.pick (.t 242) (.t 245) (.c (.bool false)),none⟩,
 ⟨some 6,.mv (.t 246),none⟩] [6])
 .ret))))))))))),
 [.t 6]⟩
def c52:CF:=⟨62,
 (.seq (.ops [
 ⟨some 1,.box false 24 1 (.t 0),none⟩,
 ⟨some 2,.mv (.c (.bool false)),none⟩] [1])
 (.seq (.seq (.ops [
 ⟨some 3,.mv (.c (.int .i64 0)),none⟩] [1,3])
 (.block 0 (.loop (.seq (.seq (.ops [
 ⟨some 4,.mv (.t 3),none⟩,
 ⟨some 5,.faddr 0 (.t 1),none⟩,
 ⟨some 6,.load none (.t 5),none⟩,
 ⟨some 7,.len (.t 6),none⟩,
 ⟨some 8,.bin .lss (.t 4) (.t 7),none⟩] [1,3,8])
 (.cond (.t 8) .skip
 (.exit 0)))
 (.seq (.block 1 (.seq (.ops [
 ⟨some 11,.faddr 0 (.t 1),none⟩,
 ⟨some 12,.load none (.t 11),none⟩,
 ⟨some 13,.mv (.t 3),none⟩,
 ⟨some 14,.iaddr 1 (.t 12) (.t 13),none⟩,
 ⟨some 15,.load none (.t 14),none⟩,
 ⟨some 16,.len (.t 15),none⟩,
 ⟨some 17,.bin .neq (.t 16) (.c (.int .i64 1)),none⟩,
 ⟨some 18,.mv (.t 17),none⟩,
 ⟨some 19,.faddr 0 (.t 1),some (18,false)⟩,
 ⟨some 20,.load none (.t 19),some (18,false)⟩,
 ⟨some 21,.mv (.t 3),some (18,false)⟩,
 ⟨some 22,.iaddr 1 (.t 20) (.t 21),some (18,false)⟩,
 ⟨some 23,.load none (.t 22),some (18,false)⟩,
 ⟨some 24,.iaddr 2 (.t 23) (.c (.int .i64 0)),some (18,false)⟩,
 ⟨some 25,.faddr 0 (.t 24),some (18,false)⟩,
 ⟨some 26,.load none (.t 25),some (18,false)⟩,
 ⟨some 27,.len (.t 26),some (18,false)⟩,
 ⟨some 28,.bin .neq (.t 27) (.c (.int .i64 1)),some (18,false)⟩,
 ⟨some 29,.pick (.t 18) (.c (.bool true)) (.t 28),none⟩,
 ⟨some 30,.mv (.t 29),none⟩,
 ⟨some 31,.faddr 0 (.t 1),some (30,false)⟩,
 ⟨some 32,.load none (.t 31),some (30,false)⟩,
 ⟨some 33,.mv (.t 3),some (30,false)⟩,
 ⟨some 34,.iaddr 1 (.t 32) (.t 33),some (30,false)⟩,
 ⟨some 35,.load none (.t 34),some (30,false)⟩,
 ⟨some 36,.iaddr 2 (.t 35) (.c (.int .i64 0)),some (30,false)⟩,
 ⟨some 37,.faddr 1 (.t 36),some (30,false)⟩,
 ⟨some 38,.load none (.t 37),some (30,false)⟩,
 ⟨some 39,.len (.t 38),some (30,false)⟩,
 ⟨some 40,.bin .gtr (.t 39) (.c (.int .i64 1)),some (30,false)⟩,
 ⟨some 41,.pick (.t 30) (.c (.bool true)) (.t 40),none⟩,
 ⟨some 42,.mv (.t 41),none⟩,
 ⟨some 43,.mv (.t 3),some (42,false)⟩,
 ⟨some 44,.bin .add (.t 43) (.c (.int .i64 1)),some (42,false)⟩,
 ⟨some 45,.faddr 0 (.t 1),some (42,false)⟩,
 ⟨some 46,.load none (.t 45),some (42,false)⟩,
 ⟨some 47,.len (.t 46),some (42,false)⟩,
 ⟨some 48,.bin .lss (.t 44) (.t 47),some (42,false)⟩,
 ⟨some 49,.mv (.t 48),some (42,false)⟩,
 ⟨some 50,.faddr 0 (.t 1),some (49,true)⟩,
 ⟨some 51,.load none (.t 50),some (49,true)⟩,
 ⟨some 52,.mv (.t 3),some (49,true)⟩,
 ⟨some 53,.iaddr 1 (.t 51) (.t 52),some (49,true)⟩,
 ⟨some 54,.load none (.t 53),some (49,true)⟩,
 ⟨some 55,.iaddr 2 (.t 54) (.c (.int .i64 0)),some (49,true)⟩,
 ⟨some 56,.faddr 1 (.t 55),some (49,true)⟩,
 ⟨some 57,.load none (.t 56),some (49,true)⟩,
 ⟨some 58,.len (.t 57),some (49,true)⟩,
 ⟨some 59,.bin .eql (.t 58) (.c (.int .i64 0)),some (49,true)⟩,
 ⟨some 60,.pick (.t 49) (.t 59) (.c (.bool false)),some (42,false)⟩,
 ⟨some 61,.pick (.t 42) (.c (.bool true)) (.t 60),none⟩] [1,3,61])
 (.cond (.t 61) (.seq (.ops [
 ⟨some 2,.mv (.c (.bool false)),none⟩] [2])
 .ret)
 .skip)))
 (.ops [
 ⟨some 9,.mv (.t 3),none⟩,
 ⟨some 10,.bin .add (.t 9) (.c (.int .i64 1)),none⟩,
 ⟨some 3,.mv (.t 10),none⟩] [1,3]))))))
 (.seq (.ops [
 ⟨some 2,.mv (.c (.bool true)),none⟩] [2])
 .ret))),
 [.t 2]⟩
theorem k9:chkF Tryz.prog Tryz.f9 c9=true:=by kernel_rfl
theorem k52:chkF Tryz.prog Tryz.f52 c52=true:=by kernel_rfl
inductive SubR (e0:Env) (env:Env) (σ:Sto):Prop
  | mk (h:Sub e0 env)
inductive SubN (e0:Env) (env:Env) (σ:Sto):Prop
  | mk (h:Sub e0 env) (hσ:σ=[])
theorem plain_spec (t:Trk) (hs:trkSz t):Pure Tryz.prog 52 [trS t] (bl (tr (plainB t))):=by
  refine Pure.of_body Tryz.call52 Tryz.func52 k52 (Nat.le_of_ble_eq_true rfl) ?_
  unfold c52
  have hno:¬ plainB t→tr (plainB t)=false:=tr_0
  have hyes:plainB t→tr (plainB t)=true:=tr_1
  generalize tr (plainB t)=R at *
  have h1:=hs.1
  (repeat' ((first
 | refine vn rfl ?_
 | simp (disch:=omega) only [wr64,Int.zero_sub]
 | refine bo (fun _=>?_) fun _=>?_
 | refine im fun _=>?_
 | refine cF ?_
 | refine om ?_
 | refine an ?_
 | fail) <;> try simp only [zT,zV,zS,zU,vcC,lateX,ex,strp,binA,elems,cells,scalar,eqC,keyA,intsA,lookA,ofVs,mpOf,Nat.reduceBEq,reduceAdd,reduceSub,reduceLT,reduceLeDiff,reduceMul,reduceEqDiff,reduceIte]))
  refine AWPC.loopE (α:={ k:Nat // k≤t.length∧∀ i,i < k→plainN t i (t.getD i [])=true }) [3] (fun x=>[(3,n x.1)]) (fun x=>[]) (fun x=>t.length - x.1) ⟨0,Nat.zero_le _,fun i h=>absurd h (Nat.not_lt_zero _)⟩ ?_ rfl ?_
  · (simp only [zT,zV,zS,zU,vcC,lateX,ex,strp,binA,elems,cells,scalar,eqC,keyA,intsA,lookA,ofVs,mpOf,Nat.reduceBEq,reduceAdd,reduceSub,reduceLT,reduceLeDiff,reduceMul,reduceEqDiff,reduceIte]; try simp)
  rintro ⟨k,hk,hI⟩
  try simp only at hk hI
  try simp only
  by_cases hlt:k < t.length
  · have htk:t[k]?=some (t.getD k []):=getD_some hlt
    have gtk:(t.map fun l=>[stS l]).getD k []=[stS (t.getD k [])]:=getD_map htk
    have hsz:=hs.2 _ (List.mem_of_getElem? htk)
    have hbad:plainN t k (t.getD k [])=false→R=false:=fun h=>hno fun hp=>by rw [hp k hlt] at h; cases h
    have hnext:plainN t k (t.getD k [])=true→∀ i,i < k+1→plainN t i (t.getD i [])=true:=fun h i hi=>by
      rcases Nat.lt_or_ge i k with h' | h'
      · exact hI i h'
      · obtain rfl:i=k:=by omega
        exact h
    clear hno hyes
    generalize t.getD k []=L at *
    obtain ⟨hL1,hL2⟩:=hsz
    by_cases hl:L.length=1
    · obtain ⟨x,rfl⟩:=List.length_eq_one_iff.1 hl
      have hP:plainN t k [x]=(decide (x.al.length=1) && decide (x.nx.length≤1) && (decide (t.length≤k+1) || decide (x.nx.length≠0))):=rfl
      obtain ⟨x1,x2⟩:=hL2 x (by simp)
      have hx:([x]:List Nod)[0]?=some x:=rfl
      by_cases ha:x.al.length=1
      · by_cases hb:x.nx.length≤1
        · by_cases hc:k+1 < t.length
          · by_cases hd:x.nx.length=0
            · have hr:=hbad (by rw [hP,decide_eq_true ha,decide_eq_true hb,decide_eq_false (by omega),decide_eq_false (by omega)]; rfl)
              subst hr
              (repeat' ((first
 | refine vn rfl ?_
 | simp (disch:=omega) only [wr64,Int.zero_sub]
 | refine bo (fun _=>?_) fun _=>?_
 | refine im fun _=>?_
 | refine cF ?_
 | refine om ?_
 | refine an ?_
 | fail) <;> try simp only [zT, zV, zS, zU, vcC, lateX, ex, strp, binA, elems, cells, scalar, eqC, keyA, intsA, lookA, ofVs, mpOf, Nat.reduceBEq, reduceAdd, reduceSub, reduceLT, reduceLeDiff, reduceMul, reduceEqDiff, reduceIte, gtk, hl, ha, hd, getD_map hx]))
              all_goals try (exfalso; omega)
              all_goals exact Frz.eq rfl (by simp)
            · have hr:=hnext (by rw [hP,decide_eq_true ha,decide_eq_true hb,decide_eq_false (by omega),decide_eq_true (by omega)]; rfl)
              have hd1:x.nx.length=1:=by omega
              (repeat' ((first
 | refine vn rfl ?_
 | simp (disch:=omega) only [wr64,Int.zero_sub]
 | refine bo (fun _=>?_) fun _=>?_
 | refine im fun _=>?_
 | refine cF ?_
 | refine om ?_
 | refine an ?_
 | fail) <;> try simp only [zT, zV, zS, zU, vcC, lateX, ex, strp, binA, elems, cells, scalar, eqC, keyA, intsA, lookA, ofVs, mpOf, Nat.reduceBEq, reduceAdd, reduceSub, reduceLT, reduceLeDiff, reduceMul, reduceEqDiff, reduceIte, gtk, hl, ha, hd1, getD_map hx]))
              all_goals try (exfalso; omega)
              all_goals exact ⟨⟨k+1,hlt,hr⟩,by simp,by first | omega | (simp only; omega)⟩
          · have hr:=hnext (by rw [hP,decide_eq_true ha,decide_eq_true hb,decide_eq_true (by omega)]; rfl)
            (repeat' ((first
 | refine vn rfl ?_
 | simp (disch:=omega) only [wr64,Int.zero_sub]
 | refine bo (fun _=>?_) fun _=>?_
 | refine im fun _=>?_
 | refine cF ?_
 | refine om ?_
 | refine an ?_
 | fail) <;> try simp only [zT, zV, zS, zU, vcC, lateX, ex, strp, binA, elems, cells, scalar, eqC, keyA, intsA, lookA, ofVs, mpOf, Nat.reduceBEq, reduceAdd, reduceSub, reduceLT, reduceLeDiff, reduceMul, reduceEqDiff, reduceIte, gtk, hl, ha, getD_map hx]))
            all_goals try (exfalso; omega)
            all_goals exact ⟨⟨k+1,hlt,hr⟩,by simp,by first | omega | (simp only; omega)⟩
        · have hr:=hbad (by rw [hP,decide_eq_true ha,decide_eq_false hb]; rfl)
          subst hr
          (repeat' ((first
 | refine vn rfl ?_
 | simp (disch:=omega) only [wr64,Int.zero_sub]
 | refine bo (fun _=>?_) fun _=>?_
 | refine im fun _=>?_
 | refine cF ?_
 | refine om ?_
 | refine an ?_
 | fail) <;> try simp only [zT, zV, zS, zU, vcC, lateX, ex, strp, binA, elems, cells, scalar, eqC, keyA, intsA, lookA, ofVs, mpOf, Nat.reduceBEq, reduceAdd, reduceSub, reduceLT, reduceLeDiff, reduceMul, reduceEqDiff, reduceIte, gtk, hl, ha, getD_map hx]))
          all_goals try (exfalso; omega)
          all_goals exact Frz.eq rfl (by simp)
      · have hr:=hbad (by rw [hP,decide_eq_false ha]; rfl)
        subst hr
        (repeat' ((first
 | refine vn rfl ?_
 | simp (disch:=omega) only [wr64,Int.zero_sub]
 | refine bo (fun _=>?_) fun _=>?_
 | refine im fun _=>?_
 | refine cF ?_
 | refine om ?_
 | refine an ?_
 | fail) <;> try simp only [zT, zV, zS, zU, vcC, lateX, ex, strp, binA, elems, cells, scalar, eqC, keyA, intsA, lookA, ofVs, mpOf, Nat.reduceBEq, reduceAdd, reduceSub, reduceLT, reduceLeDiff, reduceMul, reduceEqDiff, reduceIte, gtk, hl, getD_map hx]))
        all_goals try (exfalso; omega)
        all_goals exact Frz.eq rfl (by simp)
    · have hr:R=false:=hbad (by
        unfold plainN
        match L,hl with
        | [],_=>rfl
        | _::_::_,_=>rfl
        | [x],h=>exact absurd rfl h)
      subst hr
      have hlb:((L.length:Int) != 1)=true:=by simp; omega
      have hg:(L.map Nod.cs).getD 0 []=[]∨∃ y:Nod,(L.map Nod.cs).getD 0 []=Nod.cs y:=by
        cases L with
        | nil=>exact .inl rfl
        | cons y r=>exact .inr ⟨y,rfl⟩
      rcases hg with hg | ⟨y,hg⟩
      · (repeat' ((first
 | refine vn rfl ?_
 | simp (disch:=omega) only [wr64,Int.zero_sub]
 | refine bo (fun _=>?_) fun _=>?_
 | refine im fun _=>?_
 | refine cF ?_
 | refine cG ?_
 | refine om ?_
 | refine an ?_
 | fail) <;> try simp only [zT, zV, zS, zU, vcC, lateX, ex, strp, binA, elems, cells, scalar, eqC, keyA, intsA, lookA, ofVs, mpOf, Nat.reduceBEq, reduceAdd, reduceSub, reduceLT, reduceLeDiff, reduceMul, reduceEqDiff, reduceIte, gtk, hlb, hg]))
        all_goals try (exfalso; omega)
        all_goals exact Frz.eq rfl (by simp)
      · (repeat' ((first
 | refine vn rfl ?_
 | simp (disch:=omega) only [wr64,Int.zero_sub]
 | refine bo (fun _=>?_) fun _=>?_
 | refine im fun _=>?_
 | refine cF ?_
 | refine cG ?_
 | refine om ?_
 | refine an ?_
 | fail) <;> try simp only [zT, zV, zS, zU, vcC, lateX, ex, strp, binA, elems, cells, scalar, eqC, keyA, intsA, lookA, ofVs, mpOf, Nat.reduceBEq, reduceAdd, reduceSub, reduceLT, reduceLeDiff, reduceMul, reduceEqDiff, reduceIte, gtk, hlb, hg]))
        all_goals try (exfalso; omega)
        all_goals exact Frz.eq rfl (by simp)
  · obtain rfl:k=t.length:=by omega
    have hr:=hyes hI
    subst hr
    (repeat' ((first
 | refine vn rfl ?_
 | simp (disch:=omega) only [wr64,Int.zero_sub]
 | refine bo (fun _=>?_) fun _=>?_
 | refine im fun _=>?_
 | refine cF ?_
 | refine om ?_
 | refine an ?_
 | fail) <;> try simp only [zT,zV,zS,zU,vcC,lateX,ex,strp,binA,elems,cells,scalar,eqC,keyA,intsA,lookA,ofVs,mpOf,Nat.reduceBEq,reduceAdd,reduceSub,reduceLT,reduceLeDiff,reduceMul,reduceEqDiff,reduceIte]))
    all_goals try (exfalso; omega)
    all_goals exact Frz.eq rfl (by simp)
def pairA (t:Trk) (x y:Lim):Prop:=∃ c,course t c∧fits c [x,y]
def pairsP (t:Trk) (l:List Lim) (i k:Nat):Prop:=(∃ c,course t c)∧∀ p q x y,l[p]?=some x→l[q]?=some y→(p < i∧q≤p∨p=i∧q < k)→pairA t x y
theorem pairsP_next {t:Trk} {l:List Lim} {i k:Nat} {x y:Lim} (hx:l[i]?=some x) (hy:l[k]?=some y):pairsP t l i (k+1)↔pairsP t l i k∧pairA t x y:=by
  constructor
  · rintro ⟨h0,h⟩
    exact ⟨⟨h0,fun p q x y hp hq hh=>h p q x y hp hq (by omega)⟩,h i k x y hx hy (.inr ⟨rfl,by omega⟩)⟩
  · rintro ⟨⟨h0,h⟩,h1⟩
    refine ⟨h0,fun p q x' y' hp hq hh=>?_⟩
    by_cases hc:p=i∧q=k
    · obtain ⟨rfl,rfl⟩:=hc
      rw [hx] at hp; cases hp
      rw [hy] at hq; cases hq
      exact h1
    · exact h p q x' y' hp hq (by omega)
theorem pairsP_row {t:Trk} {l:List Lim} {i:Nat}:pairsP t l i (i+1)↔pairsP t l (i+1) 0 :=
  and_congr_right fun _=>forall_congr' fun p=>forall_congr' fun q=>forall_congr' fun x=>forall_congr' fun y=>imp_congr_right fun _=>imp_congr_right fun _=>imp_congr_left (by omega)
theorem pairsP_end {t:Trk} {l:List Lim} (hp:plainB t) (hv:valid t) (h1:∀ x∈l,x.vs.length=1):pairsP t l l.length 0↔∃ c,course t c∧fits c l:=by
  rw [plain_limits hp hv h1]
  refine and_congr_right fun _=>⟨fun h x hx y hy=>?_,fun h p q x y hpx hqy _=>h x (List.mem_of_getElem? hpx) y (List.mem_of_getElem? hqy)⟩
  obtain ⟨p,hpx⟩:=List.mem_iff_getElem?.1 hx
  obtain ⟨q,hqy⟩:=List.mem_iff_getElem?.1 hy
  have hpl:=(List.getElem?_eq_some_iff.1 hpx).1
  have hql:=(List.getElem?_eq_some_iff.1 hqy).1
  rcases Nat.lt_or_ge p q with hpq | hpq
  · obtain ⟨c,hc,hf⟩:=h q p y x hqy hpx (.inl ⟨hql,by omega⟩)
    exact ⟨c,hc,fits_pair.1 hf⟩
  · exact h p q x y hpx hqy (.inl ⟨hpl,by omega⟩)
theorem fix_0 {t:Trk} {l:List Lim} (hv:valid t) (h1:l.any (badL t)=false) (h2:big (fixT t l)=false):fixE t l=0:=by
  unfold fixE; rw [tr_1 hv,if_pos rfl,h1,h2]; rfl
theorem feas_fix {t:Trk} {l:List Lim} (h:fixE t l=0):feas (fixT t l)=tr (∃ c,course t c∧fits c l):=by
  cases hf:feas (fixT t l) with
  | true=>exact (tr_1 ((fix_feas h).1 hf)).symm
  | false=>exact (tr_0 fun h'=>by rw [(fix_feas h).2 h'] at hf; cases hf).symm
theorem fix_sz {t:Trk} {l:List Lim} (hs:trkSz t) (h:fixE t l=0):trkSz (fixT t l):=by
  obtain ⟨hv,h1,h2⟩:=fix_ok h
  exact copyT_sz (fun k i=>by have:=good_len (limA_good k l _ (goods_get (als_goods hv k) i) (fix_good h1)); omega) hs
theorem Plain_spec (t:Trk) (x:Ask) (three:List At) (hs:trkSz t) (hx:Ask.sz x) (h3s:three.length < 9223372036854775808):Pure Tryz.prog 9 [trS t,.agg x.cs,atS three] (bl true):=by
  refine Pure.of_body Tryz.call9 Tryz.func9 k9 (Nat.le_of_ble_eq_true rfl) ?_
  unfold c9
  have hw:=awake_spec
  have hf:=few_spec t hs
  have hl:=light_spec x hx
  have hp:=plain_spec t hs
  have hc:=Check_spec t hs
  have i1:=is_spec t x.one hs hx.1
  have i2:=is_spec t x.two hs hx.2.1
  have i3:=is_spec t three hs h3s
  have hF:=Fix_spec t x.lims hs hx.2.2.1
  have hFe:=Feasible_spec t hs
  have hx1:=hx.2.2.1
  obtain ⟨x1,x2,x3,⟨x4,x5⟩,one,two,lims,⟨x9,x10⟩,sets⟩:=x
  simp only at *
  generalize fewB t=B1 at *
  generalize tr (Light _)=B2 at *
  cases B1 with
  | false =>
    (repeat' ((first
 | refine vn rfl ?_
 | simp (disch:=omega) only [wr64,Int.zero_sub]
 | refine bo (fun _=>?_) fun _=>?_
 | refine im fun _=>?_
 | ((repeat refine si ?_); (first | ((first | refine .inl ⟨_,_,_,_,rfl,fun _=>pu (by first | exact hw | exact hf),?_⟩ | refine ⟨_,_,_,_,rfl,fun _=>pu (by first | exact hw | exact hf),?_⟩); (first | refine o1 ?_ | refine o2 ?_ | refine o3 ?_ | refine o4 ?_)) | refine .inl ⟨_,_,_,_,rfl,pu (by first | exact hw | exact hf),?_⟩))
 | refine cF ?_
 | refine om ?_
 | refine an ?_
 | fail) <;> try simp only [zT,zV,zS,zU,vcC,lateX,ex,strp,binA,elems,cells,scalar,eqC,keyA,intsA,lookA,ofVs,mpOf,Nat.reduceBEq,reduceAdd,reduceSub,reduceLT,reduceLeDiff,reduceMul,reduceEqDiff,reduceIte]))
    all_goals exact Frz.eq rfl (by simp)
  | true =>
  cases B2 with
  | false =>
    (repeat' ((first
 | refine vn rfl ?_
 | simp (disch:=omega) only [wr64,Int.zero_sub]
 | refine bo (fun _=>?_) fun _=>?_
 | refine im fun _=>?_
 | ((repeat refine si ?_); (first | ((first | refine .inl ⟨_,_,_,_,rfl,fun _=>pu (by first | exact hw | exact hf | exact hl),?_⟩ | refine ⟨_,_,_,_,rfl,fun _=>pu (by first | exact hw | exact hf | exact hl),?_⟩); (first | refine o1 ?_ | refine o2 ?_ | refine o3 ?_ | refine o4 ?_)) | refine .inl ⟨_,_,_,_,rfl,pu (by first | exact hw | exact hf | exact hl),?_⟩))
 | refine cF ?_
 | refine om ?_
 | refine an ?_
 | fail) <;> try simp only [zT,zV,zS,zU,vcC,lateX,ex,strp,binA,elems,cells,scalar,eqC,keyA,intsA,lookA,ofVs,mpOf,Nat.reduceBEq,reduceAdd,reduceSub,reduceLT,reduceLeDiff,reduceMul,reduceEqDiff,reduceIte]))
    all_goals exact Frz.eq rfl (by simp)
  | true =>
  by_cases h5:500 < three.length
  · have h5':(500:Int) < (three.length:Int):=by omega
    (repeat' ((first
 | refine vn rfl ?_
 | simp (disch:=omega) only [wr64,Int.zero_sub]
 | refine bo (fun _=>?_) fun _=>?_
 | refine im fun _=>?_
 | ((repeat refine si ?_); (first | ((first | refine .inl ⟨_,_,_,_,rfl,fun _=>pu (by first | exact hw | exact hf | exact hl),?_⟩ | refine ⟨_,_,_,_,rfl,fun _=>pu (by first | exact hw | exact hf | exact hl),?_⟩); (first | refine o1 ?_ | refine o2 ?_ | refine o3 ?_ | refine o4 ?_)) | refine .inl ⟨_,_,_,_,rfl,pu (by first | exact hw | exact hf | exact hl),?_⟩))
 | refine cF ?_
 | refine om ?_
 | refine an ?_
 | fail) <;> try simp only [zT,zV,zS,zU,vcC,lateX,ex,strp,binA,elems,cells,scalar,eqC,keyA,intsA,lookA,ofVs,mpOf,Nat.reduceBEq,reduceAdd,reduceSub,reduceLT,reduceLeDiff,reduceMul,reduceEqDiff,reduceIte,h5',decide_true,decide_eq_true h5']))
    all_goals try (exfalso; omega)
    all_goals exact Frz.eq rfl (by simp)
  by_cases hpl:plainB t
  case neg =>
    rw [tr_0 hpl] at hp
    (repeat' ((first
 | refine vn rfl ?_
 | simp (disch:=omega) only [wr64,Int.zero_sub]
 | refine bo (fun _=>?_) fun _=>?_
 | refine im fun _=>?_
 | ((repeat refine si ?_); (first | ((first | refine .inl ⟨_,_,_,_,rfl,fun _=>pu (by first | exact hw | exact hf | exact hl | exact hp),?_⟩ | refine ⟨_,_,_,_,rfl,fun _=>pu (by first | exact hw | exact hf | exact hl | exact hp),?_⟩); (first | refine o1 ?_ | refine o2 ?_ | refine o3 ?_ | refine o4 ?_)) | refine .inl ⟨_,_,_,_,rfl,pu (by first | exact hw | exact hf | exact hl | exact hp),?_⟩))
 | refine cF ?_
 | refine om ?_
 | refine an ?_
 | fail) <;> try simp only [zT,zV,zS,zU,vcC,lateX,ex,strp,binA,elems,cells,scalar,eqC,keyA,intsA,lookA,ofVs,mpOf,Nat.reduceBEq,reduceAdd,reduceSub,reduceLT,reduceLeDiff,reduceMul,reduceEqDiff,reduceIte]))
    all_goals try (exfalso; omega)
    all_goals exact Frz.eq rfl (by simp)
  rw [tr_1 hpl] at hp
  by_cases hv:valid t
  case neg =>
    rw [tr_0 hv] at hc
    simp only [Bool.false_eq_true,if_false] at hc
    (repeat' ((first
 | refine vn rfl ?_
 | simp (disch:=omega) only [wr64,Int.zero_sub]
 | refine bo (fun _=>?_) fun _=>?_
 | refine im fun _=>?_
 | ((repeat refine si ?_); (first | ((first | refine .inl ⟨_,_,_,_,rfl,fun _=>pu (by first | exact hw | exact hf | exact hl | exact hp | exact hc),?_⟩ | refine ⟨_,_,_,_,rfl,fun _=>pu (by first | exact hw | exact hf | exact hl | exact hp | exact hc),?_⟩); (first | refine o1 ?_ | refine o2 ?_ | refine o3 ?_ | refine o4 ?_)) | refine .inl ⟨_,_,_,_,rfl,pu (by first | exact hw | exact hf | exact hl | exact hp | exact hc),?_⟩))
 | refine cF ?_
 | refine om ?_
 | refine an ?_
 | fail) <;> try simp only [zT,zV,zS,zU,vcC,lateX,ex,strp,binA,elems,cells,scalar,eqC,keyA,intsA,lookA,ofVs,mpOf,Nat.reduceBEq,reduceAdd,reduceSub,reduceLT,reduceLeDiff,reduceMul,reduceEqDiff,reduceIte]))
    all_goals try (exfalso; omega)
    all_goals exact Frz.eq rfl (by simp)
  rw [tr_1 hv] at hc hFe
  simp only [if_true,Bool.true_and] at hc hFe
  by_cases h8:8 < lims.length
  · (repeat' ((first
 | refine vn rfl ?_
 | simp (disch:=omega) only [wr64,Int.zero_sub]
 | refine bo (fun _=>?_) fun _=>?_
 | refine im fun _=>?_
 | ((repeat refine si ?_); (first | ((first | refine .inl ⟨_,_,_,_,rfl,fun _=>pu (by first | exact hw | exact hf | exact hl | exact hp | exact hc),?_⟩ | refine ⟨_,_,_,_,rfl,fun _=>pu (by first | exact hw | exact hf | exact hl | exact hp | exact hc),?_⟩); (first | refine o1 ?_ | refine o2 ?_ | refine o3 ?_ | refine o4 ?_)) | refine .inl ⟨_,_,_,_,rfl,pu (by first | exact hw | exact hf | exact hl | exact hp | exact hc),?_⟩))
 | refine cF ?_
 | refine om ?_
 | refine an ?_
 | fail) <;> try simp only [zT,zV,zS,zU,vcC,lateX,ex,strp,binA,elems,cells,scalar,eqC,keyA,intsA,lookA,ofVs,mpOf,Nat.reduceBEq,reduceAdd,reduceSub,reduceLT,reduceLeDiff,reduceMul,reduceEqDiff,reduceIte]))
    all_goals try (exfalso; omega)
    all_goals exact Frz.eq rfl (by simp)
  ((first
 | refine vn rfl ?_
 | simp (disch:=omega) only [wr64,Int.zero_sub]
 | refine bo (fun _=>?_) fun _=>?_
 | refine im fun _=>?_
 | refine cF ?_
 | refine om ?_
 | refine an ?_
 | fail) <;> try simp only [zT,zV,zS,zU,vcC,lateX,ex,strp,binA,elems,cells,scalar,eqC,keyA,intsA,lookA,ofVs,mpOf,Nat.reduceBEq,reduceAdd,reduceSub,reduceLT,reduceLeDiff,reduceMul,reduceEqDiff,reduceIte])
  ((first
 | refine vn rfl ?_
 | simp (disch:=omega) only [wr64,Int.zero_sub]
 | refine bo (fun _=>?_) fun _=>?_
 | refine im fun _=>?_
 | refine cF ?_
 | refine om ?_
 | refine an ?_
 | fail) <;> try simp only [zT,zV,zS,zU,vcC,lateX,ex,strp,binA,elems,cells,scalar,eqC,keyA,intsA,lookA,ofVs,mpOf,Nat.reduceBEq,reduceAdd,reduceSub,reduceLT,reduceLeDiff,reduceMul,reduceEqDiff,reduceIte])
  ((first
 | refine vn rfl ?_
 | simp (disch:=omega) only [wr64,Int.zero_sub]
 | refine bo (fun _=>?_) fun _=>?_
 | refine im fun _=>?_
 | ((repeat refine si ?_); (first | ((first | refine .inl ⟨_,_,_,_,rfl,fun _=>pu hw,?_⟩ | refine ⟨_,_,_,_,rfl,fun _=>pu hw,?_⟩); (first | refine o1 ?_ | refine o2 ?_ | refine o3 ?_ | refine o4 ?_)) | refine .inl ⟨_,_,_,_,rfl,pu hw,?_⟩))
 | refine cF ?_
 | refine om ?_
 | refine an ?_
 | fail) <;> try simp only [zT,zV,zS,zU,vcC,lateX,ex,strp,binA,elems,cells,scalar,eqC,keyA,intsA,lookA,ofVs,mpOf,Nat.reduceBEq,reduceAdd,reduceSub,reduceLT,reduceLeDiff,reduceMul,reduceEqDiff,reduceIte])
  refine AWPC.cut (SubN [(2,atS three),(3,.iptr [tkS t] 0),(4,.iptr [n x1,n x2,n x3,n x4,n x5,atS one,atS two,liS lims,n x9,n x10,stgS sets] 0),(7,bl true)]) ?_ ?_
  · (repeat' ((first
 | refine vn rfl ?_
 | simp (disch:=omega) only [wr64,Int.zero_sub]
 | refine bo (fun _=>?_) fun _=>?_
 | refine im fun _=>?_
 | ((repeat refine si ?_); (first | ((first | refine .inl ⟨_,_,_,_,rfl,fun _=>pu (by first | exact hf | exact hl | exact hp | exact hc),?_⟩ | refine ⟨_,_,_,_,rfl,fun _=>pu (by first | exact hf | exact hl | exact hp | exact hc),?_⟩); (first | refine o1 ?_ | refine o2 ?_ | refine o3 ?_ | refine o4 ?_)) | refine .inl ⟨_,_,_,_,rfl,pu (by first | exact hf | exact hl | exact hp | exact hc),?_⟩))
 | refine cF ?_
 | refine om ?_
 | refine an ?_
 | fail) <;> try simp only [zT,zV,zS,zU,vcC,lateX,ex,strp,binA,elems,cells,scalar,eqC,keyA,intsA,lookA,ofVs,mpOf,Nat.reduceBEq,reduceAdd,reduceSub,reduceLT,reduceLeDiff,reduceMul,reduceEqDiff,reduceIte]))
    all_goals try (exfalso; omega)
    all_goals exact .mk (by simp only [Sub_cons,SubT]; simp [gt]) rfl
  rintro env σ ⟨hsub,rfl⟩
  refine AWPC.weaken hsub ?_
  clear hsub hw hf hl hp hc
  refine AWPC.cut (SubR [(3,.iptr [tkS t] 0),(4,.iptr [n x1,n x2,n x3,n x4,n x5,atS one,atS two,liS lims,n x9,n x10,stgS sets] 0),(7,bl true)]) ?_ ?_
  · by_cases h1:course t one
    case neg =>
      rw [tr_0 (fun h=>h1 h.2)] at i1
      (repeat' ((first
 | refine vn rfl ?_
 | simp (disch:=omega) only [wr64,Int.zero_sub]
 | refine bo (fun _=>?_) fun _=>?_
 | refine im fun _=>?_
 | ((repeat refine si ?_); (first | ((first | refine .inl ⟨_,_,_,_,rfl,fun _=>pu i1,?_⟩ | refine ⟨_,_,_,_,rfl,fun _=>pu i1,?_⟩); (first | refine o1 ?_ | refine o2 ?_ | refine o3 ?_ | refine o4 ?_)) | refine .inl ⟨_,_,_,_,rfl,pu i1,?_⟩))
 | refine cF ?_
 | refine om ?_
 | refine an ?_
 | fail) <;> try simp only [zT,zV,zS,zU,vcC,lateX,ex,strp,binA,elems,cells,scalar,eqC,keyA,intsA,lookA,ofVs,mpOf,Nat.reduceBEq,reduceAdd,reduceSub,reduceLT,reduceLeDiff,reduceMul,reduceEqDiff,reduceIte]))
      all_goals exact .mk (by simp only [Sub_cons,SubT]; simp [gt])
    rw [tr_1 ⟨hv,h1⟩] at i1
    by_cases h2:course t two
    case neg =>
      rw [tr_0 (fun h=>h2 h.2)] at i2
      (repeat' ((first
 | refine vn rfl ?_
 | simp (disch:=omega) only [wr64,Int.zero_sub]
 | refine bo (fun _=>?_) fun _=>?_
 | refine im fun _=>?_
 | ((repeat refine si ?_); (first | ((first | refine .inl ⟨_,_,_,_,rfl,fun _=>pu (by first | exact i1 | exact i2),?_⟩ | refine ⟨_,_,_,_,rfl,fun _=>pu (by first | exact i1 | exact i2),?_⟩); (first | refine o1 ?_ | refine o2 ?_ | refine o3 ?_ | refine o4 ?_)) | refine .inl ⟨_,_,_,_,rfl,pu (by first | exact i1 | exact i2),?_⟩))
 | refine cF ?_
 | refine om ?_
 | refine an ?_
 | fail) <;> try simp only [zT,zV,zS,zU,vcC,lateX,ex,strp,binA,elems,cells,scalar,eqC,keyA,intsA,lookA,ofVs,mpOf,Nat.reduceBEq,reduceAdd,reduceSub,reduceLT,reduceLeDiff,reduceMul,reduceEqDiff,reduceIte]))
      all_goals exact .mk (by simp only [Sub_cons,SubT]; simp [gt])
    rw [tr_1 ⟨hv,h2⟩] at i2
    by_cases h3:course t three
    case neg =>
      rw [tr_0 (fun h=>h3 h.2)] at i3
      (repeat' ((first
 | refine vn rfl ?_
 | simp (disch:=omega) only [wr64,Int.zero_sub]
 | refine bo (fun _=>?_) fun _=>?_
 | refine im fun _=>?_
 | ((repeat refine si ?_); (first | ((first | refine .inl ⟨_,_,_,_,rfl,fun _=>pu (by first | exact i1 | exact i2 | exact i3),?_⟩ | refine ⟨_,_,_,_,rfl,fun _=>pu (by first | exact i1 | exact i2 | exact i3),?_⟩); (first | refine o1 ?_ | refine o2 ?_ | refine o3 ?_ | refine o4 ?_)) | refine .inl ⟨_,_,_,_,rfl,pu (by first | exact i1 | exact i2 | exact i3),?_⟩))
 | refine cF ?_
 | refine om ?_
 | refine an ?_
 | fail) <;> try simp only [zT,zV,zS,zU,vcC,lateX,ex,strp,binA,elems,cells,scalar,eqC,keyA,intsA,lookA,ofVs,mpOf,Nat.reduceBEq,reduceAdd,reduceSub,reduceLT,reduceLeDiff,reduceMul,reduceEqDiff,reduceIte]))
      all_goals exact .mk (by simp only [Sub_cons,SubT]; simp [gt])
    rw [tr_1 ⟨hv,h3⟩] at i3
    have l1:=h1.1
    have l2:=h2.1
    have l3:=h3.1
    have c1:=low_course hpl hv h1 h2 h3
    have c2:=high_course hpl hv h1 h2 h3
    have c3:=mid_course hpl hv h1 h2 h3
    have e1:=mix_len lowF one two three
    have e2:=mix_len highF one two three
    have e3:=mix_len midF one two three
    have j1:=is_spec t _ hs (show (mix lowF one two three).length < 9223372036854775808 by omega)
    have j2:=is_spec t _ hs (show (mix highF one two three).length < 9223372036854775808 by omega)
    have j3:=is_spec t _ hs (show (mix midF one two three).length < 9223372036854775808 by omega)
    rw [tr_1 ⟨hv,c1⟩] at j1
    rw [tr_1 ⟨hv,c2⟩] at j2
    rw [tr_1 ⟨hv,c3⟩] at j3
    have m1:∀ i,i < three.length→(mix lowF one two three)[i]?=_:=fun i=>mix_at lowF one two three
    have m2:∀ i,i < three.length→(mix highF one two three)[i]?=_:=fun i=>mix_at highF one two three
    have m3:∀ i,i < three.length→(mix midF one two three)[i]?=_:=fun i=>mix_at midF one two three
    generalize mix lowF one two three=A1 at *
    generalize mix highF one two three=A2 at *
    generalize mix midF one two three=A3 at *
    (repeat' ((first
 | refine vn rfl ?_
 | simp (disch:=omega) only [wr64,Int.zero_sub]
 | refine bo (fun _=>?_) fun _=>?_
 | refine im fun _=>?_
 | ((repeat refine si ?_); (first | ((first | refine .inl ⟨_,_,_,_,rfl,fun _=>pu (by first | exact i1 | exact i2 | exact i3),?_⟩ | refine ⟨_,_,_,_,rfl,fun _=>pu (by first | exact i1 | exact i2 | exact i3),?_⟩); (first | refine o1 ?_ | refine o2 ?_ | refine o3 ?_ | refine o4 ?_)) | refine .inl ⟨_,_,_,_,rfl,pu (by first | exact i1 | exact i2 | exact i3),?_⟩))
 | refine cF ?_
 | refine om ?_
 | refine an ?_
 | fail) <;> try simp only [zT,zV,zS,zU,vcC,lateX,ex,strp,binA,elems,cells,scalar,eqC,keyA,intsA,lookA,ofVs,mpOf,Nat.reduceBEq,reduceAdd,reduceSub,reduceLT,reduceLeDiff,reduceMul,reduceEqDiff,reduceIte]))
    refine AWPC.own0 26 2 8 rfl ?_
    refine AWPC.own0 26 2 9 rfl ?_
    refine AWPC.own0 26 2 10 rfl ?_
    refine AWPC.loopE (α:={ y:Nat // y≤three.length }) [8,9,10,11] (fun y=>[(8,.own 0 0 y.1),(9,.own 1 0 y.1),(10,.own 2 0 y.1),(11,n y.1)]) (fun y=>[some [⟨26,2,(A1.take y.1).map At.cs,none⟩],some [⟨26,2,(A2.take y.1).map At.cs,none⟩],some [⟨26,2,(A3.take y.1).map At.cs,none⟩]]) (fun y=>three.length - y.1) ⟨0,Nat.zero_le _⟩ ?_ rfl ?_
    · (simp only [zT,zV,zS,zU,vcC,lateX,ex,strp,binA,elems,cells,scalar,eqC,keyA,intsA,lookA,ofVs,mpOf,Nat.reduceBEq,reduceAdd,reduceSub,reduceLT,reduceLeDiff,reduceMul,reduceEqDiff,reduceIte]; try simp)
    rintro ⟨i,hi⟩
    try simp only at hi
    try simp only
    by_cases hlt:i < three.length
    · obtain ⟨a,ha⟩:∃ a,one[i]?=some a:=⟨_,List.getElem?_eq_getElem (by omega)⟩
      obtain ⟨b,hb⟩:∃ a,two[i]?=some a:=⟨_,List.getElem?_eq_getElem (by omega)⟩
      obtain ⟨c,hc⟩:∃ a,three[i]?=some a:=⟨_,List.getElem?_eq_getElem (by omega)⟩
      have n1:=m1 i hlt
      have n2:=m2 i hlt
      have n3:=m3 i hlt
      rw [show one.getD i ⟨0,0⟩=a by rw [List.getD_eq_getElem?_getD,ha]; rfl,show two.getD i ⟨0,0⟩=b by rw [List.getD_eq_getElem?_getD,hb]; rfl,show three.getD i ⟨0,0⟩=c by rw [List.getD_eq_getElem?_getD,hc]; rfl] at n1 n2 n3
      unfold lowF at n1
      unfold highF at n2
      unfold midF at n3
      have t1:=take_snoc n1
      have t2:=take_snoc n2
      have t3:=take_snoc n3
      have q1:(A1.take i).length=i:=by rw [List.length_take]; omega
      have q2:(A2.take i).length=i:=by rw [List.length_take]; omega
      have q3:(A3.take i).length=i:=by rw [List.length_take]; omega
      (repeat' ((first
 | refine vn rfl ?_
 | simp (disch:=omega) only [wr64,Int.zero_sub]
 | refine bo (fun _=>?_) fun _=>?_
 | refine im fun _=>?_
 | refine cF ?_
 | refine om ?_
 | refine an ?_
 | fail) <;> try simp only [zT,zV,zS,zU,vcC,lateX,ex,strp,binA,elems,cells,scalar,eqC,keyA,intsA,lookA,ofVs,mpOf,Nat.reduceBEq,reduceAdd,reduceSub,reduceLT,reduceLeDiff,reduceMul,reduceEqDiff,reduceIte,getD_map ha,getD_map hb,getD_map hc,q1,q2,q3]))
      all_goals try (exfalso; omega)
      all_goals exact ⟨⟨i+1,hlt⟩,by simp,by simp only; rw [t1,t2,t3]; simp,by simp only; omega⟩
    · obtain rfl:i=three.length:=by omega
      rw [List.take_of_length_le (by omega),List.take_of_length_le (by omega),List.take_of_length_le (by omega)]
      ((first
 | refine vn rfl ?_
 | simp (disch:=omega) only [wr64,Int.zero_sub]
 | refine bo (fun _=>?_) fun _=>?_
 | refine im fun _=>?_
 | refine cF ?_
 | refine om ?_
 | refine an ?_
 | fail) <;> try simp only [zT,zV,zS,zU,vcC,lateX,ex,strp,binA,elems,cells,scalar,eqC,keyA,intsA,lookA,ofVs,mpOf,Nat.reduceBEq,reduceAdd,reduceSub,reduceLT,reduceLeDiff,reduceMul,reduceEqDiff,reduceIte])
      ((first
 | refine vn rfl ?_
 | simp (disch:=omega) only [wr64,Int.zero_sub]
 | refine bo (fun _=>?_) fun _=>?_
 | refine im fun _=>?_
 | refine cF ?_
 | refine om ?_
 | refine an ?_
 | fail) <;> try simp only [zT,zV,zS,zU,vcC,lateX,ex,strp,binA,elems,cells,scalar,eqC,keyA,intsA,lookA,ofVs,mpOf,Nat.reduceBEq,reduceAdd,reduceSub,reduceLT,reduceLeDiff,reduceMul,reduceEqDiff,reduceIte])
      refine AWPC.freeze1 (f:=0) (t:=8) (n:=three.length) rfl rfl (by simpa using e1) (show (2:Nat)≠0 by decide) ?_
      refine AWPC.freeze1 (f:=1) (t:=9) (n:=three.length) rfl rfl (by simpa using e2) (show (2:Nat)≠0 by decide) ?_
      refine AWPC.freeze1 (f:=2) (t:=10) (n:=three.length) rfl rfl (by simpa using e3) (show (2:Nat)≠0 by decide) ?_
      (repeat' ((first
 | refine vn rfl ?_
 | simp (disch:=omega) only [wr64,Int.zero_sub]
 | refine bo (fun _=>?_) fun _=>?_
 | refine im fun _=>?_
 | ((repeat refine si ?_); (first | ((first | refine .inl ⟨_,_,_,_,rfl,fun _=>pu (by first | exact j1 | exact j2 | exact j3),?_⟩ | refine ⟨_,_,_,_,rfl,fun _=>pu (by first | exact j1 | exact j2 | exact j3),?_⟩); (first | refine o1 ?_ | refine o2 ?_ | refine o3 ?_ | refine o4 ?_)) | refine .inl ⟨_,_,_,_,rfl,pu (by first | exact j1 | exact j2 | exact j3),?_⟩))
 | refine cF ?_
 | refine om ?_
 | refine an ?_
 | fail) <;> try simp only [zT,zV,zS,zU,vcC,lateX,ex,strp,binA,elems,cells,scalar,eqC,keyA,intsA,lookA,ofVs,mpOf,Nat.reduceBEq,reduceAdd,reduceSub,reduceLT,reduceLeDiff,reduceMul,reduceEqDiff,reduceIte]))
      all_goals exact .mk (by simp only [Sub_cons,SubT]; simp [gt])
  rintro env σ ⟨hsub⟩
  refine AWPC.weaken hsub ?_
  clear hsub i1 i2 i3
  have htl:=hs.1
  (repeat' ((first
 | refine vn rfl ?_
 | simp (disch:=omega) only [wr64,Int.zero_sub]
 | refine bo (fun _=>?_) fun _=>?_
 | refine im fun _=>?_
 | refine cF ?_
 | refine om ?_
 | refine an ?_
 | fail) <;> try simp only [zT,zV,zS,zU,vcC,lateX,ex,strp,binA,elems,cells,scalar,eqC,keyA,intsA,lookA,ofVs,mpOf,Nat.reduceBEq,reduceAdd,reduceSub,reduceLT,reduceLeDiff,reduceMul,reduceEqDiff,reduceIte]))
  refine AWPC.loopS (α:={ y:Nat // y≤t.length }) [15] (fun y=>[(15,n y.1)]) (fun y=>t.length - y.1) ⟨0,Nat.zero_le _⟩ ?_ ?_
  · (simp only [zT,zV,zS,zU,vcC,lateX,ex,strp,binA,elems,cells,scalar,eqC,keyA,intsA,lookA,ofVs,mpOf,Nat.reduceBEq,reduceAdd,reduceSub,reduceLT,reduceLeDiff,reduceMul,reduceEqDiff,reduceIte]; try simp)
  rintro ⟨k,hk⟩
  try simp only at hk
  try simp only
  by_cases hlt:k < t.length
  · have hval:=Values_spec t hs (k:Int) (fun _=>by omega)
    rw [decide_eq_true (show 0≤(k:Int)∧(k:Int) < (t.length:Int) by omega)] at hval
    by_cases h0:askE t true=0
    · rw [if_pos h0,h0] at hval
      obtain ⟨_,_,hfe⟩:=askE0.1 h0
      have h1:=plain_vals hpl hv hfe hlt
      rw [show ((k:Int).toNat)=k by omega] at hval
      (repeat' ((first
 | refine vn rfl ?_
 | simp (disch:=omega) only [wr64,Int.zero_sub]
 | refine bo (fun _=>?_) fun _=>?_
 | refine im fun _=>?_
 | ((repeat refine si ?_); (first | ((first | refine .inl ⟨_,_,_,_,rfl,fun _=>pu hval,?_⟩ | refine ⟨_,_,_,_,rfl,fun _=>pu hval,?_⟩); (first | refine o1 ?_ | refine o2 ?_ | refine o3 ?_ | refine o4 ?_)) | refine .inl ⟨_,_,_,_,rfl,pu hval,?_⟩))
 | refine cF ?_
 | refine om ?_
 | refine an ?_
 | fail) <;> try simp only [zT,zV,zS,zU,vcC,lateX,ex,strp,binA,elems,cells,scalar,eqC,keyA,intsA,lookA,ofVs,mpOf,Nat.reduceBEq,reduceAdd,reduceSub,reduceLT,reduceLeDiff,reduceMul,reduceEqDiff,reduceIte,h1]))
      all_goals try (exfalso; omega)
      all_goals exact ⟨⟨k+1,hlt⟩,by simp,by first | omega | (simp only; omega)⟩
    · rw [if_neg h0] at hval
      generalize askE t true=e at *
      (repeat' ((first
 | refine vn rfl ?_
 | simp (disch:=omega) only [wr64,Int.zero_sub]
 | refine bo (fun _=>?_) fun _=>?_
 | refine im fun _=>?_
 | ((repeat refine si ?_); (first | ((first | refine .inl ⟨_,_,_,_,rfl,fun _=>pu hval,?_⟩ | refine ⟨_,_,_,_,rfl,fun _=>pu hval,?_⟩); (first | refine o1 ?_ | refine o2 ?_ | refine o3 ?_ | refine o4 ?_)) | refine .inl ⟨_,_,_,_,rfl,pu hval,?_⟩))
 | refine cF ?_
 | refine om ?_
 | refine an ?_
 | fail) <;> try simp only [zT,zV,zS,zU,vcC,lateX,ex,strp,binA,elems,cells,scalar,eqC,keyA,intsA,lookA,ofVs,mpOf,Nat.reduceBEq,reduceAdd,reduceSub,reduceLT,reduceLeDiff,reduceMul,reduceEqDiff,reduceIte,h0]))
      all_goals try (exfalso; omega)
      all_goals exact ⟨⟨k+1,hlt⟩,by simp,by first | omega | (simp only; omega)⟩
  obtain rfl:k=t.length:=by omega
  by_cases hE:fixE t lims=0
  case neg =>
    generalize fixE t lims=E at *
    (repeat' ((first
 | refine vn rfl ?_
 | simp (disch:=omega) only [wr64,Int.zero_sub]
 | refine bo (fun _=>?_) fun _=>?_
 | refine im fun _=>?_
 | ((repeat refine si ?_); (first | ((first | refine .inl ⟨_,_,_,_,rfl,fun _=>pu hF,?_⟩ | refine ⟨_,_,_,_,rfl,fun _=>pu hF,?_⟩); (first | refine o1 ?_ | refine o2 ?_ | refine o3 ?_ | refine o4 ?_)) | refine .inl ⟨_,_,_,_,rfl,pu hF,?_⟩))
 | refine cF ?_
 | refine om ?_
 | refine an ?_
 | fail) <;> try simp only [zT,zV,zS,zU,vcC,lateX,ex,strp,binA,elems,cells,scalar,eqC,keyA,intsA,lookA,ofVs,mpOf,Nat.reduceBEq,reduceAdd,reduceSub,reduceLT,reduceLeDiff,reduceMul,reduceEqDiff,reduceIte,hE]))
    all_goals try (exfalso; omega)
    all_goals exact Frz.eq rfl (by simp)
  have hR:fixR t lims=fixT t lims:=by unfold fixR; rw [if_pos hE]
  rw [hR,hE] at hF
  have hvW:=fix_valid hE
  have hsW:=fix_sz hs hE
  have hFW:=Feasible_spec (fixT t lims) hsW
  rw [tr_1 hvW,feas_fix hE] at hFW
  simp only [if_true,Bool.true_and] at hFW
  obtain ⟨_,hbad,_⟩:=fix_ok hE
  have hpr:feas t=tr (pairsP t lims 0 0):=by
    have e:pairsP t lims 0 0↔∃ c,course t c:=⟨fun h=>h.1,fun h=>⟨h,fun p q x y _ _ hh=>by omega⟩⟩
    cases hf:feas t with
    | true=>exact (tr_1 (e.2 ((feas_course hv).1 hf))).symm
    | false=>exact (tr_0 fun h=>by rw [(feas_course hv).2 (e.1 h)] at hf; cases hf).symm
  rw [hpr] at hFe
  have hend:=fun h1=>@pairsP_end t lims hpl hv h1
  generalize fixT t lims=W at *
  (repeat' ((first
 | refine vn rfl ?_
 | simp (disch:=omega) only [wr64,Int.zero_sub]
 | refine bo (fun _=>?_) fun _=>?_
 | refine im fun _=>?_
 | ((repeat refine si ?_); (first | ((first | refine .inl ⟨_,_,_,_,rfl,fun _=>pu (by first | exact hF | exact hFe),?_⟩ | refine ⟨_,_,_,_,rfl,fun _=>pu (by first | exact hF | exact hFe),?_⟩); (first | refine o1 ?_ | refine o2 ?_ | refine o3 ?_ | refine o4 ?_)) | refine .inl ⟨_,_,_,_,rfl,pu (by first | exact hF | exact hFe),?_⟩))
 | refine cF ?_
 | refine om ?_
 | refine an ?_
 | fail) <;> try simp only [zT,zV,zS,zU,vcC,lateX,ex,strp,binA,elems,cells,scalar,eqC,keyA,intsA,lookA,ofVs,mpOf,Nat.reduceBEq,reduceAdd,reduceSub,reduceLT,reduceLeDiff,reduceMul,reduceEqDiff,reduceIte]))
  all_goals try (exfalso; omega)
  refine AWPC.loopE (α:={ y:Nat × Sto // y.1≤lims.length∧∀ x∈lims.take y.1,x.vs.length=1 }) [20,22] (fun y=>[(20,bl (tr (pairsP t lims y.1.1 0))),(22,n y.1.1)]) (fun y=>σ++some [⟨24,1,[[tkS W]],none⟩]::y.1.2) (fun y=>lims.length - y.1.1) ⟨(0,[]),Nat.zero_le _,by simp⟩ ?_ (by simp) ?_
  · (simp only [zT,zV,zS,zU,vcC,lateX,ex,strp,binA,elems,cells,scalar,eqC,keyA,intsA,lookA,ofVs,mpOf,Nat.reduceBEq,reduceAdd,reduceSub,reduceLT,reduceLeDiff,reduceMul,reduceEqDiff,reduceIte]; try simp)
  rintro ⟨⟨i,ν⟩,hi,h1⟩
  try simp only at hi h1
  try simp only
  by_cases hlt:i < lims.length
  · obtain ⟨x,hx⟩:∃ x,lims[i]?=some x:=⟨_,List.getElem?_eq_getElem hlt⟩
    have hxm:=List.mem_of_getElem? hx
    have hsn:=take_snoc hx
    by_cases hx1':x.vs.length=1
    case neg =>
      (repeat' ((first
 | refine vn rfl ?_
 | simp (disch:=omega) only [wr64,Int.zero_sub]
 | refine bo (fun _=>?_) fun _=>?_
 | refine im fun _=>?_
 | refine cF ?_
 | refine om ?_
 | refine an ?_
 | fail) <;> try simp only [zT,zV,zS,zU,vcC,lateX,ex,strp,binA,elems,cells,scalar,eqC,keyA,intsA,lookA,ofVs,mpOf,Nat.reduceBEq,reduceAdd,reduceSub,reduceLT,reduceLeDiff,reduceMul,reduceEqDiff,reduceIte,getD_map hx]))
      all_goals try (exfalso; omega)
      all_goals exact Frz.eq rfl (by simp)
    have h1':∀ y∈lims.take (i+1),y.vs.length=1:=fun y hy=>by
      rw [hsn] at hy
      rcases List.mem_append.1 hy with hy | hy
      · exact h1 y hy
      · rw [List.mem_singleton.1 hy]; exact hx1'
    (repeat' ((first
 | refine vn rfl ?_
 | simp (disch:=omega) only [wr64,Int.zero_sub]
 | refine bo (fun _=>?_) fun _=>?_
 | refine im fun _=>?_
 | refine cF ?_
 | refine om ?_
 | refine an ?_
 | fail) <;> try simp only [zT,zV,zS,zU,vcC,lateX,ex,strp,binA,elems,cells,scalar,eqC,keyA,intsA,lookA,ofVs,mpOf,Nat.reduceBEq,reduceAdd,reduceSub,reduceLT,reduceLeDiff,reduceMul,reduceEqDiff,reduceIte,getD_map hx]))
    all_goals try (exfalso; omega)
    refine AWPC.loopE (α:={ y:Nat × Sto // y.1≤i+1 }) [20,23] (fun y=>[(20,bl (tr (pairsP t lims i y.1.1))),(23,n y.1.1)]) (fun y=>σ++some [⟨24,1,[[tkS W]],none⟩]::y.1.2) (fun y=>i+1 - y.1.1) ⟨(0,ν),by simp⟩ ?_ rfl ?_
    · (simp only [zT,zV,zS,zU,vcC,lateX,ex,strp,binA,elems,cells,scalar,eqC,keyA,intsA,lookA,ofVs,mpOf,Nat.reduceBEq,reduceAdd,reduceSub,reduceLT,reduceLeDiff,reduceMul,reduceEqDiff,reduceIte]; try simp)
    rintro ⟨⟨k,ν⟩,hk⟩
    try simp only at hk
    try simp only
    by_cases hlt2:k < i+1
    · obtain ⟨y,hy⟩:∃ y,lims[k]?=some y:=⟨_,List.getElem?_eq_getElem (by omega)⟩
      have hym:=List.mem_of_getElem? hy
      have hy1:y.vs.length=1:=h1' y (List.mem_of_getElem? (by rw [List.getElem?_take_of_lt hlt2]; exact hy))
      have hnx:=@pairsP_next t lims i k x y hx hy
      have hb2:[x,y].any (badL t)=false:=by
        have b1:=List.any_eq_false.1 hbad x hxm
        have b2:=List.any_eq_false.1 hbad y hym
        simp only [List.any_cons,List.any_nil,Bool.or_false]
        rw [show badL t x=false by simpa using b1,show badL t y=false by simpa using b2]; rfl
      have hE2:fixE t [x,y]=0:=fix_0 hv hb2 (plain_big hpl (fun z hz=>by
        rcases List.mem_cons.1 hz with rfl | hz
        · exact hx1'
        · rw [List.mem_singleton.1 hz]; exact hy1) hv)
      have hF2:=Fix_spec t [x,y] hs ⟨by simp,fun z hz=>by
        rcases List.mem_cons.1 hz with rfl | hz
        · exact hx1.2 _ hxm
        · rw [List.mem_singleton.1 hz]; exact hx1.2 _ hym⟩
      have hR2:fixR t [x,y]=fixT t [x,y]:=by unfold fixR; rw [if_pos hE2]
      rw [hR2,hE2] at hF2
      have hG2:=Feasible_spec (fixT t [x,y]) (fix_sz hs hE2)
      rw [tr_1 (fix_valid hE2),feas_fix hE2] at hG2
      simp only [if_true,Bool.true_and] at hG2
      generalize fixT t [x,y]=T2 at *
      have a1:∀ X:Sto,Sto.at (σ++some [⟨24,1,[[tkS W]],none⟩]::(ν++X)) (σ.length+(ν.length+1)) 0=Sto.at X 0 0:=fun X=>by rw [at_app,at_consS,at_app0]
      have a1u:∀ (X:Sto) o,Sto.upd (σ++some [⟨24,1,[[tkS W]],none⟩]::(ν++X)) (σ.length+(ν.length+1)) 0 o=σ++some [⟨24,1,[[tkS W]],none⟩]::(ν++Sto.upd X 0 0 o):=fun X o=>by rw [upd_app,upd_consS,upd_app0]
      have e1:(∃ c,course t c∧fits c [x,y])=pairA t x y:=rfl
      rw [e1] at hG2
      by_cases hA:pairA t x y
      · rw [tr_1 hA] at hG2
        by_cases hP:pairsP t lims i k
        · rw [tr_1 hP]
          have hP':=tr_1 (hnx.2 ⟨hP,hA⟩)
          (repeat' ((first
 | refine vn rfl ?_
 | simp (disch:=omega) only [wr64,Int.zero_sub]
 | refine bo (fun _=>?_) fun _=>?_
 | refine im fun _=>?_
 | ((repeat refine si ?_); (first | ((first | refine .inl ⟨_,_,_,_,rfl,fun _=>pu (by first | exact hF2 | exact hG2),?_⟩ | refine ⟨_,_,_,_,rfl,fun _=>pu (by first | exact hF2 | exact hG2),?_⟩); (first | refine o1 ?_ | refine o2 ?_ | refine o3 ?_ | refine o4 ?_)) | refine .inl ⟨_,_,_,_,rfl,pu (by first | exact hF2 | exact hG2),?_⟩))
 | refine cF ?_
 | refine om ?_
 | refine an ?_
 | fail) <;> try simp only [zT, zV, zS, zU, vcC, lateX, ex, strp, binA, elems, cells, scalar, eqC, keyA, intsA, lookA, ofVs, mpOf, Nat.reduceBEq, reduceAdd, reduceSub, reduceLT, reduceLeDiff, reduceMul, reduceEqDiff, reduceIte, getD_map hx, getD_map hy, a1, a1u, List.append_assoc, List.cons_append]))
          all_goals try (exfalso; omega)
          all_goals exact ⟨⟨(k+1,_),by simp only; omega⟩,⟨congrArg bl hP'.symm,rfl⟩,by simp only; exact congrArg (fun q=>σ++_::q) rfl,by simp only; omega⟩
        · rw [tr_0 hP]
          have hP':=tr_0 (fun h=>hP (hnx.1 h).1)
          (repeat' ((first
 | refine vn rfl ?_
 | simp (disch:=omega) only [wr64,Int.zero_sub]
 | refine bo (fun _=>?_) fun _=>?_
 | refine im fun _=>?_
 | ((repeat refine si ?_); (first | ((first | refine .inl ⟨_,_,_,_,rfl,fun _=>pu (by first | exact hF2 | exact hG2),?_⟩ | refine ⟨_,_,_,_,rfl,fun _=>pu (by first | exact hF2 | exact hG2),?_⟩); (first | refine o1 ?_ | refine o2 ?_ | refine o3 ?_ | refine o4 ?_)) | refine .inl ⟨_,_,_,_,rfl,pu (by first | exact hF2 | exact hG2),?_⟩))
 | refine cF ?_
 | refine om ?_
 | refine an ?_
 | fail) <;> try simp only [zT, zV, zS, zU, vcC, lateX, ex, strp, binA, elems, cells, scalar, eqC, keyA, intsA, lookA, ofVs, mpOf, Nat.reduceBEq, reduceAdd, reduceSub, reduceLT, reduceLeDiff, reduceMul, reduceEqDiff, reduceIte, getD_map hx, getD_map hy, a1, a1u, List.append_assoc, List.cons_append]))
          all_goals try (exfalso; omega)
          all_goals exact ⟨⟨(k+1,_),by simp only; omega⟩,⟨congrArg bl hP'.symm,rfl⟩,by simp only; exact congrArg (fun q=>σ++_::q) rfl,by simp only; omega⟩
      · rw [tr_0 hA] at hG2
        have hP':=tr_0 (fun h=>hA (hnx.1 h).2)
        by_cases hP:pairsP t lims i k
        · rw [tr_1 hP]
          (repeat' ((first
 | refine vn rfl ?_
 | simp (disch:=omega) only [wr64,Int.zero_sub]
 | refine bo (fun _=>?_) fun _=>?_
 | refine im fun _=>?_
 | ((repeat refine si ?_); (first | ((first | refine .inl ⟨_,_,_,_,rfl,fun _=>pu (by first | exact hF2 | exact hG2),?_⟩ | refine ⟨_,_,_,_,rfl,fun _=>pu (by first | exact hF2 | exact hG2),?_⟩); (first | refine o1 ?_ | refine o2 ?_ | refine o3 ?_ | refine o4 ?_)) | refine .inl ⟨_,_,_,_,rfl,pu (by first | exact hF2 | exact hG2),?_⟩))
 | refine cF ?_
 | refine om ?_
 | refine an ?_
 | fail) <;> try simp only [zT, zV, zS, zU, vcC, lateX, ex, strp, binA, elems, cells, scalar, eqC, keyA, intsA, lookA, ofVs, mpOf, Nat.reduceBEq, reduceAdd, reduceSub, reduceLT, reduceLeDiff, reduceMul, reduceEqDiff, reduceIte, getD_map hx, getD_map hy, a1, a1u, List.append_assoc, List.cons_append]))
          all_goals try (exfalso; omega)
          all_goals exact ⟨⟨(k+1,_),by simp only; omega⟩,⟨congrArg bl hP'.symm,rfl⟩,by simp only; exact congrArg (fun q=>σ++_::q) rfl,by simp only; omega⟩
        · rw [tr_0 hP]
          (repeat' ((first
 | refine vn rfl ?_
 | simp (disch:=omega) only [wr64,Int.zero_sub]
 | refine bo (fun _=>?_) fun _=>?_
 | refine im fun _=>?_
 | ((repeat refine si ?_); (first | ((first | refine .inl ⟨_,_,_,_,rfl,fun _=>pu (by first | exact hF2 | exact hG2),?_⟩ | refine ⟨_,_,_,_,rfl,fun _=>pu (by first | exact hF2 | exact hG2),?_⟩); (first | refine o1 ?_ | refine o2 ?_ | refine o3 ?_ | refine o4 ?_)) | refine .inl ⟨_,_,_,_,rfl,pu (by first | exact hF2 | exact hG2),?_⟩))
 | refine cF ?_
 | refine om ?_
 | refine an ?_
 | fail) <;> try simp only [zT, zV, zS, zU, vcC, lateX, ex, strp, binA, elems, cells, scalar, eqC, keyA, intsA, lookA, ofVs, mpOf, Nat.reduceBEq, reduceAdd, reduceSub, reduceLT, reduceLeDiff, reduceMul, reduceEqDiff, reduceIte, getD_map hx, getD_map hy, a1, a1u, List.append_assoc, List.cons_append]))
          all_goals try (exfalso; omega)
          all_goals exact ⟨⟨(k+1,_),by simp only; omega⟩,⟨congrArg bl hP'.symm,rfl⟩,by simp only; exact congrArg (fun q=>σ++_::q) rfl,by simp only; omega⟩
    · obtain rfl:k=i+1:=by omega
      have hrow:tr (pairsP t lims i (i+1))=tr (pairsP t lims (i+1) 0):=decide_eq_decide.2 pairsP_row
      rw [hrow]
      (repeat' ((first
 | refine vn rfl ?_
 | simp (disch:=omega) only [wr64,Int.zero_sub]
 | refine bo (fun _=>?_) fun _=>?_
 | refine im fun _=>?_
 | refine cF ?_
 | refine om ?_
 | refine an ?_
 | fail) <;> try simp only [zT,zV,zS,zU,vcC,lateX,ex,strp,binA,elems,cells,scalar,eqC,keyA,intsA,lookA,ofVs,mpOf,Nat.reduceBEq,reduceAdd,reduceSub,reduceLT,reduceLeDiff,reduceMul,reduceEqDiff,reduceIte]))
      all_goals try (exfalso; omega)
      all_goals exact ⟨⟨(i+1,ν),hlt,h1'⟩,⟨rfl,rfl⟩,rfl,by simp only; omega⟩
  · obtain rfl:i=lims.length:=by omega
    rw [List.take_length] at h1
    have hend':tr (pairsP t lims lims.length 0)=tr (∃ c,course t c∧fits c lims):=decide_eq_decide.2 (hend h1)
    rw [hend']
    generalize tr (∃ c,course t c∧fits c lims)=Q at *
    have a0:∀ X:Sto,Sto.at (σ++some [⟨24,1,[[tkS W]],none⟩]::X) σ.length 0=some ⟨24,1,[[tkS W]],none⟩:=fun X=>by rw [at_app0]; rfl
    have bnB:(true == true)=true∧(false == false)=true:=by decide
    cases Q <;> (
      (repeat' ((first
 | refine vn rfl ?_
 | simp (disch:=omega) only [wr64,Int.zero_sub]
 | refine bo (fun _=>?_) fun _=>?_
 | refine im fun _=>?_
 | ((repeat refine si ?_); (first | ((first | refine .inl ⟨_,_,_,_,rfl,fun _=>pu hFW,?_⟩ | refine ⟨_,_,_,_,rfl,fun _=>pu hFW,?_⟩); (first | refine o1 ?_ | refine o2 ?_ | refine o3 ?_ | refine o4 ?_)) | refine .inl ⟨_,_,_,_,rfl,pu hFW,?_⟩))
 | refine cF ?_
 | refine om ?_
 | refine an ?_
 | fail) <;> try simp only [zT,zV,zS,zU,vcC,lateX,ex,strp,binA,elems,cells,scalar,eqC,keyA,intsA,lookA,ofVs,mpOf,Nat.reduceBEq,reduceAdd,reduceSub,reduceLT,reduceLeDiff,reduceMul,reduceEqDiff,reduceIte,a0,bnB]))
      all_goals try (exfalso; omega)
      all_goals exact Frz.eq rfl (by simp))
end Go.Proofs.YtahkhnagpdlkiaaGreat
