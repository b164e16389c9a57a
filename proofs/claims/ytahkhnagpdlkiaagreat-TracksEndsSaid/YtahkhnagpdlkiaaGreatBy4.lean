/- Part 4 of the texts that the claim rests on: abstract values over the walk, and contracts of functions. -/
import Derived.Test.YtahkhnagpdlkiaaGreatBy3
import Derived.Test.YtahkhnagpdlkiaaGreatRows
namespace Go.Proofs.YtahkhnagpdlkiaaGreat
open Go.Abs
open Nat (reduceAdd reduceSub reduceLT reduceLeDiff reduceMul reduceEqDiff)
set_option linter.unusedVariables false
set_option linter.unusedSimpArgs false
set_option maxHeartbeats 4000000
set_option maxRecDepth 100000
def c76:CF:=⟨32,
 (.seq (.ops [
 ⟨some 2,.mv (.c (.bool false)),none⟩] [0])
 (.seq (.ops [
 ⟨some 3,.mv (.c (.int .i64 (-100002))),none⟩] [0,3])
 (.seq (.seq (.ops [
 ⟨some 6,.mv (.t 0),none⟩,
 ⟨some 7,.len (.t 6),none⟩,
 ⟨some 8,.mv (.c (.int .i64 0)),none⟩] [3,6,7,8])
 (.block 0 (.loop (.seq (.ops [
 ⟨some 9,.bin .lss (.t 8) (.t 7),none⟩] [3,6,7,8,9])
 (.seq (.cond (.t 9) .skip
 (.exit 0))
 (.seq (.block 1 (.seq (.ops [
 ⟨some 10,.iaddr 2 (.t 6) (.t 8),none⟩,
 ⟨some 11,.load (some 2) (.t 10),none⟩,
 ⟨some 5,.alloc 30 2 [.int .i64 0,.int .i64 0],none⟩,
 ⟨none,.store 2 (.t 5) (.t 11),none⟩] [3,5,6,7,8])
 (.seq (.seq (.ops [
 ⟨some 12,.faddr 0 (.t 5),none⟩,
 ⟨some 13,.load none (.t 12),none⟩,
 ⟨some 14,.mv (.t 3),none⟩,
 ⟨some 15,.bin .add (.t 14) (.c (.int .i64 2)),none⟩,
 ⟨some 16,.bin .lss (.t 13) (.t 15),none⟩,
 ⟨some 17,.mv (.t 16),none⟩,
 ⟨some 18,.faddr 0 (.t 5),some (17,false)⟩,
 ⟨some 19,.load none (.t 18),some (17,false)⟩,
 ⟨some 20,.faddr 1 (.t 5),some (17,false)⟩,
 ⟨some 21,.load none (.t 20),some (17,false)⟩,
 ⟨some 22,.bin .gtr (.t 19) (.t 21),some (17,false)⟩,
 ⟨some 23,.pick (.t 17) (.c (.bool true)) (.t 22),none⟩,
 ⟨some 24,.mv (.t 23),none⟩,
 ⟨some 25,.faddr 1 (.t 5),some (24,false)⟩,
 ⟨some 26,.load none (.t 25),some (24,false)⟩,
 ⟨some 27,.bin .gtr (.t 26) (.c (.int .i64 100000)),some (24,false)⟩,
 ⟨some 28,.pick (.t 24) (.c (.bool true)) (.t 27),none⟩] [5,6,7,8,28])
 (.cond (.t 28) (.seq (.ops [
 ⟨some 2,.mv (.c (.bool false)),none⟩] [2])
 .ret)
 .skip))
 (.ops [
 ⟨some 29,.faddr 1 (.t 5),none⟩,
 ⟨some 30,.load none (.t 29),none⟩,
 ⟨some 3,.mv (.t 30),none⟩] [3,6,7,8]))))
 (.ops [
 ⟨some 31,.bin .add (.t 8) (.c (.int .i64 1)),none⟩,
 ⟨some 8,.mv (.t 31),none⟩] [3,6,7,8])))))))
 (.seq (.ops [
 ⟨some 2,.mv (.c (.bool true)),none⟩] [2])
 .ret)))),
 [.t 2]⟩
def c78:CF:=⟨10,
 (.seq (.ops [
 ⟨some 2,.mv (.c (.bool false)),none⟩] [0])
 (.seq (.ops [
 ⟨some 3,.mv (.t 0),none⟩,
 ⟨some 4,.len (.t 3),none⟩,
 ⟨some 5,.bin .leq (.t 4) (.c (.int .i64 64)),none⟩,
 ⟨some 6,.mv (.t 5),none⟩,
 ⟨some 7,.mv (.t 0),some (6,true)⟩,
 ⟨some 8,.call (.f 76) [(.t 7)],some (6,true)⟩,
 ⟨some 9,.pick (.t 6) (.t 8) (.c (.bool false)),none⟩,
 ⟨some 2,.mv (.t 9),none⟩] [2])
 .ret)),
 [.t 2]⟩
def c82:CF:=⟨15,
 (.seq (.ops [
 ⟨some 6,.mv (.c (.bool false)),none⟩] [0,1,2])
 (.seq (.ops [
 ⟨some 7,.mv (.t 1),none⟩,
 ⟨some 8,.mv (.t 0),none⟩,
 ⟨some 9,.bin .leq (.t 7) (.t 8),none⟩,
 ⟨some 10,.mv (.t 9),none⟩,
 ⟨some 11,.mv (.t 0),some (10,true)⟩,
 ⟨some 12,.mv (.t 2),some (10,true)⟩,
 ⟨some 13,.bin .leq (.t 11) (.t 12),some (10,true)⟩,
 ⟨some 14,.pick (.t 10) (.t 13) (.c (.bool false)),none⟩,
 ⟨some 6,.mv (.t 14),none⟩] [6])
 .ret)),
 [.t 6]⟩
def c28:CF:=⟨26,
 (.seq (.ops [
 ⟨some 4,.mv (.c (.bool false)),none⟩] [0,1])
 (.seq (.seq (.ops [
 ⟨some 6,.mv (.t 0),none⟩,
 ⟨some 7,.len (.t 6),none⟩,
 ⟨some 8,.mv (.t 1),none⟩,
 ⟨some 9,.len (.t 8),none⟩,
 ⟨some 10,.bin .neq (.t 7) (.t 9),none⟩] [0,1,10])
 (.cond (.t 10) (.seq (.ops [
 ⟨some 4,.mv (.c (.bool false)),none⟩] [4])
 .ret)
 .skip))
 (.seq (.seq (.ops [
 ⟨some 5,.mv (.c (.int .i64 0)),none⟩] [0,1,5])
 (.block 0 (.loop (.seq (.seq (.ops [
 ⟨some 11,.mv (.t 5),none⟩,
 ⟨some 12,.mv (.t 0),none⟩,
 ⟨some 13,.len (.t 12),none⟩,
 ⟨some 14,.bin .lss (.t 11) (.t 13),none⟩] [0,1,5,14])
 (.cond (.t 14) .skip
 (.exit 0)))
 (.seq (.block 1 (.seq (.draw [
 ⟨some 17,.mv (.t 0),none⟩,
 ⟨some 18,.mv (.t 5),none⟩,
 ⟨some 19,.iaddr 2 (.t 17) (.t 18),none⟩,
 ⟨some 20,.load (some 2) (.t 19),none⟩,
 ⟨some 21,.mv (.t 1),none⟩,
 ⟨some 22,.mv (.t 5),none⟩,
 ⟨some 23,.iaddr 2 (.t 21) (.t 22),none⟩,
 ⟨some 24,.load (some 2) (.t 23),none⟩,
 ⟨some 25,.eqs true [some .i64,some .i64] (.t 20) (.t 24),none⟩] [
 ] [0,1,5,25])
 (.cond (.t 25) (.seq (.ops [
 ⟨some 4,.mv (.c (.bool false)),none⟩] [4])
 .ret)
 .skip)))
 (.ops [
 ⟨some 15,.mv (.t 5),none⟩,
 ⟨some 16,.bin .add (.t 15) (.c (.int .i64 1)),none⟩,
 ⟨some 5,.mv (.t 16),none⟩] [0,1,5]))))))
 (.seq (.ops [
 ⟨some 4,.mv (.c (.bool true)),none⟩] [4])
 .ret)))),
 [.t 4]⟩
def c105:CF:=⟨18,
 (.seq (.ops [
 ⟨some 1,.box false 30 2 (.t 0),none⟩,
 ⟨some 2,.mv (.c (.bool false)),none⟩] [1])
 (.seq (.ops [
 ⟨some 3,.faddr 0 (.t 1),none⟩,
 ⟨some 4,.load none (.t 3),none⟩,
 ⟨some 5,.bin .leq (.c (.int .i64 (-100000))) (.t 4),none⟩,
 ⟨some 6,.mv (.t 5),none⟩,
 ⟨some 7,.faddr 0 (.t 1),some (6,true)⟩,
 ⟨some 8,.load none (.t 7),some (6,true)⟩,
 ⟨some 9,.faddr 1 (.t 1),some (6,true)⟩,
 ⟨some 10,.load none (.t 9),some (6,true)⟩,
 ⟨some 11,.bin .leq (.t 8) (.t 10),some (6,true)⟩,
 ⟨some 12,.pick (.t 6) (.t 11) (.c (.bool false)),none⟩,
 ⟨some 13,.mv (.t 12),none⟩,
 ⟨some 14,.faddr 1 (.t 1),some (13,true)⟩,
 ⟨some 15,.load none (.t 14),some (13,true)⟩,
 ⟨some 16,.bin .leq (.t 15) (.c (.int .i64 100000)),some (13,true)⟩,
 ⟨some 17,.pick (.t 13) (.t 16) (.c (.bool false)),none⟩,
 ⟨some 2,.mv (.t 17),none⟩] [2])
 .ret)),
 [.t 2]⟩
def c29:CF:=⟨24,
 (.seq (.ops [
 ⟨some 4,.mv (.c (.bool false)),none⟩] [0,1])
 (.seq (.seq (.ops [
 ⟨some 5,.mv (.c (.int .i64 0)),none⟩] [0,1,5])
 (.block 0 (.loop (.seq (.seq (.ops [
 ⟨some 6,.mv (.t 5),none⟩,
 ⟨some 7,.mv (.t 0),none⟩,
 ⟨some 8,.len (.t 7),none⟩,
 ⟨some 9,.bin .lss (.t 6) (.t 8),none⟩] [0,1,5,9])
 (.cond (.t 9) .skip
 (.exit 0)))
 (.seq (.block 1 (.seq (.draw [
 ⟨some 12,.mv (.t 1),none⟩,
 ⟨some 13,.mv (.t 0),none⟩,
 ⟨some 14,.mv (.t 5),none⟩,
 ⟨some 15,.iaddr 2 (.t 13) (.t 14),none⟩,
 ⟨some 16,.faddr 0 (.t 15),none⟩,
 ⟨some 17,.load none (.t 16),none⟩,
 ⟨some 18,.mv (.t 0),none⟩,
 ⟨some 19,.mv (.t 5),none⟩,
 ⟨some 20,.iaddr 2 (.t 18) (.t 19),none⟩,
 ⟨some 21,.faddr 1 (.t 20),none⟩,
 ⟨some 22,.load none (.t 21),none⟩,
 ⟨some 23,.call (.f 82) [(.t 12),(.t 17),(.t 22)],none⟩] [
 ] [0,1,5,23])
 (.cond (.t 23) (.seq (.ops [
 ⟨some 4,.mv (.c (.bool true)),none⟩] [4])
 .ret)
 .skip)))
 (.ops [
 ⟨some 10,.mv (.t 5),none⟩,
 ⟨some 11,.bin .add (.t 10) (.c (.int .i64 1)),none⟩,
 ⟨some 5,.mv (.t 11),none⟩] [0,1,5]))))))
 (.seq (.ops [
 ⟨some 4,.mv (.c (.bool false)),none⟩] [4])
 .ret))),
 [.t 4]⟩
def c24:CF:=⟨16,
 (.seq (.ops [
 ⟨some 2,.mv (.c (.bool false)),none⟩] [0])
 (.seq (.ops [
 ⟨some 3,.mv (.t 0),none⟩,
 ⟨some 4,.len (.t 3),none⟩,
 ⟨some 5,.bin .leq (.t 4) (.c (.int .i64 12)),none⟩,
 ⟨some 6,.mv (.t 5),none⟩,
 ⟨some 7,.mv (.t 0),some (6,false)⟩,
 ⟨some 8,.len (.t 7),some (6,false)⟩,
 ⟨some 9,.bin .gtr (.t 8) (.c (.int .i64 64)),some (6,false)⟩,
 ⟨some 10,.mv (.t 9),some (6,false)⟩,
 ⟨some 11,.mv (.t 0),some (10,true)⟩,
 ⟨some 12,.len (.t 11),some (10,true)⟩,
 ⟨some 13,.bin .leq (.t 12) (.c (.int .i64 128)),some (10,true)⟩,
 ⟨some 14,.pick (.t 10) (.t 13) (.c (.bool false)),some (6,false)⟩,
 ⟨some 15,.pick (.t 6) (.c (.bool true)) (.t 14),none⟩,
 ⟨some 2,.mv (.t 15),none⟩] [2])
 .ret)),
 [.t 2]⟩
abbrev spS (l:List Sp):AV:=.sl 2 (l.map Sp.cs)
abbrev spO (l:List Sp):Ob:=⟨30,2,l.map Sp.cs,none⟩
abbrev nodS (x:List (List Sp)):AV:=.sl 1 (x.map fun l=>[spS l])
abbrev stgS (x:List (List (List Sp))):AV:=.sl 1 (x.map fun l=>[nodS l])
@[simp] theorem pv_sp (l:List Sp):PureV (spS l):=PureV.sl fun e he c hc=>by
  obtain ⟨x,_,rfl⟩:=List.mem_map.1 he
  simp only [Sp.cs,List.mem_cons,List.not_mem_nil,or_false] at hc
  rcases hc with rfl | rfl <;> exact PureV.v _
@[simp] theorem pv_nods (x:List (List Sp)):PureV (nodS x):=PureV.sl fun e he c hc=>by
  obtain ⟨x,_,rfl⟩:=List.mem_map.1 he
  simp only [List.mem_cons,List.not_mem_nil,or_false] at hc
  subst hc; exact pv_sp x
@[simp] theorem pv_stgs (x:List (List (List Sp))):PureV (stgS x):=PureV.sl fun e he c hc=>by
  obtain ⟨x,_,rfl⟩:=List.mem_map.1 he
  simp only [List.mem_cons,List.not_mem_nil,or_false] at hc
  subst hc; exact pv_nods x
theorem frz_sp {σ:Sto} {f i:Nat} {l:List Sp} (h:σ.at f i=some (spO l)):Frz σ (.own f i l.length) (spS l):=by
  refine Frz.own (o:=spO l) (es:=l.map Sp.cs) (show (2:Nat)≠0 by decide) h (by simp) (by simp) (fun e j he hj=>?_) fun e he=>?_
  · obtain ⟨x,hx⟩:∃ x,l[e]?=some x:=⟨_,List.getElem?_eq_getElem he⟩
    rw [getD_map hx]
    match j,hj with
    | 0,_=>exact Frz.eq rfl (by simp)
    | 1,_=>exact Frz.eq rfl (by simp)
  · obtain ⟨x,hx⟩:∃ x,l[e]?=some x:=⟨_,List.getElem?_eq_getElem he⟩
    rw [getD_map hx]; rfl
theorem frz_sp' {σ:Sto} {f i m:Nat} (l:List Sp) (h:σ.at f i=some (spO l)) (hm:m=l.length):Frz σ (.own f i m) (spS l):=hm ▸ frz_sp h
theorem rows_ok (l:List Sp):∀ e,e < l.length→((l.map Sp.cs).getD e []).length=2:=fun e he=>by
  obtain ⟨x,hx⟩:∃ x,l[e]?=some x:=⟨_,List.getElem?_eq_getElem he⟩
  rw [getD_map hx]; rfl
theorem k76:chkF Tryz.prog Tryz.f76 c76=true:=by kernel_rfl
theorem k78:chkF Tryz.prog Tryz.f78 c78=true:=by kernel_rfl
theorem k82:chkF Tryz.prog Tryz.f82 c82=true:=by kernel_rfl
theorem k28:chkF Tryz.prog Tryz.f28 c28=true:=by kernel_rfl
theorem k105:chkF Tryz.prog Tryz.f105 c105=true:=by kernel_rfl
theorem k29:chkF Tryz.prog Tryz.f29 c29=true:=by kernel_rfl
theorem k24:chkF Tryz.prog Tryz.f24 c24=true:=by kernel_rfl
def lastOf (l:List Sp):Nat→Int
  | 0=>-100002
  | i+1=>match l[i]? with | some s=>s.hi | none=>0
def okTo (l:List Sp) (i:Nat):Prop:=good (l.take i)
theorem okTo_0 (l:List Sp):okTo l 0:=⟨by simp [Norm],by simp⟩
theorem norm_snoc {a:List Sp} {u s:Sp} (h:Norm (a++[u])):Norm (a++[u]++[s])↔s.lo≤s.hi∧u.hi+1 < s.lo:=by
  rw [norm_append]
  constructor
  · rintro ⟨_,h2,h3⟩; exact ⟨h2.1,h3 u (by simp) s (by simp)⟩
  · rintro ⟨h2,h3⟩
    refine ⟨h,⟨h2,fun t ht=>absurd ht (List.not_mem_nil),trivial⟩,fun w hw t ht=>?_⟩
    obtain rfl:t=s:=by simpa using ht
    rcases List.mem_append.1 hw with hw | hw
    · have h4:=(norm_append.1 h).2.2 w hw u (by simp)
      have h5:=h.ne u (by simp)
      omega
    · obtain rfl:w=u:=by simpa using hw
      exact h3
theorem okTo_next {l:List Sp} {i:Nat} {s:Sp} (hs:l[i]?=some s) (h:okTo l i):okTo l (i+1)↔lastOf l i+2≤s.lo∧s.lo≤s.hi∧s.hi≤100000:=by
  unfold okTo good at h ⊢
  cases i with
  | zero =>
    rw [List.take_add_one,hs]
    simp only [List.take_zero,Option.toList_some,List.nil_append,lastOf]
    simp [Norm]
    omega
  | succ i =>
    obtain ⟨u,hu⟩:∃ u,l[i]?=some u:=⟨_,List.getElem?_eq_getElem (by have:=(List.getElem?_eq_some_iff.1 hs).1; omega)⟩
    have e1:l.take (i+1)=l.take i++[u]:=by rw [List.take_add_one,hu]; rfl
    have e2:l.take (i+1+1)=l.take i++[u]++[s]:=by rw [List.take_add_one,hs,e1]; rfl
    simp only [lastOf,hu]
    rw [e1] at h
    rw [e2,norm_snoc h.1]
    have hub:=h.2 u (by simp)
    have hune:=h.1.ne u (by simp)
    constructor
    · rintro ⟨h1,h2⟩
      have:=h2 s (by simp)
      omega
    · rintro ⟨h1,h2,h3⟩
      refine ⟨by omega,fun w hw=>?_⟩
      rcases List.mem_append.1 hw with hw | hw
      · exact h.2 w hw
      · obtain rfl:w=s:=by simpa using hw
        omega
theorem good_okTo {l:List Sp} (h:good l) (i:Nat):okTo l i:=by
  obtain ⟨h1,h2⟩:=h
  rw [← List.take_append_drop i l] at h1
  exact ⟨(norm_append.1 h1).1,fun s hs=>h2 s (List.mem_of_mem_take hs)⟩
theorem okTo_good {l:List Sp} (h:okTo l l.length):good l:=by
  unfold okTo at h
  rwa [List.take_length] at h
theorem lastOf_bd {l:List Sp} {i:Nat} (h:okTo l i) (hi:i≤l.length):-100002≤lastOf l i∧lastOf l i≤100000:=by
  cases i with
  | zero=>simp [lastOf]
  | succ i =>
    obtain ⟨u,hu⟩:∃ u,l[i]?=some u:=⟨_,List.getElem?_eq_getElem (by omega)⟩
    have:=h.2 u (by rw [List.take_add_one,hu]; simp)
    have h2:=h.1.ne u (by rw [List.take_add_one,hu]; simp)
    simp only [lastOf,hu]; omega
theorem lastOf_succ {l:List Sp} {i:Nat} {s:Sp} (hs:l[i]?=some s):lastOf l (i+1)=s.hi:=by simp [lastOf,hs]
theorem isSet_spec (l:List Sp) (hl:l.length < 9223372036854775808):Pure Tryz.prog 76 [spS l] (bl (tr (good l))):=by
  refine Pure.of_body Tryz.call76 Tryz.func76 k76 (Nat.le_of_ble_eq_true rfl) ?_
  unfold c76
  (repeat' ((first
 | refine vn rfl ?_
 | simp (disch:=omega) only [wr64,Int.zero_sub]
 | refine bo (fun _=>?_) fun _=>?_
 | refine im fun _=>?_
 | refine cF ?_
 | refine om ?_
 | refine an ?_
 | fail) <;> try simp only [zT,zV,zS,zU,vcC,lateX,ex,strp,binA,elems,cells,scalar,eqC,keyA,intsA,lookA,ofVs,mpOf,Nat.reduceBEq,reduceAdd,reduceSub,reduceLT,reduceLeDiff,reduceMul,reduceEqDiff,reduceIte]))
  refine AWPC.loopE (α:={ x:Nat × Sto // x.1≤l.length∧okTo l x.1 }) [3,8] (fun x=>[(3,n (lastOf l x.1.1)),(8,n x.1.1)]) (fun x=>x.1.2) (fun x=>l.length - x.1.1) ⟨(0,[]),by simp,okTo_0 l⟩ ?_ rfl ?_
  · (simp only [zT,zV,zS,zU,vcC,lateX,ex,strp,binA,elems,cells,scalar,eqC,keyA,intsA,lookA,ofVs,mpOf,Nat.reduceBEq,reduceAdd,reduceSub,reduceLT,reduceLeDiff,reduceMul,reduceEqDiff,reduceIte]; try simp)
    simp [lastOf]
  · rintro ⟨⟨i,τ⟩,hi,hb⟩
    simp only at hi hb
    have hlb:=lastOf_bd hb hi
    by_cases hlt:i < l.length
    · obtain ⟨s,hs⟩:∃ s,l[i]?=some s:=⟨_,List.getElem?_eq_getElem hlt⟩
      have hn:=okTo_next hs hb
      have hls:=lastOf_succ hs
      (repeat' ((first
 | refine vn rfl ?_
 | simp (disch:=omega) only [wr64,Int.zero_sub]
 | refine bo (fun _=>?_) fun _=>?_
 | refine im fun _=>?_
 | refine cF ?_
 | refine om ?_
 | refine an ?_
 | fail) <;> try simp only [zT,zV,zS,zU,vcC,lateX,ex,strp,binA,elems,cells,scalar,eqC,keyA,intsA,lookA,ofVs,mpOf,Nat.reduceBEq,reduceAdd,reduceSub,reduceLT,reduceLeDiff,reduceMul,reduceEqDiff,reduceIte,getD_map hs]))
      all_goals try (exfalso; omega)
      · rename_i h
        rw [tr_0 (fun g=>?_)]
        · exact Frz.eq rfl (by simp)
        · have:=hn.1 (good_okTo g (i+1)); omega
      · rename_i h
        exact ⟨⟨(i+1,_),hlt,hn.2 (by omega)⟩,by simp [hls],rfl,by simp only; omega⟩
    · obtain rfl:i=l.length:=by omega
      (repeat' ((first
 | refine vn rfl ?_
 | simp (disch:=omega) only [wr64,Int.zero_sub]
 | refine bo (fun _=>?_) fun _=>?_
 | refine im fun _=>?_
 | refine cF ?_
 | refine om ?_
 | refine an ?_
 | fail) <;> try simp only [zT,zV,zS,zU,vcC,lateX,ex,strp,binA,elems,cells,scalar,eqC,keyA,intsA,lookA,ofVs,mpOf,Nat.reduceBEq,reduceAdd,reduceSub,reduceLT,reduceLeDiff,reduceMul,reduceEqDiff,reduceIte]))
      all_goals try (exfalso; omega)
      rw [tr_1 (okTo_good hb)]
      exact Frz.eq rfl (by simp)
theorem isSmall_spec (l:List Sp) (hl:l.length < 9223372036854775808):Pure Tryz.prog 78 [spS l] (bl (tr (small l))):=by
  refine Pure.of_body Tryz.call78 Tryz.func78 k78 (Nat.le_of_ble_eq_true rfl) ?_
  unfold c78
  (repeat' ((first
 | refine vn rfl ?_
 | simp (disch:=omega) only [wr64,Int.zero_sub]
 | refine bo (fun _=>?_) fun _=>?_
 | refine im fun _=>?_
 | ((repeat refine si ?_); (first | ((first | refine .inl ⟨_,_,_,_,rfl,fun _=>pu (isSet_spec l hl),?_⟩ | refine ⟨_,_,_,_,rfl,fun _=>pu (isSet_spec l hl),?_⟩); (first | refine o1 ?_ | refine o2 ?_ | refine o3 ?_ | refine o4 ?_)) | refine .inl ⟨_,_,_,_,rfl,pu (isSet_spec l hl),?_⟩))
 | refine cF ?_
 | refine om ?_
 | refine an ?_
 | fail) <;> try simp only [zT,zV,zS,zU,vcC,lateX,ex,strp,binA,elems,cells,scalar,eqC,keyA,intsA,lookA,ofVs,mpOf,Nat.reduceBEq,reduceAdd,reduceSub,reduceLT,reduceLeDiff,reduceMul,reduceEqDiff,reduceIte]))
  all_goals exact Frz.eq (congrArg bl (decide_eq_decide.2 ⟨fun h=>⟨by omega,h.2⟩,fun h=>⟨by have:=h.1; omega,h.2⟩⟩)) (by simp)
theorem within_spec (a b c:Int):Pure Tryz.prog 82 [n a,n b,n c] (bl (decide (b≤a∧a≤c))):=by
  refine Pure.of_body Tryz.call82 Tryz.func82 k82 (Nat.le_of_ble_eq_true rfl) ?_
  unfold c82
  (repeat' ((first
 | refine vn rfl ?_
 | simp (disch:=omega) only [wr64,Int.zero_sub]
 | refine bo (fun _=>?_) fun _=>?_
 | refine im fun _=>?_
 | refine cF ?_
 | refine om ?_
 | refine an ?_
 | fail) <;> try simp only [zT,zV,zS,zU,vcC,lateX,ex,strp,binA,elems,cells,scalar,eqC,keyA,intsA,lookA,ofVs,mpOf,Nat.reduceBEq,reduceAdd,reduceSub,reduceLT,reduceLeDiff,reduceMul,reduceEqDiff,reduceIte]))
  all_goals refine Frz.eq ?_ (by simp)
  all_goals simp
theorem isChange_spec (s:Sp):Pure Tryz.prog 105 [.agg s.cs] (bl (decide (-100000≤s.lo∧s.lo≤s.hi∧s.hi≤100000))):=by
  refine Pure.of_body Tryz.call105 Tryz.func105 k105 (Nat.le_of_ble_eq_true rfl) ?_
  unfold c105
  (repeat' ((first
 | refine vn rfl ?_
 | simp (disch:=omega) only [wr64,Int.zero_sub]
 | refine bo (fun _=>?_) fun _=>?_
 | refine im fun _=>?_
 | refine cF ?_
 | refine om ?_
 | refine an ?_
 | fail) <;> try simp only [zT,zV,zS,zU,vcC,lateX,ex,strp,binA,elems,cells,scalar,eqC,keyA,intsA,lookA,ofVs,mpOf,Nat.reduceBEq,reduceAdd,reduceSub,reduceLT,reduceLeDiff,reduceMul,reduceEqDiff,reduceIte]))
  all_goals exact Frz.eq (congrArg bl (decide_eq_decide.2 (by omega))) (by simp)
theorem brief_spec (l:List Sp):Pure Tryz.prog 24 [spS l] (bl (decide (l.length≤12∨64 < l.length∧l.length≤128))):=by
  refine Pure.of_body Tryz.call24 Tryz.func24 k24 (Nat.le_of_ble_eq_true rfl) ?_
  unfold c24
  (repeat' ((first
 | refine vn rfl ?_
 | simp (disch:=omega) only [wr64,Int.zero_sub]
 | refine bo (fun _=>?_) fun _=>?_
 | refine im fun _=>?_
 | refine cF ?_
 | refine om ?_
 | refine an ?_
 | fail) <;> try simp only [zT,zV,zS,zU,vcC,lateX,ex,strp,binA,elems,cells,scalar,eqC,keyA,intsA,lookA,ofVs,mpOf,Nat.reduceBEq,reduceAdd,reduceSub,reduceLT,reduceLeDiff,reduceMul,reduceEqDiff,reduceIte]))
  all_goals exact Frz.eq (congrArg bl (decide_eq_decide.2 (by omega))) (by simp)
theorem SameSpans_spec (a b:List Sp) (ha:a.length < 9223372036854775808) (hb:b.length < 9223372036854775808):Pure Tryz.prog 28 [spS a,spS b] (bl (decide (a=b))):=by
  refine Pure.of_body Tryz.call28 Tryz.func28 k28 (Nat.le_of_ble_eq_true rfl) ?_
  unfold c28
  (repeat' ((first
 | refine vn rfl ?_
 | simp (disch:=omega) only [wr64,Int.zero_sub]
 | refine bo (fun _=>?_) fun _=>?_
 | refine im fun _=>?_
 | refine cF ?_
 | refine om ?_
 | refine an ?_
 | fail) <;> try simp only [zT,zV,zS,zU,vcC,lateX,ex,strp,binA,elems,cells,scalar,eqC,keyA,intsA,lookA,ofVs,mpOf,Nat.reduceBEq,reduceAdd,reduceSub,reduceLT,reduceLeDiff,reduceMul,reduceEqDiff,reduceIte]))
  · rename_i h
    refine Frz.eq ?_ (by simp)
    rw [decide_eq_false (fun e=>by rw [e] at h; simp at h)]
  · rename_i h
    have hlen:a.length=b.length:=by omega
    refine AWPC.loopI 5 a.length (fun i=>a.take i=b.take i) (by simp) ?_ ?_
    · (simp only [zT,zV,zS,zU,vcC,lateX,ex,strp,binA,elems,cells,scalar,eqC,keyA,intsA,lookA,ofVs,mpOf,Nat.reduceBEq,reduceAdd,reduceSub,reduceLT,reduceLeDiff,reduceMul,reduceEqDiff,reduceIte]; try simp)
    · intro i hi hI
      by_cases hlt:i < a.length
      · obtain ⟨s,hs⟩:∃ s,a[i]?=some s:=⟨_,List.getElem?_eq_getElem hlt⟩
        obtain ⟨t,ht⟩:∃ t,b[i]?=some t:=⟨_,List.getElem?_eq_getElem (by omega)⟩
        (repeat' ((first
 | refine vn rfl ?_
 | simp (disch:=omega) only [wr64,Int.zero_sub]
 | refine bo (fun _=>?_) fun _=>?_
 | refine im fun _=>?_
 | refine cF ?_
 | refine om ?_
 | refine an ?_
 | fail) <;> try simp only [zT, zV, zS, zU, vcC, lateX, ex, strp, binA, elems, cells, scalar, eqC, keyA, intsA, lookA, ofVs, mpOf, Nat.reduceBEq, reduceAdd, reduceSub, reduceLT, reduceLeDiff, reduceMul, reduceEqDiff, reduceIte, getD_map hs, getD_map ht]))
        all_goals try (exfalso; omega)
        · rename_i h2
          refine Frz.eq ?_ (by simp)
          rw [decide_eq_false (fun e=>by subst e; rw [hs] at ht; injection ht with ht; subst ht; simp at h2)]
        · rename_i h2
          obtain ⟨s1,s2⟩:=s
          obtain ⟨t1,t2⟩:=t
          simp only at h2
          obtain ⟨rfl,rfl⟩:=h2
          exact ⟨⟨i+1,hlt,by rw [List.take_add_one,List.take_add_one,hI,hs,ht]⟩,by simp,by simp only; omega⟩
      · obtain rfl:i=a.length:=by omega
        (repeat' ((first
 | refine vn rfl ?_
 | simp (disch:=omega) only [wr64,Int.zero_sub]
 | refine bo (fun _=>?_) fun _=>?_
 | refine im fun _=>?_
 | refine cF ?_
 | refine om ?_
 | refine an ?_
 | fail) <;> try simp only [zT, zV, zS, zU, vcC, lateX, ex, strp, binA, elems, cells, scalar, eqC, keyA, intsA, lookA, ofVs, mpOf, Nat.reduceBEq, reduceAdd, reduceSub, reduceLT, reduceLeDiff, reduceMul, reduceEqDiff, reduceIte]))
        all_goals try (exfalso; omega)
        rw [List.take_length,hlen,List.take_length] at hI
        rw [decide_eq_true hI]
        exact Frz.eq rfl (by simp)
theorem In_spec (l:List Sp) (v:Int) (hl:l.length < 9223372036854775808):Pure Tryz.prog 29 [spS l,n v] (bl (tr (Mem v l))):=by
  refine Pure.of_body Tryz.call29 Tryz.func29 k29 (Nat.le_of_ble_eq_true rfl) ?_
  unfold c29
  (repeat' ((first
 | refine vn rfl ?_
 | simp (disch:=omega) only [wr64,Int.zero_sub]
 | refine bo (fun _=>?_) fun _=>?_
 | refine im fun _=>?_
 | refine cF ?_
 | refine om ?_
 | refine an ?_
 | fail) <;> try simp only [zT,zV,zS,zU,vcC,lateX,ex,strp,binA,elems,cells,scalar,eqC,keyA,intsA,lookA,ofVs,mpOf,Nat.reduceBEq,reduceAdd,reduceSub,reduceLT,reduceLeDiff,reduceMul,reduceEqDiff,reduceIte]))
  refine AWPC.loopI 5 l.length (fun i=>¬ Mem v (l.take i)) (by simp [Mem]) ?_ ?_
  · (simp only [zT,zV,zS,zU,vcC,lateX,ex,strp,binA,elems,cells,scalar,eqC,keyA,intsA,lookA,ofVs,mpOf,Nat.reduceBEq,reduceAdd,reduceSub,reduceLT,reduceLeDiff,reduceMul,reduceEqDiff,reduceIte]; try simp)
  · intro i hi hI
    by_cases hlt:i < l.length
    · obtain ⟨s,hs⟩:∃ s,l[i]?=some s:=⟨_,List.getElem?_eq_getElem hlt⟩
      (repeat' ((first
 | refine vn rfl ?_
 | simp (disch:=omega) only [wr64,Int.zero_sub]
 | refine bo (fun _=>?_) fun _=>?_
 | refine im fun _=>?_
 | ((repeat refine si ?_); (first | ((first | refine .inl ⟨_,_,_,_,rfl,fun _=>pu (within_spec _ _ _),?_⟩ | refine ⟨_,_,_,_,rfl,fun _=>pu (within_spec _ _ _),?_⟩); (first | refine o1 ?_ | refine o2 ?_ | refine o3 ?_ | refine o4 ?_)) | refine .inl ⟨_,_,_,_,rfl,pu (within_spec _ _ _),?_⟩))
 | refine cF ?_
 | refine om ?_
 | refine an ?_
 | fail) <;> try simp only [zT,zV,zS,zU,vcC,lateX,ex,strp,binA,elems,cells,scalar,eqC,keyA,intsA,lookA,ofVs,mpOf,Nat.reduceBEq,reduceAdd,reduceSub,reduceLT,reduceLeDiff,reduceMul,reduceEqDiff,reduceIte,getD_map hs]))
      all_goals try (exfalso; omega)
      · rename_i h2
        refine Frz.eq ?_ (by simp)
        rw [tr_1 ⟨s,List.mem_of_getElem? hs,h2⟩]
      · rename_i h2
        refine ⟨⟨i+1,hlt,?_⟩,by simp,by simp only; omega⟩
        rw [List.take_add_one,hs]
        rintro ⟨t,ht,h3⟩
        rcases List.mem_append.1 ht with ht | ht
        · exact hI ⟨t,ht,h3⟩
        · obtain rfl:t=s:=by simpa using ht
          exact h2 h3
    · obtain rfl:i=l.length:=by omega
      (repeat' ((first
 | refine vn rfl ?_
 | simp (disch:=omega) only [wr64,Int.zero_sub]
 | refine bo (fun _=>?_) fun _=>?_
 | refine im fun _=>?_
 | refine cF ?_
 | refine om ?_
 | refine an ?_
 | fail) <;> try simp only [zT,zV,zS,zU,vcC,lateX,ex,strp,binA,elems,cells,scalar,eqC,keyA,intsA,lookA,ofVs,mpOf,Nat.reduceBEq,reduceAdd,reduceSub,reduceLT,reduceLeDiff,reduceMul,reduceEqDiff,reduceIte]))
      all_goals try (exfalso; omega)
      rw [List.take_length] at hI
      rw [tr_0 hI]
      exact Frz.eq rfl (by simp)
def c93:CF:=⟨4,
 (.seq (.ops [
 ⟨some 1,.box false 45 1 (.t 0),none⟩,
 ⟨some 2,.mv (.c (.nilFunc)),none⟩] [1])
 (.seq (.ops [
 ⟨some 3,.mkfn (.func 144) [] [(.t 1)],none⟩,
 ⟨some 2,.mv (.t 3),none⟩] [2])
 .ret)),
 [.t 2]⟩
def c144:CF:=⟨16,
 (.seq (.ops [
 ⟨some 5,.load none (.t 1),none⟩,
 ⟨some 6,.len (.t 5),none⟩,
 ⟨some 7,.mv (.c (.int .i64 0)),none⟩] [0,5,6,7])
 (.block 0 (.loop (.seq (.ops [
 ⟨some 8,.bin .lss (.t 7) (.t 6),none⟩] [0,5,6,7,8])
 (.seq (.cond (.t 8) .skip
 (.exit 0))
 (.seq (.block 1 (.seq (.ops [
 ⟨some 9,.iaddr 2 (.t 5) (.t 7),none⟩,
 ⟨some 10,.load (some 2) (.t 9),none⟩,
 ⟨some 4,.alloc 30 2 [.int .i64 0,.int .i64 0],none⟩,
 ⟨none,.store 2 (.t 4) (.t 10),none⟩] [0,4,5,6,7])
 (.seq (.ops [
 ⟨some 11,.mv (.t 0),none⟩,
 ⟨some 12,.load (some 2) (.t 4),none⟩,
 ⟨some 13,.call (.t 11) [(.t 12)],none⟩,
 ⟨some 14,.un .not (.t 13),none⟩] [0,5,6,7,14])
 (.cond (.t 14) .ret
 .skip))))
 (.ops [
 ⟨some 15,.bin .add (.t 7) (.c (.int .i64 1)),none⟩,
 ⟨some 7,.mv (.t 15),none⟩] [0,5,6,7]))))))),
 []⟩
def c141:CF:=⟨6,
 (.seq (.ops [
 ⟨some 2,.box false 45 1 (.t 0),none⟩,
 ⟨some 3,.box false 45 1 (.t 1),none⟩,
 ⟨some 4,.mv (.c (.nilFunc)),none⟩] [2,3])
 (.seq (.ops [
 ⟨some 5,.mkfn (.func 168) [] [(.t 2),(.t 3)],none⟩,
 ⟨some 4,.mv (.t 5),none⟩] [4])
 .ret)),
 [.t 4]⟩
def c168:CF:=⟨66,
 (.seq (.ops [
 ⟨some 4,.mv (.c (.int .i64 0)),none⟩,
 ⟨some 5,.mv (.c (.int .i64 0)),none⟩] [0,1,2,4,5])
 (.block 0 (.loop (.seq (.seq (.ops [
 ⟨some 7,.mv (.t 4),none⟩,
 ⟨some 8,.load none (.t 1),none⟩,
 ⟨some 9,.len (.t 8),none⟩,
 ⟨some 10,.bin .lss (.t 7) (.t 9),none⟩,
 ⟨some 11,.mv (.t 10),none⟩,
 ⟨some 12,.mv (.t 5),some (11,true)⟩,
 ⟨some 13,.load none (.t 2),some (11,true)⟩,
 ⟨some 14,.len (.t 13),some (11,true)⟩,
 ⟨some 15,.bin .lss (.t 12) (.t 14),some (11,true)⟩,
 ⟨some 16,.pick (.t 11) (.t 15) (.c (.bool false)),none⟩] [0,1,2,4,5,16])
 (.cond (.t 16) .skip
 (.exit 0)))
 (.block 1 (.seq (.draw [
 ⟨some 17,.load none (.t 1),none⟩,
 ⟨some 18,.mv (.t 4),none⟩,
 ⟨some 19,.iaddr 2 (.t 17) (.t 18),none⟩,
 ⟨some 20,.faddr 0 (.t 19),none⟩,
 ⟨some 21,.load none (.t 20),none⟩,
 ⟨some 22,.load none (.t 2),none⟩,
 ⟨some 23,.mv (.t 5),none⟩,
 ⟨some 24,.iaddr 2 (.t 22) (.t 23),none⟩,
 ⟨some 25,.faddr 0 (.t 24),none⟩,
 ⟨some 26,.load none (.t 25),none⟩,
 ⟨some 27,.mnx true (.t 21) (.t 26),none⟩,
 ⟨some 28,.load none (.t 1),none⟩,
 ⟨some 29,.mv (.t 4),none⟩,
 ⟨some 30,.iaddr 2 (.t 28) (.t 29),none⟩,
 ⟨some 31,.faddr 1 (.t 30),none⟩,
 ⟨some 32,.load none (.t 31),none⟩,
 ⟨some 33,.load none (.t 2),none⟩,
 ⟨some 34,.mv (.t 5),none⟩,
 ⟨some 35,.iaddr 2 (.t 33) (.t 34),none⟩,
 ⟨some 36,.faddr 1 (.t 35),none⟩,
 ⟨some 37,.load none (.t 36),none⟩,
 ⟨some 38,.mnx false (.t 32) (.t 37),none⟩,
 ⟨some 39,.build [.int .i64 0,.int .i64 0] [(0,1,(.t 27)),(1,1,(.t 38))],none⟩,
 ⟨some 6,.alloc 30 2 [.int .i64 0,.int .i64 0],none⟩] [
 ⟨none,.store 2 (.t 6) (.t 39),none⟩] [0,1,2,4,5,6])
 (.seq (.seq (.ops [
 ⟨some 40,.faddr 0 (.t 6),none⟩,
 ⟨some 41,.load none (.t 40),none⟩,
 ⟨some 42,.faddr 1 (.t 6),none⟩,
 ⟨some 43,.load none (.t 42),none⟩,
 ⟨some 44,.bin .leq (.t 41) (.t 43),none⟩,
 ⟨some 45,.mv (.t 44),none⟩,
 ⟨some 46,.mv (.t 0),some (45,true)⟩,
 ⟨some 47,.load (some 2) (.t 6),some (45,true)⟩,
 ⟨some 48,.call (.t 46) [(.t 47)],some (45,true)⟩,
 ⟨some 49,.un .not (.t 48),some (45,true)⟩,
 ⟨some 50,.pick (.t 45) (.t 49) (.c (.bool false)),none⟩] [0,1,2,4,5,50])
 (.cond (.t 50) .ret
 .skip))
 (.seq (.draw [
 ⟨some 51,.load none (.t 1),none⟩,
 ⟨some 52,.mv (.t 4),none⟩,
 ⟨some 53,.iaddr 2 (.t 51) (.t 52),none⟩,
 ⟨some 54,.faddr 1 (.t 53),none⟩,
 ⟨some 55,.load none (.t 54),none⟩,
 ⟨some 56,.load none (.t 2),none⟩,
 ⟨some 57,.mv (.t 5),none⟩,
 ⟨some 58,.iaddr 2 (.t 56) (.t 57),none⟩,
 ⟨some 59,.faddr 1 (.t 58),none⟩,
 ⟨some 60,.load none (.t 59),none⟩,
 ⟨some 61,.bin .lss (.t 55) (.t 60),none⟩] [
 ] [0,1,2,4,5,61])
 (.cond (.t 61) (.ops [
 ⟨some 62,.mv (.t 4),none⟩,
 ⟨some 63,.bin .add (.t 62) (.c (.int .i64 1)),none⟩,
 ⟨some 4,.mv (.t 63),none⟩] [0,1,2,4,5])
 (.ops [
 ⟨some 64,.mv (.t 5),none⟩,
 ⟨some 65,.bin .add (.t 64) (.c (.int .i64 1)),none⟩,
 ⟨some 5,.mv (.t 65),none⟩] [0,1,2,4,5])))))))))),
 []⟩
def c140:CF:=⟨5,
 (.seq (.ops [
 ⟨some 2,.mv (.c (.slice none 0 0)),none⟩] [0])
 (.seq (.ops [
 ⟨some 3,.mv (.t 0),none⟩,
 ⟨some 4,.call (.f 167) [(.c (.slice none 0 0)),(.t 3)],none⟩,
 ⟨some 2,.mv (.t 4),none⟩] [2])
 .ret)),
 [.t 2]⟩
def c167:CF:=⟨13,
 (.seq (.ops [
 ⟨some 2,.box true 45 1 (.t 0),none⟩,
 ⟨some 4,.mv (.c (.slice none 0 0)),none⟩] [1,2])
 (.seq (.seq (.ops [
 ⟨some 6,.mv (.t 1),none⟩] [2,6])
 (.block 0 (.rng (.t 6) [7] (.ops [
 ⟨some 5,.alloc 30 2 [.int .i64 0,.int .i64 0],none⟩,
 ⟨none,.store 2 (.t 5) (.t 7),none⟩] [2,5])
 (.block 1 (.ops [
 ⟨some 8,.load none (.t 2),none⟩,
 ⟨some 9,.load (some 2) (.t 5),none⟩,
 ⟨some 10,.bsl false 30 2 1 [.int .i64 0,.int .i64 0] [(0,2,(.t 9))],none⟩,
 ⟨some 11,.app 30 2 16 (.t 8) (.t 10),none⟩,
 ⟨none,.store 1 (.t 2) (.t 11),none⟩] [2])))))
 (.seq (.ops [
 ⟨some 12,.load none (.t 2),none⟩,
 ⟨some 4,.mv (.t 12),none⟩] [4])
 .ret))),
 [.t 4]⟩
def c81:CF:=⟨9,
 (.seq (.ops [
 ⟨some 4,.mv (.c (.slice none 0 0)),none⟩] [0,1])
 (.seq (.ops [
 ⟨some 5,.mv (.t 0),none⟩,
 ⟨some 6,.mv (.t 1),none⟩,
 ⟨some 7,.call (.f 141) [(.t 5),(.t 6)],none⟩,
 ⟨some 8,.call (.f 140) [(.t 7)],none⟩,
 ⟨some 4,.mv (.t 8),none⟩] [4])
 .ret)),
 [.t 4]⟩
theorem k93:chkF Tryz.prog Tryz.f93 c93=true:=by kernel_rfl
theorem k144:chkF Tryz.prog Tryz.f144 c144=true:=by kernel_rfl
theorem k141:chkF Tryz.prog Tryz.f141 c141=true:=by kernel_rfl
theorem k168:chkF Tryz.prog Tryz.f168 c168=true:=by kernel_rfl
theorem k140:chkF Tryz.prog Tryz.f140 c140=true:=by kernel_rfl
theorem k167:chkF Tryz.prog Tryz.f167 c167=true:=by kernel_rfl
theorem k81:chkF Tryz.prog Tryz.f81 c81=true:=by kernel_rfl
abbrev rds (l:List Sp):List (List AV):=l.map fun s=>[.agg s.cs]
theorem rds_get {l:List Sp} {i:Nat} {s:Sp} (h:l[i]?=some s):(rds l)[i]?=some [.agg s.cs]:=by simp [rds,h]
inductive Done (C:Nat) (J:Nat→Sto→Prop) (D:Sto→Prop) (m:Nat) (σ2:Sto):Prop
  | mk (τ ν:Sto) (h:σ2=τ++ν) (hl:τ.length=C) (hj:J m τ∨D τ)
theorem Done.out {C:Nat} {J:Nat→Sto→Prop} {D:Sto→Prop} {m:Nat} {σ2:Sto}:Done C J D m σ2→∃ τ ν,σ2=τ++ν∧τ.length=C∧(J m τ∨D τ)
  | ⟨τ,ν,h,hl,hj⟩=>⟨τ,ν,h,hl,hj⟩
theorem values_iter (l:List Sp) (hl:l.length < 9223372036854775808):Iter Tryz.prog 144 [] [.iptr [spS l] 0] (rds l):=by
  refine ⟨Tryz.call144,fun C y J D σ hy hC hJ hyield=>?_⟩
  refine Does.mono (R:=fun _ σ2=>Done C J D (rds l).length σ2) ?_ fun _ _ h=>h.out
  refine Does.of_body Tryz.call144 Tryz.func144 k144 (Nat.le_of_ble_eq_true rfl) ?_
  unfold c144
  (repeat' ((first
 | refine vn rfl ?_
 | simp (disch:=omega) only [wr64,Int.zero_sub]
 | refine bo (fun _=>?_) fun _=>?_
 | refine im fun _=>?_
 | refine cF ?_
 | refine om ?_
 | refine an ?_
 | fail) <;> try simp only [zT,zV,zS,zU,vcC,lateX,ex,strp,binA,elems,cells,scalar,eqC,keyA,intsA,lookA,ofVs,mpOf,Nat.reduceBEq,reduceAdd,reduceSub,reduceLT,reduceLeDiff,reduceMul,reduceEqDiff,reduceIte]))
  refine AWPC.loopE (α:={ x:Nat × Sto × Sto // x.1≤l.length∧x.2.1.length=C∧J x.1 x.2.1 }) [7] (fun x=>[(7,n x.1.1)]) (fun x=>x.1.2.1++x.1.2.2) (fun x=>l.length - x.1.1) ⟨(0,σ,[]),by simp,hC,hJ⟩ ?_ ?_ ?_
  · (simp only [zT,zV,zS,zU,vcC,lateX,ex,strp,binA,elems,cells,scalar,eqC,keyA,intsA,lookA,ofVs,mpOf,Nat.reduceBEq,reduceAdd,reduceSub,reduceLT,reduceLeDiff,reduceMul,reduceEqDiff,reduceIte]; try simp)
  · simp
  · rintro ⟨⟨k,τ,ν⟩,hk,hτ,hJk⟩
    simp only at hk hτ hJk
    by_cases hlt:k < l.length
    · obtain ⟨s,hs⟩:∃ s,l[k]?=some s:=⟨_,List.getElem?_eq_getElem hlt⟩
      (repeat' ((first
 | refine vn rfl ?_
 | simp (disch:=omega) only [wr64,Int.zero_sub]
 | refine bo (fun _=>?_) fun _=>?_
 | refine im fun _=>?_
 | refine cF ?_
 | refine om ?_
 | refine an ?_
 | fail) <;> try simp only [zT,zV,zS,zU,vcC,lateX,ex,strp,binA,elems,cells,scalar,eqC,keyA,intsA,lookA,ofVs,mpOf,Nat.reduceBEq,reduceAdd,reduceSub,reduceLT,reduceLeDiff,reduceMul,reduceEqDiff,reduceIte,getD_map hs,List.append_assoc]))
      all_goals try (exfalso; omega)
      refine .inr (.inr ⟨y,_,rfl,fun _=>⟨hyield k _ τ _ (rds_get hs) hτ hJk,?_⟩,fun h=>by cases h⟩)
      rintro b σ' ⟨τ',ν',rfl,hτ',hb1,hb2⟩
      refine owp_of_exs ?_
      simp only [zT,zV,zS,zU,vcC,lateX,ex,strp,binA,elems,cells,scalar,eqC,keyA,intsA,lookA,ofVs,mpOf,Nat.reduceBEq,reduceAdd,reduceSub,reduceLT,reduceLeDiff,reduceMul,reduceEqDiff,reduceIte]
      cases b with
      | false =>
        (repeat' ((first
 | refine vn rfl ?_
 | simp (disch:=omega) only [wr64,Int.zero_sub]
 | refine bo (fun _=>?_) fun _=>?_
 | refine im fun _=>?_
 | refine cF ?_
 | refine om ?_
 | refine an ?_
 | fail) <;> try simp only [zT, zV, zS, zU, vcC, lateX, ex, strp, binA, elems, cells, scalar, eqC, keyA, intsA, lookA, ofVs, mpOf, Nat.reduceBEq, reduceAdd, reduceSub, reduceLT, reduceLeDiff, reduceMul, reduceEqDiff, reduceIte]))
        exact Done.mk τ' _ rfl hτ' (.inr (hb2 rfl))
      | true =>
        (repeat' ((first
 | refine vn rfl ?_
 | simp (disch:=omega) only [wr64,Int.zero_sub]
 | refine bo (fun _=>?_) fun _=>?_
 | refine im fun _=>?_
 | refine cF ?_
 | refine om ?_
 | refine an ?_
 | fail) <;> try simp only [zT, zV, zS, zU, vcC, lateX, ex, strp, binA, elems, cells, scalar, eqC, keyA, intsA, lookA, ofVs, mpOf, Nat.reduceBEq, reduceAdd, reduceSub, reduceLT, reduceLeDiff, reduceMul, reduceEqDiff, reduceIte]))
        exact ⟨⟨(k+1,τ',_),hlt,hτ',hb1 rfl⟩,by simp,rfl,by simp only; omega⟩
    · obtain rfl:k=l.length:=by omega
      (repeat' ((first
 | refine vn rfl ?_
 | simp (disch:=omega) only [wr64,Int.zero_sub]
 | refine bo (fun _=>?_) fun _=>?_
 | refine im fun _=>?_
 | refine cF ?_
 | refine om ?_
 | refine an ?_
 | fail) <;> try simp only [zT,zV,zS,zU,vcC,lateX,ex,strp,binA,elems,cells,scalar,eqC,keyA,intsA,lookA,ofVs,mpOf,Nat.reduceBEq,reduceAdd,reduceSub,reduceLT,reduceLeDiff,reduceMul,reduceEqDiff,reduceIte]))
      all_goals try (exfalso; omega)
      exact Done.mk τ _ rfl hτ (.inl (by simpa using hJk))
theorem comm_nil {a b:List Sp} (h:a=[]∨b=[]):comm a b=[]:=by
  rcases h with rfl | rfl
  · rw [comm]
  · cases a <;> rw [comm]
theorem comm_cons (s t:Sp) (a b:List Sp):comm (s::a) (t::b)=(if (s.cap t).lo≤(s.cap t).hi then [s.cap t] else [])++(if s.hi < t.hi then comm a (t::b) else comm (s::a) b):=by rw [comm]
theorem drop_next {α:Type} {l r:List α} {m:Nat} {x:α} (h:l.drop m=x::r):l[m]?=some x∧l.drop (m+1)=r:=by
  have h1:(l.drop m)[0]?=some x:=by rw [h]; rfl
  rw [List.getElem?_drop,Nat.add_zero] at h1
  refine ⟨h1,?_⟩
  have:=congrArg List.tail h
  simpa using this
theorem common_iter (a b:List Sp) (ha:a.length < 9223372036854775808) (hb:b.length < 9223372036854775808):Iter Tryz.prog 168 [] [.iptr [spS a] 0,.iptr [spS b] 0] (rds (comm a b)):=by
  refine ⟨Tryz.call168,fun C y J D σ hy hC hJ hyield=>?_⟩
  refine Does.mono (R:=fun _ σ2=>Done C J D (rds (comm a b)).length σ2) ?_ fun _ _ h=>h.out
  refine Does.of_body Tryz.call168 Tryz.func168 k168 (Nat.le_of_ble_eq_true rfl) ?_
  unfold c168
  (repeat' ((first
 | refine vn rfl ?_
 | simp (disch:=omega) only [wr64,Int.zero_sub]
 | refine bo (fun _=>?_) fun _=>?_
 | refine im fun _=>?_
 | refine cF ?_
 | refine om ?_
 | refine an ?_
 | fail) <;> try simp only [zT,zV,zS,zU,vcC,lateX,ex,strp,binA,elems,cells,scalar,eqC,keyA,intsA,lookA,ofVs,mpOf,Nat.reduceBEq,reduceAdd,reduceSub,reduceLT,reduceLeDiff,reduceMul,reduceEqDiff,reduceIte]))
  refine AWPC.loopE (α:={ x:Nat × Nat × Nat × Sto × Sto // x.1≤a.length∧x.2.1≤b.length∧(comm a b).drop x.2.2.1=comm (a.drop x.1) (b.drop x.2.1)∧x.2.2.1≤(comm a b).length∧x.2.2.2.1.length=C∧J x.2.2.1 x.2.2.2.1 }) [4,5]
    (fun x=>[(4,n x.1.1),(5,n x.1.2.1)]) (fun x=>x.1.2.2.2.1++x.1.2.2.2.2) (fun x=>(a.length - x.1.1)+(b.length - x.1.2.1)) ⟨(0,0,0,σ,[]),by simp,by simp,by simp,by simp,hC,hJ⟩ ?_ ?_ ?_
  · (simp only [zT,zV,zS,zU,vcC,lateX,ex,strp,binA,elems,cells,scalar,eqC,keyA,intsA,lookA,ofVs,mpOf,Nat.reduceBEq,reduceAdd,reduceSub,reduceLT,reduceLeDiff,reduceMul,reduceEqDiff,reduceIte]; try simp)
  · simp
  · rintro ⟨⟨i,k,m,τ,ν⟩,hi,hk,hd,hm,hτ,hJm⟩
    simp only at hi hk hd hm hτ hJm
    by_cases hlt:i < a.length∧k < b.length
    · obtain ⟨hia,hkb⟩:=hlt
      obtain ⟨s,hs⟩:∃ s,a[i]?=some s:=⟨_,List.getElem?_eq_getElem hia⟩
      obtain ⟨t,ht⟩:∃ t,b[k]?=some t:=⟨_,List.getElem?_eq_getElem hkb⟩
      rw [drop_cons hs,drop_cons ht,comm_cons] at hd
      have hnxt:∀ m',(comm a b).drop m'=(if s.hi < t.hi then comm (a.drop (i+1)) (t::b.drop (k+1)) else comm (s::a.drop (i+1)) (b.drop (k+1))) →
          (s.hi < t.hi→(comm a b).drop m'=comm (a.drop (i+1)) (b.drop k))∧(¬ s.hi < t.hi→(comm a b).drop m'=comm (a.drop i) (b.drop (k+1))):=fun m' h =>
        ⟨fun hc=>by rw [h,if_pos hc,drop_cons ht],fun hc=>by rw [h,if_neg hc,drop_cons hs]⟩
      have hs1:Sto.at (τ++(ν++[some [⟨30,2,[(s.cap t).cs],none⟩]])) (List.length τ+List.length ν) 0=some ⟨30,2,[(s.cap t).cs],none⟩:=by rw [at_app,at_app0]; rfl
      by_cases hc:(s.cap t).lo≤(s.cap t).hi
      · rw [if_pos hc] at hd
        obtain ⟨hx,hd'⟩:=drop_next hd
        have hn:=hnxt _ hd'
        have hm1:=(List.getElem?_eq_some_iff.1 hx).1
        (repeat' ((first
 | refine vn rfl ?_
 | simp (disch:=omega) only [wr64,Int.zero_sub]
 | refine bo (fun _=>?_) fun _=>?_
 | refine im fun _=>?_
 | refine cF ?_
 | refine om ?_
 | refine an ?_
 | fail) <;> try simp only [zT, zV, zS, zU, vcC, lateX, ex, strp, binA, elems, cells, scalar, eqC, keyA, intsA, lookA, ofVs, mpOf, Nat.reduceBEq, reduceAdd, reduceSub, reduceLT, reduceLeDiff, reduceMul, reduceEqDiff, reduceIte, getD_map hs, getD_map ht, List.append_assoc]))
        all_goals try (exfalso; omega)
        refine .inr (.inr ⟨y,_,rfl,fun _=>⟨hyield m _ τ _ (rds_get hx) hτ hJm,?_⟩,fun h=>absurd hc (of_decide_eq_false h)⟩)
        rintro b σ' ⟨τ',ν',rfl,hτ',hb1,hb2⟩
        refine owp_of_exs ?_
        have hdt:decide ((s.cap t).lo≤(s.cap t).hi)=true:=decide_eq_true hc
        simp only [hdt]
        simp only [zT,zV,zS,zU,vcC,lateX,ex,strp,binA,elems,cells,scalar,eqC,keyA,intsA,lookA,ofVs,mpOf,Nat.reduceBEq,reduceAdd,reduceSub,reduceLT,reduceLeDiff,reduceMul,reduceEqDiff,reduceIte]
        cases b with
        | false =>
          (repeat' ((first
 | refine vn rfl ?_
 | simp (disch:=omega) only [wr64,Int.zero_sub]
 | refine bo (fun _=>?_) fun _=>?_
 | refine im fun _=>?_
 | refine cF ?_
 | refine om ?_
 | refine an ?_
 | fail) <;> try simp only [zT, zV, zS, zU, vcC, lateX, ex, strp, binA, elems, cells, scalar, eqC, keyA, intsA, lookA, ofVs, mpOf, Nat.reduceBEq, reduceAdd, reduceSub, reduceLT, reduceLeDiff, reduceMul, reduceEqDiff, reduceIte]))
          exact Done.mk τ' _ rfl hτ' (.inr (hb2 rfl))
        | true =>
          (repeat' ((first
 | refine vn rfl ?_
 | simp (disch:=omega) only [wr64,Int.zero_sub]
 | refine bo (fun _=>?_) fun _=>?_
 | refine im fun _=>?_
 | refine cF ?_
 | refine om ?_
 | refine an ?_
 | fail) <;> try simp only [zT, zV, zS, zU, vcC, lateX, ex, strp, binA, elems, cells, scalar, eqC, keyA, intsA, lookA, ofVs, mpOf, Nat.reduceBEq, reduceAdd, reduceSub, reduceLT, reduceLeDiff, reduceMul, reduceEqDiff, reduceIte, getD_map hs, getD_map ht]))
          all_goals try (exfalso; omega)
          · rename_i h9
            exact ⟨⟨(i+1,k,m+1,τ',_),hia,hk,hn.1 h9,hm1,hτ',hb1 rfl⟩,by simp,rfl,by simp only; omega⟩
          · rename_i h9
            exact ⟨⟨(i,k+1,m+1,τ',_),hi,hkb,hn.2 h9,hm1,hτ',hb1 rfl⟩,by simp,rfl,by simp only; omega⟩
      · rw [if_neg hc,List.nil_append] at hd
        have hn:=hnxt _ hd
        (repeat' ((first
 | refine vn rfl ?_
 | simp (disch:=omega) only [wr64,Int.zero_sub]
 | refine bo (fun _=>?_) fun _=>?_
 | refine im fun _=>?_
 | refine cF ?_
 | refine om ?_
 | refine an ?_
 | fail) <;> try simp only [zT, zV, zS, zU, vcC, lateX, ex, strp, binA, elems, cells, scalar, eqC, keyA, intsA, lookA, ofVs, mpOf, Nat.reduceBEq, reduceAdd, reduceSub, reduceLT, reduceLeDiff, reduceMul, reduceEqDiff, reduceIte, getD_map hs, getD_map ht, List.append_assoc]))
        all_goals try (exfalso; omega)
        refine .inr (.inr ⟨y,fun _ _=>False,rfl,fun h=>absurd (of_decide_eq_true h) hc,fun _=>?_⟩)
        refine owp_of_exs ?_
        have hdt:decide ((s.cap t).lo≤(s.cap t).hi)=false:=decide_eq_false hc
        simp only [hdt]
        simp only [zT,zV,zS,zU,vcC,lateX,ex,strp,binA,elems,cells,scalar,eqC,keyA,intsA,lookA,ofVs,mpOf,Nat.reduceBEq,reduceAdd,reduceSub,reduceLT,reduceLeDiff,reduceMul,reduceEqDiff,reduceIte]
        (repeat' ((first
 | refine vn rfl ?_
 | simp (disch:=omega) only [wr64,Int.zero_sub]
 | refine bo (fun _=>?_) fun _=>?_
 | refine im fun _=>?_
 | refine cF ?_
 | refine om ?_
 | refine an ?_
 | fail) <;> try simp only [zT, zV, zS, zU, vcC, lateX, ex, strp, binA, elems, cells, scalar, eqC, keyA, intsA, lookA, ofVs, mpOf, Nat.reduceBEq, reduceAdd, reduceSub, reduceLT, reduceLeDiff, reduceMul, reduceEqDiff, reduceIte, getD_map hs, getD_map ht]))
        all_goals try (exfalso; omega)
        · rename_i h9
          exact ⟨⟨(i+1,k,m,τ,_),hia,hk,hn.1 h9,hm,hτ,hJm⟩,by simp,rfl,by simp only; omega⟩
        · rename_i h9
          exact ⟨⟨(i,k+1,m,τ,_),hi,hkb,hn.2 h9,hm,hτ,hJm⟩,by simp,rfl,by simp only; omega⟩
    · have hnil:comm (a.drop i) (b.drop k)=[]:=comm_nil (by
        rcases Nat.lt_or_ge i a.length with h | h
        · exact .inr (List.drop_eq_nil_of_le (by omega))
        · exact .inl (List.drop_eq_nil_of_le h))
      rw [hnil] at hd
      have:m=(comm a b).length:=by have:=List.drop_eq_nil_iff.1 hd; omega
      subst this
      by_cases hia:i < a.length
      · (repeat' ((first
 | refine vn rfl ?_
 | simp (disch:=omega) only [wr64,Int.zero_sub]
 | refine bo (fun _=>?_) fun _=>?_
 | refine im fun _=>?_
 | refine cF ?_
 | refine om ?_
 | refine an ?_
 | fail) <;> try simp only [zT, zV, zS, zU, vcC, lateX, ex, strp, binA, elems, cells, scalar, eqC, keyA, intsA, lookA, ofVs, mpOf, Nat.reduceBEq, reduceAdd, reduceSub, reduceLT, reduceLeDiff, reduceMul, reduceEqDiff, reduceIte]))
        all_goals try (exfalso; omega)
        exact Done.mk τ _ rfl hτ (.inl (by simpa using hJm))
      · (repeat' ((first
 | refine vn rfl ?_
 | simp (disch:=omega) only [wr64,Int.zero_sub]
 | refine bo (fun _=>?_) fun _=>?_
 | refine im fun _=>?_
 | refine cF ?_
 | refine om ?_
 | refine an ?_
 | fail) <;> try simp only [zT, zV, zS, zU, vcC, lateX, ex, strp, binA, elems, cells, scalar, eqC, keyA, intsA, lookA, ofVs, mpOf, Nat.reduceBEq, reduceAdd, reduceSub, reduceLT, reduceLeDiff, reduceMul, reduceEqDiff, reduceIte]))
        all_goals try (exfalso; omega)
        exact Done.mk τ _ rfl hτ (.inl (by simpa using hJm))
theorem values_spec (l:List Sp):Pure Tryz.prog 93 [spS l] (.fn (.func 144) [] [.iptr [spS l] 0]):=by
  refine Pure.of_body Tryz.call93 Tryz.func93 k93 (Nat.le_of_ble_eq_true rfl) ?_
  unfold c93
  (repeat' ((first
 | refine vn rfl ?_
 | simp (disch:=omega) only [wr64,Int.zero_sub]
 | refine bo (fun _=>?_) fun _=>?_
 | refine im fun _=>?_
 | refine cF ?_
 | refine om ?_
 | refine an ?_
 | fail) <;> try simp only [zT,zV,zS,zU,vcC,lateX,ex,strp,binA,elems,cells,scalar,eqC,keyA,intsA,lookA,ofVs,mpOf,Nat.reduceBEq,reduceAdd,reduceSub,reduceLT,reduceLeDiff,reduceMul,reduceEqDiff,reduceIte]))
  all_goals exact Frz.eq rfl (by simp)
theorem common_spec (a b:List Sp):Pure Tryz.prog 141 [spS a,spS b] (.fn (.func 168) [] [.iptr [spS a] 0,.iptr [spS b] 0]):=by
  refine Pure.of_body Tryz.call141 Tryz.func141 k141 (Nat.le_of_ble_eq_true rfl) ?_
  unfold c141
  (repeat' ((first
 | refine vn rfl ?_
 | simp (disch:=omega) only [wr64,Int.zero_sub]
 | refine bo (fun _=>?_) fun _=>?_
 | refine im fun _=>?_
 | refine cF ?_
 | refine om ?_
 | refine an ?_
 | fail) <;> try simp only [zT,zV,zS,zU,vcC,lateX,ex,strp,binA,elems,cells,scalar,eqC,keyA,intsA,lookA,ofVs,mpOf,Nat.reduceBEq,reduceAdd,reduceSub,reduceLT,reduceLeDiff,reduceMul,reduceEqDiff,reduceIte]))
  all_goals exact Frz.eq rfl (by simp)
inductive OwnR (σ:Sto) (l:List Sp) (r:AV) (σ':Sto):Prop
  | mk (ν:Sto) (g:Nat) (h:σ'=σ++ν) (hr:r=.own g 0 l.length) (hg:σ.length≤g) (ho:σ'.at g 0=some (spO l))
theorem rds_inv {l:List Sp} {k:Nat} {args:List AV} (h:(rds l)[k]?=some args):∃ s,l[k]?=some s∧args=[.agg s.cs]:=by
  simp only [rds,List.getElem?_map,Option.map_eq_some_iff] at h
  obtain ⟨s,hs,rfl⟩:=h
  exact ⟨s,hs,rfl⟩
theorem take_snoc {α:Type} {l:List α} {i:Nat} {s:α} (hs:l[i]?=some s):l.take (i+1)=l.take i++[s]:=by rw [List.take_add_one,hs]; rfl
theorem appendSeq_does (σ:Sto) (it:Nat) (cap:List AV) (l:List Sp) (hl:(l.length:Int) * 16≤140737488355328) (hit:Iter Tryz.prog it [] cap (rds l)) :
    Does Tryz.prog 167 [.v (.slice none 0 0),.fn (.func it) [] cap] σ (OwnR σ l):=by
  refine Does.of_body Tryz.call167 Tryz.func167 k167 (Nat.le_of_ble_eq_true rfl) ?_
  unfold c167
  ((first
 | refine vn rfl ?_
 | simp (disch:=omega) only [wr64,Int.zero_sub]
 | refine bo (fun _=>?_) fun _=>?_
 | refine im fun _=>?_
 | refine cF ?_
 | refine om ?_
 | refine an ?_
 | fail) <;> try simp only [zT,zV,zS,zU,vcC,lateX,ex,strp,binA,elems,cells,scalar,eqC,keyA,intsA,lookA,ofVs,mpOf,Nat.reduceBEq,reduceAdd,reduceSub,reduceLT,reduceLeDiff,reduceMul,reduceEqDiff,reduceIte])
  refine AWPC.own0c 30 2 (f:=σ.length) (i:=0) (e:=0) (j:=0) (by rw [at_app0]; rfl) (by simp) rfl ?_
  rw [show Sto.upd (σ++[some [⟨45,1,[[.v (.slice none 0 0)]],none⟩]]++[some [⟨30,2,[],none⟩]]) σ.length 0 { (⟨45,1,[[.v (.slice none 0 0)]],none⟩:Ob) with es:=[[.v (.slice none 0 0)]].set 0 (([[.v (.slice none 0 0)]].getD 0 []).set 0 (.own (List.length (σ++[some [⟨45,1,[[.v (.slice none 0 0)]],none⟩]])) 0 0)) }=σ++[some [⟨45,1,[[.own (σ.length+1) 0 0]],none⟩],some [spO []]] by
    rw [List.append_assoc,upd_app0]; simp [Sto.upd]]
  (repeat' ((first
 | refine vn rfl ?_
 | simp (disch:=omega) only [wr64,Int.zero_sub]
 | refine bo (fun _=>?_) fun _=>?_
 | refine im fun _=>?_
 | refine cF ?_
 | refine om ?_
 | refine an ?_
 | fail) <;> try simp only [zT,zV,zS,zU,vcC,lateX,ex,strp,binA,elems,cells,scalar,eqC,keyA,intsA,lookA,ofVs,mpOf,Nat.reduceBEq,reduceAdd,reduceSub,reduceLT,reduceLeDiff,reduceMul,reduceEqDiff,reduceIte]))
  refine AWPC.rng (fun k:{ k:Nat // k≤l.length }=>σ++[some [⟨45,1,[[.own (σ.length+1) 0 k.1]],none⟩],some [spO (l.take k.1)]]) (σ.length+2) (fun _=>by simp) (fun k x=>x.1=k) (fun _ _=>False) (rds l) ⟨0,Nat.zero_le _⟩
    rfl (by simp) rfl hit (fun k args h=>?_) (fun k x args ll ρ τ hk hx=>?_) (fun x τ hx=>?_) (fun _ _ _ h=>h.elim)
  · obtain ⟨s,hs,rfl⟩:=rds_inv h
    rfl
  · obtain ⟨x,hxle⟩:=x
    simp only at hx
    subst hx
    obtain ⟨s,hs,rfl⟩:=rds_inv hk
    have hxl:=(List.getElem?_eq_some_iff.1 hs).1
    have htk:=take_snoc hs
    have htl:(l.take x).length=x:=by simp; omega
    have hA:∀ ν:Sto,Sto.at (σ++(some [⟨45,1,[[.own (σ.length+1) 0 x]],none⟩]::some [spO (l.take x)]::ν)) (σ.length+1) 0=some (spO (l.take x)):=fun ν=>by rw [at_app]; rfl
    have hB:∀ (o:Ob) (ν:Sto),Sto.upd (σ++(some [⟨45,1,[[.own (σ.length+1) 0 x]],none⟩]::some [spO (l.take x)]::ν)) (σ.length+1) 0 o=σ++(some [⟨45,1,[[.own (σ.length+1) 0 x]],none⟩]::some [o]::ν):=fun o ν=>by rw [upd_app]; rfl
    have hC:∀ (f:Nat) (ν:Sto),Sto.at (σ++(some [⟨45,1,[[.own (σ.length+1) 0 x]],none⟩]::some [spO (l.take x)]::ν)) (σ.length+(f+2)) 0=Sto.at ν f 0:=fun f ν=>by rw [at_app]; rfl
    simp only [par,List.append_assoc,List.cons_append,List.nil_append]
    (repeat' ((first
 | refine vn rfl ?_
 | simp (disch:=omega) only [wr64,Int.zero_sub]
 | refine bo (fun _=>?_) fun _=>?_
 | refine im fun _=>?_
 | refine cF ?_
 | refine om ?_
 | refine an ?_
 | fail) <;> try simp only [zT,zV,zS,zU,vcC,lateX,ex,strp,binA,elems,cells,scalar,eqC,keyA,intsA,lookA,ofVs,mpOf,Nat.reduceBEq,reduceAdd,reduceSub,reduceLT,reduceLeDiff,reduceMul,reduceEqDiff,reduceIte,List.append_assoc,List.cons_append,List.nil_append]))
    refine ⟨⟨x,hxle⟩,[some [⟨30,2,[s.cs],none⟩]],by simp,fun ρ'=>?_⟩
    simp only [List.append_assoc,List.cons_append,List.nil_append]
    (repeat' ((first
 | refine vn rfl ?_
 | simp (disch:=omega) only [wr64,Int.zero_sub]
 | refine bo (fun _=>?_) fun _=>?_
 | refine im fun _=>?_
 | refine cF ?_
 | refine om ?_
 | refine an ?_
 | fail) <;> try simp only [zT,zV,zS,zU,vcC,lateX,ex,strp,binA,elems,cells,scalar,eqC,keyA,intsA,lookA,ofVs,mpOf,Nat.reduceBEq,reduceAdd,reduceSub,reduceLT,reduceLeDiff,reduceMul,reduceEqDiff,reduceIte,List.append_assoc,List.cons_append,List.nil_append,htl,hA,hB,hC]))
    refine ⟨⟨x+1,hxl⟩,[],?_,rfl⟩
    simp [htk]
  · obtain ⟨x,hxle⟩:=x
    simp only at hx
    subst hx
    have hll:(rds l).length=l.length:=by simp [rds]
    simp only [hll,List.take_length]
    simp only [zT,zV,zS,zU,vcC,lateX,ex,strp,binA,elems,cells,scalar,eqC,keyA,intsA,lookA,ofVs,mpOf,Nat.reduceBEq,reduceAdd,reduceSub,reduceLT,reduceLeDiff,reduceMul,reduceEqDiff,reduceIte]
    (repeat' ((first
 | refine vn rfl ?_
 | simp (disch:=omega) only [wr64,Int.zero_sub]
 | refine bo (fun _=>?_) fun _=>?_
 | refine im fun _=>?_
 | refine cF ?_
 | refine om ?_
 | refine an ?_
 | fail) <;> try simp only [zT,zV,zS,zU,vcC,lateX,ex,strp,binA,elems,cells,scalar,eqC,keyA,intsA,lookA,ofVs,mpOf,Nat.reduceBEq,reduceAdd,reduceSub,reduceLT,reduceLeDiff,reduceMul,reduceEqDiff,reduceIte]))
    exact .mk _ (σ.length+1) rfl rfl (by omega) (by rw [at_app]; rfl)
theorem collect_does (σ:Sto) (it:Nat) (cap:List AV) (l:List Sp) (hl:(l.length:Int) * 16≤140737488355328) (hit:Iter Tryz.prog it [] cap (rds l)) :
    Does Tryz.prog 140 [.fn (.func it) [] cap] σ (OwnR σ l):=by
  refine Does.of_body Tryz.call140 Tryz.func140 k140 (Nat.le_of_ble_eq_true rfl) ?_
  unfold c140
  (repeat' ((first
 | refine vn rfl ?_
 | simp (disch:=omega) only [wr64,Int.zero_sub]
 | refine bo (fun _=>?_) fun _=>?_
 | refine im fun _=>?_
 | refine cF ?_
 | refine om ?_
 | refine an ?_
 | fail) <;> try simp only [zT,zV,zS,zU,vcC,lateX,ex,strp,binA,elems,cells,scalar,eqC,keyA,intsA,lookA,ofVs,mpOf,Nat.reduceBEq,reduceAdd,reduceSub,reduceLT,reduceLeDiff,reduceMul,reduceEqDiff,reduceIte]))
  refine .inr (.inl ⟨_,_,_,_,rfl,fun _=>⟨appendSeq_does σ it cap l hl hit,?_⟩,fun h=>by cases h⟩)
  rintro res σ' ⟨ν,g,rfl,rfl,hg,ho⟩
  refine owp_of_exs ?_
  simp only [zT,zV,zS,zU,vcC,lateX,ex,strp,binA,elems,cells,scalar,eqC,keyA,intsA,lookA,ofVs,mpOf,Nat.reduceBEq,reduceAdd,reduceSub,reduceLT,reduceLeDiff,reduceMul,reduceEqDiff,reduceIte]
  (repeat' ((first
 | refine vn rfl ?_
 | simp (disch:=omega) only [wr64,Int.zero_sub]
 | refine bo (fun _=>?_) fun _=>?_
 | refine im fun _=>?_
 | refine cF ?_
 | refine om ?_
 | refine an ?_
 | fail) <;> try simp only [zT,zV,zS,zU,vcC,lateX,ex,strp,binA,elems,cells,scalar,eqC,keyA,intsA,lookA,ofVs,mpOf,Nat.reduceBEq,reduceAdd,reduceSub,reduceLT,reduceLeDiff,reduceMul,reduceEqDiff,reduceIte]))
  exact .mk ν g rfl rfl hg ho
theorem meet_spec0 (a b:List Sp) (ha:a.length < 9223372036854775808) (hb:b.length < 9223372036854775808) (hl:((comm a b).length:Int) * 16≤140737488355328):Pure Tryz.prog 81 [spS a,spS b] (spS (comm a b)):=by
  refine Pure.of_body Tryz.call81 Tryz.func81 k81 (Nat.le_of_ble_eq_true rfl) ?_
  unfold c81
  (repeat' ((first
 | refine vn rfl ?_
 | simp (disch:=omega) only [wr64,Int.zero_sub]
 | refine bo (fun _=>?_) fun _=>?_
 | refine im fun _=>?_
 | ((repeat refine si ?_); (first | ((first | refine .inl ⟨_,_,_,_,rfl,fun _=>pu (common_spec a b),?_⟩ | refine ⟨_,_,_,_,rfl,fun _=>pu (common_spec a b),?_⟩); (first | refine o1 ?_ | refine o2 ?_ | refine o3 ?_ | refine o4 ?_)) | refine .inl ⟨_,_,_,_,rfl,pu (common_spec a b),?_⟩))
 | refine cF ?_
 | refine om ?_
 | refine an ?_
 | fail) <;> try simp only [zT,zV,zS,zU,vcC,lateX,ex,strp,binA,elems,cells,scalar,eqC,keyA,intsA,lookA,ofVs,mpOf,Nat.reduceBEq,reduceAdd,reduceSub,reduceLT,reduceLeDiff,reduceMul,reduceEqDiff,reduceIte]))
  refine .inr (.inl ⟨_,_,_,_,rfl,fun _=>⟨collect_does [] 168 _ _ hl (common_iter a b ha hb),?_⟩,fun h=>by cases h⟩)
  rintro res σ' ⟨ν,g,rfl,rfl,hg,ho⟩
  refine owp_of_exs ?_
  simp only [zT,zV,zS,zU,vcC,lateX,ex,strp,binA,elems,cells,scalar,eqC,keyA,intsA,lookA,ofVs,mpOf,Nat.reduceBEq,reduceAdd,reduceSub,reduceLT,reduceLeDiff,reduceMul,reduceEqDiff,reduceIte]
  (repeat' ((first
 | refine vn rfl ?_
 | simp (disch:=omega) only [wr64,Int.zero_sub]
 | refine bo (fun _=>?_) fun _=>?_
 | refine im fun _=>?_
 | refine cF ?_
 | refine om ?_
 | refine an ?_
 | fail) <;> try simp only [zT,zV,zS,zU,vcC,lateX,ex,strp,binA,elems,cells,scalar,eqC,keyA,intsA,lookA,ofVs,mpOf,Nat.reduceBEq,reduceAdd,reduceSub,reduceLT,reduceLeDiff,reduceMul,reduceEqDiff,reduceIte]))
  exact frz_sp ho
end Go.Proofs.YtahkhnagpdlkiaaGreat
