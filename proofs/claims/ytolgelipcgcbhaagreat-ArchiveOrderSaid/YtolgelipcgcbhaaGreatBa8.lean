/- Part 8 of the texts that the claim rests on: abstract values over the walk, and contracts of functions. -/
import Derived.Test.YtolgelipcgcbhaaGreatBa7
import Derived.Test.YtolgelipcgcbhaaGreatRows
namespace Go.Proofs.YtolgelipcgcbhaaGreat
open Go.Abs
open Nat (reduceAdd reduceSub reduceLT reduceLeDiff reduceMul reduceEqDiff)
set_option linter.unusedVariables false
set_option linter.unusedSimpArgs false
set_option maxHeartbeats 4000000
set_option maxRecDepth 100000
def c81:CF:=⟨105,
 (.seq (.ops [
 ⟨some 2,.box false 26 6 (.t 0),none⟩,
 ⟨some 3,.box false 27 1 (.t 1),none⟩,
 ⟨some 4,.alloc 37 4 [.slice none 0 0,.slice none 0 0,.slice none 0 0,.slice none 0 0],none⟩] [2,3,4])
 (.seq (.ops [
 ⟨some 10,.load none (.t 3),none⟩,
 ⟨some 11,.call (.f 87) [(.t 10)],none⟩,
 ⟨some 12,.mkmp 2,none⟩,
 ⟨some 13,.mkmp 2,none⟩,
 ⟨some 14,.mkmp 2,none⟩,
 ⟨some 15,.mkmp 2,none⟩,
 ⟨some 16,.mkmp 2,none⟩,
 ⟨some 17,.mkmp 2,none⟩,
 ⟨some 18,.mkmp 2,none⟩,
 ⟨some 19,.build [.map none,.map none,.map none,.map none,.map none,.map none,.map none,.map none,.slice none 0 0,.slice none 0 0,.slice none 0 0,.slice none 0 0] [(0,1,(.t 11)),(1,1,(.t 12)),(2,1,(.t 13)),(3,1,(.t 14)),(4,1,(.t 15)),(5,1,(.t 16)),(6,1,(.t 17)),(7,1,(.t 18))],none⟩,
 ⟨some 5,.alloc 194 12 [.map none,.map none,.map none,.map none,.map none,.map none,.map none,.map none,.slice none 0 0,.slice none 0 0,.slice none 0 0,.slice none 0 0],none⟩,
 ⟨none,.store 12 (.t 5) (.t 19),none⟩] [2,3,4,5])
 (.seq (.ops [
 ⟨some 20,.faddr 0 (.t 2),none⟩,
 ⟨some 21,.load none (.t 20),none⟩,
 ⟨some 22,.call (.f 97) [(.t 21)],none⟩,
 ⟨some 23,.faddr 8 (.t 5),none⟩,
 ⟨some 24,.faddr 2 (.t 23),none⟩,
 ⟨none,.store 1 (.t 24) (.t 22),none⟩] [3,4,5])
 (.seq (.seq (.ops [
 ⟨some 25,.load none (.t 3),none⟩,
 ⟨some 26,.bsl false 3 1 2 [.int .i64 0,.int .i64 0] [(0,1,(.c (.int .i64 1))),(1,1,(.c (.int .i64 3)))],none⟩,
 ⟨some 27,.call (.f 88) [(.t 25),(.t 26)],none⟩] [3,4,5,27])
 (.block 0 (.rng (.t 27) [28] (.ops [
 ⟨some 6,.alloc 68 38 z38,none⟩,
 ⟨none,.store 38 (.t 6) (.t 28),none⟩] [3,4,5,6])
 (.block 1 (.seq (.seq (.ops [
 ⟨some 29,.faddr 4 (.t 6),none⟩,
 ⟨some 30,.load none (.t 29),none⟩,
 ⟨some 31,.bin .eql (.t 30) (.c (.int .i64 3)),none⟩] [3,4,5,6,31])
 (.cond (.t 31) (.seq (.draw [
 ⟨some 32,.faddr 6 (.t 5),none⟩,
 ⟨some 33,.load none (.t 32),none⟩,
 ⟨some 34,.load (some 38) (.t 6),none⟩,
 ⟨some 35,.call (.f 89) [(.t 34)],none⟩,
 ⟨some 36,.faddr 28 (.t 6),none⟩,
 ⟨some 37,.load (some 5) (.t 36),none⟩] [
 ⟨none,.mput 2 (.t 33) (.t 35) (.t 37),none⟩] [3,4,5])
 (.exit 1))
 .skip))
 (.seq (.draw [
 ⟨some 38,.faddr 1 (.t 5),none⟩,
 ⟨some 39,.load none (.t 38),none⟩,
 ⟨some 40,.load (some 38) (.t 6),none⟩,
 ⟨some 41,.call (.f 89) [(.t 40)],none⟩,
 ⟨some 42,.load (some 38) (.t 6),none⟩] [
 ⟨none,.mput 2 (.t 39) (.t 41) (.t 42),none⟩] [3,4,5,6])
 (.draw [
 ⟨some 43,.faddr 2 (.t 5),none⟩,
 ⟨some 44,.load none (.t 43),none⟩,
 ⟨some 45,.load (some 38) (.t 6),none⟩,
 ⟨some 46,.call (.f 89) [(.t 45)],none⟩,
 ⟨some 47,.faddr 5 (.t 6),none⟩,
 ⟨some 48,.load none (.t 47),none⟩,
 ⟨some 49,.faddr 6 (.t 6),none⟩,
 ⟨some 50,.load none (.t 49),none⟩,
 ⟨some 51,.build [.pointer none,.int .i64 0,.int .i64 0] [(1,1,(.t 48)),(2,1,(.t 50))],none⟩] [
 ⟨none,.mput 2 (.t 44) (.t 46) (.t 51),none⟩] [3,4,5])))))))
 (.seq (.ops [
 ⟨some 52,.mkfn (.func 141) [] [(.t 3)],none⟩,
 ⟨some 7,.mv (.t 52),none⟩] [3,4,5,7])
 (.seq (.ops [
 ⟨some 53,.mv (.t 7),none⟩,
 ⟨some 54,.mkfn (.func 142) [(.t 5)] [],none⟩,
 ⟨some 55,.bsl false 3 1 1 [.int .i64 0] [(0,1,(.c (.int .i64 5)))],none⟩,
 ⟨some 56,.call (.t 53) [(.t 54),(.t 55)],none⟩] [3,4,5,7])
 (.seq (.ops [
 ⟨some 57,.mv (.t 7),none⟩,
 ⟨some 58,.mkfn (.func 143) [(.t 5)] [],none⟩,
 ⟨some 59,.bsl false 3 1 1 [.int .i64 0] [(0,1,(.c (.int .i64 2)))],none⟩,
 ⟨some 60,.call (.t 57) [(.t 58),(.t 59)],none⟩] [3,4,5,7])
 (.seq (.ops [
 ⟨some 61,.mv (.t 7),none⟩,
 ⟨some 62,.mkfn (.func 144) [(.t 5)] [],none⟩,
 ⟨some 63,.bsl false 3 1 1 [.int .i64 0] [(0,1,(.c (.int .i64 6)))],none⟩,
 ⟨some 64,.call (.t 61) [(.t 62),(.t 63)],none⟩] [3,4,5,7])
 (.seq (.ops [
 ⟨some 65,.mv (.t 7),none⟩,
 ⟨some 66,.mkfn (.func 145) [(.t 5)] [],none⟩,
 ⟨some 67,.bsl false 3 1 1 [.int .i64 0] [(0,1,(.c (.int .i64 1)))],none⟩,
 ⟨some 68,.call (.t 65) [(.t 66),(.t 67)],none⟩] [3,4,5,7])
 (.seq (.ops [
 ⟨some 69,.mv (.t 7),none⟩,
 ⟨some 70,.mkfn (.func 146) [(.t 5)] [],none⟩,
 ⟨some 71,.bsl false 3 1 1 [.int .i64 0] [(0,1,(.c (.int .i64 4)))],none⟩,
 ⟨some 72,.call (.t 69) [(.t 70),(.t 71)],none⟩] [3,4,5,7])
 (.seq (.ops [
 ⟨some 73,.mv (.t 7),none⟩,
 ⟨some 74,.mkfn (.func 147) [] [(.t 5)],none⟩,
 ⟨some 75,.bsl false 3 1 1 [.int .i64 0] [(0,1,(.c (.int .i64 3)))],none⟩,
 ⟨some 76,.call (.t 73) [(.t 74),(.t 75)],none⟩] [3,4,5])
 (.seq (.seq (.ops [
 ⟨some 77,.load none (.t 3),none⟩,
 ⟨some 78,.len (.t 77),none⟩,
 ⟨some 79,.mv (.c (.int .i64 0)),none⟩] [4,5,77,78,79])
 (.block 2 (.loop (.seq (.ops [
 ⟨some 80,.bin .lss (.t 79) (.t 78),none⟩] [4,5,77,78,79,80])
 (.seq (.cond (.t 80) .skip
 (.exit 2))
 (.seq (.block 3 (.seq (.ops [
 ⟨some 81,.iaddr 38 (.t 77) (.t 79),none⟩,
 ⟨some 82,.load (some 38) (.t 81),none⟩,
 ⟨some 9,.alloc 68 38 z38,none⟩,
 ⟨none,.store 38 (.t 9) (.t 82),none⟩] [4,5,9,77,78,79])
 (.seq (.seq (.ops [
 ⟨some 83,.faddr 4 (.t 9),none⟩,
 ⟨some 84,.load none (.t 83),none⟩,
 ⟨some 85,.bin .eql (.t 84) (.c (.int .i64 7)),none⟩] [4,5,9,77,78,79,85])
 (.cond (.t 85) (.ops [
 ⟨some 86,.load (some 38) (.t 9),none⟩,
 ⟨some 87,.call (.f 148) [(.t 5),(.t 86)],none⟩] [4,5,9,77,78,79])
 .skip))
 (.seq (.draw [
 ⟨some 88,.faddr 7 (.t 5),none⟩,
 ⟨some 89,.load none (.t 88),none⟩,
 ⟨some 90,.load (some 38) (.t 9),none⟩,
 ⟨some 91,.call (.f 89) [(.t 90)],none⟩,
 ⟨some 92,.look 2 false [.bool false] false (.t 89) (.t 91),none⟩] [
 ] [4,5,9,77,78,79,92])
 (.cond (.t 92) (.draw [
 ⟨some 93,.faddr 8 (.t 5),none⟩,
 ⟨some 94,.faddr 3 (.t 93),none⟩,
 ⟨some 95,.load none (.t 94),none⟩,
 ⟨some 96,.load (some 38) (.t 9),none⟩,
 ⟨some 97,.call (.f 89) [(.t 96)],none⟩,
 ⟨some 98,.bsl false 29 2 1 [.int .i64 0,.int .i64 0] [(0,2,(.t 97))],none⟩] [
 ⟨some 99,.app 29 2 16 (.t 95) (.t 98),none⟩,
 ⟨some 100,.faddr 8 (.t 5),none⟩,
 ⟨some 101,.faddr 3 (.t 100),none⟩,
 ⟨none,.store 1 (.t 101) (.t 99),none⟩] [4,5,77,78,79])
 .skip)))))
 (.ops [
 ⟨some 102,.bin .add (.t 79) (.c (.int .i64 1)),none⟩,
 ⟨some 79,.mv (.t 102),none⟩] [4,5,77,78,79])))))))
 (.seq (.ops [
 ⟨some 103,.faddr 8 (.t 5),none⟩,
 ⟨some 104,.load (some 4) (.t 103),none⟩,
 ⟨none,.store 4 (.t 4) (.t 104),none⟩] [4])
 .ret))))))))))))),
 [.c 4 (some 4)]⟩
theorem k81:chkF Tryz.prog Tryz.f81 c81=true:=by kernel_rfl
theorem fold_spec (b:Bse) (l:List Nt) (hl:setSz l) (h400:l.length≤400) (hn:(l.map Nt.nm).Nodup) (hst:b.stns.length * 48≤140737488355328) (hh:∀ s∈b.stns,s.heights.length * 24≤140737488355328)
    (hsh:∀ a∈l,a.kind=1→shtC a.sheet) (h4:∀ a∈l,a.kind≠4):Pure Tryz.prog 81 [.agg b.cs,ntS l] (.agg (foldT b l).cs):=by
  refine Pure.of_body Tryz.call81 Tryz.func81 k81 (Nat.le_of_ble_eq_true rfl) ?_
  unfold c81
  have hb:=byName_spec l hl
  obtain ⟨al,hal⟩:∃ al,al=byName l:=⟨_,rfl⟩
  rw [← hal] at hb
  ((first
 | refine vn rfl ?_
 | simp (disch:=omega) only [wr64,Int.zero_sub]
 | refine bo (fun _=>?_) fun _=>?_
 | refine im fun _=>?_
 | ((repeat refine si ?_); (first | ((first | refine .inl ⟨_,_,_,_,rfl,fun _=>pu hb,?_⟩ | refine ⟨_,_,_,_,rfl,fun _=>pu hb,?_⟩); (first | refine o1 ?_ | refine o2 ?_ | refine o3 ?_ | refine o4 ?_)) | refine .inl ⟨_,_,_,_,rfl,pu hb,?_⟩))
 | refine cF ?_
 | refine om ?_
 | refine an ?_
 | fail) <;> try simp only [zN,zT,zV,zS,zU,vcC,lateX,ex,strp,binA,elems,cells,scalar,eqC,keyA,intsA,lookA,ofVs,mpOf,Nat.reduceBEq,reduceAdd,reduceSub,reduceLT,reduceLeDiff,reduceMul,reduceEqDiff,reduceIte])
  ((first
 | refine vn rfl ?_
 | simp (disch:=omega) only [wr64,Int.zero_sub]
 | refine bo (fun _=>?_) fun _=>?_
 | refine im fun _=>?_
 | ((repeat refine si ?_); (first | ((first | refine .inl ⟨_,_,_,_,rfl,fun _=>pu hb,?_⟩ | refine ⟨_,_,_,_,rfl,fun _=>pu hb,?_⟩); (first | refine o1 ?_ | refine o2 ?_ | refine o3 ?_ | refine o4 ?_)) | refine .inl ⟨_,_,_,_,rfl,pu hb,?_⟩))
 | refine cF ?_
 | refine om ?_
 | refine an ?_
 | fail) <;> try simp only [zN,zT,zV,zS,zU,vcC,lateX,ex,strp,binA,elems,cells,scalar,eqC,keyA,intsA,lookA,ofVs,mpOf,Nat.reduceBEq,reduceAdd,reduceSub,reduceLT,reduceLeDiff,reduceMul,reduceEqDiff,reduceIte])
  ((first
 | refine vn rfl ?_
 | simp (disch:=omega) only [wr64,Int.zero_sub]
 | refine bo (fun _=>?_) fun _=>?_
 | refine im fun _=>?_
 | ((repeat refine si ?_); (first | ((first | refine .inl ⟨_,_,_,_,rfl,fun _=>pu hb,?_⟩ | refine ⟨_,_,_,_,rfl,fun _=>pu hb,?_⟩); (first | refine o1 ?_ | refine o2 ?_ | refine o3 ?_ | refine o4 ?_)) | refine .inl ⟨_,_,_,_,rfl,pu hb,?_⟩))
 | refine cF ?_
 | refine om ?_
 | refine an ?_
 | fail) <;> try simp only [zN,zT,zV,zS,zU,vcC,lateX,ex,strp,binA,elems,cells,scalar,eqC,keyA,intsA,lookA,ofVs,mpOf,Nat.reduceBEq,reduceAdd,reduceSub,reduceLT,reduceLeDiff,reduceMul,reduceEqDiff,reduceIte])
  refine AWPC.own0c 72 24 (f:=8) (i:=0) (e:=0) (j:=8) rfl (by simp) rfl ?_
  refine AWPC.own0c 64 5 (f:=8) (i:=0) (e:=0) (j:=9) rfl (by simp) rfl ?_
  refine AWPC.own0c 29 2 (f:=8) (i:=0) (e:=0) (j:=11) rfl (by simp) rfl ?_
  refine AWPC.own0F 29 2 l.length ?_
  refine AWPC.sto (σ':=[rgO,mpO [],mpO [],mpO [],mpO [],mpO [],mpO [],mpO [],some [⟨194,12,[[alA al,.mp 1,.mp 2,.mp 3,.mp 4,.mp 5,.mp 6,.mp 7,.own 9 0 0,.own 10 0 0,.v (.slice none 0 0),.own 11 0 0]],none⟩],
    some [⟨72,24,[],none⟩],some [⟨64,5,[],none⟩],some [⟨29,2,[],none⟩],some (mkF l.length [])]) rfl ?_
  obtain ⟨MF,hMF⟩:∃ MF,MF=mkF l.length []:=⟨_,rfl⟩
  rw [← hMF]
  (repeat' ((first
 | refine vn rfl ?_
 | simp (disch:=omega) only [wr64,Int.zero_sub]
 | refine bo (fun _=>?_) fun _=>?_
 | refine im fun _=>?_
 | refine cF ?_
 | refine om ?_
 | refine an ?_
 | fail) <;> try simp only [zN,zT,zV,zS,zU,vcC,lateX,ex,strp,binA,elems,cells,scalar,eqC,keyA,intsA,lookA,ofVs,mpOf,Nat.reduceBEq,reduceAdd,reduceSub,reduceLT,reduceLeDiff,reduceMul,reduceEqDiff,reduceIte]))
  refine .inr (.inl ⟨_,_,_,_,rfl,fun _=>⟨copiedStations_does b.stns hst hh _,?_⟩,fun h=>by cases h⟩)
  rintro r σ' ⟨ν,rfl,rfl⟩
  refine owp_of_exs ?_
  simp only [zN,zT,zV,zS,zU,vcC,lateX,ex,strp,binA,elems,cells,scalar,eqC,keyA,intsA,lookA,ofVs,mpOf,Nat.reduceBEq,reduceAdd,reduceSub,reduceLT,reduceLeDiff,reduceMul,reduceEqDiff,reduceIte,List.length_map]
  have h2:=standing_spec l hl h400 hn [1,3] (inS [1,3]) (.inl rfl)
  have hit:=stand_iter l h400 [1,3] (by simp) (inS [1,3]) (.inl rfl)
  (repeat' ((first
 | refine vn rfl ?_
 | simp (disch:=omega) only [wr64,Int.zero_sub]
 | refine bo (fun _=>?_) fun _=>?_
 | refine im fun _=>?_
 | ((repeat refine si ?_); (first | ((first | refine .inl ⟨_,_,_,_,rfl,fun _=>pu h2,?_⟩ | refine ⟨_,_,_,_,rfl,fun _=>pu h2,?_⟩); (first | refine o1 ?_ | refine o2 ?_ | refine o3 ?_ | refine o4 ?_)) | refine .inl ⟨_,_,_,_,rfl,pu h2,?_⟩))
 | refine cF ?_
 | refine om ?_
 | refine an ?_
 | fail) <;> try simp only [zN,zT,zV,zS,zU,vcC,lateX,ex,strp,binA,elems,cells,scalar,eqC,keyA,intsA,lookA,ofVs,mpOf,Nat.reduceBEq,reduceAdd,reduceSub,reduceLT,reduceLeDiff,reduceMul,reduceEqDiff,reduceIte]))
  refine AWPC.sto (σ':=FST l.length (alA al) (fs0 b) []++ν) (by rw [hMF]; rfl) ?_
  generalize hS:standK l [1,3]=S at hit
  refine AWPC.rng (fun y:{ y:Fs // True }=>FST l.length (alA al) y.1 []++ν) (14+List.length ν) (fun _=>by simp [FST]; omega) (fun i y=>y.1=(S.take i).foldl beginF (fs0 b)) (fun _ _=>False) (ntTr S) ⟨fs0 b,trivial⟩
      rfl rfl rfl hit (fun k args h=>?_) (fun i y args ll ρ τ hk hy=>?_) (fun y τ hy=>?_) (fun _ _ _ h=>h.elim)
  · obtain ⟨a,_,rfl⟩:=ntTr_get h
    rfl
  · obtain ⟨y,_⟩:=y
    simp only at hy
    subst hy
    obtain ⟨a,hs,rfl⟩:=ntTr_get hk
    have htk:(S.take (i+1)).foldl beginF (fs0 b)=beginF ((S.take i).foldl beginF (fs0 b)) a:=by
      rw [List.take_add_one,hs]; simp
    simp only [par]
    generalize hY:(S.take i).foldl beginF (fs0 b)=Y at htk
    obtain ⟨C,hC⟩:∃ C,C=FST l.length (alA al) Y []++ν:=⟨_,rfl⟩
    have hlC:List.length C=List.length ν+14:=by rw [hC]; simp [FST]
    simp only [← hC]
    (repeat' ((first
 | refine vn rfl ?_
 | simp (disch:=omega) only [wr64,Int.zero_sub]
 | refine bo (fun _=>?_) fun _=>?_
 | refine im fun _=>?_
 | refine cF ?_
 | refine om ?_
 | refine an ?_
 | fail) <;> try simp only [zN,zT,zV,zS,zU,vcC,lateX,ex,strp,binA,elems,cells,scalar,eqC,keyA,intsA,lookA,ofVs,mpOf,Nat.reduceBEq,reduceAdd,reduceSub,reduceLT,reduceLeDiff,reduceMul,reduceEqDiff,reduceIte,List.append_assoc,List.cons_append,List.nil_append,at_app,at_app0,upd_app,upd_app0]))
    refine ⟨⟨Y,trivial⟩,[some [⟨68,38,[a.cs],none⟩]],by simp [hC],fun ρ'=>?_⟩
    have hT:∀ (x0 x1 x2 x3 x4 x5 x6 x7 x8 x9 x10 x11 x12 x13:Option (List Ob)) (u:Ob),Sto.at (x0::x1::x2::x3::x4::x5::x6::x7::x8::x9::x10::x11::x12::x13::(ν++ρ'::(τ++[some [u]]))) (List.length C+(List.length τ+1)) 0=some u:=fun x0 x1 x2 x3 x4 x5 x6 x7 x8 x9 x10 x11 x12 x13 u=>by
      have e:(x0::x1::x2::x3::x4::x5::x6::x7::x8::x9::x10::x11::x12::x13::(ν++ρ'::(τ++[some [u]])):Sto)=(x0::x1::x2::x3::x4::x5::x6::x7::x8::x9::x10::x11::x12::x13::(ν++ρ'::τ))++[some [u]]:=by simp
      rw [e,hlC,show List.length ν+14+(List.length τ+1)=(x0::x1::x2::x3::x4::x5::x6::x7::x8::x9::x10::x11::x12::x13::(ν++ρ'::τ)).length by simp; omega,at_app0]; rfl
    have hm6:=mset_kenc rdA a.nm a.read Y.reads
    have hm1:=mset_kenc ntA a.nm a Y.sheets
    have hm2:=mset_kenc flA a.nm (a.stn,a.week) Y.filed
    simp only [Nm.ky] at hm6 hm1 hm2
    simp only [FST,List.append_assoc,List.cons_append,List.nil_append]
    by_cases hk3:a.kind=3
    · have hB:beginF Y a={ Y with reads:=kset Y.reads a.nm a.read }:=by unfold beginF; rw [if_pos hk3]
      rw [hB] at htk
      (repeat' ((first
 | refine vn rfl ?_
 | simp (disch:=omega) only [wr64,Int.zero_sub]
 | refine bo (fun _=>?_) fun _=>?_
 | refine im fun _=>?_
 | ((repeat refine si ?_); (first | ((first | refine .inl ⟨_,_,_,_,rfl,fun _=>pu (name_spec a),?_⟩ | refine ⟨_,_,_,_,rfl,fun _=>pu (name_spec a),?_⟩); (first | refine o1 ?_ | refine o2 ?_ | refine o3 ?_ | refine o4 ?_)) | refine .inl ⟨_,_,_,_,rfl,pu (name_spec a),?_⟩))
 | refine cF ?_
 | refine om ?_
 | refine an ?_
 | fail) <;> try simp only [zN,zT,zV,zS,zU,vcC,lateX,ex,strp,binA,elems,cells,scalar,eqC,keyA,intsA,lookA,ofVs,mpOf,Nat.reduceBEq,reduceAdd,reduceSub,reduceLT,reduceLeDiff,reduceMul,reduceEqDiff,reduceIte,hT,hk3,hm6]))
      refine ⟨⟨_,trivial⟩,[],?_,htk.symm⟩
      simp
    · have hB:beginF Y a={ Y with sheets:=kset Y.sheets a.nm a,filed:=kset Y.filed a.nm (a.stn,a.week) }:=by unfold beginF; rw [if_neg hk3]
      rw [hB] at htk
      (repeat' ((first
 | refine vn rfl ?_
 | simp (disch:=omega) only [wr64,Int.zero_sub]
 | refine bo (fun _=>?_) fun _=>?_
 | refine im fun _=>?_
 | ((repeat refine si ?_); (first | ((first | refine .inl ⟨_,_,_,_,rfl,fun _=>pu (name_spec a),?_⟩ | refine ⟨_,_,_,_,rfl,fun _=>pu (name_spec a),?_⟩); (first | refine o1 ?_ | refine o2 ?_ | refine o3 ?_ | refine o4 ?_)) | refine .inl ⟨_,_,_,_,rfl,pu (name_spec a),?_⟩))
 | refine cF ?_
 | refine om ?_
 | refine an ?_
 | fail) <;> try simp only [zN,zT,zV,zS,zU,vcC,lateX,ex,strp,binA,elems,cells,scalar,eqC,keyA,intsA,lookA,ofVs,mpOf,Nat.reduceBEq,reduceAdd,reduceSub,reduceLT,reduceLeDiff,reduceMul,reduceEqDiff,reduceIte,hT,hm1,hm2]))
      all_goals try (exfalso; omega)
      refine ⟨⟨_,trivial⟩,[],?_,htk.symm⟩
      simp
  · obtain ⟨y,_⟩:=y
    simp only at hy
    subst hy
    have hll:(ntTr S).length=S.length:=by simp [ntTr]
    simp only [hll,List.take_length]
    rw [← hS]
    clear hit h2 hb
    have hlen:∀ ks:List Int,(standK l ks).length≤l.length:=standK_len l
    have hget:∀ (ks:List Int) (i:Nat) (a:Nt),(standK l ks)[i]?=some a→i < l.length∧a∈l∧(ks=[]∨a.kind∈ks):=fun ks i a h =>
      ⟨Nat.lt_of_lt_of_le (List.getElem?_eq_some_iff.1 h).1 (hlen ks),standK_mem (List.mem_of_getElem? h)⟩
    obtain ⟨x1,hx1⟩:∃ x1,x1=(standK l [1,3]).foldl beginF (fs0 b):=⟨_,rfl⟩
    have k1:kp x1=kp (fs0 b):=by rw [hx1]; exact foldl_keep kp beginF_kp _ _
    obtain ⟨x2,hx2⟩:∃ x2,x2=(standK l [5]).foldl (fileF al) x1:=⟨_,rfl⟩
    have k2:kp x2=kp (fs0 b):=by rw [hx2,← k1]; exact foldl_keep kp (fileF_kp al) _ _
    obtain ⟨m2,r2,q2,_⟩:=kp_marks k2
    obtain ⟨x3,hx3⟩:∃ x3,x3=(standK l [2]).foldl (markF al) x2:=⟨_,rfl⟩
    have k3:mkOk x3∧x3.rs=[]∧x3.rr=[]:=by
      rw [hx3]
      refine foldl_inv (fun x=>mkOk x∧x.rs=[]∧x.rr=[]) _ _ (fun x a _ h=>?_) ⟨fun m L h=>(by rw [m2] at h; cases h),r2,q2⟩
      obtain ⟨g1,_,g2,g3,_⟩:=markF_ok al x a h.1
      exact ⟨g1,g2.trans h.2.1,g3.trans h.2.2⟩
    obtain ⟨x4,hx4⟩:∃ x4,x4=(standK l [6]).foldl (correctF al) x3:=⟨_,rfl⟩
    have k4:kp x4=kp x3:=by rw [hx4]; exact foldl_keep kp (correctF_kp al) _ _
    obtain ⟨m4,r4,q4,_⟩:=kp_marks k4
    obtain ⟨x5,hx5⟩:∃ x5,x5=(standK l [1]).foldl (enterF al) x4:=⟨_,rfl⟩
    have k5:x5.rr=[]:=by
      rw [hx5]
      refine foldl_inv (fun x=>x.rr=[]) _ _ (fun x a _ h=>(enterF_ok al x a).2.2.1.trans h) (q4.trans k3.2.2)
    have s4:standK l [4]=[]:=by
      rw [List.eq_nil_iff_forall_not_mem]
      intro a ha
      obtain ⟨g1,g2⟩:=standK_mem ha
      exact h4 a g1 (by simpa using g2)
    obtain ⟨x7,hx7⟩:∃ x7,x7=(standK l [3]).foldl readF x5:=⟨_,rfl⟩
    have c5:=fun ν=>step_does l hl h400 hn 5 142 [.ptr 8 0 1 0 0] [] (fileF al) (fun _ _=>True) l.length (alA al) [] (fun i a x ν _ _=>file_does _ al x [] a ν) (fun _ _ _ _ _=>trivial) x1 trivial ν
    have c2:=fun ν=>step_does l hl h400 hn 2 143 [.ptr 8 0 1 0 0] [] (markF al) (fun i x=>x.marks.length≤i∧mkOk x) l.length (alA al) []
      (fun i a x ν hg hq=>mark_does _ al x [] a (Nat.lt_of_le_of_lt hq.1 (hget _ _ _ hg).1) ν) (fun i a x hg hq=>⟨Nat.le_trans (markF_ok al x a hq.2).2.1 (by have:=hq.1; omega),(markF_ok al x a hq.2).1⟩) x2 ⟨by rw [m2]; exact Nat.le_refl _,fun m L h=>(by rw [m2] at h; cases h)⟩ ν
    have c6:=fun ν=>step_does l hl h400 hn 6 144 [.ptr 8 0 1 0 0] [] (correctF al) (fun _ _=>True) l.length (alA al) [] (fun i a x ν _ _=>correct_does _ al x [] a ν) (fun _ _ _ _ _=>trivial) x3 trivial ν
    have c1:=fun ν=>step_does l hl h400 hn 1 145 [.ptr 8 0 1 0 0] [] (enterF al) (fun i x=>x.rs.length≤i∧mkOk x) l.length (alA al) []
      (fun i a x ν hg hq=>enter_does _ al x [] a (by have:=(hget _ _ _ hg).1; have:=hq.1; omega) (hsh a (hget _ _ _ hg).2.1 (by simpa using (hget _ _ _ hg).2.2)) (by
        cases hk:kget x.marks a.nm with
        | none=>simp
        | some L=>exact hq.2 _ _ hk) ν)
      (fun i a x hg hq=>⟨Nat.le_trans (enterF_ok al x a).2.1 (by have:=hq.1; omega),fun m L h=>hq.2 m L (by rw [← (enterF_ok al x a).1]; exact h)⟩) x4 ⟨by rw [r4,k3.2.1]; exact Nat.le_refl _,fun m L h=>k3.1 m L (by rw [← m4]; exact h)⟩ ν
    have c4:=fun ν=>step_does l hl h400 hn 4 146 [.ptr 8 0 1 0 0] [] (raiseF al) (fun _ _=>True) l.length (alA al) [] (fun i a x ν h _=>by rw [s4] at h; cases h) (fun _ _ _ _ _=>trivial) x5 trivial ν
    have c3:=fun ν=>step_does l hl h400 hn 3 147 [] [.ptr 8 0 1 0 0] readF (fun i x=>x.rr.length≤i) l.length (alA al) []
      (fun i a x ν hg hq=>reads_does _ al x [] a (by have:=(hget _ _ _ hg).1; omega) ν) (fun i a x hg hq=>by have:=(readF_ok x a).2.2.1; omega) x5 (by rw [k5]; exact Nat.le_refl _) ν
    rw [← hx2] at c5
    rw [← hx3] at c2
    rw [← hx4] at c6
    rw [← hx5] at c1
    rw [s4,List.foldl_nil] at c4
    rw [← hx7] at c3
    rw [← hx1]
    have hfold:foldT b l=⟨(l.foldl (lastF al) (x7,[])).1.rs,(l.foldl (lastF al) (x7,[])).1.rr,(l.foldl (lastF al) (x7,[])).1.st,(l.foldl (lastF al) (x7,[])).2⟩:=by
      rw [hx7,hx5,hx4,hx3,hx2,hx1,hal]
      show foldT b l=_
      unfold foldT
      simp only [s4,List.foldl_nil]
    rw [hfold]
    rw [List.append_assoc]
    generalize hW:ν++τ=W
    simp only [zN,zT,zV,zS,zU,vcC,lateX,ex,strp,binA,elems,cells,scalar,eqC,keyA,intsA,lookA,ofVs,mpOf,Nat.reduceBEq,reduceAdd,reduceSub,reduceLT,reduceLeDiff,reduceMul,reduceEqDiff,reduceIte]
    (repeat' ((first
 | refine vn rfl ?_
 | simp (disch:=omega) only [wr64,Int.zero_sub]
 | refine bo (fun _=>?_) fun _=>?_
 | refine im fun _=>?_
 | refine cF ?_
 | refine om ?_
 | refine an ?_
 | fail) <;> try simp only [zN,zT,zV,zS,zU,vcC,lateX,ex,strp,binA,elems,cells,scalar,eqC,keyA,intsA,lookA,ofVs,mpOf,Nat.reduceBEq,reduceAdd,reduceSub,reduceLT,reduceLeDiff,reduceMul,reduceEqDiff,reduceIte]))
    refine .inr (.inl ⟨_,_,_,_,rfl,fun _=>⟨c5 W,?_⟩,fun h=>by cases h⟩)
    rintro r σ' ⟨μ1,rfl⟩
    refine owp_of_exs ?_
    simp only [zN,zT,zV,zS,zU,vcC,lateX,ex,strp,binA,elems,cells,scalar,eqC,keyA,intsA,lookA,ofVs,mpOf,Nat.reduceBEq,reduceAdd,reduceSub,reduceLT,reduceLeDiff,reduceMul,reduceEqDiff,reduceIte]
    (repeat' ((first
 | refine vn rfl ?_
 | simp (disch:=omega) only [wr64,Int.zero_sub]
 | refine bo (fun _=>?_) fun _=>?_
 | refine im fun _=>?_
 | refine cF ?_
 | refine om ?_
 | refine an ?_
 | fail) <;> try simp only [zN,zT,zV,zS,zU,vcC,lateX,ex,strp,binA,elems,cells,scalar,eqC,keyA,intsA,lookA,ofVs,mpOf,Nat.reduceBEq,reduceAdd,reduceSub,reduceLT,reduceLeDiff,reduceMul,reduceEqDiff,reduceIte]))
    refine .inr (.inl ⟨_,_,_,_,rfl,fun _=>⟨c2 _,?_⟩,fun h=>by cases h⟩)
    rintro r σ' ⟨μ2,rfl⟩
    refine owp_of_exs ?_
    simp only [zN,zT,zV,zS,zU,vcC,lateX,ex,strp,binA,elems,cells,scalar,eqC,keyA,intsA,lookA,ofVs,mpOf,Nat.reduceBEq,reduceAdd,reduceSub,reduceLT,reduceLeDiff,reduceMul,reduceEqDiff,reduceIte]
    (repeat' ((first
 | refine vn rfl ?_
 | simp (disch:=omega) only [wr64,Int.zero_sub]
 | refine bo (fun _=>?_) fun _=>?_
 | refine im fun _=>?_
 | refine cF ?_
 | refine om ?_
 | refine an ?_
 | fail) <;> try simp only [zN,zT,zV,zS,zU,vcC,lateX,ex,strp,binA,elems,cells,scalar,eqC,keyA,intsA,lookA,ofVs,mpOf,Nat.reduceBEq,reduceAdd,reduceSub,reduceLT,reduceLeDiff,reduceMul,reduceEqDiff,reduceIte]))
    refine .inr (.inl ⟨_,_,_,_,rfl,fun _=>⟨c6 _,?_⟩,fun h=>by cases h⟩)
    rintro r σ' ⟨μ3,rfl⟩
    refine owp_of_exs ?_
    simp only [zN,zT,zV,zS,zU,vcC,lateX,ex,strp,binA,elems,cells,scalar,eqC,keyA,intsA,lookA,ofVs,mpOf,Nat.reduceBEq,reduceAdd,reduceSub,reduceLT,reduceLeDiff,reduceMul,reduceEqDiff,reduceIte]
    (repeat' ((first
 | refine vn rfl ?_
 | simp (disch:=omega) only [wr64,Int.zero_sub]
 | refine bo (fun _=>?_) fun _=>?_
 | refine im fun _=>?_
 | refine cF ?_
 | refine om ?_
 | refine an ?_
 | fail) <;> try simp only [zN,zT,zV,zS,zU,vcC,lateX,ex,strp,binA,elems,cells,scalar,eqC,keyA,intsA,lookA,ofVs,mpOf,Nat.reduceBEq,reduceAdd,reduceSub,reduceLT,reduceLeDiff,reduceMul,reduceEqDiff,reduceIte]))
    refine .inr (.inl ⟨_,_,_,_,rfl,fun _=>⟨c1 _,?_⟩,fun h=>by cases h⟩)
    rintro r σ' ⟨μ4,rfl⟩
    refine owp_of_exs ?_
    simp only [zN,zT,zV,zS,zU,vcC,lateX,ex,strp,binA,elems,cells,scalar,eqC,keyA,intsA,lookA,ofVs,mpOf,Nat.reduceBEq,reduceAdd,reduceSub,reduceLT,reduceLeDiff,reduceMul,reduceEqDiff,reduceIte]
    (repeat' ((first
 | refine vn rfl ?_
 | simp (disch:=omega) only [wr64,Int.zero_sub]
 | refine bo (fun _=>?_) fun _=>?_
 | refine im fun _=>?_
 | refine cF ?_
 | refine om ?_
 | refine an ?_
 | fail) <;> try simp only [zN,zT,zV,zS,zU,vcC,lateX,ex,strp,binA,elems,cells,scalar,eqC,keyA,intsA,lookA,ofVs,mpOf,Nat.reduceBEq,reduceAdd,reduceSub,reduceLT,reduceLeDiff,reduceMul,reduceEqDiff,reduceIte]))
    refine .inr (.inl ⟨_,_,_,_,rfl,fun _=>⟨c4 _,?_⟩,fun h=>by cases h⟩)
    rintro r σ' ⟨μ5,rfl⟩
    refine owp_of_exs ?_
    simp only [zN,zT,zV,zS,zU,vcC,lateX,ex,strp,binA,elems,cells,scalar,eqC,keyA,intsA,lookA,ofVs,mpOf,Nat.reduceBEq,reduceAdd,reduceSub,reduceLT,reduceLeDiff,reduceMul,reduceEqDiff,reduceIte]
    (repeat' ((first
 | refine vn rfl ?_
 | simp (disch:=omega) only [wr64,Int.zero_sub]
 | refine bo (fun _=>?_) fun _=>?_
 | refine im fun _=>?_
 | refine cF ?_
 | refine om ?_
 | refine an ?_
 | fail) <;> try simp only [zN,zT,zV,zS,zU,vcC,lateX,ex,strp,binA,elems,cells,scalar,eqC,keyA,intsA,lookA,ofVs,mpOf,Nat.reduceBEq,reduceAdd,reduceSub,reduceLT,reduceLeDiff,reduceMul,reduceEqDiff,reduceIte]))
    refine .inr (.inl ⟨_,_,_,_,rfl,fun _=>⟨c3 _,?_⟩,fun h=>by cases h⟩)
    rintro r σ' ⟨μ6,rfl⟩
    refine owp_of_exs ?_
    simp only [zN,zT,zV,zS,zU,vcC,lateX,ex,strp,binA,elems,cells,scalar,eqC,keyA,intsA,lookA,ofVs,mpOf,Nat.reduceBEq,reduceAdd,reduceSub,reduceLT,reduceLeDiff,reduceMul,reduceEqDiff,reduceIte]
    (repeat' ((first
 | refine vn rfl ?_
 | simp (disch:=omega) only [wr64,Int.zero_sub]
 | refine bo (fun _=>?_) fun _=>?_
 | refine im fun _=>?_
 | refine cF ?_
 | refine om ?_
 | refine an ?_
 | fail) <;> try simp only [zN,zT,zV,zS,zU,vcC,lateX,ex,strp,binA,elems,cells,scalar,eqC,keyA,intsA,lookA,ofVs,mpOf,Nat.reduceBEq,reduceAdd,reduceSub,reduceLT,reduceLeDiff,reduceMul,reduceEqDiff,reduceIte]))
    have hql:∀ i,((l.take i).foldl (lastF al) (x7,[])).2.length≤400:=fun i=>by
      have h5:=(lastF_len al (l.take i) (x7,[])).1
      have h6:(l.take i).length≤l.length:=by rw [List.length_take]; omega
      simp only [List.length_nil] at h5
      omega
    refine AWPC.loopE (α:={ p:Nat × Sto // p.1≤l.length }) [79] (fun p=>[(79,n p.1.1)])
      (fun p=>FST l.length (alA al) ((l.take p.1.1).foldl (lastF al) (x7,[])).1 ((l.take p.1.1).foldl (lastF al) (x7,[])).2++p.1.2) (fun p=>l.length - p.1.1) ⟨(0,W++(μ1++(μ2++(μ3++(μ4++(μ5++μ6)))))),by simp⟩ ?_ rfl ?_
    · (simp only [zN,zT,zV,zS,zU,vcC,lateX,ex,strp,binA,elems,cells,scalar,eqC,keyA,intsA,lookA,ofVs,mpOf,Nat.reduceBEq,reduceAdd,reduceSub,reduceLT,reduceLeDiff,reduceMul,reduceEqDiff,reduceIte]; try simp)
    · rintro ⟨⟨i,μ⟩,hi⟩
      simp only at hi
      by_cases hlt:i < l.length
      · have hs:(l.map Nt.cs).getD i []=Nt.cs (l.getD i nt0):=row nt0 hlt
        have htk:(l.take (i+1)).foldl (lastF al) (x7,[])=lastF al ((l.take i).foldl (lastF al) (x7,[])) (l.getD i nt0):=by
          rw [List.take_add_one,getD_lt nt0 hlt]; simp
        have hq4:=hql i
        generalize l.getD i nt0=a at hs htk
        generalize hY:(l.take i).foldl (lastF al) (x7,[])=Y at htk hq4
        obtain ⟨f,o⟩:=Y
        simp only at hq4
        simp only [hY]
        by_cases hk7:a.kind=7
        · have hw:lookA false (bl false) (mget (kenc bl (clashF al f a).confl) [a.clerk,a.num])=bl ((kget (clashF al f a).confl a.nm).getD false):=by
            rw [show mget (kenc bl (clashF al f a).confl) [a.clerk,a.num]=_ from mget_kenc bl a.nm (clashF al f a).confl]
            cases kget (clashF al f a).confl a.nm <;> rfl
          have hL:lastF al (f,o) a=(clashF al f a,if (kget (clashF al f a).confl a.nm).getD false then o++[a.nm] else o):=by unfold lastF; simp only [hk7,if_true]
          rw [hL] at htk
          have hc:=fun μ=>clash_does l.length al f o a μ
          generalize clashF al f a=g at hw htk hc
          generalize (kget g.confl a.nm).getD false=c at hw htk
          simp only [lookA,cond_false] at hw
          simp only [FST,List.cons_append,List.nil_append]
          (repeat' ((first
 | refine vn rfl ?_
 | simp (disch:=omega) only [wr64,Int.zero_sub]
 | refine bo (fun _=>?_) fun _=>?_
 | refine im fun _=>?_
 | refine cF ?_
 | refine om ?_
 | refine an ?_
 | fail) <;> try simp only [zN, zT, zV, zS, zU, vcC, lateX, ex, strp, binA, elems, cells, scalar, eqC, keyA, intsA, lookA, ofVs, mpOf, Nat.reduceBEq, reduceAdd, reduceSub, reduceLT, reduceLeDiff, reduceMul, reduceEqDiff, reduceIte, hs, hk7]))
          all_goals try (exfalso; omega)
          refine .inr (.inl ⟨_,_,_,_,rfl,fun _=>⟨hc _,?_⟩,fun h=>by cases h⟩)
          rintro r σ' ⟨ν',rfl⟩
          refine owp_of_exs ?_
          simp only [FST,List.append_eq,List.append_assoc,List.cons_append,List.nil_append]
          simp only [zN,zT,zV,zS,zU,vcC,lateX,ex,strp,binA,elems,cells,scalar,eqC,keyA,intsA,lookA,ofVs,mpOf,Nat.reduceBEq,reduceAdd,reduceSub,reduceLT,reduceLeDiff,reduceMul,reduceEqDiff,reduceIte]
          cases c with
          | true =>
            (repeat' ((first
 | refine vn rfl ?_
 | simp (disch:=omega) only [wr64,Int.zero_sub]
 | refine bo (fun _=>?_) fun _=>?_
 | refine im fun _=>?_
 | ((repeat refine si ?_); (first | ((first | refine .inl ⟨_,_,_,_,rfl,fun _=>pu (name_spec a),?_⟩ | refine ⟨_,_,_,_,rfl,fun _=>pu (name_spec a),?_⟩); (first | refine o1 ?_ | refine o2 ?_ | refine o3 ?_ | refine o4 ?_)) | refine .inl ⟨_,_,_,_,rfl,pu (name_spec a),?_⟩))
 | refine cF ?_
 | refine om ?_
 | refine an ?_
 | fail) <;> try simp only [zN, zT, zV, zS, zU, vcC, lateX, ex, strp, binA, elems, cells, scalar, eqC, keyA, intsA, lookA, ofVs, mpOf, Nat.reduceBEq, reduceAdd, reduceSub, reduceLT, reduceLeDiff, reduceMul, reduceEqDiff, reduceIte, hw, List.append_assoc, List.cons_append, List.nil_append]))
            all_goals try (exfalso; omega)
            refine ⟨⟨(i+1,μ++some [⟨68,38,[a.cs],none⟩]::ν'),hlt⟩,by simp,?_,by simp only; omega⟩
            simp only [htk]
            simp
          | false =>
            (repeat' ((first
 | refine vn rfl ?_
 | simp (disch:=omega) only [wr64,Int.zero_sub]
 | refine bo (fun _=>?_) fun _=>?_
 | refine im fun _=>?_
 | ((repeat refine si ?_); (first | ((first | refine .inl ⟨_,_,_,_,rfl,fun _=>pu (name_spec a),?_⟩ | refine ⟨_,_,_,_,rfl,fun _=>pu (name_spec a),?_⟩); (first | refine o1 ?_ | refine o2 ?_ | refine o3 ?_ | refine o4 ?_)) | refine .inl ⟨_,_,_,_,rfl,pu (name_spec a),?_⟩))
 | refine cF ?_
 | refine om ?_
 | refine an ?_
 | fail) <;> try simp only [zN, zT, zV, zS, zU, vcC, lateX, ex, strp, binA, elems, cells, scalar, eqC, keyA, intsA, lookA, ofVs, mpOf, Nat.reduceBEq, reduceAdd, reduceSub, reduceLT, reduceLeDiff, reduceMul, reduceEqDiff, reduceIte, hw, List.append_assoc, List.cons_append, List.nil_append]))
            all_goals try (exfalso; omega)
            refine ⟨⟨(i+1,μ++some [⟨68,38,[a.cs],none⟩]::ν'),hlt⟩,by simp,?_,by simp only; omega⟩
            simp only [htk]
            simp
        · have hw:lookA false (bl false) (mget (kenc bl f.confl) [a.clerk,a.num])=bl ((kget f.confl a.nm).getD false):=by
            rw [show mget (kenc bl f.confl) [a.clerk,a.num]=_ from mget_kenc bl a.nm f.confl]
            cases kget f.confl a.nm <;> rfl
          have hL:lastF al (f,o) a=(f,if (kget f.confl a.nm).getD false then o++[a.nm] else o):=by unfold lastF; simp only [hk7,if_false]
          rw [hL] at htk
          generalize (kget f.confl a.nm).getD false=c at hw htk
          simp only [lookA,cond_false] at hw
          simp only [FST,List.cons_append,List.nil_append]
          cases c with
          | true =>
            (repeat' ((first
 | refine vn rfl ?_
 | simp (disch:=omega) only [wr64,Int.zero_sub]
 | refine bo (fun _=>?_) fun _=>?_
 | refine im fun _=>?_
 | ((repeat refine si ?_); (first | ((first | refine .inl ⟨_,_,_,_,rfl,fun _=>pu (name_spec a),?_⟩ | refine ⟨_,_,_,_,rfl,fun _=>pu (name_spec a),?_⟩); (first | refine o1 ?_ | refine o2 ?_ | refine o3 ?_ | refine o4 ?_)) | refine .inl ⟨_,_,_,_,rfl,pu (name_spec a),?_⟩))
 | refine cF ?_
 | refine om ?_
 | refine an ?_
 | fail) <;> try simp only [zN, zT, zV, zS, zU, vcC, lateX, ex, strp, binA, elems, cells, scalar, eqC, keyA, intsA, lookA, ofVs, mpOf, Nat.reduceBEq, reduceAdd, reduceSub, reduceLT, reduceLeDiff, reduceMul, reduceEqDiff, reduceIte, hs, hw, List.append_assoc, List.cons_append, List.nil_append]))
            all_goals try (exfalso; omega)
            refine ⟨⟨(i+1,μ++some [⟨68,38,[a.cs],none⟩]::[]),hlt⟩,by simp,?_,by simp only; omega⟩
            simp only [htk]
            simp
          | false =>
            (repeat' ((first
 | refine vn rfl ?_
 | simp (disch:=omega) only [wr64,Int.zero_sub]
 | refine bo (fun _=>?_) fun _=>?_
 | refine im fun _=>?_
 | ((repeat refine si ?_); (first | ((first | refine .inl ⟨_,_,_,_,rfl,fun _=>pu (name_spec a),?_⟩ | refine ⟨_,_,_,_,rfl,fun _=>pu (name_spec a),?_⟩); (first | refine o1 ?_ | refine o2 ?_ | refine o3 ?_ | refine o4 ?_)) | refine .inl ⟨_,_,_,_,rfl,pu (name_spec a),?_⟩))
 | refine cF ?_
 | refine om ?_
 | refine an ?_
 | fail) <;> try simp only [zN, zT, zV, zS, zU, vcC, lateX, ex, strp, binA, elems, cells, scalar, eqC, keyA, intsA, lookA, ofVs, mpOf, Nat.reduceBEq, reduceAdd, reduceSub, reduceLT, reduceLeDiff, reduceMul, reduceEqDiff, reduceIte, hs, hw, List.append_assoc, List.cons_append, List.nil_append]))
            all_goals try (exfalso; omega)
            refine ⟨⟨(i+1,μ++some [⟨68,38,[a.cs],none⟩]::[]),hlt⟩,by simp,?_,by simp only; omega⟩
            simp only [htk]
            simp
      · obtain rfl:i=l.length:=by omega
        rw [List.take_length]
        generalize hY:l.foldl (lastF al) (x7,[])=Y
        obtain ⟨f,o⟩:=Y
        simp only [FST,List.cons_append,List.nil_append]
        (repeat' ((first
 | refine vn rfl ?_
 | simp (disch:=omega) only [wr64,Int.zero_sub]
 | refine bo (fun _=>?_) fun _=>?_
 | refine im fun _=>?_
 | refine cF ?_
 | refine om ?_
 | refine an ?_
 | fail) <;> try simp only [zN, zT, zV, zS, zU, vcC, lateX, ex, strp, binA, elems, cells, scalar, eqC, keyA, intsA, lookA, ofVs, mpOf, Nat.reduceBEq, reduceAdd, reduceSub, reduceLT, reduceLeDiff, reduceMul, reduceEqDiff, reduceIte]))
        all_goals try (exfalso; omega)
        refine Frz.aggL ⟨?_,?_,?_,?_,trivial⟩
        · exact Frz.ownL (T:=72) rfl rfl (by decide) (fun a=>Fld.pc a) (fun a=>rfl)
        · exact Frz.ownL (T:=64) rfl rfl (by decide) (fun a c hc=>by simp at hc; rcases hc with rfl | rfl | rfl | rfl | rfl <;> simp) (fun a=>rfl)
        · exact Frz.ownL (T:=109) rfl rfl (by decide) (fun a c hc=>by simp at hc; rcases hc with rfl | rfl | rfl | rfl <;> simp) (fun a=>rfl)
        · exact Frz.ownL (T:=29) rfl rfl (by decide) (fun a c hc=>by simp at hc; rcases hc with rfl | rfl <;> simp) (fun a=>rfl)
end Go.Proofs.YtolgelipcgcbhaaGreat
namespace Go.Abs
set_option linter.unusedVariables false
set_option linter.unusedSimpArgs false
theorem blots_len {c:Int} {l:List Int} (h:blotsOk c l) (hc:0≤c):(l.length:Int)≤c:=by
  have key:∀ i:Nat,i < l.length→(i:Int)≤l.getD i 0:=by
    intro i
    induction i with
    | zero=>intro hi; exact (h 0 hi).1.1
    | succ i ih =>
      intro hi
      have h1:=ih (by omega)
      have h2:=(h (i+1) hi).2 (by omega)
      rw [Nat.add_sub_cancel] at h2
      omega
  rcases Nat.eq_zero_or_pos l.length with h0 | h0
  · omega
  · have h1:=key (l.length - 1) (by omega)
    have h2:=(h (l.length - 1) (by omega)).1.2
    omega
theorem sht_small {s:Sht} (h:s.ok):s.trace.length≤2000∧s.blots.length≤200∧s.rates.length≤199∧s.stops.length≤16:=by
  obtain ⟨h1,h2,h3,h4,h5,h6⟩:=h
  have ht:s.trace.length≤2000:=by
    unfold traceE at h1
    split at h1
    · simp at h1
    · omega
  have hr:=h3.1.2
  have hb:=blots_len h5 (by omega)
  exact ⟨ht,by omega,by omega,h3.2.1⟩
theorem stns_small {l:List Stn} (h:(stnsE l).1=0):l.length≤32∧∀ s∈l,s.heights.length≤16:=by
  unfold stnsE at h
  split at h
  · simp at h
  rename_i h32
  rw [firstE_zero] at h
  refine ⟨by omega,fun s hs=>?_⟩
  obtain ⟨i,hi,rfl⟩:=List.mem_iff_getElem.1 hs
  have h1:=h i hi
  unfold stnE at h1
  simp only at h1
  split at h1
  · split at h1
    · rename_i h2
      rw [List.getD_eq_getElem?_getD,List.getElem?_eq_getElem hi] at h2
      have:=h2.1.2
      simp only [Option.getD_some] at this
      omega
    · omega
  · omega
theorem nt_small {b:Bse} {a:Nt} (h:a.ok b) (hk:a.kind=1):a.sheet.trace.length≤2000∧a.sheet.blots.length≤200∧a.sheet.rates.length≤199∧a.sheet.stops.length≤16:=by
  have h1:=h.2.2.2.2
  unfold Nt.says at h1
  rw [if_pos hk] at h1
  exact sht_small h1.2
end Go.Abs
namespace Go.Proofs.YtolgelipcgcbhaaGreat
open Go.Abs
open Nat (reduceAdd reduceSub reduceLT reduceLeDiff reduceMul reduceEqDiff)
set_option linter.unusedVariables false
set_option linter.unusedSimpArgs false
set_option maxHeartbeats 4000000
set_option maxRecDepth 100000
def c21:CF:=⟨18,
 (.seq (.ops [
 ⟨some 2,.box false 26 6 (.t 0),none⟩,
 ⟨some 4,.alloc 37 4 [.slice none 0 0,.slice none 0 0,.slice none 0 0,.slice none 0 0],none⟩,
 ⟨some 5,.mv (.c (.int .i64 0)),none⟩] [1,2,4])
 (.seq (.seq (.ops [
 ⟨some 7,.load (some 6) (.t 2),none⟩,
 ⟨some 8,.mv (.t 1),none⟩,
 ⟨some 9,.bsl false 27 1 1 [.slice none 0 0] [(0,1,(.t 8))],none⟩,
 ⟨some 10,.call (.f 80) [(.t 7),(.t 9)],none⟩,
 ⟨some 6,.mv (.t 10),none⟩] [1,2,4,6])
 (.seq (.ops [
 ⟨some 11,.mv (.t 6),none⟩,
 ⟨some 12,.bin .neq (.t 11) (.c (.int .i64 0)),none⟩] [1,2,4,6,12])
 (.cond (.t 12) (.seq (.ops [
 ⟨some 13,.build [.slice none 0 0,.slice none 0 0,.slice none 0 0,.slice none 0 0] [],none⟩,
 ⟨some 14,.mv (.t 6),none⟩,
 ⟨none,.store 4 (.t 4) (.t 13),none⟩,
 ⟨some 5,.mv (.t 14),none⟩] [4,5])
 .ret)
 .skip)))
 (.seq (.ops [
 ⟨some 15,.load (some 6) (.t 2),none⟩,
 ⟨some 16,.mv (.t 1),none⟩,
 ⟨some 17,.call (.f 81) [(.t 15),(.t 16)],none⟩,
 ⟨none,.store 4 (.t 4) (.t 17),none⟩,
 ⟨some 5,.mv (.c (.int .i64 0)),none⟩] [4,5])
 .ret))),
 [.c 4 (some 4),.t 5]⟩
theorem k21:chkF Tryz.prog Tryz.f21 c21=true:=by kernel_rfl
def noH (l:List Nt):Prop:=∀ a∈l,a.kind≠4
theorem fold_ok (b:Bse) (l m:List Nt) (hl:setSz l) (he:(setE b l).1=0) (hm:m.Sublist l) (h4:noH m):Pure Tryz.prog 81 [.agg b.cs,ntS m] (.agg (foldT b m).cs):=by
  obtain ⟨h1,h2,h3,_⟩:=setE_ok he
  obtain ⟨g1,g2⟩:=stns_small h1.1
  refine fold_spec b m ⟨Nat.lt_of_le_of_lt hm.length_le hl.1,fun a ha=>hl.2 a (hm.subset ha)⟩ (Nat.le_trans hm.length_le h2) ((setE_nodup he).sublist (hm.map _)) (by omega) (fun s hs=>by have:=g2 s hs; omega) (fun a ha hk=>?_) h4
  obtain ⟨k1,k2,k3,k4⟩:=nt_small (h3 a (hm.subset ha)) hk
  exact ⟨by omega,by omega,by omega,by omega⟩
theorem rd_pc (a:Rd):∀ c∈a.cs,PureV c:=fun c hc=>by simp at hc; rcases hc with rfl | rfl | rfl | rfl | rfl <;> simp
theorem sn_pc (a:Stn):∀ c∈a.cs,PureV c:=fun c hc=>by simp at hc; rcases hc with rfl | rfl | rfl | rfl <;> simp
theorem nm_pc (a:Nm):∀ c∈a.cs,PureV c:=fun c hc=>by simp at hc; rcases hc with rfl | rfl <;> simp
theorem rgr_pc (r:Rgr):∀ c∈r.cs,PureV c:=fun c hc=>by
  simp only [List.mem_cons,List.not_mem_nil,or_false] at hc
  rcases hc with rfl | rfl | rfl | rfl
  · exact fdS_pure _
  · exact pv_rows 5 _ rd_pc
  · exact pv_rows 4 _ sn_pc
  · exact pv_rows 2 _ nm_pc
@[simp] theorem rgr_pa (r:Rgr):PureV (.agg r.cs):=.agg (rgr_pc r)
@[simp] theorem rgr_pi (r:Rgr) (j:Nat):PureV (.iptr r.cs j):=.iptr (rgr_pc r)
@[simp] theorem rdS_pure (l:List Rd):PureV (rdS l):=pv_rows 5 _ rd_pc
@[simp] theorem snS_pure (l:List Stn):PureV (snS l):=pv_rows 4 _ sn_pc
@[simp] theorem nmS_pure (l:List Nm):PureV (nmS l):=pv_rows 2 _ nm_pc
theorem Fold_spec (b:Bse) (hb:bseSz b) (l:List Nt) (hl:setSz l) (h4:noH l):Pure Tryz.prog 21 [.agg b.cs,ntS l] (.tup [.agg (foldE b l).1.cs,n (foldE b l).2]):=by
  refine Pure.of_body Tryz.call21 Tryz.func21 k21 (Nat.le_of_ble_eq_true rfl) ?_
  unfold c21
  have h1:=asked_spec b hb [l] (by simp) (by simpa using hl)
  by_cases ha:askedE b [l]=0
  · have hE:foldE b l=(foldT b l,0):=by unfold foldE; rw [if_neg (by omega)]
    rw [hE]
    rw [ha] at h1
    have h2:=fold_ok b l l hl ((askedE_ok ha).2 l (by simp)) (List.Sublist.refl _) h4
    generalize foldT b l=r at h2
    (repeat' ((first
 | refine vn rfl ?_
 | simp (disch:=omega) only [wr64,Int.zero_sub]
 | refine bo (fun _=>?_) fun _=>?_
 | refine im fun _=>?_
 | ((repeat refine si ?_); (first | ((first | refine .inl ⟨_,_,_,_,rfl,fun _=>pu (by first | exact h1 | exact h2),?_⟩ | refine ⟨_,_,_,_,rfl,fun _=>pu (by first | exact h1 | exact h2),?_⟩); (first | refine o1 ?_ | refine o2 ?_ | refine o3 ?_ | refine o4 ?_)) | refine .inl ⟨_,_,_,_,rfl,pu (by first | exact h1 | exact h2),?_⟩))
 | refine cF ?_
 | refine om ?_
 | refine an ?_
 | fail) <;> try simp only [zN,zT,zV,zS,zU,vcC,lateX,ex,strp,binA,elems,cells,scalar,eqC,keyA,intsA,lookA,ofVs,mpOf,Nat.reduceBEq,reduceAdd,reduceSub,reduceLT,reduceLeDiff,reduceMul,reduceEqDiff,reduceIte]))
    all_goals try (exfalso; omega)
    exact Frz.tupL ⟨Frz.pure (rgr_pa r),Frz.pure (by simp),trivial⟩
  · have hE:foldE b l=(rgr0,askedE b [l]):=by unfold foldE; rw [if_pos ha]
    rw [hE]
    generalize askedE b [l]=e at h1 ha
    (repeat' ((first
 | refine vn rfl ?_
 | simp (disch:=omega) only [wr64,Int.zero_sub]
 | refine bo (fun _=>?_) fun _=>?_
 | refine im fun _=>?_
 | ((repeat refine si ?_); (first | ((first | refine .inl ⟨_,_,_,_,rfl,fun _=>pu h1,?_⟩ | refine ⟨_,_,_,_,rfl,fun _=>pu h1,?_⟩); (first | refine o1 ?_ | refine o2 ?_ | refine o3 ?_ | refine o4 ?_)) | refine .inl ⟨_,_,_,_,rfl,pu h1,?_⟩))
 | refine cF ?_
 | refine om ?_
 | refine an ?_
 | fail) <;> try simp only [zN,zT,zV,zS,zU,vcC,lateX,ex,strp,binA,elems,cells,scalar,eqC,keyA,intsA,lookA,ofVs,mpOf,Nat.reduceBEq,reduceAdd,reduceSub,reduceLT,reduceLeDiff,reduceMul,reduceEqDiff,reduceIte]))
    all_goals try (exfalso; omega)
    exact Frz.tupL ⟨Frz.aggL ⟨Frz.nil0,Frz.nil0,Frz.nil0,Frz.nil0,trivial⟩,Frz.pure (by simp),trivial⟩
def c157:CF:=⟨19,
 (.seq (.ops [
 ⟨some 4,.mv (.c (.int .i64 0)),none⟩] [0,1])
 (.seq (.seq (.ops [
 ⟨some 6,.mv (.t 0),none⟩,
 ⟨some 7,.len (.t 6),none⟩,
 ⟨some 8,.mv (.c (.int .i64 0)),none⟩] [0,1,7,8])
 (.block 0 (.loop (.seq (.ops [
 ⟨some 9,.bin .lss (.t 8) (.t 7),none⟩] [0,1,7,8,9])
 (.seq (.cond (.t 9) .skip
 (.exit 0))
 (.seq (.block 1 (.seq (.ops [
 ⟨some 10,.mv (.t 8),none⟩,
 ⟨some 5,.mv (.t 10),none⟩] [0,1,5,7,8])
 (.seq (.ops [
 ⟨some 11,.mv (.t 1),none⟩,
 ⟨some 12,.mv (.t 0),none⟩,
 ⟨some 13,.mv (.t 5),none⟩,
 ⟨some 14,.iaddr 38 (.t 12) (.t 13),none⟩,
 ⟨some 15,.load (some 38) (.t 14),none⟩,
 ⟨some 16,.call (.t 11) [(.t 15)],none⟩] [0,1,5,7,8,16])
 (.cond (.t 16) (.seq (.ops [
 ⟨some 17,.mv (.t 5),none⟩,
 ⟨some 4,.mv (.t 17),none⟩] [4])
 .ret)
 .skip))))
 (.ops [
 ⟨some 18,.bin .add (.t 8) (.c (.int .i64 1)),none⟩,
 ⟨some 8,.mv (.t 18),none⟩] [0,1,7,8])))))))
 (.seq (.ops [
 ⟨some 4,.mv (.c (.int .i64 (-1))),none⟩] [4])
 .ret))),
 [.t 4]⟩
theorem k157:chkF Tryz.prog Tryz.f157 c157=true:=by kernel_rfl
def c84:CF:=⟨15,
 (.seq (.ops [
 ⟨some 3,.box false 68 38 (.t 0),none⟩,
 ⟨some 4,.mv (.c (.bool false)),none⟩] [1,2,3])
 (.seq (.ops [
 ⟨some 5,.faddr 3 (.t 3),none⟩,
 ⟨some 6,.load none (.t 5),none⟩,
 ⟨some 7,.load none (.t 1),none⟩,
 ⟨some 8,.bin .gtr (.t 6) (.t 7),none⟩,
 ⟨some 9,.mv (.t 8),none⟩,
 ⟨some 10,.faddr 2 (.t 3),some (9,false)⟩,
 ⟨some 11,.load none (.t 10),some (9,false)⟩,
 ⟨some 12,.load none (.t 2),some (9,false)⟩,
 ⟨some 13,.bin .gtr (.t 11) (.t 12),some (9,false)⟩,
 ⟨some 14,.pick (.t 9) (.c (.bool true)) (.t 13),none⟩,
 ⟨some 4,.mv (.t 14),none⟩] [4])
 .ret)),
 [.t 4]⟩
theorem k84:chkF Tryz.prog Tryz.f84 c84=true:=by kernel_rfl
def c85:CF:=⟨42,
 (.seq (.ops [
 ⟨some 4,.mv (.c (.slice none 0 0)),none⟩] [0,1])
 (.seq (.ops [
 ⟨some 8,.mv (.t 0),none⟩,
 ⟨some 9,.mv (.t 1),none⟩,
 ⟨some 10,.call (.f 157) [(.t 8),(.t 9)],none⟩,
 ⟨some 5,.mv (.t 10),none⟩] [0,1,5])
 (.seq (.seq (.ops [
 ⟨some 11,.mv (.t 5),none⟩,
 ⟨some 12,.bin .eql (.t 11) (.c (.int .i64 (-1))),none⟩] [0,1,5,12])
 (.cond (.t 12) (.seq (.ops [
 ⟨some 13,.mv (.t 0),none⟩,
 ⟨some 4,.mv (.t 13),none⟩] [4])
 .ret)
 .skip))
 (.seq (.seq (.ops [
 ⟨some 14,.mv (.t 5),none⟩,
 ⟨some 15,.bin .add (.t 14) (.c (.int .i64 1)),none⟩,
 ⟨some 6,.mv (.t 15),none⟩] [0,1,5,6])
 (.block 0 (.loop (.seq (.seq (.ops [
 ⟨some 16,.mv (.t 6),none⟩,
 ⟨some 17,.mv (.t 0),none⟩,
 ⟨some 18,.len (.t 17),none⟩,
 ⟨some 19,.bin .lss (.t 16) (.t 18),none⟩] [0,1,5,6,19])
 (.cond (.t 19) .skip
 (.exit 0)))
 (.seq (.block 1 (.seq (.ops [
 ⟨some 22,.mv (.t 0),none⟩,
 ⟨some 23,.mv (.t 6),none⟩,
 ⟨some 24,.iaddr 38 (.t 22) (.t 23),none⟩,
 ⟨some 25,.load (some 38) (.t 24),none⟩,
 ⟨some 7,.alloc 68 38 z38,none⟩,
 ⟨none,.store 38 (.t 7) (.t 25),none⟩] [0,1,5,6,7])
 (.seq (.ops [
 ⟨some 26,.mv (.t 1),none⟩,
 ⟨some 27,.load (some 38) (.t 7),none⟩,
 ⟨some 28,.call (.t 26) [(.t 27)],none⟩,
 ⟨some 29,.un .not (.t 28),none⟩] [0,1,5,6,7,29])
 (.cond (.t 29) (.seq (.ops [
 ⟨some 30,.mv (.t 0),none⟩,
 ⟨some 31,.mv (.t 5),none⟩,
 ⟨some 32,.load (some 38) (.t 7),none⟩,
 ⟨some 33,.iaddr 38 (.t 30) (.t 31),none⟩,
 ⟨none,.store 38 (.t 33) (.t 32),none⟩] [0,1,5,6])
 (.ops [
 ⟨some 34,.mv (.t 5),none⟩,
 ⟨some 35,.bin .add (.t 34) (.c (.int .i64 1)),none⟩,
 ⟨some 5,.mv (.t 35),none⟩] [0,1,5,6]))
 .skip))))
 (.ops [
 ⟨some 20,.mv (.t 6),none⟩,
 ⟨some 21,.bin .add (.t 20) (.c (.int .i64 1)),none⟩,
 ⟨some 6,.mv (.t 21),none⟩] [0,1,5,6]))))))
 (.seq (.ops [
 ⟨some 36,.mv (.t 0),none⟩,
 ⟨some 37,.mv (.t 5),none⟩,
 ⟨some 38,.subs 38 (.t 36) (.t 37),none⟩,
 ⟨none,.clr 68 38 z38 (.t 38),none⟩] [0,5])
 (.seq (.ops [
 ⟨some 39,.mv (.t 0),none⟩,
 ⟨some 40,.mv (.t 5),none⟩,
 ⟨some 41,.slice 38 (.t 39) none (some (.t 40)),none⟩,
 ⟨some 4,.mv (.t 41),none⟩] [4])
 .ret)))))),
 [.t 4]⟩
theorem k85:chkF Tryz.prog Tryz.f85 c85=true:=by kernel_rfl
def c23:CF:=⟨27,
 (.seq (.ops [
 ⟨some 4,.box false 26 6 (.t 0),none⟩,
 ⟨some 6,.box false 3 1 (.t 2),none⟩,
 ⟨some 7,.box false 3 1 (.t 3),none⟩,
 ⟨some 8,.alloc 37 4 [.slice none 0 0,.slice none 0 0,.slice none 0 0,.slice none 0 0],none⟩,
 ⟨some 9,.mv (.c (.int .i64 0)),none⟩] [1,4,6,7,8])
 (.seq (.seq (.ops [
 ⟨some 12,.load (some 6) (.t 4),none⟩,
 ⟨some 13,.mv (.t 1),none⟩,
 ⟨some 14,.bsl false 27 1 1 [.slice none 0 0] [(0,1,(.t 13))],none⟩,
 ⟨some 15,.call (.f 80) [(.t 12),(.t 14)],none⟩,
 ⟨some 10,.mv (.t 15),none⟩] [1,4,6,7,8,10])
 (.seq (.ops [
 ⟨some 16,.mv (.t 10),none⟩,
 ⟨some 17,.bin .neq (.t 16) (.c (.int .i64 0)),none⟩] [1,4,6,7,8,10,17])
 (.cond (.t 17) (.seq (.ops [
 ⟨some 18,.build [.slice none 0 0,.slice none 0 0,.slice none 0 0,.slice none 0 0] [],none⟩,
 ⟨some 19,.mv (.t 10),none⟩,
 ⟨none,.store 4 (.t 8) (.t 18),none⟩,
 ⟨some 9,.mv (.t 19),none⟩] [8,9])
 .ret)
 .skip)))
 (.seq (.ops [
 ⟨some 20,.mkfn (.func 84) [] [(.t 6),(.t 7)],none⟩,
 ⟨some 11,.mv (.t 20),none⟩] [1,4,8,11])
 (.seq (.draww [0,1,3,2,4,5,6,7] [0,2] 2 [
 ⟨some 21,.load (some 6) (.t 4),none⟩,
 ⟨some 22,.mv (.t 1),none⟩,
 ⟨some 24,.mv (.t 11),none⟩] [
 ⟨some 23,.call (.f 86) [(.t 22)],none⟩,
 ⟨some 25,.call (.f 85) [(.t 23),(.t 24)],none⟩,
 ⟨some 26,.call (.f 81) [(.t 21),(.t 25)],none⟩,
 ⟨none,.store 4 (.t 8) (.t 26),none⟩,
 ⟨some 9,.mv (.c (.int .i64 0)),none⟩] [8,9])
 .ret)))),
 [.c 8 (some 4),.t 9]⟩
theorem k23:chkF Tryz.prog Tryz.f23 c23=true:=by kernel_rfl
theorem indexNt (f:Nat) (caps:List AV) (hcap:∀ c∈caps,PureV c) (q:Nt→Bool) (l:List Nt) (hl:l.length < 9223372036854775808) (hq:∀ x∈l,Pure Tryz.prog f ([.agg (Nt.cs x)]++caps) (bl (q x))):Pure Tryz.prog 157 [ntS l,.fn (.func f) [] caps] (n (fidx q 0 l)):=by
  refine Pure.of_body Tryz.call157 Tryz.func157 k157 (Nat.le_of_ble_eq_true rfl) ?_
  unfold c157
  (repeat' ((first
 | refine vn rfl ?_
 | simp (disch:=omega) only [wr64,Int.zero_sub]
 | refine bo (fun _=>?_) fun _=>?_
 | refine im fun _=>?_
 | refine cF ?_
 | refine om ?_
 | refine an ?_
 | fail) <;> try simp only [zN,zT,zV,zS,zU,vcC,lateX,ex,strp,binA,elems,cells,scalar,eqC,keyA,intsA,lookA,ofVs,mpOf,Nat.reduceBEq,reduceAdd,reduceSub,reduceLT,reduceLeDiff,reduceMul,reduceEqDiff,reduceIte]))
  refine AWPC.loopI 8 l.length (fun i=>fidx q i (l.drop i)=fidx q 0 l) (by simp) ?_ ?_
  · (simp only [zN,zT,zV,zS,zU,vcC,lateX,ex,strp,binA,elems,cells,scalar,eqC,keyA,intsA,lookA,ofVs,mpOf,Nat.reduceBEq,reduceAdd,reduceSub,reduceLT,reduceLeDiff,reduceMul,reduceEqDiff,reduceIte]; try simp)
  · intro i hi hI
    by_cases hlt:i < l.length
    · obtain ⟨x,hx⟩:∃ x,l[i]?=some x:=⟨_,List.getElem?_eq_getElem hlt⟩
      have hc:=hq x (List.mem_of_getElem? hx)
      rw [drop_cons hx,fidx] at hI
      (repeat' ((first
 | refine vn rfl ?_
 | simp (disch:=omega) only [wr64,Int.zero_sub]
 | refine bo (fun _=>?_) fun _=>?_
 | refine im fun _=>?_
 | refine cF ?_
 | refine om ?_
 | refine an ?_
 | fail) <;> try simp only [zN,zT,zV,zS,zU,vcC,lateX,ex,strp,binA,elems,cells,scalar,eqC,keyA,intsA,lookA,ofVs,mpOf,Nat.reduceBEq,reduceAdd,reduceSub,reduceLT,reduceLeDiff,reduceMul,reduceEqDiff,reduceIte,getD_map hx]))
      all_goals try (exfalso; omega)
      refine .inl ⟨_,_,_,_,rfl,fun _=>.of ?_ (hc),?_⟩
      · intro a ha
        simp only [List.nil_append,List.cons_append,List.mem_cons] at ha
        rcases ha with rfl | ha
        · simp
        · exact hcap a ha
      refine owp_of_exs ?_
      simp only [zN,zT,zV,zS,zU,vcC,lateX,ex,strp,binA,elems,cells,scalar,eqC,keyA,intsA,lookA,ofVs,mpOf,Nat.reduceBEq,reduceAdd,reduceSub,reduceLT,reduceLeDiff,reduceMul,reduceEqDiff,reduceIte]
      (repeat' ((first
 | refine vn rfl ?_
 | simp (disch:=omega) only [wr64,Int.zero_sub]
 | refine bo (fun _=>?_) fun _=>?_
 | refine im fun _=>?_
 | refine cF ?_
 | refine om ?_
 | refine an ?_
 | fail) <;> try simp only [zN,zT,zV,zS,zU,vcC,lateX,ex,strp,binA,elems,cells,scalar,eqC,keyA,intsA,lookA,ofVs,mpOf,Nat.reduceBEq,reduceAdd,reduceSub,reduceLT,reduceLeDiff,reduceMul,reduceEqDiff,reduceIte]))
      · rename_i h
        rw [h] at hI
        simp only [if_true] at hI
        rw [← hI]
        exact Frz.eq rfl (by simp)
      · rename_i h
        rw [h] at hI
        exact ⟨⟨i+1,hlt,by simpa using hI⟩,by simp,by simp only; omega⟩
    · obtain rfl:i=l.length:=by omega
      rw [List.drop_length,fidx] at hI
      (repeat' ((first
 | refine vn rfl ?_
 | simp (disch:=omega) only [wr64,Int.zero_sub]
 | refine bo (fun _=>?_) fun _=>?_
 | refine im fun _=>?_
 | refine cF ?_
 | refine om ?_
 | refine an ?_
 | fail) <;> try simp only [zN,zT,zV,zS,zU,vcC,lateX,ex,strp,binA,elems,cells,scalar,eqC,keyA,intsA,lookA,ofVs,mpOf,Nat.reduceBEq,reduceAdd,reduceSub,reduceLT,reduceLeDiff,reduceMul,reduceEqDiff,reduceIte]))
      all_goals try (exfalso; omega)
      rw [← hI]
      exact Frz.eq rfl (by simp)
theorem cloneNtD (l:List Nt) (hl:l.length * 368≤140737488355328) (σ:Sto):Does Tryz.prog 86 [ntS l] σ (OwnAt σ 68 38 (l.map Nt.cs)):=by
  have nil:Does Tryz.prog 86 [.v (.slice none 0 0)] σ (OwnAt σ 68 38 []):=by
    refine Does.of_body Tryz.call86 Tryz.func86 k86 (Nat.le_of_ble_eq_true rfl) ?_
    unfold c86
    refine AWPC.of_vc ?_; simp only [zN,zS,zU,vcC,lateX,ex,strp,binA,elems,cells,scalar,eqC,keyA,intsA,lookA,ofVs,mpOf,Nat.reduceBEq,reduceAdd,reduceSub,reduceLT,reduceLeDiff,reduceMul,reduceEqDiff,reduceIte]
    refine AWPC.of_vc ?_; simp only [zN,zS,zU,vcC,lateX,ex,strp,binA,elems,cells,scalar,eqC,keyA,intsA,lookA,ofVs,mpOf,Nat.reduceBEq,reduceAdd,reduceSub,reduceLT,reduceLeDiff,reduceMul,reduceEqDiff,reduceIte]
    refine AWPC.of_vc ?_
    simp only [vcC]
    refine ⟨fun _=>?_,fun h=>by cases h⟩
    refine AWPC.of_vc ?_; simp only [zN,zS,zU,vcC,lateX,ex,strp,binA,elems,cells,scalar,eqC,keyA,intsA,lookA,ofVs,mpOf,Nat.reduceBEq,reduceAdd,reduceSub,reduceLT,reduceLeDiff,reduceMul,reduceEqDiff,reduceIte]
    refine AWPC.own0 68 38 2 rfl ?_
    refine AWPC.of_vc ?_; simp only [zN,zS,zU,vcC,lateX,ex,strp,binA,elems,cells,scalar,eqC,keyA,intsA,lookA,ofVs,mpOf,Nat.reduceBEq,reduceAdd,reduceSub,reduceLT,reduceLeDiff,reduceMul,reduceEqDiff,reduceIte]
    exact .mk [] rfl rfl
  have emp:∀ a cap,Does Tryz.prog 86 [.v (.slice (some a) 0 cap)] σ (OwnAt σ 68 38 []):=by
    intro a cap
    refine Does.of_body Tryz.call86 Tryz.func86 k86 (Nat.le_of_ble_eq_true rfl) ?_
    unfold c86
    (repeat' ((first
 | refine vn rfl ?_
 | simp (disch:=omega) only [wr64,Int.zero_sub]
 | refine bo (fun _=>?_) fun _=>?_
 | refine im fun _=>?_
 | refine cF ?_
 | refine om ?_
 | refine an ?_
 | fail) <;> try simp only [zN,zT,zV,zS,zU,vcC,lateX,ex,strp,binA,elems,cells,scalar,eqC,keyA,intsA,lookA,ofVs,mpOf,Nat.reduceBEq,reduceAdd,reduceSub,reduceLT,reduceLeDiff,reduceMul,reduceEqDiff,reduceIte]))
    all_goals exact .mk [] rfl rfl
  by_cases h0:l=[]
  · subst h0
    exact byNilD nil emp
  · refine Does.of_body Tryz.call86 Tryz.func86 k86 (Nat.le_of_ble_eq_true rfl) ?_
    unfold c86
    have hne:l.map Nt.cs≠[]:=by simpa using h0
    (repeat' ((first
 | refine vn rfl ?_
 | simp (disch:=omega) only [wr64,Int.zero_sub]
 | refine bo (fun _=>?_) fun _=>?_
 | refine im fun _=>?_
 | refine cF ?_
 | refine om ?_
 | refine an ?_
 | fail) <;> try simp only [zN,zT,zV,zS,zU,vcC,lateX,ex,strp,binA,elems,cells,scalar,eqC,keyA,intsA,lookA,ofVs,mpOf,Nat.reduceBEq,reduceAdd,reduceSub,reduceLT,reduceLeDiff,reduceMul,reduceEqDiff,reduceIte]))
    refine ⟨⟨rowsL (cs:=Nt.cs) (fun a=>rfl) l,by omega⟩,?_⟩
    (repeat' ((first
 | refine vn rfl ?_
 | simp (disch:=omega) only [wr64,Int.zero_sub]
 | refine bo (fun _=>?_) fun _=>?_
 | refine im fun _=>?_
 | refine cF ?_
 | refine om ?_
 | refine an ?_
 | fail) <;> try simp only [zN,zT,zV,zS,zU,vcC,lateX,ex,strp,binA,elems,cells,scalar,eqC,keyA,intsA,lookA,ofVs,mpOf,Nat.reduceBEq,reduceAdd,reduceSub,reduceLT,reduceLeDiff,reduceMul,reduceEqDiff,reduceIte]))
    exact .mk [] (by simp) rfl
theorem asOf1_spec (day clock:Int) (a:Nt):Pure Tryz.prog 84 [.agg a.cs,.iptr [n day] 0,.iptr [n clock] 0] (bl (!decide (a.day≤day∧a.clock≤clock))):=by
  refine Pure.of_body Tryz.call84 Tryz.func84 k84 (Nat.le_of_ble_eq_true rfl) ?_
  unfold c84
  (repeat' ((first
 | refine vn rfl ?_
 | simp (disch:=omega) only [wr64,Int.zero_sub]
 | refine bo (fun _=>?_) fun _=>?_
 | refine im fun _=>?_
 | refine cF ?_
 | refine om ?_
 | refine an ?_
 | fail) <;> try simp only [zN,zT,zV,zS,zU,vcC,lateX,ex,strp,binA,elems,cells,scalar,eqC,keyA,intsA,lookA,ofVs,mpOf,Nat.reduceBEq,reduceAdd,reduceSub,reduceLT,reduceLeDiff,reduceMul,reduceEqDiff,reduceIte]))
  exact Frz.eq (congrArg bl (by rw [decide_eq_decide]; omega)) (by simp)
theorem gone_upd {σ μ:Sto} {f:Nat} {o o':Ob} (h:σ.at f 0=some o):gone (σ.upd f 0 o'++μ) f=gone σ f++μ:=by
  have hlt:=at_lt h
  rw [gone,List.set_append_left _ _ (by rw [upd_length]; exact hlt)]
  congr 1
  unfold Sto.at at h
  unfold Sto.upd
  split at h
  · rename_i F hF
    simp only [hF,gone,List.set_set]
  · cases h
inductive Left (σ:Sto) (f:Nat) (r0:AV):AV→Sto→Prop
  | mk (ν:Sto) {r:AV} {σ':Sto} (h:r=r0) (h':σ'=gone σ f++ν):Left σ f r0 r σ'
structure DelS (q:Nt→Bool) (l R:List Nt) (i j:Nat):Prop where
  len:R.length=l.length
  lt:i < j
  le:j≤l.length
  tk:R.take i=(l.take j).filter (fun a=>!q a)
  dr:R.drop j=l.drop j
theorem DelS.init {q:Nt→Bool} {l:List Nt} {i:Nat} (hi:i < l.length) (h1:q l[i]=true) (h2:∀ j (hj:j < i),q (l[j]'(by omega))=false):DelS q l l i (i+1):=by
  refine ⟨rfl,by omega,hi,?_,rfl⟩
  rw [List.take_add_one,List.getElem?_eq_getElem hi,List.filter_append]
  have e:(l.take i).filter (fun a=>!q a)=l.take i:=by
    rw [List.filter_eq_self]
    intro a ha
    obtain ⟨j,hj,rfl⟩:=List.mem_iff_getElem.1 ha
    rw [List.length_take] at hj
    rw [List.getElem_take,h2 j (by omega)]; rfl
  rw [e]; simp [h1]
theorem DelS.get {q:Nt→Bool} {l R:List Nt} {i j:Nat} (h:DelS q l R i j) (hj:j < l.length):R[j]?=l[j]?:=by
  have h1:(R.drop j)[0]?=(l.drop j)[0]?:=by rw [h.dr]
  simpa using h1
theorem DelS.drop1 {q:Nt→Bool} {l R:List Nt} {i j:Nat} (h:DelS q l R i j):R.drop (j+1)=l.drop (j+1):=by
  have h1:(R.drop j).drop 1=(l.drop j).drop 1:=by rw [h.dr]
  simpa [List.drop_drop,Nat.add_comm] using h1
theorem DelS.skip {q:Nt→Bool} {l R:List Nt} {i j:Nat} {a:Nt} (h:DelS q l R i j) (ha:l[j]?=some a) (hq:q a=true):DelS q l R i (j+1):=by
  have hj:=(List.getElem?_eq_some_iff.1 ha).1
  refine ⟨h.len,by have:=h.lt; omega,hj,?_,h.drop1⟩
  rw [h.tk,List.take_add_one,ha,List.filter_append]; simp [hq]
theorem DelS.keep {q:Nt→Bool} {l R:List Nt} {i j:Nat} {a:Nt} (h:DelS q l R i j) (ha:l[j]?=some a) (hq:q a=false):DelS q l (R.set i a) (i+1) (j+1):=by
  have hj:=(List.getElem?_eq_some_iff.1 ha).1
  have hlt:=h.lt
  have hlen:=h.len
  refine ⟨by rw [List.length_set]; exact h.len,by omega,hj,?_,?_⟩
  · rw [List.take_add_one,List.getElem?_set_self (by omega),List.take_set_of_le (Nat.le_refl _),h.tk,List.take_add_one,ha,List.filter_append]; simp [hq]
  · rw [List.drop_set_of_lt (by omega)]; exact h.drop1
theorem upd_upd {σ:Sto} {f i:Nat} {a b o:Ob} (h:σ.at f i=some o):(σ.upd f i a).upd f i b=σ.upd f i b:=by
  unfold Sto.at at h
  unfold Sto.upd
  split at h
  · rename_i F hF
    have hlt:=(List.getElem?_eq_some_iff.1 hF).1
    simp only [hF,List.getElem?_set_self hlt,List.set_set]
  · cases h
theorem delete_does (q:Nt→Bool) (fd:Nat) (cap:List AV) (hcap:∀ c∈cap,PureV c) (hq:∀ a,Pure Tryz.prog fd ([.agg (Nt.cs a)]++cap) (bl (q a))) (σ:Sto) (f:Nat) (l:List Nt) (hl:l.length < 9223372036854775808) (hf:σ.at f 0=some ⟨68,38,l.map Nt.cs,none⟩) :
    Does Tryz.prog 85 [.own f 0 l.length,.fn (.func fd) [] cap] σ (Left σ f (ntS (l.filter fun a=>!q a))):=by
  refine Does.of_body Tryz.call85 Tryz.func85 k85 (Nat.le_of_ble_eq_true rfl) ?_
  unfold c85
  have hcp:PureV (.fn (.func fd) [] cap):=PureV.fn (fun _ h=>absurd h (List.not_mem_nil)) hcap
  have hix:=indexNt fd cap hcap q l hl fun x _=>hq x
  have hz:=fidx_opt q l
  cases hi:l.findIdx? q with
  | none =>
    rw [hi] at hz
    simp only at hz
    rw [hz] at hix
    have hall:l.filter (fun a=>!q a)=l:=by
      rw [List.filter_eq_self]
      intro a ha
      have:=List.findIdx?_eq_none_iff.1 hi a ha
      simp [this]
    rw [hall]
    refine AWPC.freeze1 (t:=0) (f:=f) (n:=l.length) (o:=⟨68,38,l.map Nt.cs,none⟩) rfl hf (by simp) (by simp) ?_
    (repeat' ((first
 | refine vn rfl ?_
 | simp (disch:=omega) only [wr64,Int.zero_sub]
 | refine bo (fun _=>?_) fun _=>?_
 | refine im fun _=>?_
 | ((repeat refine si ?_); (first | ((first | refine .inl ⟨_,_,_,_,rfl,fun _=>pu hix,?_⟩ | refine ⟨_,_,_,_,rfl,fun _=>pu hix,?_⟩); (first | refine o1 ?_ | refine o2 ?_ | refine o3 ?_ | refine o4 ?_)) | refine .inl ⟨_,_,_,_,rfl,pu hix,?_⟩))
 | refine cF ?_
 | refine om ?_
 | refine an ?_
 | fail) <;> try simp only [zN,zT,zV,zS,zU,vcC,lateX,ex,strp,binA,elems,cells,scalar,eqC,keyA,intsA,lookA,ofVs,mpOf,Nat.reduceBEq,reduceAdd,reduceSub,reduceLT,reduceLeDiff,reduceMul,reduceEqDiff,reduceIte]))
    all_goals try (exfalso; omega)
    exact .mk [] rfl (by simp)
  | some i =>
    rw [hi] at hz
    simp only at hz
    rw [hz] at hix
    have hp:Peek Tryz.prog 157 [.own f 0 l.length,.fn (.func fd) [] cap] σ (n (i:Int)) :=
      Peek.plain hix (by simp) ⟨Frz.ownL hf rfl (by decide) (fun a=>Nt.pc a) (fun a=>rfl),Frz.pure hcp,trivial⟩
    obtain ⟨hil,hqi,hqj⟩:=List.findIdx?_eq_some_iff_getElem.1 hi
    have hf1:Sto.at σ f 0=some ⟨68,38,l.map Nt.cs,none⟩:=hf
    (repeat' ((first
 | refine vn rfl ?_
 | simp (disch:=omega) only [wr64,Int.zero_sub]
 | refine bo (fun _=>?_) fun _=>?_
 | refine im fun _=>?_
 | ((repeat refine si ?_); ((first | refine .inl ⟨_,_,_,_,rfl,fun _=>(by first | exact hp),?_⟩ | refine ⟨_,_,_,_,rfl,fun _=>(by first | exact hp),?_⟩); (first | refine o1 ?_ | refine o2 ?_ | refine o3 ?_ | refine o4 ?_)))
 | refine cF ?_
 | refine om ?_
 | refine an ?_
 | fail) <;> try simp only [zN,zT,zV,zS,zU,vcC,lateX,ex,strp,binA,elems,cells,scalar,eqC,keyA,intsA,lookA,ofVs,mpOf,Nat.reduceBEq,reduceAdd,reduceSub,reduceLT,reduceLeDiff,reduceMul,reduceEqDiff,reduceIte,hf1]))
    all_goals try (exfalso; omega)
    have hflt:=at_lt hf
    refine AWPC.loopE (α:={ x:Nat × Nat × List Nt × Sto // DelS q l x.2.2.1 x.1 x.2.1 }) [5,6] (fun x=>[(5,n x.1.1),(6,n x.1.2.1)])
      (fun x=>σ.upd f 0 ⟨68,38,x.1.2.2.1.map Nt.cs,none⟩++x.1.2.2.2) (fun x=>l.length - x.1.2.1) ⟨(i,i+1,l,[]),DelS.init hil hqi (fun j hj=>by simpa using hqj j hj)⟩ ?_ (by rw [upd_self hf,List.append_nil]) ?_
    · (simp only [zN,zT,zV,zS,zU,vcC,lateX,ex,strp,binA,elems,cells,scalar,eqC,keyA,intsA,lookA,ofVs,mpOf,Nat.reduceBEq,reduceAdd,reduceSub,reduceLT,reduceLeDiff,reduceMul,reduceEqDiff,reduceIte]; try simp)
    · rintro ⟨⟨i,j,R,μ⟩,hD⟩
      simp only at hD
      obtain ⟨U,hU⟩:∃ U,U=σ.upd f 0 ⟨68,38,R.map Nt.cs,none⟩:=⟨_,rfl⟩
      have hUl:List.length U=List.length σ:=by rw [hU,upd_length]
      have hA:∀ μ,Sto.at (U++μ) f 0=some ⟨68,38,R.map Nt.cs,none⟩:=fun μ=>by rw [at_appL (by omega),hU,at_upd_same hf]
      have hB:∀ o μ,Sto.upd (U++μ) f 0 o=σ.upd f 0 o++μ:=fun o μ=>by rw [upd_appL (by omega),hU,upd_upd hf]
      simp only [← hU]
      have hRl:=hD.len
      have hi1:=hD.lt
      by_cases hlt:j < l.length
      · obtain ⟨a,ha⟩:∃ a,l[j]?=some a:=⟨_,List.getElem?_eq_getElem hlt⟩
        have hs:(R.map Nt.cs).getD j []=Nt.cs a:=getD_map ((hD.get hlt).trans ha)
        have hca:=hq a
        have hset:(R.map Nt.cs).set i (Nt.cs a)=(R.set i a).map Nt.cs:=by rw [List.map_set]
        cases hqa:q a with
        | true =>
          rw [hqa] at hca
          have hN:=hD.skip ha hqa
          (repeat' ((first
 | refine vn rfl ?_
 | simp (disch:=omega) only [wr64,Int.zero_sub]
 | refine bo (fun _=>?_) fun _=>?_
 | refine im fun _=>?_
 | ((repeat refine si ?_); (first | ((first | refine .inl ⟨_,_,_,_,rfl,fun _=>pu hca,?_⟩ | refine ⟨_,_,_,_,rfl,fun _=>pu hca,?_⟩); (first | refine o1 ?_ | refine o2 ?_ | refine o3 ?_ | refine o4 ?_)) | refine .inl ⟨_,_,_,_,rfl,pu hca,?_⟩))
 | refine cF ?_
 | refine om ?_
 | refine an ?_
 | fail) <;> try simp only [zN, zT, zV, zS, zU, vcC, lateX, ex, strp, binA, elems, cells, scalar, eqC, keyA, intsA, lookA, ofVs, mpOf, Nat.reduceBEq, reduceAdd, reduceSub, reduceLT, reduceLeDiff, reduceMul, reduceEqDiff, reduceIte, hA, hB, hs, hRl, at_app, at_app0, upd_app, upd_app0, List.length_map, List.append_assoc, List.cons_append, List.nil_append]))
          all_goals try (exfalso; omega)
          exact ⟨⟨(i,j+1,R,μ++[some [⟨68,38,[a.cs],none⟩]]),hN⟩,by simp,by rw [hU],by simp only; omega⟩
        | false =>
          rw [hqa] at hca
          have hN:=hD.keep ha hqa
          have hsi:(R.map Nt.cs).getD i []=Nt.cs (R.getD i nt0):=row nt0 (by omega)
          (repeat' ((first
 | refine vn rfl ?_
 | simp (disch:=omega) only [wr64,Int.zero_sub]
 | refine bo (fun _=>?_) fun _=>?_
 | refine im fun _=>?_
 | ((repeat refine si ?_); (first | ((first | refine .inl ⟨_,_,_,_,rfl,fun _=>pu hca,?_⟩ | refine ⟨_,_,_,_,rfl,fun _=>pu hca,?_⟩); (first | refine o1 ?_ | refine o2 ?_ | refine o3 ?_ | refine o4 ?_)) | refine .inl ⟨_,_,_,_,rfl,pu hca,?_⟩))
 | refine cF ?_
 | refine om ?_
 | refine an ?_
 | fail) <;> try simp only [zN, zT, zV, zS, zU, vcC, lateX, ex, strp, binA, elems, cells, scalar, eqC, keyA, intsA, lookA, ofVs, mpOf, Nat.reduceBEq, reduceAdd, reduceSub, reduceLT, reduceLeDiff, reduceMul, reduceEqDiff, reduceIte, hA, hB, hs, hsi, hRl, hset, at_app, at_app0, upd_app, upd_app0, List.length_map, List.append_assoc, List.cons_append, List.nil_append]))
          all_goals try (exfalso; omega)
          exact ⟨⟨(i+1,j+1,R.set i a,μ++[some [⟨68,38,[a.cs],none⟩]]),hN⟩,by simp,rfl,by simp only; omega⟩
      · obtain rfl:j=l.length:=by have:=hD.le; omega
        ((first
 | refine vn rfl ?_
 | simp (disch:=omega) only [wr64,Int.zero_sub]
 | refine bo (fun _=>?_) fun _=>?_
 | refine im fun _=>?_
 | refine cF ?_
 | refine om ?_
 | refine an ?_
 | fail) <;> try simp only [zN, zT, zV, zS, zU, vcC, lateX, ex, strp, binA, elems, cells, scalar, eqC, keyA, intsA, lookA, ofVs, mpOf, Nat.reduceBEq, reduceAdd, reduceSub, reduceLT, reduceLeDiff, reduceMul, reduceEqDiff, reduceIte, hA, hRl, List.length_map])
        ((first
 | refine vn rfl ?_
 | simp (disch:=omega) only [wr64,Int.zero_sub]
 | refine bo (fun _=>?_) fun _=>?_
 | refine im fun _=>?_
 | refine cF ?_
 | refine om ?_
 | refine an ?_
 | fail) <;> try simp only [zN, zT, zV, zS, zU, vcC, lateX, ex, strp, binA, elems, cells, scalar, eqC, keyA, intsA, lookA, ofVs, mpOf, Nat.reduceBEq, reduceAdd, reduceSub, reduceLT, reduceLeDiff, reduceMul, reduceEqDiff, reduceIte, hA, hRl, List.length_map])
        ((first
 | refine vn rfl ?_
 | simp (disch:=omega) only [wr64,Int.zero_sub]
 | refine bo (fun _=>?_) fun _=>?_
 | refine im fun _=>?_
 | refine cF ?_
 | refine om ?_
 | refine an ?_
 | fail) <;> try simp only [zN, zT, zV, zS, zU, vcC, lateX, ex, strp, binA, elems, cells, scalar, eqC, keyA, intsA, lookA, ofVs, mpOf, Nat.reduceBEq, reduceAdd, reduceSub, reduceLT, reduceLeDiff, reduceMul, reduceEqDiff, reduceIte, hA, hRl, List.length_map])
        ((first
 | refine vn rfl ?_
 | simp (disch:=omega) only [wr64,Int.zero_sub]
 | refine bo (fun _=>?_) fun _=>?_
 | refine im fun _=>?_
 | refine cF ?_
 | refine om ?_
 | refine an ?_
 | fail) <;> try simp only [zN, zT, zV, zS, zU, vcC, lateX, ex, strp, binA, elems, cells, scalar, eqC, keyA, intsA, lookA, ofVs, mpOf, Nat.reduceBEq, reduceAdd, reduceSub, reduceLT, reduceLeDiff, reduceMul, reduceEqDiff, reduceIte, hA, hRl, List.length_map])
        ((first
 | refine vn rfl ?_
 | simp (disch:=omega) only [wr64,Int.zero_sub]
 | refine bo (fun _=>?_) fun _=>?_
 | refine im fun _=>?_
 | refine cF ?_
 | refine om ?_
 | refine an ?_
 | fail) <;> try simp only [zN, zT, zV, zS, zU, vcC, lateX, ex, strp, binA, elems, cells, scalar, eqC, keyA, intsA, lookA, ofVs, mpOf, Nat.reduceBEq, reduceAdd, reduceSub, reduceLT, reduceLeDiff, reduceMul, reduceEqDiff, reduceIte, hA, hB, hRl, List.length_map])
        have hm1:(List.take i (R.map Nt.cs)).length=i:=by rw [List.length_take,List.length_map]; omega
        have hfin:R.take i=l.filter fun a=>!q a:=by rw [hD.tk,List.take_length]
        refine AWPC.freeze1 (t:=0) (f:=f) (n:=l.length) (o:=⟨68,38,List.take i (R.map Nt.cs)++List.replicate (l.length - i) (vs z38),none⟩) rfl (by rw [at_appL (by rw [upd_length]; omega),at_upd_same hf])
          (by simp only [List.length_append,hm1,List.length_replicate]; omega) (by simp) ?_
        have hlen2:((List.take i (R.map Nt.cs)++List.replicate (l.length - i) (vs z38)).length:Int)=l.length:=by simp only [List.length_append,hm1,List.length_replicate]; omega
        have htk2:List.take i (List.take i (R.map Nt.cs)++List.replicate (l.length - i) (vs z38))=(l.filter fun a=>!q a).map Nt.cs:=by
          rw [List.take_append_of_le_length (by omega),List.take_take,Nat.min_self,← List.map_take,hfin]
        generalize List.take i (R.map Nt.cs)++List.replicate (l.length - i) (vs z38)=es at hlen2 htk2
        (repeat' ((first
 | refine vn rfl ?_
 | simp (disch:=omega) only [wr64,Int.zero_sub]
 | refine bo (fun _=>?_) fun _=>?_
 | refine im fun _=>?_
 | refine cF ?_
 | refine om ?_
 | refine an ?_
 | fail) <;> try simp only [zN, zT, zV, zS, zU, vcC, lateX, ex, strp, binA, elems, cells, scalar, eqC, keyA, intsA, lookA, ofVs, mpOf, Nat.reduceBEq, reduceAdd, reduceSub, reduceLT, reduceLeDiff, reduceMul, reduceEqDiff, reduceIte, hlen2, htk2]))
        refine ⟨by simp [sideL,ov,gt,cnd],⟨by omega,by omega,by omega⟩,?_⟩
        (repeat' ((first
 | refine vn rfl ?_
 | simp (disch:=omega) only [wr64,Int.zero_sub]
 | refine bo (fun _=>?_) fun _=>?_
 | refine im fun _=>?_
 | refine cF ?_
 | refine om ?_
 | refine an ?_
 | fail) <;> try simp only [zN, zT, zV, zS, zU, vcC, lateX, ex, strp, binA, elems, cells, scalar, eqC, keyA, intsA, lookA, ofVs, mpOf, Nat.reduceBEq, reduceAdd, reduceSub, reduceLT, reduceLeDiff, reduceMul, reduceEqDiff, reduceIte]))
        exact .mk μ rfl (gone_upd hf)
theorem AsOf_spec (b:Bse) (hb:bseSz b) (l:List Nt) (hl:setSz l) (h4:noH l) (day clock:Int):Pure Tryz.prog 23 [.agg b.cs,ntS l,n day,n clock] (.tup [.agg (asofE b l day clock).1.cs,n (asofE b l day clock).2]):=by
  refine Pure.of_body Tryz.call23 Tryz.func23 k23 (Nat.le_of_ble_eq_true rfl) ?_
  unfold c23
  have h1:=asked_spec b hb [l] (by simp) (by simpa using hl)
  by_cases ha:askedE b [l]=0
  · have hE:asofE b l day clock=(foldT b (l.filter fun a=>decide (a.day≤day∧a.clock≤clock)),0):=by unfold asofE; rw [if_neg (by omega)]
    rw [hE]
    rw [ha] at h1
    have hok:=(askedE_ok ha).2 l (by simp)
    have h400:=(setE_ok hok).2.1
    have h2:=fold_ok b l (l.filter fun a=>decide (a.day≤day∧a.clock≤clock)) hl hok List.filter_sublist (fun a ha=>h4 a (List.mem_filter.1 ha).1)
    generalize foldT b (l.filter fun a=>decide (a.day≤day∧a.clock≤clock))=r at h2
    have hd:=fun σ f=>delete_does (fun a=>!decide (a.day≤day∧a.clock≤clock)) 84 [.iptr [n day] 0,.iptr [n clock] 0] (by simp) (fun a=>asOf1_spec day clock a) σ f l hl.1
    have hnn:(l.filter fun a=>!!decide (a.day≤day∧a.clock≤clock))=l.filter fun a=>decide (a.day≤day∧a.clock≤clock):=by simp
    (repeat' ((first
 | refine vn rfl ?_
 | simp (disch:=omega) only [wr64,Int.zero_sub]
 | refine bo (fun _=>?_) fun _=>?_
 | refine im fun _=>?_
 | ((repeat refine si ?_); (first | ((first | refine .inl ⟨_,_,_,_,rfl,fun _=>pu h1,?_⟩ | refine ⟨_,_,_,_,rfl,fun _=>pu h1,?_⟩); (first | refine o1 ?_ | refine o2 ?_ | refine o3 ?_ | refine o4 ?_)) | refine .inl ⟨_,_,_,_,rfl,pu h1,?_⟩))
 | refine cF ?_
 | refine om ?_
 | refine an ?_
 | fail) <;> try simp only [zN,zT,zV,zS,zU,vcC,lateX,ex,strp,binA,elems,cells,scalar,eqC,keyA,intsA,lookA,ofVs,mpOf,Nat.reduceBEq,reduceAdd,reduceSub,reduceLT,reduceLeDiff,reduceMul,reduceEqDiff,reduceIte]))
    all_goals try (exfalso; omega)
    refine .inr ⟨_,_,_,_,rfl,cloneNtD l (by omega) _,?_⟩
    rintro r1 σ1 ⟨ν1,rfl,rfl⟩
    simp only [zN,zT,zV,zS,zU,vcC,lateX,ex,strp,binA,elems,cells,scalar,eqC,keyA,intsA,lookA,ofVs,mpOf,Nat.reduceBEq,reduceAdd,reduceSub,reduceLT,reduceLeDiff,reduceMul,reduceEqDiff,reduceIte,List.length_map]
    refine .inr ⟨_,_,_,_,rfl,hd _ 1 rfl,?_⟩
    rintro r1 σ1 ⟨ν2,rfl,rfl⟩
    simp only [hnn]
    simp only [zN,zT,zV,zS,zU,vcC,lateX,ex,strp,binA,elems,cells,scalar,eqC,keyA,intsA,lookA,ofVs,mpOf,Nat.reduceBEq,reduceAdd,reduceSub,reduceLT,reduceLeDiff,reduceMul,reduceEqDiff,reduceIte]
    (repeat' ((first
 | refine vn rfl ?_
 | simp (disch:=omega) only [wr64,Int.zero_sub]
 | refine bo (fun _=>?_) fun _=>?_
 | refine im fun _=>?_
 | ((repeat refine si ?_); (first | ((first | refine .inl ⟨_,_,_,_,rfl,fun _=>pu h2,?_⟩ | refine ⟨_,_,_,_,rfl,fun _=>pu h2,?_⟩); (first | refine o1 ?_ | refine o2 ?_ | refine o3 ?_ | refine o4 ?_)) | refine .inl ⟨_,_,_,_,rfl,pu h2,?_⟩))
 | refine cF ?_
 | refine om ?_
 | refine an ?_
 | fail) <;> try simp only [zN,zT,zV,zS,zU,vcC,lateX,ex,strp,binA,elems,cells,scalar,eqC,keyA,intsA,lookA,ofVs,mpOf,Nat.reduceBEq,reduceAdd,reduceSub,reduceLT,reduceLeDiff,reduceMul,reduceEqDiff,reduceIte]))
    exact Frz.tupL ⟨Frz.pure (rgr_pa r),Frz.pure (by simp),trivial⟩
  · have hE:asofE b l day clock=(rgr0,askedE b [l]):=by unfold asofE; rw [if_pos ha]
    rw [hE]
    generalize askedE b [l]=e at h1 ha
    (repeat' ((first
 | refine vn rfl ?_
 | simp (disch:=omega) only [wr64,Int.zero_sub]
 | refine bo (fun _=>?_) fun _=>?_
 | refine im fun _=>?_
 | ((repeat refine si ?_); (first | ((first | refine .inl ⟨_,_,_,_,rfl,fun _=>pu h1,?_⟩ | refine ⟨_,_,_,_,rfl,fun _=>pu h1,?_⟩); (first | refine o1 ?_ | refine o2 ?_ | refine o3 ?_ | refine o4 ?_)) | refine .inl ⟨_,_,_,_,rfl,pu h1,?_⟩))
 | refine cF ?_
 | refine om ?_
 | refine an ?_
 | fail) <;> try simp only [zN,zT,zV,zS,zU,vcC,lateX,ex,strp,binA,elems,cells,scalar,eqC,keyA,intsA,lookA,ofVs,mpOf,Nat.reduceBEq,reduceAdd,reduceSub,reduceLT,reduceLeDiff,reduceMul,reduceEqDiff,reduceIte]))
    all_goals try (exfalso; omega)
    exact Frz.tupL ⟨Frz.aggL ⟨Frz.nil0,Frz.nil0,Frz.nil0,Frz.nil0,trivial⟩,Frz.pure (by simp),trivial⟩
end Go.Proofs.YtolgelipcgcbhaaGreat
