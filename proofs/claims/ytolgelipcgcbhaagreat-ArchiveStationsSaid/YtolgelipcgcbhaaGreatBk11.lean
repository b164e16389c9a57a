/- Part 11 of the texts that the claim rests on: abstract values over the walk, and contracts of functions. -/
import Derived.Test.YtolgelipcgcbhaaGreatBk10
import Derived.Test.YtolgelipcgcbhaaGreatRows
import Derived.ChangeArms
import Derived.DataReads
import Derived.WalkKit
import Derived.ProofKit
import Derived.OpenShut
import Derived.ShutString
import Derived.ChangeOld
import Derived.Below
import Derived.Shelf.Spec.SlicesGrow
import Derived.Shelf.SlGeneric
import Derived.Test.YtolgelipcgcbhaaGreatProg
namespace Go.Abs
set_option linter.unusedVariables false
set_option linter.unusedSimpArgs false
theorem setE_len {b:Bse} {l:List Nt} (h:(setE b l).1=0):l.length≤400:=(setE_ok h).2.1
end Go.Abs
namespace Go.Proofs.YtolgelipcgcbhaaGreat
open Go.Abs
open Nat (reduceAdd reduceSub reduceLT reduceLeDiff reduceMul reduceEqDiff)
set_option linter.unusedVariables false
set_option linter.unusedSimpArgs false
set_option maxHeartbeats 4000000
set_option maxRecDepth 100000
def c35:CF:=⟨2,(jo [jw 0 (.alloc 29 2 [.int .i64 0,.int .i64 0])] [0]
 (jo [jw 1 (.build [.int .i64 0,.int .i64 0] [(0,1,(.c (.int .i64 8))),(1,1,(.c (.int .i64 400)))]),js 2 0 1] [0]
 .ret)),[.c 0 (some 2)]⟩
theorem k35:chkF Tryz.prog Tryz.f35 c35=true:=by kernel_rfl
def c30:CF:=⟨18,(jo [jx 3 29 2 1,jb 4 false] [0,3]
 (.seq (jo [jc 5 0] [0,3,5]
 (.block 0 (.loop (.seq (jo [jm 6 5,jm 7 0,je 8 7,jt .lss 9 6 8] [0,3,5,9]
 (.cond (.t 9) .skip
 (.exit 0)))
 (.seq (.block 1 (.seq (.draw [jm 12 0,jm 13 5,ji 14 2 12 13,jk 15 2 14,jk 16 2 3,jw 17 (.eqs false [some .i64,some .i64] (.t 15) (.t 16))] [] [0,3,5,17])
 (.cond (.t 17) (jo [jb 4 true] [4]
 .ret)
 .skip)))
 (.ops [jm 10 5,ju .add 11 10 1,jm 5 11] [0,3,5]))))))
 (jo [jb 4 false] [4]
 .ret))),[.t 4]⟩
theorem k30:chkF Tryz.prog Tryz.f30 c30=true:=by kernel_rfl
def c34:CF:=⟨17,(jo [jb 2 false] [0]
 (.seq (jo [jc 3 0] [0,3]
 (.block 0 (.loop (.seq (jo [jm 4 3,jm 5 0,je 6 5,jt .lss 7 4 6] [0,3,7]
 (.cond (.t 7) .skip
 (.exit 0)))
 (.seq (.block 1 (.seq (.draw [jm 10 0,jm 11 3,ji 12 38 10 11,jf 13 36 12,jk 14 2 13,jy 15 35 [],jw 16 (.eqs false [some .i64,some .i64] (.t 14) (.t 15))] [] [0,3,16])
 (.cond (.t 16) (jo [jb 2 true] [2]
 .ret)
 .skip)))
 (.ops [jm 8 3,ju .add 9 8 1,jm 3 9] [0,3]))))))
 (jo [jb 2 false] [2]
 .ret))),[.t 2]⟩
theorem k34:chkF Tryz.prog Tryz.f34 c34=true:=by kernel_rfl
def c31:CF:=⟨19,(jo [jw 3 (.box true 68 38 (.t 1)),jn 4] [0,3]
 (jo [jy 5 35 [],jw 6 (.field 0 none (.t 5)),jf 7 0 3,js 1 7 6] [0,3]
 (jo [jy 8 35 [],jw 9 (.field 1 none (.t 8)),jf 10 1 3,js 1 10 9] [0,3]
 (jo [jf 11 2 3,⟨none,.store 1 (.t 11) (.c (.int .i64 1099511627776)),none⟩] [0,3]
 (jo [jf 12 3 3,⟨none,.store 1 (.t 12) (.c (.int .i64 10000)),none⟩] [0,3]
 (.seq (.draww [1,3,4,0,2,5,6] [0,1,2] 2 [jm 14 0,jk 16 38 3,jw 17 (.bsl false 68 38 1 z38 [(0,38,(.t 16))])] [jw 13 (.bsl true 68 38 0 [] []),jw 15 (.app 68 38 368 (.t 13) (.t 14)),jw 18 (.app 68 38 368 (.t 15) (.t 17)),jm 4 18] [4])
 .ret)))))),[.t 4]⟩
theorem k31:chkF Tryz.prog Tryz.f31 c31=true:=by kernel_rfl
def lastN:Nm:=⟨8,400⟩
theorem last_spec:Pure Tryz.prog 35 [] (.agg lastN.cs):=by
  refine Pure.of_body Tryz.call35 Tryz.func35 k35 (Nat.le_of_ble_eq_true rfl) ?_
  unfold c35
  ((refine Au ?_;repeat' first|exact True.intro|refine Cj.mk ?_ ?_)<;>intros<;>refine hD_ ?_)
  all_goals exact Frz.eq rfl (by simp)
theorem named_spec (l:List Nm) (m:Nm) (hl:l.length < 9223372036854775808):Pure Tryz.prog 30 [nmS l,.agg m.cs] (bl (decide (m∈l))):=by
  refine Pure.of_body Tryz.call30 Tryz.func30 k30 (Nat.le_of_ble_eq_true rfl) ?_
  unfold c30
  ((refine Au ?_;repeat' first|exact True.intro|refine Cj.mk ?_ ?_)<;>intros<;>refine hD_ ?_)
  refine AWPC.loopI 5 l.length (fun i=>m ∉ l.take i) (by simp) ?_ ?_
  · (simp only [zN,zT,zV,zS,zU,vcC,lateX,ex,strp,binA,elems,cells,scalar,eqC,keyA,intsA,lookA,ofVs,mpOf,Nat.reduceBEq,reduceAdd,reduceSub,reduceLT,reduceLeDiff,reduceMul,reduceEqDiff,reduceIte]; try simp)
  · intro i hi hI
    by_cases hlt:i < l.length
    · have hx:(l.map Nm.cs).getD i []=Nm.cs (l.getD i nm0):=row _ hlt
      have hg:=getD_lt nm0 hlt
      have hN:m≠l.getD i nm0→m ∉ l.take (i+1):=fun h=>by
        rw [List.take_add_one,hg,Option.toList_some,List.mem_append,List.mem_singleton]; rintro (h' | h')
        · exact hI h'
        · exact h h'
      have hY:m=l.getD i nm0→m∈l:=fun h=>h ▸ List.mem_of_getElem? hg
      generalize l.getD i nm0=x at hx hN hY
      have he:m=x↔x.clerk=m.clerk∧x.num=m.num:=by
        cases m; cases x; simp; constructor <;> (intro h; simp_all)
      clear hg
      ((refine Ax @hx ?_;repeat' first|exact True.intro|refine Cj.mk ?_ ?_)<;>intros<;>refine hD_ ?_)
      all_goals try (exfalso; omega)
      · rename_i h
        rw [decide_eq_true (hY (he.2 h))]; exact Frz.eq rfl (by simp)
      · rename_i h
        exact ⟨⟨i+1,hlt,hN fun e=>h (he.1 e)⟩,by simp,by simp only; omega⟩
    · obtain rfl:i=l.length:=by omega
      rw [List.take_length] at hI
      rw [decide_eq_false hI]
      ((refine Au ?_;repeat' first|exact True.intro|refine Cj.mk ?_ ?_)<;>intros<;>refine hD_ ?_)
      all_goals try (exfalso; omega)
      exact Frz.eq rfl (by simp)
theorem referred_spec (l:List Nt) (hl:l.length < 9223372036854775808):Pure Tryz.prog 34 [ntS l] (bl (l.any fun a=>decide (a.ref=lastN))):=by
  refine Pure.of_body Tryz.call34 Tryz.func34 k34 (Nat.le_of_ble_eq_true rfl) ?_
  unfold c34
  ((refine Au ?_;repeat' first|exact True.intro|refine Cj.mk ?_ ?_)<;>intros<;>refine hD_ ?_)
  refine AWPC.loopI 3 l.length (fun i=>((l.take i).any fun a=>decide (a.ref=lastN))=false) (by simp) ?_ ?_
  · (simp only [zN,zT,zV,zS,zU,vcC,lateX,ex,strp,binA,elems,cells,scalar,eqC,keyA,intsA,lookA,ofVs,mpOf,Nat.reduceBEq,reduceAdd,reduceSub,reduceLT,reduceLeDiff,reduceMul,reduceEqDiff,reduceIte]; try simp)
  · intro i hi hI
    by_cases hlt:i < l.length
    · have hx:(l.map Nt.cs).getD i []=Nt.cs (l.getD i nt0):=row _ hlt
      have hg:=getD_lt nt0 hlt
      have hN:(l.getD i nt0).ref≠lastN→((l.take (i+1)).any fun a=>decide (a.ref=lastN))=false:=fun h=>by
        rw [List.take_add_one,hg,List.any_append,hI,Option.toList_some,List.any_cons,List.any_nil,decide_eq_false h]; rfl
      have hY:(l.getD i nt0).ref=lastN→(l.any fun a=>decide (a.ref=lastN))=true:=fun h=>List.any_eq_true.2 ⟨_,List.mem_of_getElem? hg,decide_eq_true h⟩
      generalize l.getD i nt0=x at hx hN hY
      have he:x.ref=lastN↔x.ref.clerk=8∧x.ref.num=400:=by
        obtain ⟨_,_,_,_,_,_,_,_,_,_,_,⟨_,_⟩⟩:=x
        simp [lastN]
      clear hg
      have hl:=last_spec
      ((refine Az @hx @hl ?_;repeat' first|exact True.intro|refine Cj.mk ?_ ?_)<;>intros<;>refine hD_ ?_)
      all_goals try (exfalso; omega)
      · rename_i h
        rw [hY (he.2 h)]; exact Frz.eq rfl (by simp)
      · rename_i h
        exact ⟨⟨i+1,hlt,hN fun e=>h (he.1 e)⟩,by simp,by simp only; omega⟩
    · obtain rfl:i=l.length:=by omega
      rw [List.take_length] at hI
      rw [hI]
      ((refine Au ?_;repeat' first|exact True.intro|refine Cj.mk ?_ ?_)<;>intros<;>refine hD_ ?_)
      all_goals try (exfalso; omega)
      exact Frz.eq rfl (by simp)
def behN (a:Nt):Nt:={ a with clerk:=8,num:=400,clock:=1099511627776,day:=10000 }
theorem behind_spec (l:List Nt) (a:Nt) (hl:l.length < 4294967296):Pure Tryz.prog 31 [ntS l,.agg a.cs] (ntS (l++[behN a])):=by
  refine Pure.of_body Tryz.call31 Tryz.func31 k31 (Nat.le_of_ble_eq_true rfl) ?_
  unfold c31
  have h1:Pure Tryz.prog 35 [] (.agg [n 8,n 400]):=last_spec
  obtain ⟨t,hc,hc',ht⟩:∃ t:List AV,a.cs=n a.clerk::n a.num::n a.clock::n a.day::t∧(behN a).cs=n 8::n 400::n 1099511627776::n 10000::t∧t.length=34:=⟨_,rfl,rfl,rfl⟩
  have htt:t.take 34=t:=List.take_of_length_le (by omega)
  have hz:List.drop 38 (vs z38)=[]:=rfl
  have hv:ntS (l++[behN a])=.sl 38 (l.map Nt.cs++[n 8::n 400::n 1099511627776::n 10000::t]):=by rw [← hc']; simp
  have hr:∀ e,e < l.length→((l.map Nt.cs).getD e []).length=38:=rowsL (cs:=Nt.cs) (k:=38) (fun a=>rfl) l
  rw [hc,hv]
  clear hc
  (repeat' ((first
 | refine vn rfl ?_
 | simp (disch:=omega) only [wr64,Int.zero_sub]
 | refine bo (fun _=>?_) fun _=>?_
 | refine im fun _=>?_
 | ((repeat refine si ?_); (first | ((first | refine .inl ⟨_,_,_,_,rfl,fun _=>pu h1,?_⟩ | refine ⟨_,_,_,_,rfl,fun _=>pu h1,?_⟩); (first | refine o1 ?_ | refine o2 ?_ | refine o3 ?_ | refine o4 ?_)) | refine .inl ⟨_,_,_,_,rfl,pu h1,?_⟩))
 | refine cF ?_
 | refine om ?_
 | refine an ?_
 | fail) <;> try simp only [zN,zT,zV,zS,zU,vcC,lateX,ex,strp,binA,elems,cells,scalar,eqC,keyA,intsA,lookA,ofVs,mpOf,Nat.reduceBEq,reduceAdd,reduceSub,reduceLT,reduceLeDiff,reduceMul,reduceEqDiff,reduceIte,htt,ht,hz,List.drop_succ_cons,List.drop_zero,List.append_nil,List.take_succ_cons,List.length_map]))
  refine ⟨⟨hr,by omega⟩,by omega,?_⟩
  ((refine Au ?_;repeat' first|exact True.intro|refine Cj.mk ?_ ?_)<;>intros<;>refine hD_ ?_)
  rw [← hv]
  refine Frz.ownL (T:=68) (cs:=Nt.cs) ?_ (by simp) (by decide) (fun a=>Nt.pc a) (fun a=>rfl)
  rw [List.map_append,List.map_cons,List.map_nil,hc']; rfl
theorem foldSz {b:Bse} {l:List Nt} (hl:setSz l) (ok:(setE b l).1=0):rgrSz (foldT b l):=by
  have hn:=setE_nodup ok
  have hl4:=setE_len ok
  have hS:=standT_len l
  have hSm:∀ a∈standT l,a∈l:=fun a ha=>(mem_standT.1 ha).1
  rw [foldT_ref b hn]
  refine ⟨⟨?_,fun f hf=>?_⟩,?_,?_,?_⟩
  · show (shsR (standT l) (standT l)).length < _
    rw [shsR_ent,List.length_map]
    have h1:=(entN_sub (standT l) (standT l)).length_le
    have h2:=List.length_filter_le (kd 1) (standT l)
    omega
  · have hf':f∈(entN (standT l) (standT l)).map (fld (standT l)):=by rw [← shsR_ent]; exact hf
    obtain ⟨a,ha,rfl⟩:=List.mem_map.1 hf'
    have h1:=mks_len (standT_nodup hn) a.nm
    refine ⟨hl.2 a (hSm a (entN_mem ha).1),?_,?_⟩
    · show (List.map _ _).length < _
      rw [List.length_map]; omega
    · show (List.map _ _).length < _
      rw [List.length_map]; omega
  · show (List.map _ _).length < _
    rw [List.length_map]
    have h2:=List.length_filter_le (kd 3) (standT l)
    omega
  · have h1:=(SameS.stsR (setE_ok ok).1.1 (standT l)).ok
    obtain ⟨g1,g2⟩:=stns_small h1
    exact ⟨by show (stsR b.stns (standT l)).length < _; omega,fun s hs=>by have:=g2 s hs; omega⟩
  · show (List.map _ _).length < _
    rw [List.length_map]
    have h2:=List.length_filter_le (badR b l) l
    omega
def c4:CF:=⟨130,(jo [jx 4 26 6 0,jb 8 false] [1,2,3,4]
 (jo [jy 22 18 [],jm 9 22] [1,2,3,4,9]
 (.seq (jo [jk 23 6 4,jy 24 19 [23],jv 25 24,jm 26 25,jd 26 (jm 27 1),jd 26 (jy 28 20 [27]),jd 26 (jv 29 28),jq 30 26 29] [1,2,3,4,9,30]
 (.cond (.t 30) (jo [jm 31 9,jm 8 31] [8]
 .ret)
 .skip))
 (jo [jk 33 6 4,jm 34 1,jy 35 21 [33,34],jm 32 35,jz 36 0 32,jz 37 1 32,jw 10 (.alloc 37 4 [.slice none 0 0,.slice none 0 0,.slice none 0 0,.slice none 0 0]),js 4 10 36,jm 11 37] [1,2,3,4,9,10,11]
 (jo [jk 39 6 4,jm 40 1,jw 41 (.call (.f 23) [(.t 39),(.t 40),(.c (.int .i64 10000)),(.c (.int .i64 1099511627776))]),jm 38 41,jz 42 0 38,jz 43 1 38,jw 12 (.alloc 37 4 [.slice none 0 0,.slice none 0 0,.slice none 0 0,.slice none 0 0]),js 4 12 42,jm 13 43] [1,2,3,4,9,10,11,12,13]
 (.seq (jo [jm 44 11,jm 45 13,jt .neq 46 44 45,jm 47 46,jd 47 (jk 48 4 10),jd 47 (jk 49 4 12),jd 47 (jy 50 27 [48,49]),jd 47 (jv 51 50),jq 52 47 51] [1,2,3,4,9,11,52]
 (.cond (.t 52) (jo [jb 8 false] [8]
 .ret)
 .skip))
 (.seq (jo [jm 53 11,ju .neq 54 53 0] [1,2,3,4,9,54]
 (.cond (.t 54) (jo [jm 55 9,jm 8 55] [8]
 .ret)
 .skip))
 (jo [jn 14] [1,2,3,4,9,14]
 (.seq (jo [jc 15 0] [1,2,3,4,9,14,15]
 (.block 0 (.loop (.seq (jo [jm 56 15,jm 57 1,je 58 57,jt .lss 59 56 58] [1,2,3,4,9,14,15,59]
 (.cond (.t 59) .skip
 (.exit 0)))
 (.seq (.block 1 (jo [jm 62 1,jm 63 15,ji 64 38 62 63,jf 65 3 64,jl 66 65,jm 67 2,jt .leq 68 66 67,jm 69 68,ja 69 (jm 70 1),ja 69 (jm 71 15),ja 69 (ji 72 38 70 71),ja 69 (jf 73 2 72),ja 69 (jl 74 73),ja 69 (jm 75 3),ja 69 (jt .leq 76 74 75),jp 77 69 76] [1,2,3,4,9,14,15,77]
 (.cond (.t 77) (.ops [jm 78 14,jm 79 1,jm 80 15,ji 81 38 79 80,jk 82 38 81,jw 83 (.bsl false 68 38 1 z38 [(0,38,(.t 82))]),jw 84 (.app 68 38 368 (.t 78) (.t 83)),jm 14 84] [1,2,3,4,9,14,15])
 .skip)))
 (.ops [jm 60 15,ju .add 61 60 1,jm 15 61] [1,2,3,4,9,14,15]))))))
 (jo [jk 86 6 4,jm 87 1,jm 88 2,jm 89 3,jy 90 23 [86,87,88,89],jm 85 90,jz 91 0 85,jz 92 1 85,jw 16 (.alloc 37 4 [.slice none 0 0,.slice none 0 0,.slice none 0 0,.slice none 0 0]),js 4 16 91,jm 17 92] [2,3,4,9,14,16,17]
 (jo [jk 94 6 4,jm 95 14,jm 96 2,jm 97 3,jy 98 23 [94,95,96,97],jm 93 98,jz 99 0 93,jz 100 1 93,jw 18 (.alloc 37 4 [.slice none 0 0,.slice none 0 0,.slice none 0 0,.slice none 0 0]),js 4 18 99,jm 19 100] [4,9,14,16,17,18,19]
 (jo [jk 102 6 4,jm 103 14,jy 104 21 [102,103],jm 101 104,jz 105 0 101,jz 106 1 101,jw 20 (.alloc 37 4 [.slice none 0 0,.slice none 0 0,.slice none 0 0,.slice none 0 0]),js 4 20 105,jm 21 106] [9,16,17,18,19,20,21]
 (jo [jm 107 9,jm 108 107,ja 108 (jm 109 17),ja 108 (ju .eql 110 109 0),jp 111 108 110,jm 112 111,ja 112 (jm 113 19),ja 112 (ju .eql 114 113 0),jp 115 112 114,jm 116 115,ja 116 (jm 117 21),ja 116 (ju .eql 118 117 0),jp 119 116 118,jm 120 119,ja 120 (jk 121 4 16),ja 120 (jk 122 4 18),ja 120 (jy 123 27 [121,122]),jp 124 120 123,jm 125 124,ja 125 (jk 126 4 16),ja 125 (jk 127 4 20),ja 125 (jy 128 27 [126,127]),jp 129 125 128,jm 8 129] [8]
 .ret))))))))))))),[.t 8]⟩
theorem k4:chkF Tryz.prog Tryz.f4 c4=true:=by kernel_rfl
theorem setSz.sub {l m:List Nt} (hl:setSz l) (hm:m.Sublist l):setSz m:=⟨Nat.lt_of_le_of_lt hm.length_le hl.1,fun a ha=>hl.2 a (hm.subset ha)⟩
def c6:CF:=⟨96,(jo [jx 3 26 6 0,jb 6 false] [1,2,3]
 (jo [jy 13 18 [],jm 7 13] [1,2,3,7]
 (.seq (jo [jk 14 6 3,jy 15 19 [14],jv 16 15,jm 17 16,jd 17 (jm 18 1),jd 17 (jy 19 20 [18]),jd 17 (jv 20 19),jq 21 17 20,jm 22 21,jd 22 (jm 23 1),jd 22 (je 24 23),jd 22 (ju .gtr 25 24 40),jq 26 22 25,jm 27 26,jd 27 (jm 28 2),jd 27 (ju .lss 29 28 0),jq 30 27 29,jm 31 30,jd 31 (jm 32 2),jd 31 (jm 33 1),jd 31 (je 34 33),jd 31 (jt .geq 35 32 34),jq 36 31 35,jm 37 36,jd 37 (jm 38 1),jd 37 (jm 39 2),jd 37 (ji 40 38 38 39),jd 37 (jf 41 4 40),jd 37 (jl 42 41),jd 37 (ju .eql 43 42 7),jq 44 37 43] [1,2,3,7,44]
 (.cond (.t 44) (jo [jm 45 7,jm 6 45] [6]
 .ret)
 .skip))
 (.seq (.draww [1,2,3,5,6,7,8,0,4,9,10] [0,1,2,3,4,5,6] 2 [jm 47 1,jm 48 2,jw 49 (.slice 38 (.t 47) none (some (.t 48))),jm 51 1,jm 52 2,ju .add 53 52 1,jw 54 (.slice 38 (.t 51) (some (.t 53)) none)] [jw 46 (.bsl true 68 38 0 [] []),jw 50 (.app 68 38 368 (.t 46) (.t 49)),jw 55 (.app 68 38 368 (.t 50) (.t 54)),jm 8 55] [1,2,3,7,8])
 (.seq (.drawl 18 [jk 57 6 3,jm 58 1,jm 59 1,jm 60 2,ji 61 38 59 60,jf 62 0 61,jl 63 62,jm 64 1,jm 65 2,ji 66 38 64 65,jf 67 1 66,jl 68 67,jw 69 (.build [.int .i64 0,.int .i64 0] [(0,1,(.t 63)),(1,1,(.t 68))]),jw 70 (.build z38 [(4,1,(.c (.int .i64 7))),(36,2,(.t 69))]),jy 71 31 [58,70],jy 72 21 [57,71],jm 56 72,jz 73 0 56,jz 74 1 56,jw 9 (.alloc 37 4 [.slice none 0 0,.slice none 0 0,.slice none 0 0,.slice none 0 0])] [js 4 9 73,jm 10 74] [3,7,8,9,10])
 (jo [jk 76 6 3,jm 77 8,jy 78 21 [76,77],jm 75 78,jz 79 0 75,jz 80 1 75,jw 11 (.alloc 37 4 [.slice none 0 0,.slice none 0 0,.slice none 0 0,.slice none 0 0]),js 4 11 79,jm 12 80] [7,9,10,11,12]
 (.seq (jo [jm 81 10,ju .neq 82 81 0] [7,9,11,12,82]
 (.cond (.t 82) (jo [jm 83 7,jm 6 83] [6]
 .ret)
 .skip))
 (.seq (.draw [jm 84 7,jm 85 84,ja 85 (jm 86 12),ja 85 (ju .eql 87 86 0),jp 88 85 87,jm 89 88,ja 89 (jk 90 4 9),ja 89 (jy 91 32 [90]),ja 89 (jk 92 4 11),ja 89 (jy 93 32 [92]),ja 89 (jy 94 27 [91,93]),jp 95 89 94,jm 6 95] [] [6])
 .ret)))))))),[.t 6]⟩
theorem k6:chkF Tryz.prog Tryz.f6 c6=true:=by kernel_rfl
def RL:List AV→List AV→Prop
  | [],[]=>True
  | a::r,b::s=>(∀ w X x,RV w X nob [] a x→RV w X nob [] b x)∧RL r s
  | _,_=>False
theorem RL.len:∀ {cs ds:List AV},RL cs ds→cs.length=ds.length
  | [],[],_=>rfl
  | [],_::_,h=>h.elim
  | _::_,[],h=>h.elim
  | _::_,_::_,h=>by simp [RL.len h.2]
theorem RL.get:∀ {cs ds:List AV},RL cs ds→∀ i,i < cs.length→∀ w X x,RV w X nob [] (cs.getD i .any) x→RV w X nob [] (ds.getD i .any) x
  | [],_,_,i,hi=>absurd hi (Nat.not_lt_zero _)
  | _::_,[],h,_,_=>h.elim
  | _::_,_::_,h,0,_=>h.1
  | _::r,_::s,h,i+1,hi=>by simpa using RL.get h.2 i (by simpa using hi)
theorem RL.agg {cs ds:List AV} (h:RL cs ds) {w:World} {X:Nat→Prop} {x:Value} (hx:RV w X nob [] (.agg cs) x):RV w X nob [] (.agg ds) x:=by
  cases hx with
  | agg _ xs hn h1 hr =>
    have hl:=h.len
    exact .agg ds xs (hn.trans hl) (fun i hi=>h1 i (by omega)) fun i hi=>h.get i (by omega) w X _ (hr i (by omega))
theorem behind_nil {cs:List AV} (l:List Nt) (a:Nt) (hl:l.length < 4294967296) (h:RL cs a.cs):Pure Tryz.prog 31 [ntS l,.agg cs] (ntS (l++[behN a])):=by
  refine Pure.args (args':=[ntS l,.agg a.cs]) rfl (fun i hi w X x hx=>?_) (behind_spec l a hl)
  rcases i with _ | _ | i
  · exact hx
  · exact RL.agg h hx
  · simp only [List.length_cons,List.length_nil] at hi; omega
def c7:CF:=⟨106,(jo [jx 4 26 6 0,jx 7 60 18 3,jb 8 false] [1,2,4,7]
 (jo [jy 14 18 [],jm 9 14] [1,2,4,7,9]
 (.seq (jo [jk 15 6 4,jy 16 19 [15],jv 17 16,jm 18 17,jd 18 (jm 19 1),jd 18 (jy 20 20 [19]),jd 18 (jv 21 20),jq 22 18 21,jm 23 22,jd 23 (jm 24 1),jd 23 (je 25 24),jd 23 (ju .gtr 26 25 40),jq 27 23 26,jm 28 27,jd 28 (jk 29 18 7),jd 28 (jy 30 33 [29]),jd 28 (jv 31 30),jq 32 28 31,jm 33 32,jd 33 (jm 34 1),jd 33 (jy 35 34 [34]),jq 36 33 35] [1,2,4,7,9,36]
 (.cond (.t 36) (jo [jm 37 9,jm 8 37] [8]
 .ret)
 .skip))
 (jo [jk 39 6 4,jm 40 1,jy 41 21 [39,40],jm 38 41,jz 42 0 38,jz 43 1 38,jw 10 (.alloc 37 4 [.slice none 0 0,.slice none 0 0,.slice none 0 0,.slice none 0 0]),js 4 10 42,jm 11 43] [1,2,4,7,9,10,11]
 (.seq (jo [jm 44 11,ju .neq 45 44 0,jm 46 45,jd 46 (jm 47 2),jd 46 (ju .lss 48 47 0),jq 49 46 48,jm 50 49,jd 50 (jm 51 2),jd 50 (jf 52 0 10),jd 50 (jl 53 52),jd 50 (je 54 53),jd 50 (jt .geq 55 51 54),jq 56 50 55] [1,2,4,7,9,10,56]
 (.cond (.t 56) (jo [jm 57 9,jm 8 57] [8]
 .ret)
 .skip))
 (.seq (.drawl 20 [jk 59 6 4,jm 60 1,jf 61 0 10,jl 62 61,jm 63 2,ji 64 24 62 63,jf 65 2 64,jl 66 65,jf 67 0 10,jl 68 67,jm 69 2,ji 70 24 68 69,jf 71 3 70,jl 72 71,jk 73 18 7,jw 74 (.build z38 [(4,1,(.c (.int .i64 1))),(5,1,(.t 66)),(6,1,(.t 72)),(7,18,(.t 73))]),jy 75 31 [60,74],jy 76 21 [59,75],jm 58 76,jz 77 0 58,jz 78 1 58,jw 12 (.alloc 37 4 [.slice none 0 0,.slice none 0 0,.slice none 0 0,.slice none 0 0])] [js 4 12 77,jm 13 78] [9,10,12,13])
 (.seq (jo [jm 79 13,ju .neq 80 79 0] [9,10,12,80]
 (.cond (.t 80) (jo [jm 81 9,jm 8 81] [8]
 .ret)
 .skip))
 (.seq (.draw [jm 82 9,jm 83 82,ja 83 (jf 84 3 12),ja 83 (jl 85 84),ja 83 (jy 86 35 []),ja 83 (jy 87 30 [85,86]),jp 88 83 87,jm 89 88,ja 89 (jf 90 3 12),ja 89 (jl 91 90),ja 89 (je 92 91),ja 89 (jf 93 3 10),ja 89 (jl 94 93),ja 89 (je 95 94),ja 89 (ju .add 96 95 1),ja 89 (jt .eql 97 92 96),jp 98 89 97,jm 99 98,ja 99 (jk 100 4 10),ja 99 (jy 101 32 [100]),ja 99 (jk 102 4 12),ja 99 (jy 103 32 [102]),ja 99 (jy 104 27 [101,103]),jp 105 99 104,jm 8 105] [] [8])
 .ret)))))))),[.t 8]⟩
theorem k7:chkF Tryz.prog Tryz.f7 c7=true:=by kernel_rfl
theorem beh_more {b:Bse} {l:List Nt} {w:Nt} (ok:(setE b (l++[behN w])).1=0) (hr:(l.any fun a=>decide (a.ref=lastN))=false) (hw:w.ref≠lastN) (hk:w.kind≠7):More b l (behN w) :=
  ⟨ok,fun a ha e=>by
    have:=List.any_eq_false.1 hr a ha
    exact this (decide_eq_true e),hw,hk,rfl,rfl⟩
theorem fold_shs {b:Bse} {l:List Nt} (ok:(setE b l).1=0):(foldT b l).sheets.length≤l.length:=by
  have hn:=setE_nodup ok
  have hS:=standT_len l
  rw [foldT_ref b hn]
  show (shsR (standT l) (standT l)).length≤_
  rw [shsR_ent,List.length_map]
  have h1:=(entN_sub (standT l) (standT l)).length_le
  have h2:=List.length_filter_le (kd 1) (standT l)
  omega
theorem fold_nm {b:Bse} {l:List Nt} {x:Fld} (ok:(setE b l).1=0) (hx:x∈(foldT b l).sheets):∃ a∈l,a.nm=x.name:=by
  have hn:=setE_nodup ok
  rw [foldT_ref b hn] at hx
  have hf':x∈(entN (standT l) (standT l)).map (fld (standT l)):=by rw [← shsR_ent]; exact hx
  obtain ⟨a,ha,rfl⟩:=List.mem_map.1 hf'
  exact ⟨a,(mem_standT.1 (entN_mem ha).1).1,rfl⟩
def c9:CF:=⟨158,(jo [jx 5 26 6 0,jx 8 62 3 3,jx 9 64 5 4,jb 10 false] [1,2,5,8,9]
 (jo [jy 19 18 [],jm 11 19] [1,2,5,8,9,11]
 (.seq (jo [jk 20 6 5,jy 21 19 [20],jv 22 21,jm 23 22,jd 23 (jm 24 1),jd 23 (jy 25 20 [24]),jd 23 (jv 26 25),jq 27 23 26,jm 28 27,jd 28 (jm 29 1),jd 28 (je 30 29),jd 28 (ju .gtr 31 30 40),jq 32 28 31,jm 33 32,jd 33 (jm 34 1),jd 33 (jy 35 34 [34]),jq 36 33 35] [1,2,5,8,9,11,36]
 (.cond (.t 36) (jo [jm 37 11,jm 10 37] [10]
 .ret)
 .skip))
 (jo [jk 39 6 5,jm 40 1,jy 41 21 [39,40],jm 38 41,jz 42 0 38,jz 43 1 38,jw 12 (.alloc 37 4 [.slice none 0 0,.slice none 0 0,.slice none 0 0,.slice none 0 0]),js 4 12 42,jm 13 43] [1,2,5,8,9,11,12,13]
 (.seq (jo [jm 44 13,ju .neq 45 44 0] [1,2,5,8,9,11,12,45]
 (.cond (.t 45) (jo [jm 46 11,jm 10 46] [10]
 .ret)
 .skip))
 (.seq (.drawl 8 [jk 48 6 5,jm 49 1,jk 50 5 9,jw 51 (.build z38 [(4,1,(.c (.int .i64 3))),(28,5,(.t 50))]),jy 52 31 [49,51],jy 53 21 [48,52],jm 47 53,jz 54 0 47,jz 55 1 47,jw 14 (.alloc 37 4 [.slice none 0 0,.slice none 0 0,.slice none 0 0,.slice none 0 0])] [js 4 14 54,jm 15 55] [1,2,5,8,9,11,12,14,15])
 (.seq (jo [jm 56 15,ju .eql 57 56 0] [1,2,5,8,9,11,12,14,57]
 (.cond (.t 57) (jo [jk 58 4 12,jw 16 (.alloc 37 4 [.slice none 0 0,.slice none 0 0,.slice none 0 0,.slice none 0 0]),js 4 16 58] [1,2,5,8,9,11,12,14,16]
 (.seq (.draww [1,2,4,5,0,3,6,7,8] [0,1,2,3] 2 [jf 60 1 12,jl 61 60,jk 63 5 9,jw 64 (.bsl false 64 5 1 [.int .i64 0,.int .i64 0,.int .i64 0,.int .i64 0,.int .i64 0] [(0,5,(.t 63))])] [jw 59 (.bsl true 64 5 0 [] []),jw 62 (.app 64 5 40 (.t 59) (.t 61)),jw 65 (.app 64 5 40 (.t 62) (.t 64)),jf 66 1 16,js 1 66 65] [1,2,5,8,11,12,14,16])
 (jo [jk 67 4 14,jk 68 4 16,jy 69 27 [67,68],jv 70 69] [1,2,5,8,11,12,14,70]
 (.cond (.t 70) (jo [jb 10 false] [10]
 .ret)
 .skip))))
 .skip))
 (.seq (jo [jm 71 2,ju .lss 72 71 0,jm 73 72,jd 73 (jm 74 2),jd 73 (jf 75 0 12),jd 73 (jl 76 75),jd 73 (je 77 76),jd 73 (jt .geq 78 74 77),jq 79 73 78] [1,2,5,8,11,12,14,79]
 (.cond (.t 79) (jo [jm 80 11,jm 10 80] [10]
 .ret)
 .skip))
 (jo [jf 81 0 12,jl 82 81,jm 83 2,ji 84 24 82 83,jk 85 24 84,jw 17 (.alloc 72 24 z24),js 24 17 85] [1,2,5,8,11,12,14,17]
 (.seq (.drawl 10 [jk 87 6 5,jm 88 1,jf 89 0 17,jk 90 2 89,jk 91 3 8,jw 92 (.build z38 [(4,1,(.c (.int .i64 2))),(36,2,(.t 90)),(25,3,(.t 91))]),jy 93 31 [88,92],jy 94 21 [87,93],jm 86 94,jz 95 0 86,jz 96 1 86] [js 4 14 95,jm 15 96] [2,8,11,12,14,15,17])
 (.seq (jo [jm 97 15,ju .neq 98 97 0] [2,8,11,12,14,17,98]
 (.cond (.t 98) (jo [jm 99 11,jm 10 99] [10]
 .ret)
 .skip))
 (jo [jk 100 4 12,jw 18 (.alloc 37 4 [.slice none 0 0,.slice none 0 0,.slice none 0 0,.slice none 0 0]),js 4 18 100] [2,8,11,12,14,17,18]
 (jo [jw 101 (.bsl true 72 24 0 [] []),jf 102 0 12,jl 103 102,jw 104 (.app 72 24 288 (.t 101) (.t 103)),jf 105 0 18,js 1 105 104] [2,8,11,12,14,17,18]
 (.seq (jo [jf 106 0 8,jl 107 106,jf 108 4 17,jf 109 12 108,jf 110 0 109,jl 111 110,je 112 111,jt .gtr 113 107 112] [2,8,11,12,14,17,18,113]
 (.cond (.t 113) (jo [jw 114 (.bsl true 29 2 0 [] []),jf 115 3 12,jl 116 115,jw 117 (.app 29 2 16 (.t 114) (.t 116)),jy 118 35 [],jw 119 (.bsl false 29 2 1 [.int .i64 0,.int .i64 0] [(0,2,(.t 118))]),jw 120 (.app 29 2 16 (.t 117) (.t 119)),jf 121 3 18,js 1 121 120] [11,14,18]
 (jo [jm 122 11,jm 123 122,ja 123 (jk 124 4 14),ja 123 (jk 125 4 18),ja 123 (jy 126 27 [124,125]),jp 127 123 126,jm 10 127] [10]
 .ret))
 .skip))
 (.seq (.draww [0,1,2,4,5,7,8,3,6,9,10,11,12] [0,1,2,3,4,5,6] 3 [jf 128 0 18,jl 129 128,jm 130 2,jf 132 22 17,jl 133 132,jk 135 3 8,jw 136 (.bsl false 62 3 1 [.int .i64 0,.int .i64 0,.int .i64 0] [(0,3,(.t 135))])] [jw 131 (.bsl true 62 3 0 [] []),jw 134 (.app 62 3 24 (.t 131) (.t 133)),jw 137 (.app 62 3 24 (.t 134) (.t 136)),ji 138 24 129 130,jf 139 22 138,js 1 139 137] [2,11,14,17,18])
 (.seq (.draww [0,1,2,4,5,3,6,7,8,9,10,11,12] [0,1,2,3,4] 5 [jf 140 0 18,jl 141 140,jm 142 2,jf 144 23 17,jl 145 144] [jw 143 (.bsl true 29 2 0 [] []),jw 146 (.app 29 2 16 (.t 143) (.t 145)),jy 147 35 [],jw 148 (.bsl false 29 2 1 [.int .i64 0,.int .i64 0] [(0,2,(.t 147))]),jw 149 (.app 29 2 16 (.t 146) (.t 148)),ji 150 24 141 142,jf 151 23 150,js 1 151 149] [11,14,18])
 (jo [jm 152 11,jm 153 152,ja 153 (jk 154 4 14),ja 153 (jk 155 4 18),ja 153 (jy 156 27 [154,155]),jp 157 153 156,jm 10 157] [10]
 .ret))))))))))))))))),[.t 10]⟩
theorem k9:chkF Tryz.prog Tryz.f9 c9=true:=by kernel_rfl
def rdgN (x:Rd):Nt:={ nt0 with kind:=3,read:=x }
def mrkN (m:Nm) (k:Mk):Nt:={ nt0 with kind:=2,ref:=m,mark:=k }
abbrev rdgC (x:Rd):List AV:=List.take 28 (List.take 4 (vs z38)++AV.v (.int .i64 3)::List.drop 5 (vs z38))++AV.v (.int .i64 x.stn)::AV.v (.int .i64 x.week)::AV.v (.int .i64 x.tick)::AV.v (.int .i64 x.levels.lo)::AV.v (.int .i64 x.levels.hi)::List.drop 33 (List.take 4 (vs z38)++AV.v (.int .i64 3)::List.drop 5 (vs z38))
theorem rdg_rl (x:Rd):RL (rdgC x) (rdgN x).cs:=by
  repeat' (first | exact trivial | refine ⟨fun _ _ _ h=>h,?_⟩ | refine ⟨fun _ _ _ h=>h.nil,?_⟩)
theorem rdg_pv (l:List Nt) (x:Rd):∀ a∈[ntS l,.agg (rdgC x)],PureV a:=by
  simp [rdgC,vs,z38]
abbrev mrkC (x:Nm) (k:Mk):List AV:=List.take 25 (List.take 36 (List.take 4 (vs z38)++AV.v (.int .i64 2)::List.drop 5 (vs z38))++AV.v (.int .i64 x.clerk)::AV.v (.int .i64 x.num)::List.drop 38 (List.take 4 (vs z38)++AV.v (.int .i64 2)::List.drop 5 (vs z38)))++AV.v (.int .i64 k.col)::AV.v (.int .i64 k.ticks.lo)::AV.v (.int .i64 k.ticks.hi)::List.drop 28 (List.take 36 (List.take 4 (vs z38)++AV.v (.int .i64 2)::List.drop 5 (vs z38))++AV.v (.int .i64 x.clerk)::AV.v (.int .i64 x.num)::List.drop 38 (List.take 4 (vs z38)++AV.v (.int .i64 2)::List.drop 5 (vs z38)))
theorem mrk_rl (x:Nm) (k:Mk):RL (mrkC x k) (mrkN x k).cs:=by
  repeat' (first | exact trivial | refine ⟨fun _ _ _ h=>h,?_⟩ | refine ⟨fun _ _ _ h=>h.nil,?_⟩)
theorem mrk_pv (l:List Nt) (x:Nm) (k:Mk):∀ a∈[ntS l,.agg (mrkC x k)],PureV a:=by
  simp [mrkC,vs,z38]
theorem Read_reg {b:Bse} {l:List Nt} {x:Rd} (ok:(setE b (l++[behN (rdgN x)])).1=0) (hr:(l.any fun a=>decide (a.ref=lastN))=false) :
    foldT b (l++[behN (rdgN x)])={ foldT b l with reads:=(foldT b l).reads++[x] }:=by
  have M:=beh_more ok hr (fun h=>absurd (show (0:Int)=8 from congrArg Nm.clerk h) (by decide)) (show (3:Int)≠7 by decide)
  rw [foldT_ref b (setE_nodup ok),foldT_ref b (setE_nodup M.okl)]
  exact M.read rfl
theorem Mark_reg {b:Bse} {l:List Nt} {x:Fld} {i:Nat} {k:Mk} (ok:(setE b (l++[behN (mrkN x.name k)])).1=0) (h40:l.length≤40) (hr:(l.any fun a=>decide (a.ref=lastN))=false) (hx:(foldT b l).sheets[i]?=some x) :
    foldT b (l++[behN (mrkN x.name k)])=if (x.sheet.rates.length:Int) < k.col then { foldT b l with confl:=(foldT b l).confl++[lastN] }
      else { foldT b l with sheets:=(foldT b l).sheets.set i { x with marks:=x.marks++[k],names:=x.names++[lastN] } }:=by
  have hxn:x.name≠lastN:=fun e=>by
    have hn:=setE_nodup ok
    rw [List.map_append,List.nodup_append] at hn
    obtain ⟨a,h1,h2⟩:=fold_nm (setE_sub ok (List.sublist_append_left _ _)) (List.mem_of_getElem? hx)
    exact hn.2.2 _ (List.mem_map.2 ⟨a,h1,h2.trans e⟩) lastN (by simp [behN,Nt.nm,lastN]) rfl
  have M:=beh_more ok hr hxn (show (2:Int)≠7 by decide)
  rw [foldT_ref b (setE_nodup ok),foldT_ref b (setE_nodup M.okl)]
  rw [foldT_ref b (setE_nodup M.okl)] at hx
  exact M.mark rfl (by omega) hx rfl
theorem fold_rds {b:Bse} {l:List Nt} (ok:(setE b l).1=0):(foldT b l).reads.length≤l.length∧(foldT b l).confl.length≤l.length:=by
  rw [foldT_ref b (setE_nodup ok)]
  refine ⟨?_,?_⟩
  · show (List.map _ _).length≤_
    rw [List.length_map]
    have h1:=List.length_filter_le (kd 3) (standT l)
    have h2:=standT_len l
    omega
  · show (List.map _ _).length≤_
    rw [List.length_map]
    exact List.length_filter_le _ _
theorem fold_mks {b:Bse} {l:List Nt} {x:Fld} (ok:(setE b l).1=0) (hx:x∈(foldT b l).sheets):x.marks.length≤64∧x.names.length≤64:=by
  have hn:=setE_nodup ok
  rw [foldT_ref b hn] at hx
  have hf':x∈(entN (standT l) (standT l)).map (fld (standT l)):=by rw [← shsR_ent]; exact hx
  obtain ⟨a,ha,rfl⟩:=List.mem_map.1 hf'
  have h1:=mks_len (standT_nodup hn) a.nm
  refine ⟨?_,?_⟩
  · show (List.map _ _).length≤_
    rw [List.length_map]; exact h1
  · show (List.map _ _).length≤_
    rw [List.length_map]; exact h1
theorem at_two (A B:Option (List Ob)) (μ ν:Sto) (i j:Nat):Sto.at (A::B::(μ++ν)) (μ.length+2+i) j=Sto.at ν i j:=by
  have:=at_app (A::B::μ) ν i j
  rwa [show (A::B::μ).length+i=μ.length+2+i by simp only [List.length_cons],List.cons_append,List.cons_append] at this
theorem upd_two (A B:Option (List Ob)) (μ ν:Sto) (i j:Nat) (o:Ob):Sto.upd (A::B::(μ++ν)) (μ.length+2+i) j o=A::B::(μ++Sto.upd ν i j o):=by
  have:=upd_app (A::B::μ) ν i j o
  rwa [show (A::B::μ).length+i=μ.length+2+i by simp only [List.length_cons],List.cons_append,List.cons_append,List.cons_append,List.cons_append] at this
theorem gone_two (A B:Option (List Ob)) (μ ν:Sto) (i:Nat):gone (A::B::(μ++ν)) (μ.length+2+i)=A::B::(μ++gone ν i):=by
  have:=gone_app (A::B::μ) ν i
  rwa [show (A::B::μ).length+i=μ.length+2+i by simp only [List.length_cons],List.cons_append,List.cons_append,List.cons_append,List.cons_append] at this
inductive FurI (m:Env) (S:Sto) (env:Env):Sto→Prop
  | mk (μ:Sto) (h:Sub m env):FurI m S env (S++μ)
theorem Further_spec (b:Bse) (l:List Nt) (z:Int) (m:Mk) (rd:Rd) (hb:bseSz b) (hl:setSz l):Pure Tryz.prog 9 [.agg b.cs,ntS l,n z,.agg m.cs,.agg rd.cs] (bl true):=by
  refine Pure.of_body Tryz.call9 Tryz.func9 k9 (Nat.le_of_ble_eq_true rfl) ?_
  unfold c9
  have s1:=small_spec b hb
  have s2:=few_spec l hl.1
  have s4:=referred_spec l hl.1
  have hl0:=hl.1
  generalize smallB b=c1 at s1
  generalize fewB l=c2 at s2
  generalize hc4:(l.any fun a=>decide (a.ref=lastN))=c4 at s4
  by_cases hg:c1=true∧c2=true∧l.length≤40∧c4=false
  · obtain ⟨rfl,rfl,h40,rfl⟩:=hg
    have F1:=Fold_spec b hb l hl
    by_cases ha:askedE b [l]=0
    · have hE:foldE b l=(foldT b l,0):=by unfold foldE; rw [if_neg (by omega)]
      rw [hE] at F1
      simp only at F1
      have zR:=foldSz hl (askedE_one.1 ha)
      have hsl:=fold_shs (askedE_one.1 ha)
      obtain ⟨hrl,hcl⟩:=fold_rds (askedE_one.1 ha)
      obtain ⟨y,hy⟩:∃ y,y=behN (rdgN rd):=⟨_,rfl⟩
      have p1:=fun τ=>pu (τ:=τ) (behind_nil l _ (by omega) (rdg_rl rd)) (rdg_pv l rd)
      rw [← hy] at p1
      have zl:setSz (l++[y]):=⟨by rw [List.length_append,List.length_singleton]; omega,fun a ha=>by
        rcases List.mem_append.1 ha with ha | ha
        · exact hl.2 a ha
        · simp only [List.mem_singleton] at ha; subst ha; rw [hy]; refine ⟨?_,?_,?_,?_⟩ <;> (show (0:Nat) < 9223372036854775808; decide)⟩
      have F2:=Fold_spec b hb (l++[y]) zl
      have hreg:askedE b [l++[y]]=0→foldE b (l++[y])=({ foldT b l with reads:=(foldT b l).reads++[rd] },0):=fun h=>by
        unfold foldE
        rw [if_neg (by omega),hy]
        rw [hy] at h
        rw [Read_reg (askedE_one.1 h) hc4]
      have hE3:askedE b [l++[y]]≠0→foldE b (l++[y])=(rgr0,askedE b [l++[y]]):=fun h=>by unfold foldE; rw [if_pos h]
      have zW:askedE b [l++[y]]=0→rgrSz { foldT b l with reads:=(foldT b l).reads++[rd] }:=fun h=>by
        have:=foldSz zl (askedE_one.1 h)
        rw [hy] at this h
        rwa [Read_reg (askedE_one.1 h) hc4] at this
      obtain ⟨R,hR⟩:∃ R,R=foldT b l:=⟨_,rfl⟩
      rw [← hR] at F1 zR hsl hrl hcl hreg zW
      obtain ⟨X,e,hF,hXe⟩:∃ X e,foldE b (l++[y])=(X,e)∧(e=0→X={ R with reads:=R.reads++[rd] }∧rgrSz X):=by
        by_cases he:askedE b [l++[y]]=0
        · exact ⟨_,_,hreg he,fun _=>⟨rfl,zW he⟩⟩
        · exact ⟨_,_,hE3 he,fun h=>absurd h he⟩
      rw [hF] at F2
      simp only at F2
      clear hreg hE3 zW hF
      generalize l++[y]=L at F2 p1
      ((first
 | refine vn rfl ?_
 | simp (disch:=omega) only [wr64,Int.zero_sub]
 | refine bo (fun _=>?_) fun _=>?_
 | refine im fun _=>?_
 | ((repeat refine si ?_); ((first | refine .inl ⟨_,_,_,_,rfl,fun _=>(by first | exact (p1 _)),?_⟩ | refine ⟨_,_,_,_,rfl,fun _=>(by first | exact (p1 _)),?_⟩); (first | refine o1 ?_ | refine o2 ?_ | refine o3 ?_ | refine o4 ?_)))
 | ((repeat refine si ?_); (first | ((first | refine .inl ⟨_,_,_,_,rfl,fun _=>pu (by first | exact awake_spec | exact s1 | exact s2 | exact s4 | exact F1 | exact F2),?_⟩ | refine ⟨_,_,_,_,rfl,fun _=>pu (by first | exact awake_spec | exact s1 | exact s2 | exact s4 | exact F1 | exact F2),?_⟩); (first | refine o1 ?_ | refine o2 ?_ | refine o3 ?_ | refine o4 ?_)) | refine .inl ⟨_,_,_,_,rfl,pu (by first | exact awake_spec | exact s1 | exact s2 | exact s4 | exact F1 | exact F2),?_⟩))
 | refine cF ?_
 | refine cG ?_
 | refine om ?_
 | refine an ?_
 | fail) <;> try simp only [zN,zT,zV,zS,zU,vcC,lateX,ex,strp,binA,elems,cells,scalar,eqC,keyA,intsA,lookA,ofVs,mpOf,Nat.reduceBEq,reduceAdd,reduceSub,reduceLT,reduceLeDiff,reduceMul,reduceEqDiff,reduceIte])
      all_goals try (exfalso; omega)
      ((first
 | refine vn rfl ?_
 | simp (disch:=omega) only [wr64,Int.zero_sub]
 | refine bo (fun _=>?_) fun _=>?_
 | refine im fun _=>?_
 | ((repeat refine si ?_); ((first | refine .inl ⟨_,_,_,_,rfl,fun _=>(by first | exact (p1 _)),?_⟩ | refine ⟨_,_,_,_,rfl,fun _=>(by first | exact (p1 _)),?_⟩); (first | refine o1 ?_ | refine o2 ?_ | refine o3 ?_ | refine o4 ?_)))
 | ((repeat refine si ?_); (first | ((first | refine .inl ⟨_,_,_,_,rfl,fun _=>pu (by first | exact awake_spec | exact s1 | exact s2 | exact s4 | exact F1 | exact F2),?_⟩ | refine ⟨_,_,_,_,rfl,fun _=>pu (by first | exact awake_spec | exact s1 | exact s2 | exact s4 | exact F1 | exact F2),?_⟩); (first | refine o1 ?_ | refine o2 ?_ | refine o3 ?_ | refine o4 ?_)) | refine .inl ⟨_,_,_,_,rfl,pu (by first | exact awake_spec | exact s1 | exact s2 | exact s4 | exact F1 | exact F2),?_⟩))
 | refine cF ?_
 | refine cG ?_
 | refine om ?_
 | refine an ?_
 | fail) <;> try simp only [zN,zT,zV,zS,zU,vcC,lateX,ex,strp,binA,elems,cells,scalar,eqC,keyA,intsA,lookA,ofVs,mpOf,Nat.reduceBEq,reduceAdd,reduceSub,reduceLT,reduceLeDiff,reduceMul,reduceEqDiff,reduceIte])
      all_goals try (exfalso; omega)
      ((first
 | refine vn rfl ?_
 | simp (disch:=omega) only [wr64,Int.zero_sub]
 | refine bo (fun _=>?_) fun _=>?_
 | refine im fun _=>?_
 | ((repeat refine si ?_); ((first | refine .inl ⟨_,_,_,_,rfl,fun _=>(by first | exact (p1 _)),?_⟩ | refine ⟨_,_,_,_,rfl,fun _=>(by first | exact (p1 _)),?_⟩); (first | refine o1 ?_ | refine o2 ?_ | refine o3 ?_ | refine o4 ?_)))
 | ((repeat refine si ?_); (first | ((first | refine .inl ⟨_,_,_,_,rfl,fun _=>pu (by first | exact awake_spec | exact s1 | exact s2 | exact s4 | exact F1 | exact F2),?_⟩ | refine ⟨_,_,_,_,rfl,fun _=>pu (by first | exact awake_spec | exact s1 | exact s2 | exact s4 | exact F1 | exact F2),?_⟩); (first | refine o1 ?_ | refine o2 ?_ | refine o3 ?_ | refine o4 ?_)) | refine .inl ⟨_,_,_,_,rfl,pu (by first | exact awake_spec | exact s1 | exact s2 | exact s4 | exact F1 | exact F2),?_⟩))
 | refine cF ?_
 | refine cG ?_
 | refine om ?_
 | refine an ?_
 | fail) <;> try simp only [zN,zT,zV,zS,zU,vcC,lateX,ex,strp,binA,elems,cells,scalar,eqC,keyA,intsA,lookA,ofVs,mpOf,Nat.reduceBEq,reduceAdd,reduceSub,reduceLT,reduceLeDiff,reduceMul,reduceEqDiff,reduceIte])
      all_goals try (exfalso; omega)
      ((first
 | refine vn rfl ?_
 | simp (disch:=omega) only [wr64,Int.zero_sub]
 | refine bo (fun _=>?_) fun _=>?_
 | refine im fun _=>?_
 | ((repeat refine si ?_); ((first | refine .inl ⟨_,_,_,_,rfl,fun _=>(by first | exact (p1 _)),?_⟩ | refine ⟨_,_,_,_,rfl,fun _=>(by first | exact (p1 _)),?_⟩); (first | refine o1 ?_ | refine o2 ?_ | refine o3 ?_ | refine o4 ?_)))
 | ((repeat refine si ?_); (first | ((first | refine .inl ⟨_,_,_,_,rfl,fun _=>pu (by first | exact awake_spec | exact s1 | exact s2 | exact s4 | exact F1 | exact F2),?_⟩ | refine ⟨_,_,_,_,rfl,fun _=>pu (by first | exact awake_spec | exact s1 | exact s2 | exact s4 | exact F1 | exact F2),?_⟩); (first | refine o1 ?_ | refine o2 ?_ | refine o3 ?_ | refine o4 ?_)) | refine .inl ⟨_,_,_,_,rfl,pu (by first | exact awake_spec | exact s1 | exact s2 | exact s4 | exact F1 | exact F2),?_⟩))
 | refine cF ?_
 | refine cG ?_
 | refine om ?_
 | refine an ?_
 | fail) <;> try simp only [zN,zT,zV,zS,zU,vcC,lateX,ex,strp,binA,elems,cells,scalar,eqC,keyA,intsA,lookA,ofVs,mpOf,Nat.reduceBEq,reduceAdd,reduceSub,reduceLT,reduceLeDiff,reduceMul,reduceEqDiff,reduceIte])
      all_goals try (exfalso; omega)
      ((first
 | refine vn rfl ?_
 | simp (disch:=omega) only [wr64,Int.zero_sub]
 | refine bo (fun _=>?_) fun _=>?_
 | refine im fun _=>?_
 | ((repeat refine si ?_); ((first | refine .inl ⟨_,_,_,_,rfl,fun _=>(by first | exact (p1 _)),?_⟩ | refine ⟨_,_,_,_,rfl,fun _=>(by first | exact (p1 _)),?_⟩); (first | refine o1 ?_ | refine o2 ?_ | refine o3 ?_ | refine o4 ?_)))
 | ((repeat refine si ?_); (first | ((first | refine .inl ⟨_,_,_,_,rfl,fun _=>pu (by first | exact awake_spec | exact s1 | exact s2 | exact s4 | exact F1 | exact F2),?_⟩ | refine ⟨_,_,_,_,rfl,fun _=>pu (by first | exact awake_spec | exact s1 | exact s2 | exact s4 | exact F1 | exact F2),?_⟩); (first | refine o1 ?_ | refine o2 ?_ | refine o3 ?_ | refine o4 ?_)) | refine .inl ⟨_,_,_,_,rfl,pu (by first | exact awake_spec | exact s1 | exact s2 | exact s4 | exact F1 | exact F2),?_⟩))
 | refine cF ?_
 | refine cG ?_
 | refine om ?_
 | refine an ?_
 | fail) <;> try simp only [zN,zT,zV,zS,zU,vcC,lateX,ex,strp,binA,elems,cells,scalar,eqC,keyA,intsA,lookA,ofVs,mpOf,Nat.reduceBEq,reduceAdd,reduceSub,reduceLT,reduceLeDiff,reduceMul,reduceEqDiff,reduceIte])
      all_goals try (exfalso; omega)
      ((first
 | refine vn rfl ?_
 | simp (disch:=omega) only [wr64,Int.zero_sub]
 | refine bo (fun _=>?_) fun _=>?_
 | refine im fun _=>?_
 | ((repeat refine si ?_); ((first | refine .inl ⟨_,_,_,_,rfl,fun _=>(by first | exact (p1 _)),?_⟩ | refine ⟨_,_,_,_,rfl,fun _=>(by first | exact (p1 _)),?_⟩); (first | refine o1 ?_ | refine o2 ?_ | refine o3 ?_ | refine o4 ?_)))
 | ((repeat refine si ?_); (first | ((first | refine .inl ⟨_,_,_,_,rfl,fun _=>pu (by first | exact awake_spec | exact s1 | exact s2 | exact s4 | exact F1 | exact F2),?_⟩ | refine ⟨_,_,_,_,rfl,fun _=>pu (by first | exact awake_spec | exact s1 | exact s2 | exact s4 | exact F1 | exact F2),?_⟩); (first | refine o1 ?_ | refine o2 ?_ | refine o3 ?_ | refine o4 ?_)) | refine .inl ⟨_,_,_,_,rfl,pu (by first | exact awake_spec | exact s1 | exact s2 | exact s4 | exact F1 | exact F2),?_⟩))
 | refine cF ?_
 | refine cG ?_
 | refine om ?_
 | refine an ?_
 | fail) <;> try simp only [zN,zT,zV,zS,zU,vcC,lateX,ex,strp,binA,elems,cells,scalar,eqC,keyA,intsA,lookA,ofVs,mpOf,Nat.reduceBEq,reduceAdd,reduceSub,reduceLT,reduceLeDiff,reduceMul,reduceEqDiff,reduceIte])
      all_goals try (exfalso; omega)
      ((first
 | refine vn rfl ?_
 | simp (disch:=omega) only [wr64,Int.zero_sub]
 | refine bo (fun _=>?_) fun _=>?_
 | refine im fun _=>?_
 | ((repeat refine si ?_); ((first | refine .inl ⟨_,_,_,_,rfl,fun _=>(by first | exact (p1 _)),?_⟩ | refine ⟨_,_,_,_,rfl,fun _=>(by first | exact (p1 _)),?_⟩); (first | refine o1 ?_ | refine o2 ?_ | refine o3 ?_ | refine o4 ?_)))
 | ((repeat refine si ?_); (first | ((first | refine .inl ⟨_,_,_,_,rfl,fun _=>pu (by first | exact awake_spec | exact s1 | exact s2 | exact s4 | exact F1 | exact F2),?_⟩ | refine ⟨_,_,_,_,rfl,fun _=>pu (by first | exact awake_spec | exact s1 | exact s2 | exact s4 | exact F1 | exact F2),?_⟩); (first | refine o1 ?_ | refine o2 ?_ | refine o3 ?_ | refine o4 ?_)) | refine .inl ⟨_,_,_,_,rfl,pu (by first | exact awake_spec | exact s1 | exact s2 | exact s4 | exact F1 | exact F2),?_⟩))
 | refine cF ?_
 | refine cG ?_
 | refine om ?_
 | refine an ?_
 | fail) <;> try simp only [zN,zT,zV,zS,zU,vcC,lateX,ex,strp,binA,elems,cells,scalar,eqC,keyA,intsA,lookA,ofVs,mpOf,Nat.reduceBEq,reduceAdd,reduceSub,reduceLT,reduceLeDiff,reduceMul,reduceEqDiff,reduceIte])
      all_goals try (exfalso; omega)
      ((first
 | refine vn rfl ?_
 | simp (disch:=omega) only [wr64,Int.zero_sub]
 | refine bo (fun _=>?_) fun _=>?_
 | refine im fun _=>?_
 | ((repeat refine si ?_); ((first | refine .inl ⟨_,_,_,_,rfl,fun _=>(by first | exact (p1 _)),?_⟩ | refine ⟨_,_,_,_,rfl,fun _=>(by first | exact (p1 _)),?_⟩); (first | refine o1 ?_ | refine o2 ?_ | refine o3 ?_ | refine o4 ?_)))
 | ((repeat refine si ?_); (first | ((first | refine .inl ⟨_,_,_,_,rfl,fun _=>pu (by first | exact awake_spec | exact s1 | exact s2 | exact s4 | exact F1 | exact F2),?_⟩ | refine ⟨_,_,_,_,rfl,fun _=>pu (by first | exact awake_spec | exact s1 | exact s2 | exact s4 | exact F1 | exact F2),?_⟩); (first | refine o1 ?_ | refine o2 ?_ | refine o3 ?_ | refine o4 ?_)) | refine .inl ⟨_,_,_,_,rfl,pu (by first | exact awake_spec | exact s1 | exact s2 | exact s4 | exact F1 | exact F2),?_⟩))
 | refine cF ?_
 | refine cG ?_
 | refine om ?_
 | refine an ?_
 | fail) <;> try simp only [zN,zT,zV,zS,zU,vcC,lateX,ex,strp,binA,elems,cells,scalar,eqC,keyA,intsA,lookA,ofVs,mpOf,Nat.reduceBEq,reduceAdd,reduceSub,reduceLT,reduceLeDiff,reduceMul,reduceEqDiff,reduceIte])
      all_goals try (exfalso; omega)
      ((first
 | refine vn rfl ?_
 | simp (disch:=omega) only [wr64,Int.zero_sub]
 | refine bo (fun _=>?_) fun _=>?_
 | refine im fun _=>?_
 | ((repeat refine si ?_); ((first | refine .inl ⟨_,_,_,_,rfl,fun _=>(by first | exact (p1 _)),?_⟩ | refine ⟨_,_,_,_,rfl,fun _=>(by first | exact (p1 _)),?_⟩); (first | refine o1 ?_ | refine o2 ?_ | refine o3 ?_ | refine o4 ?_)))
 | ((repeat refine si ?_); (first | ((first | refine .inl ⟨_,_,_,_,rfl,fun _=>pu (by first | exact awake_spec | exact s1 | exact s2 | exact s4 | exact F1 | exact F2),?_⟩ | refine ⟨_,_,_,_,rfl,fun _=>pu (by first | exact awake_spec | exact s1 | exact s2 | exact s4 | exact F1 | exact F2),?_⟩); (first | refine o1 ?_ | refine o2 ?_ | refine o3 ?_ | refine o4 ?_)) | refine .inl ⟨_,_,_,_,rfl,pu (by first | exact awake_spec | exact s1 | exact s2 | exact s4 | exact F1 | exact F2),?_⟩))
 | refine cF ?_
 | refine cG ?_
 | refine om ?_
 | refine an ?_
 | fail) <;> try simp only [zN,zT,zV,zS,zU,vcC,lateX,ex,strp,binA,elems,cells,scalar,eqC,keyA,intsA,lookA,ofVs,mpOf,Nat.reduceBEq,reduceAdd,reduceSub,reduceLT,reduceLeDiff,reduceMul,reduceEqDiff,reduceIte])
      all_goals try (exfalso; omega)
      ((first
 | refine vn rfl ?_
 | simp (disch:=omega) only [wr64,Int.zero_sub]
 | refine bo (fun _=>?_) fun _=>?_
 | refine im fun _=>?_
 | ((repeat refine si ?_); ((first | refine .inl ⟨_,_,_,_,rfl,fun _=>(by first | exact (p1 _)),?_⟩ | refine ⟨_,_,_,_,rfl,fun _=>(by first | exact (p1 _)),?_⟩); (first | refine o1 ?_ | refine o2 ?_ | refine o3 ?_ | refine o4 ?_)))
 | ((repeat refine si ?_); (first | ((first | refine .inl ⟨_,_,_,_,rfl,fun _=>pu (by first | exact awake_spec | exact s1 | exact s2 | exact s4 | exact F1 | exact F2),?_⟩ | refine ⟨_,_,_,_,rfl,fun _=>pu (by first | exact awake_spec | exact s1 | exact s2 | exact s4 | exact F1 | exact F2),?_⟩); (first | refine o1 ?_ | refine o2 ?_ | refine o3 ?_ | refine o4 ?_)) | refine .inl ⟨_,_,_,_,rfl,pu (by first | exact awake_spec | exact s1 | exact s2 | exact s4 | exact F1 | exact F2),?_⟩))
 | refine cF ?_
 | refine cG ?_
 | refine om ?_
 | refine an ?_
 | fail) <;> try simp only [zN,zT,zV,zS,zU,vcC,lateX,ex,strp,binA,elems,cells,scalar,eqC,keyA,intsA,lookA,ofVs,mpOf,Nat.reduceBEq,reduceAdd,reduceSub,reduceLT,reduceLeDiff,reduceMul,reduceEqDiff,reduceIte])
      all_goals try (exfalso; omega)
      ((first
 | refine vn rfl ?_
 | simp (disch:=omega) only [wr64,Int.zero_sub]
 | refine bo (fun _=>?_) fun _=>?_
 | refine im fun _=>?_
 | ((repeat refine si ?_); ((first | refine .inl ⟨_,_,_,_,rfl,fun _=>(by first | exact (p1 _)),?_⟩ | refine ⟨_,_,_,_,rfl,fun _=>(by first | exact (p1 _)),?_⟩); (first | refine o1 ?_ | refine o2 ?_ | refine o3 ?_ | refine o4 ?_)))
 | ((repeat refine si ?_); (first | ((first | refine .inl ⟨_,_,_,_,rfl,fun _=>pu (by first | exact awake_spec | exact s1 | exact s2 | exact s4 | exact F1 | exact F2),?_⟩ | refine ⟨_,_,_,_,rfl,fun _=>pu (by first | exact awake_spec | exact s1 | exact s2 | exact s4 | exact F1 | exact F2),?_⟩); (first | refine o1 ?_ | refine o2 ?_ | refine o3 ?_ | refine o4 ?_)) | refine .inl ⟨_,_,_,_,rfl,pu (by first | exact awake_spec | exact s1 | exact s2 | exact s4 | exact F1 | exact F2),?_⟩))
 | refine cF ?_
 | refine cG ?_
 | refine om ?_
 | refine an ?_
 | fail) <;> try simp only [zN,zT,zV,zS,zU,vcC,lateX,ex,strp,binA,elems,cells,scalar,eqC,keyA,intsA,lookA,ofVs,mpOf,Nat.reduceBEq,reduceAdd,reduceSub,reduceLT,reduceLeDiff,reduceMul,reduceEqDiff,reduceIte])
      all_goals try (exfalso; omega)
      ((first
 | refine vn rfl ?_
 | simp (disch:=omega) only [wr64,Int.zero_sub]
 | refine bo (fun _=>?_) fun _=>?_
 | refine im fun _=>?_
 | ((repeat refine si ?_); ((first | refine .inl ⟨_,_,_,_,rfl,fun _=>(by first | exact (p1 _)),?_⟩ | refine ⟨_,_,_,_,rfl,fun _=>(by first | exact (p1 _)),?_⟩); (first | refine o1 ?_ | refine o2 ?_ | refine o3 ?_ | refine o4 ?_)))
 | ((repeat refine si ?_); (first | ((first | refine .inl ⟨_,_,_,_,rfl,fun _=>pu (by first | exact awake_spec | exact s1 | exact s2 | exact s4 | exact F1 | exact F2),?_⟩ | refine ⟨_,_,_,_,rfl,fun _=>pu (by first | exact awake_spec | exact s1 | exact s2 | exact s4 | exact F1 | exact F2),?_⟩); (first | refine o1 ?_ | refine o2 ?_ | refine o3 ?_ | refine o4 ?_)) | refine .inl ⟨_,_,_,_,rfl,pu (by first | exact awake_spec | exact s1 | exact s2 | exact s4 | exact F1 | exact F2),?_⟩))
 | refine cF ?_
 | refine cG ?_
 | refine om ?_
 | refine an ?_
 | fail) <;> try simp only [zN,zT,zV,zS,zU,vcC,lateX,ex,strp,binA,elems,cells,scalar,eqC,keyA,intsA,lookA,ofVs,mpOf,Nat.reduceBEq,reduceAdd,reduceSub,reduceLT,reduceLeDiff,reduceMul,reduceEqDiff,reduceIte])
      all_goals try (exfalso; omega)
      ((first
 | refine vn rfl ?_
 | simp (disch:=omega) only [wr64,Int.zero_sub]
 | refine bo (fun _=>?_) fun _=>?_
 | refine im fun _=>?_
 | ((repeat refine si ?_); ((first | refine .inl ⟨_,_,_,_,rfl,fun _=>(by first | exact (p1 _)),?_⟩ | refine ⟨_,_,_,_,rfl,fun _=>(by first | exact (p1 _)),?_⟩); (first | refine o1 ?_ | refine o2 ?_ | refine o3 ?_ | refine o4 ?_)))
 | ((repeat refine si ?_); (first | ((first | refine .inl ⟨_,_,_,_,rfl,fun _=>pu (by first | exact awake_spec | exact s1 | exact s2 | exact s4 | exact F1 | exact F2),?_⟩ | refine ⟨_,_,_,_,rfl,fun _=>pu (by first | exact awake_spec | exact s1 | exact s2 | exact s4 | exact F1 | exact F2),?_⟩); (first | refine o1 ?_ | refine o2 ?_ | refine o3 ?_ | refine o4 ?_)) | refine .inl ⟨_,_,_,_,rfl,pu (by first | exact awake_spec | exact s1 | exact s2 | exact s4 | exact F1 | exact F2),?_⟩))
 | refine cF ?_
 | refine cG ?_
 | refine om ?_
 | refine an ?_
 | fail) <;> try simp only [zN,zT,zV,zS,zU,vcC,lateX,ex,strp,binA,elems,cells,scalar,eqC,keyA,intsA,lookA,ofVs,mpOf,Nat.reduceBEq,reduceAdd,reduceSub,reduceLT,reduceLeDiff,reduceMul,reduceEqDiff,reduceIte])
      all_goals try (exfalso; omega)
      ((first
 | refine vn rfl ?_
 | simp (disch:=omega) only [wr64,Int.zero_sub]
 | refine bo (fun _=>?_) fun _=>?_
 | refine im fun _=>?_
 | ((repeat refine si ?_); ((first | refine .inl ⟨_,_,_,_,rfl,fun _=>(by first | exact (p1 _)),?_⟩ | refine ⟨_,_,_,_,rfl,fun _=>(by first | exact (p1 _)),?_⟩); (first | refine o1 ?_ | refine o2 ?_ | refine o3 ?_ | refine o4 ?_)))
 | ((repeat refine si ?_); (first | ((first | refine .inl ⟨_,_,_,_,rfl,fun _=>pu (by first | exact awake_spec | exact s1 | exact s2 | exact s4 | exact F1 | exact F2),?_⟩ | refine ⟨_,_,_,_,rfl,fun _=>pu (by first | exact awake_spec | exact s1 | exact s2 | exact s4 | exact F1 | exact F2),?_⟩); (first | refine o1 ?_ | refine o2 ?_ | refine o3 ?_ | refine o4 ?_)) | refine .inl ⟨_,_,_,_,rfl,pu (by first | exact awake_spec | exact s1 | exact s2 | exact s4 | exact F1 | exact F2),?_⟩))
 | refine cF ?_
 | refine cG ?_
 | refine om ?_
 | refine an ?_
 | fail) <;> try simp only [zN,zT,zV,zS,zU,vcC,lateX,ex,strp,binA,elems,cells,scalar,eqC,keyA,intsA,lookA,ofVs,mpOf,Nat.reduceBEq,reduceAdd,reduceSub,reduceLT,reduceLeDiff,reduceMul,reduceEqDiff,reduceIte])
      all_goals try (exfalso; omega)
      ((first
 | refine vn rfl ?_
 | simp (disch:=omega) only [wr64,Int.zero_sub]
 | refine bo (fun _=>?_) fun _=>?_
 | refine im fun _=>?_
 | ((repeat refine si ?_); ((first | refine .inl ⟨_,_,_,_,rfl,fun _=>(by first | exact (p1 _)),?_⟩ | refine ⟨_,_,_,_,rfl,fun _=>(by first | exact (p1 _)),?_⟩); (first | refine o1 ?_ | refine o2 ?_ | refine o3 ?_ | refine o4 ?_)))
 | ((repeat refine si ?_); (first | ((first | refine .inl ⟨_,_,_,_,rfl,fun _=>pu (by first | exact awake_spec | exact s1 | exact s2 | exact s4 | exact F1 | exact F2),?_⟩ | refine ⟨_,_,_,_,rfl,fun _=>pu (by first | exact awake_spec | exact s1 | exact s2 | exact s4 | exact F1 | exact F2),?_⟩); (first | refine o1 ?_ | refine o2 ?_ | refine o3 ?_ | refine o4 ?_)) | refine .inl ⟨_,_,_,_,rfl,pu (by first | exact awake_spec | exact s1 | exact s2 | exact s4 | exact F1 | exact F2),?_⟩))
 | refine cF ?_
 | refine cG ?_
 | refine om ?_
 | refine an ?_
 | fail) <;> try simp only [zN,zT,zV,zS,zU,vcC,lateX,ex,strp,binA,elems,cells,scalar,eqC,keyA,intsA,lookA,ofVs,mpOf,Nat.reduceBEq,reduceAdd,reduceSub,reduceLT,reduceLeDiff,reduceMul,reduceEqDiff,reduceIte])
      all_goals try (exfalso; omega)
      ((first
 | refine vn rfl ?_
 | simp (disch:=omega) only [wr64,Int.zero_sub]
 | refine bo (fun _=>?_) fun _=>?_
 | refine im fun _=>?_
 | ((repeat refine si ?_); ((first | refine .inl ⟨_,_,_,_,rfl,fun _=>(by first | exact (p1 _)),?_⟩ | refine ⟨_,_,_,_,rfl,fun _=>(by first | exact (p1 _)),?_⟩); (first | refine o1 ?_ | refine o2 ?_ | refine o3 ?_ | refine o4 ?_)))
 | ((repeat refine si ?_); (first | ((first | refine .inl ⟨_,_,_,_,rfl,fun _=>pu (by first | exact awake_spec | exact s1 | exact s2 | exact s4 | exact F1 | exact F2),?_⟩ | refine ⟨_,_,_,_,rfl,fun _=>pu (by first | exact awake_spec | exact s1 | exact s2 | exact s4 | exact F1 | exact F2),?_⟩); (first | refine o1 ?_ | refine o2 ?_ | refine o3 ?_ | refine o4 ?_)) | refine .inl ⟨_,_,_,_,rfl,pu (by first | exact awake_spec | exact s1 | exact s2 | exact s4 | exact F1 | exact F2),?_⟩))
 | refine cF ?_
 | refine cG ?_
 | refine om ?_
 | refine an ?_
 | fail) <;> try simp only [zN,zT,zV,zS,zU,vcC,lateX,ex,strp,binA,elems,cells,scalar,eqC,keyA,intsA,lookA,ofVs,mpOf,Nat.reduceBEq,reduceAdd,reduceSub,reduceLT,reduceLeDiff,reduceMul,reduceEqDiff,reduceIte])
      all_goals try (exfalso; omega)
      ((first
 | refine vn rfl ?_
 | simp (disch:=omega) only [wr64,Int.zero_sub]
 | refine bo (fun _=>?_) fun _=>?_
 | refine im fun _=>?_
 | ((repeat refine si ?_); ((first | refine .inl ⟨_,_,_,_,rfl,fun _=>(by first | exact (p1 _)),?_⟩ | refine ⟨_,_,_,_,rfl,fun _=>(by first | exact (p1 _)),?_⟩); (first | refine o1 ?_ | refine o2 ?_ | refine o3 ?_ | refine o4 ?_)))
 | ((repeat refine si ?_); (first | ((first | refine .inl ⟨_,_,_,_,rfl,fun _=>pu (by first | exact awake_spec | exact s1 | exact s2 | exact s4 | exact F1 | exact F2),?_⟩ | refine ⟨_,_,_,_,rfl,fun _=>pu (by first | exact awake_spec | exact s1 | exact s2 | exact s4 | exact F1 | exact F2),?_⟩); (first | refine o1 ?_ | refine o2 ?_ | refine o3 ?_ | refine o4 ?_)) | refine .inl ⟨_,_,_,_,rfl,pu (by first | exact awake_spec | exact s1 | exact s2 | exact s4 | exact F1 | exact F2),?_⟩))
 | refine cF ?_
 | refine cG ?_
 | refine om ?_
 | refine an ?_
 | fail) <;> try simp only [zN,zT,zV,zS,zU,vcC,lateX,ex,strp,binA,elems,cells,scalar,eqC,keyA,intsA,lookA,ofVs,mpOf,Nat.reduceBEq,reduceAdd,reduceSub,reduceLT,reduceLeDiff,reduceMul,reduceEqDiff,reduceIte])
      all_goals try (exfalso; omega)
      ((first
 | refine vn rfl ?_
 | simp (disch:=omega) only [wr64,Int.zero_sub]
 | refine bo (fun _=>?_) fun _=>?_
 | refine im fun _=>?_
 | ((repeat refine si ?_); ((first | refine .inl ⟨_,_,_,_,rfl,fun _=>(by first | exact (p1 _)),?_⟩ | refine ⟨_,_,_,_,rfl,fun _=>(by first | exact (p1 _)),?_⟩); (first | refine o1 ?_ | refine o2 ?_ | refine o3 ?_ | refine o4 ?_)))
 | ((repeat refine si ?_); (first | ((first | refine .inl ⟨_,_,_,_,rfl,fun _=>pu (by first | exact awake_spec | exact s1 | exact s2 | exact s4 | exact F1 | exact F2),?_⟩ | refine ⟨_,_,_,_,rfl,fun _=>pu (by first | exact awake_spec | exact s1 | exact s2 | exact s4 | exact F1 | exact F2),?_⟩); (first | refine o1 ?_ | refine o2 ?_ | refine o3 ?_ | refine o4 ?_)) | refine .inl ⟨_,_,_,_,rfl,pu (by first | exact awake_spec | exact s1 | exact s2 | exact s4 | exact F1 | exact F2),?_⟩))
 | refine cF ?_
 | refine cG ?_
 | refine om ?_
 | refine an ?_
 | fail) <;> try simp only [zN,zT,zV,zS,zU,vcC,lateX,ex,strp,binA,elems,cells,scalar,eqC,keyA,intsA,lookA,ofVs,mpOf,Nat.reduceBEq,reduceAdd,reduceSub,reduceLT,reduceLeDiff,reduceMul,reduceEqDiff,reduceIte])
      all_goals try (exfalso; omega)
      ((first
 | refine vn rfl ?_
 | simp (disch:=omega) only [wr64,Int.zero_sub]
 | refine bo (fun _=>?_) fun _=>?_
 | refine im fun _=>?_
 | ((repeat refine si ?_); ((first | refine .inl ⟨_,_,_,_,rfl,fun _=>(by first | exact (p1 _)),?_⟩ | refine ⟨_,_,_,_,rfl,fun _=>(by first | exact (p1 _)),?_⟩); (first | refine o1 ?_ | refine o2 ?_ | refine o3 ?_ | refine o4 ?_)))
 | ((repeat refine si ?_); (first | ((first | refine .inl ⟨_,_,_,_,rfl,fun _=>pu (by first | exact awake_spec | exact s1 | exact s2 | exact s4 | exact F1 | exact F2),?_⟩ | refine ⟨_,_,_,_,rfl,fun _=>pu (by first | exact awake_spec | exact s1 | exact s2 | exact s4 | exact F1 | exact F2),?_⟩); (first | refine o1 ?_ | refine o2 ?_ | refine o3 ?_ | refine o4 ?_)) | refine .inl ⟨_,_,_,_,rfl,pu (by first | exact awake_spec | exact s1 | exact s2 | exact s4 | exact F1 | exact F2),?_⟩))
 | refine cF ?_
 | refine cG ?_
 | refine om ?_
 | refine an ?_
 | fail) <;> try simp only [zN,zT,zV,zS,zU,vcC,lateX,ex,strp,binA,elems,cells,scalar,eqC,keyA,intsA,lookA,ofVs,mpOf,Nat.reduceBEq,reduceAdd,reduceSub,reduceLT,reduceLeDiff,reduceMul,reduceEqDiff,reduceIte])
      all_goals try (exfalso; omega)
      refine AWPC.cut (FurI [(1,ntS l),(2,n z),(5,.iptr b.cs 0),(8,.iptr m.cs 0),(11,bl true),(12,.ptr 0 0 1 0 0),(14,.ptr 1 0 1 0 0)] [some [⟨37,4,[R.cs],none⟩],some [⟨37,4,[X.cs],none⟩]]) ?_ ?_
      · clear s1 s2 s4 F1 F2 p1
        by_cases he:e=0
        · subst he
          obtain ⟨rfl,zX⟩:=hXe rfl
          have q:=sameRgr _ _ zX zX
          rw [decide_eq_true rfl] at q
          have hRr:∀ e,e < R.reads.length→((R.reads.map Rd.cs).getD e []).length=5:=rowsL (cs:=Rd.cs) (k:=5) (fun a=>rfl) R.reads
          ((first
 | refine vn rfl ?_
 | simp (disch:=omega) only [wr64,Int.zero_sub]
 | refine bo (fun _=>?_) fun _=>?_
 | refine im fun _=>?_
 | refine cF ?_
 | refine om ?_
 | refine an ?_
 | fail) <;> try simp only [zN, zT, zV, zS, zU, vcC, lateX, ex, strp, binA, elems, cells, scalar, eqC, keyA, intsA, lookA, ofVs, mpOf, Nat.reduceBEq, reduceAdd, reduceSub, reduceLT, reduceLeDiff, reduceMul, reduceEqDiff, reduceIte])
          all_goals try (exfalso; omega)
          ((first
 | refine vn rfl ?_
 | simp (disch:=omega) only [wr64,Int.zero_sub]
 | refine bo (fun _=>?_) fun _=>?_
 | refine im fun _=>?_
 | refine cF ?_
 | refine om ?_
 | refine an ?_
 | fail) <;> try simp only [zN, zT, zV, zS, zU, vcC, lateX, ex, strp, binA, elems, cells, scalar, eqC, keyA, intsA, lookA, ofVs, mpOf, Nat.reduceBEq, reduceAdd, reduceSub, reduceLT, reduceLeDiff, reduceMul, reduceEqDiff, reduceIte])
          all_goals try (exfalso; omega)
          ((first
 | refine vn rfl ?_
 | simp (disch:=omega) only [wr64,Int.zero_sub]
 | refine bo (fun _=>?_) fun _=>?_
 | refine im fun _=>?_
 | refine cF ?_
 | refine om ?_
 | refine an ?_
 | fail) <;> try simp only [zN, zT, zV, zS, zU, vcC, lateX, ex, strp, binA, elems, cells, scalar, eqC, keyA, intsA, lookA, ofVs, mpOf, Nat.reduceBEq, reduceAdd, reduceSub, reduceLT, reduceLeDiff, reduceMul, reduceEqDiff, reduceIte])
          all_goals try (exfalso; omega)
          ((refine Au ?_;repeat' first|exact True.intro|refine Cj.mk ?_ ?_)<;>intros<;>refine hD_ ?_)
          all_goals try (exfalso; omega)
          refine ⟨⟨hRr,by omega⟩,by omega,?_⟩
          have hm:(R.reads.map Rd.cs++[[n rd.stn,n rd.week,n rd.tick,n rd.levels.lo,n rd.levels.hi]])=(R.reads++[rd]).map Rd.cs:=by simp
          refine AWPC.freezeC (f:=3) (n:=R.reads.length+1) (h:=2) (e:=0) (j:=1) (o:=⟨64,5,(R.reads++[rd]).map Rd.cs,none⟩) (by rw [← hm]; rfl) (by simp) (show (5:Nat)≠0 by decide) rfl (by decide) rfl (show (0:Nat) < 1 by decide) rfl ?_
          refine AWPC.sto (σ':=[some [⟨37,4,[[fdS R.sheets,rdS R.reads,snS R.stns,nmS R.confl]],none⟩],some [⟨37,4,[[fdS R.sheets,rdS (R.reads++[rd]),snS R.stns,nmS R.confl]],none⟩],some [⟨37,4,[[fdS R.sheets,rdS (R.reads++[rd]),snS R.stns,nmS R.confl]],none⟩],none]) rfl ?_
          generalize R.reads++[rd]=T at q hm
          clear hm zX
          ((refine Ay @q ?_;repeat' first|exact True.intro|refine Cj.mk ?_ ?_)<;>intros<;>refine hD_ ?_)
          all_goals try (exfalso; omega)
          all_goals exact .mk _ (by simp only [Sub_cons,SubT]; simp [gt])
        · ((refine Au ?_;repeat' first|exact True.intro|refine Cj.mk ?_ ?_)<;>intros<;>refine hD_ ?_)
          all_goals try (exfalso; omega)
          all_goals exact .mk [] (by simp only [Sub_cons,SubT]; simp [gt])
      rintro env τ ⟨μ,hsub⟩
      refine AWPC.weaken hsub ?_
      clear hsub env s1 s2 s4 F1 F2 p1 hXe
      by_cases hz:0≤z∧z < R.sheets.length
      · obtain ⟨k,rfl⟩:∃ k:Nat,z=k:=⟨z.toNat,by omega⟩
        have hkl:k < R.sheets.length:=by omega
        have hget:R.sheets[k]?=some (R.sheets.getD k fld0):=getD_lt fld0 hkl
        have hrow:(R.sheets.map Fld.cs).getD k []=Fld.cs (R.sheets.getD k fld0):=row fld0 hkl
        generalize R.sheets.getD k fld0=x at hget hrow
        obtain ⟨hml,hnl⟩:x.marks.length≤64∧x.names.length≤64:=by
          rw [hR] at hget
          exact fold_mks (askedE_one.1 ha) (List.mem_of_getElem? hget)
        obtain ⟨y2,hy2⟩:∃ y,y=behN (mrkN x.name m):=⟨_,rfl⟩
        have p2:=fun τ=>pu (τ:=τ) (behind_nil l _ (by omega) (mrk_rl x.name m)) (mrk_pv l x.name m)
        rw [← hy2] at p2
        have zl2:setSz (l++[y2]):=⟨by rw [List.length_append,List.length_singleton]; omega,fun a ha=>by
          rcases List.mem_append.1 ha with ha | ha
          · exact hl.2 a ha
          · simp only [List.mem_singleton] at ha; subst ha; rw [hy2]; refine ⟨?_,?_,?_,?_⟩ <;> (show (0:Nat) < 9223372036854775808; decide)⟩
        have F3:=Fold_spec b hb (l++[y2]) zl2
        obtain ⟨X2,e2,hF2,hX2⟩:∃ X e,foldE b (l++[y2])=(X,e)∧(e=0→rgrSz X∧X=if (x.sheet.rates.length:Int) < m.col then { R with confl:=R.confl++[lastN] }
            else { R with sheets:=R.sheets.set k { x with marks:=x.marks++[m],names:=x.names++[lastN] } }):=by
          by_cases he:askedE b [l++[y2]]=0
          · refine ⟨foldT b (l++[y2]),0,by unfold foldE; rw [if_neg (by omega)],fun _=>⟨foldSz zl2 (askedE_one.1 he),?_⟩⟩
            rw [hy2]
            rw [hy2] at he
            rw [hR] at hget ⊢
            exact Mark_reg (askedE_one.1 he) h40 hc4 hget
          · exact ⟨rgr0,askedE b [l++[y2]],by unfold foldE; rw [if_pos he],fun h=>absurd h he⟩
        rw [hF2] at F3
        simp only at F3
        clear hF2 hy zl hy2 zl2 hget hR hb hl hc4 ha hE
        generalize l++[y2]=L2 at F3 p2
        have hrow2:∀ e,e < R.sheets.length→((R.sheets.map Fld.cs).getD e []).length=24:=rowsL (cs:=Fld.cs) (k:=24) (fun a=>rfl) R.sheets
        by_cases he:e2=0
        · subst he
          obtain ⟨zX2,hX2⟩:=hX2 rfl
          by_cases hc:(x.sheet.rates.length:Int) < m.col
          · rw [if_pos hc] at hX2
            subst hX2
            have q:=sameRgr _ _ zX2 zX2
            rw [decide_eq_true rfl] at q
            have l1:Pure Tryz.prog 35 [] (.agg [n 8,n 400]):=last_spec
            (repeat' ((first
 | refine vn rfl ?_
 | simp (disch:=omega) only [wr64,Int.zero_sub]
 | refine bo (fun _=>?_) fun _=>?_
 | refine im fun _=>?_
 | ((repeat refine si ?_); ((first | refine .inl ⟨_,_,_,_,rfl,fun _=>(by first | exact (p2 _)),?_⟩ | refine ⟨_,_,_,_,rfl,fun _=>(by first | exact (p2 _)),?_⟩); (first | refine o1 ?_ | refine o2 ?_ | refine o3 ?_ | refine o4 ?_)))
 | ((repeat refine si ?_); (first | ((first | refine .inl ⟨_,_,_,_,rfl,fun _=>pu (by first | exact F3 | exact l1),?_⟩ | refine ⟨_,_,_,_,rfl,fun _=>pu (by first | exact F3 | exact l1),?_⟩); (first | refine o1 ?_ | refine o2 ?_ | refine o3 ?_ | refine o4 ?_)) | refine .inl ⟨_,_,_,_,rfl,pu (by first | exact F3 | exact l1),?_⟩))
 | refine cF ?_
 | refine om ?_
 | refine an ?_
 | fail) <;> try simp only [zN, zT, zV, zS, zU, vcC, lateX, ex, strp, binA, elems, cells, scalar, eqC, keyA, intsA, lookA, ofVs, mpOf, Nat.reduceBEq, reduceAdd, reduceSub, reduceLT, reduceLeDiff, reduceMul, reduceEqDiff, reduceIte, hrow, List.length_map]))
            all_goals try (exfalso; omega)
            refine ⟨⟨hrow2,by omega⟩,?_⟩
            have hCr:∀ e,e < R.confl.length→((R.confl.map Nm.cs).getD e []).length=2:=rowsL (cs:=Nm.cs) (k:=2) (fun a=>rfl) R.confl
            ((refine Ay @l1 ?_;repeat' first|exact True.intro|refine Cj.mk ?_ ?_)<;>intros<;>refine hD_ ?_)
            all_goals try (exfalso; omega)
            refine ⟨⟨hCr,by omega⟩,?_⟩
            ((first
 | refine vn rfl ?_
 | simp (disch:=omega) only [wr64,Int.zero_sub]
 | refine bo (fun _=>?_) fun _=>?_
 | refine im fun _=>?_
 | ((repeat refine si ?_); (first | ((first | refine .inl ⟨_,_,_,_,rfl,fun _=>pu l1,?_⟩ | refine ⟨_,_,_,_,rfl,fun _=>pu l1,?_⟩); (first | refine o1 ?_ | refine o2 ?_ | refine o3 ?_ | refine o4 ?_)) | refine .inl ⟨_,_,_,_,rfl,pu l1,?_⟩))
 | refine cF ?_
 | refine cG ?_
 | refine om ?_
 | refine an ?_
 | fail) <;> try simp only [zN, zT, zV, zS, zU, vcC, lateX, ex, strp, binA, elems, cells, scalar, eqC, keyA, intsA, lookA, ofVs, mpOf, Nat.reduceBEq, reduceAdd, reduceSub, reduceLT, reduceLeDiff, reduceMul, reduceEqDiff, reduceIte, List.length_map])
            ((first
 | refine vn rfl ?_
 | simp (disch:=omega) only [wr64,Int.zero_sub]
 | refine bo (fun _=>?_) fun _=>?_
 | refine im fun _=>?_
 | ((repeat refine si ?_); (first | ((first | refine .inl ⟨_,_,_,_,rfl,fun _=>pu l1,?_⟩ | refine ⟨_,_,_,_,rfl,fun _=>pu l1,?_⟩); (first | refine o1 ?_ | refine o2 ?_ | refine o3 ?_ | refine o4 ?_)) | refine .inl ⟨_,_,_,_,rfl,pu l1,?_⟩))
 | refine cF ?_
 | refine cG ?_
 | refine om ?_
 | refine an ?_
 | fail) <;> try simp only [zN, zT, zV, zS, zU, vcC, lateX, ex, strp, binA, elems, cells, scalar, eqC, keyA, intsA, lookA, ofVs, mpOf, Nat.reduceBEq, reduceAdd, reduceSub, reduceLT, reduceLeDiff, reduceMul, reduceEqDiff, reduceIte, List.length_map])
            clear l1 p2 F3
            have hm:(R.confl.map Nm.cs++[[n 8,n 400]])=(R.confl++[lastN]).map Nm.cs:=by simp [lastN]
            refine AWPC.freezeC (f:=List.length μ+2+2) (n:=R.sheets.length) (h:=List.length μ+2+1) (e:=0) (j:=0) (o:=⟨72,24,R.sheets.map Fld.cs,none⟩) ((at_two _ _ μ _ 2 0).trans rfl) (by simp) (show (24:Nat)≠0 by decide) ((at_two _ _ μ _ 1 0).trans rfl) (by omega) rfl (show (0:Nat) < 1 by decide) rfl ?_
            refine AWPC.sto (σ':=some [⟨37,4,[R.cs],none⟩]::some [⟨37,4,[[fdS R.sheets,rdS R.reads,snS R.stns,nmS (R.confl++[lastN])]],none⟩]::(μ++[some [⟨72,24,[x.cs],none⟩],some [⟨37,4,[[fdS R.sheets,rdS R.reads,snS R.stns,.own (List.length μ+2+3) 0 (R.confl.length+1)]],none⟩],none,some [⟨29,2,(R.confl++[lastN]).map Nm.cs,none⟩]])) (by rw [gone_two,upd_two,← hm]; rfl) ?_
            refine AWPC.freezeC (f:=List.length μ+2+3) (n:=R.confl.length+1) (h:=List.length μ+2+1) (e:=0) (j:=3) (o:=⟨29,2,(R.confl++[lastN]).map Nm.cs,none⟩) ((at_two _ _ μ _ 3 0).trans rfl) (by simp) (show (2:Nat)≠0 by decide) ((at_two _ _ μ _ 1 0).trans rfl) (by omega) rfl (show (0:Nat) < 1 by decide) rfl ?_
            refine AWPC.sto (σ':=some [⟨37,4,[R.cs],none⟩]::some [⟨37,4,[[fdS R.sheets,rdS R.reads,snS R.stns,nmS (R.confl++[lastN])]],none⟩]::(μ++[some [⟨72,24,[x.cs],none⟩],some [⟨37,4,[[fdS R.sheets,rdS R.reads,snS R.stns,nmS (R.confl++[lastN])]],none⟩],none,none])) (by rw [gone_two,upd_two]; rfl) ?_
            generalize R.confl++[lastN]=T at q hm
            clear hm zX2
            ((refine Ay @q ?_;repeat' first|exact True.intro|refine Cj.mk ?_ ?_)<;>intros<;>refine hD_ ?_)
            all_goals try (exfalso; omega)
            all_goals exact Frz.eq rfl (by simp)
          · rw [if_neg hc] at hX2
            have l1:Pure Tryz.prog 35 [] (.agg [n 8,n 400]):=last_spec
            (repeat' ((first
 | refine vn rfl ?_
 | simp (disch:=omega) only [wr64,Int.zero_sub]
 | refine bo (fun _=>?_) fun _=>?_
 | refine im fun _=>?_
 | ((repeat refine si ?_); ((first | refine .inl ⟨_,_,_,_,rfl,fun _=>(by first | exact (p2 _)),?_⟩ | refine ⟨_,_,_,_,rfl,fun _=>(by first | exact (p2 _)),?_⟩); (first | refine o1 ?_ | refine o2 ?_ | refine o3 ?_ | refine o4 ?_)))
 | ((repeat refine si ?_); (first | ((first | refine .inl ⟨_,_,_,_,rfl,fun _=>pu F3,?_⟩ | refine ⟨_,_,_,_,rfl,fun _=>pu F3,?_⟩); (first | refine o1 ?_ | refine o2 ?_ | refine o3 ?_ | refine o4 ?_)) | refine .inl ⟨_,_,_,_,rfl,pu F3,?_⟩))
 | refine cF ?_
 | refine om ?_
 | refine an ?_
 | fail) <;> try simp only [zN, zT, zV, zS, zU, vcC, lateX, ex, strp, binA, elems, cells, scalar, eqC, keyA, intsA, lookA, ofVs, mpOf, Nat.reduceBEq, reduceAdd, reduceSub, reduceLT, reduceLeDiff, reduceMul, reduceEqDiff, reduceIte, hrow, List.length_map]))
            all_goals try (exfalso; omega)
            refine ⟨⟨hrow2,by omega⟩,?_⟩
            have hMr:∀ e,e < x.marks.length→((x.marks.map Mk.cs).getD e []).length=3:=rowsL (cs:=Mk.cs) (k:=3) (fun a=>rfl) x.marks
            have hNr:∀ e,e < x.names.length→((x.names.map Nm.cs).getD e []).length=2:=rowsL (cs:=Nm.cs) (k:=2) (fun a=>rfl) x.names
            ((refine Ax @hrow ?_;repeat' first|exact True.intro|refine Cj.mk ?_ ?_)<;>intros<;>refine hD_ ?_)
            all_goals try (exfalso; omega)
            refine ⟨⟨hMr,by omega⟩,by omega,⟨by omega,by omega⟩,by omega,?_⟩
            have hg1:∀ A:List AV,((R.sheets.map Fld.cs).set k A).getD k []=A:=fun A=>by
              rw [List.getD_eq_getElem?_getD,List.getElem?_set_self (by rw [List.length_map]; exact hkl)]; rfl
            (repeat' ((first
 | refine vn rfl ?_
 | simp (disch:=omega) only [wr64,Int.zero_sub]
 | refine bo (fun _=>?_) fun _=>?_
 | refine im fun _=>?_
 | ((repeat refine si ?_); (first | ((first | refine .inl ⟨_,_,_,_,rfl,fun _=>pu l1,?_⟩ | refine ⟨_,_,_,_,rfl,fun _=>pu l1,?_⟩); (first | refine o1 ?_ | refine o2 ?_ | refine o3 ?_ | refine o4 ?_)) | refine .inl ⟨_,_,_,_,rfl,pu l1,?_⟩))
 | refine cF ?_
 | refine om ?_
 | refine an ?_
 | fail) <;> try simp only [zN, zT, zV, zS, zU, vcC, lateX, ex, strp, binA, elems, cells, scalar, eqC, keyA, intsA, lookA, ofVs, mpOf, Nat.reduceBEq, reduceAdd, reduceSub, reduceLT, reduceLeDiff, reduceMul, reduceEqDiff, reduceIte, hrow, hg1, List.length_map, List.length_set]))
            all_goals try (exfalso; omega)
            refine ⟨⟨hNr,by omega⟩,?_⟩
            ((first
 | refine vn rfl ?_
 | simp (disch:=omega) only [wr64,Int.zero_sub]
 | refine bo (fun _=>?_) fun _=>?_
 | refine im fun _=>?_
 | ((repeat refine si ?_); (first | ((first | refine .inl ⟨_,_,_,_,rfl,fun _=>pu l1,?_⟩ | refine ⟨_,_,_,_,rfl,fun _=>pu l1,?_⟩); (first | refine o1 ?_ | refine o2 ?_ | refine o3 ?_ | refine o4 ?_)) | refine .inl ⟨_,_,_,_,rfl,pu l1,?_⟩))
 | refine cF ?_
 | refine cG ?_
 | refine om ?_
 | refine an ?_
 | fail) <;> try simp only [zN, zT, zV, zS, zU, vcC, lateX, ex, strp, binA, elems, cells, scalar, eqC, keyA, intsA, lookA, ofVs, mpOf, Nat.reduceBEq, reduceAdd, reduceSub, reduceLT, reduceLeDiff, reduceMul, reduceEqDiff, reduceIte, hrow, hg1, List.length_map, List.length_set])
            ((first
 | refine vn rfl ?_
 | simp (disch:=omega) only [wr64,Int.zero_sub]
 | refine bo (fun _=>?_) fun _=>?_
 | refine im fun _=>?_
 | ((repeat refine si ?_); (first | ((first | refine .inl ⟨_,_,_,_,rfl,fun _=>pu l1,?_⟩ | refine ⟨_,_,_,_,rfl,fun _=>pu l1,?_⟩); (first | refine o1 ?_ | refine o2 ?_ | refine o3 ?_ | refine o4 ?_)) | refine .inl ⟨_,_,_,_,rfl,pu l1,?_⟩))
 | refine cF ?_
 | refine cG ?_
 | refine om ?_
 | refine an ?_
 | fail) <;> try simp only [zN, zT, zV, zS, zU, vcC, lateX, ex, strp, binA, elems, cells, scalar, eqC, keyA, intsA, lookA, ofVs, mpOf, Nat.reduceBEq, reduceAdd, reduceSub, reduceLT, reduceLeDiff, reduceMul, reduceEqDiff, reduceIte, hrow, hg1, List.length_map, List.length_set])
            ((first
 | refine vn rfl ?_
 | simp (disch:=omega) only [wr64,Int.zero_sub]
 | refine bo (fun _=>?_) fun _=>?_
 | refine im fun _=>?_
 | ((repeat refine si ?_); (first | ((first | refine .inl ⟨_,_,_,_,rfl,fun _=>pu l1,?_⟩ | refine ⟨_,_,_,_,rfl,fun _=>pu l1,?_⟩); (first | refine o1 ?_ | refine o2 ?_ | refine o3 ?_ | refine o4 ?_)) | refine .inl ⟨_,_,_,_,rfl,pu l1,?_⟩))
 | refine cF ?_
 | refine cG ?_
 | refine om ?_
 | refine an ?_
 | fail) <;> try simp only [zN, zT, zV, zS, zU, vcC, lateX, ex, strp, binA, elems, cells, scalar, eqC, keyA, intsA, lookA, ofVs, mpOf, Nat.reduceBEq, reduceAdd, reduceSub, reduceLT, reduceLeDiff, reduceMul, reduceEqDiff, reduceIte, hrow, hg1, List.length_map, List.length_set])
            refine ⟨hkl,?_⟩
            clear l1 p2 F3
            have hm1:x.marks.map Mk.cs++[[n m.col,n m.ticks.lo,n m.ticks.hi]]=(x.marks++[m]).map Mk.cs:=by simp
            have hm2:x.names.map Nm.cs++[[n 8,n 400]]=(x.names++[lastN]).map Nm.cs:=by simp [lastN]
            refine AWPC.sto (σ':=some [⟨37,4,[R.cs],none⟩]::some [⟨37,4,[[fdS X2.sheets,rdS X2.reads,snS X2.stns,nmS X2.confl]],none⟩]::(μ++[some [⟨72,24,[x.cs],none⟩],some [⟨37,4,[[AV.own (List.length μ+2+2) 0 R.sheets.length,rdS R.reads,snS R.stns,nmS R.confl]],none⟩],some [⟨72,24,(R.sheets.map Fld.cs).set k (List.take 22 x.cs++[AV.own (List.length μ+2+3) 0 (x.marks.length+1),AV.own (List.length μ+2+4) 0 (x.names.length+1)]),none⟩],some [⟨62,3,(x.marks++[m]).map Mk.cs,none⟩],some [⟨29,2,(x.names++[lastN]).map Nm.cs,none⟩]])) (by rw [List.set_set,← hm1,← hm2]; rfl) ?_
            refine AWPC.freezeC (f:=List.length μ+2+3) (n:=x.marks.length+1) (h:=List.length μ+2+2) (e:=k) (j:=22) (o:=⟨62,3,(x.marks++[m]).map Mk.cs,none⟩) ((at_two _ _ μ _ 3 0).trans rfl) (by simp) (show (3:Nat)≠0 by decide) ((at_two _ _ μ _ 2 0).trans rfl) (by omega) rfl (by simp only [List.length_set,List.length_map]; exact hkl) (by simp only [hg1]; rfl) ?_
            refine AWPC.sto (σ':=some [⟨37,4,[R.cs],none⟩]::some [⟨37,4,[[fdS X2.sheets,rdS X2.reads,snS X2.stns,nmS X2.confl]],none⟩]::(μ++[some [⟨72,24,[x.cs],none⟩],some [⟨37,4,[[AV.own (List.length μ+2+2) 0 R.sheets.length,rdS R.reads,snS R.stns,nmS R.confl]],none⟩],some [⟨72,24,(R.sheets.map Fld.cs).set k (List.take 22 x.cs++[mkS (x.marks++[m]),AV.own (List.length μ+2+4) 0 (x.names.length+1)]),none⟩],none,some [⟨29,2,(x.names++[lastN]).map Nm.cs,none⟩]])) (by rw [gone_two,upd_two]; simp only [hg1,List.set_set]; rfl) ?_
            refine AWPC.freezeC (f:=List.length μ+2+4) (n:=x.names.length+1) (h:=List.length μ+2+2) (e:=k) (j:=23) (o:=⟨29,2,(x.names++[lastN]).map Nm.cs,none⟩) ((at_two _ _ μ _ 4 0).trans rfl) (by simp) (show (2:Nat)≠0 by decide) ((at_two _ _ μ _ 2 0).trans rfl) (by omega) rfl (by simp only [List.length_set,List.length_map]; exact hkl) (by simp only [hg1]; rfl) ?_
            obtain ⟨T,hT⟩:∃ T,T=R.sheets.set k { x with marks:=x.marks++[m],names:=x.names++[lastN] }:=⟨_,rfl⟩
            have hTl:T.length=R.sheets.length:=by rw [hT,List.length_set]
            have hTm:T.map Fld.cs=(R.sheets.map Fld.cs).set k (List.take 22 x.cs++[mkS (x.marks++[m]),nmS (x.names++[lastN])]):=by rw [hT,List.map_set]; rfl
            refine AWPC.sto (σ':=some [⟨37,4,[R.cs],none⟩]::some [⟨37,4,[[fdS X2.sheets,rdS X2.reads,snS X2.stns,nmS X2.confl]],none⟩]::(μ++[some [⟨72,24,[x.cs],none⟩],some [⟨37,4,[[AV.own (List.length μ+2+2) 0 R.sheets.length,rdS R.reads,snS R.stns,nmS R.confl]],none⟩],some [⟨72,24,T.map Fld.cs,none⟩],none,none])) (by rw [gone_two,upd_two,hTm]; simp only [hg1,List.set_set]; rfl) ?_
            refine AWPC.freezeC (f:=List.length μ+2+2) (n:=R.sheets.length) (h:=List.length μ+2+1) (e:=0) (j:=0) (o:=⟨72,24,T.map Fld.cs,none⟩) ((at_two _ _ μ _ 2 0).trans rfl) (by simp only [List.length_map]; exact hTl) (show (24:Nat)≠0 by decide) ((at_two _ _ μ _ 1 0).trans rfl) (by omega) rfl (show (0:Nat) < 1 by decide) rfl ?_
            refine AWPC.sto (σ':=some [⟨37,4,[R.cs],none⟩]::some [⟨37,4,[[fdS X2.sheets,rdS X2.reads,snS X2.stns,nmS X2.confl]],none⟩]::(μ++[some [⟨72,24,[x.cs],none⟩],some [⟨37,4,[[fdS T,rdS R.reads,snS R.stns,nmS R.confl]],none⟩],none,none,none])) (by rw [gone_two,upd_two]; rfl) ?_
            rw [← hT] at hX2
            have q:=sameRgr _ _ zX2 zX2
            rw [decide_eq_true rfl,hX2] at q
            rw [hX2]
            clear hX2 hTl hTm hm1 hm2 hrow hrow2 hg1 hT
            ((refine Ay @q ?_;repeat' first|exact True.intro|refine Cj.mk ?_ ?_)<;>intros<;>refine hD_ ?_)
            all_goals try (exfalso; omega)
            all_goals exact Frz.eq rfl (by simp)
        · clear hX2
          (repeat' ((first
 | refine vn rfl ?_
 | simp (disch:=omega) only [wr64,Int.zero_sub]
 | refine bo (fun _=>?_) fun _=>?_
 | refine im fun _=>?_
 | ((repeat refine si ?_); ((first | refine .inl ⟨_,_,_,_,rfl,fun _=>(by first | exact (p2 _)),?_⟩ | refine ⟨_,_,_,_,rfl,fun _=>(by first | exact (p2 _)),?_⟩); (first | refine o1 ?_ | refine o2 ?_ | refine o3 ?_ | refine o4 ?_)))
 | ((repeat refine si ?_); (first | ((first | refine .inl ⟨_,_,_,_,rfl,fun _=>pu F3,?_⟩ | refine ⟨_,_,_,_,rfl,fun _=>pu F3,?_⟩); (first | refine o1 ?_ | refine o2 ?_ | refine o3 ?_ | refine o4 ?_)) | refine .inl ⟨_,_,_,_,rfl,pu F3,?_⟩))
 | refine cF ?_
 | refine om ?_
 | refine an ?_
 | fail) <;> try simp only [zN, zT, zV, zS, zU, vcC, lateX, ex, strp, binA, elems, cells, scalar, eqC, keyA, intsA, lookA, ofVs, mpOf, Nat.reduceBEq, reduceAdd, reduceSub, reduceLT, reduceLeDiff, reduceMul, reduceEqDiff, reduceIte, hrow, List.length_map]))
          all_goals try (exfalso; omega)
          all_goals exact Frz.eq rfl (by simp)
      · ((refine Au ?_;repeat' first|exact True.intro|refine Cj.mk ?_ ?_)<;>intros<;>refine hD_ ?_)
        all_goals try (exfalso; omega)
        all_goals exact Frz.eq rfl (by simp)
    · have hE:foldE b l=(rgr0,askedE b [l]):=by unfold foldE; rw [if_pos ha]
      rw [hE] at F1
      simp only at F1
      generalize askedE b [l]=e at F1 ha
      clear hE hb hl hc4
      ((refine Ay (And.intro @awake_spec (And.intro @s1 (And.intro @s2 (And.intro @s4 @F1)))) ?_;repeat' first|exact True.intro|refine Cj.mk ?_ ?_)<;>intros<;>refine hD_ ?_)
      all_goals try (exfalso; omega)
      all_goals exact Frz.eq rfl (by simp)
  · clear hb hl hc4
    cases c1 with
    | false =>
      ((refine Ay (And.intro @awake_spec (And.intro @s1 (And.intro @s2 @s4))) ?_;repeat' first|exact True.intro|refine Cj.mk ?_ ?_)<;>intros<;>refine hD_ ?_)
      all_goals try (exfalso; omega)
      all_goals exact Frz.eq rfl (by simp)
    | true =>
      cases c2 with
      | false =>
        ((refine Ay (And.intro @awake_spec (And.intro @s1 (And.intro @s2 @s4))) ?_;repeat' first|exact True.intro|refine Cj.mk ?_ ?_)<;>intros<;>refine hD_ ?_)
        all_goals try (exfalso; omega)
        all_goals exact Frz.eq rfl (by simp)
      | true =>
        by_cases h40:l.length≤40
        · cases c4 with
          | true =>
            ((refine Ay (And.intro @awake_spec (And.intro @s1 (And.intro @s2 @s4))) ?_;repeat' first|exact True.intro|refine Cj.mk ?_ ?_)<;>intros<;>refine hD_ ?_)
            all_goals try (exfalso; omega)
            all_goals exact Frz.eq rfl (by simp)
          | false=>exact absurd ⟨rfl,rfl,h40,rfl⟩ hg
        · ((refine Ay (And.intro @awake_spec (And.intro @s1 (And.intro @s2 @s4))) ?_;repeat' first|exact True.intro|refine Cj.mk ?_ ?_)<;>intros<;>refine hD_ ?_)
          all_goals try (exfalso; omega)
          all_goals first
            | exact Frz.eq rfl (by simp)
            | (exfalso; rename_i h; rw [decide_eq_true (show (40:Int) < l.length by omega)] at h; simp at h)
end Go.Proofs.YtolgelipcgcbhaaGreat
namespace Go.Abs
open Go
set_option linter.unusedVariables false
set_option linter.unusedSimpArgs false
structure Opens (P:Program) (t:TypeId) (α:Type) (row:α→List AV) (Pr:α→Prop):Prop where
  go:∀ {H:Type} (enc:TypeId × Value→H) (w:World) (base:Nat) (sp:Nat→Bool) (held:Bool) (fuel:Nat) (cs:List Value) (x:DataW H × List MemPlace),
    DataW.trod enc P w base sp held fuel t cs=some x →
    ∃ a:α,Pr a∧cs.length=(row a).length∧∀ i,i < cs.length→(cs.getD i undef).oneCell'=true∧RV w (fun _=>False) nob [] ((row a).getD i .any) (cs.getD i undef)
variable {P:Program}
theorem Opens.to {t:TypeId} {α β:Type} {row:α→List AV} {row':β→List AV} {Pr:α→Prop} {Pr':β→Prop} (h:Opens P t α row Pr) (f:α→β) (hr:∀ a,row' (f a)=row a) (hp:∀ a,Pr a→Pr' (f a)):Opens P t β row' Pr' :=
  ⟨fun enc w base sp held fuel cs x hx =>
    let ⟨a,h1,h2,h3⟩:=h.go enc w base sp held fuel cs x hx
    ⟨f a,hp a h1,by rw [hr]; exact h2,fun i hi=>by rw [hr]; exact h3 i hi⟩⟩
theorem opens_int {t:TypeId} {k:IntKind} (ht:P.underlying t=some (.int k)):Opens P t Int (fun z=>[.v (.int k z)]) (fun z=>(Lit.int k z).wf=true):=by
  constructor
  intro H enc w base sp held fuel cs x hx
  cases fuel with
  | zero=>simp [DataW.trod] at hx
  | succ m =>
    unfold DataW.trod at hx
    rw [ht] at hx
    split at hx <;> try (simp_all; done)
    rename_i k0 k' z heq
    simp only [Option.some.injEq,TypeDesc.int.injEq] at heq
    split at hx
    · rename_i hk
      obtain ⟨rfl,hw⟩:=hk
      subst heq
      refine ⟨z,hw,rfl,fun i hi=>?_⟩
      obtain rfl:i=0:=by simpa using hi
      exact ⟨rfl,.v _⟩
    · cases hx
theorem opens_slice {t e:TypeId} {k:Nat} {α:Type} {row:α→List AV} {Pr:α→Prop} (ht:P.underlying t=some (.slice e)) (hk:P.cellsOf e=k) (hk0:k≠0) (h:Opens P e α row Pr) (hl:∀ a,(row a).length=k) :
    Opens P t (List α) (fun l=>[.sl k (l.map row)]) (fun l=>l.length < 9223372036854775808∧∀ a∈l,Pr a):=by
  constructor
  intro H enc w base sp held fuel cs x hx
  rcases DataW.trod_slice ht hx with ⟨rfl,_⟩ | ⟨a,len,cap,elems,rest,m,rfl,rfl,rfl,hb,hlc,hcap,hlen,hel,hsp,hns⟩
  · refine ⟨[],⟨by simp,fun a ha=>absurd ha (List.not_mem_nil)⟩,rfl,fun i hi=>?_⟩
    obtain rfl:i=0:=by simpa using hi
    exact ⟨rfl,.slnil k⟩
  · have hlen2:len < 9223372036854775808:=by unfold maxLen at hcap; omega
    have each:∀ i,i < len→∃ (b:α) (c1:List Value),Pr b∧c1.length=k∧w.cells? base (a.add (i * k)) k=some c1∧∀ j,j < k→(c1.getD j undef).oneCell'=true∧RV w (fun _=>False) nob [] ((row b).getD j .any) (c1.getD j undef):=by
      intro i hi
      have h1:=hel i hi
      rw [hk,List.getElem?_eq_getElem (by omega)] at h1
      simp only [Option.bind_eq_some_iff] at h1
      obtain ⟨c1,hc1,hy⟩:=h1
      obtain ⟨b,hp,hlb,hr⟩:=h.go enc w base sp held m c1 _ hy
      have hl1:=(World.cells?_some hc1).2.1
      exact ⟨b,c1,hp,hl1,hc1,fun j hj=>hr j (by omega)⟩
    by_cases h0:len=0
    · subst h0
      refine ⟨[],⟨by simp,fun a ha=>absurd ha (List.not_mem_nil)⟩,rfl,fun i hi=>?_⟩
      obtain rfl:i=0:=by simpa using hi
      exact ⟨rfl,.slemp k a cap⟩
    ·
      have hspot:a.spot=none:=by
        obtain ⟨b,c1,_,hl1,hc1,_⟩:=each 0 (by omega)
        have h2:=(World.cells?_some hc1).2.2 0 (by omega)
        rw [List.getElem?_eq_getElem (by omega)] at h2
        have e:(a.add (0 * k)).add 0=a:=by simp [Addr.add]
        rw [e] at h2
        unfold World.cell? at h2
        split at h2
        · split at h2
          · cases h2
          · rename_i hs; simpa using hs
        · cases h2
      obtain ⟨bl,off,spot⟩:=a
      simp only at hspot
      subst hspot
      have hadd:∀ i j,((⟨bl,off,none⟩:Addr).add (i * k)).add j=⟨bl,off+i * k+j,none⟩:=by
        intro i j
        simp only [Addr.add]
        split <;> split <;> simp_all <;> omega
      let B:Nat→α:=fun i=>if hi:i < len then Classical.choose (each i hi) else Classical.choose (each 0 (by omega))
      have hB:∀ i,i < len→∃ c1:List Value,Pr (B i)∧c1.length=k∧w.cells? base ((⟨bl,off,none⟩:Addr).add (i * k)) k=some c1∧∀ j,j < k→(c1.getD j undef).oneCell'=true∧RV w (fun _=>False) nob [] ((row (B i)).getD j .any) (c1.getD j undef):=by
        intro i hi
        have:=Classical.choose_spec (each i hi)
        simp only [B,hi,dif_pos]
        exact this
      have hcell:∀ i j,i < len→j < k→w.cell? ⟨bl,off+i * k+j,none⟩=some ((w.cell? ⟨bl,off+i * k+j,none⟩).getD undef)∧((w.cell? ⟨bl,off+i * k+j,none⟩).getD undef).oneCell'=true ∧
          RV w (fun _=>False) nob [] ((row (B i)).getD j .any) ((w.cell? ⟨bl,off+i * k+j,none⟩).getD undef):=by
        intro i j hi hj
        obtain ⟨c1,_,hl1,hc1,hr⟩:=hB i hi
        have h2:=(World.cells?_some hc1).2.2 j hj
        rw [hadd,List.getElem?_eq_getElem (by omega)] at h2
        rw [h2]
        have h3:=hr j hj
        rw [List.getD_eq_getElem?_getD,List.getElem?_eq_getElem (show j < c1.length by omega)] at h3
        exact ⟨rfl,h3⟩
      refine ⟨(List.range len).map B,⟨by simpa using hlen2,fun b hb=>?_⟩,rfl,fun i hi=>?_⟩
      · obtain ⟨i,hi,rfl⟩:=List.mem_map.1 hb
        obtain ⟨c1,hp,_⟩:=hB i (List.mem_range.1 hi)
        exact hp
      · obtain rfl:i=0:=by simpa using hi
        refine ⟨rfl,?_⟩
        have hget:∀ e,e < len→(((List.range len).map B).map row).getD e []=row (B e):=fun e he=>by simp [List.getD_eq_getElem?_getD,he]
        have hlm:(((List.range len).map B).map row).length=len:=by simp
        have:=RV.sl (w:=w) (X:=fun _=>False) (β:=nob) (σ:=[]) k (((List.range len).map B).map row) bl off cap (fun i j=>(w.cell? ⟨bl,off+i * k+j,none⟩).getD undef) (by rw [hlm]; exact hlc)
          (fun e he=>by rw [hlm] at he; rw [hget e he]; exact hl _) (fun e he j hj=>by rw [hlm] at he; exact (hcell e j he hj).1) (fun e j he hj hx=>hx)
          (fun e j he hj=>by rw [hlm] at he; exact (hcell e j he hj).2.1) (fun e j he hj=>by rw [hlm] at he; rw [hget e he]; exact (hcell e j he hj).2.2)
        rw [hlm] at this
        exact this
structure OpensF (P:Program) (fs:List Field) (off:Nat) (α:Type) (row:α→List AV) (Pr:α→Prop):Prop where
  go:∀ {H:Type} (enc:TypeId × Value→H) (w:World) (base:Nat) (sp:Nat→Bool) (held:Bool) (fuel:Nat) (cs:List Value) (xs:List (DataW H × List MemPlace)),
    (fs.mapM fun f=>DataW.trod enc P w base sp held fuel f.type ((cs.drop f.offset).take (P.cellsOf f.type)))=some xs →
    ∃ a:α,Pr a∧∀ i,i < (row a).length→off+i < cs.length∧(cs.getD (off+i) undef).oneCell'=true∧RV w (fun _=>False) nob [] ((row a).getD i .any) (cs.getD (off+i) undef)
theorem opensF_nil (off:Nat):OpensF P [] off Unit (fun _=>[]) (fun _=>True) :=
  ⟨fun enc w base sp held fuel cs xs _=>⟨(),trivial,fun i hi=>absurd hi (Nat.not_lt_zero _)⟩⟩
theorem opensF_cons {f:Field} {fs:List Field} {off k:Nat} {α β:Type} {row:α→List AV} {rows:β→List AV} {Pr:α→Prop} {Prs:β→Prop} (ho:f.offset=off) (hk:P.cellsOf f.type=k) (h:Opens P f.type α row Pr)
    (hl:∀ a,(row a).length=k) (hs:OpensF P fs (off+k) β rows Prs):OpensF P (f::fs) off (α × β) (fun p=>row p.1++rows p.2) (fun p=>Pr p.1∧Prs p.2):=by
  constructor
  intro H enc w base sp held fuel cs xs hx
  rw [List.mapM_cons] at hx
  simp only [Option.bind_eq_bind,Option.bind_eq_some_iff] at hx
  obtain ⟨y,hy,ys,hys,_⟩:=hx
  rw [ho,hk] at hy
  obtain ⟨a,hp,hla,hr⟩:=h.go enc w base sp held fuel _ _ hy
  obtain ⟨b,hq,hr'⟩:=hs.go enc w base sp held fuel cs ys hys
  rw [hl] at hla
  have hlen:off+k≤cs.length∨k=0:=by simp at hla; omega
  refine ⟨(a,b),⟨hp,hq⟩,fun i hi=>?_⟩
  by_cases h1:i < k
  · have hi':i < ((cs.drop off).take k).length:=by omega
    obtain ⟨g1,g2⟩:=hr i hi'
    have e:((cs.drop off).take k).getD i undef=cs.getD (off+i) undef:=by
      simp only [List.getD_eq_getElem?_getD,List.getElem?_take,h1,if_true,List.getElem?_drop]
    rw [e] at g1 g2
    refine ⟨by omega,g1,?_⟩
    rw [getD_append,if_pos (by rw [hl]; exact h1)]
    exact g2
  · have:=hr' (i - k) (by simp [hl] at hi; omega)
    rw [show off+k+(i - k)=off+i by omega] at this
    refine ⟨this.1,this.2.1,?_⟩
    rw [getD_append,if_neg (by rw [hl]; omega),hl]
    exact this.2.2
theorem opens_struct {t:TypeId} {fs:Array Field} {k:Nat} {α:Type} {row:α→List AV} {Pr:α→Prop} (ht:P.underlying t=some (.struct fs)) (hk:P.cellsOf t=k) (hl:∀ a,(row a).length=k) (h:OpensF P fs.toList 0 α row Pr) :
    Opens P t α row Pr:=by
  constructor
  intro H enc w base sp held fuel cs x hx
  cases fuel with
  | zero=>simp [DataW.trod] at hx
  | succ m =>
    unfold DataW.trod at hx
    rw [ht] at hx
    have hx':(if cs.length=P.cellsOf t then (fs.toList.mapM fun f=>DataW.trod enc P w base sp held m f.type ((cs.drop f.offset).take (P.cellsOf f.type))).map (fun xs=>((DataW.agg (xs.map (·.1)),xs.flatMap (·.2)):DataW H × List MemPlace)) else none)=some x:=by
      split at hx <;> first | (simp at *; done) | skip
      all_goals (try (rename_i heq; cases heq))
      exact hx
    split at hx'
    case isFalse=>cases hx'
    rename_i hlen
    rw [Option.map_eq_some_iff] at hx'
    obtain ⟨xs,hxs,_⟩:=hx'
    obtain ⟨a,hp,hr⟩:=h.go enc w base sp held m cs xs hxs
    refine ⟨a,hp,by rw [hl,hlen,hk],fun i hi=>?_⟩
    have:=hr i (by rw [hl,← hk,← hlen]; exact hi)
    rw [Nat.zero_add] at this
    exact this.2
theorem Opens.one {t:TypeId} {α:Type} {av:α→AV} {Pr:α→Prop} (h:Opens P t α (fun a=>[av a]) Pr) {H:Type} {enc:TypeId × Value→H} {w:World} {base:Nat} {sp:Nat→Bool} {held:Bool} {v:Value} {d:DataW H} {ps:List MemPlace}
    (hv:v.oneCell'=true) (hx:DataW.Trod enc P w base sp held t v d ps):∃ a,Pr a∧RV w (fun _=>False) nob [] (av a) v:=by
  obtain ⟨fuel,hx⟩:=hx
  obtain ⟨a,hp,hl,hr⟩:=h.go enc w base sp held fuel _ _ hx
  have e:v.cells.toList=[v]:=by cases v <;> first | rfl | simp [Value.oneCell'] at hv
  rw [e] at hr
  exact ⟨a,hp,(hr 0 (by simp)).2⟩
theorem Opens.agg {t:TypeId} {α:Type} {row:α→List AV} {Pr:α→Prop} (h:Opens P t α row Pr) {H:Type} {enc:TypeId × Value→H} {w:World} {base:Nat} {sp:Nat→Bool} {held:Bool} {cs:Array Value} {d:DataW H} {ps:List MemPlace}
    (hx:DataW.Trod enc P w base sp held t (.agg cs) d ps):∃ a,Pr a∧RV w (fun _=>False) nob [] (.agg (row a)) (.agg cs):=by
  obtain ⟨fuel,hx⟩:=hx
  obtain ⟨a,hp,hl,hr⟩:=h.go enc w base sp held fuel _ _ hx
  have e:(Value.agg cs).cells.toList=cs.toList:=rfl
  rw [e] at hl hr
  refine ⟨a,hp,.agg _ _ (by simpa using hl) (fun i hi=>?_) fun i hi=>?_⟩
  · have:=(hr i (by rw [hl]; exact hi)).1
    simpa [List.getD_eq_getElem?_getD,Array.getD_eq_getD_getElem?] using this
  · have:=(hr i (by rw [hl]; exact hi)).2
    simpa [List.getD_eq_getElem?_getD,Array.getD_eq_getD_getElem?] using this
end Go.Abs
namespace Go.Proofs.YtolgelipcgcbhaaGreat
open Go.Abs
open Nat (reduceAdd reduceSub reduceLT reduceLeDiff reduceMul reduceEqDiff)
set_option linter.unusedVariables false
set_option linter.unusedSimpArgs false
set_option maxHeartbeats 4000000
set_option maxRecDepth 100000
open Go.ChangeShapes Go.WideShapes Go.ChangeAt Go.RowKit
theorem own:ownKnob Tryz.prog.godebug=none:=by kernel_rfl
theorem laidOut:laidOutB Tryz.prog=true:=by kernel_rfl
theorem mapsR:mapsRowed Tryz.prog=true:=by kernel_rfl
theorem stopsN:(Tryz.prog.stops == [])=true:=by kernel_rfl
theorem knobsN:(Tryz.prog.stopKnobs == [])=true:=by kernel_rfl
theorem plainK:(Rows.archiveOrderRow.plainKeys == Tryz.prog.plainKeys)=true:=by kernel_rfl
theorem heardS:Tryz.prog.stopsHeard=true:=by kernel_rfl
theorem entersM:Tryz.prog.mayEnter=true:=by kernel_rfl
theorem liftsF:(Rows.archiveOrderRow.lifted == Tryz.prog.liftsFinal)=true:=by kernel_rfl
theorem makeP:(Tryz.prog.make == some Rows.archiveOrderRow.make)=true:=by kernel_rfl
theorem bband {a b:Bool} (h:a=true) (h':b=true):(a && b)=true:=by rw [h,h']; rfl
theorem cells3:Tryz.prog.cellsOf 3=1:=by kernel_rfl
theorem cells48:Tryz.prog.cellsOf 48=2:=by kernel_rfl
theorem cells226:Tryz.prog.cellsOf 226=3:=by kernel_rfl
theorem cells164:Tryz.prog.cellsOf 164=3:=by kernel_rfl
theorem cells50:Tryz.prog.cellsOf 50=10:=by kernel_rfl
theorem cells51:Tryz.prog.cellsOf 51=1:=by kernel_rfl
theorem cells52:Tryz.prog.cellsOf 52=1:=by kernel_rfl
theorem cells53:Tryz.prog.cellsOf 53=1:=by kernel_rfl
theorem cells54:Tryz.prog.cellsOf 54=1:=by kernel_rfl
theorem cells56:Tryz.prog.cellsOf 56=2:=by kernel_rfl
theorem cells58:Tryz.prog.cellsOf 58=4:=by kernel_rfl
theorem cells60:Tryz.prog.cellsOf 60=18:=by kernel_rfl
theorem cells62:Tryz.prog.cellsOf 62=3:=by kernel_rfl
theorem cells64:Tryz.prog.cellsOf 64=5:=by kernel_rfl
theorem cells66:Tryz.prog.cellsOf 66=3:=by kernel_rfl
theorem cells29:Tryz.prog.cellsOf 29=2:=by kernel_rfl
theorem cells68:Tryz.prog.cellsOf 68=38:=by kernel_rfl
theorem cells107:Tryz.prog.cellsOf 107=1:=by kernel_rfl
theorem cells109:Tryz.prog.cellsOf 109=4:=by kernel_rfl
theorem cells22:Tryz.prog.cellsOf 22=1:=by kernel_rfl
theorem cells24:Tryz.prog.cellsOf 24=2:=by kernel_rfl
theorem cells26:Tryz.prog.cellsOf 26=6:=by kernel_rfl
theorem op3:Opens Tryz.prog 3 Int (fun z=>[n z]) (fun _=>True):=(opens_int Tryz.underlying3).to id (fun _=>rfl) (fun _ _=>trivial)
theorem op48:Opens Tryz.prog 48 Sp Sp.cs (fun _=>True) :=
  (opens_struct Tryz.underlying48 cells48 (fun _=>rfl) (opensF_cons rfl cells3 op3 (fun _=>rfl) (opensF_cons rfl cells3 op3 (fun _=>rfl) (opensF_nil _)))).to (fun a=>⟨a.1,a.2.1⟩) (fun _=>rfl) (fun _ _=>trivial)
theorem op226:Opens Tryz.prog 226 Mk Mk.cs (fun _=>True) :=
  (opens_struct Tryz.underlying226 cells226 (fun _=>rfl) (opensF_cons rfl cells3 op3 (fun _=>rfl) (opensF_cons rfl cells48 op48 (fun _=>rfl) (opensF_nil _)))).to (fun a=>⟨a.1,a.2.1⟩) (fun _=>rfl) (fun _ _=>trivial)
theorem op62:Opens Tryz.prog 62 Mk Mk.cs (fun _=>True) :=
  (opens_struct Tryz.underlying62 cells62 (fun _=>rfl) (opensF_cons rfl cells3 op3 (fun _=>rfl) (opensF_cons rfl cells48 op48 (fun _=>rfl) (opensF_nil _)))).to (fun a=>⟨a.1,a.2.1⟩) (fun _=>rfl) (fun _ _=>trivial)
theorem op164:Opens Tryz.prog 164 Pt Pt.cs (fun _=>True) :=
  (opens_struct Tryz.underlying164 cells164 (fun _=>rfl) (opensF_cons rfl cells3 op3 (fun _=>rfl) (opensF_cons rfl cells3 op3 (fun _=>rfl) (opensF_cons rfl cells3 op3 (fun _=>rfl) (opensF_nil _))))).to (fun a=>⟨a.1,a.2.1,a.2.2.1⟩) (fun _=>rfl) (fun _ _=>trivial)
theorem op50:Opens Tryz.prog 50 Ppr Ppr.cs (fun _=>True) :=
  (opens_struct Tryz.underlying50 cells50 (fun _=>rfl) (opensF_cons rfl cells3 op3 (fun _=>rfl) (opensF_cons rfl cells3 op3 (fun _=>rfl) (opensF_cons rfl cells3 op3 (fun _=>rfl) (opensF_cons rfl cells3 op3 (fun _=>rfl) (opensF_cons rfl cells3 op3 (fun _=>rfl) (opensF_cons rfl cells3 op3 (fun _=>rfl) (opensF_cons rfl cells48 op48 (fun _=>rfl) (opensF_cons rfl cells48 op48 (fun _=>rfl) (opensF_nil _)))))))))).to (fun a=>⟨a.1,a.2.1,a.2.2.1,a.2.2.2.1,a.2.2.2.2.1,a.2.2.2.2.2.1,a.2.2.2.2.2.2.1,a.2.2.2.2.2.2.2.1⟩) (fun _=>rfl) (fun _ _=>trivial)
theorem op51:Opens Tryz.prog 51 (List Pt) (fun l=>[ptS l]) (fun l=>l.length < 9223372036854775808) :=
  (opens_slice Tryz.underlying51 cells164 (by decide) op164 (fun _=>rfl)).to id (fun _=>rfl) (fun _ h=>h.1)
theorem op52:Opens Tryz.prog 52 (List Int) (fun l=>[inS l]) (fun l=>l.length < 9223372036854775808) :=
  (opens_slice Tryz.underlying52 cells3 (by decide) op3 (fun _=>rfl)).to id (fun _=>rfl) (fun _ h=>h.1)
theorem op53:Opens Tryz.prog 53 (List Sp) (fun l=>[spnS l]) (fun l=>l.length < 9223372036854775808) :=
  (opens_slice Tryz.underlying53 cells48 (by decide) op48 (fun _=>rfl)).to id (fun _=>rfl) (fun _ h=>h.1)
theorem op54:Opens Tryz.prog 54 (List Mk) (fun l=>[mkS l]) (fun l=>l.length < 9223372036854775808) :=
  (opens_slice Tryz.underlying54 cells226 (by decide) op226 (fun _=>rfl)).to id (fun _=>rfl) (fun _ h=>h.1)
theorem op56:Opens Tryz.prog 56 (List Sp × List Mk) (fun d=>[spnS d.1,mkS d.2]) (fun d=>d.1.length < 9223372036854775808∧d.2.length < 9223372036854775808) :=
  (opens_struct Tryz.underlying56 cells56 (fun _=>rfl) (opensF_cons rfl cells53 op53 (fun _=>rfl) (opensF_cons rfl cells54 op54 (fun _=>rfl) (opensF_nil _)))).to (fun a=>⟨a.1,a.2.1⟩) (fun _=>rfl) (fun _ h=>⟨h.1,h.2.1⟩)
theorem op58:Opens Tryz.prog 58 Pn Pn.cs (fun _=>True) :=
  (opens_struct Tryz.underlying58 cells58 (fun _=>rfl) (opensF_cons rfl cells3 op3 (fun _=>rfl) (opensF_cons rfl cells48 op48 (fun _=>rfl) (opensF_cons rfl cells3 op3 (fun _=>rfl) (opensF_nil _))))).to (fun a=>⟨a.1,a.2.1,a.2.2.1⟩) (fun _=>rfl) (fun _ _=>trivial)
theorem op60:Opens Tryz.prog 60 Sht Sht.cs shtSz :=
  (opens_struct Tryz.underlying60 cells60 (fun _=>rfl) (opensF_cons rfl cells50 op50 (fun _=>rfl) (opensF_cons rfl cells51 op51 (fun _=>rfl) (opensF_cons rfl cells52 op52 (fun _=>rfl) (opensF_cons rfl cells56 op56 (fun _=>rfl) (opensF_cons rfl cells58 op58 (fun _=>rfl) (opensF_nil _))))))).to (fun a=>⟨a.1,a.2.1,a.2.2.1,a.2.2.2.1.1,a.2.2.2.1.2,a.2.2.2.2.1⟩) (fun _=>rfl) (fun _ h=>⟨h.2.1,h.2.2.1,h.2.2.2.1.1,h.2.2.2.1.2⟩)
theorem op64:Opens Tryz.prog 64 Rd Rd.cs (fun _=>True) :=
  (opens_struct Tryz.underlying64 cells64 (fun _=>rfl) (opensF_cons rfl cells3 op3 (fun _=>rfl) (opensF_cons rfl cells3 op3 (fun _=>rfl) (opensF_cons rfl cells3 op3 (fun _=>rfl) (opensF_cons rfl cells48 op48 (fun _=>rfl) (opensF_nil _)))))).to (fun a=>⟨a.1,a.2.1,a.2.2.1,a.2.2.2.1⟩) (fun _=>rfl) (fun _ _=>trivial)
theorem op66:Opens Tryz.prog 66 Hgt Hgt.cs (fun _=>True) :=
  (opens_struct Tryz.underlying66 cells66 (fun _=>rfl) (opensF_cons rfl cells3 op3 (fun _=>rfl) (opensF_cons rfl cells48 op48 (fun _=>rfl) (opensF_nil _)))).to (fun a=>⟨a.1,a.2.1⟩) (fun _=>rfl) (fun _ _=>trivial)
theorem op29:Opens Tryz.prog 29 Nm Nm.cs (fun _=>True) :=
  (opens_struct Tryz.underlying29 cells29 (fun _=>rfl) (opensF_cons rfl cells3 op3 (fun _=>rfl) (opensF_cons rfl cells3 op3 (fun _=>rfl) (opensF_nil _)))).to (fun a=>⟨a.1,a.2.1⟩) (fun _=>rfl) (fun _ _=>trivial)
theorem op68:Opens Tryz.prog 68 Nt Nt.cs ntSz :=
  (opens_struct Tryz.underlying68 cells68 (fun _=>rfl) (opensF_cons rfl cells3 op3 (fun _=>rfl) (opensF_cons rfl cells3 op3 (fun _=>rfl) (opensF_cons rfl cells3 op3 (fun _=>rfl) (opensF_cons rfl cells3 op3 (fun _=>rfl) (opensF_cons rfl cells3 op3 (fun _=>rfl) (opensF_cons rfl cells3 op3 (fun _=>rfl) (opensF_cons rfl cells3 op3 (fun _=>rfl) (opensF_cons rfl cells60 op60 (fun _=>rfl) (opensF_cons rfl cells62 op62 (fun _=>rfl) (opensF_cons rfl cells64 op64 (fun _=>rfl) (opensF_cons rfl cells66 op66 (fun _=>rfl) (opensF_cons rfl cells29 op29 (fun _=>rfl) (opensF_nil _)))))))))))))).to (fun a=>⟨a.1,a.2.1,a.2.2.1,a.2.2.2.1,a.2.2.2.2.1,a.2.2.2.2.2.1,a.2.2.2.2.2.2.1,a.2.2.2.2.2.2.2.1,a.2.2.2.2.2.2.2.2.1,a.2.2.2.2.2.2.2.2.2.1,a.2.2.2.2.2.2.2.2.2.2.1,a.2.2.2.2.2.2.2.2.2.2.2.1⟩) (fun _=>rfl) (fun _ h=>h.2.2.2.2.2.2.2.1)
theorem op27:Opens Tryz.prog 27 (List Nt) (fun l=>[ntS l]) setSz :=
  (opens_slice Tryz.underlying27 cells68 (by decide) op68 (fun _=>rfl)).to id (fun _=>rfl) (fun _ h=>h)
theorem op107:Opens Tryz.prog 107 (List Hgt) (fun l=>[hgS l]) (fun l=>l.length < 9223372036854775808) :=
  (opens_slice Tryz.underlying107 cells66 (by decide) op66 (fun _=>rfl)).to id (fun _=>rfl) (fun _ h=>h.1)
theorem op109:Opens Tryz.prog 109 Stn Stn.cs (fun s=>s.heights.length < 9223372036854775808) :=
  (opens_struct Tryz.underlying109 cells109 (fun _=>rfl) (opensF_cons rfl cells3 op3 (fun _=>rfl) (opensF_cons rfl cells3 op3 (fun _=>rfl) (opensF_cons rfl cells3 op3 (fun _=>rfl) (opensF_cons rfl cells107 op107 (fun _=>rfl) (opensF_nil _)))))).to (fun a=>⟨a.1,a.2.1,a.2.2.1,a.2.2.2.1⟩) (fun _=>rfl) (fun _ h=>h.2.2.2.1)
theorem op22:Opens Tryz.prog 22 (List Stn) (fun l=>[snS l]) stnSz :=
  (opens_slice Tryz.underlying22 cells109 (by decide) op109 (fun _=>rfl)).to id (fun _=>rfl) (fun _ h=>h)
theorem op24:Opens Tryz.prog 24 (Int × Int) (fun d=>[n d.1,n d.2]) (fun _=>True) :=
  (opens_struct Tryz.underlying24 cells24 (fun _=>rfl) (opensF_cons rfl cells3 op3 (fun _=>rfl) (opensF_cons rfl cells3 op3 (fun _=>rfl) (opensF_nil _)))).to (fun a=>⟨a.1,a.2.1⟩) (fun _=>rfl) (fun _ _=>trivial)
theorem op26:Opens Tryz.prog 26 Bse Bse.cs bseSz :=
  (opens_struct Tryz.underlying26 cells26 (fun _=>rfl) (opensF_cons rfl cells22 op22 (fun _=>rfl) (opensF_cons rfl cells24 op24 (fun _=>rfl) (opensF_cons rfl cells3 op3 (fun _=>rfl) (opensF_cons rfl cells3 op3 (fun _=>rfl) (opensF_cons rfl cells3 op3 (fun _=>rfl) (opensF_nil _))))))).to (fun a=>⟨a.1,a.2.1.1,a.2.1.2,a.2.2.1,a.2.2.2.1,a.2.2.2.2.1⟩) (fun _=>rfl) (fun _ h=>h.1)
section
variable {H:Type} {enc:TypeId × Value→H} {w:World} {r:Reach} {base b0:Nat} {sp:Nat→Bool} {held:Bool} {v:Value} {d:DataW H} {ps:List MemPlace}
theorem open_bse (h:Value.okWide Tryz.prog w r base 26 v) (hx:DataW.Trod enc Tryz.prog w b0 sp held 26 v d ps):∃ x:Bse,bseSz x∧RV w (fun _=>False) nob [] (.agg x.cs) v:=by
  obtain ⟨cs,rfl,_⟩:=okWide_struct Tryz.underlying26 h
  exact op26.agg hx
theorem open_mk (h:Value.okWide Tryz.prog w r base 62 v) (hx:DataW.Trod enc Tryz.prog w b0 sp held 62 v d ps):∃ x:Mk,(fun _=>True) x∧RV w (fun _=>False) nob [] (.agg x.cs) v:=by
  obtain ⟨cs,rfl,_⟩:=okWide_struct Tryz.underlying62 h
  exact op62.agg hx
theorem open_rd (h:Value.okWide Tryz.prog w r base 64 v) (hx:DataW.Trod enc Tryz.prog w b0 sp held 64 v d ps):∃ x:Rd,(fun _=>True) x∧RV w (fun _=>False) nob [] (.agg x.cs) v:=by
  obtain ⟨cs,rfl,_⟩:=okWide_struct Tryz.underlying64 h
  exact op64.agg hx
theorem open_set (h:Value.okWide Tryz.prog w r base 27 v) (hx:DataW.Trod enc Tryz.prog w b0 sp held 27 v d ps):∃ l:List Nt,setSz l∧RV w (fun _=>False) nob [] (ntS l) v:=by
  obtain ⟨a,len,cap,rfl⟩:=okWide_slice Tryz.underlying27 h
  exact op27.one rfl hx
end
end Go.Proofs.YtolgelipcgcbhaaGreat
namespace Go.Abs
open Go.Shelf Go.RowKit Go.Lib Go.Proofs
set_option linter.unusedVariables false
set_option linter.unusedSimpArgs false
theorem grow_any {P:Program} {ρ:Ren} (L:Lays8.n4 P ρ) {T k B:Nat} (hT:ρ.t 25=T) (hsz:szF P T=some k) {zs:List Value} (hzr:zrF P T=some zs) (hzl:zs.length=k) (hk:0 < k) (hby:(P.info? T).map (·.bytes)=some B)
    (ef:∀ args w,(callFunc (ρ.f 4) args).run P w=.ok (.enter (ρ.f 4) args) w) (σ:Sto) (z:Int) (h0:0≤z) (h1:z * B≤140737488355328) (hB:0 < B) :
    Does P (ρ.f 4) [.v (.slice none 0 0),n z] σ (fun r σ'=>r=.own σ.length 0 0∧σ'=σ++[some [⟨T,k,[],none⟩]]):=by
  subst hT
  have hzB:z≤z * B:=by
    have:z * 1≤z * B:=Int.mul_le_mul_of_nonneg_left (by omega) h0
    omega
  refine ⟨ef,fun X β w xs hX hsr hlen hr=>?_⟩
  match xs,hlen with
  | [x,y],_ =>
    have hx:=(hr 0 (by simp)).inv_v
    have hy:=(hr 1 (by simp)).inv_v
    simp only [List.getD_cons_zero,List.getD_cons_succ] at hx hy
    subst hx; subst hy
    by_cases hz:z=0
    · subst hz
      refine callsIn_wide.2 ((Any8.slices_Grow_room L none 0 0 0 w (Nat.le_refl _) (by decide) (by decide) (Nat.le_refl _)).mono ?_)
      rintro e w' ⟨rfl,rfl⟩
      exact ⟨_,_,_,_,rfl,⟨rfl,rfl⟩,hsr.own0 hX,RV.own0 rfl,Ext.push (Nat.le_refl _) (fun _ _=>rfl) (fun b hb=>by cases hb),Kp.own0 hsr⟩
    · obtain ⟨i0,hi0,hs2⟩:=sz_parts hsz
      rw [hi0] at hby
      simp only [Option.map_some,Option.some.injEq] at hby
      unfold zrF at hzr
      rw [hi0] at hzr
      simp only [Option.bind_some,Option.map_eq_some_iff] at hzr
      obtain ⟨z0,hz0,hzc⟩:=hzr
      have hzn:(z.toNat:Int)=z:=by omega
      have hbig:(0+z.toNat) * i0.bytes≤140737488355328:=by
        rw [hby,Nat.zero_add]
        have:((z.toNat * B:Nat):Int)≤140737488355328:=by rw [Int.natCast_mul,hzn]; exact h1
        omega
      have hg:=Any8.slices_Grow_grow L i0 z0 hi0 hz0 (by omega) none 0 0 z.toNat [] w (Nat.le_refl _) (by omega) hbig (by omega) (by simp) (fun _=>rfl) (fun a h=>by cases h)
      have hge:=grownCap_ge w (0+z.toNat) 0 (ρ.t 25)
      refine callsIn_wide.2 ?_
      change Calls P (ρ.f 4) #[.slice none 0 0,.int .i64 z] w _
      rw [hzn] at hg
      refine Calls.mono hg ?_
      rintro e w' ⟨rfl,rfl⟩
      change grownCap w (0+z.toNat) 0 (ρ.t 25)≥_ at hge
      have hzs:z0.cells.size=k:=by rw [← Array.length_toList,hzc]; exact hzl
      have hsz:w.heap.size≤(w.drew.alloc (.cells ((#[]:Array Value)++Builtin.zeroCells z0.cells (0+z.toNat - 0)++Builtin.zeroCells z0.cells (grownCap w (0+z.toNat) 0 (ρ.t 25) - (0+z.toNat))) (ρ.t 25))).heap.size:=by rw [alc_size]; exact Nat.le_succ _
      have hold:∀ b,b < w.heap.size→(w.drew.alloc (.cells ((#[]:Array Value)++Builtin.zeroCells z0.cells (0+z.toNat - 0)++Builtin.zeroCells z0.cells (grownCap w (0+z.toNat) 0 (ρ.t 25) - (0+z.toNat))) (ρ.t 25))).heap[b]?=w.heap[b]?:=fun b hb=>alc_old w.drew _ hb
      have hnew:(w.drew.alloc (.cells ((#[]:Array Value)++Builtin.zeroCells z0.cells (0+z.toNat - 0)++Builtin.zeroCells z0.cells (grownCap w (0+z.toNat) 0 (ρ.t 25) - (0+z.toNat))) (ρ.t 25))).heap[w.heap.size]?=some (.cells ((#[]:Array Value)++Builtin.zeroCells z0.cells (0+z.toNat - 0)++Builtin.zeroCells z0.cells (grownCap w (0+z.toNat) 0 (ρ.t 25) - (0+z.toNat))) (ρ.t 25)):=alc_new w.drew _
      have hcsz:((#[]:Array Value)++Builtin.zeroCells z0.cells (0+z.toNat - 0)++Builtin.zeroCells z0.cells (grownCap w (0+z.toNat) 0 (ρ.t 25) - (0+z.toNat))).size=grownCap w (0+z.toNat) 0 (ρ.t 25) * k:=by
        simp only [Array.size_append,zeroCells_size,hzs]
        simp only [List.size_toArray,List.length_nil]
        rw [Nat.zero_add,← Nat.add_mul]
        congr 1; omega
      have hbo:∀ b,some w.heap.size=some b→b=w.heap.size:=fun b hb=>by injection hb with hb; exact hb.symm
      have K:=Kp.push (o:=⟨ρ.t 25,k,[],none⟩) (bo:=some w.heap.size) hsr hsz hold hbo
      have S:=hsr.push (o:=⟨ρ.t 25,k,[],none⟩) (bo:=some w.heap.size) hX hsz hold hbo ⟨fun e he=>absurd he (Nat.not_lt_zero _),fun _=>⟨_,hnew,by simp,fun e j he=>absurd he (Nat.not_lt_zero _),fun e j he=>absurd he (Nat.not_lt_zero _)⟩,fun r hr=>by cases hr⟩
      refine ⟨_,_,_,_,rfl,⟨rfl,rfl⟩,S,?_,Ext.push hsz hold hbo ⟨rfl,rfl,rfl,Nat.le_succ _⟩,K⟩
      refine .own _ _ _ _ rfl (by simp) (fun o _=>Nat.zero_le _) fun o ho _=>?_
      rw [at_push_new] at ho; simp at ho; subst ho
      unfold OwnSl; rw [addB_new]
      exact ⟨_,_,_,rfl,hnew,hcsz⟩
end Go.Abs
namespace Go.Proofs.YtolgelipcgcbhaaGreat
open Go.Shelf
def Tryz.growS_ren:Go.Shelf.Ren:=⟨fun | 4=>188 | n=>n,fun | 22=>22 | 25=>109 | 3=>3 | 4=>4 | 9=>9 | 20=>20 | 0=>0 | n=>n,fun | n=>n⟩
theorem Tryz.growS:Go.Proofs.Lays8.n4 Tryz.prog Tryz.growS_ren:={
  mixed:=by kernel_rfl
  f4:=⟨Tryz.f188.name,by decide,Tryz.func188.trans (congrArg some (by kernel_rfl))⟩
  t0:=Tryz.underlying0
  a0:=Tryz.isAgg0
  z0:=Tryz.sizeOf0
  v0:=Tryz.zeroValue0
  t3:=Tryz.underlying3
  a3:=Tryz.isAgg3
  z3:=Tryz.sizeOf3
  v3:=Tryz.zeroValue3
  t4:=Tryz.underlying4
  a4:=Tryz.isAgg4
  z4:=Tryz.sizeOf4
  v4:=Tryz.zeroValue4
  t9:=Tryz.underlying9
  a9:=Tryz.isAgg9
  z9:=Tryz.sizeOf9
  v9:=Tryz.zeroValue9
  t20:=Tryz.underlying20
  a20:=Tryz.isAgg20
  z20:=Tryz.sizeOf20
  v20:=Tryz.zeroValue20
  t22:=Tryz.underlying22
  a22:=Tryz.isAgg22
  z22:=Tryz.sizeOf22
  v22:=Tryz.zeroValue22 }
end Go.Proofs.YtolgelipcgcbhaaGreat
namespace Go.Proofs.YtolgelipcgcbhaaGreat
open Go.Abs
open Nat (reduceAdd reduceSub reduceLT reduceLeDiff reduceMul reduceEqDiff)
set_option linter.unusedVariables false
set_option linter.unusedSimpArgs false
set_option maxHeartbeats 4000000
set_option maxRecDepth 100000
theorem flat_next {α:Type} {rows:List (List α)} {i:Nat} {r:List α} (h:rows[i]?=some r):(rows.take (i+1)).flatten=(rows.take i).flatten++r:=by
  rw [List.take_add_one,h]; simp
theorem flat_le {α:Type} (rows:List (List α)) (i:Nat):(rows.take i).flatten.length≤rows.flatten.length:=by
  have:rows.flatten=(rows.take i).flatten++(rows.drop i).flatten:=by rw [← List.flatten_append,List.take_append_drop]
  rw [this,List.length_append]; omega
def c57:CF:=⟨31,(jo [jx 3 68 38 1,jb 4 false] [0,3]
 (.seq (jo [jc 5 0] [0,3,5]
 (.block 0 (.loop (.seq (jo [jm 6 5,jm 7 0,je 8 7,jt .lss 9 6 8] [0,3,5,9]
 (.cond (.t 9) .skip
 (.exit 0)))
 (.seq (.block 1 (.seq (.draw [jm 12 0,jm 13 5,ji 14 38 12 13,jf 15 4 14,jl 16 15,ju .eql 17 16 7,jm 18 17,ja 18 (jm 19 0),ja 18 (jm 20 5),ja 18 (ji 21 38 19 20),ja 18 (jf 22 36 21),ja 18 (jk 23 2 22),ja 18 (jf 24 0 3),ja 18 (jl 25 24),ja 18 (jf 26 1 3),ja 18 (jl 27 26),⟨some 28,.build [.int .i64 0,.int .i64 0] [(0,1,(.t 25)),(1,1,(.t 27))],some (18,true)⟩,⟨some 29,.eqs false [some .i64,some .i64] (.t 23) (.t 28),some (18,true)⟩,jp 30 18 29] [] [0,3,5,30])
 (.cond (.t 30) (jo [jb 4 true] [4]
 .ret)
 .skip)))
 (.ops [jm 10 5,ju .add 11 10 1,jm 5 11] [0,3,5]))))))
 (jo [jb 4 false] [4]
 .ret))),[.t 4]⟩
theorem k57:chkF Tryz.prog Tryz.f57 c57=true:=by kernel_rfl
def c56:CF:=⟨20,(jo [jx 2 109 4 0,jx 3 66 3 1,jb 4 false] [2,3]
 (.seq (jo [jc 5 0] [2,3,5]
 (.block 0 (.loop (.seq (jo [jm 6 5,jf 7 3 2,jl 8 7,je 9 8,jt .lss 10 6 9] [2,3,5,10]
 (.cond (.t 10) .skip
 (.exit 0)))
 (.seq (.block 1 (.seq (.draw [jf 13 3 2,jl 14 13,jm 15 5,ji 16 3 14 15,jk 17 3 16,jk 18 3 3,jw 19 (.eqs false [some .i64,some .i64,some .i64] (.t 17) (.t 18))] [] [2,3,5,19])
 (.cond (.t 19) (jo [jb 4 true] [4]
 .ret)
 .skip)))
 (.ops [jm 11 5,ju .add 12 11 1,jm 5 12] [2,3,5]))))))
 (jo [jb 4 false] [4]
 .ret))),[.t 4]⟩
theorem k56:chkF Tryz.prog Tryz.f56 c56=true:=by kernel_rfl
theorem gone_spec (l:List Nt) (a:Nt) (hl:l.length < 9223372036854775808):Pure Tryz.prog 57 [ntS l,.agg a.cs] (bl (goneT l a.nm)):=by
  refine Pure.of_body Tryz.call57 Tryz.func57 k57 (Nat.le_of_ble_eq_true rfl) ?_
  unfold c57
  ((refine Au ?_;repeat' first|exact True.intro|refine Cj.mk ?_ ?_)<;>intros<;>refine hD_ ?_)
  refine AWPC.loopI 5 l.length (fun i=>goneT (l.take i) a.nm=false) (by simp [goneT]) ?_ ?_
  · (simp only [zN,zT,zV,zS,zU,vcC,lateX,ex,strp,binA,elems,cells,scalar,eqC,keyA,intsA,lookA,ofVs,mpOf,Nat.reduceBEq,reduceAdd,reduceSub,reduceLT,reduceLeDiff,reduceMul,reduceEqDiff,reduceIte]; try simp)
  · intro i hi hI
    by_cases hlt:i < l.length
    · have hx:(l.map Nt.cs).getD i []=Nt.cs (l.getD i nt0):=row _ hlt
      have hg:=getD_lt nt0 hlt
      have hN:¬ ((l.getD i nt0).kind=7∧(l.getD i nt0).ref=a.nm)→goneT (l.take (i+1)) a.nm=false:=fun h=>by
        rw [List.take_add_one,hg]
        show goneT (l.take i++[_]) a.nm=false
        rw [gone_snoc,hI]
        simp only [Bool.false_or,Bool.and_eq_false_iff,beq_eq_false_iff_ne]
        by_cases h7:(l.getD i nt0).kind=7
        · exact .inr fun e=>h ⟨h7,e⟩
        · exact .inl h7
      have hY:(l.getD i nt0).kind=7→(l.getD i nt0).ref=a.nm→goneT l a.nm=true:=fun h1 h2=>gone_iff.2 ⟨_,List.mem_of_getElem? hg,h1,h2⟩
      generalize l.getD i nt0=x at hx hN hY
      have he:x.ref=a.nm↔x.ref.clerk=a.clerk∧x.ref.num=a.num:=by
        obtain ⟨_,_,_,_,_,_,_,_,_,_,_,⟨_,_⟩⟩:=x
        simp
      clear hg
      by_cases h7:x.kind=7
      · ((refine Ax (And.intro @hx @h7) ?_;repeat' first|exact True.intro|refine Cj.mk ?_ ?_)<;>intros<;>refine hD_ ?_)
        all_goals try (exfalso; omega)
        · rename_i h
          rw [hY h7 (he.2 h)]; exact Frz.eq rfl (by simp)
        · rename_i h
          exact ⟨⟨i+1,hlt,hN fun e=>h (he.1 e.2)⟩,by simp,by simp only; omega⟩
      · ((refine Ax (And.intro @hx @h7) ?_;repeat' first|exact True.intro|refine Cj.mk ?_ ?_)<;>intros<;>refine hD_ ?_)
        all_goals try (exfalso; omega)
        exact ⟨⟨i+1,hlt,hN fun e=>h7 e.1⟩,by simp,by simp only; omega⟩
    · obtain rfl:i=l.length:=by omega
      rw [List.take_length] at hI
      rw [hI]
      ((refine Au ?_;repeat' first|exact True.intro|refine Cj.mk ?_ ?_)<;>intros<;>refine hD_ ?_)
      all_goals try (exfalso; omega)
      exact Frz.eq rfl (by simp)
theorem Lhigh_spec (s:Stn) (h:Hgt) (hl:s.heights.length < 9223372036854775808):Pure Tryz.prog 56 [.agg s.cs,.agg h.cs] (bl (decide (h∈s.heights))):=by
  refine Pure.of_body Tryz.call56 Tryz.func56 k56 (Nat.le_of_ble_eq_true rfl) ?_
  unfold c56
  obtain ⟨id,sx,sy,L⟩:=s
  simp only at hl ⊢
  ((refine Au ?_;repeat' first|exact True.intro|refine Cj.mk ?_ ?_)<;>intros<;>refine hD_ ?_)
  refine AWPC.loopI 5 L.length (fun i=>h ∉ L.take i) (by simp) ?_ ?_
  · (simp only [zN,zT,zV,zS,zU,vcC,lateX,ex,strp,binA,elems,cells,scalar,eqC,keyA,intsA,lookA,ofVs,mpOf,Nat.reduceBEq,reduceAdd,reduceSub,reduceLT,reduceLeDiff,reduceMul,reduceEqDiff,reduceIte]; try simp)
  · intro i hi hI
    by_cases hlt:i < L.length
    · have hx:(L.map Hgt.cs).getD i []=Hgt.cs (L.getD i hgt0):=row _ hlt
      have hg:=getD_lt hgt0 hlt
      have hN:h≠L.getD i hgt0→h ∉ L.take (i+1):=fun e=>by
        rw [List.take_add_one,hg,Option.toList_some,List.mem_append,List.mem_singleton]
        rintro (h' | h')
        · exact hI h'
        · exact e h'
      have hY:h=L.getD i hgt0→h∈L:=fun e=>e ▸ List.mem_of_getElem? hg
      generalize L.getD i hgt0=x at hx hN hY
      have he:h=x↔x.week=h.week∧x.metres.lo=h.metres.lo∧x.metres.hi=h.metres.hi:=by
        obtain ⟨_,⟨_,_⟩⟩:=x
        obtain ⟨_,⟨_,_⟩⟩:=h
        simp; constructor <;> (intro h; simp_all)
      clear hg
      ((refine Ax @hx ?_;repeat' first|exact True.intro|refine Cj.mk ?_ ?_)<;>intros<;>refine hD_ ?_)
      all_goals try (exfalso; omega)
      · rename_i h
        rw [decide_eq_true (hY (he.2 h))]; exact Frz.eq rfl (by simp)
      · rename_i h
        exact ⟨⟨i+1,hlt,hN fun e=>h (he.1 e)⟩,by simp,by simp only; omega⟩
    · obtain rfl:i=L.length:=by omega
      rw [List.take_length] at hI
      rw [decide_eq_false hI]
      ((refine Au ?_;repeat' first|exact True.intro|refine Cj.mk ?_ ?_)<;>intros<;>refine hD_ ?_)
      all_goals try (exfalso; omega)
      exact Frz.eq rfl (by simp)
def c124:CF:=⟨36,(jo [jn 2] [0]
 (jo [jc 3 0] [0,3]
 (.seq (jo [jm 9 0,je 10 9,jc 11 0] [0,3,9,10,11]
 (.block 0 (.loop (jo [jt .lss 12 11 10] [0,3,9,10,11,12]
 (.seq (.cond (.t 12) .skip
 (.exit 0))
 (.seq (.block 1 (jo [ji 13 1 9 11,jl 14 13,jm 5 14] [0,3,5,9,10,11]
 (jo [jm 15 3,jm 16 5,je 17 16,jt .add 18 15 17,jm 3 18] [0,3,9,10,11]
 (jo [jm 19 3,ju .lss 20 19 0] [0,3,9,10,11,20]
 (.cond (.t 20) (.ops [jw 21 (.ifc 9 (.c (.string ⟨#[108,101,110,32,111,117,116,32,111,102,32,114,97,110,103,101]⟩))),⟨none,.bad,none⟩] [0,3,9,10,11])
 .skip)))))
 (.ops [ju .add 22 11 1,jm 11 22] [0,3,9,10,11])))))))
 (jo [jm 23 3,jw 24 (.call (.f 188) [(.c (.slice none 0 0)),(.t 23)]),jm 6 24] [0,6]
 (.seq (jo [jm 25 0,je 26 25,jc 27 0] [6,25,26,27]
 (.block 2 (.loop (jo [jt .lss 28 27 26] [6,25,26,27,28]
 (.seq (.cond (.t 28) .skip
 (.exit 2))
 (.seq (.block 3 (jo [ji 29 1 25 27,jl 30 29,jm 8 30] [6,8,25,26,27]
 (.ops [jm 31 6,jm 32 8,jw 33 (.app 109 4 48 (.t 31) (.t 32)),jm 6 33] [6,25,26,27])))
 (.ops [ju .add 34 27 1,jm 27 34] [6,25,26,27])))))))
 (jo [jm 35 6,jm 2 35] [2]
 .ret)))))),[.t 2]⟩
theorem k124:chkF Tryz.prog Tryz.f124 c124=true:=by kernel_rfl
def c58:CF:=⟨39,(jo [jx 3 26 6 0,jx 4 37 4 1,jw 6 (.alloc 109 4 [.int .i64 0,.int .i64 0,.int .i64 0,.slice none 0 0]),jc 7 0] [2,3,4,6]
 (.seq (jo [jk 11 6 3,jy 12 43 [11],jm 8 12] [2,3,4,6,8]
 (jo [jm 13 8,ju .neq 14 13 0] [2,3,4,6,8,14]
 (.cond (.t 14) (jo [jw 15 (.build [.int .i64 0,.int .i64 0,.int .i64 0,.slice none 0 0] []),jm 16 8,js 4 6 15,jm 7 16] [6,7]
 .ret)
 .skip)))
 (.seq (jo [jf 17 2 4,jl 18 17,jf 19 0 3,jl 20 19,jw 21 (.bsl false 22 1 2 [.slice none 0 0,.slice none 0 0] [(0,1,(.t 18)),(1,1,(.t 20))]),jy 22 124 [21],je 23 22,jc 24 0] [2,6,22,23,24]
 (.block 0 (.loop (jo [jt .lss 25 24 23] [2,6,22,23,24,25]
 (.seq (.cond (.t 25) .skip
 (.exit 0))
 (.seq (.block 1 (jo [ji 26 4 22 24,jk 27 4 26,jw 10 (.alloc 109 4 [.int .i64 0,.int .i64 0,.int .i64 0,.slice none 0 0]),js 4 10 27] [2,6,10,22,23,24]
 (jo [jf 28 0 10,jl 29 28,jm 30 2,jt .eql 31 29 30] [2,6,10,22,23,24,31]
 (.cond (.t 31) (jo [jf 32 3 10,jl 33 32,jy 34 125 [33],jf 35 3 10,js 1 35 34] [6,10]
 (jo [jk 36 4 10,js 4 6 36,jc 7 0] [6,7]
 .ret))
 .skip))))
 (.ops [ju .add 37 24 1,jm 24 37] [2,6,22,23,24])))))))
 (jo [jw 38 (.build [.int .i64 0,.int .i64 0,.int .i64 0,.slice none 0 0] []),js 4 6 38,jc 7 3] [6,7]
 .ret)))),[.c 6 (some 4),.t 7]⟩
theorem k58:chkF Tryz.prog Tryz.f58 c58=true:=by kernel_rfl
def z4S:List Value:=[.int .i64 0,.int .i64 0,.int .i64 0,.slice none 0 0]
theorem growS_does (σ:Sto) (z:Int) (h0:0≤z) (h1:z * 48≤140737488355328):Does Tryz.prog 188 [.v (.slice none 0 0),n z] σ (fun r σ'=>r=.own σ.length 0 0∧σ'=σ++[some [⟨109,4,[],none⟩]]) :=
  grow_any Tryz.growS (T:=109) (k:=4) (B:=48) rfl (by kernel_rfl) (zs:=z4S) (by kernel_rfl) rfl (by decide) (by kernel_rfl) Tryz.call188 σ z h0 h1 (by decide)
theorem snRows (l:List Stn):∀ e,e < l.length→((l.map Stn.cs).getD e []).length=4:=rowsL (cs:=Stn.cs) (k:=4) (fun a=>rfl) l
theorem concatS_does (σ:Sto) (rows:List (List Stn)) (hlen:rows.length < 9223372036854775808) (htot:(rows.flatten.length:Int) * 48≤140737488355328) :
    Does Tryz.prog 124 [.sl 1 (rows.map fun r=>[snS r])] σ (fun r σ'=>r=.own σ.length 0 rows.flatten.length∧σ'=σ++[some [⟨109,4,rows.flatten.map Stn.cs,none⟩]]):=by
  refine Does.of_body Tryz.call124 Tryz.func124 k124 (Nat.le_of_ble_eq_true rfl) ?_
  unfold c124
  ((refine Au ?_;repeat' first|exact True.intro|refine Cj.mk ?_ ?_)<;>intros<;>refine hD_ ?_)
  refine AWPC.loopS (α:={ i:Nat // i≤rows.length }) [3,11] (fun i=>[(3,n ((rows.take i.1).flatten.length)),(11,n i.1)]) (fun i=>rows.length - i.1) ⟨0,Nat.zero_le _⟩ ?_ ?_
  · (simp only [zN,zT,zV,zS,zU,vcC,lateX,ex,strp,binA,elems,cells,scalar,eqC,keyA,intsA,lookA,ofVs,mpOf,Nat.reduceBEq,reduceAdd,reduceSub,reduceLT,reduceLeDiff,reduceMul,reduceEqDiff,reduceIte]; try simp)
  · rintro ⟨i,hi⟩
    have hfl:=flat_le rows i
    by_cases hlt:i < rows.length
    · obtain ⟨r,hr⟩:∃ r,rows[i]?=some r:=⟨_,List.getElem?_eq_getElem hlt⟩
      have ft:=flat_next hr
      have hfl1:=flat_le rows (i+1)
      have hl2:(rows.take (i+1)).flatten.length=(rows.take i).flatten.length+r.length:=by rw [ft,List.length_append]
      (repeat' ((first
 | refine vn rfl ?_
 | simp (disch:=omega) only [wr64,Int.zero_sub]
 | refine bo (fun _=>?_) fun _=>?_
 | refine im fun _=>?_
 | refine cF ?_
 | refine om ?_
 | refine an ?_
 | fail) <;> try simp only [zN,zT,zV,zS,zU,vcC,lateX,ex,strp,binA,elems,cells,scalar,eqC,keyA,intsA,lookA,ofVs,mpOf,Nat.reduceBEq,reduceAdd,reduceSub,reduceLT,reduceLeDiff,reduceMul,reduceEqDiff,reduceIte,getD_map hr]))
      all_goals try (exfalso; omega)
      exact ⟨⟨i+1,hlt⟩,⟨by rw [hl2]; simp,by simp⟩,by simp only; omega⟩
    · obtain rfl:i=rows.length:=by omega
      rw [List.take_length]
      ((refine Au ?_;repeat' first|exact True.intro|refine Cj.mk ?_ ?_)<;>intros<;>refine hD_ ?_)
      all_goals try (exfalso; omega)
      refine .inr (.inl ⟨_,_,_,_,rfl,fun _=>⟨growS_does σ _ (by omega) htot,?_⟩,fun h=>by cases h⟩)
      rintro res σ' ⟨rfl,rfl⟩
      refine owp_of_exs ?_
      simp only [zN,zT,zV,zS,zU,vcC,lateX,ex,strp,binA,elems,cells,scalar,eqC,keyA,intsA,lookA,ofVs,mpOf,Nat.reduceBEq,reduceAdd,reduceSub,reduceLT,reduceLeDiff,reduceMul,reduceEqDiff,reduceIte]
      ((refine Au ?_;repeat' first|exact True.intro|refine Cj.mk ?_ ?_)<;>intros<;>refine hD_ ?_)
      refine AWPC.loopE (α:={ i:Nat // i≤rows.length }) [6,27] (fun i=>[(6,.own σ.length 0 (rows.take i.1).flatten.length),(27,n i.1)]) (fun i=>σ++[some [⟨109,4,(rows.take i.1).flatten.map Stn.cs,none⟩]]) (fun i=>rows.length - i.1) ⟨0,Nat.zero_le _⟩ ?_ rfl ?_
      · (simp only [zN,zT,zV,zS,zU,vcC,lateX,ex,strp,binA,elems,cells,scalar,eqC,keyA,intsA,lookA,ofVs,mpOf,Nat.reduceBEq,reduceAdd,reduceSub,reduceLT,reduceLeDiff,reduceMul,reduceEqDiff,reduceIte]; try simp)
      · rintro ⟨i,hi⟩
        simp only
        have hfl:=flat_le rows i
        by_cases hlt:i < rows.length
        · obtain ⟨r,hr⟩:∃ r,rows[i]?=some r:=⟨_,List.getElem?_eq_getElem hlt⟩
          have ft:=flat_next hr
          have hfl1:=flat_le rows (i+1)
          have hl2:(rows.take (i+1)).flatten.length=(rows.take i).flatten.length+r.length:=by rw [ft,List.length_append]
          have hA:∀ (o:Ob) (μ:Sto),Sto.at (σ++some [o]::μ) (List.length σ) 0=some o:=fun o μ=>by rw [at_app0]; rfl
          have hB:∀ (o o':Ob) (μ:Sto),Sto.upd (σ++some [o]::μ) (List.length σ) 0 o'=σ++some [o']::μ:=fun o o' μ=>by simp [Sto.upd]
          generalize hF:(rows.take i).flatten=F at ft hl2 hfl
          (repeat' ((first
 | refine vn rfl ?_
 | simp (disch:=omega) only [wr64,Int.zero_sub]
 | refine bo (fun _=>?_) fun _=>?_
 | refine im fun _=>?_
 | refine cF ?_
 | refine om ?_
 | refine an ?_
 | fail) <;> try simp only [zN, zT, zV, zS, zU, vcC, lateX, ex, strp, binA, elems, cells, scalar, eqC, keyA, intsA, lookA, ofVs, mpOf, Nat.reduceBEq, reduceAdd, reduceSub, reduceLT, reduceLeDiff, reduceMul, reduceEqDiff, reduceIte, getD_map hr, hA, hB, List.length_map]))
          all_goals try (exfalso; omega)
          refine ⟨⟨snRows r,by omega⟩,?_⟩
          ((refine Au ?_;repeat' first|exact True.intro|refine Cj.mk ?_ ?_)<;>intros<;>refine hD_ ?_)
          refine ⟨⟨i+1,hlt⟩,⟨by rw [hl2],by simp⟩,?_,by simp only; omega⟩
          simp [ft]
        · obtain rfl:i=rows.length:=by omega
          rw [List.take_length]
          ((refine Au ?_;repeat' first|exact True.intro|refine Cj.mk ?_ ?_)<;>intros<;>refine hD_ ?_)
          all_goals try (exfalso; omega)
          all_goals exact ⟨rfl,rfl⟩
theorem aStationOf_spec (b:Bse) (hb:bseSz b) (r:Rgr) (id:Int) (hr:r.stns.length < 4294967296) (hh:∀ s∈r.stns++b.stns,s.heights.length * 24≤140737488355328) (hB:b.stns.length < 4294967296) :
    Pure Tryz.prog 58 [.agg b.cs,.agg r.cs,n id] (.tup [.agg (stnBack b r id).1.cs,n (stnBack b r id).2]):=by
  refine Pure.of_body Tryz.call58 Tryz.func58 k58 (Nat.le_of_ble_eq_true rfl) ?_
  unfold c58
  have hcb:=CheckBase_spec b hb
  by_cases hbok:b.ok
  · rw [if_pos hbok] at hcb
    obtain ⟨L,hL⟩:∃ L,L=r.stns++b.stns:=⟨_,rfl⟩
    obtain ⟨q,hq⟩:∃ q,q=stnBack b r id:=⟨_,rfl⟩
    have hqs:∀ x,(L.find? fun s=>s.id == id)=some x→q=(x,0):=fun x h=>by rw [hq]; unfold stnBack; rw [if_neg (fun h=>h hbok),← hL,h]
    have hqn:(L.find? fun s=>s.id == id)=none→q=(default,3):=fun h=>by rw [hq]; unfold stnBack; rw [if_neg (fun h=>h hbok),← hL,h]
    rw [← hq]
    clear hq
    rw [← hL] at hh
    have hLl:L.length=r.stns.length+b.stns.length:=by rw [hL,List.length_append]
    have hfl:[r.stns,b.stns].flatten=L:=by rw [hL]; simp
    have hcd:=fun σ=>concatS_does σ [r.stns,b.stns] (by simp) (by rw [hfl]; omega)
    simp only [hfl,List.map_cons,List.map_nil] at hcd
    ((refine Ay @hcb ?_;repeat' first|exact True.intro|refine Cj.mk ?_ ?_)<;>intros<;>refine hD_ ?_)
    all_goals try (exfalso; omega)
    refine .inr (.inl ⟨_,_,_,_,rfl,fun _=>⟨hcd _,?_⟩,fun h=>by cases h⟩)
    rintro r1 σ1 ⟨rfl,rfl⟩
    refine owp_of_exs ?_
    simp only [zN,zT,zV,zS,zU,vcC,lateX,ex,strp,binA,elems,cells,scalar,eqC,keyA,intsA,lookA,ofVs,mpOf,Nat.reduceBEq,reduceAdd,reduceSub,reduceLT,reduceLeDiff,reduceMul,reduceEqDiff,reduceIte,List.length_map]
    ((refine Au ?_;repeat' first|exact True.intro|refine Cj.mk ?_ ?_)<;>intros<;>refine hD_ ?_)
    refine AWPC.loopE (α:={ x:Nat × Sto // x.1≤L.length∧∀ t,t < x.1→(L.getD t default).id≠id }) [24] (fun x=>[(24,n x.1.1)]) (fun x=>[some [⟨109,4,[[n 0,n 0,n 0,.v (.slice none 0 0)]],none⟩],some [⟨109,4,L.map Stn.cs,none⟩]]++x.1.2) (fun x=>L.length - x.1.1) ⟨(0,[]),Nat.zero_le _,fun t h=>absurd h (Nat.not_lt_zero _)⟩ ?_ rfl ?_
    · (simp only [zN,zT,zV,zS,zU,vcC,lateX,ex,strp,binA,elems,cells,scalar,eqC,keyA,intsA,lookA,ofVs,mpOf,Nat.reduceBEq,reduceAdd,reduceSub,reduceLT,reduceLeDiff,reduceMul,reduceEqDiff,reduceIte]; try simp)
    · rintro ⟨⟨i,μ⟩,hi,hI⟩
      simp only at hi hI ⊢
      by_cases hlt:i < L.length
      · have hx:(L.map Stn.cs).getD i []=Stn.cs (L.getD i default):=row default hlt
        have hg:=getD_lt (default:Stn) hlt
        have hcl:=cloneHg (L.getD i default).heights (hh _ (List.mem_of_getElem? hg))
        have hN:(L.getD i default).id≠id→∀ t,t < i+1→(L.getD t default).id≠id:=fun h t ht=>by
          rcases (show t=i∨t < i by omega) with rfl | ht
          · exact h
          · exact hI t ht
        have hY:(L.getD i default).id=id→(L.find? fun s=>s.id == id)=some (L.getD i default):=fun h=>by
          rw [List.find?_eq_some_iff_getElem]
          refine ⟨by rw [h]; simp,i,hlt,?_,fun j hj=>?_⟩
          · rw [List.getD_eq_getElem?_getD,List.getElem?_eq_getElem hlt]; rfl
          · have:=hI j hj
            rw [List.getD_eq_getElem?_getD,List.getElem?_eq_getElem (by omega)] at this
            simpa using this
        generalize L.getD i default=x at hx hcl hN hY
        clear hg hfl hcd
        by_cases he:x.id=id
        · obtain rfl:=hqs _ (hY he)
          ((refine Az (And.intro @hx @he) @hcl ?_;repeat' first|exact True.intro|refine Cj.mk ?_ ?_)<;>intros<;>refine hD_ ?_)
          all_goals try (exfalso; omega)
          subst he
          exact Frz.tupL ⟨Frz.pure (PureV.agg (sn_pc x)),Frz.pure (by simp),trivial⟩
        · have hN:=hN he
          ((refine Ax (And.intro @hx @he) ?_;repeat' first|exact True.intro|refine Cj.mk ?_ ?_)<;>intros<;>refine hD_ ?_)
          all_goals try (exfalso; omega)
          exact ⟨⟨(i+1,μ++[some [⟨109,4,[x.cs],none⟩]]),hlt,hN⟩,by simp,rfl,by simp only; omega⟩
      · obtain rfl:i=L.length:=by omega
        have hY:(L.find? fun s=>s.id == id)=none:=by
          rw [List.find?_eq_none]
          intro s hs
          obtain ⟨t,ht,rfl⟩:=List.getElem_of_mem hs
          have:=hI t ht
          rw [List.getD_eq_getElem?_getD,List.getElem?_eq_getElem ht] at this
          simpa using this
        obtain rfl:=hqn hY
        ((refine Au ?_;repeat' first|exact True.intro|refine Cj.mk ?_ ?_)<;>intros<;>refine hD_ ?_)
        all_goals try (exfalso; omega)
        all_goals exact Frz.tupL ⟨Frz.aggL ⟨Frz.pure (by simp),Frz.pure (by simp),Frz.pure (by simp),Frz.nil0,trivial⟩,Frz.pure (by simp),trivial⟩
  · rw [if_neg hbok] at hcb
    have hE:stnBack b r id=(default,100):=by unfold stnBack; rw [if_pos hbok]
    rw [hE]
    ((refine Ay @hcb ?_;repeat' first|exact True.intro|refine Cj.mk ?_ ?_)<;>intros<;>refine hD_ ?_)
    all_goals try (exfalso; omega)
    all_goals exact Frz.tupL ⟨Frz.aggL ⟨Frz.pure (by simp),Frz.pure (by simp),Frz.pure (by simp),Frz.nil0,trivial⟩,Frz.pure (by simp),trivial⟩
end Go.Proofs.YtolgelipcgcbhaaGreat
namespace Go.Abs
set_option linter.unusedVariables false
set_option linter.unusedSimpArgs false
theorem putH_perm (h:Hgt):∀ l:List Hgt,(putH h l).Perm (h::l)
  | []=>List.Perm.refl _
  | g::r=>by
    unfold putH
    split
    · exact ((putH_perm h r).cons g).trans (List.Perm.swap h g r)
    · exact List.Perm.refl _
theorem ids_lt {l:List Stn} (h:(stnsE l).1=0):∀ j,j < l.length→∀ i,i < j→(l.getD i default).id < (l.getD j default).id:=by
  intro j
  induction j with
  | zero=>intro _ i hi; omega
  | succ j ih =>
    intro hj i hi
    have h1:=(stnE_zero.1 ((stnsE_zero.1 h).2 (j+1) hj)).2.1 (by omega)
    rw [Nat.add_sub_cancel] at h1
    by_cases e:i=j
    · subst e; exact h1
    · exact Int.lt_trans (ih (by omega) i (by omega)) h1
theorem ids_inj {l:List Stn} (h:(stnsE l).1=0) {i j:Nat} (hi:i < l.length) (hj:j < l.length) (e:(l.getD i default).id=(l.getD j default).id):i=j:=by
  rcases Nat.lt_trichotomy i j with g | g | g
  · have:=ids_lt h j hj i g; omega
  · exact g
  · have:=ids_lt h i hi j g; omega
theorem SameS.len {b l:List Stn} (h:SameS b l):l.length=b.length:=by
  have:=congrArg List.length h.ids
  simpa using this
theorem SameS.id {b l:List Stn} (h:SameS b l) (i:Nat) (hi:i < b.length):(l.getD i default).id=(b.getD i default).id:=by
  have h1:=congrArg (fun x=>x[i]?) h.ids
  simp only [List.getElem?_map] at h1
  have hl:i < l.length:=by rw [h.len]; exact hi
  rw [List.getElem?_eq_getElem hl,List.getElem?_eq_getElem hi] at h1
  rw [List.getD_eq_getElem?_getD,List.getD_eq_getElem?_getD,List.getElem?_eq_getElem hl,List.getElem?_eq_getElem hi]
  simpa using h1
def okS (b:List Stn) (S:List Nt) (a:Nt):Bool:=decide ((movR (stsR b (bef S a)) a).2=0)
def HgI (b:List Stn) (S p:List Nt) (x:List Stn):Prop :=
  SameS b x∧∀ i,i < b.length→(x.getD i default).x=(b.getD i default).x∧(x.getD i default).y=(b.getD i default).y ∧
    (x.getD i default).heights.Perm ((b.getD i default).heights++(p.filter fun a=>decide (a.stn=(b.getD i default).id) && okS b S a).map Nt.height)
theorem hg_all {b:List Stn} (hb:(stnsE b).1=0) {S:List Nt} (hn:(S.map Nt.nm).Nodup) (hp:∀ a∈S,a.kind=4→(stnOf b a.stn).2=0):HgI b S (S.filter (kd 4)) (stsR b S):=by
  unfold stsR
  refine (foldl_pre (G:=raiR) (l:=S.filter (kd 4)) (x:=b) (fun p x=>x=p.foldl raiR b∧HgI b S p x) ?_ ⟨rfl,⟨hb,rfl⟩,fun i _=>⟨rfl,rfl,by simp⟩⟩).2
  rintro p a s x h ⟨hx,hs,hI⟩
  obtain ⟨hbf,hmm,hq⟩:=bef_filter hn h
  have hpre:stsR b (bef S a)=x:=by unfold stsR; rw [hbf,hx]
  have hpl:(stnOf b a.stn).2=0:=hp a hmm (kd_iff.1 hq)
  refine ⟨by rw [List.foldl_append,← hx]; rfl,hs.raiR a,fun i hi=>?_⟩
  obtain ⟨h1,h2,h3⟩:=hI i hi
  have hof:=hs.of hb a.stn
  have hpx:(stnOf x a.stn).2=0:=by rw [hof]; exact hpl
  obtain ⟨hj,hid⟩:=stnOf_lt hpx
  have hil:i < x.length:=by rw [hs.len]; exact hi
  have hok:okS b S a=decide ((movR x a).2=0):=by unfold okS; rw [hpre]
  rw [List.filter_append,List.map_append]
  by_cases hz:(movR x a).2=0
  · have hr:raiR x a=x.set (stnOf x a.stn).1 (movR x a).1:=by unfold raiR; rw [if_neg (by omega)]
    have hmv:=(move_ok hz).1
    have hmv:(movR x a).1={ x.getD (stnOf x a.stn).1 default with heights:=putH a.height (x.getD (stnOf x a.stn).1 default).heights }:=hmv
    rw [hr,hmv]
    rw [decide_eq_true hz] at hok
    generalize (stnOf x a.stn).1=j at hj hid
    rw [getD_set hj]
    by_cases e:i=j
    · subst e
      rw [if_pos rfl]
      have:a.stn=(b.getD i default).id:=by rw [← hs.id i hi,hid]
      refine ⟨h1,h2,?_⟩
      simp only [List.filter_cons,List.filter_nil,hok,this,decide_true,Bool.and_self,if_true,List.map_cons,List.map_nil]
      refine (putH_perm _ _).trans ((h3.cons a.height).trans ?_)
      rw [← List.append_assoc]
      exact (List.perm_append_singleton _ _).symm
    · rw [if_neg e]
      have:¬ a.stn=(b.getD i default).id:=fun e2=>e (ids_inj hs.ok hil hj (by rw [hs.id i hi,hid,e2]))
      refine ⟨h1,h2,?_⟩
      simp only [List.filter_cons,List.filter_nil,this,decide_false,Bool.false_and,if_neg (Bool.false_ne_true),List.map_nil,List.append_nil]
      exact h3
  · have hr:raiR x a=x:=by unfold raiR; rw [if_pos hz]
    rw [hr]
    rw [decide_eq_false hz] at hok
    refine ⟨h1,h2,?_⟩
    simp only [List.filter_cons,List.filter_nil,hok,Bool.and_false,if_neg (Bool.false_ne_true),List.map_nil,List.append_nil]
    exact h3
theorem standT_perm (l:List Nt):(standT l).Perm ((l.filter fun a=>a.kind != 7).filter fun a=>!goneT l a.nm):=(srtT_perm _).filter _
def hgQ (l:List Nt) (C:List Nm) (id:Int) (a:Nt):Bool:=decide (a.kind=4) && (decide (a.stn=id) && (!decide (a.nm∈C) && !goneT l a.nm))
structure StnsT (b:Bse) (l:List Nt) (R:Rgr) (i:Nat):Prop where
  id:(R.stns.getD i default).id=(b.stns.getD i default).id
  x:(R.stns.getD i default).x=(b.stns.getD i default).x
  y:(R.stns.getD i default).y=(b.stns.getD i default).y
  base:∀ h∈(b.stns.getD i default).heights,h∈(R.stns.getD i default).heights
  said:∀ a∈l,hgQ l R.confl (R.stns.getD i default).id a=true→a.height∈(R.stns.getD i default).heights
  len:(R.stns.getD i default).heights.length=(b.stns.getD i default).heights.length+(l.filter (hgQ l R.confl (R.stns.getD i default).id)).length
  back:stnBack b R (R.stns.getD i default).id=(R.stns.getD i default,0)
theorem stnsT {b:Bse} {l:List Nt} (ok:(setE b l).1=0):(stnsE (refT b l).stns).1=0∧(refT b l).stns.length=b.stns.length∧∀ i,i < b.stns.length→StnsT b l (refT b l) i:=by
  obtain ⟨hb,_,hoks,_⟩:=setE_ok ok
  have hnl:=setE_nodup ok
  have hn:=standT_nodup hnl
  obtain ⟨hs,hI⟩:=hg_all hb.1 hn (fun a ha h4=>by
    have h1:=(hoks a (mem_standT.1 ha).1).2.2.2.2
    unfold Nt.says at h1
    rw [if_neg (by omega),if_neg (by omega),if_neg (by omega),if_pos h4] at h1
    exact h1.1.1)
  have hst:(refT b l).stns=stsR b.stns (standT l):=rfl
  refine ⟨hs.ok,hs.len,fun i hi=>?_⟩
  obtain ⟨h1,h2,h3⟩:=hI i hi
  have hid:=hs.id i hi
  have hcf:∀ a∈l,a.kind=4→goneT l a.nm=false→(decide (a.nm∈(refT b l).confl)=!okS b.stns (standT l) a):=fun a ha h4 hg=>by
    have e1:a.nm∈(refT b l).confl↔badR b l a=true:=by
      show a.nm∈(l.filter (badR b l)).map Nt.nm↔_
      rw [List.mem_map]
      constructor
      · rintro ⟨d,hd,e⟩
        rw [List.mem_filter] at hd
        rw [nm_inj hnl hd.1 ha e] at hd
        exact hd.2
      · intro h; exact ⟨a,List.mem_filter.2 ⟨ha,h⟩,rfl⟩
    have e2:badR b l a=!okS b.stns (standT l) a:=by
      unfold badR badS okS
      rw [if_neg (by omega),hg,if_neg (by omega),if_neg (by omega),if_pos h4]
      by_cases hz:(movR (stsR b.stns (bef (standT l) a)) a).2=0 <;> simp [hz]
    rw [← e2,Bool.eq_iff_iff,decide_eq_true_eq,e1]
  have hfil:((standT l).filter (kd 4)).filter (fun a=>decide (a.stn=(b.stns.getD i default).id) && okS b.stns (standT l) a)=(standT l).filter fun a=>kd 4 a && (decide (a.stn=(b.stns.getD i default).id) && okS b.stns (standT l) a):=by
    rw [List.filter_filter]
    exact List.filter_congr fun a _=>Bool.and_comm _ _
  rw [hfil] at h3
  have hperm:((standT l).filter fun a=>kd 4 a && (decide (a.stn=(b.stns.getD i default).id) && okS b.stns (standT l) a)).Perm (l.filter (hgQ l (refT b l).confl (b.stns.getD i default).id)):=by
    refine ((standT_perm l).filter _).trans ?_
    rw [List.filter_filter,List.filter_filter]
    have:(l.filter fun a=>((kd 4 a && (decide (a.stn=(b.stns.getD i default).id) && okS b.stns (standT l) a)) && (!goneT l a.nm)) && (a.kind != 7))=l.filter (hgQ l (refT b l).confl (b.stns.getD i default).id):=by
      refine List.filter_congr fun a ha=>?_
      unfold hgQ
      by_cases h4:a.kind=4
      · cases hg:goneT l a.nm with
        | true=>simp
        | false =>
          rw [hcf a ha h4 hg]
          simp [h4,kd]
      · simp [h4,kd]
    rw [this]
  refine ⟨hid,h1,h2,fun h hh=>h3.mem_iff.2 (List.mem_append.2 (.inl hh)),fun a ha hq=>?_,?_,?_⟩
  · rw [hst,hid] at hq
    exact h3.mem_iff.2 (List.mem_append.2 (.inr (List.mem_map.2 ⟨a,hperm.mem_iff.2 (List.mem_filter.2 ⟨ha,hq⟩),rfl⟩)))
  · rw [hst,hid,h3.length_eq,List.length_append,List.length_map,hperm.length_eq]
  · unfold stnBack
    rw [if_neg (fun h=>h hb)]
    have hil:i < (stsR b.stns (standT l)).length:=by rw [hs.len]; exact hi
    have hf:((refT b l).stns++b.stns).find? (fun s=>s.id == ((refT b l).stns.getD i default).id)=some ((refT b l).stns.getD i default):=by
      rw [hst]
      rw [List.find?_append]
      have:(stsR b.stns (standT l)).find? (fun s=>s.id == ((stsR b.stns (standT l)).getD i default).id)=some ((stsR b.stns (standT l)).getD i default):=by
        rw [List.find?_eq_some_iff_getElem]
        refine ⟨by simp,i,hil,?_,fun j hj=>?_⟩
        · rw [List.getD_eq_getElem?_getD,List.getElem?_eq_getElem hil]; rfl
        · have h5:=ids_lt hs.ok i hil j hj
          have e:(stsR b.stns (standT l))[j]=(stsR b.stns (standT l)).getD j default:=by rw [List.getD_eq_getElem?_getD,List.getElem?_eq_getElem (by omega)]; rfl
          rw [e]
          simp only [Bool.not_eq_true',beq_eq_false_iff_ne]
          omega
      rw [this]; rfl
    rw [hf]
end Go.Abs
namespace Go.Proofs.YtolgelipcgcbhaaGreat
open Go.Abs
open Nat (reduceAdd reduceSub reduceLT reduceLeDiff reduceMul reduceEqDiff)
set_option linter.unusedVariables false
set_option linter.unusedSimpArgs false
set_option maxHeartbeats 4000000
set_option maxRecDepth 100000
def c14:CF:=⟨201,(jo [jx 2 26 6 0,jb 4 false] [1,2]
 (jo [jy 18 18 [],jm 5 18] [1,2,5]
 (.seq (jo [jk 19 6 2,jy 20 19 [19],jv 21 20,jm 22 21,jd 22 (jm 23 1),jd 22 (jy 24 20 [23]),jd 22 (jv 25 24),jq 26 22 25,jm 27 26,jd 27 (jm 28 1),jd 27 (je 29 28),jd 27 (ju .gtr 30 29 40),jq 31 27 30] [1,2,5,31]
 (.cond (.t 31) (jo [jm 32 5,jm 4 32] [4]
 .ret)
 .skip))
 (jo [jk 34 6 2,jm 35 1,jy 36 21 [34,35],jm 33 36,jz 37 0 33,jz 38 1 33,jw 6 (.alloc 37 4 [.slice none 0 0,.slice none 0 0,.slice none 0 0,.slice none 0 0]),js 4 6 37,jm 7 38] [1,2,5,6,7]
 (.seq (jo [jm 39 7,ju .neq 40 39 0] [1,2,5,6,40]
 (.cond (.t 40) (jo [jm 41 5,jm 4 41] [4]
 .ret)
 .skip))
 (jo [jf 43 2 6,jl 44 43,jy 45 55 [44],jm 42 45,jz 46 0 42,jz 47 1 42,jm 8 46,jm 9 47] [1,2,5,6,8]
 (.seq (jo [jm 48 8,ju .neq 49 48 0,jm 50 49,jd 50 (jf 51 2 6),jd 50 (jl 52 51),jd 50 (je 53 52),jd 50 (jf 54 0 2),jd 50 (jl 55 54),jd 50 (je 56 55),jd 50 (jt .neq 57 53 56),jq 58 50 57] [1,2,5,6,58]
 (.cond (.t 58) (jo [jb 4 false] [4]
 .ret)
 .skip))
 (.seq (jo [jc 10 0] [1,2,5,6,10]
 (.block 0 (.loop (.seq (jo [jm 59 10,jf 60 2 6,jl 61 60,je 62 61,jt .lss 63 59 62] [1,2,5,6,10,63]
 (.cond (.t 63) .skip
 (.exit 0)))
 (.seq (.block 1 (jo [jf 66 2 6,jl 67 66,jm 68 10,ji 69 4 67 68,jk 70 4 69,jw 11 (.alloc 109 4 [.int .i64 0,.int .i64 0,.int .i64 0,.slice none 0 0]),js 4 11 70] [1,2,5,6,10,11]
 (.seq (.seq (.draw [jf 71 0 11,jl 72 71,jf 73 0 2,jl 74 73,jm 75 10,ji 76 4 74 75,jf 77 0 76,jl 78 77,jt .neq 79 72 78,jm 80 79,jd 80 (jf 81 1 11),jd 80 (jl 82 81),jd 80 (jf 83 0 2),jd 80 (jl 84 83),jd 80 (jm 85 10),jd 80 (ji 86 4 84 85),jd 80 (jf 87 1 86),jd 80 (jl 88 87),jd 80 (jt .neq 89 82 88),jq 90 80 89,jm 91 90,jd 91 (jf 92 2 11),jd 91 (jl 93 92),jd 91 (jf 94 0 2),jd 91 (jl 95 94),jd 91 (jm 96 10),jd 91 (ji 97 4 95 96),jd 91 (jf 98 2 97),jd 91 (jl 99 98),jd 91 (jt .neq 100 93 99),jq 101 91 100] [] [1,2,5,6,10,11,101])
 (.cond (.t 101) (jo [jb 4 false] [4]
 .ret)
 .skip))
 (.seq (jo [jc 12 0] [1,2,5,6,10,11,12]
 (.block 2 (.loop (.seq (jo [jm 102 12,jf 103 0 2,jl 104 103,jm 105 10,ji 106 4 104 105,jf 107 3 106,jl 108 107,je 109 108,jt .lss 110 102 109] [1,2,5,6,10,11,12,110]
 (.cond (.t 110) .skip
 (.exit 2)))
 (.seq (.block 3 (.seq (.draw [jk 113 4 11,jf 114 0 2,jl 115 114,jm 116 10,ji 117 4 115 116,jf 118 3 117,jl 119 118,jm 120 12,ji 121 3 119 120,jk 122 3 121,jy 123 56 [113,122],jv 124 123] [] [1,2,5,6,10,11,12,124])
 (.cond (.t 124) (jo [jb 4 false] [4]
 .ret)
 .skip)))
 (.ops [jm 111 12,ju .add 112 111 1,jm 12 112] [1,2,5,6,10,11,12]))))))
 (jo [jc 13 0] [1,2,5,6,10,11,13]
 (.seq (jo [jc 14 0] [1,2,5,6,10,11,13,14]
 (.block 4 (.loop (.seq (jo [jm 125 14,jm 126 1,je 127 126,jt .lss 128 125 127] [1,2,5,6,10,11,13,14,128]
 (.cond (.t 128) .skip
 (.exit 4)))
 (.seq (.block 5 (jo [jm 131 1,jm 132 14,ji 133 38 131 132,jk 134 38 133,jw 15 (.alloc 68 38 z38),js 38 15 134] [1,2,5,6,10,11,13,14,15]
 (jo [jf 135 4 15,jl 136 135,ju .eql 137 136 4,jm 138 137,ja 138 (jf 139 5 15),ja 138 (jl 140 139),ja 138 (jf 141 0 11),ja 138 (jl 142 141),ja 138 (jt .eql 143 140 142),jp 144 138 143,jm 145 144,ja 145 (jf 146 3 6),ja 145 (jl 147 146),ja 145 (jf 148 0 15),ja 145 (jl 149 148),ja 145 (jf 150 1 15),ja 145 (jl 151 150),⟨some 152,.build [.int .i64 0,.int .i64 0] [(0,1,(.t 149)),(1,1,(.t 151))],some (145,true)⟩,ja 145 (jy 153 30 [147,152]),ja 145 (jv 154 153),jp 155 145 154,jm 156 155,ja 156 (jm 157 1),ja 156 (jk 158 38 15),ja 156 (jy 159 57 [157,158]),ja 156 (jv 160 159),jp 161 156 160] [1,2,5,6,10,11,13,14,15,161]
 (.cond (.t 161) (jo [jm 162 13,ju .add 163 162 1,jm 13 163] [1,2,5,6,10,11,13,14,15]
 (jo [jk 164 4 11,jf 165 33 15,jk 166 3 165,jy 167 56 [164,166],jv 168 167] [1,2,5,6,10,11,13,14,168]
 (.cond (.t 168) (jo [jb 4 false] [4]
 .ret)
 .skip)))
 .skip))))
 (.ops [jm 129 14,ju .add 130 129 1,jm 14 130] [1,2,5,6,10,11,13,14]))))))
 (jo [jk 170 6 2,jk 171 4 6,jf 172 0 11,jl 173 172,jy 174 58 [170,171,173],jm 169 174,jz 175 0 169,jz 176 1 169,jw 16 (.alloc 109 4 [.int .i64 0,.int .i64 0,.int .i64 0,.slice none 0 0]),js 4 16 175,jm 17 176] [1,2,5,6,10,11,13,16,17]
 (.seq (.draw [jf 177 3 11,jl 178 177,je 179 178,jf 180 0 2,jl 181 180,jm 182 10,ji 183 4 181 182,jf 184 3 183,jl 185 184,je 186 185,jm 187 13,jt .add 188 186 187,jt .neq 189 179 188,jm 190 189,jd 190 (jm 191 17),jd 190 (ju .neq 192 191 0),jq 193 190 192,jm 194 193,jd 194 (jk 195 4 11),jd 194 (jk 196 4 16),jd 194 (jy 197 59 [195,196]),jd 194 (jv 198 197),jq 199 194 198] [] [1,2,5,6,10,199])
 (.cond (.t 199) (jo [jb 4 false] [4]
 .ret)
 .skip)))))))))
 (.ops [jm 64 10,ju .add 65 64 1,jm 10 65] [1,2,5,6,10]))))))
 (jo [jm 200 5,jm 4 200] [4]
 .ret))))))))),[.t 4]⟩
theorem k14:chkF Tryz.prog Tryz.f14 c14=true:=by kernel_rfl
theorem Stations_spec (b:Bse) (l:List Nt) (hb:bseSz b) (hl:setSz l):Pure Tryz.prog 14 [.agg b.cs,ntS l] (bl true):=by
  refine Pure.of_body Tryz.call14 Tryz.func14 k14 (Nat.le_of_ble_eq_true rfl) ?_
  unfold c14
  have s1:=small_spec b hb
  have s2:=few_spec l hl.1
  have hl0:=hl.1
  generalize smallB b=c1 at s1
  generalize fewB l=c2 at s2
  by_cases hg:c1=true∧c2=true∧l.length≤40
  · obtain ⟨rfl,rfl,h40⟩:=hg
    have F1:=Fold_spec b hb l hl
    by_cases ha:askedE b [l]=0
    · have hE:foldE b l=(foldT b l,0):=by unfold foldE; rw [if_neg (by omega)]
      rw [hE] at F1
      simp only at F1
      have ok:=askedE_one.1 ha
      have hset:=setE_ok ok
      obtain ⟨hrl,hcl⟩:=fold_rds ok
      have zR:=foldSz hl ok
      obtain ⟨g1,g2,g3⟩:=stnsT ok
      rw [← foldT_ref b (setE_nodup ok)] at g1 g2 g3
      obtain ⟨hst1,hst2⟩:=stns_small g1
      obtain ⟨hbt1,hbt2⟩:=stns_small hset.1.1
      have cs:=CheckStn_spec (foldT b l).stns ⟨by omega,fun s hs=>by have:=hst2 s hs; omega⟩
      rw [g1] at cs
      have sb:=fun id=>aStationOf_spec b hb (foldT b l) id (by omega) (fun s hs=>by
        rcases List.mem_append.1 hs with h | h
        · have:=hst2 s h; omega
        · have:=hbt2 s h; omega) (by omega)
      have nm:=fun m=>named_spec (foldT b l).confl m (by omega)
      have gn:=fun a=>gone_spec l a hl0
      clear hE zR hset ok ha g1
      generalize (stnsE (foldT b l).stns).2=v at cs
      generalize foldT b l=R at F1 cs sb nm g2 g3 hst1 hst2 hrl hcl
      ((refine Ay (And.intro @awake_spec (And.intro @s1 (And.intro @s2 (And.intro @F1 @cs)))) ?_;repeat' first|exact True.intro|refine Cj.mk ?_ ?_)<;>intros<;>refine hD_ ?_)
      all_goals try (exfalso; omega)
      refine AWPC.loopE (α:={ x:Nat × Sto // x.1≤R.stns.length }) [10] (fun x=>[(10,n x.1.1)]) (fun x=>some [⟨37,4,[R.cs],none⟩]::x.1.2) (fun x=>R.stns.length - x.1.1) ⟨(0,[]),Nat.zero_le _⟩ ?_ rfl ?_
      · (simp only [zN,zT,zV,zS,zU,vcC,lateX,ex,strp,binA,elems,cells,scalar,eqC,keyA,intsA,lookA,ofVs,mpOf,Nat.reduceBEq,reduceAdd,reduceSub,reduceLT,reduceLeDiff,reduceMul,reduceEqDiff,reduceIte]; try simp)
      · rintro ⟨⟨i,μ⟩,hi⟩
        simp only at hi ⊢
        by_cases hlt:i < R.stns.length
        · have hib:i < b.stns.length:=by omega
          have r1:(R.stns.map Stn.cs).getD i []=Stn.cs (R.stns.getD i default):=row default hlt
          have r2:(b.stns.map Stn.cs).getD i []=Stn.cs (b.stns.getD i default):=row default hib
          have hS:=g3 i hib
          have z1:=hst2 _ (List.mem_of_getElem? (getD_lt (default:Stn) hlt))
          have z2:=hbt2 _ (List.mem_of_getElem? (getD_lt (default:Stn) hib))
          obtain ⟨f1,f2,f3,f4,f5,f6,f7⟩:=hS
          generalize R.stns.getD i default=s at r1 f1 f2 f3 f4 f5 f6 f7 z1
          generalize b.stns.getD i default=s0 at r2 f1 f2 f3 f4 f5 f6 f7 z2
          have sb:=sb s.id
          rw [f7] at sb
          have ss:=sameStn_spec s s (by omega) (by omega)
          rw [decide_eq_true rfl] at ss
          have hh:=fun h=>Lhigh_spec s h (by omega)
          clear g3 f7
          ((refine Ax (And.intro @r1 @r2) ?_;repeat' first|exact True.intro|refine Cj.mk ?_ ?_)<;>intros<;>refine hD_ ?_)
          all_goals try (exfalso; omega)
          obtain ⟨Q,hQ⟩:∃ Q,Q=hgQ l R.confl s.id:=⟨_,rfl⟩
          rw [← hQ] at f5 f6
          refine AWPC.loopS (α:={ k:Nat // k≤s0.heights.length }) [12] (fun k=>[(12,n k.1)]) (fun k=>s0.heights.length - k.1) ⟨0,Nat.zero_le _⟩ ?_ ?_
          · (simp only [zN,zT,zV,zS,zU,vcC,lateX,ex,strp,binA,elems,cells,scalar,eqC,keyA,intsA,lookA,ofVs,mpOf,Nat.reduceBEq,reduceAdd,reduceSub,reduceLT,reduceLeDiff,reduceMul,reduceEqDiff,reduceIte]; try simp)
          · rintro ⟨k,hk⟩
            by_cases hkl:k < s0.heights.length
            · have q1:(s0.heights.map Hgt.cs).getD k []=Hgt.cs (s0.heights.getD k hgt0):=row hgt0 hkl
              have q2:=hh (s0.heights.getD k hgt0)
              rw [decide_eq_true (f4 _ (List.mem_of_getElem? (getD_lt hgt0 hkl)))] at q2
              generalize s0.heights.getD k hgt0=h at q1 q2
              ((refine Az (And.intro @r2 @q1) @q2 ?_;repeat' first|exact True.intro|refine Cj.mk ?_ ?_)<;>intros<;>refine hD_ ?_)
              all_goals try (exfalso; omega)
              all_goals exact ⟨⟨k+1,hkl⟩,by simp,by simp only; omega⟩
            · obtain rfl:k=s0.heights.length:=by omega
              ((refine Ax @r2 ?_;repeat' first|exact True.intro|refine Cj.mk ?_ ?_)<;>intros<;>refine hD_ ?_)
              all_goals try (exfalso; omega)
              obtain ⟨W,hW⟩:∃ W:Sto,W=some [⟨37,4,[R.cs],none⟩]::(μ++[some [⟨109,4,[s.cs],none⟩]]):=⟨_,rfl⟩
              have hA:∀ ν,Sto.at (W++ν) 0 0=some ⟨37,4,[R.cs],none⟩:=fun ν=>by rw [hW]; rfl
              have hB:∀ ν,Sto.at (W++ν) (List.length μ+1) 0=some ⟨109,4,[s.cs],none⟩:=fun ν=>by
                rw [hW,List.cons_append,at_consS,List.append_assoc,at_app0]; rfl
              refine AWPC.loopE (α:={ x:Nat × Sto // x.1≤l.length }) [13,14] (fun x=>[(13,n (((l.take x.1.1).filter Q).length)),(14,n x.1.1)]) (fun x=>W++x.1.2) (fun x=>l.length - x.1.1) ⟨(0,[]),Nat.zero_le _⟩ ?_ (by rw [hW]; simp) ?_
              · (simp only [zN,zT,zV,zS,zU,vcC,lateX,ex,strp,binA,elems,cells,scalar,eqC,keyA,intsA,lookA,ofVs,mpOf,Nat.reduceBEq,reduceAdd,reduceSub,reduceLT,reduceLeDiff,reduceMul,reduceEqDiff,reduceIte]; try simp)
              · rintro ⟨⟨j,ν⟩,hj⟩
                simp only at hj ⊢
                by_cases hjl:j < l.length
                · have r3:(l.map Nt.cs).getD j []=Nt.cs (l.getD j nt0):=row nt0 hjl
                  have hN:(l.take (j+1)).filter Q=if Q (l.getD j nt0) then (l.take j).filter Q++[l.getD j nt0] else (l.take j).filter Q:=filter_next (getD_lt nt0 hjl)
                  have hq0:Q (l.getD j nt0)=true→(l.getD j nt0).height∈s.heights:=f5 _ (List.mem_of_getElem? (getD_lt nt0 hjl))
                  have hle:((l.take j).filter Q).length≤j:=Nat.le_trans (List.length_filter_le _ _) (by rw [List.length_take]; omega)
                  generalize l.getD j nt0=a at r3 hN hq0
                  have q1:=nm a.nm
                  have q2:=gn a
                  have q3:=hh a.height
                  have hqd:Q a=(decide (a.kind=4) && (decide (a.stn=s.id) && (!decide (a.nm∈R.confl) && !goneT l a.nm))):=by rw [hQ]; rfl
                  generalize hU:((l.take j).filter Q)=U at hN hle
                  generalize decide (a.nm∈R.confl)=w1 at q1 hqd
                  generalize goneT l a.nm=w2 at q2 hqd
                  have fin:∀ c:Int,c=(if Q a then (U.length:Int)+1 else U.length)→n c=n (((l.take (j+1)).filter Q).length):=fun c hc=>by
                    rw [hc,hN]
                    cases Q a <;> simp
                  by_cases h4:a.kind=4
                  · by_cases hs:a.stn=s.id
                    · rw [decide_eq_true h4,decide_eq_true hs,Bool.true_and,Bool.true_and] at hqd
                      cases w1 with
                      | true =>
                        rw [Bool.not_true,Bool.false_and] at hqd
                        clear hq0
                        ((refine Az (And.intro @r3 (And.intro @hA (And.intro @hB (And.intro @h4 @hs)))) (And.intro @q1 @q2) ?_;repeat' first|exact True.intro|refine Cj.mk ?_ ?_)<;>intros<;>refine hD_ ?_)
                        all_goals try (exfalso; omega)
                        all_goals exact ⟨⟨(j+1,_),hjl⟩,⟨fin _ (by rw [hqd]; rfl),by simp⟩,by simp only [List.append_assoc]; rfl,by simp only; omega⟩
                      | false =>
                        cases w2 with
                        | true =>
                          rw [Bool.not_true,Bool.and_false] at hqd
                          clear hq0
                          ((refine Az (And.intro @r3 (And.intro @hA (And.intro @hB (And.intro @h4 @hs)))) (And.intro @q1 @q2) ?_;repeat' first|exact True.intro|refine Cj.mk ?_ ?_)<;>intros<;>refine hD_ ?_)
                          all_goals try (exfalso; omega)
                          all_goals exact ⟨⟨(j+1,_),hjl⟩,⟨fin _ (by rw [hqd]; rfl),by simp⟩,by simp only [List.append_assoc]; rfl,by simp only; omega⟩
                        | false =>
                          rw [Bool.not_false,Bool.and_true] at hqd
                          rw [decide_eq_true (hq0 hqd)] at q3
                          clear hq0
                          ((refine Az (And.intro @r3 (And.intro @hA (And.intro @hB (And.intro @h4 @hs)))) (And.intro @q1 (And.intro @q2 @q3)) ?_;repeat' first|exact True.intro|refine Cj.mk ?_ ?_)<;>intros<;>refine hD_ ?_)
                          all_goals try (exfalso; omega)
                          all_goals exact ⟨⟨(j+1,_),hjl⟩,⟨fin _ (by rw [hqd]; rfl),by simp⟩,by simp only [List.append_assoc]; rfl,by simp only; omega⟩
                    · rw [decide_eq_false hs,Bool.false_and,Bool.and_false] at hqd
                      clear hq0
                      ((refine Ax (And.intro @r3 (And.intro @hA (And.intro @hB (And.intro @h4 @hs)))) ?_;repeat' first|exact True.intro|refine Cj.mk ?_ ?_)<;>intros<;>refine hD_ ?_)
                      all_goals try (exfalso; omega)
                      all_goals exact ⟨⟨(j+1,_),hjl⟩,⟨fin _ (by rw [hqd]; rfl),by simp⟩,by simp only [List.append_assoc]; rfl,by simp only; omega⟩
                  · rw [decide_eq_false h4,Bool.false_and] at hqd
                    clear hq0
                    ((refine Ax (And.intro @r3 (And.intro @hA (And.intro @hB @h4))) ?_;repeat' first|exact True.intro|refine Cj.mk ?_ ?_)<;>intros<;>refine hD_ ?_)
                    all_goals try (exfalso; omega)
                    all_goals exact ⟨⟨(j+1,_),hjl⟩,⟨fin _ (by rw [hqd]; rfl),by simp⟩,by simp only [List.append_assoc]; rfl,by simp only; omega⟩
                · obtain rfl:j=l.length:=by omega
                  rw [List.take_length]
                  have hle:=List.length_filter_le Q l
                  ((refine Az (And.intro @r2 (And.intro @hA @hB)) (And.intro @sb @ss) ?_;repeat' first|exact True.intro|refine Cj.mk ?_ ?_)<;>intros<;>refine hD_ ?_)
                  all_goals try (exfalso; omega)
                  all_goals exact ⟨⟨(i+1,μ++some [⟨109,4,[s.cs],none⟩]::(ν++[some [⟨109,4,[s.cs],none⟩]])),hlt⟩,by simp,by rw [hW]; simp,by simp only; omega⟩
        · obtain rfl:i=R.stns.length:=by omega
          ((refine Au ?_;repeat' first|exact True.intro|refine Cj.mk ?_ ?_)<;>intros<;>refine hD_ ?_)
          all_goals try (exfalso; omega)
          all_goals exact Frz.eq rfl (by simp)
    · have hE:foldE b l=(rgr0,askedE b [l]):=by unfold foldE; rw [if_pos ha]
      rw [hE] at F1
      simp only at F1
      generalize askedE b [l]=e at F1 ha
      clear hE hb hl
      ((refine Ay (And.intro @awake_spec (And.intro @s1 (And.intro @s2 @F1))) ?_;repeat' first|exact True.intro|refine Cj.mk ?_ ?_)<;>intros<;>refine hD_ ?_)
      all_goals try (exfalso; omega)
      all_goals exact Frz.eq rfl (by simp)
  · clear hb hl
    cases c1 with
    | false =>
      ((refine Ay (And.intro @awake_spec (And.intro @s1 @s2)) ?_;repeat' first|exact True.intro|refine Cj.mk ?_ ?_)<;>intros<;>refine hD_ ?_)
      all_goals try (exfalso; omega)
      all_goals exact Frz.eq rfl (by simp)
    | true =>
      cases c2 with
      | false =>
        ((refine Ay (And.intro @awake_spec (And.intro @s1 @s2)) ?_;repeat' first|exact True.intro|refine Cj.mk ?_ ?_)<;>intros<;>refine hD_ ?_)
        all_goals try (exfalso; omega)
        all_goals exact Frz.eq rfl (by simp)
      | true =>
        by_cases h40:l.length≤40
        · exact absurd ⟨rfl,rfl,h40⟩ hg
        · ((refine Ay (And.intro @awake_spec (And.intro @s1 @s2)) ?_;repeat' first|exact True.intro|refine Cj.mk ?_ ?_)<;>intros<;>refine hD_ ?_)
          all_goals try (exfalso; omega)
          all_goals exact Frz.eq rfl (by simp)
end Go.Proofs.YtolgelipcgcbhaaGreat
