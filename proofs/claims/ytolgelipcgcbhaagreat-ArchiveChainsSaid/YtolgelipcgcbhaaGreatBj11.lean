/- Part 11 of the texts that the claim rests on: abstract values over the walk, and contracts of functions. -/
import Derived.Test.YtolgelipcgcbhaaGreatBj10
import Derived.Test.YtolgelipcgcbhaaGreatRows
import Derived.ChangeArms
import Derived.DataReads
import Derived.WalkKit
import Derived.ProofKit
import Derived.OpenShut
import Derived.ShutString
import Derived.ChangeOld
import Derived.Below
namespace Go.Abs
set_option linter.unusedVariables false
set_option linter.unusedSimpArgs false
theorem setE_len {b:Bse} {l:List Nt} (h:(setE b l).1=0):l.length≤400:=(setE_ok h).2.1
end Go.Abs
namespace Go.Proofs.YtolgelipcgcbhaaGreat
open Go.Abs
open Nat (reduceAdd reduceSub reduceLT reduceLeDiff reduceMul reduceEqDiff)
set_option linter.unusedVariables false
set_option linter.unusedSimpArgs false
set_option maxHeartbeats 4000000
set_option maxRecDepth 100000
def c35:CF:=⟨2,(jo [jw 0 (.alloc 29 2 [.int .i64 0,.int .i64 0])] [0]
 (jo [jw 1 (.build [.int .i64 0,.int .i64 0] [(0,1,(.c (.int .i64 8))),(1,1,(.c (.int .i64 400)))]),js 2 0 1] [0]
 .ret)),[.c 0 (some 2)]⟩
theorem k35:chkF Tryz.prog Tryz.f35 c35=true:=by kernel_rfl
def c30:CF:=⟨18,(jo [jx 3 29 2 1,jb 4 false] [0,3]
 (.seq (jo [jc 5 0] [0,3,5]
 (.block 0 (.loop (.seq (jo [jm 6 5,jm 7 0,je 8 7,jt .lss 9 6 8] [0,3,5,9]
 (.cond (.t 9) .skip
 (.exit 0)))
 (.seq (.block 1 (.seq (.draw [jm 12 0,jm 13 5,ji 14 2 12 13,jk 15 2 14,jk 16 2 3,jw 17 (.eqs false [some .i64,some .i64] (.t 15) (.t 16))] [] [0,3,5,17])
 (.cond (.t 17) (jo [jb 4 true] [4]
 .ret)
 .skip)))
 (.ops [jm 10 5,ju .add 11 10 1,jm 5 11] [0,3,5]))))))
 (jo [jb 4 false] [4]
 .ret))),[.t 4]⟩
theorem k30:chkF Tryz.prog Tryz.f30 c30=true:=by kernel_rfl
def c34:CF:=⟨17,(jo [jb 2 false] [0]
 (.seq (jo [jc 3 0] [0,3]
 (.block 0 (.loop (.seq (jo [jm 4 3,jm 5 0,je 6 5,jt .lss 7 4 6] [0,3,7]
 (.cond (.t 7) .skip
 (.exit 0)))
 (.seq (.block 1 (.seq (.draw [jm 10 0,jm 11 3,ji 12 38 10 11,jf 13 36 12,jk 14 2 13,jy 15 35 [],jw 16 (.eqs false [some .i64,some .i64] (.t 14) (.t 15))] [] [0,3,16])
 (.cond (.t 16) (jo [jb 2 true] [2]
 .ret)
 .skip)))
 (.ops [jm 8 3,ju .add 9 8 1,jm 3 9] [0,3]))))))
 (jo [jb 2 false] [2]
 .ret))),[.t 2]⟩
theorem k34:chkF Tryz.prog Tryz.f34 c34=true:=by kernel_rfl
def c31:CF:=⟨19,(jo [jw 3 (.box true 68 38 (.t 1)),jn 4] [0,3]
 (jo [jy 5 35 [],jw 6 (.field 0 none (.t 5)),jf 7 0 3,js 1 7 6] [0,3]
 (jo [jy 8 35 [],jw 9 (.field 1 none (.t 8)),jf 10 1 3,js 1 10 9] [0,3]
 (jo [jf 11 2 3,⟨none,.store 1 (.t 11) (.c (.int .i64 1099511627776)),none⟩] [0,3]
 (jo [jf 12 3 3,⟨none,.store 1 (.t 12) (.c (.int .i64 10000)),none⟩] [0,3]
 (.seq (.draww [1,3,4,0,2,5,6] [0,1,2] 2 [jm 14 0,jk 16 38 3,jw 17 (.bsl false 68 38 1 z38 [(0,38,(.t 16))])] [jw 13 (.bsl true 68 38 0 [] []),jw 15 (.app 68 38 368 (.t 13) (.t 14)),jw 18 (.app 68 38 368 (.t 15) (.t 17)),jm 4 18] [4])
 .ret)))))),[.t 4]⟩
theorem k31:chkF Tryz.prog Tryz.f31 c31=true:=by kernel_rfl
def lastN:Nm:=⟨8,400⟩
theorem last_spec:Pure Tryz.prog 35 [] (.agg lastN.cs):=by
  refine Pure.of_body Tryz.call35 Tryz.func35 k35 (Nat.le_of_ble_eq_true rfl) ?_
  unfold c35
  ((refine Au ?_;repeat' first|exact True.intro|refine Cj.mk ?_ ?_)<;>intros<;>refine hD_ ?_)
  all_goals exact Frz.eq rfl (by simp)
theorem named_spec (l:List Nm) (m:Nm) (hl:l.length < 9223372036854775808):Pure Tryz.prog 30 [nmS l,.agg m.cs] (bl (decide (m∈l))):=by
  refine Pure.of_body Tryz.call30 Tryz.func30 k30 (Nat.le_of_ble_eq_true rfl) ?_
  unfold c30
  ((refine Au ?_;repeat' first|exact True.intro|refine Cj.mk ?_ ?_)<;>intros<;>refine hD_ ?_)
  refine AWPC.loopI 5 l.length (fun i=>m ∉ l.take i) (by simp) ?_ ?_
  · (simp only [zN,zT,zV,zS,zU,vcC,lateX,ex,strp,binA,elems,cells,scalar,eqC,keyA,intsA,lookA,ofVs,mpOf,Nat.reduceBEq,reduceAdd,reduceSub,reduceLT,reduceLeDiff,reduceMul,reduceEqDiff,reduceIte]; try simp)
  · intro i hi hI
    by_cases hlt:i < l.length
    · have hx:(l.map Nm.cs).getD i []=Nm.cs (l.getD i nm0):=row _ hlt
      have hg:=getD_lt nm0 hlt
      have hN:m≠l.getD i nm0→m ∉ l.take (i+1):=fun h=>by
        rw [List.take_add_one,hg,Option.toList_some,List.mem_append,List.mem_singleton]; rintro (h' | h')
        · exact hI h'
        · exact h h'
      have hY:m=l.getD i nm0→m∈l:=fun h=>h ▸ List.mem_of_getElem? hg
      generalize l.getD i nm0=x at hx hN hY
      have he:m=x↔x.clerk=m.clerk∧x.num=m.num:=by
        cases m; cases x; simp; constructor <;> (intro h; simp_all)
      clear hg
      ((refine Ax @hx ?_;repeat' first|exact True.intro|refine Cj.mk ?_ ?_)<;>intros<;>refine hD_ ?_)
      all_goals try (exfalso; omega)
      · rename_i h
        rw [decide_eq_true (hY (he.2 h))]; exact Frz.eq rfl (by simp)
      · rename_i h
        exact ⟨⟨i+1,hlt,hN fun e=>h (he.1 e)⟩,by simp,by simp only; omega⟩
    · obtain rfl:i=l.length:=by omega
      rw [List.take_length] at hI
      rw [decide_eq_false hI]
      ((refine Au ?_;repeat' first|exact True.intro|refine Cj.mk ?_ ?_)<;>intros<;>refine hD_ ?_)
      all_goals try (exfalso; omega)
      exact Frz.eq rfl (by simp)
theorem referred_spec (l:List Nt) (hl:l.length < 9223372036854775808):Pure Tryz.prog 34 [ntS l] (bl (l.any fun a=>decide (a.ref=lastN))):=by
  refine Pure.of_body Tryz.call34 Tryz.func34 k34 (Nat.le_of_ble_eq_true rfl) ?_
  unfold c34
  ((refine Au ?_;repeat' first|exact True.intro|refine Cj.mk ?_ ?_)<;>intros<;>refine hD_ ?_)
  refine AWPC.loopI 3 l.length (fun i=>((l.take i).any fun a=>decide (a.ref=lastN))=false) (by simp) ?_ ?_
  · (simp only [zN,zT,zV,zS,zU,vcC,lateX,ex,strp,binA,elems,cells,scalar,eqC,keyA,intsA,lookA,ofVs,mpOf,Nat.reduceBEq,reduceAdd,reduceSub,reduceLT,reduceLeDiff,reduceMul,reduceEqDiff,reduceIte]; try simp)
  · intro i hi hI
    by_cases hlt:i < l.length
    · have hx:(l.map Nt.cs).getD i []=Nt.cs (l.getD i nt0):=row _ hlt
      have hg:=getD_lt nt0 hlt
      have hN:(l.getD i nt0).ref≠lastN→((l.take (i+1)).any fun a=>decide (a.ref=lastN))=false:=fun h=>by
        rw [List.take_add_one,hg,List.any_append,hI,Option.toList_some,List.any_cons,List.any_nil,decide_eq_false h]; rfl
      have hY:(l.getD i nt0).ref=lastN→(l.any fun a=>decide (a.ref=lastN))=true:=fun h=>List.any_eq_true.2 ⟨_,List.mem_of_getElem? hg,decide_eq_true h⟩
      generalize l.getD i nt0=x at hx hN hY
      have he:x.ref=lastN↔x.ref.clerk=8∧x.ref.num=400:=by
        obtain ⟨_,_,_,_,_,_,_,_,_,_,_,⟨_,_⟩⟩:=x
        simp [lastN]
      clear hg
      have hl:=last_spec
      ((refine Az @hx @hl ?_;repeat' first|exact True.intro|refine Cj.mk ?_ ?_)<;>intros<;>refine hD_ ?_)
      all_goals try (exfalso; omega)
      · rename_i h
        rw [hY (he.2 h)]; exact Frz.eq rfl (by simp)
      · rename_i h
        exact ⟨⟨i+1,hlt,hN fun e=>h (he.1 e)⟩,by simp,by simp only; omega⟩
    · obtain rfl:i=l.length:=by omega
      rw [List.take_length] at hI
      rw [hI]
      ((refine Au ?_;repeat' first|exact True.intro|refine Cj.mk ?_ ?_)<;>intros<;>refine hD_ ?_)
      all_goals try (exfalso; omega)
      exact Frz.eq rfl (by simp)
def behN (a:Nt):Nt:={ a with clerk:=8,num:=400,clock:=1099511627776,day:=10000 }
theorem behind_spec (l:List Nt) (a:Nt) (hl:l.length < 4294967296):Pure Tryz.prog 31 [ntS l,.agg a.cs] (ntS (l++[behN a])):=by
  refine Pure.of_body Tryz.call31 Tryz.func31 k31 (Nat.le_of_ble_eq_true rfl) ?_
  unfold c31
  have h1:Pure Tryz.prog 35 [] (.agg [n 8,n 400]):=last_spec
  obtain ⟨t,hc,hc',ht⟩:∃ t:List AV,a.cs=n a.clerk::n a.num::n a.clock::n a.day::t∧(behN a).cs=n 8::n 400::n 1099511627776::n 10000::t∧t.length=34:=⟨_,rfl,rfl,rfl⟩
  have htt:t.take 34=t:=List.take_of_length_le (by omega)
  have hz:List.drop 38 (vs z38)=[]:=rfl
  have hv:ntS (l++[behN a])=.sl 38 (l.map Nt.cs++[n 8::n 400::n 1099511627776::n 10000::t]):=by rw [← hc']; simp
  have hr:∀ e,e < l.length→((l.map Nt.cs).getD e []).length=38:=rowsL (cs:=Nt.cs) (k:=38) (fun a=>rfl) l
  rw [hc,hv]
  clear hc
  (repeat' ((first
 | refine vn rfl ?_
 | simp (disch:=omega) only [wr64,Int.zero_sub]
 | refine bo (fun _=>?_) fun _=>?_
 | refine im fun _=>?_
 | ((repeat refine si ?_); (first | ((first | refine .inl ⟨_,_,_,_,rfl,fun _=>pu h1,?_⟩ | refine ⟨_,_,_,_,rfl,fun _=>pu h1,?_⟩); (first | refine o1 ?_ | refine o2 ?_ | refine o3 ?_ | refine o4 ?_)) | refine .inl ⟨_,_,_,_,rfl,pu h1,?_⟩))
 | refine cF ?_
 | refine om ?_
 | refine an ?_
 | fail) <;> try simp only [zN,zT,zV,zS,zU,vcC,lateX,ex,strp,binA,elems,cells,scalar,eqC,keyA,intsA,lookA,ofVs,mpOf,Nat.reduceBEq,reduceAdd,reduceSub,reduceLT,reduceLeDiff,reduceMul,reduceEqDiff,reduceIte,htt,ht,hz,List.drop_succ_cons,List.drop_zero,List.append_nil,List.take_succ_cons,List.length_map]))
  refine ⟨⟨hr,by omega⟩,by omega,?_⟩
  ((refine Au ?_;repeat' first|exact True.intro|refine Cj.mk ?_ ?_)<;>intros<;>refine hD_ ?_)
  rw [← hv]
  refine Frz.ownL (T:=68) (cs:=Nt.cs) ?_ (by simp) (by decide) (fun a=>Nt.pc a) (fun a=>rfl)
  rw [List.map_append,List.map_cons,List.map_nil,hc']; rfl
theorem foldSz {b:Bse} {l:List Nt} (hl:setSz l) (ok:(setE b l).1=0):rgrSz (foldT b l):=by
  have hn:=setE_nodup ok
  have hl4:=setE_len ok
  have hS:=standT_len l
  have hSm:∀ a∈standT l,a∈l:=fun a ha=>(mem_standT.1 ha).1
  rw [foldT_ref b hn]
  refine ⟨⟨?_,fun f hf=>?_⟩,?_,?_,?_⟩
  · show (shsR (standT l) (standT l)).length < _
    rw [shsR_ent,List.length_map]
    have h1:=(entN_sub (standT l) (standT l)).length_le
    have h2:=List.length_filter_le (kd 1) (standT l)
    omega
  · have hf':f∈(entN (standT l) (standT l)).map (fld (standT l)):=by rw [← shsR_ent]; exact hf
    obtain ⟨a,ha,rfl⟩:=List.mem_map.1 hf'
    have h1:=mks_len (standT_nodup hn) a.nm
    refine ⟨hl.2 a (hSm a (entN_mem ha).1),?_,?_⟩
    · show (List.map _ _).length < _
      rw [List.length_map]; omega
    · show (List.map _ _).length < _
      rw [List.length_map]; omega
  · show (List.map _ _).length < _
    rw [List.length_map]
    have h2:=List.length_filter_le (kd 3) (standT l)
    omega
  · have h1:=(SameS.stsR (setE_ok ok).1.1 (standT l)).ok
    obtain ⟨g1,g2⟩:=stns_small h1
    exact ⟨by show (stsR b.stns (standT l)).length < _; omega,fun s hs=>by have:=g2 s hs; omega⟩
  · show (List.map _ _).length < _
    rw [List.length_map]
    have h2:=List.length_filter_le (badR b l) l
    omega
def c4:CF:=⟨130,(jo [jx 4 26 6 0,jb 8 false] [1,2,3,4]
 (jo [jy 22 18 [],jm 9 22] [1,2,3,4,9]
 (.seq (jo [jk 23 6 4,jy 24 19 [23],jv 25 24,jm 26 25,jd 26 (jm 27 1),jd 26 (jy 28 20 [27]),jd 26 (jv 29 28),jq 30 26 29] [1,2,3,4,9,30]
 (.cond (.t 30) (jo [jm 31 9,jm 8 31] [8]
 .ret)
 .skip))
 (jo [jk 33 6 4,jm 34 1,jy 35 21 [33,34],jm 32 35,jz 36 0 32,jz 37 1 32,jw 10 (.alloc 37 4 [.slice none 0 0,.slice none 0 0,.slice none 0 0,.slice none 0 0]),js 4 10 36,jm 11 37] [1,2,3,4,9,10,11]
 (jo [jk 39 6 4,jm 40 1,jw 41 (.call (.f 23) [(.t 39),(.t 40),(.c (.int .i64 10000)),(.c (.int .i64 1099511627776))]),jm 38 41,jz 42 0 38,jz 43 1 38,jw 12 (.alloc 37 4 [.slice none 0 0,.slice none 0 0,.slice none 0 0,.slice none 0 0]),js 4 12 42,jm 13 43] [1,2,3,4,9,10,11,12,13]
 (.seq (jo [jm 44 11,jm 45 13,jt .neq 46 44 45,jm 47 46,jd 47 (jk 48 4 10),jd 47 (jk 49 4 12),jd 47 (jy 50 27 [48,49]),jd 47 (jv 51 50),jq 52 47 51] [1,2,3,4,9,11,52]
 (.cond (.t 52) (jo [jb 8 false] [8]
 .ret)
 .skip))
 (.seq (jo [jm 53 11,ju .neq 54 53 0] [1,2,3,4,9,54]
 (.cond (.t 54) (jo [jm 55 9,jm 8 55] [8]
 .ret)
 .skip))
 (jo [jn 14] [1,2,3,4,9,14]
 (.seq (jo [jc 15 0] [1,2,3,4,9,14,15]
 (.block 0 (.loop (.seq (jo [jm 56 15,jm 57 1,je 58 57,jt .lss 59 56 58] [1,2,3,4,9,14,15,59]
 (.cond (.t 59) .skip
 (.exit 0)))
 (.seq (.block 1 (jo [jm 62 1,jm 63 15,ji 64 38 62 63,jf 65 3 64,jl 66 65,jm 67 2,jt .leq 68 66 67,jm 69 68,ja 69 (jm 70 1),ja 69 (jm 71 15),ja 69 (ji 72 38 70 71),ja 69 (jf 73 2 72),ja 69 (jl 74 73),ja 69 (jm 75 3),ja 69 (jt .leq 76 74 75),jp 77 69 76] [1,2,3,4,9,14,15,77]
 (.cond (.t 77) (.ops [jm 78 14,jm 79 1,jm 80 15,ji 81 38 79 80,jk 82 38 81,jw 83 (.bsl false 68 38 1 z38 [(0,38,(.t 82))]),jw 84 (.app 68 38 368 (.t 78) (.t 83)),jm 14 84] [1,2,3,4,9,14,15])
 .skip)))
 (.ops [jm 60 15,ju .add 61 60 1,jm 15 61] [1,2,3,4,9,14,15]))))))
 (jo [jk 86 6 4,jm 87 1,jm 88 2,jm 89 3,jy 90 23 [86,87,88,89],jm 85 90,jz 91 0 85,jz 92 1 85,jw 16 (.alloc 37 4 [.slice none 0 0,.slice none 0 0,.slice none 0 0,.slice none 0 0]),js 4 16 91,jm 17 92] [2,3,4,9,14,16,17]
 (jo [jk 94 6 4,jm 95 14,jm 96 2,jm 97 3,jy 98 23 [94,95,96,97],jm 93 98,jz 99 0 93,jz 100 1 93,jw 18 (.alloc 37 4 [.slice none 0 0,.slice none 0 0,.slice none 0 0,.slice none 0 0]),js 4 18 99,jm 19 100] [4,9,14,16,17,18,19]
 (jo [jk 102 6 4,jm 103 14,jy 104 21 [102,103],jm 101 104,jz 105 0 101,jz 106 1 101,jw 20 (.alloc 37 4 [.slice none 0 0,.slice none 0 0,.slice none 0 0,.slice none 0 0]),js 4 20 105,jm 21 106] [9,16,17,18,19,20,21]
 (jo [jm 107 9,jm 108 107,ja 108 (jm 109 17),ja 108 (ju .eql 110 109 0),jp 111 108 110,jm 112 111,ja 112 (jm 113 19),ja 112 (ju .eql 114 113 0),jp 115 112 114,jm 116 115,ja 116 (jm 117 21),ja 116 (ju .eql 118 117 0),jp 119 116 118,jm 120 119,ja 120 (jk 121 4 16),ja 120 (jk 122 4 18),ja 120 (jy 123 27 [121,122]),jp 124 120 123,jm 125 124,ja 125 (jk 126 4 16),ja 125 (jk 127 4 20),ja 125 (jy 128 27 [126,127]),jp 129 125 128,jm 8 129] [8]
 .ret))))))))))))),[.t 8]⟩
theorem k4:chkF Tryz.prog Tryz.f4 c4=true:=by kernel_rfl
theorem setSz.sub {l m:List Nt} (hl:setSz l) (hm:m.Sublist l):setSz m:=⟨Nat.lt_of_le_of_lt hm.length_le hl.1,fun a ha=>hl.2 a (hm.subset ha)⟩
def c6:CF:=⟨96,(jo [jx 3 26 6 0,jb 6 false] [1,2,3]
 (jo [jy 13 18 [],jm 7 13] [1,2,3,7]
 (.seq (jo [jk 14 6 3,jy 15 19 [14],jv 16 15,jm 17 16,jd 17 (jm 18 1),jd 17 (jy 19 20 [18]),jd 17 (jv 20 19),jq 21 17 20,jm 22 21,jd 22 (jm 23 1),jd 22 (je 24 23),jd 22 (ju .gtr 25 24 40),jq 26 22 25,jm 27 26,jd 27 (jm 28 2),jd 27 (ju .lss 29 28 0),jq 30 27 29,jm 31 30,jd 31 (jm 32 2),jd 31 (jm 33 1),jd 31 (je 34 33),jd 31 (jt .geq 35 32 34),jq 36 31 35,jm 37 36,jd 37 (jm 38 1),jd 37 (jm 39 2),jd 37 (ji 40 38 38 39),jd 37 (jf 41 4 40),jd 37 (jl 42 41),jd 37 (ju .eql 43 42 7),jq 44 37 43] [1,2,3,7,44]
 (.cond (.t 44) (jo [jm 45 7,jm 6 45] [6]
 .ret)
 .skip))
 (.seq (.draww [1,2,3,5,6,7,8,0,4,9,10] [0,1,2,3,4,5,6] 2 [jm 47 1,jm 48 2,jw 49 (.slice 38 (.t 47) none (some (.t 48))),jm 51 1,jm 52 2,ju .add 53 52 1,jw 54 (.slice 38 (.t 51) (some (.t 53)) none)] [jw 46 (.bsl true 68 38 0 [] []),jw 50 (.app 68 38 368 (.t 46) (.t 49)),jw 55 (.app 68 38 368 (.t 50) (.t 54)),jm 8 55] [1,2,3,7,8])
 (.seq (.drawl 18 [jk 57 6 3,jm 58 1,jm 59 1,jm 60 2,ji 61 38 59 60,jf 62 0 61,jl 63 62,jm 64 1,jm 65 2,ji 66 38 64 65,jf 67 1 66,jl 68 67,jw 69 (.build [.int .i64 0,.int .i64 0] [(0,1,(.t 63)),(1,1,(.t 68))]),jw 70 (.build z38 [(4,1,(.c (.int .i64 7))),(36,2,(.t 69))]),jy 71 31 [58,70],jy 72 21 [57,71],jm 56 72,jz 73 0 56,jz 74 1 56,jw 9 (.alloc 37 4 [.slice none 0 0,.slice none 0 0,.slice none 0 0,.slice none 0 0])] [js 4 9 73,jm 10 74] [3,7,8,9,10])
 (jo [jk 76 6 3,jm 77 8,jy 78 21 [76,77],jm 75 78,jz 79 0 75,jz 80 1 75,jw 11 (.alloc 37 4 [.slice none 0 0,.slice none 0 0,.slice none 0 0,.slice none 0 0]),js 4 11 79,jm 12 80] [7,9,10,11,12]
 (.seq (jo [jm 81 10,ju .neq 82 81 0] [7,9,11,12,82]
 (.cond (.t 82) (jo [jm 83 7,jm 6 83] [6]
 .ret)
 .skip))
 (.seq (.draw [jm 84 7,jm 85 84,ja 85 (jm 86 12),ja 85 (ju .eql 87 86 0),jp 88 85 87,jm 89 88,ja 89 (jk 90 4 9),ja 89 (jy 91 32 [90]),ja 89 (jk 92 4 11),ja 89 (jy 93 32 [92]),ja 89 (jy 94 27 [91,93]),jp 95 89 94,jm 6 95] [] [6])
 .ret)))))))),[.t 6]⟩
theorem k6:chkF Tryz.prog Tryz.f6 c6=true:=by kernel_rfl
def RL:List AV→List AV→Prop
  | [],[]=>True
  | a::r,b::s=>(∀ w X x,RV w X nob [] a x→RV w X nob [] b x)∧RL r s
  | _,_=>False
theorem RL.len:∀ {cs ds:List AV},RL cs ds→cs.length=ds.length
  | [],[],_=>rfl
  | [],_::_,h=>h.elim
  | _::_,[],h=>h.elim
  | _::_,_::_,h=>by simp [RL.len h.2]
theorem RL.get:∀ {cs ds:List AV},RL cs ds→∀ i,i < cs.length→∀ w X x,RV w X nob [] (cs.getD i .any) x→RV w X nob [] (ds.getD i .any) x
  | [],_,_,i,hi=>absurd hi (Nat.not_lt_zero _)
  | _::_,[],h,_,_=>h.elim
  | _::_,_::_,h,0,_=>h.1
  | _::r,_::s,h,i+1,hi=>by simpa using RL.get h.2 i (by simpa using hi)
theorem RL.agg {cs ds:List AV} (h:RL cs ds) {w:World} {X:Nat→Prop} {x:Value} (hx:RV w X nob [] (.agg cs) x):RV w X nob [] (.agg ds) x:=by
  cases hx with
  | agg _ xs hn h1 hr =>
    have hl:=h.len
    exact .agg ds xs (hn.trans hl) (fun i hi=>h1 i (by omega)) fun i hi=>h.get i (by omega) w X _ (hr i (by omega))
theorem behind_nil {cs:List AV} (l:List Nt) (a:Nt) (hl:l.length < 4294967296) (h:RL cs a.cs):Pure Tryz.prog 31 [ntS l,.agg cs] (ntS (l++[behN a])):=by
  refine Pure.args (args':=[ntS l,.agg a.cs]) rfl (fun i hi w X x hx=>?_) (behind_spec l a hl)
  rcases i with _ | _ | i
  · exact hx
  · exact RL.agg h hx
  · simp only [List.length_cons,List.length_nil] at hi; omega
def c7:CF:=⟨106,(jo [jx 4 26 6 0,jx 7 60 18 3,jb 8 false] [1,2,4,7]
 (jo [jy 14 18 [],jm 9 14] [1,2,4,7,9]
 (.seq (jo [jk 15 6 4,jy 16 19 [15],jv 17 16,jm 18 17,jd 18 (jm 19 1),jd 18 (jy 20 20 [19]),jd 18 (jv 21 20),jq 22 18 21,jm 23 22,jd 23 (jm 24 1),jd 23 (je 25 24),jd 23 (ju .gtr 26 25 40),jq 27 23 26,jm 28 27,jd 28 (jk 29 18 7),jd 28 (jy 30 33 [29]),jd 28 (jv 31 30),jq 32 28 31,jm 33 32,jd 33 (jm 34 1),jd 33 (jy 35 34 [34]),jq 36 33 35] [1,2,4,7,9,36]
 (.cond (.t 36) (jo [jm 37 9,jm 8 37] [8]
 .ret)
 .skip))
 (jo [jk 39 6 4,jm 40 1,jy 41 21 [39,40],jm 38 41,jz 42 0 38,jz 43 1 38,jw 10 (.alloc 37 4 [.slice none 0 0,.slice none 0 0,.slice none 0 0,.slice none 0 0]),js 4 10 42,jm 11 43] [1,2,4,7,9,10,11]
 (.seq (jo [jm 44 11,ju .neq 45 44 0,jm 46 45,jd 46 (jm 47 2),jd 46 (ju .lss 48 47 0),jq 49 46 48,jm 50 49,jd 50 (jm 51 2),jd 50 (jf 52 0 10),jd 50 (jl 53 52),jd 50 (je 54 53),jd 50 (jt .geq 55 51 54),jq 56 50 55] [1,2,4,7,9,10,56]
 (.cond (.t 56) (jo [jm 57 9,jm 8 57] [8]
 .ret)
 .skip))
 (.seq (.drawl 20 [jk 59 6 4,jm 60 1,jf 61 0 10,jl 62 61,jm 63 2,ji 64 24 62 63,jf 65 2 64,jl 66 65,jf 67 0 10,jl 68 67,jm 69 2,ji 70 24 68 69,jf 71 3 70,jl 72 71,jk 73 18 7,jw 74 (.build z38 [(4,1,(.c (.int .i64 1))),(5,1,(.t 66)),(6,1,(.t 72)),(7,18,(.t 73))]),jy 75 31 [60,74],jy 76 21 [59,75],jm 58 76,jz 77 0 58,jz 78 1 58,jw 12 (.alloc 37 4 [.slice none 0 0,.slice none 0 0,.slice none 0 0,.slice none 0 0])] [js 4 12 77,jm 13 78] [9,10,12,13])
 (.seq (jo [jm 79 13,ju .neq 80 79 0] [9,10,12,80]
 (.cond (.t 80) (jo [jm 81 9,jm 8 81] [8]
 .ret)
 .skip))
 (.seq (.draw [jm 82 9,jm 83 82,ja 83 (jf 84 3 12),ja 83 (jl 85 84),ja 83 (jy 86 35 []),ja 83 (jy 87 30 [85,86]),jp 88 83 87,jm 89 88,ja 89 (jf 90 3 12),ja 89 (jl 91 90),ja 89 (je 92 91),ja 89 (jf 93 3 10),ja 89 (jl 94 93),ja 89 (je 95 94),ja 89 (ju .add 96 95 1),ja 89 (jt .eql 97 92 96),jp 98 89 97,jm 99 98,ja 99 (jk 100 4 10),ja 99 (jy 101 32 [100]),ja 99 (jk 102 4 12),ja 99 (jy 103 32 [102]),ja 99 (jy 104 27 [101,103]),jp 105 99 104,jm 8 105] [] [8])
 .ret)))))))),[.t 8]⟩
theorem k7:chkF Tryz.prog Tryz.f7 c7=true:=by kernel_rfl
theorem beh_more {b:Bse} {l:List Nt} {w:Nt} (ok:(setE b (l++[behN w])).1=0) (hr:(l.any fun a=>decide (a.ref=lastN))=false) (hw:w.ref≠lastN) (hk:w.kind≠7):More b l (behN w) :=
  ⟨ok,fun a ha e=>by
    have:=List.any_eq_false.1 hr a ha
    exact this (decide_eq_true e),hw,hk,rfl,rfl⟩
def c10:CF:=⟨141,(jo [jx 5 26 6 0,jb 10 false] [1,2,3,4,5]
 (jo [jy 20 18 [],jm 11 20] [1,2,3,4,5,11]
 (.seq (jo [jk 21 6 5,jy 22 19 [21],jv 23 22,jm 24 23,jd 24 (jm 25 1),jd 24 (jy 26 20 [25]),jd 24 (jv 27 26),jq 28 24 27,jm 29 28,jd 29 (jm 30 1),jd 29 (je 31 30),jd 29 (ju .gtr 32 31 40),jq 33 29 32,jm 34 33,jd 34 (jm 35 1),jd 34 (jy 36 34 [35]),jq 37 34 36] [1,2,3,4,5,11,37]
 (.cond (.t 37) (jo [jm 38 11,jm 10 38] [10]
 .ret)
 .skip))
 (jo [jk 40 6 5,jm 41 1,jy 42 21 [40,41],jm 39 42,jz 43 0 39,jz 44 1 39,jw 12 (.alloc 37 4 [.slice none 0 0,.slice none 0 0,.slice none 0 0,.slice none 0 0]),js 4 12 43,jm 13 44] [1,2,3,4,5,11,12,13]
 (.seq (jo [jm 45 13,ju .neq 46 45 0,jm 47 46,jd 47 (jm 48 2),jd 47 (ju .lss 49 48 0),jq 50 47 49,jm 51 50,jd 51 (jm 52 2),jd 51 (jf 53 0 12),jd 51 (jl 54 53),jd 51 (je 55 54),jd 51 (jt .geq 56 52 55),jq 57 51 56] [1,2,3,4,5,11,12,57]
 (.cond (.t 57) (jo [jm 58 11,jm 10 58] [10]
 .ret)
 .skip))
 (.seq (jo [jc 14 0] [1,2,3,4,5,11,12,14]
 (.block 0 (.loop (.seq (jo [jm 59 14,jm 60 1,je 61 60,jt .lss 62 59 61] [1,2,3,4,5,11,12,14,62]
 (.cond (.t 62) .skip
 (.exit 0)))
 (.seq (.block 1 (.seq (.draw [jm 65 1,jm 66 14,ji 67 38 65 66,jf 68 4 67,jl 69 68,ju .eql 70 69 1,jm 71 70,ja 71 (jf 72 3 12),ja 71 (jl 73 72),ja 71 (jm 74 1),ja 71 (jm 75 14),ja 71 (ji 76 38 74 75),ja 71 (jf 77 0 76),ja 71 (jl 78 77),ja 71 (jm 79 1),ja 71 (jm 80 14),ja 71 (ji 81 38 79 80),ja 71 (jf 82 1 81),ja 71 (jl 83 82),⟨some 84,.build [.int .i64 0,.int .i64 0] [(0,1,(.t 78)),(1,1,(.t 83))],some (71,true)⟩,ja 71 (jy 85 30 [73,84]),jp 86 71 85] [] [1,2,3,4,5,11,12,14,86])
 (.cond (.t 86) (jo [jm 87 11,jm 10 87] [10]
 .ret)
 .skip)))
 (.ops [jm 63 14,ju .add 64 63 1,jm 14 64] [1,2,3,4,5,11,12,14]))))))
 (.seq (jo [jk 89 4 12,jm 90 3,jm 91 4,jy 92 39 [89,90,91],jm 88 92,jz 93 0 88,jz 94 1 88,jm 15 93,jm 16 94] [1,2,3,4,5,11,12,16]
 (jo [jm 95 16,ju .eql 96 95 0] [1,2,3,4,5,11,12,96]
 (.cond (.t 96) (jo [jm 97 11,jm 10 97] [10]
 .ret)
 .skip)))
 (.seq (.drawl 15 [jk 99 6 5,jm 100 1,jf 101 0 12,jl 102 101,jm 103 2,ji 104 24 102 103,jf 105 0 104,jk 106 2 105,jm 107 3,jm 108 4,jw 109 (.build z38 [(4,1,(.c (.int .i64 5))),(36,2,(.t 106)),(5,1,(.t 107)),(6,1,(.t 108))]),jy 110 31 [100,109],jy 111 21 [99,110],jm 98 111,jz 112 0 98,jz 113 1 98,jw 17 (.alloc 37 4 [.slice none 0 0,.slice none 0 0,.slice none 0 0,.slice none 0 0])] [js 4 17 112,jm 18 113] [2,3,4,11,12,17,18])
 (.seq (jo [jm 114 18,ju .neq 115 114 0] [2,3,4,11,12,17,115]
 (.cond (.t 115) (jo [jm 116 11,jm 10 116] [10]
 .ret)
 .skip))
 (jo [jk 117 4 12,jw 19 (.alloc 37 4 [.slice none 0 0,.slice none 0 0,.slice none 0 0,.slice none 0 0]),js 4 19 117] [2,3,4,11,12,17,19]
 (jo [jw 118 (.bsl true 72 24 0 [] []),jf 119 0 12,jl 120 119,jw 121 (.app 72 24 288 (.t 118) (.t 120)),jf 122 0 19,js 1 122 121] [2,3,4,11,17,19]
 (jo [jf 123 0 19,jl 124 123,jm 125 2,jm 126 3,ji 127 24 124 125,jf 128 2 127,js 1 128 126] [2,4,11,17,19]
 (jo [jf 129 0 19,jl 130 129,jm 131 2,jm 132 4,ji 133 24 130 131,jf 134 3 133,js 1 134 132] [11,17,19]
 (jo [jm 135 11,jm 136 135,ja 136 (jk 137 4 17),ja 136 (jk 138 4 19),ja 136 (jy 139 27 [137,138]),jp 140 136 139,jm 10 140] [10]
 .ret)))))))))))))),[.t 10]⟩
theorem k10:chkF Tryz.prog Tryz.f10 c10=true:=by kernel_rfl
def movN (m:Nm) (s w:Int):Nt:={ nt0 with kind:=5,stn:=s,week:=w,ref:=m }
theorem mov_rl (m:Nm) (s w:Int):RL (List.take 6 (List.take 5 (List.take 36 (List.take 4 (vs z38)++AV.v (.int .i64 5)::List.drop 5 (vs z38))++AV.v (.int .i64 m.clerk)::AV.v (.int .i64 m.num)::List.drop 38 (List.take 4 (vs z38)++AV.v (.int .i64 5)::List.drop 5 (vs z38)))++AV.v (.int .i64 s)::List.drop 6 (List.take 36 (List.take 4 (vs z38)++AV.v (.int .i64 5)::List.drop 5 (vs z38))++AV.v (.int .i64 m.clerk)::AV.v (.int .i64 m.num)::List.drop 38 (List.take 4 (vs z38)++AV.v (.int .i64 5)::List.drop 5 (vs z38))))++AV.v (.int .i64 w)::List.drop 7 (List.take 5 (List.take 36 (List.take 4 (vs z38)++AV.v (.int .i64 5)::List.drop 5 (vs z38))++AV.v (.int .i64 m.clerk)::AV.v (.int .i64 m.num)::List.drop 38 (List.take 4 (vs z38)++AV.v (.int .i64 5)::List.drop 5 (vs z38)))++AV.v (.int .i64 s)::List.drop 6 (List.take 36 (List.take 4 (vs z38)++AV.v (.int .i64 5)::List.drop 5 (vs z38))++AV.v (.int .i64 m.clerk)::AV.v (.int .i64 m.num)::List.drop 38 (List.take 4 (vs z38)++AV.v (.int .i64 5)::List.drop 5 (vs z38))))) (movN m s w).cs:=by
  repeat' (first | exact trivial | refine ⟨fun _ _ _ h=>h,?_⟩ | refine ⟨fun _ _ _ h=>h.nil,?_⟩)
theorem mov_pv (l:List Nt) (m:Nm) (s w:Int):∀ a∈[ntS l,.agg (List.take 6 (List.take 5 (List.take 36 (List.take 4 (vs z38)++AV.v (.int .i64 5)::List.drop 5 (vs z38))++AV.v (.int .i64 m.clerk)::AV.v (.int .i64 m.num)::List.drop 38 (List.take 4 (vs z38)++AV.v (.int .i64 5)::List.drop 5 (vs z38)))++AV.v (.int .i64 s)::List.drop 6 (List.take 36 (List.take 4 (vs z38)++AV.v (.int .i64 5)::List.drop 5 (vs z38))++AV.v (.int .i64 m.clerk)::AV.v (.int .i64 m.num)::List.drop 38 (List.take 4 (vs z38)++AV.v (.int .i64 5)::List.drop 5 (vs z38))))++AV.v (.int .i64 w)::List.drop 7 (List.take 5 (List.take 36 (List.take 4 (vs z38)++AV.v (.int .i64 5)::List.drop 5 (vs z38))++AV.v (.int .i64 m.clerk)::AV.v (.int .i64 m.num)::List.drop 38 (List.take 4 (vs z38)++AV.v (.int .i64 5)::List.drop 5 (vs z38)))++AV.v (.int .i64 s)::List.drop 6 (List.take 36 (List.take 4 (vs z38)++AV.v (.int .i64 5)::List.drop 5 (vs z38))++AV.v (.int .i64 m.clerk)::AV.v (.int .i64 m.num)::List.drop 38 (List.take 4 (vs z38)++AV.v (.int .i64 5)::List.drop 5 (vs z38)))))],PureV a:=by
  simp [vs,z38]
theorem fold_shs {b:Bse} {l:List Nt} (ok:(setE b l).1=0):(foldT b l).sheets.length≤l.length:=by
  have hn:=setE_nodup ok
  have hS:=standT_len l
  rw [foldT_ref b hn]
  show (shsR (standT l) (standT l)).length≤_
  rw [shsR_ent,List.length_map]
  have h1:=(entN_sub (standT l) (standT l)).length_le
  have h2:=List.length_filter_le (kd 1) (standT l)
  omega
theorem fold_nm {b:Bse} {l:List Nt} {x:Fld} (ok:(setE b l).1=0) (hx:x∈(foldT b l).sheets):∃ a∈l,a.nm=x.name:=by
  have hn:=setE_nodup ok
  rw [foldT_ref b hn] at hx
  have hf':x∈(entN (standT l) (standT l)).map (fld (standT l)):=by rw [← shsR_ent]; exact hx
  obtain ⟨a,ha,rfl⟩:=List.mem_map.1 hf'
  exact ⟨a,(mem_standT.1 (entN_mem ha).1).1,rfl⟩
theorem Moved_reg {b:Bse} {l:List Nt} {x:Fld} {i:Nat} {s w:Int} (ok:(setE b (l++[behN (movN x.name s w)])).1=0) (hr:(l.any fun a=>decide (a.ref=lastN))=false) (hx:(foldT b l).sheets[i]?=some x)
    (hno:∀ a∈l,a.kind=1→a.nm ∉ (foldT b l).confl) (hfree:sheetAt (foldT b l).sheets s w=none) :
    foldT b (l++[behN (movN x.name s w)])={ foldT b l with sheets:=(foldT b l).sheets.set i { x with stn:=s,week:=w } }:=by
  have hxn:x.name≠lastN:=fun e=>by
    have hn:=setE_nodup ok
    rw [List.map_append,List.nodup_append] at hn
    obtain ⟨a,h1,h2⟩:=fold_nm (setE_sub ok (List.sublist_append_left _ _)) (List.mem_of_getElem? hx)
    exact hn.2.2 _ (List.mem_map.2 ⟨a,h1,h2.trans e⟩) lastN (by simp [behN,Nt.nm,lastN]) rfl
  have M:=beh_more ok hr hxn (show (5:Int)≠7 by decide)
  rw [foldT_ref b (setE_nodup ok),foldT_ref b (setE_nodup M.okl)]
  rw [foldT_ref b (setE_nodup M.okl)] at hx hno hfree
  exact M.moved rfl hx rfl hno hfree
theorem Moved_spec (b:Bse) (l:List Nt) (z s w:Int) (hb:bseSz b) (hl:setSz l):Pure Tryz.prog 10 [.agg b.cs,ntS l,n z,n s,n w] (bl true):=by
  refine Pure.of_body Tryz.call10 Tryz.func10 k10 (Nat.le_of_ble_eq_true rfl) ?_
  unfold c10
  have s1:=small_spec b hb
  have s2:=few_spec l hl.1
  have s4:=referred_spec l hl.1
  have hl0:=hl.1
  generalize smallB b=c1 at s1
  generalize fewB l=c2 at s2
  generalize hc4:(l.any fun a=>decide (a.ref=lastN))=c4 at s4
  by_cases hg:c1=true∧c2=true∧l.length≤40∧c4=false
  · obtain ⟨rfl,rfl,h40,rfl⟩:=hg
    have F1:=Fold_spec b hb l hl
    by_cases ha:askedE b [l]=0
    · have hE:foldE b l=(foldT b l,0):=by unfold foldE; rw [if_neg (by omega)]
      rw [hE] at F1
      simp only at F1
      have zR:=foldSz hl (askedE_one.1 ha)
      have hsl:=fold_shs (askedE_one.1 ha)
      by_cases hz:0≤z∧z < (foldT b l).sheets.length
      · obtain ⟨k,rfl⟩:∃ k:Nat,z=k:=⟨z.toNat,by omega⟩
        have hkl:k < (foldT b l).sheets.length:=by omega
        have hget:(foldT b l).sheets[k]?=some ((foldT b l).sheets.getD k fld0):=getD_lt fld0 hkl
        have hrow:((foldT b l).sheets.map Fld.cs).getD k []=Fld.cs ((foldT b l).sheets.getD k fld0):=row fld0 hkl
        generalize (foldT b l).sheets.getD k fld0=x at hget hrow
        have ph:=fun τ=>pu (τ:=τ) (behind_nil l _ (by omega) (mov_rl x.name s w)) (mov_pv l x.name s w)
        obtain ⟨y,hy⟩:∃ y,y=behN (movN x.name s w):=⟨_,rfl⟩
        rw [← hy] at ph
        have zl:setSz (l++[y]):=⟨by rw [List.length_append,List.length_singleton]; omega,fun a ha=>by
          rcases List.mem_append.1 ha with ha | ha
          · exact hl.2 a ha
          · simp only [List.mem_singleton] at ha; subst ha; rw [hy]; refine ⟨?_,?_,?_,?_⟩ <;> (show (0:Nat) < 9223372036854775808; decide)⟩
        have F2:=Fold_spec b hb (l++[y]) zl
        have hreg:askedE b [l++[y]]=0→(∀ a∈l,a.kind=1→a.nm ∉ (foldT b l).confl)→sheetAt (foldT b l).sheets s w=none→foldT b (l++[y])={ foldT b l with sheets:=(foldT b l).sheets.set k { x with stn:=s,week:=w } }:=fun h1 h2 h3=>by
          rw [hy]; rw [hy] at h1
          exact Moved_reg (askedE_one.1 h1) hc4 hget h2 h3
        have hE2:askedE b [l++[y]]=0→foldE b (l++[y])=(foldT b (l++[y]),0):=fun h=>by unfold foldE; rw [if_neg (by omega)]
        have hE3:askedE b [l++[y]]≠0→foldE b (l++[y])=(rgr0,askedE b [l++[y]]):=fun h=>by unfold foldE; rw [if_pos h]
        have zS:askedE b [l++[y]]=0→rgrSz (foldT b (l++[y])):=fun h=>foldSz zl (askedE_one.1 h)
        clear hE hget hy zl hb hl hc4 ha
        obtain ⟨R,hR⟩:∃ R,R=foldT b l:=⟨_,rfl⟩
        rw [← hR] at F1 zR hsl hz hkl hrow hreg
        clear hR
        have n1:=named_spec R.confl
        have sO:=SheetOf_spec R zR.1.1 s w
        have hQ:Hi0 ((askedE b [l++[y]]=0→(∀ a∈l,a.kind=1→a.nm ∉ R.confl)→sheetAt R.sheets s w=none→foldT b (l++[y])={ R with sheets:=R.sheets.set k { x with stn:=s,week:=w } })∧(askedE b [l++[y]]=0→foldE b (l++[y])=(foldT b (l++[y]),0))∧(askedE b [l++[y]]≠0→foldE b (l++[y])=(rgr0,askedE b [l++[y]]))∧(askedE b [l++[y]]=0→rgrSz (foldT b (l++[y])))∧rgrSz R):=⟨hreg,hE2,hE3,zS,zR⟩
        have hcl:=zR.2.2.2
        clear hreg hE2 hE3 zS zR
        ((refine Ay (And.intro @awake_spec (And.intro @s1 (And.intro @s2 (And.intro @s4 @F1)))) ?_;repeat' first|exact True.intro|refine Cj.mk ?_ ?_)<;>intros<;>refine hD_ ?_)
        all_goals try (exfalso; omega)
        refine AWPC.loopI 14 l.length (fun i=>∀ a∈l.take i,a.kind=1→a.nm ∉ R.confl) (by simp) ?_ ?_
        · (simp only [zN,zT,zV,zS,zU,vcC,lateX,ex,strp,binA,elems,cells,scalar,eqC,keyA,intsA,lookA,ofVs,mpOf,Nat.reduceBEq,reduceAdd,reduceSub,reduceLT,reduceLeDiff,reduceMul,reduceEqDiff,reduceIte]; try simp)
        · intro i hi hI
          by_cases hlt:i < l.length
          · have hx:(l.map Nt.cs).getD i []=Nt.cs (l.getD i nt0):=row _ hlt
            have hg:=getD_lt nt0 hlt
            have hN:((l.getD i nt0).kind=1→(l.getD i nt0).nm ∉ R.confl)→∀ a∈l.take (i+1),a.kind=1→a.nm ∉ R.confl:=fun h a ha=>by
              rw [List.take_add_one,hg,Option.toList_some,List.mem_append,List.mem_singleton] at ha
              rcases ha with ha | rfl
              · exact hI a ha
              · exact h
            generalize l.getD i nt0=v at hx hN
            have n2:=n1 v.nm hcl
            clear hg n1 hQ sO ph F1 F2
            by_cases h1:v.kind=1
            · by_cases hm:v.nm∈R.confl
              · rw [decide_eq_true hm] at n2
                clear hN hm
                ((refine Az (And.intro @hx @h1) @n2 ?_;repeat' first|exact True.intro|refine Cj.mk ?_ ?_)<;>intros<;>refine hD_ ?_)
                all_goals try (exfalso; omega)
                all_goals exact Frz.eq rfl (by simp)
              · rw [decide_eq_false hm] at n2
                have hN:=hN fun _=>hm
                ((refine Az (And.intro @hx @h1) @n2 ?_;repeat' first|exact True.intro|refine Cj.mk ?_ ?_)<;>intros<;>refine hD_ ?_)
                all_goals try (exfalso; omega)
                all_goals exact ⟨⟨i+1,hlt,hN⟩,by simp,by simp only; omega⟩
            · have hN:=hN fun h=>absurd h h1
              ((refine Az (And.intro @hx @h1) @n2 ?_;repeat' first|exact True.intro|refine Cj.mk ?_ ?_)<;>intros<;>refine hD_ ?_)
              all_goals try (exfalso; omega)
              all_goals exact ⟨⟨i+1,hlt,hN⟩,by simp,by simp only; omega⟩
          · obtain rfl:i=l.length:=by omega
            rw [List.take_length] at hI
            obtain ⟨hreg,hE2,hE3,zS,zR⟩:=hQ.out
            clear hQ n1
            have hfr:∀ e,e < R.sheets.length→((R.sheets.map Fld.cs).getD e []).length=24:=rowsL (cs:=Fld.cs) (k:=24) (fun a=>rfl) R.sheets
            by_cases hs:sheetAt R.sheets s w=none
            · rw [hs] at sO
              simp only [foundE] at sO
              by_cases he:askedE b [l++[y]]=0
              · have hr:=hreg he hI hs
                rw [hE2 he] at F2
                simp only at F2
                have zT:=zS he
                rw [hr] at F2 zT
                have q:=sameRgr _ _ zT zT
                rw [decide_eq_true rfl] at q
                generalize hT:R.sheets.set k { x with stn:=s,week:=w }=T at F2 q
                generalize l++[y]=L at F2 ph
                have hT:Hi0 (R.sheets.set k { x with stn:=s,week:=w }=T):=⟨hT⟩
                clear hr zT he hreg hE2 hE3 zS zR hs
                (repeat' ((first
 | refine vn rfl ?_
 | simp (disch:=omega) only [wr64,Int.zero_sub]
 | refine bo (fun _=>?_) fun _=>?_
 | refine im fun _=>?_
 | ((repeat refine si ?_); ((first | refine .inl ⟨_,_,_,_,rfl,fun _=>(by first | exact (ph _)),?_⟩ | refine ⟨_,_,_,_,rfl,fun _=>(by first | exact (ph _)),?_⟩); (first | refine o1 ?_ | refine o2 ?_ | refine o3 ?_ | refine o4 ?_)))
 | ((repeat refine si ?_); (first | ((first | refine .inl ⟨_,_,_,_,rfl,fun _=>pu (by first | exact sO | exact F2),?_⟩ | refine ⟨_,_,_,_,rfl,fun _=>pu (by first | exact sO | exact F2),?_⟩); (first | refine o1 ?_ | refine o2 ?_ | refine o3 ?_ | refine o4 ?_)) | refine .inl ⟨_,_,_,_,rfl,pu (by first | exact sO | exact F2),?_⟩))
 | refine cF ?_
 | refine om ?_
 | refine an ?_
 | fail) <;> try simp only [zN, zT, zV, zS, zU, vcC, lateX, ex, strp, binA, elems, cells, scalar, eqC, keyA, intsA, lookA, ofVs, mpOf, Nat.reduceBEq, reduceAdd, reduceSub, reduceLT, reduceLeDiff, reduceMul, reduceEqDiff, reduceIte, hrow, List.length_map]))
                all_goals try (exfalso; omega)
                refine ⟨⟨hfr,by omega⟩,?_⟩
                ((first
 | refine vn rfl ?_
 | simp (disch:=omega) only [wr64,Int.zero_sub]
 | refine bo (fun _=>?_) fun _=>?_
 | refine im fun _=>?_
 | ((repeat refine si ?_); (first | ((first | refine .inl ⟨_,_,_,_,rfl,fun _=>pu q,?_⟩ | refine ⟨_,_,_,_,rfl,fun _=>pu q,?_⟩); (first | refine o1 ?_ | refine o2 ?_ | refine o3 ?_ | refine o4 ?_)) | refine .inl ⟨_,_,_,_,rfl,pu q,?_⟩))
 | refine cF ?_
 | refine om ?_
 | refine an ?_
 | fail) <;> try simp only [zN, zT, zV, zS, zU, vcC, lateX, ex, strp, binA, elems, cells, scalar, eqC, keyA, intsA, lookA, ofVs, mpOf, Nat.reduceBEq, reduceAdd, reduceSub, reduceLT, reduceLeDiff, reduceMul, reduceEqDiff, reduceIte, hrow, List.length_map])
                ((first
 | refine vn rfl ?_
 | simp (disch:=omega) only [wr64,Int.zero_sub]
 | refine bo (fun _=>?_) fun _=>?_
 | refine im fun _=>?_
 | ((repeat refine si ?_); (first | ((first | refine .inl ⟨_,_,_,_,rfl,fun _=>pu q,?_⟩ | refine ⟨_,_,_,_,rfl,fun _=>pu q,?_⟩); (first | refine o1 ?_ | refine o2 ?_ | refine o3 ?_ | refine o4 ?_)) | refine .inl ⟨_,_,_,_,rfl,pu q,?_⟩))
 | refine cF ?_
 | refine om ?_
 | refine an ?_
 | fail) <;> try simp only [zN, zT, zV, zS, zU, vcC, lateX, ex, strp, binA, elems, cells, scalar, eqC, keyA, intsA, lookA, ofVs, mpOf, Nat.reduceBEq, reduceAdd, reduceSub, reduceLT, reduceLeDiff, reduceMul, reduceEqDiff, reduceIte, hrow, List.length_map])
                ((first
 | refine vn rfl ?_
 | simp (disch:=omega) only [wr64,Int.zero_sub]
 | refine bo (fun _=>?_) fun _=>?_
 | refine im fun _=>?_
 | ((repeat refine si ?_); (first | ((first | refine .inl ⟨_,_,_,_,rfl,fun _=>pu q,?_⟩ | refine ⟨_,_,_,_,rfl,fun _=>pu q,?_⟩); (first | refine o1 ?_ | refine o2 ?_ | refine o3 ?_ | refine o4 ?_)) | refine .inl ⟨_,_,_,_,rfl,pu q,?_⟩))
 | refine cF ?_
 | refine om ?_
 | refine an ?_
 | fail) <;> try simp only [zN, zT, zV, zS, zU, vcC, lateX, ex, strp, binA, elems, cells, scalar, eqC, keyA, intsA, lookA, ofVs, mpOf, Nat.reduceBEq, reduceAdd, reduceSub, reduceLT, reduceLeDiff, reduceMul, reduceEqDiff, reduceIte, hrow, List.length_map])
                ((first
 | refine vn rfl ?_
 | simp (disch:=omega) only [wr64,Int.zero_sub]
 | refine bo (fun _=>?_) fun _=>?_
 | refine im fun _=>?_
 | ((repeat refine si ?_); (first | ((first | refine .inl ⟨_,_,_,_,rfl,fun _=>pu q,?_⟩ | refine ⟨_,_,_,_,rfl,fun _=>pu q,?_⟩); (first | refine o1 ?_ | refine o2 ?_ | refine o3 ?_ | refine o4 ?_)) | refine .inl ⟨_,_,_,_,rfl,pu q,?_⟩))
 | refine cF ?_
 | refine om ?_
 | refine an ?_
 | fail) <;> try simp only [zN, zT, zV, zS, zU, vcC, lateX, ex, strp, binA, elems, cells, scalar, eqC, keyA, intsA, lookA, ofVs, mpOf, Nat.reduceBEq, reduceAdd, reduceSub, reduceLT, reduceLeDiff, reduceMul, reduceEqDiff, reduceIte, hrow, List.length_map])
                ((first
 | refine vn rfl ?_
 | simp (disch:=omega) only [wr64,Int.zero_sub]
 | refine bo (fun _=>?_) fun _=>?_
 | refine im fun _=>?_
 | ((repeat refine si ?_); (first | ((first | refine .inl ⟨_,_,_,_,rfl,fun _=>pu q,?_⟩ | refine ⟨_,_,_,_,rfl,fun _=>pu q,?_⟩); (first | refine o1 ?_ | refine o2 ?_ | refine o3 ?_ | refine o4 ?_)) | refine .inl ⟨_,_,_,_,rfl,pu q,?_⟩))
 | refine cF ?_
 | refine om ?_
 | refine an ?_
 | fail) <;> try simp only [zN, zT, zV, zS, zU, vcC, lateX, ex, strp, binA, elems, cells, scalar, eqC, keyA, intsA, lookA, ofVs, mpOf, Nat.reduceBEq, reduceAdd, reduceSub, reduceLT, reduceLeDiff, reduceMul, reduceEqDiff, reduceIte, hrow, List.length_map])
                ((first
 | refine vn rfl ?_
 | simp (disch:=omega) only [wr64,Int.zero_sub]
 | refine bo (fun _=>?_) fun _=>?_
 | refine im fun _=>?_
 | ((repeat refine si ?_); (first | ((first | refine .inl ⟨_,_,_,_,rfl,fun _=>pu q,?_⟩ | refine ⟨_,_,_,_,rfl,fun _=>pu q,?_⟩); (first | refine o1 ?_ | refine o2 ?_ | refine o3 ?_ | refine o4 ?_)) | refine .inl ⟨_,_,_,_,rfl,pu q,?_⟩))
 | refine cF ?_
 | refine om ?_
 | refine an ?_
 | fail) <;> try simp only [zN, zT, zV, zS, zU, vcC, lateX, ex, strp, binA, elems, cells, scalar, eqC, keyA, intsA, lookA, ofVs, mpOf, Nat.reduceBEq, reduceAdd, reduceSub, reduceLT, reduceLeDiff, reduceMul, reduceEqDiff, reduceIte, hrow, List.length_map])
                ((first
 | refine vn rfl ?_
 | simp (disch:=omega) only [wr64,Int.zero_sub]
 | refine bo (fun _=>?_) fun _=>?_
 | refine im fun _=>?_
 | ((repeat refine si ?_); (first | ((first | refine .inl ⟨_,_,_,_,rfl,fun _=>pu q,?_⟩ | refine ⟨_,_,_,_,rfl,fun _=>pu q,?_⟩); (first | refine o1 ?_ | refine o2 ?_ | refine o3 ?_ | refine o4 ?_)) | refine .inl ⟨_,_,_,_,rfl,pu q,?_⟩))
 | refine cF ?_
 | refine om ?_
 | refine an ?_
 | fail) <;> try simp only [zN, zT, zV, zS, zU, vcC, lateX, ex, strp, binA, elems, cells, scalar, eqC, keyA, intsA, lookA, ofVs, mpOf, Nat.reduceBEq, reduceAdd, reduceSub, reduceLT, reduceLeDiff, reduceMul, reduceEqDiff, reduceIte, hrow, List.length_map])
                have hgA:∀ A:List AV,((R.sheets.map Fld.cs).set k A).getD k []=A:=fun A=>by
                  rw [List.getD_eq_getElem?_getD,List.getElem?_set_self (by rw [List.length_map]; exact hkl)]; rfl
                have hTl:T.length=R.sheets.length:=by rw [← hT.out,List.length_set]
                refine AWPC.freezeC (f:=3) (n:=R.sheets.length) (h:=2) (e:=0) (j:=0) (o:=⟨72,24,T.map Fld.cs,none⟩) (by rw [hgA,List.set_set,← hT.out,List.map_set]; rfl) (by simp only [List.length_map]; exact hTl) (show (24:Nat)≠0 by decide) rfl (by decide) rfl (show (0:Nat) < 1 by decide) rfl ?_
                refine AWPC.sto (σ':=[some [⟨37,4,[[fdS R.sheets,rdS R.reads,snS R.stns,nmS R.confl]],none⟩],some [⟨37,4,[[fdS T,rdS R.reads,snS R.stns,nmS R.confl]],none⟩],some [⟨37,4,[[fdS T,rdS R.reads,snS R.stns,nmS R.confl]],none⟩],none]) rfl ?_
                clear hT hgA hTl
                ((refine Ay @q ?_;repeat' first|exact True.intro|refine Cj.mk ?_ ?_)<;>intros<;>refine hD_ ?_)
                all_goals try (exfalso; omega)
                all_goals exact Frz.eq rfl (by simp)
              · rw [hE3 he] at F2
                simp only at F2
                generalize askedE b [l++[y]]=e2 at F2 he
                generalize rgr0=R0 at F2
                generalize l++[y]=L at F2 ph
                clear hreg hE2 hE3 zS zR hs
                (repeat' ((first
 | refine vn rfl ?_
 | simp (disch:=omega) only [wr64,Int.zero_sub]
 | refine bo (fun _=>?_) fun _=>?_
 | refine im fun _=>?_
 | ((repeat refine si ?_); ((first | refine .inl ⟨_,_,_,_,rfl,fun _=>(by first | exact (ph _)),?_⟩ | refine ⟨_,_,_,_,rfl,fun _=>(by first | exact (ph _)),?_⟩); (first | refine o1 ?_ | refine o2 ?_ | refine o3 ?_ | refine o4 ?_)))
 | ((repeat refine si ?_); (first | ((first | refine .inl ⟨_,_,_,_,rfl,fun _=>pu (by first | exact sO | exact F2),?_⟩ | refine ⟨_,_,_,_,rfl,fun _=>pu (by first | exact sO | exact F2),?_⟩); (first | refine o1 ?_ | refine o2 ?_ | refine o3 ?_ | refine o4 ?_)) | refine .inl ⟨_,_,_,_,rfl,pu (by first | exact sO | exact F2),?_⟩))
 | refine cF ?_
 | refine om ?_
 | refine an ?_
 | fail) <;> try simp only [zN, zT, zV, zS, zU, vcC, lateX, ex, strp, binA, elems, cells, scalar, eqC, keyA, intsA, lookA, ofVs, mpOf, Nat.reduceBEq, reduceAdd, reduceSub, reduceLT, reduceLeDiff, reduceMul, reduceEqDiff, reduceIte, hrow]))
                all_goals try (exfalso; omega)
                all_goals exact Frz.eq rfl (by simp)
            · obtain ⟨j,hj⟩:=Option.ne_none_iff_exists'.1 hs
              rw [hj] at sO
              simp only [foundE] at sO
              clear hreg hE2 hE3 zS zR hs hj
              ((refine Ay @sO ?_;repeat' first|exact True.intro|refine Cj.mk ?_ ?_)<;>intros<;>refine hD_ ?_)
              all_goals try (exfalso; omega)
              all_goals exact Frz.eq rfl (by simp)
      · generalize foldT b l=R at F1 hz
        clear hE zR hsl hb hl hc4 ha
        ((refine Ay (And.intro @awake_spec (And.intro @s1 (And.intro @s2 (And.intro @s4 @F1)))) ?_;repeat' first|exact True.intro|refine Cj.mk ?_ ?_)<;>intros<;>refine hD_ ?_)
        all_goals try (exfalso; omega)
        all_goals exact Frz.eq rfl (by simp)
    · have hE:foldE b l=(rgr0,askedE b [l]):=by unfold foldE; rw [if_pos ha]
      rw [hE] at F1
      simp only at F1
      generalize askedE b [l]=e at F1 ha
      clear hE hb hl hc4
      ((refine Ay (And.intro @awake_spec (And.intro @s1 (And.intro @s2 (And.intro @s4 @F1)))) ?_;repeat' first|exact True.intro|refine Cj.mk ?_ ?_)<;>intros<;>refine hD_ ?_)
      all_goals try (exfalso; omega)
      all_goals exact Frz.eq rfl (by simp)
  · clear hb hl hc4
    cases c1 with
    | false =>
      ((refine Ay (And.intro @awake_spec (And.intro @s1 (And.intro @s2 @s4))) ?_;repeat' first|exact True.intro|refine Cj.mk ?_ ?_)<;>intros<;>refine hD_ ?_)
      all_goals try (exfalso; omega)
      all_goals exact Frz.eq rfl (by simp)
    | true =>
      cases c2 with
      | false =>
        ((refine Ay (And.intro @awake_spec (And.intro @s1 (And.intro @s2 @s4))) ?_;repeat' first|exact True.intro|refine Cj.mk ?_ ?_)<;>intros<;>refine hD_ ?_)
        all_goals try (exfalso; omega)
        all_goals exact Frz.eq rfl (by simp)
      | true =>
        by_cases h40:l.length≤40
        · cases c4 with
          | true =>
            ((refine Ay (And.intro @awake_spec (And.intro @s1 (And.intro @s2 @s4))) ?_;repeat' first|exact True.intro|refine Cj.mk ?_ ?_)<;>intros<;>refine hD_ ?_)
            all_goals try (exfalso; omega)
            all_goals exact Frz.eq rfl (by simp)
          | false=>exact absurd ⟨rfl,rfl,h40,rfl⟩ hg
        · ((refine Ay (And.intro @awake_spec (And.intro @s1 (And.intro @s2 @s4))) ?_;repeat' first|exact True.intro|refine Cj.mk ?_ ?_)<;>intros<;>refine hD_ ?_)
          all_goals try (exfalso; omega)
          all_goals first
            | exact Frz.eq rfl (by simp)
            | (exfalso; rename_i h; rw [decide_eq_true (show (40:Int) < l.length by omega)] at h; simp at h)
end Go.Proofs.YtolgelipcgcbhaaGreat
namespace Go.Abs
open Go
set_option linter.unusedVariables false
set_option linter.unusedSimpArgs false
structure Opens (P:Program) (t:TypeId) (α:Type) (row:α→List AV) (Pr:α→Prop):Prop where
  go:∀ {H:Type} (enc:TypeId × Value→H) (w:World) (base:Nat) (sp:Nat→Bool) (held:Bool) (fuel:Nat) (cs:List Value) (x:DataW H × List MemPlace),
    DataW.trod enc P w base sp held fuel t cs=some x →
    ∃ a:α,Pr a∧cs.length=(row a).length∧∀ i,i < cs.length→(cs.getD i undef).oneCell'=true∧RV w (fun _=>False) nob [] ((row a).getD i .any) (cs.getD i undef)
variable {P:Program}
theorem Opens.to {t:TypeId} {α β:Type} {row:α→List AV} {row':β→List AV} {Pr:α→Prop} {Pr':β→Prop} (h:Opens P t α row Pr) (f:α→β) (hr:∀ a,row' (f a)=row a) (hp:∀ a,Pr a→Pr' (f a)):Opens P t β row' Pr' :=
  ⟨fun enc w base sp held fuel cs x hx =>
    let ⟨a,h1,h2,h3⟩:=h.go enc w base sp held fuel cs x hx
    ⟨f a,hp a h1,by rw [hr]; exact h2,fun i hi=>by rw [hr]; exact h3 i hi⟩⟩
theorem opens_int {t:TypeId} {k:IntKind} (ht:P.underlying t=some (.int k)):Opens P t Int (fun z=>[.v (.int k z)]) (fun z=>(Lit.int k z).wf=true):=by
  constructor
  intro H enc w base sp held fuel cs x hx
  cases fuel with
  | zero=>simp [DataW.trod] at hx
  | succ m =>
    unfold DataW.trod at hx
    rw [ht] at hx
    split at hx <;> try (simp_all; done)
    rename_i k0 k' z heq
    simp only [Option.some.injEq,TypeDesc.int.injEq] at heq
    split at hx
    · rename_i hk
      obtain ⟨rfl,hw⟩:=hk
      subst heq
      refine ⟨z,hw,rfl,fun i hi=>?_⟩
      obtain rfl:i=0:=by simpa using hi
      exact ⟨rfl,.v _⟩
    · cases hx
theorem opens_slice {t e:TypeId} {k:Nat} {α:Type} {row:α→List AV} {Pr:α→Prop} (ht:P.underlying t=some (.slice e)) (hk:P.cellsOf e=k) (hk0:k≠0) (h:Opens P e α row Pr) (hl:∀ a,(row a).length=k) :
    Opens P t (List α) (fun l=>[.sl k (l.map row)]) (fun l=>l.length < 9223372036854775808∧∀ a∈l,Pr a):=by
  constructor
  intro H enc w base sp held fuel cs x hx
  rcases DataW.trod_slice ht hx with ⟨rfl,_⟩ | ⟨a,len,cap,elems,rest,m,rfl,rfl,rfl,hb,hlc,hcap,hlen,hel,hsp,hns⟩
  · refine ⟨[],⟨by simp,fun a ha=>absurd ha (List.not_mem_nil)⟩,rfl,fun i hi=>?_⟩
    obtain rfl:i=0:=by simpa using hi
    exact ⟨rfl,.slnil k⟩
  · have hlen2:len < 9223372036854775808:=by unfold maxLen at hcap; omega
    have each:∀ i,i < len→∃ (b:α) (c1:List Value),Pr b∧c1.length=k∧w.cells? base (a.add (i * k)) k=some c1∧∀ j,j < k→(c1.getD j undef).oneCell'=true∧RV w (fun _=>False) nob [] ((row b).getD j .any) (c1.getD j undef):=by
      intro i hi
      have h1:=hel i hi
      rw [hk,List.getElem?_eq_getElem (by omega)] at h1
      simp only [Option.bind_eq_some_iff] at h1
      obtain ⟨c1,hc1,hy⟩:=h1
      obtain ⟨b,hp,hlb,hr⟩:=h.go enc w base sp held m c1 _ hy
      have hl1:=(World.cells?_some hc1).2.1
      exact ⟨b,c1,hp,hl1,hc1,fun j hj=>hr j (by omega)⟩
    by_cases h0:len=0
    · subst h0
      refine ⟨[],⟨by simp,fun a ha=>absurd ha (List.not_mem_nil)⟩,rfl,fun i hi=>?_⟩
      obtain rfl:i=0:=by simpa using hi
      exact ⟨rfl,.slemp k a cap⟩
    ·
      have hspot:a.spot=none:=by
        obtain ⟨b,c1,_,hl1,hc1,_⟩:=each 0 (by omega)
        have h2:=(World.cells?_some hc1).2.2 0 (by omega)
        rw [List.getElem?_eq_getElem (by omega)] at h2
        have e:(a.add (0 * k)).add 0=a:=by simp [Addr.add]
        rw [e] at h2
        unfold World.cell? at h2
        split at h2
        · split at h2
          · cases h2
          · rename_i hs; simpa using hs
        · cases h2
      obtain ⟨bl,off,spot⟩:=a
      simp only at hspot
      subst hspot
      have hadd:∀ i j,((⟨bl,off,none⟩:Addr).add (i * k)).add j=⟨bl,off+i * k+j,none⟩:=by
        intro i j
        simp only [Addr.add]
        split <;> split <;> simp_all <;> omega
      let B:Nat→α:=fun i=>if hi:i < len then Classical.choose (each i hi) else Classical.choose (each 0 (by omega))
      have hB:∀ i,i < len→∃ c1:List Value,Pr (B i)∧c1.length=k∧w.cells? base ((⟨bl,off,none⟩:Addr).add (i * k)) k=some c1∧∀ j,j < k→(c1.getD j undef).oneCell'=true∧RV w (fun _=>False) nob [] ((row (B i)).getD j .any) (c1.getD j undef):=by
        intro i hi
        have:=Classical.choose_spec (each i hi)
        simp only [B,hi,dif_pos]
        exact this
      have hcell:∀ i j,i < len→j < k→w.cell? ⟨bl,off+i * k+j,none⟩=some ((w.cell? ⟨bl,off+i * k+j,none⟩).getD undef)∧((w.cell? ⟨bl,off+i * k+j,none⟩).getD undef).oneCell'=true ∧
          RV w (fun _=>False) nob [] ((row (B i)).getD j .any) ((w.cell? ⟨bl,off+i * k+j,none⟩).getD undef):=by
        intro i j hi hj
        obtain ⟨c1,_,hl1,hc1,hr⟩:=hB i hi
        have h2:=(World.cells?_some hc1).2.2 j hj
        rw [hadd,List.getElem?_eq_getElem (by omega)] at h2
        rw [h2]
        have h3:=hr j hj
        rw [List.getD_eq_getElem?_getD,List.getElem?_eq_getElem (show j < c1.length by omega)] at h3
        exact ⟨rfl,h3⟩
      refine ⟨(List.range len).map B,⟨by simpa using hlen2,fun b hb=>?_⟩,rfl,fun i hi=>?_⟩
      · obtain ⟨i,hi,rfl⟩:=List.mem_map.1 hb
        obtain ⟨c1,hp,_⟩:=hB i (List.mem_range.1 hi)
        exact hp
      · obtain rfl:i=0:=by simpa using hi
        refine ⟨rfl,?_⟩
        have hget:∀ e,e < len→(((List.range len).map B).map row).getD e []=row (B e):=fun e he=>by simp [List.getD_eq_getElem?_getD,he]
        have hlm:(((List.range len).map B).map row).length=len:=by simp
        have:=RV.sl (w:=w) (X:=fun _=>False) (β:=nob) (σ:=[]) k (((List.range len).map B).map row) bl off cap (fun i j=>(w.cell? ⟨bl,off+i * k+j,none⟩).getD undef) (by rw [hlm]; exact hlc)
          (fun e he=>by rw [hlm] at he; rw [hget e he]; exact hl _) (fun e he j hj=>by rw [hlm] at he; exact (hcell e j he hj).1) (fun e j he hj hx=>hx)
          (fun e j he hj=>by rw [hlm] at he; exact (hcell e j he hj).2.1) (fun e j he hj=>by rw [hlm] at he; rw [hget e he]; exact (hcell e j he hj).2.2)
        rw [hlm] at this
        exact this
structure OpensF (P:Program) (fs:List Field) (off:Nat) (α:Type) (row:α→List AV) (Pr:α→Prop):Prop where
  go:∀ {H:Type} (enc:TypeId × Value→H) (w:World) (base:Nat) (sp:Nat→Bool) (held:Bool) (fuel:Nat) (cs:List Value) (xs:List (DataW H × List MemPlace)),
    (fs.mapM fun f=>DataW.trod enc P w base sp held fuel f.type ((cs.drop f.offset).take (P.cellsOf f.type)))=some xs →
    ∃ a:α,Pr a∧∀ i,i < (row a).length→off+i < cs.length∧(cs.getD (off+i) undef).oneCell'=true∧RV w (fun _=>False) nob [] ((row a).getD i .any) (cs.getD (off+i) undef)
theorem opensF_nil (off:Nat):OpensF P [] off Unit (fun _=>[]) (fun _=>True) :=
  ⟨fun enc w base sp held fuel cs xs _=>⟨(),trivial,fun i hi=>absurd hi (Nat.not_lt_zero _)⟩⟩
theorem opensF_cons {f:Field} {fs:List Field} {off k:Nat} {α β:Type} {row:α→List AV} {rows:β→List AV} {Pr:α→Prop} {Prs:β→Prop} (ho:f.offset=off) (hk:P.cellsOf f.type=k) (h:Opens P f.type α row Pr)
    (hl:∀ a,(row a).length=k) (hs:OpensF P fs (off+k) β rows Prs):OpensF P (f::fs) off (α × β) (fun p=>row p.1++rows p.2) (fun p=>Pr p.1∧Prs p.2):=by
  constructor
  intro H enc w base sp held fuel cs xs hx
  rw [List.mapM_cons] at hx
  simp only [Option.bind_eq_bind,Option.bind_eq_some_iff] at hx
  obtain ⟨y,hy,ys,hys,_⟩:=hx
  rw [ho,hk] at hy
  obtain ⟨a,hp,hla,hr⟩:=h.go enc w base sp held fuel _ _ hy
  obtain ⟨b,hq,hr'⟩:=hs.go enc w base sp held fuel cs ys hys
  rw [hl] at hla
  have hlen:off+k≤cs.length∨k=0:=by simp at hla; omega
  refine ⟨(a,b),⟨hp,hq⟩,fun i hi=>?_⟩
  by_cases h1:i < k
  · have hi':i < ((cs.drop off).take k).length:=by omega
    obtain ⟨g1,g2⟩:=hr i hi'
    have e:((cs.drop off).take k).getD i undef=cs.getD (off+i) undef:=by
      simp only [List.getD_eq_getElem?_getD,List.getElem?_take,h1,if_true,List.getElem?_drop]
    rw [e] at g1 g2
    refine ⟨by omega,g1,?_⟩
    rw [getD_append,if_pos (by rw [hl]; exact h1)]
    exact g2
  · have:=hr' (i - k) (by simp [hl] at hi; omega)
    rw [show off+k+(i - k)=off+i by omega] at this
    refine ⟨this.1,this.2.1,?_⟩
    rw [getD_append,if_neg (by rw [hl]; omega),hl]
    exact this.2.2
theorem opens_struct {t:TypeId} {fs:Array Field} {k:Nat} {α:Type} {row:α→List AV} {Pr:α→Prop} (ht:P.underlying t=some (.struct fs)) (hk:P.cellsOf t=k) (hl:∀ a,(row a).length=k) (h:OpensF P fs.toList 0 α row Pr) :
    Opens P t α row Pr:=by
  constructor
  intro H enc w base sp held fuel cs x hx
  cases fuel with
  | zero=>simp [DataW.trod] at hx
  | succ m =>
    unfold DataW.trod at hx
    rw [ht] at hx
    have hx':(if cs.length=P.cellsOf t then (fs.toList.mapM fun f=>DataW.trod enc P w base sp held m f.type ((cs.drop f.offset).take (P.cellsOf f.type))).map (fun xs=>((DataW.agg (xs.map (·.1)),xs.flatMap (·.2)):DataW H × List MemPlace)) else none)=some x:=by
      split at hx <;> first | (simp at *; done) | skip
      all_goals (try (rename_i heq; cases heq))
      exact hx
    split at hx'
    case isFalse=>cases hx'
    rename_i hlen
    rw [Option.map_eq_some_iff] at hx'
    obtain ⟨xs,hxs,_⟩:=hx'
    obtain ⟨a,hp,hr⟩:=h.go enc w base sp held m cs xs hxs
    refine ⟨a,hp,by rw [hl,hlen,hk],fun i hi=>?_⟩
    have:=hr i (by rw [hl,← hk,← hlen]; exact hi)
    rw [Nat.zero_add] at this
    exact this.2
theorem Opens.one {t:TypeId} {α:Type} {av:α→AV} {Pr:α→Prop} (h:Opens P t α (fun a=>[av a]) Pr) {H:Type} {enc:TypeId × Value→H} {w:World} {base:Nat} {sp:Nat→Bool} {held:Bool} {v:Value} {d:DataW H} {ps:List MemPlace}
    (hv:v.oneCell'=true) (hx:DataW.Trod enc P w base sp held t v d ps):∃ a,Pr a∧RV w (fun _=>False) nob [] (av a) v:=by
  obtain ⟨fuel,hx⟩:=hx
  obtain ⟨a,hp,hl,hr⟩:=h.go enc w base sp held fuel _ _ hx
  have e:v.cells.toList=[v]:=by cases v <;> first | rfl | simp [Value.oneCell'] at hv
  rw [e] at hr
  exact ⟨a,hp,(hr 0 (by simp)).2⟩
theorem Opens.agg {t:TypeId} {α:Type} {row:α→List AV} {Pr:α→Prop} (h:Opens P t α row Pr) {H:Type} {enc:TypeId × Value→H} {w:World} {base:Nat} {sp:Nat→Bool} {held:Bool} {cs:Array Value} {d:DataW H} {ps:List MemPlace}
    (hx:DataW.Trod enc P w base sp held t (.agg cs) d ps):∃ a,Pr a∧RV w (fun _=>False) nob [] (.agg (row a)) (.agg cs):=by
  obtain ⟨fuel,hx⟩:=hx
  obtain ⟨a,hp,hl,hr⟩:=h.go enc w base sp held fuel _ _ hx
  have e:(Value.agg cs).cells.toList=cs.toList:=rfl
  rw [e] at hl hr
  refine ⟨a,hp,.agg _ _ (by simpa using hl) (fun i hi=>?_) fun i hi=>?_⟩
  · have:=(hr i (by rw [hl]; exact hi)).1
    simpa [List.getD_eq_getElem?_getD,Array.getD_eq_getD_getElem?] using this
  · have:=(hr i (by rw [hl]; exact hi)).2
    simpa [List.getD_eq_getElem?_getD,Array.getD_eq_getD_getElem?] using this
end Go.Abs
namespace Go.Proofs.YtolgelipcgcbhaaGreat
open Go.Abs
open Nat (reduceAdd reduceSub reduceLT reduceLeDiff reduceMul reduceEqDiff)
set_option linter.unusedVariables false
set_option linter.unusedSimpArgs false
set_option maxHeartbeats 4000000
set_option maxRecDepth 100000
open Go.ChangeShapes Go.WideShapes Go.ChangeAt Go.RowKit
theorem own:ownKnob Tryz.prog.godebug=none:=by kernel_rfl
theorem laidOut:laidOutB Tryz.prog=true:=by kernel_rfl
theorem mapsR:mapsRowed Tryz.prog=true:=by kernel_rfl
theorem stopsN:(Tryz.prog.stops == [])=true:=by kernel_rfl
theorem knobsN:(Tryz.prog.stopKnobs == [])=true:=by kernel_rfl
theorem plainK:(Rows.archiveOrderRow.plainKeys == Tryz.prog.plainKeys)=true:=by kernel_rfl
theorem heardS:Tryz.prog.stopsHeard=true:=by kernel_rfl
theorem entersM:Tryz.prog.mayEnter=true:=by kernel_rfl
theorem liftsF:(Rows.archiveOrderRow.lifted == Tryz.prog.liftsFinal)=true:=by kernel_rfl
theorem makeP:(Tryz.prog.make == some Rows.archiveOrderRow.make)=true:=by kernel_rfl
theorem bband {a b:Bool} (h:a=true) (h':b=true):(a && b)=true:=by rw [h,h']; rfl
theorem cells3:Tryz.prog.cellsOf 3=1:=by kernel_rfl
theorem cells48:Tryz.prog.cellsOf 48=2:=by kernel_rfl
theorem cells226:Tryz.prog.cellsOf 226=3:=by kernel_rfl
theorem cells164:Tryz.prog.cellsOf 164=3:=by kernel_rfl
theorem cells50:Tryz.prog.cellsOf 50=10:=by kernel_rfl
theorem cells51:Tryz.prog.cellsOf 51=1:=by kernel_rfl
theorem cells52:Tryz.prog.cellsOf 52=1:=by kernel_rfl
theorem cells53:Tryz.prog.cellsOf 53=1:=by kernel_rfl
theorem cells54:Tryz.prog.cellsOf 54=1:=by kernel_rfl
theorem cells56:Tryz.prog.cellsOf 56=2:=by kernel_rfl
theorem cells58:Tryz.prog.cellsOf 58=4:=by kernel_rfl
theorem cells60:Tryz.prog.cellsOf 60=18:=by kernel_rfl
theorem cells62:Tryz.prog.cellsOf 62=3:=by kernel_rfl
theorem cells64:Tryz.prog.cellsOf 64=5:=by kernel_rfl
theorem cells66:Tryz.prog.cellsOf 66=3:=by kernel_rfl
theorem cells29:Tryz.prog.cellsOf 29=2:=by kernel_rfl
theorem cells68:Tryz.prog.cellsOf 68=38:=by kernel_rfl
theorem cells107:Tryz.prog.cellsOf 107=1:=by kernel_rfl
theorem cells109:Tryz.prog.cellsOf 109=4:=by kernel_rfl
theorem cells22:Tryz.prog.cellsOf 22=1:=by kernel_rfl
theorem cells24:Tryz.prog.cellsOf 24=2:=by kernel_rfl
theorem cells26:Tryz.prog.cellsOf 26=6:=by kernel_rfl
theorem op3:Opens Tryz.prog 3 Int (fun z=>[n z]) (fun _=>True):=(opens_int Tryz.underlying3).to id (fun _=>rfl) (fun _ _=>trivial)
theorem op48:Opens Tryz.prog 48 Sp Sp.cs (fun _=>True) :=
  (opens_struct Tryz.underlying48 cells48 (fun _=>rfl) (opensF_cons rfl cells3 op3 (fun _=>rfl) (opensF_cons rfl cells3 op3 (fun _=>rfl) (opensF_nil _)))).to (fun a=>⟨a.1,a.2.1⟩) (fun _=>rfl) (fun _ _=>trivial)
theorem op226:Opens Tryz.prog 226 Mk Mk.cs (fun _=>True) :=
  (opens_struct Tryz.underlying226 cells226 (fun _=>rfl) (opensF_cons rfl cells3 op3 (fun _=>rfl) (opensF_cons rfl cells48 op48 (fun _=>rfl) (opensF_nil _)))).to (fun a=>⟨a.1,a.2.1⟩) (fun _=>rfl) (fun _ _=>trivial)
theorem op62:Opens Tryz.prog 62 Mk Mk.cs (fun _=>True) :=
  (opens_struct Tryz.underlying62 cells62 (fun _=>rfl) (opensF_cons rfl cells3 op3 (fun _=>rfl) (opensF_cons rfl cells48 op48 (fun _=>rfl) (opensF_nil _)))).to (fun a=>⟨a.1,a.2.1⟩) (fun _=>rfl) (fun _ _=>trivial)
theorem op164:Opens Tryz.prog 164 Pt Pt.cs (fun _=>True) :=
  (opens_struct Tryz.underlying164 cells164 (fun _=>rfl) (opensF_cons rfl cells3 op3 (fun _=>rfl) (opensF_cons rfl cells3 op3 (fun _=>rfl) (opensF_cons rfl cells3 op3 (fun _=>rfl) (opensF_nil _))))).to (fun a=>⟨a.1,a.2.1,a.2.2.1⟩) (fun _=>rfl) (fun _ _=>trivial)
theorem op50:Opens Tryz.prog 50 Ppr Ppr.cs (fun _=>True) :=
  (opens_struct Tryz.underlying50 cells50 (fun _=>rfl) (opensF_cons rfl cells3 op3 (fun _=>rfl) (opensF_cons rfl cells3 op3 (fun _=>rfl) (opensF_cons rfl cells3 op3 (fun _=>rfl) (opensF_cons rfl cells3 op3 (fun _=>rfl) (opensF_cons rfl cells3 op3 (fun _=>rfl) (opensF_cons rfl cells3 op3 (fun _=>rfl) (opensF_cons rfl cells48 op48 (fun _=>rfl) (opensF_cons rfl cells48 op48 (fun _=>rfl) (opensF_nil _)))))))))).to (fun a=>⟨a.1,a.2.1,a.2.2.1,a.2.2.2.1,a.2.2.2.2.1,a.2.2.2.2.2.1,a.2.2.2.2.2.2.1,a.2.2.2.2.2.2.2.1⟩) (fun _=>rfl) (fun _ _=>trivial)
theorem op51:Opens Tryz.prog 51 (List Pt) (fun l=>[ptS l]) (fun l=>l.length < 9223372036854775808) :=
  (opens_slice Tryz.underlying51 cells164 (by decide) op164 (fun _=>rfl)).to id (fun _=>rfl) (fun _ h=>h.1)
theorem op52:Opens Tryz.prog 52 (List Int) (fun l=>[inS l]) (fun l=>l.length < 9223372036854775808) :=
  (opens_slice Tryz.underlying52 cells3 (by decide) op3 (fun _=>rfl)).to id (fun _=>rfl) (fun _ h=>h.1)
theorem op53:Opens Tryz.prog 53 (List Sp) (fun l=>[spnS l]) (fun l=>l.length < 9223372036854775808) :=
  (opens_slice Tryz.underlying53 cells48 (by decide) op48 (fun _=>rfl)).to id (fun _=>rfl) (fun _ h=>h.1)
theorem op54:Opens Tryz.prog 54 (List Mk) (fun l=>[mkS l]) (fun l=>l.length < 9223372036854775808) :=
  (opens_slice Tryz.underlying54 cells226 (by decide) op226 (fun _=>rfl)).to id (fun _=>rfl) (fun _ h=>h.1)
theorem op56:Opens Tryz.prog 56 (List Sp × List Mk) (fun d=>[spnS d.1,mkS d.2]) (fun d=>d.1.length < 9223372036854775808∧d.2.length < 9223372036854775808) :=
  (opens_struct Tryz.underlying56 cells56 (fun _=>rfl) (opensF_cons rfl cells53 op53 (fun _=>rfl) (opensF_cons rfl cells54 op54 (fun _=>rfl) (opensF_nil _)))).to (fun a=>⟨a.1,a.2.1⟩) (fun _=>rfl) (fun _ h=>⟨h.1,h.2.1⟩)
theorem op58:Opens Tryz.prog 58 Pn Pn.cs (fun _=>True) :=
  (opens_struct Tryz.underlying58 cells58 (fun _=>rfl) (opensF_cons rfl cells3 op3 (fun _=>rfl) (opensF_cons rfl cells48 op48 (fun _=>rfl) (opensF_cons rfl cells3 op3 (fun _=>rfl) (opensF_nil _))))).to (fun a=>⟨a.1,a.2.1,a.2.2.1⟩) (fun _=>rfl) (fun _ _=>trivial)
theorem op60:Opens Tryz.prog 60 Sht Sht.cs shtSz :=
  (opens_struct Tryz.underlying60 cells60 (fun _=>rfl) (opensF_cons rfl cells50 op50 (fun _=>rfl) (opensF_cons rfl cells51 op51 (fun _=>rfl) (opensF_cons rfl cells52 op52 (fun _=>rfl) (opensF_cons rfl cells56 op56 (fun _=>rfl) (opensF_cons rfl cells58 op58 (fun _=>rfl) (opensF_nil _))))))).to (fun a=>⟨a.1,a.2.1,a.2.2.1,a.2.2.2.1.1,a.2.2.2.1.2,a.2.2.2.2.1⟩) (fun _=>rfl) (fun _ h=>⟨h.2.1,h.2.2.1,h.2.2.2.1.1,h.2.2.2.1.2⟩)
theorem op64:Opens Tryz.prog 64 Rd Rd.cs (fun _=>True) :=
  (opens_struct Tryz.underlying64 cells64 (fun _=>rfl) (opensF_cons rfl cells3 op3 (fun _=>rfl) (opensF_cons rfl cells3 op3 (fun _=>rfl) (opensF_cons rfl cells3 op3 (fun _=>rfl) (opensF_cons rfl cells48 op48 (fun _=>rfl) (opensF_nil _)))))).to (fun a=>⟨a.1,a.2.1,a.2.2.1,a.2.2.2.1⟩) (fun _=>rfl) (fun _ _=>trivial)
theorem op66:Opens Tryz.prog 66 Hgt Hgt.cs (fun _=>True) :=
  (opens_struct Tryz.underlying66 cells66 (fun _=>rfl) (opensF_cons rfl cells3 op3 (fun _=>rfl) (opensF_cons rfl cells48 op48 (fun _=>rfl) (opensF_nil _)))).to (fun a=>⟨a.1,a.2.1⟩) (fun _=>rfl) (fun _ _=>trivial)
theorem op29:Opens Tryz.prog 29 Nm Nm.cs (fun _=>True) :=
  (opens_struct Tryz.underlying29 cells29 (fun _=>rfl) (opensF_cons rfl cells3 op3 (fun _=>rfl) (opensF_cons rfl cells3 op3 (fun _=>rfl) (opensF_nil _)))).to (fun a=>⟨a.1,a.2.1⟩) (fun _=>rfl) (fun _ _=>trivial)
theorem op68:Opens Tryz.prog 68 Nt Nt.cs ntSz :=
  (opens_struct Tryz.underlying68 cells68 (fun _=>rfl) (opensF_cons rfl cells3 op3 (fun _=>rfl) (opensF_cons rfl cells3 op3 (fun _=>rfl) (opensF_cons rfl cells3 op3 (fun _=>rfl) (opensF_cons rfl cells3 op3 (fun _=>rfl) (opensF_cons rfl cells3 op3 (fun _=>rfl) (opensF_cons rfl cells3 op3 (fun _=>rfl) (opensF_cons rfl cells3 op3 (fun _=>rfl) (opensF_cons rfl cells60 op60 (fun _=>rfl) (opensF_cons rfl cells62 op62 (fun _=>rfl) (opensF_cons rfl cells64 op64 (fun _=>rfl) (opensF_cons rfl cells66 op66 (fun _=>rfl) (opensF_cons rfl cells29 op29 (fun _=>rfl) (opensF_nil _)))))))))))))).to (fun a=>⟨a.1,a.2.1,a.2.2.1,a.2.2.2.1,a.2.2.2.2.1,a.2.2.2.2.2.1,a.2.2.2.2.2.2.1,a.2.2.2.2.2.2.2.1,a.2.2.2.2.2.2.2.2.1,a.2.2.2.2.2.2.2.2.2.1,a.2.2.2.2.2.2.2.2.2.2.1,a.2.2.2.2.2.2.2.2.2.2.2.1⟩) (fun _=>rfl) (fun _ h=>h.2.2.2.2.2.2.2.1)
theorem op27:Opens Tryz.prog 27 (List Nt) (fun l=>[ntS l]) setSz :=
  (opens_slice Tryz.underlying27 cells68 (by decide) op68 (fun _=>rfl)).to id (fun _=>rfl) (fun _ h=>h)
theorem op107:Opens Tryz.prog 107 (List Hgt) (fun l=>[hgS l]) (fun l=>l.length < 9223372036854775808) :=
  (opens_slice Tryz.underlying107 cells66 (by decide) op66 (fun _=>rfl)).to id (fun _=>rfl) (fun _ h=>h.1)
theorem op109:Opens Tryz.prog 109 Stn Stn.cs (fun s=>s.heights.length < 9223372036854775808) :=
  (opens_struct Tryz.underlying109 cells109 (fun _=>rfl) (opensF_cons rfl cells3 op3 (fun _=>rfl) (opensF_cons rfl cells3 op3 (fun _=>rfl) (opensF_cons rfl cells3 op3 (fun _=>rfl) (opensF_cons rfl cells107 op107 (fun _=>rfl) (opensF_nil _)))))).to (fun a=>⟨a.1,a.2.1,a.2.2.1,a.2.2.2.1⟩) (fun _=>rfl) (fun _ h=>h.2.2.2.1)
theorem op22:Opens Tryz.prog 22 (List Stn) (fun l=>[snS l]) stnSz :=
  (opens_slice Tryz.underlying22 cells109 (by decide) op109 (fun _=>rfl)).to id (fun _=>rfl) (fun _ h=>h)
theorem op24:Opens Tryz.prog 24 (Int × Int) (fun d=>[n d.1,n d.2]) (fun _=>True) :=
  (opens_struct Tryz.underlying24 cells24 (fun _=>rfl) (opensF_cons rfl cells3 op3 (fun _=>rfl) (opensF_cons rfl cells3 op3 (fun _=>rfl) (opensF_nil _)))).to (fun a=>⟨a.1,a.2.1⟩) (fun _=>rfl) (fun _ _=>trivial)
theorem op26:Opens Tryz.prog 26 Bse Bse.cs bseSz :=
  (opens_struct Tryz.underlying26 cells26 (fun _=>rfl) (opensF_cons rfl cells22 op22 (fun _=>rfl) (opensF_cons rfl cells24 op24 (fun _=>rfl) (opensF_cons rfl cells3 op3 (fun _=>rfl) (opensF_cons rfl cells3 op3 (fun _=>rfl) (opensF_cons rfl cells3 op3 (fun _=>rfl) (opensF_nil _))))))).to (fun a=>⟨a.1,a.2.1.1,a.2.1.2,a.2.2.1,a.2.2.2.1,a.2.2.2.2.1⟩) (fun _=>rfl) (fun _ h=>h.1)
section
variable {H:Type} {enc:TypeId × Value→H} {w:World} {r:Reach} {base b0:Nat} {sp:Nat→Bool} {held:Bool} {v:Value} {d:DataW H} {ps:List MemPlace}
theorem open_bse (h:Value.okWide Tryz.prog w r base 26 v) (hx:DataW.Trod enc Tryz.prog w b0 sp held 26 v d ps):∃ x:Bse,bseSz x∧RV w (fun _=>False) nob [] (.agg x.cs) v:=by
  obtain ⟨cs,rfl,_⟩:=okWide_struct Tryz.underlying26 h
  exact op26.agg hx
theorem open_set (h:Value.okWide Tryz.prog w r base 27 v) (hx:DataW.Trod enc Tryz.prog w b0 sp held 27 v d ps):∃ l:List Nt,setSz l∧RV w (fun _=>False) nob [] (ntS l) v:=by
  obtain ⟨a,len,cap,rfl⟩:=okWide_slice Tryz.underlying27 h
  exact op27.one rfl hx
end
end Go.Proofs.YtolgelipcgcbhaaGreat
namespace Go.Proofs.YtolgelipcgcbhaaGreat
open Go.Abs
open Nat (reduceAdd reduceSub reduceLT reduceLeDiff reduceMul reduceEqDiff)
set_option linter.unusedVariables false
set_option linter.unusedSimpArgs false
set_option maxHeartbeats 4000000
set_option maxRecDepth 100000
def c119:CF:=⟨19,(jo [jc 4 0] [0,1]
 (.seq (jo [jm 6 0,je 7 6,jc 8 0] [0,1,7,8]
 (.block 0 (.loop (jo [jt .lss 9 8 7] [0,1,7,8,9]
 (.seq (.cond (.t 9) .skip
 (.exit 0))
 (.seq (.block 1 (jo [jm 10 8,jm 5 10] [0,1,5,7,8]
 (jo [jm 11 1,jm 12 0,jm 13 5,ji 14 3 12 13,jk 15 3 14,jw 16 (.call (.t 11) [(.t 15)])] [0,1,5,7,8,16]
 (.cond (.t 16) (jo [jm 17 5,jm 4 17] [4]
 .ret)
 .skip))))
 (.ops [ju .add 18 8 1,jm 8 18] [0,1,7,8])))))))
 (jo [jc 4 (-1)] [4]
 .ret))),[.t 4]⟩
theorem k119:chkF Tryz.prog Tryz.f119 c119=true:=by kernel_rfl
def c121:CF:=⟨16,(jo [jx 2 56 2 0,jx 3 62 3 1,jb 4 false] [2,3]
 (jo [jf 5 0 3,jl 6 5,jf 7 0 2,jl 8 7,je 9 8,jw 10 (.call (.f 185) [(.t 6),(.c (.int .i64 0)),(.t 9)]),jm 11 10,ja 11 (jf 12 1 3),ja 11 (jk 13 2 12),⟨some 14,.call (.f 183) [(.t 13),(.c (.int .i64 0)),(.c (.int .i64 400))],some (11,true)⟩,jp 15 11 14,jm 4 15] [4]
 .ret)),[.t 4]⟩
theorem k121:chkF Tryz.prog Tryz.f121 c121=true:=by kernel_rfl
def c120:CF:=⟨8,(jo [jx 2 62 3 0,jb 3 false] [1,2]
 (jo [jk 4 2 1,jk 5 3 2,jy 6 121 [4,5],jv 7 6,jm 3 7] [3]
 .ret)),[.t 3]⟩
theorem k120:chkF Tryz.prog Tryz.f120 c120=true:=by kernel_rfl
def c54:CF:=⟨21,(jo [jx 2 56 2 0,jc 4 0,jc 5 0] [1,2]
 (.seq (.block 0 (jo [jk 8 2 2,jy 9 118 [8],ju .neq 10 9 0,jm 7 10] [1,2,7]
 (.cond (.t 7) (jo [jc 4 20,jc 5 0] [4,5]
 .ret)
 (jo [jm 12 1,je 13 12,ju .gtr 14 13 64,jm 11 14] [1,2,11]
 (.cond (.t 11) (jo [jc 4 2,jc 5 0] [4,5]
 .ret)
 .skip)))))
 (.seq (jo [jm 15 1,jw 16 (.mkfn (.func 120) [] [(.t 2)]),jy 17 119 [15,16],jm 6 17] [6]
 (jo [jm 18 6,ju .geq 19 18 0] [6,19]
 (.cond (.t 19) (jo [jm 20 6,jc 4 21,jm 5 20] [4,5]
 .ret)
 .skip)))
 (jo [jc 4 0,jc 5 0] [4,5]
 .ret)))),[.t 4,.t 5]⟩
theorem k54:chkF Tryz.prog Tryz.f54 c54=true:=by kernel_rfl
theorem indexMark (f:Nat) (caps:List AV) (hcap:∀ c∈caps,PureV c) (q:Mk→Bool) (l:List Mk) (hl:l.length < 9223372036854775808) (hq:∀ x∈l,Pure Tryz.prog f ([.agg (Mk.cs x)]++caps) (bl (q x))):Pure Tryz.prog 119 [mkS l,.fn (.func f) [] caps] (n (fidx q 0 l)):=by
  refine Pure.of_body Tryz.call119 Tryz.func119 k119 (Nat.le_of_ble_eq_true rfl) ?_
  unfold c119
  ((refine Au ?_;repeat' first|exact True.intro|refine Cj.mk ?_ ?_)<;>intros<;>refine hD_ ?_)
  refine AWPC.loopI 8 l.length (fun i=>fidx q i (l.drop i)=fidx q 0 l) (by simp) ?_ ?_
  · (simp only [zN,zT,zV,zS,zU,vcC,lateX,ex,strp,binA,elems,cells,scalar,eqC,keyA,intsA,lookA,ofVs,mpOf,Nat.reduceBEq,reduceAdd,reduceSub,reduceLT,reduceLeDiff,reduceMul,reduceEqDiff,reduceIte]; try simp)
  · intro i hi hI
    by_cases hlt:i < l.length
    · obtain ⟨x,hx⟩:∃ x,l[i]?=some x:=⟨_,List.getElem?_eq_getElem hlt⟩
      have hc:=hq x (List.mem_of_getElem? hx)
      rw [drop_cons hx,fidx] at hI
      (repeat' ((first
 | refine vn rfl ?_
 | simp (disch:=omega) only [wr64,Int.zero_sub]
 | refine bo (fun _=>?_) fun _=>?_
 | refine im fun _=>?_
 | refine cF ?_
 | refine om ?_
 | refine an ?_
 | fail) <;> try simp only [zN,zT,zV,zS,zU,vcC,lateX,ex,strp,binA,elems,cells,scalar,eqC,keyA,intsA,lookA,ofVs,mpOf,Nat.reduceBEq,reduceAdd,reduceSub,reduceLT,reduceLeDiff,reduceMul,reduceEqDiff,reduceIte,getD_map hx]))
      all_goals try (exfalso; omega)
      refine .inl ⟨_,_,_,_,rfl,fun _=>.of ?_ (hc),?_⟩
      · intro a ha
        simp only [List.nil_append,List.cons_append,List.mem_cons] at ha
        rcases ha with rfl | ha
        · simp
        · exact hcap a ha
      refine owp_of_exs ?_
      simp only [zN,zT,zV,zS,zU,vcC,lateX,ex,strp,binA,elems,cells,scalar,eqC,keyA,intsA,lookA,ofVs,mpOf,Nat.reduceBEq,reduceAdd,reduceSub,reduceLT,reduceLeDiff,reduceMul,reduceEqDiff,reduceIte]
      ((refine Au ?_;repeat' first|exact True.intro|refine Cj.mk ?_ ?_)<;>intros<;>refine hD_ ?_)
      · rename_i h
        rw [h] at hI
        simp only [if_true] at hI
        rw [← hI]
        exact Frz.eq rfl (by simp)
      · rename_i h
        rw [h] at hI
        exact ⟨⟨i+1,hlt,by simpa using hI⟩,by simp,by simp only; omega⟩
    · obtain rfl:i=l.length:=by omega
      rw [List.drop_length,fidx] at hI
      ((refine Au ?_;repeat' first|exact True.intro|refine Cj.mk ?_ ?_)<;>intros<;>refine hD_ ?_)
      all_goals try (exfalso; omega)
      rw [← hI]
      exact Frz.eq rfl (by simp)
theorem drMark_spec (d:List Sp × List Mk) (m:Mk) (hd:d.1.length < 9223372036854775808):Pure Tryz.prog 121 [.agg [spnS d.1,mkS d.2],.agg m.cs] (bl (decide (inr m.col 0 d.1.length∧spIn m.ticks 0 400))):=by
  refine Pure.of_body Tryz.call121 Tryz.func121 k121 (Nat.le_of_ble_eq_true rfl) ?_
  unfold c121
  have h1:=within_c m.col 0 d.1.length
  have h2:=span_c m.ticks 0 400
  have hD:decide (inr m.col 0 d.1.length∧spIn m.ticks 0 400)=(decide (inr m.col 0 d.1.length) && decide (spIn m.ticks 0 400)):=by rw [Bool.eq_iff_iff]; simp
  rw [hD]
  generalize decide (inr m.col 0 d.1.length)=x1 at h1
  generalize decide (spIn m.ticks 0 400)=x2 at h2
  ((refine Ay (And.intro @h1 @h2) ?_;repeat' first|exact True.intro|refine Cj.mk ?_ ?_)<;>intros<;>refine hD_ ?_)
  all_goals exact Frz.eq (congrArg bl (by cases x1 <;> cases x2 <;> rfl)) (by simp)
theorem badMark_spec (d:List Sp × List Mk) (m:Mk) (hd:d.1.length < 9223372036854775808):Pure Tryz.prog 120 ([.agg m.cs]++[.iptr [spnS d.1,mkS d.2] 0]) (bl (!decide (inr m.col 0 d.1.length∧spIn m.ticks 0 400))):=by
  refine Pure.of_body Tryz.call120 Tryz.func120 k120 (Nat.le_of_ble_eq_true rfl) ?_
  unfold c120
  have h1:=drMark_spec d m hd
  generalize decide (inr m.col 0 d.1.length∧spIn m.ticks 0 400)=x1 at h1
  ((refine Ay @h1 ?_;repeat' first|exact True.intro|refine Cj.mk ?_ ?_)<;>intros<;>refine hD_ ?_)
  all_goals exact Frz.eq rfl (by simp)
theorem CheckMarks_spec (d:List Sp × List Mk) (l:List Mk) (hd:d.1.length < 9223372036854775808∧d.2.length < 9223372036854775808) (hl:l.length≤64) (ok:drumOk d.1 d.2) (hm:∀ m∈l,inr m.col 0 d.1.length∧spIn m.ticks 0 400) :
    Pure Tryz.prog 54 [.agg [spnS d.1,mkS d.2],mkS l] (.tup [n 0,n 0]):=by
  refine Pure.of_body Tryz.call54 Tryz.func54 k54 (Nat.le_of_ble_eq_true rfl) ?_
  unfold c54
  have h1:=CheckDrum_spec d.1 d.2 hd.1 hd.2
  rw [if_pos ok] at h1
  have h2:=indexMark 120 [.iptr [spnS d.1,mkS d.2] 0] (fun c hc=>by
    simp only [List.mem_singleton] at hc
    subst hc
    exact PureV.iptr (fun c hc=>by simp at hc; rcases hc with rfl | rfl <;> simp)) (fun m=>!decide (inr m.col 0 d.1.length∧spIn m.ticks 0 400)) l (by omega) (fun m _=>badMark_spec d m hd.1)
  have h3:fidx (fun m=>!decide (inr m.col 0 d.1.length∧spIn m.ticks 0 400)) 0 l < 0:=by
    rw [fidx_none,List.findIdx?_eq_none_iff]
    intro m h
    rw [decide_eq_true (hm m h)]; rfl
  generalize fidx (fun m=>!decide (inr m.col 0 d.1.length∧spIn m.ticks 0 400)) 0 l=z at h2 h3
  ((refine Ay @h1 ?_;repeat' first|exact True.intro|refine Cj.mk ?_ ?_)<;>intros<;>refine hD_ ?_)
  all_goals try (exfalso; omega)
  refine .inl ⟨_,_,_,_,rfl,fun _=>.of ?_ h2,?_⟩
  · intro a ha
    simp only [List.nil_append,List.cons_append,List.mem_cons,List.append_nil,List.not_mem_nil,or_false] at ha
    rcases ha with rfl | rfl
    · simp
    · exact PureV.fn (fun _ h=>absurd h (List.not_mem_nil)) (fun c hc=>by
        simp only [List.mem_singleton] at hc
        subst hc
        exact PureV.iptr (fun c hc=>by simp at hc; rcases hc with rfl | rfl <;> simp))
  refine owp_of_exs ?_
  simp only [zN,zT,zV,zS,zU,vcC,lateX,ex,strp,binA,elems,cells,scalar,eqC,keyA,intsA,lookA,ofVs,mpOf,Nat.reduceBEq,reduceAdd,reduceSub,reduceLT,reduceLeDiff,reduceMul,reduceEqDiff,reduceIte]
  ((refine Au ?_;repeat' first|exact True.intro|refine Cj.mk ?_ ?_)<;>intros<;>refine hD_ ?_)
  all_goals try (exfalso; omega)
  all_goals exact Frz.eq rfl (by simp)
def c13:CF:=⟨194,(jo [jx 2 26 6 0,jb 4 false] [1,2]
 (jo [jy 23 18 [],jm 5 23] [1,2,5]
 (.seq (jo [jk 24 6 2,jy 25 19 [24],jv 26 25,jm 27 26,jd 27 (jm 28 1),jd 27 (jy 29 20 [28]),jd 27 (jv 30 29),jq 31 27 30] [1,2,5,31]
 (.cond (.t 31) (jo [jm 32 5,jm 4 32] [4]
 .ret)
 .skip))
 (jo [jk 34 6 2,jm 35 1,jy 36 21 [34,35],jm 33 36,jz 37 0 33,jz 38 1 33,jw 6 (.alloc 37 4 [.slice none 0 0,.slice none 0 0,.slice none 0 0,.slice none 0 0]),js 4 6 37,jm 7 38] [1,2,5,6,7]
 (jo [jk 40 6 2,jm 41 1,jy 42 51 [40,41],jm 39 42,jz 43 0 39,jz 44 1 39,jm 8 43,jm 9 44] [1,5,6,7,8,9]
 (.seq (jo [jm 45 7,ju .neq 46 45 0] [1,5,6,7,8,9,46]
 (.cond (.t 46) (jo [jm 47 5,jm 48 47,ja 48 (jm 49 9),ja 48 (jm 50 7),ja 48 (jt .eql 51 49 50),jp 52 48 51,jm 4 52] [4]
 .ret)
 .skip))
 (.seq (jo [jc 10 0] [1,5,6,8,9,10]
 (.block 0 (.loop (.seq (jo [jm 53 10,jf 54 0 6,jl 55 54,je 56 55,jt .lss 57 53 56] [1,5,6,8,9,10,57]
 (.cond (.t 57) .skip
 (.exit 0)))
 (.seq (.block 1 (jo [jf 60 0 6,jl 61 60,jm 62 10,ji 63 24 61 62,jk 64 24 63,jw 11 (.alloc 72 24 z24),js 24 11 64] [1,5,6,8,9,10,11]
 (jo [jm 66 1,jf 67 0 11,jk 68 2 67,jy 69 29 [66,68],jm 65 69,jz 70 0 65,jz 71 1 65,jw 12 (.alloc 68 38 z38),js 38 12 70,jm 13 71] [1,5,6,8,9,10,11,12,13]
 (jo [jk 73 4 6,jf 74 2 11,jl 75 74,jf 76 3 11,jl 77 76,jy 78 39 [73,75,77],jm 72 78,jz 79 0 72,jz 80 1 72,jm 14 79,jm 15 80] [1,5,6,8,9,10,11,12,13,14,15]
 (jo [jk 82 4 6,jf 83 0 11,jk 84 2 83,jy 85 52 [82,84],jm 81 85,jz 86 0 81,jz 87 1 81,jm 16 86,jm 17 87] [1,5,6,8,9,10,11,12,13,14,15,16,17]
 (.seq (jo [jm 88 13,jv 89 88,jm 90 89,jd 90 (jf 91 4 12),jd 90 (jl 92 91),jd 90 (ju .neq 93 92 1),jq 94 90 93,jm 95 94,jd 95 (jm 96 8),jd 95 (jf 97 0 11),jd 95 (jk 98 2 97),jd 95 (jy 99 30 [96,98]),jd 95 (jv 100 99),jq 101 95 100,jm 102 101,jd 102 (jf 103 7 12),jd 102 (jk 104 18 103),jd 102 (jf 105 4 11),jd 102 (jk 106 18 105),jd 102 (jy 107 53 [104,106]),jd 102 (jv 108 107),jq 109 102 108,jm 110 109,jd 110 (jm 111 15),jd 110 (ju .neq 112 111 0),jq 113 110 112,jm 114 113,jd 114 (jm 115 14),jd 114 (jm 116 10),jd 114 (jt .neq 117 115 116),jq 118 114 117,jm 119 118,jd 119 (jm 120 17),jd 119 (ju .neq 121 120 0),jq 122 119 121,jm 123 122,jd 123 (jm 124 16),jd 123 (jm 125 10),jd 123 (jt .neq 126 124 125),jq 127 123 126,jm 128 127,jd 128 (jf 129 22 11),jd 128 (jl 130 129),jd 128 (je 131 130),jd 128 (jf 132 23 11),jd 128 (jl 133 132),jd 128 (je 134 133),jd 128 (jt .neq 135 131 134),jq 136 128 135] [1,5,6,8,9,10,11,136]
 (.cond (.t 136) (jo [jb 4 false] [4]
 .ret)
 .skip))
 (.seq (jo [jf 138 4 11,jf 139 12 138,jk 140 2 139,jf 141 22 11,jl 142 141,jy 143 54 [140,142],jm 137 143,jz 144 0 137,jz 145 1 137,jm 18 144,jm 19 145] [1,5,6,8,9,10,11,18]
 (jo [jm 146 18,ju .neq 147 146 0] [1,5,6,8,9,10,11,147]
 (.cond (.t 147) (jo [jb 4 false] [4]
 .ret)
 .skip)))
 (jo [jc 20 0] [1,5,6,8,9,10,11,20]
 (.block 2 (.loop (.seq (jo [jm 148 20,jf 149 23 11,jl 150 149,je 151 150,jt .lss 152 148 151] [1,5,6,8,9,10,11,20,152]
 (.cond (.t 152) .skip
 (.exit 2)))
 (.seq (.block 3 (jo [jm 156 1,jf 157 23 11,jl 158 157,jm 159 20,ji 160 2 158 159,jk 161 2 160,jy 162 29 [156,161],jm 155 162,jz 163 0 155,jz 164 1 155,jw 21 (.alloc 68 38 z38),js 38 21 163,jm 22 164] [1,5,6,8,9,10,11,20,21,22]
 (jo [jm 165 22,jv 166 165,jm 167 166,jd 167 (jf 168 4 21),jd 167 (jl 169 168),jd 167 (ju .neq 170 169 2),jq 171 167 170,jm 172 171,jd 172 (jf 173 36 21),jd 172 (jk 174 2 173),jd 172 (jf 175 0 11),jd 172 (jk 176 2 175),⟨some 177,.eqs true [some .i64,some .i64] (.t 174) (.t 176),some (172,false)⟩,jq 178 172 177,jm 179 178,jd 179 (jm 180 8),jd 179 (jf 181 23 11),jd 179 (jl 182 181),jd 179 (jm 183 20),jd 179 (ji 184 2 182 183),jd 179 (jk 185 2 184),jd 179 (jy 186 30 [180,185]),jd 179 (jv 187 186),jq 188 179 187] [1,5,6,8,9,10,11,20,188]
 (.cond (.t 188) (jo [jb 4 false] [4]
 .ret)
 .skip))))
 (.ops [jm 153 20,ju .add 154 153 1,jm 20 154] [1,5,6,8,9,10,11,20])))))))))))))
 (.ops [jm 58 10,ju .add 59 58 1,jm 10 59] [1,5,6,8,9,10]))))))
 (jo [jm 189 5,jm 190 189,ja 190 (jm 191 9),ja 190 (ju .eql 192 191 0),jp 193 190 192,jm 4 193] [4]
 .ret)))))))),[.t 4]⟩
theorem k13:chkF Tryz.prog Tryz.f13 c13=true:=by kernel_rfl
structure OneR (l:List Nt) (R:Rgr) (S:List Nm) (i:Nat) (x:Fld) (a:Nt):Prop where
  nt:noteT l x.name=some a
  kd:a.kind=1
  st:x.name∈S
  sh:a.sheet=x.sheet
  at':sheetAt R.sheets x.stn x.week=some i
  by':sheetBy R.sheets x.name=some i
  len:x.marks.length=x.names.length
  l64:x.marks.length≤64
  dr:drumOk x.sheet.rates x.sheet.stops
  mks:∀ m∈x.marks,inr m.col 0 x.sheet.rates.length∧spIn m.ticks 0 400
  nms:∀ m∈x.names,∃ k,noteT l m=some k∧k.kind=2∧k.ref=x.name∧m∈S
theorem one_row {b:Bse} {l:List Nt} (ok:(setE b l).1=0) {i:Nat} {x:Fld} (hx:(foldT b l).sheets[i]?=some x):∃ a,OneR l (foldT b l) ((standT l).map Nt.nm) i x a:=by
  have hn:=setE_nodup ok
  have hns:=standT_nodup hn
  rw [foldT_ref b hn] at hx ⊢
  obtain ⟨a,h1,h2,h3,h4,h5,h6,h7⟩:=oneT ok hx
  subst h5
  have hl:=mks_len hns a.nm
  refine ⟨a,(fq_some hn).2 ⟨h1,h3,rfl⟩,h4,List.mem_map.2 ⟨a,h2,h3⟩,rfl,h6,h7,by simp [fld],by simpa [fld] using hl,(note_sheet ((setE_ok ok).2.2.1 a h1) h4).2.2.1,fun m hm=>?_,fun m hm=>?_⟩
  · obtain ⟨k,hk,rfl⟩:=List.mem_map.1 hm
    exact mark_right ok h2 h4 hk
  · obtain ⟨k,hk,rfl⟩:=List.mem_map.1 hm
    obtain ⟨k1,k2,k3,_⟩:=mks_mem hk
    exact ⟨k,(fq_some hn).2 ⟨(mem_standT.1 k1).1,rfl,rfl⟩,k2,k3,List.mem_map.2 ⟨k,k1,rfl⟩⟩
theorem One_spec (b:Bse) (l:List Nt) (hb:bseSz b) (hl:setSz l):Pure Tryz.prog 13 [.agg b.cs,ntS l] (bl true):=by
  refine Pure.of_body Tryz.call13 Tryz.func13 k13 (Nat.le_of_ble_eq_true rfl) ?_
  unfold c13
  have s1:=small_spec b hb
  have s2:=few_spec l hl.1
  have hl0:=hl.1
  generalize smallB b=c1 at s1
  generalize fewB l=c2 at s2
  have F1:=Fold_spec b hb l hl
  have T1:=Stands_spec b hb l hl
  cases c1 with
  | false =>
    clear F1 T1
    ((refine Ay (And.intro @awake_spec (And.intro @s1 @s2)) ?_;repeat' first|exact True.intro|refine Cj.mk ?_ ?_)<;>intros<;>refine hD_ ?_)
    all_goals try (exfalso; omega)
    all_goals exact Frz.eq rfl (by simp)
  | true =>
    cases c2 with
    | false =>
      clear F1 T1
      ((refine Ay (And.intro @awake_spec (And.intro @s1 @s2)) ?_;repeat' first|exact True.intro|refine Cj.mk ?_ ?_)<;>intros<;>refine hD_ ?_)
      all_goals try (exfalso; omega)
      all_goals exact Frz.eq rfl (by simp)
    | true =>
      by_cases ha:askedE b [l]=0
      · have ok:=askedE_one.1 ha
        have hE:foldE b l=(foldT b l,0):=by unfold foldE; rw [if_neg (by omega)]
        have hE2:standsE b l=((standT l).map Nt.nm,0):=by unfold standsE; rw [if_neg (by omega)]
        rw [hE] at F1
        rw [hE2] at T1
        simp only at F1 T1
        have zR:=foldSz hl ok
        have hrow:=@one_row b l ok
        have hSl:((standT l).map Nt.nm).length < 9223372036854775808:=by rw [List.length_map]; exact Nat.lt_of_le_of_lt (standT_len l) hl.1
        have ho:∀ a,noteT l a=none∨∃ c,noteT l a=some c∧c∈l:=fun a=>by
          cases h:noteT l a with
          | none=>exact .inl rfl
          | some c=>exact .inr ⟨c,rfl,((fq_some (setE_nodup ok)).1 h).1⟩
        have hls:=hl.2
        clear hE hE2 ok ha hb hl
        generalize foldT b l=R at F1 zR hrow
        generalize (standT l).map Nt.nm=S at T1 hrow hSl
        have hQ:Hi0 ((∀ {i:Nat} {x:Fld},R.sheets[i]?=some x→∃ a,OneR l R S i x a)∧(∀ a,noteT l a=none∨∃ c,noteT l a=some c∧c∈l)∧rgrSz R∧S.length < 9223372036854775808∧∀ a∈l,ntSz a):=⟨hrow,ho,zR,hSl,hls⟩
        have hRl:=zR.1.1
        clear hrow ho zR hSl hls
        ((refine Ay (And.intro @awake_spec (And.intro @s1 (And.intro @s2 (And.intro @F1 @T1)))) ?_;repeat' first|exact True.intro|refine Cj.mk ?_ ?_)<;>intros<;>refine hD_ ?_)
        all_goals try (exfalso; omega)
        clear F1 T1 s1 s2
        refine AWPC.loopE (α:={ p:Nat × Sto // p.1≤R.sheets.length }) [10] (fun p=>[(10,n p.1.1)]) (fun p=>some [⟨37,4,[R.cs],none⟩]::p.1.2) (fun p=>R.sheets.length - p.1.1) ⟨(0,[]),Nat.zero_le _⟩ ?_ rfl ?_
        · (simp only [zN,zT,zV,zS,zU,vcC,lateX,ex,strp,binA,elems,cells,scalar,eqC,keyA,intsA,lookA,ofVs,mpOf,Nat.reduceBEq,reduceAdd,reduceSub,reduceLT,reduceLeDiff,reduceMul,reduceEqDiff,reduceIte]; try simp)
        · rintro ⟨⟨i,μ⟩,hi⟩
          simp only at hi
          by_cases hlt:i < R.sheets.length
          · have hg:=getD_lt fld0 hlt
            have hx:(R.sheets.map Fld.cs).getD i []=Fld.cs (R.sheets.getD i fld0):=row fld0 hlt
            obtain ⟨hrow,ho,zR,hSl,hls⟩:=hQ.out
            have zx:=zR.1.2 _ (List.mem_of_getElem? hg)
            obtain ⟨a,o⟩:=hrow hg
            generalize R.sheets.getD i fld0=x at hx zx o hg
            have n1:=noteOf_spec l hl0 x.name
            rw [o.nt] at n1
            simp only [Option.getD_some,Option.isSome_some] at n1
            have sA:=SheetOf_spec R hRl x.stn x.week
            rw [o.at'] at sA
            simp only [foundE] at sA
            have sB:=SheetBy_spec R hRl x.name
            rw [o.by'] at sB
            simp only [foundE] at sB
            have nS:=named_spec S x.name hSl
            rw [decide_eq_true o.st] at nS
            have q:=rSameSheet_spec a.sheet x.sheet (by rw [o.sh]; exact zx.1) zx.1
            rw [decide_eq_true o.sh] at q
            have cm:=CheckMarks_spec (x.sheet.rates,x.sheet.stops) x.marks ⟨zx.1.2.2.1,zx.1.2.2.2⟩ o.l64 o.dr o.mks
            have pc:∀ τ,Peek Tryz.prog 54 [.agg (List.take 2 (List.drop 16 x.cs)),mkS x.marks] τ (.tup [n 0,n 0]):=fun τ=>by
              have h:=pu (τ:=τ) cm
              exact h
            clear cm
            have ok1:=o.kd
            have olen:=o.len
            have hn64:x.names.length≤64:=by have:=o.l64; omega
            have onm:=o.nms
            clear o hg zx hrow ho hls zR
            have hQ2:Hi0 ((∀ m∈x.names,∃ k,noteT l m=some k∧k.kind=2∧k.ref=x.name∧m∈S)∧S.length < 9223372036854775808):=⟨onm,hSl⟩
            clear onm hSl hQ
            have olen':(x.marks.length:Int)=(x.names.length:Int):=by omega
            (repeat' ((first
 | refine vn rfl ?_
 | simp (disch:=omega) only [wr64,Int.zero_sub]
 | refine bo (fun _=>?_) fun _=>?_
 | refine im fun _=>?_
 | ((repeat refine si ?_); ((first | refine .inl ⟨_,_,_,_,rfl,fun _=>(by first | exact (pc _)),?_⟩ | refine ⟨_,_,_,_,rfl,fun _=>(by first | exact (pc _)),?_⟩); (first | refine o1 ?_ | refine o2 ?_ | refine o3 ?_ | refine o4 ?_)))
 | ((repeat refine si ?_); (first | ((first | refine .inl ⟨_,_,_,_,rfl,fun _=>pu (by first | exact n1 | exact sA | exact sB | exact nS | exact q),?_⟩ | refine ⟨_,_,_,_,rfl,fun _=>pu (by first | exact n1 | exact sA | exact sB | exact nS | exact q),?_⟩); (first | refine o1 ?_ | refine o2 ?_ | refine o3 ?_ | refine o4 ?_)) | refine .inl ⟨_,_,_,_,rfl,pu (by first | exact n1 | exact sA | exact sB | exact nS | exact q),?_⟩))
 | refine cF ?_
 | refine om ?_
 | refine an ?_
 | fail) <;> try simp only [zN, zT, zV, zS, zU, vcC, lateX, ex, strp, binA, elems, cells, scalar, eqC, keyA, intsA, lookA, ofVs, mpOf, Nat.reduceBEq, reduceAdd, reduceSub, reduceLT, reduceLeDiff, reduceMul, reduceEqDiff, reduceIte, hx, ok1, olen, List.length_map]))
            all_goals try (exfalso; omega)
            refine AWPC.loopE (α:={ p:Nat × Sto // p.1≤x.names.length∧∀ ν,Sto.at (p.2++ν) μ.length 0=some ⟨72,24,[x.cs],none⟩ }) [20] (fun p=>[(20,n p.1.1)]) (fun p=>some [⟨37,4,[R.cs],none⟩]::p.1.2) (fun p=>x.names.length - p.1.1)
              ⟨(0,μ++[some [⟨72,24,[x.cs],none⟩],some [⟨68,38,[a.cs],none⟩]]),Nat.zero_le _,fun ν=>by simp [Sto.at]⟩ ?_ rfl ?_
            · (simp only [zN,zT,zV,zS,zU,vcC,lateX,ex,strp,binA,elems,cells,scalar,eqC,keyA,intsA,lookA,ofVs,mpOf,Nat.reduceBEq,reduceAdd,reduceSub,reduceLT,reduceLeDiff,reduceMul,reduceEqDiff,reduceIte]; try simp)
            · rintro ⟨⟨k,μ'⟩,hk,hτ⟩
              simp only at hk hτ
              have hτ0:Sto.at μ' μ.length 0=some ⟨72,24,[x.cs],none⟩:=by have:=hτ []; rwa [List.append_nil] at this
              have hτ1:∀ ν,Sto.at (some [⟨37,4,[R.cs],none⟩]::(μ'++ν)) (μ.length+1) 0=some ⟨72,24,[x.cs],none⟩:=hτ
              have hτ2:Sto.at (some [⟨37,4,[R.cs],none⟩]::μ') (μ.length+1) 0=some ⟨72,24,[x.cs],none⟩:=hτ0
              by_cases hk2:k < x.names.length
              · have hxk:(x.names.map Nm.cs).getD k []=Nm.cs (x.names.getD k nm0):=row nm0 hk2
                obtain ⟨c,d1,d2,d3,d4⟩:=hQ2.out.1 _ (List.mem_of_getElem? (getD_lt nm0 hk2))
                have hSl:=hQ2.out.2
                generalize x.names.getD k nm0=m at hxk d1 d4
                have n2:=noteOf_spec l hl0 m
                rw [d1] at n2
                simp only [Option.getD_some,Option.isSome_some] at n2
                have n3:=named_spec S m hSl
                rw [decide_eq_true d4] at n3
                have e1:c.ref.clerk=x.name.clerk:=congrArg Nm.clerk d3
                have e2:c.ref.num=x.name.num:=congrArg Nm.num d3
                clear d1 d3 d4 hSl hQ2 pc q nS sA sB n1
                ((refine Az (And.intro @hτ0 (And.intro @hτ1 (And.intro @hτ2 (And.intro @hxk (And.intro @d2 (And.intro @e1 @e2)))))) (And.intro @n2 @n3) ?_;repeat' first|exact True.intro|refine Cj.mk ?_ ?_)<;>intros<;>refine hD_ ?_)
                all_goals try (exfalso; omega)
                all_goals exact ⟨⟨(k+1,μ'++[some [⟨68,38,[c.cs],none⟩]]),hk2,fun ν=>by rw [List.append_assoc]; exact hτ _⟩,by simp,by simp,by simp only; omega⟩
              · obtain rfl:k=x.names.length:=by omega
                clear pc q nS sA sB n1 hQ2
                ((refine Ax (And.intro @hτ0 (And.intro @hτ1 @hτ2)) ?_;repeat' first|exact True.intro|refine Cj.mk ?_ ?_)<;>intros<;>refine hD_ ?_)
                all_goals try (exfalso; omega)
                all_goals exact ⟨⟨(i+1,μ'),hlt⟩,by simp,by simp,by simp only; omega⟩
          · obtain rfl:i=R.sheets.length:=by omega
            ((refine Au ?_;repeat' first|exact True.intro|refine Cj.mk ?_ ?_)<;>intros<;>refine hD_ ?_)
            all_goals try (exfalso; omega)
            all_goals exact Frz.eq rfl (by simp)
      · have hE:foldE b l=(rgr0,askedE b [l]):=by unfold foldE; rw [if_pos ha]
        have hE2:standsE b l=([],askedE b [l]):=by unfold standsE; rw [if_pos ha]
        rw [hE] at F1
        rw [hE2] at T1
        simp only at F1 T1
        generalize askedE b [l]=e at F1 T1 ha
        generalize rgr0=R at F1
        generalize ([]:List Nm)=S at T1
        clear hE hE2 hb hl
        ((refine Ay (And.intro @awake_spec (And.intro @s1 (And.intro @s2 (And.intro @F1 @T1)))) ?_;repeat' first|exact True.intro|refine Cj.mk ?_ ?_)<;>intros<;>refine hD_ ?_)
        all_goals try (exfalso; omega)
        all_goals exact Frz.eq rfl (by simp)
theorem chain_of {b:Bse} {l:List Nt} (ok:(setE b l).1=0) {a:Nt} (ha:a∈l) (hk:a.kind=1∨a.kind=2∨a.kind=3) :
    chainE b l a.nm=(((standT l).filter fun c=>kd (if a.kind=1 then 5 else 6) c && onT a.nm c).map Nt.nm,0):=by
  have hn:=setE_nodup ok
  have hb:kget (byName l) a.nm=some a:=by rw [byName_get hn]; exact (fq_some hn).2 ⟨ha,rfl,rfl⟩
  have h0:askedE b [l]=0:=askedE_one.2 ok
  unfold chainE
  rw [if_neg (by omega),hb]
  simp only [Option.getD_some]
  rw [if_pos hk]
  congr 2
  unfold standK
  rw [List.filter_filter]
  apply List.filter_congr
  intro c _
  by_cases h1:a.kind=1
  · rw [if_pos h1]; simp [kd,onT,Bool.and_comm,BEq.beq]
  · rw [if_neg h1]; simp [kd,onT,Bool.and_comm,BEq.beq]
structure ChainN (b:Bse) (l:List Nt) (R:Rgr) (x:Fld) (k:Nat) (m:Nt) (C:List Nt):Prop where
  nm:x.names[k]?=some m.nm
  nt:noteT l m.nm=some m
  ch:chainE b l m.nm=(C.map Nt.nm,0)
  len:C.length≤l.length
  each:∀ c∈C,noteT l c.nm=some c∧c.kind=6∧c.ref=m.nm∧(c.nm∈R.confl↔¬ c.read.stn=0∨(x.sheet.rates.length:Int) < c.mark.col)
  mrk:x.marks[k]?=some (C.foldl (fun w c=>if decide (¬ c.read.stn=0∨(x.sheet.rates.length:Int) < c.mark.col) then w else c.mark) m.mark)
structure ChainR (b:Bse) (l:List Nt) (R:Rgr) (x:Fld) (a:Nt) (C:List Nt) (f:Nt):Prop where
  nt:noteT l x.name=some a
  ch:chainE b l x.name=(C.map Nt.nm,0)
  len:C.length≤l.length
  nil:C=[]→f=a
  last:C≠[]→C[C.length - 1]?=some f∧noteT l f.nm=some f
  stn:f.stn=x.stn
  week:f.week=x.week
  mlen:x.marks.length=x.names.length
  l64:x.names.length≤64
  names:∀ k,k < x.names.length→∃ m C,ChainN b l R x k m C
theorem chain_row {b:Bse} {l:List Nt} (ok:(setE b l).1=0) {i:Nat} {x:Fld} (hx:(foldT b l).sheets[i]?=some x):∃ a C f,ChainR b l (foldT b l) x a C f:=by
  have hn:=setE_nodup ok
  have hns:=standT_nodup hn
  rw [foldT_ref b hn] at hx ⊢
  obtain ⟨a,h1,h2,h3,h4,h5,h6,h7⟩:=oneT ok hx
  have hS:=standT_len l
  have hin:∀ c∈standT l,noteT l c.nm=some c:=fun c hc=>(fq_some hn).2 ⟨(mem_standT.1 hc).1,rfl,rfl⟩
  have hch:=chain_of ok h1 (.inl h4)
  rw [if_pos h4] at hch
  have hl:=mks_len hns a.nm
  obtain ⟨C,hC⟩:∃ C,C=(standT l).filter fun c=>kd 5 c && onT a.nm c:=⟨_,rfl⟩
  have hCl:C.length≤l.length:=by rw [hC]; exact Nat.le_trans (List.length_filter_le _ _) hS
  have hf:flg (standT l) a=C.getLast?.getD a:=by rw [hC]; rfl
  refine ⟨a,C,flg (standT l) a,⟨by rw [← h3]; exact hin a h2,by rw [← h3,hC]; exact hch,hCl,fun e=>by rw [hf,e]; rfl,fun e=>?_,by rw [h5]; rfl,by rw [h5]; rfl,by rw [h5]; simp [fld],by rw [h5]; simpa [fld] using hl,fun k hk=>?_⟩⟩
  · have hg:C.getLast?=some (C.getLast e):=List.getLast?_eq_some_getLast e
    rw [hf,hg,Option.getD_some]
    refine ⟨by rw [← List.getLast?_eq_getElem?,hg],hin _ ?_⟩
    have h8:∀ c∈C,c∈standT l:=fun c hc=>by rw [hC] at hc; exact (List.mem_filter.1 hc).1
    exact h8 _ (List.getLast_mem e)
  · have hk':k < (mks (standT l) a.nm).length:=by rw [h5] at hk; simpa [fld] using hk
    have hg:=List.getElem?_eq_getElem hk'
    have hm:=List.getElem_mem hk'
    generalize (mks (standT l) a.nm)[k]=m at hg hm
    obtain ⟨m1,m2,m3,m4⟩:=mks_mem hm
    have hcm:=chain_of ok (mem_standT.1 m1).1 (.inr (.inl m2))
    rw [if_neg (by omega)] at hcm
    refine ⟨m,_,⟨by rw [h5]; simp [fld,hg],hin m m1,hcm,Nat.le_trans (List.length_filter_le _ _) hS,fun c hc=>?_,?_⟩⟩
    · obtain ⟨c1,c2⟩:=List.mem_filter.1 hc
      rw [Bool.and_eq_true,kd_iff] at c2
      have hr:c.ref=m.nm:=by simpa [onT] using c2.2
      have:=(corr_bad ok h2 h4 hm c1 c2.1 hr).1
      exact ⟨hin c c1,c2.1,hr,by rw [h5]; exact this⟩
    · have hb:∀ c∈standT l,c.kind=6→c.ref=m.nm→(corr (standT l) c=true↔decide (¬ c.read.stn=0∨(x.sheet.rates.length:Int) < c.mark.col)=false):=fun c c1 c2 c3=>by
        rw [(corr_bad ok h2 h4 hm c1 c2 c3).2,decide_eq_false_iff_not,h5]; rfl
      rw [knw_last m (fun c=>decide (¬ c.read.stn=0∨(x.sheet.rates.length:Int) < c.mark.col)) hb,h5]
      simp [fld,hg]
def c5:CF:=⟨217,(jo [jx 2 26 6 0,jb 4 false] [1,2]
 (jo [jy 24 18 [],jm 5 24] [1,2,5]
 (.seq (jo [jk 25 6 2,jy 26 19 [25],jv 27 26,jm 28 27,jd 28 (jm 29 1),jd 28 (jy 30 20 [29]),jd 28 (jv 31 30),jq 32 28 31] [1,2,5,32]
 (.cond (.t 32) (jo [jm 33 5,jm 4 33] [4]
 .ret)
 .skip))
 (jo [jk 35 6 2,jm 36 1,jy 37 21 [35,36],jm 34 37,jz 38 0 34,jz 39 1 34,jw 6 (.alloc 37 4 [.slice none 0 0,.slice none 0 0,.slice none 0 0,.slice none 0 0]),js 4 6 38,jm 7 39] [1,2,5,6,7]
 (.seq (jo [jm 40 7,ju .neq 41 40 0] [1,2,5,6,41]
 (.cond (.t 41) (jo [jm 42 5,jm 4 42] [4]
 .ret)
 .skip))
 (.seq (jo [jc 8 0] [1,2,5,6,8]
 (.block 0 (.loop (.seq (jo [jm 43 8,jf 44 0 6,jl 45 44,je 46 45,jt .lss 47 43 46] [1,2,5,6,8,47]
 (.cond (.t 47) .skip
 (.exit 0)))
 (.seq (.block 1 (jo [jf 50 0 6,jl 51 50,jm 52 8,ji 53 24 51 52,jk 54 24 53,jw 9 (.alloc 72 24 z24),js 24 9 54] [1,2,5,6,8,9]
 (jo [jm 56 1,jf 57 0 9,jk 58 2 57,jy 59 29 [56,58],jm 55 59,jz 60 0 55,jz 61 1 55,jw 10 (.alloc 68 38 z38),js 38 10 60,jm 11 61] [1,2,5,6,8,9,10,11]
 (jo [jk 63 6 2,jm 64 1,jf 65 0 9,jk 66 2 65,jy 67 25 [63,64,66],jm 62 67,jz 68 0 62,jz 69 1 62,jm 12 68,jm 13 69] [1,2,5,6,8,9,10,11,12,13]
 (.seq (jo [jm 70 11,jv 71 70,jm 72 71,jd 72 (jm 73 13),jd 72 (ju .neq 74 73 0),jq 75 72 74] [1,2,5,6,8,9,10,11,12,75]
 (.cond (.t 75) (jo [jb 4 false] [4]
 .ret)
 .skip))
 (.seq (jo [jm 76 12,je 77 76,ju .gtr 78 77 0] [1,2,5,6,8,9,10,11,12,78]
 (.cond (.t 78) (.ops [jm 80 1,jm 81 12,jm 82 12,je 83 82,ju .sub 84 83 1,ji 85 2 81 84,jk 86 2 85,jy 87 29 [80,86],jm 79 87,jz 88 0 79,jz 89 1 79,js 38 10 88,jm 11 89] [1,2,5,6,8,9,10,11])
 .skip))
 (.seq (jo [jm 90 11,jv 91 90,jm 92 91,jd 92 (jf 93 5 10),jd 92 (jl 94 93),jd 92 (jf 95 2 9),jd 92 (jl 96 95),jd 92 (jt .neq 97 94 96),jq 98 92 97,jm 99 98,jd 99 (jf 100 6 10),jd 99 (jl 101 100),jd 99 (jf 102 3 9),jd 99 (jl 103 102),jd 99 (jt .neq 104 101 103),jq 105 99 104] [1,2,5,6,8,9,105]
 (.cond (.t 105) (jo [jb 4 false] [4]
 .ret)
 .skip))
 (jo [jc 14 0] [1,2,5,6,8,9,14]
 (.block 2 (.loop (.seq (jo [jm 106 14,jf 107 23 9,jl 108 107,je 109 108,jt .lss 110 106 109] [1,2,5,6,8,9,14,110]
 (.cond (.t 110) .skip
 (.exit 2)))
 (.seq (.block 3 (jo [jm 114 1,jf 115 23 9,jl 116 115,jm 117 14,ji 118 2 116 117,jk 119 2 118,jy 120 29 [114,119],jm 113 120,jz 121 0 113,jz 122 1 113,jw 15 (.alloc 68 38 z38),js 38 15 121,jm 16 122] [1,2,5,6,8,9,14,15,16]
 (.seq (.draw [jk 124 6 2,jm 125 1,jf 126 23 9,jl 127 126,jm 128 14,ji 129 2 127 128,jk 130 2 129,jy 131 25 [124,125,130],jm 123 131,jz 132 0 123,jz 133 1 123,jm 17 132,jm 18 133] [] [1,2,5,6,8,9,14,15,16,17,18])
 (.seq (jo [jm 134 16,jv 135 134,jm 136 135,jd 136 (jm 137 18),jd 136 (ju .neq 138 137 0),jq 139 136 138,jm 140 139,jd 140 (jm 141 14),jd 140 (jf 142 22 9),jd 140 (jl 143 142),jd 140 (je 144 143),jd 140 (jt .geq 145 141 144),jq 146 140 145] [1,2,5,6,8,9,14,15,17,146]
 (.cond (.t 146) (jo [jb 4 false] [4]
 .ret)
 .skip))
 (jo [jf 147 25 15,jk 148 3 147,jw 19 (.alloc 62 3 [.int .i64 0,.int .i64 0,.int .i64 0]),js 3 19 148] [1,2,5,6,8,9,14,17,19]
 (.seq (jo [jc 20 0] [1,2,5,6,8,9,14,17,19,20]
 (.block 4 (.loop (.seq (jo [jm 149 20,jm 150 17,je 151 150,jt .lss 152 149 151] [1,2,5,6,8,9,14,17,19,20,152]
 (.cond (.t 152) .skip
 (.exit 4)))
 (.seq (.block 5 (jo [jm 156 1,jm 157 17,jm 158 20,ji 159 2 157 158,jk 160 2 159,jy 161 29 [156,160],jm 155 161,jz 162 0 155,jz 163 1 155,jw 21 (.alloc 68 38 z38),js 38 21 162,jm 22 163] [1,2,5,6,8,9,14,17,19,20,21,22]
 (.seq (.seq (.draw [jm 164 22,jv 165 164,jm 166 165,jd 166 (jf 167 4 21),jd 166 (jl 168 167),jd 166 (ju .neq 169 168 6),jq 170 166 169,jm 171 170,jd 171 (jf 172 36 21),jd 171 (jk 173 2 172),jd 171 (jf 174 23 9),jd 171 (jl 175 174),jd 171 (jm 176 14),jd 171 (ji 177 2 175 176),jd 171 (jk 178 2 177),⟨some 179,.eqs true [some .i64,some .i64] (.t 173) (.t 178),some (171,false)⟩,jq 180 171 179] [] [1,2,5,6,8,9,14,17,19,20,21,180])
 (.cond (.t 180) (jo [jb 4 false] [4]
 .ret)
 .skip))
 (.seq (.draw [jf 181 3 6,jl 182 181,jm 183 17,jm 184 20,ji 185 2 183 184,jk 186 2 185,jy 187 30 [182,186],jm 23 187] [] [1,2,5,6,8,9,14,17,19,20,21,23])
 (.seq (jo [jm 188 23,jf 189 28 21,jf 190 0 189,jl 191 190,ju .neq 192 191 0,jm 193 192,jd 193 (jf 194 25 21),jd 193 (jf 195 0 194),jd 193 (jl 196 195),jd 193 (jf 197 4 9),jd 193 (jf 198 12 197),jd 193 (jf 199 0 198),jd 193 (jl 200 199),jd 193 (je 201 200),jd 193 (jt .gtr 202 196 201),jq 203 193 202,jw 204 (.eqb true (.t 188) (.t 203))] [1,2,5,6,8,9,14,17,19,20,21,23,204]
 (.cond (.t 204) (jo [jb 4 false] [4]
 .ret)
 .skip))
 (jo [jm 205 23,jv 206 205] [1,2,5,6,8,9,14,17,19,20,21,206]
 (.cond (.t 206) (.ops [jf 207 25 21,jk 208 3 207,js 3 19 208] [1,2,5,6,8,9,14,17,19,20])
 .skip)))))))
 (.ops [jm 153 20,ju .add 154 153 1,jm 20 154] [1,2,5,6,8,9,14,17,19,20]))))))
 (.seq (.draw [jk 209 3 19,jf 210 22 9,jl 211 210,jm 212 14,ji 213 3 211 212,jk 214 3 213,jw 215 (.eqs true [some .i64,some .i64,some .i64] (.t 209) (.t 214))] [] [1,2,5,6,8,9,14,215])
 (.cond (.t 215) (jo [jb 4 false] [4]
 .ret)
 .skip))))))))
 (.ops [jm 111 14,ju .add 112 111 1,jm 14 112] [1,2,5,6,8,9,14])))))))))))))
 (.ops [jm 48 8,ju .add 49 48 1,jm 8 49] [1,2,5,6,8]))))))
 (jo [jm 216 5,jm 4 216] [4]
 .ret))))))),[.t 4]⟩
theorem k5:chkF Tryz.prog Tryz.f5 c5=true:=by kernel_rfl
theorem Chains_spec (b:Bse) (l:List Nt) (hb:bseSz b) (hl:setSz l):Pure Tryz.prog 5 [.agg b.cs,ntS l] (bl true):=by
  refine Pure.of_body Tryz.call5 Tryz.func5 k5 (Nat.le_of_ble_eq_true rfl) ?_
  unfold c5
  have s1:=small_spec b hb
  have s2:=few_spec l hl.1
  have hl0:=hl.1
  generalize smallB b=c1 at s1
  generalize fewB l=c2 at s2
  have F1:=Fold_spec b hb l hl
  cases c1 with
  | false =>
    clear F1
    ((refine Ay (And.intro @awake_spec (And.intro @s1 @s2)) ?_;repeat' first|exact True.intro|refine Cj.mk ?_ ?_)<;>intros<;>refine hD_ ?_)
    all_goals try (exfalso; omega)
    all_goals exact Frz.eq rfl (by simp)
  | true =>
    cases c2 with
    | false =>
      clear F1
      ((refine Ay (And.intro @awake_spec (And.intro @s1 @s2)) ?_;repeat' first|exact True.intro|refine Cj.mk ?_ ?_)<;>intros<;>refine hD_ ?_)
      all_goals try (exfalso; omega)
      all_goals exact Frz.eq rfl (by simp)
    | true =>
      by_cases ha:askedE b [l]=0
      · have ok:=askedE_one.1 ha
        have hE:foldE b l=(foldT b l,0):=by unfold foldE; rw [if_neg (by omega)]
        rw [hE] at F1
        simp only at F1
        have zR:=foldSz hl ok
        have hrow:=@chain_row b l ok
        have cH:=Chain_spec b hb l hl
        have h400:=setE_len ok
        clear hE ok ha hb hl
        generalize foldT b l=R at F1 zR hrow
        have hRl:=zR.1.1
        have hQ:Hi0 ((∀ {i:Nat} {x:Fld},R.sheets[i]?=some x→∃ a C f,ChainR b l R x a C f)∧rgrSz R∧∀ m,Pure Tryz.prog 25 [.agg b.cs,ntS l,.agg m.cs] (.tup [nmS (chainE b l m).1,n (chainE b l m).2])):=⟨hrow,zR,cH⟩
        clear hrow zR cH
        ((refine Ay (And.intro @awake_spec (And.intro @s1 (And.intro @s2 @F1))) ?_;repeat' first|exact True.intro|refine Cj.mk ?_ ?_)<;>intros<;>refine hD_ ?_)
        all_goals try (exfalso; omega)
        clear F1 s1 s2
        refine AWPC.loopE (α:={ p:Nat × Sto // p.1≤R.sheets.length }) [8] (fun p=>[(8,n p.1.1)]) (fun p=>some [⟨37,4,[R.cs],none⟩]::p.1.2) (fun p=>R.sheets.length - p.1.1) ⟨(0,[]),Nat.zero_le _⟩ ?_ rfl ?_
        · (simp only [zN,zT,zV,zS,zU,vcC,lateX,ex,strp,binA,elems,cells,scalar,eqC,keyA,intsA,lookA,ofVs,mpOf,Nat.reduceBEq,reduceAdd,reduceSub,reduceLT,reduceLeDiff,reduceMul,reduceEqDiff,reduceIte]; try simp)
        · rintro ⟨⟨i,μ⟩,hi⟩
          simp only at hi
          by_cases hlt:i < R.sheets.length
          · have hg:=getD_lt fld0 hlt
            have hx:(R.sheets.map Fld.cs).getD i []=Fld.cs (R.sheets.getD i fld0):=row fld0 hlt
            obtain ⟨a,C,f,o⟩:=hQ.out.1 hg
            generalize R.sheets.getD i fld0=x at hx o hg
            have n1:=noteOf_spec l hl0 x.name
            rw [o.nt] at n1
            simp only [Option.getD_some,Option.isSome_some] at n1
            have cH:=hQ.out.2.2 x.name
            rw [o.ch] at cH
            simp only at cH
            have hn64:=o.l64
            have olen:=o.mlen
            have oS:=o.stn
            have oW:=o.week
            have hCl:=o.len
            have hQ2:Hi0 ((∀ k,k < x.names.length→∃ m C,ChainN b l R x k m C)∧rgrSz R∧∀ m,Pure Tryz.prog 25 [.agg b.cs,ntS l,.agg m.cs] (.tup [nmS (chainE b l m).1,n (chainE b l m).2])):=⟨o.names,hQ.out.2.1,hQ.out.2.2⟩
            have olen':(x.marks.length:Int)=(x.names.length:Int):=by omega
            by_cases hC:C=[]
            · subst hC
              have e:=o.nil rfl
              subst e
              clear o hg hQ
              ((refine Az (And.intro @hx (And.intro @oS (And.intro @oW @olen))) (And.intro @n1 @cH) ?_;repeat' first|exact True.intro|refine Cj.mk ?_ ?_)<;>intros<;>refine hD_ ?_)
              all_goals try (exfalso; omega)
              refine AWPC.loopE (α:={ p:Nat × Sto // p.1≤x.names.length∧∀ ν,Sto.at (p.2++ν) μ.length 0=some ⟨72,24,[x.cs],none⟩ }) [14] (fun p=>[(14,n p.1.1)]) (fun p=>some [⟨37,4,[R.cs],none⟩]::p.1.2) (fun p=>x.names.length - p.1.1)
                ⟨(0,μ++[some [⟨72,24,[x.cs],none⟩],some [⟨68,38,[f.cs],none⟩]]),Nat.zero_le _,fun ν=>by simp [Sto.at]⟩ ?_ rfl ?_
              · (simp only [zN,zT,zV,zS,zU,vcC,lateX,ex,strp,binA,elems,cells,scalar,eqC,keyA,intsA,lookA,ofVs,mpOf,Nat.reduceBEq,reduceAdd,reduceSub,reduceLT,reduceLeDiff,reduceMul,reduceEqDiff,reduceIte]; try simp)
              · rintro ⟨⟨k,μ'⟩,hk,hτ⟩
                simp only at hk hτ
                have hτ0:Sto.at μ' μ.length 0=some ⟨72,24,[x.cs],none⟩:=by have:=hτ []; rwa [List.append_nil] at this
                have hτ1:∀ ν,Sto.at (some [⟨37,4,[R.cs],none⟩]::(μ'++ν)) (μ.length+1) 0=some ⟨72,24,[x.cs],none⟩:=hτ
                have hτ2:Sto.at (some [⟨37,4,[R.cs],none⟩]::μ') (μ.length+1) 0=some ⟨72,24,[x.cs],none⟩:=hτ0
                by_cases hk2:k < x.names.length
                · obtain ⟨m,D,q⟩:=hQ2.out.1 k hk2
                  have hxk:(x.names.map Nm.cs).getD k []=m.nm.cs:=by rw [List.getD_eq_getElem?_getD,List.getElem?_map,q.nm]; rfl
                  have n3:=noteOf_spec l hl0 m.nm
                  rw [q.nt] at n3
                  simp only [Option.getD_some,Option.isSome_some] at n3
                  have cD:=hQ2.out.2.2 m.nm
                  rw [q.ch] at cD
                  simp only at cD
                  have hDl:(D.map Nt.nm).length=D.length:=List.length_map _
                  have hE:∀ j,j < D.length→((D.map Nt.nm).map Nm.cs).getD j []=(D.getD j nt0).nm.cs:=fun j hj=>by rw [List.map_map]; exact row (f:=Nm.cs ∘ Nt.nm) nt0 hj
                  have hQ3:Hi0 (ChainN b l R x k m D∧rgrSz R):=⟨q,hQ2.out.2.1⟩
                  generalize D.map Nt.nm=E at cD hDl hE
                  have hE:Hi0 (∀ j,j < D.length→(E.map Nm.cs).getD j []=(D.getD j nt0).nm.cs):=⟨hE⟩
                  clear q hQ2 n1
                  ((refine Az (And.intro @hτ0 (And.intro @hτ1 (And.intro @hτ2 (And.intro @hxk @olen)))) (And.intro @n3 @cD) ?_;repeat' first|exact True.intro|refine Cj.mk ?_ ?_)<;>intros<;>refine hD_ ?_)
                  all_goals try (exfalso; omega)
                  have hD4:D.length≤400:=Nat.le_trans hQ3.out.1.len h400
                  obtain ⟨W,hW⟩:∃ W:Sto,W=some [⟨37,4,[R.cs],none⟩]::(μ'++[some [⟨68,38,[m.cs],none⟩]]):=⟨_,rfl⟩
                  have hWl:W.length=μ'.length+2:=by rw [hW]; simp
                  have hA0:∀ ν,Sto.at (W++ν) 0 0=some ⟨37,4,[R.cs],none⟩:=fun ν=>by rw [hW]; rfl
                  have hA1:∀ ν,Sto.at (W++ν) (μ.length+1) 0=some ⟨72,24,[x.cs],none⟩:=fun ν=>by
                    rw [hW,List.cons_append,List.append_assoc]; exact hτ1 _
                  have hA2:∀ (o:Ob) ν,Sto.at (W++some [o]::ν) (μ'.length+2) 0=some o:=fun o ν=>by rw [← hWl,at_app0]; rfl
                  have hA3:∀ (o o':Ob) ν,Sto.upd (W++some [o]::ν) (μ'.length+2) 0 o'=W++some [o']::ν:=fun o o' ν=>by rw [← hWl,upd_app0]; rfl
                  have hA4:∀ (o o':Ob) (ν:Sto),Sto.at (W++some [o]::(ν++[some [o']])) (μ'.length+(2+(ν.length+1))) 0=some o':=fun o o' ν=>by
                    rw [show μ'.length+(2+(ν.length+1))=W.length+(ν.length+1) by omega,at_app]; show Sto.at (ν++[some [o']]) ν.length 0=some o'; rw [at_app0]; rfl
                  have hA5:∀ (o o' o2:Ob) (ν:Sto),Sto.upd (W++some [o]::(ν++[some [o']])) (μ'.length+(2+(ν.length+1))) 0 o2=W++some [o]::(ν++[some [o2]]):=fun o o' o2 ν=>by
                    rw [show W++some [o]::(ν++[some [o']])=(W++[some [o]]++ν)++[some [o']] by simp,show μ'.length+(2+(ν.length+1))=(W++[some [o]]++ν).length by simp; omega,upd_app0]; simp [Sto.upd]
                  refine AWPC.sto (σ':=W++some [⟨62,3,[m.mark.cs],none⟩]::[]) (by rw [hW]; simp) ?_
                  obtain ⟨G,hG⟩:∃ G:Nat→Mk,G=fun j=>(D.take j).foldl (fun w c=>if decide (¬ c.read.stn=0∨(x.sheet.rates.length:Int) < c.mark.col) then w else c.mark) m.mark:=⟨_,rfl⟩
                  have hG0:G 0=m.mark:=by rw [hG]; rfl
                  have hGs:∀ j,j < D.length→G (j+1)=if decide (¬ (D.getD j nt0).read.stn=0∨(x.sheet.rates.length:Int) < (D.getD j nt0).mark.col) then G j else (D.getD j nt0).mark:=fun j hj=>by
                    rw [hG]; simp only [List.take_add_one,getD_lt nt0 hj,Option.toList_some,List.foldl_append,List.foldl_cons,List.foldl_nil]
                  have hGl:(x.marks.map Mk.cs).getD k []=(G D.length).cs:=by
                    rw [List.getD_eq_getElem?_getD,List.getElem?_map,hQ3.out.1.mrk,hG]; simp only [List.take_length]; rfl
                  clear hG
                  rw [← hG0]
                  have hGs:Hi0 (∀ j,j < D.length→G (j+1)=if decide (¬ (D.getD j nt0).read.stn=0∨(x.sheet.rates.length:Int) < (D.getD j nt0).mark.col) then G j else (D.getD j nt0).mark):=⟨hGs⟩
                  have hW:Hi0 (W=some [⟨37,4,[R.cs],none⟩]::(μ'++[some [⟨68,38,[m.cs],none⟩]])):=⟨hW⟩
                  clear hG0 n3 cD hτ0 hτ1 hτ2
                  refine AWPC.loopE (α:={ p:Nat × Sto // p.1≤D.length }) [20] (fun p=>[(20,n p.1.1)]) (fun p=>W++some [⟨62,3,[(G p.1.1).cs],none⟩]::p.1.2) (fun p=>D.length - p.1.1) ⟨(0,[]),Nat.zero_le _⟩ ?_ rfl ?_
                  · (simp only [zN,zT,zV,zS,zU,vcC,lateX,ex,strp,binA,elems,cells,scalar,eqC,keyA,intsA,lookA,ofVs,mpOf,Nat.reduceBEq,reduceAdd,reduceSub,reduceLT,reduceLeDiff,reduceMul,reduceEqDiff,reduceIte]; try simp)
                  · rintro ⟨⟨j,ν⟩,hj⟩
                    simp only at hj
                    by_cases hj2:j < D.length
                    · have hEj:=hE.out j hj2
                      have hGj:=hGs.out j hj2
                      obtain ⟨d1,d2,d3,d4⟩:=hQ3.out.1.each _ (List.mem_of_getElem? (getD_lt nt0 hj2))
                      have hcl:=hQ3.out.2.2.2.2
                      generalize D.getD j nt0=c at hEj hGj d1 d2 d3 d4
                      have n4:=noteOf_spec l hl0 c.nm
                      rw [d1] at n4
                      simp only [Option.getD_some,Option.isSome_some] at n4
                      have n5:=named_spec R.confl c.nm hcl
                      have e1:(c.ref.clerk=m.clerk)=True:=eq_true (congrArg Nm.clerk d3)
                      have e2:(c.ref.num=m.num)=True:=eq_true (congrArg Nm.num d3)
                      clear d1 d3 hGs hE hcl hQ3
                      by_cases h0:c.read.stn=0
                      · by_cases h1:(x.sheet.rates.length:Int) < c.mark.col
                        · rw [decide_eq_true (d4.2 (.inr h1))] at n5
                          rw [if_pos (decide_eq_true (.inr h1))] at hGj
                          clear d4
                          ((refine Az (And.intro @hA0 (And.intro @hA1 (And.intro @hA2 (And.intro @hA3 (And.intro @hA4 (And.intro @hA5 (And.intro @hWl (And.intro @hxk (And.intro @hEj (And.intro @hDl (And.intro @d2 (And.intro @e1 (And.intro @e2 (And.intro @h0 @h1)))))))))))))) (And.intro @n4 @n5) ?_;repeat' first|exact True.intro|refine Cj.mk ?_ ?_)<;>intros<;>refine hD_ ?_)
                          all_goals try (exfalso; omega)
                          all_goals first | (exfalso; rename_i h; exact absurd h (by decide)) | exact ⟨⟨(j+1,ν++[some [⟨68,38,[c.cs],none⟩]]),hj2⟩,by simp,by simp [hGj],by simp only; omega⟩
                        · have hb:¬ (¬ c.read.stn=0∨(x.sheet.rates.length:Int) < c.mark.col):=fun h=>h.elim (fun h=>h h0) h1
                          rw [decide_eq_false (fun h=>hb (d4.1 h))] at n5
                          rw [if_neg (by rw [decide_eq_true_eq]; exact hb)] at hGj
                          clear d4 hb
                          ((refine Az (And.intro @hA0 (And.intro @hA1 (And.intro @hA2 (And.intro @hA3 (And.intro @hA4 (And.intro @hA5 (And.intro @hWl (And.intro @hxk (And.intro @hEj (And.intro @hDl (And.intro @d2 (And.intro @e1 (And.intro @e2 (And.intro @h0 @h1)))))))))))))) (And.intro @n4 @n5) ?_;repeat' first|exact True.intro|refine Cj.mk ?_ ?_)<;>intros<;>refine hD_ ?_)
                          all_goals try (exfalso; omega)
                          all_goals first | (exfalso; rename_i h; exact absurd h (by decide)) | exact ⟨⟨(j+1,ν++[some [⟨68,38,[c.cs],none⟩]]),hj2⟩,by simp,by simp [hGj],by simp only; omega⟩
                      · rw [decide_eq_true (d4.2 (.inl h0))] at n5
                        rw [if_pos (decide_eq_true (.inl h0))] at hGj
                        clear d4
                        ((refine Az (And.intro @hA0 (And.intro @hA1 (And.intro @hA2 (And.intro @hA3 (And.intro @hA4 (And.intro @hA5 (And.intro @hWl (And.intro @hxk (And.intro @hEj (And.intro @hDl (And.intro @d2 (And.intro @e1 (And.intro @e2 @h0))))))))))))) (And.intro @n4 @n5) ?_;repeat' first|exact True.intro|refine Cj.mk ?_ ?_)<;>intros<;>refine hD_ ?_)
                        all_goals try (exfalso; omega)
                        all_goals first | (exfalso; rename_i h; exact absurd h (by decide)) | exact ⟨⟨(j+1,ν++[some [⟨68,38,[c.cs],none⟩]]),hj2⟩,by simp,by simp [hGj],by simp only; omega⟩
                    · obtain rfl:j=D.length:=by omega
                      clear hGs hE hQ3
                      ((refine Ax (And.intro @hA0 (And.intro @hA1 (And.intro @hA2 (And.intro @hWl (And.intro @hGl @olen))))) ?_;repeat' first|exact True.intro|refine Cj.mk ?_ ?_)<;>intros<;>refine hD_ ?_)
                      all_goals try (exfalso; omega)
                      all_goals exact ⟨⟨(k+1,(μ'++[some [⟨68,38,[m.cs],none⟩]])++some [⟨62,3,[(G D.length).cs],none⟩]::ν),hk2,fun ν'=>by rw [List.append_assoc,List.append_assoc]; exact hτ _⟩,by simp,by rw [hW.out]; rfl,by simp only; omega⟩
                · obtain rfl:k=x.names.length:=by omega
                  clear hQ2 n1
                  ((refine Ax (And.intro @hτ0 (And.intro @hτ1 @hτ2)) ?_;repeat' first|exact True.intro|refine Cj.mk ?_ ?_)<;>intros<;>refine hD_ ?_)
                  all_goals try (exfalso; omega)
                  all_goals exact ⟨⟨(i+1,μ'),hlt⟩,by simp,by simp,by simp only; omega⟩
            · obtain ⟨l1,l2⟩:=o.last hC
              have hCp:0 < C.length:=List.length_pos_iff.2 hC
              have n2:=noteOf_spec l hl0 f.nm
              rw [l2] at n2
              simp only [Option.getD_some,Option.isSome_some] at n2
              have hfr:((C.map Nt.nm).map Nm.cs).getD ((C.length:Int) - 1).toNat []=f.nm.cs:=by
                rw [show ((C.length:Int) - 1).toNat=C.length - 1 by omega,List.getD_eq_getElem?_getD,List.getElem?_map,List.getElem?_map,l1]; rfl
              have hDl:(C.map Nt.nm).length=C.length:=List.length_map _
              generalize C.map Nt.nm=D at cH hfr hDl
              clear o hg hQ l1 l2 hC
              ((refine Az (And.intro @hx (And.intro @oS (And.intro @oW (And.intro @olen (And.intro @hfr @hDl))))) (And.intro @n1 (And.intro @cH @n2)) ?_;repeat' first|exact True.intro|refine Cj.mk ?_ ?_)<;>intros<;>refine hD_ ?_)
              all_goals try (exfalso; omega)
              refine AWPC.loopE (α:={ p:Nat × Sto // p.1≤x.names.length∧∀ ν,Sto.at (p.2++ν) μ.length 0=some ⟨72,24,[x.cs],none⟩ }) [14] (fun p=>[(14,n p.1.1)]) (fun p=>some [⟨37,4,[R.cs],none⟩]::p.1.2) (fun p=>x.names.length - p.1.1)
                ⟨(0,μ++[some [⟨72,24,[x.cs],none⟩],some [⟨68,38,[f.cs],none⟩]]),Nat.zero_le _,fun ν=>by simp [Sto.at]⟩ ?_ rfl ?_
              · (simp only [zN,zT,zV,zS,zU,vcC,lateX,ex,strp,binA,elems,cells,scalar,eqC,keyA,intsA,lookA,ofVs,mpOf,Nat.reduceBEq,reduceAdd,reduceSub,reduceLT,reduceLeDiff,reduceMul,reduceEqDiff,reduceIte]; try simp)
              · rintro ⟨⟨k,μ'⟩,hk,hτ⟩
                simp only at hk hτ
                have hτ0:Sto.at μ' μ.length 0=some ⟨72,24,[x.cs],none⟩:=by have:=hτ []; rwa [List.append_nil] at this
                have hτ1:∀ ν,Sto.at (some [⟨37,4,[R.cs],none⟩]::(μ'++ν)) (μ.length+1) 0=some ⟨72,24,[x.cs],none⟩:=hτ
                have hτ2:Sto.at (some [⟨37,4,[R.cs],none⟩]::μ') (μ.length+1) 0=some ⟨72,24,[x.cs],none⟩:=hτ0
                by_cases hk2:k < x.names.length
                · obtain ⟨m,D,q⟩:=hQ2.out.1 k hk2
                  have hxk:(x.names.map Nm.cs).getD k []=m.nm.cs:=by rw [List.getD_eq_getElem?_getD,List.getElem?_map,q.nm]; rfl
                  have n3:=noteOf_spec l hl0 m.nm
                  rw [q.nt] at n3
                  simp only [Option.getD_some,Option.isSome_some] at n3
                  have cD:=hQ2.out.2.2 m.nm
                  rw [q.ch] at cD
                  simp only at cD
                  have hDl:(D.map Nt.nm).length=D.length:=List.length_map _
                  have hE:∀ j,j < D.length→((D.map Nt.nm).map Nm.cs).getD j []=(D.getD j nt0).nm.cs:=fun j hj=>by rw [List.map_map]; exact row (f:=Nm.cs ∘ Nt.nm) nt0 hj
                  have hQ3:Hi0 (ChainN b l R x k m D∧rgrSz R):=⟨q,hQ2.out.2.1⟩
                  generalize D.map Nt.nm=E at cD hDl hE
                  have hE:Hi0 (∀ j,j < D.length→(E.map Nm.cs).getD j []=(D.getD j nt0).nm.cs):=⟨hE⟩
                  clear q hQ2 n1
                  ((refine Az (And.intro @hτ0 (And.intro @hτ1 (And.intro @hτ2 (And.intro @hxk @olen)))) (And.intro @n3 @cD) ?_;repeat' first|exact True.intro|refine Cj.mk ?_ ?_)<;>intros<;>refine hD_ ?_)
                  all_goals try (exfalso; omega)
                  have hD4:D.length≤400:=Nat.le_trans hQ3.out.1.len h400
                  obtain ⟨W,hW⟩:∃ W:Sto,W=some [⟨37,4,[R.cs],none⟩]::(μ'++[some [⟨68,38,[m.cs],none⟩]]):=⟨_,rfl⟩
                  have hWl:W.length=μ'.length+2:=by rw [hW]; simp
                  have hA0:∀ ν,Sto.at (W++ν) 0 0=some ⟨37,4,[R.cs],none⟩:=fun ν=>by rw [hW]; rfl
                  have hA1:∀ ν,Sto.at (W++ν) (μ.length+1) 0=some ⟨72,24,[x.cs],none⟩:=fun ν=>by
                    rw [hW,List.cons_append,List.append_assoc]; exact hτ1 _
                  have hA2:∀ (o:Ob) ν,Sto.at (W++some [o]::ν) (μ'.length+2) 0=some o:=fun o ν=>by rw [← hWl,at_app0]; rfl
                  have hA3:∀ (o o':Ob) ν,Sto.upd (W++some [o]::ν) (μ'.length+2) 0 o'=W++some [o']::ν:=fun o o' ν=>by rw [← hWl,upd_app0]; rfl
                  have hA4:∀ (o o':Ob) (ν:Sto),Sto.at (W++some [o]::(ν++[some [o']])) (μ'.length+(2+(ν.length+1))) 0=some o':=fun o o' ν=>by
                    rw [show μ'.length+(2+(ν.length+1))=W.length+(ν.length+1) by omega,at_app]; show Sto.at (ν++[some [o']]) ν.length 0=some o'; rw [at_app0]; rfl
                  have hA5:∀ (o o' o2:Ob) (ν:Sto),Sto.upd (W++some [o]::(ν++[some [o']])) (μ'.length+(2+(ν.length+1))) 0 o2=W++some [o]::(ν++[some [o2]]):=fun o o' o2 ν=>by
                    rw [show W++some [o]::(ν++[some [o']])=(W++[some [o]]++ν)++[some [o']] by simp,show μ'.length+(2+(ν.length+1))=(W++[some [o]]++ν).length by simp; omega,upd_app0]; simp [Sto.upd]
                  refine AWPC.sto (σ':=W++some [⟨62,3,[m.mark.cs],none⟩]::[]) (by rw [hW]; simp) ?_
                  obtain ⟨G,hG⟩:∃ G:Nat→Mk,G=fun j=>(D.take j).foldl (fun w c=>if decide (¬ c.read.stn=0∨(x.sheet.rates.length:Int) < c.mark.col) then w else c.mark) m.mark:=⟨_,rfl⟩
                  have hG0:G 0=m.mark:=by rw [hG]; rfl
                  have hGs:∀ j,j < D.length→G (j+1)=if decide (¬ (D.getD j nt0).read.stn=0∨(x.sheet.rates.length:Int) < (D.getD j nt0).mark.col) then G j else (D.getD j nt0).mark:=fun j hj=>by
                    rw [hG]; simp only [List.take_add_one,getD_lt nt0 hj,Option.toList_some,List.foldl_append,List.foldl_cons,List.foldl_nil]
                  have hGl:(x.marks.map Mk.cs).getD k []=(G D.length).cs:=by
                    rw [List.getD_eq_getElem?_getD,List.getElem?_map,hQ3.out.1.mrk,hG]; simp only [List.take_length]; rfl
                  clear hG
                  rw [← hG0]
                  have hGs:Hi0 (∀ j,j < D.length→G (j+1)=if decide (¬ (D.getD j nt0).read.stn=0∨(x.sheet.rates.length:Int) < (D.getD j nt0).mark.col) then G j else (D.getD j nt0).mark):=⟨hGs⟩
                  have hW:Hi0 (W=some [⟨37,4,[R.cs],none⟩]::(μ'++[some [⟨68,38,[m.cs],none⟩]])):=⟨hW⟩
                  clear hG0 n3 cD hτ0 hτ1 hτ2
                  refine AWPC.loopE (α:={ p:Nat × Sto // p.1≤D.length }) [20] (fun p=>[(20,n p.1.1)]) (fun p=>W++some [⟨62,3,[(G p.1.1).cs],none⟩]::p.1.2) (fun p=>D.length - p.1.1) ⟨(0,[]),Nat.zero_le _⟩ ?_ rfl ?_
                  · (simp only [zN,zT,zV,zS,zU,vcC,lateX,ex,strp,binA,elems,cells,scalar,eqC,keyA,intsA,lookA,ofVs,mpOf,Nat.reduceBEq,reduceAdd,reduceSub,reduceLT,reduceLeDiff,reduceMul,reduceEqDiff,reduceIte]; try simp)
                  · rintro ⟨⟨j,ν⟩,hj⟩
                    simp only at hj
                    by_cases hj2:j < D.length
                    · have hEj:=hE.out j hj2
                      have hGj:=hGs.out j hj2
                      obtain ⟨d1,d2,d3,d4⟩:=hQ3.out.1.each _ (List.mem_of_getElem? (getD_lt nt0 hj2))
                      have hcl:=hQ3.out.2.2.2.2
                      generalize D.getD j nt0=c at hEj hGj d1 d2 d3 d4
                      have n4:=noteOf_spec l hl0 c.nm
                      rw [d1] at n4
                      simp only [Option.getD_some,Option.isSome_some] at n4
                      have n5:=named_spec R.confl c.nm hcl
                      have e1:(c.ref.clerk=m.clerk)=True:=eq_true (congrArg Nm.clerk d3)
                      have e2:(c.ref.num=m.num)=True:=eq_true (congrArg Nm.num d3)
                      clear d1 d3 hGs hE hcl hQ3
                      by_cases h0:c.read.stn=0
                      · by_cases h1:(x.sheet.rates.length:Int) < c.mark.col
                        · rw [decide_eq_true (d4.2 (.inr h1))] at n5
                          rw [if_pos (decide_eq_true (.inr h1))] at hGj
                          clear d4
                          ((refine Az (And.intro @hA0 (And.intro @hA1 (And.intro @hA2 (And.intro @hA3 (And.intro @hA4 (And.intro @hA5 (And.intro @hWl (And.intro @hxk (And.intro @hEj (And.intro @hDl (And.intro @d2 (And.intro @e1 (And.intro @e2 (And.intro @h0 @h1)))))))))))))) (And.intro @n4 @n5) ?_;repeat' first|exact True.intro|refine Cj.mk ?_ ?_)<;>intros<;>refine hD_ ?_)
                          all_goals try (exfalso; omega)
                          all_goals first | (exfalso; rename_i h; exact absurd h (by decide)) | exact ⟨⟨(j+1,ν++[some [⟨68,38,[c.cs],none⟩]]),hj2⟩,by simp,by simp [hGj],by simp only; omega⟩
                        · have hb:¬ (¬ c.read.stn=0∨(x.sheet.rates.length:Int) < c.mark.col):=fun h=>h.elim (fun h=>h h0) h1
                          rw [decide_eq_false (fun h=>hb (d4.1 h))] at n5
                          rw [if_neg (by rw [decide_eq_true_eq]; exact hb)] at hGj
                          clear d4 hb
                          ((refine Az (And.intro @hA0 (And.intro @hA1 (And.intro @hA2 (And.intro @hA3 (And.intro @hA4 (And.intro @hA5 (And.intro @hWl (And.intro @hxk (And.intro @hEj (And.intro @hDl (And.intro @d2 (And.intro @e1 (And.intro @e2 (And.intro @h0 @h1)))))))))))))) (And.intro @n4 @n5) ?_;repeat' first|exact True.intro|refine Cj.mk ?_ ?_)<;>intros<;>refine hD_ ?_)
                          all_goals try (exfalso; omega)
                          all_goals first | (exfalso; rename_i h; exact absurd h (by decide)) | exact ⟨⟨(j+1,ν++[some [⟨68,38,[c.cs],none⟩]]),hj2⟩,by simp,by simp [hGj],by simp only; omega⟩
                      · rw [decide_eq_true (d4.2 (.inl h0))] at n5
                        rw [if_pos (decide_eq_true (.inl h0))] at hGj
                        clear d4
                        ((refine Az (And.intro @hA0 (And.intro @hA1 (And.intro @hA2 (And.intro @hA3 (And.intro @hA4 (And.intro @hA5 (And.intro @hWl (And.intro @hxk (And.intro @hEj (And.intro @hDl (And.intro @d2 (And.intro @e1 (And.intro @e2 @h0))))))))))))) (And.intro @n4 @n5) ?_;repeat' first|exact True.intro|refine Cj.mk ?_ ?_)<;>intros<;>refine hD_ ?_)
                        all_goals try (exfalso; omega)
                        all_goals first | (exfalso; rename_i h; exact absurd h (by decide)) | exact ⟨⟨(j+1,ν++[some [⟨68,38,[c.cs],none⟩]]),hj2⟩,by simp,by simp [hGj],by simp only; omega⟩
                    · obtain rfl:j=D.length:=by omega
                      clear hGs hE hQ3
                      ((refine Ax (And.intro @hA0 (And.intro @hA1 (And.intro @hA2 (And.intro @hWl (And.intro @hGl @olen))))) ?_;repeat' first|exact True.intro|refine Cj.mk ?_ ?_)<;>intros<;>refine hD_ ?_)
                      all_goals try (exfalso; omega)
                      all_goals exact ⟨⟨(k+1,(μ'++[some [⟨68,38,[m.cs],none⟩]])++some [⟨62,3,[(G D.length).cs],none⟩]::ν),hk2,fun ν'=>by rw [List.append_assoc,List.append_assoc]; exact hτ _⟩,by simp,by rw [hW.out]; rfl,by simp only; omega⟩
                · obtain rfl:k=x.names.length:=by omega
                  clear hQ2 n1
                  ((refine Ax (And.intro @hτ0 (And.intro @hτ1 @hτ2)) ?_;repeat' first|exact True.intro|refine Cj.mk ?_ ?_)<;>intros<;>refine hD_ ?_)
                  all_goals try (exfalso; omega)
                  all_goals exact ⟨⟨(i+1,μ'),hlt⟩,by simp,by simp,by simp only; omega⟩
          · obtain rfl:i=R.sheets.length:=by omega
            ((refine Au ?_;repeat' first|exact True.intro|refine Cj.mk ?_ ?_)<;>intros<;>refine hD_ ?_)
            all_goals try (exfalso; omega)
            all_goals exact Frz.eq rfl (by simp)
      · have hE:foldE b l=(rgr0,askedE b [l]):=by unfold foldE; rw [if_pos ha]
        rw [hE] at F1
        simp only at F1
        generalize askedE b [l]=e at F1 ha
        generalize rgr0=R at F1
        clear hE hb hl
        ((refine Ay (And.intro @awake_spec (And.intro @s1 (And.intro @s2 @F1))) ?_;repeat' first|exact True.intro|refine Cj.mk ?_ ?_)<;>intros<;>refine hD_ ?_)
        all_goals try (exfalso; omega)
        all_goals exact Frz.eq rfl (by simp)
end Go.Proofs.YtolgelipcgcbhaaGreat
