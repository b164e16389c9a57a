/- Part 11 of the texts that the claim rests on: abstract values over the walk, and contracts of functions. -/
import Derived.Test.YtolgelipcgcbhaaGreatBh10
import Derived.Test.YtolgelipcgcbhaaGreatRows
import Derived.ChangeArms
import Derived.DataReads
import Derived.WalkKit
import Derived.ProofKit
import Derived.OpenShut
import Derived.ShutString
import Derived.ChangeOld
import Derived.Below
namespace Go.Abs
set_option linter.unusedVariables false
set_option linter.unusedSimpArgs false
theorem setE_len {b:Bse} {l:List Nt} (h:(setE b l).1=0):l.length≤400:=(setE_ok h).2.1
end Go.Abs
namespace Go.Proofs.YtolgelipcgcbhaaGreat
open Go.Abs
open Nat (reduceAdd reduceSub reduceLT reduceLeDiff reduceMul reduceEqDiff)
set_option linter.unusedVariables false
set_option linter.unusedSimpArgs false
set_option maxHeartbeats 4000000
set_option maxRecDepth 100000
def c35:CF:=⟨2,(jo [jw 0 (.alloc 29 2 [.int .i64 0,.int .i64 0])] [0]
 (jo [jw 1 (.build [.int .i64 0,.int .i64 0] [(0,1,(.c (.int .i64 8))),(1,1,(.c (.int .i64 400)))]),js 2 0 1] [0]
 .ret)),[.c 0 (some 2)]⟩
theorem k35:chkF Tryz.prog Tryz.f35 c35=true:=by kernel_rfl
def c32:CF:=⟨5,(jo [jw 1 (.box true 37 4 (.t 0)),jw 2 (.alloc 37 4 [.slice none 0 0,.slice none 0 0,.slice none 0 0,.slice none 0 0])] [1,2]
 (jo [jf 3 3 1,⟨none,.store 1 (.t 3) (.c (.slice none 0 0)),none⟩] [1,2]
 (jo [jk 4 4 1,js 4 2 4] [2]
 .ret))),[.c 2 (some 4)]⟩
theorem k32:chkF Tryz.prog Tryz.f32 c32=true:=by kernel_rfl
def c30:CF:=⟨18,(jo [jx 3 29 2 1,jb 4 false] [0,3]
 (.seq (jo [jc 5 0] [0,3,5]
 (.block 0 (.loop (.seq (jo [jm 6 5,jm 7 0,je 8 7,jt .lss 9 6 8] [0,3,5,9]
 (.cond (.t 9) .skip
 (.exit 0)))
 (.seq (.block 1 (.seq (.draw [jm 12 0,jm 13 5,ji 14 2 12 13,jk 15 2 14,jk 16 2 3,jw 17 (.eqs false [some .i64,some .i64] (.t 15) (.t 16))] [] [0,3,5,17])
 (.cond (.t 17) (jo [jb 4 true] [4]
 .ret)
 .skip)))
 (.ops [jm 10 5,ju .add 11 10 1,jm 5 11] [0,3,5]))))))
 (jo [jb 4 false] [4]
 .ret))),[.t 4]⟩
theorem k30:chkF Tryz.prog Tryz.f30 c30=true:=by kernel_rfl
def c34:CF:=⟨17,(jo [jb 2 false] [0]
 (.seq (jo [jc 3 0] [0,3]
 (.block 0 (.loop (.seq (jo [jm 4 3,jm 5 0,je 6 5,jt .lss 7 4 6] [0,3,7]
 (.cond (.t 7) .skip
 (.exit 0)))
 (.seq (.block 1 (.seq (.draw [jm 10 0,jm 11 3,ji 12 38 10 11,jf 13 36 12,jk 14 2 13,jy 15 35 [],jw 16 (.eqs false [some .i64,some .i64] (.t 14) (.t 15))] [] [0,3,16])
 (.cond (.t 16) (jo [jb 2 true] [2]
 .ret)
 .skip)))
 (.ops [jm 8 3,ju .add 9 8 1,jm 3 9] [0,3]))))))
 (jo [jb 2 false] [2]
 .ret))),[.t 2]⟩
theorem k34:chkF Tryz.prog Tryz.f34 c34=true:=by kernel_rfl
def c31:CF:=⟨19,(jo [jw 3 (.box true 68 38 (.t 1)),jn 4] [0,3]
 (jo [jy 5 35 [],jw 6 (.field 0 none (.t 5)),jf 7 0 3,js 1 7 6] [0,3]
 (jo [jy 8 35 [],jw 9 (.field 1 none (.t 8)),jf 10 1 3,js 1 10 9] [0,3]
 (jo [jf 11 2 3,⟨none,.store 1 (.t 11) (.c (.int .i64 1099511627776)),none⟩] [0,3]
 (jo [jf 12 3 3,⟨none,.store 1 (.t 12) (.c (.int .i64 10000)),none⟩] [0,3]
 (.seq (.draww [1,3,4,0,2,5,6] [0,1,2] 2 [jm 14 0,jk 16 38 3,jw 17 (.bsl false 68 38 1 z38 [(0,38,(.t 16))])] [jw 13 (.bsl true 68 38 0 [] []),jw 15 (.app 68 38 368 (.t 13) (.t 14)),jw 18 (.app 68 38 368 (.t 15) (.t 17)),jm 4 18] [4])
 .ret)))))),[.t 4]⟩
theorem k31:chkF Tryz.prog Tryz.f31 c31=true:=by kernel_rfl
def lastN:Nm:=⟨8,400⟩
theorem last_spec:Pure Tryz.prog 35 [] (.agg lastN.cs):=by
  refine Pure.of_body Tryz.call35 Tryz.func35 k35 (Nat.le_of_ble_eq_true rfl) ?_
  unfold c35
  ((refine Au ?_;repeat' first|exact True.intro|refine Cj.mk ?_ ?_)<;>intros<;>refine hD_ ?_)
  all_goals exact Frz.eq rfl (by simp)
theorem bare_spec (r:Rgr):Pure Tryz.prog 32 [.agg r.cs] (.agg { r with confl:=[] }.cs):=by
  refine Pure.of_body Tryz.call32 Tryz.func32 k32 (Nat.le_of_ble_eq_true rfl) ?_
  unfold c32
  ((refine Au ?_;repeat' first|exact True.intro|refine Cj.mk ?_ ?_)<;>intros<;>refine hD_ ?_)
  all_goals exact Frz.aggL ⟨Frz.eq rfl (by simp),Frz.eq rfl (by simp),Frz.eq rfl (by simp),Frz.nil0,trivial⟩
theorem named_spec (l:List Nm) (m:Nm) (hl:l.length < 9223372036854775808):Pure Tryz.prog 30 [nmS l,.agg m.cs] (bl (decide (m∈l))):=by
  refine Pure.of_body Tryz.call30 Tryz.func30 k30 (Nat.le_of_ble_eq_true rfl) ?_
  unfold c30
  ((refine Au ?_;repeat' first|exact True.intro|refine Cj.mk ?_ ?_)<;>intros<;>refine hD_ ?_)
  refine AWPC.loopI 5 l.length (fun i=>m ∉ l.take i) (by simp) ?_ ?_
  · (simp only [zN,zT,zV,zS,zU,vcC,lateX,ex,strp,binA,elems,cells,scalar,eqC,keyA,intsA,lookA,ofVs,mpOf,Nat.reduceBEq,reduceAdd,reduceSub,reduceLT,reduceLeDiff,reduceMul,reduceEqDiff,reduceIte]; try simp)
  · intro i hi hI
    by_cases hlt:i < l.length
    · have hx:(l.map Nm.cs).getD i []=Nm.cs (l.getD i nm0):=row _ hlt
      have hg:=getD_lt nm0 hlt
      have hN:m≠l.getD i nm0→m ∉ l.take (i+1):=fun h=>by
        rw [List.take_add_one,hg,Option.toList_some,List.mem_append,List.mem_singleton]; rintro (h' | h')
        · exact hI h'
        · exact h h'
      have hY:m=l.getD i nm0→m∈l:=fun h=>h ▸ List.mem_of_getElem? hg
      generalize l.getD i nm0=x at hx hN hY
      have he:m=x↔x.clerk=m.clerk∧x.num=m.num:=by
        cases m; cases x; simp; constructor <;> (intro h; simp_all)
      clear hg
      ((refine Ax @hx ?_;repeat' first|exact True.intro|refine Cj.mk ?_ ?_)<;>intros<;>refine hD_ ?_)
      all_goals try (exfalso; omega)
      · rename_i h
        rw [decide_eq_true (hY (he.2 h))]; exact Frz.eq rfl (by simp)
      · rename_i h
        exact ⟨⟨i+1,hlt,hN fun e=>h (he.1 e)⟩,by simp,by simp only; omega⟩
    · obtain rfl:i=l.length:=by omega
      rw [List.take_length] at hI
      rw [decide_eq_false hI]
      ((refine Au ?_;repeat' first|exact True.intro|refine Cj.mk ?_ ?_)<;>intros<;>refine hD_ ?_)
      all_goals try (exfalso; omega)
      exact Frz.eq rfl (by simp)
theorem referred_spec (l:List Nt) (hl:l.length < 9223372036854775808):Pure Tryz.prog 34 [ntS l] (bl (l.any fun a=>decide (a.ref=lastN))):=by
  refine Pure.of_body Tryz.call34 Tryz.func34 k34 (Nat.le_of_ble_eq_true rfl) ?_
  unfold c34
  ((refine Au ?_;repeat' first|exact True.intro|refine Cj.mk ?_ ?_)<;>intros<;>refine hD_ ?_)
  refine AWPC.loopI 3 l.length (fun i=>((l.take i).any fun a=>decide (a.ref=lastN))=false) (by simp) ?_ ?_
  · (simp only [zN,zT,zV,zS,zU,vcC,lateX,ex,strp,binA,elems,cells,scalar,eqC,keyA,intsA,lookA,ofVs,mpOf,Nat.reduceBEq,reduceAdd,reduceSub,reduceLT,reduceLeDiff,reduceMul,reduceEqDiff,reduceIte]; try simp)
  · intro i hi hI
    by_cases hlt:i < l.length
    · have hx:(l.map Nt.cs).getD i []=Nt.cs (l.getD i nt0):=row _ hlt
      have hg:=getD_lt nt0 hlt
      have hN:(l.getD i nt0).ref≠lastN→((l.take (i+1)).any fun a=>decide (a.ref=lastN))=false:=fun h=>by
        rw [List.take_add_one,hg,List.any_append,hI,Option.toList_some,List.any_cons,List.any_nil,decide_eq_false h]; rfl
      have hY:(l.getD i nt0).ref=lastN→(l.any fun a=>decide (a.ref=lastN))=true:=fun h=>List.any_eq_true.2 ⟨_,List.mem_of_getElem? hg,decide_eq_true h⟩
      generalize l.getD i nt0=x at hx hN hY
      have he:x.ref=lastN↔x.ref.clerk=8∧x.ref.num=400:=by
        obtain ⟨_,_,_,_,_,_,_,_,_,_,_,⟨_,_⟩⟩:=x
        simp [lastN]
      clear hg
      have hl:=last_spec
      ((refine Az @hx @hl ?_;repeat' first|exact True.intro|refine Cj.mk ?_ ?_)<;>intros<;>refine hD_ ?_)
      all_goals try (exfalso; omega)
      · rename_i h
        rw [hY (he.2 h)]; exact Frz.eq rfl (by simp)
      · rename_i h
        exact ⟨⟨i+1,hlt,hN fun e=>h (he.1 e)⟩,by simp,by simp only; omega⟩
    · obtain rfl:i=l.length:=by omega
      rw [List.take_length] at hI
      rw [hI]
      ((refine Au ?_;repeat' first|exact True.intro|refine Cj.mk ?_ ?_)<;>intros<;>refine hD_ ?_)
      all_goals try (exfalso; omega)
      exact Frz.eq rfl (by simp)
def behN (a:Nt):Nt:={ a with clerk:=8,num:=400,clock:=1099511627776,day:=10000 }
theorem behind_spec (l:List Nt) (a:Nt) (hl:l.length < 4294967296):Pure Tryz.prog 31 [ntS l,.agg a.cs] (ntS (l++[behN a])):=by
  refine Pure.of_body Tryz.call31 Tryz.func31 k31 (Nat.le_of_ble_eq_true rfl) ?_
  unfold c31
  have h1:Pure Tryz.prog 35 [] (.agg [n 8,n 400]):=last_spec
  obtain ⟨t,hc,hc',ht⟩:∃ t:List AV,a.cs=n a.clerk::n a.num::n a.clock::n a.day::t∧(behN a).cs=n 8::n 400::n 1099511627776::n 10000::t∧t.length=34:=⟨_,rfl,rfl,rfl⟩
  have htt:t.take 34=t:=List.take_of_length_le (by omega)
  have hz:List.drop 38 (vs z38)=[]:=rfl
  have hv:ntS (l++[behN a])=.sl 38 (l.map Nt.cs++[n 8::n 400::n 1099511627776::n 10000::t]):=by rw [← hc']; simp
  have hr:∀ e,e < l.length→((l.map Nt.cs).getD e []).length=38:=rowsL (cs:=Nt.cs) (k:=38) (fun a=>rfl) l
  rw [hc,hv]
  clear hc
  (repeat' ((first
 | refine vn rfl ?_
 | simp (disch:=omega) only [wr64,Int.zero_sub]
 | refine bo (fun _=>?_) fun _=>?_
 | refine im fun _=>?_
 | ((repeat refine si ?_); (first | ((first | refine .inl ⟨_,_,_,_,rfl,fun _=>pu h1,?_⟩ | refine ⟨_,_,_,_,rfl,fun _=>pu h1,?_⟩); (first | refine o1 ?_ | refine o2 ?_ | refine o3 ?_ | refine o4 ?_)) | refine .inl ⟨_,_,_,_,rfl,pu h1,?_⟩))
 | refine cF ?_
 | refine om ?_
 | refine an ?_
 | fail) <;> try simp only [zN,zT,zV,zS,zU,vcC,lateX,ex,strp,binA,elems,cells,scalar,eqC,keyA,intsA,lookA,ofVs,mpOf,Nat.reduceBEq,reduceAdd,reduceSub,reduceLT,reduceLeDiff,reduceMul,reduceEqDiff,reduceIte,htt,ht,hz,List.drop_succ_cons,List.drop_zero,List.append_nil,List.take_succ_cons,List.length_map]))
  refine ⟨⟨hr,by omega⟩,by omega,?_⟩
  ((refine Au ?_;repeat' first|exact True.intro|refine Cj.mk ?_ ?_)<;>intros<;>refine hD_ ?_)
  rw [← hv]
  refine Frz.ownL (T:=68) (cs:=Nt.cs) ?_ (by simp) (by decide) (fun a=>Nt.pc a) (fun a=>rfl)
  rw [List.map_append,List.map_cons,List.map_nil,hc']; rfl
theorem foldSz {b:Bse} {l:List Nt} (hl:setSz l) (ok:(setE b l).1=0):rgrSz (foldT b l):=by
  have hn:=setE_nodup ok
  have hl4:=setE_len ok
  have hS:=standT_len l
  have hSm:∀ a∈standT l,a∈l:=fun a ha=>(mem_standT.1 ha).1
  rw [foldT_ref b hn]
  refine ⟨⟨?_,fun f hf=>?_⟩,?_,?_,?_⟩
  · show (shsR (standT l) (standT l)).length < _
    rw [shsR_ent,List.length_map]
    have h1:=(entN_sub (standT l) (standT l)).length_le
    have h2:=List.length_filter_le (kd 1) (standT l)
    omega
  · have hf':f∈(entN (standT l) (standT l)).map (fld (standT l)):=by rw [← shsR_ent]; exact hf
    obtain ⟨a,ha,rfl⟩:=List.mem_map.1 hf'
    have h1:=mks_len (standT_nodup hn) a.nm
    refine ⟨hl.2 a (hSm a (entN_mem ha).1),?_,?_⟩
    · show (List.map _ _).length < _
      rw [List.length_map]; omega
    · show (List.map _ _).length < _
      rw [List.length_map]; omega
  · show (List.map _ _).length < _
    rw [List.length_map]
    have h2:=List.length_filter_le (kd 3) (standT l)
    omega
  · have h1:=(SameS.stsR (setE_ok ok).1.1 (standT l)).ok
    obtain ⟨g1,g2⟩:=stns_small h1
    exact ⟨by show (stsR b.stns (standT l)).length < _; omega,fun s hs=>by have:=g2 s hs; omega⟩
  · show (List.map _ _).length < _
    rw [List.length_map]
    have h2:=List.length_filter_le (badR b l) l
    omega
def c4:CF:=⟨130,(jo [jx 4 26 6 0,jb 8 false] [1,2,3,4]
 (jo [jy 22 18 [],jm 9 22] [1,2,3,4,9]
 (.seq (jo [jk 23 6 4,jy 24 19 [23],jv 25 24,jm 26 25,jd 26 (jm 27 1),jd 26 (jy 28 20 [27]),jd 26 (jv 29 28),jq 30 26 29] [1,2,3,4,9,30]
 (.cond (.t 30) (jo [jm 31 9,jm 8 31] [8]
 .ret)
 .skip))
 (jo [jk 33 6 4,jm 34 1,jy 35 21 [33,34],jm 32 35,jz 36 0 32,jz 37 1 32,jw 10 (.alloc 37 4 [.slice none 0 0,.slice none 0 0,.slice none 0 0,.slice none 0 0]),js 4 10 36,jm 11 37] [1,2,3,4,9,10,11]
 (jo [jk 39 6 4,jm 40 1,jw 41 (.call (.f 23) [(.t 39),(.t 40),(.c (.int .i64 10000)),(.c (.int .i64 1099511627776))]),jm 38 41,jz 42 0 38,jz 43 1 38,jw 12 (.alloc 37 4 [.slice none 0 0,.slice none 0 0,.slice none 0 0,.slice none 0 0]),js 4 12 42,jm 13 43] [1,2,3,4,9,10,11,12,13]
 (.seq (jo [jm 44 11,jm 45 13,jt .neq 46 44 45,jm 47 46,jd 47 (jk 48 4 10),jd 47 (jk 49 4 12),jd 47 (jy 50 27 [48,49]),jd 47 (jv 51 50),jq 52 47 51] [1,2,3,4,9,11,52]
 (.cond (.t 52) (jo [jb 8 false] [8]
 .ret)
 .skip))
 (.seq (jo [jm 53 11,ju .neq 54 53 0] [1,2,3,4,9,54]
 (.cond (.t 54) (jo [jm 55 9,jm 8 55] [8]
 .ret)
 .skip))
 (jo [jn 14] [1,2,3,4,9,14]
 (.seq (jo [jc 15 0] [1,2,3,4,9,14,15]
 (.block 0 (.loop (.seq (jo [jm 56 15,jm 57 1,je 58 57,jt .lss 59 56 58] [1,2,3,4,9,14,15,59]
 (.cond (.t 59) .skip
 (.exit 0)))
 (.seq (.block 1 (jo [jm 62 1,jm 63 15,ji 64 38 62 63,jf 65 3 64,jl 66 65,jm 67 2,jt .leq 68 66 67,jm 69 68,ja 69 (jm 70 1),ja 69 (jm 71 15),ja 69 (ji 72 38 70 71),ja 69 (jf 73 2 72),ja 69 (jl 74 73),ja 69 (jm 75 3),ja 69 (jt .leq 76 74 75),jp 77 69 76] [1,2,3,4,9,14,15,77]
 (.cond (.t 77) (.ops [jm 78 14,jm 79 1,jm 80 15,ji 81 38 79 80,jk 82 38 81,jw 83 (.bsl false 68 38 1 z38 [(0,38,(.t 82))]),jw 84 (.app 68 38 368 (.t 78) (.t 83)),jm 14 84] [1,2,3,4,9,14,15])
 .skip)))
 (.ops [jm 60 15,ju .add 61 60 1,jm 15 61] [1,2,3,4,9,14,15]))))))
 (jo [jk 86 6 4,jm 87 1,jm 88 2,jm 89 3,jy 90 23 [86,87,88,89],jm 85 90,jz 91 0 85,jz 92 1 85,jw 16 (.alloc 37 4 [.slice none 0 0,.slice none 0 0,.slice none 0 0,.slice none 0 0]),js 4 16 91,jm 17 92] [2,3,4,9,14,16,17]
 (jo [jk 94 6 4,jm 95 14,jm 96 2,jm 97 3,jy 98 23 [94,95,96,97],jm 93 98,jz 99 0 93,jz 100 1 93,jw 18 (.alloc 37 4 [.slice none 0 0,.slice none 0 0,.slice none 0 0,.slice none 0 0]),js 4 18 99,jm 19 100] [4,9,14,16,17,18,19]
 (jo [jk 102 6 4,jm 103 14,jy 104 21 [102,103],jm 101 104,jz 105 0 101,jz 106 1 101,jw 20 (.alloc 37 4 [.slice none 0 0,.slice none 0 0,.slice none 0 0,.slice none 0 0]),js 4 20 105,jm 21 106] [9,16,17,18,19,20,21]
 (jo [jm 107 9,jm 108 107,ja 108 (jm 109 17),ja 108 (ju .eql 110 109 0),jp 111 108 110,jm 112 111,ja 112 (jm 113 19),ja 112 (ju .eql 114 113 0),jp 115 112 114,jm 116 115,ja 116 (jm 117 21),ja 116 (ju .eql 118 117 0),jp 119 116 118,jm 120 119,ja 120 (jk 121 4 16),ja 120 (jk 122 4 18),ja 120 (jy 123 27 [121,122]),jp 124 120 123,jm 125 124,ja 125 (jk 126 4 16),ja 125 (jk 127 4 20),ja 125 (jy 128 27 [126,127]),jp 129 125 128,jm 8 129] [8]
 .ret))))))))))))),[.t 8]⟩
theorem k4:chkF Tryz.prog Tryz.f4 c4=true:=by kernel_rfl
theorem rgr0Sz:rgrSz rgr0:=⟨⟨by decide,fun f h=>by cases h⟩,by decide,⟨by decide,fun f h=>by cases h⟩,by decide⟩
theorem foldESz {b:Bse} {l:List Nt} (hl:setSz l):rgrSz (foldE b l).1:=by
  unfold foldE
  by_cases h:askedE b [l]≠0
  · rw [if_pos h]; exact rgr0Sz
  · rw [if_neg h]; exact foldSz hl (askedE_one.1 (by omega))
theorem setSz.sub {l m:List Nt} (hl:setSz l) (hm:m.Sublist l):setSz m:=⟨Nat.lt_of_le_of_lt hm.length_le hl.1,fun a ha=>hl.2 a (hm.subset ha)⟩
theorem Known_spec (b:Bse) (l:List Nt) (day clock:Int) (hb:bseSz b) (hl:setSz l):Pure Tryz.prog 4 [.agg b.cs,ntS l,n day,n clock] (bl true):=by
  refine Pure.of_body Tryz.call4 Tryz.func4 k4 (Nat.le_of_ble_eq_true rfl) ?_
  unfold c4
  have s1:=small_spec b hb
  have s2:=few_spec l hl.1
  generalize smallB b=c1 at s1
  generalize fewB l=c2 at s2
  have F1:=Fold_spec b hb l hl
  have F2:=AsOf_spec b hb l hl 10000 1099511627776
  rw [asof_late] at F2
  have q1:=sameRgr (foldE b l).1 (foldE b l).1 (foldESz hl) (foldESz hl)
  rw [decide_eq_true rfl] at q1
  cases c1 with
  | false =>
    clear F1 F2 q1
    ((refine Ay (And.intro @awake_spec (And.intro @s1 @s2)) ?_;repeat' first|exact True.intro|refine Cj.mk ?_ ?_)<;>intros<;>refine hD_ ?_)
    all_goals try (exfalso; omega)
    all_goals exact Frz.eq rfl (by simp)
  | true =>
    cases c2 with
    | false =>
      clear F1 F2 q1
      ((refine Ay (And.intro @awake_spec (And.intro @s1 @s2)) ?_;repeat' first|exact True.intro|refine Cj.mk ?_ ?_)<;>intros<;>refine hD_ ?_)
      all_goals try (exfalso; omega)
      all_goals exact Frz.eq rfl (by simp)
    | true =>
      by_cases ha:askedE b [l]=0
      · obtain ⟨e1,e2,e3⟩:=asof_early ha day clock
        have hE:foldE b l=(foldT b l,0):=by unfold foldE; rw [if_neg (by omega)]
        rw [hE] at F1 F2 q1
        simp only at F1 F2 q1
        obtain ⟨E,hEE⟩:∃ E,E=l.filter fun a=>decide (a.day≤day∧a.clock≤clock):=⟨_,rfl⟩
        rw [← hEE] at e1 e2 e3
        have hsub:E.Sublist l:=by rw [hEE]; exact List.filter_sublist
        have hEs:=hl.sub hsub
        have F3:=AsOf_spec b hb l hl day clock
        rw [e1] at F3
        have F4:=AsOf_spec b hb E hEs day clock
        rw [e2] at F4
        have F5:=Fold_spec b hb E hEs
        rw [e3] at F5
        have zE:=foldSz hEs (setE_sub (askedE_one.1 ha) hsub)
        have q2:=sameRgr (foldT b E) (foldT b E) zE zE
        rw [decide_eq_true rfl] at q2
        simp only at F3 F4 F5
        have hl4:=setE_len (askedE_one.1 ha)
        generalize foldT b l=R at F1 F2 q1
        generalize foldT b E=T at F3 F4 F5 q2
        clear e1 e2 e3 hE zE hb hl
        ((refine Ay (And.intro @awake_spec (And.intro @s1 (And.intro @s2 (And.intro @F1 (And.intro @F2 @q1))))) ?_;repeat' first|exact True.intro|refine Cj.mk ?_ ?_)<;>intros<;>refine hD_ ?_)
        all_goals try (exfalso; omega)
        refine AWPC.own0 68 38 14 rfl ?_
        refine AWPC.loopE (α:={ x:Nat × List Nt × Sto // x.1≤l.length∧x.2.1=(l.take x.1).filter fun a=>decide (a.day≤day∧a.clock≤clock) }) [14,15] (fun x=>[(14,.own 2 0 x.1.2.1.length),(15,n x.1.1)])
          (fun x=>some [⟨37,4,[R.cs],none⟩]::some [⟨37,4,[R.cs],none⟩]::some [⟨68,38,x.1.2.1.map Nt.cs,none⟩]::x.1.2.2) (fun x=>l.length - x.1.1) ⟨(0,[],[]),Nat.zero_le _,by simp⟩ ?_ rfl ?_
        · (simp only [zN,zT,zV,zS,zU,vcC,lateX,ex,strp,binA,elems,cells,scalar,eqC,keyA,intsA,lookA,ofVs,mpOf,Nat.reduceBEq,reduceAdd,reduceSub,reduceLT,reduceLeDiff,reduceMul,reduceEqDiff,reduceIte]; try simp)
        · rintro ⟨⟨i,W,μ⟩,hi,hW⟩
          simp only at hi hW
          have hWl:W.length≤i:=by rw [hW]; exact Nat.le_trans (List.length_filter_le _ _) (by rw [List.length_take]; omega)
          by_cases hlt:i < l.length
          · have hx:(l.map Nt.cs).getD i []=Nt.cs (l.getD i nt0):=row nt0 hlt
            have hN:(l.take (i+1)).filter (fun a=>decide (a.day≤day∧a.clock≤clock))=if decide ((l.getD i nt0).day≤day∧(l.getD i nt0).clock≤clock) then W++[l.getD i nt0] else W:=by rw [hW]; exact filter_next (getD_lt nt0 hlt)
            generalize l.getD i nt0=x at hx hN
            by_cases hq:x.day≤day∧x.clock≤clock
            · rw [if_pos (decide_eq_true hq)] at hN
              ((refine Ax @hx ?_;repeat' first|exact True.intro|refine Cj.mk ?_ ?_)<;>intros<;>refine hD_ ?_)
              all_goals try (exfalso; omega)
              exact ⟨⟨(i+1,W++[x],μ),hlt,hN.symm⟩,by simp,by simp,by simp only; omega⟩
            · rw [if_neg (by simpa using hq)] at hN
              ((refine Ax @hx ?_;repeat' first|exact True.intro|refine Cj.mk ?_ ?_)<;>intros<;>refine hD_ ?_)
              all_goals try (exfalso; omega)
              exact ⟨⟨(i+1,W,μ),hlt,hN.symm⟩,by simp,by simp,by simp only; omega⟩
          · obtain rfl:i=l.length:=by omega
            rw [List.take_length,← hEE] at hW
            subst hW
            clear hEE hsub hEs
            ((first
 | refine vn rfl ?_
 | simp (disch:=omega) only [wr64,Int.zero_sub]
 | refine bo (fun _=>?_) fun _=>?_
 | refine im fun _=>?_
 | refine cF ?_
 | refine om ?_
 | refine an ?_
 | fail) <;> try simp only [zN, zT, zV, zS, zU, vcC, lateX, ex, strp, binA, elems, cells, scalar, eqC, keyA, intsA, lookA, ofVs, mpOf, Nat.reduceBEq, reduceAdd, reduceSub, reduceLT, reduceLeDiff, reduceMul, reduceEqDiff, reduceIte])
            ((first
 | refine vn rfl ?_
 | simp (disch:=omega) only [wr64,Int.zero_sub]
 | refine bo (fun _=>?_) fun _=>?_
 | refine im fun _=>?_
 | refine cF ?_
 | refine om ?_
 | refine an ?_
 | fail) <;> try simp only [zN, zT, zV, zS, zU, vcC, lateX, ex, strp, binA, elems, cells, scalar, eqC, keyA, intsA, lookA, ofVs, mpOf, Nat.reduceBEq, reduceAdd, reduceSub, reduceLT, reduceLeDiff, reduceMul, reduceEqDiff, reduceIte])
            refine AWPC.freeze1 (t:=14) (f:=2) rfl rfl (by simp) (by simp) ?_
            ((refine Ay (And.intro @F3 (And.intro @F4 (And.intro @F5 @q2))) ?_;repeat' first|exact True.intro|refine Cj.mk ?_ ?_)<;>intros<;>refine hD_ ?_)
            all_goals try (exfalso; omega)
            all_goals exact Frz.eq rfl (by simp)
      · have hE:foldE b l=(rgr0,askedE b [l]):=by unfold foldE; rw [if_pos ha]
        rw [hE] at F1 F2 q1
        simp only at F1 F2 q1
        generalize askedE b [l]=e at F1 F2 ha
        generalize rgr0=R at F1 F2 q1
        clear hE hb hl
        ((refine Ay (And.intro @awake_spec (And.intro @s1 (And.intro @s2 (And.intro @F1 (And.intro @F2 @q1))))) ?_;repeat' first|exact True.intro|refine Cj.mk ?_ ?_)<;>intros<;>refine hD_ ?_)
        all_goals try (exfalso; omega)
        all_goals exact Frz.eq rfl (by simp)
end Go.Proofs.YtolgelipcgcbhaaGreat
namespace Go.Abs
open Go
set_option linter.unusedVariables false
set_option linter.unusedSimpArgs false
structure Opens (P:Program) (t:TypeId) (α:Type) (row:α→List AV) (Pr:α→Prop):Prop where
  go:∀ {H:Type} (enc:TypeId × Value→H) (w:World) (base:Nat) (sp:Nat→Bool) (held:Bool) (fuel:Nat) (cs:List Value) (x:DataW H × List MemPlace),
    DataW.trod enc P w base sp held fuel t cs=some x →
    ∃ a:α,Pr a∧cs.length=(row a).length∧∀ i,i < cs.length→(cs.getD i undef).oneCell'=true∧RV w (fun _=>False) nob [] ((row a).getD i .any) (cs.getD i undef)
variable {P:Program}
theorem Opens.to {t:TypeId} {α β:Type} {row:α→List AV} {row':β→List AV} {Pr:α→Prop} {Pr':β→Prop} (h:Opens P t α row Pr) (f:α→β) (hr:∀ a,row' (f a)=row a) (hp:∀ a,Pr a→Pr' (f a)):Opens P t β row' Pr' :=
  ⟨fun enc w base sp held fuel cs x hx =>
    let ⟨a,h1,h2,h3⟩:=h.go enc w base sp held fuel cs x hx
    ⟨f a,hp a h1,by rw [hr]; exact h2,fun i hi=>by rw [hr]; exact h3 i hi⟩⟩
theorem opens_int {t:TypeId} {k:IntKind} (ht:P.underlying t=some (.int k)):Opens P t Int (fun z=>[.v (.int k z)]) (fun z=>(Lit.int k z).wf=true):=by
  constructor
  intro H enc w base sp held fuel cs x hx
  cases fuel with
  | zero=>simp [DataW.trod] at hx
  | succ m =>
    unfold DataW.trod at hx
    rw [ht] at hx
    split at hx <;> try (simp_all; done)
    rename_i k0 k' z heq
    simp only [Option.some.injEq,TypeDesc.int.injEq] at heq
    split at hx
    · rename_i hk
      obtain ⟨rfl,hw⟩:=hk
      subst heq
      refine ⟨z,hw,rfl,fun i hi=>?_⟩
      obtain rfl:i=0:=by simpa using hi
      exact ⟨rfl,.v _⟩
    · cases hx
theorem opens_slice {t e:TypeId} {k:Nat} {α:Type} {row:α→List AV} {Pr:α→Prop} (ht:P.underlying t=some (.slice e)) (hk:P.cellsOf e=k) (hk0:k≠0) (h:Opens P e α row Pr) (hl:∀ a,(row a).length=k) :
    Opens P t (List α) (fun l=>[.sl k (l.map row)]) (fun l=>l.length < 9223372036854775808∧∀ a∈l,Pr a):=by
  constructor
  intro H enc w base sp held fuel cs x hx
  rcases DataW.trod_slice ht hx with ⟨rfl,_⟩ | ⟨a,len,cap,elems,rest,m,rfl,rfl,rfl,hb,hlc,hcap,hlen,hel,hsp,hns⟩
  · refine ⟨[],⟨by simp,fun a ha=>absurd ha (List.not_mem_nil)⟩,rfl,fun i hi=>?_⟩
    obtain rfl:i=0:=by simpa using hi
    exact ⟨rfl,.slnil k⟩
  · have hlen2:len < 9223372036854775808:=by unfold maxLen at hcap; omega
    have each:∀ i,i < len→∃ (b:α) (c1:List Value),Pr b∧c1.length=k∧w.cells? base (a.add (i * k)) k=some c1∧∀ j,j < k→(c1.getD j undef).oneCell'=true∧RV w (fun _=>False) nob [] ((row b).getD j .any) (c1.getD j undef):=by
      intro i hi
      have h1:=hel i hi
      rw [hk,List.getElem?_eq_getElem (by omega)] at h1
      simp only [Option.bind_eq_some_iff] at h1
      obtain ⟨c1,hc1,hy⟩:=h1
      obtain ⟨b,hp,hlb,hr⟩:=h.go enc w base sp held m c1 _ hy
      have hl1:=(World.cells?_some hc1).2.1
      exact ⟨b,c1,hp,hl1,hc1,fun j hj=>hr j (by omega)⟩
    by_cases h0:len=0
    · subst h0
      refine ⟨[],⟨by simp,fun a ha=>absurd ha (List.not_mem_nil)⟩,rfl,fun i hi=>?_⟩
      obtain rfl:i=0:=by simpa using hi
      exact ⟨rfl,.slemp k a cap⟩
    ·
      have hspot:a.spot=none:=by
        obtain ⟨b,c1,_,hl1,hc1,_⟩:=each 0 (by omega)
        have h2:=(World.cells?_some hc1).2.2 0 (by omega)
        rw [List.getElem?_eq_getElem (by omega)] at h2
        have e:(a.add (0 * k)).add 0=a:=by simp [Addr.add]
        rw [e] at h2
        unfold World.cell? at h2
        split at h2
        · split at h2
          · cases h2
          · rename_i hs; simpa using hs
        · cases h2
      obtain ⟨bl,off,spot⟩:=a
      simp only at hspot
      subst hspot
      have hadd:∀ i j,((⟨bl,off,none⟩:Addr).add (i * k)).add j=⟨bl,off+i * k+j,none⟩:=by
        intro i j
        simp only [Addr.add]
        split <;> split <;> simp_all <;> omega
      let B:Nat→α:=fun i=>if hi:i < len then Classical.choose (each i hi) else Classical.choose (each 0 (by omega))
      have hB:∀ i,i < len→∃ c1:List Value,Pr (B i)∧c1.length=k∧w.cells? base ((⟨bl,off,none⟩:Addr).add (i * k)) k=some c1∧∀ j,j < k→(c1.getD j undef).oneCell'=true∧RV w (fun _=>False) nob [] ((row (B i)).getD j .any) (c1.getD j undef):=by
        intro i hi
        have:=Classical.choose_spec (each i hi)
        simp only [B,hi,dif_pos]
        exact this
      have hcell:∀ i j,i < len→j < k→w.cell? ⟨bl,off+i * k+j,none⟩=some ((w.cell? ⟨bl,off+i * k+j,none⟩).getD undef)∧((w.cell? ⟨bl,off+i * k+j,none⟩).getD undef).oneCell'=true ∧
          RV w (fun _=>False) nob [] ((row (B i)).getD j .any) ((w.cell? ⟨bl,off+i * k+j,none⟩).getD undef):=by
        intro i j hi hj
        obtain ⟨c1,_,hl1,hc1,hr⟩:=hB i hi
        have h2:=(World.cells?_some hc1).2.2 j hj
        rw [hadd,List.getElem?_eq_getElem (by omega)] at h2
        rw [h2]
        have h3:=hr j hj
        rw [List.getD_eq_getElem?_getD,List.getElem?_eq_getElem (show j < c1.length by omega)] at h3
        exact ⟨rfl,h3⟩
      refine ⟨(List.range len).map B,⟨by simpa using hlen2,fun b hb=>?_⟩,rfl,fun i hi=>?_⟩
      · obtain ⟨i,hi,rfl⟩:=List.mem_map.1 hb
        obtain ⟨c1,hp,_⟩:=hB i (List.mem_range.1 hi)
        exact hp
      · obtain rfl:i=0:=by simpa using hi
        refine ⟨rfl,?_⟩
        have hget:∀ e,e < len→(((List.range len).map B).map row).getD e []=row (B e):=fun e he=>by simp [List.getD_eq_getElem?_getD,he]
        have hlm:(((List.range len).map B).map row).length=len:=by simp
        have:=RV.sl (w:=w) (X:=fun _=>False) (β:=nob) (σ:=[]) k (((List.range len).map B).map row) bl off cap (fun i j=>(w.cell? ⟨bl,off+i * k+j,none⟩).getD undef) (by rw [hlm]; exact hlc)
          (fun e he=>by rw [hlm] at he; rw [hget e he]; exact hl _) (fun e he j hj=>by rw [hlm] at he; exact (hcell e j he hj).1) (fun e j he hj hx=>hx)
          (fun e j he hj=>by rw [hlm] at he; exact (hcell e j he hj).2.1) (fun e j he hj=>by rw [hlm] at he; rw [hget e he]; exact (hcell e j he hj).2.2)
        rw [hlm] at this
        exact this
structure OpensF (P:Program) (fs:List Field) (off:Nat) (α:Type) (row:α→List AV) (Pr:α→Prop):Prop where
  go:∀ {H:Type} (enc:TypeId × Value→H) (w:World) (base:Nat) (sp:Nat→Bool) (held:Bool) (fuel:Nat) (cs:List Value) (xs:List (DataW H × List MemPlace)),
    (fs.mapM fun f=>DataW.trod enc P w base sp held fuel f.type ((cs.drop f.offset).take (P.cellsOf f.type)))=some xs →
    ∃ a:α,Pr a∧∀ i,i < (row a).length→off+i < cs.length∧(cs.getD (off+i) undef).oneCell'=true∧RV w (fun _=>False) nob [] ((row a).getD i .any) (cs.getD (off+i) undef)
theorem opensF_nil (off:Nat):OpensF P [] off Unit (fun _=>[]) (fun _=>True) :=
  ⟨fun enc w base sp held fuel cs xs _=>⟨(),trivial,fun i hi=>absurd hi (Nat.not_lt_zero _)⟩⟩
theorem opensF_cons {f:Field} {fs:List Field} {off k:Nat} {α β:Type} {row:α→List AV} {rows:β→List AV} {Pr:α→Prop} {Prs:β→Prop} (ho:f.offset=off) (hk:P.cellsOf f.type=k) (h:Opens P f.type α row Pr)
    (hl:∀ a,(row a).length=k) (hs:OpensF P fs (off+k) β rows Prs):OpensF P (f::fs) off (α × β) (fun p=>row p.1++rows p.2) (fun p=>Pr p.1∧Prs p.2):=by
  constructor
  intro H enc w base sp held fuel cs xs hx
  rw [List.mapM_cons] at hx
  simp only [Option.bind_eq_bind,Option.bind_eq_some_iff] at hx
  obtain ⟨y,hy,ys,hys,_⟩:=hx
  rw [ho,hk] at hy
  obtain ⟨a,hp,hla,hr⟩:=h.go enc w base sp held fuel _ _ hy
  obtain ⟨b,hq,hr'⟩:=hs.go enc w base sp held fuel cs ys hys
  rw [hl] at hla
  have hlen:off+k≤cs.length∨k=0:=by simp at hla; omega
  refine ⟨(a,b),⟨hp,hq⟩,fun i hi=>?_⟩
  by_cases h1:i < k
  · have hi':i < ((cs.drop off).take k).length:=by omega
    obtain ⟨g1,g2⟩:=hr i hi'
    have e:((cs.drop off).take k).getD i undef=cs.getD (off+i) undef:=by
      simp only [List.getD_eq_getElem?_getD,List.getElem?_take,h1,if_true,List.getElem?_drop]
    rw [e] at g1 g2
    refine ⟨by omega,g1,?_⟩
    rw [getD_append,if_pos (by rw [hl]; exact h1)]
    exact g2
  · have:=hr' (i - k) (by simp [hl] at hi; omega)
    rw [show off+k+(i - k)=off+i by omega] at this
    refine ⟨this.1,this.2.1,?_⟩
    rw [getD_append,if_neg (by rw [hl]; omega),hl]
    exact this.2.2
theorem opens_struct {t:TypeId} {fs:Array Field} {k:Nat} {α:Type} {row:α→List AV} {Pr:α→Prop} (ht:P.underlying t=some (.struct fs)) (hk:P.cellsOf t=k) (hl:∀ a,(row a).length=k) (h:OpensF P fs.toList 0 α row Pr) :
    Opens P t α row Pr:=by
  constructor
  intro H enc w base sp held fuel cs x hx
  cases fuel with
  | zero=>simp [DataW.trod] at hx
  | succ m =>
    unfold DataW.trod at hx
    rw [ht] at hx
    have hx':(if cs.length=P.cellsOf t then (fs.toList.mapM fun f=>DataW.trod enc P w base sp held m f.type ((cs.drop f.offset).take (P.cellsOf f.type))).map (fun xs=>((DataW.agg (xs.map (·.1)),xs.flatMap (·.2)):DataW H × List MemPlace)) else none)=some x:=by
      split at hx <;> first | (simp at *; done) | skip
      all_goals (try (rename_i heq; cases heq))
      exact hx
    split at hx'
    case isFalse=>cases hx'
    rename_i hlen
    rw [Option.map_eq_some_iff] at hx'
    obtain ⟨xs,hxs,_⟩:=hx'
    obtain ⟨a,hp,hr⟩:=h.go enc w base sp held m cs xs hxs
    refine ⟨a,hp,by rw [hl,hlen,hk],fun i hi=>?_⟩
    have:=hr i (by rw [hl,← hk,← hlen]; exact hi)
    rw [Nat.zero_add] at this
    exact this.2
theorem Opens.one {t:TypeId} {α:Type} {av:α→AV} {Pr:α→Prop} (h:Opens P t α (fun a=>[av a]) Pr) {H:Type} {enc:TypeId × Value→H} {w:World} {base:Nat} {sp:Nat→Bool} {held:Bool} {v:Value} {d:DataW H} {ps:List MemPlace}
    (hv:v.oneCell'=true) (hx:DataW.Trod enc P w base sp held t v d ps):∃ a,Pr a∧RV w (fun _=>False) nob [] (av a) v:=by
  obtain ⟨fuel,hx⟩:=hx
  obtain ⟨a,hp,hl,hr⟩:=h.go enc w base sp held fuel _ _ hx
  have e:v.cells.toList=[v]:=by cases v <;> first | rfl | simp [Value.oneCell'] at hv
  rw [e] at hr
  exact ⟨a,hp,(hr 0 (by simp)).2⟩
theorem Opens.agg {t:TypeId} {α:Type} {row:α→List AV} {Pr:α→Prop} (h:Opens P t α row Pr) {H:Type} {enc:TypeId × Value→H} {w:World} {base:Nat} {sp:Nat→Bool} {held:Bool} {cs:Array Value} {d:DataW H} {ps:List MemPlace}
    (hx:DataW.Trod enc P w base sp held t (.agg cs) d ps):∃ a,Pr a∧RV w (fun _=>False) nob [] (.agg (row a)) (.agg cs):=by
  obtain ⟨fuel,hx⟩:=hx
  obtain ⟨a,hp,hl,hr⟩:=h.go enc w base sp held fuel _ _ hx
  have e:(Value.agg cs).cells.toList=cs.toList:=rfl
  rw [e] at hl hr
  refine ⟨a,hp,.agg _ _ (by simpa using hl) (fun i hi=>?_) fun i hi=>?_⟩
  · have:=(hr i (by rw [hl]; exact hi)).1
    simpa [List.getD_eq_getElem?_getD,Array.getD_eq_getD_getElem?] using this
  · have:=(hr i (by rw [hl]; exact hi)).2
    simpa [List.getD_eq_getElem?_getD,Array.getD_eq_getD_getElem?] using this
end Go.Abs
namespace Go.Proofs.YtolgelipcgcbhaaGreat
open Go.Abs
open Nat (reduceAdd reduceSub reduceLT reduceLeDiff reduceMul reduceEqDiff)
set_option linter.unusedVariables false
set_option linter.unusedSimpArgs false
set_option maxHeartbeats 4000000
set_option maxRecDepth 100000
open Go.ChangeShapes Go.WideShapes Go.ChangeAt Go.RowKit
theorem own:ownKnob Tryz.prog.godebug=none:=by kernel_rfl
theorem laidOut:laidOutB Tryz.prog=true:=by kernel_rfl
theorem mapsR:mapsRowed Tryz.prog=true:=by kernel_rfl
theorem stopsN:(Tryz.prog.stops == [])=true:=by kernel_rfl
theorem knobsN:(Tryz.prog.stopKnobs == [])=true:=by kernel_rfl
theorem plainK:(Rows.archiveOrderRow.plainKeys == Tryz.prog.plainKeys)=true:=by kernel_rfl
theorem heardS:Tryz.prog.stopsHeard=true:=by kernel_rfl
theorem entersM:Tryz.prog.mayEnter=true:=by kernel_rfl
theorem liftsF:(Rows.archiveOrderRow.lifted == Tryz.prog.liftsFinal)=true:=by kernel_rfl
theorem makeP:(Tryz.prog.make == some Rows.archiveOrderRow.make)=true:=by kernel_rfl
theorem bband {a b:Bool} (h:a=true) (h':b=true):(a && b)=true:=by rw [h,h']; rfl
theorem cells3:Tryz.prog.cellsOf 3=1:=by kernel_rfl
theorem cells48:Tryz.prog.cellsOf 48=2:=by kernel_rfl
theorem cells226:Tryz.prog.cellsOf 226=3:=by kernel_rfl
theorem cells164:Tryz.prog.cellsOf 164=3:=by kernel_rfl
theorem cells50:Tryz.prog.cellsOf 50=10:=by kernel_rfl
theorem cells51:Tryz.prog.cellsOf 51=1:=by kernel_rfl
theorem cells52:Tryz.prog.cellsOf 52=1:=by kernel_rfl
theorem cells53:Tryz.prog.cellsOf 53=1:=by kernel_rfl
theorem cells54:Tryz.prog.cellsOf 54=1:=by kernel_rfl
theorem cells56:Tryz.prog.cellsOf 56=2:=by kernel_rfl
theorem cells58:Tryz.prog.cellsOf 58=4:=by kernel_rfl
theorem cells60:Tryz.prog.cellsOf 60=18:=by kernel_rfl
theorem cells62:Tryz.prog.cellsOf 62=3:=by kernel_rfl
theorem cells64:Tryz.prog.cellsOf 64=5:=by kernel_rfl
theorem cells66:Tryz.prog.cellsOf 66=3:=by kernel_rfl
theorem cells29:Tryz.prog.cellsOf 29=2:=by kernel_rfl
theorem cells68:Tryz.prog.cellsOf 68=38:=by kernel_rfl
theorem cells107:Tryz.prog.cellsOf 107=1:=by kernel_rfl
theorem cells109:Tryz.prog.cellsOf 109=4:=by kernel_rfl
theorem cells22:Tryz.prog.cellsOf 22=1:=by kernel_rfl
theorem cells24:Tryz.prog.cellsOf 24=2:=by kernel_rfl
theorem cells26:Tryz.prog.cellsOf 26=6:=by kernel_rfl
theorem op3:Opens Tryz.prog 3 Int (fun z=>[n z]) (fun _=>True):=(opens_int Tryz.underlying3).to id (fun _=>rfl) (fun _ _=>trivial)
theorem op48:Opens Tryz.prog 48 Sp Sp.cs (fun _=>True) :=
  (opens_struct Tryz.underlying48 cells48 (fun _=>rfl) (opensF_cons rfl cells3 op3 (fun _=>rfl) (opensF_cons rfl cells3 op3 (fun _=>rfl) (opensF_nil _)))).to (fun a=>⟨a.1,a.2.1⟩) (fun _=>rfl) (fun _ _=>trivial)
theorem op226:Opens Tryz.prog 226 Mk Mk.cs (fun _=>True) :=
  (opens_struct Tryz.underlying226 cells226 (fun _=>rfl) (opensF_cons rfl cells3 op3 (fun _=>rfl) (opensF_cons rfl cells48 op48 (fun _=>rfl) (opensF_nil _)))).to (fun a=>⟨a.1,a.2.1⟩) (fun _=>rfl) (fun _ _=>trivial)
theorem op62:Opens Tryz.prog 62 Mk Mk.cs (fun _=>True) :=
  (opens_struct Tryz.underlying62 cells62 (fun _=>rfl) (opensF_cons rfl cells3 op3 (fun _=>rfl) (opensF_cons rfl cells48 op48 (fun _=>rfl) (opensF_nil _)))).to (fun a=>⟨a.1,a.2.1⟩) (fun _=>rfl) (fun _ _=>trivial)
theorem op164:Opens Tryz.prog 164 Pt Pt.cs (fun _=>True) :=
  (opens_struct Tryz.underlying164 cells164 (fun _=>rfl) (opensF_cons rfl cells3 op3 (fun _=>rfl) (opensF_cons rfl cells3 op3 (fun _=>rfl) (opensF_cons rfl cells3 op3 (fun _=>rfl) (opensF_nil _))))).to (fun a=>⟨a.1,a.2.1,a.2.2.1⟩) (fun _=>rfl) (fun _ _=>trivial)
theorem op50:Opens Tryz.prog 50 Ppr Ppr.cs (fun _=>True) :=
  (opens_struct Tryz.underlying50 cells50 (fun _=>rfl) (opensF_cons rfl cells3 op3 (fun _=>rfl) (opensF_cons rfl cells3 op3 (fun _=>rfl) (opensF_cons rfl cells3 op3 (fun _=>rfl) (opensF_cons rfl cells3 op3 (fun _=>rfl) (opensF_cons rfl cells3 op3 (fun _=>rfl) (opensF_cons rfl cells3 op3 (fun _=>rfl) (opensF_cons rfl cells48 op48 (fun _=>rfl) (opensF_cons rfl cells48 op48 (fun _=>rfl) (opensF_nil _)))))))))).to (fun a=>⟨a.1,a.2.1,a.2.2.1,a.2.2.2.1,a.2.2.2.2.1,a.2.2.2.2.2.1,a.2.2.2.2.2.2.1,a.2.2.2.2.2.2.2.1⟩) (fun _=>rfl) (fun _ _=>trivial)
theorem op51:Opens Tryz.prog 51 (List Pt) (fun l=>[ptS l]) (fun l=>l.length < 9223372036854775808) :=
  (opens_slice Tryz.underlying51 cells164 (by decide) op164 (fun _=>rfl)).to id (fun _=>rfl) (fun _ h=>h.1)
theorem op52:Opens Tryz.prog 52 (List Int) (fun l=>[inS l]) (fun l=>l.length < 9223372036854775808) :=
  (opens_slice Tryz.underlying52 cells3 (by decide) op3 (fun _=>rfl)).to id (fun _=>rfl) (fun _ h=>h.1)
theorem op53:Opens Tryz.prog 53 (List Sp) (fun l=>[spnS l]) (fun l=>l.length < 9223372036854775808) :=
  (opens_slice Tryz.underlying53 cells48 (by decide) op48 (fun _=>rfl)).to id (fun _=>rfl) (fun _ h=>h.1)
theorem op54:Opens Tryz.prog 54 (List Mk) (fun l=>[mkS l]) (fun l=>l.length < 9223372036854775808) :=
  (opens_slice Tryz.underlying54 cells226 (by decide) op226 (fun _=>rfl)).to id (fun _=>rfl) (fun _ h=>h.1)
theorem op56:Opens Tryz.prog 56 (List Sp × List Mk) (fun d=>[spnS d.1,mkS d.2]) (fun d=>d.1.length < 9223372036854775808∧d.2.length < 9223372036854775808) :=
  (opens_struct Tryz.underlying56 cells56 (fun _=>rfl) (opensF_cons rfl cells53 op53 (fun _=>rfl) (opensF_cons rfl cells54 op54 (fun _=>rfl) (opensF_nil _)))).to (fun a=>⟨a.1,a.2.1⟩) (fun _=>rfl) (fun _ h=>⟨h.1,h.2.1⟩)
theorem op58:Opens Tryz.prog 58 Pn Pn.cs (fun _=>True) :=
  (opens_struct Tryz.underlying58 cells58 (fun _=>rfl) (opensF_cons rfl cells3 op3 (fun _=>rfl) (opensF_cons rfl cells48 op48 (fun _=>rfl) (opensF_cons rfl cells3 op3 (fun _=>rfl) (opensF_nil _))))).to (fun a=>⟨a.1,a.2.1,a.2.2.1⟩) (fun _=>rfl) (fun _ _=>trivial)
theorem op60:Opens Tryz.prog 60 Sht Sht.cs shtSz :=
  (opens_struct Tryz.underlying60 cells60 (fun _=>rfl) (opensF_cons rfl cells50 op50 (fun _=>rfl) (opensF_cons rfl cells51 op51 (fun _=>rfl) (opensF_cons rfl cells52 op52 (fun _=>rfl) (opensF_cons rfl cells56 op56 (fun _=>rfl) (opensF_cons rfl cells58 op58 (fun _=>rfl) (opensF_nil _))))))).to (fun a=>⟨a.1,a.2.1,a.2.2.1,a.2.2.2.1.1,a.2.2.2.1.2,a.2.2.2.2.1⟩) (fun _=>rfl) (fun _ h=>⟨h.2.1,h.2.2.1,h.2.2.2.1.1,h.2.2.2.1.2⟩)
theorem op64:Opens Tryz.prog 64 Rd Rd.cs (fun _=>True) :=
  (opens_struct Tryz.underlying64 cells64 (fun _=>rfl) (opensF_cons rfl cells3 op3 (fun _=>rfl) (opensF_cons rfl cells3 op3 (fun _=>rfl) (opensF_cons rfl cells3 op3 (fun _=>rfl) (opensF_cons rfl cells48 op48 (fun _=>rfl) (opensF_nil _)))))).to (fun a=>⟨a.1,a.2.1,a.2.2.1,a.2.2.2.1⟩) (fun _=>rfl) (fun _ _=>trivial)
theorem op66:Opens Tryz.prog 66 Hgt Hgt.cs (fun _=>True) :=
  (opens_struct Tryz.underlying66 cells66 (fun _=>rfl) (opensF_cons rfl cells3 op3 (fun _=>rfl) (opensF_cons rfl cells48 op48 (fun _=>rfl) (opensF_nil _)))).to (fun a=>⟨a.1,a.2.1⟩) (fun _=>rfl) (fun _ _=>trivial)
theorem op29:Opens Tryz.prog 29 Nm Nm.cs (fun _=>True) :=
  (opens_struct Tryz.underlying29 cells29 (fun _=>rfl) (opensF_cons rfl cells3 op3 (fun _=>rfl) (opensF_cons rfl cells3 op3 (fun _=>rfl) (opensF_nil _)))).to (fun a=>⟨a.1,a.2.1⟩) (fun _=>rfl) (fun _ _=>trivial)
theorem op68:Opens Tryz.prog 68 Nt Nt.cs ntSz :=
  (opens_struct Tryz.underlying68 cells68 (fun _=>rfl) (opensF_cons rfl cells3 op3 (fun _=>rfl) (opensF_cons rfl cells3 op3 (fun _=>rfl) (opensF_cons rfl cells3 op3 (fun _=>rfl) (opensF_cons rfl cells3 op3 (fun _=>rfl) (opensF_cons rfl cells3 op3 (fun _=>rfl) (opensF_cons rfl cells3 op3 (fun _=>rfl) (opensF_cons rfl cells3 op3 (fun _=>rfl) (opensF_cons rfl cells60 op60 (fun _=>rfl) (opensF_cons rfl cells62 op62 (fun _=>rfl) (opensF_cons rfl cells64 op64 (fun _=>rfl) (opensF_cons rfl cells66 op66 (fun _=>rfl) (opensF_cons rfl cells29 op29 (fun _=>rfl) (opensF_nil _)))))))))))))).to (fun a=>⟨a.1,a.2.1,a.2.2.1,a.2.2.2.1,a.2.2.2.2.1,a.2.2.2.2.2.1,a.2.2.2.2.2.2.1,a.2.2.2.2.2.2.2.1,a.2.2.2.2.2.2.2.2.1,a.2.2.2.2.2.2.2.2.2.1,a.2.2.2.2.2.2.2.2.2.2.1,a.2.2.2.2.2.2.2.2.2.2.2.1⟩) (fun _=>rfl) (fun _ h=>h.2.2.2.2.2.2.2.1)
theorem op27:Opens Tryz.prog 27 (List Nt) (fun l=>[ntS l]) setSz :=
  (opens_slice Tryz.underlying27 cells68 (by decide) op68 (fun _=>rfl)).to id (fun _=>rfl) (fun _ h=>h)
theorem op107:Opens Tryz.prog 107 (List Hgt) (fun l=>[hgS l]) (fun l=>l.length < 9223372036854775808) :=
  (opens_slice Tryz.underlying107 cells66 (by decide) op66 (fun _=>rfl)).to id (fun _=>rfl) (fun _ h=>h.1)
theorem op109:Opens Tryz.prog 109 Stn Stn.cs (fun s=>s.heights.length < 9223372036854775808) :=
  (opens_struct Tryz.underlying109 cells109 (fun _=>rfl) (opensF_cons rfl cells3 op3 (fun _=>rfl) (opensF_cons rfl cells3 op3 (fun _=>rfl) (opensF_cons rfl cells3 op3 (fun _=>rfl) (opensF_cons rfl cells107 op107 (fun _=>rfl) (opensF_nil _)))))).to (fun a=>⟨a.1,a.2.1,a.2.2.1,a.2.2.2.1⟩) (fun _=>rfl) (fun _ h=>h.2.2.2.1)
theorem op22:Opens Tryz.prog 22 (List Stn) (fun l=>[snS l]) stnSz :=
  (opens_slice Tryz.underlying22 cells109 (by decide) op109 (fun _=>rfl)).to id (fun _=>rfl) (fun _ h=>h)
theorem op24:Opens Tryz.prog 24 (Int × Int) (fun d=>[n d.1,n d.2]) (fun _=>True) :=
  (opens_struct Tryz.underlying24 cells24 (fun _=>rfl) (opensF_cons rfl cells3 op3 (fun _=>rfl) (opensF_cons rfl cells3 op3 (fun _=>rfl) (opensF_nil _)))).to (fun a=>⟨a.1,a.2.1⟩) (fun _=>rfl) (fun _ _=>trivial)
theorem op26:Opens Tryz.prog 26 Bse Bse.cs bseSz :=
  (opens_struct Tryz.underlying26 cells26 (fun _=>rfl) (opensF_cons rfl cells22 op22 (fun _=>rfl) (opensF_cons rfl cells24 op24 (fun _=>rfl) (opensF_cons rfl cells3 op3 (fun _=>rfl) (opensF_cons rfl cells3 op3 (fun _=>rfl) (opensF_cons rfl cells3 op3 (fun _=>rfl) (opensF_nil _))))))).to (fun a=>⟨a.1,a.2.1.1,a.2.1.2,a.2.2.1,a.2.2.2.1,a.2.2.2.2.1⟩) (fun _=>rfl) (fun _ h=>h.1)
section
variable {H:Type} {enc:TypeId × Value→H} {w:World} {r:Reach} {base b0:Nat} {sp:Nat→Bool} {held:Bool} {v:Value} {d:DataW H} {ps:List MemPlace}
theorem open_bse (h:Value.okWide Tryz.prog w r base 26 v) (hx:DataW.Trod enc Tryz.prog w b0 sp held 26 v d ps):∃ x:Bse,bseSz x∧RV w (fun _=>False) nob [] (.agg x.cs) v:=by
  obtain ⟨cs,rfl,_⟩:=okWide_struct Tryz.underlying26 h
  exact op26.agg hx
theorem open_sht (h:Value.okWide Tryz.prog w r base 60 v) (hx:DataW.Trod enc Tryz.prog w b0 sp held 60 v d ps):∃ x:Sht,shtSz x∧RV w (fun _=>False) nob [] (.agg x.cs) v:=by
  obtain ⟨cs,rfl,_⟩:=okWide_struct Tryz.underlying60 h
  exact op60.agg hx
theorem open_set (h:Value.okWide Tryz.prog w r base 27 v) (hx:DataW.Trod enc Tryz.prog w b0 sp held 27 v d ps):∃ l:List Nt,setSz l∧RV w (fun _=>False) nob [] (ntS l) v:=by
  obtain ⟨a,len,cap,rfl⟩:=okWide_slice Tryz.underlying27 h
  exact op27.one rfl hx
end
end Go.Proofs.YtolgelipcgcbhaaGreat
namespace Go.Proofs.YtolgelipcgcbhaaGreat
open Go.Abs
open Nat (reduceAdd reduceSub reduceLT reduceLeDiff reduceMul reduceEqDiff)
set_option linter.unusedVariables false
set_option linter.unusedSimpArgs false
set_option maxHeartbeats 4000000
set_option maxRecDepth 100000
def c6:CF:=⟨96,(jo [jx 3 26 6 0,jb 6 false] [1,2,3]
 (jo [jy 13 18 [],jm 7 13] [1,2,3,7]
 (.seq (jo [jk 14 6 3,jy 15 19 [14],jv 16 15,jm 17 16,jd 17 (jm 18 1),jd 17 (jy 19 20 [18]),jd 17 (jv 20 19),jq 21 17 20,jm 22 21,jd 22 (jm 23 1),jd 22 (je 24 23),jd 22 (ju .gtr 25 24 40),jq 26 22 25,jm 27 26,jd 27 (jm 28 2),jd 27 (ju .lss 29 28 0),jq 30 27 29,jm 31 30,jd 31 (jm 32 2),jd 31 (jm 33 1),jd 31 (je 34 33),jd 31 (jt .geq 35 32 34),jq 36 31 35,jm 37 36,jd 37 (jm 38 1),jd 37 (jm 39 2),jd 37 (ji 40 38 38 39),jd 37 (jf 41 4 40),jd 37 (jl 42 41),jd 37 (ju .eql 43 42 7),jq 44 37 43] [1,2,3,7,44]
 (.cond (.t 44) (jo [jm 45 7,jm 6 45] [6]
 .ret)
 .skip))
 (.seq (.draww [1,2,3,5,6,7,8,0,4,9,10] [0,1,2,3,4,5,6] 2 [jm 47 1,jm 48 2,jw 49 (.slice 38 (.t 47) none (some (.t 48))),jm 51 1,jm 52 2,ju .add 53 52 1,jw 54 (.slice 38 (.t 51) (some (.t 53)) none)] [jw 46 (.bsl true 68 38 0 [] []),jw 50 (.app 68 38 368 (.t 46) (.t 49)),jw 55 (.app 68 38 368 (.t 50) (.t 54)),jm 8 55] [1,2,3,7,8])
 (.seq (.drawl 18 [jk 57 6 3,jm 58 1,jm 59 1,jm 60 2,ji 61 38 59 60,jf 62 0 61,jl 63 62,jm 64 1,jm 65 2,ji 66 38 64 65,jf 67 1 66,jl 68 67,jw 69 (.build [.int .i64 0,.int .i64 0] [(0,1,(.t 63)),(1,1,(.t 68))]),jw 70 (.build z38 [(4,1,(.c (.int .i64 7))),(36,2,(.t 69))]),jy 71 31 [58,70],jy 72 21 [57,71],jm 56 72,jz 73 0 56,jz 74 1 56,jw 9 (.alloc 37 4 [.slice none 0 0,.slice none 0 0,.slice none 0 0,.slice none 0 0])] [js 4 9 73,jm 10 74] [3,7,8,9,10])
 (jo [jk 76 6 3,jm 77 8,jy 78 21 [76,77],jm 75 78,jz 79 0 75,jz 80 1 75,jw 11 (.alloc 37 4 [.slice none 0 0,.slice none 0 0,.slice none 0 0,.slice none 0 0]),js 4 11 79,jm 12 80] [7,9,10,11,12]
 (.seq (jo [jm 81 10,ju .neq 82 81 0] [7,9,11,12,82]
 (.cond (.t 82) (jo [jm 83 7,jm 6 83] [6]
 .ret)
 .skip))
 (.seq (.draw [jm 84 7,jm 85 84,ja 85 (jm 86 12),ja 85 (ju .eql 87 86 0),jp 88 85 87,jm 89 88,ja 89 (jk 90 4 9),ja 89 (jy 91 32 [90]),ja 89 (jk 92 4 11),ja 89 (jy 93 32 [92]),ja 89 (jy 94 27 [91,93]),jp 95 89 94,jm 6 95] [] [6])
 .ret)))))))),[.t 6]⟩
theorem k6:chkF Tryz.prog Tryz.f6 c6=true:=by kernel_rfl
theorem Withdrawn_reg {b:Bse} {u v:List Nt} {a w:Nt} (ok:(setE b (u++a::v++[w])).1=0) (ha:a.kind≠7) (hk:w.kind=7) (hw:w.ref=a.nm) :
    (setE b (u++v)).1=0∧{ foldT b (u++a::v++[w]) with confl:=[] }={ foldT b (u++v) with confl:=[] }:=by
  have hn:=setE_nodup ok
  have hs:(u++v).Sublist (u++a::v++[w]):=by
    rw [List.append_assoc]
    exact (List.Sublist.refl u).append ((List.sublist_append_left v [w]).trans (by simp))
  have h1:=setE_sub ok hs
  refine ⟨h1,?_⟩
  rw [foldT_ref b hn,foldT_ref b (setE_nodup h1)]
  unfold refT
  rw [withdrawn (b:=b) hn ha hk hw]
def RL:List AV→List AV→Prop
  | [],[]=>True
  | a::r,b::s=>(∀ w X x,RV w X nob [] a x→RV w X nob [] b x)∧RL r s
  | _,_=>False
theorem RL.len:∀ {cs ds:List AV},RL cs ds→cs.length=ds.length
  | [],[],_=>rfl
  | [],_::_,h=>h.elim
  | _::_,[],h=>h.elim
  | _::_,_::_,h=>by simp [RL.len h.2]
theorem RL.get:∀ {cs ds:List AV},RL cs ds→∀ i,i < cs.length→∀ w X x,RV w X nob [] (cs.getD i .any) x→RV w X nob [] (ds.getD i .any) x
  | [],_,_,i,hi=>absurd hi (Nat.not_lt_zero _)
  | _::_,[],h,_,_=>h.elim
  | _::_,_::_,h,0,_=>h.1
  | _::r,_::s,h,i+1,hi=>by simpa using RL.get h.2 i (by simpa using hi)
theorem RL.agg {cs ds:List AV} (h:RL cs ds) {w:World} {X:Nat→Prop} {x:Value} (hx:RV w X nob [] (.agg cs) x):RV w X nob [] (.agg ds) x:=by
  cases hx with
  | agg _ xs hn h1 hr =>
    have hl:=h.len
    exact .agg ds xs (hn.trans hl) (fun i hi=>h1 i (by omega)) fun i hi=>h.get i (by omega) w X _ (hr i (by omega))
theorem behind_nil {cs:List AV} (l:List Nt) (a:Nt) (hl:l.length < 4294967296) (h:RL cs a.cs):Pure Tryz.prog 31 [ntS l,.agg cs] (ntS (l++[behN a])):=by
  refine Pure.args (args':=[ntS l,.agg a.cs]) rfl (fun i hi w X x hx=>?_) (behind_spec l a hl)
  rcases i with _ | _ | i
  · exact hx
  · exact RL.agg h hx
  · simp only [List.length_cons,List.length_nil] at hi; omega
def wdrN (m:Nm):Nt:={ nt0 with kind:=7,ref:=m }
theorem wdr_rl (m:Nm):RL (List.take 36 (List.take 4 (vs z38)++AV.v (.int .i64 7)::List.drop 5 (vs z38))++AV.v (.int .i64 m.clerk)::AV.v (.int .i64 m.num)::List.drop 38 (List.take 4 (vs z38)++AV.v (.int .i64 7)::List.drop 5 (vs z38))) (wdrN m).cs:=by
  repeat' (first | exact trivial | refine ⟨fun _ _ _ h=>h,?_⟩ | refine ⟨fun _ _ _ h=>h.nil,?_⟩)
theorem wdr_pv (l:List Nt) (m:Nm):∀ a∈[ntS l,.agg (List.take 36 (List.take 4 (vs z38)++AV.v (.int .i64 7)::List.drop 5 (vs z38))++AV.v (.int .i64 m.clerk)::AV.v (.int .i64 m.num)::List.drop 38 (List.take 4 (vs z38)++AV.v (.int .i64 7)::List.drop 5 (vs z38)))],PureV a:=by
  simp [vs,z38]
theorem ntSz0 (m:Nm):ntSz (behN (wdrN m)):=by
  refine ⟨?_,?_,?_,?_⟩ <;> (show (0:Nat) < 9223372036854775808; decide)
theorem Withdrawn_spec (b:Bse) (l:List Nt) (z:Int) (hb:bseSz b) (hl:setSz l):Pure Tryz.prog 6 [.agg b.cs,ntS l,n z] (bl true):=by
  refine Pure.of_body Tryz.call6 Tryz.func6 k6 (Nat.le_of_ble_eq_true rfl) ?_
  unfold c6
  have s1:=small_spec b hb
  have s2:=few_spec l hl.1
  have hl0:=hl.1
  generalize smallB b=c1 at s1
  generalize fewB l=c2 at s2
  by_cases hg:c1=true∧c2=true∧l.length≤40∧0≤z∧z < l.length∧(l.getD z.toNat nt0).kind≠7
  · obtain ⟨rfl,rfl,h40,hz0,hz1,hk⟩:=hg
    obtain ⟨k,rfl⟩:∃ k:Nat,z=k:=⟨z.toNat,by omega⟩
    have hkl:k < l.length:=by omega
    rw [Int.toNat_natCast] at hk
    have hx:(l.map Nt.cs).getD k []=Nt.cs (l.getD k nt0):=row nt0 hkl
    have hsp:l=l.take k++l.getD k nt0::l.drop (k+1):=by
      have h1:=getD_lt nt0 hkl
      obtain ⟨h2,h3⟩:=List.getElem?_eq_some_iff.1 h1
      rw [← h3,List.getElem_cons_drop,List.take_append_drop]
    generalize l.getD k nt0=x at hk hx hsp
    obtain ⟨P,hP⟩:∃ P,P=l.take k:=⟨_,rfl⟩
    obtain ⟨Q,hQ⟩:∃ Q,Q=l.drop (k+1):=⟨_,rfl⟩
    have hPm:List.take k (l.map Nt.cs)=P.map Nt.cs:=by rw [hP,List.map_take]
    have hQm:List.drop ((k:Int)+1).toNat (List.take l.length (l.map Nt.cs))=Q.map Nt.cs:=by rw [show ((k:Int)+1).toNat=k+1 by omega,hQ,List.map_drop,List.take_of_length_le (by rw [List.length_map]; omega)]
    have hPl:P.length=k:=by rw [hP,List.length_take]; omega
    have hQl:Q.length=l.length - (k+1):=by rw [hQ,List.length_drop]
    have hPr:∀ e,e < k→((P.map Nt.cs).getD e []).length=38:=fun e he=>by rw [row nt0 (by omega)]; rfl
    have hQr:∀ e,e < l.length - (k+1)→((Q.map Nt.cs).getD e []).length=38:=fun e he=>by rw [row nt0 (by omega)]; rfl
    rw [← hP,← hQ] at hsp
    have hy:setSz (P++Q):=by
      refine ⟨by rw [List.length_append]; omega,fun a ha=>hl.2 a ?_⟩
      rw [hsp]; simp only [List.mem_append,List.mem_cons] at ha ⊢
      rcases ha with h | h
      · exact .inl h
      · exact .inr (.inr h)
    have hz:setSz (l++[behN (wdrN x.nm)]):=by
      refine ⟨by rw [List.length_append]; simp only [List.length_cons,List.length_nil]; omega,fun a ha=>?_⟩
      rcases List.mem_append.1 ha with h | h
      · exact hl.2 a h
      · rw [List.mem_singleton.1 h]; exact ntSz0 _
    have bh:=behind_nil l _ (by omega) (wdr_rl x.nm)
    have ph:=fun τ=>pu (τ:=τ) bh (wdr_pv l x.nm)
    clear bh
    have F1:=Fold_spec b hb _ hz
    have F2:=Fold_spec b hb _ hy
    clear hP hQ
    have hI:Hi0 (l=P++x::Q):=⟨hsp⟩
    clear hsp
    (repeat' ((first
 | refine vn rfl ?_
 | simp (disch:=omega) only [wr64,Int.zero_sub]
 | refine bo (fun _=>?_) fun _=>?_
 | refine im fun _=>?_
 | ((repeat refine si ?_); (first | ((first | refine .inl ⟨_,_,_,_,rfl,fun _=>pu (by first | exact awake_spec | exact s1 | exact s2),?_⟩ | refine ⟨_,_,_,_,rfl,fun _=>pu (by first | exact awake_spec | exact s1 | exact s2),?_⟩); (first | refine o1 ?_ | refine o2 ?_ | refine o3 ?_ | refine o4 ?_)) | refine .inl ⟨_,_,_,_,rfl,pu (by first | exact awake_spec | exact s1 | exact s2),?_⟩))
 | refine cF ?_
 | refine om ?_
 | refine an ?_
 | fail) <;> try simp only [zN,zT,zV,zS,zU,vcC,lateX,ex,strp,binA,elems,cells,scalar,eqC,keyA,intsA,lookA,ofVs,mpOf,Nat.reduceBEq,reduceAdd,reduceSub,reduceLT,reduceLeDiff,reduceMul,reduceEqDiff,reduceIte,hx,hk,hPm,hQm,hPl,hQl,List.length_map,Option.toList,List.append_nil,List.nil_append,List.cons_append]))
    all_goals try (exfalso; omega)
    refine ⟨⟨hPr,by omega⟩,by omega,⟨hQr,by omega⟩,?_⟩
    refine AWPC.freeze1 (t:=8) (f:=0) (o:=⟨68,38,(P++Q).map Nt.cs,none⟩) rfl (by rw [List.map_append]; rfl) (by simp; omega) (show (38:Nat)≠0 by decide) ?_
    have hsp:=hI.out
    clear hI
    by_cases he:askedE b [l++[behN (wdrN x.nm)]]=0
    · have ok:=askedE_one.1 he
      have hE1:foldE b (l++[behN (wdrN x.nm)])=(foldT b (l++[behN (wdrN x.nm)]),0):=by unfold foldE; rw [if_neg (by omega)]
      have z1:=foldSz hz ok
      have hR:(setE b (P++Q)).1=0∧{ foldT b (l++[behN (wdrN x.nm)]) with confl:=[] }={ foldT b (P++Q) with confl:=[] }:=by
        rw [hsp] at ok ⊢
        exact Withdrawn_reg ok hk rfl rfl
      obtain ⟨ok2,hR⟩:=hR
      have hE2:foldE b (P++Q)=(foldT b (P++Q),0):=by unfold foldE; rw [if_neg (by rw [askedE_one.2 ok2]; omega)]
      have z2:=foldSz hy ok2
      rw [hE1] at F1
      rw [hE2] at F2
      simp only at F1 F2
      have q:=sameRgr { foldT b (l++[behN (wdrN x.nm)]) with confl:=[] } { foldT b (P++Q) with confl:=[] } ⟨z1.1,z1.2.1,z1.2.2.1,by show (0:Nat) < _; decide⟩ ⟨z2.1,z2.2.1,z2.2.2.1,by show (0:Nat) < _; decide⟩
      rw [decide_eq_true hR] at q
      have b1:=bare_spec (foldT b (l++[behN (wdrN x.nm)]))
      have b2:=bare_spec (foldT b (P++Q))
      clear hE1 hE2 z1 z2 hR ok ok2 he hy hz hb hl hsp
      generalize foldT b (l++[behN (wdrN x.nm)])=R at F1 b1 q
      generalize foldT b (P++Q)=T at F2 b2 q
      generalize l++[behN (wdrN x.nm)]=L at F1 ph
      generalize P++Q=U at F2 ⊢
      (repeat' ((first
 | refine vn rfl ?_
 | simp (disch:=omega) only [wr64,Int.zero_sub]
 | refine bo (fun _=>?_) fun _=>?_
 | refine im fun _=>?_
 | ((repeat refine si ?_); ((first | refine .inl ⟨_,_,_,_,rfl,fun _=>(by first | exact (ph _)),?_⟩ | refine ⟨_,_,_,_,rfl,fun _=>(by first | exact (ph _)),?_⟩); (first | refine o1 ?_ | refine o2 ?_ | refine o3 ?_ | refine o4 ?_)))
 | ((repeat refine si ?_); (first | ((first | refine .inl ⟨_,_,_,_,rfl,fun _=>pu (by first | exact F1 | exact F2 | exact b1 | exact b2 | exact q),?_⟩ | refine ⟨_,_,_,_,rfl,fun _=>pu (by first | exact F1 | exact F2 | exact b1 | exact b2 | exact q),?_⟩); (first | refine o1 ?_ | refine o2 ?_ | refine o3 ?_ | refine o4 ?_)) | refine .inl ⟨_,_,_,_,rfl,pu (by first | exact F1 | exact F2 | exact b1 | exact b2 | exact q),?_⟩))
 | refine cF ?_
 | refine om ?_
 | refine an ?_
 | fail) <;> try simp only [zN,zT,zV,zS,zU,vcC,lateX,ex,strp,binA,elems,cells,scalar,eqC,keyA,intsA,lookA,ofVs,mpOf,Nat.reduceBEq,reduceAdd,reduceSub,reduceLT,reduceLeDiff,reduceMul,reduceEqDiff,reduceIte,hx]))
      all_goals try (exfalso; omega)
      all_goals exact Frz.eq rfl (by simp)
    · have h2:(foldE b (l++[behN (wdrN x.nm)])).2≠0:=by unfold foldE; rw [if_pos he]; exact he
      generalize (foldE b (l++[behN (wdrN x.nm)])).2=e1 at F1 h2
      generalize (foldE b (l++[behN (wdrN x.nm)])).1=R at F1
      generalize (foldE b (P++Q)).2=e2 at F2
      generalize (foldE b (P++Q)).1=T at F2
      clear he hy hz hb hl hsp
      generalize l++[behN (wdrN x.nm)]=L at F1 ph
      generalize P++Q=U at F2 ⊢
      (repeat' ((first
 | refine vn rfl ?_
 | simp (disch:=omega) only [wr64,Int.zero_sub]
 | refine bo (fun _=>?_) fun _=>?_
 | refine im fun _=>?_
 | ((repeat refine si ?_); ((first | refine .inl ⟨_,_,_,_,rfl,fun _=>(by first | exact (ph _)),?_⟩ | refine ⟨_,_,_,_,rfl,fun _=>(by first | exact (ph _)),?_⟩); (first | refine o1 ?_ | refine o2 ?_ | refine o3 ?_ | refine o4 ?_)))
 | ((repeat refine si ?_); (first | ((first | refine .inl ⟨_,_,_,_,rfl,fun _=>pu (by first | exact F1 | exact F2),?_⟩ | refine ⟨_,_,_,_,rfl,fun _=>pu (by first | exact F1 | exact F2),?_⟩); (first | refine o1 ?_ | refine o2 ?_ | refine o3 ?_ | refine o4 ?_)) | refine .inl ⟨_,_,_,_,rfl,pu (by first | exact F1 | exact F2),?_⟩))
 | refine cF ?_
 | refine om ?_
 | refine an ?_
 | fail) <;> try simp only [zN,zT,zV,zS,zU,vcC,lateX,ex,strp,binA,elems,cells,scalar,eqC,keyA,intsA,lookA,ofVs,mpOf,Nat.reduceBEq,reduceAdd,reduceSub,reduceLT,reduceLeDiff,reduceMul,reduceEqDiff,reduceIte,hx]))
      all_goals try (exfalso; omega)
      all_goals exact Frz.eq rfl (by simp)
  · clear hb hl
    have hrw:((l.map Nt.cs).getD z.toNat []=[])∨∃ y:Nt,(l.map Nt.cs).getD z.toNat []=y.cs:=by
      by_cases h:z.toNat < l.length
      · exact .inr ⟨_,row nt0 h⟩
      · exact .inl (by rw [List.getD_eq_getElem?_getD,List.getElem?_eq_none (by rw [List.length_map]; omega)]; rfl)
    cases c1 with
    | false =>
      rcases hrw with hr | ⟨y,hr⟩ <;> ((refine Az @hr (And.intro @awake_spec (And.intro @s1 @s2)) ?_;repeat' first|exact True.intro|refine Cj.mk ?_ ?_)<;>intros<;>refine hD_ ?_)
      all_goals try (exfalso; omega)
      all_goals exact Frz.eq rfl (by simp)
    | true =>
      cases c2 with
      | false =>
        rcases hrw with hr | ⟨y,hr⟩ <;> ((refine Az @hr (And.intro @awake_spec (And.intro @s1 @s2)) ?_;repeat' first|exact True.intro|refine Cj.mk ?_ ?_)<;>intros<;>refine hD_ ?_)
        all_goals try (exfalso; omega)
        all_goals exact Frz.eq rfl (by simp)
      | true =>
        by_cases h40:l.length≤40
        · by_cases hz0:0≤z
          · by_cases hz1:z < l.length
            · have hx:(l.map Nt.cs).getD z.toNat []=Nt.cs (l.getD z.toNat nt0):=row nt0 (by omega)
              have hk:(l.getD z.toNat nt0).kind=7:=Classical.byContradiction fun hk=>hg ⟨rfl,rfl,h40,hz0,hz1,hk⟩
              clear hg
              generalize l.getD z.toNat nt0=x at hx hk
              ((refine Az (And.intro @hx @hk) (And.intro @awake_spec (And.intro @s1 @s2)) ?_;repeat' first|exact True.intro|refine Cj.mk ?_ ?_)<;>intros<;>refine hD_ ?_)
              all_goals try (exfalso; omega)
              all_goals exact Frz.eq rfl (by simp)
            · rcases hrw with hr | ⟨y,hr⟩ <;> ((refine Az @hr (And.intro @awake_spec (And.intro @s1 @s2)) ?_;repeat' first|exact True.intro|refine Cj.mk ?_ ?_)<;>intros<;>refine hD_ ?_)
              all_goals try (exfalso; omega)
              all_goals exact Frz.eq rfl (by simp)
          · rcases hrw with hr | ⟨y,hr⟩ <;> ((refine Az @hr (And.intro @awake_spec (And.intro @s1 @s2)) ?_;repeat' first|exact True.intro|refine Cj.mk ?_ ?_)<;>intros<;>refine hD_ ?_)
            all_goals try (exfalso; omega)
            all_goals exact Frz.eq rfl (by simp)
        · rcases hrw with hr | ⟨y,hr⟩ <;> ((refine Az @hr (And.intro @awake_spec (And.intro @s1 @s2)) ?_;repeat' first|exact True.intro|refine Cj.mk ?_ ?_)<;>intros<;>refine hD_ ?_)
          all_goals try (exfalso; omega)
          all_goals exact Frz.eq rfl (by simp)
def c7:CF:=⟨106,(jo [jx 4 26 6 0,jx 7 60 18 3,jb 8 false] [1,2,4,7]
 (jo [jy 14 18 [],jm 9 14] [1,2,4,7,9]
 (.seq (jo [jk 15 6 4,jy 16 19 [15],jv 17 16,jm 18 17,jd 18 (jm 19 1),jd 18 (jy 20 20 [19]),jd 18 (jv 21 20),jq 22 18 21,jm 23 22,jd 23 (jm 24 1),jd 23 (je 25 24),jd 23 (ju .gtr 26 25 40),jq 27 23 26,jm 28 27,jd 28 (jk 29 18 7),jd 28 (jy 30 33 [29]),jd 28 (jv 31 30),jq 32 28 31,jm 33 32,jd 33 (jm 34 1),jd 33 (jy 35 34 [34]),jq 36 33 35] [1,2,4,7,9,36]
 (.cond (.t 36) (jo [jm 37 9,jm 8 37] [8]
 .ret)
 .skip))
 (jo [jk 39 6 4,jm 40 1,jy 41 21 [39,40],jm 38 41,jz 42 0 38,jz 43 1 38,jw 10 (.alloc 37 4 [.slice none 0 0,.slice none 0 0,.slice none 0 0,.slice none 0 0]),js 4 10 42,jm 11 43] [1,2,4,7,9,10,11]
 (.seq (jo [jm 44 11,ju .neq 45 44 0,jm 46 45,jd 46 (jm 47 2),jd 46 (ju .lss 48 47 0),jq 49 46 48,jm 50 49,jd 50 (jm 51 2),jd 50 (jf 52 0 10),jd 50 (jl 53 52),jd 50 (je 54 53),jd 50 (jt .geq 55 51 54),jq 56 50 55] [1,2,4,7,9,10,56]
 (.cond (.t 56) (jo [jm 57 9,jm 8 57] [8]
 .ret)
 .skip))
 (.seq (.drawl 20 [jk 59 6 4,jm 60 1,jf 61 0 10,jl 62 61,jm 63 2,ji 64 24 62 63,jf 65 2 64,jl 66 65,jf 67 0 10,jl 68 67,jm 69 2,ji 70 24 68 69,jf 71 3 70,jl 72 71,jk 73 18 7,jw 74 (.build z38 [(4,1,(.c (.int .i64 1))),(5,1,(.t 66)),(6,1,(.t 72)),(7,18,(.t 73))]),jy 75 31 [60,74],jy 76 21 [59,75],jm 58 76,jz 77 0 58,jz 78 1 58,jw 12 (.alloc 37 4 [.slice none 0 0,.slice none 0 0,.slice none 0 0,.slice none 0 0])] [js 4 12 77,jm 13 78] [9,10,12,13])
 (.seq (jo [jm 79 13,ju .neq 80 79 0] [9,10,12,80]
 (.cond (.t 80) (jo [jm 81 9,jm 8 81] [8]
 .ret)
 .skip))
 (.seq (.draw [jm 82 9,jm 83 82,ja 83 (jf 84 3 12),ja 83 (jl 85 84),ja 83 (jy 86 35 []),ja 83 (jy 87 30 [85,86]),jp 88 83 87,jm 89 88,ja 89 (jf 90 3 12),ja 89 (jl 91 90),ja 89 (je 92 91),ja 89 (jf 93 3 10),ja 89 (jl 94 93),ja 89 (je 95 94),ja 89 (ju .add 96 95 1),ja 89 (jt .eql 97 92 96),jp 98 89 97,jm 99 98,ja 99 (jk 100 4 10),ja 99 (jy 101 32 [100]),ja 99 (jk 102 4 12),ja 99 (jy 103 32 [102]),ja 99 (jy 104 27 [101,103]),jp 105 99 104,jm 8 105] [] [8])
 .ret)))))))),[.t 8]⟩
theorem k7:chkF Tryz.prog Tryz.f7 c7=true:=by kernel_rfl
theorem beh_more {b:Bse} {l:List Nt} {w:Nt} (ok:(setE b (l++[behN w])).1=0) (hr:(l.any fun a=>decide (a.ref=lastN))=false) (hw:w.ref≠lastN) (hk:w.kind≠7):More b l (behN w) :=
  ⟨ok,fun a ha e=>by
    have:=List.any_eq_false.1 hr a ha
    exact this (decide_eq_true e),hw,hk,rfl,rfl⟩
theorem Second_reg {b:Bse} {l:List Nt} {x:Fld} {sh:Sht} (ok:(setE b (l++[behN { nt0 with kind:=1,stn:=x.stn,week:=x.week,sheet:=sh }])).1=0) (hr:(l.any fun a=>decide (a.ref=lastN))=false) (hx:x∈(foldT b l).sheets) :
    foldT b (l++[behN { nt0 with kind:=1,stn:=x.stn,week:=x.week,sheet:=sh }])={ foldT b l with confl:=(foldT b l).confl++[lastN] }:=by
  have M:=beh_more ok hr (fun h=>absurd (show (0:Int)=8 from congrArg Nm.clerk h) (by decide)) (show (1:Int)≠7 by decide)
  rw [foldT_ref b (setE_nodup ok),foldT_ref b (setE_nodup M.okl)]
  rw [foldT_ref b (setE_nodup M.okl)] at hx
  exact M.second rfl hx rfl rfl
theorem Second_spec (b:Bse) (l:List Nt) (z:Int) (sh:Sht) (hb:bseSz b) (hl:setSz l) (hs:shtSz sh):Pure Tryz.prog 7 [.agg b.cs,ntS l,n z,.agg sh.cs] (bl true):=by
  refine Pure.of_body Tryz.call7 Tryz.func7 k7 (Nat.le_of_ble_eq_true rfl) ?_
  unfold c7
  have s1:=small_spec b hb
  have s2:=few_spec l hl.1
  have s3:=slight_spec sh
  have s4:=referred_spec l hl.1
  have hl0:=hl.1
  generalize smallB b=c1 at s1
  generalize fewB l=c2 at s2
  generalize slightB sh=c3 at s3
  generalize hc4:(l.any fun a=>decide (a.ref=lastN))=c4 at s4
  by_cases hg:c1=true∧c2=true∧l.length≤40∧c3=true∧c4=false
  · obtain ⟨rfl,rfl,h40,rfl,rfl⟩:=hg
    have F1:=Fold_spec b hb l hl
    by_cases ha:askedE b [l]=0
    · have hE:foldE b l=(foldT b l,0):=by unfold foldE; rw [if_neg (by omega)]
      rw [hE] at F1
      simp only at F1
      have zR:=foldSz hl (askedE_one.1 ha)
      by_cases hz:0≤z∧z < (foldT b l).sheets.length
      · have hget:(foldT b l).sheets[z.toNat]?=some ((foldT b l).sheets.getD z.toNat fld0):=getD_lt fld0 (by omega)
        have hrow:((foldT b l).sheets.map Fld.cs).getD z.toNat []=Fld.cs ((foldT b l).sheets.getD z.toNat fld0):=row fld0 (by omega)
        generalize (foldT b l).sheets.getD z.toNat fld0=x at hget hrow
        have h1:=behind_spec l { nt0 with kind:=1,stn:=x.stn,week:=x.week,sheet:=sh } (by omega)
        obtain ⟨w,hw⟩:∃ w,w=behN { nt0 with kind:=1,stn:=x.stn,week:=x.week,sheet:=sh }:=⟨_,rfl⟩
        have zl:setSz (l++[w]):=⟨by rw [List.length_append,List.length_singleton]; omega,fun a ha=>by
          rcases List.mem_append.1 ha with ha | ha
          · exact hl.2 a ha
          · simp only [List.mem_singleton] at ha; subst ha; rw [hw]; exact hs⟩
        have F2:=Fold_spec b hb (l++[w]) zl
        rw [← hw] at h1
        simp only [nt0,Nt.cs,sht0,mk0,rd0,hgt0,nm0] at h1
        have ph:∀ τ,Peek Tryz.prog 31 [ntS l,.agg (List.take 7 (List.take 6 (List.take 5 (List.take 4 (vs z38)++AV.v (.int .i64 1)::List.drop 5 (vs z38))++AV.v (.int .i64 x.stn)::List.drop 6 (List.take 4 (vs z38)++AV.v (.int .i64 1)::List.drop 5 (vs z38)))++AV.v (.int .i64 x.week)::List.drop 7 (List.take 5 (List.take 4 (vs z38)++AV.v (.int .i64 1)::List.drop 5 (vs z38))++AV.v (.int .i64 x.stn)::List.drop 6 (List.take 4 (vs z38)++AV.v (.int .i64 1)::List.drop 5 (vs z38))))++(sh.cs++List.drop 25 (List.take 6 (List.take 5 (List.take 4 (vs z38)++AV.v (.int .i64 1)::List.drop 5 (vs z38))++AV.v (.int .i64 x.stn)::List.drop 6 (List.take 4 (vs z38)++AV.v (.int .i64 1)::List.drop 5 (vs z38)))++AV.v (.int .i64 x.week)::List.drop 7 (List.take 5 (List.take 4 (vs z38)++AV.v (.int .i64 1)::List.drop 5 (vs z38))++AV.v (.int .i64 x.stn)::List.drop 6 (List.take 4 (vs z38)++AV.v (.int .i64 1)::List.drop 5 (vs z38))))))] τ (ntS (l++[w])):=fun τ=>by
          have h2:=pu (τ:=τ) h1
          exact h2
        clear h1
        by_cases hb2:askedE b [l++[w]]=0
        · have hE2:foldE b (l++[w])=(foldT b (l++[w]),0):=by unfold foldE; rw [if_neg (by omega)]
          rw [hE2] at F2
          simp only at F2
          have hreg:foldT b (l++[w])={ foldT b l with confl:=(foldT b l).confl++[lastN] }:=by
            rw [hw]; rw [hw] at hb2
            exact Second_reg (askedE_one.1 hb2) hc4 (List.mem_of_getElem? hget)
          rw [hreg] at F2
          have hCl:((foldT b l).confl++[lastN]).length=(foldT b l).confl.length+1:=by simp
          have n1:=named_spec ((foldT b l).confl++[lastN]) lastN (by rw [List.length_append,List.length_singleton]; have:=foldSz zl (askedE_one.1 hb2); rw [hreg] at this; have:=this.2.2.2; simpa using this)
          rw [decide_eq_true (by simp)] at n1
          have b1:=bare_spec (foldT b l)
          have b2:=bare_spec { foldT b l with confl:=(foldT b l).confl++[lastN] }
          have zB:rgrSz { foldT b l with confl:=[] }:=⟨zR.1,zR.2.1,zR.2.2.1,by show (0:Nat) < _; decide⟩
          have q1:=sameRgr { foldT b l with confl:=[] } { foldT b l with confl:=[] } zB zB
          rw [decide_eq_true rfl] at q1
          have hCz:((foldT b l).confl++[lastN]).length < 9223372036854775808:=by have:=foldSz zl (askedE_one.1 hb2); rw [hreg] at this; exact this.2.2.2
          generalize (foldT b l).confl++[lastN]=C at F2 n1 b2 hCl hCz
          generalize foldT b l=R at F1 F2 n1 b1 b2 q1 hz hrow hCl
          generalize l++[w]=L at F2 ph
          clear hE hE2 hreg zl zR zB hget hw hb hl hs hc4 ha hb2
          have l1:Pure Tryz.prog 35 [] (.agg [n 8,n 400]):=last_spec
          have n1:Pure Tryz.prog 30 [nmS C,.agg [n 8,n 400]] (bl true):=n1
          (repeat' ((first
 | refine vn rfl ?_
 | simp (disch:=omega) only [wr64,Int.zero_sub]
 | refine bo (fun _=>?_) fun _=>?_
 | refine im fun _=>?_
 | ((repeat refine si ?_); ((first | refine .inl ⟨_,_,_,_,rfl,fun _=>(by first | exact (ph _)),?_⟩ | refine ⟨_,_,_,_,rfl,fun _=>(by first | exact (ph _)),?_⟩); (first | refine o1 ?_ | refine o2 ?_ | refine o3 ?_ | refine o4 ?_)))
 | ((repeat refine si ?_); (first | ((first | refine .inl ⟨_,_,_,_,rfl,fun _=>pu (by first | exact awake_spec | exact s1 | exact s2 | exact s3 | exact s4 | exact F1 | exact F2 | exact n1 | exact b1 | exact b2 | exact q1 | exact l1),?_⟩ | refine ⟨_,_,_,_,rfl,fun _=>pu (by first | exact awake_spec | exact s1 | exact s2 | exact s3 | exact s4 | exact F1 | exact F2 | exact n1 | exact b1 | exact b2 | exact q1 | exact l1),?_⟩); (first | refine o1 ?_ | refine o2 ?_ | refine o3 ?_ | refine o4 ?_)) | refine .inl ⟨_,_,_,_,rfl,pu (by first | exact awake_spec | exact s1 | exact s2 | exact s3 | exact s4 | exact F1 | exact F2 | exact n1 | exact b1 | exact b2 | exact q1 | exact l1),?_⟩))
 | refine cF ?_
 | refine om ?_
 | refine an ?_
 | fail) <;> try simp only [zN, zT, zV, zS, zU, vcC, lateX, ex, strp, binA, elems, cells, scalar, eqC, keyA, intsA, lookA, ofVs, mpOf, Nat.reduceBEq, reduceAdd, reduceSub, reduceLT, reduceLeDiff, reduceMul, reduceEqDiff, reduceIte, hrow, hCl]))
          all_goals try (exfalso; omega)
          all_goals refine Frz.eq ?_ (by simp)
          all_goals simp
        · have hE2:foldE b (l++[w])=(rgr0,askedE b [l++[w]]):=by unfold foldE; rw [if_pos hb2]
          rw [hE2] at F2
          simp only at F2
          generalize askedE b [l++[w]]=e at F2 hb2
          generalize rgr0=R0 at F2
          generalize foldT b l=R at F1 hz hrow
          generalize l++[w]=L at F2 ph
          clear hE hE2 zl zR hget hw hb hl hs hc4 ha
          (repeat' ((first
 | refine vn rfl ?_
 | simp (disch:=omega) only [wr64,Int.zero_sub]
 | refine bo (fun _=>?_) fun _=>?_
 | refine im fun _=>?_
 | ((repeat refine si ?_); ((first | refine .inl ⟨_,_,_,_,rfl,fun _=>(by first | exact (ph _)),?_⟩ | refine ⟨_,_,_,_,rfl,fun _=>(by first | exact (ph _)),?_⟩); (first | refine o1 ?_ | refine o2 ?_ | refine o3 ?_ | refine o4 ?_)))
 | ((repeat refine si ?_); (first | ((first | refine .inl ⟨_,_,_,_,rfl,fun _=>pu (by first | exact awake_spec | exact s1 | exact s2 | exact s3 | exact s4 | exact F1 | exact F2),?_⟩ | refine ⟨_,_,_,_,rfl,fun _=>pu (by first | exact awake_spec | exact s1 | exact s2 | exact s3 | exact s4 | exact F1 | exact F2),?_⟩); (first | refine o1 ?_ | refine o2 ?_ | refine o3 ?_ | refine o4 ?_)) | refine .inl ⟨_,_,_,_,rfl,pu (by first | exact awake_spec | exact s1 | exact s2 | exact s3 | exact s4 | exact F1 | exact F2),?_⟩))
 | refine cF ?_
 | refine om ?_
 | refine an ?_
 | fail) <;> try simp only [zN, zT, zV, zS, zU, vcC, lateX, ex, strp, binA, elems, cells, scalar, eqC, keyA, intsA, lookA, ofVs, mpOf, Nat.reduceBEq, reduceAdd, reduceSub, reduceLT, reduceLeDiff, reduceMul, reduceEqDiff, reduceIte, hrow]))
          all_goals try (exfalso; omega)
          all_goals exact Frz.eq rfl (by simp)
      · generalize foldT b l=R at F1 hz
        clear hE zR hb hl hs hc4 ha
        ((refine Ay (And.intro @awake_spec (And.intro @s1 (And.intro @s2 (And.intro @s3 (And.intro @s4 @F1))))) ?_;repeat' first|exact True.intro|refine Cj.mk ?_ ?_)<;>intros<;>refine hD_ ?_)
        all_goals try (exfalso; omega)
        all_goals exact Frz.eq rfl (by simp)
    · have hE:foldE b l=(rgr0,askedE b [l]):=by unfold foldE; rw [if_pos ha]
      rw [hE] at F1
      simp only at F1
      generalize askedE b [l]=e at F1 ha
      clear hE hb hl hs hc4
      ((refine Ay (And.intro @awake_spec (And.intro @s1 (And.intro @s2 (And.intro @s3 (And.intro @s4 @F1))))) ?_;repeat' first|exact True.intro|refine Cj.mk ?_ ?_)<;>intros<;>refine hD_ ?_)
      all_goals try (exfalso; omega)
      all_goals exact Frz.eq rfl (by simp)
  · clear hb hl hs hc4
    cases c1 with
    | false =>
      ((refine Ay (And.intro @awake_spec (And.intro @s1 (And.intro @s2 (And.intro @s3 @s4)))) ?_;repeat' first|exact True.intro|refine Cj.mk ?_ ?_)<;>intros<;>refine hD_ ?_)
      all_goals try (exfalso; omega)
      all_goals exact Frz.eq rfl (by simp)
    | true =>
      cases c2 with
      | false =>
        ((refine Ay (And.intro @awake_spec (And.intro @s1 (And.intro @s2 (And.intro @s3 @s4)))) ?_;repeat' first|exact True.intro|refine Cj.mk ?_ ?_)<;>intros<;>refine hD_ ?_)
        all_goals try (exfalso; omega)
        all_goals exact Frz.eq rfl (by simp)
      | true =>
        by_cases h40:l.length≤40
        · cases c3 with
          | false =>
            ((refine Ay (And.intro @awake_spec (And.intro @s1 (And.intro @s2 (And.intro @s3 @s4)))) ?_;repeat' first|exact True.intro|refine Cj.mk ?_ ?_)<;>intros<;>refine hD_ ?_)
            all_goals try (exfalso; omega)
            all_goals exact Frz.eq rfl (by simp)
          | true =>
            cases c4 with
            | true =>
              ((refine Ay (And.intro @awake_spec (And.intro @s1 (And.intro @s2 (And.intro @s3 @s4)))) ?_;repeat' first|exact True.intro|refine Cj.mk ?_ ?_)<;>intros<;>refine hD_ ?_)
              all_goals try (exfalso; omega)
              all_goals exact Frz.eq rfl (by simp)
            | false=>exact absurd ⟨rfl,rfl,h40,rfl,rfl⟩ hg
        · ((refine Ay (And.intro @awake_spec (And.intro @s1 (And.intro @s2 (And.intro @s3 @s4)))) ?_;repeat' first|exact True.intro|refine Cj.mk ?_ ?_)<;>intros<;>refine hD_ ?_)
          all_goals try (exfalso; omega)
          all_goals first
            | exact Frz.eq rfl (by simp)
            | (exfalso; rename_i h; rw [decide_eq_true (show (40:Int) < l.length by omega)] at h; simp at h)
end Go.Proofs.YtolgelipcgcbhaaGreat
