/- Part 12 of the texts that the claim rests on: abstract values over the walk, and contracts of functions. -/
import Derived.Test.YtolgelipcgcbhaaGreatBl11
import Derived.Test.YtolgelipcgcbhaaGreatRows
import Derived.ChangeArms
import Derived.DataReads
import Derived.WalkKit
import Derived.ProofKit
import Derived.OpenShut
import Derived.ShutString
import Derived.ChangeOld
import Derived.Below
namespace Go.Abs
set_option linter.unusedVariables false
set_option linter.unusedSimpArgs false
theorem setE_len {b:Bse} {l:List Nt} (h:(setE b l).1=0):l.length≤400:=(setE_ok h).2.1
end Go.Abs
namespace Go.Proofs.YtolgelipcgcbhaaGreat
open Go.Abs
open Nat (reduceAdd reduceSub reduceLT reduceLeDiff reduceMul reduceEqDiff)
set_option linter.unusedVariables false
set_option linter.unusedSimpArgs false
set_option maxHeartbeats 4000000
set_option maxRecDepth 100000
theorem foldSz {b:Bse} {l:List Nt} (hl:setSz l) (ok:(setE b l).1=0):rgrSz (foldT b l):=by
  have hn:=setE_nodup ok
  have hl4:=setE_len ok
  have hS:=standT_len l
  have hSm:∀ a∈standT l,a∈l:=fun a ha=>(mem_standT.1 ha).1
  rw [foldT_ref b hn]
  refine ⟨⟨?_,fun f hf=>?_⟩,?_,?_,?_⟩
  · show (shsR (standT l) (standT l)).length < _
    rw [shsR_ent,List.length_map]
    have h1:=(entN_sub (standT l) (standT l)).length_le
    have h2:=List.length_filter_le (kd 1) (standT l)
    omega
  · have hf':f∈(entN (standT l) (standT l)).map (fld (standT l)):=by rw [← shsR_ent]; exact hf
    obtain ⟨a,ha,rfl⟩:=List.mem_map.1 hf'
    have h1:=mks_len (standT_nodup hn) a.nm
    refine ⟨hl.2 a (hSm a (entN_mem ha).1),?_,?_⟩
    · show (List.map _ _).length < _
      rw [List.length_map]; omega
    · show (List.map _ _).length < _
      rw [List.length_map]; omega
  · show (List.map _ _).length < _
    rw [List.length_map]
    have h2:=List.length_filter_le (kd 3) (standT l)
    omega
  · have h1:=(SameS.stsR (setE_ok ok).1.1 (standT l)).ok
    obtain ⟨g1,g2⟩:=stns_small h1
    exact ⟨by show (stsR b.stns (standT l)).length < _; omega,fun s hs=>by have:=g2 s hs; omega⟩
  · show (List.map _ _).length < _
    rw [List.length_map]
    have h2:=List.length_filter_le (badR b l) l
    omega
def c4:CF:=⟨130,(jo [jx 4 26 6 0,jb 8 false] [1,2,3,4]
 (jo [jy 22 18 [],jm 9 22] [1,2,3,4,9]
 (.seq (jo [jk 23 6 4,jy 24 19 [23],jv 25 24,jm 26 25,jd 26 (jm 27 1),jd 26 (jy 28 20 [27]),jd 26 (jv 29 28),jq 30 26 29] [1,2,3,4,9,30]
 (.cond (.t 30) (jo [jm 31 9,jm 8 31] [8]
 .ret)
 .skip))
 (jo [jk 33 6 4,jm 34 1,jy 35 21 [33,34],jm 32 35,jz 36 0 32,jz 37 1 32,jw 10 (.alloc 37 4 [.slice none 0 0,.slice none 0 0,.slice none 0 0,.slice none 0 0]),js 4 10 36,jm 11 37] [1,2,3,4,9,10,11]
 (jo [jk 39 6 4,jm 40 1,jw 41 (.call (.f 23) [(.t 39),(.t 40),(.c (.int .i64 10000)),(.c (.int .i64 1099511627776))]),jm 38 41,jz 42 0 38,jz 43 1 38,jw 12 (.alloc 37 4 [.slice none 0 0,.slice none 0 0,.slice none 0 0,.slice none 0 0]),js 4 12 42,jm 13 43] [1,2,3,4,9,10,11,12,13]
 (.seq (jo [jm 44 11,jm 45 13,jt .neq 46 44 45,jm 47 46,jd 47 (jk 48 4 10),jd 47 (jk 49 4 12),jd 47 (jy 50 27 [48,49]),jd 47 (jv 51 50),jq 52 47 51] [1,2,3,4,9,11,52]
 (.cond (.t 52) (jo [jb 8 false] [8]
 .ret)
 .skip))
 (.seq (jo [jm 53 11,ju .neq 54 53 0] [1,2,3,4,9,54]
 (.cond (.t 54) (jo [jm 55 9,jm 8 55] [8]
 .ret)
 .skip))
 (jo [jn 14] [1,2,3,4,9,14]
 (.seq (jo [jc 15 0] [1,2,3,4,9,14,15]
 (.block 0 (.loop (.seq (jo [jm 56 15,jm 57 1,je 58 57,jt .lss 59 56 58] [1,2,3,4,9,14,15,59]
 (.cond (.t 59) .skip
 (.exit 0)))
 (.seq (.block 1 (jo [jm 62 1,jm 63 15,ji 64 38 62 63,jf 65 3 64,jl 66 65,jm 67 2,jt .leq 68 66 67,jm 69 68,ja 69 (jm 70 1),ja 69 (jm 71 15),ja 69 (ji 72 38 70 71),ja 69 (jf 73 2 72),ja 69 (jl 74 73),ja 69 (jm 75 3),ja 69 (jt .leq 76 74 75),jp 77 69 76] [1,2,3,4,9,14,15,77]
 (.cond (.t 77) (.ops [jm 78 14,jm 79 1,jm 80 15,ji 81 38 79 80,jk 82 38 81,jw 83 (.bsl false 68 38 1 z38 [(0,38,(.t 82))]),jw 84 (.app 68 38 368 (.t 78) (.t 83)),jm 14 84] [1,2,3,4,9,14,15])
 .skip)))
 (.ops [jm 60 15,ju .add 61 60 1,jm 15 61] [1,2,3,4,9,14,15]))))))
 (jo [jk 86 6 4,jm 87 1,jm 88 2,jm 89 3,jy 90 23 [86,87,88,89],jm 85 90,jz 91 0 85,jz 92 1 85,jw 16 (.alloc 37 4 [.slice none 0 0,.slice none 0 0,.slice none 0 0,.slice none 0 0]),js 4 16 91,jm 17 92] [2,3,4,9,14,16,17]
 (jo [jk 94 6 4,jm 95 14,jm 96 2,jm 97 3,jy 98 23 [94,95,96,97],jm 93 98,jz 99 0 93,jz 100 1 93,jw 18 (.alloc 37 4 [.slice none 0 0,.slice none 0 0,.slice none 0 0,.slice none 0 0]),js 4 18 99,jm 19 100] [4,9,14,16,17,18,19]
 (jo [jk 102 6 4,jm 103 14,jy 104 21 [102,103],jm 101 104,jz 105 0 101,jz 106 1 101,jw 20 (.alloc 37 4 [.slice none 0 0,.slice none 0 0,.slice none 0 0,.slice none 0 0]),js 4 20 105,jm 21 106] [9,16,17,18,19,20,21]
 (jo [jm 107 9,jm 108 107,ja 108 (jm 109 17),ja 108 (ju .eql 110 109 0),jp 111 108 110,jm 112 111,ja 112 (jm 113 19),ja 112 (ju .eql 114 113 0),jp 115 112 114,jm 116 115,ja 116 (jm 117 21),ja 116 (ju .eql 118 117 0),jp 119 116 118,jm 120 119,ja 120 (jk 121 4 16),ja 120 (jk 122 4 18),ja 120 (jy 123 27 [121,122]),jp 124 120 123,jm 125 124,ja 125 (jk 126 4 16),ja 125 (jk 127 4 20),ja 125 (jy 128 27 [126,127]),jp 129 125 128,jm 8 129] [8]
 .ret))))))))))))),[.t 8]⟩
theorem k4:chkF Tryz.prog Tryz.f4 c4=true:=by kernel_rfl
theorem setSz.sub {l m:List Nt} (hl:setSz l) (hm:m.Sublist l):setSz m:=⟨Nat.lt_of_le_of_lt hm.length_le hl.1,fun a ha=>hl.2 a (hm.subset ha)⟩
def c6:CF:=⟨96,(jo [jx 3 26 6 0,jb 6 false] [1,2,3]
 (jo [jy 13 18 [],jm 7 13] [1,2,3,7]
 (.seq (jo [jk 14 6 3,jy 15 19 [14],jv 16 15,jm 17 16,jd 17 (jm 18 1),jd 17 (jy 19 20 [18]),jd 17 (jv 20 19),jq 21 17 20,jm 22 21,jd 22 (jm 23 1),jd 22 (je 24 23),jd 22 (ju .gtr 25 24 40),jq 26 22 25,jm 27 26,jd 27 (jm 28 2),jd 27 (ju .lss 29 28 0),jq 30 27 29,jm 31 30,jd 31 (jm 32 2),jd 31 (jm 33 1),jd 31 (je 34 33),jd 31 (jt .geq 35 32 34),jq 36 31 35,jm 37 36,jd 37 (jm 38 1),jd 37 (jm 39 2),jd 37 (ji 40 38 38 39),jd 37 (jf 41 4 40),jd 37 (jl 42 41),jd 37 (ju .eql 43 42 7),jq 44 37 43] [1,2,3,7,44]
 (.cond (.t 44) (jo [jm 45 7,jm 6 45] [6]
 .ret)
 .skip))
 (.seq (.draww [1,2,3,5,6,7,8,0,4,9,10] [0,1,2,3,4,5,6] 2 [jm 47 1,jm 48 2,jw 49 (.slice 38 (.t 47) none (some (.t 48))),jm 51 1,jm 52 2,ju .add 53 52 1,jw 54 (.slice 38 (.t 51) (some (.t 53)) none)] [jw 46 (.bsl true 68 38 0 [] []),jw 50 (.app 68 38 368 (.t 46) (.t 49)),jw 55 (.app 68 38 368 (.t 50) (.t 54)),jm 8 55] [1,2,3,7,8])
 (.seq (.drawl 18 [jk 57 6 3,jm 58 1,jm 59 1,jm 60 2,ji 61 38 59 60,jf 62 0 61,jl 63 62,jm 64 1,jm 65 2,ji 66 38 64 65,jf 67 1 66,jl 68 67,jw 69 (.build [.int .i64 0,.int .i64 0] [(0,1,(.t 63)),(1,1,(.t 68))]),jw 70 (.build z38 [(4,1,(.c (.int .i64 7))),(36,2,(.t 69))]),jy 71 31 [58,70],jy 72 21 [57,71],jm 56 72,jz 73 0 56,jz 74 1 56,jw 9 (.alloc 37 4 [.slice none 0 0,.slice none 0 0,.slice none 0 0,.slice none 0 0])] [js 4 9 73,jm 10 74] [3,7,8,9,10])
 (jo [jk 76 6 3,jm 77 8,jy 78 21 [76,77],jm 75 78,jz 79 0 75,jz 80 1 75,jw 11 (.alloc 37 4 [.slice none 0 0,.slice none 0 0,.slice none 0 0,.slice none 0 0]),js 4 11 79,jm 12 80] [7,9,10,11,12]
 (.seq (jo [jm 81 10,ju .neq 82 81 0] [7,9,11,12,82]
 (.cond (.t 82) (jo [jm 83 7,jm 6 83] [6]
 .ret)
 .skip))
 (.seq (.draw [jm 84 7,jm 85 84,ja 85 (jm 86 12),ja 85 (ju .eql 87 86 0),jp 88 85 87,jm 89 88,ja 89 (jk 90 4 9),ja 89 (jy 91 32 [90]),ja 89 (jk 92 4 11),ja 89 (jy 93 32 [92]),ja 89 (jy 94 27 [91,93]),jp 95 89 94,jm 6 95] [] [6])
 .ret)))))))),[.t 6]⟩
theorem k6:chkF Tryz.prog Tryz.f6 c6=true:=by kernel_rfl
def RL:List AV→List AV→Prop
  | [],[]=>True
  | a::r,b::s=>(∀ w X x,RV w X nob [] a x→RV w X nob [] b x)∧RL r s
  | _,_=>False
theorem RL.len:∀ {cs ds:List AV},RL cs ds→cs.length=ds.length
  | [],[],_=>rfl
  | [],_::_,h=>h.elim
  | _::_,[],h=>h.elim
  | _::_,_::_,h=>by simp [RL.len h.2]
theorem RL.get:∀ {cs ds:List AV},RL cs ds→∀ i,i < cs.length→∀ w X x,RV w X nob [] (cs.getD i .any) x→RV w X nob [] (ds.getD i .any) x
  | [],_,_,i,hi=>absurd hi (Nat.not_lt_zero _)
  | _::_,[],h,_,_=>h.elim
  | _::_,_::_,h,0,_=>h.1
  | _::r,_::s,h,i+1,hi=>by simpa using RL.get h.2 i (by simpa using hi)
theorem RL.agg {cs ds:List AV} (h:RL cs ds) {w:World} {X:Nat→Prop} {x:Value} (hx:RV w X nob [] (.agg cs) x):RV w X nob [] (.agg ds) x:=by
  cases hx with
  | agg _ xs hn h1 hr =>
    have hl:=h.len
    exact .agg ds xs (hn.trans hl) (fun i hi=>h1 i (by omega)) fun i hi=>h.get i (by omega) w X _ (hr i (by omega))
def c7:CF:=⟨106,(jo [jx 4 26 6 0,jx 7 60 18 3,jb 8 false] [1,2,4,7]
 (jo [jy 14 18 [],jm 9 14] [1,2,4,7,9]
 (.seq (jo [jk 15 6 4,jy 16 19 [15],jv 17 16,jm 18 17,jd 18 (jm 19 1),jd 18 (jy 20 20 [19]),jd 18 (jv 21 20),jq 22 18 21,jm 23 22,jd 23 (jm 24 1),jd 23 (je 25 24),jd 23 (ju .gtr 26 25 40),jq 27 23 26,jm 28 27,jd 28 (jk 29 18 7),jd 28 (jy 30 33 [29]),jd 28 (jv 31 30),jq 32 28 31,jm 33 32,jd 33 (jm 34 1),jd 33 (jy 35 34 [34]),jq 36 33 35] [1,2,4,7,9,36]
 (.cond (.t 36) (jo [jm 37 9,jm 8 37] [8]
 .ret)
 .skip))
 (jo [jk 39 6 4,jm 40 1,jy 41 21 [39,40],jm 38 41,jz 42 0 38,jz 43 1 38,jw 10 (.alloc 37 4 [.slice none 0 0,.slice none 0 0,.slice none 0 0,.slice none 0 0]),js 4 10 42,jm 11 43] [1,2,4,7,9,10,11]
 (.seq (jo [jm 44 11,ju .neq 45 44 0,jm 46 45,jd 46 (jm 47 2),jd 46 (ju .lss 48 47 0),jq 49 46 48,jm 50 49,jd 50 (jm 51 2),jd 50 (jf 52 0 10),jd 50 (jl 53 52),jd 50 (je 54 53),jd 50 (jt .geq 55 51 54),jq 56 50 55] [1,2,4,7,9,10,56]
 (.cond (.t 56) (jo [jm 57 9,jm 8 57] [8]
 .ret)
 .skip))
 (.seq (.drawl 20 [jk 59 6 4,jm 60 1,jf 61 0 10,jl 62 61,jm 63 2,ji 64 24 62 63,jf 65 2 64,jl 66 65,jf 67 0 10,jl 68 67,jm 69 2,ji 70 24 68 69,jf 71 3 70,jl 72 71,jk 73 18 7,jw 74 (.build z38 [(4,1,(.c (.int .i64 1))),(5,1,(.t 66)),(6,1,(.t 72)),(7,18,(.t 73))]),jy 75 31 [60,74],jy 76 21 [59,75],jm 58 76,jz 77 0 58,jz 78 1 58,jw 12 (.alloc 37 4 [.slice none 0 0,.slice none 0 0,.slice none 0 0,.slice none 0 0])] [js 4 12 77,jm 13 78] [9,10,12,13])
 (.seq (jo [jm 79 13,ju .neq 80 79 0] [9,10,12,80]
 (.cond (.t 80) (jo [jm 81 9,jm 8 81] [8]
 .ret)
 .skip))
 (.seq (.draw [jm 82 9,jm 83 82,ja 83 (jf 84 3 12),ja 83 (jl 85 84),ja 83 (jy 86 35 []),ja 83 (jy 87 30 [85,86]),jp 88 83 87,jm 89 88,ja 89 (jf 90 3 12),ja 89 (jl 91 90),ja 89 (je 92 91),ja 89 (jf 93 3 10),ja 89 (jl 94 93),ja 89 (je 95 94),ja 89 (ju .add 96 95 1),ja 89 (jt .eql 97 92 96),jp 98 89 97,jm 99 98,ja 99 (jk 100 4 10),ja 99 (jy 101 32 [100]),ja 99 (jk 102 4 12),ja 99 (jy 103 32 [102]),ja 99 (jy 104 27 [101,103]),jp 105 99 104,jm 8 105] [] [8])
 .ret)))))))),[.t 8]⟩
theorem k7:chkF Tryz.prog Tryz.f7 c7=true:=by kernel_rfl
theorem fold_mks {b:Bse} {l:List Nt} {x:Fld} (ok:(setE b l).1=0) (hx:x∈(foldT b l).sheets):x.marks.length≤64∧x.names.length≤64:=by
  have hn:=setE_nodup ok
  rw [foldT_ref b hn] at hx
  have hf':x∈(entN (standT l) (standT l)).map (fld (standT l)):=by rw [← shsR_ent]; exact hx
  obtain ⟨a,ha,rfl⟩:=List.mem_map.1 hf'
  have h1:=mks_len (standT_nodup hn) a.nm
  refine ⟨?_,?_⟩
  · show (List.map _ _).length≤_
    rw [List.length_map]; exact h1
  · show (List.map _ _).length≤_
    rw [List.length_map]; exact h1
def c8:CF:=⟨209,(jo [jx 2 26 6 0,jb 4 false] [1,2]
 (jo [jy 20 18 [],jm 5 20] [1,2,5]
 (.seq (jo [jk 21 6 2,jy 22 19 [21],jv 23 22,jm 24 23,jd 24 (jm 25 1),jd 24 (jy 26 20 [25]),jd 24 (jv 27 26),jq 28 24 27,jm 29 28,jd 29 (jm 30 1),jd 29 (je 31 30),jd 29 (ju .gtr 32 31 40),jq 33 29 32] [1,2,5,33]
 (.cond (.t 33) (jo [jm 34 5,jm 4 34] [4]
 .ret)
 .skip))
 (jo [jk 36 6 2,jm 37 1,jy 38 21 [36,37],jm 35 38,jz 39 0 35,jz 40 1 35,jw 6 (.alloc 37 4 [.slice none 0 0,.slice none 0 0,.slice none 0 0,.slice none 0 0]),js 4 6 39,jm 7 40] [2,5,6,7]
 (.seq (jo [jm 41 7,ju .neq 42 41 0] [2,5,6,42]
 (.cond (.t 42) (jo [jm 43 5,jm 4 43] [4]
 .ret)
 .skip))
 (jo [jk 45 4 6,jy 46 36 [45],jm 44 46,jz 47 0 44,jz 48 1 44,jm 8 47,jm 9 48] [2,5,6,8,9]
 (.seq (jo [jm 49 9,ju .neq 50 49 0] [2,5,6,8,50]
 (.cond (.t 50) (jo [jb 4 false] [4]
 .ret)
 .skip))
 (jo [jc 10 0] [2,5,6,8,10]
 (jo [jc 11 0] [2,5,6,8,10,11]
 (.seq (jo [jc 12 0] [2,5,6,8,10,11,12]
 (.block 0 (.loop (.seq (jo [jm 51 12,jm 52 8,je 53 52,jt .lss 54 51 53] [2,5,6,8,10,11,12,54]
 (.cond (.t 54) .skip
 (.exit 0)))
 (.seq (.block 1 (.seq (.drawl 9 [jk 58 6 2,jk 59 4 6,jm 60 8,jm 61 12,ji 62 1 60 61,jl 63 62,jy 64 37 [58,59,63],jm 57 64,jz 65 0 57,jz 66 1 57,jw 13 (.alloc 86 9 [.slice none 0 0,.int .i64 0,.int .i64 0,.int .i64 0,.int .i64 0,.int .i64 0,.int .i64 0,.slice none 0 0,.slice none 0 0])] [js 9 13 65,jm 14 66] [2,5,6,8,10,11,12,13,14])
 (.seq (.seq (.draw [jm 67 14,ju .neq 68 67 0,jm 69 68,jd 69 (jf 70 6 13),jd 69 (jl 71 70),jd 69 (jm 72 8),jd 69 (jm 73 12),jd 69 (ji 74 1 72 73),jd 69 (jl 75 74),jd 69 (jt .neq 76 71 75),jq 77 69 76,jm 78 77,jd 78 (jf 79 7 13),jd 78 (jl 80 79),jd 78 (je 81 80),jd 78 (jf 82 8 13),jd 78 (jl 83 82),jd 78 (je 84 83),jd 78 (jt .add 85 81 84),jd 78 (ju .eql 86 85 0),jq 87 78 86,jm 88 87,jd 88 (jm 89 12),jd 88 (ju .gtr 90 89 0),jd 88 (jm 91 90),ja 91 (jm 92 8),ja 91 (jm 93 12),ja 91 (ji 94 1 92 93),ja 91 (jl 95 94),ja 91 (jm 96 8),ja 91 (jm 97 12),ja 91 (ju .sub 98 97 1),ja 91 (ji 99 1 96 98),ja 91 (jl 100 99),ja 91 (jt .leq 101 95 100),jd 88 (jp 102 91 101),jq 103 88 102,jm 104 103,jd 104 (jf 105 0 13),jd 104 (jf 106 0 105),jd 104 (jl 107 106),jd 104 (jf 108 2 6),jd 104 (jl 109 108),jd 104 (jy 110 38 [107,109]),jd 104 (jv 111 110),jq 112 104 111] [] [2,5,6,8,10,11,12,13,112])
 (.cond (.t 112) (jo [jb 4 false] [4]
 .ret)
 .skip))
 (.seq (jo [jc 15 0] [2,5,6,8,10,11,12,13,15]
 (.block 2 (.loop (.seq (jo [jm 113 15,jf 114 7 13,jl 115 114,je 116 115,jt .lss 117 113 116] [2,5,6,8,10,11,12,13,15,117]
 (.cond (.t 117) .skip
 (.exit 2)))
 (.seq (.block 3 (jo [jf 120 7 13,jl 121 120,jm 122 15,ji 123 24 121 122,jk 124 24 123,jw 16 (.alloc 72 24 z24),js 24 16 124] [2,5,6,8,10,11,12,13,15,16]
 (.seq (.draw [jk 126 4 6,jf 127 2 16,jl 128 127,jm 129 8,jm 130 12,ji 131 1 129 130,jl 132 131,jy 133 39 [126,128,132],jm 125 133,jz 134 0 125,jz 135 1 125,jm 17 134,jm 18 135] [] [2,5,6,8,10,11,12,13,15,16,17,18])
 (.seq (.draw [jm 136 18,ju .neq 137 136 0,jm 138 137,jd 138 (jf 139 0 6),jd 138 (jl 140 139),jd 138 (jm 141 17),jd 138 (ji 142 24 140 141),jd 138 (jk 143 24 142),⟨some 144,.bsl false 72 24 1 z24 [(0,24,(.t 143))],some (138,false)⟩,jd 138 (jk 145 24 16),⟨some 146,.bsl false 72 24 1 z24 [(0,24,(.t 145))],some (138,false)⟩,jd 138 (jy 147 40 [144,146]),jd 138 (jv 148 147),jq 149 138 148,jm 150 149,jd 150 (jm 151 15),jd 150 (ju .gtr 152 151 0),jd 150 (jm 153 152),ja 153 (jf 154 2 16),ja 153 (jl 155 154),ja 153 (jf 156 7 13),ja 153 (jl 157 156),ja 153 (jm 158 15),ja 153 (ju .sub 159 158 1),ja 153 (ji 160 24 157 159),ja 153 (jf 161 2 160),ja 153 (jl 162 161),ja 153 (jt .leq 163 155 162),jd 150 (jp 164 153 163),jq 165 150 164] [] [2,5,6,8,10,11,12,13,15,165])
 (.cond (.t 165) (jo [jb 4 false] [4]
 .ret)
 .skip)))))
 (.ops [jm 118 15,ju .add 119 118 1,jm 15 119] [2,5,6,8,10,11,12,13,15]))))))
 (.seq (jo [jc 19 0] [2,5,6,8,10,11,12,13,19]
 (.block 4 (.loop (.seq (jo [jm 166 19,jf 167 8 13,jl 168 167,je 169 168,jt .lss 170 166 169] [2,5,6,8,10,11,12,13,19,170]
 (.cond (.t 170) .skip
 (.exit 4)))
 (.seq (.block 5 (.seq (.draw [jf 173 8 13,jl 174 173,jm 175 19,ji 176 5 174 175,jf 177 1 176,jl 178 177,jm 179 8,jm 180 12,ji 181 1 179 180,jl 182 181,jt .neq 183 178 182] [] [2,5,6,8,10,11,12,13,19,183])
 (.cond (.t 183) (jo [jb 4 false] [4]
 .ret)
 .skip)))
 (.ops [jm 171 19,ju .add 172 171 1,jm 19 172] [2,5,6,8,10,11,12,13,19]))))))
 (jo [jm 184 10,jf 185 7 13,jl 186 185,je 187 186,jt .add 188 184 187,jm 10 188] [2,5,6,8,10,11,12,13]
 (.ops [jm 189 11,jf 190 8 13,jl 191 190,je 192 191,jt .add 193 189 192,jm 11 193] [2,5,6,8,10,11,12])))))))
 (.ops [jm 55 12,ju .add 56 55 1,jm 12 56] [2,5,6,8,10,11,12]))))))
 (jo [jm 194 5,jm 195 194,ja 195 (jm 196 10),ja 195 (jf 197 0 6),ja 195 (jl 198 197),ja 195 (je 199 198),ja 195 (jt .eql 200 196 199),jp 201 195 200,jm 202 201,ja 202 (jm 203 11),ja 202 (jf 204 1 6),ja 202 (jl 205 204),ja 202 (je 206 205),ja 202 (jt .eql 207 203 206),jp 208 202 207,jm 4 208] [4]
 .ret))))))))))),[.t 4]⟩
theorem k8:chkF Tryz.prog Tryz.f8 c8=true:=by kernel_rfl
theorem foldT_weeks {b:Bse} {l:List Nt} (ok:(setE b l).1=0):WeeksT b l (foldT b l):=by
  rw [foldT_ref b (setE_nodup ok)]; exact weeksT_law ok
theorem nodup_le {α:Type} [DecidableEq α]:∀ {l m:List α},l.Nodup→l ⊆ m→l.length≤m.length
  | [],_,_,_=>Nat.zero_le _
  | a::l,m,h,hs=>by
    rw [List.nodup_cons] at h
    have ha:a∈m:=hs (by simp)
    have h1:=nodup_le (l:=l) (m:=m.erase a) h.2 fun x hx=>(List.mem_erase_of_ne (by rintro rfl; exact h.1 hx)).2 (hs (by simp [hx]))
    rw [List.length_erase_of_mem ha] at h1
    have:=List.length_pos_of_mem ha
    simp only [List.length_cons]; omega
theorem slight_C {s:Sht} (h:slightB s=true):shtC s:=by
  unfold slightB at h
  simp only [Bool.and_eq_true,Bool.or_eq_true,decide_eq_true_eq] at h
  unfold shtC
  omega
theorem fold_C {b:Bse} {l:List Nt} (ok:(setE b l).1=0) (h:fewB l=true):∀ f∈(foldT b l).sheets,fldC f:=by
  intro f hf
  have hm:=fold_mks ok hf
  rw [foldT_ref b (setE_nodup ok)] at hf
  have hf':f∈(entN (standT l) (standT l)).map (fld (standT l)):=by rw [← shsR_ent]; exact hf
  obtain ⟨a,ha,rfl⟩:=List.mem_map.1 hf'
  have hal:a∈l:=(mem_standT.1 (entN_mem ha).1).1
  unfold fewB at h
  simp only [Bool.and_eq_true] at h
  refine ⟨slight_C (List.all_eq_true.1 h.2 a hal),by omega,by omega⟩
theorem Weeks_law (b:Bse) (l:List Nt) (hb:bseSz b) (hl:setSz l):Pure Tryz.prog 8 [.agg b.cs,ntS l] (bl true):=by
  refine Pure.of_body Tryz.call8 Tryz.func8 k8 (Nat.le_of_ble_eq_true rfl) ?_
  unfold c8
  have s1:=small_spec b hb
  have s2:=few_spec l hl.1
  have hl0:=hl.1
  generalize smallB b=c1 at s1
  generalize hc2:fewB l=c2 at s2
  by_cases hg:c1=true∧c2=true∧l.length≤40
  · obtain ⟨rfl,rfl,h40⟩:=hg
    have F1:=Fold_spec b hb l hl
    by_cases ha:askedE b [l]=0
    · have hE:foldE b l=(foldT b l,0):=by unfold foldE; rw [if_neg (by omega)]
      rw [hE] at F1
      simp only at F1
      have ok:=askedE_one.1 ha
      have hset:=setE_ok ok
      have zR:=foldSz hl ok
      have hW:=foldT_weeks ok
      obtain ⟨hst1,hst2⟩:=stns_small (stnsT ok).1
      rw [← foldT_ref b (setE_nodup ok)] at hst1 hst2
      have zC:∀ f∈(foldT b l).sheets,fldC f:=fold_C ok hc2
      have w1:=Weeks_spec (foldT b l) (by have:=hW.len; omega) (by have:=hW.len; omega)
      have w2:=fun w=>WeekOf_of sortF b hb (foldT b l) w (Nat.lt_of_le_of_lt (List.length_filter_le _ _) (by have:=hW.len; omega)) (by omega) (fun s hs=>by have:=hst2 s hs; omega) zC (by have:=hW.len; omega) (by have:=hW.len; omega)
      have w3:∀ w∈weeksT (foldT b l),weekE b (foldT b l) w=(weekT b (foldT b l) w,0):=fun w hw=>by
        unfold weekE
        rw [if_neg (fun h=>h hset.1),if_neg (fun h=>h (hW.rng w hw)),if_neg]
        intro h
        have h1:(weekT b (foldT b l) w).sheets.length≤(foldT b l).sheets.length:=by
          show (srtF _).length≤_
          rw [srtF_len]; exact List.length_filter_le _ _
        have h2:(weekT b (foldT b l) w).reads.length≤(foldT b l).reads.length:=List.length_filter_le _ _
        have:=hW.len
        omega
      have so:=fun s w=>SheetOf_spec (foldT b l) zR.1.1 s w
      have ss:=sameStns (foldT b l).stns (foldT b l).stns zR.2.2.1 zR.2.2.1
      rw [decide_eq_true rfl] at ss
      have zF:∀ x∈(foldT b l).sheets,Pure Tryz.prog 40 [fdS [x],fdS [x]] (bl true):=fun x hx=>by
        have:=sameFld [x] [x] ⟨by simp,fun f hf=>by simp only [List.mem_singleton] at hf; subst hf; exact zR.1.2 _ hx⟩ ⟨by simp,fun f hf=>by simp only [List.mem_singleton] at hf; subst hf; exact zR.1.2 _ hx⟩
        rwa [decide_eq_true rfl] at this
      clear hE zR hset ok ha zC hst1 hst2 hc2 hb hl
      generalize foldT b l=R at F1 w1 w2 w3 so ss zF hW
      obtain ⟨ws,hws⟩:∃ ws,ws=weeksT R:=⟨_,rfl⟩
      rw [← hws] at w1 w3
      ((refine Ay (And.intro @awake_spec (And.intro @s1 (And.intro @s2 (And.intro @F1 @w1)))) ?_;repeat' first|exact True.intro|refine Cj.mk ?_ ?_)<;>intros<;>refine hD_ ?_)
      all_goals try (exfalso; omega)
      have hwl:ws.length≤80:=by
        have h1:=hW.wks
        rw [← hws] at h1
        have h2:ws.Nodup:=h1.imp fun {x y} h e=>by omega
        have h3:ws ⊆ R.sheets.map Fld.week++R.reads.map Rd.week:=fun x hx=>(weeksT_spec R).2 x |>.1 (hws ▸ hx)
        have h4:ws.length≤(R.sheets.map Fld.week++R.reads.map Rd.week).length:=nodup_le h2 h3
        have:=hW.len
        rw [List.length_append,List.length_map,List.length_map] at h4
        omega
      refine AWPC.loopE (α:={ x:Nat × Nat × Nat × Sto // x.1≤ws.length∧inWk Fld.week R.sheets (ws.take x.1)=x.2.1∧inWk Rd.week R.reads (ws.take x.1)=x.2.2.1 }) [10,11,12] (fun x=>[(10,n x.1.2.1),(11,n x.1.2.2.1),(12,n x.1.1)]) (fun x=>some [⟨37,4,[R.cs],none⟩]::x.1.2.2.2) (fun x=>ws.length - x.1.1) ⟨(0,0,0,[]),Nat.zero_le _,inWk_nil _ _,inWk_nil _ _⟩ ?_ rfl ?_
      · (simp only [zN,zT,zV,zS,zU,vcC,lateX,ex,strp,binA,elems,cells,scalar,eqC,keyA,intsA,lookA,ofVs,mpOf,Nat.reduceBEq,reduceAdd,reduceSub,reduceLT,reduceLeDiff,reduceMul,reduceEqDiff,reduceIte]; try simp)
      · rintro ⟨⟨i,a1,a2,μ⟩,hi,hA1,hA2⟩
        simp only at hi hA1 hA2 ⊢
        by_cases hlt:i < ws.length
        · have hget:=getD_lt (0:Int) hlt
          have r1:(ws.map fun z=>[n z]).getD i []=[n (ws.getD i 0)]:=getD_map hget
          have hmem:ws.getD i 0∈weeksT R:=hws ▸ List.mem_of_getElem? hget
          have w2:=w2 (ws.getD i 0)
          rw [w3 _ (List.mem_of_getElem? hget)] at w2
          have n1:=inWk_next Fld.week R.sheets (hws ▸ hW.wks) hget
          have n2:=inWk_next Rd.week R.reads (hws ▸ hW.wks) hget
          have r0:∃ y:Int,(ws.map fun z=>[n z]).getD ((i:Int) - 1).toNat []=[n y]∧(0 < i→y < ws.getD i 0):=by
            by_cases h0:0 < i
            · refine ⟨ws.getD (i - 1) 0,by rw [show ((i:Int) - 1).toNat=i - 1 by omega]; exact getD_map (getD_lt (0:Int) (by omega)),fun _=>?_⟩
              have h1:=hW.wks
              rw [← hws] at h1
              have:=List.pairwise_iff_getElem.1 h1 (i - 1) i (by omega) hlt (by omega)
              rw [List.getD_eq_getElem?_getD,List.getD_eq_getElem?_getD,List.getElem?_eq_getElem (by omega),List.getElem?_eq_getElem hlt]
              simpa using this
            · obtain rfl:i=0:=by omega
              exact ⟨ws.getD 0 0,getD_map hget,fun h=>absurd h h0⟩
          obtain ⟨y0,r0,hy0⟩:=r0
          have hfst:=hW.fst _ hmem
          have hsrt:=hW.srt (ws.getD i 0)
          have hS1:∀ x∈srtF (R.sheets.filter fun f=>f.week == ws.getD i 0),x∈R.sheets∧x.week=ws.getD i 0:=fun x hx=>by
            have:=List.mem_filter.1 (srtF_mem.1 hx)
            exact ⟨this.1,by simpa using this.2⟩
          have hD1:∀ x∈R.reads.filter fun f=>f.week == ws.getD i 0,x.week=ws.getD i 0:=fun x hx=>by
            simpa using (List.mem_filter.1 hx).2
          have hSl:(srtF (R.sheets.filter fun f=>f.week == ws.getD i 0)).length≤40:=by
            rw [srtF_len]
            have h1:=List.length_filter_le (fun f=>f.week == ws.getD i 0) R.sheets
            have:=hW.len
            omega
          have hDl:(R.reads.filter fun f=>f.week == ws.getD i 0).length≤40:=by
            have h1:=List.length_filter_le (fun f=>f.week == ws.getD i 0) R.reads
            have:=hW.len
            omega
          rw [← srtF_len] at n1
          have hI1:inWk Fld.week R.sheets (ws.take i)≤40:=by
            have h1:=List.length_filter_le (fun x=>decide (Fld.week x∈ws.take i)) R.sheets
            have:=hW.len
            show (R.sheets.filter fun x=>decide (Fld.week x∈ws.take i)).length≤40
            omega
          have hI2:inWk Rd.week R.reads (ws.take i)≤40:=by
            have h1:=List.length_filter_le (fun x=>decide (Rd.week x∈ws.take i)) R.reads
            have:=hW.len
            show (R.reads.filter fun x=>decide (Rd.week x∈ws.take i)).length≤40
            omega
          have hone:=hW.one
          simp only [weekT] at w2
          generalize srtF (R.sheets.filter fun f=>f.week == ws.getD i 0)=S at w2 n1 hfst hsrt hS1 hSl
          generalize (R.reads.filter fun f=>f.week == ws.getD i 0)=D at w2 n2 hfst hD1 hDl
          obtain ⟨w,hw⟩:∃ w,w=ws.getD i 0:=⟨_,rfl⟩
          rw [← hw] at r1 w2 hy0 hS1 hD1
          clear hW w1 w3 hget hmem hw hws
          rw [hA1] at n1 hI1
          rw [hA2] at n2 hI2
          ((refine Az (And.intro @r1 @r0) (And.intro @w2 @ss) ?_;repeat' first|exact True.intro|refine Cj.mk ?_ ?_)<;>intros<;>refine hD_ ?_)
          all_goals try (exfalso; omega)
          obtain ⟨W,hW⟩:∃ W:Sto,W=some [⟨37,4,[R.cs],none⟩]::(μ++[some [⟨86,9,[[snS R.stns,n b.fixed,n b.each,n b.term,n b.ticks,n b.clerks,n w,fdS S,rdS D]],none⟩]]):=⟨_,rfl⟩
          have hA:∀ ν,Sto.at (W++ν) 0 0=some ⟨37,4,[R.cs],none⟩:=fun ν=>by rw [hW]; rfl
          have hB:∀ ν,Sto.at (W++ν) (List.length μ+1) 0=some ⟨86,9,[[snS R.stns,n b.fixed,n b.each,n b.term,n b.ticks,n b.clerks,n w,fdS S,rdS D]],none⟩:=fun ν=>by
            rw [hW,List.cons_append,at_consS,List.append_assoc,at_app0]; rfl
          refine AWPC.loopE (α:={ x:Nat × Sto // x.1≤S.length }) [15] (fun x=>[(15,n x.1.1)]) (fun x=>W++x.1.2) (fun x=>S.length - x.1.1) ⟨(0,[]),Nat.zero_le _⟩ ?_ (by rw [hW]; simp) ?_
          · (simp only [zN,zT,zV,zS,zU,vcC,lateX,ex,strp,binA,elems,cells,scalar,eqC,keyA,intsA,lookA,ofVs,mpOf,Nat.reduceBEq,reduceAdd,reduceSub,reduceLT,reduceLeDiff,reduceMul,reduceEqDiff,reduceIte]; try simp)
          · rintro ⟨⟨j,ν⟩,hj⟩
            simp only at hj ⊢
            by_cases hjl:j < S.length
            · have hgj:=getD_lt fld0 hjl
              have q1:(S.map Fld.cs).getD j []=Fld.cs (S.getD j fld0):=getD_map hgj
              obtain ⟨hxR,hxw⟩:=hS1 _ (List.mem_of_getElem? hgj)
              obtain ⟨t,ho1,ho2⟩:=hone _ hxR
              rw [hxw] at ho1
              have so:=so (S.getD j fld0).stn w
              rw [ho1] at so
              simp only [foundE] at so
              have r4:(R.sheets.map Fld.cs).getD t []=Fld.cs (S.getD j fld0):=getD_map ho2
              have htl:=(List.getElem?_eq_some_iff.1 ho2).1
              have zF:Pure Tryz.prog 40 [.sl 24 [(S.getD j fld0).cs],.sl 24 [(S.getD j fld0).cs]] (bl true):=zF _ hxR
              have q0:∃ y:Fld,(S.map Fld.cs).getD ((j:Int) - 1).toNat []=y.cs∧(0 < j→y.stn < (S.getD j fld0).stn):=by
                by_cases h0:0 < j
                · refine ⟨S.getD (j - 1) fld0,by rw [show ((j:Int) - 1).toNat=j - 1 by omega]; exact getD_map (getD_lt fld0 (by omega)),fun _=>?_⟩
                  have:=List.pairwise_iff_getElem.1 hsrt (j - 1) j (by omega) hjl (by omega)
                  rw [List.getD_eq_getElem?_getD,List.getD_eq_getElem?_getD,List.getElem?_eq_getElem (by omega),List.getElem?_eq_getElem hjl]
                  simpa using this
                · obtain rfl:j=0:=by omega
                  exact ⟨S.getD 0 fld0,q1,fun h=>absurd h h0⟩
              obtain ⟨y,q0,hy⟩:=q0
              generalize S.getD j fld0=x at q1 so r4 zF hy
              have pk:=fun τ=>pu (τ:=τ) zF (fun a ha=>by
                simp only [List.mem_cons,List.not_mem_nil,or_false,or_self] at ha
                subst ha
                exact fdS_pure [x])
              clear hgj ho1 ho2 hone hsrt zF
              (repeat' ((first
 | refine vn rfl ?_
 | simp (disch:=omega) only [wr64,Int.zero_sub]
 | refine bo (fun _=>?_) fun _=>?_
 | refine im fun _=>?_
 | ((repeat refine si ?_); ((first | refine .inl ⟨_,_,_,_,rfl,fun _=>(by first | exact (pk _)),?_⟩ | refine ⟨_,_,_,_,rfl,fun _=>(by first | exact (pk _)),?_⟩); (first | refine o1 ?_ | refine o2 ?_ | refine o3 ?_ | refine o4 ?_)))
 | ((repeat refine si ?_); (first | ((first | refine .inl ⟨_,_,_,_,rfl,fun _=>pu so,?_⟩ | refine ⟨_,_,_,_,rfl,fun _=>pu so,?_⟩); (first | refine o1 ?_ | refine o2 ?_ | refine o3 ?_ | refine o4 ?_)) | refine .inl ⟨_,_,_,_,rfl,pu so,?_⟩))
 | refine cF ?_
 | refine om ?_
 | refine an ?_
 | fail) <;> try simp only [zN, zT, zV, zS, zU, vcC, lateX, ex, strp, binA, elems, cells, scalar, eqC, keyA, intsA, lookA, ofVs, mpOf, Nat.reduceBEq, reduceAdd, reduceSub, reduceLT, reduceLeDiff, reduceMul, reduceEqDiff, reduceIte, hA, hB, at_app, at_app0, upd_app, upd_app0, List.append_assoc, List.cons_append, List.nil_append, List.length_map, r1, q1, r4, q0]))
              all_goals try (exfalso; omega)
              all_goals exact ⟨⟨(j+1,_),hjl⟩,by simp,by simp only [List.append_assoc]; rfl,by simp only; omega⟩
            · obtain rfl:j=S.length:=by omega
              ((refine Ax (And.intro @hA @hB) ?_;repeat' first|exact True.intro|refine Cj.mk ?_ ?_)<;>intros<;>refine hD_ ?_)
              all_goals try (exfalso; omega)
              refine AWPC.loopS (α:={ k:Nat // k≤D.length }) [19] (fun k=>[(19,n k.1)]) (fun k=>D.length - k.1) ⟨0,Nat.zero_le _⟩ ?_ ?_
              · (simp only [zN,zT,zV,zS,zU,vcC,lateX,ex,strp,binA,elems,cells,scalar,eqC,keyA,intsA,lookA,ofVs,mpOf,Nat.reduceBEq,reduceAdd,reduceSub,reduceLT,reduceLeDiff,reduceMul,reduceEqDiff,reduceIte]; try simp)
              · rintro ⟨k,hk⟩
                by_cases hkl:k < D.length
                · have q1:(D.map Rd.cs).getD k []=Rd.cs (D.getD k rd0):=row rd0 hkl
                  have hdw:=hD1 _ (List.mem_of_getElem? (getD_lt rd0 hkl))
                  generalize D.getD k rd0=d at q1 hdw
                  ((first
 | refine vn rfl ?_
 | simp (disch:=omega) only [wr64,Int.zero_sub]
 | refine bo (fun _=>?_) fun _=>?_
 | refine im fun _=>?_
 | refine cF ?_
 | refine cG ?_
 | refine om ?_
 | refine an ?_
 | fail) <;> try simp only [zN, zT, zV, zS, zU, vcC, lateX, ex, strp, binA, elems, cells, scalar, eqC, keyA, intsA, lookA, ofVs, mpOf, Nat.reduceBEq, reduceAdd, reduceSub, reduceLT, reduceLeDiff, reduceMul, reduceEqDiff, reduceIte, hA, hB, r1, q1, List.length_map])
                  all_goals try (exfalso; omega)
                  ((first
 | refine vn rfl ?_
 | simp (disch:=omega) only [wr64,Int.zero_sub]
 | refine bo (fun _=>?_) fun _=>?_
 | refine im fun _=>?_
 | refine cF ?_
 | refine cG ?_
 | refine om ?_
 | refine an ?_
 | fail) <;> try simp only [zN, zT, zV, zS, zU, vcC, lateX, ex, strp, binA, elems, cells, scalar, eqC, keyA, intsA, lookA, ofVs, mpOf, Nat.reduceBEq, reduceAdd, reduceSub, reduceLT, reduceLeDiff, reduceMul, reduceEqDiff, reduceIte, hA, hB, r1, q1, List.length_map])
                  all_goals try (exfalso; omega)
                  ((first
 | refine vn rfl ?_
 | simp (disch:=omega) only [wr64,Int.zero_sub]
 | refine bo (fun _=>?_) fun _=>?_
 | refine im fun _=>?_
 | refine cF ?_
 | refine cG ?_
 | refine om ?_
 | refine an ?_
 | fail) <;> try simp only [zN, zT, zV, zS, zU, vcC, lateX, ex, strp, binA, elems, cells, scalar, eqC, keyA, intsA, lookA, ofVs, mpOf, Nat.reduceBEq, reduceAdd, reduceSub, reduceLT, reduceLeDiff, reduceMul, reduceEqDiff, reduceIte, hA, hB, r1, q1, List.length_map])
                  all_goals try (exfalso; omega)
                  ((first
 | refine vn rfl ?_
 | simp (disch:=omega) only [wr64,Int.zero_sub]
 | refine bo (fun _=>?_) fun _=>?_
 | refine im fun _=>?_
 | refine cF ?_
 | refine cG ?_
 | refine om ?_
 | refine an ?_
 | fail) <;> try simp only [zN, zT, zV, zS, zU, vcC, lateX, ex, strp, binA, elems, cells, scalar, eqC, keyA, intsA, lookA, ofVs, mpOf, Nat.reduceBEq, reduceAdd, reduceSub, reduceLT, reduceLeDiff, reduceMul, reduceEqDiff, reduceIte, hA, hB, r1, q1, List.length_map])
                  all_goals try (exfalso; omega)
                  ((first
 | refine vn rfl ?_
 | simp (disch:=omega) only [wr64,Int.zero_sub]
 | refine bo (fun _=>?_) fun _=>?_
 | refine im fun _=>?_
 | refine cF ?_
 | refine cG ?_
 | refine om ?_
 | refine an ?_
 | fail) <;> try simp only [zN, zT, zV, zS, zU, vcC, lateX, ex, strp, binA, elems, cells, scalar, eqC, keyA, intsA, lookA, ofVs, mpOf, Nat.reduceBEq, reduceAdd, reduceSub, reduceLT, reduceLeDiff, reduceMul, reduceEqDiff, reduceIte, hA, hB, r1, q1, List.length_map])
                  all_goals try (exfalso; omega)
                  ((first
 | refine vn rfl ?_
 | simp (disch:=omega) only [wr64,Int.zero_sub]
 | refine bo (fun _=>?_) fun _=>?_
 | refine im fun _=>?_
 | refine cF ?_
 | refine cG ?_
 | refine om ?_
 | refine an ?_
 | fail) <;> try simp only [zN, zT, zV, zS, zU, vcC, lateX, ex, strp, binA, elems, cells, scalar, eqC, keyA, intsA, lookA, ofVs, mpOf, Nat.reduceBEq, reduceAdd, reduceSub, reduceLT, reduceLeDiff, reduceMul, reduceEqDiff, reduceIte, hA, hB, r1, q1, List.length_map])
                  all_goals try (exfalso; omega)
                  ((first
 | refine vn rfl ?_
 | simp (disch:=omega) only [wr64,Int.zero_sub]
 | refine bo (fun _=>?_) fun _=>?_
 | refine im fun _=>?_
 | refine cF ?_
 | refine cG ?_
 | refine om ?_
 | refine an ?_
 | fail) <;> try simp only [zN, zT, zV, zS, zU, vcC, lateX, ex, strp, binA, elems, cells, scalar, eqC, keyA, intsA, lookA, ofVs, mpOf, Nat.reduceBEq, reduceAdd, reduceSub, reduceLT, reduceLeDiff, reduceMul, reduceEqDiff, reduceIte, hA, hB, r1, q1, List.length_map])
                  all_goals try (exfalso; omega)
                  ((first
 | refine vn rfl ?_
 | simp (disch:=omega) only [wr64,Int.zero_sub]
 | refine bo (fun _=>?_) fun _=>?_
 | refine im fun _=>?_
 | refine cF ?_
 | refine cG ?_
 | refine om ?_
 | refine an ?_
 | fail) <;> try simp only [zN, zT, zV, zS, zU, vcC, lateX, ex, strp, binA, elems, cells, scalar, eqC, keyA, intsA, lookA, ofVs, mpOf, Nat.reduceBEq, reduceAdd, reduceSub, reduceLT, reduceLeDiff, reduceMul, reduceEqDiff, reduceIte, hA, hB, r1, q1, List.length_map])
                  all_goals try (exfalso; omega)
                  ((first
 | refine vn rfl ?_
 | simp (disch:=omega) only [wr64,Int.zero_sub]
 | refine bo (fun _=>?_) fun _=>?_
 | refine im fun _=>?_
 | refine cF ?_
 | refine cG ?_
 | refine om ?_
 | refine an ?_
 | fail) <;> try simp only [zN, zT, zV, zS, zU, vcC, lateX, ex, strp, binA, elems, cells, scalar, eqC, keyA, intsA, lookA, ofVs, mpOf, Nat.reduceBEq, reduceAdd, reduceSub, reduceLT, reduceLeDiff, reduceMul, reduceEqDiff, reduceIte, hA, hB, r1, q1, List.length_map])
                  all_goals try (exfalso; omega)
                  ((first
 | refine vn rfl ?_
 | simp (disch:=omega) only [wr64,Int.zero_sub]
 | refine bo (fun _=>?_) fun _=>?_
 | refine im fun _=>?_
 | refine cF ?_
 | refine cG ?_
 | refine om ?_
 | refine an ?_
 | fail) <;> try simp only [zN, zT, zV, zS, zU, vcC, lateX, ex, strp, binA, elems, cells, scalar, eqC, keyA, intsA, lookA, ofVs, mpOf, Nat.reduceBEq, reduceAdd, reduceSub, reduceLT, reduceLeDiff, reduceMul, reduceEqDiff, reduceIte, hA, hB, r1, q1, List.length_map])
                  all_goals try (exfalso; omega)
                  ((first
 | refine vn rfl ?_
 | simp (disch:=omega) only [wr64,Int.zero_sub]
 | refine bo (fun _=>?_) fun _=>?_
 | refine im fun _=>?_
 | refine cF ?_
 | refine cG ?_
 | refine om ?_
 | refine an ?_
 | fail) <;> try simp only [zN, zT, zV, zS, zU, vcC, lateX, ex, strp, binA, elems, cells, scalar, eqC, keyA, intsA, lookA, ofVs, mpOf, Nat.reduceBEq, reduceAdd, reduceSub, reduceLT, reduceLeDiff, reduceMul, reduceEqDiff, reduceIte, hA, hB, r1, q1, List.length_map])
                  all_goals try (exfalso; omega)
                  ((first
 | refine vn rfl ?_
 | simp (disch:=omega) only [wr64,Int.zero_sub]
 | refine bo (fun _=>?_) fun _=>?_
 | refine im fun _=>?_
 | refine cF ?_
 | refine cG ?_
 | refine om ?_
 | refine an ?_
 | fail) <;> try simp only [zN, zT, zV, zS, zU, vcC, lateX, ex, strp, binA, elems, cells, scalar, eqC, keyA, intsA, lookA, ofVs, mpOf, Nat.reduceBEq, reduceAdd, reduceSub, reduceLT, reduceLeDiff, reduceMul, reduceEqDiff, reduceIte, hA, hB, r1, q1, List.length_map])
                  all_goals try (exfalso; omega)
                  all_goals exact ⟨⟨k+1,hkl⟩,by simp,by simp only; omega⟩
                · obtain rfl:k=D.length:=by omega
                  ((first
 | refine vn rfl ?_
 | simp (disch:=omega) only [wr64,Int.zero_sub]
 | refine bo (fun _=>?_) fun _=>?_
 | refine im fun _=>?_
 | refine cF ?_
 | refine cG ?_
 | refine om ?_
 | refine an ?_
 | fail) <;> try simp only [zN, zT, zV, zS, zU, vcC, lateX, ex, strp, binA, elems, cells, scalar, eqC, keyA, intsA, lookA, ofVs, mpOf, Nat.reduceBEq, reduceAdd, reduceSub, reduceLT, reduceLeDiff, reduceMul, reduceEqDiff, reduceIte, hA, hB, List.length_map])
                  all_goals try (exfalso; omega)
                  ((first
 | refine vn rfl ?_
 | simp (disch:=omega) only [wr64,Int.zero_sub]
 | refine bo (fun _=>?_) fun _=>?_
 | refine im fun _=>?_
 | refine cF ?_
 | refine cG ?_
 | refine om ?_
 | refine an ?_
 | fail) <;> try simp only [zN, zT, zV, zS, zU, vcC, lateX, ex, strp, binA, elems, cells, scalar, eqC, keyA, intsA, lookA, ofVs, mpOf, Nat.reduceBEq, reduceAdd, reduceSub, reduceLT, reduceLeDiff, reduceMul, reduceEqDiff, reduceIte, hA, hB, List.length_map])
                  all_goals try (exfalso; omega)
                  ((first
 | refine vn rfl ?_
 | simp (disch:=omega) only [wr64,Int.zero_sub]
 | refine bo (fun _=>?_) fun _=>?_
 | refine im fun _=>?_
 | refine cF ?_
 | refine cG ?_
 | refine om ?_
 | refine an ?_
 | fail) <;> try simp only [zN, zT, zV, zS, zU, vcC, lateX, ex, strp, binA, elems, cells, scalar, eqC, keyA, intsA, lookA, ofVs, mpOf, Nat.reduceBEq, reduceAdd, reduceSub, reduceLT, reduceLeDiff, reduceMul, reduceEqDiff, reduceIte, hA, hB, List.length_map])
                  all_goals try (exfalso; omega)
                  ((first
 | refine vn rfl ?_
 | simp (disch:=omega) only [wr64,Int.zero_sub]
 | refine bo (fun _=>?_) fun _=>?_
 | refine im fun _=>?_
 | refine cF ?_
 | refine cG ?_
 | refine om ?_
 | refine an ?_
 | fail) <;> try simp only [zN, zT, zV, zS, zU, vcC, lateX, ex, strp, binA, elems, cells, scalar, eqC, keyA, intsA, lookA, ofVs, mpOf, Nat.reduceBEq, reduceAdd, reduceSub, reduceLT, reduceLeDiff, reduceMul, reduceEqDiff, reduceIte, hA, hB, List.length_map])
                  all_goals try (exfalso; omega)
                  have e1:IntKind.i64.wrap ((a1:Int)+(S.length:Int))=(a1:Int)+(S.length:Int):=wr64 _ (by omega) (by omega)
                  have e2:IntKind.i64.wrap ((a2:Int)+(D.length:Int))=(a2:Int)+(D.length:Int):=wr64 _ (by omega) (by omega)
                  have e3:IntKind.i64.wrap ((i:Int)+1)=(i:Int)+1:=wr64 _ (by omega) (by omega)
                  ((first
 | refine vn rfl ?_
 | simp (disch:=omega) only [wr64,Int.zero_sub]
 | refine bo (fun _=>?_) fun _=>?_
 | refine im fun _=>?_
 | refine cF ?_
 | refine cG ?_
 | refine om ?_
 | refine an ?_
 | fail) <;> try simp only [zN, zT, zV, zS, zU, vcC, lateX, ex, strp, binA, elems, cells, scalar, eqC, keyA, intsA, lookA, ofVs, mpOf, Nat.reduceBEq, reduceAdd, reduceSub, reduceLT, reduceLeDiff, reduceMul, reduceEqDiff, reduceIte, hA, hB, e1, e2, e3, List.length_map])
                  ((first
 | refine vn rfl ?_
 | simp (disch:=omega) only [wr64,Int.zero_sub]
 | refine bo (fun _=>?_) fun _=>?_
 | refine im fun _=>?_
 | refine cF ?_
 | refine cG ?_
 | refine om ?_
 | refine an ?_
 | fail) <;> try simp only [zN, zT, zV, zS, zU, vcC, lateX, ex, strp, binA, elems, cells, scalar, eqC, keyA, intsA, lookA, ofVs, mpOf, Nat.reduceBEq, reduceAdd, reduceSub, reduceLT, reduceLeDiff, reduceMul, reduceEqDiff, reduceIte, hA, hB, e1, e2, e3, List.length_map])
                  all_goals exact ⟨⟨(i+1,a1+S.length,a2+D.length,μ++some [⟨86,9,[[snS R.stns,n b.fixed,n b.each,n b.term,n b.ticks,n b.clerks,n w,fdS S,rdS D]],none⟩]::ν),hlt,n1,n2⟩,⟨by simp,by simp,by simp⟩,by rw [hW]; simp,by simp only; omega⟩
        · obtain rfl:i=ws.length:=by omega
          rw [List.take_length,inWk_all Fld.week R.sheets (by rw [hws]; exact hW.shs)] at hA1
          rw [List.take_length,inWk_all Rd.week R.reads (by rw [hws]; exact hW.rds)] at hA2
          subst hA1 hA2
          ((refine Au ?_;repeat' first|exact True.intro|refine Cj.mk ?_ ?_)<;>intros<;>refine hD_ ?_)
          all_goals try (exfalso; omega)
          all_goals exact Frz.eq rfl (by simp)
    · have hE:foldE b l=(rgr0,askedE b [l]):=by unfold foldE; rw [if_pos ha]
      rw [hE] at F1
      simp only at F1
      generalize askedE b [l]=e at F1 ha
      clear hE hb hl
      ((refine Ay (And.intro @awake_spec (And.intro @s1 (And.intro @s2 @F1))) ?_;repeat' first|exact True.intro|refine Cj.mk ?_ ?_)<;>intros<;>refine hD_ ?_)
      all_goals try (exfalso; omega)
      all_goals exact Frz.eq rfl (by simp)
  · clear hb hl
    cases c1 with
    | false =>
      ((refine Ay (And.intro @awake_spec (And.intro @s1 @s2)) ?_;repeat' first|exact True.intro|refine Cj.mk ?_ ?_)<;>intros<;>refine hD_ ?_)
      all_goals try (exfalso; omega)
      all_goals exact Frz.eq rfl (by simp)
    | true =>
      cases c2 with
      | false =>
        ((refine Ay (And.intro @awake_spec (And.intro @s1 @s2)) ?_;repeat' first|exact True.intro|refine Cj.mk ?_ ?_)<;>intros<;>refine hD_ ?_)
        all_goals try (exfalso; omega)
        all_goals exact Frz.eq rfl (by simp)
      | true =>
        by_cases h40:l.length≤40
        · exact absurd ⟨rfl,rfl,h40⟩ hg
        · ((refine Ay (And.intro @awake_spec (And.intro @s1 @s2)) ?_;repeat' first|exact True.intro|refine Cj.mk ?_ ?_)<;>intros<;>refine hD_ ?_)
          all_goals try (exfalso; omega)
          all_goals exact Frz.eq rfl (by simp)
end Go.Proofs.YtolgelipcgcbhaaGreat
namespace Go.Abs
open Go
set_option linter.unusedVariables false
set_option linter.unusedSimpArgs false
structure Opens (P:Program) (t:TypeId) (α:Type) (row:α→List AV) (Pr:α→Prop):Prop where
  go:∀ {H:Type} (enc:TypeId × Value→H) (w:World) (base:Nat) (sp:Nat→Bool) (held:Bool) (fuel:Nat) (cs:List Value) (x:DataW H × List MemPlace),
    DataW.trod enc P w base sp held fuel t cs=some x →
    ∃ a:α,Pr a∧cs.length=(row a).length∧∀ i,i < cs.length→(cs.getD i undef).oneCell'=true∧RV w (fun _=>False) nob [] ((row a).getD i .any) (cs.getD i undef)
variable {P:Program}
theorem Opens.to {t:TypeId} {α β:Type} {row:α→List AV} {row':β→List AV} {Pr:α→Prop} {Pr':β→Prop} (h:Opens P t α row Pr) (f:α→β) (hr:∀ a,row' (f a)=row a) (hp:∀ a,Pr a→Pr' (f a)):Opens P t β row' Pr' :=
  ⟨fun enc w base sp held fuel cs x hx =>
    let ⟨a,h1,h2,h3⟩:=h.go enc w base sp held fuel cs x hx
    ⟨f a,hp a h1,by rw [hr]; exact h2,fun i hi=>by rw [hr]; exact h3 i hi⟩⟩
theorem opens_int {t:TypeId} {k:IntKind} (ht:P.underlying t=some (.int k)):Opens P t Int (fun z=>[.v (.int k z)]) (fun z=>(Lit.int k z).wf=true):=by
  constructor
  intro H enc w base sp held fuel cs x hx
  cases fuel with
  | zero=>simp [DataW.trod] at hx
  | succ m =>
    unfold DataW.trod at hx
    rw [ht] at hx
    split at hx <;> try (simp_all; done)
    rename_i k0 k' z heq
    simp only [Option.some.injEq,TypeDesc.int.injEq] at heq
    split at hx
    · rename_i hk
      obtain ⟨rfl,hw⟩:=hk
      subst heq
      refine ⟨z,hw,rfl,fun i hi=>?_⟩
      obtain rfl:i=0:=by simpa using hi
      exact ⟨rfl,.v _⟩
    · cases hx
theorem opens_slice {t e:TypeId} {k:Nat} {α:Type} {row:α→List AV} {Pr:α→Prop} (ht:P.underlying t=some (.slice e)) (hk:P.cellsOf e=k) (hk0:k≠0) (h:Opens P e α row Pr) (hl:∀ a,(row a).length=k) :
    Opens P t (List α) (fun l=>[.sl k (l.map row)]) (fun l=>l.length < 9223372036854775808∧∀ a∈l,Pr a):=by
  constructor
  intro H enc w base sp held fuel cs x hx
  rcases DataW.trod_slice ht hx with ⟨rfl,_⟩ | ⟨a,len,cap,elems,rest,m,rfl,rfl,rfl,hb,hlc,hcap,hlen,hel,hsp,hns⟩
  · refine ⟨[],⟨by simp,fun a ha=>absurd ha (List.not_mem_nil)⟩,rfl,fun i hi=>?_⟩
    obtain rfl:i=0:=by simpa using hi
    exact ⟨rfl,.slnil k⟩
  · have hlen2:len < 9223372036854775808:=by unfold maxLen at hcap; omega
    have each:∀ i,i < len→∃ (b:α) (c1:List Value),Pr b∧c1.length=k∧w.cells? base (a.add (i * k)) k=some c1∧∀ j,j < k→(c1.getD j undef).oneCell'=true∧RV w (fun _=>False) nob [] ((row b).getD j .any) (c1.getD j undef):=by
      intro i hi
      have h1:=hel i hi
      rw [hk,List.getElem?_eq_getElem (by omega)] at h1
      simp only [Option.bind_eq_some_iff] at h1
      obtain ⟨c1,hc1,hy⟩:=h1
      obtain ⟨b,hp,hlb,hr⟩:=h.go enc w base sp held m c1 _ hy
      have hl1:=(World.cells?_some hc1).2.1
      exact ⟨b,c1,hp,hl1,hc1,fun j hj=>hr j (by omega)⟩
    by_cases h0:len=0
    · subst h0
      refine ⟨[],⟨by simp,fun a ha=>absurd ha (List.not_mem_nil)⟩,rfl,fun i hi=>?_⟩
      obtain rfl:i=0:=by simpa using hi
      exact ⟨rfl,.slemp k a cap⟩
    ·
      have hspot:a.spot=none:=by
        obtain ⟨b,c1,_,hl1,hc1,_⟩:=each 0 (by omega)
        have h2:=(World.cells?_some hc1).2.2 0 (by omega)
        rw [List.getElem?_eq_getElem (by omega)] at h2
        have e:(a.add (0 * k)).add 0=a:=by simp [Addr.add]
        rw [e] at h2
        unfold World.cell? at h2
        split at h2
        · split at h2
          · cases h2
          · rename_i hs; simpa using hs
        · cases h2
      obtain ⟨bl,off,spot⟩:=a
      simp only at hspot
      subst hspot
      have hadd:∀ i j,((⟨bl,off,none⟩:Addr).add (i * k)).add j=⟨bl,off+i * k+j,none⟩:=by
        intro i j
        simp only [Addr.add]
        split <;> split <;> simp_all <;> omega
      let B:Nat→α:=fun i=>if hi:i < len then Classical.choose (each i hi) else Classical.choose (each 0 (by omega))
      have hB:∀ i,i < len→∃ c1:List Value,Pr (B i)∧c1.length=k∧w.cells? base ((⟨bl,off,none⟩:Addr).add (i * k)) k=some c1∧∀ j,j < k→(c1.getD j undef).oneCell'=true∧RV w (fun _=>False) nob [] ((row (B i)).getD j .any) (c1.getD j undef):=by
        intro i hi
        have:=Classical.choose_spec (each i hi)
        simp only [B,hi,dif_pos]
        exact this
      have hcell:∀ i j,i < len→j < k→w.cell? ⟨bl,off+i * k+j,none⟩=some ((w.cell? ⟨bl,off+i * k+j,none⟩).getD undef)∧((w.cell? ⟨bl,off+i * k+j,none⟩).getD undef).oneCell'=true ∧
          RV w (fun _=>False) nob [] ((row (B i)).getD j .any) ((w.cell? ⟨bl,off+i * k+j,none⟩).getD undef):=by
        intro i j hi hj
        obtain ⟨c1,_,hl1,hc1,hr⟩:=hB i hi
        have h2:=(World.cells?_some hc1).2.2 j hj
        rw [hadd,List.getElem?_eq_getElem (by omega)] at h2
        rw [h2]
        have h3:=hr j hj
        rw [List.getD_eq_getElem?_getD,List.getElem?_eq_getElem (show j < c1.length by omega)] at h3
        exact ⟨rfl,h3⟩
      refine ⟨(List.range len).map B,⟨by simpa using hlen2,fun b hb=>?_⟩,rfl,fun i hi=>?_⟩
      · obtain ⟨i,hi,rfl⟩:=List.mem_map.1 hb
        obtain ⟨c1,hp,_⟩:=hB i (List.mem_range.1 hi)
        exact hp
      · obtain rfl:i=0:=by simpa using hi
        refine ⟨rfl,?_⟩
        have hget:∀ e,e < len→(((List.range len).map B).map row).getD e []=row (B e):=fun e he=>by simp [List.getD_eq_getElem?_getD,he]
        have hlm:(((List.range len).map B).map row).length=len:=by simp
        have:=RV.sl (w:=w) (X:=fun _=>False) (β:=nob) (σ:=[]) k (((List.range len).map B).map row) bl off cap (fun i j=>(w.cell? ⟨bl,off+i * k+j,none⟩).getD undef) (by rw [hlm]; exact hlc)
          (fun e he=>by rw [hlm] at he; rw [hget e he]; exact hl _) (fun e he j hj=>by rw [hlm] at he; exact (hcell e j he hj).1) (fun e j he hj hx=>hx)
          (fun e j he hj=>by rw [hlm] at he; exact (hcell e j he hj).2.1) (fun e j he hj=>by rw [hlm] at he; rw [hget e he]; exact (hcell e j he hj).2.2)
        rw [hlm] at this
        exact this
structure OpensF (P:Program) (fs:List Field) (off:Nat) (α:Type) (row:α→List AV) (Pr:α→Prop):Prop where
  go:∀ {H:Type} (enc:TypeId × Value→H) (w:World) (base:Nat) (sp:Nat→Bool) (held:Bool) (fuel:Nat) (cs:List Value) (xs:List (DataW H × List MemPlace)),
    (fs.mapM fun f=>DataW.trod enc P w base sp held fuel f.type ((cs.drop f.offset).take (P.cellsOf f.type)))=some xs →
    ∃ a:α,Pr a∧∀ i,i < (row a).length→off+i < cs.length∧(cs.getD (off+i) undef).oneCell'=true∧RV w (fun _=>False) nob [] ((row a).getD i .any) (cs.getD (off+i) undef)
theorem opensF_nil (off:Nat):OpensF P [] off Unit (fun _=>[]) (fun _=>True) :=
  ⟨fun enc w base sp held fuel cs xs _=>⟨(),trivial,fun i hi=>absurd hi (Nat.not_lt_zero _)⟩⟩
theorem opensF_cons {f:Field} {fs:List Field} {off k:Nat} {α β:Type} {row:α→List AV} {rows:β→List AV} {Pr:α→Prop} {Prs:β→Prop} (ho:f.offset=off) (hk:P.cellsOf f.type=k) (h:Opens P f.type α row Pr)
    (hl:∀ a,(row a).length=k) (hs:OpensF P fs (off+k) β rows Prs):OpensF P (f::fs) off (α × β) (fun p=>row p.1++rows p.2) (fun p=>Pr p.1∧Prs p.2):=by
  constructor
  intro H enc w base sp held fuel cs xs hx
  rw [List.mapM_cons] at hx
  simp only [Option.bind_eq_bind,Option.bind_eq_some_iff] at hx
  obtain ⟨y,hy,ys,hys,_⟩:=hx
  rw [ho,hk] at hy
  obtain ⟨a,hp,hla,hr⟩:=h.go enc w base sp held fuel _ _ hy
  obtain ⟨b,hq,hr'⟩:=hs.go enc w base sp held fuel cs ys hys
  rw [hl] at hla
  have hlen:off+k≤cs.length∨k=0:=by simp at hla; omega
  refine ⟨(a,b),⟨hp,hq⟩,fun i hi=>?_⟩
  by_cases h1:i < k
  · have hi':i < ((cs.drop off).take k).length:=by omega
    obtain ⟨g1,g2⟩:=hr i hi'
    have e:((cs.drop off).take k).getD i undef=cs.getD (off+i) undef:=by
      simp only [List.getD_eq_getElem?_getD,List.getElem?_take,h1,if_true,List.getElem?_drop]
    rw [e] at g1 g2
    refine ⟨by omega,g1,?_⟩
    rw [getD_append,if_pos (by rw [hl]; exact h1)]
    exact g2
  · have:=hr' (i - k) (by simp [hl] at hi; omega)
    rw [show off+k+(i - k)=off+i by omega] at this
    refine ⟨this.1,this.2.1,?_⟩
    rw [getD_append,if_neg (by rw [hl]; omega),hl]
    exact this.2.2
theorem opens_struct {t:TypeId} {fs:Array Field} {k:Nat} {α:Type} {row:α→List AV} {Pr:α→Prop} (ht:P.underlying t=some (.struct fs)) (hk:P.cellsOf t=k) (hl:∀ a,(row a).length=k) (h:OpensF P fs.toList 0 α row Pr) :
    Opens P t α row Pr:=by
  constructor
  intro H enc w base sp held fuel cs x hx
  cases fuel with
  | zero=>simp [DataW.trod] at hx
  | succ m =>
    unfold DataW.trod at hx
    rw [ht] at hx
    have hx':(if cs.length=P.cellsOf t then (fs.toList.mapM fun f=>DataW.trod enc P w base sp held m f.type ((cs.drop f.offset).take (P.cellsOf f.type))).map (fun xs=>((DataW.agg (xs.map (·.1)),xs.flatMap (·.2)):DataW H × List MemPlace)) else none)=some x:=by
      split at hx <;> first | (simp at *; done) | skip
      all_goals (try (rename_i heq; cases heq))
      exact hx
    split at hx'
    case isFalse=>cases hx'
    rename_i hlen
    rw [Option.map_eq_some_iff] at hx'
    obtain ⟨xs,hxs,_⟩:=hx'
    obtain ⟨a,hp,hr⟩:=h.go enc w base sp held m cs xs hxs
    refine ⟨a,hp,by rw [hl,hlen,hk],fun i hi=>?_⟩
    have:=hr i (by rw [hl,← hk,← hlen]; exact hi)
    rw [Nat.zero_add] at this
    exact this.2
theorem Opens.one {t:TypeId} {α:Type} {av:α→AV} {Pr:α→Prop} (h:Opens P t α (fun a=>[av a]) Pr) {H:Type} {enc:TypeId × Value→H} {w:World} {base:Nat} {sp:Nat→Bool} {held:Bool} {v:Value} {d:DataW H} {ps:List MemPlace}
    (hv:v.oneCell'=true) (hx:DataW.Trod enc P w base sp held t v d ps):∃ a,Pr a∧RV w (fun _=>False) nob [] (av a) v:=by
  obtain ⟨fuel,hx⟩:=hx
  obtain ⟨a,hp,hl,hr⟩:=h.go enc w base sp held fuel _ _ hx
  have e:v.cells.toList=[v]:=by cases v <;> first | rfl | simp [Value.oneCell'] at hv
  rw [e] at hr
  exact ⟨a,hp,(hr 0 (by simp)).2⟩
theorem Opens.agg {t:TypeId} {α:Type} {row:α→List AV} {Pr:α→Prop} (h:Opens P t α row Pr) {H:Type} {enc:TypeId × Value→H} {w:World} {base:Nat} {sp:Nat→Bool} {held:Bool} {cs:Array Value} {d:DataW H} {ps:List MemPlace}
    (hx:DataW.Trod enc P w base sp held t (.agg cs) d ps):∃ a,Pr a∧RV w (fun _=>False) nob [] (.agg (row a)) (.agg cs):=by
  obtain ⟨fuel,hx⟩:=hx
  obtain ⟨a,hp,hl,hr⟩:=h.go enc w base sp held fuel _ _ hx
  have e:(Value.agg cs).cells.toList=cs.toList:=rfl
  rw [e] at hl hr
  refine ⟨a,hp,.agg _ _ (by simpa using hl) (fun i hi=>?_) fun i hi=>?_⟩
  · have:=(hr i (by rw [hl]; exact hi)).1
    simpa [List.getD_eq_getElem?_getD,Array.getD_eq_getD_getElem?] using this
  · have:=(hr i (by rw [hl]; exact hi)).2
    simpa [List.getD_eq_getElem?_getD,Array.getD_eq_getD_getElem?] using this
end Go.Abs
namespace Go.Proofs.YtolgelipcgcbhaaGreat
open Go.Abs
open Nat (reduceAdd reduceSub reduceLT reduceLeDiff reduceMul reduceEqDiff)
set_option linter.unusedVariables false
set_option linter.unusedSimpArgs false
set_option maxHeartbeats 4000000
set_option maxRecDepth 100000
open Go.ChangeShapes Go.WideShapes Go.ChangeAt Go.RowKit
theorem own:ownKnob Tryz.prog.godebug=none:=by kernel_rfl
theorem laidOut:laidOutB Tryz.prog=true:=by kernel_rfl
theorem mapsR:mapsRowed Tryz.prog=true:=by kernel_rfl
theorem stopsN:(Tryz.prog.stops == [])=true:=by kernel_rfl
theorem knobsN:(Tryz.prog.stopKnobs == [])=true:=by kernel_rfl
theorem plainK:(Rows.archiveOrderRow.plainKeys == Tryz.prog.plainKeys)=true:=by kernel_rfl
theorem heardS:Tryz.prog.stopsHeard=true:=by kernel_rfl
theorem entersM:Tryz.prog.mayEnter=true:=by kernel_rfl
theorem liftsF:(Rows.archiveOrderRow.lifted == Tryz.prog.liftsFinal)=true:=by kernel_rfl
theorem makeP:(Tryz.prog.make == some Rows.archiveOrderRow.make)=true:=by kernel_rfl
theorem bband {a b:Bool} (h:a=true) (h':b=true):(a && b)=true:=by rw [h,h']; rfl
theorem cells3:Tryz.prog.cellsOf 3=1:=by kernel_rfl
theorem cells48:Tryz.prog.cellsOf 48=2:=by kernel_rfl
theorem cells226:Tryz.prog.cellsOf 226=3:=by kernel_rfl
theorem cells164:Tryz.prog.cellsOf 164=3:=by kernel_rfl
theorem cells50:Tryz.prog.cellsOf 50=10:=by kernel_rfl
theorem cells51:Tryz.prog.cellsOf 51=1:=by kernel_rfl
theorem cells52:Tryz.prog.cellsOf 52=1:=by kernel_rfl
theorem cells53:Tryz.prog.cellsOf 53=1:=by kernel_rfl
theorem cells54:Tryz.prog.cellsOf 54=1:=by kernel_rfl
theorem cells56:Tryz.prog.cellsOf 56=2:=by kernel_rfl
theorem cells58:Tryz.prog.cellsOf 58=4:=by kernel_rfl
theorem cells60:Tryz.prog.cellsOf 60=18:=by kernel_rfl
theorem cells62:Tryz.prog.cellsOf 62=3:=by kernel_rfl
theorem cells64:Tryz.prog.cellsOf 64=5:=by kernel_rfl
theorem cells66:Tryz.prog.cellsOf 66=3:=by kernel_rfl
theorem cells29:Tryz.prog.cellsOf 29=2:=by kernel_rfl
theorem cells68:Tryz.prog.cellsOf 68=38:=by kernel_rfl
theorem cells107:Tryz.prog.cellsOf 107=1:=by kernel_rfl
theorem cells109:Tryz.prog.cellsOf 109=4:=by kernel_rfl
theorem cells22:Tryz.prog.cellsOf 22=1:=by kernel_rfl
theorem cells24:Tryz.prog.cellsOf 24=2:=by kernel_rfl
theorem cells26:Tryz.prog.cellsOf 26=6:=by kernel_rfl
theorem op3:Opens Tryz.prog 3 Int (fun z=>[n z]) (fun _=>True):=(opens_int Tryz.underlying3).to id (fun _=>rfl) (fun _ _=>trivial)
theorem op48:Opens Tryz.prog 48 Sp Sp.cs (fun _=>True) :=
  (opens_struct Tryz.underlying48 cells48 (fun _=>rfl) (opensF_cons rfl cells3 op3 (fun _=>rfl) (opensF_cons rfl cells3 op3 (fun _=>rfl) (opensF_nil _)))).to (fun a=>⟨a.1,a.2.1⟩) (fun _=>rfl) (fun _ _=>trivial)
theorem op226:Opens Tryz.prog 226 Mk Mk.cs (fun _=>True) :=
  (opens_struct Tryz.underlying226 cells226 (fun _=>rfl) (opensF_cons rfl cells3 op3 (fun _=>rfl) (opensF_cons rfl cells48 op48 (fun _=>rfl) (opensF_nil _)))).to (fun a=>⟨a.1,a.2.1⟩) (fun _=>rfl) (fun _ _=>trivial)
theorem op62:Opens Tryz.prog 62 Mk Mk.cs (fun _=>True) :=
  (opens_struct Tryz.underlying62 cells62 (fun _=>rfl) (opensF_cons rfl cells3 op3 (fun _=>rfl) (opensF_cons rfl cells48 op48 (fun _=>rfl) (opensF_nil _)))).to (fun a=>⟨a.1,a.2.1⟩) (fun _=>rfl) (fun _ _=>trivial)
theorem op164:Opens Tryz.prog 164 Pt Pt.cs (fun _=>True) :=
  (opens_struct Tryz.underlying164 cells164 (fun _=>rfl) (opensF_cons rfl cells3 op3 (fun _=>rfl) (opensF_cons rfl cells3 op3 (fun _=>rfl) (opensF_cons rfl cells3 op3 (fun _=>rfl) (opensF_nil _))))).to (fun a=>⟨a.1,a.2.1,a.2.2.1⟩) (fun _=>rfl) (fun _ _=>trivial)
theorem op50:Opens Tryz.prog 50 Ppr Ppr.cs (fun _=>True) :=
  (opens_struct Tryz.underlying50 cells50 (fun _=>rfl) (opensF_cons rfl cells3 op3 (fun _=>rfl) (opensF_cons rfl cells3 op3 (fun _=>rfl) (opensF_cons rfl cells3 op3 (fun _=>rfl) (opensF_cons rfl cells3 op3 (fun _=>rfl) (opensF_cons rfl cells3 op3 (fun _=>rfl) (opensF_cons rfl cells3 op3 (fun _=>rfl) (opensF_cons rfl cells48 op48 (fun _=>rfl) (opensF_cons rfl cells48 op48 (fun _=>rfl) (opensF_nil _)))))))))).to (fun a=>⟨a.1,a.2.1,a.2.2.1,a.2.2.2.1,a.2.2.2.2.1,a.2.2.2.2.2.1,a.2.2.2.2.2.2.1,a.2.2.2.2.2.2.2.1⟩) (fun _=>rfl) (fun _ _=>trivial)
theorem op51:Opens Tryz.prog 51 (List Pt) (fun l=>[ptS l]) (fun l=>l.length < 9223372036854775808) :=
  (opens_slice Tryz.underlying51 cells164 (by decide) op164 (fun _=>rfl)).to id (fun _=>rfl) (fun _ h=>h.1)
theorem op52:Opens Tryz.prog 52 (List Int) (fun l=>[inS l]) (fun l=>l.length < 9223372036854775808) :=
  (opens_slice Tryz.underlying52 cells3 (by decide) op3 (fun _=>rfl)).to id (fun _=>rfl) (fun _ h=>h.1)
theorem op53:Opens Tryz.prog 53 (List Sp) (fun l=>[spnS l]) (fun l=>l.length < 9223372036854775808) :=
  (opens_slice Tryz.underlying53 cells48 (by decide) op48 (fun _=>rfl)).to id (fun _=>rfl) (fun _ h=>h.1)
theorem op54:Opens Tryz.prog 54 (List Mk) (fun l=>[mkS l]) (fun l=>l.length < 9223372036854775808) :=
  (opens_slice Tryz.underlying54 cells226 (by decide) op226 (fun _=>rfl)).to id (fun _=>rfl) (fun _ h=>h.1)
theorem op56:Opens Tryz.prog 56 (List Sp × List Mk) (fun d=>[spnS d.1,mkS d.2]) (fun d=>d.1.length < 9223372036854775808∧d.2.length < 9223372036854775808) :=
  (opens_struct Tryz.underlying56 cells56 (fun _=>rfl) (opensF_cons rfl cells53 op53 (fun _=>rfl) (opensF_cons rfl cells54 op54 (fun _=>rfl) (opensF_nil _)))).to (fun a=>⟨a.1,a.2.1⟩) (fun _=>rfl) (fun _ h=>⟨h.1,h.2.1⟩)
theorem op58:Opens Tryz.prog 58 Pn Pn.cs (fun _=>True) :=
  (opens_struct Tryz.underlying58 cells58 (fun _=>rfl) (opensF_cons rfl cells3 op3 (fun _=>rfl) (opensF_cons rfl cells48 op48 (fun _=>rfl) (opensF_cons rfl cells3 op3 (fun _=>rfl) (opensF_nil _))))).to (fun a=>⟨a.1,a.2.1,a.2.2.1⟩) (fun _=>rfl) (fun _ _=>trivial)
theorem op60:Opens Tryz.prog 60 Sht Sht.cs shtSz :=
  (opens_struct Tryz.underlying60 cells60 (fun _=>rfl) (opensF_cons rfl cells50 op50 (fun _=>rfl) (opensF_cons rfl cells51 op51 (fun _=>rfl) (opensF_cons rfl cells52 op52 (fun _=>rfl) (opensF_cons rfl cells56 op56 (fun _=>rfl) (opensF_cons rfl cells58 op58 (fun _=>rfl) (opensF_nil _))))))).to (fun a=>⟨a.1,a.2.1,a.2.2.1,a.2.2.2.1.1,a.2.2.2.1.2,a.2.2.2.2.1⟩) (fun _=>rfl) (fun _ h=>⟨h.2.1,h.2.2.1,h.2.2.2.1.1,h.2.2.2.1.2⟩)
theorem op64:Opens Tryz.prog 64 Rd Rd.cs (fun _=>True) :=
  (opens_struct Tryz.underlying64 cells64 (fun _=>rfl) (opensF_cons rfl cells3 op3 (fun _=>rfl) (opensF_cons rfl cells3 op3 (fun _=>rfl) (opensF_cons rfl cells3 op3 (fun _=>rfl) (opensF_cons rfl cells48 op48 (fun _=>rfl) (opensF_nil _)))))).to (fun a=>⟨a.1,a.2.1,a.2.2.1,a.2.2.2.1⟩) (fun _=>rfl) (fun _ _=>trivial)
theorem op66:Opens Tryz.prog 66 Hgt Hgt.cs (fun _=>True) :=
  (opens_struct Tryz.underlying66 cells66 (fun _=>rfl) (opensF_cons rfl cells3 op3 (fun _=>rfl) (opensF_cons rfl cells48 op48 (fun _=>rfl) (opensF_nil _)))).to (fun a=>⟨a.1,a.2.1⟩) (fun _=>rfl) (fun _ _=>trivial)
theorem op29:Opens Tryz.prog 29 Nm Nm.cs (fun _=>True) :=
  (opens_struct Tryz.underlying29 cells29 (fun _=>rfl) (opensF_cons rfl cells3 op3 (fun _=>rfl) (opensF_cons rfl cells3 op3 (fun _=>rfl) (opensF_nil _)))).to (fun a=>⟨a.1,a.2.1⟩) (fun _=>rfl) (fun _ _=>trivial)
theorem op68:Opens Tryz.prog 68 Nt Nt.cs ntSz :=
  (opens_struct Tryz.underlying68 cells68 (fun _=>rfl) (opensF_cons rfl cells3 op3 (fun _=>rfl) (opensF_cons rfl cells3 op3 (fun _=>rfl) (opensF_cons rfl cells3 op3 (fun _=>rfl) (opensF_cons rfl cells3 op3 (fun _=>rfl) (opensF_cons rfl cells3 op3 (fun _=>rfl) (opensF_cons rfl cells3 op3 (fun _=>rfl) (opensF_cons rfl cells3 op3 (fun _=>rfl) (opensF_cons rfl cells60 op60 (fun _=>rfl) (opensF_cons rfl cells62 op62 (fun _=>rfl) (opensF_cons rfl cells64 op64 (fun _=>rfl) (opensF_cons rfl cells66 op66 (fun _=>rfl) (opensF_cons rfl cells29 op29 (fun _=>rfl) (opensF_nil _)))))))))))))).to (fun a=>⟨a.1,a.2.1,a.2.2.1,a.2.2.2.1,a.2.2.2.2.1,a.2.2.2.2.2.1,a.2.2.2.2.2.2.1,a.2.2.2.2.2.2.2.1,a.2.2.2.2.2.2.2.2.1,a.2.2.2.2.2.2.2.2.2.1,a.2.2.2.2.2.2.2.2.2.2.1,a.2.2.2.2.2.2.2.2.2.2.2.1⟩) (fun _=>rfl) (fun _ h=>h.2.2.2.2.2.2.2.1)
theorem op27:Opens Tryz.prog 27 (List Nt) (fun l=>[ntS l]) setSz :=
  (opens_slice Tryz.underlying27 cells68 (by decide) op68 (fun _=>rfl)).to id (fun _=>rfl) (fun _ h=>h)
theorem op107:Opens Tryz.prog 107 (List Hgt) (fun l=>[hgS l]) (fun l=>l.length < 9223372036854775808) :=
  (opens_slice Tryz.underlying107 cells66 (by decide) op66 (fun _=>rfl)).to id (fun _=>rfl) (fun _ h=>h.1)
theorem op109:Opens Tryz.prog 109 Stn Stn.cs (fun s=>s.heights.length < 9223372036854775808) :=
  (opens_struct Tryz.underlying109 cells109 (fun _=>rfl) (opensF_cons rfl cells3 op3 (fun _=>rfl) (opensF_cons rfl cells3 op3 (fun _=>rfl) (opensF_cons rfl cells3 op3 (fun _=>rfl) (opensF_cons rfl cells107 op107 (fun _=>rfl) (opensF_nil _)))))).to (fun a=>⟨a.1,a.2.1,a.2.2.1,a.2.2.2.1⟩) (fun _=>rfl) (fun _ h=>h.2.2.2.1)
theorem op22:Opens Tryz.prog 22 (List Stn) (fun l=>[snS l]) stnSz :=
  (opens_slice Tryz.underlying22 cells109 (by decide) op109 (fun _=>rfl)).to id (fun _=>rfl) (fun _ h=>h)
theorem op24:Opens Tryz.prog 24 (Int × Int) (fun d=>[n d.1,n d.2]) (fun _=>True) :=
  (opens_struct Tryz.underlying24 cells24 (fun _=>rfl) (opensF_cons rfl cells3 op3 (fun _=>rfl) (opensF_cons rfl cells3 op3 (fun _=>rfl) (opensF_nil _)))).to (fun a=>⟨a.1,a.2.1⟩) (fun _=>rfl) (fun _ _=>trivial)
theorem op26:Opens Tryz.prog 26 Bse Bse.cs bseSz :=
  (opens_struct Tryz.underlying26 cells26 (fun _=>rfl) (opensF_cons rfl cells22 op22 (fun _=>rfl) (opensF_cons rfl cells24 op24 (fun _=>rfl) (opensF_cons rfl cells3 op3 (fun _=>rfl) (opensF_cons rfl cells3 op3 (fun _=>rfl) (opensF_cons rfl cells3 op3 (fun _=>rfl) (opensF_nil _))))))).to (fun a=>⟨a.1,a.2.1.1,a.2.1.2,a.2.2.1,a.2.2.2.1,a.2.2.2.2.1⟩) (fun _=>rfl) (fun _ h=>h.1)
section
variable {H:Type} {enc:TypeId × Value→H} {w:World} {r:Reach} {base b0:Nat} {sp:Nat→Bool} {held:Bool} {v:Value} {d:DataW H} {ps:List MemPlace}
theorem open_bse (h:Value.okWide Tryz.prog w r base 26 v) (hx:DataW.Trod enc Tryz.prog w b0 sp held 26 v d ps):∃ x:Bse,bseSz x∧RV w (fun _=>False) nob [] (.agg x.cs) v:=by
  obtain ⟨cs,rfl,_⟩:=okWide_struct Tryz.underlying26 h
  exact op26.agg hx
theorem open_set (h:Value.okWide Tryz.prog w r base 27 v) (hx:DataW.Trod enc Tryz.prog w b0 sp held 27 v d ps):∃ l:List Nt,setSz l∧RV w (fun _=>False) nob [] (ntS l) v:=by
  obtain ⟨a,len,cap,rfl⟩:=okWide_slice Tryz.underlying27 h
  exact op27.one rfl hx
end
end Go.Proofs.YtolgelipcgcbhaaGreat
