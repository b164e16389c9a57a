/- Part 13: contracts. -/
import Derived.Test.YtolgelipcgcbhaaGreatBn12
import Derived.ChangeArms
import Derived.DataReads
import Derived.ProofKit
import Derived.ShutString
import Derived.ChangeOld
namespace Go.Proofs.YtolgelipcgcbhaaGreat
open Go.Abs
open Nat (reduceAdd reduceSub reduceLT reduceLeDiff reduceMul reduceEqDiff)
open Go.Abs renaming vcC→Q0,lateX→Q1,strp→Q2,binA→Q3,elems→Q4,cells→Q5,scalar→Q6,eqC→Q7,keyA→Q8,intsA→Q9,lookA→QA,ofVs→QB,mpOf→QC
set_option linter.unusedVariables false
set_option linter.unusedSimpArgs false
set_option maxHeartbeats 4000000
set_option maxRecDepth 100000
def c83:CF:=⟨174,(jo [jx 2 26 6 0,jw 4 (.alloc 37 4 [.slice none 0 0,.slice none 0 0,.slice none 0 0,.slice none 0 0])] [1,2,4]
 (jo [jf 17 0 2,jl 18 17,jy 19 128 [18],jw 20 (.build [.slice none 0 0,.slice none 0 0,.slice none 0 0,.slice none 0 0] [(2,1,(.t 19))]),jw 5 (.alloc 37 4 [.slice none 0 0,.slice none 0 0,.slice none 0 0,.slice none 0 0]),js 4 5 20] [1,2,4,5]
 (jo [jn 6] [1,2,4,5,6]
 (jo [jm 21 1,jy 22 91 [21],jm 7 22] [1,2,4,5,6,7]
 (.seq (jo [jc 8 0] [1,2,4,5,6,7,8]
 (.block 0 (.loop (.seq (jo [jm 23 8,jm 24 7,je 25 24,jt .lss 26 23 25] [1,2,4,5,6,7,8,26]
 (.cond (.t 26) .skip
 (.exit 0)))
 (.seq (.block 1 (jo [jb 9 false] [1,2,4,5,6,7,8,9]
 (.seq (jo [jm 29 7,jm 30 8,ji 31 38 29 30,jf 32 4 31,jl 33 32] [1,2,4,5,6,7,8,9,33]
 (.block 2 (jo [ju .eql 35 33 1,jm 34 35] [1,2,4,5,6,7,8,9,33,34]
 (.cond (.t 34) (jo [jm 36 7,jm 37 8,jy 38 149 [36,37],jw 10 (.alloc 72 24 z24),js 24 10 38] [1,2,4,5,6,7,8,9,10]
 (jo [jf 39 0 5,jl 40 39,jf 41 2 10,jl 42 41,jf 43 3 10,jl 44 43,jy 45 126 [40,42,44],ju .geq 46 45 0] [1,2,4,5,6,7,8,9,10,46]
 (.cond (.t 46) (.ops [jb 9 true] [1,2,4,5,6,7,8,9])
 (.ops [jf 47 0 5,jl 48 47,jk 49 24 10,jw 50 (.bsl false 72 24 1 z24 [(0,24,(.t 49))]),jw 51 (.app 72 24 288 (.t 48) (.t 50)),jf 52 0 5,js 1 52 51] [1,2,4,5,6,7,8,9]))))
 (jo [ju .eql 54 33 2,jm 53 54] [1,2,4,5,6,7,8,9,33,53]
 (.cond (.t 53) (.ops [jm 55 7,jm 56 8,jy 57 150 [55,56],jv 58 57,jm 9 58] [1,2,4,5,6,7,8,9])
 (jo [ju .eql 60 33 3,jm 59 60] [1,2,4,5,6,7,8,9,33,59]
 (.cond (.t 59) (.draw [jf 61 1 5,jl 62 61,jm 63 7,jm 64 7,jm 65 8,jy 66 151 [64,65],ji 67 38 63 66,jf 68 28 67,jk 69 5 68,jw 70 (.bsl false 64 5 1 [.int .i64 0,.int .i64 0,.int .i64 0,.int .i64 0,.int .i64 0] [(0,5,(.t 69))])] [jw 71 (.app 64 5 40 (.t 62) (.t 70)),jf 72 1 5,js 1 72 71] [1,2,4,5,6,7,8,9])
 (jo [ju .eql 74 33 4,jm 73 74] [1,2,4,5,6,7,8,9,33,73]
 (.cond (.t 73) (.seq (.draw [jf 76 0 2,jl 77 76,jm 78 7,jm 79 8,ji 80 38 78 79,jf 81 5 80,jl 82 81,jy 83 152 [77,82],jm 75 83,jz 84 0 75,jz 85 1 75,jm 11 84,jm 12 85] [] [1,2,4,5,6,7,8,9,11])
 (.seq (.drawl 13 [jf 87 2 5,jl 88 87,jm 89 11,ji 90 4 88 89,jk 91 4 90,jm 92 7,jm 93 8,ji 94 38 92 93,jf 95 33 94,jk 96 3 95,jy 97 153 [91,96],jm 86 97,jz 98 0 86,jz 99 1 86,jw 13 (.alloc 109 4 [.int .i64 0,.int .i64 0,.int .i64 0,.slice none 0 0])] [js 4 13 98,jm 14 99] [1,2,4,5,6,7,8,9,11,13,14])
 (jo [jm 100 14,ju .eql 101 100 0] [1,2,4,5,6,7,8,9,11,13,101]
 (.cond (.t 101) (.ops [jf 102 2 5,jl 103 102,jm 104 11,jk 105 4 13,ji 106 4 103 104,js 4 106 105] [1,2,4,5,6,7,8,9])
 (.ops [jb 9 true] [1,2,4,5,6,7,8,9])))))
 (jo [ju .eql 108 33 5,jm 107 108] [1,2,4,5,6,7,8,9,33,107]
 (.cond (.t 107) (.ops [jm 109 7,jm 110 7,jm 111 8,ji 112 38 110 111,jf 113 36 112,jk 114 2 113,jy 115 154 [109,114],ju .lss 116 115 0,jm 9 116] [1,2,4,5,6,7,8,9])
 (jo [ju .eql 118 33 6,jm 117 118] [1,2,4,5,6,7,8,9,117]
 (.cond (.t 117) (.ops [jm 119 7,jm 120 8,jy 121 155 [119,120],jv 122 121,jm 9 122] [1,2,4,5,6,7,8,9])
 .skip))))))))))))))
 (jo [jm 123 9] [1,2,4,5,6,7,8,123]
 (.cond (.t 123) (.ops [jm 124 6,jm 125 7,jm 126 8,ji 127 38 125 126,jk 128 38 127,jw 129 (.bsl false 68 38 1 z38 [(0,38,(.t 128))]),jw 130 (.app 68 38 368 (.t 124) (.t 129)),jm 6 130] [1,2,4,5,6,7,8])
 .skip)))))
 (.ops [jm 27 8,ju .add 28 27 1,jm 8 28] [1,2,4,5,6,7,8]))))))
 (.seq (jo [jc 15 0] [1,4,5,6,15]
 (.block 3 (.loop (.seq (jo [jm 131 15,jm 132 1,je 133 132,jt .lss 134 131 133] [1,4,5,6,15,134]
 (.cond (.t 134) .skip
 (.exit 3)))
 (.seq (.block 4 (jo [jm 137 1,jm 138 1,jm 139 15,ji 140 38 138 139,jf 141 36 140,jk 142 2 141,jy 143 90 [137,142],jm 16 143] [1,4,5,6,15,16]
 (jo [jm 144 1,jm 145 15,ji 146 38 144 145,jf 147 4 146,jl 148 147,ju .eql 149 148 7,jm 150 149,ja 150 (jm 151 16),ja 150 (ju .lss 152 151 0),ja 150 (jm 153 152),jd 153 (jm 154 1),jd 153 (jm 155 16),jd 153 (ji 156 38 154 155),jd 153 (jf 157 4 156),jd 153 (jl 158 157),jd 153 (ju .eql 159 158 7),ja 150 (jq 160 153 159),jp 161 150 160] [1,4,5,6,15,161]
 (.cond (.t 161) (.ops [jm 162 6,jm 163 1,jm 164 15,ji 165 38 163 164,jk 166 38 165,jw 167 (.bsl false 68 38 1 z38 [(0,38,(.t 166))]),jw 168 (.app 68 38 368 (.t 162) (.t 167)),jm 6 168] [1,4,5,6,15])
 .skip))))
 (.ops [jm 135 15,ju .add 136 135 1,jm 15 136] [1,4,5,6,15]))))))
 (jo [jm 169 6,jy 170 139 [169],jy 171 156 [170],jf 172 3 5,js 1 172 171] [4,5]
 (jo [jk 173 4 5,js 4 4 173] [4]
 .ret)))))))),[.c 4 (some 4)]⟩
theorem k83:chkF Tryz.prog Tryz.f83 c83=true:=by kernel_rfl
abbrev rgZ:List AV:=[.v (.slice none 0 0),.v (.slice none 0 0),.v (.slice none 0 0),.v (.slice none 0 0)]
theorem shsR_len (S T:List Nt):(shsR S T).length≤T.length:=by
  have key:∀ (L:List Nt) (rs:List Fld),(L.foldl (entR S) rs).length≤rs.length+L.length:=by
    intro L
    induction L with
    | nil=>intro rs; simp
    | cons a L ih =>
      intro rs
      have h1:=ih (entR S rs a)
      have h2:(entR S rs a).length≤rs.length+1:=by unfold entR; split <;> simp
      simp only [List.foldl_cons,List.length_cons]; omega
  have h1:=key (T.filter (kd 1)) []
  have h2:=List.length_filter_le (kd 1) T
  unfold shsR
  simp only [List.length_nil] at h1; omega
theorem rfold_spec (b:Bse) (hb:bseSz b) (l:List Nt) (hl:setSz l) (hbo:b.ok) (h400:l.length≤400) (hlo:∀ a∈l,a.ok b) (hsrt:(l.map Nt.nm).Pairwise (fun x y=>cmpN x y < 0)) (hn:(l.map Nt.nm).Nodup)
    (hbl:b.stns.length < 1099511627776) (hbh:∀ s∈b.stns,s.heights.length * 24≤140737488355328):Pure Tryz.prog 83 [.agg b.cs,ntS l] (.agg (refT b l).cs):=by
  refine pB_ Tryz.call83 Tryz.func83 k83 ?_
  unfold c83
  have hst:=rStanding_spec l (by omega) hn
  ((refine Ay @hst ?_;repeat' constructor)<;>intros<;>refine hD_ ?_)
  all_goals try (exfalso;omega)
  refine .inr (.inl ⟨_,_,_,_,rfl,fun _=>⟨someStns_does b.stns hbl hbh _,?_⟩,fun h=>by cases h⟩)
  rintro r1 σ1 ⟨ν0,rfl,rfl⟩
  refine Zy ?_
  simp only [zN,zT,zV,zS,zU,Q0,Q1,ex,Q2,Q3,Q4,Q5,Q6,Q7,Q8,Q9,QA,QB,QC,Nat.reduceBEq,reduceAdd,reduceSub,reduceLT,reduceLeDiff,reduceMul,reduceEqDiff,reduceIte,List.length_map]
  obtain ⟨S,hS⟩:∃ S,S=Zf l:=⟨_,rfl⟩
  have hSn:(S.map Nt.nm).Nodup:=hS ▸ standT_nodup hn
  rw [← hS] at hst
  ((refine Ay @hst ?_;repeat' constructor)<;>intros<;>refine hD_ ?_)
  all_goals try (exfalso;omega)
  obtain ⟨G,hG⟩:∃ G,G=List.length ν0:=⟨_,rfl⟩
  have a0:∀ A B X,Sto.at (A::B::(ν0++X)) (G+2) 0=Sto.at X 0 0:=fun A B X=>by rw [hG]; exact at_app (A::B::ν0) X 0 0
  have u0:∀ A B X o,Sto.upd (A::B::(ν0++X)) (G+2) 0 o=A::B::(ν0++Sto.upd X 0 0 o):=fun A B X o=>by rw [hG]; exact upd_app (A::B::ν0) X 0 0 o
  rw [← hG]
  have e1:∀ A B X Y,(A::B::(ν0++X):Sto)++Y=A::B::(ν0++(X++Y)):=fun A B X Y=>by simp
  have ln:∀ (A B:Option (List Ob)) (X:Sto),List.length (A::B::(ν0++X))=G+(X.length+2):=fun A B X=>by simp [hG]; omega
  refine AWPC.own0c 72 24 (f:=G+2) (i:=0) (e:=0) (j:=0) (a0 _ _ _) (by simp) rfl ?_
  refine AWPC.sto (σ':=some [⟨37,4,[rgZ],none⟩]::some [⟨109,4,b.stns.map Stn.cs,none⟩]::(ν0++[some [⟨37,4,[[.own (G+3) 0 0,.v (.slice none 0 0),.own 1 0 b.stns.length,.v (.slice none 0 0)]],none⟩],some [⟨72,24,[],none⟩]])) (by rw [ln,e1,u0]; rfl) ?_
  refine AWPC.own0c 64 5 (f:=G+2) (i:=0) (e:=0) (j:=1) (a0 _ _ _) (by simp) rfl ?_
  refine AWPC.sto (σ':=some [⟨37,4,[rgZ],none⟩]::some [⟨109,4,b.stns.map Stn.cs,none⟩]::(ν0++[some [⟨37,4,[[.own (G+3) 0 0,.own (G+4) 0 0,.own 1 0 b.stns.length,.v (.slice none 0 0)]],none⟩],some [⟨72,24,[],none⟩],some [⟨64,5,[],none⟩]])) (by rw [ln,e1,u0]; rfl) ?_
  refine AWPC.own0 68 38 6 rfl ?_
  rw [ln,e1]
  simp only [List.length_cons,List.length_nil,List.cons_append,List.nil_append,Nat.zero_add,reduceAdd]
  have hb0:(stnsE b.stns).1=0:=hbo.1
  have hmem:∀ a∈S,a∈l:=fun a ha=>by rw [hS] at ha; exact (mem_standT.1 ha).1
  have hsl:∀ k,(shsR S (S.take k)).length≤k:=fun k=>Nat.le_trans (shsR_len S _) (by rw [List.length_take]; omega)
  have hrl:∀ k,((S.take k).filter (kd 3)).length≤k:=fun k=>Nat.le_trans (List.length_filter_le _ _) (by rw [List.length_take]; omega)
  have hcl:∀ k,((S.take k).filter (badS b S)).length≤k:=fun k=>Nat.le_trans (List.length_filter_le _ _) (by rw [List.length_take]; omega)
  have htl:∀ k,(stsR b.stns (S.take k)).length=b.stns.length:=fun k=>by
    have:=congrArg List.length (SameS.stsR hb0 (S.take k)).ids
    simpa using this
  have hm:∀ a∈S,(a.kind=2∨(a.kind=6∧a.read.stn=0))→0≤a.mark.col:=fun a ha hk=>by
    have g:=(hlo a (hmem a ha)).2.2.2.2
    unfold Nt.says at g
    rcases hk with hk | ⟨hk,h0⟩
    · rw [if_neg (by omega),if_pos hk] at g
      exact g.2.1.1
    · rw [if_neg (by omega),if_neg (by omega),if_neg (by omega),if_neg (by omega),if_neg (by omega),if_pos hk,if_neg (by omega)] at g
      exact g.2.1.1
  have hSl:S.length≤l.length:=by rw [hS]; exact standT_len l
  have hp:∀ a∈S,a.kind=4→(stnOf b.stns a.stn).2=0:=fun a ha hk=>by
    have g:=(hlo a (hmem a ha)).2.2.2.2
    unfold Nt.says at g
    rw [if_neg (by omega),if_neg (by omega),if_neg (by omega),if_pos hk] at g
    exact g.1.1
  have hhs:∀ k i,((stsR b.stns (S.take k)).getD i default).heights.length < 1000000:=fun k i=>by
    have g:=(stns_small (SameS.stsR hb0 (S.take k)).ok).2
    by_cases h:i < (stsR b.stns (S.take k)).length
    · have:=g _ (List.mem_of_getElem? (getD_lt default h)); omega
    · rw [List.getD_eq_getElem?_getD,List.getElem?_eq_none (by omega)]; decide
  have aR:∀ A B o X,Sto.at (A::B::(ν0++some [o]::X)) (G+2) 0=some o:=fun A B o X=>a0 A B _
  have aS:∀ A B p o X,Sto.at (A::B::(ν0++p::some [o]::X)) (G+3) 0=some o:=fun A B p o X=>by rw [hG]; exact at_app (A::B::ν0) _ 1 0
  have aD:∀ A B p q o X,Sto.at (A::B::(ν0++p::q::some [o]::X)) (G+4) 0=some o:=fun A B p q o X=>by rw [hG]; exact at_app (A::B::ν0) _ 2 0
  have aC:∀ A B p q r o X,Sto.at (A::B::(ν0++p::q::r::some [o]::X)) (G+5) 0=some o:=fun A B p q r o X=>by rw [hG]; exact at_app (A::B::ν0) _ 3 0
  have uR:∀ A B o X o',Sto.upd (A::B::(ν0++some [o]::X)) (G+2) 0 o'=A::B::(ν0++some [o']::X):=fun A B o X o'=>u0 A B _ o'
  have uS:∀ A B p o X o',Sto.upd (A::B::(ν0++p::some [o]::X)) (G+3) 0 o'=A::B::(ν0++p::some [o']::X):=fun A B p o X o'=>by rw [hG]; exact upd_app (A::B::ν0) _ 1 0 o'
  have uD:∀ A B p q o X o',Sto.upd (A::B::(ν0++p::q::some [o]::X)) (G+4) 0 o'=A::B::(ν0++p::q::some [o']::X):=fun A B p q o X o'=>by rw [hG]; exact upd_app (A::B::ν0) _ 2 0 o'
  have uC:∀ A B p q r o X o',Sto.upd (A::B::(ν0++p::q::r::some [o]::X)) (G+5) 0 o'=A::B::(ν0++p::q::r::some [o']::X):=fun A B p q r o X o'=>by rw [hG]; exact upd_app (A::B::ν0) _ 3 0 o'
  refine AWPC.loopE (α:={ z:Nat × Sto // z.1≤S.length }) [6,8] (fun z=>[(6,.own (G+5) 0 ((S.take z.1.1).filter (badS b S)).length),(8,n z.1.1)])
    (fun z=>some [⟨37,4,[rgZ],none⟩]::some [⟨109,4,(stsR b.stns (S.take z.1.1)).map Stn.cs,none⟩]::(ν0++some [⟨37,4,[[.own (G+3) 0 (shsR S (S.take z.1.1)).length,.own (G+4) 0 ((S.take z.1.1).filter (kd 3)).length,.own 1 0 b.stns.length,.v (.slice none 0 0)]],none⟩]::some [⟨72,24,(shsR S (S.take z.1.1)).map Fld.cs,none⟩]::some [⟨64,5,((S.take z.1.1).filter (kd 3)).map fun a=>(knw S a).read.cs,none⟩]::some [⟨68,38,((S.take z.1.1).filter (badS b S)).map Nt.cs,none⟩]::z.1.2))
    (fun z=>S.length - z.1.1) ⟨(0,[]),Nat.zero_le _⟩ ?_ rfl ?_
  · (simp only [zN,zT,zV,zS,zU,Q0,Q1,ex,Q2,Q3,Q4,Q5,Q6,Q7,Q8,Q9,QA,QB,QC,Nat.reduceBEq,reduceAdd,reduceSub,reduceLT,reduceLeDiff,reduceMul,reduceEqDiff,reduceIte]; try simp)
  · rintro ⟨⟨k,ν⟩,hk⟩
    simp only at hk ⊢
    by_cases hlt:k < S.length
    · have hg:=getD_lt nt0 hlt
      have hr:(S.map Nt.cs).getD k []=Nt.cs (S.getD k nt0):=row nt0 hlt
      have n1:=shsR_next hg
      have n2:=stsR_next (st:=b.stns) hg
      have n3:(S.take (k+1)).filter (kd 3)=if kd 3 (S.getD k nt0) then (S.take k).filter (kd 3)++[S.getD k nt0] else (S.take k).filter (kd 3):=by
        rw [List.take_add_one,hg,Option.toList_some,List.filter_append,List.filter_cons,List.filter_nil]
        split <;> simp
      have n4:(S.take (k+1)).filter (badS b S)=if badS b S (S.getD k nt0) then (S.take k).filter (badS b S)++[S.getD k nt0] else (S.take k).filter (badS b S):=by
        rw [List.take_add_one,hg,Option.toList_some,List.filter_append,List.filter_cons,List.filter_nil]
        split <;> simp
      have l1:=hsl k
      have l2:=hrl k
      have l3:=hcl k
      have l4:=htl k
      have hbf:=bef_take hSn hlt
      have hbad:badS b S (S.getD k nt0)=if (S.getD k nt0).kind=1 then takenB S (shsR S (S.take k)) (S.getD k nt0)
          else if (S.getD k nt0).kind=2 then !cnt S (S.getD k nt0)
          else if (S.getD k nt0).kind=4 then decide ((movR (stsR b.stns (S.take k)) (S.getD k nt0)).2≠0)
          else if (S.getD k nt0).kind=5 then (shN S (S.getD k nt0).ref).isNone
          else if (S.getD k nt0).kind=6 then !corr S (S.getD k nt0) else false:=by
        unfold badS; rw [hbf]
      have hid:=(SameS.stsR hb0 (S.take k)).of hb0 (S.getD k nt0).stn
      have hp4:=hp _ (List.mem_of_getElem? hg)
      have hhk:=hhs k
      generalize shsR S (S.take k)=sh at n1 l1 hbad
      generalize (S.take k).filter (kd 3)=rd at n3 l2
      generalize (S.take k).filter (badS b S)=cf at n4 l3
      generalize stsR b.stns (S.take k)=st at n2 l4 hbad hid hhk
      rw [hbad] at n4
      have hcn:=rcounts_spec S (by omega) k hlt
      have hcR:=cnt_R hSn hm hlt
      have hco:=rcorrects_spec S (by omega) k hlt
      have hoR:=corr_R hSn hm hlt
      have hsh:=rsheet_spec S (by omega) (by omega) (S.getD k nt0).ref
      have hshN:=sheet_sh hSn (S.getD k nt0).ref
      have hkn:=rknown_spec S (by omega) k hlt
      obtain ⟨g1,g2⟩:=knw_R' hSn hm hlt
      have hrw:(S.map Nt.cs).getD (knwR S k S.length) []=Nt.cs (S.getD (knwR S k S.length) nt0):=row nt0 g1
      rw [g2] at hrw
      clear g2
      generalize knwR S k S.length=w at hkn hrw g1
      have hfi:=rfiled_spec S (by omega) hSn hm k hlt
      generalize S.getD k nt0=x at hr n1 n2 n3 n4 hcR hoR hsh hshN hrw hfi hid hp4
      clear hbad hbf hg
      by_cases k2:x.kind=2
      · rw [show kd 1 x=false from decide_eq_false (by omega),if_neg (by decide)] at n1
        rw [show kd 4 x=false from decide_eq_false (by omega),if_neg (by decide)] at n2
        rw [show kd 3 x=false from decide_eq_false (by omega),if_neg (by decide)] at n3
        rw [if_neg (show ¬ x.kind=1 by omega),if_pos k2] at n4
        rw [hcR k2] at hcn
        generalize cnt S x=q at hcn n4
        cases q with
        | true =>
          rw [Bool.not_true,if_neg (by decide)] at n4
          ((refine Az (And.intro @hr (And.intro @k2 (And.intro @aR (And.intro @aS (And.intro @aD (And.intro @aC (And.intro @uR (And.intro @uS (And.intro @uD @uC))))))))) @hcn ?_;repeat' constructor)<;>intros<;>refine hD_ ?_)
          all_goals try (exfalso;omega)
          all_goals exact ⟨⟨(k+1,ν),hlt⟩,⟨by simp only [n4],by simp⟩,by simp only [n1,n2,n3,n4],by simp only; omega⟩
        | false =>
          rw [Bool.not_false,if_pos rfl] at n4
          ((refine Az (And.intro @hr (And.intro @k2 (And.intro @aR (And.intro @aS (And.intro @aD (And.intro @aC (And.intro @uR (And.intro @uS (And.intro @uD @uC))))))))) @hcn ?_;repeat' constructor)<;>intros<;>refine hD_ ?_)
          all_goals try (exfalso;omega)
          all_goals exact ⟨⟨(k+1,ν),hlt⟩,⟨by simp [n4],by simp⟩,by simp [n1,n2,n3,n4],by simp only; omega⟩
      by_cases k5:x.kind=5
      ·
        rw [show kd 1 x=false from decide_eq_false (by omega),if_neg (by decide)] at n1
        rw [show kd 4 x=false from decide_eq_false (by omega),if_neg (by decide)] at n2
        rw [show kd 3 x=false from decide_eq_false (by omega),if_neg (by decide)] at n3
        rw [if_neg (show ¬ x.kind=1 by omega),if_neg k2,if_neg (show ¬ x.kind=4 by omega),if_pos k5,hshN] at n4
        cases hz:sheetR S x.ref with
        | none =>
          rw [hz] at hsh n4
          simp only [plc] at hsh
          rw [Option.map_none,Option.isNone_none,if_pos rfl] at n4
          ((refine Az (And.intro @hr (And.intro @k5 (And.intro @aR (And.intro @aS (And.intro @aD (And.intro @aC (And.intro @uR (And.intro @uS (And.intro @uD @uC))))))))) @hsh ?_;repeat' constructor)<;>intros<;>refine hD_ ?_)
          all_goals try (exfalso;omega)
          all_goals exact ⟨⟨(k+1,ν),hlt⟩,⟨by simp [n4],by simp⟩,by simp [n1,n2,n3,n4],by simp only; omega⟩
        | some w =>
          rw [hz] at hsh n4
          simp only [plc] at hsh
          rw [Option.map_some,Option.isNone_some,if_neg (by decide)] at n4
          ((refine Az (And.intro @hr (And.intro @k5 (And.intro @aR (And.intro @aS (And.intro @aD (And.intro @aC (And.intro @uR (And.intro @uS (And.intro @uD @uC))))))))) @hsh ?_;repeat' constructor)<;>intros<;>refine hD_ ?_)
          all_goals try (exfalso;omega)
          all_goals exact ⟨⟨(k+1,ν),hlt⟩,⟨by simp [n4],by simp⟩,by simp [n1,n2,n3,n4],by simp only; omega⟩
      by_cases k6:x.kind=6
      ·
        rw [show kd 1 x=false from decide_eq_false (by omega),if_neg (by decide)] at n1
        rw [show kd 4 x=false from decide_eq_false (by omega),if_neg (by decide)] at n2
        rw [show kd 3 x=false from decide_eq_false (by omega),if_neg (by decide)] at n3
        rw [if_neg (show ¬ x.kind=1 by omega),if_neg k2,if_neg (show ¬ x.kind=4 by omega),if_neg k5,if_pos k6] at n4
        rw [hoR k6] at hco
        generalize corr S x=q at hco n4
        cases q with
        | true =>
          rw [Bool.not_true,if_neg (by decide)] at n4
          ((refine Az (And.intro @hr (And.intro @k6 (And.intro @aR (And.intro @aS (And.intro @aD (And.intro @aC (And.intro @uR (And.intro @uS (And.intro @uD @uC))))))))) @hco ?_;repeat' constructor)<;>intros<;>refine hD_ ?_)
          all_goals try (exfalso;omega)
          all_goals exact ⟨⟨(k+1,ν),hlt⟩,⟨by simp [n4],by simp⟩,by simp [n1,n2,n3,n4],by simp only; omega⟩
        | false =>
          rw [Bool.not_false,if_pos rfl] at n4
          ((refine Az (And.intro @hr (And.intro @k6 (And.intro @aR (And.intro @aS (And.intro @aD (And.intro @aC (And.intro @uR (And.intro @uS (And.intro @uD @uC))))))))) @hco ?_;repeat' constructor)<;>intros<;>refine hD_ ?_)
          all_goals try (exfalso;omega)
          all_goals exact ⟨⟨(k+1,ν),hlt⟩,⟨by simp [n4],by simp⟩,by simp [n1,n2,n3,n4],by simp only; omega⟩
      by_cases k3:x.kind=3
      ·
        rw [show kd 1 x=false from decide_eq_false (by omega),if_neg (by decide)] at n1
        rw [show kd 4 x=false from decide_eq_false (by omega),if_neg (by decide)] at n2
        rw [show kd 3 x=true from decide_eq_true k3,if_pos rfl] at n3
        rw [if_neg (show ¬ x.kind=1 by omega),if_neg k2,if_neg (show ¬ x.kind=4 by omega),if_neg k5,if_neg k6,if_neg (by decide)] at n4
        ((refine Az (And.intro @hr (And.intro @hrw (And.intro @k3 (And.intro @aR (And.intro @aS (And.intro @aD (And.intro @aC (And.intro @uR (And.intro @uS (And.intro @uD @uC)))))))))) @hkn ?_;repeat' constructor)<;>intros<;>refine hD_ ?_)
        all_goals try (exfalso;omega)
        all_goals exact ⟨⟨(k+1,ν),hlt⟩,⟨by simp [n4],by simp⟩,by simp [n1,n2,n3,n4],by simp only; omega⟩
      have hG':List.length ν0=G:=hG.symm
      have aN:∀ A B p q r c o,Sto.at (A::B::(ν0++p::q::r::c::(ν++[some [o]]))) (G+(List.length ν+6)) 0=some o:=fun A B p q r c o=>by
        have:=at_app (A::B::(ν0++p::q::r::c::ν)) [some [o]] 0 0
        have e:List.length (A::B::(ν0++p::q::r::c::ν))+0=G+(List.length ν+6):=by simp [hG']; omega
        rw [e] at this
        exact (show _=Sto.at [some [o]] 0 0 by simpa using this).trans rfl
      have uN:∀ A B p q r c o o',Sto.upd (A::B::(ν0++p::q::r::c::(ν++[some [o]]))) (G+(List.length ν+6)) 0 o'=A::B::(ν0++p::q::r::c::(ν++[some [o']])):=fun A B p q r c o o'=>by
        have:=upd_app (A::B::(ν0++p::q::r::c::ν)) [some [o]] 0 0 o'
        have e:List.length (A::B::(ν0++p::q::r::c::ν))+0=G+(List.length ν+6):=by simp [hG']; omega
        rw [e,show Sto.upd [some [o]] 0 0 o'=[some [o']] from rfl] at this
        simpa using this
      by_cases k1:x.kind=1
      · rw [show kd 1 x=true from decide_eq_true k1,if_pos rfl] at n1
        rw [show kd 4 x=false from decide_eq_false (by omega),if_neg (by decide)] at n2
        rw [show kd 3 x=false from decide_eq_false (by omega),if_neg (by decide)] at n3
        rw [if_pos k1] at n4
        unfold entR at n1
        unfold takenB at n4
        generalize fld S x=F at hfi n1 n4
        have hsO:=rsheetOf_spec sh (by omega) F.stn F.week
        have hpk:∀ A B p X,Peek Tryz.prog 126 [.own (G+3) 0 sh.length,n F.stn,n F.week] (A::B::(ν0++p::some [⟨72,24,sh.map Fld.cs,none⟩]::X)) (n (match sheetAt sh F.stn F.week with | some j=>(j:Int) | none=>-1)):=fun A B p X =>
          Peek.plain hsO (Plain.v _) ⟨Frz.ownL (f:=G+3) (cs:=Fld.cs) (l:=sh) (aS _ _ _ _ _) rfl (by decide) (fun a=>Fld.pc a) (fun a=>rfl),Frz.pure (by simp),Frz.pure (by simp),trivial⟩
        clear hsO
        cases hz:sheetAt sh F.stn F.week with
        | none =>
          rw [hz] at n1 n4
          simp only [hz] at hpk
          rw [Option.isSome_none,if_neg (by decide)] at n1 n4
          (repeat' ((first
 | refine vn rfl ?_
 | simp (disch:=omega) only [wr64,Int.zero_sub]
 | refine bo (fun _=>?_) fun _=>?_
 | refine im fun _=>?_
 | ((repeat refine si ?_); ((first | refine .inl ⟨_,_,_,_,rfl,fun _=>(by first | exact (hpk _ _ _ _)),?_⟩ | refine ⟨_,_,_,_,rfl,fun _=>(by first | exact (hpk _ _ _ _)),?_⟩); (first | refine o1 ?_ | refine o2 ?_ | refine o3 ?_ | refine o4 ?_)))
 | ((repeat refine si ?_); (first | ((first | refine .inl ⟨_,_,_,_,rfl,fun _=>pu hfi,?_⟩ | refine ⟨_,_,_,_,rfl,fun _=>pu hfi,?_⟩); (first | refine o1 ?_ | refine o2 ?_ | refine o3 ?_ | refine o4 ?_)) | refine .inl ⟨_,_,_,_,rfl,pu hfi,?_⟩))
 | refine cF ?_
 | refine om ?_
 | refine an ?_
 | fail) <;> try simp only [zN, zT, zV, zS, zU, vcC, lateX, ex, strp, binA, elems, cells, scalar, eqC, keyA, intsA, lookA, ofVs, mpOf, Nat.reduceBEq, reduceAdd, reduceSub, reduceLT, reduceLeDiff, reduceMul, reduceEqDiff, reduceIte, hr, k1, aR, aS, aD, aC, aN, uN, hG', uR, uS, uD, uC, List.length_map]))
          all_goals try (exfalso;omega)
          all_goals exact ⟨⟨(k+1,ν++[some [⟨72,24,[F.cs],none⟩]]),hlt⟩,⟨by simp [n4],by simp⟩,by simp [n1,n2,n3,n4],by simp only; omega⟩
        | some j =>
          rw [hz] at n1 n4
          simp only [hz] at hpk
          rw [Option.isSome_some,if_pos rfl] at n1 n4
          (repeat' ((first
 | refine vn rfl ?_
 | simp (disch:=omega) only [wr64,Int.zero_sub]
 | refine bo (fun _=>?_) fun _=>?_
 | refine im fun _=>?_
 | ((repeat refine si ?_); ((first | refine .inl ⟨_,_,_,_,rfl,fun _=>(by first | exact (hpk _ _ _ _)),?_⟩ | refine ⟨_,_,_,_,rfl,fun _=>(by first | exact (hpk _ _ _ _)),?_⟩); (first | refine o1 ?_ | refine o2 ?_ | refine o3 ?_ | refine o4 ?_)))
 | ((repeat refine si ?_); (first | ((first | refine .inl ⟨_,_,_,_,rfl,fun _=>pu hfi,?_⟩ | refine ⟨_,_,_,_,rfl,fun _=>pu hfi,?_⟩); (first | refine o1 ?_ | refine o2 ?_ | refine o3 ?_ | refine o4 ?_)) | refine .inl ⟨_,_,_,_,rfl,pu hfi,?_⟩))
 | refine cF ?_
 | refine om ?_
 | refine an ?_
 | fail) <;> try simp only [zN, zT, zV, zS, zU, vcC, lateX, ex, strp, binA, elems, cells, scalar, eqC, keyA, intsA, lookA, ofVs, mpOf, Nat.reduceBEq, reduceAdd, reduceSub, reduceLT, reduceLeDiff, reduceMul, reduceEqDiff, reduceIte, hr, k1, aR, aS, aD, aC, aN, uN, hG', uR, uS, uD, uC, List.length_map]))
          all_goals try (exfalso;omega)
          all_goals exact ⟨⟨(k+1,ν++[some [⟨72,24,[F.cs],none⟩]]),hlt⟩,⟨by simp [n4],by simp⟩,by simp [n1,n2,n3,n4],by simp only; omega⟩
      by_cases k4:x.kind=4
      · rw [show kd 1 x=false from decide_eq_false (by omega),if_neg (by decide)] at n1
        rw [show kd 4 x=true from decide_eq_true k4,if_pos rfl] at n2
        rw [show kd 3 x=false from decide_eq_false (by omega),if_neg (by decide)] at n3
        rw [if_neg k1,if_neg k2,if_pos k4] at n4
        have hso:=rStationOf_spec b.stns hb x.stn
        obtain ⟨hix,_⟩:=stnOf_lt (hp4 k4)
        unfold raiR movR at n2
        unfold movR at n4
        rw [hid] at n2 n4
        generalize (stnOf b.stns x.stn).1=ix at hso hix n2 n4
        generalize (stnOf b.stns x.stn).2=e9 at hso
        have hrs:(st.map Stn.cs).getD ix []=Stn.cs (st.getD ix default):=row default (by omega)
        have hmv:=rMove_spec (st.getD ix default) x.height (hhk ix)
        generalize moveE (st.getD ix default) x.height=mv at hmv n2 n4
        obtain ⟨m1,m2⟩:=mv
        generalize st.getD ix default=s0 at hrs hmv
        simp only at hmv n2 n4
        clear hid hhk hp4 hco hoR hcn hcR hsh hshN hfi hkn hrw
        by_cases hm2:m2=0
        · subst hm2
          rw [if_neg (by decide)] at n2
          rw [decide_eq_false (by decide),if_neg (by decide)] at n4
          ((refine Az (And.intro @hr (And.intro @k4 (And.intro @hrs (And.intro @aR (And.intro @aS (And.intro @aD (And.intro @aC (And.intro @aN (And.intro @hG' (And.intro @uR (And.intro @uS (And.intro @uD (And.intro @uC (And.intro @uN @l4)))))))))))))) (And.intro @hso @hmv) ?_;repeat' constructor)<;>intros<;>refine hD_ ?_)
          all_goals try (exfalso;omega)
          all_goals exact ⟨⟨(k+1,ν++[some [⟨109,4,[Stn.cs m1],none⟩]]),hlt⟩,⟨by simp [n4],by simp⟩,by simp [n1,n2,n3,n4],by simp only; omega⟩
        · rw [if_pos hm2] at n2
          rw [decide_eq_true hm2,if_pos rfl] at n4
          ((refine Az (And.intro @hr (And.intro @k4 (And.intro @hrs (And.intro @aR (And.intro @aS (And.intro @aD (And.intro @aC (And.intro @aN (And.intro @hG' (And.intro @uR (And.intro @uS (And.intro @uD (And.intro @uC (And.intro @uN @l4)))))))))))))) (And.intro @hso @hmv) ?_;repeat' constructor)<;>intros<;>refine hD_ ?_)
          all_goals try (exfalso;omega)
          all_goals exact ⟨⟨(k+1,ν++[some [⟨109,4,[Stn.cs m1],none⟩]]),hlt⟩,⟨by simp [n4],by simp⟩,by simp [n1,n2,n3,n4],by simp only; omega⟩
      rw [show kd 1 x=false from decide_eq_false (by omega),if_neg (by decide)] at n1
      rw [show kd 4 x=false from decide_eq_false (by omega),if_neg (by decide)] at n2
      rw [show kd 3 x=false from decide_eq_false (by omega),if_neg (by decide)] at n3
      rw [if_neg k1,if_neg k2,if_neg k4,if_neg k5,if_neg k6,if_neg (by decide)] at n4
      ((refine Az (And.intro @hr (And.intro @k1 (And.intro @k2 (And.intro @k3 (And.intro @k4 (And.intro @k5 (And.intro @k6 (And.intro @aR (And.intro @aS (And.intro @aD (And.intro @aC (And.intro @uR (And.intro @uS (And.intro @uD @uC)))))))))))))) @hco ?_;repeat' constructor)<;>intros<;>refine hD_ ?_)
      all_goals try (exfalso;omega)
      all_goals exact ⟨⟨(k+1,ν),hlt⟩,⟨by simp [n4],by simp⟩,by simp [n1,n2,n3,n4],by simp only; omega⟩
    · obtain rfl:k=S.length:=by omega
      rw [List.take_length]
      have hfl:S.length < 4294967296:=by omega
      obtain ⟨SH,hSH⟩:∃ SH,SH=shsR S S:=⟨_,rfl⟩
      obtain ⟨RD,hRD⟩:∃ RD,RD=S.filter (kd 3):=⟨_,rfl⟩
      obtain ⟨CF,hCF⟩:∃ CF,CF=S.filter (badS b S):=⟨_,rfl⟩
      obtain ⟨ST,hST⟩:∃ ST,ST=stsR b.stns S:=⟨_,rfl⟩
      have hCl:CF.length≤S.length:=by rw [hCF]; exact List.length_filter_le _ _
      rw [← hSH,← hRD,← hCF,← hST]
      ((refine Au ?_;repeat' constructor)<;>intros<;>refine hD_ ?_)
      all_goals try (exfalso;omega)
      have hG':List.length ν0=G:=hG.symm
      have hl4:l.length < 4294967296:=by omega
      refine AWPC.loopE (α:={ z:Nat // z≤l.length }) [6,15] (fun z=>[(6,.own (G+5) 0 (CF++(l.take z.1).filter fun a=>decide (a.kind=7) && badR b l a).length),(15,n z.1)])
        (fun z=>some [⟨37,4,[rgZ],none⟩]::some [⟨109,4,ST.map Stn.cs,none⟩]::(ν0++some [⟨37,4,[[.own (G+3) 0 SH.length,.own (G+4) 0 RD.length,.own 1 0 b.stns.length,.v (.slice none 0 0)]],none⟩]::some [⟨72,24,SH.map Fld.cs,none⟩]::some [⟨64,5,RD.map fun a=>(knw S a).read.cs,none⟩]::some [⟨68,38,(CF++(l.take z.1).filter fun a=>decide (a.kind=7) && badR b l a).map Nt.cs,none⟩]::ν))
        (fun z=>l.length - z.1) ⟨0,Nat.zero_le _⟩ ?_ (by simp) ?_
      · (simp only [zN,zT,zV,zS,zU,Q0,Q1,ex,Q2,Q3,Q4,Q5,Q6,Q7,Q8,Q9,QA,QB,QC,Nat.reduceBEq,reduceAdd,reduceSub,reduceLT,reduceLeDiff,reduceMul,reduceEqDiff,reduceIte]; try simp)
      · rintro ⟨j,hj⟩
        simp only at hj ⊢
        by_cases hlt:j < l.length
        · have hg:=getD_lt nt0 hlt
          have hr:(l.map Nt.cs).getD j []=Nt.cs (l.getD j nt0):=row nt0 hlt
          have n1:CF++(l.take (j+1)).filter (fun a=>decide (a.kind=7) && badR b l a)=if (decide ((l.getD j nt0).kind=7) && badR b l (l.getD j nt0)) then (CF++(l.take j).filter fun a=>decide (a.kind=7) && badR b l a)++[l.getD j nt0] else CF++(l.take j).filter fun a=>decide (a.kind=7) && badR b l a:=by
            rw [List.take_add_one,hg,Option.toList_some,List.filter_append,List.filter_cons,List.filter_nil]
            split <;> simp
          have l1:(CF++(l.take j).filter fun a=>decide (a.kind=7) && badR b l a).length≤S.length+j:=by
            rw [List.length_append]
            have:=List.length_filter_le (fun a=>decide (a.kind=7) && badR b l a) (l.take j)
            rw [List.length_take] at this; omega
          generalize (CF++(l.take j).filter fun a=>decide (a.kind=7) && badR b l a)=cf at n1 l1
          have hf:=rfind_spec l (by omega) (l.getD j nt0).ref
          have hfq:=find_fq hn (l.getD j nt0).ref
          have hq:(l.getD j nt0).kind=7→badR b l (l.getD j nt0)=(match fq l (fun _=>true) (l.getD j nt0).ref with | none=>true | some m=>decide (m.kind=7)):=fun h=>by unfold badR; rw [if_pos h]; cases fq l (fun _=>true) (l.getD j nt0).ref <;> rfl
          rw [hfq] at hq
          generalize l.getD j nt0=x at hr n1 hf hq
          clear hg hfq
          cases hz:findR l x.ref with
          | none =>
            rw [hz] at hf hq
            obtain ⟨w,hw⟩:∃ w:Int,w=plc none:=⟨_,rfl⟩
            rw [← hw] at hf
            have hw:w=-1:=hw
            have hry:(l.map Nt.cs).getD w.toNat []=Nt.cs (l.getD 0 nt0):=by rw [hw]; exact row nt0 (by omega)
            have hw0:decide (w < 0)=true:=by rw [hw]; rfl
            generalize l.getD 0 nt0=y at hry
            by_cases k7:x.kind=7
            · rw [hq k7,decide_eq_true k7] at n1
              simp only [Option.map_none,Bool.and_self,if_true] at n1
              (repeat' ((first
 | refine vn rfl ?_
 | simp (disch:=omega) only [wr64,Int.zero_sub]
 | refine bo (fun _=>?_) fun _=>?_
 | refine im fun _=>?_
 | ((repeat refine si ?_); (first | ((first | refine .inl ⟨_,_,_,_,rfl,fun _=>pu hf,?_⟩ | refine ⟨_,_,_,_,rfl,fun _=>pu hf,?_⟩); (first | refine o1 ?_ | refine o2 ?_ | refine o3 ?_ | refine o4 ?_)) | refine .inl ⟨_,_,_,_,rfl,pu hf,?_⟩))
 | refine cF ?_
 | refine om ?_
 | refine an ?_
 | fail) <;> try simp only [zN, zT, zV, zS, zU, vcC, lateX, ex, strp, binA, elems, cells, scalar, eqC, keyA, intsA, lookA, ofVs, mpOf, Nat.reduceBEq, reduceAdd, reduceSub, reduceLT, reduceLeDiff, reduceMul, reduceEqDiff, reduceIte, hr, hry, k7, hw0, Bool.true_or, aR, aS, aD, aC, hG', uR, uS, uD, uC, List.length_map]))
              all_goals try (exfalso;omega)
              all_goals refine ⟨⟨j+1,hlt⟩,⟨?_,by simp⟩,by first | (simp only [n1]; done) | (simp only [n1]; simp; done) | (simp [n1]; done),by simp only; omega⟩
              all_goals (have h9:=congrArg List.length n1; simp at h9 ⊢; omega)
            · rw [decide_eq_false k7,Bool.false_and,if_neg (by decide)] at n1
              (repeat' ((first
 | refine vn rfl ?_
 | simp (disch:=omega) only [wr64,Int.zero_sub]
 | refine bo (fun _=>?_) fun _=>?_
 | refine im fun _=>?_
 | ((repeat refine si ?_); (first | ((first | refine .inl ⟨_,_,_,_,rfl,fun _=>pu hf,?_⟩ | refine ⟨_,_,_,_,rfl,fun _=>pu hf,?_⟩); (first | refine o1 ?_ | refine o2 ?_ | refine o3 ?_ | refine o4 ?_)) | refine .inl ⟨_,_,_,_,rfl,pu hf,?_⟩))
 | refine cF ?_
 | refine om ?_
 | refine an ?_
 | fail) <;> try simp only [zN, zT, zV, zS, zU, vcC, lateX, ex, strp, binA, elems, cells, scalar, eqC, keyA, intsA, lookA, ofVs, mpOf, Nat.reduceBEq, reduceAdd, reduceSub, reduceLT, reduceLeDiff, reduceMul, reduceEqDiff, reduceIte, hr, hry, k7, hw0, Bool.true_or, aR, aS, aD, aC, hG', uR, uS, uD, uC, List.length_map]))
              all_goals try (exfalso;omega)
              all_goals refine ⟨⟨j+1,hlt⟩,⟨?_,by simp⟩,by first | (simp only [n1]; done) | (simp only [n1]; simp; done) | (simp [n1]; done),by simp only; omega⟩
              all_goals (have h9:=congrArg List.length n1; simp at h9 ⊢; omega)
          | some i =>
            rw [hz] at hf hq
            simp only [plc] at hf
            have hil:=(findR_some hz).1
            have hry:(l.map Nt.cs).getD i []=Nt.cs (l.getD i nt0):=row nt0 hil
            simp only [Option.map_some] at hq
            generalize l.getD i nt0=y at hry hq
            by_cases k7:x.kind=7
            · rw [hq k7,decide_eq_true k7,Bool.true_and] at n1
              by_cases y7:y.kind=7
              · rw [decide_eq_true y7,if_pos rfl] at n1
                ((refine Az (And.intro @hr (And.intro @hry (And.intro @k7 (And.intro @y7 (And.intro @aR (And.intro @aS (And.intro @aD (And.intro @aC (And.intro @hG' (And.intro @uR (And.intro @uS (And.intro @uD @uC)))))))))))) @hf ?_;repeat' constructor)<;>intros<;>refine hD_ ?_)
                all_goals try (exfalso;omega)
                all_goals refine ⟨⟨j+1,hlt⟩,⟨?_,by simp⟩,by first | (simp only [n1]; done) | (simp only [n1]; simp; done) | (simp [n1]; done),by simp only; omega⟩
                all_goals (have h9:=congrArg List.length n1; simp at h9 ⊢; omega)
              · rw [decide_eq_false y7,if_neg (by decide)] at n1
                ((refine Az (And.intro @hr (And.intro @hry (And.intro @k7 (And.intro @y7 (And.intro @aR (And.intro @aS (And.intro @aD (And.intro @aC (And.intro @hG' (And.intro @uR (And.intro @uS (And.intro @uD @uC)))))))))))) @hf ?_;repeat' constructor)<;>intros<;>refine hD_ ?_)
                all_goals try (exfalso;omega)
                all_goals refine ⟨⟨j+1,hlt⟩,⟨?_,by simp⟩,by first | (simp only [n1]; done) | (simp only [n1]; simp; done) | (simp [n1]; done),by simp only; omega⟩
                all_goals (have h9:=congrArg List.length n1; simp at h9 ⊢; omega)
            · rw [decide_eq_false k7,Bool.false_and,if_neg (by decide)] at n1
              ((refine Az (And.intro @hr (And.intro @hry (And.intro @k7 (And.intro @aR (And.intro @aS (And.intro @aD (And.intro @aC (And.intro @hG' (And.intro @uR (And.intro @uS (And.intro @uD @uC))))))))))) @hf ?_;repeat' constructor)<;>intros<;>refine hD_ ?_)
              all_goals try (exfalso;omega)
              all_goals refine ⟨⟨j+1,hlt⟩,⟨?_,by simp⟩,by first | (simp only [n1]; done) | (simp only [n1]; simp; done) | (simp [n1]; done),by simp only; omega⟩
              all_goals (have h9:=congrArg List.length n1; simp at h9 ⊢; omega)
        · obtain rfl:j=l.length:=by omega
          rw [List.take_length]
          obtain ⟨L,hL⟩:∃ L,L=CF++l.filter fun a=>decide (a.kind=7) && badR b l a:=⟨_,rfl⟩
          have hLl:L.length < 4294967296:=by
            rw [hL,List.length_append]
            have:=List.length_filter_le (fun a=>decide (a.kind=7) && badR b l a) l
            omega
          have hcf:=confl_S (b:=b) hsrt
          rw [← hS,← hCF,← hL] at hcf
          have hN:=rNames_spec L hLl
          have hSo:=rSorted_spec (L.map Nt.nm) (by rw [List.length_map]; omega)
          rw [hcf] at hSo
          rw [← hL]
          refine AWPC.freeze1 (f:=G+5) (t:=6) (o:=⟨68,38,L.map Nt.cs,none⟩) rfl (aC _ _ _ _ _ _ _) (by simp) (show (38:Nat)≠0 by decide) ?_
          refine AWPC.sto (σ':=some [⟨37,4,[rgZ],none⟩]::some [⟨109,4,ST.map Stn.cs,none⟩]::(ν0++some [⟨37,4,[[.own (G+3) 0 SH.length,.own (G+4) 0 RD.length,.own 1 0 b.stns.length,.v (.slice none 0 0)]],none⟩]::some [⟨72,24,SH.map Fld.cs,none⟩]::some [⟨64,5,RD.map fun a=>(knw S a).read.cs,none⟩]::none::ν)) (by rw [hG]; exact gone_app (_::_::ν0) _ 3) ?_
          ((refine Az (And.intro @aR (And.intro @aS (And.intro @aD (And.intro @hG' (And.intro @uR (And.intro @uS @uD)))))) (And.intro @hN @hSo) ?_;repeat' constructor)<;>intros<;>refine hD_ ?_)
          all_goals try (exfalso;omega)
          have hE:(refT b l).cs=[fdS SH,rdS (RD.map fun a=>(knw S a).read),snS ST,nmS (refT b l).confl]:=by rw [hSH,hRD,hST,hS]; rfl
          have hTl:ST.length=b.stns.length:=by
            have:=congrArg List.length (SameS.stsR hb0 S).ids
            rw [hST]; simpa using this
          rw [hE]
          exact Frz.aggL ⟨Frz.ownL (f:=G+3) (cs:=Fld.cs) (l:=SH) (aS _ _ _ _ _) rfl (by decide) (fun a=>Fld.pc a) (fun a=>rfl),Frz.ownL (f:=G+4) (cs:=Rd.cs) (l:=RD.map fun a=>(knw S a).read) (by rw [List.map_map]; exact aD _ _ _ _ _ _) (by simp) (by decide) rd_pc (fun a=>rfl),Frz.ownL (f:=1) (cs:=Stn.cs) (l:=ST) rfl hTl (by decide) sn_pc (fun a=>rfl),Frz.pure (nmS_pure _),trivial⟩
def c22:CF:=⟨17,(jo [jx 2 26 6 0,jw 4 (.alloc 37 4 [.slice none 0 0,.slice none 0 0,.slice none 0 0,.slice none 0 0]),jc 5 0] [1,2,4]
 (jo [jk 7 6 2,jm 8 1,jy 9 82 [7,8],jm 6 9] [1,2,4,6]
 (.seq (jo [jm 10 6,ju .neq 11 10 0] [1,2,4,6,11]
 (.cond (.t 11) (jo [jw 12 (.build [.slice none 0 0,.slice none 0 0,.slice none 0 0,.slice none 0 0] []),jm 13 6,js 4 4 12,jm 5 13] [4,5]
 .ret)
 .skip))
 (jo [jk 14 6 2,jm 15 1,jy 16 83 [14,15],js 4 4 16,jc 5 0] [4,5]
 .ret)))),[.c 4 (some 4),.t 5]⟩
theorem k22:chkF Tryz.prog Tryz.f22 c22=true:=by kernel_rfl
def c24:CF:=⟨52,(jo [jx 4 26 6 0,jw 8 (.alloc 37 4 [.slice none 0 0,.slice none 0 0,.slice none 0 0,.slice none 0 0]),jc 9 0] [1,2,3,4,8]
 (jo [jk 13 6 4,jm 14 1,jy 15 82 [13,14],jm 10 15] [1,2,3,4,8,10]
 (.seq (jo [jm 16 10,ju .neq 17 16 0] [1,2,3,4,8,10,17]
 (.cond (.t 17) (jo [jw 18 (.build [.slice none 0 0,.slice none 0 0,.slice none 0 0,.slice none 0 0] []),jm 19 10,js 4 8 18,jm 9 19] [8,9]
 .ret)
 .skip))
 (jo [jn 11] [1,2,3,4,8,11]
 (.seq (jo [jc 12 0] [1,2,3,4,8,11,12]
 (.block 0 (.loop (.seq (jo [jm 20 12,jm 21 1,je 22 21,jt .lss 23 20 22] [1,2,3,4,8,11,12,23]
 (.cond (.t 23) .skip
 (.exit 0)))
 (.seq (.block 1 (jo [jm 26 1,jm 27 12,ji 28 38 26 27,jf 29 3 28,jl 30 29,jm 31 2,jt .leq 32 30 31,jm 33 32,ja 33 (jm 34 1),ja 33 (jm 35 12),ja 33 (ji 36 38 34 35),ja 33 (jf 37 2 36),ja 33 (jl 38 37),ja 33 (jm 39 3),ja 33 (jt .leq 40 38 39),jp 41 33 40] [1,2,3,4,8,11,12,41]
 (.cond (.t 41) (.ops [jm 42 11,jm 43 1,jm 44 12,ji 45 38 43 44,jk 46 38 45,jw 47 (.bsl false 68 38 1 z38 [(0,38,(.t 46))]),jw 48 (.app 68 38 368 (.t 42) (.t 47)),jm 11 48] [1,2,3,4,8,11,12])
 .skip)))
 (.ops [jm 24 12,ju .add 25 24 1,jm 12 25] [1,2,3,4,8,11,12]))))))
 (jo [jk 49 6 4,jm 50 11,jy 51 83 [49,50],js 4 8 51,jc 9 0] [8,9]
 .ret)))))),[.c 8 (some 4),.t 9]⟩
theorem k24:chkF Tryz.prog Tryz.f24 c24=true:=by kernel_rfl
def c26:CF:=⟨88,(jo [jx 3 26 6 0,jx 5 29 2 2,jn 6,jc 7 0] [1,3,5]
 (jo [jk 14 6 3,jm 15 1,jy 16 82 [14,15],jm 8 16] [1,5,8]
 (.seq (jo [jm 17 8,ju .neq 18 17 0] [1,5,8,18]
 (.cond (.t 18) (jo [jm 19 8,jn 6,jm 7 19] [6,7]
 .ret)
 .skip))
 (jo [jm 20 1,jk 21 2 5,jy 22 90 [20,21],jm 9 22] [1,5,9]
 (.seq (jo [jm 23 9,ju .lss 24 23 0,jm 25 24,jd 25 (jm 26 1),jd 25 (jm 27 9),jd 25 (ji 28 38 26 27),jd 25 (jf 29 4 28),jd 25 (jl 30 29),jd 25 (ju .neq 31 30 1),jd 25 (jm 32 31),ja 32 (jm 33 1),ja 32 (jm 34 9),ja 32 (ji 35 38 33 34),ja 32 (jf 36 4 35),ja 32 (jl 37 36),ja 32 (ju .neq 38 37 2),jd 25 (jp 39 32 38),jd 25 (jm 40 39),ja 40 (jm 41 1),ja 40 (jm 42 9),ja 40 (ji 43 38 41 42),ja 40 (jf 44 4 43),ja 40 (jl 45 44),ja 40 (ju .neq 46 45 3),jd 25 (jp 47 40 46),jq 48 25 47] [1,5,9,48]
 (.cond (.t 48) (jo [jn 6,jc 7 3] [6,7]
 .ret)
 .skip))
 (jo [jc 10 6] [1,5,9,10]
 (.seq (jo [jm 49 1,jm 50 9,ji 51 38 49 50,jf 52 4 51,jl 53 52,ju .eql 54 53 1] [1,5,10,54]
 (.cond (.t 54) (.ops [jc 10 5] [1,5,10])
 .skip))
 (jo [jm 55 1,jy 56 91 [55],jm 11 56] [5,10,11]
 (jo [jn 12] [5,10,11,12]
 (.seq (jo [jc 13 0] [5,10,11,12,13]
 (.block 0 (.loop (.seq (jo [jm 57 13,jm 58 11,je 59 58,jt .lss 60 57 59] [5,10,11,12,13,60]
 (.cond (.t 60) .skip
 (.exit 0)))
 (.seq (.block 1 (.seq (.draw [jm 63 11,jm 64 13,ji 65 38 63 64,jf 66 4 65,jl 67 66,jm 68 10,jt .eql 69 67 68,jm 70 69,ja 70 (jm 71 11),ja 70 (jm 72 13),ja 70 (ji 73 38 71 72),ja 70 (jf 74 36 73),ja 70 (jk 75 2 74),ja 70 (jk 76 2 5),⟨some 77,.eqs false [some .i64,some .i64] (.t 75) (.t 76),some (70,true)⟩,jp 78 70 77] [] [5,10,11,12,13,78])
 (.cond (.t 78) (.ops [jm 79 12,jm 80 11,jm 81 13,ji 82 38 80 81,jk 83 38 82,jy 84 92 [83],jw 85 (.bsl false 29 2 1 [.int .i64 0,.int .i64 0] [(0,2,(.t 84))]),jw 86 (.app 29 2 16 (.t 79) (.t 85)),jm 12 86] [5,10,11,12,13])
 .skip)))
 (.ops [jm 61 13,ju .add 62 61 1,jm 13 62] [5,10,11,12,13]))))))
 (jo [jm 87 12,jm 6 87,jc 7 0] [6,7]
 .ret))))))))))),[.t 6,.t 7]⟩
theorem k26:chkF Tryz.prog Tryz.f26 c26=true:=by kernel_rfl
theorem rfold_ok (b:Bse) (hb:bseSz b) (l m:List Nt) (hl:setSz l) (he:(setE b l).1=0) (hm:m.Sublist l):Pure Tryz.prog 83 [.agg b.cs,ntS m] (.agg (foldT b m).cs):=by
  obtain ⟨h1,h2,h3,h4⟩:=setE_ok he
  obtain ⟨g1,g2⟩:=stns_small h1.1
  have hn:=(setE_nodup he).sublist (hm.map _)
  rw [foldT_ref b hn]
  exact rfold_spec b hb m ⟨Nat.lt_of_le_of_lt hm.length_le hl.1,fun a ha=>hl.2 a (hm.subset ha)⟩ h1 (Nat.le_trans hm.length_le h2) (fun a ha=>h3 a (hm.subset ha)) (h4.sublist (hm.map _)) hn (by omega) (fun s hs=>by have:=g2 s hs; omega)
theorem rFold_spec (b:Bse) (hb:bseSz b) (l:List Nt) (hl:setSz l):Pure Tryz.prog 22 [.agg b.cs,ntS l] (.tup [.agg (foldE b l).1.cs,n (foldE b l).2]):=by
  refine pB_ Tryz.call22 Tryz.func22 k22 ?_
  unfold c22
  have h1:=rSet_spec b hb l hl
  by_cases ha:askedE b [l]=0
  · have hE:foldE b l=(foldT b l,0):=by unfold foldE; rw [if_neg (by omega)]
    rw [hE]
    rw [ha] at h1
    have h2:=rfold_ok b hb l l hl ((askedE_ok ha).2 l (by simp)) (List.Sublist.refl _)
    generalize foldT b l=r at h2
    ((refine Ay (And.intro @h1 @h2) ?_;repeat' constructor)<;>intros<;>refine hD_ ?_)
    all_goals try (exfalso;omega)
    exact Frz.tupL ⟨Frz.pure (rgr_pa r),Frz.pure (by simp),trivial⟩
  · have hE:foldE b l=(rgr0,askedE b [l]):=by unfold foldE; rw [if_pos ha]
    rw [hE]
    generalize askedE b [l]=e at h1 ha
    ((refine Ay @h1 ?_;repeat' constructor)<;>intros<;>refine hD_ ?_)
    all_goals try (exfalso;omega)
    exact Frz.tupL ⟨Frz.aggL ⟨Frz.nil0,Frz.nil0,Frz.nil0,Frz.nil0,trivial⟩,Frz.pure (by simp),trivial⟩
theorem rAsOf_spec (b:Bse) (hb:bseSz b) (l:List Nt) (hl:setSz l) (day clock:Int):Pure Tryz.prog 24 [.agg b.cs,ntS l,n day,n clock] (.tup [.agg (asofE b l day clock).1.cs,n (asofE b l day clock).2]):=by
  refine pB_ Tryz.call24 Tryz.func24 k24 ?_
  unfold c24
  have h1:=rSet_spec b hb l hl
  by_cases ha:askedE b [l]=0
  · have hok:=(askedE_ok ha).2 l (by simp)
    have h400:=(setE_ok hok).2.1
    obtain ⟨q,hq⟩:∃ q:Nt→Bool,q=fun a=>decide (a.day≤day∧a.clock≤clock):=⟨_,rfl⟩
    have hE:asofE b l day clock=(foldT b (l.filter q),0):=by unfold asofE; rw [if_neg (by omega),hq]
    rw [hE]
    rw [ha] at h1
    have h2:=rfold_ok b hb l (l.filter q) hl hok List.filter_sublist
    have hsl:∀ k,((l.take k).filter q).length≤l.length:=fun k=>Nat.le_trans (List.length_filter_le _ _) (by rw [List.length_take]; omega)
    have hfl:(l.filter q).length≤l.length:=List.length_filter_le _ _
    generalize foldT b (l.filter q)=r at h2
    ((refine Ay @h1 ?_;repeat' constructor)<;>intros<;>refine hD_ ?_)
    all_goals try (exfalso;omega)
    refine AWPC.own0 68 38 11 rfl ?_
    refine AWPC.loopE (α:={ i:Nat // i≤l.length }) [11,12] (fun i=>[(11,.own 1 0 ((l.take i.1).filter q).length),(12,n i.1)]) (fun i=>[some [⟨37,4,[rgZ],none⟩],some [⟨68,38,((l.take i.1).filter q).map Nt.cs,none⟩]]) (fun i=>l.length - i.1) ⟨0,Nat.zero_le _⟩ ?_ rfl ?_
    · (simp only [zN,zT,zV,zS,zU,Q0,Q1,ex,Q2,Q3,Q4,Q5,Q6,Q7,Q8,Q9,QA,QB,QC,Nat.reduceBEq,reduceAdd,reduceSub,reduceLT,reduceLeDiff,reduceMul,reduceEqDiff,reduceIte]; try simp)
    · rintro ⟨i,hi⟩
      simp only at hi ⊢
      by_cases hlt:i < l.length
      · have hr:(l.map Nt.cs).getD i []=Nt.cs (l.getD i nt0):=row nt0 hlt
        have hnx:=filter_next (q:=q) (getD_lt nt0 hlt)
        have hk:=hsl i
        have hqx:q (l.getD i nt0)=(decide ((l.getD i nt0).day≤day) && decide ((l.getD i nt0).clock≤clock)):=by rw [hq]; simp
        generalize (l.take i).filter q=W at hnx hk
        generalize l.getD i nt0=x at hr hnx hqx
        rw [hqx] at hnx
        clear hqx hq h1 h2
        by_cases c1:x.day≤day
        · by_cases c2:x.clock≤clock
          · rw [decide_eq_true c1,decide_eq_true c2,Bool.and_self,if_pos rfl] at hnx
            ((refine Ax (And.intro @hr (And.intro @c1 @c2)) ?_;repeat' constructor)<;>intros<;>refine hD_ ?_)
            all_goals try (exfalso;omega)
            all_goals exact ⟨⟨i+1,hlt⟩,⟨by simp [hnx],by simp⟩,by simp [hnx],by simp only; omega⟩
          · rw [decide_eq_false c2,Bool.and_false,if_neg (by decide)] at hnx
            ((refine Ax (And.intro @hr (And.intro @c1 @c2)) ?_;repeat' constructor)<;>intros<;>refine hD_ ?_)
            all_goals try (exfalso;omega)
            all_goals exact ⟨⟨i+1,hlt⟩,⟨by simp [hnx],by simp⟩,by simp [hnx],by simp only; omega⟩
        · rw [decide_eq_false c1,Bool.false_and,if_neg (by decide)] at hnx
          ((refine Ax (And.intro @hr @c1) ?_;repeat' constructor)<;>intros<;>refine hD_ ?_)
          all_goals try (exfalso;omega)
          all_goals exact ⟨⟨i+1,hlt⟩,⟨by simp [hnx],by simp⟩,by simp [hnx],by simp only; omega⟩
      · obtain rfl:i=l.length:=by omega
        rw [List.take_length]
        refine AWPC.freeze1 (f:=1) (t:=11) (o:=⟨68,38,(l.filter q).map Nt.cs,none⟩) rfl rfl (by simp) (show (38:Nat)≠0 by decide) ?_
        refine AWPC.sto (σ':=[some [⟨37,4,[rgZ],none⟩],none]) rfl ?_
        ((refine Ay @h2 ?_;repeat' constructor)<;>intros<;>refine hD_ ?_)
        all_goals try (exfalso;omega)
        exact Frz.tupL ⟨Frz.pure (rgr_pa r),Frz.pure (by simp),trivial⟩
  · have hE:asofE b l day clock=(rgr0,askedE b [l]):=by unfold asofE; rw [if_pos ha]
    rw [hE]
    generalize askedE b [l]=e at h1 ha
    ((refine Ay @h1 ?_;repeat' constructor)<;>intros<;>refine hD_ ?_)
    all_goals try (exfalso;omega)
    exact Frz.tupL ⟨Frz.aggL ⟨Frz.nil0,Frz.nil0,Frz.nil0,Frz.nil0,trivial⟩,Frz.pure (by simp),trivial⟩
theorem rChain_spec (b:Bse) (hb:bseSz b) (l:List Nt) (hl:setSz l) (m:Nm):Pure Tryz.prog 26 [.agg b.cs,ntS l,.agg m.cs] (.tup [nmS (chainE b l m).1,n (chainE b l m).2]):=by
  refine pB_ Tryz.call26 Tryz.func26 k26 ?_
  unfold c26
  have h1:=rSet_spec b hb l hl
  by_cases ha:askedE b [l]=0
  · rw [ha] at h1
    have hok:=(askedE_ok ha).2 l (by simp)
    have h400:=(setE_ok hok).2.1
    have hn:=setE_nodup hok
    have hf:=rfind_spec l (by omega) m
    have hget:kget (byName l) m=(findR l m).map fun i=>l.getD i nt0:=by rw [byName_get hn,find_fq hn]
    cases hz:findR l m with
    | none =>
      rw [hz] at hf hget
      have hE:chainE b l m=([],3):=by unfold chainE; rw [if_neg (by omega),hget]; rfl
      rw [hE]
      obtain ⟨w,hw⟩:∃ w:Int,w=plc none:=⟨_,rfl⟩
      rw [← hw] at hf
      have hw:w=-1:=hw
      have hw0:decide (w < 0)=true:=by rw [hw]; rfl
      have hrw:((l.map Nt.cs).getD w.toNat []=[])∨∃ y:Nt,(l.map Nt.cs).getD w.toNat []=y.cs:=by
        rw [hw]
        cases l with
        | nil=>exact .inl rfl
        | cons y r=>exact .inr ⟨y,rfl⟩
      rcases hrw with hry | ⟨y,hry⟩
      all_goals
        (repeat' ((first
 | refine vn rfl ?_
 | simp (disch:=omega) only [wr64,Int.zero_sub]
 | refine bo (fun _=>?_) fun _=>?_
 | refine im fun _=>?_
 | ((repeat refine si ?_); (first | ((first | refine .inl ⟨_,_,_,_,rfl,fun _=>pu (by first | exact h1 | exact hf),?_⟩ | refine ⟨_,_,_,_,rfl,fun _=>pu (by first | exact h1 | exact hf),?_⟩); (first | refine o1 ?_ | refine o2 ?_ | refine o3 ?_ | refine o4 ?_)) | refine .inl ⟨_,_,_,_,rfl,pu (by first | exact h1 | exact hf),?_⟩))
 | refine cF ?_
 | refine om ?_
 | refine an ?_
 | fail) <;> try simp only [zN, zT, zV, zS, zU, vcC, lateX, ex, strp, binA, elems, cells, scalar, eqC, keyA, intsA, lookA, ofVs, mpOf, Nat.reduceBEq, reduceAdd, reduceSub, reduceLT, reduceLeDiff, reduceMul, reduceEqDiff, reduceIte, hry, hw0, Bool.true_or, List.getElem?_nil]))
        all_goals try (exfalso;omega)
        all_goals exact Frz.tupL ⟨Frz.nil0,Frz.pure (by simp),trivial⟩
    | some i =>
      rw [hz] at hf hget
      simp only [plc] at hf
      have hil:=(findR_some hz).1
      have hry:(l.map Nt.cs).getD i []=Nt.cs (l.getD i nt0):=row nt0 hil
      rw [Option.map_some] at hget
      generalize l.getD i nt0=a at hry hget
      by_cases hk:a.kind=1∨a.kind=2∨a.kind=3
      · obtain ⟨k,hkk⟩:∃ k:Int,k=if a.kind=1 then 5 else 6:=⟨_,rfl⟩
        obtain ⟨q,hq⟩:∃ q:Nt→Bool,q=fun a=>(a.ref == m) && kd k a:=⟨_,rfl⟩
        have hE:chainE b l m=(((Zf l).filter q).map Nt.nm,0):=by
          unfold chainE
          simp only [hget,Option.getD_some]
          rw [if_neg (by omega),if_pos hk,← hkk,standK_one,List.filter_filter,hq]
        rw [hE]
        have hst:=rStanding_spec l (by omega) hn
        have hSl:=standT_len l
        generalize Zf l=S at hst hSl
        have hsl:∀ j,((S.take j).filter q).length≤S.length:=fun j=>Nat.le_trans (List.length_filter_le _ _) (by rw [List.length_take]; omega)
        have hsw:(a.kind=1∧k=5)∨(a.kind=2∧k=6)∨(a.kind=3∧k=6):=by
          rcases hk with h | h | h
          · rw [if_pos h] at hkk; exact .inl ⟨h,hkk⟩
          · rw [if_neg (by omega)] at hkk; exact .inr (.inl ⟨h,hkk⟩)
          · rw [if_neg (by omega)] at hkk; exact .inr (.inr ⟨h,hkk⟩)
        clear hkk hk hget hz
        have hqk:∀ x:Nt,q x=(decide (x.ref.clerk=m.clerk∧x.ref.num=m.num) && decide (x.kind=k)):=fun x=>by rw [hq]; simp only [ref_iff]; rfl
        clear hq hE
        obtain ⟨kk,hkk⟩:∃ kk:Int,kk=k:=⟨_,rfl⟩
        rw [← hkk] at hqk
        rcases hsw with ⟨hk,rfl⟩ | ⟨hk,rfl⟩ | ⟨hk,rfl⟩
        all_goals (
          ((refine Az (And.intro @hry @hk) (And.intro @h1 (And.intro @hf @hst)) ?_;repeat' constructor)<;>intros<;>refine hD_ ?_)
          all_goals try (exfalso;omega)
          clear h1 hf hst hry
          refine AWPC.own0 29 2 12 rfl ?_
          refine AWPC.loopE (α:={ j:Nat // j≤S.length }) [12,13] (fun j=>[(12,.own 0 0 ((S.take j.1).filter q).length),(13,n j.1)]) (fun j=>[some [⟨29,2,((S.take j.1).filter q).map (fun a=>Nm.cs a.nm),none⟩]]) (fun j=>S.length - j.1) ⟨0,Nat.zero_le _⟩ ?_ rfl ?_
          · (simp only [zN,zT,zV,zS,zU,Q0,Q1,ex,Q2,Q3,Q4,Q5,Q6,Q7,Q8,Q9,QA,QB,QC,Nat.reduceBEq,reduceAdd,reduceSub,reduceLT,reduceLeDiff,reduceMul,reduceEqDiff,reduceIte]; try simp)
          · rintro ⟨j,hj⟩
            simp only at hj ⊢
            by_cases hlt:j < S.length
            · have hr:(S.map Nt.cs).getD j []=Nt.cs (S.getD j nt0):=row nt0 hlt
              have hnx:=filter_next (q:=q) (getD_lt nt0 hlt)
              have hk:=hsl j
              have hc:=rName_spec (S.getD j nt0)
              generalize hM:((S.take j).filter q)=W at hnx hk
              generalize S.getD j nt0=x at hr hnx hc
              rw [hqk] at hnx
              clear hqk hM
              rw [Bool.and_comm] at hnx
              by_cases c1:x.kind=kk
              · rw [decide_eq_true c1,Bool.true_and] at hnx
                rw [hkk] at c1
                by_cases c2:x.ref.clerk=m.clerk∧x.ref.num=m.num
                · rw [decide_eq_true c2,if_pos rfl] at hnx
                  ((refine Az (And.intro @hr (And.intro @c1 @c2)) @hc ?_;repeat' constructor)<;>intros<;>refine hD_ ?_)
                  all_goals try (exfalso;omega)
                  all_goals exact ⟨⟨j+1,hlt⟩,⟨by simp [hnx],by simp⟩,by simp [hnx],by simp only; omega⟩
                · rw [decide_eq_false c2,if_neg (by decide)] at hnx
                  ((refine Az (And.intro @hr (And.intro @c1 @c2)) @hc ?_;repeat' constructor)<;>intros<;>refine hD_ ?_)
                  all_goals try (exfalso;omega)
                  all_goals exact ⟨⟨j+1,hlt⟩,⟨by simp [hnx],by simp⟩,by simp [hnx],by simp only; omega⟩
              · rw [decide_eq_false c1,Bool.false_and,if_neg (by decide)] at hnx
                rw [hkk] at c1
                ((refine Az (And.intro @hr @c1) @hc ?_;repeat' constructor)<;>intros<;>refine hD_ ?_)
                all_goals try (exfalso;omega)
                all_goals exact ⟨⟨j+1,hlt⟩,⟨by simp [hnx],by simp⟩,by simp [hnx],by simp only; omega⟩
            · obtain rfl:j=S.length:=by omega
              rw [List.take_length]
              ((refine Au ?_;repeat' constructor)<;>intros<;>refine hD_ ?_)
              all_goals try (exfalso;omega)
              all_goals exact Frz.tupL ⟨by rw [nmS,List.map_map]; exact Frz.ownL (T:=29) (cs:=fun a:Nt=>Nm.cs a.nm) rfl rfl (by decide) (fun a c hc=>by simp at hc; rcases hc with rfl | rfl <;> simp) (fun a=>rfl),Frz.pure (by simp),trivial⟩)
      · have hE:chainE b l m=([],3):=by unfold chainE; simp only [hget,Option.getD_some]; rw [if_neg (by omega),if_neg hk]
        rw [hE]
        have hk1:¬ a.kind=1:=fun h=>hk (.inl h)
        have hk2:¬ a.kind=2:=fun h=>hk (.inr (.inl h))
        have hk3:¬ a.kind=3:=fun h=>hk (.inr (.inr h))
        ((refine Az (And.intro @hry (And.intro @hk1 (And.intro @hk2 @hk3))) (And.intro @h1 @hf) ?_;repeat' constructor)<;>intros<;>refine hD_ ?_)
        all_goals try (exfalso;omega)
        all_goals exact Frz.tupL ⟨Frz.nil0,Frz.pure (by simp),trivial⟩
  · have hE:chainE b l m=([],askedE b [l]):=by unfold chainE; rw [if_pos ha]
    rw [hE]
    generalize askedE b [l]=e at h1 ha
    ((refine Ay @h1 ?_;repeat' constructor)<;>intros<;>refine hD_ ?_)
    all_goals try (exfalso;omega)
    all_goals exact Frz.tupL ⟨Frz.nil0,Frz.pure (by simp),trivial⟩
end Go.Proofs.YtolgelipcgcbhaaGreat
namespace Go.Proofs.YtolgelipcgcbhaaGreat
open Go.Abs
open Nat (reduceAdd reduceSub reduceLT reduceLeDiff reduceMul reduceEqDiff)
set_option linter.unusedVariables false
set_option linter.unusedSimpArgs false
set_option maxHeartbeats 4000000
set_option maxRecDepth 100000
theorem foldSz {b:Bse} {l:List Nt} (hl:setSz l) (ok:(setE b l).1=0):rgrSz (foldT b l):=by
  have hn:=setE_nodup ok
  have hl4:=setE_len ok
  have hS:=standT_len l
  have hSm:∀ a∈Zf l,a∈l:=fun a ha=>(mem_standT.1 ha).1
  rw [foldT_ref b hn]
  refine ⟨⟨?_,fun f hf=>?_⟩,?_,?_,?_⟩
  · show (shsR (Zf l) (Zf l)).length < _
    rw [shsR_ent,List.length_map]
    have h1:=(entN_sub (Zf l) (Zf l)).length_le
    have h2:=List.length_filter_le (kd 1) (Zf l)
    omega
  · have hf':f∈(entN (Zf l) (Zf l)).map (fld (Zf l)):=by rw [← shsR_ent]; exact hf
    obtain ⟨a,ha,rfl⟩:=List.mem_map.1 hf'
    have h1:=mks_len (standT_nodup hn) a.nm
    refine ⟨hl.2 a (hSm a (entN_mem ha).1),?_,?_⟩
    · show (List.map _ _).length < _
      rw [List.length_map]; omega
    · show (List.map _ _).length < _
      rw [List.length_map]; omega
  · show (List.map _ _).length < _
    rw [List.length_map]
    have h2:=List.length_filter_le (kd 3) (Zf l)
    omega
  · have h1:=(SameS.stsR (setE_ok ok).1.1 (Zf l)).ok
    obtain ⟨g1,g2⟩:=stns_small h1
    exact ⟨by show (stsR b.stns (Zf l)).length < _; omega,fun s hs=>by have:=g2 s hs; omega⟩
  · show (List.map _ _).length < _
    rw [List.length_map]
    have h2:=List.length_filter_le (badR b l) l
    omega
theorem rgr0Sz:rgrSz rgr0:=⟨⟨by decide,fun f h=>by cases h⟩,by decide,⟨by decide,fun f h=>by cases h⟩,by decide⟩
theorem foldESz {b:Bse} {l:List Nt} (hl:setSz l):rgrSz (foldE b l).1:=by
  unfold foldE
  by_cases h:askedE b [l]≠0
  · rw [if_pos h]; exact rgr0Sz
  · rw [if_neg h]; exact foldSz hl (askedE_one.1 (by omega))
theorem setSz.sub {l m:List Nt} (hl:setSz l) (hm:m.Sublist l):setSz m:=⟨Nat.lt_of_le_of_lt hm.length_le hl.1,fun a ha=>hl.2 a (hm.subset ha)⟩
def c3:CF:=⟨107,(jo [jx 5 26 6 0,jx 9 29 2 4,jb 10 false] [1,2,3,5,9]
 (jo [jy 24 18 [],jm 11 24] [1,2,3,5,9,11]
 (.seq (jo [jk 25 6 5,jy 26 19 [25],jv 27 26,jm 28 27,jd 28 (jm 29 1),jd 28 (jy 30 20 [29]),jd 28 (jv 31 30),jq 32 28 31] [1,2,3,5,9,11,32]
 (.cond (.t 32) (jo [jm 33 11,jm 10 33] [10]
 .ret)
 .skip))
 (jo [jk 35 6 5,jm 36 1,jy 37 21 [35,36],jm 34 37,jz 38 0 34,jz 39 1 34,jw 12 (.alloc 37 4 [.slice none 0 0,.slice none 0 0,.slice none 0 0,.slice none 0 0]),js 4 12 38,jm 13 39] [1,2,3,5,9,11,12,13]
 (jo [jk 41 6 5,jm 42 1,jy 43 22 [41,42],jm 40 43,jz 44 0 40,jz 45 1 40,jw 14 (.alloc 37 4 [.slice none 0 0,.slice none 0 0,.slice none 0 0,.slice none 0 0]),js 4 14 44,jm 15 45] [1,2,3,5,9,11,12,13,14,15]
 (jo [jk 47 6 5,jm 48 1,jm 49 2,jm 50 3,jy 51 23 [47,48,49,50],jm 46 51,jz 52 0 46,jz 53 1 46,jw 16 (.alloc 37 4 [.slice none 0 0,.slice none 0 0,.slice none 0 0,.slice none 0 0]),js 4 16 52,jm 17 53] [1,2,3,5,9,11,12,13,14,15,16,17]
 (jo [jk 55 6 5,jm 56 1,jm 57 2,jm 58 3,jy 59 24 [55,56,57,58],jm 54 59,jz 60 0 54,jz 61 1 54,jw 18 (.alloc 37 4 [.slice none 0 0,.slice none 0 0,.slice none 0 0,.slice none 0 0]),js 4 18 60,jm 19 61] [1,5,9,11,12,13,14,15,16,17,18,19]
 (jo [jk 63 6 5,jm 64 1,jk 65 2 9,jy 66 25 [63,64,65],jm 62 66,jz 67 0 62,jz 68 1 62,jm 20 67,jm 21 68] [1,5,9,11,12,13,14,15,16,17,18,19,20,21]
 (jo [jk 70 6 5,jm 71 1,jk 72 2 9,jy 73 26 [70,71,72],jm 69 73,jz 74 0 69,jz 75 1 69,jm 22 74,jm 23 75] [11,12,13,14,15,16,17,18,19,20,21,22,23]
 (jo [jm 76 11,jm 77 76,ja 77 (jk 78 4 12),ja 77 (jk 79 4 14),ja 77 (jy 80 27 [78,79]),jp 81 77 80,jm 82 81,ja 82 (jm 83 13),ja 82 (jm 84 15),ja 82 (jt .eql 85 83 84),jp 86 82 85,jm 87 86,ja 87 (jk 88 4 16),ja 87 (jk 89 4 18),ja 87 (jy 90 27 [88,89]),jp 91 87 90,jm 92 91,ja 92 (jm 93 17),ja 92 (jm 94 19),ja 92 (jt .eql 95 93 94),jp 96 92 95,jm 97 96,ja 97 (jm 98 20),ja 97 (jm 99 22),ja 97 (jy 100 28 [98,99]),jp 101 97 100,jm 102 101,ja 102 (jm 103 21),ja 102 (jm 104 23),ja 102 (jt .eql 105 103 104),jp 106 102 105,jm 10 106] [10]
 .ret)))))))))),[.t 10]⟩
theorem k3:chkF Tryz.prog Tryz.f3 c3=true:=by kernel_rfl
theorem asofESz {b:Bse} {l:List Nt} (hl:setSz l) (day clock:Int):rgrSz (asofE b l day clock).1:=by
  unfold asofE
  by_cases h:askedE b [l]≠0
  · rw [if_pos h]; exact rgr0Sz
  · rw [if_neg h]; exact foldSz (hl.sub List.filter_sublist) (setE_sub (askedE_one.1 (by omega)) List.filter_sublist)
theorem chain_len (b:Bse) {l:List Nt} (hl:l.length < 9223372036854775808) (m:Nm):(chainE b l m).1.length < 9223372036854775808:=by
  unfold chainE
  split
  · show (0:Nat) < 9223372036854775808; decide
  · dsimp only
    split
    · rw [List.length_map]; exact Nat.lt_of_le_of_lt (Nat.le_trans (List.length_filter_le _ _) (standK_len l _)) hl
    · show (0:Nat) < 9223372036854775808; decide
theorem Folds_law (b:Bse) (l:List Nt) (day clock:Int) (m:Nm) (hb:bseSz b) (hl:setSz l):Pure Tryz.prog 3 [.agg b.cs,ntS l,n day,n clock,.agg m.cs] (bl true):=by
  refine pB_ Tryz.call3 Tryz.func3 k3 ?_
  unfold c3
  have s1:=small_spec b hb
  have s2:=few_spec l hl.1
  have a1:=Fold_spec b hb l hl
  have a2:=rFold_spec b hb l hl
  have a3:=AsOf_spec b hb l hl day clock
  have a4:=rAsOf_spec b hb l hl day clock
  have a5:=Chain_spec b hb l hl m
  have a6:=rChain_spec b hb l hl m
  have e1:=sameRgr (foldE b l).1 (foldE b l).1 (foldESz hl) (foldESz hl)
  have e2:=sameRgr (asofE b l day clock).1 (asofE b l day clock).1 (asofESz hl day clock) (asofESz hl day clock)
  have e3:=sameNm (chainE b l m).1 (chainE b l m).1 (chain_len b hl.1 m) (chain_len b hl.1 m)
  rw [decide_eq_true rfl] at e1 e2 e3
  generalize smallB b=c1 at s1
  generalize fewB l=c2 at s2
  generalize (foldE b l).1=t1 at a1 a2 e1
  generalize (foldE b l).2=t2 at a1 a2
  generalize (asofE b l day clock).1=t3 at a3 a4 e2
  generalize (asofE b l day clock).2=t4 at a3 a4
  generalize (chainE b l m).1=t5 at a5 a6 e3
  generalize (chainE b l m).2=t6 at a5 a6
  clear hb hl
  cases c1
  · ((refine Ay (And.intro @awake_spec (And.intro @s1 @s2)) ?_;repeat' constructor)<;>intros<;>refine hD_ ?_)
    all_goals first | (exfalso; omega) | exact Frz.eq rfl (by simp)
  cases c2
  · ((refine Ay (And.intro @awake_spec (And.intro @s1 @s2)) ?_;repeat' constructor)<;>intros<;>refine hD_ ?_)
    all_goals first | (exfalso; omega) | exact Frz.eq rfl (by simp)
  ((refine Ay (And.intro @awake_spec (And.intro @s1 (And.intro @s2 (And.intro @a1 (And.intro @a2 (And.intro @a3 (And.intro @a4 (And.intro @a5 (And.intro @a6 (And.intro @e1 (And.intro @e2 @e3))))))))))) ?_;repeat' constructor)<;>intros<;>refine hD_ ?_)
  all_goals try (exfalso;omega)
  all_goals exact Frz.eq rfl (by simp)
end Go.Proofs.YtolgelipcgcbhaaGreat
namespace Go.Abs
open Go
set_option linter.unusedVariables false
set_option linter.unusedSimpArgs false
structure Opens (P:Program) (t:TypeId) (α:Type) (row:α→List AV) (Pr:α→Prop):Prop where
  go:∀ {H:Type} (enc:TypeId × Value→H) (w:World) (base:Nat) (sp:Nat→Bool) (held:Bool) (fuel:Nat) (cs:List Value) (x:DataW H × List MemPlace),
    DataW.trod enc P w base sp held fuel t cs=some x →
    ∃ a:α,Pr a∧cs.length=(row a).length∧∀ i,i < cs.length→(cs.getD i undef).oneCell'=true∧RV w (fun _=>False) nob [] ((row a).getD i .any) (cs.getD i undef)
variable {P:Program}
theorem Opens.to {t:TypeId} {α β:Type} {row:α→List AV} {row':β→List AV} {Pr:α→Prop} {Pr':β→Prop} (h:Opens P t α row Pr) (f:α→β) (hr:∀ a,row' (f a)=row a) (hp:∀ a,Pr a→Pr' (f a)):Opens P t β row' Pr' :=
  ⟨fun enc w base sp held fuel cs x hx =>
    let ⟨a,h1,h2,h3⟩:=h.go enc w base sp held fuel cs x hx
    ⟨f a,hp a h1,by rw [hr]; exact h2,fun i hi=>by rw [hr]; exact h3 i hi⟩⟩
theorem opens_int {t:TypeId} {k:IntKind} (ht:P.underlying t=some (.int k)):Opens P t Int (fun z=>[.v (.int k z)]) (fun z=>(Lit.int k z).wf=true):=by
  constructor
  intro H enc w base sp held fuel cs x hx
  cases fuel with
  | zero=>simp [DataW.trod] at hx
  | succ m =>
    unfold DataW.trod at hx
    rw [ht] at hx
    split at hx <;> try (simp_all; done)
    rename_i k0 k' z heq
    simp only [Option.some.injEq,TypeDesc.int.injEq] at heq
    split at hx
    · rename_i hk
      obtain ⟨rfl,hw⟩:=hk
      subst heq
      refine ⟨z,hw,rfl,fun i hi=>?_⟩
      obtain rfl:i=0:=by simpa using hi
      exact ⟨rfl,.v _⟩
    · cases hx
theorem opens_slice {t e:TypeId} {k:Nat} {α:Type} {row:α→List AV} {Pr:α→Prop} (ht:P.underlying t=some (.slice e)) (hk:P.cellsOf e=k) (hk0:k≠0) (h:Opens P e α row Pr) (hl:∀ a,(row a).length=k) :
    Opens P t (List α) (fun l=>[.sl k (l.map row)]) (fun l=>l.length < 9223372036854775808∧∀ a∈l,Pr a):=by
  constructor
  intro H enc w base sp held fuel cs x hx
  rcases DataW.trod_slice ht hx with ⟨rfl,_⟩ | ⟨a,len,cap,elems,rest,m,rfl,rfl,rfl,hb,hlc,hcap,hlen,hel,hsp,hns⟩
  · refine ⟨[],⟨by simp,fun a ha=>absurd ha (List.not_mem_nil)⟩,rfl,fun i hi=>?_⟩
    obtain rfl:i=0:=by simpa using hi
    exact ⟨rfl,.slnil k⟩
  · have hlen2:len < 9223372036854775808:=by unfold maxLen at hcap; omega
    have each:∀ i,i < len→∃ (b:α) (c1:List Value),Pr b∧c1.length=k∧w.cells? base (a.add (i * k)) k=some c1∧∀ j,j < k→(c1.getD j undef).oneCell'=true∧RV w (fun _=>False) nob [] ((row b).getD j .any) (c1.getD j undef):=by
      intro i hi
      have h1:=hel i hi
      rw [hk,List.getElem?_eq_getElem (by omega)] at h1
      simp only [Option.bind_eq_some_iff] at h1
      obtain ⟨c1,hc1,hy⟩:=h1
      obtain ⟨b,hp,hlb,hr⟩:=h.go enc w base sp held m c1 _ hy
      have hl1:=(World.cells?_some hc1).2.1
      exact ⟨b,c1,hp,hl1,hc1,fun j hj=>hr j (by omega)⟩
    by_cases h0:len=0
    · subst h0
      refine ⟨[],⟨by simp,fun a ha=>absurd ha (List.not_mem_nil)⟩,rfl,fun i hi=>?_⟩
      obtain rfl:i=0:=by simpa using hi
      exact ⟨rfl,.slemp k a cap⟩
    ·
      have hspot:a.spot=none:=by
        obtain ⟨b,c1,_,hl1,hc1,_⟩:=each 0 (by omega)
        have h2:=(World.cells?_some hc1).2.2 0 (by omega)
        rw [List.getElem?_eq_getElem (by omega)] at h2
        have e:(a.add (0 * k)).add 0=a:=by simp [Addr.add]
        rw [e] at h2
        unfold World.cell? at h2
        split at h2
        · split at h2
          · cases h2
          · rename_i hs; simpa using hs
        · cases h2
      obtain ⟨bl,off,spot⟩:=a
      simp only at hspot
      subst hspot
      have hadd:∀ i j,((⟨bl,off,none⟩:Addr).add (i * k)).add j=⟨bl,off+i * k+j,none⟩:=by
        intro i j
        simp only [Addr.add]
        split <;> split <;> simp_all <;> omega
      let B:Nat→α:=fun i=>if hi:i < len then Classical.choose (each i hi) else Classical.choose (each 0 (by omega))
      have hB:∀ i,i < len→∃ c1:List Value,Pr (B i)∧c1.length=k∧w.cells? base ((⟨bl,off,none⟩:Addr).add (i * k)) k=some c1∧∀ j,j < k→(c1.getD j undef).oneCell'=true∧RV w (fun _=>False) nob [] ((row (B i)).getD j .any) (c1.getD j undef):=by
        intro i hi
        have:=Classical.choose_spec (each i hi)
        simp only [B,hi,dif_pos]
        exact this
      have hcell:∀ i j,i < len→j < k→w.cell? ⟨bl,off+i * k+j,none⟩=some ((w.cell? ⟨bl,off+i * k+j,none⟩).getD undef)∧((w.cell? ⟨bl,off+i * k+j,none⟩).getD undef).oneCell'=true ∧
          RV w (fun _=>False) nob [] ((row (B i)).getD j .any) ((w.cell? ⟨bl,off+i * k+j,none⟩).getD undef):=by
        intro i j hi hj
        obtain ⟨c1,_,hl1,hc1,hr⟩:=hB i hi
        have h2:=(World.cells?_some hc1).2.2 j hj
        rw [hadd,List.getElem?_eq_getElem (by omega)] at h2
        rw [h2]
        have h3:=hr j hj
        rw [List.getD_eq_getElem?_getD,List.getElem?_eq_getElem (show j < c1.length by omega)] at h3
        exact ⟨rfl,h3⟩
      refine ⟨(List.range len).map B,⟨by simpa using hlen2,fun b hb=>?_⟩,rfl,fun i hi=>?_⟩
      · obtain ⟨i,hi,rfl⟩:=List.mem_map.1 hb
        obtain ⟨c1,hp,_⟩:=hB i (List.mem_range.1 hi)
        exact hp
      · obtain rfl:i=0:=by simpa using hi
        refine ⟨rfl,?_⟩
        have hget:∀ e,e < len→(((List.range len).map B).map row).getD e []=row (B e):=fun e he=>by simp [List.getD_eq_getElem?_getD,he]
        have hlm:(((List.range len).map B).map row).length=len:=by simp
        have:=RV.sl (w:=w) (X:=fun _=>False) (β:=nob) (σ:=[]) k (((List.range len).map B).map row) bl off cap (fun i j=>(w.cell? ⟨bl,off+i * k+j,none⟩).getD undef) (by rw [hlm]; exact hlc)
          (fun e he=>by rw [hlm] at he; rw [hget e he]; exact hl _) (fun e he j hj=>by rw [hlm] at he; exact (hcell e j he hj).1) (fun e j he hj hx=>hx)
          (fun e j he hj=>by rw [hlm] at he; exact (hcell e j he hj).2.1) (fun e j he hj=>by rw [hlm] at he; rw [hget e he]; exact (hcell e j he hj).2.2)
        rw [hlm] at this
        exact this
structure OpensF (P:Program) (fs:List Field) (off:Nat) (α:Type) (row:α→List AV) (Pr:α→Prop):Prop where
  go:∀ {H:Type} (enc:TypeId × Value→H) (w:World) (base:Nat) (sp:Nat→Bool) (held:Bool) (fuel:Nat) (cs:List Value) (xs:List (DataW H × List MemPlace)),
    (fs.mapM fun f=>DataW.trod enc P w base sp held fuel f.type ((cs.drop f.offset).take (P.cellsOf f.type)))=some xs →
    ∃ a:α,Pr a∧∀ i,i < (row a).length→off+i < cs.length∧(cs.getD (off+i) undef).oneCell'=true∧RV w (fun _=>False) nob [] ((row a).getD i .any) (cs.getD (off+i) undef)
theorem opensF_nil (off:Nat):OpensF P [] off Unit (fun _=>[]) (fun _=>True) :=
  ⟨fun enc w base sp held fuel cs xs _=>⟨(),trivial,fun i hi=>absurd hi (Nat.not_lt_zero _)⟩⟩
theorem Zz {f:Field} {fs:List Field} {off k:Nat} {α β:Type} {row:α→List AV} {rows:β→List AV} {Pr:α→Prop} {Prs:β→Prop} (ho:f.offset=off) (hk:P.cellsOf f.type=k) (h:Opens P f.type α row Pr)
    (hl:∀ a,(row a).length=k) (hs:OpensF P fs (off+k) β rows Prs):OpensF P (f::fs) off (α × β) (fun p=>row p.1++rows p.2) (fun p=>Pr p.1∧Prs p.2):=by
  constructor
  intro H enc w base sp held fuel cs xs hx
  rw [List.mapM_cons] at hx
  simp only [Option.bind_eq_bind,Option.bind_eq_some_iff] at hx
  obtain ⟨y,hy,ys,hys,_⟩:=hx
  rw [ho,hk] at hy
  obtain ⟨a,hp,hla,hr⟩:=h.go enc w base sp held fuel _ _ hy
  obtain ⟨b,hq,hr'⟩:=hs.go enc w base sp held fuel cs ys hys
  rw [hl] at hla
  have hlen:off+k≤cs.length∨k=0:=by simp at hla; omega
  refine ⟨(a,b),⟨hp,hq⟩,fun i hi=>?_⟩
  by_cases h1:i < k
  · have hi':i < ((cs.drop off).take k).length:=by omega
    obtain ⟨g1,g2⟩:=hr i hi'
    have e:((cs.drop off).take k).getD i undef=cs.getD (off+i) undef:=by
      simp only [List.getD_eq_getElem?_getD,List.getElem?_take,h1,if_true,List.getElem?_drop]
    rw [e] at g1 g2
    refine ⟨by omega,g1,?_⟩
    rw [getD_append,if_pos (by rw [hl]; exact h1)]
    exact g2
  · have:=hr' (i - k) (by simp [hl] at hi; omega)
    rw [show off+k+(i - k)=off+i by omega] at this
    refine ⟨this.1,this.2.1,?_⟩
    rw [getD_append,if_neg (by rw [hl]; omega),hl]
    exact this.2.2
theorem opens_struct {t:TypeId} {fs:Array Field} {k:Nat} {α:Type} {row:α→List AV} {Pr:α→Prop} (ht:P.underlying t=some (.struct fs)) (hk:P.cellsOf t=k) (hl:∀ a,(row a).length=k) (h:OpensF P fs.toList 0 α row Pr) :
    Opens P t α row Pr:=by
  constructor
  intro H enc w base sp held fuel cs x hx
  cases fuel with
  | zero=>simp [DataW.trod] at hx
  | succ m =>
    unfold DataW.trod at hx
    rw [ht] at hx
    have hx':(if cs.length=P.cellsOf t then (fs.toList.mapM fun f=>DataW.trod enc P w base sp held m f.type ((cs.drop f.offset).take (P.cellsOf f.type))).map (fun xs=>((DataW.agg (xs.map (·.1)),xs.flatMap (·.2)):DataW H × List MemPlace)) else none)=some x:=by
      split at hx <;> first | (simp at *; done) | skip
      all_goals (try (rename_i heq; cases heq))
      exact hx
    split at hx'
    case isFalse=>cases hx'
    rename_i hlen
    rw [Option.map_eq_some_iff] at hx'
    obtain ⟨xs,hxs,_⟩:=hx'
    obtain ⟨a,hp,hr⟩:=h.go enc w base sp held m cs xs hxs
    refine ⟨a,hp,by rw [hl,hlen,hk],fun i hi=>?_⟩
    have:=hr i (by rw [hl,← hk,← hlen]; exact hi)
    rw [Nat.zero_add] at this
    exact this.2
theorem Opens.one {t:TypeId} {α:Type} {av:α→AV} {Pr:α→Prop} (h:Opens P t α (fun a=>[av a]) Pr) {H:Type} {enc:TypeId × Value→H} {w:World} {base:Nat} {sp:Nat→Bool} {held:Bool} {v:Value} {d:DataW H} {ps:List MemPlace}
    (hv:v.oneCell'=true) (hx:DataW.Trod enc P w base sp held t v d ps):∃ a,Pr a∧RV w (fun _=>False) nob [] (av a) v:=by
  obtain ⟨fuel,hx⟩:=hx
  obtain ⟨a,hp,hl,hr⟩:=h.go enc w base sp held fuel _ _ hx
  have e:v.cells.toList=[v]:=by cases v <;> first | rfl | simp [Value.oneCell'] at hv
  rw [e] at hr
  exact ⟨a,hp,(hr 0 (by simp)).2⟩
theorem Opens.agg {t:TypeId} {α:Type} {row:α→List AV} {Pr:α→Prop} (h:Opens P t α row Pr) {H:Type} {enc:TypeId × Value→H} {w:World} {base:Nat} {sp:Nat→Bool} {held:Bool} {cs:Array Value} {d:DataW H} {ps:List MemPlace}
    (hx:DataW.Trod enc P w base sp held t (.agg cs) d ps):∃ a,Pr a∧RV w (fun _=>False) nob [] (.agg (row a)) (.agg cs):=by
  obtain ⟨fuel,hx⟩:=hx
  obtain ⟨a,hp,hl,hr⟩:=h.go enc w base sp held fuel _ _ hx
  have e:(Value.agg cs).cells.toList=cs.toList:=rfl
  rw [e] at hl hr
  refine ⟨a,hp,.agg _ _ (by simpa using hl) (fun i hi=>?_) fun i hi=>?_⟩
  · have:=(hr i (by rw [hl]; exact hi)).1
    simpa [List.getD_eq_getElem?_getD,Array.getD_eq_getD_getElem?] using this
  · have:=(hr i (by rw [hl]; exact hi)).2
    simpa [List.getD_eq_getElem?_getD,Array.getD_eq_getD_getElem?] using this
end Go.Abs
namespace Go.Proofs.YtolgelipcgcbhaaGreat
open Go.Abs
open Nat (reduceAdd reduceSub reduceLT reduceLeDiff reduceMul reduceEqDiff)
set_option linter.unusedVariables false
set_option linter.unusedSimpArgs false
set_option maxHeartbeats 4000000
set_option maxRecDepth 100000
open Go.ChangeShapes Go.WideShapes Go.ChangeAt Go.RowKit
theorem own:ownKnob Tryz.prog.godebug=none:=by kernel_rfl
theorem laidOut:laidOutB Tryz.prog=true:=by kernel_rfl
theorem mapsR:mapsRowed Tryz.prog=true:=by kernel_rfl
theorem stopsN:(Tryz.prog.stops == [])=true:=by kernel_rfl
theorem knobsN:(Tryz.prog.stopKnobs == [])=true:=by kernel_rfl
theorem plainK:(Rows.archiveOrderRow.plainKeys == Tryz.prog.plainKeys)=true:=by kernel_rfl
theorem heardS:Tryz.prog.stopsHeard=true:=by kernel_rfl
theorem entersM:Tryz.prog.mayEnter=true:=by kernel_rfl
theorem liftsF:(Rows.archiveOrderRow.lifted == Tryz.prog.liftsFinal)=true:=by kernel_rfl
theorem makeP:(Tryz.prog.make == some Rows.archiveOrderRow.make)=true:=by kernel_rfl
theorem bband {a b:Bool} (h:a=true) (h':b=true):(a && b)=true:=by rw [h,h']; rfl
theorem cells3:Tryz.prog.cellsOf 3=1:=by kernel_rfl
theorem cells48:Tryz.prog.cellsOf 48=2:=by kernel_rfl
theorem cells226:Tryz.prog.cellsOf 226=3:=by kernel_rfl
theorem cells164:Tryz.prog.cellsOf 164=3:=by kernel_rfl
theorem cells50:Tryz.prog.cellsOf 50=10:=by kernel_rfl
theorem cells51:Tryz.prog.cellsOf 51=1:=by kernel_rfl
theorem cells52:Tryz.prog.cellsOf 52=1:=by kernel_rfl
theorem cells53:Tryz.prog.cellsOf 53=1:=by kernel_rfl
theorem cells54:Tryz.prog.cellsOf 54=1:=by kernel_rfl
theorem cells56:Tryz.prog.cellsOf 56=2:=by kernel_rfl
theorem cells58:Tryz.prog.cellsOf 58=4:=by kernel_rfl
theorem cells60:Tryz.prog.cellsOf 60=18:=by kernel_rfl
theorem cells62:Tryz.prog.cellsOf 62=3:=by kernel_rfl
theorem cells64:Tryz.prog.cellsOf 64=5:=by kernel_rfl
theorem cells66:Tryz.prog.cellsOf 66=3:=by kernel_rfl
theorem cells29:Tryz.prog.cellsOf 29=2:=by kernel_rfl
theorem cells68:Tryz.prog.cellsOf 68=38:=by kernel_rfl
theorem cells107:Tryz.prog.cellsOf 107=1:=by kernel_rfl
theorem cells109:Tryz.prog.cellsOf 109=4:=by kernel_rfl
theorem cells22:Tryz.prog.cellsOf 22=1:=by kernel_rfl
theorem cells24:Tryz.prog.cellsOf 24=2:=by kernel_rfl
theorem cells26:Tryz.prog.cellsOf 26=6:=by kernel_rfl
theorem op3:Opens Tryz.prog 3 Int (fun z=>[n z]) (fun _=>True):=(opens_int Tryz.underlying3).to id (fun _=>rfl) (fun _ _=>trivial)
theorem op48:Opens Tryz.prog 48 Sp Sp.cs (fun _=>True) :=
  (opens_struct Tryz.underlying48 cells48 (fun _=>rfl) (Zz rfl cells3 op3 (fun _=>rfl) (Zz rfl cells3 op3 (fun _=>rfl) (opensF_nil _)))).to (fun a=>⟨a.1,a.2.1⟩) (fun _=>rfl) (fun _ _=>trivial)
theorem op226:Opens Tryz.prog 226 Mk Mk.cs (fun _=>True) :=
  (opens_struct Tryz.underlying226 cells226 (fun _=>rfl) (Zz rfl cells3 op3 (fun _=>rfl) (Zz rfl cells48 op48 (fun _=>rfl) (opensF_nil _)))).to (fun a=>⟨a.1,a.2.1⟩) (fun _=>rfl) (fun _ _=>trivial)
theorem op62:Opens Tryz.prog 62 Mk Mk.cs (fun _=>True) :=
  (opens_struct Tryz.underlying62 cells62 (fun _=>rfl) (Zz rfl cells3 op3 (fun _=>rfl) (Zz rfl cells48 op48 (fun _=>rfl) (opensF_nil _)))).to (fun a=>⟨a.1,a.2.1⟩) (fun _=>rfl) (fun _ _=>trivial)
theorem op164:Opens Tryz.prog 164 Pt Pt.cs (fun _=>True) :=
  (opens_struct Tryz.underlying164 cells164 (fun _=>rfl) (Zz rfl cells3 op3 (fun _=>rfl) (Zz rfl cells3 op3 (fun _=>rfl) (Zz rfl cells3 op3 (fun _=>rfl) (opensF_nil _))))).to (fun a=>⟨a.1,a.2.1,a.2.2.1⟩) (fun _=>rfl) (fun _ _=>trivial)
theorem op50:Opens Tryz.prog 50 Ppr Ppr.cs (fun _=>True) :=
  (opens_struct Tryz.underlying50 cells50 (fun _=>rfl) (Zz rfl cells3 op3 (fun _=>rfl) (Zz rfl cells3 op3 (fun _=>rfl) (Zz rfl cells3 op3 (fun _=>rfl) (Zz rfl cells3 op3 (fun _=>rfl) (Zz rfl cells3 op3 (fun _=>rfl) (Zz rfl cells3 op3 (fun _=>rfl) (Zz rfl cells48 op48 (fun _=>rfl) (Zz rfl cells48 op48 (fun _=>rfl) (opensF_nil _)))))))))).to (fun a=>⟨a.1,a.2.1,a.2.2.1,a.2.2.2.1,a.2.2.2.2.1,a.2.2.2.2.2.1,a.2.2.2.2.2.2.1,a.2.2.2.2.2.2.2.1⟩) (fun _=>rfl) (fun _ _=>trivial)
theorem op51:Opens Tryz.prog 51 (List Pt) (fun l=>[ptS l]) (fun l=>l.length < 9223372036854775808) :=
  (opens_slice Tryz.underlying51 cells164 (by decide) op164 (fun _=>rfl)).to id (fun _=>rfl) (fun _ h=>h.1)
theorem op52:Opens Tryz.prog 52 (List Int) (fun l=>[inS l]) (fun l=>l.length < 9223372036854775808) :=
  (opens_slice Tryz.underlying52 cells3 (by decide) op3 (fun _=>rfl)).to id (fun _=>rfl) (fun _ h=>h.1)
theorem op53:Opens Tryz.prog 53 (List Sp) (fun l=>[spnS l]) (fun l=>l.length < 9223372036854775808) :=
  (opens_slice Tryz.underlying53 cells48 (by decide) op48 (fun _=>rfl)).to id (fun _=>rfl) (fun _ h=>h.1)
theorem op54:Opens Tryz.prog 54 (List Mk) (fun l=>[mkS l]) (fun l=>l.length < 9223372036854775808) :=
  (opens_slice Tryz.underlying54 cells226 (by decide) op226 (fun _=>rfl)).to id (fun _=>rfl) (fun _ h=>h.1)
theorem op56:Opens Tryz.prog 56 (List Sp × List Mk) (fun d=>[spnS d.1,mkS d.2]) (fun d=>d.1.length < 9223372036854775808∧d.2.length < 9223372036854775808) :=
  (opens_struct Tryz.underlying56 cells56 (fun _=>rfl) (Zz rfl cells53 op53 (fun _=>rfl) (Zz rfl cells54 op54 (fun _=>rfl) (opensF_nil _)))).to (fun a=>⟨a.1,a.2.1⟩) (fun _=>rfl) (fun _ h=>⟨h.1,h.2.1⟩)
theorem op58:Opens Tryz.prog 58 Pn Pn.cs (fun _=>True) :=
  (opens_struct Tryz.underlying58 cells58 (fun _=>rfl) (Zz rfl cells3 op3 (fun _=>rfl) (Zz rfl cells48 op48 (fun _=>rfl) (Zz rfl cells3 op3 (fun _=>rfl) (opensF_nil _))))).to (fun a=>⟨a.1,a.2.1,a.2.2.1⟩) (fun _=>rfl) (fun _ _=>trivial)
theorem op60:Opens Tryz.prog 60 Sht Sht.cs shtSz :=
  (opens_struct Tryz.underlying60 cells60 (fun _=>rfl) (Zz rfl cells50 op50 (fun _=>rfl) (Zz rfl cells51 op51 (fun _=>rfl) (Zz rfl cells52 op52 (fun _=>rfl) (Zz rfl cells56 op56 (fun _=>rfl) (Zz rfl cells58 op58 (fun _=>rfl) (opensF_nil _))))))).to (fun a=>⟨a.1,a.2.1,a.2.2.1,a.2.2.2.1.1,a.2.2.2.1.2,a.2.2.2.2.1⟩) (fun _=>rfl) (fun _ h=>⟨h.2.1,h.2.2.1,h.2.2.2.1.1,h.2.2.2.1.2⟩)
theorem op64:Opens Tryz.prog 64 Rd Rd.cs (fun _=>True) :=
  (opens_struct Tryz.underlying64 cells64 (fun _=>rfl) (Zz rfl cells3 op3 (fun _=>rfl) (Zz rfl cells3 op3 (fun _=>rfl) (Zz rfl cells3 op3 (fun _=>rfl) (Zz rfl cells48 op48 (fun _=>rfl) (opensF_nil _)))))).to (fun a=>⟨a.1,a.2.1,a.2.2.1,a.2.2.2.1⟩) (fun _=>rfl) (fun _ _=>trivial)
theorem op66:Opens Tryz.prog 66 Hgt Hgt.cs (fun _=>True) :=
  (opens_struct Tryz.underlying66 cells66 (fun _=>rfl) (Zz rfl cells3 op3 (fun _=>rfl) (Zz rfl cells48 op48 (fun _=>rfl) (opensF_nil _)))).to (fun a=>⟨a.1,a.2.1⟩) (fun _=>rfl) (fun _ _=>trivial)
theorem op29:Opens Tryz.prog 29 Nm Nm.cs (fun _=>True) :=
  (opens_struct Tryz.underlying29 cells29 (fun _=>rfl) (Zz rfl cells3 op3 (fun _=>rfl) (Zz rfl cells3 op3 (fun _=>rfl) (opensF_nil _)))).to (fun a=>⟨a.1,a.2.1⟩) (fun _=>rfl) (fun _ _=>trivial)
theorem op68:Opens Tryz.prog 68 Nt Nt.cs ntSz :=
  (opens_struct Tryz.underlying68 cells68 (fun _=>rfl) (Zz rfl cells3 op3 (fun _=>rfl) (Zz rfl cells3 op3 (fun _=>rfl) (Zz rfl cells3 op3 (fun _=>rfl) (Zz rfl cells3 op3 (fun _=>rfl) (Zz rfl cells3 op3 (fun _=>rfl) (Zz rfl cells3 op3 (fun _=>rfl) (Zz rfl cells3 op3 (fun _=>rfl) (Zz rfl cells60 op60 (fun _=>rfl) (Zz rfl cells62 op62 (fun _=>rfl) (Zz rfl cells64 op64 (fun _=>rfl) (Zz rfl cells66 op66 (fun _=>rfl) (Zz rfl cells29 op29 (fun _=>rfl) (opensF_nil _)))))))))))))).to (fun a=>⟨a.1,a.2.1,a.2.2.1,a.2.2.2.1,a.2.2.2.2.1,a.2.2.2.2.2.1,a.2.2.2.2.2.2.1,a.2.2.2.2.2.2.2.1,a.2.2.2.2.2.2.2.2.1,a.2.2.2.2.2.2.2.2.2.1,a.2.2.2.2.2.2.2.2.2.2.1,a.2.2.2.2.2.2.2.2.2.2.2.1⟩) (fun _=>rfl) (fun _ h=>h.2.2.2.2.2.2.2.1)
theorem op27:Opens Tryz.prog 27 (List Nt) (fun l=>[ntS l]) setSz :=
  (opens_slice Tryz.underlying27 cells68 (by decide) op68 (fun _=>rfl)).to id (fun _=>rfl) (fun _ h=>h)
theorem op107:Opens Tryz.prog 107 (List Hgt) (fun l=>[hgS l]) (fun l=>l.length < 9223372036854775808) :=
  (opens_slice Tryz.underlying107 cells66 (by decide) op66 (fun _=>rfl)).to id (fun _=>rfl) (fun _ h=>h.1)
theorem op109:Opens Tryz.prog 109 Stn Stn.cs (fun s=>s.heights.length < 9223372036854775808) :=
  (opens_struct Tryz.underlying109 cells109 (fun _=>rfl) (Zz rfl cells3 op3 (fun _=>rfl) (Zz rfl cells3 op3 (fun _=>rfl) (Zz rfl cells3 op3 (fun _=>rfl) (Zz rfl cells107 op107 (fun _=>rfl) (opensF_nil _)))))).to (fun a=>⟨a.1,a.2.1,a.2.2.1,a.2.2.2.1⟩) (fun _=>rfl) (fun _ h=>h.2.2.2.1)
theorem op22:Opens Tryz.prog 22 (List Stn) (fun l=>[snS l]) stnSz :=
  (opens_slice Tryz.underlying22 cells109 (by decide) op109 (fun _=>rfl)).to id (fun _=>rfl) (fun _ h=>h)
theorem op24:Opens Tryz.prog 24 (Int × Int) (fun d=>[n d.1,n d.2]) (fun _=>True) :=
  (opens_struct Tryz.underlying24 cells24 (fun _=>rfl) (Zz rfl cells3 op3 (fun _=>rfl) (Zz rfl cells3 op3 (fun _=>rfl) (opensF_nil _)))).to (fun a=>⟨a.1,a.2.1⟩) (fun _=>rfl) (fun _ _=>trivial)
theorem op26:Opens Tryz.prog 26 Bse Bse.cs bseSz :=
  (opens_struct Tryz.underlying26 cells26 (fun _=>rfl) (Zz rfl cells22 op22 (fun _=>rfl) (Zz rfl cells24 op24 (fun _=>rfl) (Zz rfl cells3 op3 (fun _=>rfl) (Zz rfl cells3 op3 (fun _=>rfl) (Zz rfl cells3 op3 (fun _=>rfl) (opensF_nil _))))))).to (fun a=>⟨a.1,a.2.1.1,a.2.1.2,a.2.2.1,a.2.2.2.1,a.2.2.2.2.1⟩) (fun _=>rfl) (fun _ h=>h.1)
section
variable {H:Type} {enc:TypeId × Value→H} {w:World} {r:Reach} {base b0:Nat} {sp:Nat→Bool} {held:Bool} {v:Value} {d:DataW H} {ps:List MemPlace}
theorem open_bse (h:Value.okWide Tryz.prog w r base 26 v) (hx:DataW.Trod enc Tryz.prog w b0 sp held 26 v d ps):∃ x:Bse,bseSz x∧RV w (fun _=>False) nob [] (.agg x.cs) v:=by
  obtain ⟨cs,rfl,_⟩:=okWide_struct Tryz.underlying26 h
  exact op26.agg hx
theorem open_nm (h:Value.okWide Tryz.prog w r base 29 v) (hx:DataW.Trod enc Tryz.prog w b0 sp held 29 v d ps):∃ x:Nm,(fun _=>True) x∧RV w (fun _=>False) nob [] (.agg x.cs) v:=by
  obtain ⟨cs,rfl,_⟩:=okWide_struct Tryz.underlying29 h
  exact op29.agg hx
theorem open_set (h:Value.okWide Tryz.prog w r base 27 v) (hx:DataW.Trod enc Tryz.prog w b0 sp held 27 v d ps):∃ l:List Nt,setSz l∧RV w (fun _=>False) nob [] (ntS l) v:=by
  obtain ⟨a,len,cap,rfl⟩:=okWide_slice Tryz.underlying27 h
  exact op27.one rfl hx
end
end Go.Proofs.YtolgelipcgcbhaaGreat
