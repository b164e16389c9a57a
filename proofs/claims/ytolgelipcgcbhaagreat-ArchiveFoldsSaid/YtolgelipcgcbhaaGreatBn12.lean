/- Part 12: contracts. -/
import Derived.Test.YtolgelipcgcbhaaGreatBn11
namespace Go.Proofs.YtolgelipcgcbhaaGreat
open Go.Abs
open Nat (reduceAdd reduceSub reduceLT reduceLeDiff reduceMul reduceEqDiff)
open Go.Abs renaming vcC→Q0,lateX→Q1,strp→Q2,binA→Q3,elems→Q4,cells→Q5,scalar→Q6,eqC→Q7,keyA→Q8,intsA→Q9,lookA→QA,ofVs→QB,mpOf→QC
set_option linter.unusedVariables false
set_option linter.unusedSimpArgs false
set_option maxHeartbeats 4000000
set_option maxRecDepth 100000
def c155:CF:=⟨58,(jo [jb 4 false] [0,1]
 (jo [jm 6 0,jm 7 0,jm 8 1,ji 9 38 7 8,jf 10 36 9,jk 11 2 10,jy 12 90 [6,11],jm 5 12] [0,1,5]
 (.seq (jo [jm 13 5,ju .lss 14 13 0] [0,1,5,14]
 (.cond (.t 14) (jo [jb 4 false] [4]
 .ret)
 .skip))
 (.seq (jo [jm 15 0,jm 16 1,ji 17 38 15 16,jf 18 28 17,jf 19 0 18,jl 20 19,ju .neq 21 20 0] [0,1,5,21]
 (.cond (.t 21) (jo [jm 22 0,jm 23 5,ji 24 38 22 23,jf 25 4 24,jl 26 25,ju .eql 27 26 3,jm 4 27] [4]
 .ret)
 .skip))
 (.seq (jo [jm 28 0,jm 29 5,ji 30 38 28 29,jf 31 4 30,jl 32 31,ju .neq 33 32 2,jm 34 33,jd 34 (jm 35 0),jd 34 (jm 36 5),jd 34 (jy 37 150 [35,36]),jd 34 (jv 38 37),jq 39 34 38] [0,1,5,39]
 (.cond (.t 39) (jo [jb 4 false] [4]
 .ret)
 .skip))
 (.seq (.draw [jm 40 0,jm 41 0,jm 42 0,jm 43 5,ji 44 38 42 43,jf 45 36 44,jk 46 2 45,jy 47 154 [41,46],ji 48 38 40 47,jf 49 7 48,jk 50 18 49,jm 51 0,jm 52 1,ji 53 38 51 52,jf 54 25 53,jf 55 0 54,jl 56 55,jy 57 194 [50,56],jm 4 57] [] [4])
 .ret)))))),[.t 4]⟩
theorem k155:chkF Tryz.prog Tryz.f155 c155=true:=by kernel_rfl
def c151:CF:=⟨40,(jo [jc 4 0] [0,1]
 (jo [jm 7 1,jm 5 7] [0,1,5]
 (.seq (jo [jc 6 0] [0,1,5,6]
 (.block 0 (.loop (.seq (jo [jm 8 6,jm 9 0,je 10 9,jt .lss 11 8 10] [0,1,5,6,11]
 (.cond (.t 11) .skip
 (.exit 0)))
 (.seq (.block 1 (.seq (.draw [jm 14 0,jm 15 6,ji 16 38 14 15,jf 17 4 16,jl 18 17,ju .eql 19 18 6,jm 20 19,ja 20 (jm 21 0),ja 20 (jm 22 6),ja 20 (ji 23 38 21 22),ja 20 (jf 24 36 23),ja 20 (jk 25 2 24),ja 20 (jm 26 0),ja 20 (jm 27 1),ja 20 (ji 28 38 26 27),ja 20 (jk 29 38 28),ja 20 (jy 30 92 [29]),⟨some 31,.eqs false [some .i64,some .i64] (.t 25) (.t 30),some (20,true)⟩,jp 32 20 31,jm 33 32,ja 33 (jm 34 0),ja 33 (jm 35 6),ja 33 (jy 36 155 [34,35]),jp 37 33 36] [] [0,1,5,6,37])
 (.cond (.t 37) (.ops [jm 38 6,jm 5 38] [0,1,5,6])
 .skip)))
 (.ops [jm 12 6,ju .add 13 12 1,jm 6 13] [0,1,5,6]))))))
 (jo [jm 39 5,jm 4 39] [4]
 .ret)))),[.t 4]⟩
theorem k151:chkF Tryz.prog Tryz.f151 c151=true:=by kernel_rfl
theorem rcorrects_spec (S:List Nt) (hS:S.length < 9223372036854775808) (i:Nat) (hi:i < S.length):Pure Tryz.prog 155 [ntS S,n i] (bl (corR S i)):=by
  refine pB_ Tryz.call155 Tryz.func155 k155 ?_
  unfold c155
  have hr:(S.map Nt.cs).getD i []=Nt.cs (S.getD i nt0):=row nt0 hi
  have hf:=rfind_spec S hS (S.getD i nt0).ref
  unfold corR
  generalize S.getD i nt0=x at hr hf
  cases h:findR S x.ref with
  | none =>
    rw [h] at hf
    simp only [plc] at hf
    ((refine Az @hr @hf ?_;repeat' constructor)<;>intros<;>refine hD_ ?_)
    all_goals try (exfalso;omega)
    all_goals exact Frz.eq rfl (PureV.v _)
  | some k =>
    rw [h] at hf
    simp only [plc] at hf
    dsimp only
    have hk:=(findR_some h).1
    have hrk:(S.map Nt.cs).getD k []=Nt.cs (S.getD k nt0):=row nt0 hk
    have hcn:=rcounts_spec S hS k hk
    have hs:=rsheet_spec S hS (by omega) (S.getD k nt0).ref
    have hcs:cntR S k=true→∃ s,sheetR S (S.getD k nt0).ref=some s:=fun hc=>by
      unfold cntR at hc
      cases hs:sheetR S (S.getD k nt0).ref with
      | none=>rw [hs] at hc; cases hc
      | some s=>exact ⟨s,rfl⟩
    generalize S.getD k nt0=y at hrk hs hcs
    generalize cntR S k=c at hcn hcs
    by_cases h0:x.read.stn=0
    · rw [if_neg (fun h=>h h0)]
      by_cases h2:y.kind=2
      · rw [show kd 2 y=true from decide_eq_true h2,Bool.true_and]
        cases c with
        | false =>
          rw [Bool.false_and]
          ((refine Az (And.intro @hr (And.intro @hrk (And.intro @h0 @h2))) (And.intro @hf @hcn) ?_;repeat' constructor)<;>intros<;>refine hD_ ?_)
          all_goals try (exfalso;omega)
          all_goals exact Frz.eq rfl (PureV.v _)
        | true =>
          obtain ⟨s,hss⟩:=hcs rfl
          rw [hss] at hs ⊢
          simp only [plc] at hs
          rw [Bool.true_and]
          dsimp only
          have hsl:=(findR_some (sheetR_some hss).1).1
          have hrs:(S.map Nt.cs).getD s []=Nt.cs (S.getD s nt0):=row nt0 hsl
          generalize S.getD s nt0=z at hrs
          have hcl:=rcolumn_spec z.sheet x.mark.col
          rw [show decide (0≤x.mark.col∧x.mark.col≤(z.sheet.rates.length:Int))=colR z x.mark.col from rfl] at hcl
          generalize colR z x.mark.col=q at hcl
          ((refine Az (And.intro @hr (And.intro @hrk (And.intro @hrs (And.intro @h0 @h2)))) (And.intro @hf (And.intro @hcn (And.intro @hs @hcl))) ?_;repeat' constructor)<;>intros<;>refine hD_ ?_)
          all_goals try (exfalso;omega)
          all_goals exact Frz.eq rfl (PureV.v _)
      · rw [show kd 2 y=false from decide_eq_false h2,Bool.false_and]
        ((refine Az (And.intro @hr (And.intro @hrk (And.intro @h0 @h2))) (And.intro @hf @hcn) ?_;repeat' constructor)<;>intros<;>refine hD_ ?_)
        all_goals try (exfalso;omega)
        all_goals exact Frz.eq rfl (PureV.v _)
    · rw [if_pos h0]
      by_cases h3:y.kind=3
      · rw [show kd 3 y=true from decide_eq_true h3]
        ((refine Az (And.intro @hr (And.intro @hrk (And.intro @h0 @h3))) @hf ?_;repeat' constructor)<;>intros<;>refine hD_ ?_)
        all_goals try (exfalso;omega)
        all_goals exact Frz.eq rfl (PureV.v _)
      · rw [show kd 3 y=false from decide_eq_false h3]
        ((refine Az (And.intro @hr (And.intro @hrk (And.intro @h0 @h3))) @hf ?_;repeat' constructor)<;>intros<;>refine hD_ ?_)
        all_goals try (exfalso;omega)
        all_goals exact Frz.eq (by simp [h3]) (PureV.v _)
theorem knwR_next (S:List Nt) (i k:Nat):knwR S i (k+1)=if kd 6 (S.getD k nt0) && (onT (S.getD i nt0).nm (S.getD k nt0) && corR S k) then k else knwR S i k:=by
  unfold knwR; rw [List.range_succ,List.foldl_append]; rfl
theorem rknown_spec (S:List Nt) (hS:S.length < 9223372036854775808) (i:Nat) (hi:i < S.length):Pure Tryz.prog 151 [ntS S,n i] (n (knwR S i S.length:Nat)):=by
  refine pB_ Tryz.call151 Tryz.func151 k151 ?_
  unfold c151
  have hr:(S.map Nt.cs).getD i []=Nt.cs (S.getD i nt0):=row nt0 hi
  have hnm:=rName_spec (S.getD i nt0)
  have hnx:=knwR_next S i
  generalize S.getD i nt0=x at hr hnm hnx
  ((refine Au ?_;repeat' constructor)<;>intros<;>refine hD_ ?_)
  all_goals try (exfalso;omega)
  refine AWPC.loopE (α:={ z:Nat × Nat // z.1≤S.length∧knwR S i z.1=z.2 }) [5,6] (fun z=>[(5,n z.1.2),(6,n z.1.1)]) (fun _=>[]) (fun z=>S.length - z.1.1) ⟨(0,i),Nat.zero_le _,rfl⟩ ?_ rfl ?_
  · (simp only [zN,zT,zV,zS,zU,Q0,Q1,ex,Q2,Q3,Q4,Q5,Q6,Q7,Q8,Q9,QA,QB,QC,Nat.reduceBEq,reduceAdd,reduceSub,reduceLT,reduceLeDiff,reduceMul,reduceEqDiff,reduceIte]; try simp)
  · rintro ⟨⟨k,o⟩,hk,ho⟩
    simp only at hk ho ⊢
    by_cases hlt:k < S.length
    · have hrk:(S.map Nt.cs).getD k []=Nt.cs (S.getD k nt0):=row nt0 hlt
      have hN:=hnx k
      rw [ho] at hN
      have hco:=rcorrects_spec S hS k hlt
      generalize S.getD k nt0=y at hrk hN
      generalize corR S k=q at hN hco
      have hon:onT x.nm y=decide (y.ref.clerk=x.clerk∧y.ref.num=x.num):=by
        unfold onT Nt.nm
        rw [decide_eq_decide]
        rcases y.ref with ⟨a1,a2⟩
        simp
      rw [hon] at hN
      clear hon hnx
      by_cases h6:y.kind=6
      · rw [show kd 6 y=true from decide_eq_true h6,Bool.true_and] at hN
        by_cases e1:y.ref.clerk=x.clerk
        · by_cases e2:y.ref.num=x.num
          · rw [decide_eq_true ⟨e1,e2⟩,Bool.true_and] at hN
            cases q
            · rw [if_neg (by decide)] at hN
              ((refine Az (And.intro @hr (And.intro @hrk (And.intro @h6 (And.intro @e1 @e2)))) (And.intro @hnm @hco) ?_;repeat' constructor)<;>intros<;>refine hD_ ?_)
              all_goals try (exfalso;omega)
              all_goals exact ⟨⟨(k+1,o),hlt,hN⟩,⟨by simp,by simp⟩,by show S.length - (k+1) < S.length - k; omega⟩
            · rw [if_pos rfl] at hN
              ((refine Az (And.intro @hr (And.intro @hrk (And.intro @h6 (And.intro @e1 @e2)))) (And.intro @hnm @hco) ?_;repeat' constructor)<;>intros<;>refine hD_ ?_)
              all_goals try (exfalso;omega)
              all_goals exact ⟨⟨(k+1,k),hlt,hN⟩,⟨by simp,by simp⟩,by show S.length - (k+1) < S.length - k; omega⟩
          · rw [decide_eq_false (fun h=>e2 h.2),Bool.false_and,if_neg (by decide)] at hN
            ((refine Az (And.intro @hr (And.intro @hrk (And.intro @h6 (And.intro @e1 @e2)))) (And.intro @hnm @hco) ?_;repeat' constructor)<;>intros<;>refine hD_ ?_)
            all_goals try (exfalso;omega)
            all_goals exact ⟨⟨(k+1,o),hlt,hN⟩,⟨by simp,by simp⟩,by show S.length - (k+1) < S.length - k; omega⟩
        · rw [decide_eq_false (fun h=>e1 h.1),Bool.false_and,if_neg (by decide)] at hN
          ((refine Az (And.intro @hr (And.intro @hrk (And.intro @h6 @e1))) (And.intro @hnm @hco) ?_;repeat' constructor)<;>intros<;>refine hD_ ?_)
          all_goals try (exfalso;omega)
          all_goals exact ⟨⟨(k+1,o),hlt,hN⟩,⟨by simp,by simp⟩,by show S.length - (k+1) < S.length - k; omega⟩
      · rw [show kd 6 y=false from decide_eq_false h6,Bool.false_and,if_neg (by decide)] at hN
        ((refine Az (And.intro @hr (And.intro @hrk @h6)) (And.intro @hnm @hco) ?_;repeat' constructor)<;>intros<;>refine hD_ ?_)
        all_goals try (exfalso;omega)
        all_goals exact ⟨⟨(k+1,o),hlt,hN⟩,⟨by simp,by simp⟩,by show S.length - (k+1) < S.length - k; omega⟩
    · obtain rfl:k=S.length:=by omega
      ((refine Au ?_;repeat' constructor)<;>intros<;>refine hD_ ?_)
      all_goals try (exfalso;omega)
      all_goals (rw [ho]; exact Frz.eq rfl (PureV.v _))
def c149:CF:=⟨97,(jo [jw 4 (.alloc 72 24 z24)] [0,1,4]
 (.seq (.draw [jm 7 0,jm 8 1,ji 9 38 7 8,jk 10 38 9,jy 11 92 [10],jm 12 0,jm 13 1,ji 14 38 12 13,jf 15 5 14,jl 16 15,jm 17 0,jm 18 1,ji 19 38 17 18,jf 20 6 19,jl 21 20,jm 22 0,jm 23 1,ji 24 38 22 23,jf 25 7 24,jk 26 18 25,jw 27 (.build z24 [(0,2,(.t 11)),(2,1,(.t 16)),(3,1,(.t 21)),(4,18,(.t 26))]),jw 5 (.alloc 72 24 z24)] [js 24 5 27] [0,1,4,5])
 (.seq (jo [jc 6 0] [0,1,4,5,6]
 (.block 0 (.loop (.seq (jo [jm 28 6,jm 29 0,je 30 29,jt .lss 31 28 30] [0,1,4,5,6,31]
 (.cond (.t 31) .skip
 (.exit 0)))
 (.seq (.block 1 (.seq (.seq (.draw [jm 34 0,jm 35 6,ji 36 38 34 35,jf 37 36 36,jk 38 2 37,jm 39 0,jm 40 1,ji 41 38 39 40,jk 42 38 41,jy 43 92 [42],jw 44 (.eqs true [some .i64,some .i64] (.t 38) (.t 43))] [] [0,1,4,5,6,44])
 (.cond (.t 44) (.exit 1)
 .skip))
 (.seq (jo [jm 45 0,jm 46 6,ji 47 38 45 46,jf 48 4 47,jl 49 48,ju .eql 50 49 5] [0,1,4,5,6,50]
 (.cond (.t 50) (jo [jm 51 0,jm 52 6,ji 53 38 51 52,jf 54 5 53,jl 55 54,jf 56 2 5,js 1 56 55] [0,1,4,5,6]
 (.ops [jm 57 0,jm 58 6,ji 59 38 57 58,jf 60 6 59,jl 61 60,jf 62 3 5,js 1 62 61] [0,1,4,5,6]))
 .skip))
 (jo [jm 63 0,jm 64 6,ji 65 38 63 64,jf 66 4 65,jl 67 66,ju .eql 68 67 2,jm 69 68,ja 69 (jm 70 0),ja 69 (jm 71 6),ja 69 (jy 72 150 [70,71]),jp 73 69 72] [0,1,4,5,6,73]
 (.cond (.t 73) (.seq (.draw [jf 74 22 5,jl 75 74,jm 76 0,jm 77 0,jm 78 6,jy 79 151 [77,78],ji 80 38 76 79,jf 81 25 80,jk 82 3 81,jw 83 (.bsl false 62 3 1 [.int .i64 0,.int .i64 0,.int .i64 0] [(0,3,(.t 82))])] [jw 84 (.app 62 3 24 (.t 75) (.t 83)),jf 85 22 5,js 1 85 84] [0,1,4,5,6])
 (.draw [jf 86 23 5,jl 87 86,jm 88 0,jm 89 6,ji 90 38 88 89,jk 91 38 90,jy 92 92 [91],jw 93 (.bsl false 29 2 1 [.int .i64 0,.int .i64 0] [(0,2,(.t 92))])] [jw 94 (.app 29 2 16 (.t 87) (.t 93)),jf 95 23 5,js 1 95 94] [0,1,4,5,6]))
 .skip)))))
 (.ops [jm 32 6,ju .add 33 32 1,jm 6 33] [0,1,4,5,6]))))))
 (jo [jk 96 24 5,js 24 4 96] [4]
 .ret)))),[.c 4 (some 24)]⟩
theorem k149:chkF Tryz.prog Tryz.f149 c149=true:=by kernel_rfl
abbrev fdC (x:Nt) (s w:Int) (mk nm:AV):List AV:=[n x.clerk,n x.num,n s,n w,
  n x.sheet.paper.pitch,n x.sheet.paper.height,n x.sheet.paper.radius,n x.sheet.paper.low,n x.sheet.paper.high,n x.sheet.paper.cols,n x.sheet.paper.along.lo,n x.sheet.paper.along.hi,n x.sheet.paper.across.lo,n x.sheet.paper.across.hi,
  ptS x.sheet.trace,inS x.sheet.blots,spnS x.sheet.rates,mkS x.sheet.stops,n x.sheet.pen.band,n x.sheet.pen.zero.lo,n x.sheet.pen.zero.hi,n x.sheet.pen.rate,mk,nm]
abbrev fdZ:List AV:=[n 0,n 0,n 0,n 0,n 0,n 0,n 0,n 0,n 0,n 0,n 0,n 0,n 0,n 0,.v (.slice none 0 0),.v (.slice none 0 0),.v (.slice none 0 0),.v (.slice none 0 0),n 0,n 0,n 0,n 0,.v (.slice none 0 0),.v (.slice none 0 0)]
theorem on_dec (x y:Nt):onT x.nm y=decide (y.ref.clerk=x.clerk∧y.ref.num=x.num):=by
  unfold onT Nt.nm
  rw [decide_eq_decide]
  rcases y.ref with ⟨a1,a2⟩
  simp
theorem rfiled_spec (S:List Nt) (hS:S.length < 4294967296) (hn:(S.map Nt.nm).Nodup) (hm:∀ a∈S,(a.kind=2∨(a.kind=6∧a.read.stn=0))→0≤a.mark.col) (i:Nat) (hi:i < S.length):Pure Tryz.prog 149 [ntS S,n i] (.agg (fld S (S.getD i nt0)).cs):=by
  refine pB_ Tryz.call149 Tryz.func149 k149 ?_
  unfold c149
  have hr:(S.map Nt.cs).getD i []=Nt.cs (S.getD i nt0):=row nt0 hi
  have hnm:=rName_spec (S.getD i nt0)
  generalize S.getD i nt0=x at hr hnm
  ((refine Az @hr @hnm ?_;repeat' constructor)<;>intros<;>refine hD_ ?_)
  all_goals try (exfalso;omega)
  refine AWPC.own0c 62 3 (f:=1) (i:=0) (e:=0) (j:=22) rfl (by simp) rfl ?_
  refine AWPC.own0c 29 2 (f:=1) (i:=0) (e:=0) (j:=23) rfl (by simp) rfl ?_
  refine AWPC.sto (σ':=[some [⟨72,24,[fdZ],none⟩],some [⟨72,24,[fdC x x.stn x.week (.own 2 0 0) (.own 3 0 0)],none⟩],some [⟨62,3,[],none⟩],some [⟨29,2,[],none⟩]]) rfl ?_
  refine AWPC.loopE (α:={ z:Nat × Nt × List Nt // z.1≤S.length∧(((S.take z.1).filter fun k=>kd 5 k && onT x.nm k).getLast?).getD x=z.2.1∧((S.take z.1).filter fun k=>kd 2 k && (onT x.nm k && cnt S k))=z.2.2 }) [6] (fun z=>[(6,n z.1.1)])
    (fun z=>[some [⟨72,24,[fdZ],none⟩],some [⟨72,24,[fdC x z.1.2.1.stn z.1.2.1.week (.own 2 0 z.1.2.2.length) (.own 3 0 z.1.2.2.length)],none⟩],some [⟨62,3,(z.1.2.2.map fun k=>(knw S k).mark).map Mk.cs,none⟩],some [⟨29,2,(z.1.2.2.map Nt.nm).map Nm.cs,none⟩]]) (fun z=>S.length - z.1.1) ⟨(0,x,[]),Nat.zero_le _,rfl,rfl⟩ ?_ rfl ?_
  · (simp only [zN,zT,zV,zS,zU,Q0,Q1,ex,Q2,Q3,Q4,Q5,Q6,Q7,Q8,Q9,QA,QB,QC,Nat.reduceBEq,reduceAdd,reduceSub,reduceLT,reduceLeDiff,reduceMul,reduceEqDiff,reduceIte]; try simp)
  · rintro ⟨⟨k,f,M⟩,hk,hf,hM⟩
    simp only at hk hf hM ⊢
    have hMl:M.length≤k:=by
      rw [← hM]
      refine Nat.le_trans (List.length_filter_le _ _) ?_
      rw [List.length_take]; omega
    by_cases hlt:k < S.length
    · have hg:=getD_lt nt0 hlt
      have hrk:(S.map Nt.cs).getD k []=Nt.cs (S.getD k nt0):=row nt0 hlt
      have hT:S.take (k+1)=S.take k++[S.getD k nt0]:=by rw [List.take_add_one,hg]; rfl
      have hN1:=last_snoc (S.take k) (fun k=>kd 5 k && onT x.nm k) (S.getD k nt0) x
      rw [← hT,hf] at hN1
      have hN2:((S.take (k+1)).filter fun k=>kd 2 k && (onT x.nm k && cnt S k))=if kd 2 (S.getD k nt0) && (onT x.nm (S.getD k nt0) && cnt S (S.getD k nt0)) then M++[S.getD k nt0] else M:=by
        rw [hT,List.filter_append,hM,List.filter_cons,List.filter_nil]
        split <;> simp
      have hcn:=rcounts_spec S (by omega) k hlt
      have hkn:=rknown_spec S (by omega) k hlt
      have hcR:=cnt_R hn hm hlt
      obtain ⟨g1,g2⟩:=knw_R' hn hm hlt
      have hrw:(S.map Nt.cs).getD (knwR S k S.length) []=Nt.cs (S.getD (knwR S k S.length) nt0):=row nt0 g1
      rw [g2] at hrw
      have hny:=rName_spec (S.getD k nt0)
      clear hg hT g2
      generalize knwR S k S.length=w at hkn hrw g1
      generalize S.getD k nt0=y at hrk hN1 hN2 hcR hny hrw
      rw [on_dec x y] at hN1 hN2
      generalize hMa:(M.map fun k=>(knw S k).mark).map Mk.cs=A
      generalize hMb:(M.map Nt.nm).map Nm.cs=B
      have hAl:A.length=M.length:=by rw [← hMa]; simp
      have hBl:B.length=M.length:=by rw [← hMb]; simp
      by_cases e1:y.ref.clerk=x.clerk
      · by_cases e2:y.ref.num=x.num
        · rw [decide_eq_true ⟨e1,e2⟩] at hN1 hN2
          rw [Bool.true_and] at hN2
          rw [Bool.and_true] at hN1
          by_cases h5:y.kind=5
          · rw [show kd 5 y=true from decide_eq_true h5,if_pos rfl] at hN1
            rw [show kd 2 y=false from decide_eq_false (by omega),Bool.false_and,if_neg (by decide)] at hN2
            have h52:((5:Int) == 2)=false:=by decide
            have h53:¬ (5:Int)=2:=by decide
            ((refine Az (And.intro @hr (And.intro @hrk (And.intro @hAl (And.intro @hBl (And.intro @h5 (And.intro @h52 (And.intro @h53 (And.intro @e1 @e2)))))))) (And.intro @hnm (And.intro @hny (And.intro @hcn @hkn))) ?_;repeat' constructor)<;>intros<;>refine hD_ ?_)
            all_goals try (exfalso;omega)
            all_goals try (exfalso; simp_all; done)
            all_goals exact ⟨⟨(k+1,y,M),hlt,hN1,hN2⟩,by simp,by simp [← hMa,← hMb],by show S.length - (k+1) < S.length - k; omega⟩
          · rw [show kd 5 y=false from decide_eq_false h5,if_neg (by decide)] at hN1
            by_cases h2:y.kind=2
            · rw [show kd 2 y=true from decide_eq_true h2,Bool.true_and] at hN2
              rw [hcR h2] at hcn
              generalize cnt S y=q at hcn hN2
              cases q
              · rw [if_neg (by decide)] at hN2
                ((refine Az (And.intro @hr (And.intro @hrk (And.intro @hAl (And.intro @hBl (And.intro @h2 (And.intro @e1 @e2)))))) (And.intro @hnm (And.intro @hny @hcn)) ?_;repeat' constructor)<;>intros<;>refine hD_ ?_)
                all_goals try (exfalso;omega)
                all_goals exact ⟨⟨(k+1,f,M),hlt,hN1,hN2⟩,by simp,by simp [← hMa,← hMb],by show S.length - (k+1) < S.length - k; omega⟩
              · rw [if_pos rfl] at hN2
                ((refine Az (And.intro @hr (And.intro @hrk (And.intro @hrw (And.intro @hAl (And.intro @hBl (And.intro @h2 (And.intro @e1 @e2))))))) (And.intro @hnm (And.intro @hny (And.intro @hcn @hkn))) ?_;repeat' constructor)<;>intros<;>refine hD_ ?_)
                all_goals try (exfalso;omega)
                all_goals exact ⟨⟨(k+1,f,M++[y]),hlt,hN1,hN2⟩,by simp,by simp [← hMa,← hMb],by show S.length - (k+1) < S.length - k; omega⟩
            · rw [show kd 2 y=false from decide_eq_false h2,Bool.false_and,if_neg (by decide)] at hN2
              ((refine Az (And.intro @hr (And.intro @hrk (And.intro @hAl (And.intro @hBl (And.intro @h5 (And.intro @h2 (And.intro @e1 @e2))))))) (And.intro @hnm (And.intro @hny @hcn)) ?_;repeat' constructor)<;>intros<;>refine hD_ ?_)
              all_goals try (exfalso;omega)
              all_goals exact ⟨⟨(k+1,f,M),hlt,hN1,hN2⟩,by simp,by simp [← hMa,← hMb],by show S.length - (k+1) < S.length - k; omega⟩
        · rw [decide_eq_false (fun h=>e2 h.2)] at hN1 hN2
          rw [Bool.false_and,Bool.and_false,if_neg (by decide)] at hN2
          rw [Bool.and_false,if_neg (by decide)] at hN1
          ((refine Az (And.intro @hr (And.intro @hrk (And.intro @hAl (And.intro @hBl (And.intro @e1 @e2))))) (And.intro @hnm (And.intro @hny @hcn)) ?_;repeat' constructor)<;>intros<;>refine hD_ ?_)
          all_goals try (exfalso;omega)
          all_goals exact ⟨⟨(k+1,f,M),hlt,hN1,hN2⟩,by simp,by simp [← hMa,← hMb],by show S.length - (k+1) < S.length - k; omega⟩
      · rw [decide_eq_false (fun h=>e1 h.1)] at hN1 hN2
        rw [Bool.false_and,Bool.and_false,if_neg (by decide)] at hN2
        rw [Bool.and_false,if_neg (by decide)] at hN1
        ((refine Az (And.intro @hr (And.intro @hrk (And.intro @hAl (And.intro @hBl @e1)))) (And.intro @hnm (And.intro @hny @hcn)) ?_;repeat' constructor)<;>intros<;>refine hD_ ?_)
        all_goals try (exfalso;omega)
        all_goals exact ⟨⟨(k+1,f,M),hlt,hN1,hN2⟩,by simp,by simp [← hMa,← hMb],by show S.length - (k+1) < S.length - k; omega⟩
    · obtain rfl:k=S.length:=by omega
      rw [List.take_length] at hf hM
      have hE:fld S x=⟨x.nm,f.stn,f.week,x.sheet,M.map fun k=>(knw S k).mark,M.map Nt.nm⟩:=by
        unfold fld flg mks; rw [hf,hM]
      rw [hE]
      ((refine Au ?_;repeat' constructor)<;>intros<;>refine hD_ ?_)
      all_goals try (exfalso;omega)
      all_goals exact Frz.aggL ⟨Frz.pure (by simp),Frz.pure (by simp),Frz.pure (by simp),Frz.pure (by simp),Frz.pure (by simp),Frz.pure (by simp),Frz.pure (by simp),Frz.pure (by simp),Frz.pure (by simp),Frz.pure (by simp),Frz.pure (by simp),Frz.pure (by simp),Frz.pure (by simp),Frz.pure (by simp),Frz.pure (by simp),Frz.pure (by simp),Frz.pure (by simp),Frz.pure (by simp),Frz.pure (by simp),Frz.pure (by simp),Frz.pure (by simp),Frz.pure (by simp),Frz.ownL (cs:=Mk.cs) rfl (by simp) (by decide) (fun a c hc=>by simp at hc; rcases hc with rfl | rfl | rfl <;> simp) (fun a=>rfl),Frz.ownL (cs:=Nm.cs) rfl (by simp) (by decide) nm_pc (fun a=>rfl),trivial⟩
def c156:CF:=⟨49,(jo [jn 2] [0]
 (jo [jn 3] [0,3]
 (.seq (jo [jc 4 0] [0,3,4]
 (.block 0 (.loop (.seq (jo [jm 7 4,jm 8 0,je 9 8,jt .lss 10 7 9] [0,3,4,10]
 (.cond (.t 10) .skip
 (.exit 0)))
 (.seq (.block 1 (jo [jm 13 3,je 14 13,jm 5 14] [0,3,4,5]
 (.seq (.block 2 (.loop (.seq (.seq (.draw [jm 15 5,ju .gtr 16 15 0,jm 17 16,ja 17 (jm 18 0),ja 17 (jm 19 4),ja 17 (ji 20 2 18 19),ja 17 (jk 21 2 20),ja 17 (jm 22 3),ja 17 (jm 23 5),ja 17 (ju .sub 24 23 1),ja 17 (ji 25 2 22 24),ja 17 (jk 26 2 25),ja 17 (jy 27 109 [21,26]),jp 28 17 27] [] [0,3,4,5,28])
 (.cond (.t 28) .skip
 (.exit 2)))
 (.block 3 (.ops [jm 29 5,ju .sub 30 29 1,jm 5 30] [0,3,4,5])))))
 (jo [jw 31 (.bsl true 29 2 0 [] []),jm 32 3,jm 33 5,jw 34 (.slice 2 (.t 32) none (some (.t 33))),jw 35 (.app 29 2 16 (.t 31) (.t 34)),jm 6 35] [0,3,4,5,6]
 (jo [jm 36 6,jm 37 0,jm 38 4,ji 39 2 37 38,jk 40 2 39,jw 41 (.bsl false 29 2 1 [.int .i64 0,.int .i64 0] [(0,2,(.t 40))]),jw 42 (.app 29 2 16 (.t 36) (.t 41)),jm 6 42] [0,3,4,5,6]
 (.ops [jm 43 6,jm 44 3,jm 45 5,jw 46 (.slice 2 (.t 44) (some (.t 45)) none),jw 47 (.app 29 2 16 (.t 43) (.t 46)),jm 3 47] [0,3,4]))))))
 (.ops [jm 11 4,ju .add 12 11 1,jm 4 12] [0,3,4]))))))
 (jo [jm 48 3,jm 2 48] [2]
 .ret)))),[.t 2]⟩
theorem k156:chkF Tryz.prog Tryz.f156 c156=true:=by kernel_rfl
theorem insNm_at {x:Nm}:∀ {o:List Nm} {k:Nat},o.Pairwise (fun a b=>0≤cmpN b a)→k≤o.length→(∀ j,k≤j→j < o.length→cmpN x (o.getD j nm0) < 0)→(0 < k→¬ cmpN x (o.getD (k - 1) nm0) < 0)→insNm x o=o.take k++x::o.drop k
  | [],k,_,hk,_,_=>by
    obtain rfl:k=0:=by simpa using hk
    rfl
  | y::r,0,_,_,h1,_=>by
    have:cmpN x y < 0:=h1 0 (Nat.le_refl _) (by simp)
    unfold insNm
    rw [if_pos this]; rfl
  | y::r,k+1,hs,hk,h1,h2=>by
    rw [List.pairwise_cons] at hs
    have hy:¬ cmpN x y < 0:=fun h=>by
      have h3:=h2 (Nat.succ_pos _)
      cases k with
      | zero=>exact h3 h
      | succ k =>
        have hkr:k < r.length:=by simp only [List.length_cons] at hk; omega
        have h4:0≤cmpN (r.getD k nm0) y:=hs.1 _ (List.mem_of_getElem? (getD_lt nm0 hkr))
        have h5:¬ cmpN x (r.getD k nm0) < 0:=by simpa using h3
        rw [cmpN_lt] at h h5
        have h6:¬ cmpN (r.getD k nm0) y < 0:=by omega
        rw [cmpN_lt] at h6
        omega
    unfold insNm
    rw [if_neg hy,List.take_succ_cons,List.drop_succ_cons,List.cons_append]
    congr 1
    refine insNm_at hs.2 (by simpa using hk) (fun j hj hjl=>?_) (fun h0=>?_)
    · have:=h1 (j+1) (by omega) (by simpa using hjl)
      simpa using this
    · have:=h2 (Nat.succ_pos _)
      obtain ⟨m,rfl⟩:∃ m,k=m+1:=⟨k - 1,by omega⟩
      simpa using this
theorem srtNm_next {l:List Nm} {i:Nat} {a:Nm} (h:l[i]?=some a):srtNm (l.take (i+1))=insNm a (srtNm (l.take i)):=by
  unfold srtNm
  rw [List.take_add_one,h,Option.toList_some,List.foldl_append]; rfl
theorem srtNm_le' (l:List Nm):(srtNm l).Pairwise (fun a b=>0≤cmpN b a):=(srtNm_le l).imp fun h=>by omega
theorem rSorted_spec (l:List Nm) (hl:l.length < 4294967296):Pure Tryz.prog 156 [nmS l] (nmS (srtNm l)):=by
  refine pB_ Tryz.call156 Tryz.func156 k156 ?_
  unfold c156
  ((refine Au ?_;repeat' constructor)<;>intros<;>refine hD_ ?_)
  refine AWPC.nil0 2 3 rfl ?_
  refine AWPC.loopE (α:={ x:Nat × Sto // x.1≤l.length }) [3,4] (fun x=>[(3,nmS (srtNm (l.take x.1.1))),(4,n x.1.1)]) (fun x=>x.1.2) (fun x=>l.length - x.1.1) ⟨(0,[]),Nat.zero_le _⟩ ?_ rfl ?_
  · (simp only [zN,zT,zV,zS,zU,Q0,Q1,ex,Q2,Q3,Q4,Q5,Q6,Q7,Q8,Q9,QA,QB,QC,Nat.reduceBEq,reduceAdd,reduceSub,reduceLT,reduceLeDiff,reduceMul,reduceEqDiff,reduceIte]; try simp)
    rfl
  · rintro ⟨⟨i,μ⟩,hi⟩
    simp only at hi
    by_cases hlt:i < l.length
    · have ha:=getD_lt nm0 hlt
      have hx:(l.map Nm.cs).getD i []=Nm.cs (l.getD i nm0):=row nm0 hlt
      have hN:=srtNm_next ha
      have hsr:=srtNm_le' (l.take i)
      have hol:(srtNm (l.take i)).length=i:=by rw [(srtNm_perm _).length_eq,List.length_take]; omega
      have hins:=@insNm_at (l.getD i nm0) (srtNm (l.take i))
      generalize l.getD i nm0=x at hx hN hins ha
      generalize srtNm (l.take i)=o at hsr hN hol hins
      ((refine Au ?_;repeat' constructor)<;>intros<;>refine hD_ ?_)
      all_goals try (exfalso;omega)
      refine AWPC.loopS (α:={ k:Nat // k≤i∧∀ j,k≤j→j < i→cmpN x (o.getD j nm0) < 0 }) [5] (fun k=>[(5,n k.1)]) (fun k=>k.1) ⟨i,Nat.le_refl _,fun j h1 h2=>by omega⟩ ?_ ?_
      · (simp only [zN,zT,zV,zS,zU,Q0,Q1,ex,Q2,Q3,Q4,Q5,Q6,Q7,Q8,Q9,QA,QB,QC,Nat.reduceBEq,reduceAdd,reduceSub,reduceLT,reduceLeDiff,reduceMul,reduceEqDiff,reduceIte]; try simp)
        omega
      · rintro ⟨k,hk,hI⟩
        try simp only at hk hI
        have fin:(0 < k→¬ cmpN x (o.getD (k - 1) nm0) < 0)→insNm x o=o.take k++x::o.drop k:=fun h=>hins hsr (by omega) (fun j h1 h2=>hI j h1 (by omega)) h
        by_cases h0:0 < k
        · have hrow:(o.map Nm.cs).getD ((k:Int) - 1).toNat []=Nm.cs (o.getD (k - 1) nm0):=by
            rw [show ((k:Int) - 1).toNat=k - 1 by omega]; exact row nm0 (by omega)
          have hb:=rAhead_spec x (o.getD (k - 1) nm0)
          by_cases hc:cmpN x (o.getD (k - 1) nm0) < 0
          · rw [decide_eq_true hc] at hb
            generalize hy:o.getD (k - 1) nm0=y at hrow hb hc
            ((refine Az (And.intro @hx @hrow) @hb ?_;repeat' constructor)<;>intros<;>refine hD_ ?_)
            all_goals try (exfalso;omega)
            refine ⟨⟨k - 1,by omega,fun j h1 h2=>?_⟩,?_,by simp only; omega⟩
            · rcases (show j=k - 1∨k≤j by omega) with rfl | h3
              · rw [hy]; exact hc
              · exact hI j h3 h2
            · simp; omega
          · have hF:=fin fun _=>hc
            rw [decide_eq_false hc] at hb
            generalize o.getD (k - 1) nm0=y at hrow hb
            clear hins fin hsr
            iterate 5
              ((first
 | refine vn rfl ?_
 | simp (disch:=omega) only [wr64,Int.zero_sub]
 | refine bo (fun _=>?_) fun _=>?_
 | refine im fun _=>?_
 | ((repeat refine si ?_); (first | ((first | refine .inl ⟨_,_,_,_,rfl,fun _=>pu hb,?_⟩ | refine ⟨_,_,_,_,rfl,fun _=>pu hb,?_⟩); (first | refine o1 ?_ | refine o2 ?_ | refine o3 ?_ | refine o4 ?_)) | refine .inl ⟨_,_,_,_,rfl,pu hb,?_⟩))
 | refine cF ?_
 | refine om ?_
 | refine an ?_
 | fail) <;> try simp only [zN, zT, zV, zS, zU, vcC, lateX, ex, strp, binA, elems, cells, scalar, eqC, keyA, intsA, lookA, ofVs, mpOf, Nat.reduceBEq, reduceAdd, reduceSub, reduceLT, reduceLeDiff, reduceMul, reduceEqDiff, reduceIte, hx, hrow, hol, List.length_map])
            clear hI hc hb hrow h0
            obtain ⟨P,hP⟩:∃ P,P=o.take k:=⟨_,rfl⟩
            obtain ⟨Q,hQ⟩:∃ Q,Q=o.drop k:=⟨_,rfl⟩
            have hPm:List.take k (o.map Nm.cs)=P.map Nm.cs:=by rw [hP,List.map_take]
            have hQm:List.drop k (List.take i (o.map Nm.cs))=Q.map Nm.cs:=by rw [hQ,List.map_drop,List.take_of_length_le (by rw [List.length_map]; omega)]
            have hPl:P.length=k:=by rw [hP,List.length_take]; omega
            have hQl:Q.length=i - k:=by rw [hQ,List.length_drop]; omega
            have hPr:∀ e,e < k→((P.map Nm.cs).getD e []).length=2:=fun e he=>by rw [row nm0 (by omega)]; rfl
            have hQr:∀ e,e < i - k→((Q.map Nm.cs).getD e []).length=2:=fun e he=>by rw [row nm0 (by omega)]; rfl
            rw [← hP,← hQ] at hF
            clear hP hQ
            iterate 2
              ((first
 | refine vn rfl ?_
 | simp (disch:=omega) only [wr64,Int.zero_sub]
 | refine bo (fun _=>?_) fun _=>?_
 | refine im fun _=>?_
 | refine cF ?_
 | refine om ?_
 | refine an ?_
 | fail) <;> try simp only [zN, zT, zV, zS, zU, vcC, lateX, ex, strp, binA, elems, cells, scalar, eqC, keyA, intsA, lookA, ofVs, mpOf, Nat.reduceBEq, reduceAdd, reduceSub, reduceLT, reduceLeDiff, reduceMul, reduceEqDiff, reduceIte, hx, hPm, hQm, hPl, hQl, hol, List.length_map, Option.toList, List.append_nil, List.nil_append, List.cons_append])
            refine ⟨⟨hPr,by omega⟩,?_⟩
            iterate 5
              ((first
 | refine vn rfl ?_
 | simp (disch:=omega) only [wr64,Int.zero_sub]
 | refine bo (fun _=>?_) fun _=>?_
 | refine im fun _=>?_
 | refine cF ?_
 | refine om ?_
 | refine an ?_
 | fail) <;> try simp only [zN, zT, zV, zS, zU, vcC, lateX, ex, strp, binA, elems, cells, scalar, eqC, keyA, intsA, lookA, ofVs, mpOf, Nat.reduceBEq, reduceAdd, reduceSub, reduceLT, reduceLeDiff, reduceMul, reduceEqDiff, reduceIte, hx, hPm, hQm, hPl, hQl, hol, List.length_map, Option.toList, List.append_nil, List.nil_append, List.cons_append])
            refine ⟨⟨hQr,by omega⟩,?_⟩
            refine AWPC.freeze1 (f:=μ.length) (t:=3) (o:=⟨29,2,(P++x::Q).map Nm.cs,none⟩) rfl (by rw [at_app0]; simp [at_cons0]) (by simp; omega) (show (2:Nat)≠0 by decide) ?_
            rw [← hF,← hN]
            generalize gone _ _=ν
            ((refine Au ?_;repeat' constructor)<;>intros<;>refine hD_ ?_)
            all_goals try (exfalso;omega)
            all_goals exact ⟨⟨(i+1,ν),hlt⟩,by simp,rfl,by simp only; omega⟩
        · have hF:=fin fun h=>absurd h h0
          have hg0:¬ (0:Int) < (k:Int):=by omega
          have hrw:((o.map Nm.cs).getD ((k:Int) - 1).toNat []=[])∨∃ y:Nm,(o.map Nm.cs).getD ((k:Int) - 1).toNat []=y.cs:=by
            by_cases h:((k:Int) - 1).toNat < o.length
            · exact .inr ⟨_,row nm0 h⟩
            · exact .inl (by rw [List.getD_eq_getElem?_getD,List.getElem?_eq_none (by rw [List.length_map]; omega)]; rfl)
          rcases hrw with hrow | ⟨y,hrow⟩
          all_goals
            iterate 5
              ((first
 | refine vn rfl ?_
 | simp (disch:=omega) only [wr64,Int.zero_sub]
 | refine bo (fun _=>?_) fun _=>?_
 | refine im fun _=>?_
 | refine cF ?_
 | refine cG ?_
 | refine om ?_
 | refine an ?_
 | fail) <;> try simp only [zN, zT, zV, zS, zU, vcC, lateX, ex, strp, binA, elems, cells, scalar, eqC, keyA, intsA, lookA, ofVs, mpOf, Nat.reduceBEq, reduceAdd, reduceSub, reduceLT, reduceLeDiff, reduceMul, reduceEqDiff, reduceIte, hx, hg0, hol, hrow, List.length_map])
            clear hI h0 hg0 hins fin hsr hrow
            obtain ⟨P,hP⟩:∃ P,P=o.take k:=⟨_,rfl⟩
            obtain ⟨Q,hQ⟩:∃ Q,Q=o.drop k:=⟨_,rfl⟩
            have hPm:List.take k (o.map Nm.cs)=P.map Nm.cs:=by rw [hP,List.map_take]
            have hQm:List.drop k (List.take i (o.map Nm.cs))=Q.map Nm.cs:=by rw [hQ,List.map_drop,List.take_of_length_le (by rw [List.length_map]; omega)]
            have hPl:P.length=k:=by rw [hP,List.length_take]; omega
            have hQl:Q.length=i - k:=by rw [hQ,List.length_drop]; omega
            have hPr:∀ e,e < k→((P.map Nm.cs).getD e []).length=2:=fun e he=>by rw [row nm0 (by omega)]; rfl
            have hQr:∀ e,e < i - k→((Q.map Nm.cs).getD e []).length=2:=fun e he=>by rw [row nm0 (by omega)]; rfl
            rw [← hP,← hQ] at hF
            clear hP hQ
            iterate 2
              ((first
 | refine vn rfl ?_
 | simp (disch:=omega) only [wr64,Int.zero_sub]
 | refine bo (fun _=>?_) fun _=>?_
 | refine im fun _=>?_
 | refine cF ?_
 | refine om ?_
 | refine an ?_
 | fail) <;> try simp only [zN, zT, zV, zS, zU, vcC, lateX, ex, strp, binA, elems, cells, scalar, eqC, keyA, intsA, lookA, ofVs, mpOf, Nat.reduceBEq, reduceAdd, reduceSub, reduceLT, reduceLeDiff, reduceMul, reduceEqDiff, reduceIte, hx, hPm, hQm, hPl, hQl, hol, List.length_map, Option.toList, List.append_nil, List.nil_append, List.cons_append])
            refine ⟨⟨hPr,by omega⟩,?_⟩
            iterate 5
              ((first
 | refine vn rfl ?_
 | simp (disch:=omega) only [wr64,Int.zero_sub]
 | refine bo (fun _=>?_) fun _=>?_
 | refine im fun _=>?_
 | refine cF ?_
 | refine om ?_
 | refine an ?_
 | fail) <;> try simp only [zN, zT, zV, zS, zU, vcC, lateX, ex, strp, binA, elems, cells, scalar, eqC, keyA, intsA, lookA, ofVs, mpOf, Nat.reduceBEq, reduceAdd, reduceSub, reduceLT, reduceLeDiff, reduceMul, reduceEqDiff, reduceIte, hx, hPm, hQm, hPl, hQl, hol, List.length_map, Option.toList, List.append_nil, List.nil_append, List.cons_append])
            refine ⟨⟨hQr,by omega⟩,?_⟩
            refine AWPC.freeze1 (f:=μ.length) (t:=3) (o:=⟨29,2,(P++x::Q).map Nm.cs,none⟩) rfl (by rw [at_app0]; simp [at_cons0]) (by simp; omega) (show (2:Nat)≠0 by decide) ?_
            rw [← hF,← hN]
            generalize gone _ _=ν
            ((refine Au ?_;repeat' constructor)<;>intros<;>refine hD_ ?_)
            all_goals try (exfalso;omega)
            all_goals exact ⟨⟨(i+1,ν),hlt⟩,by simp,rfl,by simp only; omega⟩
    · obtain rfl:i=l.length:=by omega
      rw [List.take_length]
      ((refine Au ?_;repeat' constructor)<;>intros<;>refine hD_ ?_)
      all_goals try (exfalso;omega)
      all_goals exact Frz.eq rfl (by simp)
def c196:CF:=⟨6,(jo [jx 1 109 4 0,jc 2 0] [1]
 (jo [jk 3 4 1,jw 4 (.bsl false 109 4 1 [.int .i64 0,.int .i64 0,.int .i64 0,.slice none 0 0] [(0,4,(.t 3))]),jy 5 195 [4],jm 2 5] [2]
 .ret)),[.t 2]⟩
theorem k196:chkF Tryz.prog Tryz.f196 c196=true:=by kernel_rfl
def c153:CF:=⟨73,(jo [jx 2 109 4 0,jx 3 66 3 1,jw 4 (.alloc 109 4 [.int .i64 0,.int .i64 0,.int .i64 0,.slice none 0 0]),jc 5 0] [2,3,4]
 (jo [jk 10 4 2,jy 11 196 [10],jm 6 11] [2,3,4,6]
 (.seq (jo [jm 12 6,ju .neq 13 12 0] [2,3,4,6,13]
 (.cond (.t 13) (jo [jw 14 (.build [.int .i64 0,.int .i64 0,.int .i64 0,.slice none 0 0] []),jm 15 6,js 4 4 14,jm 5 15] [4,5]
 .ret)
 .skip))
 (jo [jf 16 0 2,jl 17 16,jf 18 1 2,jl 19 18,jf 20 2 2,jl 21 20,jw 22 (.build [.int .i64 0,.int .i64 0,.int .i64 0,.slice none 0 0] [(0,1,(.t 17)),(1,1,(.t 19)),(2,1,(.t 21))]),jw 7 (.alloc 109 4 [.int .i64 0,.int .i64 0,.int .i64 0,.slice none 0 0]),js 4 7 22] [2,3,4,7]
 (jo [jb 8 false] [2,3,4,7,8]
 (.seq (jo [jc 9 0] [2,3,4,7,8,9]
 (.block 0 (.loop (.seq (jo [jm 23 9,jf 24 3 2,jl 25 24,je 26 25,jt .lss 27 23 26] [2,3,4,7,8,9,27]
 (.cond (.t 27) .skip
 (.exit 0)))
 (.seq (.block 1 (.seq (.seq (.draw [jm 30 8,jv 31 30,jm 32 31,ja 32 (jf 33 3 2),ja 32 (jl 34 33),ja 32 (jm 35 9),ja 32 (ji 36 3 34 35),ja 32 (jf 37 0 36),ja 32 (jl 38 37),ja 32 (jf 39 0 3),ja 32 (jl 40 39),ja 32 (jt .gtr 41 38 40),jp 42 32 41] [] [2,3,4,7,8,9,42])
 (.cond (.t 42) (jo [jf 43 3 7,jl 44 43,jk 45 3 3,jw 46 (.bsl false 66 3 1 [.int .i64 0,.int .i64 0,.int .i64 0] [(0,3,(.t 45))]),jw 47 (.app 66 3 24 (.t 44) (.t 46)),jf 48 3 7,js 1 48 47] [2,3,4,7,9]
 (.ops [jb 8 true] [2,3,4,7,8,9]))
 .skip))
 (.draw [jf 49 3 7,jl 50 49,jf 51 3 2,jl 52 51,jm 53 9,ji 54 3 52 53,jk 55 3 54,jw 56 (.bsl false 66 3 1 [.int .i64 0,.int .i64 0,.int .i64 0] [(0,3,(.t 55))])] [jw 57 (.app 66 3 24 (.t 50) (.t 56)),jf 58 3 7,js 1 58 57] [2,3,4,7,8,9])))
 (.ops [jm 28 9,ju .add 29 28 1,jm 9 29] [2,3,4,7,8,9]))))))
 (.seq (jo [jm 59 8,jv 60 59] [3,4,7,60]
 (.cond (.t 60) (.ops [jf 61 3 7,jl 62 61,jk 63 3 3,jw 64 (.bsl false 66 3 1 [.int .i64 0,.int .i64 0,.int .i64 0] [(0,3,(.t 63))]),jw 65 (.app 66 3 24 (.t 62) (.t 64)),jf 66 3 7,js 1 66 65] [4,7])
 .skip))
 (.seq (jo [jf 67 3 7,jl 68 67,jy 69 175 [68],jv 70 69] [4,7,70]
 (.cond (.t 70) (jo [jw 71 (.build [.int .i64 0,.int .i64 0,.int .i64 0,.slice none 0 0] []),js 4 4 71,jc 5 51] [4,5]
 .ret)
 .skip))
 (jo [jk 72 4 7,js 4 4 72,jc 5 0] [4,5]
 .ret))))))))),[.c 4 (some 4),.t 5]⟩
theorem k153:chkF Tryz.prog Tryz.f153 c153=true:=by kernel_rfl
theorem rOne_spec (s:Stn) (hs:s.heights.length < 9223372036854775808):Pure Tryz.prog 196 [.agg s.cs] (n (stnsE [s]).1):=by
  refine pB_ Tryz.call196 Tryz.func196 k196 ?_
  unfold c196
  have h:=rList_spec [s] ⟨by simp,by simpa using hs⟩
  simp only [List.map_cons,List.map_nil,snS] at h
  generalize (stnsE [s]).1=e at h
  ((refine Ay @h ?_;repeat' constructor)<;>intros<;>refine hD_ ?_)
  all_goals try (exfalso;omega)
  all_goals exact Frz.eq rfl (PureV.v _)
def putR (h:Hgt):List Hgt→List Hgt
  | []=>[h]
  | g::r=>if h.week < g.week then h::g::r else g::putR h r
theorem putR_len (h:Hgt):∀ l,(putR h l).length=l.length+1
  | []=>rfl
  | g::r=>by unfold putR; split <;> simp [putR_len h r]
theorem putR_perm (h:Hgt):∀ l,(putR h l).Perm (h::l)
  | []=>.refl _
  | g::r=>by
    unfold putR
    split
    · exact .refl _
    · exact ((putR_perm h r).cons g).trans (.swap h g r)
theorem putH_perm' (h:Hgt):∀ l,(putH h l).Perm (h::l)
  | []=>.refl _
  | g::r=>by
    unfold putH
    split
    · exact ((putH_perm' h r).cons g).trans (.swap h g r)
    · exact .refl _
theorem putR_H {h:Hgt}:∀ {l:List Hgt},(∀ g∈l,g.week≠h.week)→putR h l=putH h l
  | [],_=>rfl
  | g::r,hne=>by
    have h1:=hne g (by simp)
    unfold putR putH
    by_cases h2:g.week < h.week
    · rw [if_neg (by omega),if_pos h2,putR_H fun x hx=>hne x (by simp [hx])]
    · rw [if_pos (by omega),if_neg h2]
theorem high_lt {l:List Hgt} (h:highOk l):(l.map Hgt.week).Pairwise (· < ·):=by
  have key:∀ j,j < l.length→∀ i,i < j→(l.getD i default).week < (l.getD j default).week:=by
    intro j
    induction j with
    | zero=>intro _ i hi; omega
    | succ j ih =>
      intro hj i hi
      have h1:(l.getD j default).week < (l.getD (j+1) default).week:=by
        have:=h.2 (j+1) hj
        unfold highAt at this
        exact this.2.1 (Nat.succ_pos _)
      rcases (show i=j∨i < j by omega) with rfl | hij
      · exact h1
      · have:=ih (by omega) i hij; omega
  rw [List.pairwise_map,List.pairwise_iff_getElem]
  intro i j hi hj hij
  have:=key j hj i hij
  rw [List.getD_eq_getElem?_getD,List.getD_eq_getElem?_getD,List.getElem?_eq_getElem hi,List.getElem?_eq_getElem hj] at this
  simpa using this
theorem high_no {h:Hgt} {l m:List Hgt} (hp:m.Perm (h::l)) (g:Hgt) (hg:g∈l) (e:g.week=h.week):¬ highOk m:=fun ho=>by
  have h1:(m.map Hgt.week).Nodup:=(high_lt ho).imp fun {x y} h e=>by omega
  have h2:((h::l).map Hgt.week).Nodup:=(hp.map _).nodup_iff.1 h1
  rw [List.map_cons,List.nodup_cons] at h2
  exact h2.1 (List.mem_map.2 ⟨g,hg,e⟩)
theorem moveE_R (s:Stn) (h:Hgt):moveE s h=if (stnsE [s]).1≠0 then (default,(stnsE [s]).1) else if highOk (putR h s.heights) then ({ s with heights:=putR h s.heights },0) else (default,51):=by
  unfold moveE
  by_cases hx:∃ g∈s.heights,g.week=h.week
  · obtain ⟨g,hg,e⟩:=hx
    rw [if_neg (high_no (putH_perm' h _) g hg e),if_neg (high_no (putR_perm h _) g hg e)]
  · rw [putR_H fun g hg e=>hx ⟨g,hg,e⟩]
theorem rMove_spec (s:Stn) (h:Hgt) (hs:s.heights.length < 1000000):Pure Tryz.prog 153 [.agg s.cs,.agg h.cs] (.tup [.agg (moveE s h).1.cs,n (moveE s h).2]):=by
  refine pB_ Tryz.call153 Tryz.func153 k153 ?_
  unfold c153
  have ha:=rOne_spec s (by omega)
  rw [moveE_R]
  by_cases he:(stnsE [s]).1=0
  · rw [he] at ha
    rw [if_neg (by omega)]
    obtain ⟨id,sx,sy,L⟩:=s
    simp only at hs ⊢
    clear he
    ((refine Ay @ha ?_;repeat' constructor)<;>intros<;>refine hD_ ?_)
    all_goals try (exfalso;omega)
    refine AWPC.own0c 66 3 (f:=1) (i:=0) (e:=0) (j:=3) rfl (by simp) rfl ?_
    refine AWPC.sto (σ':=[some [⟨109,4,[[n 0,n 0,n 0,.v (.slice none 0 0)]],none⟩],some [⟨109,4,[[n id,n sx,n sy,.own 2 0 0]],none⟩],some [⟨66,3,[],none⟩]]) rfl ?_
    refine AWPC.loopE (α:={ z:Nat × Bool × List Hgt // z.1≤L.length∧z.2.2++(if z.2.1 then L.drop z.1 else putR h (L.drop z.1))=putR h L }) [8,9] (fun z=>[(8,bl z.1.2.1),(9,n z.1.1)])
      (fun z=>[some [⟨109,4,[[n 0,n 0,n 0,.v (.slice none 0 0)]],none⟩],some [⟨109,4,[[n id,n sx,n sy,.own 2 0 z.1.2.2.length]],none⟩],some [⟨66,3,z.1.2.2.map Hgt.cs,none⟩]]) (fun z=>L.length - z.1.1) ⟨(0,false,[]),Nat.zero_le _,by simp⟩ ?_ rfl ?_
    · (simp only [zN,zT,zV,zS,zU,Q0,Q1,ex,Q2,Q3,Q4,Q5,Q6,Q7,Q8,Q9,QA,QB,QC,Nat.reduceBEq,reduceAdd,reduceSub,reduceLT,reduceLeDiff,reduceMul,reduceEqDiff,reduceIte]; try simp)
    · rintro ⟨⟨i,d,O⟩,hi,hO⟩
      simp only at hi hO ⊢
      have hOl:O.length≤L.length+1:=by
        have:=congrArg List.length hO
        rw [List.length_append,putR_len] at this; omega
      generalize hM:O.map Hgt.cs=M
      have hMl:M.length=O.length:=by rw [← hM,List.length_map]
      by_cases hlt:i < L.length
      · have hr:(L.map Hgt.cs).getD i []=Hgt.cs (L.getD i default):=row default hlt
        have hd:L.drop i=L.getD i default::L.drop (i+1):=by
          rw [List.drop_eq_getElem_cons hlt,List.getD_eq_getElem?_getD,List.getElem?_eq_getElem hlt]; rfl
        rw [hd] at hO
        generalize L.getD i default=g at hr hO
        clear hd
        cases d with
        | true =>
          rw [if_pos rfl] at hO
          ((refine Ax (And.intro @hr @hMl) ?_;repeat' constructor)<;>intros<;>refine hD_ ?_)
          all_goals try (exfalso;omega)
          all_goals exact ⟨⟨(i+1,true,O++[g]),hlt,by simpa using hO⟩,⟨by simp,by simp⟩,by simp [← hM],by show L.length - (i+1) < L.length - i; omega⟩
        | false =>
          rw [if_neg (by decide)] at hO
          by_cases hw:h.week < g.week
          · rw [putR,if_pos hw] at hO
            ((refine Ax (And.intro @hr @hMl) ?_;repeat' constructor)<;>intros<;>refine hD_ ?_)
            all_goals try (exfalso;omega)
            all_goals exact ⟨⟨(i+1,true,O++[h,g]),hlt,by simpa using hO⟩,⟨by simp,by simp⟩,by simp [← hM],by show L.length - (i+1) < L.length - i; omega⟩
          · rw [putR,if_neg hw] at hO
            ((refine Ax (And.intro @hr @hMl) ?_;repeat' constructor)<;>intros<;>refine hD_ ?_)
            all_goals try (exfalso;omega)
            all_goals exact ⟨⟨(i+1,false,O++[g]),hlt,by simpa using hO⟩,⟨by simp,by simp⟩,by simp [← hM],by show L.length - (i+1) < L.length - i; omega⟩
      · obtain rfl:i=L.length:=by omega
        rw [List.drop_length] at hO
        cases d with
        | true =>
          rw [if_pos rfl,List.append_nil] at hO
          have hpk:∀ A B,Peek Tryz.prog 175 [.own 2 0 (O.length)] [A,B,some [⟨66,3,M,none⟩]] (bl (decide (highOk (O)))):=fun A B =>
            Peek.plain (rHeights_spec (O) (by omega)) (Plain.v _) ⟨Frz.ownL (f:=2) (cs:=Hgt.cs) (l:=O) (by simp [← hM]; rfl) (by simp) (by decide) (fun a c hc=>by simp at hc; rcases hc with rfl | rfl | rfl <;> simp) (fun a=>rfl),trivial⟩
          by_cases hk:highOk (O)
          · simp only [decide_eq_true hk] at hpk
            have hE:(if highOk (putR h L) then (({ id:=id,x:=sx,y:=sy,heights:=putR h L }:Stn),(0:Int)) else (default,51))=(⟨id,sx,sy,O⟩,0):=by rw [← hO,if_pos hk]
            simp only [hE]
            (repeat' ((first
 | refine vn rfl ?_
 | simp (disch:=omega) only [wr64,Int.zero_sub]
 | refine bo (fun _=>?_) fun _=>?_
 | refine im fun _=>?_
 | ((repeat refine si ?_); ((first | refine .inl ⟨_,_,_,_,rfl,fun _=>(by first | exact (hpk _ _)),?_⟩ | refine ⟨_,_,_,_,rfl,fun _=>(by first | exact (hpk _ _)),?_⟩); (first | refine o1 ?_ | refine o2 ?_ | refine o3 ?_ | refine o4 ?_)))
 | refine cF ?_
 | refine om ?_
 | refine an ?_
 | fail) <;> try simp only [zN, zT, zV, zS, zU, vcC, lateX, ex, strp, binA, elems, cells, scalar, eqC, keyA, intsA, lookA, ofVs, mpOf, Nat.reduceBEq, reduceAdd, reduceSub, reduceLT, reduceLeDiff, reduceMul, reduceEqDiff, reduceIte, hMl, List.length_map]))
            all_goals try (exfalso;omega)
            all_goals exact Frz.tupL ⟨Frz.aggL ⟨Frz.pure (by simp),Frz.pure (by simp),Frz.pure (by simp),Frz.ownL (cs:=Hgt.cs) (l:=(O)) (by simp [← hM]; rfl) (by simp) (by decide) (fun a c hc=>by simp at hc; rcases hc with rfl | rfl | rfl <;> simp) (fun a=>rfl),trivial⟩,Frz.pure (by simp),trivial⟩
          · simp only [decide_eq_false hk] at hpk
            have hE:(if highOk (putR h L) then (({ id:=id,x:=sx,y:=sy,heights:=putR h L }:Stn),(0:Int)) else (default,51))=(default,51):=by rw [← hO,if_neg hk]
            simp only [hE]
            (repeat' ((first
 | refine vn rfl ?_
 | simp (disch:=omega) only [wr64,Int.zero_sub]
 | refine bo (fun _=>?_) fun _=>?_
 | refine im fun _=>?_
 | ((repeat refine si ?_); ((first | refine .inl ⟨_,_,_,_,rfl,fun _=>(by first | exact (hpk _ _)),?_⟩ | refine ⟨_,_,_,_,rfl,fun _=>(by first | exact (hpk _ _)),?_⟩); (first | refine o1 ?_ | refine o2 ?_ | refine o3 ?_ | refine o4 ?_)))
 | refine cF ?_
 | refine om ?_
 | refine an ?_
 | fail) <;> try simp only [zN, zT, zV, zS, zU, vcC, lateX, ex, strp, binA, elems, cells, scalar, eqC, keyA, intsA, lookA, ofVs, mpOf, Nat.reduceBEq, reduceAdd, reduceSub, reduceLT, reduceLeDiff, reduceMul, reduceEqDiff, reduceIte, hMl, List.length_map]))
            all_goals try (exfalso;omega)
            all_goals exact Frz.tupL ⟨Frz.aggL ⟨Frz.pure (by simp),Frz.pure (by simp),Frz.pure (by simp),Frz.nil0,trivial⟩,Frz.pure (by simp),trivial⟩
        | false =>
          rw [if_neg (by decide),putR] at hO
          have hpk:∀ A B,Peek Tryz.prog 175 [.own 2 0 (O.length+1)] [A,B,some [⟨66,3,M++[h.cs],none⟩]] (bl (decide (highOk (O++[h])))):=fun A B =>
            Peek.plain (rHeights_spec (O++[h]) (by simp; omega)) (Plain.v _) ⟨Frz.ownL (f:=2) (cs:=Hgt.cs) (l:=O++[h]) (by simp [← hM]; rfl) (by simp) (by decide) (fun a c hc=>by simp at hc; rcases hc with rfl | rfl | rfl <;> simp) (fun a=>rfl),trivial⟩
          by_cases hk:highOk (O++[h])
          · simp only [decide_eq_true hk] at hpk
            have hE:(if highOk (putR h L) then (({ id:=id,x:=sx,y:=sy,heights:=putR h L }:Stn),(0:Int)) else (default,51))=(⟨id,sx,sy,O++[h]⟩,0):=by rw [← hO,if_pos hk]
            simp only [hE]
            (repeat' ((first
 | refine vn rfl ?_
 | simp (disch:=omega) only [wr64,Int.zero_sub]
 | refine bo (fun _=>?_) fun _=>?_
 | refine im fun _=>?_
 | ((repeat refine si ?_); ((first | refine .inl ⟨_,_,_,_,rfl,fun _=>(by first | exact (hpk _ _)),?_⟩ | refine ⟨_,_,_,_,rfl,fun _=>(by first | exact (hpk _ _)),?_⟩); (first | refine o1 ?_ | refine o2 ?_ | refine o3 ?_ | refine o4 ?_)))
 | refine cF ?_
 | refine om ?_
 | refine an ?_
 | fail) <;> try simp only [zN, zT, zV, zS, zU, vcC, lateX, ex, strp, binA, elems, cells, scalar, eqC, keyA, intsA, lookA, ofVs, mpOf, Nat.reduceBEq, reduceAdd, reduceSub, reduceLT, reduceLeDiff, reduceMul, reduceEqDiff, reduceIte, hMl, List.length_map]))
            all_goals try (exfalso;omega)
            all_goals exact Frz.tupL ⟨Frz.aggL ⟨Frz.pure (by simp),Frz.pure (by simp),Frz.pure (by simp),Frz.ownL (cs:=Hgt.cs) (l:=(O++[h])) (by simp [← hM]; rfl) (by simp) (by decide) (fun a c hc=>by simp at hc; rcases hc with rfl | rfl | rfl <;> simp) (fun a=>rfl),trivial⟩,Frz.pure (by simp),trivial⟩
          · simp only [decide_eq_false hk] at hpk
            have hE:(if highOk (putR h L) then (({ id:=id,x:=sx,y:=sy,heights:=putR h L }:Stn),(0:Int)) else (default,51))=(default,51):=by rw [← hO,if_neg hk]
            simp only [hE]
            (repeat' ((first
 | refine vn rfl ?_
 | simp (disch:=omega) only [wr64,Int.zero_sub]
 | refine bo (fun _=>?_) fun _=>?_
 | refine im fun _=>?_
 | ((repeat refine si ?_); ((first | refine .inl ⟨_,_,_,_,rfl,fun _=>(by first | exact (hpk _ _)),?_⟩ | refine ⟨_,_,_,_,rfl,fun _=>(by first | exact (hpk _ _)),?_⟩); (first | refine o1 ?_ | refine o2 ?_ | refine o3 ?_ | refine o4 ?_)))
 | refine cF ?_
 | refine om ?_
 | refine an ?_
 | fail) <;> try simp only [zN, zT, zV, zS, zU, vcC, lateX, ex, strp, binA, elems, cells, scalar, eqC, keyA, intsA, lookA, ofVs, mpOf, Nat.reduceBEq, reduceAdd, reduceSub, reduceLT, reduceLeDiff, reduceMul, reduceEqDiff, reduceIte, hMl, List.length_map]))
            all_goals try (exfalso;omega)
            all_goals exact Frz.tupL ⟨Frz.aggL ⟨Frz.pure (by simp),Frz.pure (by simp),Frz.pure (by simp),Frz.nil0,trivial⟩,Frz.pure (by simp),trivial⟩
  · rw [if_pos he]
    generalize (stnsE [s]).1=e at ha he
    ((refine Ay @ha ?_;repeat' constructor)<;>intros<;>refine hD_ ?_)
    all_goals try (exfalso;omega)
    all_goals exact Frz.tupL ⟨Frz.aggL ⟨Frz.pure (by simp),Frz.pure (by simp),Frz.pure (by simp),Frz.nil0,trivial⟩,Frz.pure (by simp),trivial⟩
def c105:CF:=⟨26,(jo [jb 4 false] [0,1]
 (.seq (jo [jm 6 0,je 7 6,jm 8 1,je 9 8,jt .neq 10 7 9] [0,1,10]
 (.cond (.t 10) (jo [jb 4 false] [4]
 .ret)
 .skip))
 (.seq (jo [jc 5 0] [0,1,5]
 (.block 0 (.loop (.seq (jo [jm 11 5,jm 12 0,je 13 12,jt .lss 14 11 13] [0,1,5,14]
 (.cond (.t 14) .skip
 (.exit 0)))
 (.seq (.block 1 (.seq (.draw [jm 17 0,jm 18 5,ji 19 3 17 18,jk 20 3 19,jm 21 1,jm 22 5,ji 23 3 21 22,jk 24 3 23,jw 25 (.eqs true [some .i64,some .i64,some .i64] (.t 20) (.t 24))] [] [0,1,5,25])
 (.cond (.t 25) (jo [jb 4 false] [4]
 .ret)
 .skip)))
 (.ops [jm 15 5,ju .add 16 15 1,jm 5 16] [0,1,5]))))))
 (jo [jb 4 true] [4]
 .ret)))),[.t 4]⟩
theorem k105:chkF Tryz.prog Tryz.f105 c105=true:=by kernel_rfl
def c93:CF:=⟨26,(jo [jb 4 false] [0,1]
 (.seq (jo [jm 6 0,je 7 6,jm 8 1,je 9 8,jt .neq 10 7 9] [0,1,10]
 (.cond (.t 10) (jo [jb 4 false] [4]
 .ret)
 .skip))
 (.seq (jo [jc 5 0] [0,1,5]
 (.block 0 (.loop (.seq (jo [jm 11 5,jm 12 0,je 13 12,jt .lss 14 11 13] [0,1,5,14]
 (.cond (.t 14) .skip
 (.exit 0)))
 (.seq (.block 1 (.seq (.draw [jm 17 0,jm 18 5,ji 19 5 17 18,jk 20 5 19,jm 21 1,jm 22 5,ji 23 5 21 22,jk 24 5 23,jw 25 (.eqs true [some .i64,some .i64,some .i64,some .i64,some .i64] (.t 20) (.t 24))] [] [0,1,5,25])
 (.cond (.t 25) (jo [jb 4 false] [4]
 .ret)
 .skip)))
 (.ops [jm 15 5,ju .add 16 15 1,jm 5 16] [0,1,5]))))))
 (jo [jb 4 true] [4]
 .ret)))),[.t 4]⟩
theorem k93:chkF Tryz.prog Tryz.f93 c93=true:=by kernel_rfl
def c59:CF:=⟨52,(jo [jx 2 109 4 0,jx 3 109 4 1,jb 4 false] [2,3]
 (.seq (jo [jf 6 0 2,jl 7 6,jf 8 0 3,jl 9 8,jt .neq 10 7 9,jm 11 10,jd 11 (jf 12 1 2),jd 11 (jl 13 12),jd 11 (jf 14 1 3),jd 11 (jl 15 14),jd 11 (jt .neq 16 13 15),jq 17 11 16,jm 18 17,jd 18 (jf 19 2 2),jd 18 (jl 20 19),jd 18 (jf 21 2 3),jd 18 (jl 22 21),jd 18 (jt .neq 23 20 22),jq 24 18 23,jm 25 24,jd 25 (jf 26 3 2),jd 25 (jl 27 26),jd 25 (je 28 27),jd 25 (jf 29 3 3),jd 25 (jl 30 29),jd 25 (je 31 30),jd 25 (jt .neq 32 28 31),jq 33 25 32] [2,3,33]
 (.cond (.t 33) (jo [jb 4 false] [4]
 .ret)
 .skip))
 (.seq (jo [jc 5 0] [2,3,5]
 (.block 0 (.loop (.seq (jo [jm 34 5,jf 35 3 2,jl 36 35,je 37 36,jt .lss 38 34 37] [2,3,5,38]
 (.cond (.t 38) .skip
 (.exit 0)))
 (.seq (.block 1 (.seq (.draw [jf 41 3 2,jl 42 41,jm 43 5,ji 44 3 42 43,jk 45 3 44,jf 46 3 3,jl 47 46,jm 48 5,ji 49 3 47 48,jk 50 3 49,jw 51 (.eqs true [some .i64,some .i64,some .i64] (.t 45) (.t 50))] [] [2,3,5,51])
 (.cond (.t 51) (jo [jb 4 false] [4]
 .ret)
 .skip)))
 (.ops [jm 39 5,ju .add 40 39 1,jm 5 40] [2,3,5]))))))
 (jo [jb 4 true] [4]
 .ret)))),[.t 4]⟩
theorem k59:chkF Tryz.prog Tryz.f59 c59=true:=by kernel_rfl
def c38:CF:=⟨27,(jo [jb 4 false] [0,1]
 (.seq (jo [jm 6 0,je 7 6,jm 8 1,je 9 8,jt .neq 10 7 9] [0,1,10]
 (.cond (.t 10) (jo [jb 4 false] [4]
 .ret)
 .skip))
 (.seq (jo [jc 5 0] [0,1,5]
 (.block 0 (.loop (.seq (jo [jm 11 5,jm 12 0,je 13 12,jt .lss 14 11 13] [0,1,5,14]
 (.cond (.t 14) .skip
 (.exit 0)))
 (.seq (.block 1 (.seq (.draw [jm 17 0,jm 18 5,ji 19 4 17 18,jk 20 4 19,jm 21 1,jm 22 5,ji 23 4 21 22,jk 24 4 23,jy 25 59 [20,24],jv 26 25] [] [0,1,5,26])
 (.cond (.t 26) (jo [jb 4 false] [4]
 .ret)
 .skip)))
 (.ops [jm 15 5,ju .add 16 15 1,jm 5 16] [0,1,5]))))))
 (jo [jb 4 true] [4]
 .ret)))),[.t 4]⟩
theorem k38:chkF Tryz.prog Tryz.f38 c38=true:=by kernel_rfl
def c40:CF:=⟨70,(jo [jb 4 false] [0,1]
 (.seq (jo [jm 8 0,je 9 8,jm 10 1,je 11 10,jt .neq 12 9 11] [0,1,12]
 (.cond (.t 12) (jo [jb 4 false] [4]
 .ret)
 .skip))
 (.seq (jo [jc 5 0] [0,1,5]
 (.block 0 (.loop (.seq (jo [jm 13 5,jm 14 0,je 15 14,jt .lss 16 13 15] [0,1,5,16]
 (.cond (.t 16) .skip
 (.exit 0)))
 (.seq (.block 1 (jo [jm 19 0,jm 20 5,ji 21 24 19 20,jk 22 24 21,jw 6 (.alloc 72 24 z24),js 24 6 22] [0,1,5,6]
 (jo [jm 23 1,jm 24 5,ji 25 24 23 24,jk 26 24 25,jw 7 (.alloc 72 24 z24),js 24 7 26] [0,1,5,6,7]
 (jo [jf 27 0 6,jk 28 2 27,jf 29 0 7,jk 30 2 29,jw 31 (.eqs true [some .i64,some .i64] (.t 28) (.t 30)),jm 32 31,jd 32 (jf 33 2 6),jd 32 (jl 34 33),jd 32 (jf 35 2 7),jd 32 (jl 36 35),jd 32 (jt .neq 37 34 36),jq 38 32 37,jm 39 38,jd 39 (jf 40 3 6),jd 39 (jl 41 40),jd 39 (jf 42 3 7),jd 39 (jl 43 42),jd 39 (jt .neq 44 41 43),jq 45 39 44,jm 46 45,jd 46 (jf 47 4 6),jd 46 (jk 48 18 47),jd 46 (jf 49 4 7),jd 46 (jk 50 18 49),jd 46 (jy 51 53 [48,50]),jd 46 (jv 52 51),jq 53 46 52,jm 54 53,jd 54 (jf 55 22 6),jd 54 (jl 56 55),jd 54 (jf 57 22 7),jd 54 (jl 58 57),jd 54 (jy 59 105 [56,58]),jd 54 (jv 60 59),jq 61 54 60,jm 62 61,jd 62 (jf 63 23 6),jd 62 (jl 64 63),jd 62 (jf 65 23 7),jd 62 (jl 66 65),jd 62 (jy 67 28 [64,66]),jd 62 (jv 68 67),jq 69 62 68] [0,1,5,69]
 (.cond (.t 69) (jo [jb 4 false] [4]
 .ret)
 .skip)))))
 (.ops [jm 17 5,ju .add 18 17 1,jm 5 18] [0,1,5]))))))
 (jo [jb 4 true] [4]
 .ret)))),[.t 4]⟩
theorem k40:chkF Tryz.prog Tryz.f40 c40=true:=by kernel_rfl
def c27:CF:=⟨31,(jo [jx 2 37 4 0,jx 3 37 4 1,jb 4 false] [2,3]
 (jo [jf 5 0 2,jl 6 5,jf 7 0 3,jl 8 7,jy 9 40 [6,8],jm 10 9,ja 10 (jf 11 1 2),ja 10 (jl 12 11),ja 10 (jf 13 1 3),ja 10 (jl 14 13),ja 10 (jy 15 93 [12,14]),jp 16 10 15,jm 17 16,ja 17 (jf 18 2 2),ja 17 (jl 19 18),ja 17 (jf 20 2 3),ja 17 (jl 21 20),ja 17 (jy 22 38 [19,21]),jp 23 17 22,jm 24 23,ja 24 (jf 25 3 2),ja 24 (jl 26 25),ja 24 (jf 27 3 3),ja 24 (jl 28 27),ja 24 (jy 29 28 [26,28]),jp 30 24 29,jm 4 30] [4]
 .ret)),[.t 4]⟩
theorem k27:chkF Tryz.prog Tryz.f27 c27=true:=by kernel_rfl
theorem sameMk (a b:List Mk) (ha:a.length < 9223372036854775808) (hb:b.length < 9223372036854775808):Pure Tryz.prog 105 [mkS a,mkS b] (bl (decide (a=b))):=by
  refine pB_ Tryz.call105 Tryz.func105 k105 ?_
  unfold c105
  ((refine Au ?_;repeat' constructor)<;>intros<;>refine hD_ ?_)
  · rename_i h
    rw [decide_eq_false fun e=>by subst e; omega]; exact Frz.eq rfl (by simp)
  rename_i hne
  have hlen:a.length=b.length:=by omega
  refine AWPC.loopI 5 a.length (fun i=>a.take i=b.take i) (by simp) ?_ ?_
  · (simp only [zN,zT,zV,zS,zU,Q0,Q1,ex,Q2,Q3,Q4,Q5,Q6,Q7,Q8,Q9,QA,QB,QC,Nat.reduceBEq,reduceAdd,reduceSub,reduceLT,reduceLeDiff,reduceMul,reduceEqDiff,reduceIte]; try simp)
  · intro i hi hI
    by_cases hlt:i < a.length
    · have hx:(a.map Mk.cs).getD i []=Mk.cs (a.getD i mk0):=row _ hlt
      have hy:(b.map Mk.cs).getD i []=Mk.cs (b.getD i mk0):=row _ (by omega)
      have hk:a.getD i mk0=b.getD i mk0↔a.take (i+1)=b.take (i+1):=by
        rw [List.take_add_one,List.take_add_one,hI,getD_lt mk0 hlt,getD_lt mk0 (show i < b.length by omega)]; simp
      generalize a.getD i mk0=x at hx hk
      generalize b.getD i mk0=y at hy hk
      obtain ⟨x1,x2,x3⟩:=x
      obtain ⟨y1,y2,y3⟩:=y
      simp only [Mk.mk.injEq,Sp.mk.injEq] at hk
      ((refine Ax (And.intro @hx @hy) ?_;repeat' constructor)<;>intros<;>refine hD_ ?_)
      all_goals try (exfalso;omega)
      · rename_i h
        rw [decide_eq_false fun e=>by
          have:=hk.2 (by rw [e])
          omega]
        exact Frz.eq rfl (by simp)
      · rename_i h
        exact ⟨⟨i+1,hlt,hk.1 (by omega)⟩,by simp,by simp only; omega⟩
    · obtain rfl:i=a.length:=by omega
      ((refine Au ?_;repeat' constructor)<;>intros<;>refine hD_ ?_)
      all_goals try (exfalso;omega)
      rw [List.take_length,hlen,List.take_length] at hI
      rw [decide_eq_true hI]
      exact Frz.eq rfl (by simp)
theorem sameRd (a b:List Rd) (ha:a.length < 9223372036854775808) (hb:b.length < 9223372036854775808):Pure Tryz.prog 93 [rdS a,rdS b] (bl (decide (a=b))):=by
  refine pB_ Tryz.call93 Tryz.func93 k93 ?_
  unfold c93
  ((refine Au ?_;repeat' constructor)<;>intros<;>refine hD_ ?_)
  · rename_i h
    rw [decide_eq_false fun e=>by subst e; omega]; exact Frz.eq rfl (by simp)
  rename_i hne
  have hlen:a.length=b.length:=by omega
  refine AWPC.loopI 5 a.length (fun i=>a.take i=b.take i) (by simp) ?_ ?_
  · (simp only [zN,zT,zV,zS,zU,Q0,Q1,ex,Q2,Q3,Q4,Q5,Q6,Q7,Q8,Q9,QA,QB,QC,Nat.reduceBEq,reduceAdd,reduceSub,reduceLT,reduceLeDiff,reduceMul,reduceEqDiff,reduceIte]; try simp)
  · intro i hi hI
    by_cases hlt:i < a.length
    · have hx:(a.map Rd.cs).getD i []=Rd.cs (a.getD i rd0):=row _ hlt
      have hy:(b.map Rd.cs).getD i []=Rd.cs (b.getD i rd0):=row _ (by omega)
      have hk:a.getD i rd0=b.getD i rd0↔a.take (i+1)=b.take (i+1):=by
        rw [List.take_add_one,List.take_add_one,hI,getD_lt rd0 hlt,getD_lt rd0 (show i < b.length by omega)]; simp
      generalize a.getD i rd0=x at hx hk
      generalize b.getD i rd0=y at hy hk
      obtain ⟨x1,x2,x3,⟨x4,x5⟩⟩:=x
      obtain ⟨y1,y2,y3,⟨y4,y5⟩⟩:=y
      simp only [Rd.mk.injEq,Sp.mk.injEq] at hk
      ((refine Ax (And.intro @hx @hy) ?_;repeat' constructor)<;>intros<;>refine hD_ ?_)
      all_goals try (exfalso;omega)
      · rename_i h
        rw [decide_eq_false fun e=>by
          have:=hk.2 (by rw [e])
          omega]
        exact Frz.eq rfl (by simp)
      · rename_i h
        exact ⟨⟨i+1,hlt,hk.1 (by omega)⟩,by simp,by simp only; omega⟩
    · obtain rfl:i=a.length:=by omega
      ((refine Au ?_;repeat' constructor)<;>intros<;>refine hD_ ?_)
      all_goals try (exfalso;omega)
      rw [List.take_length,hlen,List.take_length] at hI
      rw [decide_eq_true hI]
      exact Frz.eq rfl (by simp)
theorem sameStn_spec (a b:Stn) (ha:a.heights.length < 9223372036854775808) (hb:b.heights.length < 9223372036854775808):Pure Tryz.prog 59 [.agg a.cs,.agg b.cs] (bl (decide (a=b))):=by
  refine pB_ Tryz.call59 Tryz.func59 k59 ?_
  unfold c59
  obtain ⟨i1,x1,y1,l⟩:=a
  obtain ⟨i2,x2,y2,m⟩:=b
  simp only at ha hb
  have hd:decide ((⟨i1,x1,y1,l⟩:Stn)=⟨i2,x2,y2,m⟩)=decide (i1=i2∧x1=x2∧y1=y2∧l=m):=by rw [decide_eq_decide]; simp
  rw [hd]
  by_cases hg:i1=i2∧x1=x2∧y1=y2∧l.length=m.length
  · obtain ⟨g1,g2,g3,hlen⟩:=hg
    have hd2:decide (i1=i2∧x1=x2∧y1=y2∧l=m)=decide (l=m):=by rw [decide_eq_decide]; simp [g1,g2,g3]
    rw [hd2]
    have hlen':(l.length:Int)=(m.length:Int):=by omega
    ((refine Ax (And.intro @hlen' (And.intro @g1 (And.intro @g2 @g3))) ?_;repeat' constructor)<;>intros<;>refine hD_ ?_)
    all_goals try (exfalso;omega)
    refine AWPC.loopI 5 l.length (fun i=>l.take i=m.take i) (by simp) ?_ ?_
    · (simp only [zN,zT,zV,zS,zU,Q0,Q1,ex,Q2,Q3,Q4,Q5,Q6,Q7,Q8,Q9,QA,QB,QC,Nat.reduceBEq,reduceAdd,reduceSub,reduceLT,reduceLeDiff,reduceMul,reduceEqDiff,reduceIte]; try simp)
    · intro i hi hI
      by_cases hlt:i < l.length
      · have hx:(l.map Hgt.cs).getD i []=Hgt.cs (l.getD i hgt0):=row _ hlt
        have hy:(m.map Hgt.cs).getD i []=Hgt.cs (m.getD i hgt0):=row _ (by omega)
        have hk:l.getD i hgt0=m.getD i hgt0↔l.take (i+1)=m.take (i+1):=by
          rw [List.take_add_one,List.take_add_one,hI,getD_lt hgt0 hlt,getD_lt hgt0 (show i < m.length by omega)]; simp
        generalize l.getD i hgt0=x at hx hk
        generalize m.getD i hgt0=y at hy hk
        obtain ⟨x1,⟨x2,x3⟩⟩:=x
        obtain ⟨y1,⟨y2,y3⟩⟩:=y
        simp only [Hgt.mk.injEq,Sp.mk.injEq] at hk
        ((refine Ax (And.intro @hx @hy) ?_;repeat' constructor)<;>intros<;>refine hD_ ?_)
        all_goals try (exfalso;omega)
        · rename_i h
          rw [decide_eq_false fun e=>by
            have:=hk.2 (by rw [e])
            omega]
          exact Frz.eq rfl (by simp)
        · rename_i h
          exact ⟨⟨i+1,hlt,hk.1 (by omega)⟩,by simp,by simp only; omega⟩
      · obtain rfl:i=l.length:=by omega
        ((refine Au ?_;repeat' constructor)<;>intros<;>refine hD_ ?_)
        all_goals try (exfalso;omega)
        rw [List.take_length,hlen,List.take_length] at hI
        rw [decide_eq_true hI]
        exact Frz.eq rfl (by simp)
  · rw [decide_eq_false (fun h=>hg ⟨h.1,h.2.1,h.2.2.1,by rw [h.2.2.2]⟩)]
    ((refine Au ?_;repeat' constructor)<;>intros<;>refine hD_ ?_)
    all_goals try (exfalso;omega)
    all_goals exact Frz.eq rfl (by simp)
theorem sameStns (a b:List Stn) (ha:stnSz a) (hb:stnSz b):Pure Tryz.prog 38 [snS a,snS b] (bl (decide (a=b))):=by
  refine pB_ Tryz.call38 Tryz.func38 k38 ?_
  unfold c38
  have ha0:=ha.1
  have hb0:=hb.1
  by_cases hlen:a.length=b.length
  · have hlen':(a.length:Int)=(b.length:Int):=by omega
    ((refine Ax @hlen' ?_;repeat' constructor)<;>intros<;>refine hD_ ?_)
    all_goals try (exfalso;omega)
    refine AWPC.loopI 5 a.length (fun i=>a.take i=b.take i) (by simp) ?_ ?_
    · (simp only [zN,zT,zV,zS,zU,Q0,Q1,ex,Q2,Q3,Q4,Q5,Q6,Q7,Q8,Q9,QA,QB,QC,Nat.reduceBEq,reduceAdd,reduceSub,reduceLT,reduceLeDiff,reduceMul,reduceEqDiff,reduceIte]; try simp)
    · intro i hi hI
      by_cases hlt:i < a.length
      · have hx:(a.map Stn.cs).getD i []=Stn.cs (a.getD i default):=row _ hlt
        have hy:(b.map Stn.cs).getD i []=Stn.cs (b.getD i default):=row _ (by omega)
        have hk:a.getD i default=b.getD i default↔a.take (i+1)=b.take (i+1):=by
          rw [List.take_add_one,List.take_add_one,hI,getD_lt default hlt,getD_lt default (show i < b.length by omega)]; simp
        have hc:=sameStn_spec (a.getD i default) (b.getD i default) (ha.2 _ (List.mem_of_getElem? (getD_lt default hlt))) (hb.2 _ (List.mem_of_getElem? (getD_lt default (show i < b.length by omega))))
        by_cases e:a.getD i default=b.getD i default
        · rw [decide_eq_true e] at hc
          have hN:=hk.1 e
          generalize a.getD i default=x at hx hc
          generalize b.getD i default=y at hy hc
          ((refine Az (And.intro @hx @hy) @hc ?_;repeat' constructor)<;>intros<;>refine hD_ ?_)
          all_goals try (exfalso;omega)
          exact ⟨⟨i+1,hlt,hN⟩,by simp,by simp only; omega⟩
        · rw [decide_eq_false e] at hc
          rw [decide_eq_false (fun h:a=b=>e (by rw [h]))]
          generalize a.getD i default=x at hx hc
          generalize b.getD i default=y at hy hc
          ((refine Az (And.intro @hx @hy) @hc ?_;repeat' constructor)<;>intros<;>refine hD_ ?_)
          all_goals try (exfalso;omega)
          exact Frz.eq rfl (by simp)
      · obtain rfl:i=a.length:=by omega
        ((refine Au ?_;repeat' constructor)<;>intros<;>refine hD_ ?_)
        all_goals try (exfalso;omega)
        rw [List.take_length,hlen,List.take_length] at hI
        rw [decide_eq_true hI]
        exact Frz.eq rfl (by simp)
  · rw [decide_eq_false (fun h:a=b=>hlen (by rw [h]))]
    ((refine Au ?_;repeat' constructor)<;>intros<;>refine hD_ ?_)
    all_goals try (exfalso;omega)
    all_goals exact Frz.eq rfl (by simp)
def fld0:Fld:=⟨nm0,0,0,sht0,[],[]⟩
def fldSz (f:Fld):Prop:=shtSz f.sheet∧f.marks.length < 9223372036854775808∧f.names.length < 9223372036854775808
def fldsSz (l:List Fld):Prop:=l.length < 9223372036854775808∧∀ f∈l,fldSz f
theorem sameFld (a b:List Fld) (ha:fldsSz a) (hb:fldsSz b):Pure Tryz.prog 40 [fdS a,fdS b] (bl (decide (a=b))):=by
  refine pB_ Tryz.call40 Tryz.func40 k40 ?_
  unfold c40
  have ha0:=ha.1
  have hb0:=hb.1
  by_cases hlen:a.length=b.length
  · have hlen':(a.length:Int)=(b.length:Int):=by omega
    ((refine Ax @hlen' ?_;repeat' constructor)<;>intros<;>refine hD_ ?_)
    all_goals try (exfalso;omega)
    refine AWPC.loopE (α:={ x:Nat × Sto // x.1≤a.length∧a.take x.1=b.take x.1 }) [5] (fun x=>[(5,n x.1.1)]) (fun x=>x.1.2) (fun x=>a.length - x.1.1) ⟨(0,[]),Nat.zero_le _,by simp⟩ ?_ rfl ?_
    · (simp only [zN,zT,zV,zS,zU,Q0,Q1,ex,Q2,Q3,Q4,Q5,Q6,Q7,Q8,Q9,QA,QB,QC,Nat.reduceBEq,reduceAdd,reduceSub,reduceLT,reduceLeDiff,reduceMul,reduceEqDiff,reduceIte]; try simp)
    · rintro ⟨⟨i,μ⟩,hi,hI⟩
      simp only at hi hI
      by_cases hlt:i < a.length
      · have hx:(a.map Fld.cs).getD i []=Fld.cs (a.getD i fld0):=row _ hlt
        have hy:(b.map Fld.cs).getD i []=Fld.cs (b.getD i fld0):=row _ (by omega)
        have hk:a.getD i fld0=b.getD i fld0↔a.take (i+1)=b.take (i+1):=by
          rw [List.take_add_one,List.take_add_one,hI,getD_lt fld0 hlt,getD_lt fld0 (show i < b.length by omega)]; simp
        have xs:=ha.2 _ (List.mem_of_getElem? (getD_lt fld0 hlt))
        have ys:=hb.2 _ (List.mem_of_getElem? (getD_lt fld0 (show i < b.length by omega)))
        generalize a.getD i fld0=x at hx hk xs
        generalize b.getD i fld0=y at hy hk ys
        have c1:=rSameSheet_spec x.sheet y.sheet xs.1 ys.1
        have c2:=sameMk x.marks y.marks xs.2.1 ys.2.1
        have c3:=sameNm x.names y.names xs.2.2 ys.2.2
        have hk2:(x.name.clerk=y.name.clerk∧x.name.num=y.name.num)∧x.stn=y.stn∧x.week=y.week∧x.sheet=y.sheet∧x.marks=y.marks∧x.names=y.names↔a.take (i+1)=b.take (i+1):=by
          rw [← hk]
          obtain ⟨⟨n1,n2⟩,p1,p2,p3,p4,p5⟩:=x
          obtain ⟨⟨m1,m2⟩,q1,q2,q3,q4,q5⟩:=y
          simp
        by_cases d1:x.sheet=y.sheet
        · rw [decide_eq_true d1] at c1
          by_cases d2:x.marks=y.marks
          · rw [decide_eq_true d2] at c2
            by_cases d3:x.names=y.names
            · rw [decide_eq_true d3] at c3
              have hk3:(x.name.clerk=y.name.clerk∧x.name.num=y.name.num)∧x.stn=y.stn∧x.week=y.week↔a.take (i+1)=b.take (i+1):=by rw [← hk2]; simp [d1,d2,d3]
              clear hk hk2
              ((refine Az (And.intro @hx @hy) (And.intro @c1 (And.intro @c2 @c3)) ?_;repeat' constructor)<;>intros<;>refine hD_ ?_)
              all_goals try (exfalso;omega)
              · rename_i h
                rw [decide_eq_false fun e=>by
                  have:=hk3.2 (by rw [e])
                  omega]
                exact Frz.eq rfl (by simp)
              · rename_i h
                exact ⟨⟨(i+1,μ++[some [⟨72,24,[x.cs],none⟩],some [⟨72,24,[y.cs],none⟩]]),hlt,hk3.1 (by omega)⟩,by simp,by simp,by simp only; omega⟩
            · rw [decide_eq_false d3] at c3
              rw [decide_eq_false (fun h:a=b=>d3 (hk2.2 (by rw [h])).2.2.2.2.2)]
              clear hk hk2
              ((refine Az (And.intro @hx @hy) (And.intro @c1 (And.intro @c2 @c3)) ?_;repeat' constructor)<;>intros<;>refine hD_ ?_)
              all_goals try (exfalso;omega)
              all_goals exact Frz.eq rfl (by simp)
          · rw [decide_eq_false d2] at c2
            rw [decide_eq_false (fun h:a=b=>d2 (hk2.2 (by rw [h])).2.2.2.2.1)]
            clear hk hk2
            ((refine Az (And.intro @hx @hy) (And.intro @c1 (And.intro @c2 @c3)) ?_;repeat' constructor)<;>intros<;>refine hD_ ?_)
            all_goals try (exfalso;omega)
            all_goals exact Frz.eq rfl (by simp)
        · rw [decide_eq_false d1] at c1
          rw [decide_eq_false (fun h:a=b=>d1 (hk2.2 (by rw [h])).2.2.2.1)]
          clear hk hk2
          ((refine Az (And.intro @hx @hy) (And.intro @c1 (And.intro @c2 @c3)) ?_;repeat' constructor)<;>intros<;>refine hD_ ?_)
          all_goals try (exfalso;omega)
          all_goals exact Frz.eq rfl (by simp)
      · obtain rfl:i=a.length:=by omega
        ((refine Au ?_;repeat' constructor)<;>intros<;>refine hD_ ?_)
        all_goals try (exfalso;omega)
        rw [List.take_length,hlen,List.take_length] at hI
        rw [decide_eq_true hI]
        exact Frz.eq rfl (by simp)
  · rw [decide_eq_false (fun h:a=b=>hlen (by rw [h]))]
    ((refine Au ?_;repeat' constructor)<;>intros<;>refine hD_ ?_)
    all_goals try (exfalso;omega)
    all_goals exact Frz.eq rfl (by simp)
def rgrSz (r:Rgr):Prop:=fldsSz r.sheets∧r.reads.length < 9223372036854775808∧stnSz r.stns∧r.confl.length < 9223372036854775808
theorem sameRgr (a b:Rgr) (ha:rgrSz a) (hb:rgrSz b):Pure Tryz.prog 27 [.agg a.cs,.agg b.cs] (bl (decide (a=b))):=by
  refine pB_ Tryz.call27 Tryz.func27 k27 ?_
  unfold c27
  have c1:=sameFld a.sheets b.sheets ha.1 hb.1
  have c2:=sameRd a.reads b.reads ha.2.1 hb.2.1
  have c3:=sameStns a.stns b.stns ha.2.2.1 hb.2.2.1
  have c4:=sameNm a.confl b.confl ha.2.2.2 hb.2.2.2
  have hd:decide (a=b)=(decide (a.sheets=b.sheets) && (decide (a.reads=b.reads) && (decide (a.stns=b.stns) && decide (a.confl=b.confl)))):=by
    rw [Bool.eq_iff_iff]
    cases a; cases b
    simp
  rw [hd]
  clear hd
  generalize decide (a.sheets=b.sheets)=z1 at c1
  generalize decide (a.reads=b.reads)=z2 at c2
  generalize decide (a.stns=b.stns)=z3 at c3
  generalize decide (a.confl=b.confl)=z4 at c4
  clear ha hb
  ((refine Ay (And.intro @c1 (And.intro @c2 (And.intro @c3 @c4))) ?_;repeat' constructor)<;>intros<;>refine hD_ ?_)
  all_goals exact Frz.eq (congrArg bl (by cases z1 <;> cases z2 <;> cases z3 <;> cases z4 <;> rfl)) (by simp)
def c126:CF:=⟨31,(jo [jc 6 0] [0,1,2]
 (.seq (jo [jc 7 0] [0,1,2,7]
 (.block 0 (.loop (.seq (jo [jm 8 7,jm 9 0,je 10 9,jt .lss 11 8 10] [0,1,2,7,11]
 (.cond (.t 11) .skip
 (.exit 0)))
 (.seq (.block 1 (jo [jm 14 0,jm 15 7,ji 16 24 14 15,jf 17 2 16,jl 18 17,jm 19 1,jt .eql 20 18 19,jm 21 20,ja 21 (jm 22 0),ja 21 (jm 23 7),ja 21 (ji 24 24 22 23),ja 21 (jf 25 3 24),ja 21 (jl 26 25),ja 21 (jm 27 2),ja 21 (jt .eql 28 26 27),jp 29 21 28] [0,1,2,7,29]
 (.cond (.t 29) (jo [jm 30 7,jm 6 30] [6]
 .ret)
 .skip)))
 (.ops [jm 12 7,ju .add 13 12 1,jm 7 13] [0,1,2,7]))))))
 (jo [jc 6 (-1)] [6]
 .ret))),[.t 6]⟩
theorem k126:chkF Tryz.prog Tryz.f126 c126=true:=by kernel_rfl
theorem rsheetOf_spec (l:List Fld) (hl:l.length < 9223372036854775808) (s w:Int):Pure Tryz.prog 126 [fdS l,n s,n w] (n (match sheetAt l s w with | some j=>(j:Int) | none=>-1)):=by
  refine pB_ Tryz.call126 Tryz.func126 k126 ?_
  unfold c126
  have hq:=fidx_opt (fun x:Fld=>x.stn == s && x.week == w) l
  obtain ⟨z,hz⟩:∃ z,z=fidx (fun x:Fld=>x.stn == s && x.week == w) 0 l:=⟨_,rfl⟩
  rw [show (match sheetAt l s w with | some j=>(j:Int) | none=>-1)=z from hz ▸ hq.symm]
  ((refine Au ?_;repeat' constructor)<;>intros<;>refine hD_ ?_)
  refine AWPC.loopI 7 l.length (fun i=>fidx (fun x:Fld=>x.stn == s && x.week == w) i (l.drop i)=z) (by rw [hz,List.drop_zero]) ?_ ?_
  · (simp only [zN,zT,zV,zS,zU,Q0,Q1,ex,Q2,Q3,Q4,Q5,Q6,Q7,Q8,Q9,QA,QB,QC,Nat.reduceBEq,reduceAdd,reduceSub,reduceLT,reduceLeDiff,reduceMul,reduceEqDiff,reduceIte]; try simp)
  · intro i hi hI
    by_cases hlt:i < l.length
    · obtain ⟨x,hx⟩:∃ x,l[i]?=some x:=⟨_,List.getElem?_eq_getElem hlt⟩
      rw [drop_cons hx,fidx] at hI
      have hr:(l.map Fld.cs).getD i []=Fld.cs x:=getD_map hx
      by_cases h1:x.stn=s
      · by_cases h2:x.week=w
        · rw [if_pos (by simp [h1,h2])] at hI
          ((refine Ax (And.intro @hr (And.intro @h1 @h2)) ?_;repeat' constructor)<;>intros<;>refine hD_ ?_)
          all_goals try (exfalso;omega)
          all_goals (rw [← hI]; exact Frz.eq rfl (by simp))
        · rw [if_neg (by simp [h2])] at hI
          ((refine Ax (And.intro @hr (And.intro @h1 @h2)) ?_;repeat' constructor)<;>intros<;>refine hD_ ?_)
          all_goals try (exfalso;omega)
          all_goals exact ⟨⟨i+1,hlt,by simpa using hI⟩,by simp,by simp only; omega⟩
      · rw [if_neg (by simp [h1])] at hI
        ((refine Ax (And.intro @hr @h1) ?_;repeat' constructor)<;>intros<;>refine hD_ ?_)
        all_goals try (exfalso;omega)
        all_goals exact ⟨⟨i+1,hlt,by simpa using hI⟩,by simp,by simp only; omega⟩
    · obtain rfl:i=l.length:=by omega
      rw [List.drop_length,fidx] at hI
      ((refine Au ?_;repeat' constructor)<;>intros<;>refine hD_ ?_)
      all_goals try (exfalso;omega)
      all_goals (rw [← hI]; exact Frz.eq rfl (by simp))
end Go.Proofs.YtolgelipcgcbhaaGreat
namespace Go.Proofs.YtolgelipcgcbhaaGreat
open Go.Abs
open Nat (reduceAdd reduceSub reduceLT reduceLeDiff reduceMul reduceEqDiff)
set_option linter.unusedVariables false
set_option linter.unusedSimpArgs false
set_option maxHeartbeats 4000000
set_option maxRecDepth 100000
def c128:CF:=⟨26,(jo [jn 2] [0]
 (jo [jn 3] [0,3]
 (.seq (jo [jc 4 0] [0,3,4]
 (.block 0 (.loop (.seq (jo [jm 6 4,jm 7 0,je 8 7,jt .lss 9 6 8] [0,3,4,9]
 (.cond (.t 9) .skip
 (.exit 0)))
 (.seq (.block 1 (jo [jm 12 0,jm 13 4,ji 14 4 12 13,jk 15 4 14,jw 5 (.alloc 109 4 [.int .i64 0,.int .i64 0,.int .i64 0,.slice none 0 0]),js 4 5 15] [0,3,4,5]
 (jo [jw 16 (.bsl true 66 3 0 [] []),jf 17 3 5,jl 18 17,jw 19 (.app 66 3 24 (.t 16) (.t 18)),jf 20 3 5,js 1 20 19] [0,3,4,5]
 (.ops [jm 21 3,jk 22 4 5,jw 23 (.bsl false 109 4 1 [.int .i64 0,.int .i64 0,.int .i64 0,.slice none 0 0] [(0,4,(.t 22))]),jw 24 (.app 109 4 48 (.t 21) (.t 23)),jm 3 24] [0,3,4]))))
 (.ops [jm 10 4,ju .add 11 10 1,jm 4 11] [0,3,4]))))))
 (jo [jm 25 3,jm 2 25] [2]
 .ret)))),[.t 2]⟩
theorem k128:chkF Tryz.prog Tryz.f128 c128=true:=by kernel_rfl
end Go.Proofs.YtolgelipcgcbhaaGreat
namespace Go.Proofs.YtolgelipcgcbhaaGreat
open Go.Abs
open Nat (reduceAdd reduceSub reduceLT reduceLeDiff reduceMul reduceEqDiff)
open Go.Abs renaming vcC→Q0,lateX→Q1,strp→Q2,binA→Q3,elems→Q4,cells→Q5,scalar→Q6,eqC→Q7,keyA→Q8,intsA→Q9,lookA→QA,ofVs→QB,mpOf→QC
set_option linter.unusedVariables false
set_option linter.unusedSimpArgs false
set_option maxHeartbeats 4000000
set_option maxRecDepth 100000
theorem someStns_does (l:List Stn) (hl:l.length < 1099511627776) (hh:∀ s∈l,s.heights.length * 24≤140737488355328) (σ:Sto):Does Tryz.prog 128 [snS l] σ (OwnAt σ 109 4 (l.map Stn.cs)):=by
  refine dB_ Tryz.call128 Tryz.func128 k128 ?_
  unfold c128
  ((refine Au ?_;repeat' constructor)<;>intros<;>refine hD_ ?_)
  refine AWPC.own0 109 4 3 rfl ?_
  obtain ⟨G,hG⟩:∃ G,G=List.length σ:=⟨_,rfl⟩
  rw [← hG]
  refine AWPC.loopE (α:={ x:Nat × Sto // x.1≤l.length }) [3,4] (fun x=>[(3,.own G 0 x.1.1),(4,n x.1.1)]) (fun x=>σ++some [⟨109,4,(l.take x.1.1).map Stn.cs,none⟩]::x.1.2) (fun x=>l.length - x.1.1) ⟨(0,[]),Nat.zero_le _⟩ ?_ rfl ?_
  · (simp only [zN,zT,zV,zS,zU,Q0,Q1,ex,Q2,Q3,Q4,Q5,Q6,Q7,Q8,Q9,QA,QB,QC,Nat.reduceBEq,reduceAdd,reduceSub,reduceLT,reduceLeDiff,reduceMul,reduceEqDiff,reduceIte]; try simp)
  · rintro ⟨⟨i,μ⟩,hi⟩
    simp only at hi ⊢
    generalize hM:(l.take i).map Stn.cs=M
    have hMl:M.length=i:=by rw [← hM]; simp; omega
    by_cases hlt:i < l.length
    · have hg:=getD_lt (default:Stn) hlt
      have hx:(l.map Stn.cs).getD i []=Stn.cs (l.getD i default):=row default hlt
      have hs:=hh _ (List.mem_of_getElem? hg)
      have hN:(l.take (i+1)).map Stn.cs=M++[Stn.cs (l.getD i default)]:=by rw [List.take_add_one,hg,← hM]; simp
      generalize l.getD i default=x at hx hs hN
      obtain ⟨W,hW⟩:∃ W,W=σ++some [⟨109,4,M,none⟩]::μ:=⟨_,rfl⟩
      have hA:∀ ν,Sto.at (W++ν) G 0=some ⟨109,4,M,none⟩:=fun ν=>by rw [hW,hG,List.append_assoc,at_app0]; rfl
      have hA0:Sto.at W G 0=some ⟨109,4,M,none⟩:=by rw [hW,hG,at_app0]; rfl
      have hB:∀ (o':Ob) (ν:Sto),Sto.upd (W++ν) G 0 o'=(σ++some [o']::μ)++ν:=fun o' ν=>by rw [hW,hG]; simp [Sto.upd]
      rw [← hW]
      iterate 7
        ((first
 | refine vn rfl ?_
 | simp (disch:=omega) only [wr64,Int.zero_sub]
 | refine bo (fun _=>?_) fun _=>?_
 | refine im fun _=>?_
 | refine cF ?_
 | refine cG ?_
 | refine om ?_
 | refine an ?_
 | fail) <;> try simp only [zN, zT, zV, zS, zU, vcC, lateX, ex, strp, binA, elems, cells, scalar, eqC, keyA, intsA, lookA, ofVs, mpOf, Nat.reduceBEq, reduceAdd, reduceSub, reduceLT, reduceLeDiff, reduceMul, reduceEqDiff, reduceIte, hx, hMl, List.length_map, hA, hA0])
        all_goals try (exfalso;omega)
      refine ⟨⟨rowsL (cs:=Hgt.cs) (k:=3) (fun a=>rfl) x.heights,hs⟩,?_⟩
      refine AWPC.freezeC (f:=List.length W+1) (n:=x.heights.length) (h:=List.length W+0) (e:=0) (j:=3) (o:=⟨66,3,x.heights.map Hgt.cs,none⟩) ((at_app W _ 1 0).trans rfl) (by simp) (show (3:Nat)≠0 by decide) ((at_app W _ 0 0).trans rfl) (by omega) rfl (show (0:Nat) < 1 by decide) rfl ?_
      refine AWPC.sto (σ':=W++[some [⟨109,4,[x.cs],none⟩],none]) (by rw [gone_app,upd_app]; rfl) ?_
      have hC:∀ (ν:Sto),Sto.at (W++ν) (List.length W) 0=Sto.at ν 0 0:=fun ν=>at_app W ν 0 0
      ((refine Ax (And.intro @hMl (And.intro @hA (And.intro @hB @hC))) ?_;repeat' constructor)<;>intros<;>refine hD_ ?_)
      all_goals try (exfalso;omega)
      exact ⟨⟨(i+1,μ++[some [⟨109,4,[x.cs],none⟩],none]),hlt⟩,⟨by simp,by simp⟩,by simp [hN],by simp only; omega⟩
    · obtain rfl:i=l.length:=by omega
      rw [List.take_length] at hM
      ((refine Au ?_;repeat' constructor)<;>intros<;>refine hD_ ?_)
      all_goals try (exfalso;omega)
      all_goals exact .mk μ (by simp [hG]) (by rw [hM])
end Go.Proofs.YtolgelipcgcbhaaGreat
