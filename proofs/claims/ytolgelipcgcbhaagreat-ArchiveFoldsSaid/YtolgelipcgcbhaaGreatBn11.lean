/- Part 11: contracts. -/
import Derived.Test.YtolgelipcgcbhaaGreatBn10
namespace Go.Abs
set_option linter.unusedVariables false
set_option linter.unusedSimpArgs false
theorem cmpN_as {a b:Nm} (h:cmpN a b < 0):¬ cmpN b a < 0:=by
  have h1:=@cmpN_lt a b
  have h2:=@cmpN_lt b a
  omega
theorem setE_len {b:Bse} {l:List Nt} (h:(setE b l).1=0):l.length≤400:=(setE_ok h).2.1
section
end
theorem stand_filter {l:List Nt} (hn:(l.map Nt.nm).Nodup):srtT (l.filter fun a=>a.kind != 7 && !goneT l a.nm)=Zf l:=by
  have hs:((l.filter fun a=>a.kind != 7 && !goneT l a.nm).map Nt.nm).Nodup:=hn.sublist (List.filter_sublist.map _)
  refine (srtT_one hs ?_ ?_).symm
  · unfold Zf
    have h:=(srtT_perm (l.filter fun a=>a.kind != 7)).filter (fun a=>!goneT l a.nm)
    refine h.trans ?_
    rw [List.filter_filter]
    refine List.Perm.of_eq (List.filter_congr fun a _=>?_)
    rw [Bool.and_comm]
  · unfold Zf
    exact (srtT_le _).sublist List.filter_sublist
end Go.Abs
namespace Go.Proofs.YtolgelipcgcbhaaGreat
open Go.Abs
open Nat (reduceAdd reduceSub reduceLT reduceLeDiff reduceMul reduceEqDiff)
set_option linter.unusedVariables false
set_option linter.unusedSimpArgs false
set_option maxHeartbeats 4000000
set_option maxRecDepth 100000
def c82:CF:=⟨20,(jo [jx 2 26 6 0,jc 4 0] [1,2]
 (jo [jk 8 6 2,jm 9 1,jy 10 42 [8,9],jm 7 10,jz 11 0 7,jz 12 1 7,jm 5 11,jm 6 12] [5]
 (.seq (jo [jm 13 5,ju .eql 14 13 0,jm 15 14,jd 15 (jm 16 5),jd 15 (ju .eql 17 16 100),jq 18 15 17] [5,18]
 (.cond (.t 18) (jo [jm 19 5,jm 4 19] [4]
 .ret)
 .skip))
 (jo [jc 4 1] [4]
 .ret)))),[.t 4]⟩
theorem k82:chkF Tryz.prog Tryz.f82 c82=true:=by kernel_rfl
theorem least {P:Nat→Prop} (h:∃ k,P k):∃ k,P k∧∀ j,j < k→¬ P j:=by
  obtain ⟨k,hk⟩:=h
  induction k using Nat.strongRecOn with
  | ind k ih =>
    by_cases hx:∃ j,j < k∧P j
    · obtain ⟨j,hj,hp⟩:=hx
      exact ih j hj hp
    · exact ⟨k,hk,fun j hj hp=>hx ⟨j,hj,hp⟩⟩
theorem firstE_in {p:Nat→Int} {m:Nat} (q:Int→Prop) (h0:q 0) (h:∀ j,q (p j)):q (firstE p m).1:=by
  by_cases hz:∀ j,j < m→p j=0
  · rw [firstE_none hz]; exact h0
  · have:∃ j,j < m∧p j≠0:=by
      refine Classical.byContradiction fun hn=>hz fun j hj=>Classical.byContradiction fun hp=>hn ⟨j,hj,hp⟩
    obtain ⟨k,⟨hk,hp⟩,hmin⟩:=least this
    rw [firstE_at hk (fun j hj=>Classical.byContradiction fun hn=>hmin j hj ⟨by omega,hn⟩) hp]
    exact h k
theorem set_base (b:Bse) (l:List Nt):(setE b l).1=100↔¬ b.ok:=by
  unfold setE
  by_cases h:b.ok
  · rw [if_neg (fun hn=>hn h)]
    refine ⟨fun e=>?_,fun hn=>absurd h hn⟩
    by_cases h4:400 < l.length
    · rw [if_pos h4] at e; exact absurd e (by decide)
    · rw [if_neg h4] at e
      refine absurd e (firstE_in (fun z=>z≠100) (by decide) fun j=>?_)
      unfold ntE
      simp only
      repeat' split
      all_goals decide
  · rw [if_pos h]; exact ⟨fun _=>h,fun _=>rfl⟩
theorem set_asked (b:Bse) (l:List Nt):askedE b [l]=if (setE b l).1=0∨(setE b l).1=100 then (setE b l).1 else 1:=by
  have h:=set_base b l
  unfold askedE
  by_cases hb:b.ok
  · have h1:¬ (setE b l).1=100:=fun e=>h.1 e hb
    rw [if_neg (fun hn=>hn hb)]
    by_cases h0:(setE b l).1=0
    · simp [h0]
    · have:((setE b l).1 == 0)=false:=by simpa using h0
      simp [h0,h1,this]
  · rw [if_pos hb,h.2 hb]; simp
theorem rSet_spec (b:Bse) (hb:bseSz b) (l:List Nt) (hl:setSz l):Pure Tryz.prog 82 [.agg b.cs,ntS l] (n (askedE b [l])):=by
  refine pB_ Tryz.call82 Tryz.func82 k82 ?_
  unfold c82
  have h1:=rCheckSet_spec b hb l hl
  have h2:=set_asked b l
  generalize (setE b l).1=e at h1 h2
  generalize (setE b l).2=v at h1
  rw [h2]
  ((refine Ay @h1 ?_;repeat' constructor)<;>intros<;>refine hD_ ?_)
  all_goals try (exfalso;omega)
  · rw [if_pos (by omega)]; exact Frz.eq rfl (by simp)
  · rw [if_neg (by omega)]; exact Frz.eq rfl (by simp)
end Go.Proofs.YtolgelipcgcbhaaGreat
namespace Go.Proofs.YtolgelipcgcbhaaGreat
open Go.Abs
open Nat (reduceAdd reduceSub reduceLT reduceLeDiff reduceMul reduceEqDiff)
open Go.Abs renaming vcC→Q0,lateX→Q1,strp→Q2,binA→Q3,elems→Q4,cells→Q5,scalar→Q6,eqC→Q7,keyA→Q8,intsA→Q9,lookA→QA,ofVs→QB,mpOf→QC
set_option linter.unusedVariables false
set_option linter.unusedSimpArgs false
set_option maxHeartbeats 4000000
set_option maxRecDepth 100000
def c139:CF:=⟨20,(jo [jn 2] [0]
 (jo [jn 3] [0,3]
 (.seq (jo [jc 4 0] [0,3,4]
 (.block 0 (.loop (.seq (jo [jm 5 4,jm 6 0,je 7 6,jt .lss 8 5 7] [0,3,4,8]
 (.cond (.t 8) .skip
 (.exit 0)))
 (.seq (.block 1 (.ops [jm 11 3,jm 12 0,jm 13 4,ji 14 38 12 13,jk 15 38 14,jy 16 92 [15],jw 17 (.bsl false 29 2 1 [.int .i64 0,.int .i64 0] [(0,2,(.t 16))]),jw 18 (.app 29 2 16 (.t 11) (.t 17)),jm 3 18] [0,3,4]))
 (.ops [jm 9 4,ju .add 10 9 1,jm 4 10] [0,3,4]))))))
 (jo [jm 19 3,jm 2 19] [2]
 .ret)))),[.t 2]⟩
theorem k139:chkF Tryz.prog Tryz.f139 c139=true:=by kernel_rfl
def c160:CF:=⟨49,(jo [jn 2] [0]
 (jo [jn 3] [0,3]
 (.seq (jo [jc 4 0] [0,3,4]
 (.block 0 (.loop (.seq (jo [jm 7 4,jm 8 0,je 9 8,jt .lss 10 7 9] [0,3,4,10]
 (.cond (.t 10) .skip
 (.exit 0)))
 (.seq (.block 1 (jo [jm 13 3,je 14 13,jm 5 14] [0,3,4,5]
 (.seq (.block 2 (.loop (.seq (.seq (.draw [jm 15 5,ju .gtr 16 15 0,jm 17 16,ja 17 (jm 18 0),ja 17 (jm 19 4),ja 17 (ji 20 38 18 19),ja 17 (jk 21 38 20),ja 17 (jm 22 3),ja 17 (jm 23 5),ja 17 (ju .sub 24 23 1),ja 17 (ji 25 38 22 24),ja 17 (jk 26 38 25),ja 17 (jy 27 48 [21,26]),jp 28 17 27] [] [0,3,4,5,28])
 (.cond (.t 28) .skip
 (.exit 2)))
 (.block 3 (.ops [jm 29 5,ju .sub 30 29 1,jm 5 30] [0,3,4,5])))))
 (jo [jw 31 (.bsl true 68 38 0 [] []),jm 32 3,jm 33 5,jw 34 (.slice 38 (.t 32) none (some (.t 33))),jw 35 (.app 68 38 368 (.t 31) (.t 34)),jm 6 35] [0,3,4,5,6]
 (jo [jm 36 6,jm 37 0,jm 38 4,ji 39 38 37 38,jk 40 38 39,jw 41 (.bsl false 68 38 1 z38 [(0,38,(.t 40))]),jw 42 (.app 68 38 368 (.t 36) (.t 41)),jm 6 42] [0,3,4,5,6]
 (.ops [jm 43 6,jm 44 3,jm 45 5,jw 46 (.slice 38 (.t 44) (some (.t 45)) none),jw 47 (.app 68 38 368 (.t 43) (.t 46)),jm 3 47] [0,3,4]))))))
 (.ops [jm 11 4,ju .add 12 11 1,jm 4 12] [0,3,4]))))))
 (jo [jm 48 3,jm 2 48] [2]
 .ret)))),[.t 2]⟩
theorem k160:chkF Tryz.prog Tryz.f160 c160=true:=by kernel_rfl
def c91:CF:=⟨58,(jo [jn 2] [0]
 (jo [jn 3] [0,3]
 (.seq (jo [jc 4 0] [0,3,4]
 (.block 0 (.loop (.seq (jo [jm 7 4,jm 8 0,je 9 8,jt .lss 10 7 9] [0,3,4,10]
 (.cond (.t 10) .skip
 (.exit 0)))
 (.seq (.block 1 (jo [jm 13 0,jm 14 4,ji 15 38 13 14,jf 16 4 15,jl 17 16,ju .eql 18 17 7,jm 5 18] [0,3,4,5]
 (.seq (jo [jc 6 0] [0,3,4,5,6]
 (.block 2 (.loop (.seq (jo [jm 19 6,jm 20 0,je 21 20,jt .lss 22 19 21] [0,3,4,5,6,22]
 (.cond (.t 22) .skip
 (.exit 2)))
 (.seq (.block 3 (.draw [jm 25 5,jm 26 25,jd 26 (jm 27 0),jd 26 (jm 28 6),jd 26 (ji 29 38 27 28),jd 26 (jf 30 4 29),jd 26 (jl 31 30),jd 26 (ju .eql 32 31 7),jd 26 (jm 33 32),ja 33 (jm 34 0),ja 33 (jm 35 6),ja 33 (ji 36 38 34 35),ja 33 (jf 37 36 36),ja 33 (jk 38 2 37),ja 33 (jm 39 0),ja 33 (jm 40 4),ja 33 (ji 41 38 39 40),ja 33 (jk 42 38 41),ja 33 (jy 43 92 [42]),⟨some 44,.eqs false [some .i64,some .i64] (.t 38) (.t 43),some (33,true)⟩,jd 26 (jp 45 33 44),jq 46 26 45] [jm 5 46] [0,3,4,5,6]))
 (.ops [jm 23 6,ju .add 24 23 1,jm 6 24] [0,3,4,5,6]))))))
 (jo [jm 47 5,jv 48 47] [0,3,4,48]
 (.cond (.t 48) (.ops [jm 49 3,jm 50 0,jm 51 4,ji 52 38 50 51,jk 53 38 52,jw 54 (.bsl false 68 38 1 z38 [(0,38,(.t 53))]),jw 55 (.app 68 38 368 (.t 49) (.t 54)),jm 3 55] [0,3,4])
 .skip)))))
 (.ops [jm 11 4,ju .add 12 11 1,jm 4 12] [0,3,4]))))))
 (jo [jm 56 3,jy 57 160 [56],jm 2 57] [2]
 .ret)))),[.t 2]⟩
theorem k91:chkF Tryz.prog Tryz.f91 c91=true:=by kernel_rfl
theorem AWPC.nil0 {P:Program} {N:Nat} {rd:Option Nat} {K:Kont} {env:Env} {σ:Sto} {c:C} (k t:Nat) (ht:gt env t=.v (.slice none 0 0)) (h:AWPC P N rd c K ((t,.sl k [])::env) σ):AWPC P N rd c K env σ:=by
  intro code hc n0 X β a w hst
  refine h code hc n0 X β a w { hst with ev:=fun s=>?_ }
  simp only [gt]
  by_cases hs:t=s
  · subst hs
    simp only [beq_self_eq_true,cond_true]
    have:=hst.ev t
    rw [ht] at this
    exact this.nil
  · have:(t == s)=false:=by simpa using hs
    simp only [this,cond_false]
    exact hst.ev s
theorem rNames_spec (l:List Nt) (hl:l.length < 4294967296):Pure Tryz.prog 139 [ntS l] (nmS (l.map Nt.nm)):=by
  refine pB_ Tryz.call139 Tryz.func139 k139 ?_
  unfold c139
  ((refine Au ?_;repeat' constructor)<;>intros<;>refine hD_ ?_)
  refine AWPC.own0 29 2 3 rfl ?_
  refine AWPC.loopE (α:={ x:Nat × Sto // x.1≤l.length }) [3,4] (fun x=>[(3,.own 0 0 x.1.1),(4,n x.1.1)]) (fun x=>some [⟨29,2,((l.take x.1.1).map Nt.nm).map Nm.cs,none⟩]::x.1.2) (fun x=>l.length - x.1.1) ⟨(0,[]),Nat.zero_le _⟩ ?_ rfl ?_
  · (simp only [zN,zT,zV,zS,zU,Q0,Q1,ex,Q2,Q3,Q4,Q5,Q6,Q7,Q8,Q9,QA,QB,QC,Nat.reduceBEq,reduceAdd,reduceSub,reduceLT,reduceLeDiff,reduceMul,reduceEqDiff,reduceIte]; try simp)
  · rintro ⟨⟨i,μ⟩,hi⟩
    simp only at hi
    generalize hM:((l.take i).map Nt.nm).map Nm.cs=M
    have hMl:M.length=i:=by rw [← hM]; simp; omega
    by_cases hlt:i < l.length
    · have hx:(l.map Nt.cs).getD i []=Nt.cs (l.getD i nt0):=row nt0 hlt
      have hN:((l.take (i+1)).map Nt.nm).map Nm.cs=M++[(l.getD i nt0).nm.cs]:=by rw [List.take_add_one,getD_lt nt0 hlt,← hM]; simp
      have hc:=rName_spec (l.getD i nt0)
      generalize l.getD i nt0=x at hx hN hc
      ((refine Az (And.intro @hx @hMl) @hc ?_;repeat' constructor)<;>intros<;>refine hD_ ?_)
      all_goals try (exfalso;omega)
      exact ⟨⟨(i+1,μ),hlt⟩,by simp,by simpa using hN.symm,by simp only; omega⟩
    · obtain rfl:i=l.length:=by omega
      rw [List.take_length] at hM
      ((refine Au ?_;repeat' constructor)<;>intros<;>refine hD_ ?_)
      all_goals try (exfalso;omega)
      all_goals exact Frz.ownL (cs:=Nm.cs) (by rw [hM]; rfl) (by simp) (by decide) (fun a=>by simp) (fun a=>rfl)
theorem ins_at {x:Nt}:∀ {o:List Nt} {k:Nat},o.Pairwise (fun a b=>0≤cmpT b a)→k≤o.length→(∀ j,k≤j→j < o.length→cmpT x (o.getD j nt0) < 0)→(0 < k→¬ cmpT x (o.getD (k - 1) nt0) < 0)→insT x o=o.take k++x::o.drop k
  | [],k,_,hk,_,_=>by
    obtain rfl:k=0:=by simpa using hk
    rfl
  | y::r,0,_,_,h1,_=>by
    have:cmpT x y < 0:=h1 0 (Nat.le_refl _) (by simp)
    unfold insT
    rw [if_pos this]; rfl
  | y::r,k+1,hs,hk,h1,h2=>by
    rw [List.pairwise_cons] at hs
    have hy:¬ cmpT x y < 0:=fun h=>by
      have h3:=h2 (Nat.succ_pos _)
      cases k with
      | zero=>exact h3 h
      | succ k =>
        have hkr:k < r.length:=by simp only [List.length_cons] at hk; omega
        have h4:0≤cmpT (r.getD k nt0) y:=hs.1 _ (List.mem_of_getElem? (getD_lt nt0 hkr))
        have h5:¬ cmpT x (r.getD k nt0) < 0:=by simpa using h3
        rw [cmpT_lt] at h h5
        have h6:¬ cmpT (r.getD k nt0) y < 0:=by omega
        rw [cmpT_lt] at h6
        omega
    unfold insT
    rw [if_neg hy,List.take_succ_cons,List.drop_succ_cons,List.cons_append]
    congr 1
    refine ins_at hs.2 (by simpa using hk) (fun j hj hjl=>?_) (fun h0=>?_)
    · have:=h1 (j+1) (by omega) (by simpa using hjl)
      simpa using this
    · have:=h2 (Nat.succ_pos _)
      obtain ⟨m,rfl⟩:∃ m,k=m+1:=⟨k - 1,by omega⟩
      simpa using this
theorem srtT_next {l:List Nt} {i:Nat} {a:Nt} (h:l[i]?=some a):srtT (l.take (i+1))=insT a (srtT (l.take i)):=by
  unfold srtT
  rw [List.take_add_one,h,Option.toList_some,List.foldl_append]; rfl
theorem rOrdered_spec (l:List Nt) (hl:l.length < 4294967296):Pure Tryz.prog 160 [ntS l] (ntS (srtT l)):=by
  refine pB_ Tryz.call160 Tryz.func160 k160 ?_
  unfold c160
  ((refine Au ?_;repeat' constructor)<;>intros<;>refine hD_ ?_)
  refine AWPC.nil0 38 3 rfl ?_
  refine AWPC.loopE (α:={ x:Nat × Sto // x.1≤l.length }) [3,4] (fun x=>[(3,ntS (srtT (l.take x.1.1))),(4,n x.1.1)]) (fun x=>x.1.2) (fun x=>l.length - x.1.1) ⟨(0,[]),Nat.zero_le _⟩ ?_ rfl ?_
  · (simp only [zN,zT,zV,zS,zU,Q0,Q1,ex,Q2,Q3,Q4,Q5,Q6,Q7,Q8,Q9,QA,QB,QC,Nat.reduceBEq,reduceAdd,reduceSub,reduceLT,reduceLeDiff,reduceMul,reduceEqDiff,reduceIte]; try simp)
    rfl
  · rintro ⟨⟨i,μ⟩,hi⟩
    simp only at hi
    by_cases hlt:i < l.length
    · have ha:=getD_lt nt0 hlt
      have hx:(l.map Nt.cs).getD i []=Nt.cs (l.getD i nt0):=row nt0 hlt
      have hN:=srtT_next ha
      have hsr:=srtT_le (l.take i)
      have hol:(srtT (l.take i)).length=i:=by rw [(srtT_perm _).length_eq,List.length_take]; omega
      have hins:=@ins_at (l.getD i nt0) (srtT (l.take i))
      generalize l.getD i nt0=x at hx hN hins ha
      generalize srtT (l.take i)=o at hsr hN hol hins
      ((refine Au ?_;repeat' constructor)<;>intros<;>refine hD_ ?_)
      all_goals try (exfalso;omega)
      refine AWPC.loopS (α:={ k:Nat // k≤i∧∀ j,k≤j→j < i→cmpT x (o.getD j nt0) < 0 }) [5] (fun k=>[(5,n k.1)]) (fun k=>k.1) ⟨i,Nat.le_refl _,fun j h1 h2=>by omega⟩ ?_ ?_
      · (simp only [zN,zT,zV,zS,zU,Q0,Q1,ex,Q2,Q3,Q4,Q5,Q6,Q7,Q8,Q9,QA,QB,QC,Nat.reduceBEq,reduceAdd,reduceSub,reduceLT,reduceLeDiff,reduceMul,reduceEqDiff,reduceIte]; try simp)
        omega
      · rintro ⟨k,hk,hI⟩
        try simp only at hk hI
        have fin:(0 < k→¬ cmpT x (o.getD (k - 1) nt0) < 0)→insT x o=o.take k++x::o.drop k:=fun h=>hins hsr (by omega) (fun j h1 h2=>hI j h1 (by omega)) h
        by_cases h0:0 < k
        · have hrow:(o.map Nt.cs).getD ((k:Int) - 1).toNat []=Nt.cs (o.getD (k - 1) nt0):=by
            rw [show ((k:Int) - 1).toNat=k - 1 by omega]; exact row nt0 (by omega)
          have hb:=rBefore_spec x (o.getD (k - 1) nt0)
          by_cases hc:cmpT x (o.getD (k - 1) nt0) < 0
          · rw [decide_eq_true hc] at hb
            generalize hy:o.getD (k - 1) nt0=y at hrow hb hc
            ((refine Az (And.intro @hx @hrow) @hb ?_;repeat' constructor)<;>intros<;>refine hD_ ?_)
            all_goals try (exfalso;omega)
            refine ⟨⟨k - 1,by omega,fun j h1 h2=>?_⟩,?_,by simp only; omega⟩
            · rcases (show j=k - 1∨k≤j by omega) with rfl | h3
              · rw [hy]; exact hc
              · exact hI j h3 h2
            · simp; omega
          · have hF:=fin fun _=>hc
            rw [decide_eq_false hc] at hb
            generalize o.getD (k - 1) nt0=y at hrow hb
            clear hins fin hsr
            iterate 5
              ((first
 | refine vn rfl ?_
 | simp (disch:=omega) only [wr64,Int.zero_sub]
 | refine bo (fun _=>?_) fun _=>?_
 | refine im fun _=>?_
 | ((repeat refine si ?_); (first | ((first | refine .inl ⟨_,_,_,_,rfl,fun _=>pu hb,?_⟩ | refine ⟨_,_,_,_,rfl,fun _=>pu hb,?_⟩); (first | refine o1 ?_ | refine o2 ?_ | refine o3 ?_ | refine o4 ?_)) | refine .inl ⟨_,_,_,_,rfl,pu hb,?_⟩))
 | refine cF ?_
 | refine om ?_
 | refine an ?_
 | fail) <;> try simp only [zN, zT, zV, zS, zU, vcC, lateX, ex, strp, binA, elems, cells, scalar, eqC, keyA, intsA, lookA, ofVs, mpOf, Nat.reduceBEq, reduceAdd, reduceSub, reduceLT, reduceLeDiff, reduceMul, reduceEqDiff, reduceIte, hx, hrow, hol, List.length_map])
            clear hI hc hb hrow h0
            obtain ⟨P,hP⟩:∃ P,P=o.take k:=⟨_,rfl⟩
            obtain ⟨Q,hQ⟩:∃ Q,Q=o.drop k:=⟨_,rfl⟩
            have hPm:List.take k (o.map Nt.cs)=P.map Nt.cs:=by rw [hP,List.map_take]
            have hQm:List.drop k (List.take i (o.map Nt.cs))=Q.map Nt.cs:=by rw [hQ,List.map_drop,List.take_of_length_le (by rw [List.length_map]; omega)]
            have hPl:P.length=k:=by rw [hP,List.length_take]; omega
            have hQl:Q.length=i - k:=by rw [hQ,List.length_drop]; omega
            have hPr:∀ e,e < k→((P.map Nt.cs).getD e []).length=38:=fun e he=>by rw [row nt0 (by omega)]; rfl
            have hQr:∀ e,e < i - k→((Q.map Nt.cs).getD e []).length=38:=fun e he=>by rw [row nt0 (by omega)]; rfl
            rw [← hP,← hQ] at hF
            clear hP hQ
            iterate 2
              ((first
 | refine vn rfl ?_
 | simp (disch:=omega) only [wr64,Int.zero_sub]
 | refine bo (fun _=>?_) fun _=>?_
 | refine im fun _=>?_
 | refine cF ?_
 | refine om ?_
 | refine an ?_
 | fail) <;> try simp only [zN, zT, zV, zS, zU, vcC, lateX, ex, strp, binA, elems, cells, scalar, eqC, keyA, intsA, lookA, ofVs, mpOf, Nat.reduceBEq, reduceAdd, reduceSub, reduceLT, reduceLeDiff, reduceMul, reduceEqDiff, reduceIte, hx, hPm, hQm, hPl, hQl, hol, List.length_map, Option.toList, List.append_nil, List.nil_append, List.cons_append])
            refine ⟨⟨hPr,by omega⟩,?_⟩
            iterate 5
              ((first
 | refine vn rfl ?_
 | simp (disch:=omega) only [wr64,Int.zero_sub]
 | refine bo (fun _=>?_) fun _=>?_
 | refine im fun _=>?_
 | refine cF ?_
 | refine om ?_
 | refine an ?_
 | fail) <;> try simp only [zN, zT, zV, zS, zU, vcC, lateX, ex, strp, binA, elems, cells, scalar, eqC, keyA, intsA, lookA, ofVs, mpOf, Nat.reduceBEq, reduceAdd, reduceSub, reduceLT, reduceLeDiff, reduceMul, reduceEqDiff, reduceIte, hx, hPm, hQm, hPl, hQl, hol, List.length_map, Option.toList, List.append_nil, List.nil_append, List.cons_append])
            refine ⟨⟨hQr,by omega⟩,?_⟩
            refine AWPC.freeze1 (f:=μ.length) (t:=3) (o:=⟨68,38,(P++x::Q).map Nt.cs,none⟩) rfl (by rw [at_app0]; simp [at_cons0]) (by simp; omega) (show (38:Nat)≠0 by decide) ?_
            rw [← hF,← hN]
            generalize gone _ _=ν
            ((refine Au ?_;repeat' constructor)<;>intros<;>refine hD_ ?_)
            all_goals try (exfalso;omega)
            all_goals exact ⟨⟨(i+1,ν),hlt⟩,by simp,rfl,by simp only; omega⟩
        · have hF:=fin fun h=>absurd h h0
          have hg0:¬ (0:Int) < (k:Int):=by omega
          have hrw:((o.map Nt.cs).getD ((k:Int) - 1).toNat []=[])∨∃ y:Nt,(o.map Nt.cs).getD ((k:Int) - 1).toNat []=y.cs:=by
            by_cases h:((k:Int) - 1).toNat < o.length
            · exact .inr ⟨_,row nt0 h⟩
            · exact .inl (by rw [List.getD_eq_getElem?_getD,List.getElem?_eq_none (by rw [List.length_map]; omega)]; rfl)
          rcases hrw with hrow | ⟨y,hrow⟩
          all_goals
            iterate 5
              ((first
 | refine vn rfl ?_
 | simp (disch:=omega) only [wr64,Int.zero_sub]
 | refine bo (fun _=>?_) fun _=>?_
 | refine im fun _=>?_
 | refine cF ?_
 | refine cG ?_
 | refine om ?_
 | refine an ?_
 | fail) <;> try simp only [zN, zT, zV, zS, zU, vcC, lateX, ex, strp, binA, elems, cells, scalar, eqC, keyA, intsA, lookA, ofVs, mpOf, Nat.reduceBEq, reduceAdd, reduceSub, reduceLT, reduceLeDiff, reduceMul, reduceEqDiff, reduceIte, hx, hg0, hol, hrow, List.length_map])
            clear hI h0 hg0 hins fin hsr hrow
            obtain ⟨P,hP⟩:∃ P,P=o.take k:=⟨_,rfl⟩
            obtain ⟨Q,hQ⟩:∃ Q,Q=o.drop k:=⟨_,rfl⟩
            have hPm:List.take k (o.map Nt.cs)=P.map Nt.cs:=by rw [hP,List.map_take]
            have hQm:List.drop k (List.take i (o.map Nt.cs))=Q.map Nt.cs:=by rw [hQ,List.map_drop,List.take_of_length_le (by rw [List.length_map]; omega)]
            have hPl:P.length=k:=by rw [hP,List.length_take]; omega
            have hQl:Q.length=i - k:=by rw [hQ,List.length_drop]; omega
            have hPr:∀ e,e < k→((P.map Nt.cs).getD e []).length=38:=fun e he=>by rw [row nt0 (by omega)]; rfl
            have hQr:∀ e,e < i - k→((Q.map Nt.cs).getD e []).length=38:=fun e he=>by rw [row nt0 (by omega)]; rfl
            rw [← hP,← hQ] at hF
            clear hP hQ
            iterate 2
              ((first
 | refine vn rfl ?_
 | simp (disch:=omega) only [wr64,Int.zero_sub]
 | refine bo (fun _=>?_) fun _=>?_
 | refine im fun _=>?_
 | refine cF ?_
 | refine om ?_
 | refine an ?_
 | fail) <;> try simp only [zN, zT, zV, zS, zU, vcC, lateX, ex, strp, binA, elems, cells, scalar, eqC, keyA, intsA, lookA, ofVs, mpOf, Nat.reduceBEq, reduceAdd, reduceSub, reduceLT, reduceLeDiff, reduceMul, reduceEqDiff, reduceIte, hx, hPm, hQm, hPl, hQl, hol, List.length_map, Option.toList, List.append_nil, List.nil_append, List.cons_append])
            refine ⟨⟨hPr,by omega⟩,?_⟩
            iterate 5
              ((first
 | refine vn rfl ?_
 | simp (disch:=omega) only [wr64,Int.zero_sub]
 | refine bo (fun _=>?_) fun _=>?_
 | refine im fun _=>?_
 | refine cF ?_
 | refine om ?_
 | refine an ?_
 | fail) <;> try simp only [zN, zT, zV, zS, zU, vcC, lateX, ex, strp, binA, elems, cells, scalar, eqC, keyA, intsA, lookA, ofVs, mpOf, Nat.reduceBEq, reduceAdd, reduceSub, reduceLT, reduceLeDiff, reduceMul, reduceEqDiff, reduceIte, hx, hPm, hQm, hPl, hQl, hol, List.length_map, Option.toList, List.append_nil, List.nil_append, List.cons_append])
            refine ⟨⟨hQr,by omega⟩,?_⟩
            refine AWPC.freeze1 (f:=μ.length) (t:=3) (o:=⟨68,38,(P++x::Q).map Nt.cs,none⟩) rfl (by rw [at_app0]; simp [at_cons0]) (by simp; omega) (show (38:Nat)≠0 by decide) ?_
            rw [← hF,← hN]
            generalize gone _ _=ν
            ((refine Au ?_;repeat' constructor)<;>intros<;>refine hD_ ?_)
            all_goals try (exfalso;omega)
            all_goals exact ⟨⟨(i+1,ν),hlt⟩,by simp,rfl,by simp only; omega⟩
    · obtain rfl:i=l.length:=by omega
      rw [List.take_length]
      ((refine Au ?_;repeat' constructor)<;>intros<;>refine hD_ ?_)
      all_goals try (exfalso;omega)
      all_goals exact Frz.eq rfl (by simp)
theorem rStanding_spec (l:List Nt) (hl:l.length < 4294967296) (hn:(l.map Nt.nm).Nodup):Pure Tryz.prog 91 [ntS l] (ntS (Zf l)):=by
  refine pB_ Tryz.call91 Tryz.func91 k91 ?_
  unfold c91
  rw [← stand_filter hn]
  obtain ⟨q,hq⟩:∃ q:Nt→Bool,q=fun a=>a.kind != 7 && !goneT l a.nm:=⟨_,rfl⟩
  rw [← hq]
  have ho:=rOrdered_spec (l.filter q) (Nat.lt_of_le_of_lt (List.length_filter_le _ _) hl)
  ((refine Au ?_;repeat' constructor)<;>intros<;>refine hD_ ?_)
  refine AWPC.own0 68 38 3 rfl ?_
  refine AWPC.loopE (α:={ x:Nat × List Nt × Sto // x.1≤l.length∧x.2.1=(l.take x.1).filter q }) [3,4] (fun x=>[(3,.own 0 0 x.1.2.1.length),(4,n x.1.1)]) (fun x=>some [⟨68,38,x.1.2.1.map Nt.cs,none⟩]::x.1.2.2) (fun x=>l.length - x.1.1) ⟨(0,[],[]),Nat.zero_le _,by simp⟩ ?_ rfl ?_
  · (simp only [zN,zT,zV,zS,zU,Q0,Q1,ex,Q2,Q3,Q4,Q5,Q6,Q7,Q8,Q9,QA,QB,QC,Nat.reduceBEq,reduceAdd,reduceSub,reduceLT,reduceLeDiff,reduceMul,reduceEqDiff,reduceIte]; try simp)
  · rintro ⟨⟨i,W,μ⟩,hi,hW⟩
    simp only at hi hW
    have hWl:W.length≤i:=by rw [hW]; exact Nat.le_trans (List.length_filter_le _ _) (by rw [List.length_take]; omega)
    by_cases hlt:i < l.length
    · have ha:=getD_lt nt0 hlt
      have hx:(l.map Nt.cs).getD i []=Nt.cs (l.getD i nt0):=row nt0 hlt
      have hN:(l.take (i+1)).filter q=if q (l.getD i nt0) then W++[l.getD i nt0] else W:=by rw [hW]; exact filter_next ha
      have hc:=rName_spec (l.getD i nt0)
      generalize l.getD i nt0=x at hx hN hc
      have hqx:q x=(!(decide (x.kind=7) || l.any fun y=>decide (y.kind=7) && decide (y.ref=x.nm))):=by
        rw [hq]; simp only [goneT,Bool.not_or,bne,BEq.beq]
      obtain ⟨G,hG0⟩:∃ G:Nat→Bool,G=fun k=>decide (x.kind=7) || (l.take k).any fun y=>decide (y.kind=7) && decide (y.ref=x.nm):=⟨_,rfl⟩
      have hGz:G 0=decide (x.kind=7):=by rw [hG0]; simp
      have hGl:q x=!G l.length:=by rw [hqx,hG0]; simp only [List.take_length]
      ((refine Ax @hx ?_;repeat' constructor)<;>intros<;>refine hD_ ?_)
      all_goals try (exfalso;omega)
      refine AWPC.loopS (α:={ k:Nat // k≤l.length }) [5,6] (fun k=>[(5,bl (G k.1)),(6,n k.1)]) (fun k=>l.length - k.1) ⟨0,Nat.zero_le _⟩ ?_ ?_
      · (simp only [zN,zT,zV,zS,zU,Q0,Q1,ex,Q2,Q3,Q4,Q5,Q6,Q7,Q8,Q9,QA,QB,QC,Nat.reduceBEq,reduceAdd,reduceSub,reduceLT,reduceLeDiff,reduceMul,reduceEqDiff,reduceIte]; try simp)
        rw [hGz]
      · rintro ⟨k,hk⟩
        try simp only at hk
        by_cases hkl:k < l.length
        · have hy:(l.map Nt.cs).getD k []=Nt.cs (l.getD k nt0):=row nt0 hkl
          have hG:G (k+1)=(G k || (decide ((l.getD k nt0).kind=7) && decide ((l.getD k nt0).ref=x.nm))):=by
            rw [hG0]
            simp only [List.take_add_one,getD_lt nt0 hkl,Option.toList_some,List.any_append,List.any_cons,List.any_nil,Bool.or_false,Bool.or_assoc]
          clear hG0 hGz hGl hqx
          generalize l.getD k nt0=y at hy hG
          have hr:decide (y.ref=x.nm)=(decide (y.ref.clerk=x.clerk) && decide (y.ref.num=x.num)):=by
            obtain ⟨_,_,_,_,_,_,_,_,_,_,_,⟨_,_⟩⟩:=y
            rw [Bool.eq_iff_iff]; simp
          rw [hr] at hG
          clear hr
          generalize hg:G k=g at hG
          cases g with
          | true =>
            rw [Bool.true_or] at hG
            ((refine Az (And.intro @hx (And.intro @hy @hg)) @hc ?_;repeat' constructor)<;>intros<;>refine hD_ ?_)
            all_goals try (exfalso;omega)
            all_goals exact ⟨⟨k+1,hkl⟩,⟨by simp [hG],by simp⟩,by simp only; omega⟩
          | false =>
            by_cases h7:y.kind=7
            · rw [Bool.false_or,decide_eq_true h7,Bool.true_and] at hG
              ((refine Az (And.intro @hx (And.intro @hy (And.intro @h7 @hg))) @hc ?_;repeat' constructor)<;>intros<;>refine hD_ ?_)
              all_goals try (exfalso;omega)
              all_goals exact ⟨⟨k+1,hkl⟩,⟨by simp [hG],by simp⟩,by simp only; omega⟩
            · rw [Bool.false_or,decide_eq_false h7,Bool.false_and] at hG
              ((refine Az (And.intro @hx (And.intro @hy (And.intro @h7 @hg))) @hc ?_;repeat' constructor)<;>intros<;>refine hD_ ?_)
              all_goals try (exfalso;omega)
              all_goals exact ⟨⟨k+1,hkl⟩,⟨by simp [hG],by simp⟩,by simp only; omega⟩
        · obtain rfl:k=l.length:=by omega
          rw [hGl] at hN
          clear hG0 hGz hqx hGl
          generalize hg:G l.length=g at hN
          cases g with
          | true =>
            ((refine Ax (And.intro @hx @hg) ?_;repeat' constructor)<;>intros<;>refine hD_ ?_)
            all_goals try (exfalso;omega)
            exact ⟨⟨(i+1,W,μ),hlt,by rw [hN]; rfl⟩,by simp,by simp,by simp only; omega⟩
          | false =>
            ((refine Ax (And.intro @hx @hg) ?_;repeat' constructor)<;>intros<;>refine hD_ ?_)
            all_goals try (exfalso;omega)
            exact ⟨⟨(i+1,W++[x],μ),hlt,by rw [hN]; rfl⟩,by simp,by simp,by simp only; omega⟩
    · obtain rfl:i=l.length:=by omega
      rw [List.take_length] at hW
      subst hW
      iterate 2
        ((first
 | refine vn rfl ?_
 | simp (disch:=omega) only [wr64,Int.zero_sub]
 | refine bo (fun _=>?_) fun _=>?_
 | refine im fun _=>?_
 | refine cF ?_
 | refine om ?_
 | refine an ?_
 | fail) <;> try simp only [zN,zT,zV,zS,zU,Q0,Q1,ex,Q2,Q3,Q4,Q5,Q6,Q7,Q8,Q9,QA,QB,QC,Nat.reduceBEq,reduceAdd,reduceSub,reduceLT,reduceLeDiff,reduceMul,reduceEqDiff,reduceIte])
      refine AWPC.freeze1 (t:=3) (f:=0) rfl rfl (by simp) (by simp) ?_
      ((refine Ay @ho ?_;repeat' constructor)<;>intros<;>refine hD_ ?_)
      all_goals exact Frz.eq rfl (by simp)
end Go.Proofs.YtolgelipcgcbhaaGreat
namespace Go.Abs
set_option linter.unusedVariables false
set_option linter.unusedSimpArgs false
theorem mks_mem {S:List Nt} {m:Nm} {k:Nt} (h:k∈mks S m):k∈S∧k.kind=2∧k.ref=m∧cnt S k=true:=by
  unfold mks at h
  rw [List.mem_filter] at h
  obtain ⟨h1,h2⟩:=h
  simp only [Bool.and_eq_true,kd_iff,onT,decide_eq_true_eq] at h2
  exact ⟨h1,h2.1,h2.2.1,h2.2.2⟩
theorem mks_len {S:List Nt} (hn:(S.map Nt.nm).Nodup) (m:Nm):(mks S m).length≤64:=by
  cases hl:(mks S m).getLast? with
  | none=>rw [List.getLast?_eq_none_iff] at hl; simp [hl]
  | some k =>
    obtain ⟨p,hp⟩:=List.getLast?_eq_some_iff.1 hl
    have hk:=mks_mem (List.mem_of_getLast? hl)
    have h0:S.filter (fun k=>kd 2 k && (onT m k && cnt S k))=p++k::[]:=hp
    obtain ⟨h1,_,_⟩:=bef_filter hn h0
    have hc:=hk.2.2.2
    unfold cnt at hc
    simp only [Bool.and_eq_true,decide_eq_true_eq] at hc
    have h2:p.length≤((bef S k).filter fun x=>kd 2 x && (onT k.ref x && mkd S x)).length:=by
      have e:p=((bef S k).filter fun x=>kd 2 x && (onT k.ref x && mkd S x)).filter (fun x=>cnt S x):=by
        rw [← h1,ff]
        refine List.filter_congr fun x hx=>?_
        rw [hk.2.2.1]
        unfold cnt
        cases kd 2 x <;> cases onT m x <;> cases mkd S x <;> simp
      rw [e]; exact List.length_filter_le _ _
    rw [show mks S m=p++[k] from hp,List.length_append,List.length_singleton]
    omega
theorem standT_perm (l:List Nt):(Zf l).Perm ((l.filter fun a=>a.kind != 7).filter fun a=>!goneT l a.nm):=(srtT_perm _).filter _
def findR (S:List Nt) (m:Nm):Option Nat:=S.findIdx? fun a=>decide (a.nm=m)
def sheetR (S:List Nt) (m:Nm):Option Nat:=match findR S m with
  | none=>none
  | some i=>if (S.getD i nt0).kind=1 then some i else none
def colR (s:Nt) (c:Int):Bool:=decide (0≤c∧c≤(s.sheet.rates.length:Int))
def cntR (S:List Nt) (i:Nat):Bool:=match sheetR S (S.getD i nt0).ref with
  | none=>false
  | some k=>colR (S.getD k nt0) (S.getD i nt0).mark.col && decide (((S.take i).filter fun a=>kd 2 a && (onT (S.getD i nt0).ref a && colR (S.getD k nt0) a.mark.col)).length < 64)
def corR (S:List Nt) (i:Nat):Bool:=match findR S (S.getD i nt0).ref with
  | none=>false
  | some k=>if (S.getD i nt0).read.stn≠0 then kd 3 (S.getD k nt0) else kd 2 (S.getD k nt0) && (cntR S k && (match sheetR S (S.getD k nt0).ref with
    | none=>false
    | some s=>colR (S.getD s nt0) (S.getD i nt0).mark.col))
def knwR (S:List Nt) (i k:Nat):Nat:=(List.range k).foldl (fun o k=>if kd 6 (S.getD k nt0) && (onT (S.getD i nt0).nm (S.getD k nt0) && corR S k) then k else o) i
theorem findR_some {S:List Nt} {m:Nm} {i:Nat} (h:findR S m=some i):i < S.length∧(S.getD i nt0).nm=m:=by
  obtain ⟨h1,h2,_⟩:=List.findIdx?_eq_some_iff_getElem.1 h
  refine ⟨h1,?_⟩
  rw [List.getD_eq_getElem?_getD,List.getElem?_eq_getElem h1]
  simpa using h2
theorem findR_none {S:List Nt} {m:Nm} (h:findR S m=none):∀ a∈S,a.nm≠m:=by
  intro a ha
  have:=List.findIdx?_eq_none_iff.1 h a ha
  simpa using this
section
variable {S:List Nt} (hn:(S.map Nt.nm).Nodup)
include hn
theorem find_fq (m:Nm):fq S (fun _=>true) m=(findR S m).map fun i=>S.getD i nt0:=by
  cases h:findR S m with
  | none=>exact fq_none.2 fun a ha e=>absurd e (findR_none h a ha)
  | some i =>
    obtain ⟨h1,h2⟩:=findR_some h
    exact (fq_some hn).2 ⟨List.mem_of_getElem? (getD_lt nt0 h1),h2,rfl⟩
theorem sheet_sh (m:Nm):shN S m=(sheetR S m).map fun i=>S.getD i nt0:=by
  unfold sheetR
  cases h:findR S m with
  | none=>exact fq_none.2 fun a ha e=>absurd e (findR_none h a ha)
  | some i =>
    obtain ⟨h1,h2⟩:=findR_some h
    simp only
    by_cases hk:(S.getD i nt0).kind=1
    · rw [if_pos hk]
      exact (fq_some hn).2 ⟨List.mem_of_getElem? (getD_lt nt0 h1),h2,kd_iff.2 hk⟩
    · rw [if_neg hk]
      refine fq_none.2 fun a ha e=>?_
      have:=nm_inj hn ha (List.mem_of_getElem? (getD_lt nt0 h1)) (e.trans h2.symm)
      rw [this]; exact kd_ff.2 hk
theorem bef_take {i:Nat} (hi:i < S.length):bef S (S.getD i nt0)=S.take i:=by
  have h:S=S.take i++S.getD i nt0::S.drop (i+1):=by
    have e:S.drop i=S.getD i nt0::S.drop (i+1):=by
      rw [List.drop_eq_getElem_cons hi,List.getD_eq_getElem?_getD,List.getElem?_eq_getElem hi]; rfl
    rw [← e,List.take_append_drop]
  have:=bef_app (u:=S.take i) (v:=S.drop (i+1)) (a:=S.getD i nt0) (by rw [← h]; exact hn)
  rwa [← h] at this
omit hn in
theorem colR_T {s:Nt} {c:Int} (h:0≤c):colR s c=colT s c:=by
  unfold colR colT
  simp [h]
variable (hm:∀ a∈S,(a.kind=2∨(a.kind=6∧a.read.stn=0))→0≤a.mark.col)
include hm
theorem cnt_R {i:Nat} (hi:i < S.length) (h2:(S.getD i nt0).kind=2):cntR S i=cnt S (S.getD i nt0):=by
  have ha:S.getD i nt0∈S:=List.mem_of_getElem? (getD_lt nt0 hi)
  have h0:=hm _ ha (.inl h2)
  unfold cntR cnt mkd
  rw [sheet_sh hn,bef_take hn hi]
  cases h:sheetR S (S.getD i nt0).ref with
  | none=>rfl
  | some k =>
    simp only [Option.map_some]
    rw [colR_T h0]
    congr 3
    refine congrArg List.length (List.filter_congr fun x hx=>?_)
    by_cases h2:x.kind=2
    · rw [colR_T (hm x ((List.take_sublist _ _).subset hx) (.inl h2))]
      by_cases hr:x.ref=(S.getD i nt0).ref
      · rw [sheet_sh hn,hr,h]; rfl
      · have e:onT (S.getD i nt0).ref x=false:=decide_eq_false hr
        rw [e]; simp only [Bool.false_and,Bool.and_false]
    · rw [kd_ff.2 h2]; simp only [Bool.false_and]
theorem corr_R {i:Nat} (hi:i < S.length) (h6:(S.getD i nt0).kind=6):corR S i=corr S (S.getD i nt0):=by
  have ha:S.getD i nt0∈S:=List.mem_of_getElem? (getD_lt nt0 hi)
  unfold corR corr
  rw [find_fq hn]
  cases h:findR S (S.getD i nt0).ref with
  | none=>rfl
  | some k =>
    obtain ⟨hk,hkn⟩:=findR_some h
    simp only [Option.map_some]
    by_cases h0:(S.getD i nt0).read.stn≠0
    · rw [if_pos h0,if_pos h0]
    · rw [if_neg h0,if_neg h0]
      have h00:=hm _ ha (.inr ⟨h6,by omega⟩)
      by_cases h2:(S.getD k nt0).kind=2
      · rw [cnt_R hn hm hk h2,sheet_sh hn]
        cases hs:sheetR S (S.getD k nt0).ref with
        | none=>rfl
        | some s=>simp only [Option.map_some]; rw [colR_T h00]
      · rw [kd_ff.2 h2]; simp only [Bool.false_and]
theorem knw_R {i:Nat} (hi:i < S.length):∀ k,k≤S.length→(knwR S i k < S.length∧S.getD (knwR S i k) nt0=((((S.take k).filter fun c=>kd 6 c && (onT (S.getD i nt0).nm c && corr S c)).getLast?).getD (S.getD i nt0))):=by
  intro k
  induction k with
  | zero=>intro _; exact ⟨hi,by simp [knwR]⟩
  | succ k ih =>
    intro hk
    obtain ⟨g1,g2⟩:=ih (by omega)
    have hs:knwR S i (k+1)=if kd 6 (S.getD k nt0) && (onT (S.getD i nt0).nm (S.getD k nt0) && corR S k) then k else knwR S i k:=by
      unfold knwR; rw [List.range_succ,List.foldl_append]; rfl
    have ht:S.take (k+1)=S.take k++[S.getD k nt0]:=by rw [List.take_add_one,getD_lt nt0 (show k < S.length by omega)]; rfl
    rw [hs,ht,last_snoc]
    have he:(kd 6 (S.getD k nt0) && (onT (S.getD i nt0).nm (S.getD k nt0) && corR S k))=(kd 6 (S.getD k nt0) && (onT (S.getD i nt0).nm (S.getD k nt0) && corr S (S.getD k nt0))):=by
      by_cases h6:(S.getD k nt0).kind=6
      · rw [corr_R hn hm (by omega) h6]
      · rw [kd_ff.2 h6]; simp only [Bool.false_and]
    rw [he]
    cases (kd 6 (S.getD k nt0) && (onT (S.getD i nt0).nm (S.getD k nt0) && corr S (S.getD k nt0))) with
    | true=>rw [if_pos rfl,if_pos rfl]; exact ⟨by omega,rfl⟩
    | false=>rw [if_neg (by decide),if_neg (by decide)]; exact ⟨g1,g2⟩
theorem knw_R' {i:Nat} (hi:i < S.length):knwR S i S.length < S.length∧S.getD (knwR S i S.length) nt0=knw S (S.getD i nt0):=by
  have:=knw_R hn hm hi S.length (Nat.le_refl _)
  rwa [List.take_length] at this
end
def insNm (a:Nm):List Nm→List Nm
  | []=>[a]
  | x::r=>if cmpN a x < 0 then a::x::r else x::insNm a r
def srtNm (l:List Nm):List Nm:=l.foldl (fun o a=>insNm a o) []
theorem insNm_perm (a:Nm):∀ l,(insNm a l).Perm (a::l)
  | []=>.refl _
  | x::r=>by
    unfold insNm
    split
    · exact .refl _
    · exact ((insNm_perm a r).cons x).trans (.swap a x r)
theorem srtNm_perm (l:List Nm):(srtNm l).Perm l:=by
  have:∀ (l o:List Nm),(l.foldl (fun o a=>insNm a o) o).Perm (l++o):=by
    intro l
    induction l with
    | nil=>exact fun o=>.refl _
    | cons a r ih=>exact fun o=>(ih _).trans (((insNm_perm a o).append_left r).trans List.perm_middle)
  have:=this l []
  rwa [List.append_nil] at this
theorem insNm_le {a:Nm}:∀ {l:List Nm},l.Pairwise (fun x y=>¬ cmpN y x < 0)→(insNm a l).Pairwise (fun x y=>¬ cmpN y x < 0)
  | [],_=>List.pairwise_singleton _ _
  | x::r,h=>by
    rw [List.pairwise_cons] at h
    unfold insNm
    split
    · rename_i hlt
      refine List.pairwise_cons.2 ⟨fun y hy=>?_,List.pairwise_cons.2 h⟩
      rcases List.mem_cons.1 hy with rfl | hy
      · exact cmpN_as hlt
      · have:=h.1 y hy
        rw [cmpN_lt] at this hlt ⊢
        omega
    · rename_i hlt
      refine List.pairwise_cons.2 ⟨fun y hy=>?_,insNm_le h.2⟩
      rcases List.mem_cons.1 ((insNm_perm a r).mem_iff.1 hy) with rfl | hy
      · exact hlt
      · exact h.1 y hy
theorem srtNm_le (l:List Nm):(srtNm l).Pairwise (fun x y=>¬ cmpN y x < 0):=by
  have:∀ (l o:List Nm),o.Pairwise (fun x y=>¬ cmpN y x < 0)→(l.foldl (fun o a=>insNm a o) o).Pairwise (fun x y=>¬ cmpN y x < 0):=by
    intro l
    induction l with
    | nil=>exact fun o h=>h
    | cons a r ih=>exact fun o h=>ih _ (insNm_le h)
  exact this l [] .nil
theorem srtNm_eq {l m:List Nm} (hp:l.Perm m) (hm:m.Pairwise (fun x y=>cmpN x y < 0)):srtNm l=m:=by
  have hnd:(srtNm l).Nodup:=((srtNm_perm l).trans hp).nodup_iff.2 (hm.imp fun {x y} h e=>by subst e; rw [cmpN_lt] at h; omega)
  refine sorted_one (lt:=fun x y=>cmpN x y < 0) (fun a b=>cmpN_as) ((srtNm_perm l).trans hp) ?_ hm
  refine ((List.Pairwise.and (srtNm_le l) hnd)).imp fun {x y} ⟨h1,h2⟩=>?_
  have h3:¬ (x.clerk=y.clerk∧x.num=y.num):=fun h=>h2 (by cases x; cases y; simpa using h)
  rw [cmpN_lt] at h1 ⊢
  omega
theorem confl_S {b:Bse} {l:List Nt} (hsrt:(l.map Nt.nm).Pairwise (fun x y=>cmpN x y < 0)):srtNm (((Zf l).filter (badS b (Zf l))++l.filter fun a=>decide (a.kind=7) && badR b l a).map Nt.nm)=(refT b l).confl:=by
  refine srtNm_eq (List.Perm.map _ ?_) (hsrt.sublist (List.filter_sublist.map _))
  have h1:((Zf l).filter (badS b (Zf l))).Perm (l.filter fun a=>decide (a.kind≠7) && badR b l a):=by
    refine ((standT_perm l).filter _).trans ?_
    rw [List.filter_filter,List.filter_filter]
    have:(l.filter fun a=>(badS b (Zf l) a && (!goneT l a.nm)) && (a.kind != 7))=l.filter fun a=>decide (a.kind≠7) && badR b l a:=by
      refine List.filter_congr fun a ha=>?_
      by_cases h7:a.kind=7
      · simp [h7]
      · unfold badR
        rw [if_neg h7]
        have:(a.kind != 7)=true:=by simpa using h7
        rw [this,decide_eq_true h7,Bool.and_true,Bool.true_and,Bool.and_comm]
    rw [this]
  refine (h1.append_right _).trans ?_
  have h2:∀ l:List Nt,((l.filter fun a=>decide (a.kind≠7) && badR b l a)++l.filter fun a=>decide (a.kind=7) && badR b l a)=((l.filter (badR b l)).filter fun a=>decide (a.kind≠7))++(l.filter (badR b l)).filter fun a=>!decide (a.kind≠7):=fun l=>by
    rw [List.filter_filter,List.filter_filter]
    congr 1
    refine List.filter_congr fun a _=>?_
    by_cases h7:a.kind=7 <;> simp [h7]
  rw [h2]
  exact List.filter_append_perm _ _
theorem shsR_next {S:List Nt} {k:Nat} {a:Nt} (h:S[k]?=some a):shsR S (S.take (k+1))=if kd 1 a then entR S (shsR S (S.take k)) a else shsR S (S.take k):=by
  unfold shsR
  rw [List.take_add_one,h,Option.toList_some,List.filter_append,List.foldl_append,List.filter_cons,List.filter_nil]
  cases kd 1 a <;> rfl
theorem stsR_next {S:List Nt} {st:List Stn} {k:Nat} {a:Nt} (h:S[k]?=some a):stsR st (S.take (k+1))=if kd 4 a then raiR (stsR st (S.take k)) a else stsR st (S.take k):=by
  unfold stsR
  rw [List.take_add_one,h,Option.toList_some,List.filter_append,List.foldl_append,List.filter_cons,List.filter_nil]
  cases kd 4 a <;> rfl
end Go.Abs
namespace Go.Proofs.YtolgelipcgcbhaaGreat
open Go.Abs
open Nat (reduceAdd reduceSub reduceLT reduceLeDiff reduceMul reduceEqDiff)
open Go.Abs renaming vcC→Q0,lateX→Q1,strp→Q2,binA→Q3,elems→Q4,cells→Q5,scalar→Q6,eqC→Q7,keyA→Q8,intsA→Q9,lookA→QA,ofVs→QB,mpOf→QC
set_option linter.unusedVariables false
set_option linter.unusedSimpArgs false
set_option maxHeartbeats 4000000
set_option maxRecDepth 100000
def c90:CF:=⟨20,(jo [jx 3 29 2 1,jc 4 0] [0,3]
 (.seq (jo [jc 5 0] [0,3,5]
 (.block 0 (.loop (.seq (jo [jm 6 5,jm 7 0,je 8 7,jt .lss 9 6 8] [0,3,5,9]
 (.cond (.t 9) .skip
 (.exit 0)))
 (.seq (.block 1 (.seq (.draw [jm 12 0,jm 13 5,ji 14 38 12 13,jk 15 38 14,jy 16 92 [15],jk 17 2 3,jw 18 (.eqs false [some .i64,some .i64] (.t 16) (.t 17))] [] [0,3,5,18])
 (.cond (.t 18) (jo [jm 19 5,jm 4 19] [4]
 .ret)
 .skip)))
 (.ops [jm 10 5,ju .add 11 10 1,jm 5 11] [0,3,5]))))))
 (jo [jc 4 (-1)] [4]
 .ret))),[.t 4]⟩
theorem k90:chkF Tryz.prog Tryz.f90 c90=true:=by kernel_rfl
def c154:CF:=⟨20,(jo [jx 3 29 2 1,jc 4 0] [0,3]
 (jo [jm 6 0,jk 7 2 3,jy 8 90 [6,7],jm 5 8] [0,5]
 (.seq (jo [jm 9 5,ju .lss 10 9 0,jm 11 10,jd 11 (jm 12 0),jd 11 (jm 13 5),jd 11 (ji 14 38 12 13),jd 11 (jf 15 4 14),jd 11 (jl 16 15),jd 11 (ju .neq 17 16 1),jq 18 11 17] [5,18]
 (.cond (.t 18) (jo [jc 4 (-1)] [4]
 .ret)
 .skip))
 (jo [jm 19 5,jm 4 19] [4]
 .ret)))),[.t 4]⟩
theorem k154:chkF Tryz.prog Tryz.f154 c154=true:=by kernel_rfl
def c194:CF:=⟨11,(jo [jx 2 60 18 0,jb 4 false] [1,2]
 (jo [jm 5 1,jf 6 12 2,jf 7 0 6,jl 8 7,je 9 8,jw 10 (.call (.f 113) [(.t 5),(.c (.int .i64 0)),(.t 9)]),jm 4 10] [4]
 .ret)),[.t 4]⟩
theorem k194:chkF Tryz.prog Tryz.f194 c194=true:=by kernel_rfl
def plc (o:Option Nat):Int:=match o with | some j=>(j:Int) | none=>-1
theorem nm_of (x:Nt) (m:Nm):x.nm=m↔x.clerk=m.clerk∧x.num=m.num:=by
  obtain ⟨c,k⟩:=m
  unfold Nt.nm
  simp
theorem rfind_spec (l:List Nt) (hl:l.length < 9223372036854775808) (m:Nm):Pure Tryz.prog 90 [ntS l,.agg m.cs] (n (plc (findR l m))):=by
  refine pB_ Tryz.call90 Tryz.func90 k90 ?_
  unfold c90
  have hq:=fidx_opt (fun x:Nt=>decide (x.nm=m)) l
  obtain ⟨z,hz⟩:∃ z,z=fidx (fun x:Nt=>decide (x.nm=m)) 0 l:=⟨_,rfl⟩
  rw [show plc (findR l m)=z from hz ▸ hq.symm]
  ((refine Au ?_;repeat' constructor)<;>intros<;>refine hD_ ?_)
  refine AWPC.loopI 5 l.length (fun i=>fidx (fun x:Nt=>decide (x.nm=m)) i (l.drop i)=z) (by rw [hz,List.drop_zero]) ?_ ?_
  · (simp only [zN,zT,zV,zS,zU,Q0,Q1,ex,Q2,Q3,Q4,Q5,Q6,Q7,Q8,Q9,QA,QB,QC,Nat.reduceBEq,reduceAdd,reduceSub,reduceLT,reduceLeDiff,reduceMul,reduceEqDiff,reduceIte]; try simp)
  · intro i hi hI
    by_cases hlt:i < l.length
    · obtain ⟨x,hx⟩:∃ x,l[i]?=some x:=⟨_,List.getElem?_eq_getElem hlt⟩
      rw [drop_cons hx,fidx] at hI
      have hr:(l.map Nt.cs).getD i []=Nt.cs x:=getD_map hx
      have hnm:=rName_spec x
      by_cases h1:x.clerk=m.clerk
      · by_cases h2:x.num=m.num
        · rw [if_pos (by simp [nm_of,h1,h2])] at hI
          ((refine Az (And.intro @hr (And.intro @h1 @h2)) @hnm ?_;repeat' constructor)<;>intros<;>refine hD_ ?_)
          all_goals try (exfalso;omega)
          all_goals (rw [← hI]; exact Frz.eq rfl (PureV.v _))
        · rw [if_neg (by simp [nm_of,h2])] at hI
          ((refine Az (And.intro @hr (And.intro @h1 @h2)) @hnm ?_;repeat' constructor)<;>intros<;>refine hD_ ?_)
          all_goals try (exfalso;omega)
          all_goals exact ⟨⟨i+1,hlt,by simpa using hI⟩,by simp,by simp only; omega⟩
      · rw [if_neg (by simp [nm_of,h1])] at hI
        ((refine Az (And.intro @hr @h1) @hnm ?_;repeat' constructor)<;>intros<;>refine hD_ ?_)
        all_goals try (exfalso;omega)
        all_goals exact ⟨⟨i+1,hlt,by simpa using hI⟩,by simp,by simp only; omega⟩
    · obtain rfl:i=l.length:=by omega
      rw [List.drop_length,fidx] at hI
      ((refine Au ?_;repeat' constructor)<;>intros<;>refine hD_ ?_)
      all_goals try (exfalso;omega)
      all_goals (rw [← hI]; exact Frz.eq rfl (PureV.v _))
theorem rsheet_spec (l:List Nt) (hl:l.length < 9223372036854775808) (h0:0 < l.length) (m:Nm):Pure Tryz.prog 154 [ntS l,.agg m.cs] (n (plc (sheetR l m))):=by
  refine pB_ Tryz.call154 Tryz.func154 k154 ?_
  unfold c154
  have hf:=rfind_spec l hl m
  unfold sheetR
  cases h:findR l m with
  | none =>
    rw [h] at hf
    simp only [plc] at hf ⊢
    have hr:(l.map Nt.cs).getD (-1:Int).toNat []=Nt.cs (l.getD 0 nt0):=row nt0 h0
    generalize l.getD 0 nt0=x at hr
    ((refine Az @hr @hf ?_;repeat' constructor)<;>intros<;>refine hD_ ?_)
    all_goals try (exfalso;omega)
    all_goals exact Frz.eq rfl (PureV.v _)
  | some i =>
    rw [h] at hf
    simp only [plc] at hf
    dsimp only
    have hlt:=(findR_some h).1
    have hr:(l.map Nt.cs).getD i []=Nt.cs (l.getD i nt0):=row nt0 hlt
    generalize l.getD i nt0=x at hr
    by_cases hk:x.kind=1
    · rw [if_pos hk]
      ((refine Az (And.intro @hr @hk) @hf ?_;repeat' constructor)<;>intros<;>refine hD_ ?_)
      all_goals try (exfalso;omega)
      all_goals exact Frz.eq rfl (PureV.v _)
    · rw [if_neg hk]
      ((refine Az (And.intro @hr @hk) @hf ?_;repeat' constructor)<;>intros<;>refine hD_ ?_)
      all_goals try (exfalso;omega)
      all_goals exact Frz.eq rfl (PureV.v _)
theorem rcolumn_spec (s:Sht) (c:Int):Pure Tryz.prog 194 [.agg s.cs,n c] (bl (decide (0≤c∧c≤(s.rates.length:Int)))):=by
  refine pB_ Tryz.call194 Tryz.func194 k194 ?_
  unfold c194
  have hw:=within_r c 0 s.rates.length
  unfold inr at hw
  generalize decide (0≤c∧c≤(s.rates.length:Int))=q at hw
  ((refine Ay @hw ?_;repeat' constructor)<;>intros<;>refine hD_ ?_)
  all_goals try (exfalso;omega)
  all_goals exact Frz.eq rfl (PureV.v _)
def c150:CF:=⟨74,(jo [jb 4 false] [0,1]
 (jo [jm 8 0,jm 9 0,jm 10 1,ji 11 38 9 10,jf 12 36 11,jk 13 2 12,jy 14 154 [8,13],jm 5 14] [0,1,5]
 (.seq (.seq (.draw [jm 15 5,ju .lss 16 15 0,jm 17 16,jd 17 (jm 18 0),jd 17 (jm 19 5),jd 17 (ji 20 38 18 19),jd 17 (jf 21 7 20),jd 17 (jk 22 18 21),jd 17 (jm 23 0),jd 17 (jm 24 1),jd 17 (ji 25 38 23 24),jd 17 (jf 26 25 25),jd 17 (jf 27 0 26),jd 17 (jl 28 27),jd 17 (jy 29 194 [22,28]),jd 17 (jv 30 29),jq 31 17 30] [] [0,1,5,31])
 (.cond (.t 31) (jo [jb 4 false] [4]
 .ret)
 .skip))
 (jo [jc 6 0] [0,1,5,6]
 (.seq (jo [jc 7 0] [0,1,5,6,7]
 (.block 0 (.loop (.seq (jo [jm 32 7,jm 33 1,jt .lss 34 32 33] [0,1,5,6,7,34]
 (.cond (.t 34) .skip
 (.exit 0)))
 (.seq (.block 1 (.seq (.draw [jm 37 0,jm 38 7,ji 39 38 37 38,jf 40 4 39,jl 41 40,ju .eql 42 41 2,jm 43 42,ja 43 (jm 44 0),ja 43 (jm 45 7),ja 43 (ji 46 38 44 45),ja 43 (jf 47 36 46),ja 43 (jk 48 2 47),ja 43 (jm 49 0),ja 43 (jm 50 1),ja 43 (ji 51 38 49 50),ja 43 (jf 52 36 51),ja 43 (jk 53 2 52),⟨some 54,.eqs false [some .i64,some .i64] (.t 48) (.t 53),some (43,true)⟩,jp 55 43 54,jm 56 55,ja 56 (jm 57 0),ja 56 (jm 58 5),ja 56 (ji 59 38 57 58),ja 56 (jf 60 7 59),ja 56 (jk 61 18 60),ja 56 (jm 62 0),ja 56 (jm 63 7),ja 56 (ji 64 38 62 63),ja 56 (jf 65 25 64),ja 56 (jf 66 0 65),ja 56 (jl 67 66),ja 56 (jy 68 194 [61,67]),jp 69 56 68] [] [0,1,5,6,7,69])
 (.cond (.t 69) (.ops [jm 70 6,ju .add 71 70 1,jm 6 71] [0,1,5,6,7])
 .skip)))
 (.ops [jm 35 7,ju .add 36 35 1,jm 7 36] [0,1,5,6,7]))))))
 (jo [jm 72 6,ju .lss 73 72 64,jm 4 73] [4]
 .ret)))))),[.t 4]⟩
theorem k150:chkF Tryz.prog Tryz.f150 c150=true:=by kernel_rfl
theorem sheetR_some {S:List Nt} {m:Nm} {i:Nat} (h:sheetR S m=some i):findR S m=some i∧(S.getD i nt0).kind=1:=by
  unfold sheetR at h
  cases hf:findR S m with
  | none=>rw [hf] at h; exact absurd h (by simp)
  | some j =>
    rw [hf] at h
    dsimp only at h
    by_cases hk:(S.getD j nt0).kind=1
    · rw [if_pos hk] at h
      obtain rfl:=Option.some.inj h
      exact ⟨rfl,hk⟩
    · rw [if_neg hk] at h; exact absurd h (by simp)
theorem len_filter_next {α:Type} {q:α→Bool} {l:List α} {i:Nat} {x:α} (h:l[i]?=some x):((l.take (i+1)).filter q).length=((l.take i).filter q).length+(if q x then 1 else 0):=by
  rw [List.take_add_one,h,List.filter_append,List.length_append,Option.toList_some]
  cases hq:q x <;> simp [hq]
theorem rcounts_spec (S:List Nt) (hS:S.length < 9223372036854775808) (i:Nat) (hi:i < S.length):Pure Tryz.prog 150 [ntS S,n i] (bl (cntR S i)):=by
  refine pB_ Tryz.call150 Tryz.func150 k150 ?_
  unfold c150
  have hr:(S.map Nt.cs).getD i []=Nt.cs (S.getD i nt0):=row nt0 hi
  have hs:=rsheet_spec S hS (by omega) (S.getD i nt0).ref
  unfold cntR
  generalize S.getD i nt0=x at hr hs
  cases h:sheetR S x.ref with
  | none =>
    rw [h] at hs
    obtain ⟨w,hw⟩:∃ w:Int,w=plc none:=⟨_,rfl⟩
    rw [← hw] at hs
    have hw:w=-1:=hw
    have hr0:(S.map Nt.cs).getD w.toNat []=Nt.cs (S.getD 0 nt0):=by rw [hw]; exact row nt0 (by omega)
    have hc0:=rcolumn_spec (S.getD 0 nt0).sheet x.mark.col
    generalize S.getD 0 nt0=y0 at hr0 hc0
    generalize decide (0≤x.mark.col∧x.mark.col≤(y0.sheet.rates.length:Int))=q0 at hc0
    have hw0:decide (w < 0)=true:=by rw [hw]; rfl
    (repeat' ((first
 | refine vn rfl ?_
 | simp (disch:=omega) only [wr64,Int.zero_sub]
 | refine bo (fun _=>?_) fun _=>?_
 | refine im fun _=>?_
 | ((repeat refine si ?_); (first | ((first | refine .inl ⟨_,_,_,_,rfl,fun _=>pu (by first | exact hs | exact hc0),?_⟩ | refine ⟨_,_,_,_,rfl,fun _=>pu (by first | exact hs | exact hc0),?_⟩); (first | refine o1 ?_ | refine o2 ?_ | refine o3 ?_ | refine o4 ?_)) | refine .inl ⟨_,_,_,_,rfl,pu (by first | exact hs | exact hc0),?_⟩))
 | refine cF ?_
 | refine om ?_
 | refine an ?_
 | fail) <;> try simp only [zN,zT,zV,zS,zU,Q0,Q1,ex,Q2,Q3,Q4,Q5,Q6,Q7,Q8,Q9,QA,QB,QC,Nat.reduceBEq,reduceAdd,reduceSub,reduceLT,reduceLeDiff,reduceMul,reduceEqDiff,reduceIte,hr,hr0,hw0,Bool.true_or]))
    all_goals try (exfalso;omega)
    all_goals exact Frz.eq rfl (PureV.v _)
  | some k =>
    rw [h] at hs
    simp only [plc] at hs
    dsimp only
    have hk:=(findR_some (sheetR_some h).1).1
    have hrk:(S.map Nt.cs).getD k []=Nt.cs (S.getD k nt0):=row nt0 hk
    generalize S.getD k nt0=y at hrk
    have hc:=fun c=>rcolumn_spec y.sheet c
    have hcx:=hc x.mark.col
    by_cases hcol:colR y x.mark.col=true
    · rw [show decide (0≤x.mark.col∧x.mark.col≤(y.sheet.rates.length:Int))=true from hcol] at hcx
      rw [hcol,Bool.true_and]
      ((refine Az (And.intro @hr @hrk) (And.intro @hs @hcx) ?_;repeat' constructor)<;>intros<;>refine hD_ ?_)
      all_goals try (exfalso;omega)
      refine AWPC.loopE (α:={ z:Nat × Nat // z.1≤i∧((S.take z.1).filter fun a=>kd 2 a && (onT x.ref a && colR y a.mark.col)).length=z.2 }) [6,7] (fun z=>[(6,n z.1.2),(7,n z.1.1)]) (fun _=>[]) (fun z=>i - z.1.1) ⟨(0,0),Nat.zero_le _,rfl⟩ ?_ rfl ?_
      · (simp only [zN,zT,zV,zS,zU,Q0,Q1,ex,Q2,Q3,Q4,Q5,Q6,Q7,Q8,Q9,QA,QB,QC,Nat.reduceBEq,reduceAdd,reduceSub,reduceLT,reduceLeDiff,reduceMul,reduceEqDiff,reduceIte]; try simp)
      · rintro ⟨⟨j,m⟩,hj,hm⟩
        simp only at hj hm ⊢
        have hml:m≤j:=by
          have h1:=List.length_filter_le (fun a=>kd 2 a && (onT x.ref a && colR y a.mark.col)) (S.take j)
          rw [List.length_take] at h1; omega
        by_cases hlt:j < i
        · have hg:=getD_lt nt0 (show j < S.length by omega)
          have hrj:(S.map Nt.cs).getD j []=Nt.cs (S.getD j nt0):=row nt0 (by omega)
          have hN:=len_filter_next (q:=fun a=>kd 2 a && (onT x.ref a && colR y a.mark.col)) hg
          rw [hm] at hN
          generalize S.getD j nt0=z at hrj hN
          clear hg h
          have hcz:=hc z.mark.col
          rw [show decide (0≤z.mark.col∧z.mark.col≤(y.sheet.rates.length:Int))=colR y z.mark.col from rfl] at hcz
          generalize colR y z.mark.col=q at hcz hN
          have hon:onT x.ref z=decide (z.ref.clerk=x.ref.clerk∧z.ref.num=x.ref.num):=by
            unfold onT
            rw [decide_eq_decide]
            rcases z.ref with ⟨a1,a2⟩
            rcases x.ref with ⟨b1,b2⟩
            simp
          rw [hon] at hN
          clear hon hc hs hcx
          by_cases h2:z.kind=2
          · rw [show kd 2 z=true from decide_eq_true h2,Bool.true_and] at hN
            by_cases e1:z.ref.clerk=x.ref.clerk
            · by_cases e2:z.ref.num=x.ref.num
              · rw [decide_eq_true ⟨e1,e2⟩,Bool.true_and] at hN
                cases q
                · rw [if_neg (by decide)] at hN
                  ((refine Az (And.intro @hr (And.intro @hrk (And.intro @hrj (And.intro @h2 (And.intro @e1 @e2))))) @hcz ?_;repeat' constructor)<;>intros<;>refine hD_ ?_)
                  all_goals try (exfalso;omega)
                  all_goals exact ⟨⟨(j+1,m),hlt,hN⟩,⟨by simp,by simp⟩,by show i - (j+1) < i - j; omega⟩
                · rw [if_pos rfl] at hN
                  ((refine Az (And.intro @hr (And.intro @hrk (And.intro @hrj (And.intro @h2 (And.intro @e1 @e2))))) @hcz ?_;repeat' constructor)<;>intros<;>refine hD_ ?_)
                  all_goals try (exfalso;omega)
                  all_goals exact ⟨⟨(j+1,m+1),hlt,hN⟩,⟨by simp,by simp⟩,by show i - (j+1) < i - j; omega⟩
              · rw [decide_eq_false (fun h=>e2 h.2),Bool.false_and,if_neg (by decide)] at hN
                ((refine Az (And.intro @hr (And.intro @hrk (And.intro @hrj (And.intro @h2 (And.intro @e1 @e2))))) @hcz ?_;repeat' constructor)<;>intros<;>refine hD_ ?_)
                all_goals try (exfalso;omega)
                all_goals exact ⟨⟨(j+1,m),hlt,hN⟩,⟨by simp,by simp⟩,by show i - (j+1) < i - j; omega⟩
            · rw [decide_eq_false (fun h=>e1 h.1),Bool.false_and,if_neg (by decide)] at hN
              ((refine Az (And.intro @hr (And.intro @hrk (And.intro @hrj (And.intro @h2 @e1)))) @hcz ?_;repeat' constructor)<;>intros<;>refine hD_ ?_)
              all_goals try (exfalso;omega)
              all_goals exact ⟨⟨(j+1,m),hlt,hN⟩,⟨by simp,by simp⟩,by show i - (j+1) < i - j; omega⟩
          · rw [show kd 2 z=false from decide_eq_false h2,Bool.false_and,if_neg (by decide)] at hN
            ((refine Az (And.intro @hr (And.intro @hrk (And.intro @hrj @h2))) @hcz ?_;repeat' constructor)<;>intros<;>refine hD_ ?_)
            all_goals try (exfalso;omega)
            all_goals exact ⟨⟨(j+1,m),hlt,hN⟩,⟨by simp,by simp⟩,by show i - (j+1) < i - j; omega⟩
        · obtain rfl:j=i:=by omega
          ((refine Au ?_;repeat' constructor)<;>intros<;>refine hD_ ?_)
          all_goals try (exfalso;omega)
          all_goals (rw [hm]; exact Frz.eq (by simp; omega) (PureV.v _))
    · rw [show decide (0≤x.mark.col∧x.mark.col≤(y.sheet.rates.length:Int))=false from by simpa [colR] using hcol] at hcx
      rw [show colR y x.mark.col=false by simpa using hcol,Bool.false_and]
      ((refine Az (And.intro @hr @hrk) (And.intro @hs @hcx) ?_;repeat' constructor)<;>intros<;>refine hD_ ?_)
      all_goals try (exfalso;omega)
      all_goals exact Frz.eq rfl (PureV.v _)
end Go.Proofs.YtolgelipcgcbhaaGreat
