/- Part 11 of the texts that the claim rests on: abstract values over the walk, and contracts of functions. -/
import Derived.Test.YtolgelipcgcbhaaGreatBn10
import Derived.Test.YtolgelipcgcbhaaGreatRows
import Derived.ChangeArms
import Derived.DataReads
import Derived.WalkKit
import Derived.ProofKit
import Derived.OpenShut
import Derived.ShutString
import Derived.ChangeOld
import Derived.Below
namespace Go.Abs
set_option linter.unusedVariables false
set_option linter.unusedSimpArgs false
theorem cmpN_as {a b:Nm} (h:cmpN a b < 0):¬ cmpN b a < 0:=by
  have h1:=@cmpN_lt a b
  have h2:=@cmpN_lt b a
  omega
theorem setE_len {b:Bse} {l:List Nt} (h:(setE b l).1=0):l.length≤400:=(setE_ok h).2.1
section
end
theorem stand_filter {l:List Nt} (hn:(l.map Nt.nm).Nodup):srtT (l.filter fun a=>a.kind != 7 && !goneT l a.nm)=standT l:=by
  have hs:((l.filter fun a=>a.kind != 7 && !goneT l a.nm).map Nt.nm).Nodup:=hn.sublist (List.filter_sublist.map _)
  refine (srtT_one hs ?_ ?_).symm
  · unfold standT
    have h:=(srtT_perm (l.filter fun a=>a.kind != 7)).filter (fun a=>!goneT l a.nm)
    refine h.trans ?_
    rw [List.filter_filter]
    refine List.Perm.of_eq (List.filter_congr fun a _=>?_)
    rw [Bool.and_comm]
  · unfold standT
    exact (srtT_le _).sublist List.filter_sublist
end Go.Abs
namespace Go.Proofs.YtolgelipcgcbhaaGreat
open Go.Abs
open Nat (reduceAdd reduceSub reduceLT reduceLeDiff reduceMul reduceEqDiff)
set_option linter.unusedVariables false
set_option linter.unusedSimpArgs false
set_option maxHeartbeats 4000000
set_option maxRecDepth 100000
def c82:CF:=⟨20,(jo [jx 2 26 6 0,jc 4 0] [1,2]
 (jo [jk 8 6 2,jm 9 1,jy 10 42 [8,9],jm 7 10,jz 11 0 7,jz 12 1 7,jm 5 11,jm 6 12] [5]
 (.seq (jo [jm 13 5,ju .eql 14 13 0,jm 15 14,jd 15 (jm 16 5),jd 15 (ju .eql 17 16 100),jq 18 15 17] [5,18]
 (.cond (.t 18) (jo [jm 19 5,jm 4 19] [4]
 .ret)
 .skip))
 (jo [jc 4 1] [4]
 .ret)))),[.t 4]⟩
theorem k82:chkF Tryz.prog Tryz.f82 c82=true:=by kernel_rfl
theorem least {P:Nat→Prop} (h:∃ k,P k):∃ k,P k∧∀ j,j < k→¬ P j:=by
  obtain ⟨k,hk⟩:=h
  induction k using Nat.strongRecOn with
  | ind k ih =>
    by_cases hx:∃ j,j < k∧P j
    · obtain ⟨j,hj,hp⟩:=hx
      exact ih j hj hp
    · exact ⟨k,hk,fun j hj hp=>hx ⟨j,hj,hp⟩⟩
theorem firstE_in {p:Nat→Int} {m:Nat} (q:Int→Prop) (h0:q 0) (h:∀ j,q (p j)):q (firstE p m).1:=by
  by_cases hz:∀ j,j < m→p j=0
  · rw [firstE_none hz]; exact h0
  · have:∃ j,j < m∧p j≠0:=by
      refine Classical.byContradiction fun hn=>hz fun j hj=>Classical.byContradiction fun hp=>hn ⟨j,hj,hp⟩
    obtain ⟨k,⟨hk,hp⟩,hmin⟩:=least this
    rw [firstE_at hk (fun j hj=>Classical.byContradiction fun hn=>hmin j hj ⟨by omega,hn⟩) hp]
    exact h k
theorem set_base (b:Bse) (l:List Nt):(setE b l).1=100↔¬ b.ok:=by
  unfold setE
  by_cases h:b.ok
  · rw [if_neg (fun hn=>hn h)]
    refine ⟨fun e=>?_,fun hn=>absurd h hn⟩
    by_cases h4:400 < l.length
    · rw [if_pos h4] at e; exact absurd e (by decide)
    · rw [if_neg h4] at e
      refine absurd e (firstE_in (fun z=>z≠100) (by decide) fun j=>?_)
      unfold ntE
      simp only
      repeat' split
      all_goals decide
  · rw [if_pos h]; exact ⟨fun _=>h,fun _=>rfl⟩
theorem set_asked (b:Bse) (l:List Nt):askedE b [l]=if (setE b l).1=0∨(setE b l).1=100 then (setE b l).1 else 1:=by
  have h:=set_base b l
  unfold askedE
  by_cases hb:b.ok
  · have h1:¬ (setE b l).1=100:=fun e=>h.1 e hb
    rw [if_neg (fun hn=>hn hb)]
    by_cases h0:(setE b l).1=0
    · simp [h0]
    · have:((setE b l).1 == 0)=false:=by simpa using h0
      simp [h0,h1,this]
  · rw [if_pos hb,h.2 hb]; simp
theorem rSet_spec (b:Bse) (hb:bseSz b) (l:List Nt) (hl:setSz l):Pure Tryz.prog 82 [.agg b.cs,ntS l] (n (askedE b [l])):=by
  refine Pure.of_body Tryz.call82 Tryz.func82 k82 (Nat.le_of_ble_eq_true rfl) ?_
  unfold c82
  have h1:=rCheckSet_spec b hb l hl
  have h2:=set_asked b l
  generalize (setE b l).1=e at h1 h2
  generalize (setE b l).2=v at h1
  rw [h2]
  ((refine Ay @h1 ?_;repeat' constructor)<;>intros<;>refine hD_ ?_)
  all_goals try (exfalso; omega)
  · rw [if_pos (by omega)]; exact Frz.eq rfl (by simp)
  · rw [if_neg (by omega)]; exact Frz.eq rfl (by simp)
end Go.Proofs.YtolgelipcgcbhaaGreat
namespace Go.Proofs.YtolgelipcgcbhaaGreat
open Go.Abs
open Nat (reduceAdd reduceSub reduceLT reduceLeDiff reduceMul reduceEqDiff)
open Nat renaming reduceAdd→W0,reduceSub→W1,reduceLT→W2,reduceLeDiff→W3,reduceMul→W4,reduceEqDiff→W5
open Go.Abs renaming vcC→Q0,lateX→Q1,strp→Q2,binA→Q3,elems→Q4,cells→Q5,scalar→Q6,eqC→Q7,keyA→Q8,intsA→Q9,lookA→QA,ofVs→QB,mpOf→QC
set_option linter.unusedVariables false
set_option linter.unusedSimpArgs false
set_option maxHeartbeats 4000000
set_option maxRecDepth 100000
def c139:CF:=⟨20,(jo [jn 2] [0]
 (jo [jn 3] [0,3]
 (.seq (jo [jc 4 0] [0,3,4]
 (.block 0 (.loop (.seq (jo [jm 5 4,jm 6 0,je 7 6,jt .lss 8 5 7] [0,3,4,8]
 (.cond (.t 8) .skip
 (.exit 0)))
 (.seq (.block 1 (.ops [jm 11 3,jm 12 0,jm 13 4,ji 14 38 12 13,jk 15 38 14,jy 16 92 [15],jw 17 (.bsl false 29 2 1 [.int .i64 0,.int .i64 0] [(0,2,(.t 16))]),jw 18 (.app 29 2 16 (.t 11) (.t 17)),jm 3 18] [0,3,4]))
 (.ops [jm 9 4,ju .add 10 9 1,jm 4 10] [0,3,4]))))))
 (jo [jm 19 3,jm 2 19] [2]
 .ret)))),[.t 2]⟩
theorem k139:chkF Tryz.prog Tryz.f139 c139=true:=by kernel_rfl
def c160:CF:=⟨49,(jo [jn 2] [0]
 (jo [jn 3] [0,3]
 (.seq (jo [jc 4 0] [0,3,4]
 (.block 0 (.loop (.seq (jo [jm 7 4,jm 8 0,je 9 8,jt .lss 10 7 9] [0,3,4,10]
 (.cond (.t 10) .skip
 (.exit 0)))
 (.seq (.block 1 (jo [jm 13 3,je 14 13,jm 5 14] [0,3,4,5]
 (.seq (.block 2 (.loop (.seq (.seq (.draw [jm 15 5,ju .gtr 16 15 0,jm 17 16,ja 17 (jm 18 0),ja 17 (jm 19 4),ja 17 (ji 20 38 18 19),ja 17 (jk 21 38 20),ja 17 (jm 22 3),ja 17 (jm 23 5),ja 17 (ju .sub 24 23 1),ja 17 (ji 25 38 22 24),ja 17 (jk 26 38 25),ja 17 (jy 27 48 [21,26]),jp 28 17 27] [] [0,3,4,5,28])
 (.cond (.t 28) .skip
 (.exit 2)))
 (.block 3 (.ops [jm 29 5,ju .sub 30 29 1,jm 5 30] [0,3,4,5])))))
 (jo [jw 31 (.bsl true 68 38 0 [] []),jm 32 3,jm 33 5,jw 34 (.slice 38 (.t 32) none (some (.t 33))),jw 35 (.app 68 38 368 (.t 31) (.t 34)),jm 6 35] [0,3,4,5,6]
 (jo [jm 36 6,jm 37 0,jm 38 4,ji 39 38 37 38,jk 40 38 39,jw 41 (.bsl false 68 38 1 z38 [(0,38,(.t 40))]),jw 42 (.app 68 38 368 (.t 36) (.t 41)),jm 6 42] [0,3,4,5,6]
 (.ops [jm 43 6,jm 44 3,jm 45 5,jw 46 (.slice 38 (.t 44) (some (.t 45)) none),jw 47 (.app 68 38 368 (.t 43) (.t 46)),jm 3 47] [0,3,4]))))))
 (.ops [jm 11 4,ju .add 12 11 1,jm 4 12] [0,3,4]))))))
 (jo [jm 48 3,jm 2 48] [2]
 .ret)))),[.t 2]⟩
theorem k160:chkF Tryz.prog Tryz.f160 c160=true:=by kernel_rfl
def c91:CF:=⟨58,(jo [jn 2] [0]
 (jo [jn 3] [0,3]
 (.seq (jo [jc 4 0] [0,3,4]
 (.block 0 (.loop (.seq (jo [jm 7 4,jm 8 0,je 9 8,jt .lss 10 7 9] [0,3,4,10]
 (.cond (.t 10) .skip
 (.exit 0)))
 (.seq (.block 1 (jo [jm 13 0,jm 14 4,ji 15 38 13 14,jf 16 4 15,jl 17 16,ju .eql 18 17 7,jm 5 18] [0,3,4,5]
 (.seq (jo [jc 6 0] [0,3,4,5,6]
 (.block 2 (.loop (.seq (jo [jm 19 6,jm 20 0,je 21 20,jt .lss 22 19 21] [0,3,4,5,6,22]
 (.cond (.t 22) .skip
 (.exit 2)))
 (.seq (.block 3 (.draw [jm 25 5,jm 26 25,jd 26 (jm 27 0),jd 26 (jm 28 6),jd 26 (ji 29 38 27 28),jd 26 (jf 30 4 29),jd 26 (jl 31 30),jd 26 (ju .eql 32 31 7),jd 26 (jm 33 32),ja 33 (jm 34 0),ja 33 (jm 35 6),ja 33 (ji 36 38 34 35),ja 33 (jf 37 36 36),ja 33 (jk 38 2 37),ja 33 (jm 39 0),ja 33 (jm 40 4),ja 33 (ji 41 38 39 40),ja 33 (jk 42 38 41),ja 33 (jy 43 92 [42]),⟨some 44,.eqs false [some .i64,some .i64] (.t 38) (.t 43),some (33,true)⟩,jd 26 (jp 45 33 44),jq 46 26 45] [jm 5 46] [0,3,4,5,6]))
 (.ops [jm 23 6,ju .add 24 23 1,jm 6 24] [0,3,4,5,6]))))))
 (jo [jm 47 5,jv 48 47] [0,3,4,48]
 (.cond (.t 48) (.ops [jm 49 3,jm 50 0,jm 51 4,ji 52 38 50 51,jk 53 38 52,jw 54 (.bsl false 68 38 1 z38 [(0,38,(.t 53))]),jw 55 (.app 68 38 368 (.t 49) (.t 54)),jm 3 55] [0,3,4])
 .skip)))))
 (.ops [jm 11 4,ju .add 12 11 1,jm 4 12] [0,3,4]))))))
 (jo [jm 56 3,jy 57 160 [56],jm 2 57] [2]
 .ret)))),[.t 2]⟩
theorem k91:chkF Tryz.prog Tryz.f91 c91=true:=by kernel_rfl
theorem AWPC.nil0 {P:Program} {N:Nat} {rd:Option Nat} {K:Kont} {env:Env} {σ:Sto} {c:C} (k t:Nat) (ht:gt env t=.v (.slice none 0 0)) (h:AWPC P N rd c K ((t,.sl k [])::env) σ):AWPC P N rd c K env σ:=by
  intro code hc n0 X β a w hst
  refine h code hc n0 X β a w { hst with ev:=fun s=>?_ }
  simp only [gt]
  by_cases hs:t=s
  · subst hs
    simp only [beq_self_eq_true,cond_true]
    have:=hst.ev t
    rw [ht] at this
    exact this.nil
  · have:(t == s)=false:=by simpa using hs
    simp only [this,cond_false]
    exact hst.ev s
theorem rNames_spec (l:List Nt) (hl:l.length < 4294967296):Pure Tryz.prog 139 [ntS l] (nmS (l.map Nt.nm)):=by
  refine Pure.of_body Tryz.call139 Tryz.func139 k139 (Nat.le_of_ble_eq_true rfl) ?_
  unfold c139
  ((refine Au ?_;repeat' constructor)<;>intros<;>refine hD_ ?_)
  refine AWPC.own0 29 2 3 rfl ?_
  refine AWPC.loopE (α:={ x:Nat × Sto // x.1≤l.length }) [3,4] (fun x=>[(3,.own 0 0 x.1.1),(4,n x.1.1)]) (fun x=>some [⟨29,2,((l.take x.1.1).map Nt.nm).map Nm.cs,none⟩]::x.1.2) (fun x=>l.length - x.1.1) ⟨(0,[]),Nat.zero_le _⟩ ?_ rfl ?_
  · (simp only [zN,zT,zV,zS,zU,Q0,Q1,ex,Q2,Q3,Q4,Q5,Q6,Q7,Q8,Q9,QA,QB,QC,Nat.reduceBEq,W0,W1,W2,W3,W4,W5,reduceIte]; try simp)
  · rintro ⟨⟨i,μ⟩,hi⟩
    simp only at hi
    generalize hM:((l.take i).map Nt.nm).map Nm.cs=M
    have hMl:M.length=i:=by rw [← hM]; simp; omega
    by_cases hlt:i < l.length
    · have hx:(l.map Nt.cs).getD i []=Nt.cs (l.getD i nt0):=row nt0 hlt
      have hN:((l.take (i+1)).map Nt.nm).map Nm.cs=M++[(l.getD i nt0).nm.cs]:=by rw [List.take_add_one,getD_lt nt0 hlt,← hM]; simp
      have hc:=rName_spec (l.getD i nt0)
      generalize l.getD i nt0=x at hx hN hc
      ((refine Az (And.intro @hx @hMl) @hc ?_;repeat' constructor)<;>intros<;>refine hD_ ?_)
      all_goals try (exfalso; omega)
      exact ⟨⟨(i+1,μ),hlt⟩,by simp,by simpa using hN.symm,by simp only; omega⟩
    · obtain rfl:i=l.length:=by omega
      rw [List.take_length] at hM
      ((refine Au ?_;repeat' constructor)<;>intros<;>refine hD_ ?_)
      all_goals try (exfalso; omega)
      all_goals exact Frz.ownL (cs:=Nm.cs) (by rw [hM]; rfl) (by simp) (by decide) (fun a=>by simp) (fun a=>rfl)
theorem ins_at {x:Nt}:∀ {o:List Nt} {k:Nat},o.Pairwise (fun a b=>0≤cmpT b a)→k≤o.length→(∀ j,k≤j→j < o.length→cmpT x (o.getD j nt0) < 0)→(0 < k→¬ cmpT x (o.getD (k - 1) nt0) < 0)→insT x o=o.take k++x::o.drop k
  | [],k,_,hk,_,_=>by
    obtain rfl:k=0:=by simpa using hk
    rfl
  | y::r,0,_,_,h1,_=>by
    have:cmpT x y < 0:=h1 0 (Nat.le_refl _) (by simp)
    unfold insT
    rw [if_pos this]; rfl
  | y::r,k+1,hs,hk,h1,h2=>by
    rw [List.pairwise_cons] at hs
    have hy:¬ cmpT x y < 0:=fun h=>by
      have h3:=h2 (Nat.succ_pos _)
      cases k with
      | zero=>exact h3 h
      | succ k =>
        have hkr:k < r.length:=by simp only [List.length_cons] at hk; omega
        have h4:0≤cmpT (r.getD k nt0) y:=hs.1 _ (List.mem_of_getElem? (getD_lt nt0 hkr))
        have h5:¬ cmpT x (r.getD k nt0) < 0:=by simpa using h3
        rw [cmpT_lt] at h h5
        have h6:¬ cmpT (r.getD k nt0) y < 0:=by omega
        rw [cmpT_lt] at h6
        omega
    unfold insT
    rw [if_neg hy,List.take_succ_cons,List.drop_succ_cons,List.cons_append]
    congr 1
    refine ins_at hs.2 (by simpa using hk) (fun j hj hjl=>?_) (fun h0=>?_)
    · have:=h1 (j+1) (by omega) (by simpa using hjl)
      simpa using this
    · have:=h2 (Nat.succ_pos _)
      obtain ⟨m,rfl⟩:∃ m,k=m+1:=⟨k - 1,by omega⟩
      simpa using this
theorem srtT_next {l:List Nt} {i:Nat} {a:Nt} (h:l[i]?=some a):srtT (l.take (i+1))=insT a (srtT (l.take i)):=by
  unfold srtT
  rw [List.take_add_one,h,Option.toList_some,List.foldl_append]; rfl
theorem rOrdered_spec (l:List Nt) (hl:l.length < 4294967296):Pure Tryz.prog 160 [ntS l] (ntS (srtT l)):=by
  refine Pure.of_body Tryz.call160 Tryz.func160 k160 (Nat.le_of_ble_eq_true rfl) ?_
  unfold c160
  ((refine Au ?_;repeat' constructor)<;>intros<;>refine hD_ ?_)
  refine AWPC.nil0 38 3 rfl ?_
  refine AWPC.loopE (α:={ x:Nat × Sto // x.1≤l.length }) [3,4] (fun x=>[(3,ntS (srtT (l.take x.1.1))),(4,n x.1.1)]) (fun x=>x.1.2) (fun x=>l.length - x.1.1) ⟨(0,[]),Nat.zero_le _⟩ ?_ rfl ?_
  · (simp only [zN,zT,zV,zS,zU,Q0,Q1,ex,Q2,Q3,Q4,Q5,Q6,Q7,Q8,Q9,QA,QB,QC,Nat.reduceBEq,W0,W1,W2,W3,W4,W5,reduceIte]; try simp)
    rfl
  · rintro ⟨⟨i,μ⟩,hi⟩
    simp only at hi
    by_cases hlt:i < l.length
    · have ha:=getD_lt nt0 hlt
      have hx:(l.map Nt.cs).getD i []=Nt.cs (l.getD i nt0):=row nt0 hlt
      have hN:=srtT_next ha
      have hsr:=srtT_le (l.take i)
      have hol:(srtT (l.take i)).length=i:=by rw [(srtT_perm _).length_eq,List.length_take]; omega
      have hins:=@ins_at (l.getD i nt0) (srtT (l.take i))
      generalize l.getD i nt0=x at hx hN hins ha
      generalize srtT (l.take i)=o at hsr hN hol hins
      ((refine Au ?_;repeat' constructor)<;>intros<;>refine hD_ ?_)
      all_goals try (exfalso; omega)
      refine AWPC.loopS (α:={ k:Nat // k≤i∧∀ j,k≤j→j < i→cmpT x (o.getD j nt0) < 0 }) [5] (fun k=>[(5,n k.1)]) (fun k=>k.1) ⟨i,Nat.le_refl _,fun j h1 h2=>by omega⟩ ?_ ?_
      · (simp only [zN,zT,zV,zS,zU,Q0,Q1,ex,Q2,Q3,Q4,Q5,Q6,Q7,Q8,Q9,QA,QB,QC,Nat.reduceBEq,W0,W1,W2,W3,W4,W5,reduceIte]; try simp)
        omega
      · rintro ⟨k,hk,hI⟩
        try simp only at hk hI
        have fin:(0 < k→¬ cmpT x (o.getD (k - 1) nt0) < 0)→insT x o=o.take k++x::o.drop k:=fun h=>hins hsr (by omega) (fun j h1 h2=>hI j h1 (by omega)) h
        by_cases h0:0 < k
        · have hrow:(o.map Nt.cs).getD ((k:Int) - 1).toNat []=Nt.cs (o.getD (k - 1) nt0):=by
            rw [show ((k:Int) - 1).toNat=k - 1 by omega]; exact row nt0 (by omega)
          have hb:=rBefore_spec x (o.getD (k - 1) nt0)
          by_cases hc:cmpT x (o.getD (k - 1) nt0) < 0
          · rw [decide_eq_true hc] at hb
            generalize hy:o.getD (k - 1) nt0=y at hrow hb hc
            ((refine Az (And.intro @hx @hrow) @hb ?_;repeat' constructor)<;>intros<;>refine hD_ ?_)
            all_goals try (exfalso; omega)
            refine ⟨⟨k - 1,by omega,fun j h1 h2=>?_⟩,?_,by simp only; omega⟩
            · rcases (show j=k - 1∨k≤j by omega) with rfl | h3
              · rw [hy]; exact hc
              · exact hI j h3 h2
            · simp; omega
          · have hF:=fin fun _=>hc
            rw [decide_eq_false hc] at hb
            generalize o.getD (k - 1) nt0=y at hrow hb
            clear hins fin hsr
            iterate 5
              ((first
 | refine vn rfl ?_
 | simp (disch:=omega) only [wr64,Int.zero_sub]
 | refine bo (fun _=>?_) fun _=>?_
 | refine im fun _=>?_
 | ((repeat refine si ?_); (first | ((first | refine .inl ⟨_,_,_,_,rfl,fun _=>pu hb,?_⟩ | refine ⟨_,_,_,_,rfl,fun _=>pu hb,?_⟩); (first | refine o1 ?_ | refine o2 ?_ | refine o3 ?_ | refine o4 ?_)) | refine .inl ⟨_,_,_,_,rfl,pu hb,?_⟩))
 | refine cF ?_
 | refine om ?_
 | refine an ?_
 | fail) <;> try simp only [zN, zT, zV, zS, zU, vcC, lateX, ex, strp, binA, elems, cells, scalar, eqC, keyA, intsA, lookA, ofVs, mpOf, Nat.reduceBEq, reduceAdd, reduceSub, reduceLT, reduceLeDiff, reduceMul, reduceEqDiff, reduceIte, hx, hrow, hol, List.length_map])
            clear hI hc hb hrow h0
            obtain ⟨P,hP⟩:∃ P,P=o.take k:=⟨_,rfl⟩
            obtain ⟨Q,hQ⟩:∃ Q,Q=o.drop k:=⟨_,rfl⟩
            have hPm:List.take k (o.map Nt.cs)=P.map Nt.cs:=by rw [hP,List.map_take]
            have hQm:List.drop k (List.take i (o.map Nt.cs))=Q.map Nt.cs:=by rw [hQ,List.map_drop,List.take_of_length_le (by rw [List.length_map]; omega)]
            have hPl:P.length=k:=by rw [hP,List.length_take]; omega
            have hQl:Q.length=i - k:=by rw [hQ,List.length_drop]; omega
            have hPr:∀ e,e < k→((P.map Nt.cs).getD e []).length=38:=fun e he=>by rw [row nt0 (by omega)]; rfl
            have hQr:∀ e,e < i - k→((Q.map Nt.cs).getD e []).length=38:=fun e he=>by rw [row nt0 (by omega)]; rfl
            rw [← hP,← hQ] at hF
            clear hP hQ
            iterate 2
              ((first
 | refine vn rfl ?_
 | simp (disch:=omega) only [wr64,Int.zero_sub]
 | refine bo (fun _=>?_) fun _=>?_
 | refine im fun _=>?_
 | refine cF ?_
 | refine om ?_
 | refine an ?_
 | fail) <;> try simp only [zN, zT, zV, zS, zU, vcC, lateX, ex, strp, binA, elems, cells, scalar, eqC, keyA, intsA, lookA, ofVs, mpOf, Nat.reduceBEq, reduceAdd, reduceSub, reduceLT, reduceLeDiff, reduceMul, reduceEqDiff, reduceIte, hx, hPm, hQm, hPl, hQl, hol, List.length_map, Option.toList, List.append_nil, List.nil_append, List.cons_append])
            refine ⟨⟨hPr,by omega⟩,?_⟩
            iterate 5
              ((first
 | refine vn rfl ?_
 | simp (disch:=omega) only [wr64,Int.zero_sub]
 | refine bo (fun _=>?_) fun _=>?_
 | refine im fun _=>?_
 | refine cF ?_
 | refine om ?_
 | refine an ?_
 | fail) <;> try simp only [zN, zT, zV, zS, zU, vcC, lateX, ex, strp, binA, elems, cells, scalar, eqC, keyA, intsA, lookA, ofVs, mpOf, Nat.reduceBEq, reduceAdd, reduceSub, reduceLT, reduceLeDiff, reduceMul, reduceEqDiff, reduceIte, hx, hPm, hQm, hPl, hQl, hol, List.length_map, Option.toList, List.append_nil, List.nil_append, List.cons_append])
            refine ⟨⟨hQr,by omega⟩,?_⟩
            refine AWPC.freeze1 (f:=μ.length) (t:=3) (o:=⟨68,38,(P++x::Q).map Nt.cs,none⟩) rfl (by rw [at_app0]; simp [at_cons0]) (by simp; omega) (show (38:Nat)≠0 by decide) ?_
            rw [← hF,← hN]
            generalize gone _ _=ν
            ((refine Au ?_;repeat' constructor)<;>intros<;>refine hD_ ?_)
            all_goals try (exfalso; omega)
            all_goals exact ⟨⟨(i+1,ν),hlt⟩,by simp,rfl,by simp only; omega⟩
        · have hF:=fin fun h=>absurd h h0
          have hg0:¬ (0:Int) < (k:Int):=by omega
          have hrw:((o.map Nt.cs).getD ((k:Int) - 1).toNat []=[])∨∃ y:Nt,(o.map Nt.cs).getD ((k:Int) - 1).toNat []=y.cs:=by
            by_cases h:((k:Int) - 1).toNat < o.length
            · exact .inr ⟨_,row nt0 h⟩
            · exact .inl (by rw [List.getD_eq_getElem?_getD,List.getElem?_eq_none (by rw [List.length_map]; omega)]; rfl)
          rcases hrw with hrow | ⟨y,hrow⟩
          all_goals
            iterate 5
              ((first
 | refine vn rfl ?_
 | simp (disch:=omega) only [wr64,Int.zero_sub]
 | refine bo (fun _=>?_) fun _=>?_
 | refine im fun _=>?_
 | refine cF ?_
 | refine cG ?_
 | refine om ?_
 | refine an ?_
 | fail) <;> try simp only [zN, zT, zV, zS, zU, vcC, lateX, ex, strp, binA, elems, cells, scalar, eqC, keyA, intsA, lookA, ofVs, mpOf, Nat.reduceBEq, reduceAdd, reduceSub, reduceLT, reduceLeDiff, reduceMul, reduceEqDiff, reduceIte, hx, hg0, hol, hrow, List.length_map])
            clear hI h0 hg0 hins fin hsr hrow
            obtain ⟨P,hP⟩:∃ P,P=o.take k:=⟨_,rfl⟩
            obtain ⟨Q,hQ⟩:∃ Q,Q=o.drop k:=⟨_,rfl⟩
            have hPm:List.take k (o.map Nt.cs)=P.map Nt.cs:=by rw [hP,List.map_take]
            have hQm:List.drop k (List.take i (o.map Nt.cs))=Q.map Nt.cs:=by rw [hQ,List.map_drop,List.take_of_length_le (by rw [List.length_map]; omega)]
            have hPl:P.length=k:=by rw [hP,List.length_take]; omega
            have hQl:Q.length=i - k:=by rw [hQ,List.length_drop]; omega
            have hPr:∀ e,e < k→((P.map Nt.cs).getD e []).length=38:=fun e he=>by rw [row nt0 (by omega)]; rfl
            have hQr:∀ e,e < i - k→((Q.map Nt.cs).getD e []).length=38:=fun e he=>by rw [row nt0 (by omega)]; rfl
            rw [← hP,← hQ] at hF
            clear hP hQ
            iterate 2
              ((first
 | refine vn rfl ?_
 | simp (disch:=omega) only [wr64,Int.zero_sub]
 | refine bo (fun _=>?_) fun _=>?_
 | refine im fun _=>?_
 | refine cF ?_
 | refine om ?_
 | refine an ?_
 | fail) <;> try simp only [zN, zT, zV, zS, zU, vcC, lateX, ex, strp, binA, elems, cells, scalar, eqC, keyA, intsA, lookA, ofVs, mpOf, Nat.reduceBEq, reduceAdd, reduceSub, reduceLT, reduceLeDiff, reduceMul, reduceEqDiff, reduceIte, hx, hPm, hQm, hPl, hQl, hol, List.length_map, Option.toList, List.append_nil, List.nil_append, List.cons_append])
            refine ⟨⟨hPr,by omega⟩,?_⟩
            iterate 5
              ((first
 | refine vn rfl ?_
 | simp (disch:=omega) only [wr64,Int.zero_sub]
 | refine bo (fun _=>?_) fun _=>?_
 | refine im fun _=>?_
 | refine cF ?_
 | refine om ?_
 | refine an ?_
 | fail) <;> try simp only [zN, zT, zV, zS, zU, vcC, lateX, ex, strp, binA, elems, cells, scalar, eqC, keyA, intsA, lookA, ofVs, mpOf, Nat.reduceBEq, reduceAdd, reduceSub, reduceLT, reduceLeDiff, reduceMul, reduceEqDiff, reduceIte, hx, hPm, hQm, hPl, hQl, hol, List.length_map, Option.toList, List.append_nil, List.nil_append, List.cons_append])
            refine ⟨⟨hQr,by omega⟩,?_⟩
            refine AWPC.freeze1 (f:=μ.length) (t:=3) (o:=⟨68,38,(P++x::Q).map Nt.cs,none⟩) rfl (by rw [at_app0]; simp [at_cons0]) (by simp; omega) (show (38:Nat)≠0 by decide) ?_
            rw [← hF,← hN]
            generalize gone _ _=ν
            ((refine Au ?_;repeat' constructor)<;>intros<;>refine hD_ ?_)
            all_goals try (exfalso; omega)
            all_goals exact ⟨⟨(i+1,ν),hlt⟩,by simp,rfl,by simp only; omega⟩
    · obtain rfl:i=l.length:=by omega
      rw [List.take_length]
      ((refine Au ?_;repeat' constructor)<;>intros<;>refine hD_ ?_)
      all_goals try (exfalso; omega)
      all_goals exact Frz.eq rfl (by simp)
theorem rStanding_spec (l:List Nt) (hl:l.length < 4294967296) (hn:(l.map Nt.nm).Nodup):Pure Tryz.prog 91 [ntS l] (ntS (standT l)):=by
  refine Pure.of_body Tryz.call91 Tryz.func91 k91 (Nat.le_of_ble_eq_true rfl) ?_
  unfold c91
  rw [← stand_filter hn]
  obtain ⟨q,hq⟩:∃ q:Nt→Bool,q=fun a=>a.kind != 7 && !goneT l a.nm:=⟨_,rfl⟩
  rw [← hq]
  have ho:=rOrdered_spec (l.filter q) (Nat.lt_of_le_of_lt (List.length_filter_le _ _) hl)
  ((refine Au ?_;repeat' constructor)<;>intros<;>refine hD_ ?_)
  refine AWPC.own0 68 38 3 rfl ?_
  refine AWPC.loopE (α:={ x:Nat × List Nt × Sto // x.1≤l.length∧x.2.1=(l.take x.1).filter q }) [3,4] (fun x=>[(3,.own 0 0 x.1.2.1.length),(4,n x.1.1)]) (fun x=>some [⟨68,38,x.1.2.1.map Nt.cs,none⟩]::x.1.2.2) (fun x=>l.length - x.1.1) ⟨(0,[],[]),Nat.zero_le _,by simp⟩ ?_ rfl ?_
  · (simp only [zN,zT,zV,zS,zU,Q0,Q1,ex,Q2,Q3,Q4,Q5,Q6,Q7,Q8,Q9,QA,QB,QC,Nat.reduceBEq,W0,W1,W2,W3,W4,W5,reduceIte]; try simp)
  · rintro ⟨⟨i,W,μ⟩,hi,hW⟩
    simp only at hi hW
    have hWl:W.length≤i:=by rw [hW]; exact Nat.le_trans (List.length_filter_le _ _) (by rw [List.length_take]; omega)
    by_cases hlt:i < l.length
    · have ha:=getD_lt nt0 hlt
      have hx:(l.map Nt.cs).getD i []=Nt.cs (l.getD i nt0):=row nt0 hlt
      have hN:(l.take (i+1)).filter q=if q (l.getD i nt0) then W++[l.getD i nt0] else W:=by rw [hW]; exact filter_next ha
      have hc:=rName_spec (l.getD i nt0)
      generalize l.getD i nt0=x at hx hN hc
      have hqx:q x=(!(decide (x.kind=7) || l.any fun y=>decide (y.kind=7) && decide (y.ref=x.nm))):=by
        rw [hq]; simp only [goneT,Bool.not_or,bne,BEq.beq]
      obtain ⟨G,hG0⟩:∃ G:Nat→Bool,G=fun k=>decide (x.kind=7) || (l.take k).any fun y=>decide (y.kind=7) && decide (y.ref=x.nm):=⟨_,rfl⟩
      have hGz:G 0=decide (x.kind=7):=by rw [hG0]; simp
      have hGl:q x=!G l.length:=by rw [hqx,hG0]; simp only [List.take_length]
      ((refine Ax @hx ?_;repeat' constructor)<;>intros<;>refine hD_ ?_)
      all_goals try (exfalso; omega)
      refine AWPC.loopS (α:={ k:Nat // k≤l.length }) [5,6] (fun k=>[(5,bl (G k.1)),(6,n k.1)]) (fun k=>l.length - k.1) ⟨0,Nat.zero_le _⟩ ?_ ?_
      · (simp only [zN,zT,zV,zS,zU,Q0,Q1,ex,Q2,Q3,Q4,Q5,Q6,Q7,Q8,Q9,QA,QB,QC,Nat.reduceBEq,W0,W1,W2,W3,W4,W5,reduceIte]; try simp)
        rw [hGz]
      · rintro ⟨k,hk⟩
        try simp only at hk
        by_cases hkl:k < l.length
        · have hy:(l.map Nt.cs).getD k []=Nt.cs (l.getD k nt0):=row nt0 hkl
          have hG:G (k+1)=(G k || (decide ((l.getD k nt0).kind=7) && decide ((l.getD k nt0).ref=x.nm))):=by
            rw [hG0]
            simp only [List.take_add_one,getD_lt nt0 hkl,Option.toList_some,List.any_append,List.any_cons,List.any_nil,Bool.or_false,Bool.or_assoc]
          clear hG0 hGz hGl hqx
          generalize l.getD k nt0=y at hy hG
          have hr:decide (y.ref=x.nm)=(decide (y.ref.clerk=x.clerk) && decide (y.ref.num=x.num)):=by
            obtain ⟨_,_,_,_,_,_,_,_,_,_,_,⟨_,_⟩⟩:=y
            rw [Bool.eq_iff_iff]; simp
          rw [hr] at hG
          clear hr
          generalize hg:G k=g at hG
          cases g with
          | true =>
            rw [Bool.true_or] at hG
            ((refine Az (And.intro @hx (And.intro @hy @hg)) @hc ?_;repeat' constructor)<;>intros<;>refine hD_ ?_)
            all_goals try (exfalso; omega)
            all_goals exact ⟨⟨k+1,hkl⟩,⟨by simp [hG],by simp⟩,by simp only; omega⟩
          | false =>
            by_cases h7:y.kind=7
            · rw [Bool.false_or,decide_eq_true h7,Bool.true_and] at hG
              ((refine Az (And.intro @hx (And.intro @hy (And.intro @h7 @hg))) @hc ?_;repeat' constructor)<;>intros<;>refine hD_ ?_)
              all_goals try (exfalso; omega)
              all_goals exact ⟨⟨k+1,hkl⟩,⟨by simp [hG],by simp⟩,by simp only; omega⟩
            · rw [Bool.false_or,decide_eq_false h7,Bool.false_and] at hG
              ((refine Az (And.intro @hx (And.intro @hy (And.intro @h7 @hg))) @hc ?_;repeat' constructor)<;>intros<;>refine hD_ ?_)
              all_goals try (exfalso; omega)
              all_goals exact ⟨⟨k+1,hkl⟩,⟨by simp [hG],by simp⟩,by simp only; omega⟩
        · obtain rfl:k=l.length:=by omega
          rw [hGl] at hN
          clear hG0 hGz hqx hGl
          generalize hg:G l.length=g at hN
          cases g with
          | true =>
            ((refine Ax (And.intro @hx @hg) ?_;repeat' constructor)<;>intros<;>refine hD_ ?_)
            all_goals try (exfalso; omega)
            exact ⟨⟨(i+1,W,μ),hlt,by rw [hN]; rfl⟩,by simp,by simp,by simp only; omega⟩
          | false =>
            ((refine Ax (And.intro @hx @hg) ?_;repeat' constructor)<;>intros<;>refine hD_ ?_)
            all_goals try (exfalso; omega)
            exact ⟨⟨(i+1,W++[x],μ),hlt,by rw [hN]; rfl⟩,by simp,by simp,by simp only; omega⟩
    · obtain rfl:i=l.length:=by omega
      rw [List.take_length] at hW
      subst hW
      iterate 2
        ((first
 | refine vn rfl ?_
 | simp (disch:=omega) only [wr64,Int.zero_sub]
 | refine bo (fun _=>?_) fun _=>?_
 | refine im fun _=>?_
 | refine cF ?_
 | refine om ?_
 | refine an ?_
 | fail) <;> try simp only [zN,zT,zV,zS,zU,Q0,Q1,ex,Q2,Q3,Q4,Q5,Q6,Q7,Q8,Q9,QA,QB,QC,Nat.reduceBEq,W0,W1,W2,W3,W4,W5,reduceIte])
      refine AWPC.freeze1 (t:=3) (f:=0) rfl rfl (by simp) (by simp) ?_
      ((refine Ay @ho ?_;repeat' constructor)<;>intros<;>refine hD_ ?_)
      all_goals exact Frz.eq rfl (by simp)
end Go.Proofs.YtolgelipcgcbhaaGreat
namespace Go.Abs
set_option linter.unusedVariables false
set_option linter.unusedSimpArgs false
theorem mks_mem {S:List Nt} {m:Nm} {k:Nt} (h:k∈mks S m):k∈S∧k.kind=2∧k.ref=m∧cnt S k=true:=by
  unfold mks at h
  rw [List.mem_filter] at h
  obtain ⟨h1,h2⟩:=h
  simp only [Bool.and_eq_true,kd_iff,onT,decide_eq_true_eq] at h2
  exact ⟨h1,h2.1,h2.2.1,h2.2.2⟩
theorem mks_len {S:List Nt} (hn:(S.map Nt.nm).Nodup) (m:Nm):(mks S m).length≤64:=by
  cases hl:(mks S m).getLast? with
  | none=>rw [List.getLast?_eq_none_iff] at hl; simp [hl]
  | some k =>
    obtain ⟨p,hp⟩:=List.getLast?_eq_some_iff.1 hl
    have hk:=mks_mem (List.mem_of_getLast? hl)
    have h0:S.filter (fun k=>kd 2 k && (onT m k && cnt S k))=p++k::[]:=hp
    obtain ⟨h1,_,_⟩:=bef_filter hn h0
    have hc:=hk.2.2.2
    unfold cnt at hc
    simp only [Bool.and_eq_true,decide_eq_true_eq] at hc
    have h2:p.length≤((bef S k).filter fun x=>kd 2 x && (onT k.ref x && mkd S x)).length:=by
      have e:p=((bef S k).filter fun x=>kd 2 x && (onT k.ref x && mkd S x)).filter (fun x=>cnt S x):=by
        rw [← h1,ff]
        refine List.filter_congr fun x hx=>?_
        rw [hk.2.2.1]
        unfold cnt
        cases kd 2 x <;> cases onT m x <;> cases mkd S x <;> simp
      rw [e]; exact List.length_filter_le _ _
    rw [show mks S m=p++[k] from hp,List.length_append,List.length_singleton]
    omega
theorem standT_perm (l:List Nt):(standT l).Perm ((l.filter fun a=>a.kind != 7).filter fun a=>!goneT l a.nm):=(srtT_perm _).filter _
def findR (S:List Nt) (m:Nm):Option Nat:=S.findIdx? fun a=>decide (a.nm=m)
def sheetR (S:List Nt) (m:Nm):Option Nat:=match findR S m with
  | none=>none
  | some i=>if (S.getD i nt0).kind=1 then some i else none
def colR (s:Nt) (c:Int):Bool:=decide (0≤c∧c≤(s.sheet.rates.length:Int))
def cntR (S:List Nt) (i:Nat):Bool:=match sheetR S (S.getD i nt0).ref with
  | none=>false
  | some k=>colR (S.getD k nt0) (S.getD i nt0).mark.col && decide (((S.take i).filter fun a=>kd 2 a && (onT (S.getD i nt0).ref a && colR (S.getD k nt0) a.mark.col)).length < 64)
def corR (S:List Nt) (i:Nat):Bool:=match findR S (S.getD i nt0).ref with
  | none=>false
  | some k=>if (S.getD i nt0).read.stn≠0 then kd 3 (S.getD k nt0) else kd 2 (S.getD k nt0) && (cntR S k && (match sheetR S (S.getD k nt0).ref with
    | none=>false
    | some s=>colR (S.getD s nt0) (S.getD i nt0).mark.col))
def knwR (S:List Nt) (i k:Nat):Nat:=(List.range k).foldl (fun o k=>if kd 6 (S.getD k nt0) && (onT (S.getD i nt0).nm (S.getD k nt0) && corR S k) then k else o) i
theorem findR_some {S:List Nt} {m:Nm} {i:Nat} (h:findR S m=some i):i < S.length∧(S.getD i nt0).nm=m:=by
  obtain ⟨h1,h2,_⟩:=List.findIdx?_eq_some_iff_getElem.1 h
  refine ⟨h1,?_⟩
  rw [List.getD_eq_getElem?_getD,List.getElem?_eq_getElem h1]
  simpa using h2
theorem findR_none {S:List Nt} {m:Nm} (h:findR S m=none):∀ a∈S,a.nm≠m:=by
  intro a ha
  have:=List.findIdx?_eq_none_iff.1 h a ha
  simpa using this
section
variable {S:List Nt} (hn:(S.map Nt.nm).Nodup)
include hn
theorem find_fq (m:Nm):fq S (fun _=>true) m=(findR S m).map fun i=>S.getD i nt0:=by
  cases h:findR S m with
  | none=>exact fq_none.2 fun a ha e=>absurd e (findR_none h a ha)
  | some i =>
    obtain ⟨h1,h2⟩:=findR_some h
    exact (fq_some hn).2 ⟨List.mem_of_getElem? (getD_lt nt0 h1),h2,rfl⟩
theorem sheet_sh (m:Nm):shN S m=(sheetR S m).map fun i=>S.getD i nt0:=by
  unfold sheetR
  cases h:findR S m with
  | none=>exact fq_none.2 fun a ha e=>absurd e (findR_none h a ha)
  | some i =>
    obtain ⟨h1,h2⟩:=findR_some h
    simp only
    by_cases hk:(S.getD i nt0).kind=1
    · rw [if_pos hk]
      exact (fq_some hn).2 ⟨List.mem_of_getElem? (getD_lt nt0 h1),h2,kd_iff.2 hk⟩
    · rw [if_neg hk]
      refine fq_none.2 fun a ha e=>?_
      have:=nm_inj hn ha (List.mem_of_getElem? (getD_lt nt0 h1)) (e.trans h2.symm)
      rw [this]; exact kd_ff.2 hk
theorem bef_take {i:Nat} (hi:i < S.length):bef S (S.getD i nt0)=S.take i:=by
  have h:S=S.take i++S.getD i nt0::S.drop (i+1):=by
    have e:S.drop i=S.getD i nt0::S.drop (i+1):=by
      rw [List.drop_eq_getElem_cons hi,List.getD_eq_getElem?_getD,List.getElem?_eq_getElem hi]; rfl
    rw [← e,List.take_append_drop]
  have:=bef_app (u:=S.take i) (v:=S.drop (i+1)) (a:=S.getD i nt0) (by rw [← h]; exact hn)
  rwa [← h] at this
omit hn in
theorem colR_T {s:Nt} {c:Int} (h:0≤c):colR s c=colT s c:=by
  unfold colR colT
  simp [h]
variable (hm:∀ a∈S,(a.kind=2∨(a.kind=6∧a.read.stn=0))→0≤a.mark.col)
include hm
theorem cnt_R {i:Nat} (hi:i < S.length) (h2:(S.getD i nt0).kind=2):cntR S i=cnt S (S.getD i nt0):=by
  have ha:S.getD i nt0∈S:=List.mem_of_getElem? (getD_lt nt0 hi)
  have h0:=hm _ ha (.inl h2)
  unfold cntR cnt mkd
  rw [sheet_sh hn,bef_take hn hi]
  cases h:sheetR S (S.getD i nt0).ref with
  | none=>rfl
  | some k =>
    simp only [Option.map_some]
    rw [colR_T h0]
    congr 3
    refine congrArg List.length (List.filter_congr fun x hx=>?_)
    by_cases h2:x.kind=2
    · rw [colR_T (hm x ((List.take_sublist _ _).subset hx) (.inl h2))]
      by_cases hr:x.ref=(S.getD i nt0).ref
      · rw [sheet_sh hn,hr,h]; rfl
      · have e:onT (S.getD i nt0).ref x=false:=decide_eq_false hr
        rw [e]; simp only [Bool.false_and,Bool.and_false]
    · rw [kd_ff.2 h2]; simp only [Bool.false_and]
theorem corr_R {i:Nat} (hi:i < S.length) (h6:(S.getD i nt0).kind=6):corR S i=corr S (S.getD i nt0):=by
  have ha:S.getD i nt0∈S:=List.mem_of_getElem? (getD_lt nt0 hi)
  unfold corR corr
  rw [find_fq hn]
  cases h:findR S (S.getD i nt0).ref with
  | none=>rfl
  | some k =>
    obtain ⟨hk,hkn⟩:=findR_some h
    simp only [Option.map_some]
    by_cases h0:(S.getD i nt0).read.stn≠0
    · rw [if_pos h0,if_pos h0]
    · rw [if_neg h0,if_neg h0]
      have h00:=hm _ ha (.inr ⟨h6,by omega⟩)
      by_cases h2:(S.getD k nt0).kind=2
      · rw [cnt_R hn hm hk h2,sheet_sh hn]
        cases hs:sheetR S (S.getD k nt0).ref with
        | none=>rfl
        | some s=>simp only [Option.map_some]; rw [colR_T h00]
      · rw [kd_ff.2 h2]; simp only [Bool.false_and]
theorem knw_R {i:Nat} (hi:i < S.length):∀ k,k≤S.length→(knwR S i k < S.length∧S.getD (knwR S i k) nt0=((((S.take k).filter fun c=>kd 6 c && (onT (S.getD i nt0).nm c && corr S c)).getLast?).getD (S.getD i nt0))):=by
  intro k
  induction k with
  | zero=>intro _; exact ⟨hi,by simp [knwR]⟩
  | succ k ih =>
    intro hk
    obtain ⟨g1,g2⟩:=ih (by omega)
    have hs:knwR S i (k+1)=if kd 6 (S.getD k nt0) && (onT (S.getD i nt0).nm (S.getD k nt0) && corR S k) then k else knwR S i k:=by
      unfold knwR; rw [List.range_succ,List.foldl_append]; rfl
    have ht:S.take (k+1)=S.take k++[S.getD k nt0]:=by rw [List.take_add_one,getD_lt nt0 (show k < S.length by omega)]; rfl
    rw [hs,ht,last_snoc]
    have he:(kd 6 (S.getD k nt0) && (onT (S.getD i nt0).nm (S.getD k nt0) && corR S k))=(kd 6 (S.getD k nt0) && (onT (S.getD i nt0).nm (S.getD k nt0) && corr S (S.getD k nt0))):=by
      by_cases h6:(S.getD k nt0).kind=6
      · rw [corr_R hn hm (by omega) h6]
      · rw [kd_ff.2 h6]; simp only [Bool.false_and]
    rw [he]
    cases (kd 6 (S.getD k nt0) && (onT (S.getD i nt0).nm (S.getD k nt0) && corr S (S.getD k nt0))) with
    | true=>rw [if_pos rfl,if_pos rfl]; exact ⟨by omega,rfl⟩
    | false=>rw [if_neg (by decide),if_neg (by decide)]; exact ⟨g1,g2⟩
theorem knw_R' {i:Nat} (hi:i < S.length):knwR S i S.length < S.length∧S.getD (knwR S i S.length) nt0=knw S (S.getD i nt0):=by
  have:=knw_R hn hm hi S.length (Nat.le_refl _)
  rwa [List.take_length] at this
end
def insNm (a:Nm):List Nm→List Nm
  | []=>[a]
  | x::r=>if cmpN a x < 0 then a::x::r else x::insNm a r
def srtNm (l:List Nm):List Nm:=l.foldl (fun o a=>insNm a o) []
theorem insNm_perm (a:Nm):∀ l,(insNm a l).Perm (a::l)
  | []=>.refl _
  | x::r=>by
    unfold insNm
    split
    · exact .refl _
    · exact ((insNm_perm a r).cons x).trans (.swap a x r)
theorem srtNm_perm (l:List Nm):(srtNm l).Perm l:=by
  have:∀ (l o:List Nm),(l.foldl (fun o a=>insNm a o) o).Perm (l++o):=by
    intro l
    induction l with
    | nil=>exact fun o=>.refl _
    | cons a r ih=>exact fun o=>(ih _).trans (((insNm_perm a o).append_left r).trans List.perm_middle)
  have:=this l []
  rwa [List.append_nil] at this
theorem insNm_le {a:Nm}:∀ {l:List Nm},l.Pairwise (fun x y=>¬ cmpN y x < 0)→(insNm a l).Pairwise (fun x y=>¬ cmpN y x < 0)
  | [],_=>List.pairwise_singleton _ _
  | x::r,h=>by
    rw [List.pairwise_cons] at h
    unfold insNm
    split
    · rename_i hlt
      refine List.pairwise_cons.2 ⟨fun y hy=>?_,List.pairwise_cons.2 h⟩
      rcases List.mem_cons.1 hy with rfl | hy
      · exact cmpN_as hlt
      · have:=h.1 y hy
        rw [cmpN_lt] at this hlt ⊢
        omega
    · rename_i hlt
      refine List.pairwise_cons.2 ⟨fun y hy=>?_,insNm_le h.2⟩
      rcases List.mem_cons.1 ((insNm_perm a r).mem_iff.1 hy) with rfl | hy
      · exact hlt
      · exact h.1 y hy
theorem srtNm_le (l:List Nm):(srtNm l).Pairwise (fun x y=>¬ cmpN y x < 0):=by
  have:∀ (l o:List Nm),o.Pairwise (fun x y=>¬ cmpN y x < 0)→(l.foldl (fun o a=>insNm a o) o).Pairwise (fun x y=>¬ cmpN y x < 0):=by
    intro l
    induction l with
    | nil=>exact fun o h=>h
    | cons a r ih=>exact fun o h=>ih _ (insNm_le h)
  exact this l [] .nil
theorem srtNm_eq {l m:List Nm} (hp:l.Perm m) (hm:m.Pairwise (fun x y=>cmpN x y < 0)):srtNm l=m:=by
  have hnd:(srtNm l).Nodup:=((srtNm_perm l).trans hp).nodup_iff.2 (hm.imp fun {x y} h e=>by subst e; rw [cmpN_lt] at h; omega)
  refine sorted_one (lt:=fun x y=>cmpN x y < 0) (fun a b=>cmpN_as) ((srtNm_perm l).trans hp) ?_ hm
  refine ((List.Pairwise.and (srtNm_le l) hnd)).imp fun {x y} ⟨h1,h2⟩=>?_
  have h3:¬ (x.clerk=y.clerk∧x.num=y.num):=fun h=>h2 (by cases x; cases y; simpa using h)
  rw [cmpN_lt] at h1 ⊢
  omega
theorem confl_S {b:Bse} {l:List Nt} (hsrt:(l.map Nt.nm).Pairwise (fun x y=>cmpN x y < 0)):srtNm (((standT l).filter (badS b (standT l))++l.filter fun a=>decide (a.kind=7) && badR b l a).map Nt.nm)=(refT b l).confl:=by
  refine srtNm_eq (List.Perm.map _ ?_) (hsrt.sublist (List.filter_sublist.map _))
  have h1:((standT l).filter (badS b (standT l))).Perm (l.filter fun a=>decide (a.kind≠7) && badR b l a):=by
    refine ((standT_perm l).filter _).trans ?_
    rw [List.filter_filter,List.filter_filter]
    have:(l.filter fun a=>(badS b (standT l) a && (!goneT l a.nm)) && (a.kind != 7))=l.filter fun a=>decide (a.kind≠7) && badR b l a:=by
      refine List.filter_congr fun a ha=>?_
      by_cases h7:a.kind=7
      · simp [h7]
      · unfold badR
        rw [if_neg h7]
        have:(a.kind != 7)=true:=by simpa using h7
        rw [this,decide_eq_true h7,Bool.and_true,Bool.true_and,Bool.and_comm]
    rw [this]
  refine (h1.append_right _).trans ?_
  have h2:∀ l:List Nt,((l.filter fun a=>decide (a.kind≠7) && badR b l a)++l.filter fun a=>decide (a.kind=7) && badR b l a)=((l.filter (badR b l)).filter fun a=>decide (a.kind≠7))++(l.filter (badR b l)).filter fun a=>!decide (a.kind≠7):=fun l=>by
    rw [List.filter_filter,List.filter_filter]
    congr 1
    refine List.filter_congr fun a _=>?_
    by_cases h7:a.kind=7 <;> simp [h7]
  rw [h2]
  exact List.filter_append_perm _ _
theorem shsR_next {S:List Nt} {k:Nat} {a:Nt} (h:S[k]?=some a):shsR S (S.take (k+1))=if kd 1 a then entR S (shsR S (S.take k)) a else shsR S (S.take k):=by
  unfold shsR
  rw [List.take_add_one,h,Option.toList_some,List.filter_append,List.foldl_append,List.filter_cons,List.filter_nil]
  cases kd 1 a <;> rfl
theorem stsR_next {S:List Nt} {st:List Stn} {k:Nat} {a:Nt} (h:S[k]?=some a):stsR st (S.take (k+1))=if kd 4 a then raiR (stsR st (S.take k)) a else stsR st (S.take k):=by
  unfold stsR
  rw [List.take_add_one,h,Option.toList_some,List.filter_append,List.foldl_append,List.filter_cons,List.filter_nil]
  cases kd 4 a <;> rfl
end Go.Abs
namespace Go.Proofs.YtolgelipcgcbhaaGreat
open Go.Abs
open Nat (reduceAdd reduceSub reduceLT reduceLeDiff reduceMul reduceEqDiff)
open Nat renaming reduceAdd→W0,reduceSub→W1,reduceLT→W2,reduceLeDiff→W3,reduceMul→W4,reduceEqDiff→W5
open Go.Abs renaming vcC→Q0,lateX→Q1,strp→Q2,binA→Q3,elems→Q4,cells→Q5,scalar→Q6,eqC→Q7,keyA→Q8,intsA→Q9,lookA→QA,ofVs→QB,mpOf→QC
set_option linter.unusedVariables false
set_option linter.unusedSimpArgs false
set_option maxHeartbeats 4000000
set_option maxRecDepth 100000
def c90:CF:=⟨20,(jo [jx 3 29 2 1,jc 4 0] [0,3]
 (.seq (jo [jc 5 0] [0,3,5]
 (.block 0 (.loop (.seq (jo [jm 6 5,jm 7 0,je 8 7,jt .lss 9 6 8] [0,3,5,9]
 (.cond (.t 9) .skip
 (.exit 0)))
 (.seq (.block 1 (.seq (.draw [jm 12 0,jm 13 5,ji 14 38 12 13,jk 15 38 14,jy 16 92 [15],jk 17 2 3,jw 18 (.eqs false [some .i64,some .i64] (.t 16) (.t 17))] [] [0,3,5,18])
 (.cond (.t 18) (jo [jm 19 5,jm 4 19] [4]
 .ret)
 .skip)))
 (.ops [jm 10 5,ju .add 11 10 1,jm 5 11] [0,3,5]))))))
 (jo [jc 4 (-1)] [4]
 .ret))),[.t 4]⟩
theorem k90:chkF Tryz.prog Tryz.f90 c90=true:=by kernel_rfl
def c154:CF:=⟨20,(jo [jx 3 29 2 1,jc 4 0] [0,3]
 (jo [jm 6 0,jk 7 2 3,jy 8 90 [6,7],jm 5 8] [0,5]
 (.seq (jo [jm 9 5,ju .lss 10 9 0,jm 11 10,jd 11 (jm 12 0),jd 11 (jm 13 5),jd 11 (ji 14 38 12 13),jd 11 (jf 15 4 14),jd 11 (jl 16 15),jd 11 (ju .neq 17 16 1),jq 18 11 17] [5,18]
 (.cond (.t 18) (jo [jc 4 (-1)] [4]
 .ret)
 .skip))
 (jo [jm 19 5,jm 4 19] [4]
 .ret)))),[.t 4]⟩
theorem k154:chkF Tryz.prog Tryz.f154 c154=true:=by kernel_rfl
def c194:CF:=⟨11,(jo [jx 2 60 18 0,jb 4 false] [1,2]
 (jo [jm 5 1,jf 6 12 2,jf 7 0 6,jl 8 7,je 9 8,jw 10 (.call (.f 113) [(.t 5),(.c (.int .i64 0)),(.t 9)]),jm 4 10] [4]
 .ret)),[.t 4]⟩
theorem k194:chkF Tryz.prog Tryz.f194 c194=true:=by kernel_rfl
def plc (o:Option Nat):Int:=match o with | some j=>(j:Int) | none=>-1
theorem nm_of (x:Nt) (m:Nm):x.nm=m↔x.clerk=m.clerk∧x.num=m.num:=by
  obtain ⟨c,k⟩:=m
  unfold Nt.nm
  simp
theorem rfind_spec (l:List Nt) (hl:l.length < 9223372036854775808) (m:Nm):Pure Tryz.prog 90 [ntS l,.agg m.cs] (n (plc (findR l m))):=by
  refine Pure.of_body Tryz.call90 Tryz.func90 k90 (Nat.le_of_ble_eq_true rfl) ?_
  unfold c90
  have hq:=fidx_opt (fun x:Nt=>decide (x.nm=m)) l
  obtain ⟨z,hz⟩:∃ z,z=fidx (fun x:Nt=>decide (x.nm=m)) 0 l:=⟨_,rfl⟩
  rw [show plc (findR l m)=z from hz ▸ hq.symm]
  ((refine Au ?_;repeat' constructor)<;>intros<;>refine hD_ ?_)
  refine AWPC.loopI 5 l.length (fun i=>fidx (fun x:Nt=>decide (x.nm=m)) i (l.drop i)=z) (by rw [hz,List.drop_zero]) ?_ ?_
  · (simp only [zN,zT,zV,zS,zU,Q0,Q1,ex,Q2,Q3,Q4,Q5,Q6,Q7,Q8,Q9,QA,QB,QC,Nat.reduceBEq,W0,W1,W2,W3,W4,W5,reduceIte]; try simp)
  · intro i hi hI
    by_cases hlt:i < l.length
    · obtain ⟨x,hx⟩:∃ x,l[i]?=some x:=⟨_,List.getElem?_eq_getElem hlt⟩
      rw [drop_cons hx,fidx] at hI
      have hr:(l.map Nt.cs).getD i []=Nt.cs x:=getD_map hx
      have hnm:=rName_spec x
      by_cases h1:x.clerk=m.clerk
      · by_cases h2:x.num=m.num
        · rw [if_pos (by simp [nm_of,h1,h2])] at hI
          ((refine Az (And.intro @hr (And.intro @h1 @h2)) @hnm ?_;repeat' constructor)<;>intros<;>refine hD_ ?_)
          all_goals try (exfalso; omega)
          all_goals (rw [← hI]; exact Frz.eq rfl (PureV.v _))
        · rw [if_neg (by simp [nm_of,h2])] at hI
          ((refine Az (And.intro @hr (And.intro @h1 @h2)) @hnm ?_;repeat' constructor)<;>intros<;>refine hD_ ?_)
          all_goals try (exfalso; omega)
          all_goals exact ⟨⟨i+1,hlt,by simpa using hI⟩,by simp,by simp only; omega⟩
      · rw [if_neg (by simp [nm_of,h1])] at hI
        ((refine Az (And.intro @hr @h1) @hnm ?_;repeat' constructor)<;>intros<;>refine hD_ ?_)
        all_goals try (exfalso; omega)
        all_goals exact ⟨⟨i+1,hlt,by simpa using hI⟩,by simp,by simp only; omega⟩
    · obtain rfl:i=l.length:=by omega
      rw [List.drop_length,fidx] at hI
      ((refine Au ?_;repeat' constructor)<;>intros<;>refine hD_ ?_)
      all_goals try (exfalso; omega)
      all_goals (rw [← hI]; exact Frz.eq rfl (PureV.v _))
theorem rsheet_spec (l:List Nt) (hl:l.length < 9223372036854775808) (h0:0 < l.length) (m:Nm):Pure Tryz.prog 154 [ntS l,.agg m.cs] (n (plc (sheetR l m))):=by
  refine Pure.of_body Tryz.call154 Tryz.func154 k154 (Nat.le_of_ble_eq_true rfl) ?_
  unfold c154
  have hf:=rfind_spec l hl m
  unfold sheetR
  cases h:findR l m with
  | none =>
    rw [h] at hf
    simp only [plc] at hf ⊢
    have hr:(l.map Nt.cs).getD (-1:Int).toNat []=Nt.cs (l.getD 0 nt0):=row nt0 h0
    generalize l.getD 0 nt0=x at hr
    ((refine Az @hr @hf ?_;repeat' constructor)<;>intros<;>refine hD_ ?_)
    all_goals try (exfalso; omega)
    all_goals exact Frz.eq rfl (PureV.v _)
  | some i =>
    rw [h] at hf
    simp only [plc] at hf
    dsimp only
    have hlt:=(findR_some h).1
    have hr:(l.map Nt.cs).getD i []=Nt.cs (l.getD i nt0):=row nt0 hlt
    generalize l.getD i nt0=x at hr
    by_cases hk:x.kind=1
    · rw [if_pos hk]
      ((refine Az (And.intro @hr @hk) @hf ?_;repeat' constructor)<;>intros<;>refine hD_ ?_)
      all_goals try (exfalso; omega)
      all_goals exact Frz.eq rfl (PureV.v _)
    · rw [if_neg hk]
      ((refine Az (And.intro @hr @hk) @hf ?_;repeat' constructor)<;>intros<;>refine hD_ ?_)
      all_goals try (exfalso; omega)
      all_goals exact Frz.eq rfl (PureV.v _)
theorem rcolumn_spec (s:Sht) (c:Int):Pure Tryz.prog 194 [.agg s.cs,n c] (bl (decide (0≤c∧c≤(s.rates.length:Int)))):=by
  refine Pure.of_body Tryz.call194 Tryz.func194 k194 (Nat.le_of_ble_eq_true rfl) ?_
  unfold c194
  have hw:=within_r c 0 s.rates.length
  unfold inr at hw
  generalize decide (0≤c∧c≤(s.rates.length:Int))=q at hw
  ((refine Ay @hw ?_;repeat' constructor)<;>intros<;>refine hD_ ?_)
  all_goals try (exfalso; omega)
  all_goals exact Frz.eq rfl (PureV.v _)
def c150:CF:=⟨74,(jo [jb 4 false] [0,1]
 (jo [jm 8 0,jm 9 0,jm 10 1,ji 11 38 9 10,jf 12 36 11,jk 13 2 12,jy 14 154 [8,13],jm 5 14] [0,1,5]
 (.seq (.seq (.draw [jm 15 5,ju .lss 16 15 0,jm 17 16,jd 17 (jm 18 0),jd 17 (jm 19 5),jd 17 (ji 20 38 18 19),jd 17 (jf 21 7 20),jd 17 (jk 22 18 21),jd 17 (jm 23 0),jd 17 (jm 24 1),jd 17 (ji 25 38 23 24),jd 17 (jf 26 25 25),jd 17 (jf 27 0 26),jd 17 (jl 28 27),jd 17 (jy 29 194 [22,28]),jd 17 (jv 30 29),jq 31 17 30] [] [0,1,5,31])
 (.cond (.t 31) (jo [jb 4 false] [4]
 .ret)
 .skip))
 (jo [jc 6 0] [0,1,5,6]
 (.seq (jo [jc 7 0] [0,1,5,6,7]
 (.block 0 (.loop (.seq (jo [jm 32 7,jm 33 1,jt .lss 34 32 33] [0,1,5,6,7,34]
 (.cond (.t 34) .skip
 (.exit 0)))
 (.seq (.block 1 (.seq (.draw [jm 37 0,jm 38 7,ji 39 38 37 38,jf 40 4 39,jl 41 40,ju .eql 42 41 2,jm 43 42,ja 43 (jm 44 0),ja 43 (jm 45 7),ja 43 (ji 46 38 44 45),ja 43 (jf 47 36 46),ja 43 (jk 48 2 47),ja 43 (jm 49 0),ja 43 (jm 50 1),ja 43 (ji 51 38 49 50),ja 43 (jf 52 36 51),ja 43 (jk 53 2 52),⟨some 54,.eqs false [some .i64,some .i64] (.t 48) (.t 53),some (43,true)⟩,jp 55 43 54,jm 56 55,ja 56 (jm 57 0),ja 56 (jm 58 5),ja 56 (ji 59 38 57 58),ja 56 (jf 60 7 59),ja 56 (jk 61 18 60),ja 56 (jm 62 0),ja 56 (jm 63 7),ja 56 (ji 64 38 62 63),ja 56 (jf 65 25 64),ja 56 (jf 66 0 65),ja 56 (jl 67 66),ja 56 (jy 68 194 [61,67]),jp 69 56 68] [] [0,1,5,6,7,69])
 (.cond (.t 69) (.ops [jm 70 6,ju .add 71 70 1,jm 6 71] [0,1,5,6,7])
 .skip)))
 (.ops [jm 35 7,ju .add 36 35 1,jm 7 36] [0,1,5,6,7]))))))
 (jo [jm 72 6,ju .lss 73 72 64,jm 4 73] [4]
 .ret)))))),[.t 4]⟩
theorem k150:chkF Tryz.prog Tryz.f150 c150=true:=by kernel_rfl
theorem sheetR_some {S:List Nt} {m:Nm} {i:Nat} (h:sheetR S m=some i):findR S m=some i∧(S.getD i nt0).kind=1:=by
  unfold sheetR at h
  cases hf:findR S m with
  | none=>rw [hf] at h; exact absurd h (by simp)
  | some j =>
    rw [hf] at h
    dsimp only at h
    by_cases hk:(S.getD j nt0).kind=1
    · rw [if_pos hk] at h
      obtain rfl:=Option.some.inj h
      exact ⟨rfl,hk⟩
    · rw [if_neg hk] at h; exact absurd h (by simp)
theorem len_filter_next {α:Type} {q:α→Bool} {l:List α} {i:Nat} {x:α} (h:l[i]?=some x):((l.take (i+1)).filter q).length=((l.take i).filter q).length+(if q x then 1 else 0):=by
  rw [List.take_add_one,h,List.filter_append,List.length_append,Option.toList_some]
  cases hq:q x <;> simp [hq]
theorem rcounts_spec (S:List Nt) (hS:S.length < 9223372036854775808) (i:Nat) (hi:i < S.length):Pure Tryz.prog 150 [ntS S,n i] (bl (cntR S i)):=by
  refine Pure.of_body Tryz.call150 Tryz.func150 k150 (Nat.le_of_ble_eq_true rfl) ?_
  unfold c150
  have hr:(S.map Nt.cs).getD i []=Nt.cs (S.getD i nt0):=row nt0 hi
  have hs:=rsheet_spec S hS (by omega) (S.getD i nt0).ref
  unfold cntR
  generalize S.getD i nt0=x at hr hs
  cases h:sheetR S x.ref with
  | none =>
    rw [h] at hs
    obtain ⟨w,hw⟩:∃ w:Int,w=plc none:=⟨_,rfl⟩
    rw [← hw] at hs
    have hw:w=-1:=hw
    have hr0:(S.map Nt.cs).getD w.toNat []=Nt.cs (S.getD 0 nt0):=by rw [hw]; exact row nt0 (by omega)
    have hc0:=rcolumn_spec (S.getD 0 nt0).sheet x.mark.col
    generalize S.getD 0 nt0=y0 at hr0 hc0
    generalize decide (0≤x.mark.col∧x.mark.col≤(y0.sheet.rates.length:Int))=q0 at hc0
    have hw0:decide (w < 0)=true:=by rw [hw]; rfl
    (repeat' ((first
 | refine vn rfl ?_
 | simp (disch:=omega) only [wr64,Int.zero_sub]
 | refine bo (fun _=>?_) fun _=>?_
 | refine im fun _=>?_
 | ((repeat refine si ?_); (first | ((first | refine .inl ⟨_,_,_,_,rfl,fun _=>pu (by first | exact hs | exact hc0),?_⟩ | refine ⟨_,_,_,_,rfl,fun _=>pu (by first | exact hs | exact hc0),?_⟩); (first | refine o1 ?_ | refine o2 ?_ | refine o3 ?_ | refine o4 ?_)) | refine .inl ⟨_,_,_,_,rfl,pu (by first | exact hs | exact hc0),?_⟩))
 | refine cF ?_
 | refine om ?_
 | refine an ?_
 | fail) <;> try simp only [zN,zT,zV,zS,zU,Q0,Q1,ex,Q2,Q3,Q4,Q5,Q6,Q7,Q8,Q9,QA,QB,QC,Nat.reduceBEq,W0,W1,W2,W3,W4,W5,reduceIte,hr,hr0,hw0,Bool.true_or]))
    all_goals try (exfalso; omega)
    all_goals exact Frz.eq rfl (PureV.v _)
  | some k =>
    rw [h] at hs
    simp only [plc] at hs
    dsimp only
    have hk:=(findR_some (sheetR_some h).1).1
    have hrk:(S.map Nt.cs).getD k []=Nt.cs (S.getD k nt0):=row nt0 hk
    generalize S.getD k nt0=y at hrk
    have hc:=fun c=>rcolumn_spec y.sheet c
    have hcx:=hc x.mark.col
    by_cases hcol:colR y x.mark.col=true
    · rw [show decide (0≤x.mark.col∧x.mark.col≤(y.sheet.rates.length:Int))=true from hcol] at hcx
      rw [hcol,Bool.true_and]
      ((refine Az (And.intro @hr @hrk) (And.intro @hs @hcx) ?_;repeat' constructor)<;>intros<;>refine hD_ ?_)
      all_goals try (exfalso; omega)
      refine AWPC.loopE (α:={ z:Nat × Nat // z.1≤i∧((S.take z.1).filter fun a=>kd 2 a && (onT x.ref a && colR y a.mark.col)).length=z.2 }) [6,7] (fun z=>[(6,n z.1.2),(7,n z.1.1)]) (fun _=>[]) (fun z=>i - z.1.1) ⟨(0,0),Nat.zero_le _,rfl⟩ ?_ rfl ?_
      · (simp only [zN,zT,zV,zS,zU,Q0,Q1,ex,Q2,Q3,Q4,Q5,Q6,Q7,Q8,Q9,QA,QB,QC,Nat.reduceBEq,W0,W1,W2,W3,W4,W5,reduceIte]; try simp)
      · rintro ⟨⟨j,m⟩,hj,hm⟩
        simp only at hj hm ⊢
        have hml:m≤j:=by
          have h1:=List.length_filter_le (fun a=>kd 2 a && (onT x.ref a && colR y a.mark.col)) (S.take j)
          rw [List.length_take] at h1; omega
        by_cases hlt:j < i
        · have hg:=getD_lt nt0 (show j < S.length by omega)
          have hrj:(S.map Nt.cs).getD j []=Nt.cs (S.getD j nt0):=row nt0 (by omega)
          have hN:=len_filter_next (q:=fun a=>kd 2 a && (onT x.ref a && colR y a.mark.col)) hg
          rw [hm] at hN
          generalize S.getD j nt0=z at hrj hN
          clear hg h
          have hcz:=hc z.mark.col
          rw [show decide (0≤z.mark.col∧z.mark.col≤(y.sheet.rates.length:Int))=colR y z.mark.col from rfl] at hcz
          generalize colR y z.mark.col=q at hcz hN
          have hon:onT x.ref z=decide (z.ref.clerk=x.ref.clerk∧z.ref.num=x.ref.num):=by
            unfold onT
            rw [decide_eq_decide]
            rcases z.ref with ⟨a1,a2⟩
            rcases x.ref with ⟨b1,b2⟩
            simp
          rw [hon] at hN
          clear hon hc hs hcx
          by_cases h2:z.kind=2
          · rw [show kd 2 z=true from decide_eq_true h2,Bool.true_and] at hN
            by_cases e1:z.ref.clerk=x.ref.clerk
            · by_cases e2:z.ref.num=x.ref.num
              · rw [decide_eq_true ⟨e1,e2⟩,Bool.true_and] at hN
                cases q
                · rw [if_neg (by decide)] at hN
                  ((refine Az (And.intro @hr (And.intro @hrk (And.intro @hrj (And.intro @h2 (And.intro @e1 @e2))))) @hcz ?_;repeat' constructor)<;>intros<;>refine hD_ ?_)
                  all_goals try (exfalso; omega)
                  all_goals exact ⟨⟨(j+1,m),hlt,hN⟩,⟨by simp,by simp⟩,by show i - (j+1) < i - j; omega⟩
                · rw [if_pos rfl] at hN
                  ((refine Az (And.intro @hr (And.intro @hrk (And.intro @hrj (And.intro @h2 (And.intro @e1 @e2))))) @hcz ?_;repeat' constructor)<;>intros<;>refine hD_ ?_)
                  all_goals try (exfalso; omega)
                  all_goals exact ⟨⟨(j+1,m+1),hlt,hN⟩,⟨by simp,by simp⟩,by show i - (j+1) < i - j; omega⟩
              · rw [decide_eq_false (fun h=>e2 h.2),Bool.false_and,if_neg (by decide)] at hN
                ((refine Az (And.intro @hr (And.intro @hrk (And.intro @hrj (And.intro @h2 (And.intro @e1 @e2))))) @hcz ?_;repeat' constructor)<;>intros<;>refine hD_ ?_)
                all_goals try (exfalso; omega)
                all_goals exact ⟨⟨(j+1,m),hlt,hN⟩,⟨by simp,by simp⟩,by show i - (j+1) < i - j; omega⟩
            · rw [decide_eq_false (fun h=>e1 h.1),Bool.false_and,if_neg (by decide)] at hN
              ((refine Az (And.intro @hr (And.intro @hrk (And.intro @hrj (And.intro @h2 @e1)))) @hcz ?_;repeat' constructor)<;>intros<;>refine hD_ ?_)
              all_goals try (exfalso; omega)
              all_goals exact ⟨⟨(j+1,m),hlt,hN⟩,⟨by simp,by simp⟩,by show i - (j+1) < i - j; omega⟩
          · rw [show kd 2 z=false from decide_eq_false h2,Bool.false_and,if_neg (by decide)] at hN
            ((refine Az (And.intro @hr (And.intro @hrk (And.intro @hrj @h2))) @hcz ?_;repeat' constructor)<;>intros<;>refine hD_ ?_)
            all_goals try (exfalso; omega)
            all_goals exact ⟨⟨(j+1,m),hlt,hN⟩,⟨by simp,by simp⟩,by show i - (j+1) < i - j; omega⟩
        · obtain rfl:j=i:=by omega
          ((refine Au ?_;repeat' constructor)<;>intros<;>refine hD_ ?_)
          all_goals try (exfalso; omega)
          all_goals (rw [hm]; exact Frz.eq (by simp; omega) (PureV.v _))
    · rw [show decide (0≤x.mark.col∧x.mark.col≤(y.sheet.rates.length:Int))=false from by simpa [colR] using hcol] at hcx
      rw [show colR y x.mark.col=false by simpa using hcol,Bool.false_and]
      ((refine Az (And.intro @hr @hrk) (And.intro @hs @hcx) ?_;repeat' constructor)<;>intros<;>refine hD_ ?_)
      all_goals try (exfalso; omega)
      all_goals exact Frz.eq rfl (PureV.v _)
def c155:CF:=⟨58,(jo [jb 4 false] [0,1]
 (jo [jm 6 0,jm 7 0,jm 8 1,ji 9 38 7 8,jf 10 36 9,jk 11 2 10,jy 12 90 [6,11],jm 5 12] [0,1,5]
 (.seq (jo [jm 13 5,ju .lss 14 13 0] [0,1,5,14]
 (.cond (.t 14) (jo [jb 4 false] [4]
 .ret)
 .skip))
 (.seq (jo [jm 15 0,jm 16 1,ji 17 38 15 16,jf 18 28 17,jf 19 0 18,jl 20 19,ju .neq 21 20 0] [0,1,5,21]
 (.cond (.t 21) (jo [jm 22 0,jm 23 5,ji 24 38 22 23,jf 25 4 24,jl 26 25,ju .eql 27 26 3,jm 4 27] [4]
 .ret)
 .skip))
 (.seq (jo [jm 28 0,jm 29 5,ji 30 38 28 29,jf 31 4 30,jl 32 31,ju .neq 33 32 2,jm 34 33,jd 34 (jm 35 0),jd 34 (jm 36 5),jd 34 (jy 37 150 [35,36]),jd 34 (jv 38 37),jq 39 34 38] [0,1,5,39]
 (.cond (.t 39) (jo [jb 4 false] [4]
 .ret)
 .skip))
 (.seq (.draw [jm 40 0,jm 41 0,jm 42 0,jm 43 5,ji 44 38 42 43,jf 45 36 44,jk 46 2 45,jy 47 154 [41,46],ji 48 38 40 47,jf 49 7 48,jk 50 18 49,jm 51 0,jm 52 1,ji 53 38 51 52,jf 54 25 53,jf 55 0 54,jl 56 55,jy 57 194 [50,56],jm 4 57] [] [4])
 .ret)))))),[.t 4]⟩
theorem k155:chkF Tryz.prog Tryz.f155 c155=true:=by kernel_rfl
def c151:CF:=⟨40,(jo [jc 4 0] [0,1]
 (jo [jm 7 1,jm 5 7] [0,1,5]
 (.seq (jo [jc 6 0] [0,1,5,6]
 (.block 0 (.loop (.seq (jo [jm 8 6,jm 9 0,je 10 9,jt .lss 11 8 10] [0,1,5,6,11]
 (.cond (.t 11) .skip
 (.exit 0)))
 (.seq (.block 1 (.seq (.draw [jm 14 0,jm 15 6,ji 16 38 14 15,jf 17 4 16,jl 18 17,ju .eql 19 18 6,jm 20 19,ja 20 (jm 21 0),ja 20 (jm 22 6),ja 20 (ji 23 38 21 22),ja 20 (jf 24 36 23),ja 20 (jk 25 2 24),ja 20 (jm 26 0),ja 20 (jm 27 1),ja 20 (ji 28 38 26 27),ja 20 (jk 29 38 28),ja 20 (jy 30 92 [29]),⟨some 31,.eqs false [some .i64,some .i64] (.t 25) (.t 30),some (20,true)⟩,jp 32 20 31,jm 33 32,ja 33 (jm 34 0),ja 33 (jm 35 6),ja 33 (jy 36 155 [34,35]),jp 37 33 36] [] [0,1,5,6,37])
 (.cond (.t 37) (.ops [jm 38 6,jm 5 38] [0,1,5,6])
 .skip)))
 (.ops [jm 12 6,ju .add 13 12 1,jm 6 13] [0,1,5,6]))))))
 (jo [jm 39 5,jm 4 39] [4]
 .ret)))),[.t 4]⟩
theorem k151:chkF Tryz.prog Tryz.f151 c151=true:=by kernel_rfl
theorem rcorrects_spec (S:List Nt) (hS:S.length < 9223372036854775808) (i:Nat) (hi:i < S.length):Pure Tryz.prog 155 [ntS S,n i] (bl (corR S i)):=by
  refine Pure.of_body Tryz.call155 Tryz.func155 k155 (Nat.le_of_ble_eq_true rfl) ?_
  unfold c155
  have hr:(S.map Nt.cs).getD i []=Nt.cs (S.getD i nt0):=row nt0 hi
  have hf:=rfind_spec S hS (S.getD i nt0).ref
  unfold corR
  generalize S.getD i nt0=x at hr hf
  cases h:findR S x.ref with
  | none =>
    rw [h] at hf
    simp only [plc] at hf
    ((refine Az @hr @hf ?_;repeat' constructor)<;>intros<;>refine hD_ ?_)
    all_goals try (exfalso; omega)
    all_goals exact Frz.eq rfl (PureV.v _)
  | some k =>
    rw [h] at hf
    simp only [plc] at hf
    dsimp only
    have hk:=(findR_some h).1
    have hrk:(S.map Nt.cs).getD k []=Nt.cs (S.getD k nt0):=row nt0 hk
    have hcn:=rcounts_spec S hS k hk
    have hs:=rsheet_spec S hS (by omega) (S.getD k nt0).ref
    have hcs:cntR S k=true→∃ s,sheetR S (S.getD k nt0).ref=some s:=fun hc=>by
      unfold cntR at hc
      cases hs:sheetR S (S.getD k nt0).ref with
      | none=>rw [hs] at hc; cases hc
      | some s=>exact ⟨s,rfl⟩
    generalize S.getD k nt0=y at hrk hs hcs
    generalize cntR S k=c at hcn hcs
    by_cases h0:x.read.stn=0
    · rw [if_neg (fun h=>h h0)]
      by_cases h2:y.kind=2
      · rw [show kd 2 y=true from decide_eq_true h2,Bool.true_and]
        cases c with
        | false =>
          rw [Bool.false_and]
          ((refine Az (And.intro @hr (And.intro @hrk (And.intro @h0 @h2))) (And.intro @hf @hcn) ?_;repeat' constructor)<;>intros<;>refine hD_ ?_)
          all_goals try (exfalso; omega)
          all_goals exact Frz.eq rfl (PureV.v _)
        | true =>
          obtain ⟨s,hss⟩:=hcs rfl
          rw [hss] at hs ⊢
          simp only [plc] at hs
          rw [Bool.true_and]
          dsimp only
          have hsl:=(findR_some (sheetR_some hss).1).1
          have hrs:(S.map Nt.cs).getD s []=Nt.cs (S.getD s nt0):=row nt0 hsl
          generalize S.getD s nt0=z at hrs
          have hcl:=rcolumn_spec z.sheet x.mark.col
          rw [show decide (0≤x.mark.col∧x.mark.col≤(z.sheet.rates.length:Int))=colR z x.mark.col from rfl] at hcl
          generalize colR z x.mark.col=q at hcl
          ((refine Az (And.intro @hr (And.intro @hrk (And.intro @hrs (And.intro @h0 @h2)))) (And.intro @hf (And.intro @hcn (And.intro @hs @hcl))) ?_;repeat' constructor)<;>intros<;>refine hD_ ?_)
          all_goals try (exfalso; omega)
          all_goals exact Frz.eq rfl (PureV.v _)
      · rw [show kd 2 y=false from decide_eq_false h2,Bool.false_and]
        ((refine Az (And.intro @hr (And.intro @hrk (And.intro @h0 @h2))) (And.intro @hf @hcn) ?_;repeat' constructor)<;>intros<;>refine hD_ ?_)
        all_goals try (exfalso; omega)
        all_goals exact Frz.eq rfl (PureV.v _)
    · rw [if_pos h0]
      by_cases h3:y.kind=3
      · rw [show kd 3 y=true from decide_eq_true h3]
        ((refine Az (And.intro @hr (And.intro @hrk (And.intro @h0 @h3))) @hf ?_;repeat' constructor)<;>intros<;>refine hD_ ?_)
        all_goals try (exfalso; omega)
        all_goals exact Frz.eq rfl (PureV.v _)
      · rw [show kd 3 y=false from decide_eq_false h3]
        ((refine Az (And.intro @hr (And.intro @hrk (And.intro @h0 @h3))) @hf ?_;repeat' constructor)<;>intros<;>refine hD_ ?_)
        all_goals try (exfalso; omega)
        all_goals exact Frz.eq (by simp [h3]) (PureV.v _)
theorem knwR_next (S:List Nt) (i k:Nat):knwR S i (k+1)=if kd 6 (S.getD k nt0) && (onT (S.getD i nt0).nm (S.getD k nt0) && corR S k) then k else knwR S i k:=by
  unfold knwR; rw [List.range_succ,List.foldl_append]; rfl
theorem rknown_spec (S:List Nt) (hS:S.length < 9223372036854775808) (i:Nat) (hi:i < S.length):Pure Tryz.prog 151 [ntS S,n i] (n (knwR S i S.length:Nat)):=by
  refine Pure.of_body Tryz.call151 Tryz.func151 k151 (Nat.le_of_ble_eq_true rfl) ?_
  unfold c151
  have hr:(S.map Nt.cs).getD i []=Nt.cs (S.getD i nt0):=row nt0 hi
  have hnm:=rName_spec (S.getD i nt0)
  have hnx:=knwR_next S i
  generalize S.getD i nt0=x at hr hnm hnx
  ((refine Au ?_;repeat' constructor)<;>intros<;>refine hD_ ?_)
  all_goals try (exfalso; omega)
  refine AWPC.loopE (α:={ z:Nat × Nat // z.1≤S.length∧knwR S i z.1=z.2 }) [5,6] (fun z=>[(5,n z.1.2),(6,n z.1.1)]) (fun _=>[]) (fun z=>S.length - z.1.1) ⟨(0,i),Nat.zero_le _,rfl⟩ ?_ rfl ?_
  · (simp only [zN,zT,zV,zS,zU,Q0,Q1,ex,Q2,Q3,Q4,Q5,Q6,Q7,Q8,Q9,QA,QB,QC,Nat.reduceBEq,W0,W1,W2,W3,W4,W5,reduceIte]; try simp)
  · rintro ⟨⟨k,o⟩,hk,ho⟩
    simp only at hk ho ⊢
    by_cases hlt:k < S.length
    · have hrk:(S.map Nt.cs).getD k []=Nt.cs (S.getD k nt0):=row nt0 hlt
      have hN:=hnx k
      rw [ho] at hN
      have hco:=rcorrects_spec S hS k hlt
      generalize S.getD k nt0=y at hrk hN
      generalize corR S k=q at hN hco
      have hon:onT x.nm y=decide (y.ref.clerk=x.clerk∧y.ref.num=x.num):=by
        unfold onT Nt.nm
        rw [decide_eq_decide]
        rcases y.ref with ⟨a1,a2⟩
        simp
      rw [hon] at hN
      clear hon hnx
      by_cases h6:y.kind=6
      · rw [show kd 6 y=true from decide_eq_true h6,Bool.true_and] at hN
        by_cases e1:y.ref.clerk=x.clerk
        · by_cases e2:y.ref.num=x.num
          · rw [decide_eq_true ⟨e1,e2⟩,Bool.true_and] at hN
            cases q
            · rw [if_neg (by decide)] at hN
              ((refine Az (And.intro @hr (And.intro @hrk (And.intro @h6 (And.intro @e1 @e2)))) (And.intro @hnm @hco) ?_;repeat' constructor)<;>intros<;>refine hD_ ?_)
              all_goals try (exfalso; omega)
              all_goals exact ⟨⟨(k+1,o),hlt,hN⟩,⟨by simp,by simp⟩,by show S.length - (k+1) < S.length - k; omega⟩
            · rw [if_pos rfl] at hN
              ((refine Az (And.intro @hr (And.intro @hrk (And.intro @h6 (And.intro @e1 @e2)))) (And.intro @hnm @hco) ?_;repeat' constructor)<;>intros<;>refine hD_ ?_)
              all_goals try (exfalso; omega)
              all_goals exact ⟨⟨(k+1,k),hlt,hN⟩,⟨by simp,by simp⟩,by show S.length - (k+1) < S.length - k; omega⟩
          · rw [decide_eq_false (fun h=>e2 h.2),Bool.false_and,if_neg (by decide)] at hN
            ((refine Az (And.intro @hr (And.intro @hrk (And.intro @h6 (And.intro @e1 @e2)))) (And.intro @hnm @hco) ?_;repeat' constructor)<;>intros<;>refine hD_ ?_)
            all_goals try (exfalso; omega)
            all_goals exact ⟨⟨(k+1,o),hlt,hN⟩,⟨by simp,by simp⟩,by show S.length - (k+1) < S.length - k; omega⟩
        · rw [decide_eq_false (fun h=>e1 h.1),Bool.false_and,if_neg (by decide)] at hN
          ((refine Az (And.intro @hr (And.intro @hrk (And.intro @h6 @e1))) (And.intro @hnm @hco) ?_;repeat' constructor)<;>intros<;>refine hD_ ?_)
          all_goals try (exfalso; omega)
          all_goals exact ⟨⟨(k+1,o),hlt,hN⟩,⟨by simp,by simp⟩,by show S.length - (k+1) < S.length - k; omega⟩
      · rw [show kd 6 y=false from decide_eq_false h6,Bool.false_and,if_neg (by decide)] at hN
        ((refine Az (And.intro @hr (And.intro @hrk @h6)) (And.intro @hnm @hco) ?_;repeat' constructor)<;>intros<;>refine hD_ ?_)
        all_goals try (exfalso; omega)
        all_goals exact ⟨⟨(k+1,o),hlt,hN⟩,⟨by simp,by simp⟩,by show S.length - (k+1) < S.length - k; omega⟩
    · obtain rfl:k=S.length:=by omega
      ((refine Au ?_;repeat' constructor)<;>intros<;>refine hD_ ?_)
      all_goals try (exfalso; omega)
      all_goals (rw [ho]; exact Frz.eq rfl (PureV.v _))
def c149:CF:=⟨97,(jo [jw 4 (.alloc 72 24 z24)] [0,1,4]
 (.seq (.draw [jm 7 0,jm 8 1,ji 9 38 7 8,jk 10 38 9,jy 11 92 [10],jm 12 0,jm 13 1,ji 14 38 12 13,jf 15 5 14,jl 16 15,jm 17 0,jm 18 1,ji 19 38 17 18,jf 20 6 19,jl 21 20,jm 22 0,jm 23 1,ji 24 38 22 23,jf 25 7 24,jk 26 18 25,jw 27 (.build z24 [(0,2,(.t 11)),(2,1,(.t 16)),(3,1,(.t 21)),(4,18,(.t 26))]),jw 5 (.alloc 72 24 z24)] [js 24 5 27] [0,1,4,5])
 (.seq (jo [jc 6 0] [0,1,4,5,6]
 (.block 0 (.loop (.seq (jo [jm 28 6,jm 29 0,je 30 29,jt .lss 31 28 30] [0,1,4,5,6,31]
 (.cond (.t 31) .skip
 (.exit 0)))
 (.seq (.block 1 (.seq (.seq (.draw [jm 34 0,jm 35 6,ji 36 38 34 35,jf 37 36 36,jk 38 2 37,jm 39 0,jm 40 1,ji 41 38 39 40,jk 42 38 41,jy 43 92 [42],jw 44 (.eqs true [some .i64,some .i64] (.t 38) (.t 43))] [] [0,1,4,5,6,44])
 (.cond (.t 44) (.exit 1)
 .skip))
 (.seq (jo [jm 45 0,jm 46 6,ji 47 38 45 46,jf 48 4 47,jl 49 48,ju .eql 50 49 5] [0,1,4,5,6,50]
 (.cond (.t 50) (jo [jm 51 0,jm 52 6,ji 53 38 51 52,jf 54 5 53,jl 55 54,jf 56 2 5,js 1 56 55] [0,1,4,5,6]
 (.ops [jm 57 0,jm 58 6,ji 59 38 57 58,jf 60 6 59,jl 61 60,jf 62 3 5,js 1 62 61] [0,1,4,5,6]))
 .skip))
 (jo [jm 63 0,jm 64 6,ji 65 38 63 64,jf 66 4 65,jl 67 66,ju .eql 68 67 2,jm 69 68,ja 69 (jm 70 0),ja 69 (jm 71 6),ja 69 (jy 72 150 [70,71]),jp 73 69 72] [0,1,4,5,6,73]
 (.cond (.t 73) (.seq (.draw [jf 74 22 5,jl 75 74,jm 76 0,jm 77 0,jm 78 6,jy 79 151 [77,78],ji 80 38 76 79,jf 81 25 80,jk 82 3 81,jw 83 (.bsl false 62 3 1 [.int .i64 0,.int .i64 0,.int .i64 0] [(0,3,(.t 82))])] [jw 84 (.app 62 3 24 (.t 75) (.t 83)),jf 85 22 5,js 1 85 84] [0,1,4,5,6])
 (.draw [jf 86 23 5,jl 87 86,jm 88 0,jm 89 6,ji 90 38 88 89,jk 91 38 90,jy 92 92 [91],jw 93 (.bsl false 29 2 1 [.int .i64 0,.int .i64 0] [(0,2,(.t 92))])] [jw 94 (.app 29 2 16 (.t 87) (.t 93)),jf 95 23 5,js 1 95 94] [0,1,4,5,6]))
 .skip)))))
 (.ops [jm 32 6,ju .add 33 32 1,jm 6 33] [0,1,4,5,6]))))))
 (jo [jk 96 24 5,js 24 4 96] [4]
 .ret)))),[.c 4 (some 24)]⟩
theorem k149:chkF Tryz.prog Tryz.f149 c149=true:=by kernel_rfl
abbrev fdC (x:Nt) (s w:Int) (mk nm:AV):List AV:=[n x.clerk,n x.num,n s,n w,
  n x.sheet.paper.pitch,n x.sheet.paper.height,n x.sheet.paper.radius,n x.sheet.paper.low,n x.sheet.paper.high,n x.sheet.paper.cols,n x.sheet.paper.along.lo,n x.sheet.paper.along.hi,n x.sheet.paper.across.lo,n x.sheet.paper.across.hi,
  ptS x.sheet.trace,inS x.sheet.blots,spnS x.sheet.rates,mkS x.sheet.stops,n x.sheet.pen.band,n x.sheet.pen.zero.lo,n x.sheet.pen.zero.hi,n x.sheet.pen.rate,mk,nm]
abbrev fdZ:List AV:=[n 0,n 0,n 0,n 0,n 0,n 0,n 0,n 0,n 0,n 0,n 0,n 0,n 0,n 0,.v (.slice none 0 0),.v (.slice none 0 0),.v (.slice none 0 0),.v (.slice none 0 0),n 0,n 0,n 0,n 0,.v (.slice none 0 0),.v (.slice none 0 0)]
theorem on_dec (x y:Nt):onT x.nm y=decide (y.ref.clerk=x.clerk∧y.ref.num=x.num):=by
  unfold onT Nt.nm
  rw [decide_eq_decide]
  rcases y.ref with ⟨a1,a2⟩
  simp
theorem rfiled_spec (S:List Nt) (hS:S.length < 4294967296) (hn:(S.map Nt.nm).Nodup) (hm:∀ a∈S,(a.kind=2∨(a.kind=6∧a.read.stn=0))→0≤a.mark.col) (i:Nat) (hi:i < S.length):Pure Tryz.prog 149 [ntS S,n i] (.agg (fld S (S.getD i nt0)).cs):=by
  refine Pure.of_body Tryz.call149 Tryz.func149 k149 (Nat.le_of_ble_eq_true rfl) ?_
  unfold c149
  have hr:(S.map Nt.cs).getD i []=Nt.cs (S.getD i nt0):=row nt0 hi
  have hnm:=rName_spec (S.getD i nt0)
  generalize S.getD i nt0=x at hr hnm
  ((refine Az @hr @hnm ?_;repeat' constructor)<;>intros<;>refine hD_ ?_)
  all_goals try (exfalso; omega)
  refine AWPC.own0c 62 3 (f:=1) (i:=0) (e:=0) (j:=22) rfl (by simp) rfl ?_
  refine AWPC.own0c 29 2 (f:=1) (i:=0) (e:=0) (j:=23) rfl (by simp) rfl ?_
  refine AWPC.sto (σ':=[some [⟨72,24,[fdZ],none⟩],some [⟨72,24,[fdC x x.stn x.week (.own 2 0 0) (.own 3 0 0)],none⟩],some [⟨62,3,[],none⟩],some [⟨29,2,[],none⟩]]) rfl ?_
  refine AWPC.loopE (α:={ z:Nat × Nt × List Nt // z.1≤S.length∧(((S.take z.1).filter fun k=>kd 5 k && onT x.nm k).getLast?).getD x=z.2.1∧((S.take z.1).filter fun k=>kd 2 k && (onT x.nm k && cnt S k))=z.2.2 }) [6] (fun z=>[(6,n z.1.1)])
    (fun z=>[some [⟨72,24,[fdZ],none⟩],some [⟨72,24,[fdC x z.1.2.1.stn z.1.2.1.week (.own 2 0 z.1.2.2.length) (.own 3 0 z.1.2.2.length)],none⟩],some [⟨62,3,(z.1.2.2.map fun k=>(knw S k).mark).map Mk.cs,none⟩],some [⟨29,2,(z.1.2.2.map Nt.nm).map Nm.cs,none⟩]]) (fun z=>S.length - z.1.1) ⟨(0,x,[]),Nat.zero_le _,rfl,rfl⟩ ?_ rfl ?_
  · (simp only [zN,zT,zV,zS,zU,Q0,Q1,ex,Q2,Q3,Q4,Q5,Q6,Q7,Q8,Q9,QA,QB,QC,Nat.reduceBEq,W0,W1,W2,W3,W4,W5,reduceIte]; try simp)
  · rintro ⟨⟨k,f,M⟩,hk,hf,hM⟩
    simp only at hk hf hM ⊢
    have hMl:M.length≤k:=by
      rw [← hM]
      refine Nat.le_trans (List.length_filter_le _ _) ?_
      rw [List.length_take]; omega
    by_cases hlt:k < S.length
    · have hg:=getD_lt nt0 hlt
      have hrk:(S.map Nt.cs).getD k []=Nt.cs (S.getD k nt0):=row nt0 hlt
      have hT:S.take (k+1)=S.take k++[S.getD k nt0]:=by rw [List.take_add_one,hg]; rfl
      have hN1:=last_snoc (S.take k) (fun k=>kd 5 k && onT x.nm k) (S.getD k nt0) x
      rw [← hT,hf] at hN1
      have hN2:((S.take (k+1)).filter fun k=>kd 2 k && (onT x.nm k && cnt S k))=if kd 2 (S.getD k nt0) && (onT x.nm (S.getD k nt0) && cnt S (S.getD k nt0)) then M++[S.getD k nt0] else M:=by
        rw [hT,List.filter_append,hM,List.filter_cons,List.filter_nil]
        split <;> simp
      have hcn:=rcounts_spec S (by omega) k hlt
      have hkn:=rknown_spec S (by omega) k hlt
      have hcR:=cnt_R hn hm hlt
      obtain ⟨g1,g2⟩:=knw_R' hn hm hlt
      have hrw:(S.map Nt.cs).getD (knwR S k S.length) []=Nt.cs (S.getD (knwR S k S.length) nt0):=row nt0 g1
      rw [g2] at hrw
      have hny:=rName_spec (S.getD k nt0)
      clear hg hT g2
      generalize knwR S k S.length=w at hkn hrw g1
      generalize S.getD k nt0=y at hrk hN1 hN2 hcR hny hrw
      rw [on_dec x y] at hN1 hN2
      generalize hMa:(M.map fun k=>(knw S k).mark).map Mk.cs=A
      generalize hMb:(M.map Nt.nm).map Nm.cs=B
      have hAl:A.length=M.length:=by rw [← hMa]; simp
      have hBl:B.length=M.length:=by rw [← hMb]; simp
      by_cases e1:y.ref.clerk=x.clerk
      · by_cases e2:y.ref.num=x.num
        · rw [decide_eq_true ⟨e1,e2⟩] at hN1 hN2
          rw [Bool.true_and] at hN2
          rw [Bool.and_true] at hN1
          by_cases h5:y.kind=5
          · rw [show kd 5 y=true from decide_eq_true h5,if_pos rfl] at hN1
            rw [show kd 2 y=false from decide_eq_false (by omega),Bool.false_and,if_neg (by decide)] at hN2
            have h52:((5:Int) == 2)=false:=by decide
            have h53:¬ (5:Int)=2:=by decide
            ((refine Az (And.intro @hr (And.intro @hrk (And.intro @hAl (And.intro @hBl (And.intro @h5 (And.intro @h52 (And.intro @h53 (And.intro @e1 @e2)))))))) (And.intro @hnm (And.intro @hny (And.intro @hcn @hkn))) ?_;repeat' constructor)<;>intros<;>refine hD_ ?_)
            all_goals try (exfalso; omega)
            all_goals try (exfalso; simp_all; done)
            all_goals exact ⟨⟨(k+1,y,M),hlt,hN1,hN2⟩,by simp,by simp [← hMa,← hMb],by show S.length - (k+1) < S.length - k; omega⟩
          · rw [show kd 5 y=false from decide_eq_false h5,if_neg (by decide)] at hN1
            by_cases h2:y.kind=2
            · rw [show kd 2 y=true from decide_eq_true h2,Bool.true_and] at hN2
              rw [hcR h2] at hcn
              generalize cnt S y=q at hcn hN2
              cases q
              · rw [if_neg (by decide)] at hN2
                ((refine Az (And.intro @hr (And.intro @hrk (And.intro @hAl (And.intro @hBl (And.intro @h2 (And.intro @e1 @e2)))))) (And.intro @hnm (And.intro @hny @hcn)) ?_;repeat' constructor)<;>intros<;>refine hD_ ?_)
                all_goals try (exfalso; omega)
                all_goals exact ⟨⟨(k+1,f,M),hlt,hN1,hN2⟩,by simp,by simp [← hMa,← hMb],by show S.length - (k+1) < S.length - k; omega⟩
              · rw [if_pos rfl] at hN2
                ((refine Az (And.intro @hr (And.intro @hrk (And.intro @hrw (And.intro @hAl (And.intro @hBl (And.intro @h2 (And.intro @e1 @e2))))))) (And.intro @hnm (And.intro @hny (And.intro @hcn @hkn))) ?_;repeat' constructor)<;>intros<;>refine hD_ ?_)
                all_goals try (exfalso; omega)
                all_goals exact ⟨⟨(k+1,f,M++[y]),hlt,hN1,hN2⟩,by simp,by simp [← hMa,← hMb],by show S.length - (k+1) < S.length - k; omega⟩
            · rw [show kd 2 y=false from decide_eq_false h2,Bool.false_and,if_neg (by decide)] at hN2
              ((refine Az (And.intro @hr (And.intro @hrk (And.intro @hAl (And.intro @hBl (And.intro @h5 (And.intro @h2 (And.intro @e1 @e2))))))) (And.intro @hnm (And.intro @hny @hcn)) ?_;repeat' constructor)<;>intros<;>refine hD_ ?_)
              all_goals try (exfalso; omega)
              all_goals exact ⟨⟨(k+1,f,M),hlt,hN1,hN2⟩,by simp,by simp [← hMa,← hMb],by show S.length - (k+1) < S.length - k; omega⟩
        · rw [decide_eq_false (fun h=>e2 h.2)] at hN1 hN2
          rw [Bool.false_and,Bool.and_false,if_neg (by decide)] at hN2
          rw [Bool.and_false,if_neg (by decide)] at hN1
          ((refine Az (And.intro @hr (And.intro @hrk (And.intro @hAl (And.intro @hBl (And.intro @e1 @e2))))) (And.intro @hnm (And.intro @hny @hcn)) ?_;repeat' constructor)<;>intros<;>refine hD_ ?_)
          all_goals try (exfalso; omega)
          all_goals exact ⟨⟨(k+1,f,M),hlt,hN1,hN2⟩,by simp,by simp [← hMa,← hMb],by show S.length - (k+1) < S.length - k; omega⟩
      · rw [decide_eq_false (fun h=>e1 h.1)] at hN1 hN2
        rw [Bool.false_and,Bool.and_false,if_neg (by decide)] at hN2
        rw [Bool.and_false,if_neg (by decide)] at hN1
        ((refine Az (And.intro @hr (And.intro @hrk (And.intro @hAl (And.intro @hBl @e1)))) (And.intro @hnm (And.intro @hny @hcn)) ?_;repeat' constructor)<;>intros<;>refine hD_ ?_)
        all_goals try (exfalso; omega)
        all_goals exact ⟨⟨(k+1,f,M),hlt,hN1,hN2⟩,by simp,by simp [← hMa,← hMb],by show S.length - (k+1) < S.length - k; omega⟩
    · obtain rfl:k=S.length:=by omega
      rw [List.take_length] at hf hM
      have hE:fld S x=⟨x.nm,f.stn,f.week,x.sheet,M.map fun k=>(knw S k).mark,M.map Nt.nm⟩:=by
        unfold fld flg mks; rw [hf,hM]
      rw [hE]
      ((refine Au ?_;repeat' constructor)<;>intros<;>refine hD_ ?_)
      all_goals try (exfalso; omega)
      all_goals exact Frz.aggL ⟨Frz.pure (by simp),Frz.pure (by simp),Frz.pure (by simp),Frz.pure (by simp),Frz.pure (by simp),Frz.pure (by simp),Frz.pure (by simp),Frz.pure (by simp),Frz.pure (by simp),Frz.pure (by simp),Frz.pure (by simp),Frz.pure (by simp),Frz.pure (by simp),Frz.pure (by simp),Frz.pure (by simp),Frz.pure (by simp),Frz.pure (by simp),Frz.pure (by simp),Frz.pure (by simp),Frz.pure (by simp),Frz.pure (by simp),Frz.pure (by simp),Frz.ownL (cs:=Mk.cs) rfl (by simp) (by decide) (fun a c hc=>by simp at hc; rcases hc with rfl | rfl | rfl <;> simp) (fun a=>rfl),Frz.ownL (cs:=Nm.cs) rfl (by simp) (by decide) nm_pc (fun a=>rfl),trivial⟩
def c156:CF:=⟨49,(jo [jn 2] [0]
 (jo [jn 3] [0,3]
 (.seq (jo [jc 4 0] [0,3,4]
 (.block 0 (.loop (.seq (jo [jm 7 4,jm 8 0,je 9 8,jt .lss 10 7 9] [0,3,4,10]
 (.cond (.t 10) .skip
 (.exit 0)))
 (.seq (.block 1 (jo [jm 13 3,je 14 13,jm 5 14] [0,3,4,5]
 (.seq (.block 2 (.loop (.seq (.seq (.draw [jm 15 5,ju .gtr 16 15 0,jm 17 16,ja 17 (jm 18 0),ja 17 (jm 19 4),ja 17 (ji 20 2 18 19),ja 17 (jk 21 2 20),ja 17 (jm 22 3),ja 17 (jm 23 5),ja 17 (ju .sub 24 23 1),ja 17 (ji 25 2 22 24),ja 17 (jk 26 2 25),ja 17 (jy 27 109 [21,26]),jp 28 17 27] [] [0,3,4,5,28])
 (.cond (.t 28) .skip
 (.exit 2)))
 (.block 3 (.ops [jm 29 5,ju .sub 30 29 1,jm 5 30] [0,3,4,5])))))
 (jo [jw 31 (.bsl true 29 2 0 [] []),jm 32 3,jm 33 5,jw 34 (.slice 2 (.t 32) none (some (.t 33))),jw 35 (.app 29 2 16 (.t 31) (.t 34)),jm 6 35] [0,3,4,5,6]
 (jo [jm 36 6,jm 37 0,jm 38 4,ji 39 2 37 38,jk 40 2 39,jw 41 (.bsl false 29 2 1 [.int .i64 0,.int .i64 0] [(0,2,(.t 40))]),jw 42 (.app 29 2 16 (.t 36) (.t 41)),jm 6 42] [0,3,4,5,6]
 (.ops [jm 43 6,jm 44 3,jm 45 5,jw 46 (.slice 2 (.t 44) (some (.t 45)) none),jw 47 (.app 29 2 16 (.t 43) (.t 46)),jm 3 47] [0,3,4]))))))
 (.ops [jm 11 4,ju .add 12 11 1,jm 4 12] [0,3,4]))))))
 (jo [jm 48 3,jm 2 48] [2]
 .ret)))),[.t 2]⟩
theorem k156:chkF Tryz.prog Tryz.f156 c156=true:=by kernel_rfl
theorem insNm_at {x:Nm}:∀ {o:List Nm} {k:Nat},o.Pairwise (fun a b=>0≤cmpN b a)→k≤o.length→(∀ j,k≤j→j < o.length→cmpN x (o.getD j nm0) < 0)→(0 < k→¬ cmpN x (o.getD (k - 1) nm0) < 0)→insNm x o=o.take k++x::o.drop k
  | [],k,_,hk,_,_=>by
    obtain rfl:k=0:=by simpa using hk
    rfl
  | y::r,0,_,_,h1,_=>by
    have:cmpN x y < 0:=h1 0 (Nat.le_refl _) (by simp)
    unfold insNm
    rw [if_pos this]; rfl
  | y::r,k+1,hs,hk,h1,h2=>by
    rw [List.pairwise_cons] at hs
    have hy:¬ cmpN x y < 0:=fun h=>by
      have h3:=h2 (Nat.succ_pos _)
      cases k with
      | zero=>exact h3 h
      | succ k =>
        have hkr:k < r.length:=by simp only [List.length_cons] at hk; omega
        have h4:0≤cmpN (r.getD k nm0) y:=hs.1 _ (List.mem_of_getElem? (getD_lt nm0 hkr))
        have h5:¬ cmpN x (r.getD k nm0) < 0:=by simpa using h3
        rw [cmpN_lt] at h h5
        have h6:¬ cmpN (r.getD k nm0) y < 0:=by omega
        rw [cmpN_lt] at h6
        omega
    unfold insNm
    rw [if_neg hy,List.take_succ_cons,List.drop_succ_cons,List.cons_append]
    congr 1
    refine insNm_at hs.2 (by simpa using hk) (fun j hj hjl=>?_) (fun h0=>?_)
    · have:=h1 (j+1) (by omega) (by simpa using hjl)
      simpa using this
    · have:=h2 (Nat.succ_pos _)
      obtain ⟨m,rfl⟩:∃ m,k=m+1:=⟨k - 1,by omega⟩
      simpa using this
theorem srtNm_next {l:List Nm} {i:Nat} {a:Nm} (h:l[i]?=some a):srtNm (l.take (i+1))=insNm a (srtNm (l.take i)):=by
  unfold srtNm
  rw [List.take_add_one,h,Option.toList_some,List.foldl_append]; rfl
theorem srtNm_le' (l:List Nm):(srtNm l).Pairwise (fun a b=>0≤cmpN b a):=(srtNm_le l).imp fun h=>by omega
theorem rSorted_spec (l:List Nm) (hl:l.length < 4294967296):Pure Tryz.prog 156 [nmS l] (nmS (srtNm l)):=by
  refine Pure.of_body Tryz.call156 Tryz.func156 k156 (Nat.le_of_ble_eq_true rfl) ?_
  unfold c156
  ((refine Au ?_;repeat' constructor)<;>intros<;>refine hD_ ?_)
  refine AWPC.nil0 2 3 rfl ?_
  refine AWPC.loopE (α:={ x:Nat × Sto // x.1≤l.length }) [3,4] (fun x=>[(3,nmS (srtNm (l.take x.1.1))),(4,n x.1.1)]) (fun x=>x.1.2) (fun x=>l.length - x.1.1) ⟨(0,[]),Nat.zero_le _⟩ ?_ rfl ?_
  · (simp only [zN,zT,zV,zS,zU,Q0,Q1,ex,Q2,Q3,Q4,Q5,Q6,Q7,Q8,Q9,QA,QB,QC,Nat.reduceBEq,W0,W1,W2,W3,W4,W5,reduceIte]; try simp)
    rfl
  · rintro ⟨⟨i,μ⟩,hi⟩
    simp only at hi
    by_cases hlt:i < l.length
    · have ha:=getD_lt nm0 hlt
      have hx:(l.map Nm.cs).getD i []=Nm.cs (l.getD i nm0):=row nm0 hlt
      have hN:=srtNm_next ha
      have hsr:=srtNm_le' (l.take i)
      have hol:(srtNm (l.take i)).length=i:=by rw [(srtNm_perm _).length_eq,List.length_take]; omega
      have hins:=@insNm_at (l.getD i nm0) (srtNm (l.take i))
      generalize l.getD i nm0=x at hx hN hins ha
      generalize srtNm (l.take i)=o at hsr hN hol hins
      ((refine Au ?_;repeat' constructor)<;>intros<;>refine hD_ ?_)
      all_goals try (exfalso; omega)
      refine AWPC.loopS (α:={ k:Nat // k≤i∧∀ j,k≤j→j < i→cmpN x (o.getD j nm0) < 0 }) [5] (fun k=>[(5,n k.1)]) (fun k=>k.1) ⟨i,Nat.le_refl _,fun j h1 h2=>by omega⟩ ?_ ?_
      · (simp only [zN,zT,zV,zS,zU,Q0,Q1,ex,Q2,Q3,Q4,Q5,Q6,Q7,Q8,Q9,QA,QB,QC,Nat.reduceBEq,W0,W1,W2,W3,W4,W5,reduceIte]; try simp)
        omega
      · rintro ⟨k,hk,hI⟩
        try simp only at hk hI
        have fin:(0 < k→¬ cmpN x (o.getD (k - 1) nm0) < 0)→insNm x o=o.take k++x::o.drop k:=fun h=>hins hsr (by omega) (fun j h1 h2=>hI j h1 (by omega)) h
        by_cases h0:0 < k
        · have hrow:(o.map Nm.cs).getD ((k:Int) - 1).toNat []=Nm.cs (o.getD (k - 1) nm0):=by
            rw [show ((k:Int) - 1).toNat=k - 1 by omega]; exact row nm0 (by omega)
          have hb:=rAhead_spec x (o.getD (k - 1) nm0)
          by_cases hc:cmpN x (o.getD (k - 1) nm0) < 0
          · rw [decide_eq_true hc] at hb
            generalize hy:o.getD (k - 1) nm0=y at hrow hb hc
            ((refine Az (And.intro @hx @hrow) @hb ?_;repeat' constructor)<;>intros<;>refine hD_ ?_)
            all_goals try (exfalso; omega)
            refine ⟨⟨k - 1,by omega,fun j h1 h2=>?_⟩,?_,by simp only; omega⟩
            · rcases (show j=k - 1∨k≤j by omega) with rfl | h3
              · rw [hy]; exact hc
              · exact hI j h3 h2
            · simp; omega
          · have hF:=fin fun _=>hc
            rw [decide_eq_false hc] at hb
            generalize o.getD (k - 1) nm0=y at hrow hb
            clear hins fin hsr
            iterate 5
              ((first
 | refine vn rfl ?_
 | simp (disch:=omega) only [wr64,Int.zero_sub]
 | refine bo (fun _=>?_) fun _=>?_
 | refine im fun _=>?_
 | ((repeat refine si ?_); (first | ((first | refine .inl ⟨_,_,_,_,rfl,fun _=>pu hb,?_⟩ | refine ⟨_,_,_,_,rfl,fun _=>pu hb,?_⟩); (first | refine o1 ?_ | refine o2 ?_ | refine o3 ?_ | refine o4 ?_)) | refine .inl ⟨_,_,_,_,rfl,pu hb,?_⟩))
 | refine cF ?_
 | refine om ?_
 | refine an ?_
 | fail) <;> try simp only [zN, zT, zV, zS, zU, vcC, lateX, ex, strp, binA, elems, cells, scalar, eqC, keyA, intsA, lookA, ofVs, mpOf, Nat.reduceBEq, reduceAdd, reduceSub, reduceLT, reduceLeDiff, reduceMul, reduceEqDiff, reduceIte, hx, hrow, hol, List.length_map])
            clear hI hc hb hrow h0
            obtain ⟨P,hP⟩:∃ P,P=o.take k:=⟨_,rfl⟩
            obtain ⟨Q,hQ⟩:∃ Q,Q=o.drop k:=⟨_,rfl⟩
            have hPm:List.take k (o.map Nm.cs)=P.map Nm.cs:=by rw [hP,List.map_take]
            have hQm:List.drop k (List.take i (o.map Nm.cs))=Q.map Nm.cs:=by rw [hQ,List.map_drop,List.take_of_length_le (by rw [List.length_map]; omega)]
            have hPl:P.length=k:=by rw [hP,List.length_take]; omega
            have hQl:Q.length=i - k:=by rw [hQ,List.length_drop]; omega
            have hPr:∀ e,e < k→((P.map Nm.cs).getD e []).length=2:=fun e he=>by rw [row nm0 (by omega)]; rfl
            have hQr:∀ e,e < i - k→((Q.map Nm.cs).getD e []).length=2:=fun e he=>by rw [row nm0 (by omega)]; rfl
            rw [← hP,← hQ] at hF
            clear hP hQ
            iterate 2
              ((first
 | refine vn rfl ?_
 | simp (disch:=omega) only [wr64,Int.zero_sub]
 | refine bo (fun _=>?_) fun _=>?_
 | refine im fun _=>?_
 | refine cF ?_
 | refine om ?_
 | refine an ?_
 | fail) <;> try simp only [zN, zT, zV, zS, zU, vcC, lateX, ex, strp, binA, elems, cells, scalar, eqC, keyA, intsA, lookA, ofVs, mpOf, Nat.reduceBEq, reduceAdd, reduceSub, reduceLT, reduceLeDiff, reduceMul, reduceEqDiff, reduceIte, hx, hPm, hQm, hPl, hQl, hol, List.length_map, Option.toList, List.append_nil, List.nil_append, List.cons_append])
            refine ⟨⟨hPr,by omega⟩,?_⟩
            iterate 5
              ((first
 | refine vn rfl ?_
 | simp (disch:=omega) only [wr64,Int.zero_sub]
 | refine bo (fun _=>?_) fun _=>?_
 | refine im fun _=>?_
 | refine cF ?_
 | refine om ?_
 | refine an ?_
 | fail) <;> try simp only [zN, zT, zV, zS, zU, vcC, lateX, ex, strp, binA, elems, cells, scalar, eqC, keyA, intsA, lookA, ofVs, mpOf, Nat.reduceBEq, reduceAdd, reduceSub, reduceLT, reduceLeDiff, reduceMul, reduceEqDiff, reduceIte, hx, hPm, hQm, hPl, hQl, hol, List.length_map, Option.toList, List.append_nil, List.nil_append, List.cons_append])
            refine ⟨⟨hQr,by omega⟩,?_⟩
            refine AWPC.freeze1 (f:=μ.length) (t:=3) (o:=⟨29,2,(P++x::Q).map Nm.cs,none⟩) rfl (by rw [at_app0]; simp [at_cons0]) (by simp; omega) (show (2:Nat)≠0 by decide) ?_
            rw [← hF,← hN]
            generalize gone _ _=ν
            ((refine Au ?_;repeat' constructor)<;>intros<;>refine hD_ ?_)
            all_goals try (exfalso; omega)
            all_goals exact ⟨⟨(i+1,ν),hlt⟩,by simp,rfl,by simp only; omega⟩
        · have hF:=fin fun h=>absurd h h0
          have hg0:¬ (0:Int) < (k:Int):=by omega
          have hrw:((o.map Nm.cs).getD ((k:Int) - 1).toNat []=[])∨∃ y:Nm,(o.map Nm.cs).getD ((k:Int) - 1).toNat []=y.cs:=by
            by_cases h:((k:Int) - 1).toNat < o.length
            · exact .inr ⟨_,row nm0 h⟩
            · exact .inl (by rw [List.getD_eq_getElem?_getD,List.getElem?_eq_none (by rw [List.length_map]; omega)]; rfl)
          rcases hrw with hrow | ⟨y,hrow⟩
          all_goals
            iterate 5
              ((first
 | refine vn rfl ?_
 | simp (disch:=omega) only [wr64,Int.zero_sub]
 | refine bo (fun _=>?_) fun _=>?_
 | refine im fun _=>?_
 | refine cF ?_
 | refine cG ?_
 | refine om ?_
 | refine an ?_
 | fail) <;> try simp only [zN, zT, zV, zS, zU, vcC, lateX, ex, strp, binA, elems, cells, scalar, eqC, keyA, intsA, lookA, ofVs, mpOf, Nat.reduceBEq, reduceAdd, reduceSub, reduceLT, reduceLeDiff, reduceMul, reduceEqDiff, reduceIte, hx, hg0, hol, hrow, List.length_map])
            clear hI h0 hg0 hins fin hsr hrow
            obtain ⟨P,hP⟩:∃ P,P=o.take k:=⟨_,rfl⟩
            obtain ⟨Q,hQ⟩:∃ Q,Q=o.drop k:=⟨_,rfl⟩
            have hPm:List.take k (o.map Nm.cs)=P.map Nm.cs:=by rw [hP,List.map_take]
            have hQm:List.drop k (List.take i (o.map Nm.cs))=Q.map Nm.cs:=by rw [hQ,List.map_drop,List.take_of_length_le (by rw [List.length_map]; omega)]
            have hPl:P.length=k:=by rw [hP,List.length_take]; omega
            have hQl:Q.length=i - k:=by rw [hQ,List.length_drop]; omega
            have hPr:∀ e,e < k→((P.map Nm.cs).getD e []).length=2:=fun e he=>by rw [row nm0 (by omega)]; rfl
            have hQr:∀ e,e < i - k→((Q.map Nm.cs).getD e []).length=2:=fun e he=>by rw [row nm0 (by omega)]; rfl
            rw [← hP,← hQ] at hF
            clear hP hQ
            iterate 2
              ((first
 | refine vn rfl ?_
 | simp (disch:=omega) only [wr64,Int.zero_sub]
 | refine bo (fun _=>?_) fun _=>?_
 | refine im fun _=>?_
 | refine cF ?_
 | refine om ?_
 | refine an ?_
 | fail) <;> try simp only [zN, zT, zV, zS, zU, vcC, lateX, ex, strp, binA, elems, cells, scalar, eqC, keyA, intsA, lookA, ofVs, mpOf, Nat.reduceBEq, reduceAdd, reduceSub, reduceLT, reduceLeDiff, reduceMul, reduceEqDiff, reduceIte, hx, hPm, hQm, hPl, hQl, hol, List.length_map, Option.toList, List.append_nil, List.nil_append, List.cons_append])
            refine ⟨⟨hPr,by omega⟩,?_⟩
            iterate 5
              ((first
 | refine vn rfl ?_
 | simp (disch:=omega) only [wr64,Int.zero_sub]
 | refine bo (fun _=>?_) fun _=>?_
 | refine im fun _=>?_
 | refine cF ?_
 | refine om ?_
 | refine an ?_
 | fail) <;> try simp only [zN, zT, zV, zS, zU, vcC, lateX, ex, strp, binA, elems, cells, scalar, eqC, keyA, intsA, lookA, ofVs, mpOf, Nat.reduceBEq, reduceAdd, reduceSub, reduceLT, reduceLeDiff, reduceMul, reduceEqDiff, reduceIte, hx, hPm, hQm, hPl, hQl, hol, List.length_map, Option.toList, List.append_nil, List.nil_append, List.cons_append])
            refine ⟨⟨hQr,by omega⟩,?_⟩
            refine AWPC.freeze1 (f:=μ.length) (t:=3) (o:=⟨29,2,(P++x::Q).map Nm.cs,none⟩) rfl (by rw [at_app0]; simp [at_cons0]) (by simp; omega) (show (2:Nat)≠0 by decide) ?_
            rw [← hF,← hN]
            generalize gone _ _=ν
            ((refine Au ?_;repeat' constructor)<;>intros<;>refine hD_ ?_)
            all_goals try (exfalso; omega)
            all_goals exact ⟨⟨(i+1,ν),hlt⟩,by simp,rfl,by simp only; omega⟩
    · obtain rfl:i=l.length:=by omega
      rw [List.take_length]
      ((refine Au ?_;repeat' constructor)<;>intros<;>refine hD_ ?_)
      all_goals try (exfalso; omega)
      all_goals exact Frz.eq rfl (by simp)
def c196:CF:=⟨6,(jo [jx 1 109 4 0,jc 2 0] [1]
 (jo [jk 3 4 1,jw 4 (.bsl false 109 4 1 [.int .i64 0,.int .i64 0,.int .i64 0,.slice none 0 0] [(0,4,(.t 3))]),jy 5 195 [4],jm 2 5] [2]
 .ret)),[.t 2]⟩
theorem k196:chkF Tryz.prog Tryz.f196 c196=true:=by kernel_rfl
def c153:CF:=⟨73,(jo [jx 2 109 4 0,jx 3 66 3 1,jw 4 (.alloc 109 4 [.int .i64 0,.int .i64 0,.int .i64 0,.slice none 0 0]),jc 5 0] [2,3,4]
 (jo [jk 10 4 2,jy 11 196 [10],jm 6 11] [2,3,4,6]
 (.seq (jo [jm 12 6,ju .neq 13 12 0] [2,3,4,6,13]
 (.cond (.t 13) (jo [jw 14 (.build [.int .i64 0,.int .i64 0,.int .i64 0,.slice none 0 0] []),jm 15 6,js 4 4 14,jm 5 15] [4,5]
 .ret)
 .skip))
 (jo [jf 16 0 2,jl 17 16,jf 18 1 2,jl 19 18,jf 20 2 2,jl 21 20,jw 22 (.build [.int .i64 0,.int .i64 0,.int .i64 0,.slice none 0 0] [(0,1,(.t 17)),(1,1,(.t 19)),(2,1,(.t 21))]),jw 7 (.alloc 109 4 [.int .i64 0,.int .i64 0,.int .i64 0,.slice none 0 0]),js 4 7 22] [2,3,4,7]
 (jo [jb 8 false] [2,3,4,7,8]
 (.seq (jo [jc 9 0] [2,3,4,7,8,9]
 (.block 0 (.loop (.seq (jo [jm 23 9,jf 24 3 2,jl 25 24,je 26 25,jt .lss 27 23 26] [2,3,4,7,8,9,27]
 (.cond (.t 27) .skip
 (.exit 0)))
 (.seq (.block 1 (.seq (.seq (.draw [jm 30 8,jv 31 30,jm 32 31,ja 32 (jf 33 3 2),ja 32 (jl 34 33),ja 32 (jm 35 9),ja 32 (ji 36 3 34 35),ja 32 (jf 37 0 36),ja 32 (jl 38 37),ja 32 (jf 39 0 3),ja 32 (jl 40 39),ja 32 (jt .gtr 41 38 40),jp 42 32 41] [] [2,3,4,7,8,9,42])
 (.cond (.t 42) (jo [jf 43 3 7,jl 44 43,jk 45 3 3,jw 46 (.bsl false 66 3 1 [.int .i64 0,.int .i64 0,.int .i64 0] [(0,3,(.t 45))]),jw 47 (.app 66 3 24 (.t 44) (.t 46)),jf 48 3 7,js 1 48 47] [2,3,4,7,9]
 (.ops [jb 8 true] [2,3,4,7,8,9]))
 .skip))
 (.draw [jf 49 3 7,jl 50 49,jf 51 3 2,jl 52 51,jm 53 9,ji 54 3 52 53,jk 55 3 54,jw 56 (.bsl false 66 3 1 [.int .i64 0,.int .i64 0,.int .i64 0] [(0,3,(.t 55))])] [jw 57 (.app 66 3 24 (.t 50) (.t 56)),jf 58 3 7,js 1 58 57] [2,3,4,7,8,9])))
 (.ops [jm 28 9,ju .add 29 28 1,jm 9 29] [2,3,4,7,8,9]))))))
 (.seq (jo [jm 59 8,jv 60 59] [3,4,7,60]
 (.cond (.t 60) (.ops [jf 61 3 7,jl 62 61,jk 63 3 3,jw 64 (.bsl false 66 3 1 [.int .i64 0,.int .i64 0,.int .i64 0] [(0,3,(.t 63))]),jw 65 (.app 66 3 24 (.t 62) (.t 64)),jf 66 3 7,js 1 66 65] [4,7])
 .skip))
 (.seq (jo [jf 67 3 7,jl 68 67,jy 69 175 [68],jv 70 69] [4,7,70]
 (.cond (.t 70) (jo [jw 71 (.build [.int .i64 0,.int .i64 0,.int .i64 0,.slice none 0 0] []),js 4 4 71,jc 5 51] [4,5]
 .ret)
 .skip))
 (jo [jk 72 4 7,js 4 4 72,jc 5 0] [4,5]
 .ret))))))))),[.c 4 (some 4),.t 5]⟩
theorem k153:chkF Tryz.prog Tryz.f153 c153=true:=by kernel_rfl
theorem rOne_spec (s:Stn) (hs:s.heights.length < 9223372036854775808):Pure Tryz.prog 196 [.agg s.cs] (n (stnsE [s]).1):=by
  refine Pure.of_body Tryz.call196 Tryz.func196 k196 (Nat.le_of_ble_eq_true rfl) ?_
  unfold c196
  have h:=rList_spec [s] ⟨by simp,by simpa using hs⟩
  simp only [List.map_cons,List.map_nil,snS] at h
  generalize (stnsE [s]).1=e at h
  ((refine Ay @h ?_;repeat' constructor)<;>intros<;>refine hD_ ?_)
  all_goals try (exfalso; omega)
  all_goals exact Frz.eq rfl (PureV.v _)
def putR (h:Hgt):List Hgt→List Hgt
  | []=>[h]
  | g::r=>if h.week < g.week then h::g::r else g::putR h r
theorem putR_len (h:Hgt):∀ l,(putR h l).length=l.length+1
  | []=>rfl
  | g::r=>by unfold putR; split <;> simp [putR_len h r]
theorem putR_perm (h:Hgt):∀ l,(putR h l).Perm (h::l)
  | []=>.refl _
  | g::r=>by
    unfold putR
    split
    · exact .refl _
    · exact ((putR_perm h r).cons g).trans (.swap h g r)
theorem putH_perm' (h:Hgt):∀ l,(putH h l).Perm (h::l)
  | []=>.refl _
  | g::r=>by
    unfold putH
    split
    · exact ((putH_perm' h r).cons g).trans (.swap h g r)
    · exact .refl _
theorem putR_H {h:Hgt}:∀ {l:List Hgt},(∀ g∈l,g.week≠h.week)→putR h l=putH h l
  | [],_=>rfl
  | g::r,hne=>by
    have h1:=hne g (by simp)
    unfold putR putH
    by_cases h2:g.week < h.week
    · rw [if_neg (by omega),if_pos h2,putR_H fun x hx=>hne x (by simp [hx])]
    · rw [if_pos (by omega),if_neg h2]
theorem high_lt {l:List Hgt} (h:highOk l):(l.map Hgt.week).Pairwise (· < ·):=by
  have key:∀ j,j < l.length→∀ i,i < j→(l.getD i default).week < (l.getD j default).week:=by
    intro j
    induction j with
    | zero=>intro _ i hi; omega
    | succ j ih =>
      intro hj i hi
      have h1:(l.getD j default).week < (l.getD (j+1) default).week:=by
        have:=h.2 (j+1) hj
        unfold highAt at this
        exact this.2.1 (Nat.succ_pos _)
      rcases (show i=j∨i < j by omega) with rfl | hij
      · exact h1
      · have:=ih (by omega) i hij; omega
  rw [List.pairwise_map,List.pairwise_iff_getElem]
  intro i j hi hj hij
  have:=key j hj i hij
  rw [List.getD_eq_getElem?_getD,List.getD_eq_getElem?_getD,List.getElem?_eq_getElem hi,List.getElem?_eq_getElem hj] at this
  simpa using this
theorem high_no {h:Hgt} {l m:List Hgt} (hp:m.Perm (h::l)) (g:Hgt) (hg:g∈l) (e:g.week=h.week):¬ highOk m:=fun ho=>by
  have h1:(m.map Hgt.week).Nodup:=(high_lt ho).imp fun {x y} h e=>by omega
  have h2:((h::l).map Hgt.week).Nodup:=(hp.map _).nodup_iff.1 h1
  rw [List.map_cons,List.nodup_cons] at h2
  exact h2.1 (List.mem_map.2 ⟨g,hg,e⟩)
theorem moveE_R (s:Stn) (h:Hgt):moveE s h=if (stnsE [s]).1≠0 then (default,(stnsE [s]).1) else if highOk (putR h s.heights) then ({ s with heights:=putR h s.heights },0) else (default,51):=by
  unfold moveE
  by_cases hx:∃ g∈s.heights,g.week=h.week
  · obtain ⟨g,hg,e⟩:=hx
    rw [if_neg (high_no (putH_perm' h _) g hg e),if_neg (high_no (putR_perm h _) g hg e)]
  · rw [putR_H fun g hg e=>hx ⟨g,hg,e⟩]
theorem rMove_spec (s:Stn) (h:Hgt) (hs:s.heights.length < 1000000):Pure Tryz.prog 153 [.agg s.cs,.agg h.cs] (.tup [.agg (moveE s h).1.cs,n (moveE s h).2]):=by
  refine Pure.of_body Tryz.call153 Tryz.func153 k153 (Nat.le_of_ble_eq_true rfl) ?_
  unfold c153
  have ha:=rOne_spec s (by omega)
  rw [moveE_R]
  by_cases he:(stnsE [s]).1=0
  · rw [he] at ha
    rw [if_neg (by omega)]
    obtain ⟨id,sx,sy,L⟩:=s
    simp only at hs ⊢
    clear he
    ((refine Ay @ha ?_;repeat' constructor)<;>intros<;>refine hD_ ?_)
    all_goals try (exfalso; omega)
    refine AWPC.own0c 66 3 (f:=1) (i:=0) (e:=0) (j:=3) rfl (by simp) rfl ?_
    refine AWPC.sto (σ':=[some [⟨109,4,[[n 0,n 0,n 0,.v (.slice none 0 0)]],none⟩],some [⟨109,4,[[n id,n sx,n sy,.own 2 0 0]],none⟩],some [⟨66,3,[],none⟩]]) rfl ?_
    refine AWPC.loopE (α:={ z:Nat × Bool × List Hgt // z.1≤L.length∧z.2.2++(if z.2.1 then L.drop z.1 else putR h (L.drop z.1))=putR h L }) [8,9] (fun z=>[(8,bl z.1.2.1),(9,n z.1.1)])
      (fun z=>[some [⟨109,4,[[n 0,n 0,n 0,.v (.slice none 0 0)]],none⟩],some [⟨109,4,[[n id,n sx,n sy,.own 2 0 z.1.2.2.length]],none⟩],some [⟨66,3,z.1.2.2.map Hgt.cs,none⟩]]) (fun z=>L.length - z.1.1) ⟨(0,false,[]),Nat.zero_le _,by simp⟩ ?_ rfl ?_
    · (simp only [zN,zT,zV,zS,zU,Q0,Q1,ex,Q2,Q3,Q4,Q5,Q6,Q7,Q8,Q9,QA,QB,QC,Nat.reduceBEq,W0,W1,W2,W3,W4,W5,reduceIte]; try simp)
    · rintro ⟨⟨i,d,O⟩,hi,hO⟩
      simp only at hi hO ⊢
      have hOl:O.length≤L.length+1:=by
        have:=congrArg List.length hO
        rw [List.length_append,putR_len] at this; omega
      generalize hM:O.map Hgt.cs=M
      have hMl:M.length=O.length:=by rw [← hM,List.length_map]
      by_cases hlt:i < L.length
      · have hr:(L.map Hgt.cs).getD i []=Hgt.cs (L.getD i default):=row default hlt
        have hd:L.drop i=L.getD i default::L.drop (i+1):=by
          rw [List.drop_eq_getElem_cons hlt,List.getD_eq_getElem?_getD,List.getElem?_eq_getElem hlt]; rfl
        rw [hd] at hO
        generalize L.getD i default=g at hr hO
        clear hd
        cases d with
        | true =>
          rw [if_pos rfl] at hO
          ((refine Ax (And.intro @hr @hMl) ?_;repeat' constructor)<;>intros<;>refine hD_ ?_)
          all_goals try (exfalso; omega)
          all_goals exact ⟨⟨(i+1,true,O++[g]),hlt,by simpa using hO⟩,⟨by simp,by simp⟩,by simp [← hM],by show L.length - (i+1) < L.length - i; omega⟩
        | false =>
          rw [if_neg (by decide)] at hO
          by_cases hw:h.week < g.week
          · rw [putR,if_pos hw] at hO
            ((refine Ax (And.intro @hr @hMl) ?_;repeat' constructor)<;>intros<;>refine hD_ ?_)
            all_goals try (exfalso; omega)
            all_goals exact ⟨⟨(i+1,true,O++[h,g]),hlt,by simpa using hO⟩,⟨by simp,by simp⟩,by simp [← hM],by show L.length - (i+1) < L.length - i; omega⟩
          · rw [putR,if_neg hw] at hO
            ((refine Ax (And.intro @hr @hMl) ?_;repeat' constructor)<;>intros<;>refine hD_ ?_)
            all_goals try (exfalso; omega)
            all_goals exact ⟨⟨(i+1,false,O++[g]),hlt,by simpa using hO⟩,⟨by simp,by simp⟩,by simp [← hM],by show L.length - (i+1) < L.length - i; omega⟩
      · obtain rfl:i=L.length:=by omega
        rw [List.drop_length] at hO
        cases d with
        | true =>
          rw [if_pos rfl,List.append_nil] at hO
          have hpk:∀ A B,Peek Tryz.prog 175 [.own 2 0 (O.length)] [A,B,some [⟨66,3,M,none⟩]] (bl (decide (highOk (O)))):=fun A B =>
            Peek.plain (rHeights_spec (O) (by omega)) (Plain.v _) ⟨Frz.ownL (f:=2) (cs:=Hgt.cs) (l:=O) (by simp [← hM]; rfl) (by simp) (by decide) (fun a c hc=>by simp at hc; rcases hc with rfl | rfl | rfl <;> simp) (fun a=>rfl),trivial⟩
          by_cases hk:highOk (O)
          · simp only [decide_eq_true hk] at hpk
            have hE:(if highOk (putR h L) then (({ id:=id,x:=sx,y:=sy,heights:=putR h L }:Stn),(0:Int)) else (default,51))=(⟨id,sx,sy,O⟩,0):=by rw [← hO,if_pos hk]
            simp only [hE]
            (repeat' ((first
 | refine vn rfl ?_
 | simp (disch:=omega) only [wr64,Int.zero_sub]
 | refine bo (fun _=>?_) fun _=>?_
 | refine im fun _=>?_
 | ((repeat refine si ?_); ((first | refine .inl ⟨_,_,_,_,rfl,fun _=>(by first | exact (hpk _ _)),?_⟩ | refine ⟨_,_,_,_,rfl,fun _=>(by first | exact (hpk _ _)),?_⟩); (first | refine o1 ?_ | refine o2 ?_ | refine o3 ?_ | refine o4 ?_)))
 | refine cF ?_
 | refine om ?_
 | refine an ?_
 | fail) <;> try simp only [zN, zT, zV, zS, zU, vcC, lateX, ex, strp, binA, elems, cells, scalar, eqC, keyA, intsA, lookA, ofVs, mpOf, Nat.reduceBEq, reduceAdd, reduceSub, reduceLT, reduceLeDiff, reduceMul, reduceEqDiff, reduceIte, hMl, List.length_map]))
            all_goals try (exfalso; omega)
            all_goals exact Frz.tupL ⟨Frz.aggL ⟨Frz.pure (by simp),Frz.pure (by simp),Frz.pure (by simp),Frz.ownL (cs:=Hgt.cs) (l:=(O)) (by simp [← hM]; rfl) (by simp) (by decide) (fun a c hc=>by simp at hc; rcases hc with rfl | rfl | rfl <;> simp) (fun a=>rfl),trivial⟩,Frz.pure (by simp),trivial⟩
          · simp only [decide_eq_false hk] at hpk
            have hE:(if highOk (putR h L) then (({ id:=id,x:=sx,y:=sy,heights:=putR h L }:Stn),(0:Int)) else (default,51))=(default,51):=by rw [← hO,if_neg hk]
            simp only [hE]
            (repeat' ((first
 | refine vn rfl ?_
 | simp (disch:=omega) only [wr64,Int.zero_sub]
 | refine bo (fun _=>?_) fun _=>?_
 | refine im fun _=>?_
 | ((repeat refine si ?_); ((first | refine .inl ⟨_,_,_,_,rfl,fun _=>(by first | exact (hpk _ _)),?_⟩ | refine ⟨_,_,_,_,rfl,fun _=>(by first | exact (hpk _ _)),?_⟩); (first | refine o1 ?_ | refine o2 ?_ | refine o3 ?_ | refine o4 ?_)))
 | refine cF ?_
 | refine om ?_
 | refine an ?_
 | fail) <;> try simp only [zN, zT, zV, zS, zU, vcC, lateX, ex, strp, binA, elems, cells, scalar, eqC, keyA, intsA, lookA, ofVs, mpOf, Nat.reduceBEq, reduceAdd, reduceSub, reduceLT, reduceLeDiff, reduceMul, reduceEqDiff, reduceIte, hMl, List.length_map]))
            all_goals try (exfalso; omega)
            all_goals exact Frz.tupL ⟨Frz.aggL ⟨Frz.pure (by simp),Frz.pure (by simp),Frz.pure (by simp),Frz.nil0,trivial⟩,Frz.pure (by simp),trivial⟩
        | false =>
          rw [if_neg (by decide),putR] at hO
          have hpk:∀ A B,Peek Tryz.prog 175 [.own 2 0 (O.length+1)] [A,B,some [⟨66,3,M++[h.cs],none⟩]] (bl (decide (highOk (O++[h])))):=fun A B =>
            Peek.plain (rHeights_spec (O++[h]) (by simp; omega)) (Plain.v _) ⟨Frz.ownL (f:=2) (cs:=Hgt.cs) (l:=O++[h]) (by simp [← hM]; rfl) (by simp) (by decide) (fun a c hc=>by simp at hc; rcases hc with rfl | rfl | rfl <;> simp) (fun a=>rfl),trivial⟩
          by_cases hk:highOk (O++[h])
          · simp only [decide_eq_true hk] at hpk
            have hE:(if highOk (putR h L) then (({ id:=id,x:=sx,y:=sy,heights:=putR h L }:Stn),(0:Int)) else (default,51))=(⟨id,sx,sy,O++[h]⟩,0):=by rw [← hO,if_pos hk]
            simp only [hE]
            (repeat' ((first
 | refine vn rfl ?_
 | simp (disch:=omega) only [wr64,Int.zero_sub]
 | refine bo (fun _=>?_) fun _=>?_
 | refine im fun _=>?_
 | ((repeat refine si ?_); ((first | refine .inl ⟨_,_,_,_,rfl,fun _=>(by first | exact (hpk _ _)),?_⟩ | refine ⟨_,_,_,_,rfl,fun _=>(by first | exact (hpk _ _)),?_⟩); (first | refine o1 ?_ | refine o2 ?_ | refine o3 ?_ | refine o4 ?_)))
 | refine cF ?_
 | refine om ?_
 | refine an ?_
 | fail) <;> try simp only [zN, zT, zV, zS, zU, vcC, lateX, ex, strp, binA, elems, cells, scalar, eqC, keyA, intsA, lookA, ofVs, mpOf, Nat.reduceBEq, reduceAdd, reduceSub, reduceLT, reduceLeDiff, reduceMul, reduceEqDiff, reduceIte, hMl, List.length_map]))
            all_goals try (exfalso; omega)
            all_goals exact Frz.tupL ⟨Frz.aggL ⟨Frz.pure (by simp),Frz.pure (by simp),Frz.pure (by simp),Frz.ownL (cs:=Hgt.cs) (l:=(O++[h])) (by simp [← hM]; rfl) (by simp) (by decide) (fun a c hc=>by simp at hc; rcases hc with rfl | rfl | rfl <;> simp) (fun a=>rfl),trivial⟩,Frz.pure (by simp),trivial⟩
          · simp only [decide_eq_false hk] at hpk
            have hE:(if highOk (putR h L) then (({ id:=id,x:=sx,y:=sy,heights:=putR h L }:Stn),(0:Int)) else (default,51))=(default,51):=by rw [← hO,if_neg hk]
            simp only [hE]
            (repeat' ((first
 | refine vn rfl ?_
 | simp (disch:=omega) only [wr64,Int.zero_sub]
 | refine bo (fun _=>?_) fun _=>?_
 | refine im fun _=>?_
 | ((repeat refine si ?_); ((first | refine .inl ⟨_,_,_,_,rfl,fun _=>(by first | exact (hpk _ _)),?_⟩ | refine ⟨_,_,_,_,rfl,fun _=>(by first | exact (hpk _ _)),?_⟩); (first | refine o1 ?_ | refine o2 ?_ | refine o3 ?_ | refine o4 ?_)))
 | refine cF ?_
 | refine om ?_
 | refine an ?_
 | fail) <;> try simp only [zN, zT, zV, zS, zU, vcC, lateX, ex, strp, binA, elems, cells, scalar, eqC, keyA, intsA, lookA, ofVs, mpOf, Nat.reduceBEq, reduceAdd, reduceSub, reduceLT, reduceLeDiff, reduceMul, reduceEqDiff, reduceIte, hMl, List.length_map]))
            all_goals try (exfalso; omega)
            all_goals exact Frz.tupL ⟨Frz.aggL ⟨Frz.pure (by simp),Frz.pure (by simp),Frz.pure (by simp),Frz.nil0,trivial⟩,Frz.pure (by simp),trivial⟩
  · rw [if_pos he]
    generalize (stnsE [s]).1=e at ha he
    ((refine Ay @ha ?_;repeat' constructor)<;>intros<;>refine hD_ ?_)
    all_goals try (exfalso; omega)
    all_goals exact Frz.tupL ⟨Frz.aggL ⟨Frz.pure (by simp),Frz.pure (by simp),Frz.pure (by simp),Frz.nil0,trivial⟩,Frz.pure (by simp),trivial⟩
def c105:CF:=⟨26,(jo [jb 4 false] [0,1]
 (.seq (jo [jm 6 0,je 7 6,jm 8 1,je 9 8,jt .neq 10 7 9] [0,1,10]
 (.cond (.t 10) (jo [jb 4 false] [4]
 .ret)
 .skip))
 (.seq (jo [jc 5 0] [0,1,5]
 (.block 0 (.loop (.seq (jo [jm 11 5,jm 12 0,je 13 12,jt .lss 14 11 13] [0,1,5,14]
 (.cond (.t 14) .skip
 (.exit 0)))
 (.seq (.block 1 (.seq (.draw [jm 17 0,jm 18 5,ji 19 3 17 18,jk 20 3 19,jm 21 1,jm 22 5,ji 23 3 21 22,jk 24 3 23,jw 25 (.eqs true [some .i64,some .i64,some .i64] (.t 20) (.t 24))] [] [0,1,5,25])
 (.cond (.t 25) (jo [jb 4 false] [4]
 .ret)
 .skip)))
 (.ops [jm 15 5,ju .add 16 15 1,jm 5 16] [0,1,5]))))))
 (jo [jb 4 true] [4]
 .ret)))),[.t 4]⟩
theorem k105:chkF Tryz.prog Tryz.f105 c105=true:=by kernel_rfl
def c93:CF:=⟨26,(jo [jb 4 false] [0,1]
 (.seq (jo [jm 6 0,je 7 6,jm 8 1,je 9 8,jt .neq 10 7 9] [0,1,10]
 (.cond (.t 10) (jo [jb 4 false] [4]
 .ret)
 .skip))
 (.seq (jo [jc 5 0] [0,1,5]
 (.block 0 (.loop (.seq (jo [jm 11 5,jm 12 0,je 13 12,jt .lss 14 11 13] [0,1,5,14]
 (.cond (.t 14) .skip
 (.exit 0)))
 (.seq (.block 1 (.seq (.draw [jm 17 0,jm 18 5,ji 19 5 17 18,jk 20 5 19,jm 21 1,jm 22 5,ji 23 5 21 22,jk 24 5 23,jw 25 (.eqs true [some .i64,some .i64,some .i64,some .i64,some .i64] (.t 20) (.t 24))] [] [0,1,5,25])
 (.cond (.t 25) (jo [jb 4 false] [4]
 .ret)
 .skip)))
 (.ops [jm 15 5,ju .add 16 15 1,jm 5 16] [0,1,5]))))))
 (jo [jb 4 true] [4]
 .ret)))),[.t 4]⟩
theorem k93:chkF Tryz.prog Tryz.f93 c93=true:=by kernel_rfl
def c59:CF:=⟨52,(jo [jx 2 109 4 0,jx 3 109 4 1,jb 4 false] [2,3]
 (.seq (jo [jf 6 0 2,jl 7 6,jf 8 0 3,jl 9 8,jt .neq 10 7 9,jm 11 10,jd 11 (jf 12 1 2),jd 11 (jl 13 12),jd 11 (jf 14 1 3),jd 11 (jl 15 14),jd 11 (jt .neq 16 13 15),jq 17 11 16,jm 18 17,jd 18 (jf 19 2 2),jd 18 (jl 20 19),jd 18 (jf 21 2 3),jd 18 (jl 22 21),jd 18 (jt .neq 23 20 22),jq 24 18 23,jm 25 24,jd 25 (jf 26 3 2),jd 25 (jl 27 26),jd 25 (je 28 27),jd 25 (jf 29 3 3),jd 25 (jl 30 29),jd 25 (je 31 30),jd 25 (jt .neq 32 28 31),jq 33 25 32] [2,3,33]
 (.cond (.t 33) (jo [jb 4 false] [4]
 .ret)
 .skip))
 (.seq (jo [jc 5 0] [2,3,5]
 (.block 0 (.loop (.seq (jo [jm 34 5,jf 35 3 2,jl 36 35,je 37 36,jt .lss 38 34 37] [2,3,5,38]
 (.cond (.t 38) .skip
 (.exit 0)))
 (.seq (.block 1 (.seq (.draw [jf 41 3 2,jl 42 41,jm 43 5,ji 44 3 42 43,jk 45 3 44,jf 46 3 3,jl 47 46,jm 48 5,ji 49 3 47 48,jk 50 3 49,jw 51 (.eqs true [some .i64,some .i64,some .i64] (.t 45) (.t 50))] [] [2,3,5,51])
 (.cond (.t 51) (jo [jb 4 false] [4]
 .ret)
 .skip)))
 (.ops [jm 39 5,ju .add 40 39 1,jm 5 40] [2,3,5]))))))
 (jo [jb 4 true] [4]
 .ret)))),[.t 4]⟩
theorem k59:chkF Tryz.prog Tryz.f59 c59=true:=by kernel_rfl
def c38:CF:=⟨27,(jo [jb 4 false] [0,1]
 (.seq (jo [jm 6 0,je 7 6,jm 8 1,je 9 8,jt .neq 10 7 9] [0,1,10]
 (.cond (.t 10) (jo [jb 4 false] [4]
 .ret)
 .skip))
 (.seq (jo [jc 5 0] [0,1,5]
 (.block 0 (.loop (.seq (jo [jm 11 5,jm 12 0,je 13 12,jt .lss 14 11 13] [0,1,5,14]
 (.cond (.t 14) .skip
 (.exit 0)))
 (.seq (.block 1 (.seq (.draw [jm 17 0,jm 18 5,ji 19 4 17 18,jk 20 4 19,jm 21 1,jm 22 5,ji 23 4 21 22,jk 24 4 23,jy 25 59 [20,24],jv 26 25] [] [0,1,5,26])
 (.cond (.t 26) (jo [jb 4 false] [4]
 .ret)
 .skip)))
 (.ops [jm 15 5,ju .add 16 15 1,jm 5 16] [0,1,5]))))))
 (jo [jb 4 true] [4]
 .ret)))),[.t 4]⟩
theorem k38:chkF Tryz.prog Tryz.f38 c38=true:=by kernel_rfl
def c40:CF:=⟨70,(jo [jb 4 false] [0,1]
 (.seq (jo [jm 8 0,je 9 8,jm 10 1,je 11 10,jt .neq 12 9 11] [0,1,12]
 (.cond (.t 12) (jo [jb 4 false] [4]
 .ret)
 .skip))
 (.seq (jo [jc 5 0] [0,1,5]
 (.block 0 (.loop (.seq (jo [jm 13 5,jm 14 0,je 15 14,jt .lss 16 13 15] [0,1,5,16]
 (.cond (.t 16) .skip
 (.exit 0)))
 (.seq (.block 1 (jo [jm 19 0,jm 20 5,ji 21 24 19 20,jk 22 24 21,jw 6 (.alloc 72 24 z24),js 24 6 22] [0,1,5,6]
 (jo [jm 23 1,jm 24 5,ji 25 24 23 24,jk 26 24 25,jw 7 (.alloc 72 24 z24),js 24 7 26] [0,1,5,6,7]
 (jo [jf 27 0 6,jk 28 2 27,jf 29 0 7,jk 30 2 29,jw 31 (.eqs true [some .i64,some .i64] (.t 28) (.t 30)),jm 32 31,jd 32 (jf 33 2 6),jd 32 (jl 34 33),jd 32 (jf 35 2 7),jd 32 (jl 36 35),jd 32 (jt .neq 37 34 36),jq 38 32 37,jm 39 38,jd 39 (jf 40 3 6),jd 39 (jl 41 40),jd 39 (jf 42 3 7),jd 39 (jl 43 42),jd 39 (jt .neq 44 41 43),jq 45 39 44,jm 46 45,jd 46 (jf 47 4 6),jd 46 (jk 48 18 47),jd 46 (jf 49 4 7),jd 46 (jk 50 18 49),jd 46 (jy 51 53 [48,50]),jd 46 (jv 52 51),jq 53 46 52,jm 54 53,jd 54 (jf 55 22 6),jd 54 (jl 56 55),jd 54 (jf 57 22 7),jd 54 (jl 58 57),jd 54 (jy 59 105 [56,58]),jd 54 (jv 60 59),jq 61 54 60,jm 62 61,jd 62 (jf 63 23 6),jd 62 (jl 64 63),jd 62 (jf 65 23 7),jd 62 (jl 66 65),jd 62 (jy 67 28 [64,66]),jd 62 (jv 68 67),jq 69 62 68] [0,1,5,69]
 (.cond (.t 69) (jo [jb 4 false] [4]
 .ret)
 .skip)))))
 (.ops [jm 17 5,ju .add 18 17 1,jm 5 18] [0,1,5]))))))
 (jo [jb 4 true] [4]
 .ret)))),[.t 4]⟩
theorem k40:chkF Tryz.prog Tryz.f40 c40=true:=by kernel_rfl
def c27:CF:=⟨31,(jo [jx 2 37 4 0,jx 3 37 4 1,jb 4 false] [2,3]
 (jo [jf 5 0 2,jl 6 5,jf 7 0 3,jl 8 7,jy 9 40 [6,8],jm 10 9,ja 10 (jf 11 1 2),ja 10 (jl 12 11),ja 10 (jf 13 1 3),ja 10 (jl 14 13),ja 10 (jy 15 93 [12,14]),jp 16 10 15,jm 17 16,ja 17 (jf 18 2 2),ja 17 (jl 19 18),ja 17 (jf 20 2 3),ja 17 (jl 21 20),ja 17 (jy 22 38 [19,21]),jp 23 17 22,jm 24 23,ja 24 (jf 25 3 2),ja 24 (jl 26 25),ja 24 (jf 27 3 3),ja 24 (jl 28 27),ja 24 (jy 29 28 [26,28]),jp 30 24 29,jm 4 30] [4]
 .ret)),[.t 4]⟩
theorem k27:chkF Tryz.prog Tryz.f27 c27=true:=by kernel_rfl
theorem sameMk (a b:List Mk) (ha:a.length < 9223372036854775808) (hb:b.length < 9223372036854775808):Pure Tryz.prog 105 [mkS a,mkS b] (bl (decide (a=b))):=by
  refine Pure.of_body Tryz.call105 Tryz.func105 k105 (Nat.le_of_ble_eq_true rfl) ?_
  unfold c105
  ((refine Au ?_;repeat' constructor)<;>intros<;>refine hD_ ?_)
  · rename_i h
    rw [decide_eq_false fun e=>by subst e; omega]; exact Frz.eq rfl (by simp)
  rename_i hne
  have hlen:a.length=b.length:=by omega
  refine AWPC.loopI 5 a.length (fun i=>a.take i=b.take i) (by simp) ?_ ?_
  · (simp only [zN,zT,zV,zS,zU,Q0,Q1,ex,Q2,Q3,Q4,Q5,Q6,Q7,Q8,Q9,QA,QB,QC,Nat.reduceBEq,W0,W1,W2,W3,W4,W5,reduceIte]; try simp)
  · intro i hi hI
    by_cases hlt:i < a.length
    · have hx:(a.map Mk.cs).getD i []=Mk.cs (a.getD i mk0):=row _ hlt
      have hy:(b.map Mk.cs).getD i []=Mk.cs (b.getD i mk0):=row _ (by omega)
      have hk:a.getD i mk0=b.getD i mk0↔a.take (i+1)=b.take (i+1):=by
        rw [List.take_add_one,List.take_add_one,hI,getD_lt mk0 hlt,getD_lt mk0 (show i < b.length by omega)]; simp
      generalize a.getD i mk0=x at hx hk
      generalize b.getD i mk0=y at hy hk
      obtain ⟨x1,x2,x3⟩:=x
      obtain ⟨y1,y2,y3⟩:=y
      simp only [Mk.mk.injEq,Sp.mk.injEq] at hk
      ((refine Ax (And.intro @hx @hy) ?_;repeat' constructor)<;>intros<;>refine hD_ ?_)
      all_goals try (exfalso; omega)
      · rename_i h
        rw [decide_eq_false fun e=>by
          have:=hk.2 (by rw [e])
          omega]
        exact Frz.eq rfl (by simp)
      · rename_i h
        exact ⟨⟨i+1,hlt,hk.1 (by omega)⟩,by simp,by simp only; omega⟩
    · obtain rfl:i=a.length:=by omega
      ((refine Au ?_;repeat' constructor)<;>intros<;>refine hD_ ?_)
      all_goals try (exfalso; omega)
      rw [List.take_length,hlen,List.take_length] at hI
      rw [decide_eq_true hI]
      exact Frz.eq rfl (by simp)
theorem sameRd (a b:List Rd) (ha:a.length < 9223372036854775808) (hb:b.length < 9223372036854775808):Pure Tryz.prog 93 [rdS a,rdS b] (bl (decide (a=b))):=by
  refine Pure.of_body Tryz.call93 Tryz.func93 k93 (Nat.le_of_ble_eq_true rfl) ?_
  unfold c93
  ((refine Au ?_;repeat' constructor)<;>intros<;>refine hD_ ?_)
  · rename_i h
    rw [decide_eq_false fun e=>by subst e; omega]; exact Frz.eq rfl (by simp)
  rename_i hne
  have hlen:a.length=b.length:=by omega
  refine AWPC.loopI 5 a.length (fun i=>a.take i=b.take i) (by simp) ?_ ?_
  · (simp only [zN,zT,zV,zS,zU,Q0,Q1,ex,Q2,Q3,Q4,Q5,Q6,Q7,Q8,Q9,QA,QB,QC,Nat.reduceBEq,W0,W1,W2,W3,W4,W5,reduceIte]; try simp)
  · intro i hi hI
    by_cases hlt:i < a.length
    · have hx:(a.map Rd.cs).getD i []=Rd.cs (a.getD i rd0):=row _ hlt
      have hy:(b.map Rd.cs).getD i []=Rd.cs (b.getD i rd0):=row _ (by omega)
      have hk:a.getD i rd0=b.getD i rd0↔a.take (i+1)=b.take (i+1):=by
        rw [List.take_add_one,List.take_add_one,hI,getD_lt rd0 hlt,getD_lt rd0 (show i < b.length by omega)]; simp
      generalize a.getD i rd0=x at hx hk
      generalize b.getD i rd0=y at hy hk
      obtain ⟨x1,x2,x3,⟨x4,x5⟩⟩:=x
      obtain ⟨y1,y2,y3,⟨y4,y5⟩⟩:=y
      simp only [Rd.mk.injEq,Sp.mk.injEq] at hk
      ((refine Ax (And.intro @hx @hy) ?_;repeat' constructor)<;>intros<;>refine hD_ ?_)
      all_goals try (exfalso; omega)
      · rename_i h
        rw [decide_eq_false fun e=>by
          have:=hk.2 (by rw [e])
          omega]
        exact Frz.eq rfl (by simp)
      · rename_i h
        exact ⟨⟨i+1,hlt,hk.1 (by omega)⟩,by simp,by simp only; omega⟩
    · obtain rfl:i=a.length:=by omega
      ((refine Au ?_;repeat' constructor)<;>intros<;>refine hD_ ?_)
      all_goals try (exfalso; omega)
      rw [List.take_length,hlen,List.take_length] at hI
      rw [decide_eq_true hI]
      exact Frz.eq rfl (by simp)
theorem sameStn_spec (a b:Stn) (ha:a.heights.length < 9223372036854775808) (hb:b.heights.length < 9223372036854775808):Pure Tryz.prog 59 [.agg a.cs,.agg b.cs] (bl (decide (a=b))):=by
  refine Pure.of_body Tryz.call59 Tryz.func59 k59 (Nat.le_of_ble_eq_true rfl) ?_
  unfold c59
  obtain ⟨i1,x1,y1,l⟩:=a
  obtain ⟨i2,x2,y2,m⟩:=b
  simp only at ha hb
  have hd:decide ((⟨i1,x1,y1,l⟩:Stn)=⟨i2,x2,y2,m⟩)=decide (i1=i2∧x1=x2∧y1=y2∧l=m):=by rw [decide_eq_decide]; simp
  rw [hd]
  by_cases hg:i1=i2∧x1=x2∧y1=y2∧l.length=m.length
  · obtain ⟨g1,g2,g3,hlen⟩:=hg
    have hd2:decide (i1=i2∧x1=x2∧y1=y2∧l=m)=decide (l=m):=by rw [decide_eq_decide]; simp [g1,g2,g3]
    rw [hd2]
    have hlen':(l.length:Int)=(m.length:Int):=by omega
    ((refine Ax (And.intro @hlen' (And.intro @g1 (And.intro @g2 @g3))) ?_;repeat' constructor)<;>intros<;>refine hD_ ?_)
    all_goals try (exfalso; omega)
    refine AWPC.loopI 5 l.length (fun i=>l.take i=m.take i) (by simp) ?_ ?_
    · (simp only [zN,zT,zV,zS,zU,Q0,Q1,ex,Q2,Q3,Q4,Q5,Q6,Q7,Q8,Q9,QA,QB,QC,Nat.reduceBEq,W0,W1,W2,W3,W4,W5,reduceIte]; try simp)
    · intro i hi hI
      by_cases hlt:i < l.length
      · have hx:(l.map Hgt.cs).getD i []=Hgt.cs (l.getD i hgt0):=row _ hlt
        have hy:(m.map Hgt.cs).getD i []=Hgt.cs (m.getD i hgt0):=row _ (by omega)
        have hk:l.getD i hgt0=m.getD i hgt0↔l.take (i+1)=m.take (i+1):=by
          rw [List.take_add_one,List.take_add_one,hI,getD_lt hgt0 hlt,getD_lt hgt0 (show i < m.length by omega)]; simp
        generalize l.getD i hgt0=x at hx hk
        generalize m.getD i hgt0=y at hy hk
        obtain ⟨x1,⟨x2,x3⟩⟩:=x
        obtain ⟨y1,⟨y2,y3⟩⟩:=y
        simp only [Hgt.mk.injEq,Sp.mk.injEq] at hk
        ((refine Ax (And.intro @hx @hy) ?_;repeat' constructor)<;>intros<;>refine hD_ ?_)
        all_goals try (exfalso; omega)
        · rename_i h
          rw [decide_eq_false fun e=>by
            have:=hk.2 (by rw [e])
            omega]
          exact Frz.eq rfl (by simp)
        · rename_i h
          exact ⟨⟨i+1,hlt,hk.1 (by omega)⟩,by simp,by simp only; omega⟩
      · obtain rfl:i=l.length:=by omega
        ((refine Au ?_;repeat' constructor)<;>intros<;>refine hD_ ?_)
        all_goals try (exfalso; omega)
        rw [List.take_length,hlen,List.take_length] at hI
        rw [decide_eq_true hI]
        exact Frz.eq rfl (by simp)
  · rw [decide_eq_false (fun h=>hg ⟨h.1,h.2.1,h.2.2.1,by rw [h.2.2.2]⟩)]
    ((refine Au ?_;repeat' constructor)<;>intros<;>refine hD_ ?_)
    all_goals try (exfalso; omega)
    all_goals exact Frz.eq rfl (by simp)
theorem sameStns (a b:List Stn) (ha:stnSz a) (hb:stnSz b):Pure Tryz.prog 38 [snS a,snS b] (bl (decide (a=b))):=by
  refine Pure.of_body Tryz.call38 Tryz.func38 k38 (Nat.le_of_ble_eq_true rfl) ?_
  unfold c38
  have ha0:=ha.1
  have hb0:=hb.1
  by_cases hlen:a.length=b.length
  · have hlen':(a.length:Int)=(b.length:Int):=by omega
    ((refine Ax @hlen' ?_;repeat' constructor)<;>intros<;>refine hD_ ?_)
    all_goals try (exfalso; omega)
    refine AWPC.loopI 5 a.length (fun i=>a.take i=b.take i) (by simp) ?_ ?_
    · (simp only [zN,zT,zV,zS,zU,Q0,Q1,ex,Q2,Q3,Q4,Q5,Q6,Q7,Q8,Q9,QA,QB,QC,Nat.reduceBEq,W0,W1,W2,W3,W4,W5,reduceIte]; try simp)
    · intro i hi hI
      by_cases hlt:i < a.length
      · have hx:(a.map Stn.cs).getD i []=Stn.cs (a.getD i default):=row _ hlt
        have hy:(b.map Stn.cs).getD i []=Stn.cs (b.getD i default):=row _ (by omega)
        have hk:a.getD i default=b.getD i default↔a.take (i+1)=b.take (i+1):=by
          rw [List.take_add_one,List.take_add_one,hI,getD_lt default hlt,getD_lt default (show i < b.length by omega)]; simp
        have hc:=sameStn_spec (a.getD i default) (b.getD i default) (ha.2 _ (List.mem_of_getElem? (getD_lt default hlt))) (hb.2 _ (List.mem_of_getElem? (getD_lt default (show i < b.length by omega))))
        by_cases e:a.getD i default=b.getD i default
        · rw [decide_eq_true e] at hc
          have hN:=hk.1 e
          generalize a.getD i default=x at hx hc
          generalize b.getD i default=y at hy hc
          ((refine Az (And.intro @hx @hy) @hc ?_;repeat' constructor)<;>intros<;>refine hD_ ?_)
          all_goals try (exfalso; omega)
          exact ⟨⟨i+1,hlt,hN⟩,by simp,by simp only; omega⟩
        · rw [decide_eq_false e] at hc
          rw [decide_eq_false (fun h:a=b=>e (by rw [h]))]
          generalize a.getD i default=x at hx hc
          generalize b.getD i default=y at hy hc
          ((refine Az (And.intro @hx @hy) @hc ?_;repeat' constructor)<;>intros<;>refine hD_ ?_)
          all_goals try (exfalso; omega)
          exact Frz.eq rfl (by simp)
      · obtain rfl:i=a.length:=by omega
        ((refine Au ?_;repeat' constructor)<;>intros<;>refine hD_ ?_)
        all_goals try (exfalso; omega)
        rw [List.take_length,hlen,List.take_length] at hI
        rw [decide_eq_true hI]
        exact Frz.eq rfl (by simp)
  · rw [decide_eq_false (fun h:a=b=>hlen (by rw [h]))]
    ((refine Au ?_;repeat' constructor)<;>intros<;>refine hD_ ?_)
    all_goals try (exfalso; omega)
    all_goals exact Frz.eq rfl (by simp)
def fld0:Fld:=⟨nm0,0,0,sht0,[],[]⟩
def fldSz (f:Fld):Prop:=shtSz f.sheet∧f.marks.length < 9223372036854775808∧f.names.length < 9223372036854775808
def fldsSz (l:List Fld):Prop:=l.length < 9223372036854775808∧∀ f∈l,fldSz f
theorem sameFld (a b:List Fld) (ha:fldsSz a) (hb:fldsSz b):Pure Tryz.prog 40 [fdS a,fdS b] (bl (decide (a=b))):=by
  refine Pure.of_body Tryz.call40 Tryz.func40 k40 (Nat.le_of_ble_eq_true rfl) ?_
  unfold c40
  have ha0:=ha.1
  have hb0:=hb.1
  by_cases hlen:a.length=b.length
  · have hlen':(a.length:Int)=(b.length:Int):=by omega
    ((refine Ax @hlen' ?_;repeat' constructor)<;>intros<;>refine hD_ ?_)
    all_goals try (exfalso; omega)
    refine AWPC.loopE (α:={ x:Nat × Sto // x.1≤a.length∧a.take x.1=b.take x.1 }) [5] (fun x=>[(5,n x.1.1)]) (fun x=>x.1.2) (fun x=>a.length - x.1.1) ⟨(0,[]),Nat.zero_le _,by simp⟩ ?_ rfl ?_
    · (simp only [zN,zT,zV,zS,zU,Q0,Q1,ex,Q2,Q3,Q4,Q5,Q6,Q7,Q8,Q9,QA,QB,QC,Nat.reduceBEq,W0,W1,W2,W3,W4,W5,reduceIte]; try simp)
    · rintro ⟨⟨i,μ⟩,hi,hI⟩
      simp only at hi hI
      by_cases hlt:i < a.length
      · have hx:(a.map Fld.cs).getD i []=Fld.cs (a.getD i fld0):=row _ hlt
        have hy:(b.map Fld.cs).getD i []=Fld.cs (b.getD i fld0):=row _ (by omega)
        have hk:a.getD i fld0=b.getD i fld0↔a.take (i+1)=b.take (i+1):=by
          rw [List.take_add_one,List.take_add_one,hI,getD_lt fld0 hlt,getD_lt fld0 (show i < b.length by omega)]; simp
        have xs:=ha.2 _ (List.mem_of_getElem? (getD_lt fld0 hlt))
        have ys:=hb.2 _ (List.mem_of_getElem? (getD_lt fld0 (show i < b.length by omega)))
        generalize a.getD i fld0=x at hx hk xs
        generalize b.getD i fld0=y at hy hk ys
        have c1:=rSameSheet_spec x.sheet y.sheet xs.1 ys.1
        have c2:=sameMk x.marks y.marks xs.2.1 ys.2.1
        have c3:=sameNm x.names y.names xs.2.2 ys.2.2
        have hk2:(x.name.clerk=y.name.clerk∧x.name.num=y.name.num)∧x.stn=y.stn∧x.week=y.week∧x.sheet=y.sheet∧x.marks=y.marks∧x.names=y.names↔a.take (i+1)=b.take (i+1):=by
          rw [← hk]
          obtain ⟨⟨n1,n2⟩,p1,p2,p3,p4,p5⟩:=x
          obtain ⟨⟨m1,m2⟩,q1,q2,q3,q4,q5⟩:=y
          simp
        by_cases d1:x.sheet=y.sheet
        · rw [decide_eq_true d1] at c1
          by_cases d2:x.marks=y.marks
          · rw [decide_eq_true d2] at c2
            by_cases d3:x.names=y.names
            · rw [decide_eq_true d3] at c3
              have hk3:(x.name.clerk=y.name.clerk∧x.name.num=y.name.num)∧x.stn=y.stn∧x.week=y.week↔a.take (i+1)=b.take (i+1):=by rw [← hk2]; simp [d1,d2,d3]
              clear hk hk2
              ((refine Az (And.intro @hx @hy) (And.intro @c1 (And.intro @c2 @c3)) ?_;repeat' constructor)<;>intros<;>refine hD_ ?_)
              all_goals try (exfalso; omega)
              · rename_i h
                rw [decide_eq_false fun e=>by
                  have:=hk3.2 (by rw [e])
                  omega]
                exact Frz.eq rfl (by simp)
              · rename_i h
                exact ⟨⟨(i+1,μ++[some [⟨72,24,[x.cs],none⟩],some [⟨72,24,[y.cs],none⟩]]),hlt,hk3.1 (by omega)⟩,by simp,by simp,by simp only; omega⟩
            · rw [decide_eq_false d3] at c3
              rw [decide_eq_false (fun h:a=b=>d3 (hk2.2 (by rw [h])).2.2.2.2.2)]
              clear hk hk2
              ((refine Az (And.intro @hx @hy) (And.intro @c1 (And.intro @c2 @c3)) ?_;repeat' constructor)<;>intros<;>refine hD_ ?_)
              all_goals try (exfalso; omega)
              all_goals exact Frz.eq rfl (by simp)
          · rw [decide_eq_false d2] at c2
            rw [decide_eq_false (fun h:a=b=>d2 (hk2.2 (by rw [h])).2.2.2.2.1)]
            clear hk hk2
            ((refine Az (And.intro @hx @hy) (And.intro @c1 (And.intro @c2 @c3)) ?_;repeat' constructor)<;>intros<;>refine hD_ ?_)
            all_goals try (exfalso; omega)
            all_goals exact Frz.eq rfl (by simp)
        · rw [decide_eq_false d1] at c1
          rw [decide_eq_false (fun h:a=b=>d1 (hk2.2 (by rw [h])).2.2.2.1)]
          clear hk hk2
          ((refine Az (And.intro @hx @hy) (And.intro @c1 (And.intro @c2 @c3)) ?_;repeat' constructor)<;>intros<;>refine hD_ ?_)
          all_goals try (exfalso; omega)
          all_goals exact Frz.eq rfl (by simp)
      · obtain rfl:i=a.length:=by omega
        ((refine Au ?_;repeat' constructor)<;>intros<;>refine hD_ ?_)
        all_goals try (exfalso; omega)
        rw [List.take_length,hlen,List.take_length] at hI
        rw [decide_eq_true hI]
        exact Frz.eq rfl (by simp)
  · rw [decide_eq_false (fun h:a=b=>hlen (by rw [h]))]
    ((refine Au ?_;repeat' constructor)<;>intros<;>refine hD_ ?_)
    all_goals try (exfalso; omega)
    all_goals exact Frz.eq rfl (by simp)
def rgrSz (r:Rgr):Prop:=fldsSz r.sheets∧r.reads.length < 9223372036854775808∧stnSz r.stns∧r.confl.length < 9223372036854775808
theorem sameRgr (a b:Rgr) (ha:rgrSz a) (hb:rgrSz b):Pure Tryz.prog 27 [.agg a.cs,.agg b.cs] (bl (decide (a=b))):=by
  refine Pure.of_body Tryz.call27 Tryz.func27 k27 (Nat.le_of_ble_eq_true rfl) ?_
  unfold c27
  have c1:=sameFld a.sheets b.sheets ha.1 hb.1
  have c2:=sameRd a.reads b.reads ha.2.1 hb.2.1
  have c3:=sameStns a.stns b.stns ha.2.2.1 hb.2.2.1
  have c4:=sameNm a.confl b.confl ha.2.2.2 hb.2.2.2
  have hd:decide (a=b)=(decide (a.sheets=b.sheets) && (decide (a.reads=b.reads) && (decide (a.stns=b.stns) && decide (a.confl=b.confl)))):=by
    rw [Bool.eq_iff_iff]
    cases a; cases b
    simp
  rw [hd]
  clear hd
  generalize decide (a.sheets=b.sheets)=z1 at c1
  generalize decide (a.reads=b.reads)=z2 at c2
  generalize decide (a.stns=b.stns)=z3 at c3
  generalize decide (a.confl=b.confl)=z4 at c4
  clear ha hb
  ((refine Ay (And.intro @c1 (And.intro @c2 (And.intro @c3 @c4))) ?_;repeat' constructor)<;>intros<;>refine hD_ ?_)
  all_goals exact Frz.eq (congrArg bl (by cases z1 <;> cases z2 <;> cases z3 <;> cases z4 <;> rfl)) (by simp)
def c126:CF:=⟨31,(jo [jc 6 0] [0,1,2]
 (.seq (jo [jc 7 0] [0,1,2,7]
 (.block 0 (.loop (.seq (jo [jm 8 7,jm 9 0,je 10 9,jt .lss 11 8 10] [0,1,2,7,11]
 (.cond (.t 11) .skip
 (.exit 0)))
 (.seq (.block 1 (jo [jm 14 0,jm 15 7,ji 16 24 14 15,jf 17 2 16,jl 18 17,jm 19 1,jt .eql 20 18 19,jm 21 20,ja 21 (jm 22 0),ja 21 (jm 23 7),ja 21 (ji 24 24 22 23),ja 21 (jf 25 3 24),ja 21 (jl 26 25),ja 21 (jm 27 2),ja 21 (jt .eql 28 26 27),jp 29 21 28] [0,1,2,7,29]
 (.cond (.t 29) (jo [jm 30 7,jm 6 30] [6]
 .ret)
 .skip)))
 (.ops [jm 12 7,ju .add 13 12 1,jm 7 13] [0,1,2,7]))))))
 (jo [jc 6 (-1)] [6]
 .ret))),[.t 6]⟩
theorem k126:chkF Tryz.prog Tryz.f126 c126=true:=by kernel_rfl
theorem rsheetOf_spec (l:List Fld) (hl:l.length < 9223372036854775808) (s w:Int):Pure Tryz.prog 126 [fdS l,n s,n w] (n (match sheetAt l s w with | some j=>(j:Int) | none=>-1)):=by
  refine Pure.of_body Tryz.call126 Tryz.func126 k126 (Nat.le_of_ble_eq_true rfl) ?_
  unfold c126
  have hq:=fidx_opt (fun x:Fld=>x.stn == s && x.week == w) l
  obtain ⟨z,hz⟩:∃ z,z=fidx (fun x:Fld=>x.stn == s && x.week == w) 0 l:=⟨_,rfl⟩
  rw [show (match sheetAt l s w with | some j=>(j:Int) | none=>-1)=z from hz ▸ hq.symm]
  ((refine Au ?_;repeat' constructor)<;>intros<;>refine hD_ ?_)
  refine AWPC.loopI 7 l.length (fun i=>fidx (fun x:Fld=>x.stn == s && x.week == w) i (l.drop i)=z) (by rw [hz,List.drop_zero]) ?_ ?_
  · (simp only [zN,zT,zV,zS,zU,Q0,Q1,ex,Q2,Q3,Q4,Q5,Q6,Q7,Q8,Q9,QA,QB,QC,Nat.reduceBEq,W0,W1,W2,W3,W4,W5,reduceIte]; try simp)
  · intro i hi hI
    by_cases hlt:i < l.length
    · obtain ⟨x,hx⟩:∃ x,l[i]?=some x:=⟨_,List.getElem?_eq_getElem hlt⟩
      rw [drop_cons hx,fidx] at hI
      have hr:(l.map Fld.cs).getD i []=Fld.cs x:=getD_map hx
      by_cases h1:x.stn=s
      · by_cases h2:x.week=w
        · rw [if_pos (by simp [h1,h2])] at hI
          ((refine Ax (And.intro @hr (And.intro @h1 @h2)) ?_;repeat' constructor)<;>intros<;>refine hD_ ?_)
          all_goals try (exfalso; omega)
          all_goals (rw [← hI]; exact Frz.eq rfl (by simp))
        · rw [if_neg (by simp [h2])] at hI
          ((refine Ax (And.intro @hr (And.intro @h1 @h2)) ?_;repeat' constructor)<;>intros<;>refine hD_ ?_)
          all_goals try (exfalso; omega)
          all_goals exact ⟨⟨i+1,hlt,by simpa using hI⟩,by simp,by simp only; omega⟩
      · rw [if_neg (by simp [h1])] at hI
        ((refine Ax (And.intro @hr @h1) ?_;repeat' constructor)<;>intros<;>refine hD_ ?_)
        all_goals try (exfalso; omega)
        all_goals exact ⟨⟨i+1,hlt,by simpa using hI⟩,by simp,by simp only; omega⟩
    · obtain rfl:i=l.length:=by omega
      rw [List.drop_length,fidx] at hI
      ((refine Au ?_;repeat' constructor)<;>intros<;>refine hD_ ?_)
      all_goals try (exfalso; omega)
      all_goals (rw [← hI]; exact Frz.eq rfl (by simp))
end Go.Proofs.YtolgelipcgcbhaaGreat
namespace Go.Proofs.YtolgelipcgcbhaaGreat
open Go.Abs
open Nat (reduceAdd reduceSub reduceLT reduceLeDiff reduceMul reduceEqDiff)
set_option linter.unusedVariables false
set_option linter.unusedSimpArgs false
set_option maxHeartbeats 4000000
set_option maxRecDepth 100000
def c128:CF:=⟨26,(jo [jn 2] [0]
 (jo [jn 3] [0,3]
 (.seq (jo [jc 4 0] [0,3,4]
 (.block 0 (.loop (.seq (jo [jm 6 4,jm 7 0,je 8 7,jt .lss 9 6 8] [0,3,4,9]
 (.cond (.t 9) .skip
 (.exit 0)))
 (.seq (.block 1 (jo [jm 12 0,jm 13 4,ji 14 4 12 13,jk 15 4 14,jw 5 (.alloc 109 4 [.int .i64 0,.int .i64 0,.int .i64 0,.slice none 0 0]),js 4 5 15] [0,3,4,5]
 (jo [jw 16 (.bsl true 66 3 0 [] []),jf 17 3 5,jl 18 17,jw 19 (.app 66 3 24 (.t 16) (.t 18)),jf 20 3 5,js 1 20 19] [0,3,4,5]
 (.ops [jm 21 3,jk 22 4 5,jw 23 (.bsl false 109 4 1 [.int .i64 0,.int .i64 0,.int .i64 0,.slice none 0 0] [(0,4,(.t 22))]),jw 24 (.app 109 4 48 (.t 21) (.t 23)),jm 3 24] [0,3,4]))))
 (.ops [jm 10 4,ju .add 11 10 1,jm 4 11] [0,3,4]))))))
 (jo [jm 25 3,jm 2 25] [2]
 .ret)))),[.t 2]⟩
theorem k128:chkF Tryz.prog Tryz.f128 c128=true:=by kernel_rfl
end Go.Proofs.YtolgelipcgcbhaaGreat
namespace Go.Proofs.YtolgelipcgcbhaaGreat
open Go.Abs
open Nat (reduceAdd reduceSub reduceLT reduceLeDiff reduceMul reduceEqDiff)
open Nat renaming reduceAdd→W0,reduceSub→W1,reduceLT→W2,reduceLeDiff→W3,reduceMul→W4,reduceEqDiff→W5
open Go.Abs renaming vcC→Q0,lateX→Q1,strp→Q2,binA→Q3,elems→Q4,cells→Q5,scalar→Q6,eqC→Q7,keyA→Q8,intsA→Q9,lookA→QA,ofVs→QB,mpOf→QC
set_option linter.unusedVariables false
set_option linter.unusedSimpArgs false
set_option maxHeartbeats 4000000
set_option maxRecDepth 100000
theorem someStns_does (l:List Stn) (hl:l.length < 1099511627776) (hh:∀ s∈l,s.heights.length * 24≤140737488355328) (σ:Sto):Does Tryz.prog 128 [snS l] σ (OwnAt σ 109 4 (l.map Stn.cs)):=by
  refine Does.of_body Tryz.call128 Tryz.func128 k128 (Nat.le_of_ble_eq_true rfl) ?_
  unfold c128
  ((refine Au ?_;repeat' constructor)<;>intros<;>refine hD_ ?_)
  refine AWPC.own0 109 4 3 rfl ?_
  obtain ⟨G,hG⟩:∃ G,G=List.length σ:=⟨_,rfl⟩
  rw [← hG]
  refine AWPC.loopE (α:={ x:Nat × Sto // x.1≤l.length }) [3,4] (fun x=>[(3,.own G 0 x.1.1),(4,n x.1.1)]) (fun x=>σ++some [⟨109,4,(l.take x.1.1).map Stn.cs,none⟩]::x.1.2) (fun x=>l.length - x.1.1) ⟨(0,[]),Nat.zero_le _⟩ ?_ rfl ?_
  · (simp only [zN,zT,zV,zS,zU,Q0,Q1,ex,Q2,Q3,Q4,Q5,Q6,Q7,Q8,Q9,QA,QB,QC,Nat.reduceBEq,W0,W1,W2,W3,W4,W5,reduceIte]; try simp)
  · rintro ⟨⟨i,μ⟩,hi⟩
    simp only at hi ⊢
    generalize hM:(l.take i).map Stn.cs=M
    have hMl:M.length=i:=by rw [← hM]; simp; omega
    by_cases hlt:i < l.length
    · have hg:=getD_lt (default:Stn) hlt
      have hx:(l.map Stn.cs).getD i []=Stn.cs (l.getD i default):=row default hlt
      have hs:=hh _ (List.mem_of_getElem? hg)
      have hN:(l.take (i+1)).map Stn.cs=M++[Stn.cs (l.getD i default)]:=by rw [List.take_add_one,hg,← hM]; simp
      generalize l.getD i default=x at hx hs hN
      obtain ⟨W,hW⟩:∃ W,W=σ++some [⟨109,4,M,none⟩]::μ:=⟨_,rfl⟩
      have hA:∀ ν,Sto.at (W++ν) G 0=some ⟨109,4,M,none⟩:=fun ν=>by rw [hW,hG,List.append_assoc,at_app0]; rfl
      have hA0:Sto.at W G 0=some ⟨109,4,M,none⟩:=by rw [hW,hG,at_app0]; rfl
      have hB:∀ (o':Ob) (ν:Sto),Sto.upd (W++ν) G 0 o'=(σ++some [o']::μ)++ν:=fun o' ν=>by rw [hW,hG]; simp [Sto.upd]
      rw [← hW]
      iterate 7
        ((first
 | refine vn rfl ?_
 | simp (disch:=omega) only [wr64,Int.zero_sub]
 | refine bo (fun _=>?_) fun _=>?_
 | refine im fun _=>?_
 | refine cF ?_
 | refine cG ?_
 | refine om ?_
 | refine an ?_
 | fail) <;> try simp only [zN, zT, zV, zS, zU, vcC, lateX, ex, strp, binA, elems, cells, scalar, eqC, keyA, intsA, lookA, ofVs, mpOf, Nat.reduceBEq, reduceAdd, reduceSub, reduceLT, reduceLeDiff, reduceMul, reduceEqDiff, reduceIte, hx, hMl, List.length_map, hA, hA0])
        all_goals try (exfalso; omega)
      refine ⟨⟨rowsL (cs:=Hgt.cs) (k:=3) (fun a=>rfl) x.heights,hs⟩,?_⟩
      refine AWPC.freezeC (f:=List.length W+1) (n:=x.heights.length) (h:=List.length W+0) (e:=0) (j:=3) (o:=⟨66,3,x.heights.map Hgt.cs,none⟩) ((at_app W _ 1 0).trans rfl) (by simp) (show (3:Nat)≠0 by decide) ((at_app W _ 0 0).trans rfl) (by omega) rfl (show (0:Nat) < 1 by decide) rfl ?_
      refine AWPC.sto (σ':=W++[some [⟨109,4,[x.cs],none⟩],none]) (by rw [gone_app,upd_app]; rfl) ?_
      have hC:∀ (ν:Sto),Sto.at (W++ν) (List.length W) 0=Sto.at ν 0 0:=fun ν=>at_app W ν 0 0
      ((refine Ax (And.intro @hMl (And.intro @hA (And.intro @hB @hC))) ?_;repeat' constructor)<;>intros<;>refine hD_ ?_)
      all_goals try (exfalso; omega)
      exact ⟨⟨(i+1,μ++[some [⟨109,4,[x.cs],none⟩],none]),hlt⟩,⟨by simp,by simp⟩,by simp [hN],by simp only; omega⟩
    · obtain rfl:i=l.length:=by omega
      rw [List.take_length] at hM
      ((refine Au ?_;repeat' constructor)<;>intros<;>refine hD_ ?_)
      all_goals try (exfalso; omega)
      all_goals exact .mk μ (by simp [hG]) (by rw [hM])
def c83:CF:=⟨174,(jo [jx 2 26 6 0,jw 4 (.alloc 37 4 [.slice none 0 0,.slice none 0 0,.slice none 0 0,.slice none 0 0])] [1,2,4]
 (jo [jf 17 0 2,jl 18 17,jy 19 128 [18],jw 20 (.build [.slice none 0 0,.slice none 0 0,.slice none 0 0,.slice none 0 0] [(2,1,(.t 19))]),jw 5 (.alloc 37 4 [.slice none 0 0,.slice none 0 0,.slice none 0 0,.slice none 0 0]),js 4 5 20] [1,2,4,5]
 (jo [jn 6] [1,2,4,5,6]
 (jo [jm 21 1,jy 22 91 [21],jm 7 22] [1,2,4,5,6,7]
 (.seq (jo [jc 8 0] [1,2,4,5,6,7,8]
 (.block 0 (.loop (.seq (jo [jm 23 8,jm 24 7,je 25 24,jt .lss 26 23 25] [1,2,4,5,6,7,8,26]
 (.cond (.t 26) .skip
 (.exit 0)))
 (.seq (.block 1 (jo [jb 9 false] [1,2,4,5,6,7,8,9]
 (.seq (jo [jm 29 7,jm 30 8,ji 31 38 29 30,jf 32 4 31,jl 33 32] [1,2,4,5,6,7,8,9,33]
 (.block 2 (jo [ju .eql 35 33 1,jm 34 35] [1,2,4,5,6,7,8,9,33,34]
 (.cond (.t 34) (jo [jm 36 7,jm 37 8,jy 38 149 [36,37],jw 10 (.alloc 72 24 z24),js 24 10 38] [1,2,4,5,6,7,8,9,10]
 (jo [jf 39 0 5,jl 40 39,jf 41 2 10,jl 42 41,jf 43 3 10,jl 44 43,jy 45 126 [40,42,44],ju .geq 46 45 0] [1,2,4,5,6,7,8,9,10,46]
 (.cond (.t 46) (.ops [jb 9 true] [1,2,4,5,6,7,8,9])
 (.ops [jf 47 0 5,jl 48 47,jk 49 24 10,jw 50 (.bsl false 72 24 1 z24 [(0,24,(.t 49))]),jw 51 (.app 72 24 288 (.t 48) (.t 50)),jf 52 0 5,js 1 52 51] [1,2,4,5,6,7,8,9]))))
 (jo [ju .eql 54 33 2,jm 53 54] [1,2,4,5,6,7,8,9,33,53]
 (.cond (.t 53) (.ops [jm 55 7,jm 56 8,jy 57 150 [55,56],jv 58 57,jm 9 58] [1,2,4,5,6,7,8,9])
 (jo [ju .eql 60 33 3,jm 59 60] [1,2,4,5,6,7,8,9,33,59]
 (.cond (.t 59) (.draw [jf 61 1 5,jl 62 61,jm 63 7,jm 64 7,jm 65 8,jy 66 151 [64,65],ji 67 38 63 66,jf 68 28 67,jk 69 5 68,jw 70 (.bsl false 64 5 1 [.int .i64 0,.int .i64 0,.int .i64 0,.int .i64 0,.int .i64 0] [(0,5,(.t 69))])] [jw 71 (.app 64 5 40 (.t 62) (.t 70)),jf 72 1 5,js 1 72 71] [1,2,4,5,6,7,8,9])
 (jo [ju .eql 74 33 4,jm 73 74] [1,2,4,5,6,7,8,9,33,73]
 (.cond (.t 73) (.seq (.draw [jf 76 0 2,jl 77 76,jm 78 7,jm 79 8,ji 80 38 78 79,jf 81 5 80,jl 82 81,jy 83 152 [77,82],jm 75 83,jz 84 0 75,jz 85 1 75,jm 11 84,jm 12 85] [] [1,2,4,5,6,7,8,9,11])
 (.seq (.drawl 13 [jf 87 2 5,jl 88 87,jm 89 11,ji 90 4 88 89,jk 91 4 90,jm 92 7,jm 93 8,ji 94 38 92 93,jf 95 33 94,jk 96 3 95,jy 97 153 [91,96],jm 86 97,jz 98 0 86,jz 99 1 86,jw 13 (.alloc 109 4 [.int .i64 0,.int .i64 0,.int .i64 0,.slice none 0 0])] [js 4 13 98,jm 14 99] [1,2,4,5,6,7,8,9,11,13,14])
 (jo [jm 100 14,ju .eql 101 100 0] [1,2,4,5,6,7,8,9,11,13,101]
 (.cond (.t 101) (.ops [jf 102 2 5,jl 103 102,jm 104 11,jk 105 4 13,ji 106 4 103 104,js 4 106 105] [1,2,4,5,6,7,8,9])
 (.ops [jb 9 true] [1,2,4,5,6,7,8,9])))))
 (jo [ju .eql 108 33 5,jm 107 108] [1,2,4,5,6,7,8,9,33,107]
 (.cond (.t 107) (.ops [jm 109 7,jm 110 7,jm 111 8,ji 112 38 110 111,jf 113 36 112,jk 114 2 113,jy 115 154 [109,114],ju .lss 116 115 0,jm 9 116] [1,2,4,5,6,7,8,9])
 (jo [ju .eql 118 33 6,jm 117 118] [1,2,4,5,6,7,8,9,117]
 (.cond (.t 117) (.ops [jm 119 7,jm 120 8,jy 121 155 [119,120],jv 122 121,jm 9 122] [1,2,4,5,6,7,8,9])
 .skip))))))))))))))
 (jo [jm 123 9] [1,2,4,5,6,7,8,123]
 (.cond (.t 123) (.ops [jm 124 6,jm 125 7,jm 126 8,ji 127 38 125 126,jk 128 38 127,jw 129 (.bsl false 68 38 1 z38 [(0,38,(.t 128))]),jw 130 (.app 68 38 368 (.t 124) (.t 129)),jm 6 130] [1,2,4,5,6,7,8])
 .skip)))))
 (.ops [jm 27 8,ju .add 28 27 1,jm 8 28] [1,2,4,5,6,7,8]))))))
 (.seq (jo [jc 15 0] [1,4,5,6,15]
 (.block 3 (.loop (.seq (jo [jm 131 15,jm 132 1,je 133 132,jt .lss 134 131 133] [1,4,5,6,15,134]
 (.cond (.t 134) .skip
 (.exit 3)))
 (.seq (.block 4 (jo [jm 137 1,jm 138 1,jm 139 15,ji 140 38 138 139,jf 141 36 140,jk 142 2 141,jy 143 90 [137,142],jm 16 143] [1,4,5,6,15,16]
 (jo [jm 144 1,jm 145 15,ji 146 38 144 145,jf 147 4 146,jl 148 147,ju .eql 149 148 7,jm 150 149,ja 150 (jm 151 16),ja 150 (ju .lss 152 151 0),ja 150 (jm 153 152),jd 153 (jm 154 1),jd 153 (jm 155 16),jd 153 (ji 156 38 154 155),jd 153 (jf 157 4 156),jd 153 (jl 158 157),jd 153 (ju .eql 159 158 7),ja 150 (jq 160 153 159),jp 161 150 160] [1,4,5,6,15,161]
 (.cond (.t 161) (.ops [jm 162 6,jm 163 1,jm 164 15,ji 165 38 163 164,jk 166 38 165,jw 167 (.bsl false 68 38 1 z38 [(0,38,(.t 166))]),jw 168 (.app 68 38 368 (.t 162) (.t 167)),jm 6 168] [1,4,5,6,15])
 .skip))))
 (.ops [jm 135 15,ju .add 136 135 1,jm 15 136] [1,4,5,6,15]))))))
 (jo [jm 169 6,jy 170 139 [169],jy 171 156 [170],jf 172 3 5,js 1 172 171] [4,5]
 (jo [jk 173 4 5,js 4 4 173] [4]
 .ret)))))))),[.c 4 (some 4)]⟩
theorem k83:chkF Tryz.prog Tryz.f83 c83=true:=by kernel_rfl
abbrev rgZ:List AV:=[.v (.slice none 0 0),.v (.slice none 0 0),.v (.slice none 0 0),.v (.slice none 0 0)]
theorem shsR_len (S T:List Nt):(shsR S T).length≤T.length:=by
  have key:∀ (L:List Nt) (rs:List Fld),(L.foldl (entR S) rs).length≤rs.length+L.length:=by
    intro L
    induction L with
    | nil=>intro rs; simp
    | cons a L ih =>
      intro rs
      have h1:=ih (entR S rs a)
      have h2:(entR S rs a).length≤rs.length+1:=by unfold entR; split <;> simp
      simp only [List.foldl_cons,List.length_cons]; omega
  have h1:=key (T.filter (kd 1)) []
  have h2:=List.length_filter_le (kd 1) T
  unfold shsR
  simp only [List.length_nil] at h1; omega
theorem rfold_spec (b:Bse) (hb:bseSz b) (l:List Nt) (hl:setSz l) (hbo:b.ok) (h400:l.length≤400) (hlo:∀ a∈l,a.ok b) (hsrt:(l.map Nt.nm).Pairwise (fun x y=>cmpN x y < 0)) (hn:(l.map Nt.nm).Nodup)
    (hbl:b.stns.length < 1099511627776) (hbh:∀ s∈b.stns,s.heights.length * 24≤140737488355328):Pure Tryz.prog 83 [.agg b.cs,ntS l] (.agg (refT b l).cs):=by
  refine Pure.of_body Tryz.call83 Tryz.func83 k83 (Nat.le_of_ble_eq_true rfl) ?_
  unfold c83
  have hst:=rStanding_spec l (by omega) hn
  ((refine Ay @hst ?_;repeat' constructor)<;>intros<;>refine hD_ ?_)
  all_goals try (exfalso; omega)
  refine .inr (.inl ⟨_,_,_,_,rfl,fun _=>⟨someStns_does b.stns hbl hbh _,?_⟩,fun h=>by cases h⟩)
  rintro r1 σ1 ⟨ν0,rfl,rfl⟩
  refine owp_of_exs ?_
  simp only [zN,zT,zV,zS,zU,Q0,Q1,ex,Q2,Q3,Q4,Q5,Q6,Q7,Q8,Q9,QA,QB,QC,Nat.reduceBEq,W0,W1,W2,W3,W4,W5,reduceIte,List.length_map]
  obtain ⟨S,hS⟩:∃ S,S=standT l:=⟨_,rfl⟩
  have hSn:(S.map Nt.nm).Nodup:=hS ▸ standT_nodup hn
  rw [← hS] at hst
  ((refine Ay @hst ?_;repeat' constructor)<;>intros<;>refine hD_ ?_)
  all_goals try (exfalso; omega)
  obtain ⟨G,hG⟩:∃ G,G=List.length ν0:=⟨_,rfl⟩
  have a0:∀ A B X,Sto.at (A::B::(ν0++X)) (G+2) 0=Sto.at X 0 0:=fun A B X=>by rw [hG]; exact at_app (A::B::ν0) X 0 0
  have u0:∀ A B X o,Sto.upd (A::B::(ν0++X)) (G+2) 0 o=A::B::(ν0++Sto.upd X 0 0 o):=fun A B X o=>by rw [hG]; exact upd_app (A::B::ν0) X 0 0 o
  rw [← hG]
  have e1:∀ A B X Y,(A::B::(ν0++X):Sto)++Y=A::B::(ν0++(X++Y)):=fun A B X Y=>by simp
  have ln:∀ (A B:Option (List Ob)) (X:Sto),List.length (A::B::(ν0++X))=G+(X.length+2):=fun A B X=>by simp [hG]; omega
  refine AWPC.own0c 72 24 (f:=G+2) (i:=0) (e:=0) (j:=0) (a0 _ _ _) (by simp) rfl ?_
  refine AWPC.sto (σ':=some [⟨37,4,[rgZ],none⟩]::some [⟨109,4,b.stns.map Stn.cs,none⟩]::(ν0++[some [⟨37,4,[[.own (G+3) 0 0,.v (.slice none 0 0),.own 1 0 b.stns.length,.v (.slice none 0 0)]],none⟩],some [⟨72,24,[],none⟩]])) (by rw [ln,e1,u0]; rfl) ?_
  refine AWPC.own0c 64 5 (f:=G+2) (i:=0) (e:=0) (j:=1) (a0 _ _ _) (by simp) rfl ?_
  refine AWPC.sto (σ':=some [⟨37,4,[rgZ],none⟩]::some [⟨109,4,b.stns.map Stn.cs,none⟩]::(ν0++[some [⟨37,4,[[.own (G+3) 0 0,.own (G+4) 0 0,.own 1 0 b.stns.length,.v (.slice none 0 0)]],none⟩],some [⟨72,24,[],none⟩],some [⟨64,5,[],none⟩]])) (by rw [ln,e1,u0]; rfl) ?_
  refine AWPC.own0 68 38 6 rfl ?_
  rw [ln,e1]
  simp only [List.length_cons,List.length_nil,List.cons_append,List.nil_append,Nat.zero_add,reduceAdd]
  have hb0:(stnsE b.stns).1=0:=hbo.1
  have hmem:∀ a∈S,a∈l:=fun a ha=>by rw [hS] at ha; exact (mem_standT.1 ha).1
  have hsl:∀ k,(shsR S (S.take k)).length≤k:=fun k=>Nat.le_trans (shsR_len S _) (by rw [List.length_take]; omega)
  have hrl:∀ k,((S.take k).filter (kd 3)).length≤k:=fun k=>Nat.le_trans (List.length_filter_le _ _) (by rw [List.length_take]; omega)
  have hcl:∀ k,((S.take k).filter (badS b S)).length≤k:=fun k=>Nat.le_trans (List.length_filter_le _ _) (by rw [List.length_take]; omega)
  have htl:∀ k,(stsR b.stns (S.take k)).length=b.stns.length:=fun k=>by
    have:=congrArg List.length (SameS.stsR hb0 (S.take k)).ids
    simpa using this
  have hm:∀ a∈S,(a.kind=2∨(a.kind=6∧a.read.stn=0))→0≤a.mark.col:=fun a ha hk=>by
    have g:=(hlo a (hmem a ha)).2.2.2.2
    unfold Nt.says at g
    rcases hk with hk | ⟨hk,h0⟩
    · rw [if_neg (by omega),if_pos hk] at g
      exact g.2.1.1
    · rw [if_neg (by omega),if_neg (by omega),if_neg (by omega),if_neg (by omega),if_neg (by omega),if_pos hk,if_neg (by omega)] at g
      exact g.2.1.1
  have hSl:S.length≤l.length:=by rw [hS]; exact standT_len l
  have hp:∀ a∈S,a.kind=4→(stnOf b.stns a.stn).2=0:=fun a ha hk=>by
    have g:=(hlo a (hmem a ha)).2.2.2.2
    unfold Nt.says at g
    rw [if_neg (by omega),if_neg (by omega),if_neg (by omega),if_pos hk] at g
    exact g.1.1
  have hhs:∀ k i,((stsR b.stns (S.take k)).getD i default).heights.length < 1000000:=fun k i=>by
    have g:=(stns_small (SameS.stsR hb0 (S.take k)).ok).2
    by_cases h:i < (stsR b.stns (S.take k)).length
    · have:=g _ (List.mem_of_getElem? (getD_lt default h)); omega
    · rw [List.getD_eq_getElem?_getD,List.getElem?_eq_none (by omega)]; decide
  have aR:∀ A B o X,Sto.at (A::B::(ν0++some [o]::X)) (G+2) 0=some o:=fun A B o X=>a0 A B _
  have aS:∀ A B p o X,Sto.at (A::B::(ν0++p::some [o]::X)) (G+3) 0=some o:=fun A B p o X=>by rw [hG]; exact at_app (A::B::ν0) _ 1 0
  have aD:∀ A B p q o X,Sto.at (A::B::(ν0++p::q::some [o]::X)) (G+4) 0=some o:=fun A B p q o X=>by rw [hG]; exact at_app (A::B::ν0) _ 2 0
  have aC:∀ A B p q r o X,Sto.at (A::B::(ν0++p::q::r::some [o]::X)) (G+5) 0=some o:=fun A B p q r o X=>by rw [hG]; exact at_app (A::B::ν0) _ 3 0
  have uR:∀ A B o X o',Sto.upd (A::B::(ν0++some [o]::X)) (G+2) 0 o'=A::B::(ν0++some [o']::X):=fun A B o X o'=>u0 A B _ o'
  have uS:∀ A B p o X o',Sto.upd (A::B::(ν0++p::some [o]::X)) (G+3) 0 o'=A::B::(ν0++p::some [o']::X):=fun A B p o X o'=>by rw [hG]; exact upd_app (A::B::ν0) _ 1 0 o'
  have uD:∀ A B p q o X o',Sto.upd (A::B::(ν0++p::q::some [o]::X)) (G+4) 0 o'=A::B::(ν0++p::q::some [o']::X):=fun A B p q o X o'=>by rw [hG]; exact upd_app (A::B::ν0) _ 2 0 o'
  have uC:∀ A B p q r o X o',Sto.upd (A::B::(ν0++p::q::r::some [o]::X)) (G+5) 0 o'=A::B::(ν0++p::q::r::some [o']::X):=fun A B p q r o X o'=>by rw [hG]; exact upd_app (A::B::ν0) _ 3 0 o'
  refine AWPC.loopE (α:={ z:Nat × Sto // z.1≤S.length }) [6,8] (fun z=>[(6,.own (G+5) 0 ((S.take z.1.1).filter (badS b S)).length),(8,n z.1.1)])
    (fun z=>some [⟨37,4,[rgZ],none⟩]::some [⟨109,4,(stsR b.stns (S.take z.1.1)).map Stn.cs,none⟩]::(ν0++some [⟨37,4,[[.own (G+3) 0 (shsR S (S.take z.1.1)).length,.own (G+4) 0 ((S.take z.1.1).filter (kd 3)).length,.own 1 0 b.stns.length,.v (.slice none 0 0)]],none⟩]::some [⟨72,24,(shsR S (S.take z.1.1)).map Fld.cs,none⟩]::some [⟨64,5,((S.take z.1.1).filter (kd 3)).map fun a=>(knw S a).read.cs,none⟩]::some [⟨68,38,((S.take z.1.1).filter (badS b S)).map Nt.cs,none⟩]::z.1.2))
    (fun z=>S.length - z.1.1) ⟨(0,[]),Nat.zero_le _⟩ ?_ rfl ?_
  · (simp only [zN,zT,zV,zS,zU,Q0,Q1,ex,Q2,Q3,Q4,Q5,Q6,Q7,Q8,Q9,QA,QB,QC,Nat.reduceBEq,W0,W1,W2,W3,W4,W5,reduceIte]; try simp)
  · rintro ⟨⟨k,ν⟩,hk⟩
    simp only at hk ⊢
    by_cases hlt:k < S.length
    · have hg:=getD_lt nt0 hlt
      have hr:(S.map Nt.cs).getD k []=Nt.cs (S.getD k nt0):=row nt0 hlt
      have n1:=shsR_next hg
      have n2:=stsR_next (st:=b.stns) hg
      have n3:(S.take (k+1)).filter (kd 3)=if kd 3 (S.getD k nt0) then (S.take k).filter (kd 3)++[S.getD k nt0] else (S.take k).filter (kd 3):=by
        rw [List.take_add_one,hg,Option.toList_some,List.filter_append,List.filter_cons,List.filter_nil]
        split <;> simp
      have n4:(S.take (k+1)).filter (badS b S)=if badS b S (S.getD k nt0) then (S.take k).filter (badS b S)++[S.getD k nt0] else (S.take k).filter (badS b S):=by
        rw [List.take_add_one,hg,Option.toList_some,List.filter_append,List.filter_cons,List.filter_nil]
        split <;> simp
      have l1:=hsl k
      have l2:=hrl k
      have l3:=hcl k
      have l4:=htl k
      have hbf:=bef_take hSn hlt
      have hbad:badS b S (S.getD k nt0)=if (S.getD k nt0).kind=1 then takenB S (shsR S (S.take k)) (S.getD k nt0)
          else if (S.getD k nt0).kind=2 then !cnt S (S.getD k nt0)
          else if (S.getD k nt0).kind=4 then decide ((movR (stsR b.stns (S.take k)) (S.getD k nt0)).2≠0)
          else if (S.getD k nt0).kind=5 then (shN S (S.getD k nt0).ref).isNone
          else if (S.getD k nt0).kind=6 then !corr S (S.getD k nt0) else false:=by
        unfold badS; rw [hbf]
      have hid:=(SameS.stsR hb0 (S.take k)).of hb0 (S.getD k nt0).stn
      have hp4:=hp _ (List.mem_of_getElem? hg)
      have hhk:=hhs k
      generalize shsR S (S.take k)=sh at n1 l1 hbad
      generalize (S.take k).filter (kd 3)=rd at n3 l2
      generalize (S.take k).filter (badS b S)=cf at n4 l3
      generalize stsR b.stns (S.take k)=st at n2 l4 hbad hid hhk
      rw [hbad] at n4
      have hcn:=rcounts_spec S (by omega) k hlt
      have hcR:=cnt_R hSn hm hlt
      have hco:=rcorrects_spec S (by omega) k hlt
      have hoR:=corr_R hSn hm hlt
      have hsh:=rsheet_spec S (by omega) (by omega) (S.getD k nt0).ref
      have hshN:=sheet_sh hSn (S.getD k nt0).ref
      have hkn:=rknown_spec S (by omega) k hlt
      obtain ⟨g1,g2⟩:=knw_R' hSn hm hlt
      have hrw:(S.map Nt.cs).getD (knwR S k S.length) []=Nt.cs (S.getD (knwR S k S.length) nt0):=row nt0 g1
      rw [g2] at hrw
      clear g2
      generalize knwR S k S.length=w at hkn hrw g1
      have hfi:=rfiled_spec S (by omega) hSn hm k hlt
      generalize S.getD k nt0=x at hr n1 n2 n3 n4 hcR hoR hsh hshN hrw hfi hid hp4
      clear hbad hbf hg
      by_cases k2:x.kind=2
      · rw [show kd 1 x=false from decide_eq_false (by omega),if_neg (by decide)] at n1
        rw [show kd 4 x=false from decide_eq_false (by omega),if_neg (by decide)] at n2
        rw [show kd 3 x=false from decide_eq_false (by omega),if_neg (by decide)] at n3
        rw [if_neg (show ¬ x.kind=1 by omega),if_pos k2] at n4
        rw [hcR k2] at hcn
        generalize cnt S x=q at hcn n4
        cases q with
        | true =>
          rw [Bool.not_true,if_neg (by decide)] at n4
          ((refine Az (And.intro @hr (And.intro @k2 (And.intro @aR (And.intro @aS (And.intro @aD (And.intro @aC (And.intro @uR (And.intro @uS (And.intro @uD @uC))))))))) @hcn ?_;repeat' constructor)<;>intros<;>refine hD_ ?_)
          all_goals try (exfalso; omega)
          all_goals exact ⟨⟨(k+1,ν),hlt⟩,⟨by simp only [n4],by simp⟩,by simp only [n1,n2,n3,n4],by simp only; omega⟩
        | false =>
          rw [Bool.not_false,if_pos rfl] at n4
          ((refine Az (And.intro @hr (And.intro @k2 (And.intro @aR (And.intro @aS (And.intro @aD (And.intro @aC (And.intro @uR (And.intro @uS (And.intro @uD @uC))))))))) @hcn ?_;repeat' constructor)<;>intros<;>refine hD_ ?_)
          all_goals try (exfalso; omega)
          all_goals exact ⟨⟨(k+1,ν),hlt⟩,⟨by simp [n4],by simp⟩,by simp [n1,n2,n3,n4],by simp only; omega⟩
      by_cases k5:x.kind=5
      ·
        rw [show kd 1 x=false from decide_eq_false (by omega),if_neg (by decide)] at n1
        rw [show kd 4 x=false from decide_eq_false (by omega),if_neg (by decide)] at n2
        rw [show kd 3 x=false from decide_eq_false (by omega),if_neg (by decide)] at n3
        rw [if_neg (show ¬ x.kind=1 by omega),if_neg k2,if_neg (show ¬ x.kind=4 by omega),if_pos k5,hshN] at n4
        cases hz:sheetR S x.ref with
        | none =>
          rw [hz] at hsh n4
          simp only [plc] at hsh
          rw [Option.map_none,Option.isNone_none,if_pos rfl] at n4
          ((refine Az (And.intro @hr (And.intro @k5 (And.intro @aR (And.intro @aS (And.intro @aD (And.intro @aC (And.intro @uR (And.intro @uS (And.intro @uD @uC))))))))) @hsh ?_;repeat' constructor)<;>intros<;>refine hD_ ?_)
          all_goals try (exfalso; omega)
          all_goals exact ⟨⟨(k+1,ν),hlt⟩,⟨by simp [n4],by simp⟩,by simp [n1,n2,n3,n4],by simp only; omega⟩
        | some w =>
          rw [hz] at hsh n4
          simp only [plc] at hsh
          rw [Option.map_some,Option.isNone_some,if_neg (by decide)] at n4
          ((refine Az (And.intro @hr (And.intro @k5 (And.intro @aR (And.intro @aS (And.intro @aD (And.intro @aC (And.intro @uR (And.intro @uS (And.intro @uD @uC))))))))) @hsh ?_;repeat' constructor)<;>intros<;>refine hD_ ?_)
          all_goals try (exfalso; omega)
          all_goals exact ⟨⟨(k+1,ν),hlt⟩,⟨by simp [n4],by simp⟩,by simp [n1,n2,n3,n4],by simp only; omega⟩
      by_cases k6:x.kind=6
      ·
        rw [show kd 1 x=false from decide_eq_false (by omega),if_neg (by decide)] at n1
        rw [show kd 4 x=false from decide_eq_false (by omega),if_neg (by decide)] at n2
        rw [show kd 3 x=false from decide_eq_false (by omega),if_neg (by decide)] at n3
        rw [if_neg (show ¬ x.kind=1 by omega),if_neg k2,if_neg (show ¬ x.kind=4 by omega),if_neg k5,if_pos k6] at n4
        rw [hoR k6] at hco
        generalize corr S x=q at hco n4
        cases q with
        | true =>
          rw [Bool.not_true,if_neg (by decide)] at n4
          ((refine Az (And.intro @hr (And.intro @k6 (And.intro @aR (And.intro @aS (And.intro @aD (And.intro @aC (And.intro @uR (And.intro @uS (And.intro @uD @uC))))))))) @hco ?_;repeat' constructor)<;>intros<;>refine hD_ ?_)
          all_goals try (exfalso; omega)
          all_goals exact ⟨⟨(k+1,ν),hlt⟩,⟨by simp [n4],by simp⟩,by simp [n1,n2,n3,n4],by simp only; omega⟩
        | false =>
          rw [Bool.not_false,if_pos rfl] at n4
          ((refine Az (And.intro @hr (And.intro @k6 (And.intro @aR (And.intro @aS (And.intro @aD (And.intro @aC (And.intro @uR (And.intro @uS (And.intro @uD @uC))))))))) @hco ?_;repeat' constructor)<;>intros<;>refine hD_ ?_)
          all_goals try (exfalso; omega)
          all_goals exact ⟨⟨(k+1,ν),hlt⟩,⟨by simp [n4],by simp⟩,by simp [n1,n2,n3,n4],by simp only; omega⟩
      by_cases k3:x.kind=3
      ·
        rw [show kd 1 x=false from decide_eq_false (by omega),if_neg (by decide)] at n1
        rw [show kd 4 x=false from decide_eq_false (by omega),if_neg (by decide)] at n2
        rw [show kd 3 x=true from decide_eq_true k3,if_pos rfl] at n3
        rw [if_neg (show ¬ x.kind=1 by omega),if_neg k2,if_neg (show ¬ x.kind=4 by omega),if_neg k5,if_neg k6,if_neg (by decide)] at n4
        ((refine Az (And.intro @hr (And.intro @hrw (And.intro @k3 (And.intro @aR (And.intro @aS (And.intro @aD (And.intro @aC (And.intro @uR (And.intro @uS (And.intro @uD @uC)))))))))) @hkn ?_;repeat' constructor)<;>intros<;>refine hD_ ?_)
        all_goals try (exfalso; omega)
        all_goals exact ⟨⟨(k+1,ν),hlt⟩,⟨by simp [n4],by simp⟩,by simp [n1,n2,n3,n4],by simp only; omega⟩
      have hG':List.length ν0=G:=hG.symm
      have aN:∀ A B p q r c o,Sto.at (A::B::(ν0++p::q::r::c::(ν++[some [o]]))) (G+(List.length ν+6)) 0=some o:=fun A B p q r c o=>by
        have:=at_app (A::B::(ν0++p::q::r::c::ν)) [some [o]] 0 0
        have e:List.length (A::B::(ν0++p::q::r::c::ν))+0=G+(List.length ν+6):=by simp [hG']; omega
        rw [e] at this
        exact (show _=Sto.at [some [o]] 0 0 by simpa using this).trans rfl
      have uN:∀ A B p q r c o o',Sto.upd (A::B::(ν0++p::q::r::c::(ν++[some [o]]))) (G+(List.length ν+6)) 0 o'=A::B::(ν0++p::q::r::c::(ν++[some [o']])):=fun A B p q r c o o'=>by
        have:=upd_app (A::B::(ν0++p::q::r::c::ν)) [some [o]] 0 0 o'
        have e:List.length (A::B::(ν0++p::q::r::c::ν))+0=G+(List.length ν+6):=by simp [hG']; omega
        rw [e,show Sto.upd [some [o]] 0 0 o'=[some [o']] from rfl] at this
        simpa using this
      by_cases k1:x.kind=1
      · rw [show kd 1 x=true from decide_eq_true k1,if_pos rfl] at n1
        rw [show kd 4 x=false from decide_eq_false (by omega),if_neg (by decide)] at n2
        rw [show kd 3 x=false from decide_eq_false (by omega),if_neg (by decide)] at n3
        rw [if_pos k1] at n4
        unfold entR at n1
        unfold takenB at n4
        generalize fld S x=F at hfi n1 n4
        have hsO:=rsheetOf_spec sh (by omega) F.stn F.week
        have hpk:∀ A B p X,Peek Tryz.prog 126 [.own (G+3) 0 sh.length,n F.stn,n F.week] (A::B::(ν0++p::some [⟨72,24,sh.map Fld.cs,none⟩]::X)) (n (match sheetAt sh F.stn F.week with | some j=>(j:Int) | none=>-1)):=fun A B p X =>
          Peek.plain hsO (Plain.v _) ⟨Frz.ownL (f:=G+3) (cs:=Fld.cs) (l:=sh) (aS _ _ _ _ _) rfl (by decide) (fun a=>Fld.pc a) (fun a=>rfl),Frz.pure (by simp),Frz.pure (by simp),trivial⟩
        clear hsO
        cases hz:sheetAt sh F.stn F.week with
        | none =>
          rw [hz] at n1 n4
          simp only [hz] at hpk
          rw [Option.isSome_none,if_neg (by decide)] at n1 n4
          (repeat' ((first
 | refine vn rfl ?_
 | simp (disch:=omega) only [wr64,Int.zero_sub]
 | refine bo (fun _=>?_) fun _=>?_
 | refine im fun _=>?_
 | ((repeat refine si ?_); ((first | refine .inl ⟨_,_,_,_,rfl,fun _=>(by first | exact (hpk _ _ _ _)),?_⟩ | refine ⟨_,_,_,_,rfl,fun _=>(by first | exact (hpk _ _ _ _)),?_⟩); (first | refine o1 ?_ | refine o2 ?_ | refine o3 ?_ | refine o4 ?_)))
 | ((repeat refine si ?_); (first | ((first | refine .inl ⟨_,_,_,_,rfl,fun _=>pu hfi,?_⟩ | refine ⟨_,_,_,_,rfl,fun _=>pu hfi,?_⟩); (first | refine o1 ?_ | refine o2 ?_ | refine o3 ?_ | refine o4 ?_)) | refine .inl ⟨_,_,_,_,rfl,pu hfi,?_⟩))
 | refine cF ?_
 | refine om ?_
 | refine an ?_
 | fail) <;> try simp only [zN, zT, zV, zS, zU, vcC, lateX, ex, strp, binA, elems, cells, scalar, eqC, keyA, intsA, lookA, ofVs, mpOf, Nat.reduceBEq, reduceAdd, reduceSub, reduceLT, reduceLeDiff, reduceMul, reduceEqDiff, reduceIte, hr, k1, aR, aS, aD, aC, aN, uN, hG', uR, uS, uD, uC, List.length_map]))
          all_goals try (exfalso; omega)
          all_goals exact ⟨⟨(k+1,ν++[some [⟨72,24,[F.cs],none⟩]]),hlt⟩,⟨by simp [n4],by simp⟩,by simp [n1,n2,n3,n4],by simp only; omega⟩
        | some j =>
          rw [hz] at n1 n4
          simp only [hz] at hpk
          rw [Option.isSome_some,if_pos rfl] at n1 n4
          (repeat' ((first
 | refine vn rfl ?_
 | simp (disch:=omega) only [wr64,Int.zero_sub]
 | refine bo (fun _=>?_) fun _=>?_
 | refine im fun _=>?_
 | ((repeat refine si ?_); ((first | refine .inl ⟨_,_,_,_,rfl,fun _=>(by first | exact (hpk _ _ _ _)),?_⟩ | refine ⟨_,_,_,_,rfl,fun _=>(by first | exact (hpk _ _ _ _)),?_⟩); (first | refine o1 ?_ | refine o2 ?_ | refine o3 ?_ | refine o4 ?_)))
 | ((repeat refine si ?_); (first | ((first | refine .inl ⟨_,_,_,_,rfl,fun _=>pu hfi,?_⟩ | refine ⟨_,_,_,_,rfl,fun _=>pu hfi,?_⟩); (first | refine o1 ?_ | refine o2 ?_ | refine o3 ?_ | refine o4 ?_)) | refine .inl ⟨_,_,_,_,rfl,pu hfi,?_⟩))
 | refine cF ?_
 | refine om ?_
 | refine an ?_
 | fail) <;> try simp only [zN, zT, zV, zS, zU, vcC, lateX, ex, strp, binA, elems, cells, scalar, eqC, keyA, intsA, lookA, ofVs, mpOf, Nat.reduceBEq, reduceAdd, reduceSub, reduceLT, reduceLeDiff, reduceMul, reduceEqDiff, reduceIte, hr, k1, aR, aS, aD, aC, aN, uN, hG', uR, uS, uD, uC, List.length_map]))
          all_goals try (exfalso; omega)
          all_goals exact ⟨⟨(k+1,ν++[some [⟨72,24,[F.cs],none⟩]]),hlt⟩,⟨by simp [n4],by simp⟩,by simp [n1,n2,n3,n4],by simp only; omega⟩
      by_cases k4:x.kind=4
      · rw [show kd 1 x=false from decide_eq_false (by omega),if_neg (by decide)] at n1
        rw [show kd 4 x=true from decide_eq_true k4,if_pos rfl] at n2
        rw [show kd 3 x=false from decide_eq_false (by omega),if_neg (by decide)] at n3
        rw [if_neg k1,if_neg k2,if_pos k4] at n4
        have hso:=rStationOf_spec b.stns hb x.stn
        obtain ⟨hix,_⟩:=stnOf_lt (hp4 k4)
        unfold raiR movR at n2
        unfold movR at n4
        rw [hid] at n2 n4
        generalize (stnOf b.stns x.stn).1=ix at hso hix n2 n4
        generalize (stnOf b.stns x.stn).2=e9 at hso
        have hrs:(st.map Stn.cs).getD ix []=Stn.cs (st.getD ix default):=row default (by omega)
        have hmv:=rMove_spec (st.getD ix default) x.height (hhk ix)
        generalize moveE (st.getD ix default) x.height=mv at hmv n2 n4
        obtain ⟨m1,m2⟩:=mv
        generalize st.getD ix default=s0 at hrs hmv
        simp only at hmv n2 n4
        clear hid hhk hp4 hco hoR hcn hcR hsh hshN hfi hkn hrw
        by_cases hm2:m2=0
        · subst hm2
          rw [if_neg (by decide)] at n2
          rw [decide_eq_false (by decide),if_neg (by decide)] at n4
          ((refine Az (And.intro @hr (And.intro @k4 (And.intro @hrs (And.intro @aR (And.intro @aS (And.intro @aD (And.intro @aC (And.intro @aN (And.intro @hG' (And.intro @uR (And.intro @uS (And.intro @uD (And.intro @uC (And.intro @uN @l4)))))))))))))) (And.intro @hso @hmv) ?_;repeat' constructor)<;>intros<;>refine hD_ ?_)
          all_goals try (exfalso; omega)
          all_goals exact ⟨⟨(k+1,ν++[some [⟨109,4,[Stn.cs m1],none⟩]]),hlt⟩,⟨by simp [n4],by simp⟩,by simp [n1,n2,n3,n4],by simp only; omega⟩
        · rw [if_pos hm2] at n2
          rw [decide_eq_true hm2,if_pos rfl] at n4
          ((refine Az (And.intro @hr (And.intro @k4 (And.intro @hrs (And.intro @aR (And.intro @aS (And.intro @aD (And.intro @aC (And.intro @aN (And.intro @hG' (And.intro @uR (And.intro @uS (And.intro @uD (And.intro @uC (And.intro @uN @l4)))))))))))))) (And.intro @hso @hmv) ?_;repeat' constructor)<;>intros<;>refine hD_ ?_)
          all_goals try (exfalso; omega)
          all_goals exact ⟨⟨(k+1,ν++[some [⟨109,4,[Stn.cs m1],none⟩]]),hlt⟩,⟨by simp [n4],by simp⟩,by simp [n1,n2,n3,n4],by simp only; omega⟩
      rw [show kd 1 x=false from decide_eq_false (by omega),if_neg (by decide)] at n1
      rw [show kd 4 x=false from decide_eq_false (by omega),if_neg (by decide)] at n2
      rw [show kd 3 x=false from decide_eq_false (by omega),if_neg (by decide)] at n3
      rw [if_neg k1,if_neg k2,if_neg k4,if_neg k5,if_neg k6,if_neg (by decide)] at n4
      ((refine Az (And.intro @hr (And.intro @k1 (And.intro @k2 (And.intro @k3 (And.intro @k4 (And.intro @k5 (And.intro @k6 (And.intro @aR (And.intro @aS (And.intro @aD (And.intro @aC (And.intro @uR (And.intro @uS (And.intro @uD @uC)))))))))))))) @hco ?_;repeat' constructor)<;>intros<;>refine hD_ ?_)
      all_goals try (exfalso; omega)
      all_goals exact ⟨⟨(k+1,ν),hlt⟩,⟨by simp [n4],by simp⟩,by simp [n1,n2,n3,n4],by simp only; omega⟩
    · obtain rfl:k=S.length:=by omega
      rw [List.take_length]
      have hfl:S.length < 4294967296:=by omega
      obtain ⟨SH,hSH⟩:∃ SH,SH=shsR S S:=⟨_,rfl⟩
      obtain ⟨RD,hRD⟩:∃ RD,RD=S.filter (kd 3):=⟨_,rfl⟩
      obtain ⟨CF,hCF⟩:∃ CF,CF=S.filter (badS b S):=⟨_,rfl⟩
      obtain ⟨ST,hST⟩:∃ ST,ST=stsR b.stns S:=⟨_,rfl⟩
      have hCl:CF.length≤S.length:=by rw [hCF]; exact List.length_filter_le _ _
      rw [← hSH,← hRD,← hCF,← hST]
      ((refine Au ?_;repeat' constructor)<;>intros<;>refine hD_ ?_)
      all_goals try (exfalso; omega)
      have hG':List.length ν0=G:=hG.symm
      have hl4:l.length < 4294967296:=by omega
      refine AWPC.loopE (α:={ z:Nat // z≤l.length }) [6,15] (fun z=>[(6,.own (G+5) 0 (CF++(l.take z.1).filter fun a=>decide (a.kind=7) && badR b l a).length),(15,n z.1)])
        (fun z=>some [⟨37,4,[rgZ],none⟩]::some [⟨109,4,ST.map Stn.cs,none⟩]::(ν0++some [⟨37,4,[[.own (G+3) 0 SH.length,.own (G+4) 0 RD.length,.own 1 0 b.stns.length,.v (.slice none 0 0)]],none⟩]::some [⟨72,24,SH.map Fld.cs,none⟩]::some [⟨64,5,RD.map fun a=>(knw S a).read.cs,none⟩]::some [⟨68,38,(CF++(l.take z.1).filter fun a=>decide (a.kind=7) && badR b l a).map Nt.cs,none⟩]::ν))
        (fun z=>l.length - z.1) ⟨0,Nat.zero_le _⟩ ?_ (by simp) ?_
      · (simp only [zN,zT,zV,zS,zU,Q0,Q1,ex,Q2,Q3,Q4,Q5,Q6,Q7,Q8,Q9,QA,QB,QC,Nat.reduceBEq,W0,W1,W2,W3,W4,W5,reduceIte]; try simp)
      · rintro ⟨j,hj⟩
        simp only at hj ⊢
        by_cases hlt:j < l.length
        · have hg:=getD_lt nt0 hlt
          have hr:(l.map Nt.cs).getD j []=Nt.cs (l.getD j nt0):=row nt0 hlt
          have n1:CF++(l.take (j+1)).filter (fun a=>decide (a.kind=7) && badR b l a)=if (decide ((l.getD j nt0).kind=7) && badR b l (l.getD j nt0)) then (CF++(l.take j).filter fun a=>decide (a.kind=7) && badR b l a)++[l.getD j nt0] else CF++(l.take j).filter fun a=>decide (a.kind=7) && badR b l a:=by
            rw [List.take_add_one,hg,Option.toList_some,List.filter_append,List.filter_cons,List.filter_nil]
            split <;> simp
          have l1:(CF++(l.take j).filter fun a=>decide (a.kind=7) && badR b l a).length≤S.length+j:=by
            rw [List.length_append]
            have:=List.length_filter_le (fun a=>decide (a.kind=7) && badR b l a) (l.take j)
            rw [List.length_take] at this; omega
          generalize (CF++(l.take j).filter fun a=>decide (a.kind=7) && badR b l a)=cf at n1 l1
          have hf:=rfind_spec l (by omega) (l.getD j nt0).ref
          have hfq:=find_fq hn (l.getD j nt0).ref
          have hq:(l.getD j nt0).kind=7→badR b l (l.getD j nt0)=(match fq l (fun _=>true) (l.getD j nt0).ref with | none=>true | some m=>decide (m.kind=7)):=fun h=>by unfold badR; rw [if_pos h]; cases fq l (fun _=>true) (l.getD j nt0).ref <;> rfl
          rw [hfq] at hq
          generalize l.getD j nt0=x at hr n1 hf hq
          clear hg hfq
          cases hz:findR l x.ref with
          | none =>
            rw [hz] at hf hq
            obtain ⟨w,hw⟩:∃ w:Int,w=plc none:=⟨_,rfl⟩
            rw [← hw] at hf
            have hw:w=-1:=hw
            have hry:(l.map Nt.cs).getD w.toNat []=Nt.cs (l.getD 0 nt0):=by rw [hw]; exact row nt0 (by omega)
            have hw0:decide (w < 0)=true:=by rw [hw]; rfl
            generalize l.getD 0 nt0=y at hry
            by_cases k7:x.kind=7
            · rw [hq k7,decide_eq_true k7] at n1
              simp only [Option.map_none,Bool.and_self,if_true] at n1
              (repeat' ((first
 | refine vn rfl ?_
 | simp (disch:=omega) only [wr64,Int.zero_sub]
 | refine bo (fun _=>?_) fun _=>?_
 | refine im fun _=>?_
 | ((repeat refine si ?_); (first | ((first | refine .inl ⟨_,_,_,_,rfl,fun _=>pu hf,?_⟩ | refine ⟨_,_,_,_,rfl,fun _=>pu hf,?_⟩); (first | refine o1 ?_ | refine o2 ?_ | refine o3 ?_ | refine o4 ?_)) | refine .inl ⟨_,_,_,_,rfl,pu hf,?_⟩))
 | refine cF ?_
 | refine om ?_
 | refine an ?_
 | fail) <;> try simp only [zN, zT, zV, zS, zU, vcC, lateX, ex, strp, binA, elems, cells, scalar, eqC, keyA, intsA, lookA, ofVs, mpOf, Nat.reduceBEq, reduceAdd, reduceSub, reduceLT, reduceLeDiff, reduceMul, reduceEqDiff, reduceIte, hr, hry, k7, hw0, Bool.true_or, aR, aS, aD, aC, hG', uR, uS, uD, uC, List.length_map]))
              all_goals try (exfalso; omega)
              all_goals refine ⟨⟨j+1,hlt⟩,⟨?_,by simp⟩,by first | (simp only [n1]; done) | (simp only [n1]; simp; done) | (simp [n1]; done),by simp only; omega⟩
              all_goals (have h9:=congrArg List.length n1; simp at h9 ⊢; omega)
            · rw [decide_eq_false k7,Bool.false_and,if_neg (by decide)] at n1
              (repeat' ((first
 | refine vn rfl ?_
 | simp (disch:=omega) only [wr64,Int.zero_sub]
 | refine bo (fun _=>?_) fun _=>?_
 | refine im fun _=>?_
 | ((repeat refine si ?_); (first | ((first | refine .inl ⟨_,_,_,_,rfl,fun _=>pu hf,?_⟩ | refine ⟨_,_,_,_,rfl,fun _=>pu hf,?_⟩); (first | refine o1 ?_ | refine o2 ?_ | refine o3 ?_ | refine o4 ?_)) | refine .inl ⟨_,_,_,_,rfl,pu hf,?_⟩))
 | refine cF ?_
 | refine om ?_
 | refine an ?_
 | fail) <;> try simp only [zN, zT, zV, zS, zU, vcC, lateX, ex, strp, binA, elems, cells, scalar, eqC, keyA, intsA, lookA, ofVs, mpOf, Nat.reduceBEq, reduceAdd, reduceSub, reduceLT, reduceLeDiff, reduceMul, reduceEqDiff, reduceIte, hr, hry, k7, hw0, Bool.true_or, aR, aS, aD, aC, hG', uR, uS, uD, uC, List.length_map]))
              all_goals try (exfalso; omega)
              all_goals refine ⟨⟨j+1,hlt⟩,⟨?_,by simp⟩,by first | (simp only [n1]; done) | (simp only [n1]; simp; done) | (simp [n1]; done),by simp only; omega⟩
              all_goals (have h9:=congrArg List.length n1; simp at h9 ⊢; omega)
          | some i =>
            rw [hz] at hf hq
            simp only [plc] at hf
            have hil:=(findR_some hz).1
            have hry:(l.map Nt.cs).getD i []=Nt.cs (l.getD i nt0):=row nt0 hil
            simp only [Option.map_some] at hq
            generalize l.getD i nt0=y at hry hq
            by_cases k7:x.kind=7
            · rw [hq k7,decide_eq_true k7,Bool.true_and] at n1
              by_cases y7:y.kind=7
              · rw [decide_eq_true y7,if_pos rfl] at n1
                ((refine Az (And.intro @hr (And.intro @hry (And.intro @k7 (And.intro @y7 (And.intro @aR (And.intro @aS (And.intro @aD (And.intro @aC (And.intro @hG' (And.intro @uR (And.intro @uS (And.intro @uD @uC)))))))))))) @hf ?_;repeat' constructor)<;>intros<;>refine hD_ ?_)
                all_goals try (exfalso; omega)
                all_goals refine ⟨⟨j+1,hlt⟩,⟨?_,by simp⟩,by first | (simp only [n1]; done) | (simp only [n1]; simp; done) | (simp [n1]; done),by simp only; omega⟩
                all_goals (have h9:=congrArg List.length n1; simp at h9 ⊢; omega)
              · rw [decide_eq_false y7,if_neg (by decide)] at n1
                ((refine Az (And.intro @hr (And.intro @hry (And.intro @k7 (And.intro @y7 (And.intro @aR (And.intro @aS (And.intro @aD (And.intro @aC (And.intro @hG' (And.intro @uR (And.intro @uS (And.intro @uD @uC)))))))))))) @hf ?_;repeat' constructor)<;>intros<;>refine hD_ ?_)
                all_goals try (exfalso; omega)
                all_goals refine ⟨⟨j+1,hlt⟩,⟨?_,by simp⟩,by first | (simp only [n1]; done) | (simp only [n1]; simp; done) | (simp [n1]; done),by simp only; omega⟩
                all_goals (have h9:=congrArg List.length n1; simp at h9 ⊢; omega)
            · rw [decide_eq_false k7,Bool.false_and,if_neg (by decide)] at n1
              ((refine Az (And.intro @hr (And.intro @hry (And.intro @k7 (And.intro @aR (And.intro @aS (And.intro @aD (And.intro @aC (And.intro @hG' (And.intro @uR (And.intro @uS (And.intro @uD @uC))))))))))) @hf ?_;repeat' constructor)<;>intros<;>refine hD_ ?_)
              all_goals try (exfalso; omega)
              all_goals refine ⟨⟨j+1,hlt⟩,⟨?_,by simp⟩,by first | (simp only [n1]; done) | (simp only [n1]; simp; done) | (simp [n1]; done),by simp only; omega⟩
              all_goals (have h9:=congrArg List.length n1; simp at h9 ⊢; omega)
        · obtain rfl:j=l.length:=by omega
          rw [List.take_length]
          obtain ⟨L,hL⟩:∃ L,L=CF++l.filter fun a=>decide (a.kind=7) && badR b l a:=⟨_,rfl⟩
          have hLl:L.length < 4294967296:=by
            rw [hL,List.length_append]
            have:=List.length_filter_le (fun a=>decide (a.kind=7) && badR b l a) l
            omega
          have hcf:=confl_S (b:=b) hsrt
          rw [← hS,← hCF,← hL] at hcf
          have hN:=rNames_spec L hLl
          have hSo:=rSorted_spec (L.map Nt.nm) (by rw [List.length_map]; omega)
          rw [hcf] at hSo
          rw [← hL]
          refine AWPC.freeze1 (f:=G+5) (t:=6) (o:=⟨68,38,L.map Nt.cs,none⟩) rfl (aC _ _ _ _ _ _ _) (by simp) (show (38:Nat)≠0 by decide) ?_
          refine AWPC.sto (σ':=some [⟨37,4,[rgZ],none⟩]::some [⟨109,4,ST.map Stn.cs,none⟩]::(ν0++some [⟨37,4,[[.own (G+3) 0 SH.length,.own (G+4) 0 RD.length,.own 1 0 b.stns.length,.v (.slice none 0 0)]],none⟩]::some [⟨72,24,SH.map Fld.cs,none⟩]::some [⟨64,5,RD.map fun a=>(knw S a).read.cs,none⟩]::none::ν)) (by rw [hG]; exact gone_app (_::_::ν0) _ 3) ?_
          ((refine Az (And.intro @aR (And.intro @aS (And.intro @aD (And.intro @hG' (And.intro @uR (And.intro @uS @uD)))))) (And.intro @hN @hSo) ?_;repeat' constructor)<;>intros<;>refine hD_ ?_)
          all_goals try (exfalso; omega)
          have hE:(refT b l).cs=[fdS SH,rdS (RD.map fun a=>(knw S a).read),snS ST,nmS (refT b l).confl]:=by rw [hSH,hRD,hST,hS]; rfl
          have hTl:ST.length=b.stns.length:=by
            have:=congrArg List.length (SameS.stsR hb0 S).ids
            rw [hST]; simpa using this
          rw [hE]
          exact Frz.aggL ⟨Frz.ownL (f:=G+3) (cs:=Fld.cs) (l:=SH) (aS _ _ _ _ _) rfl (by decide) (fun a=>Fld.pc a) (fun a=>rfl),Frz.ownL (f:=G+4) (cs:=Rd.cs) (l:=RD.map fun a=>(knw S a).read) (by rw [List.map_map]; exact aD _ _ _ _ _ _) (by simp) (by decide) rd_pc (fun a=>rfl),Frz.ownL (f:=1) (cs:=Stn.cs) (l:=ST) rfl hTl (by decide) sn_pc (fun a=>rfl),Frz.pure (nmS_pure _),trivial⟩
def c22:CF:=⟨17,(jo [jx 2 26 6 0,jw 4 (.alloc 37 4 [.slice none 0 0,.slice none 0 0,.slice none 0 0,.slice none 0 0]),jc 5 0] [1,2,4]
 (jo [jk 7 6 2,jm 8 1,jy 9 82 [7,8],jm 6 9] [1,2,4,6]
 (.seq (jo [jm 10 6,ju .neq 11 10 0] [1,2,4,6,11]
 (.cond (.t 11) (jo [jw 12 (.build [.slice none 0 0,.slice none 0 0,.slice none 0 0,.slice none 0 0] []),jm 13 6,js 4 4 12,jm 5 13] [4,5]
 .ret)
 .skip))
 (jo [jk 14 6 2,jm 15 1,jy 16 83 [14,15],js 4 4 16,jc 5 0] [4,5]
 .ret)))),[.c 4 (some 4),.t 5]⟩
theorem k22:chkF Tryz.prog Tryz.f22 c22=true:=by kernel_rfl
def c24:CF:=⟨52,(jo [jx 4 26 6 0,jw 8 (.alloc 37 4 [.slice none 0 0,.slice none 0 0,.slice none 0 0,.slice none 0 0]),jc 9 0] [1,2,3,4,8]
 (jo [jk 13 6 4,jm 14 1,jy 15 82 [13,14],jm 10 15] [1,2,3,4,8,10]
 (.seq (jo [jm 16 10,ju .neq 17 16 0] [1,2,3,4,8,10,17]
 (.cond (.t 17) (jo [jw 18 (.build [.slice none 0 0,.slice none 0 0,.slice none 0 0,.slice none 0 0] []),jm 19 10,js 4 8 18,jm 9 19] [8,9]
 .ret)
 .skip))
 (jo [jn 11] [1,2,3,4,8,11]
 (.seq (jo [jc 12 0] [1,2,3,4,8,11,12]
 (.block 0 (.loop (.seq (jo [jm 20 12,jm 21 1,je 22 21,jt .lss 23 20 22] [1,2,3,4,8,11,12,23]
 (.cond (.t 23) .skip
 (.exit 0)))
 (.seq (.block 1 (jo [jm 26 1,jm 27 12,ji 28 38 26 27,jf 29 3 28,jl 30 29,jm 31 2,jt .leq 32 30 31,jm 33 32,ja 33 (jm 34 1),ja 33 (jm 35 12),ja 33 (ji 36 38 34 35),ja 33 (jf 37 2 36),ja 33 (jl 38 37),ja 33 (jm 39 3),ja 33 (jt .leq 40 38 39),jp 41 33 40] [1,2,3,4,8,11,12,41]
 (.cond (.t 41) (.ops [jm 42 11,jm 43 1,jm 44 12,ji 45 38 43 44,jk 46 38 45,jw 47 (.bsl false 68 38 1 z38 [(0,38,(.t 46))]),jw 48 (.app 68 38 368 (.t 42) (.t 47)),jm 11 48] [1,2,3,4,8,11,12])
 .skip)))
 (.ops [jm 24 12,ju .add 25 24 1,jm 12 25] [1,2,3,4,8,11,12]))))))
 (jo [jk 49 6 4,jm 50 11,jy 51 83 [49,50],js 4 8 51,jc 9 0] [8,9]
 .ret)))))),[.c 8 (some 4),.t 9]⟩
theorem k24:chkF Tryz.prog Tryz.f24 c24=true:=by kernel_rfl
def c26:CF:=⟨88,(jo [jx 3 26 6 0,jx 5 29 2 2,jn 6,jc 7 0] [1,3,5]
 (jo [jk 14 6 3,jm 15 1,jy 16 82 [14,15],jm 8 16] [1,5,8]
 (.seq (jo [jm 17 8,ju .neq 18 17 0] [1,5,8,18]
 (.cond (.t 18) (jo [jm 19 8,jn 6,jm 7 19] [6,7]
 .ret)
 .skip))
 (jo [jm 20 1,jk 21 2 5,jy 22 90 [20,21],jm 9 22] [1,5,9]
 (.seq (jo [jm 23 9,ju .lss 24 23 0,jm 25 24,jd 25 (jm 26 1),jd 25 (jm 27 9),jd 25 (ji 28 38 26 27),jd 25 (jf 29 4 28),jd 25 (jl 30 29),jd 25 (ju .neq 31 30 1),jd 25 (jm 32 31),ja 32 (jm 33 1),ja 32 (jm 34 9),ja 32 (ji 35 38 33 34),ja 32 (jf 36 4 35),ja 32 (jl 37 36),ja 32 (ju .neq 38 37 2),jd 25 (jp 39 32 38),jd 25 (jm 40 39),ja 40 (jm 41 1),ja 40 (jm 42 9),ja 40 (ji 43 38 41 42),ja 40 (jf 44 4 43),ja 40 (jl 45 44),ja 40 (ju .neq 46 45 3),jd 25 (jp 47 40 46),jq 48 25 47] [1,5,9,48]
 (.cond (.t 48) (jo [jn 6,jc 7 3] [6,7]
 .ret)
 .skip))
 (jo [jc 10 6] [1,5,9,10]
 (.seq (jo [jm 49 1,jm 50 9,ji 51 38 49 50,jf 52 4 51,jl 53 52,ju .eql 54 53 1] [1,5,10,54]
 (.cond (.t 54) (.ops [jc 10 5] [1,5,10])
 .skip))
 (jo [jm 55 1,jy 56 91 [55],jm 11 56] [5,10,11]
 (jo [jn 12] [5,10,11,12]
 (.seq (jo [jc 13 0] [5,10,11,12,13]
 (.block 0 (.loop (.seq (jo [jm 57 13,jm 58 11,je 59 58,jt .lss 60 57 59] [5,10,11,12,13,60]
 (.cond (.t 60) .skip
 (.exit 0)))
 (.seq (.block 1 (.seq (.draw [jm 63 11,jm 64 13,ji 65 38 63 64,jf 66 4 65,jl 67 66,jm 68 10,jt .eql 69 67 68,jm 70 69,ja 70 (jm 71 11),ja 70 (jm 72 13),ja 70 (ji 73 38 71 72),ja 70 (jf 74 36 73),ja 70 (jk 75 2 74),ja 70 (jk 76 2 5),⟨some 77,.eqs false [some .i64,some .i64] (.t 75) (.t 76),some (70,true)⟩,jp 78 70 77] [] [5,10,11,12,13,78])
 (.cond (.t 78) (.ops [jm 79 12,jm 80 11,jm 81 13,ji 82 38 80 81,jk 83 38 82,jy 84 92 [83],jw 85 (.bsl false 29 2 1 [.int .i64 0,.int .i64 0] [(0,2,(.t 84))]),jw 86 (.app 29 2 16 (.t 79) (.t 85)),jm 12 86] [5,10,11,12,13])
 .skip)))
 (.ops [jm 61 13,ju .add 62 61 1,jm 13 62] [5,10,11,12,13]))))))
 (jo [jm 87 12,jm 6 87,jc 7 0] [6,7]
 .ret))))))))))),[.t 6,.t 7]⟩
theorem k26:chkF Tryz.prog Tryz.f26 c26=true:=by kernel_rfl
theorem rfold_ok (b:Bse) (hb:bseSz b) (l m:List Nt) (hl:setSz l) (he:(setE b l).1=0) (hm:m.Sublist l):Pure Tryz.prog 83 [.agg b.cs,ntS m] (.agg (foldT b m).cs):=by
  obtain ⟨h1,h2,h3,h4⟩:=setE_ok he
  obtain ⟨g1,g2⟩:=stns_small h1.1
  have hn:=(setE_nodup he).sublist (hm.map _)
  rw [foldT_ref b hn]
  exact rfold_spec b hb m ⟨Nat.lt_of_le_of_lt hm.length_le hl.1,fun a ha=>hl.2 a (hm.subset ha)⟩ h1 (Nat.le_trans hm.length_le h2) (fun a ha=>h3 a (hm.subset ha)) (h4.sublist (hm.map _)) hn (by omega) (fun s hs=>by have:=g2 s hs; omega)
theorem rFold_spec (b:Bse) (hb:bseSz b) (l:List Nt) (hl:setSz l):Pure Tryz.prog 22 [.agg b.cs,ntS l] (.tup [.agg (foldE b l).1.cs,n (foldE b l).2]):=by
  refine Pure.of_body Tryz.call22 Tryz.func22 k22 (Nat.le_of_ble_eq_true rfl) ?_
  unfold c22
  have h1:=rSet_spec b hb l hl
  by_cases ha:askedE b [l]=0
  · have hE:foldE b l=(foldT b l,0):=by unfold foldE; rw [if_neg (by omega)]
    rw [hE]
    rw [ha] at h1
    have h2:=rfold_ok b hb l l hl ((askedE_ok ha).2 l (by simp)) (List.Sublist.refl _)
    generalize foldT b l=r at h2
    ((refine Ay (And.intro @h1 @h2) ?_;repeat' constructor)<;>intros<;>refine hD_ ?_)
    all_goals try (exfalso; omega)
    exact Frz.tupL ⟨Frz.pure (rgr_pa r),Frz.pure (by simp),trivial⟩
  · have hE:foldE b l=(rgr0,askedE b [l]):=by unfold foldE; rw [if_pos ha]
    rw [hE]
    generalize askedE b [l]=e at h1 ha
    ((refine Ay @h1 ?_;repeat' constructor)<;>intros<;>refine hD_ ?_)
    all_goals try (exfalso; omega)
    exact Frz.tupL ⟨Frz.aggL ⟨Frz.nil0,Frz.nil0,Frz.nil0,Frz.nil0,trivial⟩,Frz.pure (by simp),trivial⟩
theorem rAsOf_spec (b:Bse) (hb:bseSz b) (l:List Nt) (hl:setSz l) (day clock:Int):Pure Tryz.prog 24 [.agg b.cs,ntS l,n day,n clock] (.tup [.agg (asofE b l day clock).1.cs,n (asofE b l day clock).2]):=by
  refine Pure.of_body Tryz.call24 Tryz.func24 k24 (Nat.le_of_ble_eq_true rfl) ?_
  unfold c24
  have h1:=rSet_spec b hb l hl
  by_cases ha:askedE b [l]=0
  · have hok:=(askedE_ok ha).2 l (by simp)
    have h400:=(setE_ok hok).2.1
    obtain ⟨q,hq⟩:∃ q:Nt→Bool,q=fun a=>decide (a.day≤day∧a.clock≤clock):=⟨_,rfl⟩
    have hE:asofE b l day clock=(foldT b (l.filter q),0):=by unfold asofE; rw [if_neg (by omega),hq]
    rw [hE]
    rw [ha] at h1
    have h2:=rfold_ok b hb l (l.filter q) hl hok List.filter_sublist
    have hsl:∀ k,((l.take k).filter q).length≤l.length:=fun k=>Nat.le_trans (List.length_filter_le _ _) (by rw [List.length_take]; omega)
    have hfl:(l.filter q).length≤l.length:=List.length_filter_le _ _
    generalize foldT b (l.filter q)=r at h2
    ((refine Ay @h1 ?_;repeat' constructor)<;>intros<;>refine hD_ ?_)
    all_goals try (exfalso; omega)
    refine AWPC.own0 68 38 11 rfl ?_
    refine AWPC.loopE (α:={ i:Nat // i≤l.length }) [11,12] (fun i=>[(11,.own 1 0 ((l.take i.1).filter q).length),(12,n i.1)]) (fun i=>[some [⟨37,4,[rgZ],none⟩],some [⟨68,38,((l.take i.1).filter q).map Nt.cs,none⟩]]) (fun i=>l.length - i.1) ⟨0,Nat.zero_le _⟩ ?_ rfl ?_
    · (simp only [zN,zT,zV,zS,zU,Q0,Q1,ex,Q2,Q3,Q4,Q5,Q6,Q7,Q8,Q9,QA,QB,QC,Nat.reduceBEq,W0,W1,W2,W3,W4,W5,reduceIte]; try simp)
    · rintro ⟨i,hi⟩
      simp only at hi ⊢
      by_cases hlt:i < l.length
      · have hr:(l.map Nt.cs).getD i []=Nt.cs (l.getD i nt0):=row nt0 hlt
        have hnx:=filter_next (q:=q) (getD_lt nt0 hlt)
        have hk:=hsl i
        have hqx:q (l.getD i nt0)=(decide ((l.getD i nt0).day≤day) && decide ((l.getD i nt0).clock≤clock)):=by rw [hq]; simp
        generalize (l.take i).filter q=W at hnx hk
        generalize l.getD i nt0=x at hr hnx hqx
        rw [hqx] at hnx
        clear hqx hq h1 h2
        by_cases c1:x.day≤day
        · by_cases c2:x.clock≤clock
          · rw [decide_eq_true c1,decide_eq_true c2,Bool.and_self,if_pos rfl] at hnx
            ((refine Ax (And.intro @hr (And.intro @c1 @c2)) ?_;repeat' constructor)<;>intros<;>refine hD_ ?_)
            all_goals try (exfalso; omega)
            all_goals exact ⟨⟨i+1,hlt⟩,⟨by simp [hnx],by simp⟩,by simp [hnx],by simp only; omega⟩
          · rw [decide_eq_false c2,Bool.and_false,if_neg (by decide)] at hnx
            ((refine Ax (And.intro @hr (And.intro @c1 @c2)) ?_;repeat' constructor)<;>intros<;>refine hD_ ?_)
            all_goals try (exfalso; omega)
            all_goals exact ⟨⟨i+1,hlt⟩,⟨by simp [hnx],by simp⟩,by simp [hnx],by simp only; omega⟩
        · rw [decide_eq_false c1,Bool.false_and,if_neg (by decide)] at hnx
          ((refine Ax (And.intro @hr @c1) ?_;repeat' constructor)<;>intros<;>refine hD_ ?_)
          all_goals try (exfalso; omega)
          all_goals exact ⟨⟨i+1,hlt⟩,⟨by simp [hnx],by simp⟩,by simp [hnx],by simp only; omega⟩
      · obtain rfl:i=l.length:=by omega
        rw [List.take_length]
        refine AWPC.freeze1 (f:=1) (t:=11) (o:=⟨68,38,(l.filter q).map Nt.cs,none⟩) rfl rfl (by simp) (show (38:Nat)≠0 by decide) ?_
        refine AWPC.sto (σ':=[some [⟨37,4,[rgZ],none⟩],none]) rfl ?_
        ((refine Ay @h2 ?_;repeat' constructor)<;>intros<;>refine hD_ ?_)
        all_goals try (exfalso; omega)
        exact Frz.tupL ⟨Frz.pure (rgr_pa r),Frz.pure (by simp),trivial⟩
  · have hE:asofE b l day clock=(rgr0,askedE b [l]):=by unfold asofE; rw [if_pos ha]
    rw [hE]
    generalize askedE b [l]=e at h1 ha
    ((refine Ay @h1 ?_;repeat' constructor)<;>intros<;>refine hD_ ?_)
    all_goals try (exfalso; omega)
    exact Frz.tupL ⟨Frz.aggL ⟨Frz.nil0,Frz.nil0,Frz.nil0,Frz.nil0,trivial⟩,Frz.pure (by simp),trivial⟩
theorem rChain_spec (b:Bse) (hb:bseSz b) (l:List Nt) (hl:setSz l) (m:Nm):Pure Tryz.prog 26 [.agg b.cs,ntS l,.agg m.cs] (.tup [nmS (chainE b l m).1,n (chainE b l m).2]):=by
  refine Pure.of_body Tryz.call26 Tryz.func26 k26 (Nat.le_of_ble_eq_true rfl) ?_
  unfold c26
  have h1:=rSet_spec b hb l hl
  by_cases ha:askedE b [l]=0
  · rw [ha] at h1
    have hok:=(askedE_ok ha).2 l (by simp)
    have h400:=(setE_ok hok).2.1
    have hn:=setE_nodup hok
    have hf:=rfind_spec l (by omega) m
    have hget:kget (byName l) m=(findR l m).map fun i=>l.getD i nt0:=by rw [byName_get hn,find_fq hn]
    cases hz:findR l m with
    | none =>
      rw [hz] at hf hget
      have hE:chainE b l m=([],3):=by unfold chainE; rw [if_neg (by omega),hget]; rfl
      rw [hE]
      obtain ⟨w,hw⟩:∃ w:Int,w=plc none:=⟨_,rfl⟩
      rw [← hw] at hf
      have hw:w=-1:=hw
      have hw0:decide (w < 0)=true:=by rw [hw]; rfl
      have hrw:((l.map Nt.cs).getD w.toNat []=[])∨∃ y:Nt,(l.map Nt.cs).getD w.toNat []=y.cs:=by
        rw [hw]
        cases l with
        | nil=>exact .inl rfl
        | cons y r=>exact .inr ⟨y,rfl⟩
      rcases hrw with hry | ⟨y,hry⟩
      all_goals
        (repeat' ((first
 | refine vn rfl ?_
 | simp (disch:=omega) only [wr64,Int.zero_sub]
 | refine bo (fun _=>?_) fun _=>?_
 | refine im fun _=>?_
 | ((repeat refine si ?_); (first | ((first | refine .inl ⟨_,_,_,_,rfl,fun _=>pu (by first | exact h1 | exact hf),?_⟩ | refine ⟨_,_,_,_,rfl,fun _=>pu (by first | exact h1 | exact hf),?_⟩); (first | refine o1 ?_ | refine o2 ?_ | refine o3 ?_ | refine o4 ?_)) | refine .inl ⟨_,_,_,_,rfl,pu (by first | exact h1 | exact hf),?_⟩))
 | refine cF ?_
 | refine om ?_
 | refine an ?_
 | fail) <;> try simp only [zN, zT, zV, zS, zU, vcC, lateX, ex, strp, binA, elems, cells, scalar, eqC, keyA, intsA, lookA, ofVs, mpOf, Nat.reduceBEq, reduceAdd, reduceSub, reduceLT, reduceLeDiff, reduceMul, reduceEqDiff, reduceIte, hry, hw0, Bool.true_or, List.getElem?_nil]))
        all_goals try (exfalso; omega)
        all_goals exact Frz.tupL ⟨Frz.nil0,Frz.pure (by simp),trivial⟩
    | some i =>
      rw [hz] at hf hget
      simp only [plc] at hf
      have hil:=(findR_some hz).1
      have hry:(l.map Nt.cs).getD i []=Nt.cs (l.getD i nt0):=row nt0 hil
      rw [Option.map_some] at hget
      generalize l.getD i nt0=a at hry hget
      by_cases hk:a.kind=1∨a.kind=2∨a.kind=3
      · obtain ⟨k,hkk⟩:∃ k:Int,k=if a.kind=1 then 5 else 6:=⟨_,rfl⟩
        obtain ⟨q,hq⟩:∃ q:Nt→Bool,q=fun a=>(a.ref == m) && kd k a:=⟨_,rfl⟩
        have hE:chainE b l m=(((standT l).filter q).map Nt.nm,0):=by
          unfold chainE
          simp only [hget,Option.getD_some]
          rw [if_neg (by omega),if_pos hk,← hkk,standK_one,List.filter_filter,hq]
        rw [hE]
        have hst:=rStanding_spec l (by omega) hn
        have hSl:=standT_len l
        generalize standT l=S at hst hSl
        have hsl:∀ j,((S.take j).filter q).length≤S.length:=fun j=>Nat.le_trans (List.length_filter_le _ _) (by rw [List.length_take]; omega)
        have hsw:(a.kind=1∧k=5)∨(a.kind=2∧k=6)∨(a.kind=3∧k=6):=by
          rcases hk with h | h | h
          · rw [if_pos h] at hkk; exact .inl ⟨h,hkk⟩
          · rw [if_neg (by omega)] at hkk; exact .inr (.inl ⟨h,hkk⟩)
          · rw [if_neg (by omega)] at hkk; exact .inr (.inr ⟨h,hkk⟩)
        clear hkk hk hget hz
        have hqk:∀ x:Nt,q x=(decide (x.ref.clerk=m.clerk∧x.ref.num=m.num) && decide (x.kind=k)):=fun x=>by rw [hq]; simp only [ref_iff]; rfl
        clear hq hE
        obtain ⟨kk,hkk⟩:∃ kk:Int,kk=k:=⟨_,rfl⟩
        rw [← hkk] at hqk
        rcases hsw with ⟨hk,rfl⟩ | ⟨hk,rfl⟩ | ⟨hk,rfl⟩
        all_goals (
          ((refine Az (And.intro @hry @hk) (And.intro @h1 (And.intro @hf @hst)) ?_;repeat' constructor)<;>intros<;>refine hD_ ?_)
          all_goals try (exfalso; omega)
          clear h1 hf hst hry
          refine AWPC.own0 29 2 12 rfl ?_
          refine AWPC.loopE (α:={ j:Nat // j≤S.length }) [12,13] (fun j=>[(12,.own 0 0 ((S.take j.1).filter q).length),(13,n j.1)]) (fun j=>[some [⟨29,2,((S.take j.1).filter q).map (fun a=>Nm.cs a.nm),none⟩]]) (fun j=>S.length - j.1) ⟨0,Nat.zero_le _⟩ ?_ rfl ?_
          · (simp only [zN,zT,zV,zS,zU,Q0,Q1,ex,Q2,Q3,Q4,Q5,Q6,Q7,Q8,Q9,QA,QB,QC,Nat.reduceBEq,W0,W1,W2,W3,W4,W5,reduceIte]; try simp)
          · rintro ⟨j,hj⟩
            simp only at hj ⊢
            by_cases hlt:j < S.length
            · have hr:(S.map Nt.cs).getD j []=Nt.cs (S.getD j nt0):=row nt0 hlt
              have hnx:=filter_next (q:=q) (getD_lt nt0 hlt)
              have hk:=hsl j
              have hc:=rName_spec (S.getD j nt0)
              generalize hM:((S.take j).filter q)=W at hnx hk
              generalize S.getD j nt0=x at hr hnx hc
              rw [hqk] at hnx
              clear hqk hM
              rw [Bool.and_comm] at hnx
              by_cases c1:x.kind=kk
              · rw [decide_eq_true c1,Bool.true_and] at hnx
                rw [hkk] at c1
                by_cases c2:x.ref.clerk=m.clerk∧x.ref.num=m.num
                · rw [decide_eq_true c2,if_pos rfl] at hnx
                  ((refine Az (And.intro @hr (And.intro @c1 @c2)) @hc ?_;repeat' constructor)<;>intros<;>refine hD_ ?_)
                  all_goals try (exfalso; omega)
                  all_goals exact ⟨⟨j+1,hlt⟩,⟨by simp [hnx],by simp⟩,by simp [hnx],by simp only; omega⟩
                · rw [decide_eq_false c2,if_neg (by decide)] at hnx
                  ((refine Az (And.intro @hr (And.intro @c1 @c2)) @hc ?_;repeat' constructor)<;>intros<;>refine hD_ ?_)
                  all_goals try (exfalso; omega)
                  all_goals exact ⟨⟨j+1,hlt⟩,⟨by simp [hnx],by simp⟩,by simp [hnx],by simp only; omega⟩
              · rw [decide_eq_false c1,Bool.false_and,if_neg (by decide)] at hnx
                rw [hkk] at c1
                ((refine Az (And.intro @hr @c1) @hc ?_;repeat' constructor)<;>intros<;>refine hD_ ?_)
                all_goals try (exfalso; omega)
                all_goals exact ⟨⟨j+1,hlt⟩,⟨by simp [hnx],by simp⟩,by simp [hnx],by simp only; omega⟩
            · obtain rfl:j=S.length:=by omega
              rw [List.take_length]
              ((refine Au ?_;repeat' constructor)<;>intros<;>refine hD_ ?_)
              all_goals try (exfalso; omega)
              all_goals exact Frz.tupL ⟨by rw [nmS,List.map_map]; exact Frz.ownL (T:=29) (cs:=fun a:Nt=>Nm.cs a.nm) rfl rfl (by decide) (fun a c hc=>by simp at hc; rcases hc with rfl | rfl <;> simp) (fun a=>rfl),Frz.pure (by simp),trivial⟩)
      · have hE:chainE b l m=([],3):=by unfold chainE; simp only [hget,Option.getD_some]; rw [if_neg (by omega),if_neg hk]
        rw [hE]
        have hk1:¬ a.kind=1:=fun h=>hk (.inl h)
        have hk2:¬ a.kind=2:=fun h=>hk (.inr (.inl h))
        have hk3:¬ a.kind=3:=fun h=>hk (.inr (.inr h))
        ((refine Az (And.intro @hry (And.intro @hk1 (And.intro @hk2 @hk3))) (And.intro @h1 @hf) ?_;repeat' constructor)<;>intros<;>refine hD_ ?_)
        all_goals try (exfalso; omega)
        all_goals exact Frz.tupL ⟨Frz.nil0,Frz.pure (by simp),trivial⟩
  · have hE:chainE b l m=([],askedE b [l]):=by unfold chainE; rw [if_pos ha]
    rw [hE]
    generalize askedE b [l]=e at h1 ha
    ((refine Ay @h1 ?_;repeat' constructor)<;>intros<;>refine hD_ ?_)
    all_goals try (exfalso; omega)
    all_goals exact Frz.tupL ⟨Frz.nil0,Frz.pure (by simp),trivial⟩
end Go.Proofs.YtolgelipcgcbhaaGreat
namespace Go.Proofs.YtolgelipcgcbhaaGreat
open Go.Abs
open Nat (reduceAdd reduceSub reduceLT reduceLeDiff reduceMul reduceEqDiff)
set_option linter.unusedVariables false
set_option linter.unusedSimpArgs false
set_option maxHeartbeats 4000000
set_option maxRecDepth 100000
theorem foldSz {b:Bse} {l:List Nt} (hl:setSz l) (ok:(setE b l).1=0):rgrSz (foldT b l):=by
  have hn:=setE_nodup ok
  have hl4:=setE_len ok
  have hS:=standT_len l
  have hSm:∀ a∈standT l,a∈l:=fun a ha=>(mem_standT.1 ha).1
  rw [foldT_ref b hn]
  refine ⟨⟨?_,fun f hf=>?_⟩,?_,?_,?_⟩
  · show (shsR (standT l) (standT l)).length < _
    rw [shsR_ent,List.length_map]
    have h1:=(entN_sub (standT l) (standT l)).length_le
    have h2:=List.length_filter_le (kd 1) (standT l)
    omega
  · have hf':f∈(entN (standT l) (standT l)).map (fld (standT l)):=by rw [← shsR_ent]; exact hf
    obtain ⟨a,ha,rfl⟩:=List.mem_map.1 hf'
    have h1:=mks_len (standT_nodup hn) a.nm
    refine ⟨hl.2 a (hSm a (entN_mem ha).1),?_,?_⟩
    · show (List.map _ _).length < _
      rw [List.length_map]; omega
    · show (List.map _ _).length < _
      rw [List.length_map]; omega
  · show (List.map _ _).length < _
    rw [List.length_map]
    have h2:=List.length_filter_le (kd 3) (standT l)
    omega
  · have h1:=(SameS.stsR (setE_ok ok).1.1 (standT l)).ok
    obtain ⟨g1,g2⟩:=stns_small h1
    exact ⟨by show (stsR b.stns (standT l)).length < _; omega,fun s hs=>by have:=g2 s hs; omega⟩
  · show (List.map _ _).length < _
    rw [List.length_map]
    have h2:=List.length_filter_le (badR b l) l
    omega
theorem rgr0Sz:rgrSz rgr0:=⟨⟨by decide,fun f h=>by cases h⟩,by decide,⟨by decide,fun f h=>by cases h⟩,by decide⟩
theorem foldESz {b:Bse} {l:List Nt} (hl:setSz l):rgrSz (foldE b l).1:=by
  unfold foldE
  by_cases h:askedE b [l]≠0
  · rw [if_pos h]; exact rgr0Sz
  · rw [if_neg h]; exact foldSz hl (askedE_one.1 (by omega))
theorem setSz.sub {l m:List Nt} (hl:setSz l) (hm:m.Sublist l):setSz m:=⟨Nat.lt_of_le_of_lt hm.length_le hl.1,fun a ha=>hl.2 a (hm.subset ha)⟩
def c3:CF:=⟨107,(jo [jx 5 26 6 0,jx 9 29 2 4,jb 10 false] [1,2,3,5,9]
 (jo [jy 24 18 [],jm 11 24] [1,2,3,5,9,11]
 (.seq (jo [jk 25 6 5,jy 26 19 [25],jv 27 26,jm 28 27,jd 28 (jm 29 1),jd 28 (jy 30 20 [29]),jd 28 (jv 31 30),jq 32 28 31] [1,2,3,5,9,11,32]
 (.cond (.t 32) (jo [jm 33 11,jm 10 33] [10]
 .ret)
 .skip))
 (jo [jk 35 6 5,jm 36 1,jy 37 21 [35,36],jm 34 37,jz 38 0 34,jz 39 1 34,jw 12 (.alloc 37 4 [.slice none 0 0,.slice none 0 0,.slice none 0 0,.slice none 0 0]),js 4 12 38,jm 13 39] [1,2,3,5,9,11,12,13]
 (jo [jk 41 6 5,jm 42 1,jy 43 22 [41,42],jm 40 43,jz 44 0 40,jz 45 1 40,jw 14 (.alloc 37 4 [.slice none 0 0,.slice none 0 0,.slice none 0 0,.slice none 0 0]),js 4 14 44,jm 15 45] [1,2,3,5,9,11,12,13,14,15]
 (jo [jk 47 6 5,jm 48 1,jm 49 2,jm 50 3,jy 51 23 [47,48,49,50],jm 46 51,jz 52 0 46,jz 53 1 46,jw 16 (.alloc 37 4 [.slice none 0 0,.slice none 0 0,.slice none 0 0,.slice none 0 0]),js 4 16 52,jm 17 53] [1,2,3,5,9,11,12,13,14,15,16,17]
 (jo [jk 55 6 5,jm 56 1,jm 57 2,jm 58 3,jy 59 24 [55,56,57,58],jm 54 59,jz 60 0 54,jz 61 1 54,jw 18 (.alloc 37 4 [.slice none 0 0,.slice none 0 0,.slice none 0 0,.slice none 0 0]),js 4 18 60,jm 19 61] [1,5,9,11,12,13,14,15,16,17,18,19]
 (jo [jk 63 6 5,jm 64 1,jk 65 2 9,jy 66 25 [63,64,65],jm 62 66,jz 67 0 62,jz 68 1 62,jm 20 67,jm 21 68] [1,5,9,11,12,13,14,15,16,17,18,19,20,21]
 (jo [jk 70 6 5,jm 71 1,jk 72 2 9,jy 73 26 [70,71,72],jm 69 73,jz 74 0 69,jz 75 1 69,jm 22 74,jm 23 75] [11,12,13,14,15,16,17,18,19,20,21,22,23]
 (jo [jm 76 11,jm 77 76,ja 77 (jk 78 4 12),ja 77 (jk 79 4 14),ja 77 (jy 80 27 [78,79]),jp 81 77 80,jm 82 81,ja 82 (jm 83 13),ja 82 (jm 84 15),ja 82 (jt .eql 85 83 84),jp 86 82 85,jm 87 86,ja 87 (jk 88 4 16),ja 87 (jk 89 4 18),ja 87 (jy 90 27 [88,89]),jp 91 87 90,jm 92 91,ja 92 (jm 93 17),ja 92 (jm 94 19),ja 92 (jt .eql 95 93 94),jp 96 92 95,jm 97 96,ja 97 (jm 98 20),ja 97 (jm 99 22),ja 97 (jy 100 28 [98,99]),jp 101 97 100,jm 102 101,ja 102 (jm 103 21),ja 102 (jm 104 23),ja 102 (jt .eql 105 103 104),jp 106 102 105,jm 10 106] [10]
 .ret)))))))))),[.t 10]⟩
theorem k3:chkF Tryz.prog Tryz.f3 c3=true:=by kernel_rfl
theorem asofESz {b:Bse} {l:List Nt} (hl:setSz l) (day clock:Int):rgrSz (asofE b l day clock).1:=by
  unfold asofE
  by_cases h:askedE b [l]≠0
  · rw [if_pos h]; exact rgr0Sz
  · rw [if_neg h]; exact foldSz (hl.sub List.filter_sublist) (setE_sub (askedE_one.1 (by omega)) List.filter_sublist)
theorem chain_len (b:Bse) {l:List Nt} (hl:l.length < 9223372036854775808) (m:Nm):(chainE b l m).1.length < 9223372036854775808:=by
  unfold chainE
  split
  · show (0:Nat) < 9223372036854775808; decide
  · dsimp only
    split
    · rw [List.length_map]; exact Nat.lt_of_le_of_lt (Nat.le_trans (List.length_filter_le _ _) (standK_len l _)) hl
    · show (0:Nat) < 9223372036854775808; decide
theorem Folds_law (b:Bse) (l:List Nt) (day clock:Int) (m:Nm) (hb:bseSz b) (hl:setSz l):Pure Tryz.prog 3 [.agg b.cs,ntS l,n day,n clock,.agg m.cs] (bl true):=by
  refine Pure.of_body Tryz.call3 Tryz.func3 k3 (Nat.le_of_ble_eq_true rfl) ?_
  unfold c3
  have s1:=small_spec b hb
  have s2:=few_spec l hl.1
  have a1:=Fold_spec b hb l hl
  have a2:=rFold_spec b hb l hl
  have a3:=AsOf_spec b hb l hl day clock
  have a4:=rAsOf_spec b hb l hl day clock
  have a5:=Chain_spec b hb l hl m
  have a6:=rChain_spec b hb l hl m
  have e1:=sameRgr (foldE b l).1 (foldE b l).1 (foldESz hl) (foldESz hl)
  have e2:=sameRgr (asofE b l day clock).1 (asofE b l day clock).1 (asofESz hl day clock) (asofESz hl day clock)
  have e3:=sameNm (chainE b l m).1 (chainE b l m).1 (chain_len b hl.1 m) (chain_len b hl.1 m)
  rw [decide_eq_true rfl] at e1 e2 e3
  generalize smallB b=c1 at s1
  generalize fewB l=c2 at s2
  generalize (foldE b l).1=t1 at a1 a2 e1
  generalize (foldE b l).2=t2 at a1 a2
  generalize (asofE b l day clock).1=t3 at a3 a4 e2
  generalize (asofE b l day clock).2=t4 at a3 a4
  generalize (chainE b l m).1=t5 at a5 a6 e3
  generalize (chainE b l m).2=t6 at a5 a6
  clear hb hl
  cases c1
  · ((refine Ay (And.intro @awake_spec (And.intro @s1 @s2)) ?_;repeat' constructor)<;>intros<;>refine hD_ ?_)
    all_goals first | (exfalso; omega) | exact Frz.eq rfl (by simp)
  cases c2
  · ((refine Ay (And.intro @awake_spec (And.intro @s1 @s2)) ?_;repeat' constructor)<;>intros<;>refine hD_ ?_)
    all_goals first | (exfalso; omega) | exact Frz.eq rfl (by simp)
  ((refine Ay (And.intro @awake_spec (And.intro @s1 (And.intro @s2 (And.intro @a1 (And.intro @a2 (And.intro @a3 (And.intro @a4 (And.intro @a5 (And.intro @a6 (And.intro @e1 (And.intro @e2 @e3))))))))))) ?_;repeat' constructor)<;>intros<;>refine hD_ ?_)
  all_goals try (exfalso; omega)
  all_goals exact Frz.eq rfl (by simp)
end Go.Proofs.YtolgelipcgcbhaaGreat
namespace Go.Abs
open Go
set_option linter.unusedVariables false
set_option linter.unusedSimpArgs false
structure Opens (P:Program) (t:TypeId) (α:Type) (row:α→List AV) (Pr:α→Prop):Prop where
  go:∀ {H:Type} (enc:TypeId × Value→H) (w:World) (base:Nat) (sp:Nat→Bool) (held:Bool) (fuel:Nat) (cs:List Value) (x:DataW H × List MemPlace),
    DataW.trod enc P w base sp held fuel t cs=some x →
    ∃ a:α,Pr a∧cs.length=(row a).length∧∀ i,i < cs.length→(cs.getD i undef).oneCell'=true∧RV w (fun _=>False) nob [] ((row a).getD i .any) (cs.getD i undef)
variable {P:Program}
theorem Opens.to {t:TypeId} {α β:Type} {row:α→List AV} {row':β→List AV} {Pr:α→Prop} {Pr':β→Prop} (h:Opens P t α row Pr) (f:α→β) (hr:∀ a,row' (f a)=row a) (hp:∀ a,Pr a→Pr' (f a)):Opens P t β row' Pr' :=
  ⟨fun enc w base sp held fuel cs x hx =>
    let ⟨a,h1,h2,h3⟩:=h.go enc w base sp held fuel cs x hx
    ⟨f a,hp a h1,by rw [hr]; exact h2,fun i hi=>by rw [hr]; exact h3 i hi⟩⟩
theorem opens_int {t:TypeId} {k:IntKind} (ht:P.underlying t=some (.int k)):Opens P t Int (fun z=>[.v (.int k z)]) (fun z=>(Lit.int k z).wf=true):=by
  constructor
  intro H enc w base sp held fuel cs x hx
  cases fuel with
  | zero=>simp [DataW.trod] at hx
  | succ m =>
    unfold DataW.trod at hx
    rw [ht] at hx
    split at hx <;> try (simp_all; done)
    rename_i k0 k' z heq
    simp only [Option.some.injEq,TypeDesc.int.injEq] at heq
    split at hx
    · rename_i hk
      obtain ⟨rfl,hw⟩:=hk
      subst heq
      refine ⟨z,hw,rfl,fun i hi=>?_⟩
      obtain rfl:i=0:=by simpa using hi
      exact ⟨rfl,.v _⟩
    · cases hx
theorem opens_slice {t e:TypeId} {k:Nat} {α:Type} {row:α→List AV} {Pr:α→Prop} (ht:P.underlying t=some (.slice e)) (hk:P.cellsOf e=k) (hk0:k≠0) (h:Opens P e α row Pr) (hl:∀ a,(row a).length=k) :
    Opens P t (List α) (fun l=>[.sl k (l.map row)]) (fun l=>l.length < 9223372036854775808∧∀ a∈l,Pr a):=by
  constructor
  intro H enc w base sp held fuel cs x hx
  rcases DataW.trod_slice ht hx with ⟨rfl,_⟩ | ⟨a,len,cap,elems,rest,m,rfl,rfl,rfl,hb,hlc,hcap,hlen,hel,hsp,hns⟩
  · refine ⟨[],⟨by simp,fun a ha=>absurd ha (List.not_mem_nil)⟩,rfl,fun i hi=>?_⟩
    obtain rfl:i=0:=by simpa using hi
    exact ⟨rfl,.slnil k⟩
  · have hlen2:len < 9223372036854775808:=by unfold maxLen at hcap; omega
    have each:∀ i,i < len→∃ (b:α) (c1:List Value),Pr b∧c1.length=k∧w.cells? base (a.add (i * k)) k=some c1∧∀ j,j < k→(c1.getD j undef).oneCell'=true∧RV w (fun _=>False) nob [] ((row b).getD j .any) (c1.getD j undef):=by
      intro i hi
      have h1:=hel i hi
      rw [hk,List.getElem?_eq_getElem (by omega)] at h1
      simp only [Option.bind_eq_some_iff] at h1
      obtain ⟨c1,hc1,hy⟩:=h1
      obtain ⟨b,hp,hlb,hr⟩:=h.go enc w base sp held m c1 _ hy
      have hl1:=(World.cells?_some hc1).2.1
      exact ⟨b,c1,hp,hl1,hc1,fun j hj=>hr j (by omega)⟩
    by_cases h0:len=0
    · subst h0
      refine ⟨[],⟨by simp,fun a ha=>absurd ha (List.not_mem_nil)⟩,rfl,fun i hi=>?_⟩
      obtain rfl:i=0:=by simpa using hi
      exact ⟨rfl,.slemp k a cap⟩
    ·
      have hspot:a.spot=none:=by
        obtain ⟨b,c1,_,hl1,hc1,_⟩:=each 0 (by omega)
        have h2:=(World.cells?_some hc1).2.2 0 (by omega)
        rw [List.getElem?_eq_getElem (by omega)] at h2
        have e:(a.add (0 * k)).add 0=a:=by simp [Addr.add]
        rw [e] at h2
        unfold World.cell? at h2
        split at h2
        · split at h2
          · cases h2
          · rename_i hs; simpa using hs
        · cases h2
      obtain ⟨bl,off,spot⟩:=a
      simp only at hspot
      subst hspot
      have hadd:∀ i j,((⟨bl,off,none⟩:Addr).add (i * k)).add j=⟨bl,off+i * k+j,none⟩:=by
        intro i j
        simp only [Addr.add]
        split <;> split <;> simp_all <;> omega
      let B:Nat→α:=fun i=>if hi:i < len then Classical.choose (each i hi) else Classical.choose (each 0 (by omega))
      have hB:∀ i,i < len→∃ c1:List Value,Pr (B i)∧c1.length=k∧w.cells? base ((⟨bl,off,none⟩:Addr).add (i * k)) k=some c1∧∀ j,j < k→(c1.getD j undef).oneCell'=true∧RV w (fun _=>False) nob [] ((row (B i)).getD j .any) (c1.getD j undef):=by
        intro i hi
        have:=Classical.choose_spec (each i hi)
        simp only [B,hi,dif_pos]
        exact this
      have hcell:∀ i j,i < len→j < k→w.cell? ⟨bl,off+i * k+j,none⟩=some ((w.cell? ⟨bl,off+i * k+j,none⟩).getD undef)∧((w.cell? ⟨bl,off+i * k+j,none⟩).getD undef).oneCell'=true ∧
          RV w (fun _=>False) nob [] ((row (B i)).getD j .any) ((w.cell? ⟨bl,off+i * k+j,none⟩).getD undef):=by
        intro i j hi hj
        obtain ⟨c1,_,hl1,hc1,hr⟩:=hB i hi
        have h2:=(World.cells?_some hc1).2.2 j hj
        rw [hadd,List.getElem?_eq_getElem (by omega)] at h2
        rw [h2]
        have h3:=hr j hj
        rw [List.getD_eq_getElem?_getD,List.getElem?_eq_getElem (show j < c1.length by omega)] at h3
        exact ⟨rfl,h3⟩
      refine ⟨(List.range len).map B,⟨by simpa using hlen2,fun b hb=>?_⟩,rfl,fun i hi=>?_⟩
      · obtain ⟨i,hi,rfl⟩:=List.mem_map.1 hb
        obtain ⟨c1,hp,_⟩:=hB i (List.mem_range.1 hi)
        exact hp
      · obtain rfl:i=0:=by simpa using hi
        refine ⟨rfl,?_⟩
        have hget:∀ e,e < len→(((List.range len).map B).map row).getD e []=row (B e):=fun e he=>by simp [List.getD_eq_getElem?_getD,he]
        have hlm:(((List.range len).map B).map row).length=len:=by simp
        have:=RV.sl (w:=w) (X:=fun _=>False) (β:=nob) (σ:=[]) k (((List.range len).map B).map row) bl off cap (fun i j=>(w.cell? ⟨bl,off+i * k+j,none⟩).getD undef) (by rw [hlm]; exact hlc)
          (fun e he=>by rw [hlm] at he; rw [hget e he]; exact hl _) (fun e he j hj=>by rw [hlm] at he; exact (hcell e j he hj).1) (fun e j he hj hx=>hx)
          (fun e j he hj=>by rw [hlm] at he; exact (hcell e j he hj).2.1) (fun e j he hj=>by rw [hlm] at he; rw [hget e he]; exact (hcell e j he hj).2.2)
        rw [hlm] at this
        exact this
structure OpensF (P:Program) (fs:List Field) (off:Nat) (α:Type) (row:α→List AV) (Pr:α→Prop):Prop where
  go:∀ {H:Type} (enc:TypeId × Value→H) (w:World) (base:Nat) (sp:Nat→Bool) (held:Bool) (fuel:Nat) (cs:List Value) (xs:List (DataW H × List MemPlace)),
    (fs.mapM fun f=>DataW.trod enc P w base sp held fuel f.type ((cs.drop f.offset).take (P.cellsOf f.type)))=some xs →
    ∃ a:α,Pr a∧∀ i,i < (row a).length→off+i < cs.length∧(cs.getD (off+i) undef).oneCell'=true∧RV w (fun _=>False) nob [] ((row a).getD i .any) (cs.getD (off+i) undef)
theorem opensF_nil (off:Nat):OpensF P [] off Unit (fun _=>[]) (fun _=>True) :=
  ⟨fun enc w base sp held fuel cs xs _=>⟨(),trivial,fun i hi=>absurd hi (Nat.not_lt_zero _)⟩⟩
theorem opensF_cons {f:Field} {fs:List Field} {off k:Nat} {α β:Type} {row:α→List AV} {rows:β→List AV} {Pr:α→Prop} {Prs:β→Prop} (ho:f.offset=off) (hk:P.cellsOf f.type=k) (h:Opens P f.type α row Pr)
    (hl:∀ a,(row a).length=k) (hs:OpensF P fs (off+k) β rows Prs):OpensF P (f::fs) off (α × β) (fun p=>row p.1++rows p.2) (fun p=>Pr p.1∧Prs p.2):=by
  constructor
  intro H enc w base sp held fuel cs xs hx
  rw [List.mapM_cons] at hx
  simp only [Option.bind_eq_bind,Option.bind_eq_some_iff] at hx
  obtain ⟨y,hy,ys,hys,_⟩:=hx
  rw [ho,hk] at hy
  obtain ⟨a,hp,hla,hr⟩:=h.go enc w base sp held fuel _ _ hy
  obtain ⟨b,hq,hr'⟩:=hs.go enc w base sp held fuel cs ys hys
  rw [hl] at hla
  have hlen:off+k≤cs.length∨k=0:=by simp at hla; omega
  refine ⟨(a,b),⟨hp,hq⟩,fun i hi=>?_⟩
  by_cases h1:i < k
  · have hi':i < ((cs.drop off).take k).length:=by omega
    obtain ⟨g1,g2⟩:=hr i hi'
    have e:((cs.drop off).take k).getD i undef=cs.getD (off+i) undef:=by
      simp only [List.getD_eq_getElem?_getD,List.getElem?_take,h1,if_true,List.getElem?_drop]
    rw [e] at g1 g2
    refine ⟨by omega,g1,?_⟩
    rw [getD_append,if_pos (by rw [hl]; exact h1)]
    exact g2
  · have:=hr' (i - k) (by simp [hl] at hi; omega)
    rw [show off+k+(i - k)=off+i by omega] at this
    refine ⟨this.1,this.2.1,?_⟩
    rw [getD_append,if_neg (by rw [hl]; omega),hl]
    exact this.2.2
theorem opens_struct {t:TypeId} {fs:Array Field} {k:Nat} {α:Type} {row:α→List AV} {Pr:α→Prop} (ht:P.underlying t=some (.struct fs)) (hk:P.cellsOf t=k) (hl:∀ a,(row a).length=k) (h:OpensF P fs.toList 0 α row Pr) :
    Opens P t α row Pr:=by
  constructor
  intro H enc w base sp held fuel cs x hx
  cases fuel with
  | zero=>simp [DataW.trod] at hx
  | succ m =>
    unfold DataW.trod at hx
    rw [ht] at hx
    have hx':(if cs.length=P.cellsOf t then (fs.toList.mapM fun f=>DataW.trod enc P w base sp held m f.type ((cs.drop f.offset).take (P.cellsOf f.type))).map (fun xs=>((DataW.agg (xs.map (·.1)),xs.flatMap (·.2)):DataW H × List MemPlace)) else none)=some x:=by
      split at hx <;> first | (simp at *; done) | skip
      all_goals (try (rename_i heq; cases heq))
      exact hx
    split at hx'
    case isFalse=>cases hx'
    rename_i hlen
    rw [Option.map_eq_some_iff] at hx'
    obtain ⟨xs,hxs,_⟩:=hx'
    obtain ⟨a,hp,hr⟩:=h.go enc w base sp held m cs xs hxs
    refine ⟨a,hp,by rw [hl,hlen,hk],fun i hi=>?_⟩
    have:=hr i (by rw [hl,← hk,← hlen]; exact hi)
    rw [Nat.zero_add] at this
    exact this.2
theorem Opens.one {t:TypeId} {α:Type} {av:α→AV} {Pr:α→Prop} (h:Opens P t α (fun a=>[av a]) Pr) {H:Type} {enc:TypeId × Value→H} {w:World} {base:Nat} {sp:Nat→Bool} {held:Bool} {v:Value} {d:DataW H} {ps:List MemPlace}
    (hv:v.oneCell'=true) (hx:DataW.Trod enc P w base sp held t v d ps):∃ a,Pr a∧RV w (fun _=>False) nob [] (av a) v:=by
  obtain ⟨fuel,hx⟩:=hx
  obtain ⟨a,hp,hl,hr⟩:=h.go enc w base sp held fuel _ _ hx
  have e:v.cells.toList=[v]:=by cases v <;> first | rfl | simp [Value.oneCell'] at hv
  rw [e] at hr
  exact ⟨a,hp,(hr 0 (by simp)).2⟩
theorem Opens.agg {t:TypeId} {α:Type} {row:α→List AV} {Pr:α→Prop} (h:Opens P t α row Pr) {H:Type} {enc:TypeId × Value→H} {w:World} {base:Nat} {sp:Nat→Bool} {held:Bool} {cs:Array Value} {d:DataW H} {ps:List MemPlace}
    (hx:DataW.Trod enc P w base sp held t (.agg cs) d ps):∃ a,Pr a∧RV w (fun _=>False) nob [] (.agg (row a)) (.agg cs):=by
  obtain ⟨fuel,hx⟩:=hx
  obtain ⟨a,hp,hl,hr⟩:=h.go enc w base sp held fuel _ _ hx
  have e:(Value.agg cs).cells.toList=cs.toList:=rfl
  rw [e] at hl hr
  refine ⟨a,hp,.agg _ _ (by simpa using hl) (fun i hi=>?_) fun i hi=>?_⟩
  · have:=(hr i (by rw [hl]; exact hi)).1
    simpa [List.getD_eq_getElem?_getD,Array.getD_eq_getD_getElem?] using this
  · have:=(hr i (by rw [hl]; exact hi)).2
    simpa [List.getD_eq_getElem?_getD,Array.getD_eq_getD_getElem?] using this
end Go.Abs
namespace Go.Proofs.YtolgelipcgcbhaaGreat
open Go.Abs
open Nat (reduceAdd reduceSub reduceLT reduceLeDiff reduceMul reduceEqDiff)
set_option linter.unusedVariables false
set_option linter.unusedSimpArgs false
set_option maxHeartbeats 4000000
set_option maxRecDepth 100000
open Go.ChangeShapes Go.WideShapes Go.ChangeAt Go.RowKit
theorem own:ownKnob Tryz.prog.godebug=none:=by kernel_rfl
theorem laidOut:laidOutB Tryz.prog=true:=by kernel_rfl
theorem mapsR:mapsRowed Tryz.prog=true:=by kernel_rfl
theorem stopsN:(Tryz.prog.stops == [])=true:=by kernel_rfl
theorem knobsN:(Tryz.prog.stopKnobs == [])=true:=by kernel_rfl
theorem plainK:(Rows.archiveOrderRow.plainKeys == Tryz.prog.plainKeys)=true:=by kernel_rfl
theorem heardS:Tryz.prog.stopsHeard=true:=by kernel_rfl
theorem entersM:Tryz.prog.mayEnter=true:=by kernel_rfl
theorem liftsF:(Rows.archiveOrderRow.lifted == Tryz.prog.liftsFinal)=true:=by kernel_rfl
theorem makeP:(Tryz.prog.make == some Rows.archiveOrderRow.make)=true:=by kernel_rfl
theorem bband {a b:Bool} (h:a=true) (h':b=true):(a && b)=true:=by rw [h,h']; rfl
theorem cells3:Tryz.prog.cellsOf 3=1:=by kernel_rfl
theorem cells48:Tryz.prog.cellsOf 48=2:=by kernel_rfl
theorem cells226:Tryz.prog.cellsOf 226=3:=by kernel_rfl
theorem cells164:Tryz.prog.cellsOf 164=3:=by kernel_rfl
theorem cells50:Tryz.prog.cellsOf 50=10:=by kernel_rfl
theorem cells51:Tryz.prog.cellsOf 51=1:=by kernel_rfl
theorem cells52:Tryz.prog.cellsOf 52=1:=by kernel_rfl
theorem cells53:Tryz.prog.cellsOf 53=1:=by kernel_rfl
theorem cells54:Tryz.prog.cellsOf 54=1:=by kernel_rfl
theorem cells56:Tryz.prog.cellsOf 56=2:=by kernel_rfl
theorem cells58:Tryz.prog.cellsOf 58=4:=by kernel_rfl
theorem cells60:Tryz.prog.cellsOf 60=18:=by kernel_rfl
theorem cells62:Tryz.prog.cellsOf 62=3:=by kernel_rfl
theorem cells64:Tryz.prog.cellsOf 64=5:=by kernel_rfl
theorem cells66:Tryz.prog.cellsOf 66=3:=by kernel_rfl
theorem cells29:Tryz.prog.cellsOf 29=2:=by kernel_rfl
theorem cells68:Tryz.prog.cellsOf 68=38:=by kernel_rfl
theorem cells107:Tryz.prog.cellsOf 107=1:=by kernel_rfl
theorem cells109:Tryz.prog.cellsOf 109=4:=by kernel_rfl
theorem cells22:Tryz.prog.cellsOf 22=1:=by kernel_rfl
theorem cells24:Tryz.prog.cellsOf 24=2:=by kernel_rfl
theorem cells26:Tryz.prog.cellsOf 26=6:=by kernel_rfl
theorem op3:Opens Tryz.prog 3 Int (fun z=>[n z]) (fun _=>True):=(opens_int Tryz.underlying3).to id (fun _=>rfl) (fun _ _=>trivial)
theorem op48:Opens Tryz.prog 48 Sp Sp.cs (fun _=>True) :=
  (opens_struct Tryz.underlying48 cells48 (fun _=>rfl) (opensF_cons rfl cells3 op3 (fun _=>rfl) (opensF_cons rfl cells3 op3 (fun _=>rfl) (opensF_nil _)))).to (fun a=>⟨a.1,a.2.1⟩) (fun _=>rfl) (fun _ _=>trivial)
theorem op226:Opens Tryz.prog 226 Mk Mk.cs (fun _=>True) :=
  (opens_struct Tryz.underlying226 cells226 (fun _=>rfl) (opensF_cons rfl cells3 op3 (fun _=>rfl) (opensF_cons rfl cells48 op48 (fun _=>rfl) (opensF_nil _)))).to (fun a=>⟨a.1,a.2.1⟩) (fun _=>rfl) (fun _ _=>trivial)
theorem op62:Opens Tryz.prog 62 Mk Mk.cs (fun _=>True) :=
  (opens_struct Tryz.underlying62 cells62 (fun _=>rfl) (opensF_cons rfl cells3 op3 (fun _=>rfl) (opensF_cons rfl cells48 op48 (fun _=>rfl) (opensF_nil _)))).to (fun a=>⟨a.1,a.2.1⟩) (fun _=>rfl) (fun _ _=>trivial)
theorem op164:Opens Tryz.prog 164 Pt Pt.cs (fun _=>True) :=
  (opens_struct Tryz.underlying164 cells164 (fun _=>rfl) (opensF_cons rfl cells3 op3 (fun _=>rfl) (opensF_cons rfl cells3 op3 (fun _=>rfl) (opensF_cons rfl cells3 op3 (fun _=>rfl) (opensF_nil _))))).to (fun a=>⟨a.1,a.2.1,a.2.2.1⟩) (fun _=>rfl) (fun _ _=>trivial)
theorem op50:Opens Tryz.prog 50 Ppr Ppr.cs (fun _=>True) :=
  (opens_struct Tryz.underlying50 cells50 (fun _=>rfl) (opensF_cons rfl cells3 op3 (fun _=>rfl) (opensF_cons rfl cells3 op3 (fun _=>rfl) (opensF_cons rfl cells3 op3 (fun _=>rfl) (opensF_cons rfl cells3 op3 (fun _=>rfl) (opensF_cons rfl cells3 op3 (fun _=>rfl) (opensF_cons rfl cells3 op3 (fun _=>rfl) (opensF_cons rfl cells48 op48 (fun _=>rfl) (opensF_cons rfl cells48 op48 (fun _=>rfl) (opensF_nil _)))))))))).to (fun a=>⟨a.1,a.2.1,a.2.2.1,a.2.2.2.1,a.2.2.2.2.1,a.2.2.2.2.2.1,a.2.2.2.2.2.2.1,a.2.2.2.2.2.2.2.1⟩) (fun _=>rfl) (fun _ _=>trivial)
theorem op51:Opens Tryz.prog 51 (List Pt) (fun l=>[ptS l]) (fun l=>l.length < 9223372036854775808) :=
  (opens_slice Tryz.underlying51 cells164 (by decide) op164 (fun _=>rfl)).to id (fun _=>rfl) (fun _ h=>h.1)
theorem op52:Opens Tryz.prog 52 (List Int) (fun l=>[inS l]) (fun l=>l.length < 9223372036854775808) :=
  (opens_slice Tryz.underlying52 cells3 (by decide) op3 (fun _=>rfl)).to id (fun _=>rfl) (fun _ h=>h.1)
theorem op53:Opens Tryz.prog 53 (List Sp) (fun l=>[spnS l]) (fun l=>l.length < 9223372036854775808) :=
  (opens_slice Tryz.underlying53 cells48 (by decide) op48 (fun _=>rfl)).to id (fun _=>rfl) (fun _ h=>h.1)
theorem op54:Opens Tryz.prog 54 (List Mk) (fun l=>[mkS l]) (fun l=>l.length < 9223372036854775808) :=
  (opens_slice Tryz.underlying54 cells226 (by decide) op226 (fun _=>rfl)).to id (fun _=>rfl) (fun _ h=>h.1)
theorem op56:Opens Tryz.prog 56 (List Sp × List Mk) (fun d=>[spnS d.1,mkS d.2]) (fun d=>d.1.length < 9223372036854775808∧d.2.length < 9223372036854775808) :=
  (opens_struct Tryz.underlying56 cells56 (fun _=>rfl) (opensF_cons rfl cells53 op53 (fun _=>rfl) (opensF_cons rfl cells54 op54 (fun _=>rfl) (opensF_nil _)))).to (fun a=>⟨a.1,a.2.1⟩) (fun _=>rfl) (fun _ h=>⟨h.1,h.2.1⟩)
theorem op58:Opens Tryz.prog 58 Pn Pn.cs (fun _=>True) :=
  (opens_struct Tryz.underlying58 cells58 (fun _=>rfl) (opensF_cons rfl cells3 op3 (fun _=>rfl) (opensF_cons rfl cells48 op48 (fun _=>rfl) (opensF_cons rfl cells3 op3 (fun _=>rfl) (opensF_nil _))))).to (fun a=>⟨a.1,a.2.1,a.2.2.1⟩) (fun _=>rfl) (fun _ _=>trivial)
theorem op60:Opens Tryz.prog 60 Sht Sht.cs shtSz :=
  (opens_struct Tryz.underlying60 cells60 (fun _=>rfl) (opensF_cons rfl cells50 op50 (fun _=>rfl) (opensF_cons rfl cells51 op51 (fun _=>rfl) (opensF_cons rfl cells52 op52 (fun _=>rfl) (opensF_cons rfl cells56 op56 (fun _=>rfl) (opensF_cons rfl cells58 op58 (fun _=>rfl) (opensF_nil _))))))).to (fun a=>⟨a.1,a.2.1,a.2.2.1,a.2.2.2.1.1,a.2.2.2.1.2,a.2.2.2.2.1⟩) (fun _=>rfl) (fun _ h=>⟨h.2.1,h.2.2.1,h.2.2.2.1.1,h.2.2.2.1.2⟩)
theorem op64:Opens Tryz.prog 64 Rd Rd.cs (fun _=>True) :=
  (opens_struct Tryz.underlying64 cells64 (fun _=>rfl) (opensF_cons rfl cells3 op3 (fun _=>rfl) (opensF_cons rfl cells3 op3 (fun _=>rfl) (opensF_cons rfl cells3 op3 (fun _=>rfl) (opensF_cons rfl cells48 op48 (fun _=>rfl) (opensF_nil _)))))).to (fun a=>⟨a.1,a.2.1,a.2.2.1,a.2.2.2.1⟩) (fun _=>rfl) (fun _ _=>trivial)
theorem op66:Opens Tryz.prog 66 Hgt Hgt.cs (fun _=>True) :=
  (opens_struct Tryz.underlying66 cells66 (fun _=>rfl) (opensF_cons rfl cells3 op3 (fun _=>rfl) (opensF_cons rfl cells48 op48 (fun _=>rfl) (opensF_nil _)))).to (fun a=>⟨a.1,a.2.1⟩) (fun _=>rfl) (fun _ _=>trivial)
theorem op29:Opens Tryz.prog 29 Nm Nm.cs (fun _=>True) :=
  (opens_struct Tryz.underlying29 cells29 (fun _=>rfl) (opensF_cons rfl cells3 op3 (fun _=>rfl) (opensF_cons rfl cells3 op3 (fun _=>rfl) (opensF_nil _)))).to (fun a=>⟨a.1,a.2.1⟩) (fun _=>rfl) (fun _ _=>trivial)
theorem op68:Opens Tryz.prog 68 Nt Nt.cs ntSz :=
  (opens_struct Tryz.underlying68 cells68 (fun _=>rfl) (opensF_cons rfl cells3 op3 (fun _=>rfl) (opensF_cons rfl cells3 op3 (fun _=>rfl) (opensF_cons rfl cells3 op3 (fun _=>rfl) (opensF_cons rfl cells3 op3 (fun _=>rfl) (opensF_cons rfl cells3 op3 (fun _=>rfl) (opensF_cons rfl cells3 op3 (fun _=>rfl) (opensF_cons rfl cells3 op3 (fun _=>rfl) (opensF_cons rfl cells60 op60 (fun _=>rfl) (opensF_cons rfl cells62 op62 (fun _=>rfl) (opensF_cons rfl cells64 op64 (fun _=>rfl) (opensF_cons rfl cells66 op66 (fun _=>rfl) (opensF_cons rfl cells29 op29 (fun _=>rfl) (opensF_nil _)))))))))))))).to (fun a=>⟨a.1,a.2.1,a.2.2.1,a.2.2.2.1,a.2.2.2.2.1,a.2.2.2.2.2.1,a.2.2.2.2.2.2.1,a.2.2.2.2.2.2.2.1,a.2.2.2.2.2.2.2.2.1,a.2.2.2.2.2.2.2.2.2.1,a.2.2.2.2.2.2.2.2.2.2.1,a.2.2.2.2.2.2.2.2.2.2.2.1⟩) (fun _=>rfl) (fun _ h=>h.2.2.2.2.2.2.2.1)
theorem op27:Opens Tryz.prog 27 (List Nt) (fun l=>[ntS l]) setSz :=
  (opens_slice Tryz.underlying27 cells68 (by decide) op68 (fun _=>rfl)).to id (fun _=>rfl) (fun _ h=>h)
theorem op107:Opens Tryz.prog 107 (List Hgt) (fun l=>[hgS l]) (fun l=>l.length < 9223372036854775808) :=
  (opens_slice Tryz.underlying107 cells66 (by decide) op66 (fun _=>rfl)).to id (fun _=>rfl) (fun _ h=>h.1)
theorem op109:Opens Tryz.prog 109 Stn Stn.cs (fun s=>s.heights.length < 9223372036854775808) :=
  (opens_struct Tryz.underlying109 cells109 (fun _=>rfl) (opensF_cons rfl cells3 op3 (fun _=>rfl) (opensF_cons rfl cells3 op3 (fun _=>rfl) (opensF_cons rfl cells3 op3 (fun _=>rfl) (opensF_cons rfl cells107 op107 (fun _=>rfl) (opensF_nil _)))))).to (fun a=>⟨a.1,a.2.1,a.2.2.1,a.2.2.2.1⟩) (fun _=>rfl) (fun _ h=>h.2.2.2.1)
theorem op22:Opens Tryz.prog 22 (List Stn) (fun l=>[snS l]) stnSz :=
  (opens_slice Tryz.underlying22 cells109 (by decide) op109 (fun _=>rfl)).to id (fun _=>rfl) (fun _ h=>h)
theorem op24:Opens Tryz.prog 24 (Int × Int) (fun d=>[n d.1,n d.2]) (fun _=>True) :=
  (opens_struct Tryz.underlying24 cells24 (fun _=>rfl) (opensF_cons rfl cells3 op3 (fun _=>rfl) (opensF_cons rfl cells3 op3 (fun _=>rfl) (opensF_nil _)))).to (fun a=>⟨a.1,a.2.1⟩) (fun _=>rfl) (fun _ _=>trivial)
theorem op26:Opens Tryz.prog 26 Bse Bse.cs bseSz :=
  (opens_struct Tryz.underlying26 cells26 (fun _=>rfl) (opensF_cons rfl cells22 op22 (fun _=>rfl) (opensF_cons rfl cells24 op24 (fun _=>rfl) (opensF_cons rfl cells3 op3 (fun _=>rfl) (opensF_cons rfl cells3 op3 (fun _=>rfl) (opensF_cons rfl cells3 op3 (fun _=>rfl) (opensF_nil _))))))).to (fun a=>⟨a.1,a.2.1.1,a.2.1.2,a.2.2.1,a.2.2.2.1,a.2.2.2.2.1⟩) (fun _=>rfl) (fun _ h=>h.1)
section
variable {H:Type} {enc:TypeId × Value→H} {w:World} {r:Reach} {base b0:Nat} {sp:Nat→Bool} {held:Bool} {v:Value} {d:DataW H} {ps:List MemPlace}
theorem open_bse (h:Value.okWide Tryz.prog w r base 26 v) (hx:DataW.Trod enc Tryz.prog w b0 sp held 26 v d ps):∃ x:Bse,bseSz x∧RV w (fun _=>False) nob [] (.agg x.cs) v:=by
  obtain ⟨cs,rfl,_⟩:=okWide_struct Tryz.underlying26 h
  exact op26.agg hx
theorem open_nm (h:Value.okWide Tryz.prog w r base 29 v) (hx:DataW.Trod enc Tryz.prog w b0 sp held 29 v d ps):∃ x:Nm,(fun _=>True) x∧RV w (fun _=>False) nob [] (.agg x.cs) v:=by
  obtain ⟨cs,rfl,_⟩:=okWide_struct Tryz.underlying29 h
  exact op29.agg hx
theorem open_set (h:Value.okWide Tryz.prog w r base 27 v) (hx:DataW.Trod enc Tryz.prog w b0 sp held 27 v d ps):∃ l:List Nt,setSz l∧RV w (fun _=>False) nob [] (ntS l) v:=by
  obtain ⟨a,len,cap,rfl⟩:=okWide_slice Tryz.underlying27 h
  exact op27.one rfl hx
end
end Go.Proofs.YtolgelipcgcbhaaGreat
