/- Part 8 of the texts that the claim rests on: abstract values over the walk, and contracts of functions. -/
import Derived.Test.YtahkhnagpdlkiaaGreatBu7
import Derived.Test.YtahkhnagpdlkiaaGreatRows
namespace Go.Proofs.YtahkhnagpdlkiaaGreat
open Go.Abs
open Nat (reduceAdd reduceSub reduceLT reduceLeDiff reduceMul reduceEqDiff)
set_option linter.unusedVariables false
set_option linter.unusedSimpArgs false
set_option maxHeartbeats 4000000
set_option maxRecDepth 100000
def c158:CF:=⟨76,
 (.seq (.ops [
 ⟨some 3,.box true 30 2 (.t 1),none⟩,
 ⟨some 4,.mv (.c (.slice none 0 0)),none⟩] [0,3])
 (.seq (.ops [
 ⟨some 5,.mv (.c (.slice none 0 0)),none⟩] [0,3,5])
 (.seq (.ops [
 ⟨some 6,.mv (.c (.bool false)),none⟩] [0,3,5,6])
 (.seq (.seq (.ops [
 ⟨some 7,.mv (.c (.int .i64 0)),none⟩] [0,3,5,6,7])
 (.block 0 (.loop (.seq (.seq (.ops [
 ⟨some 8,.mv (.t 7),none⟩,
 ⟨some 9,.mv (.t 0),none⟩,
 ⟨some 10,.len (.t 9),none⟩,
 ⟨some 11,.bin .lss (.t 8) (.t 10),none⟩] [0,3,5,6,7,11])
 (.cond (.t 11) .skip
 (.exit 0)))
 (.seq (.block 1 (.seq (.seq (.draw [
 ⟨some 14,.mv (.t 0),none⟩,
 ⟨some 15,.mv (.t 7),none⟩,
 ⟨some 16,.iaddr 2 (.t 14) (.t 15),none⟩,
 ⟨some 17,.faddr 1 (.t 16),none⟩,
 ⟨some 18,.load none (.t 17),none⟩,
 ⟨some 19,.bin .add (.t 18) (.c (.int .i64 1)),none⟩,
 ⟨some 20,.faddr 0 (.t 3),none⟩,
 ⟨some 21,.load none (.t 20),none⟩,
 ⟨some 22,.bin .lss (.t 19) (.t 21),none⟩] [
 ] [0,3,5,6,7,22])
 (.cond (.t 22) (.seq (.ops [
 ⟨some 23,.mv (.t 5),none⟩,
 ⟨some 24,.mv (.t 0),none⟩,
 ⟨some 25,.mv (.t 7),none⟩,
 ⟨some 26,.iaddr 2 (.t 24) (.t 25),none⟩,
 ⟨some 27,.load (some 2) (.t 26),none⟩,
 ⟨some 28,.bsl false 30 2 1 [.int .i64 0,.int .i64 0] [(0,2,(.t 27))],none⟩,
 ⟨some 29,.app 30 2 16 (.t 23) (.t 28),none⟩,
 ⟨some 5,.mv (.t 29),none⟩] [0,3,5,6,7])
 (.exit 1))
 .skip))
 (.seq (.seq (.draw [
 ⟨some 30,.mv (.t 0),none⟩,
 ⟨some 31,.mv (.t 7),none⟩,
 ⟨some 32,.iaddr 2 (.t 30) (.t 31),none⟩,
 ⟨some 33,.faddr 0 (.t 32),none⟩,
 ⟨some 34,.load none (.t 33),none⟩,
 ⟨some 35,.faddr 1 (.t 3),none⟩,
 ⟨some 36,.load none (.t 35),none⟩,
 ⟨some 37,.bin .add (.t 36) (.c (.int .i64 1)),none⟩,
 ⟨some 38,.bin .gtr (.t 34) (.t 37),none⟩] [
 ] [0,3,5,6,7,38])
 (.cond (.t 38) (.seq (.seq (.ops [
 ⟨some 39,.mv (.t 6),none⟩,
 ⟨some 40,.un .not (.t 39),none⟩] [0,3,5,6,7,40])
 (.cond (.t 40) (.seq (.ops [
 ⟨some 41,.mv (.t 5),none⟩,
 ⟨some 42,.load (some 2) (.t 3),none⟩,
 ⟨some 43,.bsl false 30 2 1 [.int .i64 0,.int .i64 0] [(0,2,(.t 42))],none⟩,
 ⟨some 44,.app 30 2 16 (.t 41) (.t 43),none⟩,
 ⟨some 5,.mv (.t 44),none⟩] [0,3,5,7])
 (.ops [
 ⟨some 6,.mv (.c (.bool true)),none⟩] [0,3,5,6,7]))
 .skip))
 (.seq (.ops [
 ⟨some 45,.mv (.t 5),none⟩,
 ⟨some 46,.mv (.t 0),none⟩,
 ⟨some 47,.mv (.t 7),none⟩,
 ⟨some 48,.iaddr 2 (.t 46) (.t 47),none⟩,
 ⟨some 49,.load (some 2) (.t 48),none⟩,
 ⟨some 50,.bsl false 30 2 1 [.int .i64 0,.int .i64 0] [(0,2,(.t 49))],none⟩,
 ⟨some 51,.app 30 2 16 (.t 45) (.t 50),none⟩,
 ⟨some 5,.mv (.t 51),none⟩] [0,3,5,6,7])
 (.exit 1)))
 .skip))
 (.draw [
 ⟨some 52,.faddr 0 (.t 3),none⟩,
 ⟨some 53,.load none (.t 52),none⟩,
 ⟨some 54,.mv (.t 0),none⟩,
 ⟨some 55,.mv (.t 7),none⟩,
 ⟨some 56,.iaddr 2 (.t 54) (.t 55),none⟩,
 ⟨some 57,.faddr 0 (.t 56),none⟩,
 ⟨some 58,.load none (.t 57),none⟩,
 ⟨some 59,.mnx false (.t 53) (.t 58),none⟩,
 ⟨some 60,.faddr 1 (.t 3),none⟩,
 ⟨some 61,.load none (.t 60),none⟩,
 ⟨some 62,.mv (.t 0),none⟩,
 ⟨some 63,.mv (.t 7),none⟩,
 ⟨some 64,.iaddr 2 (.t 62) (.t 63),none⟩,
 ⟨some 65,.faddr 1 (.t 64),none⟩,
 ⟨some 66,.load none (.t 65),none⟩,
 ⟨some 67,.mnx true (.t 61) (.t 66),none⟩,
 ⟨some 68,.build [.int .i64 0,.int .i64 0] [(0,1,(.t 59)),(1,1,(.t 67))],none⟩] [
 ⟨none,.store 2 (.t 3) (.t 68),none⟩] [0,3,5,6,7]))))
 (.ops [
 ⟨some 12,.mv (.t 7),none⟩,
 ⟨some 13,.bin .add (.t 12) (.c (.int .i64 1)),none⟩,
 ⟨some 7,.mv (.t 13),none⟩] [0,3,5,6,7]))))))
 (.seq (.seq (.ops [
 ⟨some 69,.mv (.t 6),none⟩,
 ⟨some 70,.un .not (.t 69),none⟩] [3,5,70])
 (.cond (.t 70) (.ops [
 ⟨some 71,.mv (.t 5),none⟩,
 ⟨some 72,.load (some 2) (.t 3),none⟩,
 ⟨some 73,.bsl false 30 2 1 [.int .i64 0,.int .i64 0] [(0,2,(.t 72))],none⟩,
 ⟨some 74,.app 30 2 16 (.t 71) (.t 73),none⟩,
 ⟨some 5,.mv (.t 74),none⟩] [5])
 .skip))
 (.seq (.ops [
 ⟨some 75,.mv (.t 5),none⟩,
 ⟨some 4,.mv (.t 75),none⟩] [4])
 .ret)))))),
 [.t 4]⟩
def c126:CF:=⟨23,
 (.seq (.ops [
 ⟨some 4,.mv (.c (.slice none 0 0)),none⟩] [0,1])
 (.seq (.ops [
 ⟨some 7,.bsl true 30 2 0 [] [],none⟩,
 ⟨some 8,.mv (.t 0),none⟩,
 ⟨some 9,.app 30 2 16 (.t 7) (.t 8),none⟩,
 ⟨some 5,.mv (.t 9),none⟩] [1,5])
 (.seq (.seq (.ops [
 ⟨some 6,.mv (.c (.int .i64 0)),none⟩] [1,5,6])
 (.block 0 (.loop (.seq (.seq (.ops [
 ⟨some 10,.mv (.t 6),none⟩,
 ⟨some 11,.mv (.t 1),none⟩,
 ⟨some 12,.len (.t 11),none⟩,
 ⟨some 13,.bin .lss (.t 10) (.t 12),none⟩] [1,5,6,13])
 (.cond (.t 13) .skip
 (.exit 0)))
 (.seq (.block 1 (.ops [
 ⟨some 16,.mv (.t 5),none⟩,
 ⟨some 17,.mv (.t 1),none⟩,
 ⟨some 18,.mv (.t 6),none⟩,
 ⟨some 19,.iaddr 2 (.t 17) (.t 18),none⟩,
 ⟨some 20,.load (some 2) (.t 19),none⟩,
 ⟨some 21,.call (.f 158) [(.t 16),(.t 20)],none⟩,
 ⟨some 5,.mv (.t 21),none⟩] [1,5,6]))
 (.ops [
 ⟨some 14,.mv (.t 6),none⟩,
 ⟨some 15,.bin .add (.t 14) (.c (.int .i64 1)),none⟩,
 ⟨some 6,.mv (.t 15),none⟩] [1,5,6]))))))
 (.seq (.ops [
 ⟨some 22,.mv (.t 5),none⟩,
 ⟨some 4,.mv (.t 22),none⟩] [4])
 .ret)))),
 [.t 4]⟩
def c127:CF:=⟨53,
 (.seq (.ops [
 ⟨some 4,.mv (.c (.slice none 0 0)),none⟩] [0,1])
 (.seq (.ops [
 ⟨some 5,.mv (.c (.slice none 0 0)),none⟩] [0,1,5])
 (.seq (.seq (.ops [
 ⟨some 6,.mv (.c (.int .i64 0)),none⟩] [0,1,5,6])
 (.block 0 (.loop (.seq (.seq (.ops [
 ⟨some 9,.mv (.t 6),none⟩,
 ⟨some 10,.mv (.t 0),none⟩,
 ⟨some 11,.len (.t 10),none⟩,
 ⟨some 12,.bin .lss (.t 9) (.t 11),none⟩] [0,1,5,6,12])
 (.cond (.t 12) .skip
 (.exit 0)))
 (.seq (.block 1 (.seq (.ops [
 ⟨some 7,.mv (.c (.int .i64 0)),none⟩] [0,1,5,6,7])
 (.block 2 (.loop (.seq (.seq (.ops [
 ⟨some 15,.mv (.t 7),none⟩,
 ⟨some 16,.mv (.t 1),none⟩,
 ⟨some 17,.len (.t 16),none⟩,
 ⟨some 18,.bin .lss (.t 15) (.t 17),none⟩] [0,1,5,6,7,18])
 (.cond (.t 18) .skip
 (.exit 2)))
 (.seq (.block 3 (.seq (.draw [
 ⟨some 21,.mv (.t 0),none⟩,
 ⟨some 22,.mv (.t 6),none⟩,
 ⟨some 23,.iaddr 2 (.t 21) (.t 22),none⟩,
 ⟨some 24,.faddr 0 (.t 23),none⟩,
 ⟨some 25,.load none (.t 24),none⟩,
 ⟨some 26,.mv (.t 1),none⟩,
 ⟨some 27,.mv (.t 7),none⟩,
 ⟨some 28,.iaddr 2 (.t 26) (.t 27),none⟩,
 ⟨some 29,.faddr 0 (.t 28),none⟩,
 ⟨some 30,.load none (.t 29),none⟩,
 ⟨some 31,.mnx true (.t 25) (.t 30),none⟩,
 ⟨some 32,.mv (.t 0),none⟩,
 ⟨some 33,.mv (.t 6),none⟩,
 ⟨some 34,.iaddr 2 (.t 32) (.t 33),none⟩,
 ⟨some 35,.faddr 1 (.t 34),none⟩,
 ⟨some 36,.load none (.t 35),none⟩,
 ⟨some 37,.mv (.t 1),none⟩,
 ⟨some 38,.mv (.t 7),none⟩,
 ⟨some 39,.iaddr 2 (.t 37) (.t 38),none⟩,
 ⟨some 40,.faddr 1 (.t 39),none⟩,
 ⟨some 41,.load none (.t 40),none⟩,
 ⟨some 42,.mnx false (.t 36) (.t 41),none⟩,
 ⟨some 43,.build [.int .i64 0,.int .i64 0] [(0,1,(.t 31)),(1,1,(.t 42))],none⟩,
 ⟨some 8,.alloc 30 2 [.int .i64 0,.int .i64 0],none⟩] [
 ⟨none,.store 2 (.t 8) (.t 43),none⟩] [0,1,5,6,7,8])
 (.seq (.ops [
 ⟨some 44,.faddr 0 (.t 8),none⟩,
 ⟨some 45,.load none (.t 44),none⟩,
 ⟨some 46,.faddr 1 (.t 8),none⟩,
 ⟨some 47,.load none (.t 46),none⟩,
 ⟨some 48,.bin .leq (.t 45) (.t 47),none⟩] [0,1,5,6,7,8,48])
 (.cond (.t 48) (.ops [
 ⟨some 49,.mv (.t 5),none⟩,
 ⟨some 50,.load (some 2) (.t 8),none⟩,
 ⟨some 51,.call (.f 158) [(.t 49),(.t 50)],none⟩,
 ⟨some 5,.mv (.t 51),none⟩] [0,1,5,6,7])
 .skip))))
 (.ops [
 ⟨some 19,.mv (.t 7),none⟩,
 ⟨some 20,.bin .add (.t 19) (.c (.int .i64 1)),none⟩,
 ⟨some 7,.mv (.t 20),none⟩] [0,1,5,6,7])))))))
 (.ops [
 ⟨some 13,.mv (.t 6),none⟩,
 ⟨some 14,.bin .add (.t 13) (.c (.int .i64 1)),none⟩,
 ⟨some 6,.mv (.t 14),none⟩] [0,1,5,6]))))))
 (.seq (.ops [
 ⟨some 52,.mv (.t 5),none⟩,
 ⟨some 4,.mv (.t 52),none⟩] [4])
 .ret)))),
 [.t 4]⟩
def c155:CF:=⟨33,
 (.seq (.ops [
 ⟨some 3,.box false 30 2 (.t 1),none⟩,
 ⟨some 4,.mv (.c (.slice none 0 0)),none⟩] [0,3])
 (.seq (.ops [
 ⟨some 5,.mv (.c (.slice none 0 0)),none⟩] [0,3,5])
 (.seq (.seq (.ops [
 ⟨some 6,.mv (.c (.int .i64 0)),none⟩] [0,3,5,6])
 (.block 0 (.loop (.seq (.seq (.ops [
 ⟨some 7,.mv (.t 6),none⟩,
 ⟨some 8,.mv (.t 0),none⟩,
 ⟨some 9,.len (.t 8),none⟩,
 ⟨some 10,.bin .lss (.t 7) (.t 9),none⟩] [0,3,5,6,10])
 (.cond (.t 10) .skip
 (.exit 0)))
 (.seq (.block 1 (.draw [
 ⟨some 13,.mv (.t 5),none⟩,
 ⟨some 14,.mv (.t 0),none⟩,
 ⟨some 15,.mv (.t 6),none⟩,
 ⟨some 16,.iaddr 2 (.t 14) (.t 15),none⟩,
 ⟨some 17,.faddr 0 (.t 16),none⟩,
 ⟨some 18,.load none (.t 17),none⟩,
 ⟨some 19,.faddr 0 (.t 3),none⟩,
 ⟨some 20,.load none (.t 19),none⟩,
 ⟨some 21,.bin .add (.t 18) (.t 20),none⟩,
 ⟨some 22,.mv (.t 0),none⟩,
 ⟨some 23,.mv (.t 6),none⟩,
 ⟨some 24,.iaddr 2 (.t 22) (.t 23),none⟩,
 ⟨some 25,.faddr 1 (.t 24),none⟩,
 ⟨some 26,.load none (.t 25),none⟩,
 ⟨some 27,.faddr 1 (.t 3),none⟩,
 ⟨some 28,.load none (.t 27),none⟩,
 ⟨some 29,.bin .add (.t 26) (.t 28),none⟩,
 ⟨some 30,.build [.int .i64 0,.int .i64 0] [(0,1,(.t 21)),(1,1,(.t 29))],none⟩,
 ⟨some 31,.call (.f 158) [(.t 13),(.t 30)],none⟩] [
 ⟨some 5,.mv (.t 31),none⟩] [0,3,5,6]))
 (.ops [
 ⟨some 11,.mv (.t 6),none⟩,
 ⟨some 12,.bin .add (.t 11) (.c (.int .i64 1)),none⟩,
 ⟨some 6,.mv (.t 12),none⟩] [0,3,5,6]))))))
 (.seq (.ops [
 ⟨some 32,.mv (.t 5),none⟩,
 ⟨some 4,.mv (.t 32),none⟩] [4])
 .ret)))),
 [.t 4]⟩
def c73:CF:=⟨18,
 (.seq (.ops [
 ⟨some 2,.mv (.c (.slice none 0 0)),none⟩] [0])
 (.seq (.ops [
 ⟨some 3,.mv (.c (.slice none 0 0)),none⟩] [0,3])
 (.seq (.seq (.ops [
 ⟨some 4,.mv (.c (.int .i64 0)),none⟩] [0,3,4])
 (.block 0 (.loop (.seq (.seq (.ops [
 ⟨some 5,.mv (.t 4),none⟩,
 ⟨some 6,.mv (.t 0),none⟩,
 ⟨some 7,.len (.t 6),none⟩,
 ⟨some 8,.bin .lss (.t 5) (.t 7),none⟩] [0,3,4,8])
 (.cond (.t 8) .skip
 (.exit 0)))
 (.seq (.block 1 (.ops [
 ⟨some 11,.mv (.t 3),none⟩,
 ⟨some 12,.mv (.t 0),none⟩,
 ⟨some 13,.mv (.t 4),none⟩,
 ⟨some 14,.iaddr 1 (.t 12) (.t 13),none⟩,
 ⟨some 15,.load none (.t 14),none⟩,
 ⟨some 16,.call (.f 126) [(.t 11),(.t 15)],none⟩,
 ⟨some 3,.mv (.t 16),none⟩] [0,3,4]))
 (.ops [
 ⟨some 9,.mv (.t 4),none⟩,
 ⟨some 10,.bin .add (.t 9) (.c (.int .i64 1)),none⟩,
 ⟨some 4,.mv (.t 10),none⟩] [0,3,4]))))))
 (.seq (.ops [
 ⟨some 17,.mv (.t 3),none⟩,
 ⟨some 2,.mv (.t 17),none⟩] [2])
 .ret)))),
 [.t 2]⟩
theorem k158:chkF Tryz.prog Tryz.f158 c158=true:=by kernel_rfl
theorem k126:chkF Tryz.prog Tryz.f126 c126=true:=by kernel_rfl
theorem k127:chkF Tryz.prog Tryz.f127 c127=true:=by kernel_rfl
theorem k155:chkF Tryz.prog Tryz.f155 c155=true:=by kernel_rfl
theorem k73:chkF Tryz.prog Tryz.f73 c73=true:=by kernel_rfl
theorem AWPC.nil0 {P:Program} {N:Nat} {rd:Option Nat} {K:Kont} {env:Env} {σ:Sto} {c:C} (k t:Nat) (ht:gt env t=.v (.slice none 0 0)) (h:AWPC P N rd c K ((t,.sl k [])::env) σ):AWPC P N rd c K env σ:=by
  intro code hc n0 X β a w hst
  refine h code hc n0 X β a w { hst with ev:=fun s=>?_ }
  simp only [gt]
  by_cases hs:t=s
  · subst hs
    simp only [beq_self_eq_true,cond_true]
    have:=hst.ev t
    rw [ht] at this
    exact this.nil
  · have:(t == s)=false:=by simpa using hs
    simp only [this,cond_false]
    exact hst.ev s
abbrev bdd (l:List Sp):Prop:=∀ s∈l,-1000000≤s.lo∧s.hi≤1000000
abbrev nee (l:List Sp):Prop:=∀ s∈l,s.lo≤s.hi
structure OKs (l:List Sp):Prop where
  nm:Norm l
  bd:bdd l
theorem OKs.len {l:List Sp} (h:OKs l):l.length≤2000001:=by
  have:=h.nm.len_le h.bd; omega
theorem OKs.nil:OKs []:=⟨norm_nil,fun s hs=>absurd hs (List.not_mem_nil)⟩
theorem joinE_ok {l:List Sp} {x:Sp} (hl:OKs l) (hx:-1000000≤x.lo∧x.hi≤1000000):OKs (joinE l x):=by
  refine ⟨joinE_norm hl.nm,in_of_mem (joinE_norm hl.nm) fun v hv=>?_⟩
  rcases (joinE_mem hl.nm v).1 hv with ⟨s,hs,h1,h2⟩ | h
  · have:=hl.bd s hs; omega
  · omega
theorem joins_ok {b:List Sp} (hb:bdd b):∀ {l:List Sp},OKs l→OKs (joins l b):=by
  induction b with
  | nil=>intro l h; exact h
  | cons x b ih=>intro l h; exact ih (fun y hy=>hb y (by simp [hy])) (joinE_ok h (hb x (by simp)))
theorem joinE_join {l:List Sp} {x:Sp} (h:x.lo≤x.hi):joinE l x=join l x:=if_neg (by omega)
theorem joins_append (l a b:List Sp):joins l (a++b)=joins (joins l a) b:=List.foldl_append
theorem good_ok {l:List Sp} (h:good l):OKs l:=⟨h.1,fun s hs=>by have:=h.2 s hs; omega⟩
theorem add_spec (l:List Sp) (x:Sp) (hok:OKs l) (hx:-1000000≤x.lo∧x.hi≤1000000) (hne:x.lo≤x.hi) :
    Pure Tryz.prog 158 [spS l,.agg x.cs] (spS (joinE l x)):=by
  refine Pure.of_body Tryz.call158 Tryz.func158 k158 (Nat.le_of_ble_eq_true rfl) ?_
  unfold c158
  rw [joinE_join hne]
  have hl:=hok.nm
  have hb:=hok.bd
  have hlen:=hok.len
  (repeat' ((first
 | refine vn rfl ?_
 | simp (disch:=omega) only [wr64,Int.zero_sub]
 | refine bo (fun _=>?_) fun _=>?_
 | refine im fun _=>?_
 | refine cF ?_
 | refine om ?_
 | refine an ?_
 | fail) <;> try simp only [zT,zV,zS,zU,vcC,lateX,ex,strp,binA,elems,cells,scalar,eqC,keyA,intsA,lookA,ofVs,mpOf,Nat.reduceBEq,reduceAdd,reduceSub,reduceLT,reduceLeDiff,reduceMul,reduceEqDiff,reduceIte]))
  refine AWPC.own0 30 2 5 rfl ?_
  simp only [zS,zU,vcC,lateX,ex,strp,binA,elems,cells,scalar,eqC,keyA,intsA,lookA,ofVs,mpOf,Nat.reduceBEq,reduceAdd,reduceSub,reduceLT,reduceLeDiff,reduceMul,reduceEqDiff,reduceIte]
  refine AWPC.loop (α:={ q:Nat × List Sp × Bool × Sp // q.1≤l.length∧q.2.1.length≤q.1+(if q.2.2.1 then 1 else 0)∧q.2.2.2.lo≤q.2.2.2.hi∧-1000000≤q.2.2.2.lo∧q.2.2.2.hi≤1000000∧(q.2.2.1=false→q.2.1++join (l.drop q.1) q.2.2.2=join l x) ∧
      (q.2.2.1=true→q.2.1++l.drop q.1=join l x∧∀ s∈l.drop q.1,q.2.2.2.hi+1 < s.lo) })
    (fun q=>([(0,spS l),(3,.ptr 0 0 1 0 0),(5,.own 1 0 q.1.2.1.length),(6,bl q.1.2.2.1),(7,n q.1.1)],[some [⟨30,2,[q.1.2.2.2.cs],none⟩],some [spO q.1.2.1]])) (fun q=>l.length - q.1.1)
    ⟨(0,[],false,x),by simp,by simp,by simp only; omega,hx.1,hx.2,fun _=>by simp,fun h=>by cases h⟩ ?_ rfl ?_
  · simp only [zS,zU,vcC,lateX,ex,strp,binA,elems,cells,scalar,eqC,keyA,intsA,lookA,ofVs,mpOf,Nat.reduceBEq,reduceAdd,reduceSub,reduceLT,reduceLeDiff,reduceMul,reduceEqDiff,reduceIte]; try simp
  · rintro ⟨⟨i,acc,put,z⟩,i1,i2,i3,i4,i5,i6,i7⟩
    try simp only at i1 i2 i3 i4 i5 i6 i7
    have hal:acc.length≤l.length+1:=by cases put <;> simp at i2 <;> omega
    by_cases hi:i < l.length
    · obtain ⟨s,hs⟩:∃ s,l[i]?=some s:=⟨_,List.getElem?_eq_getElem hi⟩
      have hsb:=hb s (List.mem_of_getElem? hs)
      have hsn:=hl.ne s (List.mem_of_getElem? hs)
      have hd:=drop_cons hs
      (repeat' ((first
 | refine vn rfl ?_
 | simp (disch:=omega) only [wr64,Int.zero_sub]
 | refine bo (fun _=>?_) fun _=>?_
 | refine im fun _=>?_
 | refine cF ?_
 | refine om ?_
 | refine an ?_
 | fail) <;> try simp only [zT,zV,zS,zU,vcC,lateX,ex,strp,binA,elems,cells,scalar,eqC,keyA,intsA,lookA,ofVs,mpOf,Nat.reduceBEq,reduceAdd,reduceSub,reduceLT,reduceLeDiff,reduceMul,reduceEqDiff,reduceIte,getD_map hs]))
      all_goals try (exfalso; omega)
      · refine ⟨⟨(i+1,acc++[s],put,z),hi,by simp only [List.length_append,List.length_cons,List.length_nil]; omega,i3,i4,i5,fun hp=>?_,fun hp=>?_⟩,⟨by simp,by simp,by simp⟩,by simp [spO],by simp only; omega⟩
        · have:=i6 hp
          rw [hd,join,if_pos ‹_›] at this
          simpa using this
        · obtain ⟨j1,j2⟩:=i7 hp
          rw [hd] at j1 j2
          exact ⟨by simpa using j1,fun u hu=>j2 u (by simp [hu])⟩
      · rename_i c1 c2 c3
        obtain rfl:put=false:=by simpa using c3
        have hn:∀ u∈l.drop (i+1),z.hi+1 < u.lo:=fun u hu=>by
          have hnd:Norm (l.drop i):=by
            have:=hl; rw [← List.take_append_drop i l] at this; exact (norm_append.1 this).2.1
          rw [hd] at hnd
          have:=hnd.2.1 u hu; omega
        refine ⟨⟨(i+1,acc++[z,s],true,z),hi,by simp at i2 ⊢; omega,i3,i4,i5,fun hp=>(by cases hp),fun _=>⟨?_,hn⟩⟩,⟨by simp,by simp⟩,by simp [spO],by simp only; omega⟩
        have:=i6 rfl
        rw [hd,join,if_neg ‹_›,if_pos ‹_›] at this
        simpa using this
      · rename_i c1 c2 c3
        obtain rfl:put=true:=by simpa using c3
        obtain ⟨j1,j2⟩:=i7 rfl
        rw [hd] at j1 j2
        exact ⟨⟨(i+1,acc++[s],true,z),hi,by simp at i2 ⊢; omega,i3,i4,i5,fun hp=>(by cases hp),fun _=>⟨by simpa using j1,fun u hu=>j2 u (by simp [hu])⟩⟩,⟨by simp,by simp⟩,by simp [spO],by simp only; omega⟩
      · rename_i c1 c2
        have hpf:put=false:=by
          cases put with
          | false=>rfl
          | true=>exact absurd ((i7 rfl).2 s (by rw [hd]; simp)) c2
        subst hpf
        refine ⟨⟨(i+1,acc,false,⟨min z.lo s.lo,max z.hi s.hi⟩),hi,by simp at i2 ⊢; omega,by simp only; omega,by simp only; omega,by simp only; omega,fun _=>?_,fun hp=>(by cases hp)⟩,by simp,by simp [spO],by simp only; omega⟩
        have:=i6 rfl
        rw [hd,join,if_neg ‹_›,if_neg ‹_›] at this
        simpa using this
    · obtain rfl:i=l.length:=by omega
      rw [List.drop_length] at i6 i7
      have hal:acc.length≤l.length+1:=by cases put <;> simp at i2 <;> omega
      (repeat' ((first
 | refine vn rfl ?_
 | simp (disch:=omega) only [wr64,Int.zero_sub]
 | refine bo (fun _=>?_) fun _=>?_
 | refine im fun _=>?_
 | refine cF ?_
 | refine om ?_
 | refine an ?_
 | fail) <;> try simp only [zT,zV,zS,zU,vcC,lateX,ex,strp,binA,elems,cells,scalar,eqC,keyA,intsA,lookA,ofVs,mpOf,Nat.reduceBEq,reduceAdd,reduceSub,reduceLT,reduceLeDiff,reduceMul,reduceEqDiff,reduceIte]))
      all_goals try (exfalso; omega)
      · rename_i c1 c2
        obtain rfl:put=false:=by simpa using c2
        have:=i6 rfl
        rw [join] at this
        rw [← this]
        exact frz_sp' (acc++[z]) (by simp [Sto.at]) (by simp)
      · rename_i c1 c2
        obtain rfl:put=true:=by simpa using c2
        have:=(i7 rfl).1
        rw [List.append_nil] at this
        rw [← this]
        exact frz_sp' acc (by simp [Sto.at]) rfl
theorem nee_caps {s:Sp} {b:List Sp} (hs:-1000000≤s.lo∧s.hi≤1000000) (hb:bdd b):bdd (caps s b):=fun x hx=>by
  obtain ⟨y,hy,rfl⟩:=List.mem_map.1 hx
  have:=hb y hy
  simp only [Sp.cap]; omega
theorem bdd_take {b:List Sp} (h:bdd b) (i:Nat):bdd (b.take i):=fun s hs=>h s (List.mem_of_mem_take hs)
theorem union_spec (a b:List Sp) (ha:OKs a) (hb:bdd b) (hne:nee b) (hbl:b.length < 2000000000):Pure Tryz.prog 126 [spS a,spS b] (spS (joins a b)):=by
  refine Pure.of_body Tryz.call126 Tryz.func126 k126 (Nat.le_of_ble_eq_true rfl) ?_
  unfold c126
  have hal:=ha.len
  (repeat' ((first
 | refine vn rfl ?_
 | simp (disch:=omega) only [wr64,Int.zero_sub]
 | refine bo (fun _=>?_) fun _=>?_
 | refine im fun _=>?_
 | refine cF ?_
 | refine om ?_
 | refine an ?_
 | fail) <;> try simp only [zT,zV,zS,zU,vcC,lateX,ex,strp,binA,elems,cells,scalar,eqC,keyA,intsA,lookA,ofVs,mpOf,Nat.reduceBEq,reduceAdd,reduceSub,reduceLT,reduceLeDiff,reduceMul,reduceEqDiff,reduceIte]))
  refine ⟨⟨rows_ok a,by omega⟩,?_⟩
  refine AWPC.freeze1 (t:=5) (n:=a.length) rfl rfl (by simp) (show (2:Nat)≠0 by decide) ?_
  (repeat' ((first
 | refine vn rfl ?_
 | simp (disch:=omega) only [wr64,Int.zero_sub]
 | refine bo (fun _=>?_) fun _=>?_
 | refine im fun _=>?_
 | refine cF ?_
 | refine om ?_
 | refine an ?_
 | fail) <;> try simp only [zT,zV,zS,zU,vcC,lateX,ex,strp,binA,elems,cells,scalar,eqC,keyA,intsA,lookA,ofVs,mpOf,Nat.reduceBEq,reduceAdd,reduceSub,reduceLT,reduceLeDiff,reduceMul,reduceEqDiff,reduceIte]))
  refine AWPC.loopE (α:={ y:Nat × Sto // y.1≤b.length }) [5,6] (fun y=>[(5,spS (joins a (b.take y.1.1))),(6,n y.1.1)]) (fun y=>y.1.2) (fun y=>b.length - y.1.1) ⟨(0,[none]),Nat.zero_le _⟩ ?_ rfl ?_
  · (simp only [zT,zV,zS,zU,vcC,lateX,ex,strp,binA,elems,cells,scalar,eqC,keyA,intsA,lookA,ofVs,mpOf,Nat.reduceBEq,reduceAdd,reduceSub,reduceLT,reduceLeDiff,reduceMul,reduceEqDiff,reduceIte]; try simp)
    try rfl
  rintro ⟨⟨i,μ⟩,hi⟩
  try simp only at hi
  try simp only
  by_cases hlt:i < b.length
  · obtain ⟨x,hx⟩:∃ x,b[i]?=some x:=⟨_,List.getElem?_eq_getElem hlt⟩
    have hxm:=List.mem_of_getElem? hx
    have hjn:=joins_next (l:=a) hx
    have had:=add_spec _ x (joins_ok (bdd_take hb i) ha) (hb x hxm) (hne x hxm)
    (repeat' ((first
 | refine vn rfl ?_
 | simp (disch:=omega) only [wr64,Int.zero_sub]
 | refine bo (fun _=>?_) fun _=>?_
 | refine im fun _=>?_
 | ((repeat refine si ?_); (first | ((first | refine .inl ⟨_,_,_,_,rfl,fun _=>pu had,?_⟩ | refine ⟨_,_,_,_,rfl,fun _=>pu had,?_⟩); (first | refine o1 ?_ | refine o2 ?_ | refine o3 ?_ | refine o4 ?_)) | refine .inl ⟨_,_,_,_,rfl,pu had,?_⟩))
 | refine cF ?_
 | refine om ?_
 | refine an ?_
 | fail) <;> try simp only [zT,zV,zS,zU,vcC,lateX,ex,strp,binA,elems,cells,scalar,eqC,keyA,intsA,lookA,ofVs,mpOf,Nat.reduceBEq,reduceAdd,reduceSub,reduceLT,reduceLeDiff,reduceMul,reduceEqDiff,reduceIte,getD_map hx]))
    all_goals try (exfalso; omega)
    exact ⟨⟨(i+1,μ),hlt⟩,⟨by simp only; rw [hjn],rfl⟩,rfl,by simp only; omega⟩
  · obtain rfl:i=b.length:=by omega
    rw [List.take_length]
    (repeat' ((first
 | refine vn rfl ?_
 | simp (disch:=omega) only [wr64,Int.zero_sub]
 | refine bo (fun _=>?_) fun _=>?_
 | refine im fun _=>?_
 | refine cF ?_
 | refine om ?_
 | refine an ?_
 | fail) <;> try simp only [zT,zV,zS,zU,vcC,lateX,ex,strp,binA,elems,cells,scalar,eqC,keyA,intsA,lookA,ofVs,mpOf,Nat.reduceBEq,reduceAdd,reduceSub,reduceLT,reduceLeDiff,reduceMul,reduceEqDiff,reduceIte]))
    all_goals try (exfalso; omega)
    all_goals exact Frz.eq rfl (by simp)
theorem wide_take {l:List Sp} {c:Sp} {i:Nat} {x:Sp} (h:l[i]?=some x):joins [] (Abs.wide (l.take (i+1)) c)=joinE (joins [] (Abs.wide (l.take i) c)) ⟨x.lo+c.lo,x.hi+c.hi⟩:=by
  rw [take_snoc h]; unfold Abs.wide; rw [List.map_append,joins_append]; rfl
theorem wide_bdd {l:List Sp} {c:Sp} (hl:∀ s∈l,-100000≤s.lo∧s.hi≤100000) (hc:chOk c):bdd (Abs.wide l c):=fun s hs=>by
  obtain ⟨x,hx,rfl⟩:=List.mem_map.1 hs
  have:=hl x hx; obtain ⟨c1,c2,c3⟩:=hc; simp only; omega
theorem wide_spec (l:List Sp) (c:Sp) (hl:good l) (hc:chOk c):Pure Tryz.prog 155 [spS l,.agg c.cs] (spS (joins [] (Abs.wide l c))):=by
  refine Pure.of_body Tryz.call155 Tryz.func155 k155 (Nat.le_of_ble_eq_true rfl) ?_
  unfold c155
  have hal:=good_len hl
  ((first
 | refine vn rfl ?_
 | simp (disch:=omega) only [wr64,Int.zero_sub]
 | refine bo (fun _=>?_) fun _=>?_
 | refine im fun _=>?_
 | refine cF ?_
 | refine om ?_
 | refine an ?_
 | fail) <;> try simp only [zT,zV,zS,zU,vcC,lateX,ex,strp,binA,elems,cells,scalar,eqC,keyA,intsA,lookA,ofVs,mpOf,Nat.reduceBEq,reduceAdd,reduceSub,reduceLT,reduceLeDiff,reduceMul,reduceEqDiff,reduceIte])
  ((first
 | refine vn rfl ?_
 | simp (disch:=omega) only [wr64,Int.zero_sub]
 | refine bo (fun _=>?_) fun _=>?_
 | refine im fun _=>?_
 | refine cF ?_
 | refine om ?_
 | refine an ?_
 | fail) <;> try simp only [zT,zV,zS,zU,vcC,lateX,ex,strp,binA,elems,cells,scalar,eqC,keyA,intsA,lookA,ofVs,mpOf,Nat.reduceBEq,reduceAdd,reduceSub,reduceLT,reduceLeDiff,reduceMul,reduceEqDiff,reduceIte])
  ((first
 | refine vn rfl ?_
 | simp (disch:=omega) only [wr64,Int.zero_sub]
 | refine bo (fun _=>?_) fun _=>?_
 | refine im fun _=>?_
 | refine cF ?_
 | refine om ?_
 | refine an ?_
 | fail) <;> try simp only [zT,zV,zS,zU,vcC,lateX,ex,strp,binA,elems,cells,scalar,eqC,keyA,intsA,lookA,ofVs,mpOf,Nat.reduceBEq,reduceAdd,reduceSub,reduceLT,reduceLeDiff,reduceMul,reduceEqDiff,reduceIte])
  ((first
 | refine vn rfl ?_
 | simp (disch:=omega) only [wr64,Int.zero_sub]
 | refine bo (fun _=>?_) fun _=>?_
 | refine im fun _=>?_
 | refine cF ?_
 | refine om ?_
 | refine an ?_
 | fail) <;> try simp only [zT,zV,zS,zU,vcC,lateX,ex,strp,binA,elems,cells,scalar,eqC,keyA,intsA,lookA,ofVs,mpOf,Nat.reduceBEq,reduceAdd,reduceSub,reduceLT,reduceLeDiff,reduceMul,reduceEqDiff,reduceIte])
  refine AWPC.nil0 2 5 rfl ?_
  (repeat' ((first
 | refine vn rfl ?_
 | simp (disch:=omega) only [wr64,Int.zero_sub]
 | refine bo (fun _=>?_) fun _=>?_
 | refine im fun _=>?_
 | refine cF ?_
 | refine om ?_
 | refine an ?_
 | fail) <;> try simp only [zT,zV,zS,zU,vcC,lateX,ex,strp,binA,elems,cells,scalar,eqC,keyA,intsA,lookA,ofVs,mpOf,Nat.reduceBEq,reduceAdd,reduceSub,reduceLT,reduceLeDiff,reduceMul,reduceEqDiff,reduceIte]))
  refine AWPC.loopE (α:={ y:Nat × Sto // y.1≤l.length }) [5,6] (fun y=>[(5,spS (joins [] (Abs.wide (l.take y.1.1) c))),(6,n y.1.1)]) (fun y=>y.1.2) (fun y=>l.length - y.1.1) ⟨(0,[]),Nat.zero_le _⟩ ?_ rfl ?_
  · (simp only [zT,zV,zS,zU,vcC,lateX,ex,strp,binA,elems,cells,scalar,eqC,keyA,intsA,lookA,ofVs,mpOf,Nat.reduceBEq,reduceAdd,reduceSub,reduceLT,reduceLeDiff,reduceMul,reduceEqDiff,reduceIte]; try simp)
    try rfl
  rintro ⟨⟨i,μ⟩,hi⟩
  try simp only at hi
  try simp only
  by_cases hlt:i < l.length
  · obtain ⟨x,hx⟩:∃ x,l[i]?=some x:=⟨_,List.getElem?_eq_getElem hlt⟩
    have hxm:=List.mem_of_getElem? hx
    have hxb:=hl.2 x hxm
    have hxn:=hl.1.ne x hxm
    have hjn:=wide_take (c:=c) hx
    obtain ⟨c1,c2,c3⟩:=hc
    have had:=add_spec _ ⟨x.lo+c.lo,x.hi+c.hi⟩ (joins_ok (wide_bdd (l:=l.take i) (fun s hs=>hl.2 s (List.mem_of_mem_take hs)) ⟨c1,c2,c3⟩) OKs.nil) (by simp only; omega) (by simp only; omega)
    (repeat' ((first
 | refine vn rfl ?_
 | simp (disch:=omega) only [wr64,Int.zero_sub]
 | refine bo (fun _=>?_) fun _=>?_
 | refine im fun _=>?_
 | ((repeat refine si ?_); (first | ((first | refine .inl ⟨_,_,_,_,rfl,fun _=>pu had,?_⟩ | refine ⟨_,_,_,_,rfl,fun _=>pu had,?_⟩); (first | refine o1 ?_ | refine o2 ?_ | refine o3 ?_ | refine o4 ?_)) | refine .inl ⟨_,_,_,_,rfl,pu had,?_⟩))
 | refine cF ?_
 | refine om ?_
 | refine an ?_
 | fail) <;> try simp only [zT,zV,zS,zU,vcC,lateX,ex,strp,binA,elems,cells,scalar,eqC,keyA,intsA,lookA,ofVs,mpOf,Nat.reduceBEq,reduceAdd,reduceSub,reduceLT,reduceLeDiff,reduceMul,reduceEqDiff,reduceIte,getD_map hx]))
    all_goals try (exfalso; omega)
    exact ⟨⟨(i+1,μ),hlt⟩,⟨by simp only; rw [hjn],rfl⟩,rfl,by simp only; omega⟩
  · obtain rfl:i=l.length:=by omega
    rw [List.take_length]
    (repeat' ((first
 | refine vn rfl ?_
 | simp (disch:=omega) only [wr64,Int.zero_sub]
 | refine bo (fun _=>?_) fun _=>?_
 | refine im fun _=>?_
 | refine cF ?_
 | refine om ?_
 | refine an ?_
 | fail) <;> try simp only [zT,zV,zS,zU,vcC,lateX,ex,strp,binA,elems,cells,scalar,eqC,keyA,intsA,lookA,ofVs,mpOf,Nat.reduceBEq,reduceAdd,reduceSub,reduceLT,reduceLeDiff,reduceMul,reduceEqDiff,reduceIte]))
    all_goals try (exfalso; omega)
    all_goals exact Frz.eq rfl (by simp)
theorem meet_ok {a b:List Sp} (hb:bdd b):OKs (meet a b):=⟨meet_norm a b,in_of_mem (meet_norm a b) fun v hv=>mem_of_in hb ((meet_mem a b v).1 hv).2⟩
theorem meetR_spec (a b:List Sp) (ha:bdd a) (hb:bdd b) (hal:a.length < 2000000000) (hbl:b.length < 2000000000):Pure Tryz.prog 127 [spS a,spS b] (spS (meet a b)):=by
  refine Pure.of_body Tryz.call127 Tryz.func127 k127 (Nat.le_of_ble_eq_true rfl) ?_
  unfold c127
  ((first
 | refine vn rfl ?_
 | simp (disch:=omega) only [wr64,Int.zero_sub]
 | refine bo (fun _=>?_) fun _=>?_
 | refine im fun _=>?_
 | refine cF ?_
 | refine om ?_
 | refine an ?_
 | fail) <;> try simp only [zT,zV,zS,zU,vcC,lateX,ex,strp,binA,elems,cells,scalar,eqC,keyA,intsA,lookA,ofVs,mpOf,Nat.reduceBEq,reduceAdd,reduceSub,reduceLT,reduceLeDiff,reduceMul,reduceEqDiff,reduceIte])
  ((first
 | refine vn rfl ?_
 | simp (disch:=omega) only [wr64,Int.zero_sub]
 | refine bo (fun _=>?_) fun _=>?_
 | refine im fun _=>?_
 | refine cF ?_
 | refine om ?_
 | refine an ?_
 | fail) <;> try simp only [zT,zV,zS,zU,vcC,lateX,ex,strp,binA,elems,cells,scalar,eqC,keyA,intsA,lookA,ofVs,mpOf,Nat.reduceBEq,reduceAdd,reduceSub,reduceLT,reduceLeDiff,reduceMul,reduceEqDiff,reduceIte])
  ((first
 | refine vn rfl ?_
 | simp (disch:=omega) only [wr64,Int.zero_sub]
 | refine bo (fun _=>?_) fun _=>?_
 | refine im fun _=>?_
 | refine cF ?_
 | refine om ?_
 | refine an ?_
 | fail) <;> try simp only [zT,zV,zS,zU,vcC,lateX,ex,strp,binA,elems,cells,scalar,eqC,keyA,intsA,lookA,ofVs,mpOf,Nat.reduceBEq,reduceAdd,reduceSub,reduceLT,reduceLeDiff,reduceMul,reduceEqDiff,reduceIte])
  ((first
 | refine vn rfl ?_
 | simp (disch:=omega) only [wr64,Int.zero_sub]
 | refine bo (fun _=>?_) fun _=>?_
 | refine im fun _=>?_
 | refine cF ?_
 | refine om ?_
 | refine an ?_
 | fail) <;> try simp only [zT,zV,zS,zU,vcC,lateX,ex,strp,binA,elems,cells,scalar,eqC,keyA,intsA,lookA,ofVs,mpOf,Nat.reduceBEq,reduceAdd,reduceSub,reduceLT,reduceLeDiff,reduceMul,reduceEqDiff,reduceIte])
  refine AWPC.nil0 2 5 rfl ?_
  (repeat' ((first
 | refine vn rfl ?_
 | simp (disch:=omega) only [wr64,Int.zero_sub]
 | refine bo (fun _=>?_) fun _=>?_
 | refine im fun _=>?_
 | refine cF ?_
 | refine om ?_
 | refine an ?_
 | fail) <;> try simp only [zT,zV,zS,zU,vcC,lateX,ex,strp,binA,elems,cells,scalar,eqC,keyA,intsA,lookA,ofVs,mpOf,Nat.reduceBEq,reduceAdd,reduceSub,reduceLT,reduceLeDiff,reduceMul,reduceEqDiff,reduceIte]))
  refine AWPC.loopE (α:={ y:Nat × Sto // y.1≤a.length }) [5,6] (fun y=>[(5,spS (meet (a.take y.1.1) b)),(6,n y.1.1)]) (fun y=>y.1.2) (fun y=>a.length - y.1.1) ⟨(0,[]),Nat.zero_le _⟩ ?_ rfl ?_
  · (simp only [zT,zV,zS,zU,vcC,lateX,ex,strp,binA,elems,cells,scalar,eqC,keyA,intsA,lookA,ofVs,mpOf,Nat.reduceBEq,reduceAdd,reduceSub,reduceLT,reduceLeDiff,reduceMul,reduceEqDiff,reduceIte]; try simp)
    try rfl
  rintro ⟨⟨i,μ⟩,hi⟩
  try simp only at hi
  try simp only
  by_cases hlt:i < a.length
  · obtain ⟨x,hx⟩:∃ x,a[i]?=some x:=⟨_,List.getElem?_eq_getElem hlt⟩
    have hxm:=List.mem_of_getElem? hx
    have hmn:=meet_next (b:=b) hx
    have hcl:(caps x b).length=b.length:=by simp [caps]
    (repeat' ((first
 | refine vn rfl ?_
 | simp (disch:=omega) only [wr64,Int.zero_sub]
 | refine bo (fun _=>?_) fun _=>?_
 | refine im fun _=>?_
 | refine cF ?_
 | refine om ?_
 | refine an ?_
 | fail) <;> try simp only [zT,zV,zS,zU,vcC,lateX,ex,strp,binA,elems,cells,scalar,eqC,keyA,intsA,lookA,ofVs,mpOf,Nat.reduceBEq,reduceAdd,reduceSub,reduceLT,reduceLeDiff,reduceMul,reduceEqDiff,reduceIte]))
    all_goals try (exfalso; omega)
    refine AWPC.loopE (α:={ y:Nat × Sto // y.1≤b.length }) [5,7] (fun y=>[(5,spS (joins (meet (a.take i) b) ((caps x b).take y.1.1))),(7,n y.1.1)]) (fun y=>y.1.2) (fun y=>b.length - y.1.1) ⟨(0,μ),Nat.zero_le _⟩ ?_ rfl ?_
    · (simp only [zT,zV,zS,zU,vcC,lateX,ex,strp,binA,elems,cells,scalar,eqC,keyA,intsA,lookA,ofVs,mpOf,Nat.reduceBEq,reduceAdd,reduceSub,reduceLT,reduceLeDiff,reduceMul,reduceEqDiff,reduceIte]; try simp)
      try rfl
    rintro ⟨⟨j,ν⟩,hj⟩
    try simp only at hj
    try simp only
    by_cases hlt2:j < b.length
    · obtain ⟨y,hy⟩:∃ y,b[j]?=some y:=⟨_,List.getElem?_eq_getElem hlt2⟩
      have hym:=List.mem_of_getElem? hy
      have hc:(caps x b)[j]?=some (x.cap y):=by unfold caps; rw [List.getElem?_map,hy]; rfl
      have hjn:=joins_next (l:=meet (a.take i) b) hc
      have hcb:=nee_caps (ha x hxm) hb
      have had:=add_spec _ (x.cap y) (joins_ok (bdd_take hcb j) (meet_ok (a:=a.take i) hb)) (hcb _ (List.mem_of_getElem? hc))
      generalize (caps x b).take j=Q at *
      (repeat' ((first
 | refine vn rfl ?_
 | simp (disch:=omega) only [wr64,Int.zero_sub]
 | refine bo (fun _=>?_) fun _=>?_
 | refine im fun _=>?_
 | ((repeat refine si ?_); (first | ((first | refine .inl ⟨_,_,_,_,rfl,fun _=>pu (had (by simp only [Sp.cap]; omega)),?_⟩ | refine ⟨_,_,_,_,rfl,fun _=>pu (had (by simp only [Sp.cap]; omega)),?_⟩); (first | refine o1 ?_ | refine o2 ?_ | refine o3 ?_ | refine o4 ?_)) | refine .inl ⟨_,_,_,_,rfl,pu (had (by simp only [Sp.cap]; omega)),?_⟩))
 | refine cF ?_
 | refine om ?_
 | refine an ?_
 | fail) <;> try simp only [zT,zV,zS,zU,vcC,lateX,ex,strp,binA,elems,cells,scalar,eqC,keyA,intsA,lookA,ofVs,mpOf,Nat.reduceBEq,reduceAdd,reduceSub,reduceLT,reduceLeDiff,reduceMul,reduceEqDiff,reduceIte,getD_map hx,getD_map hy]))
      all_goals try (exfalso; omega)
      · rename_i h
        exact ⟨⟨(j+1,ν++[some [⟨30,2,[Sp.cs (x.cap y)],none⟩]]),hlt2⟩,⟨by simp only; rw [hjn],rfl⟩,rfl,by simp only; omega⟩
      · rename_i h
        have hE:joinE (joins (meet (a.take i) b) Q) (x.cap y)=joins (meet (a.take i) b) Q:=if_pos (by simp only [Sp.cap]; omega)
        exact ⟨⟨(j+1,ν++[some [⟨30,2,[Sp.cs (x.cap y)],none⟩]]),hlt2⟩,⟨by simp only; rw [hjn,hE],rfl⟩,rfl,by simp only; omega⟩
    · obtain rfl:j=b.length:=by omega
      have hct:(caps x b).take b.length=caps x b:=by rw [← hcl,List.take_length]
      rw [hct,← hmn]
      (repeat' ((first
 | refine vn rfl ?_
 | simp (disch:=omega) only [wr64,Int.zero_sub]
 | refine bo (fun _=>?_) fun _=>?_
 | refine im fun _=>?_
 | refine cF ?_
 | refine om ?_
 | refine an ?_
 | fail) <;> try simp only [zT,zV,zS,zU,vcC,lateX,ex,strp,binA,elems,cells,scalar,eqC,keyA,intsA,lookA,ofVs,mpOf,Nat.reduceBEq,reduceAdd,reduceSub,reduceLT,reduceLeDiff,reduceMul,reduceEqDiff,reduceIte]))
      all_goals try (exfalso; omega)
      exact ⟨⟨(i+1,ν),hlt⟩,⟨rfl,rfl⟩,rfl,by simp only; omega⟩
  · obtain rfl:i=a.length:=by omega
    rw [List.take_length]
    (repeat' ((first
 | refine vn rfl ?_
 | simp (disch:=omega) only [wr64,Int.zero_sub]
 | refine bo (fun _=>?_) fun _=>?_
 | refine im fun _=>?_
 | refine cF ?_
 | refine om ?_
 | refine an ?_
 | fail) <;> try simp only [zT,zV,zS,zU,vcC,lateX,ex,strp,binA,elems,cells,scalar,eqC,keyA,intsA,lookA,ofVs,mpOf,Nat.reduceBEq,reduceAdd,reduceSub,reduceLT,reduceLeDiff,reduceMul,reduceEqDiff,reduceIte]))
    all_goals try (exfalso; omega)
    all_goals exact Frz.eq rfl (by simp)
theorem unis_take {l:List (List Sp)} {i:Nat} {x:List Sp} (h:l[i]?=some x):unis (l.take (i+1))=joins (unis (l.take i)) x:=by
  rw [take_snoc h]; unfold unis; rw [List.flatten_append,joins_append]; simp
theorem valuesR_spec (l:List (List Sp)) (hl:l.length < 9223372036854775808) (hx:goods l):Pure Tryz.prog 73 [nodS l] (spS (unis l)):=by
  refine Pure.of_body Tryz.call73 Tryz.func73 k73 (Nat.le_of_ble_eq_true rfl) ?_
  unfold c73
  ((first
 | refine vn rfl ?_
 | simp (disch:=omega) only [wr64,Int.zero_sub]
 | refine bo (fun _=>?_) fun _=>?_
 | refine im fun _=>?_
 | refine cF ?_
 | refine om ?_
 | refine an ?_
 | fail) <;> try simp only [zT,zV,zS,zU,vcC,lateX,ex,strp,binA,elems,cells,scalar,eqC,keyA,intsA,lookA,ofVs,mpOf,Nat.reduceBEq,reduceAdd,reduceSub,reduceLT,reduceLeDiff,reduceMul,reduceEqDiff,reduceIte])
  ((first
 | refine vn rfl ?_
 | simp (disch:=omega) only [wr64,Int.zero_sub]
 | refine bo (fun _=>?_) fun _=>?_
 | refine im fun _=>?_
 | refine cF ?_
 | refine om ?_
 | refine an ?_
 | fail) <;> try simp only [zT,zV,zS,zU,vcC,lateX,ex,strp,binA,elems,cells,scalar,eqC,keyA,intsA,lookA,ofVs,mpOf,Nat.reduceBEq,reduceAdd,reduceSub,reduceLT,reduceLeDiff,reduceMul,reduceEqDiff,reduceIte])
  ((first
 | refine vn rfl ?_
 | simp (disch:=omega) only [wr64,Int.zero_sub]
 | refine bo (fun _=>?_) fun _=>?_
 | refine im fun _=>?_
 | refine cF ?_
 | refine om ?_
 | refine an ?_
 | fail) <;> try simp only [zT,zV,zS,zU,vcC,lateX,ex,strp,binA,elems,cells,scalar,eqC,keyA,intsA,lookA,ofVs,mpOf,Nat.reduceBEq,reduceAdd,reduceSub,reduceLT,reduceLeDiff,reduceMul,reduceEqDiff,reduceIte])
  ((first
 | refine vn rfl ?_
 | simp (disch:=omega) only [wr64,Int.zero_sub]
 | refine bo (fun _=>?_) fun _=>?_
 | refine im fun _=>?_
 | refine cF ?_
 | refine om ?_
 | refine an ?_
 | fail) <;> try simp only [zT,zV,zS,zU,vcC,lateX,ex,strp,binA,elems,cells,scalar,eqC,keyA,intsA,lookA,ofVs,mpOf,Nat.reduceBEq,reduceAdd,reduceSub,reduceLT,reduceLeDiff,reduceMul,reduceEqDiff,reduceIte])
  refine AWPC.nil0 2 3 rfl ?_
  (repeat' ((first
 | refine vn rfl ?_
 | simp (disch:=omega) only [wr64,Int.zero_sub]
 | refine bo (fun _=>?_) fun _=>?_
 | refine im fun _=>?_
 | refine cF ?_
 | refine om ?_
 | refine an ?_
 | fail) <;> try simp only [zT,zV,zS,zU,vcC,lateX,ex,strp,binA,elems,cells,scalar,eqC,keyA,intsA,lookA,ofVs,mpOf,Nat.reduceBEq,reduceAdd,reduceSub,reduceLT,reduceLeDiff,reduceMul,reduceEqDiff,reduceIte]))
  refine AWPC.loopE (α:={ y:Nat // y≤l.length }) [3,4] (fun y=>[(3,spS (unis (l.take y.1))),(4,n y.1)]) (fun y=>[]) (fun y=>l.length - y.1) ⟨0,Nat.zero_le _⟩ ?_ rfl ?_
  · (simp only [zT,zV,zS,zU,vcC,lateX,ex,strp,binA,elems,cells,scalar,eqC,keyA,intsA,lookA,ofVs,mpOf,Nat.reduceBEq,reduceAdd,reduceSub,reduceLT,reduceLeDiff,reduceMul,reduceEqDiff,reduceIte]; try simp)
    try rfl
  rintro ⟨i,hi⟩
  try simp only at hi
  try simp only
  by_cases hlt:i < l.length
  · obtain ⟨x,hx'⟩:∃ x,l[i]?=some x:=⟨_,List.getElem?_eq_getElem hlt⟩
    have hxg:=hx x (List.mem_of_getElem? hx')
    have hut:=unis_take hx'
    have hok:OKs (unis (l.take i)):=joins_ok (fun s hs=>by
      obtain ⟨u,hu,hs⟩:=List.mem_flatten.1 hs
      have:=(hx u (List.mem_of_mem_take hu)).2 s hs; omega) OKs.nil
    have hun:=union_spec _ x hok (good_ok hxg).bd hxg.1.ne (by have:=good_len hxg; omega)
    (repeat' ((first
 | refine vn rfl ?_
 | simp (disch:=omega) only [wr64,Int.zero_sub]
 | refine bo (fun _=>?_) fun _=>?_
 | refine im fun _=>?_
 | ((repeat refine si ?_); (first | ((first | refine .inl ⟨_,_,_,_,rfl,fun _=>pu hun,?_⟩ | refine ⟨_,_,_,_,rfl,fun _=>pu hun,?_⟩); (first | refine o1 ?_ | refine o2 ?_ | refine o3 ?_ | refine o4 ?_)) | refine .inl ⟨_,_,_,_,rfl,pu hun,?_⟩))
 | refine cF ?_
 | refine om ?_
 | refine an ?_
 | fail) <;> try simp only [zT,zV,zS,zU,vcC,lateX,ex,strp,binA,elems,cells,scalar,eqC,keyA,intsA,lookA,ofVs,mpOf,Nat.reduceBEq,reduceAdd,reduceSub,reduceLT,reduceLeDiff,reduceMul,reduceEqDiff,reduceIte,getD_map hx']))
    all_goals try (exfalso; omega)
    exact ⟨⟨i+1,hlt⟩,⟨by simp only; rw [hut],rfl⟩,by simp only; omega⟩
  · obtain rfl:i=l.length:=by omega
    rw [List.take_length]
    (repeat' ((first
 | refine vn rfl ?_
 | simp (disch:=omega) only [wr64,Int.zero_sub]
 | refine bo (fun _=>?_) fun _=>?_
 | refine im fun _=>?_
 | refine cF ?_
 | refine om ?_
 | refine an ?_
 | fail) <;> try simp only [zT,zV,zS,zU,vcC,lateX,ex,strp,binA,elems,cells,scalar,eqC,keyA,intsA,lookA,ofVs,mpOf,Nat.reduceBEq,reduceAdd,reduceSub,reduceLT,reduceLeDiff,reduceMul,reduceEqDiff,reduceIte]))
    all_goals try (exfalso; omega)
    all_goals exact Frz.eq rfl (by simp)
end Go.Proofs.YtahkhnagpdlkiaaGreat
