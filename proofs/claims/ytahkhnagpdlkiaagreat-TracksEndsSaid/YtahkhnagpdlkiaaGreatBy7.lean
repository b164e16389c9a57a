/- Part 7 of the texts that the claim rests on: abstract values over the walk, and contracts of functions. -/
import Derived.Test.YtahkhnagpdlkiaaGreatBy6
import Derived.Test.YtahkhnagpdlkiaaGreatRows
namespace Go.Proofs.YtahkhnagpdlkiaaGreat
open Go.Abs
open Nat (reduceAdd reduceSub reduceLT reduceLeDiff reduceMul reduceEqDiff)
set_option linter.unusedVariables false
set_option linter.unusedSimpArgs false
set_option maxHeartbeats 4000000
set_option maxRecDepth 100000
def c101:CF:=⟨78,
 (.seq (.ops [
 ⟨some 3,.box false 24 1 (.t 0),none⟩,
 ⟨some 6,.alloc 24 1 [.slice none 0 0],none⟩] [1,2,3,6])
 (.seq (.ops [
 ⟨some 7,.alloc 24 1 [.slice none 0 0],none⟩] [1,2,3,6,7])
 (.seq (.seq (.ops [
 ⟨some 17,.faddr 0 (.t 3),none⟩,
 ⟨some 18,.load none (.t 17),none⟩,
 ⟨some 19,.len (.t 18),none⟩,
 ⟨some 20,.mv (.c (.int .i64 0)),none⟩] [1,2,6,7,18,19,20])
 (.block 0 (.loop (.seq (.ops [
 ⟨some 21,.bin .lss (.t 20) (.t 19),none⟩] [1,2,6,7,18,19,20,21])
 (.seq (.cond (.t 21) .skip
 (.exit 0))
 (.seq (.block 1 (.seq (.ops [
 ⟨some 22,.mv (.t 20),none⟩,
 ⟨some 23,.iaddr 1 (.t 18) (.t 20),none⟩,
 ⟨some 24,.load none (.t 23),none⟩,
 ⟨some 8,.mv (.t 22),none⟩,
 ⟨some 9,.mv (.t 24),none⟩] [1,2,6,7,8,9,18,19,20])
 (.seq (.ops [
 ⟨some 10,.mv (.c (.slice none 0 0)),none⟩] [1,2,6,7,8,9,10,18,19,20])
 (.seq (.seq (.ops [
 ⟨some 25,.mv (.t 9),none⟩,
 ⟨some 26,.len (.t 25),none⟩,
 ⟨some 27,.mv (.c (.int .i64 0)),none⟩] [1,2,6,7,8,10,18,19,20,25,26,27])
 (.block 2 (.loop (.seq (.ops [
 ⟨some 28,.bin .lss (.t 27) (.t 26),none⟩] [1,2,6,7,8,10,18,19,20,25,26,27,28])
 (.seq (.cond (.t 28) .skip
 (.exit 2))
 (.seq (.block 3 (.seq (.ops [
 ⟨some 29,.mv (.t 27),none⟩,
 ⟨some 30,.iaddr 2 (.t 25) (.t 27),none⟩,
 ⟨some 31,.load (some 2) (.t 30),none⟩,
 ⟨some 12,.alloc 80 2 [.slice none 0 0,.slice none 0 0],none⟩,
 ⟨some 11,.mv (.t 29),none⟩,
 ⟨none,.store 2 (.t 12) (.t 31),none⟩] [1,2,6,7,8,10,11,12,18,19,20,25,26,27])
 (.seq (.ops [
 ⟨some 32,.mv (.t 1),none⟩,
 ⟨some 33,.mv (.t 8),none⟩,
 ⟨some 34,.mv (.t 11),none⟩,
 ⟨some 35,.call (.t 32) [(.t 33),(.t 34)],none⟩,
 ⟨some 36,.call (.f 129) [(.t 35)],none⟩,
 ⟨some 37,.build [.slice none 0 0,.slice none 0 0] [(0,1,(.t 36))],none⟩,
 ⟨some 13,.alloc 80 2 [.slice none 0 0,.slice none 0 0],none⟩,
 ⟨none,.store 2 (.t 13) (.t 37),none⟩] [1,2,6,7,8,10,12,13,18,19,20,25,26,27])
 (.seq (.seq (.ops [
 ⟨some 38,.faddr 1 (.t 12),none⟩,
 ⟨some 39,.load none (.t 38),none⟩,
 ⟨some 40,.len (.t 39),none⟩,
 ⟨some 41,.mv (.c (.int .i64 0)),none⟩] [1,2,6,7,8,10,13,18,19,20,25,26,27,39,40,41])
 (.block 4 (.loop (.seq (.ops [
 ⟨some 42,.bin .lss (.t 41) (.t 40),none⟩] [1,2,6,7,8,10,13,18,19,20,25,26,27,39,40,41,42])
 (.seq (.cond (.t 42) .skip
 (.exit 4))
 (.seq (.block 5 (.seq (.ops [
 ⟨some 43,.iaddr 3 (.t 39) (.t 41),none⟩,
 ⟨some 44,.load (some 3) (.t 43),none⟩,
 ⟨some 15,.alloc 124 3 [.int .i64 0,.int .i64 0,.int .i64 0],none⟩,
 ⟨none,.store 3 (.t 15) (.t 44),none⟩] [1,2,6,7,8,10,13,15,18,19,20,25,26,27,39,40,41])
 (.seq (.ops [
 ⟨some 45,.mv (.t 2),none⟩,
 ⟨some 46,.mv (.t 8),none⟩,
 ⟨some 47,.faddr 1 (.t 15),none⟩,
 ⟨some 48,.load (some 2) (.t 47),none⟩,
 ⟨some 49,.call (.t 45) [(.t 46),(.t 48)],none⟩,
 ⟨some 16,.alloc 30 2 [.int .i64 0,.int .i64 0],none⟩,
 ⟨none,.store 2 (.t 16) (.t 49),none⟩] [1,2,6,7,8,10,13,15,16,18,19,20,25,26,27,39,40,41])
 (.seq (.ops [
 ⟨some 50,.faddr 0 (.t 16),none⟩,
 ⟨some 51,.load none (.t 50),none⟩,
 ⟨some 52,.faddr 1 (.t 16),none⟩,
 ⟨some 53,.load none (.t 52),none⟩,
 ⟨some 54,.bin .leq (.t 51) (.t 53),none⟩] [1,2,6,7,8,10,13,15,16,18,19,20,25,26,27,39,40,41,54])
 (.cond (.t 54) (.ops [
 ⟨some 55,.faddr 1 (.t 13),none⟩,
 ⟨some 56,.load none (.t 55),none⟩,
 ⟨some 57,.faddr 0 (.t 15),none⟩,
 ⟨some 58,.load none (.t 57),none⟩,
 ⟨some 59,.load (some 2) (.t 16),none⟩,
 ⟨some 60,.build [.int .i64 0,.int .i64 0,.int .i64 0] [(0,1,(.t 58)),(1,2,(.t 59))],none⟩,
 ⟨some 61,.bsl false 124 3 1 [.int .i64 0,.int .i64 0,.int .i64 0] [(0,3,(.t 60))],none⟩,
 ⟨some 62,.app 124 3 24 (.t 56) (.t 61),none⟩,
 ⟨some 63,.faddr 1 (.t 13),none⟩,
 ⟨none,.store 1 (.t 63) (.t 62),none⟩] [1,2,6,7,8,10,13,18,19,20,25,26,27,39,40,41])
 .skip)))))
 (.ops [
 ⟨some 64,.bin .add (.t 41) (.c (.int .i64 1)),none⟩,
 ⟨some 41,.mv (.t 64),none⟩] [1,2,6,7,8,10,13,18,19,20,25,26,27,39,40,41])))))))
 (.ops [
 ⟨some 65,.mv (.t 10),none⟩,
 ⟨some 66,.load (some 2) (.t 13),none⟩,
 ⟨some 67,.bsl false 80 2 1 [.slice none 0 0,.slice none 0 0] [(0,2,(.t 66))],none⟩,
 ⟨some 68,.app 80 2 48 (.t 65) (.t 67),none⟩,
 ⟨some 10,.mv (.t 68),none⟩] [1,2,6,7,8,10,18,19,20,25,26,27])))))
 (.ops [
 ⟨some 69,.bin .add (.t 27) (.c (.int .i64 1)),none⟩,
 ⟨some 27,.mv (.t 69),none⟩] [1,2,6,7,8,10,18,19,20,25,26,27])))))))
 (.ops [
 ⟨some 70,.faddr 0 (.t 7),none⟩,
 ⟨some 71,.load none (.t 70),none⟩,
 ⟨some 72,.mv (.t 10),none⟩,
 ⟨some 73,.bsl false 68 1 1 [.slice none 0 0] [(0,1,(.t 72))],none⟩,
 ⟨some 74,.app 68 1 24 (.t 71) (.t 73),none⟩,
 ⟨some 75,.faddr 0 (.t 7),none⟩,
 ⟨none,.store 1 (.t 75) (.t 74),none⟩] [1,2,6,7,18,19,20])))))
 (.ops [
 ⟨some 76,.bin .add (.t 20) (.c (.int .i64 1)),none⟩,
 ⟨some 20,.mv (.t 76),none⟩] [1,2,6,7,18,19,20])))))))
 (.seq (.ops [
 ⟨some 77,.load (some 1) (.t 7),none⟩,
 ⟨none,.store 1 (.t 6) (.t 77),none⟩] [6])
 .ret)))),
 [.c 6 (some 1)]⟩
def c103:CF:=⟨6,
 (.seq (.ops [
 ⟨some 3,.box false 30 2 (.t 1),none⟩,
 ⟨some 4,.alloc 30 2 [.int .i64 0,.int .i64 0],none⟩] [3,4])
 (.seq (.ops [
 ⟨some 5,.load (some 2) (.t 3),none⟩,
 ⟨none,.store 2 (.t 4) (.t 5),none⟩] [4])
 .ret)),
 [.c 4 (some 2)]⟩
def c100:CF:=⟨35,
 (.seq (.ops [
 ⟨some 1,.box false 24 1 (.t 0),none⟩,
 ⟨some 2,.alloc 24 1 [.slice none 0 0],none⟩,
 ⟨some 3,.mv (.c (.int .i64 0)),none⟩] [1,2])
 (.seq (.seq (.ops [
 ⟨some 8,.faddr 0 (.t 1),none⟩,
 ⟨some 9,.load none (.t 8),none⟩,
 ⟨some 10,.len (.t 9),none⟩,
 ⟨some 11,.mv (.c (.int .i64 0)),none⟩] [1,2,9,10,11])
 (.block 0 (.loop (.seq (.ops [
 ⟨some 12,.bin .lss (.t 11) (.t 10),none⟩] [1,2,9,10,11,12])
 (.seq (.cond (.t 12) .skip
 (.exit 0))
 (.seq (.block 1 (.seq (.ops [
 ⟨some 13,.iaddr 1 (.t 9) (.t 11),none⟩,
 ⟨some 14,.load none (.t 13),none⟩,
 ⟨some 5,.mv (.t 14),none⟩] [1,2,5,9,10,11])
 (.seq (.ops [
 ⟨some 15,.mv (.t 5),none⟩,
 ⟨some 16,.len (.t 15),none⟩,
 ⟨some 17,.mv (.c (.int .i64 0)),none⟩] [1,2,9,10,11,15,16,17])
 (.block 2 (.loop (.seq (.ops [
 ⟨some 18,.bin .lss (.t 17) (.t 16),none⟩] [1,2,9,10,11,15,16,17,18])
 (.seq (.cond (.t 18) .skip
 (.exit 2))
 (.seq (.block 3 (.seq (.ops [
 ⟨some 19,.iaddr 2 (.t 15) (.t 17),none⟩,
 ⟨some 20,.load (some 2) (.t 19),none⟩,
 ⟨some 7,.alloc 80 2 [.slice none 0 0,.slice none 0 0],none⟩,
 ⟨none,.store 2 (.t 7) (.t 20),none⟩] [1,2,7,9,10,11,15,16,17])
 (.seq (.ops [
 ⟨some 21,.faddr 0 (.t 7),none⟩,
 ⟨some 22,.load none (.t 21),none⟩,
 ⟨some 23,.len (.t 22),none⟩,
 ⟨some 24,.bin .gtr (.t 23) (.c (.int .i64 64)),none⟩,
 ⟨some 25,.mv (.t 24),none⟩,
 ⟨some 26,.faddr 1 (.t 7),some (25,false)⟩,
 ⟨some 27,.load none (.t 26),some (25,false)⟩,
 ⟨some 28,.len (.t 27),some (25,false)⟩,
 ⟨some 29,.bin .gtr (.t 28) (.c (.int .i64 64)),some (25,false)⟩,
 ⟨some 30,.pick (.t 25) (.c (.bool true)) (.t 29),none⟩] [1,2,9,10,11,15,16,17,30])
 (.cond (.t 30) (.seq (.ops [
 ⟨some 31,.build [.slice none 0 0] [],none⟩,
 ⟨none,.store 1 (.t 2) (.t 31),none⟩,
 ⟨some 3,.mv (.c (.int .i64 2)),none⟩] [2,3])
 .ret)
 .skip))))
 (.ops [
 ⟨some 32,.bin .add (.t 17) (.c (.int .i64 1)),none⟩,
 ⟨some 17,.mv (.t 32),none⟩] [1,2,9,10,11,15,16,17])))))))))
 (.ops [
 ⟨some 33,.bin .add (.t 11) (.c (.int .i64 1)),none⟩,
 ⟨some 11,.mv (.t 33),none⟩] [1,2,9,10,11])))))))
 (.seq (.ops [
 ⟨some 34,.load (some 1) (.t 1),none⟩,
 ⟨none,.store 1 (.t 2) (.t 34),none⟩,
 ⟨some 3,.mv (.c (.int .i64 0)),none⟩] [2,3])
 .ret))),
 [.c 2 (some 1),.t 3]⟩
def c99:CF:=⟨15,
 (.seq (.ops [
 ⟨some 2,.box false 65 2 (.t 0),none⟩,
 ⟨some 3,.mv (.c (.bool false)),none⟩] [1,2])
 (.seq (.ops [
 ⟨some 4,.load (some 1) (.t 1),none⟩,
 ⟨some 5,.faddr 0 (.t 2),none⟩,
 ⟨some 6,.load none (.t 5),none⟩,
 ⟨some 7,.call (.f 92) [(.t 4),(.t 6)],none⟩,
 ⟨some 8,.un .not (.t 7),none⟩,
 ⟨some 9,.mv (.t 8),none⟩,
 ⟨some 10,.faddr 1 (.t 2),some (9,false)⟩,
 ⟨some 11,.load none (.t 10),some (9,false)⟩,
 ⟨some 12,.call (.f 78) [(.t 11)],some (9,false)⟩,
 ⟨some 13,.un .not (.t 12),some (9,false)⟩,
 ⟨some 14,.pick (.t 9) (.c (.bool true)) (.t 13),none⟩,
 ⟨some 3,.mv (.t 14),none⟩] [3])
 .ret)),
 [.t 3]⟩
def c102:CF:=⟨35,
 (.seq (.ops [
 ⟨some 6,.mv (.c (.slice none 0 0)),none⟩] [0,1,2,3])
 (.seq (.ops [
 ⟨some 10,.faddr 0 (.t 2),none⟩,
 ⟨some 11,.load none (.t 10),none⟩,
 ⟨some 12,.mv (.t 0),none⟩,
 ⟨some 13,.iaddr 1 (.t 11) (.t 12),none⟩,
 ⟨some 14,.load none (.t 13),none⟩,
 ⟨some 15,.mv (.t 1),none⟩,
 ⟨some 16,.iaddr 2 (.t 14) (.t 15),none⟩,
 ⟨some 17,.faddr 0 (.t 16),none⟩,
 ⟨some 18,.load none (.t 17),none⟩,
 ⟨some 7,.mv (.t 18),none⟩] [0,3,7])
 (.seq (.seq (.ops [
 ⟨some 19,.load none (.t 3),none⟩,
 ⟨some 20,.len (.t 19),none⟩,
 ⟨some 21,.mv (.c (.int .i64 0)),none⟩] [0,7,19,20,21])
 (.block 0 (.loop (.seq (.ops [
 ⟨some 22,.bin .lss (.t 21) (.t 20),none⟩] [0,7,19,20,21,22])
 (.seq (.cond (.t 22) .skip
 (.exit 0))
 (.seq (.block 1 (.seq (.ops [
 ⟨some 23,.iaddr 2 (.t 19) (.t 21),none⟩,
 ⟨some 24,.load (some 2) (.t 23),none⟩,
 ⟨some 9,.alloc 65 2 [.int .i64 0,.slice none 0 0],none⟩,
 ⟨none,.store 2 (.t 9) (.t 24),none⟩] [0,7,9,19,20,21])
 (.seq (.ops [
 ⟨some 25,.faddr 0 (.t 9),none⟩,
 ⟨some 26,.load none (.t 25),none⟩,
 ⟨some 27,.mv (.t 0),none⟩,
 ⟨some 28,.bin .eql (.t 26) (.t 27),none⟩] [0,7,9,19,20,21,28])
 (.cond (.t 28) (.ops [
 ⟨some 29,.mv (.t 7),none⟩,
 ⟨some 30,.faddr 1 (.t 9),none⟩,
 ⟨some 31,.load none (.t 30),none⟩,
 ⟨some 32,.call (.f 81) [(.t 29),(.t 31)],none⟩,
 ⟨some 7,.mv (.t 32),none⟩] [0,7,19,20,21])
 .skip))))
 (.ops [
 ⟨some 33,.bin .add (.t 21) (.c (.int .i64 1)),none⟩,
 ⟨some 21,.mv (.t 33),none⟩] [0,7,19,20,21])))))))
 (.seq (.ops [
 ⟨some 34,.mv (.t 7),none⟩,
 ⟨some 6,.mv (.t 34),none⟩] [6])
 .ret)))),
 [.t 6]⟩
def c42:CF:=⟨23,
 (.seq (.ops [
 ⟨some 2,.box false 24 1 (.t 0),none⟩,
 ⟨some 3,.box false 28 1 (.t 1),none⟩,
 ⟨some 4,.alloc 24 1 [.slice none 0 0],none⟩,
 ⟨some 5,.mv (.c (.int .i64 0)),none⟩] [2,3,4])
 (.seq (.seq (.ops [
 ⟨some 7,.load (some 1) (.t 2),none⟩,
 ⟨some 8,.call (.f 53) [(.t 7)],none⟩,
 ⟨some 6,.mv (.t 8),none⟩] [2,3,4,6])
 (.seq (.ops [
 ⟨some 9,.mv (.t 6),none⟩,
 ⟨some 10,.bin .neq (.t 9) (.c (.int .i64 0)),none⟩] [2,3,4,6,10])
 (.cond (.t 10) (.seq (.ops [
 ⟨some 11,.build [.slice none 0 0] [],none⟩,
 ⟨some 12,.mv (.t 6),none⟩,
 ⟨none,.store 1 (.t 4) (.t 11),none⟩,
 ⟨some 5,.mv (.t 12),none⟩] [4,5])
 .ret)
 .skip)))
 (.seq (.seq (.ops [
 ⟨some 13,.load none (.t 3),none⟩,
 ⟨some 14,.mkfn (.func 99) [] [(.t 2)],none⟩,
 ⟨some 15,.call (.f 98) [(.t 13),(.t 14)],none⟩] [2,3,4,15])
 (.cond (.t 15) (.seq (.ops [
 ⟨some 16,.build [.slice none 0 0] [],none⟩,
 ⟨none,.store 1 (.t 4) (.t 16),none⟩,
 ⟨some 5,.mv (.c (.int .i64 1)),none⟩] [4,5])
 .ret)
 .skip))
 (.seq (.ops [
 ⟨some 17,.load (some 1) (.t 2),none⟩,
 ⟨some 18,.mkfn (.func 102) [] [(.t 2),(.t 3)],none⟩,
 ⟨some 19,.call (.f 101) [(.t 17),(.t 18),(.f 103)],none⟩,
 ⟨some 20,.call (.f 100) [(.t 19)],none⟩,
 ⟨some 21,.ext 0 (.t 20),none⟩,
 ⟨some 22,.ext 1 (.t 20),none⟩,
 ⟨none,.store 1 (.t 4) (.t 21),none⟩,
 ⟨some 5,.mv (.t 22),none⟩] [4,5])
 .ret)))),
 [.c 4 (some 1),.t 5]⟩
theorem k101:chkF Tryz.prog Tryz.f101 c101=true:=by kernel_rfl
theorem k103:chkF Tryz.prog Tryz.f103 c103=true:=by kernel_rfl
theorem k100:chkF Tryz.prog Tryz.f100 c100=true:=by kernel_rfl
theorem k99:chkF Tryz.prog Tryz.f99 c99=true:=by kernel_rfl
theorem k102:chkF Tryz.prog Tryz.f102 c102=true:=by kernel_rfl
theorem k42:chkF Tryz.prog Tryz.f42 c42=true:=by kernel_rfl
def chgE (chg:Sp→Sp) (e:Edg):List Edg:=if (chg e.ch).lo≤(chg e.ch).hi then [⟨e.to,chg e.ch⟩] else []
def copyN (al:List Sp) (chg:Sp→Sp) (x:Nod):Nod:=⟨al,x.nx.flatMap (chgE chg)⟩
def copyL (al:Nat→List Sp) (chg:Sp→Sp):Nat→List Nod→List Nod
  | _,[]=>[]
  | i,x::r=>copyN (al i) chg x::copyL al chg (i+1) r
def copyF (al:Nat→Nat→List Sp) (chg:Nat→Sp→Sp):Nat→Trk→Trk
  | _,[]=>[]
  | k,l::r=>copyL (al k) (chg k) 0 l::copyF al chg (k+1) r
abbrev copyT (t:Trk) (al:Nat→Nat→List Sp) (chg:Nat→Sp→Sp):Trk:=copyF al chg 0 t
theorem copyL_len (al:Nat→List Sp) (chg:Sp→Sp):∀ (l:List Nod) (i:Nat),(copyL al chg i l).length=l.length
  | [],_=>rfl
  | x::r,i=>by simp [copyL,copyL_len al chg r]
theorem copyF_len (al:Nat→Nat→List Sp) (chg:Nat→Sp→Sp):∀ (t:Trk) (k:Nat),(copyF al chg k t).length=t.length
  | [],_=>rfl
  | x::r,i=>by simp [copyF,copyF_len al chg r]
theorem copyL_take (al:Nat→List Sp) (chg:Sp→Sp):∀ (l:List Nod) (i m:Nat) (x:Nod),l[m]?=some x→copyL al chg i (l.take (m+1))=copyL al chg i (l.take m)++[copyN (al (i+m)) chg x]
  | [],_,_,_,h=>by simp at h
  | y::r,i,0,x,h=>by simp at h; subst h; rfl
  | y::r,i,m+1,x,h=>by
    have:=copyL_take al chg r (i+1) m x (by simpa using h)
    rw [List.take_succ_cons,copyL,this,show i+1+m=i+(m+1) by omega]; rfl
theorem copyF_take (al:Nat→Nat→List Sp) (chg:Nat→Sp→Sp):∀ (l:Trk) (i m:Nat) (x:List Nod),l[m]?=some x→copyF al chg i (l.take (m+1))=copyF al chg i (l.take m)++[copyL (al (i+m)) (chg (i+m)) 0 x]
  | [],_,_,_,h=>by simp at h
  | y::r,i,0,x,h=>by simp at h; subst h; rfl
  | y::r,i,m+1,x,h=>by
    have:=copyF_take al chg r (i+1) m x (by simpa using h)
    rw [List.take_succ_cons,copyF,this,show i+1+m=i+(m+1) by omega]; rfl
theorem chgE_take {chg:Sp→Sp} {l:List Edg} {m:Nat} {e:Edg} (h:l[m]?=some e):(l.take (m+1)).flatMap (chgE chg)=(l.take m).flatMap (chgE chg)++chgE chg e:=by
  rw [take_snoc h,List.flatMap_append]; simp
theorem chgE_len (chg:Sp→Sp):∀ l:List Edg,(l.flatMap (chgE chg)).length≤l.length
  | []=>by simp
  | e::l=>by
    have h:=chgE_len chg l
    have h2:(chgE chg e).length≤1:=by unfold chgE; split <;> simp
    simp only [List.flatMap_cons,List.length_append,List.length_cons]; omega
theorem pureApp {l m:List AV} (hl:∀ a∈l,PureV a) (hm:∀ a∈m,PureV a):∀ a∈l++m,PureV a:=fun a ha=>(List.mem_append.1 ha).elim (hl a) (hm a)
theorem goneV {V X:Sto} {a b:Option (List Ob)} {Lv:Nat} (h:Lv=V.length):gone (V++(a::b::X)) (Lv+1)=V++(a::none::X):=by
  subst h; unfold gone; rw [List.set_append_right _ _ (by omega),show V.length+1 - V.length=1 by omega]; rfl
theorem goneW {V X:Sto} {a:Option (List Ob)} {Lv:Nat} (h:Lv=V.length):gone (V++(a::X)) Lv=V++(none::X):=by
  subst h; unfold gone; rw [List.set_append_right _ _ (by omega),show V.length - V.length=0 by omega]; rfl
theorem frz_trk {σ:Sto} {f m:Nat} {l:Trk} (h:σ.at f 0=some ⟨68,1,l.map fun x=>[stS x],none⟩) (hm:m=l.length):Frz σ (.own f 0 m) (tkS l):=by
  subst hm
  refine Frz.own (o:=⟨68,1,l.map fun x=>[stS x],none⟩) (es:=l.map fun x=>[stS x]) (show (1:Nat)≠0 by decide) h (by simp) (by simp) (fun e j he hj=>?_) fun e he=>?_
  · obtain ⟨x,hx⟩:∃ x,l[e]?=some x:=⟨_,List.getElem?_eq_getElem he⟩
    rw [getD_map hx]
    match j,hj with
    | 0,_=>exact Frz.eq rfl (by simp)
  · obtain ⟨x,hx⟩:∃ x,l[e]?=some x:=⟨_,List.getElem?_eq_getElem he⟩
    rw [getD_map hx]; rfl
theorem copied_spec (t:Trk) (hv:valid t) (fa fc:Nat) (ca cc:List AV) (hca:∀ c∈ca,PureV c) (hcc:∀ c∈cc,PureV c) (al:Nat→Nat→List Sp) (chg:Nat→Sp→Sp)
    (hA:∀ k i,k < t.length→i < wd t k→Pure Tryz.prog fa ([n (k:Int),n (i:Int)]++ca) (spS (al k i))∧((al k i).length:Int) * 16≤140737488355328)
    (hC:∀ (k:Nat) (s:Sp),Pure Tryz.prog fc ([n (k:Int),.agg s.cs]++cc) (.agg (chg k s).cs)) :
    Pure Tryz.prog 101 [trS t,.fn (.func fa) [] ca,.fn (.func fc) [] cc] (trS (copyT t al chg)):=by
  refine Pure.of_body Tryz.call101 Tryz.func101 k101 (Nat.le_of_ble_eq_true rfl) ?_
  unfold c101
  have h2:=hv.2.1
  ((first
 | refine vn rfl ?_
 | simp (disch:=omega) only [wr64,Int.zero_sub]
 | refine bo (fun _=>?_) fun _=>?_
 | refine im fun _=>?_
 | refine cF ?_
 | refine om ?_
 | refine an ?_
 | fail) <;> try simp only [zT,zV,zS,zU,vcC,lateX,ex,strp,binA,elems,cells,scalar,eqC,keyA,intsA,lookA,ofVs,mpOf,Nat.reduceBEq,reduceAdd,reduceSub,reduceLT,reduceLeDiff,reduceMul,reduceEqDiff,reduceIte])
  ((first
 | refine vn rfl ?_
 | simp (disch:=omega) only [wr64,Int.zero_sub]
 | refine bo (fun _=>?_) fun _=>?_
 | refine im fun _=>?_
 | refine cF ?_
 | refine om ?_
 | refine an ?_
 | fail) <;> try simp only [zT,zV,zS,zU,vcC,lateX,ex,strp,binA,elems,cells,scalar,eqC,keyA,intsA,lookA,ofVs,mpOf,Nat.reduceBEq,reduceAdd,reduceSub,reduceLT,reduceLeDiff,reduceMul,reduceEqDiff,reduceIte])
  refine AWPC.own0c 68 1 (f:=1) (i:=0) (e:=0) (j:=0) rfl (by simp) rfl ?_
  (repeat' ((first
 | refine vn rfl ?_
 | simp (disch:=omega) only [wr64,Int.zero_sub]
 | refine bo (fun _=>?_) fun _=>?_
 | refine im fun _=>?_
 | refine cF ?_
 | refine om ?_
 | refine an ?_
 | fail) <;> try simp only [zT,zV,zS,zU,vcC,lateX,ex,strp,binA,elems,cells,scalar,eqC,keyA,intsA,lookA,ofVs,mpOf,Nat.reduceBEq,reduceAdd,reduceSub,reduceLT,reduceLeDiff,reduceMul,reduceEqDiff,reduceIte]))
  refine AWPC.loopE (α:={ x:Nat × Sto // x.1≤t.length }) [20] (fun x=>[(20,n x.1.1)]) (fun x=>some [⟨24,1,[[.v (.slice none 0 0)]],none⟩]::some [⟨24,1,[[.own 2 0 x.1.1]],none⟩]::some [⟨68,1,(copyF al chg 0 (t.take x.1.1)).map (fun l=>[stS l]),none⟩]::x.1.2) (fun x=>t.length - x.1.1) ⟨(0,[]),Nat.zero_le _⟩ ?_ rfl ?_
  · (simp only [zT,zV,zS,zU,vcC,lateX,ex,strp,binA,elems,cells,scalar,eqC,keyA,intsA,lookA,ofVs,mpOf,Nat.reduceBEq,reduceAdd,reduceSub,reduceLT,reduceLeDiff,reduceMul,reduceEqDiff,reduceIte]; try simp)
  rintro ⟨⟨k,μ⟩,hk⟩
  simp only at hk
  simp only
  have hfl:(copyF al chg 0 (t.take k)).length=k:=by rw [copyF_len,List.length_take]; omega
  by_cases hlt:k < t.length
  · have htk:t[k]?=some (t.getD k []):=getD_some hlt
    have gtk:(t.map fun l=>[stS l]).getD k []=[stS (t.getD k [])]:=getD_map htk
    have hcf:=copyF_take al chg t 0 k _ htk
    rw [Nat.zero_add] at hcf
    obtain ⟨v1,v2,v3⟩:=valid_stg hv hlt
    have hwd:wd t k=(t.getD k []).length:=rfl
    generalize hL:t.getD k []=L at *
    (repeat' ((first
 | refine vn rfl ?_
 | simp (disch:=omega) only [wr64,Int.zero_sub]
 | refine bo (fun _=>?_) fun _=>?_
 | refine im fun _=>?_
 | refine cF ?_
 | refine om ?_
 | refine an ?_
 | fail) <;> try simp only [zT,zV,zS,zU,vcC,lateX,ex,strp,binA,elems,cells,scalar,eqC,keyA,intsA,lookA,ofVs,mpOf,Nat.reduceBEq,reduceAdd,reduceSub,reduceLT,reduceLeDiff,reduceMul,reduceEqDiff,reduceIte,gtk]))
    all_goals try (exfalso; omega)
    refine AWPC.own0 80 2 10 rfl ?_
    generalize hW:(some [⟨24,1,[[.v (.slice none 0 0)]],none⟩]::some [⟨24,1,[[.own 2 0 k]],none⟩]::some [⟨68,1,(copyF al chg 0 (t.take k)).map (fun l=>[stS l]),none⟩]::μ:Sto)=W
    obtain ⟨L1,hL1⟩:∃ L1,L1=List.length W:=⟨_,rfl⟩
    rw [← hL1]
    have c1:∀ a X,Sto.at (W++(a::X)) L1 0=Sto.at (a::X) 0 0:=fun a X=>by rw [hL1,at_app0]
    have c1u:∀ a X o,Sto.upd (W++(a::X)) L1 0 o=W++Sto.upd (a::X) 0 0 o:=fun a X o=>by rw [hL1,upd_app0]
    refine AWPC.loopE (α:={ x:Nat × Sto // x.1≤L.length }) [10,27] (fun x=>[(10,.own L1 0 x.1.1),(27,n x.1.1)]) (fun x=>W++(some [⟨80,2,(copyL (al k) (chg k) 0 (L.take x.1.1)).map Nod.cs,none⟩]::x.1.2)) (fun x=>L.length - x.1.1) ⟨(0,[]),Nat.zero_le _⟩ ?_ rfl ?_
    · (simp only [zT,zV,zS,zU,vcC,lateX,ex,strp,binA,elems,cells,scalar,eqC,keyA,intsA,lookA,ofVs,mpOf,Nat.reduceBEq,reduceAdd,reduceSub,reduceLT,reduceLeDiff,reduceMul,reduceEqDiff,reduceIte]; try simp)
    · rintro ⟨⟨i,ν⟩,hi⟩
      simp only at hi
      simp only
      have hcl:(copyL (al k) (chg k) 0 (L.take i)).length=i:=by rw [copyL_len,List.length_take]; omega
      by_cases hlt2:i < L.length
      · obtain ⟨x,hx⟩:∃ x,L[i]?=some x:=⟨_,List.getElem?_eq_getElem hlt2⟩
        have hcp:=copyL_take (al k) (chg k) L 0 i x hx
        rw [Nat.zero_add] at hcp
        obtain ⟨x1,x2,x3⟩:=v3 x (List.mem_of_getElem? hx)
        obtain ⟨hfa,hal⟩:=hA k i hlt (by omega)
        have hclo:=clone_spec (al k i) hal
        have m1:∀ a (ν X:Sto),Sto.at (W++(a::(ν++X))) (L1+(List.length ν+1)) 0=Sto.at X 0 0:=fun a ν X=>by rw [hL1,at_app,at_consS,at_app0]
        have m1u:∀ a (ν X:Sto) o,Sto.upd (W++(a::(ν++X))) (L1+(List.length ν+1)) 0 o=W++(a::(ν++Sto.upd X 0 0 o)):=fun a ν X o=>by rw [hL1,upd_app,upd_consS,upd_app0]
        have m2:∀ a b (ν X:Sto),Sto.at (W++(a::(ν++(b::X)))) (L1+(List.length ν+2)) 0=Sto.at X 0 0:=fun a b ν X=>by rw [hL1,at_app,show List.length ν+2=List.length ν+1+1 by omega,at_consS,at_app,at_consS]
        have m2u:∀ a b (ν X:Sto) o,Sto.upd (W++(a::(ν++(b::X)))) (L1+(List.length ν+2)) 0 o=W++(a::(ν++(b::Sto.upd X 0 0 o))):=fun a b ν X o=>by rw [hL1,upd_app,show List.length ν+2=List.length ν+1+1 by omega,upd_consS,upd_app,upd_consS]
        (repeat' ((first
 | refine vn rfl ?_
 | simp (disch:=omega) only [wr64,Int.zero_sub]
 | refine bo (fun _=>?_) fun _=>?_
 | refine im fun _=>?_
 | refine cF ?_
 | refine om ?_
 | refine an ?_
 | fail) <;> try simp only [zT, zV, zS, zU, vcC, lateX, ex, strp, binA, elems, cells, scalar, eqC, keyA, intsA, lookA, ofVs, mpOf, Nat.reduceBEq, reduceAdd, reduceSub, reduceLT, reduceLeDiff, reduceMul, reduceEqDiff, reduceIte, getD_map hx, ← hL1, m1, m1u, m2, m2u, List.append_assoc, List.cons_append]))
        all_goals try (exfalso; omega)
        refine .inl ⟨_,_,_,_,rfl,fun _=>⟨pureApp (by simp) hca,hfa⟩,?_⟩
        refine owp_of_exs ?_
        simp only [zT,zV,zS,zU,vcC,lateX,ex,strp,binA,elems,cells,scalar,eqC,keyA,intsA,lookA,ofVs,mpOf,Nat.reduceBEq,reduceAdd,reduceSub,reduceLT,reduceLeDiff,reduceMul,reduceEqDiff,reduceIte]
        (repeat' ((first
 | refine vn rfl ?_
 | simp (disch:=omega) only [wr64,Int.zero_sub]
 | refine bo (fun _=>?_) fun _=>?_
 | refine im fun _=>?_
 | ((repeat refine si ?_); (first | ((first | refine .inl ⟨_,_,_,_,rfl,fun _=>pu hclo,?_⟩ | refine ⟨_,_,_,_,rfl,fun _=>pu hclo,?_⟩); (first | refine o1 ?_ | refine o2 ?_ | refine o3 ?_ | refine o4 ?_)) | refine .inl ⟨_,_,_,_,rfl,pu hclo,?_⟩))
 | refine cF ?_
 | refine om ?_
 | refine an ?_
 | fail) <;> try simp only [zT, zV, zS, zU, vcC, lateX, ex, strp, binA, elems, cells, scalar, eqC, keyA, intsA, lookA, ofVs, mpOf, Nat.reduceBEq, reduceAdd, reduceSub, reduceLT, reduceLeDiff, reduceMul, reduceEqDiff, reduceIte, getD_map hx, ← hL1, m1, m1u, m2, m2u, List.append_assoc, List.cons_append]))
        all_goals try (exfalso; omega)
        obtain ⟨V,hV⟩:∃ V:Sto,V=W++some [⟨80,2,(copyL (al k) (chg k) 0 (L.take i)).map Nod.cs,none⟩]::(ν++[some [⟨80,2,[[spS x.al,edS x.nx]],none⟩]]):=⟨_,rfl⟩
        have hVl:L1+(List.length ν+2)=List.length V:=by rw [hV,hL1]; simp [Nat.add_assoc]
        rw [show (W++some [⟨80,2,(copyL (al k) (chg k) 0 (L.take i)).map Nod.cs,none⟩]::(ν++[some [⟨80,2,[[spS x.al,edS x.nx]],none⟩],some [⟨80,2,[[spS (al k i),.v (.slice none 0 0)]],none⟩]]):Sto)=V++[some [⟨80,2,[[spS (al k i),.v (.slice none 0 0)]],none⟩]] by rw [hV]; simp,hVl]
        obtain ⟨Lv,hLv⟩:∃ Lv,Lv=List.length V:=⟨_,rfl⟩
        rw [← hLv]
        have d0:∀ a X,Sto.at (V++(a::X)) Lv 0=Sto.at (a::X) 0 0:=fun a X=>by rw [hLv,at_app0]
        have d0u:∀ a X o,Sto.upd (V++(a::X)) Lv 0 o=V++Sto.upd (a::X) 0 0 o:=fun a X o=>by rw [hLv,upd_app0]
        have d1:∀ a X,Sto.at (V++(a::X)) (Lv+1) 0=Sto.at X 0 0:=fun a X=>by rw [hLv,at_app,at_consS]
        have d1u:∀ a X o,Sto.upd (V++(a::X)) (Lv+1) 0 o=V++(a::Sto.upd X 0 0 o):=fun a X o=>by rw [hLv,upd_app,upd_consS]
        have e1:∀ a b (ν X:Sto),Sto.at (V++(a::b::(ν++X))) (Lv+(List.length ν+2)) 0=Sto.at X 0 0:=fun a b ν X=>by rw [hLv,at_app,at_consS,at_consS,at_app0]
        have e1u:∀ a b (ν X:Sto) o,Sto.upd (V++(a::b::(ν++X))) (Lv+(List.length ν+2)) 0 o=V++(a::b::(ν++Sto.upd X 0 0 o)):=fun a b ν X o=>by rw [hLv,upd_app,upd_consS,upd_consS,upd_app0]
        have e2:∀ a b c (ν X:Sto),Sto.at (V++(a::b::(ν++(c::X)))) (Lv+(List.length ν+3)) 0=Sto.at X 0 0:=fun a b c ν X=>by rw [hLv,at_app,show List.length ν+3=List.length ν+1+1+1 by omega,at_consS,at_consS,at_app,at_consS]
        have e2u:∀ a b c (ν X:Sto) o,Sto.upd (V++(a::b::(ν++(c::X)))) (Lv+(List.length ν+3)) 0 o=V++(a::b::(ν++(c::Sto.upd X 0 0 o))):=fun a b c ν X o=>by rw [hLv,upd_app,show List.length ν+3=List.length ν+1+1+1 by omega,upd_consS,upd_consS,upd_app,upd_consS]
        refine AWPC.own0c 124 3 (f:=Lv) (i:=0) (e:=0) (j:=1) (d0 _ _) (by simp) rfl ?_
        rw [show List.length (V++[some [⟨80,2,[[spS (al k i),.v (.slice none 0 0)]],none⟩]]:Sto)=Lv+1 by rw [hLv]; simp]
        rw [List.append_assoc,List.cons_append,d0u]
        refine AWPC.loopE (α:={ y:Nat × Sto // y.1≤x.nx.length }) [41] (fun y=>[(41,n y.1.1)]) (fun y=>V++(some [⟨80,2,[[spS (al k i),.own (Lv+1) 0 ((x.nx.take y.1.1).flatMap (chgE (chg k))).length]],none⟩]::some [⟨124,3,((x.nx.take y.1.1).flatMap (chgE (chg k))).map Edg.cs,none⟩]::y.1.2)) (fun y=>x.nx.length - y.1.1) ⟨(0,[]),Nat.zero_le _⟩ ?_ rfl ?_
        · (simp only [zT,zV,zS,zU,vcC,lateX,ex,strp,binA,elems,cells,scalar,eqC,keyA,intsA,lookA,ofVs,mpOf,Nat.reduceBEq,reduceAdd,reduceSub,reduceLT,reduceLeDiff,reduceMul,reduceEqDiff,reduceIte]; try simp)
        · rintro ⟨⟨j,ρ⟩,hj⟩
          simp only at hj
          simp only
          have hfl2:=chgE_len (chg k) (x.nx.take j)
          have htl:(x.nx.take j).length=j:=by rw [List.length_take]; omega
          by_cases hlt3:j < x.nx.length
          · obtain ⟨e,he⟩:∃ e,x.nx[j]?=some e:=⟨_,List.getElem?_eq_getElem hlt3⟩
            have htk3:=chgE_take (chg:=chg k) he
            have hcc':=hC k e.ch
            have gch:chgE (chg k) e=if (chg k e.ch).lo≤(chg k e.ch).hi then [⟨e.to,chg k e.ch⟩] else []:=rfl
            generalize hF:(x.nx.take j).flatMap (chgE (chg k))=F at *
            (repeat' ((first
 | refine vn rfl ?_
 | simp (disch:=omega) only [wr64,Int.zero_sub]
 | refine bo (fun _=>?_) fun _=>?_
 | refine im fun _=>?_
 | refine cF ?_
 | refine om ?_
 | refine an ?_
 | fail) <;> try simp only [zT, zV, zS, zU, vcC, lateX, ex, strp, binA, elems, cells, scalar, eqC, keyA, intsA, lookA, ofVs, mpOf, Nat.reduceBEq, reduceAdd, reduceSub, reduceLT, reduceLeDiff, reduceMul, reduceEqDiff, reduceIte, getD_map he, ← hLv, d0, d0u, d1, d1u, e1, e1u, e2, e2u, List.append_assoc, List.cons_append]))
            all_goals try (exfalso; omega)
            refine .inl ⟨_,_,_,_,rfl,fun _=>⟨pureApp (by simp) hcc,hcc'⟩,?_⟩
            refine owp_of_exs ?_
            simp only [zT,zV,zS,zU,vcC,lateX,ex,strp,binA,elems,cells,scalar,eqC,keyA,intsA,lookA,ofVs,mpOf,Nat.reduceBEq,reduceAdd,reduceSub,reduceLT,reduceLeDiff,reduceMul,reduceEqDiff,reduceIte]
            generalize chg k e.ch=sp at *
            (repeat' ((first
 | refine vn rfl ?_
 | simp (disch:=omega) only [wr64,Int.zero_sub]
 | refine bo (fun _=>?_) fun _=>?_
 | refine im fun _=>?_
 | refine cF ?_
 | refine om ?_
 | refine an ?_
 | fail) <;> try simp only [zT, zV, zS, zU, vcC, lateX, ex, strp, binA, elems, cells, scalar, eqC, keyA, intsA, lookA, ofVs, mpOf, Nat.reduceBEq, reduceAdd, reduceSub, reduceLT, reduceLeDiff, reduceMul, reduceEqDiff, reduceIte, getD_map he, ← hLv, d0, d0u, d1, d1u, e1, e1u, e2, e2u, List.append_assoc, List.cons_append]))
            all_goals try (exfalso; omega)
            · rename_i hc
              rw [if_pos hc] at gch
              exact ⟨⟨(j+1,ρ++[some [⟨124,3,[Edg.cs e],none⟩],some [⟨30,2,[Sp.cs sp],none⟩]]),hlt3⟩,by simp,by simp only; rw [htk3,gch]; simp,by simp only; omega⟩
            · rename_i hc
              rw [if_neg hc] at gch
              exact ⟨⟨(j+1,ρ++[some [⟨124,3,[Edg.cs e],none⟩],some [⟨30,2,[Sp.cs sp],none⟩]]),hlt3⟩,by simp,by simp only; rw [htk3,gch]; simp,by simp only; omega⟩
          · obtain rfl:j=x.nx.length:=by omega
            rw [List.take_length]
            ((first
 | refine vn rfl ?_
 | simp (disch:=omega) only [wr64,Int.zero_sub]
 | refine bo (fun _=>?_) fun _=>?_
 | refine im fun _=>?_
 | refine cF ?_
 | refine om ?_
 | refine an ?_
 | fail) <;> try simp only [zT, zV, zS, zU, vcC, lateX, ex, strp, binA, elems, cells, scalar, eqC, keyA, intsA, lookA, ofVs, mpOf, Nat.reduceBEq, reduceAdd, reduceSub, reduceLT, reduceLeDiff, reduceMul, reduceEqDiff, reduceIte])
            ((first
 | refine vn rfl ?_
 | simp (disch:=omega) only [wr64,Int.zero_sub]
 | refine bo (fun _=>?_) fun _=>?_
 | refine im fun _=>?_
 | refine cF ?_
 | refine om ?_
 | refine an ?_
 | fail) <;> try simp only [zT, zV, zS, zU, vcC, lateX, ex, strp, binA, elems, cells, scalar, eqC, keyA, intsA, lookA, ofVs, mpOf, Nat.reduceBEq, reduceAdd, reduceSub, reduceLT, reduceLeDiff, reduceMul, reduceEqDiff, reduceIte])
            refine AWPC.freezeC (f:=Lv+1) (n:=(x.nx.flatMap (chgE (chg k))).length) (h:=Lv) (e:=0) (j:=1) (d1 _ _) (by simp) (show (3:Nat)≠0 by decide) (d0 _ _) (by omega) rfl (by simp) rfl ?_
            rw [goneV hLv,d0u]
            rw [hLv,← hVl,hV]
            simp only [zT,zV,zS,zU,vcC,lateX,ex,strp,binA,elems,cells,scalar,eqC,keyA,intsA,lookA,ofVs,mpOf,Nat.reduceBEq,reduceAdd,reduceSub,reduceLT,reduceLeDiff,reduceMul,reduceEqDiff,reduceIte,List.append_assoc,List.cons_append,List.nil_append]
            (repeat' ((first
 | refine vn rfl ?_
 | simp (disch:=omega) only [wr64,Int.zero_sub]
 | refine bo (fun _=>?_) fun _=>?_
 | refine im fun _=>?_
 | refine cF ?_
 | refine om ?_
 | refine an ?_
 | fail) <;> try simp only [zT, zV, zS, zU, vcC, lateX, ex, strp, binA, elems, cells, scalar, eqC, keyA, intsA, lookA, ofVs, mpOf, Nat.reduceBEq, reduceAdd, reduceSub, reduceLT, reduceLeDiff, reduceMul, reduceEqDiff, reduceIte, m1, m1u, m2, m2u, c1, c1u, List.append_assoc, List.cons_append]))
            all_goals try (exfalso; omega)
            exact ⟨⟨(i+1,ν++some [⟨80,2,[[spS x.al,edS x.nx]],none⟩]::some [⟨80,2,[[spS (al k i),edS (x.nx.flatMap (chgE (chg k)))]],none⟩]::none::ρ),hlt2⟩,⟨rfl,rfl⟩,by simp only; rw [hcp]; simp [copyN],by simp only; omega⟩
      · obtain rfl:i=L.length:=by omega
        rw [List.take_length]
        ((first
 | refine vn rfl ?_
 | simp (disch:=omega) only [wr64,Int.zero_sub]
 | refine bo (fun _=>?_) fun _=>?_
 | refine im fun _=>?_
 | refine cF ?_
 | refine om ?_
 | refine an ?_
 | fail) <;> try simp only [zT, zV, zS, zU, vcC, lateX, ex, strp, binA, elems, cells, scalar, eqC, keyA, intsA, lookA, ofVs, mpOf, Nat.reduceBEq, reduceAdd, reduceSub, reduceLT, reduceLeDiff, reduceMul, reduceEqDiff, reduceIte])
        ((first
 | refine vn rfl ?_
 | simp (disch:=omega) only [wr64,Int.zero_sub]
 | refine bo (fun _=>?_) fun _=>?_
 | refine im fun _=>?_
 | refine cF ?_
 | refine om ?_
 | refine an ?_
 | fail) <;> try simp only [zT, zV, zS, zU, vcC, lateX, ex, strp, binA, elems, cells, scalar, eqC, keyA, intsA, lookA, ofVs, mpOf, Nat.reduceBEq, reduceAdd, reduceSub, reduceLT, reduceLeDiff, reduceMul, reduceEqDiff, reduceIte])
        refine AWPC.freeze1 (t:=10) (n:=L.length) rfl (c1 _ _) (by simp [copyL_len]) (show (2:Nat)≠0 by decide) ?_
        rw [goneW hL1,← hW]
        (repeat' ((first
 | refine vn rfl ?_
 | simp (disch:=omega) only [wr64,Int.zero_sub]
 | refine bo (fun _=>?_) fun _=>?_
 | refine im fun _=>?_
 | refine cF ?_
 | refine om ?_
 | refine an ?_
 | fail) <;> try simp only [zT, zV, zS, zU, vcC, lateX, ex, strp, binA, elems, cells, scalar, eqC, keyA, intsA, lookA, ofVs, mpOf, Nat.reduceBEq, reduceAdd, reduceSub, reduceLT, reduceLeDiff, reduceMul, reduceEqDiff, reduceIte, List.append_assoc, List.cons_append]))
        all_goals try (exfalso; omega)
        exact ⟨⟨(k+1,μ++none::ν),hlt⟩,rfl,by simp only; rw [hcf]; simp,by simp only; omega⟩
  · obtain rfl:k=t.length:=by omega
    rw [List.take_length]
    (repeat' ((first
 | refine vn rfl ?_
 | simp (disch:=omega) only [wr64,Int.zero_sub]
 | refine bo (fun _=>?_) fun _=>?_
 | refine im fun _=>?_
 | refine cF ?_
 | refine om ?_
 | refine an ?_
 | fail) <;> try simp only [zT,zV,zS,zU,vcC,lateX,ex,strp,binA,elems,cells,scalar,eqC,keyA,intsA,lookA,ofVs,mpOf,Nat.reduceBEq,reduceAdd,reduceSub,reduceLT,reduceLeDiff,reduceMul,reduceEqDiff,reduceIte]))
    all_goals try (exfalso; omega)
    refine Frz.agg rfl fun q hq=>?_
    obtain rfl:q=0:=by simpa using hq
    exact frz_trk rfl (by simp [copyF_len])
theorem same_spec (k:Int) (s:Sp):Pure Tryz.prog 103 [n k,.agg s.cs] (.agg s.cs):=by
  refine Pure.of_body Tryz.call103 Tryz.func103 k103 (Nat.le_of_ble_eq_true rfl) ?_
  unfold c103
  (repeat' ((first
 | refine vn rfl ?_
 | simp (disch:=omega) only [wr64,Int.zero_sub]
 | refine bo (fun _=>?_) fun _=>?_
 | refine im fun _=>?_
 | refine cF ?_
 | refine om ?_
 | refine an ?_
 | fail) <;> try simp only [zT,zV,zS,zU,vcC,lateX,ex,strp,binA,elems,cells,scalar,eqC,keyA,intsA,lookA,ofVs,mpOf,Nat.reduceBEq,reduceAdd,reduceSub,reduceLT,reduceLeDiff,reduceMul,reduceEqDiff,reduceIte]))
  all_goals exact Frz.eq rfl (by simp)
def bigN (x:Nod):Bool:=decide (64 < x.al.length) || decide (64 < x.nx.length)
def big (t:Trk):Bool:=t.any fun l=>l.any bigN
theorem big_f {t:Trk} (h:big t=false) {l:List Nod} (hl:l∈t):l.any bigN=false:=by
  cases hb:l.any bigN with
  | false=>rfl
  | true =>
    have:big t=true:=List.any_eq_true.2 ⟨l,hl,hb⟩
    rw [h] at this; cases this
theorem big_t {t:Trk} {l:List Nod} (hl:l∈t) {x:Nod} (hx:x∈l) (hb:bigN x=true):big t=true:=List.any_eq_true.2 ⟨l,hl,List.any_eq_true.2 ⟨x,hx,hb⟩⟩
theorem sized_spec (t:Trk) (hs:trkSz t):Pure Tryz.prog 100 [trS t] (.tup [trS (if big t=true then [] else t),n (if big t=true then 2 else 0)]):=by
  refine Pure.of_body Tryz.call100 Tryz.func100 k100 (Nat.le_of_ble_eq_true rfl) ?_
  unfold c100
  have h1:=hs.1
  (repeat' ((first
 | refine vn rfl ?_
 | simp (disch:=omega) only [wr64,Int.zero_sub]
 | refine bo (fun _=>?_) fun _=>?_
 | refine im fun _=>?_
 | refine cF ?_
 | refine om ?_
 | refine an ?_
 | fail) <;> try simp only [zT,zV,zS,zU,vcC,lateX,ex,strp,binA,elems,cells,scalar,eqC,keyA,intsA,lookA,ofVs,mpOf,Nat.reduceBEq,reduceAdd,reduceSub,reduceLT,reduceLeDiff,reduceMul,reduceEqDiff,reduceIte]))
  refine AWPC.loopE (α:={ x:Nat × Sto // x.1≤t.length∧∀ l∈t.take x.1,l.any bigN=false }) [11] (fun x=>[(11,n x.1.1)]) (fun x=>some [⟨24,1,[[.v (.slice none 0 0)]],none⟩]::x.1.2) (fun x=>t.length - x.1.1) ⟨(0,[]),Nat.zero_le _,by simp⟩ ?_ rfl ?_
  · (simp only [zT,zV,zS,zU,vcC,lateX,ex,strp,binA,elems,cells,scalar,eqC,keyA,intsA,lookA,ofVs,mpOf,Nat.reduceBEq,reduceAdd,reduceSub,reduceLT,reduceLeDiff,reduceMul,reduceEqDiff,reduceIte]; try simp)
  rintro ⟨⟨k,μ⟩,hk,hk2⟩
  simp only at hk hk2
  simp only
  by_cases hlt:k < t.length
  · have htk:t[k]?=some (t.getD k []):=getD_some hlt
    have gtk:(t.map fun l=>[stS l]).getD k []=[stS (t.getD k [])]:=getD_map htk
    have hm:=List.mem_of_getElem? htk
    have hs2:=hs.2 _ hm
    have hsn:=take_snoc htk
    generalize t.getD k []=L at *
    obtain ⟨hL,hL2⟩:=hs2
    (repeat' ((first
 | refine vn rfl ?_
 | simp (disch:=omega) only [wr64,Int.zero_sub]
 | refine bo (fun _=>?_) fun _=>?_
 | refine im fun _=>?_
 | refine cF ?_
 | refine om ?_
 | refine an ?_
 | fail) <;> try simp only [zT,zV,zS,zU,vcC,lateX,ex,strp,binA,elems,cells,scalar,eqC,keyA,intsA,lookA,ofVs,mpOf,Nat.reduceBEq,reduceAdd,reduceSub,reduceLT,reduceLeDiff,reduceMul,reduceEqDiff,reduceIte,gtk]))
    all_goals try (exfalso; omega)
    refine AWPC.loopE (α:={ x:Nat × Sto // x.1≤L.length∧∀ y∈L.take x.1,bigN y=false }) [17] (fun x=>[(17,n x.1.1)]) (fun x=>some [⟨24,1,[[.v (.slice none 0 0)]],none⟩]::x.1.2) (fun x=>L.length - x.1.1) ⟨(0,μ),Nat.zero_le _,by simp⟩ ?_ rfl ?_
    · (simp only [zT,zV,zS,zU,vcC,lateX,ex,strp,binA,elems,cells,scalar,eqC,keyA,intsA,lookA,ofVs,mpOf,Nat.reduceBEq,reduceAdd,reduceSub,reduceLT,reduceLeDiff,reduceMul,reduceEqDiff,reduceIte]; try simp)
    rintro ⟨⟨i,ν⟩,hi,hi2⟩
    simp only at hi hi2
    simp only
    by_cases hlt2:i < L.length
    · obtain ⟨x,hx⟩:∃ x,L[i]?=some x:=⟨_,List.getElem?_eq_getElem hlt2⟩
      have hxm:=List.mem_of_getElem? hx
      obtain ⟨x1,x2⟩:=hL2 x hxm
      have hsx:=take_snoc hx
      have hbx:bigN x=(decide (64 < x.al.length) || decide (64 < x.nx.length)):=rfl
      (repeat' ((first
 | refine vn rfl ?_
 | simp (disch:=omega) only [wr64,Int.zero_sub]
 | refine bo (fun _=>?_) fun _=>?_
 | refine im fun _=>?_
 | refine cF ?_
 | refine om ?_
 | refine an ?_
 | fail) <;> try simp only [zT,zV,zS,zU,vcC,lateX,ex,strp,binA,elems,cells,scalar,eqC,keyA,intsA,lookA,ofVs,mpOf,Nat.reduceBEq,reduceAdd,reduceSub,reduceLT,reduceLeDiff,reduceMul,reduceEqDiff,reduceIte,getD_map hx,List.cons_append]))
      all_goals try (exfalso; omega)
      · rename_i hc
        rw [big_t hm hxm (by rw [hbx]; simp; omega)]
        exact frz2 frz_aggnil (by simp)
      · rename_i hc
        exact ⟨⟨(i+1,ν++[some [⟨80,2,[Nod.cs x],none⟩]]),hlt2,fun y hy=>by
          rw [hsx] at hy
          rcases List.mem_append.1 hy with h | h
          · exact hi2 y h
          · rw [List.mem_singleton.1 h,hbx]; simp; omega⟩,rfl,rfl,by simp only; omega⟩
    · obtain rfl:i=L.length:=by omega
      rw [List.take_length] at hi2
      (repeat' ((first
 | refine vn rfl ?_
 | simp (disch:=omega) only [wr64,Int.zero_sub]
 | refine bo (fun _=>?_) fun _=>?_
 | refine im fun _=>?_
 | refine cF ?_
 | refine om ?_
 | refine an ?_
 | fail) <;> try simp only [zT,zV,zS,zU,vcC,lateX,ex,strp,binA,elems,cells,scalar,eqC,keyA,intsA,lookA,ofVs,mpOf,Nat.reduceBEq,reduceAdd,reduceSub,reduceLT,reduceLeDiff,reduceMul,reduceEqDiff,reduceIte]))
      all_goals try (exfalso; omega)
      exact ⟨⟨(k+1,ν),hlt,fun l hl=>by
        rw [hsn] at hl
        rcases List.mem_append.1 hl with h | h
        · exact hk2 l h
        · rw [List.mem_singleton.1 h]
          exact List.any_eq_false.2 fun y hy=>by simp [hi2 y hy]⟩,rfl,rfl,by simp only; omega⟩
  · obtain rfl:k=t.length:=by omega
    rw [List.take_length] at hk2
    have hb:big t=false:=List.any_eq_false.2 fun l hl=>by simp [hk2 l hl]
    rw [hb]
    (repeat' ((first
 | refine vn rfl ?_
 | simp (disch:=omega) only [wr64,Int.zero_sub]
 | refine bo (fun _=>?_) fun _=>?_
 | refine im fun _=>?_
 | refine cF ?_
 | refine om ?_
 | refine an ?_
 | fail) <;> try simp only [zT,zV,zS,zU,vcC,lateX,ex,strp,binA,elems,cells,scalar,eqC,keyA,intsA,lookA,ofVs,mpOf,Nat.reduceBEq,reduceAdd,reduceSub,reduceLT,reduceLeDiff,reduceMul,reduceEqDiff,reduceIte]))
    all_goals try (exfalso; omega)
    exact Frz.eq rfl (by simp (maxDischargeDepth:=9))
noncomputable def badL (t:Trk) (x:Lim):Bool:=!decide (0≤x.st∧x.st < (t.length:Int)) || !tr (small x.vs)
theorem fix1_spec (t:Trk) (x:Lim) (hx:x.vs.length < 9223372036854775808):Pure Tryz.prog 99 [.agg (Lim.cs x),.iptr [tkS t] 0] (bl (badL t x)):=by
  refine Pure.of_body Tryz.call99 Tryz.func99 k99 (Nat.le_of_ble_eq_true rfl) ?_
  unfold c99
  have h1:=isStageOf_spec t x.st
  have h2:=isSmall_spec x.vs hx
  have hb:badL t x=(!decide (0≤x.st∧x.st < (t.length:Int)) || !tr (small x.vs)):=rfl
  by_cases hst:0≤x.st∧x.st < (t.length:Int)
  · rw [decide_eq_true hst] at h1 hb
    (repeat' ((first
 | refine vn rfl ?_
 | simp (disch:=omega) only [wr64,Int.zero_sub]
 | refine bo (fun _=>?_) fun _=>?_
 | refine im fun _=>?_
 | ((repeat refine si ?_); (first | ((first | refine .inl ⟨_,_,_,_,rfl,fun _=>pu (by first | exact h1 | exact h2),?_⟩ | refine ⟨_,_,_,_,rfl,fun _=>pu (by first | exact h1 | exact h2),?_⟩); (first | refine o1 ?_ | refine o2 ?_ | refine o3 ?_ | refine o4 ?_)) | refine .inl ⟨_,_,_,_,rfl,pu (by first | exact h1 | exact h2),?_⟩))
 | refine cF ?_
 | refine om ?_
 | refine an ?_
 | fail) <;> try simp only [zT,zV,zS,zU,vcC,lateX,ex,strp,binA,elems,cells,scalar,eqC,keyA,intsA,lookA,ofVs,mpOf,Nat.reduceBEq,reduceAdd,reduceSub,reduceLT,reduceLeDiff,reduceMul,reduceEqDiff,reduceIte]))
    all_goals try (exfalso; omega)
    all_goals (rw [hb]; exact Frz.eq (by simp) (by simp))
  · rw [decide_eq_false hst] at h1 hb
    (repeat' ((first
 | refine vn rfl ?_
 | simp (disch:=omega) only [wr64,Int.zero_sub]
 | refine bo (fun _=>?_) fun _=>?_
 | refine im fun _=>?_
 | ((repeat refine si ?_); (first | ((first | refine .inl ⟨_,_,_,_,rfl,fun _=>pu (by first | exact h1 | exact h2),?_⟩ | refine ⟨_,_,_,_,rfl,fun _=>pu (by first | exact h1 | exact h2),?_⟩); (first | refine o1 ?_ | refine o2 ?_ | refine o3 ?_ | refine o4 ?_)) | refine .inl ⟨_,_,_,_,rfl,pu (by first | exact h1 | exact h2),?_⟩))
 | refine cF ?_
 | refine om ?_
 | refine an ?_
 | fail) <;> try simp only [zT,zV,zS,zU,vcC,lateX,ex,strp,binA,elems,cells,scalar,eqC,keyA,intsA,lookA,ofVs,mpOf,Nat.reduceBEq,reduceAdd,reduceSub,reduceLT,reduceLeDiff,reduceMul,reduceEqDiff,reduceIte]))
    all_goals try (exfalso; omega)
    all_goals (rw [hb]; exact Frz.eq (by simp) (by simp))
def limA (l:List Lim) (k:Nat) (a:List Sp):List Sp:=l.foldl (fun acc x=>if x.st=(k:Int) then meet acc x.vs else acc) a
theorem limA_take {l:List Lim} {m k:Nat} {x:Lim} {a:List Sp} (h:l[m]?=some x):limA (l.take (m+1)) k a=if x.st=(k:Int) then meet (limA (l.take m) k a) x.vs else limA (l.take m) k a:=by
  unfold limA; rw [take_snoc h,List.foldl_append]; rfl
theorem limA_good (k:Nat):∀ (l:List Lim) (a:List Sp),good a→(∀ x∈l,good x.vs)→good (limA l k a)
  | [],a,h,_=>h
  | x::l,a,h,hl=>by
    refine limA_good k l _ ?_ fun y hy=>hl y (List.mem_cons_of_mem _ hy)
    show good (if _ then _ else _)
    split
    · exact meet_good (hl x List.mem_cons_self)
    · exact h
theorem fix2_spec (t:Trk) (l:List Lim) (hv:valid t) (hl:l.length < 9223372036854775808) (hg:∀ x∈l,good x.vs) (k i:Nat) (hk:k < t.length) (hi:i < wd t k) :
    Pure Tryz.prog 102 [n k,n i,.iptr [tkS t] 0,.iptr [liS l] 0] (spS (limA l k ((als t k).getD i []))):=by
  refine Pure.of_body Tryz.call102 Tryz.func102 k102 (Nat.le_of_ble_eq_true rfl) ?_
  unfold c102
  have htk:t[k]?=some (t.getD k []):=getD_some hk
  have gtk:(t.map fun l=>[stS l]).getD k []=[stS (t.getD k [])]:=getD_map htk
  have hx:(t.getD k [])[i]?=some ((t.getD k []).getD i ⟨[],[]⟩):=getD_some hi
  have gx:((t.getD k []).map Nod.cs).getD i []=Nod.cs ((t.getD k []).getD i ⟨[],[]⟩):=getD_map hx
  have hal:(als t k).getD i []=((t.getD k []).getD i ⟨[],[]⟩).al:=getD_map hx
  have hga:=goods_get (als_goods hv k) i
  have hww:wd t k=(t.getD k []).length:=rfl
  rw [hal] at hga ⊢
  rw [hww] at hi
  generalize ((t.getD k []).getD i ⟨[],[]⟩)=x at *
  (repeat' ((first
 | refine vn rfl ?_
 | simp (disch:=omega) only [wr64,Int.zero_sub]
 | refine bo (fun _=>?_) fun _=>?_
 | refine im fun _=>?_
 | refine cF ?_
 | refine om ?_
 | refine an ?_
 | fail) <;> try simp only [zT,zV,zS,zU,vcC,lateX,ex,strp,binA,elems,cells,scalar,eqC,keyA,intsA,lookA,ofVs,mpOf,Nat.reduceBEq,reduceAdd,reduceSub,reduceLT,reduceLeDiff,reduceMul,reduceEqDiff,reduceIte,gtk,gx]))
  all_goals try (exfalso; omega)
  refine AWPC.loopE (α:={ y:Nat × Sto // y.1≤l.length }) [7,21] (fun y=>[(7,spS (limA (l.take y.1.1) k x.al)),(21,n y.1.1)]) (fun y=>y.1.2) (fun y=>l.length - y.1.1) ⟨(0,[]),Nat.zero_le _⟩ ?_ rfl ?_
  · (simp only [zT,zV,zS,zU,vcC,lateX,ex,strp,binA,elems,cells,scalar,eqC,keyA,intsA,lookA,ofVs,mpOf,Nat.reduceBEq,reduceAdd,reduceSub,reduceLT,reduceLeDiff,reduceMul,reduceEqDiff,reduceIte]; try simp)
    try rfl
  rintro ⟨⟨m,μ⟩,hm⟩
  simp only at hm
  simp only
  by_cases hlt:m < l.length
  · obtain ⟨y,hy⟩:∃ y,l[m]?=some y:=⟨_,List.getElem?_eq_getElem hlt⟩
    have hlm:=limA_take (k:=k) (a:=x.al) hy
    have hgA:=limA_good k (l.take m) x.al hga fun z hz=>hg z (List.mem_of_mem_take hz)
    have hme:=meet_spec _ _ hgA (hg y (List.mem_of_getElem? hy))
    (repeat' ((first
 | refine vn rfl ?_
 | simp (disch:=omega) only [wr64,Int.zero_sub]
 | refine bo (fun _=>?_) fun _=>?_
 | refine im fun _=>?_
 | ((repeat refine si ?_); (first | ((first | refine .inl ⟨_,_,_,_,rfl,fun _=>pu hme,?_⟩ | refine ⟨_,_,_,_,rfl,fun _=>pu hme,?_⟩); (first | refine o1 ?_ | refine o2 ?_ | refine o3 ?_ | refine o4 ?_)) | refine .inl ⟨_,_,_,_,rfl,pu hme,?_⟩))
 | refine cF ?_
 | refine om ?_
 | refine an ?_
 | fail) <;> try simp only [zT,zV,zS,zU,vcC,lateX,ex,strp,binA,elems,cells,scalar,eqC,keyA,intsA,lookA,ofVs,mpOf,Nat.reduceBEq,reduceAdd,reduceSub,reduceLT,reduceLeDiff,reduceMul,reduceEqDiff,reduceIte,getD_map hy]))
    all_goals try (exfalso; omega)
    · rename_i hc
      rw [if_pos hc] at hlm
      exact ⟨⟨(m+1,μ++[some [⟨65,2,[Lim.cs y],none⟩]]),hlt⟩,⟨by simp only; rw [hlm],rfl⟩,rfl,by simp only; omega⟩
    · rename_i hc
      rw [if_neg hc] at hlm
      exact ⟨⟨(m+1,μ++[some [⟨65,2,[Lim.cs y],none⟩]]),hlt⟩,⟨by simp only; rw [hlm],rfl⟩,rfl,by simp only; omega⟩
  · obtain rfl:m=l.length:=by omega
    rw [List.take_length]
    (repeat' ((first
 | refine vn rfl ?_
 | simp (disch:=omega) only [wr64,Int.zero_sub]
 | refine bo (fun _=>?_) fun _=>?_
 | refine im fun _=>?_
 | refine cF ?_
 | refine om ?_
 | refine an ?_
 | fail) <;> try simp only [zT,zV,zS,zU,vcC,lateX,ex,strp,binA,elems,cells,scalar,eqC,keyA,intsA,lookA,ofVs,mpOf,Nat.reduceBEq,reduceAdd,reduceSub,reduceLT,reduceLeDiff,reduceMul,reduceEqDiff,reduceIte]))
    all_goals try (exfalso; omega)
    all_goals exact Frz.eq rfl (by simp)
def limSz (l:List Lim):Prop:=l.length < 9223372036854775808∧∀ x∈l,x.vs.length < 9223372036854775808
abbrev fixT (t:Trk) (l:List Lim):Trk:=copyT t (fun k i=>limA l k ((als t k).getD i [])) fun _ s=>s
noncomputable def fixE (t:Trk) (l:List Lim):Int:=if tr (valid t)=true then (if l.any (badL t)=true then 1 else if big (fixT t l)=true then 2 else 0) else 40
noncomputable def fixR (t:Trk) (l:List Lim):Trk:=if fixE t l=0 then fixT t l else []
theorem copyN_sz {al:List Sp} {c:Sp→Sp} {x:Nod} (ha:al.length < 9223372036854775808) (hx:x.nx.length < 9223372036854775808):nodSz (copyN al c x):=⟨ha,Nat.lt_of_le_of_lt (chgE_len c x.nx) hx⟩
theorem copyL_sz {al:Nat→List Sp} {c:Sp→Sp} (ha:∀ i,(al i).length < 9223372036854775808):∀ (l:List Nod) (i:Nat),(∀ x∈l,x.nx.length < 9223372036854775808)→∀ y∈copyL al c i l,nodSz y
  | [],_,_,y,hy=>by cases hy
  | x::r,i,h,y,hy=>by
    rcases List.mem_cons.1 hy with rfl | hy
    · exact copyN_sz (ha i) (h x List.mem_cons_self)
    · exact copyL_sz ha r (i+1) (fun z hz=>h z (List.mem_cons_of_mem _ hz)) y hy
theorem copyF_sz {al:Nat→Nat→List Sp} {c:Nat→Sp→Sp} (ha:∀ k i,(al k i).length < 9223372036854775808):∀ (t:Trk) (k:Nat),(∀ l∈t,stgSz l)→∀ y∈copyF al c k t,stgSz y
  | [],_,_,y,hy=>by cases hy
  | x::r,k,h,y,hy=>by
    rcases List.mem_cons.1 hy with rfl | hy
    · obtain ⟨h1,h2⟩:=h x List.mem_cons_self
      exact ⟨by rw [copyL_len]; exact h1,copyL_sz (ha k) x 0 fun z hz=>(h2 z hz).2⟩
    · exact copyF_sz ha r (k+1) (fun z hz=>h z (List.mem_cons_of_mem _ hz)) y hy
theorem copyT_sz {al:Nat→Nat→List Sp} {c:Nat→Sp→Sp} {t:Trk} (ha:∀ k i,(al k i).length < 9223372036854775808) (ht:trkSz t):trkSz (copyT t al c):=⟨by rw [copyF_len]; exact ht.1,copyF_sz ha t 0 ht.2⟩
theorem Fix_spec (t:Trk) (l:List Lim) (hs:trkSz t) (hl:limSz l):Pure Tryz.prog 42 [trS t,liS l] (.tup [trS (fixR t l),n (fixE t l)]):=by
  refine Pure.of_body Tryz.call42 Tryz.func42 k42 (Nat.le_of_ble_eq_true rfl) ?_
  unfold c42
  have hc:=Check_spec t hs
  by_cases hv:valid t
  · rw [tr_1 hv] at hc
    simp only [if_true] at hc
    have hco:=containsLim_spec 99 [.iptr [tkS t] 0] (by simp (maxDischargeDepth:=9)) (badL t) l hl.1 (fun x hx=>fix1_spec t x (hl.2 x hx))
    have he:fixE t l=if l.any (badL t)=true then 1 else if big (fixT t l)=true then 2 else 0:=by unfold fixE; rw [tr_1 hv,if_pos rfl]
    have hr:fixR t l=if fixE t l=0 then fixT t l else []:=rfl
    by_cases hb:l.any (badL t)=true
    · rw [hb] at hco he
      rw [hr,he]
      (repeat' ((first
 | refine vn rfl ?_
 | simp (disch:=omega) only [wr64,Int.zero_sub]
 | refine bo (fun _=>?_) fun _=>?_
 | refine im fun _=>?_
 | ((repeat refine si ?_); (first | ((first | refine .inl ⟨_,_,_,_,rfl,fun _=>pu (by first | exact hc | exact hco),?_⟩ | refine ⟨_,_,_,_,rfl,fun _=>pu (by first | exact hc | exact hco),?_⟩); (first | refine o1 ?_ | refine o2 ?_ | refine o3 ?_ | refine o4 ?_)) | refine .inl ⟨_,_,_,_,rfl,pu (by first | exact hc | exact hco),?_⟩))
 | refine cF ?_
 | refine om ?_
 | refine an ?_
 | fail) <;> try simp only [zT,zV,zS,zU,vcC,lateX,ex,strp,binA,elems,cells,scalar,eqC,keyA,intsA,lookA,ofVs,mpOf,Nat.reduceBEq,reduceAdd,reduceSub,reduceLT,reduceLeDiff,reduceMul,reduceEqDiff,reduceIte]))
      all_goals try (exfalso; omega)
      exact frz2 frz_aggnil (by simp)
    · have hb':l.any (badL t)=false:=by simpa using hb
      rw [hb'] at hco he
      have hg:∀ x∈l,good x.vs:=fun x hx=>by
        have h:=List.any_eq_false.1 hb' x hx
        unfold badL at h
        by_cases hsm:small x.vs
        · exact hsm.2
        · rw [tr_0 hsm] at h; simp at h
      have hgA:∀ k i,good (limA l k ((als t k).getD i [])):=fun k i=>limA_good k l _ (goods_get (als_goods hv k) i) hg
      have hcp:=copied_spec t hv 102 103 [.iptr [tkS t] 0,.iptr [liS l] 0] [] (by simp (maxDischargeDepth:=9)) (by simp) (fun k i=>limA l k ((als t k).getD i [])) (fun _ s=>s)
        (fun k i hk hi=>⟨fix2_spec t l hv hl.1 hg k i hk hi,by have:=good_len (hgA k i); omega⟩) (fun k s=>same_spec k s)
      have hsz:=sized_spec (fixT t l) (copyT_sz (fun k i=>by have:=good_len (hgA k i); omega) hs)
      have hre:fixR t l=if big (fixT t l)=true then [] else fixT t l:=by
        rw [hr,he]
        cases big (fixT t l) <;> rfl
      have hee:fixE t l=if big (fixT t l)=true then 2 else 0:=he
      rw [hre,hee]
      (repeat' ((first
 | refine vn rfl ?_
 | simp (disch:=omega) only [wr64,Int.zero_sub]
 | refine bo (fun _=>?_) fun _=>?_
 | refine im fun _=>?_
 | ((repeat refine si ?_); (first | ((first | refine .inl ⟨_,_,_,_,rfl,fun _=>pu (by first | exact hc | exact hco | exact hcp | exact hsz),?_⟩ | refine ⟨_,_,_,_,rfl,fun _=>pu (by first | exact hc | exact hco | exact hcp | exact hsz),?_⟩); (first | refine o1 ?_ | refine o2 ?_ | refine o3 ?_ | refine o4 ?_)) | refine .inl ⟨_,_,_,_,rfl,pu (by first | exact hc | exact hco | exact hcp | exact hsz),?_⟩))
 | refine cF ?_
 | refine om ?_
 | refine an ?_
 | fail) <;> try simp only [zT,zV,zS,zU,vcC,lateX,ex,strp,binA,elems,cells,scalar,eqC,keyA,intsA,lookA,ofVs,mpOf,Nat.reduceBEq,reduceAdd,reduceSub,reduceLT,reduceLeDiff,reduceMul,reduceEqDiff,reduceIte]))
      all_goals try (exfalso; omega)
      all_goals exact Frz.eq rfl (by simp (maxDischargeDepth:=9))
  · rw [tr_0 hv] at hc
    simp only [Bool.false_eq_true,if_false] at hc
    have he:fixE t l=40:=by unfold fixE; rw [tr_0 hv]; rfl
    have hr:fixR t l=[]:=by unfold fixR; rw [he]; rfl
    rw [hr,he]
    (repeat' ((first
 | refine vn rfl ?_
 | simp (disch:=omega) only [wr64,Int.zero_sub]
 | refine bo (fun _=>?_) fun _=>?_
 | refine im fun _=>?_
 | ((repeat refine si ?_); (first | ((first | refine .inl ⟨_,_,_,_,rfl,fun _=>pu hc,?_⟩ | refine ⟨_,_,_,_,rfl,fun _=>pu hc,?_⟩); (first | refine o1 ?_ | refine o2 ?_ | refine o3 ?_ | refine o4 ?_)) | refine .inl ⟨_,_,_,_,rfl,pu hc,?_⟩))
 | refine cF ?_
 | refine om ?_
 | refine an ?_
 | fail) <;> try simp only [zT,zV,zS,zU,vcC,lateX,ex,strp,binA,elems,cells,scalar,eqC,keyA,intsA,lookA,ofVs,mpOf,Nat.reduceBEq,reduceAdd,reduceSub,reduceLT,reduceLeDiff,reduceMul,reduceEqDiff,reduceIte]))
    all_goals try (exfalso; omega)
    exact frz2 frz_aggnil (by simp)
def smp:Trk:=[[⟨[⟨0,2⟩],[⟨0,⟨1,1⟩⟩,⟨1,⟨5,6⟩⟩]⟩],[⟨[⟨0,1⟩,⟨3,3⟩],[⟨0,⟨0,2⟩⟩]⟩,⟨[⟨6,20⟩],[⟨0,⟨-3,-3⟩⟩]⟩],[⟨[⟨0,4⟩,⟨9,9⟩],[]⟩]]
def smpL:List Lim:=[⟨2,[⟨9,9⟩]⟩]
def smp2:Trk:=fixT smp smpL
instance decNorm:∀ l,Decidable (Norm l)
  | []=>isTrue trivial
  | s::r=>@instDecidableAnd _ _ _ (@instDecidableAnd _ _ _ (decNorm r))
instance (l:List Sp):Decidable (good l):=by unfold good; infer_instance
instance (m:Nat) (e:Edg):Decidable (edgOk m e):=by unfold edgOk; infer_instance
instance (m:Nat) (x:Nod):Decidable (nodOk m x):=by unfold nodOk; infer_instance
instance (m:Nat) (l:List Nod):Decidable (stgOk m l):=by unfold stgOk; infer_instance
instance (t:Trk):Decidable (valid t):=by unfold valid; infer_instance
instance (x:List (List Sp)):Decidable (goods x):=by unfold goods; infer_instance
instance (t:Trk) (p:List (List (List Sp))):Decidable (setsOk t p):=by unfold setsOk; infer_instance
instance (t:Trk) (p:List (List (List Sp))) (k:Nat) (h:Hop):Decidable (hopHolds t p k h):=by unfold hopHolds; infer_instance
instance (t:Trk) (p:List (List (List Sp))) (i:Nat):Decidable (startHolds t p i):=by unfold startHolds; infer_instance
instance decHops (t:Trk) (p:List (List (List Sp))) (m:Nat):Decidable (∀ k,k+1 < m→∀ h∈stp t k,hopHolds t p k h) :=
  decidable_of_iff (∀ k,k < m - 1→∀ h∈stp t k,hopHolds t p k h) ⟨fun h k hk=>h k (by omega),fun h k hk=>h k (by omega)⟩
instance (t:Trk) (p:List (List (List Sp))):Decidable (hold t p):=by unfold hold; infer_instance
instance (t:Trk) (p:List (List (List Sp))):Decidable (proofOk t p):=by unfold proofOk; infer_instance
theorem smp_valid:valid smp:=by
  decide
theorem smp_sz:trkSz smp:=by
  unfold trkSz stgSz nodSz
  decide
theorem smp2_eq:smp2=[[⟨[⟨0,2⟩],[⟨0,⟨1,1⟩⟩,⟨1,⟨5,6⟩⟩]⟩],[⟨[⟨0,1⟩,⟨3,3⟩],[⟨0,⟨0,2⟩⟩]⟩,⟨[⟨6,20⟩],[⟨0,⟨-3,-3⟩⟩]⟩],[⟨[⟨9,9⟩],[]⟩]]:=rfl
theorem smp2_valid:valid smp2:=by
  rw [smp2_eq]
  decide
theorem smp2_sz:trkSz smp2:=by
  rw [smp2_eq]
  unfold trkSz stgSz nodSz
  decide
theorem smp_feas:feas smp=true:=by decide
theorem smp2_feas:feas smp2=false:=by rw [smp2_eq]; decide
theorem smp_ask:askE smp true=0:=askE0.2 ⟨smp_valid,rfl,smp_feas⟩
theorem smp_vals:unis (allv smp 1)=[⟨1,1⟩,⟨3,3⟩,⟨6,7⟩]:=by decide
theorem smp_ends:endsL smp 2=[⟨3,4⟩]:=by decide
theorem smp_endsE:endsE smp 2=0:=by
  unfold endsE; rw [if_pos smp_ask,smp_ends]; rfl
theorem smp_chg0:(chgR smp 0).hi=6:=by decide
theorem smp_chg1:(chgR smp 1).lo=-3:=by decide
theorem smp_with:withR smp 1 ⟨1,7⟩=([⟨0,1⟩,⟨1,7⟩,⟨0,4⟩],0):=by
  unfold withR
  have h1:decide (okW smp 1 ⟨1,7⟩)=true:=by decide
  rw [h1,smp_ask,if_neg (by simp),if_neg (by decide)]
  exact if_pos (by rfl)
theorem smp_prove:proveE smp=3:=by unfold proveE; rw [tr_1 smp_valid,smp_feas]; rfl
theorem smp2_prove:proveE smp2=0:=by unfold proveE; rw [tr_1 smp2_valid,smp2_feas]; rfl
theorem smpL_sz:limSz smpL:=by unfold limSz; decide
theorem badL_no:badL smp ⟨2,[⟨9,9⟩]⟩=false:=by
  unfold badL
  rw [tr_1 (by unfold small good; decide)]; rfl
theorem smp_fixE:fixE smp smpL=0:=by
  unfold fixE
  rw [tr_1 smp_valid,if_pos rfl]
  have:smpL.any (badL smp)=false:=List.any_eq_false.2 fun x hx=>by
    rw [List.mem_singleton.1 hx,badL_no]; simp
  rw [this]
  have hb:big (fixT smp smpL)=false:=by decide
  rw [hb]; rfl
theorem smp_fixR:fixR smp smpL=smp2:=by unfold fixR; rw [smp_fixE]; rfl
theorem smp2_proof:proofOk smp2 (fwds smp2):=by
  rw [smp2_eq]
  decide
theorem smp_proof:¬ proofOk smp (fwds smp2):=by
  rw [smp2_eq]
  decide
theorem fwds_sz2:setsSz (fwds smp2):=by
  rw [smp2_eq]; unfold setsSz; decide
def c70:CF:=⟨26,
 (.seq (.ops [
 ⟨some 4,.mv (.c (.bool false)),none⟩] [0,1])
 (.seq (.seq (.ops [
 ⟨some 6,.mv (.t 0),none⟩,
 ⟨some 7,.len (.t 6),none⟩,
 ⟨some 8,.mv (.t 1),none⟩,
 ⟨some 9,.len (.t 8),none⟩,
 ⟨some 10,.bin .neq (.t 7) (.t 9),none⟩] [0,1,10])
 (.cond (.t 10) (.seq (.ops [
 ⟨some 4,.mv (.c (.bool false)),none⟩] [4])
 .ret)
 .skip))
 (.seq (.seq (.ops [
 ⟨some 5,.mv (.c (.int .i64 0)),none⟩] [0,1,5])
 (.block 0 (.loop (.seq (.seq (.ops [
 ⟨some 11,.mv (.t 5),none⟩,
 ⟨some 12,.mv (.t 0),none⟩,
 ⟨some 13,.len (.t 12),none⟩,
 ⟨some 14,.bin .lss (.t 11) (.t 13),none⟩] [0,1,5,14])
 (.cond (.t 14) .skip
 (.exit 0)))
 (.seq (.block 1 (.seq (.draw [
 ⟨some 17,.mv (.t 0),none⟩,
 ⟨some 18,.mv (.t 5),none⟩,
 ⟨some 19,.iaddr 2 (.t 17) (.t 18),none⟩,
 ⟨some 20,.load (some 2) (.t 19),none⟩,
 ⟨some 21,.mv (.t 1),none⟩,
 ⟨some 22,.mv (.t 5),none⟩,
 ⟨some 23,.iaddr 2 (.t 21) (.t 22),none⟩,
 ⟨some 24,.load (some 2) (.t 23),none⟩,
 ⟨some 25,.eqs true [some .i64,some .i64] (.t 20) (.t 24),none⟩] [
 ] [0,1,5,25])
 (.cond (.t 25) (.seq (.ops [
 ⟨some 4,.mv (.c (.bool false)),none⟩] [4])
 .ret)
 .skip)))
 (.ops [
 ⟨some 15,.mv (.t 5),none⟩,
 ⟨some 16,.bin .add (.t 15) (.c (.int .i64 1)),none⟩,
 ⟨some 5,.mv (.t 16),none⟩] [0,1,5]))))))
 (.seq (.ops [
 ⟨some 4,.mv (.c (.bool true)),none⟩] [4])
 .ret)))),
 [.t 4]⟩
def c67:CF:=⟨31,
 (.seq (.ops [
 ⟨some 0,.alloc 24 1 [.slice none 0 0],none⟩] [0])
 (.seq (.ops [
 ⟨some 1,.build [.int .i64 0,.int .i64 0] [(1,1,(.c (.int .i64 2)))],none⟩,
 ⟨some 2,.bsl true 30 2 1 [.int .i64 0,.int .i64 0] [(0,2,(.t 1))],none⟩,
 ⟨some 3,.build [.int .i64 0,.int .i64 0] [(0,1,(.c (.int .i64 1))),(1,1,(.c (.int .i64 1)))],none⟩,
 ⟨some 4,.build [.int .i64 0,.int .i64 0,.int .i64 0] [(0,1,(.c (.int .i64 0))),(1,2,(.t 3))],none⟩,
 ⟨some 5,.build [.int .i64 0,.int .i64 0] [(0,1,(.c (.int .i64 5))),(1,1,(.c (.int .i64 6)))],none⟩,
 ⟨some 6,.build [.int .i64 0,.int .i64 0,.int .i64 0] [(0,1,(.c (.int .i64 1))),(1,2,(.t 5))],none⟩,
 ⟨some 7,.bsl true 124 3 2 [.int .i64 0,.int .i64 0,.int .i64 0,.int .i64 0,.int .i64 0,.int .i64 0] [(0,3,(.t 4)),(3,3,(.t 6))],none⟩,
 ⟨some 8,.build [.slice none 0 0,.slice none 0 0] [(0,1,(.t 2)),(1,1,(.t 7))],none⟩,
 ⟨some 9,.bsl false 80 2 1 [.slice none 0 0,.slice none 0 0] [(0,2,(.t 8))],none⟩,
 ⟨some 10,.build [.int .i64 0,.int .i64 0] [(1,1,(.c (.int .i64 1)))],none⟩,
 ⟨some 11,.build [.int .i64 0,.int .i64 0] [(0,1,(.c (.int .i64 3))),(1,1,(.c (.int .i64 3)))],none⟩,
 ⟨some 12,.bsl true 30 2 2 [.int .i64 0,.int .i64 0,.int .i64 0,.int .i64 0] [(0,2,(.t 10)),(2,2,(.t 11))],none⟩,
 ⟨some 13,.build [.int .i64 0,.int .i64 0] [(1,1,(.c (.int .i64 2)))],none⟩,
 ⟨some 14,.build [.int .i64 0,.int .i64 0,.int .i64 0] [(1,2,(.t 13))],none⟩,
 ⟨some 15,.bsl true 124 3 1 [.int .i64 0,.int .i64 0,.int .i64 0] [(0,3,(.t 14))],none⟩,
 ⟨some 16,.build [.slice none 0 0,.slice none 0 0] [(0,1,(.t 12)),(1,1,(.t 15))],none⟩,
 ⟨some 17,.build [.int .i64 0,.int .i64 0] [(0,1,(.c (.int .i64 6))),(1,1,(.c (.int .i64 20)))],none⟩,
 ⟨some 18,.bsl true 30 2 1 [.int .i64 0,.int .i64 0] [(0,2,(.t 17))],none⟩,
 ⟨some 19,.build [.int .i64 0,.int .i64 0] [(0,1,(.c (.int .i64 (-3)))),(1,1,(.c (.int .i64 (-3))))],none⟩,
 ⟨some 20,.build [.int .i64 0,.int .i64 0,.int .i64 0] [(1,2,(.t 19))],none⟩,
 ⟨some 21,.bsl true 124 3 1 [.int .i64 0,.int .i64 0,.int .i64 0] [(0,3,(.t 20))],none⟩,
 ⟨some 22,.build [.slice none 0 0,.slice none 0 0] [(0,1,(.t 18)),(1,1,(.t 21))],none⟩,
 ⟨some 23,.bsl false 80 2 2 [.slice none 0 0,.slice none 0 0,.slice none 0 0,.slice none 0 0] [(0,2,(.t 16)),(2,2,(.t 22))],none⟩,
 ⟨some 24,.build [.int .i64 0,.int .i64 0] [(1,1,(.c (.int .i64 4)))],none⟩,
 ⟨some 25,.build [.int .i64 0,.int .i64 0] [(0,1,(.c (.int .i64 9))),(1,1,(.c (.int .i64 9)))],none⟩,
 ⟨some 26,.bsl true 30 2 2 [.int .i64 0,.int .i64 0,.int .i64 0,.int .i64 0] [(0,2,(.t 24)),(2,2,(.t 25))],none⟩,
 ⟨some 27,.build [.slice none 0 0,.slice none 0 0] [(0,1,(.t 26))],none⟩,
 ⟨some 28,.bsl false 80 2 1 [.slice none 0 0,.slice none 0 0] [(0,2,(.t 27))],none⟩,
 ⟨some 29,.bsl true 68 1 3 [.slice none 0 0,.slice none 0 0,.slice none 0 0] [(0,1,(.t 9)),(1,1,(.t 23)),(2,1,(.t 28))],none⟩,
 ⟨some 30,.build [.slice none 0 0] [(0,1,(.t 29))],none⟩,
 ⟨none,.store 1 (.t 0) (.t 30),none⟩] [0])
 .ret)),
 [.c 0 (some 1)]⟩
def c16:CF:=⟨132,
 (.seq (.ops [
 ⟨some 0,.mv (.c (.bool false)),none⟩] [])
 (.seq (.ops [
 ⟨some 18,.call (.f 67) [],none⟩,
 ⟨some 19,.call (.f 36) [(.t 18),(.c (.int .i64 1))],none⟩,
 ⟨some 17,.mv (.t 19),none⟩,
 ⟨some 20,.ext 0 (.t 17),none⟩,
 ⟨some 21,.ext 1 (.t 17),none⟩,
 ⟨some 1,.mv (.t 20),none⟩,
 ⟨some 2,.mv (.t 21),none⟩] [1,2])
 (.seq (.ops [
 ⟨some 23,.call (.f 67) [],none⟩,
 ⟨some 24,.build [.int .i64 0,.int .i64 0] [(0,1,(.c (.int .i64 1))),(1,1,(.c (.int .i64 7)))],none⟩,
 ⟨some 25,.call (.f 50) [(.t 23),(.c (.int .i64 1)),(.t 24)],none⟩,
 ⟨some 22,.mv (.t 25),none⟩,
 ⟨some 26,.ext 0 (.t 22),none⟩,
 ⟨some 27,.ext 1 (.t 22),none⟩,
 ⟨some 3,.mv (.t 26),none⟩,
 ⟨some 4,.mv (.t 27),none⟩] [1,2,3,4])
 (.seq (.ops [
 ⟨some 29,.call (.f 67) [],none⟩,
 ⟨some 30,.call (.f 68) [(.t 29),(.c (.int .i64 0))],none⟩,
 ⟨some 28,.mv (.t 30),none⟩,
 ⟨some 31,.ext 0 (.t 28),none⟩,
 ⟨some 32,.ext 1 (.t 28),none⟩,
 ⟨some 5,.mv (.t 31),none⟩,
 ⟨some 6,.mv (.t 32),none⟩] [1,2,3,4,5,6])
 (.seq (.ops [
 ⟨some 34,.call (.f 67) [],none⟩,
 ⟨some 35,.call (.f 69) [(.t 34),(.c (.int .i64 1))],none⟩,
 ⟨some 33,.mv (.t 35),none⟩,
 ⟨some 36,.ext 0 (.t 33),none⟩,
 ⟨some 37,.ext 1 (.t 33),none⟩,
 ⟨some 7,.mv (.t 36),none⟩,
 ⟨some 8,.mv (.t 37),none⟩] [1,2,3,4,5,6,7,8])
 (.seq (.ops [
 ⟨some 39,.call (.f 67) [],none⟩,
 ⟨some 40,.call (.f 40) [(.t 39),(.c (.int .i64 2))],none⟩,
 ⟨some 38,.mv (.t 40),none⟩,
 ⟨some 41,.ext 0 (.t 38),none⟩,
 ⟨some 42,.ext 1 (.t 38),none⟩,
 ⟨some 9,.mv (.t 41),none⟩,
 ⟨some 10,.mv (.t 42),none⟩] [1,2,3,4,5,6,7,8,9,10])
 (.seq (.ops [
 ⟨some 44,.call (.f 67) [],none⟩,
 ⟨some 45,.build [.int .i64 0,.int .i64 0] [(0,1,(.c (.int .i64 9))),(1,1,(.c (.int .i64 9)))],none⟩,
 ⟨some 46,.bsl false 30 2 1 [.int .i64 0,.int .i64 0] [(0,2,(.t 45))],none⟩,
 ⟨some 47,.build [.int .i64 0,.slice none 0 0] [(0,1,(.c (.int .i64 2))),(1,1,(.t 46))],none⟩,
 ⟨some 48,.bsl false 65 2 1 [.int .i64 0,.slice none 0 0] [(0,2,(.t 47))],none⟩,
 ⟨some 49,.call (.f 42) [(.t 44),(.t 48)],none⟩,
 ⟨some 43,.mv (.t 49),none⟩,
 ⟨some 50,.ext 0 (.t 43),none⟩,
 ⟨some 51,.ext 1 (.t 43),none⟩,
 ⟨some 11,.alloc 24 1 [.slice none 0 0],none⟩,
 ⟨none,.store 1 (.t 11) (.t 50),none⟩,
 ⟨some 12,.mv (.t 51),none⟩] [1,2,3,4,5,6,7,8,9,10,11,12])
 (.seq (.ops [
 ⟨some 53,.load (some 1) (.t 11),none⟩,
 ⟨some 54,.call (.f 19) [(.t 53)],none⟩,
 ⟨some 52,.mv (.t 54),none⟩,
 ⟨some 55,.ext 0 (.t 52),none⟩,
 ⟨some 56,.ext 1 (.t 52),none⟩,
 ⟨some 13,.alloc 38 1 [.slice none 0 0],none⟩,
 ⟨none,.store 1 (.t 13) (.t 55),none⟩,
 ⟨some 14,.mv (.t 56),none⟩] [1,2,3,4,5,6,7,8,9,10,11,12,13,14])
 (.seq (.ops [
 ⟨some 58,.call (.f 67) [],none⟩,
 ⟨some 59,.call (.f 19) [(.t 58)],none⟩,
 ⟨some 57,.mv (.t 59),none⟩,
 ⟨some 60,.ext 0 (.t 57),none⟩,
 ⟨some 61,.ext 1 (.t 57),none⟩,
 ⟨some 15,.alloc 38 1 [.slice none 0 0],none⟩,
 ⟨none,.store 1 (.t 15) (.t 60),none⟩,
 ⟨some 16,.mv (.t 61),none⟩] [1,2,3,4,5,6,7,8,9,10,11,12,13,14,16])
 (.seq (.seq (.ops [
 ⟨some 62,.mv (.t 2),none⟩,
 ⟨some 63,.bin .neq (.t 62) (.c (.int .i64 0)),none⟩,
 ⟨some 64,.mv (.t 63),none⟩,
 ⟨some 65,.mv (.t 4),some (64,false)⟩,
 ⟨some 66,.bin .neq (.t 65) (.c (.int .i64 0)),some (64,false)⟩,
 ⟨some 67,.pick (.t 64) (.c (.bool true)) (.t 66),none⟩,
 ⟨some 68,.mv (.t 67),none⟩,
 ⟨some 69,.mv (.t 6),some (68,false)⟩,
 ⟨some 70,.bin .neq (.t 69) (.c (.int .i64 0)),some (68,false)⟩,
 ⟨some 71,.pick (.t 68) (.c (.bool true)) (.t 70),none⟩,
 ⟨some 72,.mv (.t 71),none⟩,
 ⟨some 73,.mv (.t 8),some (72,false)⟩,
 ⟨some 74,.bin .neq (.t 73) (.c (.int .i64 0)),some (72,false)⟩,
 ⟨some 75,.pick (.t 72) (.c (.bool true)) (.t 74),none⟩,
 ⟨some 76,.mv (.t 75),none⟩,
 ⟨some 77,.mv (.t 10),some (76,false)⟩,
 ⟨some 78,.bin .neq (.t 77) (.c (.int .i64 0)),some (76,false)⟩,
 ⟨some 79,.pick (.t 76) (.c (.bool true)) (.t 78),none⟩,
 ⟨some 80,.mv (.t 79),none⟩,
 ⟨some 81,.mv (.t 12),some (80,false)⟩,
 ⟨some 82,.bin .neq (.t 81) (.c (.int .i64 0)),some (80,false)⟩,
 ⟨some 83,.pick (.t 80) (.c (.bool true)) (.t 82),none⟩,
 ⟨some 84,.mv (.t 83),none⟩,
 ⟨some 85,.mv (.t 14),some (84,false)⟩,
 ⟨some 86,.bin .neq (.t 85) (.c (.int .i64 0)),some (84,false)⟩,
 ⟨some 87,.pick (.t 84) (.c (.bool true)) (.t 86),none⟩,
 ⟨some 88,.mv (.t 87),none⟩,
 ⟨some 89,.mv (.t 16),some (88,false)⟩,
 ⟨some 90,.bin .neq (.t 89) (.c (.int .i64 3)),some (88,false)⟩,
 ⟨some 91,.pick (.t 88) (.c (.bool true)) (.t 90),none⟩] [1,3,5,7,9,11,13,91])
 (.cond (.t 91) (.seq (.ops [
 ⟨some 0,.mv (.c (.bool false)),none⟩] [0])
 .ret)
 .skip))
 (.seq (.draw [
 ⟨some 92,.mv (.t 1),none⟩,
 ⟨some 93,.build [.int .i64 0,.int .i64 0] [(0,1,(.c (.int .i64 1))),(1,1,(.c (.int .i64 1)))],none⟩,
 ⟨some 94,.build [.int .i64 0,.int .i64 0] [(0,1,(.c (.int .i64 3))),(1,1,(.c (.int .i64 3)))],none⟩,
 ⟨some 95,.build [.int .i64 0,.int .i64 0] [(0,1,(.c (.int .i64 6))),(1,1,(.c (.int .i64 7)))],none⟩,
 ⟨some 96,.bsl false 30 2 3 [.int .i64 0,.int .i64 0,.int .i64 0,.int .i64 0,.int .i64 0,.int .i64 0] [(0,2,(.t 93)),(2,2,(.t 94)),(4,2,(.t 95))],none⟩,
 ⟨some 97,.call (.f 28) [(.t 92),(.t 96)],none⟩,
 ⟨some 98,.mv (.t 97),none⟩,
 ⟨some 99,.mv (.t 3),some (98,true)⟩,
 ⟨some 100,.build [.int .i64 0,.int .i64 0] [(1,1,(.c (.int .i64 1)))],some (98,true)⟩,
 ⟨some 101,.build [.int .i64 0,.int .i64 0] [(0,1,(.c (.int .i64 1))),(1,1,(.c (.int .i64 7)))],some (98,true)⟩,
 ⟨some 102,.build [.int .i64 0,.int .i64 0] [(1,1,(.c (.int .i64 4)))],some (98,true)⟩,
 ⟨some 103,.bsl false 26 2 3 [.int .i64 0,.int .i64 0,.int .i64 0,.int .i64 0,.int .i64 0,.int .i64 0] [(0,2,(.t 100)),(2,2,(.t 101)),(4,2,(.t 102))],some (98,true)⟩,
 ⟨some 104,.call (.f 70) [(.t 99),(.t 103)],some (98,true)⟩,
 ⟨some 105,.pick (.t 98) (.t 104) (.c (.bool false)),none⟩,
 ⟨some 106,.mv (.t 105),none⟩,
 ⟨some 107,.mv (.t 5),some (106,true)⟩,
 ⟨some 108,.bin .eql (.t 107) (.c (.int .i64 6)),some (106,true)⟩,
 ⟨some 109,.pick (.t 106) (.t 108) (.c (.bool false)),none⟩,
 ⟨some 110,.mv (.t 109),none⟩,
 ⟨some 111,.mv (.t 7),some (110,true)⟩,
 ⟨some 112,.bin .eql (.t 111) (.c (.int .i64 (-3))),some (110,true)⟩,
 ⟨some 113,.pick (.t 110) (.t 112) (.c (.bool false)),none⟩,
 ⟨some 114,.mv (.t 113),none⟩,
 ⟨some 115,.mv (.t 9),some (114,true)⟩,
 ⟨some 116,.build [.int .i64 0,.int .i64 0] [(0,1,(.c (.int .i64 3))),(1,1,(.c (.int .i64 4)))],some (114,true)⟩,
 ⟨some 117,.bsl false 30 2 1 [.int .i64 0,.int .i64 0] [(0,2,(.t 116))],some (114,true)⟩,
 ⟨some 118,.call (.f 28) [(.t 115),(.t 117)],some (114,true)⟩,
 ⟨some 119,.pick (.t 114) (.t 118) (.c (.bool false)),none⟩,
 ⟨some 120,.mv (.t 119),none⟩,
 ⟨some 121,.load (some 1) (.t 11),some (120,true)⟩,
 ⟨some 122,.load (some 1) (.t 13),some (120,true)⟩,
 ⟨some 123,.call (.f 22) [(.t 121),(.t 122)],some (120,true)⟩,
 ⟨some 124,.bin .eql (.t 123) (.c (.int .i64 0)),some (120,true)⟩,
 ⟨some 125,.pick (.t 120) (.t 124) (.c (.bool false)),none⟩,
 ⟨some 126,.mv (.t 125),none⟩,
 ⟨some 127,.call (.f 67) [],some (126,true)⟩,
 ⟨some 128,.load (some 1) (.t 13),some (126,true)⟩,
 ⟨some 129,.call (.f 22) [(.t 127),(.t 128)],some (126,true)⟩,
 ⟨some 130,.bin .eql (.t 129) (.c (.int .i64 43)),some (126,true)⟩,
 ⟨some 131,.pick (.t 126) (.t 130) (.c (.bool false)),none⟩,
 ⟨some 0,.mv (.t 131),none⟩] [
 ] [0])
 .ret))))))))))),
 [.t 0]⟩
theorem k70:chkF Tryz.prog Tryz.f70 c70=true:=by kernel_rfl
theorem k67:chkF Tryz.prog Tryz.f67 c67=true:=by kernel_rfl
theorem k16:chkF Tryz.prog Tryz.f16 c16=true:=by kernel_rfl
theorem SameCourse_spec (a b:List At) (ha:a.length < 9223372036854775808) (hb:b.length < 9223372036854775808):Pure Tryz.prog 70 [atS a,atS b] (bl (decide (a=b))):=by
  refine Pure.of_body Tryz.call70 Tryz.func70 k70 (Nat.le_of_ble_eq_true rfl) ?_
  unfold c70
  (repeat' ((first
 | refine vn rfl ?_
 | simp (disch:=omega) only [wr64,Int.zero_sub]
 | refine bo (fun _=>?_) fun _=>?_
 | refine im fun _=>?_
 | refine cF ?_
 | refine om ?_
 | refine an ?_
 | fail) <;> try simp only [zT,zV,zS,zU,vcC,lateX,ex,strp,binA,elems,cells,scalar,eqC,keyA,intsA,lookA,ofVs,mpOf,Nat.reduceBEq,reduceAdd,reduceSub,reduceLT,reduceLeDiff,reduceMul,reduceEqDiff,reduceIte]))
  · rename_i h
    refine Frz.eq ?_ (by simp)
    rw [decide_eq_false (fun e=>by rw [e] at h; simp at h)]
  · rename_i h
    have hlen:a.length=b.length:=by omega
    refine AWPC.loopI 5 a.length (fun i=>a.take i=b.take i) (by simp) ?_ ?_
    · (simp only [zT,zV,zS,zU,vcC,lateX,ex,strp,binA,elems,cells,scalar,eqC,keyA,intsA,lookA,ofVs,mpOf,Nat.reduceBEq,reduceAdd,reduceSub,reduceLT,reduceLeDiff,reduceMul,reduceEqDiff,reduceIte]; try simp)
    · intro i hi hI
      by_cases hlt:i < a.length
      · obtain ⟨s,hs⟩:∃ s,a[i]?=some s:=⟨_,List.getElem?_eq_getElem hlt⟩
        obtain ⟨t,ht⟩:∃ t,b[i]?=some t:=⟨_,List.getElem?_eq_getElem (by omega)⟩
        (repeat' ((first
 | refine vn rfl ?_
 | simp (disch:=omega) only [wr64,Int.zero_sub]
 | refine bo (fun _=>?_) fun _=>?_
 | refine im fun _=>?_
 | refine cF ?_
 | refine om ?_
 | refine an ?_
 | fail) <;> try simp only [zT, zV, zS, zU, vcC, lateX, ex, strp, binA, elems, cells, scalar, eqC, keyA, intsA, lookA, ofVs, mpOf, Nat.reduceBEq, reduceAdd, reduceSub, reduceLT, reduceLeDiff, reduceMul, reduceEqDiff, reduceIte, getD_map hs, getD_map ht]))
        all_goals try (exfalso; omega)
        · rename_i h2
          refine Frz.eq ?_ (by simp)
          rw [decide_eq_false (fun e=>by subst e; rw [hs] at ht; injection ht with ht; subst ht; simp at h2)]
        · rename_i h2
          obtain ⟨s1,s2⟩:=s
          obtain ⟨t1,t2⟩:=t
          simp only at h2
          obtain ⟨rfl,rfl⟩:=h2
          exact ⟨⟨i+1,hlt,by rw [List.take_add_one,List.take_add_one,hI,hs,ht]⟩,by simp,by simp only; omega⟩
      · obtain rfl:i=a.length:=by omega
        (repeat' ((first
 | refine vn rfl ?_
 | simp (disch:=omega) only [wr64,Int.zero_sub]
 | refine bo (fun _=>?_) fun _=>?_
 | refine im fun _=>?_
 | refine cF ?_
 | refine om ?_
 | refine an ?_
 | fail) <;> try simp only [zT, zV, zS, zU, vcC, lateX, ex, strp, binA, elems, cells, scalar, eqC, keyA, intsA, lookA, ofVs, mpOf, Nat.reduceBEq, reduceAdd, reduceSub, reduceLT, reduceLeDiff, reduceMul, reduceEqDiff, reduceIte]))
        all_goals try (exfalso; omega)
        rw [List.take_length,hlen,List.take_length] at hI
        rw [decide_eq_true hI]
        exact Frz.eq rfl (by simp)
theorem Frz.sl {σ:Sto} {k:Nat} {es fs:List (List AV)} (hl:es.length=fs.length) (hk:∀ e,e < fs.length→(fs.getD e []).length=k) (h:∀ e j,e < fs.length→j < k→Frz σ ((es.getD e []).getD j .any) ((fs.getD e []).getD j .any)):Frz σ (.sl k es) (.sl k fs):=fun w X β x hs hx=>by
  cases hx with
  | slnil =>
    obtain rfl:fs=[]:=List.length_eq_zero_iff.1 (by rw [← hl]; rfl)
    exact .slnil _
  | slemp _ a cap =>
    obtain rfl:fs=[]:=List.length_eq_zero_iff.1 (by rw [← hl]; rfl)
    exact .slemp _ _ _
  | sl _ _ b o cap x hcap hk0 hc hX h1 hr =>
    rw [hl]
    exact .sl k fs b o cap x (hl ▸ hcap) hk (fun e he j hj=>hc e (by omega) j hj) (fun e j he hj hx=>hX e j (by omega) hj (.inl hx)) (fun e j he hj=>h1 e j (by omega) hj) fun e j he hj=>h e j (by omega) hj w X β _ hs (hr e j (by omega) hj)
theorem frz_ed {σ:Sto} {f m:Nat} (l:List Edg) (h:σ.at f 0=some ⟨124,3,l.map Edg.cs,none⟩) (hm:m=l.length):Frz σ (.own f 0 m) (edS l):=by
  subst hm
  refine Frz.own (o:=⟨124,3,l.map Edg.cs,none⟩) (es:=l.map Edg.cs) (show (3:Nat)≠0 by decide) h (by simp) (by simp) (fun e j he hj=>?_) fun e he=>?_
  · obtain ⟨x,hx⟩:∃ x,l[e]?=some x:=⟨_,List.getElem?_eq_getElem he⟩
    rw [getD_map hx]
    match j,hj with
    | 0,_=>exact Frz.eq rfl (by simp)
    | 1,_=>exact Frz.eq rfl (by simp)
    | 2,_=>exact Frz.eq rfl (by simp)
  · obtain ⟨x,hx⟩:∃ x,l[e]?=some x:=⟨_,List.getElem?_eq_getElem he⟩
    rw [getD_map hx]; rfl
theorem frz_st {σ:Sto} (rows:List (List AV)) (l:List Nod) (hl:rows.length=l.length) (h:∀ i x,l[i]?=some x→∃ a b,rows.getD i []=[a,b]∧Frz σ a (spS x.al)∧Frz σ b (edS x.nx)):Frz σ (.sl 2 rows) (stS l):=by
  refine Frz.sl (by simpa using hl) (fun e he=>?_) fun e j he hj=>?_
  · rw [List.length_map] at he
    rw [getD_map (List.getElem?_eq_getElem he)]; rfl
  · rw [List.length_map] at he
    obtain ⟨a,b,h1,h2,h3⟩:=h e _ (List.getElem?_eq_getElem he)
    rw [getD_map (List.getElem?_eq_getElem he),h1]
    match j,hj with
    | 0,_=>exact h2
    | 1,_=>exact h3
theorem frz_tkO {σ:Sto} {f:Nat} {rows:List (List AV)} (l:Trk) (ho:σ.at f 0=some ⟨68,1,rows,none⟩) (hl:rows.length=l.length) (h:∀ i x,l[i]?=some x→∃ a,rows.getD i []=[a]∧Frz σ a (stS x)):Frz σ (.own f 0 l.length) (tkS l):=by
  refine Frz.own (o:=⟨68,1,rows,none⟩) (es:=l.map fun x=>[stS x]) (show (1:Nat)≠0 by decide) ho (by simpa using hl) (by simp) (fun e j he hj=>?_) fun e he=>?_
  · obtain ⟨a,h1,h2⟩:=h e _ (List.getElem?_eq_getElem he)
    rw [getD_map (List.getElem?_eq_getElem he),h1]
    match j,hj with
    | 0,_=>exact h2
  · rw [getD_map (List.getElem?_eq_getElem he)]; rfl
theorem sample_spec:Pure Tryz.prog 67 [] (trS smp):=by
  refine Pure.of_body Tryz.call67 Tryz.func67 k67 (Nat.le_of_ble_eq_true rfl) ?_
  unfold c67
  (repeat' ((first
 | refine vn rfl ?_
 | simp (disch:=omega) only [wr64,Int.zero_sub]
 | refine bo (fun _=>?_) fun _=>?_
 | refine im fun _=>?_
 | refine cF ?_
 | refine om ?_
 | refine an ?_
 | fail) <;> try simp only [zT,zV,zS,zU,vcC,lateX,ex,strp,binA,elems,cells,scalar,eqC,keyA,intsA,lookA,ofVs,mpOf,Nat.reduceBEq,reduceAdd,reduceSub,reduceLT,reduceLeDiff,reduceMul,reduceEqDiff,reduceIte]))
  all_goals try (exfalso; omega)
  refine Frz.agg rfl fun q hq=>?_
  obtain rfl:q=0:=by simpa using hq
  refine frz_tkO smp rfl rfl fun i x hx=>?_
  match i,hx with
  | 0,hx =>
    injection hx with hx; subst hx
    refine ⟨_,rfl,frz_st _ _ rfl fun i x hx=>?_⟩
    match i,hx with
    | 0,hx=>injection hx with hx; subst hx; exact ⟨_,_,rfl,frz_sp' _ rfl rfl,frz_ed _ rfl rfl⟩
    | i+1,hx=>cases hx
  | 1,hx =>
    injection hx with hx; subst hx
    refine ⟨_,rfl,frz_st _ _ rfl fun i x hx=>?_⟩
    match i,hx with
    | 0,hx=>injection hx with hx; subst hx; exact ⟨_,_,rfl,frz_sp' _ rfl rfl,frz_ed _ rfl rfl⟩
    | 1,hx=>injection hx with hx; subst hx; exact ⟨_,_,rfl,frz_sp' _ rfl rfl,frz_ed _ rfl rfl⟩
    | i+2,hx=>cases hx
  | 2,hx =>
    injection hx with hx; subst hx
    refine ⟨_,rfl,frz_st _ _ rfl fun i x hx=>?_⟩
    match i,hx with
    | 0,hx=>injection hx with hx; subst hx; exact ⟨_,_,rfl,frz_sp' _ rfl rfl,frz_nil⟩
    | i+1,hx=>cases hx
  | i+3,hx=>cases hx
theorem awake_spec:Pure Tryz.prog 16 [] (bl true):=by
  refine Pure.of_body Tryz.call16 Tryz.func16 k16 (Nat.le_of_ble_eq_true rfl) ?_
  unfold c16
  have hv:=Values_spec smp smp_sz 1 (by intro; decide)
  rw [show decide (0≤(1:Int)∧(1:Int) < (smp.length:Int))=true by decide,smp_ask,if_pos rfl,show (1:Int).toNat=1 from rfl,smp_vals] at hv
  have hw:=With_spec smp 1 ⟨1,7⟩ smp_sz
  rw [smp_with] at hw
  have hg:=Greatest_spec smp 0 smp_sz (by decide)
  rw [show decide (0≤(0:Int)∧(0:Int)+1 < (smp.length:Int))=true by decide,smp_ask,if_pos rfl,show (0:Int).toNat=0 from rfl,smp_chg0] at hg
  have hl:=Least_spec smp 1 smp_sz (by decide)
  rw [show decide (0≤(1:Int)∧(1:Int)+1 < (smp.length:Int))=true by decide,smp_ask,if_pos rfl,show (1:Int).toNat=1 from rfl,smp_chg1] at hl
  have he:=Ends_spec smp 2 smp_sz
  rw [smp_ask,if_pos rfl,smp_ends,smp_endsE] at he
  have hf:=Fix_spec smp smpL smp_sz smpL_sz
  rw [smp_fixE,smp_fixR] at hf
  have hp:=Prove_spec smp2 smp2_sz
  rw [smp2_prove,if_pos rfl] at hp
  have hq:=Prove_spec smp smp_sz
  rw [smp_prove,if_neg (by decide)] at hq
  have hc:=CheckProof_spec smp2 (fwds smp2) smp2_sz fwds_sz2
  rw [tr_1 smp2_valid,if_pos rfl,tr_1 smp2_proof,if_pos rfl] at hc
  have hd:=CheckProof_spec smp (fwds smp2) smp_sz fwds_sz2
  rw [tr_1 smp_valid,if_pos rfl,tr_0 smp_proof,if_neg (by decide)] at hd
  have h1:=SameSpans_spec [⟨1,1⟩,⟨3,3⟩,⟨6,7⟩] [⟨1,1⟩,⟨3,3⟩,⟨6,7⟩] (by decide) (by decide)
  have h2:=SameCourse_spec [⟨0,1⟩,⟨1,7⟩,⟨0,4⟩] [⟨0,1⟩,⟨1,7⟩,⟨0,4⟩] (by decide) (by decide)
  have h3:=SameSpans_spec [⟨3,4⟩] [⟨3,4⟩] (by decide) (by decide)
  rw [decide_eq_true rfl] at h1 h2 h3
  have hs:=sample_spec
  (repeat' ((first
 | refine vn rfl ?_
 | simp (disch:=omega) only [wr64,Int.zero_sub]
 | refine bo (fun _=>?_) fun _=>?_
 | refine im fun _=>?_
 | ((repeat refine si ?_); (first | ((first | refine .inl ⟨_,_,_,_,rfl,fun _=>pu (by first | exact hs | exact hv | exact hw | exact hg | exact hl | exact he | exact hf | exact hp | exact hq | exact hc | exact hd | exact h1 | exact h2 | exact h3),?_⟩ | refine ⟨_,_,_,_,rfl,fun _=>pu (by first | exact hs | exact hv | exact hw | exact hg | exact hl | exact he | exact hf | exact hp | exact hq | exact hc | exact hd | exact h1 | exact h2 | exact h3),?_⟩); (first | refine o1 ?_ | refine o2 ?_ | refine o3 ?_ | refine o4 ?_)) | refine .inl ⟨_,_,_,_,rfl,pu (by first | exact hs | exact hv | exact hw | exact hg | exact hl | exact he | exact hf | exact hp | exact hq | exact hc | exact hd | exact h1 | exact h2 | exact h3),?_⟩))
 | refine cF ?_
 | refine om ?_
 | refine an ?_
 | fail) <;> try simp only [zT,zV,zS,zU,vcC,lateX,ex,strp,binA,elems,cells,scalar,eqC,keyA,intsA,lookA,ofVs,mpOf,Nat.reduceBEq,reduceAdd,reduceSub,reduceLT,reduceLeDiff,reduceMul,reduceEqDiff,reduceIte]))
  all_goals exact Frz.eq rfl (by simp)
end Go.Proofs.YtahkhnagpdlkiaaGreat
