/- Part 4 of the texts that the claim rests on: abstract values over the walk, and contracts of functions. -/
import Derived.Test.YtolgelipcgcbhaaGreatBc3
import Derived.Test.YtolgelipcgcbhaaGreatRows
namespace Go.Proofs.YtolgelipcgcbhaaGreat
open Go.Abs
open Nat renaming reduceBEq→W0,reduceAdd→W1,reduceSub→W2,reduceLT→W3,reduceLeDiff→W4,reduceMul→W5,reduceEqDiff→W6
open Int renaming zero_sub→W7
open Go.Abs renaming vcC→Q0,lateX→Q1,strp→Q2,binA→Q3,elems→Q4,cells→Q5,scalar→Q6,eqC→Q7,keyA→Q8,intsA→Q9,lookA→QA,ofVs→QB,mpOf→QC
set_option linter.unusedVariables false
set_option linter.unusedSimpArgs false
set_option maxHeartbeats 4000000
set_option maxRecDepth 100000
def c96:CF:=⟨15,
 (.seq (.ops [
 ⟨some 6,.mv (.c (.bool false)),none⟩] [0,1,2])
 (.seq (.ops [
 ⟨some 7,.mv (.t 0),none⟩,
 ⟨some 8,.mv (.t 1),none⟩,
 ⟨some 9,.bin .geq (.t 7) (.t 8),none⟩,
 ⟨some 10,.mv (.t 9),none⟩,
 ⟨some 11,.mv (.t 0),some (10,true)⟩,
 ⟨some 12,.mv (.t 2),some (10,true)⟩,
 ⟨some 13,.bin .leq (.t 11) (.t 12),some (10,true)⟩,
 ⟨some 14,.pick (.t 10) (.t 13) (.c (.bool false)),none⟩,
 ⟨some 6,.mv (.t 14),none⟩] [6])
 .ret)),
 [.t 6]⟩
theorem k96:chkF Tryz.prog Tryz.f96 c96=true:=by kernel_rfl
def c122:CF:=⟨15,
 (.seq (.ops [
 ⟨some 6,.mv (.c (.bool false)),none⟩] [0,1,2])
 (.seq (.ops [
 ⟨some 7,.mv (.t 0),none⟩,
 ⟨some 8,.mv (.t 1),none⟩,
 ⟨some 9,.bin .geq (.t 7) (.t 8),none⟩,
 ⟨some 10,.mv (.t 9),none⟩,
 ⟨some 11,.mv (.t 0),some (10,true)⟩,
 ⟨some 12,.mv (.t 2),some (10,true)⟩,
 ⟨some 13,.bin .leq (.t 11) (.t 12),some (10,true)⟩,
 ⟨some 14,.pick (.t 10) (.t 13) (.c (.bool false)),none⟩,
 ⟨some 6,.mv (.t 14),none⟩] [6])
 .ret)),
 [.t 6]⟩
theorem k122:chkF Tryz.prog Tryz.f122 c122=true:=by kernel_rfl
def c185:CF:=⟨15,
 (.seq (.ops [
 ⟨some 6,.mv (.c (.bool false)),none⟩] [0,1,2])
 (.seq (.ops [
 ⟨some 7,.mv (.t 0),none⟩,
 ⟨some 8,.mv (.t 1),none⟩,
 ⟨some 9,.bin .geq (.t 7) (.t 8),none⟩,
 ⟨some 10,.mv (.t 9),none⟩,
 ⟨some 11,.mv (.t 0),some (10,true)⟩,
 ⟨some 12,.mv (.t 2),some (10,true)⟩,
 ⟨some 13,.bin .leq (.t 11) (.t 12),some (10,true)⟩,
 ⟨some 14,.pick (.t 10) (.t 13) (.c (.bool false)),none⟩,
 ⟨some 6,.mv (.t 14),none⟩] [6])
 .ret)),
 [.t 6]⟩
theorem k185:chkF Tryz.prog Tryz.f185 c185=true:=by kernel_rfl
def c284:CF:=⟨15,
 (.seq (.ops [
 ⟨some 6,.mv (.c (.bool false)),none⟩] [0,1,2])
 (.seq (.ops [
 ⟨some 7,.mv (.t 0),none⟩,
 ⟨some 8,.mv (.t 1),none⟩,
 ⟨some 9,.bin .geq (.t 7) (.t 8),none⟩,
 ⟨some 10,.mv (.t 9),none⟩,
 ⟨some 11,.mv (.t 0),some (10,true)⟩,
 ⟨some 12,.mv (.t 2),some (10,true)⟩,
 ⟨some 13,.bin .leq (.t 11) (.t 12),some (10,true)⟩,
 ⟨some 14,.pick (.t 10) (.t 13) (.c (.bool false)),none⟩,
 ⟨some 6,.mv (.t 14),none⟩] [6])
 .ret)),
 [.t 6]⟩
theorem k284:chkF Tryz.prog Tryz.f284 c284=true:=by kernel_rfl
def c282:CF:=⟨15,
 (.seq (.ops [
 ⟨some 6,.mv (.c (.bool false)),none⟩] [0,1,2])
 (.seq (.ops [
 ⟨some 7,.mv (.t 0),none⟩,
 ⟨some 8,.mv (.t 1),none⟩,
 ⟨some 9,.bin .geq (.t 7) (.t 8),none⟩,
 ⟨some 10,.mv (.t 9),none⟩,
 ⟨some 11,.mv (.t 0),some (10,true)⟩,
 ⟨some 12,.mv (.t 2),some (10,true)⟩,
 ⟨some 13,.bin .leq (.t 11) (.t 12),some (10,true)⟩,
 ⟨some 14,.pick (.t 10) (.t 13) (.c (.bool false)),none⟩,
 ⟨some 6,.mv (.t 14),none⟩] [6])
 .ret)),
 [.t 6]⟩
theorem k282:chkF Tryz.prog Tryz.f282 c282=true:=by kernel_rfl
def c287:CF:=⟨19,
 (.seq (.ops [
 ⟨some 3,.box false 48 2 (.t 0),none⟩,
 ⟨some 6,.mv (.c (.bool false)),none⟩] [1,2,3])
 (.seq (.ops [
 ⟨some 7,.faddr 0 (.t 3),none⟩,
 ⟨some 8,.load none (.t 7),none⟩,
 ⟨some 9,.mv (.t 1),none⟩,
 ⟨some 10,.faddr 1 (.t 3),none⟩,
 ⟨some 11,.load none (.t 10),none⟩,
 ⟨some 12,.call (.f 96) [(.t 8),(.t 9),(.t 11)],none⟩,
 ⟨some 13,.mv (.t 12),none⟩,
 ⟨some 14,.faddr 1 (.t 3),some (13,true)⟩,
 ⟨some 15,.load none (.t 14),some (13,true)⟩,
 ⟨some 16,.mv (.t 2),some (13,true)⟩,
 ⟨some 17,.bin .leq (.t 15) (.t 16),some (13,true)⟩,
 ⟨some 18,.pick (.t 13) (.t 17) (.c (.bool false)),none⟩,
 ⟨some 6,.mv (.t 18),none⟩] [6])
 .ret)),
 [.t 6]⟩
theorem k287:chkF Tryz.prog Tryz.f287 c287=true:=by kernel_rfl
def c183:CF:=⟨19,
 (.seq (.ops [
 ⟨some 3,.box false 48 2 (.t 0),none⟩,
 ⟨some 6,.mv (.c (.bool false)),none⟩] [1,2,3])
 (.seq (.ops [
 ⟨some 7,.faddr 0 (.t 3),none⟩,
 ⟨some 8,.load none (.t 7),none⟩,
 ⟨some 9,.mv (.t 1),none⟩,
 ⟨some 10,.faddr 1 (.t 3),none⟩,
 ⟨some 11,.load none (.t 10),none⟩,
 ⟨some 12,.call (.f 185) [(.t 8),(.t 9),(.t 11)],none⟩,
 ⟨some 13,.mv (.t 12),none⟩,
 ⟨some 14,.faddr 1 (.t 3),some (13,true)⟩,
 ⟨some 15,.load none (.t 14),some (13,true)⟩,
 ⟨some 16,.mv (.t 2),some (13,true)⟩,
 ⟨some 17,.bin .leq (.t 15) (.t 16),some (13,true)⟩,
 ⟨some 18,.pick (.t 13) (.t 17) (.c (.bool false)),none⟩,
 ⟨some 6,.mv (.t 18),none⟩] [6])
 .ret)),
 [.t 6]⟩
theorem k183:chkF Tryz.prog Tryz.f183 c183=true:=by kernel_rfl
def c283:CF:=⟨13,
 (.seq (.ops [
 ⟨some 1,.box false 48 2 (.t 0),none⟩,
 ⟨some 2,.mv (.c (.bool false)),none⟩] [1])
 (.seq (.ops [
 ⟨some 3,.faddr 0 (.t 1),none⟩,
 ⟨some 4,.load none (.t 3),none⟩,
 ⟨some 5,.faddr 1 (.t 1),none⟩,
 ⟨some 6,.load none (.t 5),none⟩,
 ⟨some 7,.call (.f 282) [(.t 4),(.c (.int .i64 900)),(.t 6)],none⟩,
 ⟨some 8,.mv (.t 7),none⟩,
 ⟨some 9,.faddr 1 (.t 1),some (8,true)⟩,
 ⟨some 10,.load none (.t 9),some (8,true)⟩,
 ⟨some 11,.bin .leq (.t 10) (.c (.int .i64 1100)),some (8,true)⟩,
 ⟨some 12,.pick (.t 8) (.t 11) (.c (.bool false)),none⟩,
 ⟨some 2,.mv (.t 12),none⟩] [2])
 .ret)),
 [.t 2]⟩
theorem k283:chkF Tryz.prog Tryz.f283 c283=true:=by kernel_rfl
def c110:CF:=⟨13,
 (.seq (.ops [
 ⟨some 1,.box false 24 2 (.t 0),none⟩,
 ⟨some 2,.mv (.c (.int .i64 0)),none⟩] [1])
 (.seq (.seq (.ops [
 ⟨some 3,.faddr 0 (.t 1),none⟩,
 ⟨some 4,.load none (.t 3),none⟩,
 ⟨some 5,.call (.f 122) [(.t 4),(.c (.int .i64 0)),(.c (.int .i64 12000))],none⟩,
 ⟨some 6,.un .not (.t 5),none⟩,
 ⟨some 7,.mv (.t 6),none⟩,
 ⟨some 8,.faddr 1 (.t 1),some (7,false)⟩,
 ⟨some 9,.load none (.t 8),some (7,false)⟩,
 ⟨some 10,.call (.f 122) [(.t 9),(.c (.int .i64 0)),(.c (.int .i64 10000))],some (7,false)⟩,
 ⟨some 11,.un .not (.t 10),some (7,false)⟩,
 ⟨some 12,.pick (.t 7) (.c (.bool true)) (.t 11),none⟩] [12])
 (.cond (.t 12) (.seq (.ops [
 ⟨some 2,.mv (.c (.int .i64 1)),none⟩] [2])
 .ret)
 .skip))
 (.seq (.ops [
 ⟨some 2,.mv (.c (.int .i64 0)),none⟩] [2])
 .ret))),
 [.t 2]⟩
theorem k110:chkF Tryz.prog Tryz.f110 c110=true:=by kernel_rfl
def c280:CF:=⟨74,
 (.seq (.ops [
 ⟨some 1,.box false 50 10 (.t 0),none⟩,
 ⟨some 2,.mv (.c (.int .i64 0)),none⟩] [1])
 (.seq (.ops [
 ⟨some 5,.faddr 0 (.t 1),none⟩,
 ⟨some 6,.load none (.t 5),none⟩,
 ⟨some 7,.call (.f 282) [(.t 6),(.c (.int .i64 1)),(.c (.int .i64 10000))],none⟩,
 ⟨some 8,.mv (.t 7),none⟩,
 ⟨some 9,.faddr 1 (.t 1),some (8,true)⟩,
 ⟨some 10,.load none (.t 9),some (8,true)⟩,
 ⟨some 11,.call (.f 282) [(.t 10),(.c (.int .i64 1)),(.c (.int .i64 400000))],some (8,true)⟩,
 ⟨some 12,.pick (.t 8) (.t 11) (.c (.bool false)),none⟩,
 ⟨some 13,.mv (.t 12),none⟩,
 ⟨some 14,.faddr 2 (.t 1),some (13,true)⟩,
 ⟨some 15,.load none (.t 14),some (13,true)⟩,
 ⟨some 16,.bin .eql (.t 15) (.c (.int .i64 0)),some (13,true)⟩,
 ⟨some 17,.mv (.t 16),some (13,true)⟩,
 ⟨some 18,.faddr 2 (.t 1),some (17,false)⟩,
 ⟨some 19,.load none (.t 18),some (17,false)⟩,
 ⟨some 20,.faddr 1 (.t 1),some (17,false)⟩,
 ⟨some 21,.load none (.t 20),some (17,false)⟩,
 ⟨some 22,.call (.f 282) [(.t 19),(.t 21),(.c (.int .i64 4000000))],some (17,false)⟩,
 ⟨some 23,.pick (.t 17) (.c (.bool true)) (.t 22),some (13,true)⟩,
 ⟨some 24,.pick (.t 13) (.t 23) (.c (.bool false)),none⟩,
 ⟨some 3,.mv (.t 24),none⟩] [1,3])
 (.seq (.ops [
 ⟨some 25,.faddr 3 (.t 1),none⟩,
 ⟨some 26,.load none (.t 25),none⟩,
 ⟨some 27,.bin .geq (.t 26) (.c (.int .i64 0)),none⟩,
 ⟨some 28,.mv (.t 27),none⟩,
 ⟨some 29,.faddr 3 (.t 1),some (28,true)⟩,
 ⟨some 30,.load none (.t 29),some (28,true)⟩,
 ⟨some 31,.faddr 4 (.t 1),some (28,true)⟩,
 ⟨some 32,.load none (.t 31),some (28,true)⟩,
 ⟨some 33,.bin .lss (.t 30) (.t 32),some (28,true)⟩,
 ⟨some 34,.pick (.t 28) (.t 33) (.c (.bool false)),none⟩,
 ⟨some 35,.mv (.t 34),none⟩,
 ⟨some 36,.faddr 4 (.t 1),some (35,true)⟩,
 ⟨some 37,.load none (.t 36),some (35,true)⟩,
 ⟨some 38,.bin .leq (.t 37) (.c (.int .i64 12000)),some (35,true)⟩,
 ⟨some 39,.pick (.t 35) (.t 38) (.c (.bool false)),none⟩,
 ⟨some 40,.mv (.t 39),none⟩,
 ⟨some 41,.faddr 4 (.t 1),some (40,true)⟩,
 ⟨some 42,.load none (.t 41),some (40,true)⟩,
 ⟨some 43,.faddr 3 (.t 1),some (40,true)⟩,
 ⟨some 44,.load none (.t 43),some (40,true)⟩,
 ⟨some 45,.bin .sub (.t 42) (.t 44),some (40,true)⟩,
 ⟨some 46,.faddr 1 (.t 1),some (40,true)⟩,
 ⟨some 47,.load none (.t 46),some (40,true)⟩,
 ⟨some 48,.bin .leq (.t 45) (.t 47),some (40,true)⟩,
 ⟨some 49,.pick (.t 40) (.t 48) (.c (.bool false)),none⟩,
 ⟨some 4,.mv (.t 49),none⟩] [1,3,4])
 (.seq (.seq (.ops [
 ⟨some 50,.mv (.t 3),none⟩,
 ⟨some 51,.un .not (.t 50),none⟩,
 ⟨some 52,.mv (.t 51),none⟩,
 ⟨some 53,.mv (.t 4),some (52,false)⟩,
 ⟨some 54,.un .not (.t 53),some (52,false)⟩,
 ⟨some 55,.pick (.t 52) (.c (.bool true)) (.t 54),none⟩,
 ⟨some 56,.mv (.t 55),none⟩,
 ⟨some 57,.faddr 5 (.t 1),some (56,false)⟩,
 ⟨some 58,.load none (.t 57),some (56,false)⟩,
 ⟨some 59,.call (.f 282) [(.t 58),(.c (.int .i64 1)),(.c (.int .i64 200))],some (56,false)⟩,
 ⟨some 60,.un .not (.t 59),some (56,false)⟩,
 ⟨some 61,.pick (.t 56) (.c (.bool true)) (.t 60),none⟩,
 ⟨some 62,.mv (.t 61),none⟩,
 ⟨some 63,.faddr 6 (.t 1),some (62,false)⟩,
 ⟨some 64,.load (some 2) (.t 63),some (62,false)⟩,
 ⟨some 65,.call (.f 283) [(.t 64)],some (62,false)⟩,
 ⟨some 66,.un .not (.t 65),some (62,false)⟩,
 ⟨some 67,.pick (.t 62) (.c (.bool true)) (.t 66),none⟩,
 ⟨some 68,.mv (.t 67),none⟩,
 ⟨some 69,.faddr 8 (.t 1),some (68,false)⟩,
 ⟨some 70,.load (some 2) (.t 69),some (68,false)⟩,
 ⟨some 71,.call (.f 283) [(.t 70)],some (68,false)⟩,
 ⟨some 72,.un .not (.t 71),some (68,false)⟩,
 ⟨some 73,.pick (.t 68) (.c (.bool true)) (.t 72),none⟩] [73])
 (.cond (.t 73) (.seq (.ops [
 ⟨some 2,.mv (.c (.int .i64 10)),none⟩] [2])
 .ret)
 .skip))
 (.seq (.ops [
 ⟨some 2,.mv (.c (.int .i64 0)),none⟩] [2])
 .ret))))),
 [.t 2]⟩
theorem k280:chkF Tryz.prog Tryz.f280 c280=true:=by kernel_rfl
def c281:CF:=⟨37,
 (.seq (.ops [
 ⟨some 1,.box false 58 4 (.t 0),none⟩,
 ⟨some 2,.mv (.c (.int .i64 0)),none⟩] [1])
 (.seq (.ops [
 ⟨some 4,.faddr 1 (.t 1),none⟩,
 ⟨some 5,.load (some 2) (.t 4),none⟩,
 ⟨some 3,.alloc 48 2 [.int .i64 0,.int .i64 0],none⟩,
 ⟨none,.store 2 (.t 3) (.t 5),none⟩] [1,3])
 (.seq (.seq (.ops [
 ⟨some 6,.faddr 0 (.t 1),none⟩,
 ⟨some 7,.load none (.t 6),none⟩,
 ⟨some 8,.call (.f 284) [(.t 7),(.c (.int .i64 0)),(.c (.int .i64 8))],none⟩,
 ⟨some 9,.un .not (.t 8),none⟩,
 ⟨some 10,.mv (.t 9),none⟩,
 ⟨some 11,.faddr 0 (.t 3),some (10,false)⟩,
 ⟨some 12,.load none (.t 11),some (10,false)⟩,
 ⟨some 13,.faddr 1 (.t 3),some (10,false)⟩,
 ⟨some 14,.load none (.t 13),some (10,false)⟩,
 ⟨some 15,.call (.f 284) [(.t 12),(.c (.int .i64 (-200))),(.t 14)],some (10,false)⟩,
 ⟨some 16,.un .not (.t 15),some (10,false)⟩,
 ⟨some 17,.pick (.t 10) (.c (.bool true)) (.t 16),none⟩,
 ⟨some 18,.mv (.t 17),none⟩,
 ⟨some 19,.faddr 1 (.t 3),some (18,false)⟩,
 ⟨some 20,.load none (.t 19),some (18,false)⟩,
 ⟨some 21,.bin .gtr (.t 20) (.c (.int .i64 200)),some (18,false)⟩,
 ⟨some 22,.pick (.t 18) (.c (.bool true)) (.t 21),none⟩,
 ⟨some 23,.mv (.t 22),none⟩,
 ⟨some 24,.faddr 1 (.t 3),some (23,false)⟩,
 ⟨some 25,.load none (.t 24),some (23,false)⟩,
 ⟨some 26,.faddr 0 (.t 3),some (23,false)⟩,
 ⟨some 27,.load none (.t 26),some (23,false)⟩,
 ⟨some 28,.bin .sub (.t 25) (.t 27),some (23,false)⟩,
 ⟨some 29,.bin .gtr (.t 28) (.c (.int .i64 40)),some (23,false)⟩,
 ⟨some 30,.pick (.t 23) (.c (.bool true)) (.t 29),none⟩,
 ⟨some 31,.mv (.t 30),none⟩,
 ⟨some 32,.faddr 3 (.t 1),some (31,false)⟩,
 ⟨some 33,.load none (.t 32),some (31,false)⟩,
 ⟨some 34,.call (.f 284) [(.t 33),(.c (.int .i64 0)),(.c (.int .i64 12000))],some (31,false)⟩,
 ⟨some 35,.un .not (.t 34),some (31,false)⟩,
 ⟨some 36,.pick (.t 31) (.c (.bool true)) (.t 35),none⟩] [36])
 (.cond (.t 36) (.seq (.ops [
 ⟨some 2,.mv (.c (.int .i64 30)),none⟩] [2])
 .ret)
 .skip))
 (.seq (.ops [
 ⟨some 2,.mv (.c (.int .i64 0)),none⟩] [2])
 .ret)))),
 [.t 2]⟩
theorem k281:chkF Tryz.prog Tryz.f281 c281=true:=by kernel_rfl
theorem within_a (x lo hi:Int):Pure Tryz.prog 96 [n x,n lo,n hi] (bl (decide (inr x lo hi))):=by
  refine Pure.of_body Tryz.call96 Tryz.func96 k96 (Nat.le_of_ble_eq_true rfl) ?_
  unfold c96
  (repeat' ((first|refine vn rfl ?_|simp (disch:=omega) only [wr64,W7]|refine bo (fun _=>?_) fun _=>?_|refine im fun _=>?_|refine cF ?_|refine om ?_|refine an ?_|fail) <;> try simp only [zN,zT,zV,zS,zU,Q0,Q1,ex,Q2,Q3,Q4,Q5,Q6,Q7,Q8,Q9,QA,QB,QC,W0,W1,W2,W3,W4,W5,W6,reduceIte]))
  all_goals exact Frz.eq (congrArg bl (by simp)) (by simp)
theorem within_s (x lo hi:Int):Pure Tryz.prog 122 [n x,n lo,n hi] (bl (decide (inr x lo hi))):=by
  refine Pure.of_body Tryz.call122 Tryz.func122 k122 (Nat.le_of_ble_eq_true rfl) ?_
  unfold c122
  (repeat' ((first|refine vn rfl ?_|simp (disch:=omega) only [wr64,W7]|refine bo (fun _=>?_) fun _=>?_|refine im fun _=>?_|refine cF ?_|refine om ?_|refine an ?_|fail) <;> try simp only [zN,zT,zV,zS,zU,Q0,Q1,ex,Q2,Q3,Q4,Q5,Q6,Q7,Q8,Q9,QA,QB,QC,W0,W1,W2,W3,W4,W5,W6,reduceIte]))
  all_goals exact Frz.eq (congrArg bl (by simp)) (by simp)
theorem within_c (x lo hi:Int):Pure Tryz.prog 185 [n x,n lo,n hi] (bl (decide (inr x lo hi))):=by
  refine Pure.of_body Tryz.call185 Tryz.func185 k185 (Nat.le_of_ble_eq_true rfl) ?_
  unfold c185
  (repeat' ((first|refine vn rfl ?_|simp (disch:=omega) only [wr64,W7]|refine bo (fun _=>?_) fun _=>?_|refine im fun _=>?_|refine cF ?_|refine om ?_|refine an ?_|fail) <;> try simp only [zN,zT,zV,zS,zU,Q0,Q1,ex,Q2,Q3,Q4,Q5,Q6,Q7,Q8,Q9,QA,QB,QC,W0,W1,W2,W3,W4,W5,W6,reduceIte]))
  all_goals exact Frz.eq (congrArg bl (by simp)) (by simp)
theorem within_n (x lo hi:Int):Pure Tryz.prog 284 [n x,n lo,n hi] (bl (decide (inr x lo hi))):=by
  refine Pure.of_body Tryz.call284 Tryz.func284 k284 (Nat.le_of_ble_eq_true rfl) ?_
  unfold c284
  (repeat' ((first|refine vn rfl ?_|simp (disch:=omega) only [wr64,W7]|refine bo (fun _=>?_) fun _=>?_|refine im fun _=>?_|refine cF ?_|refine om ?_|refine an ?_|fail) <;> try simp only [zN,zT,zV,zS,zU,Q0,Q1,ex,Q2,Q3,Q4,Q5,Q6,Q7,Q8,Q9,QA,QB,QC,W0,W1,W2,W3,W4,W5,W6,reduceIte]))
  all_goals exact Frz.eq (congrArg bl (by simp)) (by simp)
theorem within_p (x lo hi:Int):Pure Tryz.prog 282 [n x,n lo,n hi] (bl (decide (inr x lo hi))):=by
  refine Pure.of_body Tryz.call282 Tryz.func282 k282 (Nat.le_of_ble_eq_true rfl) ?_
  unfold c282
  (repeat' ((first|refine vn rfl ?_|simp (disch:=omega) only [wr64,W7]|refine bo (fun _=>?_) fun _=>?_|refine im fun _=>?_|refine cF ?_|refine om ?_|refine an ?_|fail) <;> try simp only [zN,zT,zV,zS,zU,Q0,Q1,ex,Q2,Q3,Q4,Q5,Q6,Q7,Q8,Q9,QA,QB,QC,W0,W1,W2,W3,W4,W5,W6,reduceIte]))
  all_goals exact Frz.eq (congrArg bl (by simp)) (by simp)
theorem span_a (s:Sp) (lo hi:Int):Pure Tryz.prog 287 [.agg (Sp.cs s),n lo,n hi] (bl (decide (spIn s lo hi))):=by
  refine Pure.of_body Tryz.call287 Tryz.func287 k287 (Nat.le_of_ble_eq_true rfl) ?_
  unfold c287
  (repeat' ((first|refine vn rfl ?_|simp (disch:=omega) only [wr64,W7]|refine bo (fun _=>?_) fun _=>?_|refine im fun _=>?_|((repeat refine si ?_); (first|((first|refine .inl ⟨_,_,_,_,rfl,fun _=>pu (within_a s.lo lo s.hi),?_⟩|refine ⟨_,_,_,_,rfl,fun _=>pu (within_a s.lo lo s.hi),?_⟩); (first|refine o1 ?_|refine o2 ?_|refine o3 ?_|refine o4 ?_)) | refine .inl ⟨_,_,_,_,rfl,pu (within_a s.lo lo s.hi),?_⟩))|refine cF ?_|refine om ?_|refine an ?_|fail) <;> try simp only [zN,zT,zV,zS,zU,Q0,Q1,ex,Q2,Q3,Q4,Q5,Q6,Q7,Q8,Q9,QA,QB,QC,W0,W1,W2,W3,W4,W5,W6,reduceIte]))
  all_goals exact Frz.eq (congrArg bl (by simp [and_assoc])) (by simp)
theorem span_c (s:Sp) (lo hi:Int):Pure Tryz.prog 183 [.agg (Sp.cs s),n lo,n hi] (bl (decide (spIn s lo hi))):=by
  refine Pure.of_body Tryz.call183 Tryz.func183 k183 (Nat.le_of_ble_eq_true rfl) ?_
  unfold c183
  (repeat' ((first|refine vn rfl ?_|simp (disch:=omega) only [wr64,W7]|refine bo (fun _=>?_) fun _=>?_|refine im fun _=>?_|((repeat refine si ?_); (first|((first|refine .inl ⟨_,_,_,_,rfl,fun _=>pu (within_c s.lo lo s.hi),?_⟩|refine ⟨_,_,_,_,rfl,fun _=>pu (within_c s.lo lo s.hi),?_⟩); (first|refine o1 ?_|refine o2 ?_|refine o3 ?_|refine o4 ?_)) | refine .inl ⟨_,_,_,_,rfl,pu (within_c s.lo lo s.hi),?_⟩))|refine cF ?_|refine om ?_|refine an ?_|fail) <;> try simp only [zN,zT,zV,zS,zU,Q0,Q1,ex,Q2,Q3,Q4,Q5,Q6,Q7,Q8,Q9,QA,QB,QC,W0,W1,W2,W3,W4,W5,W6,reduceIte]))
  all_goals exact Frz.eq (congrArg bl (by simp [and_assoc])) (by simp)
theorem shrinks_spec (s:Sp):Pure Tryz.prog 283 [.agg (Sp.cs s)] (bl (decide (spIn s 900 1100))):=by
  refine Pure.of_body Tryz.call283 Tryz.func283 k283 (Nat.le_of_ble_eq_true rfl) ?_
  unfold c283
  (repeat' ((first|refine vn rfl ?_|simp (disch:=omega) only [wr64,W7]|refine bo (fun _=>?_) fun _=>?_|refine im fun _=>?_|((repeat refine si ?_); (first|((first|refine .inl ⟨_,_,_,_,rfl,fun _=>pu (within_p s.lo 900 s.hi),?_⟩|refine ⟨_,_,_,_,rfl,fun _=>pu (within_p s.lo 900 s.hi),?_⟩); (first|refine o1 ?_|refine o2 ?_|refine o3 ?_|refine o4 ?_)) | refine .inl ⟨_,_,_,_,rfl,pu (within_p s.lo 900 s.hi),?_⟩))|refine cF ?_|refine om ?_|refine an ?_|fail) <;> try simp only [zN,zT,zV,zS,zU,Q0,Q1,ex,Q2,Q3,Q4,Q5,Q6,Q7,Q8,Q9,QA,QB,QC,W0,W1,W2,W3,W4,W5,W6,reduceIte]))
  all_goals exact Frz.eq (congrArg bl (by simp [and_assoc])) (by simp)
theorem CheckWind_spec (f e:Int):Pure Tryz.prog 110 [.agg [n f,n e]] (n (if inr f 0 12000∧inr e 0 10000 then 0 else 1)):=by
  refine Pure.of_body Tryz.call110 Tryz.func110 k110 (Nat.le_of_ble_eq_true rfl) ?_
  unfold c110
  (repeat' ((first|refine vn rfl ?_|simp (disch:=omega) only [wr64,W7]|refine bo (fun _=>?_) fun _=>?_|refine im fun _=>?_|((repeat refine si ?_); (first|((first|refine .inl ⟨_,_,_,_,rfl,fun _=>pu (by first|exact within_s f 0 12000|exact within_s e 0 10000),?_⟩|refine ⟨_,_,_,_,rfl,fun _=>pu (by first|exact within_s f 0 12000|exact within_s e 0 10000),?_⟩); (first|refine o1 ?_|refine o2 ?_|refine o3 ?_|refine o4 ?_)) | refine .inl ⟨_,_,_,_,rfl,pu (by first|exact within_s f 0 12000|exact within_s e 0 10000),?_⟩))|refine cF ?_|refine om ?_|refine an ?_|fail) <;> try simp only [zN,zT,zV,zS,zU,Q0,Q1,ex,Q2,Q3,Q4,Q5,Q6,Q7,Q8,Q9,QA,QB,QC,W0,W1,W2,W3,W4,W5,W6,reduceIte]))
  · rename_i h; rw [if_neg (by omega)]; exact Frz.eq rfl (by simp)
  · rename_i h; rw [if_pos (by omega)]; exact Frz.eq rfl (by simp)
theorem CheckPaper_spec (p:Ppr):Pure Tryz.prog 280 [.agg p.cs] (n (if p.ok then 0 else 10)):=by
  refine Pure.of_body Tryz.call280 Tryz.func280 k280 (Nat.le_of_ble_eq_true rfl) ?_
  unfold c280
  (repeat' ((first|refine vn rfl ?_|simp (disch:=omega) only [wr64,W7]|refine bo (fun _=>?_) fun _=>?_|refine im fun _=>?_|((repeat refine si ?_); (first|((first|refine .inl ⟨_,_,_,_,rfl,fun _=>pu (by first|exact within_p p.pitch 1 10000|exact within_p p.height 1 400000|exact within_p p.radius p.height 4000000|exact within_p p.cols 1 200|exact shrinks_spec p.along|exact shrinks_spec p.across),?_⟩|refine ⟨_,_,_,_,rfl,fun _=>pu (by first|exact within_p p.pitch 1 10000|exact within_p p.height 1 400000|exact within_p p.radius p.height 4000000|exact within_p p.cols 1 200|exact shrinks_spec p.along|exact shrinks_spec p.across),?_⟩); (first|refine o1 ?_|refine o2 ?_|refine o3 ?_|refine o4 ?_)) | refine .inl ⟨_,_,_,_,rfl,pu (by first|exact within_p p.pitch 1 10000|exact within_p p.height 1 400000|exact within_p p.radius p.height 4000000|exact within_p p.cols 1 200|exact shrinks_spec p.along|exact shrinks_spec p.across),?_⟩))|refine cF ?_|refine om ?_|refine an ?_|fail) <;> try simp only [zN,zT,zV,zS,zU,Q0,Q1,ex,Q2,Q3,Q4,Q5,Q6,Q7,Q8,Q9,QA,QB,QC,W0,W1,W2,W3,W4,W5,W6,reduceIte]))
  all_goals (try (exfalso; omega))
  all_goals have hw:0≤p.low→p.low < p.high→p.high≤12000→IntKind.i64.wrap (p.high - p.low)=p.high - p.low:=fun h1 h2 h3=>wr64 _ (by omega) (by omega)
  · rename_i h; rw [if_neg (by unfold Ppr.ok; omega)]; exact Frz.eq rfl (by simp)
  · rename_i h; rw [if_pos (by unfold Ppr.ok; omega)]; exact Frz.eq rfl (by simp)
theorem CheckPen_spec (p:Pn):Pure Tryz.prog 281 [.agg p.cs] (n (if p.ok then 0 else 30)):=by
  refine Pure.of_body Tryz.call281 Tryz.func281 k281 (Nat.le_of_ble_eq_true rfl) ?_
  unfold c281
  (repeat' ((first|refine vn rfl ?_|simp (disch:=omega) only [wr64,W7]|refine bo (fun _=>?_) fun _=>?_|refine im fun _=>?_|((repeat refine si ?_); (first|((first|refine .inl ⟨_,_,_,_,rfl,fun _=>pu (by first|exact within_n p.band 0 8|exact within_n p.zero.lo (-200) p.zero.hi|exact within_n p.rate 0 12000),?_⟩|refine ⟨_,_,_,_,rfl,fun _=>pu (by first|exact within_n p.band 0 8|exact within_n p.zero.lo (-200) p.zero.hi|exact within_n p.rate 0 12000),?_⟩); (first|refine o1 ?_|refine o2 ?_|refine o3 ?_|refine o4 ?_)) | refine .inl ⟨_,_,_,_,rfl,pu (by first|exact within_n p.band 0 8|exact within_n p.zero.lo (-200) p.zero.hi|exact within_n p.rate 0 12000),?_⟩))|refine cF ?_|refine om ?_|refine an ?_|fail) <;> try simp only [zN,zT,zV,zS,zU,Q0,Q1,ex,Q2,Q3,Q4,Q5,Q6,Q7,Q8,Q9,QA,QB,QC,W0,W1,W2,W3,W4,W5,W6,reduceIte]))
  all_goals (try (exfalso; omega))
  all_goals have hw:-200≤p.zero.lo→p.zero.lo≤p.zero.hi→p.zero.hi≤200→IntKind.i64.wrap (p.zero.hi - p.zero.lo)=p.zero.hi - p.zero.lo:=fun h1 h2 h3=>wr64 _ (by omega) (by omega)
  · rename_i h; rw [if_neg (by unfold Pn.ok; omega)]; exact Frz.eq rfl (by simp)
  · rename_i h; rw [if_pos (by unfold Pn.ok; omega)]; exact Frz.eq rfl (by simp)
def c123:CF:=⟨59,
 (.seq (.ops [
 ⟨some 2,.mv (.c (.bool false)),none⟩] [0])
 (.seq (.seq (.ops [
 ⟨some 5,.mv (.t 0),none⟩,
 ⟨some 6,.len (.t 5),none⟩,
 ⟨some 7,.mv (.c (.int .i64 0)),none⟩] [0,5,6,7])
 (.block 0 (.loop (.seq (.ops [
 ⟨some 8,.bin .lss (.t 7) (.t 6),none⟩] [0,5,6,7,8])
 (.seq (.cond (.t 8) .skip
 (.exit 0))
 (.seq (.block 1 (.seq (.ops [
 ⟨some 9,.mv (.t 7),none⟩,
 ⟨some 10,.iaddr 3 (.t 5) (.t 7),none⟩,
 ⟨some 11,.load (some 3) (.t 10),none⟩,
 ⟨some 4,.alloc 66 3 [.int .i64 0,.int .i64 0,.int .i64 0],none⟩,
 ⟨some 3,.mv (.t 9),none⟩,
 ⟨none,.store 3 (.t 4) (.t 11),none⟩] [0,3,4,5,6,7])
 (.seq (.draw [
 ⟨some 12,.mv (.t 3),none⟩,
 ⟨some 13,.bin .eql (.t 12) (.c (.int .i64 0)),none⟩,
 ⟨some 14,.mv (.t 13),none⟩,
 ⟨some 15,.faddr 0 (.t 4),some (14,true)⟩,
 ⟨some 16,.load none (.t 15),some (14,true)⟩,
 ⟨some 17,.bin .neq (.t 16) (.c (.int .i64 0)),some (14,true)⟩,
 ⟨some 18,.pick (.t 14) (.t 17) (.c (.bool false)),none⟩,
 ⟨some 19,.mv (.t 18),none⟩,
 ⟨some 20,.mv (.t 3),some (19,false)⟩,
 ⟨some 21,.bin .gtr (.t 20) (.c (.int .i64 0)),some (19,false)⟩,
 ⟨some 22,.mv (.t 21),some (19,false)⟩,
 ⟨some 23,.faddr 0 (.t 4),some (22,true)⟩,
 ⟨some 24,.load none (.t 23),some (22,true)⟩,
 ⟨some 25,.mv (.t 0),some (22,true)⟩,
 ⟨some 26,.mv (.t 3),some (22,true)⟩,
 ⟨some 27,.bin .sub (.t 26) (.c (.int .i64 1)),some (22,true)⟩,
 ⟨some 28,.iaddr 3 (.t 25) (.t 27),some (22,true)⟩,
 ⟨some 29,.faddr 0 (.t 28),some (22,true)⟩,
 ⟨some 30,.load none (.t 29),some (22,true)⟩,
 ⟨some 31,.bin .leq (.t 24) (.t 30),some (22,true)⟩,
 ⟨some 32,.pick (.t 22) (.t 31) (.c (.bool false)),some (19,false)⟩,
 ⟨some 33,.pick (.t 19) (.c (.bool true)) (.t 32),none⟩,
 ⟨some 34,.mv (.t 33),none⟩,
 ⟨some 35,.faddr 0 (.t 4),some (34,false)⟩,
 ⟨some 36,.load none (.t 35),some (34,false)⟩,
 ⟨some 37,.bin .gtr (.t 36) (.c (.int .i64 10000)),some (34,false)⟩,
 ⟨some 38,.pick (.t 34) (.c (.bool true)) (.t 37),none⟩,
 ⟨some 39,.mv (.t 38),none⟩,
 ⟨some 40,.faddr 1 (.t 4),some (39,false)⟩,
 ⟨some 41,.faddr 0 (.t 40),some (39,false)⟩,
 ⟨some 42,.load none (.t 41),some (39,false)⟩,
 ⟨some 43,.faddr 1 (.t 4),some (39,false)⟩,
 ⟨some 44,.faddr 1 (.t 43),some (39,false)⟩,
 ⟨some 45,.load none (.t 44),some (39,false)⟩,
 ⟨some 46,.call (.f 122) [(.t 42),(.c (.int .i64 0)),(.t 45)],some (39,false)⟩,
 ⟨some 47,.un .not (.t 46),some (39,false)⟩,
 ⟨some 48,.pick (.t 39) (.c (.bool true)) (.t 47),none⟩,
 ⟨some 49,.mv (.t 48),none⟩,
 ⟨some 50,.faddr 1 (.t 4),some (49,false)⟩,
 ⟨some 51,.faddr 1 (.t 50),some (49,false)⟩,
 ⟨some 52,.load none (.t 51),some (49,false)⟩,
 ⟨some 53,.bin .gtr (.t 52) (.c (.int .i64 4000)),some (49,false)⟩,
 ⟨some 54,.pick (.t 49) (.c (.bool true)) (.t 53),none⟩] [
 ] [0,5,6,7,54])
 (.cond (.t 54) (.seq (.ops [
 ⟨some 2,.mv (.c (.bool false)),none⟩] [2])
 .ret)
 .skip))))
 (.ops [
 ⟨some 55,.bin .add (.t 7) (.c (.int .i64 1)),none⟩,
 ⟨some 7,.mv (.t 55),none⟩] [0,5,6,7])))))))
 (.seq (.ops [
 ⟨some 56,.mv (.t 0),none⟩,
 ⟨some 57,.len (.t 56),none⟩,
 ⟨some 58,.call (.f 122) [(.t 57),(.c (.int .i64 1)),(.c (.int .i64 16))],none⟩,
 ⟨some 2,.mv (.t 58),none⟩] [2])
 .ret))),
 [.t 2]⟩
theorem k123:chkF Tryz.prog Tryz.f123 c123=true:=by kernel_rfl
def c55:CF:=⟨50,
 (.seq (.ops [
 ⟨some 2,.mv (.c (.int .i64 0)),none⟩,
 ⟨some 3,.mv (.c (.int .i64 0)),none⟩] [0])
 (.seq (.seq (.ops [
 ⟨some 6,.mv (.t 0),none⟩,
 ⟨some 7,.len (.t 6),none⟩,
 ⟨some 8,.bin .gtr (.t 7) (.c (.int .i64 32)),none⟩] [0,8])
 (.cond (.t 8) (.seq (.ops [
 ⟨some 2,.mv (.c (.int .i64 2)),none⟩,
 ⟨some 3,.mv (.c (.int .i64 0)),none⟩] [2,3])
 .ret)
 .skip))
 (.seq (.seq (.ops [
 ⟨some 9,.mv (.t 0),none⟩,
 ⟨some 10,.len (.t 9),none⟩,
 ⟨some 11,.mv (.c (.int .i64 0)),none⟩] [0,9,10,11])
 (.block 0 (.loop (.seq (.ops [
 ⟨some 12,.bin .lss (.t 11) (.t 10),none⟩] [0,9,10,11,12])
 (.seq (.cond (.t 12) .skip
 (.exit 0))
 (.seq (.block 1 (.seq (.ops [
 ⟨some 13,.mv (.t 11),none⟩,
 ⟨some 14,.iaddr 4 (.t 9) (.t 11),none⟩,
 ⟨some 15,.load (some 4) (.t 14),none⟩,
 ⟨some 5,.alloc 109 4 [.int .i64 0,.int .i64 0,.int .i64 0,.slice none 0 0],none⟩,
 ⟨some 4,.mv (.t 13),none⟩,
 ⟨none,.store 4 (.t 5) (.t 15),none⟩] [0,4,5,9,10,11])
 (.block 2 (.seq (.seq (.ops [
 ⟨some 17,.faddr 0 (.t 5),none⟩,
 ⟨some 18,.load none (.t 17),none⟩,
 ⟨some 19,.call (.f 122) [(.t 18),(.c (.int .i64 1)),(.c (.int .i64 65535))],none⟩,
 ⟨some 20,.un .not (.t 19),none⟩,
 ⟨some 16,.mv (.t 20),none⟩] [0,4,5,9,10,11,16])
 (.cond (.t 16) .skip
 (.seq (.draw [
 ⟨some 21,.mv (.t 4),none⟩,
 ⟨some 22,.bin .gtr (.t 21) (.c (.int .i64 0)),none⟩,
 ⟨some 23,.mv (.t 22),none⟩,
 ⟨some 24,.faddr 0 (.t 5),some (23,true)⟩,
 ⟨some 25,.load none (.t 24),some (23,true)⟩,
 ⟨some 26,.mv (.t 0),some (23,true)⟩,
 ⟨some 27,.mv (.t 4),some (23,true)⟩,
 ⟨some 28,.bin .sub (.t 27) (.c (.int .i64 1)),some (23,true)⟩,
 ⟨some 29,.iaddr 4 (.t 26) (.t 28),some (23,true)⟩,
 ⟨some 30,.faddr 0 (.t 29),some (23,true)⟩,
 ⟨some 31,.load none (.t 30),some (23,true)⟩,
 ⟨some 32,.bin .leq (.t 25) (.t 31),some (23,true)⟩,
 ⟨some 33,.pick (.t 23) (.t 32) (.c (.bool false)),none⟩,
 ⟨some 16,.mv (.t 33),none⟩] [
 ] [0,4,5,9,10,11,16])
 (.cond (.t 16) .skip
 (.seq (.ops [
 ⟨some 34,.faddr 1 (.t 5),none⟩,
 ⟨some 35,.load none (.t 34),none⟩,
 ⟨some 36,.call (.f 122) [(.t 35),(.c (.int .i64 0)),(.c (.int .i64 2000))],none⟩,
 ⟨some 37,.un .not (.t 36),none⟩,
 ⟨some 16,.mv (.t 37),none⟩] [0,4,5,9,10,11,16])
 (.cond (.t 16) .skip
 (.ops [
 ⟨some 38,.faddr 2 (.t 5),none⟩,
 ⟨some 39,.load none (.t 38),none⟩,
 ⟨some 40,.call (.f 122) [(.t 39),(.c (.int .i64 0)),(.c (.int .i64 2000))],none⟩,
 ⟨some 41,.un .not (.t 40),none⟩,
 ⟨some 16,.mv (.t 41),none⟩] [0,4,5,9,10,11,16])))))))
 (.cond (.t 16) (.seq (.ops [
 ⟨some 42,.mv (.t 4),none⟩,
 ⟨some 2,.mv (.c (.int .i64 50)),none⟩,
 ⟨some 3,.mv (.t 42),none⟩] [2,3])
 .ret)
 (.seq (.ops [
 ⟨some 44,.faddr 3 (.t 5),none⟩,
 ⟨some 45,.load none (.t 44),none⟩,
 ⟨some 46,.call (.f 123) [(.t 45)],none⟩,
 ⟨some 47,.un .not (.t 46),none⟩,
 ⟨some 43,.mv (.t 47),none⟩] [0,4,9,10,11,43])
 (.cond (.t 43) (.seq (.ops [
 ⟨some 48,.mv (.t 4),none⟩,
 ⟨some 2,.mv (.c (.int .i64 51)),none⟩,
 ⟨some 3,.mv (.t 48),none⟩] [2,3])
 .ret)
 .skip)))))))
 (.ops [
 ⟨some 49,.bin .add (.t 11) (.c (.int .i64 1)),none⟩,
 ⟨some 11,.mv (.t 49),none⟩] [0,9,10,11])))))))
 (.seq (.ops [
 ⟨some 2,.mv (.c (.int .i64 0)),none⟩,
 ⟨some 3,.mv (.c (.int .i64 0)),none⟩] [2,3])
 .ret)))),
 [.t 2,.t 3]⟩
theorem k55:chkF Tryz.prog Tryz.f55 c55=true:=by kernel_rfl
theorem high_spec (l:List Hgt) (hl:l.length < 9223372036854775808):Pure Tryz.prog 123 [hgS l] (bl (decide (highOk l))):=by
  refine Pure.of_body Tryz.call123 Tryz.func123 k123 (Nat.le_of_ble_eq_true rfl) ?_
  unfold c123
  (repeat' ((first|refine vn rfl ?_|simp (disch:=omega) only [wr64,W7]|refine bo (fun _=>?_) fun _=>?_|refine im fun _=>?_|refine cF ?_|refine om ?_|refine an ?_|fail) <;> try simp only [zN,zT,zV,zS,zU,Q0,Q1,ex,Q2,Q3,Q4,Q5,Q6,Q7,Q8,Q9,QA,QB,QC,W0,W1,W2,W3,W4,W5,W6,reduceIte]))
  refine AWPC.loopE (α:={ x:Nat × Sto // x.1≤l.length∧∀ j,j < x.1→highAt l j }) [7] (fun x=>[(7,n x.1.1)]) (fun x=>x.1.2) (fun x=>l.length - x.1.1) ⟨(0,[]),by simp,by simp⟩ ?_ rfl ?_
  · (simp only [zN,zT,zV,zS,zU,Q0,Q1,ex,Q2,Q3,Q4,Q5,Q6,Q7,Q8,Q9,QA,QB,QC,W0,W1,W2,W3,W4,W5,W6,reduceIte]; try simp)
  · rintro ⟨⟨i,τ⟩,hi,hb⟩
    simp only at hi hb
    by_cases hlt:i < l.length
    · have hs:(l.map Hgt.cs).getD i []=Hgt.cs (l.getD i default):=getD_map (getD_lt default hlt)
      have hp:=rowPrev (f:=Hgt.cs) default hlt
      generalize hg:l.getD i default=g at hs
      generalize hg':l.getD (i - 1) default=g' at hp
      (repeat' ((first|refine vn rfl ?_|simp (disch:=omega) only [wr64,W7]|refine bo (fun _=>?_) fun _=>?_|refine im fun _=>?_|((repeat refine si ?_); (first|((first|refine .inl ⟨_,_,_,_,rfl,fun _=>pu (within_s g.metres.lo 0 g.metres.hi),?_⟩|refine ⟨_,_,_,_,rfl,fun _=>pu (within_s g.metres.lo 0 g.metres.hi),?_⟩); (first|refine o1 ?_|refine o2 ?_|refine o3 ?_|refine o4 ?_)) | refine .inl ⟨_,_,_,_,rfl,pu (within_s g.metres.lo 0 g.metres.hi),?_⟩))|refine cF ?_|refine om ?_|refine an ?_|fail) <;> try simp only [zN,zT,zV,zS,zU,Q0,Q1,ex,Q2,Q3,Q4,Q5,Q6,Q7,Q8,Q9,QA,QB,QC,W0,W1,W2,W3,W4,W5,W6,reduceIte,hs,hp]))
      all_goals try (exfalso; omega)
      · rename_i h
        rw [decide_eq_false fun hh=>?_]
        · exact Frz.eq rfl (by simp)
        · have:=hh.2 i hlt
          unfold highAt at this
          rw [hg,hg'] at this
          omega
      · rename_i h
        exact ⟨⟨(i+1,_),hlt,all_next hb (by unfold highAt; rw [hg,hg']; omega)⟩,by simp,rfl,by simp only; omega⟩
    · obtain rfl:i=l.length:=by omega
      (repeat' ((first|refine vn rfl ?_|simp (disch:=omega) only [wr64,W7]|refine bo (fun _=>?_) fun _=>?_|refine im fun _=>?_|((repeat refine si ?_); (first|((first|refine .inl ⟨_,_,_,_,rfl,fun _=>pu (within_s l.length 1 16),?_⟩|refine ⟨_,_,_,_,rfl,fun _=>pu (within_s l.length 1 16),?_⟩); (first|refine o1 ?_|refine o2 ?_|refine o3 ?_|refine o4 ?_)) | refine .inl ⟨_,_,_,_,rfl,pu (within_s l.length 1 16),?_⟩))|refine cF ?_|refine om ?_|refine an ?_|fail) <;> try simp only [zN,zT,zV,zS,zU,Q0,Q1,ex,Q2,Q3,Q4,Q5,Q6,Q7,Q8,Q9,QA,QB,QC,W0,W1,W2,W3,W4,W5,W6,reduceIte]))
      all_goals try (exfalso; omega)
      refine Frz.eq (congrArg bl ?_) (by simp)
      rw [decide_eq_decide]
      exact ⟨fun h=>⟨h,hb⟩,fun h=>h.1⟩
def stnSz (l:List Stn):Prop:=l.length < 9223372036854775808∧∀ s∈l,s.heights.length < 9223372036854775808
theorem CheckStn_spec (l:List Stn) (hl:stnSz l):Pure Tryz.prog 55 [snS l] (.tup [n (stnsE l).1,n (stnsE l).2]):=by
  refine Pure.of_body Tryz.call55 Tryz.func55 k55 (Nat.le_of_ble_eq_true rfl) ?_
  unfold c55
  have hl0:=hl.1
  (repeat' ((first|refine vn rfl ?_|simp (disch:=omega) only [wr64,W7]|refine bo (fun _=>?_) fun _=>?_|refine im fun _=>?_|refine cF ?_|refine om ?_|refine an ?_|fail) <;> try simp only [zN,zT,zV,zS,zU,Q0,Q1,ex,Q2,Q3,Q4,Q5,Q6,Q7,Q8,Q9,QA,QB,QC,W0,W1,W2,W3,W4,W5,W6,reduceIte]))
  · rename_i h
    unfold stnsE; rw [if_pos (by omega)]; exact Frz.eq rfl (by simp)
  refine AWPC.loopE (α:={ x:Nat × Sto // x.1≤l.length∧∀ j,j < x.1→stnE l j=0 }) [11] (fun x=>[(11,n x.1.1)]) (fun x=>x.1.2) (fun x=>l.length - x.1.1) ⟨(0,[]),by simp,by simp⟩ ?_ rfl ?_
  · (simp only [zN,zT,zV,zS,zU,Q0,Q1,ex,Q2,Q3,Q4,Q5,Q6,Q7,Q8,Q9,QA,QB,QC,W0,W1,W2,W3,W4,W5,W6,reduceIte]; try simp)
  · rintro ⟨⟨i,τ⟩,hi,hb⟩
    simp only at hi hb
    have hlen:¬ 32 < l.length:=by omega
    by_cases hlt:i < l.length
    · have hs:(l.map Stn.cs).getD i []=Stn.cs (l.getD i default):=getD_map (getD_lt default hlt)
      have hp:=rowPrev (f:=Stn.cs) default hlt
      have hh:=high_spec (l.getD i default).heights (hl.2 _ (List.mem_of_getElem? (getD_lt default hlt)))
      generalize hg:l.getD i default=g at hs hh
      generalize hg':l.getD (i - 1) default=g' at hp
      have hE:stnE l i=if inr g.id 1 65535∧(0 < i→g'.id < g.id)∧inr g.x 0 2000∧inr g.y 0 2000 then (if highOk g.heights then 0 else 51) else 50:=by unfold stnE; rw [hg,hg']
      have hbad:stnE l i≠0→stnsE l=(stnE l i,i):=fun h=>by unfold stnsE; rw [if_neg hlen,firstE_at hlt hb h]
      (repeat' ((first|refine vn rfl ?_|simp (disch:=omega) only [wr64,W7]|refine bo (fun _=>?_) fun _=>?_|refine im fun _=>?_|((repeat refine si ?_); (first|((first|refine .inl ⟨_,_,_,_,rfl,fun _=>pu (by first|exact within_s g.id 1 65535|exact within_s g.x 0 2000|exact within_s g.y 0 2000|exact hh),?_⟩|refine ⟨_,_,_,_,rfl,fun _=>pu (by first|exact within_s g.id 1 65535|exact within_s g.x 0 2000|exact within_s g.y 0 2000|exact hh),?_⟩); (first|refine o1 ?_|refine o2 ?_|refine o3 ?_|refine o4 ?_)) | refine .inl ⟨_,_,_,_,rfl,pu (by first|exact within_s g.id 1 65535|exact within_s g.x 0 2000|exact within_s g.y 0 2000|exact hh),?_⟩))|refine cF ?_|refine om ?_|refine an ?_|fail) <;> try simp only [zN,zT,zV,zS,zU,Q0,Q1,ex,Q2,Q3,Q4,Q5,Q6,Q7,Q8,Q9,QA,QB,QC,W0,W1,W2,W3,W4,W5,W6,reduceIte,hs,hp]))
      all_goals try (exfalso; omega)
      all_goals first
        | (have e:stnE l i=50:=by rw [hE,if_neg (by omega)]
           rw [hbad (by omega),e]; exact Frz.eq rfl (by simp))
        | (have e:stnE l i=51:=by rw [hE,if_pos (by omega),if_neg (by simp_all)]
           rw [hbad (by omega),e]; exact Frz.eq rfl (by simp))
       |exact ⟨⟨(i+1,_),hlt,all_next hb (by rw [hE,if_pos (by omega),if_pos (by simp_all)])⟩,by simp,rfl,by simp only; omega⟩
    · obtain rfl:i=l.length:=by omega
      (repeat' ((first|refine vn rfl ?_|simp (disch:=omega) only [wr64,W7]|refine bo (fun _=>?_) fun _=>?_|refine im fun _=>?_|refine cF ?_|refine om ?_|refine an ?_|fail) <;> try simp only [zN,zT,zV,zS,zU,Q0,Q1,ex,Q2,Q3,Q4,Q5,Q6,Q7,Q8,Q9,QA,QB,QC,W0,W1,W2,W3,W4,W5,W6,reduceIte]))
      all_goals try (exfalso; omega)
      unfold stnsE; rw [if_neg hlen,firstE_none hb]; exact Frz.eq rfl (by simp)
def c219:CF:=⟨19,
 (.seq (.ops [
 ⟨some 4,.mv (.c (.int .i64 0)),none⟩] [0,1])
 (.seq (.seq (.ops [
 ⟨some 6,.mv (.t 0),none⟩,
 ⟨some 7,.len (.t 6),none⟩,
 ⟨some 8,.mv (.c (.int .i64 0)),none⟩] [0,1,7,8])
 (.block 0 (.loop (.seq (.ops [
 ⟨some 9,.bin .lss (.t 8) (.t 7),none⟩] [0,1,7,8,9])
 (.seq (.cond (.t 9) .skip
 (.exit 0))
 (.seq (.block 1 (.seq (.ops [
 ⟨some 10,.mv (.t 8),none⟩,
 ⟨some 5,.mv (.t 10),none⟩] [0,1,5,7,8])
 (.seq (.ops [
 ⟨some 11,.mv (.t 1),none⟩,
 ⟨some 12,.mv (.t 0),none⟩,
 ⟨some 13,.mv (.t 5),none⟩,
 ⟨some 14,.iaddr 2 (.t 12) (.t 13),none⟩,
 ⟨some 15,.load (some 2) (.t 14),none⟩,
 ⟨some 16,.call (.t 11) [(.t 15)],none⟩] [0,1,5,7,8,16])
 (.cond (.t 16) (.seq (.ops [
 ⟨some 17,.mv (.t 5),none⟩,
 ⟨some 4,.mv (.t 17),none⟩] [4])
 .ret)
 .skip))))
 (.ops [
 ⟨some 18,.bin .add (.t 8) (.c (.int .i64 1)),none⟩,
 ⟨some 8,.mv (.t 18),none⟩] [0,1,7,8])))))))
 (.seq (.ops [
 ⟨some 4,.mv (.c (.int .i64 (-1))),none⟩] [4])
 .ret))),
 [.t 4]⟩
theorem k219:chkF Tryz.prog Tryz.f219 c219=true:=by kernel_rfl
def c220:CF:=⟨19,
 (.seq (.ops [
 ⟨some 4,.mv (.c (.int .i64 0)),none⟩] [0,1])
 (.seq (.seq (.ops [
 ⟨some 6,.mv (.t 0),none⟩,
 ⟨some 7,.len (.t 6),none⟩,
 ⟨some 8,.mv (.c (.int .i64 0)),none⟩] [0,1,7,8])
 (.block 0 (.loop (.seq (.ops [
 ⟨some 9,.bin .lss (.t 8) (.t 7),none⟩] [0,1,7,8,9])
 (.seq (.cond (.t 9) .skip
 (.exit 0))
 (.seq (.block 1 (.seq (.ops [
 ⟨some 10,.mv (.t 8),none⟩,
 ⟨some 5,.mv (.t 10),none⟩] [0,1,5,7,8])
 (.seq (.ops [
 ⟨some 11,.mv (.t 1),none⟩,
 ⟨some 12,.mv (.t 0),none⟩,
 ⟨some 13,.mv (.t 5),none⟩,
 ⟨some 14,.iaddr 3 (.t 12) (.t 13),none⟩,
 ⟨some 15,.load (some 3) (.t 14),none⟩,
 ⟨some 16,.call (.t 11) [(.t 15)],none⟩] [0,1,5,7,8,16])
 (.cond (.t 16) (.seq (.ops [
 ⟨some 17,.mv (.t 5),none⟩,
 ⟨some 4,.mv (.t 17),none⟩] [4])
 .ret)
 .skip))))
 (.ops [
 ⟨some 18,.bin .add (.t 8) (.c (.int .i64 1)),none⟩,
 ⟨some 8,.mv (.t 18),none⟩] [0,1,7,8])))))))
 (.seq (.ops [
 ⟨some 4,.mv (.c (.int .i64 (-1))),none⟩] [4])
 .ret))),
 [.t 4]⟩
theorem k220:chkF Tryz.prog Tryz.f220 c220=true:=by kernel_rfl
def c246:CF:=⟨19,
 (.seq (.ops [
 ⟨some 4,.mv (.c (.int .i64 0)),none⟩] [0,1])
 (.seq (.seq (.ops [
 ⟨some 6,.mv (.t 0),none⟩,
 ⟨some 7,.len (.t 6),none⟩,
 ⟨some 8,.mv (.c (.int .i64 0)),none⟩] [0,1,7,8])
 (.block 0 (.loop (.seq (.ops [
 ⟨some 9,.bin .lss (.t 8) (.t 7),none⟩] [0,1,7,8,9])
 (.seq (.cond (.t 9) .skip
 (.exit 0))
 (.seq (.block 1 (.seq (.ops [
 ⟨some 10,.mv (.t 8),none⟩,
 ⟨some 5,.mv (.t 10),none⟩] [0,1,5,7,8])
 (.seq (.ops [
 ⟨some 11,.mv (.t 1),none⟩,
 ⟨some 12,.mv (.t 0),none⟩,
 ⟨some 13,.mv (.t 5),none⟩,
 ⟨some 14,.iaddr 4 (.t 12) (.t 13),none⟩,
 ⟨some 15,.load (some 4) (.t 14),none⟩,
 ⟨some 16,.call (.t 11) [(.t 15)],none⟩] [0,1,5,7,8,16])
 (.cond (.t 16) (.seq (.ops [
 ⟨some 17,.mv (.t 5),none⟩,
 ⟨some 4,.mv (.t 17),none⟩] [4])
 .ret)
 .skip))))
 (.ops [
 ⟨some 18,.bin .add (.t 8) (.c (.int .i64 1)),none⟩,
 ⟨some 8,.mv (.t 18),none⟩] [0,1,7,8])))))))
 (.seq (.ops [
 ⟨some 4,.mv (.c (.int .i64 (-1))),none⟩] [4])
 .ret))),
 [.t 4]⟩
theorem k246:chkF Tryz.prog Tryz.f246 c246=true:=by kernel_rfl
def c186:CF:=⟨9,
 (.seq (.ops [
 ⟨some 4,.mv (.c (.bool false)),none⟩] [0,1])
 (.seq (.ops [
 ⟨some 5,.mv (.t 0),none⟩,
 ⟨some 6,.mv (.t 1),none⟩,
 ⟨some 7,.call (.f 219) [(.t 5),(.t 6)],none⟩,
 ⟨some 8,.bin .geq (.t 7) (.c (.int .i64 0)),none⟩,
 ⟨some 4,.mv (.t 8),none⟩] [4])
 .ret)),
 [.t 4]⟩
theorem k186:chkF Tryz.prog Tryz.f186 c186=true:=by kernel_rfl
def c187:CF:=⟨9,
 (.seq (.ops [
 ⟨some 4,.mv (.c (.bool false)),none⟩] [0,1])
 (.seq (.ops [
 ⟨some 5,.mv (.t 0),none⟩,
 ⟨some 6,.mv (.t 1),none⟩,
 ⟨some 7,.call (.f 220) [(.t 5),(.t 6)],none⟩,
 ⟨some 8,.bin .geq (.t 7) (.c (.int .i64 0)),none⟩,
 ⟨some 4,.mv (.t 8),none⟩] [4])
 .ret)),
 [.t 4]⟩
theorem k187:chkF Tryz.prog Tryz.f187 c187=true:=by kernel_rfl
def c279:CF:=⟨34,
 (.seq (.ops [
 ⟨some 2,.mv (.c (.int .i64 0)),none⟩,
 ⟨some 3,.mv (.c (.int .i64 0)),none⟩] [0])
 (.seq (.seq (.ops [
 ⟨some 6,.mv (.t 0),none⟩,
 ⟨some 7,.len (.t 6),none⟩,
 ⟨some 8,.bin .gtr (.t 7) (.c (.int .i64 2000)),none⟩] [0,8])
 (.cond (.t 8) (.seq (.ops [
 ⟨some 2,.mv (.c (.int .i64 2)),none⟩,
 ⟨some 3,.mv (.c (.int .i64 0)),none⟩] [2,3])
 .ret)
 .skip))
 (.seq (.seq (.ops [
 ⟨some 9,.mv (.t 0),none⟩,
 ⟨some 10,.len (.t 9),none⟩,
 ⟨some 11,.mv (.c (.int .i64 0)),none⟩] [9,10,11])
 (.block 0 (.loop (.seq (.ops [
 ⟨some 12,.bin .lss (.t 11) (.t 10),none⟩] [9,10,11,12])
 (.seq (.cond (.t 12) .skip
 (.exit 0))
 (.seq (.block 1 (.seq (.ops [
 ⟨some 13,.mv (.t 11),none⟩,
 ⟨some 14,.iaddr 3 (.t 9) (.t 11),none⟩,
 ⟨some 15,.load (some 3) (.t 14),none⟩,
 ⟨some 5,.alloc 164 3 [.int .i64 0,.int .i64 0,.int .i64 0],none⟩,
 ⟨some 4,.mv (.t 13),none⟩,
 ⟨none,.store 3 (.t 5) (.t 15),none⟩] [4,5,9,10,11])
 (.seq (.ops [
 ⟨some 16,.faddr 0 (.t 5),none⟩,
 ⟨some 17,.load none (.t 16),none⟩,
 ⟨some 18,.call (.f 282) [(.t 17),(.c (.int .i64 0)),(.c (.int .i64 400000))],none⟩,
 ⟨some 19,.un .not (.t 18),none⟩,
 ⟨some 20,.mv (.t 19),none⟩,
 ⟨some 21,.faddr 1 (.t 5),some (20,false)⟩,
 ⟨some 22,.load none (.t 21),some (20,false)⟩,
 ⟨some 23,.call (.f 282) [(.t 22),(.c (.int .i64 0)),(.c (.int .i64 400000))],some (20,false)⟩,
 ⟨some 24,.un .not (.t 23),some (20,false)⟩,
 ⟨some 25,.pick (.t 20) (.c (.bool true)) (.t 24),none⟩,
 ⟨some 26,.mv (.t 25),none⟩,
 ⟨some 27,.faddr 2 (.t 5),some (26,false)⟩,
 ⟨some 28,.load none (.t 27),some (26,false)⟩,
 ⟨some 29,.call (.f 282) [(.t 28),(.c (.int .i64 0)),(.c (.int .i64 5000))],some (26,false)⟩,
 ⟨some 30,.un .not (.t 29),some (26,false)⟩,
 ⟨some 31,.pick (.t 26) (.c (.bool true)) (.t 30),none⟩] [4,9,10,11,31])
 (.cond (.t 31) (.seq (.ops [
 ⟨some 32,.mv (.t 4),none⟩,
 ⟨some 2,.mv (.c (.int .i64 11)),none⟩,
 ⟨some 3,.mv (.t 32),none⟩] [2,3])
 .ret)
 .skip))))
 (.ops [
 ⟨some 33,.bin .add (.t 11) (.c (.int .i64 1)),none⟩,
 ⟨some 11,.mv (.t 33),none⟩] [9,10,11])))))))
 (.seq (.ops [
 ⟨some 2,.mv (.c (.int .i64 0)),none⟩,
 ⟨some 3,.mv (.c (.int .i64 0)),none⟩] [2,3])
 .ret)))),
 [.t 2,.t 3]⟩
theorem k279:chkF Tryz.prog Tryz.f279 c279=true:=by kernel_rfl
def c182:CF:=⟨6,
 (.seq (.ops [
 ⟨some 1,.box false 48 2 (.t 0),none⟩,
 ⟨some 2,.mv (.c (.bool false)),none⟩] [1])
 (.seq (.ops [
 ⟨some 3,.load (some 2) (.t 1),none⟩,
 ⟨some 4,.call (.f 183) [(.t 3),(.c (.int .i64 1)),(.c (.int .i64 40))],none⟩,
 ⟨some 5,.un .not (.t 4),none⟩,
 ⟨some 2,.mv (.t 5),none⟩] [2])
 .ret)),
 [.t 2]⟩
theorem k182:chkF Tryz.prog Tryz.f182 c182=true:=by kernel_rfl
def c184:CF:=⟨18,
 (.seq (.ops [
 ⟨some 2,.box false 226 3 (.t 0),none⟩,
 ⟨some 3,.mv (.c (.bool false)),none⟩] [1,2])
 (.seq (.ops [
 ⟨some 4,.faddr 0 (.t 2),none⟩,
 ⟨some 5,.load none (.t 4),none⟩,
 ⟨some 6,.faddr 0 (.t 1),none⟩,
 ⟨some 7,.load none (.t 6),none⟩,
 ⟨some 8,.len (.t 7),none⟩,
 ⟨some 9,.bin .sub (.t 8) (.c (.int .i64 1)),none⟩,
 ⟨some 10,.call (.f 185) [(.t 5),(.c (.int .i64 0)),(.t 9)],none⟩,
 ⟨some 11,.un .not (.t 10),none⟩,
 ⟨some 12,.mv (.t 11),none⟩,
 ⟨some 13,.faddr 1 (.t 2),some (12,false)⟩,
 ⟨some 14,.load (some 2) (.t 13),some (12,false)⟩,
 ⟨some 15,.call (.f 183) [(.t 14),(.c (.int .i64 0)),(.c (.int .i64 400))],some (12,false)⟩,
 ⟨some 16,.un .not (.t 15),some (12,false)⟩,
 ⟨some 17,.pick (.t 12) (.c (.bool true)) (.t 16),none⟩,
 ⟨some 3,.mv (.t 17),none⟩] [3])
 .ret)),
 [.t 3]⟩
theorem k184:chkF Tryz.prog Tryz.f184 c184=true:=by kernel_rfl
def c118:CF:=⟨29,
 (.seq (.ops [
 ⟨some 1,.box false 56 2 (.t 0),none⟩,
 ⟨some 2,.mv (.c (.int .i64 0)),none⟩] [1])
 (.seq (.ops [
 ⟨some 3,.mv (.f 182),none⟩] [1,3])
 (.seq (.ops [
 ⟨some 5,.mkfn (.func 184) [] [(.t 1)],none⟩,
 ⟨some 4,.mv (.t 5),none⟩] [1,3,4])
 (.seq (.seq (.ops [
 ⟨some 6,.faddr 0 (.t 1),none⟩,
 ⟨some 7,.load none (.t 6),none⟩,
 ⟨some 8,.len (.t 7),none⟩,
 ⟨some 9,.call (.f 185) [(.t 8),(.c (.int .i64 1)),(.c (.int .i64 199))],none⟩,
 ⟨some 10,.un .not (.t 9),none⟩,
 ⟨some 11,.mv (.t 10),none⟩,
 ⟨some 12,.faddr 1 (.t 1),some (11,false)⟩,
 ⟨some 13,.load none (.t 12),some (11,false)⟩,
 ⟨some 14,.len (.t 13),some (11,false)⟩,
 ⟨some 15,.bin .gtr (.t 14) (.c (.int .i64 16)),some (11,false)⟩,
 ⟨some 16,.pick (.t 11) (.c (.bool true)) (.t 15),none⟩,
 ⟨some 17,.mv (.t 16),none⟩,
 ⟨some 18,.faddr 0 (.t 1),some (17,false)⟩,
 ⟨some 19,.load none (.t 18),some (17,false)⟩,
 ⟨some 20,.mv (.t 3),some (17,false)⟩,
 ⟨some 21,.call (.f 186) [(.t 19),(.t 20)],some (17,false)⟩,
 ⟨some 22,.pick (.t 17) (.c (.bool true)) (.t 21),none⟩,
 ⟨some 23,.mv (.t 22),none⟩,
 ⟨some 24,.faddr 1 (.t 1),some (23,false)⟩,
 ⟨some 25,.load none (.t 24),some (23,false)⟩,
 ⟨some 26,.mv (.t 4),some (23,false)⟩,
 ⟨some 27,.call (.f 187) [(.t 25),(.t 26)],some (23,false)⟩,
 ⟨some 28,.pick (.t 23) (.c (.bool true)) (.t 27),none⟩] [28])
 (.cond (.t 28) (.seq (.ops [
 ⟨some 2,.mv (.c (.int .i64 20)),none⟩] [2])
 .ret)
 .skip))
 (.seq (.ops [
 ⟨some 2,.mv (.c (.int .i64 0)),none⟩] [2])
 .ret))))),
 [.t 2]⟩
theorem k118:chkF Tryz.prog Tryz.f118 c118=true:=by kernel_rfl
theorem indexSp (f:Nat) (caps:List AV) (hcap:∀ c∈caps,PureV c) (q:Sp→Bool) (l:List Sp) (hl:l.length < 9223372036854775808) (hq:∀ x∈l,Pure Tryz.prog f ([.agg (Sp.cs x)]++caps) (bl (q x))):Pure Tryz.prog 219 [spnS l,.fn (.func f) [] caps] (n (fidx q 0 l)):=by
  refine Pure.of_body Tryz.call219 Tryz.func219 k219 (Nat.le_of_ble_eq_true rfl) ?_
  unfold c219
  (repeat' ((first|refine vn rfl ?_|simp (disch:=omega) only [wr64,W7]|refine bo (fun _=>?_) fun _=>?_|refine im fun _=>?_|refine cF ?_|refine om ?_|refine an ?_|fail) <;> try simp only [zN,zT,zV,zS,zU,Q0,Q1,ex,Q2,Q3,Q4,Q5,Q6,Q7,Q8,Q9,QA,QB,QC,W0,W1,W2,W3,W4,W5,W6,reduceIte]))
  refine AWPC.loopI 8 l.length (fun i=>fidx q i (l.drop i)=fidx q 0 l) (by simp) ?_ ?_
  · (simp only [zN,zT,zV,zS,zU,Q0,Q1,ex,Q2,Q3,Q4,Q5,Q6,Q7,Q8,Q9,QA,QB,QC,W0,W1,W2,W3,W4,W5,W6,reduceIte]; try simp)
  · intro i hi hI
    by_cases hlt:i < l.length
    · obtain ⟨x,hx⟩:∃ x,l[i]?=some x:=⟨_,List.getElem?_eq_getElem hlt⟩
      have hc:=hq x (List.mem_of_getElem? hx)
      rw [drop_cons hx,fidx] at hI
      (repeat' ((first|refine vn rfl ?_|simp (disch:=omega) only [wr64,W7]|refine bo (fun _=>?_) fun _=>?_|refine im fun _=>?_|refine cF ?_|refine om ?_|refine an ?_|fail) <;> try simp only [zN,zT,zV,zS,zU,Q0,Q1,ex,Q2,Q3,Q4,Q5,Q6,Q7,Q8,Q9,QA,QB,QC,W0,W1,W2,W3,W4,W5,W6,reduceIte,getD_map hx]))
      all_goals try (exfalso; omega)
      refine .inl ⟨_,_,_,_,rfl,fun _=>.of ?_ (hc),?_⟩
      · intro a ha
        simp only [List.nil_append,List.cons_append,List.mem_cons] at ha
        rcases ha with rfl | ha
        · simp
        · exact hcap a ha
      refine owp_of_exs ?_
      simp only [zN,zT,zV,zS,zU,Q0,Q1,ex,Q2,Q3,Q4,Q5,Q6,Q7,Q8,Q9,QA,QB,QC,W0,W1,W2,W3,W4,W5,W6,reduceIte]
      (repeat' ((first|refine vn rfl ?_|simp (disch:=omega) only [wr64,W7]|refine bo (fun _=>?_) fun _=>?_|refine im fun _=>?_|refine cF ?_|refine om ?_|refine an ?_|fail) <;> try simp only [zN,zT,zV,zS,zU,Q0,Q1,ex,Q2,Q3,Q4,Q5,Q6,Q7,Q8,Q9,QA,QB,QC,W0,W1,W2,W3,W4,W5,W6,reduceIte]))
      · rename_i h
        rw [h] at hI
        simp only [if_true] at hI
        rw [← hI]
        exact Frz.eq rfl (by simp)
      · rename_i h
        rw [h] at hI
        exact ⟨⟨i+1,hlt,by simpa using hI⟩,by simp,by simp only; omega⟩
    · obtain rfl:i=l.length:=by omega
      rw [List.drop_length,fidx] at hI
      (repeat' ((first|refine vn rfl ?_|simp (disch:=omega) only [wr64,W7]|refine bo (fun _=>?_) fun _=>?_|refine im fun _=>?_|refine cF ?_|refine om ?_|refine an ?_|fail) <;> try simp only [zN,zT,zV,zS,zU,Q0,Q1,ex,Q2,Q3,Q4,Q5,Q6,Q7,Q8,Q9,QA,QB,QC,W0,W1,W2,W3,W4,W5,W6,reduceIte]))
      all_goals try (exfalso; omega)
      rw [← hI]
      exact Frz.eq rfl (by simp)
theorem indexMk (f:Nat) (caps:List AV) (hcap:∀ c∈caps,PureV c) (q:Mk→Bool) (l:List Mk) (hl:l.length < 9223372036854775808) (hq:∀ x∈l,Pure Tryz.prog f ([.agg (Mk.cs x)]++caps) (bl (q x))):Pure Tryz.prog 220 [mkS l,.fn (.func f) [] caps] (n (fidx q 0 l)):=by
  refine Pure.of_body Tryz.call220 Tryz.func220 k220 (Nat.le_of_ble_eq_true rfl) ?_
  unfold c220
  (repeat' ((first|refine vn rfl ?_|simp (disch:=omega) only [wr64,W7]|refine bo (fun _=>?_) fun _=>?_|refine im fun _=>?_|refine cF ?_|refine om ?_|refine an ?_|fail) <;> try simp only [zN,zT,zV,zS,zU,Q0,Q1,ex,Q2,Q3,Q4,Q5,Q6,Q7,Q8,Q9,QA,QB,QC,W0,W1,W2,W3,W4,W5,W6,reduceIte]))
  refine AWPC.loopI 8 l.length (fun i=>fidx q i (l.drop i)=fidx q 0 l) (by simp) ?_ ?_
  · (simp only [zN,zT,zV,zS,zU,Q0,Q1,ex,Q2,Q3,Q4,Q5,Q6,Q7,Q8,Q9,QA,QB,QC,W0,W1,W2,W3,W4,W5,W6,reduceIte]; try simp)
  · intro i hi hI
    by_cases hlt:i < l.length
    · obtain ⟨x,hx⟩:∃ x,l[i]?=some x:=⟨_,List.getElem?_eq_getElem hlt⟩
      have hc:=hq x (List.mem_of_getElem? hx)
      rw [drop_cons hx,fidx] at hI
      (repeat' ((first|refine vn rfl ?_|simp (disch:=omega) only [wr64,W7]|refine bo (fun _=>?_) fun _=>?_|refine im fun _=>?_|refine cF ?_|refine om ?_|refine an ?_|fail) <;> try simp only [zN,zT,zV,zS,zU,Q0,Q1,ex,Q2,Q3,Q4,Q5,Q6,Q7,Q8,Q9,QA,QB,QC,W0,W1,W2,W3,W4,W5,W6,reduceIte,getD_map hx]))
      all_goals try (exfalso; omega)
      refine .inl ⟨_,_,_,_,rfl,fun _=>.of ?_ (hc),?_⟩
      · intro a ha
        simp only [List.nil_append,List.cons_append,List.mem_cons] at ha
        rcases ha with rfl | ha
        · simp
        · exact hcap a ha
      refine owp_of_exs ?_
      simp only [zN,zT,zV,zS,zU,Q0,Q1,ex,Q2,Q3,Q4,Q5,Q6,Q7,Q8,Q9,QA,QB,QC,W0,W1,W2,W3,W4,W5,W6,reduceIte]
      (repeat' ((first|refine vn rfl ?_|simp (disch:=omega) only [wr64,W7]|refine bo (fun _=>?_) fun _=>?_|refine im fun _=>?_|refine cF ?_|refine om ?_|refine an ?_|fail) <;> try simp only [zN,zT,zV,zS,zU,Q0,Q1,ex,Q2,Q3,Q4,Q5,Q6,Q7,Q8,Q9,QA,QB,QC,W0,W1,W2,W3,W4,W5,W6,reduceIte]))
      · rename_i h
        rw [h] at hI
        simp only [if_true] at hI
        rw [← hI]
        exact Frz.eq rfl (by simp)
      · rename_i h
        rw [h] at hI
        exact ⟨⟨i+1,hlt,by simpa using hI⟩,by simp,by simp only; omega⟩
    · obtain rfl:i=l.length:=by omega
      rw [List.drop_length,fidx] at hI
      (repeat' ((first|refine vn rfl ?_|simp (disch:=omega) only [wr64,W7]|refine bo (fun _=>?_) fun _=>?_|refine im fun _=>?_|refine cF ?_|refine om ?_|refine an ?_|fail) <;> try simp only [zN,zT,zV,zS,zU,Q0,Q1,ex,Q2,Q3,Q4,Q5,Q6,Q7,Q8,Q9,QA,QB,QC,W0,W1,W2,W3,W4,W5,W6,reduceIte]))
      all_goals try (exfalso; omega)
      rw [← hI]
      exact Frz.eq rfl (by simp)
theorem indexStn (f:Nat) (caps:List AV) (hcap:∀ c∈caps,PureV c) (q:Stn→Bool) (l:List Stn) (hl:l.length < 9223372036854775808) (hq:∀ x∈l,Pure Tryz.prog f ([.agg (Stn.cs x)]++caps) (bl (q x))):Pure Tryz.prog 246 [snS l,.fn (.func f) [] caps] (n (fidx q 0 l)):=by
  refine Pure.of_body Tryz.call246 Tryz.func246 k246 (Nat.le_of_ble_eq_true rfl) ?_
  unfold c246
  (repeat' ((first|refine vn rfl ?_|simp (disch:=omega) only [wr64,W7]|refine bo (fun _=>?_) fun _=>?_|refine im fun _=>?_|refine cF ?_|refine om ?_|refine an ?_|fail) <;> try simp only [zN,zT,zV,zS,zU,Q0,Q1,ex,Q2,Q3,Q4,Q5,Q6,Q7,Q8,Q9,QA,QB,QC,W0,W1,W2,W3,W4,W5,W6,reduceIte]))
  refine AWPC.loopI 8 l.length (fun i=>fidx q i (l.drop i)=fidx q 0 l) (by simp) ?_ ?_
  · (simp only [zN,zT,zV,zS,zU,Q0,Q1,ex,Q2,Q3,Q4,Q5,Q6,Q7,Q8,Q9,QA,QB,QC,W0,W1,W2,W3,W4,W5,W6,reduceIte]; try simp)
  · intro i hi hI
    by_cases hlt:i < l.length
    · obtain ⟨x,hx⟩:∃ x,l[i]?=some x:=⟨_,List.getElem?_eq_getElem hlt⟩
      have hc:=hq x (List.mem_of_getElem? hx)
      rw [drop_cons hx,fidx] at hI
      (repeat' ((first|refine vn rfl ?_|simp (disch:=omega) only [wr64,W7]|refine bo (fun _=>?_) fun _=>?_|refine im fun _=>?_|refine cF ?_|refine om ?_|refine an ?_|fail) <;> try simp only [zN,zT,zV,zS,zU,Q0,Q1,ex,Q2,Q3,Q4,Q5,Q6,Q7,Q8,Q9,QA,QB,QC,W0,W1,W2,W3,W4,W5,W6,reduceIte,getD_map hx]))
      all_goals try (exfalso; omega)
      refine .inl ⟨_,_,_,_,rfl,fun _=>.of ?_ (hc),?_⟩
      · intro a ha
        simp only [List.nil_append,List.cons_append,List.mem_cons] at ha
        rcases ha with rfl | ha
        · simp
        · exact hcap a ha
      refine owp_of_exs ?_
      simp only [zN,zT,zV,zS,zU,Q0,Q1,ex,Q2,Q3,Q4,Q5,Q6,Q7,Q8,Q9,QA,QB,QC,W0,W1,W2,W3,W4,W5,W6,reduceIte]
      (repeat' ((first|refine vn rfl ?_|simp (disch:=omega) only [wr64,W7]|refine bo (fun _=>?_) fun _=>?_|refine im fun _=>?_|refine cF ?_|refine om ?_|refine an ?_|fail) <;> try simp only [zN,zT,zV,zS,zU,Q0,Q1,ex,Q2,Q3,Q4,Q5,Q6,Q7,Q8,Q9,QA,QB,QC,W0,W1,W2,W3,W4,W5,W6,reduceIte]))
      · rename_i h
        rw [h] at hI
        simp only [if_true] at hI
        rw [← hI]
        exact Frz.eq rfl (by simp)
      · rename_i h
        rw [h] at hI
        exact ⟨⟨i+1,hlt,by simpa using hI⟩,by simp,by simp only; omega⟩
    · obtain rfl:i=l.length:=by omega
      rw [List.drop_length,fidx] at hI
      (repeat' ((first|refine vn rfl ?_|simp (disch:=omega) only [wr64,W7]|refine bo (fun _=>?_) fun _=>?_|refine im fun _=>?_|refine cF ?_|refine om ?_|refine an ?_|fail) <;> try simp only [zN,zT,zV,zS,zU,Q0,Q1,ex,Q2,Q3,Q4,Q5,Q6,Q7,Q8,Q9,QA,QB,QC,W0,W1,W2,W3,W4,W5,W6,reduceIte]))
      all_goals try (exfalso; omega)
      rw [← hI]
      exact Frz.eq rfl (by simp)
theorem containsSp (f:Nat) (caps:List AV) (hcap:∀ c∈caps,PureV c) (q:Sp→Bool) (l:List Sp) (hl:l.length < 9223372036854775808) (hq:∀ x∈l,Pure Tryz.prog f ([.agg (Sp.cs x)]++caps) (bl (q x))):Pure Tryz.prog 186 [spnS l,.fn (.func f) [] caps] (bl (l.any q)):=by
  refine Pure.of_body Tryz.call186 Tryz.func186 k186 (Nat.le_of_ble_eq_true rfl) ?_
  unfold c186
  have h:=fidx_any q l 0
  (repeat' ((first|refine vn rfl ?_|simp (disch:=omega) only [wr64,W7]|refine bo (fun _=>?_) fun _=>?_|refine im fun _=>?_|refine cF ?_|refine om ?_|refine an ?_|fail) <;> try simp only [zN,zT,zV,zS,zU,Q0,Q1,ex,Q2,Q3,Q4,Q5,Q6,Q7,Q8,Q9,QA,QB,QC,W0,W1,W2,W3,W4,W5,W6,reduceIte]))
  refine .inl ⟨_,_,_,_,rfl,fun _=>.of ?_ (indexSp f caps hcap q l hl hq),?_⟩
  · intro a ha
    simp only [List.nil_append,List.cons_append,List.mem_cons,List.append_nil,List.not_mem_nil,or_false] at ha
    rcases ha with rfl | rfl
    · simp
    · exact PureV.fn (fun _ h=>absurd h (List.not_mem_nil)) hcap
  refine owp_of_exs ?_
  simp only [zN,zT,zV,zS,zU,Q0,Q1,ex,Q2,Q3,Q4,Q5,Q6,Q7,Q8,Q9,QA,QB,QC,W0,W1,W2,W3,W4,W5,W6,reduceIte]
  (repeat' ((first|refine vn rfl ?_|simp (disch:=omega) only [wr64,W7]|refine bo (fun _=>?_) fun _=>?_|refine im fun _=>?_|refine cF ?_|refine om ?_|refine an ?_|fail) <;> try simp only [zN,zT,zV,zS,zU,Q0,Q1,ex,Q2,Q3,Q4,Q5,Q6,Q7,Q8,Q9,QA,QB,QC,W0,W1,W2,W3,W4,W5,W6,reduceIte]))
  rw [← h]
  exact Frz.eq rfl (by simp)
theorem containsMk (f:Nat) (caps:List AV) (hcap:∀ c∈caps,PureV c) (q:Mk→Bool) (l:List Mk) (hl:l.length < 9223372036854775808) (hq:∀ x∈l,Pure Tryz.prog f ([.agg (Mk.cs x)]++caps) (bl (q x))):Pure Tryz.prog 187 [mkS l,.fn (.func f) [] caps] (bl (l.any q)):=by
  refine Pure.of_body Tryz.call187 Tryz.func187 k187 (Nat.le_of_ble_eq_true rfl) ?_
  unfold c187
  have h:=fidx_any q l 0
  (repeat' ((first|refine vn rfl ?_|simp (disch:=omega) only [wr64,W7]|refine bo (fun _=>?_) fun _=>?_|refine im fun _=>?_|refine cF ?_|refine om ?_|refine an ?_|fail) <;> try simp only [zN,zT,zV,zS,zU,Q0,Q1,ex,Q2,Q3,Q4,Q5,Q6,Q7,Q8,Q9,QA,QB,QC,W0,W1,W2,W3,W4,W5,W6,reduceIte]))
  refine .inl ⟨_,_,_,_,rfl,fun _=>.of ?_ (indexMk f caps hcap q l hl hq),?_⟩
  · intro a ha
    simp only [List.nil_append,List.cons_append,List.mem_cons,List.append_nil,List.not_mem_nil,or_false] at ha
    rcases ha with rfl | rfl
    · simp
    · exact PureV.fn (fun _ h=>absurd h (List.not_mem_nil)) hcap
  refine owp_of_exs ?_
  simp only [zN,zT,zV,zS,zU,Q0,Q1,ex,Q2,Q3,Q4,Q5,Q6,Q7,Q8,Q9,QA,QB,QC,W0,W1,W2,W3,W4,W5,W6,reduceIte]
  (repeat' ((first|refine vn rfl ?_|simp (disch:=omega) only [wr64,W7]|refine bo (fun _=>?_) fun _=>?_|refine im fun _=>?_|refine cF ?_|refine om ?_|refine an ?_|fail) <;> try simp only [zN,zT,zV,zS,zU,Q0,Q1,ex,Q2,Q3,Q4,Q5,Q6,Q7,Q8,Q9,QA,QB,QC,W0,W1,W2,W3,W4,W5,W6,reduceIte]))
  rw [← h]
  exact Frz.eq rfl (by simp)
theorem CheckTrace_spec (l:List Pt) (hl:l.length < 9223372036854775808):Pure Tryz.prog 279 [ptS l] (.tup [n (traceE l).1,n (traceE l).2]):=by
  refine Pure.of_body Tryz.call279 Tryz.func279 k279 (Nat.le_of_ble_eq_true rfl) ?_
  unfold c279
  (repeat' ((first|refine vn rfl ?_|simp (disch:=omega) only [wr64,W7]|refine bo (fun _=>?_) fun _=>?_|refine im fun _=>?_|refine cF ?_|refine om ?_|refine an ?_|fail) <;> try simp only [zN,zT,zV,zS,zU,Q0,Q1,ex,Q2,Q3,Q4,Q5,Q6,Q7,Q8,Q9,QA,QB,QC,W0,W1,W2,W3,W4,W5,W6,reduceIte]))
  · rename_i h
    unfold traceE; rw [if_pos (by omega)]; exact Frz.eq rfl (by simp)
  refine AWPC.loopE (α:={ x:Nat × Sto // x.1≤l.length∧∀ j,j < x.1→(fun i=>if (l.getD i ⟨0,0,0⟩).ok then (0:Int) else 11) j=0 }) [11] (fun x=>[(11,n x.1.1)]) (fun x=>x.1.2) (fun x=>l.length - x.1.1) ⟨(0,[]),by simp,by simp⟩ ?_ rfl ?_
  · (simp only [zN,zT,zV,zS,zU,Q0,Q1,ex,Q2,Q3,Q4,Q5,Q6,Q7,Q8,Q9,QA,QB,QC,W0,W1,W2,W3,W4,W5,W6,reduceIte]; try simp)
  · rintro ⟨⟨i,τ⟩,hi,hb⟩
    simp only at hi hb
    have hlen:¬ 2000 < l.length:=by omega
    by_cases hlt:i < l.length
    · have hs:(l.map Pt.cs).getD i []=Pt.cs (l.getD i ⟨0,0,0⟩):=row _ hlt
      generalize hg:l.getD i ⟨0,0,0⟩=g at hs
      (repeat' ((first|refine vn rfl ?_|simp (disch:=omega) only [wr64,W7]|refine bo (fun _=>?_) fun _=>?_|refine im fun _=>?_|((repeat refine si ?_); (first|((first|refine .inl ⟨_,_,_,_,rfl,fun _=>pu (by first|exact within_p g.x 0 400000|exact within_p g.y 0 400000|exact within_p g.half 0 5000),?_⟩|refine ⟨_,_,_,_,rfl,fun _=>pu (by first|exact within_p g.x 0 400000|exact within_p g.y 0 400000|exact within_p g.half 0 5000),?_⟩); (first|refine o1 ?_|refine o2 ?_|refine o3 ?_|refine o4 ?_)) | refine .inl ⟨_,_,_,_,rfl,pu (by first|exact within_p g.x 0 400000|exact within_p g.y 0 400000|exact within_p g.half 0 5000),?_⟩))|refine cF ?_|refine om ?_|refine an ?_|fail) <;> try simp only [zN,zT,zV,zS,zU,Q0,Q1,ex,Q2,Q3,Q4,Q5,Q6,Q7,Q8,Q9,QA,QB,QC,W0,W1,W2,W3,W4,W5,W6,reduceIte,hs]))
      all_goals try (exfalso; omega)
      · rename_i h
        have hn:¬ (l.getD i ⟨0,0,0⟩).ok:=by rw [hg]; unfold Pt.ok; omega
        have:=firstE_at (p:=fun i=>if (l.getD i ⟨0,0,0⟩).ok then (0:Int) else 11) hlt hb (by simp only [hn,if_false]; decide)
        unfold traceE; rw [if_neg hlen,this]
        simp only [hn,if_false]
        exact Frz.eq rfl (by simp)
      · rename_i h
        exact ⟨⟨(i+1,_),hlt,all_next hb (by simp only [hg]; rw [if_pos (by unfold Pt.ok; omega)])⟩,by simp,rfl,by simp only; omega⟩
    · obtain rfl:i=l.length:=by omega
      (repeat' ((first|refine vn rfl ?_|simp (disch:=omega) only [wr64,W7]|refine bo (fun _=>?_) fun _=>?_|refine im fun _=>?_|refine cF ?_|refine om ?_|refine an ?_|fail) <;> try simp only [zN,zT,zV,zS,zU,Q0,Q1,ex,Q2,Q3,Q4,Q5,Q6,Q7,Q8,Q9,QA,QB,QC,W0,W1,W2,W3,W4,W5,W6,reduceIte]))
      all_goals try (exfalso; omega)
      unfold traceE; rw [if_neg hlen,firstE_none hb]; exact Frz.eq rfl (by simp)
theorem badRate_spec (s:Sp):Pure Tryz.prog 182 [.agg (Sp.cs s)] (bl (decide (¬ spIn s 1 40))):=by
  refine Pure.of_body Tryz.call182 Tryz.func182 k182 (Nat.le_of_ble_eq_true rfl) ?_
  unfold c182
  (repeat' ((first|refine vn rfl ?_|simp (disch:=omega) only [wr64,W7]|refine bo (fun _=>?_) fun _=>?_|refine im fun _=>?_|((repeat refine si ?_); (first|((first|refine .inl ⟨_,_,_,_,rfl,fun _=>pu (span_c s 1 40),?_⟩|refine ⟨_,_,_,_,rfl,fun _=>pu (span_c s 1 40),?_⟩); (first|refine o1 ?_|refine o2 ?_|refine o3 ?_|refine o4 ?_)) | refine .inl ⟨_,_,_,_,rfl,pu (span_c s 1 40),?_⟩))|refine cF ?_|refine om ?_|refine an ?_|fail) <;> try simp only [zN,zT,zV,zS,zU,Q0,Q1,ex,Q2,Q3,Q4,Q5,Q6,Q7,Q8,Q9,QA,QB,QC,W0,W1,W2,W3,W4,W5,W6,reduceIte]))
  all_goals exact Frz.eq (congrArg bl (by simp)) (by simp)
theorem badStop_spec (rates:List Sp) (stops:List Mk) (hr:rates.length < 9223372036854775808) (s:Mk):Pure Tryz.prog 184 [.agg (Mk.cs s),.iptr [spnS rates,mkS stops] 0] (bl (decide (¬ (inr s.col 0 ((rates.length:Int) - 1)∧spIn s.ticks 0 400)))):=by
  refine Pure.of_body Tryz.call184 Tryz.func184 k184 (Nat.le_of_ble_eq_true rfl) ?_
  unfold c184
  (repeat' ((first|refine vn rfl ?_|simp (disch:=omega) only [wr64,W7]|refine bo (fun _=>?_) fun _=>?_|refine im fun _=>?_|((repeat refine si ?_); (first|((first|refine .inl ⟨_,_,_,_,rfl,fun _=>pu (by first|exact within_c s.col 0 ((rates.length:Int) - 1)|exact span_c s.ticks 0 400),?_⟩|refine ⟨_,_,_,_,rfl,fun _=>pu (by first|exact within_c s.col 0 ((rates.length:Int) - 1)|exact span_c s.ticks 0 400),?_⟩); (first|refine o1 ?_|refine o2 ?_|refine o3 ?_|refine o4 ?_)) | refine .inl ⟨_,_,_,_,rfl,pu (by first|exact within_c s.col 0 ((rates.length:Int) - 1)|exact span_c s.ticks 0 400),?_⟩))|refine cF ?_|refine om ?_|refine an ?_|fail) <;> try simp only [zN,zT,zV,zS,zU,Q0,Q1,ex,Q2,Q3,Q4,Q5,Q6,Q7,Q8,Q9,QA,QB,QC,W0,W1,W2,W3,W4,W5,W6,reduceIte]))
  all_goals exact Frz.eq (congrArg bl (by rw [Bool.eq_iff_iff]; simp; omega)) (by simp)
theorem CheckDrum_spec (rates:List Sp) (stops:List Mk) (hr:rates.length < 9223372036854775808) (hs:stops.length < 9223372036854775808):Pure Tryz.prog 118 [.agg [spnS rates,mkS stops]] (n (if drumOk rates stops then 0 else 20)):=by
  refine Pure.of_body Tryz.call118 Tryz.func118 k118 (Nat.le_of_ble_eq_true rfl) ?_
  unfold c118
  have h1:=containsSp 182 [] (by simp) (fun s=>decide (¬ spIn s 1 40)) rates hr (fun s _=>badRate_spec s)
  have h2:=containsMk 184 [.iptr [spnS rates,mkS stops] 0] (by simp) (fun s=>decide (¬ (inr s.col 0 ((rates.length:Int) - 1)∧spIn s.ticks 0 400))) stops hs (fun s _=>badStop_spec rates stops hr s)
  have hd:drumOk rates stops↔inr rates.length 1 199∧stops.length≤16∧(rates.any fun s=>decide (¬ spIn s 1 40))=false∧(stops.any fun s=>decide (¬ (inr s.col 0 ((rates.length:Int) - 1)∧spIn s.ticks 0 400)))=false:=by
    simp only [List.any_eq_false,decide_eq_true_eq,Classical.not_not]
    exact Iff.rfl
  generalize (rates.any fun s=>decide (¬ spIn s 1 40))=x at h1 hd
  generalize (stops.any fun s=>decide (¬ (inr s.col 0 ((rates.length:Int) - 1)∧spIn s.ticks 0 400)))=y at h2 hd
  (repeat' ((first|refine vn rfl ?_|simp (disch:=omega) only [wr64,W7]|refine bo (fun _=>?_) fun _=>?_|refine im fun _=>?_|((repeat refine si ?_); (first|((first|refine .inl ⟨_,_,_,_,rfl,fun _=>pu (by first|exact within_c rates.length 1 199|exact h1|exact h2),?_⟩|refine ⟨_,_,_,_,rfl,fun _=>pu (by first|exact within_c rates.length 1 199|exact h1|exact h2),?_⟩); (first|refine o1 ?_|refine o2 ?_|refine o3 ?_|refine o4 ?_)) | refine .inl ⟨_,_,_,_,rfl,pu (by first|exact within_c rates.length 1 199|exact h1|exact h2),?_⟩))|refine cF ?_|refine om ?_|refine an ?_|fail) <;> try simp only [zN,zT,zV,zS,zU,Q0,Q1,ex,Q2,Q3,Q4,Q5,Q6,Q7,Q8,Q9,QA,QB,QC,W0,W1,W2,W3,W4,W5,W6,reduceIte]))
  all_goals try (exfalso; omega)
  · rename_i h
    rw [if_neg (fun g=>?_)]
    · exact Frz.eq rfl (by simp)
    · obtain ⟨a,b,c,d⟩:=hd.1 g
      subst c; subst d
      simp at h; omega
  · rename_i h
    rw [if_pos (hd.2 ?_)]
    · exact Frz.eq rfl (by simp)
    · cases x <;> cases y <;> simp at h ⊢ <;> omega
def c177:CF:=⟨26,
 (.seq (.ops [
 ⟨some 4,.mv (.c (.bool false)),none⟩] [0,1])
 (.seq (.seq (.ops [
 ⟨some 6,.mv (.t 0),none⟩,
 ⟨some 7,.len (.t 6),none⟩,
 ⟨some 8,.mv (.t 1),none⟩,
 ⟨some 9,.len (.t 8),none⟩,
 ⟨some 10,.bin .neq (.t 7) (.t 9),none⟩] [0,1,10])
 (.cond (.t 10) (.seq (.ops [
 ⟨some 4,.mv (.c (.bool false)),none⟩] [4])
 .ret)
 .skip))
 (.seq (.seq (.ops [
 ⟨some 11,.mv (.t 0),none⟩,
 ⟨some 12,.len (.t 11),none⟩,
 ⟨some 13,.mv (.c (.int .i64 0)),none⟩] [0,1,12,13])
 (.block 0 (.loop (.seq (.ops [
 ⟨some 14,.bin .lss (.t 13) (.t 12),none⟩] [0,1,12,13,14])
 (.seq (.cond (.t 14) .skip
 (.exit 0))
 (.seq (.block 1 (.seq (.ops [
 ⟨some 15,.mv (.t 13),none⟩,
 ⟨some 5,.mv (.t 15),none⟩] [0,1,5,12,13])
 (.seq (.draw [
 ⟨some 16,.mv (.t 0),none⟩,
 ⟨some 17,.mv (.t 5),none⟩,
 ⟨some 18,.iaddr 3 (.t 16) (.t 17),none⟩,
 ⟨some 19,.load (some 3) (.t 18),none⟩,
 ⟨some 20,.mv (.t 1),none⟩,
 ⟨some 21,.mv (.t 5),none⟩,
 ⟨some 22,.iaddr 3 (.t 20) (.t 21),none⟩,
 ⟨some 23,.load (some 3) (.t 22),none⟩,
 ⟨some 24,.eqs true [some .i64,some .i64,some .i64] (.t 19) (.t 23),none⟩] [
 ] [0,1,12,13,24])
 (.cond (.t 24) (.seq (.ops [
 ⟨some 4,.mv (.c (.bool false)),none⟩] [4])
 .ret)
 .skip))))
 (.ops [
 ⟨some 25,.bin .add (.t 13) (.c (.int .i64 1)),none⟩,
 ⟨some 13,.mv (.t 25),none⟩] [0,1,12,13])))))))
 (.seq (.ops [
 ⟨some 4,.mv (.c (.bool true)),none⟩] [4])
 .ret)))),
 [.t 4]⟩
theorem k177:chkF Tryz.prog Tryz.f177 c177=true:=by kernel_rfl
def c178:CF:=⟨26,
 (.seq (.ops [
 ⟨some 4,.mv (.c (.bool false)),none⟩] [0,1])
 (.seq (.seq (.ops [
 ⟨some 6,.mv (.t 0),none⟩,
 ⟨some 7,.len (.t 6),none⟩,
 ⟨some 8,.mv (.t 1),none⟩,
 ⟨some 9,.len (.t 8),none⟩,
 ⟨some 10,.bin .neq (.t 7) (.t 9),none⟩] [0,1,10])
 (.cond (.t 10) (.seq (.ops [
 ⟨some 4,.mv (.c (.bool false)),none⟩] [4])
 .ret)
 .skip))
 (.seq (.seq (.ops [
 ⟨some 11,.mv (.t 0),none⟩,
 ⟨some 12,.len (.t 11),none⟩,
 ⟨some 13,.mv (.c (.int .i64 0)),none⟩] [0,1,12,13])
 (.block 0 (.loop (.seq (.ops [
 ⟨some 14,.bin .lss (.t 13) (.t 12),none⟩] [0,1,12,13,14])
 (.seq (.cond (.t 14) .skip
 (.exit 0))
 (.seq (.block 1 (.seq (.ops [
 ⟨some 15,.mv (.t 13),none⟩,
 ⟨some 5,.mv (.t 15),none⟩] [0,1,5,12,13])
 (.seq (.draw [
 ⟨some 16,.mv (.t 0),none⟩,
 ⟨some 17,.mv (.t 5),none⟩,
 ⟨some 18,.iaddr 1 (.t 16) (.t 17),none⟩,
 ⟨some 19,.load none (.t 18),none⟩,
 ⟨some 20,.mv (.t 1),none⟩,
 ⟨some 21,.mv (.t 5),none⟩,
 ⟨some 22,.iaddr 1 (.t 20) (.t 21),none⟩,
 ⟨some 23,.load none (.t 22),none⟩,
 ⟨some 24,.bin .neq (.t 19) (.t 23),none⟩] [
 ] [0,1,12,13,24])
 (.cond (.t 24) (.seq (.ops [
 ⟨some 4,.mv (.c (.bool false)),none⟩] [4])
 .ret)
 .skip))))
 (.ops [
 ⟨some 25,.bin .add (.t 13) (.c (.int .i64 1)),none⟩,
 ⟨some 13,.mv (.t 25),none⟩] [0,1,12,13])))))))
 (.seq (.ops [
 ⟨some 4,.mv (.c (.bool true)),none⟩] [4])
 .ret)))),
 [.t 4]⟩
theorem k178:chkF Tryz.prog Tryz.f178 c178=true:=by kernel_rfl
def c179:CF:=⟨26,
 (.seq (.ops [
 ⟨some 4,.mv (.c (.bool false)),none⟩] [0,1])
 (.seq (.seq (.ops [
 ⟨some 6,.mv (.t 0),none⟩,
 ⟨some 7,.len (.t 6),none⟩,
 ⟨some 8,.mv (.t 1),none⟩,
 ⟨some 9,.len (.t 8),none⟩,
 ⟨some 10,.bin .neq (.t 7) (.t 9),none⟩] [0,1,10])
 (.cond (.t 10) (.seq (.ops [
 ⟨some 4,.mv (.c (.bool false)),none⟩] [4])
 .ret)
 .skip))
 (.seq (.seq (.ops [
 ⟨some 11,.mv (.t 0),none⟩,
 ⟨some 12,.len (.t 11),none⟩,
 ⟨some 13,.mv (.c (.int .i64 0)),none⟩] [0,1,12,13])
 (.block 0 (.loop (.seq (.ops [
 ⟨some 14,.bin .lss (.t 13) (.t 12),none⟩] [0,1,12,13,14])
 (.seq (.cond (.t 14) .skip
 (.exit 0))
 (.seq (.block 1 (.seq (.ops [
 ⟨some 15,.mv (.t 13),none⟩,
 ⟨some 5,.mv (.t 15),none⟩] [0,1,5,12,13])
 (.seq (.draw [
 ⟨some 16,.mv (.t 0),none⟩,
 ⟨some 17,.mv (.t 5),none⟩,
 ⟨some 18,.iaddr 2 (.t 16) (.t 17),none⟩,
 ⟨some 19,.load (some 2) (.t 18),none⟩,
 ⟨some 20,.mv (.t 1),none⟩,
 ⟨some 21,.mv (.t 5),none⟩,
 ⟨some 22,.iaddr 2 (.t 20) (.t 21),none⟩,
 ⟨some 23,.load (some 2) (.t 22),none⟩,
 ⟨some 24,.eqs true [some .i64,some .i64] (.t 19) (.t 23),none⟩] [
 ] [0,1,12,13,24])
 (.cond (.t 24) (.seq (.ops [
 ⟨some 4,.mv (.c (.bool false)),none⟩] [4])
 .ret)
 .skip))))
 (.ops [
 ⟨some 25,.bin .add (.t 13) (.c (.int .i64 1)),none⟩,
 ⟨some 13,.mv (.t 25),none⟩] [0,1,12,13])))))))
 (.seq (.ops [
 ⟨some 4,.mv (.c (.bool true)),none⟩] [4])
 .ret)))),
 [.t 4]⟩
theorem k179:chkF Tryz.prog Tryz.f179 c179=true:=by kernel_rfl
def c180:CF:=⟨26,
 (.seq (.ops [
 ⟨some 4,.mv (.c (.bool false)),none⟩] [0,1])
 (.seq (.seq (.ops [
 ⟨some 6,.mv (.t 0),none⟩,
 ⟨some 7,.len (.t 6),none⟩,
 ⟨some 8,.mv (.t 1),none⟩,
 ⟨some 9,.len (.t 8),none⟩,
 ⟨some 10,.bin .neq (.t 7) (.t 9),none⟩] [0,1,10])
 (.cond (.t 10) (.seq (.ops [
 ⟨some 4,.mv (.c (.bool false)),none⟩] [4])
 .ret)
 .skip))
 (.seq (.seq (.ops [
 ⟨some 11,.mv (.t 0),none⟩,
 ⟨some 12,.len (.t 11),none⟩,
 ⟨some 13,.mv (.c (.int .i64 0)),none⟩] [0,1,12,13])
 (.block 0 (.loop (.seq (.ops [
 ⟨some 14,.bin .lss (.t 13) (.t 12),none⟩] [0,1,12,13,14])
 (.seq (.cond (.t 14) .skip
 (.exit 0))
 (.seq (.block 1 (.seq (.ops [
 ⟨some 15,.mv (.t 13),none⟩,
 ⟨some 5,.mv (.t 15),none⟩] [0,1,5,12,13])
 (.seq (.draw [
 ⟨some 16,.mv (.t 0),none⟩,
 ⟨some 17,.mv (.t 5),none⟩,
 ⟨some 18,.iaddr 3 (.t 16) (.t 17),none⟩,
 ⟨some 19,.load (some 3) (.t 18),none⟩,
 ⟨some 20,.mv (.t 1),none⟩,
 ⟨some 21,.mv (.t 5),none⟩,
 ⟨some 22,.iaddr 3 (.t 20) (.t 21),none⟩,
 ⟨some 23,.load (some 3) (.t 22),none⟩,
 ⟨some 24,.eqs true [some .i64,some .i64,some .i64] (.t 19) (.t 23),none⟩] [
 ] [0,1,12,13,24])
 (.cond (.t 24) (.seq (.ops [
 ⟨some 4,.mv (.c (.bool false)),none⟩] [4])
 .ret)
 .skip))))
 (.ops [
 ⟨some 25,.bin .add (.t 13) (.c (.int .i64 1)),none⟩,
 ⟨some 13,.mv (.t 25),none⟩] [0,1,12,13])))))))
 (.seq (.ops [
 ⟨some 4,.mv (.c (.bool true)),none⟩] [4])
 .ret)))),
 [.t 4]⟩
theorem k180:chkF Tryz.prog Tryz.f180 c180=true:=by kernel_rfl
theorem equalPt (a b:List Pt) (ha:a.length < 9223372036854775808) (hb:b.length < 9223372036854775808):Pure Tryz.prog 177 [ptS a,ptS b] (bl (decide (a=b))):=by
  refine Pure.of_body Tryz.call177 Tryz.func177 k177 (Nat.le_of_ble_eq_true rfl) ?_
  unfold c177
  (repeat' ((first|refine vn rfl ?_|simp (disch:=omega) only [wr64,W7]|refine bo (fun _=>?_) fun _=>?_|refine im fun _=>?_|refine cF ?_|refine om ?_|refine an ?_|fail) <;> try simp only [zN,zT,zV,zS,zU,Q0,Q1,ex,Q2,Q3,Q4,Q5,Q6,Q7,Q8,Q9,QA,QB,QC,W0,W1,W2,W3,W4,W5,W6,reduceIte]))
  · rename_i h
    rw [decide_eq_false fun e=>by subst e; omega]; exact Frz.eq rfl (by simp)
  rename_i hne
  have hlen:a.length=b.length:=by omega
  refine AWPC.loopI 13 a.length (fun i=>a.take i=b.take i) (by simp) ?_ ?_
  · (simp only [zN,zT,zV,zS,zU,Q0,Q1,ex,Q2,Q3,Q4,Q5,Q6,Q7,Q8,Q9,QA,QB,QC,W0,W1,W2,W3,W4,W5,W6,reduceIte]; try simp)
  · intro i hi hI
    by_cases hlt:i < a.length
    · have hx:(a.map Pt.cs).getD i []=Pt.cs (a.getD i ⟨0,0,0⟩):=row _ hlt
      have hy:(b.map Pt.cs).getD i []=Pt.cs (b.getD i ⟨0,0,0⟩):=row _ (by omega)
      have hk:a.getD i ⟨0,0,0⟩=b.getD i ⟨0,0,0⟩↔a.take (i+1)=b.take (i+1):=by
        rw [List.take_add_one,List.take_add_one,hI,getD_lt ⟨0,0,0⟩ hlt,getD_lt ⟨0,0,0⟩ (show i < b.length by omega)]; simp
      generalize a.getD i ⟨0,0,0⟩=x at hx hk
      generalize b.getD i ⟨0,0,0⟩=y at hy hk
      obtain ⟨x1,x2,x3⟩:=x
      obtain ⟨y1,y2,y3⟩:=y
      simp only [Pt.mk.injEq] at hk
      (repeat' ((first|refine vn rfl ?_|simp (disch:=omega) only [wr64,W7]|refine bo (fun _=>?_) fun _=>?_|refine im fun _=>?_|refine cF ?_|refine om ?_|refine an ?_|fail) <;> try simp only [zN,zT,zV,zS,zU,Q0,Q1,ex,Q2,Q3,Q4,Q5,Q6,Q7,Q8,Q9,QA,QB,QC,W0,W1,W2,W3,W4,W5,W6,reduceIte,hx,hy]))
      all_goals try (exfalso; omega)
      · rename_i h
        rw [decide_eq_false fun e=>by
          have:=hk.2 (by rw [e])
          omega]
        exact Frz.eq rfl (by simp)
      · rename_i h
        exact ⟨⟨i+1,hlt,hk.1 (by omega)⟩,by simp,by simp only; omega⟩
    · obtain rfl:i=a.length:=by omega
      (repeat' ((first|refine vn rfl ?_|simp (disch:=omega) only [wr64,W7]|refine bo (fun _=>?_) fun _=>?_|refine im fun _=>?_|refine cF ?_|refine om ?_|refine an ?_|fail) <;> try simp only [zN,zT,zV,zS,zU,Q0,Q1,ex,Q2,Q3,Q4,Q5,Q6,Q7,Q8,Q9,QA,QB,QC,W0,W1,W2,W3,W4,W5,W6,reduceIte]))
      all_goals try (exfalso; omega)
      rw [List.take_length,hlen,List.take_length] at hI
      rw [decide_eq_true hI]
      exact Frz.eq rfl (by simp)
theorem equalSp (a b:List Sp) (ha:a.length < 9223372036854775808) (hb:b.length < 9223372036854775808):Pure Tryz.prog 179 [spnS a,spnS b] (bl (decide (a=b))):=by
  refine Pure.of_body Tryz.call179 Tryz.func179 k179 (Nat.le_of_ble_eq_true rfl) ?_
  unfold c179
  (repeat' ((first|refine vn rfl ?_|simp (disch:=omega) only [wr64,W7]|refine bo (fun _=>?_) fun _=>?_|refine im fun _=>?_|refine cF ?_|refine om ?_|refine an ?_|fail) <;> try simp only [zN,zT,zV,zS,zU,Q0,Q1,ex,Q2,Q3,Q4,Q5,Q6,Q7,Q8,Q9,QA,QB,QC,W0,W1,W2,W3,W4,W5,W6,reduceIte]))
  · rename_i h
    rw [decide_eq_false fun e=>by subst e; omega]; exact Frz.eq rfl (by simp)
  rename_i hne
  have hlen:a.length=b.length:=by omega
  refine AWPC.loopI 13 a.length (fun i=>a.take i=b.take i) (by simp) ?_ ?_
  · (simp only [zN,zT,zV,zS,zU,Q0,Q1,ex,Q2,Q3,Q4,Q5,Q6,Q7,Q8,Q9,QA,QB,QC,W0,W1,W2,W3,W4,W5,W6,reduceIte]; try simp)
  · intro i hi hI
    by_cases hlt:i < a.length
    · have hx:(a.map Sp.cs).getD i []=Sp.cs (a.getD i ⟨0,0⟩):=row _ hlt
      have hy:(b.map Sp.cs).getD i []=Sp.cs (b.getD i ⟨0,0⟩):=row _ (by omega)
      have hk:a.getD i ⟨0,0⟩=b.getD i ⟨0,0⟩↔a.take (i+1)=b.take (i+1):=by
        rw [List.take_add_one,List.take_add_one,hI,getD_lt ⟨0,0⟩ hlt,getD_lt ⟨0,0⟩ (show i < b.length by omega)]; simp
      generalize a.getD i ⟨0,0⟩=x at hx hk
      generalize b.getD i ⟨0,0⟩=y at hy hk
      obtain ⟨x1,x2⟩:=x
      obtain ⟨y1,y2⟩:=y
      simp only [Sp.mk.injEq] at hk
      (repeat' ((first|refine vn rfl ?_|simp (disch:=omega) only [wr64,W7]|refine bo (fun _=>?_) fun _=>?_|refine im fun _=>?_|refine cF ?_|refine om ?_|refine an ?_|fail) <;> try simp only [zN,zT,zV,zS,zU,Q0,Q1,ex,Q2,Q3,Q4,Q5,Q6,Q7,Q8,Q9,QA,QB,QC,W0,W1,W2,W3,W4,W5,W6,reduceIte,hx,hy]))
      all_goals try (exfalso; omega)
      · rename_i h
        rw [decide_eq_false fun e=>by
          have:=hk.2 (by rw [e])
          omega]
        exact Frz.eq rfl (by simp)
      · rename_i h
        exact ⟨⟨i+1,hlt,hk.1 (by omega)⟩,by simp,by simp only; omega⟩
    · obtain rfl:i=a.length:=by omega
      (repeat' ((first|refine vn rfl ?_|simp (disch:=omega) only [wr64,W7]|refine bo (fun _=>?_) fun _=>?_|refine im fun _=>?_|refine cF ?_|refine om ?_|refine an ?_|fail) <;> try simp only [zN,zT,zV,zS,zU,Q0,Q1,ex,Q2,Q3,Q4,Q5,Q6,Q7,Q8,Q9,QA,QB,QC,W0,W1,W2,W3,W4,W5,W6,reduceIte]))
      all_goals try (exfalso; omega)
      rw [List.take_length,hlen,List.take_length] at hI
      rw [decide_eq_true hI]
      exact Frz.eq rfl (by simp)
theorem equalMk (a b:List Mk) (ha:a.length < 9223372036854775808) (hb:b.length < 9223372036854775808):Pure Tryz.prog 180 [mkS a,mkS b] (bl (decide (a=b))):=by
  refine Pure.of_body Tryz.call180 Tryz.func180 k180 (Nat.le_of_ble_eq_true rfl) ?_
  unfold c180
  (repeat' ((first|refine vn rfl ?_|simp (disch:=omega) only [wr64,W7]|refine bo (fun _=>?_) fun _=>?_|refine im fun _=>?_|refine cF ?_|refine om ?_|refine an ?_|fail) <;> try simp only [zN,zT,zV,zS,zU,Q0,Q1,ex,Q2,Q3,Q4,Q5,Q6,Q7,Q8,Q9,QA,QB,QC,W0,W1,W2,W3,W4,W5,W6,reduceIte]))
  · rename_i h
    rw [decide_eq_false fun e=>by subst e; omega]; exact Frz.eq rfl (by simp)
  rename_i hne
  have hlen:a.length=b.length:=by omega
  refine AWPC.loopI 13 a.length (fun i=>a.take i=b.take i) (by simp) ?_ ?_
  · (simp only [zN,zT,zV,zS,zU,Q0,Q1,ex,Q2,Q3,Q4,Q5,Q6,Q7,Q8,Q9,QA,QB,QC,W0,W1,W2,W3,W4,W5,W6,reduceIte]; try simp)
  · intro i hi hI
    by_cases hlt:i < a.length
    · have hx:(a.map Mk.cs).getD i []=Mk.cs (a.getD i ⟨0,⟨0,0⟩⟩):=row _ hlt
      have hy:(b.map Mk.cs).getD i []=Mk.cs (b.getD i ⟨0,⟨0,0⟩⟩):=row _ (by omega)
      have hk:a.getD i ⟨0,⟨0,0⟩⟩=b.getD i ⟨0,⟨0,0⟩⟩↔a.take (i+1)=b.take (i+1):=by
        rw [List.take_add_one,List.take_add_one,hI,getD_lt ⟨0,⟨0,0⟩⟩ hlt,getD_lt ⟨0,⟨0,0⟩⟩ (show i < b.length by omega)]; simp
      generalize a.getD i ⟨0,⟨0,0⟩⟩=x at hx hk
      generalize b.getD i ⟨0,⟨0,0⟩⟩=y at hy hk
      obtain ⟨x1,x2,x3⟩:=x
      obtain ⟨y1,y2,y3⟩:=y
      simp only [Mk.mk.injEq,Sp.mk.injEq] at hk
      (repeat' ((first|refine vn rfl ?_|simp (disch:=omega) only [wr64,W7]|refine bo (fun _=>?_) fun _=>?_|refine im fun _=>?_|refine cF ?_|refine om ?_|refine an ?_|fail) <;> try simp only [zN,zT,zV,zS,zU,Q0,Q1,ex,Q2,Q3,Q4,Q5,Q6,Q7,Q8,Q9,QA,QB,QC,W0,W1,W2,W3,W4,W5,W6,reduceIte,hx,hy]))
      all_goals try (exfalso; omega)
      · rename_i h
        rw [decide_eq_false fun e=>by
          have:=hk.2 (by rw [e])
          omega]
        exact Frz.eq rfl (by simp)
      · rename_i h
        exact ⟨⟨i+1,hlt,hk.1 (by omega)⟩,by simp,by simp only; omega⟩
    · obtain rfl:i=a.length:=by omega
      (repeat' ((first|refine vn rfl ?_|simp (disch:=omega) only [wr64,W7]|refine bo (fun _=>?_) fun _=>?_|refine im fun _=>?_|refine cF ?_|refine om ?_|refine an ?_|fail) <;> try simp only [zN,zT,zV,zS,zU,Q0,Q1,ex,Q2,Q3,Q4,Q5,Q6,Q7,Q8,Q9,QA,QB,QC,W0,W1,W2,W3,W4,W5,W6,reduceIte]))
      all_goals try (exfalso; omega)
      rw [List.take_length,hlen,List.take_length] at hI
      rw [decide_eq_true hI]
      exact Frz.eq rfl (by simp)
theorem equalInt (a b:List Int) (ha:a.length < 9223372036854775808) (hb:b.length < 9223372036854775808):Pure Tryz.prog 178 [inS a,inS b] (bl (decide (a=b))):=by
  refine Pure.of_body Tryz.call178 Tryz.func178 k178 (Nat.le_of_ble_eq_true rfl) ?_
  unfold c178
  (repeat' ((first|refine vn rfl ?_|simp (disch:=omega) only [wr64,W7]|refine bo (fun _=>?_) fun _=>?_|refine im fun _=>?_|refine cF ?_|refine om ?_|refine an ?_|fail) <;> try simp only [zN,zT,zV,zS,zU,Q0,Q1,ex,Q2,Q3,Q4,Q5,Q6,Q7,Q8,Q9,QA,QB,QC,W0,W1,W2,W3,W4,W5,W6,reduceIte]))
  · rename_i h
    rw [decide_eq_false fun e=>by subst e; omega]; exact Frz.eq rfl (by simp)
  rename_i hne
  have hlen:a.length=b.length:=by omega
  refine AWPC.loopI 13 a.length (fun i=>a.take i=b.take i) (by simp) ?_ ?_
  · (simp only [zN,zT,zV,zS,zU,Q0,Q1,ex,Q2,Q3,Q4,Q5,Q6,Q7,Q8,Q9,QA,QB,QC,W0,W1,W2,W3,W4,W5,W6,reduceIte]; try simp)
  · intro i hi hI
    by_cases hlt:i < a.length
    · have hx:(a.map (fun z=>[n z])).getD i []=(fun z=>[n z]) (a.getD i 0):=row _ hlt
      have hy:(b.map (fun z=>[n z])).getD i []=(fun z=>[n z]) (b.getD i 0):=row _ (by omega)
      have hk:a.getD i 0=b.getD i 0↔a.take (i+1)=b.take (i+1):=by
        rw [List.take_add_one,List.take_add_one,hI,getD_lt 0 hlt,getD_lt 0 (show i < b.length by omega)]; simp
      generalize a.getD i 0=x at hx hk
      generalize b.getD i 0=y at hy hk
      (repeat' ((first|refine vn rfl ?_|simp (disch:=omega) only [wr64,W7]|refine bo (fun _=>?_) fun _=>?_|refine im fun _=>?_|refine cF ?_|refine om ?_|refine an ?_|fail) <;> try simp only [zN,zT,zV,zS,zU,Q0,Q1,ex,Q2,Q3,Q4,Q5,Q6,Q7,Q8,Q9,QA,QB,QC,W0,W1,W2,W3,W4,W5,W6,reduceIte,hx,hy]))
      all_goals try (exfalso; omega)
      · rename_i h
        rw [decide_eq_false fun e=>by
          have:=hk.2 (by rw [e])
          omega]
        exact Frz.eq rfl (by simp)
      · rename_i h
        exact ⟨⟨i+1,hlt,hk.1 (by omega)⟩,by simp,by simp only; omega⟩
    · obtain rfl:i=a.length:=by omega
      (repeat' ((first|refine vn rfl ?_|simp (disch:=omega) only [wr64,W7]|refine bo (fun _=>?_) fun _=>?_|refine im fun _=>?_|refine cF ?_|refine om ?_|refine an ?_|fail) <;> try simp only [zN,zT,zV,zS,zU,Q0,Q1,ex,Q2,Q3,Q4,Q5,Q6,Q7,Q8,Q9,QA,QB,QC,W0,W1,W2,W3,W4,W5,W6,reduceIte]))
      all_goals try (exfalso; omega)
      rw [List.take_length,hlen,List.take_length] at hI
      rw [decide_eq_true hI]
      exact Frz.eq rfl (by simp)
def c89:CF:=⟨8,
 (.seq (.ops [
 ⟨some 1,.box false 68 38 (.t 0),none⟩,
 ⟨some 2,.alloc 29 2 [.int .i64 0,.int .i64 0],none⟩] [1,2])
 (.seq (.ops [
 ⟨some 3,.faddr 0 (.t 1),none⟩,
 ⟨some 4,.load none (.t 3),none⟩,
 ⟨some 5,.faddr 1 (.t 1),none⟩,
 ⟨some 6,.load none (.t 5),none⟩,
 ⟨some 7,.build [.int .i64 0,.int .i64 0] [(0,1,(.t 4)),(1,1,(.t 6))],none⟩,
 ⟨none,.store 2 (.t 2) (.t 7),none⟩] [2])
 .ret)),
 [.c 2 (some 2)]⟩
theorem k89:chkF Tryz.prog Tryz.f89 c89=true:=by kernel_rfl
def c170:CF:=⟨11,
 (.seq (.ops [
 ⟨some 1,.box false 29 2 (.t 0),none⟩,
 ⟨some 2,.mv (.c (.bool false)),none⟩] [1])
 (.seq (.ops [
 ⟨some 3,.faddr 0 (.t 1),none⟩,
 ⟨some 4,.load none (.t 3),none⟩,
 ⟨some 5,.call (.f 96) [(.t 4),(.c (.int .i64 1)),(.c (.int .i64 8))],none⟩,
 ⟨some 6,.mv (.t 5),none⟩,
 ⟨some 7,.faddr 1 (.t 1),some (6,true)⟩,
 ⟨some 8,.load none (.t 7),some (6,true)⟩,
 ⟨some 9,.call (.f 96) [(.t 8),(.c (.int .i64 1)),(.c (.int .i64 400))],some (6,true)⟩,
 ⟨some 10,.pick (.t 6) (.t 9) (.c (.bool false)),none⟩,
 ⟨some 2,.mv (.t 10),none⟩] [2])
 .ret)),
 [.t 2]⟩
theorem k170:chkF Tryz.prog Tryz.f170 c170=true:=by kernel_rfl
def c286:CF:=⟨11,
 (.seq (.ops [
 ⟨some 1,.box false 62 3 (.t 0),none⟩,
 ⟨some 2,.mv (.c (.bool false)),none⟩] [1])
 (.seq (.ops [
 ⟨some 3,.faddr 0 (.t 1),none⟩,
 ⟨some 4,.load none (.t 3),none⟩,
 ⟨some 5,.call (.f 96) [(.t 4),(.c (.int .i64 0)),(.c (.int .i64 199))],none⟩,
 ⟨some 6,.mv (.t 5),none⟩,
 ⟨some 7,.faddr 1 (.t 1),some (6,true)⟩,
 ⟨some 8,.load (some 2) (.t 7),some (6,true)⟩,
 ⟨some 9,.call (.f 287) [(.t 8),(.c (.int .i64 0)),(.c (.int .i64 400))],some (6,true)⟩,
 ⟨some 10,.pick (.t 6) (.t 9) (.c (.bool false)),none⟩,
 ⟨some 2,.mv (.t 10),none⟩] [2])
 .ret)),
 [.t 2]⟩
theorem k286:chkF Tryz.prog Tryz.f286 c286=true:=by kernel_rfl
def c115:CF:=⟨49,
 (.seq (.ops [
 ⟨some 2,.box false 60 18 (.t 0),none⟩,
 ⟨some 3,.box false 60 18 (.t 1),none⟩,
 ⟨some 4,.mv (.c (.bool false)),none⟩] [2,3])
 (.seq (.ops [
 ⟨some 5,.faddr 0 (.t 2),none⟩,
 ⟨some 6,.load (some 10) (.t 5),none⟩,
 ⟨some 7,.faddr 0 (.t 3),none⟩,
 ⟨some 8,.load (some 10) (.t 7),none⟩,
 ⟨some 9,.eqs false [some .i64,some .i64,some .i64,some .i64,some .i64,some .i64,some .i64,some .i64,some .i64,some .i64] (.t 6) (.t 8),none⟩,
 ⟨some 10,.mv (.t 9),none⟩,
 ⟨some 11,.faddr 10 (.t 2),some (10,true)⟩,
 ⟨some 12,.load none (.t 11),some (10,true)⟩,
 ⟨some 13,.faddr 10 (.t 3),some (10,true)⟩,
 ⟨some 14,.load none (.t 13),some (10,true)⟩,
 ⟨some 15,.call (.f 177) [(.t 12),(.t 14)],some (10,true)⟩,
 ⟨some 16,.pick (.t 10) (.t 15) (.c (.bool false)),none⟩,
 ⟨some 17,.mv (.t 16),none⟩,
 ⟨some 18,.faddr 11 (.t 2),some (17,true)⟩,
 ⟨some 19,.load none (.t 18),some (17,true)⟩,
 ⟨some 20,.faddr 11 (.t 3),some (17,true)⟩,
 ⟨some 21,.load none (.t 20),some (17,true)⟩,
 ⟨some 22,.call (.f 178) [(.t 19),(.t 21)],some (17,true)⟩,
 ⟨some 23,.pick (.t 17) (.t 22) (.c (.bool false)),none⟩,
 ⟨some 24,.mv (.t 23),none⟩,
 ⟨some 25,.faddr 12 (.t 2),some (24,true)⟩,
 ⟨some 26,.faddr 0 (.t 25),some (24,true)⟩,
 ⟨some 27,.load none (.t 26),some (24,true)⟩,
 ⟨some 28,.faddr 12 (.t 3),some (24,true)⟩,
 ⟨some 29,.faddr 0 (.t 28),some (24,true)⟩,
 ⟨some 30,.load none (.t 29),some (24,true)⟩,
 ⟨some 31,.call (.f 179) [(.t 27),(.t 30)],some (24,true)⟩,
 ⟨some 32,.pick (.t 24) (.t 31) (.c (.bool false)),none⟩,
 ⟨some 33,.mv (.t 32),none⟩,
 ⟨some 34,.faddr 12 (.t 2),some (33,true)⟩,
 ⟨some 35,.faddr 1 (.t 34),some (33,true)⟩,
 ⟨some 36,.load none (.t 35),some (33,true)⟩,
 ⟨some 37,.faddr 12 (.t 3),some (33,true)⟩,
 ⟨some 38,.faddr 1 (.t 37),some (33,true)⟩,
 ⟨some 39,.load none (.t 38),some (33,true)⟩,
 ⟨some 40,.call (.f 180) [(.t 36),(.t 39)],some (33,true)⟩,
 ⟨some 41,.pick (.t 33) (.t 40) (.c (.bool false)),none⟩,
 ⟨some 42,.mv (.t 41),none⟩,
 ⟨some 43,.faddr 14 (.t 2),some (42,true)⟩,
 ⟨some 44,.load (some 4) (.t 43),some (42,true)⟩,
 ⟨some 45,.faddr 14 (.t 3),some (42,true)⟩,
 ⟨some 46,.load (some 4) (.t 45),some (42,true)⟩,
 ⟨some 47,.eqs false [some .i64,some .i64,some .i64,some .i64] (.t 44) (.t 46),some (42,true)⟩,
 ⟨some 48,.pick (.t 42) (.t 47) (.c (.bool false)),none⟩,
 ⟨some 4,.mv (.t 48),none⟩] [4])
 .ret)),
 [.t 4]⟩
theorem k115:chkF Tryz.prog Tryz.f115 c115=true:=by kernel_rfl
def c49:CF:=⟨80,
 (.seq (.ops [
 ⟨some 2,.box false 68 38 (.t 0),none⟩,
 ⟨some 3,.box false 68 38 (.t 1),none⟩,
 ⟨some 4,.mv (.c (.bool false)),none⟩] [2,3])
 (.seq (.draw [
 ⟨some 5,.load (some 38) (.t 2),none⟩,
 ⟨some 6,.call (.f 89) [(.t 5)],none⟩,
 ⟨some 7,.load (some 38) (.t 3),none⟩,
 ⟨some 8,.call (.f 89) [(.t 7)],none⟩,
 ⟨some 9,.eqs false [some .i64,some .i64] (.t 6) (.t 8),none⟩,
 ⟨some 10,.mv (.t 9),none⟩,
 ⟨some 11,.faddr 2 (.t 2),some (10,true)⟩,
 ⟨some 12,.load none (.t 11),some (10,true)⟩,
 ⟨some 13,.faddr 2 (.t 3),some (10,true)⟩,
 ⟨some 14,.load none (.t 13),some (10,true)⟩,
 ⟨some 15,.bin .eql (.t 12) (.t 14),some (10,true)⟩,
 ⟨some 16,.pick (.t 10) (.t 15) (.c (.bool false)),none⟩,
 ⟨some 17,.mv (.t 16),none⟩,
 ⟨some 18,.faddr 3 (.t 2),some (17,true)⟩,
 ⟨some 19,.load none (.t 18),some (17,true)⟩,
 ⟨some 20,.faddr 3 (.t 3),some (17,true)⟩,
 ⟨some 21,.load none (.t 20),some (17,true)⟩,
 ⟨some 22,.bin .eql (.t 19) (.t 21),some (17,true)⟩,
 ⟨some 23,.pick (.t 17) (.t 22) (.c (.bool false)),none⟩,
 ⟨some 24,.mv (.t 23),none⟩,
 ⟨some 25,.faddr 4 (.t 2),some (24,true)⟩,
 ⟨some 26,.load none (.t 25),some (24,true)⟩,
 ⟨some 27,.faddr 4 (.t 3),some (24,true)⟩,
 ⟨some 28,.load none (.t 27),some (24,true)⟩,
 ⟨some 29,.bin .eql (.t 26) (.t 28),some (24,true)⟩,
 ⟨some 30,.pick (.t 24) (.t 29) (.c (.bool false)),none⟩,
 ⟨some 31,.mv (.t 30),none⟩,
 ⟨some 32,.faddr 5 (.t 2),some (31,true)⟩,
 ⟨some 33,.load none (.t 32),some (31,true)⟩,
 ⟨some 34,.faddr 5 (.t 3),some (31,true)⟩,
 ⟨some 35,.load none (.t 34),some (31,true)⟩,
 ⟨some 36,.bin .eql (.t 33) (.t 35),some (31,true)⟩,
 ⟨some 37,.pick (.t 31) (.t 36) (.c (.bool false)),none⟩,
 ⟨some 38,.mv (.t 37),none⟩,
 ⟨some 39,.faddr 6 (.t 2),some (38,true)⟩,
 ⟨some 40,.load none (.t 39),some (38,true)⟩,
 ⟨some 41,.faddr 6 (.t 3),some (38,true)⟩,
 ⟨some 42,.load none (.t 41),some (38,true)⟩,
 ⟨some 43,.bin .eql (.t 40) (.t 42),some (38,true)⟩,
 ⟨some 44,.pick (.t 38) (.t 43) (.c (.bool false)),none⟩,
 ⟨some 45,.mv (.t 44),none⟩,
 ⟨some 46,.faddr 25 (.t 2),some (45,true)⟩,
 ⟨some 47,.load (some 3) (.t 46),some (45,true)⟩,
 ⟨some 48,.faddr 25 (.t 3),some (45,true)⟩,
 ⟨some 49,.load (some 3) (.t 48),some (45,true)⟩,
 ⟨some 50,.eqs false [some .i64,some .i64,some .i64] (.t 47) (.t 49),some (45,true)⟩,
 ⟨some 51,.pick (.t 45) (.t 50) (.c (.bool false)),none⟩,
 ⟨some 52,.mv (.t 51),none⟩,
 ⟨some 53,.faddr 28 (.t 2),some (52,true)⟩,
 ⟨some 54,.load (some 5) (.t 53),some (52,true)⟩,
 ⟨some 55,.faddr 28 (.t 3),some (52,true)⟩,
 ⟨some 56,.load (some 5) (.t 55),some (52,true)⟩,
 ⟨some 57,.eqs false [some .i64,some .i64,some .i64,some .i64,some .i64] (.t 54) (.t 56),some (52,true)⟩,
 ⟨some 58,.pick (.t 52) (.t 57) (.c (.bool false)),none⟩,
 ⟨some 59,.mv (.t 58),none⟩,
 ⟨some 60,.faddr 33 (.t 2),some (59,true)⟩,
 ⟨some 61,.load (some 3) (.t 60),some (59,true)⟩,
 ⟨some 62,.faddr 33 (.t 3),some (59,true)⟩,
 ⟨some 63,.load (some 3) (.t 62),some (59,true)⟩,
 ⟨some 64,.eqs false [some .i64,some .i64,some .i64] (.t 61) (.t 63),some (59,true)⟩,
 ⟨some 65,.pick (.t 59) (.t 64) (.c (.bool false)),none⟩,
 ⟨some 66,.mv (.t 65),none⟩,
 ⟨some 67,.faddr 36 (.t 2),some (66,true)⟩,
 ⟨some 68,.load (some 2) (.t 67),some (66,true)⟩,
 ⟨some 69,.faddr 36 (.t 3),some (66,true)⟩,
 ⟨some 70,.load (some 2) (.t 69),some (66,true)⟩,
 ⟨some 71,.eqs false [some .i64,some .i64] (.t 68) (.t 70),some (66,true)⟩,
 ⟨some 72,.pick (.t 66) (.t 71) (.c (.bool false)),none⟩,
 ⟨some 73,.mv (.t 72),none⟩,
 ⟨some 74,.faddr 7 (.t 2),some (73,true)⟩,
 ⟨some 75,.load (some 18) (.t 74),some (73,true)⟩,
 ⟨some 76,.faddr 7 (.t 3),some (73,true)⟩,
 ⟨some 77,.load (some 18) (.t 76),some (73,true)⟩,
 ⟨some 78,.call (.f 115) [(.t 75),(.t 77)],some (73,true)⟩,
 ⟨some 79,.pick (.t 73) (.t 78) (.c (.bool false)),none⟩,
 ⟨some 4,.mv (.t 79),none⟩] [
 ] [4])
 .ret)),
 [.t 4]⟩
theorem k49:chkF Tryz.prog Tryz.f49 c49=true:=by kernel_rfl
def c168:CF:=⟨6,
 (.seq (.ops [
 ⟨some 2,.mv (.c (.bool false)),none⟩] [0])
 (.seq (.ops [
 ⟨some 3,.mv (.t 0),none⟩,
 ⟨some 4,.mv (.t 0),none⟩,
 ⟨some 5,.bin .neq (.t 3) (.t 4),none⟩,
 ⟨some 2,.mv (.t 5),none⟩] [2])
 .ret)),
 [.t 2]⟩
theorem k168:chkF Tryz.prog Tryz.f168 c168=true:=by kernel_rfl
def c101:CF:=⟨20,
 (.seq (.ops [
 ⟨some 4,.mv (.c (.int .i64 0)),none⟩] [0,1])
 (.seq (.ops [
 ⟨some 7,.mv (.t 0),none⟩,
 ⟨some 8,.call (.f 168) [(.t 7)],none⟩,
 ⟨some 5,.mv (.t 8),none⟩] [0,1,5])
 (.seq (.ops [
 ⟨some 9,.mv (.t 1),none⟩,
 ⟨some 10,.call (.f 168) [(.t 9)],none⟩,
 ⟨some 6,.mv (.t 10),none⟩] [0,1,5,6])
 (.seq (.seq (.ops [
 ⟨some 11,.mv (.t 5),none⟩] [0,1,6,11])
 (.cond (.t 11) (.seq (.seq (.ops [
 ⟨some 12,.mv (.t 6),none⟩] [12])
 (.cond (.t 12) (.seq (.ops [
 ⟨some 4,.mv (.c (.int .i64 0)),none⟩] [4])
 .ret)
 .skip))
 (.seq (.ops [
 ⟨some 4,.mv (.c (.int .i64 (-1))),none⟩] [4])
 .ret))
 .skip))
 (.seq (.seq (.ops [
 ⟨some 13,.mv (.t 6),none⟩] [0,1,13])
 (.cond (.t 13) (.seq (.ops [
 ⟨some 4,.mv (.c (.int .i64 1)),none⟩] [4])
 .ret)
 .skip))
 (.seq (.seq (.ops [
 ⟨some 14,.mv (.t 0),none⟩,
 ⟨some 15,.mv (.t 1),none⟩,
 ⟨some 16,.bin .lss (.t 14) (.t 15),none⟩] [0,1,16])
 (.cond (.t 16) (.seq (.ops [
 ⟨some 4,.mv (.c (.int .i64 (-1))),none⟩] [4])
 .ret)
 .skip))
 (.seq (.seq (.ops [
 ⟨some 17,.mv (.t 0),none⟩,
 ⟨some 18,.mv (.t 1),none⟩,
 ⟨some 19,.bin .gtr (.t 17) (.t 18),none⟩] [19])
 (.cond (.t 19) (.seq (.ops [
 ⟨some 4,.mv (.c (.int .i64 1)),none⟩] [4])
 .ret)
 .skip))
 (.seq (.ops [
 ⟨some 4,.mv (.c (.int .i64 0)),none⟩] [4])
 .ret)))))))),
 [.t 4]⟩
theorem k101:chkF Tryz.prog Tryz.f101 c101=true:=by kernel_rfl
def c171:CF:=⟨18,
 (.seq (.ops [
 ⟨some 2,.mv (.c (.int .i64 0)),none⟩] [0])
 (.seq (.ops [
 ⟨some 3,.mv (.c (.int .i64 0)),none⟩] [0,3])
 (.seq (.seq (.ops [
 ⟨some 6,.mv (.t 0),none⟩,
 ⟨some 7,.len (.t 6),none⟩,
 ⟨some 8,.mv (.c (.int .i64 0)),none⟩] [3,6,7,8])
 (.block 0 (.loop (.seq (.ops [
 ⟨some 9,.bin .lss (.t 8) (.t 7),none⟩] [3,6,7,8,9])
 (.seq (.cond (.t 9) .skip
 (.exit 0))
 (.seq (.block 1 (.seq (.ops [
 ⟨some 10,.iaddr 1 (.t 6) (.t 8),none⟩,
 ⟨some 11,.load none (.t 10),none⟩,
 ⟨some 5,.mv (.t 11),none⟩] [3,5,6,7,8])
 (.seq (.ops [
 ⟨some 12,.mv (.t 5),none⟩,
 ⟨some 13,.mv (.t 3),none⟩,
 ⟨some 14,.bin .neq (.t 12) (.t 13),none⟩] [3,5,6,7,8,14])
 (.cond (.t 14) (.seq (.ops [
 ⟨some 15,.mv (.t 5),none⟩,
 ⟨some 2,.mv (.t 15),none⟩] [2])
 .ret)
 .skip))))
 (.ops [
 ⟨some 16,.bin .add (.t 8) (.c (.int .i64 1)),none⟩,
 ⟨some 8,.mv (.t 16),none⟩] [3,6,7,8])))))))
 (.seq (.ops [
 ⟨some 17,.mv (.t 3),none⟩,
 ⟨some 2,.mv (.t 17),none⟩] [2])
 .ret)))),
 [.t 2]⟩
theorem k171:chkF Tryz.prog Tryz.f171 c171=true:=by kernel_rfl
def c107:CF:=⟨17,
 (.seq (.ops [
 ⟨some 2,.box false 29 2 (.t 0),none⟩,
 ⟨some 3,.box false 29 2 (.t 1),none⟩,
 ⟨some 4,.mv (.c (.int .i64 0)),none⟩] [2,3])
 (.seq (.draw [
 ⟨some 5,.faddr 0 (.t 2),none⟩,
 ⟨some 6,.load none (.t 5),none⟩,
 ⟨some 7,.faddr 0 (.t 3),none⟩,
 ⟨some 8,.load none (.t 7),none⟩,
 ⟨some 9,.call (.f 101) [(.t 6),(.t 8)],none⟩,
 ⟨some 10,.faddr 1 (.t 2),none⟩,
 ⟨some 11,.load none (.t 10),none⟩,
 ⟨some 12,.faddr 1 (.t 3),none⟩,
 ⟨some 13,.load none (.t 12),none⟩,
 ⟨some 14,.call (.f 101) [(.t 11),(.t 13)],none⟩,
 ⟨some 15,.bsl false 3 1 2 [.int .i64 0,.int .i64 0] [(0,1,(.t 9)),(1,1,(.t 14))],none⟩,
 ⟨some 16,.call (.f 171) [(.t 15)],none⟩,
 ⟨some 4,.mv (.t 16),none⟩] [
 ] [4])
 .ret)),
 [.t 4]⟩
theorem k107:chkF Tryz.prog Tryz.f107 c107=true:=by kernel_rfl
def c114:CF:=⟨22,
 (.seq (.ops [
 ⟨some 2,.box false 68 38 (.t 0),none⟩,
 ⟨some 3,.box false 68 38 (.t 1),none⟩,
 ⟨some 4,.mv (.c (.int .i64 0)),none⟩] [2,3])
 (.seq (.draw [
 ⟨some 5,.faddr 3 (.t 2),none⟩,
 ⟨some 6,.load none (.t 5),none⟩,
 ⟨some 7,.faddr 3 (.t 3),none⟩,
 ⟨some 8,.load none (.t 7),none⟩,
 ⟨some 9,.call (.f 101) [(.t 6),(.t 8)],none⟩,
 ⟨some 10,.faddr 2 (.t 2),none⟩,
 ⟨some 11,.load none (.t 10),none⟩,
 ⟨some 12,.faddr 2 (.t 3),none⟩,
 ⟨some 13,.load none (.t 12),none⟩,
 ⟨some 14,.call (.f 101) [(.t 11),(.t 13)],none⟩,
 ⟨some 15,.load (some 38) (.t 2),none⟩,
 ⟨some 16,.call (.f 89) [(.t 15)],none⟩,
 ⟨some 17,.load (some 38) (.t 3),none⟩,
 ⟨some 18,.call (.f 89) [(.t 17)],none⟩,
 ⟨some 19,.call (.f 107) [(.t 16),(.t 18)],none⟩,
 ⟨some 20,.bsl false 3 1 3 [.int .i64 0,.int .i64 0,.int .i64 0] [(0,1,(.t 9)),(1,1,(.t 14)),(2,1,(.t 19))],none⟩,
 ⟨some 21,.call (.f 171) [(.t 20)],none⟩,
 ⟨some 4,.mv (.t 21),none⟩] [
 ] [4])
 .ret)),
 [.t 4]⟩
theorem k114:chkF Tryz.prog Tryz.f114 c114=true:=by kernel_rfl
def c47:CF:=⟨9,
 (.seq (.ops [
 ⟨some 2,.box false 68 38 (.t 0),none⟩,
 ⟨some 3,.box false 68 38 (.t 1),none⟩,
 ⟨some 4,.mv (.c (.bool false)),none⟩] [2,3])
 (.seq (.ops [
 ⟨some 5,.load (some 38) (.t 2),none⟩,
 ⟨some 6,.load (some 38) (.t 3),none⟩,
 ⟨some 7,.call (.f 114) [(.t 5),(.t 6)],none⟩,
 ⟨some 8,.bin .lss (.t 7) (.c (.int .i64 0)),none⟩,
 ⟨some 4,.mv (.t 8),none⟩] [4])
 .ret)),
 [.t 4]⟩
theorem k47:chkF Tryz.prog Tryz.f47 c47=true:=by kernel_rfl
def shtSz (s:Sht):Prop:=s.trace.length < 9223372036854775808∧s.blots.length < 9223372036854775808∧s.rates.length < 9223372036854775808∧s.stops.length < 9223372036854775808
theorem name_spec (a:Nt):Pure Tryz.prog 89 [.agg a.cs] (.agg [n a.clerk,n a.num]):=by
  refine Pure.of_body Tryz.call89 Tryz.func89 k89 (Nat.le_of_ble_eq_true rfl) ?_
  unfold c89
  (repeat' ((first|refine vn rfl ?_|simp (disch:=omega) only [wr64,W7]|refine bo (fun _=>?_) fun _=>?_|refine im fun _=>?_|refine cF ?_|refine om ?_|refine an ?_|fail) <;> try simp only [zN,zT,zV,zS,zU,Q0,Q1,ex,Q2,Q3,Q4,Q5,Q6,Q7,Q8,Q9,QA,QB,QC,W0,W1,W2,W3,W4,W5,W6,reduceIte]))
  all_goals exact Frz.eq rfl (by simp)
theorem rightName_spec (m:Nm):Pure Tryz.prog 170 [.agg m.cs] (bl (decide m.ok)):=by
  refine Pure.of_body Tryz.call170 Tryz.func170 k170 (Nat.le_of_ble_eq_true rfl) ?_
  unfold c170
  (repeat' ((first|refine vn rfl ?_|simp (disch:=omega) only [wr64,W7]|refine bo (fun _=>?_) fun _=>?_|refine im fun _=>?_|((repeat refine si ?_); (first|((first|refine .inl ⟨_,_,_,_,rfl,fun _=>pu (by first|exact within_a m.clerk 1 8|exact within_a m.num 1 400),?_⟩|refine ⟨_,_,_,_,rfl,fun _=>pu (by first|exact within_a m.clerk 1 8|exact within_a m.num 1 400),?_⟩); (first|refine o1 ?_|refine o2 ?_|refine o3 ?_|refine o4 ?_)) | refine .inl ⟨_,_,_,_,rfl,pu (by first|exact within_a m.clerk 1 8|exact within_a m.num 1 400),?_⟩))|refine cF ?_|refine om ?_|refine an ?_|fail) <;> try simp only [zN,zT,zV,zS,zU,Q0,Q1,ex,Q2,Q3,Q4,Q5,Q6,Q7,Q8,Q9,QA,QB,QC,W0,W1,W2,W3,W4,W5,W6,reduceIte]))
  all_goals exact Frz.eq (congrArg bl (by first | rfl | (unfold Nm.ok; first | rfl | (rw [Bool.eq_iff_iff]; simp <;> try omega)))) (by simp)
theorem rightMark_spec (m:Mk):Pure Tryz.prog 286 [.agg m.cs] (bl (decide m.ok)):=by
  refine Pure.of_body Tryz.call286 Tryz.func286 k286 (Nat.le_of_ble_eq_true rfl) ?_
  unfold c286
  (repeat' ((first|refine vn rfl ?_|simp (disch:=omega) only [wr64,W7]|refine bo (fun _=>?_) fun _=>?_|refine im fun _=>?_|((repeat refine si ?_); (first|((first|refine .inl ⟨_,_,_,_,rfl,fun _=>pu (by first|exact within_a m.col 0 199|exact span_a m.ticks 0 400),?_⟩|refine ⟨_,_,_,_,rfl,fun _=>pu (by first|exact within_a m.col 0 199|exact span_a m.ticks 0 400),?_⟩); (first|refine o1 ?_|refine o2 ?_|refine o3 ?_|refine o4 ?_)) | refine .inl ⟨_,_,_,_,rfl,pu (by first|exact within_a m.col 0 199|exact span_a m.ticks 0 400),?_⟩))|refine cF ?_|refine om ?_|refine an ?_|fail) <;> try simp only [zN,zT,zV,zS,zU,Q0,Q1,ex,Q2,Q3,Q4,Q5,Q6,Q7,Q8,Q9,QA,QB,QC,W0,W1,W2,W3,W4,W5,W6,reduceIte]))
  all_goals exact Frz.eq (congrArg bl (by first | rfl | (unfold Mk.ok; first | rfl | (rw [Bool.eq_iff_iff]; simp <;> try omega)))) (by simp)
theorem sameSheet_spec (a b:Sht) (ha:shtSz a) (hb:shtSz b):Pure Tryz.prog 115 [.agg a.cs,.agg b.cs] (bl (decide (a=b))):=by
  refine Pure.of_body Tryz.call115 Tryz.func115 k115 (Nat.le_of_ble_eq_true rfl) ?_
  unfold c115
  have h1:=equalPt a.trace b.trace ha.1 hb.1
  have h2:=equalInt a.blots b.blots ha.2.1 hb.2.1
  have h3:=equalSp a.rates b.rates ha.2.2.1 hb.2.2.1
  have h4:=equalMk a.stops b.stops ha.2.2.2 hb.2.2.2
  (repeat' ((first|refine vn rfl ?_|simp (disch:=omega) only [wr64,W7]|refine bo (fun _=>?_) fun _=>?_|refine im fun _=>?_|((repeat refine si ?_); (first|((first|refine .inl ⟨_,_,_,_,rfl,fun _=>pu (by first|exact h1|exact h2|exact h3|exact h4),?_⟩|refine ⟨_,_,_,_,rfl,fun _=>pu (by first|exact h1|exact h2|exact h3|exact h4),?_⟩); (first|refine o1 ?_|refine o2 ?_|refine o3 ?_|refine o4 ?_)) | refine .inl ⟨_,_,_,_,rfl,pu (by first|exact h1|exact h2|exact h3|exact h4),?_⟩))|refine cF ?_|refine om ?_|refine an ?_|fail) <;> try simp only [zN,zT,zV,zS,zU,Q0,Q1,ex,Q2,Q3,Q4,Q5,Q6,Q7,Q8,Q9,QA,QB,QC,W0,W1,W2,W3,W4,W5,W6,reduceIte]))
  all_goals refine Frz.eq (congrArg bl ?_) (by simp)
  obtain ⟨⟨a1,a2,a3,a4,a5,a6,⟨a7,a8⟩,⟨a9,a10⟩⟩,a11,a12,a13,a14,⟨a15,⟨a16,a17⟩,a18⟩⟩:=a
  obtain ⟨⟨b1,b2,b3,b4,b5,b6,⟨b7,b8⟩,⟨b9,b10⟩⟩,b11,b12,b13,b14,⟨b15,⟨b16,b17⟩,b18⟩⟩:=b
  simp only [Sht.mk.injEq,Ppr.mk.injEq,Pn.mk.injEq,Sp.mk.injEq,and_assoc]
theorem Same_spec (a b:Nt) (ha:shtSz a.sheet) (hb:shtSz b.sheet):Pure Tryz.prog 49 [.agg a.cs,.agg b.cs] (bl (decide (a=b))):=by
  refine Pure.of_body Tryz.call49 Tryz.func49 k49 (Nat.le_of_ble_eq_true rfl) ?_
  unfold c49
  have h1:=sameSheet_spec a.sheet b.sheet ha hb
  have h2:=name_spec a
  have h3:=name_spec b
  (repeat' ((first|refine vn rfl ?_|simp (disch:=omega) only [wr64,W7]|refine bo (fun _=>?_) fun _=>?_|refine im fun _=>?_|((repeat refine si ?_); (first|((first|refine .inl ⟨_,_,_,_,rfl,fun _=>pu (by first|exact h2|exact h3|exact h1),?_⟩|refine ⟨_,_,_,_,rfl,fun _=>pu (by first|exact h2|exact h3|exact h1),?_⟩); (first|refine o1 ?_|refine o2 ?_|refine o3 ?_|refine o4 ?_)) | refine .inl ⟨_,_,_,_,rfl,pu (by first|exact h2|exact h3|exact h1),?_⟩))|refine cF ?_|refine om ?_|refine an ?_|fail) <;> try simp only [zN,zT,zV,zS,zU,Q0,Q1,ex,Q2,Q3,Q4,Q5,Q6,Q7,Q8,Q9,QA,QB,QC,W0,W1,W2,W3,W4,W5,W6,reduceIte]))
  refine Frz.eq (congrArg bl ?_) (by simp)
  clear h1 h2 h3
  obtain ⟨a1,a2,a3,a4,a5,a6,a7,a8,⟨a9,⟨a10,a11⟩⟩,⟨a12,a13,a14,⟨a15,a16⟩⟩,⟨a17,⟨a18,a19⟩⟩,⟨a20,a21⟩⟩:=a
  obtain ⟨b1,b2,b3,b4,b5,b6,b7,b8,⟨b9,⟨b10,b11⟩⟩,⟨b12,b13,b14,⟨b15,b16⟩⟩,⟨b17,⟨b18,b19⟩⟩,⟨b20,b21⟩⟩:=b
  simp only [Nt.mk.injEq,Mk.mk.injEq,Rd.mk.injEq,Hgt.mk.injEq,Nm.mk.injEq,Sp.mk.injEq,and_assoc]
  rw [decide_eq_decide]
  constructor <;> (intro h; simp_all)
theorem Compare_spec (x y:Int):Pure Tryz.prog 101 [n x,n y] (n (sgn x y)):=by
  have h0:∀ z,Pure Tryz.prog 168 [n z] (bl false):=fun z=>by
    refine Pure.of_body Tryz.call168 Tryz.func168 k168 (Nat.le_of_ble_eq_true rfl) ?_
    unfold c168
    (repeat' ((first|refine vn rfl ?_|simp (disch:=omega) only [wr64,W7]|refine bo (fun _=>?_) fun _=>?_|refine im fun _=>?_|refine cF ?_|refine om ?_|refine an ?_|fail) <;> try simp only [zN,zT,zV,zS,zU,Q0,Q1,ex,Q2,Q3,Q4,Q5,Q6,Q7,Q8,Q9,QA,QB,QC,W0,W1,W2,W3,W4,W5,W6,reduceIte]))
    all_goals exact Frz.eq (congrArg bl (by simp)) (by simp)
  refine Pure.of_body Tryz.call101 Tryz.func101 k101 (Nat.le_of_ble_eq_true rfl) ?_
  unfold c101
  (repeat' ((first|refine vn rfl ?_|simp (disch:=omega) only [wr64,W7]|refine bo (fun _=>?_) fun _=>?_|refine im fun _=>?_|((repeat refine si ?_); (first|((first|refine .inl ⟨_,_,_,_,rfl,fun _=>pu (by first|exact h0 x|exact h0 y),?_⟩|refine ⟨_,_,_,_,rfl,fun _=>pu (by first|exact h0 x|exact h0 y),?_⟩); (first|refine o1 ?_|refine o2 ?_|refine o3 ?_|refine o4 ?_)) | refine .inl ⟨_,_,_,_,rfl,pu (by first|exact h0 x|exact h0 y),?_⟩))|refine cF ?_|refine om ?_|refine an ?_|fail) <;> try simp only [zN,zT,zV,zS,zU,Q0,Q1,ex,Q2,Q3,Q4,Q5,Q6,Q7,Q8,Q9,QA,QB,QC,W0,W1,W2,W3,W4,W5,W6,reduceIte]))
  all_goals try (exfalso; omega)
  all_goals first
    | (refine Frz.eq (congrArg n ?_) (by simp); unfold sgn; repeat' split
       all_goals first | rfl | omega)
def orL:List Int→Int
  | []=>0
  | x::r=>if x=0 then orL r else x
theorem Or_spec (l:List Int) (hl:l.length < 9223372036854775808):Pure Tryz.prog 171 [inS l] (n (orL l)):=by
  refine Pure.of_body Tryz.call171 Tryz.func171 k171 (Nat.le_of_ble_eq_true rfl) ?_
  unfold c171
  (repeat' ((first|refine vn rfl ?_|simp (disch:=omega) only [wr64,W7]|refine bo (fun _=>?_) fun _=>?_|refine im fun _=>?_|refine cF ?_|refine om ?_|refine an ?_|fail) <;> try simp only [zN,zT,zV,zS,zU,Q0,Q1,ex,Q2,Q3,Q4,Q5,Q6,Q7,Q8,Q9,QA,QB,QC,W0,W1,W2,W3,W4,W5,W6,reduceIte]))
  refine AWPC.loopI 8 l.length (fun i=>orL (l.drop i)=orL l) (by simp) ?_ ?_
  · (simp only [zN,zT,zV,zS,zU,Q0,Q1,ex,Q2,Q3,Q4,Q5,Q6,Q7,Q8,Q9,QA,QB,QC,W0,W1,W2,W3,W4,W5,W6,reduceIte]; try simp)
  · intro i hi hI
    by_cases hlt:i < l.length
    · have hx:(l.map fun z=>[n z]).getD i []=[n (l.getD i 0)]:=row (f:=fun z=>[n z]) 0 hlt
      rw [drop_cons (getD_lt 0 hlt),orL] at hI
      generalize l.getD i 0=x at hx hI
      (repeat' ((first|refine vn rfl ?_|simp (disch:=omega) only [wr64,W7]|refine bo (fun _=>?_) fun _=>?_|refine im fun _=>?_|refine cF ?_|refine om ?_|refine an ?_|fail) <;> try simp only [zN,zT,zV,zS,zU,Q0,Q1,ex,Q2,Q3,Q4,Q5,Q6,Q7,Q8,Q9,QA,QB,QC,W0,W1,W2,W3,W4,W5,W6,reduceIte,hx]))
      all_goals try (exfalso; omega)
      · rename_i h
        rw [if_neg h] at hI
        rw [← hI]; exact Frz.eq rfl (by simp)
      · rename_i h
        rw [if_pos h] at hI
        exact ⟨⟨i+1,hlt,hI⟩,by simp,by simp only; omega⟩
    · obtain rfl:i=l.length:=by omega
      rw [List.drop_length] at hI
      (repeat' ((first|refine vn rfl ?_|simp (disch:=omega) only [wr64,W7]|refine bo (fun _=>?_) fun _=>?_|refine im fun _=>?_|refine cF ?_|refine om ?_|refine an ?_|fail) <;> try simp only [zN,zT,zV,zS,zU,Q0,Q1,ex,Q2,Q3,Q4,Q5,Q6,Q7,Q8,Q9,QA,QB,QC,W0,W1,W2,W3,W4,W5,W6,reduceIte]))
      all_goals try (exfalso; omega)
      rw [← hI]; exact Frz.eq rfl (by simp)
theorem compareNames_spec (a b:Nm):Pure Tryz.prog 107 [.agg a.cs,.agg b.cs] (n (cmpN a b)):=by
  refine Pure.of_body Tryz.call107 Tryz.func107 k107 (Nat.le_of_ble_eq_true rfl) ?_
  unfold c107
  have h1:=Compare_spec a.clerk b.clerk
  have h2:=Compare_spec a.num b.num
  have h3:=Or_spec [sgn a.clerk b.clerk,sgn a.num b.num] (by simp)
  (repeat' ((first|refine vn rfl ?_|simp (disch:=omega) only [wr64,W7]|refine bo (fun _=>?_) fun _=>?_|refine im fun _=>?_|((repeat refine si ?_); (first|((first|refine .inl ⟨_,_,_,_,rfl,fun _=>pu (by first|exact h1|exact h2|exact h3),?_⟩|refine ⟨_,_,_,_,rfl,fun _=>pu (by first|exact h1|exact h2|exact h3),?_⟩); (first|refine o1 ?_|refine o2 ?_|refine o3 ?_|refine o4 ?_)) | refine .inl ⟨_,_,_,_,rfl,pu (by first|exact h1|exact h2|exact h3),?_⟩))|refine cF ?_|refine om ?_|refine an ?_|fail) <;> try simp only [zN,zT,zV,zS,zU,Q0,Q1,ex,Q2,Q3,Q4,Q5,Q6,Q7,Q8,Q9,QA,QB,QC,W0,W1,W2,W3,W4,W5,W6,reduceIte]))
  refine Frz.eq (congrArg n ?_) (by simp)
  unfold cmpN orI orL
  by_cases h:sgn a.clerk b.clerk=0 <;> simp [h,orL]
  by_cases h':sgn a.num b.num=0 <;> simp [h']
theorem compare_spec (a b:Nt):Pure Tryz.prog 114 [.agg a.cs,.agg b.cs] (n (cmpT a b)):=by
  refine Pure.of_body Tryz.call114 Tryz.func114 k114 (Nat.le_of_ble_eq_true rfl) ?_
  unfold c114
  have h1:=Compare_spec a.day b.day
  have h2:=Compare_spec a.clock b.clock
  have h4:=compareNames_spec a.nm b.nm
  have h3:=Or_spec [sgn a.day b.day,sgn a.clock b.clock,cmpN a.nm b.nm] (by simp)
  (repeat' ((first|refine vn rfl ?_|simp (disch:=omega) only [wr64,W7]|refine bo (fun _=>?_) fun _=>?_|refine im fun _=>?_|((repeat refine si ?_); (first|((first|refine .inl ⟨_,_,_,_,rfl,fun _=>pu (by first|exact h1|exact h2|exact h3|exact h4|exact name_spec a|exact name_spec b),?_⟩|refine ⟨_,_,_,_,rfl,fun _=>pu (by first|exact h1|exact h2|exact h3|exact h4|exact name_spec a|exact name_spec b),?_⟩); (first|refine o1 ?_|refine o2 ?_|refine o3 ?_|refine o4 ?_)) | refine .inl ⟨_,_,_,_,rfl,pu (by first|exact h1|exact h2|exact h3|exact h4|exact name_spec a|exact name_spec b),?_⟩))|refine cF ?_|refine om ?_|refine an ?_|fail) <;> try simp only [zN,zT,zV,zS,zU,Q0,Q1,ex,Q2,Q3,Q4,Q5,Q6,Q7,Q8,Q9,QA,QB,QC,W0,W1,W2,W3,W4,W5,W6,reduceIte]))
  refine Frz.eq (congrArg n ?_) (by simp)
  unfold cmpT orI
  simp only [orL]
  by_cases h:sgn a.day b.day=0 <;> simp [h]
  by_cases h':sgn a.clock b.clock=0 <;> simp [h']
  by_cases h'':cmpN a.nm b.nm=0 <;> simp [h'']
theorem Before_spec (a b:Nt):Pure Tryz.prog 47 [.agg a.cs,.agg b.cs] (bl (decide (cmpT a b < 0))):=by
  refine Pure.of_body Tryz.call47 Tryz.func47 k47 (Nat.le_of_ble_eq_true rfl) ?_
  unfold c47
  (repeat' ((first|refine vn rfl ?_|simp (disch:=omega) only [wr64,W7]|refine bo (fun _=>?_) fun _=>?_|refine im fun _=>?_|((repeat refine si ?_); (first|((first|refine .inl ⟨_,_,_,_,rfl,fun _=>pu (compare_spec a b),?_⟩|refine ⟨_,_,_,_,rfl,fun _=>pu (compare_spec a b),?_⟩); (first|refine o1 ?_|refine o2 ?_|refine o3 ?_|refine o4 ?_)) | refine .inl ⟨_,_,_,_,rfl,pu (compare_spec a b),?_⟩))|refine cF ?_|refine om ?_|refine an ?_|fail) <;> try simp only [zN,zT,zV,zS,zU,Q0,Q1,ex,Q2,Q3,Q4,Q5,Q6,Q7,Q8,Q9,QA,QB,QC,W0,W1,W2,W3,W4,W5,W6,reduceIte]))
  all_goals exact Frz.eq rfl (by simp)
def c230:CF:=⟨9,
 (.seq (.ops [
 ⟨some 2,.box false 109 4 (.t 0),none⟩,
 ⟨some 4,.mv (.c (.int .i64 0)),none⟩] [1,2])
 (.seq (.ops [
 ⟨some 5,.faddr 0 (.t 2),none⟩,
 ⟨some 6,.load none (.t 5),none⟩,
 ⟨some 7,.mv (.t 1),none⟩,
 ⟨some 8,.call (.f 101) [(.t 6),(.t 7)],none⟩,
 ⟨some 4,.mv (.t 8),none⟩] [4])
 .ret)),
 [.t 4]⟩
theorem k230:chkF Tryz.prog Tryz.f230 c230=true:=by kernel_rfl
def c247:CF:=⟨10,
 (.seq (.ops [
 ⟨some 3,.box false 109 4 (.t 0),none⟩,
 ⟨some 4,.mv (.c (.bool false)),none⟩] [1,2,3])
 (.seq (.ops [
 ⟨some 5,.load none (.t 1),none⟩,
 ⟨some 6,.load (some 4) (.t 3),none⟩,
 ⟨some 7,.load none (.t 2),none⟩,
 ⟨some 8,.call (.t 5) [(.t 6),(.t 7)],none⟩,
 ⟨some 9,.bin .eql (.t 8) (.c (.int .i64 0)),none⟩,
 ⟨some 4,.mv (.t 9),none⟩] [4])
 .ret)),
 [.t 4]⟩
theorem k247:chkF Tryz.prog Tryz.f247 c247=true:=by kernel_rfl
def c229:CF:=⟨12,
 (.seq (.ops [
 ⟨some 4,.box false 3 1 (.t 1),none⟩,
 ⟨some 5,.box false 282 1 (.t 2),none⟩,
 ⟨some 6,.mv (.c (.int .i64 0)),none⟩] [0,4,5])
 (.seq (.ops [
 ⟨some 8,.mv (.t 0),none⟩,
 ⟨some 9,.mkfn (.func 247) [] [(.t 5),(.t 4)],none⟩,
 ⟨some 10,.call (.f 246) [(.t 8),(.t 9)],none⟩,
 ⟨some 7,.mv (.t 10),none⟩] [7])
 (.seq (.ops [
 ⟨some 11,.mv (.t 7),none⟩,
 ⟨some 6,.mv (.t 11),none⟩] [6])
 .ret))),
 [.t 6]⟩
theorem k229:chkF Tryz.prog Tryz.f229 c229=true:=by kernel_rfl
def c192:CF:=⟨23,
 (.seq (.ops [
 ⟨some 4,.mv (.c (.int .i64 0)),none⟩,
 ⟨some 5,.mv (.c (.int .i64 0)),none⟩] [0,1])
 (.seq (.seq (.ops [
 ⟨some 10,.mv (.t 0),none⟩,
 ⟨some 11,.call (.f 55) [(.t 10)],none⟩,
 ⟨some 9,.mv (.t 11),none⟩,
 ⟨some 12,.ext 0 (.t 9),none⟩,
 ⟨some 13,.ext 1 (.t 9),none⟩,
 ⟨some 6,.mv (.t 12),none⟩,
 ⟨some 7,.mv (.t 13),none⟩] [0,1,6])
 (.seq (.ops [
 ⟨some 14,.mv (.t 6),none⟩,
 ⟨some 15,.bin .neq (.t 14) (.c (.int .i64 0)),none⟩] [0,1,6,15])
 (.cond (.t 15) (.seq (.ops [
 ⟨some 16,.mv (.t 6),none⟩,
 ⟨some 4,.mv (.c (.int .i64 0)),none⟩,
 ⟨some 5,.mv (.t 16),none⟩] [4,5])
 .ret)
 .skip)))
 (.seq (.ops [
 ⟨some 17,.mv (.t 0),none⟩,
 ⟨some 18,.mv (.t 1),none⟩,
 ⟨some 19,.call (.f 229) [(.t 17),(.t 18),(.f 230)],none⟩,
 ⟨some 8,.mv (.t 19),none⟩] [8])
 (.seq (.seq (.ops [
 ⟨some 20,.mv (.t 8),none⟩,
 ⟨some 21,.bin .lss (.t 20) (.c (.int .i64 0)),none⟩] [8,21])
 (.cond (.t 21) (.seq (.ops [
 ⟨some 4,.mv (.c (.int .i64 0)),none⟩,
 ⟨some 5,.mv (.c (.int .i64 50)),none⟩] [4,5])
 .ret)
 .skip))
 (.seq (.ops [
 ⟨some 22,.mv (.t 8),none⟩,
 ⟨some 4,.mv (.t 22),none⟩,
 ⟨some 5,.mv (.c (.int .i64 0)),none⟩] [4,5])
 .ret))))),
 [.t 4,.t 5]⟩
theorem k192:chkF Tryz.prog Tryz.f192 c192=true:=by kernel_rfl
def c276:CF:=⟨22,
 (.seq (.ops [
 ⟨some 3,.box false 26 6 (.t 0),none⟩,
 ⟨some 6,.mv (.c (.bool false)),none⟩] [1,2,3])
 (.seq (.ops [
 ⟨some 10,.faddr 0 (.t 3),none⟩,
 ⟨some 11,.load none (.t 10),none⟩,
 ⟨some 12,.mv (.t 1),none⟩,
 ⟨some 13,.call (.f 192) [(.t 11),(.t 12)],none⟩,
 ⟨some 9,.mv (.t 13),none⟩,
 ⟨some 14,.ext 0 (.t 9),none⟩,
 ⟨some 15,.ext 1 (.t 9),none⟩,
 ⟨some 7,.mv (.t 14),none⟩,
 ⟨some 8,.mv (.t 15),none⟩] [2,8])
 (.seq (.ops [
 ⟨some 16,.mv (.t 8),none⟩,
 ⟨some 17,.bin .eql (.t 16) (.c (.int .i64 0)),none⟩,
 ⟨some 18,.mv (.t 17),none⟩,
 ⟨some 19,.mv (.t 2),some (18,true)⟩,
 ⟨some 20,.call (.f 96) [(.t 19),(.c (.int .i64 0)),(.c (.int .i64 10000))],some (18,true)⟩,
 ⟨some 21,.pick (.t 18) (.t 20) (.c (.bool false)),none⟩,
 ⟨some 6,.mv (.t 21),none⟩] [6])
 .ret))),
 [.t 6]⟩
theorem k276:chkF Tryz.prog Tryz.f276 c276=true:=by kernel_rfl
def c289:CF:=⟨23,
 (.seq (.ops [
 ⟨some 2,.box false 26 6 (.t 0),none⟩,
 ⟨some 3,.box false 64 5 (.t 1),none⟩,
 ⟨some 4,.mv (.c (.bool false)),none⟩] [2,3])
 (.seq (.ops [
 ⟨some 5,.load (some 6) (.t 2),none⟩,
 ⟨some 6,.faddr 0 (.t 3),none⟩,
 ⟨some 7,.load none (.t 6),none⟩,
 ⟨some 8,.faddr 1 (.t 3),none⟩,
 ⟨some 9,.load none (.t 8),none⟩,
 ⟨some 10,.call (.f 276) [(.t 5),(.t 7),(.t 9)],none⟩,
 ⟨some 11,.mv (.t 10),none⟩,
 ⟨some 12,.faddr 2 (.t 3),some (11,true)⟩,
 ⟨some 13,.load none (.t 12),some (11,true)⟩,
 ⟨some 14,.faddr 4 (.t 2),some (11,true)⟩,
 ⟨some 15,.load none (.t 14),some (11,true)⟩,
 ⟨some 16,.call (.f 96) [(.t 13),(.c (.int .i64 0)),(.t 15)],some (11,true)⟩,
 ⟨some 17,.pick (.t 11) (.t 16) (.c (.bool false)),none⟩,
 ⟨some 18,.mv (.t 17),none⟩,
 ⟨some 19,.faddr 3 (.t 3),some (18,true)⟩,
 ⟨some 20,.load (some 2) (.t 19),some (18,true)⟩,
 ⟨some 21,.call (.f 287) [(.t 20),(.c (.int .i64 0)),(.c (.int .i64 12000))],some (18,true)⟩,
 ⟨some 22,.pick (.t 18) (.t 21) (.c (.bool false)),none⟩,
 ⟨some 4,.mv (.t 22),none⟩] [4])
 .ret)),
 [.t 4]⟩
theorem k289:chkF Tryz.prog Tryz.f289 c289=true:=by kernel_rfl
def c43:CF:=⟨39,
 (.seq (.ops [
 ⟨some 1,.box false 26 6 (.t 0),none⟩,
 ⟨some 2,.mv (.c (.int .i64 0)),none⟩] [1])
 (.seq (.ops [
 ⟨some 6,.faddr 0 (.t 1),none⟩,
 ⟨some 7,.load none (.t 6),none⟩,
 ⟨some 8,.call (.f 55) [(.t 7)],none⟩,
 ⟨some 5,.mv (.t 8),none⟩,
 ⟨some 9,.ext 0 (.t 5),none⟩,
 ⟨some 10,.ext 1 (.t 5),none⟩,
 ⟨some 3,.mv (.t 9),none⟩,
 ⟨some 4,.mv (.t 10),none⟩] [1,3])
 (.seq (.seq (.ops [
 ⟨some 11,.mv (.t 3),none⟩,
 ⟨some 12,.bin .neq (.t 11) (.c (.int .i64 0)),none⟩,
 ⟨some 13,.mv (.t 12),none⟩,
 ⟨some 14,.faddr 1 (.t 1),some (13,false)⟩,
 ⟨some 15,.load (some 2) (.t 14),some (13,false)⟩,
 ⟨some 16,.call (.f 110) [(.t 15)],some (13,false)⟩,
 ⟨some 17,.bin .neq (.t 16) (.c (.int .i64 0)),some (13,false)⟩,
 ⟨some 18,.pick (.t 13) (.c (.bool true)) (.t 17),none⟩,
 ⟨some 19,.mv (.t 18),none⟩,
 ⟨some 20,.faddr 4 (.t 1),some (19,false)⟩,
 ⟨some 21,.load none (.t 20),some (19,false)⟩,
 ⟨some 22,.call (.f 96) [(.t 21),(.c (.int .i64 1)),(.c (.int .i64 400))],some (19,false)⟩,
 ⟨some 23,.un .not (.t 22),some (19,false)⟩,
 ⟨some 24,.pick (.t 19) (.c (.bool true)) (.t 23),none⟩,
 ⟨some 25,.mv (.t 24),none⟩,
 ⟨some 26,.faddr 3 (.t 1),some (25,false)⟩,
 ⟨some 27,.load none (.t 26),some (25,false)⟩,
 ⟨some 28,.faddr 4 (.t 1),some (25,false)⟩,
 ⟨some 29,.load none (.t 28),some (25,false)⟩,
 ⟨some 30,.call (.f 96) [(.t 27),(.c (.int .i64 0)),(.t 29)],some (25,false)⟩,
 ⟨some 31,.un .not (.t 30),some (25,false)⟩,
 ⟨some 32,.pick (.t 25) (.c (.bool true)) (.t 31),none⟩,
 ⟨some 33,.mv (.t 32),none⟩,
 ⟨some 34,.faddr 5 (.t 1),some (33,false)⟩,
 ⟨some 35,.load none (.t 34),some (33,false)⟩,
 ⟨some 36,.call (.f 96) [(.t 35),(.c (.int .i64 1)),(.c (.int .i64 8))],some (33,false)⟩,
 ⟨some 37,.un .not (.t 36),some (33,false)⟩,
 ⟨some 38,.pick (.t 33) (.c (.bool true)) (.t 37),none⟩] [38])
 (.cond (.t 38) (.seq (.ops [
 ⟨some 2,.mv (.c (.int .i64 100)),none⟩] [2])
 .ret)
 .skip))
 (.seq (.ops [
 ⟨some 2,.mv (.c (.int .i64 0)),none⟩] [2])
 .ret)))),
 [.t 2]⟩
theorem k43:chkF Tryz.prog Tryz.f43 c43=true:=by kernel_rfl
def c278:CF:=⟨72,
 (.seq (.ops [
 ⟨some 1,.box false 60 18 (.t 0),none⟩,
 ⟨some 2,.mv (.c (.bool false)),none⟩] [1])
 (.seq (.ops [
 ⟨some 8,.faddr 10 (.t 1),none⟩,
 ⟨some 9,.load none (.t 8),none⟩,
 ⟨some 10,.call (.f 279) [(.t 9)],none⟩,
 ⟨some 7,.mv (.t 10),none⟩,
 ⟨some 11,.ext 0 (.t 7),none⟩,
 ⟨some 12,.ext 1 (.t 7),none⟩,
 ⟨some 3,.mv (.t 11),none⟩,
 ⟨some 4,.mv (.t 12),none⟩] [1,3])
 (.seq (.seq (.ops [
 ⟨some 13,.mv (.t 3),none⟩,
 ⟨some 14,.bin .neq (.t 13) (.c (.int .i64 0)),none⟩,
 ⟨some 15,.mv (.t 14),none⟩,
 ⟨some 16,.faddr 0 (.t 1),some (15,false)⟩,
 ⟨some 17,.load (some 10) (.t 16),some (15,false)⟩,
 ⟨some 18,.call (.f 280) [(.t 17)],some (15,false)⟩,
 ⟨some 19,.bin .neq (.t 18) (.c (.int .i64 0)),some (15,false)⟩,
 ⟨some 20,.pick (.t 15) (.c (.bool true)) (.t 19),none⟩,
 ⟨some 21,.mv (.t 20),none⟩,
 ⟨some 22,.faddr 12 (.t 1),some (21,false)⟩,
 ⟨some 23,.load (some 2) (.t 22),some (21,false)⟩,
 ⟨some 24,.call (.f 118) [(.t 23)],some (21,false)⟩,
 ⟨some 25,.bin .neq (.t 24) (.c (.int .i64 0)),some (21,false)⟩,
 ⟨some 26,.pick (.t 21) (.c (.bool true)) (.t 25),none⟩,
 ⟨some 27,.mv (.t 26),none⟩,
 ⟨some 28,.faddr 14 (.t 1),some (27,false)⟩,
 ⟨some 29,.load (some 4) (.t 28),some (27,false)⟩,
 ⟨some 30,.call (.f 281) [(.t 29)],some (27,false)⟩,
 ⟨some 31,.bin .neq (.t 30) (.c (.int .i64 0)),some (27,false)⟩,
 ⟨some 32,.pick (.t 27) (.c (.bool true)) (.t 31),none⟩] [1,32])
 (.cond (.t 32) (.seq (.ops [
 ⟨some 2,.mv (.c (.bool false)),none⟩] [2])
 .ret)
 .skip))
 (.seq (.seq (.ops [
 ⟨some 33,.faddr 11 (.t 1),none⟩,
 ⟨some 34,.load none (.t 33),none⟩,
 ⟨some 35,.len (.t 34),none⟩,
 ⟨some 36,.mv (.c (.int .i64 0)),none⟩] [1,34,35,36])
 (.block 0 (.loop (.seq (.ops [
 ⟨some 37,.bin .lss (.t 36) (.t 35),none⟩] [1,34,35,36,37])
 (.seq (.cond (.t 37) .skip
 (.exit 0))
 (.seq (.block 1 (.seq (.ops [
 ⟨some 38,.mv (.t 36),none⟩,
 ⟨some 39,.iaddr 1 (.t 34) (.t 36),none⟩,
 ⟨some 40,.load none (.t 39),none⟩,
 ⟨some 5,.mv (.t 38),none⟩,
 ⟨some 6,.mv (.t 40),none⟩] [1,5,6,34,35,36])
 (.seq (.ops [
 ⟨some 41,.mv (.t 6),none⟩,
 ⟨some 42,.faddr 0 (.t 1),none⟩,
 ⟨some 43,.faddr 5 (.t 42),none⟩,
 ⟨some 44,.load none (.t 43),none⟩,
 ⟨some 45,.bin .sub (.t 44) (.c (.int .i64 1)),none⟩,
 ⟨some 46,.call (.f 96) [(.t 41),(.c (.int .i64 0)),(.t 45)],none⟩,
 ⟨some 47,.un .not (.t 46),none⟩,
 ⟨some 48,.mv (.t 47),none⟩,
 ⟨some 49,.mv (.t 5),some (48,false)⟩,
 ⟨some 50,.bin .gtr (.t 49) (.c (.int .i64 0)),some (48,false)⟩,
 ⟨some 51,.mv (.t 50),some (48,false)⟩,
 ⟨some 52,.mv (.t 6),some (51,true)⟩,
 ⟨some 53,.faddr 11 (.t 1),some (51,true)⟩,
 ⟨some 54,.load none (.t 53),some (51,true)⟩,
 ⟨some 55,.mv (.t 5),some (51,true)⟩,
 ⟨some 56,.bin .sub (.t 55) (.c (.int .i64 1)),some (51,true)⟩,
 ⟨some 57,.iaddr 1 (.t 54) (.t 56),some (51,true)⟩,
 ⟨some 58,.load none (.t 57),some (51,true)⟩,
 ⟨some 59,.bin .leq (.t 52) (.t 58),some (51,true)⟩,
 ⟨some 60,.pick (.t 51) (.t 59) (.c (.bool false)),some (48,false)⟩,
 ⟨some 61,.pick (.t 48) (.c (.bool true)) (.t 60),none⟩] [1,34,35,36,61])
 (.cond (.t 61) (.seq (.ops [
 ⟨some 2,.mv (.c (.bool false)),none⟩] [2])
 .ret)
 .skip))))
 (.ops [
 ⟨some 62,.bin .add (.t 36) (.c (.int .i64 1)),none⟩,
 ⟨some 36,.mv (.t 62),none⟩] [1,34,35,36])))))))
 (.seq (.ops [
 ⟨some 63,.faddr 12 (.t 1),none⟩,
 ⟨some 64,.faddr 0 (.t 63),none⟩,
 ⟨some 65,.load none (.t 64),none⟩,
 ⟨some 66,.len (.t 65),none⟩,
 ⟨some 67,.bin .add (.t 66) (.c (.int .i64 1)),none⟩,
 ⟨some 68,.faddr 0 (.t 1),none⟩,
 ⟨some 69,.faddr 5 (.t 68),none⟩,
 ⟨some 70,.load none (.t 69),none⟩,
 ⟨some 71,.bin .eql (.t 67) (.t 70),none⟩,
 ⟨some 2,.mv (.t 71),none⟩] [2])
 .ret))))),
 [.t 2]⟩
theorem k278:chkF Tryz.prog Tryz.f278 c278=true:=by kernel_rfl
theorem sgn0 {a b:Int}:sgn a b=0↔a=b:=by unfold sgn; repeat' split <;> omega
theorem stnCmp_spec (s:Stn) (id:Int):Pure Tryz.prog 230 [.agg s.cs,n id] (n (sgn s.id id)):=by
  refine Pure.of_body Tryz.call230 Tryz.func230 k230 (Nat.le_of_ble_eq_true rfl) ?_
  unfold c230
  (repeat' ((first|refine vn rfl ?_|simp (disch:=omega) only [wr64,W7]|refine bo (fun _=>?_) fun _=>?_|refine im fun _=>?_|((repeat refine si ?_); (first|((first|refine .inl ⟨_,_,_,_,rfl,fun _=>pu (Compare_spec s.id id),?_⟩|refine ⟨_,_,_,_,rfl,fun _=>pu (Compare_spec s.id id),?_⟩); (first|refine o1 ?_|refine o2 ?_|refine o3 ?_|refine o4 ?_)) | refine .inl ⟨_,_,_,_,rfl,pu (Compare_spec s.id id),?_⟩))|refine cF ?_|refine om ?_|refine an ?_|fail) <;> try simp only [zN,zT,zV,zS,zU,Q0,Q1,ex,Q2,Q3,Q4,Q5,Q6,Q7,Q8,Q9,QA,QB,QC,W0,W1,W2,W3,W4,W5,W6,reduceIte]))
  all_goals exact Frz.eq rfl (by simp)
theorem soughtC_spec (s:Stn) (id:Int):Pure Tryz.prog 247 [.agg s.cs,.iptr [.fn (.func 230) [] []] 0,.iptr [n id] 0] (bl (s.id == id)):=by
  refine Pure.of_body Tryz.call247 Tryz.func247 k247 (Nat.le_of_ble_eq_true rfl) ?_
  unfold c247
  (repeat' ((first|refine vn rfl ?_|simp (disch:=omega) only [wr64,W7]|refine bo (fun _=>?_) fun _=>?_|refine im fun _=>?_|((repeat refine si ?_); (first|((first|refine .inl ⟨_,_,_,_,rfl,fun _=>pu (stnCmp_spec s id),?_⟩|refine ⟨_,_,_,_,rfl,fun _=>pu (stnCmp_spec s id),?_⟩); (first|refine o1 ?_|refine o2 ?_|refine o3 ?_|refine o4 ?_)) | refine .inl ⟨_,_,_,_,rfl,pu (stnCmp_spec s id),?_⟩))|refine cF ?_|refine om ?_|refine an ?_|fail) <;> try simp only [zN,zT,zV,zS,zU,Q0,Q1,ex,Q2,Q3,Q4,Q5,Q6,Q7,Q8,Q9,QA,QB,QC,W0,W1,W2,W3,W4,W5,W6,reduceIte]))
  refine Frz.eq (congrArg bl ?_) (by simp)
  rw [Bool.eq_iff_iff]; simp [sgn0]
theorem sought_spec (l:List Stn) (hl:l.length < 9223372036854775808) (id:Int):Pure Tryz.prog 229 [snS l,n id,.fn (.func 230) [] []] (n (fidx (fun s=>s.id == id) 0 l)):=by
  refine Pure.of_body Tryz.call229 Tryz.func229 k229 (Nat.le_of_ble_eq_true rfl) ?_
  unfold c229
  (repeat' ((first|refine vn rfl ?_|simp (disch:=omega) only [wr64,W7]|refine bo (fun _=>?_) fun _=>?_|refine im fun _=>?_|((repeat refine si ?_); (first|((first|refine .inl ⟨_,_,_,_,rfl,fun _=>pu (indexStn 247 [.iptr [.fn (.func 230) [] []] 0,.iptr [n id] 0] (by simp) (fun s=>s.id == id) l hl (fun s _=>soughtC_spec s id)),?_⟩|refine ⟨_,_,_,_,rfl,fun _=>pu (indexStn 247 [.iptr [.fn (.func 230) [] []] 0,.iptr [n id] 0] (by simp) (fun s=>s.id == id) l hl (fun s _=>soughtC_spec s id)),?_⟩); (first|refine o1 ?_|refine o2 ?_|refine o3 ?_|refine o4 ?_)) | refine .inl ⟨_,_,_,_,rfl,pu (indexStn 247 [.iptr [.fn (.func 230) [] []] 0,.iptr [n id] 0] (by simp) (fun s=>s.id == id) l hl (fun s _=>soughtC_spec s id)),?_⟩))|refine cF ?_|refine om ?_|refine an ?_|fail) <;> try simp only [zN,zT,zV,zS,zU,Q0,Q1,ex,Q2,Q3,Q4,Q5,Q6,Q7,Q8,Q9,QA,QB,QC,W0,W1,W2,W3,W4,W5,W6,reduceIte]))
  all_goals exact Frz.eq rfl (by simp)
theorem StationOf_spec (l:List Stn) (hl:stnSz l) (id:Int):Pure Tryz.prog 192 [snS l,n id] (.tup [n (stnOf l id).1,n (stnOf l id).2]):=by
  refine Pure.of_body Tryz.call192 Tryz.func192 k192 (Nat.le_of_ble_eq_true rfl) ?_
  unfold c192
  have h1:=CheckStn_spec l hl
  have h2:=sought_spec l hl.1 id
  have hE:stnOf l id=if (stnsE l).1≠0 then (0,(stnsE l).1) else match l.findIdx? fun s=>s.id == id with
    | some i=>(i,0)
    | none=>(0,50):=rfl
  cases hf:l.findIdx? fun s=>s.id == id with
  | none =>
    have h3:=fidx_none.2 hf
    rw [hf] at hE
    generalize fidx (fun s:Stn=>s.id == id) 0 l=z at h2 h3
    (repeat' ((first|refine vn rfl ?_|simp (disch:=omega) only [wr64,W7]|refine bo (fun _=>?_) fun _=>?_|refine im fun _=>?_|((repeat refine si ?_); (first|((first|refine .inl ⟨_,_,_,_,rfl,fun _=>pu (by first|exact h1|exact h2),?_⟩|refine ⟨_,_,_,_,rfl,fun _=>pu (by first|exact h1|exact h2),?_⟩); (first|refine o1 ?_|refine o2 ?_|refine o3 ?_|refine o4 ?_)) | refine .inl ⟨_,_,_,_,rfl,pu (by first|exact h1|exact h2),?_⟩))|refine cF ?_|refine om ?_|refine an ?_|fail) <;> try simp only [zN,zT,zV,zS,zU,Q0,Q1,ex,Q2,Q3,Q4,Q5,Q6,Q7,Q8,Q9,QA,QB,QC,W0,W1,W2,W3,W4,W5,W6,reduceIte]))
    all_goals try (exfalso; omega)
    · rename_i h; rw [hE,if_pos h]; exact Frz.eq rfl (by simp)
    · rename_i h _; rw [hE,if_neg (by simpa using h)]; exact Frz.eq rfl (by simp)
  | some j =>
    rw [fidx_some hf] at h2
    rw [hf] at hE
    (repeat' ((first|refine vn rfl ?_|simp (disch:=omega) only [wr64,W7]|refine bo (fun _=>?_) fun _=>?_|refine im fun _=>?_|((repeat refine si ?_); (first|((first|refine .inl ⟨_,_,_,_,rfl,fun _=>pu (by first|exact h1|exact h2),?_⟩|refine ⟨_,_,_,_,rfl,fun _=>pu (by first|exact h1|exact h2),?_⟩); (first|refine o1 ?_|refine o2 ?_|refine o3 ?_|refine o4 ?_)) | refine .inl ⟨_,_,_,_,rfl,pu (by first|exact h1|exact h2),?_⟩))|refine cF ?_|refine om ?_|refine an ?_|fail) <;> try simp only [zN,zT,zV,zS,zU,Q0,Q1,ex,Q2,Q3,Q4,Q5,Q6,Q7,Q8,Q9,QA,QB,QC,W0,W1,W2,W3,W4,W5,W6,reduceIte]))
    all_goals try (exfalso; omega)
    · rename_i h; rw [hE,if_pos h]; exact Frz.eq rfl (by simp)
    · rename_i h _; rw [hE,if_neg (by simpa using h)]; exact Frz.eq rfl (by simp)
def bseSz (b:Bse):Prop:=stnSz b.stns
theorem placed_spec (b:Bse) (hb:bseSz b) (s w:Int):Pure Tryz.prog 276 [.agg b.cs,n s,n w] (bl (decide (placed b s w))):=by
  refine Pure.of_body Tryz.call276 Tryz.func276 k276 (Nat.le_of_ble_eq_true rfl) ?_
  unfold c276
  (repeat' ((first|refine vn rfl ?_|simp (disch:=omega) only [wr64,W7]|refine bo (fun _=>?_) fun _=>?_|refine im fun _=>?_|((repeat refine si ?_); (first|((first|refine .inl ⟨_,_,_,_,rfl,fun _=>pu (by first|exact StationOf_spec b.stns hb s|exact within_a w 0 10000),?_⟩|refine ⟨_,_,_,_,rfl,fun _=>pu (by first|exact StationOf_spec b.stns hb s|exact within_a w 0 10000),?_⟩); (first|refine o1 ?_|refine o2 ?_|refine o3 ?_|refine o4 ?_)) | refine .inl ⟨_,_,_,_,rfl,pu (by first|exact StationOf_spec b.stns hb s|exact within_a w 0 10000),?_⟩))|refine cF ?_|refine om ?_|refine an ?_|fail) <;> try simp only [zN,zT,zV,zS,zU,Q0,Q1,ex,Q2,Q3,Q4,Q5,Q6,Q7,Q8,Q9,QA,QB,QC,W0,W1,W2,W3,W4,W5,W6,reduceIte]))
  all_goals exact Frz.eq (congrArg bl (by unfold placed; first | rfl | (rw [Bool.eq_iff_iff]; simp <;> try omega))) (by simp)
theorem rightRead_spec (b:Bse) (hb:bseSz b) (r:Rd):Pure Tryz.prog 289 [.agg b.cs,.agg r.cs] (bl (decide (r.ok b))):=by
  refine Pure.of_body Tryz.call289 Tryz.func289 k289 (Nat.le_of_ble_eq_true rfl) ?_
  unfold c289
  have h1:=placed_spec b hb r.stn r.week
  have hd:r.ok b↔placed b r.stn r.week∧inr r.tick 0 b.ticks∧spIn r.levels 0 12000:=Iff.rfl
  by_cases hp:placed b r.stn r.week
  · rw [decide_eq_true hp] at h1
    (repeat' ((first|refine vn rfl ?_|simp (disch:=omega) only [wr64,W7]|refine bo (fun _=>?_) fun _=>?_|refine im fun _=>?_|((repeat refine si ?_); (first|((first|refine .inl ⟨_,_,_,_,rfl,fun _=>pu (by first|exact h1|exact within_a r.tick 0 b.ticks|exact span_a r.levels 0 12000),?_⟩|refine ⟨_,_,_,_,rfl,fun _=>pu (by first|exact h1|exact within_a r.tick 0 b.ticks|exact span_a r.levels 0 12000),?_⟩); (first|refine o1 ?_|refine o2 ?_|refine o3 ?_|refine o4 ?_)) | refine .inl ⟨_,_,_,_,rfl,pu (by first|exact h1|exact within_a r.tick 0 b.ticks|exact span_a r.levels 0 12000),?_⟩))|refine cF ?_|refine om ?_|refine an ?_|fail) <;> try simp only [zN,zT,zV,zS,zU,Q0,Q1,ex,Q2,Q3,Q4,Q5,Q6,Q7,Q8,Q9,QA,QB,QC,W0,W1,W2,W3,W4,W5,W6,reduceIte]))
    all_goals refine Frz.eq (congrArg bl ?_) (by simp)
    all_goals (rw [Bool.eq_iff_iff]; simp [hd,hp])
  · rw [decide_eq_false hp] at h1
    (repeat' ((first|refine vn rfl ?_|simp (disch:=omega) only [wr64,W7]|refine bo (fun _=>?_) fun _=>?_|refine im fun _=>?_|((repeat refine si ?_); (first|((first|refine .inl ⟨_,_,_,_,rfl,fun _=>pu (by first|exact h1|exact within_a r.tick 0 b.ticks|exact span_a r.levels 0 12000),?_⟩|refine ⟨_,_,_,_,rfl,fun _=>pu (by first|exact h1|exact within_a r.tick 0 b.ticks|exact span_a r.levels 0 12000),?_⟩); (first|refine o1 ?_|refine o2 ?_|refine o3 ?_|refine o4 ?_)) | refine .inl ⟨_,_,_,_,rfl,pu (by first|exact h1|exact within_a r.tick 0 b.ticks|exact span_a r.levels 0 12000),?_⟩))|refine cF ?_|refine om ?_|refine an ?_|fail) <;> try simp only [zN,zT,zV,zS,zU,Q0,Q1,ex,Q2,Q3,Q4,Q5,Q6,Q7,Q8,Q9,QA,QB,QC,W0,W1,W2,W3,W4,W5,W6,reduceIte]))
    all_goals refine Frz.eq (congrArg bl ?_) (by simp)
    all_goals (rw [Bool.eq_iff_iff]; simp [hd,hp])
theorem CheckBase_spec (b:Bse) (hb:bseSz b):Pure Tryz.prog 43 [.agg b.cs] (n (if b.ok then 0 else 100)):=by
  refine Pure.of_body Tryz.call43 Tryz.func43 k43 (Nat.le_of_ble_eq_true rfl) ?_
  unfold c43
  have h1:=CheckWind_spec b.fixed b.each
  (repeat' ((first|refine vn rfl ?_|simp (disch:=omega) only [wr64,W7]|refine bo (fun _=>?_) fun _=>?_|refine im fun _=>?_|((repeat refine si ?_); (first|((first|refine .inl ⟨_,_,_,_,rfl,fun _=>pu (by first|exact CheckStn_spec b.stns hb|exact h1|exact within_a b.ticks 1 400|exact within_a b.term 0 b.ticks|exact within_a b.clerks 1 8),?_⟩|refine ⟨_,_,_,_,rfl,fun _=>pu (by first|exact CheckStn_spec b.stns hb|exact h1|exact within_a b.ticks 1 400|exact within_a b.term 0 b.ticks|exact within_a b.clerks 1 8),?_⟩); (first|refine o1 ?_|refine o2 ?_|refine o3 ?_|refine o4 ?_)) | refine .inl ⟨_,_,_,_,rfl,pu (by first|exact CheckStn_spec b.stns hb|exact h1|exact within_a b.ticks 1 400|exact within_a b.term 0 b.ticks|exact within_a b.clerks 1 8),?_⟩))|refine cF ?_|refine om ?_|refine an ?_|fail) <;> try simp only [zN,zT,zV,zS,zU,Q0,Q1,ex,Q2,Q3,Q4,Q5,Q6,Q7,Q8,Q9,QA,QB,QC,W0,W1,W2,W3,W4,W5,W6,reduceIte]))
  all_goals try (exfalso; omega)
  · rename_i h
    rw [if_neg (fun g=>?_)]
    · exact Frz.eq rfl (by simp)
    · obtain ⟨g1,g2,g3,g4,g5,g6⟩:=g
      rw [if_pos ⟨g2,g3⟩] at h; omega
  · rename_i h
    have hw:inr b.fixed 0 12000∧inr b.each 0 10000:=Decidable.byContradiction fun hn=>by rw [if_neg hn] at h; omega
    rw [if_pos (by unfold Bse.ok; omega)]; exact Frz.eq rfl (by simp)
theorem rightSheet_spec (s:Sht) (hs:shtSz s):Pure Tryz.prog 278 [.agg s.cs] (bl (decide s.ok)):=by
  refine Pure.of_body Tryz.call278 Tryz.func278 k278 (Nat.le_of_ble_eq_true rfl) ?_
  unfold c278
  have h1:=CheckTrace_spec s.trace hs.1
  have h2:=CheckPaper_spec s.paper
  have h3:=CheckDrum_spec s.rates s.stops hs.2.2.1 hs.2.2.2
  have h4:=CheckPen_spec s.pen
  have hb:=hs.2.1
  have hr:=hs.2.2.1
  have hd:s.ok↔(traceE s.trace).1=0∧s.paper.ok∧drumOk s.rates s.stops∧s.pen.ok∧blotsOk s.paper.cols s.blots∧(s.rates.length:Int)+1=s.paper.cols:=Iff.rfl
  by_cases hall:(traceE s.trace).1=0∧s.paper.ok∧drumOk s.rates s.stops∧s.pen.ok
  · obtain ⟨g1,g2,g3,g4⟩:=hall
    rw [g1] at h1; rw [if_pos g2] at h2; rw [if_pos g3] at h3; rw [if_pos g4] at h4
    have hd2:s.ok↔blotsOk s.paper.cols s.blots∧(s.rates.length:Int)+1=s.paper.cols:=by rw [hd]; exact ⟨fun h=>h.2.2.2.2,fun h=>⟨g1,g2,g3,g4,h⟩⟩
    have hc:1≤s.paper.cols∧s.paper.cols≤200:=by unfold Ppr.ok at g2; omega
    have hr9:s.rates.length≤199:=by unfold drumOk at g3; omega
    (repeat' ((first|refine vn rfl ?_|simp (disch:=omega) only [wr64,W7]|refine bo (fun _=>?_) fun _=>?_|refine im fun _=>?_|((repeat refine si ?_); (first|((first|refine .inl ⟨_,_,_,_,rfl,fun _=>pu (by first|exact h1|exact h2|exact h3|exact h4),?_⟩|refine ⟨_,_,_,_,rfl,fun _=>pu (by first|exact h1|exact h2|exact h3|exact h4),?_⟩); (first|refine o1 ?_|refine o2 ?_|refine o3 ?_|refine o4 ?_)) | refine .inl ⟨_,_,_,_,rfl,pu (by first|exact h1|exact h2|exact h3|exact h4),?_⟩))|refine cF ?_|refine om ?_|refine an ?_|fail) <;> try simp only [zN,zT,zV,zS,zU,Q0,Q1,ex,Q2,Q3,Q4,Q5,Q6,Q7,Q8,Q9,QA,QB,QC,W0,W1,W2,W3,W4,W5,W6,reduceIte]))
    all_goals try (exfalso; omega)
    refine AWPC.loopI 36 s.blots.length (fun i=>∀ j,j < i→inr (s.blots.getD j 0) 0 (s.paper.cols - 1)∧(0 < j→s.blots.getD (j - 1) 0 < s.blots.getD j 0)) (by simp) ?_ ?_
    · (simp only [zN,zT,zV,zS,zU,Q0,Q1,ex,Q2,Q3,Q4,Q5,Q6,Q7,Q8,Q9,QA,QB,QC,W0,W1,W2,W3,W4,W5,W6,reduceIte]; try simp)
    · intro i hi hI
      by_cases hlt:i < s.blots.length
      · have hx:(s.blots.map fun z=>[n z]).getD i []=[n (s.blots.getD i 0)]:=row (f:=fun z=>[n z]) 0 hlt
        have hp:(s.blots.map fun z=>[n z]).getD ((i:Int) - 1).toNat []=[n (s.blots.getD (i - 1) 0)]:=rowPrev (f:=fun z=>[n z]) 0 hlt
        generalize hg:s.blots.getD i 0=x at hx
        generalize hg':s.blots.getD (i - 1) 0=y at hp
        (repeat' ((first|refine vn rfl ?_|simp (disch:=omega) only [wr64,W7]|refine bo (fun _=>?_) fun _=>?_|refine im fun _=>?_|((repeat refine si ?_); (first|((first|refine .inl ⟨_,_,_,_,rfl,fun _=>pu (within_a x 0 (s.paper.cols - 1)),?_⟩|refine ⟨_,_,_,_,rfl,fun _=>pu (within_a x 0 (s.paper.cols - 1)),?_⟩); (first|refine o1 ?_|refine o2 ?_|refine o3 ?_|refine o4 ?_)) | refine .inl ⟨_,_,_,_,rfl,pu (within_a x 0 (s.paper.cols - 1)),?_⟩))|refine cF ?_|refine om ?_|refine an ?_|fail) <;> try simp only [zN, zT, zV, zS, zU, Q0, Q1, ex, Q2, Q3, Q4, Q5, Q6, Q7, Q8, Q9, QA, QB, QC, W0, W1, W2, W3, W4, W5, W6, reduceIte, hx, hp]))
        all_goals try (exfalso; omega)
        · rename_i h
          rw [decide_eq_false fun g=>?_]
          · exact Frz.eq rfl (by simp)
          · have:=(hd2.1 g).1 i hlt
            rw [hg,hg'] at this
            omega
        · rename_i h
          exact ⟨⟨i+1,hlt,all_next hI (by rw [hg,hg']; omega)⟩,by simp,by simp only; omega⟩
      · obtain rfl:i=s.blots.length:=by omega
        (repeat' ((first|refine vn rfl ?_|simp (disch:=omega) only [wr64,W7]|refine bo (fun _=>?_) fun _=>?_|refine im fun _=>?_|refine cF ?_|refine om ?_|refine an ?_|fail) <;> try simp only [zN, zT, zV, zS, zU, Q0, Q1, ex, Q2, Q3, Q4, Q5, Q6, Q7, Q8, Q9, QA, QB, QC, W0, W1, W2, W3, W4, W5, W6, reduceIte]))
        all_goals try (exfalso; omega)
        refine Frz.eq (congrArg bl ?_) (by simp)
        rw [Bool.eq_iff_iff]; simp only [decide_eq_true_eq]
        rw [hd2]
        exact ⟨fun h=>⟨hI,h⟩,fun h=>h.2⟩
  · rw [decide_eq_false fun g=>hall (by rw [hd] at g; exact ⟨g.1,g.2.1,g.2.2.1,g.2.2.2.1⟩)]
    have hw:¬ ((traceE s.trace).1=0∧(if s.paper.ok then (0:Int) else 10)=0∧(if drumOk s.rates s.stops then (0:Int) else 20)=0∧(if s.pen.ok then (0:Int) else 30)=0):=by
      intro ⟨g1,g2,g3,g4⟩
      refine hall ⟨g1,?_,?_,?_⟩
      · exact Decidable.byContradiction fun hn=>by rw [if_neg hn] at g2; omega
      · exact Decidable.byContradiction fun hn=>by rw [if_neg hn] at g3; omega
      · exact Decidable.byContradiction fun hn=>by rw [if_neg hn] at g4; omega
    generalize (if s.paper.ok then (0:Int) else 10)=x2 at h2 hw
    generalize (if drumOk s.rates s.stops then (0:Int) else 20)=x3 at h3 hw
    generalize (if s.pen.ok then (0:Int) else 30)=x4 at h4 hw
    (repeat' ((first|refine vn rfl ?_|simp (disch:=omega) only [wr64,W7]|refine bo (fun _=>?_) fun _=>?_|refine im fun _=>?_|((repeat refine si ?_); (first|((first|refine .inl ⟨_,_,_,_,rfl,fun _=>pu (by first|exact h1|exact h2|exact h3|exact h4),?_⟩|refine ⟨_,_,_,_,rfl,fun _=>pu (by first|exact h1|exact h2|exact h3|exact h4),?_⟩); (first|refine o1 ?_|refine o2 ?_|refine o3 ?_|refine o4 ?_)) | refine .inl ⟨_,_,_,_,rfl,pu (by first|exact h1|exact h2|exact h3|exact h4),?_⟩))|refine cF ?_|refine om ?_|refine an ?_|fail) <;> try simp only [zN,zT,zV,zS,zU,Q0,Q1,ex,Q2,Q3,Q4,Q5,Q6,Q7,Q8,Q9,QA,QB,QC,W0,W1,W2,W3,W4,W5,W6,reduceIte]))
    all_goals first | (exfalso; omega)|exact Frz.eq rfl (by simp)
def c275:CF:=⟨23,
 (.seq (.ops [
 ⟨some 2,.box false 197 3 (.t 0),none⟩,
 ⟨some 3,.box false 26 6 (.t 1),none⟩,
 ⟨some 4,.mv (.c (.bool false)),none⟩] [2,3])
 (.seq (.ops [
 ⟨some 5,.load (some 6) (.t 3),none⟩,
 ⟨some 6,.faddr 1 (.t 2),none⟩,
 ⟨some 7,.load none (.t 6),none⟩,
 ⟨some 8,.faddr 2 (.t 2),none⟩,
 ⟨some 9,.load none (.t 8),none⟩,
 ⟨some 10,.call (.f 276) [(.t 5),(.t 7),(.t 9)],none⟩,
 ⟨some 11,.mv (.t 10),none⟩,
 ⟨some 12,.faddr 0 (.t 2),some (11,true)⟩,
 ⟨some 13,.load none (.t 12),some (11,true)⟩,
 ⟨some 14,.nilf true false (.t 13) (.c (.pointer none)),some (11,true)⟩,
 ⟨some 15,.mv (.t 14),some (11,true)⟩,
 ⟨some 16,.faddr 0 (.t 2),some (15,false)⟩,
 ⟨some 17,.load none (.t 16),some (15,false)⟩,
 ⟨some 18,.nilc (.t 17),some (15,false)⟩,
 ⟨some 19,.load (some 2) (.t 18),some (15,false)⟩,
 ⟨some 20,.call (.f 170) [(.t 19)],some (15,false)⟩,
 ⟨some 21,.pick (.t 15) (.c (.bool true)) (.t 20),some (11,true)⟩,
 ⟨some 22,.pick (.t 11) (.t 21) (.c (.bool false)),none⟩,
 ⟨some 4,.mv (.t 22),none⟩] [4])
 .ret)),
 [.t 4]⟩
theorem k275:chkF Tryz.prog Tryz.f275 c275=true:=by kernel_rfl
def c277:CF:=⟨14,
 (.seq (.ops [
 ⟨some 2,.box false 263 21 (.t 0),none⟩,
 ⟨some 3,.box false 26 6 (.t 1),none⟩,
 ⟨some 4,.mv (.c (.bool false)),none⟩] [2,3])
 (.seq (.ops [
 ⟨some 5,.faddr 0 (.t 2),none⟩,
 ⟨some 6,.load (some 3) (.t 5),none⟩,
 ⟨some 7,.load (some 6) (.t 3),none⟩,
 ⟨some 8,.call (.f 275) [(.t 6),(.t 7)],none⟩,
 ⟨some 9,.mv (.t 8),none⟩,
 ⟨some 10,.faddr 3 (.t 2),some (9,true)⟩,
 ⟨some 11,.load (some 18) (.t 10),some (9,true)⟩,
 ⟨some 12,.call (.f 278) [(.t 11)],some (9,true)⟩,
 ⟨some 13,.pick (.t 9) (.t 12) (.c (.bool false)),none⟩,
 ⟨some 4,.mv (.t 13),none⟩] [4])
 .ret)),
 [.t 4]⟩
theorem k277:chkF Tryz.prog Tryz.f277 c277=true:=by kernel_rfl
def c285:CF:=⟨13,
 (.seq (.ops [
 ⟨some 2,.box false 265 5 (.t 0),none⟩,
 ⟨some 3,.box false 26 6 (.t 1),none⟩,
 ⟨some 4,.mv (.c (.bool false)),none⟩] [2])
 (.seq (.ops [
 ⟨some 5,.faddr 0 (.t 2),none⟩,
 ⟨some 6,.load (some 2) (.t 5),none⟩,
 ⟨some 7,.call (.f 170) [(.t 6)],none⟩,
 ⟨some 8,.mv (.t 7),none⟩,
 ⟨some 9,.faddr 2 (.t 2),some (8,true)⟩,
 ⟨some 10,.load (some 3) (.t 9),some (8,true)⟩,
 ⟨some 11,.call (.f 286) [(.t 10)],some (8,true)⟩,
 ⟨some 12,.pick (.t 8) (.t 11) (.c (.bool false)),none⟩,
 ⟨some 4,.mv (.t 12),none⟩] [4])
 .ret)),
 [.t 4]⟩
theorem k285:chkF Tryz.prog Tryz.f285 c285=true:=by kernel_rfl
def c288:CF:=⟨21,
 (.seq (.ops [
 ⟨some 2,.box false 267 6 (.t 0),none⟩,
 ⟨some 3,.box false 26 6 (.t 1),none⟩,
 ⟨some 4,.mv (.c (.bool false)),none⟩] [2,3])
 (.seq (.ops [
 ⟨some 5,.faddr 0 (.t 2),none⟩,
 ⟨some 6,.load none (.t 5),none⟩,
 ⟨some 7,.nilf true false (.t 6) (.c (.pointer none)),none⟩,
 ⟨some 8,.mv (.t 7),none⟩,
 ⟨some 9,.faddr 0 (.t 2),some (8,false)⟩,
 ⟨some 10,.load none (.t 9),some (8,false)⟩,
 ⟨some 11,.nilc (.t 10),some (8,false)⟩,
 ⟨some 12,.load (some 2) (.t 11),some (8,false)⟩,
 ⟨some 13,.call (.f 170) [(.t 12)],some (8,false)⟩,
 ⟨some 14,.pick (.t 8) (.c (.bool true)) (.t 13),none⟩,
 ⟨some 15,.mv (.t 14),none⟩,
 ⟨some 16,.load (some 6) (.t 3),some (15,true)⟩,
 ⟨some 17,.faddr 1 (.t 2),some (15,true)⟩,
 ⟨some 18,.load (some 5) (.t 17),some (15,true)⟩,
 ⟨some 19,.call (.f 289) [(.t 16),(.t 18)],some (15,true)⟩,
 ⟨some 20,.pick (.t 15) (.t 19) (.c (.bool false)),none⟩,
 ⟨some 4,.mv (.t 20),none⟩] [4])
 .ret)),
 [.t 4]⟩
theorem k288:chkF Tryz.prog Tryz.f288 c288=true:=by kernel_rfl
def c290:CF:=⟨18,
 (.seq (.ops [
 ⟨some 2,.box false 269 4 (.t 0),none⟩,
 ⟨some 3,.box false 26 6 (.t 1),none⟩,
 ⟨some 4,.mv (.c (.bool false)),none⟩] [2,3])
 (.seq (.ops [
 ⟨some 5,.load (some 6) (.t 3),none⟩,
 ⟨some 6,.faddr 0 (.t 2),none⟩,
 ⟨some 7,.load none (.t 6),none⟩,
 ⟨some 8,.faddr 1 (.t 2),none⟩,
 ⟨some 9,.faddr 0 (.t 8),none⟩,
 ⟨some 10,.load none (.t 9),none⟩,
 ⟨some 11,.call (.f 276) [(.t 5),(.t 7),(.t 10)],none⟩,
 ⟨some 12,.mv (.t 11),none⟩,
 ⟨some 13,.faddr 1 (.t 2),some (12,true)⟩,
 ⟨some 14,.faddr 1 (.t 13),some (12,true)⟩,
 ⟨some 15,.load (some 2) (.t 14),some (12,true)⟩,
 ⟨some 16,.call (.f 287) [(.t 15),(.c (.int .i64 0)),(.c (.int .i64 4000))],some (12,true)⟩,
 ⟨some 17,.pick (.t 12) (.t 16) (.c (.bool false)),none⟩,
 ⟨some 4,.mv (.t 17),none⟩] [4])
 .ret)),
 [.t 4]⟩
theorem k290:chkF Tryz.prog Tryz.f290 c290=true:=by kernel_rfl
def c291:CF:=⟨8,
 (.seq (.ops [
 ⟨some 2,.box false 271 2 (.t 0),none⟩,
 ⟨some 3,.box false 26 6 (.t 1),none⟩,
 ⟨some 4,.mv (.c (.bool false)),none⟩] [2])
 (.seq (.ops [
 ⟨some 5,.faddr 0 (.t 2),none⟩,
 ⟨some 6,.load (some 2) (.t 5),none⟩,
 ⟨some 7,.call (.f 170) [(.t 6)],none⟩,
 ⟨some 4,.mv (.t 7),none⟩] [4])
 .ret)),
 [.t 4]⟩
theorem k291:chkF Tryz.prog Tryz.f291 c291=true:=by kernel_rfl
def ntSz (a:Nt):Prop:=shtSz a.sheet
def saysC (a:Nt):AV :=
  if a.kind=1 then .ifc 263 (.agg (.v (.pointer none)::n a.stn::n a.week::a.sheet.cs))
  else if a.kind=2 then .ifc 265 (.agg [n a.ref.clerk,n a.ref.num,n a.mark.col,n a.mark.ticks.lo,n a.mark.ticks.hi])
  else if a.kind=3 then .ifc 267 (.agg (.v (.pointer none)::a.read.cs))
  else if a.kind=4 then .ifc 269 (.agg (n a.stn::a.height.cs))
  else if a.kind=5 then .ifc 197 (.agg [.iptr a.cs 36,n a.stn,n a.week])
  else if a.kind=6 then (if a.read.stn≠0 then .ifc 267 (.agg (.iptr a.cs 36::a.read.cs)) else .ifc 265 (.agg [n a.ref.clerk,n a.ref.num,n a.mark.col,n a.mark.ticks.lo,n a.mark.ticks.hi]))
  else if a.kind=7 then .ifc 271 (.agg [n a.ref.clerk,n a.ref.num])
  else .v .nilIface
theorem fileRight0 (b:Bse) (hb:bseSz b) (s w:Int):Pure Tryz.prog 275 [.agg [.v (.pointer none),n s,n w],.agg b.cs] (bl (decide (placed b s w))):=by
  refine Pure.of_body Tryz.call275 Tryz.func275 k275 (Nat.le_of_ble_eq_true rfl) ?_
  unfold c275
  have h1:=placed_spec b hb s w
  generalize decide (placed b s w)=x at h1
  cases x
  all_goals (repeat' ((first|refine vn rfl ?_|simp (disch:=omega) only [wr64,W7]|refine bo (fun _=>?_) fun _=>?_|refine im fun _=>?_|((repeat refine si ?_); (first|((first|refine .inl ⟨_,_,_,_,rfl,fun _=>pu h1,?_⟩|refine ⟨_,_,_,_,rfl,fun _=>pu h1,?_⟩); (first|refine o1 ?_|refine o2 ?_|refine o3 ?_|refine o4 ?_)) | refine .inl ⟨_,_,_,_,rfl,pu h1,?_⟩))|refine cF ?_|refine om ?_|refine an ?_|fail) <;> try simp only [zN,zT,zV,zS,zU,Q0,Q1,ex,Q2,Q3,Q4,Q5,Q6,Q7,Q8,Q9,QA,QB,QC,W0,W1,W2,W3,W4,W5,W6,reduceIte]))
  all_goals exact Frz.eq rfl (by simp)
theorem fileRight1 (b:Bse) (hb:bseSz b) (a:Nt) (s w:Int):Pure Tryz.prog 275 [.agg [.iptr a.cs 36,n s,n w],.agg b.cs] (bl (decide (placed b s w∧a.ref.ok))):=by
  refine Pure.of_body Tryz.call275 Tryz.func275 k275 (Nat.le_of_ble_eq_true rfl) ?_
  unfold c275
  have h1:=placed_spec b hb s w
  have h2:=rightName_spec a.ref
  rw [Bool.decide_and]
  generalize decide (placed b s w)=x at h1
  generalize decide a.ref.ok=y at h2
  cases x
  all_goals (repeat' ((first|refine vn rfl ?_|simp (disch:=omega) only [wr64,W7]|refine bo (fun _=>?_) fun _=>?_|refine im fun _=>?_|((repeat refine si ?_); (first|((first|refine .inl ⟨_,_,_,_,rfl,fun _=>pu (by first|exact h1|exact h2),?_⟩|refine ⟨_,_,_,_,rfl,fun _=>pu (by first|exact h1|exact h2),?_⟩); (first|refine o1 ?_|refine o2 ?_|refine o3 ?_|refine o4 ?_)) | refine .inl ⟨_,_,_,_,rfl,pu (by first|exact h1|exact h2),?_⟩))|refine cF ?_|refine om ?_|refine an ?_|fail) <;> try simp only [zN,zT,zV,zS,zU,Q0,Q1,ex,Q2,Q3,Q4,Q5,Q6,Q7,Q8,Q9,QA,QB,QC,W0,W1,W2,W3,W4,W5,W6,reduceIte]))
  all_goals exact Frz.eq (by simp) (by simp)
theorem sheetRight (b:Bse) (hb:bseSz b) (s w:Int) (t:Sht) (ht:shtSz t):Pure Tryz.prog 277 [.agg (.v (.pointer none)::n s::n w::t.cs),.agg b.cs] (bl (decide (placed b s w∧t.ok))):=by
  refine Pure.of_body Tryz.call277 Tryz.func277 k277 (Nat.le_of_ble_eq_true rfl) ?_
  unfold c277
  have h1:=fileRight0 b hb s w
  have h2:=rightSheet_spec t ht
  rw [Bool.decide_and]
  generalize decide (placed b s w)=x at h1
  generalize decide t.ok=y at h2
  cases x
  all_goals (repeat' ((first|refine vn rfl ?_|simp (disch:=omega) only [wr64,W7]|refine bo (fun _=>?_) fun _=>?_|refine im fun _=>?_|((repeat refine si ?_); (first|((first|refine .inl ⟨_,_,_,_,rfl,fun _=>pu (by first|exact h1|exact h2),?_⟩|refine ⟨_,_,_,_,rfl,fun _=>pu (by first|exact h1|exact h2),?_⟩); (first|refine o1 ?_|refine o2 ?_|refine o3 ?_|refine o4 ?_)) | refine .inl ⟨_,_,_,_,rfl,pu (by first|exact h1|exact h2),?_⟩))|refine cF ?_|refine om ?_|refine an ?_|fail) <;> try simp only [zN,zT,zV,zS,zU,Q0,Q1,ex,Q2,Q3,Q4,Q5,Q6,Q7,Q8,Q9,QA,QB,QC,W0,W1,W2,W3,W4,W5,W6,reduceIte]))
  all_goals exact Frz.eq (by simp) (by simp)
theorem markRight (b:Bse) (r:Nm) (m:Mk):Pure Tryz.prog 285 [.agg [n r.clerk,n r.num,n m.col,n m.ticks.lo,n m.ticks.hi],.agg b.cs] (bl (decide (r.ok∧m.ok))):=by
  refine Pure.of_body Tryz.call285 Tryz.func285 k285 (Nat.le_of_ble_eq_true rfl) ?_
  unfold c285
  have h1:=rightName_spec r
  have h2:=rightMark_spec m
  rw [Bool.decide_and]
  generalize decide r.ok=x at h1
  generalize decide m.ok=y at h2
  cases x
  all_goals (repeat' ((first|refine vn rfl ?_|simp (disch:=omega) only [wr64,W7]|refine bo (fun _=>?_) fun _=>?_|refine im fun _=>?_|((repeat refine si ?_); (first|((first|refine .inl ⟨_,_,_,_,rfl,fun _=>pu (by first|exact h1|exact h2),?_⟩|refine ⟨_,_,_,_,rfl,fun _=>pu (by first|exact h1|exact h2),?_⟩); (first|refine o1 ?_|refine o2 ?_|refine o3 ?_|refine o4 ?_)) | refine .inl ⟨_,_,_,_,rfl,pu (by first|exact h1|exact h2),?_⟩))|refine cF ?_|refine om ?_|refine an ?_|fail) <;> try simp only [zN,zT,zV,zS,zU,Q0,Q1,ex,Q2,Q3,Q4,Q5,Q6,Q7,Q8,Q9,QA,QB,QC,W0,W1,W2,W3,W4,W5,W6,reduceIte]))
  all_goals exact Frz.eq (by simp) (by simp)
theorem readRight0 (b:Bse) (hb:bseSz b) (r:Rd):Pure Tryz.prog 288 [.agg (.v (.pointer none)::r.cs),.agg b.cs] (bl (decide (r.ok b))):=by
  refine Pure.of_body Tryz.call288 Tryz.func288 k288 (Nat.le_of_ble_eq_true rfl) ?_
  unfold c288
  (repeat' ((first|refine vn rfl ?_|simp (disch:=omega) only [wr64,W7]|refine bo (fun _=>?_) fun _=>?_|refine im fun _=>?_|((repeat refine si ?_); (first|((first|refine .inl ⟨_,_,_,_,rfl,fun _=>pu (rightRead_spec b hb r),?_⟩|refine ⟨_,_,_,_,rfl,fun _=>pu (rightRead_spec b hb r),?_⟩); (first|refine o1 ?_|refine o2 ?_|refine o3 ?_|refine o4 ?_)) | refine .inl ⟨_,_,_,_,rfl,pu (rightRead_spec b hb r),?_⟩))|refine cF ?_|refine om ?_|refine an ?_|fail) <;> try simp only [zN,zT,zV,zS,zU,Q0,Q1,ex,Q2,Q3,Q4,Q5,Q6,Q7,Q8,Q9,QA,QB,QC,W0,W1,W2,W3,W4,W5,W6,reduceIte]))
  all_goals exact Frz.eq (by simp) (by simp)
theorem readRight1 (b:Bse) (hb:bseSz b) (a:Nt) (r:Rd):Pure Tryz.prog 288 [.agg (.iptr a.cs 36::r.cs),.agg b.cs] (bl (decide (a.ref.ok∧r.ok b))):=by
  refine Pure.of_body Tryz.call288 Tryz.func288 k288 (Nat.le_of_ble_eq_true rfl) ?_
  unfold c288
  have h1:=rightName_spec a.ref
  have h2:=rightRead_spec b hb r
  rw [Bool.decide_and]
  generalize decide a.ref.ok=x at h1
  generalize decide (r.ok b)=y at h2
  cases x
  all_goals (repeat' ((first|refine vn rfl ?_|simp (disch:=omega) only [wr64,W7]|refine bo (fun _=>?_) fun _=>?_|refine im fun _=>?_|((repeat refine si ?_); (first|((first|refine .inl ⟨_,_,_,_,rfl,fun _=>pu (by first|exact h1|exact h2),?_⟩|refine ⟨_,_,_,_,rfl,fun _=>pu (by first|exact h1|exact h2),?_⟩); (first|refine o1 ?_|refine o2 ?_|refine o3 ?_|refine o4 ?_)) | refine .inl ⟨_,_,_,_,rfl,pu (by first|exact h1|exact h2),?_⟩))|refine cF ?_|refine om ?_|refine an ?_|fail) <;> try simp only [zN,zT,zV,zS,zU,Q0,Q1,ex,Q2,Q3,Q4,Q5,Q6,Q7,Q8,Q9,QA,QB,QC,W0,W1,W2,W3,W4,W5,W6,reduceIte]))
  all_goals exact Frz.eq (by simp) (by simp)
theorem heightRight (b:Bse) (hb:bseSz b) (s:Int) (h:Hgt):Pure Tryz.prog 290 [.agg (n s::h.cs),.agg b.cs] (bl (decide (placed b s h.week∧spIn h.metres 0 4000))):=by
  refine Pure.of_body Tryz.call290 Tryz.func290 k290 (Nat.le_of_ble_eq_true rfl) ?_
  unfold c290
  have h1:=placed_spec b hb s h.week
  have h2:=span_a h.metres 0 4000
  rw [Bool.decide_and]
  generalize decide (placed b s h.week)=x at h1
  generalize decide (spIn h.metres 0 4000)=y at h2
  cases x
  all_goals (repeat' ((first|refine vn rfl ?_|simp (disch:=omega) only [wr64,W7]|refine bo (fun _=>?_) fun _=>?_|refine im fun _=>?_|((repeat refine si ?_); (first|((first|refine .inl ⟨_,_,_,_,rfl,fun _=>pu (by first|exact h1|exact h2),?_⟩|refine ⟨_,_,_,_,rfl,fun _=>pu (by first|exact h1|exact h2),?_⟩); (first|refine o1 ?_|refine o2 ?_|refine o3 ?_|refine o4 ?_)) | refine .inl ⟨_,_,_,_,rfl,pu (by first|exact h1|exact h2),?_⟩))|refine cF ?_|refine om ?_|refine an ?_|fail) <;> try simp only [zN,zT,zV,zS,zU,Q0,Q1,ex,Q2,Q3,Q4,Q5,Q6,Q7,Q8,Q9,QA,QB,QC,W0,W1,W2,W3,W4,W5,W6,reduceIte]))
  all_goals exact Frz.eq (by simp) (by simp)
theorem withdrawRight (b:Bse) (r:Nm):Pure Tryz.prog 291 [.agg [n r.clerk,n r.num],.agg b.cs] (bl (decide r.ok)):=by
  refine Pure.of_body Tryz.call291 Tryz.func291 k291 (Nat.le_of_ble_eq_true rfl) ?_
  unfold c291
  (repeat' ((first|refine vn rfl ?_|simp (disch:=omega) only [wr64,W7]|refine bo (fun _=>?_) fun _=>?_|refine im fun _=>?_|((repeat refine si ?_); (first|((first|refine .inl ⟨_,_,_,_,rfl,fun _=>pu (rightName_spec r),?_⟩|refine ⟨_,_,_,_,rfl,fun _=>pu (rightName_spec r),?_⟩); (first|refine o1 ?_|refine o2 ?_|refine o3 ?_|refine o4 ?_)) | refine .inl ⟨_,_,_,_,rfl,pu (rightName_spec r),?_⟩))|refine cF ?_|refine om ?_|refine an ?_|fail) <;> try simp only [zN,zT,zV,zS,zU,Q0,Q1,ex,Q2,Q3,Q4,Q5,Q6,Q7,Q8,Q9,QA,QB,QC,W0,W1,W2,W3,W4,W5,W6,reduceIte]))
  all_goals exact Frz.eq (by simp) (by simp)
def c169:CF:=⟨137,
 (.seq (.ops [
 ⟨some 1,.box false 68 38 (.t 0),none⟩,
 ⟨some 2,.mv (.c (.nilIface)),none⟩,
 ⟨some 3,.alloc 68 38 z38,none⟩] [1,3])
 (.seq (.ops [
 ⟨some 5,.faddr 0 (.t 1),none⟩,
 ⟨some 6,.load none (.t 5),none⟩,
 ⟨some 7,.faddr 1 (.t 1),none⟩,
 ⟨some 8,.load none (.t 7),none⟩,
 ⟨some 9,.faddr 2 (.t 1),none⟩,
 ⟨some 10,.load none (.t 9),none⟩,
 ⟨some 11,.faddr 3 (.t 1),none⟩,
 ⟨some 12,.load none (.t 11),none⟩,
 ⟨some 13,.faddr 4 (.t 1),none⟩,
 ⟨some 14,.load none (.t 13),none⟩,
 ⟨some 15,.build z38 [(0,1,(.t 6)),(1,1,(.t 8)),(2,1,(.t 10)),(3,1,(.t 12)),(4,1,(.t 14))],none⟩,
 ⟨some 4,.alloc 68 38 z38,none⟩,
 ⟨none,.store 38 (.t 4) (.t 15),none⟩] [1,3,4])
 (.seq (.seq (.ops [
 ⟨some 16,.faddr 4 (.t 1),none⟩,
 ⟨some 17,.load none (.t 16),none⟩] [1,3,4,17])
 (.block 0 (.seq (.ops [
 ⟨some 19,.bin .eql (.t 17) (.c (.int .i64 1)),none⟩,
 ⟨some 18,.mv (.t 19),none⟩] [1,3,4,17,18])
 (.cond (.t 18) (.seq (.draww [0,1,2,3,4,5,6,7,8,9,10,11] [2,3,4,5] 3 [
 ⟨some 20,.faddr 5 (.t 1),none⟩,
 ⟨some 21,.load none (.t 20),none⟩,
 ⟨some 22,.faddr 6 (.t 1),none⟩,
 ⟨some 23,.load none (.t 22),none⟩,
 ⟨some 24,.faddr 7 (.t 1),none⟩,
 ⟨some 25,.load (some 18) (.t 24),none⟩,
 ⟨some 26,.faddr 5 (.t 4),none⟩] [
 ⟨none,.store 1 (.t 26) (.t 21),none⟩,
 ⟨some 27,.faddr 6 (.t 4),none⟩,
 ⟨none,.store 1 (.t 27) (.t 23),none⟩,
 ⟨some 28,.faddr 7 (.t 4),none⟩,
 ⟨none,.store 18 (.t 28) (.t 25),none⟩] [1,3,4])
 (.seq (.draw [
 ⟨some 29,.faddr 5 (.t 1),none⟩,
 ⟨some 30,.load none (.t 29),none⟩,
 ⟨some 31,.faddr 6 (.t 1),none⟩,
 ⟨some 32,.load none (.t 31),none⟩,
 ⟨some 33,.build [.pointer none,.int .i64 0,.int .i64 0] [(0,1,(.c (.pointer none))),(1,1,(.t 30)),(2,1,(.t 32))],none⟩,
 ⟨some 34,.faddr 7 (.t 1),none⟩,
 ⟨some 35,.load (some 18) (.t 34),none⟩,
 ⟨some 36,.build [.pointer none,.int .i64 0,.int .i64 0,.int .i64 0,.int .i64 0,.int .i64 0,.int .i64 0,.int .i64 0,.int .i64 0,.int .i64 0,.int .i64 0,.int .i64 0,.int .i64 0,.slice none 0 0,.slice none 0 0,.slice none 0 0,.slice none 0 0,.int .i64 0,.int .i64 0,.int .i64 0,.int .i64 0] [(0,3,(.t 33)),(3,18,(.t 35))],none⟩,
 ⟨some 37,.ifc 263 (.t 36),none⟩,
 ⟨some 38,.load (some 38) (.t 4),none⟩,
 ⟨some 2,.mv (.t 37),none⟩] [
 ⟨none,.store 38 (.t 3) (.t 38),none⟩] [2,3])
 .ret))
 (.seq (.ops [
 ⟨some 40,.bin .eql (.t 17) (.c (.int .i64 2)),none⟩,
 ⟨some 39,.mv (.t 40),none⟩] [1,3,4,17,39])
 (.cond (.t 39) (.seq (.draww [0,1,2,3,4,5,6,7] [2,3] 1 [
 ⟨some 41,.faddr 36 (.t 1),none⟩,
 ⟨some 42,.load (some 2) (.t 41),none⟩,
 ⟨some 43,.faddr 25 (.t 1),none⟩,
 ⟨some 44,.load (some 3) (.t 43),none⟩,
 ⟨some 45,.faddr 36 (.t 4),none⟩] [
 ⟨none,.store 2 (.t 45) (.t 42),none⟩,
 ⟨some 46,.faddr 25 (.t 4),none⟩,
 ⟨none,.store 3 (.t 46) (.t 44),none⟩] [1,3,4])
 (.seq (.draw [
 ⟨some 47,.faddr 36 (.t 1),none⟩,
 ⟨some 48,.load (some 2) (.t 47),none⟩,
 ⟨some 49,.faddr 25 (.t 1),none⟩,
 ⟨some 50,.load (some 3) (.t 49),none⟩,
 ⟨some 51,.build [.int .i64 0,.int .i64 0,.int .i64 0,.int .i64 0,.int .i64 0] [(0,2,(.t 48)),(2,3,(.t 50))],none⟩,
 ⟨some 52,.ifc 265 (.t 51),none⟩,
 ⟨some 53,.load (some 38) (.t 4),none⟩,
 ⟨some 2,.mv (.t 52),none⟩] [
 ⟨none,.store 38 (.t 3) (.t 53),none⟩] [2,3])
 .ret))
 (.seq (.ops [
 ⟨some 55,.bin .eql (.t 17) (.c (.int .i64 3)),none⟩,
 ⟨some 54,.mv (.t 55),none⟩] [1,3,4,17,54])
 (.cond (.t 54) (.seq (.ops [
 ⟨some 56,.faddr 28 (.t 1),none⟩,
 ⟨some 57,.load (some 5) (.t 56),none⟩,
 ⟨some 58,.faddr 28 (.t 4),none⟩,
 ⟨none,.store 5 (.t 58) (.t 57),none⟩] [1,3,4])
 (.seq (.draw [
 ⟨some 59,.faddr 28 (.t 1),none⟩,
 ⟨some 60,.load (some 5) (.t 59),none⟩,
 ⟨some 61,.build [.pointer none,.int .i64 0,.int .i64 0,.int .i64 0,.int .i64 0,.int .i64 0] [(0,1,(.c (.pointer none))),(1,5,(.t 60))],none⟩,
 ⟨some 62,.ifc 267 (.t 61),none⟩,
 ⟨some 63,.load (some 38) (.t 4),none⟩,
 ⟨some 2,.mv (.t 62),none⟩] [
 ⟨none,.store 38 (.t 3) (.t 63),none⟩] [2,3])
 .ret))
 (.seq (.ops [
 ⟨some 65,.bin .eql (.t 17) (.c (.int .i64 4)),none⟩,
 ⟨some 64,.mv (.t 65),none⟩] [1,3,4,17,64])
 (.cond (.t 64) (.seq (.draww [0,1,2,3,4,5,6,7] [2,3] 1 [
 ⟨some 66,.faddr 5 (.t 1),none⟩,
 ⟨some 67,.load none (.t 66),none⟩,
 ⟨some 68,.faddr 33 (.t 1),none⟩,
 ⟨some 69,.load (some 3) (.t 68),none⟩,
 ⟨some 70,.faddr 5 (.t 4),none⟩] [
 ⟨none,.store 1 (.t 70) (.t 67),none⟩,
 ⟨some 71,.faddr 33 (.t 4),none⟩,
 ⟨none,.store 3 (.t 71) (.t 69),none⟩] [1,3,4])
 (.seq (.draw [
 ⟨some 72,.faddr 5 (.t 1),none⟩,
 ⟨some 73,.load none (.t 72),none⟩,
 ⟨some 74,.faddr 33 (.t 1),none⟩,
 ⟨some 75,.load (some 3) (.t 74),none⟩,
 ⟨some 76,.build [.int .i64 0,.int .i64 0,.int .i64 0,.int .i64 0] [(0,1,(.t 73)),(1,3,(.t 75))],none⟩,
 ⟨some 77,.ifc 269 (.t 76),none⟩,
 ⟨some 78,.load (some 38) (.t 4),none⟩,
 ⟨some 2,.mv (.t 77),none⟩] [
 ⟨none,.store 38 (.t 3) (.t 78),none⟩] [2,3])
 .ret))
 (.seq (.ops [
 ⟨some 80,.bin .eql (.t 17) (.c (.int .i64 5)),none⟩,
 ⟨some 79,.mv (.t 80),none⟩] [1,3,4,17,79])
 (.cond (.t 79) (.seq (.draww [0,1,2,3,4,5,6,7,8,9,10,11] [2,3,4,5] 3 [
 ⟨some 81,.faddr 36 (.t 1),none⟩,
 ⟨some 82,.load (some 2) (.t 81),none⟩,
 ⟨some 83,.faddr 5 (.t 1),none⟩,
 ⟨some 84,.load none (.t 83),none⟩,
 ⟨some 85,.faddr 6 (.t 1),none⟩,
 ⟨some 86,.load none (.t 85),none⟩,
 ⟨some 87,.faddr 36 (.t 4),none⟩] [
 ⟨none,.store 2 (.t 87) (.t 82),none⟩,
 ⟨some 88,.faddr 5 (.t 4),none⟩,
 ⟨none,.store 1 (.t 88) (.t 84),none⟩,
 ⟨some 89,.faddr 6 (.t 4),none⟩,
 ⟨none,.store 1 (.t 89) (.t 86),none⟩] [1,3,4])
 (.seq (.draw [
 ⟨some 90,.faddr 36 (.t 1),none⟩,
 ⟨some 91,.faddr 5 (.t 1),none⟩,
 ⟨some 92,.load none (.t 91),none⟩,
 ⟨some 93,.faddr 6 (.t 1),none⟩,
 ⟨some 94,.load none (.t 93),none⟩,
 ⟨some 95,.build [.pointer none,.int .i64 0,.int .i64 0] [(0,1,(.t 90)),(1,1,(.t 92)),(2,1,(.t 94))],none⟩,
 ⟨some 96,.ifc 197 (.t 95),none⟩,
 ⟨some 97,.load (some 38) (.t 4),none⟩,
 ⟨some 2,.mv (.t 96),none⟩] [
 ⟨none,.store 38 (.t 3) (.t 97),none⟩] [2,3])
 .ret))
 (.seq (.ops [
 ⟨some 99,.bin .eql (.t 17) (.c (.int .i64 6)),none⟩,
 ⟨some 98,.mv (.t 99),none⟩] [1,3,4,17,98])
 (.cond (.t 98) (.seq (.ops [
 ⟨some 100,.faddr 36 (.t 1),none⟩,
 ⟨some 101,.load (some 2) (.t 100),none⟩,
 ⟨some 102,.faddr 36 (.t 4),none⟩,
 ⟨none,.store 2 (.t 102) (.t 101),none⟩] [1,3,4])
 (.seq (.seq (.ops [
 ⟨some 103,.faddr 28 (.t 1),none⟩,
 ⟨some 104,.faddr 0 (.t 103),none⟩,
 ⟨some 105,.load none (.t 104),none⟩,
 ⟨some 106,.bin .neq (.t 105) (.c (.int .i64 0)),none⟩] [1,3,4,106])
 (.cond (.t 106) (.seq (.ops [
 ⟨some 107,.faddr 28 (.t 1),none⟩,
 ⟨some 108,.load (some 5) (.t 107),none⟩,
 ⟨some 109,.faddr 28 (.t 4),none⟩,
 ⟨none,.store 5 (.t 109) (.t 108),none⟩] [1,3,4])
 (.seq (.draw [
 ⟨some 110,.faddr 36 (.t 1),none⟩,
 ⟨some 111,.faddr 28 (.t 1),none⟩,
 ⟨some 112,.load (some 5) (.t 111),none⟩,
 ⟨some 113,.build [.pointer none,.int .i64 0,.int .i64 0,.int .i64 0,.int .i64 0,.int .i64 0] [(0,1,(.t 110)),(1,5,(.t 112))],none⟩,
 ⟨some 114,.ifc 267 (.t 113),none⟩,
 ⟨some 115,.load (some 38) (.t 4),none⟩,
 ⟨some 2,.mv (.t 114),none⟩] [
 ⟨none,.store 38 (.t 3) (.t 115),none⟩] [2,3])
 .ret))
 .skip))
 (.seq (.ops [
 ⟨some 116,.faddr 25 (.t 1),none⟩,
 ⟨some 117,.load (some 3) (.t 116),none⟩,
 ⟨some 118,.faddr 25 (.t 4),none⟩,
 ⟨none,.store 3 (.t 118) (.t 117),none⟩] [1,3,4])
 (.seq (.draw [
 ⟨some 119,.faddr 36 (.t 1),none⟩,
 ⟨some 120,.load (some 2) (.t 119),none⟩,
 ⟨some 121,.faddr 25 (.t 1),none⟩,
 ⟨some 122,.load (some 3) (.t 121),none⟩,
 ⟨some 123,.build [.int .i64 0,.int .i64 0,.int .i64 0,.int .i64 0,.int .i64 0] [(0,2,(.t 120)),(2,3,(.t 122))],none⟩,
 ⟨some 124,.ifc 265 (.t 123),none⟩,
 ⟨some 125,.load (some 38) (.t 4),none⟩,
 ⟨some 2,.mv (.t 124),none⟩] [
 ⟨none,.store 38 (.t 3) (.t 125),none⟩] [2,3])
 .ret))))
 (.seq (.ops [
 ⟨some 127,.bin .eql (.t 17) (.c (.int .i64 7)),none⟩,
 ⟨some 126,.mv (.t 127),none⟩] [1,3,4,126])
 (.cond (.t 126) (.seq (.ops [
 ⟨some 128,.faddr 36 (.t 1),none⟩,
 ⟨some 129,.load (some 2) (.t 128),none⟩,
 ⟨some 130,.faddr 36 (.t 4),none⟩,
 ⟨none,.store 2 (.t 130) (.t 129),none⟩] [1,3,4])
 (.seq (.draw [
 ⟨some 131,.faddr 36 (.t 1),none⟩,
 ⟨some 132,.load (some 2) (.t 131),none⟩,
 ⟨some 133,.build [.int .i64 0,.int .i64 0] [(0,2,(.t 132))],none⟩,
 ⟨some 134,.ifc 271 (.t 133),none⟩,
 ⟨some 135,.load (some 38) (.t 4),none⟩,
 ⟨some 2,.mv (.t 134),none⟩] [
 ⟨none,.store 38 (.t 3) (.t 135),none⟩] [2,3])
 .ret))
 .skip))))))))))))))))
 (.seq (.draw [
 ⟨some 136,.load (some 38) (.t 4),none⟩,
 ⟨some 2,.mv (.c (.nilIface)),none⟩] [
 ⟨none,.store 38 (.t 3) (.t 136),none⟩] [2,3])
 .ret)))),
 [.t 2,.c 3 (some 38)]⟩
theorem k169:chkF Tryz.prog Tryz.f169 c169=true:=by kernel_rfl
def c106:CF:=⟨39,
 (.seq (.ops [
 ⟨some 2,.box false 26 6 (.t 0),none⟩,
 ⟨some 3,.box false 68 38 (.t 1),none⟩,
 ⟨some 4,.mv (.c (.bool false)),none⟩] [2,3])
 (.seq (.ops [
 ⟨some 8,.load (some 38) (.t 3),none⟩,
 ⟨some 9,.call (.f 169) [(.t 8)],none⟩,
 ⟨some 7,.mv (.t 9),none⟩,
 ⟨some 10,.ext 0 (.t 7),none⟩,
 ⟨some 11,.ext 1 (.t 7),none⟩,
 ⟨some 6,.alloc 68 38 z38,none⟩,
 ⟨some 5,.mv (.t 10),none⟩,
 ⟨none,.store 38 (.t 6) (.t 11),none⟩] [2,3,5,6])
 (.seq (.ops [
 ⟨some 12,.mv (.t 5),none⟩,
 ⟨some 13,.nilf false true (.t 12) (.c (.nilIface)),none⟩,
 ⟨some 14,.mv (.t 13),none⟩,
 ⟨some 15,.load (some 38) (.t 3),some (14,true)⟩,
 ⟨some 16,.load (some 38) (.t 6),some (14,true)⟩,
 ⟨some 17,.call (.f 49) [(.t 15),(.t 16)],some (14,true)⟩,
 ⟨some 18,.pick (.t 14) (.t 17) (.c (.bool false)),none⟩,
 ⟨some 19,.mv (.t 18),none⟩,
 ⟨some 20,.load (some 38) (.t 3),some (19,true)⟩,
 ⟨some 21,.call (.f 89) [(.t 20)],some (19,true)⟩,
 ⟨some 22,.call (.f 170) [(.t 21)],some (19,true)⟩,
 ⟨some 23,.pick (.t 19) (.t 22) (.c (.bool false)),none⟩,
 ⟨some 24,.mv (.t 23),none⟩,
 ⟨some 25,.faddr 2 (.t 3),some (24,true)⟩,
 ⟨some 26,.load none (.t 25),some (24,true)⟩,
 ⟨some 27,.call (.f 96) [(.t 26),(.c (.int .i64 1)),(.c (.int .i64 1099511627776))],some (24,true)⟩,
 ⟨some 28,.pick (.t 24) (.t 27) (.c (.bool false)),none⟩,
 ⟨some 29,.mv (.t 28),none⟩,
 ⟨some 30,.faddr 3 (.t 3),some (29,true)⟩,
 ⟨some 31,.load none (.t 30),some (29,true)⟩,
 ⟨some 32,.call (.f 96) [(.t 31),(.c (.int .i64 0)),(.c (.int .i64 10000))],some (29,true)⟩,
 ⟨some 33,.pick (.t 29) (.t 32) (.c (.bool false)),none⟩,
 ⟨some 34,.mv (.t 33),none⟩,
 ⟨some 35,.mv (.t 5),some (34,true)⟩,
 ⟨some 36,.load (some 6) (.t 2),some (34,true)⟩,
 ⟨some 37,.inv "aneroid/archive.right" (.t 35) [(.t 36)],some (34,true)⟩,
 ⟨some 38,.pick (.t 34) (.t 37) (.c (.bool false)),none⟩,
 ⟨some 4,.mv (.t 38),none⟩] [4])
 .ret))),
 [.t 4]⟩
theorem k106:chkF Tryz.prog Tryz.f106 c106=true:=by kernel_rfl
theorem says_spec (a:Nt):Pure Tryz.prog 169 [.agg a.cs] (.tup [saysC a,.agg a.bare.cs]):=by
  refine Pure.of_body Tryz.call169 Tryz.func169 k169 (Nat.le_of_ble_eq_true rfl) ?_
  unfold c169
  (repeat' ((first|refine vn rfl ?_|simp (disch:=omega) only [wr64,W7]|refine bo (fun _=>?_) fun _=>?_|refine im fun _=>?_|refine cF ?_|refine om ?_|refine an ?_|fail) <;> try simp only [zN,zT,zV,zS,zU,Q0,Q1,ex,Q2,Q3,Q4,Q5,Q6,Q7,Q8,Q9,QA,QB,QC,W0,W1,W2,W3,W4,W5,W6,reduceIte,z38,Sht.cs]))
  all_goals try (exfalso; omega)
  all_goals unfold saysC Nt.bare
  all_goals simp only [*,if_true,if_false,ne_eq,not_true_eq_false,not_false_eq_true,reduceCtorEq,Int.reduceEq]
  all_goals refine Frz.tupL ⟨?_,Frz.aggL ?_,trivial⟩
  all_goals first
    | (refine Frz.eq rfl ?_; simp; done)
    | (refine Frz.eq rfl (PureV.ifc (PureV.agg ?_)); simp; done)
    | (simp only [Nt.cs,Nt.head,nt0,sht0,mk0,rd0,hgt0,nm0,FL]
       repeat' apply And.intro
       all_goals first | trivial|exact Frz.nil0|exact Frz.eq rfl (by simp)|exact Frz.eq (by simp [*]) (by simp))
    | fail
theorem right_spec (b:Bse) (hb:bseSz b) (a:Nt) (ha:ntSz a):(∃ T x f,saysC a=.ifc T x∧methOf Tryz.prog T "aneroid/archive.right" = some f∧Pure Tryz.prog f [x,.agg b.cs] (bl (decide (a.says b)))∧PureV x)∨(saysC a=.v .nilIface∧¬ a.says b):=by
  unfold saysC Nt.says
  by_cases h1:a.kind=1
  · refine .inl ⟨_,_,277,if_pos h1,by kernel_rfl,?_,PureV.agg (by simp [Sht.cs])⟩
    simp only [if_pos h1]
    exact sheetRight b hb a.stn a.week a.sheet ha
  by_cases h2:a.kind=2
  · simp only [if_neg h1,if_pos h2]
    exact .inl ⟨_,_,285,rfl,by kernel_rfl,markRight b a.ref a.mark,by simp⟩
  by_cases h3:a.kind=3
  · simp only [if_neg h1,if_neg h2,if_pos h3]
    exact .inl ⟨_,_,288,rfl,by kernel_rfl,readRight0 b hb a.read,by simp⟩
  by_cases h4:a.kind=4
  · simp only [if_neg h1,if_neg h2,if_neg h3,if_pos h4]
    exact .inl ⟨_,_,290,rfl,by kernel_rfl,heightRight b hb a.stn a.height,by simp⟩
  by_cases h5:a.kind=5
  · simp only [if_neg h1,if_neg h2,if_neg h3,if_neg h4,if_pos h5]
    exact .inl ⟨_,_,275,rfl,by kernel_rfl,fileRight1 b hb a a.stn a.week,by simp⟩
  by_cases h6:a.kind=6
  · simp only [if_neg h1,if_neg h2,if_neg h3,if_neg h4,if_neg h5,if_pos h6]
    by_cases h0:a.read.stn≠0
    · simp only [if_pos h0]
      exact .inl ⟨_,_,288,rfl,by kernel_rfl,readRight1 b hb a a.read,by simp⟩
    · simp only [if_neg h0]
      exact .inl ⟨_,_,285,rfl,by kernel_rfl,markRight b a.ref a.mark,by simp⟩
  by_cases h7:a.kind=7
  · simp only [if_neg h1,if_neg h2,if_neg h3,if_neg h4,if_neg h5,if_neg h6,if_pos h7]
    exact .inl ⟨_,_,291,rfl,by kernel_rfl,withdrawRight b a.ref,by simp⟩
  · simp only [if_neg h1,if_neg h2,if_neg h3,if_neg h4,if_neg h5,if_neg h6,if_neg h7]
    exact .inr ⟨by trivial,fun h=>h⟩
theorem bareSz {a:Nt} (h:ntSz a):ntSz a.bare:=by
  have h0:ntSz a.head:=(show shtSz sht0 from ⟨by decide,by decide,by decide,by decide⟩)
  unfold Nt.bare
  repeat' split
  all_goals first|exact h|exact h0
theorem formed_spec (b:Bse) (hb:bseSz b) (a:Nt) (ha:ntSz a):Pure Tryz.prog 106 [.agg b.cs,.agg a.cs] (bl (decide (a.ok b))):=by
  refine Pure.of_body Tryz.call106 Tryz.func106 k106 (Nat.le_of_ble_eq_true rfl) ?_
  unfold c106
  have h1:=says_spec a
  have h2:=Same_spec a a.bare ha (bareSz ha)
  have h3:=name_spec a
  have h4:=rightName_spec a.nm
  have hd:decide (a.ok b)=(decide (a=a.bare) && (decide a.nm.ok && (decide (inr a.clock 1 1099511627776) && (decide (inr a.day 0 10000) && decide (a.says b))))):=by
    rw [Bool.eq_iff_iff]; simp only [Bool.and_eq_true,decide_eq_true_eq]; exact Iff.rfl
  rw [hd]
  generalize decide (a=a.bare)=x1 at h2
  generalize decide a.nm.ok=x2 at h4
  rcases right_spec b hb a ha with ⟨T,x,f,e1,e2,e3,e4⟩ | ⟨e1,e2⟩
  · rw [e1] at h1
    generalize decide (a.says b)=x3 at e3
    (repeat' ((first|refine vn rfl ?_|simp (disch:=omega) only [wr64,W7]|refine bo (fun _=>?_) fun _=>?_|refine im fun _=>?_|((repeat refine si ?_); (first|((first|refine .inl ⟨_,_,_,_,rfl,fun _=>pu (by first|exact h1|exact h2|exact h3|exact h4|exact within_a a.clock 1 1099511627776|exact within_a a.day 0 10000|exact e3),?_⟩|refine ⟨_,_,_,_,rfl,fun _=>pu (by first|exact h1|exact h2|exact h3|exact h4|exact within_a a.clock 1 1099511627776|exact within_a a.day 0 10000|exact e3),?_⟩); (first|refine o1 ?_|refine o2 ?_|refine o3 ?_|refine o4 ?_)) | refine .inl ⟨_,_,_,_,rfl,pu (by first|exact h1|exact h2|exact h3|exact h4|exact within_a a.clock 1 1099511627776|exact within_a a.day 0 10000|exact e3),?_⟩))|refine cF ?_|refine om ?_|refine an ?_|fail) <;> try simp only [zN,zT,zV,zS,zU,Q0,Q1,ex,Q2,Q3,Q4,Q5,Q6,Q7,Q8,Q9,QA,QB,QC,W0,W1,W2,W3,W4,W5,W6,reduceIte,e2]))
    all_goals refine Frz.eq (congrArg bl ?_) (by simp)
    all_goals simp [Bool.and_assoc]
  · rw [e1] at h1
    rw [decide_eq_false e2]
    (repeat' ((first|refine vn rfl ?_|simp (disch:=omega) only [wr64,W7]|refine bo (fun _=>?_) fun _=>?_|refine im fun _=>?_|((repeat refine si ?_); (first|((first|refine .inl ⟨_,_,_,_,rfl,fun _=>pu (by first|exact h1|exact h2|exact h3|exact h4|exact within_a a.clock 1 1099511627776|exact within_a a.day 0 10000),?_⟩|refine ⟨_,_,_,_,rfl,fun _=>pu (by first|exact h1|exact h2|exact h3|exact h4|exact within_a a.clock 1 1099511627776|exact within_a a.day 0 10000),?_⟩); (first|refine o1 ?_|refine o2 ?_|refine o3 ?_|refine o4 ?_)) | refine .inl ⟨_,_,_,_,rfl,pu (by first|exact h1|exact h2|exact h3|exact h4|exact within_a a.clock 1 1099511627776|exact within_a a.day 0 10000),?_⟩))|refine cF ?_|refine om ?_|refine an ?_|fail) <;> try simp only [zN,zT,zV,zS,zU,Q0,Q1,ex,Q2,Q3,Q4,Q5,Q6,Q7,Q8,Q9,QA,QB,QC,W0,W1,W2,W3,W4,W5,W6,reduceIte]))
    all_goals refine Frz.eq (congrArg bl ?_) (by simp)
    all_goals simp [Bool.and_assoc]
end Go.Proofs.YtolgelipcgcbhaaGreat
namespace Go.Abs
set_option linter.unusedVariables false
set_option linter.unusedSimpArgs false
theorem Frz.mp {σ:Sto} {f n:Nat} {o:Ob} {m m':List (List Int × AV)} (ho:σ.at f 0=some o) (hm:mpOf o n=some m) (hl:m.length=m'.length)
    (hk:∀ i,i < m.length→(m'.getD i ([],.any)).1=(m.getD i ([],.any)).1) (hv:∀ i,i < m.length→Frz σ (m.getD i ([],.any)).2 (m'.getD i ([],.any)).2):Frz σ (.mp f) (.imap n m'):=fun w X β x hs hx=>by
  obtain ⟨b,es,cl,hβ,rfl,_,hb,hr⟩:=mp_block hs ho hm hx
  obtain ⟨h1,h2,h3⟩:=of_mprel hr
  have hd:∀ i,es.getD i ⟨undef,undef,0⟩=es.toList.getD i ⟨undef,undef,0⟩:=fun i=>by simp [Array.getD_eq_getD_getElem?,List.getD_eq_getElem?_getD]
  refine .imap n m' b es cl hb (fun hX=>hs.dis f 0 o b ho hβ hX) (by rw [← hl,← h1]; simp) (fun i hi=>?_) fun i hi=>?_
  · rw [hd,hk i (by omega)]; exact h2 i (by omega)
  · rw [hd]; exact hv i (by omega) w X β _ hs (h3 i (by omega))
end Go.Abs
namespace Go.Proofs.YtolgelipcgcbhaaGreat
open Go.Abs
open Nat renaming reduceBEq→W0,reduceAdd→W1,reduceSub→W2,reduceLT→W3,reduceLeDiff→W4,reduceMul→W5,reduceEqDiff→W6
open Int renaming zero_sub→W7
open Go.Abs renaming vcC→Q0,lateX→Q1,strp→Q2,binA→Q3,elems→Q4,cells→Q5,scalar→Q6,eqC→Q7,keyA→Q8,intsA→Q9,lookA→QA,ofVs→QB,mpOf→QC
set_option linter.unusedVariables false
set_option linter.unusedSimpArgs false
set_option maxHeartbeats 4000000
set_option maxRecDepth 100000
def c45:CF:=⟨15,
 (.seq (.ops [
 ⟨some 2,.box false 26 6 (.t 0),none⟩,
 ⟨some 3,.box false 68 38 (.t 1),none⟩,
 ⟨some 4,.mv (.c (.int .i64 0)),none⟩] [2,3])
 (.seq (.seq (.ops [
 ⟨some 6,.load (some 6) (.t 2),none⟩,
 ⟨some 7,.call (.f 43) [(.t 6)],none⟩,
 ⟨some 5,.mv (.t 7),none⟩] [2,3,5])
 (.seq (.ops [
 ⟨some 8,.mv (.t 5),none⟩,
 ⟨some 9,.bin .neq (.t 8) (.c (.int .i64 0)),none⟩] [2,3,5,9])
 (.cond (.t 9) (.seq (.ops [
 ⟨some 10,.mv (.t 5),none⟩,
 ⟨some 4,.mv (.t 10),none⟩] [4])
 .ret)
 .skip)))
 (.seq (.seq (.ops [
 ⟨some 11,.load (some 6) (.t 2),none⟩,
 ⟨some 12,.load (some 38) (.t 3),none⟩,
 ⟨some 13,.call (.f 106) [(.t 11),(.t 12)],none⟩,
 ⟨some 14,.un .not (.t 13),none⟩] [14])
 (.cond (.t 14) (.seq (.ops [
 ⟨some 4,.mv (.c (.int .i64 60)),none⟩] [4])
 .ret)
 .skip))
 (.seq (.ops [
 ⟨some 4,.mv (.c (.int .i64 0)),none⟩] [4])
 .ret)))),
 [.t 4]⟩
theorem k45:chkF Tryz.prog Tryz.f45 c45=true:=by kernel_rfl
def c41:CF:=⟨50,
 (.seq (.ops [
 ⟨some 2,.box false 26 6 (.t 0),none⟩,
 ⟨some 4,.mv (.c (.int .i64 0)),none⟩,
 ⟨some 5,.mv (.c (.int .i64 0)),none⟩] [1,2])
 (.seq (.seq (.ops [
 ⟨some 10,.load (some 6) (.t 2),none⟩,
 ⟨some 11,.call (.f 43) [(.t 10)],none⟩,
 ⟨some 6,.mv (.t 11),none⟩] [1,2,6])
 (.seq (.ops [
 ⟨some 12,.mv (.t 6),none⟩,
 ⟨some 13,.bin .neq (.t 12) (.c (.int .i64 0)),none⟩] [1,2,6,13])
 (.cond (.t 13) (.seq (.ops [
 ⟨some 14,.mv (.t 6),none⟩,
 ⟨some 4,.mv (.t 14),none⟩,
 ⟨some 5,.mv (.c (.int .i64 0)),none⟩] [4,5])
 .ret)
 .skip)))
 (.seq (.seq (.ops [
 ⟨some 15,.mv (.t 1),none⟩,
 ⟨some 16,.len (.t 15),none⟩,
 ⟨some 17,.bin .gtr (.t 16) (.c (.int .i64 400)),none⟩] [1,2,17])
 (.cond (.t 17) (.seq (.ops [
 ⟨some 4,.mv (.c (.int .i64 2)),none⟩,
 ⟨some 5,.mv (.c (.int .i64 0)),none⟩] [4,5])
 .ret)
 .skip))
 (.seq (.seq (.ops [
 ⟨some 18,.mv (.t 1),none⟩,
 ⟨some 19,.len (.t 18),none⟩,
 ⟨some 20,.mv (.c (.int .i64 0)),none⟩] [1,2,18,19,20])
 (.block 0 (.loop (.seq (.ops [
 ⟨some 21,.bin .lss (.t 20) (.t 19),none⟩] [1,2,18,19,20,21])
 (.seq (.cond (.t 21) .skip
 (.exit 0))
 (.seq (.block 1 (.seq (.ops [
 ⟨some 22,.mv (.t 20),none⟩,
 ⟨some 23,.iaddr 38 (.t 18) (.t 20),none⟩,
 ⟨some 24,.load (some 38) (.t 23),none⟩,
 ⟨some 8,.alloc 68 38 z38,none⟩,
 ⟨some 7,.mv (.t 22),none⟩,
 ⟨none,.store 38 (.t 8) (.t 24),none⟩] [1,2,7,8,18,19,20])
 (.seq (.seq (.ops [
 ⟨some 25,.load (some 6) (.t 2),none⟩,
 ⟨some 26,.load (some 38) (.t 8),none⟩,
 ⟨some 27,.call (.f 106) [(.t 25),(.t 26)],none⟩,
 ⟨some 28,.un .not (.t 27),none⟩] [1,2,7,8,18,19,20,28])
 (.cond (.t 28) (.seq (.ops [
 ⟨some 29,.mv (.t 7),none⟩,
 ⟨some 4,.mv (.c (.int .i64 60)),none⟩,
 ⟨some 5,.mv (.t 29),none⟩] [4,5])
 .ret)
 .skip))
 (.seq (.seq (.ops [
 ⟨some 30,.mv (.t 7),none⟩,
 ⟨some 31,.bin .eql (.t 30) (.c (.int .i64 0)),none⟩] [1,2,7,8,18,19,20,31])
 (.cond (.t 31) (.exit 1)
 .skip))
 (.seq (.draw [
 ⟨some 32,.mv (.t 1),none⟩,
 ⟨some 33,.mv (.t 7),none⟩,
 ⟨some 34,.bin .sub (.t 33) (.c (.int .i64 1)),none⟩,
 ⟨some 35,.iaddr 38 (.t 32) (.t 34),none⟩,
 ⟨some 36,.load (some 38) (.t 35),none⟩,
 ⟨some 37,.call (.f 89) [(.t 36)],none⟩,
 ⟨some 38,.load (some 38) (.t 8),none⟩,
 ⟨some 39,.call (.f 89) [(.t 38)],none⟩,
 ⟨some 40,.call (.f 107) [(.t 37),(.t 39)],none⟩,
 ⟨some 9,.mv (.t 40),none⟩] [
 ] [1,2,7,9,18,19,20])
 (.block 2 (.seq (.ops [
 ⟨some 42,.mv (.t 9),none⟩,
 ⟨some 43,.bin .eql (.t 42) (.c (.int .i64 0)),none⟩,
 ⟨some 41,.mv (.t 43),none⟩] [1,2,7,9,18,19,20,41])
 (.cond (.t 41) (.seq (.ops [
 ⟨some 44,.mv (.t 7),none⟩,
 ⟨some 4,.mv (.c (.int .i64 61)),none⟩,
 ⟨some 5,.mv (.t 44),none⟩] [4,5])
 .ret)
 (.seq (.ops [
 ⟨some 46,.mv (.t 9),none⟩,
 ⟨some 47,.bin .gtr (.t 46) (.c (.int .i64 0)),none⟩,
 ⟨some 45,.mv (.t 47),none⟩] [1,2,7,18,19,20,45])
 (.cond (.t 45) (.seq (.ops [
 ⟨some 48,.mv (.t 7),none⟩,
 ⟨some 4,.mv (.c (.int .i64 1)),none⟩,
 ⟨some 5,.mv (.t 48),none⟩] [4,5])
 .ret)
 .skip))))))))))
 (.ops [
 ⟨some 49,.bin .add (.t 20) (.c (.int .i64 1)),none⟩,
 ⟨some 20,.mv (.t 49),none⟩] [1,2,18,19,20])))))))
 (.seq (.ops [
 ⟨some 4,.mv (.c (.int .i64 0)),none⟩,
 ⟨some 5,.mv (.c (.int .i64 0)),none⟩] [4,5])
 .ret))))),
 [.t 4,.t 5]⟩
theorem k41:chkF Tryz.prog Tryz.f41 c41=true:=by kernel_rfl
def c80:CF:=⟨30,
 (.seq (.ops [
 ⟨some 2,.box false 26 6 (.t 0),none⟩,
 ⟨some 4,.mv (.c (.int .i64 0)),none⟩] [1,2])
 (.seq (.seq (.ops [
 ⟨some 10,.load (some 6) (.t 2),none⟩,
 ⟨some 11,.call (.f 43) [(.t 10)],none⟩,
 ⟨some 5,.mv (.t 11),none⟩] [1,2,5])
 (.seq (.ops [
 ⟨some 12,.mv (.t 5),none⟩,
 ⟨some 13,.bin .neq (.t 12) (.c (.int .i64 0)),none⟩] [1,2,5,13])
 (.cond (.t 13) (.seq (.ops [
 ⟨some 14,.mv (.t 5),none⟩,
 ⟨some 4,.mv (.t 14),none⟩] [4])
 .ret)
 .skip)))
 (.seq (.seq (.ops [
 ⟨some 15,.mv (.t 1),none⟩,
 ⟨some 16,.len (.t 15),none⟩,
 ⟨some 17,.mv (.c (.int .i64 0)),none⟩] [2,15,16,17])
 (.block 0 (.loop (.seq (.ops [
 ⟨some 18,.bin .lss (.t 17) (.t 16),none⟩] [2,15,16,17,18])
 (.seq (.cond (.t 18) .skip
 (.exit 0))
 (.seq (.block 1 (.seq (.ops [
 ⟨some 19,.iaddr 1 (.t 15) (.t 17),none⟩,
 ⟨some 20,.load none (.t 19),none⟩,
 ⟨some 7,.mv (.t 20),none⟩] [2,7,15,16,17])
 (.seq (.ops [
 ⟨some 22,.load (some 6) (.t 2),none⟩,
 ⟨some 23,.mv (.t 7),none⟩,
 ⟨some 24,.call (.f 41) [(.t 22),(.t 23)],none⟩,
 ⟨some 21,.mv (.t 24),none⟩,
 ⟨some 25,.ext 0 (.t 21),none⟩,
 ⟨some 26,.ext 1 (.t 21),none⟩,
 ⟨some 8,.mv (.t 25),none⟩,
 ⟨some 9,.mv (.t 26),none⟩] [2,8,15,16,17])
 (.seq (.ops [
 ⟨some 27,.mv (.t 8),none⟩,
 ⟨some 28,.bin .neq (.t 27) (.c (.int .i64 0)),none⟩] [2,15,16,17,28])
 (.cond (.t 28) (.seq (.ops [
 ⟨some 4,.mv (.c (.int .i64 1)),none⟩] [4])
 .ret)
 .skip)))))
 (.ops [
 ⟨some 29,.bin .add (.t 17) (.c (.int .i64 1)),none⟩,
 ⟨some 17,.mv (.t 29),none⟩] [2,15,16,17])))))))
 (.seq (.ops [
 ⟨some 4,.mv (.c (.int .i64 0)),none⟩] [4])
 .ret)))),
 [.t 4]⟩
theorem k80:chkF Tryz.prog Tryz.f80 c80=true:=by kernel_rfl
def c87:CF:=⟨19,
 (.seq (.ops [
 ⟨some 2,.mv (.c (.map none)),none⟩] [0])
 (.seq (.ops [
 ⟨some 6,.mkmp 2,none⟩,
 ⟨some 3,.mv (.t 6),none⟩] [0,3])
 (.seq (.seq (.ops [
 ⟨some 7,.mv (.t 0),none⟩,
 ⟨some 8,.len (.t 7),none⟩,
 ⟨some 9,.mv (.c (.int .i64 0)),none⟩] [3,7,8,9])
 (.block 0 (.loop (.seq (.ops [
 ⟨some 10,.bin .lss (.t 9) (.t 8),none⟩] [3,7,8,9,10])
 (.seq (.cond (.t 10) .skip
 (.exit 0))
 (.seq (.block 1 (.seq (.ops [
 ⟨some 11,.iaddr 38 (.t 7) (.t 9),none⟩,
 ⟨some 12,.load (some 38) (.t 11),none⟩,
 ⟨some 5,.alloc 68 38 z38,none⟩,
 ⟨none,.store 38 (.t 5) (.t 12),none⟩] [3,5,7,8,9])
 (.draw [
 ⟨some 13,.mv (.t 3),none⟩,
 ⟨some 14,.load (some 38) (.t 5),none⟩,
 ⟨some 15,.call (.f 89) [(.t 14)],none⟩,
 ⟨some 16,.load (some 38) (.t 5),none⟩] [
 ⟨none,.mput 2 (.t 13) (.t 15) (.t 16),none⟩] [3,7,8,9])))
 (.ops [
 ⟨some 17,.bin .add (.t 9) (.c (.int .i64 1)),none⟩,
 ⟨some 9,.mv (.t 17),none⟩] [3,7,8,9])))))))
 (.seq (.ops [
 ⟨some 18,.mv (.t 3),none⟩,
 ⟨some 2,.mv (.t 18),none⟩] [2])
 .ret)))),
 [.t 2]⟩
theorem k87:chkF Tryz.prog Tryz.f87 c87=true:=by kernel_rfl
def setSz (l:List Nt):Prop:=l.length < 9223372036854775808∧∀ a∈l,ntSz a
theorem CheckNote_spec (b:Bse) (hb:bseSz b) (a:Nt) (ha:ntSz a):Pure Tryz.prog 45 [.agg b.cs,.agg a.cs] (n (if ¬ b.ok then 100 else if a.ok b then 0 else 60)):=by
  refine Pure.of_body Tryz.call45 Tryz.func45 k45 (Nat.le_of_ble_eq_true rfl) ?_
  unfold c45
  have h1:=CheckBase_spec b hb
  have h2:=formed_spec b hb a ha
  by_cases g:b.ok
  · rw [if_pos g] at h1
    rw [if_neg (fun h=>h g)]
    by_cases g2:a.ok b
    · rw [decide_eq_true g2] at h2
      rw [if_pos g2]
      (repeat' ((first|refine vn rfl ?_|simp (disch:=omega) only [wr64,W7]|refine bo (fun _=>?_) fun _=>?_|refine im fun _=>?_|((repeat refine si ?_); (first|((first|refine .inl ⟨_,_,_,_,rfl,fun _=>pu (by first|exact h1|exact h2),?_⟩|refine ⟨_,_,_,_,rfl,fun _=>pu (by first|exact h1|exact h2),?_⟩); (first|refine o1 ?_|refine o2 ?_|refine o3 ?_|refine o4 ?_)) | refine .inl ⟨_,_,_,_,rfl,pu (by first|exact h1|exact h2),?_⟩))|refine cF ?_|refine om ?_|refine an ?_|fail) <;> try simp only [zN,zT,zV,zS,zU,Q0,Q1,ex,Q2,Q3,Q4,Q5,Q6,Q7,Q8,Q9,QA,QB,QC,W0,W1,W2,W3,W4,W5,W6,reduceIte]))
      all_goals first | (exfalso; omega)|exact Frz.eq rfl (by simp)
    · rw [decide_eq_false g2] at h2
      rw [if_neg g2]
      (repeat' ((first|refine vn rfl ?_|simp (disch:=omega) only [wr64,W7]|refine bo (fun _=>?_) fun _=>?_|refine im fun _=>?_|((repeat refine si ?_); (first|((first|refine .inl ⟨_,_,_,_,rfl,fun _=>pu (by first|exact h1|exact h2),?_⟩|refine ⟨_,_,_,_,rfl,fun _=>pu (by first|exact h1|exact h2),?_⟩); (first|refine o1 ?_|refine o2 ?_|refine o3 ?_|refine o4 ?_)) | refine .inl ⟨_,_,_,_,rfl,pu (by first|exact h1|exact h2),?_⟩))|refine cF ?_|refine om ?_|refine an ?_|fail) <;> try simp only [zN,zT,zV,zS,zU,Q0,Q1,ex,Q2,Q3,Q4,Q5,Q6,Q7,Q8,Q9,QA,QB,QC,W0,W1,W2,W3,W4,W5,W6,reduceIte]))
      all_goals first | (exfalso; omega)|exact Frz.eq rfl (by simp)
  · rw [if_neg g] at h1
    rw [if_pos g]
    (repeat' ((first|refine vn rfl ?_|simp (disch:=omega) only [wr64,W7]|refine bo (fun _=>?_) fun _=>?_|refine im fun _=>?_|((repeat refine si ?_); (first|((first|refine .inl ⟨_,_,_,_,rfl,fun _=>pu h1,?_⟩|refine ⟨_,_,_,_,rfl,fun _=>pu h1,?_⟩); (first|refine o1 ?_|refine o2 ?_|refine o3 ?_|refine o4 ?_)) | refine .inl ⟨_,_,_,_,rfl,pu h1,?_⟩))|refine cF ?_|refine om ?_|refine an ?_|fail) <;> try simp only [zN,zT,zV,zS,zU,Q0,Q1,ex,Q2,Q3,Q4,Q5,Q6,Q7,Q8,Q9,QA,QB,QC,W0,W1,W2,W3,W4,W5,W6,reduceIte]))
    all_goals first | (exfalso; omega)|exact Frz.eq rfl (by simp)
theorem CheckSet_spec (b:Bse) (hb:bseSz b) (l:List Nt) (hl:setSz l):Pure Tryz.prog 41 [.agg b.cs,ntS l] (.tup [n (setE b l).1,n (setE b l).2]):=by
  refine Pure.of_body Tryz.call41 Tryz.func41 k41 (Nat.le_of_ble_eq_true rfl) ?_
  unfold c41
  have h1:=CheckBase_spec b hb
  have hl0:=hl.1
  by_cases g:b.ok
  · rw [if_pos g] at h1
    by_cases hlen:400 < l.length
    · have e:setE b l=(2,0):=by unfold setE; rw [if_neg (fun h=>h g),if_pos hlen]
      rw [e]
      (repeat' ((first|refine vn rfl ?_|simp (disch:=omega) only [wr64,W7]|refine bo (fun _=>?_) fun _=>?_|refine im fun _=>?_|((repeat refine si ?_); (first|((first|refine .inl ⟨_,_,_,_,rfl,fun _=>pu h1,?_⟩|refine ⟨_,_,_,_,rfl,fun _=>pu h1,?_⟩); (first|refine o1 ?_|refine o2 ?_|refine o3 ?_|refine o4 ?_)) | refine .inl ⟨_,_,_,_,rfl,pu h1,?_⟩))|refine cF ?_|refine om ?_|refine an ?_|fail) <;> try simp only [zN,zT,zV,zS,zU,Q0,Q1,ex,Q2,Q3,Q4,Q5,Q6,Q7,Q8,Q9,QA,QB,QC,W0,W1,W2,W3,W4,W5,W6,reduceIte]))
      all_goals first | (exfalso; omega)|exact Frz.eq rfl (by simp)
    have e:setE b l=firstE (ntE b l) l.length:=by unfold setE; rw [if_neg (fun h=>h g),if_neg hlen]
    (repeat' ((first|refine vn rfl ?_|simp (disch:=omega) only [wr64,W7]|refine bo (fun _=>?_) fun _=>?_|refine im fun _=>?_|((repeat refine si ?_); (first|((first|refine .inl ⟨_,_,_,_,rfl,fun _=>pu h1,?_⟩|refine ⟨_,_,_,_,rfl,fun _=>pu h1,?_⟩); (first|refine o1 ?_|refine o2 ?_|refine o3 ?_|refine o4 ?_)) | refine .inl ⟨_,_,_,_,rfl,pu h1,?_⟩))|refine cF ?_|refine om ?_|refine an ?_|fail) <;> try simp only [zN,zT,zV,zS,zU,Q0,Q1,ex,Q2,Q3,Q4,Q5,Q6,Q7,Q8,Q9,QA,QB,QC,W0,W1,W2,W3,W4,W5,W6,reduceIte]))
    all_goals try (exfalso; omega)
    refine AWPC.loopE (α:={ x:Nat × Sto // x.1≤l.length∧∀ j,j < x.1→ntE b l j=0 }) [20] (fun x=>[(20,n x.1.1)]) (fun x=>x.1.2) (fun x=>l.length - x.1.1) ⟨(0,[]),by simp,by simp⟩ ?_ rfl ?_
    · (simp only [zN,zT,zV,zS,zU,Q0,Q1,ex,Q2,Q3,Q4,Q5,Q6,Q7,Q8,Q9,QA,QB,QC,W0,W1,W2,W3,W4,W5,W6,reduceIte]; try simp)
    · rintro ⟨⟨i,τ⟩,hi,hI⟩
      simp only at hi hI
      by_cases hlt:i < l.length
      · have hs:(l.map Nt.cs).getD i []=Nt.cs (l.getD i default):=row default hlt
        have hp:=rowPrev (f:=Nt.cs) default hlt
        have h2:=formed_spec b hb (l.getD i default) (hl.2 _ (List.mem_of_getElem? (getD_lt default hlt)))
        have hE:ntE b l i=if ¬ (l.getD i default).ok b then 60 else if i=0 then 0 else if cmpN (l.getD (i - 1) default).nm (l.getD i default).nm=0 then 61 else if 0 < cmpN (l.getD (i - 1) default).nm (l.getD i default).nm then 1 else 0:=rfl
        have hbad:ntE b l i≠0→setE b l=(ntE b l i,i):=fun h=>by rw [e,firstE_at hlt hI h]
        generalize l.getD i default=x at hs h2 hE
        generalize l.getD (i - 1) default=y at hp hE
        have h3:=name_spec x
        have h4:=name_spec y
        have h5:=compareNames_spec y.nm x.nm
        generalize cmpN y.nm x.nm=c at h5 hE
        by_cases hok:x.ok b
        · rw [decide_eq_true hok] at h2
          rw [if_neg (fun h=>h hok)] at hE
          (repeat' ((first|refine vn rfl ?_|simp (disch:=omega) only [wr64,W7]|refine bo (fun _=>?_) fun _=>?_|refine im fun _=>?_|((repeat refine si ?_); (first|((first|refine .inl ⟨_,_,_,_,rfl,fun _=>pu (by first|exact h2|exact h3|exact h4|exact h5),?_⟩|refine ⟨_,_,_,_,rfl,fun _=>pu (by first|exact h2|exact h3|exact h4|exact h5),?_⟩); (first|refine o1 ?_|refine o2 ?_|refine o3 ?_|refine o4 ?_)) | refine .inl ⟨_,_,_,_,rfl,pu (by first|exact h2|exact h3|exact h4|exact h5),?_⟩))|refine cF ?_|refine om ?_|refine an ?_|fail) <;> try simp only [zN, zT, zV, zS, zU, Q0, Q1, ex, Q2, Q3, Q4, Q5, Q6, Q7, Q8, Q9, QA, QB, QC, W0, W1, W2, W3, W4, W5, W6, reduceIte, hs, hp]))
          all_goals try (exfalso; omega)
          all_goals first
            | (have e2:ntE b l i=61:=by rw [hE,if_neg (by omega),if_pos (by omega)]
               rw [hbad (by omega),e2]; exact Frz.eq rfl (by simp))
            | (have e2:ntE b l i=1:=by rw [hE,if_neg (by omega),if_neg (by omega),if_pos (by omega)]
               rw [hbad (by omega),e2]; exact Frz.eq rfl (by simp))
           |exact ⟨⟨(i+1,_),hlt,all_next hI (by rw [hE,if_pos (by omega)])⟩,by simp,rfl,by simp only; omega⟩
           |exact ⟨⟨(i+1,_),hlt,all_next hI (by rw [hE,if_neg (by omega),if_neg (by omega),if_neg (by omega)])⟩,by simp,rfl,by simp only; omega⟩
        · rw [decide_eq_false hok] at h2
          rw [if_pos hok] at hE
          (repeat' ((first|refine vn rfl ?_|simp (disch:=omega) only [wr64,W7]|refine bo (fun _=>?_) fun _=>?_|refine im fun _=>?_|((repeat refine si ?_); (first|((first|refine .inl ⟨_,_,_,_,rfl,fun _=>pu (by first|exact h2|exact h3|exact h4|exact h5),?_⟩|refine ⟨_,_,_,_,rfl,fun _=>pu (by first|exact h2|exact h3|exact h4|exact h5),?_⟩); (first|refine o1 ?_|refine o2 ?_|refine o3 ?_|refine o4 ?_)) | refine .inl ⟨_,_,_,_,rfl,pu (by first|exact h2|exact h3|exact h4|exact h5),?_⟩))|refine cF ?_|refine om ?_|refine an ?_|fail) <;> try simp only [zN, zT, zV, zS, zU, Q0, Q1, ex, Q2, Q3, Q4, Q5, Q6, Q7, Q8, Q9, QA, QB, QC, W0, W1, W2, W3, W4, W5, W6, reduceIte, hs, hp]))
          all_goals try (exfalso; omega)
          rw [hbad (by omega),hE]; exact Frz.eq rfl (by simp)
      · obtain rfl:i=l.length:=by omega
        (repeat' ((first|refine vn rfl ?_|simp (disch:=omega) only [wr64,W7]|refine bo (fun _=>?_) fun _=>?_|refine im fun _=>?_|refine cF ?_|refine om ?_|refine an ?_|fail) <;> try simp only [zN, zT, zV, zS, zU, Q0, Q1, ex, Q2, Q3, Q4, Q5, Q6, Q7, Q8, Q9, QA, QB, QC, W0, W1, W2, W3, W4, W5, W6, reduceIte]))
        all_goals try (exfalso; omega)
        rw [e,firstE_none hI]; exact Frz.eq rfl (by simp)
  · rw [if_neg g] at h1
    have e:setE b l=(100,0):=by unfold setE; rw [if_pos g]
    rw [e]
    (repeat' ((first|refine vn rfl ?_|simp (disch:=omega) only [wr64,W7]|refine bo (fun _=>?_) fun _=>?_|refine im fun _=>?_|((repeat refine si ?_); (first|((first|refine .inl ⟨_,_,_,_,rfl,fun _=>pu h1,?_⟩|refine ⟨_,_,_,_,rfl,fun _=>pu h1,?_⟩); (first|refine o1 ?_|refine o2 ?_|refine o3 ?_|refine o4 ?_)) | refine .inl ⟨_,_,_,_,rfl,pu h1,?_⟩))|refine cF ?_|refine om ?_|refine an ?_|fail) <;> try simp only [zN,zT,zV,zS,zU,Q0,Q1,ex,Q2,Q3,Q4,Q5,Q6,Q7,Q8,Q9,QA,QB,QC,W0,W1,W2,W3,W4,W5,W6,reduceIte]))
    all_goals first | (exfalso; omega)|exact Frz.eq rfl (by simp)
abbrev setsS (ls:List (List Nt)):AV:=.sl 1 (ls.map fun l=>[ntS l])
theorem asked_spec (b:Bse) (hb:bseSz b) (ls:List (List Nt)) (hls:ls.length < 9223372036854775808) (hl:∀ l∈ls,setSz l):Pure Tryz.prog 80 [.agg b.cs,setsS ls] (n (askedE b ls)):=by
  refine Pure.of_body Tryz.call80 Tryz.func80 k80 (Nat.le_of_ble_eq_true rfl) ?_
  unfold c80
  have h1:=CheckBase_spec b hb
  by_cases g:b.ok
  · rw [if_pos g] at h1
    have e:askedE b ls=if (ls.all fun l=>(setE b l).1 == 0)=true then 0 else 1:=by unfold askedE; rw [if_neg (fun h=>h g)]
    (repeat' ((first|refine vn rfl ?_|simp (disch:=omega) only [wr64,W7]|refine bo (fun _=>?_) fun _=>?_|refine im fun _=>?_|((repeat refine si ?_); (first|((first|refine .inl ⟨_,_,_,_,rfl,fun _=>pu h1,?_⟩|refine ⟨_,_,_,_,rfl,fun _=>pu h1,?_⟩); (first|refine o1 ?_|refine o2 ?_|refine o3 ?_|refine o4 ?_)) | refine .inl ⟨_,_,_,_,rfl,pu h1,?_⟩))|refine cF ?_|refine om ?_|refine an ?_|fail) <;> try simp only [zN,zT,zV,zS,zU,Q0,Q1,ex,Q2,Q3,Q4,Q5,Q6,Q7,Q8,Q9,QA,QB,QC,W0,W1,W2,W3,W4,W5,W6,reduceIte]))
    all_goals try (exfalso; omega)
    refine AWPC.loopI 17 ls.length (fun i=>(ls.drop i).all (fun l=>(setE b l).1 == 0)=ls.all fun l=>(setE b l).1 == 0) (by simp) ?_ ?_
    · (simp only [zN,zT,zV,zS,zU,Q0,Q1,ex,Q2,Q3,Q4,Q5,Q6,Q7,Q8,Q9,QA,QB,QC,W0,W1,W2,W3,W4,W5,W6,reduceIte]; try simp)
    · intro i hi hI
      by_cases hlt:i < ls.length
      · have hs:(ls.map fun l=>[ntS l]).getD i []=[ntS (ls.getD i [])]:=row (f:=fun l=>[ntS l]) [] hlt
        have h2:=CheckSet_spec b hb (ls.getD i []) (hl _ (List.mem_of_getElem? (getD_lt [] hlt)))
        rw [drop_cons (getD_lt [] hlt),List.all_cons] at hI
        generalize ls.getD i []=l at hs h2 hI
        (repeat' ((first|refine vn rfl ?_|simp (disch:=omega) only [wr64,W7]|refine bo (fun _=>?_) fun _=>?_|refine im fun _=>?_|((repeat refine si ?_); (first|((first|refine .inl ⟨_,_,_,_,rfl,fun _=>pu h2,?_⟩|refine ⟨_,_,_,_,rfl,fun _=>pu h2,?_⟩); (first|refine o1 ?_|refine o2 ?_|refine o3 ?_|refine o4 ?_)) | refine .inl ⟨_,_,_,_,rfl,pu h2,?_⟩))|refine cF ?_|refine om ?_|refine an ?_|fail) <;> try simp only [zN, zT, zV, zS, zU, Q0, Q1, ex, Q2, Q3, Q4, Q5, Q6, Q7, Q8, Q9, QA, QB, QC, W0, W1, W2, W3, W4, W5, W6, reduceIte, hs]))
        all_goals try (exfalso; omega)
        · rename_i h
          rw [show ((setE b l).1 == 0)=false by simpa using h,Bool.false_and] at hI
          rw [e,← hI]; exact Frz.eq rfl (by simp)
        · rename_i h
          rw [show ((setE b l).1 == 0)=true by simpa using h,Bool.true_and] at hI
          exact ⟨⟨i+1,hlt,hI⟩,by simp,by simp only; omega⟩
      · obtain rfl:i=ls.length:=by omega
        rw [List.drop_length] at hI
        (repeat' ((first|refine vn rfl ?_|simp (disch:=omega) only [wr64,W7]|refine bo (fun _=>?_) fun _=>?_|refine im fun _=>?_|refine cF ?_|refine om ?_|refine an ?_|fail) <;> try simp only [zN, zT, zV, zS, zU, Q0, Q1, ex, Q2, Q3, Q4, Q5, Q6, Q7, Q8, Q9, QA, QB, QC, W0, W1, W2, W3, W4, W5, W6, reduceIte]))
        all_goals try (exfalso; omega)
        rw [e,← hI]; exact Frz.eq rfl (by simp)
  · rw [if_neg g] at h1
    have e:askedE b ls=100:=by unfold askedE; rw [if_pos g]
    rw [e]
    (repeat' ((first|refine vn rfl ?_|simp (disch:=omega) only [wr64,W7]|refine bo (fun _=>?_) fun _=>?_|refine im fun _=>?_|((repeat refine si ?_); (first|((first|refine .inl ⟨_,_,_,_,rfl,fun _=>pu h1,?_⟩|refine ⟨_,_,_,_,rfl,fun _=>pu h1,?_⟩); (first|refine o1 ?_|refine o2 ?_|refine o3 ?_|refine o4 ?_)) | refine .inl ⟨_,_,_,_,rfl,pu h1,?_⟩))|refine cF ?_|refine om ?_|refine an ?_|fail) <;> try simp only [zN,zT,zV,zS,zU,Q0,Q1,ex,Q2,Q3,Q4,Q5,Q6,Q7,Q8,Q9,QA,QB,QC,W0,W1,W2,W3,W4,W5,W6,reduceIte]))
    all_goals first | (exfalso; omega)|exact Frz.eq rfl (by simp)
abbrev ntA (a:Nt):AV:=.agg a.cs
theorem byName_next {l:List Nt} {i:Nat} {a:Nt} (h:l[i]?=some a):byName (l.take (i+1))=kset (byName (l.take i)) a.nm a:=by
  have e:l.take (i+1)=l.take i++[a]:=by rw [List.take_add_one,h]; rfl
  unfold byName
  rw [e,List.foldl_append]; rfl
theorem byName_spec (l:List Nt) (hl:setSz l):Pure Tryz.prog 87 [ntS l] (.imap 2 (kenc ntA (byName l))):=by
  refine Pure.of_body Tryz.call87 Tryz.func87 k87 (Nat.le_of_ble_eq_true rfl) ?_
  unfold c87
  have hl0:=hl.1
  (repeat' ((first|refine vn rfl ?_|simp (disch:=omega) only [wr64,W7]|refine bo (fun _=>?_) fun _=>?_|refine im fun _=>?_|refine cF ?_|refine om ?_|refine an ?_|fail) <;> try simp only [zN,zT,zV,zS,zU,Q0,Q1,ex,Q2,Q3,Q4,Q5,Q6,Q7,Q8,Q9,QA,QB,QC,W0,W1,W2,W3,W4,W5,W6,reduceIte]))
  refine AWPC.loopE (α:={ x:Nat × Sto // x.1≤l.length }) [9] (fun x=>[(9,n x.1.1)]) (fun x=>some [⟨0,0,[],some (.mp 2 (kenc ntA (byName (l.take x.1.1))))⟩]::x.1.2) (fun x=>l.length - x.1.1) ⟨(0,[]),by simp⟩ ?_ ?_ ?_
  · (simp only [zN,zT,zV,zS,zU,Q0,Q1,ex,Q2,Q3,Q4,Q5,Q6,Q7,Q8,Q9,QA,QB,QC,W0,W1,W2,W3,W4,W5,W6,reduceIte]; try simp)
  · rfl
  · rintro ⟨⟨i,ν⟩,hi⟩
    simp only at hi
    by_cases hlt:i < l.length
    · have hs:(l.map Nt.cs).getD i []=Nt.cs (l.getD i default):=row default hlt
      have hn:=byName_next (getD_lt default hlt)
      generalize l.getD i default=a at hs hn
      have hk:mset (kenc ntA (byName (l.take i))) [a.clerk,a.num] (.agg a.cs)=kenc ntA (byName (l.take (i+1))):=by rw [hn]; exact mset_kenc ntA a.nm a _
      generalize kenc ntA (byName (l.take i))=M at hk
      generalize hM':kenc ntA (byName (l.take (i+1)))=M' at hk
      (repeat' ((first|refine vn rfl ?_|simp (disch:=omega) only [wr64,W7]|refine bo (fun _=>?_) fun _=>?_|refine im fun _=>?_|((repeat refine si ?_); (first|((first|refine .inl ⟨_,_,_,_,rfl,fun _=>pu (name_spec a),?_⟩|refine ⟨_,_,_,_,rfl,fun _=>pu (name_spec a),?_⟩); (first|refine o1 ?_|refine o2 ?_|refine o3 ?_|refine o4 ?_)) | refine .inl ⟨_,_,_,_,rfl,pu (name_spec a),?_⟩))|refine cF ?_|refine om ?_|refine an ?_|fail) <;> try simp only [zN,zT,zV,zS,zU,Q0,Q1,ex,Q2,Q3,Q4,Q5,Q6,Q7,Q8,Q9,QA,QB,QC,W0,W1,W2,W3,W4,W5,W6,reduceIte,hs,hk]))
      all_goals try (exfalso; omega)
      exact ⟨⟨(i+1,ν++[some [⟨68,38,[a.cs],none⟩]]),hlt⟩,by simp,by simp only [hM'],by simp only; omega⟩
    · obtain rfl:i=l.length:=by omega
      rw [List.take_length]
      (repeat' ((first|refine vn rfl ?_|simp (disch:=omega) only [wr64,W7]|refine bo (fun _=>?_) fun _=>?_|refine im fun _=>?_|refine cF ?_|refine om ?_|refine an ?_|fail) <;> try simp only [zN,zT,zV,zS,zU,Q0,Q1,ex,Q2,Q3,Q4,Q5,Q6,Q7,Q8,Q9,QA,QB,QC,W0,W1,W2,W3,W4,W5,W6,reduceIte]))
      all_goals try (exfalso; omega)
      exact Frz.mp (o:=⟨0,0,[],some (.mp 2 (kenc ntA (byName l)))⟩) rfl rfl rfl (fun i hi=>rfl) fun i hi=>Frz.eq rfl (by
        simp only [kenc,List.length_map] at hi
        rw [List.getD_eq_getElem?_getD,List.getElem?_map,List.getElem?_eq_getElem hi]
        simp)
end Go.Proofs.YtolgelipcgcbhaaGreat
