/- Part 5 of the texts that the claim rests on: abstract values over the walk, and contracts of functions. -/
import Derived.Test.YtolgelipcgcbhaaGreatBc4
import Derived.Test.YtolgelipcgcbhaaGreatRows
namespace Go.Proofs.YtolgelipcgcbhaaGreat
open Go.Abs
open Nat renaming reduceBEq→W0,reduceAdd→W1,reduceSub→W2,reduceLT→W3,reduceLeDiff→W4,reduceMul→W5,reduceEqDiff→W6
open Int renaming zero_sub→W7
open Go.Abs renaming vcC→Q0,lateX→Q1,strp→Q2,binA→Q3,elems→Q4,cells→Q5,scalar→Q6,eqC→Q7,keyA→Q8,intsA→Q9,lookA→QA,ofVs→QB,mpOf→QC
set_option linter.unusedVariables false
set_option linter.unusedSimpArgs false
set_option maxHeartbeats 4000000
set_option maxRecDepth 100000
def c113:CF:=⟨15,
 (.seq (.ops [
 ⟨some 6,.mv (.c (.bool false)),none⟩] [0,1,2])
 (.seq (.ops [
 ⟨some 7,.mv (.t 1),none⟩,
 ⟨some 8,.mv (.t 0),none⟩,
 ⟨some 9,.bin .leq (.t 7) (.t 8),none⟩,
 ⟨some 10,.mv (.t 9),none⟩,
 ⟨some 11,.mv (.t 0),some (10,true)⟩,
 ⟨some 12,.mv (.t 2),some (10,true)⟩,
 ⟨some 13,.bin .leq (.t 11) (.t 12),some (10,true)⟩,
 ⟨some 14,.pick (.t 10) (.t 13) (.c (.bool false)),none⟩,
 ⟨some 6,.mv (.t 14),none⟩] [6])
 .ret)),
 [.t 6]⟩
theorem k113:chkF Tryz.prog Tryz.f113 c113=true:=by kernel_rfl
def c176:CF:=⟨15,
 (.seq (.ops [
 ⟨some 6,.mv (.c (.bool false)),none⟩] [0,1,2])
 (.seq (.ops [
 ⟨some 7,.mv (.t 1),none⟩,
 ⟨some 8,.mv (.t 0),none⟩,
 ⟨some 9,.bin .leq (.t 7) (.t 8),none⟩,
 ⟨some 10,.mv (.t 9),none⟩,
 ⟨some 11,.mv (.t 0),some (10,true)⟩,
 ⟨some 12,.mv (.t 2),some (10,true)⟩,
 ⟨some 13,.bin .leq (.t 11) (.t 12),some (10,true)⟩,
 ⟨some 14,.pick (.t 10) (.t 13) (.c (.bool false)),none⟩,
 ⟨some 6,.mv (.t 14),none⟩] [6])
 .ret)),
 [.t 6]⟩
theorem k176:chkF Tryz.prog Tryz.f176 c176=true:=by kernel_rfl
def c253:CF:=⟨15,
 (.seq (.ops [
 ⟨some 6,.mv (.c (.bool false)),none⟩] [0,1,2])
 (.seq (.ops [
 ⟨some 7,.mv (.t 1),none⟩,
 ⟨some 8,.mv (.t 0),none⟩,
 ⟨some 9,.bin .leq (.t 7) (.t 8),none⟩,
 ⟨some 10,.mv (.t 9),none⟩,
 ⟨some 11,.mv (.t 0),some (10,true)⟩,
 ⟨some 12,.mv (.t 2),some (10,true)⟩,
 ⟨some 13,.bin .leq (.t 11) (.t 12),some (10,true)⟩,
 ⟨some 14,.pick (.t 10) (.t 13) (.c (.bool false)),none⟩,
 ⟨some 6,.mv (.t 14),none⟩] [6])
 .ret)),
 [.t 6]⟩
theorem k253:chkF Tryz.prog Tryz.f253 c253=true:=by kernel_rfl
def c255:CF:=⟨15,
 (.seq (.ops [
 ⟨some 6,.mv (.c (.bool false)),none⟩] [0,1,2])
 (.seq (.ops [
 ⟨some 7,.mv (.t 1),none⟩,
 ⟨some 8,.mv (.t 0),none⟩,
 ⟨some 9,.bin .leq (.t 7) (.t 8),none⟩,
 ⟨some 10,.mv (.t 9),none⟩,
 ⟨some 11,.mv (.t 0),some (10,true)⟩,
 ⟨some 12,.mv (.t 2),some (10,true)⟩,
 ⟨some 13,.bin .leq (.t 11) (.t 12),some (10,true)⟩,
 ⟨some 14,.pick (.t 10) (.t 13) (.c (.bool false)),none⟩,
 ⟨some 6,.mv (.t 14),none⟩] [6])
 .ret)),
 [.t 6]⟩
theorem k255:chkF Tryz.prog Tryz.f255 c255=true:=by kernel_rfl
def c256:CF:=⟨15,
 (.seq (.ops [
 ⟨some 6,.mv (.c (.bool false)),none⟩] [0,1,2])
 (.seq (.ops [
 ⟨some 7,.mv (.t 1),none⟩,
 ⟨some 8,.mv (.t 0),none⟩,
 ⟨some 9,.bin .leq (.t 7) (.t 8),none⟩,
 ⟨some 10,.mv (.t 9),none⟩,
 ⟨some 11,.mv (.t 0),some (10,true)⟩,
 ⟨some 12,.mv (.t 2),some (10,true)⟩,
 ⟨some 13,.bin .leq (.t 11) (.t 12),some (10,true)⟩,
 ⟨some 14,.pick (.t 10) (.t 13) (.c (.bool false)),none⟩,
 ⟨some 6,.mv (.t 14),none⟩] [6])
 .ret)),
 [.t 6]⟩
theorem k256:chkF Tryz.prog Tryz.f256 c256=true:=by kernel_rfl
def c252:CF:=⟨16,
 (.seq (.ops [
 ⟨some 1,.box false 164 3 (.t 0),none⟩,
 ⟨some 2,.mv (.c (.bool false)),none⟩] [1])
 (.seq (.ops [
 ⟨some 3,.faddr 0 (.t 1),none⟩,
 ⟨some 4,.load none (.t 3),none⟩,
 ⟨some 5,.call (.f 253) [(.t 4),(.c (.int .i64 0)),(.c (.int .i64 400000))],none⟩,
 ⟨some 6,.mv (.t 5),none⟩,
 ⟨some 7,.faddr 1 (.t 1),some (6,true)⟩,
 ⟨some 8,.load none (.t 7),some (6,true)⟩,
 ⟨some 9,.call (.f 253) [(.t 8),(.c (.int .i64 0)),(.c (.int .i64 400000))],some (6,true)⟩,
 ⟨some 10,.pick (.t 6) (.t 9) (.c (.bool false)),none⟩,
 ⟨some 11,.mv (.t 10),none⟩,
 ⟨some 12,.faddr 2 (.t 1),some (11,true)⟩,
 ⟨some 13,.load none (.t 12),some (11,true)⟩,
 ⟨some 14,.call (.f 253) [(.t 13),(.c (.int .i64 0)),(.c (.int .i64 5000))],some (11,true)⟩,
 ⟨some 15,.pick (.t 11) (.t 14) (.c (.bool false)),none⟩,
 ⟨some 2,.mv (.t 15),none⟩] [2])
 .ret)),
 [.t 2]⟩
theorem k252:chkF Tryz.prog Tryz.f252 c252=true:=by kernel_rfl
def c254:CF:=⟨18,
 (.seq (.ops [
 ⟨some 1,.box false 48 2 (.t 0),none⟩,
 ⟨some 2,.mv (.c (.bool false)),none⟩] [1])
 (.seq (.ops [
 ⟨some 3,.faddr 0 (.t 1),none⟩,
 ⟨some 4,.load none (.t 3),none⟩,
 ⟨some 5,.bin .leq (.c (.int .i64 900)) (.t 4),none⟩,
 ⟨some 6,.mv (.t 5),none⟩,
 ⟨some 7,.faddr 0 (.t 1),some (6,true)⟩,
 ⟨some 8,.load none (.t 7),some (6,true)⟩,
 ⟨some 9,.faddr 1 (.t 1),some (6,true)⟩,
 ⟨some 10,.load none (.t 9),some (6,true)⟩,
 ⟨some 11,.bin .leq (.t 8) (.t 10),some (6,true)⟩,
 ⟨some 12,.pick (.t 6) (.t 11) (.c (.bool false)),none⟩,
 ⟨some 13,.mv (.t 12),none⟩,
 ⟨some 14,.faddr 1 (.t 1),some (13,true)⟩,
 ⟨some 15,.load none (.t 14),some (13,true)⟩,
 ⟨some 16,.bin .leq (.t 15) (.c (.int .i64 1100)),some (13,true)⟩,
 ⟨some 17,.pick (.t 13) (.t 16) (.c (.bool false)),none⟩,
 ⟨some 2,.mv (.t 17),none⟩] [2])
 .ret)),
 [.t 2]⟩
theorem k254:chkF Tryz.prog Tryz.f254 c254=true:=by kernel_rfl
def c239:CF:=⟨21,
 (.seq (.ops [
 ⟨some 2,.mv (.c (.int .i64 0)),none⟩,
 ⟨some 3,.mv (.c (.int .i64 0)),none⟩] [0])
 (.seq (.seq (.ops [
 ⟨some 5,.mv (.t 0),none⟩,
 ⟨some 6,.len (.t 5),none⟩,
 ⟨some 7,.bin .gtr (.t 6) (.c (.int .i64 2000)),none⟩] [0,7])
 (.cond (.t 7) (.seq (.ops [
 ⟨some 2,.mv (.c (.int .i64 2)),none⟩,
 ⟨some 3,.mv (.c (.int .i64 0)),none⟩] [2,3])
 .ret)
 .skip))
 (.seq (.seq (.ops [
 ⟨some 4,.mv (.c (.int .i64 0)),none⟩] [0,4])
 (.block 0 (.loop (.seq (.seq (.ops [
 ⟨some 8,.mv (.t 4),none⟩,
 ⟨some 9,.mv (.t 0),none⟩,
 ⟨some 10,.len (.t 9),none⟩,
 ⟨some 11,.bin .lss (.t 8) (.t 10),none⟩] [0,4,11])
 (.cond (.t 11) .skip
 (.exit 0)))
 (.seq (.block 1 (.seq (.ops [
 ⟨some 14,.mv (.t 0),none⟩,
 ⟨some 15,.mv (.t 4),none⟩,
 ⟨some 16,.iaddr 3 (.t 14) (.t 15),none⟩,
 ⟨some 17,.load (some 3) (.t 16),none⟩,
 ⟨some 18,.call (.f 252) [(.t 17)],none⟩,
 ⟨some 19,.un .not (.t 18),none⟩] [0,4,19])
 (.cond (.t 19) (.seq (.ops [
 ⟨some 20,.mv (.t 4),none⟩,
 ⟨some 2,.mv (.c (.int .i64 11)),none⟩,
 ⟨some 3,.mv (.t 20),none⟩] [2,3])
 .ret)
 .skip)))
 (.ops [
 ⟨some 12,.mv (.t 4),none⟩,
 ⟨some 13,.bin .add (.t 12) (.c (.int .i64 1)),none⟩,
 ⟨some 4,.mv (.t 13),none⟩] [0,4]))))))
 (.seq (.ops [
 ⟨some 2,.mv (.c (.int .i64 0)),none⟩,
 ⟨some 3,.mv (.c (.int .i64 0)),none⟩] [2,3])
 .ret)))),
 [.t 2,.t 3]⟩
theorem k239:chkF Tryz.prog Tryz.f239 c239=true:=by kernel_rfl
def c240:CF:=⟨69,
 (.seq (.ops [
 ⟨some 1,.box false 50 10 (.t 0),none⟩,
 ⟨some 2,.mv (.c (.int .i64 0)),none⟩] [1])
 (.seq (.seq (.ops [
 ⟨some 3,.faddr 0 (.t 1),none⟩,
 ⟨some 4,.load none (.t 3),none⟩,
 ⟨some 5,.call (.f 253) [(.t 4),(.c (.int .i64 1)),(.c (.int .i64 10000))],none⟩,
 ⟨some 6,.un .not (.t 5),none⟩,
 ⟨some 7,.mv (.t 6),none⟩,
 ⟨some 8,.faddr 1 (.t 1),some (7,false)⟩,
 ⟨some 9,.load none (.t 8),some (7,false)⟩,
 ⟨some 10,.call (.f 253) [(.t 9),(.c (.int .i64 1)),(.c (.int .i64 400000))],some (7,false)⟩,
 ⟨some 11,.un .not (.t 10),some (7,false)⟩,
 ⟨some 12,.pick (.t 7) (.c (.bool true)) (.t 11),none⟩,
 ⟨some 13,.mv (.t 12),none⟩,
 ⟨some 14,.faddr 5 (.t 1),some (13,false)⟩,
 ⟨some 15,.load none (.t 14),some (13,false)⟩,
 ⟨some 16,.call (.f 253) [(.t 15),(.c (.int .i64 1)),(.c (.int .i64 200))],some (13,false)⟩,
 ⟨some 17,.un .not (.t 16),some (13,false)⟩,
 ⟨some 18,.pick (.t 13) (.c (.bool true)) (.t 17),none⟩,
 ⟨some 19,.mv (.t 18),none⟩,
 ⟨some 20,.faddr 6 (.t 1),some (19,false)⟩,
 ⟨some 21,.load (some 2) (.t 20),some (19,false)⟩,
 ⟨some 22,.call (.f 254) [(.t 21)],some (19,false)⟩,
 ⟨some 23,.un .not (.t 22),some (19,false)⟩,
 ⟨some 24,.pick (.t 19) (.c (.bool true)) (.t 23),none⟩,
 ⟨some 25,.mv (.t 24),none⟩,
 ⟨some 26,.faddr 8 (.t 1),some (25,false)⟩,
 ⟨some 27,.load (some 2) (.t 26),some (25,false)⟩,
 ⟨some 28,.call (.f 254) [(.t 27)],some (25,false)⟩,
 ⟨some 29,.un .not (.t 28),some (25,false)⟩,
 ⟨some 30,.pick (.t 25) (.c (.bool true)) (.t 29),none⟩] [1,30])
 (.cond (.t 30) (.seq (.ops [
 ⟨some 2,.mv (.c (.int .i64 10)),none⟩] [2])
 .ret)
 .skip))
 (.seq (.seq (.ops [
 ⟨some 31,.faddr 2 (.t 1),none⟩,
 ⟨some 32,.load none (.t 31),none⟩,
 ⟨some 33,.bin .neq (.t 32) (.c (.int .i64 0)),none⟩,
 ⟨some 34,.mv (.t 33),none⟩,
 ⟨some 35,.faddr 2 (.t 1),some (34,true)⟩,
 ⟨some 36,.load none (.t 35),some (34,true)⟩,
 ⟨some 37,.faddr 1 (.t 1),some (34,true)⟩,
 ⟨some 38,.load none (.t 37),some (34,true)⟩,
 ⟨some 39,.call (.f 253) [(.t 36),(.t 38),(.c (.int .i64 4000000))],some (34,true)⟩,
 ⟨some 40,.un .not (.t 39),some (34,true)⟩,
 ⟨some 41,.pick (.t 34) (.t 40) (.c (.bool false)),none⟩,
 ⟨some 42,.mv (.t 41),none⟩,
 ⟨some 43,.faddr 3 (.t 1),some (42,false)⟩,
 ⟨some 44,.load none (.t 43),some (42,false)⟩,
 ⟨some 45,.bin .lss (.t 44) (.c (.int .i64 0)),some (42,false)⟩,
 ⟨some 46,.pick (.t 42) (.c (.bool true)) (.t 45),none⟩,
 ⟨some 47,.mv (.t 46),none⟩,
 ⟨some 48,.faddr 3 (.t 1),some (47,false)⟩,
 ⟨some 49,.load none (.t 48),some (47,false)⟩,
 ⟨some 50,.faddr 4 (.t 1),some (47,false)⟩,
 ⟨some 51,.load none (.t 50),some (47,false)⟩,
 ⟨some 52,.bin .geq (.t 49) (.t 51),some (47,false)⟩,
 ⟨some 53,.pick (.t 47) (.c (.bool true)) (.t 52),none⟩,
 ⟨some 54,.mv (.t 53),none⟩,
 ⟨some 55,.faddr 4 (.t 1),some (54,false)⟩,
 ⟨some 56,.load none (.t 55),some (54,false)⟩,
 ⟨some 57,.bin .gtr (.t 56) (.c (.int .i64 12000)),some (54,false)⟩,
 ⟨some 58,.pick (.t 54) (.c (.bool true)) (.t 57),none⟩,
 ⟨some 59,.mv (.t 58),none⟩,
 ⟨some 60,.faddr 4 (.t 1),some (59,false)⟩,
 ⟨some 61,.load none (.t 60),some (59,false)⟩,
 ⟨some 62,.faddr 3 (.t 1),some (59,false)⟩,
 ⟨some 63,.load none (.t 62),some (59,false)⟩,
 ⟨some 64,.bin .sub (.t 61) (.t 63),some (59,false)⟩,
 ⟨some 65,.faddr 1 (.t 1),some (59,false)⟩,
 ⟨some 66,.load none (.t 65),some (59,false)⟩,
 ⟨some 67,.bin .gtr (.t 64) (.t 66),some (59,false)⟩,
 ⟨some 68,.pick (.t 59) (.c (.bool true)) (.t 67),none⟩] [68])
 (.cond (.t 68) (.seq (.ops [
 ⟨some 2,.mv (.c (.int .i64 10)),none⟩] [2])
 .ret)
 .skip))
 (.seq (.ops [
 ⟨some 2,.mv (.c (.int .i64 0)),none⟩] [2])
 .ret)))),
 [.t 2]⟩
theorem k240:chkF Tryz.prog Tryz.f240 c240=true:=by kernel_rfl
def c242:CF:=⟨44,
 (.seq (.ops [
 ⟨some 1,.box false 58 4 (.t 0),none⟩,
 ⟨some 2,.mv (.c (.int .i64 0)),none⟩] [1])
 (.seq (.seq (.ops [
 ⟨some 3,.faddr 0 (.t 1),none⟩,
 ⟨some 4,.load none (.t 3),none⟩,
 ⟨some 5,.call (.f 256) [(.t 4),(.c (.int .i64 0)),(.c (.int .i64 8))],none⟩,
 ⟨some 6,.un .not (.t 5),none⟩,
 ⟨some 7,.mv (.t 6),none⟩,
 ⟨some 8,.faddr 1 (.t 1),some (7,false)⟩,
 ⟨some 9,.faddr 0 (.t 8),some (7,false)⟩,
 ⟨some 10,.load none (.t 9),some (7,false)⟩,
 ⟨some 11,.bin .lss (.t 10) (.c (.int .i64 (-200))),some (7,false)⟩,
 ⟨some 12,.pick (.t 7) (.c (.bool true)) (.t 11),none⟩,
 ⟨some 13,.mv (.t 12),none⟩,
 ⟨some 14,.faddr 1 (.t 1),some (13,false)⟩,
 ⟨some 15,.faddr 0 (.t 14),some (13,false)⟩,
 ⟨some 16,.load none (.t 15),some (13,false)⟩,
 ⟨some 17,.faddr 1 (.t 1),some (13,false)⟩,
 ⟨some 18,.faddr 1 (.t 17),some (13,false)⟩,
 ⟨some 19,.load none (.t 18),some (13,false)⟩,
 ⟨some 20,.bin .gtr (.t 16) (.t 19),some (13,false)⟩,
 ⟨some 21,.pick (.t 13) (.c (.bool true)) (.t 20),none⟩,
 ⟨some 22,.mv (.t 21),none⟩,
 ⟨some 23,.faddr 1 (.t 1),some (22,false)⟩,
 ⟨some 24,.faddr 1 (.t 23),some (22,false)⟩,
 ⟨some 25,.load none (.t 24),some (22,false)⟩,
 ⟨some 26,.bin .gtr (.t 25) (.c (.int .i64 200)),some (22,false)⟩,
 ⟨some 27,.pick (.t 22) (.c (.bool true)) (.t 26),none⟩,
 ⟨some 28,.mv (.t 27),none⟩,
 ⟨some 29,.faddr 1 (.t 1),some (28,false)⟩,
 ⟨some 30,.faddr 1 (.t 29),some (28,false)⟩,
 ⟨some 31,.load none (.t 30),some (28,false)⟩,
 ⟨some 32,.faddr 1 (.t 1),some (28,false)⟩,
 ⟨some 33,.faddr 0 (.t 32),some (28,false)⟩,
 ⟨some 34,.load none (.t 33),some (28,false)⟩,
 ⟨some 35,.bin .sub (.t 31) (.t 34),some (28,false)⟩,
 ⟨some 36,.bin .gtr (.t 35) (.c (.int .i64 40)),some (28,false)⟩,
 ⟨some 37,.pick (.t 28) (.c (.bool true)) (.t 36),none⟩,
 ⟨some 38,.mv (.t 37),none⟩,
 ⟨some 39,.faddr 3 (.t 1),some (38,false)⟩,
 ⟨some 40,.load none (.t 39),some (38,false)⟩,
 ⟨some 41,.call (.f 256) [(.t 40),(.c (.int .i64 0)),(.c (.int .i64 12000))],some (38,false)⟩,
 ⟨some 42,.un .not (.t 41),some (38,false)⟩,
 ⟨some 43,.pick (.t 38) (.c (.bool true)) (.t 42),none⟩] [43])
 (.cond (.t 43) (.seq (.ops [
 ⟨some 2,.mv (.c (.int .i64 30)),none⟩] [2])
 .ret)
 .skip))
 (.seq (.ops [
 ⟨some 2,.mv (.c (.int .i64 0)),none⟩] [2])
 .ret))),
 [.t 2]⟩
theorem k242:chkF Tryz.prog Tryz.f242 c242=true:=by kernel_rfl
def c112:CF:=⟨13,
 (.seq (.ops [
 ⟨some 1,.box false 24 2 (.t 0),none⟩,
 ⟨some 2,.mv (.c (.int .i64 0)),none⟩] [1])
 (.seq (.seq (.ops [
 ⟨some 3,.faddr 0 (.t 1),none⟩,
 ⟨some 4,.load none (.t 3),none⟩,
 ⟨some 5,.call (.f 176) [(.t 4),(.c (.int .i64 0)),(.c (.int .i64 12000))],none⟩,
 ⟨some 6,.un .not (.t 5),none⟩,
 ⟨some 7,.mv (.t 6),none⟩,
 ⟨some 8,.faddr 1 (.t 1),some (7,false)⟩,
 ⟨some 9,.load none (.t 8),some (7,false)⟩,
 ⟨some 10,.call (.f 176) [(.t 9),(.c (.int .i64 0)),(.c (.int .i64 10000))],some (7,false)⟩,
 ⟨some 11,.un .not (.t 10),some (7,false)⟩,
 ⟨some 12,.pick (.t 7) (.c (.bool true)) (.t 11),none⟩] [12])
 (.cond (.t 12) (.seq (.ops [
 ⟨some 2,.mv (.c (.int .i64 1)),none⟩] [2])
 .ret)
 .skip))
 (.seq (.ops [
 ⟨some 2,.mv (.c (.int .i64 0)),none⟩] [2])
 .ret))),
 [.t 2]⟩
theorem k112:chkF Tryz.prog Tryz.f112 c112=true:=by kernel_rfl
def c174:CF:=⟨16,
 (.seq (.ops [
 ⟨some 1,.box false 109 4 (.t 0),none⟩,
 ⟨some 2,.mv (.c (.bool false)),none⟩] [1])
 (.seq (.ops [
 ⟨some 3,.faddr 0 (.t 1),none⟩,
 ⟨some 4,.load none (.t 3),none⟩,
 ⟨some 5,.call (.f 176) [(.t 4),(.c (.int .i64 1)),(.c (.int .i64 65535))],none⟩,
 ⟨some 6,.mv (.t 5),none⟩,
 ⟨some 7,.faddr 1 (.t 1),some (6,true)⟩,
 ⟨some 8,.load none (.t 7),some (6,true)⟩,
 ⟨some 9,.call (.f 176) [(.t 8),(.c (.int .i64 0)),(.c (.int .i64 2000))],some (6,true)⟩,
 ⟨some 10,.pick (.t 6) (.t 9) (.c (.bool false)),none⟩,
 ⟨some 11,.mv (.t 10),none⟩,
 ⟨some 12,.faddr 2 (.t 1),some (11,true)⟩,
 ⟨some 13,.load none (.t 12),some (11,true)⟩,
 ⟨some 14,.call (.f 176) [(.t 13),(.c (.int .i64 0)),(.c (.int .i64 2000))],some (11,true)⟩,
 ⟨some 15,.pick (.t 11) (.t 14) (.c (.bool false)),none⟩,
 ⟨some 2,.mv (.t 15),none⟩] [2])
 .ret)),
 [.t 2]⟩
theorem k174:chkF Tryz.prog Tryz.f174 c174=true:=by kernel_rfl
def c175:CF:=⟨78,
 (.seq (.ops [
 ⟨some 2,.mv (.c (.bool false)),none⟩] [0])
 (.seq (.seq (.ops [
 ⟨some 4,.mv (.t 0),none⟩,
 ⟨some 5,.len (.t 4),none⟩,
 ⟨some 6,.call (.f 176) [(.t 5),(.c (.int .i64 1)),(.c (.int .i64 16))],none⟩,
 ⟨some 7,.un .not (.t 6),none⟩,
 ⟨some 8,.mv (.t 7),none⟩,
 ⟨some 9,.mv (.t 0),some (8,false)⟩,
 ⟨some 10,.iaddr 3 (.t 9) (.c (.int .i64 0)),some (8,false)⟩,
 ⟨some 11,.faddr 0 (.t 10),some (8,false)⟩,
 ⟨some 12,.load none (.t 11),some (8,false)⟩,
 ⟨some 13,.bin .neq (.t 12) (.c (.int .i64 0)),some (8,false)⟩,
 ⟨some 14,.pick (.t 8) (.c (.bool true)) (.t 13),none⟩] [0,14])
 (.cond (.t 14) (.seq (.ops [
 ⟨some 2,.mv (.c (.bool false)),none⟩] [2])
 .ret)
 .skip))
 (.seq (.seq (.ops [
 ⟨some 3,.mv (.c (.int .i64 0)),none⟩] [0,3])
 (.block 0 (.loop (.seq (.seq (.ops [
 ⟨some 15,.mv (.t 3),none⟩,
 ⟨some 16,.mv (.t 0),none⟩,
 ⟨some 17,.len (.t 16),none⟩,
 ⟨some 18,.bin .lss (.t 15) (.t 17),none⟩] [0,3,18])
 (.cond (.t 18) .skip
 (.exit 0)))
 (.seq (.block 1 (.seq (.draw [
 ⟨some 21,.mv (.t 0),none⟩,
 ⟨some 22,.mv (.t 3),none⟩,
 ⟨some 23,.iaddr 3 (.t 21) (.t 22),none⟩,
 ⟨some 24,.faddr 0 (.t 23),none⟩,
 ⟨some 25,.load none (.t 24),none⟩,
 ⟨some 26,.bin .gtr (.t 25) (.c (.int .i64 10000)),none⟩,
 ⟨some 27,.mv (.t 26),none⟩,
 ⟨some 28,.mv (.t 3),some (27,false)⟩,
 ⟨some 29,.bin .gtr (.t 28) (.c (.int .i64 0)),some (27,false)⟩,
 ⟨some 30,.mv (.t 29),some (27,false)⟩,
 ⟨some 31,.mv (.t 0),some (30,true)⟩,
 ⟨some 32,.mv (.t 3),some (30,true)⟩,
 ⟨some 33,.iaddr 3 (.t 31) (.t 32),some (30,true)⟩,
 ⟨some 34,.faddr 0 (.t 33),some (30,true)⟩,
 ⟨some 35,.load none (.t 34),some (30,true)⟩,
 ⟨some 36,.mv (.t 0),some (30,true)⟩,
 ⟨some 37,.mv (.t 3),some (30,true)⟩,
 ⟨some 38,.bin .sub (.t 37) (.c (.int .i64 1)),some (30,true)⟩,
 ⟨some 39,.iaddr 3 (.t 36) (.t 38),some (30,true)⟩,
 ⟨some 40,.faddr 0 (.t 39),some (30,true)⟩,
 ⟨some 41,.load none (.t 40),some (30,true)⟩,
 ⟨some 42,.bin .leq (.t 35) (.t 41),some (30,true)⟩,
 ⟨some 43,.pick (.t 30) (.t 42) (.c (.bool false)),some (27,false)⟩,
 ⟨some 44,.pick (.t 27) (.c (.bool true)) (.t 43),none⟩,
 ⟨some 45,.mv (.t 44),none⟩,
 ⟨some 46,.mv (.t 0),some (45,false)⟩,
 ⟨some 47,.mv (.t 3),some (45,false)⟩,
 ⟨some 48,.iaddr 3 (.t 46) (.t 47),some (45,false)⟩,
 ⟨some 49,.faddr 1 (.t 48),some (45,false)⟩,
 ⟨some 50,.faddr 0 (.t 49),some (45,false)⟩,
 ⟨some 51,.load none (.t 50),some (45,false)⟩,
 ⟨some 52,.bin .lss (.t 51) (.c (.int .i64 0)),some (45,false)⟩,
 ⟨some 53,.pick (.t 45) (.c (.bool true)) (.t 52),none⟩,
 ⟨some 54,.mv (.t 53),none⟩,
 ⟨some 55,.mv (.t 0),some (54,false)⟩,
 ⟨some 56,.mv (.t 3),some (54,false)⟩,
 ⟨some 57,.iaddr 3 (.t 55) (.t 56),some (54,false)⟩,
 ⟨some 58,.faddr 1 (.t 57),some (54,false)⟩,
 ⟨some 59,.faddr 0 (.t 58),some (54,false)⟩,
 ⟨some 60,.load none (.t 59),some (54,false)⟩,
 ⟨some 61,.mv (.t 0),some (54,false)⟩,
 ⟨some 62,.mv (.t 3),some (54,false)⟩,
 ⟨some 63,.iaddr 3 (.t 61) (.t 62),some (54,false)⟩,
 ⟨some 64,.faddr 1 (.t 63),some (54,false)⟩,
 ⟨some 65,.faddr 1 (.t 64),some (54,false)⟩,
 ⟨some 66,.load none (.t 65),some (54,false)⟩,
 ⟨some 67,.bin .gtr (.t 60) (.t 66),some (54,false)⟩,
 ⟨some 68,.pick (.t 54) (.c (.bool true)) (.t 67),none⟩,
 ⟨some 69,.mv (.t 68),none⟩,
 ⟨some 70,.mv (.t 0),some (69,false)⟩,
 ⟨some 71,.mv (.t 3),some (69,false)⟩,
 ⟨some 72,.iaddr 3 (.t 70) (.t 71),some (69,false)⟩,
 ⟨some 73,.faddr 1 (.t 72),some (69,false)⟩,
 ⟨some 74,.faddr 1 (.t 73),some (69,false)⟩,
 ⟨some 75,.load none (.t 74),some (69,false)⟩,
 ⟨some 76,.bin .gtr (.t 75) (.c (.int .i64 4000)),some (69,false)⟩,
 ⟨some 77,.pick (.t 69) (.c (.bool true)) (.t 76),none⟩] [
 ] [0,3,77])
 (.cond (.t 77) (.seq (.ops [
 ⟨some 2,.mv (.c (.bool false)),none⟩] [2])
 .ret)
 .skip)))
 (.ops [
 ⟨some 19,.mv (.t 3),none⟩,
 ⟨some 20,.bin .add (.t 19) (.c (.int .i64 1)),none⟩,
 ⟨some 3,.mv (.t 20),none⟩] [0,3]))))))
 (.seq (.ops [
 ⟨some 2,.mv (.c (.bool true)),none⟩] [2])
 .ret)))),
 [.t 2]⟩
theorem k175:chkF Tryz.prog Tryz.f175 c175=true:=by kernel_rfl
def c111:CF:=⟨47,
 (.seq (.ops [
 ⟨some 2,.mv (.c (.int .i64 0)),none⟩,
 ⟨some 3,.mv (.c (.int .i64 0)),none⟩] [0])
 (.seq (.seq (.ops [
 ⟨some 5,.mv (.t 0),none⟩,
 ⟨some 6,.len (.t 5),none⟩,
 ⟨some 7,.bin .gtr (.t 6) (.c (.int .i64 32)),none⟩] [0,7])
 (.cond (.t 7) (.seq (.ops [
 ⟨some 2,.mv (.c (.int .i64 2)),none⟩,
 ⟨some 3,.mv (.c (.int .i64 0)),none⟩] [2,3])
 .ret)
 .skip))
 (.seq (.seq (.ops [
 ⟨some 4,.mv (.c (.int .i64 0)),none⟩] [0,4])
 (.block 0 (.loop (.seq (.seq (.ops [
 ⟨some 8,.mv (.t 4),none⟩,
 ⟨some 9,.mv (.t 0),none⟩,
 ⟨some 10,.len (.t 9),none⟩,
 ⟨some 11,.bin .lss (.t 8) (.t 10),none⟩] [0,4,11])
 (.cond (.t 11) .skip
 (.exit 0)))
 (.seq (.block 1 (.seq (.seq (.draw [
 ⟨some 14,.mv (.t 0),none⟩,
 ⟨some 15,.mv (.t 4),none⟩,
 ⟨some 16,.iaddr 4 (.t 14) (.t 15),none⟩,
 ⟨some 17,.load (some 4) (.t 16),none⟩,
 ⟨some 18,.call (.f 174) [(.t 17)],none⟩,
 ⟨some 19,.un .not (.t 18),none⟩,
 ⟨some 20,.mv (.t 19),none⟩,
 ⟨some 21,.mv (.t 4),some (20,false)⟩,
 ⟨some 22,.bin .gtr (.t 21) (.c (.int .i64 0)),some (20,false)⟩,
 ⟨some 23,.mv (.t 22),some (20,false)⟩,
 ⟨some 24,.mv (.t 0),some (23,true)⟩,
 ⟨some 25,.mv (.t 4),some (23,true)⟩,
 ⟨some 26,.iaddr 4 (.t 24) (.t 25),some (23,true)⟩,
 ⟨some 27,.faddr 0 (.t 26),some (23,true)⟩,
 ⟨some 28,.load none (.t 27),some (23,true)⟩,
 ⟨some 29,.mv (.t 0),some (23,true)⟩,
 ⟨some 30,.mv (.t 4),some (23,true)⟩,
 ⟨some 31,.bin .sub (.t 30) (.c (.int .i64 1)),some (23,true)⟩,
 ⟨some 32,.iaddr 4 (.t 29) (.t 31),some (23,true)⟩,
 ⟨some 33,.faddr 0 (.t 32),some (23,true)⟩,
 ⟨some 34,.load none (.t 33),some (23,true)⟩,
 ⟨some 35,.bin .leq (.t 28) (.t 34),some (23,true)⟩,
 ⟨some 36,.pick (.t 23) (.t 35) (.c (.bool false)),some (20,false)⟩,
 ⟨some 37,.pick (.t 20) (.c (.bool true)) (.t 36),none⟩] [
 ] [0,4,37])
 (.cond (.t 37) (.seq (.ops [
 ⟨some 38,.mv (.t 4),none⟩,
 ⟨some 2,.mv (.c (.int .i64 50)),none⟩,
 ⟨some 3,.mv (.t 38),none⟩] [2,3])
 .ret)
 .skip))
 (.seq (.ops [
 ⟨some 39,.mv (.t 0),none⟩,
 ⟨some 40,.mv (.t 4),none⟩,
 ⟨some 41,.iaddr 4 (.t 39) (.t 40),none⟩,
 ⟨some 42,.faddr 3 (.t 41),none⟩,
 ⟨some 43,.load none (.t 42),none⟩,
 ⟨some 44,.call (.f 175) [(.t 43)],none⟩,
 ⟨some 45,.un .not (.t 44),none⟩] [0,4,45])
 (.cond (.t 45) (.seq (.ops [
 ⟨some 46,.mv (.t 4),none⟩,
 ⟨some 2,.mv (.c (.int .i64 51)),none⟩,
 ⟨some 3,.mv (.t 46),none⟩] [2,3])
 .ret)
 .skip))))
 (.ops [
 ⟨some 12,.mv (.t 4),none⟩,
 ⟨some 13,.bin .add (.t 12) (.c (.int .i64 1)),none⟩,
 ⟨some 4,.mv (.t 13),none⟩] [0,4]))))))
 (.seq (.ops [
 ⟨some 2,.mv (.c (.int .i64 0)),none⟩,
 ⟨some 3,.mv (.c (.int .i64 0)),none⟩] [2,3])
 .ret)))),
 [.t 2,.t 3]⟩
theorem k111:chkF Tryz.prog Tryz.f111 c111=true:=by kernel_rfl
def c195:CF:=⟨11,
 (.seq (.ops [
 ⟨some 2,.mv (.c (.int .i64 0)),none⟩] [0])
 (.seq (.ops [
 ⟨some 6,.mv (.t 0),none⟩,
 ⟨some 7,.call (.f 111) [(.t 6)],none⟩,
 ⟨some 5,.mv (.t 7),none⟩,
 ⟨some 8,.ext 0 (.t 5),none⟩,
 ⟨some 9,.ext 1 (.t 5),none⟩,
 ⟨some 3,.mv (.t 8),none⟩,
 ⟨some 4,.mv (.t 9),none⟩] [3])
 (.seq (.ops [
 ⟨some 10,.mv (.t 3),none⟩,
 ⟨some 2,.mv (.t 10),none⟩] [2])
 .ret))),
 [.t 2]⟩
theorem k195:chkF Tryz.prog Tryz.f195 c195=true:=by kernel_rfl
def c152:CF:=⟨27,
 (.seq (.ops [
 ⟨some 4,.mv (.c (.int .i64 0)),none⟩,
 ⟨some 5,.mv (.c (.int .i64 0)),none⟩] [0,1])
 (.seq (.ops [
 ⟨some 8,.mv (.t 0),none⟩,
 ⟨some 9,.call (.f 195) [(.t 8)],none⟩,
 ⟨some 6,.mv (.t 9),none⟩] [0,1,6])
 (.seq (.seq (.ops [
 ⟨some 10,.mv (.t 6),none⟩,
 ⟨some 11,.bin .neq (.t 10) (.c (.int .i64 0)),none⟩] [0,1,6,11])
 (.cond (.t 11) (.seq (.ops [
 ⟨some 12,.mv (.t 6),none⟩,
 ⟨some 4,.mv (.c (.int .i64 0)),none⟩,
 ⟨some 5,.mv (.t 12),none⟩] [4,5])
 .ret)
 .skip))
 (.seq (.seq (.ops [
 ⟨some 7,.mv (.c (.int .i64 0)),none⟩] [0,1,7])
 (.block 0 (.loop (.seq (.seq (.ops [
 ⟨some 13,.mv (.t 7),none⟩,
 ⟨some 14,.mv (.t 0),none⟩,
 ⟨some 15,.len (.t 14),none⟩,
 ⟨some 16,.bin .lss (.t 13) (.t 15),none⟩] [0,1,7,16])
 (.cond (.t 16) .skip
 (.exit 0)))
 (.seq (.block 1 (.seq (.ops [
 ⟨some 19,.mv (.t 0),none⟩,
 ⟨some 20,.mv (.t 7),none⟩,
 ⟨some 21,.iaddr 4 (.t 19) (.t 20),none⟩,
 ⟨some 22,.faddr 0 (.t 21),none⟩,
 ⟨some 23,.load none (.t 22),none⟩,
 ⟨some 24,.mv (.t 1),none⟩,
 ⟨some 25,.bin .eql (.t 23) (.t 24),none⟩] [0,1,7,25])
 (.cond (.t 25) (.seq (.ops [
 ⟨some 26,.mv (.t 7),none⟩,
 ⟨some 4,.mv (.t 26),none⟩,
 ⟨some 5,.mv (.c (.int .i64 0)),none⟩] [4,5])
 .ret)
 .skip)))
 (.ops [
 ⟨some 17,.mv (.t 7),none⟩,
 ⟨some 18,.bin .add (.t 17) (.c (.int .i64 1)),none⟩,
 ⟨some 7,.mv (.t 18),none⟩] [0,1,7]))))))
 (.seq (.ops [
 ⟨some 4,.mv (.c (.int .i64 0)),none⟩,
 ⟨some 5,.mv (.c (.int .i64 50)),none⟩] [4,5])
 .ret))))),
 [.t 4,.t 5]⟩
theorem k152:chkF Tryz.prog Tryz.f152 c152=true:=by kernel_rfl
theorem within_r (x lo hi:Int):Pure Tryz.prog 113 [n x,n lo,n hi] (bl (decide (inr x lo hi))):=by
  refine Pure.of_body Tryz.call113 Tryz.func113 k113 (Nat.le_of_ble_eq_true rfl) ?_
  unfold c113
  (repeat' ((first|refine vn rfl ?_|simp (disch:=omega) only [wr64,W7]|refine bo (fun _=>?_) fun _=>?_|refine im fun _=>?_|refine cF ?_|refine om ?_|refine an ?_|fail) <;> try simp only [zN,zT,zV,zS,zU,Q0,Q1,ex,Q2,Q3,Q4,Q5,Q6,Q7,Q8,Q9,QA,QB,QC,W0,W1,W2,W3,W4,W5,W6,reduceIte]))
  all_goals exact Frz.eq (congrArg bl (by simp)) (by simp)
theorem within_r5 (x lo hi:Int):Pure Tryz.prog 176 [n x,n lo,n hi] (bl (decide (inr x lo hi))):=by
  refine Pure.of_body Tryz.call176 Tryz.func176 k176 (Nat.le_of_ble_eq_true rfl) ?_
  unfold c176
  (repeat' ((first|refine vn rfl ?_|simp (disch:=omega) only [wr64,W7]|refine bo (fun _=>?_) fun _=>?_|refine im fun _=>?_|refine cF ?_|refine om ?_|refine an ?_|fail) <;> try simp only [zN,zT,zV,zS,zU,Q0,Q1,ex,Q2,Q3,Q4,Q5,Q6,Q7,Q8,Q9,QA,QB,QC,W0,W1,W2,W3,W4,W5,W6,reduceIte]))
  all_goals exact Frz.eq (congrArg bl (by simp)) (by simp)
theorem within_r1 (x lo hi:Int):Pure Tryz.prog 253 [n x,n lo,n hi] (bl (decide (inr x lo hi))):=by
  refine Pure.of_body Tryz.call253 Tryz.func253 k253 (Nat.le_of_ble_eq_true rfl) ?_
  unfold c253
  (repeat' ((first|refine vn rfl ?_|simp (disch:=omega) only [wr64,W7]|refine bo (fun _=>?_) fun _=>?_|refine im fun _=>?_|refine cF ?_|refine om ?_|refine an ?_|fail) <;> try simp only [zN,zT,zV,zS,zU,Q0,Q1,ex,Q2,Q3,Q4,Q5,Q6,Q7,Q8,Q9,QA,QB,QC,W0,W1,W2,W3,W4,W5,W6,reduceIte]))
  all_goals exact Frz.eq (congrArg bl (by simp)) (by simp)
theorem within_r2 (x lo hi:Int):Pure Tryz.prog 255 [n x,n lo,n hi] (bl (decide (inr x lo hi))):=by
  refine Pure.of_body Tryz.call255 Tryz.func255 k255 (Nat.le_of_ble_eq_true rfl) ?_
  unfold c255
  (repeat' ((first|refine vn rfl ?_|simp (disch:=omega) only [wr64,W7]|refine bo (fun _=>?_) fun _=>?_|refine im fun _=>?_|refine cF ?_|refine om ?_|refine an ?_|fail) <;> try simp only [zN,zT,zV,zS,zU,Q0,Q1,ex,Q2,Q3,Q4,Q5,Q6,Q7,Q8,Q9,QA,QB,QC,W0,W1,W2,W3,W4,W5,W6,reduceIte]))
  all_goals exact Frz.eq (congrArg bl (by simp)) (by simp)
theorem within_r3 (x lo hi:Int):Pure Tryz.prog 256 [n x,n lo,n hi] (bl (decide (inr x lo hi))):=by
  refine Pure.of_body Tryz.call256 Tryz.func256 k256 (Nat.le_of_ble_eq_true rfl) ?_
  unfold c256
  (repeat' ((first|refine vn rfl ?_|simp (disch:=omega) only [wr64,W7]|refine bo (fun _=>?_) fun _=>?_|refine im fun _=>?_|refine cF ?_|refine om ?_|refine an ?_|fail) <;> try simp only [zN,zT,zV,zS,zU,Q0,Q1,ex,Q2,Q3,Q4,Q5,Q6,Q7,Q8,Q9,QA,QB,QC,W0,W1,W2,W3,W4,W5,W6,reduceIte]))
  all_goals exact Frz.eq (congrArg bl (by simp)) (by simp)
theorem rPt_spec (t:Pt):Pure Tryz.prog 252 [.agg t.cs] (bl (decide t.ok)):=by
  refine Pure.of_body Tryz.call252 Tryz.func252 k252 (Nat.le_of_ble_eq_true rfl) ?_
  unfold c252
  (repeat' ((first|refine vn rfl ?_|simp (disch:=omega) only [wr64,W7]|refine bo (fun _=>?_) fun _=>?_|refine im fun _=>?_|((repeat refine si ?_); (first|((first|refine .inl ⟨_,_,_,_,rfl,fun _=>pu (by first|exact within_r1 t.x 0 400000|exact within_r1 t.y 0 400000|exact within_r1 t.half 0 5000),?_⟩|refine ⟨_,_,_,_,rfl,fun _=>pu (by first|exact within_r1 t.x 0 400000|exact within_r1 t.y 0 400000|exact within_r1 t.half 0 5000),?_⟩); (first|refine o1 ?_|refine o2 ?_|refine o3 ?_|refine o4 ?_)) | refine .inl ⟨_,_,_,_,rfl,pu (by first|exact within_r1 t.x 0 400000|exact within_r1 t.y 0 400000|exact within_r1 t.half 0 5000),?_⟩))|refine cF ?_|refine om ?_|refine an ?_|fail) <;> try simp only [zN,zT,zV,zS,zU,Q0,Q1,ex,Q2,Q3,Q4,Q5,Q6,Q7,Q8,Q9,QA,QB,QC,W0,W1,W2,W3,W4,W5,W6,reduceIte]))
  all_goals exact Frz.eq (congrArg bl (by rw [Bool.eq_iff_iff]; simp only [decide_eq_true_iff,Bool.and_eq_true,Bool.or_eq_true]; unfold Pt.ok inr; omega)) (by simp)
theorem rShrunk_spec (s:Sp):Pure Tryz.prog 254 [.agg (Sp.cs s)] (bl (decide (spIn s 900 1100))):=by
  refine Pure.of_body Tryz.call254 Tryz.func254 k254 (Nat.le_of_ble_eq_true rfl) ?_
  unfold c254
  (repeat' ((first|refine vn rfl ?_|simp (disch:=omega) only [wr64,W7]|refine bo (fun _=>?_) fun _=>?_|refine im fun _=>?_|refine cF ?_|refine om ?_|refine an ?_|fail) <;> try simp only [zN,zT,zV,zS,zU,Q0,Q1,ex,Q2,Q3,Q4,Q5,Q6,Q7,Q8,Q9,QA,QB,QC,W0,W1,W2,W3,W4,W5,W6,reduceIte]))
  all_goals exact Frz.eq (congrArg bl (by rw [Bool.eq_iff_iff]; simp <;> try omega)) (by simp)
theorem rCheckTrace_spec (l:List Pt) (hl:l.length < 9223372036854775808):Pure Tryz.prog 239 [ptS l] (.tup [n (traceE l).1,n (traceE l).2]):=by
  refine Pure.of_body Tryz.call239 Tryz.func239 k239 (Nat.le_of_ble_eq_true rfl) ?_
  unfold c239
  (repeat' ((first|refine vn rfl ?_|simp (disch:=omega) only [wr64,W7]|refine bo (fun _=>?_) fun _=>?_|refine im fun _=>?_|refine cF ?_|refine om ?_|refine an ?_|fail) <;> try simp only [zN,zT,zV,zS,zU,Q0,Q1,ex,Q2,Q3,Q4,Q5,Q6,Q7,Q8,Q9,QA,QB,QC,W0,W1,W2,W3,W4,W5,W6,reduceIte]))
  · rename_i h
    unfold traceE; rw [if_pos (by omega)]; exact Frz.eq rfl (by simp)
  have hlen:¬ 2000 < l.length:=by omega
  refine AWPC.loopS (α:={ i:Nat // i≤l.length∧∀ j,j < i→(fun i=>if (l.getD i ⟨0,0,0⟩).ok then (0:Int) else 11) j=0 }) [4] (fun x=>[(4,n x.1)]) (fun x=>l.length - x.1) ⟨0,Nat.zero_le _,by simp⟩ ?_ ?_
  · (simp only [zN,zT,zV,zS,zU,Q0,Q1,ex,Q2,Q3,Q4,Q5,Q6,Q7,Q8,Q9,QA,QB,QC,W0,W1,W2,W3,W4,W5,W6,reduceIte]; try simp)
  · rintro ⟨i,hi,hb⟩
    by_cases hlt:i < l.length
    · have hs:(l.map Pt.cs).getD i []=Pt.cs (l.getD i ⟨0,0,0⟩):=row _ hlt
      have hc:=rPt_spec (l.getD i ⟨0,0,0⟩)
      by_cases hn:(l.getD i ⟨0,0,0⟩).ok
      · rw [decide_eq_true hn] at hc
        have hN:=all_next hb (show (fun i=>if (l.getD i ⟨0,0,0⟩).ok then (0:Int) else 11) i=0 from if_pos hn)
        generalize l.getD i ⟨0,0,0⟩=g at hs hc
        (repeat' ((first|refine vn rfl ?_|simp (disch:=omega) only [wr64,W7]|refine bo (fun _=>?_) fun _=>?_|refine im fun _=>?_|((repeat refine si ?_); (first|((first|refine .inl ⟨_,_,_,_,rfl,fun _=>pu hc,?_⟩|refine ⟨_,_,_,_,rfl,fun _=>pu hc,?_⟩); (first|refine o1 ?_|refine o2 ?_|refine o3 ?_|refine o4 ?_)) | refine .inl ⟨_,_,_,_,rfl,pu hc,?_⟩))|refine cF ?_|refine om ?_|refine an ?_|fail) <;> try simp only [zN, zT, zV, zS, zU, Q0, Q1, ex, Q2, Q3, Q4, Q5, Q6, Q7, Q8, Q9, QA, QB, QC, W0, W1, W2, W3, W4, W5, W6, reduceIte, hs]))
        all_goals try (exfalso; omega)
        exact ⟨⟨i+1,hlt,hN⟩,by simp,by simp only; omega⟩
      · rw [decide_eq_false hn] at hc
        have:=firstE_at (p:=fun i=>if (l.getD i ⟨0,0,0⟩).ok then (0:Int) else 11) hlt hb (by simp only [hn,if_false]; decide)
        have hE:traceE l=(11,i):=by unfold traceE; rw [if_neg hlen,this]; simp only [hn,if_false]
        rw [hE]
        generalize l.getD i ⟨0,0,0⟩=g at hs hc
        (repeat' ((first|refine vn rfl ?_|simp (disch:=omega) only [wr64,W7]|refine bo (fun _=>?_) fun _=>?_|refine im fun _=>?_|((repeat refine si ?_); (first|((first|refine .inl ⟨_,_,_,_,rfl,fun _=>pu hc,?_⟩|refine ⟨_,_,_,_,rfl,fun _=>pu hc,?_⟩); (first|refine o1 ?_|refine o2 ?_|refine o3 ?_|refine o4 ?_)) | refine .inl ⟨_,_,_,_,rfl,pu hc,?_⟩))|refine cF ?_|refine om ?_|refine an ?_|fail) <;> try simp only [zN, zT, zV, zS, zU, Q0, Q1, ex, Q2, Q3, Q4, Q5, Q6, Q7, Q8, Q9, QA, QB, QC, W0, W1, W2, W3, W4, W5, W6, reduceIte, hs]))
        all_goals try (exfalso; omega)
        exact Frz.eq rfl (by simp)
    · obtain rfl:i=l.length:=by omega
      (repeat' ((first|refine vn rfl ?_|simp (disch:=omega) only [wr64,W7]|refine bo (fun _=>?_) fun _=>?_|refine im fun _=>?_|refine cF ?_|refine om ?_|refine an ?_|fail) <;> try simp only [zN,zT,zV,zS,zU,Q0,Q1,ex,Q2,Q3,Q4,Q5,Q6,Q7,Q8,Q9,QA,QB,QC,W0,W1,W2,W3,W4,W5,W6,reduceIte]))
      all_goals try (exfalso; omega)
      unfold traceE; rw [if_neg hlen,firstE_none hb]; exact Frz.eq rfl (by simp)
theorem rCheckPaper_spec (p:Ppr):Pure Tryz.prog 240 [.agg p.cs] (n (if p.ok then 0 else 10)):=by
  refine Pure.of_body Tryz.call240 Tryz.func240 k240 (Nat.le_of_ble_eq_true rfl) ?_
  unfold c240
  (repeat' ((first|refine vn rfl ?_|simp (disch:=omega) only [wr64,W7]|refine bo (fun _=>?_) fun _=>?_|refine im fun _=>?_|((repeat refine si ?_); (first|((first|refine .inl ⟨_,_,_,_,rfl,fun _=>pu (by first|exact within_r1 p.pitch 1 10000|exact within_r1 p.height 1 400000|exact within_r1 p.radius p.height 4000000|exact within_r1 p.cols 1 200|exact rShrunk_spec p.along|exact rShrunk_spec p.across),?_⟩|refine ⟨_,_,_,_,rfl,fun _=>pu (by first|exact within_r1 p.pitch 1 10000|exact within_r1 p.height 1 400000|exact within_r1 p.radius p.height 4000000|exact within_r1 p.cols 1 200|exact rShrunk_spec p.along|exact rShrunk_spec p.across),?_⟩); (first|refine o1 ?_|refine o2 ?_|refine o3 ?_|refine o4 ?_)) | refine .inl ⟨_,_,_,_,rfl,pu (by first|exact within_r1 p.pitch 1 10000|exact within_r1 p.height 1 400000|exact within_r1 p.radius p.height 4000000|exact within_r1 p.cols 1 200|exact rShrunk_spec p.along|exact rShrunk_spec p.across),?_⟩))|refine cF ?_|refine om ?_|refine an ?_|fail) <;> try simp only [zN,zT,zV,zS,zU,Q0,Q1,ex,Q2,Q3,Q4,Q5,Q6,Q7,Q8,Q9,QA,QB,QC,W0,W1,W2,W3,W4,W5,W6,reduceIte]))
  all_goals (try (exfalso; omega))
  all_goals have hw:0≤p.low→p.low < p.high→p.high≤12000→IntKind.i64.wrap (p.high - p.low)=p.high - p.low:=fun h1 h2 h3=>wr64 _ (by omega) (by omega)
  all_goals first
    | (rw [if_neg (by unfold Ppr.ok; omega)]; exact Frz.eq rfl (by simp))
    | (rw [if_pos (by unfold Ppr.ok; omega)]; exact Frz.eq rfl (by simp))
theorem rCheckPen_spec (p:Pn):Pure Tryz.prog 242 [.agg p.cs] (n (if p.ok then 0 else 30)):=by
  refine Pure.of_body Tryz.call242 Tryz.func242 k242 (Nat.le_of_ble_eq_true rfl) ?_
  unfold c242
  (repeat' ((first|refine vn rfl ?_|simp (disch:=omega) only [wr64,W7]|refine bo (fun _=>?_) fun _=>?_|refine im fun _=>?_|((repeat refine si ?_); (first|((first|refine .inl ⟨_,_,_,_,rfl,fun _=>pu (by first|exact within_r3 p.band 0 8|exact within_r3 p.rate 0 12000),?_⟩|refine ⟨_,_,_,_,rfl,fun _=>pu (by first|exact within_r3 p.band 0 8|exact within_r3 p.rate 0 12000),?_⟩); (first|refine o1 ?_|refine o2 ?_|refine o3 ?_|refine o4 ?_)) | refine .inl ⟨_,_,_,_,rfl,pu (by first|exact within_r3 p.band 0 8|exact within_r3 p.rate 0 12000),?_⟩))|refine cF ?_|refine om ?_|refine an ?_|fail) <;> try simp only [zN,zT,zV,zS,zU,Q0,Q1,ex,Q2,Q3,Q4,Q5,Q6,Q7,Q8,Q9,QA,QB,QC,W0,W1,W2,W3,W4,W5,W6,reduceIte]))
  all_goals (try (exfalso; omega))
  all_goals have hw:-200≤p.zero.lo→p.zero.lo≤p.zero.hi→p.zero.hi≤200→IntKind.i64.wrap (p.zero.hi - p.zero.lo)=p.zero.hi - p.zero.lo:=fun h1 h2 h3=>wr64 _ (by omega) (by omega)
  all_goals first
    | (rw [if_neg (by unfold Pn.ok; omega)]; exact Frz.eq rfl (by simp))
    | (rw [if_pos (by unfold Pn.ok; omega)]; exact Frz.eq rfl (by simp))
theorem rWind_spec (f e:Int):Pure Tryz.prog 112 [.agg [n f,n e]] (n (if inr f 0 12000∧inr e 0 10000 then 0 else 1)):=by
  refine Pure.of_body Tryz.call112 Tryz.func112 k112 (Nat.le_of_ble_eq_true rfl) ?_
  unfold c112
  (repeat' ((first|refine vn rfl ?_|simp (disch:=omega) only [wr64,W7]|refine bo (fun _=>?_) fun _=>?_|refine im fun _=>?_|((repeat refine si ?_); (first|((first|refine .inl ⟨_,_,_,_,rfl,fun _=>pu (by first|exact within_r5 f 0 12000|exact within_r5 e 0 10000),?_⟩|refine ⟨_,_,_,_,rfl,fun _=>pu (by first|exact within_r5 f 0 12000|exact within_r5 e 0 10000),?_⟩); (first|refine o1 ?_|refine o2 ?_|refine o3 ?_|refine o4 ?_)) | refine .inl ⟨_,_,_,_,rfl,pu (by first|exact within_r5 f 0 12000|exact within_r5 e 0 10000),?_⟩))|refine cF ?_|refine om ?_|refine an ?_|fail) <;> try simp only [zN,zT,zV,zS,zU,Q0,Q1,ex,Q2,Q3,Q4,Q5,Q6,Q7,Q8,Q9,QA,QB,QC,W0,W1,W2,W3,W4,W5,W6,reduceIte]))
  · rename_i h; rw [if_neg (by omega)]; exact Frz.eq rfl (by simp)
  · rename_i h; rw [if_pos (by omega)]; exact Frz.eq rfl (by simp)
theorem rPlaced_spec (s:Stn):Pure Tryz.prog 174 [.agg s.cs] (bl (decide (inr s.id 1 65535∧inr s.x 0 2000∧inr s.y 0 2000))):=by
  refine Pure.of_body Tryz.call174 Tryz.func174 k174 (Nat.le_of_ble_eq_true rfl) ?_
  unfold c174
  (repeat' ((first|refine vn rfl ?_|simp (disch:=omega) only [wr64,W7]|refine bo (fun _=>?_) fun _=>?_|refine im fun _=>?_|((repeat refine si ?_); (first|((first|refine .inl ⟨_,_,_,_,rfl,fun _=>pu (by first|exact within_r5 s.id 1 65535|exact within_r5 s.x 0 2000|exact within_r5 s.y 0 2000),?_⟩|refine ⟨_,_,_,_,rfl,fun _=>pu (by first|exact within_r5 s.id 1 65535|exact within_r5 s.x 0 2000|exact within_r5 s.y 0 2000),?_⟩); (first|refine o1 ?_|refine o2 ?_|refine o3 ?_|refine o4 ?_)) | refine .inl ⟨_,_,_,_,rfl,pu (by first|exact within_r5 s.id 1 65535|exact within_r5 s.x 0 2000|exact within_r5 s.y 0 2000),?_⟩))|refine cF ?_|refine om ?_|refine an ?_|fail) <;> try simp only [zN,zT,zV,zS,zU,Q0,Q1,ex,Q2,Q3,Q4,Q5,Q6,Q7,Q8,Q9,QA,QB,QC,W0,W1,W2,W3,W4,W5,W6,reduceIte]))
  all_goals exact Frz.eq (congrArg bl (by rw [Bool.eq_iff_iff]; simp <;> try omega)) (by simp)
theorem rHeights_spec (l:List Hgt) (hl:l.length < 9223372036854775808):Pure Tryz.prog 175 [hgS l] (bl (decide (highOk l))):=by
  refine Pure.of_body Tryz.call175 Tryz.func175 k175 (Nat.le_of_ble_eq_true rfl) ?_
  unfold c175
  have hw:=within_r5 l.length 1 16
  by_cases h16:inr l.length 1 16
  · rw [decide_eq_true h16] at hw
    have h0:(l.map Hgt.cs).getD 0 []=Hgt.cs (l.getD 0 default):=row default (by omega)
    have hk0:highOk l→(l.getD 0 default).week=0:=fun h=>(h.2 0 (by omega)).1 rfl
    by_cases hz:(l.getD 0 default).week=0
    · generalize hg0:l.getD 0 default=g0 at h0 hz
      (repeat' ((first|refine vn rfl ?_|simp (disch:=omega) only [wr64,W7]|refine bo (fun _=>?_) fun _=>?_|refine im fun _=>?_|((repeat refine si ?_); (first|((first|refine .inl ⟨_,_,_,_,rfl,fun _=>pu hw,?_⟩|refine ⟨_,_,_,_,rfl,fun _=>pu hw,?_⟩); (first|refine o1 ?_|refine o2 ?_|refine o3 ?_|refine o4 ?_)) | refine .inl ⟨_,_,_,_,rfl,pu hw,?_⟩))|refine cF ?_|refine om ?_|refine an ?_|fail) <;> try simp only [zN,zT,zV,zS,zU,Q0,Q1,ex,Q2,Q3,Q4,Q5,Q6,Q7,Q8,Q9,QA,QB,QC,W0,W1,W2,W3,W4,W5,W6,reduceIte,h0,hz]))
      all_goals try (exfalso; omega)
      refine AWPC.loopI 3 l.length (fun i=>∀ j,j < i→highAt l j) (by simp) ?_ ?_
      · (simp only [zN,zT,zV,zS,zU,Q0,Q1,ex,Q2,Q3,Q4,Q5,Q6,Q7,Q8,Q9,QA,QB,QC,W0,W1,W2,W3,W4,W5,W6,reduceIte]; try simp)
      · intro i hi hb
        by_cases hlt:i < l.length
        · have hs:(l.map Hgt.cs).getD i []=Hgt.cs (l.getD i default):=row default hlt
          have hp:=rowPrev (f:=Hgt.cs) default hlt
          have hi0:i=0→(l.getD i default).week=0:=fun e=>by rw [e,hg0]; exact hz
          generalize hg:l.getD i default=g at hs hi0
          generalize hg':l.getD (i - 1) default=g' at hp
          (repeat' ((first|refine vn rfl ?_|simp (disch:=omega) only [wr64,W7]|refine bo (fun _=>?_) fun _=>?_|refine im fun _=>?_|refine cF ?_|refine om ?_|refine an ?_|fail) <;> try simp only [zN, zT, zV, zS, zU, Q0, Q1, ex, Q2, Q3, Q4, Q5, Q6, Q7, Q8, Q9, QA, QB, QC, W0, W1, W2, W3, W4, W5, W6, reduceIte, hs, hp]))
          all_goals try (exfalso; omega)
          · rename_i h
            rw [decide_eq_false fun hh=>?_]
            · exact Frz.eq rfl (by simp)
            · have:=hh.2 i hlt
              unfold highAt at this
              rw [hg,hg'] at this
              omega
          · rename_i h
            exact ⟨⟨i+1,hlt,all_next hb (by unfold highAt; rw [hg,hg']; omega)⟩,by simp,by simp only; omega⟩
        · obtain rfl:i=l.length:=by omega
          rw [decide_eq_true (show highOk l from ⟨h16,hb⟩)]
          (repeat' ((first|refine vn rfl ?_|simp (disch:=omega) only [wr64,W7]|refine bo (fun _=>?_) fun _=>?_|refine im fun _=>?_|refine cF ?_|refine om ?_|refine an ?_|fail) <;> try simp only [zN, zT, zV, zS, zU, Q0, Q1, ex, Q2, Q3, Q4, Q5, Q6, Q7, Q8, Q9, QA, QB, QC, W0, W1, W2, W3, W4, W5, W6, reduceIte]))
          all_goals try (exfalso; omega)
          exact Frz.eq rfl (by simp)
    · rw [decide_eq_false (fun h=>hz (hk0 h))]
      generalize l.getD 0 default=g0 at h0 hz
      (repeat' ((first|refine vn rfl ?_|simp (disch:=omega) only [wr64,W7]|refine bo (fun _=>?_) fun _=>?_|refine im fun _=>?_|((repeat refine si ?_); (first|((first|refine .inl ⟨_,_,_,_,rfl,fun _=>pu hw,?_⟩|refine ⟨_,_,_,_,rfl,fun _=>pu hw,?_⟩); (first|refine o1 ?_|refine o2 ?_|refine o3 ?_|refine o4 ?_)) | refine .inl ⟨_,_,_,_,rfl,pu hw,?_⟩))|refine cF ?_|refine om ?_|refine an ?_|fail) <;> try simp only [zN,zT,zV,zS,zU,Q0,Q1,ex,Q2,Q3,Q4,Q5,Q6,Q7,Q8,Q9,QA,QB,QC,W0,W1,W2,W3,W4,W5,W6,reduceIte,h0,hz]))
      all_goals try (exfalso; omega)
      all_goals exact Frz.eq rfl (by simp)
  · rw [decide_eq_false h16] at hw
    rw [decide_eq_false (fun h=>h16 h.1)]
    have hx:(l.map Hgt.cs).getD 0 []=[]∨∃ g:Hgt,(l.map Hgt.cs).getD 0 []=Hgt.cs g:=by
      cases l with
      | nil=>exact .inl rfl
      | cons g r=>exact .inr ⟨g,rfl⟩
    rcases hx with hx | ⟨g,hx⟩
    · (repeat' ((first|refine vn rfl ?_|simp (disch:=omega) only [wr64,W7]|refine bo (fun _=>?_) fun _=>?_|refine im fun _=>?_|((repeat refine si ?_); (first|((first|refine .inl ⟨_,_,_,_,rfl,fun _=>pu hw,?_⟩|refine ⟨_,_,_,_,rfl,fun _=>pu hw,?_⟩); (first|refine o1 ?_|refine o2 ?_|refine o3 ?_|refine o4 ?_)) | refine .inl ⟨_,_,_,_,rfl,pu hw,?_⟩))|refine cF ?_|refine om ?_|refine an ?_|fail) <;> try simp only [zN,zT,zV,zS,zU,Q0,Q1,ex,Q2,Q3,Q4,Q5,Q6,Q7,Q8,Q9,QA,QB,QC,W0,W1,W2,W3,W4,W5,W6,reduceIte,hx,List.getElem?_nil]))
      all_goals try (exfalso; omega)
      all_goals exact Frz.eq rfl (by simp)
    · (repeat' ((first|refine vn rfl ?_|simp (disch:=omega) only [wr64,W7]|refine bo (fun _=>?_) fun _=>?_|refine im fun _=>?_|((repeat refine si ?_); (first|((first|refine .inl ⟨_,_,_,_,rfl,fun _=>pu hw,?_⟩|refine ⟨_,_,_,_,rfl,fun _=>pu hw,?_⟩); (first|refine o1 ?_|refine o2 ?_|refine o3 ?_|refine o4 ?_)) | refine .inl ⟨_,_,_,_,rfl,pu hw,?_⟩))|refine cF ?_|refine om ?_|refine an ?_|fail) <;> try simp only [zN,zT,zV,zS,zU,Q0,Q1,ex,Q2,Q3,Q4,Q5,Q6,Q7,Q8,Q9,QA,QB,QC,W0,W1,W2,W3,W4,W5,W6,reduceIte,hx]))
      all_goals try (exfalso; omega)
      all_goals exact Frz.eq rfl (by simp)
theorem rCheckStn_spec (l:List Stn) (hl:stnSz l):Pure Tryz.prog 111 [snS l] (.tup [n (stnsE l).1,n (stnsE l).2]):=by
  refine Pure.of_body Tryz.call111 Tryz.func111 k111 (Nat.le_of_ble_eq_true rfl) ?_
  unfold c111
  have hl0:=hl.1
  (repeat' ((first|refine vn rfl ?_|simp (disch:=omega) only [wr64,W7]|refine bo (fun _=>?_) fun _=>?_|refine im fun _=>?_|refine cF ?_|refine om ?_|refine an ?_|fail) <;> try simp only [zN,zT,zV,zS,zU,Q0,Q1,ex,Q2,Q3,Q4,Q5,Q6,Q7,Q8,Q9,QA,QB,QC,W0,W1,W2,W3,W4,W5,W6,reduceIte]))
  · rename_i h
    unfold stnsE; rw [if_pos (by omega)]; exact Frz.eq rfl (by simp)
  have hlen:¬ 32 < l.length:=by omega
  refine AWPC.loopS (α:={ i:Nat // i≤l.length∧∀ j,j < i→stnE l j=0 }) [4] (fun x=>[(4,n x.1)]) (fun x=>l.length - x.1) ⟨0,Nat.zero_le _,by simp⟩ ?_ ?_
  · (simp only [zN,zT,zV,zS,zU,Q0,Q1,ex,Q2,Q3,Q4,Q5,Q6,Q7,Q8,Q9,QA,QB,QC,W0,W1,W2,W3,W4,W5,W6,reduceIte]; try simp)
  · rintro ⟨i,hi,hb⟩
    by_cases hlt:i < l.length
    · have hs:(l.map Stn.cs).getD i []=Stn.cs (l.getD i default):=row default hlt
      have hp:=rowPrev (f:=Stn.cs) default hlt
      have hh:=rHeights_spec (l.getD i default).heights (hl.2 _ (List.mem_of_getElem? (getD_lt default hlt)))
      have hc:=rPlaced_spec (l.getD i default)
      generalize hg:l.getD i default=g at hs hh hc
      generalize hg':l.getD (i - 1) default=g' at hp
      have hE:stnE l i=if inr g.id 1 65535∧(0 < i→g'.id < g.id)∧inr g.x 0 2000∧inr g.y 0 2000 then (if highOk g.heights then 0 else 51) else 50:=by unfold stnE; rw [hg,hg']
      have hbad:stnE l i≠0→stnsE l=(stnE l i,i):=fun h=>by unfold stnsE; rw [if_neg hlen,firstE_at hlt hb h]
      (repeat' ((first|refine vn rfl ?_|simp (disch:=omega) only [wr64,W7]|refine bo (fun _=>?_) fun _=>?_|refine im fun _=>?_|((repeat refine si ?_); (first|((first|refine .inl ⟨_,_,_,_,rfl,fun _=>pu (by first|exact hc|exact hh),?_⟩|refine ⟨_,_,_,_,rfl,fun _=>pu (by first|exact hc|exact hh),?_⟩); (first|refine o1 ?_|refine o2 ?_|refine o3 ?_|refine o4 ?_)) | refine .inl ⟨_,_,_,_,rfl,pu (by first|exact hc|exact hh),?_⟩))|refine cF ?_|refine om ?_|refine an ?_|fail) <;> try simp only [zN,zT,zV,zS,zU,Q0,Q1,ex,Q2,Q3,Q4,Q5,Q6,Q7,Q8,Q9,QA,QB,QC,W0,W1,W2,W3,W4,W5,W6,reduceIte,hs,hp]))
      all_goals try (exfalso; omega)
      all_goals first
        | (have e:stnE l i=50:=by rw [hE,if_neg (by omega)]
           rw [hbad (by omega),e]; exact Frz.eq rfl (by simp))
        | (have e:stnE l i=51:=by rw [hE,if_pos (by omega),if_neg (by simp_all)]
           rw [hbad (by omega),e]; exact Frz.eq rfl (by simp))
       |exact ⟨⟨i+1,hlt,all_next hb (by rw [hE,if_pos (by omega),if_pos (by simp_all)])⟩,by simp,by simp only; omega⟩
    · obtain rfl:i=l.length:=by omega
      (repeat' ((first|refine vn rfl ?_|simp (disch:=omega) only [wr64,W7]|refine bo (fun _=>?_) fun _=>?_|refine im fun _=>?_|refine cF ?_|refine om ?_|refine an ?_|fail) <;> try simp only [zN,zT,zV,zS,zU,Q0,Q1,ex,Q2,Q3,Q4,Q5,Q6,Q7,Q8,Q9,QA,QB,QC,W0,W1,W2,W3,W4,W5,W6,reduceIte]))
      all_goals try (exfalso; omega)
      unfold stnsE; rw [if_neg hlen,firstE_none hb]; exact Frz.eq rfl (by simp)
theorem rList_spec (l:List Stn) (hl:stnSz l):Pure Tryz.prog 195 [snS l] (n (stnsE l).1):=by
  refine Pure.of_body Tryz.call195 Tryz.func195 k195 (Nat.le_of_ble_eq_true rfl) ?_
  unfold c195
  (repeat' ((first|refine vn rfl ?_|simp (disch:=omega) only [wr64,W7]|refine bo (fun _=>?_) fun _=>?_|refine im fun _=>?_|((repeat refine si ?_); (first|((first|refine .inl ⟨_,_,_,_,rfl,fun _=>pu (rCheckStn_spec l hl),?_⟩|refine ⟨_,_,_,_,rfl,fun _=>pu (rCheckStn_spec l hl),?_⟩); (first|refine o1 ?_|refine o2 ?_|refine o3 ?_|refine o4 ?_)) | refine .inl ⟨_,_,_,_,rfl,pu (rCheckStn_spec l hl),?_⟩))|refine cF ?_|refine om ?_|refine an ?_|fail) <;> try simp only [zN,zT,zV,zS,zU,Q0,Q1,ex,Q2,Q3,Q4,Q5,Q6,Q7,Q8,Q9,QA,QB,QC,W0,W1,W2,W3,W4,W5,W6,reduceIte]))
  exact Frz.eq rfl (by simp)
theorem rStationOf_spec (l:List Stn) (hl:stnSz l) (id:Int):Pure Tryz.prog 152 [snS l,n id] (.tup [n (stnOf l id).1,n (stnOf l id).2]):=by
  refine Pure.of_body Tryz.call152 Tryz.func152 k152 (Nat.le_of_ble_eq_true rfl) ?_
  unfold c152
  have h1:=rList_spec l hl
  have hl0:=hl.1
  by_cases he:(stnsE l).1=0
  · obtain ⟨o,ho⟩:∃ o,o=stnOf l id:=⟨_,rfl⟩
    have hE:stnOf l id=match l.findIdx? fun s=>s.id == id with
      | some i=>(i,0)
      | none=>(0,50):=by unfold stnOf; rw [if_neg (fun h=>h he)]; rfl
    rw [he] at h1
    rw [← ho]
    (repeat' ((first|refine vn rfl ?_|simp (disch:=omega) only [wr64,W7]|refine bo (fun _=>?_) fun _=>?_|refine im fun _=>?_|((repeat refine si ?_); (first|((first|refine .inl ⟨_,_,_,_,rfl,fun _=>pu h1,?_⟩|refine ⟨_,_,_,_,rfl,fun _=>pu h1,?_⟩); (first|refine o1 ?_|refine o2 ?_|refine o3 ?_|refine o4 ?_)) | refine .inl ⟨_,_,_,_,rfl,pu h1,?_⟩))|refine cF ?_|refine om ?_|refine an ?_|fail) <;> try simp only [zN,zT,zV,zS,zU,Q0,Q1,ex,Q2,Q3,Q4,Q5,Q6,Q7,Q8,Q9,QA,QB,QC,W0,W1,W2,W3,W4,W5,W6,reduceIte]))
    all_goals try (exfalso; omega)
    refine AWPC.loopI 7 l.length (fun i=>∀ j,j < i→(l.getD j default).id≠id) (by simp) ?_ ?_
    · (simp only [zN,zT,zV,zS,zU,Q0,Q1,ex,Q2,Q3,Q4,Q5,Q6,Q7,Q8,Q9,QA,QB,QC,W0,W1,W2,W3,W4,W5,W6,reduceIte]; try simp)
    · intro i hi hb
      by_cases hlt:i < l.length
      · have hs:(l.map Stn.cs).getD i []=Stn.cs (l.getD i default):=row default hlt
        have hg:=getD_lt (d:=(default:Stn)) hlt
        by_cases e:(l.getD i default).id=id
        · have ho2:o=(i,0):=by
            rw [ho,hE]
            have:l.findIdx? (fun s=>s.id == id)=some i:=by
              rw [List.findIdx?_eq_some_iff_getElem]
              refine ⟨hlt,?_,fun j hj=>?_⟩
              · have:l[i]=l.getD i default:=by rw [List.getD_eq_getElem?_getD,List.getElem?_eq_getElem hlt]; rfl
                rw [this]; simpa using e
              · have:l[j]=l.getD j default:=by rw [List.getD_eq_getElem?_getD,List.getElem?_eq_getElem (by omega)]; rfl
                rw [this]; simpa using hb j hj
            rw [this]
          clear ho hE
          subst ho2
          generalize l.getD i default=g at hs e
          (repeat' ((first|refine vn rfl ?_|simp (disch:=omega) only [wr64,W7]|refine bo (fun _=>?_) fun _=>?_|refine im fun _=>?_|refine cF ?_|refine om ?_|refine an ?_|fail) <;> try simp only [zN, zT, zV, zS, zU, Q0, Q1, ex, Q2, Q3, Q4, Q5, Q6, Q7, Q8, Q9, QA, QB, QC, W0, W1, W2, W3, W4, W5, W6, reduceIte, hs, e]))
          all_goals try (exfalso; omega)
          exact Frz.eq rfl (by simp)
        · have hN:=all_next hb e
          generalize l.getD i default=g at hs e
          (repeat' ((first|refine vn rfl ?_|simp (disch:=omega) only [wr64,W7]|refine bo (fun _=>?_) fun _=>?_|refine im fun _=>?_|refine cF ?_|refine om ?_|refine an ?_|fail) <;> try simp only [zN, zT, zV, zS, zU, Q0, Q1, ex, Q2, Q3, Q4, Q5, Q6, Q7, Q8, Q9, QA, QB, QC, W0, W1, W2, W3, W4, W5, W6, reduceIte, hs, e]))
          all_goals try (exfalso; omega)
          exact ⟨⟨i+1,hlt,hN⟩,by simp,by simp only; omega⟩
      · obtain rfl:i=l.length:=by omega
        have ho2:o=(0,50):=by
          rw [ho,hE]
          have:l.findIdx? (fun s=>s.id == id)=none:=by
            rw [List.findIdx?_eq_none_iff]
            intro x hx
            obtain ⟨j,hj,rfl⟩:=List.mem_iff_getElem.1 hx
            have h3:=hb j hj
            rw [List.getD_eq_getElem?_getD,List.getElem?_eq_getElem hj] at h3
            simpa using h3
          rw [this]
        clear ho hE
        subst ho2
        (repeat' ((first|refine vn rfl ?_|simp (disch:=omega) only [wr64,W7]|refine bo (fun _=>?_) fun _=>?_|refine im fun _=>?_|refine cF ?_|refine om ?_|refine an ?_|fail) <;> try simp only [zN, zT, zV, zS, zU, Q0, Q1, ex, Q2, Q3, Q4, Q5, Q6, Q7, Q8, Q9, QA, QB, QC, W0, W1, W2, W3, W4, W5, W6, reduceIte]))
        all_goals try (exfalso; omega)
        exact Frz.eq rfl (by simp)
  · have hE:stnOf l id=(0,(stnsE l).1):=by unfold stnOf; rw [if_pos he]
    rw [hE]
    generalize (stnsE l).1=z at h1 he
    (repeat' ((first|refine vn rfl ?_|simp (disch:=omega) only [wr64,W7]|refine bo (fun _=>?_) fun _=>?_|refine im fun _=>?_|((repeat refine si ?_); (first|((first|refine .inl ⟨_,_,_,_,rfl,fun _=>pu h1,?_⟩|refine ⟨_,_,_,_,rfl,fun _=>pu h1,?_⟩); (first|refine o1 ?_|refine o2 ?_|refine o3 ?_|refine o4 ?_)) | refine .inl ⟨_,_,_,_,rfl,pu h1,?_⟩))|refine cF ?_|refine om ?_|refine an ?_|fail) <;> try simp only [zN,zT,zV,zS,zU,Q0,Q1,ex,Q2,Q3,Q4,Q5,Q6,Q7,Q8,Q9,QA,QB,QC,W0,W1,W2,W3,W4,W5,W6,reduceIte]))
    all_goals try (exfalso; omega)
    all_goals exact Frz.eq rfl (by simp)
def c241:CF:=⟨83,
 (.seq (.ops [
 ⟨some 1,.box false 56 2 (.t 0),none⟩,
 ⟨some 2,.mv (.c (.int .i64 0)),none⟩] [1])
 (.seq (.seq (.ops [
 ⟨some 6,.faddr 0 (.t 1),none⟩,
 ⟨some 7,.load none (.t 6),none⟩,
 ⟨some 8,.len (.t 7),none⟩,
 ⟨some 9,.call (.f 255) [(.t 8),(.c (.int .i64 1)),(.c (.int .i64 199))],none⟩,
 ⟨some 10,.un .not (.t 9),none⟩,
 ⟨some 11,.mv (.t 10),none⟩,
 ⟨some 12,.faddr 1 (.t 1),some (11,false)⟩,
 ⟨some 13,.load none (.t 12),some (11,false)⟩,
 ⟨some 14,.len (.t 13),some (11,false)⟩,
 ⟨some 15,.bin .gtr (.t 14) (.c (.int .i64 16)),some (11,false)⟩,
 ⟨some 16,.pick (.t 11) (.c (.bool true)) (.t 15),none⟩] [1,16])
 (.cond (.t 16) (.seq (.ops [
 ⟨some 2,.mv (.c (.int .i64 20)),none⟩] [2])
 .ret)
 .skip))
 (.seq (.seq (.ops [
 ⟨some 3,.mv (.c (.int .i64 0)),none⟩] [1,3])
 (.block 0 (.loop (.seq (.seq (.ops [
 ⟨some 17,.mv (.t 3),none⟩,
 ⟨some 18,.faddr 0 (.t 1),none⟩,
 ⟨some 19,.load none (.t 18),none⟩,
 ⟨some 20,.len (.t 19),none⟩,
 ⟨some 21,.bin .lss (.t 17) (.t 20),none⟩] [1,3,21])
 (.cond (.t 21) .skip
 (.exit 0)))
 (.seq (.block 1 (.seq (.draw [
 ⟨some 24,.faddr 0 (.t 1),none⟩,
 ⟨some 25,.load none (.t 24),none⟩,
 ⟨some 26,.mv (.t 3),none⟩,
 ⟨some 27,.iaddr 2 (.t 25) (.t 26),none⟩,
 ⟨some 28,.faddr 0 (.t 27),none⟩,
 ⟨some 29,.load none (.t 28),none⟩,
 ⟨some 30,.faddr 0 (.t 1),none⟩,
 ⟨some 31,.load none (.t 30),none⟩,
 ⟨some 32,.mv (.t 3),none⟩,
 ⟨some 33,.iaddr 2 (.t 31) (.t 32),none⟩,
 ⟨some 34,.faddr 1 (.t 33),none⟩,
 ⟨some 35,.load none (.t 34),none⟩,
 ⟨some 36,.call (.f 255) [(.t 29),(.c (.int .i64 1)),(.t 35)],none⟩,
 ⟨some 37,.un .not (.t 36),none⟩,
 ⟨some 38,.mv (.t 37),none⟩,
 ⟨some 39,.faddr 0 (.t 1),some (38,false)⟩,
 ⟨some 40,.load none (.t 39),some (38,false)⟩,
 ⟨some 41,.mv (.t 3),some (38,false)⟩,
 ⟨some 42,.iaddr 2 (.t 40) (.t 41),some (38,false)⟩,
 ⟨some 43,.faddr 1 (.t 42),some (38,false)⟩,
 ⟨some 44,.load none (.t 43),some (38,false)⟩,
 ⟨some 45,.bin .gtr (.t 44) (.c (.int .i64 40)),some (38,false)⟩,
 ⟨some 46,.pick (.t 38) (.c (.bool true)) (.t 45),none⟩] [
 ] [1,3,46])
 (.cond (.t 46) (.seq (.ops [
 ⟨some 2,.mv (.c (.int .i64 20)),none⟩] [2])
 .ret)
 .skip)))
 (.ops [
 ⟨some 22,.mv (.t 3),none⟩,
 ⟨some 23,.bin .add (.t 22) (.c (.int .i64 1)),none⟩,
 ⟨some 3,.mv (.t 23),none⟩] [1,3]))))))
 (.seq (.seq (.ops [
 ⟨some 4,.mv (.c (.int .i64 0)),none⟩] [1,4])
 (.block 2 (.loop (.seq (.seq (.ops [
 ⟨some 47,.mv (.t 4),none⟩,
 ⟨some 48,.faddr 1 (.t 1),none⟩,
 ⟨some 49,.load none (.t 48),none⟩,
 ⟨some 50,.len (.t 49),none⟩,
 ⟨some 51,.bin .lss (.t 47) (.t 50),none⟩] [1,4,51])
 (.cond (.t 51) .skip
 (.exit 2)))
 (.seq (.block 3 (.seq (.ops [
 ⟨some 54,.faddr 1 (.t 1),none⟩,
 ⟨some 55,.load none (.t 54),none⟩,
 ⟨some 56,.mv (.t 4),none⟩,
 ⟨some 57,.iaddr 3 (.t 55) (.t 56),none⟩,
 ⟨some 58,.load (some 3) (.t 57),none⟩,
 ⟨some 5,.alloc 226 3 [.int .i64 0,.int .i64 0,.int .i64 0],none⟩,
 ⟨none,.store 3 (.t 5) (.t 58),none⟩] [1,4,5])
 (.seq (.ops [
 ⟨some 59,.faddr 0 (.t 5),none⟩,
 ⟨some 60,.load none (.t 59),none⟩,
 ⟨some 61,.faddr 0 (.t 1),none⟩,
 ⟨some 62,.load none (.t 61),none⟩,
 ⟨some 63,.len (.t 62),none⟩,
 ⟨some 64,.bin .sub (.t 63) (.c (.int .i64 1)),none⟩,
 ⟨some 65,.call (.f 255) [(.t 60),(.c (.int .i64 0)),(.t 64)],none⟩,
 ⟨some 66,.un .not (.t 65),none⟩,
 ⟨some 67,.mv (.t 66),none⟩,
 ⟨some 68,.faddr 1 (.t 5),some (67,false)⟩,
 ⟨some 69,.faddr 0 (.t 68),some (67,false)⟩,
 ⟨some 70,.load none (.t 69),some (67,false)⟩,
 ⟨some 71,.faddr 1 (.t 5),some (67,false)⟩,
 ⟨some 72,.faddr 1 (.t 71),some (67,false)⟩,
 ⟨some 73,.load none (.t 72),some (67,false)⟩,
 ⟨some 74,.call (.f 255) [(.t 70),(.c (.int .i64 0)),(.t 73)],some (67,false)⟩,
 ⟨some 75,.un .not (.t 74),some (67,false)⟩,
 ⟨some 76,.pick (.t 67) (.c (.bool true)) (.t 75),none⟩,
 ⟨some 77,.mv (.t 76),none⟩,
 ⟨some 78,.faddr 1 (.t 5),some (77,false)⟩,
 ⟨some 79,.faddr 1 (.t 78),some (77,false)⟩,
 ⟨some 80,.load none (.t 79),some (77,false)⟩,
 ⟨some 81,.bin .gtr (.t 80) (.c (.int .i64 400)),some (77,false)⟩,
 ⟨some 82,.pick (.t 77) (.c (.bool true)) (.t 81),none⟩] [1,4,82])
 (.cond (.t 82) (.seq (.ops [
 ⟨some 2,.mv (.c (.int .i64 20)),none⟩] [2])
 .ret)
 .skip))))
 (.ops [
 ⟨some 52,.mv (.t 4),none⟩,
 ⟨some 53,.bin .add (.t 52) (.c (.int .i64 1)),none⟩,
 ⟨some 4,.mv (.t 53),none⟩] [1,4]))))))
 (.seq (.ops [
 ⟨some 2,.mv (.c (.int .i64 0)),none⟩] [2])
 .ret))))),
 [.t 2]⟩
theorem k241:chkF Tryz.prog Tryz.f241 c241=true:=by kernel_rfl
def c216:CF:=⟨79,
 (.seq (.ops [
 ⟨some 1,.box false 60 18 (.t 0),none⟩,
 ⟨some 2,.mv (.c (.bool false)),none⟩] [1])
 (.seq (.ops [
 ⟨some 7,.faddr 10 (.t 1),none⟩,
 ⟨some 8,.load none (.t 7),none⟩,
 ⟨some 9,.call (.f 239) [(.t 8)],none⟩,
 ⟨some 6,.mv (.t 9),none⟩,
 ⟨some 10,.ext 0 (.t 6),none⟩,
 ⟨some 11,.ext 1 (.t 6),none⟩,
 ⟨some 3,.mv (.t 10),none⟩,
 ⟨some 4,.mv (.t 11),none⟩] [1,3])
 (.seq (.seq (.ops [
 ⟨some 12,.faddr 0 (.t 1),none⟩,
 ⟨some 13,.load (some 10) (.t 12),none⟩,
 ⟨some 14,.call (.f 240) [(.t 13)],none⟩,
 ⟨some 15,.bin .neq (.t 14) (.c (.int .i64 0)),none⟩,
 ⟨some 16,.mv (.t 15),none⟩,
 ⟨some 17,.mv (.t 3),some (16,false)⟩,
 ⟨some 18,.bin .neq (.t 17) (.c (.int .i64 0)),some (16,false)⟩,
 ⟨some 19,.pick (.t 16) (.c (.bool true)) (.t 18),none⟩,
 ⟨some 20,.mv (.t 19),none⟩,
 ⟨some 21,.faddr 12 (.t 1),some (20,false)⟩,
 ⟨some 22,.load (some 2) (.t 21),some (20,false)⟩,
 ⟨some 23,.call (.f 241) [(.t 22)],some (20,false)⟩,
 ⟨some 24,.bin .neq (.t 23) (.c (.int .i64 0)),some (20,false)⟩,
 ⟨some 25,.pick (.t 20) (.c (.bool true)) (.t 24),none⟩,
 ⟨some 26,.mv (.t 25),none⟩,
 ⟨some 27,.faddr 14 (.t 1),some (26,false)⟩,
 ⟨some 28,.load (some 4) (.t 27),some (26,false)⟩,
 ⟨some 29,.call (.f 242) [(.t 28)],some (26,false)⟩,
 ⟨some 30,.bin .neq (.t 29) (.c (.int .i64 0)),some (26,false)⟩,
 ⟨some 31,.pick (.t 26) (.c (.bool true)) (.t 30),none⟩,
 ⟨some 32,.mv (.t 31),none⟩,
 ⟨some 33,.faddr 12 (.t 1),some (32,false)⟩,
 ⟨some 34,.faddr 0 (.t 33),some (32,false)⟩,
 ⟨some 35,.load none (.t 34),some (32,false)⟩,
 ⟨some 36,.len (.t 35),some (32,false)⟩,
 ⟨some 37,.bin .add (.t 36) (.c (.int .i64 1)),some (32,false)⟩,
 ⟨some 38,.faddr 0 (.t 1),some (32,false)⟩,
 ⟨some 39,.faddr 5 (.t 38),some (32,false)⟩,
 ⟨some 40,.load none (.t 39),some (32,false)⟩,
 ⟨some 41,.bin .neq (.t 37) (.t 40),some (32,false)⟩,
 ⟨some 42,.pick (.t 32) (.c (.bool true)) (.t 41),none⟩] [1,42])
 (.cond (.t 42) (.seq (.ops [
 ⟨some 2,.mv (.c (.bool false)),none⟩] [2])
 .ret)
 .skip))
 (.seq (.seq (.ops [
 ⟨some 5,.mv (.c (.int .i64 0)),none⟩] [1,5])
 (.block 0 (.loop (.seq (.seq (.ops [
 ⟨some 43,.mv (.t 5),none⟩,
 ⟨some 44,.faddr 11 (.t 1),none⟩,
 ⟨some 45,.load none (.t 44),none⟩,
 ⟨some 46,.len (.t 45),none⟩,
 ⟨some 47,.bin .lss (.t 43) (.t 46),none⟩] [1,5,47])
 (.cond (.t 47) .skip
 (.exit 0)))
 (.seq (.block 1 (.seq (.draw [
 ⟨some 50,.faddr 11 (.t 1),none⟩,
 ⟨some 51,.load none (.t 50),none⟩,
 ⟨some 52,.mv (.t 5),none⟩,
 ⟨some 53,.iaddr 1 (.t 51) (.t 52),none⟩,
 ⟨some 54,.load none (.t 53),none⟩,
 ⟨some 55,.faddr 0 (.t 1),none⟩,
 ⟨some 56,.faddr 5 (.t 55),none⟩,
 ⟨some 57,.load none (.t 56),none⟩,
 ⟨some 58,.bin .sub (.t 57) (.c (.int .i64 1)),none⟩,
 ⟨some 59,.call (.f 113) [(.t 54),(.c (.int .i64 0)),(.t 58)],none⟩,
 ⟨some 60,.un .not (.t 59),none⟩,
 ⟨some 61,.mv (.t 60),none⟩,
 ⟨some 62,.mv (.t 5),some (61,false)⟩,
 ⟨some 63,.bin .gtr (.t 62) (.c (.int .i64 0)),some (61,false)⟩,
 ⟨some 64,.mv (.t 63),some (61,false)⟩,
 ⟨some 65,.faddr 11 (.t 1),some (64,true)⟩,
 ⟨some 66,.load none (.t 65),some (64,true)⟩,
 ⟨some 67,.mv (.t 5),some (64,true)⟩,
 ⟨some 68,.iaddr 1 (.t 66) (.t 67),some (64,true)⟩,
 ⟨some 69,.load none (.t 68),some (64,true)⟩,
 ⟨some 70,.faddr 11 (.t 1),some (64,true)⟩,
 ⟨some 71,.load none (.t 70),some (64,true)⟩,
 ⟨some 72,.mv (.t 5),some (64,true)⟩,
 ⟨some 73,.bin .sub (.t 72) (.c (.int .i64 1)),some (64,true)⟩,
 ⟨some 74,.iaddr 1 (.t 71) (.t 73),some (64,true)⟩,
 ⟨some 75,.load none (.t 74),some (64,true)⟩,
 ⟨some 76,.bin .leq (.t 69) (.t 75),some (64,true)⟩,
 ⟨some 77,.pick (.t 64) (.t 76) (.c (.bool false)),some (61,false)⟩,
 ⟨some 78,.pick (.t 61) (.c (.bool true)) (.t 77),none⟩] [
 ] [1,5,78])
 (.cond (.t 78) (.seq (.ops [
 ⟨some 2,.mv (.c (.bool false)),none⟩] [2])
 .ret)
 .skip)))
 (.ops [
 ⟨some 48,.mv (.t 5),none⟩,
 ⟨some 49,.bin .add (.t 48) (.c (.int .i64 1)),none⟩,
 ⟨some 5,.mv (.t 49),none⟩] [1,5]))))))
 (.seq (.ops [
 ⟨some 2,.mv (.c (.bool true)),none⟩] [2])
 .ret))))),
 [.t 2]⟩
theorem k216:chkF Tryz.prog Tryz.f216 c216=true:=by kernel_rfl
def c92:CF:=⟨8,
 (.seq (.ops [
 ⟨some 1,.box false 68 38 (.t 0),none⟩,
 ⟨some 2,.alloc 29 2 [.int .i64 0,.int .i64 0],none⟩] [1,2])
 (.seq (.ops [
 ⟨some 3,.faddr 0 (.t 1),none⟩,
 ⟨some 4,.load none (.t 3),none⟩,
 ⟨some 5,.faddr 1 (.t 1),none⟩,
 ⟨some 6,.load none (.t 5),none⟩,
 ⟨some 7,.build [.int .i64 0,.int .i64 0] [(0,1,(.t 4)),(1,1,(.t 6))],none⟩,
 ⟨none,.store 2 (.t 2) (.t 7),none⟩] [2])
 .ret)),
 [.c 2 (some 2)]⟩
theorem k92:chkF Tryz.prog Tryz.f92 c92=true:=by kernel_rfl
def c173:CF:=⟨11,
 (.seq (.ops [
 ⟨some 1,.box false 29 2 (.t 0),none⟩,
 ⟨some 2,.mv (.c (.bool false)),none⟩] [1])
 (.seq (.ops [
 ⟨some 3,.faddr 0 (.t 1),none⟩,
 ⟨some 4,.load none (.t 3),none⟩,
 ⟨some 5,.call (.f 113) [(.t 4),(.c (.int .i64 1)),(.c (.int .i64 8))],none⟩,
 ⟨some 6,.mv (.t 5),none⟩,
 ⟨some 7,.faddr 1 (.t 1),some (6,true)⟩,
 ⟨some 8,.load none (.t 7),some (6,true)⟩,
 ⟨some 9,.call (.f 113) [(.t 8),(.c (.int .i64 1)),(.c (.int .i64 400))],some (6,true)⟩,
 ⟨some 10,.pick (.t 6) (.t 9) (.c (.bool false)),none⟩,
 ⟨some 2,.mv (.t 10),none⟩] [2])
 .ret)),
 [.t 2]⟩
theorem k173:chkF Tryz.prog Tryz.f173 c173=true:=by kernel_rfl
def c217:CF:=⟨21,
 (.seq (.ops [
 ⟨some 1,.box false 62 3 (.t 0),none⟩,
 ⟨some 2,.mv (.c (.bool false)),none⟩] [1])
 (.seq (.ops [
 ⟨some 3,.faddr 0 (.t 1),none⟩,
 ⟨some 4,.load none (.t 3),none⟩,
 ⟨some 5,.call (.f 113) [(.t 4),(.c (.int .i64 0)),(.c (.int .i64 199))],none⟩,
 ⟨some 6,.mv (.t 5),none⟩,
 ⟨some 7,.faddr 1 (.t 1),some (6,true)⟩,
 ⟨some 8,.faddr 0 (.t 7),some (6,true)⟩,
 ⟨some 9,.load none (.t 8),some (6,true)⟩,
 ⟨some 10,.faddr 1 (.t 1),some (6,true)⟩,
 ⟨some 11,.faddr 1 (.t 10),some (6,true)⟩,
 ⟨some 12,.load none (.t 11),some (6,true)⟩,
 ⟨some 13,.call (.f 113) [(.t 9),(.c (.int .i64 0)),(.t 12)],some (6,true)⟩,
 ⟨some 14,.pick (.t 6) (.t 13) (.c (.bool false)),none⟩,
 ⟨some 15,.mv (.t 14),none⟩,
 ⟨some 16,.faddr 1 (.t 1),some (15,true)⟩,
 ⟨some 17,.faddr 1 (.t 16),some (15,true)⟩,
 ⟨some 18,.load none (.t 17),some (15,true)⟩,
 ⟨some 19,.bin .leq (.t 18) (.c (.int .i64 400)),some (15,true)⟩,
 ⟨some 20,.pick (.t 15) (.t 19) (.c (.bool false)),none⟩,
 ⟨some 2,.mv (.t 20),none⟩] [2])
 .ret)),
 [.t 2]⟩
theorem k217:chkF Tryz.prog Tryz.f217 c217=true:=by kernel_rfl
def c215:CF:=⟨22,
 (.seq (.ops [
 ⟨some 3,.box false 26 6 (.t 0),none⟩,
 ⟨some 6,.mv (.c (.bool false)),none⟩] [1,2,3])
 (.seq (.ops [
 ⟨some 10,.faddr 0 (.t 3),none⟩,
 ⟨some 11,.load none (.t 10),none⟩,
 ⟨some 12,.mv (.t 1),none⟩,
 ⟨some 13,.call (.f 152) [(.t 11),(.t 12)],none⟩,
 ⟨some 9,.mv (.t 13),none⟩,
 ⟨some 14,.ext 0 (.t 9),none⟩,
 ⟨some 15,.ext 1 (.t 9),none⟩,
 ⟨some 7,.mv (.t 14),none⟩,
 ⟨some 8,.mv (.t 15),none⟩] [2,8])
 (.seq (.ops [
 ⟨some 16,.mv (.t 8),none⟩,
 ⟨some 17,.bin .eql (.t 16) (.c (.int .i64 0)),none⟩,
 ⟨some 18,.mv (.t 17),none⟩,
 ⟨some 19,.mv (.t 2),some (18,true)⟩,
 ⟨some 20,.call (.f 113) [(.t 19),(.c (.int .i64 0)),(.c (.int .i64 10000))],some (18,true)⟩,
 ⟨some 21,.pick (.t 18) (.t 20) (.c (.bool false)),none⟩,
 ⟨some 6,.mv (.t 21),none⟩] [6])
 .ret))),
 [.t 6]⟩
theorem k215:chkF Tryz.prog Tryz.f215 c215=true:=by kernel_rfl
def c218:CF:=⟨33,
 (.seq (.ops [
 ⟨some 2,.box false 26 6 (.t 0),none⟩,
 ⟨some 3,.box false 64 5 (.t 1),none⟩,
 ⟨some 4,.mv (.c (.bool false)),none⟩] [2,3])
 (.seq (.ops [
 ⟨some 5,.load (some 6) (.t 2),none⟩,
 ⟨some 6,.faddr 0 (.t 3),none⟩,
 ⟨some 7,.load none (.t 6),none⟩,
 ⟨some 8,.faddr 1 (.t 3),none⟩,
 ⟨some 9,.load none (.t 8),none⟩,
 ⟨some 10,.call (.f 215) [(.t 5),(.t 7),(.t 9)],none⟩,
 ⟨some 11,.mv (.t 10),none⟩,
 ⟨some 12,.faddr 2 (.t 3),some (11,true)⟩,
 ⟨some 13,.load none (.t 12),some (11,true)⟩,
 ⟨some 14,.faddr 4 (.t 2),some (11,true)⟩,
 ⟨some 15,.load none (.t 14),some (11,true)⟩,
 ⟨some 16,.call (.f 113) [(.t 13),(.c (.int .i64 0)),(.t 15)],some (11,true)⟩,
 ⟨some 17,.pick (.t 11) (.t 16) (.c (.bool false)),none⟩,
 ⟨some 18,.mv (.t 17),none⟩,
 ⟨some 19,.faddr 3 (.t 3),some (18,true)⟩,
 ⟨some 20,.faddr 0 (.t 19),some (18,true)⟩,
 ⟨some 21,.load none (.t 20),some (18,true)⟩,
 ⟨some 22,.faddr 3 (.t 3),some (18,true)⟩,
 ⟨some 23,.faddr 1 (.t 22),some (18,true)⟩,
 ⟨some 24,.load none (.t 23),some (18,true)⟩,
 ⟨some 25,.call (.f 113) [(.t 21),(.c (.int .i64 0)),(.t 24)],some (18,true)⟩,
 ⟨some 26,.pick (.t 18) (.t 25) (.c (.bool false)),none⟩,
 ⟨some 27,.mv (.t 26),none⟩,
 ⟨some 28,.faddr 3 (.t 3),some (27,true)⟩,
 ⟨some 29,.faddr 1 (.t 28),some (27,true)⟩,
 ⟨some 30,.load none (.t 29),some (27,true)⟩,
 ⟨some 31,.bin .leq (.t 30) (.c (.int .i64 12000)),some (27,true)⟩,
 ⟨some 32,.pick (.t 27) (.t 31) (.c (.bool false)),none⟩,
 ⟨some 4,.mv (.t 32),none⟩] [4])
 .ret)),
 [.t 4]⟩
theorem k218:chkF Tryz.prog Tryz.f218 c218=true:=by kernel_rfl
def c44:CF:=⟨39,
 (.seq (.ops [
 ⟨some 1,.box false 26 6 (.t 0),none⟩,
 ⟨some 2,.mv (.c (.int .i64 0)),none⟩] [1])
 (.seq (.ops [
 ⟨some 6,.faddr 0 (.t 1),none⟩,
 ⟨some 7,.load none (.t 6),none⟩,
 ⟨some 8,.call (.f 111) [(.t 7)],none⟩,
 ⟨some 5,.mv (.t 8),none⟩,
 ⟨some 9,.ext 0 (.t 5),none⟩,
 ⟨some 10,.ext 1 (.t 5),none⟩,
 ⟨some 3,.mv (.t 9),none⟩,
 ⟨some 4,.mv (.t 10),none⟩] [1,3])
 (.seq (.seq (.ops [
 ⟨some 11,.mv (.t 3),none⟩,
 ⟨some 12,.bin .neq (.t 11) (.c (.int .i64 0)),none⟩,
 ⟨some 13,.mv (.t 12),none⟩,
 ⟨some 14,.faddr 1 (.t 1),some (13,false)⟩,
 ⟨some 15,.load (some 2) (.t 14),some (13,false)⟩,
 ⟨some 16,.call (.f 112) [(.t 15)],some (13,false)⟩,
 ⟨some 17,.bin .neq (.t 16) (.c (.int .i64 0)),some (13,false)⟩,
 ⟨some 18,.pick (.t 13) (.c (.bool true)) (.t 17),none⟩,
 ⟨some 19,.mv (.t 18),none⟩,
 ⟨some 20,.faddr 4 (.t 1),some (19,false)⟩,
 ⟨some 21,.load none (.t 20),some (19,false)⟩,
 ⟨some 22,.call (.f 113) [(.t 21),(.c (.int .i64 1)),(.c (.int .i64 400))],some (19,false)⟩,
 ⟨some 23,.un .not (.t 22),some (19,false)⟩,
 ⟨some 24,.pick (.t 19) (.c (.bool true)) (.t 23),none⟩,
 ⟨some 25,.mv (.t 24),none⟩,
 ⟨some 26,.faddr 3 (.t 1),some (25,false)⟩,
 ⟨some 27,.load none (.t 26),some (25,false)⟩,
 ⟨some 28,.faddr 4 (.t 1),some (25,false)⟩,
 ⟨some 29,.load none (.t 28),some (25,false)⟩,
 ⟨some 30,.call (.f 113) [(.t 27),(.c (.int .i64 0)),(.t 29)],some (25,false)⟩,
 ⟨some 31,.un .not (.t 30),some (25,false)⟩,
 ⟨some 32,.pick (.t 25) (.c (.bool true)) (.t 31),none⟩,
 ⟨some 33,.mv (.t 32),none⟩,
 ⟨some 34,.faddr 5 (.t 1),some (33,false)⟩,
 ⟨some 35,.load none (.t 34),some (33,false)⟩,
 ⟨some 36,.call (.f 113) [(.t 35),(.c (.int .i64 1)),(.c (.int .i64 8))],some (33,false)⟩,
 ⟨some 37,.un .not (.t 36),some (33,false)⟩,
 ⟨some 38,.pick (.t 33) (.c (.bool true)) (.t 37),none⟩] [38])
 (.cond (.t 38) (.seq (.ops [
 ⟨some 2,.mv (.c (.int .i64 100)),none⟩] [2])
 .ret)
 .skip))
 (.seq (.ops [
 ⟨some 2,.mv (.c (.int .i64 0)),none⟩] [2])
 .ret)))),
 [.t 2]⟩
theorem k44:chkF Tryz.prog Tryz.f44 c44=true:=by kernel_rfl
theorem mem_at {α:Type} {l:List α} {p:α→Prop} (d:α):(∀ x∈l,p x)↔∀ j,j < l.length→p (l.getD j d):=by
  constructor
  · intro h j hj
    rw [List.getD_eq_getElem?_getD,List.getElem?_eq_getElem hj]; exact h _ (List.getElem_mem hj)
  · intro h x hx
    obtain ⟨j,hj,rfl⟩:=List.mem_iff_getElem.1 hx
    have:=h j hj
    rw [List.getD_eq_getElem?_getD,List.getElem?_eq_getElem hj] at this
    exact this
theorem rDrum_spec (rates:List Sp) (stops:List Mk) (hr:rates.length < 9223372036854775808) (hs:stops.length < 9223372036854775808):Pure Tryz.prog 241 [.agg [spnS rates,mkS stops]] (n (if drumOk rates stops then 0 else 20)):=by
  refine Pure.of_body Tryz.call241 Tryz.func241 k241 (Nat.le_of_ble_eq_true rfl) ?_
  unfold c241
  have hw:=within_r2 rates.length 1 199
  by_cases h0:inr rates.length 1 199∧stops.length≤16
  · obtain ⟨h1,h2⟩:=h0
    rw [decide_eq_true h1] at hw
    (repeat' ((first|refine vn rfl ?_|simp (disch:=omega) only [wr64,W7]|refine bo (fun _=>?_) fun _=>?_|refine im fun _=>?_|((repeat refine si ?_); (first|((first|refine .inl ⟨_,_,_,_,rfl,fun _=>pu hw,?_⟩|refine ⟨_,_,_,_,rfl,fun _=>pu hw,?_⟩); (first|refine o1 ?_|refine o2 ?_|refine o3 ?_|refine o4 ?_)) | refine .inl ⟨_,_,_,_,rfl,pu hw,?_⟩))|refine cF ?_|refine om ?_|refine an ?_|fail) <;> try simp only [zN,zT,zV,zS,zU,Q0,Q1,ex,Q2,Q3,Q4,Q5,Q6,Q7,Q8,Q9,QA,QB,QC,W0,W1,W2,W3,W4,W5,W6,reduceIte]))
    all_goals try (exfalso; omega)
    refine AWPC.loopI 3 rates.length (fun i=>∀ j,j < i→spIn (rates.getD j ⟨0,0⟩) 1 40) (by simp) ?_ ?_
    · (simp only [zN,zT,zV,zS,zU,Q0,Q1,ex,Q2,Q3,Q4,Q5,Q6,Q7,Q8,Q9,QA,QB,QC,W0,W1,W2,W3,W4,W5,W6,reduceIte]; try simp)
    · intro i hi hb
      by_cases hlt:i < rates.length
      · have hx:(rates.map Sp.cs).getD i []=Sp.cs (rates.getD i ⟨0,0⟩):=row _ hlt
        have hin:spIn (rates.getD i ⟨0,0⟩) 1 40→_:=fun h=>all_next (p:=fun j=>spIn (rates.getD j ⟨0,0⟩) 1 40) hb h
        have hout:¬ spIn (rates.getD i ⟨0,0⟩) 1 40→¬ drumOk rates stops:=fun h g=>h ((mem_at ⟨0,0⟩).1 g.2.2.1 i hlt)
        generalize rates.getD i ⟨0,0⟩=g at hx hin hout
        (repeat' ((first|refine vn rfl ?_|simp (disch:=omega) only [wr64,W7]|refine bo (fun _=>?_) fun _=>?_|refine im fun _=>?_|((repeat refine si ?_); (first|((first|refine .inl ⟨_,_,_,_,rfl,fun _=>pu (within_r2 g.lo 1 g.hi),?_⟩|refine ⟨_,_,_,_,rfl,fun _=>pu (within_r2 g.lo 1 g.hi),?_⟩); (first|refine o1 ?_|refine o2 ?_|refine o3 ?_|refine o4 ?_)) | refine .inl ⟨_,_,_,_,rfl,pu (within_r2 g.lo 1 g.hi),?_⟩))|refine cF ?_|refine om ?_|refine an ?_|fail) <;> try simp only [zN, zT, zV, zS, zU, Q0, Q1, ex, Q2, Q3, Q4, Q5, Q6, Q7, Q8, Q9, QA, QB, QC, W0, W1, W2, W3, W4, W5, W6, reduceIte, hx]))
        all_goals try (exfalso; omega)
        · rename_i h
          rw [if_neg (hout (by omega))]
          exact Frz.eq rfl (by simp)
        · rename_i h
          exact ⟨⟨i+1,hlt,hin (by omega)⟩,by simp,by simp only; omega⟩
      · obtain rfl:i=rates.length:=by omega
        (repeat' ((first|refine vn rfl ?_|simp (disch:=omega) only [wr64,W7]|refine bo (fun _=>?_) fun _=>?_|refine im fun _=>?_|refine cF ?_|refine om ?_|refine an ?_|fail) <;> try simp only [zN, zT, zV, zS, zU, Q0, Q1, ex, Q2, Q3, Q4, Q5, Q6, Q7, Q8, Q9, QA, QB, QC, W0, W1, W2, W3, W4, W5, W6, reduceIte]))
        all_goals try (exfalso; omega)
        refine AWPC.loopE (α:={ x:Nat × Sto // x.1≤stops.length∧∀ j,j < x.1→inr (stops.getD j mk0).col 0 ((rates.length:Int) - 1)∧spIn (stops.getD j mk0).ticks 0 400 }) [4] (fun x=>[(4,n x.1.1)]) (fun x=>x.1.2) (fun x=>stops.length - x.1.1) ⟨(0,[]),by simp,by simp⟩ ?_ rfl ?_
        · (simp only [zN,zT,zV,zS,zU,Q0,Q1,ex,Q2,Q3,Q4,Q5,Q6,Q7,Q8,Q9,QA,QB,QC,W0,W1,W2,W3,W4,W5,W6,reduceIte]; try simp)
        · rintro ⟨⟨i,τ⟩,hi,hc⟩
          simp only at hi hc
          by_cases hlt:i < stops.length
          · have hx:(stops.map Mk.cs).getD i []=Mk.cs (stops.getD i mk0):=row _ hlt
            have hin:inr (stops.getD i mk0).col 0 ((rates.length:Int) - 1)∧spIn (stops.getD i mk0).ticks 0 400→_:=fun h=>all_next (p:=fun j=>inr (stops.getD j mk0).col 0 ((rates.length:Int) - 1)∧spIn (stops.getD j mk0).ticks 0 400) hc h
            have hout:¬ (inr (stops.getD i mk0).col 0 ((rates.length:Int) - 1)∧spIn (stops.getD i mk0).ticks 0 400)→¬ drumOk rates stops:=fun h g=>h ((mem_at mk0).1 g.2.2.2 i hlt)
            generalize stops.getD i mk0=g at hx hin hout
            (repeat' ((first|refine vn rfl ?_|simp (disch:=omega) only [wr64,W7]|refine bo (fun _=>?_) fun _=>?_|refine im fun _=>?_|((repeat refine si ?_); (first|((first|refine .inl ⟨_,_,_,_,rfl,fun _=>pu (by first|exact within_r2 g.col 0 ((rates.length:Int) - 1)|exact within_r2 g.ticks.lo 0 g.ticks.hi),?_⟩|refine ⟨_,_,_,_,rfl,fun _=>pu (by first|exact within_r2 g.col 0 ((rates.length:Int) - 1)|exact within_r2 g.ticks.lo 0 g.ticks.hi),?_⟩); (first|refine o1 ?_|refine o2 ?_|refine o3 ?_|refine o4 ?_)) | refine .inl ⟨_,_,_,_,rfl,pu (by first|exact within_r2 g.col 0 ((rates.length:Int) - 1)|exact within_r2 g.ticks.lo 0 g.ticks.hi),?_⟩))|refine cF ?_|refine om ?_|refine an ?_|fail) <;> try simp only [zN, zT, zV, zS, zU, Q0, Q1, ex, Q2, Q3, Q4, Q5, Q6, Q7, Q8, Q9, QA, QB, QC, W0, W1, W2, W3, W4, W5, W6, reduceIte, hx, at_app, at_app0, upd_app, upd_app0, List.append_assoc, List.cons_append, List.nil_append]))
            all_goals try (exfalso; omega)
            · rename_i h
              rw [if_neg (hout (by omega))]
              exact Frz.eq rfl (by simp)
            · rename_i h
              exact ⟨⟨(i+1,_),hlt,hin (by omega)⟩,by simp,rfl,by simp only; omega⟩
          · obtain rfl:i=stops.length:=by omega
            rw [if_pos (show drumOk rates stops from ⟨h1,h2,(mem_at ⟨0,0⟩).2 hb,(mem_at mk0).2 hc⟩)]
            (repeat' ((first|refine vn rfl ?_|simp (disch:=omega) only [wr64,W7]|refine bo (fun _=>?_) fun _=>?_|refine im fun _=>?_|refine cF ?_|refine om ?_|refine an ?_|fail) <;> try simp only [zN, zT, zV, zS, zU, Q0, Q1, ex, Q2, Q3, Q4, Q5, Q6, Q7, Q8, Q9, QA, QB, QC, W0, W1, W2, W3, W4, W5, W6, reduceIte]))
            all_goals try (exfalso; omega)
            exact Frz.eq rfl (by simp)
  · rw [if_neg (fun g:drumOk rates stops=>h0 ⟨g.1,g.2.1⟩)]
    (repeat' ((first|refine vn rfl ?_|simp (disch:=omega) only [wr64,W7]|refine bo (fun _=>?_) fun _=>?_|refine im fun _=>?_|((repeat refine si ?_); (first|((first|refine .inl ⟨_,_,_,_,rfl,fun _=>pu hw,?_⟩|refine ⟨_,_,_,_,rfl,fun _=>pu hw,?_⟩); (first|refine o1 ?_|refine o2 ?_|refine o3 ?_|refine o4 ?_)) | refine .inl ⟨_,_,_,_,rfl,pu hw,?_⟩))|refine cF ?_|refine om ?_|refine an ?_|fail) <;> try simp only [zN,zT,zV,zS,zU,Q0,Q1,ex,Q2,Q3,Q4,Q5,Q6,Q7,Q8,Q9,QA,QB,QC,W0,W1,W2,W3,W4,W5,W6,reduceIte]))
    all_goals try (exfalso; omega)
    all_goals exact Frz.eq rfl (by simp)
theorem rValid_spec (s:Sht) (hs:shtSz s):Pure Tryz.prog 216 [.agg s.cs] (bl (decide s.ok)):=by
  refine Pure.of_body Tryz.call216 Tryz.func216 k216 (Nat.le_of_ble_eq_true rfl) ?_
  unfold c216
  have h1:=rCheckTrace_spec s.trace hs.1
  have h2:=rCheckPaper_spec s.paper
  have h3:=rDrum_spec s.rates s.stops hs.2.2.1 hs.2.2.2
  have h4:=rCheckPen_spec s.pen
  have hb:=hs.2.1
  have hr:=hs.2.2.1
  have hd:s.ok↔(traceE s.trace).1=0∧s.paper.ok∧drumOk s.rates s.stops∧s.pen.ok∧blotsOk s.paper.cols s.blots∧(s.rates.length:Int)+1=s.paper.cols:=Iff.rfl
  by_cases hall:((traceE s.trace).1=0∧s.paper.ok∧drumOk s.rates s.stops∧s.pen.ok)∧(s.rates.length:Int)+1=s.paper.cols
  · obtain ⟨⟨g1,g2,g3,g4⟩,g5⟩:=hall
    rw [g1] at h1; rw [if_pos g2] at h2; rw [if_pos g3] at h3; rw [if_pos g4] at h4
    have hd2:s.ok↔blotsOk s.paper.cols s.blots:=by rw [hd]; exact ⟨fun h=>h.2.2.2.2.1,fun h=>⟨g1,g2,g3,g4,h,g5⟩⟩
    have hc:1≤s.paper.cols∧s.paper.cols≤200:=by unfold Ppr.ok at g2; omega
    have hr9:s.rates.length≤199:=by unfold drumOk at g3; omega
    (repeat' ((first|refine vn rfl ?_|simp (disch:=omega) only [wr64,W7]|refine bo (fun _=>?_) fun _=>?_|refine im fun _=>?_|((repeat refine si ?_); (first|((first|refine .inl ⟨_,_,_,_,rfl,fun _=>pu (by first|exact h1|exact h2|exact h3|exact h4),?_⟩|refine ⟨_,_,_,_,rfl,fun _=>pu (by first|exact h1|exact h2|exact h3|exact h4),?_⟩); (first|refine o1 ?_|refine o2 ?_|refine o3 ?_|refine o4 ?_)) | refine .inl ⟨_,_,_,_,rfl,pu (by first|exact h1|exact h2|exact h3|exact h4),?_⟩))|refine cF ?_|refine om ?_|refine an ?_|fail) <;> try simp only [zN,zT,zV,zS,zU,Q0,Q1,ex,Q2,Q3,Q4,Q5,Q6,Q7,Q8,Q9,QA,QB,QC,W0,W1,W2,W3,W4,W5,W6,reduceIte,g5]))
    all_goals try (exfalso; omega)
    refine AWPC.loopI 5 s.blots.length (fun i=>∀ j,j < i→inr (s.blots.getD j 0) 0 (s.paper.cols - 1)∧(0 < j→s.blots.getD (j - 1) 0 < s.blots.getD j 0)) (by simp) ?_ ?_
    · (simp only [zN,zT,zV,zS,zU,Q0,Q1,ex,Q2,Q3,Q4,Q5,Q6,Q7,Q8,Q9,QA,QB,QC,W0,W1,W2,W3,W4,W5,W6,reduceIte]; try simp)
    · intro i hi hI
      by_cases hlt:i < s.blots.length
      · have hx:(s.blots.map fun z=>[n z]).getD i []=[n (s.blots.getD i 0)]:=row (f:=fun z=>[n z]) 0 hlt
        have hp:(s.blots.map fun z=>[n z]).getD ((i:Int) - 1).toNat []=[n (s.blots.getD (i - 1) 0)]:=rowPrev (f:=fun z=>[n z]) 0 hlt
        generalize hg:s.blots.getD i 0=x at hx
        generalize hg':s.blots.getD (i - 1) 0=y at hp
        (repeat' ((first|refine vn rfl ?_|simp (disch:=omega) only [wr64,W7]|refine bo (fun _=>?_) fun _=>?_|refine im fun _=>?_|((repeat refine si ?_); (first|((first|refine .inl ⟨_,_,_,_,rfl,fun _=>pu (within_r x 0 (s.paper.cols - 1)),?_⟩|refine ⟨_,_,_,_,rfl,fun _=>pu (within_r x 0 (s.paper.cols - 1)),?_⟩); (first|refine o1 ?_|refine o2 ?_|refine o3 ?_|refine o4 ?_)) | refine .inl ⟨_,_,_,_,rfl,pu (within_r x 0 (s.paper.cols - 1)),?_⟩))|refine cF ?_|refine om ?_|refine an ?_|fail) <;> try simp only [zN, zT, zV, zS, zU, Q0, Q1, ex, Q2, Q3, Q4, Q5, Q6, Q7, Q8, Q9, QA, QB, QC, W0, W1, W2, W3, W4, W5, W6, reduceIte, hx, hp]))
        all_goals try (exfalso; omega)
        · rename_i h
          rw [decide_eq_false fun g=>?_]
          · exact Frz.eq rfl (by simp)
          · have:=(hd2.1 g) i hlt
            rw [hg,hg'] at this
            omega
        · rename_i h
          exact ⟨⟨i+1,hlt,all_next hI (by rw [hg,hg']; omega)⟩,by simp,by simp only; omega⟩
      · obtain rfl:i=s.blots.length:=by omega
        rw [decide_eq_true (hd2.2 hI)]
        (repeat' ((first|refine vn rfl ?_|simp (disch:=omega) only [wr64,W7]|refine bo (fun _=>?_) fun _=>?_|refine im fun _=>?_|refine cF ?_|refine om ?_|refine an ?_|fail) <;> try simp only [zN, zT, zV, zS, zU, Q0, Q1, ex, Q2, Q3, Q4, Q5, Q6, Q7, Q8, Q9, QA, QB, QC, W0, W1, W2, W3, W4, W5, W6, reduceIte]))
        all_goals try (exfalso; omega)
        exact Frz.eq rfl (by simp)
  · rw [decide_eq_false fun g=>hall (by rw [hd] at g; exact ⟨⟨g.1,g.2.1,g.2.2.1,g.2.2.2.1⟩,g.2.2.2.2.2⟩)]
    have hw:¬ (((traceE s.trace).1=0∧(if s.paper.ok then (0:Int) else 10)=0∧(if drumOk s.rates s.stops then (0:Int) else 20)=0∧(if s.pen.ok then (0:Int) else 30)=0)∧(s.rates.length:Int)+1=s.paper.cols):=by
      intro ⟨⟨g1,g2,g3,g4⟩,g5⟩
      refine hall ⟨⟨g1,?_,?_,?_⟩,g5⟩
      · exact Decidable.byContradiction fun hn=>by rw [if_neg hn] at g2; omega
      · exact Decidable.byContradiction fun hn=>by rw [if_neg hn] at g3; omega
      · exact Decidable.byContradiction fun hn=>by rw [if_neg hn] at g4; omega
    have hr9:(if drumOk s.rates s.stops then (0:Int) else 20)=0→s.rates.length≤199:=fun h=>by
      have g3:drumOk s.rates s.stops:=Decidable.byContradiction fun hn=>by rw [if_neg hn] at h; omega
      unfold drumOk at g3; omega
    generalize (if s.paper.ok then (0:Int) else 10)=x2 at h2 hw
    generalize (if drumOk s.rates s.stops then (0:Int) else 20)=x3 at h3 hw hr9
    generalize (if s.pen.ok then (0:Int) else 30)=x4 at h4 hw
    (repeat' ((first|refine vn rfl ?_|simp (disch:=omega) only [wr64,W7]|refine bo (fun _=>?_) fun _=>?_|refine im fun _=>?_|((repeat refine si ?_); (first|((first|refine .inl ⟨_,_,_,_,rfl,fun _=>pu (by first|exact h1|exact h2|exact h3|exact h4),?_⟩|refine ⟨_,_,_,_,rfl,fun _=>pu (by first|exact h1|exact h2|exact h3|exact h4),?_⟩); (first|refine o1 ?_|refine o2 ?_|refine o3 ?_|refine o4 ?_)) | refine .inl ⟨_,_,_,_,rfl,pu (by first|exact h1|exact h2|exact h3|exact h4),?_⟩))|refine cF ?_|refine om ?_|refine an ?_|fail) <;> try simp only [zN,zT,zV,zS,zU,Q0,Q1,ex,Q2,Q3,Q4,Q5,Q6,Q7,Q8,Q9,QA,QB,QC,W0,W1,W2,W3,W4,W5,W6,reduceIte]))
    all_goals first
     |exact Frz.eq rfl (by simp)
      | (rename_i h
         exfalso
         simp only [not_or,Classical.not_not] at h
         obtain ⟨⟨⟨⟨u2,u1⟩,u3⟩,u4⟩,u5⟩:=h
         have hr8:=hr9 u3
         simp (disch:=omega) only [wr64] at u5
         exact hw ⟨⟨u1,u2,u3,u4⟩,u5⟩)
theorem rName_spec (a:Nt):Pure Tryz.prog 92 [.agg a.cs] (.agg [n a.clerk,n a.num]):=by
  refine Pure.of_body Tryz.call92 Tryz.func92 k92 (Nat.le_of_ble_eq_true rfl) ?_
  unfold c92
  (repeat' ((first|refine vn rfl ?_|simp (disch:=omega) only [wr64,W7]|refine bo (fun _=>?_) fun _=>?_|refine im fun _=>?_|refine cF ?_|refine om ?_|refine an ?_|fail) <;> try simp only [zN,zT,zV,zS,zU,Q0,Q1,ex,Q2,Q3,Q4,Q5,Q6,Q7,Q8,Q9,QA,QB,QC,W0,W1,W2,W3,W4,W5,W6,reduceIte]))
  all_goals exact Frz.eq rfl (by simp)
theorem rRight_spec (m:Nm):Pure Tryz.prog 173 [.agg m.cs] (bl (decide m.ok)):=by
  refine Pure.of_body Tryz.call173 Tryz.func173 k173 (Nat.le_of_ble_eq_true rfl) ?_
  unfold c173
  (repeat' ((first|refine vn rfl ?_|simp (disch:=omega) only [wr64,W7]|refine bo (fun _=>?_) fun _=>?_|refine im fun _=>?_|((repeat refine si ?_); (first|((first|refine .inl ⟨_,_,_,_,rfl,fun _=>pu (by first|exact within_r m.clerk 1 8|exact within_r m.num 1 400),?_⟩|refine ⟨_,_,_,_,rfl,fun _=>pu (by first|exact within_r m.clerk 1 8|exact within_r m.num 1 400),?_⟩); (first|refine o1 ?_|refine o2 ?_|refine o3 ?_|refine o4 ?_)) | refine .inl ⟨_,_,_,_,rfl,pu (by first|exact within_r m.clerk 1 8|exact within_r m.num 1 400),?_⟩))|refine cF ?_|refine om ?_|refine an ?_|fail) <;> try simp only [zN,zT,zV,zS,zU,Q0,Q1,ex,Q2,Q3,Q4,Q5,Q6,Q7,Q8,Q9,QA,QB,QC,W0,W1,W2,W3,W4,W5,W6,reduceIte]))
  all_goals exact Frz.eq (congrArg bl (by first | rfl | (unfold Nm.ok; first | rfl | (rw [Bool.eq_iff_iff]; simp <;> try omega)))) (by simp)
theorem rMark_spec (m:Mk):Pure Tryz.prog 217 [.agg m.cs] (bl (decide m.ok)):=by
  refine Pure.of_body Tryz.call217 Tryz.func217 k217 (Nat.le_of_ble_eq_true rfl) ?_
  unfold c217
  (repeat' ((first|refine vn rfl ?_|simp (disch:=omega) only [wr64,W7]|refine bo (fun _=>?_) fun _=>?_|refine im fun _=>?_|((repeat refine si ?_); (first|((first|refine .inl ⟨_,_,_,_,rfl,fun _=>pu (by first|exact within_r m.col 0 199|exact within_r m.ticks.lo 0 m.ticks.hi),?_⟩|refine ⟨_,_,_,_,rfl,fun _=>pu (by first|exact within_r m.col 0 199|exact within_r m.ticks.lo 0 m.ticks.hi),?_⟩); (first|refine o1 ?_|refine o2 ?_|refine o3 ?_|refine o4 ?_)) | refine .inl ⟨_,_,_,_,rfl,pu (by first|exact within_r m.col 0 199|exact within_r m.ticks.lo 0 m.ticks.hi),?_⟩))|refine cF ?_|refine om ?_|refine an ?_|fail) <;> try simp only [zN,zT,zV,zS,zU,Q0,Q1,ex,Q2,Q3,Q4,Q5,Q6,Q7,Q8,Q9,QA,QB,QC,W0,W1,W2,W3,W4,W5,W6,reduceIte]))
  all_goals exact Frz.eq (congrArg bl (by rw [Bool.eq_iff_iff]; simp only [decide_eq_true_iff,Bool.and_eq_true,Bool.or_eq_true]; unfold Mk.ok inr spIn; omega)) (by simp)
theorem rPlace_spec (b:Bse) (hb:bseSz b) (s w:Int):Pure Tryz.prog 215 [.agg b.cs,n s,n w] (bl (decide (placed b s w))):=by
  refine Pure.of_body Tryz.call215 Tryz.func215 k215 (Nat.le_of_ble_eq_true rfl) ?_
  unfold c215
  (repeat' ((first|refine vn rfl ?_|simp (disch:=omega) only [wr64,W7]|refine bo (fun _=>?_) fun _=>?_|refine im fun _=>?_|((repeat refine si ?_); (first|((first|refine .inl ⟨_,_,_,_,rfl,fun _=>pu (by first|exact rStationOf_spec b.stns hb s|exact within_r w 0 10000),?_⟩|refine ⟨_,_,_,_,rfl,fun _=>pu (by first|exact rStationOf_spec b.stns hb s|exact within_r w 0 10000),?_⟩); (first|refine o1 ?_|refine o2 ?_|refine o3 ?_|refine o4 ?_)) | refine .inl ⟨_,_,_,_,rfl,pu (by first|exact rStationOf_spec b.stns hb s|exact within_r w 0 10000),?_⟩))|refine cF ?_|refine om ?_|refine an ?_|fail) <;> try simp only [zN,zT,zV,zS,zU,Q0,Q1,ex,Q2,Q3,Q4,Q5,Q6,Q7,Q8,Q9,QA,QB,QC,W0,W1,W2,W3,W4,W5,W6,reduceIte]))
  all_goals exact Frz.eq (congrArg bl (by unfold placed; first | rfl | (rw [Bool.eq_iff_iff]; simp <;> try omega))) (by simp)
theorem rRead_spec (b:Bse) (hb:bseSz b) (r:Rd):Pure Tryz.prog 218 [.agg b.cs,.agg r.cs] (bl (decide (r.ok b))):=by
  refine Pure.of_body Tryz.call218 Tryz.func218 k218 (Nat.le_of_ble_eq_true rfl) ?_
  unfold c218
  have h1:=rPlace_spec b hb r.stn r.week
  have hd:r.ok b↔placed b r.stn r.week∧inr r.tick 0 b.ticks∧spIn r.levels 0 12000:=Iff.rfl
  by_cases hp:placed b r.stn r.week
  · rw [decide_eq_true hp] at h1
    (repeat' ((first|refine vn rfl ?_|simp (disch:=omega) only [wr64,W7]|refine bo (fun _=>?_) fun _=>?_|refine im fun _=>?_|((repeat refine si ?_); (first|((first|refine .inl ⟨_,_,_,_,rfl,fun _=>pu (by first|exact h1|exact within_r r.tick 0 b.ticks|exact within_r r.levels.lo 0 r.levels.hi),?_⟩|refine ⟨_,_,_,_,rfl,fun _=>pu (by first|exact h1|exact within_r r.tick 0 b.ticks|exact within_r r.levels.lo 0 r.levels.hi),?_⟩); (first|refine o1 ?_|refine o2 ?_|refine o3 ?_|refine o4 ?_)) | refine .inl ⟨_,_,_,_,rfl,pu (by first|exact h1|exact within_r r.tick 0 b.ticks|exact within_r r.levels.lo 0 r.levels.hi),?_⟩))|refine cF ?_|refine om ?_|refine an ?_|fail) <;> try simp only [zN,zT,zV,zS,zU,Q0,Q1,ex,Q2,Q3,Q4,Q5,Q6,Q7,Q8,Q9,QA,QB,QC,W0,W1,W2,W3,W4,W5,W6,reduceIte]))
    all_goals refine Frz.eq (congrArg bl ?_) (by simp)
    all_goals (rw [Bool.eq_iff_iff]; simp [hd,hp] <;> try omega)
  · rw [decide_eq_false hp] at h1
    (repeat' ((first|refine vn rfl ?_|simp (disch:=omega) only [wr64,W7]|refine bo (fun _=>?_) fun _=>?_|refine im fun _=>?_|((repeat refine si ?_); (first|((first|refine .inl ⟨_,_,_,_,rfl,fun _=>pu (by first|exact h1|exact within_r r.tick 0 b.ticks|exact within_r r.levels.lo 0 r.levels.hi),?_⟩|refine ⟨_,_,_,_,rfl,fun _=>pu (by first|exact h1|exact within_r r.tick 0 b.ticks|exact within_r r.levels.lo 0 r.levels.hi),?_⟩); (first|refine o1 ?_|refine o2 ?_|refine o3 ?_|refine o4 ?_)) | refine .inl ⟨_,_,_,_,rfl,pu (by first|exact h1|exact within_r r.tick 0 b.ticks|exact within_r r.levels.lo 0 r.levels.hi),?_⟩))|refine cF ?_|refine om ?_|refine an ?_|fail) <;> try simp only [zN,zT,zV,zS,zU,Q0,Q1,ex,Q2,Q3,Q4,Q5,Q6,Q7,Q8,Q9,QA,QB,QC,W0,W1,W2,W3,W4,W5,W6,reduceIte]))
    all_goals refine Frz.eq (congrArg bl ?_) (by simp)
    all_goals (rw [Bool.eq_iff_iff]; simp [hd,hp])
theorem rCheckBase_spec (b:Bse) (hb:bseSz b):Pure Tryz.prog 44 [.agg b.cs] (n (if b.ok then 0 else 100)):=by
  refine Pure.of_body Tryz.call44 Tryz.func44 k44 (Nat.le_of_ble_eq_true rfl) ?_
  unfold c44
  have h1:=rWind_spec b.fixed b.each
  (repeat' ((first|refine vn rfl ?_|simp (disch:=omega) only [wr64,W7]|refine bo (fun _=>?_) fun _=>?_|refine im fun _=>?_|((repeat refine si ?_); (first|((first|refine .inl ⟨_,_,_,_,rfl,fun _=>pu (by first|exact rCheckStn_spec b.stns hb|exact h1|exact within_r b.ticks 1 400|exact within_r b.term 0 b.ticks|exact within_r b.clerks 1 8),?_⟩|refine ⟨_,_,_,_,rfl,fun _=>pu (by first|exact rCheckStn_spec b.stns hb|exact h1|exact within_r b.ticks 1 400|exact within_r b.term 0 b.ticks|exact within_r b.clerks 1 8),?_⟩); (first|refine o1 ?_|refine o2 ?_|refine o3 ?_|refine o4 ?_)) | refine .inl ⟨_,_,_,_,rfl,pu (by first|exact rCheckStn_spec b.stns hb|exact h1|exact within_r b.ticks 1 400|exact within_r b.term 0 b.ticks|exact within_r b.clerks 1 8),?_⟩))|refine cF ?_|refine om ?_|refine an ?_|fail) <;> try simp only [zN,zT,zV,zS,zU,Q0,Q1,ex,Q2,Q3,Q4,Q5,Q6,Q7,Q8,Q9,QA,QB,QC,W0,W1,W2,W3,W4,W5,W6,reduceIte]))
  all_goals try (exfalso; omega)
  · rename_i h
    rw [if_neg (fun g=>?_)]
    · exact Frz.eq rfl (by simp)
    · obtain ⟨g1,g2,g3,g4,g5,g6⟩:=g
      rw [if_pos ⟨g2,g3⟩] at h; omega
  · rename_i h
    have hw:inr b.fixed 0 12000∧inr b.each 0 10000:=Decidable.byContradiction fun hn=>by rw [if_neg hn] at h; omega
    rw [if_pos (by unfold Bse.ok; omega)]; exact Frz.eq rfl (by simp)
end Go.Proofs.YtolgelipcgcbhaaGreat
namespace Go.Abs
set_option linter.unusedVariables false
set_option linter.unusedSimpArgs false
theorem sgnN {a b:Int}:sgn a b < 0↔a < b:=by unfold sgn; repeat' split <;> omega
theorem sgnZ {a b:Int}:sgn a b=0↔a=b:=by unfold sgn; repeat' split <;> omega
theorem orIN {a b:Int}:orI a b < 0↔a < 0∨a=0∧b < 0:=by unfold orI; split <;> omega
theorem orIZ {a b:Int}:orI a b=0↔a=0∧b=0:=by unfold orI; split <;> omega
theorem cmpN_lt {a b:Nm}:cmpN a b < 0↔a.clerk < b.clerk∨a.clerk=b.clerk∧a.num < b.num:=by
  unfold cmpN; rw [orIN,sgnN,sgnN,sgnZ]
theorem cmpN_eq {a b:Nm}:cmpN a b=0↔a=b:=by
  unfold cmpN; rw [orIZ,sgnZ,sgnZ]; cases a; cases b; simp
theorem cmpT_lt {a b:Nt}:cmpT a b < 0↔a.day < b.day∨a.day=b.day∧(a.clock < b.clock∨a.clock=b.clock∧(a.clerk < b.clerk∨a.clerk=b.clerk∧a.num < b.num)):=by
  unfold cmpT; rw [orIN,orIN,sgnN,sgnN,sgnZ,sgnZ,cmpN_lt]
theorem cmpT_eq {a b:Nt}:cmpT a b=0↔a.day=b.day∧a.clock=b.clock∧a.nm=b.nm:=by
  unfold cmpT; rw [orIZ,orIZ,sgnZ,sgnZ,cmpN_eq]
theorem cmpN_gt {a b:Nm}:0 < cmpN a b↔cmpN b a < 0:=by
  rw [cmpN_lt]; unfold cmpN orI sgn; repeat' split <;> omega
theorem cmpT_gt {a b:Nt}:0 < cmpT a b↔cmpT b a < 0:=by
  have h1:=@cmpT_lt b a
  have h2:=@cmpT_lt a b
  have h3:=@cmpT_eq a b
  have h4:a.nm=b.nm↔a.clerk=b.clerk∧a.num=b.num:=by simp [Nt.nm]
  rw [h4] at h3
  omega
theorem sorted_one {α:Type} {lt:α→α→Prop} (hirr:∀ a b,lt a b→¬ lt b a):∀ {l m:List α},l.Perm m→l.Pairwise lt→m.Pairwise lt→l=m
  | [],m,h,_,_=>(List.nil_perm.1 h).symm
  | a::r,[],h,_,_=>absurd h.symm (by simp)
  | a::r,b::s,h,h1,h2=>by
    have hab:a=b:=by
      have ha:a∈b::s:=h.mem_iff.1 (by simp)
      have hb:b∈a::r:=h.mem_iff.2 (by simp)
      rcases List.mem_cons.1 ha with rfl | ha
      · rfl
      rcases List.mem_cons.1 hb with rfl | hb
      · rfl
      exact absurd ((List.pairwise_cons.1 h1).1 b hb) (hirr _ _ ((List.pairwise_cons.1 h2).1 a ha))
    subst hab
    rw [sorted_one hirr (List.Perm.cons_inv h) (List.pairwise_cons.1 h1).2 (List.pairwise_cons.1 h2).2]
theorem insT_perm (a:Nt):∀ l,(insT a l).Perm (a::l)
  | []=>.refl _
  | x::r=>by
    unfold insT
    split
    · exact .refl _
    · exact ((insT_perm a r).cons x).trans (.swap a x r)
theorem srtT_perm':∀ (l o:List Nt),(l.foldl (fun o a=>insT a o) o).Perm (l++o)
  | [],o=>.refl _
  | a::r,o=>by
    rw [List.foldl_cons]
    exact (srtT_perm' r _).trans (((insT_perm a o).append_left r).trans List.perm_middle)
theorem srtT_perm (l:List Nt):(srtT l).Perm l:=by have:=srtT_perm' l []; rwa [List.append_nil] at this
theorem insT_le {a:Nt}:∀ {l:List Nt},l.Pairwise (fun x y=>0≤cmpT y x)→(insT a l).Pairwise (fun x y=>0≤cmpT y x)
  | [],_=>by simp [insT]
  | x::r,h=>by
    have htr:∀ {p q s:Nt},0≤cmpT q p→0≤cmpT s q→0≤cmpT s p:=fun {p q s} h1 h2=>by
      have:=@cmpT_lt q p; have:=@cmpT_lt s q; have:=@cmpT_lt s p; omega
    rw [List.pairwise_cons] at h
    unfold insT
    split
    · rename_i hc
      have h0:0≤cmpT x a:=by have:=@cmpT_gt a x; have:=@cmpT_gt x a; omega
      refine List.pairwise_cons.2 ⟨fun y hy=>?_,List.pairwise_cons.2 h⟩
      rcases List.mem_cons.1 hy with rfl | hy
      · exact h0
      · exact htr h0 (h.1 y hy)
    · rename_i hc
      refine List.pairwise_cons.2 ⟨fun y hy=>?_,insT_le h.2⟩
      rcases List.mem_cons.1 ((insT_perm a r).mem_iff.1 hy) with rfl | hy
      · omega
      · exact h.1 y hy
theorem srtT_le (l:List Nt):(srtT l).Pairwise (fun x y=>0≤cmpT y x):=by
  have:∀ (l o:List Nt),o.Pairwise (fun x y=>0≤cmpT y x)→(l.foldl (fun o a=>insT a o) o).Pairwise (fun x y=>0≤cmpT y x):=by
    intro l
    induction l with
    | nil=>exact fun o h=>h
    | cons a r ih=>exact fun o h=>ih _ (insT_le h)
  exact this l [] .nil
theorem srtT_one {l m:List Nt} (hn:(l.map Nt.nm).Nodup) (hp:m.Perm l) (hs:m.Pairwise (fun x y=>0≤cmpT y x)):m=srtT l:=by
  have key:∀ {p:List Nt},p.Perm l→p.Pairwise (fun x y=>0≤cmpT y x)→p.Pairwise (fun x y=>cmpT x y < 0):=fun {p} h1 h2=>by
    have hn':(p.map Nt.nm).Nodup:=(h1.map Nt.nm).nodup_iff.2 hn
    rw [List.Nodup,List.pairwise_map] at hn'
    refine (List.Pairwise.and h2 hn').imp fun {x y} ⟨h,h'⟩=>?_
    have g1:=@cmpT_eq x y
    have g2:=@cmpT_gt x y
    have:¬ cmpT x y=0:=fun e=>h' (g1.1 e).2.2
    omega
  exact sorted_one (lt:=fun x y=>cmpT x y < 0) (fun a b h h'=>by have:=@cmpT_gt a b; omega) (hp.trans (srtT_perm l).symm) (key hp hs) (key (srtT_perm l) (srtT_le l))
theorem Frz.ptr {σ:Sto} {f i n e j:Nat} {o:Ob} {cs:List AV} (ho:σ.at f i=some o) (hn:o.es.length=n) (he:e < n) (hl:(o.es.getD e []).length=cs.length)
    (h:∀ t,t < cs.length→Frz σ ((o.es.getD e []).getD t .any) (cs.getD t .any)):Frz σ (.ptr f i n e j) (.iptr cs j):=fun w X β x hs hx=>by
  have hob:=hs.obj f i o ho
  cases hx with
  | ptr _ _ _ _ _ _ h1c hf hle hh =>
    obtain ⟨b,hb,rfl⟩:=hh o ho hn
    have h2:=hob.2
    rw [hb] at h2
    have hlp:=hob.lp_none (e:=e) (by omega)
    obtain ⟨c,hc,hsz,hone,hr⟩:=h2.1 hlp
    have hrow:=hob.1 e (by omega)
    have hml:=mul_lt (k:=o.k) (show e < o.es.length by omega)
    refine .iptr cs j b (e * o.k) (fun t=>c.getD (e * o.k+t) undef) (fun t ht hx=>hs.dis f i o b ho hb hx) (fun t ht=>hone e t (by omega) (by omega)) (fun t ht=>?_) fun t ht=>h t ht w X β _ hs (hr e t (by omega) (by omega))
    rw [cell_of_row w b _ c _ _ hc]
    simp [Array.getD_eq_getD_getElem?,show e * o.k+t < c.size by omega]
theorem Frz.fn {σ:Sto} {g:Fn} {av bs cs ds:List AV} (hl:av.length=cs.length) (hm:bs.length=ds.length) (h:∀ i,i < av.length→Frz σ (av.getD i .any) (cs.getD i .any)) (h':∀ i,i < bs.length→Frz σ (bs.getD i .any) (ds.getD i .any)):Frz σ (.fn g av bs) (.fn g cs ds):=fun w X β x hs hx=>by
  cases hx with
  | fn _ _ _ xs ys hn hm' hr hr'=>exact .fn g cs ds xs ys (hn.trans hl) (hm'.trans hm) (fun i hi=>h i (by omega) w X β _ hs (hr i (by omega))) fun i hi=>h' i (by omega) w X β _ hs (hr' i (by omega))
theorem Frz.fnL {σ:Sto} {g:Fn} {bs ds:List AV} (h:FL σ bs ds):Frz σ (.fn g [] bs) (.fn g [] ds):=Frz.fn rfl h.len (fun i hi=>absurd hi (Nat.not_lt_zero _)) h.get
theorem Frz.ownL {α:Type} {σ:Sto} {f n:Nat} {T k:Nat} {cs:α→List AV} {l:List α} (ho:σ.at f 0=some ⟨T,k,l.map cs,none⟩) (hn:l.length=n) (hk0:k≠0) (hc:∀ a,∀ c∈cs a,PureV c) (hk:∀ a,(cs a).length=k):Frz σ (.own f 0 n) (.sl k (l.map cs)):=by
  refine Frz.own (o:=⟨T,k,l.map cs,none⟩) hk0 ho (by simp [hn]) (by simp [hn]) (fun e j he hj=>Frz.eq rfl ?_) fun e he=>?_
  · have he':e < l.length:=by omega
    simp only [List.getD_eq_getElem?_getD,List.getElem?_map,List.getElem?_eq_getElem he',Option.map_some,Option.getD_some]
    have hj':j < (cs l[e]).length:=by rw [hk]; exact hj
    rw [List.getElem?_eq_getElem hj']; exact hc _ _ (List.getElem_mem hj')
  · have he':e < l.length:=by omega
    simp only [List.getD_eq_getElem?_getD,List.getElem?_map,List.getElem?_eq_getElem he',Option.map_some,Option.getD_some]
    exact hk _
theorem Frz.tightL {α:Type} {σ:Sto} {f n:Nat} {T k:Nat} {cs:α→List AV} {l:List α} (ho:σ.at f 0=some ⟨T,k,l.map cs,none⟩) (hn:l.length=n) (hk0:k≠0) (hc:∀ a,∀ c∈cs a,PureV c) (hk:∀ a,(cs a).length=k):Frz σ (.tight f 0 n) (.fresh k (l.map cs)):=fun w X β x hs hx=>by
  cases hx with
  | tight _ _ _ _ h hcap =>
    obtain ⟨a,rfl⟩:=hcap
    exact .fresh _ _ _ (Frz.ownL ho hn hk0 hc hk w X β _ hs h) ⟨a,by rw [List.length_map,hn]⟩
theorem Pure.slack {P:Program} {f:Nat} {args:List AV} {k:Nat} {es:List (List AV)} (h:Pure P f args (.fresh k es)):Pure P f args (.sl k es) :=
  ⟨h.ent,fun X w xs h1 h2 h3=>(h.go X w xs h1 h2 h3).mono fun e w' ⟨x,he,hr,hrest⟩=>⟨x,he,(by cases hr with | fresh _ _ _ h' _=>exact h'),hrest⟩⟩
def goneM (l:List Nt):List (Nm × Bool):=l.foldl (fun m a=>if a.kind=7 then kset m a.ref true else m) []
theorem goneM_next {l:List Nt} {i:Nat} {a:Nt} (h:l[i]?=some a):goneM (l.take (i+1))=if a.kind=7 then kset (goneM (l.take i)) a.ref true else goneM (l.take i):=by
  have e:l.take (i+1)=l.take i++[a]:=by rw [List.take_add_one,h]; rfl
  unfold goneM
  rw [e,List.foldl_append]; rfl
theorem kget_goneF (m:Nm):∀ (l:List Nt) (M:List (Nm × Bool)),(kget (l.foldl (fun m a=>if a.kind=7 then kset m a.ref true else m) M) m)=if goneT l m then some true else kget M m
  | [],M=>by simp [goneT]
  | a::r,M=>by
    rw [List.foldl_cons,kget_goneF m r]
    by_cases h:goneT r m=true
    · simp only [goneT,List.any_cons] at h ⊢; simp [h]
    · have h':goneT (a::r) m=(a.kind == 7 && a.ref == m):=by simp only [goneT,List.any_cons] at h ⊢; simp [h]
      rw [h']
      simp only [h]
      by_cases hk:a.kind=7
      · rw [if_pos hk,kget_kset]
        by_cases hm:m=a.ref
        · subst hm; simp [hk]
        · have:¬ a.ref=m:=fun e=>hm e.symm
          simp [hk,hm,this]
      · simp [hk]
theorem kget_goneM (l:List Nt) (m:Nm):kget (goneM l) m=if goneT l m then some true else none:=kget_goneF m l []
theorem filter_next {α:Type} {q:α→Bool} {l:List α} {i:Nat} {a:α} (h:l[i]?=some a):(l.take (i+1)).filter q=if q a then (l.take i).filter q++[a] else (l.take i).filter q:=by
  have e:l.take (i+1)=l.take i++[a]:=by rw [List.take_add_one,h]; rfl
  rw [e,List.filter_append]
  by_cases hq:q a=true <;> simp [hq]
end Go.Abs
