/- Part 12 of the texts that the claim rests on: abstract values over the walk, and contracts of functions. -/
import Derived.Test.YtolgelipcgcbhaaGreatBc11
import Derived.Test.YtolgelipcgcbhaaGreatRows
import Derived.ChangeArms
import Derived.DataReads
import Derived.WalkKit
import Derived.ProofKit
import Derived.OpenShut
import Derived.ShutString
import Derived.ChangeOld
import Derived.Below
namespace Go.Proofs.YtolgelipcgcbhaaGreat
open Go.Abs
open Nat renaming reduceBEq→W0,reduceAdd→W1,reduceSub→W2,reduceLT→W3,reduceLeDiff→W4,reduceMul→W5,reduceEqDiff→W6
open Int renaming zero_sub→W7
open Go.Abs renaming vcC→Q0,lateX→Q1,strp→Q2,binA→Q3,elems→Q4,cells→Q5,scalar→Q6,eqC→Q7,keyA→Q8,intsA→Q9,lookA→QA,ofVs→QB,mpOf→QC
set_option linter.unusedVariables false
set_option linter.unusedSimpArgs false
set_option maxHeartbeats 4000000
set_option maxRecDepth 100000
def c172:CF:=⟨144,
 (.seq (.ops [
 ⟨some 2,.box false 26 6 (.t 0),none⟩,
 ⟨some 3,.box false 68 38 (.t 1),none⟩,
 ⟨some 4,.alloc 68 38 z38,none⟩,
 ⟨some 5,.mv (.c (.bool false)),none⟩] [2,3,4])
 (.seq (.seq (.ops [
 ⟨some 7,.faddr 4 (.t 3),none⟩,
 ⟨some 8,.load none (.t 7),none⟩] [2,3,4,8])
 (.block 0 (.seq (.ops [
 ⟨some 10,.bin .eql (.t 8) (.c (.int .i64 1)),none⟩,
 ⟨some 9,.mv (.t 10),none⟩] [2,3,4,8,9])
 (.cond (.t 9) (.seq (.drawl 17 [
 ⟨some 11,.faddr 5 (.t 3),none⟩,
 ⟨some 12,.load none (.t 11),none⟩,
 ⟨some 13,.faddr 6 (.t 3),none⟩,
 ⟨some 14,.load none (.t 13),none⟩,
 ⟨some 15,.faddr 7 (.t 3),none⟩,
 ⟨some 16,.load (some 18) (.t 15),none⟩,
 ⟨some 17,.build z38 [(5,1,(.t 12)),(6,1,(.t 14)),(7,18,(.t 16))],none⟩,
 ⟨some 18,.load (some 6) (.t 2),none⟩,
 ⟨some 19,.faddr 5 (.t 3),none⟩,
 ⟨some 20,.load none (.t 19),none⟩,
 ⟨some 21,.faddr 6 (.t 3),none⟩,
 ⟨some 22,.load none (.t 21),none⟩,
 ⟨some 23,.call (.f 215) [(.t 18),(.t 20),(.t 22)],none⟩,
 ⟨some 24,.mv (.t 23),none⟩,
 ⟨some 25,.faddr 7 (.t 3),some (24,true)⟩,
 ⟨some 26,.load (some 18) (.t 25),some (24,true)⟩,
 ⟨some 27,.call (.f 216) [(.t 26)],some (24,true)⟩,
 ⟨some 28,.pick (.t 24) (.t 27) (.c (.bool false)),none⟩] [
 ⟨none,.store 38 (.t 4) (.t 17),none⟩,
 ⟨some 5,.mv (.t 28),none⟩] [4,5])
 .ret)
 (.seq (.ops [
 ⟨some 30,.bin .eql (.t 8) (.c (.int .i64 2)),none⟩,
 ⟨some 29,.mv (.t 30),none⟩] [2,3,4,8,29])
 (.cond (.t 29) (.seq (.drawl 12 [
 ⟨some 31,.faddr 36 (.t 3),none⟩,
 ⟨some 32,.load (some 2) (.t 31),none⟩,
 ⟨some 33,.faddr 25 (.t 3),none⟩,
 ⟨some 34,.load (some 3) (.t 33),none⟩,
 ⟨some 35,.build z38 [(36,2,(.t 32)),(25,3,(.t 34))],none⟩,
 ⟨some 36,.faddr 36 (.t 3),none⟩,
 ⟨some 37,.load (some 2) (.t 36),none⟩,
 ⟨some 38,.call (.f 173) [(.t 37)],none⟩,
 ⟨some 39,.mv (.t 38),none⟩,
 ⟨some 40,.faddr 25 (.t 3),some (39,true)⟩,
 ⟨some 41,.load (some 3) (.t 40),some (39,true)⟩,
 ⟨some 42,.call (.f 217) [(.t 41)],some (39,true)⟩,
 ⟨some 43,.pick (.t 39) (.t 42) (.c (.bool false)),none⟩] [
 ⟨none,.store 38 (.t 4) (.t 35),none⟩,
 ⟨some 5,.mv (.t 43),none⟩] [4,5])
 .ret)
 (.seq (.ops [
 ⟨some 45,.bin .eql (.t 8) (.c (.int .i64 3)),none⟩,
 ⟨some 44,.mv (.t 45),none⟩] [2,3,4,8,44])
 (.cond (.t 44) (.seq (.draw [
 ⟨some 46,.faddr 28 (.t 3),none⟩,
 ⟨some 47,.load (some 5) (.t 46),none⟩,
 ⟨some 48,.build z38 [(28,5,(.t 47))],none⟩,
 ⟨some 49,.load (some 6) (.t 2),none⟩,
 ⟨some 50,.faddr 28 (.t 3),none⟩,
 ⟨some 51,.load (some 5) (.t 50),none⟩,
 ⟨some 52,.call (.f 218) [(.t 49),(.t 51)],none⟩] [
 ⟨none,.store 38 (.t 4) (.t 48),none⟩,
 ⟨some 5,.mv (.t 52),none⟩] [4,5])
 .ret)
 (.seq (.ops [
 ⟨some 54,.bin .eql (.t 8) (.c (.int .i64 4)),none⟩,
 ⟨some 53,.mv (.t 54),none⟩] [2,3,4,8,53])
 (.cond (.t 53) (.seq (.ops [
 ⟨some 55,.faddr 33 (.t 3),none⟩,
 ⟨some 56,.load (some 3) (.t 55),none⟩,
 ⟨some 6,.alloc 66 3 [.int .i64 0,.int .i64 0,.int .i64 0],none⟩,
 ⟨none,.store 3 (.t 6) (.t 56),none⟩] [2,3,4,6])
 (.seq (.draww [0,1,2,3,4,5,6,7,8,9,10,11,12,13,14,15,16,17,18,19,20,21,22,23,24,25,26] [20,21,22,23,24] 1 [
 ⟨some 57,.faddr 5 (.t 3),none⟩,
 ⟨some 58,.load none (.t 57),none⟩,
 ⟨some 59,.load (some 3) (.t 6),none⟩,
 ⟨some 60,.build z38 [(5,1,(.t 58)),(33,3,(.t 59))],none⟩,
 ⟨some 61,.load (some 6) (.t 2),none⟩,
 ⟨some 62,.faddr 5 (.t 3),none⟩,
 ⟨some 63,.load none (.t 62),none⟩,
 ⟨some 64,.faddr 0 (.t 6),none⟩,
 ⟨some 65,.load none (.t 64),none⟩,
 ⟨some 66,.call (.f 215) [(.t 61),(.t 63),(.t 65)],none⟩,
 ⟨some 67,.mv (.t 66),none⟩,
 ⟨some 68,.faddr 1 (.t 6),some (67,true)⟩,
 ⟨some 69,.faddr 0 (.t 68),some (67,true)⟩,
 ⟨some 70,.load none (.t 69),some (67,true)⟩,
 ⟨some 71,.faddr 1 (.t 6),some (67,true)⟩,
 ⟨some 72,.faddr 1 (.t 71),some (67,true)⟩,
 ⟨some 73,.load none (.t 72),some (67,true)⟩,
 ⟨some 74,.call (.f 113) [(.t 70),(.c (.int .i64 0)),(.t 73)],some (67,true)⟩,
 ⟨some 75,.pick (.t 67) (.t 74) (.c (.bool false)),none⟩,
 ⟨some 76,.mv (.t 75),none⟩,
 ⟨some 77,.faddr 1 (.t 6),some (76,true)⟩,
 ⟨some 78,.faddr 1 (.t 77),some (76,true)⟩,
 ⟨some 79,.load none (.t 78),some (76,true)⟩,
 ⟨some 80,.bin .leq (.t 79) (.c (.int .i64 4000)),some (76,true)⟩,
 ⟨some 81,.pick (.t 76) (.t 80) (.c (.bool false)),none⟩] [
 ⟨none,.store 38 (.t 4) (.t 60),none⟩,
 ⟨some 5,.mv (.t 81),none⟩] [4,5])
 .ret))
 (.seq (.ops [
 ⟨some 83,.bin .eql (.t 8) (.c (.int .i64 5)),none⟩,
 ⟨some 82,.mv (.t 83),none⟩] [2,3,4,8,82])
 (.cond (.t 82) (.seq (.drawl 17 [
 ⟨some 84,.faddr 36 (.t 3),none⟩,
 ⟨some 85,.load (some 2) (.t 84),none⟩,
 ⟨some 86,.faddr 5 (.t 3),none⟩,
 ⟨some 87,.load none (.t 86),none⟩,
 ⟨some 88,.faddr 6 (.t 3),none⟩,
 ⟨some 89,.load none (.t 88),none⟩,
 ⟨some 90,.build z38 [(36,2,(.t 85)),(5,1,(.t 87)),(6,1,(.t 89))],none⟩,
 ⟨some 91,.faddr 36 (.t 3),none⟩,
 ⟨some 92,.load (some 2) (.t 91),none⟩,
 ⟨some 93,.call (.f 173) [(.t 92)],none⟩,
 ⟨some 94,.mv (.t 93),none⟩,
 ⟨some 95,.load (some 6) (.t 2),some (94,true)⟩,
 ⟨some 96,.faddr 5 (.t 3),some (94,true)⟩,
 ⟨some 97,.load none (.t 96),some (94,true)⟩,
 ⟨some 98,.faddr 6 (.t 3),some (94,true)⟩,
 ⟨some 99,.load none (.t 98),some (94,true)⟩,
 ⟨some 100,.call (.f 215) [(.t 95),(.t 97),(.t 99)],some (94,true)⟩,
 ⟨some 101,.pick (.t 94) (.t 100) (.c (.bool false)),none⟩] [
 ⟨none,.store 38 (.t 4) (.t 90),none⟩,
 ⟨some 5,.mv (.t 101),none⟩] [4,5])
 .ret)
 (.seq (.ops [
 ⟨some 103,.bin .eql (.t 8) (.c (.int .i64 6)),none⟩,
 ⟨some 102,.mv (.t 103),none⟩] [2,3,4,8,102])
 (.cond (.t 102) (.seq (.seq (.ops [
 ⟨some 104,.faddr 28 (.t 3),none⟩,
 ⟨some 105,.faddr 0 (.t 104),none⟩,
 ⟨some 106,.load none (.t 105),none⟩,
 ⟨some 107,.bin .neq (.t 106) (.c (.int .i64 0)),none⟩] [2,3,4,107])
 (.cond (.t 107) (.seq (.drawl 13 [
 ⟨some 108,.faddr 36 (.t 3),none⟩,
 ⟨some 109,.load (some 2) (.t 108),none⟩,
 ⟨some 110,.faddr 28 (.t 3),none⟩,
 ⟨some 111,.load (some 5) (.t 110),none⟩,
 ⟨some 112,.build z38 [(36,2,(.t 109)),(28,5,(.t 111))],none⟩,
 ⟨some 113,.faddr 36 (.t 3),none⟩,
 ⟨some 114,.load (some 2) (.t 113),none⟩,
 ⟨some 115,.call (.f 173) [(.t 114)],none⟩,
 ⟨some 116,.mv (.t 115),none⟩,
 ⟨some 117,.load (some 6) (.t 2),some (116,true)⟩,
 ⟨some 118,.faddr 28 (.t 3),some (116,true)⟩,
 ⟨some 119,.load (some 5) (.t 118),some (116,true)⟩,
 ⟨some 120,.call (.f 218) [(.t 117),(.t 119)],some (116,true)⟩,
 ⟨some 121,.pick (.t 116) (.t 120) (.c (.bool false)),none⟩] [
 ⟨none,.store 38 (.t 4) (.t 112),none⟩,
 ⟨some 5,.mv (.t 121),none⟩] [4,5])
 .ret)
 .skip))
 (.seq (.drawl 12 [
 ⟨some 122,.faddr 36 (.t 3),none⟩,
 ⟨some 123,.load (some 2) (.t 122),none⟩,
 ⟨some 124,.faddr 25 (.t 3),none⟩,
 ⟨some 125,.load (some 3) (.t 124),none⟩,
 ⟨some 126,.build z38 [(36,2,(.t 123)),(25,3,(.t 125))],none⟩,
 ⟨some 127,.faddr 36 (.t 3),none⟩,
 ⟨some 128,.load (some 2) (.t 127),none⟩,
 ⟨some 129,.call (.f 173) [(.t 128)],none⟩,
 ⟨some 130,.mv (.t 129),none⟩,
 ⟨some 131,.faddr 25 (.t 3),some (130,true)⟩,
 ⟨some 132,.load (some 3) (.t 131),some (130,true)⟩,
 ⟨some 133,.call (.f 217) [(.t 132)],some (130,true)⟩,
 ⟨some 134,.pick (.t 130) (.t 133) (.c (.bool false)),none⟩] [
 ⟨none,.store 38 (.t 4) (.t 126),none⟩,
 ⟨some 5,.mv (.t 134),none⟩] [4,5])
 .ret))
 (.seq (.ops [
 ⟨some 136,.bin .eql (.t 8) (.c (.int .i64 7)),none⟩,
 ⟨some 135,.mv (.t 136),none⟩] [3,4,135])
 (.cond (.t 135) (.seq (.draw [
 ⟨some 137,.faddr 36 (.t 3),none⟩,
 ⟨some 138,.load (some 2) (.t 137),none⟩,
 ⟨some 139,.build z38 [(36,2,(.t 138))],none⟩,
 ⟨some 140,.faddr 36 (.t 3),none⟩,
 ⟨some 141,.load (some 2) (.t 140),none⟩,
 ⟨some 142,.call (.f 173) [(.t 141)],none⟩] [
 ⟨none,.store 38 (.t 4) (.t 139),none⟩,
 ⟨some 5,.mv (.t 142),none⟩] [4,5])
 .ret)
 .skip))))))))))))))))
 (.seq (.ops [
 ⟨some 143,.build z38 [],none⟩,
 ⟨none,.store 38 (.t 4) (.t 143),none⟩,
 ⟨some 5,.mv (.c (.bool false)),none⟩] [4,5])
 .ret))),
 [.c 4 (some 38),.t 5]⟩
theorem k172:chkF Tryz.prog Tryz.f172 c172=true:=by kernel_rfl
def c108:CF:=⟨49,
 (.seq (.ops [
 ⟨some 2,.box false 26 6 (.t 0),none⟩,
 ⟨some 3,.box false 68 38 (.t 1),none⟩,
 ⟨some 4,.mv (.c (.bool false)),none⟩] [2,3])
 (.seq (.ops [
 ⟨some 8,.load (some 6) (.t 2),none⟩,
 ⟨some 9,.load (some 38) (.t 3),none⟩,
 ⟨some 10,.call (.f 172) [(.t 8),(.t 9)],none⟩,
 ⟨some 7,.mv (.t 10),none⟩,
 ⟨some 11,.ext 0 (.t 7),none⟩,
 ⟨some 12,.ext 1 (.t 7),none⟩,
 ⟨some 5,.alloc 68 38 z38,none⟩,
 ⟨none,.store 38 (.t 5) (.t 11),none⟩,
 ⟨some 6,.mv (.t 12),none⟩] [3,5,6])
 (.seq (.ops [
 ⟨some 13,.faddr 0 (.t 3),none⟩,
 ⟨some 14,.load none (.t 13),none⟩,
 ⟨some 15,.faddr 0 (.t 5),none⟩,
 ⟨none,.store 1 (.t 15) (.t 14),none⟩] [3,5,6])
 (.seq (.ops [
 ⟨some 16,.faddr 1 (.t 3),none⟩,
 ⟨some 17,.load none (.t 16),none⟩,
 ⟨some 18,.faddr 1 (.t 5),none⟩,
 ⟨none,.store 1 (.t 18) (.t 17),none⟩] [3,5,6])
 (.seq (.ops [
 ⟨some 19,.faddr 2 (.t 3),none⟩,
 ⟨some 20,.load none (.t 19),none⟩,
 ⟨some 21,.faddr 2 (.t 5),none⟩,
 ⟨none,.store 1 (.t 21) (.t 20),none⟩] [3,5,6])
 (.seq (.ops [
 ⟨some 22,.faddr 3 (.t 3),none⟩,
 ⟨some 23,.load none (.t 22),none⟩,
 ⟨some 24,.faddr 3 (.t 5),none⟩,
 ⟨none,.store 1 (.t 24) (.t 23),none⟩] [3,5,6])
 (.seq (.ops [
 ⟨some 25,.faddr 4 (.t 3),none⟩,
 ⟨some 26,.load none (.t 25),none⟩,
 ⟨some 27,.faddr 4 (.t 5),none⟩,
 ⟨none,.store 1 (.t 27) (.t 26),none⟩] [3,5,6])
 (.seq (.ops [
 ⟨some 28,.mv (.t 6),none⟩,
 ⟨some 29,.mv (.t 28),none⟩,
 ⟨some 30,.load (some 38) (.t 5),some (29,true)⟩,
 ⟨some 31,.load (some 38) (.t 3),some (29,true)⟩,
 ⟨some 32,.call (.f 50) [(.t 30),(.t 31)],some (29,true)⟩,
 ⟨some 33,.pick (.t 29) (.t 32) (.c (.bool false)),none⟩,
 ⟨some 34,.mv (.t 33),none⟩,
 ⟨some 35,.load (some 38) (.t 3),some (34,true)⟩,
 ⟨some 36,.call (.f 92) [(.t 35)],some (34,true)⟩,
 ⟨some 37,.call (.f 173) [(.t 36)],some (34,true)⟩,
 ⟨some 38,.pick (.t 34) (.t 37) (.c (.bool false)),none⟩,
 ⟨some 39,.mv (.t 38),none⟩,
 ⟨some 40,.faddr 2 (.t 3),some (39,true)⟩,
 ⟨some 41,.load none (.t 40),some (39,true)⟩,
 ⟨some 42,.call (.f 113) [(.t 41),(.c (.int .i64 1)),(.c (.int .i64 1099511627776))],some (39,true)⟩,
 ⟨some 43,.pick (.t 39) (.t 42) (.c (.bool false)),none⟩,
 ⟨some 44,.mv (.t 43),none⟩,
 ⟨some 45,.faddr 3 (.t 3),some (44,true)⟩,
 ⟨some 46,.load none (.t 45),some (44,true)⟩,
 ⟨some 47,.call (.f 113) [(.t 46),(.c (.int .i64 0)),(.c (.int .i64 10000))],some (44,true)⟩,
 ⟨some 48,.pick (.t 44) (.t 47) (.c (.bool false)),none⟩,
 ⟨some 4,.mv (.t 48),none⟩] [4])
 .ret)))))))),
 [.t 4]⟩
theorem k108:chkF Tryz.prog Tryz.f108 c108=true:=by kernel_rfl
def c46:CF:=⟨12,
 (.seq (.ops [
 ⟨some 2,.box false 26 6 (.t 0),none⟩,
 ⟨some 3,.box false 68 38 (.t 1),none⟩,
 ⟨some 4,.mv (.c (.int .i64 0)),none⟩] [2,3])
 (.seq (.seq (.ops [
 ⟨some 5,.load (some 6) (.t 2),none⟩,
 ⟨some 6,.call (.f 44) [(.t 5)],none⟩,
 ⟨some 7,.bin .neq (.t 6) (.c (.int .i64 0)),none⟩] [2,3,7])
 (.cond (.t 7) (.seq (.ops [
 ⟨some 4,.mv (.c (.int .i64 100)),none⟩] [4])
 .ret)
 .skip))
 (.seq (.seq (.ops [
 ⟨some 8,.load (some 6) (.t 2),none⟩,
 ⟨some 9,.load (some 38) (.t 3),none⟩,
 ⟨some 10,.call (.f 108) [(.t 8),(.t 9)],none⟩,
 ⟨some 11,.un .not (.t 10),none⟩] [11])
 (.cond (.t 11) (.seq (.ops [
 ⟨some 4,.mv (.c (.int .i64 60)),none⟩] [4])
 .ret)
 .skip))
 (.seq (.ops [
 ⟨some 4,.mv (.c (.int .i64 0)),none⟩] [4])
 .ret)))),
 [.t 4]⟩
theorem k46:chkF Tryz.prog Tryz.f46 c46=true:=by kernel_rfl
def c109:CF:=⟨20,
 (.seq (.ops [
 ⟨some 2,.box false 29 2 (.t 0),none⟩,
 ⟨some 3,.box false 29 2 (.t 1),none⟩,
 ⟨some 4,.mv (.c (.bool false)),none⟩] [2,3])
 (.seq (.seq (.ops [
 ⟨some 5,.faddr 0 (.t 2),none⟩,
 ⟨some 6,.load none (.t 5),none⟩,
 ⟨some 7,.faddr 0 (.t 3),none⟩,
 ⟨some 8,.load none (.t 7),none⟩,
 ⟨some 9,.bin .neq (.t 6) (.t 8),none⟩] [2,3,9])
 (.cond (.t 9) (.seq (.ops [
 ⟨some 10,.faddr 0 (.t 2),none⟩,
 ⟨some 11,.load none (.t 10),none⟩,
 ⟨some 12,.faddr 0 (.t 3),none⟩,
 ⟨some 13,.load none (.t 12),none⟩,
 ⟨some 14,.bin .lss (.t 11) (.t 13),none⟩,
 ⟨some 4,.mv (.t 14),none⟩] [4])
 .ret)
 .skip))
 (.seq (.ops [
 ⟨some 15,.faddr 1 (.t 2),none⟩,
 ⟨some 16,.load none (.t 15),none⟩,
 ⟨some 17,.faddr 1 (.t 3),none⟩,
 ⟨some 18,.load none (.t 17),none⟩,
 ⟨some 19,.bin .lss (.t 16) (.t 18),none⟩,
 ⟨some 4,.mv (.t 19),none⟩] [4])
 .ret))),
 [.t 4]⟩
theorem k109:chkF Tryz.prog Tryz.f109 c109=true:=by kernel_rfl
def c48:CF:=⟨30,
 (.seq (.ops [
 ⟨some 2,.box false 68 38 (.t 0),none⟩,
 ⟨some 3,.box false 68 38 (.t 1),none⟩,
 ⟨some 4,.mv (.c (.bool false)),none⟩] [2,3])
 (.seq (.seq (.ops [
 ⟨some 5,.faddr 3 (.t 2),none⟩,
 ⟨some 6,.load none (.t 5),none⟩,
 ⟨some 7,.faddr 3 (.t 3),none⟩,
 ⟨some 8,.load none (.t 7),none⟩,
 ⟨some 9,.bin .neq (.t 6) (.t 8),none⟩] [2,3,9])
 (.cond (.t 9) (.seq (.ops [
 ⟨some 10,.faddr 3 (.t 2),none⟩,
 ⟨some 11,.load none (.t 10),none⟩,
 ⟨some 12,.faddr 3 (.t 3),none⟩,
 ⟨some 13,.load none (.t 12),none⟩,
 ⟨some 14,.bin .lss (.t 11) (.t 13),none⟩,
 ⟨some 4,.mv (.t 14),none⟩] [4])
 .ret)
 .skip))
 (.seq (.seq (.ops [
 ⟨some 15,.faddr 2 (.t 2),none⟩,
 ⟨some 16,.load none (.t 15),none⟩,
 ⟨some 17,.faddr 2 (.t 3),none⟩,
 ⟨some 18,.load none (.t 17),none⟩,
 ⟨some 19,.bin .neq (.t 16) (.t 18),none⟩] [2,3,19])
 (.cond (.t 19) (.seq (.ops [
 ⟨some 20,.faddr 2 (.t 2),none⟩,
 ⟨some 21,.load none (.t 20),none⟩,
 ⟨some 22,.faddr 2 (.t 3),none⟩,
 ⟨some 23,.load none (.t 22),none⟩,
 ⟨some 24,.bin .lss (.t 21) (.t 23),none⟩,
 ⟨some 4,.mv (.t 24),none⟩] [4])
 .ret)
 .skip))
 (.seq (.draw [
 ⟨some 25,.load (some 38) (.t 2),none⟩,
 ⟨some 26,.call (.f 92) [(.t 25)],none⟩,
 ⟨some 27,.load (some 38) (.t 3),none⟩,
 ⟨some 28,.call (.f 92) [(.t 27)],none⟩,
 ⟨some 29,.call (.f 109) [(.t 26),(.t 28)],none⟩,
 ⟨some 4,.mv (.t 29),none⟩] [
 ] [4])
 .ret)))),
 [.t 4]⟩
theorem k48:chkF Tryz.prog Tryz.f48 c48=true:=by kernel_rfl
def c42:CF:=⟨61,
 (.seq (.ops [
 ⟨some 2,.box false 26 6 (.t 0),none⟩,
 ⟨some 4,.mv (.c (.int .i64 0)),none⟩,
 ⟨some 5,.mv (.c (.int .i64 0)),none⟩] [1,2])
 (.seq (.seq (.ops [
 ⟨some 7,.load (some 6) (.t 2),none⟩,
 ⟨some 8,.call (.f 44) [(.t 7)],none⟩,
 ⟨some 9,.bin .neq (.t 8) (.c (.int .i64 0)),none⟩] [1,2,9])
 (.cond (.t 9) (.seq (.ops [
 ⟨some 4,.mv (.c (.int .i64 100)),none⟩,
 ⟨some 5,.mv (.c (.int .i64 0)),none⟩] [4,5])
 .ret)
 .skip))
 (.seq (.seq (.ops [
 ⟨some 10,.mv (.t 1),none⟩,
 ⟨some 11,.len (.t 10),none⟩,
 ⟨some 12,.bin .gtr (.t 11) (.c (.int .i64 400)),none⟩] [1,2,12])
 (.cond (.t 12) (.seq (.ops [
 ⟨some 4,.mv (.c (.int .i64 2)),none⟩,
 ⟨some 5,.mv (.c (.int .i64 0)),none⟩] [4,5])
 .ret)
 .skip))
 (.seq (.seq (.ops [
 ⟨some 6,.mv (.c (.int .i64 0)),none⟩] [1,2,6])
 (.block 0 (.loop (.seq (.seq (.ops [
 ⟨some 13,.mv (.t 6),none⟩,
 ⟨some 14,.mv (.t 1),none⟩,
 ⟨some 15,.len (.t 14),none⟩,
 ⟨some 16,.bin .lss (.t 13) (.t 15),none⟩] [1,2,6,16])
 (.cond (.t 16) .skip
 (.exit 0)))
 (.seq (.block 1 (.seq (.seq (.draw [
 ⟨some 19,.load (some 6) (.t 2),none⟩,
 ⟨some 20,.mv (.t 1),none⟩,
 ⟨some 21,.mv (.t 6),none⟩,
 ⟨some 22,.iaddr 38 (.t 20) (.t 21),none⟩,
 ⟨some 23,.load (some 38) (.t 22),none⟩,
 ⟨some 24,.call (.f 108) [(.t 19),(.t 23)],none⟩,
 ⟨some 25,.un .not (.t 24),none⟩] [
 ] [1,2,6,25])
 (.cond (.t 25) (.seq (.ops [
 ⟨some 26,.mv (.t 6),none⟩,
 ⟨some 4,.mv (.c (.int .i64 60)),none⟩,
 ⟨some 5,.mv (.t 26),none⟩] [4,5])
 .ret)
 .skip))
 (.seq (.seq (.draw [
 ⟨some 27,.mv (.t 6),none⟩,
 ⟨some 28,.bin .gtr (.t 27) (.c (.int .i64 0)),none⟩,
 ⟨some 29,.mv (.t 28),none⟩,
 ⟨some 30,.mv (.t 1),some (29,true)⟩,
 ⟨some 31,.mv (.t 6),some (29,true)⟩,
 ⟨some 32,.iaddr 38 (.t 30) (.t 31),some (29,true)⟩,
 ⟨some 33,.load (some 38) (.t 32),some (29,true)⟩,
 ⟨some 34,.call (.f 92) [(.t 33)],some (29,true)⟩,
 ⟨some 35,.mv (.t 1),some (29,true)⟩,
 ⟨some 36,.mv (.t 6),some (29,true)⟩,
 ⟨some 37,.bin .sub (.t 36) (.c (.int .i64 1)),some (29,true)⟩,
 ⟨some 38,.iaddr 38 (.t 35) (.t 37),some (29,true)⟩,
 ⟨some 39,.load (some 38) (.t 38),some (29,true)⟩,
 ⟨some 40,.call (.f 92) [(.t 39)],some (29,true)⟩,
 ⟨some 41,.eqs false [some .i64,some .i64] (.t 34) (.t 40),some (29,true)⟩,
 ⟨some 42,.pick (.t 29) (.t 41) (.c (.bool false)),none⟩] [
 ] [1,2,6,42])
 (.cond (.t 42) (.seq (.ops [
 ⟨some 43,.mv (.t 6),none⟩,
 ⟨some 4,.mv (.c (.int .i64 61)),none⟩,
 ⟨some 5,.mv (.t 43),none⟩] [4,5])
 .ret)
 .skip))
 (.seq (.draw [
 ⟨some 44,.mv (.t 6),none⟩,
 ⟨some 45,.bin .gtr (.t 44) (.c (.int .i64 0)),none⟩,
 ⟨some 46,.mv (.t 45),none⟩,
 ⟨some 47,.mv (.t 1),some (46,true)⟩,
 ⟨some 48,.mv (.t 6),some (46,true)⟩,
 ⟨some 49,.iaddr 38 (.t 47) (.t 48),some (46,true)⟩,
 ⟨some 50,.load (some 38) (.t 49),some (46,true)⟩,
 ⟨some 51,.call (.f 92) [(.t 50)],some (46,true)⟩,
 ⟨some 52,.mv (.t 1),some (46,true)⟩,
 ⟨some 53,.mv (.t 6),some (46,true)⟩,
 ⟨some 54,.bin .sub (.t 53) (.c (.int .i64 1)),some (46,true)⟩,
 ⟨some 55,.iaddr 38 (.t 52) (.t 54),some (46,true)⟩,
 ⟨some 56,.load (some 38) (.t 55),some (46,true)⟩,
 ⟨some 57,.call (.f 92) [(.t 56)],some (46,true)⟩,
 ⟨some 58,.call (.f 109) [(.t 51),(.t 57)],some (46,true)⟩,
 ⟨some 59,.pick (.t 46) (.t 58) (.c (.bool false)),none⟩] [
 ] [1,2,6,59])
 (.cond (.t 59) (.seq (.ops [
 ⟨some 60,.mv (.t 6),none⟩,
 ⟨some 4,.mv (.c (.int .i64 1)),none⟩,
 ⟨some 5,.mv (.t 60),none⟩] [4,5])
 .ret)
 .skip)))))
 (.ops [
 ⟨some 17,.mv (.t 6),none⟩,
 ⟨some 18,.bin .add (.t 17) (.c (.int .i64 1)),none⟩,
 ⟨some 6,.mv (.t 18),none⟩] [1,2,6]))))))
 (.seq (.ops [
 ⟨some 4,.mv (.c (.int .i64 0)),none⟩,
 ⟨some 5,.mv (.c (.int .i64 0)),none⟩] [4,5])
 .ret))))),
 [.t 4,.t 5]⟩
theorem k42:chkF Tryz.prog Tryz.f42 c42=true:=by kernel_rfl
def c11:CF:=⟨93,
 (.seq (.ops [
 ⟨some 4,.box false 26 6 (.t 0),none⟩,
 ⟨some 6,.box false 68 38 (.t 2),none⟩,
 ⟨some 7,.box false 68 38 (.t 3),none⟩,
 ⟨some 8,.mv (.c (.bool false)),none⟩] [1,4,6,7])
 (.seq (.ops [
 ⟨some 14,.call (.f 18) [],none⟩,
 ⟨some 9,.mv (.t 14),none⟩] [1,4,6,7,9])
 (.seq (.seq (.ops [
 ⟨some 15,.load (some 6) (.t 4),none⟩,
 ⟨some 16,.call (.f 19) [(.t 15)],none⟩,
 ⟨some 17,.un .not (.t 16),none⟩,
 ⟨some 18,.mv (.t 17),none⟩,
 ⟨some 19,.mv (.t 1),some (18,false)⟩,
 ⟨some 20,.call (.f 20) [(.t 19)],some (18,false)⟩,
 ⟨some 21,.un .not (.t 20),some (18,false)⟩,
 ⟨some 22,.pick (.t 18) (.c (.bool true)) (.t 21),none⟩,
 ⟨some 23,.mv (.t 22),none⟩,
 ⟨some 24,.faddr 7 (.t 6),some (23,false)⟩,
 ⟨some 25,.load (some 18) (.t 24),some (23,false)⟩,
 ⟨some 26,.call (.f 33) [(.t 25)],some (23,false)⟩,
 ⟨some 27,.un .not (.t 26),some (23,false)⟩,
 ⟨some 28,.pick (.t 23) (.c (.bool true)) (.t 27),none⟩,
 ⟨some 29,.mv (.t 28),none⟩,
 ⟨some 30,.faddr 7 (.t 7),some (29,false)⟩,
 ⟨some 31,.load (some 18) (.t 30),some (29,false)⟩,
 ⟨some 32,.call (.f 33) [(.t 31)],some (29,false)⟩,
 ⟨some 33,.un .not (.t 32),some (29,false)⟩,
 ⟨some 34,.pick (.t 29) (.c (.bool true)) (.t 33),none⟩] [1,4,6,7,9,34])
 (.cond (.t 34) (.seq (.ops [
 ⟨some 35,.mv (.t 9),none⟩,
 ⟨some 8,.mv (.t 35),none⟩] [8])
 .ret)
 .skip))
 (.seq (.ops [
 ⟨some 37,.load (some 6) (.t 4),none⟩,
 ⟨some 38,.mv (.t 1),none⟩,
 ⟨some 39,.call (.f 41) [(.t 37),(.t 38)],none⟩,
 ⟨some 36,.mv (.t 39),none⟩,
 ⟨some 40,.ext 0 (.t 36),none⟩,
 ⟨some 41,.ext 1 (.t 36),none⟩,
 ⟨some 10,.mv (.t 40),none⟩,
 ⟨some 11,.mv (.t 41),none⟩] [1,4,6,7,9,10,11])
 (.seq (.ops [
 ⟨some 43,.load (some 6) (.t 4),none⟩,
 ⟨some 44,.mv (.t 1),none⟩,
 ⟨some 45,.call (.f 42) [(.t 43),(.t 44)],none⟩,
 ⟨some 42,.mv (.t 45),none⟩,
 ⟨some 46,.ext 0 (.t 42),none⟩,
 ⟨some 47,.ext 1 (.t 42),none⟩,
 ⟨some 12,.mv (.t 46),none⟩,
 ⟨some 13,.mv (.t 47),none⟩] [4,6,7,9,10,11,12,13])
 (.seq (.draw [
 ⟨some 48,.mv (.t 9),none⟩,
 ⟨some 49,.mv (.t 48),none⟩,
 ⟨some 50,.load (some 6) (.t 4),some (49,true)⟩,
 ⟨some 51,.call (.f 43) [(.t 50)],some (49,true)⟩,
 ⟨some 52,.load (some 6) (.t 4),some (49,true)⟩,
 ⟨some 53,.call (.f 44) [(.t 52)],some (49,true)⟩,
 ⟨some 54,.bin .eql (.t 51) (.t 53),some (49,true)⟩,
 ⟨some 55,.pick (.t 49) (.t 54) (.c (.bool false)),none⟩,
 ⟨some 56,.mv (.t 55),none⟩,
 ⟨some 57,.load (some 6) (.t 4),some (56,true)⟩,
 ⟨some 58,.load (some 38) (.t 6),some (56,true)⟩,
 ⟨some 59,.call (.f 45) [(.t 57),(.t 58)],some (56,true)⟩,
 ⟨some 60,.load (some 6) (.t 4),some (56,true)⟩,
 ⟨some 61,.load (some 38) (.t 6),some (56,true)⟩,
 ⟨some 62,.call (.f 46) [(.t 60),(.t 61)],some (56,true)⟩,
 ⟨some 63,.bin .eql (.t 59) (.t 62),some (56,true)⟩,
 ⟨some 64,.pick (.t 56) (.t 63) (.c (.bool false)),none⟩,
 ⟨some 65,.mv (.t 64),none⟩,
 ⟨some 66,.mv (.t 10),some (65,true)⟩,
 ⟨some 67,.mv (.t 12),some (65,true)⟩,
 ⟨some 68,.bin .eql (.t 66) (.t 67),some (65,true)⟩,
 ⟨some 69,.pick (.t 65) (.t 68) (.c (.bool false)),none⟩,
 ⟨some 70,.mv (.t 69),none⟩,
 ⟨some 71,.mv (.t 11),some (70,true)⟩,
 ⟨some 72,.mv (.t 13),some (70,true)⟩,
 ⟨some 73,.bin .eql (.t 71) (.t 72),some (70,true)⟩,
 ⟨some 74,.pick (.t 70) (.t 73) (.c (.bool false)),none⟩,
 ⟨some 75,.mv (.t 74),none⟩,
 ⟨some 76,.load (some 38) (.t 6),some (75,true)⟩,
 ⟨some 77,.load (some 38) (.t 7),some (75,true)⟩,
 ⟨some 78,.call (.f 47) [(.t 76),(.t 77)],some (75,true)⟩,
 ⟨some 79,.load (some 38) (.t 6),some (75,true)⟩,
 ⟨some 80,.load (some 38) (.t 7),some (75,true)⟩,
 ⟨some 81,.call (.f 48) [(.t 79),(.t 80)],some (75,true)⟩,
 ⟨some 82,.eqb false (.t 78) (.t 81),some (75,true)⟩,
 ⟨some 83,.pick (.t 75) (.t 82) (.c (.bool false)),none⟩,
 ⟨some 84,.mv (.t 83),none⟩,
 ⟨some 85,.load (some 38) (.t 6),some (84,true)⟩,
 ⟨some 86,.load (some 38) (.t 7),some (84,true)⟩,
 ⟨some 87,.call (.f 49) [(.t 85),(.t 86)],some (84,true)⟩,
 ⟨some 88,.load (some 38) (.t 6),some (84,true)⟩,
 ⟨some 89,.load (some 38) (.t 7),some (84,true)⟩,
 ⟨some 90,.call (.f 50) [(.t 88),(.t 89)],some (84,true)⟩,
 ⟨some 91,.eqb false (.t 87) (.t 90),some (84,true)⟩,
 ⟨some 92,.pick (.t 84) (.t 91) (.c (.bool false)),none⟩,
 ⟨some 8,.mv (.t 92),none⟩] [
 ] [8])
 .ret)))))),
 [.t 8]⟩
theorem k11:chkF Tryz.prog Tryz.f11 c11=true:=by kernel_rfl
def contT (a:Nt):Nt:={ a.bare with clerk:=0,num:=0,clock:=0,day:=0,kind:=0 }
theorem bare_head (a:Nt):a.bare.clerk=a.clerk∧a.bare.num=a.num∧a.bare.clock=a.clock∧a.bare.day=a.day∧a.bare.kind=a.kind:=by
  unfold Nt.bare
  repeat' split
  all_goals exact ⟨rfl,rfl,rfl,rfl,rfl⟩
theorem bare_cont (a:Nt):a.bare={ (contT a) with clerk:=a.clerk,num:=a.num,clock:=a.clock,day:=a.day,kind:=a.kind }:=by
  obtain ⟨h1,h2,h3,h4,h5⟩:=bare_head a
  rw [← h1,← h2,← h3,← h4,← h5]; rfl
theorem cont_sz {a:Nt} (h:ntSz a):ntSz (contT a):=bareSz h
theorem cmpN_lt {x y:Nm}:cmpN x y < 0↔(¬ x.clerk=y.clerk∧x.clerk < y.clerk)∨(x.clerk=y.clerk∧x.num < y.num):=by
  unfold cmpN orI sgn
  repeat' split
  all_goals omega
theorem cmpN_gt {x y:Nm}:0 < cmpN y x↔cmpN x y < 0:=by
  unfold cmpN orI sgn
  repeat' split
  all_goals omega
theorem cmpN_zero {x y:Nm}:cmpN y x=0↔x.clerk=y.clerk∧x.num=y.num:=by
  unfold cmpN orI sgn
  repeat' split
  all_goals omega
theorem rContent_spec (b:Bse) (hb:bseSz b) (a:Nt) (ha:ntSz a):Pure Tryz.prog 172 [.agg b.cs,.agg a.cs] (.tup [.agg (contT a).cs,bl (decide (a.says b))]):=by
  refine Pure.of_body Tryz.call172 Tryz.func172 k172 (Nat.le_of_ble_eq_true rfl) ?_
  unfold c172
  by_cases h1:a.kind=1
  · have e1:(contT a)={ nt0 with stn:=a.stn,week:=a.week,sheet:=a.sheet }:=by unfold contT Nt.bare; simp only [h1,if_true,if_false,ne_eq,not_true_eq_false,not_false_eq_true,Int.reduceEq]; rfl
    have e2:decide (a.says b)=(decide (placed b a.stn a.week) && decide a.sheet.ok):=by rw [Bool.eq_iff_iff]; unfold Nt.says; simp [h1]
    rw [e1,e2]
    have p1:=rPlace_spec b hb a.stn a.week
    generalize decide (placed b a.stn a.week)=x0 at p1
    have v:=rValid_spec a.sheet ha
    generalize decide a.sheet.ok=x1 at v
    (repeat' ((first|refine vn rfl ?_|simp (disch:=omega) only [wr64,W7]|refine bo (fun _=>?_) fun _=>?_|refine im fun _=>?_|((repeat refine si ?_); (first|((first|refine .inl ⟨_,_,_,_,rfl,fun _=>pu (by first|exact p1|exact v),?_⟩|refine ⟨_,_,_,_,rfl,fun _=>pu (by first|exact p1|exact v),?_⟩); (first|refine o1 ?_|refine o2 ?_|refine o3 ?_|refine o4 ?_)) | refine .inl ⟨_,_,_,_,rfl,pu (by first|exact p1|exact v),?_⟩))|refine cF ?_|refine om ?_|refine an ?_|fail) <;> try simp only [zN,zT,zV,zS,zU,Q0,Q1,ex,Q2,Q3,Q4,Q5,Q6,Q7,Q8,Q9,QA,QB,QC,W0,W1,W2,W3,W4,W5,W6,reduceIte,h1,z38,Sht.cs]))
    all_goals try (exfalso; omega)
    all_goals refine Frz.tupL ⟨Frz.aggL ?_,Frz.eq (congrArg bl (by (first | rfl | (cases x0 <;> cases x1 <;> simp [Bool.and_assoc]) | (rw [Bool.eq_iff_iff]; cases x0 <;> cases x1 <;> simp <;> omega)))) (by simp),trivial⟩
    all_goals simp only [Nt.cs,nt0,sht0,mk0,rd0,hgt0,nm0,FL]
    all_goals repeat' apply And.intro
    all_goals first | trivial|exact Frz.nil0|exact Frz.eq rfl (by simp)|exact Frz.eq (by simp [*]) (by simp)
  by_cases h2:a.kind=2
  · have e1:(contT a)={ nt0 with ref:=a.ref,mark:=a.mark }:=by unfold contT Nt.bare; simp only [h2,if_true,if_false,ne_eq,not_true_eq_false,not_false_eq_true,Int.reduceEq]; rfl
    have e2:decide (a.says b)=(decide a.ref.ok && decide a.mark.ok):=by rw [Bool.eq_iff_iff]; unfold Nt.says; simp [h2]
    rw [e1,e2]
    have r1:=rRight_spec a.ref
    generalize decide a.ref.ok=x0 at r1
    have m1:=rMark_spec a.mark
    generalize decide a.mark.ok=x1 at m1
    (repeat' ((first|refine vn rfl ?_|simp (disch:=omega) only [wr64,W7]|refine bo (fun _=>?_) fun _=>?_|refine im fun _=>?_|((repeat refine si ?_); (first|((first|refine .inl ⟨_,_,_,_,rfl,fun _=>pu (by first|exact r1|exact m1),?_⟩|refine ⟨_,_,_,_,rfl,fun _=>pu (by first|exact r1|exact m1),?_⟩); (first|refine o1 ?_|refine o2 ?_|refine o3 ?_|refine o4 ?_)) | refine .inl ⟨_,_,_,_,rfl,pu (by first|exact r1|exact m1),?_⟩))|refine cF ?_|refine om ?_|refine an ?_|fail) <;> try simp only [zN,zT,zV,zS,zU,Q0,Q1,ex,Q2,Q3,Q4,Q5,Q6,Q7,Q8,Q9,QA,QB,QC,W0,W1,W2,W3,W4,W5,W6,reduceIte,h2,z38,Sht.cs]))
    all_goals try (exfalso; omega)
    all_goals refine Frz.tupL ⟨Frz.aggL ?_,Frz.eq (congrArg bl (by (first | rfl | (cases x0 <;> cases x1 <;> simp [Bool.and_assoc]) | (rw [Bool.eq_iff_iff]; cases x0 <;> cases x1 <;> simp <;> omega)))) (by simp),trivial⟩
    all_goals simp only [Nt.cs,nt0,sht0,mk0,rd0,hgt0,nm0,FL]
    all_goals repeat' apply And.intro
    all_goals first | trivial|exact Frz.nil0|exact Frz.eq rfl (by simp)|exact Frz.eq (by simp [*]) (by simp)
  by_cases h3:a.kind=3
  · have e1:(contT a)={ nt0 with read:=a.read }:=by unfold contT Nt.bare; simp only [h3,if_true,if_false,ne_eq,not_true_eq_false,not_false_eq_true,Int.reduceEq]; rfl
    have e2:decide (a.says b)=(decide (a.read.ok b)):=by rw [Bool.eq_iff_iff]; unfold Nt.says; simp [h3]
    rw [e1,e2]
    have d1:=rRead_spec b hb a.read
    generalize decide (a.read.ok b)=x0 at d1
    (repeat' ((first|refine vn rfl ?_|simp (disch:=omega) only [wr64,W7]|refine bo (fun _=>?_) fun _=>?_|refine im fun _=>?_|((repeat refine si ?_); (first|((first|refine .inl ⟨_,_,_,_,rfl,fun _=>pu d1,?_⟩|refine ⟨_,_,_,_,rfl,fun _=>pu d1,?_⟩); (first|refine o1 ?_|refine o2 ?_|refine o3 ?_|refine o4 ?_)) | refine .inl ⟨_,_,_,_,rfl,pu d1,?_⟩))|refine cF ?_|refine om ?_|refine an ?_|fail) <;> try simp only [zN,zT,zV,zS,zU,Q0,Q1,ex,Q2,Q3,Q4,Q5,Q6,Q7,Q8,Q9,QA,QB,QC,W0,W1,W2,W3,W4,W5,W6,reduceIte,h3,z38,Sht.cs]))
    all_goals try (exfalso; omega)
    all_goals refine Frz.tupL ⟨Frz.aggL ?_,Frz.eq (congrArg bl (by (first | rfl | (cases x0 <;> simp [Bool.and_assoc]) | (rw [Bool.eq_iff_iff]; cases x0 <;> simp <;> omega)))) (by simp),trivial⟩
    all_goals simp only [Nt.cs,nt0,sht0,mk0,rd0,hgt0,nm0,FL]
    all_goals repeat' apply And.intro
    all_goals first | trivial|exact Frz.nil0|exact Frz.eq rfl (by simp)|exact Frz.eq (by simp [*]) (by simp)
  by_cases h4:a.kind=4
  · have e1:(contT a)={ nt0 with stn:=a.stn,height:=a.height }:=by unfold contT Nt.bare; simp only [h4,if_true,if_false,ne_eq,not_true_eq_false,not_false_eq_true,Int.reduceEq]; rfl
    have e2:decide (a.says b)=(decide (placed b a.stn a.height.week) && decide (spIn a.height.metres 0 4000)):=by rw [Bool.eq_iff_iff]; unfold Nt.says; simp [h4]
    rw [e1,e2]
    have p2:=rPlace_spec b hb a.stn a.height.week
    generalize decide (placed b a.stn a.height.week)=x0 at p2
    (repeat' ((first|refine vn rfl ?_|simp (disch:=omega) only [wr64,W7]|refine bo (fun _=>?_) fun _=>?_|refine im fun _=>?_|((repeat refine si ?_); (first|((first|refine .inl ⟨_,_,_,_,rfl,fun _=>pu (by first|exact p2|exact within_r a.height.metres.lo 0 a.height.metres.hi),?_⟩|refine ⟨_,_,_,_,rfl,fun _=>pu (by first|exact p2|exact within_r a.height.metres.lo 0 a.height.metres.hi),?_⟩); (first|refine o1 ?_|refine o2 ?_|refine o3 ?_|refine o4 ?_)) | refine .inl ⟨_,_,_,_,rfl,pu (by first|exact p2|exact within_r a.height.metres.lo 0 a.height.metres.hi),?_⟩))|refine cF ?_|refine om ?_|refine an ?_|fail) <;> try simp only [zN,zT,zV,zS,zU,Q0,Q1,ex,Q2,Q3,Q4,Q5,Q6,Q7,Q8,Q9,QA,QB,QC,W0,W1,W2,W3,W4,W5,W6,reduceIte,h4,z38,Sht.cs]))
    all_goals try (exfalso; omega)
    all_goals refine Frz.tupL ⟨Frz.aggL ?_,Frz.eq (congrArg bl (by (first | rfl | (cases x0 <;> simp [Bool.and_assoc]) | (rw [Bool.eq_iff_iff]; cases x0 <;> simp <;> omega)))) (by simp),trivial⟩
    all_goals simp only [Nt.cs,nt0,sht0,mk0,rd0,hgt0,nm0,FL]
    all_goals repeat' apply And.intro
    all_goals first | trivial|exact Frz.nil0|exact Frz.eq rfl (by simp)|exact Frz.eq (by simp [*]) (by simp)
  by_cases h5:a.kind=5
  · have e1:(contT a)={ nt0 with ref:=a.ref,stn:=a.stn,week:=a.week }:=by unfold contT Nt.bare; simp only [h5,if_true,if_false,ne_eq,not_true_eq_false,not_false_eq_true,Int.reduceEq]; rfl
    have e2:decide (a.says b)=(decide a.ref.ok && decide (placed b a.stn a.week)):=by rw [Bool.eq_iff_iff]; unfold Nt.says; simp [h5]; try (intros; constructor <;> (intro h; simp_all))
    rw [e1,e2]
    have r1:=rRight_spec a.ref
    generalize decide a.ref.ok=x0 at r1
    have p1:=rPlace_spec b hb a.stn a.week
    generalize decide (placed b a.stn a.week)=x1 at p1
    (repeat' ((first|refine vn rfl ?_|simp (disch:=omega) only [wr64,W7]|refine bo (fun _=>?_) fun _=>?_|refine im fun _=>?_|((repeat refine si ?_); (first|((first|refine .inl ⟨_,_,_,_,rfl,fun _=>pu (by first|exact r1|exact p1),?_⟩|refine ⟨_,_,_,_,rfl,fun _=>pu (by first|exact r1|exact p1),?_⟩); (first|refine o1 ?_|refine o2 ?_|refine o3 ?_|refine o4 ?_)) | refine .inl ⟨_,_,_,_,rfl,pu (by first|exact r1|exact p1),?_⟩))|refine cF ?_|refine om ?_|refine an ?_|fail) <;> try simp only [zN,zT,zV,zS,zU,Q0,Q1,ex,Q2,Q3,Q4,Q5,Q6,Q7,Q8,Q9,QA,QB,QC,W0,W1,W2,W3,W4,W5,W6,reduceIte,h5,z38,Sht.cs]))
    all_goals try (exfalso; omega)
    all_goals refine Frz.tupL ⟨Frz.aggL ?_,Frz.eq (congrArg bl (by (first | rfl | (cases x0 <;> cases x1 <;> simp [Bool.and_assoc]) | (rw [Bool.eq_iff_iff]; cases x0 <;> cases x1 <;> simp <;> omega)))) (by simp),trivial⟩
    all_goals simp only [Nt.cs,nt0,sht0,mk0,rd0,hgt0,nm0,FL]
    all_goals repeat' apply And.intro
    all_goals first | trivial|exact Frz.nil0|exact Frz.eq rfl (by simp)|exact Frz.eq (by simp [*]) (by simp)
  by_cases h6:a.kind=6
  · by_cases h0:a.read.stn=0
    · have e1:(contT a)={ nt0 with ref:=a.ref,mark:=a.mark }:=by unfold contT Nt.bare; simp only [h6,h0,if_true,if_false,ne_eq,not_true_eq_false,not_false_eq_true,Int.reduceEq]; rfl
      have e2:decide (a.says b)=(decide a.ref.ok && decide a.mark.ok):=by rw [Bool.eq_iff_iff]; unfold Nt.says; simp [h6,h0]
      rw [e1,e2]
      have r1:=rRight_spec a.ref
      generalize decide a.ref.ok=x0 at r1
      have m1:=rMark_spec a.mark
      generalize decide a.mark.ok=x1 at m1
      (repeat' ((first|refine vn rfl ?_|simp (disch:=omega) only [wr64,W7]|refine bo (fun _=>?_) fun _=>?_|refine im fun _=>?_|((repeat refine si ?_); (first|((first|refine .inl ⟨_,_,_,_,rfl,fun _=>pu (by first|exact r1|exact m1),?_⟩|refine ⟨_,_,_,_,rfl,fun _=>pu (by first|exact r1|exact m1),?_⟩); (first|refine o1 ?_|refine o2 ?_|refine o3 ?_|refine o4 ?_)) | refine .inl ⟨_,_,_,_,rfl,pu (by first|exact r1|exact m1),?_⟩))|refine cF ?_|refine om ?_|refine an ?_|fail) <;> try simp only [zN,zT,zV,zS,zU,Q0,Q1,ex,Q2,Q3,Q4,Q5,Q6,Q7,Q8,Q9,QA,QB,QC,W0,W1,W2,W3,W4,W5,W6,reduceIte,h6,h0,z38,Sht.cs]))
      all_goals try (exfalso; omega)
      all_goals refine Frz.tupL ⟨Frz.aggL ?_,Frz.eq (congrArg bl (by (first | rfl | (cases x0 <;> cases x1 <;> simp [Bool.and_assoc]) | (rw [Bool.eq_iff_iff]; cases x0 <;> cases x1 <;> simp <;> omega)))) (by simp),trivial⟩
      all_goals simp only [Nt.cs,nt0,sht0,mk0,rd0,hgt0,nm0,FL]
      all_goals repeat' apply And.intro
      all_goals first | trivial|exact Frz.nil0|exact Frz.eq rfl (by simp)|exact Frz.eq (by simp [*]) (by simp)
    · have e1:(contT a)={ nt0 with ref:=a.ref,read:=a.read }:=by unfold contT Nt.bare; simp only [h6,h0,if_true,if_false,ne_eq,not_true_eq_false,not_false_eq_true,Int.reduceEq]; rfl
      have e2:decide (a.says b)=(decide a.ref.ok && decide (a.read.ok b)):=by rw [Bool.eq_iff_iff]; unfold Nt.says; simp [h6,h0]
      rw [e1,e2]
      have r1:=rRight_spec a.ref
      generalize decide a.ref.ok=x0 at r1
      have d1:=rRead_spec b hb a.read
      generalize decide (a.read.ok b)=x1 at d1
      (repeat' ((first|refine vn rfl ?_|simp (disch:=omega) only [wr64,W7]|refine bo (fun _=>?_) fun _=>?_|refine im fun _=>?_|((repeat refine si ?_); (first|((first|refine .inl ⟨_,_,_,_,rfl,fun _=>pu (by first|exact r1|exact d1),?_⟩|refine ⟨_,_,_,_,rfl,fun _=>pu (by first|exact r1|exact d1),?_⟩); (first|refine o1 ?_|refine o2 ?_|refine o3 ?_|refine o4 ?_)) | refine .inl ⟨_,_,_,_,rfl,pu (by first|exact r1|exact d1),?_⟩))|refine cF ?_|refine om ?_|refine an ?_|fail) <;> try simp only [zN,zT,zV,zS,zU,Q0,Q1,ex,Q2,Q3,Q4,Q5,Q6,Q7,Q8,Q9,QA,QB,QC,W0,W1,W2,W3,W4,W5,W6,reduceIte,h6,h0,z38,Sht.cs]))
      all_goals try (exfalso; omega)
      all_goals refine Frz.tupL ⟨Frz.aggL ?_,Frz.eq (congrArg bl (by (first | rfl | (cases x0 <;> cases x1 <;> simp [Bool.and_assoc]) | (rw [Bool.eq_iff_iff]; cases x0 <;> cases x1 <;> simp <;> omega)))) (by simp),trivial⟩
      all_goals simp only [Nt.cs,nt0,sht0,mk0,rd0,hgt0,nm0,FL]
      all_goals repeat' apply And.intro
      all_goals first | trivial|exact Frz.nil0|exact Frz.eq rfl (by simp)|exact Frz.eq (by simp [*]) (by simp)
  by_cases h7:a.kind=7
  · have e1:(contT a)={ nt0 with ref:=a.ref }:=by unfold contT Nt.bare; simp only [h7,if_true,if_false,ne_eq,not_true_eq_false,not_false_eq_true,Int.reduceEq]; rfl
    have e2:decide (a.says b)=(decide a.ref.ok):=by rw [Bool.eq_iff_iff]; unfold Nt.says; simp [h7]
    rw [e1,e2]
    have r1:=rRight_spec a.ref
    generalize decide a.ref.ok=x0 at r1
    (repeat' ((first|refine vn rfl ?_|simp (disch:=omega) only [wr64,W7]|refine bo (fun _=>?_) fun _=>?_|refine im fun _=>?_|((repeat refine si ?_); (first|((first|refine .inl ⟨_,_,_,_,rfl,fun _=>pu r1,?_⟩|refine ⟨_,_,_,_,rfl,fun _=>pu r1,?_⟩); (first|refine o1 ?_|refine o2 ?_|refine o3 ?_|refine o4 ?_)) | refine .inl ⟨_,_,_,_,rfl,pu r1,?_⟩))|refine cF ?_|refine om ?_|refine an ?_|fail) <;> try simp only [zN,zT,zV,zS,zU,Q0,Q1,ex,Q2,Q3,Q4,Q5,Q6,Q7,Q8,Q9,QA,QB,QC,W0,W1,W2,W3,W4,W5,W6,reduceIte,h7,z38,Sht.cs]))
    all_goals try (exfalso; omega)
    all_goals refine Frz.tupL ⟨Frz.aggL ?_,Frz.eq (congrArg bl (by (first | rfl | (cases x0 <;> simp [Bool.and_assoc]) | (rw [Bool.eq_iff_iff]; cases x0 <;> simp <;> omega)))) (by simp),trivial⟩
    all_goals simp only [Nt.cs,nt0,sht0,mk0,rd0,hgt0,nm0,FL]
    all_goals repeat' apply And.intro
    all_goals first | trivial|exact Frz.nil0|exact Frz.eq rfl (by simp)|exact Frz.eq (by simp [*]) (by simp)
  have e1:(contT a)=nt0:=by unfold contT Nt.bare; simp only [h1,h2,h3,h4,h5,h6,h7,if_true,if_false,ne_eq,not_true_eq_false,not_false_eq_true,Int.reduceEq]; rfl
  have e2:decide (a.says b)=(false):=by rw [Bool.eq_iff_iff]; unfold Nt.says; simp [h1,h2,h3,h4,h5,h6,h7]
  rw [e1,e2]
  (repeat' ((first|refine vn rfl ?_|simp (disch:=omega) only [wr64,W7]|refine bo (fun _=>?_) fun _=>?_|refine im fun _=>?_|refine cF ?_|refine om ?_|refine an ?_|fail) <;> try simp only [zN,zT,zV,zS,zU,Q0,Q1,ex,Q2,Q3,Q4,Q5,Q6,Q7,Q8,Q9,QA,QB,QC,W0,W1,W2,W3,W4,W5,W6,reduceIte,h1,h2,h3,h4,h5,h6,h7,z38,Sht.cs]))
  all_goals try (exfalso; omega)
  all_goals refine Frz.tupL ⟨Frz.aggL ?_,Frz.eq (congrArg bl (by (first | rfl | (skip <;> simp [Bool.and_assoc]) | (rw [Bool.eq_iff_iff]; skip <;> simp <;> omega)))) (by simp),trivial⟩
  all_goals simp only [Nt.cs,nt0,sht0,mk0,rd0,hgt0,nm0,FL]
  all_goals repeat' apply And.intro
  all_goals first | trivial|exact Frz.nil0|exact Frz.eq rfl (by simp)|exact Frz.eq (by simp [*]) (by simp)
theorem rFormed_spec (b:Bse) (hb:bseSz b) (a:Nt) (ha:ntSz a):Pure Tryz.prog 108 [.agg b.cs,.agg a.cs] (bl (decide (a.ok b))):=by
  refine Pure.of_body Tryz.call108 Tryz.func108 k108 (Nat.le_of_ble_eq_true rfl) ?_
  unfold c108
  have h1:=rContent_spec b hb a ha
  have h2:=rSame_spec { (contT a) with clerk:=a.clerk,num:=a.num,clock:=a.clock,day:=a.day,kind:=a.kind } a (cont_sz ha) ha
  rw [← bare_cont a] at h2
  have h2':Pure Tryz.prog 50 [.agg (Nt.cs { (contT a) with clerk:=a.clerk,num:=a.num,clock:=a.clock,day:=a.day,kind:=a.kind }),.agg a.cs] (bl (decide (a.bare=a))):=by rw [← bare_cont a]; exact h2
  clear h2
  have h3:=rName_spec a
  have h4:=rRight_spec a.nm
  have hd:decide (a.ok b)=(decide (a.says b) && (decide (a.bare=a) && (decide a.nm.ok && (decide (inr a.clock 1 1099511627776) && decide (inr a.day 0 10000))))):=by
    rw [Bool.eq_iff_iff]; simp only [Bool.and_eq_true,decide_eq_true_eq]
    exact ⟨fun ⟨g1,g2,g3,g4,g5⟩=>⟨g5,g1.symm,g2,g3,g4⟩,fun ⟨g5,g1,g2,g3,g4⟩=>⟨g1.symm,g2,g3,g4,g5⟩⟩
  rw [hd]
  generalize decide (a.bare=a)=x1 at h2'
  generalize decide a.nm.ok=x2 at h4
  generalize decide (a.says b)=x3 at h1
  generalize contT a=c at h1 h2'
  obtain ⟨c1,c2,c3,c4,c5,c6,c7,c8,c9,c10,c11,c12⟩:=c
  simp only [Nt.cs,Sht.cs] at h1 h2'
  (repeat' ((first|refine vn rfl ?_|simp (disch:=omega) only [wr64,W7]|refine bo (fun _=>?_) fun _=>?_|refine im fun _=>?_|((repeat refine si ?_); (first|((first|refine .inl ⟨_,_,_,_,rfl,fun _=>pu (by first|exact h1|exact h2'|exact h3|exact h4|exact within_r a.clock 1 1099511627776|exact within_r a.day 0 10000),?_⟩|refine ⟨_,_,_,_,rfl,fun _=>pu (by first|exact h1|exact h2'|exact h3|exact h4|exact within_r a.clock 1 1099511627776|exact within_r a.day 0 10000),?_⟩); (first|refine o1 ?_|refine o2 ?_|refine o3 ?_|refine o4 ?_)) | refine .inl ⟨_,_,_,_,rfl,pu (by first|exact h1|exact h2'|exact h3|exact h4|exact within_r a.clock 1 1099511627776|exact within_r a.day 0 10000),?_⟩))|refine cF ?_|refine om ?_|refine an ?_|fail) <;> try simp only [zN,zT,zV,zS,zU,Q0,Q1,ex,Q2,Q3,Q4,Q5,Q6,Q7,Q8,Q9,QA,QB,QC,W0,W1,W2,W3,W4,W5,W6,reduceIte,z38,Sht.cs]))
  all_goals refine Frz.eq (congrArg bl ?_) (by simp)
  all_goals simp [Bool.and_assoc]
theorem rCheckNote_spec (b:Bse) (hb:bseSz b) (a:Nt) (ha:ntSz a):Pure Tryz.prog 46 [.agg b.cs,.agg a.cs] (n (if ¬ b.ok then 100 else if a.ok b then 0 else 60)):=by
  refine Pure.of_body Tryz.call46 Tryz.func46 k46 (Nat.le_of_ble_eq_true rfl) ?_
  unfold c46
  have h1:=rCheckBase_spec b hb
  have h2:=rFormed_spec b hb a ha
  by_cases g:b.ok
  · rw [if_pos g] at h1
    rw [if_neg (fun h=>h g)]
    by_cases g2:a.ok b
    · rw [decide_eq_true g2] at h2
      rw [if_pos g2]
      (repeat' ((first|refine vn rfl ?_|simp (disch:=omega) only [wr64,W7]|refine bo (fun _=>?_) fun _=>?_|refine im fun _=>?_|((repeat refine si ?_); (first|((first|refine .inl ⟨_,_,_,_,rfl,fun _=>pu (by first|exact h1|exact h2),?_⟩|refine ⟨_,_,_,_,rfl,fun _=>pu (by first|exact h1|exact h2),?_⟩); (first|refine o1 ?_|refine o2 ?_|refine o3 ?_|refine o4 ?_)) | refine .inl ⟨_,_,_,_,rfl,pu (by first|exact h1|exact h2),?_⟩))|refine cF ?_|refine om ?_|refine an ?_|fail) <;> try simp only [zN,zT,zV,zS,zU,Q0,Q1,ex,Q2,Q3,Q4,Q5,Q6,Q7,Q8,Q9,QA,QB,QC,W0,W1,W2,W3,W4,W5,W6,reduceIte]))
      all_goals first | (exfalso; omega)|exact Frz.eq rfl (by simp)
    · rw [decide_eq_false g2] at h2
      rw [if_neg g2]
      (repeat' ((first|refine vn rfl ?_|simp (disch:=omega) only [wr64,W7]|refine bo (fun _=>?_) fun _=>?_|refine im fun _=>?_|((repeat refine si ?_); (first|((first|refine .inl ⟨_,_,_,_,rfl,fun _=>pu (by first|exact h1|exact h2),?_⟩|refine ⟨_,_,_,_,rfl,fun _=>pu (by first|exact h1|exact h2),?_⟩); (first|refine o1 ?_|refine o2 ?_|refine o3 ?_|refine o4 ?_)) | refine .inl ⟨_,_,_,_,rfl,pu (by first|exact h1|exact h2),?_⟩))|refine cF ?_|refine om ?_|refine an ?_|fail) <;> try simp only [zN,zT,zV,zS,zU,Q0,Q1,ex,Q2,Q3,Q4,Q5,Q6,Q7,Q8,Q9,QA,QB,QC,W0,W1,W2,W3,W4,W5,W6,reduceIte]))
      all_goals first | (exfalso; omega)|exact Frz.eq rfl (by simp)
  · rw [if_neg g] at h1
    rw [if_pos g]
    (repeat' ((first|refine vn rfl ?_|simp (disch:=omega) only [wr64,W7]|refine bo (fun _=>?_) fun _=>?_|refine im fun _=>?_|((repeat refine si ?_); (first|((first|refine .inl ⟨_,_,_,_,rfl,fun _=>pu h1,?_⟩|refine ⟨_,_,_,_,rfl,fun _=>pu h1,?_⟩); (first|refine o1 ?_|refine o2 ?_|refine o3 ?_|refine o4 ?_)) | refine .inl ⟨_,_,_,_,rfl,pu h1,?_⟩))|refine cF ?_|refine om ?_|refine an ?_|fail) <;> try simp only [zN,zT,zV,zS,zU,Q0,Q1,ex,Q2,Q3,Q4,Q5,Q6,Q7,Q8,Q9,QA,QB,QC,W0,W1,W2,W3,W4,W5,W6,reduceIte]))
    all_goals first | (exfalso; omega)|exact Frz.eq rfl (by simp)
theorem rAhead_spec (x y:Nm):Pure Tryz.prog 109 [.agg x.cs,.agg y.cs] (bl (decide (cmpN x y < 0))):=by
  refine Pure.of_body Tryz.call109 Tryz.func109 k109 (Nat.le_of_ble_eq_true rfl) ?_
  unfold c109
  have h:=@cmpN_lt x y
  (repeat' ((first|refine vn rfl ?_|simp (disch:=omega) only [wr64,W7]|refine bo (fun _=>?_) fun _=>?_|refine im fun _=>?_|refine cF ?_|refine om ?_|refine an ?_|fail) <;> try simp only [zN,zT,zV,zS,zU,Q0,Q1,ex,Q2,Q3,Q4,Q5,Q6,Q7,Q8,Q9,QA,QB,QC,W0,W1,W2,W3,W4,W5,W6,reduceIte]))
  all_goals exact Frz.eq (congrArg bl (by rw [decide_eq_decide]; omega)) (by simp)
theorem rBefore_spec (a b:Nt):Pure Tryz.prog 48 [.agg a.cs,.agg b.cs] (bl (decide (cmpT a b < 0))):=by
  refine Pure.of_body Tryz.call48 Tryz.func48 k48 (Nat.le_of_ble_eq_true rfl) ?_
  unfold c48
  have h1:=rName_spec a
  have h2:=rName_spec b
  have h3:=rAhead_spec a.nm b.nm
  have hc:cmpT a b=orI (sgn a.day b.day) (orI (sgn a.clock b.clock) (cmpN a.nm b.nm)):=rfl
  generalize cmpN a.nm b.nm=c at h3 hc
  have hc2:cmpT a b < 0↔(¬ a.day=b.day∧a.day < b.day)∨(a.day=b.day∧((¬ a.clock=b.clock∧a.clock < b.clock)∨(a.clock=b.clock∧c < 0))):=by
    rw [hc]; unfold orI sgn
    repeat' split
    all_goals omega
  (repeat' ((first|refine vn rfl ?_|simp (disch:=omega) only [wr64,W7]|refine bo (fun _=>?_) fun _=>?_|refine im fun _=>?_|((repeat refine si ?_); (first|((first|refine .inl ⟨_,_,_,_,rfl,fun _=>pu (by first|exact h1|exact h2|exact h3),?_⟩|refine ⟨_,_,_,_,rfl,fun _=>pu (by first|exact h1|exact h2|exact h3),?_⟩); (first|refine o1 ?_|refine o2 ?_|refine o3 ?_|refine o4 ?_)) | refine .inl ⟨_,_,_,_,rfl,pu (by first|exact h1|exact h2|exact h3),?_⟩))|refine cF ?_|refine om ?_|refine an ?_|fail) <;> try simp only [zN,zT,zV,zS,zU,Q0,Q1,ex,Q2,Q3,Q4,Q5,Q6,Q7,Q8,Q9,QA,QB,QC,W0,W1,W2,W3,W4,W5,W6,reduceIte]))
  all_goals exact Frz.eq (congrArg bl (by rw [decide_eq_decide]; omega)) (by simp)
theorem rCheckSet_spec (b:Bse) (hb:bseSz b) (l:List Nt) (hl:setSz l):Pure Tryz.prog 42 [.agg b.cs,ntS l] (.tup [n (setE b l).1,n (setE b l).2]):=by
  refine Pure.of_body Tryz.call42 Tryz.func42 k42 (Nat.le_of_ble_eq_true rfl) ?_
  unfold c42
  have h1:=rCheckBase_spec b hb
  have hl0:=hl.1
  by_cases g:b.ok
  · rw [if_pos g] at h1
    by_cases hlen:400 < l.length
    · have e:setE b l=(2,0):=by unfold setE; rw [if_neg (fun h=>h g),if_pos hlen]
      rw [e]
      (repeat' ((first|refine vn rfl ?_|simp (disch:=omega) only [wr64,W7]|refine bo (fun _=>?_) fun _=>?_|refine im fun _=>?_|((repeat refine si ?_); (first|((first|refine .inl ⟨_,_,_,_,rfl,fun _=>pu h1,?_⟩|refine ⟨_,_,_,_,rfl,fun _=>pu h1,?_⟩); (first|refine o1 ?_|refine o2 ?_|refine o3 ?_|refine o4 ?_)) | refine .inl ⟨_,_,_,_,rfl,pu h1,?_⟩))|refine cF ?_|refine om ?_|refine an ?_|fail) <;> try simp only [zN,zT,zV,zS,zU,Q0,Q1,ex,Q2,Q3,Q4,Q5,Q6,Q7,Q8,Q9,QA,QB,QC,W0,W1,W2,W3,W4,W5,W6,reduceIte]))
      all_goals first | (exfalso; omega)|exact Frz.eq rfl (by simp)
    have e:setE b l=firstE (ntE b l) l.length:=by unfold setE; rw [if_neg (fun h=>h g),if_neg hlen]
    (repeat' ((first|refine vn rfl ?_|simp (disch:=omega) only [wr64,W7]|refine bo (fun _=>?_) fun _=>?_|refine im fun _=>?_|((repeat refine si ?_); (first|((first|refine .inl ⟨_,_,_,_,rfl,fun _=>pu h1,?_⟩|refine ⟨_,_,_,_,rfl,fun _=>pu h1,?_⟩); (first|refine o1 ?_|refine o2 ?_|refine o3 ?_|refine o4 ?_)) | refine .inl ⟨_,_,_,_,rfl,pu h1,?_⟩))|refine cF ?_|refine om ?_|refine an ?_|fail) <;> try simp only [zN,zT,zV,zS,zU,Q0,Q1,ex,Q2,Q3,Q4,Q5,Q6,Q7,Q8,Q9,QA,QB,QC,W0,W1,W2,W3,W4,W5,W6,reduceIte]))
    all_goals try (exfalso; omega)
    refine AWPC.loopE (α:={ x:Nat × Sto // x.1≤l.length∧∀ j,j < x.1→ntE b l j=0 }) [6] (fun x=>[(6,n x.1.1)]) (fun x=>x.1.2) (fun x=>l.length - x.1.1) ⟨(0,[]),by simp,by simp⟩ ?_ rfl ?_
    · (simp only [zN,zT,zV,zS,zU,Q0,Q1,ex,Q2,Q3,Q4,Q5,Q6,Q7,Q8,Q9,QA,QB,QC,W0,W1,W2,W3,W4,W5,W6,reduceIte]; try simp)
    · rintro ⟨⟨i,τ⟩,hi,hI⟩
      simp only at hi hI
      by_cases hlt:i < l.length
      · have hs:(l.map Nt.cs).getD i []=Nt.cs (l.getD i default):=row default hlt
        have hp:=rowPrev (f:=Nt.cs) default hlt
        have h2:=rFormed_spec b hb (l.getD i default) (hl.2 _ (List.mem_of_getElem? (getD_lt default hlt)))
        have hE:ntE b l i=if ¬ (l.getD i default).ok b then 60 else if i=0 then 0 else if cmpN (l.getD (i - 1) default).nm (l.getD i default).nm=0 then 61 else if 0 < cmpN (l.getD (i - 1) default).nm (l.getD i default).nm then 1 else 0:=rfl
        have hbad:ntE b l i≠0→setE b l=(ntE b l i,i):=fun h=>by rw [e,firstE_at hlt hI h]
        generalize l.getD i default=x at hs h2 hE
        generalize l.getD (i - 1) default=y at hp hE
        have h3:=rName_spec x
        have h4:=rName_spec y
        have h5:=rAhead_spec x.nm y.nm
        have hz:cmpN y.nm x.nm=0↔x.clerk=y.clerk∧x.num=y.num:=cmpN_zero
        have hg:=@cmpN_gt x.nm y.nm
        generalize cmpN y.nm x.nm=c at hE hz hg
        generalize cmpN x.nm y.nm=c' at h5 hg
        by_cases hok:x.ok b
        · rw [decide_eq_true hok] at h2
          rw [if_neg (fun h=>h hok)] at hE
          (repeat' ((first|refine vn rfl ?_|simp (disch:=omega) only [wr64,W7]|refine bo (fun _=>?_) fun _=>?_|refine im fun _=>?_|((repeat refine si ?_); (first|((first|refine .inl ⟨_,_,_,_,rfl,fun _=>pu (by first|exact h2|exact h3|exact h4|exact h5),?_⟩|refine ⟨_,_,_,_,rfl,fun _=>pu (by first|exact h2|exact h3|exact h4|exact h5),?_⟩); (first|refine o1 ?_|refine o2 ?_|refine o3 ?_|refine o4 ?_)) | refine .inl ⟨_,_,_,_,rfl,pu (by first|exact h2|exact h3|exact h4|exact h5),?_⟩))|refine cF ?_|refine om ?_|refine an ?_|fail) <;> try simp only [zN, zT, zV, zS, zU, Q0, Q1, ex, Q2, Q3, Q4, Q5, Q6, Q7, Q8, Q9, QA, QB, QC, W0, W1, W2, W3, W4, W5, W6, reduceIte, hs, hp]))
          all_goals try (exfalso; omega)
          all_goals first
            | (have e2:ntE b l i=61:=by rw [hE,if_neg (by omega),if_pos (by omega)]
               rw [hbad (by omega),e2]; exact Frz.eq rfl (by simp))
            | (have e2:ntE b l i=1:=by rw [hE,if_neg (by omega),if_neg (by omega),if_pos (by omega)]
               rw [hbad (by omega),e2]; exact Frz.eq rfl (by simp))
           |exact ⟨⟨(i+1,_),hlt,all_next hI (by rw [hE,if_pos (by omega)])⟩,by simp,rfl,by simp only; omega⟩
           |exact ⟨⟨(i+1,_),hlt,all_next hI (by rcases Nat.eq_zero_or_pos i with hi0 | hi0 <;> first | (rw [hE,if_pos hi0]; done) | (rw [hE,if_neg (by omega),if_neg (by omega),if_neg (by omega)]; done))⟩,by simp,rfl,by simp only; omega⟩
        · rw [decide_eq_false hok] at h2
          rw [if_pos hok] at hE
          (repeat' ((first|refine vn rfl ?_|simp (disch:=omega) only [wr64,W7]|refine bo (fun _=>?_) fun _=>?_|refine im fun _=>?_|((repeat refine si ?_); (first|((first|refine .inl ⟨_,_,_,_,rfl,fun _=>pu (by first|exact h2|exact h3|exact h4|exact h5),?_⟩|refine ⟨_,_,_,_,rfl,fun _=>pu (by first|exact h2|exact h3|exact h4|exact h5),?_⟩); (first|refine o1 ?_|refine o2 ?_|refine o3 ?_|refine o4 ?_)) | refine .inl ⟨_,_,_,_,rfl,pu (by first|exact h2|exact h3|exact h4|exact h5),?_⟩))|refine cF ?_|refine om ?_|refine an ?_|fail) <;> try simp only [zN, zT, zV, zS, zU, Q0, Q1, ex, Q2, Q3, Q4, Q5, Q6, Q7, Q8, Q9, QA, QB, QC, W0, W1, W2, W3, W4, W5, W6, reduceIte, hs, hp]))
          all_goals try (exfalso; omega)
          rw [hbad (by omega),hE]; exact Frz.eq rfl (by simp)
      · obtain rfl:i=l.length:=by omega
        (repeat' ((first|refine vn rfl ?_|simp (disch:=omega) only [wr64,W7]|refine bo (fun _=>?_) fun _=>?_|refine im fun _=>?_|refine cF ?_|refine om ?_|refine an ?_|fail) <;> try simp only [zN, zT, zV, zS, zU, Q0, Q1, ex, Q2, Q3, Q4, Q5, Q6, Q7, Q8, Q9, QA, QB, QC, W0, W1, W2, W3, W4, W5, W6, reduceIte]))
        all_goals try (exfalso; omega)
        rw [e,firstE_none hI]; exact Frz.eq rfl (by simp)
  · rw [if_neg g] at h1
    have e:setE b l=(100,0):=by unfold setE; rw [if_pos g]
    rw [e]
    (repeat' ((first|refine vn rfl ?_|simp (disch:=omega) only [wr64,W7]|refine bo (fun _=>?_) fun _=>?_|refine im fun _=>?_|((repeat refine si ?_); (first|((first|refine .inl ⟨_,_,_,_,rfl,fun _=>pu h1,?_⟩|refine ⟨_,_,_,_,rfl,fun _=>pu h1,?_⟩); (first|refine o1 ?_|refine o2 ?_|refine o3 ?_|refine o4 ?_)) | refine .inl ⟨_,_,_,_,rfl,pu h1,?_⟩))|refine cF ?_|refine om ?_|refine an ?_|fail) <;> try simp only [zN,zT,zV,zS,zU,Q0,Q1,ex,Q2,Q3,Q4,Q5,Q6,Q7,Q8,Q9,QA,QB,QC,W0,W1,W2,W3,W4,W5,W6,reduceIte]))
    all_goals first | (exfalso; omega)|exact Frz.eq rfl (by simp)
theorem Checks_spec (b:Bse) (l:List Nt) (x y:Nt) (hb:bseSz b) (hl:setSz l) (hx:ntSz x) (hy:ntSz y):Pure Tryz.prog 11 [.agg b.cs,ntS l,.agg x.cs,.agg y.cs] (bl true):=by
  refine Pure.of_body Tryz.call11 Tryz.func11 k11 (Nat.le_of_ble_eq_true rfl) ?_
  unfold c11
  have s1:=small_spec b hb
  have s2:=few_spec l hl.1
  have s3:=slight_spec x.sheet
  have s4:=slight_spec y.sheet
  generalize smallB b=g1 at s1
  generalize fewB l=g2 at s2
  generalize slightB x.sheet=g3 at s3
  generalize slightB y.sheet=g4 at s4
  have a1:=CheckSet_spec b hb l hl
  have a2:=rCheckSet_spec b hb l hl
  generalize (setE b l).1=v1 at a1 a2
  generalize (setE b l).2=v2 at a1 a2
  have a3:=CheckBase_spec b hb
  have a4:=rCheckBase_spec b hb
  generalize (if b.ok then (0:Int) else 100)=v3 at a3 a4
  have a5:=CheckNote_spec b hb x hx
  have a6:=rCheckNote_spec b hb x hx
  generalize (if ¬ b.ok then (100:Int) else if x.ok b then 0 else 60)=v4 at a5 a6
  have a7:=Before_spec x y
  have a8:=rBefore_spec x y
  generalize decide (cmpT x y < 0)=v5 at a7 a8
  have a9:=Same_spec x y hx hy
  have a0:=rSame_spec x y hx hy
  generalize decide (x=y)=v6 at a9 a0
  cases g1 with
  | false =>
    (repeat' ((first|refine vn rfl ?_|simp (disch:=omega) only [wr64,W7]|refine bo (fun _=>?_) fun _=>?_|refine im fun _=>?_|((repeat refine si ?_); (first|((first|refine .inl ⟨_,_,_,_,rfl,fun _=>pu (by first|exact awake_spec|exact s1|exact s2|exact s3|exact s4),?_⟩|refine ⟨_,_,_,_,rfl,fun _=>pu (by first|exact awake_spec|exact s1|exact s2|exact s3|exact s4),?_⟩); (first|refine o1 ?_|refine o2 ?_|refine o3 ?_|refine o4 ?_)) | refine .inl ⟨_,_,_,_,rfl,pu (by first|exact awake_spec|exact s1|exact s2|exact s3|exact s4),?_⟩))|refine cF ?_|refine om ?_|refine an ?_|fail) <;> try simp only [zN,zT,zV,zS,zU,Q0,Q1,ex,Q2,Q3,Q4,Q5,Q6,Q7,Q8,Q9,QA,QB,QC,W0,W1,W2,W3,W4,W5,W6,reduceIte]))
    all_goals try (exfalso; omega)
    all_goals exact Frz.eq rfl (by simp)
  | true =>
    cases g2 with
    | false =>
      (repeat' ((first|refine vn rfl ?_|simp (disch:=omega) only [wr64,W7]|refine bo (fun _=>?_) fun _=>?_|refine im fun _=>?_|((repeat refine si ?_); (first|((first|refine .inl ⟨_,_,_,_,rfl,fun _=>pu (by first|exact awake_spec|exact s1|exact s2|exact s3|exact s4),?_⟩|refine ⟨_,_,_,_,rfl,fun _=>pu (by first|exact awake_spec|exact s1|exact s2|exact s3|exact s4),?_⟩); (first|refine o1 ?_|refine o2 ?_|refine o3 ?_|refine o4 ?_)) | refine .inl ⟨_,_,_,_,rfl,pu (by first|exact awake_spec|exact s1|exact s2|exact s3|exact s4),?_⟩))|refine cF ?_|refine om ?_|refine an ?_|fail) <;> try simp only [zN,zT,zV,zS,zU,Q0,Q1,ex,Q2,Q3,Q4,Q5,Q6,Q7,Q8,Q9,QA,QB,QC,W0,W1,W2,W3,W4,W5,W6,reduceIte]))
      all_goals try (exfalso; omega)
      all_goals exact Frz.eq rfl (by simp)
    | true =>
      cases g3 with
      | false =>
        (repeat' ((first|refine vn rfl ?_|simp (disch:=omega) only [wr64,W7]|refine bo (fun _=>?_) fun _=>?_|refine im fun _=>?_|((repeat refine si ?_); (first|((first|refine .inl ⟨_,_,_,_,rfl,fun _=>pu (by first|exact awake_spec|exact s1|exact s2|exact s3|exact s4),?_⟩|refine ⟨_,_,_,_,rfl,fun _=>pu (by first|exact awake_spec|exact s1|exact s2|exact s3|exact s4),?_⟩); (first|refine o1 ?_|refine o2 ?_|refine o3 ?_|refine o4 ?_)) | refine .inl ⟨_,_,_,_,rfl,pu (by first|exact awake_spec|exact s1|exact s2|exact s3|exact s4),?_⟩))|refine cF ?_|refine om ?_|refine an ?_|fail) <;> try simp only [zN, zT, zV, zS, zU, Q0, Q1, ex, Q2, Q3, Q4, Q5, Q6, Q7, Q8, Q9, QA, QB, QC, W0, W1, W2, W3, W4, W5, W6, reduceIte]))
        all_goals try (exfalso; omega)
        all_goals exact Frz.eq rfl (by simp)
      | true =>
        cases g4 with
        | false =>
          (repeat' ((first|refine vn rfl ?_|simp (disch:=omega) only [wr64,W7]|refine bo (fun _=>?_) fun _=>?_|refine im fun _=>?_|((repeat refine si ?_); (first|((first|refine .inl ⟨_,_,_,_,rfl,fun _=>pu (by first|exact awake_spec|exact s1|exact s2|exact s3|exact s4),?_⟩|refine ⟨_,_,_,_,rfl,fun _=>pu (by first|exact awake_spec|exact s1|exact s2|exact s3|exact s4),?_⟩); (first|refine o1 ?_|refine o2 ?_|refine o3 ?_|refine o4 ?_)) | refine .inl ⟨_,_,_,_,rfl,pu (by first|exact awake_spec|exact s1|exact s2|exact s3|exact s4),?_⟩))|refine cF ?_|refine om ?_|refine an ?_|fail) <;> try simp only [zN, zT, zV, zS, zU, Q0, Q1, ex, Q2, Q3, Q4, Q5, Q6, Q7, Q8, Q9, QA, QB, QC, W0, W1, W2, W3, W4, W5, W6, reduceIte]))
          all_goals try (exfalso; omega)
          all_goals exact Frz.eq rfl (by simp)
        | true =>
          clear hb hl hx hy
          (repeat' ((first|refine vn rfl ?_|simp (disch:=omega) only [wr64,W7]|refine bo (fun _=>?_) fun _=>?_|refine im fun _=>?_|((repeat refine si ?_); (first|((first|refine .inl ⟨_,_,_,_,rfl,fun _=>pu (by first|exact awake_spec|exact s1|exact s2|exact s3|exact s4|exact a1|exact a2|exact a3|exact a4|exact a5|exact a6|exact a7|exact a8|exact a9|exact a0),?_⟩|refine ⟨_,_,_,_,rfl,fun _=>pu (by first|exact awake_spec|exact s1|exact s2|exact s3|exact s4|exact a1|exact a2|exact a3|exact a4|exact a5|exact a6|exact a7|exact a8|exact a9|exact a0),?_⟩); (first|refine o1 ?_|refine o2 ?_|refine o3 ?_|refine o4 ?_)) | refine .inl ⟨_,_,_,_,rfl,pu (by first|exact awake_spec|exact s1|exact s2|exact s3|exact s4|exact a1|exact a2|exact a3|exact a4|exact a5|exact a6|exact a7|exact a8|exact a9|exact a0),?_⟩))|refine cF ?_|refine om ?_|refine an ?_|fail) <;> try simp only [zN, zT, zV, zS, zU, Q0, Q1, ex, Q2, Q3, Q4, Q5, Q6, Q7, Q8, Q9, QA, QB, QC, W0, W1, W2, W3, W4, W5, W6, reduceIte]))
          all_goals try (exfalso; omega)
          all_goals exact Frz.eq (by simp) (by simp)
end Go.Proofs.YtolgelipcgcbhaaGreat
namespace Go.Abs
open Go
set_option linter.unusedVariables false
set_option linter.unusedSimpArgs false
structure Opens (P:Program) (t:TypeId) (α:Type) (row:α→List AV) (Pr:α→Prop):Prop where
  go:∀ {H:Type} (enc:TypeId × Value→H) (w:World) (base:Nat) (sp:Nat→Bool) (held:Bool) (fuel:Nat) (cs:List Value) (x:DataW H × List MemPlace),
    DataW.trod enc P w base sp held fuel t cs=some x →
    ∃ a:α,Pr a∧cs.length=(row a).length∧∀ i,i < cs.length→(cs.getD i undef).oneCell'=true∧RV w (fun _=>False) nob [] ((row a).getD i .any) (cs.getD i undef)
variable {P:Program}
theorem Opens.to {t:TypeId} {α β:Type} {row:α→List AV} {row':β→List AV} {Pr:α→Prop} {Pr':β→Prop} (h:Opens P t α row Pr) (f:α→β) (hr:∀ a,row' (f a)=row a) (hp:∀ a,Pr a→Pr' (f a)):Opens P t β row' Pr' :=
  ⟨fun enc w base sp held fuel cs x hx =>
    let ⟨a,h1,h2,h3⟩:=h.go enc w base sp held fuel cs x hx
    ⟨f a,hp a h1,by rw [hr]; exact h2,fun i hi=>by rw [hr]; exact h3 i hi⟩⟩
theorem opens_int {t:TypeId} {k:IntKind} (ht:P.underlying t=some (.int k)):Opens P t Int (fun z=>[.v (.int k z)]) (fun z=>(Lit.int k z).wf=true):=by
  constructor
  intro H enc w base sp held fuel cs x hx
  cases fuel with
  | zero=>simp [DataW.trod] at hx
  | succ m =>
    unfold DataW.trod at hx
    rw [ht] at hx
    split at hx <;> try (simp_all; done)
    rename_i k0 k' z heq
    simp only [Option.some.injEq,TypeDesc.int.injEq] at heq
    split at hx
    · rename_i hk
      obtain ⟨rfl,hw⟩:=hk
      subst heq
      refine ⟨z,hw,rfl,fun i hi=>?_⟩
      obtain rfl:i=0:=by simpa using hi
      exact ⟨rfl,.v _⟩
    · cases hx
theorem opens_slice {t e:TypeId} {k:Nat} {α:Type} {row:α→List AV} {Pr:α→Prop} (ht:P.underlying t=some (.slice e)) (hk:P.cellsOf e=k) (hk0:k≠0) (h:Opens P e α row Pr) (hl:∀ a,(row a).length=k) :
    Opens P t (List α) (fun l=>[.sl k (l.map row)]) (fun l=>l.length < 9223372036854775808∧∀ a∈l,Pr a):=by
  constructor
  intro H enc w base sp held fuel cs x hx
  rcases DataW.trod_slice ht hx with ⟨rfl,_⟩ | ⟨a,len,cap,elems,rest,m,rfl,rfl,rfl,hb,hlc,hcap,hlen,hel,hsp,hns⟩
  · refine ⟨[],⟨by simp,fun a ha=>absurd ha (List.not_mem_nil)⟩,rfl,fun i hi=>?_⟩
    obtain rfl:i=0:=by simpa using hi
    exact ⟨rfl,.slnil k⟩
  · have hlen2:len < 9223372036854775808:=by unfold maxLen at hcap; omega
    have each:∀ i,i < len→∃ (b:α) (c1:List Value),Pr b∧c1.length=k∧w.cells? base (a.add (i * k)) k=some c1∧∀ j,j < k→(c1.getD j undef).oneCell'=true∧RV w (fun _=>False) nob [] ((row b).getD j .any) (c1.getD j undef):=by
      intro i hi
      have h1:=hel i hi
      rw [hk,List.getElem?_eq_getElem (by omega)] at h1
      simp only [Option.bind_eq_some_iff] at h1
      obtain ⟨c1,hc1,hy⟩:=h1
      obtain ⟨b,hp,hlb,hr⟩:=h.go enc w base sp held m c1 _ hy
      have hl1:=(World.cells?_some hc1).2.1
      exact ⟨b,c1,hp,hl1,hc1,fun j hj=>hr j (by omega)⟩
    by_cases h0:len=0
    · subst h0
      refine ⟨[],⟨by simp,fun a ha=>absurd ha (List.not_mem_nil)⟩,rfl,fun i hi=>?_⟩
      obtain rfl:i=0:=by simpa using hi
      exact ⟨rfl,.slemp k a cap⟩
    ·
      have hspot:a.spot=none:=by
        obtain ⟨b,c1,_,hl1,hc1,_⟩:=each 0 (by omega)
        have h2:=(World.cells?_some hc1).2.2 0 (by omega)
        rw [List.getElem?_eq_getElem (by omega)] at h2
        have e:(a.add (0 * k)).add 0=a:=by simp [Addr.add]
        rw [e] at h2
        unfold World.cell? at h2
        split at h2
        · split at h2
          · cases h2
          · rename_i hs; simpa using hs
        · cases h2
      obtain ⟨bl,off,spot⟩:=a
      simp only at hspot
      subst hspot
      have hadd:∀ i j,((⟨bl,off,none⟩:Addr).add (i * k)).add j=⟨bl,off+i * k+j,none⟩:=by
        intro i j
        simp only [Addr.add]
        split <;> split <;> simp_all <;> omega
      let B:Nat→α:=fun i=>if hi:i < len then Classical.choose (each i hi) else Classical.choose (each 0 (by omega))
      have hB:∀ i,i < len→∃ c1:List Value,Pr (B i)∧c1.length=k∧w.cells? base ((⟨bl,off,none⟩:Addr).add (i * k)) k=some c1∧∀ j,j < k→(c1.getD j undef).oneCell'=true∧RV w (fun _=>False) nob [] ((row (B i)).getD j .any) (c1.getD j undef):=by
        intro i hi
        have:=Classical.choose_spec (each i hi)
        simp only [B,hi,dif_pos]
        exact this
      have hcell:∀ i j,i < len→j < k→w.cell? ⟨bl,off+i * k+j,none⟩=some ((w.cell? ⟨bl,off+i * k+j,none⟩).getD undef)∧((w.cell? ⟨bl,off+i * k+j,none⟩).getD undef).oneCell'=true ∧
          RV w (fun _=>False) nob [] ((row (B i)).getD j .any) ((w.cell? ⟨bl,off+i * k+j,none⟩).getD undef):=by
        intro i j hi hj
        obtain ⟨c1,_,hl1,hc1,hr⟩:=hB i hi
        have h2:=(World.cells?_some hc1).2.2 j hj
        rw [hadd,List.getElem?_eq_getElem (by omega)] at h2
        rw [h2]
        have h3:=hr j hj
        rw [List.getD_eq_getElem?_getD,List.getElem?_eq_getElem (show j < c1.length by omega)] at h3
        exact ⟨rfl,h3⟩
      refine ⟨(List.range len).map B,⟨by simpa using hlen2,fun b hb=>?_⟩,rfl,fun i hi=>?_⟩
      · obtain ⟨i,hi,rfl⟩:=List.mem_map.1 hb
        obtain ⟨c1,hp,_⟩:=hB i (List.mem_range.1 hi)
        exact hp
      · obtain rfl:i=0:=by simpa using hi
        refine ⟨rfl,?_⟩
        have hget:∀ e,e < len→(((List.range len).map B).map row).getD e []=row (B e):=fun e he=>by simp [List.getD_eq_getElem?_getD,he]
        have hlm:(((List.range len).map B).map row).length=len:=by simp
        have:=RV.sl (w:=w) (X:=fun _=>False) (β:=nob) (σ:=[]) k (((List.range len).map B).map row) bl off cap (fun i j=>(w.cell? ⟨bl,off+i * k+j,none⟩).getD undef) (by rw [hlm]; exact hlc)
          (fun e he=>by rw [hlm] at he; rw [hget e he]; exact hl _) (fun e he j hj=>by rw [hlm] at he; exact (hcell e j he hj).1) (fun e j he hj hx=>hx)
          (fun e j he hj=>by rw [hlm] at he; exact (hcell e j he hj).2.1) (fun e j he hj=>by rw [hlm] at he; rw [hget e he]; exact (hcell e j he hj).2.2)
        rw [hlm] at this
        exact this
structure OpensF (P:Program) (fs:List Field) (off:Nat) (α:Type) (row:α→List AV) (Pr:α→Prop):Prop where
  go:∀ {H:Type} (enc:TypeId × Value→H) (w:World) (base:Nat) (sp:Nat→Bool) (held:Bool) (fuel:Nat) (cs:List Value) (xs:List (DataW H × List MemPlace)),
    (fs.mapM fun f=>DataW.trod enc P w base sp held fuel f.type ((cs.drop f.offset).take (P.cellsOf f.type)))=some xs →
    ∃ a:α,Pr a∧∀ i,i < (row a).length→off+i < cs.length∧(cs.getD (off+i) undef).oneCell'=true∧RV w (fun _=>False) nob [] ((row a).getD i .any) (cs.getD (off+i) undef)
theorem opensF_nil (off:Nat):OpensF P [] off Unit (fun _=>[]) (fun _=>True) :=
  ⟨fun enc w base sp held fuel cs xs _=>⟨(),trivial,fun i hi=>absurd hi (Nat.not_lt_zero _)⟩⟩
theorem opensF_cons {f:Field} {fs:List Field} {off k:Nat} {α β:Type} {row:α→List AV} {rows:β→List AV} {Pr:α→Prop} {Prs:β→Prop} (ho:f.offset=off) (hk:P.cellsOf f.type=k) (h:Opens P f.type α row Pr)
    (hl:∀ a,(row a).length=k) (hs:OpensF P fs (off+k) β rows Prs):OpensF P (f::fs) off (α × β) (fun p=>row p.1++rows p.2) (fun p=>Pr p.1∧Prs p.2):=by
  constructor
  intro H enc w base sp held fuel cs xs hx
  rw [List.mapM_cons] at hx
  simp only [Option.bind_eq_bind,Option.bind_eq_some_iff] at hx
  obtain ⟨y,hy,ys,hys,_⟩:=hx
  rw [ho,hk] at hy
  obtain ⟨a,hp,hla,hr⟩:=h.go enc w base sp held fuel _ _ hy
  obtain ⟨b,hq,hr'⟩:=hs.go enc w base sp held fuel cs ys hys
  rw [hl] at hla
  have hlen:off+k≤cs.length∨k=0:=by simp at hla; omega
  refine ⟨(a,b),⟨hp,hq⟩,fun i hi=>?_⟩
  by_cases h1:i < k
  · have hi':i < ((cs.drop off).take k).length:=by omega
    obtain ⟨g1,g2⟩:=hr i hi'
    have e:((cs.drop off).take k).getD i undef=cs.getD (off+i) undef:=by
      simp only [List.getD_eq_getElem?_getD,List.getElem?_take,h1,if_true,List.getElem?_drop]
    rw [e] at g1 g2
    refine ⟨by omega,g1,?_⟩
    rw [getD_append,if_pos (by rw [hl]; exact h1)]
    exact g2
  · have:=hr' (i - k) (by simp [hl] at hi; omega)
    rw [show off+k+(i - k)=off+i by omega] at this
    refine ⟨this.1,this.2.1,?_⟩
    rw [getD_append,if_neg (by rw [hl]; omega),hl]
    exact this.2.2
theorem opens_struct {t:TypeId} {fs:Array Field} {k:Nat} {α:Type} {row:α→List AV} {Pr:α→Prop} (ht:P.underlying t=some (.struct fs)) (hk:P.cellsOf t=k) (hl:∀ a,(row a).length=k) (h:OpensF P fs.toList 0 α row Pr) :
    Opens P t α row Pr:=by
  constructor
  intro H enc w base sp held fuel cs x hx
  cases fuel with
  | zero=>simp [DataW.trod] at hx
  | succ m =>
    unfold DataW.trod at hx
    rw [ht] at hx
    have hx':(if cs.length=P.cellsOf t then (fs.toList.mapM fun f=>DataW.trod enc P w base sp held m f.type ((cs.drop f.offset).take (P.cellsOf f.type))).map (fun xs=>((DataW.agg (xs.map (·.1)),xs.flatMap (·.2)):DataW H × List MemPlace)) else none)=some x:=by
      split at hx <;> first | (simp at *; done) | skip
      all_goals (try (rename_i heq; cases heq))
      exact hx
    split at hx'
    case isFalse=>cases hx'
    rename_i hlen
    rw [Option.map_eq_some_iff] at hx'
    obtain ⟨xs,hxs,_⟩:=hx'
    obtain ⟨a,hp,hr⟩:=h.go enc w base sp held m cs xs hxs
    refine ⟨a,hp,by rw [hl,hlen,hk],fun i hi=>?_⟩
    have:=hr i (by rw [hl,← hk,← hlen]; exact hi)
    rw [Nat.zero_add] at this
    exact this.2
theorem Opens.one {t:TypeId} {α:Type} {av:α→AV} {Pr:α→Prop} (h:Opens P t α (fun a=>[av a]) Pr) {H:Type} {enc:TypeId × Value→H} {w:World} {base:Nat} {sp:Nat→Bool} {held:Bool} {v:Value} {d:DataW H} {ps:List MemPlace}
    (hv:v.oneCell'=true) (hx:DataW.Trod enc P w base sp held t v d ps):∃ a,Pr a∧RV w (fun _=>False) nob [] (av a) v:=by
  obtain ⟨fuel,hx⟩:=hx
  obtain ⟨a,hp,hl,hr⟩:=h.go enc w base sp held fuel _ _ hx
  have e:v.cells.toList=[v]:=by cases v <;> first | rfl | simp [Value.oneCell'] at hv
  rw [e] at hr
  exact ⟨a,hp,(hr 0 (by simp)).2⟩
theorem Opens.agg {t:TypeId} {α:Type} {row:α→List AV} {Pr:α→Prop} (h:Opens P t α row Pr) {H:Type} {enc:TypeId × Value→H} {w:World} {base:Nat} {sp:Nat→Bool} {held:Bool} {cs:Array Value} {d:DataW H} {ps:List MemPlace}
    (hx:DataW.Trod enc P w base sp held t (.agg cs) d ps):∃ a,Pr a∧RV w (fun _=>False) nob [] (.agg (row a)) (.agg cs):=by
  obtain ⟨fuel,hx⟩:=hx
  obtain ⟨a,hp,hl,hr⟩:=h.go enc w base sp held fuel _ _ hx
  have e:(Value.agg cs).cells.toList=cs.toList:=rfl
  rw [e] at hl hr
  refine ⟨a,hp,.agg _ _ (by simpa using hl) (fun i hi=>?_) fun i hi=>?_⟩
  · have:=(hr i (by rw [hl]; exact hi)).1
    simpa [List.getD_eq_getElem?_getD,Array.getD_eq_getD_getElem?] using this
  · have:=(hr i (by rw [hl]; exact hi)).2
    simpa [List.getD_eq_getElem?_getD,Array.getD_eq_getD_getElem?] using this
end Go.Abs
namespace Go.Proofs.YtolgelipcgcbhaaGreat
open Go.Abs
open Nat renaming reduceBEq→W0,reduceAdd→W1,reduceSub→W2,reduceLT→W3,reduceLeDiff→W4,reduceMul→W5,reduceEqDiff→W6
open Int renaming zero_sub→W7
open Go.Abs renaming vcC→Q0,lateX→Q1,strp→Q2,binA→Q3,elems→Q4,cells→Q5,scalar→Q6,eqC→Q7,keyA→Q8,intsA→Q9,lookA→QA,ofVs→QB,mpOf→QC
set_option linter.unusedVariables false
set_option linter.unusedSimpArgs false
set_option maxHeartbeats 4000000
set_option maxRecDepth 100000
open Go.ChangeShapes Go.WideShapes Go.ChangeAt Go.RowKit
theorem own:ownKnob Tryz.prog.godebug=none:=by kernel_rfl
theorem laidOut:laidOutB Tryz.prog=true:=by kernel_rfl
theorem mapsR:mapsRowed Tryz.prog=true:=by kernel_rfl
theorem stopsN:(Tryz.prog.stops == [])=true:=by kernel_rfl
theorem knobsN:(Tryz.prog.stopKnobs == [])=true:=by kernel_rfl
theorem plainK:(Rows.archiveOrderRow.plainKeys == Tryz.prog.plainKeys)=true:=by kernel_rfl
theorem heardS:Tryz.prog.stopsHeard=true:=by kernel_rfl
theorem entersM:Tryz.prog.mayEnter=true:=by kernel_rfl
theorem liftsF:(Rows.archiveOrderRow.lifted == Tryz.prog.liftsFinal)=true:=by kernel_rfl
theorem makeP:(Tryz.prog.make == some Rows.archiveOrderRow.make)=true:=by kernel_rfl
theorem bband {a b:Bool} (h:a=true) (h':b=true):(a && b)=true:=by rw [h,h']; rfl
theorem cells3:Tryz.prog.cellsOf 3=1:=by kernel_rfl
theorem cells48:Tryz.prog.cellsOf 48=2:=by kernel_rfl
theorem cells226:Tryz.prog.cellsOf 226=3:=by kernel_rfl
theorem cells164:Tryz.prog.cellsOf 164=3:=by kernel_rfl
theorem cells50:Tryz.prog.cellsOf 50=10:=by kernel_rfl
theorem cells51:Tryz.prog.cellsOf 51=1:=by kernel_rfl
theorem cells52:Tryz.prog.cellsOf 52=1:=by kernel_rfl
theorem cells53:Tryz.prog.cellsOf 53=1:=by kernel_rfl
theorem cells54:Tryz.prog.cellsOf 54=1:=by kernel_rfl
theorem cells56:Tryz.prog.cellsOf 56=2:=by kernel_rfl
theorem cells58:Tryz.prog.cellsOf 58=4:=by kernel_rfl
theorem cells60:Tryz.prog.cellsOf 60=18:=by kernel_rfl
theorem cells62:Tryz.prog.cellsOf 62=3:=by kernel_rfl
theorem cells64:Tryz.prog.cellsOf 64=5:=by kernel_rfl
theorem cells66:Tryz.prog.cellsOf 66=3:=by kernel_rfl
theorem cells29:Tryz.prog.cellsOf 29=2:=by kernel_rfl
theorem cells68:Tryz.prog.cellsOf 68=38:=by kernel_rfl
theorem cells107:Tryz.prog.cellsOf 107=1:=by kernel_rfl
theorem cells109:Tryz.prog.cellsOf 109=4:=by kernel_rfl
theorem cells22:Tryz.prog.cellsOf 22=1:=by kernel_rfl
theorem cells24:Tryz.prog.cellsOf 24=2:=by kernel_rfl
theorem cells26:Tryz.prog.cellsOf 26=6:=by kernel_rfl
theorem op3:Opens Tryz.prog 3 Int (fun z=>[n z]) (fun _=>True):=(opens_int Tryz.underlying3).to id (fun _=>rfl) (fun _ _=>trivial)
theorem op48:Opens Tryz.prog 48 Sp Sp.cs (fun _=>True) :=
  (opens_struct Tryz.underlying48 cells48 (fun _=>rfl) (opensF_cons rfl cells3 op3 (fun _=>rfl) (opensF_cons rfl cells3 op3 (fun _=>rfl) (opensF_nil _)))).to (fun a=>⟨a.1,a.2.1⟩) (fun _=>rfl) (fun _ _=>trivial)
theorem op226:Opens Tryz.prog 226 Mk Mk.cs (fun _=>True) :=
  (opens_struct Tryz.underlying226 cells226 (fun _=>rfl) (opensF_cons rfl cells3 op3 (fun _=>rfl) (opensF_cons rfl cells48 op48 (fun _=>rfl) (opensF_nil _)))).to (fun a=>⟨a.1,a.2.1⟩) (fun _=>rfl) (fun _ _=>trivial)
theorem op62:Opens Tryz.prog 62 Mk Mk.cs (fun _=>True) :=
  (opens_struct Tryz.underlying62 cells62 (fun _=>rfl) (opensF_cons rfl cells3 op3 (fun _=>rfl) (opensF_cons rfl cells48 op48 (fun _=>rfl) (opensF_nil _)))).to (fun a=>⟨a.1,a.2.1⟩) (fun _=>rfl) (fun _ _=>trivial)
theorem op164:Opens Tryz.prog 164 Pt Pt.cs (fun _=>True) :=
  (opens_struct Tryz.underlying164 cells164 (fun _=>rfl) (opensF_cons rfl cells3 op3 (fun _=>rfl) (opensF_cons rfl cells3 op3 (fun _=>rfl) (opensF_cons rfl cells3 op3 (fun _=>rfl) (opensF_nil _))))).to (fun a=>⟨a.1,a.2.1,a.2.2.1⟩) (fun _=>rfl) (fun _ _=>trivial)
theorem op50:Opens Tryz.prog 50 Ppr Ppr.cs (fun _=>True) :=
  (opens_struct Tryz.underlying50 cells50 (fun _=>rfl) (opensF_cons rfl cells3 op3 (fun _=>rfl) (opensF_cons rfl cells3 op3 (fun _=>rfl) (opensF_cons rfl cells3 op3 (fun _=>rfl) (opensF_cons rfl cells3 op3 (fun _=>rfl) (opensF_cons rfl cells3 op3 (fun _=>rfl) (opensF_cons rfl cells3 op3 (fun _=>rfl) (opensF_cons rfl cells48 op48 (fun _=>rfl) (opensF_cons rfl cells48 op48 (fun _=>rfl) (opensF_nil _)))))))))).to (fun a=>⟨a.1,a.2.1,a.2.2.1,a.2.2.2.1,a.2.2.2.2.1,a.2.2.2.2.2.1,a.2.2.2.2.2.2.1,a.2.2.2.2.2.2.2.1⟩) (fun _=>rfl) (fun _ _=>trivial)
theorem op51:Opens Tryz.prog 51 (List Pt) (fun l=>[ptS l]) (fun l=>l.length < 9223372036854775808) :=
  (opens_slice Tryz.underlying51 cells164 (by decide) op164 (fun _=>rfl)).to id (fun _=>rfl) (fun _ h=>h.1)
theorem op52:Opens Tryz.prog 52 (List Int) (fun l=>[inS l]) (fun l=>l.length < 9223372036854775808) :=
  (opens_slice Tryz.underlying52 cells3 (by decide) op3 (fun _=>rfl)).to id (fun _=>rfl) (fun _ h=>h.1)
theorem op53:Opens Tryz.prog 53 (List Sp) (fun l=>[spnS l]) (fun l=>l.length < 9223372036854775808) :=
  (opens_slice Tryz.underlying53 cells48 (by decide) op48 (fun _=>rfl)).to id (fun _=>rfl) (fun _ h=>h.1)
theorem op54:Opens Tryz.prog 54 (List Mk) (fun l=>[mkS l]) (fun l=>l.length < 9223372036854775808) :=
  (opens_slice Tryz.underlying54 cells226 (by decide) op226 (fun _=>rfl)).to id (fun _=>rfl) (fun _ h=>h.1)
theorem op56:Opens Tryz.prog 56 (List Sp × List Mk) (fun d=>[spnS d.1,mkS d.2]) (fun d=>d.1.length < 9223372036854775808∧d.2.length < 9223372036854775808) :=
  (opens_struct Tryz.underlying56 cells56 (fun _=>rfl) (opensF_cons rfl cells53 op53 (fun _=>rfl) (opensF_cons rfl cells54 op54 (fun _=>rfl) (opensF_nil _)))).to (fun a=>⟨a.1,a.2.1⟩) (fun _=>rfl) (fun _ h=>⟨h.1,h.2.1⟩)
theorem op58:Opens Tryz.prog 58 Pn Pn.cs (fun _=>True) :=
  (opens_struct Tryz.underlying58 cells58 (fun _=>rfl) (opensF_cons rfl cells3 op3 (fun _=>rfl) (opensF_cons rfl cells48 op48 (fun _=>rfl) (opensF_cons rfl cells3 op3 (fun _=>rfl) (opensF_nil _))))).to (fun a=>⟨a.1,a.2.1,a.2.2.1⟩) (fun _=>rfl) (fun _ _=>trivial)
theorem op60:Opens Tryz.prog 60 Sht Sht.cs shtSz :=
  (opens_struct Tryz.underlying60 cells60 (fun _=>rfl) (opensF_cons rfl cells50 op50 (fun _=>rfl) (opensF_cons rfl cells51 op51 (fun _=>rfl) (opensF_cons rfl cells52 op52 (fun _=>rfl) (opensF_cons rfl cells56 op56 (fun _=>rfl) (opensF_cons rfl cells58 op58 (fun _=>rfl) (opensF_nil _))))))).to (fun a=>⟨a.1,a.2.1,a.2.2.1,a.2.2.2.1.1,a.2.2.2.1.2,a.2.2.2.2.1⟩) (fun _=>rfl) (fun _ h=>⟨h.2.1,h.2.2.1,h.2.2.2.1.1,h.2.2.2.1.2⟩)
theorem op64:Opens Tryz.prog 64 Rd Rd.cs (fun _=>True) :=
  (opens_struct Tryz.underlying64 cells64 (fun _=>rfl) (opensF_cons rfl cells3 op3 (fun _=>rfl) (opensF_cons rfl cells3 op3 (fun _=>rfl) (opensF_cons rfl cells3 op3 (fun _=>rfl) (opensF_cons rfl cells48 op48 (fun _=>rfl) (opensF_nil _)))))).to (fun a=>⟨a.1,a.2.1,a.2.2.1,a.2.2.2.1⟩) (fun _=>rfl) (fun _ _=>trivial)
theorem op66:Opens Tryz.prog 66 Hgt Hgt.cs (fun _=>True) :=
  (opens_struct Tryz.underlying66 cells66 (fun _=>rfl) (opensF_cons rfl cells3 op3 (fun _=>rfl) (opensF_cons rfl cells48 op48 (fun _=>rfl) (opensF_nil _)))).to (fun a=>⟨a.1,a.2.1⟩) (fun _=>rfl) (fun _ _=>trivial)
theorem op29:Opens Tryz.prog 29 Nm Nm.cs (fun _=>True) :=
  (opens_struct Tryz.underlying29 cells29 (fun _=>rfl) (opensF_cons rfl cells3 op3 (fun _=>rfl) (opensF_cons rfl cells3 op3 (fun _=>rfl) (opensF_nil _)))).to (fun a=>⟨a.1,a.2.1⟩) (fun _=>rfl) (fun _ _=>trivial)
theorem op68:Opens Tryz.prog 68 Nt Nt.cs ntSz :=
  (opens_struct Tryz.underlying68 cells68 (fun _=>rfl) (opensF_cons rfl cells3 op3 (fun _=>rfl) (opensF_cons rfl cells3 op3 (fun _=>rfl) (opensF_cons rfl cells3 op3 (fun _=>rfl) (opensF_cons rfl cells3 op3 (fun _=>rfl) (opensF_cons rfl cells3 op3 (fun _=>rfl) (opensF_cons rfl cells3 op3 (fun _=>rfl) (opensF_cons rfl cells3 op3 (fun _=>rfl) (opensF_cons rfl cells60 op60 (fun _=>rfl) (opensF_cons rfl cells62 op62 (fun _=>rfl) (opensF_cons rfl cells64 op64 (fun _=>rfl) (opensF_cons rfl cells66 op66 (fun _=>rfl) (opensF_cons rfl cells29 op29 (fun _=>rfl) (opensF_nil _)))))))))))))).to (fun a=>⟨a.1,a.2.1,a.2.2.1,a.2.2.2.1,a.2.2.2.2.1,a.2.2.2.2.2.1,a.2.2.2.2.2.2.1,a.2.2.2.2.2.2.2.1,a.2.2.2.2.2.2.2.2.1,a.2.2.2.2.2.2.2.2.2.1,a.2.2.2.2.2.2.2.2.2.2.1,a.2.2.2.2.2.2.2.2.2.2.2.1⟩) (fun _=>rfl) (fun _ h=>h.2.2.2.2.2.2.2.1)
theorem op27:Opens Tryz.prog 27 (List Nt) (fun l=>[ntS l]) setSz :=
  (opens_slice Tryz.underlying27 cells68 (by decide) op68 (fun _=>rfl)).to id (fun _=>rfl) (fun _ h=>h)
theorem op107:Opens Tryz.prog 107 (List Hgt) (fun l=>[hgS l]) (fun l=>l.length < 9223372036854775808) :=
  (opens_slice Tryz.underlying107 cells66 (by decide) op66 (fun _=>rfl)).to id (fun _=>rfl) (fun _ h=>h.1)
theorem op109:Opens Tryz.prog 109 Stn Stn.cs (fun s=>s.heights.length < 9223372036854775808) :=
  (opens_struct Tryz.underlying109 cells109 (fun _=>rfl) (opensF_cons rfl cells3 op3 (fun _=>rfl) (opensF_cons rfl cells3 op3 (fun _=>rfl) (opensF_cons rfl cells3 op3 (fun _=>rfl) (opensF_cons rfl cells107 op107 (fun _=>rfl) (opensF_nil _)))))).to (fun a=>⟨a.1,a.2.1,a.2.2.1,a.2.2.2.1⟩) (fun _=>rfl) (fun _ h=>h.2.2.2.1)
theorem op22:Opens Tryz.prog 22 (List Stn) (fun l=>[snS l]) stnSz :=
  (opens_slice Tryz.underlying22 cells109 (by decide) op109 (fun _=>rfl)).to id (fun _=>rfl) (fun _ h=>h)
theorem op24:Opens Tryz.prog 24 (Int × Int) (fun d=>[n d.1,n d.2]) (fun _=>True) :=
  (opens_struct Tryz.underlying24 cells24 (fun _=>rfl) (opensF_cons rfl cells3 op3 (fun _=>rfl) (opensF_cons rfl cells3 op3 (fun _=>rfl) (opensF_nil _)))).to (fun a=>⟨a.1,a.2.1⟩) (fun _=>rfl) (fun _ _=>trivial)
theorem op26:Opens Tryz.prog 26 Bse Bse.cs bseSz :=
  (opens_struct Tryz.underlying26 cells26 (fun _=>rfl) (opensF_cons rfl cells22 op22 (fun _=>rfl) (opensF_cons rfl cells24 op24 (fun _=>rfl) (opensF_cons rfl cells3 op3 (fun _=>rfl) (opensF_cons rfl cells3 op3 (fun _=>rfl) (opensF_cons rfl cells3 op3 (fun _=>rfl) (opensF_nil _))))))).to (fun a=>⟨a.1,a.2.1.1,a.2.1.2,a.2.2.1,a.2.2.2.1,a.2.2.2.2.1⟩) (fun _=>rfl) (fun _ h=>h.1)
section
variable {H:Type} {enc:TypeId × Value→H} {w:World} {r:Reach} {base b0:Nat} {sp:Nat→Bool} {held:Bool} {v:Value} {d:DataW H} {ps:List MemPlace}
theorem open_bse (h:Value.okWide Tryz.prog w r base 26 v) (hx:DataW.Trod enc Tryz.prog w b0 sp held 26 v d ps):∃ x:Bse,bseSz x∧RV w (fun _=>False) nob [] (.agg x.cs) v:=by
  obtain ⟨cs,rfl,_⟩:=okWide_struct Tryz.underlying26 h
  exact op26.agg hx
theorem open_nt (h:Value.okWide Tryz.prog w r base 68 v) (hx:DataW.Trod enc Tryz.prog w b0 sp held 68 v d ps):∃ x:Nt,ntSz x∧RV w (fun _=>False) nob [] (.agg x.cs) v:=by
  obtain ⟨cs,rfl,_⟩:=okWide_struct Tryz.underlying68 h
  exact op68.agg hx
theorem open_set (h:Value.okWide Tryz.prog w r base 27 v) (hx:DataW.Trod enc Tryz.prog w b0 sp held 27 v d ps):∃ l:List Nt,setSz l∧RV w (fun _=>False) nob [] (ntS l) v:=by
  obtain ⟨a,len,cap,rfl⟩:=okWide_slice Tryz.underlying27 h
  exact op27.one rfl hx
end
end Go.Proofs.YtolgelipcgcbhaaGreat
