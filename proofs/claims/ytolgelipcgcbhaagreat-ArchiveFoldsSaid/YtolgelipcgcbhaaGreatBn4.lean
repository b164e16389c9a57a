/- Part 4: contracts. -/
import Derived.Test.YtolgelipcgcbhaaGreatBn3
import Derived.Test.YtolgelipcgcbhaaGreatRows
namespace Go.Proofs.YtolgelipcgcbhaaGreat
open Go.Abs
open Nat (reduceAdd reduceSub reduceLT reduceLeDiff reduceMul reduceEqDiff)
set_option linter.unusedVariables false
set_option linter.unusedSimpArgs false
set_option maxHeartbeats 4000000
set_option maxRecDepth 100000
def c96:CF:=⟨15,(jo [jb 6 false] [0,1,2]
 (jo [jm 7 0,jm 8 1,jt .geq 9 7 8,jm 10 9,ja 10 (jm 11 0),ja 10 (jm 12 2),ja 10 (jt .leq 13 11 12),jp 14 10 13,jm 6 14] [6]
 .ret)),[.t 6]⟩
theorem k96:chkF Tryz.prog Tryz.f96 c96=true:=by kernel_rfl
def c122:CF:=⟨15,(jo [jb 6 false] [0,1,2]
 (jo [jm 7 0,jm 8 1,jt .geq 9 7 8,jm 10 9,ja 10 (jm 11 0),ja 10 (jm 12 2),ja 10 (jt .leq 13 11 12),jp 14 10 13,jm 6 14] [6]
 .ret)),[.t 6]⟩
theorem k122:chkF Tryz.prog Tryz.f122 c122=true:=by kernel_rfl
def c185:CF:=⟨15,(jo [jb 6 false] [0,1,2]
 (jo [jm 7 0,jm 8 1,jt .geq 9 7 8,jm 10 9,ja 10 (jm 11 0),ja 10 (jm 12 2),ja 10 (jt .leq 13 11 12),jp 14 10 13,jm 6 14] [6]
 .ret)),[.t 6]⟩
theorem k185:chkF Tryz.prog Tryz.f185 c185=true:=by kernel_rfl
def c284:CF:=⟨15,(jo [jb 6 false] [0,1,2]
 (jo [jm 7 0,jm 8 1,jt .geq 9 7 8,jm 10 9,ja 10 (jm 11 0),ja 10 (jm 12 2),ja 10 (jt .leq 13 11 12),jp 14 10 13,jm 6 14] [6]
 .ret)),[.t 6]⟩
theorem k284:chkF Tryz.prog Tryz.f284 c284=true:=by kernel_rfl
def c282:CF:=⟨15,(jo [jb 6 false] [0,1,2]
 (jo [jm 7 0,jm 8 1,jt .geq 9 7 8,jm 10 9,ja 10 (jm 11 0),ja 10 (jm 12 2),ja 10 (jt .leq 13 11 12),jp 14 10 13,jm 6 14] [6]
 .ret)),[.t 6]⟩
theorem k282:chkF Tryz.prog Tryz.f282 c282=true:=by kernel_rfl
def c287:CF:=⟨19,(jo [jx 3 48 2 0,jb 6 false] [1,2,3]
 (jo [jf 7 0 3,jl 8 7,jm 9 1,jf 10 1 3,jl 11 10,jy 12 96 [8,9,11],jm 13 12,ja 13 (jf 14 1 3),ja 13 (jl 15 14),ja 13 (jm 16 2),ja 13 (jt .leq 17 15 16),jp 18 13 17,jm 6 18] [6]
 .ret)),[.t 6]⟩
theorem k287:chkF Tryz.prog Tryz.f287 c287=true:=by kernel_rfl
def c183:CF:=⟨19,(jo [jx 3 48 2 0,jb 6 false] [1,2,3]
 (jo [jf 7 0 3,jl 8 7,jm 9 1,jf 10 1 3,jl 11 10,jy 12 185 [8,9,11],jm 13 12,ja 13 (jf 14 1 3),ja 13 (jl 15 14),ja 13 (jm 16 2),ja 13 (jt .leq 17 15 16),jp 18 13 17,jm 6 18] [6]
 .ret)),[.t 6]⟩
theorem k183:chkF Tryz.prog Tryz.f183 c183=true:=by kernel_rfl
def c283:CF:=⟨13,(jo [jx 1 48 2 0,jb 2 false] [1]
 (jo [jf 3 0 1,jl 4 3,jf 5 1 1,jl 6 5,jw 7 (.call (.f 282) [(.t 4),(.c (.int .i64 900)),(.t 6)]),jm 8 7,ja 8 (jf 9 1 1),ja 8 (jl 10 9),ja 8 (ju .leq 11 10 1100),jp 12 8 11,jm 2 12] [2]
 .ret)),[.t 2]⟩
theorem k283:chkF Tryz.prog Tryz.f283 c283=true:=by kernel_rfl
def c110:CF:=⟨13,(jo [jx 1 24 2 0,jc 2 0] [1]
 (.seq (jo [jf 3 0 1,jl 4 3,jw 5 (.call (.f 122) [(.t 4),(.c (.int .i64 0)),(.c (.int .i64 12000))]),jv 6 5,jm 7 6,jd 7 (jf 8 1 1),jd 7 (jl 9 8),⟨some 10,.call (.f 122) [(.t 9),(.c (.int .i64 0)),(.c (.int .i64 10000))],some (7,false)⟩,jd 7 (jv 11 10),jq 12 7 11] [12]
 (.cond (.t 12) (jo [jc 2 1] [2]
 .ret)
 .skip))
 (jo [jc 2 0] [2]
 .ret))),[.t 2]⟩
theorem k110:chkF Tryz.prog Tryz.f110 c110=true:=by kernel_rfl
def c280:CF:=⟨74,(jo [jx 1 50 10 0,jc 2 0] [1]
 (jo [jf 5 0 1,jl 6 5,jw 7 (.call (.f 282) [(.t 6),(.c (.int .i64 1)),(.c (.int .i64 10000))]),jm 8 7,ja 8 (jf 9 1 1),ja 8 (jl 10 9),⟨some 11,.call (.f 282) [(.t 10),(.c (.int .i64 1)),(.c (.int .i64 400000))],some (8,true)⟩,jp 12 8 11,jm 13 12,ja 13 (jf 14 2 1),ja 13 (jl 15 14),ja 13 (ju .eql 16 15 0),ja 13 (jm 17 16),jd 17 (jf 18 2 1),jd 17 (jl 19 18),jd 17 (jf 20 1 1),jd 17 (jl 21 20),⟨some 22,.call (.f 282) [(.t 19),(.t 21),(.c (.int .i64 4000000))],some (17,false)⟩,ja 13 (jq 23 17 22),jp 24 13 23,jm 3 24] [1,3]
 (jo [jf 25 3 1,jl 26 25,ju .geq 27 26 0,jm 28 27,ja 28 (jf 29 3 1),ja 28 (jl 30 29),ja 28 (jf 31 4 1),ja 28 (jl 32 31),ja 28 (jt .lss 33 30 32),jp 34 28 33,jm 35 34,ja 35 (jf 36 4 1),ja 35 (jl 37 36),ja 35 (ju .leq 38 37 12000),jp 39 35 38,jm 40 39,ja 40 (jf 41 4 1),ja 40 (jl 42 41),ja 40 (jf 43 3 1),ja 40 (jl 44 43),ja 40 (jt .sub 45 42 44),ja 40 (jf 46 1 1),ja 40 (jl 47 46),ja 40 (jt .leq 48 45 47),jp 49 40 48,jm 4 49] [1,3,4]
 (.seq (jo [jm 50 3,jv 51 50,jm 52 51,jd 52 (jm 53 4),jd 52 (jv 54 53),jq 55 52 54,jm 56 55,jd 56 (jf 57 5 1),jd 56 (jl 58 57),⟨some 59,.call (.f 282) [(.t 58),(.c (.int .i64 1)),(.c (.int .i64 200))],some (56,false)⟩,jd 56 (jv 60 59),jq 61 56 60,jm 62 61,jd 62 (jf 63 6 1),jd 62 (jk 64 2 63),jd 62 (jy 65 283 [64]),jd 62 (jv 66 65),jq 67 62 66,jm 68 67,jd 68 (jf 69 8 1),jd 68 (jk 70 2 69),jd 68 (jy 71 283 [70]),jd 68 (jv 72 71),jq 73 68 72] [73]
 (.cond (.t 73) (jo [jc 2 10] [2]
 .ret)
 .skip))
 (jo [jc 2 0] [2]
 .ret))))),[.t 2]⟩
theorem k280:chkF Tryz.prog Tryz.f280 c280=true:=by kernel_rfl
def c281:CF:=⟨37,(jo [jx 1 58 4 0,jc 2 0] [1]
 (jo [jf 4 1 1,jk 5 2 4,jw 3 (.alloc 48 2 [.int .i64 0,.int .i64 0]),js 2 3 5] [1,3]
 (.seq (jo [jf 6 0 1,jl 7 6,jw 8 (.call (.f 284) [(.t 7),(.c (.int .i64 0)),(.c (.int .i64 8))]),jv 9 8,jm 10 9,jd 10 (jf 11 0 3),jd 10 (jl 12 11),jd 10 (jf 13 1 3),jd 10 (jl 14 13),⟨some 15,.call (.f 284) [(.t 12),(.c (.int .i64 (-200))),(.t 14)],some (10,false)⟩,jd 10 (jv 16 15),jq 17 10 16,jm 18 17,jd 18 (jf 19 1 3),jd 18 (jl 20 19),jd 18 (ju .gtr 21 20 200),jq 22 18 21,jm 23 22,jd 23 (jf 24 1 3),jd 23 (jl 25 24),jd 23 (jf 26 0 3),jd 23 (jl 27 26),jd 23 (jt .sub 28 25 27),jd 23 (ju .gtr 29 28 40),jq 30 23 29,jm 31 30,jd 31 (jf 32 3 1),jd 31 (jl 33 32),⟨some 34,.call (.f 284) [(.t 33),(.c (.int .i64 0)),(.c (.int .i64 12000))],some (31,false)⟩,jd 31 (jv 35 34),jq 36 31 35] [36]
 (.cond (.t 36) (jo [jc 2 30] [2]
 .ret)
 .skip))
 (jo [jc 2 0] [2]
 .ret)))),[.t 2]⟩
theorem k281:chkF Tryz.prog Tryz.f281 c281=true:=by kernel_rfl
theorem within_a (x lo hi:Int):Pure Tryz.prog 96 [n x,n lo,n hi] (bl (decide (inr x lo hi))):=by
  refine pB_ Tryz.call96 Tryz.func96 k96 ?_
  unfold c96
  ((refine Au ?_;repeat' constructor)<;>intros<;>refine hD_ ?_)
  all_goals exact Frz.eq (congrArg bl (by simp)) (by simp)
theorem within_s (x lo hi:Int):Pure Tryz.prog 122 [n x,n lo,n hi] (bl (decide (inr x lo hi))):=by
  refine pB_ Tryz.call122 Tryz.func122 k122 ?_
  unfold c122
  ((refine Au ?_;repeat' constructor)<;>intros<;>refine hD_ ?_)
  all_goals exact Frz.eq (congrArg bl (by simp)) (by simp)
theorem within_c (x lo hi:Int):Pure Tryz.prog 185 [n x,n lo,n hi] (bl (decide (inr x lo hi))):=by
  refine pB_ Tryz.call185 Tryz.func185 k185 ?_
  unfold c185
  ((refine Au ?_;repeat' constructor)<;>intros<;>refine hD_ ?_)
  all_goals exact Frz.eq (congrArg bl (by simp)) (by simp)
theorem within_n (x lo hi:Int):Pure Tryz.prog 284 [n x,n lo,n hi] (bl (decide (inr x lo hi))):=by
  refine pB_ Tryz.call284 Tryz.func284 k284 ?_
  unfold c284
  ((refine Au ?_;repeat' constructor)<;>intros<;>refine hD_ ?_)
  all_goals exact Frz.eq (congrArg bl (by simp)) (by simp)
theorem within_p (x lo hi:Int):Pure Tryz.prog 282 [n x,n lo,n hi] (bl (decide (inr x lo hi))):=by
  refine pB_ Tryz.call282 Tryz.func282 k282 ?_
  unfold c282
  ((refine Au ?_;repeat' constructor)<;>intros<;>refine hD_ ?_)
  all_goals exact Frz.eq (congrArg bl (by simp)) (by simp)
theorem span_a (s:Sp) (lo hi:Int):Pure Tryz.prog 287 [.agg (Sp.cs s),n lo,n hi] (bl (decide (spIn s lo hi))):=by
  refine pB_ Tryz.call287 Tryz.func287 k287 ?_
  unfold c287
  ((refine Ay (within_a s.lo lo s.hi) ?_;repeat' constructor)<;>intros<;>refine hD_ ?_)
  all_goals exact Frz.eq (congrArg bl (by simp [and_assoc])) (by simp)
theorem span_c (s:Sp) (lo hi:Int):Pure Tryz.prog 183 [.agg (Sp.cs s),n lo,n hi] (bl (decide (spIn s lo hi))):=by
  refine pB_ Tryz.call183 Tryz.func183 k183 ?_
  unfold c183
  ((refine Ay (within_c s.lo lo s.hi) ?_;repeat' constructor)<;>intros<;>refine hD_ ?_)
  all_goals exact Frz.eq (congrArg bl (by simp [and_assoc])) (by simp)
theorem shrinks_spec (s:Sp):Pure Tryz.prog 283 [.agg (Sp.cs s)] (bl (decide (spIn s 900 1100))):=by
  refine pB_ Tryz.call283 Tryz.func283 k283 ?_
  unfold c283
  ((refine Ay (within_p s.lo 900 s.hi) ?_;repeat' constructor)<;>intros<;>refine hD_ ?_)
  all_goals exact Frz.eq (congrArg bl (by simp [and_assoc])) (by simp)
theorem CheckWind_spec (f e:Int):Pure Tryz.prog 110 [.agg [n f,n e]] (n (if inr f 0 12000∧inr e 0 10000 then 0 else 1)):=by
  refine pB_ Tryz.call110 Tryz.func110 k110 ?_
  unfold c110
  ((refine Ay (And.intro (within_s f 0 12000) (within_s e 0 10000)) ?_;repeat' constructor)<;>intros<;>refine hD_ ?_)
  · rename_i h; rw [if_neg (by omega)]; exact Frz.eq rfl (by simp)
  · rename_i h; rw [if_pos (by omega)]; exact Frz.eq rfl (by simp)
theorem CheckPaper_spec (p:Ppr):Pure Tryz.prog 280 [.agg p.cs] (n (if p.ok then 0 else 10)):=by
  refine pB_ Tryz.call280 Tryz.func280 k280 ?_
  unfold c280
  ((refine Ay (And.intro (within_p p.pitch 1 10000) (And.intro (within_p p.height 1 400000) (And.intro (within_p p.radius p.height 4000000) (And.intro (within_p p.cols 1 200) (And.intro (shrinks_spec p.along) (shrinks_spec p.across)))))) ?_;repeat' constructor)<;>intros<;>refine hD_ ?_)
  all_goals try (exfalso;omega)
  all_goals have hw:0≤p.low→p.low < p.high→p.high≤12000→IntKind.i64.wrap (p.high - p.low)=p.high - p.low:=fun h1 h2 h3=>wr64 _ (by omega) (by omega)
  · rename_i h; rw [if_neg (by unfold Ppr.ok; omega)]; exact Frz.eq rfl (by simp)
  · rename_i h; rw [if_pos (by unfold Ppr.ok; omega)]; exact Frz.eq rfl (by simp)
theorem CheckPen_spec (p:Pn):Pure Tryz.prog 281 [.agg p.cs] (n (if p.ok then 0 else 30)):=by
  refine pB_ Tryz.call281 Tryz.func281 k281 ?_
  unfold c281
  ((refine Ay (And.intro (within_n p.band 0 8) (And.intro (within_n p.zero.lo (-200) p.zero.hi) (within_n p.rate 0 12000))) ?_;repeat' constructor)<;>intros<;>refine hD_ ?_)
  all_goals try (exfalso;omega)
  all_goals have hw:-200≤p.zero.lo→p.zero.lo≤p.zero.hi→p.zero.hi≤200→IntKind.i64.wrap (p.zero.hi - p.zero.lo)=p.zero.hi - p.zero.lo:=fun h1 h2 h3=>wr64 _ (by omega) (by omega)
  · rename_i h; rw [if_neg (by unfold Pn.ok; omega)]; exact Frz.eq rfl (by simp)
  · rename_i h; rw [if_pos (by unfold Pn.ok; omega)]; exact Frz.eq rfl (by simp)
end Go.Proofs.YtolgelipcgcbhaaGreat
namespace Go.Proofs.YtolgelipcgcbhaaGreat
open Go.Abs
open Nat (reduceAdd reduceSub reduceLT reduceLeDiff reduceMul reduceEqDiff)
open Go.Abs renaming vcC→Q0,lateX→Q1,strp→Q2,binA→Q3,elems→Q4,cells→Q5,scalar→Q6,eqC→Q7,keyA→Q8,intsA→Q9,lookA→QA,ofVs→QB,mpOf→QC
set_option linter.unusedVariables false
set_option linter.unusedSimpArgs false
set_option maxHeartbeats 4000000
set_option maxRecDepth 100000
def c123:CF:=⟨59,(jo [jb 2 false] [0]
 (.seq (jo [jm 5 0,je 6 5,jc 7 0] [0,5,6,7]
 (.block 0 (.loop (jo [jt .lss 8 7 6] [0,5,6,7,8]
 (.seq (.cond (.t 8) .skip
 (.exit 0))
 (.seq (.block 1 (jo [jm 9 7,ji 10 3 5 7,jk 11 3 10,jw 4 (.alloc 66 3 [.int .i64 0,.int .i64 0,.int .i64 0]),jm 3 9,js 3 4 11] [0,3,4,5,6,7]
 (.seq (.draw [jm 12 3,ju .eql 13 12 0,jm 14 13,ja 14 (jf 15 0 4),ja 14 (jl 16 15),ja 14 (ju .neq 17 16 0),jp 18 14 17,jm 19 18,jd 19 (jm 20 3),jd 19 (ju .gtr 21 20 0),jd 19 (jm 22 21),ja 22 (jf 23 0 4),ja 22 (jl 24 23),ja 22 (jm 25 0),ja 22 (jm 26 3),ja 22 (ju .sub 27 26 1),ja 22 (ji 28 3 25 27),ja 22 (jf 29 0 28),ja 22 (jl 30 29),ja 22 (jt .leq 31 24 30),jd 19 (jp 32 22 31),jq 33 19 32,jm 34 33,jd 34 (jf 35 0 4),jd 34 (jl 36 35),jd 34 (ju .gtr 37 36 10000),jq 38 34 37,jm 39 38,jd 39 (jf 40 1 4),jd 39 (jf 41 0 40),jd 39 (jl 42 41),jd 39 (jf 43 1 4),jd 39 (jf 44 1 43),jd 39 (jl 45 44),⟨some 46,.call (.f 122) [(.t 42),(.c (.int .i64 0)),(.t 45)],some (39,false)⟩,jd 39 (jv 47 46),jq 48 39 47,jm 49 48,jd 49 (jf 50 1 4),jd 49 (jf 51 1 50),jd 49 (jl 52 51),jd 49 (ju .gtr 53 52 4000),jq 54 49 53] [] [0,5,6,7,54])
 (.cond (.t 54) (jo [jb 2 false] [2]
 .ret)
 .skip))))
 (.ops [ju .add 55 7 1,jm 7 55] [0,5,6,7])))))))
 (jo [jm 56 0,je 57 56,jw 58 (.call (.f 122) [(.t 57),(.c (.int .i64 1)),(.c (.int .i64 16))]),jm 2 58] [2]
 .ret))),[.t 2]⟩
theorem k123:chkF Tryz.prog Tryz.f123 c123=true:=by kernel_rfl
def c55:CF:=⟨50,(jo [jc 2 0,jc 3 0] [0]
 (.seq (jo [jm 6 0,je 7 6,ju .gtr 8 7 32] [0,8]
 (.cond (.t 8) (jo [jc 2 2,jc 3 0] [2,3]
 .ret)
 .skip))
 (.seq (jo [jm 9 0,je 10 9,jc 11 0] [0,9,10,11]
 (.block 0 (.loop (jo [jt .lss 12 11 10] [0,9,10,11,12]
 (.seq (.cond (.t 12) .skip
 (.exit 0))
 (.seq (.block 1 (jo [jm 13 11,ji 14 4 9 11,jk 15 4 14,jw 5 (.alloc 109 4 [.int .i64 0,.int .i64 0,.int .i64 0,.slice none 0 0]),jm 4 13,js 4 5 15] [0,4,5,9,10,11]
 (.block 2 (.seq (jo [jf 17 0 5,jl 18 17,jw 19 (.call (.f 122) [(.t 18),(.c (.int .i64 1)),(.c (.int .i64 65535))]),jv 20 19,jm 16 20] [0,4,5,9,10,11,16]
 (.cond (.t 16) .skip
 (.seq (.draw [jm 21 4,ju .gtr 22 21 0,jm 23 22,ja 23 (jf 24 0 5),ja 23 (jl 25 24),ja 23 (jm 26 0),ja 23 (jm 27 4),ja 23 (ju .sub 28 27 1),ja 23 (ji 29 4 26 28),ja 23 (jf 30 0 29),ja 23 (jl 31 30),ja 23 (jt .leq 32 25 31),jp 33 23 32,jm 16 33] [] [0,4,5,9,10,11,16])
 (.cond (.t 16) .skip
 (jo [jf 34 1 5,jl 35 34,jw 36 (.call (.f 122) [(.t 35),(.c (.int .i64 0)),(.c (.int .i64 2000))]),jv 37 36,jm 16 37] [0,4,5,9,10,11,16]
 (.cond (.t 16) .skip
 (.ops [jf 38 2 5,jl 39 38,jw 40 (.call (.f 122) [(.t 39),(.c (.int .i64 0)),(.c (.int .i64 2000))]),jv 41 40,jm 16 41] [0,4,5,9,10,11,16])))))))
 (.cond (.t 16) (jo [jm 42 4,jc 2 50,jm 3 42] [2,3]
 .ret)
 (jo [jf 44 3 5,jl 45 44,jy 46 123 [45],jv 47 46,jm 43 47] [0,4,9,10,11,43]
 (.cond (.t 43) (jo [jm 48 4,jc 2 51,jm 3 48] [2,3]
 .ret)
 .skip)))))))
 (.ops [ju .add 49 11 1,jm 11 49] [0,9,10,11])))))))
 (jo [jc 2 0,jc 3 0] [2,3]
 .ret)))),[.t 2,.t 3]⟩
theorem k55:chkF Tryz.prog Tryz.f55 c55=true:=by kernel_rfl
theorem high_spec (l:List Hgt) (hl:l.length < 9223372036854775808):Pure Tryz.prog 123 [hgS l] (bl (decide (highOk l))):=by
  refine pB_ Tryz.call123 Tryz.func123 k123 ?_
  unfold c123
  ((refine Au ?_;repeat' constructor)<;>intros<;>refine hD_ ?_)
  refine AWPC.loopE (α:={ x:Nat × Sto // x.1≤l.length∧∀ j,j < x.1→highAt l j }) [7] (fun x=>[(7,n x.1.1)]) (fun x=>x.1.2) (fun x=>l.length - x.1.1) ⟨(0,[]),by simp,by simp⟩ ?_ rfl ?_
  · (simp only [zN,zT,zV,zS,zU,Q0,Q1,ex,Q2,Q3,Q4,Q5,Q6,Q7,Q8,Q9,QA,QB,QC,Nat.reduceBEq,reduceAdd,reduceSub,reduceLT,reduceLeDiff,reduceMul,reduceEqDiff,reduceIte]; try simp)
  · rintro ⟨⟨i,τ⟩,hi,hb⟩
    simp only at hi hb
    by_cases hlt:i < l.length
    · have hs:(l.map Hgt.cs).getD i []=Hgt.cs (l.getD i default):=getD_map (getD_lt default hlt)
      have hp:=rowPrev (f:=Hgt.cs) default hlt
      generalize hg:l.getD i default=g at hs
      generalize hg':l.getD (i - 1) default=g' at hp
      ((refine Az (And.intro @hs @hp) (within_s g.metres.lo 0 g.metres.hi) ?_;repeat' constructor)<;>intros<;>refine hD_ ?_)
      all_goals try (exfalso;omega)
      · rename_i h
        rw [decide_eq_false fun hh=>?_]
        · exact Frz.eq rfl (by simp)
        · have:=hh.2 i hlt
          unfold highAt at this
          rw [hg,hg'] at this
          omega
      · rename_i h
        exact ⟨⟨(i+1,_),hlt,all_next hb (by unfold highAt; rw [hg,hg']; omega)⟩,by simp,rfl,by simp only; omega⟩
    · obtain rfl:i=l.length:=by omega
      ((refine Ay (within_s l.length 1 16) ?_;repeat' constructor)<;>intros<;>refine hD_ ?_)
      all_goals try (exfalso;omega)
      refine Frz.eq (congrArg bl ?_) (by simp)
      rw [decide_eq_decide]
      exact ⟨fun h=>⟨h,hb⟩,fun h=>h.1⟩
def stnSz (l:List Stn):Prop:=l.length < 9223372036854775808∧∀ s∈l,s.heights.length < 9223372036854775808
theorem CheckStn_spec (l:List Stn) (hl:stnSz l):Pure Tryz.prog 55 [snS l] (.tup [n (stnsE l).1,n (stnsE l).2]):=by
  refine pB_ Tryz.call55 Tryz.func55 k55 ?_
  unfold c55
  have hl0:=hl.1
  ((refine Au ?_;repeat' constructor)<;>intros<;>refine hD_ ?_)
  · rename_i h
    unfold stnsE; rw [if_pos (by omega)]; exact Frz.eq rfl (by simp)
  refine AWPC.loopE (α:={ x:Nat × Sto // x.1≤l.length∧∀ j,j < x.1→stnE l j=0 }) [11] (fun x=>[(11,n x.1.1)]) (fun x=>x.1.2) (fun x=>l.length - x.1.1) ⟨(0,[]),by simp,by simp⟩ ?_ rfl ?_
  · (simp only [zN,zT,zV,zS,zU,Q0,Q1,ex,Q2,Q3,Q4,Q5,Q6,Q7,Q8,Q9,QA,QB,QC,Nat.reduceBEq,reduceAdd,reduceSub,reduceLT,reduceLeDiff,reduceMul,reduceEqDiff,reduceIte]; try simp)
  · rintro ⟨⟨i,τ⟩,hi,hb⟩
    simp only at hi hb
    have hlen:¬ 32 < l.length:=by omega
    by_cases hlt:i < l.length
    · have hs:(l.map Stn.cs).getD i []=Stn.cs (l.getD i default):=getD_map (getD_lt default hlt)
      have hp:=rowPrev (f:=Stn.cs) default hlt
      have hh:=high_spec (l.getD i default).heights (hl.2 _ (List.mem_of_getElem? (getD_lt default hlt)))
      generalize hg:l.getD i default=g at hs hh
      generalize hg':l.getD (i - 1) default=g' at hp
      have hE:stnE l i=if inr g.id 1 65535∧(0 < i→g'.id < g.id)∧inr g.x 0 2000∧inr g.y 0 2000 then (if highOk g.heights then 0 else 51) else 50:=by unfold stnE; rw [hg,hg']
      have hbad:stnE l i≠0→stnsE l=(stnE l i,i):=fun h=>by unfold stnsE; rw [if_neg hlen,firstE_at hlt hb h]
      ((refine Az (And.intro @hs @hp) (And.intro (within_s g.id 1 65535) (And.intro (within_s g.x 0 2000) (And.intro (within_s g.y 0 2000) @hh))) ?_;repeat' constructor)<;>intros<;>refine hD_ ?_)
      all_goals try (exfalso;omega)
      all_goals first
        | (have e:stnE l i=50:=by rw [hE,if_neg (by omega)]
           rw [hbad (by omega),e]; exact Frz.eq rfl (by simp))
        | (have e:stnE l i=51:=by rw [hE,if_pos (by omega),if_neg (by simp_all)]
           rw [hbad (by omega),e]; exact Frz.eq rfl (by simp))
        | exact ⟨⟨(i+1,_),hlt,all_next hb (by rw [hE,if_pos (by omega),if_pos (by simp_all)])⟩,by simp,rfl,by simp only; omega⟩
    · obtain rfl:i=l.length:=by omega
      ((refine Au ?_;repeat' constructor)<;>intros<;>refine hD_ ?_)
      all_goals try (exfalso;omega)
      unfold stnsE; rw [if_neg hlen,firstE_none hb]; exact Frz.eq rfl (by simp)
def c219:CF:=⟨19,(jo [jc 4 0] [0,1]
 (.seq (jo [jm 6 0,je 7 6,jc 8 0] [0,1,7,8]
 (.block 0 (.loop (jo [jt .lss 9 8 7] [0,1,7,8,9]
 (.seq (.cond (.t 9) .skip
 (.exit 0))
 (.seq (.block 1 (jo [jm 10 8,jm 5 10] [0,1,5,7,8]
 (jo [jm 11 1,jm 12 0,jm 13 5,ji 14 2 12 13,jk 15 2 14,jw 16 (.call (.t 11) [(.t 15)])] [0,1,5,7,8,16]
 (.cond (.t 16) (jo [jm 17 5,jm 4 17] [4]
 .ret)
 .skip))))
 (.ops [ju .add 18 8 1,jm 8 18] [0,1,7,8])))))))
 (jo [jc 4 (-1)] [4]
 .ret))),[.t 4]⟩
theorem k219:chkF Tryz.prog Tryz.f219 c219=true:=by kernel_rfl
def c220:CF:=⟨19,(jo [jc 4 0] [0,1]
 (.seq (jo [jm 6 0,je 7 6,jc 8 0] [0,1,7,8]
 (.block 0 (.loop (jo [jt .lss 9 8 7] [0,1,7,8,9]
 (.seq (.cond (.t 9) .skip
 (.exit 0))
 (.seq (.block 1 (jo [jm 10 8,jm 5 10] [0,1,5,7,8]
 (jo [jm 11 1,jm 12 0,jm 13 5,ji 14 3 12 13,jk 15 3 14,jw 16 (.call (.t 11) [(.t 15)])] [0,1,5,7,8,16]
 (.cond (.t 16) (jo [jm 17 5,jm 4 17] [4]
 .ret)
 .skip))))
 (.ops [ju .add 18 8 1,jm 8 18] [0,1,7,8])))))))
 (jo [jc 4 (-1)] [4]
 .ret))),[.t 4]⟩
theorem k220:chkF Tryz.prog Tryz.f220 c220=true:=by kernel_rfl
def c246:CF:=⟨19,(jo [jc 4 0] [0,1]
 (.seq (jo [jm 6 0,je 7 6,jc 8 0] [0,1,7,8]
 (.block 0 (.loop (jo [jt .lss 9 8 7] [0,1,7,8,9]
 (.seq (.cond (.t 9) .skip
 (.exit 0))
 (.seq (.block 1 (jo [jm 10 8,jm 5 10] [0,1,5,7,8]
 (jo [jm 11 1,jm 12 0,jm 13 5,ji 14 4 12 13,jk 15 4 14,jw 16 (.call (.t 11) [(.t 15)])] [0,1,5,7,8,16]
 (.cond (.t 16) (jo [jm 17 5,jm 4 17] [4]
 .ret)
 .skip))))
 (.ops [ju .add 18 8 1,jm 8 18] [0,1,7,8])))))))
 (jo [jc 4 (-1)] [4]
 .ret))),[.t 4]⟩
theorem k246:chkF Tryz.prog Tryz.f246 c246=true:=by kernel_rfl
def c186:CF:=⟨9,(jo [jb 4 false] [0,1]
 (jo [jm 5 0,jm 6 1,jy 7 219 [5,6],ju .geq 8 7 0,jm 4 8] [4]
 .ret)),[.t 4]⟩
theorem k186:chkF Tryz.prog Tryz.f186 c186=true:=by kernel_rfl
def c187:CF:=⟨9,(jo [jb 4 false] [0,1]
 (jo [jm 5 0,jm 6 1,jy 7 220 [5,6],ju .geq 8 7 0,jm 4 8] [4]
 .ret)),[.t 4]⟩
theorem k187:chkF Tryz.prog Tryz.f187 c187=true:=by kernel_rfl
def c279:CF:=⟨34,(jo [jc 2 0,jc 3 0] [0]
 (.seq (jo [jm 6 0,je 7 6,ju .gtr 8 7 2000] [0,8]
 (.cond (.t 8) (jo [jc 2 2,jc 3 0] [2,3]
 .ret)
 .skip))
 (.seq (jo [jm 9 0,je 10 9,jc 11 0] [9,10,11]
 (.block 0 (.loop (jo [jt .lss 12 11 10] [9,10,11,12]
 (.seq (.cond (.t 12) .skip
 (.exit 0))
 (.seq (.block 1 (jo [jm 13 11,ji 14 3 9 11,jk 15 3 14,jw 5 (.alloc 164 3 [.int .i64 0,.int .i64 0,.int .i64 0]),jm 4 13,js 3 5 15] [4,5,9,10,11]
 (jo [jf 16 0 5,jl 17 16,jw 18 (.call (.f 282) [(.t 17),(.c (.int .i64 0)),(.c (.int .i64 400000))]),jv 19 18,jm 20 19,jd 20 (jf 21 1 5),jd 20 (jl 22 21),⟨some 23,.call (.f 282) [(.t 22),(.c (.int .i64 0)),(.c (.int .i64 400000))],some (20,false)⟩,jd 20 (jv 24 23),jq 25 20 24,jm 26 25,jd 26 (jf 27 2 5),jd 26 (jl 28 27),⟨some 29,.call (.f 282) [(.t 28),(.c (.int .i64 0)),(.c (.int .i64 5000))],some (26,false)⟩,jd 26 (jv 30 29),jq 31 26 30] [4,9,10,11,31]
 (.cond (.t 31) (jo [jm 32 4,jc 2 11,jm 3 32] [2,3]
 .ret)
 .skip))))
 (.ops [ju .add 33 11 1,jm 11 33] [9,10,11])))))))
 (jo [jc 2 0,jc 3 0] [2,3]
 .ret)))),[.t 2,.t 3]⟩
theorem k279:chkF Tryz.prog Tryz.f279 c279=true:=by kernel_rfl
def c182:CF:=⟨6,(jo [jx 1 48 2 0,jb 2 false] [1]
 (jo [jk 3 2 1,jw 4 (.call (.f 183) [(.t 3),(.c (.int .i64 1)),(.c (.int .i64 40))]),jv 5 4,jm 2 5] [2]
 .ret)),[.t 2]⟩
theorem k182:chkF Tryz.prog Tryz.f182 c182=true:=by kernel_rfl
def c184:CF:=⟨18,(jo [jx 2 226 3 0,jb 3 false] [1,2]
 (jo [jf 4 0 2,jl 5 4,jf 6 0 1,jl 7 6,je 8 7,ju .sub 9 8 1,jw 10 (.call (.f 185) [(.t 5),(.c (.int .i64 0)),(.t 9)]),jv 11 10,jm 12 11,jd 12 (jf 13 1 2),jd 12 (jk 14 2 13),⟨some 15,.call (.f 183) [(.t 14),(.c (.int .i64 0)),(.c (.int .i64 400))],some (12,false)⟩,jd 12 (jv 16 15),jq 17 12 16,jm 3 17] [3]
 .ret)),[.t 3]⟩
theorem k184:chkF Tryz.prog Tryz.f184 c184=true:=by kernel_rfl
def c118:CF:=⟨29,(jo [jx 1 56 2 0,jc 2 0] [1]
 (jo [jw 3 (.mv (.f 182))] [1,3]
 (jo [jw 5 (.mkfn (.func 184) [] [(.t 1)]),jm 4 5] [1,3,4]
 (.seq (jo [jf 6 0 1,jl 7 6,je 8 7,jw 9 (.call (.f 185) [(.t 8),(.c (.int .i64 1)),(.c (.int .i64 199))]),jv 10 9,jm 11 10,jd 11 (jf 12 1 1),jd 11 (jl 13 12),jd 11 (je 14 13),jd 11 (ju .gtr 15 14 16),jq 16 11 15,jm 17 16,jd 17 (jf 18 0 1),jd 17 (jl 19 18),jd 17 (jm 20 3),jd 17 (jy 21 186 [19,20]),jq 22 17 21,jm 23 22,jd 23 (jf 24 1 1),jd 23 (jl 25 24),jd 23 (jm 26 4),jd 23 (jy 27 187 [25,26]),jq 28 23 27] [28]
 (.cond (.t 28) (jo [jc 2 20] [2]
 .ret)
 .skip))
 (jo [jc 2 0] [2]
 .ret))))),[.t 2]⟩
theorem k118:chkF Tryz.prog Tryz.f118 c118=true:=by kernel_rfl
theorem indexSp (f:Nat) (caps:List AV) (hcap:∀ c∈caps,PureV c) (q:Sp→Bool) (l:List Sp) (hl:l.length < 9223372036854775808) (hq:∀ x∈l,Pure Tryz.prog f ([.agg (Sp.cs x)]++caps) (bl (q x))):Pure Tryz.prog 219 [spnS l,.fn (.func f) [] caps] (n (fidx q 0 l)):=by
  refine pB_ Tryz.call219 Tryz.func219 k219 ?_
  unfold c219
  ((refine Au ?_;repeat' constructor)<;>intros<;>refine hD_ ?_)
  refine AWPC.loopI 8 l.length (fun i=>fidx q i (l.drop i)=fidx q 0 l) (by simp) ?_ ?_
  · (simp only [zN,zT,zV,zS,zU,Q0,Q1,ex,Q2,Q3,Q4,Q5,Q6,Q7,Q8,Q9,QA,QB,QC,Nat.reduceBEq,reduceAdd,reduceSub,reduceLT,reduceLeDiff,reduceMul,reduceEqDiff,reduceIte]; try simp)
  · intro i hi hI
    by_cases hlt:i < l.length
    · obtain ⟨x,hx⟩:∃ x,l[i]?=some x:=⟨_,List.getElem?_eq_getElem hlt⟩
      have hc:=hq x (List.mem_of_getElem? hx)
      rw [drop_cons hx,fidx] at hI
      (repeat' ((first
 | refine vn rfl ?_
 | simp (disch:=omega) only [wr64,Int.zero_sub]
 | refine bo (fun _=>?_) fun _=>?_
 | refine im fun _=>?_
 | refine cF ?_
 | refine om ?_
 | refine an ?_
 | fail) <;> try simp only [zN,zT,zV,zS,zU,Q0,Q1,ex,Q2,Q3,Q4,Q5,Q6,Q7,Q8,Q9,QA,QB,QC,Nat.reduceBEq,reduceAdd,reduceSub,reduceLT,reduceLeDiff,reduceMul,reduceEqDiff,reduceIte,getD_map hx]))
      all_goals try (exfalso;omega)
      refine .inl ⟨_,_,_,_,rfl,fun _=>.of ?_ (hc),?_⟩
      · intro a ha
        simp only [List.nil_append,List.cons_append,List.mem_cons] at ha
        rcases ha with rfl | ha
        · simp
        · exact hcap a ha
      refine Zy ?_
      simp only [zN,zT,zV,zS,zU,Q0,Q1,ex,Q2,Q3,Q4,Q5,Q6,Q7,Q8,Q9,QA,QB,QC,Nat.reduceBEq,reduceAdd,reduceSub,reduceLT,reduceLeDiff,reduceMul,reduceEqDiff,reduceIte]
      ((refine Au ?_;repeat' constructor)<;>intros<;>refine hD_ ?_)
      · rename_i h
        rw [h] at hI
        simp only [if_true] at hI
        rw [← hI]
        exact Frz.eq rfl (by simp)
      · rename_i h
        rw [h] at hI
        exact ⟨⟨i+1,hlt,by simpa using hI⟩,by simp,by simp only; omega⟩
    · obtain rfl:i=l.length:=by omega
      rw [List.drop_length,fidx] at hI
      ((refine Au ?_;repeat' constructor)<;>intros<;>refine hD_ ?_)
      all_goals try (exfalso;omega)
      rw [← hI]
      exact Frz.eq rfl (by simp)
theorem indexMk (f:Nat) (caps:List AV) (hcap:∀ c∈caps,PureV c) (q:Mk→Bool) (l:List Mk) (hl:l.length < 9223372036854775808) (hq:∀ x∈l,Pure Tryz.prog f ([.agg (Mk.cs x)]++caps) (bl (q x))):Pure Tryz.prog 220 [mkS l,.fn (.func f) [] caps] (n (fidx q 0 l)):=by
  refine pB_ Tryz.call220 Tryz.func220 k220 ?_
  unfold c220
  ((refine Au ?_;repeat' constructor)<;>intros<;>refine hD_ ?_)
  refine AWPC.loopI 8 l.length (fun i=>fidx q i (l.drop i)=fidx q 0 l) (by simp) ?_ ?_
  · (simp only [zN,zT,zV,zS,zU,Q0,Q1,ex,Q2,Q3,Q4,Q5,Q6,Q7,Q8,Q9,QA,QB,QC,Nat.reduceBEq,reduceAdd,reduceSub,reduceLT,reduceLeDiff,reduceMul,reduceEqDiff,reduceIte]; try simp)
  · intro i hi hI
    by_cases hlt:i < l.length
    · obtain ⟨x,hx⟩:∃ x,l[i]?=some x:=⟨_,List.getElem?_eq_getElem hlt⟩
      have hc:=hq x (List.mem_of_getElem? hx)
      rw [drop_cons hx,fidx] at hI
      (repeat' ((first
 | refine vn rfl ?_
 | simp (disch:=omega) only [wr64,Int.zero_sub]
 | refine bo (fun _=>?_) fun _=>?_
 | refine im fun _=>?_
 | refine cF ?_
 | refine om ?_
 | refine an ?_
 | fail) <;> try simp only [zN,zT,zV,zS,zU,Q0,Q1,ex,Q2,Q3,Q4,Q5,Q6,Q7,Q8,Q9,QA,QB,QC,Nat.reduceBEq,reduceAdd,reduceSub,reduceLT,reduceLeDiff,reduceMul,reduceEqDiff,reduceIte,getD_map hx]))
      all_goals try (exfalso;omega)
      refine .inl ⟨_,_,_,_,rfl,fun _=>.of ?_ (hc),?_⟩
      · intro a ha
        simp only [List.nil_append,List.cons_append,List.mem_cons] at ha
        rcases ha with rfl | ha
        · simp
        · exact hcap a ha
      refine Zy ?_
      simp only [zN,zT,zV,zS,zU,Q0,Q1,ex,Q2,Q3,Q4,Q5,Q6,Q7,Q8,Q9,QA,QB,QC,Nat.reduceBEq,reduceAdd,reduceSub,reduceLT,reduceLeDiff,reduceMul,reduceEqDiff,reduceIte]
      ((refine Au ?_;repeat' constructor)<;>intros<;>refine hD_ ?_)
      · rename_i h
        rw [h] at hI
        simp only [if_true] at hI
        rw [← hI]
        exact Frz.eq rfl (by simp)
      · rename_i h
        rw [h] at hI
        exact ⟨⟨i+1,hlt,by simpa using hI⟩,by simp,by simp only; omega⟩
    · obtain rfl:i=l.length:=by omega
      rw [List.drop_length,fidx] at hI
      ((refine Au ?_;repeat' constructor)<;>intros<;>refine hD_ ?_)
      all_goals try (exfalso;omega)
      rw [← hI]
      exact Frz.eq rfl (by simp)
theorem indexStn (f:Nat) (caps:List AV) (hcap:∀ c∈caps,PureV c) (q:Stn→Bool) (l:List Stn) (hl:l.length < 9223372036854775808) (hq:∀ x∈l,Pure Tryz.prog f ([.agg (Stn.cs x)]++caps) (bl (q x))):Pure Tryz.prog 246 [snS l,.fn (.func f) [] caps] (n (fidx q 0 l)):=by
  refine pB_ Tryz.call246 Tryz.func246 k246 ?_
  unfold c246
  ((refine Au ?_;repeat' constructor)<;>intros<;>refine hD_ ?_)
  refine AWPC.loopI 8 l.length (fun i=>fidx q i (l.drop i)=fidx q 0 l) (by simp) ?_ ?_
  · (simp only [zN,zT,zV,zS,zU,Q0,Q1,ex,Q2,Q3,Q4,Q5,Q6,Q7,Q8,Q9,QA,QB,QC,Nat.reduceBEq,reduceAdd,reduceSub,reduceLT,reduceLeDiff,reduceMul,reduceEqDiff,reduceIte]; try simp)
  · intro i hi hI
    by_cases hlt:i < l.length
    · obtain ⟨x,hx⟩:∃ x,l[i]?=some x:=⟨_,List.getElem?_eq_getElem hlt⟩
      have hc:=hq x (List.mem_of_getElem? hx)
      rw [drop_cons hx,fidx] at hI
      (repeat' ((first
 | refine vn rfl ?_
 | simp (disch:=omega) only [wr64,Int.zero_sub]
 | refine bo (fun _=>?_) fun _=>?_
 | refine im fun _=>?_
 | refine cF ?_
 | refine om ?_
 | refine an ?_
 | fail) <;> try simp only [zN,zT,zV,zS,zU,Q0,Q1,ex,Q2,Q3,Q4,Q5,Q6,Q7,Q8,Q9,QA,QB,QC,Nat.reduceBEq,reduceAdd,reduceSub,reduceLT,reduceLeDiff,reduceMul,reduceEqDiff,reduceIte,getD_map hx]))
      all_goals try (exfalso;omega)
      refine .inl ⟨_,_,_,_,rfl,fun _=>.of ?_ (hc),?_⟩
      · intro a ha
        simp only [List.nil_append,List.cons_append,List.mem_cons] at ha
        rcases ha with rfl | ha
        · simp
        · exact hcap a ha
      refine Zy ?_
      simp only [zN,zT,zV,zS,zU,Q0,Q1,ex,Q2,Q3,Q4,Q5,Q6,Q7,Q8,Q9,QA,QB,QC,Nat.reduceBEq,reduceAdd,reduceSub,reduceLT,reduceLeDiff,reduceMul,reduceEqDiff,reduceIte]
      ((refine Au ?_;repeat' constructor)<;>intros<;>refine hD_ ?_)
      · rename_i h
        rw [h] at hI
        simp only [if_true] at hI
        rw [← hI]
        exact Frz.eq rfl (by simp)
      · rename_i h
        rw [h] at hI
        exact ⟨⟨i+1,hlt,by simpa using hI⟩,by simp,by simp only; omega⟩
    · obtain rfl:i=l.length:=by omega
      rw [List.drop_length,fidx] at hI
      ((refine Au ?_;repeat' constructor)<;>intros<;>refine hD_ ?_)
      all_goals try (exfalso;omega)
      rw [← hI]
      exact Frz.eq rfl (by simp)
theorem containsSp (f:Nat) (caps:List AV) (hcap:∀ c∈caps,PureV c) (q:Sp→Bool) (l:List Sp) (hl:l.length < 9223372036854775808) (hq:∀ x∈l,Pure Tryz.prog f ([.agg (Sp.cs x)]++caps) (bl (q x))):Pure Tryz.prog 186 [spnS l,.fn (.func f) [] caps] (bl (l.any q)):=by
  refine pB_ Tryz.call186 Tryz.func186 k186 ?_
  unfold c186
  have h:=fidx_any q l 0
  ((refine Au ?_;repeat' constructor)<;>intros<;>refine hD_ ?_)
  refine .inl ⟨_,_,_,_,rfl,fun _=>.of ?_ (indexSp f caps hcap q l hl hq),?_⟩
  · intro a ha
    simp only [List.nil_append,List.cons_append,List.mem_cons,List.append_nil,List.not_mem_nil,or_false] at ha
    rcases ha with rfl | rfl
    · simp
    · exact PureV.fn (fun _ h=>absurd h (List.not_mem_nil)) hcap
  refine Zy ?_
  simp only [zN,zT,zV,zS,zU,Q0,Q1,ex,Q2,Q3,Q4,Q5,Q6,Q7,Q8,Q9,QA,QB,QC,Nat.reduceBEq,reduceAdd,reduceSub,reduceLT,reduceLeDiff,reduceMul,reduceEqDiff,reduceIte]
  ((refine Au ?_;repeat' constructor)<;>intros<;>refine hD_ ?_)
  rw [← h]
  exact Frz.eq rfl (by simp)
theorem containsMk (f:Nat) (caps:List AV) (hcap:∀ c∈caps,PureV c) (q:Mk→Bool) (l:List Mk) (hl:l.length < 9223372036854775808) (hq:∀ x∈l,Pure Tryz.prog f ([.agg (Mk.cs x)]++caps) (bl (q x))):Pure Tryz.prog 187 [mkS l,.fn (.func f) [] caps] (bl (l.any q)):=by
  refine pB_ Tryz.call187 Tryz.func187 k187 ?_
  unfold c187
  have h:=fidx_any q l 0
  ((refine Au ?_;repeat' constructor)<;>intros<;>refine hD_ ?_)
  refine .inl ⟨_,_,_,_,rfl,fun _=>.of ?_ (indexMk f caps hcap q l hl hq),?_⟩
  · intro a ha
    simp only [List.nil_append,List.cons_append,List.mem_cons,List.append_nil,List.not_mem_nil,or_false] at ha
    rcases ha with rfl | rfl
    · simp
    · exact PureV.fn (fun _ h=>absurd h (List.not_mem_nil)) hcap
  refine Zy ?_
  simp only [zN,zT,zV,zS,zU,Q0,Q1,ex,Q2,Q3,Q4,Q5,Q6,Q7,Q8,Q9,QA,QB,QC,Nat.reduceBEq,reduceAdd,reduceSub,reduceLT,reduceLeDiff,reduceMul,reduceEqDiff,reduceIte]
  ((refine Au ?_;repeat' constructor)<;>intros<;>refine hD_ ?_)
  rw [← h]
  exact Frz.eq rfl (by simp)
theorem CheckTrace_spec (l:List Pt) (hl:l.length < 9223372036854775808):Pure Tryz.prog 279 [ptS l] (.tup [n (traceE l).1,n (traceE l).2]):=by
  refine pB_ Tryz.call279 Tryz.func279 k279 ?_
  unfold c279
  ((refine Au ?_;repeat' constructor)<;>intros<;>refine hD_ ?_)
  · rename_i h
    unfold traceE; rw [if_pos (by omega)]; exact Frz.eq rfl (by simp)
  refine AWPC.loopE (α:={ x:Nat × Sto // x.1≤l.length∧∀ j,j < x.1→(fun i=>if (l.getD i ⟨0,0,0⟩).ok then (0:Int) else 11) j=0 }) [11] (fun x=>[(11,n x.1.1)]) (fun x=>x.1.2) (fun x=>l.length - x.1.1) ⟨(0,[]),by simp,by simp⟩ ?_ rfl ?_
  · (simp only [zN,zT,zV,zS,zU,Q0,Q1,ex,Q2,Q3,Q4,Q5,Q6,Q7,Q8,Q9,QA,QB,QC,Nat.reduceBEq,reduceAdd,reduceSub,reduceLT,reduceLeDiff,reduceMul,reduceEqDiff,reduceIte]; try simp)
  · rintro ⟨⟨i,τ⟩,hi,hb⟩
    simp only at hi hb
    have hlen:¬ 2000 < l.length:=by omega
    by_cases hlt:i < l.length
    · have hs:(l.map Pt.cs).getD i []=Pt.cs (l.getD i ⟨0,0,0⟩):=row _ hlt
      generalize hg:l.getD i ⟨0,0,0⟩=g at hs
      ((refine Az @hs (And.intro (within_p g.x 0 400000) (And.intro (within_p g.y 0 400000) (within_p g.half 0 5000))) ?_;repeat' constructor)<;>intros<;>refine hD_ ?_)
      all_goals try (exfalso;omega)
      · rename_i h
        have hn:¬ (l.getD i ⟨0,0,0⟩).ok:=by rw [hg]; unfold Pt.ok; omega
        have:=firstE_at (p:=fun i=>if (l.getD i ⟨0,0,0⟩).ok then (0:Int) else 11) hlt hb (by simp only [hn,if_false]; decide)
        unfold traceE; rw [if_neg hlen,this]
        simp only [hn,if_false]
        exact Frz.eq rfl (by simp)
      · rename_i h
        exact ⟨⟨(i+1,_),hlt,all_next hb (by simp only [hg]; rw [if_pos (by unfold Pt.ok; omega)])⟩,by simp,rfl,by simp only; omega⟩
    · obtain rfl:i=l.length:=by omega
      ((refine Au ?_;repeat' constructor)<;>intros<;>refine hD_ ?_)
      all_goals try (exfalso;omega)
      unfold traceE; rw [if_neg hlen,firstE_none hb]; exact Frz.eq rfl (by simp)
theorem badRate_spec (s:Sp):Pure Tryz.prog 182 [.agg (Sp.cs s)] (bl (decide (¬ spIn s 1 40))):=by
  refine pB_ Tryz.call182 Tryz.func182 k182 ?_
  unfold c182
  ((refine Ay (span_c s 1 40) ?_;repeat' constructor)<;>intros<;>refine hD_ ?_)
  all_goals exact Frz.eq (congrArg bl (by simp)) (by simp)
theorem badStop_spec (rates:List Sp) (stops:List Mk) (hr:rates.length < 9223372036854775808) (s:Mk):Pure Tryz.prog 184 [.agg (Mk.cs s),.iptr [spnS rates,mkS stops] 0] (bl (decide (¬ (inr s.col 0 ((rates.length:Int) - 1)∧spIn s.ticks 0 400)))):=by
  refine pB_ Tryz.call184 Tryz.func184 k184 ?_
  unfold c184
  ((refine Ay (And.intro (within_c s.col 0 ((rates.length:Int) - 1)) (span_c s.ticks 0 400)) ?_;repeat' constructor)<;>intros<;>refine hD_ ?_)
  all_goals exact Frz.eq (congrArg bl (by rw [Bool.eq_iff_iff]; simp; omega)) (by simp)
theorem CheckDrum_spec (rates:List Sp) (stops:List Mk) (hr:rates.length < 9223372036854775808) (hs:stops.length < 9223372036854775808):Pure Tryz.prog 118 [.agg [spnS rates,mkS stops]] (n (if drumOk rates stops then 0 else 20)):=by
  refine pB_ Tryz.call118 Tryz.func118 k118 ?_
  unfold c118
  have h1:=containsSp 182 [] (by simp) (fun s=>decide (¬ spIn s 1 40)) rates hr (fun s _=>badRate_spec s)
  have h2:=containsMk 184 [.iptr [spnS rates,mkS stops] 0] (by simp) (fun s=>decide (¬ (inr s.col 0 ((rates.length:Int) - 1)∧spIn s.ticks 0 400))) stops hs (fun s _=>badStop_spec rates stops hr s)
  have hd:drumOk rates stops↔inr rates.length 1 199∧stops.length≤16∧(rates.any fun s=>decide (¬ spIn s 1 40))=false∧(stops.any fun s=>decide (¬ (inr s.col 0 ((rates.length:Int) - 1)∧spIn s.ticks 0 400)))=false:=by
    simp only [List.any_eq_false,decide_eq_true_eq,Classical.not_not]
    exact Iff.rfl
  generalize (rates.any fun s=>decide (¬ spIn s 1 40))=x at h1 hd
  generalize (stops.any fun s=>decide (¬ (inr s.col 0 ((rates.length:Int) - 1)∧spIn s.ticks 0 400)))=y at h2 hd
  ((refine Ay (And.intro (within_c rates.length 1 199) (And.intro @h1 @h2)) ?_;repeat' constructor)<;>intros<;>refine hD_ ?_)
  all_goals try (exfalso;omega)
  · rename_i h
    rw [if_neg (fun g=>?_)]
    · exact Frz.eq rfl (by simp)
    · obtain ⟨a,b,c,d⟩:=hd.1 g
      subst c; subst d
      simp at h; omega
  · rename_i h
    rw [if_pos (hd.2 ?_)]
    · exact Frz.eq rfl (by simp)
    · cases x <;> cases y <;> simp at h ⊢ <;> omega
def c177:CF:=⟨26,(jo [jb 4 false] [0,1]
 (.seq (jo [jm 6 0,je 7 6,jm 8 1,je 9 8,jt .neq 10 7 9] [0,1,10]
 (.cond (.t 10) (jo [jb 4 false] [4]
 .ret)
 .skip))
 (.seq (jo [jm 11 0,je 12 11,jc 13 0] [0,1,12,13]
 (.block 0 (.loop (jo [jt .lss 14 13 12] [0,1,12,13,14]
 (.seq (.cond (.t 14) .skip
 (.exit 0))
 (.seq (.block 1 (jo [jm 15 13,jm 5 15] [0,1,5,12,13]
 (.seq (.draw [jm 16 0,jm 17 5,ji 18 3 16 17,jk 19 3 18,jm 20 1,jm 21 5,ji 22 3 20 21,jk 23 3 22,jw 24 (.eqs true [some .i64,some .i64,some .i64] (.t 19) (.t 23))] [] [0,1,12,13,24])
 (.cond (.t 24) (jo [jb 4 false] [4]
 .ret)
 .skip))))
 (.ops [ju .add 25 13 1,jm 13 25] [0,1,12,13])))))))
 (jo [jb 4 true] [4]
 .ret)))),[.t 4]⟩
theorem k177:chkF Tryz.prog Tryz.f177 c177=true:=by kernel_rfl
def c178:CF:=⟨26,(jo [jb 4 false] [0,1]
 (.seq (jo [jm 6 0,je 7 6,jm 8 1,je 9 8,jt .neq 10 7 9] [0,1,10]
 (.cond (.t 10) (jo [jb 4 false] [4]
 .ret)
 .skip))
 (.seq (jo [jm 11 0,je 12 11,jc 13 0] [0,1,12,13]
 (.block 0 (.loop (jo [jt .lss 14 13 12] [0,1,12,13,14]
 (.seq (.cond (.t 14) .skip
 (.exit 0))
 (.seq (.block 1 (jo [jm 15 13,jm 5 15] [0,1,5,12,13]
 (.seq (.draw [jm 16 0,jm 17 5,ji 18 1 16 17,jl 19 18,jm 20 1,jm 21 5,ji 22 1 20 21,jl 23 22,jt .neq 24 19 23] [] [0,1,12,13,24])
 (.cond (.t 24) (jo [jb 4 false] [4]
 .ret)
 .skip))))
 (.ops [ju .add 25 13 1,jm 13 25] [0,1,12,13])))))))
 (jo [jb 4 true] [4]
 .ret)))),[.t 4]⟩
theorem k178:chkF Tryz.prog Tryz.f178 c178=true:=by kernel_rfl
def c179:CF:=⟨26,(jo [jb 4 false] [0,1]
 (.seq (jo [jm 6 0,je 7 6,jm 8 1,je 9 8,jt .neq 10 7 9] [0,1,10]
 (.cond (.t 10) (jo [jb 4 false] [4]
 .ret)
 .skip))
 (.seq (jo [jm 11 0,je 12 11,jc 13 0] [0,1,12,13]
 (.block 0 (.loop (jo [jt .lss 14 13 12] [0,1,12,13,14]
 (.seq (.cond (.t 14) .skip
 (.exit 0))
 (.seq (.block 1 (jo [jm 15 13,jm 5 15] [0,1,5,12,13]
 (.seq (.draw [jm 16 0,jm 17 5,ji 18 2 16 17,jk 19 2 18,jm 20 1,jm 21 5,ji 22 2 20 21,jk 23 2 22,jw 24 (.eqs true [some .i64,some .i64] (.t 19) (.t 23))] [] [0,1,12,13,24])
 (.cond (.t 24) (jo [jb 4 false] [4]
 .ret)
 .skip))))
 (.ops [ju .add 25 13 1,jm 13 25] [0,1,12,13])))))))
 (jo [jb 4 true] [4]
 .ret)))),[.t 4]⟩
theorem k179:chkF Tryz.prog Tryz.f179 c179=true:=by kernel_rfl
def c180:CF:=⟨26,(jo [jb 4 false] [0,1]
 (.seq (jo [jm 6 0,je 7 6,jm 8 1,je 9 8,jt .neq 10 7 9] [0,1,10]
 (.cond (.t 10) (jo [jb 4 false] [4]
 .ret)
 .skip))
 (.seq (jo [jm 11 0,je 12 11,jc 13 0] [0,1,12,13]
 (.block 0 (.loop (jo [jt .lss 14 13 12] [0,1,12,13,14]
 (.seq (.cond (.t 14) .skip
 (.exit 0))
 (.seq (.block 1 (jo [jm 15 13,jm 5 15] [0,1,5,12,13]
 (.seq (.draw [jm 16 0,jm 17 5,ji 18 3 16 17,jk 19 3 18,jm 20 1,jm 21 5,ji 22 3 20 21,jk 23 3 22,jw 24 (.eqs true [some .i64,some .i64,some .i64] (.t 19) (.t 23))] [] [0,1,12,13,24])
 (.cond (.t 24) (jo [jb 4 false] [4]
 .ret)
 .skip))))
 (.ops [ju .add 25 13 1,jm 13 25] [0,1,12,13])))))))
 (jo [jb 4 true] [4]
 .ret)))),[.t 4]⟩
theorem k180:chkF Tryz.prog Tryz.f180 c180=true:=by kernel_rfl
theorem equalPt (a b:List Pt) (ha:a.length < 9223372036854775808) (hb:b.length < 9223372036854775808):Pure Tryz.prog 177 [ptS a,ptS b] (bl (decide (a=b))):=by
  refine pB_ Tryz.call177 Tryz.func177 k177 ?_
  unfold c177
  ((refine Au ?_;repeat' constructor)<;>intros<;>refine hD_ ?_)
  · rename_i h
    rw [decide_eq_false fun e=>by subst e; omega]; exact Frz.eq rfl (by simp)
  rename_i hne
  have hlen:a.length=b.length:=by omega
  refine AWPC.loopI 13 a.length (fun i=>a.take i=b.take i) (by simp) ?_ ?_
  · (simp only [zN,zT,zV,zS,zU,Q0,Q1,ex,Q2,Q3,Q4,Q5,Q6,Q7,Q8,Q9,QA,QB,QC,Nat.reduceBEq,reduceAdd,reduceSub,reduceLT,reduceLeDiff,reduceMul,reduceEqDiff,reduceIte]; try simp)
  · intro i hi hI
    by_cases hlt:i < a.length
    · have hx:(a.map Pt.cs).getD i []=Pt.cs (a.getD i ⟨0,0,0⟩):=row _ hlt
      have hy:(b.map Pt.cs).getD i []=Pt.cs (b.getD i ⟨0,0,0⟩):=row _ (by omega)
      have hk:a.getD i ⟨0,0,0⟩=b.getD i ⟨0,0,0⟩↔a.take (i+1)=b.take (i+1):=by
        rw [List.take_add_one,List.take_add_one,hI,getD_lt ⟨0,0,0⟩ hlt,getD_lt ⟨0,0,0⟩ (show i < b.length by omega)]; simp
      generalize a.getD i ⟨0,0,0⟩=x at hx hk
      generalize b.getD i ⟨0,0,0⟩=y at hy hk
      obtain ⟨x1,x2,x3⟩:=x
      obtain ⟨y1,y2,y3⟩:=y
      simp only [Pt.mk.injEq] at hk
      ((refine Ax (And.intro @hx @hy) ?_;repeat' constructor)<;>intros<;>refine hD_ ?_)
      all_goals try (exfalso;omega)
      · rename_i h
        rw [decide_eq_false fun e=>by
          have:=hk.2 (by rw [e])
          omega]
        exact Frz.eq rfl (by simp)
      · rename_i h
        exact ⟨⟨i+1,hlt,hk.1 (by omega)⟩,by simp,by simp only; omega⟩
    · obtain rfl:i=a.length:=by omega
      ((refine Au ?_;repeat' constructor)<;>intros<;>refine hD_ ?_)
      all_goals try (exfalso;omega)
      rw [List.take_length,hlen,List.take_length] at hI
      rw [decide_eq_true hI]
      exact Frz.eq rfl (by simp)
theorem equalSp (a b:List Sp) (ha:a.length < 9223372036854775808) (hb:b.length < 9223372036854775808):Pure Tryz.prog 179 [spnS a,spnS b] (bl (decide (a=b))):=by
  refine pB_ Tryz.call179 Tryz.func179 k179 ?_
  unfold c179
  ((refine Au ?_;repeat' constructor)<;>intros<;>refine hD_ ?_)
  · rename_i h
    rw [decide_eq_false fun e=>by subst e; omega]; exact Frz.eq rfl (by simp)
  rename_i hne
  have hlen:a.length=b.length:=by omega
  refine AWPC.loopI 13 a.length (fun i=>a.take i=b.take i) (by simp) ?_ ?_
  · (simp only [zN,zT,zV,zS,zU,Q0,Q1,ex,Q2,Q3,Q4,Q5,Q6,Q7,Q8,Q9,QA,QB,QC,Nat.reduceBEq,reduceAdd,reduceSub,reduceLT,reduceLeDiff,reduceMul,reduceEqDiff,reduceIte]; try simp)
  · intro i hi hI
    by_cases hlt:i < a.length
    · have hx:(a.map Sp.cs).getD i []=Sp.cs (a.getD i ⟨0,0⟩):=row _ hlt
      have hy:(b.map Sp.cs).getD i []=Sp.cs (b.getD i ⟨0,0⟩):=row _ (by omega)
      have hk:a.getD i ⟨0,0⟩=b.getD i ⟨0,0⟩↔a.take (i+1)=b.take (i+1):=by
        rw [List.take_add_one,List.take_add_one,hI,getD_lt ⟨0,0⟩ hlt,getD_lt ⟨0,0⟩ (show i < b.length by omega)]; simp
      generalize a.getD i ⟨0,0⟩=x at hx hk
      generalize b.getD i ⟨0,0⟩=y at hy hk
      obtain ⟨x1,x2⟩:=x
      obtain ⟨y1,y2⟩:=y
      simp only [Sp.mk.injEq] at hk
      ((refine Ax (And.intro @hx @hy) ?_;repeat' constructor)<;>intros<;>refine hD_ ?_)
      all_goals try (exfalso;omega)
      · rename_i h
        rw [decide_eq_false fun e=>by
          have:=hk.2 (by rw [e])
          omega]
        exact Frz.eq rfl (by simp)
      · rename_i h
        exact ⟨⟨i+1,hlt,hk.1 (by omega)⟩,by simp,by simp only; omega⟩
    · obtain rfl:i=a.length:=by omega
      ((refine Au ?_;repeat' constructor)<;>intros<;>refine hD_ ?_)
      all_goals try (exfalso;omega)
      rw [List.take_length,hlen,List.take_length] at hI
      rw [decide_eq_true hI]
      exact Frz.eq rfl (by simp)
theorem equalMk (a b:List Mk) (ha:a.length < 9223372036854775808) (hb:b.length < 9223372036854775808):Pure Tryz.prog 180 [mkS a,mkS b] (bl (decide (a=b))):=by
  refine pB_ Tryz.call180 Tryz.func180 k180 ?_
  unfold c180
  ((refine Au ?_;repeat' constructor)<;>intros<;>refine hD_ ?_)
  · rename_i h
    rw [decide_eq_false fun e=>by subst e; omega]; exact Frz.eq rfl (by simp)
  rename_i hne
  have hlen:a.length=b.length:=by omega
  refine AWPC.loopI 13 a.length (fun i=>a.take i=b.take i) (by simp) ?_ ?_
  · (simp only [zN,zT,zV,zS,zU,Q0,Q1,ex,Q2,Q3,Q4,Q5,Q6,Q7,Q8,Q9,QA,QB,QC,Nat.reduceBEq,reduceAdd,reduceSub,reduceLT,reduceLeDiff,reduceMul,reduceEqDiff,reduceIte]; try simp)
  · intro i hi hI
    by_cases hlt:i < a.length
    · have hx:(a.map Mk.cs).getD i []=Mk.cs (a.getD i ⟨0,⟨0,0⟩⟩):=row _ hlt
      have hy:(b.map Mk.cs).getD i []=Mk.cs (b.getD i ⟨0,⟨0,0⟩⟩):=row _ (by omega)
      have hk:a.getD i ⟨0,⟨0,0⟩⟩=b.getD i ⟨0,⟨0,0⟩⟩↔a.take (i+1)=b.take (i+1):=by
        rw [List.take_add_one,List.take_add_one,hI,getD_lt ⟨0,⟨0,0⟩⟩ hlt,getD_lt ⟨0,⟨0,0⟩⟩ (show i < b.length by omega)]; simp
      generalize a.getD i ⟨0,⟨0,0⟩⟩=x at hx hk
      generalize b.getD i ⟨0,⟨0,0⟩⟩=y at hy hk
      obtain ⟨x1,x2,x3⟩:=x
      obtain ⟨y1,y2,y3⟩:=y
      simp only [Mk.mk.injEq,Sp.mk.injEq] at hk
      ((refine Ax (And.intro @hx @hy) ?_;repeat' constructor)<;>intros<;>refine hD_ ?_)
      all_goals try (exfalso;omega)
      · rename_i h
        rw [decide_eq_false fun e=>by
          have:=hk.2 (by rw [e])
          omega]
        exact Frz.eq rfl (by simp)
      · rename_i h
        exact ⟨⟨i+1,hlt,hk.1 (by omega)⟩,by simp,by simp only; omega⟩
    · obtain rfl:i=a.length:=by omega
      ((refine Au ?_;repeat' constructor)<;>intros<;>refine hD_ ?_)
      all_goals try (exfalso;omega)
      rw [List.take_length,hlen,List.take_length] at hI
      rw [decide_eq_true hI]
      exact Frz.eq rfl (by simp)
theorem equalInt (a b:List Int) (ha:a.length < 9223372036854775808) (hb:b.length < 9223372036854775808):Pure Tryz.prog 178 [inS a,inS b] (bl (decide (a=b))):=by
  refine pB_ Tryz.call178 Tryz.func178 k178 ?_
  unfold c178
  ((refine Au ?_;repeat' constructor)<;>intros<;>refine hD_ ?_)
  · rename_i h
    rw [decide_eq_false fun e=>by subst e; omega]; exact Frz.eq rfl (by simp)
  rename_i hne
  have hlen:a.length=b.length:=by omega
  refine AWPC.loopI 13 a.length (fun i=>a.take i=b.take i) (by simp) ?_ ?_
  · (simp only [zN,zT,zV,zS,zU,Q0,Q1,ex,Q2,Q3,Q4,Q5,Q6,Q7,Q8,Q9,QA,QB,QC,Nat.reduceBEq,reduceAdd,reduceSub,reduceLT,reduceLeDiff,reduceMul,reduceEqDiff,reduceIte]; try simp)
  · intro i hi hI
    by_cases hlt:i < a.length
    · have hx:(a.map (fun z=>[n z])).getD i []=(fun z=>[n z]) (a.getD i 0):=row _ hlt
      have hy:(b.map (fun z=>[n z])).getD i []=(fun z=>[n z]) (b.getD i 0):=row _ (by omega)
      have hk:a.getD i 0=b.getD i 0↔a.take (i+1)=b.take (i+1):=by
        rw [List.take_add_one,List.take_add_one,hI,getD_lt 0 hlt,getD_lt 0 (show i < b.length by omega)]; simp
      generalize a.getD i 0=x at hx hk
      generalize b.getD i 0=y at hy hk
      ((refine Ax (And.intro @hx @hy) ?_;repeat' constructor)<;>intros<;>refine hD_ ?_)
      all_goals try (exfalso;omega)
      · rename_i h
        rw [decide_eq_false fun e=>by
          have:=hk.2 (by rw [e])
          omega]
        exact Frz.eq rfl (by simp)
      · rename_i h
        exact ⟨⟨i+1,hlt,hk.1 (by omega)⟩,by simp,by simp only; omega⟩
    · obtain rfl:i=a.length:=by omega
      ((refine Au ?_;repeat' constructor)<;>intros<;>refine hD_ ?_)
      all_goals try (exfalso;omega)
      rw [List.take_length,hlen,List.take_length] at hI
      rw [decide_eq_true hI]
      exact Frz.eq rfl (by simp)
def c89:CF:=⟨8,(jo [jx 1 68 38 0,jw 2 (.alloc 29 2 [.int .i64 0,.int .i64 0])] [1,2]
 (jo [jf 3 0 1,jl 4 3,jf 5 1 1,jl 6 5,jw 7 (.build [.int .i64 0,.int .i64 0] [(0,1,(.t 4)),(1,1,(.t 6))]),js 2 2 7] [2]
 .ret)),[.c 2 (some 2)]⟩
theorem k89:chkF Tryz.prog Tryz.f89 c89=true:=by kernel_rfl
def c170:CF:=⟨11,(jo [jx 1 29 2 0,jb 2 false] [1]
 (jo [jf 3 0 1,jl 4 3,jw 5 (.call (.f 96) [(.t 4),(.c (.int .i64 1)),(.c (.int .i64 8))]),jm 6 5,ja 6 (jf 7 1 1),ja 6 (jl 8 7),⟨some 9,.call (.f 96) [(.t 8),(.c (.int .i64 1)),(.c (.int .i64 400))],some (6,true)⟩,jp 10 6 9,jm 2 10] [2]
 .ret)),[.t 2]⟩
theorem k170:chkF Tryz.prog Tryz.f170 c170=true:=by kernel_rfl
def c286:CF:=⟨11,(jo [jx 1 62 3 0,jb 2 false] [1]
 (jo [jf 3 0 1,jl 4 3,jw 5 (.call (.f 96) [(.t 4),(.c (.int .i64 0)),(.c (.int .i64 199))]),jm 6 5,ja 6 (jf 7 1 1),ja 6 (jk 8 2 7),⟨some 9,.call (.f 287) [(.t 8),(.c (.int .i64 0)),(.c (.int .i64 400))],some (6,true)⟩,jp 10 6 9,jm 2 10] [2]
 .ret)),[.t 2]⟩
theorem k286:chkF Tryz.prog Tryz.f286 c286=true:=by kernel_rfl
def c115:CF:=⟨49,(jo [jx 2 60 18 0,jx 3 60 18 1,jb 4 false] [2,3]
 (jo [jf 5 0 2,jk 6 10 5,jf 7 0 3,jk 8 10 7,jw 9 (.eqs false [some .i64,some .i64,some .i64,some .i64,some .i64,some .i64,some .i64,some .i64,some .i64,some .i64] (.t 6) (.t 8)),jm 10 9,ja 10 (jf 11 10 2),ja 10 (jl 12 11),ja 10 (jf 13 10 3),ja 10 (jl 14 13),ja 10 (jy 15 177 [12,14]),jp 16 10 15,jm 17 16,ja 17 (jf 18 11 2),ja 17 (jl 19 18),ja 17 (jf 20 11 3),ja 17 (jl 21 20),ja 17 (jy 22 178 [19,21]),jp 23 17 22,jm 24 23,ja 24 (jf 25 12 2),ja 24 (jf 26 0 25),ja 24 (jl 27 26),ja 24 (jf 28 12 3),ja 24 (jf 29 0 28),ja 24 (jl 30 29),ja 24 (jy 31 179 [27,30]),jp 32 24 31,jm 33 32,ja 33 (jf 34 12 2),ja 33 (jf 35 1 34),ja 33 (jl 36 35),ja 33 (jf 37 12 3),ja 33 (jf 38 1 37),ja 33 (jl 39 38),ja 33 (jy 40 180 [36,39]),jp 41 33 40,jm 42 41,ja 42 (jf 43 14 2),ja 42 (jk 44 4 43),ja 42 (jf 45 14 3),ja 42 (jk 46 4 45),⟨some 47,.eqs false [some .i64,some .i64,some .i64,some .i64] (.t 44) (.t 46),some (42,true)⟩,jp 48 42 47,jm 4 48] [4]
 .ret)),[.t 4]⟩
theorem k115:chkF Tryz.prog Tryz.f115 c115=true:=by kernel_rfl
def c49:CF:=⟨80,(jo [jx 2 68 38 0,jx 3 68 38 1,jb 4 false] [2,3]
 (.seq (.draw [jk 5 38 2,jy 6 89 [5],jk 7 38 3,jy 8 89 [7],jw 9 (.eqs false [some .i64,some .i64] (.t 6) (.t 8)),jm 10 9,ja 10 (jf 11 2 2),ja 10 (jl 12 11),ja 10 (jf 13 2 3),ja 10 (jl 14 13),ja 10 (jt .eql 15 12 14),jp 16 10 15,jm 17 16,ja 17 (jf 18 3 2),ja 17 (jl 19 18),ja 17 (jf 20 3 3),ja 17 (jl 21 20),ja 17 (jt .eql 22 19 21),jp 23 17 22,jm 24 23,ja 24 (jf 25 4 2),ja 24 (jl 26 25),ja 24 (jf 27 4 3),ja 24 (jl 28 27),ja 24 (jt .eql 29 26 28),jp 30 24 29,jm 31 30,ja 31 (jf 32 5 2),ja 31 (jl 33 32),ja 31 (jf 34 5 3),ja 31 (jl 35 34),ja 31 (jt .eql 36 33 35),jp 37 31 36,jm 38 37,ja 38 (jf 39 6 2),ja 38 (jl 40 39),ja 38 (jf 41 6 3),ja 38 (jl 42 41),ja 38 (jt .eql 43 40 42),jp 44 38 43,jm 45 44,ja 45 (jf 46 25 2),ja 45 (jk 47 3 46),ja 45 (jf 48 25 3),ja 45 (jk 49 3 48),⟨some 50,.eqs false [some .i64,some .i64,some .i64] (.t 47) (.t 49),some (45,true)⟩,jp 51 45 50,jm 52 51,ja 52 (jf 53 28 2),ja 52 (jk 54 5 53),ja 52 (jf 55 28 3),ja 52 (jk 56 5 55),⟨some 57,.eqs false [some .i64,some .i64,some .i64,some .i64,some .i64] (.t 54) (.t 56),some (52,true)⟩,jp 58 52 57,jm 59 58,ja 59 (jf 60 33 2),ja 59 (jk 61 3 60),ja 59 (jf 62 33 3),ja 59 (jk 63 3 62),⟨some 64,.eqs false [some .i64,some .i64,some .i64] (.t 61) (.t 63),some (59,true)⟩,jp 65 59 64,jm 66 65,ja 66 (jf 67 36 2),ja 66 (jk 68 2 67),ja 66 (jf 69 36 3),ja 66 (jk 70 2 69),⟨some 71,.eqs false [some .i64,some .i64] (.t 68) (.t 70),some (66,true)⟩,jp 72 66 71,jm 73 72,ja 73 (jf 74 7 2),ja 73 (jk 75 18 74),ja 73 (jf 76 7 3),ja 73 (jk 77 18 76),ja 73 (jy 78 115 [75,77]),jp 79 73 78,jm 4 79] [] [4])
 .ret)),[.t 4]⟩
theorem k49:chkF Tryz.prog Tryz.f49 c49=true:=by kernel_rfl
def c168:CF:=⟨6,(jo [jb 2 false] [0]
 (jo [jm 3 0,jm 4 0,jt .neq 5 3 4,jm 2 5] [2]
 .ret)),[.t 2]⟩
theorem k168:chkF Tryz.prog Tryz.f168 c168=true:=by kernel_rfl
def c101:CF:=⟨20,(jo [jc 4 0] [0,1]
 (jo [jm 7 0,jy 8 168 [7],jm 5 8] [0,1,5]
 (jo [jm 9 1,jy 10 168 [9],jm 6 10] [0,1,5,6]
 (.seq (jo [jm 11 5] [0,1,6,11]
 (.cond (.t 11) (.seq (jo [jm 12 6] [12]
 (.cond (.t 12) (jo [jc 4 0] [4]
 .ret)
 .skip))
 (jo [jc 4 (-1)] [4]
 .ret))
 .skip))
 (.seq (jo [jm 13 6] [0,1,13]
 (.cond (.t 13) (jo [jc 4 1] [4]
 .ret)
 .skip))
 (.seq (jo [jm 14 0,jm 15 1,jt .lss 16 14 15] [0,1,16]
 (.cond (.t 16) (jo [jc 4 (-1)] [4]
 .ret)
 .skip))
 (.seq (jo [jm 17 0,jm 18 1,jt .gtr 19 17 18] [19]
 (.cond (.t 19) (jo [jc 4 1] [4]
 .ret)
 .skip))
 (jo [jc 4 0] [4]
 .ret)))))))),[.t 4]⟩
theorem k101:chkF Tryz.prog Tryz.f101 c101=true:=by kernel_rfl
def c171:CF:=⟨18,(jo [jc 2 0] [0]
 (jo [jc 3 0] [0,3]
 (.seq (jo [jm 6 0,je 7 6,jc 8 0] [3,6,7,8]
 (.block 0 (.loop (jo [jt .lss 9 8 7] [3,6,7,8,9]
 (.seq (.cond (.t 9) .skip
 (.exit 0))
 (.seq (.block 1 (jo [ji 10 1 6 8,jl 11 10,jm 5 11] [3,5,6,7,8]
 (jo [jm 12 5,jm 13 3,jt .neq 14 12 13] [3,5,6,7,8,14]
 (.cond (.t 14) (jo [jm 15 5,jm 2 15] [2]
 .ret)
 .skip))))
 (.ops [ju .add 16 8 1,jm 8 16] [3,6,7,8])))))))
 (jo [jm 17 3,jm 2 17] [2]
 .ret)))),[.t 2]⟩
theorem k171:chkF Tryz.prog Tryz.f171 c171=true:=by kernel_rfl
def c107:CF:=⟨17,(jo [jx 2 29 2 0,jx 3 29 2 1,jc 4 0] [2,3]
 (.seq (.draw [jf 5 0 2,jl 6 5,jf 7 0 3,jl 8 7,jy 9 101 [6,8],jf 10 1 2,jl 11 10,jf 12 1 3,jl 13 12,jy 14 101 [11,13],jw 15 (.bsl false 3 1 2 [.int .i64 0,.int .i64 0] [(0,1,(.t 9)),(1,1,(.t 14))]),jy 16 171 [15],jm 4 16] [] [4])
 .ret)),[.t 4]⟩
theorem k107:chkF Tryz.prog Tryz.f107 c107=true:=by kernel_rfl
def c114:CF:=⟨22,(jo [jx 2 68 38 0,jx 3 68 38 1,jc 4 0] [2,3]
 (.seq (.draw [jf 5 3 2,jl 6 5,jf 7 3 3,jl 8 7,jy 9 101 [6,8],jf 10 2 2,jl 11 10,jf 12 2 3,jl 13 12,jy 14 101 [11,13],jk 15 38 2,jy 16 89 [15],jk 17 38 3,jy 18 89 [17],jy 19 107 [16,18],jw 20 (.bsl false 3 1 3 [.int .i64 0,.int .i64 0,.int .i64 0] [(0,1,(.t 9)),(1,1,(.t 14)),(2,1,(.t 19))]),jy 21 171 [20],jm 4 21] [] [4])
 .ret)),[.t 4]⟩
theorem k114:chkF Tryz.prog Tryz.f114 c114=true:=by kernel_rfl
def shtSz (s:Sht):Prop:=s.trace.length < 9223372036854775808∧s.blots.length < 9223372036854775808∧s.rates.length < 9223372036854775808∧s.stops.length < 9223372036854775808
theorem Zw (a:Nt):Pure Tryz.prog 89 [.agg a.cs] (.agg [n a.clerk,n a.num]):=by
  refine pB_ Tryz.call89 Tryz.func89 k89 ?_
  unfold c89
  ((refine Au ?_;repeat' constructor)<;>intros<;>refine hD_ ?_)
  all_goals exact Frz.eq rfl (by simp)
theorem rightName_spec (m:Nm):Pure Tryz.prog 170 [.agg m.cs] (bl (decide m.ok)):=by
  refine pB_ Tryz.call170 Tryz.func170 k170 ?_
  unfold c170
  ((refine Ay (And.intro (within_a m.clerk 1 8) (within_a m.num 1 400)) ?_;repeat' constructor)<;>intros<;>refine hD_ ?_)
  all_goals exact Frz.eq (congrArg bl (by first | rfl | (unfold Nm.ok; first | rfl | (rw [Bool.eq_iff_iff]; simp <;> try omega)))) (by simp)
theorem rightMark_spec (m:Mk):Pure Tryz.prog 286 [.agg m.cs] (bl (decide m.ok)):=by
  refine pB_ Tryz.call286 Tryz.func286 k286 ?_
  unfold c286
  ((refine Ay (And.intro (within_a m.col 0 199) (span_a m.ticks 0 400)) ?_;repeat' constructor)<;>intros<;>refine hD_ ?_)
  all_goals exact Frz.eq (congrArg bl (by first | rfl | (unfold Mk.ok; first | rfl | (rw [Bool.eq_iff_iff]; simp <;> try omega)))) (by simp)
theorem sameSheet_spec (a b:Sht) (ha:shtSz a) (hb:shtSz b):Pure Tryz.prog 115 [.agg a.cs,.agg b.cs] (bl (decide (a=b))):=by
  refine pB_ Tryz.call115 Tryz.func115 k115 ?_
  unfold c115
  have h1:=equalPt a.trace b.trace ha.1 hb.1
  have h2:=equalInt a.blots b.blots ha.2.1 hb.2.1
  have h3:=equalSp a.rates b.rates ha.2.2.1 hb.2.2.1
  have h4:=equalMk a.stops b.stops ha.2.2.2 hb.2.2.2
  ((refine Ay (And.intro @h1 (And.intro @h2 (And.intro @h3 @h4))) ?_;repeat' constructor)<;>intros<;>refine hD_ ?_)
  all_goals refine Frz.eq (congrArg bl ?_) (by simp)
  obtain ⟨⟨a1,a2,a3,a4,a5,a6,⟨a7,a8⟩,⟨a9,a10⟩⟩,a11,a12,a13,a14,⟨a15,⟨a16,a17⟩,a18⟩⟩:=a
  obtain ⟨⟨b1,b2,b3,b4,b5,b6,⟨b7,b8⟩,⟨b9,b10⟩⟩,b11,b12,b13,b14,⟨b15,⟨b16,b17⟩,b18⟩⟩:=b
  simp only [Sht.mk.injEq,Ppr.mk.injEq,Pn.mk.injEq,Sp.mk.injEq,and_assoc]
theorem Same_spec (a b:Nt) (ha:shtSz a.sheet) (hb:shtSz b.sheet):Pure Tryz.prog 49 [.agg a.cs,.agg b.cs] (bl (decide (a=b))):=by
  refine pB_ Tryz.call49 Tryz.func49 k49 ?_
  unfold c49
  have h1:=sameSheet_spec a.sheet b.sheet ha hb
  have h2:=Zw a
  have h3:=Zw b
  ((refine Ay (And.intro @h2 (And.intro @h3 @h1)) ?_;repeat' constructor)<;>intros<;>refine hD_ ?_)
  refine Frz.eq (congrArg bl ?_) (by simp)
  clear h1 h2 h3
  obtain ⟨a1,a2,a3,a4,a5,a6,a7,a8,⟨a9,⟨a10,a11⟩⟩,⟨a12,a13,a14,⟨a15,a16⟩⟩,⟨a17,⟨a18,a19⟩⟩,⟨a20,a21⟩⟩:=a
  obtain ⟨b1,b2,b3,b4,b5,b6,b7,b8,⟨b9,⟨b10,b11⟩⟩,⟨b12,b13,b14,⟨b15,b16⟩⟩,⟨b17,⟨b18,b19⟩⟩,⟨b20,b21⟩⟩:=b
  simp only [Nt.mk.injEq,Mk.mk.injEq,Rd.mk.injEq,Hgt.mk.injEq,Nm.mk.injEq,Sp.mk.injEq,and_assoc]
  rw [decide_eq_decide]
  constructor <;> (intro h; simp_all)
theorem Compare_spec (x y:Int):Pure Tryz.prog 101 [n x,n y] (n (sgn x y)):=by
  have h0:∀ z,Pure Tryz.prog 168 [n z] (bl false):=fun z=>by
    refine pB_ Tryz.call168 Tryz.func168 k168 ?_
    unfold c168
    ((refine Au ?_;repeat' constructor)<;>intros<;>refine hD_ ?_)
    all_goals exact Frz.eq (congrArg bl (by simp)) (by simp)
  refine pB_ Tryz.call101 Tryz.func101 k101 ?_
  unfold c101
  ((refine Ay (And.intro (h0 x) (h0 y)) ?_;repeat' constructor)<;>intros<;>refine hD_ ?_)
  all_goals try (exfalso;omega)
  all_goals first
    | (refine Frz.eq (congrArg n ?_) (by simp); unfold sgn; repeat' split
       all_goals first | rfl | omega)
def orL:List Int→Int
  | []=>0
  | x::r=>if x=0 then orL r else x
theorem Or_spec (l:List Int) (hl:l.length < 9223372036854775808):Pure Tryz.prog 171 [inS l] (n (orL l)):=by
  refine pB_ Tryz.call171 Tryz.func171 k171 ?_
  unfold c171
  ((refine Au ?_;repeat' constructor)<;>intros<;>refine hD_ ?_)
  refine AWPC.loopI 8 l.length (fun i=>orL (l.drop i)=orL l) (by simp) ?_ ?_
  · (simp only [zN,zT,zV,zS,zU,Q0,Q1,ex,Q2,Q3,Q4,Q5,Q6,Q7,Q8,Q9,QA,QB,QC,Nat.reduceBEq,reduceAdd,reduceSub,reduceLT,reduceLeDiff,reduceMul,reduceEqDiff,reduceIte]; try simp)
  · intro i hi hI
    by_cases hlt:i < l.length
    · have hx:(l.map fun z=>[n z]).getD i []=[n (l.getD i 0)]:=row (f:=fun z=>[n z]) 0 hlt
      rw [drop_cons (getD_lt 0 hlt),orL] at hI
      generalize l.getD i 0=x at hx hI
      ((refine Ax @hx ?_;repeat' constructor)<;>intros<;>refine hD_ ?_)
      all_goals try (exfalso;omega)
      · rename_i h
        rw [if_neg h] at hI
        rw [← hI]; exact Frz.eq rfl (by simp)
      · rename_i h
        rw [if_pos h] at hI
        exact ⟨⟨i+1,hlt,hI⟩,by simp,by simp only; omega⟩
    · obtain rfl:i=l.length:=by omega
      rw [List.drop_length] at hI
      ((refine Au ?_;repeat' constructor)<;>intros<;>refine hD_ ?_)
      all_goals try (exfalso;omega)
      rw [← hI]; exact Frz.eq rfl (by simp)
theorem compareNames_spec (a b:Nm):Pure Tryz.prog 107 [.agg a.cs,.agg b.cs] (n (cmpN a b)):=by
  refine pB_ Tryz.call107 Tryz.func107 k107 ?_
  unfold c107
  have h1:=Compare_spec a.clerk b.clerk
  have h2:=Compare_spec a.num b.num
  have h3:=Or_spec [sgn a.clerk b.clerk,sgn a.num b.num] (by simp)
  ((refine Ay (And.intro @h1 (And.intro @h2 @h3)) ?_;repeat' constructor)<;>intros<;>refine hD_ ?_)
  refine Frz.eq (congrArg n ?_) (by simp)
  unfold cmpN orI orL
  by_cases h:sgn a.clerk b.clerk=0 <;> simp [h,orL]
  by_cases h':sgn a.num b.num=0 <;> simp [h']
def c230:CF:=⟨9,(jo [jx 2 109 4 0,jc 4 0] [1,2]
 (jo [jf 5 0 2,jl 6 5,jm 7 1,jy 8 101 [6,7],jm 4 8] [4]
 .ret)),[.t 4]⟩
theorem k230:chkF Tryz.prog Tryz.f230 c230=true:=by kernel_rfl
def c247:CF:=⟨10,(jo [jx 3 109 4 0,jb 4 false] [1,2,3]
 (jo [jl 5 1,jk 6 4 3,jl 7 2,jw 8 (.call (.t 5) [(.t 6),(.t 7)]),ju .eql 9 8 0,jm 4 9] [4]
 .ret)),[.t 4]⟩
theorem k247:chkF Tryz.prog Tryz.f247 c247=true:=by kernel_rfl
def c229:CF:=⟨12,(jo [jx 4 3 1 1,jx 5 282 1 2,jc 6 0] [0,4,5]
 (jo [jm 8 0,jw 9 (.mkfn (.func 247) [] [(.t 5),(.t 4)]),jy 10 246 [8,9],jm 7 10] [7]
 (jo [jm 11 7,jm 6 11] [6]
 .ret))),[.t 6]⟩
theorem k229:chkF Tryz.prog Tryz.f229 c229=true:=by kernel_rfl
def c192:CF:=⟨23,(jo [jc 4 0,jc 5 0] [0,1]
 (.seq (jo [jm 10 0,jy 11 55 [10],jm 9 11,jz 12 0 9,jz 13 1 9,jm 6 12,jm 7 13] [0,1,6]
 (jo [jm 14 6,ju .neq 15 14 0] [0,1,6,15]
 (.cond (.t 15) (jo [jm 16 6,jc 4 0,jm 5 16] [4,5]
 .ret)
 .skip)))
 (jo [jm 17 0,jm 18 1,jw 19 (.call (.f 229) [(.t 17),(.t 18),(.f 230)]),jm 8 19] [8]
 (.seq (jo [jm 20 8,ju .lss 21 20 0] [8,21]
 (.cond (.t 21) (jo [jc 4 0,jc 5 50] [4,5]
 .ret)
 .skip))
 (jo [jm 22 8,jm 4 22,jc 5 0] [4,5]
 .ret))))),[.t 4,.t 5]⟩
theorem k192:chkF Tryz.prog Tryz.f192 c192=true:=by kernel_rfl
def c276:CF:=⟨22,(jo [jx 3 26 6 0,jb 6 false] [1,2,3]
 (jo [jf 10 0 3,jl 11 10,jm 12 1,jy 13 192 [11,12],jm 9 13,jz 14 0 9,jz 15 1 9,jm 7 14,jm 8 15] [2,8]
 (jo [jm 16 8,ju .eql 17 16 0,jm 18 17,ja 18 (jm 19 2),⟨some 20,.call (.f 96) [(.t 19),(.c (.int .i64 0)),(.c (.int .i64 10000))],some (18,true)⟩,jp 21 18 20,jm 6 21] [6]
 .ret))),[.t 6]⟩
theorem k276:chkF Tryz.prog Tryz.f276 c276=true:=by kernel_rfl
def c289:CF:=⟨23,(jo [jx 2 26 6 0,jx 3 64 5 1,jb 4 false] [2,3]
 (jo [jk 5 6 2,jf 6 0 3,jl 7 6,jf 8 1 3,jl 9 8,jy 10 276 [5,7,9],jm 11 10,ja 11 (jf 12 2 3),ja 11 (jl 13 12),ja 11 (jf 14 4 2),ja 11 (jl 15 14),⟨some 16,.call (.f 96) [(.t 13),(.c (.int .i64 0)),(.t 15)],some (11,true)⟩,jp 17 11 16,jm 18 17,ja 18 (jf 19 3 3),ja 18 (jk 20 2 19),⟨some 21,.call (.f 287) [(.t 20),(.c (.int .i64 0)),(.c (.int .i64 12000))],some (18,true)⟩,jp 22 18 21,jm 4 22] [4]
 .ret)),[.t 4]⟩
theorem k289:chkF Tryz.prog Tryz.f289 c289=true:=by kernel_rfl
def c43:CF:=⟨39,(jo [jx 1 26 6 0,jc 2 0] [1]
 (jo [jf 6 0 1,jl 7 6,jy 8 55 [7],jm 5 8,jz 9 0 5,jz 10 1 5,jm 3 9,jm 4 10] [1,3]
 (.seq (jo [jm 11 3,ju .neq 12 11 0,jm 13 12,jd 13 (jf 14 1 1),jd 13 (jk 15 2 14),jd 13 (jy 16 110 [15]),jd 13 (ju .neq 17 16 0),jq 18 13 17,jm 19 18,jd 19 (jf 20 4 1),jd 19 (jl 21 20),⟨some 22,.call (.f 96) [(.t 21),(.c (.int .i64 1)),(.c (.int .i64 400))],some (19,false)⟩,jd 19 (jv 23 22),jq 24 19 23,jm 25 24,jd 25 (jf 26 3 1),jd 25 (jl 27 26),jd 25 (jf 28 4 1),jd 25 (jl 29 28),⟨some 30,.call (.f 96) [(.t 27),(.c (.int .i64 0)),(.t 29)],some (25,false)⟩,jd 25 (jv 31 30),jq 32 25 31,jm 33 32,jd 33 (jf 34 5 1),jd 33 (jl 35 34),⟨some 36,.call (.f 96) [(.t 35),(.c (.int .i64 1)),(.c (.int .i64 8))],some (33,false)⟩,jd 33 (jv 37 36),jq 38 33 37] [38]
 (.cond (.t 38) (jo [jc 2 100] [2]
 .ret)
 .skip))
 (jo [jc 2 0] [2]
 .ret)))),[.t 2]⟩
theorem k43:chkF Tryz.prog Tryz.f43 c43=true:=by kernel_rfl
def c278:CF:=⟨72,(jo [jx 1 60 18 0,jb 2 false] [1]
 (jo [jf 8 10 1,jl 9 8,jy 10 279 [9],jm 7 10,jz 11 0 7,jz 12 1 7,jm 3 11,jm 4 12] [1,3]
 (.seq (jo [jm 13 3,ju .neq 14 13 0,jm 15 14,jd 15 (jf 16 0 1),jd 15 (jk 17 10 16),jd 15 (jy 18 280 [17]),jd 15 (ju .neq 19 18 0),jq 20 15 19,jm 21 20,jd 21 (jf 22 12 1),jd 21 (jk 23 2 22),jd 21 (jy 24 118 [23]),jd 21 (ju .neq 25 24 0),jq 26 21 25,jm 27 26,jd 27 (jf 28 14 1),jd 27 (jk 29 4 28),jd 27 (jy 30 281 [29]),jd 27 (ju .neq 31 30 0),jq 32 27 31] [1,32]
 (.cond (.t 32) (jo [jb 2 false] [2]
 .ret)
 .skip))
 (.seq (jo [jf 33 11 1,jl 34 33,je 35 34,jc 36 0] [1,34,35,36]
 (.block 0 (.loop (jo [jt .lss 37 36 35] [1,34,35,36,37]
 (.seq (.cond (.t 37) .skip
 (.exit 0))
 (.seq (.block 1 (jo [jm 38 36,ji 39 1 34 36,jl 40 39,jm 5 38,jm 6 40] [1,5,6,34,35,36]
 (jo [jm 41 6,jf 42 0 1,jf 43 5 42,jl 44 43,ju .sub 45 44 1,jw 46 (.call (.f 96) [(.t 41),(.c (.int .i64 0)),(.t 45)]),jv 47 46,jm 48 47,jd 48 (jm 49 5),jd 48 (ju .gtr 50 49 0),jd 48 (jm 51 50),ja 51 (jm 52 6),ja 51 (jf 53 11 1),ja 51 (jl 54 53),ja 51 (jm 55 5),ja 51 (ju .sub 56 55 1),ja 51 (ji 57 1 54 56),ja 51 (jl 58 57),ja 51 (jt .leq 59 52 58),jd 48 (jp 60 51 59),jq 61 48 60] [1,34,35,36,61]
 (.cond (.t 61) (jo [jb 2 false] [2]
 .ret)
 .skip))))
 (.ops [ju .add 62 36 1,jm 36 62] [1,34,35,36])))))))
 (jo [jf 63 12 1,jf 64 0 63,jl 65 64,je 66 65,ju .add 67 66 1,jf 68 0 1,jf 69 5 68,jl 70 69,jt .eql 71 67 70,jm 2 71] [2]
 .ret))))),[.t 2]⟩
theorem k278:chkF Tryz.prog Tryz.f278 c278=true:=by kernel_rfl
theorem sgn0 {a b:Int}:sgn a b=0↔a=b:=by unfold sgn; repeat' split <;> omega
theorem stnCmp_spec (s:Stn) (id:Int):Pure Tryz.prog 230 [.agg s.cs,n id] (n (sgn s.id id)):=by
  refine pB_ Tryz.call230 Tryz.func230 k230 ?_
  unfold c230
  ((refine Ay (Compare_spec s.id id) ?_;repeat' constructor)<;>intros<;>refine hD_ ?_)
  all_goals exact Frz.eq rfl (by simp)
theorem soughtC_spec (s:Stn) (id:Int):Pure Tryz.prog 247 [.agg s.cs,.iptr [.fn (.func 230) [] []] 0,.iptr [n id] 0] (bl (s.id == id)):=by
  refine pB_ Tryz.call247 Tryz.func247 k247 ?_
  unfold c247
  ((refine Ay (stnCmp_spec s id) ?_;repeat' constructor)<;>intros<;>refine hD_ ?_)
  refine Frz.eq (congrArg bl ?_) (by simp)
  rw [Bool.eq_iff_iff]; simp [sgn0]
theorem sought_spec (l:List Stn) (hl:l.length < 9223372036854775808) (id:Int):Pure Tryz.prog 229 [snS l,n id,.fn (.func 230) [] []] (n (fidx (fun s=>s.id == id) 0 l)):=by
  refine pB_ Tryz.call229 Tryz.func229 k229 ?_
  unfold c229
  (repeat' ((first
 | refine vn rfl ?_
 | simp (disch:=omega) only [wr64,Int.zero_sub]
 | refine bo (fun _=>?_) fun _=>?_
 | refine im fun _=>?_
 | ((repeat refine si ?_); (first | ((first | refine .inl ⟨_,_,_,_,rfl,fun _=>pu (indexStn 247 [.iptr [.fn (.func 230) [] []] 0,.iptr [n id] 0] (by simp) (fun s=>s.id == id) l hl (fun s _=>soughtC_spec s id)),?_⟩ | refine ⟨_,_,_,_,rfl,fun _=>pu (indexStn 247 [.iptr [.fn (.func 230) [] []] 0,.iptr [n id] 0] (by simp) (fun s=>s.id == id) l hl (fun s _=>soughtC_spec s id)),?_⟩); (first | refine o1 ?_ | refine o2 ?_ | refine o3 ?_ | refine o4 ?_)) | refine .inl ⟨_,_,_,_,rfl,pu (indexStn 247 [.iptr [.fn (.func 230) [] []] 0,.iptr [n id] 0] (by simp) (fun s=>s.id == id) l hl (fun s _=>soughtC_spec s id)),?_⟩))
 | refine cF ?_
 | refine om ?_
 | refine an ?_
 | fail) <;> try simp only [zN,zT,zV,zS,zU,Q0,Q1,ex,Q2,Q3,Q4,Q5,Q6,Q7,Q8,Q9,QA,QB,QC,Nat.reduceBEq,reduceAdd,reduceSub,reduceLT,reduceLeDiff,reduceMul,reduceEqDiff,reduceIte]))
  all_goals exact Frz.eq rfl (by simp)
theorem StationOf_spec (l:List Stn) (hl:stnSz l) (id:Int):Pure Tryz.prog 192 [snS l,n id] (.tup [n (stnOf l id).1,n (stnOf l id).2]):=by
  refine pB_ Tryz.call192 Tryz.func192 k192 ?_
  unfold c192
  have h1:=CheckStn_spec l hl
  have h2:=sought_spec l hl.1 id
  have hE:stnOf l id=if (stnsE l).1≠0 then (0,(stnsE l).1) else match l.findIdx? fun s=>s.id == id with
    | some i=>(i,0)
    | none=>(0,50):=rfl
  cases hf:l.findIdx? fun s=>s.id == id with
  | none =>
    have h3:=fidx_none.2 hf
    rw [hf] at hE
    generalize fidx (fun s:Stn=>s.id == id) 0 l=z at h2 h3
    ((refine Ay (And.intro @h1 @h2) ?_;repeat' constructor)<;>intros<;>refine hD_ ?_)
    all_goals try (exfalso;omega)
    · rename_i h; rw [hE,if_pos h]; exact Frz.eq rfl (by simp)
    · rename_i h _; rw [hE,if_neg (by simpa using h)]; exact Frz.eq rfl (by simp)
  | some j =>
    rw [fidx_some hf] at h2
    rw [hf] at hE
    ((refine Ay (And.intro @h1 @h2) ?_;repeat' constructor)<;>intros<;>refine hD_ ?_)
    all_goals try (exfalso;omega)
    · rename_i h; rw [hE,if_pos h]; exact Frz.eq rfl (by simp)
    · rename_i h _; rw [hE,if_neg (by simpa using h)]; exact Frz.eq rfl (by simp)
def bseSz (b:Bse):Prop:=stnSz b.stns
theorem placed_spec (b:Bse) (hb:bseSz b) (s w:Int):Pure Tryz.prog 276 [.agg b.cs,n s,n w] (bl (decide (placed b s w))):=by
  refine pB_ Tryz.call276 Tryz.func276 k276 ?_
  unfold c276
  ((refine Ay (And.intro (StationOf_spec b.stns hb s) (within_a w 0 10000)) ?_;repeat' constructor)<;>intros<;>refine hD_ ?_)
  all_goals exact Frz.eq (congrArg bl (by unfold placed; first | rfl | (rw [Bool.eq_iff_iff]; simp <;> try omega))) (by simp)
theorem rightRead_spec (b:Bse) (hb:bseSz b) (r:Rd):Pure Tryz.prog 289 [.agg b.cs,.agg r.cs] (bl (decide (r.ok b))):=by
  refine pB_ Tryz.call289 Tryz.func289 k289 ?_
  unfold c289
  have h1:=placed_spec b hb r.stn r.week
  have hd:r.ok b↔placed b r.stn r.week∧inr r.tick 0 b.ticks∧spIn r.levels 0 12000:=Iff.rfl
  by_cases hp:placed b r.stn r.week
  · rw [decide_eq_true hp] at h1
    ((refine Ay (And.intro @h1 (And.intro (within_a r.tick 0 b.ticks) (span_a r.levels 0 12000))) ?_;repeat' constructor)<;>intros<;>refine hD_ ?_)
    all_goals refine Frz.eq (congrArg bl ?_) (by simp)
    all_goals (rw [Bool.eq_iff_iff]; simp [hd,hp])
  · rw [decide_eq_false hp] at h1
    ((refine Ay (And.intro @h1 (And.intro (within_a r.tick 0 b.ticks) (span_a r.levels 0 12000))) ?_;repeat' constructor)<;>intros<;>refine hD_ ?_)
    all_goals refine Frz.eq (congrArg bl ?_) (by simp)
    all_goals (rw [Bool.eq_iff_iff]; simp [hd,hp])
theorem CheckBase_spec (b:Bse) (hb:bseSz b):Pure Tryz.prog 43 [.agg b.cs] (n (if b.ok then 0 else 100)):=by
  refine pB_ Tryz.call43 Tryz.func43 k43 ?_
  unfold c43
  have h1:=CheckWind_spec b.fixed b.each
  ((refine Ay (And.intro (CheckStn_spec b.stns hb) (And.intro @h1 (And.intro (within_a b.ticks 1 400) (And.intro (within_a b.term 0 b.ticks) (within_a b.clerks 1 8))))) ?_;repeat' constructor)<;>intros<;>refine hD_ ?_)
  all_goals try (exfalso;omega)
  · rename_i h
    rw [if_neg (fun g=>?_)]
    · exact Frz.eq rfl (by simp)
    · obtain ⟨g1,g2,g3,g4,g5,g6⟩:=g
      rw [if_pos ⟨g2,g3⟩] at h; omega
  · rename_i h
    have hw:inr b.fixed 0 12000∧inr b.each 0 10000:=Decidable.byContradiction fun hn=>by rw [if_neg hn] at h; omega
    rw [if_pos (by unfold Bse.ok; omega)]; exact Frz.eq rfl (by simp)
theorem rightSheet_spec (s:Sht) (hs:shtSz s):Pure Tryz.prog 278 [.agg s.cs] (bl (decide s.ok)):=by
  refine pB_ Tryz.call278 Tryz.func278 k278 ?_
  unfold c278
  have h1:=CheckTrace_spec s.trace hs.1
  have h2:=CheckPaper_spec s.paper
  have h3:=CheckDrum_spec s.rates s.stops hs.2.2.1 hs.2.2.2
  have h4:=CheckPen_spec s.pen
  have hb:=hs.2.1
  have hr:=hs.2.2.1
  have hd:s.ok↔(traceE s.trace).1=0∧s.paper.ok∧drumOk s.rates s.stops∧s.pen.ok∧blotsOk s.paper.cols s.blots∧(s.rates.length:Int)+1=s.paper.cols:=Iff.rfl
  by_cases hall:(traceE s.trace).1=0∧s.paper.ok∧drumOk s.rates s.stops∧s.pen.ok
  · obtain ⟨g1,g2,g3,g4⟩:=hall
    rw [g1] at h1; rw [if_pos g2] at h2; rw [if_pos g3] at h3; rw [if_pos g4] at h4
    have hd2:s.ok↔blotsOk s.paper.cols s.blots∧(s.rates.length:Int)+1=s.paper.cols:=by rw [hd]; exact ⟨fun h=>h.2.2.2.2,fun h=>⟨g1,g2,g3,g4,h⟩⟩
    have hc:1≤s.paper.cols∧s.paper.cols≤200:=by unfold Ppr.ok at g2; omega
    have hr9:s.rates.length≤199:=by unfold drumOk at g3; omega
    ((refine Ay (And.intro @h1 (And.intro @h2 (And.intro @h3 @h4))) ?_;repeat' constructor)<;>intros<;>refine hD_ ?_)
    all_goals try (exfalso;omega)
    refine AWPC.loopI 36 s.blots.length (fun i=>∀ j,j < i→inr (s.blots.getD j 0) 0 (s.paper.cols - 1)∧(0 < j→s.blots.getD (j - 1) 0 < s.blots.getD j 0)) (by simp) ?_ ?_
    · (simp only [zN,zT,zV,zS,zU,Q0,Q1,ex,Q2,Q3,Q4,Q5,Q6,Q7,Q8,Q9,QA,QB,QC,Nat.reduceBEq,reduceAdd,reduceSub,reduceLT,reduceLeDiff,reduceMul,reduceEqDiff,reduceIte]; try simp)
    · intro i hi hI
      by_cases hlt:i < s.blots.length
      · have hx:(s.blots.map fun z=>[n z]).getD i []=[n (s.blots.getD i 0)]:=row (f:=fun z=>[n z]) 0 hlt
        have hp:(s.blots.map fun z=>[n z]).getD ((i:Int) - 1).toNat []=[n (s.blots.getD (i - 1) 0)]:=rowPrev (f:=fun z=>[n z]) 0 hlt
        generalize hg:s.blots.getD i 0=x at hx
        generalize hg':s.blots.getD (i - 1) 0=y at hp
        ((refine Az (And.intro @hx @hp) (within_a x 0 (s.paper.cols - 1)) ?_;repeat' constructor)<;>intros<;>refine hD_ ?_)
        all_goals try (exfalso;omega)
        · rename_i h
          rw [decide_eq_false fun g=>?_]
          · exact Frz.eq rfl (by simp)
          · have:=(hd2.1 g).1 i hlt
            rw [hg,hg'] at this
            omega
        · rename_i h
          exact ⟨⟨i+1,hlt,all_next hI (by rw [hg,hg']; omega)⟩,by simp,by simp only; omega⟩
      · obtain rfl:i=s.blots.length:=by omega
        ((refine Au ?_;repeat' constructor)<;>intros<;>refine hD_ ?_)
        all_goals try (exfalso;omega)
        refine Frz.eq (congrArg bl ?_) (by simp)
        rw [Bool.eq_iff_iff]; simp only [decide_eq_true_eq]
        rw [hd2]
        exact ⟨fun h=>⟨hI,h⟩,fun h=>h.2⟩
  · rw [decide_eq_false fun g=>hall (by rw [hd] at g; exact ⟨g.1,g.2.1,g.2.2.1,g.2.2.2.1⟩)]
    have hw:¬ ((traceE s.trace).1=0∧(if s.paper.ok then (0:Int) else 10)=0∧(if drumOk s.rates s.stops then (0:Int) else 20)=0∧(if s.pen.ok then (0:Int) else 30)=0):=by
      intro ⟨g1,g2,g3,g4⟩
      refine hall ⟨g1,?_,?_,?_⟩
      · exact Decidable.byContradiction fun hn=>by rw [if_neg hn] at g2; omega
      · exact Decidable.byContradiction fun hn=>by rw [if_neg hn] at g3; omega
      · exact Decidable.byContradiction fun hn=>by rw [if_neg hn] at g4; omega
    generalize (if s.paper.ok then (0:Int) else 10)=x2 at h2 hw
    generalize (if drumOk s.rates s.stops then (0:Int) else 20)=x3 at h3 hw
    generalize (if s.pen.ok then (0:Int) else 30)=x4 at h4 hw
    ((refine Ay (And.intro @h1 (And.intro @h2 (And.intro @h3 @h4))) ?_;repeat' constructor)<;>intros<;>refine hD_ ?_)
    all_goals first | (exfalso; omega) | exact Frz.eq rfl (by simp)
end Go.Proofs.YtolgelipcgcbhaaGreat
namespace Go.Proofs.YtolgelipcgcbhaaGreat
open Go.Abs
open Nat (reduceAdd reduceSub reduceLT reduceLeDiff reduceMul reduceEqDiff)
set_option linter.unusedVariables false
set_option linter.unusedSimpArgs false
set_option maxHeartbeats 4000000
set_option maxRecDepth 100000
def c275:CF:=⟨23,(jo [jx 2 197 3 0,jx 3 26 6 1,jb 4 false] [2,3]
 (jo [jk 5 6 3,jf 6 1 2,jl 7 6,jf 8 2 2,jl 9 8,jy 10 276 [5,7,9],jm 11 10,ja 11 (jf 12 0 2),ja 11 (jl 13 12),⟨some 14,.nilf true false (.t 13) (.c (.pointer none)),some (11,true)⟩,ja 11 (jm 15 14),jd 15 (jf 16 0 2),jd 15 (jl 17 16),⟨some 18,.nilc (.t 17),some (15,false)⟩,jd 15 (jk 19 2 18),jd 15 (jy 20 170 [19]),ja 11 (jq 21 15 20),jp 22 11 21,jm 4 22] [4]
 .ret)),[.t 4]⟩
theorem k275:chkF Tryz.prog Tryz.f275 c275=true:=by kernel_rfl
def c277:CF:=⟨14,(jo [jx 2 263 21 0,jx 3 26 6 1,jb 4 false] [2,3]
 (jo [jf 5 0 2,jk 6 3 5,jk 7 6 3,jy 8 275 [6,7],jm 9 8,ja 9 (jf 10 3 2),ja 9 (jk 11 18 10),ja 9 (jy 12 278 [11]),jp 13 9 12,jm 4 13] [4]
 .ret)),[.t 4]⟩
theorem k277:chkF Tryz.prog Tryz.f277 c277=true:=by kernel_rfl
def c285:CF:=⟨13,(jo [jx 2 265 5 0,jx 3 26 6 1,jb 4 false] [2]
 (jo [jf 5 0 2,jk 6 2 5,jy 7 170 [6],jm 8 7,ja 8 (jf 9 2 2),ja 8 (jk 10 3 9),ja 8 (jy 11 286 [10]),jp 12 8 11,jm 4 12] [4]
 .ret)),[.t 4]⟩
theorem k285:chkF Tryz.prog Tryz.f285 c285=true:=by kernel_rfl
def c288:CF:=⟨21,(jo [jx 2 267 6 0,jx 3 26 6 1,jb 4 false] [2,3]
 (jo [jf 5 0 2,jl 6 5,jw 7 (.nilf true false (.t 6) (.c (.pointer none))),jm 8 7,jd 8 (jf 9 0 2),jd 8 (jl 10 9),⟨some 11,.nilc (.t 10),some (8,false)⟩,jd 8 (jk 12 2 11),jd 8 (jy 13 170 [12]),jq 14 8 13,jm 15 14,ja 15 (jk 16 6 3),ja 15 (jf 17 1 2),ja 15 (jk 18 5 17),ja 15 (jy 19 289 [16,18]),jp 20 15 19,jm 4 20] [4]
 .ret)),[.t 4]⟩
theorem k288:chkF Tryz.prog Tryz.f288 c288=true:=by kernel_rfl
def c290:CF:=⟨18,(jo [jx 2 269 4 0,jx 3 26 6 1,jb 4 false] [2,3]
 (jo [jk 5 6 3,jf 6 0 2,jl 7 6,jf 8 1 2,jf 9 0 8,jl 10 9,jy 11 276 [5,7,10],jm 12 11,ja 12 (jf 13 1 2),ja 12 (jf 14 1 13),ja 12 (jk 15 2 14),⟨some 16,.call (.f 287) [(.t 15),(.c (.int .i64 0)),(.c (.int .i64 4000))],some (12,true)⟩,jp 17 12 16,jm 4 17] [4]
 .ret)),[.t 4]⟩
theorem k290:chkF Tryz.prog Tryz.f290 c290=true:=by kernel_rfl
def c291:CF:=⟨8,(jo [jx 2 271 2 0,jx 3 26 6 1,jb 4 false] [2]
 (jo [jf 5 0 2,jk 6 2 5,jy 7 170 [6],jm 4 7] [4]
 .ret)),[.t 4]⟩
theorem k291:chkF Tryz.prog Tryz.f291 c291=true:=by kernel_rfl
def ntSz (a:Nt):Prop:=shtSz a.sheet
def saysC (a:Nt):AV :=
  if a.kind=1 then .ifc 263 (.agg (.v (.pointer none)::n a.stn::n a.week::a.sheet.cs))
  else if a.kind=2 then .ifc 265 (.agg [n a.ref.clerk,n a.ref.num,n a.mark.col,n a.mark.ticks.lo,n a.mark.ticks.hi])
  else if a.kind=3 then .ifc 267 (.agg (.v (.pointer none)::a.read.cs))
  else if a.kind=4 then .ifc 269 (.agg (n a.stn::a.height.cs))
  else if a.kind=5 then .ifc 197 (.agg [.iptr a.cs 36,n a.stn,n a.week])
  else if a.kind=6 then (if a.read.stn≠0 then .ifc 267 (.agg (.iptr a.cs 36::a.read.cs)) else .ifc 265 (.agg [n a.ref.clerk,n a.ref.num,n a.mark.col,n a.mark.ticks.lo,n a.mark.ticks.hi]))
  else if a.kind=7 then .ifc 271 (.agg [n a.ref.clerk,n a.ref.num])
  else .v .nilIface
theorem fileRight0 (b:Bse) (hb:bseSz b) (s w:Int):Pure Tryz.prog 275 [.agg [.v (.pointer none),n s,n w],.agg b.cs] (bl (decide (placed b s w))):=by
  refine pB_ Tryz.call275 Tryz.func275 k275 ?_
  unfold c275
  have h1:=placed_spec b hb s w
  generalize decide (placed b s w)=x at h1
  cases x
  all_goals ((refine Ay @h1 ?_;repeat' constructor)<;>intros<;>refine hD_ ?_)
  all_goals exact Frz.eq rfl (by simp)
theorem fileRight1 (b:Bse) (hb:bseSz b) (a:Nt) (s w:Int):Pure Tryz.prog 275 [.agg [.iptr a.cs 36,n s,n w],.agg b.cs] (bl (decide (placed b s w∧a.ref.ok))):=by
  refine pB_ Tryz.call275 Tryz.func275 k275 ?_
  unfold c275
  have h1:=placed_spec b hb s w
  have h2:=rightName_spec a.ref
  rw [Bool.decide_and]
  generalize decide (placed b s w)=x at h1
  generalize decide a.ref.ok=y at h2
  cases x
  all_goals ((refine Ay (And.intro @h1 @h2) ?_;repeat' constructor)<;>intros<;>refine hD_ ?_)
  all_goals exact Frz.eq (by simp) (by simp)
theorem sheetRight (b:Bse) (hb:bseSz b) (s w:Int) (t:Sht) (ht:shtSz t):Pure Tryz.prog 277 [.agg (.v (.pointer none)::n s::n w::t.cs),.agg b.cs] (bl (decide (placed b s w∧t.ok))):=by
  refine pB_ Tryz.call277 Tryz.func277 k277 ?_
  unfold c277
  have h1:=fileRight0 b hb s w
  have h2:=rightSheet_spec t ht
  rw [Bool.decide_and]
  generalize decide (placed b s w)=x at h1
  generalize decide t.ok=y at h2
  cases x
  all_goals ((refine Ay (And.intro @h1 @h2) ?_;repeat' constructor)<;>intros<;>refine hD_ ?_)
  all_goals exact Frz.eq (by simp) (by simp)
theorem markRight (b:Bse) (r:Nm) (m:Mk):Pure Tryz.prog 285 [.agg [n r.clerk,n r.num,n m.col,n m.ticks.lo,n m.ticks.hi],.agg b.cs] (bl (decide (r.ok∧m.ok))):=by
  refine pB_ Tryz.call285 Tryz.func285 k285 ?_
  unfold c285
  have h1:=rightName_spec r
  have h2:=rightMark_spec m
  rw [Bool.decide_and]
  generalize decide r.ok=x at h1
  generalize decide m.ok=y at h2
  cases x
  all_goals ((refine Ay (And.intro @h1 @h2) ?_;repeat' constructor)<;>intros<;>refine hD_ ?_)
  all_goals exact Frz.eq (by simp) (by simp)
theorem readRight0 (b:Bse) (hb:bseSz b) (r:Rd):Pure Tryz.prog 288 [.agg (.v (.pointer none)::r.cs),.agg b.cs] (bl (decide (r.ok b))):=by
  refine pB_ Tryz.call288 Tryz.func288 k288 ?_
  unfold c288
  ((refine Ay (rightRead_spec b hb r) ?_;repeat' constructor)<;>intros<;>refine hD_ ?_)
  all_goals exact Frz.eq (by simp) (by simp)
theorem readRight1 (b:Bse) (hb:bseSz b) (a:Nt) (r:Rd):Pure Tryz.prog 288 [.agg (.iptr a.cs 36::r.cs),.agg b.cs] (bl (decide (a.ref.ok∧r.ok b))):=by
  refine pB_ Tryz.call288 Tryz.func288 k288 ?_
  unfold c288
  have h1:=rightName_spec a.ref
  have h2:=rightRead_spec b hb r
  rw [Bool.decide_and]
  generalize decide a.ref.ok=x at h1
  generalize decide (r.ok b)=y at h2
  cases x
  all_goals ((refine Ay (And.intro @h1 @h2) ?_;repeat' constructor)<;>intros<;>refine hD_ ?_)
  all_goals exact Frz.eq (by simp) (by simp)
theorem heightRight (b:Bse) (hb:bseSz b) (s:Int) (h:Hgt):Pure Tryz.prog 290 [.agg (n s::h.cs),.agg b.cs] (bl (decide (placed b s h.week∧spIn h.metres 0 4000))):=by
  refine pB_ Tryz.call290 Tryz.func290 k290 ?_
  unfold c290
  have h1:=placed_spec b hb s h.week
  have h2:=span_a h.metres 0 4000
  rw [Bool.decide_and]
  generalize decide (placed b s h.week)=x at h1
  generalize decide (spIn h.metres 0 4000)=y at h2
  cases x
  all_goals ((refine Ay (And.intro @h1 @h2) ?_;repeat' constructor)<;>intros<;>refine hD_ ?_)
  all_goals exact Frz.eq (by simp) (by simp)
theorem withdrawRight (b:Bse) (r:Nm):Pure Tryz.prog 291 [.agg [n r.clerk,n r.num],.agg b.cs] (bl (decide r.ok)):=by
  refine pB_ Tryz.call291 Tryz.func291 k291 ?_
  unfold c291
  ((refine Ay (rightName_spec r) ?_;repeat' constructor)<;>intros<;>refine hD_ ?_)
  all_goals exact Frz.eq (by simp) (by simp)
end Go.Proofs.YtolgelipcgcbhaaGreat
namespace Go.Proofs.YtolgelipcgcbhaaGreat
open Go.Abs
open Nat (reduceAdd reduceSub reduceLT reduceLeDiff reduceMul reduceEqDiff)
open Go.Abs renaming vcC→Q0,lateX→Q1,strp→Q2,binA→Q3,elems→Q4,cells→Q5,scalar→Q6,eqC→Q7,keyA→Q8,intsA→Q9,lookA→QA,ofVs→QB,mpOf→QC
set_option linter.unusedVariables false
set_option linter.unusedSimpArgs false
set_option maxHeartbeats 4000000
set_option maxRecDepth 100000
def c169:CF:=⟨137,(jo [jx 1 68 38 0,jw 2 (.mv (.c (.nilIface))),jw 3 (.alloc 68 38 z38)] [1,3]
 (jo [jf 5 0 1,jl 6 5,jf 7 1 1,jl 8 7,jf 9 2 1,jl 10 9,jf 11 3 1,jl 12 11,jf 13 4 1,jl 14 13,jw 15 (.build z38 [(0,1,(.t 6)),(1,1,(.t 8)),(2,1,(.t 10)),(3,1,(.t 12)),(4,1,(.t 14))]),jw 4 (.alloc 68 38 z38),js 38 4 15] [1,3,4]
 (.seq (jo [jf 16 4 1,jl 17 16] [1,3,4,17]
 (.block 0 (jo [ju .eql 19 17 1,jm 18 19] [1,3,4,17,18]
 (.cond (.t 18) (.seq (.draww [0,1,2,3,4,5,6,7,8,9,10,11] [2,3,4,5] 3 [jf 20 5 1,jl 21 20,jf 22 6 1,jl 23 22,jf 24 7 1,jk 25 18 24,jf 26 5 4] [js 1 26 21,jf 27 6 4,js 1 27 23,jf 28 7 4,js 18 28 25] [1,3,4])
 (.seq (.draw [jf 29 5 1,jl 30 29,jf 31 6 1,jl 32 31,jw 33 (.build [.pointer none,.int .i64 0,.int .i64 0] [(0,1,(.c (.pointer none))),(1,1,(.t 30)),(2,1,(.t 32))]),jf 34 7 1,jk 35 18 34,jw 36 (.build [.pointer none,.int .i64 0,.int .i64 0,.int .i64 0,.int .i64 0,.int .i64 0,.int .i64 0,.int .i64 0,.int .i64 0,.int .i64 0,.int .i64 0,.int .i64 0,.int .i64 0,.slice none 0 0,.slice none 0 0,.slice none 0 0,.slice none 0 0,.int .i64 0,.int .i64 0,.int .i64 0,.int .i64 0] [(0,3,(.t 33)),(3,18,(.t 35))]),jw 37 (.ifc 263 (.t 36)),jk 38 38 4,jm 2 37] [js 38 3 38] [2,3])
 .ret))
 (jo [ju .eql 40 17 2,jm 39 40] [1,3,4,17,39]
 (.cond (.t 39) (.seq (.draww [0,1,2,3,4,5,6,7] [2,3] 1 [jf 41 36 1,jk 42 2 41,jf 43 25 1,jk 44 3 43,jf 45 36 4] [js 2 45 42,jf 46 25 4,js 3 46 44] [1,3,4])
 (.seq (.draw [jf 47 36 1,jk 48 2 47,jf 49 25 1,jk 50 3 49,jw 51 (.build [.int .i64 0,.int .i64 0,.int .i64 0,.int .i64 0,.int .i64 0] [(0,2,(.t 48)),(2,3,(.t 50))]),jw 52 (.ifc 265 (.t 51)),jk 53 38 4,jm 2 52] [js 38 3 53] [2,3])
 .ret))
 (jo [ju .eql 55 17 3,jm 54 55] [1,3,4,17,54]
 (.cond (.t 54) (jo [jf 56 28 1,jk 57 5 56,jf 58 28 4,js 5 58 57] [1,3,4]
 (.seq (.draw [jf 59 28 1,jk 60 5 59,jw 61 (.build [.pointer none,.int .i64 0,.int .i64 0,.int .i64 0,.int .i64 0,.int .i64 0] [(0,1,(.c (.pointer none))),(1,5,(.t 60))]),jw 62 (.ifc 267 (.t 61)),jk 63 38 4,jm 2 62] [js 38 3 63] [2,3])
 .ret))
 (jo [ju .eql 65 17 4,jm 64 65] [1,3,4,17,64]
 (.cond (.t 64) (.seq (.draww [0,1,2,3,4,5,6,7] [2,3] 1 [jf 66 5 1,jl 67 66,jf 68 33 1,jk 69 3 68,jf 70 5 4] [js 1 70 67,jf 71 33 4,js 3 71 69] [1,3,4])
 (.seq (.draw [jf 72 5 1,jl 73 72,jf 74 33 1,jk 75 3 74,jw 76 (.build [.int .i64 0,.int .i64 0,.int .i64 0,.int .i64 0] [(0,1,(.t 73)),(1,3,(.t 75))]),jw 77 (.ifc 269 (.t 76)),jk 78 38 4,jm 2 77] [js 38 3 78] [2,3])
 .ret))
 (jo [ju .eql 80 17 5,jm 79 80] [1,3,4,17,79]
 (.cond (.t 79) (.seq (.draww [0,1,2,3,4,5,6,7,8,9,10,11] [2,3,4,5] 3 [jf 81 36 1,jk 82 2 81,jf 83 5 1,jl 84 83,jf 85 6 1,jl 86 85,jf 87 36 4] [js 2 87 82,jf 88 5 4,js 1 88 84,jf 89 6 4,js 1 89 86] [1,3,4])
 (.seq (.draw [jf 90 36 1,jf 91 5 1,jl 92 91,jf 93 6 1,jl 94 93,jw 95 (.build [.pointer none,.int .i64 0,.int .i64 0] [(0,1,(.t 90)),(1,1,(.t 92)),(2,1,(.t 94))]),jw 96 (.ifc 197 (.t 95)),jk 97 38 4,jm 2 96] [js 38 3 97] [2,3])
 .ret))
 (jo [ju .eql 99 17 6,jm 98 99] [1,3,4,17,98]
 (.cond (.t 98) (jo [jf 100 36 1,jk 101 2 100,jf 102 36 4,js 2 102 101] [1,3,4]
 (.seq (jo [jf 103 28 1,jf 104 0 103,jl 105 104,ju .neq 106 105 0] [1,3,4,106]
 (.cond (.t 106) (jo [jf 107 28 1,jk 108 5 107,jf 109 28 4,js 5 109 108] [1,3,4]
 (.seq (.draw [jf 110 36 1,jf 111 28 1,jk 112 5 111,jw 113 (.build [.pointer none,.int .i64 0,.int .i64 0,.int .i64 0,.int .i64 0,.int .i64 0] [(0,1,(.t 110)),(1,5,(.t 112))]),jw 114 (.ifc 267 (.t 113)),jk 115 38 4,jm 2 114] [js 38 3 115] [2,3])
 .ret))
 .skip))
 (jo [jf 116 25 1,jk 117 3 116,jf 118 25 4,js 3 118 117] [1,3,4]
 (.seq (.draw [jf 119 36 1,jk 120 2 119,jf 121 25 1,jk 122 3 121,jw 123 (.build [.int .i64 0,.int .i64 0,.int .i64 0,.int .i64 0,.int .i64 0] [(0,2,(.t 120)),(2,3,(.t 122))]),jw 124 (.ifc 265 (.t 123)),jk 125 38 4,jm 2 124] [js 38 3 125] [2,3])
 .ret))))
 (jo [ju .eql 127 17 7,jm 126 127] [1,3,4,126]
 (.cond (.t 126) (jo [jf 128 36 1,jk 129 2 128,jf 130 36 4,js 2 130 129] [1,3,4]
 (.seq (.draw [jf 131 36 1,jk 132 2 131,jw 133 (.build [.int .i64 0,.int .i64 0] [(0,2,(.t 132))]),jw 134 (.ifc 271 (.t 133)),jk 135 38 4,jm 2 134] [js 38 3 135] [2,3])
 .ret))
 .skip))))))))))))))))
 (.seq (.draw [jk 136 38 4,jw 2 (.mv (.c (.nilIface)))] [js 38 3 136] [2,3])
 .ret)))),[.t 2,.c 3 (some 38)]⟩
theorem k169:chkF Tryz.prog Tryz.f169 c169=true:=by kernel_rfl
def c106:CF:=⟨39,(jo [jx 2 26 6 0,jx 3 68 38 1,jb 4 false] [2,3]
 (jo [jk 8 38 3,jy 9 169 [8],jm 7 9,jz 10 0 7,jz 11 1 7,jw 6 (.alloc 68 38 z38),jm 5 10,js 38 6 11] [2,3,5,6]
 (jo [jm 12 5,jw 13 (.nilf false true (.t 12) (.c (.nilIface))),jm 14 13,ja 14 (jk 15 38 3),ja 14 (jk 16 38 6),ja 14 (jy 17 49 [15,16]),jp 18 14 17,jm 19 18,ja 19 (jk 20 38 3),ja 19 (jy 21 89 [20]),ja 19 (jy 22 170 [21]),jp 23 19 22,jm 24 23,ja 24 (jf 25 2 3),ja 24 (jl 26 25),⟨some 27,.call (.f 96) [(.t 26),(.c (.int .i64 1)),(.c (.int .i64 1099511627776))],some (24,true)⟩,jp 28 24 27,jm 29 28,ja 29 (jf 30 3 3),ja 29 (jl 31 30),⟨some 32,.call (.f 96) [(.t 31),(.c (.int .i64 0)),(.c (.int .i64 10000))],some (29,true)⟩,jp 33 29 32,jm 34 33,ja 34 (jm 35 5),ja 34 (jk 36 6 2),⟨some 37,.inv "aneroid/archive.right" (.t 35) [(.t 36)],some (34,true)⟩,jp 38 34 37,jm 4 38] [4]
 .ret))),[.t 4]⟩
theorem k106:chkF Tryz.prog Tryz.f106 c106=true:=by kernel_rfl
theorem says_spec (a:Nt):Pure Tryz.prog 169 [.agg a.cs] (.tup [saysC a,.agg a.bare.cs]):=by
  refine pB_ Tryz.call169 Tryz.func169 k169 ?_
  unfold c169
  (repeat' ((first
 | refine vn rfl ?_
 | simp (disch:=omega) only [wr64,Int.zero_sub]
 | refine bo (fun _=>?_) fun _=>?_
 | refine im fun _=>?_
 | refine cF ?_
 | refine om ?_
 | refine an ?_
 | fail) <;> try simp only [zN,zT,zV,zS,zU,Q0,Q1,ex,Q2,Q3,Q4,Q5,Q6,Q7,Q8,Q9,QA,QB,QC,Nat.reduceBEq,reduceAdd,reduceSub,reduceLT,reduceLeDiff,reduceMul,reduceEqDiff,reduceIte,z38,Sht.cs]))
  all_goals try (exfalso;omega)
  all_goals unfold saysC Nt.bare
  all_goals simp only [*,if_true,if_false,ne_eq,not_true_eq_false,not_false_eq_true,reduceCtorEq,Int.reduceEq]
  all_goals refine Frz.tupL ⟨?_,Frz.aggL ?_,trivial⟩
  all_goals first
    | (refine Frz.eq rfl ?_; simp; done)
    | (refine Frz.eq rfl (PureV.ifc (PureV.agg ?_)); simp; done)
    | (simp only [Nt.cs,Nt.head,nt0,sht0,mk0,rd0,hgt0,nm0,FL]
       repeat' apply And.intro
       all_goals first | trivial | exact Frz.nil0 | exact Frz.eq rfl (by simp) | exact Frz.eq (by simp [*]) (by simp))
    | fail
theorem right_spec (b:Bse) (hb:bseSz b) (a:Nt) (ha:ntSz a):(∃ T x f,saysC a=.ifc T x∧methOf Tryz.prog T "aneroid/archive.right" = some f∧Pure Tryz.prog f [x,.agg b.cs] (bl (decide (a.says b)))∧PureV x)∨(saysC a=.v .nilIface∧¬ a.says b):=by
  unfold saysC Nt.says
  by_cases h1:a.kind=1
  · refine .inl ⟨_,_,277,if_pos h1,by kernel_rfl,?_,PureV.agg (by simp [Sht.cs])⟩
    simp only [if_pos h1]
    exact sheetRight b hb a.stn a.week a.sheet ha
  by_cases h2:a.kind=2
  · simp only [if_neg h1,if_pos h2]
    exact .inl ⟨_,_,285,rfl,by kernel_rfl,markRight b a.ref a.mark,by simp⟩
  by_cases h3:a.kind=3
  · simp only [if_neg h1,if_neg h2,if_pos h3]
    exact .inl ⟨_,_,288,rfl,by kernel_rfl,readRight0 b hb a.read,by simp⟩
  by_cases h4:a.kind=4
  · simp only [if_neg h1,if_neg h2,if_neg h3,if_pos h4]
    exact .inl ⟨_,_,290,rfl,by kernel_rfl,heightRight b hb a.stn a.height,by simp⟩
  by_cases h5:a.kind=5
  · simp only [if_neg h1,if_neg h2,if_neg h3,if_neg h4,if_pos h5]
    exact .inl ⟨_,_,275,rfl,by kernel_rfl,fileRight1 b hb a a.stn a.week,by simp⟩
  by_cases h6:a.kind=6
  · simp only [if_neg h1,if_neg h2,if_neg h3,if_neg h4,if_neg h5,if_pos h6]
    by_cases h0:a.read.stn≠0
    · simp only [if_pos h0]
      exact .inl ⟨_,_,288,rfl,by kernel_rfl,readRight1 b hb a a.read,by simp⟩
    · simp only [if_neg h0]
      exact .inl ⟨_,_,285,rfl,by kernel_rfl,markRight b a.ref a.mark,by simp⟩
  by_cases h7:a.kind=7
  · simp only [if_neg h1,if_neg h2,if_neg h3,if_neg h4,if_neg h5,if_neg h6,if_pos h7]
    exact .inl ⟨_,_,291,rfl,by kernel_rfl,withdrawRight b a.ref,by simp⟩
  · simp only [if_neg h1,if_neg h2,if_neg h3,if_neg h4,if_neg h5,if_neg h6,if_neg h7]
    exact .inr ⟨by trivial,fun h=>h⟩
theorem bareSz {a:Nt} (h:ntSz a):ntSz a.bare:=by
  have h0:ntSz a.head:=(show shtSz sht0 from ⟨by decide,by decide,by decide,by decide⟩)
  unfold Nt.bare
  repeat' split
  all_goals first | exact h | exact h0
theorem formed_spec (b:Bse) (hb:bseSz b) (a:Nt) (ha:ntSz a):Pure Tryz.prog 106 [.agg b.cs,.agg a.cs] (bl (decide (a.ok b))):=by
  refine pB_ Tryz.call106 Tryz.func106 k106 ?_
  unfold c106
  have h1:=says_spec a
  have h2:=Same_spec a a.bare ha (bareSz ha)
  have h3:=Zw a
  have h4:=rightName_spec a.nm
  have hd:decide (a.ok b)=(decide (a=a.bare) && (decide a.nm.ok && (decide (inr a.clock 1 1099511627776) && (decide (inr a.day 0 10000) && decide (a.says b))))):=by
    rw [Bool.eq_iff_iff]; simp only [Bool.and_eq_true,decide_eq_true_eq]; exact Iff.rfl
  rw [hd]
  generalize decide (a=a.bare)=x1 at h2
  generalize decide a.nm.ok=x2 at h4
  rcases right_spec b hb a ha with ⟨T,x,f,e1,e2,e3,e4⟩ | ⟨e1,e2⟩
  · rw [e1] at h1
    generalize decide (a.says b)=x3 at e3
    ((refine Az @e2 (And.intro @h1 (And.intro @h2 (And.intro @h3 (And.intro @h4 (And.intro (within_a a.clock 1 1099511627776) (And.intro (within_a a.day 0 10000) @e3)))))) ?_;repeat' constructor)<;>intros<;>refine hD_ ?_)
    all_goals refine Frz.eq (congrArg bl ?_) (by simp)
    all_goals simp [Bool.and_assoc]
  · rw [e1] at h1
    rw [decide_eq_false e2]
    ((refine Ay (And.intro @h1 (And.intro @h2 (And.intro @h3 (And.intro @h4 (And.intro (within_a a.clock 1 1099511627776) (within_a a.day 0 10000)))))) ?_;repeat' constructor)<;>intros<;>refine hD_ ?_)
    all_goals refine Frz.eq (congrArg bl ?_) (by simp)
    all_goals simp [Bool.and_assoc]
end Go.Proofs.YtolgelipcgcbhaaGreat
namespace Go.Abs
set_option linter.unusedVariables false
set_option linter.unusedSimpArgs false
theorem Frz.mp {σ:Sto} {f n:Nat} {o:Ob} {m m':List (List Int × AV)} (ho:σ.at f 0=some o) (hm:mpOf o n=some m) (hl:m.length=m'.length)
    (hk:∀ i,i < m.length→(m'.getD i ([],.any)).1=(m.getD i ([],.any)).1) (hv:∀ i,i < m.length→Frz σ (m.getD i ([],.any)).2 (m'.getD i ([],.any)).2):Frz σ (.mp f) (.imap n m'):=fun w X β x hs hx=>by
  obtain ⟨b,es,cl,hβ,rfl,_,hb,hr⟩:=mp_block hs ho hm hx
  obtain ⟨h1,h2,h3⟩:=of_mprel hr
  have hd:∀ i,es.getD i ⟨undef,undef,0⟩=es.toList.getD i ⟨undef,undef,0⟩:=fun i=>by simp [Array.getD_eq_getD_getElem?,List.getD_eq_getElem?_getD]
  refine .imap n m' b es cl hb (fun hX=>hs.dis f 0 o b ho hβ hX) (by rw [← hl,← h1]; simp) (fun i hi=>?_) fun i hi=>?_
  · rw [hd,hk i (by omega)]; exact h2 i (by omega)
  · rw [hd]; exact hv i (by omega) w X β _ hs (h3 i (by omega))
end Go.Abs
namespace Go.Proofs.YtolgelipcgcbhaaGreat
open Go.Abs
open Nat (reduceAdd reduceSub reduceLT reduceLeDiff reduceMul reduceEqDiff)
open Go.Abs renaming vcC→Q0,lateX→Q1,strp→Q2,binA→Q3,elems→Q4,cells→Q5,scalar→Q6,eqC→Q7,keyA→Q8,intsA→Q9,lookA→QA,ofVs→QB,mpOf→QC
set_option linter.unusedVariables false
set_option linter.unusedSimpArgs false
set_option maxHeartbeats 4000000
set_option maxRecDepth 100000
def c41:CF:=⟨50,(jo [jx 2 26 6 0,jc 4 0,jc 5 0] [1,2]
 (.seq (jo [jk 10 6 2,jy 11 43 [10],jm 6 11] [1,2,6]
 (jo [jm 12 6,ju .neq 13 12 0] [1,2,6,13]
 (.cond (.t 13) (jo [jm 14 6,jm 4 14,jc 5 0] [4,5]
 .ret)
 .skip)))
 (.seq (jo [jm 15 1,je 16 15,ju .gtr 17 16 400] [1,2,17]
 (.cond (.t 17) (jo [jc 4 2,jc 5 0] [4,5]
 .ret)
 .skip))
 (.seq (jo [jm 18 1,je 19 18,jc 20 0] [1,2,18,19,20]
 (.block 0 (.loop (jo [jt .lss 21 20 19] [1,2,18,19,20,21]
 (.seq (.cond (.t 21) .skip
 (.exit 0))
 (.seq (.block 1 (jo [jm 22 20,ji 23 38 18 20,jk 24 38 23,jw 8 (.alloc 68 38 z38),jm 7 22,js 38 8 24] [1,2,7,8,18,19,20]
 (.seq (jo [jk 25 6 2,jk 26 38 8,jy 27 106 [25,26],jv 28 27] [1,2,7,8,18,19,20,28]
 (.cond (.t 28) (jo [jm 29 7,jc 4 60,jm 5 29] [4,5]
 .ret)
 .skip))
 (.seq (jo [jm 30 7,ju .eql 31 30 0] [1,2,7,8,18,19,20,31]
 (.cond (.t 31) (.exit 1)
 .skip))
 (.seq (.draw [jm 32 1,jm 33 7,ju .sub 34 33 1,ji 35 38 32 34,jk 36 38 35,jy 37 89 [36],jk 38 38 8,jy 39 89 [38],jy 40 107 [37,39],jm 9 40] [] [1,2,7,9,18,19,20])
 (.block 2 (jo [jm 42 9,ju .eql 43 42 0,jm 41 43] [1,2,7,9,18,19,20,41]
 (.cond (.t 41) (jo [jm 44 7,jc 4 61,jm 5 44] [4,5]
 .ret)
 (jo [jm 46 9,ju .gtr 47 46 0,jm 45 47] [1,2,7,18,19,20,45]
 (.cond (.t 45) (jo [jm 48 7,jc 4 1,jm 5 48] [4,5]
 .ret)
 .skip))))))))))
 (.ops [ju .add 49 20 1,jm 20 49] [1,2,18,19,20])))))))
 (jo [jc 4 0,jc 5 0] [4,5]
 .ret))))),[.t 4,.t 5]⟩
theorem k41:chkF Tryz.prog Tryz.f41 c41=true:=by kernel_rfl
def c80:CF:=⟨30,(jo [jx 2 26 6 0,jc 4 0] [1,2]
 (.seq (jo [jk 10 6 2,jy 11 43 [10],jm 5 11] [1,2,5]
 (jo [jm 12 5,ju .neq 13 12 0] [1,2,5,13]
 (.cond (.t 13) (jo [jm 14 5,jm 4 14] [4]
 .ret)
 .skip)))
 (.seq (jo [jm 15 1,je 16 15,jc 17 0] [2,15,16,17]
 (.block 0 (.loop (jo [jt .lss 18 17 16] [2,15,16,17,18]
 (.seq (.cond (.t 18) .skip
 (.exit 0))
 (.seq (.block 1 (jo [ji 19 1 15 17,jl 20 19,jm 7 20] [2,7,15,16,17]
 (jo [jk 22 6 2,jm 23 7,jy 24 41 [22,23],jm 21 24,jz 25 0 21,jz 26 1 21,jm 8 25,jm 9 26] [2,8,15,16,17]
 (jo [jm 27 8,ju .neq 28 27 0] [2,15,16,17,28]
 (.cond (.t 28) (jo [jc 4 1] [4]
 .ret)
 .skip)))))
 (.ops [ju .add 29 17 1,jm 17 29] [2,15,16,17])))))))
 (jo [jc 4 0] [4]
 .ret)))),[.t 4]⟩
theorem k80:chkF Tryz.prog Tryz.f80 c80=true:=by kernel_rfl
def c87:CF:=⟨19,(jo [jw 2 (.mv (.c (.map none)))] [0]
 (jo [jw 6 (.mkmp 2),jm 3 6] [0,3]
 (.seq (jo [jm 7 0,je 8 7,jc 9 0] [3,7,8,9]
 (.block 0 (.loop (jo [jt .lss 10 9 8] [3,7,8,9,10]
 (.seq (.cond (.t 10) .skip
 (.exit 0))
 (.seq (.block 1 (jo [ji 11 38 7 9,jk 12 38 11,jw 5 (.alloc 68 38 z38),js 38 5 12] [3,5,7,8,9]
 (.draw [jm 13 3,jk 14 38 5,jy 15 89 [14],jk 16 38 5] [⟨none,.mput 2 (.t 13) (.t 15) (.t 16),none⟩] [3,7,8,9])))
 (.ops [ju .add 17 9 1,jm 9 17] [3,7,8,9])))))))
 (jo [jm 18 3,jm 2 18] [2]
 .ret)))),[.t 2]⟩
theorem k87:chkF Tryz.prog Tryz.f87 c87=true:=by kernel_rfl
def setSz (l:List Nt):Prop:=l.length < 9223372036854775808∧∀ a∈l,ntSz a
theorem CheckSet_spec (b:Bse) (hb:bseSz b) (l:List Nt) (hl:setSz l):Pure Tryz.prog 41 [.agg b.cs,ntS l] (.tup [n (setE b l).1,n (setE b l).2]):=by
  refine pB_ Tryz.call41 Tryz.func41 k41 ?_
  unfold c41
  have h1:=CheckBase_spec b hb
  have hl0:=hl.1
  by_cases g:b.ok
  · rw [if_pos g] at h1
    by_cases hlen:400 < l.length
    · have e:setE b l=(2,0):=by unfold setE; rw [if_neg (fun h=>h g),if_pos hlen]
      rw [e]
      ((refine Ay @h1 ?_;repeat' constructor)<;>intros<;>refine hD_ ?_)
      all_goals first | (exfalso; omega) | exact Frz.eq rfl (by simp)
    have e:setE b l=firstE (ntE b l) l.length:=by unfold setE; rw [if_neg (fun h=>h g),if_neg hlen]
    ((refine Ay @h1 ?_;repeat' constructor)<;>intros<;>refine hD_ ?_)
    all_goals try (exfalso;omega)
    refine AWPC.loopE (α:={ x:Nat × Sto // x.1≤l.length∧∀ j,j < x.1→ntE b l j=0 }) [20] (fun x=>[(20,n x.1.1)]) (fun x=>x.1.2) (fun x=>l.length - x.1.1) ⟨(0,[]),by simp,by simp⟩ ?_ rfl ?_
    · (simp only [zN,zT,zV,zS,zU,Q0,Q1,ex,Q2,Q3,Q4,Q5,Q6,Q7,Q8,Q9,QA,QB,QC,Nat.reduceBEq,reduceAdd,reduceSub,reduceLT,reduceLeDiff,reduceMul,reduceEqDiff,reduceIte]; try simp)
    · rintro ⟨⟨i,τ⟩,hi,hI⟩
      simp only at hi hI
      by_cases hlt:i < l.length
      · have hs:(l.map Nt.cs).getD i []=Nt.cs (l.getD i default):=row default hlt
        have hp:=rowPrev (f:=Nt.cs) default hlt
        have h2:=formed_spec b hb (l.getD i default) (hl.2 _ (List.mem_of_getElem? (getD_lt default hlt)))
        have hE:ntE b l i=if ¬ (l.getD i default).ok b then 60 else if i=0 then 0 else if cmpN (l.getD (i - 1) default).nm (l.getD i default).nm=0 then 61 else if 0 < cmpN (l.getD (i - 1) default).nm (l.getD i default).nm then 1 else 0:=rfl
        have hbad:ntE b l i≠0→setE b l=(ntE b l i,i):=fun h=>by rw [e,firstE_at hlt hI h]
        generalize l.getD i default=x at hs h2 hE
        generalize l.getD (i - 1) default=y at hp hE
        have h3:=Zw x
        have h4:=Zw y
        have h5:=compareNames_spec y.nm x.nm
        generalize cmpN y.nm x.nm=c at h5 hE
        by_cases hok:x.ok b
        · rw [decide_eq_true hok] at h2
          rw [if_neg (fun h=>h hok)] at hE
          ((refine Az (And.intro @hs @hp) (And.intro @h2 (And.intro @h3 (And.intro @h4 @h5))) ?_;repeat' constructor)<;>intros<;>refine hD_ ?_)
          all_goals try (exfalso;omega)
          all_goals first
            | (have e2:ntE b l i=61:=by rw [hE,if_neg (by omega),if_pos (by omega)]
               rw [hbad (by omega),e2]; exact Frz.eq rfl (by simp))
            | (have e2:ntE b l i=1:=by rw [hE,if_neg (by omega),if_neg (by omega),if_pos (by omega)]
               rw [hbad (by omega),e2]; exact Frz.eq rfl (by simp))
            | exact ⟨⟨(i+1,_),hlt,all_next hI (by rw [hE,if_pos (by omega)])⟩,by simp,rfl,by simp only; omega⟩
            | exact ⟨⟨(i+1,_),hlt,all_next hI (by rw [hE,if_neg (by omega),if_neg (by omega),if_neg (by omega)])⟩,by simp,rfl,by simp only; omega⟩
        · rw [decide_eq_false hok] at h2
          rw [if_pos hok] at hE
          ((refine Az (And.intro @hs @hp) (And.intro @h2 (And.intro @h3 (And.intro @h4 @h5))) ?_;repeat' constructor)<;>intros<;>refine hD_ ?_)
          all_goals try (exfalso;omega)
          rw [hbad (by omega),hE]; exact Frz.eq rfl (by simp)
      · obtain rfl:i=l.length:=by omega
        ((refine Au ?_;repeat' constructor)<;>intros<;>refine hD_ ?_)
        all_goals try (exfalso;omega)
        rw [e,firstE_none hI]; exact Frz.eq rfl (by simp)
  · rw [if_neg g] at h1
    have e:setE b l=(100,0):=by unfold setE; rw [if_pos g]
    rw [e]
    ((refine Ay @h1 ?_;repeat' constructor)<;>intros<;>refine hD_ ?_)
    all_goals first | (exfalso; omega) | exact Frz.eq rfl (by simp)
abbrev setsS (ls:List (List Nt)):AV:=.sl 1 (ls.map fun l=>[ntS l])
theorem asked_spec (b:Bse) (hb:bseSz b) (ls:List (List Nt)) (hls:ls.length < 9223372036854775808) (hl:∀ l∈ls,setSz l):Pure Tryz.prog 80 [.agg b.cs,setsS ls] (n (askedE b ls)):=by
  refine pB_ Tryz.call80 Tryz.func80 k80 ?_
  unfold c80
  have h1:=CheckBase_spec b hb
  by_cases g:b.ok
  · rw [if_pos g] at h1
    have e:askedE b ls=if (ls.all fun l=>(setE b l).1 == 0)=true then 0 else 1:=by unfold askedE; rw [if_neg (fun h=>h g)]
    ((refine Ay @h1 ?_;repeat' constructor)<;>intros<;>refine hD_ ?_)
    all_goals try (exfalso;omega)
    refine AWPC.loopI 17 ls.length (fun i=>(ls.drop i).all (fun l=>(setE b l).1 == 0)=ls.all fun l=>(setE b l).1 == 0) (by simp) ?_ ?_
    · (simp only [zN,zT,zV,zS,zU,Q0,Q1,ex,Q2,Q3,Q4,Q5,Q6,Q7,Q8,Q9,QA,QB,QC,Nat.reduceBEq,reduceAdd,reduceSub,reduceLT,reduceLeDiff,reduceMul,reduceEqDiff,reduceIte]; try simp)
    · intro i hi hI
      by_cases hlt:i < ls.length
      · have hs:(ls.map fun l=>[ntS l]).getD i []=[ntS (ls.getD i [])]:=row (f:=fun l=>[ntS l]) [] hlt
        have h2:=CheckSet_spec b hb (ls.getD i []) (hl _ (List.mem_of_getElem? (getD_lt [] hlt)))
        rw [drop_cons (getD_lt [] hlt),List.all_cons] at hI
        generalize ls.getD i []=l at hs h2 hI
        ((refine Az @hs @h2 ?_;repeat' constructor)<;>intros<;>refine hD_ ?_)
        all_goals try (exfalso;omega)
        · rename_i h
          rw [show ((setE b l).1 == 0)=false by simpa using h,Bool.false_and] at hI
          rw [e,← hI]; exact Frz.eq rfl (by simp)
        · rename_i h
          rw [show ((setE b l).1 == 0)=true by simpa using h,Bool.true_and] at hI
          exact ⟨⟨i+1,hlt,hI⟩,by simp,by simp only; omega⟩
      · obtain rfl:i=ls.length:=by omega
        rw [List.drop_length] at hI
        ((refine Au ?_;repeat' constructor)<;>intros<;>refine hD_ ?_)
        all_goals try (exfalso;omega)
        rw [e,← hI]; exact Frz.eq rfl (by simp)
  · rw [if_neg g] at h1
    have e:askedE b ls=100:=by unfold askedE; rw [if_pos g]
    rw [e]
    ((refine Ay @h1 ?_;repeat' constructor)<;>intros<;>refine hD_ ?_)
    all_goals first | (exfalso; omega) | exact Frz.eq rfl (by simp)
abbrev ntA (a:Nt):AV:=.agg a.cs
theorem byName_next {l:List Nt} {i:Nat} {a:Nt} (h:l[i]?=some a):byName (l.take (i+1))=kset (byName (l.take i)) a.nm a:=by
  have e:l.take (i+1)=l.take i++[a]:=by rw [List.take_add_one,h]; rfl
  unfold byName
  rw [e,List.foldl_append]; rfl
theorem byName_spec (l:List Nt) (hl:setSz l):Pure Tryz.prog 87 [ntS l] (.imap 2 (kenc ntA (byName l))):=by
  refine pB_ Tryz.call87 Tryz.func87 k87 ?_
  unfold c87
  have hl0:=hl.1
  ((refine Au ?_;repeat' constructor)<;>intros<;>refine hD_ ?_)
  refine AWPC.loopE (α:={ x:Nat × Sto // x.1≤l.length }) [9] (fun x=>[(9,n x.1.1)]) (fun x=>some [⟨0,0,[],some (.mp 2 (kenc ntA (byName (l.take x.1.1))))⟩]::x.1.2) (fun x=>l.length - x.1.1) ⟨(0,[]),by simp⟩ ?_ ?_ ?_
  · (simp only [zN,zT,zV,zS,zU,Q0,Q1,ex,Q2,Q3,Q4,Q5,Q6,Q7,Q8,Q9,QA,QB,QC,Nat.reduceBEq,reduceAdd,reduceSub,reduceLT,reduceLeDiff,reduceMul,reduceEqDiff,reduceIte]; try simp)
  · rfl
  · rintro ⟨⟨i,ν⟩,hi⟩
    simp only at hi
    by_cases hlt:i < l.length
    · have hs:(l.map Nt.cs).getD i []=Nt.cs (l.getD i default):=row default hlt
      have hn:=byName_next (getD_lt default hlt)
      generalize l.getD i default=a at hs hn
      have hk:mset (kenc ntA (byName (l.take i))) [a.clerk,a.num] (.agg a.cs)=kenc ntA (byName (l.take (i+1))):=by rw [hn]; exact mset_kenc ntA a.nm a _
      generalize kenc ntA (byName (l.take i))=M at hk
      generalize hM':kenc ntA (byName (l.take (i+1)))=M' at hk
      ((refine Az (And.intro @hs @hk) (Zw a) ?_;repeat' constructor)<;>intros<;>refine hD_ ?_)
      all_goals try (exfalso;omega)
      exact ⟨⟨(i+1,ν++[some [⟨68,38,[a.cs],none⟩]]),hlt⟩,by simp,by simp only [hM'],by simp only; omega⟩
    · obtain rfl:i=l.length:=by omega
      rw [List.take_length]
      ((refine Au ?_;repeat' constructor)<;>intros<;>refine hD_ ?_)
      all_goals try (exfalso;omega)
      exact Frz.mp (o:=⟨0,0,[],some (.mp 2 (kenc ntA (byName l)))⟩) rfl rfl rfl (fun i hi=>rfl) fun i hi=>Frz.eq rfl (by
        simp only [kenc,List.length_map] at hi
        rw [List.getD_eq_getElem?_getD,List.getElem?_map,List.getElem?_eq_getElem hi]
        simp)
def c113:CF:=⟨15,(jo [jb 6 false] [0,1,2]
 (jo [jm 7 1,jm 8 0,jt .leq 9 7 8,jm 10 9,ja 10 (jm 11 0),ja 10 (jm 12 2),ja 10 (jt .leq 13 11 12),jp 14 10 13,jm 6 14] [6]
 .ret)),[.t 6]⟩
theorem k113:chkF Tryz.prog Tryz.f113 c113=true:=by kernel_rfl
def c176:CF:=⟨15,(jo [jb 6 false] [0,1,2]
 (jo [jm 7 1,jm 8 0,jt .leq 9 7 8,jm 10 9,ja 10 (jm 11 0),ja 10 (jm 12 2),ja 10 (jt .leq 13 11 12),jp 14 10 13,jm 6 14] [6]
 .ret)),[.t 6]⟩
theorem k176:chkF Tryz.prog Tryz.f176 c176=true:=by kernel_rfl
def c253:CF:=⟨15,(jo [jb 6 false] [0,1,2]
 (jo [jm 7 1,jm 8 0,jt .leq 9 7 8,jm 10 9,ja 10 (jm 11 0),ja 10 (jm 12 2),ja 10 (jt .leq 13 11 12),jp 14 10 13,jm 6 14] [6]
 .ret)),[.t 6]⟩
theorem k253:chkF Tryz.prog Tryz.f253 c253=true:=by kernel_rfl
def c255:CF:=⟨15,(jo [jb 6 false] [0,1,2]
 (jo [jm 7 1,jm 8 0,jt .leq 9 7 8,jm 10 9,ja 10 (jm 11 0),ja 10 (jm 12 2),ja 10 (jt .leq 13 11 12),jp 14 10 13,jm 6 14] [6]
 .ret)),[.t 6]⟩
theorem k255:chkF Tryz.prog Tryz.f255 c255=true:=by kernel_rfl
def c256:CF:=⟨15,(jo [jb 6 false] [0,1,2]
 (jo [jm 7 1,jm 8 0,jt .leq 9 7 8,jm 10 9,ja 10 (jm 11 0),ja 10 (jm 12 2),ja 10 (jt .leq 13 11 12),jp 14 10 13,jm 6 14] [6]
 .ret)),[.t 6]⟩
theorem k256:chkF Tryz.prog Tryz.f256 c256=true:=by kernel_rfl
def c252:CF:=⟨16,(jo [jx 1 164 3 0,jb 2 false] [1]
 (jo [jf 3 0 1,jl 4 3,jw 5 (.call (.f 253) [(.t 4),(.c (.int .i64 0)),(.c (.int .i64 400000))]),jm 6 5,ja 6 (jf 7 1 1),ja 6 (jl 8 7),⟨some 9,.call (.f 253) [(.t 8),(.c (.int .i64 0)),(.c (.int .i64 400000))],some (6,true)⟩,jp 10 6 9,jm 11 10,ja 11 (jf 12 2 1),ja 11 (jl 13 12),⟨some 14,.call (.f 253) [(.t 13),(.c (.int .i64 0)),(.c (.int .i64 5000))],some (11,true)⟩,jp 15 11 14,jm 2 15] [2]
 .ret)),[.t 2]⟩
theorem k252:chkF Tryz.prog Tryz.f252 c252=true:=by kernel_rfl
def c254:CF:=⟨18,(jo [jx 1 48 2 0,jb 2 false] [1]
 (jo [jf 3 0 1,jl 4 3,jw 5 (.bin .leq (.c (.int .i64 900)) (.t 4)),jm 6 5,ja 6 (jf 7 0 1),ja 6 (jl 8 7),ja 6 (jf 9 1 1),ja 6 (jl 10 9),ja 6 (jt .leq 11 8 10),jp 12 6 11,jm 13 12,ja 13 (jf 14 1 1),ja 13 (jl 15 14),ja 13 (ju .leq 16 15 1100),jp 17 13 16,jm 2 17] [2]
 .ret)),[.t 2]⟩
theorem k254:chkF Tryz.prog Tryz.f254 c254=true:=by kernel_rfl
def c239:CF:=⟨21,(jo [jc 2 0,jc 3 0] [0]
 (.seq (jo [jm 5 0,je 6 5,ju .gtr 7 6 2000] [0,7]
 (.cond (.t 7) (jo [jc 2 2,jc 3 0] [2,3]
 .ret)
 .skip))
 (.seq (jo [jc 4 0] [0,4]
 (.block 0 (.loop (.seq (jo [jm 8 4,jm 9 0,je 10 9,jt .lss 11 8 10] [0,4,11]
 (.cond (.t 11) .skip
 (.exit 0)))
 (.seq (.block 1 (jo [jm 14 0,jm 15 4,ji 16 3 14 15,jk 17 3 16,jy 18 252 [17],jv 19 18] [0,4,19]
 (.cond (.t 19) (jo [jm 20 4,jc 2 11,jm 3 20] [2,3]
 .ret)
 .skip)))
 (.ops [jm 12 4,ju .add 13 12 1,jm 4 13] [0,4]))))))
 (jo [jc 2 0,jc 3 0] [2,3]
 .ret)))),[.t 2,.t 3]⟩
theorem k239:chkF Tryz.prog Tryz.f239 c239=true:=by kernel_rfl
def c240:CF:=⟨69,(jo [jx 1 50 10 0,jc 2 0] [1]
 (.seq (jo [jf 3 0 1,jl 4 3,jw 5 (.call (.f 253) [(.t 4),(.c (.int .i64 1)),(.c (.int .i64 10000))]),jv 6 5,jm 7 6,jd 7 (jf 8 1 1),jd 7 (jl 9 8),⟨some 10,.call (.f 253) [(.t 9),(.c (.int .i64 1)),(.c (.int .i64 400000))],some (7,false)⟩,jd 7 (jv 11 10),jq 12 7 11,jm 13 12,jd 13 (jf 14 5 1),jd 13 (jl 15 14),⟨some 16,.call (.f 253) [(.t 15),(.c (.int .i64 1)),(.c (.int .i64 200))],some (13,false)⟩,jd 13 (jv 17 16),jq 18 13 17,jm 19 18,jd 19 (jf 20 6 1),jd 19 (jk 21 2 20),jd 19 (jy 22 254 [21]),jd 19 (jv 23 22),jq 24 19 23,jm 25 24,jd 25 (jf 26 8 1),jd 25 (jk 27 2 26),jd 25 (jy 28 254 [27]),jd 25 (jv 29 28),jq 30 25 29] [1,30]
 (.cond (.t 30) (jo [jc 2 10] [2]
 .ret)
 .skip))
 (.seq (jo [jf 31 2 1,jl 32 31,ju .neq 33 32 0,jm 34 33,ja 34 (jf 35 2 1),ja 34 (jl 36 35),ja 34 (jf 37 1 1),ja 34 (jl 38 37),⟨some 39,.call (.f 253) [(.t 36),(.t 38),(.c (.int .i64 4000000))],some (34,true)⟩,ja 34 (jv 40 39),jp 41 34 40,jm 42 41,jd 42 (jf 43 3 1),jd 42 (jl 44 43),jd 42 (ju .lss 45 44 0),jq 46 42 45,jm 47 46,jd 47 (jf 48 3 1),jd 47 (jl 49 48),jd 47 (jf 50 4 1),jd 47 (jl 51 50),jd 47 (jt .geq 52 49 51),jq 53 47 52,jm 54 53,jd 54 (jf 55 4 1),jd 54 (jl 56 55),jd 54 (ju .gtr 57 56 12000),jq 58 54 57,jm 59 58,jd 59 (jf 60 4 1),jd 59 (jl 61 60),jd 59 (jf 62 3 1),jd 59 (jl 63 62),jd 59 (jt .sub 64 61 63),jd 59 (jf 65 1 1),jd 59 (jl 66 65),jd 59 (jt .gtr 67 64 66),jq 68 59 67] [68]
 (.cond (.t 68) (jo [jc 2 10] [2]
 .ret)
 .skip))
 (jo [jc 2 0] [2]
 .ret)))),[.t 2]⟩
theorem k240:chkF Tryz.prog Tryz.f240 c240=true:=by kernel_rfl
def c242:CF:=⟨44,(jo [jx 1 58 4 0,jc 2 0] [1]
 (.seq (jo [jf 3 0 1,jl 4 3,jw 5 (.call (.f 256) [(.t 4),(.c (.int .i64 0)),(.c (.int .i64 8))]),jv 6 5,jm 7 6,jd 7 (jf 8 1 1),jd 7 (jf 9 0 8),jd 7 (jl 10 9),jd 7 (ju .lss 11 10 (-200)),jq 12 7 11,jm 13 12,jd 13 (jf 14 1 1),jd 13 (jf 15 0 14),jd 13 (jl 16 15),jd 13 (jf 17 1 1),jd 13 (jf 18 1 17),jd 13 (jl 19 18),jd 13 (jt .gtr 20 16 19),jq 21 13 20,jm 22 21,jd 22 (jf 23 1 1),jd 22 (jf 24 1 23),jd 22 (jl 25 24),jd 22 (ju .gtr 26 25 200),jq 27 22 26,jm 28 27,jd 28 (jf 29 1 1),jd 28 (jf 30 1 29),jd 28 (jl 31 30),jd 28 (jf 32 1 1),jd 28 (jf 33 0 32),jd 28 (jl 34 33),jd 28 (jt .sub 35 31 34),jd 28 (ju .gtr 36 35 40),jq 37 28 36,jm 38 37,jd 38 (jf 39 3 1),jd 38 (jl 40 39),⟨some 41,.call (.f 256) [(.t 40),(.c (.int .i64 0)),(.c (.int .i64 12000))],some (38,false)⟩,jd 38 (jv 42 41),jq 43 38 42] [43]
 (.cond (.t 43) (jo [jc 2 30] [2]
 .ret)
 .skip))
 (jo [jc 2 0] [2]
 .ret))),[.t 2]⟩
theorem k242:chkF Tryz.prog Tryz.f242 c242=true:=by kernel_rfl
def c112:CF:=⟨13,(jo [jx 1 24 2 0,jc 2 0] [1]
 (.seq (jo [jf 3 0 1,jl 4 3,jw 5 (.call (.f 176) [(.t 4),(.c (.int .i64 0)),(.c (.int .i64 12000))]),jv 6 5,jm 7 6,jd 7 (jf 8 1 1),jd 7 (jl 9 8),⟨some 10,.call (.f 176) [(.t 9),(.c (.int .i64 0)),(.c (.int .i64 10000))],some (7,false)⟩,jd 7 (jv 11 10),jq 12 7 11] [12]
 (.cond (.t 12) (jo [jc 2 1] [2]
 .ret)
 .skip))
 (jo [jc 2 0] [2]
 .ret))),[.t 2]⟩
theorem k112:chkF Tryz.prog Tryz.f112 c112=true:=by kernel_rfl
def c174:CF:=⟨16,(jo [jx 1 109 4 0,jb 2 false] [1]
 (jo [jf 3 0 1,jl 4 3,jw 5 (.call (.f 176) [(.t 4),(.c (.int .i64 1)),(.c (.int .i64 65535))]),jm 6 5,ja 6 (jf 7 1 1),ja 6 (jl 8 7),⟨some 9,.call (.f 176) [(.t 8),(.c (.int .i64 0)),(.c (.int .i64 2000))],some (6,true)⟩,jp 10 6 9,jm 11 10,ja 11 (jf 12 2 1),ja 11 (jl 13 12),⟨some 14,.call (.f 176) [(.t 13),(.c (.int .i64 0)),(.c (.int .i64 2000))],some (11,true)⟩,jp 15 11 14,jm 2 15] [2]
 .ret)),[.t 2]⟩
theorem k174:chkF Tryz.prog Tryz.f174 c174=true:=by kernel_rfl
def c175:CF:=⟨78,(jo [jb 2 false] [0]
 (.seq (jo [jm 4 0,je 5 4,jw 6 (.call (.f 176) [(.t 5),(.c (.int .i64 1)),(.c (.int .i64 16))]),jv 7 6,jm 8 7,jd 8 (jm 9 0),⟨some 10,.iaddr 3 (.t 9) (.c (.int .i64 0)),some (8,false)⟩,jd 8 (jf 11 0 10),jd 8 (jl 12 11),jd 8 (ju .neq 13 12 0),jq 14 8 13] [0,14]
 (.cond (.t 14) (jo [jb 2 false] [2]
 .ret)
 .skip))
 (.seq (jo [jc 3 0] [0,3]
 (.block 0 (.loop (.seq (jo [jm 15 3,jm 16 0,je 17 16,jt .lss 18 15 17] [0,3,18]
 (.cond (.t 18) .skip
 (.exit 0)))
 (.seq (.block 1 (.seq (.draw [jm 21 0,jm 22 3,ji 23 3 21 22,jf 24 0 23,jl 25 24,ju .gtr 26 25 10000,jm 27 26,jd 27 (jm 28 3),jd 27 (ju .gtr 29 28 0),jd 27 (jm 30 29),ja 30 (jm 31 0),ja 30 (jm 32 3),ja 30 (ji 33 3 31 32),ja 30 (jf 34 0 33),ja 30 (jl 35 34),ja 30 (jm 36 0),ja 30 (jm 37 3),ja 30 (ju .sub 38 37 1),ja 30 (ji 39 3 36 38),ja 30 (jf 40 0 39),ja 30 (jl 41 40),ja 30 (jt .leq 42 35 41),jd 27 (jp 43 30 42),jq 44 27 43,jm 45 44,jd 45 (jm 46 0),jd 45 (jm 47 3),jd 45 (ji 48 3 46 47),jd 45 (jf 49 1 48),jd 45 (jf 50 0 49),jd 45 (jl 51 50),jd 45 (ju .lss 52 51 0),jq 53 45 52,jm 54 53,jd 54 (jm 55 0),jd 54 (jm 56 3),jd 54 (ji 57 3 55 56),jd 54 (jf 58 1 57),jd 54 (jf 59 0 58),jd 54 (jl 60 59),jd 54 (jm 61 0),jd 54 (jm 62 3),jd 54 (ji 63 3 61 62),jd 54 (jf 64 1 63),jd 54 (jf 65 1 64),jd 54 (jl 66 65),jd 54 (jt .gtr 67 60 66),jq 68 54 67,jm 69 68,jd 69 (jm 70 0),jd 69 (jm 71 3),jd 69 (ji 72 3 70 71),jd 69 (jf 73 1 72),jd 69 (jf 74 1 73),jd 69 (jl 75 74),jd 69 (ju .gtr 76 75 4000),jq 77 69 76] [] [0,3,77])
 (.cond (.t 77) (jo [jb 2 false] [2]
 .ret)
 .skip)))
 (.ops [jm 19 3,ju .add 20 19 1,jm 3 20] [0,3]))))))
 (jo [jb 2 true] [2]
 .ret)))),[.t 2]⟩
theorem k175:chkF Tryz.prog Tryz.f175 c175=true:=by kernel_rfl
def c111:CF:=⟨47,(jo [jc 2 0,jc 3 0] [0]
 (.seq (jo [jm 5 0,je 6 5,ju .gtr 7 6 32] [0,7]
 (.cond (.t 7) (jo [jc 2 2,jc 3 0] [2,3]
 .ret)
 .skip))
 (.seq (jo [jc 4 0] [0,4]
 (.block 0 (.loop (.seq (jo [jm 8 4,jm 9 0,je 10 9,jt .lss 11 8 10] [0,4,11]
 (.cond (.t 11) .skip
 (.exit 0)))
 (.seq (.block 1 (.seq (.seq (.draw [jm 14 0,jm 15 4,ji 16 4 14 15,jk 17 4 16,jy 18 174 [17],jv 19 18,jm 20 19,jd 20 (jm 21 4),jd 20 (ju .gtr 22 21 0),jd 20 (jm 23 22),ja 23 (jm 24 0),ja 23 (jm 25 4),ja 23 (ji 26 4 24 25),ja 23 (jf 27 0 26),ja 23 (jl 28 27),ja 23 (jm 29 0),ja 23 (jm 30 4),ja 23 (ju .sub 31 30 1),ja 23 (ji 32 4 29 31),ja 23 (jf 33 0 32),ja 23 (jl 34 33),ja 23 (jt .leq 35 28 34),jd 20 (jp 36 23 35),jq 37 20 36] [] [0,4,37])
 (.cond (.t 37) (jo [jm 38 4,jc 2 50,jm 3 38] [2,3]
 .ret)
 .skip))
 (jo [jm 39 0,jm 40 4,ji 41 4 39 40,jf 42 3 41,jl 43 42,jy 44 175 [43],jv 45 44] [0,4,45]
 (.cond (.t 45) (jo [jm 46 4,jc 2 51,jm 3 46] [2,3]
 .ret)
 .skip))))
 (.ops [jm 12 4,ju .add 13 12 1,jm 4 13] [0,4]))))))
 (jo [jc 2 0,jc 3 0] [2,3]
 .ret)))),[.t 2,.t 3]⟩
theorem k111:chkF Tryz.prog Tryz.f111 c111=true:=by kernel_rfl
def c195:CF:=⟨11,(jo [jc 2 0] [0]
 (jo [jm 6 0,jy 7 111 [6],jm 5 7,jz 8 0 5,jz 9 1 5,jm 3 8,jm 4 9] [3]
 (jo [jm 10 3,jm 2 10] [2]
 .ret))),[.t 2]⟩
theorem k195:chkF Tryz.prog Tryz.f195 c195=true:=by kernel_rfl
def c152:CF:=⟨27,(jo [jc 4 0,jc 5 0] [0,1]
 (jo [jm 8 0,jy 9 195 [8],jm 6 9] [0,1,6]
 (.seq (jo [jm 10 6,ju .neq 11 10 0] [0,1,6,11]
 (.cond (.t 11) (jo [jm 12 6,jc 4 0,jm 5 12] [4,5]
 .ret)
 .skip))
 (.seq (jo [jc 7 0] [0,1,7]
 (.block 0 (.loop (.seq (jo [jm 13 7,jm 14 0,je 15 14,jt .lss 16 13 15] [0,1,7,16]
 (.cond (.t 16) .skip
 (.exit 0)))
 (.seq (.block 1 (jo [jm 19 0,jm 20 7,ji 21 4 19 20,jf 22 0 21,jl 23 22,jm 24 1,jt .eql 25 23 24] [0,1,7,25]
 (.cond (.t 25) (jo [jm 26 7,jm 4 26,jc 5 0] [4,5]
 .ret)
 .skip)))
 (.ops [jm 17 7,ju .add 18 17 1,jm 7 18] [0,1,7]))))))
 (jo [jc 4 0,jc 5 50] [4,5]
 .ret))))),[.t 4,.t 5]⟩
theorem k152:chkF Tryz.prog Tryz.f152 c152=true:=by kernel_rfl
theorem within_r (x lo hi:Int):Pure Tryz.prog 113 [n x,n lo,n hi] (bl (decide (inr x lo hi))):=by
  refine pB_ Tryz.call113 Tryz.func113 k113 ?_
  unfold c113
  ((refine Au ?_;repeat' constructor)<;>intros<;>refine hD_ ?_)
  all_goals exact Frz.eq (congrArg bl (by simp)) (by simp)
theorem within_r5 (x lo hi:Int):Pure Tryz.prog 176 [n x,n lo,n hi] (bl (decide (inr x lo hi))):=by
  refine pB_ Tryz.call176 Tryz.func176 k176 ?_
  unfold c176
  ((refine Au ?_;repeat' constructor)<;>intros<;>refine hD_ ?_)
  all_goals exact Frz.eq (congrArg bl (by simp)) (by simp)
theorem within_r1 (x lo hi:Int):Pure Tryz.prog 253 [n x,n lo,n hi] (bl (decide (inr x lo hi))):=by
  refine pB_ Tryz.call253 Tryz.func253 k253 ?_
  unfold c253
  ((refine Au ?_;repeat' constructor)<;>intros<;>refine hD_ ?_)
  all_goals exact Frz.eq (congrArg bl (by simp)) (by simp)
theorem within_r2 (x lo hi:Int):Pure Tryz.prog 255 [n x,n lo,n hi] (bl (decide (inr x lo hi))):=by
  refine pB_ Tryz.call255 Tryz.func255 k255 ?_
  unfold c255
  ((refine Au ?_;repeat' constructor)<;>intros<;>refine hD_ ?_)
  all_goals exact Frz.eq (congrArg bl (by simp)) (by simp)
theorem within_r3 (x lo hi:Int):Pure Tryz.prog 256 [n x,n lo,n hi] (bl (decide (inr x lo hi))):=by
  refine pB_ Tryz.call256 Tryz.func256 k256 ?_
  unfold c256
  ((refine Au ?_;repeat' constructor)<;>intros<;>refine hD_ ?_)
  all_goals exact Frz.eq (congrArg bl (by simp)) (by simp)
theorem rPt_spec (t:Pt):Pure Tryz.prog 252 [.agg t.cs] (bl (decide t.ok)):=by
  refine pB_ Tryz.call252 Tryz.func252 k252 ?_
  unfold c252
  ((refine Ay (And.intro (within_r1 t.x 0 400000) (And.intro (within_r1 t.y 0 400000) (within_r1 t.half 0 5000))) ?_;repeat' constructor)<;>intros<;>refine hD_ ?_)
  all_goals exact Frz.eq (congrArg bl (by rw [Bool.eq_iff_iff]; simp only [decide_eq_true_iff,Bool.and_eq_true,Bool.or_eq_true]; unfold Pt.ok inr; omega)) (by simp)
theorem rShrunk_spec (s:Sp):Pure Tryz.prog 254 [.agg (Sp.cs s)] (bl (decide (spIn s 900 1100))):=by
  refine pB_ Tryz.call254 Tryz.func254 k254 ?_
  unfold c254
  ((refine Au ?_;repeat' constructor)<;>intros<;>refine hD_ ?_)
  all_goals exact Frz.eq (congrArg bl (by rw [Bool.eq_iff_iff]; simp <;> try omega)) (by simp)
theorem rCheckTrace_spec (l:List Pt) (hl:l.length < 9223372036854775808):Pure Tryz.prog 239 [ptS l] (.tup [n (traceE l).1,n (traceE l).2]):=by
  refine pB_ Tryz.call239 Tryz.func239 k239 ?_
  unfold c239
  ((refine Au ?_;repeat' constructor)<;>intros<;>refine hD_ ?_)
  · rename_i h
    unfold traceE; rw [if_pos (by omega)]; exact Frz.eq rfl (by simp)
  have hlen:¬ 2000 < l.length:=by omega
  refine AWPC.loopS (α:={ i:Nat // i≤l.length∧∀ j,j < i→(fun i=>if (l.getD i ⟨0,0,0⟩).ok then (0:Int) else 11) j=0 }) [4] (fun x=>[(4,n x.1)]) (fun x=>l.length - x.1) ⟨0,Nat.zero_le _,by simp⟩ ?_ ?_
  · (simp only [zN,zT,zV,zS,zU,Q0,Q1,ex,Q2,Q3,Q4,Q5,Q6,Q7,Q8,Q9,QA,QB,QC,Nat.reduceBEq,reduceAdd,reduceSub,reduceLT,reduceLeDiff,reduceMul,reduceEqDiff,reduceIte]; try simp)
  · rintro ⟨i,hi,hb⟩
    by_cases hlt:i < l.length
    · have hs:(l.map Pt.cs).getD i []=Pt.cs (l.getD i ⟨0,0,0⟩):=row _ hlt
      have hc:=rPt_spec (l.getD i ⟨0,0,0⟩)
      by_cases hn:(l.getD i ⟨0,0,0⟩).ok
      · rw [decide_eq_true hn] at hc
        have hN:=all_next hb (show (fun i=>if (l.getD i ⟨0,0,0⟩).ok then (0:Int) else 11) i=0 from if_pos hn)
        generalize l.getD i ⟨0,0,0⟩=g at hs hc
        ((refine Az @hs @hc ?_;repeat' constructor)<;>intros<;>refine hD_ ?_)
        all_goals try (exfalso;omega)
        exact ⟨⟨i+1,hlt,hN⟩,by simp,by simp only; omega⟩
      · rw [decide_eq_false hn] at hc
        have:=firstE_at (p:=fun i=>if (l.getD i ⟨0,0,0⟩).ok then (0:Int) else 11) hlt hb (by simp only [hn,if_false]; decide)
        have hE:traceE l=(11,i):=by unfold traceE; rw [if_neg hlen,this]; simp only [hn,if_false]
        rw [hE]
        generalize l.getD i ⟨0,0,0⟩=g at hs hc
        ((refine Az @hs @hc ?_;repeat' constructor)<;>intros<;>refine hD_ ?_)
        all_goals try (exfalso;omega)
        exact Frz.eq rfl (by simp)
    · obtain rfl:i=l.length:=by omega
      ((refine Au ?_;repeat' constructor)<;>intros<;>refine hD_ ?_)
      all_goals try (exfalso;omega)
      unfold traceE; rw [if_neg hlen,firstE_none hb]; exact Frz.eq rfl (by simp)
theorem rCheckPaper_spec (p:Ppr):Pure Tryz.prog 240 [.agg p.cs] (n (if p.ok then 0 else 10)):=by
  refine pB_ Tryz.call240 Tryz.func240 k240 ?_
  unfold c240
  ((refine Ay (And.intro (within_r1 p.pitch 1 10000) (And.intro (within_r1 p.height 1 400000) (And.intro (within_r1 p.radius p.height 4000000) (And.intro (within_r1 p.cols 1 200) (And.intro (rShrunk_spec p.along) (rShrunk_spec p.across)))))) ?_;repeat' constructor)<;>intros<;>refine hD_ ?_)
  all_goals try (exfalso;omega)
  all_goals have hw:0≤p.low→p.low < p.high→p.high≤12000→IntKind.i64.wrap (p.high - p.low)=p.high - p.low:=fun h1 h2 h3=>wr64 _ (by omega) (by omega)
  all_goals first
    | (rw [if_neg (by unfold Ppr.ok; omega)]; exact Frz.eq rfl (by simp))
    | (rw [if_pos (by unfold Ppr.ok; omega)]; exact Frz.eq rfl (by simp))
theorem rCheckPen_spec (p:Pn):Pure Tryz.prog 242 [.agg p.cs] (n (if p.ok then 0 else 30)):=by
  refine pB_ Tryz.call242 Tryz.func242 k242 ?_
  unfold c242
  ((refine Ay (And.intro (within_r3 p.band 0 8) (within_r3 p.rate 0 12000)) ?_;repeat' constructor)<;>intros<;>refine hD_ ?_)
  all_goals try (exfalso;omega)
  all_goals have hw:-200≤p.zero.lo→p.zero.lo≤p.zero.hi→p.zero.hi≤200→IntKind.i64.wrap (p.zero.hi - p.zero.lo)=p.zero.hi - p.zero.lo:=fun h1 h2 h3=>wr64 _ (by omega) (by omega)
  all_goals first
    | (rw [if_neg (by unfold Pn.ok; omega)]; exact Frz.eq rfl (by simp))
    | (rw [if_pos (by unfold Pn.ok; omega)]; exact Frz.eq rfl (by simp))
theorem rWind_spec (f e:Int):Pure Tryz.prog 112 [.agg [n f,n e]] (n (if inr f 0 12000∧inr e 0 10000 then 0 else 1)):=by
  refine pB_ Tryz.call112 Tryz.func112 k112 ?_
  unfold c112
  ((refine Ay (And.intro (within_r5 f 0 12000) (within_r5 e 0 10000)) ?_;repeat' constructor)<;>intros<;>refine hD_ ?_)
  · rename_i h; rw [if_neg (by omega)]; exact Frz.eq rfl (by simp)
  · rename_i h; rw [if_pos (by omega)]; exact Frz.eq rfl (by simp)
theorem rPlaced_spec (s:Stn):Pure Tryz.prog 174 [.agg s.cs] (bl (decide (inr s.id 1 65535∧inr s.x 0 2000∧inr s.y 0 2000))):=by
  refine pB_ Tryz.call174 Tryz.func174 k174 ?_
  unfold c174
  ((refine Ay (And.intro (within_r5 s.id 1 65535) (And.intro (within_r5 s.x 0 2000) (within_r5 s.y 0 2000))) ?_;repeat' constructor)<;>intros<;>refine hD_ ?_)
  all_goals exact Frz.eq (congrArg bl (by rw [Bool.eq_iff_iff]; simp <;> try omega)) (by simp)
theorem rHeights_spec (l:List Hgt) (hl:l.length < 9223372036854775808):Pure Tryz.prog 175 [hgS l] (bl (decide (highOk l))):=by
  refine pB_ Tryz.call175 Tryz.func175 k175 ?_
  unfold c175
  have hw:=within_r5 l.length 1 16
  by_cases h16:inr l.length 1 16
  · rw [decide_eq_true h16] at hw
    have h0:(l.map Hgt.cs).getD 0 []=Hgt.cs (l.getD 0 default):=row default (by omega)
    have hk0:highOk l→(l.getD 0 default).week=0:=fun h=>(h.2 0 (by omega)).1 rfl
    by_cases hz:(l.getD 0 default).week=0
    · generalize hg0:l.getD 0 default=g0 at h0 hz
      ((refine Az (And.intro @h0 @hz) @hw ?_;repeat' constructor)<;>intros<;>refine hD_ ?_)
      all_goals try (exfalso;omega)
      refine AWPC.loopI 3 l.length (fun i=>∀ j,j < i→highAt l j) (by simp) ?_ ?_
      · (simp only [zN,zT,zV,zS,zU,Q0,Q1,ex,Q2,Q3,Q4,Q5,Q6,Q7,Q8,Q9,QA,QB,QC,Nat.reduceBEq,reduceAdd,reduceSub,reduceLT,reduceLeDiff,reduceMul,reduceEqDiff,reduceIte]; try simp)
      · intro i hi hb
        by_cases hlt:i < l.length
        · have hs:(l.map Hgt.cs).getD i []=Hgt.cs (l.getD i default):=row default hlt
          have hp:=rowPrev (f:=Hgt.cs) default hlt
          have hi0:i=0→(l.getD i default).week=0:=fun e=>by rw [e,hg0]; exact hz
          generalize hg:l.getD i default=g at hs hi0
          generalize hg':l.getD (i - 1) default=g' at hp
          ((refine Ax (And.intro @hs @hp) ?_;repeat' constructor)<;>intros<;>refine hD_ ?_)
          all_goals try (exfalso;omega)
          · rename_i h
            rw [decide_eq_false fun hh=>?_]
            · exact Frz.eq rfl (by simp)
            · have:=hh.2 i hlt
              unfold highAt at this
              rw [hg,hg'] at this
              omega
          · rename_i h
            exact ⟨⟨i+1,hlt,all_next hb (by unfold highAt; rw [hg,hg']; omega)⟩,by simp,by simp only; omega⟩
        · obtain rfl:i=l.length:=by omega
          rw [decide_eq_true (show highOk l from ⟨h16,hb⟩)]
          ((refine Au ?_;repeat' constructor)<;>intros<;>refine hD_ ?_)
          all_goals try (exfalso;omega)
          exact Frz.eq rfl (by simp)
    · rw [decide_eq_false (fun h=>hz (hk0 h))]
      generalize l.getD 0 default=g0 at h0 hz
      ((refine Az (And.intro @h0 @hz) @hw ?_;repeat' constructor)<;>intros<;>refine hD_ ?_)
      all_goals try (exfalso;omega)
      all_goals exact Frz.eq rfl (by simp)
  · rw [decide_eq_false h16] at hw
    rw [decide_eq_false (fun h=>h16 h.1)]
    have hx:(l.map Hgt.cs).getD 0 []=[]∨∃ g:Hgt,(l.map Hgt.cs).getD 0 []=Hgt.cs g:=by
      cases l with
      | nil=>exact .inl rfl
      | cons g r=>exact .inr ⟨g,rfl⟩
    rcases hx with hx | ⟨g,hx⟩
    · (repeat' ((first
 | refine vn rfl ?_
 | simp (disch:=omega) only [wr64,Int.zero_sub]
 | refine bo (fun _=>?_) fun _=>?_
 | refine im fun _=>?_
 | ((repeat refine si ?_); (first | ((first | refine .inl ⟨_,_,_,_,rfl,fun _=>pu hw,?_⟩ | refine ⟨_,_,_,_,rfl,fun _=>pu hw,?_⟩); (first | refine o1 ?_ | refine o2 ?_ | refine o3 ?_ | refine o4 ?_)) | refine .inl ⟨_,_,_,_,rfl,pu hw,?_⟩))
 | refine cF ?_
 | refine om ?_
 | refine an ?_
 | fail) <;> try simp only [zN,zT,zV,zS,zU,Q0,Q1,ex,Q2,Q3,Q4,Q5,Q6,Q7,Q8,Q9,QA,QB,QC,Nat.reduceBEq,reduceAdd,reduceSub,reduceLT,reduceLeDiff,reduceMul,reduceEqDiff,reduceIte,hx,List.getElem?_nil]))
      all_goals try (exfalso;omega)
      all_goals exact Frz.eq rfl (by simp)
    · ((refine Az @hx @hw ?_;repeat' constructor)<;>intros<;>refine hD_ ?_)
      all_goals try (exfalso;omega)
      all_goals exact Frz.eq rfl (by simp)
theorem rCheckStn_spec (l:List Stn) (hl:stnSz l):Pure Tryz.prog 111 [snS l] (.tup [n (stnsE l).1,n (stnsE l).2]):=by
  refine pB_ Tryz.call111 Tryz.func111 k111 ?_
  unfold c111
  have hl0:=hl.1
  ((refine Au ?_;repeat' constructor)<;>intros<;>refine hD_ ?_)
  · rename_i h
    unfold stnsE; rw [if_pos (by omega)]; exact Frz.eq rfl (by simp)
  have hlen:¬ 32 < l.length:=by omega
  refine AWPC.loopS (α:={ i:Nat // i≤l.length∧∀ j,j < i→stnE l j=0 }) [4] (fun x=>[(4,n x.1)]) (fun x=>l.length - x.1) ⟨0,Nat.zero_le _,by simp⟩ ?_ ?_
  · (simp only [zN,zT,zV,zS,zU,Q0,Q1,ex,Q2,Q3,Q4,Q5,Q6,Q7,Q8,Q9,QA,QB,QC,Nat.reduceBEq,reduceAdd,reduceSub,reduceLT,reduceLeDiff,reduceMul,reduceEqDiff,reduceIte]; try simp)
  · rintro ⟨i,hi,hb⟩
    by_cases hlt:i < l.length
    · have hs:(l.map Stn.cs).getD i []=Stn.cs (l.getD i default):=row default hlt
      have hp:=rowPrev (f:=Stn.cs) default hlt
      have hh:=rHeights_spec (l.getD i default).heights (hl.2 _ (List.mem_of_getElem? (getD_lt default hlt)))
      have hc:=rPlaced_spec (l.getD i default)
      generalize hg:l.getD i default=g at hs hh hc
      generalize hg':l.getD (i - 1) default=g' at hp
      have hE:stnE l i=if inr g.id 1 65535∧(0 < i→g'.id < g.id)∧inr g.x 0 2000∧inr g.y 0 2000 then (if highOk g.heights then 0 else 51) else 50:=by unfold stnE; rw [hg,hg']
      have hbad:stnE l i≠0→stnsE l=(stnE l i,i):=fun h=>by unfold stnsE; rw [if_neg hlen,firstE_at hlt hb h]
      ((refine Az (And.intro @hs @hp) (And.intro @hc @hh) ?_;repeat' constructor)<;>intros<;>refine hD_ ?_)
      all_goals try (exfalso;omega)
      all_goals first
        | (have e:stnE l i=50:=by rw [hE,if_neg (by omega)]
           rw [hbad (by omega),e]; exact Frz.eq rfl (by simp))
        | (have e:stnE l i=51:=by rw [hE,if_pos (by omega),if_neg (by simp_all)]
           rw [hbad (by omega),e]; exact Frz.eq rfl (by simp))
        | exact ⟨⟨i+1,hlt,all_next hb (by rw [hE,if_pos (by omega),if_pos (by simp_all)])⟩,by simp,by simp only; omega⟩
    · obtain rfl:i=l.length:=by omega
      ((refine Au ?_;repeat' constructor)<;>intros<;>refine hD_ ?_)
      all_goals try (exfalso;omega)
      unfold stnsE; rw [if_neg hlen,firstE_none hb]; exact Frz.eq rfl (by simp)
theorem rList_spec (l:List Stn) (hl:stnSz l):Pure Tryz.prog 195 [snS l] (n (stnsE l).1):=by
  refine pB_ Tryz.call195 Tryz.func195 k195 ?_
  unfold c195
  ((refine Ay (rCheckStn_spec l hl) ?_;repeat' constructor)<;>intros<;>refine hD_ ?_)
  exact Frz.eq rfl (by simp)
theorem rStationOf_spec (l:List Stn) (hl:stnSz l) (id:Int):Pure Tryz.prog 152 [snS l,n id] (.tup [n (stnOf l id).1,n (stnOf l id).2]):=by
  refine pB_ Tryz.call152 Tryz.func152 k152 ?_
  unfold c152
  have h1:=rList_spec l hl
  have hl0:=hl.1
  by_cases he:(stnsE l).1=0
  · obtain ⟨o,ho⟩:∃ o,o=stnOf l id:=⟨_,rfl⟩
    have hE:stnOf l id=match l.findIdx? fun s=>s.id == id with
      | some i=>(i,0)
      | none=>(0,50):=by unfold stnOf; rw [if_neg (fun h=>h he)]; rfl
    rw [he] at h1
    rw [← ho]
    ((refine Ay @h1 ?_;repeat' constructor)<;>intros<;>refine hD_ ?_)
    all_goals try (exfalso;omega)
    refine AWPC.loopI 7 l.length (fun i=>∀ j,j < i→(l.getD j default).id≠id) (by simp) ?_ ?_
    · (simp only [zN,zT,zV,zS,zU,Q0,Q1,ex,Q2,Q3,Q4,Q5,Q6,Q7,Q8,Q9,QA,QB,QC,Nat.reduceBEq,reduceAdd,reduceSub,reduceLT,reduceLeDiff,reduceMul,reduceEqDiff,reduceIte]; try simp)
    · intro i hi hb
      by_cases hlt:i < l.length
      · have hs:(l.map Stn.cs).getD i []=Stn.cs (l.getD i default):=row default hlt
        have hg:=getD_lt (d:=(default:Stn)) hlt
        by_cases e:(l.getD i default).id=id
        · have ho2:o=(i,0):=by
            rw [ho,hE]
            have:l.findIdx? (fun s=>s.id == id)=some i:=by
              rw [List.findIdx?_eq_some_iff_getElem]
              refine ⟨hlt,?_,fun j hj=>?_⟩
              · have:l[i]=l.getD i default:=by rw [List.getD_eq_getElem?_getD,List.getElem?_eq_getElem hlt]; rfl
                rw [this]; simpa using e
              · have:l[j]=l.getD j default:=by rw [List.getD_eq_getElem?_getD,List.getElem?_eq_getElem (by omega)]; rfl
                rw [this]; simpa using hb j hj
            rw [this]
          clear ho hE
          subst ho2
          generalize l.getD i default=g at hs e
          (repeat' ((first
 | refine vn rfl ?_
 | simp (disch:=omega) only [wr64,Int.zero_sub]
 | refine bo (fun _=>?_) fun _=>?_
 | refine im fun _=>?_
 | refine cF ?_
 | refine om ?_
 | refine an ?_
 | fail) <;> try simp only [zN, zT, zV, zS, zU, vcC, lateX, ex, strp, binA, elems, cells, scalar, eqC, keyA, intsA, lookA, ofVs, mpOf, Nat.reduceBEq, reduceAdd, reduceSub, reduceLT, reduceLeDiff, reduceMul, reduceEqDiff, reduceIte, hs, e]))
          all_goals try (exfalso;omega)
          exact Frz.eq rfl (by simp)
        · have hN:=all_next hb e
          generalize l.getD i default=g at hs e
          (repeat' ((first
 | refine vn rfl ?_
 | simp (disch:=omega) only [wr64,Int.zero_sub]
 | refine bo (fun _=>?_) fun _=>?_
 | refine im fun _=>?_
 | refine cF ?_
 | refine om ?_
 | refine an ?_
 | fail) <;> try simp only [zN, zT, zV, zS, zU, vcC, lateX, ex, strp, binA, elems, cells, scalar, eqC, keyA, intsA, lookA, ofVs, mpOf, Nat.reduceBEq, reduceAdd, reduceSub, reduceLT, reduceLeDiff, reduceMul, reduceEqDiff, reduceIte, hs, e]))
          all_goals try (exfalso;omega)
          exact ⟨⟨i+1,hlt,hN⟩,by simp,by simp only; omega⟩
      · obtain rfl:i=l.length:=by omega
        have ho2:o=(0,50):=by
          rw [ho,hE]
          have:l.findIdx? (fun s=>s.id == id)=none:=by
            rw [List.findIdx?_eq_none_iff]
            intro x hx
            obtain ⟨j,hj,rfl⟩:=List.mem_iff_getElem.1 hx
            have h3:=hb j hj
            rw [List.getD_eq_getElem?_getD,List.getElem?_eq_getElem hj] at h3
            simpa using h3
          rw [this]
        clear ho hE
        subst ho2
        ((refine Au ?_;repeat' constructor)<;>intros<;>refine hD_ ?_)
        all_goals try (exfalso;omega)
        exact Frz.eq rfl (by simp)
  · have hE:stnOf l id=(0,(stnsE l).1):=by unfold stnOf; rw [if_pos he]
    rw [hE]
    generalize (stnsE l).1=z at h1 he
    ((refine Ay @h1 ?_;repeat' constructor)<;>intros<;>refine hD_ ?_)
    all_goals try (exfalso;omega)
    all_goals exact Frz.eq rfl (by simp)
def c241:CF:=⟨83,(jo [jx 1 56 2 0,jc 2 0] [1]
 (.seq (jo [jf 6 0 1,jl 7 6,je 8 7,jw 9 (.call (.f 255) [(.t 8),(.c (.int .i64 1)),(.c (.int .i64 199))]),jv 10 9,jm 11 10,jd 11 (jf 12 1 1),jd 11 (jl 13 12),jd 11 (je 14 13),jd 11 (ju .gtr 15 14 16),jq 16 11 15] [1,16]
 (.cond (.t 16) (jo [jc 2 20] [2]
 .ret)
 .skip))
 (.seq (jo [jc 3 0] [1,3]
 (.block 0 (.loop (.seq (jo [jm 17 3,jf 18 0 1,jl 19 18,je 20 19,jt .lss 21 17 20] [1,3,21]
 (.cond (.t 21) .skip
 (.exit 0)))
 (.seq (.block 1 (.seq (.draw [jf 24 0 1,jl 25 24,jm 26 3,ji 27 2 25 26,jf 28 0 27,jl 29 28,jf 30 0 1,jl 31 30,jm 32 3,ji 33 2 31 32,jf 34 1 33,jl 35 34,jw 36 (.call (.f 255) [(.t 29),(.c (.int .i64 1)),(.t 35)]),jv 37 36,jm 38 37,jd 38 (jf 39 0 1),jd 38 (jl 40 39),jd 38 (jm 41 3),jd 38 (ji 42 2 40 41),jd 38 (jf 43 1 42),jd 38 (jl 44 43),jd 38 (ju .gtr 45 44 40),jq 46 38 45] [] [1,3,46])
 (.cond (.t 46) (jo [jc 2 20] [2]
 .ret)
 .skip)))
 (.ops [jm 22 3,ju .add 23 22 1,jm 3 23] [1,3]))))))
 (.seq (jo [jc 4 0] [1,4]
 (.block 2 (.loop (.seq (jo [jm 47 4,jf 48 1 1,jl 49 48,je 50 49,jt .lss 51 47 50] [1,4,51]
 (.cond (.t 51) .skip
 (.exit 2)))
 (.seq (.block 3 (jo [jf 54 1 1,jl 55 54,jm 56 4,ji 57 3 55 56,jk 58 3 57,jw 5 (.alloc 226 3 [.int .i64 0,.int .i64 0,.int .i64 0]),js 3 5 58] [1,4,5]
 (jo [jf 59 0 5,jl 60 59,jf 61 0 1,jl 62 61,je 63 62,ju .sub 64 63 1,jw 65 (.call (.f 255) [(.t 60),(.c (.int .i64 0)),(.t 64)]),jv 66 65,jm 67 66,jd 67 (jf 68 1 5),jd 67 (jf 69 0 68),jd 67 (jl 70 69),jd 67 (jf 71 1 5),jd 67 (jf 72 1 71),jd 67 (jl 73 72),⟨some 74,.call (.f 255) [(.t 70),(.c (.int .i64 0)),(.t 73)],some (67,false)⟩,jd 67 (jv 75 74),jq 76 67 75,jm 77 76,jd 77 (jf 78 1 5),jd 77 (jf 79 1 78),jd 77 (jl 80 79),jd 77 (ju .gtr 81 80 400),jq 82 77 81] [1,4,82]
 (.cond (.t 82) (jo [jc 2 20] [2]
 .ret)
 .skip))))
 (.ops [jm 52 4,ju .add 53 52 1,jm 4 53] [1,4]))))))
 (jo [jc 2 0] [2]
 .ret))))),[.t 2]⟩
theorem k241:chkF Tryz.prog Tryz.f241 c241=true:=by kernel_rfl
def c216:CF:=⟨79,(jo [jx 1 60 18 0,jb 2 false] [1]
 (jo [jf 7 10 1,jl 8 7,jy 9 239 [8],jm 6 9,jz 10 0 6,jz 11 1 6,jm 3 10,jm 4 11] [1,3]
 (.seq (jo [jf 12 0 1,jk 13 10 12,jy 14 240 [13],ju .neq 15 14 0,jm 16 15,jd 16 (jm 17 3),jd 16 (ju .neq 18 17 0),jq 19 16 18,jm 20 19,jd 20 (jf 21 12 1),jd 20 (jk 22 2 21),jd 20 (jy 23 241 [22]),jd 20 (ju .neq 24 23 0),jq 25 20 24,jm 26 25,jd 26 (jf 27 14 1),jd 26 (jk 28 4 27),jd 26 (jy 29 242 [28]),jd 26 (ju .neq 30 29 0),jq 31 26 30,jm 32 31,jd 32 (jf 33 12 1),jd 32 (jf 34 0 33),jd 32 (jl 35 34),jd 32 (je 36 35),jd 32 (ju .add 37 36 1),jd 32 (jf 38 0 1),jd 32 (jf 39 5 38),jd 32 (jl 40 39),jd 32 (jt .neq 41 37 40),jq 42 32 41] [1,42]
 (.cond (.t 42) (jo [jb 2 false] [2]
 .ret)
 .skip))
 (.seq (jo [jc 5 0] [1,5]
 (.block 0 (.loop (.seq (jo [jm 43 5,jf 44 11 1,jl 45 44,je 46 45,jt .lss 47 43 46] [1,5,47]
 (.cond (.t 47) .skip
 (.exit 0)))
 (.seq (.block 1 (.seq (.draw [jf 50 11 1,jl 51 50,jm 52 5,ji 53 1 51 52,jl 54 53,jf 55 0 1,jf 56 5 55,jl 57 56,ju .sub 58 57 1,jw 59 (.call (.f 113) [(.t 54),(.c (.int .i64 0)),(.t 58)]),jv 60 59,jm 61 60,jd 61 (jm 62 5),jd 61 (ju .gtr 63 62 0),jd 61 (jm 64 63),ja 64 (jf 65 11 1),ja 64 (jl 66 65),ja 64 (jm 67 5),ja 64 (ji 68 1 66 67),ja 64 (jl 69 68),ja 64 (jf 70 11 1),ja 64 (jl 71 70),ja 64 (jm 72 5),ja 64 (ju .sub 73 72 1),ja 64 (ji 74 1 71 73),ja 64 (jl 75 74),ja 64 (jt .leq 76 69 75),jd 61 (jp 77 64 76),jq 78 61 77] [] [1,5,78])
 (.cond (.t 78) (jo [jb 2 false] [2]
 .ret)
 .skip)))
 (.ops [jm 48 5,ju .add 49 48 1,jm 5 49] [1,5]))))))
 (jo [jb 2 true] [2]
 .ret))))),[.t 2]⟩
theorem k216:chkF Tryz.prog Tryz.f216 c216=true:=by kernel_rfl
def c92:CF:=⟨8,(jo [jx 1 68 38 0,jw 2 (.alloc 29 2 [.int .i64 0,.int .i64 0])] [1,2]
 (jo [jf 3 0 1,jl 4 3,jf 5 1 1,jl 6 5,jw 7 (.build [.int .i64 0,.int .i64 0] [(0,1,(.t 4)),(1,1,(.t 6))]),js 2 2 7] [2]
 .ret)),[.c 2 (some 2)]⟩
theorem k92:chkF Tryz.prog Tryz.f92 c92=true:=by kernel_rfl
def c173:CF:=⟨11,(jo [jx 1 29 2 0,jb 2 false] [1]
 (jo [jf 3 0 1,jl 4 3,jw 5 (.call (.f 113) [(.t 4),(.c (.int .i64 1)),(.c (.int .i64 8))]),jm 6 5,ja 6 (jf 7 1 1),ja 6 (jl 8 7),⟨some 9,.call (.f 113) [(.t 8),(.c (.int .i64 1)),(.c (.int .i64 400))],some (6,true)⟩,jp 10 6 9,jm 2 10] [2]
 .ret)),[.t 2]⟩
theorem k173:chkF Tryz.prog Tryz.f173 c173=true:=by kernel_rfl
def c217:CF:=⟨21,(jo [jx 1 62 3 0,jb 2 false] [1]
 (jo [jf 3 0 1,jl 4 3,jw 5 (.call (.f 113) [(.t 4),(.c (.int .i64 0)),(.c (.int .i64 199))]),jm 6 5,ja 6 (jf 7 1 1),ja 6 (jf 8 0 7),ja 6 (jl 9 8),ja 6 (jf 10 1 1),ja 6 (jf 11 1 10),ja 6 (jl 12 11),⟨some 13,.call (.f 113) [(.t 9),(.c (.int .i64 0)),(.t 12)],some (6,true)⟩,jp 14 6 13,jm 15 14,ja 15 (jf 16 1 1),ja 15 (jf 17 1 16),ja 15 (jl 18 17),ja 15 (ju .leq 19 18 400),jp 20 15 19,jm 2 20] [2]
 .ret)),[.t 2]⟩
theorem k217:chkF Tryz.prog Tryz.f217 c217=true:=by kernel_rfl
def c215:CF:=⟨22,(jo [jx 3 26 6 0,jb 6 false] [1,2,3]
 (jo [jf 10 0 3,jl 11 10,jm 12 1,jy 13 152 [11,12],jm 9 13,jz 14 0 9,jz 15 1 9,jm 7 14,jm 8 15] [2,8]
 (jo [jm 16 8,ju .eql 17 16 0,jm 18 17,ja 18 (jm 19 2),⟨some 20,.call (.f 113) [(.t 19),(.c (.int .i64 0)),(.c (.int .i64 10000))],some (18,true)⟩,jp 21 18 20,jm 6 21] [6]
 .ret))),[.t 6]⟩
theorem k215:chkF Tryz.prog Tryz.f215 c215=true:=by kernel_rfl
def c218:CF:=⟨33,(jo [jx 2 26 6 0,jx 3 64 5 1,jb 4 false] [2,3]
 (jo [jk 5 6 2,jf 6 0 3,jl 7 6,jf 8 1 3,jl 9 8,jy 10 215 [5,7,9],jm 11 10,ja 11 (jf 12 2 3),ja 11 (jl 13 12),ja 11 (jf 14 4 2),ja 11 (jl 15 14),⟨some 16,.call (.f 113) [(.t 13),(.c (.int .i64 0)),(.t 15)],some (11,true)⟩,jp 17 11 16,jm 18 17,ja 18 (jf 19 3 3),ja 18 (jf 20 0 19),ja 18 (jl 21 20),ja 18 (jf 22 3 3),ja 18 (jf 23 1 22),ja 18 (jl 24 23),⟨some 25,.call (.f 113) [(.t 21),(.c (.int .i64 0)),(.t 24)],some (18,true)⟩,jp 26 18 25,jm 27 26,ja 27 (jf 28 3 3),ja 27 (jf 29 1 28),ja 27 (jl 30 29),ja 27 (ju .leq 31 30 12000),jp 32 27 31,jm 4 32] [4]
 .ret)),[.t 4]⟩
theorem k218:chkF Tryz.prog Tryz.f218 c218=true:=by kernel_rfl
def c44:CF:=⟨39,(jo [jx 1 26 6 0,jc 2 0] [1]
 (jo [jf 6 0 1,jl 7 6,jy 8 111 [7],jm 5 8,jz 9 0 5,jz 10 1 5,jm 3 9,jm 4 10] [1,3]
 (.seq (jo [jm 11 3,ju .neq 12 11 0,jm 13 12,jd 13 (jf 14 1 1),jd 13 (jk 15 2 14),jd 13 (jy 16 112 [15]),jd 13 (ju .neq 17 16 0),jq 18 13 17,jm 19 18,jd 19 (jf 20 4 1),jd 19 (jl 21 20),⟨some 22,.call (.f 113) [(.t 21),(.c (.int .i64 1)),(.c (.int .i64 400))],some (19,false)⟩,jd 19 (jv 23 22),jq 24 19 23,jm 25 24,jd 25 (jf 26 3 1),jd 25 (jl 27 26),jd 25 (jf 28 4 1),jd 25 (jl 29 28),⟨some 30,.call (.f 113) [(.t 27),(.c (.int .i64 0)),(.t 29)],some (25,false)⟩,jd 25 (jv 31 30),jq 32 25 31,jm 33 32,jd 33 (jf 34 5 1),jd 33 (jl 35 34),⟨some 36,.call (.f 113) [(.t 35),(.c (.int .i64 1)),(.c (.int .i64 8))],some (33,false)⟩,jd 33 (jv 37 36),jq 38 33 37] [38]
 (.cond (.t 38) (jo [jc 2 100] [2]
 .ret)
 .skip))
 (jo [jc 2 0] [2]
 .ret)))),[.t 2]⟩
theorem k44:chkF Tryz.prog Tryz.f44 c44=true:=by kernel_rfl
theorem mem_at {α:Type} {l:List α} {p:α→Prop} (d:α):(∀ x∈l,p x)↔∀ j,j < l.length→p (l.getD j d):=by
  constructor
  · intro h j hj
    rw [List.getD_eq_getElem?_getD,List.getElem?_eq_getElem hj]; exact h _ (List.getElem_mem hj)
  · intro h x hx
    obtain ⟨j,hj,rfl⟩:=List.mem_iff_getElem.1 hx
    have:=h j hj
    rw [List.getD_eq_getElem?_getD,List.getElem?_eq_getElem hj] at this
    exact this
theorem rDrum_spec (rates:List Sp) (stops:List Mk) (hr:rates.length < 9223372036854775808) (hs:stops.length < 9223372036854775808):Pure Tryz.prog 241 [.agg [spnS rates,mkS stops]] (n (if drumOk rates stops then 0 else 20)):=by
  refine pB_ Tryz.call241 Tryz.func241 k241 ?_
  unfold c241
  have hw:=within_r2 rates.length 1 199
  by_cases h0:inr rates.length 1 199∧stops.length≤16
  · obtain ⟨h1,h2⟩:=h0
    rw [decide_eq_true h1] at hw
    ((refine Ay @hw ?_;repeat' constructor)<;>intros<;>refine hD_ ?_)
    all_goals try (exfalso;omega)
    refine AWPC.loopI 3 rates.length (fun i=>∀ j,j < i→spIn (rates.getD j ⟨0,0⟩) 1 40) (by simp) ?_ ?_
    · (simp only [zN,zT,zV,zS,zU,Q0,Q1,ex,Q2,Q3,Q4,Q5,Q6,Q7,Q8,Q9,QA,QB,QC,Nat.reduceBEq,reduceAdd,reduceSub,reduceLT,reduceLeDiff,reduceMul,reduceEqDiff,reduceIte]; try simp)
    · intro i hi hb
      by_cases hlt:i < rates.length
      · have hx:(rates.map Sp.cs).getD i []=Sp.cs (rates.getD i ⟨0,0⟩):=row _ hlt
        have hin:spIn (rates.getD i ⟨0,0⟩) 1 40→_:=fun h=>all_next (p:=fun j=>spIn (rates.getD j ⟨0,0⟩) 1 40) hb h
        have hout:¬ spIn (rates.getD i ⟨0,0⟩) 1 40→¬ drumOk rates stops:=fun h g=>h ((mem_at ⟨0,0⟩).1 g.2.2.1 i hlt)
        generalize rates.getD i ⟨0,0⟩=g at hx hin hout
        ((refine Az @hx (within_r2 g.lo 1 g.hi) ?_;repeat' constructor)<;>intros<;>refine hD_ ?_)
        all_goals try (exfalso;omega)
        · rename_i h
          rw [if_neg (hout (by omega))]
          exact Frz.eq rfl (by simp)
        · rename_i h
          exact ⟨⟨i+1,hlt,hin (by omega)⟩,by simp,by simp only; omega⟩
      · obtain rfl:i=rates.length:=by omega
        ((refine Au ?_;repeat' constructor)<;>intros<;>refine hD_ ?_)
        all_goals try (exfalso;omega)
        refine AWPC.loopE (α:={ x:Nat × Sto // x.1≤stops.length∧∀ j,j < x.1→inr (stops.getD j mk0).col 0 ((rates.length:Int) - 1)∧spIn (stops.getD j mk0).ticks 0 400 }) [4] (fun x=>[(4,n x.1.1)]) (fun x=>x.1.2) (fun x=>stops.length - x.1.1) ⟨(0,[]),by simp,by simp⟩ ?_ rfl ?_
        · (simp only [zN,zT,zV,zS,zU,Q0,Q1,ex,Q2,Q3,Q4,Q5,Q6,Q7,Q8,Q9,QA,QB,QC,Nat.reduceBEq,reduceAdd,reduceSub,reduceLT,reduceLeDiff,reduceMul,reduceEqDiff,reduceIte]; try simp)
        · rintro ⟨⟨i,τ⟩,hi,hc⟩
          simp only at hi hc
          by_cases hlt:i < stops.length
          · have hx:(stops.map Mk.cs).getD i []=Mk.cs (stops.getD i mk0):=row _ hlt
            have hin:inr (stops.getD i mk0).col 0 ((rates.length:Int) - 1)∧spIn (stops.getD i mk0).ticks 0 400→_:=fun h=>all_next (p:=fun j=>inr (stops.getD j mk0).col 0 ((rates.length:Int) - 1)∧spIn (stops.getD j mk0).ticks 0 400) hc h
            have hout:¬ (inr (stops.getD i mk0).col 0 ((rates.length:Int) - 1)∧spIn (stops.getD i mk0).ticks 0 400)→¬ drumOk rates stops:=fun h g=>h ((mem_at mk0).1 g.2.2.2 i hlt)
            generalize stops.getD i mk0=g at hx hin hout
            ((refine Az @hx (And.intro (within_r2 g.col 0 ((rates.length:Int) - 1)) (within_r2 g.ticks.lo 0 g.ticks.hi)) ?_;repeat' constructor)<;>intros<;>refine hD_ ?_)
            all_goals try (exfalso;omega)
            · rename_i h
              rw [if_neg (hout (by omega))]
              exact Frz.eq rfl (by simp)
            · rename_i h
              exact ⟨⟨(i+1,_),hlt,hin (by omega)⟩,by simp,rfl,by simp only; omega⟩
          · obtain rfl:i=stops.length:=by omega
            rw [if_pos (show drumOk rates stops from ⟨h1,h2,(mem_at ⟨0,0⟩).2 hb,(mem_at mk0).2 hc⟩)]
            ((refine Au ?_;repeat' constructor)<;>intros<;>refine hD_ ?_)
            all_goals try (exfalso;omega)
            exact Frz.eq rfl (by simp)
  · rw [if_neg (fun g:drumOk rates stops=>h0 ⟨g.1,g.2.1⟩)]
    ((refine Ay @hw ?_;repeat' constructor)<;>intros<;>refine hD_ ?_)
    all_goals try (exfalso;omega)
    all_goals exact Frz.eq rfl (by simp)
theorem rValid_spec (s:Sht) (hs:shtSz s):Pure Tryz.prog 216 [.agg s.cs] (bl (decide s.ok)):=by
  refine pB_ Tryz.call216 Tryz.func216 k216 ?_
  unfold c216
  have h1:=rCheckTrace_spec s.trace hs.1
  have h2:=rCheckPaper_spec s.paper
  have h3:=rDrum_spec s.rates s.stops hs.2.2.1 hs.2.2.2
  have h4:=rCheckPen_spec s.pen
  have hb:=hs.2.1
  have hr:=hs.2.2.1
  have hd:s.ok↔(traceE s.trace).1=0∧s.paper.ok∧drumOk s.rates s.stops∧s.pen.ok∧blotsOk s.paper.cols s.blots∧(s.rates.length:Int)+1=s.paper.cols:=Iff.rfl
  by_cases hall:((traceE s.trace).1=0∧s.paper.ok∧drumOk s.rates s.stops∧s.pen.ok)∧(s.rates.length:Int)+1=s.paper.cols
  · obtain ⟨⟨g1,g2,g3,g4⟩,g5⟩:=hall
    rw [g1] at h1; rw [if_pos g2] at h2; rw [if_pos g3] at h3; rw [if_pos g4] at h4
    have hd2:s.ok↔blotsOk s.paper.cols s.blots:=by rw [hd]; exact ⟨fun h=>h.2.2.2.2.1,fun h=>⟨g1,g2,g3,g4,h,g5⟩⟩
    have hc:1≤s.paper.cols∧s.paper.cols≤200:=by unfold Ppr.ok at g2; omega
    have hr9:s.rates.length≤199:=by unfold drumOk at g3; omega
    ((refine Az @g5 (And.intro @h1 (And.intro @h2 (And.intro @h3 @h4))) ?_;repeat' constructor)<;>intros<;>refine hD_ ?_)
    all_goals try (exfalso;omega)
    refine AWPC.loopI 5 s.blots.length (fun i=>∀ j,j < i→inr (s.blots.getD j 0) 0 (s.paper.cols - 1)∧(0 < j→s.blots.getD (j - 1) 0 < s.blots.getD j 0)) (by simp) ?_ ?_
    · (simp only [zN,zT,zV,zS,zU,Q0,Q1,ex,Q2,Q3,Q4,Q5,Q6,Q7,Q8,Q9,QA,QB,QC,Nat.reduceBEq,reduceAdd,reduceSub,reduceLT,reduceLeDiff,reduceMul,reduceEqDiff,reduceIte]; try simp)
    · intro i hi hI
      by_cases hlt:i < s.blots.length
      · have hx:(s.blots.map fun z=>[n z]).getD i []=[n (s.blots.getD i 0)]:=row (f:=fun z=>[n z]) 0 hlt
        have hp:(s.blots.map fun z=>[n z]).getD ((i:Int) - 1).toNat []=[n (s.blots.getD (i - 1) 0)]:=rowPrev (f:=fun z=>[n z]) 0 hlt
        generalize hg:s.blots.getD i 0=x at hx
        generalize hg':s.blots.getD (i - 1) 0=y at hp
        ((refine Az (And.intro @hx @hp) (within_r x 0 (s.paper.cols - 1)) ?_;repeat' constructor)<;>intros<;>refine hD_ ?_)
        all_goals try (exfalso;omega)
        · rename_i h
          rw [decide_eq_false fun g=>?_]
          · exact Frz.eq rfl (by simp)
          · have:=(hd2.1 g) i hlt
            rw [hg,hg'] at this
            omega
        · rename_i h
          exact ⟨⟨i+1,hlt,all_next hI (by rw [hg,hg']; omega)⟩,by simp,by simp only; omega⟩
      · obtain rfl:i=s.blots.length:=by omega
        rw [decide_eq_true (hd2.2 hI)]
        ((refine Au ?_;repeat' constructor)<;>intros<;>refine hD_ ?_)
        all_goals try (exfalso;omega)
        exact Frz.eq rfl (by simp)
  · rw [decide_eq_false fun g=>hall (by rw [hd] at g; exact ⟨⟨g.1,g.2.1,g.2.2.1,g.2.2.2.1⟩,g.2.2.2.2.2⟩)]
    have hw:¬ (((traceE s.trace).1=0∧(if s.paper.ok then (0:Int) else 10)=0∧(if drumOk s.rates s.stops then (0:Int) else 20)=0∧(if s.pen.ok then (0:Int) else 30)=0)∧(s.rates.length:Int)+1=s.paper.cols):=by
      intro ⟨⟨g1,g2,g3,g4⟩,g5⟩
      refine hall ⟨⟨g1,?_,?_,?_⟩,g5⟩
      · exact Decidable.byContradiction fun hn=>by rw [if_neg hn] at g2; omega
      · exact Decidable.byContradiction fun hn=>by rw [if_neg hn] at g3; omega
      · exact Decidable.byContradiction fun hn=>by rw [if_neg hn] at g4; omega
    have hr9:(if drumOk s.rates s.stops then (0:Int) else 20)=0→s.rates.length≤199:=fun h=>by
      have g3:drumOk s.rates s.stops:=Decidable.byContradiction fun hn=>by rw [if_neg hn] at h; omega
      unfold drumOk at g3; omega
    generalize (if s.paper.ok then (0:Int) else 10)=x2 at h2 hw
    generalize (if drumOk s.rates s.stops then (0:Int) else 20)=x3 at h3 hw hr9
    generalize (if s.pen.ok then (0:Int) else 30)=x4 at h4 hw
    ((refine Ay (And.intro @h1 (And.intro @h2 (And.intro @h3 @h4))) ?_;repeat' constructor)<;>intros<;>refine hD_ ?_)
    all_goals first
      | exact Frz.eq rfl (by simp)
      | (rename_i h
         exfalso
         simp only [not_or,Classical.not_not] at h
         obtain ⟨⟨⟨⟨u2,u1⟩,u3⟩,u4⟩,u5⟩:=h
         have hr8:=hr9 u3
         simp (disch:=omega) only [wr64] at u5
         exact hw ⟨⟨u1,u2,u3,u4⟩,u5⟩)
theorem rName_spec (a:Nt):Pure Tryz.prog 92 [.agg a.cs] (.agg [n a.clerk,n a.num]):=by
  refine pB_ Tryz.call92 Tryz.func92 k92 ?_
  unfold c92
  ((refine Au ?_;repeat' constructor)<;>intros<;>refine hD_ ?_)
  all_goals exact Frz.eq rfl (by simp)
theorem rRight_spec (m:Nm):Pure Tryz.prog 173 [.agg m.cs] (bl (decide m.ok)):=by
  refine pB_ Tryz.call173 Tryz.func173 k173 ?_
  unfold c173
  ((refine Ay (And.intro (within_r m.clerk 1 8) (within_r m.num 1 400)) ?_;repeat' constructor)<;>intros<;>refine hD_ ?_)
  all_goals exact Frz.eq (congrArg bl (by first | rfl | (unfold Nm.ok; first | rfl | (rw [Bool.eq_iff_iff]; simp <;> try omega)))) (by simp)
theorem rMark_spec (m:Mk):Pure Tryz.prog 217 [.agg m.cs] (bl (decide m.ok)):=by
  refine pB_ Tryz.call217 Tryz.func217 k217 ?_
  unfold c217
  ((refine Ay (And.intro (within_r m.col 0 199) (within_r m.ticks.lo 0 m.ticks.hi)) ?_;repeat' constructor)<;>intros<;>refine hD_ ?_)
  all_goals exact Frz.eq (congrArg bl (by rw [Bool.eq_iff_iff]; simp only [decide_eq_true_iff,Bool.and_eq_true,Bool.or_eq_true]; unfold Mk.ok inr spIn; omega)) (by simp)
theorem rPlace_spec (b:Bse) (hb:bseSz b) (s w:Int):Pure Tryz.prog 215 [.agg b.cs,n s,n w] (bl (decide (placed b s w))):=by
  refine pB_ Tryz.call215 Tryz.func215 k215 ?_
  unfold c215
  ((refine Ay (And.intro (rStationOf_spec b.stns hb s) (within_r w 0 10000)) ?_;repeat' constructor)<;>intros<;>refine hD_ ?_)
  all_goals exact Frz.eq (congrArg bl (by unfold placed; first | rfl | (rw [Bool.eq_iff_iff]; simp <;> try omega))) (by simp)
theorem rRead_spec (b:Bse) (hb:bseSz b) (r:Rd):Pure Tryz.prog 218 [.agg b.cs,.agg r.cs] (bl (decide (r.ok b))):=by
  refine pB_ Tryz.call218 Tryz.func218 k218 ?_
  unfold c218
  have h1:=rPlace_spec b hb r.stn r.week
  have hd:r.ok b↔placed b r.stn r.week∧inr r.tick 0 b.ticks∧spIn r.levels 0 12000:=Iff.rfl
  by_cases hp:placed b r.stn r.week
  · rw [decide_eq_true hp] at h1
    ((refine Ay (And.intro @h1 (And.intro (within_r r.tick 0 b.ticks) (within_r r.levels.lo 0 r.levels.hi))) ?_;repeat' constructor)<;>intros<;>refine hD_ ?_)
    all_goals refine Frz.eq (congrArg bl ?_) (by simp)
    all_goals (rw [Bool.eq_iff_iff]; simp [hd,hp] <;> try omega)
  · rw [decide_eq_false hp] at h1
    ((refine Ay (And.intro @h1 (And.intro (within_r r.tick 0 b.ticks) (within_r r.levels.lo 0 r.levels.hi))) ?_;repeat' constructor)<;>intros<;>refine hD_ ?_)
    all_goals refine Frz.eq (congrArg bl ?_) (by simp)
    all_goals (rw [Bool.eq_iff_iff]; simp [hd,hp])
theorem rCheckBase_spec (b:Bse) (hb:bseSz b):Pure Tryz.prog 44 [.agg b.cs] (n (if b.ok then 0 else 100)):=by
  refine pB_ Tryz.call44 Tryz.func44 k44 ?_
  unfold c44
  have h1:=rWind_spec b.fixed b.each
  ((refine Ay (And.intro (rCheckStn_spec b.stns hb) (And.intro @h1 (And.intro (within_r b.ticks 1 400) (And.intro (within_r b.term 0 b.ticks) (within_r b.clerks 1 8))))) ?_;repeat' constructor)<;>intros<;>refine hD_ ?_)
  all_goals try (exfalso;omega)
  · rename_i h
    rw [if_neg (fun g=>?_)]
    · exact Frz.eq rfl (by simp)
    · obtain ⟨g1,g2,g3,g4,g5,g6⟩:=g
      rw [if_pos ⟨g2,g3⟩] at h; omega
  · rename_i h
    have hw:inr b.fixed 0 12000∧inr b.each 0 10000:=Decidable.byContradiction fun hn=>by rw [if_neg hn] at h; omega
    rw [if_pos (by unfold Bse.ok; omega)]; exact Frz.eq rfl (by simp)
end Go.Proofs.YtolgelipcgcbhaaGreat
namespace Go.Abs
set_option linter.unusedVariables false
set_option linter.unusedSimpArgs false
theorem sgnN {a b:Int}:sgn a b < 0↔a < b:=by unfold sgn; repeat' split <;> omega
theorem sgnZ {a b:Int}:sgn a b=0↔a=b:=by unfold sgn; repeat' split <;> omega
theorem orIN {a b:Int}:orI a b < 0↔a < 0∨a=0∧b < 0:=by unfold orI; split <;> omega
theorem orIZ {a b:Int}:orI a b=0↔a=0∧b=0:=by unfold orI; split <;> omega
theorem cmpN_lt {a b:Nm}:cmpN a b < 0↔a.clerk < b.clerk∨a.clerk=b.clerk∧a.num < b.num:=by
  unfold cmpN; rw [orIN,sgnN,sgnN,sgnZ]
theorem cmpN_eq {a b:Nm}:cmpN a b=0↔a=b:=by
  unfold cmpN; rw [orIZ,sgnZ,sgnZ]; cases a; cases b; simp
theorem cmpT_lt {a b:Nt}:cmpT a b < 0↔a.day < b.day∨a.day=b.day∧(a.clock < b.clock∨a.clock=b.clock∧(a.clerk < b.clerk∨a.clerk=b.clerk∧a.num < b.num)):=by
  unfold cmpT; rw [orIN,orIN,sgnN,sgnN,sgnZ,sgnZ,cmpN_lt]
theorem cmpT_eq {a b:Nt}:cmpT a b=0↔a.day=b.day∧a.clock=b.clock∧a.nm=b.nm:=by
  unfold cmpT; rw [orIZ,orIZ,sgnZ,sgnZ,cmpN_eq]
theorem cmpN_gt {a b:Nm}:0 < cmpN a b↔cmpN b a < 0:=by
  rw [cmpN_lt]; unfold cmpN orI sgn; repeat' split <;> omega
theorem cmpT_gt {a b:Nt}:0 < cmpT a b↔cmpT b a < 0:=by
  have h1:=@cmpT_lt b a
  have h2:=@cmpT_lt a b
  have h3:=@cmpT_eq a b
  have h4:a.nm=b.nm↔a.clerk=b.clerk∧a.num=b.num:=by simp [Nt.nm]
  rw [h4] at h3
  omega
theorem sorted_one {α:Type} {lt:α→α→Prop} (hirr:∀ a b,lt a b→¬ lt b a):∀ {l m:List α},l.Perm m→l.Pairwise lt→m.Pairwise lt→l=m
  | [],m,h,_,_=>(List.nil_perm.1 h).symm
  | a::r,[],h,_,_=>absurd h.symm (by simp)
  | a::r,b::s,h,h1,h2=>by
    have hab:a=b:=by
      have ha:a∈b::s:=h.mem_iff.1 (by simp)
      have hb:b∈a::r:=h.mem_iff.2 (by simp)
      rcases List.mem_cons.1 ha with rfl | ha
      · rfl
      rcases List.mem_cons.1 hb with rfl | hb
      · rfl
      exact absurd ((List.pairwise_cons.1 h1).1 b hb) (hirr _ _ ((List.pairwise_cons.1 h2).1 a ha))
    subst hab
    rw [sorted_one hirr (List.Perm.cons_inv h) (List.pairwise_cons.1 h1).2 (List.pairwise_cons.1 h2).2]
theorem insT_perm (a:Nt):∀ l,(insT a l).Perm (a::l)
  | []=>.refl _
  | x::r=>by
    unfold insT
    split
    · exact .refl _
    · exact ((insT_perm a r).cons x).trans (.swap a x r)
theorem srtT_perm':∀ (l o:List Nt),(l.foldl (fun o a=>insT a o) o).Perm (l++o)
  | [],o=>.refl _
  | a::r,o=>by
    rw [List.foldl_cons]
    exact (srtT_perm' r _).trans (((insT_perm a o).append_left r).trans List.perm_middle)
theorem srtT_perm (l:List Nt):(srtT l).Perm l:=by have:=srtT_perm' l []; rwa [List.append_nil] at this
theorem insT_le {a:Nt}:∀ {l:List Nt},l.Pairwise (fun x y=>0≤cmpT y x)→(insT a l).Pairwise (fun x y=>0≤cmpT y x)
  | [],_=>by simp [insT]
  | x::r,h=>by
    have htr:∀ {p q s:Nt},0≤cmpT q p→0≤cmpT s q→0≤cmpT s p:=fun {p q s} h1 h2=>by
      have:=@cmpT_lt q p; have:=@cmpT_lt s q; have:=@cmpT_lt s p; omega
    rw [List.pairwise_cons] at h
    unfold insT
    split
    · rename_i hc
      have h0:0≤cmpT x a:=by have:=@cmpT_gt a x; have:=@cmpT_gt x a; omega
      refine List.pairwise_cons.2 ⟨fun y hy=>?_,List.pairwise_cons.2 h⟩
      rcases List.mem_cons.1 hy with rfl | hy
      · exact h0
      · exact htr h0 (h.1 y hy)
    · rename_i hc
      refine List.pairwise_cons.2 ⟨fun y hy=>?_,insT_le h.2⟩
      rcases List.mem_cons.1 ((insT_perm a r).mem_iff.1 hy) with rfl | hy
      · omega
      · exact h.1 y hy
theorem srtT_le (l:List Nt):(srtT l).Pairwise (fun x y=>0≤cmpT y x):=by
  have:∀ (l o:List Nt),o.Pairwise (fun x y=>0≤cmpT y x)→(l.foldl (fun o a=>insT a o) o).Pairwise (fun x y=>0≤cmpT y x):=by
    intro l
    induction l with
    | nil=>exact fun o h=>h
    | cons a r ih=>exact fun o h=>ih _ (insT_le h)
  exact this l [] .nil
theorem srtT_one {l m:List Nt} (hn:(l.map Nt.nm).Nodup) (hp:m.Perm l) (hs:m.Pairwise (fun x y=>0≤cmpT y x)):m=srtT l:=by
  have key:∀ {p:List Nt},p.Perm l→p.Pairwise (fun x y=>0≤cmpT y x)→p.Pairwise (fun x y=>cmpT x y < 0):=fun {p} h1 h2=>by
    have hn':(p.map Nt.nm).Nodup:=(h1.map Nt.nm).nodup_iff.2 hn
    rw [List.Nodup,List.pairwise_map] at hn'
    refine (List.Pairwise.and h2 hn').imp fun {x y} ⟨h,h'⟩=>?_
    have g1:=@cmpT_eq x y
    have g2:=@cmpT_gt x y
    have:¬ cmpT x y=0:=fun e=>h' (g1.1 e).2.2
    omega
  exact sorted_one (lt:=fun x y=>cmpT x y < 0) (fun a b h h'=>by have:=@cmpT_gt a b; omega) (hp.trans (srtT_perm l).symm) (key hp hs) (key (srtT_perm l) (srtT_le l))
theorem Frz.ptr {σ:Sto} {f i n e j:Nat} {o:Ob} {cs:List AV} (ho:σ.at f i=some o) (hn:o.es.length=n) (he:e < n) (hl:(o.es.getD e []).length=cs.length)
    (h:∀ t,t < cs.length→Frz σ ((o.es.getD e []).getD t .any) (cs.getD t .any)):Frz σ (.ptr f i n e j) (.iptr cs j):=fun w X β x hs hx=>by
  have hob:=hs.obj f i o ho
  cases hx with
  | ptr _ _ _ _ _ _ h1c hf hle hh =>
    obtain ⟨b,hb,rfl⟩:=hh o ho hn
    have h2:=hob.2
    rw [hb] at h2
    have hlp:=hob.lp_none (e:=e) (by omega)
    obtain ⟨c,hc,hsz,hone,hr⟩:=h2.1 hlp
    have hrow:=hob.1 e (by omega)
    have hml:=mul_lt (k:=o.k) (show e < o.es.length by omega)
    refine .iptr cs j b (e * o.k) (fun t=>c.getD (e * o.k+t) undef) (fun t ht hx=>hs.dis f i o b ho hb hx) (fun t ht=>hone e t (by omega) (by omega)) (fun t ht=>?_) fun t ht=>h t ht w X β _ hs (hr e t (by omega) (by omega))
    rw [cell_of_row w b _ c _ _ hc]
    simp [Array.getD_eq_getD_getElem?,show e * o.k+t < c.size by omega]
theorem Frz.fn {σ:Sto} {g:Fn} {av bs cs ds:List AV} (hl:av.length=cs.length) (hm:bs.length=ds.length) (h:∀ i,i < av.length→Frz σ (av.getD i .any) (cs.getD i .any)) (h':∀ i,i < bs.length→Frz σ (bs.getD i .any) (ds.getD i .any)):Frz σ (.fn g av bs) (.fn g cs ds):=fun w X β x hs hx=>by
  cases hx with
  | fn _ _ _ xs ys hn hm' hr hr'=>exact .fn g cs ds xs ys (hn.trans hl) (hm'.trans hm) (fun i hi=>h i (by omega) w X β _ hs (hr i (by omega))) fun i hi=>h' i (by omega) w X β _ hs (hr' i (by omega))
theorem Frz.fnL {σ:Sto} {g:Fn} {bs ds:List AV} (h:FL σ bs ds):Frz σ (.fn g [] bs) (.fn g [] ds):=Frz.fn rfl h.len (fun i hi=>absurd hi (Nat.not_lt_zero _)) h.get
theorem Frz.ownL {α:Type} {σ:Sto} {f n:Nat} {T k:Nat} {cs:α→List AV} {l:List α} (ho:σ.at f 0=some ⟨T,k,l.map cs,none⟩) (hn:l.length=n) (hk0:k≠0) (hc:∀ a,∀ c∈cs a,PureV c) (hk:∀ a,(cs a).length=k):Frz σ (.own f 0 n) (.sl k (l.map cs)):=by
  refine Frz.own (o:=⟨T,k,l.map cs,none⟩) hk0 ho (by simp [hn]) (by simp [hn]) (fun e j he hj=>Frz.eq rfl ?_) fun e he=>?_
  · have he':e < l.length:=by omega
    simp only [List.getD_eq_getElem?_getD,List.getElem?_map,List.getElem?_eq_getElem he',Option.map_some,Option.getD_some]
    have hj':j < (cs l[e]).length:=by rw [hk]; exact hj
    rw [List.getElem?_eq_getElem hj']; exact hc _ _ (List.getElem_mem hj')
  · have he':e < l.length:=by omega
    simp only [List.getD_eq_getElem?_getD,List.getElem?_map,List.getElem?_eq_getElem he',Option.map_some,Option.getD_some]
    exact hk _
theorem Frz.tightL {α:Type} {σ:Sto} {f n:Nat} {T k:Nat} {cs:α→List AV} {l:List α} (ho:σ.at f 0=some ⟨T,k,l.map cs,none⟩) (hn:l.length=n) (hk0:k≠0) (hc:∀ a,∀ c∈cs a,PureV c) (hk:∀ a,(cs a).length=k):Frz σ (.tight f 0 n) (.fresh k (l.map cs)):=fun w X β x hs hx=>by
  cases hx with
  | tight _ _ _ _ h hcap =>
    obtain ⟨a,rfl⟩:=hcap
    exact .fresh _ _ _ (Frz.ownL ho hn hk0 hc hk w X β _ hs h) ⟨a,by rw [List.length_map,hn]⟩
theorem Pure.slack {P:Program} {f:Nat} {args:List AV} {k:Nat} {es:List (List AV)} (h:Pure P f args (.fresh k es)):Pure P f args (.sl k es) :=
  ⟨h.ent,fun X w xs h1 h2 h3=>(h.go X w xs h1 h2 h3).mono fun e w' ⟨x,he,hr,hrest⟩=>⟨x,he,(by cases hr with | fresh _ _ _ h' _=>exact h'),hrest⟩⟩
def goneM (l:List Nt):List (Nm × Bool):=l.foldl (fun m a=>if a.kind=7 then kset m a.ref true else m) []
theorem goneM_next {l:List Nt} {i:Nat} {a:Nt} (h:l[i]?=some a):goneM (l.take (i+1))=if a.kind=7 then kset (goneM (l.take i)) a.ref true else goneM (l.take i):=by
  have e:l.take (i+1)=l.take i++[a]:=by rw [List.take_add_one,h]; rfl
  unfold goneM
  rw [e,List.foldl_append]; rfl
theorem kget_goneF (m:Nm):∀ (l:List Nt) (M:List (Nm × Bool)),(kget (l.foldl (fun m a=>if a.kind=7 then kset m a.ref true else m) M) m)=if goneT l m then some true else kget M m
  | [],M=>by simp [goneT]
  | a::r,M=>by
    rw [List.foldl_cons,kget_goneF m r]
    by_cases h:goneT r m=true
    · simp only [goneT,List.any_cons] at h ⊢; simp [h]
    · have h':goneT (a::r) m=(a.kind == 7 && a.ref == m):=by simp only [goneT,List.any_cons] at h ⊢; simp [h]
      rw [h']
      simp only [h]
      by_cases hk:a.kind=7
      · rw [if_pos hk,kget_kset]
        by_cases hm:m=a.ref
        · subst hm; simp [hk]
        · have:¬ a.ref=m:=fun e=>hm e.symm
          simp [hk,hm,this]
      · simp [hk]
theorem kget_goneM (l:List Nt) (m:Nm):kget (goneM l) m=if goneT l m then some true else none:=kget_goneF m l []
theorem filter_next {α:Type} {q:α→Bool} {l:List α} {i:Nat} {a:α} (h:l[i]?=some a):(l.take (i+1)).filter q=if q a then (l.take i).filter q++[a] else (l.take i).filter q:=by
  have e:l.take (i+1)=l.take i++[a]:=by rw [List.take_add_one,h]; rfl
  rw [e,List.filter_append]
  by_cases hq:q a=true <;> simp [hq]
end Go.Abs
