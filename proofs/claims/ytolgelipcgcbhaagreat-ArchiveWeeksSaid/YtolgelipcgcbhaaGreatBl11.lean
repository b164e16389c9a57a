/- Part 11 of the texts that the claim rests on: abstract values over the walk, and contracts of functions. -/
import Derived.Test.YtolgelipcgcbhaaGreatBl10
import Derived.Test.YtolgelipcgcbhaaGreatRows
namespace Go.Proofs.YtolgelipcgcbhaaGreat
open Go.Abs
open Nat (reduceAdd reduceSub reduceLT reduceLeDiff reduceMul reduceEqDiff)
set_option linter.unusedVariables false
set_option linter.unusedSimpArgs false
set_option maxHeartbeats 4000000
set_option maxRecDepth 100000
def c28:CF:=⟨26,(jo [jb 4 false] [0,1]
 (.seq (jo [jm 6 0,je 7 6,jm 8 1,je 9 8,jt .neq 10 7 9] [0,1,10]
 (.cond (.t 10) (jo [jb 4 false] [4]
 .ret)
 .skip))
 (.seq (jo [jc 5 0] [0,1,5]
 (.block 0 (.loop (.seq (jo [jm 11 5,jm 12 0,je 13 12,jt .lss 14 11 13] [0,1,5,14]
 (.cond (.t 14) .skip
 (.exit 0)))
 (.seq (.block 1 (.seq (.draw [jm 17 0,jm 18 5,ji 19 2 17 18,jk 20 2 19,jm 21 1,jm 22 5,ji 23 2 21 22,jk 24 2 23,jw 25 (.eqs true [some .i64,some .i64] (.t 20) (.t 24))] [] [0,1,5,25])
 (.cond (.t 25) (jo [jb 4 false] [4]
 .ret)
 .skip)))
 (.ops [jm 15 5,ju .add 16 15 1,jm 5 16] [0,1,5]))))))
 (jo [jb 4 true] [4]
 .ret)))),[.t 4]⟩
theorem k28:chkF Tryz.prog Tryz.f28 c28=true:=by kernel_rfl
def c68:CF:=⟨26,(jo [jb 4 false] [0,1]
 (.seq (jo [jm 6 0,je 7 6,jm 8 1,je 9 8,jt .neq 10 7 9] [0,1,10]
 (.cond (.t 10) (jo [jb 4 false] [4]
 .ret)
 .skip))
 (.seq (jo [jc 5 0] [0,1,5]
 (.block 0 (.loop (.seq (jo [jm 11 5,jm 12 0,je 13 12,jt .lss 14 11 13] [0,1,5,14]
 (.cond (.t 14) .skip
 (.exit 0)))
 (.seq (.block 1 (.seq (.draw [jm 17 0,jm 18 5,ji 19 1 17 18,jl 20 19,jm 21 1,jm 22 5,ji 23 1 21 22,jl 24 23,jt .neq 25 20 24] [] [0,1,5,25])
 (.cond (.t 25) (jo [jb 4 false] [4]
 .ret)
 .skip)))
 (.ops [jm 15 5,ju .add 16 15 1,jm 5 16] [0,1,5]))))))
 (jo [jb 4 true] [4]
 .ret)))),[.t 4]⟩
theorem k68:chkF Tryz.prog Tryz.f68 c68=true:=by kernel_rfl
def c77:CF:=⟨8,(jo [jw 0 (.alloc 26 6 [.slice none 0 0,.int .i64 0,.int .i64 0,.int .i64 0,.int .i64 0,.int .i64 0])] [0]
 (jo [jw 1 (.build [.int .i64 0,.int .i64 0] [(0,1,(.c (.int .i64 100))),(1,1,(.c (.int .i64 100)))]),jw 2 (.build [.int .i64 0,.int .i64 0,.int .i64 0] [(1,2,(.t 1))]),jw 3 (.bsl false 66 3 1 [.int .i64 0,.int .i64 0,.int .i64 0] [(0,3,(.t 2))]),jw 4 (.build [.int .i64 0,.int .i64 0,.int .i64 0,.slice none 0 0] [(0,1,(.c (.int .i64 5))),(3,1,(.t 3))]),jw 5 (.bsl false 109 4 1 [.int .i64 0,.int .i64 0,.int .i64 0,.slice none 0 0] [(0,4,(.t 4))]),jw 6 (.build [.int .i64 0,.int .i64 0] [(0,1,(.c (.int .i64 10)))]),jw 7 (.build [.slice none 0 0,.int .i64 0,.int .i64 0,.int .i64 0,.int .i64 0,.int .i64 0] [(0,1,(.t 5)),(1,2,(.t 6)),(3,1,(.c (.int .i64 50))),(4,1,(.c (.int .i64 100))),(5,1,(.c (.int .i64 2)))]),js 6 0 7] [0]
 .ret)),[.c 0 (some 6)]⟩
theorem k77:chkF Tryz.prog Tryz.f77 c77=true:=by kernel_rfl
def c79:CF:=⟨12,(jo [jw 6 (.alloc 68 38 z38)] [0,1,2,6]
 (jo [jm 7 0,jm 8 0,jm 9 1,jm 10 2,jw 11 (.build z38 [(0,1,(.c (.int .i64 1))),(1,1,(.t 7)),(2,1,(.t 8)),(3,1,(.t 9)),(4,1,(.t 10))]),js 38 6 11] [6]
 .ret)),[.c 6 (some 38)]⟩
theorem k79:chkF Tryz.prog Tryz.f79 c79=true:=by kernel_rfl
def c140:CF:=⟨12,(jo [jw 0 (.alloc 60 18 z18)] [0]
 (jo [jw 2 (.build [.int .i64 0,.int .i64 0] [(0,1,(.c (.int .i64 1000))),(1,1,(.c (.int .i64 1000)))]),jw 1 (.alloc 48 2 [.int .i64 0,.int .i64 0]),js 2 1 2] [0,1]
 (jo [jk 3 2 1,jk 4 2 1,jw 5 (.build [.int .i64 0,.int .i64 0,.int .i64 0,.int .i64 0,.int .i64 0,.int .i64 0,.int .i64 0,.int .i64 0,.int .i64 0,.int .i64 0] [(0,1,(.c (.int .i64 100))),(1,1,(.c (.int .i64 1000))),(3,1,(.c (.int .i64 9600))),(4,1,(.c (.int .i64 10600))),(5,1,(.c (.int .i64 3))),(6,2,(.t 3)),(8,2,(.t 4))]),jw 6 (.build [.int .i64 0,.int .i64 0] [(0,1,(.c (.int .i64 1))),(1,1,(.c (.int .i64 2)))]),jw 7 (.build [.int .i64 0,.int .i64 0] [(0,1,(.c (.int .i64 1))),(1,1,(.c (.int .i64 2)))]),jw 8 (.bsl false 48 2 2 [.int .i64 0,.int .i64 0,.int .i64 0,.int .i64 0] [(0,2,(.t 6)),(2,2,(.t 7))]),jw 9 (.build [.slice none 0 0,.slice none 0 0] [(0,1,(.t 8))]),jw 10 (.build [.int .i64 0,.int .i64 0,.int .i64 0,.int .i64 0] [(0,1,(.c (.int .i64 1))),(3,1,(.c (.int .i64 10)))]),jw 11 (.build z18 [(0,10,(.t 5)),(12,2,(.t 9)),(14,4,(.t 10))]),js 18 0 11] [0]
 .ret))),[.c 0 (some 18)]⟩
theorem k140:chkF Tryz.prog Tryz.f140 c140=true:=by kernel_rfl
def c78:CF:=⟨52,(jo [jn 0] []
 (jo [jw 2 (.call (.f 79) [(.c (.int .i64 1)),(.c (.int .i64 10)),(.c (.int .i64 1))]),jw 3 (.call (.f 79) [(.c (.int .i64 2)),(.c (.int .i64 11)),(.c (.int .i64 2))]),jw 4 (.call (.f 79) [(.c (.int .i64 3)),(.c (.int .i64 12)),(.c (.int .i64 3))]),jw 5 (.call (.f 79) [(.c (.int .i64 4)),(.c (.int .i64 13)),(.c (.int .i64 6))]),jw 6 (.call (.f 79) [(.c (.int .i64 5)),(.c (.int .i64 14)),(.c (.int .i64 5))]),jw 7 (.bslt 68 38 5 [.int .i64 0,.int .i64 0,.int .i64 0,.int .i64 0,.int .i64 0,.int .i64 0,.int .i64 0,.int .i64 0,.int .i64 0,.int .i64 0,.int .i64 0,.int .i64 0,.int .i64 0,.int .i64 0,.int .i64 0,.int .i64 0,.int .i64 0,.slice none 0 0,.slice none 0 0,.slice none 0 0,.slice none 0 0,.int .i64 0,.int .i64 0,.int .i64 0,.int .i64 0,.int .i64 0,.int .i64 0,.int .i64 0,.int .i64 0,.int .i64 0,.int .i64 0,.int .i64 0,.int .i64 0,.int .i64 0,.int .i64 0,.int .i64 0,.int .i64 0,.int .i64 0,.int .i64 0,.int .i64 0,.int .i64 0,.int .i64 0,.int .i64 0,.int .i64 0,.int .i64 0,.int .i64 0,.int .i64 0,.int .i64 0,.int .i64 0,.int .i64 0,.int .i64 0,.int .i64 0,.int .i64 0,.int .i64 0,.int .i64 0,.slice none 0 0,.slice none 0 0,.slice none 0 0,.slice none 0 0,.int .i64 0,.int .i64 0,.int .i64 0,.int .i64 0,.int .i64 0,.int .i64 0,.int .i64 0,.int .i64 0,.int .i64 0,.int .i64 0,.int .i64 0,.int .i64 0,.int .i64 0,.int .i64 0,.int .i64 0,.int .i64 0,.int .i64 0,.int .i64 0,.int .i64 0,.int .i64 0,.int .i64 0,.int .i64 0,.int .i64 0,.int .i64 0,.int .i64 0,.int .i64 0,.int .i64 0,.int .i64 0,.int .i64 0,.int .i64 0,.int .i64 0,.int .i64 0,.int .i64 0,.int .i64 0,.slice none 0 0,.slice none 0 0,.slice none 0 0,.slice none 0 0,.int .i64 0,.int .i64 0,.int .i64 0,.int .i64 0,.int .i64 0,.int .i64 0,.int .i64 0,.int .i64 0,.int .i64 0,.int .i64 0,.int .i64 0,.int .i64 0,.int .i64 0,.int .i64 0,.int .i64 0,.int .i64 0,.int .i64 0,.int .i64 0,.int .i64 0,.int .i64 0,.int .i64 0,.int .i64 0,.int .i64 0,.int .i64 0,.int .i64 0,.int .i64 0,.int .i64 0,.int .i64 0,.int .i64 0,.int .i64 0,.int .i64 0,.int .i64 0,.int .i64 0,.int .i64 0,.slice none 0 0,.slice none 0 0,.slice none 0 0,.slice none 0 0,.int .i64 0,.int .i64 0,.int .i64 0,.int .i64 0,.int .i64 0,.int .i64 0,.int .i64 0,.int .i64 0,.int .i64 0,.int .i64 0,.int .i64 0,.int .i64 0,.int .i64 0,.int .i64 0,.int .i64 0,.int .i64 0,.int .i64 0,.int .i64 0,.int .i64 0,.int .i64 0,.int .i64 0,.int .i64 0,.int .i64 0,.int .i64 0,.int .i64 0,.int .i64 0,.int .i64 0,.int .i64 0,.int .i64 0,.int .i64 0,.int .i64 0,.int .i64 0,.int .i64 0,.int .i64 0,.slice none 0 0,.slice none 0 0,.slice none 0 0,.slice none 0 0,.int .i64 0,.int .i64 0,.int .i64 0,.int .i64 0,.int .i64 0,.int .i64 0,.int .i64 0,.int .i64 0,.int .i64 0,.int .i64 0,.int .i64 0,.int .i64 0,.int .i64 0,.int .i64 0,.int .i64 0,.int .i64 0,.int .i64 0] [(0,38,(.t 2)),(38,38,(.t 3)),(76,38,(.t 4)),(114,38,(.t 5)),(152,38,(.t 6))]),jm 1 7] [1]
 (jo [jm 8 1,jw 9 (.iaddr 38 (.t 8) (.c (.int .i64 0))),jf 10 5 9,⟨none,.store 1 (.t 10) (.c (.int .i64 5)),none⟩] [1]
 (jo [jm 11 1,jw 12 (.iaddr 38 (.t 11) (.c (.int .i64 0))),jf 13 6 12,⟨none,.store 1 (.t 13) (.c (.int .i64 3)),none⟩] [1]
 (jo [jm 14 1,jy 15 140 [],jw 16 (.iaddr 38 (.t 14) (.c (.int .i64 0))),jf 17 7 16,js 18 17 15] [1]
 (jo [jm 18 1,jw 19 (.build [.int .i64 0,.int .i64 0] [(0,1,(.c (.int .i64 1))),(1,1,(.c (.int .i64 1)))]),jw 20 (.iaddr 38 (.t 18) (.c (.int .i64 1))),jf 21 36 20,js 2 21 19] [1]
 (jo [jm 22 1,jw 23 (.build [.int .i64 0,.int .i64 0] [(0,1,(.c (.int .i64 4))),(1,1,(.c (.int .i64 6)))]),jw 24 (.build [.int .i64 0,.int .i64 0,.int .i64 0] [(1,2,(.t 23))]),jw 25 (.iaddr 38 (.t 22) (.c (.int .i64 1))),jf 26 25 25,js 3 26 24] [1]
 (jo [jm 27 1,jw 28 (.build [.int .i64 0,.int .i64 0] [(0,1,(.c (.int .i64 10000))),(1,1,(.c (.int .i64 10010)))]),jw 29 (.build [.int .i64 0,.int .i64 0,.int .i64 0,.int .i64 0,.int .i64 0] [(0,1,(.c (.int .i64 5))),(1,1,(.c (.int .i64 3))),(2,1,(.c (.int .i64 20))),(3,2,(.t 28))]),jw 30 (.iaddr 38 (.t 27) (.c (.int .i64 2))),jf 31 28 30,js 5 31 29] [1]
 (jo [jm 32 1,jw 33 (.build [.int .i64 0,.int .i64 0] [(0,1,(.c (.int .i64 1))),(1,1,(.c (.int .i64 2)))]),jw 34 (.iaddr 38 (.t 32) (.c (.int .i64 3))),jf 35 36 34,js 2 35 33] [1]
 (jo [jm 36 1,jw 37 (.build [.int .i64 0,.int .i64 0] [(0,1,(.c (.int .i64 5))),(1,1,(.c (.int .i64 6)))]),jw 38 (.build [.int .i64 0,.int .i64 0,.int .i64 0] [(1,2,(.t 37))]),jw 39 (.iaddr 38 (.t 36) (.c (.int .i64 3))),jf 40 25 39,js 3 40 38] [1]
 (jo [jm 41 1,jw 42 (.build [.int .i64 0,.int .i64 0] [(0,1,(.c (.int .i64 1))),(1,1,(.c (.int .i64 1)))]),jw 43 (.iaddr 38 (.t 41) (.c (.int .i64 4))),jf 44 36 43,js 2 44 42] [1]
 (jo [jm 45 1,jw 46 (.iaddr 38 (.t 45) (.c (.int .i64 4))),jf 47 5 46,⟨none,.store 1 (.t 47) (.c (.int .i64 5)),none⟩] [1]
 (jo [jm 48 1,jw 49 (.iaddr 38 (.t 48) (.c (.int .i64 4))),jf 50 6 49,⟨none,.store 1 (.t 50) (.c (.int .i64 4)),none⟩] [1]
 (jo [jm 51 1,jm 0 51] [0]
 .ret)))))))))))))),[.t 0]⟩
theorem k78:chkF Tryz.prog Tryz.f78 c78=true:=by kernel_rfl
def c18:CF:=⟨181,(jo [jb 0 false] []
 (jo [jy 15 77 [],jy 16 78 [],jy 17 21 [15,16],jm 14 17,jz 18 0 14,jz 19 1 14,jw 1 (.alloc 37 4 [.slice none 0 0,.slice none 0 0,.slice none 0 0,.slice none 0 0]),js 4 1 18,jm 2 19] [1,2]
 (jo [jy 21 77 [],jy 22 78 [],jw 23 (.call (.f 23) [(.t 21),(.t 22),(.c (.int .i64 11)),(.c (.int .i64 100))]),jm 20 23,jz 24 0 20,jz 25 1 20,jw 3 (.alloc 37 4 [.slice none 0 0,.slice none 0 0,.slice none 0 0,.slice none 0 0]),js 4 3 24,jm 4 25] [1,2,3,4]
 (jo [jk 27 4 1,jy 28 36 [27],jm 26 28,jz 29 0 26,jz 30 1 26,jm 5 29,jm 6 30] [1,2,3,4,5,6]
 (jo [jy 32 77 [],jy 33 78 [],jw 34 (.build [.int .i64 0,.int .i64 0] [(0,1,(.c (.int .i64 1))),(1,1,(.c (.int .i64 2)))]),jy 35 25 [32,33,34],jm 31 35,jz 36 0 31,jz 37 1 31,jm 7 36,jm 8 37] [1,2,3,4,5,6,7,8]
 (.seq (.drawl 5 [jy 39 77 [],jk 40 4 1,jw 41 (.call (.f 37) [(.t 39),(.t 40),(.c (.int .i64 3))]),jm 38 41,jz 42 0 38,jz 43 1 38,jw 9 (.alloc 86 9 [.slice none 0 0,.int .i64 0,.int .i64 0,.int .i64 0,.int .i64 0,.int .i64 0,.int .i64 0,.slice none 0 0,.slice none 0 0])] [js 9 9 42,jm 10 43] [1,2,3,4,5,6,7,8,9,10])
 (jo [jw 44 (.call (.f 79) [(.c (.int .i64 6)),(.c (.int .i64 15)),(.c (.int .i64 7))]),jw 11 (.alloc 68 38 z38),js 38 11 44] [1,2,3,4,5,6,7,8,9,10,11]
 (jo [jw 45 (.build [.int .i64 0,.int .i64 0] [(0,1,(.c (.int .i64 1))),(1,1,(.c (.int .i64 1)))]),jf 46 36 11,js 2 46 45] [1,2,3,4,5,6,7,8,9,10,11]
 (.seq (.drawl 8 [jy 48 77 [],jy 49 78 [],jk 50 38 11,jw 51 (.bsl false 68 38 1 z38 [(0,38,(.t 50))]),jw 52 (.appi 68 38 368 (.t 49) (.t 51)),jy 53 21 [48,52],jm 47 53,jz 54 0 47,jz 55 1 47,jw 12 (.alloc 37 4 [.slice none 0 0,.slice none 0 0,.slice none 0 0,.slice none 0 0])] [js 4 12 54,jm 13 55] [1,2,3,4,5,6,7,8,9,10,12,13])
 (.seq (jo [jm 56 2,ju .neq 57 56 0,jm 58 57,jd 58 (jm 59 4),jd 58 (ju .neq 60 59 0),jq 61 58 60,jm 62 61,jd 62 (jm 63 6),jd 62 (ju .neq 64 63 0),jq 65 62 64,jm 66 65,jd 66 (jm 67 8),jd 66 (ju .neq 68 67 0),jq 69 66 68,jm 70 69,jd 70 (jm 71 10),jd 70 (ju .neq 72 71 0),jq 73 70 72,jm 74 73,jd 74 (jm 75 13),jd 74 (ju .neq 76 75 0),jq 77 74 76,jm 78 77,jd 78 (jf 79 0 1),jd 78 (jl 80 79),jd 78 (je 81 80),jd 78 (ju .neq 82 81 1),jq 83 78 82,jm 84 83,jd 84 (jf 85 0 1),jd 84 (jl 86 85),⟨some 87,.iaddr 24 (.t 86) (.c (.int .i64 0)),some (84,false)⟩,jd 84 (jf 88 22 87),jd 84 (jl 89 88),jd 84 (je 90 89),jd 84 (ju .neq 91 90 1),jq 92 84 91,jm 93 92,jd 93 (jf 94 0 3),jd 93 (jl 95 94),jd 93 (je 96 95),jd 93 (ju .neq 97 96 1),jq 98 93 97,jm 99 98,jd 99 (jf 100 0 3),jd 99 (jl 101 100),⟨some 102,.iaddr 24 (.t 101) (.c (.int .i64 0)),some (99,false)⟩,jd 99 (jf 103 22 102),jd 99 (jl 104 103),jd 99 (je 105 104),jd 99 (ju .neq 106 105 1),jq 107 99 106,jm 108 107,jd 108 (jf 109 3 12),jd 108 (jl 110 109),jd 108 (je 111 110),jd 108 (ju .neq 112 111 3),jq 113 108 112] [1,3,5,7,9,12,113]
 (.cond (.t 113) (jo [jb 0 false] [0]
 .ret)
 .skip))
 (jo [jf 114 0 1,jl 115 114,jw 116 (.iaddr 24 (.t 115) (.c (.int .i64 0))),jf 117 3 116,jl 118 117,ju .eql 119 118 4,jm 120 119,ja 120 (jf 121 0 1),ja 120 (jl 122 121),⟨some 123,.iaddr 24 (.t 122) (.c (.int .i64 0)),some (120,true)⟩,ja 120 (jf 124 22 123),ja 120 (jl 125 124),⟨some 126,.iaddr 3 (.t 125) (.c (.int .i64 0)),some (120,true)⟩,ja 120 (jf 127 1 126),ja 120 (jf 128 0 127),ja 120 (jl 129 128),ja 120 (ju .eql 130 129 5),jp 131 120 130,jm 132 131,ja 132 (jf 133 0 3),ja 132 (jl 134 133),⟨some 135,.iaddr 24 (.t 134) (.c (.int .i64 0)),some (132,true)⟩,ja 132 (jf 136 3 135),ja 132 (jl 137 136),ja 132 (ju .eql 138 137 3),jp 139 132 138,jm 140 139,ja 140 (jf 141 0 3),ja 140 (jl 142 141),⟨some 143,.iaddr 24 (.t 142) (.c (.int .i64 0)),some (140,true)⟩,ja 140 (jf 144 22 143),ja 140 (jl 145 144),⟨some 146,.iaddr 3 (.t 145) (.c (.int .i64 0)),some (140,true)⟩,ja 140 (jf 147 1 146),ja 140 (jf 148 0 147),ja 140 (jl 149 148),ja 140 (ju .eql 150 149 4),jp 151 140 150,jm 152 151,ja 152 (jm 153 5),⟨some 154,.bsl false 3 1 2 [.int .i64 0,.int .i64 0] [(0,1,(.c (.int .i64 3))),(1,1,(.c (.int .i64 4)))],some (152,true)⟩,ja 152 (jy 155 68 [153,154]),jp 156 152 155,jm 157 156,ja 157 (jm 158 7),⟨some 159,.build [.int .i64 0,.int .i64 0] [(0,1,(.c (.int .i64 1))),(1,1,(.c (.int .i64 4)))],some (157,true)⟩,⟨some 160,.bsl false 29 2 1 [.int .i64 0,.int .i64 0] [(0,2,(.t 159))],some (157,true)⟩,ja 157 (jy 161 28 [158,160]),jp 162 157 161,jm 163 162,ja 163 (jf 164 7 9),ja 163 (jl 165 164),ja 163 (je 166 165),ja 163 (ju .eql 167 166 0),jp 168 163 167,jm 169 168,ja 169 (jf 170 8 9),ja 169 (jl 171 170),ja 169 (je 172 171),ja 169 (ju .eql 173 172 1),jp 174 169 173,jm 175 174,ja 175 (jf 176 0 12),ja 175 (jl 177 176),ja 175 (je 178 177),ja 175 (ju .eql 179 178 0),jp 180 175 179,jm 0 180] [0]
 .ret))))))))))),[.t 0]⟩
theorem k18:chkF Tryz.prog Tryz.f18 c18=true:=by kernel_rfl
theorem sameNm (a b:List Nm) (ha:a.length < 9223372036854775808) (hb:b.length < 9223372036854775808):Pure Tryz.prog 28 [nmS a,nmS b] (bl (decide (a=b))):=by
  refine Pure.of_body Tryz.call28 Tryz.func28 k28 (Nat.le_of_ble_eq_true rfl) ?_
  unfold c28
  ((refine Au ?_;repeat' first|exact True.intro|refine Cj.mk ?_ ?_)<;>intros<;>refine hD_ ?_)
  · rename_i h
    rw [decide_eq_false fun e=>by subst e; omega]; exact Frz.eq rfl (by simp)
  rename_i hne
  have hlen:a.length=b.length:=by omega
  refine AWPC.loopI 5 a.length (fun i=>a.take i=b.take i) (by simp) ?_ ?_
  · (simp only [zN,zT,zV,zS,zU,vcC,lateX,ex,strp,binA,elems,cells,scalar,eqC,keyA,intsA,lookA,ofVs,mpOf,Nat.reduceBEq,reduceAdd,reduceSub,reduceLT,reduceLeDiff,reduceMul,reduceEqDiff,reduceIte]; try simp)
  · intro i hi hI
    by_cases hlt:i < a.length
    · have hx:(a.map Nm.cs).getD i []=Nm.cs (a.getD i nm0):=row _ hlt
      have hy:(b.map Nm.cs).getD i []=Nm.cs (b.getD i nm0):=row _ (by omega)
      have hk:a.getD i nm0=b.getD i nm0↔a.take (i+1)=b.take (i+1):=by
        rw [List.take_add_one,List.take_add_one,hI,getD_lt nm0 hlt,getD_lt nm0 (show i < b.length by omega)]; simp
      generalize a.getD i nm0=x at hx hk
      generalize b.getD i nm0=y at hy hk
      obtain ⟨x1,x2⟩:=x
      obtain ⟨y1,y2⟩:=y
      simp only [Nm.mk.injEq] at hk
      ((refine Ax (And.intro @hx @hy) ?_;repeat' first|exact True.intro|refine Cj.mk ?_ ?_)<;>intros<;>refine hD_ ?_)
      all_goals try (exfalso; omega)
      · rename_i h
        rw [decide_eq_false fun e=>by
          have:=hk.2 (by rw [e])
          omega]
        exact Frz.eq rfl (by simp)
      · rename_i h
        exact ⟨⟨i+1,hlt,hk.1 (by omega)⟩,by simp,by simp only; omega⟩
    · obtain rfl:i=a.length:=by omega
      ((refine Au ?_;repeat' first|exact True.intro|refine Cj.mk ?_ ?_)<;>intros<;>refine hD_ ?_)
      all_goals try (exfalso; omega)
      rw [List.take_length,hlen,List.take_length] at hI
      rw [decide_eq_true hI]
      exact Frz.eq rfl (by simp)
theorem sameInt (a b:List Int) (ha:a.length < 9223372036854775808) (hb:b.length < 9223372036854775808):Pure Tryz.prog 68 [inS a,inS b] (bl (decide (a=b))):=by
  refine Pure.of_body Tryz.call68 Tryz.func68 k68 (Nat.le_of_ble_eq_true rfl) ?_
  unfold c68
  ((refine Au ?_;repeat' first|exact True.intro|refine Cj.mk ?_ ?_)<;>intros<;>refine hD_ ?_)
  · rename_i h
    rw [decide_eq_false fun e=>by subst e; omega]; exact Frz.eq rfl (by simp)
  rename_i hne
  have hlen:a.length=b.length:=by omega
  refine AWPC.loopI 5 a.length (fun i=>a.take i=b.take i) (by simp) ?_ ?_
  · (simp only [zN,zT,zV,zS,zU,vcC,lateX,ex,strp,binA,elems,cells,scalar,eqC,keyA,intsA,lookA,ofVs,mpOf,Nat.reduceBEq,reduceAdd,reduceSub,reduceLT,reduceLeDiff,reduceMul,reduceEqDiff,reduceIte]; try simp)
  · intro i hi hI
    by_cases hlt:i < a.length
    · have hx:(a.map (fun z=>[n z])).getD i []=(fun z=>[n z]) (a.getD i 0):=row _ hlt
      have hy:(b.map (fun z=>[n z])).getD i []=(fun z=>[n z]) (b.getD i 0):=row _ (by omega)
      have hk:a.getD i 0=b.getD i 0↔a.take (i+1)=b.take (i+1):=by
        rw [List.take_add_one,List.take_add_one,hI,getD_lt 0 hlt,getD_lt 0 (show i < b.length by omega)]; simp
      generalize a.getD i 0=x at hx hk
      generalize b.getD i 0=y at hy hk
      ((refine Ax (And.intro @hx @hy) ?_;repeat' first|exact True.intro|refine Cj.mk ?_ ?_)<;>intros<;>refine hD_ ?_)
      all_goals try (exfalso; omega)
      · rename_i h
        rw [decide_eq_false fun e=>by
          have:=hk.2 (by rw [e])
          omega]
        exact Frz.eq rfl (by simp)
      · rename_i h
        exact ⟨⟨i+1,hlt,hk.1 (by omega)⟩,by simp,by simp only; omega⟩
    · obtain rfl:i=a.length:=by omega
      ((refine Au ?_;repeat' first|exact True.intro|refine Cj.mk ?_ ?_)<;>intros<;>refine hD_ ?_)
      all_goals try (exfalso; omega)
      rw [List.take_length,hlen,List.take_length] at hI
      rw [decide_eq_true hI]
      exact Frz.eq rfl (by simp)
def offB:Bse:=⟨[⟨5,0,0,[⟨0,⟨100,100⟩⟩]⟩],10,0,50,100,2⟩
def chartS:Sht:=⟨⟨100,1000,0,9600,10600,3,⟨1000,1000⟩,⟨1000,1000⟩⟩,[],[],[⟨1,2⟩,⟨1,2⟩],[],⟨1,⟨0,0⟩,10⟩⟩
def noteN (num day kind:Int):Nt:={ nt0 with clerk:=1,num:=num,clock:=num,day:=day,kind:=kind }
def sampL:List Nt:=[{ noteN 1 10 1 with stn:=5,week:=3,sheet:=chartS },{ noteN 2 11 2 with ref:=⟨1,1⟩,mark:=⟨0,⟨4,6⟩⟩ },{ noteN 3 12 3 with read:=⟨5,3,20,⟨10000,10010⟩⟩ },
  { noteN 4 13 6 with ref:=⟨1,2⟩,mark:=⟨0,⟨5,6⟩⟩ },{ noteN 5 14 5 with ref:=⟨1,1⟩,stn:=5,week:=4 }]
abbrev noteC (num day kind:Int):List AV:=[n 1,n num,n num,n day,n kind,n 0,n 0,n 0,n 0,n 0,n 0,n 0,n 0,n 0,n 0,n 0,n 0,.sl 3 [],.sl 1 [],.sl 2 [],.sl 3 [],n 0,n 0,n 0,n 0,n 0,n 0,n 0,n 0,n 0,n 0,n 0,n 0,n 0,n 0,n 0,n 0,n 0]
theorem office_spec:Pure Tryz.prog 77 [] (.agg offB.cs):=by
  refine Pure.of_body Tryz.call77 Tryz.func77 k77 (Nat.le_of_ble_eq_true rfl) ?_
  unfold c77
  ((refine Au ?_;repeat' first|exact True.intro|refine Cj.mk ?_ ?_)<;>intros<;>refine hD_ ?_)
  exact Frz.aggL ⟨Frz.eq rfl (snS_pure offB.stns),Frz.eq rfl (PureV.v _),Frz.eq rfl (PureV.v _),Frz.eq rfl (PureV.v _),Frz.eq rfl (PureV.v _),Frz.eq rfl (PureV.v _),trivial⟩
theorem note_spec (num day kind:Int):Pure Tryz.prog 79 [n num,n day,n kind] (.agg (noteC num day kind)):=by
  refine Pure.of_body Tryz.call79 Tryz.func79 k79 (Nat.le_of_ble_eq_true rfl) ?_
  unfold c79
  ((refine Au ?_;repeat' first|exact True.intro|refine Cj.mk ?_ ?_)<;>intros<;>refine hD_ ?_)
  exact Frz.aggL ⟨Frz.eq rfl (PureV.v _),Frz.eq rfl (PureV.v _),Frz.eq rfl (PureV.v _),Frz.eq rfl (PureV.v _),Frz.eq rfl (PureV.v _),Frz.eq rfl (PureV.v _),Frz.eq rfl (PureV.v _),Frz.eq rfl (PureV.v _),Frz.eq rfl (PureV.v _),Frz.eq rfl (PureV.v _),Frz.eq rfl (PureV.v _),Frz.eq rfl (PureV.v _),Frz.eq rfl (PureV.v _),Frz.eq rfl (PureV.v _),Frz.eq rfl (PureV.v _),Frz.eq rfl (PureV.v _),Frz.eq rfl (PureV.v _),Frz.nil0,Frz.nil0,Frz.nil0,Frz.nil0,Frz.eq rfl (PureV.v _),Frz.eq rfl (PureV.v _),Frz.eq rfl (PureV.v _),Frz.eq rfl (PureV.v _),Frz.eq rfl (PureV.v _),Frz.eq rfl (PureV.v _),Frz.eq rfl (PureV.v _),Frz.eq rfl (PureV.v _),Frz.eq rfl (PureV.v _),Frz.eq rfl (PureV.v _),Frz.eq rfl (PureV.v _),Frz.eq rfl (PureV.v _),Frz.eq rfl (PureV.v _),Frz.eq rfl (PureV.v _),Frz.eq rfl (PureV.v _),Frz.eq rfl (PureV.v _),Frz.eq rfl (PureV.v _),trivial⟩
theorem chart_spec:Pure Tryz.prog 140 [] (.agg chartS.cs):=by
  refine Pure.of_body Tryz.call140 Tryz.func140 k140 (Nat.le_of_ble_eq_true rfl) ?_
  unfold c140
  ((refine Au ?_;repeat' first|exact True.intro|refine Cj.mk ?_ ?_)<;>intros<;>refine hD_ ?_)
  exact Frz.aggL ⟨Frz.eq rfl (PureV.v _),Frz.eq rfl (PureV.v _),Frz.eq rfl (PureV.v _),Frz.eq rfl (PureV.v _),Frz.eq rfl (PureV.v _),Frz.eq rfl (PureV.v _),Frz.eq rfl (PureV.v _),Frz.eq rfl (PureV.v _),Frz.eq rfl (PureV.v _),Frz.eq rfl (PureV.v _),Frz.nil0,Frz.nil0,Frz.eq rfl (PureV.sl fun e he c hc=>by simp at he; rcases he with rfl | rfl <;> (simp at hc; rcases hc with rfl | rfl <;> exact PureV.v _)),Frz.nil0,Frz.eq rfl (PureV.v _),Frz.eq rfl (PureV.v _),Frz.eq rfl (PureV.v _),Frz.eq rfl (PureV.v _),trivial⟩
theorem sampleF_spec:Pure Tryz.prog 78 [] (.fresh 38 (sampL.map Nt.cs)):=by
  refine Pure.of_body Tryz.call78 Tryz.func78 k78 (Nat.le_of_ble_eq_true rfl) ?_
  unfold c78
  ((refine Ay (And.intro (note_spec 1 10 1) (And.intro (note_spec 2 11 2) (And.intro (note_spec 3 12 3) (And.intro (note_spec 4 13 6) (And.intro (note_spec 5 14 5) @chart_spec))))) ?_;repeat' first|exact True.intro|refine Cj.mk ?_ ?_)<;>intros<;>refine hD_ ?_)
  exact Frz.tightL (T:=68) (cs:=Nt.cs) (l:=sampL) rfl rfl (by decide) (fun a=>Nt.pc a) (fun a=>rfl)
theorem sample_spec:Pure Tryz.prog 78 [] (ntS sampL):=sampleF_spec.slack
def outN:Nt:={ noteN 6 15 7 with ref:=⟨1,1⟩ }
def reg1:Rgr:=⟨[⟨⟨1,1⟩,5,4,chartS,[⟨0,⟨5,6⟩⟩],[⟨1,2⟩]⟩],[⟨5,3,20,⟨10000,10010⟩⟩],offB.stns,[]⟩
def reg2:Rgr:=⟨[⟨⟨1,1⟩,5,3,chartS,[⟨0,⟨4,6⟩⟩],[⟨1,2⟩]⟩],[],offB.stns,[]⟩
def reg3:Rgr:=⟨[],[⟨5,3,20,⟨10000,10010⟩⟩],offB.stns,[⟨1,2⟩,⟨1,4⟩,⟨1,5⟩]⟩
theorem ev1:foldE offB sampL=(reg1,0):=by decide +kernel
theorem ev2:asofE offB sampL 11 100=(reg2,0):=by decide +kernel
theorem ev3:weeksT reg1=[3,4]:=by decide +kernel
theorem ev4:chainE offB sampL ⟨1,2⟩=([⟨1,4⟩],0):=by decide +kernel
theorem ev5:weekE offB reg1 3=(⟨offB,3,[],[⟨5,3,20,⟨10000,10010⟩⟩]⟩,0):=by decide +kernel
theorem ev6:foldE offB (sampL++[outN])=(reg3,0):=by decide +kernel
theorem offSz:bseSz offB:=by
  refine ⟨by decide,fun s hs=>?_⟩
  simp only [offB,List.mem_singleton] at hs
  subst hs
  decide
theorem sampSz:∀ a∈sampL++[outN],ntSz a:=by
  intro a ha
  simp only [sampL,List.cons_append,List.nil_append,List.mem_cons,List.not_mem_nil,or_false] at ha
  rcases ha with rfl | rfl | rfl | rfl | rfl | rfl <;> exact ⟨by decide,by decide,by decide,by decide⟩
theorem sampS:setSz sampL:=⟨by decide,fun a ha=>sampSz a (by simp [ha])⟩
theorem samp6:setSz (sampL++[outN]):=⟨by decide,sampSz⟩
theorem regC:∀ f∈reg1.sheets,fldC f:=by
  intro f hf
  simp only [reg1,List.mem_singleton] at hf
  subst hf
  exact ⟨⟨by decide,by decide,by decide,by decide⟩,by decide,by decide⟩
theorem awake_spec:Pure Tryz.prog 18 [] (bl true):=by
  have f1:=Fold_spec offB offSz sampL sampS
  rw [ev1] at f1
  have f2:=AsOf_spec offB offSz sampL sampS 11 100
  rw [ev2] at f2
  have f3:=Weeks_spec reg1 (by decide) (by decide)
  rw [ev3] at f3
  have f4:=Chain_spec offB offSz sampL sampS ⟨1,2⟩
  rw [ev4] at f4
  have f5:=WeekOf_of sortF0 offB offSz reg1 3 (by decide) (by decide) (by decide) regC (by decide) (by decide)
  rw [ev5] at f5
  have f6:=Fold_spec offB offSz (sampL++[outN]) samp6
  rw [ev6] at f6
  refine Pure.of_body Tryz.call18 Tryz.func18 k18 (Nat.le_of_ble_eq_true rfl) ?_
  unfold c18
  ((first
 | refine vn rfl ?_
 | simp (disch:=omega) only [wr64,Int.zero_sub]
 | refine bo (fun _=>?_) fun _=>?_
 | refine im fun _=>?_
 | ((repeat refine si ?_); (first | ((first | refine .inl ⟨_,_,_,_,rfl,fun _=>pu (by first | exact office_spec | exact sample_spec | exact f1 | exact f2 | exact f3 | exact f4 | exact f5 | exact f6 | exact note_spec 6 15 7 | exact sameInt [3,4] [3,4] (by decide) (by decide) | exact sameNm [⟨1,4⟩] [⟨1,4⟩] (by decide) (by decide)),?_⟩ | refine ⟨_,_,_,_,rfl,fun _=>pu (by first | exact office_spec | exact sample_spec | exact f1 | exact f2 | exact f3 | exact f4 | exact f5 | exact f6 | exact note_spec 6 15 7 | exact sameInt [3,4] [3,4] (by decide) (by decide) | exact sameNm [⟨1,4⟩] [⟨1,4⟩] (by decide) (by decide)),?_⟩); (first | refine o1 ?_ | refine o2 ?_ | refine o3 ?_ | refine o4 ?_)) | refine .inl ⟨_,_,_,_,rfl,pu (by first | exact office_spec | exact sample_spec | exact f1 | exact f2 | exact f3 | exact f4 | exact f5 | exact f6 | exact note_spec 6 15 7 | exact sameInt [3,4] [3,4] (by decide) (by decide) | exact sameNm [⟨1,4⟩] [⟨1,4⟩] (by decide) (by decide)),?_⟩))
 | refine cF ?_
 | refine om ?_
 | refine an ?_
 | fail) <;> try simp only [zN,zT,zV,zS,zU,vcC,lateX,ex,strp,binA,elems,cells,scalar,eqC,keyA,intsA,lookA,ofVs,mpOf,Nat.reduceBEq,reduceAdd,reduceSub,reduceLT,reduceLeDiff,reduceMul,reduceEqDiff,reduceIte,reg1,reg2,reg3,List.map_cons,List.map_nil,List.length_cons,List.length_nil])
  ((first
 | refine vn rfl ?_
 | simp (disch:=omega) only [wr64,Int.zero_sub]
 | refine bo (fun _=>?_) fun _=>?_
 | refine im fun _=>?_
 | ((repeat refine si ?_); (first | ((first | refine .inl ⟨_,_,_,_,rfl,fun _=>pu (by first | exact office_spec | exact sample_spec | exact f1 | exact f2 | exact f3 | exact f4 | exact f5 | exact f6 | exact note_spec 6 15 7 | exact sameInt [3,4] [3,4] (by decide) (by decide) | exact sameNm [⟨1,4⟩] [⟨1,4⟩] (by decide) (by decide)),?_⟩ | refine ⟨_,_,_,_,rfl,fun _=>pu (by first | exact office_spec | exact sample_spec | exact f1 | exact f2 | exact f3 | exact f4 | exact f5 | exact f6 | exact note_spec 6 15 7 | exact sameInt [3,4] [3,4] (by decide) (by decide) | exact sameNm [⟨1,4⟩] [⟨1,4⟩] (by decide) (by decide)),?_⟩); (first | refine o1 ?_ | refine o2 ?_ | refine o3 ?_ | refine o4 ?_)) | refine .inl ⟨_,_,_,_,rfl,pu (by first | exact office_spec | exact sample_spec | exact f1 | exact f2 | exact f3 | exact f4 | exact f5 | exact f6 | exact note_spec 6 15 7 | exact sameInt [3,4] [3,4] (by decide) (by decide) | exact sameNm [⟨1,4⟩] [⟨1,4⟩] (by decide) (by decide)),?_⟩))
 | refine cF ?_
 | refine om ?_
 | refine an ?_
 | fail) <;> try simp only [zN,zT,zV,zS,zU,vcC,lateX,ex,strp,binA,elems,cells,scalar,eqC,keyA,intsA,lookA,ofVs,mpOf,Nat.reduceBEq,reduceAdd,reduceSub,reduceLT,reduceLeDiff,reduceMul,reduceEqDiff,reduceIte,reg1,reg2,reg3,List.map_cons,List.map_nil,List.length_cons,List.length_nil])
  ((first
 | refine vn rfl ?_
 | simp (disch:=omega) only [wr64,Int.zero_sub]
 | refine bo (fun _=>?_) fun _=>?_
 | refine im fun _=>?_
 | ((repeat refine si ?_); (first | ((first | refine .inl ⟨_,_,_,_,rfl,fun _=>pu (by first | exact office_spec | exact sample_spec | exact f1 | exact f2 | exact f3 | exact f4 | exact f5 | exact f6 | exact note_spec 6 15 7 | exact sameInt [3,4] [3,4] (by decide) (by decide) | exact sameNm [⟨1,4⟩] [⟨1,4⟩] (by decide) (by decide)),?_⟩ | refine ⟨_,_,_,_,rfl,fun _=>pu (by first | exact office_spec | exact sample_spec | exact f1 | exact f2 | exact f3 | exact f4 | exact f5 | exact f6 | exact note_spec 6 15 7 | exact sameInt [3,4] [3,4] (by decide) (by decide) | exact sameNm [⟨1,4⟩] [⟨1,4⟩] (by decide) (by decide)),?_⟩); (first | refine o1 ?_ | refine o2 ?_ | refine o3 ?_ | refine o4 ?_)) | refine .inl ⟨_,_,_,_,rfl,pu (by first | exact office_spec | exact sample_spec | exact f1 | exact f2 | exact f3 | exact f4 | exact f5 | exact f6 | exact note_spec 6 15 7 | exact sameInt [3,4] [3,4] (by decide) (by decide) | exact sameNm [⟨1,4⟩] [⟨1,4⟩] (by decide) (by decide)),?_⟩))
 | refine cF ?_
 | refine om ?_
 | refine an ?_
 | fail) <;> try simp only [zN,zT,zV,zS,zU,vcC,lateX,ex,strp,binA,elems,cells,scalar,eqC,keyA,intsA,lookA,ofVs,mpOf,Nat.reduceBEq,reduceAdd,reduceSub,reduceLT,reduceLeDiff,reduceMul,reduceEqDiff,reduceIte,reg1,reg2,reg3,List.map_cons,List.map_nil,List.length_cons,List.length_nil])
  ((first
 | refine vn rfl ?_
 | simp (disch:=omega) only [wr64,Int.zero_sub]
 | refine bo (fun _=>?_) fun _=>?_
 | refine im fun _=>?_
 | ((repeat refine si ?_); (first | ((first | refine .inl ⟨_,_,_,_,rfl,fun _=>pu (by first | exact office_spec | exact sample_spec | exact f1 | exact f2 | exact f3 | exact f4 | exact f5 | exact f6 | exact note_spec 6 15 7 | exact sameInt [3,4] [3,4] (by decide) (by decide) | exact sameNm [⟨1,4⟩] [⟨1,4⟩] (by decide) (by decide)),?_⟩ | refine ⟨_,_,_,_,rfl,fun _=>pu (by first | exact office_spec | exact sample_spec | exact f1 | exact f2 | exact f3 | exact f4 | exact f5 | exact f6 | exact note_spec 6 15 7 | exact sameInt [3,4] [3,4] (by decide) (by decide) | exact sameNm [⟨1,4⟩] [⟨1,4⟩] (by decide) (by decide)),?_⟩); (first | refine o1 ?_ | refine o2 ?_ | refine o3 ?_ | refine o4 ?_)) | refine .inl ⟨_,_,_,_,rfl,pu (by first | exact office_spec | exact sample_spec | exact f1 | exact f2 | exact f3 | exact f4 | exact f5 | exact f6 | exact note_spec 6 15 7 | exact sameInt [3,4] [3,4] (by decide) (by decide) | exact sameNm [⟨1,4⟩] [⟨1,4⟩] (by decide) (by decide)),?_⟩))
 | refine cF ?_
 | refine om ?_
 | refine an ?_
 | fail) <;> try simp only [zN,zT,zV,zS,zU,vcC,lateX,ex,strp,binA,elems,cells,scalar,eqC,keyA,intsA,lookA,ofVs,mpOf,Nat.reduceBEq,reduceAdd,reduceSub,reduceLT,reduceLeDiff,reduceMul,reduceEqDiff,reduceIte,reg1,reg2,reg3,List.map_cons,List.map_nil,List.length_cons,List.length_nil])
  ((first
 | refine vn rfl ?_
 | simp (disch:=omega) only [wr64,Int.zero_sub]
 | refine bo (fun _=>?_) fun _=>?_
 | refine im fun _=>?_
 | ((repeat refine si ?_); (first | ((first | refine .inl ⟨_,_,_,_,rfl,fun _=>pu (by first | exact office_spec | exact sample_spec | exact f1 | exact f2 | exact f3 | exact f4 | exact f5 | exact f6 | exact note_spec 6 15 7 | exact sameInt [3,4] [3,4] (by decide) (by decide) | exact sameNm [⟨1,4⟩] [⟨1,4⟩] (by decide) (by decide)),?_⟩ | refine ⟨_,_,_,_,rfl,fun _=>pu (by first | exact office_spec | exact sample_spec | exact f1 | exact f2 | exact f3 | exact f4 | exact f5 | exact f6 | exact note_spec 6 15 7 | exact sameInt [3,4] [3,4] (by decide) (by decide) | exact sameNm [⟨1,4⟩] [⟨1,4⟩] (by decide) (by decide)),?_⟩); (first | refine o1 ?_ | refine o2 ?_ | refine o3 ?_ | refine o4 ?_)) | refine .inl ⟨_,_,_,_,rfl,pu (by first | exact office_spec | exact sample_spec | exact f1 | exact f2 | exact f3 | exact f4 | exact f5 | exact f6 | exact note_spec 6 15 7 | exact sameInt [3,4] [3,4] (by decide) (by decide) | exact sameNm [⟨1,4⟩] [⟨1,4⟩] (by decide) (by decide)),?_⟩))
 | refine cF ?_
 | refine om ?_
 | refine an ?_
 | fail) <;> try simp only [zN,zT,zV,zS,zU,vcC,lateX,ex,strp,binA,elems,cells,scalar,eqC,keyA,intsA,lookA,ofVs,mpOf,Nat.reduceBEq,reduceAdd,reduceSub,reduceLT,reduceLeDiff,reduceMul,reduceEqDiff,reduceIte,reg1,reg2,reg3,List.map_cons,List.map_nil,List.length_cons,List.length_nil])
  ((first
 | refine vn rfl ?_
 | simp (disch:=omega) only [wr64,Int.zero_sub]
 | refine bo (fun _=>?_) fun _=>?_
 | refine im fun _=>?_
 | ((repeat refine si ?_); (first | ((first | refine .inl ⟨_,_,_,_,rfl,fun _=>pu (by first | exact office_spec | exact sample_spec | exact f1 | exact f2 | exact f3 | exact f4 | exact f5 | exact f6 | exact note_spec 6 15 7 | exact sameInt [3,4] [3,4] (by decide) (by decide) | exact sameNm [⟨1,4⟩] [⟨1,4⟩] (by decide) (by decide)),?_⟩ | refine ⟨_,_,_,_,rfl,fun _=>pu (by first | exact office_spec | exact sample_spec | exact f1 | exact f2 | exact f3 | exact f4 | exact f5 | exact f6 | exact note_spec 6 15 7 | exact sameInt [3,4] [3,4] (by decide) (by decide) | exact sameNm [⟨1,4⟩] [⟨1,4⟩] (by decide) (by decide)),?_⟩); (first | refine o1 ?_ | refine o2 ?_ | refine o3 ?_ | refine o4 ?_)) | refine .inl ⟨_,_,_,_,rfl,pu (by first | exact office_spec | exact sample_spec | exact f1 | exact f2 | exact f3 | exact f4 | exact f5 | exact f6 | exact note_spec 6 15 7 | exact sameInt [3,4] [3,4] (by decide) (by decide) | exact sameNm [⟨1,4⟩] [⟨1,4⟩] (by decide) (by decide)),?_⟩))
 | refine cF ?_
 | refine om ?_
 | refine an ?_
 | fail) <;> try simp only [zN,zT,zV,zS,zU,vcC,lateX,ex,strp,binA,elems,cells,scalar,eqC,keyA,intsA,lookA,ofVs,mpOf,Nat.reduceBEq,reduceAdd,reduceSub,reduceLT,reduceLeDiff,reduceMul,reduceEqDiff,reduceIte,reg1,reg2,reg3,List.map_cons,List.map_nil,List.length_cons,List.length_nil])
  ((first
 | refine vn rfl ?_
 | simp (disch:=omega) only [wr64,Int.zero_sub]
 | refine bo (fun _=>?_) fun _=>?_
 | refine im fun _=>?_
 | ((repeat refine si ?_); (first | ((first | refine .inl ⟨_,_,_,_,rfl,fun _=>pu (by first | exact office_spec | exact sample_spec | exact f1 | exact f2 | exact f3 | exact f4 | exact f5 | exact f6 | exact note_spec 6 15 7 | exact sameInt [3,4] [3,4] (by decide) (by decide) | exact sameNm [⟨1,4⟩] [⟨1,4⟩] (by decide) (by decide)),?_⟩ | refine ⟨_,_,_,_,rfl,fun _=>pu (by first | exact office_spec | exact sample_spec | exact f1 | exact f2 | exact f3 | exact f4 | exact f5 | exact f6 | exact note_spec 6 15 7 | exact sameInt [3,4] [3,4] (by decide) (by decide) | exact sameNm [⟨1,4⟩] [⟨1,4⟩] (by decide) (by decide)),?_⟩); (first | refine o1 ?_ | refine o2 ?_ | refine o3 ?_ | refine o4 ?_)) | refine .inl ⟨_,_,_,_,rfl,pu (by first | exact office_spec | exact sample_spec | exact f1 | exact f2 | exact f3 | exact f4 | exact f5 | exact f6 | exact note_spec 6 15 7 | exact sameInt [3,4] [3,4] (by decide) (by decide) | exact sameNm [⟨1,4⟩] [⟨1,4⟩] (by decide) (by decide)),?_⟩))
 | refine cF ?_
 | refine om ?_
 | refine an ?_
 | fail) <;> try simp only [zN,zT,zV,zS,zU,vcC,lateX,ex,strp,binA,elems,cells,scalar,eqC,keyA,intsA,lookA,ofVs,mpOf,Nat.reduceBEq,reduceAdd,reduceSub,reduceLT,reduceLeDiff,reduceMul,reduceEqDiff,reduceIte,reg1,reg2,reg3,List.map_cons,List.map_nil,List.length_cons,List.length_nil])
  ((first
 | refine vn rfl ?_
 | simp (disch:=omega) only [wr64,Int.zero_sub]
 | refine bo (fun _=>?_) fun _=>?_
 | refine im fun _=>?_
 | ((repeat refine si ?_); (first | ((first | refine .inl ⟨_,_,_,_,rfl,fun _=>pu (by first | exact office_spec | exact sample_spec | exact f1 | exact f2 | exact f3 | exact f4 | exact f5 | exact f6 | exact note_spec 6 15 7 | exact sameInt [3,4] [3,4] (by decide) (by decide) | exact sameNm [⟨1,4⟩] [⟨1,4⟩] (by decide) (by decide)),?_⟩ | refine ⟨_,_,_,_,rfl,fun _=>pu (by first | exact office_spec | exact sample_spec | exact f1 | exact f2 | exact f3 | exact f4 | exact f5 | exact f6 | exact note_spec 6 15 7 | exact sameInt [3,4] [3,4] (by decide) (by decide) | exact sameNm [⟨1,4⟩] [⟨1,4⟩] (by decide) (by decide)),?_⟩); (first | refine o1 ?_ | refine o2 ?_ | refine o3 ?_ | refine o4 ?_)) | refine .inl ⟨_,_,_,_,rfl,pu (by first | exact office_spec | exact sample_spec | exact f1 | exact f2 | exact f3 | exact f4 | exact f5 | exact f6 | exact note_spec 6 15 7 | exact sameInt [3,4] [3,4] (by decide) (by decide) | exact sameNm [⟨1,4⟩] [⟨1,4⟩] (by decide) (by decide)),?_⟩))
 | refine cF ?_
 | refine om ?_
 | refine an ?_
 | fail) <;> try simp only [zN,zT,zV,zS,zU,vcC,lateX,ex,strp,binA,elems,cells,scalar,eqC,keyA,intsA,lookA,ofVs,mpOf,Nat.reduceBEq,reduceAdd,reduceSub,reduceLT,reduceLeDiff,reduceMul,reduceEqDiff,reduceIte,reg1,reg2,reg3,List.map_cons,List.map_nil,List.length_cons,List.length_nil])
  ((first
 | refine vn rfl ?_
 | simp (disch:=omega) only [wr64,Int.zero_sub]
 | refine bo (fun _=>?_) fun _=>?_
 | refine im fun _=>?_
 | ((repeat refine si ?_); (first | ((first | refine .inl ⟨_,_,_,_,rfl,fun _=>pu (by first | exact office_spec | exact sample_spec | exact f1 | exact f2 | exact f3 | exact f4 | exact f5 | exact f6 | exact note_spec 6 15 7 | exact sameInt [3,4] [3,4] (by decide) (by decide) | exact sameNm [⟨1,4⟩] [⟨1,4⟩] (by decide) (by decide)),?_⟩ | refine ⟨_,_,_,_,rfl,fun _=>pu (by first | exact office_spec | exact sample_spec | exact f1 | exact f2 | exact f3 | exact f4 | exact f5 | exact f6 | exact note_spec 6 15 7 | exact sameInt [3,4] [3,4] (by decide) (by decide) | exact sameNm [⟨1,4⟩] [⟨1,4⟩] (by decide) (by decide)),?_⟩); (first | refine o1 ?_ | refine o2 ?_ | refine o3 ?_ | refine o4 ?_)) | refine .inl ⟨_,_,_,_,rfl,pu (by first | exact office_spec | exact sample_spec | exact f1 | exact f2 | exact f3 | exact f4 | exact f5 | exact f6 | exact note_spec 6 15 7 | exact sameInt [3,4] [3,4] (by decide) (by decide) | exact sameNm [⟨1,4⟩] [⟨1,4⟩] (by decide) (by decide)),?_⟩))
 | refine cF ?_
 | refine om ?_
 | refine an ?_
 | fail) <;> try simp only [zN,zT,zV,zS,zU,vcC,lateX,ex,strp,binA,elems,cells,scalar,eqC,keyA,intsA,lookA,ofVs,mpOf,Nat.reduceBEq,reduceAdd,reduceSub,reduceLT,reduceLeDiff,reduceMul,reduceEqDiff,reduceIte,reg1,reg2,reg3,List.map_cons,List.map_nil,List.length_cons,List.length_nil])
  ((first
 | refine vn rfl ?_
 | simp (disch:=omega) only [wr64,Int.zero_sub]
 | refine bo (fun _=>?_) fun _=>?_
 | refine im fun _=>?_
 | ((repeat refine si ?_); (first | ((first | refine .inl ⟨_,_,_,_,rfl,fun _=>pu (by first | exact office_spec | exact sample_spec | exact f1 | exact f2 | exact f3 | exact f4 | exact f5 | exact f6 | exact note_spec 6 15 7 | exact sameInt [3,4] [3,4] (by decide) (by decide) | exact sameNm [⟨1,4⟩] [⟨1,4⟩] (by decide) (by decide)),?_⟩ | refine ⟨_,_,_,_,rfl,fun _=>pu (by first | exact office_spec | exact sample_spec | exact f1 | exact f2 | exact f3 | exact f4 | exact f5 | exact f6 | exact note_spec 6 15 7 | exact sameInt [3,4] [3,4] (by decide) (by decide) | exact sameNm [⟨1,4⟩] [⟨1,4⟩] (by decide) (by decide)),?_⟩); (first | refine o1 ?_ | refine o2 ?_ | refine o3 ?_ | refine o4 ?_)) | refine .inl ⟨_,_,_,_,rfl,pu (by first | exact office_spec | exact sample_spec | exact f1 | exact f2 | exact f3 | exact f4 | exact f5 | exact f6 | exact note_spec 6 15 7 | exact sameInt [3,4] [3,4] (by decide) (by decide) | exact sameNm [⟨1,4⟩] [⟨1,4⟩] (by decide) (by decide)),?_⟩))
 | refine cF ?_
 | refine om ?_
 | refine an ?_
 | fail) <;> try simp only [zN,zT,zV,zS,zU,vcC,lateX,ex,strp,binA,elems,cells,scalar,eqC,keyA,intsA,lookA,ofVs,mpOf,Nat.reduceBEq,reduceAdd,reduceSub,reduceLT,reduceLeDiff,reduceMul,reduceEqDiff,reduceIte,reg1,reg2,reg3,List.map_cons,List.map_nil,List.length_cons,List.length_nil])
  ((first
 | refine vn rfl ?_
 | simp (disch:=omega) only [wr64,Int.zero_sub]
 | refine bo (fun _=>?_) fun _=>?_
 | refine im fun _=>?_
 | ((repeat refine si ?_); (first | ((first | refine .inl ⟨_,_,_,_,rfl,fun _=>pu (by first | exact office_spec | exact sample_spec | exact f1 | exact f2 | exact f3 | exact f4 | exact f5 | exact f6 | exact note_spec 6 15 7 | exact sameInt [3,4] [3,4] (by decide) (by decide) | exact sameNm [⟨1,4⟩] [⟨1,4⟩] (by decide) (by decide)),?_⟩ | refine ⟨_,_,_,_,rfl,fun _=>pu (by first | exact office_spec | exact sample_spec | exact f1 | exact f2 | exact f3 | exact f4 | exact f5 | exact f6 | exact note_spec 6 15 7 | exact sameInt [3,4] [3,4] (by decide) (by decide) | exact sameNm [⟨1,4⟩] [⟨1,4⟩] (by decide) (by decide)),?_⟩); (first | refine o1 ?_ | refine o2 ?_ | refine o3 ?_ | refine o4 ?_)) | refine .inl ⟨_,_,_,_,rfl,pu (by first | exact office_spec | exact sample_spec | exact f1 | exact f2 | exact f3 | exact f4 | exact f5 | exact f6 | exact note_spec 6 15 7 | exact sameInt [3,4] [3,4] (by decide) (by decide) | exact sameNm [⟨1,4⟩] [⟨1,4⟩] (by decide) (by decide)),?_⟩))
 | refine cF ?_
 | refine om ?_
 | refine an ?_
 | fail) <;> try simp only [zN,zT,zV,zS,zU,vcC,lateX,ex,strp,binA,elems,cells,scalar,eqC,keyA,intsA,lookA,ofVs,mpOf,Nat.reduceBEq,reduceAdd,reduceSub,reduceLT,reduceLeDiff,reduceMul,reduceEqDiff,reduceIte,reg1,reg2,reg3,List.map_cons,List.map_nil,List.length_cons,List.length_nil])
  ((first
 | refine vn rfl ?_
 | simp (disch:=omega) only [wr64,Int.zero_sub]
 | refine bo (fun _=>?_) fun _=>?_
 | refine im fun _=>?_
 | ((repeat refine si ?_); (first | ((first | refine .inl ⟨_,_,_,_,rfl,fun _=>pu (by first | exact office_spec | exact sample_spec | exact f1 | exact f2 | exact f3 | exact f4 | exact f5 | exact f6 | exact note_spec 6 15 7 | exact sameInt [3,4] [3,4] (by decide) (by decide) | exact sameNm [⟨1,4⟩] [⟨1,4⟩] (by decide) (by decide)),?_⟩ | refine ⟨_,_,_,_,rfl,fun _=>pu (by first | exact office_spec | exact sample_spec | exact f1 | exact f2 | exact f3 | exact f4 | exact f5 | exact f6 | exact note_spec 6 15 7 | exact sameInt [3,4] [3,4] (by decide) (by decide) | exact sameNm [⟨1,4⟩] [⟨1,4⟩] (by decide) (by decide)),?_⟩); (first | refine o1 ?_ | refine o2 ?_ | refine o3 ?_ | refine o4 ?_)) | refine .inl ⟨_,_,_,_,rfl,pu (by first | exact office_spec | exact sample_spec | exact f1 | exact f2 | exact f3 | exact f4 | exact f5 | exact f6 | exact note_spec 6 15 7 | exact sameInt [3,4] [3,4] (by decide) (by decide) | exact sameNm [⟨1,4⟩] [⟨1,4⟩] (by decide) (by decide)),?_⟩))
 | refine cF ?_
 | refine om ?_
 | refine an ?_
 | fail) <;> try simp only [zN,zT,zV,zS,zU,vcC,lateX,ex,strp,binA,elems,cells,scalar,eqC,keyA,intsA,lookA,ofVs,mpOf,Nat.reduceBEq,reduceAdd,reduceSub,reduceLT,reduceLeDiff,reduceMul,reduceEqDiff,reduceIte,reg1,reg2,reg3,List.map_cons,List.map_nil,List.length_cons,List.length_nil])
  ((first
 | refine vn rfl ?_
 | simp (disch:=omega) only [wr64,Int.zero_sub]
 | refine bo (fun _=>?_) fun _=>?_
 | refine im fun _=>?_
 | ((repeat refine si ?_); (first | ((first | refine .inl ⟨_,_,_,_,rfl,fun _=>pu (by first | exact office_spec | exact sample_spec | exact f1 | exact f2 | exact f3 | exact f4 | exact f5 | exact f6 | exact note_spec 6 15 7 | exact sameInt [3,4] [3,4] (by decide) (by decide) | exact sameNm [⟨1,4⟩] [⟨1,4⟩] (by decide) (by decide)),?_⟩ | refine ⟨_,_,_,_,rfl,fun _=>pu (by first | exact office_spec | exact sample_spec | exact f1 | exact f2 | exact f3 | exact f4 | exact f5 | exact f6 | exact note_spec 6 15 7 | exact sameInt [3,4] [3,4] (by decide) (by decide) | exact sameNm [⟨1,4⟩] [⟨1,4⟩] (by decide) (by decide)),?_⟩); (first | refine o1 ?_ | refine o2 ?_ | refine o3 ?_ | refine o4 ?_)) | refine .inl ⟨_,_,_,_,rfl,pu (by first | exact office_spec | exact sample_spec | exact f1 | exact f2 | exact f3 | exact f4 | exact f5 | exact f6 | exact note_spec 6 15 7 | exact sameInt [3,4] [3,4] (by decide) (by decide) | exact sameNm [⟨1,4⟩] [⟨1,4⟩] (by decide) (by decide)),?_⟩))
 | refine cF ?_
 | refine om ?_
 | refine an ?_
 | fail) <;> try simp only [zN,zT,zV,zS,zU,vcC,lateX,ex,strp,binA,elems,cells,scalar,eqC,keyA,intsA,lookA,ofVs,mpOf,Nat.reduceBEq,reduceAdd,reduceSub,reduceLT,reduceLeDiff,reduceMul,reduceEqDiff,reduceIte,reg1,reg2,reg3,List.map_cons,List.map_nil,List.length_cons,List.length_nil])
  ((first
 | refine vn rfl ?_
 | simp (disch:=omega) only [wr64,Int.zero_sub]
 | refine bo (fun _=>?_) fun _=>?_
 | refine im fun _=>?_
 | ((repeat refine si ?_); (first | ((first | refine .inl ⟨_,_,_,_,rfl,fun _=>pu (by first | exact office_spec | exact sample_spec | exact f1 | exact f2 | exact f3 | exact f4 | exact f5 | exact f6 | exact note_spec 6 15 7 | exact sameInt [3,4] [3,4] (by decide) (by decide) | exact sameNm [⟨1,4⟩] [⟨1,4⟩] (by decide) (by decide)),?_⟩ | refine ⟨_,_,_,_,rfl,fun _=>pu (by first | exact office_spec | exact sample_spec | exact f1 | exact f2 | exact f3 | exact f4 | exact f5 | exact f6 | exact note_spec 6 15 7 | exact sameInt [3,4] [3,4] (by decide) (by decide) | exact sameNm [⟨1,4⟩] [⟨1,4⟩] (by decide) (by decide)),?_⟩); (first | refine o1 ?_ | refine o2 ?_ | refine o3 ?_ | refine o4 ?_)) | refine .inl ⟨_,_,_,_,rfl,pu (by first | exact office_spec | exact sample_spec | exact f1 | exact f2 | exact f3 | exact f4 | exact f5 | exact f6 | exact note_spec 6 15 7 | exact sameInt [3,4] [3,4] (by decide) (by decide) | exact sameNm [⟨1,4⟩] [⟨1,4⟩] (by decide) (by decide)),?_⟩))
 | refine cF ?_
 | refine om ?_
 | refine an ?_
 | fail) <;> try simp only [zN,zT,zV,zS,zU,vcC,lateX,ex,strp,binA,elems,cells,scalar,eqC,keyA,intsA,lookA,ofVs,mpOf,Nat.reduceBEq,reduceAdd,reduceSub,reduceLT,reduceLeDiff,reduceMul,reduceEqDiff,reduceIte,reg1,reg2,reg3,List.map_cons,List.map_nil,List.length_cons,List.length_nil])
  ((first
 | refine vn rfl ?_
 | simp (disch:=omega) only [wr64,Int.zero_sub]
 | refine bo (fun _=>?_) fun _=>?_
 | refine im fun _=>?_
 | ((repeat refine si ?_); (first | ((first | refine .inl ⟨_,_,_,_,rfl,fun _=>pu (by first | exact office_spec | exact sample_spec | exact f1 | exact f2 | exact f3 | exact f4 | exact f5 | exact f6 | exact note_spec 6 15 7 | exact sameInt [3,4] [3,4] (by decide) (by decide) | exact sameNm [⟨1,4⟩] [⟨1,4⟩] (by decide) (by decide)),?_⟩ | refine ⟨_,_,_,_,rfl,fun _=>pu (by first | exact office_spec | exact sample_spec | exact f1 | exact f2 | exact f3 | exact f4 | exact f5 | exact f6 | exact note_spec 6 15 7 | exact sameInt [3,4] [3,4] (by decide) (by decide) | exact sameNm [⟨1,4⟩] [⟨1,4⟩] (by decide) (by decide)),?_⟩); (first | refine o1 ?_ | refine o2 ?_ | refine o3 ?_ | refine o4 ?_)) | refine .inl ⟨_,_,_,_,rfl,pu (by first | exact office_spec | exact sample_spec | exact f1 | exact f2 | exact f3 | exact f4 | exact f5 | exact f6 | exact note_spec 6 15 7 | exact sameInt [3,4] [3,4] (by decide) (by decide) | exact sameNm [⟨1,4⟩] [⟨1,4⟩] (by decide) (by decide)),?_⟩))
 | refine cF ?_
 | refine om ?_
 | refine an ?_
 | fail) <;> try simp only [zN,zT,zV,zS,zU,vcC,lateX,ex,strp,binA,elems,cells,scalar,eqC,keyA,intsA,lookA,ofVs,mpOf,Nat.reduceBEq,reduceAdd,reduceSub,reduceLT,reduceLeDiff,reduceMul,reduceEqDiff,reduceIte,reg1,reg2,reg3,List.map_cons,List.map_nil,List.length_cons,List.length_nil])
  ((first
 | refine vn rfl ?_
 | simp (disch:=omega) only [wr64,Int.zero_sub]
 | refine bo (fun _=>?_) fun _=>?_
 | refine im fun _=>?_
 | ((repeat refine si ?_); (first | ((first | refine .inl ⟨_,_,_,_,rfl,fun _=>pu (by first | exact office_spec | exact sample_spec | exact f1 | exact f2 | exact f3 | exact f4 | exact f5 | exact f6 | exact note_spec 6 15 7 | exact sameInt [3,4] [3,4] (by decide) (by decide) | exact sameNm [⟨1,4⟩] [⟨1,4⟩] (by decide) (by decide)),?_⟩ | refine ⟨_,_,_,_,rfl,fun _=>pu (by first | exact office_spec | exact sample_spec | exact f1 | exact f2 | exact f3 | exact f4 | exact f5 | exact f6 | exact note_spec 6 15 7 | exact sameInt [3,4] [3,4] (by decide) (by decide) | exact sameNm [⟨1,4⟩] [⟨1,4⟩] (by decide) (by decide)),?_⟩); (first | refine o1 ?_ | refine o2 ?_ | refine o3 ?_ | refine o4 ?_)) | refine .inl ⟨_,_,_,_,rfl,pu (by first | exact office_spec | exact sample_spec | exact f1 | exact f2 | exact f3 | exact f4 | exact f5 | exact f6 | exact note_spec 6 15 7 | exact sameInt [3,4] [3,4] (by decide) (by decide) | exact sameNm [⟨1,4⟩] [⟨1,4⟩] (by decide) (by decide)),?_⟩))
 | refine cF ?_
 | refine om ?_
 | refine an ?_
 | fail) <;> try simp only [zN,zT,zV,zS,zU,vcC,lateX,ex,strp,binA,elems,cells,scalar,eqC,keyA,intsA,lookA,ofVs,mpOf,Nat.reduceBEq,reduceAdd,reduceSub,reduceLT,reduceLeDiff,reduceMul,reduceEqDiff,reduceIte,reg1,reg2,reg3,List.map_cons,List.map_nil,List.length_cons,List.length_nil])
  ((first
 | refine vn rfl ?_
 | simp (disch:=omega) only [wr64,Int.zero_sub]
 | refine bo (fun _=>?_) fun _=>?_
 | refine im fun _=>?_
 | ((repeat refine si ?_); (first | ((first | refine .inl ⟨_,_,_,_,rfl,fun _=>pu (by first | exact office_spec | exact sample_spec | exact f1 | exact f2 | exact f3 | exact f4 | exact f5 | exact f6 | exact note_spec 6 15 7 | exact sameInt [3,4] [3,4] (by decide) (by decide) | exact sameNm [⟨1,4⟩] [⟨1,4⟩] (by decide) (by decide)),?_⟩ | refine ⟨_,_,_,_,rfl,fun _=>pu (by first | exact office_spec | exact sample_spec | exact f1 | exact f2 | exact f3 | exact f4 | exact f5 | exact f6 | exact note_spec 6 15 7 | exact sameInt [3,4] [3,4] (by decide) (by decide) | exact sameNm [⟨1,4⟩] [⟨1,4⟩] (by decide) (by decide)),?_⟩); (first | refine o1 ?_ | refine o2 ?_ | refine o3 ?_ | refine o4 ?_)) | refine .inl ⟨_,_,_,_,rfl,pu (by first | exact office_spec | exact sample_spec | exact f1 | exact f2 | exact f3 | exact f4 | exact f5 | exact f6 | exact note_spec 6 15 7 | exact sameInt [3,4] [3,4] (by decide) (by decide) | exact sameNm [⟨1,4⟩] [⟨1,4⟩] (by decide) (by decide)),?_⟩))
 | refine cF ?_
 | refine om ?_
 | refine an ?_
 | fail) <;> try simp only [zN,zT,zV,zS,zU,vcC,lateX,ex,strp,binA,elems,cells,scalar,eqC,keyA,intsA,lookA,ofVs,mpOf,Nat.reduceBEq,reduceAdd,reduceSub,reduceLT,reduceLeDiff,reduceMul,reduceEqDiff,reduceIte,reg1,reg2,reg3,List.map_cons,List.map_nil,List.length_cons,List.length_nil])
  ((first
 | refine vn rfl ?_
 | simp (disch:=omega) only [wr64,Int.zero_sub]
 | refine bo (fun _=>?_) fun _=>?_
 | refine im fun _=>?_
 | ((repeat refine si ?_); (first | ((first | refine .inl ⟨_,_,_,_,rfl,fun _=>pu (by first | exact office_spec | exact sample_spec | exact f1 | exact f2 | exact f3 | exact f4 | exact f5 | exact f6 | exact note_spec 6 15 7 | exact sameInt [3,4] [3,4] (by decide) (by decide) | exact sameNm [⟨1,4⟩] [⟨1,4⟩] (by decide) (by decide)),?_⟩ | refine ⟨_,_,_,_,rfl,fun _=>pu (by first | exact office_spec | exact sample_spec | exact f1 | exact f2 | exact f3 | exact f4 | exact f5 | exact f6 | exact note_spec 6 15 7 | exact sameInt [3,4] [3,4] (by decide) (by decide) | exact sameNm [⟨1,4⟩] [⟨1,4⟩] (by decide) (by decide)),?_⟩); (first | refine o1 ?_ | refine o2 ?_ | refine o3 ?_ | refine o4 ?_)) | refine .inl ⟨_,_,_,_,rfl,pu (by first | exact office_spec | exact sample_spec | exact f1 | exact f2 | exact f3 | exact f4 | exact f5 | exact f6 | exact note_spec 6 15 7 | exact sameInt [3,4] [3,4] (by decide) (by decide) | exact sameNm [⟨1,4⟩] [⟨1,4⟩] (by decide) (by decide)),?_⟩))
 | refine cF ?_
 | refine om ?_
 | refine an ?_
 | fail) <;> try simp only [zN,zT,zV,zS,zU,vcC,lateX,ex,strp,binA,elems,cells,scalar,eqC,keyA,intsA,lookA,ofVs,mpOf,Nat.reduceBEq,reduceAdd,reduceSub,reduceLT,reduceLeDiff,reduceMul,reduceEqDiff,reduceIte,reg1,reg2,reg3,List.map_cons,List.map_nil,List.length_cons,List.length_nil])
  ((first
 | refine vn rfl ?_
 | simp (disch:=omega) only [wr64,Int.zero_sub]
 | refine bo (fun _=>?_) fun _=>?_
 | refine im fun _=>?_
 | ((repeat refine si ?_); (first | ((first | refine .inl ⟨_,_,_,_,rfl,fun _=>pu (by first | exact office_spec | exact sample_spec | exact f1 | exact f2 | exact f3 | exact f4 | exact f5 | exact f6 | exact note_spec 6 15 7 | exact sameInt [3,4] [3,4] (by decide) (by decide) | exact sameNm [⟨1,4⟩] [⟨1,4⟩] (by decide) (by decide)),?_⟩ | refine ⟨_,_,_,_,rfl,fun _=>pu (by first | exact office_spec | exact sample_spec | exact f1 | exact f2 | exact f3 | exact f4 | exact f5 | exact f6 | exact note_spec 6 15 7 | exact sameInt [3,4] [3,4] (by decide) (by decide) | exact sameNm [⟨1,4⟩] [⟨1,4⟩] (by decide) (by decide)),?_⟩); (first | refine o1 ?_ | refine o2 ?_ | refine o3 ?_ | refine o4 ?_)) | refine .inl ⟨_,_,_,_,rfl,pu (by first | exact office_spec | exact sample_spec | exact f1 | exact f2 | exact f3 | exact f4 | exact f5 | exact f6 | exact note_spec 6 15 7 | exact sameInt [3,4] [3,4] (by decide) (by decide) | exact sameNm [⟨1,4⟩] [⟨1,4⟩] (by decide) (by decide)),?_⟩))
 | refine cF ?_
 | refine om ?_
 | refine an ?_
 | fail) <;> try simp only [zN,zT,zV,zS,zU,vcC,lateX,ex,strp,binA,elems,cells,scalar,eqC,keyA,intsA,lookA,ofVs,mpOf,Nat.reduceBEq,reduceAdd,reduceSub,reduceLT,reduceLeDiff,reduceMul,reduceEqDiff,reduceIte,reg1,reg2,reg3,List.map_cons,List.map_nil,List.length_cons,List.length_nil])
  ((first
 | refine vn rfl ?_
 | simp (disch:=omega) only [wr64,Int.zero_sub]
 | refine bo (fun _=>?_) fun _=>?_
 | refine im fun _=>?_
 | ((repeat refine si ?_); (first | ((first | refine .inl ⟨_,_,_,_,rfl,fun _=>pu (by first | exact office_spec | exact sample_spec | exact f1 | exact f2 | exact f3 | exact f4 | exact f5 | exact f6 | exact note_spec 6 15 7 | exact sameInt [3,4] [3,4] (by decide) (by decide) | exact sameNm [⟨1,4⟩] [⟨1,4⟩] (by decide) (by decide)),?_⟩ | refine ⟨_,_,_,_,rfl,fun _=>pu (by first | exact office_spec | exact sample_spec | exact f1 | exact f2 | exact f3 | exact f4 | exact f5 | exact f6 | exact note_spec 6 15 7 | exact sameInt [3,4] [3,4] (by decide) (by decide) | exact sameNm [⟨1,4⟩] [⟨1,4⟩] (by decide) (by decide)),?_⟩); (first | refine o1 ?_ | refine o2 ?_ | refine o3 ?_ | refine o4 ?_)) | refine .inl ⟨_,_,_,_,rfl,pu (by first | exact office_spec | exact sample_spec | exact f1 | exact f2 | exact f3 | exact f4 | exact f5 | exact f6 | exact note_spec 6 15 7 | exact sameInt [3,4] [3,4] (by decide) (by decide) | exact sameNm [⟨1,4⟩] [⟨1,4⟩] (by decide) (by decide)),?_⟩))
 | refine cF ?_
 | refine om ?_
 | refine an ?_
 | fail) <;> try simp only [zN,zT,zV,zS,zU,vcC,lateX,ex,strp,binA,elems,cells,scalar,eqC,keyA,intsA,lookA,ofVs,mpOf,Nat.reduceBEq,reduceAdd,reduceSub,reduceLT,reduceLeDiff,reduceMul,reduceEqDiff,reduceIte,reg1,reg2,reg3,List.map_cons,List.map_nil,List.length_cons,List.length_nil])
  ((first
 | refine vn rfl ?_
 | simp (disch:=omega) only [wr64,Int.zero_sub]
 | refine bo (fun _=>?_) fun _=>?_
 | refine im fun _=>?_
 | ((repeat refine si ?_); (first | ((first | refine .inl ⟨_,_,_,_,rfl,fun _=>pu (by first | exact office_spec | exact sample_spec | exact f1 | exact f2 | exact f3 | exact f4 | exact f5 | exact f6 | exact note_spec 6 15 7 | exact sameInt [3,4] [3,4] (by decide) (by decide) | exact sameNm [⟨1,4⟩] [⟨1,4⟩] (by decide) (by decide)),?_⟩ | refine ⟨_,_,_,_,rfl,fun _=>pu (by first | exact office_spec | exact sample_spec | exact f1 | exact f2 | exact f3 | exact f4 | exact f5 | exact f6 | exact note_spec 6 15 7 | exact sameInt [3,4] [3,4] (by decide) (by decide) | exact sameNm [⟨1,4⟩] [⟨1,4⟩] (by decide) (by decide)),?_⟩); (first | refine o1 ?_ | refine o2 ?_ | refine o3 ?_ | refine o4 ?_)) | refine .inl ⟨_,_,_,_,rfl,pu (by first | exact office_spec | exact sample_spec | exact f1 | exact f2 | exact f3 | exact f4 | exact f5 | exact f6 | exact note_spec 6 15 7 | exact sameInt [3,4] [3,4] (by decide) (by decide) | exact sameNm [⟨1,4⟩] [⟨1,4⟩] (by decide) (by decide)),?_⟩))
 | refine cF ?_
 | refine om ?_
 | refine an ?_
 | fail) <;> try simp only [zN,zT,zV,zS,zU,vcC,lateX,ex,strp,binA,elems,cells,scalar,eqC,keyA,intsA,lookA,ofVs,mpOf,Nat.reduceBEq,reduceAdd,reduceSub,reduceLT,reduceLeDiff,reduceMul,reduceEqDiff,reduceIte,reg1,reg2,reg3,List.map_cons,List.map_nil,List.length_cons,List.length_nil])
  ((first
 | refine vn rfl ?_
 | simp (disch:=omega) only [wr64,Int.zero_sub]
 | refine bo (fun _=>?_) fun _=>?_
 | refine im fun _=>?_
 | ((repeat refine si ?_); (first | ((first | refine .inl ⟨_,_,_,_,rfl,fun _=>pu (by first | exact office_spec | exact sample_spec | exact f1 | exact f2 | exact f3 | exact f4 | exact f5 | exact f6 | exact note_spec 6 15 7 | exact sameInt [3,4] [3,4] (by decide) (by decide) | exact sameNm [⟨1,4⟩] [⟨1,4⟩] (by decide) (by decide)),?_⟩ | refine ⟨_,_,_,_,rfl,fun _=>pu (by first | exact office_spec | exact sample_spec | exact f1 | exact f2 | exact f3 | exact f4 | exact f5 | exact f6 | exact note_spec 6 15 7 | exact sameInt [3,4] [3,4] (by decide) (by decide) | exact sameNm [⟨1,4⟩] [⟨1,4⟩] (by decide) (by decide)),?_⟩); (first | refine o1 ?_ | refine o2 ?_ | refine o3 ?_ | refine o4 ?_)) | refine .inl ⟨_,_,_,_,rfl,pu (by first | exact office_spec | exact sample_spec | exact f1 | exact f2 | exact f3 | exact f4 | exact f5 | exact f6 | exact note_spec 6 15 7 | exact sameInt [3,4] [3,4] (by decide) (by decide) | exact sameNm [⟨1,4⟩] [⟨1,4⟩] (by decide) (by decide)),?_⟩))
 | refine cF ?_
 | refine om ?_
 | refine an ?_
 | fail) <;> try simp only [zN,zT,zV,zS,zU,vcC,lateX,ex,strp,binA,elems,cells,scalar,eqC,keyA,intsA,lookA,ofVs,mpOf,Nat.reduceBEq,reduceAdd,reduceSub,reduceLT,reduceLeDiff,reduceMul,reduceEqDiff,reduceIte,reg1,reg2,reg3,List.map_cons,List.map_nil,List.length_cons,List.length_nil])
  (repeat' ((first
 | refine vn rfl ?_
 | simp (disch:=omega) only [wr64,Int.zero_sub]
 | refine bo (fun _=>?_) fun _=>?_
 | refine im fun _=>?_
 | ((repeat refine si ?_); (first | ((first | refine .inl ⟨_,_,_,_,rfl,fun _=>pu (by first | exact office_spec | exact sampleF_spec | exact f1 | exact f2 | exact f3 | exact f4 | exact f5 | exact f6 | exact note_spec 6 15 7 | exact sameInt [3,4] [3,4] (by decide) (by decide) | exact sameNm [⟨1,4⟩] [⟨1,4⟩] (by decide) (by decide)),?_⟩ | refine ⟨_,_,_,_,rfl,fun _=>pu (by first | exact office_spec | exact sampleF_spec | exact f1 | exact f2 | exact f3 | exact f4 | exact f5 | exact f6 | exact note_spec 6 15 7 | exact sameInt [3,4] [3,4] (by decide) (by decide) | exact sameNm [⟨1,4⟩] [⟨1,4⟩] (by decide) (by decide)),?_⟩); (first | refine o1 ?_ | refine o2 ?_ | refine o3 ?_ | refine o4 ?_)) | refine .inl ⟨_,_,_,_,rfl,pu (by first | exact office_spec | exact sampleF_spec | exact f1 | exact f2 | exact f3 | exact f4 | exact f5 | exact f6 | exact note_spec 6 15 7 | exact sameInt [3,4] [3,4] (by decide) (by decide) | exact sameNm [⟨1,4⟩] [⟨1,4⟩] (by decide) (by decide)),?_⟩))
 | refine cF ?_
 | refine om ?_
 | refine an ?_
 | fail) <;> try simp only [zN,zT,zV,zS,zU,vcC,lateX,ex,strp,binA,elems,cells,scalar,eqC,keyA,intsA,lookA,ofVs,mpOf,Nat.reduceBEq,reduceAdd,reduceSub,reduceLT,reduceLeDiff,reduceMul,reduceEqDiff,reduceIte,reg1,reg2,reg3,List.map_cons,List.map_nil,List.length_cons,List.length_nil]))
  refine ⟨⟨by simp,by simp [sampL],by decide⟩,?_⟩
  have happ:∀ r,r=Nt.cs outN→List.map Nt.cs sampL++[r]=(sampL++[outN]).map Nt.cs:=by rintro _ rfl; simp
  rw [happ]
  rotate_left
  · rfl
  clear happ
  generalize sampL++[outN]=sx at f6 ⊢
  (repeat' ((first
 | refine vn rfl ?_
 | simp (disch:=omega) only [wr64,Int.zero_sub]
 | refine bo (fun _=>?_) fun _=>?_
 | refine im fun _=>?_
 | ((repeat refine si ?_); (first | ((first | refine .inl ⟨_,_,_,_,rfl,fun _=>pu (by first | exact office_spec | exact sampleF_spec | exact f1 | exact f2 | exact f3 | exact f4 | exact f5 | exact f6 | exact note_spec 6 15 7 | exact sameInt [3,4] [3,4] (by decide) (by decide) | exact sameNm [⟨1,4⟩] [⟨1,4⟩] (by decide) (by decide)),?_⟩ | refine ⟨_,_,_,_,rfl,fun _=>pu (by first | exact office_spec | exact sampleF_spec | exact f1 | exact f2 | exact f3 | exact f4 | exact f5 | exact f6 | exact note_spec 6 15 7 | exact sameInt [3,4] [3,4] (by decide) (by decide) | exact sameNm [⟨1,4⟩] [⟨1,4⟩] (by decide) (by decide)),?_⟩); (first | refine o1 ?_ | refine o2 ?_ | refine o3 ?_ | refine o4 ?_)) | refine .inl ⟨_,_,_,_,rfl,pu (by first | exact office_spec | exact sampleF_spec | exact f1 | exact f2 | exact f3 | exact f4 | exact f5 | exact f6 | exact note_spec 6 15 7 | exact sameInt [3,4] [3,4] (by decide) (by decide) | exact sameNm [⟨1,4⟩] [⟨1,4⟩] (by decide) (by decide)),?_⟩))
 | refine cF ?_
 | refine om ?_
 | refine an ?_
 | fail) <;> try simp only [zN,zT,zV,zS,zU,vcC,lateX,ex,strp,binA,elems,cells,scalar,eqC,keyA,intsA,lookA,ofVs,mpOf,Nat.reduceBEq,reduceAdd,reduceSub,reduceLT,reduceLeDiff,reduceMul,reduceEqDiff,reduceIte,reg1,reg2,reg3,List.map_cons,List.map_nil,List.length_cons,List.length_nil]))
  all_goals exact Frz.eq rfl (by simp)
def c181:CF:=⟨26,(jo [jb 4 false] [0,1]
 (.seq (jo [jm 6 0,je 7 6,jm 8 1,je 9 8,jt .neq 10 7 9] [0,1,10]
 (.cond (.t 10) (jo [jb 4 false] [4]
 .ret)
 .skip))
 (.seq (jo [jc 5 0] [0,1,5]
 (.block 0 (.loop (.seq (jo [jm 11 5,jm 12 0,je 13 12,jt .lss 14 11 13] [0,1,5,14]
 (.cond (.t 14) .skip
 (.exit 0)))
 (.seq (.block 1 (.seq (.draw [jm 17 0,jm 18 5,ji 19 2 17 18,jk 20 2 19,jm 21 1,jm 22 5,ji 23 2 21 22,jk 24 2 23,jw 25 (.eqs true [some .i64,some .i64] (.t 20) (.t 24))] [] [0,1,5,25])
 (.cond (.t 25) (jo [jb 4 false] [4]
 .ret)
 .skip)))
 (.ops [jm 15 5,ju .add 16 15 1,jm 5 16] [0,1,5]))))))
 (jo [jb 4 true] [4]
 .ret)))),[.t 4]⟩
theorem k181:chkF Tryz.prog Tryz.f181 c181=true:=by kernel_rfl
def c117:CF:=⟨39,(jo [jx 2 56 2 0,jx 3 56 2 1,jb 4 false] [2,3]
 (.seq (jo [jf 6 0 2,jl 7 6,jf 8 0 3,jl 9 8,jy 10 181 [7,9],jv 11 10,jm 12 11,jd 12 (jf 13 1 2),jd 12 (jl 14 13),jd 12 (je 15 14),jd 12 (jf 16 1 3),jd 12 (jl 17 16),jd 12 (je 18 17),jd 12 (jt .neq 19 15 18),jq 20 12 19] [2,3,20]
 (.cond (.t 20) (jo [jb 4 false] [4]
 .ret)
 .skip))
 (.seq (jo [jc 5 0] [2,3,5]
 (.block 0 (.loop (.seq (jo [jm 21 5,jf 22 1 2,jl 23 22,je 24 23,jt .lss 25 21 24] [2,3,5,25]
 (.cond (.t 25) .skip
 (.exit 0)))
 (.seq (.block 1 (.seq (.draw [jf 28 1 2,jl 29 28,jm 30 5,ji 31 3 29 30,jk 32 3 31,jf 33 1 3,jl 34 33,jm 35 5,ji 36 3 34 35,jk 37 3 36,jw 38 (.eqs true [some .i64,some .i64,some .i64] (.t 32) (.t 37))] [] [2,3,5,38])
 (.cond (.t 38) (jo [jb 4 false] [4]
 .ret)
 .skip)))
 (.ops [jm 26 5,ju .add 27 26 1,jm 5 27] [2,3,5]))))))
 (jo [jb 4 true] [4]
 .ret)))),[.t 4]⟩
theorem k117:chkF Tryz.prog Tryz.f117 c117=true:=by kernel_rfl
def c53:CF:=⟨61,(jo [jx 2 60 18 0,jx 3 60 18 1,jb 4 false] [2,3]
 (.seq (jo [jf 6 0 2,jk 7 10 6,jf 8 0 3,jk 9 10 8,jw 10 (.eqs true [some .i64,some .i64,some .i64,some .i64,some .i64,some .i64,some .i64,some .i64,some .i64,some .i64] (.t 7) (.t 9)),jm 11 10,jd 11 (jf 12 14 2),jd 11 (jk 13 4 12),jd 11 (jf 14 14 3),jd 11 (jk 15 4 14),⟨some 16,.eqs true [some .i64,some .i64,some .i64,some .i64] (.t 13) (.t 15),some (11,false)⟩,jq 17 11 16,jm 18 17,jd 18 (jf 19 12 2),jd 18 (jk 20 2 19),jd 18 (jf 21 12 3),jd 18 (jk 22 2 21),jd 18 (jy 23 117 [20,22]),jd 18 (jv 24 23),jq 25 18 24,jm 26 25,jd 26 (jf 27 11 2),jd 26 (jl 28 27),jd 26 (jf 29 11 3),jd 26 (jl 30 29),jd 26 (jy 31 68 [28,30]),jd 26 (jv 32 31),jq 33 26 32,jm 34 33,jd 34 (jf 35 10 2),jd 34 (jl 36 35),jd 34 (je 37 36),jd 34 (jf 38 10 3),jd 34 (jl 39 38),jd 34 (je 40 39),jd 34 (jt .neq 41 37 40),jq 42 34 41] [2,3,42]
 (.cond (.t 42) (jo [jb 4 false] [4]
 .ret)
 .skip))
 (.seq (jo [jc 5 0] [2,3,5]
 (.block 0 (.loop (.seq (jo [jm 43 5,jf 44 10 2,jl 45 44,je 46 45,jt .lss 47 43 46] [2,3,5,47]
 (.cond (.t 47) .skip
 (.exit 0)))
 (.seq (.block 1 (.seq (.draw [jf 50 10 2,jl 51 50,jm 52 5,ji 53 3 51 52,jk 54 3 53,jf 55 10 3,jl 56 55,jm 57 5,ji 58 3 56 57,jk 59 3 58,jw 60 (.eqs true [some .i64,some .i64,some .i64] (.t 54) (.t 59))] [] [2,3,5,60])
 (.cond (.t 60) (jo [jb 4 false] [4]
 .ret)
 .skip)))
 (.ops [jm 48 5,ju .add 49 48 1,jm 5 49] [2,3,5]))))))
 (jo [jb 4 true] [4]
 .ret)))),[.t 4]⟩
theorem k53:chkF Tryz.prog Tryz.f53 c53=true:=by kernel_rfl
theorem sameSp (a b:List Sp) (ha:a.length < 9223372036854775808) (hb:b.length < 9223372036854775808):Pure Tryz.prog 181 [spnS a,spnS b] (bl (decide (a=b))):=by
  refine Pure.of_body Tryz.call181 Tryz.func181 k181 (Nat.le_of_ble_eq_true rfl) ?_
  unfold c181
  ((refine Au ?_;repeat' first|exact True.intro|refine Cj.mk ?_ ?_)<;>intros<;>refine hD_ ?_)
  · rename_i h
    rw [decide_eq_false fun e=>by subst e; omega]; exact Frz.eq rfl (by simp)
  rename_i hne
  have hlen:a.length=b.length:=by omega
  refine AWPC.loopI 5 a.length (fun i=>a.take i=b.take i) (by simp) ?_ ?_
  · (simp only [zN,zT,zV,zS,zU,vcC,lateX,ex,strp,binA,elems,cells,scalar,eqC,keyA,intsA,lookA,ofVs,mpOf,Nat.reduceBEq,reduceAdd,reduceSub,reduceLT,reduceLeDiff,reduceMul,reduceEqDiff,reduceIte]; try simp)
  · intro i hi hI
    by_cases hlt:i < a.length
    · have hx:(a.map Sp.cs).getD i []=Sp.cs (a.getD i ⟨0,0⟩):=row _ hlt
      have hy:(b.map Sp.cs).getD i []=Sp.cs (b.getD i ⟨0,0⟩):=row _ (by omega)
      have hk:a.getD i ⟨0,0⟩=b.getD i ⟨0,0⟩↔a.take (i+1)=b.take (i+1):=by
        rw [List.take_add_one,List.take_add_one,hI,getD_lt ⟨0,0⟩ hlt,getD_lt ⟨0,0⟩ (show i < b.length by omega)]; simp
      generalize a.getD i ⟨0,0⟩=x at hx hk
      generalize b.getD i ⟨0,0⟩=y at hy hk
      obtain ⟨x1,x2⟩:=x
      obtain ⟨y1,y2⟩:=y
      simp only [Sp.mk.injEq] at hk
      ((refine Ax (And.intro @hx @hy) ?_;repeat' first|exact True.intro|refine Cj.mk ?_ ?_)<;>intros<;>refine hD_ ?_)
      all_goals try (exfalso; omega)
      · rename_i h
        rw [decide_eq_false fun e=>by
          have:=hk.2 (by rw [e])
          omega]
        exact Frz.eq rfl (by simp)
      · rename_i h
        exact ⟨⟨i+1,hlt,hk.1 (by omega)⟩,by simp,by simp only; omega⟩
    · obtain rfl:i=a.length:=by omega
      ((refine Au ?_;repeat' first|exact True.intro|refine Cj.mk ?_ ?_)<;>intros<;>refine hD_ ?_)
      all_goals try (exfalso; omega)
      rw [List.take_length,hlen,List.take_length] at hI
      rw [decide_eq_true hI]
      exact Frz.eq rfl (by simp)
theorem sameDrum_spec (a b:List Sp × List Mk) (ha:a.1.length < 9223372036854775808∧a.2.length < 9223372036854775808) (hb:b.1.length < 9223372036854775808∧b.2.length < 9223372036854775808):Pure Tryz.prog 117 [.agg [spnS a.1,mkS a.2],.agg [spnS b.1,mkS b.2]] (bl (decide (a=b))):=by
  refine Pure.of_body Tryz.call117 Tryz.func117 k117 (Nat.le_of_ble_eq_true rfl) ?_
  unfold c117
  obtain ⟨a1,a2⟩:=a
  obtain ⟨b1,b2⟩:=b
  simp only at ha hb
  have h1:=sameSp a1 b1 ha.1 hb.1
  by_cases e1:a1=b1
  · rw [decide_eq_true e1] at h1
    by_cases hlen:a2.length=b2.length
    · have hlen':(a2.length:Int)=(b2.length:Int):=by omega
      have hd:decide ((a1,a2)=(b1,b2))=decide (a2=b2):=by rw [decide_eq_decide]; simp [e1]
      rw [hd]
      ((refine Az @hlen' @h1 ?_;repeat' first|exact True.intro|refine Cj.mk ?_ ?_)<;>intros<;>refine hD_ ?_)
      all_goals try (exfalso; omega)
      refine AWPC.loopI 5 a2.length (fun i=>a2.take i=b2.take i) (by simp) ?_ ?_
      · (simp only [zN,zT,zV,zS,zU,vcC,lateX,ex,strp,binA,elems,cells,scalar,eqC,keyA,intsA,lookA,ofVs,mpOf,Nat.reduceBEq,reduceAdd,reduceSub,reduceLT,reduceLeDiff,reduceMul,reduceEqDiff,reduceIte]; try simp)
      · intro i hi hI
        by_cases hlt:i < a2.length
        · have hx:(a2.map Mk.cs).getD i []=Mk.cs (a2.getD i mk0):=row _ hlt
          have hy:(b2.map Mk.cs).getD i []=Mk.cs (b2.getD i mk0):=row _ (by omega)
          have hk:a2.getD i mk0=b2.getD i mk0↔a2.take (i+1)=b2.take (i+1):=by
            rw [List.take_add_one,List.take_add_one,hI,getD_lt mk0 hlt,getD_lt mk0 (show i < b2.length by omega)]; simp
          generalize a2.getD i mk0=x at hx hk
          generalize b2.getD i mk0=y at hy hk
          obtain ⟨x1,⟨x2,x3⟩⟩:=x
          obtain ⟨y1,⟨y2,y3⟩⟩:=y
          simp only [Mk.mk.injEq,Sp.mk.injEq] at hk
          ((refine Ax (And.intro @hx @hy) ?_;repeat' first|exact True.intro|refine Cj.mk ?_ ?_)<;>intros<;>refine hD_ ?_)
          all_goals try (exfalso; omega)
          · rename_i h
            rw [decide_eq_false fun e=>by
              have:=hk.2 (by rw [e])
              omega]
            exact Frz.eq rfl (by simp)
          · rename_i h
            exact ⟨⟨i+1,hlt,hk.1 (by omega)⟩,by simp,by simp only; omega⟩
        · obtain rfl:i=a2.length:=by omega
          ((refine Au ?_;repeat' first|exact True.intro|refine Cj.mk ?_ ?_)<;>intros<;>refine hD_ ?_)
          all_goals try (exfalso; omega)
          rw [List.take_length,hlen,List.take_length] at hI
          rw [decide_eq_true hI]
          exact Frz.eq rfl (by simp)
    · rw [decide_eq_false (fun e=>hlen (by rw [(Prod.mk.inj e).2]))]
      ((refine Ay @h1 ?_;repeat' first|exact True.intro|refine Cj.mk ?_ ?_)<;>intros<;>refine hD_ ?_)
      all_goals try (exfalso; omega)
      all_goals exact Frz.eq rfl (by simp)
  · rw [decide_eq_false e1] at h1
    rw [decide_eq_false (fun e=>e1 (Prod.mk.inj e).1)]
    ((refine Ay @h1 ?_;repeat' first|exact True.intro|refine Cj.mk ?_ ?_)<;>intros<;>refine hD_ ?_)
    all_goals try (exfalso; omega)
    all_goals exact Frz.eq rfl (by simp)
theorem rSameSheet_spec (a b:Sht) (ha:shtSz a) (hb:shtSz b):Pure Tryz.prog 53 [.agg a.cs,.agg b.cs] (bl (decide (a=b))):=by
  refine Pure.of_body Tryz.call53 Tryz.func53 k53 (Nat.le_of_ble_eq_true rfl) ?_
  unfold c53
  have h1:=sameDrum_spec (a.rates,a.stops) (b.rates,b.stops) ⟨ha.2.2.1,ha.2.2.2⟩ ⟨hb.2.2.1,hb.2.2.2⟩
  have h2:=sameInt a.blots b.blots ha.2.1 hb.2.1
  have ht1:=ha.1
  have ht2:=hb.1
  ((refine Ay (And.intro @h1 @h2) ?_;repeat' first|exact True.intro|refine Cj.mk ?_ ?_)<;>intros<;>refine hD_ ?_)
  all_goals try (exfalso; omega)
  · rename_i h
    rw [decide_eq_false fun e=>?_]
    · exact Frz.eq rfl (by simp)
    · subst e
      simp at h
  · rename_i h
    obtain ⟨⟨⟨⟨hp,hn⟩,hd⟩,hb'⟩,ht⟩:(((a.paper=b.paper∧a.pen=b.pen)∧(a.rates,a.stops)=(b.rates,b.stops))∧a.blots=b.blots)∧a.trace.length=b.trace.length:=by
      obtain ⟨⟨p1,p2,p3,p4,p5,p6,⟨p7,p8⟩,⟨p9,p10⟩⟩,_,_,_,_,⟨q1,⟨q2,q3⟩,q4⟩⟩:=a
      obtain ⟨⟨r1,r2,r3,r4,r5,r6,⟨r7,r8⟩,⟨r9,r10⟩⟩,_,_,_,_,⟨s1,⟨s2,s3⟩,s4⟩⟩:=b
      simp only [not_or,Classical.not_not] at h
      obtain ⟨⟨⟨⟨e1,e2⟩,e3⟩,e4⟩,e5⟩:=h
      refine ⟨⟨⟨⟨?_,?_⟩,e3⟩,e4⟩,by exact_mod_cast e5⟩
      · simpa [and_assoc] using e1
      · simpa [and_assoc] using e2
    have hd':decide (a=b)=decide (a.trace=b.trace):=by
      rw [decide_eq_decide]
      obtain ⟨a1,a2,a3,a4,a5,a6⟩:=a
      obtain ⟨b1,b2,b3,b4,b5,b6⟩:=b
      simp only [Sht.mk.injEq,Prod.mk.injEq] at hp hn hd hb' ⊢
      simp [hp,hn,hd,hb']
    rw [hd']
    clear h hd' h1 h2
    obtain ⟨a1,a2,a3,a4,a5,a6⟩:=a
    obtain ⟨b1,b2,b3,b4,b5,b6⟩:=b
    simp only at ht ht1 ht2 ⊢
    have hlen':(a2.length:Int)=(b2.length:Int):=by omega
    refine AWPC.loopI 5 a2.length (fun i=>a2.take i=b2.take i) (by simp) ?_ ?_
    · (simp only [zN,zT,zV,zS,zU,vcC,lateX,ex,strp,binA,elems,cells,scalar,eqC,keyA,intsA,lookA,ofVs,mpOf,Nat.reduceBEq,reduceAdd,reduceSub,reduceLT,reduceLeDiff,reduceMul,reduceEqDiff,reduceIte]; try simp)
    · intro i hi hI
      by_cases hlt:i < a2.length
      · have hx:(a2.map Pt.cs).getD i []=Pt.cs (a2.getD i ⟨0,0,0⟩):=row _ hlt
        have hy:(b2.map Pt.cs).getD i []=Pt.cs (b2.getD i ⟨0,0,0⟩):=row _ (by omega)
        have hk:a2.getD i ⟨0,0,0⟩=b2.getD i ⟨0,0,0⟩↔a2.take (i+1)=b2.take (i+1):=by
          rw [List.take_add_one,List.take_add_one,hI,getD_lt ⟨0,0,0⟩ hlt,getD_lt ⟨0,0,0⟩ (show i < b2.length by omega)]; simp
        generalize a2.getD i ⟨0,0,0⟩=x at hx hk
        generalize b2.getD i ⟨0,0,0⟩=y at hy hk
        obtain ⟨x1,x2,x3⟩:=x
        obtain ⟨y1,y2,y3⟩:=y
        simp only [Pt.mk.injEq] at hk
        ((refine Ax (And.intro @hx @hy) ?_;repeat' first|exact True.intro|refine Cj.mk ?_ ?_)<;>intros<;>refine hD_ ?_)
        all_goals try (exfalso; omega)
        · rename_i h
          rw [decide_eq_false fun e=>by
            have:=hk.2 (by rw [e])
            omega]
          exact Frz.eq rfl (by simp)
        · rename_i h
          exact ⟨⟨i+1,hlt,hk.1 (by omega)⟩,by simp,by simp only; omega⟩
      · obtain rfl:i=a2.length:=by omega
        ((refine Au ?_;repeat' first|exact True.intro|refine Cj.mk ?_ ?_)<;>intros<;>refine hD_ ?_)
        all_goals try (exfalso; omega)
        rw [List.take_length,ht,List.take_length] at hI
        rw [decide_eq_true hI]
        exact Frz.eq rfl (by simp)
def c105:CF:=⟨26,(jo [jb 4 false] [0,1]
 (.seq (jo [jm 6 0,je 7 6,jm 8 1,je 9 8,jt .neq 10 7 9] [0,1,10]
 (.cond (.t 10) (jo [jb 4 false] [4]
 .ret)
 .skip))
 (.seq (jo [jc 5 0] [0,1,5]
 (.block 0 (.loop (.seq (jo [jm 11 5,jm 12 0,je 13 12,jt .lss 14 11 13] [0,1,5,14]
 (.cond (.t 14) .skip
 (.exit 0)))
 (.seq (.block 1 (.seq (.draw [jm 17 0,jm 18 5,ji 19 3 17 18,jk 20 3 19,jm 21 1,jm 22 5,ji 23 3 21 22,jk 24 3 23,jw 25 (.eqs true [some .i64,some .i64,some .i64] (.t 20) (.t 24))] [] [0,1,5,25])
 (.cond (.t 25) (jo [jb 4 false] [4]
 .ret)
 .skip)))
 (.ops [jm 15 5,ju .add 16 15 1,jm 5 16] [0,1,5]))))))
 (jo [jb 4 true] [4]
 .ret)))),[.t 4]⟩
theorem k105:chkF Tryz.prog Tryz.f105 c105=true:=by kernel_rfl
def c59:CF:=⟨52,(jo [jx 2 109 4 0,jx 3 109 4 1,jb 4 false] [2,3]
 (.seq (jo [jf 6 0 2,jl 7 6,jf 8 0 3,jl 9 8,jt .neq 10 7 9,jm 11 10,jd 11 (jf 12 1 2),jd 11 (jl 13 12),jd 11 (jf 14 1 3),jd 11 (jl 15 14),jd 11 (jt .neq 16 13 15),jq 17 11 16,jm 18 17,jd 18 (jf 19 2 2),jd 18 (jl 20 19),jd 18 (jf 21 2 3),jd 18 (jl 22 21),jd 18 (jt .neq 23 20 22),jq 24 18 23,jm 25 24,jd 25 (jf 26 3 2),jd 25 (jl 27 26),jd 25 (je 28 27),jd 25 (jf 29 3 3),jd 25 (jl 30 29),jd 25 (je 31 30),jd 25 (jt .neq 32 28 31),jq 33 25 32] [2,3,33]
 (.cond (.t 33) (jo [jb 4 false] [4]
 .ret)
 .skip))
 (.seq (jo [jc 5 0] [2,3,5]
 (.block 0 (.loop (.seq (jo [jm 34 5,jf 35 3 2,jl 36 35,je 37 36,jt .lss 38 34 37] [2,3,5,38]
 (.cond (.t 38) .skip
 (.exit 0)))
 (.seq (.block 1 (.seq (.draw [jf 41 3 2,jl 42 41,jm 43 5,ji 44 3 42 43,jk 45 3 44,jf 46 3 3,jl 47 46,jm 48 5,ji 49 3 47 48,jk 50 3 49,jw 51 (.eqs true [some .i64,some .i64,some .i64] (.t 45) (.t 50))] [] [2,3,5,51])
 (.cond (.t 51) (jo [jb 4 false] [4]
 .ret)
 .skip)))
 (.ops [jm 39 5,ju .add 40 39 1,jm 5 40] [2,3,5]))))))
 (jo [jb 4 true] [4]
 .ret)))),[.t 4]⟩
theorem k59:chkF Tryz.prog Tryz.f59 c59=true:=by kernel_rfl
def c38:CF:=⟨27,(jo [jb 4 false] [0,1]
 (.seq (jo [jm 6 0,je 7 6,jm 8 1,je 9 8,jt .neq 10 7 9] [0,1,10]
 (.cond (.t 10) (jo [jb 4 false] [4]
 .ret)
 .skip))
 (.seq (jo [jc 5 0] [0,1,5]
 (.block 0 (.loop (.seq (jo [jm 11 5,jm 12 0,je 13 12,jt .lss 14 11 13] [0,1,5,14]
 (.cond (.t 14) .skip
 (.exit 0)))
 (.seq (.block 1 (.seq (.draw [jm 17 0,jm 18 5,ji 19 4 17 18,jk 20 4 19,jm 21 1,jm 22 5,ji 23 4 21 22,jk 24 4 23,jy 25 59 [20,24],jv 26 25] [] [0,1,5,26])
 (.cond (.t 26) (jo [jb 4 false] [4]
 .ret)
 .skip)))
 (.ops [jm 15 5,ju .add 16 15 1,jm 5 16] [0,1,5]))))))
 (jo [jb 4 true] [4]
 .ret)))),[.t 4]⟩
theorem k38:chkF Tryz.prog Tryz.f38 c38=true:=by kernel_rfl
def c40:CF:=⟨70,(jo [jb 4 false] [0,1]
 (.seq (jo [jm 8 0,je 9 8,jm 10 1,je 11 10,jt .neq 12 9 11] [0,1,12]
 (.cond (.t 12) (jo [jb 4 false] [4]
 .ret)
 .skip))
 (.seq (jo [jc 5 0] [0,1,5]
 (.block 0 (.loop (.seq (jo [jm 13 5,jm 14 0,je 15 14,jt .lss 16 13 15] [0,1,5,16]
 (.cond (.t 16) .skip
 (.exit 0)))
 (.seq (.block 1 (jo [jm 19 0,jm 20 5,ji 21 24 19 20,jk 22 24 21,jw 6 (.alloc 72 24 z24),js 24 6 22] [0,1,5,6]
 (jo [jm 23 1,jm 24 5,ji 25 24 23 24,jk 26 24 25,jw 7 (.alloc 72 24 z24),js 24 7 26] [0,1,5,6,7]
 (jo [jf 27 0 6,jk 28 2 27,jf 29 0 7,jk 30 2 29,jw 31 (.eqs true [some .i64,some .i64] (.t 28) (.t 30)),jm 32 31,jd 32 (jf 33 2 6),jd 32 (jl 34 33),jd 32 (jf 35 2 7),jd 32 (jl 36 35),jd 32 (jt .neq 37 34 36),jq 38 32 37,jm 39 38,jd 39 (jf 40 3 6),jd 39 (jl 41 40),jd 39 (jf 42 3 7),jd 39 (jl 43 42),jd 39 (jt .neq 44 41 43),jq 45 39 44,jm 46 45,jd 46 (jf 47 4 6),jd 46 (jk 48 18 47),jd 46 (jf 49 4 7),jd 46 (jk 50 18 49),jd 46 (jy 51 53 [48,50]),jd 46 (jv 52 51),jq 53 46 52,jm 54 53,jd 54 (jf 55 22 6),jd 54 (jl 56 55),jd 54 (jf 57 22 7),jd 54 (jl 58 57),jd 54 (jy 59 105 [56,58]),jd 54 (jv 60 59),jq 61 54 60,jm 62 61,jd 62 (jf 63 23 6),jd 62 (jl 64 63),jd 62 (jf 65 23 7),jd 62 (jl 66 65),jd 62 (jy 67 28 [64,66]),jd 62 (jv 68 67),jq 69 62 68] [0,1,5,69]
 (.cond (.t 69) (jo [jb 4 false] [4]
 .ret)
 .skip)))))
 (.ops [jm 17 5,ju .add 18 17 1,jm 5 18] [0,1,5]))))))
 (jo [jb 4 true] [4]
 .ret)))),[.t 4]⟩
theorem k40:chkF Tryz.prog Tryz.f40 c40=true:=by kernel_rfl
theorem sameMk (a b:List Mk) (ha:a.length < 9223372036854775808) (hb:b.length < 9223372036854775808):Pure Tryz.prog 105 [mkS a,mkS b] (bl (decide (a=b))):=by
  refine Pure.of_body Tryz.call105 Tryz.func105 k105 (Nat.le_of_ble_eq_true rfl) ?_
  unfold c105
  ((refine Au ?_;repeat' first|exact True.intro|refine Cj.mk ?_ ?_)<;>intros<;>refine hD_ ?_)
  · rename_i h
    rw [decide_eq_false fun e=>by subst e; omega]; exact Frz.eq rfl (by simp)
  rename_i hne
  have hlen:a.length=b.length:=by omega
  refine AWPC.loopI 5 a.length (fun i=>a.take i=b.take i) (by simp) ?_ ?_
  · (simp only [zN,zT,zV,zS,zU,vcC,lateX,ex,strp,binA,elems,cells,scalar,eqC,keyA,intsA,lookA,ofVs,mpOf,Nat.reduceBEq,reduceAdd,reduceSub,reduceLT,reduceLeDiff,reduceMul,reduceEqDiff,reduceIte]; try simp)
  · intro i hi hI
    by_cases hlt:i < a.length
    · have hx:(a.map Mk.cs).getD i []=Mk.cs (a.getD i mk0):=row _ hlt
      have hy:(b.map Mk.cs).getD i []=Mk.cs (b.getD i mk0):=row _ (by omega)
      have hk:a.getD i mk0=b.getD i mk0↔a.take (i+1)=b.take (i+1):=by
        rw [List.take_add_one,List.take_add_one,hI,getD_lt mk0 hlt,getD_lt mk0 (show i < b.length by omega)]; simp
      generalize a.getD i mk0=x at hx hk
      generalize b.getD i mk0=y at hy hk
      obtain ⟨x1,x2,x3⟩:=x
      obtain ⟨y1,y2,y3⟩:=y
      simp only [Mk.mk.injEq,Sp.mk.injEq] at hk
      ((refine Ax (And.intro @hx @hy) ?_;repeat' first|exact True.intro|refine Cj.mk ?_ ?_)<;>intros<;>refine hD_ ?_)
      all_goals try (exfalso; omega)
      · rename_i h
        rw [decide_eq_false fun e=>by
          have:=hk.2 (by rw [e])
          omega]
        exact Frz.eq rfl (by simp)
      · rename_i h
        exact ⟨⟨i+1,hlt,hk.1 (by omega)⟩,by simp,by simp only; omega⟩
    · obtain rfl:i=a.length:=by omega
      ((refine Au ?_;repeat' first|exact True.intro|refine Cj.mk ?_ ?_)<;>intros<;>refine hD_ ?_)
      all_goals try (exfalso; omega)
      rw [List.take_length,hlen,List.take_length] at hI
      rw [decide_eq_true hI]
      exact Frz.eq rfl (by simp)
theorem sameStn_spec (a b:Stn) (ha:a.heights.length < 9223372036854775808) (hb:b.heights.length < 9223372036854775808):Pure Tryz.prog 59 [.agg a.cs,.agg b.cs] (bl (decide (a=b))):=by
  refine Pure.of_body Tryz.call59 Tryz.func59 k59 (Nat.le_of_ble_eq_true rfl) ?_
  unfold c59
  obtain ⟨i1,x1,y1,l⟩:=a
  obtain ⟨i2,x2,y2,m⟩:=b
  simp only at ha hb
  have hd:decide ((⟨i1,x1,y1,l⟩:Stn)=⟨i2,x2,y2,m⟩)=decide (i1=i2∧x1=x2∧y1=y2∧l=m):=by rw [decide_eq_decide]; simp
  rw [hd]
  by_cases hg:i1=i2∧x1=x2∧y1=y2∧l.length=m.length
  · obtain ⟨g1,g2,g3,hlen⟩:=hg
    have hd2:decide (i1=i2∧x1=x2∧y1=y2∧l=m)=decide (l=m):=by rw [decide_eq_decide]; simp [g1,g2,g3]
    rw [hd2]
    have hlen':(l.length:Int)=(m.length:Int):=by omega
    ((refine Ax (And.intro @hlen' (And.intro @g1 (And.intro @g2 @g3))) ?_;repeat' first|exact True.intro|refine Cj.mk ?_ ?_)<;>intros<;>refine hD_ ?_)
    all_goals try (exfalso; omega)
    refine AWPC.loopI 5 l.length (fun i=>l.take i=m.take i) (by simp) ?_ ?_
    · (simp only [zN,zT,zV,zS,zU,vcC,lateX,ex,strp,binA,elems,cells,scalar,eqC,keyA,intsA,lookA,ofVs,mpOf,Nat.reduceBEq,reduceAdd,reduceSub,reduceLT,reduceLeDiff,reduceMul,reduceEqDiff,reduceIte]; try simp)
    · intro i hi hI
      by_cases hlt:i < l.length
      · have hx:(l.map Hgt.cs).getD i []=Hgt.cs (l.getD i hgt0):=row _ hlt
        have hy:(m.map Hgt.cs).getD i []=Hgt.cs (m.getD i hgt0):=row _ (by omega)
        have hk:l.getD i hgt0=m.getD i hgt0↔l.take (i+1)=m.take (i+1):=by
          rw [List.take_add_one,List.take_add_one,hI,getD_lt hgt0 hlt,getD_lt hgt0 (show i < m.length by omega)]; simp
        generalize l.getD i hgt0=x at hx hk
        generalize m.getD i hgt0=y at hy hk
        obtain ⟨x1,⟨x2,x3⟩⟩:=x
        obtain ⟨y1,⟨y2,y3⟩⟩:=y
        simp only [Hgt.mk.injEq,Sp.mk.injEq] at hk
        ((refine Ax (And.intro @hx @hy) ?_;repeat' first|exact True.intro|refine Cj.mk ?_ ?_)<;>intros<;>refine hD_ ?_)
        all_goals try (exfalso; omega)
        · rename_i h
          rw [decide_eq_false fun e=>by
            have:=hk.2 (by rw [e])
            omega]
          exact Frz.eq rfl (by simp)
        · rename_i h
          exact ⟨⟨i+1,hlt,hk.1 (by omega)⟩,by simp,by simp only; omega⟩
      · obtain rfl:i=l.length:=by omega
        ((refine Au ?_;repeat' first|exact True.intro|refine Cj.mk ?_ ?_)<;>intros<;>refine hD_ ?_)
        all_goals try (exfalso; omega)
        rw [List.take_length,hlen,List.take_length] at hI
        rw [decide_eq_true hI]
        exact Frz.eq rfl (by simp)
  · rw [decide_eq_false (fun h=>hg ⟨h.1,h.2.1,h.2.2.1,by rw [h.2.2.2]⟩)]
    ((refine Au ?_;repeat' first|exact True.intro|refine Cj.mk ?_ ?_)<;>intros<;>refine hD_ ?_)
    all_goals try (exfalso; omega)
    all_goals exact Frz.eq rfl (by simp)
theorem sameStns (a b:List Stn) (ha:stnSz a) (hb:stnSz b):Pure Tryz.prog 38 [snS a,snS b] (bl (decide (a=b))):=by
  refine Pure.of_body Tryz.call38 Tryz.func38 k38 (Nat.le_of_ble_eq_true rfl) ?_
  unfold c38
  have ha0:=ha.1
  have hb0:=hb.1
  by_cases hlen:a.length=b.length
  · have hlen':(a.length:Int)=(b.length:Int):=by omega
    ((refine Ax @hlen' ?_;repeat' first|exact True.intro|refine Cj.mk ?_ ?_)<;>intros<;>refine hD_ ?_)
    all_goals try (exfalso; omega)
    refine AWPC.loopI 5 a.length (fun i=>a.take i=b.take i) (by simp) ?_ ?_
    · (simp only [zN,zT,zV,zS,zU,vcC,lateX,ex,strp,binA,elems,cells,scalar,eqC,keyA,intsA,lookA,ofVs,mpOf,Nat.reduceBEq,reduceAdd,reduceSub,reduceLT,reduceLeDiff,reduceMul,reduceEqDiff,reduceIte]; try simp)
    · intro i hi hI
      by_cases hlt:i < a.length
      · have hx:(a.map Stn.cs).getD i []=Stn.cs (a.getD i default):=row _ hlt
        have hy:(b.map Stn.cs).getD i []=Stn.cs (b.getD i default):=row _ (by omega)
        have hk:a.getD i default=b.getD i default↔a.take (i+1)=b.take (i+1):=by
          rw [List.take_add_one,List.take_add_one,hI,getD_lt default hlt,getD_lt default (show i < b.length by omega)]; simp
        have hc:=sameStn_spec (a.getD i default) (b.getD i default) (ha.2 _ (List.mem_of_getElem? (getD_lt default hlt))) (hb.2 _ (List.mem_of_getElem? (getD_lt default (show i < b.length by omega))))
        by_cases e:a.getD i default=b.getD i default
        · rw [decide_eq_true e] at hc
          have hN:=hk.1 e
          generalize a.getD i default=x at hx hc
          generalize b.getD i default=y at hy hc
          ((refine Az (And.intro @hx @hy) @hc ?_;repeat' first|exact True.intro|refine Cj.mk ?_ ?_)<;>intros<;>refine hD_ ?_)
          all_goals try (exfalso; omega)
          exact ⟨⟨i+1,hlt,hN⟩,by simp,by simp only; omega⟩
        · rw [decide_eq_false e] at hc
          rw [decide_eq_false (fun h:a=b=>e (by rw [h]))]
          generalize a.getD i default=x at hx hc
          generalize b.getD i default=y at hy hc
          ((refine Az (And.intro @hx @hy) @hc ?_;repeat' first|exact True.intro|refine Cj.mk ?_ ?_)<;>intros<;>refine hD_ ?_)
          all_goals try (exfalso; omega)
          exact Frz.eq rfl (by simp)
      · obtain rfl:i=a.length:=by omega
        ((refine Au ?_;repeat' first|exact True.intro|refine Cj.mk ?_ ?_)<;>intros<;>refine hD_ ?_)
        all_goals try (exfalso; omega)
        rw [List.take_length,hlen,List.take_length] at hI
        rw [decide_eq_true hI]
        exact Frz.eq rfl (by simp)
  · rw [decide_eq_false (fun h:a=b=>hlen (by rw [h]))]
    ((refine Au ?_;repeat' first|exact True.intro|refine Cj.mk ?_ ?_)<;>intros<;>refine hD_ ?_)
    all_goals try (exfalso; omega)
    all_goals exact Frz.eq rfl (by simp)
def fld0:Fld:=⟨nm0,0,0,sht0,[],[]⟩
def fldSz (f:Fld):Prop:=shtSz f.sheet∧f.marks.length < 9223372036854775808∧f.names.length < 9223372036854775808
def fldsSz (l:List Fld):Prop:=l.length < 9223372036854775808∧∀ f∈l,fldSz f
theorem sameFld (a b:List Fld) (ha:fldsSz a) (hb:fldsSz b):Pure Tryz.prog 40 [fdS a,fdS b] (bl (decide (a=b))):=by
  refine Pure.of_body Tryz.call40 Tryz.func40 k40 (Nat.le_of_ble_eq_true rfl) ?_
  unfold c40
  have ha0:=ha.1
  have hb0:=hb.1
  by_cases hlen:a.length=b.length
  · have hlen':(a.length:Int)=(b.length:Int):=by omega
    ((refine Ax @hlen' ?_;repeat' first|exact True.intro|refine Cj.mk ?_ ?_)<;>intros<;>refine hD_ ?_)
    all_goals try (exfalso; omega)
    refine AWPC.loopE (α:={ x:Nat × Sto // x.1≤a.length∧a.take x.1=b.take x.1 }) [5] (fun x=>[(5,n x.1.1)]) (fun x=>x.1.2) (fun x=>a.length - x.1.1) ⟨(0,[]),Nat.zero_le _,by simp⟩ ?_ rfl ?_
    · (simp only [zN,zT,zV,zS,zU,vcC,lateX,ex,strp,binA,elems,cells,scalar,eqC,keyA,intsA,lookA,ofVs,mpOf,Nat.reduceBEq,reduceAdd,reduceSub,reduceLT,reduceLeDiff,reduceMul,reduceEqDiff,reduceIte]; try simp)
    · rintro ⟨⟨i,μ⟩,hi,hI⟩
      simp only at hi hI
      by_cases hlt:i < a.length
      · have hx:(a.map Fld.cs).getD i []=Fld.cs (a.getD i fld0):=row _ hlt
        have hy:(b.map Fld.cs).getD i []=Fld.cs (b.getD i fld0):=row _ (by omega)
        have hk:a.getD i fld0=b.getD i fld0↔a.take (i+1)=b.take (i+1):=by
          rw [List.take_add_one,List.take_add_one,hI,getD_lt fld0 hlt,getD_lt fld0 (show i < b.length by omega)]; simp
        have xs:=ha.2 _ (List.mem_of_getElem? (getD_lt fld0 hlt))
        have ys:=hb.2 _ (List.mem_of_getElem? (getD_lt fld0 (show i < b.length by omega)))
        generalize a.getD i fld0=x at hx hk xs
        generalize b.getD i fld0=y at hy hk ys
        have c1:=rSameSheet_spec x.sheet y.sheet xs.1 ys.1
        have c2:=sameMk x.marks y.marks xs.2.1 ys.2.1
        have c3:=sameNm x.names y.names xs.2.2 ys.2.2
        have hk2:(x.name.clerk=y.name.clerk∧x.name.num=y.name.num)∧x.stn=y.stn∧x.week=y.week∧x.sheet=y.sheet∧x.marks=y.marks∧x.names=y.names↔a.take (i+1)=b.take (i+1):=by
          rw [← hk]
          obtain ⟨⟨n1,n2⟩,p1,p2,p3,p4,p5⟩:=x
          obtain ⟨⟨m1,m2⟩,q1,q2,q3,q4,q5⟩:=y
          simp
        by_cases d1:x.sheet=y.sheet
        · rw [decide_eq_true d1] at c1
          by_cases d2:x.marks=y.marks
          · rw [decide_eq_true d2] at c2
            by_cases d3:x.names=y.names
            · rw [decide_eq_true d3] at c3
              have hk3:(x.name.clerk=y.name.clerk∧x.name.num=y.name.num)∧x.stn=y.stn∧x.week=y.week↔a.take (i+1)=b.take (i+1):=by rw [← hk2]; simp [d1,d2,d3]
              clear hk hk2
              ((refine Az (And.intro @hx @hy) (And.intro @c1 (And.intro @c2 @c3)) ?_;repeat' first|exact True.intro|refine Cj.mk ?_ ?_)<;>intros<;>refine hD_ ?_)
              all_goals try (exfalso; omega)
              · rename_i h
                rw [decide_eq_false fun e=>by
                  have:=hk3.2 (by rw [e])
                  omega]
                exact Frz.eq rfl (by simp)
              · rename_i h
                exact ⟨⟨(i+1,μ++[some [⟨72,24,[x.cs],none⟩],some [⟨72,24,[y.cs],none⟩]]),hlt,hk3.1 (by omega)⟩,by simp,by simp,by simp only; omega⟩
            · rw [decide_eq_false d3] at c3
              rw [decide_eq_false (fun h:a=b=>d3 (hk2.2 (by rw [h])).2.2.2.2.2)]
              clear hk hk2
              ((refine Az (And.intro @hx @hy) (And.intro @c1 (And.intro @c2 @c3)) ?_;repeat' first|exact True.intro|refine Cj.mk ?_ ?_)<;>intros<;>refine hD_ ?_)
              all_goals try (exfalso; omega)
              all_goals exact Frz.eq rfl (by simp)
          · rw [decide_eq_false d2] at c2
            rw [decide_eq_false (fun h:a=b=>d2 (hk2.2 (by rw [h])).2.2.2.2.1)]
            clear hk hk2
            ((refine Az (And.intro @hx @hy) (And.intro @c1 (And.intro @c2 @c3)) ?_;repeat' first|exact True.intro|refine Cj.mk ?_ ?_)<;>intros<;>refine hD_ ?_)
            all_goals try (exfalso; omega)
            all_goals exact Frz.eq rfl (by simp)
        · rw [decide_eq_false d1] at c1
          rw [decide_eq_false (fun h:a=b=>d1 (hk2.2 (by rw [h])).2.2.2.1)]
          clear hk hk2
          ((refine Az (And.intro @hx @hy) (And.intro @c1 (And.intro @c2 @c3)) ?_;repeat' first|exact True.intro|refine Cj.mk ?_ ?_)<;>intros<;>refine hD_ ?_)
          all_goals try (exfalso; omega)
          all_goals exact Frz.eq rfl (by simp)
      · obtain rfl:i=a.length:=by omega
        ((refine Au ?_;repeat' first|exact True.intro|refine Cj.mk ?_ ?_)<;>intros<;>refine hD_ ?_)
        all_goals try (exfalso; omega)
        rw [List.take_length,hlen,List.take_length] at hI
        rw [decide_eq_true hI]
        exact Frz.eq rfl (by simp)
  · rw [decide_eq_false (fun h:a=b=>hlen (by rw [h]))]
    ((refine Au ?_;repeat' first|exact True.intro|refine Cj.mk ?_ ?_)<;>intros<;>refine hD_ ?_)
    all_goals try (exfalso; omega)
    all_goals exact Frz.eq rfl (by simp)
def rgrSz (r:Rgr):Prop:=fldsSz r.sheets∧r.reads.length < 9223372036854775808∧stnSz r.stns∧r.confl.length < 9223372036854775808
def c33:CF:=⟨39,(jo [jx 1 60 18 0,jb 2 false] [1]
 (jo [jf 3 10 1,jl 4 3,je 5 4,ju .leq 6 5 40,jm 7 6,jd 7 (jf 8 10 1),jd 7 (jl 9 8),jd 7 (je 10 9),jd 7 (ju .gtr 11 10 2000),jd 7 (jm 12 11),ja 12 (jf 13 10 1),ja 12 (jl 14 13),ja 12 (je 15 14),ja 12 (ju .leq 16 15 4000),jd 7 (jp 17 12 16),jq 18 7 17,jm 19 18,ja 19 (jf 20 11 1),ja 19 (jl 21 20),ja 19 (je 22 21),ja 19 (ju .leq 23 22 250),jp 24 19 23,jm 25 24,ja 25 (jf 26 12 1),ja 25 (jf 27 0 26),ja 25 (jl 28 27),ja 25 (je 29 28),ja 25 (ju .leq 30 29 250),jp 31 25 30,jm 32 31,ja 32 (jf 33 12 1),ja 32 (jf 34 1 33),ja 32 (jl 35 34),ja 32 (je 36 35),ja 32 (ju .leq 37 36 40),jp 38 32 37,jm 2 38] [2]
 .ret)),[.t 2]⟩
theorem k33:chkF Tryz.prog Tryz.f33 c33=true:=by kernel_rfl
def c19:CF:=⟨35,(jo [jx 1 26 6 0,jb 2 false] [1]
 (.seq (jo [jf 4 0 1,jl 5 4,je 6 5,ju .gtr 7 6 8,jm 8 7,ja 8 (jf 9 0 1),ja 8 (jl 10 9),ja 8 (je 11 10),ja 8 (ju .leq 12 11 32),jp 13 8 12,jm 14 13,jd 14 (jf 15 0 1),jd 14 (jl 16 15),jd 14 (je 17 16),jd 14 (ju .gtr 18 17 100),jq 19 14 18] [1,19]
 (.cond (.t 19) (jo [jb 2 false] [2]
 .ret)
 .skip))
 (.seq (jo [jc 3 0] [1,3]
 (.block 0 (.loop (.seq (jo [jm 20 3,jf 21 0 1,jl 22 21,je 23 22,jt .lss 24 20 23] [1,3,24]
 (.cond (.t 24) .skip
 (.exit 0)))
 (.seq (.block 1 (jo [jf 27 0 1,jl 28 27,jm 29 3,ji 30 4 28 29,jf 31 3 30,jl 32 31,je 33 32,ju .gtr 34 33 40] [1,3,34]
 (.cond (.t 34) (jo [jb 2 false] [2]
 .ret)
 .skip)))
 (.ops [jm 25 3,ju .add 26 25 1,jm 3 26] [1,3]))))))
 (jo [jb 2 true] [2]
 .ret)))),[.t 2]⟩
theorem k19:chkF Tryz.prog Tryz.f19 c19=true:=by kernel_rfl
def c20:CF:=⟨30,(jo [jb 2 false] [0]
 (.seq (jo [jm 4 0,je 5 4,ju .gtr 6 5 40,jm 7 6,ja 7 (jm 8 0),ja 7 (je 9 8),ja 7 (ju .leq 10 9 400),jp 11 7 10,jm 12 11,jd 12 (jm 13 0),jd 12 (je 14 13),jd 12 (ju .gtr 15 14 800),jq 16 12 15] [0,16]
 (.cond (.t 16) (jo [jb 2 false] [2]
 .ret)
 .skip))
 (.seq (jo [jc 3 0] [0,3]
 (.block 0 (.loop (.seq (jo [jm 17 3,jm 18 0,je 19 18,jt .lss 20 17 19] [0,3,20]
 (.cond (.t 20) .skip
 (.exit 0)))
 (.seq (.block 1 (jo [jm 23 0,jm 24 3,ji 25 38 23 24,jf 26 7 25,jk 27 18 26,jy 28 33 [27],jv 29 28] [0,3,29]
 (.cond (.t 29) (jo [jb 2 false] [2]
 .ret)
 .skip)))
 (.ops [jm 21 3,ju .add 22 21 1,jm 3 22] [0,3]))))))
 (jo [jb 2 true] [2]
 .ret)))),[.t 2]⟩
theorem k20:chkF Tryz.prog Tryz.f20 c20=true:=by kernel_rfl
def slightB (s:Sht):Bool:=(decide (s.trace.length≤40) || (decide (2000 < s.trace.length) && decide (s.trace.length≤4000))) && decide (s.blots.length≤250) && decide (s.rates.length≤250) && decide (s.stops.length≤40)
def smallB (b:Bse):Bool:=!((decide (8 < b.stns.length) && decide (b.stns.length≤32)) || decide (100 < b.stns.length)) && b.stns.all fun s=>decide (s.heights.length≤40)
def fewB (l:List Nt):Bool:=!((decide (40 < l.length) && decide (l.length≤400)) || decide (800 < l.length)) && l.all fun a=>slightB a.sheet
theorem slight_spec (s:Sht):Pure Tryz.prog 33 [.agg s.cs] (bl (slightB s)):=by
  refine Pure.of_body Tryz.call33 Tryz.func33 k33 (Nat.le_of_ble_eq_true rfl) ?_
  unfold c33
  ((refine Au ?_;repeat' first|exact True.intro|refine Cj.mk ?_ ?_)<;>intros<;>refine hD_ ?_)
  refine Frz.eq (congrArg bl ?_) (by simp)
  unfold slightB
  rw [Bool.eq_iff_iff]
  simp only [Bool.and_eq_true,Bool.or_eq_true,decide_eq_true_eq]
  omega
theorem small_spec (b:Bse) (hb:bseSz b):Pure Tryz.prog 19 [.agg b.cs] (bl (smallB b)):=by
  refine Pure.of_body Tryz.call19 Tryz.func19 k19 (Nat.le_of_ble_eq_true rfl) ?_
  unfold c19
  have h1:=hb.1
  by_cases hbig:(8 < b.stns.length∧b.stns.length≤32)∨100 < b.stns.length
  · have hE:smallB b=false:=by
      unfold smallB
      have:((decide (8 < b.stns.length) && decide (b.stns.length≤32)) || decide (100 < b.stns.length))=true:=by simpa using hbig
      rw [this]; rfl
    rw [hE]
    ((refine Au ?_;repeat' first|exact True.intro|refine Cj.mk ?_ ?_)<;>intros<;>refine hD_ ?_)
    all_goals first | (exfalso; omega) | exact Frz.eq rfl (by simp)
  · have hE:smallB b=b.stns.all fun s=>decide (s.heights.length≤40):=by
      unfold smallB
      have:((decide (8 < b.stns.length) && decide (b.stns.length≤32)) || decide (100 < b.stns.length))=false:=by rw [Bool.eq_false_iff]; simpa using hbig
      rw [this]; rfl
    rw [hE]
    ((refine Au ?_;repeat' first|exact True.intro|refine Cj.mk ?_ ?_)<;>intros<;>refine hD_ ?_)
    all_goals try (exfalso; omega)
    refine AWPC.loopI 3 b.stns.length (fun i=>((b.stns.drop i).all fun s=>decide (s.heights.length≤40))=b.stns.all fun s=>decide (s.heights.length≤40)) (by simp) ?_ ?_
    · (simp only [zN,zT,zV,zS,zU,vcC,lateX,ex,strp,binA,elems,cells,scalar,eqC,keyA,intsA,lookA,ofVs,mpOf,Nat.reduceBEq,reduceAdd,reduceSub,reduceLT,reduceLeDiff,reduceMul,reduceEqDiff,reduceIte]; try simp)
    · intro i hi hI
      by_cases hlt:i < b.stns.length
      · obtain ⟨x,hx⟩:∃ x,b.stns[i]?=some x:=⟨_,List.getElem?_eq_getElem hlt⟩
        have hh:=hb.2 x (List.mem_of_getElem? hx)
        rw [drop_cons hx,List.all_cons] at hI
        (repeat' ((first
 | refine vn rfl ?_
 | simp (disch:=omega) only [wr64,Int.zero_sub]
 | refine bo (fun _=>?_) fun _=>?_
 | refine im fun _=>?_
 | refine cF ?_
 | refine om ?_
 | refine an ?_
 | fail) <;> try simp only [zN, zT, zV, zS, zU, vcC, lateX, ex, strp, binA, elems, cells, scalar, eqC, keyA, intsA, lookA, ofVs, mpOf, Nat.reduceBEq, reduceAdd, reduceSub, reduceLT, reduceLeDiff, reduceMul, reduceEqDiff, reduceIte, getD_map hx]))
        all_goals try (exfalso; omega)
        · rename_i h
          rw [show decide (x.heights.length≤40)=false by simp; omega,Bool.false_and] at hI
          rw [← hI]
          exact Frz.eq rfl (by simp)
        · rename_i h
          rw [show decide (x.heights.length≤40)=true by simp; omega,Bool.true_and] at hI
          exact ⟨⟨i+1,hlt,hI⟩,by simp,by simp only; omega⟩
      · obtain rfl:i=b.stns.length:=by omega
        rw [List.drop_length,List.all_nil] at hI
        ((refine Au ?_;repeat' first|exact True.intro|refine Cj.mk ?_ ?_)<;>intros<;>refine hD_ ?_)
        all_goals try (exfalso; omega)
        rw [← hI]
        exact Frz.eq rfl (by simp)
theorem few_spec (l:List Nt) (hl:l.length < 9223372036854775808):Pure Tryz.prog 20 [ntS l] (bl (fewB l)):=by
  refine Pure.of_body Tryz.call20 Tryz.func20 k20 (Nat.le_of_ble_eq_true rfl) ?_
  unfold c20
  by_cases hbig:(40 < l.length∧l.length≤400)∨800 < l.length
  · have hE:fewB l=false:=by
      unfold fewB
      have:((decide (40 < l.length) && decide (l.length≤400)) || decide (800 < l.length))=true:=by simpa using hbig
      rw [this]; rfl
    rw [hE]
    ((refine Au ?_;repeat' first|exact True.intro|refine Cj.mk ?_ ?_)<;>intros<;>refine hD_ ?_)
    all_goals first | (exfalso; omega) | exact Frz.eq rfl (by simp)
  · have hE:fewB l=l.all fun a=>slightB a.sheet:=by
      unfold fewB
      have:((decide (40 < l.length) && decide (l.length≤400)) || decide (800 < l.length))=false:=by rw [Bool.eq_false_iff]; simpa using hbig
      rw [this]; rfl
    rw [hE]
    ((refine Au ?_;repeat' first|exact True.intro|refine Cj.mk ?_ ?_)<;>intros<;>refine hD_ ?_)
    all_goals try (exfalso; omega)
    refine AWPC.loopI 3 l.length (fun i=>((l.drop i).all fun a=>slightB a.sheet)=l.all fun a=>slightB a.sheet) (by simp) ?_ ?_
    · (simp only [zN,zT,zV,zS,zU,vcC,lateX,ex,strp,binA,elems,cells,scalar,eqC,keyA,intsA,lookA,ofVs,mpOf,Nat.reduceBEq,reduceAdd,reduceSub,reduceLT,reduceLeDiff,reduceMul,reduceEqDiff,reduceIte]; try simp)
    · intro i hi hI
      by_cases hlt:i < l.length
      · obtain ⟨x,hx⟩:∃ x,l[i]?=some x:=⟨_,List.getElem?_eq_getElem hlt⟩
        rw [drop_cons hx,List.all_cons] at hI
        have hc:=slight_spec x.sheet
        cases hs:slightB x.sheet with
        | false =>
          rw [hs] at hI hc
          (repeat' ((first
 | refine vn rfl ?_
 | simp (disch:=omega) only [wr64,Int.zero_sub]
 | refine bo (fun _=>?_) fun _=>?_
 | refine im fun _=>?_
 | ((repeat refine si ?_); (first | ((first | refine .inl ⟨_,_,_,_,rfl,fun _=>pu hc,?_⟩ | refine ⟨_,_,_,_,rfl,fun _=>pu hc,?_⟩); (first | refine o1 ?_ | refine o2 ?_ | refine o3 ?_ | refine o4 ?_)) | refine .inl ⟨_,_,_,_,rfl,pu hc,?_⟩))
 | refine cF ?_
 | refine om ?_
 | refine an ?_
 | fail) <;> try simp only [zN, zT, zV, zS, zU, vcC, lateX, ex, strp, binA, elems, cells, scalar, eqC, keyA, intsA, lookA, ofVs, mpOf, Nat.reduceBEq, reduceAdd, reduceSub, reduceLT, reduceLeDiff, reduceMul, reduceEqDiff, reduceIte, getD_map hx]))
          all_goals try (exfalso; omega)
          rw [← hI]
          exact Frz.eq rfl (by simp)
        | true =>
          rw [hs] at hI hc
          rw [Bool.true_and] at hI
          (repeat' ((first
 | refine vn rfl ?_
 | simp (disch:=omega) only [wr64,Int.zero_sub]
 | refine bo (fun _=>?_) fun _=>?_
 | refine im fun _=>?_
 | ((repeat refine si ?_); (first | ((first | refine .inl ⟨_,_,_,_,rfl,fun _=>pu hc,?_⟩ | refine ⟨_,_,_,_,rfl,fun _=>pu hc,?_⟩); (first | refine o1 ?_ | refine o2 ?_ | refine o3 ?_ | refine o4 ?_)) | refine .inl ⟨_,_,_,_,rfl,pu hc,?_⟩))
 | refine cF ?_
 | refine om ?_
 | refine an ?_
 | fail) <;> try simp only [zN, zT, zV, zS, zU, vcC, lateX, ex, strp, binA, elems, cells, scalar, eqC, keyA, intsA, lookA, ofVs, mpOf, Nat.reduceBEq, reduceAdd, reduceSub, reduceLT, reduceLeDiff, reduceMul, reduceEqDiff, reduceIte, getD_map hx]))
          all_goals try (exfalso; omega)
          exact ⟨⟨i+1,hlt,hI⟩,by simp,by simp only; omega⟩
      · obtain rfl:i=l.length:=by omega
        rw [List.drop_length,List.all_nil] at hI
        ((refine Au ?_;repeat' first|exact True.intro|refine Cj.mk ?_ ?_)<;>intros<;>refine hD_ ?_)
        all_goals try (exfalso; omega)
        rw [← hI]
        exact Frz.eq rfl (by simp)
end Go.Proofs.YtolgelipcgcbhaaGreat
