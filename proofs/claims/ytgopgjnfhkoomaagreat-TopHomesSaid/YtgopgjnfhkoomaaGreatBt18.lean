/- Part 18 of the texts: abstract values over the walk; contracts. -/
import Derived.Test.YtgopgjnfhkoomaaGreatBt15
import Derived.Test.YtgopgjnfhkoomaaGreatBt17
import Derived.Test.YtgopgjnfhkoomaaGreatRows
import Derived.WalkKit
import Derived.ProofKit
import Derived.OpenShut
import Derived.ShutString
import Derived.ChangeOld
import Derived.Below
set_option linter.unusedVariables false
set_option linter.unusedSimpArgs false
namespace Go.Proofs.YtgopgjnfhkoomaaGreat
open Go.Abs
open Nat (reduceAdd reduceSub reduceLT reduceLeDiff reduceMul reduceEqDiff)
set_option maxHeartbeats 4000000
set_option maxRecDepth 100000
def c3:CF:=⟨217,(jo [jx 6 26 6 0,jx 11 30 4 5,jb 12 false] [1,2,3,4,6,11] (jo [jy 32 5 [],jm 13 32] [1,2,3,4,6,11,13] (jo [jk 34 6 6,jm 35 1,jm 36 2,jy 37 6 [34,35,36],jm 33 37,jz 38 0 33,jz 39 1 33,jz 40 2 33,jw 14 (.alloc 36 4 [.slice none 0 0,.slice none 0 0,.slice none 0 0,.slice none 0 0]),jw 15 (.alloc 38 9 [.slice none 0 0,.int .i64 0,.int .i64 0,.int .i64 0,.int .i64 0,.int .i64 0,.int .i64 0,.slice none 0 0,.slice none 0 0]),js 4 14 38,js 9 15 39,jm 16 40] [3,4,6,11,13,15,16] (.seq (jo [jm 41 16,jv 42 41,jm 43 42,jd 43 (jm 44 3),jd 43 (ju .lss 45 44 0),jq 46 43 45,jm 47 46,jd 47 (jm 48 3),jd 47 (jf 49 7 15),jd 47 (jl 50 49),jd 47 (je 51 50),jd 47 (jt .geq 52 48 51),jq 53 47 52] [3,4,6,11,13,15,53] (.cond (.t 53) (jo [jm 54 13,jm 12 54] [12] .ret) .skip)) (jo [jk 56 9 15,jm 57 3,jy 58 7 [56,57],jm 55 58,jz 59 0 55,jz 60 1 55,jm 17 59,jm 18 60] [3,4,6,11,13,15,17,18] (jo [jk 62 9 15,jy 63 8 [62],jm 61 63,jz 64 0 61,jz 65 1 61,jm 19 64,jm 20 65] [3,4,6,11,13,15,17,18,19,20] (.seq (jo [jm 66 18,ju .neq 67 66 0,jm 68 67,jd 68 (jm 69 20),jd 68 (ju .neq 70 69 0),jq 71 68 70] [3,4,6,11,13,15,17,18,19,20,71] (.cond (.t 71) (jo [jm 72 13,jm 73 72,ja 73 (jm 74 18),ja 73 (ju .eql 75 74 2),ja 73 (jm 76 75),jd 76 (jm 77 20),jd 76 (ju .eql 78 77 2),ja 73 (jq 79 76 78),jp 80 73 79,jm 12 80] [12] .ret) .skip)) (.seq (jo [jc 21 0] [3,4,6,11,13,15,17,19,21] (.block 0 (.loop (.seq (jo [jm 81 21,jm 82 19,je 83 82,jt .lss 84 81 83] [3,4,6,11,13,15,17,19,21,84] (.cond (.t 84) .skip (.exit 0))) (.seq (.block 1 (.seq (.seq (.draw [jm 87 19,jm 88 21,ji 89 1 87 88,jl 90 89,ju .lss 91 90 0,jm 92 91,jd 92 (jm 93 19),jd 92 (jm 94 21),jd 92 (ji 95 1 93 94),jd 92 (jl 96 95),jd 92 (jf 97 7 15),jd 92 (jl 98 97),jd 92 (je 99 98),jd 92 (jt .geq 100 96 99),jq 101 92 100] [] [3,4,6,11,13,15,17,19,21,101]) (.cond (.t 101) (jo [jb 12 false] [12] .ret) .skip)) (.seq (.draw [jk 103 9 15,jm 104 19,jm 105 21,ji 106 1 104 105,jl 107 106,jy 108 9 [103,107],jm 102 108,jz 109 0 102,jz 110 1 102,jm 22 109,jm 23 110] [] [3,4,6,11,13,15,17,19,21,23]) (jo [jm 111 23,ju .neq 112 111 71] [3,4,6,11,13,15,17,19,21,112] (.cond (.t 112) (jo [jb 12 false] [12] .ret) .skip))))) (.ops [jm 85 21,ju .add 86 85 1,jm 21 86] [3,4,6,11,13,15,17,19,21])))))) (.seq (.seq (.draw [jf 113 7 15,jl 114 113,jm 115 3,ji 116 24 114 115,jf 117 4 116,jk 118 18 117,jf 119 4 6,jl 120 119,jk 121 4 11,jy 122 10 [118,120,121],jv 123 122] [] [3,4,11,13,15,17,123]) (.cond (.t 123) (jo [jm 124 13,jm 12 124] [12] .ret) .skip)) (.seq (jo [jc 24 0] [3,4,11,13,15,17,24] (.block 2 (.loop (.seq (jo [jm 125 24,jf 126 7 15,jl 127 126,jm 128 3,ji 129 24 127 128,jf 130 22 129,jl 131 130,je 132 131,jt .lss 133 125 132] [3,4,11,13,15,17,24,133] (.cond (.t 133) .skip (.exit 2))) (.seq (.block 3 (jo [jf 136 7 15,jl 137 136,jm 138 3,ji 139 24 137 138,jf 140 22 139,jl 141 140,jm 142 24,ji 143 3 141 142,jk 144 3 143,jw 25 (.alloc 68 3 [.int .i64 0,.int .i64 0,.int .i64 0]),js 3 25 144] [3,4,11,13,15,17,24,25] (.seq (.draw [jf 145 1 25,jk 146 2 145,jw 147 (.jR false 52 2 1 [.int .i64 0,.int .i64 0] [(0,2,(.t 146))]),jf 148 1 11,jl 149 148,jf 150 0 25,jl 151 150,ji 152 1 149 151,jl 153 152,jy 154 11 [147,153],jv 155 154] [] [3,4,11,13,15,17,24,155]) (.cond (.t 155) (jo [jm 156 13,jm 12 156] [12] .ret) .skip)))) (.ops [jm 134 24,ju .add 135 134 1,jm 24 135] [3,4,11,13,15,17,24])))))) (.seq (jo [jc 26 0] [4,11,13,15,17,26] (.block 4 (.loop (.seq (jo [jm 157 26,jf 158 8 15,jl 159 158,je 160 159,jt .lss 161 157 160] [4,11,13,15,17,26,161] (.cond (.t 161) .skip (.exit 4))) (.seq (.block 5 (jo [jf 164 8 15,jl 165 164,jm 166 26,ji 167 5 165 166,jk 168 5 167,jw 27 (.alloc 71 5 [.int .i64 0,.int .i64 0,.int .i64 0,.int .i64 0,.int .i64 0]),js 5 27 168] [4,11,13,15,17,26,27] (.seq (.draw [jf 169 0 27,jl 170 169,jm 171 4,jt .eql 172 170 171,jm 173 172,ja 173 (jf 174 3 27),ja 173 (jk 175 2 174),⟨some 176,.jR false 52 2 1 [.int .i64 0,.int .i64 0] [(0,2,(.t 175))],some (173,true)⟩,ja 173 (jf 177 3 11),ja 173 (jl 178 177),ja 173 (jf 179 2 27),ja 173 (jl 180 179),ja 173 (ji 181 1 178 180),ja 173 (jl 182 181),ja 173 (jy 183 11 [176,182]),ja 173 (jv 184 183),jp 185 173 184] [] [4,11,13,15,17,26,185]) (.cond (.t 185) (jo [jm 186 13,jm 12 186] [12] .ret) .skip)))) (.ops [jm 162 26,ju .add 163 162 1,jm 26 163] [4,11,13,15,17,26])))))) (jo [jf 188 0 15,jf 189 0 188,jl 190 189,jm 191 4,jy 192 12 [190,191],jm 187 192,jz 193 0 187,jz 194 1 187,jm 28 193,jm 29 194] [4,13,17,29] (jo [jb 30 false] [4,13,17,29,30] (.seq (jo [jc 31 0] [4,13,17,29,30,31] (.block 6 (.loop (.seq (jo [jm 195 31,jm 196 17,je 197 196,jt .lss 198 195 197] [4,13,17,29,30,31,198] (.cond (.t 198) .skip (.exit 6))) (.seq (.block 7 (.ops [jm 201 30,jm 202 201,jd 202 (jm 203 17),jd 202 (jm 204 31),jd 202 (ji 205 1 203 204),jd 202 (jl 206 205),jd 202 (jm 207 4),jd 202 (jt .eql 208 206 207),jq 209 202 208,jm 30 209] [4,13,17,29,30,31])) (.ops [jm 199 31,ju .add 200 199 1,jm 31 200] [4,13,17,29,30,31])))))) (jo [jm 210 13,jm 211 210,ja 211 (jm 212 30),ja 211 (jm 213 29),ja 211 (ju .eql 214 213 0),⟨some 215,.Ox false (.t 212) (.t 214),some (211,true)⟩,jp 216 211 215,jm 12 216] [12] .ret))))))))))))))),[.t 12]⟩
theorem k3:jP Tryz.prog Tryz.f3 c3=true:=by kernel_rfl
theorem N1{w:Wk}{x:Int}(h:x∈oG w w.aS.length):∃(j:Nat) (g:dm),x=(j:Int)/\w.aS[j]?=some g/\Fj w g=true:=by
 unfold oG at h
 rw[aI]at h
 obtain⟨⟨g,j⟩,hp,rfl⟩:=aO.1 h
 obtain⟨h1,h2⟩:=cM.1 hp
 exact⟨j,g,rfl,List.mem_zipIdx_iff_getElem?.1 h1,h2⟩
theorem IQ{s:Sp}{v:Int}(h:Fz [s] v=true):s.lo<=v/\v<=s.hi:=by
 unfold Fz at h
 simpa using h
theorem FH(hA:Pure Tryz.prog 5 [] (bl true))(b:l8)(l:List Nt)(wk sh st:Int)(r:Cr)(rg:FU)(w:Wk)(ok:Bool)(hW:Pure Tryz.prog 6 [.agg b.cs,Ad l,n wk] (.iu [.agg rg.cs,.agg w.cs,bl ok]))(lO:ok=true->Ny w/\UN w/\Pure Tryz.prog 26 [.agg w.cs] (n 0)/\w.base.bD=b.bD)(SP:w.aS.length<9223372036854775808)(z1:r.tk.length<9223372036854775808)(z2:r.shown.length<9223372036854775808)(z3:r.nq.length<9223372036854775808):Pure Tryz.prog 3 [.agg b.cs,Ad l,n wk,n sh,n st,.agg (Ub r)] (bl true):=by
 refine mu Tryz.call3 Tryz.func3 k3 ?_
 unfold c3
 have D7:=crP r
 by_cases p9:ok=true/\0<=sh/\sh<w.aS.length
 ·obtain⟨rfl,h1,h2⟩:=p9
  obtain⟨hz,hg,mw,vZ⟩:=lO rfl
  have hw:=aan hz hg
  obtain⟨i,rfl⟩:∃i:Nat,sh=i:=⟨sh.toNat,by omega⟩
  obtain⟨f,hf⟩:∃f,w.aS[i]?=some f:=⟨_,ae (by omega)⟩
  have hH:=Hs w hw mw i f hf
  obtain⟨e,he,hM⟩:=A9 w hw mw
  have A_:=Fk w w.aS.length
  have Ym:(ir w f w.base.dh).length<9223372036854775808:=by
   have:=hw.st
   unfold ir;rw[aF]
   have:=bK (fun s:j3=>lL (tW w f s.id)) w.base.dh
   omega
  by_cases hA4:4000<p' w f
  ·rw[if_pos hA4]at hH
   by_cases qU:e=2
   ·rw[if_pos qU]at hM
    ((refine Az @zN (aa @hA (aa @hW (aa @hH @hM))) ?_;repeat' constructor)<;>intros<;>refine aP ?_)
    all_goals try contradiction
    all_goals exact Fq
   ·rw[if_neg qU]at hM
    ((refine Az @zN (aa @hA (aa @hW (aa @hH @hM))) ?_;repeat' constructor)<;>intros<;>refine aP ?_)
    all_goals try contradiction
    all_goals exact Fq
  ·rw[if_neg hA4]at hH
   by_cases qU:e=2
   ·rw[if_pos qU]at hM
    ((refine Az @zN (aa @hA (aa @hW (aa @hH @hM))) ?_;repeat' constructor)<;>intros<;>refine aP ?_)
    all_goals try contradiction
    all_goals exact Fq
   ·rw[if_neg qU]at hM
    have ff:∀f∈w.aS,p' w f<=4000:=by
     rcases he with he|he
     ·exact absurd he qU
     ·exact he.2
    ((refine Az @zN (aa @hA (aa @hW (aa @hH @hM))) ?_;repeat' constructor)<;>intros<;>refine aP ?_)
    all_goals try contradiction
    refine aR.lr (α:={k:Nat//k<=(oG w w.aS.length).length}) [21] (fun k=>[(21,n k.1)]) (fun _=>[some [⟨36,4,[rg.cs],none⟩],some [⟨38,9,[w.cs],none⟩]]) (fun k=>(oG w w.aS.length).length-k.1) ⟨0,aQ _⟩ ?_
    rintro⟨k,hk⟩
    by_cases bP:k<(oG w w.aS.length).length
    ·obtain⟨x,hx⟩:∃x,(oG w w.aS.length)[k]?=some x:=⟨_,ae bP⟩
     obtain⟨j,g,rfl,hj,hb⟩:=N1 (ao hx)
     have cX:((oG w w.aS.length).map fun z=>[n z]).getD k []=[n (j:Int)]:=getD_map hx
     have vi:=(ai.1 hj).1
     have wx:=ao hj
     have ZV:=Ki w hw mw j g hj (ff g wx) (NU hg wx hb)
     generalize oG w w.aS.length=M at*
     ((refine Az (aa @zN @cX) @ZV ?_;repeat' constructor)<;>intros<;>refine aP ?_)
     all_goals try contradiction
     exact⟨⟨k+1,bP⟩,by simp,by simp only;omega⟩
    ·obtain rfl:k=(oG w w.aS.length).length:=by omega
     have KU:=ao hf
     have hx:=hw.sh f KU
     have UY:=hg.sh f KU
     have FI:(w.aS.map dm.cs).getD i []=dm.cs f:=getD_map hf
     have abd:=hg.t1
     have abe:=hg.t2
     obtain⟨bd,hD,hD'⟩:=HJ f.sheet b.bD r UY.dr UY.pn UY.ie UY.ln hx.tr hx.bl (by omega) z1 z2 z3
     cases bd with
     |false=>
      generalize oG w w.aS.length=M at*
      ((refine Az (aa @zN @FI) @hD ?_;repeat' constructor)<;>intros<;>refine aP ?_)
      all_goals try contradiction
      exact Fq
     |true=>
      have Ui:=hD' rfl
      generalize oG w w.aS.length=M at*
      ((refine Az (aa @zN @FI) @hD ?_;repeat' constructor)<;>intros<;>refine aP ?_)
      all_goals try contradiction
      refine aR.lr (α:={x:Nat×aG//x.1<=f.marks.length/\∀m∈f.marks.take x.1,Fz [m.bD] (r.tk.getD m.en.toNat 0)=true}) [24] (fun x=>[(24,n x.1.1)]) (fun x=>some [⟨36,4,[rg.cs],none⟩]::some [⟨38,9,[w.cs],none⟩]::x.1.2) (fun x=>f.marks.length-x.1.1) ⟨(0,[]),aQ _,by simp⟩ ?_
      rintro⟨⟨k,ν⟩,hk,P9⟩
      simp only at hk P9
      simp only
      have yu:=UY.ml
      by_cases bP:k<f.marks.length
      ·obtain⟨m,hm⟩:∃m,f.marks[k]?=some m:=⟨_,ae bP⟩
       have RN:(f.marks.map Mk.cs).getD k []=Mk.cs m:=getD_map hm
       obtain⟨m1,m2⟩:=UY.ms m (ao hm)
       have O_:=Ui.n1
       have q:=Bf (l:=r.tk) (i:=m.en.toNat) (by simp only at m1;omega)
       have hIn:=zY [m.bD] (by simp) (r.tk.getD m.en.toNat 0)
       have l_:Fz [m.bD] (r.tk.getD m.en.toNat 0)=true->∀u∈f.marks.take (k+1),Fz [u.bD] (r.tk.getD u.en.toNat 0)=true:=fun h u hu=>by
        rw[ey hm]at hu
        rcases bm.1 hu with hu|hu
        ·exact P9 u hu
        ·rw[bp.1 hu];exact h
       simp only at m1
       generalize Fz [m.bD] (r.tk.getD m.en.toNat 0)=q' at*
       generalize r.tk.getD m.en.toNat 0=T at*
       cases q' with
       |false=>
        ((refine Az (aa @zN (aa @FI (aa @RN @q))) @hIn ?_;repeat' constructor)<;>intros<;>refine aP ?_)
        all_goals try contradiction
        exact Fq
       |true=>
        ((refine Az (aa @zN (aa @FI (aa @RN @q))) @hIn ?_;repeat' constructor)<;>intros<;>refine aP ?_)
        all_goals try contradiction
        exact⟨⟨(k+1,_),bP,l_ rfl⟩,by simp,rfl,by simp only;omega⟩
      ·obtain rfl:k=f.marks.length:=by omega
       rw[aI]at P9
       have hrn:=hg.rn
       ((refine Ax (aa @zN @FI) ?_;repeat' constructor)<;>intros<;>refine aP ?_)
       refine aR.lr (α:={x:Nat×aG//x.1<=w.reads.length/\∀d∈w.reads.take x.1,d.fB=st->Fz [d.levels] (r.nq.getD d.tick.toNat 0)=true}) [26] (fun x=>[(26,n x.1.1)]) (fun x=>some [⟨36,4,[rg.cs],none⟩]::some [⟨38,9,[w.cs],none⟩]::x.1.2) (fun x=>w.reads.length-x.1.1) ⟨(0,ν),aQ _,by simp⟩ ?_
       rintro⟨⟨k,ν⟩,hk,S7⟩
       simp only at hk S7
       simp only
       by_cases bP:k<w.reads.length
       ·obtain⟨d,hd⟩:∃d,w.reads[k]?=some d:=⟨_,ae bP⟩
        have N2:(w.reads.map Rd.cs).getD k []=Rd.cs d:=getD_map hd
        have Oe:=hg.rd d (ao hd)
        unfold DC at Oe
        rw[decide_eq_true_eq]at Oe
        have hn3:=Ui.n3
        have q:=Bf (l:=r.nq) (i:=d.tick.toNat) (by omega)
        have hIn:=zY [d.levels] (by simp) (r.nq.getD d.tick.toNat 0)
        have l_:(d.fB=st->Fz [d.levels] (r.nq.getD d.tick.toNat 0)=true)->∀u∈w.reads.take (k+1),u.fB=st->Fz [u.levels] (r.nq.getD u.tick.toNat 0)=true:=fun h u hu=>by
         rw[ey hd]at hu
         rcases bm.1 hu with hu|hu
         ·exact S7 u hu
         ·rw[bp.1 hu];exact h
        obtain⟨_,_,Oe,_⟩:=Oe
        generalize Fz [d.levels] (r.nq.getD d.tick.toNat 0)=q' at*
        generalize r.nq.getD d.tick.toNat 0=T at*
        by_cases mQ:d.fB=st
        ·cases q' with
         |false=>
          ((refine Az (aa @zN (aa @N2 (aa @q @mQ))) @hIn ?_;repeat' constructor)<;>intros<;>refine aP ?_)
          all_goals try contradiction
          exact Fq
         |true=>
          ((refine Az (aa @zN (aa @N2 (aa @q @mQ))) @hIn ?_;repeat' constructor)<;>intros<;>refine aP ?_)
          all_goals try contradiction
          exact⟨⟨(k+1,_),bP,l_ fun _=>rfl⟩,by simp,rfl,by simp only;omega⟩
        ·have aaF:decide (d.fB=st)=false:=decide_eq_false mQ
         ((refine Az (aa @zN (aa @N2 (aa @q @aaF))) @hIn ?_;repeat' constructor)<;>intros<;>refine aP ?_)
         all_goals try contradiction
         exact⟨⟨(k+1,_),bP,l_ fun h=>absurd h mQ⟩,by simp,rfl,by simp only;omega⟩
       ·obtain rfl:k=w.reads.length:=by omega
        rw[aI]at S7
        have aaG:=KG hw hg KU (ff f KU) (vZ▸Ui) st (fun m hm=>IQ (P9 m hm)) (fun d hd e=>IQ (S7 d hd e))
        have hSt:=kO w.base.dh hz.st st
        generalize ir w f w.base.dh=H at*
        generalize(gI w.base.dh st).1=s1 at*
        generalize(gI w.base.dh st).2=s2 at*
        clear S7 P9
        ((refine Az @zN @hSt ?_;repeat' constructor)<;>intros<;>refine aP ?_)
        refine aR.lr (α:={k:Nat//k<=H.length}) [30,31] (fun k=>[(30,bl ((H.take k.1).any fun y=>decide (y=st))),(31,n k.1)]) (fun _=>some [⟨36,4,[rg.cs],none⟩]::some [⟨38,9,[w.cs],none⟩]::ν) (fun k=>H.length-k.1) ⟨0,aQ _⟩ ?_
        rintro⟨k,hk⟩
        by_cases bP:k<H.length
        ·obtain⟨y,hy⟩:∃y,H[k]?=some y:=⟨_,ae bP⟩
         have Xp:(H.map fun z=>[n z]).getD k []=[n y]:=getD_map hy
         have l_:((H.take (k+1)).any fun y=>decide (y=st))=(((H.take k).any fun y=>decide (y=st))||decide (y=st)):=by rw[ey hy];simp
         generalize((H.take k).any fun y=>decide (y=st))=q0 at*
         ((refine Ax (aa @zN @Xp) ?_;repeat' constructor)<;>intros<;>refine aP ?_)
         exact⟨⟨k+1,bP⟩,⟨by simp only[l_],by simp⟩,by simp only;omega⟩
        ·obtain rfl:k=H.length:=by omega
         simp only[aI,aaG]
         ((refine Ax @zN ?_;repeat' constructor)<;>intros<;>refine aP ?_)
         exact Fq
 ·cases ok with
  |false=>
   ((refine Az @zN (aa @hA @hW) ?_;repeat' constructor)<;>intros<;>refine aP ?_)
   exact Fq
  |true=>
   have p9:¬(0<=sh/\sh<w.aS.length):=fun h=>p9 ⟨rfl,h⟩
   ((refine Az @zN (aa @hA @hW) ?_;repeat' constructor)<;>intros<;>refine aP ?_)
   exact Fq
theorem Bj(b:l8)(l:List Nt)(wk sh st:Int)(r:Cr)(hb:mq b)(hl:pK l)(z1:r.tk.length<9223372036854775808)(z2:r.shown.length<9223372036854775808)(z3:r.nq.length<9223372036854775808):Pure Tryz.prog 3 [.agg b.cs,Ad l,n wk,n sh,n st,.agg (Ub r)] (bl true):=by
 obtain⟨rg,w,ok,h1,h2,h3⟩:=FA b l wk hb hl
 exact FH HO b l wk sh st r rg w ok h1 h2 h3 z1 z2 z3
end Go.Proofs.YtgopgjnfhkoomaaGreat
namespace Go.Proofs.YtgopgjnfhkoomaaGreat
open Go.Abs
open Nat (reduceAdd reduceSub reduceLT reduceLeDiff reduceMul reduceEqDiff)
set_option maxHeartbeats 4000000
set_option maxRecDepth 100000
open Go.ChangeShapes Go.WideShapes Go.ChangeAt Go.RowKit
theorem own:ownKnob Tryz.prog.godebug=none:=by kernel_rfl
theorem laidOut:laidOutB Tryz.prog=true:=by kernel_rfl
theorem Xq:mapsRowed Tryz.prog=true:=by kernel_rfl
theorem Ul:(Tryz.prog.stops==[])=true:=by kernel_rfl
theorem Um:(Tryz.prog.stopKnobs==[])=true:=by kernel_rfl
theorem Uo:(Rows.topHomesRow.plainKeys==Tryz.prog.plainKeys)=true:=by kernel_rfl
theorem Up:Tryz.prog.stopsHeard=true:=by kernel_rfl
theorem Qz:Tryz.prog.mayEnter=true:=by kernel_rfl
theorem Uq:(Rows.topHomesRow.lifted==Tryz.prog.liftsFinal)=true:=by kernel_rfl
theorem Xs:(Tryz.prog.make==some Rows.topHomesRow.make)=true:=by kernel_rfl
theorem iU{a b:Bool}(h:a=true)(h':b=true):(a&&b)=true:=by rw[h,h'];rfl
theorem e9:Tryz.prog.cellsOf 3=1:=by kernel_rfl
theorem nK:Tryz.prog.cellsOf 52=2:=by kernel_rfl
theorem FJ:Tryz.prog.cellsOf 111=3:=by kernel_rfl
theorem FK:Tryz.prog.cellsOf 207=3:=by kernel_rfl
theorem IT:Tryz.prog.cellsOf 54=10:=by kernel_rfl
theorem QA:Tryz.prog.cellsOf 55=1:=by kernel_rfl
theorem x_:Tryz.prog.cellsOf 28=1:=by kernel_rfl
theorem QB:Tryz.prog.cellsOf 56=1:=by kernel_rfl
theorem QC:Tryz.prog.cellsOf 57=1:=by kernel_rfl
theorem IU:Tryz.prog.cellsOf 59=2:=by kernel_rfl
theorem IV:Tryz.prog.cellsOf 61=4:=by kernel_rfl
theorem IW:Tryz.prog.cellsOf 63=18:=by kernel_rfl
theorem IX:Tryz.prog.cellsOf 68=3:=by kernel_rfl
theorem IY:Tryz.prog.cellsOf 71=5:=by kernel_rfl
theorem Ab:Tryz.prog.cellsOf 162=3:=by kernel_rfl
theorem IZ:Tryz.prog.cellsOf 50=2:=by kernel_rfl
theorem FM:Tryz.prog.cellsOf 164=38:=by kernel_rfl
theorem N3:Tryz.prog.cellsOf 116=1:=by kernel_rfl
theorem FN:Tryz.prog.cellsOf 118=4:=by kernel_rfl
theorem QD:Tryz.prog.cellsOf 22=1:=by kernel_rfl
theorem I0:Tryz.prog.cellsOf 24=2:=by kernel_rfl
theorem QE:Tryz.prog.cellsOf 26=6:=by kernel_rfl
theorem QF:Tryz.prog.cellsOf 30=4:=by kernel_rfl
theorem qm:gJ Tryz.prog 3 Int (fun z=>[n z]) (fun _=>True):=(JD Tryz.underlying3).to id (fun _=>rfl) (fun _ _=>trivial)
theorem FO:gJ Tryz.prog 52 Sp Sp.cs (fun _=>True):=
 (eD Tryz.underlying52 nK (fun _=>rfl) (bn rfl e9 qm (fun _=>rfl) (bn rfl e9 qm (fun _=>rfl) (fH _)))).to (fun a=>⟨a.1,a.2.1⟩) (fun _=>rfl) (fun _ _=>trivial)
theorem Xu:gJ Tryz.prog 111 Mk Mk.cs (fun _=>True):=
 (eD Tryz.underlying111 FJ (fun _=>rfl) (bn rfl e9 qm (fun _=>rfl) (bn rfl nK FO (fun _=>rfl) (fH _)))).to (fun a=>⟨a.1,a.2.1⟩) (fun _=>rfl) (fun _ _=>trivial)
theorem aaH:gJ Tryz.prog 68 Mk Mk.cs (fun _=>True):=
 (eD Tryz.underlying68 IX (fun _=>rfl) (bn rfl e9 qm (fun _=>rfl) (bn rfl nK FO (fun _=>rfl) (fH _)))).to (fun a=>⟨a.1,a.2.1⟩) (fun _=>rfl) (fun _ _=>trivial)
theorem Xv:gJ Tryz.prog 207 Pt Pt.cs (fun _=>True):=
 (eD Tryz.underlying207 FK (fun _=>rfl) (bn rfl e9 qm (fun _=>rfl) (bn rfl e9 qm (fun _=>rfl) (bn rfl e9 qm (fun _=>rfl) (fH _))))).to (fun a=>⟨a.1,a.2.1,a.2.2.1⟩) (fun _=>rfl) (fun _ _=>trivial)
theorem aaI:gJ Tryz.prog 54 AN AN.cs (fun _=>True):=
 (eD Tryz.underlying54 IT (fun _=>rfl) (bn rfl e9 qm (fun _=>rfl) (bn rfl e9 qm (fun _=>rfl) (bn rfl e9 qm (fun _=>rfl) (bn rfl e9 qm (fun _=>rfl) (bn rfl e9 qm (fun _=>rfl) (bn rfl e9 qm (fun _=>rfl) (bn rfl nK FO (fun _=>rfl) (bn rfl nK FO (fun _=>rfl) (fH _)))))))))).to (fun a=>⟨a.1,a.2.1,a.2.2.1,a.2.2.2.1,a.2.2.2.2.1,a.2.2.2.2.2.1,a.2.2.2.2.2.2.1,a.2.2.2.2.2.2.2.1⟩) (fun _=>rfl) (fun _ _=>trivial)
theorem aaJ:gJ Tryz.prog 55 (List Pt) (fun l=>[AO l]) (fun l=>l.length<9223372036854775808):=
 (kP Tryz.underlying55 FK (by decide) Xv (fun _=>rfl)).to id (fun _=>rfl) (fun _ h=>h.1)
theorem QG:gJ Tryz.prog 28 (List Int) (fun l=>[l9 l]) (fun l=>l.length<9223372036854775808):=
 (kP Tryz.underlying28 e9 (by decide) qm (fun _=>rfl)).to id (fun _=>rfl) (fun _ h=>h.1)
theorem aaK:gJ Tryz.prog 56 (List Sp) (fun l=>[ec l]) (fun l=>l.length<9223372036854775808):=
 (kP Tryz.underlying56 nK (by decide) FO (fun _=>rfl)).to id (fun _=>rfl) (fun _ h=>h.1)
theorem aaL:gJ Tryz.prog 57 (List Mk) (fun l=>[mb l]) (fun l=>l.length<9223372036854775808):=
 (kP Tryz.underlying57 FJ (by decide) Xu (fun _=>rfl)).to id (fun _=>rfl) (fun _ h=>h.1)
theorem aaM:gJ Tryz.prog 59 (List Sp×List Mk) (fun d=>[ec d.1,mb d.2]) (fun d=>d.1.length<9223372036854775808/\d.2.length<9223372036854775808):=
 (eD Tryz.underlying59 IU (fun _=>rfl) (bn rfl QB aaK (fun _=>rfl) (bn rfl QC aaL (fun _=>rfl) (fH _)))).to (fun a=>⟨a.1,a.2.1⟩) (fun _=>rfl) (fun _ h=>⟨h.1,h.2.1⟩)
theorem aaN:gJ Tryz.prog 61 Pn Pn.cs (fun _=>True):=
 (eD Tryz.underlying61 IV (fun _=>rfl) (bn rfl e9 qm (fun _=>rfl) (bn rfl nK FO (fun _=>rfl) (bn rfl e9 qm (fun _=>rfl) (fH _))))).to (fun a=>⟨a.1,a.2.1,a.2.2.1⟩) (fun _=>rfl) (fun _ _=>trivial)
theorem aaO:gJ Tryz.prog 63 fT fT.cs rq:=
 (eD Tryz.underlying63 IW (fun _=>rfl) (bn rfl IT aaI (fun _=>rfl) (bn rfl QA aaJ (fun _=>rfl) (bn rfl x_ QG (fun _=>rfl) (bn rfl IU aaM (fun _=>rfl) (bn rfl IV aaN (fun _=>rfl) (fH _))))))).to (fun a=>⟨a.1,a.2.1,a.2.2.1,a.2.2.2.1.1,a.2.2.2.1.2,a.2.2.2.2.1⟩) (fun _=>rfl) (fun _ h=>⟨h.2.1,h.2.2.1,h.2.2.2.1.1,h.2.2.2.1.2⟩)
theorem aaP:gJ Tryz.prog 71 Rd Rd.cs (fun _=>True):=
 (eD Tryz.underlying71 IY (fun _=>rfl) (bn rfl e9 qm (fun _=>rfl) (bn rfl e9 qm (fun _=>rfl) (bn rfl e9 qm (fun _=>rfl) (bn rfl nK FO (fun _=>rfl) (fH _)))))).to (fun a=>⟨a.1,a.2.1,a.2.2.1,a.2.2.2.1⟩) (fun _=>rfl) (fun _ _=>trivial)
theorem RO:gJ Tryz.prog 162 l4 l4.cs (fun _=>True):=
 (eD Tryz.underlying162 Ab (fun _=>rfl) (bn rfl e9 qm (fun _=>rfl) (bn rfl nK FO (fun _=>rfl) (fH _)))).to (fun a=>⟨a.1,a.2.1⟩) (fun _=>rfl) (fun _ _=>trivial)
theorem aaQ:gJ Tryz.prog 50 Nm Nm.cs (fun _=>True):=
 (eD Tryz.underlying50 IZ (fun _=>rfl) (bn rfl e9 qm (fun _=>rfl) (bn rfl e9 qm (fun _=>rfl) (fH _)))).to (fun a=>⟨a.1,a.2.1⟩) (fun _=>rfl) (fun _ _=>trivial)
theorem Xw:gJ Tryz.prog 164 Nt Nt.cs GC:=
 (eD Tryz.underlying164 FM (fun _=>rfl) (bn rfl e9 qm (fun _=>rfl) (bn rfl e9 qm (fun _=>rfl) (bn rfl e9 qm (fun _=>rfl) (bn rfl e9 qm (fun _=>rfl) (bn rfl e9 qm (fun _=>rfl) (bn rfl e9 qm (fun _=>rfl) (bn rfl e9 qm (fun _=>rfl) (bn rfl IW aaO (fun _=>rfl) (bn rfl IX aaH (fun _=>rfl) (bn rfl IY aaP (fun _=>rfl) (bn rfl Ab RO (fun _=>rfl) (bn rfl IZ aaQ (fun _=>rfl) (fH _)))))))))))))).to (fun a=>⟨a.1,a.2.1,a.2.2.1,a.2.2.2.1,a.2.2.2.2.1,a.2.2.2.2.2.1,a.2.2.2.2.2.2.1,a.2.2.2.2.2.2.2.1,a.2.2.2.2.2.2.2.2.1,a.2.2.2.2.2.2.2.2.2.1,a.2.2.2.2.2.2.2.2.2.2.1,a.2.2.2.2.2.2.2.2.2.2.2.1⟩) (fun _=>rfl) (fun _ h=>h.2.2.2.2.2.2.2.1)
theorem aaR:gJ Tryz.prog 27 (List Nt) (fun l=>[Ad l]) pK:=
 (kP Tryz.underlying27 FM (by decide) Xw (fun _=>rfl)).to id (fun _=>rfl) (fun _ h=>h)
theorem Xx:gJ Tryz.prog 116 (List l4) (fun l=>[Rl l]) (fun l=>l.length<9223372036854775808):=
 (kP Tryz.underlying116 Ab (by decide) RO (fun _=>rfl)).to id (fun _=>rfl) (fun _ h=>h.1)
theorem Xy:gJ Tryz.prog 118 j3 j3.cs (fun s=>s.cz.length<9223372036854775808):=
 (eD Tryz.underlying118 FN (fun _=>rfl) (bn rfl e9 qm (fun _=>rfl) (bn rfl e9 qm (fun _=>rfl) (bn rfl e9 qm (fun _=>rfl) (bn rfl N3 Xx (fun _=>rfl) (fH _)))))).to (fun a=>⟨a.1,a.2.1,a.2.2.1,a.2.2.2.1⟩) (fun _=>rfl) (fun _ h=>h.2.2.2.1)
theorem aaS:gJ Tryz.prog 22 (List j3) (fun l=>[KY l]) ql:=
 (kP Tryz.underlying22 FN (by decide) Xy (fun _=>rfl)).to id (fun _=>rfl) (fun _ h=>h)
theorem aaT:gJ Tryz.prog 24 (Int×Int) (fun d=>[n d.1,n d.2]) (fun _=>True):=
 (eD Tryz.underlying24 I0 (fun _=>rfl) (bn rfl e9 qm (fun _=>rfl) (bn rfl e9 qm (fun _=>rfl) (fH _)))).to (fun a=>⟨a.1,a.2.1⟩) (fun _=>rfl) (fun _ _=>trivial)
theorem aaU:gJ Tryz.prog 26 l8 l8.cs mq:=
 (eD Tryz.underlying26 QE (fun _=>rfl) (bn rfl QD aaS (fun _=>rfl) (bn rfl I0 aaT (fun _=>rfl) (bn rfl e9 qm (fun _=>rfl) (bn rfl e9 qm (fun _=>rfl) (bn rfl e9 qm (fun _=>rfl) (fH _))))))).to (fun a=>⟨a.1,a.2.1.1,a.2.1.2,a.2.2.1,a.2.2.2.1,a.2.2.2.2.1⟩) (fun _=>rfl) (fun _ h=>h.1)
abbrev Xz(r:Cr):Prop:=r.tk.length<9223372036854775808/\r.shown.length<9223372036854775808/\r.nq.length<9223372036854775808
theorem aaV:gJ Tryz.prog 30 Cr Ub Xz:=
 (eD Tryz.underlying30 QF (fun _=>rfl) (bn rfl e9 qm (fun _=>rfl) (bn rfl x_ QG (fun _=>rfl) (bn rfl x_ QG (fun _=>rfl) (bn rfl x_ QG (fun _=>rfl) (fH _)))))).to (fun a=>⟨a.1,a.2.1,a.2.2.1,a.2.2.2.1⟩) (fun _=>rfl) (fun _ h=>⟨h.2.1,h.2.2.1,h.2.2.2.1⟩)
section
variable {H:Type} {enc:TypeId×Value->H} {w:World} {r:Reach} {base b0:Nat} {sp:Nat->Bool} {held:Bool} {v:Value} {d:DataW H} {ps:List MemPlace}
theorem N4(h:Value.okWide Tryz.prog w r base 26 v)(hx:DataW.Trod enc Tryz.prog w b0 sp held 26 v d ps):∃x:l8,mq x/\RV w (fun _=>False) sJ [] (.agg x.cs) v:=by
 obtain⟨cs,rfl,_⟩:=okWide_struct Tryz.underlying26 h
 exact aaU.agg hx
theorem QH(h:Value.okWide Tryz.prog w r base 30 v)(hx:DataW.Trod enc Tryz.prog w b0 sp held 30 v d ps):∃x:Cr,Xz x/\RV w (fun _=>False) sJ [] (.agg (Ub x)) v:=by
 obtain⟨cs,rfl,_⟩:=okWide_struct Tryz.underlying30 h
 exact aaV.agg hx
theorem N5(h:Value.okWide Tryz.prog w r base 27 v)(hx:DataW.Trod enc Tryz.prog w b0 sp held 27 v d ps):∃l:List Nt,pK l/\RV w (fun _=>False) sJ [] (Ad l) v:=by
 obtain⟨a,len,cap,rfl⟩:=okWide_slice Tryz.underlying27 h
 exact aaR.one rfl hx
end
end Go.Proofs.YtgopgjnfhkoomaaGreat
