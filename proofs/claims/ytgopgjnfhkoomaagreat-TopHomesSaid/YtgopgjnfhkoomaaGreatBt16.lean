/- Part 16 of the texts: abstract values over the walk; contracts. -/
import Derived.Test.YtgopgjnfhkoomaaGreatBt11
import Derived.Test.YtgopgjnfhkoomaaGreatBt14
import Derived.Test.YtgopgjnfhkoomaaGreatRows
set_option linter.unusedVariables false
set_option linter.unusedSimpArgs false
namespace Go.Proofs.YtgopgjnfhkoomaaGreat
open Go.Abs
open Nat (reduceAdd reduceSub reduceLT reduceLeDiff reduceMul reduceEqDiff)
set_option maxHeartbeats 4000000
set_option maxRecDepth 100000
def c21:CF:=⟨20,(jo [jb 2 false] [0] (.seq (jo [jc 3 0] [0,3] (.block 0 (.loop (.seq (jo [jm 4 3,jm 5 0,je 6 5,jt .lss 7 4 6] [0,3,7] (.cond (.t 7) .skip (.exit 0))) (.seq (.block 1 (jo [jm 10 0,jm 11 3,ji 12 38 10 11,jf 13 7 12,jk 14 18 13,jy 15 62 [14],jv 16 15] [0,3,16] (.cond (.t 16) (jo [jb 2 false] [2] .ret) .skip))) (.ops [jm 8 3,ju .add 9 8 1,jm 3 9] [0,3])))))) (jo [jm 17 0,je 18 17,ju .leq 19 18 40,jm 2 19] [2] .ret))),[.t 2]⟩
theorem k21:jP Tryz.prog Tryz.f21 c21=true:=by kernel_rfl
def c22:CF:=⟨28,(jo [jx 1 26 6 0,jb 2 false] [1] (.seq (jo [jf 4 0 1,jl 5 4,je 6 5,ju .gtr 7 6 4,jm 8 7,jd 8 (jf 9 4 1),jd 8 (jl 10 9),jd 8 (ju .gtr 11 10 8),jq 12 8 11] [1,12] (.cond (.t 12) (jo [jb 2 false] [2] .ret) .skip)) (.seq (jo [jc 3 0] [1,3] (.block 0 (.loop (.seq (jo [jm 13 3,jf 14 0 1,jl 15 14,je 16 15,jt .lss 17 13 16] [1,3,17] (.cond (.t 17) .skip (.exit 0))) (.seq (.block 1 (jo [jf 20 0 1,jl 21 20,jm 22 3,ji 23 4 21 22,jf 24 3 23,jl 25 24,je 26 25,ju .gtr 27 26 6] [1,3,27] (.cond (.t 27) (jo [jb 2 false] [2] .ret) .skip))) (.ops [jm 18 3,ju .add 19 18 1,jm 3 19] [1,3])))))) (jo [jb 2 true] [2] .ret)))),[.t 2]⟩
theorem k22:jP Tryz.prog Tryz.f22 c22=true:=by kernel_rfl
def qC(s:fT):Bool:=!decide (12<s.trace.length\/8<s.eu.length\/5<s.rates.length\/4<s.stops.length\/2<s.eC.cS\/2<IntKind.i64.wrap (s.eC.zero.hi-s.eC.zero.lo))&&(s.trace.all fun p=>decide (p.half<=2000))&&decide (s.bz.ej<=20000/\s.bz.mU<=5000)
theorem Qq{s:fT}(h:qC s=true):s.trace.length<=12/\s.eu.length<=8/\s.rates.length<=5/\s.stops.length<=4:=by
 unfold qC at h
 simp only[ak,db,decide_eq_false_iff_not]at h
 omega
theorem s8(s:fT)(h1:s.trace.length<9223372036854775808)(h2:s.eu.length<9223372036854775808)(h3:s.rates.length<9223372036854775808)(h4:s.stops.length<9223372036854775808):Pure Tryz.prog 62 [.agg s.cs] (bl (qC s)):=by
 refine et 70 (jo [jx 1 63 18 0,jb 2 false] [1] (.seq (jo [jf 4 10 1,jl 5 4,je 6 5,ju .gtr 7 6 12,jm 8 7,jd 8 (jf 9 11 1),jd 8 (jl 10 9),jd 8 (je 11 10),jd 8 (ju .gtr 12 11 8),jq 13 8 12,jm 14 13,jd 14 (jf 15 12 1),jd 14 (jf 16 0 15),jd 14 (jl 17 16),jd 14 (je 18 17),jd 14 (ju .gtr 19 18 5),jq 20 14 19,jm 21 20,jd 21 (jf 22 12 1),jd 21 (jf 23 1 22),jd 21 (jl 24 23),jd 21 (je 25 24),jd 21 (ju .gtr 26 25 4),jq 27 21 26,jm 28 27,jd 28 (jf 29 14 1),jd 28 (jf 30 0 29),jd 28 (jl 31 30),jd 28 (ju .gtr 32 31 2),jq 33 28 32,jm 34 33,jd 34 (jf 35 14 1),jd 34 (jf 36 1 35),jd 34 (jf 37 1 36),jd 34 (jl 38 37),jd 34 (jf 39 14 1),jd 34 (jf 40 1 39),jd 34 (jf 41 0 40),jd 34 (jl 42 41),jd 34 (jt .sub 43 38 42),jd 34 (ju .gtr 44 43 2),jq 45 34 44] [1,45] (.cond (.t 45) (jo [jb 2 false] [2] .ret) .skip)) (.seq (jo [jc 3 0] [1,3] (.block 0 (.loop (.seq (jo [jm 46 3,jf 47 10 1,jl 48 47,je 49 48,jt .lss 50 46 49] [1,3,50] (.cond (.t 50) .skip (.exit 0))) (.seq (.block 1 (jo [jf 53 10 1,jl 54 53,jm 55 3,ji 56 3 54 55,jf 57 2 56,jl 58 57,ju .gtr 59 58 2000] [1,3,59] (.cond (.t 59) (jo [jb 2 false] [2] .ret) .skip))) (.ops [jm 51 3,ju .add 52 51 1,jm 3 52] [1,3])))))) (jo [jf 60 0 1,jf 61 1 60,jl 62 61,ju .leq 63 62 20000,jm 64 63,ja 64 (jf 65 0 1),ja 64 (jf 66 0 65),ja 64 (jl 67 66),ja 64 (ju .leq 68 67 5000),jp 69 64 68,jm 2 69] [2] .ret)))) [.t 2] Tryz.call62 Tryz.func62 ?_
 generalize hb:qC s=b
 unfold qC at hb
 generalize hZ:IntKind.i64.wrap (s.eC.zero.hi-s.eC.zero.lo)=z at hb
 obtain⟨P,hP⟩:∃P:Prop,P=(12<s.trace.length\/8<s.eu.length\/5<s.rates.length\/4<s.stops.length\/2<s.eC.cS\/2<z):=⟨_,rfl⟩
 have hz:z=IntKind.i64.wrap (s.eC.zero.hi-s.eC.zero.lo):=hZ.symm
 have hb1:P->b=false:=fun h=>by rw[<-hb,decide_eq_true (hP▸h)];rfl
 have hb2:¬P->b=((s.trace.all fun p=>decide (p.half<=2000))&&decide (s.bz.ej<=20000/\s.bz.mU<=5000)):=fun h=>by rw[<-hb,decide_eq_false (hP▸h)];rfl
 clear hb hZ
 ((refine Ax @zN ?_;repeat' constructor)<;>intros<;>refine aP ?_)
 ·rw[hb1 (by rw[hP];omega)]
  exact Fq
 rw[hb2 (by rw[hP];omega)]
 clear hb1 hb2 hP
 refine aR.ls (α:={k:Nat//k<=s.trace.length/\∀t∈s.trace.take k,t.half<=2000}) [3] (fun k=>[(3,n k.1)]) (fun k=>s.trace.length-k.1) ⟨0,aQ _,by simp⟩ ?_
 rintro⟨k,hk,ff⟩
 by_cases bP:k<s.trace.length
 ·obtain⟨t,ht⟩:∃t,s.trace[k]?=some t:=⟨_,ae bP⟩
  have cX:(s.trace.map Pt.cs).getD k []=Pt.cs t:=getD_map ht
  ((refine Ax (aa @zN @cX) ?_;repeat' constructor)<;>intros<;>refine aP ?_)
  ·have:(s.trace.all fun p=>decide (p.half<=2000))=false:=by
    rw[gQ]
    exact⟨t,ao ht,by simp;omega⟩
   rw[this]
   exact Fq
  ·refine⟨⟨k+1,bP,fun u hu=>?_⟩,by simp,by simp only;omega⟩
   rw[ey ht]at hu
   rcases bm.1 hu with hu|hu
   ·exact ff u hu
   ·rw[bp.1 hu];omega
 ·obtain rfl:k=s.trace.length:=by omega
  have:(s.trace.all fun p=>decide (p.half<=2000))=true:=by
   rw[bt]
   intro t ht
   rw[aI]at ff
   simpa using ff t ht
  rw[this]
  ((refine Ax @zN ?_;repeat' constructor)<;>intros<;>refine aP ?_)
  refine bO.eq (congrArg bl ?_) (by simp)
  simp
def Qr(l:List Nt):Bool:=(l.all fun a=>qC a.sheet)&&decide (l.length<=40)
theorem NP(l:List Nt)(hl:pK l):Pure Tryz.prog 21 [Ad l] (bl (Qr l)):=by
 refine mu Tryz.call21 Tryz.func21 k21 ?_
 unfold c21 Qr
 have JK:=hl.1
 ((refine Au ?_;repeat' constructor)<;>intros<;>refine aP ?_)
 refine aR.ls (α:={k:Nat//k<=l.length/\∀a∈l.take k,qC a.sheet=true}) [3] (fun k=>[(3,n k.1)]) (fun k=>l.length-k.1) ⟨0,aQ _,by simp⟩ ?_
 rintro⟨k,hk,ff⟩
 by_cases bP:k<l.length
 ·obtain⟨a,ha⟩:∃a,l[k]?=some a:=⟨_,ae bP⟩
  have cX:(l.map Nt.cs).getD k []=Nt.cs a:=getD_map ha
  have eX:=hl.2 a (ao ha)
  have hF:=s8 a.sheet eX.1 eX.2.1 eX.2.2.1 eX.2.2.2
  have yj:=ao ha
  have h1:qC a.sheet=false->(l.all fun a=>qC a.sheet)=false:=fun h=>by rw[gQ];exact⟨a,yj,by simp[h]⟩
  generalize T8:qC a.sheet=b at*
  cases b with
  |false=>
   rw[h1 rfl]
   ((refine Az (aa @zN @cX) @hF ?_;repeat' constructor)<;>intros<;>refine aP ?_)
   exact Fq
  |true=>
   clear h1
   ((refine Az (aa @zN @cX) @hF ?_;repeat' constructor)<;>intros<;>refine aP ?_)
   refine⟨⟨k+1,bP,fun u hu=>?_⟩,by simp,by simp only;omega⟩
   rw[ey ha]at hu
   rcases bm.1 hu with hu|hu
   ·exact ff u hu
   ·rw[bp.1 hu];exact T8
 ·obtain rfl:k=l.length:=by omega
  have:(l.all fun a=>qC a.sheet)=true:=by
   rw[bt]
   intro t ht
   rw[aI]at ff
   exact ff t ht
  rw[this]
  ((refine Ax @zN ?_;repeat' constructor)<;>intros<;>refine aP ?_)
  refine bO.eq (congrArg bl ?_) (by simp)
  simp;omega
def Fy(b:l8):Bool:=decide (b.dh.length<=4/\b.bD<=8)&&b.dh.all fun s=>decide (s.cz.length<=6)
theorem va(b:l8)(hb:ql b.dh):Pure Tryz.prog 22 [.agg b.cs] (bl (Fy b)):=by
 refine mu Tryz.call22 Tryz.func22 k22 ?_
 unfold c22 Fy
 have hl:=hb.1
 by_cases h:b.dh.length<=4/\b.bD<=8
 ·rw[decide_eq_true h]
  ((refine Ax @zN ?_;repeat' constructor)<;>intros<;>refine aP ?_)
  refine aR.ls (α:={k:Nat//k<=b.dh.length/\∀s∈b.dh.take k,s.cz.length<=6}) [3] (fun k=>[(3,n k.1)]) (fun k=>b.dh.length-k.1) ⟨0,aQ _,by simp⟩ ?_
  rintro⟨k,hk,ff⟩
  by_cases bP:k<b.dh.length
  ·obtain⟨s,hs⟩:∃s,b.dh[k]?=some s:=⟨_,ae bP⟩
   have cX:(b.dh.map j3.cs).getD k []=j3.cs s:=getD_map hs
   ((refine Ax (aa @zN @cX) ?_;repeat' constructor)<;>intros<;>refine aP ?_)
   ·have:(b.dh.all fun s=>decide (s.cz.length<=6))=false:=by
     rw[gQ]
     exact⟨s,ao hs,by simp;omega⟩
    rw[this]
    exact Fq
   ·refine⟨⟨k+1,bP,fun u hu=>?_⟩,by simp,by simp only;omega⟩
    rw[ey hs]at hu
    rcases bm.1 hu with hu|hu
    ·exact ff u hu
    ·rw[bp.1 hu];omega
  ·obtain rfl:k=b.dh.length:=by omega
   have:(b.dh.all fun s=>decide (s.cz.length<=6))=true:=by
    rw[bt]
    intro t ht
    rw[aI]at ff
    simpa using ff t ht
   rw[this]
   ((refine Ax @zN ?_;repeat' constructor)<;>intros<;>refine aP ?_)
   exact Fq
 ·rw[decide_eq_false h]
  ((refine Ax @zN ?_;repeat' constructor)<;>intros<;>refine aP ?_)
  exact Fq
def c24:CF:=⟨90,(jo [jx 2 26 6 0,jx 3 36 4 1,jb 4 false] [2,3] (.seq (jo [jk 8 6 2,jy 9 22 [8],jv 10 9,jm 11 10,jd 11 (jf 12 0 3),jd 11 (jl 13 12),jd 11 (je 14 13),jd 11 (ju .gtr 15 14 4),jq 16 11 15,jm 17 16,jd 17 (jf 18 1 3),jd 17 (jl 19 18),jd 17 (je 20 19),jd 17 (ju .gtr 21 20 6),jq 22 17 21,jm 23 22,jd 23 (jf 24 2 3),jd 23 (jl 25 24),jd 23 (je 26 25),jd 23 (ju .gtr 27 26 4),jq 28 23 27,jm 29 28,jd 29 (jf 30 3 3),jd 29 (jl 31 30),jd 29 (je 32 31),jd 29 (ju .gtr 33 32 60),jq 34 29 33] [3,34] (.cond (.t 34) (jo [jb 4 false] [4] .ret) .skip)) (jo [jc 5 0] [3,5] (.seq (jo [jc 6 0] [3,5,6] (.block 0 (.loop (.seq (jo [jm 35 6,jf 36 0 3,jl 37 36,je 38 37,jt .lss 39 35 38] [3,5,6,39] (.cond (.t 39) .skip (.exit 0))) (.seq (.block 1 (.seq (jo [jf 42 0 3,jl 43 42,jm 44 6,ji 45 24 43 44,jf 46 4 45,jk 47 18 46,jy 48 62 [47],jv 49 48,jm 50 49,jd 50 (jf 51 0 3),jd 50 (jl 52 51),jd 50 (jm 53 6),jd 50 (ji 54 24 52 53),jd 50 (jf 55 23 54),jd 50 (jl 56 55),jd 50 (je 57 56),jd 50 (ju .gtr 58 57 20),jq 59 50 58] [3,5,6,59] (.cond (.t 59) (jo [jb 4 false] [4] .ret) .skip)) (.ops [jm 60 5,jf 61 0 3,jl 62 61,jm 63 6,ji 64 24 62 63,jf 65 22 64,jl 66 65,je 67 66,jt .add 68 60 67,jm 5 68] [3,5,6]))) (.ops [jm 40 6,ju .add 41 40 1,jm 6 41] [3,5,6])))))) (.seq (jo [jc 7 0] [3,5,7] (.block 2 (.loop (.seq (jo [jm 69 7,jf 70 2 3,jl 71 70,je 72 71,jt .lss 73 69 72] [3,5,7,73] (.cond (.t 73) .skip (.exit 2))) (.seq (.block 3 (jo [jf 76 2 3,jl 77 76,jm 78 7,ji 79 4 77 78,jf 80 3 79,jl 81 80,je 82 81,ju .gtr 83 82 20] [3,5,7,83] (.cond (.t 83) (jo [jb 4 false] [4] .ret) .skip))) (.ops [jm 74 7,ju .add 75 74 1,jm 7 75] [3,5,7])))))) (jo [jm 84 5,jf 85 1 3,jl 86 85,je 87 86,jt .add 88 84 87,ju .leq 89 88 6,jm 4 89] [4] .ret)))))),[.t 4]⟩
theorem k24:jP Tryz.prog Tryz.f24 c24=true:=by kernel_rfl
def TH:CF:=⟨28,(jo [jb 4 false] [0,1] (.seq (jo [jc 5 0] [0,1,5] (.block 0 (.loop (.seq (jo [jm 6 5,jm 7 0,je 8 7,jt .lss 9 6 8] [0,1,5,9] (.cond (.t 9) .skip (.exit 0))) (.seq (.block 1 (jo [jm 12 0,jm 13 5,ji 14 2 12 13,jf 15 0 14,jl 16 15,jm 17 1,jt .leq 18 16 17,jm 19 18,ja 19 (jm 20 1),ja 19 (jm 21 0),ja 19 (jm 22 5),ja 19 (ji 23 2 21 22),ja 19 (jf 24 1 23),ja 19 (jl 25 24),ja 19 (jt .leq 26 20 25),jp 27 19 26] [0,1,5,27] (.cond (.t 27) (jo [jb 4 true] [4] .ret) .skip))) (.ops [jm 10 5,ju .add 11 10 1,jm 5 11] [0,1,5])))))) (jo [jb 4 false] [4] .ret))),[.t 4]⟩
theorem k11:jP Tryz.prog Tryz.f11 TH=true:=by kernel_rfl
def Qs(b:l8)(r:FU):Bool:=
 Fy b&&decide (r.aS.length<=4/\r.reads.length<=6/\r.dh.length<=4/\r.ig.length<=60)&&(r.aS.all fun f=>qC f.sheet&&decide (f.names.length<=20))&&(r.dh.all fun s=>decide (s.cz.length<=20))&&decide ((r.aS.map fun f=>f.marks.length).sum+r.reads.length<=6)
theorem NQ{l:List dm}{k:Nat}{f:dm}(h:l[k]?=some f):((l.take (k+1)).map fun f=>f.marks.length).sum=((l.take k).map fun f=>f.marks.length).sum+f.marks.length:=by
 rw[ey h];simp
theorem NR{l:List dm}:(∀f∈l,f.marks.length<1000000000000)->(l.map fun f=>f.marks.length).sum<=1000000000000*l.length:=by
 induction l with
 |nil=>simp
 |cons a r ih=>
  intro h
  have:=ih fun f hf=>h f (by simp[hf])
  have:=h a (by simp)
  simp only[bq,List.sum_cons,bf]
  omega
theorem NS(b:l8)(hb:ql b.dh)(r:FU)(h1:r.aS.length<9223372036854775808)(h2:r.reads.length<9223372036854775808)(h3:ql r.dh)(h4:r.ig.length<9223372036854775808)(h5:∀f∈r.aS,rq f.sheet/\f.marks.length<1000000000000/\f.names.length<9223372036854775808):Pure Tryz.prog 24 [.agg b.cs,.agg r.cs] (bl (Qs b r)):=by
 refine mu Tryz.call24 Tryz.func24 k24 ?_
 unfold c24 Qs
 have hB:=va b hb
 have UB:=h3.1
 by_cases hc:Fy b=true/\r.aS.length<=4/\r.reads.length<=6/\r.dh.length<=4/\r.ig.length<=60
 ·obtain⟨c1,c2⟩:=hc
  rw[c1]at hB|-
  rw[decide_eq_true c2]
  ((refine Az @zN @hB ?_;repeat' constructor)<;>intros<;>refine aP ?_)
  refine aR.ls (α:={k:Nat//k<=r.aS.length/\∀f∈r.aS.take k,(qC f.sheet&&decide (f.names.length<=20))=true}) [5,6] (fun k=>[(5,n ((((r.aS.take k.1).map fun f=>f.marks.length).sum:Nat):Int)),(6,n k.1)]) (fun k=>r.aS.length-k.1) ⟨0,aQ _,by simp⟩ ?_
  rintro⟨k,hk,ff⟩
  by_cases bP:k<r.aS.length
  ·obtain⟨f,hf⟩:∃f,r.aS[k]?=some f:=⟨_,ae bP⟩
   have cX:(r.aS.map dm.cs).getD k []=dm.cs f:=getD_map hf
   have yj:=ao hf
   obtain⟨z1,z2,z3⟩:=h5 f yj
   have hF:=s8 f.sheet z1.1 z1.2.1 z1.2.2.1 z1.2.2.2
   have aay:=NQ hf
   have Uv:=NR (l:=r.aS.take k) fun f hf=>(h5 f (dx hf)).2.1
   rw[bH]at Uv
   have AQ:¬(qC f.sheet=true/\f.names.length<=20)->(r.aS.all fun f=>qC f.sheet&&decide (f.names.length<=20))=false:=fun h=>by rw[gQ];exact⟨f,yj,by simpa using h⟩
   generalize K7:((r.aS.take (k+1)).map fun f=>f.marks.length).sum=S1 at*
   generalize hS0:((r.aS.take k).map fun f=>f.marks.length).sum=S0 at*
   by_cases hg:qC f.sheet=true/\f.names.length<=20
   ·obtain⟨g1,g2⟩:=hg
    clear AQ
    rw[g1]at hF
    ((refine Az (aa @zN @cX) @hF ?_;repeat' constructor)<;>intros<;>refine aP ?_)
    refine⟨⟨k+1,bP,fun u hu=>?_⟩,⟨by simp only[K7,aay];simp,by simp⟩,by simp only;omega⟩
    rw[ey hf]at hu
    rcases bm.1 hu with hu|hu
    ·exact ff u hu
    ·rw[bp.1 hu,g1];simpa using g2
   ·rw[AQ hg]
    clear AQ
    generalize T8:qC f.sheet=q at*
    cases q with
    |false=>
     ((refine Az (aa @zN @cX) @hF ?_;repeat' constructor)<;>intros<;>refine aP ?_)
     exact Fq
    |true=>
     have xR:¬f.names.length<=20:=fun h=>hg ⟨rfl,h⟩
     clear hg
     ((refine Az (aa @zN @cX) @hF ?_;repeat' constructor)<;>intros<;>refine aP ?_)
     exact Fq
  ·obtain rfl:k=r.aS.length:=by omega
   have hS:=NR (l:=r.aS) fun f hf=>(h5 f hf).2.1
   have Cd:(r.aS.all fun f=>qC f.sheet&&decide (f.names.length<=20))=true:=by
    rw[bt]
    rw[aI]at ff
    exact ff
   rw[Cd]
   simp only[aI]
   generalize(r.aS.map fun f=>f.marks.length).sum=S at*
   clear Cd
   ((refine Ax @zN ?_;repeat' constructor)<;>intros<;>refine aP ?_)
   refine aR.ls (α:={k:Nat//k<=r.dh.length/\∀s∈r.dh.take k,s.cz.length<=20}) [7] (fun k=>[(7,n k.1)]) (fun k=>r.dh.length-k.1) ⟨0,aQ _,by simp⟩ ?_
   rintro⟨k,hk,ff⟩
   by_cases bP:k<r.dh.length
   ·obtain⟨s,hs⟩:∃s,r.dh[k]?=some s:=⟨_,ae bP⟩
    have cX:(r.dh.map j3.cs).getD k []=j3.cs s:=getD_map hs
    ((refine Ax (aa @zN @cX) ?_;repeat' constructor)<;>intros<;>refine aP ?_)
    ·have:(r.dh.all fun s=>decide (s.cz.length<=20))=false:=by
      rw[gQ]
      exact⟨s,ao hs,by simp;omega⟩
     rw[this]
     exact bO.eq (by simp) (by simp)
    ·refine⟨⟨k+1,bP,fun u hu=>?_⟩,by simp,by simp only;omega⟩
     rw[ey hs]at hu
     rcases bm.1 hu with hu|hu
     ·exact ff u hu
     ·rw[bp.1 hu];omega
   ·obtain rfl:k=r.dh.length:=by omega
    have:(r.dh.all fun s=>decide (s.cz.length<=20))=true:=by
     rw[bt]
     intro t ht
     rw[aI]at ff
     simpa using ff t ht
    rw[this]
    ((refine Ax @zN ?_;repeat' constructor)<;>intros<;>refine aP ?_)
    refine bO.eq (congrArg bl ?_) (by simp)
    simp;omega
 ·have:(Fy b&&decide (r.aS.length<=4/\r.reads.length<=6/\r.dh.length<=4/\r.ig.length<=60))=false:=by
   rw[Bool.eq_false_iff]
   simp only[ne_eq,ak,decide_eq_true_eq]
   exact hc
  rw[this]
  simp only[gq]
  clear this
  cases hq:Fy b with
  |false=>
   rw[hq]at hB
   ((refine Az @zN @hB ?_;repeat' constructor)<;>intros<;>refine aP ?_)
   exact Fq
  |true=>
   rw[hq]at hB
   have hc:¬(r.aS.length<=4/\r.reads.length<=6/\r.dh.length<=4/\r.ig.length<=60):=fun h=>hc ⟨hq,h⟩
   ((refine Az @zN @hB ?_;repeat' constructor)<;>intros<;>refine aP ?_)
   exact Fq
def Fz(l:List Sp)(v:Int):Bool:=l.any fun s=>decide (s.lo<=v/\v<=s.hi)
theorem zY(l:List Sp)(hl:l.length<9223372036854775808)(v:Int):Pure Tryz.prog 11 [ec l,n v] (bl (Fz l v)):=by
 refine mu Tryz.call11 Tryz.func11 k11 ?_
 unfold TH Fz
 ((refine Au ?_;repeat' constructor)<;>intros<;>refine aP ?_)
 refine aR.ls (α:={k:Nat//k<=l.length/\∀s∈l.take k,¬(s.lo<=v/\v<=s.hi)}) [5] (fun k=>[(5,n k.1)]) (fun k=>l.length-k.1) ⟨0,aQ _,by simp⟩ ?_
 rintro⟨k,hk,ff⟩
 by_cases bP:k<l.length
 ·obtain⟨s,hs⟩:∃s,l[k]?=some s:=⟨_,ae bP⟩
  have cX:(l.map Sp.cs).getD k []=Sp.cs s:=getD_map hs
  ((refine Ax @cX ?_;repeat' constructor)<;>intros<;>refine aP ?_)
  ·have:(l.any fun s=>decide (s.lo<=v/\v<=s.hi))=true:=by
    rw[eb]
    exact⟨s,ao hs,by simp;omega⟩
   rw[this]
   exact Fq
  ·refine⟨⟨k+1,bP,fun u hu=>?_⟩,by simp,by simp only;omega⟩
   rw[ey hs]at hu
   rcases bm.1 hu with hu|hu
   ·exact ff u hu
   ·rw[bp.1 hu];omega
 ·obtain rfl:k=l.length:=by omega
  have:(l.any fun s=>decide (s.lo<=v/\v<=s.hi))=false:=by
   rw[fo]
   intro t ht
   rw[aI]at ff
   simpa using ff t ht
  rw[this]
  ((refine Au ?_;repeat' constructor)<;>intros<;>refine aP ?_)
  exact Fq
def TG:CF:=⟨302,(jo [jx 3 63 18 0,jx 5 30 4 2,jb 6 false] [1,3,5] (.seq (jo [jf 17 1 5,jl 18 17,je 19 18,jf 20 12 3,jf 21 0 20,jl 22 21,je 23 22,ju .add 24 23 1,jt .neq 25 19 24,jm 26 25,jd 26 (jf 27 2 5),jd 26 (jl 28 27),jd 26 (je 29 28),jd 26 (jm 30 1),jd 26 (ju .add 31 30 1),jd 26 (jt .neq 32 29 31),jq 33 26 32,jm 34 33,jd 34 (jf 35 3 5),jd 34 (jl 36 35),jd 34 (je 37 36),jd 34 (jm 38 1),jd 34 (ju .add 39 38 1),jd 34 (jt .neq 40 37 39),jq 41 34 40,jm 42 41,jd 42 (jf 43 0 5),jd 42 (jl 44 43),jd 42 (jf 45 14 3),jd 42 (jf 46 1 45),jd 42 (jf 47 0 46),jd 42 (jl 48 47),jd 42 (jt .lss 49 44 48),jq 50 42 49,jm 51 50,jd 51 (jf 52 0 5),jd 51 (jl 53 52),jd 51 (jf 54 14 3),jd 51 (jf 55 1 54),jd 51 (jf 56 1 55),jd 51 (jl 57 56),jd 51 (jt .gtr 58 53 57),jq 59 51 58] [1,3,5,59] (.cond (.t 59) (jo [jb 6 false] [6] .ret) .skip)) (jo [jf 61 0 3,jk 62 10 61,jf 63 10 3,jl 64 63,jf 65 11 3,jl 66 65,jy 67 36 [62,64,66],jm 60 67,jz 68 0 60,jz 69 1 60,jw 7 (.alloc 108 1 [.slice none 0 0]),js 1 7 68,jm 8 69] [1,3,5,7,8] (.seq (jo [jm 70 8,ju .neq 71 70 0,jm 72 71,jd 72 (jf 73 0 7),jd 72 (jl 74 73),jd 72 (je 75 74),jd 72 (jf 76 1 5),jd 72 (jl 77 76),jd 72 (je 78 77),jd 72 (jt .neq 79 75 78),jq 80 72 79] [1,3,5,7,80] (.cond (.t 80) (jo [jb 6 false] [6] .ret) .skip)) (.seq (jo [jc 9 0] [1,3,5,7,9] (.block 0 (.loop (.seq (jo [jm 81 9,jf 82 1 5,jl 83 82,je 84 83,jt .lss 85 81 84] [1,3,5,7,9,85] (.cond (.t 85) .skip (.exit 0))) (.seq (.block 1 (.seq (.seq (.draw [jf 88 1 5,jl 89 88,jm 90 9,ji 91 1 89 90,jl 92 91,ju .lss 93 92 0,jm 94 93,jd 94 (jf 95 1 5),jd 94 (jl 96 95),jd 94 (jm 97 9),jd 94 (ji 98 1 96 97),jd 94 (jl 99 98),jd 94 (jm 100 1),jd 94 (jt .gtr 101 99 100),jq 102 94 101,jm 103 102,jd 103 (jf 104 0 7),jd 103 (jl 105 104),jd 103 (jm 106 9),jd 103 (ji 107 1 105 106),jd 103 (jl 108 107),jd 103 (je 109 108),jd 103 (ju .gtr 110 109 0),jd 103 (jm 111 110),ja 111 (jf 112 0 7),ja 111 (jl 113 112),ja 111 (jm 114 9),ja 111 (ji 115 1 113 114),ja 111 (jl 116 115),ja 111 (jf 117 2 5),ja 111 (jl 118 117),ja 111 (jf 119 1 5),ja 111 (jl 120 119),ja 111 (jm 121 9),ja 111 (ji 122 1 120 121),ja 111 (jl 123 122),ja 111 (ji 124 1 118 123),ja 111 (jl 125 124),ja 111 (jy 126 11 [116,125]),ja 111 (jv 127 126),jd 103 (jp 128 111 127),jq 129 103 128] [] [1,3,5,7,9,129]) (.cond (.t 129) (jo [jb 6 false] [6] .ret) .skip)) (.seq (jo [jm 130 9,ju .eql 131 130 0] [1,3,5,7,9,131] (.cond (.t 131) (.exit 1) .skip)) (jo [jf 132 12 3,jf 133 0 132,jl 134 133,jm 135 9,ju .sub 136 135 1,ji 137 2 134 136,jk 138 2 137,jw 10 (.alloc 52 2 [.int .i64 0,.int .i64 0]),js 2 10 138] [1,3,5,7,9,10] (.seq (jo [jc 11 0] [1,3,5,7,9,10,11] (.block 2 (.loop (.seq (jo [jm 139 11,jf 140 12 3,jf 141 1 140,jl 142 141,je 143 142,jt .lss 144 139 143] [1,3,5,7,9,10,11,144] (.cond (.t 144) .skip (.exit 2))) (.seq (.block 3 (jo [jf 147 12 3,jf 148 1 147,jl 149 148,jm 150 11,ji 151 3 149 150,jf 152 0 151,jl 153 152,jm 154 9,ju .sub 155 154 1,jt .eql 156 153 155] [1,3,5,7,9,10,11,156] (.cond (.t 156) (.draw [jf 157 0 10,jl 158 157,jf 159 12 3,jf 160 1 159,jl 161 160,jm 162 11,ji 163 3 161 162,jf 164 1 163,jf 165 0 164,jl 166 165,jt .add 167 158 166,jf 168 1 10,jl 169 168,jf 170 12 3,jf 171 1 170,jl 172 171,jm 173 11,ji 174 3 172 173,jf 175 1 174,jf 176 1 175,jl 177 176,jt .add 178 169 177,jw 179 (.build [.int .i64 0,.int .i64 0] [(0,1,(.t 167)),(1,1,(.t 178))])] [js 2 10 179] [1,3,5,7,9,10,11]) .skip))) (.ops [jm 145 11,ju .add 146 145 1,jm 11 146] [1,3,5,7,9,10,11])))))) (.seq (.draw [jf 180 1 5,jl 181 180,jm 182 9,ji 183 1 181 182,jl 184 183,jf 185 1 5,jl 186 185,jm 187 9,ju .sub 188 187 1,ji 189 1 186 188,jl 190 189,jt .sub 191 184 190,jm 12 191] [] [1,3,5,7,9,10,12]) (jo [jm 192 12,jf 193 0 10,jl 194 193,jt .lss 195 192 194,jm 196 195,jd 196 (jm 197 12),jd 196 (jf 198 1 10),jd 196 (jl 199 198),jd 196 (jt .gtr 200 197 199),jq 201 196 200] [1,3,5,7,9,201] (.cond (.t 201) (jo [jb 6 false] [6] .ret) .skip)))))))) (.ops [jm 86 9,ju .add 87 86 1,jm 9 87] [1,3,5,7,9])))))) (.seq (jo [jc 13 0] [1,3,5,13] (.block 4 (.loop (.seq (jo [jm 202 13,jm 203 1,jt .leq 204 202 203] [1,3,5,13,204] (.cond (.t 204) .skip (.exit 4))) (.seq (.block 5 (jo [jf 207 2 5,jl 208 207,jm 209 13,ji 210 1 208 209,jl 211 210,jm 14 211] [1,3,5,13,14] (.seq (.draw [jf 212 3 5,jl 213 212,jm 214 13,ji 215 1 213 214,jl 216 215,jf 217 0 5,jl 218 217,jt .sub 219 216 218,jm 15 219] [] [1,3,5,13,14,15]) (.seq (jo [jm 220 14,ju .lss 221 220 0,jm 222 221,jd 222 (jm 223 14),jd 222 (ju .gtr 224 223 12000),jq 225 222 224,jm 226 225,jd 226 (jf 227 3 5),jd 226 (jl 228 227),jd 226 (jm 229 13),jd 226 (ji 230 1 228 229),jd 226 (jl 231 230),jd 226 (ju .lss 232 231 0),jq 233 226 232,jm 234 233,jd 234 (jf 235 3 5),jd 234 (jl 236 235),jd 234 (jm 237 13),jd 234 (ji 238 1 236 237),jd 234 (jl 239 238),jd 234 (ju .gtr 240 239 12000),jq 241 234 240,jm 242 241,jd 242 (jm 243 15),jd 242 (jm 244 14),jd 242 (jt .sub 245 243 244),jd 242 (jf 246 14 3),jd 242 (jf 247 0 246),jd 242 (jl 248 247),jd 242 (jt .gtr 249 245 248),jq 250 242 249,jm 251 250,jd 251 (jm 252 14),jd 251 (jm 253 15),jd 251 (jt .sub 254 252 253),jd 251 (jf 255 14 3),jd 251 (jf 256 0 255),jd 251 (jl 257 256),jd 251 (jt .gtr 258 254 257),jq 259 251 258] [1,3,5,13,14,15,259] (.cond (.t 259) (jo [jb 6 false] [6] .ret) .skip)) (.seq (jo [jm 260 13,ju .eql 261 260 0] [1,3,5,13,14,15,261] (.cond (.t 261) (.exit 5) .skip)) (.seq (.draw [jf 262 3 5,jl 263 262,jm 264 13,ji 265 1 263 264,jl 266 265,jf 267 3 5,jl 268 267,jm 269 13,ju .sub 270 269 1,ji 271 1 268 270,jl 272 271,jt .sub 273 266 272,jm 16 273] [] [1,3,5,13,14,15,16]) (.seq (.draw [jm 274 16,jf 275 14 3,jf 276 3 275,jl 277 276,jt .gtr 278 274 277,jm 279 278,jd 279 (jm 280 16),⟨some 281,.un .neg (.t 280),some (279,false)⟩,jd 279 (jf 282 14 3),jd 279 (jf 283 3 282),jd 279 (jl 284 283),jd 279 (jt .gtr 285 281 284),jq 286 279 285,jm 287 286,jd 287 (jm 288 14),jd 287 (jf 289 14 3),jd 287 (jf 290 0 289),jd 287 (jl 291 290),jd 287 (jf 292 2 5),jd 287 (jl 293 292),jd 287 (jm 294 13),jd 287 (ju .sub 295 294 1),jd 287 (ji 296 1 293 295),jd 287 (jl 297 296),jd 287 (jm 298 15),jd 287 (jy 299 37 [291,297,298]),jd 287 (jt .neq 300 288 299),jq 301 287 300] [] [1,3,5,13,301]) (.cond (.t 301) (jo [jb 6 false] [6] .ret) .skip)))))))) (.ops [jm 205 13,ju .add 206 205 1,jm 13 206] [1,3,5,13])))))) (jo [jb 6 true] [6] .ret))))))),[.t 6]⟩
theorem k10:jP Tryz.prog Tryz.f10 TG=true:=by kernel_rfl
abbrev Ub(r:Cr):List AV:=[n r.zero,l9 r.tk,l9 r.shown,l9 r.nq]
theorem crP(r:Cr)(j:Nat):bC (.bZ (Ub r) j):=.bZ fun c hc=>by
 simp only[Ub,aC,au,or_false]at hc
 rcases hc with rfl|rfl|rfl|rfl<;>simp
theorem HI(b d x:Int)(hb:0<=b/\b<=8)(hx:-13000<=x/\x<=13000):Pure Tryz.prog 37 [n b,n d,n x] (n (min (max d (x-b)) (x+b))):=by
 refine et 16 (jo [jc 6 0] [0,1,2] (jo [jm 7 1,jm 8 2,jm 9 0,jt .sub 10 8 9,jw 11 (.tN true (.t 7) (.t 10)),jm 12 2,jm 13 0,jt .add 14 12 13,jw 15 (.tN false (.t 11) (.t 14)),jm 6 15] [6] .ret)) [.t 6] Tryz.call37 Tryz.func37 ?_
 ((refine Au ?_;repeat' constructor)<;>intros<;>refine aP ?_)
 exact Fq
structure RC(s:fT)(tk:Int)(r:Cr)(i:Nat):Prop where
 t1:0<=r.tk.getD i 0
 t2:r.tk.getD i 0<=tk
 ik:(pM s).getD i []=[]\/Fz ((pM s).getD i []) (r.shown.getD (r.tk.getD i 0).toNat 0)=true
 gp:0<i->((i_ s.rates s.stops).getD (i-1) ⟨0,0⟩).lo<=r.tk.getD i 0-r.tk.getD (i-1) 0/\r.tk.getD i 0-r.tk.getD (i-1) 0<=((i_ s.rates s.stops).getD (i-1) ⟨0,0⟩).hi
structure Xg(s:fT)(r:Cr)(t:Nat):Prop where
 d1:0<=r.shown.getD t 0/\r.shown.getD t 0<=12000
 l1:0<=r.nq.getD t 0/\r.nq.getD t 0<=12000
 b1:r.nq.getD t 0-r.zero-r.shown.getD t 0<=s.eC.cS/\r.shown.getD t 0-(r.nq.getD t 0-r.zero)<=s.eC.cS
 st:0<t->r.nq.getD t 0-r.nq.getD (t-1) 0<=s.eC.kc/\-(r.nq.getD t 0-r.nq.getD (t-1) 0)<=s.eC.kc/\r.shown.getD t 0=min (max (r.shown.getD (t-1) 0) (r.nq.getD t 0-r.zero-s.eC.cS)) (r.nq.getD t 0-r.zero+s.eC.cS)
structure s9(s:fT)(tk:Int)(r:Cr):Prop where
 n1:r.tk.length=s.rates.length+1
 n2:(r.shown.length:Int)=tk+1
 n3:(r.nq.length:Int)=tk+1
 z1:s.eC.zero.lo<=r.zero
 z2:r.zero<=s.eC.zero.hi
 ts:∀i,i<r.tk.length->RC s tk r i
 ls:∀t:Nat,(t:Int)<=tk->Xg s r t
theorem Bf{l:List Int}{i:Nat}(h:i<l.length):(l.map fun z=>[n z]).getD i []=[n (l.getD i 0)]:=by
 rw[getD_map (ae h),ab,ae h];rfl
theorem HJ(s:fT)(tk:Int)(r:Cr)(hd:gV s.rates s.stops)(hp:s.eC.ok)(qE:(tK s).2=0)(hln:(s.rates.length:Int)+1=s.bz.jY)(h1:s.trace.length<1000000000)(h2:s.eu.length<9223372036854775808)(ht:1<=tk/\tk<=400)(z1:r.tk.length<9223372036854775808)(z2:r.shown.length<9223372036854775808)(z3:r.nq.length<9223372036854775808):∃b:Bool,Pure Tryz.prog 10 [.agg s.cs,n tk,.agg (Ub r)] (bl b)/\(b=true->s9 s tk r):=by
 refine⟨tr (s9 s tk r),?_,fun h=>vP.1 h⟩
 have hI:=zB (rE s.bz) s.trace s.eu h1 h2
 have UX:(pM s).length=s.rates.length+1:=by
  have:=(Dy (p:=rE s.bz) (l:=s.trace) (bs:=s.eu) qE).1
  have e:(rE s.bz).co=s.bz.jY:=rfl
  show(wq (rE s.bz) s.trace s.eu).1.length=_
  omega
 have hI8:∀x∈pM s,x.length<=8:=fun x hx=>((Dy (p:=rE s.bz) (l:=s.trace) (bs:=s.eu) qE).2 x hx).2
 rw[show(rE s.bz).cs=AN.cs s.bz from rfl,show wq (rE s.bz) s.trace s.eu=tK s from rfl,qE]at hI
 rw[show(tK s).1=pM s from rfl]at hI
 have hN:=hd.1
 unfold Pn.ok at hp
 refine mu Tryz.call10 Tryz.func10 k10 ?_
 unfold TG
 have D7:=crP r
 by_cases hc:r.tk.length=s.rates.length+1/\(r.shown.length:Int)=tk+1/\(r.nq.length:Int)=tk+1/\s.eC.zero.lo<=r.zero/\r.zero<=s.eC.zero.hi
 ·obtain⟨c1,c2,c3,c4,c5⟩:=hc
  ((refine Az (aa @zN @UX) @hI ?_;repeat' constructor)<;>intros<;>refine aP ?_)
  refine aR.lr (α:={x:Nat×aG//x.1<=r.tk.length/\∀j,j<x.1->RC s tk r j}) [9] (fun x=>[(9,n x.1.1)]) (fun x=>some [⟨108,1,[[Ho (pM s)]],none⟩]::x.1.2) (fun x=>r.tk.length-x.1.1) ⟨(0,[]),aQ _,by simp⟩ ?_
  rintro⟨⟨i,ν⟩,hi,ff⟩
  simp only at hi ff
  simp only
  by_cases bP:i<r.tk.length
  ·have q1:=Bf (l:=r.tk) bP
   have hX:((pM s).map fun x=>[iT x]).getD i []=[iT ((pM s).getD i [])]:=by
    rw[getD_map (ae (by omega)),ab,ae (by omega)];rfl
   have hX8:((pM s).getD i []).length<=8:=by
    rw[ab,ae (show i<(pM s).length by omega)]
    exact hI8 _ (cv _)
   by_cases hT:0<=r.tk.getD i 0/\r.tk.getD i 0<=tk
   ·have q2:=Bf (l:=r.shown) (i:=(r.tk.getD i 0).toNat) (by omega)
    have hIn:=zY ((pM s).getD i []) (by omega) (r.shown.getD (r.tk.getD i 0).toNat 0)
    obtain⟨G,hG⟩:∃G,G=i_ s.rates s.stops:=⟨_,rfl⟩
    obtain⟨T,Qt⟩:∃T,T=r.tk.getD i 0:=⟨_,rfl⟩
    obtain⟨X,YL⟩:∃X,X=(pM s).getD i []:=⟨_,rfl⟩
    obtain⟨q,hq⟩:∃q,q=Fz X (r.shown.getD T.toNat 0):=⟨_,rfl⟩
    rw[<-Qt]at q1 q2 hIn hT
    rw[<-YL]at hX hX8 hIn
    rw[<-hq]at hIn
    have ti:0<X.length->q=false->tr (s9 s tk r)=false:=fun a b=>yN fun h=>by
     rcases(h.ts i bP).ik with e|e
     ·rw[<-YL]at e;rw[e]at a;simp at a
     ·rw[<-YL,<-Qt,<-hq,b]at e;cases e
    have vG:¬(0<X.length/\q=false)->(pM s).getD i []=[]\/Fz ((pM s).getD i []) (r.shown.getD (r.tk.getD i 0).toNat 0)=true:=fun h=>by
     rw[<-YL,<-Qt,<-hq]
     cases q with
     |true=>exact .inr rfl
     |false=>exact .inl (List.eq_nil_of_length_eq_zero (Nat.eq_zero_of_not_pos fun a=>h ⟨a,rfl⟩))
    have RG:∀p:Bool,(decide (T<0\/tk<T)||p)=p:=fun p=>by rw[decide_eq_false (by omega)];rfl
    by_cases h0:i=0
    ·subst h0
     ((refine Az (aa @zN (aa @UX (aa @q1 (aa @q2 @hX)))) @hIn ?_;repeat' constructor)<;>intros<;>refine aP ?_)
     ·rename_i hc
      rw[RG]at hc
      simp only[ak,decide_eq_true_eq,db]at hc
      rw[ti (by omega) hc.2]
      exact Fq
     ·rename_i hc
      rw[RG]at hc
      have hy:=vG fun⟨a,b⟩=>by rw[b,decide_eq_true (by omega)]at hc;cases hc
      refine⟨⟨(1,ν),by simp only;omega,fun j hj=>?_⟩,by simp,rfl,by simp only;omega⟩
      obtain rfl:j=0:=by simp only at hj;omega
      exact⟨Qt▸hT.1,Qt▸hT.2,hy,fun h=>absurd h (f_ 0)⟩
    ·obtain⟨R,hR⟩:∃R,R=s.rates.getD (i-1) ⟨0,0⟩:=⟨_,rfl⟩
     have hRr:(s.rates.map Sp.cs).getD ((i:Int)-1).toNat []=Sp.cs R:=by
      rw[show((i:Int)-1).toNat=i-1 by omega,row ⟨0,0⟩ (by omega),hR]
     have q3:(r.tk.map fun z=>[n z]).getD ((i:Int)-1).toNat []=[n (r.tk.getD (i-1) 0)]:=by
      rw[show((i:Int)-1).toNat=i-1 by omega];exact Bf (by omega)
     have XT:=ff (i-1) (by omega)
     have aaz:=XT.t1
     have aaA:=XT.t2
     clear XT
     have Xh:=P2 (rates:=s.rates) (k:=i-1) (by omega) s.stops fun st hs=>by have:=(hd.2.2.2 st hs).1;omega
     rw[<-hR,<-hG]at Xh
     have hRb:1<=R.lo/\R.lo<=R.hi/\R.hi<=40:=by
      have:=hd.2.2.1 R (by rw[hR,ab,ae (show i-1<s.rates.length by omega)];exact cv _)
      omega
     obtain⟨T0,Uc⟩:∃T0,T0=r.tk.getD (i-1) 0:=⟨_,rfl⟩
     rw[<-Uc]at q3 aaz aaA
     ((refine Az (aa @zN (aa @UX (aa @q1 (aa @q2 (aa @hX @hRr))))) @hIn ?_;repeat' constructor)<;>intros<;>refine aP ?_)
     ·rename_i hc
      rw[RG]at hc
      simp only[ak,decide_eq_true_eq,db]at hc
      rw[ti (by omega) hc.2]
      exact Fq
     ·rename_i hc _
      rw[RG]at hc
      have hy:=vG fun⟨a,b⟩=>by rw[b,decide_eq_true (by omega)]at hc;cases hc
      clear hc ti vG RG hIn hX hq
      obtain⟨g,hg⟩:∃g:Nat->Sp,∀k,g k=(s.stops.take k).foldl (fun g st=>if st.en=((i-1:Nat):Int)then Fa g st.bD else g) R:=⟨_,fun _=>rfl⟩
      have hgN:g s.stops.length=G.getD (i-1) ⟨0,0⟩:=by rw[hg,aI];exact Xh.symm
      have QX:g 0=R:=by rw[hg];rfl
      have WS:∀k st,s.stops[k]?=some st->g (k+1)=if st.en=((i-1:Nat):Int)then Fa (g k) st.bD else g k:=fun k st e=>by rw[hg,hg,p8 e]
      have KS:∀k:Nat,1<=(g k).lo/\(g k).lo<=(g k).hi/\(g k).hi<=40+400*k:=fun k=>by
       induction k with
       |zero=>rw[QX];omega
       |succ k ih=>
        by_cases hk:k<s.stops.length
        ·have e:=ae hk
         have h3:=(hd.2.2.2 _ (cv hk)).2
         rw[WS k _ e]
         split
         ·simp only[Fa];omega
         ·omega
        ·have:g (k+1)=g k:=by rw[hg,hg,cD (by omega),cD (by omega)]
         rw[this];omega
      have Uv:=hd.2.1
      clear hg
      refine aR.le (α:={x:Nat×aG//x.1<=s.stops.length}) [11] (fun x=>[(11,n x.1.1)]) (fun x=>some [⟨108,1,[[Ho (pM s)]],none⟩]::(ν++some [⟨52,2,[(g x.1.1).cs],none⟩]::x.1.2)) (fun x=>s.stops.length-x.1.1) ⟨(0,[]),aQ _⟩ ?_ ?_
      ·simp only[QX]
      rintro⟨⟨k,μ⟩,hk⟩
      simp only at hk
      simp only
      have fX:∀(a:Option (List Ob)) (o:Ob) (r:aG),aG.at (a::(ν++some [o]::r)) (List.length ν+1) 0=some o:=fun a o r=>by rw[cQ,dV];rfl
      have uX:∀(a:Option (List Ob)) (o o':Ob) (r:aG),aG.cZ (a::(ν++some [o]::r)) (List.length ν+1) 0 o'=a::(ν++some [o']::r):=fun a o o' r=>by simp[aG.cZ]
      have KX:=KS k
      by_cases LD:k<s.stops.length
      ·obtain⟨st,cn⟩:∃st,s.stops[k]?=some st:=⟨_,ae LD⟩
       have cX:(s.stops.map Mk.cs).getD k []=Mk.cs st:=getD_map cn
       have h3:=(hd.2.2.2 _ (ao cn)).2
       have hn:=WS k st cn
       clear WS KS
       generalize QY:g (k+1)=g1 at*
       generalize g k=g0' at*
       by_cases M_:st.en=(i:Int)-1
       ·rw[if_pos (by omega)]at hn
        unfold Fa at hn
        ((refine Ax (aa @zN (aa @cX (aa @fX (aa @uX @M_)))) ?_;repeat' constructor)<;>intros<;>refine aP ?_)
        refine⟨⟨(k+1,μ),LD⟩,by simp,?_,by simp only;omega⟩
        simp only[QY,hn]
       ·rw[if_neg (by omega)]at hn
        have Xi:decide (st.en=(i:Int)-1)=false:=decide_eq_false M_
        ((refine Ax (aa @zN (aa @cX (aa @fX (aa @uX @Xi)))) ?_;repeat' constructor)<;>intros<;>refine aP ?_)
        refine⟨⟨(k+1,μ),LD⟩,by simp,?_,by simp only;omega⟩
        simp only[QY,hn]
      ·obtain rfl:k=s.stops.length:=by omega
       clear WS KS
       rw[hgN]at KX|-
       have hgp:tr (s9 s tk r)=true->(G.getD (i-1) ⟨0,0⟩).lo<=T-T0/\T-T0<=(G.getD (i-1) ⟨0,0⟩).hi:=fun h=>by
        have:=((vP.1 h).ts i bP).gp (by omega)
        rwa[<-hG,<-Qt,<-Uc]at this
       have lO:(G.getD (i-1) ⟨0,0⟩).lo<=T-T0/\T-T0<=(G.getD (i-1) ⟨0,0⟩).hi->RC s tk r i:=fun h=>by
        refine⟨Qt▸hT.1,Qt▸hT.2,hy,fun _=>?_⟩
        rwa[<-hG,<-Qt,<-Uc]
       generalize G.getD (i-1) ⟨0,0⟩=g' at*
       generalize tr (s9 s tk r)=D at*
       ((refine Ax (aa @zN (aa @q1 (aa @q3 (aa @fX @uX)))) ?_;repeat' constructor)<;>intros<;>refine aP ?_)
       ·cases D with
        |false=>exact Fq
        |true=>have:=hgp rfl;exfalso;omega
       ·have lO:=lO (by omega)
        refine⟨⟨(i+1,_),bP,fun j hj=>?_⟩,by simp,rfl,by simp only;omega⟩
        by_cases e:j=i
        ·rw[e];exact lO
        ·exact ff j (by omega)
   ·rw[yN fun h=>hT ⟨(h.ts i bP).t1,(h.ts i bP).t2⟩]
    generalize r.tk.getD i 0=T at*
    generalize(pM s).getD i []=X at*
    have RG:decide (T<0\/tk<T)=true:=decide_eq_true (by omega)
    by_cases hTs:T.toNat<r.shown.length
    ·have q2:=Bf (l:=r.shown) hTs
     ((refine Ax (aa @zN (aa @UX (aa @q1 (aa @q2 (aa @hX @RG))))) ?_;repeat' constructor)<;>intros<;>refine aP ?_)
     exact Fq
    ·have q2:(r.shown.map fun z=>[n z]).getD T.toNat []=[]:=by rw[ab,b_ (by simp;omega)];rfl
     ((refine Ax (aa @zN (aa @UX (aa @q1 (aa @q2 (aa @hX @RG))))) ?_;repeat' constructor)<;>intros<;>refine aP ?_)
     exact Fq
  ·obtain rfl:i=r.tk.length:=by omega
   have lh:(∀t:Nat,(t:Int)<=tk->Xg s r t)->tr (s9 s tk r)=true:=fun h=>tE ⟨c1,c2,c3,c4,c5,ff,h⟩
   have Qu:tr (s9 s tk r)=true->∀t:Nat,(t:Int)<=tk->Xg s r t:=fun h=>(vP.1 h).ls
   generalize tr (s9 s tk r)=D at*
   clear hI
   ((refine Ax @zN ?_;repeat' constructor)<;>intros<;>refine aP ?_)
   refine aR.lr (α:={t:Nat//(t:Int)<=tk+1/\∀u,u<t->Xg s r u}) [13] (fun t=>[(13,n t.1)]) (fun _=>some [⟨108,1,[[Ho (pM s)]],none⟩]::ν) (fun t=>(tk+1).toNat-t.1) ⟨0,by omega,by simp⟩ ?_
   rintro⟨t,htt,UE⟩
   by_cases hle:(t:Int)<=tk
   ·have p1:=Bf (l:=r.shown) (i:=t) (by omega)
    have p2:=Bf (l:=r.nq) (i:=t) (by omega)
    have NT:=fun h=>Qu h t hle
    obtain⟨d,RH⟩:∃d,d=r.shown.getD t 0:=⟨_,rfl⟩
    obtain⟨L,RI⟩:∃L,L=r.nq.getD t 0:=⟨_,rfl⟩
    have hb1:D=true->(0<=d/\d<=12000)/\(0<=L/\L<=12000)/\L-r.zero-d<=s.eC.cS/\d-(L-r.zero)<=s.eC.cS:=fun h=>by
     have:=NT h
     rw[RH,RI];exact⟨this.d1,this.l1,this.b1⟩
    rw[<-RH]at p1
    rw[<-RI]at p2
    by_cases p9:(0<=d/\d<=12000)/\0<=L/\L<=12000
    ·by_cases h0:t=0
     ·subst h0
      clear Qu NT
      ((refine Ax (aa @zN (aa @p1 @p2)) ?_;repeat' constructor)<;>intros<;>refine aP ?_)
      ·cases D with
       |false=>exact Fq
       |true=>have:=hb1 rfl;exfalso;omega
      ·refine⟨⟨1,by omega,fun u hu=>?_⟩,by simp,by simp only;omega⟩
       obtain rfl:u=0:=by omega
       exact⟨by rw[<-RH];exact p9.1,by rw[<-RI];exact p9.2,by rw[<-RH,<-RI];omega,fun h=>absurd h (f_ 0)⟩
     ·have p3:(r.shown.map fun z=>[n z]).getD ((t:Int)-1).toNat []=[n (r.shown.getD (t-1) 0)]:=by rw[show((t:Int)-1).toNat=t-1 by omega];exact Bf (by omega)
      have p4:(r.nq.map fun z=>[n z]).getD ((t:Int)-1).toNat []=[n (r.nq.getD (t-1) 0)]:=by rw[show((t:Int)-1).toNat=t-1 by omega];exact Bf (by omega)
      have Ot:=(UE (t-1) (by omega)).l1
      obtain⟨d0,T6⟩:∃d,d=r.shown.getD (t-1) 0:=⟨_,rfl⟩
      obtain⟨L0,Ud⟩:∃L,L=r.nq.getD (t-1) 0:=⟨_,rfl⟩
      rw[<-T6]at p3
      rw[<-Ud]at p4 Ot
      have T2:=HI s.eC.cS d0 (L-r.zero) (by omega) (by omega)
      have hb2:D=true->L-L0<=s.eC.kc/\-(L-L0)<=s.eC.kc/\d=min (max d0 (L-r.zero-s.eC.cS)) (L-r.zero+s.eC.cS):=fun h=>by
       have:=(NT h).st (by omega)
       rwa[<-RH,<-RI,<-T6,<-Ud]at this
      have lO:(L-r.zero-d<=s.eC.cS/\d-(L-r.zero)<=s.eC.cS)->L-L0<=s.eC.kc/\-(L-L0)<=s.eC.kc/\d=min (max d0 (L-r.zero-s.eC.cS)) (L-r.zero+s.eC.cS)->Xg s r t:=fun h h'=>
       ⟨by rw[<-RH];exact p9.1,by rw[<-RI];exact p9.2,by rw[<-RH,<-RI];exact h,fun _=>by rw[<-RH,<-RI,<-T6,<-Ud];exact h'⟩
      clear Qu NT
      generalize min (max d0 (L-r.zero-s.eC.cS)) (L-r.zero+s.eC.cS)=m at*
      ((refine Az (aa @zN (aa @p1 (aa @p2 (aa @p3 @p4)))) @T2 ?_;repeat' constructor)<;>intros<;>refine aP ?_)
      ·cases D with
       |false=>exact Fq
       |true=>have:=hb1 rfl;exfalso;omega
      ·cases D with
       |false=>exact Fq
       |true=>have:=hb2 rfl;exfalso;omega
      ·have lO:=lO (by omega) (by omega)
       refine⟨⟨t+1,by omega,fun u hu=>?_⟩,by simp,by simp only;omega⟩
       by_cases e:u=t
       ·rw[e];exact lO
       ·exact UE u (by omega)
    ·clear Qu NT
     ((refine Ax (aa @zN (aa @p1 @p2)) ?_;repeat' constructor)<;>intros<;>refine aP ?_)
     cases D with
     |false=>exact Fq
     |true=>exact absurd ⟨(hb1 rfl).1,(hb1 rfl).2.1⟩ p9
   ·have hD:=lh fun u hu=>UE u (by omega)
    rw[hD]
    ((refine Ax @zN ?_;repeat' constructor)<;>intros<;>refine aP ?_)
    exact Fq
 ·rw[yN fun h=>hc ⟨h.n1,h.n2,h.n3,h.z1,h.z2⟩]
  ((refine Az (aa @zN @UX) @hI ?_;repeat' constructor)<;>intros<;>refine aP ?_)
  exact Fq
theorem Qv{l:List Sp}{v:Int}(h:Fz l v=true):Mem v l:=by
 unfold Fz at h
 obtain⟨s,hs,h⟩:=eb.1 h
 rw[decide_eq_true_eq]at h
 exact⟨s,hs,h.1,h.2⟩
theorem Ue{w:Wk}{f:dm}(hG:(i_ f.sheet.rates f.sheet.stops).length=f.sheet.rates.length)(st:Int){r:Cr}(hd:s9 f.sheet w.base.bD r)(hm:∀m∈f.marks,m.bD.lo<=r.tk.getD m.en.toNat 0/\r.tk.getD m.en.toNat 0<=m.bD.hi)(hr:∀d∈w.reads,d.fB=st->d.levels.lo<=r.nq.getD d.tick.toNat 0/\r.nq.getD d.tick.toNat 0<=d.levels.hi):Fit (tW w f st) r:=by
 have hl:(tW w f st).last=f.sheet.rates.length:=by
  show(((i_ f.sheet.rates f.sheet.stops).length:Nat):Int)=_
  rw[hG]
 have O_:=hd.n1
 refine⟨fun k h1 h2=>?_,fun k h1 h2=>?_,fun t h1 h2=>?_,fun t h1 h2=>?_,hm,fun d FV=>?_⟩
 ·have h:=hd.ts k.toNat (by omega)
  refine⟨h.t1,h.t2,fun iw=>?_⟩
  rcases h.ik with e|e
  ·exact absurd e iw
  ·exact Qv e
 ·have h:=(hd.ts (k+1).toNat (by omega)).gp (by omega)
  have e:(k+1).toNat-1=k.toNat:=by omega
  rw[e]at h
  exact h
 ·have F7:t<=w.base.bD:=h2
  have h:=hd.ls t.toNat (by omega)
  exact⟨h.d1.1,h.d1.2,h.l1.1,h.l1.2,h.b1.1,h.b1.2⟩
 ·have F7:t<w.base.bD:=h2
  have h:=(hd.ls (t+1).toNat (by omega)).st (by omega)
  have e:(t+1).toNat-1=t.toNat:=by omega
  rw[e]at h
  obtain⟨a,b,c⟩:=h
  refine⟨a,?_,c⟩
  have:-(r.L (t+1)-r.L t)<=(tW w f st).sh.eC.kc:=b
  omega
 ·obtain⟨h1,h2⟩:=cM.1 FV
  exact hr d h1 (of_decide_eq_true h2)
theorem KG{w:Wk}(hw:zG w)(hg:UN w){f:dm}(hf:f∈w.aS)(hn:p' w f<=4000){r:Cr}(hd:s9 f.sheet w.base.bD r)(st:Int)(hm:∀m∈f.marks,m.bD.lo<=r.tk.getD m.en.toNat 0/\r.tk.getD m.en.toNat 0<=m.bD.hi)(hr:∀d∈w.reads,d.fB=st->d.levels.lo<=r.nq.getD d.tick.toNat 0/\r.nq.getD d.tick.toNat 0<=d.levels.hi):((ir w f w.base.dh).any fun x=>decide (x=st))=decide ((gI w.base.dh st).2=0):=by
 have hx:=hw.sh f hf
 have tc:=Ue (w:=w) (rB hx.P').1 st hd hm hr
 have hc:=Nv hw hf hn st
 have T8:=Na hc.ok tc hn
 have OO:lL (tW w f st)=true:=by
  unfold lL
  rw[eb]
  refine⟨r.zero,?_,T8⟩
  have h1:=hd.z1
  have h2:=hd.z2
  unfold Ch.zs
  refine aO.2 ⟨(r.zero-f.sheet.eC.zero.lo).toNat,bc.2 ?_,?_⟩
  ·show(r.zero-f.sheet.eC.zero.lo).toNat<(f.sheet.eC.zero.hi+1-f.sheet.eC.zero.lo).toNat
   omega
  ·show(((r.zero-f.sheet.eC.zero.lo).toNat:Nat):Int)+f.sheet.eC.zero.lo=r.zero
   omega
 unfold gI
 rw[if_neg (by rw[hg.s1];exact fun h=>h rfl)]
 rw[cV,eb,decide_eq_true_eq]
 cases I9:w.base.dh.findIdx? fun s=>s.id==st with
 |some i=>
  refine⟨fun _=>rfl,fun _=>?_⟩
  obtain⟨h1,h2,_⟩:=List.findIdx?_eq_some_iff_getElem.1 I9
  refine⟨st,?_,by simp⟩
  unfold ir
  refine aO.2 ⟨w.base.dh[i],cM.2 ⟨cv h1,?_⟩,by simpa using h2⟩
  rw[show w.base.dh[i].id=st by simpa using h2];exact OO
 |none=>
  rw[List.findIdx?_eq_none_iff]at I9
  refine⟨fun⟨x,hx,e⟩=>?_,fun h=>absurd h (by decide)⟩
  unfold ir at hx
  obtain⟨s,hs,rfl⟩:=aO.1 hx
  have:=I9 s (cM.1 hs).1
  simp at e this
  exact absurd e this
theorem NU{w:Wk}(hg:UN w){f:dm}(hf:f∈w.aS)(h:Fj w f=true):lL (tW w f f.fB)=false:=by
 have cn:=(hg.sh f hf).st
 unfold gI at cn
 rw[if_neg (by rw[hg.s1];exact fun h=>h rfl)]at cn
 cases I9:w.base.dh.findIdx? fun s=>s.id==f.fB with
 |none=>rw[I9]at cn;cases cn
 |some i=>
  obtain⟨h1,h2,_⟩:=List.findIdx?_eq_some_iff_getElem.1 I9
  have h2:w.base.dh[i].id=f.fB:=by simpa using h2
  unfold Fj at h
  simp only[ak,db,fo]at h
  cases Mp:lL (tW w f f.fB)with
  |false=>rfl
  |true=>
   exfalso
   refine h.2 f.fB ?_ (by simp)
   unfold ir
   refine aO.2 ⟨w.base.dh[i],cM.2 ⟨cv h1,?_⟩,h2⟩
   rw[h2];exact Mp
end Go.Proofs.YtgopgjnfhkoomaaGreat
