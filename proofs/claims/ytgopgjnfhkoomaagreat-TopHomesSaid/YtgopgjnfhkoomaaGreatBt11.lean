/- Part 11 of the texts: abstract values over the walk; contracts. -/
import Derived.Test.YtgopgjnfhkoomaaGreatBt10
import Derived.Test.YtgopgjnfhkoomaaGreatRows
set_option linter.unusedVariables false
set_option linter.unusedSimpArgs false
namespace Go.Proofs.YtgopgjnfhkoomaaGreat
open Go.Abs
open Nat (reduceAdd reduceSub reduceLT reduceLeDiff reduceMul reduceEqDiff)
set_option maxHeartbeats 4000000
set_option maxRecDepth 100000
theorem RD(a:Rd):∀c∈a.cs,bC c:=fun c hc=>by simp at hc;rcases hc with rfl|rfl|rfl|rfl|rfl<;>simp
theorem NL(a:j3):∀c∈a.cs,bC c:=fun c hc=>by simp at hc;rcases hc with rfl|rfl|rfl|rfl<;>simp
theorem Xe(a:Nm):∀c∈a.cs,bC c:=fun c hc=>by simp at hc;rcases hc with rfl|rfl<;>simp
theorem T9(r:FU):∀c∈r.cs,bC c:=fun c hc=>by
 simp only[aC,au,or_false]at hc
 rcases hc with rfl|rfl|rfl|rfl
 ·exact Mu _
 ·exact nJ 5 _ RD
 ·exact nJ 4 _ NL
 ·exact nJ 2 _ Xe
@[simp] theorem HE(r:FU):bC (.agg r.cs):=.agg (T9 r)
theorem HF(N:Nat)(al:List (Nm×Nt))(x:Fs)(o:List Nm)(a:Nt)(cn:(gW x.st).1=0)(hp:(gI x.st a.fB).2=0)(ν:aG):eY Tryz.prog 137 [.ptr 8 0 1 0 0,tJ a] (nu N (qG al) x o++ν) (FR N (qG al) (nt al x a) o ν):=by
 refine qY 46 (jo [jx 3 164 38 1] [0,3] (.seq (.draw [jm 9 0,jw 10 (.dY (.t 9)),jf 11 8 10,jf 12 2 11,jl 13 12,jf 14 5 3,jl 15 14,jy 16 12 [13,15],jm 8 16,jz 17 0 8,jz 18 1 8,jm 4 17,jm 5 18] [] [0,3,4]) (.seq (.jC (List.range 17) [13] 1 [jm 20 0,jw 21 (.dY (.t 20)),jf 22 8 21,jf 23 2 22,jl 24 23,jm 25 4,ji 26 4 24 25,jk 27 4 26,jf 28 33 3,jk 29 3 28,jy 30 201 [27,29],jm 19 30,jz 31 0 19,jz 32 1 19,jw 6 (.alloc 118 4 [.int .i64 0,.int .i64 0,.int .i64 0,.slice none 0 0])] [js 4 6 31,jm 7 32] [0,3,4,6,7]) (.seq (jo [jm 33 7,ju .neq 34 33 0] [0,3,4,6,34] (.cond (.t 34) (jo [jm 35 0,jk 36 38 3,jy 37 139 [35,36]] [] .ret) .skip)) (.draw [jm 38 0,jw 39 (.dY (.t 38)),jf 40 8 39,jf 41 2 40,jl 42 41,jm 43 4,jk 44 4 6,ji 45 4 42 43] [js 4 45 44] []))))) [] Tryz.call137 Tryz.func137 ?_
 have hc:=fun μ=>mK N al x o a μ
 obtain⟨Qj,Ql⟩:=tL cn
 have hS:=fun μ=>(jg.plain (kO x.st ⟨by omega,fun s hs=>by have:=Ql s hs;omega⟩ a.fB) (Plain.t2 _ _) ⟨bO.gZ (σ:=nu N (qG al) x o++μ) (f:=13) (T:=118) rfl rfl (by decide) (fun a=>NL a) (fun a=>rfl),bO.pure (by simp),trivial⟩:
  jg Tryz.prog 12 [.own 13 0 x.st.length,n a.fB] (nu N (qG al) x o++μ) (.iu [n (gI x.st a.fB).1,n (gI x.st a.fB).2]))
 obtain⟨hi,_⟩:=NJ hp
 have cX:(x.st.map j3.cs).getD (gI x.st a.fB).1 []=j3.cs (x.st.getD (gI x.st a.fB).1 default):=row default hi
 have hM:=Kz (x.st.getD (gI x.st a.fB).1 default) a.ej (by have:=Ql _ (ao (fh default hi));omega)
 have hE:nt al x a=if(mV (x.st.getD (gI x.st a.fB).1 default) a.ej).2≠0 then fw al x a else{x with st:=x.st.set (gI x.st a.fB).1 (mV (x.st.getD (gI x.st a.fB).1 default) a.ej).1}:=rfl
 rw[hp]at hS
 generalize(gI x.st a.fB).1=i at hS hi cX hM hE
 generalize x.st.getD i default=s at cX hM hE
 generalize DT:(mV s a.ej).1=r at hM hE
 generalize Oh:(mV s a.ej).2=e at hM hE
 simp only[nu,aD,aK]
 by_cases he:e=0
 ·rw[hE,if_neg (by omega)]
  subst he
  (repeat' ((first|refine vn rfl ?_|simp(disch:=omega) only[cB,aj]|refine bo (fun _=>?_) fun _=>?_|refine im fun _=>?_|((repeat refine si ?_);((first|refine .inl ⟨_,_,_,_,rfl,fun _=>(by first|exact hS _),?_⟩|refine⟨_,_,_,_,rfl,fun _=>(by first|exact hS _),?_⟩);(first|refine o1 ?_|refine o4 ?_)))|((repeat refine si ?_);(first|((first|refine .inl ⟨_,_,_,_,rfl,fun _=>pu hM,?_⟩|refine⟨_,_,_,_,rfl,fun _=>pu hM,?_⟩);(first|refine o1 ?_|refine o4 ?_))|refine .inl ⟨_,_,_,_,rfl,pu hM,?_⟩))|refine cF ?_|refine om ?_|refine an ?_|fail)<;>try simp only[zN,zT,zV,zS,zU,dC,ex,bu,bN,elems,cells,scalar,dH,bL,aX,aU,bJ,bI,Nat.reduceBEq,reduceAdd,reduceSub,reduceLT,reduceLeDiff,reduceMul,reduceEqDiff,reduceIte,cX]))
  all_goals try(exfalso;omega)
  refine .mk [some [⟨118,4,[r.cs],none⟩]] ?_
  simp[nu,Qg,aJ,fU]
 ·rw[hE,if_pos he]
  (repeat' ((first|refine vn rfl ?_|simp(disch:=omega) only[cB,aj]|refine bo (fun _=>?_) fun _=>?_|refine im fun _=>?_|((repeat refine si ?_);((first|refine .inl ⟨_,_,_,_,rfl,fun _=>(by first|exact hS _),?_⟩|refine⟨_,_,_,_,rfl,fun _=>(by first|exact hS _),?_⟩);(first|refine o1 ?_|refine o4 ?_)))|((repeat refine si ?_);(first|((first|refine .inl ⟨_,_,_,_,rfl,fun _=>pu hM,?_⟩|refine⟨_,_,_,_,rfl,fun _=>pu hM,?_⟩);(first|refine o1 ?_|refine o4 ?_))|refine .inl ⟨_,_,_,_,rfl,pu hM,?_⟩))|refine cF ?_|refine om ?_|refine an ?_|fail)<;>try simp only[zN,zT,zV,zS,zU,dC,ex,bu,bN,elems,cells,scalar,dH,bL,aX,aU,bJ,bI,Nat.reduceBEq,reduceAdd,reduceSub,reduceLT,reduceLeDiff,reduceMul,reduceEqDiff,reduceIte,cX]))
  all_goals try(exfalso;omega)
  refine .inr (.inl ⟨_,_,_,_,rfl,fun _=>⟨hc _,?_⟩,fun h=>by cases h⟩)
  rintro r' σ' ⟨gz,rfl⟩
  refine aH ?_
  ((refine Au ?_;repeat' constructor)<;>intros<;>refine aP ?_)
  refine .mk ([some [⟨118,4,[r.cs],none⟩]]++gz) (by simp)
theorem KA(b:l8)(l:List Nt)(hl:pK l)(we:l.length<=400)(hn:(l.map Nt.nm).Nodup)(cn:b.dh.length*48<=140737488355328)(hh:∀s∈b.dh,s.cz.length*24<=140737488355328)(T2:∀a∈l,a.kind=1->PL a.sheet)(hb0:(gW b.dh).1=0)(hp:∀a∈l,a.kind=4->(gI b.dh a.fB).2=0):Pure Tryz.prog 64 [.agg b.cs,Ad l] (.agg (oV b l).cs):=by
 refine et 105 (jo [jx 2 26 6 0,jx 3 27 1 1,jw 4 (.alloc 36 4 [.slice none 0 0,.slice none 0 0,.slice none 0 0,.slice none 0 0])] [2,3,4] (jo [jl 10 3,jy 11 129 [10],jw 12 (.qn 2),jw 13 (.qn 2),jw 14 (.qn 2),jw 15 (.qn 2),jw 16 (.qn 2),jw 17 (.qn 2),jw 18 (.qn 2),jw 19 (.build [.map none,.map none,.map none,.map none,.map none,.map none,.map none,.map none,.slice none 0 0,.slice none 0 0,.slice none 0 0,.slice none 0 0] [(0,1,(.t 11)),(1,1,(.t 12)),(2,1,(.t 13)),(3,1,(.t 14)),(4,1,(.t 15)),(5,1,(.t 16)),(6,1,(.t 17)),(7,1,(.t 18))]),jw 5 (.alloc 257 12 [.map none,.map none,.map none,.map none,.map none,.map none,.map none,.map none,.slice none 0 0,.slice none 0 0,.slice none 0 0,.slice none 0 0]),js 12 5 19] [2,3,4,5] (jo [jf 20 0 2,jl 21 20,jy 22 67 [21],jf 23 8 5,jf 24 2 23,js 1 24 22] [3,4,5] (.seq (jo [jl 25 3,jw 26 (.jR false 3 1 2 [.int .i64 0,.int .i64 0] [(0,1,(.c (.int .i64 1))),(1,1,(.c (.int .i64 3)))]),jy 27 130 [25,26]] [3,4,5,27] (.block 0 (.rL (.t 27) [28] (.ops [jw 6 (.alloc 164 38 vj),js 38 6 28] [3,4,5,6]) (.block 1 (.seq (jo [jf 29 4 6,jl 30 29,ju .eql 31 30 3] [3,4,5,6,31] (.cond (.t 31) (.seq (.draw [jf 32 6 5,jl 33 32,jk 34 38 6,jy 35 131 [34],jf 36 28 6,jk 37 5 36] [⟨none,.pR 2 (.t 33) (.t 35) (.t 37),none⟩] [3,4,5]) (.exit 1)) .skip)) (.seq (.draw [jf 38 1 5,jl 39 38,jk 40 38 6,jy 41 131 [40],jk 42 38 6] [⟨none,.pR 2 (.t 39) (.t 41) (.t 42),none⟩] [3,4,5,6]) (.draw [jf 43 2 5,jl 44 43,jk 45 38 6,jy 46 131 [45],jf 47 5 6,jl 48 47,jf 49 6 6,jl 50 49,jw 51 (.build [.pointer none,.int .i64 0,.int .i64 0] [(1,1,(.t 48)),(2,1,(.t 50))])] [⟨none,.pR 2 (.t 44) (.t 46) (.t 51),none⟩] [3,4,5]))))))) (jo [jw 52 (.j5 (.func 132) [] [(.t 3)]),jm 7 52] [3,4,5,7] (jo [jm 53 7,jw 54 (.j5 (.func 133) [(.t 5)] []),jw 55 (.jR false 3 1 1 [.int .i64 0] [(0,1,(.c (.int .i64 5)))]),jw 56 (.call (.t 53) [(.t 54),(.t 55)])] [3,4,5,7] (jo [jm 57 7,jw 58 (.j5 (.func 134) [(.t 5)] []),jw 59 (.jR false 3 1 1 [.int .i64 0] [(0,1,(.c (.int .i64 2)))]),jw 60 (.call (.t 57) [(.t 58),(.t 59)])] [3,4,5,7] (jo [jm 61 7,jw 62 (.j5 (.func 135) [(.t 5)] []),jw 63 (.jR false 3 1 1 [.int .i64 0] [(0,1,(.c (.int .i64 6)))]),jw 64 (.call (.t 61) [(.t 62),(.t 63)])] [3,4,5,7] (jo [jm 65 7,jw 66 (.j5 (.func 136) [(.t 5)] []),jw 67 (.jR false 3 1 1 [.int .i64 0] [(0,1,(.c (.int .i64 1)))]),jw 68 (.call (.t 65) [(.t 66),(.t 67)])] [3,4,5,7] (jo [jm 69 7,jw 70 (.j5 (.func 137) [(.t 5)] []),jw 71 (.jR false 3 1 1 [.int .i64 0] [(0,1,(.c (.int .i64 4)))]),jw 72 (.call (.t 69) [(.t 70),(.t 71)])] [3,4,5,7] (jo [jm 73 7,jw 74 (.j5 (.func 138) [] [(.t 5)]),jw 75 (.jR false 3 1 1 [.int .i64 0] [(0,1,(.c (.int .i64 3)))]),jw 76 (.call (.t 73) [(.t 74),(.t 75)])] [3,4,5] (.seq (jo [jl 77 3,je 78 77,jc 79 0] [4,5,77,78,79] (.block 2 (.loop (jo [jt .lss 80 79 78] [4,5,77,78,79,80] (.seq (.cond (.t 80) .skip (.exit 2)) (.seq (.block 3 (jo [ji 81 38 77 79,jk 82 38 81,jw 9 (.alloc 164 38 vj),js 38 9 82] [4,5,9,77,78,79] (.seq (jo [jf 83 4 9,jl 84 83,ju .eql 85 84 7] [4,5,9,77,78,79,85] (.cond (.t 85) (.ops [jk 86 38 9,jy 87 139 [5,86]] [4,5,9,77,78,79]) .skip)) (.seq (.draw [jf 88 7 5,jl 89 88,jk 90 38 9,jy 91 131 [90],jw 92 (.look 2 false [.bool false] false (.t 89) (.t 91))] [] [4,5,9,77,78,79,92]) (.cond (.t 92) (.draw [jf 93 8 5,jf 94 3 93,jl 95 94,jk 96 38 9,jy 97 131 [96],jw 98 (.jR false 50 2 1 [.int .i64 0,.int .i64 0] [(0,2,(.t 97))])] [jw 99 (.app 50 2 16 (.t 95) (.t 98)),jf 100 8 5,jf 101 3 100,js 1 101 99] [4,5,77,78,79]) .skip))))) (.ops [ju .add 102 79 1,jm 79 102] [4,5,77,78,79]))))))) (jo [jf 103 8 5,jk 104 4 103,js 4 4 104] [4] .ret))))))))))))) [.c 4 (some 4)] Tryz.call64 Tryz.func64 ?_
 have hb:=EU l hl
 obtain⟨al,Cd⟩:∃al,al=mI l:=⟨_,rfl⟩
 rw[<-Cd]at hb
 iterate 3
  ((first|refine vn rfl ?_|simp(disch:=omega) only[cB,aj]|refine bo (fun _=>?_) fun _=>?_|refine im fun _=>?_|((repeat refine si ?_);(first|((first|refine .inl ⟨_,_,_,_,rfl,fun _=>pu hb,?_⟩|refine⟨_,_,_,_,rfl,fun _=>pu hb,?_⟩);(first|refine o1 ?_|refine o4 ?_))|refine .inl ⟨_,_,_,_,rfl,pu hb,?_⟩))|refine cF ?_|refine om ?_|refine an ?_|fail)<;>try simp only[zN,zT,zV,zS,zU,dC,ex,bu,bN,elems,cells,scalar,dH,bL,aX,aU,bJ,bI,Nat.reduceBEq,reduceAdd,reduceSub,reduceLT,reduceLeDiff,reduceMul,reduceEqDiff,reduceIte])
 refine aR.lH 66 24 (f:=8) (i:=0) (e:=0) (j:=8) rfl (by simp) rfl ?_
 refine aR.lH 71 5 (f:=8) (i:=0) (e:=0) (j:=9) rfl (by simp) rfl ?_
 refine aR.lH 50 2 (f:=8) (i:=0) (e:=0) (j:=11) rfl (by simp) rfl ?_
 refine aR.Rq 50 2 l.length ?_
 refine aR.pQ (σ':=[dX,Ba [],Ba [],Ba [],Ba [],Ba [],Ba [],Ba [],some [⟨257,12,[[qG al,.mp 1,.mp 2,.mp 3,.mp 4,.mp 5,.mp 6,.mp 7,.own 9 0 0,.own 10 0 0,.v (.slice none 0 0),.own 11 0 0]],none⟩],
  some [⟨66,24,[],none⟩],some [⟨71,5,[],none⟩],some [⟨50,2,[],none⟩],some (FW l.length [])]) rfl ?_
 obtain⟨MF,hMF⟩:∃MF,MF=FW l.length []:=⟨_,rfl⟩
 rw[<-hMF]
 ((refine Au ?_;repeat' constructor)<;>intros<;>refine aP ?_)
 refine .inr (.inl ⟨_,_,_,_,rfl,fun _=>⟨ny b.dh cn hh _,?_⟩,fun h=>by cases h⟩)
 rintro r σ' ⟨ν,rfl,rfl⟩
 refine aH ?_
 simp only[zN,zT,zV,zS,zU,dC,ex,bu,bN,elems,cells,scalar,dH,bL,aX,aU,bJ,bI,Nat.reduceBEq,reduceAdd,reduceSub,reduceLT,reduceLeDiff,reduceMul,reduceEqDiff,reduceIte,aF]
 have h2:=sX l hl we hn [1,3] (l9 [1,3]) (.inl rfl)
 have lR:=zM l we [1,3] (by simp) (l9 [1,3]) (.inl rfl)
 ((refine Ay @h2 ?_;repeat' constructor)<;>intros<;>refine aP ?_)
 refine aR.pQ (σ':=nu l.length (qG al) (K0 b) []++ν) (by rw[hMF];rfl) ?_
 generalize hS:fg l [1,3]=S at lR
 refine aR.rL (fun y:{y:Fs//True}=>nu l.length (qG al) y.1 []++ν) (14+List.length ν) (fun _=>by simp[nu];omega) (fun i y=>y.1=(S.take i).foldl mm (K0 b)) (fun _ _=>False) (wg S) ⟨K0 b,trivial⟩
  rfl rfl rfl lR (fun k args h=>?_) (fun i y args ll ρ τ hk hy=>?_) (fun y τ hy=>?_) (fun _ _ _ h=>h.elim)
 ·obtain⟨a,_,rfl⟩:=u6 h
  rfl
 ·obtain⟨y,_⟩:=y
  simp only at hy
  subst hy
  obtain⟨a,hs,rfl⟩:=u6 hk
  have vZ:(S.take (i+1)).foldl mm (K0 b)=mm ((S.take i).foldl mm (K0 b)) a:=by
   rw[ba,hs];simp
  simp only[par]
  generalize hY:(S.take i).foldl mm (K0 b)=Y at vZ
  obtain⟨C,hC⟩:∃C,C=nu l.length (qG al) Y []++ν:=⟨_,rfl⟩
  have hlC:List.length C=List.length ν+14:=by rw[hC];simp[nu]
  simp only[<-hC]
  ((refine Au ?_;repeat' constructor)<;>intros<;>refine aP ?_)
  refine⟨⟨Y,trivial⟩,[some [⟨164,38,[a.cs],none⟩]],by simp[hC],fun ox=>?_⟩
  have hT:∀(x0 x1 x2 x3 x4 x5 x6 x7 x8 x9 FX FY FZ F2:Option (List Ob)) (u:Ob),aG.at (x0::x1::x2::x3::x4::x5::x6::x7::x8::x9::FX::FY::FZ::F2::(ν++ox::(τ++[some [u]]))) (List.length C+(List.length τ+1)) 0=some u:=fun x0 x1 x2 x3 x4 x5 x6 x7 x8 x9 FX FY FZ F2 u=>by
   have e:(x0::x1::x2::x3::x4::x5::x6::x7::x8::x9::FX::FY::FZ::F2::(ν++ox::(τ++[some [u]])):aG)=(x0::x1::x2::x3::x4::x5::x6::x7::x8::x9::FX::FY::FZ::F2::(ν++ox::τ))++[some [u]]:=by simp
   rw[e,hlC,show List.length ν+14+(List.length τ+1)=(x0::x1::x2::x3::x4::x5::x6::x7::x8::x9::FX::FY::FZ::F2::(ν++ox::τ)).length by simp;omega,dV];rfl
  have hm6:=jA Ou a.nm a.read Y.reads
  have Gr:=jA tJ a.nm a Y.aS
  have OY:=jA Qf a.nm (a.fB,a.week) Y.filed
  simp only[Nm.ky]at hm6 Gr OY
  simp only[nu,aW,aD,aK]
  by_cases qp:a.kind=3
  ·have hB:mm Y a={Y with reads:=gX Y.reads a.nm a.read}:=by unfold mm;rw[if_pos qp]
   rw[hB]at vZ
   ((refine Az (aa @hT (aa @qp @hm6)) (cY a) ?_;repeat' constructor)<;>intros<;>refine aP ?_)
   refine⟨⟨_,trivial⟩,[],?_,vZ.symm⟩
   simp
  ·have hB:mm Y a={Y with aS:=gX Y.aS a.nm a,filed:=gX Y.filed a.nm (a.fB,a.week)}:=by unfold mm;rw[if_neg qp]
   rw[hB]at vZ
   ((refine Az (aa @hT (aa @Gr @OY)) (cY a) ?_;repeat' constructor)<;>intros<;>refine aP ?_)
   refine⟨⟨_,trivial⟩,[],?_,vZ.symm⟩
   simp
 ·obtain⟨y,_⟩:=y
  simp only at hy
  subst hy
  have JK:(wg S).length=S.length:=by simp[wg]
  simp only[JK,aI]
  rw[<-hS]
  clear lR h2 hb
  have hlen:∀ks:List Int,(fg l ks).length<=l.length:=zb l
  have kF:∀(ks:List Int) (i:Nat) (a:Nt),(fg l ks)[i]?=some a->i<l.length/\a∈l/\(ks=[]\/a.kind∈ks):=fun ks i a h=>
   ⟨cr (ai.1 h).1 (hlen ks),zQ (ao h)⟩
  obtain⟨x1,Qj⟩:∃x1,x1=(fg l [1,3]).foldl mm (K0 b):=⟨_,rfl⟩
  have k1:kp x1=kp (K0 b):=by rw[Qj];exact lW kp B4 _ _
  obtain⟨x2,Ql⟩:∃x2,x2=(fg l [5]).foldl (rk al) x1:=⟨_,rfl⟩
  have k2:kp x2=kp (K0 b):=by rw[Ql,<-k1];exact lW kp (Ft al) _ _
  obtain⟨m2,r2,q2,s2⟩:=kT k2
  obtain⟨x3,Qm⟩:∃x3,x3=(fg l [2]).foldl (lJ al) x2:=⟨_,rfl⟩
  have k3:rH x3/\x3.rs=[]/\x3.rr=[]/\x3.st=b.dh:=by
   rw[Qm]
   refine l5 (fun x=>rH x/\x.rs=[]/\x.rr=[]/\x.st=b.dh) _ _ (fun x a _ h=>?_) ⟨fun m L h=>(by rw[m2]at h;cases h),r2,q2,s2⟩
   obtain⟨g1,_,g2,g3,g4⟩:=u9 al x a h.1
   exact⟨g1,g2.trans h.2.1,g3.trans h.2.2.1,g4.trans h.2.2.2⟩
  obtain⟨x4,UR⟩:∃x4,x4=(fg l [6]).foldl (gY al) x3:=⟨_,rfl⟩
  have k4:kp x4=kp x3:=by rw[UR];exact lW kp (xf al) _ _
  obtain⟨m4,r4,q4,s4⟩:=kT k4
  obtain⟨x5,T_⟩:∃x5,x5=(fg l [1]).foldl (mo al) x4:=⟨_,rfl⟩
  have k5:x5.rr=[]/\x5.st=b.dh:=by
   rw[T_]
   refine l5 (fun x=>x.rr=[]/\x.st=b.dh) _ _ (fun x a _ h=>⟨(nR al x a).2.2.1.trans h.1,(nR al x a).2.2.2.trans h.2⟩) ⟨q4.trans k3.2.2.1,s4.trans k3.2.2.2⟩
  obtain⟨x6,US⟩:∃x6,x6=(fg l [4]).foldl (nt al) x5:=⟨_,rfl⟩
  have k6:x6.rr=[]:=by
   rw[US]
   refine l5 (fun x=>x.rr=[]) _ _ (fun x a _ h=>(B5 al x a).trans h) k5.1
  obtain⟨x7,UT⟩:∃x7,x7=(fg l [3]).foldl qk x6:=⟨_,rfl⟩
  have c5:=fun ν=>nQ l hl we hn 5 133 [.ptr 8 0 1 0 0] [] (rk al) (fun _ _=>True) l.length (qG al) [] (fun i a x ν _ _=>Kj _ al x [] a ν) (fun _ _ _ _ _=>trivial) x1 trivial ν
  have c2:=fun ν=>nQ l hl we hn 2 134 [.ptr 8 0 1 0 0] [] (lJ al) (fun i x=>x.marks.length<=i/\rH x) l.length (qG al) []
   (fun i a x ν hg hq=>Km _ al x [] a (Nat.lt_of_le_of_lt hq.1 (kF _ _ _ hg).1) ν) (fun i a x hg hq=>⟨bT (u9 al x a hq.2).2.1 (by have:=hq.1;omega),(u9 al x a hq.2).1⟩) x2 ⟨by rw[m2];exact ar _,fun m L h=>(by rw[m2]at h;cases h)⟩ ν
  have c6:=fun ν=>nQ l hl we hn 6 135 [.ptr 8 0 1 0 0] [] (gY al) (fun _ _=>True) l.length (qG al) [] (fun i a x ν _ _=>DI _ al x [] a ν) (fun _ _ _ _ _=>trivial) x3 trivial ν
  have c1:=fun ν=>nQ l hl we hn 1 136 [.ptr 8 0 1 0 0] [] (mo al) (fun i x=>x.rs.length<=i/\rH x) l.length (qG al) []
   (fun i a x ν hg hq=>HA _ al x [] a (by have:=(kF _ _ _ hg).1;have:=hq.1;omega) (T2 a (kF _ _ _ hg).2.1 (by simpa using(kF _ _ _ hg).2.2)) (by
    cases hk:eM x.marks a.nm with
    |none=>simp
    |some L=>exact hq.2 _ _ hk) ν)
   (fun i a x hg hq=>⟨bT (nR al x a).2.1 (by have:=hq.1;omega),fun m L h=>hq.2 m L (by rw[<-(nR al x a).1];exact h)⟩) x4 ⟨by rw[r4,k3.2.1];exact ar _,fun m L h=>k3.1 m L (by rw[<-m4];exact h)⟩ ν
  have c4:=fun ν=>nQ l hl we hn 4 137 [.ptr 8 0 1 0 0] [] (nt al) (fun _ x=>pO b.dh x.st) l.length (qG al) [] (fun i a x ν hg hq=>HF _ al x [] a hq.ok (by
   rw[hq.of hb0];exact hp a (kF _ _ _ hg).2.1 (by simpa using(kF _ _ _ hg).2.2)) ν) (fun i a x _ hq=>hq.raise al a) x5 (by rw[k5.2];exact⟨hb0,rfl⟩) ν
  have c3:=fun ν=>nQ l hl we hn 3 138 [] [.ptr 8 0 1 0 0] qk (fun i x=>x.rr.length<=i) l.length (qG al) []
   (fun i a x ν hg hq=>HB _ al x [] a (by have:=(kF _ _ _ hg).1;omega) ν) (fun i a x hg hq=>by have:=(Fu x a).2.2.1;omega) x6 (by rw[k6];exact ar _) ν
  rw[<-Ql]at c5
  rw[<-Qm]at c2
  rw[<-UR]at c6
  rw[<-T_]at c1
  rw[<-US]at c4
  rw[<-UT]at c3
  rw[<-Qj]
  have Eu:oV b l=⟨(l.foldl (k_ al) (x7,[])).1.rs,(l.foldl (k_ al) (x7,[])).1.rr,(l.foldl (k_ al) (x7,[])).1.st,(l.foldl (k_ al) (x7,[])).2⟩:=by
   rw[UT,US,T_,UR,Qm,Ql,Qj,Cd];rfl
  rw[Eu]
  rw[aW]
  generalize hW:ν++τ=W
  ((refine Au ?_;repeat' constructor)<;>intros<;>refine aP ?_)
  refine .inr (.inl ⟨_,_,_,_,rfl,fun _=>⟨c5 W,?_⟩,fun h=>by cases h⟩)
  rintro r σ' ⟨μ1,rfl⟩
  refine aH ?_
  ((refine Au ?_;repeat' constructor)<;>intros<;>refine aP ?_)
  refine .inr (.inl ⟨_,_,_,_,rfl,fun _=>⟨c2 _,?_⟩,fun h=>by cases h⟩)
  rintro r σ' ⟨μ2,rfl⟩
  refine aH ?_
  ((refine Au ?_;repeat' constructor)<;>intros<;>refine aP ?_)
  refine .inr (.inl ⟨_,_,_,_,rfl,fun _=>⟨c6 _,?_⟩,fun h=>by cases h⟩)
  rintro r σ' ⟨μ3,rfl⟩
  refine aH ?_
  ((refine Au ?_;repeat' constructor)<;>intros<;>refine aP ?_)
  refine .inr (.inl ⟨_,_,_,_,rfl,fun _=>⟨c1 _,?_⟩,fun h=>by cases h⟩)
  rintro r σ' ⟨μ4,rfl⟩
  refine aH ?_
  ((refine Au ?_;repeat' constructor)<;>intros<;>refine aP ?_)
  refine .inr (.inl ⟨_,_,_,_,rfl,fun _=>⟨c4 _,?_⟩,fun h=>by cases h⟩)
  rintro r σ' ⟨μ5,rfl⟩
  refine aH ?_
  ((refine Au ?_;repeat' constructor)<;>intros<;>refine aP ?_)
  refine .inr (.inl ⟨_,_,_,_,rfl,fun _=>⟨c3 _,?_⟩,fun h=>by cases h⟩)
  rintro r σ' ⟨μ6,rfl⟩
  refine aH ?_
  ((refine Au ?_;repeat' constructor)<;>intros<;>refine aP ?_)
  have Sq:∀i,((l.take i).foldl (k_ al) (x7,[])).2.length<=400:=fun i=>by
   have h5:=(wy al (l.take i) (x7,[])).1
   have h6:(l.take i).length<=l.length:=by rw[bH];omega
   simp only[bM]at h5
   omega
  refine aR.mT (α:={p:Nat×aG//p.1<=l.length}) [79] (fun p=>[(79,n p.1.1)])
   (fun p=>nu l.length (qG al) ((l.take p.1.1).foldl (k_ al) (x7,[])).1 ((l.take p.1.1).foldl (k_ al) (x7,[])).2++p.1.2) (fun p=>l.length-p.1.1) ⟨(0,W++(μ1++(μ2++(μ3++(μ4++(μ5++μ6)))))),by simp⟩ ?_ rfl ?_
  ·(simp only[zN,zT,zV,zS,zU,dC,ex,bu,bN,elems,cells,scalar,dH,bL,aX,aU,bJ,bI,Nat.reduceBEq,reduceAdd,reduceSub,reduceLT,reduceLeDiff,reduceMul,reduceEqDiff,reduceIte];try simp)
  ·rintro⟨⟨i,μ⟩,hi⟩
   simp only at hi
   by_cases bP:i<l.length
   ·have hs:(l.map Nt.cs).getD i []=Nt.cs (l.getD i Ib):=row Ib bP
    have vZ:(l.take (i+1)).foldl (k_ al) (x7,[])=k_ al ((l.take i).foldl (k_ al) (x7,[])) (l.getD i Ib):=by
     rw[ba,fh Ib bP];simp
    have hq4:=Sq i
    generalize l.getD i Ib=a at hs vZ
    generalize hY:(l.take i).foldl (k_ al) (x7,[])=Y at vZ hq4
    obtain⟨f,o⟩:=Y
    simp only at hq4
    simp only[hY]
    by_cases sH:a.kind=7
    ·have hw:aU false (bl false) (jD (jQ bl (fw al f a).ig) [a.dP,a.num])=bl ((eM (fw al f a).ig a.nm).getD false):=by
      rw[show jD (jQ bl (fw al f a).ig) [a.dP,a.num]=_ from ij bl a.nm (fw al f a).ig]
      cases eM (fw al f a).ig a.nm<;>rfl
     have hL:k_ al (f,o) a=(fw al f a,if(eM (fw al f a).ig a.nm).getD false then o++[a.nm]else o):=by unfold k_;simp only[sH,if_true]
     rw[hL]at vZ
     have hc:=fun μ=>mK l.length al f o a μ
     generalize fw al f a=g at hw vZ hc
     generalize(eM g.ig a.nm).getD false=c at hw vZ
     simp only[aU,cond_false]at hw
     simp only[nu,aD,aK]
     ((refine Ax (aa @hs @sH) ?_;repeat' constructor)<;>intros<;>refine aP ?_)
     refine .inr (.inl ⟨_,_,_,_,rfl,fun _=>⟨hc _,?_⟩,fun h=>by cases h⟩)
     rintro r σ' ⟨gz,rfl⟩
     refine aH ?_
     simp only[nu,List.append_eq,aW,aD,aK]
     simp only[zN,zT,zV,zS,zU,dC,ex,bu,bN,elems,cells,scalar,dH,bL,aX,aU,bJ,bI,Nat.reduceBEq,reduceAdd,reduceSub,reduceLT,reduceLeDiff,reduceMul,reduceEqDiff,reduceIte]
     cases c with
     |true=>
      ((refine Az @hw (cY a) ?_;repeat' constructor)<;>intros<;>refine aP ?_)
      refine⟨⟨(i+1,μ++some [⟨164,38,[a.cs],none⟩]::gz),bP⟩,by simp,?_,by simp only;omega⟩
      simp only[vZ]
      simp
     |false=>
      ((refine Az @hw (cY a) ?_;repeat' constructor)<;>intros<;>refine aP ?_)
      refine⟨⟨(i+1,μ++some [⟨164,38,[a.cs],none⟩]::gz),bP⟩,by simp,?_,by simp only;omega⟩
      simp only[vZ]
      simp
    ·have hw:aU false (bl false) (jD (jQ bl f.ig) [a.dP,a.num])=bl ((eM f.ig a.nm).getD false):=by
      rw[show jD (jQ bl f.ig) [a.dP,a.num]=_ from ij bl a.nm f.ig]
      cases eM f.ig a.nm<;>rfl
     have hL:k_ al (f,o) a=(f,if(eM f.ig a.nm).getD false then o++[a.nm]else o):=by unfold k_;simp only[sH,if_false]
     rw[hL]at vZ
     generalize(eM f.ig a.nm).getD false=c at hw vZ
     simp only[aU,cond_false]at hw
     simp only[nu,aD,aK]
     cases c with
     |true=>
      ((refine Az (aa @hs @hw) (cY a) ?_;repeat' constructor)<;>intros<;>refine aP ?_)
      refine⟨⟨(i+1,μ++some [⟨164,38,[a.cs],none⟩]::[]),bP⟩,by simp,?_,by simp only;omega⟩
      simp only[vZ]
      simp
     |false=>
      ((refine Az (aa @hs @hw) (cY a) ?_;repeat' constructor)<;>intros<;>refine aP ?_)
      refine⟨⟨(i+1,μ++some [⟨164,38,[a.cs],none⟩]::[]),bP⟩,by simp,?_,by simp only;omega⟩
      simp only[vZ]
      simp
   ·obtain rfl:i=l.length:=by omega
    rw[aI]
    generalize hY:l.foldl (k_ al) (x7,[])=Y
    obtain⟨f,o⟩:=Y
    simp only[nu,aD,aK]
    ((refine Au ?_;repeat' constructor)<;>intros<;>refine aP ?_)
    refine bO.mX ⟨?_,?_,?_,?_,trivial⟩
    ·exact bO.gZ (T:=66) rfl rfl (by decide) (fun a=>dm.pc a) (fun a=>rfl)
    ·exact bO.gZ (T:=71) rfl rfl (by decide) (fun a c hc=>by simp at hc;rcases hc with rfl|rfl|rfl|rfl|rfl<;>simp) (fun a=>rfl)
    ·exact bO.gZ (T:=118) rfl rfl (by decide) (fun a c hc=>by simp at hc;rcases hc with rfl|rfl|rfl|rfl<;>simp) (fun a=>rfl)
    ·exact bO.gZ (T:=50) rfl rfl (by decide) (fun a c hc=>by simp at hc;rcases hc with rfl|rfl<;>simp) (fun a=>rfl)
theorem Qn(b:l8)(l m:List Nt)(hl:pK l)(he:(pg b l).1=0)(hm:m.Sublist l):Pure Tryz.prog 64 [.agg b.cs,Ad m] (.agg (oV b m).cs):=by
 obtain⟨h1,h2,h3,_⟩:=C6 he
 obtain⟨g1,g2⟩:=tL h1.1
 refine KA b m ⟨Nat.lt_of_le_of_lt hm.length_le hl.1,fun a ha=>hl.2 a (hm.subset ha)⟩ (bT hm.length_le h2) ((GO he).sublist (hm.map _)) (by omega) (fun s hs=>by have:=g2 s hs;omega) (fun a ha hk=>?_) h1.1 (fun a ha hk=>?_)
 ·obtain⟨k1,k2,k3,k4⟩:=NH (h3 a (hm.subset ha)) hk
  exact⟨by omega,by omega,by omega,by omega⟩
 ·have g:=(h3 a (hm.subset ha)).2.2.2.2
  unfold Nt.AP at g
  rw[if_neg (by omega),if_neg (by omega),if_neg (by omega),if_pos hk]at g
  exact g.1.1
theorem KB(b:l8)(hb:mq b)(l:List Nt)(hl:pK l):Pure Tryz.prog 23 [.agg b.cs,Ad l] (.iu [.agg (sS b l).1.cs,n (sS b l).2]):=by
 refine et 18 (jo [jx 2 26 6 0,jw 4 (.alloc 36 4 [.slice none 0 0,.slice none 0 0,.slice none 0 0,.slice none 0 0]),jc 5 0] [1,2,4] (.seq (jo [jk 7 6 2,jm 8 1,jw 9 (.jR false 27 1 1 [.slice none 0 0] [(0,1,(.t 8))]),jy 10 63 [7,9],jm 6 10] [1,2,4,6] (jo [jm 11 6,ju .neq 12 11 0] [1,2,4,6,12] (.cond (.t 12) (jo [jw 13 (.build [.slice none 0 0,.slice none 0 0,.slice none 0 0,.slice none 0 0] []),jm 14 6,js 4 4 13,jm 5 14] [4,5] .ret) .skip))) (jo [jk 15 6 2,jm 16 1,jy 17 64 [15,16],js 4 4 17,jc 5 0] [4,5] .ret))) [.c 4 (some 4),.t 5] Tryz.call23 Tryz.func23 ?_
 have h1:=GK b hb [l] (by simp) (by simpa using hl)
 by_cases ha:lV b [l]=0
 ·have hE:sS b l=(oV b l,0):=by unfold sS;rw[if_neg (by omega)]
  rw[hE]
  rw[ha]at h1
  have h2:=Qn b l l hl ((BI ha).2 l (by simp)) (List.Sublist.refl _)
  generalize oV b l=r at h2
  ((refine Ay (aa @h1 @h2) ?_;repeat' constructor)<;>intros<;>refine aP ?_)
  exact bO.mY ⟨bO.pure (HE r),bO.pure (by simp),trivial⟩
 ·have hE:sS b l=(Jy,lV b [l]):=by unfold sS;rw[if_pos ha]
  rw[hE]
  generalize lV b [l]=e at h1 ha
  ((refine Ay @h1 ?_;repeat' constructor)<;>intros<;>refine aP ?_)
  exact bO.mY ⟨bO.mX ⟨bO.g_,bO.g_,bO.g_,bO.g_,trivial⟩,bO.pure (by simp),trivial⟩
theorem zX(x y:dm):Pure Tryz.prog 70 [.agg x.cs,.agg y.cs] (n (vR x.fB y.fB)):=by
 refine et 10 (jo [jx 2 66 24 0,jx 3 66 24 1,jc 4 0] [2,3] (jo [jf 5 2 2,jl 6 5,jf 7 2 3,jl 8 7,jy 9 41 [6,8],jm 4 9] [4] .ret)) [.t 4] Tryz.call70 Tryz.func70 ?_
 ((refine Ay (j6 x.fB y.fB) ?_;repeat' constructor)<;>intros<;>refine aP ?_)
 exact Fq
def RE(K:List dm->Prop):Prop:=∀(σ:aG) (f:Nat) (l:List dm),K l->σ.at f 0=some ⟨66,24,l.map dm.cs,none⟩->
 eY Tryz.prog 69 [.own f 0 l.length,.fn (.func 70) [] []] σ (fun _ σ'=>σ'=σ.cZ f 0 ⟨66,24,(sB l).map dm.cs,none⟩)
theorem wC(a:dm):∀l,(rl a l).Perm (a::l)
 | []=>.refl _
 |x::r=>by
  unfold rl
  split
  ·exact .refl _
  ·exact((wC a r).cons x).trans (.swap a x r)
theorem wD(l:List dm):(sB l).Perm l:=by
 have:∀(l o:List dm),(l.foldl (fun o a=>rl a o) o).Perm (l++o):=by
  intro l
  induction l with
  |nil=>exact fun o=>.refl _
  |cons a r ih=>exact fun o=>(ih _).trans (((wC a o).append_left r).trans List.perm_middle)
 have:=this l []
 rwa[bb]at this
theorem KC{K:List dm->Prop}(hK:RE K)(b:l8)(hb:mq b)(r:FU)(w:Int)(hs:K (r.aS.filter fun f=>f.week==w))(hl:r.dh.length*48<=140737488355328)(hh:∀s∈r.dh,s.cz.length*24<=140737488355328)(Dd:∀f∈r.aS,V9 f)(h1:r.aS.length<274877906944)(h2:r.reads.length<1099511627776):Pure Tryz.prog 25 [.agg b.cs,.agg r.cs,n w] (.iu [.agg (mW b r w).1.cs,n (mW b r w).2]):=by
 refine et 84 (jo [jx 3 26 6 0,jx 4 36 4 1,jw 6 (.alloc 38 9 [.slice none 0 0,.int .i64 0,.int .i64 0,.int .i64 0,.int .i64 0,.int .i64 0,.int .i64 0,.slice none 0 0,.slice none 0 0]),jc 7 0] [2,3,4,6] (.seq (jo [jk 14 6 3,jy 15 65 [14],jm 8 15] [2,3,4,6,8] (jo [jm 16 8,ju .neq 17 16 0] [2,3,4,6,8,17] (.cond (.t 17) (jo [jw 18 (.build [.slice none 0 0,.int .i64 0,.int .i64 0,.int .i64 0,.int .i64 0,.int .i64 0,.int .i64 0,.slice none 0 0,.slice none 0 0] []),jm 19 8,js 9 6 18,jm 7 19] [6,7] .ret) .skip))) (.seq (jo [jm 20 2,jw 21 (.call (.f 66) [(.t 20),(.c (.int .i64 0)),(.c (.int .i64 10000))]),jv 22 21] [2,3,4,6,22] (.cond (.t 22) (jo [jw 23 (.build [.slice none 0 0,.int .i64 0,.int .i64 0,.int .i64 0,.int .i64 0,.int .i64 0,.int .i64 0,.slice none 0 0,.slice none 0 0] []),js 9 6 23,jc 7 1] [6,7] .ret) .skip)) (jo [jk 24 6 3,jm 25 2,jw 26 (.build [.slice none 0 0,.int .i64 0,.int .i64 0,.int .i64 0,.int .i64 0,.int .i64 0,.int .i64 0,.slice none 0 0,.slice none 0 0] [(0,6,(.t 24)),(6,1,(.t 25))]),jw 9 (.alloc 38 9 [.slice none 0 0,.int .i64 0,.int .i64 0,.int .i64 0,.int .i64 0,.int .i64 0,.int .i64 0,.slice none 0 0,.slice none 0 0]),js 9 9 26] [2,4,6,9] (jo [jf 27 2 4,jl 28 27,jy 29 67 [28],jf 30 0 9,jf 31 0 30,js 1 31 29] [2,4,6,9] (.seq (jo [jf 32 0 4,jl 33 32,je 34 33,jc 35 0] [2,4,6,9,33,34,35] (.block 0 (.loop (jo [jt .lss 36 35 34] [2,4,6,9,33,34,35,36] (.seq (.cond (.t 36) .skip (.exit 0)) (.seq (.block 1 (jo [ji 37 24 33 35,jk 38 24 37,jw 11 (.alloc 66 24 z24),js 24 11 38] [2,4,6,9,11,33,34,35] (jo [jf 39 3 11,jl 40 39,jm 41 2,jt .eql 42 40 41] [2,4,6,9,11,33,34,35,42] (.cond (.t 42) (.draw [jf 43 7 9,jl 44 43,jk 45 24 11,jy 46 68 [45],jw 47 (.jR false 66 24 1 z24 [(0,24,(.t 46))])] [jw 48 (.app 66 24 288 (.t 44) (.t 47)),jf 49 7 9,js 1 49 48] [2,4,6,9,33,34,35]) .skip)))) (.ops [ju .add 50 35 1,jm 35 50] [2,4,6,9,33,34,35]))))))) (jo [jf 51 7 9,jl 52 51,jw 53 (.call (.f 69) [(.t 52),(.f 70)])] [2,4,6,9] (.seq (jo [jf 54 1 4,jl 55 54,je 56 55,jc 57 0] [2,6,9,55,56,57] (.block 2 (.loop (jo [jt .lss 58 57 56] [2,6,9,55,56,57,58] (.seq (.cond (.t 58) .skip (.exit 2)) (.seq (.block 3 (jo [ji 59 5 55 57,jk 60 5 59,jw 13 (.alloc 71 5 [.int .i64 0,.int .i64 0,.int .i64 0,.int .i64 0,.int .i64 0]),js 5 13 60] [2,6,9,13,55,56,57] (jo [jf 61 1 13,jl 62 61,jm 63 2,jt .eql 64 62 63] [2,6,9,13,55,56,57,64] (.cond (.t 64) (.ops [jf 65 8 9,jl 66 65,jk 67 5 13,jw 68 (.jR false 71 5 1 [.int .i64 0,.int .i64 0,.int .i64 0,.int .i64 0,.int .i64 0] [(0,5,(.t 67))]),jw 69 (.app 71 5 40 (.t 66) (.t 68)),jf 70 8 9,js 1 70 69] [2,6,9,55,56,57]) .skip)))) (.ops [ju .add 71 57 1,jm 57 71] [2,6,9,55,56,57]))))))) (.seq (jo [jf 72 7 9,jl 73 72,je 74 73,ju .gtr 75 74 64,jm 76 75,jd 76 (jf 77 8 9),jd 76 (jl 78 77),jd 76 (je 79 78),jd 76 (ju .gtr 80 79 64),jq 81 76 80] [6,9,81] (.cond (.t 81) (jo [jw 82 (.build [.slice none 0 0,.int .i64 0,.int .i64 0,.int .i64 0,.int .i64 0,.int .i64 0,.int .i64 0,.slice none 0 0,.slice none 0 0] []),js 9 6 82,jc 7 2] [6,7] .ret) .skip)) (jo [jk 83 9 9,js 9 6 83,jc 7 0] [6,7] .ret)))))))))) [.c 6 (some 9),.t 7] Tryz.call25 Tryz.func25 ?_
 have Es:=oi b hb
 by_cases KD:b.ok
 ·rw[if_pos KD]at Es
  by_cases hw:inr w 0 10000
  ·simp only[inr]at hw
   iterate 9
    ((first|refine vn rfl ?_|simp(disch:=omega) only[cB,aj]|refine bo (fun _=>?_) fun _=>?_|refine im fun _=>?_|((repeat refine si ?_);(first|((first|refine .inl ⟨_,_,_,_,rfl,fun _=>pu (by first|exact Es|exact e8 w 0 10000),?_⟩|refine⟨_,_,_,_,rfl,fun _=>pu (by first|exact Es|exact e8 w 0 10000),?_⟩);(first|refine o1 ?_|refine o4 ?_))|refine .inl ⟨_,_,_,_,rfl,pu (by first|exact Es|exact e8 w 0 10000),?_⟩))|refine cF ?_|refine om ?_|refine an ?_|fail)<;>try simp only[zN,zT,zV,zS,zU,dC,ex,bu,bN,elems,cells,scalar,dH,bL,aX,aU,bJ,bI,Nat.reduceBEq,reduceAdd,reduceSub,reduceLT,reduceLeDiff,reduceMul,reduceEqDiff,reduceIte])
   ((first|refine vn rfl ?_|simp(disch:=omega) only[cB,aj]|refine bo (fun _=>?_) fun _=>?_|refine im fun _=>?_|((repeat refine si ?_);(first|((first|refine .inl ⟨_,_,_,_,rfl,fun _=>pu (by first|exact Es|exact e8 w 0 10000),?_⟩|refine⟨_,_,_,_,rfl,fun _=>pu (by first|exact Es|exact e8 w 0 10000),?_⟩);(first|refine o1 ?_|refine o4 ?_))|refine .inl ⟨_,_,_,_,rfl,pu (by first|exact Es|exact e8 w 0 10000),?_⟩))|refine cF ?_|refine om ?_|refine an ?_|fail)<;>try simp only[zN,zT,zV,zS,zU,dC,ex,bu,bN,elems,cells,scalar,dH,bL,aX,aU,bJ,bI,Nat.reduceBEq,reduceAdd,reduceSub,reduceLT,reduceLeDiff,reduceMul,reduceEqDiff,reduceIte])
   all_goals try(exfalso;omega)
   iterate 2
    ((first|refine vn rfl ?_|simp(disch:=omega) only[cB,aj]|refine bo (fun _=>?_) fun _=>?_|refine im fun _=>?_|((repeat refine si ?_);(first|((first|refine .inl ⟨_,_,_,_,rfl,fun _=>pu (by first|exact Es|exact e8 w 0 10000),?_⟩|refine⟨_,_,_,_,rfl,fun _=>pu (by first|exact Es|exact e8 w 0 10000),?_⟩);(first|refine o1 ?_|refine o4 ?_))|refine .inl ⟨_,_,_,_,rfl,pu (by first|exact Es|exact e8 w 0 10000),?_⟩))|refine cF ?_|refine om ?_|refine an ?_|fail)<;>try simp only[zN,zT,zV,zS,zU,dC,ex,bu,bN,elems,cells,scalar,dH,bL,aX,aU,bJ,bI,Nat.reduceBEq,reduceAdd,reduceSub,reduceLT,reduceLeDiff,reduceMul,reduceEqDiff,reduceIte])
   refine aR.lH 66 24 (f:=1) (i:=0) (e:=0) (j:=7) rfl (by simp) rfl ?_
   refine aR.lH 71 5 (f:=1) (i:=0) (e:=0) (j:=8) rfl (by simp) rfl ?_
   refine aR.pQ (σ':=[some [⟨38,9,[[.v (.slice none 0 0),n 0,n 0,n 0,n 0,n 0,n 0,.v (.slice none 0 0),.v (.slice none 0 0)]],none⟩],some [⟨38,9,[[KY b.dh,n b.fixed,n b.each,n b.term,n b.bD,n b.tF,n w,.own 2 0 0,.own 3 0 0]],none⟩],some [⟨66,24,[],none⟩],some [⟨71,5,[],none⟩]]) rfl ?_
   ((refine Au ?_;repeat' constructor)<;>intros<;>refine aP ?_)
   refine .inr (.inl ⟨_,_,_,_,rfl,fun _=>⟨ny r.dh hl hh _,?_⟩,fun h=>by cases h⟩)
   rintro r1 lN ⟨ν,rfl,rfl⟩
   refine aH ?_
   simp only[zN,zT,zV,zS,zU,dC,ex,bu,bN,elems,cells,scalar,dH,bL,aX,aU,bJ,bI,Nat.reduceBEq,reduceAdd,reduceSub,reduceLT,reduceLeDiff,reduceMul,reduceEqDiff,reduceIte,aF]
   ((refine Au ?_;repeat' constructor)<;>intros<;>refine aP ?_)
   refine aR.mT (α:={x:Nat×List dm×aG//x.1<=r.aS.length/\x.2.1=(r.aS.take x.1).filter fun f=>f.week==w}) [35] (fun x=>[(35,n x.1.1)])
    (fun x=>some [⟨38,9,[[.v (.slice none 0 0),n 0,n 0,n 0,n 0,n 0,n 0,.v (.slice none 0 0),.v (.slice none 0 0)]],none⟩]::some [⟨38,9,[[.own 4 0 r.dh.length,n b.fixed,n b.each,n b.term,n b.bD,n b.tF,n w,.own 2 0 x.1.2.1.length,.own 3 0 0]],none⟩]::some [⟨66,24,x.1.2.1.map dm.cs,none⟩]::some [⟨71,5,[],none⟩]::some [⟨118,4,r.dh.map j3.cs,none⟩]::x.1.2.2)
    (fun x=>r.aS.length-x.1.1) ⟨(0,[],ν),aQ _,rfl⟩ ?_ rfl ?_
   ·(simp only[zN,zT,zV,zS,zU,dC,ex,bu,bN,elems,cells,scalar,dH,bL,aX,aU,bJ,bI,Nat.reduceBEq,reduceAdd,reduceSub,reduceLT,reduceLeDiff,reduceMul,reduceEqDiff,reduceIte];try simp)
   ·rintro⟨⟨i,S,μ⟩,hi,hS⟩
    simp only at hi hS
    obtain⟨d,hd⟩:∃d:dm,True:=⟨⟨Ct,0,0,Jx,[],[]⟩,trivial⟩
    have tQ:S.length<=r.aS.length:=by rw[hS];exact bT (bK _ _) (by rw[bH];omega)
    by_cases bP:i<r.aS.length
    ·generalize hM:S.map dm.cs=M
     have A_:M.length=S.length:=by rw[<-hM,aF]
     have hx:(r.aS.map dm.cs).getD i []=dm.cs (r.aS.getD i d):=row d bP
     have hN:=o5 (q:=fun f:dm=>f.week==w) (fh d bP)
     rw[<-hS]at hN
     have Yn:=vY (r.aS.getD i d) (Dd _ (ao (fh d bP)))
     generalize r.aS.getD i d=x at hx hN Yn
     by_cases Ow:x.week=w
     ·rw[show(x.week==w)=true by simp[Ow],if_pos rfl]at hN
      ((refine Az (aa @hx (aa @A_ @Ow)) @Yn ?_;repeat' constructor)<;>intros<;>refine aP ?_)
      refine⟨⟨(i+1,S++[x],μ++[some [⟨66,24,[x.cs],none⟩]]),bP,hN.symm⟩,by simp,?_,by simp only;omega⟩
      simp[<-hM]
     ·rw[show(x.week==w)=false by simp[Ow],if_neg (by decide)]at hN
      ((refine Az (aa @hx (aa @A_ @Ow)) @Yn ?_;repeat' constructor)<;>intros<;>refine aP ?_)
      refine⟨⟨(i+1,S,μ++[some [⟨66,24,[x.cs],none⟩]]),bP,hN.symm⟩,by simp,?_,by simp only;omega⟩
      simp[<-hM]
    ·obtain rfl:i=r.aS.length:=by omega
     rw[aI]at hS
     ((refine Au ?_;repeat' constructor)<;>intros<;>refine aP ?_)
     refine .inr (.inl ⟨_,_,_,_,rfl,fun _=>⟨hK _ 2 S (by rw[hS];exact hs) rfl,?_⟩,fun h=>by cases h⟩)
     rintro r1 lN rfl
     refine aH ?_
     have V':(sB S).length=S.length:=(wD S).length_eq
     simp only[zN,zT,zV,zS,zU,dC,ex,bu,bN,elems,cells,scalar,dH,bL,aX,aU,bJ,bI,Nat.reduceBEq,reduceAdd,reduceSub,reduceLT,reduceLeDiff,reduceMul,reduceEqDiff,reduceIte]
     generalize hT:sB S=T at V'
     rw[<-V']
     rw[<-V']at tQ
     ((refine Au ?_;repeat' constructor)<;>intros<;>refine aP ?_)
     refine aR.mT (α:={x:Nat×List Rd×aG//x.1<=r.reads.length/\x.2.1=(r.reads.take x.1).filter fun f=>f.week==w}) [57] (fun x=>[(57,n x.1.1)])
      (fun x=>some [⟨38,9,[[.v (.slice none 0 0),n 0,n 0,n 0,n 0,n 0,n 0,.v (.slice none 0 0),.v (.slice none 0 0)]],none⟩]::some [⟨38,9,[[.own 4 0 r.dh.length,n b.fixed,n b.each,n b.term,n b.bD,n b.tF,n w,.own 2 0 T.length,.own 3 0 x.1.2.1.length]],none⟩]::some [⟨66,24,T.map dm.cs,none⟩]::some [⟨71,5,x.1.2.1.map Rd.cs,none⟩]::some [⟨118,4,r.dh.map j3.cs,none⟩]::x.1.2.2)
      (fun x=>r.reads.length-x.1.1) ⟨(0,[],μ),aQ _,rfl⟩ ?_ rfl ?_
     ·(simp only[zN,zT,zV,zS,zU,dC,ex,bu,bN,elems,cells,scalar,dH,bL,aX,aU,bJ,bI,Nat.reduceBEq,reduceAdd,reduceSub,reduceLT,reduceLeDiff,reduceMul,reduceEqDiff,reduceIte];try simp)
     ·rintro⟨⟨i,R,μ⟩,hi,hR⟩
      simp only at hi hR
      have PX:R.length<=r.reads.length:=by rw[hR];exact bT (bK _ _) (by rw[bH];omega)
      by_cases bP:i<r.reads.length
      ·generalize hM:R.map Rd.cs=M
       have A_:M.length=R.length:=by rw[<-hM,aF]
       have hx:(r.reads.map Rd.cs).getD i []=Rd.cs (r.reads.getD i KZ):=row KZ bP
       have hN:=o5 (q:=fun f:Rd=>f.week==w) (fh KZ bP)
       rw[<-hR]at hN
       generalize r.reads.getD i KZ=x at hx hN
       by_cases Ow:x.week=w
       ·rw[show(x.week==w)=true by simp[Ow],if_pos rfl]at hN
        ((refine Ax (aa @hx (aa @A_ @Ow)) ?_;repeat' constructor)<;>intros<;>refine aP ?_)
        refine⟨⟨(i+1,R++[x],μ++[some [⟨71,5,[x.cs],none⟩]]),bP,hN.symm⟩,by simp,?_,by simp only;omega⟩
        simp[<-hM,Ow]
       ·rw[show(x.week==w)=false by simp[Ow],if_neg (by decide)]at hN
        ((refine Ax (aa @hx (aa @A_ @Ow)) ?_;repeat' constructor)<;>intros<;>refine aP ?_)
        refine⟨⟨(i+1,R,μ++[some [⟨71,5,[x.cs],none⟩]]),bP,hN.symm⟩,by simp,?_,by simp only;omega⟩
        simp[<-hM]
      ·obtain rfl:i=r.reads.length:=by omega
       rw[aI]at hR
       have ur:pI b r w=⟨{b with dh:=r.dh},w,T,R⟩:=by unfold pI;rw[hR,<-hT,hS]
       by_cases K_:64<T.length\/64<R.length
       ·have hE:mW b r w=(Pd,2):=by unfold mW;rw[if_neg (fun h=>h KD),if_neg (fun h=>h hw),ur];exact if_pos K_
        rw[hE]
        ((refine Au ?_;repeat' constructor)<;>intros<;>refine aP ?_)
        all_goals exact bO.mY ⟨bO.mX ⟨bO.g_,bO.pure (by simp),bO.pure (by simp),bO.pure (by simp),bO.pure (by simp),bO.pure (by simp),bO.pure (by simp),bO.g_,bO.g_,trivial⟩,bO.pure (by simp),trivial⟩
       ·have hE:mW b r w=(pI b r w,0):=by unfold mW;rw[if_neg (fun h=>h KD),if_neg (fun h=>h hw),ur];exact if_neg K_
        rw[hE,ur]
        ((refine Au ?_;repeat' constructor)<;>intros<;>refine aP ?_)
        all_goals exact bO.mY ⟨bO.mX ⟨bO.gZ (T:=118) (cs:=j3.cs) rfl rfl (by decide) NL (fun a=>rfl),bO.pure (by simp),bO.pure (by simp),bO.pure (by simp),bO.pure (by simp),bO.pure (by simp),bO.pure (by simp),bO.gZ (T:=66) (cs:=dm.cs) rfl rfl (by decide) (fun a=>dm.pc a) (fun a=>rfl),bO.gZ (T:=71) (cs:=Rd.cs) rfl rfl (by decide) RD (fun a=>rfl),trivial⟩,bO.pure (by simp),trivial⟩
  ·have hE:mW b r w=(Pd,1):=by unfold mW;rw[if_neg (fun h=>h KD),if_pos hw]
   rw[hE]
   simp only[inr]at hw
   ((refine Ay (aa @Es (e8 w 0 10000)) ?_;repeat' constructor)<;>intros<;>refine aP ?_)
   all_goals exact bO.mY ⟨bO.mX ⟨bO.g_,bO.pure (by simp),bO.pure (by simp),bO.pure (by simp),bO.pure (by simp),bO.pure (by simp),bO.pure (by simp),bO.g_,bO.g_,trivial⟩,bO.pure (by simp),trivial⟩
 ·rw[if_neg KD]at Es
  have hE:mW b r w=(Pd,100):=by unfold mW;rw[if_pos KD]
  rw[hE]
  ((refine Ay @Es ?_;repeat' constructor)<;>intros<;>refine aP ?_)
  all_goals exact bO.mY ⟨bO.mX ⟨bO.g_,bO.pure (by simp),bO.pure (by simp),bO.pure (by simp),bO.pure (by simp),bO.pure (by simp),bO.pure (by simp),bO.g_,bO.g_,trivial⟩,bO.pure (by simp),trivial⟩
abbrev UU(l:List dm):Ob:=⟨66,24,l.map dm.cs,none⟩
abbrev wkC:AV:=.fn (.func 70) [] []
def UW:dm:=⟨Ct,0,0,Jx,[],[]⟩
theorem Xf(W:List dm)(i j:Nat)(v:dm):List.drop 24 (((W.map dm.cs).set i v.cs).getD j [])=[]:=by
 have:((W.map dm.cs).set i v.cs)=(W.set i v).map dm.cs:=by rw[fU]
 rw[this,ab,aV]
 cases(W.set i v)[j]?<;>rfl
theorem NM{a b:Int}:vR a b<0↔a<b:=by unfold vR;repeat' split<;>omega
def HG(l:List dm):Prop:=l.Pairwise fun a b=>a.fB<=b.fB
theorem Fx{a:dm}:∀{l:List dm},HG l->HG (rl a l)
 | [],_=>by simp[rl,HG]
 |x::r,h=>by
  unfold rl
  have h2:=ct.1 h
  split
  ·rename_i hx
   refine ct.2 ⟨fun y hy=>?_,h⟩
   rcases aC.1 hy with rfl|hy
   ·omega
   ·have:=h2.1 y hy;omega
  ·rename_i hx
   refine ct.2 ⟨fun y hy=>?_,Fx h2.2⟩
   rcases aC.1 ((wC a r).mem_iff.1 hy)with rfl|hy
   ·omega
   ·exact h2.1 y hy
theorem DP{x:dm}:∀{S:List dm} {j:Nat},j<=S.length->(∀t,t<j->(S.getD t UW).fB<=x.fB)->(j<S.length->x.fB<(S.getD j UW).fB)->rl x S=S.take j++x::S.drop j
 | [],j,h,_,_=>by simp[rl]
 |y::r,0,_,_,h=>by
  have:=h (by simp)
  unfold rl
  rw[if_pos (by simpa using this)];rfl
 |y::r,j+1,h,h1,h2=>by
  have:=h1 0 (by omega)
  unfold rl
  rw[if_neg (by simp at this;omega),DP (j:=j) (by simpa using h) (fun t ht=>by simpa using h1 (t+1) (by omega)) (fun hj=>by simpa using h2 (by simpa using hj))]
  rfl
theorem aax{σ:aG}{f i:Nat}{a b o:Ob}(h:σ.at f i=some o):(σ.cZ f i a).cZ f i b=σ.cZ f i b:=by
 unfold aG.at at h
 unfold aG.cZ
 split at h
 ·rename_i F hF
  have bP:=(ai.1 hF).1
  simp[hF,bP]
 ·cases h
def B6(S R:List dm)(x:dm)(j:Nat):List dm:=(S.take j++x::S.drop j)++R
theorem Qo{S R:List dm}{x:dm}{j:Nat}:(B6 S R x j).length=S.length+1+R.length:=by
 unfold B6;simp;omega
theorem KE{S R:List dm}{x v:dm}{j:Nat}(h:S[j]?=some v):∃A D:List dm,A.length=j/\S=A++v::D/\B6 S R x (j+1)=A++v::x::(D++R)/\B6 S R x j=A++x::v::(D++R):=by
 obtain⟨hj,rfl⟩:=ai.1 h
 refine⟨S.take j,S.drop (j+1),by simp;omega,by rw[List.getElem_cons_drop,e_],?_,?_⟩
 ·unfold B6;simp only[ba,h,Option.toList_some,aW,aD,aK]
 ·unfold B6;rw[<-List.getElem_cons_drop hj];simp only[aW,aD]
theorem NN{S R:List dm}{x:dm}{j:Nat}(h:j<=S.length):(B6 S R x j)[j]?=some x:=by
 unfold B6
 rw[aW,bE (by simp;omega)]
 simp[Nat.min_eq_left h]
theorem KF{l:List dm}{i:Nat}{x:dm}(h:l[i]?=some x):sB (l.take (i+1))=rl x (sB (l.take i)):=by
 unfold sB;rw[ba,h,eO];rfl
theorem NO(l:List dm):HG (sB l):=by
 have:∀(l o:List dm),HG o->HG (l.foldl (fun o a=>rl a o) o):=fun l=>by
  induction l with
  |nil=>exact fun o h=>h
  |cons a r ih=>exact fun o h=>ih _ (Fx h)
 exact this l [] .nil
theorem HH(σ:aG)(f N:Nat)(l:List dm)(hf:σ.at f 0=some (UU l))(hn:l.length=N)(hl:N<1000):eY Tryz.prog 205 [.own f 0 N,n 0,n N,wkC] σ (fun _ σ'=>σ'=σ.cZ f 0 (UU (sB l))):=by
 refine qY 53 (jo [jm 10 1,ju .add 11 10 1,jm 8 11] [0,1,2,3,8] (.block 0 (.loop (.seq (jo [jm 12 8,jm 13 2,jt .lss 14 12 13] [0,1,2,3,8,14] (.cond (.t 14) .skip (.exit 0))) (.seq (.block 1 (jo [jm 17 8,jm 9 17] [0,1,2,3,8,9] (.block 2 (.loop (.seq (.seq (.draw [jm 18 9,jm 19 1,jt .gtr 20 18 19,jm 21 20,ja 21 (jm 22 3),ja 21 (jm 23 0),ja 21 (jm 24 9),ja 21 (ji 25 24 23 24),ja 21 (jk 26 24 25),ja 21 (jm 27 0),ja 21 (jm 28 9),ja 21 (ju .sub 29 28 1),ja 21 (ji 30 24 27 29),ja 21 (jk 31 24 30)] [⟨some 32,.call (.t 22) [(.t 26),(.t 31)],some (21,true)⟩,ja 21 (ju .lss 33 32 0),jp 34 21 33] [0,1,2,3,8,9,34]) (.cond (.t 34) .skip (.exit 2))) (.seq (.block 3 (.jC [0,1,2,3,4,5,6,7,8,9,10,11,12,13,14,15,16,17] [2,3,4] 1 [jm 37 0,jm 38 9,jm 39 0,jm 40 9,ju .sub 41 40 1,jm 42 0,jm 43 9,ju .sub 44 43 1,ji 45 24 42 44,jk 46 24 45,jm 47 0,jm 48 9,ji 49 24 47 48,jk 50 24 49,ji 51 24 37 38] [js 24 51 46,ji 52 24 39 41,js 24 52 50] [0,1,2,3,8,9])) (.ops [jm 35 9,ju .sub 36 35 1,jm 9 36] [0,1,2,3,8,9]))))))) (.ops [jm 15 8,ju .add 16 15 1,jm 8 16] [0,1,2,3,8])))))) [] Tryz.call205 Tryz.func205 ?_
 by_cases h0:N=0
 ·have:l=[]:=List.eq_nil_of_length_eq_zero (by omega)
  subst this
  rw[show sB []=[]from rfl,j8 hf]
  subst h0
  ((refine Au ?_;repeat' constructor)<;>intros<;>refine aP ?_)
  refine aR.ls (α:=Unit) [8] (fun _=>[(8,n 1)]) (fun _=>0) () ?_
  ·rintro⟨⟩
   ((refine Au ?_;repeat' constructor)<;>intros<;>refine aP ?_)
   all_goals first|(exfalso;omega)|rfl|contradiction
 have hC:∀o,aG.at (σ.cZ f 0 o) f 0=some o:=fun o=>cu hf
 have hD:∀o o',(σ.cZ f 0 o).cZ f 0 o'=σ.cZ f 0 o':=fun o o'=>aax hf
 obtain⟨W,hW⟩:∃W:Nat->List dm,∀i,W i=sB (l.take i)++l.drop i:=⟨_,fun _=>rfl⟩
 have hW1:W 1=l:=by
  rw[hW]
  cases l with
  |nil=>rfl
  |cons a r=>rfl
 have hWN:W N=sB l:=by rw[hW,<-hn];simp
 rw[<-hWN]
 ((refine Au ?_;repeat' constructor)<;>intros<;>refine aP ?_)
 refine aR.le (α:={i:Nat//1<=i/\i<=N}) [8] (fun i=>[(8,n i.1)]) (fun i=>σ.cZ f 0 (UU (W i.1))) (fun i=>N-i.1) ⟨1,ar _,by omega⟩ (by simp only;rw[hW1,j8 hf]) ?_
 rintro⟨i,hi,hib⟩
 by_cases bP:i<N
 ·obtain⟨x,hx⟩:∃x,l[i]?=some x:=⟨_,ae (by omega)⟩
  obtain⟨S,hS⟩:∃S,S=sB (l.take i):=⟨_,rfl⟩
  obtain⟨R,hR⟩:∃R,R=l.drop (i+1):=⟨_,rfl⟩
  have tQ:S.length=i:=by rw[hS,(wD _).length_eq];simp;omega
  have hSo:HG S:=hS▸NO _
  have PX:R.length=N-i-1:=by rw[hR];simp;omega
  have hWi:W i=B6 S R x i:=by
   obtain⟨h',rfl⟩:=ai.1 hx
   rw[hW,<-hS,<-List.getElem_cons_drop h',<-hR]
   unfold B6
   rw[cD (by omega),List.drop_of_length_le (by omega)];simp
  have hWn:W (i+1)=rl x S++R:=by rw[hW,KF hx,<-hS,<-hR]
  simp only[hWi]
  clear hS hR hWi hW1 hWN
  ((refine Au ?_;repeat' constructor)<;>intros<;>refine aP ?_)
  refine aR.lr (α:={j:Nat//j<=i/\∀t,j<=t->t<i->x.fB<(S.getD t UW).fB}) [9] (fun j=>[(9,n j.1)]) (fun j=>σ.cZ f 0 (UU (B6 S R x j.1))) (fun j=>j.1) ⟨i,ar _,fun t k1 k2=>by omega⟩ ?_
  rintro⟨j,Z9,hI⟩
  have YC:(B6 S R x j).length=N:=by rw[Qo];omega
  have r1:((B6 S R x j).map dm.cs).getD j []=dm.cs x:=getD_map (NN (by omega))
  cases j with
  |zero=>
   have hF:rl x S++R=B6 S R x 0:=by rw[DP (j:=0) (aQ _) (fun t h=>absurd h (aN t)) (fun h=>hI 0 (ar _) (by omega))];rfl
   have hw:=zX x x
   have r2:((B6 S R x 0).map dm.cs).getD ((0:Int)-1).toNat []=dm.cs x:=r1
   (repeat' ((first|refine vn rfl ?_|simp(disch:=omega) only[cB,aj]|refine bo (fun _=>?_) fun _=>?_|refine im fun _=>?_|((repeat refine si ?_);(first|((first|refine .inl ⟨_,_,_,_,rfl,fun _=>pu hw,?_⟩|refine⟨_,_,_,_,rfl,fun _=>pu hw,?_⟩);(first|refine o1 ?_|refine o4 ?_))|refine .inl ⟨_,_,_,_,rfl,pu hw,?_⟩))|refine cF ?_|refine om ?_|refine an ?_|fail)<;>try simp only[zN,zT,zV,zS,zU,dC,ex,bu,bN,elems,cells,scalar,dH,bL,aX,aU,bJ,bI,Nat.reduceBEq,reduceAdd,reduceSub,reduceLT,reduceLeDiff,reduceMul,reduceEqDiff,reduceIte,hC,hD,YC,r1,r2,aF,cK]))
   all_goals try(exfalso;omega)
   exact⟨⟨i+1,by omega,by omega⟩,by simp,by rw[hWn,hF],by simp only;omega⟩
  |succ j=>
   obtain⟨v,hv⟩:∃v,S[j]?=some v:=⟨_,ae (by omega)⟩
   obtain⟨A,D,hA,hSe,YK,vp⟩:=KE (R:=R) (x:=x) hv
   have r2:((B6 S R x (j+1)).map dm.cs).getD (((j+1:Nat):Int)-1).toNat []=dm.cs v:=by
    rw[show(((j+1:Nat):Int)-1).toNat=j by omega]
    refine getD_map ?_
    rw[YK,bE (by omega),hA];simp
   have hw:=zX x v
   have hSg:S.getD j UW=v:=by rw[ab,hv];rfl
   by_cases hc:x.fB<v.fB
   ·have hs:=NM.2 hc
    have e3:(((B6 S R x (j+1)).map dm.cs).set (j+1) v.cs).set (((j+1:Nat):Int)-1).toNat x.cs=(B6 S R x j).map dm.cs:=by
     rw[show(((j+1:Nat):Int)-1).toNat=j by omega,<-fU,<-fU,YK,vp,<-hA]
     simp
    have e4:List.drop 24 ((((B6 S R x (j+1)).map dm.cs).set (j+1) v.cs).getD (((j+1:Nat):Int)-1).toNat [])=[]:=Xf _ _ _ _
    have hI':∀t,j<=t->t<i->x.fB<(S.getD t UW).fB:=fun t k1 k2=>by
     rcases(show t=j\/j+1<=t by omega)with rfl|k3
     ·rw[hSg];exact hc
     ·exact hI t k3 k2
    clear YK vp hA hSe
    (repeat' ((first|refine vn rfl ?_|simp(disch:=omega) only[cB,aj]|refine bo (fun _=>?_) fun _=>?_|refine im fun _=>?_|((repeat refine si ?_);(first|((first|refine .inl ⟨_,_,_,_,rfl,fun _=>pu hw,?_⟩|refine⟨_,_,_,_,rfl,fun _=>pu hw,?_⟩);(first|refine o1 ?_|refine o4 ?_))|refine .inl ⟨_,_,_,_,rfl,pu hw,?_⟩))|refine cF ?_|refine om ?_|refine an ?_|fail)<;>try simp only[zN,zT,zV,zS,zU,dC,ex,bu,bN,elems,cells,scalar,dH,bL,aX,aU,bJ,bI,Nat.reduceBEq,reduceAdd,reduceSub,reduceLT,reduceLeDiff,reduceMul,reduceEqDiff,reduceIte,hC,hD,YC,r1,r2,e4,aF,cK]))
    all_goals try(exfalso;omega)
    exact⟨⟨j,by omega,hI'⟩,by simp,by rw[e3],by simp only;omega⟩
   ·have hs:¬vR x.fB v.fB<0:=fun h=>hc (NM.1 h)
    have hF:rl x S++R=B6 S R x (j+1):=by
     rw[DP (j:=j+1) (by omega) (fun t ht=>?_) (fun h=>hI (j+1) (ar _) (by omega))];rfl
     have hm:(S.getD t UW).fB<=v.fB:=by
      rw[ab,ae (show t<S.length by omega)]
      by_cases e:t=j
      ·subst e;rw[ae (show t<S.length by omega)]at hv;rw[<-Option.some.inj hv];exact eZ _
      ·have:=(de.1 hSo) t j (by omega) (by omega) (by omega)
       rw[ae (show j<S.length by omega)]at hv
       rw[<-Option.some.inj hv];exact this
     omega
    clear YK vp hA hSe
    (repeat' ((first|refine vn rfl ?_|simp(disch:=omega) only[cB,aj]|refine bo (fun _=>?_) fun _=>?_|refine im fun _=>?_|((repeat refine si ?_);(first|((first|refine .inl ⟨_,_,_,_,rfl,fun _=>pu hw,?_⟩|refine⟨_,_,_,_,rfl,fun _=>pu hw,?_⟩);(first|refine o1 ?_|refine o4 ?_))|refine .inl ⟨_,_,_,_,rfl,pu hw,?_⟩))|refine cF ?_|refine om ?_|refine an ?_|fail)<;>try simp only[zN,zT,zV,zS,zU,dC,ex,bu,bN,elems,cells,scalar,dH,bL,aX,aU,bJ,bI,Nat.reduceBEq,reduceAdd,reduceSub,reduceLT,reduceLeDiff,reduceMul,reduceEqDiff,reduceIte,hC,hD,YC,r1,r2,aF,cK]))
    all_goals try(exfalso;omega)
    exact⟨⟨i+1,by omega,by omega⟩,by simp,by rw[hWn,hF],by simp only;omega⟩
 ·obtain rfl:i=N:=by omega
  ((refine Au ?_;repeat' constructor)<;>intros<;>refine aP ?_)
theorem Qp(σ:aG)(f N:Nat)(l:List dm)(hf:σ.at f 0=some (UU l))(hn:l.length=N)(hl:N<20):eY Tryz.prog 145 [.own f 0 N,n N,wkC] σ (fun _ σ'=>σ'=σ.cZ f 0 (UU (sB l))):=by
 refine qY 63 (jo [jc 6 20] [0,1,2,6] (jo [jm 10 6,jc 7 0,jm 8 10] [0,1,2,6,7,8] (.seq (.block 0 (.loop (.seq (jo [jm 11 8,jm 12 1,jt .leq 13 11 12] [0,1,2,6,7,8,13] (.cond (.t 13) .skip (.exit 0))) (.block 1 (jo [jm 14 0,jm 15 7,jm 16 8,jm 17 2,jy 18 205 [14,15,16,17]] [0,1,2,6,8] (jo [jm 19 8,jm 7 19] [0,1,2,6,7,8] (.ops [jm 20 8,jm 21 6,jt .add 22 20 21,jm 8 22] [0,1,2,6,7,8]))))))) (jo [jm 23 0,jm 24 7,jm 25 1,jm 26 2,jy 27 205 [23,24,25,26]] [0,1,2,6] (.block 2 (.loop (.seq (jo [jm 28 6,jm 29 1,jt .lss 30 28 29] [0,1,2,6,30] (.cond (.t 30) .skip (.exit 2))) (.block 3 (jo [jm 31 6,jw 32 (.bin .mul (.c (.int .i64 2)) (.t 31)),jc 7 0,jm 8 32] [0,1,2,6,7,8] (.seq (.block 4 (.loop (.seq (jo [jm 33 8,jm 34 1,jt .leq 35 33 34] [0,1,2,6,7,8,35] (.cond (.t 35) .skip (.exit 4))) (.block 5 (jo [jm 36 0,jm 37 7,jm 38 7,jm 39 6,jt .add 40 38 39,jm 41 8,jm 42 2,jy 43 206 [36,37,40,41,42]] [0,1,2,6,8] (jo [jm 44 8,jm 7 44] [0,1,2,6,7,8] (.ops [jm 45 8,jm 46 6,jw 47 (.bin .mul (.c (.int .i64 2)) (.t 46)),jt .add 48 45 47,jm 8 48] [0,1,2,6,7,8]))))))) (.seq (jo [jm 49 7,jm 50 6,jt .add 51 49 50,jm 9 51] [0,1,2,6,7,9] (jo [jm 52 9,jm 53 1,jt .lss 54 52 53] [0,1,2,6,7,9,54] (.cond (.t 54) (.ops [jm 55 0,jm 56 7,jm 57 9,jm 58 1,jm 59 2,jy 60 206 [55,56,57,58,59]] [0,1,2,6]) .skip))) (.ops [jm 61 6,ju .mul 62 61 2,jm 6 62] [0,1,2,6])))))))))))) [] Tryz.call145 Tryz.func145 ?_
 have Gr:¬(20<=(N:Int)):=by omega
 have OY:¬(20<(N:Int)):=by omega
 ((refine Au ?_;repeat' constructor)<;>intros<;>refine aP ?_)
 refine aR.ls (α:=Unit) [7,8] (fun _=>[(7,n 0),(8,n 20)]) (fun _=>0) () ?_
 ·rintro⟨⟩
  ((refine Ax @Gr ?_;repeat' constructor)<;>intros<;>refine aP ?_)
  refine .inr (.inl ⟨_,_,_,_,rfl,fun _=>⟨HH σ f N l hf hn (by omega),?_⟩,fun h=>by cases h⟩)
  rintro r σ' rfl
  refine aH ?_
  ((refine Au ?_;repeat' constructor)<;>intros<;>refine aP ?_)
  refine aR.ls (α:=Unit) [6] (fun _=>[(6,n 20)]) (fun _=>0) () ?_
  ·rintro⟨⟩
   ((refine Ax @OY ?_;repeat' constructor)<;>intros<;>refine aP ?_)
   all_goals first|(exfalso;omega)|rfl
theorem Ua:RE fun l=>l.length<20:=fun σ f l hl hf=>by
 refine qY 9 (.ops [jm 4 0,jm 5 0,je 6 5,jm 7 1,jy 8 145 [4,6,7]] []) [] Tryz.call69 Tryz.func69 ?_
 ((refine Ax @hf ?_;repeat' constructor)<;>intros<;>refine aP ?_)
 refine .inr (.inl ⟨_,_,_,_,rfl,fun _=>⟨Qp σ f _ l hf rfl hl,?_⟩,fun h=>by cases h⟩)
 rintro r σ' rfl
 refine aH ?_
 simp only[zN,zT,zV,zS,zU,dC,ex,bu,bN,elems,cells,scalar,dH,bL,aX,aU,bJ,bI,Nat.reduceBEq,reduceAdd,reduceSub,reduceLT,reduceLeDiff,reduceMul,reduceEqDiff,reduceIte]
end Go.Proofs.YtgopgjnfhkoomaaGreat
