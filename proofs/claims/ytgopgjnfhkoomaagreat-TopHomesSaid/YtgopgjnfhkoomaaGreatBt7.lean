/- Part 7 of the texts: abstract values over the walk; contracts. -/
import Derived.Test.YtgopgjnfhkoomaaGreatBt6
import Derived.Test.YtgopgjnfhkoomaaGreatRows
set_option linter.unusedVariables false
set_option linter.unusedSimpArgs false
namespace Go.Proofs.YtgopgjnfhkoomaaGreat
open Go.Abs
open Nat (reduceAdd reduceSub reduceLT reduceLeDiff reduceMul reduceEqDiff)
set_option maxHeartbeats 4000000
set_option maxRecDepth 100000
def TJ:CF:=⟨21,(jo [jx 2 59 2 0,jc 4 0,jc 5 0] [1,2] (.seq (.block 0 (jo [jk 8 2 2,jy 9 147 [8],ju .neq 10 9 0,jm 7 10] [1,2,7] (.cond (.t 7) (jo [jc 4 20,jc 5 0] [4,5] .ret) (jo [jm 12 1,je 13 12,ju .gtr 14 13 64,jm 11 14] [1,2,11] (.cond (.t 11) (jo [jc 4 2,jc 5 0] [4,5] .ret) .skip))))) (.seq (jo [jm 15 1,jw 16 (.j5 (.func 213) [] [(.t 2)]),jy 17 212 [15,16],jm 6 17] [6] (jo [jm 18 6,ju .geq 19 18 0] [6,19] (.cond (.t 19) (jo [jm 20 6,jc 4 21,jm 5 20] [4,5] .ret) .skip))) (jo [jc 4 0,jc 5 0] [4,5] .ret)))),[.t 4,.t 5]⟩
theorem WE:jP Tryz.prog Tryz.f148 TJ=true:=by kernel_rfl
theorem wc(f:Nat)(dZ:List AV)(ep:∀c∈dZ,bC c)(q:Mk->Bool)(l:List Mk)(hl:l.length<9223372036854775808)(hq:∀x∈l,Pure Tryz.prog f ([.agg (Mk.cs x)]++dZ) (bl (q x))):Pure Tryz.prog 212 [mb l,.fn (.func f) [] dZ] (n (fj q 0 l)):=by
 refine et 19 (jo [jc 4 0] [0,1] (.seq (jo [jm 6 0,je 7 6,jc 8 0] [0,1,7,8] (.block 0 (.loop (jo [jt .lss 9 8 7] [0,1,7,8,9] (.seq (.cond (.t 9) .skip (.exit 0)) (.seq (.block 1 (jo [jm 10 8,jm 5 10] [0,1,5,7,8] (jo [jm 11 1,jm 12 0,jm 13 5,ji 14 3 12 13,jk 15 3 14,jw 16 (.call (.t 11) [(.t 15)])] [0,1,5,7,8,16] (.cond (.t 16) (jo [jm 17 5,jm 4 17] [4] .ret) .skip)))) (.ops [ju .add 18 8 1,jm 8 18] [0,1,7,8]))))))) (jo [jc 4 (-1)] [4] .ret))) [.t 4] Tryz.call212 Tryz.func212 ?_
 ((refine Au ?_;repeat' constructor)<;>intros<;>refine aP ?_)
 refine aR.li 8 l.length (fun i=>fj q i (l.drop i)=fj q 0 l) (by simp) ?_
 ·intro i hi hI
  by_cases bP:i<l.length
  ·obtain⟨x,hx⟩:∃x,l[i]?=some x:=⟨_,ae bP⟩
   have hc:=hq x (ao hx)
   rw[drop_cons hx,fj]at hI
   (repeat' ((first|refine vn rfl ?_|simp(disch:=omega) only[cB,aj]|refine bo (fun _=>?_) fun _=>?_|refine im fun _=>?_|refine cF ?_|refine om ?_|refine an ?_|fail)<;>try simp only[zN,zT,zV,zS,zU,dC,ex,bu,bN,elems,cells,scalar,dH,bL,aX,aU,bJ,bI,Nat.reduceBEq,reduceAdd,reduceSub,reduceLT,reduceLeDiff,reduceMul,reduceEqDiff,reduceIte,getD_map hx]))
   all_goals try(exfalso;omega)
   refine .inl ⟨_,_,_,_,rfl,fun _=>.of ?_ (hc),?_⟩
   ·intro a ha
    simp only[aK,aD,aC]at ha
    rcases ha with rfl|ha
    ·simp
    ·exact ep a ha
   refine aH ?_
   ((refine Au ?_;repeat' constructor)<;>intros<;>refine aP ?_)
   ·rename_i h
    rw[h]at hI
    simp only[if_true]at hI
    rw[<-hI]
    exact Fq
   ·rename_i h
    rw[h]at hI
    exact⟨⟨i+1,bP,by simpa using hI⟩,by simp,by simp only;omega⟩
  ·obtain rfl:i=l.length:=by omega
   rw[c_,fj]at hI
   ((refine Au ?_;repeat' constructor)<;>intros<;>refine aP ?_)
   rw[<-hI]
   exact Fq
theorem E8(d:List Sp×List Mk)(m:Mk)(hd:d.1.length<9223372036854775808):Pure Tryz.prog 214 [.agg [ec d.1,mb d.2],.agg m.cs] (bl (decide (inr m.en 0 d.1.length/\ke m.bD 0 400))):=by
 refine et 16 (jo [jx 2 59 2 0,jx 3 68 3 1,jb 4 false] [2,3] (jo [jf 5 0 3,jl 6 5,jf 7 0 2,jl 8 7,je 9 8,jw 10 (.call (.f 124) [(.t 6),(.c (.int .i64 0)),(.t 9)]),jm 11 10,ja 11 (jf 12 1 3),ja 11 (jk 13 2 12),⟨some 14,.call (.f 209) [(.t 13),(.c (.int .i64 0)),(.c (.int .i64 400))],some (11,true)⟩,jp 15 11 14,jm 4 15] [4] .ret)) [.t 4] Tryz.call214 Tryz.func214 ?_
 have h1:=rm m.en 0 d.1.length
 have h2:=GA m.bD 0 400
 have hD:decide (inr m.en 0 d.1.length/\ke m.bD 0 400)=(decide (inr m.en 0 d.1.length)&&decide (ke m.bD 0 400)):=by rw[cV];simp
 rw[hD]
 generalize decide (inr m.en 0 d.1.length)=x1 at h1
 generalize decide (ke m.bD 0 400)=x2 at h2
 ((refine Ay (aa @h1 @h2) ?_;repeat' constructor)<;>intros<;>refine aP ?_)
 all_goals exact bO.eq (congrArg bl (by cases x1<;>cases x2<;>rfl)) (by simp)
theorem uS(d:List Sp×List Mk)(m:Mk)(hd:d.1.length<9223372036854775808):Pure Tryz.prog 213 ([.agg m.cs]++[.bZ [ec d.1,mb d.2] 0]) (bl (!decide (inr m.en 0 d.1.length/\ke m.bD 0 400))):=by
 refine et 8 (jo [jx 2 68 3 0,jb 3 false] [1,2] (jo [jk 4 2 1,jk 5 3 2,jy 6 214 [4,5],jv 7 6,jm 3 7] [3] .ret)) [.t 3] Tryz.call213 Tryz.func213 ?_
 have h1:=E8 d m hd
 generalize decide (inr m.en 0 d.1.length/\ke m.bD 0 400)=x1 at h1
 ((refine Ay @h1 ?_;repeat' constructor)<;>intros<;>refine aP ?_)
 all_goals exact Fq
theorem xH(d:List Sp×List Mk)(l:List Mk)(hd:d.1.length<9223372036854775808/\d.2.length<9223372036854775808)(hl:l.length<=64)(ok:gV d.1 d.2)(hm:∀m∈l,inr m.en 0 d.1.length/\ke m.bD 0 400):Pure Tryz.prog 148 [.agg [ec d.1,mb d.2],mb l] (.iu [n 0,n 0]):=by
 refine mu Tryz.call148 Tryz.func148 WE ?_
 unfold TJ
 have h1:=kM d.1 d.2 hd.1 hd.2
 rw[if_pos ok]at h1
 have h2:=wc 213 [.bZ [ec d.1,mb d.2] 0] (fun c hc=>by
  simp only[bp]at hc
  subst hc
  exact bC.bZ (fun c hc=>by simp at hc;rcases hc with rfl|rfl<;>simp)) (fun m=>!decide (inr m.en 0 d.1.length/\ke m.bD 0 400)) l (by omega) (fun m _=>uS d m hd.1)
 have h3:fj (fun m=>!decide (inr m.en 0 d.1.length/\ke m.bD 0 400)) 0 l<0:=by
  rw[vV,List.findIdx?_eq_none_iff]
  intro m h
  rw[decide_eq_true (hm m h)];rfl
 generalize fj (fun m=>!decide (inr m.en 0 d.1.length/\ke m.bD 0 400)) 0 l=z at h2 h3
 ((refine Ay @h1 ?_;repeat' constructor)<;>intros<;>refine aP ?_)
 refine .inl ⟨_,_,_,_,rfl,fun _=>.of ?_ h2,?_⟩
 ·intro a ha
  simp only[aK,aD,aC,bb,au,or_false]at ha
  rcases ha with rfl|rfl
  ·simp
  ·exact bC.fn (fun _ h=>absurd h (au)) (fun c hc=>by
    simp only[bp]at hc
    subst hc
    exact bC.bZ (fun c hc=>by simp at hc;rcases hc with rfl|rfl<;>simp))
 refine aH ?_
 ((refine Au ?_;repeat' constructor)<;>intros<;>refine aP ?_)
 all_goals exact Fq
end Go.Proofs.YtgopgjnfhkoomaaGreat
