/- Part 8 of the texts: abstract values over the walk; contracts. -/
import Derived.Test.YtgopgjnfhkoomaaGreatBt6
import Derived.Test.YtgopgjnfhkoomaaGreatRows
import Derived.WalkKit
import Derived.Shelf.SlSortCmp.NoneTotal
import Derived.Shelf.SlGeneric
import Derived.Shelf.SlSortCmp.WholeK
import Derived.Test.YtgopgjnfhkoomaaGreatProg
import Derived.Shelf.Spec.SlicesGrow
set_option linter.unusedVariables false
set_option linter.unusedSimpArgs false
namespace Go.Proofs.YtgopgjnfhkoomaaGreat
open Go.Abs
open Nat (reduceAdd reduceSub reduceLT reduceLeDiff reduceMul reduceEqDiff)
set_option maxHeartbeats 4000000
set_option maxRecDepth 100000
abbrev iT(l:List Sp):AV:=.sl 2 (l.map Sp.cs)
abbrev jJ(l:List Sp):Ob:=⟨52,2,l.map Sp.cs,none⟩
abbrev mZ(x:List (List Sp)):AV:=.sl 1 (x.map fun l=>[iT l])
abbrev GR(x:List (List (List Sp))):AV:=.sl 1 (x.map fun l=>[mZ l])
@[simp] theorem Rs(l:List Sp):bC (iT l):=bC.sl fun e he c hc=>by
 obtain⟨x,_,rfl⟩:=aO.1 he
 simp only[Sp.cs,aC,au,or_false]at hc
 rcases hc with rfl|rfl<;>exact bC.v _
@[simp] theorem Yg(x:List (List Sp)):bC (mZ x):=bC.sl fun e he c hc=>by
 obtain⟨x,_,rfl⟩:=aO.1 he
 simp only[aC,au,or_false]at hc
 subst hc;exact Rs x
theorem C8{σ:aG}{f i:Nat}{l:List Sp}(h:σ.at f i=some (jJ l)):bO σ (.own f i l.length) (iT l):=by
 refine bO.own (o:=jJ l) (es:=l.map Sp.cs) (show(2:Nat)≠0 by decide) h (by simp) (by simp) (fun e j he hj=>?_) fun e he=>?_
 ·obtain⟨x,hx⟩:∃x,l[e]?=some x:=⟨_,ae he⟩
  rw[getD_map hx]
  match j,hj with
  |0,_=>exact Fq
  |1,_=>exact Fq
 ·obtain⟨x,hx⟩:∃x,l[e]?=some x:=⟨_,ae he⟩
  rw[getD_map hx];rfl
theorem C9{σ:aG}{f i m:Nat}(l:List Sp)(h:σ.at f i=some (jJ l))(hm:m=l.length):bO σ (.own f i m) (iT l):=hm▸C8 h
theorem xY(l:List Sp):∀e,e<l.length->((l.map Sp.cs).getD e []).length=2:=fun e he=>by
 obtain⟨x,hx⟩:∃x,l[e]?=some x:=⟨_,ae he⟩
 rw[getD_map hx];rfl
def oj(l:List Sp):Nat->Int
 |0=>-100002
 |i+1=>match l[i]? with|some s=>s.hi|none=>0
def C_(l:List Sp)(i:Nat):Prop:=iV (l.take i)
theorem Ty(l:List Sp):C_ l 0:=⟨by simp[Norm],by simp⟩
theorem JE{a:List Sp}{u s:Sp}(h:Norm (a++[u])):Norm (a++[u]++[s])↔s.lo<=s.hi/\u.hi+1<s.lo:=by
 rw[jH]
 constructor
 ·rintro⟨_,h2,h3⟩;exact⟨h2.1,h3 u (by simp) s (by simp)⟩
 ·rintro⟨h2,h3⟩
  refine⟨h,⟨h2,fun t ht=>absurd ht (au),trivial⟩,fun w hw t ht=>?_⟩
  obtain rfl:t=s:=by simpa using ht
  rcases bm.1 hw with hw|hw
  ·have h4:=(jH.1 h).2.2 w hw u (by simp)
   have h5:=h.ne u (by simp)
   omega
  ·obtain rfl:w=u:=by simpa using hw
   exact h3
theorem JF{l:List Sp}{i:Nat}{s:Sp}(hs:l[i]?=some s)(h:C_ l i):C_ l (i+1)↔oj l i+2<=s.lo/\s.lo<=s.hi/\s.hi<=100000:=by
 unfold C_ iV at h|-
 cases i with
 |zero=>
  rw[ba,hs]
  simp only[List.take_zero,Option.toList_some,aK,oj]
  simp[Norm]
  omega
 |succ i=>
  obtain⟨u,hu⟩:∃u,l[i]?=some u:=⟨_,ae (by have:=(ai.1 hs).1;omega)⟩
  have e1:l.take (i+1)=l.take i++[u]:=by rw[ba,hu];rfl
  have e2:l.take (i+1+1)=l.take i++[u]++[s]:=by rw[ba,hs,e1];rfl
  simp only[oj,hu]
  rw[e1]at h
  rw[e2,JE h.1]
  have hub:=h.2 u (by simp)
  have aa5:=h.1.ne u (by simp)
  constructor
  ·rintro⟨h1,h2⟩
   have:=h2 s (by simp)
   omega
  ·rintro⟨h1,h2,h3⟩
   refine⟨by omega,fun w hw=>?_⟩
   rcases bm.1 hw with hw|hw
   ·exact h.2 w hw
   ·obtain rfl:w=s:=by simpa using hw
    omega
theorem JG{l:List Sp}(h:iV l)(i:Nat):C_ l i:=by
 obtain⟨h1,h2⟩:=h
 rw[<-e_ i l]at h1
 exact⟨(jH.1 h1).1,fun s hs=>h2 s (dx hs)⟩
theorem JH{l:List Sp}(h:C_ l l.length):iV l:=by
 unfold C_ at h
 rwa[aI]at h
theorem JI{l:List Sp}{i:Nat}(h:C_ l i)(hi:i<=l.length):-100002<=oj l i/\oj l i<=100000:=by
 cases i with
 |zero=>simp[oj]
 |succ i=>
  obtain⟨u,hu⟩:∃u,l[i]?=some u:=⟨_,ae (by omega)⟩
  have:=h.2 u (by rw[ba,hu];simp)
  have h2:=h.1.ne u (by rw[ba,hu];simp)
  simp only[oj,hu];omega
theorem EV{l:List Sp}{i:Nat}{s:Sp}(hs:l[i]?=some s):oj l (i+1)=s.hi:=by simp[oj,hs]
theorem GS(l:List Sp)(hl:l.length<9223372036854775808):Pure Tryz.prog 108 [iT l] (bl (tr (iV l))):=by
 refine et 32 (jo [jb 2 false] [0] (jo [jc 3 (-100002)] [0,3] (.seq (jo [jm 6 0,je 7 6,jc 8 0] [3,6,7,8] (.block 0 (.loop (jo [jt .lss 9 8 7] [3,6,7,8,9] (.seq (.cond (.t 9) .skip (.exit 0)) (.seq (.block 1 (jo [ji 10 2 6 8,jk 11 2 10,jw 5 (.alloc 52 2 [.int .i64 0,.int .i64 0]),js 2 5 11] [3,5,6,7,8] (.seq (jo [jf 12 0 5,jl 13 12,jm 14 3,ju .add 15 14 2,jt .lss 16 13 15,jm 17 16,jd 17 (jf 18 0 5),jd 17 (jl 19 18),jd 17 (jf 20 1 5),jd 17 (jl 21 20),jd 17 (jt .gtr 22 19 21),jq 23 17 22,jm 24 23,jd 24 (jf 25 1 5),jd 24 (jl 26 25),jd 24 (ju .gtr 27 26 100000),jq 28 24 27] [5,6,7,8,28] (.cond (.t 28) (jo [jb 2 false] [2] .ret) .skip)) (.ops [jf 29 1 5,jl 30 29,jm 3 30] [3,6,7,8])))) (.ops [ju .add 31 8 1,jm 8 31] [3,6,7,8]))))))) (jo [jb 2 true] [2] .ret)))) [.t 2] Tryz.call108 Tryz.func108 ?_
 ((refine Au ?_;repeat' constructor)<;>intros<;>refine aP ?_)
 refine aR.mT (α:={x:Nat×aG//x.1<=l.length/\C_ l x.1}) [3,8] (fun x=>[(3,n (oj l x.1.1)),(8,n x.1.1)]) (fun x=>x.1.2) (fun x=>l.length-x.1.1) ⟨(0,[]),by simp,Ty l⟩ ?_ rfl ?_
 ·(simp only[zN,zT,zV,zS,zU,dC,ex,bu,bN,elems,cells,scalar,dH,bL,aX,aU,bJ,bI,Nat.reduceBEq,reduceAdd,reduceSub,reduceLT,reduceLeDiff,reduceMul,reduceEqDiff,reduceIte];try simp)
  simp[oj]
 ·rintro⟨⟨i,τ⟩,hi,hb⟩
  simp only at hi hb
  have hlb:=JI hb hi
  by_cases bP:i<l.length
  ·obtain⟨s,hs⟩:∃s,l[i]?=some s:=⟨_,ae bP⟩
   have hn:=JF hs hb
   have UE:=EV hs
   (repeat' ((first|refine vn rfl ?_|simp(disch:=omega) only[cB,aj]|refine bo (fun _=>?_) fun _=>?_|refine im fun _=>?_|refine cF ?_|refine om ?_|refine an ?_|fail)<;>try simp only[zN,zT,zV,zS,zU,dC,ex,bu,bN,elems,cells,scalar,dH,bL,aX,aU,bJ,bI,Nat.reduceBEq,reduceAdd,reduceSub,reduceLT,reduceLeDiff,reduceMul,reduceEqDiff,reduceIte,getD_map hs]))
   all_goals try(exfalso;omega)
   ·rename_i h
    rw[yN (fun g=>?_)]
    ·exact Fq
    ·have:=hn.1 (JG g (i+1));omega
   ·rename_i h
    exact⟨⟨(i+1,_),bP,hn.2 (by omega)⟩,by simp[UE],rfl,by simp only;omega⟩
  ·obtain rfl:i=l.length:=by omega
   ((refine Au ?_;repeat' constructor)<;>intros<;>refine aP ?_)
   rw[tE (JH hb)]
   exact Fq
theorem iH(l:List Sp)(hl:l.length<9223372036854775808):Pure Tryz.prog 53 [iT l] (bl (tr (small l))):=by
 refine et 10 (jo [jb 2 false] [0] (jo [jm 3 0,je 4 3,ju .leq 5 4 64,jm 6 5,ja 6 (jm 7 0),ja 6 (jy 8 108 [7]),jp 9 6 8,jm 2 9] [2] .ret)) [.t 2] Tryz.call53 Tryz.func53 ?_
 ((refine Ay (GS l hl) ?_;repeat' constructor)<;>intros<;>refine aP ?_)
 all_goals exact bO.eq (congrArg bl (decide_eq_decide.2 ⟨fun h=>⟨by omega,h.2⟩,fun h=>⟨by have:=h.1;omega,h.2⟩⟩)) (by simp)
theorem AW(s:Sp):Pure Tryz.prog 300 [.agg s.cs] (bl (decide (-100000<=s.lo/\s.lo<=s.hi/\s.hi<=100000))):=by
 refine et 18 (jo [jx 1 52 2 0,jb 2 false] [1] (jo [jf 3 0 1,jl 4 3,jw 5 (.bin .leq (.c (.int .i64 (-100000))) (.t 4)),jm 6 5,ja 6 (jf 7 0 1),ja 6 (jl 8 7),ja 6 (jf 9 1 1),ja 6 (jl 10 9),ja 6 (jt .leq 11 8 10),jp 12 6 11,jm 13 12,ja 13 (jf 14 1 1),ja 13 (jl 15 14),ja 13 (ju .leq 16 15 100000),jp 17 13 16,jm 2 17] [2] .ret)) [.t 2] Tryz.call300 Tryz.func300 ?_
 ((refine Au ?_;repeat' constructor)<;>intros<;>refine aP ?_)
 all_goals exact bO.eq (congrArg bl (decide_eq_decide.2 (by omega))) (by simp)
abbrev EW(l:List Sp):List (List AV):=l.map fun s=>[.agg s.cs]
theorem Ii{l:List Sp}{i:Nat}{s:Sp}(h:l[i]?=some s):(EW l)[i]?=some [.agg s.cs]:=by simp[EW,h]
inductive fi(C:Nat)(J:Nat->aG->Prop)(D:aG->Prop)(m:Nat)(iX:aG):Prop
 |mk(τ ν:aG)(h:iX=τ++ν)(hl:τ.length=C)(hj:J m τ\/D τ)
theorem fi.out{C:Nat}{J:Nat->aG->Prop}{D:aG->Prop}{m:Nat}{iX:aG}:fi C J D m iX->∃τ ν,iX=τ++ν/\τ.length=C/\(J m τ\/D τ)
 |⟨τ,ν,h,hl,hj⟩=>⟨τ,ν,h,hl,hj⟩
theorem w5(l:List Sp)(hl:l.length<9223372036854775808):Iter Tryz.prog 180 [] [.bZ [iT l] 0] (EW l):=by
 refine⟨Tryz.call180,fun C y J D σ hy hC hJ ew=>?_⟩
 refine eY.mono (R:=fun _ iX=>fi C J D (EW l).length iX) ?_ fun _ _ h=>h.out
 refine qY 16 (jo [jl 5 1,je 6 5,jc 7 0] [0,5,6,7] (.block 0 (.loop (jo [jt .lss 8 7 6] [0,5,6,7,8] (.seq (.cond (.t 8) .skip (.exit 0)) (.seq (.block 1 (jo [ji 9 2 5 7,jk 10 2 9,jw 4 (.alloc 52 2 [.int .i64 0,.int .i64 0]),js 2 4 10] [0,4,5,6,7] (jo [jm 11 0,jk 12 2 4,jw 13 (.call (.t 11) [(.t 12)]),jv 14 13] [0,5,6,7,14] (.cond (.t 14) .ret .skip)))) (.ops [ju .add 15 7 1,jm 7 15] [0,5,6,7]))))))) [] Tryz.call180 Tryz.func180 ?_
 ((refine Au ?_;repeat' constructor)<;>intros<;>refine aP ?_)
 refine aR.lr (α:={x:Nat×aG×aG//x.1<=l.length/\x.2.1.length=C/\J x.1 x.2.1}) [7] (fun x=>[(7,n x.1.1)]) (fun x=>x.1.2.1++x.1.2.2) (fun x=>l.length-x.1.1) ⟨(0,σ,[]),by simp,hC,hJ⟩ ?_
 ·rintro⟨⟨k,τ,ν⟩,hk,pD,ze⟩
  simp only at hk pD ze
  by_cases bP:k<l.length
  ·obtain⟨s,hs⟩:∃s,l[k]?=some s:=⟨_,ae bP⟩
   (repeat' ((first|refine vn rfl ?_|simp(disch:=omega) only[cB,aj]|refine bo (fun _=>?_) fun _=>?_|refine im fun _=>?_|refine cF ?_|refine om ?_|refine an ?_|fail)<;>try simp only[zN,zT,zV,zS,zU,dC,ex,bu,bN,elems,cells,scalar,dH,bL,aX,aU,bJ,bI,Nat.reduceBEq,reduceAdd,reduceSub,reduceLT,reduceLeDiff,reduceMul,reduceEqDiff,reduceIte,getD_map hs,aW]))
   all_goals try(exfalso;omega)
   refine .inr (.inr ⟨y,_,rfl,fun _=>⟨ew k _ τ _ (Ii hs) pD ze,?_⟩,fun h=>by cases h⟩)
   rintro b σ' ⟨iv,gz,rfl,jW,hb1,hb2⟩
   refine aH ?_
   simp only[zN,zT,zV,zS,zU,dC,ex,bu,bN,elems,cells,scalar,dH,bL,aX,aU,bJ,bI,Nat.reduceBEq,reduceAdd,reduceSub,reduceLT,reduceLeDiff,reduceMul,reduceEqDiff,reduceIte]
   cases b with
   |false=>
    ((refine Au ?_;repeat' constructor)<;>intros<;>refine aP ?_)
    exact fi.mk iv _ rfl jW (.inr (hb2 rfl))
   |true=>
    ((refine Au ?_;repeat' constructor)<;>intros<;>refine aP ?_)
    exact⟨⟨(k+1,iv,_),bP,jW,hb1 rfl⟩,by simp,rfl,by simp only;omega⟩
  ·obtain rfl:k=l.length:=by omega
   ((refine Au ?_;repeat' constructor)<;>intros<;>refine aP ?_)
   exact fi.mk τ _ rfl pD (.inl (by simpa using ze))
theorem MG{a b:List Sp}(h:a=[]\/b=[]):comm a b=[]:=by
 rcases h with rfl|rfl
 ·rw[comm]
 ·cases a<;>rw[comm]
theorem JJ(s t:Sp)(a b:List Sp):comm (s::a) (t::b)=(if(s.cap t).lo<=(s.cap t).hi then [s.cap t]else [])++(if s.hi<t.hi then comm a (t::b)else comm (s::a) b):=by rw[comm]
theorem BK{α:Type}{l r:List α}{m:Nat}{x:α}(h:l.drop m=x::r):l[m]?=some x/\l.drop (m+1)=r:=by
 have h1:(l.drop m)[0]?=some x:=by rw[h];rfl
 rw[ez,eE]at h1
 refine⟨h1,?_⟩
 have:=congrArg List.tail h
 simpa using this
theorem EX(a b:List Sp)(ha:a.length<9223372036854775808)(hb:b.length<9223372036854775808):Iter Tryz.prog 305 [] [.bZ [iT a] 0,.bZ [iT b] 0] (EW (comm a b)):=by
 refine⟨Tryz.call305,fun C y J D σ hy hC hJ ew=>?_⟩
 refine eY.mono (R:=fun _ iX=>fi C J D (EW (comm a b)).length iX) ?_ fun _ _ h=>h.out
 refine qY 66 (jo [jc 4 0,jc 5 0] [0,1,2,4,5] (.block 0 (.loop (.seq (jo [jm 7 4,jl 8 1,je 9 8,jt .lss 10 7 9,jm 11 10,ja 11 (jm 12 5),ja 11 (jl 13 2),ja 11 (je 14 13),ja 11 (jt .lss 15 12 14),jp 16 11 15] [0,1,2,4,5,16] (.cond (.t 16) .skip (.exit 0))) (.block 1 (.seq (.draw [jl 17 1,jm 18 4,ji 19 2 17 18,jf 20 0 19,jl 21 20,jl 22 2,jm 23 5,ji 24 2 22 23,jf 25 0 24,jl 26 25,jw 27 (.tN true (.t 21) (.t 26)),jl 28 1,jm 29 4,ji 30 2 28 29,jf 31 1 30,jl 32 31,jl 33 2,jm 34 5,ji 35 2 33 34,jf 36 1 35,jl 37 36,jw 38 (.tN false (.t 32) (.t 37)),jw 39 (.build [.int .i64 0,.int .i64 0] [(0,1,(.t 27)),(1,1,(.t 38))]),jw 6 (.alloc 52 2 [.int .i64 0,.int .i64 0])] [js 2 6 39] [0,1,2,4,5,6]) (.seq (jo [jf 40 0 6,jl 41 40,jf 42 1 6,jl 43 42,jt .leq 44 41 43,jm 45 44,ja 45 (jm 46 0),ja 45 (jk 47 2 6),⟨some 48,.call (.t 46) [(.t 47)],some (45,true)⟩,ja 45 (jv 49 48),jp 50 45 49] [0,1,2,4,5,50] (.cond (.t 50) .ret .skip)) (.seq (.draw [jl 51 1,jm 52 4,ji 53 2 51 52,jf 54 1 53,jl 55 54,jl 56 2,jm 57 5,ji 58 2 56 57,jf 59 1 58,jl 60 59,jt .lss 61 55 60] [] [0,1,2,4,5,61]) (.cond (.t 61) (.ops [jm 62 4,ju .add 63 62 1,jm 4 63] [0,1,2,4,5]) (.ops [jm 64 5,ju .add 65 64 1,jm 5 65] [0,1,2,4,5])))))))))) [] Tryz.call305 Tryz.func305 ?_
 ((refine Au ?_;repeat' constructor)<;>intros<;>refine aP ?_)
 refine aR.mT (α:={x:Nat×Nat×Nat×aG×aG//x.1<=a.length/\x.2.1<=b.length/\(comm a b).drop x.2.2.1=comm (a.drop x.1) (b.drop x.2.1)/\x.2.2.1<=(comm a b).length/\x.2.2.2.1.length=C/\J x.2.2.1 x.2.2.2.1}) [4,5]
  (fun x=>[(4,n x.1.1),(5,n x.1.2.1)]) (fun x=>x.1.2.2.2.1++x.1.2.2.2.2) (fun x=>(a.length-x.1.1)+(b.length-x.1.2.1)) ⟨(0,0,0,σ,[]),by simp,by simp,by simp,by simp,hC,hJ⟩ ?_ ?_ ?_
 ·(simp only[zN,zT,zV,zS,zU,dC,ex,bu,bN,elems,cells,scalar,dH,bL,aX,aU,bJ,bI,Nat.reduceBEq,reduceAdd,reduceSub,reduceLT,reduceLeDiff,reduceMul,reduceEqDiff,reduceIte];try simp)
 ·simp
 ·rintro⟨⟨i,k,m,τ,ν⟩,hi,hk,hd,hm,pD,Ij⟩
  simp only at hi hk hd hm pD Ij
  by_cases bP:i<a.length/\k<b.length
  ·obtain⟨Yh,X8⟩:=bP
   obtain⟨s,hs⟩:∃s,a[i]?=some s:=⟨_,ae Yh⟩
   obtain⟨t,ht⟩:∃t,b[k]?=some t:=⟨_,ae X8⟩
   rw[drop_cons hs,drop_cons ht,JJ]at hd
   have Wa:∀m',(comm a b).drop m'=(if s.hi<t.hi then comm (a.drop (i+1)) (t::b.drop (k+1))else comm (s::a.drop (i+1)) (b.drop (k+1)))->
    (s.hi<t.hi->(comm a b).drop m'=comm (a.drop (i+1)) (b.drop k))/\(¬s.hi<t.hi->(comm a b).drop m'=comm (a.drop i) (b.drop (k+1))):=fun m' h=>
    ⟨fun hc=>by rw[h,if_pos hc,drop_cons ht],fun hc=>by rw[h,if_neg hc,drop_cons hs]⟩
   have hs1:aG.at (τ++(ν++[some [⟨52,2,[(s.cap t).cs],none⟩]])) (List.length τ+List.length ν) 0=some ⟨52,2,[(s.cap t).cs],none⟩:=by rw[dR,dV];rfl
   by_cases hc:(s.cap t).lo<=(s.cap t).hi
   ·rw[if_pos hc]at hd
    obtain⟨hx,FV⟩:=BK hd
    have hn:=Wa _ FV
    have Gr:=(ai.1 hx).1
    (repeat' ((first|refine vn rfl ?_|simp(disch:=omega) only[cB,aj]|refine bo (fun _=>?_) fun _=>?_|refine im fun _=>?_|refine cF ?_|refine om ?_|refine an ?_|fail)<;>try simp only[zN,zT,zV,zS,zU,dC,ex,bu,bN,elems,cells,scalar,dH,bL,aX,aU,bJ,bI,Nat.reduceBEq,reduceAdd,reduceSub,reduceLT,reduceLeDiff,reduceMul,reduceEqDiff,reduceIte,getD_map hs,getD_map ht,aW]))
    all_goals try(exfalso;omega)
    refine .inr (.inr ⟨y,_,rfl,fun _=>⟨ew m _ τ _ (Ii hx) pD Ij,?_⟩,fun h=>absurd hc (of_decide_eq_false h)⟩)
    rintro b σ' ⟨iv,gz,rfl,jW,hb1,hb2⟩
    refine aH ?_
    have ZQ:decide ((s.cap t).lo<=(s.cap t).hi)=true:=decide_eq_true hc
    simp only[ZQ]
    simp only[zN,zT,zV,zS,zU,dC,ex,bu,bN,elems,cells,scalar,dH,bL,aX,aU,bJ,bI,Nat.reduceBEq,reduceAdd,reduceSub,reduceLT,reduceLeDiff,reduceMul,reduceEqDiff,reduceIte]
    cases b with
    |false=>
     ((refine Au ?_;repeat' constructor)<;>intros<;>refine aP ?_)
     exact fi.mk iv _ rfl jW (.inr (hb2 rfl))
    |true=>
     (repeat' ((first|refine vn rfl ?_|simp(disch:=omega) only[cB,aj]|refine bo (fun _=>?_) fun _=>?_|refine im fun _=>?_|refine cF ?_|refine om ?_|refine an ?_|fail)<;>try simp only[zN,zT,zV,zS,zU,dC,ex,bu,bN,elems,cells,scalar,dH,bL,aX,aU,bJ,bI,Nat.reduceBEq,reduceAdd,reduceSub,reduceLT,reduceLeDiff,reduceMul,reduceEqDiff,reduceIte,getD_map hs,getD_map ht]))
     all_goals try(exfalso;omega)
     ·rename_i h9
      exact⟨⟨(i+1,k,m+1,iv,_),Yh,hk,hn.1 h9,Gr,jW,hb1 rfl⟩,by simp,rfl,by simp only;omega⟩
     ·rename_i h9
      exact⟨⟨(i,k+1,m+1,iv,_),hi,X8,hn.2 h9,Gr,jW,hb1 rfl⟩,by simp,rfl,by simp only;omega⟩
   ·rw[if_neg hc,aK]at hd
    have hn:=Wa _ hd
    (repeat' ((first|refine vn rfl ?_|simp(disch:=omega) only[cB,aj]|refine bo (fun _=>?_) fun _=>?_|refine im fun _=>?_|refine cF ?_|refine om ?_|refine an ?_|fail)<;>try simp only[zN,zT,zV,zS,zU,dC,ex,bu,bN,elems,cells,scalar,dH,bL,aX,aU,bJ,bI,Nat.reduceBEq,reduceAdd,reduceSub,reduceLT,reduceLeDiff,reduceMul,reduceEqDiff,reduceIte,getD_map hs,getD_map ht,aW]))
    all_goals try(exfalso;omega)
    refine .inr (.inr ⟨y,fun _ _=>False,rfl,fun h=>absurd (of_decide_eq_true h) hc,fun _=>?_⟩)
    refine aH ?_
    have ZQ:decide ((s.cap t).lo<=(s.cap t).hi)=false:=decide_eq_false hc
    simp only[ZQ]
    simp only[zN,zT,zV,zS,zU,dC,ex,bu,bN,elems,cells,scalar,dH,bL,aX,aU,bJ,bI,Nat.reduceBEq,reduceAdd,reduceSub,reduceLT,reduceLeDiff,reduceMul,reduceEqDiff,reduceIte]
    (repeat' ((first|refine vn rfl ?_|simp(disch:=omega) only[cB,aj]|refine bo (fun _=>?_) fun _=>?_|refine im fun _=>?_|refine cF ?_|refine om ?_|refine an ?_|fail)<;>try simp only[zN,zT,zV,zS,zU,dC,ex,bu,bN,elems,cells,scalar,dH,bL,aX,aU,bJ,bI,Nat.reduceBEq,reduceAdd,reduceSub,reduceLT,reduceLeDiff,reduceMul,reduceEqDiff,reduceIte,getD_map hs,getD_map ht]))
    all_goals try(exfalso;omega)
    ·rename_i h9
     exact⟨⟨(i+1,k,m,τ,_),Yh,hk,hn.1 h9,hm,pD,Ij⟩,by simp,rfl,by simp only;omega⟩
    ·rename_i h9
     exact⟨⟨(i,k+1,m,τ,_),hi,X8,hn.2 h9,hm,pD,Ij⟩,by simp,rfl,by simp only;omega⟩
  ·have te:comm (a.drop i) (b.drop k)=[]:=MG (by
    rcases cm i a.length with h|h
    ·exact .inr (fG (by omega))
    ·exact .inl (fG h))
   rw[te]at hd
   have:m=(comm a b).length:=by have:=List.drop_eq_nil_iff.1 hd;omega
   subst this
   by_cases Yh:i<a.length
   ·((refine Au ?_;repeat' constructor)<;>intros<;>refine aP ?_)
    exact fi.mk τ _ rfl pD (.inl (by simpa using Ij))
   ·((refine Au ?_;repeat' constructor)<;>intros<;>refine aP ?_)
    exact fi.mk τ _ rfl pD (.inl (by simpa using Ij))
theorem kQ(l:List Sp):Pure Tryz.prog 111 [iT l] (.fn (.func 180) [] [.bZ [iT l] 0]):=by
 refine et 4 (jo [jx 1 56 1 0,jw 2 (.mv (.c (.nilFunc)))] [1] (jo [jw 3 (.j5 (.func 180) [] [(.t 1)]),jm 2 3] [2] .ret)) [.t 2] Tryz.call111 Tryz.func111 ?_
 ((refine Au ?_;repeat' constructor)<;>intros<;>refine aP ?_)
 all_goals exact Fq
theorem EY(a b:List Sp):Pure Tryz.prog 265 [iT a,iT b] (.fn (.func 305) [] [.bZ [iT a] 0,.bZ [iT b] 0]):=by
 refine et 6 (jo [jx 2 56 1 0,jx 3 56 1 1,jw 4 (.mv (.c (.nilFunc)))] [2,3] (jo [jw 5 (.j5 (.func 305) [] [(.t 2),(.t 3)]),jm 4 5] [4] .ret)) [.t 4] Tryz.call265 Tryz.func265 ?_
 ((refine Au ?_;repeat' constructor)<;>intros<;>refine aP ?_)
 all_goals exact Fq
inductive Wb(σ:aG)(l:List Sp)(r:AV)(σ':aG):Prop
 |mk(ν:aG)(g:Nat)(h:σ'=σ++ν)(hr:r=.own g 0 l.length)(hg:σ.length<=g)(ho:σ'.at g 0=some (jJ l))
theorem Ik{l:List Sp}{k:Nat}{args:List AV}(h:(EW l)[k]?=some args):∃s,l[k]?=some s/\args=[.agg s.cs]:=by
 simp only[EW,aV,aL]at h
 obtain⟨s,hs,rfl⟩:=h
 exact⟨s,hs,rfl⟩
theorem ey{α:Type}{l:List α}{i:Nat}{s:α}(hs:l[i]?=some s):l.take (i+1)=l.take i++[s]:=by rw[ba,hs];rfl
theorem zf(σ:aG)(it:Nat)(cap:List AV)(l:List Sp)(hl:(l.length:Int)*16<=140737488355328)(lR:Iter Tryz.prog it [] cap (EW l)):eY Tryz.prog 237 [.v (.slice none 0 0),.fn (.func it) [] cap] σ (Wb σ l):=by
 refine qY 13 (jo [jw 2 (.box true 56 1 (.t 0)),jn 4] [1,2] (.seq (jo [jm 6 1] [2,6] (.block 0 (.rL (.t 6) [7] (.ops [jw 5 (.alloc 52 2 [.int .i64 0,.int .i64 0]),js 2 5 7] [2,5]) (.block 1 (.ops [jl 8 2,jk 9 2 5,jw 10 (.jR false 52 2 1 [.int .i64 0,.int .i64 0] [(0,2,(.t 9))]),jw 11 (.app 52 2 16 (.t 8) (.t 10)),js 1 2 11] [2]))))) (jo [jl 12 2,jm 4 12] [4] .ret))) [.t 4] Tryz.call237 Tryz.func237 ?_
 ((first|refine vn rfl ?_|simp(disch:=omega) only[cB,aj]|refine bo (fun _=>?_) fun _=>?_|refine im fun _=>?_|refine cF ?_|refine om ?_|refine an ?_|fail)<;>try simp only[zN,zT,zV,zS,zU,dC,ex,bu,bN,elems,cells,scalar,dH,bL,aX,aU,bJ,bI,Nat.reduceBEq,reduceAdd,reduceSub,reduceLT,reduceLeDiff,reduceMul,reduceEqDiff,reduceIte])
 refine aR.lH 52 2 (f:=σ.length) (i:=0) (e:=0) (j:=0) (by rw[dV];rfl) (by simp) rfl ?_
 rw[show aG.cZ (σ++[some [⟨56,1,[[.v (.slice none 0 0)]],none⟩]]++[some [⟨52,2,[],none⟩]]) σ.length 0 {(⟨56,1,[[.v (.slice none 0 0)]],none⟩:Ob)with es:=[[.v (.slice none 0 0)]].set 0 (([[.v (.slice none 0 0)]].getD 0 []).set 0 (.own (List.length (σ++[some [⟨56,1,[[.v (.slice none 0 0)]],none⟩]])) 0 0))}=σ++[some [⟨56,1,[[.own (σ.length+1) 0 0]],none⟩],some [jJ []]] by
  rw[aW,qZ];simp[aG.cZ]]
 ((refine Au ?_;repeat' constructor)<;>intros<;>refine aP ?_)
 refine aR.rL (fun k:{k:Nat//k<=l.length}=>σ++[some [⟨56,1,[[.own (σ.length+1) 0 k.1]],none⟩],some [jJ (l.take k.1)]]) (σ.length+2) (fun _=>by simp) (fun k x=>x.1=k) (fun _ _=>False) (EW l) ⟨0,aQ _⟩
  rfl (by simp) rfl lR (fun k args h=>?_) (fun k x args ll ρ τ hk hx=>?_) (fun x τ hx=>?_) (fun _ _ _ h=>h.elim)
 ·obtain⟨s,hs,rfl⟩:=Ik h
  rfl
 ·obtain⟨x,Wc⟩:=x
  simp only at hx
  subst hx
  obtain⟨s,hs,rfl⟩:=Ik hk
  have mF:=(ai.1 hs).1
  have vZ:=ey hs
  have DS:(l.take x).length=x:=by simp;omega
  have hA:∀ν:aG,aG.at (σ++(some [⟨56,1,[[.own (σ.length+1) 0 x]],none⟩]::some [jJ (l.take x)]::ν)) (σ.length+1) 0=some (jJ (l.take x)):=fun ν=>by rw[dR];rfl
  have hB:∀(o:Ob) (ν:aG),aG.cZ (σ++(some [⟨56,1,[[.own (σ.length+1) 0 x]],none⟩]::some [jJ (l.take x)]::ν)) (σ.length+1) 0 o=σ++(some [⟨56,1,[[.own (σ.length+1) 0 x]],none⟩]::some [o]::ν):=fun o ν=>by rw[fC];rfl
  have hC:∀(f:Nat) (ν:aG),aG.at (σ++(some [⟨56,1,[[.own (σ.length+1) 0 x]],none⟩]::some [jJ (l.take x)]::ν)) (σ.length+(f+2)) 0=aG.at ν f 0:=fun f ν=>by rw[dR];rfl
  simp only[par,aW,aD,aK]
  ((refine Au ?_;repeat' constructor)<;>intros<;>refine aP ?_)
  refine⟨⟨x,Wc⟩,[some [⟨52,2,[s.cs],none⟩]],by simp,fun ox=>?_⟩
  simp only[aW,aD,aK]
  ((refine Ax (aa @DS (aa @hA (aa @hB @hC))) ?_;repeat' constructor)<;>intros<;>refine aP ?_)
  refine⟨⟨x+1,mF⟩,[],?_,rfl⟩
  simp[vZ]
 ·obtain⟨x,Wc⟩:=x
  simp only at hx
  subst hx
  have JK:(EW l).length=l.length:=by simp[EW]
  simp only[JK,aI]
  ((refine Au ?_;repeat' constructor)<;>intros<;>refine aP ?_)
  exact .mk _ (σ.length+1) rfl rfl (by omega) (by rw[dR];rfl)
theorem uJ(σ:aG)(it:Nat)(cap:List AV)(l:List Sp)(hl:(l.length:Int)*16<=140737488355328)(lR:Iter Tryz.prog it [] cap (EW l)):eY Tryz.prog 179 [.fn (.func it) [] cap] σ (Wb σ l):=by
 refine qY 5 (jo [jn 2] [0] (jo [jm 3 0,jw 4 (.call (.f 237) [(.c (.slice none 0 0)),(.t 3)]),jm 2 4] [2] .ret)) [.t 2] Tryz.call179 Tryz.func179 ?_
 ((refine Au ?_;repeat' constructor)<;>intros<;>refine aP ?_)
 refine .inr (.inl ⟨_,_,_,_,rfl,fun _=>⟨zf σ it cap l hl lR,?_⟩,fun h=>by cases h⟩)
 rintro res σ' ⟨ν,g,rfl,rfl,hg,ho⟩
 refine aH ?_
 ((refine Au ?_;repeat' constructor)<;>intros<;>refine aP ?_)
 exact .mk ν g rfl rfl hg ho
theorem GU(a b:List Sp)(ha:a.length<9223372036854775808)(hb:b.length<9223372036854775808)(hl:((comm a b).length:Int)*16<=140737488355328):Pure Tryz.prog 224 [iT a,iT b] (iT (comm a b)):=by
 refine et 9 (jo [jn 4] [0,1] (jo [jm 5 0,jm 6 1,jy 7 265 [5,6],jy 8 179 [7],jm 4 8] [4] .ret)) [.t 4] Tryz.call224 Tryz.func224 ?_
 ((refine Ay (EY a b) ?_;repeat' constructor)<;>intros<;>refine aP ?_)
 refine .inr (.inl ⟨_,_,_,_,rfl,fun _=>⟨uJ [] 305 _ _ hl (EX a b ha hb),?_⟩,fun h=>by cases h⟩)
 rintro res σ' ⟨ν,g,rfl,rfl,hg,ho⟩
 refine aH ?_
 ((refine Au ?_;repeat' constructor)<;>intros<;>refine aP ?_)
 exact C8 ho
end Go.Proofs.YtgopgjnfhkoomaaGreat
namespace Go.Abs
open Go.Shelf Go.RowKit Go.Lib Go.Sort Go.Proofs
structure oD(A:Type)(k:Nat)(ok:A->List Value->Prop)where
 a:A
 c:List Value
 hk:c.length=k
 h1:∀v∈c,v.oneCell'=true
 h:ok a c
theorem AX{α:Type} [Inhabited α]{enc:α->List Value}{k:Nat}(hk:∀x,(enc x).length=k){w:World}{b n:Nat}{d d':Array α}{os:Array Obj}{c:Array Value}{T:TypeId}(hc:w.heap[b]?=some (.cells c T (0,0)))(hs:d'.size=d.size)(hH:HoldsK enc k w b 0 d):(∃c',(sortWorldK enc k w b 0 n d' os).heap[b]?=some (.cells c' T (0,0))/\c'.size=c.size/\∀i j,i<d.size->j<k->c'.getD (i*k+j) undef=((enc d'[i]!).getD j undef))/\w.heap.size<=(sortWorldK enc k w b 0 n d' os).heap.size/\(∀b',b'<w.heap.size->b'≠b->(sortWorldK enc k w b 0 n d' os).heap[b']?=w.heap[b']?)/\Still w (sortWorldK enc k w b 0 n d' os):=by
 have hb:b<w.heap.size:=(aZ.1 hc).1
 have C':∀b',(putRowK enc k (Sort.ahead w n) b 0 d').heap[b']?=if b=b' then(w.heap[b']?).map (onCells (putCells id 0 (flatK enc k d')))else w.heap[b']?:=by
  intro b'
  simp only[putRowK,putRow,mapBlock,Sort.ahead]
  rw[fR]
 refine⟨?_,by simp[sortWorldK,putRowK],fun b' h1 h2=>?_,⟨rfl,rfl,rfl,(show w.drawn<=w.drawn+n from Nat.le_add_right _ _)⟩⟩
 ·refine⟨putCells id 0 (flatK enc k d') c,?_,?_,fun i j hi hj=>?_⟩
  ·unfold sortWorldK
   rw[heap_grow_old _ _ (by simp[putRowK];exact hb),C',if_pos rfl,hc]
   rfl
  ·simp[putCells]
  ·have h1:=holdsK_putRowK (enc:=enc) (k:=k) (Sort.ahead w n) b 0 d d' (show HoldsK enc k (Sort.ahead w n) b 0 d from hH) hs
   have h2:=(h1.cell (i:=i) (c:=j) (by omega) hj).1
   unfold World.cell? at h2
   rw[C',if_pos rfl,hc]at h2
   simp only[aY,onCells,fN,bw,if_false,br]at h2
   have h3:j<(enc d'[i]!).length:=by rw[hk];exact hj
   rw[af,h2,ab,ae h3,getElem!_pos _ j h3]
 ·unfold sortWorldK
  rw[heap_grow_old _ _ (by simp[putRowK];exact h1),C',if_neg (fun e=>h2 e.symm)]
theorem PN{α:Type} [Inhabited α]{lt:α->α->Bool}{d d':Array α}(hp:PermIn 0 d.size d d')(hs:SortedIn lt 0 d.size d'):d'.size=d.size/\d'.toList.Perm d.toList/\d'.toList.Pairwise (fun a b=>lt b a=false):=by
 obtain⟨h1,_,h3⟩:=hp
 refine⟨h1,?_,?_⟩
 ·simp only[Array.toList_extract,List.extract_eq_take_drop,Nat.sub_zero,List.drop_zero]at h3
  rw[cD (by simp[h1]),cD (by simp)]at h3
  exact h3
 ·rw[de]
  intro i j hi hj OV
  simp only[dE]at hi hj
  have:=hs i j (aQ _) OV (by omega)
  rw[getElem!_pos d' i hi,getElem!_pos d' j hj]at this
  simpa only[Array.getElem_toList]using this
theorem BL{P:Program}{ρ:Ren}(L:SlLaysF0.n6 P ρ){A:Type}{k:Nat}(cs:A->List AV)(ok:A->List Value->Prop) [Inhabited (oD A k ok)](vx:∀a,(cs a).length=k)(lO:∀(w:World) X β σ a (x:List Value),x.length=k->(∀j,j<k->RV w X β σ ((cs a).getD j .any) (x.getD j undef))->ok a x)(aE:∀w,(isAgg (ρ.t 24)).run P w=.ok true w)(zE:∀w,(Go.sizeOf (ρ.t 24)).run P w=.ok k w)(g:Nat)(eg:∀args w,(callFunc g args).run P w=.ok (.enter g args) w)(cf:A->A->Int)(hO:SWO (ltOf fun x y:oD A k ok=>cf x.a y.a))(hc:∀(x y:oD A k ok) (W:World),Calls P g #[.agg x.c.toArray,.agg y.c.toArray] W fun e w'=>e=.returned (.int .i64 (cf x.a y.a))/\∃q Yi,w'=grow (W.drewN q) Yi)(ef:∀args w,(callFunc (ρ.f 6) args).run P w=.ok (.enter (ρ.f 6) args) w)(σ:aG)(f:Nat)(T:TypeId)(l:List A)(hf:σ.at f 0=some ⟨T,k,l.map cs,none⟩)(hl:l.length<4611686018427387904):eY P (ρ.f 6) [.own f 0 l.length,.fn (.func g) [] []] σ (fun _ σ'=>∃l':List A,l'.Perm l/\l'.Pairwise (fun a b=>0<=cf b a)/\σ'=σ.cZ f 0 ⟨T,k,l'.map cs,none⟩):=by
 refine⟨ef,fun X β w xs hX nv hlen hr=>?_⟩
 match xs,hlen with
 | [x,y],_=>
  have hx:=hr 0 (by simp)
  have hy:=hr 1 (by simp)
  simp only[dF,eP]at hx hy
  have hy':y=.func (.func g) #[] #[]:=by
   cases hy with
   |fn _ _ _ xs ys hn hm h h'=>
    have e1:xs=#[]:=Array.eq_empty_of_size_eq_zero (by simpa using hn)
    have e2:ys=#[]:=Array.eq_empty_of_size_eq_zero (by simpa using hm)
    rw[e1,e2]
  subst hy'
  have ic:=nv.obj f 0 _ hf
  cases hx with
  |own _ _ _ _ h1c Tz hle h=>
   have h':=h _ hf (by simp)
   unfold kD at h'
   by_cases h0:l=[]
   ·subst h0
    have TA:∃p cap,x=.slice p 0 cap:=by
     cases nf:β f 0 with
     |none=>rw[nf]at h';exact⟨none,0,h'.2⟩
     |some b=>rw[nf]at h';obtain⟨cap,_,_,rfl,_⟩:=h';exact⟨_,cap,rfl⟩
    obtain⟨p,cap,rfl⟩:=TA
    refine callsIn_wide.2 ((AnyF.slices_SortFunc_none L p cap _ w).mono ?_)
    rintro e w' ⟨rfl,rfl⟩
    exact⟨_,.any,σ,β,rfl,⟨[],.nil,.nil,(j8 hf).symm⟩,nv,.any _,Ext.refl _ _ _,Kp.refl⟩
   ·cases nf:β f 0 with
    |none=>
     rw[nf]at h'
     exact absurd (List.map_eq_nil_iff.1 h'.1) h0
    |some b=>
     rw[nf]at h' ic
     obtain⟨cap,c0,T0,rfl,hc0,JL⟩:=h'
     obtain⟨c,hc1,eX,jN,GV⟩:=ic.2.1 rfl
     rw[hc1]at hc0;injection hc0 with hc0;injection hc0 with hc0 _;subst hc0
     simp only[aF]at eX jN GV JL|-
     have UG:∀i (hi:i<l.length),(l.map cs).getD i []=cs l[i]:=fun i hi=>getD_map (ae hi)
     have cX:∀i j (hi:i<l.length) (hj:j<k),(((List.range k).map fun j=>c.getD (i*k+j) undef).getD j undef)=c.getD (i*k+j) undef:=fun i j hi hj=>by
      rw[ab,aV,cH hj];rfl
     let raw:Fin l.length->oD A k ok:=fun i=>⟨l[i.1]'i.2,(List.range k).map fun j=>c.getD (i.1*k+j) undef,by simp,fun v hv=>by
      obtain⟨j,hj,rfl⟩:=aO.1 hv
      exact jN i.1 j i.2 (bc.1 hj),lO w (Xt X β σ) β σ _ _ (by simp) fun j hj=>by
       rw[cX i.1 j i.2 hj,<-UG i.1 i.2];exact GV i.1 j i.2 hj⟩
     let d:Array (oD A k ok):=Array.ofFn raw
     have mQ:d.size=l.length:=by simp[d]
     have hdg:∀i (hi:i<l.length),d[i]! =raw ⟨i,hi⟩:=by
      intro i hi
      rw[getElem!_pos d i (by omega)]
      simp[d]
     have TB:∀x:oD A k ok,x.c.length=k:=fun x=>x.hk
     have eN:∀i j,i<l.length->j<k->c.getD (i*k+j) undef=(d[i]!.c).getD j undef:=by
      intro i j hi hj
      rw[hdg i hi]
      exact(cX i j hi hj).symm
     have hkp:l.length*k<=c.size:=eX
     have hH:HoldsK (fun x:oD A k ok=>x.c) k w b 0 d:=by
      intro t ht
      rw[size_flatK,mQ]at ht
      have Wd:0<k:=by
       rcases gB k with hk0|hk0
       ·rw[hk0,Nat.mul_zero]at ht;omega
       ·exact hk0
      have ZR:t/k*k+t % k=t:=Nat.div_add_mod' t k
      have hm:t % k<k:=Nat.mod_lt _ Wd
      have hd:t/k<l.length:=Nat.div_lt_of_lt_mul (by rw[jj];exact ht)
      have h1:=eN (t/k) (t % k) hd hm
      rw[ZR]at h1
      have h2:c[t]?=some (c.getD t undef):=by
       rw[af,bS (by omega)];rfl
      have h3:(d[t/k]!.c).getD (t % k) undef=(d[t/k]!.c)[t % k]! :=by
       have h4:t % k<(d[t/k]!.c).length:=by rw[TB];exact hm
       rw[ab,ae h4,getElem!_pos (d[t/k]!.c) (t % k) h4];rfl
      refine⟨?_,?_⟩
      ·unfold World.cell?
       rw[hc1]
       simp only[fN,bw,if_false,br,id_eq]
       rw[h2,get_flatK _ _ _ _ (by rw[mQ];exact ht),h1,h3]
      ·unfold World.frozen?
       rw[hc1]
       simp
     have hblk:b<w.heap.size:=(aZ.1 hc1).1
     have We:=AnyQ.slices_SortFunc L k aE zE (fun x:oD A k ok=>x.c) TB (fun x=>x.h1) (fun x y:oD A k ok=>cf x.a y.a) hO g #[] b 0 cap d w eg (fun _ _ _ _ x y=>hc x y _) hH hblk (by omega)
     rw[mQ]at We
     refine callsIn_wide.2 (We.mono ?_)
     rintro e w' ⟨rfl,d',n,os,hp,hs,rfl⟩
     rw[<-mQ]at hp hs
     obtain⟨e1,e2,e3⟩:=PN hp hs
     obtain⟨⟨c',vf,GW,KR⟩,As,hold,Da⟩:=AX (n:=n) (os:=os) TB hc1 e1 hH
     let l':List A:=d'.toList.map (·.a)
     have Av:l'.length=l.length:=by simp[l',e1,mQ]
     have K4:d.toList.map (·.a)=l:=by
      apply List.ext_getElem (by simp[mQ])
      intro i h1 h2
      simp[d,raw]
     have w6:l'.Perm l:=by
      have:=e2.map (·.a)
      rw[K4]at this;exact this
     have Il:l'.Pairwise (fun a b=>0<=cf b a):=by
      rw[List.pairwise_map]
      refine e3.imp fun{a b} h=>?_
      simpa[ltOf]using h
     have ht:ss w β f 0 (some b) (sortWorldK (fun x:oD A k ok=>x.c) k w b 0 n d' os):=⟨As,fun b' h1 h2=>hold b' h1 (fun e=>h2 (by rw[nf,e])),fun b' oz=>.inl (by rw[nf];exact oz),Da⟩
     have fe:(⟨T,k,l.map cs,none⟩:Ob).es.length=(⟨T,k,l'.map cs,none⟩:Ob).es.length->some b=β f 0/\∀b',β f 0=some b'->dM w (sortWorldK (fun x:oD A k ok=>x.c) k w b 0 n d' os) b':=fun _=>
      ⟨nf.symm,fun b' oz cc T lC=>by
       rw[nf]at oz;injection oz with oz;subst oz
       rw[hc1]at lC;injection lC with lC;injection lC with lC hT;subst lC;subst hT
       exact⟨c',_,vf,GW⟩⟩
     have sP:(⟨T,k,l.map cs,none⟩:Ob).es.length<=(⟨T,k,l'.map cs,none⟩:Ob).es.length:=by simp[Av]
     have K:=Kp.jM (o':=⟨T,k,l'.map cs,none⟩) nv hf ht rfl sP fe
     have oy:∀e (he:e<l'.length),∃i,i<l.length/\d'[e]! =d[i]! /\l'[e]?=l[i]?:=by
      intro e he
      have qU:e<d'.size:=by simpa[l']using he
      have hm:d'[e]! ∈d.toList:=by
       rw[getElem!_pos d' e qU]
       exact e2.mem_iff.1 (by simp)
      obtain⟨i,hi,hi2⟩:=iB hm
      have hi3:i<d.size:=by simpa using hi
      have Yj:d'[e]! =d[i]! :=by
       rw[<-hi2,getElem!_pos d i hi3];simp
      refine⟨i,by omega,Yj,?_⟩
      have h5:l'[e]?=some d'[e]!.a:=by
       rw[getElem!_pos d' e qU];simp[l',qU]
      rw[h5,Yj,hdg i (by omega),ae (by omega)]
     have sI:∀e j,e<l'.length->j<k->∃i,i<l.length/\(l'.map cs).getD e []=(l.map cs).getD i []/\c'.getD (e*k+j) undef=c.getD (i*k+j) undef:=by
      intro e j he hj
      obtain⟨i,hi,h6,h7⟩:=oy e he
      refine⟨i,hi,?_,?_⟩
      ·simp only[ab,aV,h7]
      ·rw[KR e j (by omega) hj,h6,<-eN i j hi hj]
     have S:=nv.jM (o':=⟨T,k,l'.map cs,none⟩) hX hf ht rfl sP fe (by
      refine⟨fun e he=>?_,fun _=>⟨c',vf,by simp only[aF];rw[Av,GW];exact eX,fun e j he hj=>?_,fun e j he hj=>?_⟩,fun r hr=>by cases hr⟩
      ·simp only[aF]at he|-
       rw[getD_map (ae he)];exact vx _
      ·simp only[aF]at he|-
       obtain⟨i,hi,h6,h7⟩:=sI e j he hj
       rw[h7];exact jN i j hi hj
      ·simp only[aF]at he|-
       obtain⟨i,hi,h6,h7⟩:=sI e j he hj
       rw[h7,h6]
       exact(GV i j hi hj).tr K)
     exact⟨_,.any,_,_,rfl,⟨l',w6,Il,rfl⟩,S,.any _,Ext.jM hf ht,K⟩
theorem sV{P:Program}{f:Nat}{args:List AV}{v:Value}(h:Pure P f args (.v v))(xs:List Value)(W:World)(hl:xs.length=args.length)(hr:∀i,i<args.length->RV W (fun _=>False) sJ [] (args.getD i .any) (xs.getD i undef)):Calls P f xs.toArray W fun e w'=>e=.returned v/\∃q Yi,w'=grow (W.drewN q) Yi:=by
 refine callsIn_wide.1 ((h.go (fun _=>False) W xs (fun b hb=>hb.elim) hl hr).mono ?_)
 rintro e w' ⟨x,rfl,hx,eX,hold,h1,h2,h3,h4⟩
 obtain rfl:=hx.dz
 refine⟨rfl,w'.drawn-W.drawn,w'.heap.extract W.heap.size w'.heap.size,?_⟩
 have hh:w'.heap=W.heap++w'.heap.extract W.heap.size w'.heap.size:=by
  apply Array.ext_getElem?
  intro i
  rw[Array.getElem?_append]
  by_cases hi:i<W.heap.size
  ·rw[if_pos hi,hold i hi]
  ·rw[if_neg hi,Array.getElem?_extract]
   by_cases h5:i<w'.heap.size
   ·rw[if_pos (by omega),show W.heap.size+(i-W.heap.size)=i by omega]
   ·rw[if_neg (by omega),gx (by omega)]
 have hd:W.drawn+(w'.drawn-W.drawn)=w'.drawn:=by omega
 obtain⟨heap,tape,drawn,os,output⟩:=W
 obtain⟨aaY,aaZ,ZS,Yi,Yk⟩:=w'
 simp only at h1 h2 h3 hh hd
 subst h1;subst h2;subst h3
 simp only[grow,World.drewN,World.mk.injEq,and_true,true_and]
 exact⟨hh,hd.symm⟩
end Go.Abs
namespace Go.Proofs.YtgopgjnfhkoomaaGreat
open Go.Shelf
def Tryz.JM:Go.Shelf.Ren:=⟨fun|6=>169|15=>228|14=>227|28=>274|29=>275|20=>266|21=>267|22=>268|23=>269|24=>270|25=>271|26=>272|27=>273|46=>306|47=>307|48=>308|49=>309|50=>310|57=>324|n=>n,fun|22=>56|24=>52|25=>234|3=>3|39=>348|0=>0|53=>410|55=>412|4=>4|46=>404|45=>403|50=>361|5=>5|9=>9|66=>457|70=>461|76=>471|77=>370|n=>n,fun|n=>n⟩
theorem Tryz.Wf:Go.Proofs.SlLaysF0.n6 Tryz.prog Tryz.JM:={
 mixed:=by kernel_rfl
 f6:=⟨Tryz.f169.name,by decide,Tryz.func169.trans (congrArg some (by kernel_rfl))⟩
 f14:=⟨Tryz.f227.name,by decide,Tryz.func227.trans (congrArg some (by kernel_rfl))⟩
 f15:=Tryz.func228.trans (congrArg some (by kernel_rfl))
 f20:=⟨Tryz.f266.name,by decide,Tryz.func266.trans (congrArg some (by kernel_rfl))⟩
 f21:=⟨Tryz.f267.name,by decide,Tryz.func267.trans (congrArg some (by kernel_rfl))⟩
 f22:=⟨Tryz.f268.name,by decide,Tryz.func268.trans (congrArg some (by kernel_rfl))⟩
 f23:=⟨Tryz.f269.name,by decide,Tryz.func269.trans (congrArg some (by kernel_rfl))⟩
 f24:=⟨Tryz.f270.name,by decide,Tryz.func270.trans (congrArg some (by kernel_rfl))⟩
 f25:=⟨Tryz.f271.name,by decide,Tryz.func271.trans (congrArg some (by kernel_rfl))⟩
 f26:=⟨Tryz.f272.name,by decide,Tryz.func272.trans (congrArg some (by kernel_rfl))⟩
 f27:=⟨Tryz.f273.name,by decide,Tryz.func273.trans (congrArg some (by kernel_rfl))⟩
 f28:=Tryz.func274.trans (congrArg some (by kernel_rfl))
 f29:=Tryz.func275.trans (congrArg some (by kernel_rfl))
 f46:=⟨Tryz.f306.name,by decide,Tryz.func306.trans (congrArg some (by kernel_rfl))⟩
 f47:=Tryz.func307.trans (congrArg some (by kernel_rfl))
 f48:=Tryz.func308.trans (congrArg some (by kernel_rfl))
 f49:=⟨Tryz.f309.name,by decide,Tryz.func309.trans (congrArg some (by kernel_rfl))⟩
 f50:=⟨Tryz.f310.name,by decide,Tryz.func310.trans (congrArg some (by kernel_rfl))⟩
 f57:=⟨Tryz.f324.name,by decide,Tryz.func324.trans (congrArg some (by kernel_rfl))⟩
 t0:=Tryz.underlying0
 a0:=Tryz.isAgg0
 z0:=Tryz.sizeOf0
 v0:=Tryz.zeroValue0
 t3:=Tryz.underlying3
 a3:=Tryz.isAgg3
 z3:=Tryz.sizeOf3
 v3:=Tryz.zeroValue3
 t4:=Tryz.underlying4
 a4:=Tryz.isAgg4
 z4:=Tryz.sizeOf4
 v4:=Tryz.zeroValue4
 t5:=Tryz.underlying5
 a5:=Tryz.isAgg5
 z5:=Tryz.sizeOf5
 v5:=Tryz.zeroValue5
 t9:=Tryz.underlying9
 a9:=Tryz.isAgg9
 z9:=Tryz.sizeOf9
 v9:=Tryz.zeroValue9
 t22:=Tryz.underlying56
 a22:=Tryz.isAgg56
 z22:=Tryz.sizeOf56
 v22:=Tryz.zeroValue56
 t25:=Tryz.underlying234
 a25:=Tryz.isAgg234
 z25:=Tryz.sizeOf234
 v25:=Tryz.zeroValue234
 t39:=Tryz.underlying348
 a39:=Tryz.isAgg348
 z39:=Tryz.sizeOf348
 v39:=Tryz.zeroValue348
 t45:=Tryz.underlying403
 a45:=Tryz.isAgg403
 z45:=Tryz.sizeOf403
 v45:=Tryz.zeroValue403
 t46:=Tryz.underlying404
 a46:=Tryz.isAgg404
 z46:=Tryz.sizeOf404
 v46:=Tryz.zeroValue404
 t50:=Tryz.underlying361
 a50:=Tryz.isAgg361
 z50:=Tryz.sizeOf361
 v50:=Tryz.zeroValue361
 t53:=Tryz.underlying410
 a53:=Tryz.isAgg410
 z53:=Tryz.sizeOf410
 v53:=Tryz.zeroValue410
 t55:=Tryz.underlying412
 a55:=Tryz.isAgg412
 z55:=Tryz.sizeOf412
 v55:=Tryz.zeroValue412
 t66:=Tryz.underlying457
 a66:=Tryz.isAgg457
 z66:=Tryz.sizeOf457
 v66:=Tryz.zeroValue457
 t70:=Tryz.underlying461
 a70:=Tryz.isAgg461
 z70:=Tryz.sizeOf461
 v70:=Tryz.zeroValue461
 t76:=Tryz.underlying471
 a76:=Tryz.isAgg471
 z76:=Tryz.sizeOf471
 v76:=Tryz.zeroValue471
 t77:=Tryz.underlying370
 a77:=Tryz.isAgg370
 z77:=Tryz.sizeOf370
 v77:=Tryz.zeroValue370}
end Go.Proofs.YtgopgjnfhkoomaaGreat
namespace Go.Proofs.YtgopgjnfhkoomaaGreat
open Go.Abs
open Nat (reduceAdd reduceSub reduceLT reduceLeDiff reduceMul reduceEqDiff)
set_option maxHeartbeats 4000000
set_option maxRecDepth 100000
open Go.Shelf Go.RowKit Go.Lib Go.Sort
abbrev Sb:Type:={s:Sp// -1000000<=s.lo/\s.lo<=1000000}
def TC(a:Sb)(c:List Value):Prop:=c.getD 0 undef=.int .i64 a.1.lo/\c.getD 1 undef=.int .i64 a.1.hi
instance :Inhabited (oD Sb 2 TC):=⟨⟨⟨⟨0,0⟩,by decide⟩,List.replicate 2 (.int .i64 0),by simp,fun v hv=>by rw[(gD.1 hv).2];rfl,rfl,rfl⟩⟩
theorem Im(x:oD Sb 2 TC)(W:World):RV W (fun _=>False) sJ [] (.agg (Sp.cs x.a.1)) (.agg x.c.toArray):=by
 have hk:x.c.length=2:=x.hk
 have h:TC x.a x.c:=x.h
 refine t_ (by rw[hk];rfl) (fun i hi=>?_) fun i hi=>?_
 ·have hi:i<x.c.length:=by rw[hk];exact hi
  rw[ab,ae hi]
  exact x.h1 _ (cv hi)
 ·match i,hi with
  |0,_=>exact h.1.symm▸RV.v _
  |1,_=>exact h.2.symm▸RV.v _
theorem TD(w:World):(isAgg 52).run Tryz.prog w=.ok true w:=by simp[isAgg,run_underlying Tryz.underlying52]
theorem PO(w:World):(Go.sizeOf 52).run Tryz.prog w=.ok 2 w:=by
 have h:nh Tryz.prog 52=some 2:=by kernel_rfl
 obtain⟨i,hi,h2⟩:=fS h
 simp[Go.sizeOf,typeInfo,hi,h2]
structure GX(g:Nat)(cf:Sb->Sb->Int):Prop where
 eg:∀args w,(callFunc g args).run Tryz.prog w=.ok (.enter g args) w
 hc:∀a b:Sb,Pure Tryz.prog g [.agg (Sp.cs a.1),.agg (Sp.cs b.1)] (n (cf a b))
 lt:∀a b:Sb,cf a b<0↔a.1.lo<b.1.lo
theorem GX.swo{g:Nat}{cf:Sb->Sb->Int}(C:GX g cf):SWO (ltOf fun x y:oD Sb 2 TC=>cf x.a y.a):=by
 have e:∀x y:oD Sb 2 TC,ltOf (fun x y:oD Sb 2 TC=>cf x.a y.a) x y=decide (x.a.1.lo<y.a.1.lo):=fun x y=>by
  unfold ltOf;rw[decide_eq_decide];exact C.lt _ _
 refine⟨fun x=>?_,fun x y z h1 h2=>?_,fun x y z h1 h2=>?_⟩<;>simp only[e,decide_eq_true_eq,decide_eq_false_iff_not]at* <;>omega
abbrev bdQ(l:List Sp):Prop:=∀s∈l,-1000000<=s.lo/\s.lo<=1000000
theorem BM{g:Nat}{cf:Sb->Sb->Int}(C:GX g cf)(σ:aG)(f:Nat)(l:List Sp)(hf:σ.at f 0=some (jJ l))(hl:l.length<4611686018427387904)(hK:bdQ l):eY Tryz.prog 169 [.own f 0 l.length,.fn (.func g) [] []] σ (fun _ σ'=>∃l':List Sp,l'.Perm l/\l'.Pairwise (fun a b=>a.lo<=b.lo)/\σ'=σ.cZ f 0 (jJ l')):=by
 obtain⟨lb,rfl⟩:∃lb:List Sb,lb.map (·.1)=l:=⟨l.pmap Subtype.mk hK,by simp[List.map_pmap]⟩
 rw[aF]at*
 refine(BL Tryz.Wf (fun a:Sb=>Sp.cs a.1) TC (fun a=>rfl) (fun w X β σ a x hx hr=>⟨(hr 0 (by decide)).dz,(hr 1 (by decide)).dz⟩)
  TD PO g C.eg cf C.swo (fun x y W=>sV (C.hc x.a y.a) [.agg x.c.toArray,.agg y.c.toArray] W rfl fun i hi=>by
   match i,hi with
   |0,_=>exact Im x W
   |1,_=>exact Im y W) Tryz.call169 σ f 52 lb (by rw[hf,jJ,il];rfl) hl).mono fun r σ' ⟨l',h1,h2,h3⟩=>
  ⟨l'.map (·.1),h1.map _,List.pairwise_map.2 (h2.imp fun{a b} h=>by have:=C.lt b a;omega),by rw[h3,jJ,il];rfl⟩
theorem ZT:GX 110 fun a b=>vR a.1.lo b.1.lo:=by
 refine⟨Tryz.call110,fun a b=>?_,fun a b=>by unfold vR;repeat' split<;>omega⟩
 refine et 10 (jo [jx 2 52 2 0,jx 3 52 2 1,jc 4 0] [2,3] (jo [jf 5 0 2,jl 6 5,jf 7 0 3,jl 8 7,jy 9 41 [6,8],jm 4 9] [4] .ret)) [.t 4] Tryz.call110 Tryz.func110 ?_
 ((refine Ay (j6 a.1.lo b.1.lo) ?_;repeat' constructor)<;>intros<;>refine aP ?_)
 exact Fq
end Go.Proofs.YtgopgjnfhkoomaaGreat
namespace Go.Proofs.YtgopgjnfhkoomaaGreat
open Go.Abs
open Nat (reduceAdd reduceSub reduceLT reduceLeDiff reduceMul reduceEqDiff)
set_option maxHeartbeats 4000000
set_option maxRecDepth 100000
inductive ZU(σ:aG)(Q:List Sp->Prop)(r:AV)(σ':aG):Prop
 |mk(ν:aG)(g:Nat)(l:List Sp)(hq:Q l)(h:σ'=σ++ν)(hr:r=.own g 0 l.length)(hg:σ.length<=g)(ho:σ'.at g 0=some (jJ l))
theorem w7{g:Nat}{cf:Sb->Sb->Int}(C:GX g cf)(σ:aG)(it:Nat)(cap:List AV)(l:List Sp)(hK:bdQ l)(hl:(l.length:Int)*16<=140737488355328)(lR:Iter Tryz.prog it [] cap (EW l)):eY Tryz.prog 109 [.fn (.func it) [] cap,.fn (.func g) [] []] σ (ZU σ fun l'=>l'.Perm l/\l'.Pairwise (fun a b=>a.lo<=b.lo)):=by
 refine qY 12 (jo [jn 4] [0,1] (jo [jm 6 0,jy 7 179 [6],jm 5 7] [1,5] (jo [jm 8 5,jm 9 1,jy 10 169 [8,9]] [5] (jo [jm 11 5,jm 4 11] [4] .ret)))) [.t 4] Tryz.call109 Tryz.func109 ?_
 ((refine Au ?_;repeat' constructor)<;>intros<;>refine aP ?_)
 refine .inr (.inl ⟨_,_,_,_,rfl,fun _=>⟨uJ σ it cap l hl lR,?_⟩,fun h=>by cases h⟩)
 rintro res σ' ⟨ν,g,rfl,rfl,hg,ho⟩
 refine aH ?_
 ((refine Au ?_;repeat' constructor)<;>intros<;>refine aP ?_)
 refine .inr (.inl ⟨_,_,_,_,rfl,fun _=>⟨BM C _ g l ho (by omega) hK,?_⟩,fun h=>by cases h⟩)
 rintro res σ' ⟨l',hp,hs,rfl⟩
 refine aH ?_
 simp only[zN,zT,zV,zS,zU,dC,ex,bu,bN,elems,cells,scalar,dH,bL,aX,aU,bJ,bI,Nat.reduceBEq,reduceAdd,reduceSub,reduceLT,reduceLeDiff,reduceMul,reduceEqDiff,reduceIte]
 have JK:l'.length=l.length:=hp.length_eq
 have UG:=dU ho
 have hu:∀o:Ob,aG.cZ (σ++ν) g 0 o=σ++aG.cZ ν (g-σ.length) 0 o:=fun o=>by
  have:=fC σ ν (g-σ.length) 0 o
  rwa[show σ.length+(g-σ.length)=g by omega]at this
 ((refine Au ?_;repeat' constructor)<;>intros<;>refine aP ?_)
 refine .mk _ g l' ⟨hp,hs⟩ (hu _) (by rw[JK]) hg (cu ho)
theorem p8{α β:Type}{f:β->α->β}{l:List α}{i:Nat}{x:α}{b:β}(h:l[i]?=some x):(l.take (i+1)).foldl f b=f ((l.take i).foldl f b) x:=by
 rw[ey h,eO];rfl
theorem GY(l:List Sp):(merged l).length<=l.length:=by
 suffices h:∀acc,(l.foldl push acc).length<=acc.length+l.length by simpa[merged]using h []
 induction l with
 |nil=>intro acc;simp
 |cons x r ih=>
  intro acc
  have h1:=ih (push acc x)
  have h2:(push acc x).length<=acc.length+1:=by
   rcases dp acc with rfl|⟨i,s,rfl⟩
   ·simp[mS]
   ·rw[dq,mG];split<;>simp
  simp only[cT,bf];omega
theorem Db{l l':List Sp}(hp:l'.Perm l)(hs:l'.Pairwise (fun a b=>a.lo<=b.lo))(iw:∀s∈l,s.lo<=s.hi):merged l'=jI [] l:=by
 have h:=oS l' [] re (fun s nM=>iw s (hp.mem_iff.1 nM)) (fun s h=>absurd h (au)) hs
 refine Norm.ext h.1 (rh l) fun v=>?_
 rw[tD]
 have h2:=h.2 v
 unfold merged at*
 rw[h2]
 constructor
 ·rintro(h|⟨s,hs,h⟩)
  ·exact absurd h Mem.nil
  ·exact⟨s,hp.mem_iff.1 hs,h⟩
 ·rintro⟨s,hs,h⟩;exact .inr ⟨s,hp.mem_iff.2 hs,h⟩
theorem Io{l:List Sp}{x:Sp}{A B:Int}(hl:∀s∈l,A<=s.lo/\s.hi<=B)(hx:A<=x.lo/\x.hi<=B):∀s∈push l x,A<=s.lo/\s.hi<=B:=by
 rcases dp l with rfl|⟨i,s,rfl⟩
 ·simpa[mS]using hx
 ·rw[dq]at hl|-
  rw[mG]
  have hs:=hl s (by simp)
  split
  ·intro u hu
   rcases bm.1 hu with hu|hu
   ·exact hl u (by simp[hu])
   ·obtain rfl:u=⟨s.lo,max s.hi x.hi⟩:=by simpa using hu
    simp only;omega
  ·intro u hu
   rw[show i++[s,x]=(i++[s])++[x] by simp]at hu
   rcases bm.1 hu with hu|hu
   ·exact hl u hu
   ·obtain rfl:u=x:=by simpa using hu
    exact hx
theorem sW{A B:Int}:∀(l acc:List Sp),(∀s∈l,A<=s.lo/\s.hi<=B)->(∀s∈acc,A<=s.lo/\s.hi<=B)->∀s∈l.foldl push acc,A<=s.lo/\s.hi<=B
 | [],acc,_,h=>h
 |x::l,acc,hl,h=>sW l (push acc x) (fun s hs=>hl s (by simp[hs])) (Io h (hl x (by simp)))
theorem EZ(it:Nat)(cap:List AV)(l:List Sp)(hl:(l.length:Int)*16<=140737488355328)(iw:∀s∈l,s.lo<=s.hi)(Dc:∀s∈l,-1000000<=s.lo/\s.hi<=1000000)(lR:Iter Tryz.prog it [] cap (EW l)):Pure Tryz.prog 54 [.fn (.func it) [] cap] (iT (jI [] l)):=by
 refine et 52 (jo [jn 2] [0] (jo [jm 8 0,jw 9 (.call (.f 109) [(.t 8),(.f 110)]),jm 3 9] [3] (jo [jn 4] [3,4] (.seq (jo [jm 10 3,je 11 10,jc 12 0] [4,10,11,12] (.block 0 (.loop (jo [jt .lss 13 12 11] [4,10,11,12,13] (.seq (.cond (.t 13) .skip (.exit 0)) (.seq (.block 1 (jo [ji 14 2 10 12,jk 15 2 14,jw 6 (.alloc 52 2 [.int .i64 0,.int .i64 0]),js 2 6 15] [4,6,10,11,12] (jo [jm 16 4,je 17 16,jm 7 17] [4,6,7,10,11,12] (.seq (.draw [jm 18 7,ju .gtr 19 18 0,jm 20 19,ja 20 (jf 21 0 6),ja 20 (jl 22 21),ja 20 (jm 23 4),ja 20 (jm 24 7),ja 20 (ju .sub 25 24 1),ja 20 (ji 26 2 23 25),ja 20 (jf 27 1 26),ja 20 (jl 28 27),ja 20 (ju .add 29 28 1),ja 20 (jt .leq 30 22 29),jp 31 20 30] [] [4,6,7,10,11,12,31]) (.cond (.t 31) (.draw [jm 32 4,jm 33 7,ju .sub 34 33 1,jm 35 4,jm 36 7,ju .sub 37 36 1,ji 38 2 35 37,jf 39 1 38,jl 40 39,jf 41 1 6,jl 42 41,jw 43 (.tN true (.t 40) (.t 42)),ji 44 2 32 34,jf 45 1 44] [js 1 45 43] [4,10,11,12]) (.ops [jm 46 4,jk 47 2 6,jw 48 (.jR false 52 2 1 [.int .i64 0,.int .i64 0] [(0,2,(.t 47))]),jw 49 (.app 52 2 16 (.t 46) (.t 48)),jm 4 49] [4,10,11,12])))))) (.ops [ju .add 50 12 1,jm 12 50] [4,10,11,12]))))))) (jo [jm 51 4,jm 2 51] [2] .ret))))) [.t 2] Tryz.call54 Tryz.func54 ?_
 ((refine Au ?_;repeat' constructor)<;>intros<;>refine aP ?_)
 refine .inr (.inl ⟨_,_,_,_,rfl,fun _=>⟨w7 ZT [] it cap l (fun s hs=>⟨(Dc s hs).1,by have:=iw s hs;have:=Dc s hs;omega⟩) hl lR,?_⟩,fun h=>by cases h⟩)
 rintro res ν ⟨_,g,l',⟨hp,hs⟩,rfl,rfl,hg,ho⟩
 refine aH ?_
 simp only[zN,zT,zV,zS,zU,dC,ex,bu,bN,elems,cells,scalar,dH,bL,aX,aU,bJ,bI,Nat.reduceBEq,reduceAdd,reduceSub,reduceLT,reduceLeDiff,reduceMul,reduceEqDiff,reduceIte]
 have JK:l'.length=l.length:=hp.length_eq
 have UG:=dU ho
 have Wg:∀s∈l',-1000000<=s.lo/\s.hi<=1000000:=fun s hs=>Dc s (hp.mem_iff.1 hs)
 have TE:∀s∈l',s.lo<=s.hi:=fun s hs=>iw s (hp.mem_iff.1 hs)
 rw[<-Db hp hs iw]
 have dN:∀X,aG.at (ν++X) g 0=some (jJ l'):=fun X=>by rw[cI UG];exact ho
 ((first|refine vn rfl ?_|simp(disch:=omega) only[cB,aj]|refine bo (fun _=>?_) fun _=>?_|refine im fun _=>?_|refine cF ?_|refine om ?_|refine an ?_|fail)<;>try simp only[zN,zT,zV,zS,zU,dC,ex,bu,bN,elems,cells,scalar,dH,bL,aX,aU,bJ,bI,Nat.reduceBEq,reduceAdd,reduceSub,reduceLT,reduceLeDiff,reduceMul,reduceEqDiff,reduceIte])
 refine aR.oC 52 2 4 rfl ?_
 ((refine Ax @dN ?_;repeat' constructor)<;>intros<;>refine aP ?_)
 refine aR.mT (α:={x:Nat×aG//x.1<=l'.length}) [4,12] (fun x=>[(4,.own ν.length 0 (merged (l'.take x.1.1)).length),(12,n x.1.1)]) (fun x=>ν++(some [jJ (merged (l'.take x.1.1))]::x.1.2)) (fun x=>l'.length-x.1.1) ⟨(0,[]),by simp⟩ ?_ ?_ ?_
 ·(simp only[zN,zT,zV,zS,zU,dC,ex,bu,bN,elems,cells,scalar,dH,bL,aX,aU,bJ,bI,Nat.reduceBEq,reduceAdd,reduceSub,reduceLT,reduceLeDiff,reduceMul,reduceEqDiff,reduceIte];try simp)
  simp[merged]
 ·simp[merged]
 ·rintro⟨⟨k,μ⟩,hk⟩
  simp only at hk
  have Rp:=sW (l'.take k) [] (fun s hs=>Wg s (dx hs)) (by simp)
  have yu:=GY (l'.take k)
  have hnm:Norm (merged (l'.take k)):=(oS (l'.take k) [] re (fun s hs=>TE s (dx hs)) (fun s h=>absurd h (au)) (hs.sublist (List.take_sublist _ _))).1
  rw[bH]at yu
  by_cases bP:k<l'.length
  ·obtain⟨x,hx⟩:∃x,l'[k]?=some x:=⟨_,ae bP⟩
   have l_:merged (l'.take (k+1))=push (merged (l'.take k)) x:=p8 hx
   have hxb:=Wg x (ao hx)
   have hxn:=TE x (ao hx)
   simp only
   change∀s∈merged (l'.take k),_ at Rp
   generalize merged (l'.take k)=A at*
   have hG:∀X,aG.at (ν++(some [jJ A]::X)) g 0=some (jJ l'):=fun X=>dN _
   have hA:∀X,aG.at (ν++(some [jJ A]::X)) ν.length 0=some (jJ A):=fun X=>by rw[dV];rfl
   have hU:∀(X:aG) (o:Ob),aG.cZ (ν++(some [jJ A]::X)) ν.length 0 o=ν++(some [o]::X):=fun X o=>by rw[qZ];rfl
   rcases dp A with rfl|⟨i,s,hi⟩
   ·(repeat' ((first|refine vn rfl ?_|simp(disch:=omega) only[cB,aj]|refine bo (fun _=>?_) fun _=>?_|refine im fun _=>?_|refine cF ?_|refine om ?_|refine an ?_|fail)<;>try simp only[zN,zT,zV,zS,zU,dC,ex,bu,bN,elems,cells,scalar,dH,bL,aX,aU,bJ,bI,Nat.reduceBEq,reduceAdd,reduceSub,reduceLT,reduceLeDiff,reduceMul,reduceEqDiff,reduceIte,getD_map hx,hG,hA,hU,aW,aD]))
    all_goals try(exfalso;omega)
    exact⟨⟨(k+1,μ++[some [⟨52,2,[x.cs],none⟩]]),bP⟩,⟨by rw[l_];simp[mS],by simp⟩,by rw[l_];simp[mS],by simp only;omega⟩
   ·rw[dq]at hi
    have ZV:A.length=i.length+1:=by rw[hi];simp
    have hs:A[i.length]?=some s:=by rw[hi];simp
    have TF:=Rp s (by rw[hi];simp)
    have hsn:=hnm.ne s (by rw[hi];simp)
    have hp:push A x=if x.lo<=s.hi+1 then i++[⟨s.lo,max s.hi x.hi⟩]else i++[s,x]:=by rw[hi,mG]
    have hw:IntKind.i64.wrap (((i.length+1:Nat):Int)-1)=(i.length:Int):=by rw[cB _ (by omega) (by omega)];omega
    have nV:(A.map Sp.cs).set i.length [n s.lo,n (max s.hi x.hi)]=(i++[(⟨s.lo,max s.hi x.hi⟩:Sp)]).map Sp.cs:=by rw[hi];simp
    (repeat' ((first|refine vn rfl ?_|simp(disch:=omega) only[cB,aj]|refine bo (fun _=>?_) fun _=>?_|refine im fun _=>?_|refine cF ?_|refine om ?_|refine an ?_|fail)<;>try simp only[zN,zT,zV,zS,zU,dC,ex,bu,bN,elems,cells,scalar,dH,bL,aX,aU,bJ,bI,Nat.reduceBEq,reduceAdd,reduceSub,reduceLT,reduceLeDiff,reduceMul,reduceEqDiff,reduceIte,getD_map hx,getD_map hs,hG,hA,hU,ZV,hw,nV,aW,aD]))
    all_goals try(exfalso;omega)
    all_goals
     rename_i hc
    ·rw[if_pos hc.2]at hp
     exact⟨⟨(k+1,μ++[some [⟨52,2,[x.cs],none⟩]]),bP⟩,⟨by rw[l_,hp];simp,by simp⟩,by rw[l_,hp],by simp only;omega⟩
    ·rw[if_neg (by omega)]at hp
     exact⟨⟨(k+1,μ++[some [⟨52,2,[x.cs],none⟩]]),bP⟩,⟨by rw[l_,hp];simp,by simp⟩,by rw[l_,hp,hi];simp,by simp only;omega⟩
  ·obtain rfl:k=l'.length:=by omega
   rw[aI]
   ((refine Au ?_;repeat' constructor)<;>intros<;>refine aP ?_)
   exact C8 (by rw[dV];rfl)
abbrev qy.cs(e:qy):List AV:=[n e.to,n e.ch.lo,n e.ch.hi]
abbrev Oo(l:List qy):AV:=.sl 3 (l.map qy.cs)
abbrev q_.cs(x:q_):List AV:=[iT x.al,Oo x.nx]
abbrev Ae(l:List q_):AV:=.sl 2 (l.map q_.cs)
abbrev MH(t:ka):AV:=.sl 1 (t.map fun l=>[Ae l])
abbrev Af(t:ka):AV:=.agg [MH t]
theorem nJ{α:Type}{row:α->List AV}(k:Nat)(l:List α)(h:∀x,∀c∈row x,bC c):bC (.sl k (l.map row)):=bC.sl fun e he c hc=>by
 obtain⟨x,_,rfl⟩:=aO.1 he
 exact h x c hc
@[simp] theorem aa0(l:List qy):bC (Oo l):=nJ 3 l fun x c hc=>by
 simp only[qy.cs,aC,au,or_false]at hc
 rcases hc with rfl|rfl|rfl<;>exact bC.v _
@[simp] theorem aa1(l:List q_):bC (Ae l):=nJ 2 l fun x c hc=>by
 simp only[q_.cs,aC,au,or_false]at hc
 rcases hc with rfl|rfl<;>simp
theorem AY(f:Nat)(dZ:List AV)(ep:∀c∈dZ,bC c)(q:q_->Bool)(l:List q_)(hl:l.length<9223372036854775808)(hq:∀x∈l,Pure Tryz.prog f ([.agg (q_.cs x)]++dZ) (bl (q x))):Pure Tryz.prog 322 [Ae l,.fn (.func f) [] dZ] (n (fj q 0 l)):=by
 refine et 19 (jo [jc 4 0] [0,1] (.seq (jo [jm 6 0,je 7 6,jc 8 0] [0,1,7,8] (.block 0 (.loop (jo [jt .lss 9 8 7] [0,1,7,8,9] (.seq (.cond (.t 9) .skip (.exit 0)) (.seq (.block 1 (jo [jm 10 8,jm 5 10] [0,1,5,7,8] (jo [jm 11 1,jm 12 0,jm 13 5,ji 14 2 12 13,jk 15 2 14,jw 16 (.call (.t 11) [(.t 15)])] [0,1,5,7,8,16] (.cond (.t 16) (jo [jm 17 5,jm 4 17] [4] .ret) .skip)))) (.ops [ju .add 18 8 1,jm 8 18] [0,1,7,8]))))))) (jo [jc 4 (-1)] [4] .ret))) [.t 4] Tryz.call322 Tryz.func322 ?_
 ((refine Au ?_;repeat' constructor)<;>intros<;>refine aP ?_)
 refine aR.li 8 l.length (fun i=>fj q i (l.drop i)=fj q 0 l) (by simp) ?_
 ·intro i hi hI
  by_cases bP:i<l.length
  ·obtain⟨x,hx⟩:∃x,l[i]?=some x:=⟨_,ae bP⟩
   have hc:=hq x (ao hx)
   rw[drop_cons hx,fj]at hI
   (repeat' ((first|refine vn rfl ?_|simp(disch:=omega) only[cB,aj]|refine bo (fun _=>?_) fun _=>?_|refine im fun _=>?_|refine cF ?_|refine om ?_|refine an ?_|fail)<;>try simp only[zN,zT,zV,zS,zU,dC,ex,bu,bN,elems,cells,scalar,dH,bL,aX,aU,bJ,bI,Nat.reduceBEq,reduceAdd,reduceSub,reduceLT,reduceLeDiff,reduceMul,reduceEqDiff,reduceIte,getD_map hx]))
   all_goals try(exfalso;omega)
   refine .inl ⟨_,_,_,_,rfl,fun _=>.of ?_ (hc),?_⟩
   ·intro a ha
    simp only[aK,aD,aC]at ha
    rcases ha with rfl|ha
    ·simp
    ·exact ep a ha
   refine aH ?_
   ((refine Au ?_;repeat' constructor)<;>intros<;>refine aP ?_)
   ·rename_i h
    rw[h]at hI
    simp only[if_true]at hI
    rw[<-hI]
    exact Fq
   ·rename_i h
    rw[h]at hI
    exact⟨⟨i+1,bP,by simpa using hI⟩,by simp,by simp only;omega⟩
  ·obtain rfl:i=l.length:=by omega
   rw[c_,fj]at hI
   ((refine Au ?_;repeat' constructor)<;>intros<;>refine aP ?_)
   rw[<-hI]
   exact Fq
theorem v7(f:Nat)(dZ:List AV)(ep:∀c∈dZ,bC c)(q:q_->Bool)(l:List q_)(hl:l.length<9223372036854775808)(hq:∀x∈l,Pure Tryz.prog f ([.agg (q_.cs x)]++dZ) (bl (q x))):Pure Tryz.prog 301 [Ae l,.fn (.func f) [] dZ] (bl (l.any q)):=by
 refine et 9 (jo [jb 4 false] [0,1] (jo [jm 5 0,jm 6 1,jy 7 322 [5,6],ju .geq 8 7 0,jm 4 8] [4] .ret)) [.t 4] Tryz.call301 Tryz.func301 ?_
 have h:=lK q l 0
 ((refine Au ?_;repeat' constructor)<;>intros<;>refine aP ?_)
 refine .inl ⟨_,_,_,_,rfl,fun _=>.of ?_ (AY f dZ ep q l hl hq),?_⟩
 ·intro a ha
  simp only[aK,aD,aC,bb,au,or_false]at ha
  rcases ha with rfl|rfl
  ·simp
  ·exact bC.fn (fun _ h=>absurd h (au)) ep
 refine aH ?_
 ((refine Au ?_;repeat' constructor)<;>intros<;>refine aP ?_)
 rw[<-h]
 exact Fq
theorem AZ(f:Nat)(dZ:List AV)(ep:∀c∈dZ,bC c)(q:qy->Bool)(l:List qy)(hl:l.length<9223372036854775808)(hq:∀x∈l,Pure Tryz.prog f ([.agg (qy.cs x)]++dZ) (bl (q x))):Pure Tryz.prog 323 [Oo l,.fn (.func f) [] dZ] (n (fj q 0 l)):=by
 refine et 19 (jo [jc 4 0] [0,1] (.seq (jo [jm 6 0,je 7 6,jc 8 0] [0,1,7,8] (.block 0 (.loop (jo [jt .lss 9 8 7] [0,1,7,8,9] (.seq (.cond (.t 9) .skip (.exit 0)) (.seq (.block 1 (jo [jm 10 8,jm 5 10] [0,1,5,7,8] (jo [jm 11 1,jm 12 0,jm 13 5,ji 14 3 12 13,jk 15 3 14,jw 16 (.call (.t 11) [(.t 15)])] [0,1,5,7,8,16] (.cond (.t 16) (jo [jm 17 5,jm 4 17] [4] .ret) .skip)))) (.ops [ju .add 18 8 1,jm 8 18] [0,1,7,8]))))))) (jo [jc 4 (-1)] [4] .ret))) [.t 4] Tryz.call323 Tryz.func323 ?_
 ((refine Au ?_;repeat' constructor)<;>intros<;>refine aP ?_)
 refine aR.li 8 l.length (fun i=>fj q i (l.drop i)=fj q 0 l) (by simp) ?_
 ·intro i hi hI
  by_cases bP:i<l.length
  ·obtain⟨x,hx⟩:∃x,l[i]?=some x:=⟨_,ae bP⟩
   have hc:=hq x (ao hx)
   rw[drop_cons hx,fj]at hI
   (repeat' ((first|refine vn rfl ?_|simp(disch:=omega) only[cB,aj]|refine bo (fun _=>?_) fun _=>?_|refine im fun _=>?_|refine cF ?_|refine om ?_|refine an ?_|fail)<;>try simp only[zN,zT,zV,zS,zU,dC,ex,bu,bN,elems,cells,scalar,dH,bL,aX,aU,bJ,bI,Nat.reduceBEq,reduceAdd,reduceSub,reduceLT,reduceLeDiff,reduceMul,reduceEqDiff,reduceIte,getD_map hx]))
   all_goals try(exfalso;omega)
   refine .inl ⟨_,_,_,_,rfl,fun _=>.of ?_ (hc),?_⟩
   ·intro a ha
    simp only[aK,aD,aC]at ha
    rcases ha with rfl|ha
    ·simp
    ·exact ep a ha
   refine aH ?_
   ((refine Au ?_;repeat' constructor)<;>intros<;>refine aP ?_)
   ·rename_i h
    rw[h]at hI
    simp only[if_true]at hI
    rw[<-hI]
    exact Fq
   ·rename_i h
    rw[h]at hI
    exact⟨⟨i+1,bP,by simpa using hI⟩,by simp,by simp only;omega⟩
  ·obtain rfl:i=l.length:=by omega
   rw[c_,fj]at hI
   ((refine Au ?_;repeat' constructor)<;>intros<;>refine aP ?_)
   rw[<-hI]
   exact Fq
theorem v8(f:Nat)(dZ:List AV)(ep:∀c∈dZ,bC c)(q:qy->Bool)(l:List qy)(hl:l.length<9223372036854775808)(hq:∀x∈l,Pure Tryz.prog f ([.agg (qy.cs x)]++dZ) (bl (q x))):Pure Tryz.prog 303 [Oo l,.fn (.func f) [] dZ] (bl (l.any q)):=by
 refine et 9 (jo [jb 4 false] [0,1] (jo [jm 5 0,jm 6 1,jy 7 323 [5,6],ju .geq 8 7 0,jm 4 8] [4] .ret)) [.t 4] Tryz.call303 Tryz.func303 ?_
 have h:=lK q l 0
 ((refine Au ?_;repeat' constructor)<;>intros<;>refine aP ?_)
 refine .inl ⟨_,_,_,_,rfl,fun _=>.of ?_ (AZ f dZ ep q l hl hq),?_⟩
 ·intro a ha
  simp only[aK,aD,aC,bb,au,or_false]at ha
  rcases ha with rfl|rfl
  ·simp
  ·exact bC.fn (fun _ h=>absurd h (au)) ep
 refine aH ?_
 ((refine Au ?_;repeat' constructor)<;>intros<;>refine aP ?_)
 rw[<-h]
 exact Fq
theorem A1(f:Nat)(dZ:List AV)(ep:∀c∈dZ,bC c)(q:List Sp->Bool)(l:List (List Sp))(hl:l.length<9223372036854775808)(hq:∀x∈l,Pure Tryz.prog f ([iT x]++dZ) (bl (q x))):Pure Tryz.prog 336 [mZ l,.fn (.func f) [] dZ] (n (fj q 0 l)):=by
 refine et 19 (jo [jc 4 0] [0,1] (.seq (jo [jm 6 0,je 7 6,jc 8 0] [0,1,7,8] (.block 0 (.loop (jo [jt .lss 9 8 7] [0,1,7,8,9] (.seq (.cond (.t 9) .skip (.exit 0)) (.seq (.block 1 (jo [jm 10 8,jm 5 10] [0,1,5,7,8] (jo [jm 11 1,jm 12 0,jm 13 5,ji 14 1 12 13,jl 15 14,jw 16 (.call (.t 11) [(.t 15)])] [0,1,5,7,8,16] (.cond (.t 16) (jo [jm 17 5,jm 4 17] [4] .ret) .skip)))) (.ops [ju .add 18 8 1,jm 8 18] [0,1,7,8]))))))) (jo [jc 4 (-1)] [4] .ret))) [.t 4] Tryz.call336 Tryz.func336 ?_
 ((refine Au ?_;repeat' constructor)<;>intros<;>refine aP ?_)
 refine aR.li 8 l.length (fun i=>fj q i (l.drop i)=fj q 0 l) (by simp) ?_
 ·intro i hi hI
  by_cases bP:i<l.length
  ·obtain⟨x,hx⟩:∃x,l[i]?=some x:=⟨_,ae bP⟩
   have hc:=hq x (ao hx)
   rw[drop_cons hx,fj]at hI
   (repeat' ((first|refine vn rfl ?_|simp(disch:=omega) only[cB,aj]|refine bo (fun _=>?_) fun _=>?_|refine im fun _=>?_|refine cF ?_|refine om ?_|refine an ?_|fail)<;>try simp only[zN,zT,zV,zS,zU,dC,ex,bu,bN,elems,cells,scalar,dH,bL,aX,aU,bJ,bI,Nat.reduceBEq,reduceAdd,reduceSub,reduceLT,reduceLeDiff,reduceMul,reduceEqDiff,reduceIte,getD_map hx]))
   all_goals try(exfalso;omega)
   refine .inl ⟨_,_,_,_,rfl,fun _=>.of ?_ (hc),?_⟩
   ·intro a ha
    simp only[aK,aD,aC]at ha
    rcases ha with rfl|ha
    ·simp
    ·exact ep a ha
   refine aH ?_
   ((refine Au ?_;repeat' constructor)<;>intros<;>refine aP ?_)
   ·rename_i h
    rw[h]at hI
    simp only[if_true]at hI
    rw[<-hI]
    exact Fq
   ·rename_i h
    rw[h]at hI
    exact⟨⟨i+1,bP,by simpa using hI⟩,by simp,by simp only;omega⟩
  ·obtain rfl:i=l.length:=by omega
   rw[c_,fj]at hI
   ((refine Au ?_;repeat' constructor)<;>intros<;>refine aP ?_)
   rw[<-hI]
   exact Fq
theorem v_(f:Nat)(dZ:List AV)(ep:∀c∈dZ,bC c)(q:List Sp->Bool)(l:List (List Sp))(hl:l.length<9223372036854775808)(hq:∀x∈l,Pure Tryz.prog f ([iT x]++dZ) (bl (q x))):Pure Tryz.prog 320 [mZ l,.fn (.func f) [] dZ] (bl (l.any q)):=by
 refine et 9 (jo [jb 4 false] [0,1] (jo [jm 5 0,jm 6 1,jy 7 336 [5,6],ju .geq 8 7 0,jm 4 8] [4] .ret)) [.t 4] Tryz.call320 Tryz.func320 ?_
 have h:=lK q l 0
 ((refine Au ?_;repeat' constructor)<;>intros<;>refine aP ?_)
 refine .inl ⟨_,_,_,_,rfl,fun _=>.of ?_ (A1 f dZ ep q l hl hq),?_⟩
 ·intro a ha
  simp only[aK,aD,aC,bb,au,or_false]at ha
  rcases ha with rfl|rfl
  ·simp
  ·exact bC.fn (fun _ h=>absurd h (au)) ep
 refine aH ?_
 ((refine Au ?_;repeat' constructor)<;>intros<;>refine aP ?_)
 rw[<-h]
 exact Fq
end Go.Proofs.YtgopgjnfhkoomaaGreat
namespace Go.Abs
open Go.Shelf Go.RowKit Go.Lib Go.Proofs
theorem MI{P:Program}{ρ:Ren}(L:Lays8.n4 P ρ){T k B:Nat}(hT:ρ.t 25=T)(eX:nh P T=some k){zs:List Value}(HU:yd P T=some zs)(I':zs.length=k)(hk:0<k)(Lo:(P.info? T).map (·.bytes)=some B)(ef:∀args w,(callFunc (ρ.f 4) args).run P w=.ok (.enter (ρ.f 4) args) w)(σ:aG)(z:Int)(h0:0<=z)(h1:z*B<=140737488355328)(hB:0<B):eY P (ρ.f 4) [.v (.slice none 0 0),n z] σ (fun r σ'=>r=.own σ.length 0 0/\σ'=σ++[some [⟨T,k,[],none⟩]]):=by
 subst hT
 have hzB:z<=z*B:=by
  have:z*1<=z*B:=Int.mul_le_mul_of_nonneg_left (by omega) h0
  omega
 refine⟨ef,fun X β w xs hX nv hlen hr=>?_⟩
 match xs,hlen with
 | [x,y],_=>
  have hx:=(hr 0 (by simp)).dz
  have hy:=(hr 1 (by simp)).dz
  simp only[dF,eP]at hx hy
  subst hx;subst hy
  by_cases hz:z=0
  ·subst hz
   refine callsIn_wide.2 ((Any8.slices_Grow_room L none 0 0 0 w (ar _) (by decide) (by decide) (ar _)).mono ?_)
   rintro e w' ⟨rfl,rfl⟩
   exact⟨_,_,_,_,rfl,⟨rfl,rfl⟩,nv.oC hX,RV.oC rfl,Ext.push (ar _) (fun _ _=>rfl) (fun b hb=>by cases hb),Kp.oC nv⟩
  ·obtain⟨i0,hi0,hs2⟩:=fS eX
   rw[hi0]at Lo
   simp only[aY,ah]at Lo
   unfold yd at HU
   rw[hi0]at HU
   simp only[Option.bind_some,aL]at HU
   obtain⟨z0,hz0,K5⟩:=HU
   have hzn:(z.toNat:Int)=z:=by omega
   have PQ:(0+z.toNat)*i0.bytes<=140737488355328:=by
    rw[Lo,br]
    have:((z.toNat*B:Nat):Int)<=140737488355328:=by rw[Int.natCast_mul,hzn];exact h1
    omega
   have hg:=Any8.slices_Grow_grow L i0 z0 hi0 hz0 (by omega) none 0 0 z.toNat [] w (ar _) (by omega) PQ (by omega) (by simp) (fun _=>rfl) (fun a h=>by cases h)
   have As:=grownCap_ge w (0+z.toNat) 0 (ρ.t 25)
   refine callsIn_wide.2 ?_
   change Calls P (ρ.f 4) #[.slice none 0 0,.int .i64 z] w _
   rw[hzn]at hg
   refine Calls.mono hg ?_
   rintro e w' ⟨rfl,rfl⟩
   change grownCap w (0+z.toNat) 0 (ρ.t 25)>=_ at As
   have Aq:z0.cells.size=k:=by rw[<-dE,K5];exact I'
   have eX:w.heap.size<=(w.drew.alloc (.cells ((#[]:Array Value)++Builtin.zeroCells z0.cells (0+z.toNat-0)++Builtin.zeroCells z0.cells (grownCap w (0+z.toNat) 0 (ρ.t 25)-(0+z.toNat))) (ρ.t 25))).heap.size:=by rw[j_];exact cO _
   have hold:∀b,b<w.heap.size->(w.drew.alloc (.cells ((#[]:Array Value)++Builtin.zeroCells z0.cells (0+z.toNat-0)++Builtin.zeroCells z0.cells (grownCap w (0+z.toNat) 0 (ρ.t 25)-(0+z.toNat))) (ρ.t 25))).heap[b]?=w.heap[b]?:=fun b hb=>oP w.drew _ hb
   have yo:(w.drew.alloc (.cells ((#[]:Array Value)++Builtin.zeroCells z0.cells (0+z.toNat-0)++Builtin.zeroCells z0.cells (grownCap w (0+z.toNat) 0 (ρ.t 25)-(0+z.toNat))) (ρ.t 25))).heap[w.heap.size]?=some (.cells ((#[]:Array Value)++Builtin.zeroCells z0.cells (0+z.toNat-0)++Builtin.zeroCells z0.cells (grownCap w (0+z.toNat) 0 (ρ.t 25)-(0+z.toNat))) (ρ.t 25)):=oQ w.drew _
   have GW:((#[]:Array Value)++Builtin.zeroCells z0.cells (0+z.toNat-0)++Builtin.zeroCells z0.cells (grownCap w (0+z.toNat) 0 (ρ.t 25)-(0+z.toNat))).size=grownCap w (0+z.toNat) 0 (ρ.t 25)*k:=by
    simp only[dw,gU,Aq]
    simp only[cJ,bM]
    rw[br,<-cP]
    congr 1;omega
   have oI:∀b,some w.heap.size=some b->b=w.heap.size:=fun b hb=>by injection hb with hb;exact hb.symm
   have K:=Kp.push (o:=⟨ρ.t 25,k,[],none⟩) (bo:=some w.heap.size) nv eX hold oI
   have S:=nv.push (o:=⟨ρ.t 25,k,[],none⟩) (bo:=some w.heap.size) hX eX hold oI ⟨fun e he=>absurd he (aN _),fun _=>⟨_,yo,by simp,fun e j he=>absurd he (aN _),fun e j he=>absurd he (aN _)⟩,fun r hr=>by cases hr⟩
   refine⟨_,_,_,_,rfl,⟨rfl,rfl⟩,S,?_,Ext.push eX hold oI ⟨rfl,rfl,rfl,cO _⟩,K⟩
   refine .own _ _ _ _ rfl (by simp) (fun o _=>aQ _) fun o ho _=>?_
   rw[gS]at ho;simp at ho;subst ho
   unfold kD;rw[iy]
   exact⟨_,_,_,rfl,yo,GW⟩
end Go.Abs
namespace Go.Proofs.YtgopgjnfhkoomaaGreat
open Go.Shelf
def Tryz.JP:Go.Shelf.Ren:=⟨fun|4=>181|n=>n,fun|22=>56|25=>52|3=>3|4=>4|9=>9|20=>20|0=>0|n=>n,fun|n=>n⟩
theorem Tryz.Wi:Go.Proofs.Lays8.n4 Tryz.prog Tryz.JP:={
 mixed:=by kernel_rfl
 f4:=⟨Tryz.f181.name,by decide,Tryz.func181.trans (congrArg some (by kernel_rfl))⟩
 t0:=Tryz.underlying0
 a0:=Tryz.isAgg0
 z0:=Tryz.sizeOf0
 v0:=Tryz.zeroValue0
 t3:=Tryz.underlying3
 a3:=Tryz.isAgg3
 z3:=Tryz.sizeOf3
 v3:=Tryz.zeroValue3
 t4:=Tryz.underlying4
 a4:=Tryz.isAgg4
 z4:=Tryz.sizeOf4
 v4:=Tryz.zeroValue4
 t9:=Tryz.underlying9
 a9:=Tryz.isAgg9
 z9:=Tryz.sizeOf9
 v9:=Tryz.zeroValue9
 t20:=Tryz.underlying20
 a20:=Tryz.isAgg20
 z20:=Tryz.sizeOf20
 v20:=Tryz.zeroValue20
 t22:=Tryz.underlying56
 a22:=Tryz.isAgg56
 z22:=Tryz.sizeOf56
 v22:=Tryz.zeroValue56}
end Go.Proofs.YtgopgjnfhkoomaaGreat
namespace Go.Proofs.YtgopgjnfhkoomaaGreat
open Go.Abs
open Nat (reduceAdd reduceSub reduceLT reduceLeDiff reduceMul reduceEqDiff)
set_option maxHeartbeats 4000000
set_option maxRecDepth 100000
theorem JQ(σ:aG)(z:Int)(h0:0<=z)(h1:z*16<=140737488355328):eY Tryz.prog 181 [.v (.slice none 0 0),n z] σ (fun r σ'=>r=.own σ.length 0 0/\σ'=σ++[some [⟨52,2,[],none⟩]]):=
 MI Tryz.Wi (T:=52) (k:=2) (B:=16) rfl (by kernel_rfl) (zs:=[.int .i64 0,.int .i64 0]) (by kernel_rfl) rfl (by decide) (by kernel_rfl) Tryz.call181 σ z h0 h1 (by decide)
def JR:List Sp×Option Nat->AV
 |(l,none)=>iT l
 |(l,some g)=>.own g 0 l.length
def MJ(σ:aG):List Sp×Option Nat->Prop
 |(_,none)=>True
 |(l,some g)=>σ.at g 0=some (jJ l)
abbrev flat(rows:List (List Sp×Option Nat)):List Sp:=rows.flatMap (·.1)
theorem BN{rows:List (List Sp×Option Nat)}{i:Nat}{r:List Sp×Option Nat}(h:rows[i]?=some r):flat (rows.take (i+1))=flat (rows.take i)++r.1:=by
 rw[ba,h];simp[flat]
theorem xZ(rows:List (List Sp×Option Nat))(i:Nat):(flat (rows.take i)).length<=(flat rows).length:=by
 have:flat rows=flat (rows.take i)++flat (rows.drop i):=by rw[<-iD,e_]
 rw[this,aM];omega
theorem w8(σ:aG)(rows:List (List Sp×Option Nat))(lO:∀r∈rows,MJ σ r)(hlen:rows.length<9223372036854775808)(MK:((flat rows).length:Int)*16<=140737488355328):eY Tryz.prog 112 [.sl 1 (rows.map fun r=>[JR r])] σ (fun r σ'=>r=.own σ.length 0 (flat rows).length/\σ'=σ++[some [jJ (flat rows)]]):=by
 refine qY 36 (jo [jn 2] [0] (jo [jc 3 0] [0,3] (.seq (jo [jm 9 0,je 10 9,jc 11 0] [0,3,9,10,11] (.block 0 (.loop (jo [jt .lss 12 11 10] [0,3,9,10,11,12] (.seq (.cond (.t 12) .skip (.exit 0)) (.seq (.block 1 (jo [ji 13 1 9 11,jl 14 13,jm 5 14] [0,3,5,9,10,11] (jo [jm 15 3,jm 16 5,je 17 16,jt .add 18 15 17,jm 3 18] [0,3,9,10,11] (jo [jm 19 3,ju .lss 20 19 0] [0,3,9,10,11,20] (.cond (.t 20) (.ops [jw 21 (.l6 9 (.c (.string ⟨#[108,101,110,32,111,117,116,32,111,102,32,114,97,110,103,101]⟩))),⟨none,.bad,none⟩] [0,3,9,10,11]) .skip))))) (.ops [ju .add 22 11 1,jm 11 22] [0,3,9,10,11]))))))) (jo [jm 23 3,jw 24 (.call (.f 181) [(.c (.slice none 0 0)),(.t 23)]),jm 6 24] [0,6] (.seq (jo [jm 25 0,je 26 25,jc 27 0] [6,25,26,27] (.block 2 (.loop (jo [jt .lss 28 27 26] [6,25,26,27,28] (.seq (.cond (.t 28) .skip (.exit 2)) (.seq (.block 3 (jo [ji 29 1 25 27,jl 30 29,jm 8 30] [6,8,25,26,27] (.ops [jm 31 6,jm 32 8,jw 33 (.app 52 2 16 (.t 31) (.t 32)),jm 6 33] [6,25,26,27]))) (.ops [ju .add 34 27 1,jm 27 34] [6,25,26,27]))))))) (jo [jm 35 6,jm 2 35] [2] .ret)))))) [.t 2] Tryz.call112 Tryz.func112 ?_
 ((refine Au ?_;repeat' constructor)<;>intros<;>refine aP ?_)
 refine aR.ls (α:={i:Nat//i<=rows.length}) [3,11] (fun i=>[(3,n ((flat (rows.take i.1)).length)),(11,n i.1)]) (fun i=>rows.length-i.1) ⟨0,aQ _⟩ ?_
 ·rintro⟨i,hi⟩
  have Dd:=xZ rows i
  by_cases bP:i<rows.length
  ·obtain⟨r,hr⟩:∃r,rows[i]?=some r:=⟨_,ae bP⟩
   have lO:=lO r (ao hr)
   have ft:=BN hr
   have ZX:=xZ rows (i+1)
   have hl2:(flat (rows.take (i+1))).length=(flat (rows.take i)).length+r.1.length:=by rw[ft,aM]
   obtain⟨l,g⟩:=r
   simp only at hl2
   cases g with
   |none=>
    (repeat' ((first|refine vn rfl ?_|simp(disch:=omega) only[cB,aj]|refine bo (fun _=>?_) fun _=>?_|refine im fun _=>?_|refine cF ?_|refine om ?_|refine an ?_|fail)<;>try simp only[zN,zT,zV,zS,zU,dC,ex,bu,bN,elems,cells,scalar,dH,bL,aX,aU,bJ,bI,Nat.reduceBEq,reduceAdd,reduceSub,reduceLT,reduceLeDiff,reduceMul,reduceEqDiff,reduceIte,getD_map hr,JR]))
    all_goals try(exfalso;omega)
    exact⟨⟨i+1,bP⟩,⟨by rw[hl2];simp,by simp⟩,by simp only;omega⟩
   |some g=>
    simp only[MJ]at lO
    (repeat' ((first|refine vn rfl ?_|simp(disch:=omega) only[cB,aj]|refine bo (fun _=>?_) fun _=>?_|refine im fun _=>?_|refine cF ?_|refine om ?_|refine an ?_|fail)<;>try simp only[zN,zT,zV,zS,zU,dC,ex,bu,bN,elems,cells,scalar,dH,bL,aX,aU,bJ,bI,Nat.reduceBEq,reduceAdd,reduceSub,reduceLT,reduceLeDiff,reduceMul,reduceEqDiff,reduceIte,getD_map hr,JR,lO]))
    all_goals try(exfalso;omega)
    exact⟨⟨i+1,bP⟩,⟨by rw[hl2];simp,by simp⟩,by simp only;omega⟩
  ·obtain rfl:i=rows.length:=by omega
   rw[aI]
   ((refine Au ?_;repeat' constructor)<;>intros<;>refine aP ?_)
   refine .inr (.inl ⟨_,_,_,_,rfl,fun _=>⟨JQ σ _ (by omega) MK,?_⟩,fun h=>by cases h⟩)
   rintro res σ' ⟨rfl,rfl⟩
   refine aH ?_
   ((refine Au ?_;repeat' constructor)<;>intros<;>refine aP ?_)
   refine aR.le (α:={i:Nat//i<=rows.length}) [6,27] (fun i=>[(6,.own σ.length 0 (flat (rows.take i.1)).length),(27,n i.1)]) (fun i=>σ++[some [jJ (flat (rows.take i.1))]]) (fun i=>rows.length-i.1) ⟨0,aQ _⟩ (by simp[flat]) ?_
   ·rintro⟨i,hi⟩
    have Dd:=xZ rows i
    by_cases bP:i<rows.length
    ·obtain⟨r,hr⟩:∃r,rows[i]?=some r:=⟨_,ae bP⟩
     have lO:=lO r (ao hr)
     have ft:=BN hr
     have ZX:=xZ rows (i+1)
     have hl2:(flat (rows.take (i+1))).length=(flat (rows.take i)).length+r.1.length:=by rw[ft,aM]
     obtain⟨l,g⟩:=r
     simp only at hl2 ft
     cases g with
     |none=>
      (repeat' ((first|refine vn rfl ?_|simp(disch:=omega) only[cB,aj]|refine bo (fun _=>?_) fun _=>?_|refine im fun _=>?_|refine cF ?_|refine om ?_|refine an ?_|fail)<;>try simp only[zN,zT,zV,zS,zU,dC,ex,bu,bN,elems,cells,scalar,dH,bL,aX,aU,bJ,bI,Nat.reduceBEq,reduceAdd,reduceSub,reduceLT,reduceLeDiff,reduceMul,reduceEqDiff,reduceIte,getD_map hr,JR]))
      all_goals try(exfalso;omega)
      refine⟨⟨xY l,by omega⟩,?_⟩
      ((refine Au ?_;repeat' constructor)<;>intros<;>refine aP ?_)
      exact⟨⟨i+1,bP⟩,⟨by rw[hl2],by simp⟩,by rw[ft];simp[jJ],by simp only;omega⟩
     |some g=>
      simp only[MJ]at lO
      have UG:=dU lO
      (repeat' ((first|refine vn rfl ?_|simp(disch:=omega) only[cB,aj]|refine bo (fun _=>?_) fun _=>?_|refine im fun _=>?_|refine cF ?_|refine om ?_|refine an ?_|fail)<;>try simp only[zN,zT,zV,zS,zU,dC,ex,bu,bN,elems,cells,scalar,dH,bL,aX,aU,bJ,bI,Nat.reduceBEq,reduceAdd,reduceSub,reduceLT,reduceLeDiff,reduceMul,reduceEqDiff,reduceIte,getD_map hr,JR,cI UG,lO]))
      all_goals try(exfalso;omega)
      refine⟨⟨xY l,by omega⟩,?_⟩
      ((refine Au ?_;repeat' constructor)<;>intros<;>refine aP ?_)
      exact⟨⟨i+1,bP⟩,⟨by rw[hl2],by simp⟩,by rw[ft];simp[jJ],by simp only;omega⟩
    ·obtain rfl:i=rows.length:=by omega
     rw[aI]
     ((refine Au ?_;repeat' constructor)<;>intros<;>refine aP ?_)
     all_goals first|rfl|exact⟨rfl,rfl⟩
theorem eY.toPure{P:Program}{f:Nat}{args:List AV}{r:AV}{R:AV->aG->Prop}(h:eY P f args [] R)(hR:∀v σ',R v σ'->bO σ' v r):Abs.Pure P f args r:=by
 refine⟨h.N',fun X w xs hX mF qu=>?_⟩
 have ti:∀f i o,¬aG.at ([]:aG) f i=some o:=fun f i o h=>by have:=dU h;simp at this
 have hs:dG w X sJ []:=⟨fun f i _ _ o _ _ h=>absurd h (ti f i o),fun f i o _ h=>absurd h (ti f i o),fun f i o h=>absurd h (ti f i o)⟩
 have ZK:Xt X sJ []=X:=by
  funext b;apply propext
  exact⟨fun h=>h.elim id fun⟨f,i,o,h,_⟩=>absurd h (ti f i o),.inl⟩
 refine(h.go X sJ w xs hX hs mF (fun i hi=>by rw[ZK];exact qu i hi)).mono ?_
 rintro e w' ⟨x,v,σ',du,rfl,hRv,nM,hv,he,kp⟩
 exact⟨x,rfl,hR v σ' hRv w' X du x nM hv,he.size,fun b hb=>he.wJ b hb fun⟨f,i,o,h,_⟩=>ti f i o h,he.io⟩
theorem De(a b:List Sp)(MK:((a++b).length:Int)*16<=140737488355328):Pure Tryz.prog 112 [.sl 1 [[iT a],[iT b]]] (iT (a++b)):=by
 have h:=w8 [] [(a,none),(b,none)] (fun r hr=>by simp only[aC,au,or_false]at hr;rcases hr with rfl|rfl<;>trivial) (by simp) (by simpa[flat]using MK)
 refine eY.toPure h fun v σ' ⟨h1,h2⟩=>?_
 subst h1 h2
 simp only[flat,gP,List.flatMap_nil,bb]
 exact C9 (a++b) rfl rfl
theorem JS(a b:List Sp)(MK:((a++b).length:Int)*16<=140737488355328):Pure Tryz.prog 55 [iT a,iT b] (.fn (.func 180) [] [.bZ [iT (a++b)] 0]):=by
 refine et 10 (jo [jw 4 (.mv (.c (.nilFunc)))] [0,1] (jo [jm 5 0,jm 6 1,jw 7 (.jR false 56 1 2 [.slice none 0 0,.slice none 0 0] [(0,1,(.t 5)),(1,1,(.t 6))]),jy 8 112 [7],jy 9 111 [8],jm 4 9] [4] .ret)) [.t 4] Tryz.call55 Tryz.func55 ?_
 have h:Pure Tryz.prog 112 [mZ [a,b]] (iT (a++b)):=by
  exact De a b MK
 (repeat' ((first|refine vn rfl ?_|simp(disch:=omega) only[cB,aj]|refine bo (fun _=>?_) fun _=>?_|refine im fun _=>?_|((repeat refine si ?_);(first|((first|refine .inl ⟨_,_,_,_,rfl,fun _=>pu (by first|exact h|exact kQ _),?_⟩|refine⟨_,_,_,_,rfl,fun _=>pu (by first|exact h|exact kQ _),?_⟩);(first|refine o1 ?_|refine o4 ?_))|refine .inl ⟨_,_,_,_,rfl,pu (by first|exact h|exact kQ _),?_⟩))|refine cF ?_|refine om ?_|refine an ?_|fail)<;>try simp only[zN,zT,zV,zS,zU,dC,ex,bu,bN,elems,cells,scalar,dH,bL,aX,aU,bJ,bI,Nat.reduceBEq,reduceAdd,reduceSub,reduceLT,reduceLeDiff,reduceMul,reduceEqDiff,reduceIte]))
 all_goals exact Fq
theorem zg(a b:List Sp)(ha:Norm a)(Cd:a.length<9223372036854775808)(hb:iV b):Pure Tryz.prog 224 [iT a,iT b] (iT (meet a b)):=by
 have hg:=pG (r8 (a:=a) hb)
 rw[<-Jq ha hb.1]at hg|-
 have:=pG hb
 exact GU a b Cd (by omega) (by omega)
theorem BO(a b:List Sp)(ha:iV a)(hb:iV b):Pure Tryz.prog 224 [iT a,iT b] (iT (meet a b)):=by
 have:=pG ha
 exact zg a b ha.1 (by omega) hb
theorem uK(l:List Sp)(hl:(l.length:Int)*16<=140737488355328)(iw:∀s∈l,s.lo<=s.hi)(Dc:∀s∈l,-1000000<=s.lo/\s.hi<=1000000):Pure Tryz.prog 54 [.fn (.func 180) [] [.bZ [iT l] 0]] (iT (jI [] l)):=
 EZ 180 [.bZ [iT l] 0] l hl iw Dc (w5 l (by omega))
theorem so{σ:aG}{k:Nat}:bO σ (.v (.slice none 0 0)) (.sl k []):=fun w X β x hs hx=>by
 cases hx;exact .slnil k
theorem Wj{σ:aG}{a b:AV}{x:AV}(h:bO σ a b)(hx:bC x):bO σ (.iu [a,x]) (.iu [b,x]):=bO.iu rfl fun i hi=>by
 match i,hi with
 |0,_=>exact h
 |1,_=>exact bO.eq rfl hx
theorem Wl(a b:List Sp):¬(small a/\small b)↔(¬small a\/¬small b):=by
 constructor
 ·intro h
  by_cases ha:small a
  ·exact .inr fun hb=>h ⟨ha,hb⟩
  ·exact .inl ha
 ·rintro(h|h) ⟨h1,h2⟩
  ·exact h h1
  ·exact h h2
theorem Ip{l:List Sp}(h:iV l):∀s∈l,-1000000<=s.lo/\s.hi<=1000000:=fun s hs=>by have:=h.2 s hs;omega
theorem GZ(a b:List Sp)(ha:a.length<9223372036854775808)(hb:b.length<9223372036854775808):Pure Tryz.prog 16 [iT a,iT b] (.iu [iT (if tr (small a/\small b)then jI a b else []),n (if tr (small a/\small b)then 0 else 1)]):=by
 refine et 18 (jo [jn 4,jc 5 0] [0,1] (.seq (jo [jm 6 0,jy 7 53 [6],jv 8 7,jm 9 8,jd 9 (jm 10 1),jd 9 (jy 11 53 [10]),jd 9 (jv 12 11),jq 13 9 12] [0,1,13] (.cond (.t 13) (jo [jn 4,jc 5 1] [4,5] .ret) .skip)) (jo [jm 14 0,jm 15 1,jy 16 55 [14,15],jy 17 54 [16],jm 4 17,jc 5 0] [4,5] .ret))) [.t 4,.t 5] Tryz.call16 Tryz.func16 ?_
 by_cases h:small a/\small b
 ·rw[tE h]
  obtain⟨h1,h2⟩:=h
  have t1:=tE h1
  have t2:=tE h2
  have hj:jI a b=jI [] (a++b):=Norm.ext (nW h1.2.1) (rh _) fun v=>by rw[pF h1.2.1,tD,mem_append]
  simp only[if_true]
  rw[hj]
  have l1:=h1.1
  have l2:=h2.1
  have hg:=uK (a++b) (by simp;omega) (fun s hs=>(bm.1 hs).elim (h1.2.1.ne s) (h2.2.1.ne s)) (fun s hs=>(bm.1 hs).elim (Ip h1.2 s) (Ip h2.2 s))
  have oI:=JS a b (by simp;omega)
  ((refine Ay (aa (iH a ha) (aa (iH b hb) (aa @oI @hg))) ?_;repeat' constructor)<;>intros<;>refine aP ?_)
  all_goals try(exfalso;simp_all;done)
  exact Fq
 ·rw[yN h]
  ((refine Ay (aa (iH a ha) (iH b hb)) ?_;repeat' constructor)<;>intros<;>refine aP ?_)
  ·exact Wj so (by simp)
  ·rename_i h2
   exact absurd ((Wl a b).1 h) h2
theorem JT(a b:List Sp)(ha:a.length<9223372036854775808)(hb:b.length<9223372036854775808):Pure Tryz.prog 258 [iT a,iT b] (.iu [iT (if tr (small a/\small b)then meet a b else []),n (if tr (small a/\small b)then 0 else 1)]):=by
 refine et 17 (jo [jn 4,jc 5 0] [0,1] (.seq (jo [jm 6 0,jy 7 53 [6],jv 8 7,jm 9 8,jd 9 (jm 10 1),jd 9 (jy 11 53 [10]),jd 9 (jv 12 11),jq 13 9 12] [0,1,13] (.cond (.t 13) (jo [jn 4,jc 5 1] [4,5] .ret) .skip)) (jo [jm 14 0,jm 15 1,jy 16 224 [14,15],jm 4 16,jc 5 0] [4,5] .ret))) [.t 4,.t 5] Tryz.call258 Tryz.func258 ?_
 by_cases h:small a/\small b
 ·rw[tE h]
  obtain⟨h1,h2⟩:=h
  have t1:=tE h1
  have t2:=tE h2
  simp only[if_true]
  ((refine Ay (aa (iH a ha) (aa (iH b hb) (BO a b h1.2 h2.2))) ?_;repeat' constructor)<;>intros<;>refine aP ?_)
  all_goals try(exfalso;simp_all;done)
  exact Fq
 ·rw[yN h]
  ((refine Ay (aa (iH a ha) (iH b hb)) ?_;repeat' constructor)<;>intros<;>refine aP ?_)
  ·exact Wj so (by simp)
  ·rename_i h2
   exact absurd ((Wl a b).1 h) h2
theorem G2(x:List Sp)(hx:x.length<9223372036854775808):Pure Tryz.prog 321 [iT x] (bl (!x.isEmpty)):=by
 refine et 6 (jo [jb 2 false] [0] (jo [jm 3 0,je 4 3,ju .gtr 5 4 0,jm 2 5] [2] .ret)) [.t 2] Tryz.call321 Tryz.func321 ?_
 ((refine Au ?_;repeat' constructor)<;>intros<;>refine aP ?_)
 refine bO.eq (congrArg bl ?_) (by simp)
 cases x<;>simp
theorem JU(l:List (List Sp))(hl:l.length<9223372036854775808)(hx:∀x∈l,x.length<9223372036854775808):Pure Tryz.prog 296 [mZ l] (bl (H7 l)):=by
 refine et 5 (jo [jb 2 false] [0] (jo [jm 3 0,jw 4 (.call (.f 320) [(.t 3),(.f 321)]),jm 2 4] [2] .ret)) [.t 2] Tryz.call296 Tryz.func296 ?_
 have h:=v_ 321 [] (by simp) (fun s=>!s.isEmpty) l hl (fun x h=>G2 x (hx x h))
 ((refine Ay @h ?_;repeat' constructor)<;>intros<;>refine aP ?_)
 all_goals exact Fq
def Rt(x:q_):Prop:=x.al.length<9223372036854775808/\x.nx.length<9223372036854775808
def ML(l:List q_):Prop:=l.length<9223372036854775808/\∀x∈l,Rt x
def E0(t:ka):Prop:=t.length<9223372036854775808/\∀l∈t,ML l
theorem JV(m:Nat)(e:qy):Pure Tryz.prog 299 [.agg (qy.cs e),.bZ [n m] 0] (bl (tr (¬EB m e))):=by
 refine et 19 (jo [jx 2 392 3 0,jb 3 false] [1,2] (jo [jf 4 0 2,jl 5 4,ju .lss 6 5 0,jm 7 6,jd 7 (jf 8 0 2),jd 7 (jl 9 8),jd 7 (jl 10 1),jd 7 (jt .geq 11 9 10),jq 12 7 11,jm 13 12,jd 13 (jf 14 1 2),jd 13 (jk 15 2 14),jd 13 (jy 16 300 [15]),jd 13 (jv 17 16),jq 18 13 17,jm 3 18] [3] .ret)) [.t 3] Tryz.call299 Tryz.func299 ?_
 ((refine Ay (AW e.ch) ?_;repeat' constructor)<;>intros<;>refine aP ?_)
 all_goals refine bO.eq (congrArg bl ?_) (by simp)
 all_goals(rw[decide_eq_decide];unfold EB;omega)
theorem Iq{α:Type}(l:List α)(p:α->Prop):(l.any fun x=>tr (¬p x))=tr (¬∀x∈l,p x):=by
 rw[cV,vP,eb]
 simp only[vP]
 constructor
 ·rintro⟨x,hx,h⟩ h2;exact h (h2 x hx)
 ·intro h
  by_cases h3:∃x∈l,¬p x
  ·exact h3
  ·exact absurd (fun x hx=>eo fun hp=>h3 ⟨x,hx,hp⟩) h
theorem JW(m:Nat)(x:q_)(hx:Rt x):Pure Tryz.prog 302 [.agg (q_.cs x),.bZ [.fn (.func 299) [] [.bZ [n m] 0]] 0] (bl (tr (¬EC m x))):=by
 refine et 20 (jo [jx 2 340 2 0,jb 3 false] [1,2] (jo [jf 4 0 2,jl 5 4,jy 6 53 [5],jv 7 6,jm 8 7,jd 8 (jf 9 1 2),jd 8 (jl 10 9),jd 8 (je 11 10),jd 8 (ju .gtr 12 11 64),jq 13 8 12,jm 14 13,jd 14 (jf 15 1 2),jd 14 (jl 16 15),jd 14 (jl 17 1),jd 14 (jy 18 303 [16,17]),jq 19 14 18,jm 3 19] [3] .ret)) [.t 3] Tryz.call302 Tryz.func302 ?_
 have h:=v8 299 [.bZ [n m] 0] (by simp) (fun e=>tr (¬EB m e)) x.nx hx.2 (fun e _=>JV m e)
 rw[Iq]at h
 have h1:=iH x.al hx.1
 ((refine Ay (aa @h1 @h) ?_;repeat' constructor)<;>intros<;>refine aP ?_)
 all_goals refine bO.eq (congrArg bl (decide_eq_decide.2 ?_)) (by simp)
 unfold EC
 constructor
 ·rintro((h|h)|h) ⟨h1,h2,h3⟩
  ·exact h h1
  ·omega
  ·exact h h3
 ·intro h
  by_cases c1:small x.al
  ·by_cases c2:x.nx.length<=64
   ·exact .inr fun c3=>h ⟨c1,c2,c3⟩
   ·exact .inl (.inr (by omega))
  ·exact .inl (.inl c1)
theorem Df(l:List q_)(m:Nat)(hl:ML l):Pure Tryz.prog 262 [Ae l,n m] (bl (tr (yI m l))):=by
 refine et 21 (jo [jx 3 3 1 1,jb 4 false] [0,3] (jo [jw 6 (.j5 (.func 299) [] [(.t 3)]),jw 5 (.alloc 444 1 [.nilFunc]),js 1 5 6] [0,5] (jo [jm 7 0,je 8 7,ju .geq 9 8 1,jm 10 9,ja 10 (jm 11 0),ja 10 (je 12 11),ja 10 (ju .leq 13 12 4000),jp 14 10 13,jm 15 14,ja 15 (jm 16 0),⟨some 17,.j5 (.func 302) [] [(.t 5)],some (15,true)⟩,ja 15 (jy 18 301 [16,17]),ja 15 (jv 19 18),jp 20 15 19,jm 4 20] [4] .ret))) [.t 4] Tryz.call262 Tryz.func262 ?_
 have h:=v7 302 [.bZ [.fn (.func 299) [] [.bZ [n m] 0]] 0] (by intro c hc;simp only[bp]at hc;subst hc;exact bC.bZ (by simp)) (fun x=>tr (¬EC m x)) l hl.1 (fun x hx=>JW m x (hl.2 x hx))
 rw[Iq]at h
 ((first|refine vn rfl ?_|simp(disch:=omega) only[cB,aj]|refine bo (fun _=>?_) fun _=>?_|refine im fun _=>?_|refine cF ?_|refine om ?_|refine an ?_|fail)<;>try simp only[zN,zT,zV,zS,zU,dC,ex,bu,bN,elems,cells,scalar,dH,bL,aX,aU,bJ,bI,Nat.reduceBEq,reduceAdd,reduceSub,reduceLT,reduceLeDiff,reduceMul,reduceEqDiff,reduceIte])
 ((first|refine vn rfl ?_|simp(disch:=omega) only[cB,aj]|refine bo (fun _=>?_) fun _=>?_|refine im fun _=>?_|refine cF ?_|refine om ?_|refine an ?_|fail)<;>try simp only[zN,zT,zV,zS,zU,dC,ex,bu,bN,elems,cells,scalar,dH,bL,aX,aU,bJ,bI,Nat.reduceBEq,reduceAdd,reduceSub,reduceLT,reduceLeDiff,reduceMul,reduceEqDiff,reduceIte])
 refine aR.H' (t:=5) (e:=0) rfl rfl rfl (by decide) ?_
 ((refine Ay @h ?_;repeat' constructor)<;>intros<;>refine aP ?_)
 all_goals refine bO.eq (congrArg bl (decide_eq_decide.2 ?_)) (by simp)
 unfold yI
 constructor
 ·rintro⟨⟨h1,h2⟩,h3⟩
  exact⟨by omega,by omega,fY.1 h3⟩
 ·rintro⟨h1,h2,h3⟩
  exact⟨⟨by omega,by omega⟩,fY.2 h3⟩
def G3(t:ka):List (List AV):=(List.range t.length).map fun i=>[n ((t.length-1-i:Nat):Int),Ae (t.getD (t.length-1-i) [])]
theorem zi{t:ka}{i:Nat}(h:i<t.length):(G3 t)[i]?=some [n ((t.length-1-i:Nat):Int),Ae (t.getD (t.length-1-i) [])]:=by simp[G3,h]
theorem uN(t:ka):(G3 t).length=t.length:=by simp[G3]
theorem A2(t:ka)(hl:t.length<9223372036854775808):Iter Tryz.prog 298 [] [.bZ [MH t] 0] (G3 t):=by
 refine⟨Tryz.call298,fun C y J D σ hy hC hJ ew=>?_⟩
 refine eY.mono (R:=fun _ iX=>fi C J D (G3 t).length iX) ?_ fun _ _ h=>h.out
 refine qY 19 (jo [jl 4 1,je 5 4,ju .sub 6 5 1,jm 3 6] [0,1,3] (.block 0 (.loop (.seq (jo [jm 7 3,ju .geq 8 7 0] [0,1,3,8] (.cond (.t 8) .skip (.exit 0))) (.seq (.block 1 (jo [jm 11 0,jm 12 3,jl 13 1,jm 14 3,ji 15 1 13 14,jl 16 15,jw 17 (.call (.t 11) [(.t 12),(.t 16)]),jv 18 17] [0,1,3,18] (.cond (.t 18) .ret .skip))) (.ops [jm 9 3,ju .sub 10 9 1,jm 3 10] [0,1,3])))))) [] Tryz.call298 Tryz.func298 ?_
 ((refine Au ?_;repeat' constructor)<;>intros<;>refine aP ?_)
 refine aR.lr (α:={x:Nat×aG×aG//x.1<=t.length/\x.2.1.length=C/\J x.1 x.2.1}) [3] (fun x=>[(3,n ((t.length:Int)-1-x.1.1))]) (fun x=>x.1.2.1++x.1.2.2) (fun x=>t.length-x.1.1) ⟨(0,σ,[]),by simp,hC,hJ⟩ ?_
 ·rintro⟨⟨k,τ,ν⟩,hk,pD,ze⟩
  simp only at hk pD ze
  by_cases bP:k<t.length
  ·have hs:t[t.length-1-k]?=some (t.getD (t.length-1-k) []):=getD_some (by omega)
   have hg:((t.map fun l=>[Ae l]).getD (t.length-1-k) [])=[Ae (t.getD (t.length-1-k) [])]:=getD_map hs
   have hi:(((t.length:Int)-1-k).toNat)=t.length-1-k:=by omega
   have hz:(t.length:Int)-1-k=((t.length-1-k:Nat):Int):=by omega
   have hy:=ew k _ τ ν (zi bP) pD ze
   rw[<-hz]at hy
   ((refine Ax (aa @hi @hg) ?_;repeat' constructor)<;>intros<;>refine aP ?_)
   refine .inr (.inr ⟨y,_,rfl,fun _=>⟨hy,?_⟩,fun h=>by cases h⟩)
   rintro b σ' ⟨iv,gz,rfl,jW,hb1,hb2⟩
   refine aH ?_
   simp only[zN,zT,zV,zS,zU,dC,ex,bu,bN,elems,cells,scalar,dH,bL,aX,aU,bJ,bI,Nat.reduceBEq,reduceAdd,reduceSub,reduceLT,reduceLeDiff,reduceMul,reduceEqDiff,reduceIte]
   cases b with
   |false=>
    ((refine Au ?_;repeat' constructor)<;>intros<;>refine aP ?_)
    exact fi.mk iv _ rfl jW (.inr (hb2 rfl))
   |true=>
    ((refine Au ?_;repeat' constructor)<;>intros<;>refine aP ?_)
    exact⟨⟨(k+1,iv,_),bP,jW,hb1 rfl⟩,by simp;omega,rfl,by simp only;omega⟩
  ·obtain rfl:k=t.length:=by omega
   ((refine Au ?_;repeat' constructor)<;>intros<;>refine aP ?_)
   exact fi.mk τ _ rfl pD (.inl (by rw[uN];exact ze))
theorem zj(t:ka):Pure Tryz.prog 261 [MH t] (.fn (.func 298) [] [.bZ [MH t] 0]):=by
 refine et 4 (jo [jx 1 189 1 0,jw 2 (.mv (.c (.nilFunc)))] [1] (jo [jw 3 (.j5 (.func 298) [] [(.t 1)]),jm 2 3] [2] .ret)) [.t 2] Tryz.call261 Tryz.func261 ?_
 ((refine Au ?_;repeat' constructor)<;>intros<;>refine aP ?_)
 all_goals exact bO.eq rfl (by simp(maxDischargeDepth:=9))
theorem zk(t:ka)(hs:E0 t):Pure Tryz.prog 221 [Af t] (n (if tr (valid t)then 0 else 40)):=by
 refine et 27 (jo [jx 1 191 1 0,jw 2 (.alloc 41 1 [.int .i64 0])] [1,2] (.seq (jo [jf 6 0 1,jl 7 6,je 8 7,ju .lss 9 8 1,jm 10 9,jd 10 (jf 11 0 1),jd 10 (jl 12 11),jd 10 (je 13 12),jd 10 (ju .gtr 14 13 401),jq 15 10 14] [1,2,15] (.cond (.t 15) (jo [⟨none,.store 1 (.t 2) (.c (.int .i64 40)),none⟩] [2] .ret) .skip)) (jo [jw 3 (.alloc 3 1 [.int .i64 0]),⟨none,.store 1 (.t 3) (.c (.int .i64 0)),none⟩] [1,2,3] (.seq (jo [jf 16 0 1,jl 17 16,jy 18 261 [17]] [2,3,18] (.block 0 (.rL (.t 18) [19,20] (.ops [jm 5 20] [2,3,5]) (.block 1 (.seq (jo [jm 21 5,jl 22 3,jy 23 262 [21,22],jv 24 23] [2,3,5,24] (.cond (.t 24) (jo [⟨none,.store 1 (.t 2) (.c (.int .i64 40)),none⟩] [2] .ret) .skip)) (.ops [jm 25 5,je 26 25,js 1 3 26] [2,3])))))) (jo [⟨none,.store 1 (.t 2) (.c (.int .i64 0)),none⟩] [2] .ret))))) [.c 2 none] Tryz.call221 Tryz.func221 ?_
 have hl:=hs.1
 by_cases hN:1<=t.length/\t.length<=401
 ·((refine Ay (zj t) ?_;repeat' constructor)<;>intros<;>refine aP ?_)
  refine aR.rL (fun x:{x:Int×Nat//True}=>[some [⟨41,1,[[n x.1.1]],none⟩],some [⟨3,1,[[n (x.1.2:Int)]],none⟩]]) 2 (fun _=>rfl)
   (fun k x=>x.1.1=0/\x.1.2=wd t (t.length-k)/\∀j,t.length-k<=j->j<t.length->yI (wd t (j+1)) (t.getD j []))
   (fun e x=>match e with| .ret=>x.1.1=40/\¬valid t|_=>False) (G3 t) ⟨(0,0),trivial⟩
   rfl ?_ ?_ (A2 t hl) (fun k args h=>?_) (fun k x args ll ρ τ hk hx=>?_) (fun x τ hx=>?_) (fun e x τ hx=>?_)
  ·rfl
  ·refine⟨rfl,?_,fun j h1 h2=>by omega⟩
   show 0=wd t (t.length-0)
   rw[wd,getD_none (by omega)];rfl
  ·have hk:=(ai.1 h).1
   rw[uN]at hk
   rw[zi hk]at h;injection h with h;subst h;rfl
  ·obtain⟨⟨r,m⟩,Wm⟩:=x
   obtain⟨h1,h2,h3⟩:=hx
   simp only at h1 h2 h3
   subst h1
   have UH:=(ai.1 hk).1
   rw[uN]at UH
   rw[zi UH]at hk;injection hk with hk;subst hk
   have e1:t.length-1-k+1=t.length-k:=by omega
   have cn:ML (t.getD (t.length-1-k) []):=hs.2 _ (ao (getD_some (by omega)))
   have aa6:=cn.1
   have VF:wd t (t.length-1-k)=(t.getD (t.length-1-k) []).length:=rfl
   have hS:=Df (t.getD (t.length-1-k) []) m cn
   have PR:(∀j,t.length-(k+1)<=j->j<t.length->yI (wd t (j+1)) (t.getD j []))↔yI m (t.getD (t.length-1-k) []):=by
    rw[h2]
    constructor
    ·intro h
     have:=h (t.length-1-k) (by omega) (by omega)
     rwa[e1]at this
    ·intro h j h4 h5
     by_cases hj:j=t.length-1-k
     ·subst hj;rw[e1];exact h
     ·exact h3 j (by omega) h5
   simp only[par]
   generalize t.getD (t.length-1-k) []=L at*
   ((refine Au ?_;repeat' constructor)<;>intros<;>refine aP ?_)
   refine⟨⟨(0,m),trivial⟩,[],by simp,fun ox=>?_⟩
   ((refine Ay @hS ?_;repeat' constructor)<;>intros<;>refine aP ?_)
   ·rename_i h
    exact⟨⟨(40,m),trivial⟩,[],by simp,rfl,fun hv=>h (PR.1 fun j _ h5=>hv.2.2 j h5)⟩
   ·rename_i h
    exact⟨⟨(0,L.length),trivial⟩,[],by simp,rfl,by show L.length=wd t (t.length-(k+1));rw[show t.length-(k+1)=t.length-1-k by omega];exact VF.symm,PR.2 h⟩
  ·obtain⟨⟨r,m⟩,Wm⟩:=x
   obtain⟨h1,h2,h3⟩:=hx
   simp only at h1 h2 h3
   subst h1
   rw[uN]at h3
   ((refine Au ?_;repeat' constructor)<;>intros<;>refine aP ?_)
   rw[tE ⟨hN.1,hN.2,fun j h5=>h3 j (by omega) h5⟩]
   exact Fq
  ·obtain⟨⟨r,m⟩,Wm⟩:=x
   cases e with
   |ret=>
    obtain⟨h1,h2⟩:=hx
    simp only at h1
    subst h1
    simp only[Ac.e,zN,zT,zV,zS,zU,dC,ex,bu,bN,elems,cells,scalar,dH,bL,aX,aU,bJ,bI,Nat.reduceBEq,reduceAdd,reduceSub,reduceLT,reduceLeDiff,reduceMul,reduceEqDiff,reduceIte]
    ((refine Au ?_;repeat' constructor)<;>intros<;>refine aP ?_)
    rw[yN h2]
    exact Fq
   |exit i=>exact hx.elim
 ·have hv:¬valid t:=fun h=>hN ⟨h.1,h.2.1⟩
  rw[yN hv]
  ((first|refine vn rfl ?_|simp(disch:=omega) only[cB,aj]|refine bo (fun _=>?_) fun _=>?_|refine im fun _=>?_|refine cF ?_|refine om ?_|refine an ?_|fail)<;>try simp only[zN,zT,zV,zS,zU,dC,ex,bu,bN,elems,cells,scalar,dH,bL,aX,aU,bJ,bI,Nat.reduceBEq,reduceAdd,reduceSub,reduceLT,reduceLeDiff,reduceMul,reduceEqDiff,reduceIte])
  ((first|refine vn rfl ?_|simp(disch:=omega) only[cB,aj]|refine bo (fun _=>?_) fun _=>?_|refine im fun _=>?_|refine cF ?_|refine om ?_|refine an ?_|fail)<;>try simp only[zN,zT,zV,zS,zU,dC,ex,bu,bN,elems,cells,scalar,dH,bL,aX,aU,bJ,bI,Nat.reduceBEq,reduceAdd,reduceSub,reduceLT,reduceLeDiff,reduceMul,reduceEqDiff,reduceIte])
  ((first|refine vn rfl ?_|simp(disch:=omega) only[cB,aj]|refine bo (fun _=>?_) fun _=>?_|refine im fun _=>?_|refine cF ?_|refine om ?_|refine an ?_|fail)<;>try simp only[zN,zT,zV,zS,zU,dC,ex,bu,bN,elems,cells,scalar,dH,bL,aX,aU,bJ,bI,Nat.reduceBEq,reduceAdd,reduceSub,reduceLT,reduceLeDiff,reduceMul,reduceEqDiff,reduceIte])
  ((first|refine vn rfl ?_|simp(disch:=omega) only[cB,aj]|refine bo (fun _=>?_) fun _=>?_|refine im fun _=>?_|refine cF ?_|refine om ?_|refine an ?_|fail)<;>try simp only[zN,zT,zV,zS,zU,dC,ex,bu,bN,elems,cells,scalar,dH,bL,aX,aU,bJ,bI,Nat.reduceBEq,reduceAdd,reduceSub,reduceLT,reduceLeDiff,reduceMul,reduceEqDiff,reduceIte])
  all_goals try(exfalso;omega)
  ((refine Au ?_;repeat' constructor)<;>intros<;>refine aP ?_)
  exact Fq
abbrev np.cs(h:np):List AV:=[.agg [n (h.fr:Int),n (h.to:Int)],.agg h.ch.cs]
abbrev ry(l:List np):List (List AV):=l.map np.cs
theorem E3{l:List np}{i:Nat}{h:np}(e:l[i]?=some h):(ry l)[i]?=some (np.cs h):=by simp[ry,e]
theorem uO{l:List np}{k:Nat}{args:List AV}(h:(ry l)[k]?=some args):∃s,l[k]?=some s/\args=np.cs s:=by
 simp only[ry,aV,aL]at h
 obtain⟨s,hs,rfl⟩:=h
 exact⟨s,hs,rfl⟩
theorem Dg(t:ka):Pure Tryz.prog 359 [Af t] (n (t.length:Int)):=by
 refine et 7 (jo [jx 1 399 1 0,jc 2 0] [1] (jo [jf 3 0 1,jf 4 0 3,jl 5 4,je 6 5,jm 2 6] [2] .ret)) [.t 2] Tryz.call359 Tryz.func359 ?_
 ((refine Au ?_;repeat' constructor)<;>intros<;>refine aP ?_)
 all_goals exact bO.eq (by simp) (by simp)
theorem E4(t:ka)(k:Nat)(hk:k<t.length):Pure Tryz.prog 358 [Af t,n (k:Int)] (Ae (t.getD k [])):=by
 refine et 11 (jo [jx 2 399 1 0,jn 4] [1,2] (jo [jf 5 0 2,jf 6 0 5,jl 7 6,jm 8 1,ji 9 1 7 8,jl 10 9,jm 4 10] [4] .ret)) [.t 4] Tryz.call358 Tryz.func358 ?_
 have h:(t.map fun l=>[Ae l]).getD k []=[Ae (t.getD k [])]:=getD_map (getD_some hk)
 ((refine Ax @h ?_;repeat' constructor)<;>intros<;>refine aP ?_)
 all_goals exact Fq
theorem o6(t:ka)(k:Int):Pure Tryz.prog 360 [Af t,n k] (.fn (.func 361) [] [.bZ [MH t] 0,.bZ [n k] 0]):=by
 refine et 6 (jo [jx 2 399 1 0,jx 3 3 1 1,jw 4 (.mv (.c (.nilFunc)))] [2,3] (jo [jw 5 (.j5 (.func 361) [] [(.t 2),(.t 3)]),jm 4 5] [4] .ret)) [.t 4] Tryz.call360 Tryz.func360 ?_
 ((refine Au ?_;repeat' constructor)<;>intros<;>refine aP ?_)
 all_goals exact bO.eq rfl (by simp(maxDischargeDepth:=9))
theorem E5(t:ka):Pure Tryz.prog 363 [Af t] (n (t.length:Int)):=by
 refine et 7 (jo [jx 1 400 1 0,jc 2 0] [1] (jo [jf 3 0 1,jf 4 0 3,jl 5 4,je 6 5,jm 2 6] [2] .ret)) [.t 2] Tryz.call363 Tryz.func363 ?_
 ((refine Au ?_;repeat' constructor)<;>intros<;>refine aP ?_)
 all_goals exact bO.eq (by simp) (by simp)
theorem G4(t:ka)(k:Nat)(hl:t.length<9223372036854775808)(hk:k<t.length):Pure Tryz.prog 362 [Af t,n (k:Int)] (Ae (t.getD (t.length-1-k) [])):=by
 refine et 17 (jo [jx 2 400 1 0,jn 4] [1,2] (jo [jf 5 0 2,jf 6 0 5,jl 7 6,jf 8 0 2,jf 9 0 8,jl 10 9,je 11 10,ju .sub 12 11 1,jm 13 1,jt .sub 14 12 13,ji 15 1 7 14,jl 16 15,jm 4 16] [4] .ret)) [.t 4] Tryz.call362 Tryz.func362 ?_
 have h:(t.map fun l=>[Ae l]).getD (t.length-1-k) []=[Ae (t.getD (t.length-1-k) [])]:=getD_map (getD_some (by omega))
 have hi:(((t.length:Int)-1-k).toNat)=t.length-1-k:=by omega
 ((refine Ax (aa @hi @h) ?_;repeat' constructor)<;>intros<;>refine aP ?_)
 all_goals exact Fq
theorem G5(t:ka)(k:Int):Pure Tryz.prog 364 [Af t,n k] (.fn (.func 365) [] [.bZ [MH t] 0,.bZ [n k] 0]):=by
 refine et 6 (jo [jx 2 400 1 0,jx 3 3 1 1,jw 4 (.mv (.c (.nilFunc)))] [2,3] (jo [jw 5 (.j5 (.func 365) [] [(.t 2),(.t 3)]),jm 4 5] [4] .ret)) [.t 4] Tryz.call364 Tryz.func364 ?_
 ((refine Au ?_;repeat' constructor)<;>intros<;>refine aP ?_)
 all_goals exact bO.eq rfl (by simp(maxDischargeDepth:=9))
theorem zm(t:ka)(k:Nat)(hv:valid t)(hk:k<t.length):Iter Tryz.prog 361 [] [.bZ [MH t] 0,.bZ [n (k:Int)] 0] (ry (H6 t k)):=by
 refine⟨Tryz.call361,fun C y J D σ hy hC hJ ew=>?_⟩
 refine eY.mono (R:=fun _ iX=>fi C J D (ry (H6 t k)).length iX) ?_ fun _ _ h=>h.out
 refine qY 38 (jo [jf 8 0 1,jf 9 0 8,jl 10 9,jl 11 2,ji 12 1 10 11,jl 13 12,je 14 13,jc 15 0] [0,13,14,15] (.block 0 (.loop (jo [jt .lss 16 15 14] [0,13,14,15,16] (.seq (.cond (.t 16) .skip (.exit 0)) (.seq (.block 1 (jo [jm 17 15,ji 18 2 13 15,jk 19 2 18,jw 5 (.alloc 340 2 [.slice none 0 0,.slice none 0 0]),jm 4 17,js 2 5 19] [0,4,5,13,14,15] (jo [jf 20 1 5,jl 21 20,je 22 21,jc 23 0] [0,4,13,14,15,21,22,23] (.block 2 (.loop (jo [jt .lss 24 23 22] [0,4,13,14,15,21,22,23,24] (.seq (.cond (.t 24) .skip (.exit 2)) (.seq (.block 3 (jo [ji 25 3 21 23,jk 26 3 25,jw 7 (.alloc 392 3 [.int .i64 0,.int .i64 0,.int .i64 0]),js 3 7 26] [0,4,7,13,14,15,21,22,23] (jo [jm 27 0,jm 28 4,jf 29 0 7,jl 30 29,jw 31 (.build [.int .i64 0,.int .i64 0] [(0,1,(.t 28)),(1,1,(.t 30))]),jf 32 1 7,jk 33 2 32,jw 34 (.call (.t 27) [(.t 31),(.t 33)]),jv 35 34] [0,4,13,14,15,21,22,23,35] (.cond (.t 35) .ret .skip)))) (.ops [ju .add 36 23 1,jm 23 36] [0,4,13,14,15,21,22,23]))))))))) (.ops [ju .add 37 15 1,jm 15 37] [0,13,14,15]))))))) [] Tryz.call361 Tryz.func361 ?_
 have hg:(t.map fun l=>[Ae l]).getD k []=[Ae (t.getD k [])]:=getD_map (getD_some hk)
 obtain⟨v1,v2,v3⟩:=lZ hv hk
 unfold H6 at*
 generalize t.getD k []=L at*
 ((refine Ax @hg ?_;repeat' constructor)<;>intros<;>refine aP ?_)
 refine aR.lr (α:={x:Nat×Nat×aG×aG//x.1<=L.length/\(AL L).drop x.2.1=rb x.1 (L.drop x.1)/\x.2.1<=(AL L).length/\x.2.2.1.length=C/\J x.2.1 x.2.2.1}) [15] (fun x=>[(15,n x.1.1)]) (fun x=>x.1.2.2.1++x.1.2.2.2) (fun x=>L.length-x.1.1) ⟨(0,0,σ,[]),by simp,by simp,by simp,hC,hJ⟩ ?_
 rintro⟨⟨i,m,τ,ν⟩,hi,hd,hm,pD,Ij⟩
 simp only at hi hd hm pD Ij
 by_cases bP:i<L.length
 ·obtain⟨x,hx⟩:∃x,L[i]?=some x:=⟨_,ae bP⟩
  obtain⟨w1,w2,w3⟩:=v3 x (ao hx)
  have Yj:(AL L).drop m=pY i x++rb (i+1) (L.drop (i+1)):=by rw[hd,drop_cons hx];rfl
  (repeat' ((first|refine vn rfl ?_|simp(disch:=omega) only[cB,aj]|refine bo (fun _=>?_) fun _=>?_|refine im fun _=>?_|refine cF ?_|refine om ?_|refine an ?_|fail)<;>try simp only[zN,zT,zV,zS,zU,dC,ex,bu,bN,elems,cells,scalar,dH,bL,aX,aU,bJ,bI,Nat.reduceBEq,reduceAdd,reduceSub,reduceLT,reduceLeDiff,reduceMul,reduceEqDiff,reduceIte,getD_map hx]))
  all_goals try(exfalso;omega)
  refine aR.mT (α:={x':Nat×Nat×aG×aG//x'.1<=x.nx.length/\(AL L).drop x'.2.1=(pY i x).drop x'.1++rb (i+1) (L.drop (i+1))/\x'.2.1<=(AL L).length/\x'.2.2.1.length=C/\J x'.2.1 x'.2.2.1}) [23]
   (fun x=>[(23,n x.1.1)]) (fun x=>x.1.2.2.1++x.1.2.2.2) (fun x'=>x.nx.length-x'.1.1) ⟨(0,m,τ,ν++[some [⟨340,2,[q_.cs x],none⟩]]),by simp,by simpa using Yj,hm,pD,Ij⟩ ?_ ?_ ?_
  ·(simp only[zN,zT,zV,zS,zU,dC,ex,bu,bN,elems,cells,scalar,dH,bL,aX,aU,bJ,bI,Nat.reduceBEq,reduceAdd,reduceSub,reduceLT,reduceLeDiff,reduceMul,reduceEqDiff,reduceIte];try simp)
  ·simp
  rintro⟨⟨j,m,τ,ν⟩,hj,hd,hm,pD,Ij⟩
  simp only at hj hd hm pD Ij
  by_cases qz:j<x.nx.length
  ·obtain⟨e,he⟩:∃e,x.nx[j]?=some e:=⟨_,ae qz⟩
   obtain⟨u1,u2,u3⟩:=w3 e (ao he)
   have hho:(pY i x)[j]?=some ⟨i,e.to.toNat,e.ch⟩:=by simp[pY,he]
   rw[drop_cons hho,aD]at hd
   obtain⟨hxm,FV⟩:=BK hd
   have Gr:=(ai.1 hxm).1
   have Wn:=ew m _ τ (ν++[some [⟨392,3,[qy.cs e],none⟩]]) (E3 hxm) pD Ij
   have ht0:((e.to.toNat:Nat):Int)=e.to:=by omega
   simp only[np.cs,ht0]at Wn
   (repeat' ((first|refine vn rfl ?_|simp(disch:=omega) only[cB,aj]|refine bo (fun _=>?_) fun _=>?_|refine im fun _=>?_|refine cF ?_|refine om ?_|refine an ?_|fail)<;>try simp only[zN,zT,zV,zS,zU,dC,ex,bu,bN,elems,cells,scalar,dH,bL,aX,aU,bJ,bI,Nat.reduceBEq,reduceAdd,reduceSub,reduceLT,reduceLeDiff,reduceMul,reduceEqDiff,reduceIte,getD_map he,aW]))
   all_goals try(exfalso;omega)
   refine .inr (.inr ⟨y,_,rfl,fun _=>⟨Wn,?_⟩,fun h=>by cases h⟩)
   rintro b σ' ⟨iv,gz,rfl,jW,hb1,hb2⟩
   refine aH ?_
   simp only[zN,zT,zV,zS,zU,dC,ex,bu,bN,elems,cells,scalar,dH,bL,aX,aU,bJ,bI,Nat.reduceBEq,reduceAdd,reduceSub,reduceLT,reduceLeDiff,reduceMul,reduceEqDiff,reduceIte]
   cases b with
   |false=>
    ((refine Au ?_;repeat' constructor)<;>intros<;>refine aP ?_)
    exact fi.mk iv _ rfl jW (.inr (hb2 rfl))
   |true=>
    ((refine Au ?_;repeat' constructor)<;>intros<;>refine aP ?_)
    exact⟨⟨(j+1,m+1,iv,_),qz,FV,Gr,jW,hb1 rfl⟩,by simp,rfl,by simp only;omega⟩
  ·obtain rfl:j=x.nx.length:=by omega
   have O7:(pY i x).drop x.nx.length=[]:=fG (by simp[pY])
   rw[O7,aK]at hd
   ((refine Au ?_;repeat' constructor)<;>intros<;>refine aP ?_)
   exact⟨⟨(i+1,m,τ,ν),bP,hd,hm,pD,Ij⟩,by simp,rfl,by simp only;omega⟩
 ·obtain rfl:i=L.length:=by omega
  rw[c_]at hd
  have:m=(AL L).length:=by have:=List.drop_eq_nil_iff.1 hd;omega
  subst this
  ((refine Au ?_;repeat' constructor)<;>intros<;>refine aP ?_)
  exact fi.mk τ _ rfl pD (.inl (by simpa using Ij))
theorem JX(t:ka)(k:Nat)(hv:valid t)(hk:k+1<t.length):Iter Tryz.prog 365 [] [.bZ [MH t] 0,.bZ [n (k:Int)] 0] (ry (yK t k)):=by
 refine⟨Tryz.call365,fun C y J D σ hy hC hJ ew=>?_⟩
 refine eY.mono (R:=fun _ iX=>fi C J D (ry (yK t k)).length iX) ?_ fun _ _ h=>h.out
 refine qY 34 (jo [jx 3 500 1 0] [1,2,3] (jo [jf 6 0 1,jk 7 1 6,jw 8 (.build [.slice none 0 0] [(0,1,(.t 7))]),jf 9 0 1,jf 10 0 9,jl 11 10,je 12 11,ju .sub 13 12 2,jl 14 2,jt .sub 15 13 14,jy 16 360 [8,15]] [3,16] (.block 0 (.rL (.t 16) [17,18] (jo [jw 4 (.alloc 455 2 [.int .i64 0,.int .i64 0]),js 2 4 17] [3,4,18] (.ops [jw 5 (.alloc 52 2 [.int .i64 0,.int .i64 0]),js 2 5 18] [3,4,5])) (.block 1 (jo [jl 19 3,jf 20 1 4,jl 21 20,jf 22 0 4,jl 23 22,jw 24 (.build [.int .i64 0,.int .i64 0] [(0,1,(.t 21)),(1,1,(.t 23))]),jf 25 1 5,jl 26 25,jw 27 (.un .neg (.t 26)),jf 28 0 5,jl 29 28,jw 30 (.un .neg (.t 29)),jw 31 (.build [.int .i64 0,.int .i64 0] [(0,1,(.t 27)),(1,1,(.t 30))]),jw 32 (.call (.t 19) [(.t 24),(.t 31)]),jv 33 32] [3,33] (.cond (.t 33) .ret .skip))))))) [] Tryz.call365 Tryz.func365 ?_
 have hle:=hv.2.1
 have lR:=zm t (t.length-2-k) hv (by omega)
 have hz:(t.length:Int)-2-k=((t.length-2-k:Nat):Int):=by omega
 have hlen:(ry (yK t k)).length=(ry (H6 t (t.length-2-k))).length:=by simp[ry,yK]
 (repeat' ((first|refine vn rfl ?_|simp(disch:=omega) only[cB,aj]|refine bo (fun _=>?_) fun _=>?_|refine im fun _=>?_|((repeat refine si ?_);(first|((first|refine .inl ⟨_,_,_,_,rfl,fun _=>pu (o6 t _),?_⟩|refine⟨_,_,_,_,rfl,fun _=>pu (o6 t _),?_⟩);(first|refine o1 ?_|refine o4 ?_))|refine .inl ⟨_,_,_,_,rfl,pu (o6 t _),?_⟩))|refine cF ?_|refine om ?_|refine an ?_|fail)<;>try simp only[zN,zT,zV,zS,zU,dC,ex,bu,bN,elems,cells,scalar,dH,bL,aX,aU,bJ,bI,Nat.reduceBEq,reduceAdd,reduceSub,reduceLT,reduceLeDiff,reduceMul,reduceEqDiff,reduceIte,hz]))
 all_goals try(exfalso;omega)
 refine aR.rL (fun x:{τ:aG//τ.length=C}=>x.1) C (fun x=>x.2) (fun k x=>J k x.1) (fun e x=>match e with| .ret=>D x.1|_=>False) (ry (H6 t (t.length-2-k))) ⟨σ,hC⟩
  rfl rfl hJ lR (fun k' args h=>?_) (fun k' x args ll ρ τ xu hx=>?_) (fun x τ hx=>?_) (fun e x τ hx=>?_)
 ·obtain⟨s,hs,rfl⟩:=uO h;rfl
 ·obtain⟨x,PS⟩:=x
  simp only at hx
  obtain⟨h,hh,rfl⟩:=uO xu
  have hb:(yK t k)[k']?=some h.flip:=by simp[yK,hh]
  have ZY:=(vN hv (ao hh)).2.2
  obtain⟨c1,c2,c3⟩:=ZY
  simp only[np.cs,par]
  ((refine Au ?_;repeat' constructor)<;>intros<;>refine aP ?_)
  refine⟨⟨x,PS⟩,_,by simp only[aW];rfl,fun ox=>?_⟩
  have Wn:=fun ν=>ew k' _ x ν (E3 hb) PS hx
  simp only[np.cs,np.flip]at Wn
  have e1:∀(ν:aG),aG.at (x++ox::(τ++(some [⟨455,2,[[n (h.fr:Int),n (h.to:Int)]],none⟩]::ν))) (C+(τ.length+1)) 0=some ⟨455,2,[[n (h.fr:Int),n (h.to:Int)]],none⟩:=fun ν=>by rw[<-PS,dR,cQ,dV];rfl
  have e2:∀(a:Option (List Ob)) (ν:aG),aG.at (x++ox::(τ++(a::some [⟨52,2,[h.ch.cs],none⟩]::ν))) (C+(τ.length+1+1)) 0=some ⟨52,2,[h.ch.cs],none⟩:=fun a ν=>by rw[<-PS,dR,cQ,dR];rfl
  ((refine Ax (aa @PS (aa @e1 @e2)) ?_;repeat' constructor)<;>intros<;>refine aP ?_)
  refine .inr (.inr ⟨y,_,rfl,fun _=>⟨Wn _,?_⟩,fun h=>by cases h⟩)
  rintro b σ' ⟨iv,gz,rfl,jW,hb1,hb2⟩
  refine aH ?_
  simp only[zN,zT,zV,zS,zU,dC,ex,bu,bN,elems,cells,scalar,dH,bL,aX,aU,bJ,bI,Nat.reduceBEq,reduceAdd,reduceSub,reduceLT,reduceLeDiff,reduceMul,reduceEqDiff,reduceIte]
  cases b with
  |false=>
   ((refine Au ?_;repeat' constructor)<;>intros<;>refine aP ?_)
   exact⟨⟨iv,jW⟩,gz,by simp,hb2 rfl⟩
  |true=>
   ((refine Au ?_;repeat' constructor)<;>intros<;>refine aP ?_)
   exact⟨⟨iv,jW⟩,gz,by simp,hb1 rfl⟩
 ·obtain⟨x,PS⟩:=x
  simp only at hx
  ((refine Au ?_;repeat' constructor)<;>intros<;>refine aP ?_)
  exact fi.mk x _ rfl PS (.inl (by simp only[ry,aF]at hlen hx|-;rw[hlen];exact hx))
 ·obtain⟨x,PS⟩:=x
  cases e with
  |ret=>
   simp only at hx
   simp only[Ac.e,zN,zT,zV,zS,zU,dC,ex,bu,bN,elems,cells,scalar,dH,bL,aX,aU,bJ,bI,Nat.reduceBEq,reduceAdd,reduceSub,reduceLT,reduceLeDiff,reduceMul,reduceEqDiff,reduceIte]
   ((refine Au ?_;repeat' constructor)<;>intros<;>refine aP ?_)
   exact fi.mk x _ rfl PS (.inr hx)
  |exit i=>exact hx.elim
theorem E6(l:List Sp)(c:Sp):(wide l c).length=l.length:=by simp[wide]
theorem G6(l:List Sp)(c:Sp)(hl:l.length<=200001)(hb:∀s∈l,-100000<=s.lo/\s.lo<=s.hi/\s.hi<=100000)(hc:Gt c):Pure Tryz.prog 304 [iT l,.agg c.cs] (iT (wide l c)):=by
 refine et 30 (jo [jx 3 52 2 1,jn 4] [0,3] (jo [jn 5] [0,3,5] (.seq (jo [jm 8 0,je 9 8,jc 10 0] [3,5,8,9,10] (.block 0 (.loop (jo [jt .lss 11 10 9] [3,5,8,9,10,11] (.seq (.cond (.t 11) .skip (.exit 0)) (.seq (.block 1 (jo [ji 12 2 8 10,jk 13 2 12,jw 7 (.alloc 52 2 [.int .i64 0,.int .i64 0]),js 2 7 13] [3,5,7,8,9,10] (.ops [jm 14 5,jf 15 0 7,jl 16 15,jf 17 0 3,jl 18 17,jt .add 19 16 18,jf 20 1 7,jl 21 20,jf 22 1 3,jl 23 22,jt .add 24 21 23,jw 25 (.build [.int .i64 0,.int .i64 0] [(0,1,(.t 19)),(1,1,(.t 24))]),jw 26 (.jR false 52 2 1 [.int .i64 0,.int .i64 0] [(0,2,(.t 25))]),jw 27 (.app 52 2 16 (.t 14) (.t 26)),jm 5 27] [3,5,8,9,10]))) (.ops [ju .add 28 10 1,jm 10 28] [3,5,8,9,10]))))))) (jo [jm 29 5,jm 4 29] [4] .ret)))) [.t 4] Tryz.call304 Tryz.func304 ?_
 obtain⟨c1,c2,c3⟩:=hc
 ((first|refine vn rfl ?_|simp(disch:=omega) only[cB,aj]|refine bo (fun _=>?_) fun _=>?_|refine im fun _=>?_|refine cF ?_|refine om ?_|refine an ?_|fail)<;>try simp only[zN,zT,zV,zS,zU,dC,ex,bu,bN,elems,cells,scalar,dH,bL,aX,aU,bJ,bI,Nat.reduceBEq,reduceAdd,reduceSub,reduceLT,reduceLeDiff,reduceMul,reduceEqDiff,reduceIte])
 ((first|refine vn rfl ?_|simp(disch:=omega) only[cB,aj]|refine bo (fun _=>?_) fun _=>?_|refine im fun _=>?_|refine cF ?_|refine om ?_|refine an ?_|fail)<;>try simp only[zN,zT,zV,zS,zU,dC,ex,bu,bN,elems,cells,scalar,dH,bL,aX,aU,bJ,bI,Nat.reduceBEq,reduceAdd,reduceSub,reduceLT,reduceLeDiff,reduceMul,reduceEqDiff,reduceIte])
 refine aR.oC 52 2 5 rfl ?_
 ((refine Au ?_;repeat' constructor)<;>intros<;>refine aP ?_)
 refine aR.mT (α:={x:Nat×aG//x.1<=l.length}) [5,10] (fun x=>[(5,.own 0 0 (wide (l.take x.1.1) c).length),(10,n x.1.1)]) (fun x=>some [jJ (wide (l.take x.1.1) c)]::x.1.2) (fun x=>l.length-x.1.1) ⟨(0,[]),by simp⟩ ?_ ?_ ?_
 ·(simp only[zN,zT,zV,zS,zU,dC,ex,bu,bN,elems,cells,scalar,dH,bL,aX,aU,bJ,bI,Nat.reduceBEq,reduceAdd,reduceSub,reduceLT,reduceLeDiff,reduceMul,reduceEqDiff,reduceIte];try simp)
  simp[wide]
 ·simp[wide]
 rintro⟨⟨k,μ⟩,hk⟩
 simp only at hk
 have hw1:=E6 (l.take k) c
 rw[bH]at hw1
 by_cases bP:k<l.length
 ·obtain⟨s,hs⟩:∃s,l[k]?=some s:=⟨_,ae bP⟩
  have TF:=hb s (ao hs)
  have l_:wide (l.take (k+1)) c=wide (l.take k) c++[⟨s.lo+c.lo,s.hi+c.hi⟩]:=by rw[ey hs];simp[wide]
  simp only
  generalize wide (l.take k) c=A at*
  (repeat' ((first|refine vn rfl ?_|simp(disch:=omega) only[cB,aj]|refine bo (fun _=>?_) fun _=>?_|refine im fun _=>?_|refine cF ?_|refine om ?_|refine an ?_|fail)<;>try simp only[zN,zT,zV,zS,zU,dC,ex,bu,bN,elems,cells,scalar,dH,bL,aX,aU,bJ,bI,Nat.reduceBEq,reduceAdd,reduceSub,reduceLT,reduceLeDiff,reduceMul,reduceEqDiff,reduceIte,getD_map hs,hw1,aD]))
  all_goals try(exfalso;omega)
  exact⟨⟨(k+1,μ++[some [⟨52,2,[s.cs],none⟩]]),bP⟩,⟨by rw[l_];simp[hw1],by simp⟩,by rw[l_];simp,by simp only;omega⟩
 ·obtain rfl:k=l.length:=by omega
  rw[aI]
  ((refine Au ?_;repeat' constructor)<;>intros<;>refine aP ?_)
  exact C8 rfl
theorem Dh{σ:aG}{f i:Nat}{o o':Ob}:(σ.cZ f i o).cZ f i o'=σ.cZ f i o':=by
 unfold aG.cZ
 cases h:σ[f]? with
 |none=>simp[h]
 |some F=>
  cases F with
  |none=>simp[h]
  |some F=>
   have bP:=(ai.1 h).1
   simp[cp bP]
theorem gG{α:Type}(f:Nat->α){N i:Nat}{d:α}(h:i<N):((List.range N).map f).getD i d=f i:=by simp[ab,h]
theorem ea{α:Type}{f g:Nat->α}{N:Nat}(h:∀j,j<N->f j=g j):(List.range N).map f=(List.range N).map g:=eS fun j hj=>h j (bc.1 hj)
theorem kZ{α:Type}(f:Nat->α)(N c:Nat)(x:α):((List.range N).map f).set c x=(List.range N).map fun j=>if j=c then x else f j:=by
 refine dv fun i=>?_
 rw[bX]
 by_cases hi:c=i
 ·subst hi
  by_cases hc:c<N
  ·simp[hc]
  ·simp[hc]
 ·have:¬i=c:=fun e=>hi e.symm
  by_cases hc:i<N
  ·simp[hi,hc,this]
  ·simp[hi,hc]
def kR(G m N:Nat):List (List AV):=(List.range N).map fun c=>if c<m then [.own (G+c) 0 0]else [.v (.slice none 0 0)]
theorem aR.Ir{P:Program}{N0:Nat}{rd:Option Nat}{K:e7}{env:Env}{σ:aG}{c:C}{A N T T' k':Nat}(ho:σ.at A 0=some ⟨T,1,List.replicate N [.v (.slice none 0 0)],none⟩)(h:aR P N0 rd c K env (σ.cZ A 0 ⟨T,1,kR σ.length N N,none⟩++List.replicate N (some [⟨T',k',[],none⟩]))):aR P N0 rd c K env σ:=by
 have hA:=dU ho
 have main:∀j,j<=N->aR P N0 rd c K env (σ.cZ A 0 ⟨T,1,kR σ.length (N-j) N,none⟩++List.replicate (N-j) (some [⟨T',k',[],none⟩])):=by
  intro j
  induction j with
  |zero=>intro _;exact h
  |succ j ih=>
   intro hj
   have ih:=ih (by omega)
   obtain⟨m,hm⟩:∃m,N-j=m+1:=⟨N-j-1,by omega⟩
   have Tn:N-(j+1)=m:=by omega
   rw[hm]at ih
   rw[Tn]
   have ZZ:m<N:=by omega
   have dQ:aG.at (σ.cZ A 0 ⟨T,1,kR σ.length m N,none⟩++List.replicate m (some [⟨T',k',[],none⟩])) A 0=some ⟨T,1,kR σ.length m N,none⟩:=by
    rw[cI (by rw[eW];exact hA)];exact cu ho
   refine aR.lH T' k' (f:=A) (i:=0) (e:=m) (j:=0) dQ (by simp[kR];exact ZZ) (by simp[kR,ab,ZZ]) ?_
   have e1:(kR σ.length m N).set m (((kR σ.length m N).getD m []).set 0 (.own (σ.length+m) 0 0))=kR σ.length (m+1) N:=by
    refine dv fun i=>?_
    rw[bX]
    by_cases hi:m=i
    ·subst hi
     simp[kR,ZZ,ab]
    ·simp only[hi,if_false]
     simp only[kR,aV]
     by_cases hiN:i<N
     ·simp only[cH hiN,aY]
      have:(i<m)↔(i<m+1):=by omega
      simp only[this]
     ·simp[b_,hiN]
   have e2:List.length (σ.cZ A 0 ⟨T,1,kR σ.length m N,none⟩++List.replicate m (some [⟨T',k',[],none⟩]))=σ.length+m:=by simp[eW]
   rw[e2]
   simp only
   rw[e1]
   have e3:aG.cZ (σ.cZ A 0 ⟨T,1,kR σ.length m N,none⟩++List.replicate m (some [⟨T',k',[],none⟩])++[some [⟨T',k',[],none⟩]]) A 0 ⟨T,1,kR σ.length (m+1) N,none⟩=σ.cZ A 0 ⟨T,1,kR σ.length (m+1) N,none⟩++List.replicate (m+1) (some [⟨T',k',[],none⟩]):=by
    rw[aW,iR (by rw[eW];exact hA)]
    congr 1
    ·exact Dh
    ·rw[List.replicate_succ']
   rw[e3]
   exact ih
 have:=main N (ar _)
 rw[jr]at this
 simp only[List.replicate_zero,bb]at this
 have e:kR σ.length 0 N=List.replicate N [.v (.slice none 0 0)]:=by
  refine dv fun i=>?_
  simp only[kR,aV,fl]
  by_cases hi:i<N
  ·simp[hi]
  ·simp[hi]
 rw[e,j8 ho]at this
 exact this
def wa(σ:aG)(A G N:Nat)(R:Nat->List Sp):Prop:=
 σ.at A 0=some ⟨56,1,(List.range N).map fun(j:Nat)=>[.own (G+j) 0 (R j).length],none⟩/\∀j,j<N->σ.at (G+j) 0=some (jJ (R j))
theorem wa.congr{σ:aG}{A G N:Nat}{R R':Nat->List Sp}(h:wa σ A G N R)(hR:∀j,j<N->R' j=R j):wa σ A G N R':=by
 refine⟨?_,fun j hj=>by rw[hR j hj];exact h.2 j hj⟩
 rw[h.1,ea (f:=fun(j:Nat)=>[AV.own (G+j) 0 (R j).length]) (g:=fun(j:Nat)=>[.own (G+j) 0 (R' j).length]) fun j hj=>by rw[hR j hj]]
theorem wa.frame{σ σ':aG}{A G N:Nat}{R:Nat->List Sp}(h:wa σ A G N R)(hA:σ'.at A 0=σ.at A 0)(hG:∀j,j<N->σ'.at (G+j) 0=σ.at (G+j) 0):wa σ' A G N R:=
 ⟨by rw[hA];exact h.1,fun j hj=>by rw[hG j hj];exact h.2 j hj⟩
theorem wa.app{σ:aG}{A G N:Nat}{R:Nat->List Sp}(h:wa σ A G N R)(ν:aG):wa (σ++ν) A G N R:=
 h.frame (cI (dU h.1)) fun j hj=>cI (dU (h.2 j hj))
def zo(σ:aG)(A G N c:Nat)(R:Nat->List Sp)(l:List Sp):aG:=
 (σ.cZ (G+c) 0 (jJ l)).cZ A 0 ⟨56,1,((List.range N).map fun(j:Nat)=>[AV.own (G+j) 0 (R j).length]).set c [.own (G+c) 0 l.length],none⟩
theorem MM{σ:aG}{A G N c:Nat}{R:Nat->List Sp}{v:List Sp}:(zo σ A G N c R v).length=σ.length:=by rw[zo,eW,eW]
theorem PT{σ:aG}{A G N c:Nat}{R:Nat->List Sp}{v:List Sp}{i:Nat}(h:i≠A)(h':i≠G+c):(zo σ A G N c R v).at i 0=σ.at i 0:=by
 rw[zo,cx (.inl fun e=>h e.symm),cx (.inl fun e=>h' e.symm)]
theorem MN{σ:aG}{A G N c:Nat}{R:Nat->List Sp}{v:List Sp}(h:wa σ A G N R)(hAG:A<G)(hc:c<N):wa (zo σ A G N c R v) A G N (fun j=>if j=c then v else R j):=by
 have h1:(σ.cZ (G+c) 0 (jJ v)).at A 0=some ⟨56,1,(List.range N).map fun(j:Nat)=>[.own (G+j) 0 (R j).length],none⟩:=by rw[cx (.inl (by omega))];exact h.1
 refine⟨?_,fun j hj=>?_⟩
 ·rw[zo,cu h1,kZ]
  refine congrArg (fun z=>some (⟨56,1,z,none⟩:Ob)) (ea fun j hj=>?_)
  by_cases uP:j=c
  ·subst uP;simp
  ·simp[uP]
 ·rw[zo,cx (.inl (by omega))]
  by_cases uP:j=c
  ·subst uP;rw[cu (h.2 j hj)];simp
  ·rw[cx (.inl (by omega)),h.2 j hj];simp[uP]
theorem MO(τ:aG)(a c:Option (List Ob))(o0:Ob)(N:Nat)(lN:aG)(h:lN=aG.cZ (τ++[a,some [o0],c]) (List.length τ+1) 0 ⟨56,1,kR (List.length (τ++[a,some [o0],c])) N N,none⟩++List.replicate N (some [jJ []])):lN.length=List.length τ+3+N/\wa lN (List.length τ+1) (List.length τ+3) N (fun _=>[])/\lN.at (List.length τ+2) 0=aG.at [c] 0 0/\lN.at (List.length τ) 0=aG.at [a] 0 0/\∀i,i<List.length τ->lN.at i 0=τ.at i 0:=by
 have e0:List.length (τ++[a,some [o0],c])=List.length τ+3:=by simp
 rw[fC,e0]at h
 have e1:lN=τ++(a::some [⟨56,1,kR (List.length τ+3) N N,none⟩]::c::List.replicate N (some [jJ []])):=by
  rw[h,r7,rZ];simp
 subst e1
 refine⟨by simp;omega,⟨?_,fun j hj=>?_⟩,?_,?_,fun i hi=>cI hi⟩
 ·rw[dR,cQ,uz]
  simp only[cg,kR]
  exact congrArg (fun z=>some (⟨56,1,z,none⟩:Ob)) (ea fun j hj=>by rw[if_pos hj];rfl)
 ·rw[show List.length τ+3+j=List.length τ+(j+1+1+1) by omega,dR,cQ,cQ,cQ]
  unfold aG.at
  simp[hj]
 ·rw[dR,cQ,cQ]
  cases c<;>simp[aG.at]
 ·rw[dV]
  cases a<;>simp[aG.at]
def rz(σ:aG)(c:AV)(x:List (List Sp)):Prop:=c=mZ x\/∃f,c=.own f 0 x.length/\σ.at f 0=some ⟨56,1,x.map (fun l=>[iT l]),none⟩
theorem rz.app{σ:aG}{c:AV}{x:List (List Sp)}(h:rz σ c x)(ν:aG):rz (σ++ν) c x:=by
 rcases h with h|⟨f,h1,h2⟩
 ·exact .inl h
 ·exact .inr ⟨f,h1,by rw[cI (dU h2)];exact h2⟩
theorem MP{σ:aG}{f:Nat}{x:List (List Sp)}(h:σ.at f 0=some ⟨56,1,x.map (fun l=>[iT l]),none⟩):bO σ (.own f 0 x.length) (mZ x):=by
 refine bO.own (o:=⟨56,1,x.map (fun l=>[iT l]),none⟩) (es:=x.map fun l=>[iT l]) (show(1:Nat)≠0 by decide) h (by simp) (by simp) (fun e j he hj=>?_) fun e he=>?_
 ·obtain⟨l,hl⟩:∃l,x[e]?=some l:=⟨_,ae he⟩
  rw[getD_map hl]
  match j,hj with
  |0,_=>exact Fq
 ·obtain⟨l,hl⟩:∃l,x[e]?=some l:=⟨_,ae he⟩
  rw[getD_map hl];rfl
theorem rz.Wo{σ:aG}{c:AV}{x:List (List Sp)}(h:rz σ c x):bO σ c (mZ x):=by
 rcases h with rfl|⟨f,rfl,h2⟩
 ·exact Fq
 ·exact MP h2
end Go.Proofs.YtgopgjnfhkoomaaGreat
