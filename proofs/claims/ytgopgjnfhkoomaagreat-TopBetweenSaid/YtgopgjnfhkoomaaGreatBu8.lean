/- Part 8 of the texts: abstract values over the walk; contracts. -/
import Derived.Test.YtgopgjnfhkoomaaGreatBu6
import Derived.Test.YtgopgjnfhkoomaaGreatBu7
import Derived.Test.YtgopgjnfhkoomaaGreatRows
import Derived.Shelf.SlGeneric
import Derived.Shelf.SlSortCmp.WholeK
import Derived.Test.YtgopgjnfhkoomaaGreatProg
import Derived.Shelf.Spec.SlicesGrow
set_option linter.unusedVariables false
set_option linter.unusedSimpArgs false
namespace Go.Proofs.YtgopgjnfhkoomaaGreat
open Go.Abs
open Nat (reduceAdd reduceSub reduceLT reduceLeDiff reduceMul reduceEqDiff)
set_option maxHeartbeats 4000000
set_option maxRecDepth 100000
abbrev iT(l:List Sp):AV:=.sl 2 (l.map Sp.cs)
abbrev jJ(l:List Sp):Ob:=⟨52,2,l.map Sp.cs,none⟩
abbrev mZ(x:List (List Sp)):AV:=.sl 1 (x.map fun l=>[iT l])
abbrev GR(x:List (List (List Sp))):AV:=.sl 1 (x.map fun l=>[mZ l])
@[simp] theorem Rs(l:List Sp):bC (iT l):=bC.sl fun e he c hc=>by
 obtain⟨x,_,rfl⟩:=aO.1 he
 simp only[Sp.cs,aC,au,or_false]at hc
 rcases hc with rfl|rfl<;>exact bC.v _
@[simp] theorem Yg(x:List (List Sp)):bC (mZ x):=bC.sl fun e he c hc=>by
 obtain⟨x,_,rfl⟩:=aO.1 he
 simp only[aC,au,or_false]at hc
 subst hc;exact Rs x
@[simp] theorem aeM(x:List (List (List Sp))):bC (GR x):=bC.sl fun e he c hc=>by
 obtain⟨x,_,rfl⟩:=aO.1 he
 simp only[aC,au,or_false]at hc
 subst hc;exact Yg x
theorem C8{σ:aG}{f i:Nat}{l:List Sp}(h:σ.at f i=some (jJ l)):bO σ (.own f i l.length) (iT l):=by
 refine bO.own (o:=jJ l) (es:=l.map Sp.cs) (show(2:Nat)≠0 by decide) h (by simp) (by simp) (fun e j he hj=>?_) fun e he=>?_
 ·obtain⟨x,hx⟩:∃x,l[e]?=some x:=⟨_,ae he⟩
  rw[getD_map hx]
  match j,hj with
  |0,_=>exact Fq
  |1,_=>exact Fq
 ·obtain⟨x,hx⟩:∃x,l[e]?=some x:=⟨_,ae he⟩
  rw[getD_map hx];rfl
theorem C9{σ:aG}{f i m:Nat}(l:List Sp)(h:σ.at f i=some (jJ l))(hm:m=l.length):bO σ (.own f i m) (iT l):=hm▸C8 h
theorem xY(l:List Sp):∀e,e<l.length->((l.map Sp.cs).getD e []).length=2:=fun e he=>by
 obtain⟨x,hx⟩:∃x,l[e]?=some x:=⟨_,ae he⟩
 rw[getD_map hx];rfl
def oj(l:List Sp):Nat->Int
 |0=>-100002
 |i+1=>match l[i]? with|some s=>s.hi|none=>0
def C_(l:List Sp)(i:Nat):Prop:=iV (l.take i)
theorem Ty(l:List Sp):C_ l 0:=⟨by simp[Norm],by simp⟩
theorem JE{a:List Sp}{u s:Sp}(h:Norm (a++[u])):Norm (a++[u]++[s])↔s.lo<=s.hi/\u.hi+1<s.lo:=by
 rw[jH]
 constructor
 ·rintro⟨_,h2,h3⟩;exact⟨h2.1,h3 u (by simp) s (by simp)⟩
 ·rintro⟨h2,h3⟩
  refine⟨h,⟨h2,fun t ht=>absurd ht (au),trivial⟩,fun w hw t ht=>?_⟩
  obtain rfl:t=s:=by simpa using ht
  rcases bm.1 hw with hw|hw
  ·have h4:=(jH.1 h).2.2 w hw u (by simp)
   have h5:=h.ne u (by simp)
   omega
  ·obtain rfl:w=u:=by simpa using hw
   exact h3
theorem JF{l:List Sp}{i:Nat}{s:Sp}(hs:l[i]?=some s)(h:C_ l i):C_ l (i+1)↔oj l i+2<=s.lo/\s.lo<=s.hi/\s.hi<=100000:=by
 unfold C_ iV at h|-
 cases i with
 |zero=>
  rw[ba,hs]
  simp only[List.take_zero,Option.toList_some,aK,oj]
  simp[Norm]
  omega
 |succ i=>
  obtain⟨u,hu⟩:∃u,l[i]?=some u:=⟨_,ae (by have:=(ai.1 hs).1;omega)⟩
  have e1:l.take (i+1)=l.take i++[u]:=by rw[ba,hu];rfl
  have e2:l.take (i+1+1)=l.take i++[u]++[s]:=by rw[ba,hs,e1];rfl
  simp only[oj,hu]
  rw[e1]at h
  rw[e2,JE h.1]
  have hub:=h.2 u (by simp)
  have aa5:=h.1.ne u (by simp)
  constructor
  ·rintro⟨h1,h2⟩
   have:=h2 s (by simp)
   omega
  ·rintro⟨h1,h2,h3⟩
   refine⟨by omega,fun w hw=>?_⟩
   rcases bm.1 hw with hw|hw
   ·exact h.2 w hw
   ·obtain rfl:w=s:=by simpa using hw
    omega
theorem JG{l:List Sp}(h:iV l)(i:Nat):C_ l i:=by
 obtain⟨h1,h2⟩:=h
 rw[<-e_ i l]at h1
 exact⟨(jH.1 h1).1,fun s hs=>h2 s (dx hs)⟩
theorem JH{l:List Sp}(h:C_ l l.length):iV l:=by
 unfold C_ at h
 rwa[aI]at h
theorem JI{l:List Sp}{i:Nat}(h:C_ l i)(hi:i<=l.length):-100002<=oj l i/\oj l i<=100000:=by
 cases i with
 |zero=>simp[oj]
 |succ i=>
  obtain⟨u,hu⟩:∃u,l[i]?=some u:=⟨_,ae (by omega)⟩
  have:=h.2 u (by rw[ba,hu];simp)
  have h2:=h.1.ne u (by rw[ba,hu];simp)
  simp only[oj,hu];omega
theorem EV{l:List Sp}{i:Nat}{s:Sp}(hs:l[i]?=some s):oj l (i+1)=s.hi:=by simp[oj,hs]
theorem GS(l:List Sp)(hl:l.length<9223372036854775808):Pure Tryz.prog 108 [iT l] (bl (tr (iV l))):=by
 refine jX Tryz.f108.eq_1 [] [.l [3,6,7,8]] ?_
 refine Au ?_;intros
 refine aR.mT (α:={x:Nat×aG//x.1<=l.length/\C_ l x.1}) [3,8] (fun x=>[(3,n (oj l x.1.1)),(8,n x.1.1)]) (fun x=>x.1.2) (fun x=>l.length-x.1.1) ⟨(0,[]),by simp,Ty l⟩ ?_ rfl ?_
 ·(simp only[zN,zT,zV,zS,zU,dC,ex,bu,bN,elems,cells,scalar,dH,bL,aX,aU,bJ,bI,Nat.reduceBEq,reduceAdd,reduceSub,reduceLT,reduceLeDiff,reduceMul,reduceEqDiff,reduceIte];try simp)
  simp[oj]
 ·rintro⟨⟨i,τ⟩,hi,hb⟩
  simp only at hi hb
  have hlb:=JI hb hi
  by_cases bP:i<l.length
  ·obtain⟨s,hs⟩:∃s,l[i]?=some s:=⟨_,ae bP⟩
   have hn:=JF hs hb
   have UE:=EV hs
   (refine Ax (Kf hs) ?_ (CM ?_)<;>intros)
   ·rename_i h
    rw[yN (fun g=>?_)]
    ·exact Fq
    ·have:=hn.1 (JG g (i+1));omega
   ·rename_i h
    exact⟨⟨(i+1,_),bP,hn.2 (by omega)⟩,by simp[UE],rfl,by simp only;omega⟩
  ·obtain rfl:i=l.length:=by omega
   refine Au ?_;intros
   rw[tE (JH hb)]
   exact Fq
theorem iH(l:List Sp)(hl:l.length<9223372036854775808):Pure Tryz.prog 53 [iT l] (bl (tr (small l))):=by
 refine jX Tryz.f53.eq_1 [] [] ?_
 refine Ay (GS l hl) ?_;intros
 all_goals exact bO.eq (congrArg bl (decide_eq_decide.2 ⟨fun h=>⟨by omega,h.2⟩,fun h=>⟨by have:=h.1;omega,h.2⟩⟩)) (by simp)
theorem AW(s:Sp):Pure Tryz.prog 300 [.agg s.cs] (bl (decide (-100000<=s.lo/\s.lo<=s.hi/\s.hi<=100000))):=by
 refine jX Tryz.f300.eq_1 [] [] ?_
 refine Au ?_;intros
 all_goals exact bO.eq (congrArg bl (decide_eq_decide.2 (by omega))) (by simp)
abbrev EW(l:List Sp):List (List AV):=l.map fun s=>[.agg s.cs]
theorem Ii{l:List Sp}{i:Nat}{s:Sp}(h:l[i]?=some s):(EW l)[i]?=some [.agg s.cs]:=by simp[EW,h]
inductive fi(C:Nat)(J:Nat->aG->Prop)(D:aG->Prop)(m:Nat)(iX:aG):Prop
 |mk(τ ν:aG)(h:iX=τ++ν)(hl:τ.length=C)(hj:J m τ\/D τ)
theorem fi.out{C:Nat}{J:Nat->aG->Prop}{D:aG->Prop}{m:Nat}{iX:aG}:fi C J D m iX->∃τ ν,iX=τ++ν/\τ.length=C/\(J m τ\/D τ)
 |⟨τ,ν,h,hl,hj⟩=>⟨τ,ν,h,hl,hj⟩
theorem w5(l:List Sp)(hl:l.length<9223372036854775808):Iter Tryz.prog 180 [] [.bZ [iT l] 0] (EW l):=by
 refine⟨Tryz.call180,fun C y J D σ hy hC hJ ew=>?_⟩
 refine eY.mono (R:=fun _ iX=>fi C J D (EW l).length iX) ?_ fun _ _ h=>h.out
 refine Fi Tryz.f180.eq_1 [] [.l [0,5,6,7]] ?_
 refine Au ?_;intros
 refine aR.lr (α:={x:Nat×aG×aG//x.1<=l.length/\x.2.1.length=C/\J x.1 x.2.1}) [7] (fun x=>[(7,n x.1.1)]) (fun x=>x.1.2.1++x.1.2.2) (fun x=>l.length-x.1.1) ⟨(0,σ,[]),by simp,hC,hJ⟩ ?_
 ·rintro⟨⟨k,τ,ν⟩,hk,pD,ze⟩
  simp only at hk pD ze
  by_cases bP:k<l.length
  ·obtain⟨s,hs⟩:∃s,l[k]?=some s:=⟨_,ae bP⟩
   refine Ax (Kf hs) ?_;intros
   refine .inr (.inr ⟨y,_,rfl,fun _=>⟨ew k _ τ _ (Ii hs) pD ze,?_⟩,fun h=>by cases h⟩)
   rintro b σ' ⟨iv,gz,rfl,jW,xe,CG⟩
   refine aH ?_
   refine adL ?_
   cases b with
   |false=>
    refine Au ?_;intros
    exact fi.mk iv _ rfl jW (.inr (CG rfl))
   |true=>
    refine Au ?_;intros
    exact⟨⟨(k+1,iv,_),bP,jW,xe rfl⟩,by simp,rfl,by simp only;omega⟩
  ·obtain rfl:k=l.length:=by omega
   refine Au ?_;intros
   exact fi.mk τ _ rfl pD (.inl (by simpa using ze))
theorem MG{a b:List Sp}(h:a=[]\/b=[]):comm a b=[]:=by
 rcases h with rfl|rfl
 ·rw[comm]
 ·cases a<;>rw[comm]
theorem JJ(s t:Sp)(a b:List Sp):comm (s::a) (t::b)=(if(s.cap t).lo<=(s.cap t).hi then [s.cap t]else [])++(if s.hi<t.hi then comm a (t::b)else comm (s::a) b):=by rw[comm]
theorem BK{α:Type}{l r:List α}{m:Nat}{x:α}(h:l.drop m=x::r):l[m]?=some x/\l.drop (m+1)=r:=by
 have h1:(l.drop m)[0]?=some x:=by rw[h];rfl
 rw[ez,eE]at h1
 refine⟨h1,?_⟩
 have:=congrArg List.tail h
 simpa using this
theorem EX(a b:List Sp)(ha:a.length<9223372036854775808)(hb:b.length<9223372036854775808):Iter Tryz.prog 305 [] [.bZ [iT a] 0,.bZ [iT b] 0] (EW (comm a b)):=by
 refine⟨Tryz.call305,fun C y J D σ hy hC hJ ew=>?_⟩
 refine eY.mono (R:=fun _ iX=>fi C J D (EW (comm a b)).length iX) ?_ fun _ _ h=>h.out
 refine Fi Tryz.f305.eq_1 [] [.l [0,1,2,4,5],.d 11,.d 24] ?_
 refine Au ?_;intros
 refine aR.mT (α:={x:Nat×Nat×Nat×aG×aG//x.1<=a.length/\x.2.1<=b.length/\(comm a b).drop x.2.2.1=comm (a.drop x.1) (b.drop x.2.1)/\x.2.2.1<=(comm a b).length/\x.2.2.2.1.length=C/\J x.2.2.1 x.2.2.2.1}) [4,5]
  (fun x=>[(4,n x.1.1),(5,n x.1.2.1)]) (fun x=>x.1.2.2.2.1++x.1.2.2.2.2) (fun x=>(a.length-x.1.1)+(b.length-x.1.2.1)) ⟨(0,0,0,σ,[]),by simp,by simp,by simp,by simp,hC,hJ⟩ ?_ ?_ ?_
 ·exact Sb_
 ·simp
 ·rintro⟨⟨i,k,m,τ,ν⟩,hi,hk,hd,hm,pD,Ij⟩
  simp only at hi hk hd hm pD Ij
  by_cases bP:i<a.length/\k<b.length
  ·obtain⟨Yh,X8⟩:=bP
   obtain⟨s,hs⟩:∃s,a[i]?=some s:=⟨_,ae Yh⟩
   obtain⟨t,ht⟩:∃t,b[k]?=some t:=⟨_,ae X8⟩
   rw[drop_cons hs,drop_cons ht,JJ]at hd
   have Wa:∀m',(comm a b).drop m'=(if s.hi<t.hi then comm (a.drop (i+1)) (t::b.drop (k+1))else comm (s::a.drop (i+1)) (b.drop (k+1)))->
    (s.hi<t.hi->(comm a b).drop m'=comm (a.drop (i+1)) (b.drop k))/\(¬s.hi<t.hi->(comm a b).drop m'=comm (a.drop i) (b.drop (k+1))):=fun m' h=>
    ⟨fun hc=>by rw[h,if_pos hc,drop_cons ht],fun hc=>by rw[h,if_neg hc,drop_cons hs]⟩
   have hs1:aG.at (τ++(ν++[some [⟨52,2,[(s.cap t).cs],none⟩]])) (List.length τ+List.length ν) 0=some ⟨52,2,[(s.cap t).cs],none⟩:=by rw[dR,dV];rfl
   by_cases hc:(s.cap t).lo<=(s.cap t).hi
   ·rw[if_pos hc]at hd
    obtain⟨hx,FV⟩:=BK hd
    have hn:=Wa _ FV
    have Gr:=(ai.1 hx).1
    refine Ax (aa (Kf hs) (Kf ht)) ?_;intros
    refine .inr (.inr ⟨y,_,rfl,fun _=>⟨ew m _ τ _ (Ii hx) pD Ij,?_⟩,fun h=>absurd hc (of_decide_eq_false h)⟩)
    rintro b σ' ⟨iv,gz,rfl,jW,xe,CG⟩
    refine aH ?_
    have ZQ:decide ((s.cap t).lo<=(s.cap t).hi)=true:=decide_eq_true hc
    simp only[ZQ]
    refine adL ?_
    cases b with
    |false=>
     refine Au ?_;intros
     exact fi.mk iv _ rfl jW (.inr (CG rfl))
    |true=>
     (refine Ax (aa (Kf hs) (Kf ht)) ?_ (CM ?_)<;>intros)
     ·rename_i h9
      exact⟨⟨(i+1,k,m+1,iv,_),Yh,hk,hn.1 h9,Gr,jW,xe rfl⟩,by simp,rfl,by simp only;omega⟩
     ·rename_i h9
      exact⟨⟨(i,k+1,m+1,iv,_),hi,X8,hn.2 h9,Gr,jW,xe rfl⟩,by simp,rfl,by simp only;omega⟩
   ·rw[if_neg hc,aK]at hd
    have hn:=Wa _ hd
    refine Ax (aa (Kf hs) (Kf ht)) ?_;intros
    refine .inr (.inr ⟨y,fun _ _=>False,rfl,fun h=>absurd (of_decide_eq_true h) hc,fun _=>?_⟩)
    refine aH ?_
    have ZQ:decide ((s.cap t).lo<=(s.cap t).hi)=false:=decide_eq_false hc
    simp only[ZQ]
    (refine Ax (aa (Kf hs) (Kf ht)) ?_ (CM ?_)<;>intros)
    ·rename_i h9
     exact⟨⟨(i+1,k,m,τ,_),Yh,hk,hn.1 h9,hm,pD,Ij⟩,by simp,rfl,by simp only;omega⟩
    ·rename_i h9
     exact⟨⟨(i,k+1,m,τ,_),hi,X8,hn.2 h9,hm,pD,Ij⟩,by simp,rfl,by simp only;omega⟩
  ·have te:comm (a.drop i) (b.drop k)=[]:=MG (by
    rcases cm i a.length with h|h
    ·exact .inr (fG (by omega))
    ·exact .inl (fG h))
   rw[te]at hd
   have:m=(comm a b).length:=by have:=List.drop_eq_nil_iff.1 hd;omega
   subst this
   by_cases Yh:i<a.length
   ·refine Au ?_;intros
    exact fi.mk τ _ rfl pD (.inl (by simpa using Ij))
   ·refine Au ?_;intros
    exact fi.mk τ _ rfl pD (.inl (by simpa using Ij))
theorem kQ(l:List Sp):Pure Tryz.prog 111 [iT l] (.fn (.func 180) [] [.bZ [iT l] 0]):=by
 refine jX Tryz.f111.eq_1 [] [] ?_
 refine Au ?_;intros
 all_goals exact Fq
theorem EY(a b:List Sp):Pure Tryz.prog 265 [iT a,iT b] (.fn (.func 305) [] [.bZ [iT a] 0,.bZ [iT b] 0]):=by
 refine jX Tryz.f265.eq_1 [] [] ?_
 refine Au ?_;intros
 all_goals exact Fq
inductive Wb(σ:aG)(l:List Sp)(r:AV)(σ':aG):Prop
 |mk(ν:aG)(g:Nat)(h:σ'=σ++ν)(hr:r=.own g 0 l.length)(hg:σ.length<=g)(ho:σ'.at g 0=some (jJ l))
theorem Ik{l:List Sp}{k:Nat}{args:List AV}(h:(EW l)[k]?=some args):∃s,l[k]?=some s/\args=[.agg s.cs]:=by
 simp only[EW,aV,aL]at h
 obtain⟨s,hs,rfl⟩:=h
 exact⟨s,hs,rfl⟩
theorem ey{α:Type}{l:List α}{i:Nat}{s:α}(hs:l[i]?=some s):l.take (i+1)=l.take i++[s]:=by rw[ba,hs];rfl
theorem zf(σ:aG)(it:Nat)(cap:List AV)(l:List Sp)(hl:(l.length:Int)*16<=140737488355328)(lR:Iter Tryz.prog it [] cap (EW l)):eY Tryz.prog 237 [.v (.slice none 0 0),.fn (.func it) [] cap] σ (Wb σ l):=by
 refine Fi Tryz.f237.eq_1 [2] [.l [2]] ?_
 refine adM ?_;intros
 refine aR.lH 52 2 (f:=σ.length) (i:=0) (e:=0) (j:=0) (by rw[dV];rfl) (by simp) rfl ?_
 rw[show aG.cZ (σ++[some [⟨56,1,[[.v (.slice none 0 0)]],none⟩]]++[some [⟨52,2,[],none⟩]]) σ.length 0 {(⟨56,1,[[.v (.slice none 0 0)]],none⟩:Ob)with es:=[[.v (.slice none 0 0)]].set 0 (([[.v (.slice none 0 0)]].getD 0 []).set 0 (.own (List.length (σ++[some [⟨56,1,[[.v (.slice none 0 0)]],none⟩]])) 0 0))}=σ++[some [⟨56,1,[[.own (σ.length+1) 0 0]],none⟩],some [jJ []]] by
  rw[aW,qZ];simp[aG.cZ]]
 refine Au ?_;intros
 refine aR.rL (fun k:{k:Nat//k<=l.length}=>σ++[some [⟨56,1,[[.own (σ.length+1) 0 k.1]],none⟩],some [jJ (l.take k.1)]]) (σ.length+2) (fun _=>by simp) (fun k x=>x.1=k) (fun _ _=>False) (EW l) ⟨0,aQ _⟩
  rfl (by simp) rfl lR (fun k args h=>?_) (fun k x args ll ρ τ hk hx=>?_) (fun x τ hx=>?_) (fun _ _ _ h=>h.elim)
 ·obtain⟨s,hs,rfl⟩:=Ik h
  rfl
 ·obtain⟨x,Wc⟩:=x
  simp only at hx
  subst hx
  obtain⟨s,hs,rfl⟩:=Ik hk
  have mF:=(ai.1 hs).1
  have vZ:=ey hs
  have DS:(l.take x).length=x:=by simp;omega
  have hA:∀ν:aG,aG.at (σ++(some [⟨56,1,[[.own (σ.length+1) 0 x]],none⟩]::some [jJ (l.take x)]::ν)) (σ.length+1) 0=some (jJ (l.take x)):=fun ν=>by rw[dR];rfl
  have hB:∀(o:Ob) (ν:aG),aG.cZ (σ++(some [⟨56,1,[[.own (σ.length+1) 0 x]],none⟩]::some [jJ (l.take x)]::ν)) (σ.length+1) 0 o=σ++(some [⟨56,1,[[.own (σ.length+1) 0 x]],none⟩]::some [o]::ν):=fun o ν=>by rw[fC];rfl
  have hC:∀(f:Nat) (ν:aG),aG.at (σ++(some [⟨56,1,[[.own (σ.length+1) 0 x]],none⟩]::some [jJ (l.take x)]::ν)) (σ.length+(f+2)) 0=aG.at ν f 0:=fun f ν=>by rw[dR];rfl
  simp only[par,aW,aD,aK]
  refine Au ?_;intros
  refine⟨⟨x,Wc⟩,[some [⟨52,2,[s.cs],none⟩]],by simp,fun ox=>?_⟩
  simp only[aW,aD,aK]
  refine Ax (aa @DS (aa @hA (aa @hB @hC))) ?_;intros
  refine⟨⟨x+1,mF⟩,[],?_,rfl⟩
  simp[vZ]
 ·obtain⟨x,Wc⟩:=x
  simp only at hx
  subst hx
  have JK:(EW l).length=l.length:=by simp[EW]
  simp only[JK,aI]
  refine Au ?_;intros
  exact .mk _ (σ.length+1) rfl rfl (by omega) (by rw[dR];rfl)
theorem uJ(σ:aG)(it:Nat)(cap:List AV)(l:List Sp)(hl:(l.length:Int)*16<=140737488355328)(lR:Iter Tryz.prog it [] cap (EW l)):eY Tryz.prog 179 [.fn (.func it) [] cap] σ (Wb σ l):=by
 refine Fi Tryz.f179.eq_1 [] [] ?_
 refine Au ?_;intros
 refine .inr (.inl ⟨_,_,_,_,rfl,fun _=>⟨zf σ it cap l hl lR,?_⟩,fun h=>by cases h⟩)
 rintro res σ' ⟨ν,g,rfl,rfl,hg,ho⟩
 refine aH ?_
 refine Au ?_;intros
 exact .mk ν g rfl rfl hg ho
theorem GU(a b:List Sp)(ha:a.length<9223372036854775808)(hb:b.length<9223372036854775808)(hl:((comm a b).length:Int)*16<=140737488355328):Pure Tryz.prog 224 [iT a,iT b] (iT (comm a b)):=by
 refine jX Tryz.f224.eq_1 [] [] ?_
 refine Ay (EY a b) ?_;intros
 refine .inr (.inl ⟨_,_,_,_,rfl,fun _=>⟨uJ [] 305 _ _ hl (EX a b ha hb),?_⟩,fun h=>by cases h⟩)
 rintro res σ' ⟨ν,g,rfl,rfl,hg,ho⟩
 refine aH ?_
 refine Au ?_;intros
 exact C8 ho
end Go.Proofs.YtgopgjnfhkoomaaGreat
namespace Go.Proofs.YtgopgjnfhkoomaaGreat
open Go.Shelf
def Tryz.JM:Go.Shelf.Ren:=⟨fun|6=>169|15=>228|14=>227|28=>274|29=>275|20=>266|21=>267|22=>268|23=>269|24=>270|25=>271|26=>272|27=>273|46=>306|47=>307|48=>308|49=>309|50=>310|57=>324|n=>n,fun|22=>56|24=>52|25=>234|3=>3|39=>348|0=>0|53=>410|55=>412|4=>4|46=>404|45=>403|50=>361|5=>5|9=>9|66=>457|70=>461|76=>471|77=>370|n=>n,fun|n=>n⟩
theorem Tryz.Wf:Go.Proofs.SlLaysF0.n6 Tryz.prog Tryz.JM:={
 mixed:=by kernel_rfl
 f6:=⟨Tryz.f169.name,by decide,Tryz.func169.trans (congrArg some (by kernel_rfl))⟩
 f14:=⟨Tryz.f227.name,by decide,Tryz.func227.trans (congrArg some (by kernel_rfl))⟩
 f15:=Tryz.func228.trans (congrArg some (by kernel_rfl))
 f20:=⟨Tryz.f266.name,by decide,Tryz.func266.trans (congrArg some (by kernel_rfl))⟩
 f21:=⟨Tryz.f267.name,by decide,Tryz.func267.trans (congrArg some (by kernel_rfl))⟩
 f22:=⟨Tryz.f268.name,by decide,Tryz.func268.trans (congrArg some (by kernel_rfl))⟩
 f23:=⟨Tryz.f269.name,by decide,Tryz.func269.trans (congrArg some (by kernel_rfl))⟩
 f24:=⟨Tryz.f270.name,by decide,Tryz.func270.trans (congrArg some (by kernel_rfl))⟩
 f25:=⟨Tryz.f271.name,by decide,Tryz.func271.trans (congrArg some (by kernel_rfl))⟩
 f26:=⟨Tryz.f272.name,by decide,Tryz.func272.trans (congrArg some (by kernel_rfl))⟩
 f27:=⟨Tryz.f273.name,by decide,Tryz.func273.trans (congrArg some (by kernel_rfl))⟩
 f28:=Tryz.func274.trans (congrArg some (by kernel_rfl))
 f29:=Tryz.func275.trans (congrArg some (by kernel_rfl))
 f46:=⟨Tryz.f306.name,by decide,Tryz.func306.trans (congrArg some (by kernel_rfl))⟩
 f47:=Tryz.func307.trans (congrArg some (by kernel_rfl))
 f48:=Tryz.func308.trans (congrArg some (by kernel_rfl))
 f49:=⟨Tryz.f309.name,by decide,Tryz.func309.trans (congrArg some (by kernel_rfl))⟩
 f50:=⟨Tryz.f310.name,by decide,Tryz.func310.trans (congrArg some (by kernel_rfl))⟩
 f57:=⟨Tryz.f324.name,by decide,Tryz.func324.trans (congrArg some (by kernel_rfl))⟩
 t0:=Tryz.underlying0
 a0:=Tryz.isAgg0
 z0:=Tryz.sizeOf0
 v0:=Tryz.zeroValue0
 t3:=Tryz.underlying3
 a3:=Tryz.isAgg3
 z3:=Tryz.sizeOf3
 v3:=Tryz.zeroValue3
 t4:=Tryz.underlying4
 a4:=Tryz.isAgg4
 z4:=Tryz.sizeOf4
 v4:=Tryz.zeroValue4
 t5:=Tryz.underlying5
 a5:=Tryz.isAgg5
 z5:=Tryz.sizeOf5
 v5:=Tryz.zeroValue5
 t9:=Tryz.underlying9
 a9:=Tryz.isAgg9
 z9:=Tryz.sizeOf9
 v9:=Tryz.zeroValue9
 t22:=Tryz.underlying56
 a22:=Tryz.isAgg56
 z22:=Tryz.sizeOf56
 v22:=Tryz.zeroValue56
 t25:=Tryz.underlying234
 a25:=Tryz.isAgg234
 z25:=Tryz.sizeOf234
 v25:=Tryz.zeroValue234
 t39:=Tryz.underlying348
 a39:=Tryz.isAgg348
 z39:=Tryz.sizeOf348
 v39:=Tryz.zeroValue348
 t45:=Tryz.underlying403
 a45:=Tryz.isAgg403
 z45:=Tryz.sizeOf403
 v45:=Tryz.zeroValue403
 t46:=Tryz.underlying404
 a46:=Tryz.isAgg404
 z46:=Tryz.sizeOf404
 v46:=Tryz.zeroValue404
 t50:=Tryz.underlying361
 a50:=Tryz.isAgg361
 z50:=Tryz.sizeOf361
 v50:=Tryz.zeroValue361
 t53:=Tryz.underlying410
 a53:=Tryz.isAgg410
 z53:=Tryz.sizeOf410
 v53:=Tryz.zeroValue410
 t55:=Tryz.underlying412
 a55:=Tryz.isAgg412
 z55:=Tryz.sizeOf412
 v55:=Tryz.zeroValue412
 t66:=Tryz.underlying457
 a66:=Tryz.isAgg457
 z66:=Tryz.sizeOf457
 v66:=Tryz.zeroValue457
 t70:=Tryz.underlying461
 a70:=Tryz.isAgg461
 z70:=Tryz.sizeOf461
 v70:=Tryz.zeroValue461
 t76:=Tryz.underlying471
 a76:=Tryz.isAgg471
 z76:=Tryz.sizeOf471
 v76:=Tryz.zeroValue471
 t77:=Tryz.underlying370
 a77:=Tryz.isAgg370
 z77:=Tryz.sizeOf370
 v77:=Tryz.zeroValue370}
end Go.Proofs.YtgopgjnfhkoomaaGreat
namespace Go.Proofs.YtgopgjnfhkoomaaGreat
open Go.Abs
open Nat (reduceAdd reduceSub reduceLT reduceLeDiff reduceMul reduceEqDiff)
set_option maxHeartbeats 4000000
set_option maxRecDepth 100000
open Go.Shelf Go.RowKit Go.Lib Go.Sort
abbrev Sb:Type:={s:Sp// -1000000<=s.lo/\s.lo<=1000000}
def TC(a:Sb)(c:List Value):Prop:=c.getD 0 undef=.int .i64 a.1.lo/\c.getD 1 undef=.int .i64 a.1.hi
instance :Inhabited (oD Sb 2 TC):=⟨⟨⟨⟨0,0⟩,by decide⟩,List.replicate 2 (.int .i64 0),by simp,fun v hv=>by rw[(gD.1 hv).2];rfl,rfl,rfl⟩⟩
theorem Im(x:oD Sb 2 TC)(W:World):RV W (fun _=>False) sJ [] (.agg (Sp.cs x.a.1)) (.agg x.c.toArray):=by
 have hk:x.c.length=2:=x.hk
 have h:TC x.a x.c:=x.h
 refine t_ (by rw[hk];rfl) (fun i hi=>?_) fun i hi=>?_
 ·have hi:i<x.c.length:=by rw[hk];exact hi
  rw[ab,ae hi]
  exact x.h1 _ (cv hi)
 ·match i,hi with
  |0,_=>exact h.1.symm▸RV.v _
  |1,_=>exact h.2.symm▸RV.v _
theorem TD(w:World):(isAgg 52).run Tryz.prog w=.ok true w:=by simp[isAgg,run_underlying Tryz.underlying52]
theorem PO(w:World):(Go.sizeOf 52).run Tryz.prog w=.ok 2 w:=by
 have h:nh Tryz.prog 52=some 2:=by kernel_rfl
 obtain⟨i,hi,h2⟩:=fS h
 simp[Go.sizeOf,typeInfo,hi,h2]
structure GX(g:Nat)(cf:Sb->Sb->Int):Prop where
 eg:∀args w,(callFunc g args).run Tryz.prog w=.ok (.enter g args) w
 hc:∀a b:Sb,Pure Tryz.prog g [.agg (Sp.cs a.1),.agg (Sp.cs b.1)] (n (cf a b))
 lt:∀a b:Sb,cf a b<0↔a.1.lo<b.1.lo
theorem GX.swo{g:Nat}{cf:Sb->Sb->Int}(C:GX g cf):SWO (ltOf fun x y:oD Sb 2 TC=>cf x.a y.a):=by
 have e:∀x y:oD Sb 2 TC,ltOf (fun x y:oD Sb 2 TC=>cf x.a y.a) x y=decide (x.a.1.lo<y.a.1.lo):=fun x y=>by
  unfold ltOf;rw[decide_eq_decide];exact C.lt _ _
 refine⟨fun x=>?_,fun x y z h1 h2=>?_,fun x y z h1 h2=>?_⟩<;>simp only[e,decide_eq_true_eq,decide_eq_false_iff_not]at* <;>omega
abbrev bdQ(l:List Sp):Prop:=∀s∈l,-1000000<=s.lo/\s.lo<=1000000
theorem BM{g:Nat}{cf:Sb->Sb->Int}(C:GX g cf)(σ:aG)(f:Nat)(l:List Sp)(hf:σ.at f 0=some (jJ l))(hl:l.length<4611686018427387904)(hK:bdQ l):eY Tryz.prog 169 [.own f 0 l.length,.fn (.func g) [] []] σ (fun _ σ'=>∃l':List Sp,l'.Perm l/\l'.Pairwise (fun a b=>a.lo<=b.lo)/\σ'=σ.cZ f 0 (jJ l')):=by
 obtain⟨lb,rfl⟩:∃lb:List Sb,lb.map (·.1)=l:=⟨l.pmap Subtype.mk hK,by simp[List.map_pmap]⟩
 rw[aF]at*
 refine(BL Tryz.Wf (fun a:Sb=>Sp.cs a.1) TC (fun a=>rfl) (fun w X β σ a x hx hr=>⟨(hr 0 (by decide)).dz,(hr 1 (by decide)).dz⟩)
  TD PO g C.eg cf C.swo (fun x y W=>sV (C.hc x.a y.a) [.agg x.c.toArray,.agg y.c.toArray] W rfl fun i hi=>by
   match i,hi with
   |0,_=>exact Im x W
   |1,_=>exact Im y W) Tryz.call169 σ f 52 lb (by rw[hf,jJ,il];rfl) hl).mono fun r σ' ⟨l',h1,h2,h3⟩=>
  ⟨l'.map (·.1),h1.map _,lM.2 (h2.imp fun{a b} h=>by have:=C.lt b a;omega),by rw[h3,jJ,il];rfl⟩
theorem ZT:GX 110 fun a b=>vR a.1.lo b.1.lo:=by
 refine⟨Tryz.call110,fun a b=>?_,fun a b=>by unfold vR;repeat' split<;>omega⟩
 refine jX Tryz.f110.eq_1 [] [] ?_
 refine Ay (j6 a.1.lo b.1.lo) ?_;intros
 exact Fq
end Go.Proofs.YtgopgjnfhkoomaaGreat
namespace Go.Proofs.YtgopgjnfhkoomaaGreat
open Go.Abs
open Nat (reduceAdd reduceSub reduceLT reduceLeDiff reduceMul reduceEqDiff)
set_option maxHeartbeats 4000000
set_option maxRecDepth 100000
inductive ZU(σ:aG)(Q:List Sp->Prop)(r:AV)(σ':aG):Prop
 |mk(ν:aG)(g:Nat)(l:List Sp)(hq:Q l)(h:σ'=σ++ν)(hr:r=.own g 0 l.length)(hg:σ.length<=g)(ho:σ'.at g 0=some (jJ l))
theorem w7{g:Nat}{cf:Sb->Sb->Int}(C:GX g cf)(σ:aG)(it:Nat)(cap:List AV)(l:List Sp)(hK:bdQ l)(hl:(l.length:Int)*16<=140737488355328)(lR:Iter Tryz.prog it [] cap (EW l)):eY Tryz.prog 109 [.fn (.func it) [] cap,.fn (.func g) [] []] σ (ZU σ fun l'=>l'.Perm l/\l'.Pairwise (fun a b=>a.lo<=b.lo)):=by
 refine Fi Tryz.f109.eq_1 [] [] ?_
 refine Au ?_;intros
 refine .inr (.inl ⟨_,_,_,_,rfl,fun _=>⟨uJ σ it cap l hl lR,?_⟩,fun h=>by cases h⟩)
 rintro res σ' ⟨ν,g,rfl,rfl,hg,ho⟩
 refine aH ?_
 refine Au ?_;intros
 refine .inr (.inl ⟨_,_,_,_,rfl,fun _=>⟨BM C _ g l ho (by omega) hK,?_⟩,fun h=>by cases h⟩)
 rintro res σ' ⟨l',hp,hs,rfl⟩
 refine aH ?_
 refine adL ?_
 have JK:l'.length=l.length:=hp.length_eq
 have UG:=dU ho
 have hu:∀o:Ob,aG.cZ (σ++ν) g 0 o=σ++aG.cZ ν (g-σ.length) 0 o:=fun o=>by
  have:=fC σ ν (g-σ.length) 0 o
  rwa[show σ.length+(g-σ.length)=g by omega]at this
 refine Au ?_;intros
 refine .mk _ g l' ⟨hp,hs⟩ (hu _) (by rw[JK]) hg (cu ho)
theorem p8{α β:Type}{f:β->α->β}{l:List α}{i:Nat}{x:α}{b:β}(h:l[i]?=some x):(l.take (i+1)).foldl f b=f ((l.take i).foldl f b) x:=by
 rw[ey h,eO];rfl
theorem GY(l:List Sp):(merged l).length<=l.length:=by
 suffices h:∀acc,(l.foldl push acc).length<=acc.length+l.length by simpa[merged]using h []
 induction l with
 |nil=>intro acc;simp
 |cons x r ih=>
  intro acc
  have h1:=ih (push acc x)
  have h2:(push acc x).length<=acc.length+1:=by
   rcases dp acc with rfl|⟨i,s,rfl⟩
   ·simp[mS]
   ·rw[dq,mG];split<;>simp
  simp only[cT,bf];omega
theorem Db{l l':List Sp}(hp:l'.Perm l)(hs:l'.Pairwise (fun a b=>a.lo<=b.lo))(iw:∀s∈l,s.lo<=s.hi):merged l'=jI [] l:=by
 have h:=oS l' [] re (fun s nM=>iw s (hp.mem_iff.1 nM)) (fun s h=>absurd h (au)) hs
 refine Norm.ext h.1 (rh l) fun v=>?_
 rw[tD]
 have h2:=h.2 v
 unfold merged at*
 rw[h2]
 constructor
 ·rintro(h|⟨s,hs,h⟩)
  ·exact absurd h Mem.nil
  ·exact⟨s,hp.mem_iff.1 hs,h⟩
 ·rintro⟨s,hs,h⟩;exact .inr ⟨s,hp.mem_iff.2 hs,h⟩
theorem Io{l:List Sp}{x:Sp}{A B:Int}(hl:∀s∈l,A<=s.lo/\s.hi<=B)(hx:A<=x.lo/\x.hi<=B):∀s∈push l x,A<=s.lo/\s.hi<=B:=by
 rcases dp l with rfl|⟨i,s,rfl⟩
 ·simpa[mS]using hx
 ·rw[dq]at hl|-
  rw[mG]
  have hs:=hl s (by simp)
  split
  ·intro u hu
   rcases bm.1 hu with hu|hu
   ·exact hl u (by simp[hu])
   ·obtain rfl:u=⟨s.lo,max s.hi x.hi⟩:=by simpa using hu
    simp only;omega
  ·intro u hu
   rw[show i++[s,x]=(i++[s])++[x] by simp]at hu
   rcases bm.1 hu with hu|hu
   ·exact hl u hu
   ·obtain rfl:u=x:=by simpa using hu
    exact hx
theorem sW{A B:Int}:∀(l acc:List Sp),(∀s∈l,A<=s.lo/\s.hi<=B)->(∀s∈acc,A<=s.lo/\s.hi<=B)->∀s∈l.foldl push acc,A<=s.lo/\s.hi<=B
 | [],acc,_,h=>h
 |x::l,acc,hl,h=>sW l (push acc x) (fun s hs=>hl s (by simp[hs])) (Io h (hl x (by simp)))
theorem EZ(it:Nat)(cap:List AV)(l:List Sp)(hl:(l.length:Int)*16<=140737488355328)(iw:∀s∈l,s.lo<=s.hi)(Dc:∀s∈l,-1000000<=s.lo/\s.hi<=1000000)(lR:Iter Tryz.prog it [] cap (EW l)):Pure Tryz.prog 54 [.fn (.func it) [] cap] (iT (jI [] l)):=by
 refine jX Tryz.f54.eq_1 [] [.l [4,10,11,12],.d 14,.d 14] ?_
 refine Au ?_;intros
 refine .inr (.inl ⟨_,_,_,_,rfl,fun _=>⟨w7 ZT [] it cap l (fun s hs=>⟨(Dc s hs).1,by have:=iw s hs;have:=Dc s hs;omega⟩) hl lR,?_⟩,fun h=>by cases h⟩)
 rintro res ν ⟨_,g,l',⟨hp,hs⟩,rfl,rfl,hg,ho⟩
 refine aH ?_
 refine adL ?_
 have JK:l'.length=l.length:=hp.length_eq
 have UG:=dU ho
 have Wg:∀s∈l',-1000000<=s.lo/\s.hi<=1000000:=fun s hs=>Dc s (hp.mem_iff.1 hs)
 have TE:∀s∈l',s.lo<=s.hi:=fun s hs=>iw s (hp.mem_iff.1 hs)
 rw[<-Db hp hs iw]
 have dN:∀X,aG.at (ν++X) g 0=some (jJ l'):=fun X=>by rw[cI UG];exact ho
 refine adM ?_;intros
 refine aR.oC 52 2 4 rfl ?_
 refine Ax @dN ?_;intros
 refine aR.mT (α:={x:Nat×aG//x.1<=l'.length}) [4,12] (fun x=>[(4,.own ν.length 0 (merged (l'.take x.1.1)).length),(12,n x.1.1)]) (fun x=>ν++(some [jJ (merged (l'.take x.1.1))]::x.1.2)) (fun x=>l'.length-x.1.1) ⟨(0,[]),by simp⟩ ?_ ?_ ?_
 ·(simp only[zN,zT,zV,zS,zU,dC,ex,bu,bN,elems,cells,scalar,dH,bL,aX,aU,bJ,bI,Nat.reduceBEq,reduceAdd,reduceSub,reduceLT,reduceLeDiff,reduceMul,reduceEqDiff,reduceIte];try simp)
  simp[merged]
 ·simp[merged]
 ·rintro⟨⟨k,μ⟩,hk⟩
  simp only at hk
  have Rp:=sW (l'.take k) [] (fun s hs=>Wg s (dx hs)) (by simp)
  have yu:=GY (l'.take k)
  have hnm:Norm (merged (l'.take k)):=(oS (l'.take k) [] re (fun s hs=>TE s (dx hs)) (fun s h=>absurd h (au)) (hs.sublist (xd _ _))).1
  rw[bH]at yu
  by_cases bP:k<l'.length
  ·obtain⟨x,hx⟩:∃x,l'[k]?=some x:=⟨_,ae bP⟩
   have l_:merged (l'.take (k+1))=push (merged (l'.take k)) x:=p8 hx
   have hxb:=Wg x (ao hx)
   have hxn:=TE x (ao hx)
   simp only
   change∀s∈merged (l'.take k),_ at Rp
   generalize merged (l'.take k)=A at*
   have hG:∀X,aG.at (ν++(some [jJ A]::X)) g 0=some (jJ l'):=fun X=>dN _
   have hA:∀X,aG.at (ν++(some [jJ A]::X)) ν.length 0=some (jJ A):=fun X=>by rw[dV];rfl
   have hU:∀(X:aG) (o:Ob),aG.cZ (ν++(some [jJ A]::X)) ν.length 0 o=ν++(some [o]::X):=fun X o=>by rw[qZ];rfl
   rcases dp A with rfl|⟨i,s,hi⟩
   ·refine Ax (aa (Kf hx) (aa @hG (aa @hA @hU))) ?_;intros
    exact⟨⟨(k+1,μ++[some [⟨52,2,[x.cs],none⟩]]),bP⟩,⟨by rw[l_];simp[mS],by simp⟩,by rw[l_];simp[mS],by simp only;omega⟩
   ·rw[dq]at hi
    have ZV:A.length=i.length+1:=by rw[hi];simp
    have hs:A[i.length]?=some s:=by rw[hi];simp
    have TF:=Rp s (by rw[hi];simp)
    have hsn:=hnm.ne s (by rw[hi];simp)
    have hp:push A x=if x.lo<=s.hi+1 then i++[⟨s.lo,max s.hi x.hi⟩]else i++[s,x]:=by rw[hi,mG]
    have hw:IntKind.i64.wrap (((i.length+1:Nat):Int)-1)=(i.length:Int):=by rw[cB _ (by omega) (by omega)];omega
    have nV:(A.map Sp.cs).set i.length [n s.lo,n (max s.hi x.hi)]=(i++[(⟨s.lo,max s.hi x.hi⟩:Sp)]).map Sp.cs:=by rw[hi];simp
    (refine Ax (aa (Kf hx) (aa (Kf hs) (aa @hG (aa @hA (aa @hU (aa @ZV (aa @hw @nV))))))) ?_ (CM ?_)<;>intros)
    all_goals
     rename_i hc
    ·rw[if_pos hc.2]at hp
     exact⟨⟨(k+1,μ++[some [⟨52,2,[x.cs],none⟩]]),bP⟩,⟨by rw[l_,hp];simp,by simp⟩,by rw[l_,hp],by simp only;omega⟩
    ·rw[if_neg (by omega)]at hp
     exact⟨⟨(k+1,μ++[some [⟨52,2,[x.cs],none⟩]]),bP⟩,⟨by rw[l_,hp];simp,by simp⟩,by rw[l_,hp,hi];simp,by simp only;omega⟩
  ·obtain rfl:k=l'.length:=by omega
   rw[aI]
   refine Au ?_;intros
   exact C8 (by rw[dV];rfl)
abbrev qy.cs(e:qy):List AV:=[n e.to,n e.ch.lo,n e.ch.hi]
abbrev Oo(l:List qy):AV:=.sl 3 (l.map qy.cs)
abbrev q_.cs(x:q_):List AV:=[iT x.al,Oo x.nx]
abbrev Ae(l:List q_):AV:=.sl 2 (l.map q_.cs)
abbrev MH(t:ka):AV:=.sl 1 (t.map fun l=>[Ae l])
abbrev Af(t:ka):AV:=.agg [MH t]
theorem nJ{α:Type}{row:α->List AV}(k:Nat)(l:List α)(h:∀x,∀c∈row x,bC c):bC (.sl k (l.map row)):=bC.sl fun e he c hc=>by
 obtain⟨x,_,rfl⟩:=aO.1 he
 exact h x c hc
@[simp] theorem aa0(l:List qy):bC (Oo l):=nJ 3 l fun x c hc=>by
 simp only[qy.cs,aC,au,or_false]at hc
 rcases hc with rfl|rfl|rfl<;>exact bC.v _
@[simp] theorem aa1(l:List q_):bC (Ae l):=nJ 2 l fun x c hc=>by
 simp only[q_.cs,aC,au,or_false]at hc
 rcases hc with rfl|rfl<;>simp
@[simp] theorem aeO(l:ka):bC (MH l):=nJ 1 l fun x c hc=>by
 simp only[aC,au,or_false]at hc
 subst hc;simp
theorem AY(f:Nat)(dZ:List AV)(ep:∀c∈dZ,bC c)(q:q_->Bool)(l:List q_)(hl:l.length<9223372036854775808)(hq:∀x∈l,Pure Tryz.prog f ([.agg (q_.cs x)]++dZ) (bl (q x))):Pure Tryz.prog 322 [Ae l,.fn (.func f) [] dZ] (n (fj q 0 l)):=by
 refine jX Tryz.f322.eq_1 [] [.l [0,1,7,8]] ?_
 refine Au ?_;intros
 refine aR.li 8 l.length (fun i=>fj q i (l.drop i)=fj q 0 l) (by simp) ?_
 ·intro i hi hI
  by_cases bP:i<l.length
  ·obtain⟨x,hx⟩:∃x,l[i]?=some x:=⟨_,ae bP⟩
   have hc:=hq x (ao hx)
   rw[drop_cons hx,fj]at hI
   refine Ax (Kf hx) ?_;intros
   refine .inl ⟨_,_,_,_,rfl,fun _=>.of ?_ (hc),?_⟩
   ·intro a ha
    simp only[aK,aD,aC]at ha
    rcases ha with rfl|ha
    ·simp
    ·exact ep a ha
   refine aH ?_
   (refine Au ?_ (CM ?_)<;>intros)
   ·rename_i h
    rw[h]at hI
    simp only[if_true]at hI
    rw[<-hI]
    exact Fq
   ·rename_i h
    rw[h]at hI
    exact⟨⟨i+1,bP,by simpa using hI⟩,by simp,by simp only;omega⟩
  ·obtain rfl:i=l.length:=by omega
   rw[c_,fj]at hI
   refine Au ?_;intros
   rw[<-hI]
   exact Fq
theorem v7(f:Nat)(dZ:List AV)(ep:∀c∈dZ,bC c)(q:q_->Bool)(l:List q_)(hl:l.length<9223372036854775808)(hq:∀x∈l,Pure Tryz.prog f ([.agg (q_.cs x)]++dZ) (bl (q x))):Pure Tryz.prog 301 [Ae l,.fn (.func f) [] dZ] (bl (l.any q)):=by
 refine jX Tryz.f301.eq_1 [] [] ?_
 have h:=lK q l 0
 refine Au ?_;intros
 refine .inl ⟨_,_,_,_,rfl,fun _=>.of ?_ (AY f dZ ep q l hl hq),?_⟩
 ·intro a ha
  simp only[aK,aD,aC,bb,au,or_false]at ha
  rcases ha with rfl|rfl
  ·simp
  ·exact bC.fn (fun _ h=>absurd h (au)) ep
 refine aH ?_
 refine Au ?_;intros
 rw[<-h]
 exact Fq
theorem AZ(f:Nat)(dZ:List AV)(ep:∀c∈dZ,bC c)(q:qy->Bool)(l:List qy)(hl:l.length<9223372036854775808)(hq:∀x∈l,Pure Tryz.prog f ([.agg (qy.cs x)]++dZ) (bl (q x))):Pure Tryz.prog 323 [Oo l,.fn (.func f) [] dZ] (n (fj q 0 l)):=by
 refine jX Tryz.f323.eq_1 [] [.l [0,1,7,8]] ?_
 refine Au ?_;intros
 refine aR.li 8 l.length (fun i=>fj q i (l.drop i)=fj q 0 l) (by simp) ?_
 ·intro i hi hI
  by_cases bP:i<l.length
  ·obtain⟨x,hx⟩:∃x,l[i]?=some x:=⟨_,ae bP⟩
   have hc:=hq x (ao hx)
   rw[drop_cons hx,fj]at hI
   refine Ax (Kf hx) ?_;intros
   refine .inl ⟨_,_,_,_,rfl,fun _=>.of ?_ (hc),?_⟩
   ·intro a ha
    simp only[aK,aD,aC]at ha
    rcases ha with rfl|ha
    ·simp
    ·exact ep a ha
   refine aH ?_
   (refine Au ?_ (CM ?_)<;>intros)
   ·rename_i h
    rw[h]at hI
    simp only[if_true]at hI
    rw[<-hI]
    exact Fq
   ·rename_i h
    rw[h]at hI
    exact⟨⟨i+1,bP,by simpa using hI⟩,by simp,by simp only;omega⟩
  ·obtain rfl:i=l.length:=by omega
   rw[c_,fj]at hI
   refine Au ?_;intros
   rw[<-hI]
   exact Fq
theorem v8(f:Nat)(dZ:List AV)(ep:∀c∈dZ,bC c)(q:qy->Bool)(l:List qy)(hl:l.length<9223372036854775808)(hq:∀x∈l,Pure Tryz.prog f ([.agg (qy.cs x)]++dZ) (bl (q x))):Pure Tryz.prog 303 [Oo l,.fn (.func f) [] dZ] (bl (l.any q)):=by
 refine jX Tryz.f303.eq_1 [] [] ?_
 have h:=lK q l 0
 refine Au ?_;intros
 refine .inl ⟨_,_,_,_,rfl,fun _=>.of ?_ (AZ f dZ ep q l hl hq),?_⟩
 ·intro a ha
  simp only[aK,aD,aC,bb,au,or_false]at ha
  rcases ha with rfl|rfl
  ·simp
  ·exact bC.fn (fun _ h=>absurd h (au)) ep
 refine aH ?_
 refine Au ?_;intros
 rw[<-h]
 exact Fq
end Go.Proofs.YtgopgjnfhkoomaaGreat
namespace Go.Abs
open Go.Shelf Go.RowKit Go.Lib Go.Proofs
theorem MI{P:Program}{ρ:Ren}(L:Lays8.n4 P ρ){T k B:Nat}(hT:ρ.t 25=T)(eX:nh P T=some k){zs:List Value}(HU:yd P T=some zs)(I':zs.length=k)(hk:0<k)(Lo:(P.info? T).map (·.bytes)=some B)(ef:∀args w,(callFunc (ρ.f 4) args).run P w=.ok (.enter (ρ.f 4) args) w)(σ:aG)(z:Int)(h0:0<=z)(h1:z*B<=140737488355328)(hB:0<B):eY P (ρ.f 4) [.v (.slice none 0 0),n z] σ (fun r σ'=>r=.own σ.length 0 0/\σ'=σ++[some [⟨T,k,[],none⟩]]):=by
 subst hT
 have hzB:z<=z*B:=by
  have:z*1<=z*B:=Int.mul_le_mul_of_nonneg_left (by omega) h0
  omega
 refine⟨ef,fun X β w xs hX nv hlen hr=>?_⟩
 match xs,hlen with
 | [x,y],_=>
  have hx:=(hr 0 (by simp)).dz
  have hy:=(hr 1 (by simp)).dz
  simp only[dF,eP]at hx hy
  subst hx;subst hy
  by_cases hz:z=0
  ·subst hz
   refine callsIn_wide.2 ((Any8.slices_Grow_room L none 0 0 0 w (ar _) (by decide) (by decide) (ar _)).mono ?_)
   rintro e w' ⟨rfl,rfl⟩
   exact⟨_,_,_,_,rfl,⟨rfl,rfl⟩,nv.oC hX,RV.oC rfl,Ext.push (ar _) (fun _ _=>rfl) (fun b hb=>by cases hb),Kp.oC nv⟩
  ·obtain⟨i0,hi0,hs2⟩:=fS eX
   rw[hi0]at Lo
   simp only[aY,ah]at Lo
   unfold yd at HU
   rw[hi0]at HU
   simp only[Option.bind_some,aL]at HU
   obtain⟨z0,JU,K5⟩:=HU
   have hzn:(z.toNat:Int)=z:=by omega
   have PQ:(0+z.toNat)*i0.bytes<=140737488355328:=by
    rw[Lo,br]
    have:((z.toNat*B:Nat):Int)<=140737488355328:=by rw[Int.natCast_mul,hzn];exact h1
    omega
   have hg:=Any8.slices_Grow_grow L i0 z0 hi0 JU (by omega) none 0 0 z.toNat [] w (ar _) (by omega) PQ (by omega) (by simp) (fun _=>rfl) (fun a h=>by cases h)
   have As:=grownCap_ge w (0+z.toNat) 0 (ρ.t 25)
   refine callsIn_wide.2 ?_
   change Calls P (ρ.f 4) #[.slice none 0 0,.int .i64 z] w _
   rw[hzn]at hg
   refine Calls.mono hg ?_
   rintro e w' ⟨rfl,rfl⟩
   change grownCap w (0+z.toNat) 0 (ρ.t 25)>=_ at As
   have Aq:z0.cells.size=k:=by rw[<-dE,K5];exact I'
   have eX:w.heap.size<=(w.drew.alloc (.cells ((#[]:Array Value)++Builtin.zeroCells z0.cells (0+z.toNat-0)++Builtin.zeroCells z0.cells (grownCap w (0+z.toNat) 0 (ρ.t 25)-(0+z.toNat))) (ρ.t 25))).heap.size:=by rw[j_];exact cO _
   have hold:∀b,b<w.heap.size->(w.drew.alloc (.cells ((#[]:Array Value)++Builtin.zeroCells z0.cells (0+z.toNat-0)++Builtin.zeroCells z0.cells (grownCap w (0+z.toNat) 0 (ρ.t 25)-(0+z.toNat))) (ρ.t 25))).heap[b]?=w.heap[b]?:=fun b hb=>oP w.drew _ hb
   have yo:(w.drew.alloc (.cells ((#[]:Array Value)++Builtin.zeroCells z0.cells (0+z.toNat-0)++Builtin.zeroCells z0.cells (grownCap w (0+z.toNat) 0 (ρ.t 25)-(0+z.toNat))) (ρ.t 25))).heap[w.heap.size]?=some (.cells ((#[]:Array Value)++Builtin.zeroCells z0.cells (0+z.toNat-0)++Builtin.zeroCells z0.cells (grownCap w (0+z.toNat) 0 (ρ.t 25)-(0+z.toNat))) (ρ.t 25)):=oQ w.drew _
   have GW:((#[]:Array Value)++Builtin.zeroCells z0.cells (0+z.toNat-0)++Builtin.zeroCells z0.cells (grownCap w (0+z.toNat) 0 (ρ.t 25)-(0+z.toNat))).size=grownCap w (0+z.toNat) 0 (ρ.t 25)*k:=by
    simp only[dw,gU,Aq]
    simp only[cJ,bM]
    rw[br,<-cP]
    congr 1;omega
   have oI:∀b,some w.heap.size=some b->b=w.heap.size:=fun b hb=>by injection hb with hb;exact hb.symm
   have K:=Kp.push (o:=⟨ρ.t 25,k,[],none⟩) (bo:=some w.heap.size) nv eX hold oI
   have S:=nv.push (o:=⟨ρ.t 25,k,[],none⟩) (bo:=some w.heap.size) hX eX hold oI ⟨fun e he=>absurd he (aN _),fun _=>⟨_,yo,by simp,fun e j he=>absurd he (aN _),fun e j he=>absurd he (aN _)⟩,fun r hr=>by cases hr⟩
   refine⟨_,_,_,_,rfl,⟨rfl,rfl⟩,S,?_,Ext.push eX hold oI ⟨rfl,rfl,rfl,cO _⟩,K⟩
   refine .own _ _ _ _ rfl (by simp) (fun o _=>aQ _) fun o ho _=>?_
   rw[gS]at ho;simp at ho;subst ho
   unfold kD;rw[iy]
   exact⟨_,_,_,rfl,yo,GW⟩
end Go.Abs
namespace Go.Proofs.YtgopgjnfhkoomaaGreat
open Go.Shelf
def Tryz.JP:Go.Shelf.Ren:=⟨fun|4=>181|n=>n,fun|22=>56|25=>52|3=>3|4=>4|9=>9|20=>20|0=>0|n=>n,fun|n=>n⟩
theorem Tryz.Wi:Go.Proofs.Lays8.n4 Tryz.prog Tryz.JP:={
 mixed:=by kernel_rfl
 f4:=⟨Tryz.f181.name,by decide,Tryz.func181.trans (congrArg some (by kernel_rfl))⟩
 t0:=Tryz.underlying0
 a0:=Tryz.isAgg0
 z0:=Tryz.sizeOf0
 v0:=Tryz.zeroValue0
 t3:=Tryz.underlying3
 a3:=Tryz.isAgg3
 z3:=Tryz.sizeOf3
 v3:=Tryz.zeroValue3
 t4:=Tryz.underlying4
 a4:=Tryz.isAgg4
 z4:=Tryz.sizeOf4
 v4:=Tryz.zeroValue4
 t9:=Tryz.underlying9
 a9:=Tryz.isAgg9
 z9:=Tryz.sizeOf9
 v9:=Tryz.zeroValue9
 t20:=Tryz.underlying20
 a20:=Tryz.isAgg20
 z20:=Tryz.sizeOf20
 v20:=Tryz.zeroValue20
 t22:=Tryz.underlying56
 a22:=Tryz.isAgg56
 z22:=Tryz.sizeOf56
 v22:=Tryz.zeroValue56}
end Go.Proofs.YtgopgjnfhkoomaaGreat
namespace Go.Proofs.YtgopgjnfhkoomaaGreat
open Go.Abs
open Nat (reduceAdd reduceSub reduceLT reduceLeDiff reduceMul reduceEqDiff)
set_option maxHeartbeats 4000000
set_option maxRecDepth 100000
theorem JQ(σ:aG)(z:Int)(h0:0<=z)(h1:z*16<=140737488355328):eY Tryz.prog 181 [.v (.slice none 0 0),n z] σ (fun r σ'=>r=.own σ.length 0 0/\σ'=σ++[some [⟨52,2,[],none⟩]]):=
 MI Tryz.Wi (T:=52) (k:=2) (B:=16) rfl (by kernel_rfl) (zs:=[.int .i64 0,.int .i64 0]) (by kernel_rfl) rfl (by decide) (by kernel_rfl) Tryz.call181 σ z h0 h1 (by decide)
def JR:List Sp×Option Nat->AV
 |(l,none)=>iT l
 |(l,some g)=>.own g 0 l.length
def MJ(σ:aG):List Sp×Option Nat->Prop
 |(_,none)=>True
 |(l,some g)=>σ.at g 0=some (jJ l)
abbrev flat(rows:List (List Sp×Option Nat)):List Sp:=rows.flatMap (·.1)
theorem BN{rows:List (List Sp×Option Nat)}{i:Nat}{r:List Sp×Option Nat}(h:rows[i]?=some r):flat (rows.take (i+1))=flat (rows.take i)++r.1:=by
 rw[ba,h];simp[flat]
theorem xZ(rows:List (List Sp×Option Nat))(i:Nat):(flat (rows.take i)).length<=(flat rows).length:=by
 have:flat rows=flat (rows.take i)++flat (rows.drop i):=by rw[<-iD,e_]
 rw[this,aM];omega
theorem w8(σ:aG)(rows:List (List Sp×Option Nat))(lO:∀r∈rows,MJ σ r)(hlen:rows.length<9223372036854775808)(MK:((flat rows).length:Int)*16<=140737488355328):eY Tryz.prog 112 [.sl 1 (rows.map fun r=>[JR r])] σ (fun r σ'=>r=.own σ.length 0 (flat rows).length/\σ'=σ++[some [jJ (flat rows)]]):=by
 refine Fi Tryz.f112.eq_1 [] [.l [6,25,26,27],.l [0,3,9,10,11]] ?_
 refine Au ?_;intros
 refine aR.ls (α:={i:Nat//i<=rows.length}) [3,11] (fun i=>[(3,n ((flat (rows.take i.1)).length)),(11,n i.1)]) (fun i=>rows.length-i.1) ⟨0,aQ _⟩ ?_
 ·rintro⟨i,hi⟩
  have Dd:=xZ rows i
  by_cases bP:i<rows.length
  ·obtain⟨r,hr⟩:∃r,rows[i]?=some r:=⟨_,ae bP⟩
   have lO:=lO r (ao hr)
   have ft:=BN hr
   have ZX:=xZ rows (i+1)
   have CY:(flat (rows.take (i+1))).length=(flat (rows.take i)).length+r.1.length:=by rw[ft,aM]
   obtain⟨l,g⟩:=r
   simp only at CY
   cases g with
   |none=>
    (repeat' ((first|refine vn rfl ?_|simp(disch:=omega) only[cB,aj]|refine bo (fun _=>?_) fun _=>?_|refine im fun _=>?_|refine cF ?_|refine om ?_|refine an ?_|fail)<;>try simp only[zN,zT,zV,zS,zU,dC,ex,bu,bN,elems,cells,scalar,dH,bL,aX,aU,bJ,bI,Nat.reduceBEq,reduceAdd,reduceSub,reduceLT,reduceLeDiff,reduceMul,reduceEqDiff,reduceIte,getD_map hr,JR]))
    all_goals try(exfalso;omega)
    exact⟨⟨i+1,bP⟩,⟨by rw[CY];simp,by simp⟩,by simp only;omega⟩
   |some g=>
    simp only[MJ]at lO
    (repeat' ((first|refine vn rfl ?_|simp(disch:=omega) only[cB,aj]|refine bo (fun _=>?_) fun _=>?_|refine im fun _=>?_|refine cF ?_|refine om ?_|refine an ?_|fail)<;>try simp only[zN,zT,zV,zS,zU,dC,ex,bu,bN,elems,cells,scalar,dH,bL,aX,aU,bJ,bI,Nat.reduceBEq,reduceAdd,reduceSub,reduceLT,reduceLeDiff,reduceMul,reduceEqDiff,reduceIte,getD_map hr,JR,lO]))
    all_goals try(exfalso;omega)
    exact⟨⟨i+1,bP⟩,⟨by rw[CY];simp,by simp⟩,by simp only;omega⟩
  ·obtain rfl:i=rows.length:=by omega
   rw[aI]
   refine Au ?_;intros
   refine .inr (.inl ⟨_,_,_,_,rfl,fun _=>⟨JQ σ _ (by omega) MK,?_⟩,fun h=>by cases h⟩)
   rintro res σ' ⟨rfl,rfl⟩
   refine aH ?_
   refine Au ?_;intros
   refine aR.le (α:={i:Nat//i<=rows.length}) [6,27] (fun i=>[(6,.own σ.length 0 (flat (rows.take i.1)).length),(27,n i.1)]) (fun i=>σ++[some [jJ (flat (rows.take i.1))]]) (fun i=>rows.length-i.1) ⟨0,aQ _⟩ (by simp[flat]) ?_
   ·rintro⟨i,hi⟩
    have Dd:=xZ rows i
    by_cases bP:i<rows.length
    ·obtain⟨r,hr⟩:∃r,rows[i]?=some r:=⟨_,ae bP⟩
     have lO:=lO r (ao hr)
     have ft:=BN hr
     have ZX:=xZ rows (i+1)
     have CY:(flat (rows.take (i+1))).length=(flat (rows.take i)).length+r.1.length:=by rw[ft,aM]
     obtain⟨l,g⟩:=r
     simp only at CY ft
     cases g with
     |none=>
      (repeat' ((first|refine vn rfl ?_|simp(disch:=omega) only[cB,aj]|refine bo (fun _=>?_) fun _=>?_|refine im fun _=>?_|refine cF ?_|refine om ?_|refine an ?_|fail)<;>try simp only[zN,zT,zV,zS,zU,dC,ex,bu,bN,elems,cells,scalar,dH,bL,aX,aU,bJ,bI,Nat.reduceBEq,reduceAdd,reduceSub,reduceLT,reduceLeDiff,reduceMul,reduceEqDiff,reduceIte,getD_map hr,JR]))
      all_goals try(exfalso;omega)
      refine⟨⟨xY l,by omega⟩,?_⟩
      refine Au ?_;intros
      exact⟨⟨i+1,bP⟩,⟨by rw[CY],by simp⟩,by rw[ft];simp[jJ],by simp only;omega⟩
     |some g=>
      simp only[MJ]at lO
      have UG:=dU lO
      (repeat' ((first|refine vn rfl ?_|simp(disch:=omega) only[cB,aj]|refine bo (fun _=>?_) fun _=>?_|refine im fun _=>?_|refine cF ?_|refine om ?_|refine an ?_|fail)<;>try simp only[zN,zT,zV,zS,zU,dC,ex,bu,bN,elems,cells,scalar,dH,bL,aX,aU,bJ,bI,Nat.reduceBEq,reduceAdd,reduceSub,reduceLT,reduceLeDiff,reduceMul,reduceEqDiff,reduceIte,getD_map hr,JR,cI UG,lO]))
      all_goals try(exfalso;omega)
      refine⟨⟨xY l,by omega⟩,?_⟩
      refine Au ?_;intros
      exact⟨⟨i+1,bP⟩,⟨by rw[CY],by simp⟩,by rw[ft];simp[jJ],by simp only;omega⟩
    ·obtain rfl:i=rows.length:=by omega
     rw[aI]
     exact Au trivial
     all_goals first|rfl|exact⟨rfl,rfl⟩
theorem eY.toPure{P:Program}{f:Nat}{args:List AV}{r:AV}{R:AV->aG->Prop}(h:eY P f args [] R)(hR:∀v σ',R v σ'->bO σ' v r):Abs.Pure P f args r:=by
 refine⟨h.N',fun X w xs hX mF qu=>?_⟩
 have ti:∀f i o,¬aG.at ([]:aG) f i=some o:=fun f i o h=>by have:=dU h;simp at this
 have hs:dG w X sJ []:=⟨fun f i _ _ o _ _ h=>absurd h (ti f i o),fun f i o _ h=>absurd h (ti f i o),fun f i o h=>absurd h (ti f i o)⟩
 have ZK:Xt X sJ []=X:=by
  funext b;apply propext
  exact⟨fun h=>h.elim id fun⟨f,i,o,h,_⟩=>absurd h (ti f i o),.inl⟩
 refine(h.go X sJ w xs hX hs mF (fun i hi=>by rw[ZK];exact qu i hi)).mono ?_
 rintro e w' ⟨x,v,σ',β',rfl,hRv,nM,hv,he,kp⟩
 exact⟨x,rfl,hR v σ' hRv w' X β' x nM hv,he.size,fun b hb=>he.wJ b hb fun⟨f,i,o,h,_⟩=>ti f i o h,he.io⟩
theorem De(a b:List Sp)(MK:((a++b).length:Int)*16<=140737488355328):Pure Tryz.prog 112 [.sl 1 [[iT a],[iT b]]] (iT (a++b)):=by
 have h:=w8 [] [(a,none),(b,none)] (fun r hr=>by simp only[aC,au,or_false]at hr;rcases hr with rfl|rfl<;>trivial) (by simp) (by simpa[flat]using MK)
 refine eY.toPure h fun v σ' ⟨h1,h2⟩=>?_
 subst h1 h2
 simp only[flat,gP,List.flatMap_nil,bb]
 exact C9 (a++b) rfl rfl
theorem JS(a b:List Sp)(MK:((a++b).length:Int)*16<=140737488355328):Pure Tryz.prog 55 [iT a,iT b] (.fn (.func 180) [] [.bZ [iT (a++b)] 0]):=by
 refine jX Tryz.f55.eq_1 [] [] ?_
 have h:Pure Tryz.prog 112 [mZ [a,b]] (iT (a++b)):=by
  exact De a b MK
 refine Ay (aa @h @kQ) ?_;intros
 all_goals exact Fq
theorem zg(a b:List Sp)(ha:Norm a)(Cd:a.length<9223372036854775808)(hb:iV b):Pure Tryz.prog 224 [iT a,iT b] (iT (meet a b)):=by
 have hg:=pG (r8 (a:=a) hb)
 rw[<-Jq ha hb.1]at hg|-
 have:=pG hb
 exact GU a b Cd (by omega) (by omega)
theorem BO(a b:List Sp)(ha:iV a)(hb:iV b):Pure Tryz.prog 224 [iT a,iT b] (iT (meet a b)):=by
 have:=pG ha
 exact zg a b ha.1 (by omega) hb
theorem uK(l:List Sp)(hl:(l.length:Int)*16<=140737488355328)(iw:∀s∈l,s.lo<=s.hi)(Dc:∀s∈l,-1000000<=s.lo/\s.hi<=1000000):Pure Tryz.prog 54 [.fn (.func 180) [] [.bZ [iT l] 0]] (iT (jI [] l)):=
 EZ 180 [.bZ [iT l] 0] l hl iw Dc (w5 l (by omega))
theorem so{σ:aG}{k:Nat}:bO σ (.v (.slice none 0 0)) (.sl k []):=fun w X β x hs hx=>by
 cases hx;exact .slnil k
theorem Wj{σ:aG}{a b:AV}{x:AV}(h:bO σ a b)(hx:bC x):bO σ (.iu [a,x]) (.iu [b,x]):=bO.iu rfl fun i hi=>by
 match i,hi with
 |0,_=>exact h
 |1,_=>exact bO.eq rfl hx
theorem Wl(a b:List Sp):¬(small a/\small b)↔(¬small a\/¬small b):=by
 constructor
 ·intro h
  by_cases ha:small a
  ·exact .inr fun hb=>h ⟨ha,hb⟩
  ·exact .inl ha
 ·rintro(h|h) ⟨h1,h2⟩
  ·exact h h1
  ·exact h h2
theorem Ip{l:List Sp}(h:iV l):∀s∈l,-1000000<=s.lo/\s.hi<=1000000:=fun s hs=>by have:=h.2 s hs;omega
theorem GZ(a b:List Sp)(ha:a.length<9223372036854775808)(hb:b.length<9223372036854775808):Pure Tryz.prog 16 [iT a,iT b] (.iu [iT (if tr (small a/\small b)then jI a b else []),n (if tr (small a/\small b)then 0 else 1)]):=by
 refine jX Tryz.f16.eq_1 [] [] ?_
 by_cases h:small a/\small b
 ·rw[tE h]
  obtain⟨h1,h2⟩:=h
  have t1:=tE h1
  have t2:=tE h2
  have hj:jI a b=jI [] (a++b):=Norm.ext (nW h1.2.1) (rh _) fun v=>by rw[pF h1.2.1,tD,mem_append]
  simp only[if_true]
  rw[hj]
  have l1:=h1.1
  have l2:=h2.1
  have hg:=uK (a++b) (by simp;omega) (fun s hs=>(bm.1 hs).elim (h1.2.1.ne s) (h2.2.1.ne s)) (fun s hs=>(bm.1 hs).elim (Ip h1.2 s) (Ip h2.2 s))
  have oI:=JS a b (by simp;omega)
  (refine Ay (aa (iH a ha) (aa (iH b hb) (aa @oI @hg))) ?_ (CM ?_)<;>intros)
  all_goals try(exfalso;simp_all;done)
  exact Fq
 ·rw[yN h]
  (refine Ay (aa (iH a ha) (iH b hb)) ?_ (CM ?_)<;>intros)
  ·exact Wj so (by simp)
  ·rename_i h2
   exact absurd ((Wl a b).1 h) h2
theorem JT(a b:List Sp)(ha:a.length<9223372036854775808)(hb:b.length<9223372036854775808):Pure Tryz.prog 258 [iT a,iT b] (.iu [iT (if tr (small a/\small b)then meet a b else []),n (if tr (small a/\small b)then 0 else 1)]):=by
 refine jX Tryz.f258.eq_1 [] [] ?_
 by_cases h:small a/\small b
 ·rw[tE h]
  obtain⟨h1,h2⟩:=h
  have t1:=tE h1
  have t2:=tE h2
  simp only[if_true]
  (refine Ay (aa (iH a ha) (aa (iH b hb) (BO a b h1.2 h2.2))) ?_ (CM ?_)<;>intros)
  all_goals try(exfalso;simp_all;done)
  exact Fq
 ·rw[yN h]
  (refine Ay (aa (iH a ha) (iH b hb)) ?_ (CM ?_)<;>intros)
  ·exact Wj so (by simp)
  ·rename_i h2
   exact absurd ((Wl a b).1 h) h2
def Rt(x:q_):Prop:=x.al.length<9223372036854775808/\x.nx.length<9223372036854775808
def ML(l:List q_):Prop:=l.length<9223372036854775808/\∀x∈l,Rt x
def E0(t:ka):Prop:=t.length<9223372036854775808/\∀l∈t,ML l
theorem JV(m:Nat)(e:qy):Pure Tryz.prog 299 [.agg (qy.cs e),.bZ [n m] 0] (bl (tr (¬EB m e))):=by
 refine jX Tryz.f299.eq_1 [] [] ?_
 refine Ay (AW e.ch) ?_;intros
 all_goals refine bO.eq (congrArg bl ?_) (by simp)
 all_goals(rw[decide_eq_decide];unfold EB;omega)
theorem Iq{α:Type}(l:List α)(p:α->Prop):(l.any fun x=>tr (¬p x))=tr (¬∀x∈l,p x):=by
 rw[cV,vP,eb]
 simp only[vP]
 constructor
 ·rintro⟨x,hx,h⟩ h2;exact h (h2 x hx)
 ·intro h
  by_cases h3:∃x∈l,¬p x
  ·exact h3
  ·exact absurd (fun x hx=>eo fun hp=>h3 ⟨x,hx,hp⟩) h
theorem JW(m:Nat)(x:q_)(hx:Rt x):Pure Tryz.prog 302 [.agg (q_.cs x),.bZ [.fn (.func 299) [] [.bZ [n m] 0]] 0] (bl (tr (¬EC m x))):=by
 refine jX Tryz.f302.eq_1 [] [] ?_
 have h:=v8 299 [.bZ [n m] 0] (by simp) (fun e=>tr (¬EB m e)) x.nx hx.2 (fun e _=>JV m e)
 rw[Iq]at h
 have h1:=iH x.al hx.1
 refine Ay (aa @h1 @h) ?_;intros
 all_goals refine bO.eq (congrArg bl (decide_eq_decide.2 ?_)) (by simp)
 unfold EC
 constructor
 ·rintro((h|h)|h) ⟨h1,h2,h3⟩
  ·exact h h1
  ·omega
  ·exact h h3
 ·intro h
  by_cases c1:small x.al
  ·by_cases c2:x.nx.length<=64
   ·exact .inr fun c3=>h ⟨c1,c2,c3⟩
   ·exact .inl (.inr (by omega))
  ·exact .inl (.inl c1)
theorem Df(l:List q_)(m:Nat)(hl:ML l):Pure Tryz.prog 262 [Ae l,n m] (bl (tr (yI m l))):=by
 refine jX Tryz.f262.eq_1 [] [] ?_
 have h:=v7 302 [.bZ [.fn (.func 299) [] [.bZ [n m] 0]] 0] (by intro c hc;simp only[bp]at hc;subst hc;exact bC.bZ (by simp)) (fun x=>tr (¬EC m x)) l hl.1 (fun x hx=>JW m x (hl.2 x hx))
 rw[Iq]at h
 refine adM ?_;intros
 refine adM ?_;intros
 refine aR.H' (t:=5) (e:=0) rfl rfl rfl (by decide) ?_
 refine Ay @h ?_;intros
 all_goals refine bO.eq (congrArg bl (decide_eq_decide.2 ?_)) (by simp)
 unfold yI
 constructor
 ·rintro⟨⟨h1,h2⟩,h3⟩
  exact⟨by omega,by omega,fY.1 h3⟩
 ·rintro⟨h1,h2,h3⟩
  exact⟨⟨by omega,by omega⟩,fY.2 h3⟩
def G3(t:ka):List (List AV):=(List.range t.length).map fun i=>[n ((t.length-1-i:Nat):Int),Ae (t.getD (t.length-1-i) [])]
theorem zi{t:ka}{i:Nat}(h:i<t.length):(G3 t)[i]?=some [n ((t.length-1-i:Nat):Int),Ae (t.getD (t.length-1-i) [])]:=by simp[G3,h]
theorem uN(t:ka):(G3 t).length=t.length:=by simp[G3]
theorem A2(t:ka)(hl:t.length<9223372036854775808):Iter Tryz.prog 298 [] [.bZ [MH t] 0] (G3 t):=by
 refine⟨Tryz.call298,fun C y J D σ hy hC hJ ew=>?_⟩
 refine eY.mono (R:=fun _ iX=>fi C J D (G3 t).length iX) ?_ fun _ _ h=>h.out
 refine Fi Tryz.f298.eq_1 [] [.l [0,1,3]] ?_
 refine Au ?_;intros
 refine aR.lr (α:={x:Nat×aG×aG//x.1<=t.length/\x.2.1.length=C/\J x.1 x.2.1}) [3] (fun x=>[(3,n ((t.length:Int)-1-x.1.1))]) (fun x=>x.1.2.1++x.1.2.2) (fun x=>t.length-x.1.1) ⟨(0,σ,[]),by simp,hC,hJ⟩ ?_
 ·rintro⟨⟨k,τ,ν⟩,hk,pD,ze⟩
  simp only at hk pD ze
  by_cases bP:k<t.length
  ·have hs:t[t.length-1-k]?=some (t.getD (t.length-1-k) []):=getD_some (by omega)
   have hg:((t.map fun l=>[Ae l]).getD (t.length-1-k) [])=[Ae (t.getD (t.length-1-k) [])]:=getD_map hs
   have hi:(((t.length:Int)-1-k).toNat)=t.length-1-k:=by omega
   have hz:(t.length:Int)-1-k=((t.length-1-k:Nat):Int):=by omega
   have hy:=ew k _ τ ν (zi bP) pD ze
   rw[<-hz]at hy
   refine Ax (aa @hi @hg) ?_;intros
   refine .inr (.inr ⟨y,_,rfl,fun _=>⟨hy,?_⟩,fun h=>by cases h⟩)
   rintro b σ' ⟨iv,gz,rfl,jW,xe,CG⟩
   refine aH ?_
   refine adL ?_
   cases b with
   |false=>
    refine Au ?_;intros
    exact fi.mk iv _ rfl jW (.inr (CG rfl))
   |true=>
    refine Au ?_;intros
    exact⟨⟨(k+1,iv,_),bP,jW,xe rfl⟩,by simp;omega,rfl,by simp only;omega⟩
  ·obtain rfl:k=t.length:=by omega
   refine Au ?_;intros
   exact fi.mk τ _ rfl pD (.inl (by rw[uN];exact ze))
theorem zj(t:ka):Pure Tryz.prog 261 [MH t] (.fn (.func 298) [] [.bZ [MH t] 0]):=by
 refine jX Tryz.f261.eq_1 [] [] ?_
 refine Au ?_;intros
 all_goals exact bO.eq rfl (by simp(maxDischargeDepth:=9))
theorem zk(t:ka)(hs:E0 t):Pure Tryz.prog 221 [Af t] (n (if tr (valid t)then 0 else 40)):=by
 refine jX Tryz.f221.eq_1 [] [.l [2,3]] ?_
 have hl:=hs.1
 by_cases hN:1<=t.length/\t.length<=401
 ·refine Ay (zj t) ?_;intros
  refine aR.rL (fun x:{x:Int×Nat//True}=>[some [⟨41,1,[[n x.1.1]],none⟩],some [⟨3,1,[[n (x.1.2:Int)]],none⟩]]) 2 (fun _=>rfl)
   (fun k x=>x.1.1=0/\x.1.2=wd t (t.length-k)/\∀j,t.length-k<=j->j<t.length->yI (wd t (j+1)) (t.getD j []))
   (fun e x=>match e with| .ret=>x.1.1=40/\¬valid t|_=>False) (G3 t) ⟨(0,0),trivial⟩
   rfl ?_ ?_ (A2 t hl) (fun k args h=>?_) (fun k x args ll ρ τ hk hx=>?_) (fun x τ hx=>?_) (fun e x τ hx=>?_)
  ·rfl
  ·refine⟨rfl,?_,fun j h1 h2=>by omega⟩
   show 0=wd t (t.length-0)
   rw[wd,getD_none (by omega)];rfl
  ·have hk:=(ai.1 h).1
   rw[uN]at hk
   rw[zi hk]at h;injection h with h;subst h;rfl
  ·obtain⟨⟨r,m⟩,Wm⟩:=x
   obtain⟨h1,h2,h3⟩:=hx
   simp only at h1 h2 h3
   subst h1
   have UH:=(ai.1 hk).1
   rw[uN]at UH
   rw[zi UH]at hk;injection hk with hk;subst hk
   have e1:t.length-1-k+1=t.length-k:=by omega
   have cn:ML (t.getD (t.length-1-k) []):=hs.2 _ (ao (getD_some (by omega)))
   have aa6:=cn.1
   have VF:wd t (t.length-1-k)=(t.getD (t.length-1-k) []).length:=rfl
   have hS:=Df (t.getD (t.length-1-k) []) m cn
   have PR:(∀j,t.length-(k+1)<=j->j<t.length->yI (wd t (j+1)) (t.getD j []))↔yI m (t.getD (t.length-1-k) []):=by
    rw[h2]
    constructor
    ·intro h
     have:=h (t.length-1-k) (by omega) (by omega)
     rwa[e1]at this
    ·intro h j h4 h5
     by_cases hj:j=t.length-1-k
     ·subst hj;rw[e1];exact h
     ·exact h3 j (by omega) h5
   simp only[par]
   generalize t.getD (t.length-1-k) []=L at*
   refine Au ?_;intros
   refine⟨⟨(0,m),trivial⟩,[],by simp,fun ox=>?_⟩
   (refine Ay @hS ?_ (CM ?_)<;>intros)
   ·rename_i h
    exact⟨⟨(40,m),trivial⟩,[],by simp,rfl,fun hv=>h (PR.1 fun j _ h5=>hv.2.2 j h5)⟩
   ·rename_i h
    exact⟨⟨(0,L.length),trivial⟩,[],by simp,rfl,by show L.length=wd t (t.length-(k+1));rw[show t.length-(k+1)=t.length-1-k by omega];exact VF.symm,PR.2 h⟩
  ·obtain⟨⟨r,m⟩,Wm⟩:=x
   obtain⟨h1,h2,h3⟩:=hx
   simp only at h1 h2 h3
   subst h1
   rw[uN]at h3
   refine Au ?_;intros
   rw[tE ⟨hN.1,hN.2,fun j h5=>h3 j (by omega) h5⟩]
   exact Fq
  ·obtain⟨⟨r,m⟩,Wm⟩:=x
   cases e with
   |ret=>
    obtain⟨h1,h2⟩:=hx
    simp only at h1
    subst h1
    simp only[Ac.e,zN,zT,zV,zS,zU,dC,ex,bu,bN,elems,cells,scalar,dH,bL,aX,aU,bJ,bI,Nat.reduceBEq,reduceAdd,reduceSub,reduceLT,reduceLeDiff,reduceMul,reduceEqDiff,reduceIte]
    refine Au ?_;intros
    rw[yN h2]
    exact Fq
   |exit i=>exact hx.elim
 ·have hv:¬valid t:=fun h=>hN ⟨h.1,h.2.1⟩
  rw[yN hv]
  refine adM ?_;intros
  refine adM ?_;intros
  refine adM ?_;intros
  refine adM ?_;intros
  all_goals try(exfalso;omega)
  refine Au ?_;intros
  exact Fq
abbrev np.cs(h:np):List AV:=[.agg [n (h.fr:Int),n (h.to:Int)],.agg h.ch.cs]
abbrev ry(l:List np):List (List AV):=l.map np.cs
theorem E3{l:List np}{i:Nat}{h:np}(e:l[i]?=some h):(ry l)[i]?=some (np.cs h):=by simp[ry,e]
theorem uO{l:List np}{k:Nat}{args:List AV}(h:(ry l)[k]?=some args):∃s,l[k]?=some s/\args=np.cs s:=by
 simp only[ry,aV,aL]at h
 obtain⟨s,hs,rfl⟩:=h
 exact⟨s,hs,rfl⟩
theorem Dg(t:ka):Pure Tryz.prog 359 [Af t] (n (t.length:Int)):=by
 refine jX Tryz.f359.eq_1 [] [] ?_
 refine Au ?_;intros
 all_goals exact bO.eq (by simp) (by simp)
theorem E4(t:ka)(k:Nat)(hk:k<t.length):Pure Tryz.prog 358 [Af t,n (k:Int)] (Ae (t.getD k [])):=by
 refine jX Tryz.f358.eq_1 [] [] ?_
 have h:(t.map fun l=>[Ae l]).getD k []=[Ae (t.getD k [])]:=getD_map (getD_some hk)
 refine Ax @h ?_;intros
 all_goals exact Fq
theorem o6(t:ka)(k:Int):Pure Tryz.prog 360 [Af t,n k] (.fn (.func 361) [] [.bZ [MH t] 0,.bZ [n k] 0]):=by
 refine jX Tryz.f360.eq_1 [] [] ?_
 refine Au ?_;intros
 all_goals exact bO.eq rfl (by simp(maxDischargeDepth:=9))
theorem E5(t:ka):Pure Tryz.prog 363 [Af t] (n (t.length:Int)):=by
 refine jX Tryz.f363.eq_1 [] [] ?_
 refine Au ?_;intros
 all_goals exact bO.eq (by simp) (by simp)
theorem G4(t:ka)(k:Nat)(hl:t.length<9223372036854775808)(hk:k<t.length):Pure Tryz.prog 362 [Af t,n (k:Int)] (Ae (t.getD (t.length-1-k) [])):=by
 refine jX Tryz.f362.eq_1 [] [] ?_
 have h:(t.map fun l=>[Ae l]).getD (t.length-1-k) []=[Ae (t.getD (t.length-1-k) [])]:=getD_map (getD_some (by omega))
 have hi:(((t.length:Int)-1-k).toNat)=t.length-1-k:=by omega
 refine Ax (aa @hi @h) ?_;intros
 all_goals exact Fq
theorem G5(t:ka)(k:Int):Pure Tryz.prog 364 [Af t,n k] (.fn (.func 365) [] [.bZ [MH t] 0,.bZ [n k] 0]):=by
 refine jX Tryz.f364.eq_1 [] [] ?_
 refine Au ?_;intros
 all_goals exact bO.eq rfl (by simp(maxDischargeDepth:=9))
theorem zm(t:ka)(k:Nat)(hv:valid t)(hk:k<t.length):Iter Tryz.prog 361 [] [.bZ [MH t] 0,.bZ [n (k:Int)] 0] (ry (H6 t k)):=by
 refine⟨Tryz.call361,fun C y J D σ hy hC hJ ew=>?_⟩
 refine eY.mono (R:=fun _ iX=>fi C J D (ry (H6 t k)).length iX) ?_ fun _ _ h=>h.out
 refine Fi Tryz.f361.eq_1 [] [.l [0,13,14,15],.l [0,4,13,14,15,21,22,23]] ?_
 have hg:(t.map fun l=>[Ae l]).getD k []=[Ae (t.getD k [])]:=getD_map (getD_some hk)
 obtain⟨v1,v2,v3⟩:=lZ hv hk
 unfold H6 at*
 generalize t.getD k []=L at*
 refine Ax @hg ?_;intros
 refine aR.lr (α:={x:Nat×Nat×aG×aG//x.1<=L.length/\(AL L).drop x.2.1=rb x.1 (L.drop x.1)/\x.2.1<=(AL L).length/\x.2.2.1.length=C/\J x.2.1 x.2.2.1}) [15] (fun x=>[(15,n x.1.1)]) (fun x=>x.1.2.2.1++x.1.2.2.2) (fun x=>L.length-x.1.1) ⟨(0,0,σ,[]),by simp,by simp,by simp,hC,hJ⟩ ?_
 rintro⟨⟨i,m,τ,ν⟩,hi,hd,hm,pD,Ij⟩
 simp only at hi hd hm pD Ij
 by_cases bP:i<L.length
 ·obtain⟨x,hx⟩:∃x,L[i]?=some x:=⟨_,ae bP⟩
  obtain⟨w1,w2,w3⟩:=v3 x (ao hx)
  have Yj:(AL L).drop m=pY i x++rb (i+1) (L.drop (i+1)):=by rw[hd,drop_cons hx];rfl
  refine Ax (Kf hx) ?_;intros
  refine aR.mT (α:={x':Nat×Nat×aG×aG//x'.1<=x.nx.length/\(AL L).drop x'.2.1=(pY i x).drop x'.1++rb (i+1) (L.drop (i+1))/\x'.2.1<=(AL L).length/\x'.2.2.1.length=C/\J x'.2.1 x'.2.2.1}) [23]
   (fun x=>[(23,n x.1.1)]) (fun x=>x.1.2.2.1++x.1.2.2.2) (fun x'=>x.nx.length-x'.1.1) ⟨(0,m,τ,ν++[some [⟨340,2,[q_.cs x],none⟩]]),by simp,by simpa using Yj,hm,pD,Ij⟩ ?_ ?_ ?_
  ·exact Sb_
  ·simp
  rintro⟨⟨j,m,τ,ν⟩,hj,hd,hm,pD,Ij⟩
  simp only at hj hd hm pD Ij
  by_cases qz:j<x.nx.length
  ·obtain⟨e,he⟩:∃e,x.nx[j]?=some e:=⟨_,ae qz⟩
   obtain⟨u1,u2,u3⟩:=w3 e (ao he)
   have hho:(pY i x)[j]?=some ⟨i,e.to.toNat,e.ch⟩:=by simp[pY,he]
   rw[drop_cons hho,aD]at hd
   obtain⟨hxm,FV⟩:=BK hd
   have Gr:=(ai.1 hxm).1
   have Wn:=ew m _ τ (ν++[some [⟨392,3,[qy.cs e],none⟩]]) (E3 hxm) pD Ij
   have ht0:((e.to.toNat:Nat):Int)=e.to:=by omega
   simp only[np.cs,ht0]at Wn
   refine Ax (Kf he) ?_;intros
   refine .inr (.inr ⟨y,_,rfl,fun _=>⟨Wn,?_⟩,fun h=>by cases h⟩)
   rintro b σ' ⟨iv,gz,rfl,jW,xe,CG⟩
   refine aH ?_
   refine adL ?_
   cases b with
   |false=>
    refine Au ?_;intros
    exact fi.mk iv _ rfl jW (.inr (CG rfl))
   |true=>
    refine Au ?_;intros
    exact⟨⟨(j+1,m+1,iv,_),qz,FV,Gr,jW,xe rfl⟩,by simp,rfl,by simp only;omega⟩
  ·obtain rfl:j=x.nx.length:=by omega
   have O7:(pY i x).drop x.nx.length=[]:=fG (by simp[pY])
   rw[O7,aK]at hd
   refine Au ?_;intros
   exact⟨⟨(i+1,m,τ,ν),bP,hd,hm,pD,Ij⟩,by simp,rfl,by simp only;omega⟩
 ·obtain rfl:i=L.length:=by omega
  rw[c_]at hd
  have:m=(AL L).length:=by have:=List.drop_eq_nil_iff.1 hd;omega
  subst this
  refine Au ?_;intros
  exact fi.mk τ _ rfl pD (.inl (by simpa using Ij))
theorem JX(t:ka)(k:Nat)(hv:valid t)(hk:k+1<t.length):Iter Tryz.prog 365 [] [.bZ [MH t] 0,.bZ [n (k:Int)] 0] (ry (yK t k)):=by
 refine⟨Tryz.call365,fun C y J D σ hy hC hJ ew=>?_⟩
 refine eY.mono (R:=fun _ iX=>fi C J D (ry (yK t k)).length iX) ?_ fun _ _ h=>h.out
 refine Fi Tryz.f365.eq_1 [] [.l [3]] ?_
 have hle:=hv.2.1
 have lR:=zm t (t.length-2-k) hv (by omega)
 have hz:(t.length:Int)-2-k=((t.length-2-k:Nat):Int):=by omega
 have hlen:(ry (yK t k)).length=(ry (H6 t (t.length-2-k))).length:=by simp[ry,yK]
 refine Az @hz (o6 t) ?_;intros
 refine aR.rL (fun x:{τ:aG//τ.length=C}=>x.1) C (fun x=>x.2) (fun k x=>J k x.1) (fun e x=>match e with| .ret=>D x.1|_=>False) (ry (H6 t (t.length-2-k))) ⟨σ,hC⟩
  rfl rfl hJ lR (fun k' args h=>?_) (fun k' x args ll ρ τ xu hx=>?_) (fun x τ hx=>?_) (fun e x τ hx=>?_)
 ·obtain⟨s,hs,rfl⟩:=uO h;rfl
 ·obtain⟨x,PS⟩:=x
  simp only at hx
  obtain⟨h,hh,rfl⟩:=uO xu
  have hb:(yK t k)[k']?=some h.flip:=by simp[yK,hh]
  have ZY:=(vN hv (ao hh)).2.2
  obtain⟨c1,c2,c3⟩:=ZY
  simp only[np.cs,par]
  refine Au ?_;intros
  refine⟨⟨x,PS⟩,_,by simp only[aW];rfl,fun ox=>?_⟩
  have Wn:=fun ν=>ew k' _ x ν (E3 hb) PS hx
  simp only[np.cs,np.flip]at Wn
  have e1:∀(ν:aG),aG.at (x++ox::(τ++(some [⟨455,2,[[n (h.fr:Int),n (h.to:Int)]],none⟩]::ν))) (C+(τ.length+1)) 0=some ⟨455,2,[[n (h.fr:Int),n (h.to:Int)]],none⟩:=fun ν=>by rw[<-PS,dR,cQ,dV];rfl
  have e2:∀(a:Option (List Ob)) (ν:aG),aG.at (x++ox::(τ++(a::some [⟨52,2,[h.ch.cs],none⟩]::ν))) (C+(τ.length+1+1)) 0=some ⟨52,2,[h.ch.cs],none⟩:=fun a ν=>by rw[<-PS,dR,cQ,dR];rfl
  refine Ax (aa @PS (aa @e1 @e2)) ?_;intros
  refine .inr (.inr ⟨y,_,rfl,fun _=>⟨Wn _,?_⟩,fun h=>by cases h⟩)
  rintro b σ' ⟨iv,gz,rfl,jW,xe,CG⟩
  refine aH ?_
  refine adL ?_
  cases b with
  |false=>
   refine Au ?_;intros
   exact⟨⟨iv,jW⟩,gz,by simp,CG rfl⟩
  |true=>
   refine Au ?_;intros
   exact⟨⟨iv,jW⟩,gz,by simp,xe rfl⟩
 ·obtain⟨x,PS⟩:=x
  simp only at hx
  refine Au ?_;intros
  exact fi.mk x _ rfl PS (.inl (by simp only[ry,aF]at hlen hx|-;rw[hlen];exact hx))
 ·obtain⟨x,PS⟩:=x
  cases e with
  |ret=>
   simp only at hx
   simp only[Ac.e,zN,zT,zV,zS,zU,dC,ex,bu,bN,elems,cells,scalar,dH,bL,aX,aU,bJ,bI,Nat.reduceBEq,reduceAdd,reduceSub,reduceLT,reduceLeDiff,reduceMul,reduceEqDiff,reduceIte]
   refine Au ?_;intros
   exact fi.mk x _ rfl PS (.inr hx)
  |exit i=>exact hx.elim
theorem E6(l:List Sp)(c:Sp):(wide l c).length=l.length:=by simp[wide]
theorem G6(l:List Sp)(c:Sp)(hl:l.length<=200001)(hb:∀s∈l,-100000<=s.lo/\s.lo<=s.hi/\s.hi<=100000)(hc:Gt c):Pure Tryz.prog 304 [iT l,.agg c.cs] (iT (wide l c)):=by
 refine jX Tryz.f304.eq_1 [] [.l [3,5,8,9,10]] ?_
 obtain⟨c1,c2,c3⟩:=hc
 refine adM ?_;intros
 refine adM ?_;intros
 refine aR.oC 52 2 5 rfl ?_
 refine Au ?_;intros
 refine aR.mT (α:={x:Nat×aG//x.1<=l.length}) [5,10] (fun x=>[(5,.own 0 0 (wide (l.take x.1.1) c).length),(10,n x.1.1)]) (fun x=>some [jJ (wide (l.take x.1.1) c)]::x.1.2) (fun x=>l.length-x.1.1) ⟨(0,[]),by simp⟩ ?_ ?_ ?_
 ·(simp only[zN,zT,zV,zS,zU,dC,ex,bu,bN,elems,cells,scalar,dH,bL,aX,aU,bJ,bI,Nat.reduceBEq,reduceAdd,reduceSub,reduceLT,reduceLeDiff,reduceMul,reduceEqDiff,reduceIte];try simp)
  simp[wide]
 ·simp[wide]
 rintro⟨⟨k,μ⟩,hk⟩
 simp only at hk
 have hw1:=E6 (l.take k) c
 rw[bH]at hw1
 by_cases bP:k<l.length
 ·obtain⟨s,hs⟩:∃s,l[k]?=some s:=⟨_,ae bP⟩
  have TF:=hb s (ao hs)
  have l_:wide (l.take (k+1)) c=wide (l.take k) c++[⟨s.lo+c.lo,s.hi+c.hi⟩]:=by rw[ey hs];simp[wide]
  simp only
  generalize wide (l.take k) c=A at*
  refine Ax (aa (Kf hs) @hw1) ?_;intros
  exact⟨⟨(k+1,μ++[some [⟨52,2,[s.cs],none⟩]]),bP⟩,⟨by rw[l_];simp[hw1],by simp⟩,by rw[l_];simp,by simp only;omega⟩
 ·obtain rfl:k=l.length:=by omega
  rw[aI]
  refine Au ?_;intros
  exact C8 rfl
theorem Dh{σ:aG}{f i:Nat}{o o':Ob}:(σ.cZ f i o).cZ f i o'=σ.cZ f i o':=by
 unfold aG.cZ
 cases h:σ[f]? with
 |none=>simp[h]
 |some F=>
  cases F with
  |none=>simp[h]
  |some F=>
   have bP:=(ai.1 h).1
   simp[cp bP]
theorem gG{α:Type}(f:Nat->α){N i:Nat}{d:α}(h:i<N):((List.range N).map f).getD i d=f i:=by simp[ab,h]
theorem ea{α:Type}{f g:Nat->α}{N:Nat}(h:∀j,j<N->f j=g j):(List.range N).map f=(List.range N).map g:=eS fun j hj=>h j (bc.1 hj)
theorem kZ{α:Type}(f:Nat->α)(N c:Nat)(x:α):((List.range N).map f).set c x=(List.range N).map fun j=>if j=c then x else f j:=by
 refine dv fun i=>?_
 rw[bX]
 by_cases hi:c=i
 ·subst hi
  by_cases hc:c<N
  ·simp[hc]
  ·simp[hc]
 ·have:¬i=c:=fun e=>hi e.symm
  by_cases hc:i<N
  ·simp[hi,hc,this]
  ·simp[hi,hc]
def kR(G m N:Nat):List (List AV):=(List.range N).map fun c=>if c<m then [.own (G+c) 0 0]else [.v (.slice none 0 0)]
theorem aR.Ir{P:Program}{N0:Nat}{rd:Option Nat}{K:e7}{env:Env}{σ:aG}{c:C}{A N T T' k':Nat}(ho:σ.at A 0=some ⟨T,1,List.replicate N [.v (.slice none 0 0)],none⟩)(h:aR P N0 rd c K env (σ.cZ A 0 ⟨T,1,kR σ.length N N,none⟩++List.replicate N (some [⟨T',k',[],none⟩]))):aR P N0 rd c K env σ:=by
 have hA:=dU ho
 have main:∀j,j<=N->aR P N0 rd c K env (σ.cZ A 0 ⟨T,1,kR σ.length (N-j) N,none⟩++List.replicate (N-j) (some [⟨T',k',[],none⟩])):=by
  intro j
  induction j with
  |zero=>intro _;exact h
  |succ j ih=>
   intro hj
   have ih:=ih (by omega)
   obtain⟨m,hm⟩:∃m,N-j=m+1:=⟨N-j-1,by omega⟩
   have Tn:N-(j+1)=m:=by omega
   rw[hm]at ih
   rw[Tn]
   have ZZ:m<N:=by omega
   have dQ:aG.at (σ.cZ A 0 ⟨T,1,kR σ.length m N,none⟩++List.replicate m (some [⟨T',k',[],none⟩])) A 0=some ⟨T,1,kR σ.length m N,none⟩:=by
    rw[cI (by rw[eW];exact hA)];exact cu ho
   refine aR.lH T' k' (f:=A) (i:=0) (e:=m) (j:=0) dQ (by simp[kR];exact ZZ) (by simp[kR,ab,ZZ]) ?_
   have e1:(kR σ.length m N).set m (((kR σ.length m N).getD m []).set 0 (.own (σ.length+m) 0 0))=kR σ.length (m+1) N:=by
    refine dv fun i=>?_
    rw[bX]
    by_cases hi:m=i
    ·subst hi
     simp[kR,ZZ,ab]
    ·simp only[hi,if_false]
     simp only[kR,aV]
     by_cases hiN:i<N
     ·simp only[cH hiN,aY]
      have:(i<m)↔(i<m+1):=by omega
      simp only[this]
     ·simp[b_,hiN]
   have e2:List.length (σ.cZ A 0 ⟨T,1,kR σ.length m N,none⟩++List.replicate m (some [⟨T',k',[],none⟩]))=σ.length+m:=by simp[eW]
   rw[e2]
   simp only
   rw[e1]
   have e3:aG.cZ (σ.cZ A 0 ⟨T,1,kR σ.length m N,none⟩++List.replicate m (some [⟨T',k',[],none⟩])++[some [⟨T',k',[],none⟩]]) A 0 ⟨T,1,kR σ.length (m+1) N,none⟩=σ.cZ A 0 ⟨T,1,kR σ.length (m+1) N,none⟩++List.replicate (m+1) (some [⟨T',k',[],none⟩]):=by
    rw[aW,iR (by rw[eW];exact hA)]
    congr 1
    ·exact Dh
    ·rw[List.replicate_succ']
   rw[e3]
   exact ih
 have:=main N (ar _)
 rw[jr]at this
 simp only[List.replicate_zero,bb]at this
 have e:kR σ.length 0 N=List.replicate N [.v (.slice none 0 0)]:=by
  refine dv fun i=>?_
  simp only[kR,aV,fl]
  by_cases hi:i<N
  ·simp[hi]
  ·simp[hi]
 rw[e,j8 ho]at this
 exact this
def wa(σ:aG)(A G N:Nat)(R:Nat->List Sp):Prop:=
 σ.at A 0=some ⟨56,1,(List.range N).map fun(j:Nat)=>[.own (G+j) 0 (R j).length],none⟩/\∀j,j<N->σ.at (G+j) 0=some (jJ (R j))
theorem wa.congr{σ:aG}{A G N:Nat}{R R':Nat->List Sp}(h:wa σ A G N R)(hR:∀j,j<N->R' j=R j):wa σ A G N R':=by
 refine⟨?_,fun j hj=>by rw[hR j hj];exact h.2 j hj⟩
 rw[h.1,ea (f:=fun(j:Nat)=>[AV.own (G+j) 0 (R j).length]) (g:=fun(j:Nat)=>[.own (G+j) 0 (R' j).length]) fun j hj=>by rw[hR j hj]]
theorem wa.frame{σ σ':aG}{A G N:Nat}{R:Nat->List Sp}(h:wa σ A G N R)(hA:σ'.at A 0=σ.at A 0)(hG:∀j,j<N->σ'.at (G+j) 0=σ.at (G+j) 0):wa σ' A G N R:=
 ⟨by rw[hA];exact h.1,fun j hj=>by rw[hG j hj];exact h.2 j hj⟩
theorem wa.app{σ:aG}{A G N:Nat}{R:Nat->List Sp}(h:wa σ A G N R)(ν:aG):wa (σ++ν) A G N R:=
 h.frame (cI (dU h.1)) fun j hj=>cI (dU (h.2 j hj))
def zo(σ:aG)(A G N c:Nat)(R:Nat->List Sp)(l:List Sp):aG:=
 (σ.cZ (G+c) 0 (jJ l)).cZ A 0 ⟨56,1,((List.range N).map fun(j:Nat)=>[AV.own (G+j) 0 (R j).length]).set c [.own (G+c) 0 l.length],none⟩
theorem MM{σ:aG}{A G N c:Nat}{R:Nat->List Sp}{v:List Sp}:(zo σ A G N c R v).length=σ.length:=by rw[zo,eW,eW]
theorem PT{σ:aG}{A G N c:Nat}{R:Nat->List Sp}{v:List Sp}{i:Nat}(h:i≠A)(h':i≠G+c):(zo σ A G N c R v).at i 0=σ.at i 0:=by
 rw[zo,cx (.inl fun e=>h e.symm),cx (.inl fun e=>h' e.symm)]
theorem MN{σ:aG}{A G N c:Nat}{R:Nat->List Sp}{v:List Sp}(h:wa σ A G N R)(hAG:A<G)(hc:c<N):wa (zo σ A G N c R v) A G N (fun j=>if j=c then v else R j):=by
 have h1:(σ.cZ (G+c) 0 (jJ v)).at A 0=some ⟨56,1,(List.range N).map fun(j:Nat)=>[.own (G+j) 0 (R j).length],none⟩:=by rw[cx (.inl (by omega))];exact h.1
 refine⟨?_,fun j hj=>?_⟩
 ·rw[zo,cu h1,kZ]
  refine congrArg (fun z=>some (⟨56,1,z,none⟩:Ob)) (ea fun j hj=>?_)
  by_cases uP:j=c
  ·subst uP;simp
  ·simp[uP]
 ·rw[zo,cx (.inl (by omega))]
  by_cases uP:j=c
  ·subst uP;rw[cu (h.2 j hj)];simp
  ·rw[cx (.inl (by omega)),h.2 j hj];simp[uP]
theorem MO(τ:aG)(a c:Option (List Ob))(o0:Ob)(N:Nat)(lN:aG)(h:lN=aG.cZ (τ++[a,some [o0],c]) (List.length τ+1) 0 ⟨56,1,kR (List.length (τ++[a,some [o0],c])) N N,none⟩++List.replicate N (some [jJ []])):lN.length=List.length τ+3+N/\wa lN (List.length τ+1) (List.length τ+3) N (fun _=>[])/\lN.at (List.length τ+2) 0=aG.at [c] 0 0/\lN.at (List.length τ) 0=aG.at [a] 0 0/\∀i,i<List.length τ->lN.at i 0=τ.at i 0:=by
 have e0:List.length (τ++[a,some [o0],c])=List.length τ+3:=by simp
 rw[fC,e0]at h
 have e1:lN=τ++(a::some [⟨56,1,kR (List.length τ+3) N N,none⟩]::c::List.replicate N (some [jJ []])):=by
  rw[h,r7,rZ];simp
 subst e1
 refine⟨by simp;omega,⟨?_,fun j hj=>?_⟩,?_,?_,fun i hi=>cI hi⟩
 ·rw[dR,cQ,uz]
  simp only[cg,kR]
  exact congrArg (fun z=>some (⟨56,1,z,none⟩:Ob)) (ea fun j hj=>by rw[if_pos hj];rfl)
 ·rw[show List.length τ+3+j=List.length τ+(j+1+1+1) by omega,dR,cQ,cQ,cQ]
  unfold aG.at
  simp[hj]
 ·rw[dR,cQ,cQ]
  cases c<;>simp[aG.at]
 ·rw[dV]
  cases a<;>simp[aG.at]
def rz(σ:aG)(c:AV)(x:List (List Sp)):Prop:=c=mZ x\/∃f,c=.own f 0 x.length/\σ.at f 0=some ⟨56,1,x.map (fun l=>[iT l]),none⟩
theorem rz.app{σ:aG}{c:AV}{x:List (List Sp)}(h:rz σ c x)(ν:aG):rz (σ++ν) c x:=by
 rcases h with h|⟨f,h1,h2⟩
 ·exact .inl h
 ·exact .inr ⟨f,h1,by rw[cI (dU h2)];exact h2⟩
theorem MP{σ:aG}{f:Nat}{x:List (List Sp)}(h:σ.at f 0=some ⟨56,1,x.map (fun l=>[iT l]),none⟩):bO σ (.own f 0 x.length) (mZ x):=by
 refine bO.own (o:=⟨56,1,x.map (fun l=>[iT l]),none⟩) (es:=x.map fun l=>[iT l]) (show(1:Nat)≠0 by decide) h (by simp) (by simp) (fun e j he hj=>?_) fun e he=>?_
 ·obtain⟨l,hl⟩:∃l,x[e]?=some l:=⟨_,ae he⟩
  rw[getD_map hl]
  match j,hj with
  |0,_=>exact Fq
 ·obtain⟨l,hl⟩:∃l,x[e]?=some l:=⟨_,ae he⟩
  rw[getD_map hl];rfl
theorem rz.Wo{σ:aG}{c:AV}{x:List (List Sp)}(h:rz σ c x):bO σ c (mZ x):=by
 rcases h with rfl|⟨f,rfl,h2⟩
 ·exact Fq
 ·exact MP h2
structure MQ(T:Nat)(rv:AV)(fs fn fp it:Nat)(cap:Nat->List AV)(N:Nat)(nd:Nat->List q_)(hs:Nat->List np):Prop where
 ms:qO Tryz.prog T "aneroid/tracks.stages" =some fs
 mn:qO Tryz.prog T "aneroid/tracks.nodes" =some fn
 mp:qO Tryz.prog T "aneroid/tracks.steps" =some fp
 ps:Pure Tryz.prog fs [rv] (n (N:Int))
 pn:∀k:Nat,k<N->Pure Tryz.prog fn [rv,n (k:Int)] (Ae (nd k))
 pp:∀k:Nat,k+1<N->Pure Tryz.prog fp [rv,n (k:Int)] (.fn (.func it) [] (cap k))
 pi:∀k:Nat,k+1<N->Iter Tryz.prog it [] (cap k) (ry (hs k))
 pv:bC rv
 n1:1<=N
 n2:N<=401
 nl:∀k,k<N->(nd k).length<=4000
 ng:∀k,kq ((nd k).map (·.al))
 ns:∀k,k<N->∀x∈nd k,x.al.length<=64
 hk:∀k,k+1<N->∀h∈hs k,h.fr<(nd k).length/\h.to<(nd (k+1)).length/\Gt h.ch
 hl:∀k,k+1<N->(hs k).length<=256000
theorem rz.frame{σ σ':aG}{c:AV}{x:List (List Sp)}(h:rz σ c x)(hs:∀f o,σ.at f 0=some o->o.T=56->σ'.at f 0=some o):rz σ' c x:=by
 rcases h with h|⟨f,h1,h2⟩
 ·exact .inl h
 ·exact .inr ⟨f,h1,hs f _ h2 rfl⟩
structure Yl(m:Nat)(o0:Bool)(A B:Nat)(lv:Nat->List (List Sp))(τ:aG)(k:Nat)(cl:Nat->AV)(g:Nat->Nat):Prop where
 a:τ.at A 0=some ⟨45,1,(List.range (k+1)).map fun i=>[cl i],none⟩
 b:τ.at B 0=some ⟨192,1,[[.own A 0 (k+1)]],none⟩
 row:∀i,i<=k->rz τ (cl i) (lv i)
 own:∀i,(o0=true\/1<=i)->i<=k->cl i=.own (g i) 0 (lv i).length/\τ.at (g i) 0=some ⟨56,1,(lv i).map (fun l=>[iT l]),none⟩/\m<=g i
 inj:∀i j,(o0=true\/1<=i)->i<j->j<=k->g i<g j
inductive Di(σ:aG)(N:Nat)(lv:Nat->List (List Sp))(o0:Bool)(r:AV)(σ':aG):Prop
 |mk(ν:aG)(A B:Nat)(cl:Nat->AV)(g:Nat->Nat)(h:σ'=σ++ν)(hr:r=.own A 0 N)(hA:σ.length<=A)(hs:Yl σ.length o0 A B lv σ' (N-1) cl g)
theorem zp{hs:List np}{cur:List (List Sp)}(hc:kq cur)(j:Nat):(jh hs cur j).length<=hs.length*200001:=by
 unfold jh
 induction hs with
 |nil=>simp
 |cons h r ih=>
  rw[gP,aM,bf]
  have h1:(Jr cur j h).length<=200001:=by
   unfold Jr
   split
   ·rw[E6];exact pG (ki hc _)
   ·simp
  omega
theorem PU{hs:List np}{cur:List (List Sp)}(hc:kq cur)(hh:∀h∈hs,Gt h.ch)(j:Nat):∀s∈jh hs cur j,s.lo<=s.hi/\-1000000<=s.lo/\s.hi<=1000000:=fun s nM=>by
 obtain⟨h,hm,hx⟩:=fc.1 nM
 unfold Jr at hx
 split at hx
 ·obtain⟨x,PM,rfl⟩:=aO.1 hx
  have h1:=(ki hc h.fr).1.ne x PM
  have h2:=(ki hc h.fr).2 x PM
  obtain⟨h3,h4,h5⟩:=hh h hm
  simp only;omega
 ·simp at hx
theorem JY{hs:List np}{cur:List (List Sp)}{m:Nat}{h:np}(e:hs[m]?=some h)(j:Nat):jh (hs.take (m+1)) cur j=if j=h.to then jh (hs.take m) cur j++wide (cur.getD h.fr []) h.ch else jh (hs.take m) cur j:=by
 rw[ey e]
 unfold jh
 rw[iD]
 simp only[gP,List.flatMap_nil,bb]
 unfold Jr
 by_cases hj:j=h.to
 ·subst hj;simp
 ·rw[if_neg hj,if_neg (fun e=>hj e.symm),bb]
theorem zq{σ:aG}{f g i:Nat}(h:g≠f):(gone σ f).at g i=σ.at g i:=by
 unfold gone aG.at
 rw[bW (fun e=>h e.symm)]
def DY(σ x:aG):Prop:=∃ν,x=σ++ν
theorem DY.app{σ x:aG}(h:DY σ x)(ν:aG):DY σ (x++ν):=by obtain⟨μ,rfl⟩:=h;exact⟨μ++ν,by simp⟩
theorem DY.cZ{σ x:aG}(h:DY σ x){f i:Nat}{o:Ob}(hf:σ.length<=f):DY σ (x.cZ f i o):=by
 obtain⟨μ,rfl⟩:=h
 obtain⟨d,rfl⟩:∃d,f=σ.length+d:=⟨f-σ.length,by omega⟩
 exact⟨_,fC _ _ _ _ _⟩
theorem DY.gone{σ x:aG}(h:DY σ x){f:Nat}(hf:σ.length<=f):DY σ (Abs.gone x f):=by
 obtain⟨μ,rfl⟩:=h
 exact⟨_,fa _ _ hf⟩
theorem DY.len{σ x:aG}(h:DY σ x):σ.length<=x.length:=by obtain⟨μ,rfl⟩:=h;simp
inductive Z3(σ:aG)(T:Nat)(rv:AV)(F0:List (List Sp))(o0:Bool)(env:Env)(σ':aG):Prop
 |mk (c0:AV) (g0:Nat) (ν:aG) (h:Sub [(0,.l6 T rv),(1,c0)] env) (hs:σ'=σ++ν) (hr:rz σ' c0 F0) (ho:o0=true->c0=.own g0 0 F0.length/\σ'.at g0 0=some ⟨56,1,F0.map (fun l=>[iT l]),none⟩/\σ.length<=g0)
inductive Z4(σ:aG)(T:Nat)(rv:AV)(o0:Bool)(lv:Nat->List (List Sp))(env:Env)(σ':aG):Prop
 |mk(A:Nat)(cl:Nat->AV)(g:Nat->Nat)(ν:aG)(h:Sub [(0,.l6 T rv),(7,.ptr (A+1) 0 1 0 0)] env)(hA:σ.length<=A)(hs:σ'=σ++ν)(hl:Yl σ.length o0 A (A+1) lv σ' 0 cl g)
theorem uQ(σ:aG){T:Nat}{rv:AV}{fs fn fp it:Nat}{cap:Nat->List AV}{N:Nat}{nd:Nat->List q_}{hs:Nat->List np}(S:MQ T rv fs fn fp it cap N nd hs)(o0:Bool)(F0:List (List Sp))(fst:AV)(hf:if o0=true then fst=.v (.slice none 0 0)/\F0=(nd 0).map (·.al)else fst=mZ F0/\F0≠[])(QX:kq F0)(Cb:F0.length=(nd 0).length):eY Tryz.prog 263 [.l6 T rv,fst] σ (Di σ N (nq (fun k=>(nd k).map (·.al)) hs F0) o0):=by
 refine Fi Tryz.f263.eq_1 [32] [.l [0,7,35,36],.l [0,7,9,10,35,36,71,72,73],.d 12,.l [0,7,8,9,10,35,36],.w (adQ 0 21) [0,1,2] 1 18,.l [0,1,18,19,20]] ?_
 obtain⟨ms,mn,mp,ps,pn,pp,pi,pv,n1,n2,nl,ng,ns,hhk,hhl⟩:=S
 refine adM ?_;intros
 refine aR.cut (Z3 σ T rv F0 o0) ?_ ?_
 ·cases o0 with
  |false=>
   obtain⟨rfl,iw⟩:=hf
   have TE:F0.map (fun l=>[iT l])≠[]:=by simpa using iw
   refine Au ?_;intros
   exact .mk (mZ F0) 0 [] (by simp only[pE,Jk];simp[gt]) (by simp) (.inl rfl) (fun h=>by cases h)
  |true=>
   obtain⟨rfl,rfl⟩:=hf
   have hn0:=nl 0 (by omega)
   have hm0:=ns 0 (by omega)
   have hN0:nd 0=nd 0:=rfl
   generalize hL:nd 0=L at*
   have hp:=pn 0 (by omega)
   rw[hL]at hp
   refine adM ?_;intros
   refine adM ?_;intros
   refine Az @mn @hp ?_;intros
   refine aR.oC 56 1 1 rfl ?_
   refine aR.lr (α:={x:Nat×aG//x.1<=L.length}) [1,20] (fun x=>[(1,.own σ.length 0 x.1.1),(20,n x.1.1)]) (fun x=>σ++(some [⟨56,1,(L.take x.1.1).map (fun x=>[iT x.al]),none⟩]::x.1.2)) (fun x=>L.length-x.1.1) ⟨(0,[]),by simp⟩ ?_
   rintro⟨⟨k,μ⟩,hk⟩
   simp only at hk
   simp only
   have DS:(L.take k).length=k:=by rw[bH];omega
   by_cases bP:k<L.length
   ·obtain⟨x,hx⟩:∃x,L[k]?=some x:=⟨_,ae bP⟩
    have wL:=hm0 x (ao hx)
    refine Az (aa (Kf hx) @DS) (xX x.al (by omega)) ?_;intros
    exact⟨⟨(k+1,μ++[some [⟨340,2,[q_.cs x],none⟩]]),bP⟩,by simp,by rw[ey hx];simp,by simp only;omega⟩
   ·obtain rfl:k=L.length:=by omega
    rw[aI]
    refine Au ?_;intros
    have dQ:aG.at (σ++some [⟨56,1,L.map (fun x=>[iT x.al]),none⟩]::μ) σ.length 0=some ⟨56,1,(L.map (·.al)).map (fun l=>[iT l]),none⟩:=by rw[dV];simp[aG.at]
    exact .mk (.own σ.length 0 L.length) σ.length _ (by simp only[pE,Jk];simp[gt]) rfl (.inr ⟨σ.length,by simp,dQ⟩) (fun _=>⟨by simp,dQ,ar _⟩)
 ·rintro env It ⟨c0,g0,ν0,Gl,Wq,cX,AG⟩
  refine aR.weaken Gl ?_
  clear Gl hf
  refine aR.cut (Z4 σ T rv o0 (nq (fun k=>(nd k).map (·.al)) hs F0)) ?_ ?_
  ·have hL:Yl σ.length o0 It.length (It.length+1) (nq (fun k=>(nd k).map (·.al)) hs F0) (It++[some [⟨45,1,[[c0]],none⟩],some [⟨192,1,[[.own It.length 0 1]],none⟩]]) 0 (fun _=>c0) (fun _=>g0):=by
    refine⟨?_,?_,fun i hi=>?_,fun i hi hi2=>?_,fun i j _ h1 h2=>?_⟩
    ·rw[dV];rfl
    ·rw[dR];rfl
    ·obtain rfl:i=0:=by simpa using hi
     exact cX.app _
    ·obtain rfl:i=0:=by omega
     have ho:o0=true:=by rcases hi with h|h;exact h;omega
     obtain⟨h1,h2,h3⟩:=AG ho
     exact⟨h1,by rw[cI (dU h2)];exact h2,h3⟩
    ·omega
   have Sc:σ.length<=It.length:=by rw[Wq];simp
   have hE:∀X,It++X=σ++(ν0++X):=fun X=>by rw[Wq];simp
   rcases cX with rfl|⟨f,rfl,_⟩
   ·refine Au ?_;intros
    exact .mk It.length _ _ _ (by simp only[pE,Jk];simp[gt]) Sc (hE _) hL
   ·refine Au ?_;intros
    exact .mk It.length _ _ _ (by simp only[pE,Jk];simp[gt]) Sc (hE _) hL
  clear cX AG
  rintro env tT ⟨A,cl1,g1,Ru,Gl,Z5,xG,hL1⟩
  refine aR.weaken Gl ?_
  clear Gl
  refine Az @ms @ps ?_;intros
  generalize HZ:nq (fun k=>(nd k).map (·.al)) hs F0=lv at*
  have HX:∀k,kq (lv k):=by rw[<-HZ];exact r_ QX ng
  have hlen:∀k,(lv k).length=(nd k).length:=fun k=>by
   have:=Cs (al:=fun k=>(nd k).map (·.al)) (hs:=hs) (f:=F0) (by simpa using Cb) k
   rw[HZ]at this;rw[this];simp
  refine aR.mT (α:={x:Nat×aG×(Nat->AV)×(Nat->Nat)//x.1<=N-1/\DY σ x.2.1/\Yl σ.length o0 A (A+1) lv x.2.1 x.1 x.2.2.1 x.2.2.2}) [36] (fun x=>[(36,n x.1.1)]) (fun x=>x.1.2.1) (fun x=>N-1-x.1.1)
   ⟨(0,tT,cl1,g1),by simp,⟨Ru,xG⟩,hL1⟩ ?_ ?_ ?_
  ·exact Sb_
  ·simp
  rintro⟨⟨k,τ,cl,g⟩,hk,nj,hS⟩
  simp only at hk nj hS
  simp only
  have lA:=dU hS.a
  have lB:=dU hS.b
  have aA:∀ν,aG.at (τ++ν) A 0=some ⟨45,1,(List.range (k+1)).map fun i=>[cl i],none⟩:=fun ν=>by rw[cI lA];exact hS.a
  have aB:∀ν,aG.at (τ++ν) (A+1) 0=some ⟨192,1,[[.own A 0 (k+1)]],none⟩:=fun ν=>by rw[cI lB];exact hS.b
  by_cases bP:k<N-1
  ·have Oi:=nl (k+1) (by omega)
   have hP:=pn (k+1) (by omega)
   have Wr:((k+1:Nat):Int)=(k:Int)+1:=by omega
   rw[Wr]at hP
   generalize hL:nd (k+1)=L at*
   refine Az (aa @mn (aa @mp (aa @aA @aB))) (aa @hP (pp k (by omega))) ?_;intros
   have Z6:=hlen (k+1)
   rw[hL]at Z6
   have lO:=hhk k (by omega)
   rw[hL]at lO
   have UH:=hhl k (by omega)
   generalize hHk:hs k=H at*
   refine aR.Ir (A:=List.length τ+1) (T:=56) (N:=L.length) (T':=52) (k':=2) (by rw[dR];rfl) ?_
   generalize EA:aG.cZ (τ++_) (List.length τ+1) 0 _++List.replicate L.length (some [⟨52,2,[],none⟩])=lN
   obtain⟨m1,m2,m3,m4,m5⟩:=MO τ _ _ _ L.length lN EA.symm
   have I8:DY σ lN:=by rw[<-EA];exact((nj.app _).cZ (by have:=nj.len;omega)).app _
   have aa7:=nj.len
   clear EA
   obtain⟨G,hG⟩:∃G,G=List.length τ+3:=⟨_,rfl⟩
   rw[<-hG]at m2
   have lR:=pi k (by omega)
   rw[hHk]at lR
   have KR:=HX k
   have ow:=hlen k
   refine aR.rL (fun x:{σ:aG//σ.length=List.length τ+3+L.length}=>x.1) (List.length τ+3+L.length) (fun x=>x.2)
    (fun m x=>wa x.1 (List.length τ+1) G L.length (fun j=>jh (H.take m) (lv k) j)/\x.1.at (List.length τ+2) 0=some ⟨45,1,[[.own (List.length τ+1) 0 L.length]],none⟩/\x.1.at (List.length τ) 0=some ⟨3,1,[[n (k:Int)]],none⟩/\DY σ x.1/\∀i,i<List.length τ->x.1.at i 0=τ.at i 0)
    (fun _ _=>False) (ry H) ⟨lN,m1⟩ rfl rfl ⟨m2.congr fun j _=>by simp[jh],m3,m4,I8,m5⟩ lR (fun m args h=>?_) (fun m x args ll ρ μ hm hx=>?_) (fun x μ hx=>?_) (fun _ _ _ h=>h.elim)
   ·obtain⟨h,hh,rfl⟩:=uO h;rfl
   ·obtain⟨x,mF⟩:=x
    simp only at hx|-
    obtain⟨x1,x2,x3,xp,x4⟩:=hx
    obtain⟨h,hh,rfl⟩:=uO hm
    obtain⟨h1,h2,h3⟩:=lO h (ao hh)
    have Ym:=(ai.1 hh).1
    have ON:=zp (hs:=H.take m) KR h.to
    rw[bH]at ON
    have Ws:=zp (hs:=H.take (m+1)) KR h.to
    rw[bH]at Ws
    have l_:=JY (cur:=lv k) hh
    have UI:(lv k)[h.fr]?=some ((lv k).getD h.fr []):=getD_some (by omega)
    have PV:=ki KR h.fr
    have Wt:=pG PV
    have K6:=G6 ((lv k).getD h.fr []) h.ch Wt (fun s hs=>⟨(PV.2 s hs).1,PV.1.ne s hs,(PV.2 s hs).2⟩) h3
    have cX:=hS.row k (ar _)
    generalize Yn:(lv k).getD h.fr []=cf at*
    simp only[np.cs,par]
    refine Au ?_;intros
    refine⟨⟨x,mF⟩,_,by simp only[aW];rfl,fun ox=>?_⟩
    have bA:∀ν,aG.at (x++ν) A 0=some ⟨45,1,(List.range (k+1)).map fun i=>[cl i],none⟩:=fun ν=>by rw[cI (by omega),x4 A lA];exact hS.a
    have bB:∀ν,aG.at (x++ν) (A+1) 0=some ⟨192,1,[[.own A 0 (k+1)]],none⟩:=fun ν=>by rw[cI (by omega),x4 _ lB];exact hS.b
    have Yo:((List.range (k+1)).map fun i=>[cl i]).getD k []=[cl k]:=gG _ (by omega)
    have b8:∀ν,aG.at (x++ν) (List.length τ) 0=some ⟨3,1,[[n (k:Int)]],none⟩:=fun ν=>by rw[cI (by omega)];exact x3
    have Tg:∀ν,aG.at (x++ν) (List.length τ+2) 0=some ⟨45,1,[[.own (List.length τ+1) 0 L.length]],none⟩:=fun ν=>by rw[cI (by omega)];exact x2
    have bR:∀ν,aG.at (x++ν) (List.length τ+1) 0=some ⟨56,1,(List.range L.length).map fun(j:Nat)=>[.own (G+j) 0 (jh (H.take m) (lv k) j).length],none⟩:=fun ν=>by rw[cI (by omega)];exact x1.1
    have UJ:((List.range L.length).map fun(j:Nat)=>[AV.own (G+j) 0 (jh (H.take m) (lv k) j).length]).getD h.to []=[.own (G+h.to) 0 (jh (H.take m) (lv k) h.to).length]:=gG _ h2
    have bG:∀ν,aG.at (x++ν) (G+h.to) 0=some (jJ (jh (H.take m) (lv k) h.to)):=fun ν=>by rw[cI (by omega)];exact x1.2 _ h2
    have Yc:∀(ν:aG),aG.at (x++ox::(μ++(some [⟨455,2,[[n (h.fr:Int),n (h.to:Int)]],none⟩]::ν))) (List.length x+(List.length μ+1)) 0=some ⟨455,2,[[n (h.fr:Int),n (h.to:Int)]],none⟩:=fun ν=>by rw[dR,cQ,dV];rfl
    have Yd:∀(a:Option (List Ob)) (ν:aG),aG.at (x++ox::(μ++(a::some [⟨52,2,[h.ch.cs],none⟩]::ν))) (List.length x+(List.length μ+1+1)) 0=some ⟨52,2,[h.ch.cs],none⟩:=fun a ν=>by rw[dR,cQ,dR];rfl
    have bU:∀o ν,aG.cZ (x++ν) (G+h.to) 0 o=aG.cZ x (G+h.to) 0 o++ν:=fun o ν=>iR (by omega)
    have cL:∀o,List.length (aG.cZ x (G+h.to) 0 o)=List.length x:=fun o=>eW _ _ _ _
    have TG:∀o ν,aG.at (aG.cZ x (G+h.to) 0 o++ν) (List.length τ+2) 0=some ⟨45,1,[[.own (List.length τ+1) 0 L.length]],none⟩:=fun o ν=>by rw[cI (by rw[cL];omega),cx (.inl (by omega))];exact x2
    have cR:∀o ν,aG.at (aG.cZ x (G+h.to) 0 o++ν) (List.length τ+1) 0=some ⟨56,1,(List.range L.length).map fun(j:Nat)=>[.own (G+j) 0 (jh (H.take m) (lv k) j).length],none⟩:=fun o ν=>by rw[cI (by rw[cL];omega),cx (.inl (by omega))];exact x1.1
    have TH:∀o (ν:aG),aG.at (aG.cZ x (G+h.to) 0 o++ox::(μ++(some [⟨455,2,[[n (h.fr:Int),n (h.to:Int)]],none⟩]::ν))) (List.length x+(List.length μ+1)) 0=some ⟨455,2,[[n (h.fr:Int),n (h.to:Int)]],none⟩:=fun o ν=>by rw[<-cL o,dR,cQ,dV];rfl
    have cU:∀o o' ν,aG.cZ (aG.cZ x (G+h.to) 0 o++ν) (List.length τ+1) 0 o'=aG.cZ (aG.cZ x (G+h.to) 0 o) (List.length τ+1) 0 o'++ν:=fun o o' ν=>iR (by rw[cL];omega)
    have hw2:(jh (H.take m) (lv k) h.to).length+(wide cf h.ch).length<=51200256000:=by
     rw[l_,if_pos rfl,aM]at Ws;omega
    have V':(⟨52,2,(jh (H.take m) (lv k) h.to).map Sp.cs++(wide cf h.ch).map Sp.cs,none⟩:Ob)=jJ (jh (H.take m) (lv k) h.to++wide cf h.ch):=by simp[jJ]
    have C':=MN (c:=h.to) (v:=jh (H.take m) (lv k) h.to++wide cf h.ch) x1 (by omega) h2
    have Bm:=MM (σ:=x) (A:=List.length τ+1) (G:=G) (N:=L.length) (c:=h.to) (R:=fun j=>jh (H.take m) (lv k) j) (v:=jh (H.take m) (lv k) h.to++wide cf h.ch)
    have Ag:=fun i=>PT (σ:=x) (A:=List.length τ+1) (G:=G) (N:=L.length) (c:=h.to) (R:=fun j=>jh (H.take m) (lv k) j) (v:=jh (H.take m) (lv k) h.to++wide cf h.ch) (i:=i)
    rcases cX with mw|⟨f,mw,Z7⟩
    ·rw[mw]at Yo
     refine Az (aa @bA (aa @bB (aa @Yo (aa @b8 (aa @Tg (aa @bR (aa @UJ (aa @bG (aa @Yc (aa @Yd (aa @bU (aa @a_ (Kf UI))))))))))))) @K6 ?_;intros
     refine⟨⟨xY _,by omega⟩,?_⟩
     refine aet (aa @TG (aa @cR (aa @TH (aa @cU (aa @UJ @a_))))) ?_
     refine Ax (aa @TG (aa @cR (aa @TH (aa @cU (aa @UJ @a_))))) ?_;intros
     refine⟨⟨zo x (List.length τ+1) G L.length h.to (fun j=>jh (H.take m) (lv k) j) (jh (H.take m) (lv k) h.to++wide cf h.ch),by rw[Bm];exact mF⟩,[],?_,C'.congr fun j hj=>?_,?_,?_,?_,fun i hi=>?_⟩
     ·simp[zo,jJ]
     ·rw[l_];by_cases Bv:j=h.to
      ·subst Bv;simp
      ·simp[Bv]
     ·exact(Ag _ (by omega) (by omega)).trans x2
     ·exact(Ag _ (by omega) (by omega)).trans x3
     ·exact(xp.cZ (by omega)).cZ (by omega)
     ·exact(Ag _ (by omega) (by omega)).trans (x4 i hi)
    ·rw[mw]at Yo
     have bF:∀ν,aG.at (x++ν) f 0=some ⟨56,1,(lv k).map (fun l=>[iT l]),none⟩:=fun ν=>by rw[cI (by have:=dU Z7;omega),x4 f (dU Z7)];exact Z7
     refine Az (aa @bA (aa @bB (aa @Yo (aa @b8 (aa @Tg (aa @bR (aa @UJ (aa @bG (aa @Yc (aa @Yd (aa @bU (aa @bF (aa @a_ (Kf UI)))))))))))))) @K6 ?_;intros
     refine⟨⟨xY _,by omega⟩,?_⟩
     refine aet (aa @TG (aa @cR (aa @TH (aa @cU (aa @UJ @a_))))) ?_
     refine Ax (aa @TG (aa @cR (aa @TH (aa @cU (aa @UJ @a_))))) ?_;intros
     refine⟨⟨zo x (List.length τ+1) G L.length h.to (fun j=>jh (H.take m) (lv k) j) (jh (H.take m) (lv k) h.to++wide cf h.ch),by rw[Bm];exact mF⟩,[],?_,C'.congr fun j hj=>?_,?_,?_,?_,fun i hi=>?_⟩
     ·simp[zo,jJ]
     ·rw[l_];by_cases Bv:j=h.to
      ·subst Bv;simp
      ·simp[Bv]
     ·exact(Ag _ (by omega) (by omega)).trans x2
     ·exact(Ag _ (by omega) (by omega)).trans x3
     ·exact(xp.cZ (by omega)).cZ (by omega)
     ·exact(Ag _ (by omega) (by omega)).trans (x4 i hi)
   ·obtain⟨x,mF⟩:=x
    simp only at hx|-
    obtain⟨x1,x2,x3,xp,x4⟩:=hx
    have Wu:(ry H).length=H.length:=by simp[ry]
    rw[Wu,aI]at x1
    have bB:∀ν,aG.at (x++ν) (A+1) 0=some ⟨192,1,[[.own A 0 (k+1)]],none⟩:=fun ν=>by rw[cI (by omega),x4 _ lB];exact hS.b
    have Tg:∀ν,aG.at (x++ν) (List.length τ+2) 0=some ⟨45,1,[[.own (List.length τ+1) 0 L.length]],none⟩:=fun ν=>by rw[cI (by omega)];exact x2
    have bR:∀ν,aG.at (x++ν) (List.length τ+1) 0=some ⟨56,1,(List.range L.length).map fun(j:Nat)=>[.own (G+j) 0 (jh H (lv k) j).length],none⟩:=fun ν=>by rw[cI (by omega)];exact x1.1
    refine Ax (aa @Tg (aa @bR @a_)) ?_;intros
    have hgL:kq (L.map (·.al)):=by have:=ng (k+1);rwa[hL]at this
    refine aR.mT (α:={q:Nat×aG//q.1<=L.length/\q.2.at (List.length τ+1) 0=some ⟨56,1,(List.range L.length).map fun(j:Nat)=>[if j<q.1 then iT (nw H (lv k) (L.map (·.al)) j)else .own (G+j) 0 (jh H (lv k) j).length],none⟩/\
     (∀j,q.1<=j->j<L.length->q.2.at (G+j) 0=some (jJ (jh H (lv k) j)))/\q.2.at (List.length τ+2) 0=some ⟨45,1,[[.own (List.length τ+1) 0 L.length]],none⟩/\(∀i,i<List.length τ->q.2.at i 0=τ.at i 0)/\DY σ q.2})
     [73] (fun q=>[(73,n q.1.1)]) (fun q=>q.1.2) (fun q=>L.length-q.1.1) ⟨(0,x++μ),aQ _,by simpa using bR μ,fun j _ hj=>(x1.app μ).2 j hj,Tg μ,fun i hi=>by rw[cI (by omega)];exact x4 i hi,xp.app μ⟩ ?_ rfl ?_
    ·exact Sb_
    rintro⟨⟨i,iX⟩,hi,y1,y2,y3,y4,y5⟩
    simp only at hi y1 y2 y3 y4 y5
    simp only
    have dg:∀j,j<L.length->((List.range L.length).map fun(j:Nat)=>[if j<i then iT (nw H (lv k) (L.map (·.al)) j)else .own (G+j) 0 (jh H (lv k) j).length]).getD j []=[if j<i then iT (nw H (lv k) (L.map (·.al)) j)else .own (G+j) 0 (jh H (lv k) j).length]:=fun j hj=>gG _ hj
    by_cases my:i<L.length
    ·obtain⟨z,hz⟩:∃z,L[i]?=some z:=⟨_,ae my⟩
     have Wv:=dg i my
     rw[if_neg (f_ i)]at Wv
     have yi:=y2 i (ar _) my
     refine aeE (aa @y1 (aa @Wv @a_)) ?_;intros
     refine aeE (aa @y1 (aa @Wv @a_)) ?_;intros
     refine aR.both (fun _=>?_) (fun h=>?_)
     case refine_2=>exfalso;omega
     refine adM ?_;intros
     refine aeE (aa @y1 (aa @Wv @a_)) ?_;intros
     (repeat refine si ?_)
     refine aR.H_ (t:=14) (n:=(jh H (lv k) i).length) rfl yi (by simp) (show(2:Nat)≠0 by decide) ?_
     have lG:=dU yi
     have l1:=dU y1
     have l3:=dU y3
     have z1:aG.at (gone iX (G+i)) (List.length τ+1) 0=some ⟨56,1,(List.range L.length).map fun(j:Nat)=>[if j<i then iT (nw H (lv k) (L.map (·.al)) j)else .own (G+j) 0 (jh H (lv k) j).length],none⟩:=by rw[zq (by omega)];exact y1
     have z3:aG.at (gone iX (G+i)) (List.length τ+2) 0=some ⟨45,1,[[.own (List.length τ+1) 0 L.length]],none⟩:=by rw[zq (by omega)];exact y3
     have Wx:(L.map (·.al)).getD i []=z.al:=getD_map hz
     have UL:iV z.al:=by have:=ki hgL i;rwa[Wx]at this
     have hgi:=zp (hs:=H) KR i
     have Dc:=PU (hs:=H) KR (fun h hh=>(lO h hh).2.2) i
     have Z8:=uK (jh H (lv k) i) (by omega) (fun s hs=>(Dc s hs).1) (fun s hs=>(Dc s hs).2)
     have hjn:=rh (jh H (lv k) i)
     have vi:(jI [] (jh H (lv k) i)).length<=51200256000:=by have:=Bx (l:=[]) (b:=jh H (lv k) i);simp only[bM]at this;omega
     have Oq:=zg (jI [] (jh H (lv k) i)) z.al hjn (by omega) UL
     have S8:meet (jI [] (jh H (lv k) i)) z.al=nw H (lv k) (L.map (·.al)) i:=by unfold nw;rw[Wx]
     rw[S8]at Oq
     have z4:∀q,q≠G+i->(gone iX (G+i)).at q 0=iX.at q 0:=fun q hq=>zq hq
     have z5:DY σ (gone iX (G+i)):=y5.gone (by omega)
     generalize Wy:gone iX (G+i)=VI at*
     refine Az (aa @z1 (aa @z3 (aa @Wv (aa (Kf hz) @a_)))) (aa @kQ (aa @Z8 @Oq)) ?_;intros
     generalize zt:aG.cZ VI (List.length τ+1) 0 _=tU
     have f1:=cu (o':=⟨56,1,((List.range L.length).map fun(j:Nat)=>[if j<i then iT (nw H (lv k) (L.map (·.al)) j)else .own (G+j) 0 (jh H (lv k) j).length]).set i [iT (nw H (lv k) (L.map (·.al)) i)],none⟩) z1
     have f2:∀q,q≠List.length τ+1->tU.at q 0=VI.at q 0:=fun q hq=>by rw[<-zt,cx (.inl fun e=>hq e.symm)]
     have f3:DY σ tU:=by rw[<-zt];exact z5.cZ (by omega)
     rw[show aG.cZ VI (List.length τ+1) 0 ⟨56,1,((List.range L.length).map fun(j:Nat)=>[if j<i then iT (nw H (lv k) (L.map (·.al)) j)else .own (G+j) 0 (jh H (lv k) j).length]).set i [iT (nw H (lv k) (L.map (·.al)) i)],none⟩=tU from zt]at f1
     refine⟨⟨(i+1,tU),my,?_,?_,?_,?_,f3⟩,by simp,rfl,by simp only;omega⟩
     ·simp only
      rw[f1]
      simp only[kZ]
      refine congrArg (fun z=>some (⟨56,1,z,none⟩:Ob)) (ea fun j hj=>?_)
      by_cases Z9:j=i
      ·subst Z9;simp
      ·rw[if_neg Z9]
       by_cases vi:j<i
       ·rw[if_pos vi,if_pos (by omega)]
       ·rw[if_neg vi,if_neg (by omega)]
     ·intro j Ra Bv
      simp only at Ra|-
      rw[f2 _ (by omega),z4 _ (by omega)]
      exact y2 j (by omega) Bv
     ·simp only
      rw[f2 _ (by omega)];exact z3
     ·intro q hq
      simp only
      rw[f2 _ (by omega),z4 _ (by omega)]
      exact y4 q hq
    ·obtain rfl:i=L.length:=by omega
     have y6:iX.at (A+1) 0=some ⟨192,1,[[.own A 0 (k+1)]],none⟩:=(y4 _ lB).trans hS.b
     have y7:iX.at A 0=some ⟨45,1,(List.range (k+1)).map fun i=>[cl i],none⟩:=(y4 _ lA).trans hS.a
     have lA2:=dU y7
     have lB2:=dU y6
     have y8:∀o,(iX.cZ A 0 o).at (A+1) 0=some ⟨192,1,[[.own A 0 (k+1)]],none⟩:=fun o=>by rw[cx (.inl (by omega))];exact y6
     refine Ax (aa @y6 (aa @y7 (aa @y8 (aa @y3 @a_)))) ?_;intros
     have aa8:=hS.own
     have eL:lv (k+1)=AM H (lv k) (L.map (·.al)):=by rw[<-HZ];show AM (hs k) (nq _ hs F0 k) ((nd (k+1)).map (·.al))=_;rw[hHk,hL,HZ]
     have eR:(List.range L.length).map (fun(j:Nat)=>[if j<L.length then iT (nw H (lv k) (L.map (·.al)) j)else .own (G+j) 0 (jh H (lv k) j).length])=(lv (k+1)).map (fun l=>[iT l]):=by
      rw[eL,AM,il,aF]
      exact ea fun j hj=>by rw[if_pos hj];rfl
     rw[eR]at y1
     generalize zt:aG.cZ (aG.cZ iX A 0 _) (A+1) 0 _=tU
     have w0:∀q,q≠A->q≠A+1->tU.at q 0=iX.at q 0:=fun q h1 h2=>by rw[<-zt,cx (.inl (fun e=>h2 e.symm)),cx (.inl (fun e=>h1 e.symm))]
     have w1:tU.at A 0=some ⟨45,1,(List.range (k+1)).map (fun i=>[cl i])++[[.own (List.length τ+1) 0 L.length]],none⟩:=by rw[<-zt,cx (.inl (by omega)),cu y7]
     have w2:tU.at (A+1) 0=some ⟨192,1,[[.own A 0 (k+2)]],none⟩:=by rw[<-zt,cu (y8 _)]
     have w3:DY σ tU:=by rw[<-zt];exact(y5.cZ (by omega)).cZ (by omega)
     refine⟨⟨(k+1,tU,fun j=>if j=k+1 then .own (List.length τ+1) 0 L.length else cl j,fun j=>if j=k+1 then List.length τ+1 else g j),by simp only;omega,?_,⟨?_,?_,?_,?_,?_⟩⟩,by simp,rfl,by simp only;omega⟩
     ·exact w3
     ·simp only
      rw[w1]
      refine congrArg (fun z=>some (⟨45,1,z,none⟩:Ob)) ?_
      rw[show List.range (k+1+1)=List.range (k+1)++[k+1]from gE,di]
      congr 1
      ·exact ea fun j hj=>by rw[if_neg (by omega)]
      ·simp
     ·simp only
      exact w2
     ·intro j hj
      simp only at hj|-
      by_cases Jf:j=k+1
      ·subst Jf
       rw[if_pos rfl]
       refine .inr ⟨List.length τ+1,by rw[Z6],?_⟩
       rw[w0 _ (by omega) (by omega)];exact y1
      ·rw[if_neg Jf]
       refine(hS.row j (by omega)).frame fun f o ho hoT=>?_
       have:=dU ho
       rw[w0 _ (fun e=>?_) (fun e=>?_),y4 f this]
       ·exact ho
       ·subst e;rw[hS.a]at ho;injection ho with ho;subst ho;cases hoT
       ·subst e;rw[hS.b]at ho;injection ho with ho;subst ho;cases hoT
     ·intro j Ra Bv
      simp only at Bv|-
      by_cases Jf:j=k+1
      ·subst Jf
       rw[if_pos rfl,if_pos rfl]
       refine⟨by rw[Z6],?_,by omega⟩
       rw[w0 _ (by omega) (by omega)];exact y1
      ·rw[if_neg Jf,if_neg Jf]
       obtain⟨u1,u2,u3⟩:=hS.own j Ra (by omega)
       refine⟨u1,?_,u3⟩
       have:=dU u2
       rw[w0 _ (fun e=>?_) (fun e=>?_),y4 _ this]
       ·exact u2
       ·rw[e,hS.a]at u2;injection u2 with u2;injection u2 with u2;cases u2
       ·rw[e,hS.b]at u2;injection u2 with u2;injection u2 with u2;cases u2
     ·intro j1 j2 Ra Bv hj3
      simp only at hj3|-
      rw[if_neg (show¬j1=k+1 by omega)]
      by_cases Jf:j2=k+1
      ·rw[if_pos Jf]
       have:=dU (hS.own j1 Ra (by omega)).2.1
       omega
      ·rw[if_neg Jf]
       exact hS.inj j1 j2 Ra Bv (by omega)
  ·obtain rfl:k=N-1:=by omega
   (repeat' ((first|refine vn rfl ?_|simp(disch:=omega) only[cB,aj]|refine bo (fun _=>?_) fun _=>?_|refine im fun _=>?_|refine cF ?_|refine om ?_|refine an ?_|fail)<;>try simp only[zN,zT,zV,zS,zU,dC,ex,bu,bN,elems,cells,scalar,dH,bL,aX,aU,bJ,bI,Nat.reduceBEq,reduceAdd,reduceSub,reduceLT,reduceLeDiff,reduceMul,reduceEqDiff,reduceIte,aA,aB,hS.a,hS.b]))
   all_goals try(exfalso;omega)
   obtain⟨ν,Z_⟩:=nj
   exact .mk ν A (A+1) cl g Z_ (by rw[show N-1+1=N by omega]) Z5 hS
theorem BP{m:Nat}:∀{l:List q_} {i:Nat},(∀x∈l,x.nx.length<=m)->(rb i l).length<=l.length*m
 | [],_,_=>by simp[rb]
 |x::r,i,h=>by
  have h1:=h x (by simp)
  have h2:=BP (i:=i+1) (l:=r) fun y hy=>h y (by simp[hy])
  simp only[rb,aM,bf,pY,aF,xc]
  omega
theorem Iu{t:ka}(h:valid t){k:Nat}(hk:k<t.length):(H6 t k).length<=256000:=by
 obtain⟨h1,h2,h3⟩:=lZ h hk
 have:=BP (i:=0) fun x hx=>(h3 x hx).2.1
 unfold H6 AL
 omega
theorem TI(t:ka)(h:valid t):MQ 399 (Af t) 359 358 360 361 (fun k=>[.bZ [MH t] 0,.bZ [n (k:Int)] 0]) t.length (fun k=>t.getD k []) (H6 t)where
 ms:=by kernel_rfl
 mn:=by kernel_rfl
 mp:=by kernel_rfl
 ps:=Dg t
 pn k hk:=E4 t k hk
 pp k _:=o6 t k
 pi k hk:=zm t k h (by omega)
 pv:=by simp
 n1:=h.1
 n2:=h.2.1
 nl k hk:=(lZ h hk).2.1
 ng k:=kj h k
 ns k hk x hx:=((lZ h hk).2.2 x hx).1.1
 hk k hk g hg:=vN h hg
 hl k hk:=Iu h (by omega)
theorem Wz(t:ka)(h:valid t):MQ 400 (Af t) 363 362 364 365 (fun k=>[.bZ [MH t] 0,.bZ [n (k:Int)] 0]) t.length (fun k=>t.getD (t.length-1-k) []) (yK t)where
 ms:=by kernel_rfl
 mn:=by kernel_rfl
 mp:=by kernel_rfl
 ps:=E5 t
 pn k hk:=G4 t k (by have:=h.2.1;omega) hk
 pp k _:=G5 t k
 pi k hk:=JX t k h hk
 pv:=by simp
 n1:=h.1
 n2:=h.2.1
 nl k hk:=(lZ h (by omega)).2.1
 ng k:=kj h _
 ns k hk x hx:=((lZ h (by omega)).2.2 x hx).1.1
 hk k hk g hg:=by
  obtain⟨x,hx,rfl⟩:=aO.1 hg
  obtain⟨h1,h2,h3⟩:=vN h hx
  refine⟨?_,?_,?_⟩
  ·show x.to<wd t (t.length-1-k)
   rwa[show t.length-1-k=t.length-2-k+1 by omega]
  ·show x.fr<wd t (t.length-1-(k+1))
   rwa[show t.length-1-(k+1)=t.length-2-k by omega]
  ·obtain⟨c1,c2,c3⟩:=h3
   exact⟨by show-100000<=-x.ch.hi;omega,by show-x.ch.hi<=-x.ch.lo;omega,by show-x.ch.lo<=100000;omega⟩
 hl k hk:=by
  rw[yK,aF];exact Iu h (by omega)
theorem uR(σ:aG)(t:ka)(h:valid t):eY Tryz.prog 222 [Af t] σ (Di σ t.length (fwd t) true):=by
 refine Fi Tryz.f222.eq_1 [] [] ?_
 have hd:=uQ σ (TI t h) true (tp t 0) (.v (.slice none 0 0)) ⟨rfl,rfl⟩ (kj h 0) (by rw[r9];rfl)
 refine Au ?_;intros
 refine .inr (.inl ⟨_,_,_,_,rfl,fun _=>⟨hd,?_⟩,fun h=>by cases h⟩)
 rintro res σ' hR
 refine aH ?_
 obtain⟨ν,A,B,cl,g,rfl,rfl,hA,hL⟩:=hR
 refine Au ?_;intros
 exact .mk ν A B cl g rfl rfl hA hL
theorem Dj{σ:aG}{A N:Nat}{cl:Nat->AV}{lv:Nat->List (List Sp)}(h:σ.at A 0=some ⟨45,1,(List.range N).map fun i=>[cl i],none⟩)(hr:∀i,i<N->rz σ (cl i) (lv i)):bO σ (.own A 0 N) (GR ((List.range N).map lv)):=by
 refine bO.own (o:=⟨45,1,(List.range N).map fun i=>[cl i],none⟩) (es:=((List.range N).map lv).map fun l=>[mZ l]) (show(1:Nat)≠0 by decide) h (by simp) (by simp) (fun e j he hj=>?_) fun e he=>?_
 ·rw[gG _ he,getD_map (x:=lv e) (by simp[he])]
  match j,hj with
  |0,_=>exact(hr e he).Wo
 ·rw[getD_map (x:=lv e) (by simp[he])];rfl
theorem Di.Wo{σ σ':aG}{N:Nat}{lv:Nat->List (List Sp)}{o0:Bool}{r:AV}(hN:1<=N)(h:Di σ N lv o0 r σ'):bO σ' r (GR ((List.range N).map lv)):=by
 obtain⟨ν,A,B,cl,g,h1,rfl,hA,hL⟩:=h
 have:=hL.a
 rw[show N-1+1=N by omega]at this
 exact Dj this fun i hi=>hL.row i (by omega)
theorem Dl(σ:aG)(A N:Nat)(g w:Nat->Nat)(hN:N<9223372036854775808)(ho:σ.at A 0=some ⟨45,1,(List.range N).map fun i=>[.own (g i) 0 (w i)],none⟩):eY Tryz.prog 264 [.own A 0 N] σ (fun _ σ'=>σ'=σ.cZ A 0 ⟨45,1,(List.range N).map fun i=>[.own (g (N-1-i)) 0 (w (N-1-i))],none⟩):=by
 refine Fi Tryz.f264.eq_1 [] [.l [0,2,3],.w (adQ 0 16) [2,3] 1 13] ?_
 let ix:Nat->Nat->Nat:=fun i m=>if m<i\/N-i<=m then N-1-m else m
 let ob:Nat->Ob:=fun i=>⟨45,1,(List.range N).map fun m=>[.own (g (ix i m)) 0 (w (ix i m))],none⟩
 have dQ:∀i,aG.at (σ.cZ A 0 (ob i)) A 0=some (ob i):=fun i=>cu ho
 have h0:σ.cZ A 0 (ob 0)=σ:=by
  have:ob 0=⟨45,1,(List.range N).map fun i=>[.own (g i) 0 (w i)],none⟩:=by
   simp only[ob]
   exact congrArg (fun z=>(⟨45,1,z,none⟩:Ob)) (ea fun j hj=>by simp only[ix];rw[if_neg (by omega)])
  rw[this];exact j8 ho
 refine Ax (aa @ho @a_) ?_;intros
 refine aR.le (α:={i:Nat//2*i<=N+1}) [2,3] (fun i=>[(2,n i.1),(3,n ((N:Int)-1-i.1))]) (fun i=>σ.cZ A 0 (ob i.1)) (fun i=>N-i.1) ⟨0,by omega⟩ h0.symm ?_
 rintro⟨i,hi⟩
 simp only
 by_cases bP:2*i+1<N
 ·have e1:(((N:Int)-1-i).toNat)=N-1-i:=by omega
  have g1:∀i m,m<N->((List.range N).map fun m=>[AV.own (g (ix i m)) 0 (w (ix i m))]).getD m []=[.own (g (ix i m)) 0 (w (ix i m))]:=fun i m hm=>gG _ hm
  have g2:=g1 i i (by omega)
  have g3:=g1 i (N-1-i) (by omega)
  have Z':=dQ i
  have i1:ix i i=i:=by simp only[ix];rw[if_neg (by omega)]
  have i2:ix i (N-1-i)=N-1-i:=by simp only[ix];rw[if_neg (by omega)]
  rw[i1]at g2
  rw[i2]at g3
  simp only[ob]at Z'|-
  have WA:∀o,aG.at (σ.cZ A 0 o) A 0=some o:=fun o=>cu ho
  have huu:∀o o',(σ.cZ A 0 o).cZ A 0 o'=σ.cZ A 0 o':=fun o o'=>Dh
  have g4:∀X,(((List.range N).map fun m=>[AV.own (g (ix i m)) 0 (w (ix i m))]).set i X).getD (N-1-i) []=[.own (g (N-1-i)) 0 (w (N-1-i))]:=fun X=>by
   rw[ab,bW (by omega),<-ab];exact g3
  refine Ax (aa @WA (aa @e1 (aa @g2 (aa @g3 @a_)))) ?_;intros
  refine aet (aa @WA (aa @huu (aa @e1 (aa @g4 (aa @cK.{0} @a_))))) ?_
  refine Au ?_;intros
  refine⟨⟨i+1,by omega⟩,⟨by simp,by simp;omega⟩,?_,by simp only;omega⟩
  refine congrArg (fun z=>aG.cZ σ A 0 (⟨45,1,z,none⟩:Ob)) ?_
  rw[kZ,kZ]
  refine ea fun j hj=>?_
  simp only[ix]
  by_cases h1:j=N-1-i
  ·rw[if_pos h1,if_pos (by omega),h1,show N-1-(N-1-i)=i by omega]
  ·rw[if_neg h1]
   by_cases h2:j=i
   ·rw[if_pos h2,if_pos (by omega),h2]
   ·rw[if_neg h2]
    by_cases h3:j<i\/N-i<=j
    ·rw[if_pos h3,if_pos (by omega)]
    ·rw[if_neg h3,if_neg (by omega)]
 ·have lh:ob i=⟨45,1,(List.range N).map fun i=>[.own (g (N-1-i)) 0 (w (N-1-i))],none⟩:=by
   simp only[ob]
   refine congrArg (fun z=>(⟨45,1,z,none⟩:Ob)) (ea fun j hj=>?_)
   simp only[ix]
   by_cases h3:j<i\/N-i<=j
   ·rw[if_pos h3]
   ·rw[if_neg h3,show N-1-j=j by omega]
  refine Au ?_;intros
  rw[lh]
theorem ph(t:ka)(h:valid t):Pure Tryz.prog 223 [Af t] (GR (Js t)):=by
 refine jX Tryz.f223.eq_1 [] [] ?_
 have hN:=h.1
 have Yp:=h.2.1
 have hd:=uQ [] (Wz t h) true (yJ t 0) (.v (.slice none 0 0)) ⟨rfl,rfl⟩ (lU h 0) (by rw[yJ,r9];rfl)
 refine Au ?_;intros
 refine .inr (.inl ⟨_,_,_,_,rfl,fun _=>⟨hd,?_⟩,fun h=>by cases h⟩)
 rintro res σ' hR
 refine aH ?_
 obtain⟨ν,A,B,cl,g,Z_,rfl,hA,hL⟩:=hR
 have HZ:nq (fun k=>(t.getD (t.length-1-k) []).map (·.al)) (yK t) (yJ t 0)=sA t:=rfl
 rw[HZ]at hL
 have e1:t.length-1+1=t.length:=by omega
 have dQ:=hL.a
 rw[e1]at dQ
 have ow:∀i,i<t.length->cl i=.own (g i) 0 (sA t i).length:=fun i hi=>(hL.own i (.inl rfl) (by omega)).1
 rw[ea (f:=fun i=>[cl i]) (g:=fun i=>[AV.own (g i) 0 (sA t i).length]) fun i hi=>by rw[ow i hi]]at dQ
 refine Au ?_;intros
 refine .inr (.inl ⟨_,_,_,_,rfl,fun _=>⟨Dl σ' A t.length g (fun i=>(sA t i).length) (by omega) dQ,?_⟩,fun h=>by cases h⟩)
 rintro res iX rfl
 refine aH ?_
 refine Au ?_;intros
 have hb:Js t=(List.range t.length).map fun i=>sA t (t.length-1-i):=rfl
 rw[hb]
 refine Dj (cl:=fun i=>.own (g (t.length-1-i)) 0 (sA t (t.length-1-i)).length) (cu dQ) fun i hi=>.inr ⟨_,rfl,?_⟩
 obtain⟨_,h2,_⟩:=hL.own (t.length-1-i) (.inl rfl) (by omega)
 rw[cx (.inl fun e=>?_)]
 ·exact h2
 ·rw[<-e,dQ]at h2;injection h2 with h2;injection h2 with h2;cases h2
theorem MR{t:ka}{k:Nat}(h:k<t.length):((Js t).map fun l=>[mZ l]).getD k []=[mZ (bwd t k)]:=getD_map (by simp[Js,h])
theorem Rv{t:ka}(h:valid t)(k:Nat):wd t k<=4000:=by
 by_cases hk:k<t.length
 ·exact(lZ h hk).2.1
 ·rw[wd,getD_none (by omega)];simp
theorem BQ{α β:Type}(l:List α)(f:α->β)(d:α):l.map f=(List.range l.length).map fun j=>f (l.getD j d):=by
 refine dv fun i=>?_
 by_cases hi:i<l.length
 ·simp[hi,ab]
 ·simp[hi,b_ (show l.length<=i by omega)]
theorem MS{t:ka}{k:Nat}(hk:k<t.length):(tz t k).map (fun l=>[iT l])=(List.range (wd t k)).map fun j=>[iT (meet ((fwd t k).getD j []) ((bwd t k).getD j []))]:=by
 rw[BQ _ _ [],ri hk]
 exact ea fun j hj=>by rw[tz,yM (by rw[nG];exact hj) (by rw[sb hk];exact hj)]
theorem MT(t:ka)(h:valid t):Pure Tryz.prog 160 [Af t] (GR (BB t)):=by
 refine et 42 (jo [jx 1 191 1 0,jn 2] [1] (.seq (.jC [0,2,1,3,4,5] [1] 1 [jk 8 1 1,jk 10 1 1] [jy 9 222 [8],jy 11 223 [10],jm 3 9,jm 4 11] [3,4]) (.seq (jo [jm 12 3,je 13 12,jc 14 0] [3,4,12,13,14] (.block 0 (.loop (jo [jt .lss 15 14 13] [3,4,12,13,14,15] (.seq (.cond (.t 15) .skip (.exit 0)) (.seq (.block 1 (jo [jm 16 14,ji 17 1 12 14,jl 18 17,jm 5 16,jm 6 18] [3,4,5,6,12,13,14] (jo [jm 19 6,je 20 19,jc 21 0] [3,4,5,6,12,13,14,20,21] (.block 2 (.loop (jo [jt .lss 22 21 20] [3,4,5,6,12,13,14,20,21,22] (.seq (.cond (.t 22) .skip (.exit 2)) (.seq (.block 3 (jo [jm 23 21,jm 7 23] [3,4,5,6,7,12,13,14,20,21] (.draw [jm 24 6,jm 25 7,jm 26 6,jm 27 7,ji 28 1 26 27,jl 29 28,jm 30 4,jm 31 5,ji 32 1 30 31,jl 33 32,jm 34 7,ji 35 1 33 34,jl 36 35,jy 37 224 [29,36],ji 38 1 24 25] [js 1 38 37] [3,4,5,6,12,13,14,20,21]))) (.ops [ju .add 39 21 1,jm 21 39] [3,4,5,6,12,13,14,20,21]))))))))) (.ops [ju .add 40 14 1,jm 14 40] [3,4,12,13,14]))))))) (jo [jm 41 3,jm 2 41] [2] .ret)))) [.t 2] Tryz.call160 Tryz.func160 ?_
 have hN:=h.1
 have Yp:=h.2.1
 have l7:(Js t).length=t.length:=by simp[Js]
 refine Au ?_;intros
 refine .inr ⟨_,_,_,_,rfl,uR [] t h,?_⟩
 rintro res σ0 ⟨ν,A,B,cl,g,Z_,rfl,hA,hL⟩
 have e1:t.length-1+1=t.length:=by omega
 have dQ:=hL.a
 rw[e1]at dQ
 rw[ea (f:=fun i=>[cl i]) (g:=fun i=>[AV.own (g i) 0 (wd t i)]) fun i hi=>by rw[(hL.own i (.inl rfl) (by omega)).1,nG]]at dQ
 have hgA:∀i,i<t.length->g i≠A:=fun i hi e=>by
  have h2:=(hL.own i (.inl rfl) (by omega)).2.1
  rw[e,dQ]at h2;injection h2 with h2;injection h2 with h2;cases h2
 have hgi:∀i j,i<t.length->j<t.length->i≠j->g i≠g j:=fun i j hi hj OV=>by
  rcases cm i j with h1|h1
  ·have:=hL.inj i j (.inl rfl) h1 (by omega);omega
  ·have:=hL.inj j i (.inl rfl) (by omega) (by omega);omega
 refine Az (aa @dQ @a_) (ph t h) ?_;intros
 refine aR.mT (α:={x:Nat×aG//x.1<=t.length/\x.2.at A 0=some ⟨45,1,(List.range t.length).map fun i=>[.own (g i) 0 (wd t i)],none⟩/\∀i,i<t.length->x.2.at (g i) 0=some ⟨56,1,(if i<x.1 then tz t i else fwd t i).map (fun l=>[iT l]),none⟩})
  [14] (fun x=>[(14,n x.1.1)]) (fun x=>x.1.2) (fun x=>t.length-x.1.1) ⟨(0,σ0),aQ _,dQ,fun i hi=>by rw[if_neg (by omega)];exact(hL.own i (.inl rfl) (by omega)).2.1⟩ ?_ rfl ?_
 ·exact Sb_
 rintro⟨⟨k,τ⟩,hk,y1,y2⟩
 simp only at hk y1 y2
 simp only
 by_cases bP:k<t.length
 ·have gk:((List.range t.length).map fun i=>[AV.own (g i) 0 (wd t i)]).getD k []=[.own (g k) 0 (wd t k)]:=gG _ bP
  have yk:=y2 k bP
  rw[if_neg (f_ k),BQ _ _ [],nG]at yk
  have bk:=MR bP
  have hw:=Rv h k
  refine Ax (aa @y1 (aa @gk (aa @yk @a_))) ?_;intros
  refine aR.mT (α:={x:Nat×aG//x.1<=wd t k/\x.2.at A 0=some ⟨45,1,(List.range t.length).map fun i=>[.own (g i) 0 (wd t i)],none⟩/\(∀i,i<t.length->i≠k->x.2.at (g i) 0=some ⟨56,1,(if i<k then tz t i else fwd t i).map (fun l=>[iT l]),none⟩)/\
   x.2.at (g k) 0=some ⟨56,1,(List.range (wd t k)).map fun j=>[iT (if j<x.1 then meet ((fwd t k).getD j []) ((bwd t k).getD j [])else(fwd t k).getD j [])],none⟩})
   [21] (fun x=>[(21,n x.1.1)]) (fun x=>x.1.2) (fun x=>wd t k-x.1.1) ⟨(0,τ),aQ _,y1,fun i hi _=>y2 i hi,by simpa using yk⟩ ?_ rfl ?_
  ·exact Sb_
  rintro⟨⟨j,τ⟩,hj,z1,z2,z3⟩
  simp only at hj z1 z2 z3
  simp only
  by_cases qz:j<wd t k
  ·have gj:((List.range (wd t k)).map fun m=>[iT (if m<j then meet ((fwd t k).getD m []) ((bwd t k).getD m [])else(fwd t k).getD m [])]).getD j []=[iT ((fwd t k).getD j [])]:=by rw[gG _ qz,if_neg (f_ j)]
   have bj:((bwd t k).map fun l=>[iT l]).getD j []=[iT ((bwd t k).getD j [])]:=getD_map (getD_some (by rw[sb bP];exact qz))
   have PW:=sb bP
   have Oq:=BO _ _ (ki (vO h k) j) (ki (BD h k) j)
   refine Az (aa @z1 (aa @z3 (aa @gj (aa @bk (aa @bj (aa @l7 @a_)))))) @Oq ?_;intros
   generalize zt:aG.cZ τ (g k) 0 _=tU
   have w1:∀q,q≠g k->tU.at q 0=τ.at q 0:=fun q hq=>by rw[<-zt,cx (.inl fun e=>hq e.symm)]
   have w2:tU.at (g k) 0=some ⟨56,1,((List.range (wd t k)).map fun m=>[iT (if m<j then meet ((fwd t k).getD m []) ((bwd t k).getD m [])else(fwd t k).getD m [])]).set j [iT (meet ((fwd t k).getD j []) ((bwd t k).getD j []))],none⟩:=by rw[<-zt,cu z3]
   refine⟨⟨(j+1,tU),qz,?_,fun i hi AA=>?_,?_⟩,by simp,rfl,by simp only;omega⟩
   ·simp only;rw[w1 _ (hgA k bP).symm];exact z1
   ·simp only;rw[w1 _ (hgi i k hi bP AA)];exact z2 i hi AA
   ·simp only
    rw[w2,kZ]
    refine congrArg (fun z=>some (⟨56,1,z,none⟩:Ob)) (ea fun m hm=>?_)
    by_cases hmj:m=j
    ·subst hmj;simp
    ·rw[if_neg hmj]
     by_cases yu:m<j
     ·rw[if_pos yu,if_pos (by omega)]
     ·rw[if_neg yu,if_neg (by omega)]
  ·obtain rfl:j=wd t k:=by omega
   refine Ax (aa @z1 (aa @z3 @a_)) ?_;intros
   refine⟨⟨(k+1,τ),bP,z1,fun i hi=>?_⟩,by simp,rfl,by simp only;omega⟩
   simp only
   by_cases AA:i=k
   ·subst AA
    rw[if_pos (by omega),MS hi,z3]
    exact congrArg (fun z=>some (⟨56,1,z,none⟩:Ob)) (ea fun m hm=>by rw[if_pos hm])
   ·rw[z2 i hi AA]
    by_cases ON:i<k
    ·rw[if_pos ON,if_pos (by omega)]
    ·rw[if_neg ON,if_neg (by omega)]
 ·obtain rfl:k=t.length:=by omega
  refine Ax (aa @y1 @a_) ?_;intros
  refine Dj y1 fun i hi=>.inr ⟨g i,by rw[ri hi],?_⟩
  have:=y2 i hi
  rwa[if_pos hi]at this
end Go.Proofs.YtgopgjnfhkoomaaGreat
