/- Part 11 of the texts: abstract values over the walk; contracts. -/
import Derived.Test.YtgopgjnfhkoomaaGreatBu10
import Derived.Test.YtgopgjnfhkoomaaGreatRows
set_option linter.unusedVariables false
set_option linter.unusedSimpArgs false
namespace Go.Proofs.YtgopgjnfhkoomaaGreat
open Go.Abs
open Nat (reduceAdd reduceSub reduceLT reduceLeDiff reduceMul reduceEqDiff)
set_option maxHeartbeats 4000000
set_option maxRecDepth 100000
abbrev UU(l:List dm):Ob:=⟨66,24,l.map dm.cs,none⟩
abbrev wkC:AV:=.fn (.func 70) [] []
def UW:dm:=⟨Ct,0,0,Jx,[],[]⟩
theorem Xf(W:List dm)(i j:Nat)(v:dm):List.drop 24 (((W.map dm.cs).set i v.cs).getD j [])=[]:=by
 have:((W.map dm.cs).set i v.cs)=(W.set i v).map dm.cs:=by rw[fU]
 rw[this,ab,aV]
 cases(W.set i v)[j]?<;>rfl
theorem NM{a b:Int}:vR a b<0↔a<b:=by unfold vR;repeat' split<;>omega
def HG(l:List dm):Prop:=l.Pairwise fun a b=>a.fB<=b.fB
theorem Fx{a:dm}:∀{l:List dm},HG l->HG (rl a l)
 | [],_=>by simp[rl,HG]
 |x::r,h=>by
  unfold rl
  have h2:=ct.1 h
  split
  ·rename_i hx
   refine ct.2 ⟨fun y hy=>?_,h⟩
   rcases aC.1 hy with rfl|hy
   ·omega
   ·have:=h2.1 y hy;omega
  ·rename_i hx
   refine ct.2 ⟨fun y hy=>?_,Fx h2.2⟩
   rcases aC.1 ((wC a r).mem_iff.1 hy)with rfl|hy
   ·omega
   ·exact h2.1 y hy
theorem DP{x:dm}:∀{S:List dm} {j:Nat},j<=S.length->(∀t,t<j->(S.getD t UW).fB<=x.fB)->(j<S.length->x.fB<(S.getD j UW).fB)->rl x S=S.take j++x::S.drop j
 | [],j,h,_,_=>by simp[rl]
 |y::r,0,_,_,h=>by
  have:=h (by simp)
  unfold rl
  rw[if_pos (by simpa using this)];rfl
 |y::r,j+1,h,h1,h2=>by
  have:=h1 0 (by omega)
  unfold rl
  rw[if_neg (by simp at this;omega),DP (j:=j) (by simpa using h) (fun t ht=>by simpa using h1 (t+1) (by omega)) (fun hj=>by simpa using h2 (by simpa using hj))]
  rfl
theorem aax{σ:aG}{f i:Nat}{a b o:Ob}(h:σ.at f i=some o):(σ.cZ f i a).cZ f i b=σ.cZ f i b:=by
 unfold aG.at at h
 unfold aG.cZ
 split at h
 ·rename_i F hF
  have bP:=(ai.1 hF).1
  simp[hF,bP]
 ·cases h
def B6(S R:List dm)(x:dm)(j:Nat):List dm:=(S.take j++x::S.drop j)++R
theorem Qo{S R:List dm}{x:dm}{j:Nat}:(B6 S R x j).length=S.length+1+R.length:=by
 unfold B6;simp;omega
theorem KE{S R:List dm}{x v:dm}{j:Nat}(h:S[j]?=some v):∃A D:List dm,A.length=j/\S=A++v::D/\B6 S R x (j+1)=A++v::x::(D++R)/\B6 S R x j=A++x::v::(D++R):=by
 obtain⟨hj,rfl⟩:=ai.1 h
 refine⟨S.take j,S.drop (j+1),by simp;omega,by rw[List.getElem_cons_drop,e_],?_,?_⟩
 ·unfold B6;simp only[ba,h,Option.toList_some,aW,aD,aK]
 ·unfold B6;rw[<-List.getElem_cons_drop hj];simp only[aW,aD]
theorem NN{S R:List dm}{x:dm}{j:Nat}(h:j<=S.length):(B6 S R x j)[j]?=some x:=by
 unfold B6
 rw[aW,bE (by simp;omega)]
 simp[Bj h]
theorem KF{l:List dm}{i:Nat}{x:dm}(h:l[i]?=some x):sB (l.take (i+1))=rl x (sB (l.take i)):=by
 unfold sB;rw[ba,h,eO];rfl
theorem NO(l:List dm):HG (sB l):=by
 have:∀(l o:List dm),HG o->HG (l.foldl (fun o a=>rl a o) o):=fun l=>by
  induction l with
  |nil=>exact fun o h=>h
  |cons a r ih=>exact fun o h=>ih _ (Fx h)
 exact this l [] .nil
theorem HH(σ:aG)(f N:Nat)(l:List dm)(hf:σ.at f 0=some (UU l))(hn:l.length=N)(hl:N<1000):eY Tryz.prog 205 [.own f 0 N,n 0,n N,wkC] σ (fun _ σ'=>σ'=σ.cZ f 0 (UU (sB l))):=by
 refine Fi Tryz.f205.eq_1 [] [.l [0,1,2,3,8],.l [0,1,2,3,8,9],.w (adQ 0 18) [2,3,4] 1 15,.d 14] ?_
 by_cases h0:N=0
 ·have:l=[]:=lL (by omega)
  subst this
  rw[show sB []=[]from rfl,j8 hf]
  subst h0
  refine Au ?_;intros
  refine aR.ls (α:=Unit) [8] (fun _=>[(8,n 1)]) (fun _=>0) () ?_
  ·rintro⟨⟩
   exact Au trivial
   all_goals first|(exfalso;omega)|rfl|contradiction
 have hC:∀o,aG.at (σ.cZ f 0 o) f 0=some o:=fun o=>cu hf
 have hD:∀o o',(σ.cZ f 0 o).cZ f 0 o'=σ.cZ f 0 o':=fun o o'=>aax hf
 obtain⟨W,hW⟩:∃W:Nat->List dm,∀i,W i=sB (l.take i)++l.drop i:=⟨_,fun _=>rfl⟩
 have WE:W 1=l:=by
  rw[hW]
  cases l with
  |nil=>rfl
  |cons a r=>rfl
 have hWN:W N=sB l:=by rw[hW,<-hn];simp
 rw[<-hWN]
 refine Au ?_;intros
 refine aR.le (α:={i:Nat//1<=i/\i<=N}) [8] (fun i=>[(8,n i.1)]) (fun i=>σ.cZ f 0 (UU (W i.1))) (fun i=>N-i.1) ⟨1,ar _,by omega⟩ (by simp only;rw[WE,j8 hf]) ?_
 rintro⟨i,hi,hib⟩
 by_cases bP:i<N
 ·obtain⟨x,hx⟩:∃x,l[i]?=some x:=⟨_,ae (by omega)⟩
  obtain⟨S,hS⟩:∃S,S=sB (l.take i):=⟨_,rfl⟩
  obtain⟨R,hR⟩:∃R,R=l.drop (i+1):=⟨_,rfl⟩
  have tQ:S.length=i:=by rw[hS,(wD _).length_eq];simp;omega
  have hSo:HG S:=hS▸NO _
  have PX:R.length=N-i-1:=by rw[hR];simp;omega
  have hWi:W i=B6 S R x i:=by
   obtain⟨h',rfl⟩:=ai.1 hx
   rw[hW,<-hS,<-List.getElem_cons_drop h',<-hR]
   unfold B6
   rw[cD (by omega),List.drop_of_length_le (by omega)];simp
  have hWn:W (i+1)=rl x S++R:=by rw[hW,KF hx,<-hS,<-hR]
  simp only[hWi]
  clear hS hR hWi WE hWN
  refine Au ?_;intros
  refine aR.lr (α:={j:Nat//j<=i/\∀t,j<=t->t<i->x.fB<(S.getD t UW).fB}) [9] (fun j=>[(9,n j.1)]) (fun j=>σ.cZ f 0 (UU (B6 S R x j.1))) (fun j=>j.1) ⟨i,ar _,fun t k1 k2=>by omega⟩ ?_
  rintro⟨j,Z9,hI⟩
  have YC:(B6 S R x j).length=N:=by rw[Qo];omega
  have r1:((B6 S R x j).map dm.cs).getD j []=dm.cs x:=getD_map (NN (by omega))
  cases j with
  |zero=>
   have hF:rl x S++R=B6 S R x 0:=by rw[DP (j:=0) (aQ _) (fun t h=>absurd h (aN t)) (fun h=>hI 0 (ar _) (by omega))];rfl
   have hw:=zX x x
   have r2:((B6 S R x 0).map dm.cs).getD ((0:Int)-1).toNat []=dm.cs x:=r1
   refine Az (aa @hC (aa @hD (aa @YC (aa @r1 (aa @r2 @cK.{0}))))) @hw ?_;intros
   exact⟨⟨i+1,by omega,by omega⟩,by simp,by rw[hWn,hF],by simp only;omega⟩
  |succ j=>
   obtain⟨v,hv⟩:∃v,S[j]?=some v:=⟨_,ae (by omega)⟩
   obtain⟨A,D,hA,hSe,YK,vp⟩:=KE (R:=R) (x:=x) hv
   have r2:((B6 S R x (j+1)).map dm.cs).getD (((j+1:Nat):Int)-1).toNat []=dm.cs v:=by
    rw[show(((j+1:Nat):Int)-1).toNat=j by omega]
    refine getD_map ?_
    rw[YK,bE (by omega),hA];simp
   have hw:=zX x v
   have hSg:S.getD j UW=v:=by rw[ab,hv];rfl
   by_cases hc:x.fB<v.fB
   ·have hs:=NM.2 hc
    have e3:(((B6 S R x (j+1)).map dm.cs).set (j+1) v.cs).set (((j+1:Nat):Int)-1).toNat x.cs=(B6 S R x j).map dm.cs:=by
     rw[show(((j+1:Nat):Int)-1).toNat=j by omega,<-fU,<-fU,YK,vp,<-hA]
     simp
    have e4:List.drop 24 ((((B6 S R x (j+1)).map dm.cs).set (j+1) v.cs).getD (((j+1:Nat):Int)-1).toNat [])=[]:=Xf _ _ _ _
    have hI':∀t,j<=t->t<i->x.fB<(S.getD t UW).fB:=fun t k1 k2=>by
     rcases(show t=j\/j+1<=t by omega)with rfl|k3
     ·rw[hSg];exact hc
     ·exact hI t k3 k2
    clear YK vp hA hSe
    refine Az (aa @hC (aa @hD (aa @YC (aa @r1 (aa @r2 (aa @e4 @cK.{0})))))) @hw ?_;intros
    exact⟨⟨j,by omega,hI'⟩,by simp,by rw[e3],by simp only;omega⟩
   ·have hs:¬vR x.fB v.fB<0:=fun h=>hc (NM.1 h)
    have hF:rl x S++R=B6 S R x (j+1):=by
     rw[DP (j:=j+1) (by omega) (fun t ht=>?_) (fun h=>hI (j+1) (ar _) (by omega))];rfl
     have hm:(S.getD t UW).fB<=v.fB:=by
      rw[ab,ae (show t<S.length by omega)]
      by_cases e:t=j
      ·subst e;rw[ae (show t<S.length by omega)]at hv;rw[<-v_ hv];exact eZ _
      ·have:=(de.1 hSo) t j (by omega) (by omega) (by omega)
       rw[ae (show j<S.length by omega)]at hv
       rw[<-v_ hv];exact this
     omega
    clear YK vp hA hSe
    refine Az (aa @hC (aa @hD (aa @YC (aa @r1 (aa @r2 @cK.{0}))))) @hw ?_;intros
    exact⟨⟨i+1,by omega,by omega⟩,by simp,by rw[hWn,hF],by simp only;omega⟩
 ·obtain rfl:i=N:=by omega
  exact Au trivial
theorem Qp(σ:aG)(f N:Nat)(l:List dm)(hf:σ.at f 0=some (UU l))(hn:l.length=N)(hl:N<20):eY Tryz.prog 145 [.own f 0 N,n N,wkC] σ (fun _ σ'=>σ'=σ.cZ f 0 (UU (sB l))):=by
 refine Fi Tryz.f145.eq_1 [] [.l [0,1,2,6],.l [0,1,2,6,7,8],.l [0,1,2,6,7,8]] ?_
 have Gr:¬(20<=(N:Int)):=by omega
 have OY:¬(20<(N:Int)):=by omega
 refine Au ?_;intros
 refine aR.ls (α:=Unit) [7,8] (fun _=>[(7,n 0),(8,n 20)]) (fun _=>0) () ?_
 ·rintro⟨⟩
  refine Ax @Gr ?_;intros
  refine .inr (.inl ⟨_,_,_,_,rfl,fun _=>⟨HH σ f N l hf hn (by omega),?_⟩,fun h=>by cases h⟩)
  rintro r σ' rfl
  refine aH ?_
  refine Au ?_;intros
  refine aR.ls (α:=Unit) [6] (fun _=>[(6,n 20)]) (fun _=>0) () ?_
  ·rintro⟨⟩
   exact Ax @OY trivial
   all_goals first|(exfalso;omega)|rfl
theorem Ua:RE fun l=>l.length<20:=fun σ f l hl hf=>by
 refine Fi Tryz.f69.eq_1 [] [] ?_
 refine Ax @hf ?_;intros
 refine .inr (.inl ⟨_,_,_,_,rfl,fun _=>⟨Qp σ f _ l hf rfl hl,?_⟩,fun h=>by cases h⟩)
 rintro r σ' rfl
 refine aH ?_
 simp only[zN,zT,zV,zS,zU,dC,ex,bu,bN,elems,cells,scalar,dH,bL,aX,aU,bJ,bI,Nat.reduceBEq,reduceAdd,reduceSub,reduceLT,reduceLeDiff,reduceMul,reduceEqDiff,reduceIte]
end Go.Proofs.YtgopgjnfhkoomaaGreat
