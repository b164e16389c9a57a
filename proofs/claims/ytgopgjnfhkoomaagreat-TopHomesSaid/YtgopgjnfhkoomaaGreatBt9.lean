/- Part 9 of the texts: abstract values over the walk; contracts. -/
import Derived.Test.YtgopgjnfhkoomaaGreatBt8
import Derived.Test.YtgopgjnfhkoomaaGreatRows
set_option linter.unusedVariables false
set_option linter.unusedSimpArgs false
namespace Go.Proofs.YtgopgjnfhkoomaaGreat
open Go.Abs
open Nat (reduceAdd reduceSub reduceLT reduceLeDiff reduceMul reduceEqDiff)
set_option maxHeartbeats 4000000
set_option maxRecDepth 100000
def Wp:CF:=⟨97,(jo [jn 4] [0,1] (.seq (jo [jm 15 1,jw 16 (.qH false (.t 15) (.c (.slice none 0 0)))] [0,1,16] (.cond (.t 16) (jo [jm 17 0,jw 18 (.inv "aneroid/tracks.nodes" (.t 17) [(.c (.int .i64 0))]),je 19 18,jc 20 0] [0,1,18,19,20] (.block 0 (.loop (jo [jt .lss 21 20 19] [0,1,18,19,20,21] (.seq (.cond (.t 21) .skip (.exit 0)) (.seq (.block 1 (jo [ji 22 2 18 20,jk 23 2 22,jw 6 (.alloc 340 2 [.slice none 0 0,.slice none 0 0]),js 2 6 23] [0,1,6,18,19,20] (.ops [jm 24 1,jf 25 0 6,jl 26 25,jy 27 188 [26],jw 28 (.jR false 56 1 1 [.slice none 0 0] [(0,1,(.t 27))]),jw 29 (.app 56 1 24 (.t 24) (.t 28)),jm 1 29] [0,1,18,19,20]))) (.ops [ju .add 30 20 1,jm 20 30] [0,1,18,19,20]))))))) .skip)) (jo [jm 31 1,jw 32 (.jR true 45 1 1 [.slice none 0 0] [(0,1,(.t 31))]),jw 7 (.alloc 192 1 [.slice none 0 0]),js 1 7 32] [0,7] (.seq (jo [jm 33 0,jw 34 (.inv "aneroid/tracks.stages" (.t 33) []),ju .sub 35 34 1,jc 36 0] [0,7,35,36] (.block 2 (.loop (jo [jt .lss 37 36 35] [0,7,35,36,37] (.seq (.cond (.t 37) .skip (.exit 2)) (.seq (.block 3 (jo [jm 38 36,jw 8 (.alloc 3 1 [.int .i64 0]),js 1 8 38] [0,7,8,35,36] (jo [jm 39 0,jl 40 8,ju .add 41 40 1,jw 42 (.inv "aneroid/tracks.nodes" (.t 39) [(.t 41)]),jm 9 42] [0,7,8,9,35,36] (jo [jm 43 9,je 44 43,jw 45 (.vq 56 1 24 [.slice none 0 0] (.t 44) (.t 44)),jw 10 (.alloc 45 1 [.slice none 0 0]),js 1 10 45] [0,7,8,9,10,35,36] (.seq (jo [jm 46 0,jl 47 8,jw 48 (.inv "aneroid/tracks.steps" (.t 46) [(.t 47)])] [0,7,8,9,10,35,36,48] (.block 4 (.rL (.t 48) [49,50] (jo [jw 11 (.alloc 455 2 [.int .i64 0,.int .i64 0]),js 2 11 49] [0,7,8,9,10,11,35,36,50] (.ops [jw 12 (.alloc 52 2 [.int .i64 0,.int .i64 0]),js 2 12 50] [0,7,8,9,10,11,12,35,36])) (.block 5 (.jC [0,1,2,3,4,5,6,7,8,9,10,11,12,13,14,15,16,17,18,19,20] [0,1,2] 1 [jl 51 10,jf 52 1 11,jl 53 52,jl 54 10,jf 55 1 11,jl 56 55,ji 57 1 54 56,jl 58 57,jl 59 7,jl 60 8,ji 61 1 59 60,jl 62 61,jf 63 0 11,jl 64 63,ji 65 1 62 64,jl 66 65,jk 67 2 12,jy 68 304 [66,67]] [jw 69 (.app 52 2 16 (.t 58) (.t 68)),ji 70 1 51 53,js 1 70 69] [0,7,8,9,10,35,36]))))) (.seq (jo [jl 71 10,je 72 71,jc 73 0] [0,7,9,10,35,36,71,72,73] (.block 6 (.loop (jo [jt .lss 74 73 72] [0,7,9,10,35,36,71,72,73,74] (.seq (.cond (.t 74) .skip (.exit 6)) (.seq (.block 7 (jo [jm 75 73,ji 76 1 71 73,jl 77 76,jm 13 75,jm 14 77] [0,7,9,10,13,14,35,36,71,72,73] (.draw [jl 78 10,jm 79 13,jm 80 14,jy 81 111 [80],jy 82 54 [81],jm 83 9,jm 84 13,ji 85 2 83 84,jf 86 0 85,jl 87 86,jy 88 224 [82,87],ji 89 1 78 79] [js 1 89 88] [0,7,9,10,35,36,71,72,73]))) (.ops [ju .add 90 73 1,jm 73 90] [0,7,9,10,35,36,71,72,73]))))))) (.ops [jl 91 7,jl 92 10,jw 93 (.jR false 45 1 1 [.slice none 0 0] [(0,1,(.t 92))]),jw 94 (.app 45 1 24 (.t 91) (.t 93)),js 1 7 94] [0,7,35,36]))))))) (.ops [ju .add 95 36 1,jm 36 95] [0,7,35,36]))))))) (jo [jl 96 7,jm 4 96] [4] .ret))))),[.t 4]⟩
theorem Z2:jP Tryz.prog Tryz.f263 Wp=true:=by kernel_rfl
structure MQ(T:Nat)(rv:AV)(fs fn fp it:Nat)(cap:Nat->List AV)(N:Nat)(nd:Nat->List q_)(hs:Nat->List np):Prop where
 ms:qO Tryz.prog T "aneroid/tracks.stages" =some fs
 mn:qO Tryz.prog T "aneroid/tracks.nodes" =some fn
 mp:qO Tryz.prog T "aneroid/tracks.steps" =some fp
 ps:Pure Tryz.prog fs [rv] (n (N:Int))
 pn:∀k:Nat,k<N->Pure Tryz.prog fn [rv,n (k:Int)] (Ae (nd k))
 pp:∀k:Nat,k+1<N->Pure Tryz.prog fp [rv,n (k:Int)] (.fn (.func it) [] (cap k))
 pi:∀k:Nat,k+1<N->Iter Tryz.prog it [] (cap k) (ry (hs k))
 pv:bC rv
 n1:1<=N
 n2:N<=401
 nl:∀k,k<N->(nd k).length<=4000
 ng:∀k,kq ((nd k).map (·.al))
 ns:∀k,k<N->∀x∈nd k,x.al.length<=64
 hk:∀k,k+1<N->∀h∈hs k,h.fr<(nd k).length/\h.to<(nd (k+1)).length/\Gt h.ch
 hl:∀k,k+1<N->(hs k).length<=256000
theorem rz.frame{σ σ':aG}{c:AV}{x:List (List Sp)}(h:rz σ c x)(hs:∀f o,σ.at f 0=some o->o.T=56->σ'.at f 0=some o):rz σ' c x:=by
 rcases h with h|⟨f,h1,h2⟩
 ·exact .inl h
 ·exact .inr ⟨f,h1,hs f _ h2 rfl⟩
structure Yl(m:Nat)(o0:Bool)(A B:Nat)(lv:Nat->List (List Sp))(τ:aG)(k:Nat)(cl:Nat->AV)(g:Nat->Nat):Prop where
 a:τ.at A 0=some ⟨45,1,(List.range (k+1)).map fun i=>[cl i],none⟩
 b:τ.at B 0=some ⟨192,1,[[.own A 0 (k+1)]],none⟩
 row:∀i,i<=k->rz τ (cl i) (lv i)
 own:∀i,(o0=true\/1<=i)->i<=k->cl i=.own (g i) 0 (lv i).length/\τ.at (g i) 0=some ⟨56,1,(lv i).map (fun l=>[iT l]),none⟩/\m<=g i
 inj:∀i j,(o0=true\/1<=i)->i<j->j<=k->g i<g j
inductive Di(σ:aG)(N:Nat)(lv:Nat->List (List Sp))(o0:Bool)(r:AV)(σ':aG):Prop
 |mk(ν:aG)(A B:Nat)(cl:Nat->AV)(g:Nat->Nat)(h:σ'=σ++ν)(hr:r=.own A 0 N)(hA:σ.length<=A)(hs:Yl σ.length o0 A B lv σ' (N-1) cl g)
theorem zp{hs:List np}{cur:List (List Sp)}(hc:kq cur)(j:Nat):(jh hs cur j).length<=hs.length*200001:=by
 unfold jh
 induction hs with
 |nil=>simp
 |cons h r ih=>
  rw[gP,aM,bf]
  have h1:(Jr cur j h).length<=200001:=by
   unfold Jr
   split
   ·rw[E6];exact pG (ki hc _)
   ·simp
  omega
theorem PU{hs:List np}{cur:List (List Sp)}(hc:kq cur)(hh:∀h∈hs,Gt h.ch)(j:Nat):∀s∈jh hs cur j,s.lo<=s.hi/\-1000000<=s.lo/\s.hi<=1000000:=fun s nM=>by
 obtain⟨h,hm,hx⟩:=fc.1 nM
 unfold Jr at hx
 split at hx
 ·obtain⟨x,PM,rfl⟩:=aO.1 hx
  have h1:=(ki hc h.fr).1.ne x PM
  have h2:=(ki hc h.fr).2 x PM
  obtain⟨h3,h4,h5⟩:=hh h hm
  simp only;omega
 ·simp at hx
theorem JY{hs:List np}{cur:List (List Sp)}{m:Nat}{h:np}(e:hs[m]?=some h)(j:Nat):jh (hs.take (m+1)) cur j=if j=h.to then jh (hs.take m) cur j++wide (cur.getD h.fr []) h.ch else jh (hs.take m) cur j:=by
 rw[ey e]
 unfold jh
 rw[iD]
 simp only[gP,List.flatMap_nil,bb]
 unfold Jr
 by_cases hj:j=h.to
 ·subst hj;simp
 ·rw[if_neg hj,if_neg (fun e=>hj e.symm),bb]
theorem zq{σ:aG}{f g i:Nat}(h:g≠f):(gone σ f).at g i=σ.at g i:=by
 unfold gone aG.at
 rw[bW (fun e=>h e.symm)]
def DY(σ x:aG):Prop:=∃ν,x=σ++ν
theorem DY.app{σ x:aG}(h:DY σ x)(ν:aG):DY σ (x++ν):=by obtain⟨μ,rfl⟩:=h;exact⟨μ++ν,by simp⟩
theorem DY.cZ{σ x:aG}(h:DY σ x){f i:Nat}{o:Ob}(hf:σ.length<=f):DY σ (x.cZ f i o):=by
 obtain⟨μ,rfl⟩:=h
 obtain⟨d,rfl⟩:∃d,f=σ.length+d:=⟨f-σ.length,by omega⟩
 exact⟨_,fC _ _ _ _ _⟩
theorem DY.gone{σ x:aG}(h:DY σ x){f:Nat}(hf:σ.length<=f):DY σ (Abs.gone x f):=by
 obtain⟨μ,rfl⟩:=h
 exact⟨_,fa _ _ hf⟩
theorem DY.len{σ x:aG}(h:DY σ x):σ.length<=x.length:=by obtain⟨μ,rfl⟩:=h;simp
inductive Z3(σ:aG)(T:Nat)(rv:AV)(F0:List (List Sp))(o0:Bool)(env:Env)(σ':aG):Prop
 |mk (c0:AV) (g0:Nat) (ν:aG) (h:Sub [(0,.l6 T rv),(1,c0)] env) (hs:σ'=σ++ν) (hr:rz σ' c0 F0) (ho:o0=true->c0=.own g0 0 F0.length/\σ'.at g0 0=some ⟨56,1,F0.map (fun l=>[iT l]),none⟩/\σ.length<=g0)
inductive Z4(σ:aG)(T:Nat)(rv:AV)(o0:Bool)(lv:Nat->List (List Sp))(env:Env)(σ':aG):Prop
 |mk(A:Nat)(cl:Nat->AV)(g:Nat->Nat)(ν:aG)(h:Sub [(0,.l6 T rv),(7,.ptr (A+1) 0 1 0 0)] env)(hA:σ.length<=A)(hs:σ'=σ++ν)(hl:Yl σ.length o0 A (A+1) lv σ' 0 cl g)
theorem uQ(σ:aG){T:Nat}{rv:AV}{fs fn fp it:Nat}{cap:Nat->List AV}{N:Nat}{nd:Nat->List q_}{hs:Nat->List np}(S:MQ T rv fs fn fp it cap N nd hs)(o0:Bool)(F0:List (List Sp))(fst:AV)(hf:if o0=true then fst=.v (.slice none 0 0)/\F0=(nd 0).map (·.al)else fst=mZ F0/\F0≠[])(QX:kq F0)(Cb:F0.length=(nd 0).length):eY Tryz.prog 263 [.l6 T rv,fst] σ (Di σ N (nq (fun k=>(nd k).map (·.al)) hs F0) o0):=by
 refine Ri Tryz.call263 Tryz.func263 Z2 ?_
 obtain⟨ms,mn,mp,ps,pn,pp,pi,pv,n1,n2,nl,ng,ns,hhk,hhl⟩:=S
 unfold Wp
 ((first|refine vn rfl ?_|simp(disch:=omega) only[cB,aj]|refine bo (fun _=>?_) fun _=>?_|refine im fun _=>?_|refine cF ?_|refine om ?_|refine an ?_|fail)<;>try simp only[zN,zT,zV,zS,zU,dC,ex,bu,bN,elems,cells,scalar,dH,bL,aX,aU,bJ,bI,Nat.reduceBEq,reduceAdd,reduceSub,reduceLT,reduceLeDiff,reduceMul,reduceEqDiff,reduceIte])
 refine aR.cut (Z3 σ T rv F0 o0) ?_ ?_
 ·cases o0 with
  |false=>
   obtain⟨rfl,iw⟩:=hf
   have TE:F0.map (fun l=>[iT l])≠[]:=by simpa using iw
   ((refine Au ?_;repeat' constructor)<;>intros<;>refine aP ?_)
   exact .mk (mZ F0) 0 [] (by simp only[pE,Jk];simp[gt]) (by simp) (.inl rfl) (fun h=>by cases h)
  |true=>
   obtain⟨rfl,rfl⟩:=hf
   have hn0:=nl 0 (by omega)
   have hm0:=ns 0 (by omega)
   have hN0:nd 0=nd 0:=rfl
   generalize hL:nd 0=L at*
   have hp:=pn 0 (by omega)
   rw[hL]at hp
   ((first|refine vn rfl ?_|simp(disch:=omega) only[cB,aj]|refine bo (fun _=>?_) fun _=>?_|refine im fun _=>?_|refine cF ?_|refine om ?_|refine an ?_|fail)<;>try simp only[zN,zT,zV,zS,zU,dC,ex,bu,bN,elems,cells,scalar,dH,bL,aX,aU,bJ,bI,Nat.reduceBEq,reduceAdd,reduceSub,reduceLT,reduceLeDiff,reduceMul,reduceEqDiff,reduceIte])
   ((first|refine vn rfl ?_|simp(disch:=omega) only[cB,aj]|refine bo (fun _=>?_) fun _=>?_|refine im fun _=>?_|refine cF ?_|refine om ?_|refine an ?_|fail)<;>try simp only[zN,zT,zV,zS,zU,dC,ex,bu,bN,elems,cells,scalar,dH,bL,aX,aU,bJ,bI,Nat.reduceBEq,reduceAdd,reduceSub,reduceLT,reduceLeDiff,reduceMul,reduceEqDiff,reduceIte])
   ((refine Az @mn @hp ?_;repeat' constructor)<;>intros<;>refine aP ?_)
   refine aR.oC 56 1 1 rfl ?_
   refine aR.lr (α:={x:Nat×aG//x.1<=L.length}) [1,20] (fun x=>[(1,.own σ.length 0 x.1.1),(20,n x.1.1)]) (fun x=>σ++(some [⟨56,1,(L.take x.1.1).map (fun x=>[iT x.al]),none⟩]::x.1.2)) (fun x=>L.length-x.1.1) ⟨(0,[]),by simp⟩ ?_
   rintro⟨⟨k,μ⟩,hk⟩
   simp only at hk
   simp only
   have DS:(L.take k).length=k:=by rw[bH];omega
   by_cases bP:k<L.length
   ·obtain⟨x,hx⟩:∃x,L[k]?=some x:=⟨_,ae bP⟩
    have wL:=hm0 x (ao hx)
    (repeat' ((first|refine vn rfl ?_|simp(disch:=omega) only[cB,aj]|refine bo (fun _=>?_) fun _=>?_|refine im fun _=>?_|((repeat refine si ?_);(first|((first|refine .inl ⟨_,_,_,_,rfl,fun _=>pu (xX x.al (by omega)),?_⟩|refine⟨_,_,_,_,rfl,fun _=>pu (xX x.al (by omega)),?_⟩);(first|refine o1 ?_|refine o4 ?_))|refine .inl ⟨_,_,_,_,rfl,pu (xX x.al (by omega)),?_⟩))|refine cF ?_|refine om ?_|refine an ?_|fail)<;>try simp only[zN,zT,zV,zS,zU,dC,ex,bu,bN,elems,cells,scalar,dH,bL,aX,aU,bJ,bI,Nat.reduceBEq,reduceAdd,reduceSub,reduceLT,reduceLeDiff,reduceMul,reduceEqDiff,reduceIte,getD_map hx,DS,aW,aD]))
    all_goals try(exfalso;omega)
    exact⟨⟨(k+1,μ++[some [⟨340,2,[q_.cs x],none⟩]]),bP⟩,by simp,by rw[ey hx];simp,by simp only;omega⟩
   ·obtain rfl:k=L.length:=by omega
    rw[aI]
    ((refine Au ?_;repeat' constructor)<;>intros<;>refine aP ?_)
    have dQ:aG.at (σ++some [⟨56,1,L.map (fun x=>[iT x.al]),none⟩]::μ) σ.length 0=some ⟨56,1,(L.map (·.al)).map (fun l=>[iT l]),none⟩:=by rw[dV];simp[aG.at]
    exact .mk (.own σ.length 0 L.length) σ.length _ (by simp only[pE,Jk];simp[gt]) rfl (.inr ⟨σ.length,by simp,dQ⟩) (fun _=>⟨by simp,dQ,ar _⟩)
 ·rintro env It ⟨c0,g0,ν0,Gl,Wq,cX,AG⟩
  refine aR.weaken Gl ?_
  clear Gl hf
  refine aR.cut (Z4 σ T rv o0 (nq (fun k=>(nd k).map (·.al)) hs F0)) ?_ ?_
  ·have hL:Yl σ.length o0 It.length (It.length+1) (nq (fun k=>(nd k).map (·.al)) hs F0) (It++[some [⟨45,1,[[c0]],none⟩],some [⟨192,1,[[.own It.length 0 1]],none⟩]]) 0 (fun _=>c0) (fun _=>g0):=by
    refine⟨?_,?_,fun i hi=>?_,fun i hi hi2=>?_,fun i j _ h1 h2=>?_⟩
    ·rw[dV];rfl
    ·rw[dR];rfl
    ·obtain rfl:i=0:=by simpa using hi
     exact cX.app _
    ·obtain rfl:i=0:=by omega
     have ho:o0=true:=by rcases hi with h|h;exact h;omega
     obtain⟨h1,h2,h3⟩:=AG ho
     exact⟨h1,by rw[cI (dU h2)];exact h2,h3⟩
    ·omega
   have Sc:σ.length<=It.length:=by rw[Wq];simp
   have hE:∀X,It++X=σ++(ν0++X):=fun X=>by rw[Wq];simp
   rcases cX with rfl|⟨f,rfl,_⟩
   ·((refine Au ?_;repeat' constructor)<;>intros<;>refine aP ?_)
    exact .mk It.length _ _ _ (by simp only[pE,Jk];simp[gt]) Sc (hE _) hL
   ·((refine Au ?_;repeat' constructor)<;>intros<;>refine aP ?_)
    exact .mk It.length _ _ _ (by simp only[pE,Jk];simp[gt]) Sc (hE _) hL
  clear cX AG
  rintro env tT ⟨A,cl1,g1,Ru,Gl,Z5,xG,hL1⟩
  refine aR.weaken Gl ?_
  clear Gl
  ((refine Az @ms @ps ?_;repeat' constructor)<;>intros<;>refine aP ?_)
  generalize HZ:nq (fun k=>(nd k).map (·.al)) hs F0=lv at*
  have HX:∀k,kq (lv k):=by rw[<-HZ];exact r_ QX ng
  have hlen:∀k,(lv k).length=(nd k).length:=fun k=>by
   have:=Cs (al:=fun k=>(nd k).map (·.al)) (hs:=hs) (f:=F0) (by simpa using Cb) k
   rw[HZ]at this;rw[this];simp
  refine aR.mT (α:={x:Nat×aG×(Nat->AV)×(Nat->Nat)//x.1<=N-1/\DY σ x.2.1/\Yl σ.length o0 A (A+1) lv x.2.1 x.1 x.2.2.1 x.2.2.2}) [36] (fun x=>[(36,n x.1.1)]) (fun x=>x.1.2.1) (fun x=>N-1-x.1.1)
   ⟨(0,tT,cl1,g1),by simp,⟨Ru,xG⟩,hL1⟩ ?_ ?_ ?_
  ·(simp only[zN,zT,zV,zS,zU,dC,ex,bu,bN,elems,cells,scalar,dH,bL,aX,aU,bJ,bI,Nat.reduceBEq,reduceAdd,reduceSub,reduceLT,reduceLeDiff,reduceMul,reduceEqDiff,reduceIte];try simp)
  ·simp
  rintro⟨⟨k,τ,cl,g⟩,hk,nj,hS⟩
  simp only at hk nj hS
  simp only
  have lA:=dU hS.a
  have lB:=dU hS.b
  have aA:∀ν,aG.at (τ++ν) A 0=some ⟨45,1,(List.range (k+1)).map fun i=>[cl i],none⟩:=fun ν=>by rw[cI lA];exact hS.a
  have aB:∀ν,aG.at (τ++ν) (A+1) 0=some ⟨192,1,[[.own A 0 (k+1)]],none⟩:=fun ν=>by rw[cI lB];exact hS.b
  by_cases bP:k<N-1
  ·have Oi:=nl (k+1) (by omega)
   have hP:=pn (k+1) (by omega)
   have Wr:((k+1:Nat):Int)=(k:Int)+1:=by omega
   rw[Wr]at hP
   generalize hL:nd (k+1)=L at*
   (repeat' ((first|refine vn rfl ?_|simp(disch:=omega) only[cB,aj]|refine bo (fun _=>?_) fun _=>?_|refine im fun _=>?_|((repeat refine si ?_);(first|((first|refine .inl ⟨_,_,_,_,rfl,fun _=>pu (by first|exact hP|exact pp k (by omega)),?_⟩|refine⟨_,_,_,_,rfl,fun _=>pu (by first|exact hP|exact pp k (by omega)),?_⟩);(first|refine o1 ?_|refine o4 ?_))|refine .inl ⟨_,_,_,_,rfl,pu (by first|exact hP|exact pp k (by omega)),?_⟩))|refine cF ?_|refine om ?_|refine an ?_|fail)<;>try simp only[zN,zT,zV,zS,zU,dC,ex,bu,bN,elems,cells,scalar,dH,bL,aX,aU,bJ,bI,Nat.reduceBEq,reduceAdd,reduceSub,reduceLT,reduceLeDiff,reduceMul,reduceEqDiff,reduceIte,mn,mp,aA,aB,aW]))
   all_goals try(exfalso;omega)
   have Z6:=hlen (k+1)
   rw[hL]at Z6
   have lO:=hhk k (by omega)
   rw[hL]at lO
   have UH:=hhl k (by omega)
   generalize hHk:hs k=H at*
   refine aR.Ir (A:=List.length τ+1) (T:=56) (N:=L.length) (T':=52) (k':=2) (by rw[dR];rfl) ?_
   generalize EA:aG.cZ (τ++_) (List.length τ+1) 0 _++List.replicate L.length (some [⟨52,2,[],none⟩])=lN
   obtain⟨m1,m2,m3,m4,m5⟩:=MO τ _ _ _ L.length lN EA.symm
   have I8:DY σ lN:=by rw[<-EA];exact((nj.app _).cZ (by have:=nj.len;omega)).app _
   have aa7:=nj.len
   clear EA
   obtain⟨G,hG⟩:∃G,G=List.length τ+3:=⟨_,rfl⟩
   rw[<-hG]at m2
   have lR:=pi k (by omega)
   rw[hHk]at lR
   have KR:=HX k
   have ow:=hlen k
   refine aR.rL (fun x:{σ:aG//σ.length=List.length τ+3+L.length}=>x.1) (List.length τ+3+L.length) (fun x=>x.2)
    (fun m x=>wa x.1 (List.length τ+1) G L.length (fun j=>jh (H.take m) (lv k) j)/\x.1.at (List.length τ+2) 0=some ⟨45,1,[[.own (List.length τ+1) 0 L.length]],none⟩/\x.1.at (List.length τ) 0=some ⟨3,1,[[n (k:Int)]],none⟩/\DY σ x.1/\∀i,i<List.length τ->x.1.at i 0=τ.at i 0)
    (fun _ _=>False) (ry H) ⟨lN,m1⟩ rfl rfl ⟨m2.congr fun j _=>by simp[jh],m3,m4,I8,m5⟩ lR (fun m args h=>?_) (fun m x args ll ρ μ hm hx=>?_) (fun x μ hx=>?_) (fun _ _ _ h=>h.elim)
   ·obtain⟨h,hh,rfl⟩:=uO h;rfl
   ·obtain⟨x,mF⟩:=x
    simp only at hx|-
    obtain⟨x1,x2,x3,xp,x4⟩:=hx
    obtain⟨h,hh,rfl⟩:=uO hm
    obtain⟨h1,h2,h3⟩:=lO h (ao hh)
    have Ym:=(ai.1 hh).1
    have ON:=zp (hs:=H.take m) KR h.to
    rw[bH]at ON
    have Ws:=zp (hs:=H.take (m+1)) KR h.to
    rw[bH]at Ws
    have l_:=JY (cur:=lv k) hh
    have UI:(lv k)[h.fr]?=some ((lv k).getD h.fr []):=getD_some (by omega)
    have PV:=ki KR h.fr
    have Wt:=pG PV
    have K6:=G6 ((lv k).getD h.fr []) h.ch Wt (fun s hs=>⟨(PV.2 s hs).1,PV.1.ne s hs,(PV.2 s hs).2⟩) h3
    have cX:=hS.row k (ar _)
    generalize Yn:(lv k).getD h.fr []=cf at*
    simp only[np.cs,par]
    ((refine Au ?_;repeat' constructor)<;>intros<;>refine aP ?_)
    refine⟨⟨x,mF⟩,_,by simp only[aW];rfl,fun ox=>?_⟩
    have bA:∀ν,aG.at (x++ν) A 0=some ⟨45,1,(List.range (k+1)).map fun i=>[cl i],none⟩:=fun ν=>by rw[cI (by omega),x4 A lA];exact hS.a
    have bB:∀ν,aG.at (x++ν) (A+1) 0=some ⟨192,1,[[.own A 0 (k+1)]],none⟩:=fun ν=>by rw[cI (by omega),x4 _ lB];exact hS.b
    have Yo:((List.range (k+1)).map fun i=>[cl i]).getD k []=[cl k]:=gG _ (by omega)
    have b8:∀ν,aG.at (x++ν) (List.length τ) 0=some ⟨3,1,[[n (k:Int)]],none⟩:=fun ν=>by rw[cI (by omega)];exact x3
    have Tg:∀ν,aG.at (x++ν) (List.length τ+2) 0=some ⟨45,1,[[.own (List.length τ+1) 0 L.length]],none⟩:=fun ν=>by rw[cI (by omega)];exact x2
    have bR:∀ν,aG.at (x++ν) (List.length τ+1) 0=some ⟨56,1,(List.range L.length).map fun(j:Nat)=>[.own (G+j) 0 (jh (H.take m) (lv k) j).length],none⟩:=fun ν=>by rw[cI (by omega)];exact x1.1
    have UJ:((List.range L.length).map fun(j:Nat)=>[AV.own (G+j) 0 (jh (H.take m) (lv k) j).length]).getD h.to []=[.own (G+h.to) 0 (jh (H.take m) (lv k) h.to).length]:=gG _ h2
    have bG:∀ν,aG.at (x++ν) (G+h.to) 0=some (jJ (jh (H.take m) (lv k) h.to)):=fun ν=>by rw[cI (by omega)];exact x1.2 _ h2
    have Yc:∀(ν:aG),aG.at (x++ox::(μ++(some [⟨455,2,[[n (h.fr:Int),n (h.to:Int)]],none⟩]::ν))) (List.length x+(List.length μ+1)) 0=some ⟨455,2,[[n (h.fr:Int),n (h.to:Int)]],none⟩:=fun ν=>by rw[dR,cQ,dV];rfl
    have Yd:∀(a:Option (List Ob)) (ν:aG),aG.at (x++ox::(μ++(a::some [⟨52,2,[h.ch.cs],none⟩]::ν))) (List.length x+(List.length μ+1+1)) 0=some ⟨52,2,[h.ch.cs],none⟩:=fun a ν=>by rw[dR,cQ,dR];rfl
    have bU:∀o ν,aG.cZ (x++ν) (G+h.to) 0 o=aG.cZ x (G+h.to) 0 o++ν:=fun o ν=>iR (by omega)
    have cL:∀o,List.length (aG.cZ x (G+h.to) 0 o)=List.length x:=fun o=>eW _ _ _ _
    have TG:∀o ν,aG.at (aG.cZ x (G+h.to) 0 o++ν) (List.length τ+2) 0=some ⟨45,1,[[.own (List.length τ+1) 0 L.length]],none⟩:=fun o ν=>by rw[cI (by rw[cL];omega),cx (.inl (by omega))];exact x2
    have cR:∀o ν,aG.at (aG.cZ x (G+h.to) 0 o++ν) (List.length τ+1) 0=some ⟨56,1,(List.range L.length).map fun(j:Nat)=>[.own (G+j) 0 (jh (H.take m) (lv k) j).length],none⟩:=fun o ν=>by rw[cI (by rw[cL];omega),cx (.inl (by omega))];exact x1.1
    have TH:∀o (ν:aG),aG.at (aG.cZ x (G+h.to) 0 o++ox::(μ++(some [⟨455,2,[[n (h.fr:Int),n (h.to:Int)]],none⟩]::ν))) (List.length x+(List.length μ+1)) 0=some ⟨455,2,[[n (h.fr:Int),n (h.to:Int)]],none⟩:=fun o ν=>by rw[<-cL o,dR,cQ,dV];rfl
    have cU:∀o o' ν,aG.cZ (aG.cZ x (G+h.to) 0 o++ν) (List.length τ+1) 0 o'=aG.cZ (aG.cZ x (G+h.to) 0 o) (List.length τ+1) 0 o'++ν:=fun o o' ν=>iR (by rw[cL];omega)
    have hw2:(jh (H.take m) (lv k) h.to).length+(wide cf h.ch).length<=51200256000:=by
     rw[l_,if_pos rfl,aM]at Ws;omega
    have V':(⟨52,2,(jh (H.take m) (lv k) h.to).map Sp.cs++(wide cf h.ch).map Sp.cs,none⟩:Ob)=jJ (jh (H.take m) (lv k) h.to++wide cf h.ch):=by simp[jJ]
    have C':=MN (c:=h.to) (v:=jh (H.take m) (lv k) h.to++wide cf h.ch) x1 (by omega) h2
    have Bm:=MM (σ:=x) (A:=List.length τ+1) (G:=G) (N:=L.length) (c:=h.to) (R:=fun j=>jh (H.take m) (lv k) j) (v:=jh (H.take m) (lv k) h.to++wide cf h.ch)
    have Ag:=fun i=>PT (σ:=x) (A:=List.length τ+1) (G:=G) (N:=L.length) (c:=h.to) (R:=fun j=>jh (H.take m) (lv k) j) (v:=jh (H.take m) (lv k) h.to++wide cf h.ch) (i:=i)
    rcases cX with mw|⟨f,mw,Z7⟩
    ·rw[mw]at Yo
     (repeat' ((first|refine vn rfl ?_|simp(disch:=omega) only[cB,aj]|refine bo (fun _=>?_) fun _=>?_|refine im fun _=>?_|((repeat refine si ?_);(first|((first|refine .inl ⟨_,_,_,_,rfl,fun _=>pu K6,?_⟩|refine⟨_,_,_,_,rfl,fun _=>pu K6,?_⟩);(first|refine o1 ?_|refine o4 ?_))|refine .inl ⟨_,_,_,_,rfl,pu K6,?_⟩))|refine cF ?_|refine om ?_|refine an ?_|fail)<;>try simp only[zN,zT,zV,zS,zU,dC,ex,bu,bN,elems,cells,scalar,dH,bL,aX,aU,bJ,bI,Nat.reduceBEq,reduceAdd,reduceSub,reduceLT,reduceLeDiff,reduceMul,reduceEqDiff,reduceIte,bA,bB,Yo,b8,Tg,bR,UJ,bG,Yc,Yd,bU,a_,getD_map UI]))
     refine⟨⟨xY _,by omega⟩,?_⟩
     simp only[zN,zT,zV,zS,zU,dC,ex,bu,bN,elems,cells,scalar,dH,bL,aX,aU,bJ,bI,Nat.reduceBEq,reduceAdd,reduceSub,reduceLT,reduceLeDiff,reduceMul,reduceEqDiff,reduceIte,TG,cR,TH,cU,UJ,a_]
     (repeat' ((first|refine vn rfl ?_|simp(disch:=omega) only[cB,aj]|refine bo (fun _=>?_) fun _=>?_|refine im fun _=>?_|refine cF ?_|refine om ?_|refine an ?_|fail)<;>try simp only[zN,zT,zV,zS,zU,dC,ex,bu,bN,elems,cells,scalar,dH,bL,aX,aU,bJ,bI,Nat.reduceBEq,reduceAdd,reduceSub,reduceLT,reduceLeDiff,reduceMul,reduceEqDiff,reduceIte,TG,cR,TH,cU,UJ,a_]))
     refine⟨⟨zo x (List.length τ+1) G L.length h.to (fun j=>jh (H.take m) (lv k) j) (jh (H.take m) (lv k) h.to++wide cf h.ch),by rw[Bm];exact mF⟩,[],?_,C'.congr fun j hj=>?_,?_,?_,?_,fun i hi=>?_⟩
     ·simp[zo,jJ]
     ·rw[l_];by_cases Bv:j=h.to
      ·subst Bv;simp
      ·simp[Bv]
     ·exact(Ag _ (by omega) (by omega)).trans x2
     ·exact(Ag _ (by omega) (by omega)).trans x3
     ·exact(xp.cZ (by omega)).cZ (by omega)
     ·exact(Ag _ (by omega) (by omega)).trans (x4 i hi)
    ·rw[mw]at Yo
     have bF:∀ν,aG.at (x++ν) f 0=some ⟨56,1,(lv k).map (fun l=>[iT l]),none⟩:=fun ν=>by rw[cI (by have:=dU Z7;omega),x4 f (dU Z7)];exact Z7
     (repeat' ((first|refine vn rfl ?_|simp(disch:=omega) only[cB,aj]|refine bo (fun _=>?_) fun _=>?_|refine im fun _=>?_|((repeat refine si ?_);(first|((first|refine .inl ⟨_,_,_,_,rfl,fun _=>pu K6,?_⟩|refine⟨_,_,_,_,rfl,fun _=>pu K6,?_⟩);(first|refine o1 ?_|refine o4 ?_))|refine .inl ⟨_,_,_,_,rfl,pu K6,?_⟩))|refine cF ?_|refine om ?_|refine an ?_|fail)<;>try simp only[zN,zT,zV,zS,zU,dC,ex,bu,bN,elems,cells,scalar,dH,bL,aX,aU,bJ,bI,Nat.reduceBEq,reduceAdd,reduceSub,reduceLT,reduceLeDiff,reduceMul,reduceEqDiff,reduceIte,bA,bB,Yo,b8,Tg,bR,UJ,bG,Yc,Yd,bU,bF,a_,getD_map UI]))
     refine⟨⟨xY _,by omega⟩,?_⟩
     simp only[zN,zT,zV,zS,zU,dC,ex,bu,bN,elems,cells,scalar,dH,bL,aX,aU,bJ,bI,Nat.reduceBEq,reduceAdd,reduceSub,reduceLT,reduceLeDiff,reduceMul,reduceEqDiff,reduceIte,TG,cR,TH,cU,UJ,a_]
     (repeat' ((first|refine vn rfl ?_|simp(disch:=omega) only[cB,aj]|refine bo (fun _=>?_) fun _=>?_|refine im fun _=>?_|refine cF ?_|refine om ?_|refine an ?_|fail)<;>try simp only[zN,zT,zV,zS,zU,dC,ex,bu,bN,elems,cells,scalar,dH,bL,aX,aU,bJ,bI,Nat.reduceBEq,reduceAdd,reduceSub,reduceLT,reduceLeDiff,reduceMul,reduceEqDiff,reduceIte,TG,cR,TH,cU,UJ,a_]))
     refine⟨⟨zo x (List.length τ+1) G L.length h.to (fun j=>jh (H.take m) (lv k) j) (jh (H.take m) (lv k) h.to++wide cf h.ch),by rw[Bm];exact mF⟩,[],?_,C'.congr fun j hj=>?_,?_,?_,?_,fun i hi=>?_⟩
     ·simp[zo,jJ]
     ·rw[l_];by_cases Bv:j=h.to
      ·subst Bv;simp
      ·simp[Bv]
     ·exact(Ag _ (by omega) (by omega)).trans x2
     ·exact(Ag _ (by omega) (by omega)).trans x3
     ·exact(xp.cZ (by omega)).cZ (by omega)
     ·exact(Ag _ (by omega) (by omega)).trans (x4 i hi)
   ·obtain⟨x,mF⟩:=x
    simp only at hx|-
    obtain⟨x1,x2,x3,xp,x4⟩:=hx
    have Wu:(ry H).length=H.length:=by simp[ry]
    rw[Wu,aI]at x1
    have bB:∀ν,aG.at (x++ν) (A+1) 0=some ⟨192,1,[[.own A 0 (k+1)]],none⟩:=fun ν=>by rw[cI (by omega),x4 _ lB];exact hS.b
    have Tg:∀ν,aG.at (x++ν) (List.length τ+2) 0=some ⟨45,1,[[.own (List.length τ+1) 0 L.length]],none⟩:=fun ν=>by rw[cI (by omega)];exact x2
    have bR:∀ν,aG.at (x++ν) (List.length τ+1) 0=some ⟨56,1,(List.range L.length).map fun(j:Nat)=>[.own (G+j) 0 (jh H (lv k) j).length],none⟩:=fun ν=>by rw[cI (by omega)];exact x1.1
    simp only[zN,zT,zV,zS,zU,dC,ex,bu,bN,elems,cells,scalar,dH,bL,aX,aU,bJ,bI,Nat.reduceBEq,reduceAdd,reduceSub,reduceLT,reduceLeDiff,reduceMul,reduceEqDiff,reduceIte]
    (repeat' ((first|refine vn rfl ?_|simp(disch:=omega) only[cB,aj]|refine bo (fun _=>?_) fun _=>?_|refine im fun _=>?_|refine cF ?_|refine om ?_|refine an ?_|fail)<;>try simp only[zN,zT,zV,zS,zU,dC,ex,bu,bN,elems,cells,scalar,dH,bL,aX,aU,bJ,bI,Nat.reduceBEq,reduceAdd,reduceSub,reduceLT,reduceLeDiff,reduceMul,reduceEqDiff,reduceIte,Tg,bR,a_]))
    all_goals try(exfalso;omega)
    have hgL:kq (L.map (·.al)):=by have:=ng (k+1);rwa[hL]at this
    refine aR.mT (α:={q:Nat×aG//q.1<=L.length/\q.2.at (List.length τ+1) 0=some ⟨56,1,(List.range L.length).map fun(j:Nat)=>[if j<q.1 then iT (nw H (lv k) (L.map (·.al)) j)else .own (G+j) 0 (jh H (lv k) j).length],none⟩/\
     (∀j,q.1<=j->j<L.length->q.2.at (G+j) 0=some (jJ (jh H (lv k) j)))/\q.2.at (List.length τ+2) 0=some ⟨45,1,[[.own (List.length τ+1) 0 L.length]],none⟩/\(∀i,i<List.length τ->q.2.at i 0=τ.at i 0)/\DY σ q.2})
     [73] (fun q=>[(73,n q.1.1)]) (fun q=>q.1.2) (fun q=>L.length-q.1.1) ⟨(0,x++μ),aQ _,by simpa using bR μ,fun j _ hj=>(x1.app μ).2 j hj,Tg μ,fun i hi=>by rw[cI (by omega)];exact x4 i hi,xp.app μ⟩ ?_ rfl ?_
    ·(simp only[zN,zT,zV,zS,zU,dC,ex,bu,bN,elems,cells,scalar,dH,bL,aX,aU,bJ,bI,Nat.reduceBEq,reduceAdd,reduceSub,reduceLT,reduceLeDiff,reduceMul,reduceEqDiff,reduceIte];try simp)
    rintro⟨⟨i,iX⟩,hi,y1,y2,y3,y4,y5⟩
    simp only at hi y1 y2 y3 y4 y5
    simp only
    have dg:∀j,j<L.length->((List.range L.length).map fun(j:Nat)=>[if j<i then iT (nw H (lv k) (L.map (·.al)) j)else .own (G+j) 0 (jh H (lv k) j).length]).getD j []=[if j<i then iT (nw H (lv k) (L.map (·.al)) j)else .own (G+j) 0 (jh H (lv k) j).length]:=fun j hj=>gG _ hj
    by_cases my:i<L.length
    ·obtain⟨z,hz⟩:∃z,L[i]?=some z:=⟨_,ae my⟩
     have Wv:=dg i my
     rw[if_neg (f_ i)]at Wv
     have yi:=y2 i (ar _) my
     ((first|refine vn rfl ?_|simp(disch:=omega) only[cB,aj]|refine bo (fun _=>?_) fun _=>?_|refine im fun _=>?_|refine cF ?_|refine om ?_|refine an ?_|fail)<;>try simp only[zN,zT,zV,zS,zU,dC,ex,bu,bN,elems,cells,scalar,dH,bL,aX,aU,bJ,bI,Nat.reduceBEq,reduceAdd,reduceSub,reduceLT,reduceLeDiff,reduceMul,reduceEqDiff,reduceIte,y1,Wv,a_])
     ((first|refine vn rfl ?_|simp(disch:=omega) only[cB,aj]|refine bo (fun _=>?_) fun _=>?_|refine im fun _=>?_|refine cF ?_|refine om ?_|refine an ?_|fail)<;>try simp only[zN,zT,zV,zS,zU,dC,ex,bu,bN,elems,cells,scalar,dH,bL,aX,aU,bJ,bI,Nat.reduceBEq,reduceAdd,reduceSub,reduceLT,reduceLeDiff,reduceMul,reduceEqDiff,reduceIte,y1,Wv,a_])
     refine aR.both (fun _=>?_) (fun h=>?_)
     case refine_2=>exfalso;omega
     ((first|refine vn rfl ?_|simp(disch:=omega) only[cB,aj]|refine bo (fun _=>?_) fun _=>?_|refine im fun _=>?_|refine cF ?_|refine om ?_|refine an ?_|fail)<;>try simp only[zN,zT,zV,zS,zU,dC,ex,bu,bN,elems,cells,scalar,dH,bL,aX,aU,bJ,bI,Nat.reduceBEq,reduceAdd,reduceSub,reduceLT,reduceLeDiff,reduceMul,reduceEqDiff,reduceIte])
     ((first|refine vn rfl ?_|simp(disch:=omega) only[cB,aj]|refine bo (fun _=>?_) fun _=>?_|refine im fun _=>?_|refine cF ?_|refine om ?_|refine an ?_|fail)<;>try simp only[zN,zT,zV,zS,zU,dC,ex,bu,bN,elems,cells,scalar,dH,bL,aX,aU,bJ,bI,Nat.reduceBEq,reduceAdd,reduceSub,reduceLT,reduceLeDiff,reduceMul,reduceEqDiff,reduceIte,y1,Wv,a_])
     (repeat refine si ?_)
     refine aR.H_ (t:=14) (n:=(jh H (lv k) i).length) rfl yi (by simp) (show(2:Nat)≠0 by decide) ?_
     have lG:=dU yi
     have l1:=dU y1
     have l3:=dU y3
     have z1:aG.at (gone iX (G+i)) (List.length τ+1) 0=some ⟨56,1,(List.range L.length).map fun(j:Nat)=>[if j<i then iT (nw H (lv k) (L.map (·.al)) j)else .own (G+j) 0 (jh H (lv k) j).length],none⟩:=by rw[zq (by omega)];exact y1
     have z3:aG.at (gone iX (G+i)) (List.length τ+2) 0=some ⟨45,1,[[.own (List.length τ+1) 0 L.length]],none⟩:=by rw[zq (by omega)];exact y3
     have Wx:(L.map (·.al)).getD i []=z.al:=getD_map hz
     have UL:iV z.al:=by have:=ki hgL i;rwa[Wx]at this
     have hgi:=zp (hs:=H) KR i
     have Dc:=PU (hs:=H) KR (fun h hh=>(lO h hh).2.2) i
     have Z8:=uK (jh H (lv k) i) (by omega) (fun s hs=>(Dc s hs).1) (fun s hs=>(Dc s hs).2)
     have hjn:=rh (jh H (lv k) i)
     have vi:(jI [] (jh H (lv k) i)).length<=51200256000:=by have:=Bx (l:=[]) (b:=jh H (lv k) i);simp only[bM]at this;omega
     have Oq:=zg (jI [] (jh H (lv k) i)) z.al hjn (by omega) UL
     have S8:meet (jI [] (jh H (lv k) i)) z.al=nw H (lv k) (L.map (·.al)) i:=by unfold nw;rw[Wx]
     rw[S8]at Oq
     have z4:∀q,q≠G+i->(gone iX (G+i)).at q 0=iX.at q 0:=fun q hq=>zq hq
     have z5:DY σ (gone iX (G+i)):=y5.gone (by omega)
     generalize Wy:gone iX (G+i)=VI at*
     (repeat' ((first|refine vn rfl ?_|simp(disch:=omega) only[cB,aj]|refine bo (fun _=>?_) fun _=>?_|refine im fun _=>?_|((repeat refine si ?_);(first|((first|refine .inl ⟨_,_,_,_,rfl,fun _=>pu (by first|exact kQ _|exact Z8|exact Oq),?_⟩|refine⟨_,_,_,_,rfl,fun _=>pu (by first|exact kQ _|exact Z8|exact Oq),?_⟩);(first|refine o1 ?_|refine o4 ?_))|refine .inl ⟨_,_,_,_,rfl,pu (by first|exact kQ _|exact Z8|exact Oq),?_⟩))|refine cF ?_|refine om ?_|refine an ?_|fail)<;>try simp only[zN,zT,zV,zS,zU,dC,ex,bu,bN,elems,cells,scalar,dH,bL,aX,aU,bJ,bI,Nat.reduceBEq,reduceAdd,reduceSub,reduceLT,reduceLeDiff,reduceMul,reduceEqDiff,reduceIte,z1,z3,Wv,getD_map hz,a_]))
     all_goals try(exfalso;omega)
     generalize zt:aG.cZ VI (List.length τ+1) 0 _=tU
     have f1:=cu (o':=⟨56,1,((List.range L.length).map fun(j:Nat)=>[if j<i then iT (nw H (lv k) (L.map (·.al)) j)else .own (G+j) 0 (jh H (lv k) j).length]).set i [iT (nw H (lv k) (L.map (·.al)) i)],none⟩) z1
     have f2:∀q,q≠List.length τ+1->tU.at q 0=VI.at q 0:=fun q hq=>by rw[<-zt,cx (.inl fun e=>hq e.symm)]
     have f3:DY σ tU:=by rw[<-zt];exact z5.cZ (by omega)
     rw[show aG.cZ VI (List.length τ+1) 0 ⟨56,1,((List.range L.length).map fun(j:Nat)=>[if j<i then iT (nw H (lv k) (L.map (·.al)) j)else .own (G+j) 0 (jh H (lv k) j).length]).set i [iT (nw H (lv k) (L.map (·.al)) i)],none⟩=tU from zt]at f1
     refine⟨⟨(i+1,tU),my,?_,?_,?_,?_,f3⟩,by simp,rfl,by simp only;omega⟩
     ·simp only
      rw[f1]
      simp only[kZ]
      refine congrArg (fun z=>some (⟨56,1,z,none⟩:Ob)) (ea fun j hj=>?_)
      by_cases Z9:j=i
      ·subst Z9;simp
      ·rw[if_neg Z9]
       by_cases vi:j<i
       ·rw[if_pos vi,if_pos (by omega)]
       ·rw[if_neg vi,if_neg (by omega)]
     ·intro j Ra Bv
      simp only at Ra|-
      rw[f2 _ (by omega),z4 _ (by omega)]
      exact y2 j (by omega) Bv
     ·simp only
      rw[f2 _ (by omega)];exact z3
     ·intro q hq
      simp only
      rw[f2 _ (by omega),z4 _ (by omega)]
      exact y4 q hq
    ·obtain rfl:i=L.length:=by omega
     have y6:iX.at (A+1) 0=some ⟨192,1,[[.own A 0 (k+1)]],none⟩:=(y4 _ lB).trans hS.b
     have y7:iX.at A 0=some ⟨45,1,(List.range (k+1)).map fun i=>[cl i],none⟩:=(y4 _ lA).trans hS.a
     have lA2:=dU y7
     have lB2:=dU y6
     have y8:∀o,(iX.cZ A 0 o).at (A+1) 0=some ⟨192,1,[[.own A 0 (k+1)]],none⟩:=fun o=>by rw[cx (.inl (by omega))];exact y6
     (repeat' ((first|refine vn rfl ?_|simp(disch:=omega) only[cB,aj]|refine bo (fun _=>?_) fun _=>?_|refine im fun _=>?_|refine cF ?_|refine om ?_|refine an ?_|fail)<;>try simp only[zN,zT,zV,zS,zU,dC,ex,bu,bN,elems,cells,scalar,dH,bL,aX,aU,bJ,bI,Nat.reduceBEq,reduceAdd,reduceSub,reduceLT,reduceLeDiff,reduceMul,reduceEqDiff,reduceIte,y6,y7,y8,y3,a_]))
     all_goals try(exfalso;omega)
     have aa8:=hS.own
     have eL:lv (k+1)=AM H (lv k) (L.map (·.al)):=by rw[<-HZ];show AM (hs k) (nq _ hs F0 k) ((nd (k+1)).map (·.al))=_;rw[hHk,hL,HZ]
     have eR:(List.range L.length).map (fun(j:Nat)=>[if j<L.length then iT (nw H (lv k) (L.map (·.al)) j)else .own (G+j) 0 (jh H (lv k) j).length])=(lv (k+1)).map (fun l=>[iT l]):=by
      rw[eL,AM,il,aF]
      exact ea fun j hj=>by rw[if_pos hj];rfl
     rw[eR]at y1
     generalize zt:aG.cZ (aG.cZ iX A 0 _) (A+1) 0 _=tU
     have w0:∀q,q≠A->q≠A+1->tU.at q 0=iX.at q 0:=fun q h1 h2=>by rw[<-zt,cx (.inl (fun e=>h2 e.symm)),cx (.inl (fun e=>h1 e.symm))]
     have w1:tU.at A 0=some ⟨45,1,(List.range (k+1)).map (fun i=>[cl i])++[[.own (List.length τ+1) 0 L.length]],none⟩:=by rw[<-zt,cx (.inl (by omega)),cu y7]
     have w2:tU.at (A+1) 0=some ⟨192,1,[[.own A 0 (k+2)]],none⟩:=by rw[<-zt,cu (y8 _)]
     have w3:DY σ tU:=by rw[<-zt];exact(y5.cZ (by omega)).cZ (by omega)
     refine⟨⟨(k+1,tU,fun j=>if j=k+1 then .own (List.length τ+1) 0 L.length else cl j,fun j=>if j=k+1 then List.length τ+1 else g j),by simp only;omega,?_,⟨?_,?_,?_,?_,?_⟩⟩,by simp,rfl,by simp only;omega⟩
     ·exact w3
     ·simp only
      rw[w1]
      refine congrArg (fun z=>some (⟨45,1,z,none⟩:Ob)) ?_
      rw[show List.range (k+1+1)=List.range (k+1)++[k+1]from gE,di]
      congr 1
      ·exact ea fun j hj=>by rw[if_neg (by omega)]
      ·simp
     ·simp only
      exact w2
     ·intro j hj
      simp only at hj|-
      by_cases Jf:j=k+1
      ·subst Jf
       rw[if_pos rfl]
       refine .inr ⟨List.length τ+1,by rw[Z6],?_⟩
       rw[w0 _ (by omega) (by omega)];exact y1
      ·rw[if_neg Jf]
       refine(hS.row j (by omega)).frame fun f o ho hoT=>?_
       have:=dU ho
       rw[w0 _ (fun e=>?_) (fun e=>?_),y4 f this]
       ·exact ho
       ·subst e;rw[hS.a]at ho;injection ho with ho;subst ho;cases hoT
       ·subst e;rw[hS.b]at ho;injection ho with ho;subst ho;cases hoT
     ·intro j Ra Bv
      simp only at Bv|-
      by_cases Jf:j=k+1
      ·subst Jf
       rw[if_pos rfl,if_pos rfl]
       refine⟨by rw[Z6],?_,by omega⟩
       rw[w0 _ (by omega) (by omega)];exact y1
      ·rw[if_neg Jf,if_neg Jf]
       obtain⟨u1,u2,u3⟩:=hS.own j Ra (by omega)
       refine⟨u1,?_,u3⟩
       have:=dU u2
       rw[w0 _ (fun e=>?_) (fun e=>?_),y4 _ this]
       ·exact u2
       ·rw[e,hS.a]at u2;injection u2 with u2;injection u2 with u2;cases u2
       ·rw[e,hS.b]at u2;injection u2 with u2;injection u2 with u2;cases u2
     ·intro j1 j2 Ra Bv hj3
      simp only at hj3|-
      rw[if_neg (show¬j1=k+1 by omega)]
      by_cases Jf:j2=k+1
      ·rw[if_pos Jf]
       have:=dU (hS.own j1 Ra (by omega)).2.1
       omega
      ·rw[if_neg Jf]
       exact hS.inj j1 j2 Ra Bv (by omega)
  ·obtain rfl:k=N-1:=by omega
   ((refine Ax (aa @aA (aa @aB (aa @hS.a @hS.b))) ?_;repeat' constructor)<;>intros<;>refine aP ?_)
   obtain⟨ν,Z_⟩:=nj
   exact .mk ν A (A+1) cl g Z_ (by rw[show N-1+1=N by omega]) Z5 hS
theorem BP{m:Nat}:∀{l:List q_} {i:Nat},(∀x∈l,x.nx.length<=m)->(rb i l).length<=l.length*m
 | [],_,_=>by simp[rb]
 |x::r,i,h=>by
  have h1:=h x (by simp)
  have h2:=BP (i:=i+1) (l:=r) fun y hy=>h y (by simp[hy])
  simp only[rb,aM,bf,pY,aF,Nat.succ_mul]
  omega
theorem Iu{t:ka}(h:valid t){k:Nat}(hk:k<t.length):(H6 t k).length<=256000:=by
 obtain⟨h1,h2,h3⟩:=lZ h hk
 have:=BP (i:=0) fun x hx=>(h3 x hx).2.1
 unfold H6 AL
 omega
theorem TI(t:ka)(h:valid t):MQ 399 (Af t) 359 358 360 361 (fun k=>[.bZ [MH t] 0,.bZ [n (k:Int)] 0]) t.length (fun k=>t.getD k []) (H6 t)where
 ms:=by kernel_rfl
 mn:=by kernel_rfl
 mp:=by kernel_rfl
 ps:=Dg t
 pn k hk:=E4 t k hk
 pp k _:=o6 t k
 pi k hk:=zm t k h (by omega)
 pv:=by simp
 n1:=h.1
 n2:=h.2.1
 nl k hk:=(lZ h hk).2.1
 ng k:=kj h k
 ns k hk x hx:=((lZ h hk).2.2 x hx).1.1
 hk k hk g hg:=vN h hg
 hl k hk:=Iu h (by omega)
theorem Wz(t:ka)(h:valid t):MQ 400 (Af t) 363 362 364 365 (fun k=>[.bZ [MH t] 0,.bZ [n (k:Int)] 0]) t.length (fun k=>t.getD (t.length-1-k) []) (yK t)where
 ms:=by kernel_rfl
 mn:=by kernel_rfl
 mp:=by kernel_rfl
 ps:=E5 t
 pn k hk:=G4 t k (by have:=h.2.1;omega) hk
 pp k _:=G5 t k
 pi k hk:=JX t k h hk
 pv:=by simp
 n1:=h.1
 n2:=h.2.1
 nl k hk:=(lZ h (by omega)).2.1
 ng k:=kj h _
 ns k hk x hx:=((lZ h (by omega)).2.2 x hx).1.1
 hk k hk g hg:=by
  obtain⟨x,hx,rfl⟩:=aO.1 hg
  obtain⟨h1,h2,h3⟩:=vN h hx
  refine⟨?_,?_,?_⟩
  ·show x.to<wd t (t.length-1-k)
   rwa[show t.length-1-k=t.length-2-k+1 by omega]
  ·show x.fr<wd t (t.length-1-(k+1))
   rwa[show t.length-1-(k+1)=t.length-2-k by omega]
  ·obtain⟨c1,c2,c3⟩:=h3
   exact⟨by show-100000<=-x.ch.hi;omega,by show-x.ch.hi<=-x.ch.lo;omega,by show-x.ch.lo<=100000;omega⟩
 hl k hk:=by
  rw[yK,aF];exact Iu h (by omega)
theorem uR(σ:aG)(t:ka)(h:valid t):eY Tryz.prog 222 [Af t] σ (Di σ t.length (fwd t) true):=by
 refine qY 7 (jo [jx 1 191 1 0,jn 2] [1] (jo [jk 3 1 1,jw 4 (.build [.slice none 0 0] [(0,1,(.t 3))]),jw 5 (.l6 399 (.t 4)),jw 6 (.call (.f 263) [(.t 5),(.c (.slice none 0 0))]),jm 2 6] [2] .ret)) [.t 2] Tryz.call222 Tryz.func222 ?_
 have hd:=uQ σ (TI t h) true (tp t 0) (.v (.slice none 0 0)) ⟨rfl,rfl⟩ (kj h 0) (by rw[r9];rfl)
 ((refine Au ?_;repeat' constructor)<;>intros<;>refine aP ?_)
 refine .inr (.inl ⟨_,_,_,_,rfl,fun _=>⟨hd,?_⟩,fun h=>by cases h⟩)
 rintro res σ' hR
 refine aH ?_
 obtain⟨ν,A,B,cl,g,rfl,rfl,hA,hL⟩:=hR
 ((refine Au ?_;repeat' constructor)<;>intros<;>refine aP ?_)
 exact .mk ν A B cl g rfl rfl hA hL
theorem Dj{σ:aG}{A N:Nat}{cl:Nat->AV}{lv:Nat->List (List Sp)}(h:σ.at A 0=some ⟨45,1,(List.range N).map fun i=>[cl i],none⟩)(hr:∀i,i<N->rz σ (cl i) (lv i)):bO σ (.own A 0 N) (GR ((List.range N).map lv)):=by
 refine bO.own (o:=⟨45,1,(List.range N).map fun i=>[cl i],none⟩) (es:=((List.range N).map lv).map fun l=>[mZ l]) (show(1:Nat)≠0 by decide) h (by simp) (by simp) (fun e j he hj=>?_) fun e he=>?_
 ·rw[gG _ he,getD_map (x:=lv e) (by simp[he])]
  match j,hj with
  |0,_=>exact(hr e he).Wo
 ·rw[getD_map (x:=lv e) (by simp[he])];rfl
theorem Di.Wo{σ σ':aG}{N:Nat}{lv:Nat->List (List Sp)}{o0:Bool}{r:AV}(hN:1<=N)(h:Di σ N lv o0 r σ'):bO σ' r (GR ((List.range N).map lv)):=by
 obtain⟨ν,A,B,cl,g,h1,rfl,hA,hL⟩:=h
 have:=hL.a
 rw[show N-1+1=N by omega]at this
 exact Dj this fun i hi=>hL.row i (by omega)
theorem Dk(t:ka)(h:valid t):Pure Tryz.prog 222 [Af t] (GR (Mh t)):=
 eY.toPure (uR [] t h) fun _ _ hR=>hR.Wo h.1
theorem Dl(σ:aG)(A N:Nat)(g w:Nat->Nat)(hN:N<9223372036854775808)(ho:σ.at A 0=some ⟨45,1,(List.range N).map fun i=>[.own (g i) 0 (w i)],none⟩):eY Tryz.prog 264 [.own A 0 N] σ (fun _ σ'=>σ'=σ.cZ A 0 ⟨45,1,(List.range N).map fun i=>[.own (g (N-1-i)) 0 (w (N-1-i))],none⟩):=by
 refine qY 28 (jo [jm 4 0,je 5 4,ju .sub 6 5 1,jc 2 0,jm 3 6] [0,2,3] (.block 0 (.loop (.seq (jo [jm 7 2,jm 8 3,jt .lss 9 7 8] [0,2,3,9] (.cond (.t 9) .skip (.exit 0))) (.seq (.block 1 (.jC [0,1,2,3,4,5,6,7,8,9,10,11,12,13,14,15] [2,3] 1 [jm 14 0,jm 15 2,jm 16 0,jm 17 3,jm 18 0,jm 19 3,ji 20 1 18 19,jl 21 20,jm 22 0,jm 23 2,ji 24 1 22 23,jl 25 24,ji 26 1 14 15] [js 1 26 21,ji 27 1 16 17,js 1 27 25] [0,2,3])) (.ops [jm 10 2,ju .add 11 10 1,jm 12 3,ju .sub 13 12 1,jm 2 11,jm 3 13] [0,2,3])))))) [] Tryz.call264 Tryz.func264 ?_
 let ix:Nat->Nat->Nat:=fun i m=>if m<i\/N-i<=m then N-1-m else m
 let ob:Nat->Ob:=fun i=>⟨45,1,(List.range N).map fun m=>[.own (g (ix i m)) 0 (w (ix i m))],none⟩
 have dQ:∀i,aG.at (σ.cZ A 0 (ob i)) A 0=some (ob i):=fun i=>cu ho
 have h0:σ.cZ A 0 (ob 0)=σ:=by
  have:ob 0=⟨45,1,(List.range N).map fun i=>[.own (g i) 0 (w i)],none⟩:=by
   simp only[ob]
   exact congrArg (fun z=>(⟨45,1,z,none⟩:Ob)) (ea fun j hj=>by simp only[ix];rw[if_neg (by omega)])
  rw[this];exact j8 ho
 (repeat' ((first|refine vn rfl ?_|simp(disch:=omega) only[cB,aj]|refine bo (fun _=>?_) fun _=>?_|refine im fun _=>?_|refine cF ?_|refine om ?_|refine an ?_|fail)<;>try simp only[zN,zT,zV,zS,zU,dC,ex,bu,bN,elems,cells,scalar,dH,bL,aX,aU,bJ,bI,Nat.reduceBEq,reduceAdd,reduceSub,reduceLT,reduceLeDiff,reduceMul,reduceEqDiff,reduceIte,ho,a_]))
 all_goals try(exfalso;omega)
 refine aR.le (α:={i:Nat//2*i<=N+1}) [2,3] (fun i=>[(2,n i.1),(3,n ((N:Int)-1-i.1))]) (fun i=>σ.cZ A 0 (ob i.1)) (fun i=>N-i.1) ⟨0,by omega⟩ h0.symm ?_
 rintro⟨i,hi⟩
 simp only
 by_cases bP:2*i+1<N
 ·have e1:(((N:Int)-1-i).toNat)=N-1-i:=by omega
  have g1:∀i m,m<N->((List.range N).map fun m=>[AV.own (g (ix i m)) 0 (w (ix i m))]).getD m []=[.own (g (ix i m)) 0 (w (ix i m))]:=fun i m hm=>gG _ hm
  have g2:=g1 i i (by omega)
  have g3:=g1 i (N-1-i) (by omega)
  have Z':=dQ i
  have i1:ix i i=i:=by simp only[ix];rw[if_neg (by omega)]
  have i2:ix i (N-1-i)=N-1-i:=by simp only[ix];rw[if_neg (by omega)]
  rw[i1]at g2
  rw[i2]at g3
  simp only[ob]at Z'|-
  have WA:∀o,aG.at (σ.cZ A 0 o) A 0=some o:=fun o=>cu ho
  have huu:∀o o',(σ.cZ A 0 o).cZ A 0 o'=σ.cZ A 0 o':=fun o o'=>Dh
  have g4:∀X,(((List.range N).map fun m=>[AV.own (g (ix i m)) 0 (w (ix i m))]).set i X).getD (N-1-i) []=[.own (g (N-1-i)) 0 (w (N-1-i))]:=fun X=>by
   rw[ab,bW (by omega),<-ab];exact g3
  (repeat' ((first|refine vn rfl ?_|simp(disch:=omega) only[cB,aj]|refine bo (fun _=>?_) fun _=>?_|refine im fun _=>?_|refine cF ?_|refine om ?_|refine an ?_|fail)<;>try simp only[zN,zT,zV,zS,zU,dC,ex,bu,bN,elems,cells,scalar,dH,bL,aX,aU,bJ,bI,Nat.reduceBEq,reduceAdd,reduceSub,reduceLT,reduceLeDiff,reduceMul,reduceEqDiff,reduceIte,WA,e1,g2,g3,a_]))
  all_goals try(exfalso;omega)
  simp only[zN,zT,zV,zS,zU,dC,ex,bu,bN,elems,cells,scalar,dH,bL,aX,aU,bJ,bI,Nat.reduceBEq,reduceAdd,reduceSub,reduceLT,reduceLeDiff,reduceMul,reduceEqDiff,reduceIte,WA,huu,e1,g4,cK,a_]
  ((refine Au ?_;repeat' constructor)<;>intros<;>refine aP ?_)
  refine⟨⟨i+1,by omega⟩,⟨by simp,by simp;omega⟩,?_,by simp only;omega⟩
  refine congrArg (fun z=>aG.cZ σ A 0 (⟨45,1,z,none⟩:Ob)) ?_
  rw[kZ,kZ]
  refine ea fun j hj=>?_
  simp only[ix]
  by_cases h1:j=N-1-i
  ·rw[if_pos h1,if_pos (by omega),h1,show N-1-(N-1-i)=i by omega]
  ·rw[if_neg h1]
   by_cases h2:j=i
   ·rw[if_pos h2,if_pos (by omega),h2]
   ·rw[if_neg h2]
    by_cases h3:j<i\/N-i<=j
    ·rw[if_pos h3,if_pos (by omega)]
    ·rw[if_neg h3,if_neg (by omega)]
 ·have lh:ob i=⟨45,1,(List.range N).map fun i=>[.own (g (N-1-i)) 0 (w (N-1-i))],none⟩:=by
   simp only[ob]
   refine congrArg (fun z=>(⟨45,1,z,none⟩:Ob)) (ea fun j hj=>?_)
   simp only[ix]
   by_cases h3:j<i\/N-i<=j
   ·rw[if_pos h3]
   ·rw[if_neg h3,show N-1-j=j by omega]
  ((refine Au ?_;repeat' constructor)<;>intros<;>refine aP ?_)
  rw[lh]
theorem ph(t:ka)(h:valid t):Pure Tryz.prog 223 [Af t] (GR (Js t)):=by
 refine et 11 (jo [jx 1 191 1 0,jn 2] [1] (jo [jk 4 1 1,jw 5 (.build [.slice none 0 0] [(0,1,(.t 4))]),jw 6 (.l6 400 (.t 5)),jw 7 (.call (.f 263) [(.t 6),(.c (.slice none 0 0))]),jm 3 7] [3] (jo [jm 8 3,jy 9 264 [8]] [3] (jo [jm 10 3,jm 2 10] [2] .ret)))) [.t 2] Tryz.call223 Tryz.func223 ?_
 have hN:=h.1
 have Yp:=h.2.1
 have hd:=uQ [] (Wz t h) true (yJ t 0) (.v (.slice none 0 0)) ⟨rfl,rfl⟩ (lU h 0) (by rw[yJ,r9];rfl)
 ((refine Au ?_;repeat' constructor)<;>intros<;>refine aP ?_)
 refine .inr (.inl ⟨_,_,_,_,rfl,fun _=>⟨hd,?_⟩,fun h=>by cases h⟩)
 rintro res σ' hR
 refine aH ?_
 obtain⟨ν,A,B,cl,g,Z_,rfl,hA,hL⟩:=hR
 have HZ:nq (fun k=>(t.getD (t.length-1-k) []).map (·.al)) (yK t) (yJ t 0)=sA t:=rfl
 rw[HZ]at hL
 have e1:t.length-1+1=t.length:=by omega
 have dQ:=hL.a
 rw[e1]at dQ
 have ow:∀i,i<t.length->cl i=.own (g i) 0 (sA t i).length:=fun i hi=>(hL.own i (.inl rfl) (by omega)).1
 rw[ea (f:=fun i=>[cl i]) (g:=fun i=>[AV.own (g i) 0 (sA t i).length]) fun i hi=>by rw[ow i hi]]at dQ
 ((refine Au ?_;repeat' constructor)<;>intros<;>refine aP ?_)
 refine .inr (.inl ⟨_,_,_,_,rfl,fun _=>⟨Dl σ' A t.length g (fun i=>(sA t i).length) (by omega) dQ,?_⟩,fun h=>by cases h⟩)
 rintro res iX rfl
 refine aH ?_
 ((refine Au ?_;repeat' constructor)<;>intros<;>refine aP ?_)
 have hb:Js t=(List.range t.length).map fun i=>sA t (t.length-1-i):=rfl
 rw[hb]
 refine Dj (cl:=fun i=>.own (g (t.length-1-i)) 0 (sA t (t.length-1-i)).length) (cu dQ) fun i hi=>.inr ⟨_,rfl,?_⟩
 obtain⟨_,h2,_⟩:=hL.own (t.length-1-i) (.inl rfl) (by omega)
 rw[cx (.inl fun e=>?_)]
 ·exact h2
 ·rw[<-e,dQ]at h2;injection h2 with h2;injection h2 with h2;cases h2
theorem MR{t:ka}{k:Nat}(h:k<t.length):((Js t).map fun l=>[mZ l]).getD k []=[mZ (bwd t k)]:=getD_map (by simp[Js,h])
theorem Rv{t:ka}(h:valid t)(k:Nat):wd t k<=4000:=by
 by_cases hk:k<t.length
 ·exact(lZ h hk).2.1
 ·rw[wd,getD_none (by omega)];simp
theorem BQ{α β:Type}(l:List α)(f:α->β)(d:α):l.map f=(List.range l.length).map fun j=>f (l.getD j d):=by
 refine dv fun i=>?_
 by_cases hi:i<l.length
 ·simp[hi,ab]
 ·simp[hi,b_ (show l.length<=i by omega)]
theorem MS{t:ka}{k:Nat}(hk:k<t.length):(tz t k).map (fun l=>[iT l])=(List.range (wd t k)).map fun j=>[iT (meet ((fwd t k).getD j []) ((bwd t k).getD j []))]:=by
 rw[BQ _ _ [],ri hk]
 exact ea fun j hj=>by rw[tz,yM (by rw[nG];exact hj) (by rw[sb hk];exact hj)]
theorem MT(t:ka)(h:valid t):Pure Tryz.prog 160 [Af t] (GR (BB t)):=by
 refine et 42 (jo [jx 1 191 1 0,jn 2] [1] (.seq (.jC [0,2,1,3,4,5] [1] 1 [jk 8 1 1,jk 10 1 1] [jy 9 222 [8],jy 11 223 [10],jm 3 9,jm 4 11] [3,4]) (.seq (jo [jm 12 3,je 13 12,jc 14 0] [3,4,12,13,14] (.block 0 (.loop (jo [jt .lss 15 14 13] [3,4,12,13,14,15] (.seq (.cond (.t 15) .skip (.exit 0)) (.seq (.block 1 (jo [jm 16 14,ji 17 1 12 14,jl 18 17,jm 5 16,jm 6 18] [3,4,5,6,12,13,14] (jo [jm 19 6,je 20 19,jc 21 0] [3,4,5,6,12,13,14,20,21] (.block 2 (.loop (jo [jt .lss 22 21 20] [3,4,5,6,12,13,14,20,21,22] (.seq (.cond (.t 22) .skip (.exit 2)) (.seq (.block 3 (jo [jm 23 21,jm 7 23] [3,4,5,6,7,12,13,14,20,21] (.draw [jm 24 6,jm 25 7,jm 26 6,jm 27 7,ji 28 1 26 27,jl 29 28,jm 30 4,jm 31 5,ji 32 1 30 31,jl 33 32,jm 34 7,ji 35 1 33 34,jl 36 35,jy 37 224 [29,36],ji 38 1 24 25] [js 1 38 37] [3,4,5,6,12,13,14,20,21]))) (.ops [ju .add 39 21 1,jm 21 39] [3,4,5,6,12,13,14,20,21]))))))))) (.ops [ju .add 40 14 1,jm 14 40] [3,4,12,13,14]))))))) (jo [jm 41 3,jm 2 41] [2] .ret)))) [.t 2] Tryz.call160 Tryz.func160 ?_
 have hN:=h.1
 have Yp:=h.2.1
 have l7:(Js t).length=t.length:=by simp[Js]
 ((refine Au ?_;repeat' constructor)<;>intros<;>refine aP ?_)
 refine .inr ⟨_,_,_,_,rfl,uR [] t h,?_⟩
 rintro res σ0 ⟨ν,A,B,cl,g,Z_,rfl,hA,hL⟩
 have e1:t.length-1+1=t.length:=by omega
 have dQ:=hL.a
 rw[e1]at dQ
 rw[ea (f:=fun i=>[cl i]) (g:=fun i=>[AV.own (g i) 0 (wd t i)]) fun i hi=>by rw[(hL.own i (.inl rfl) (by omega)).1,nG]]at dQ
 have hgA:∀i,i<t.length->g i≠A:=fun i hi e=>by
  have h2:=(hL.own i (.inl rfl) (by omega)).2.1
  rw[e,dQ]at h2;injection h2 with h2;injection h2 with h2;cases h2
 have hgi:∀i j,i<t.length->j<t.length->i≠j->g i≠g j:=fun i j hi hj OV=>by
  rcases cm i j with h1|h1
  ·have:=hL.inj i j (.inl rfl) h1 (by omega);omega
  ·have:=hL.inj j i (.inl rfl) (by omega) (by omega);omega
 (repeat' ((first|refine vn rfl ?_|simp(disch:=omega) only[cB,aj]|refine bo (fun _=>?_) fun _=>?_|refine im fun _=>?_|((repeat refine si ?_);(first|((first|refine .inl ⟨_,_,_,_,rfl,fun _=>pu (ph t h),?_⟩|refine⟨_,_,_,_,rfl,fun _=>pu (ph t h),?_⟩);(first|refine o1 ?_|refine o4 ?_))|refine .inl ⟨_,_,_,_,rfl,pu (ph t h),?_⟩))|refine cF ?_|refine om ?_|refine an ?_|fail)<;>try simp only[zN,zT,zV,zS,zU,dC,ex,bu,bN,elems,cells,scalar,dH,bL,aX,aU,bJ,bI,Nat.reduceBEq,reduceAdd,reduceSub,reduceLT,reduceLeDiff,reduceMul,reduceEqDiff,reduceIte,dQ,a_]))
 all_goals try(exfalso;omega)
 refine aR.mT (α:={x:Nat×aG//x.1<=t.length/\x.2.at A 0=some ⟨45,1,(List.range t.length).map fun i=>[.own (g i) 0 (wd t i)],none⟩/\∀i,i<t.length->x.2.at (g i) 0=some ⟨56,1,(if i<x.1 then tz t i else fwd t i).map (fun l=>[iT l]),none⟩})
  [14] (fun x=>[(14,n x.1.1)]) (fun x=>x.1.2) (fun x=>t.length-x.1.1) ⟨(0,σ0),aQ _,dQ,fun i hi=>by rw[if_neg (by omega)];exact(hL.own i (.inl rfl) (by omega)).2.1⟩ ?_ rfl ?_
 ·(simp only[zN,zT,zV,zS,zU,dC,ex,bu,bN,elems,cells,scalar,dH,bL,aX,aU,bJ,bI,Nat.reduceBEq,reduceAdd,reduceSub,reduceLT,reduceLeDiff,reduceMul,reduceEqDiff,reduceIte];try simp)
 rintro⟨⟨k,τ⟩,hk,y1,y2⟩
 simp only at hk y1 y2
 simp only
 by_cases bP:k<t.length
 ·have gk:((List.range t.length).map fun i=>[AV.own (g i) 0 (wd t i)]).getD k []=[.own (g k) 0 (wd t k)]:=gG _ bP
  have yk:=y2 k bP
  rw[if_neg (f_ k),BQ _ _ [],nG]at yk
  have bk:=MR bP
  have hw:=Rv h k
  (repeat' ((first|refine vn rfl ?_|simp(disch:=omega) only[cB,aj]|refine bo (fun _=>?_) fun _=>?_|refine im fun _=>?_|refine cF ?_|refine om ?_|refine an ?_|fail)<;>try simp only[zN,zT,zV,zS,zU,dC,ex,bu,bN,elems,cells,scalar,dH,bL,aX,aU,bJ,bI,Nat.reduceBEq,reduceAdd,reduceSub,reduceLT,reduceLeDiff,reduceMul,reduceEqDiff,reduceIte,y1,gk,yk,a_]))
  all_goals try(exfalso;omega)
  refine aR.mT (α:={x:Nat×aG//x.1<=wd t k/\x.2.at A 0=some ⟨45,1,(List.range t.length).map fun i=>[.own (g i) 0 (wd t i)],none⟩/\(∀i,i<t.length->i≠k->x.2.at (g i) 0=some ⟨56,1,(if i<k then tz t i else fwd t i).map (fun l=>[iT l]),none⟩)/\
   x.2.at (g k) 0=some ⟨56,1,(List.range (wd t k)).map fun j=>[iT (if j<x.1 then meet ((fwd t k).getD j []) ((bwd t k).getD j [])else(fwd t k).getD j [])],none⟩})
   [21] (fun x=>[(21,n x.1.1)]) (fun x=>x.1.2) (fun x=>wd t k-x.1.1) ⟨(0,τ),aQ _,y1,fun i hi _=>y2 i hi,by simpa using yk⟩ ?_ rfl ?_
  ·(simp only[zN,zT,zV,zS,zU,dC,ex,bu,bN,elems,cells,scalar,dH,bL,aX,aU,bJ,bI,Nat.reduceBEq,reduceAdd,reduceSub,reduceLT,reduceLeDiff,reduceMul,reduceEqDiff,reduceIte];try simp)
  rintro⟨⟨j,τ⟩,hj,z1,z2,z3⟩
  simp only at hj z1 z2 z3
  simp only
  by_cases qz:j<wd t k
  ·have gj:((List.range (wd t k)).map fun m=>[iT (if m<j then meet ((fwd t k).getD m []) ((bwd t k).getD m [])else(fwd t k).getD m [])]).getD j []=[iT ((fwd t k).getD j [])]:=by rw[gG _ qz,if_neg (f_ j)]
   have bj:((bwd t k).map fun l=>[iT l]).getD j []=[iT ((bwd t k).getD j [])]:=getD_map (getD_some (by rw[sb bP];exact qz))
   have PW:=sb bP
   have Oq:=BO _ _ (ki (vO h k) j) (ki (BD h k) j)
   (repeat' ((first|refine vn rfl ?_|simp(disch:=omega) only[cB,aj]|refine bo (fun _=>?_) fun _=>?_|refine im fun _=>?_|((repeat refine si ?_);(first|((first|refine .inl ⟨_,_,_,_,rfl,fun _=>pu Oq,?_⟩|refine⟨_,_,_,_,rfl,fun _=>pu Oq,?_⟩);(first|refine o1 ?_|refine o4 ?_))|refine .inl ⟨_,_,_,_,rfl,pu Oq,?_⟩))|refine cF ?_|refine om ?_|refine an ?_|fail)<;>try simp only[zN,zT,zV,zS,zU,dC,ex,bu,bN,elems,cells,scalar,dH,bL,aX,aU,bJ,bI,Nat.reduceBEq,reduceAdd,reduceSub,reduceLT,reduceLeDiff,reduceMul,reduceEqDiff,reduceIte,z1,z3,gj,bk,bj,l7,a_]))
   all_goals try(exfalso;omega)
   generalize zt:aG.cZ τ (g k) 0 _=tU
   have w1:∀q,q≠g k->tU.at q 0=τ.at q 0:=fun q hq=>by rw[<-zt,cx (.inl fun e=>hq e.symm)]
   have w2:tU.at (g k) 0=some ⟨56,1,((List.range (wd t k)).map fun m=>[iT (if m<j then meet ((fwd t k).getD m []) ((bwd t k).getD m [])else(fwd t k).getD m [])]).set j [iT (meet ((fwd t k).getD j []) ((bwd t k).getD j []))],none⟩:=by rw[<-zt,cu z3]
   refine⟨⟨(j+1,tU),qz,?_,fun i hi AA=>?_,?_⟩,by simp,rfl,by simp only;omega⟩
   ·simp only;rw[w1 _ (hgA k bP).symm];exact z1
   ·simp only;rw[w1 _ (hgi i k hi bP AA)];exact z2 i hi AA
   ·simp only
    rw[w2,kZ]
    refine congrArg (fun z=>some (⟨56,1,z,none⟩:Ob)) (ea fun m hm=>?_)
    by_cases hmj:m=j
    ·subst hmj;simp
    ·rw[if_neg hmj]
     by_cases yu:m<j
     ·rw[if_pos yu,if_pos (by omega)]
     ·rw[if_neg yu,if_neg (by omega)]
  ·obtain rfl:j=wd t k:=by omega
   (repeat' ((first|refine vn rfl ?_|simp(disch:=omega) only[cB,aj]|refine bo (fun _=>?_) fun _=>?_|refine im fun _=>?_|refine cF ?_|refine om ?_|refine an ?_|fail)<;>try simp only[zN,zT,zV,zS,zU,dC,ex,bu,bN,elems,cells,scalar,dH,bL,aX,aU,bJ,bI,Nat.reduceBEq,reduceAdd,reduceSub,reduceLT,reduceLeDiff,reduceMul,reduceEqDiff,reduceIte,z1,z3,a_]))
   all_goals try(exfalso;omega)
   refine⟨⟨(k+1,τ),bP,z1,fun i hi=>?_⟩,by simp,rfl,by simp only;omega⟩
   simp only
   by_cases AA:i=k
   ·subst AA
    rw[if_pos (by omega),MS hi,z3]
    exact congrArg (fun z=>some (⟨56,1,z,none⟩:Ob)) (ea fun m hm=>by rw[if_pos hm])
   ·rw[z2 i hi AA]
    by_cases ON:i<k
    ·rw[if_pos ON,if_pos (by omega)]
    ·rw[if_neg ON,if_neg (by omega)]
 ·obtain rfl:k=t.length:=by omega
  (repeat' ((first|refine vn rfl ?_|simp(disch:=omega) only[cB,aj]|refine bo (fun _=>?_) fun _=>?_|refine im fun _=>?_|refine cF ?_|refine om ?_|refine an ?_|fail)<;>try simp only[zN,zT,zV,zS,zU,dC,ex,bu,bN,elems,cells,scalar,dH,bL,aX,aU,bJ,bI,Nat.reduceBEq,reduceAdd,reduceSub,reduceLT,reduceLeDiff,reduceMul,reduceEqDiff,reduceIte,y1,a_]))
  all_goals try(exfalso;omega)
  refine Dj y1 fun i hi=>.inr ⟨g i,by rw[ri hi],?_⟩
  have:=y2 i hi
  rwa[if_pos hi]at this
theorem MU{t:ka}{k:Nat}(h:k<t.length):((Mh t).map fun l=>[mZ l]).getD k []=[mZ (fwd t k)]:=getD_map (by simp[Mh,h])
theorem MV(t:ka):(Mh t).length=t.length:=by simp[Mh]
theorem A3(t:ka)(h:valid t):Pure Tryz.prog 255 [Af t] (bl (tC t)):=by
 refine et 12 (jo [jx 1 191 1 0,jb 2 false] [1] (.seq (.draw [jk 3 1 1,jy 4 222 [3],jf 5 0 1,jl 6 5,je 7 6,ju .sub 8 7 1,ji 9 1 4 8,jl 10 9,jy 11 296 [10],jm 2 11] [] [2]) .ret)) [.t 2] Tryz.call255 Tryz.func255 ?_
 have h1:=h.1
 have h2:=h.2.1
 have hg:=MU (t:=t) (k:=t.length-1) (by omega)
 have hi:((t.length:Int)-1).toNat=t.length-1:=by omega
 have hl:=MV t
 have hw:=Rv h (t.length-1)
 have hs:=JU (fwd t (t.length-1)) (by rw[nG];omega) (fun x hx=>by have:=pG (vO h _ x hx);omega)
 ((refine Az (aa @hg (aa @hi @hl)) (aa (Dk t h) @hs) ?_;repeat' constructor)<;>intros<;>refine aP ?_)
 all_goals exact Fq
theorem A4(t:ka)(hs:E0 t):Pure Tryz.prog 215 [Af t] (.iu [bl (tr (valid t)&&tC t),n (if tr (valid t)=true then 0 else 40)]):=by
 refine et 12 (jo [jx 1 191 1 0,jb 2 false,jc 3 0] [1] (.seq (jo [jk 5 1 1,jy 6 221 [5],jm 4 6] [1,4] (jo [jm 7 4,ju .neq 8 7 0] [1,4,8] (.cond (.t 8) (jo [jm 9 4,jb 2 false,jm 3 9] [2,3] .ret) .skip))) (jo [jk 10 1 1,jy 11 255 [10],jm 2 11,jc 3 0] [2,3] .ret))) [.t 2,.t 3] Tryz.call215 Tryz.func215 ?_
 have hc:=zk t hs
 by_cases hv:valid t
 ·rw[tE hv]at hc|-
  simp only[if_true,ga]at hc|-
  ((refine Ay (aa @hc (A3 t hv)) ?_;repeat' constructor)<;>intros<;>refine aP ?_)
  exact Fq
 ·rw[yN hv]at hc|-
  simp only[bw,if_false,gq]at hc|-
  ((refine Ay @hc ?_;repeat' constructor)<;>intros<;>refine aP ?_)
  exact Fq
end Go.Proofs.YtgopgjnfhkoomaaGreat
