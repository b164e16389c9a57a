/- Part 20 of the texts: abstract values over the walk; contracts. -/
import Derived.Test.YtgopgjnfhkoomaaGreatBu19
import Derived.Test.YtgopgjnfhkoomaaGreatRows
set_option linter.unusedVariables false
set_option linter.unusedSimpArgs false
namespace Go.Proofs.YtgopgjnfhkoomaaGreat
open Go.Abs
open Nat (reduceAdd reduceSub reduceLT reduceLeDiff reduceMul reduceEqDiff)
set_option maxHeartbeats 4000000
set_option maxRecDepth 100000
structure aeR where
 a:AV
 st:j3
 h:Sp
 tm:List Sp
abbrev aeR.cs(s:aeR):List AV:=[s.a,n s.st.id,n s.st.x,n s.st.y,Rl s.st.cz,n s.h.lo,n s.h.hi,iT s.tm]
abbrev abM(N:Nat)(U:List (List Sp))(B:List (List Int))(V u:List Int):Prop:=(∀i,i<N->Mem (u.getD i 0) (U.getD i [])/\V.getD i 0<=u.getD i 0)/\∀i k,i<N->k<N->u.getD k 0-u.getD i 0<=(B.getD i []).getD k 0
structure RgI(R:List AV)(S:List aeR)(B:List (List Int)):Prop where
 pv:bC (.bZ R 0)
 s:R[9]?=some (.sl 1 (S.map fun s=>[.bZ s.cs 0]))
 b:R[10]?=some (.sl 1 (B.map fun r=>[l9 r]))
 sn:S.length<=64
 bl:B.length=S.length
 br:∀r∈B,r.length=S.length/\∀x∈r,0<=x/\x<=300000
 sh:∀s∈S,bC (.bZ s.cs 0)/\ke s.h 0 4000
def CS:List Sp->Int->Int×Bool
 | [],_=>(0,false)
 |s::r,x=>if x<=s.hi then(max x s.lo,true)else CS r x
theorem abN(l:List Sp)(hl:l.length<=1000000)(x:Int):Pure Tryz.prog 234 [ec l,n x] (.iu [n (CS l x).1,bl (CS l x).2]):=by
 refine jX Tryz.f234.eq_1 [] [.l [1,8,9,10]] ?_
 refine Au ?_;intros
 refine aR.lr (α:={y:Nat×aG//y.1<=l.length/\CS (l.drop y.1) x=CS l x}) [10] (fun y=>[(10,n y.1.1)]) (fun y=>y.1.2) (fun y=>l.length-y.1.1) ⟨(0,[]),aQ _,rfl⟩ ?_
 rintro⟨⟨i,μ⟩,hi,hI⟩
 simp only at hi hI
 by_cases bP:i<l.length
 ·obtain⟨s,hs⟩:∃s,l[i]?=some s:=⟨_,ae bP⟩
  have cX:(l.map Sp.cs).getD i []=Sp.cs s:=getD_map hs
  rw[drop_cons hs,CS]at hI
  (refine Ax @cX ?_ (CM ?_)<;>intros)
  ·rename_i hc
   rw[if_pos hc]at hI
   rw[<-hI]
   exact Fq
  ·rename_i hc
   rw[if_neg hc]at hI
   exact⟨⟨(i+1,_),bP,hI⟩,by simp,rfl,by simp only;omega⟩
 ·obtain rfl:i=l.length:=by omega
  rw[c_,CS]at hI
  refine Au ?_;intros
  rw[<-hI]
  exact Fq
theorem XM{x:Int}:∀{l:List Sp},Norm l->((CS l x).2=true->x<=(CS l x).1/\Mem (CS l x).1 l)/\∀v,Mem v l->x<=v->(CS l x).2=true/\(CS l x).1<=v
 | [],_=>⟨fun h=>(by cases h),fun v h=>absurd h Mem.nil⟩
 |s::r,hn=>by
  have ih:=XM (x:=x) (l:=r) (ab2 hn)
  have h1:=hn.1
  unfold CS
  by_cases hc:x<=s.hi
  ·rw[if_pos hc]
   refine⟨fun _=>⟨by simp only;omega,s,by simp,by simp only;omega,by simp only;omega⟩,fun v hv hx=>⟨rfl,?_⟩⟩
   rcases mem_cons.1 hv with h|⟨t,ht,h⟩
   ·show max x s.lo<=v;omega
   ·have:=hn.2.1 t ht
    show max x s.lo<=v;omega
  ·rw[if_neg hc]
   refine⟨fun h=>⟨(ih.1 h).1,mem_cons.2 (.inr (ih.1 h).2)⟩,fun v hv hx=>ih.2 v ?_ hx⟩
   rcases mem_cons.1 hv with h|h
   ·omega
   ·exact h
theorem ac0(σ:aG)(h:Nat)(V:List Int)(hh:σ.at h 0=some (Q2 V))(h0:V≠[])(hl:V.length<=1000000):eY Tryz.prog 203 [.own h 0 V.length] σ (fun r σ'=>r=.own σ.length 0 V.length/\σ'=σ++[some [Q2 V]]):=by
 have hc:eY Tryz.prog 203 [l9 V] [] (uI [] 3 1 (V.map fun z=>[n z])):=by
  refine Fi Tryz.f203.eq_1 [5] [] ?_
  have iw:(V.map fun z=>[n z])≠[]:=by simpa using h0
  refine Au ?_;intros
  refine⟨⟨fun e he=>by rw[getD_map (ae he)];rfl,by omega⟩,?_⟩
  refine Au ?_;intros
  exact .mk [] (by simp) rfl
 have h1:=eY.over (args:=[.own h 0 V.length]) (hc.mono fun r ν ⟨Ru,e1,e2⟩=>⟨e1,Ru,e2⟩) ⟨bO.gZ (T:=3) (cs:=fun z=>[n z]) hh rfl (by decide) (fun a=>by simp) (fun a=>rfl),trivial⟩ (fun e j he hj=>?_) fun e he=>?_
 ·simpa using h1
 ·have mB:e<V.length:=by simpa using he
  rw[getD_map (ae mB)]
  obtain rfl:j=0:=by omega
  exact⟨_,rfl⟩
 ·have mB:e<V.length:=by simpa using he
  rw[getD_map (ae mB)];rfl
theorem abr(R:List AV)(S:List aeR)(B:List (List Int))(hR:RgI R S B)(σ:aG):eY Tryz.prog 175 [.bZ R 0] σ (fun r σ'=>r=.own σ.length 0 S.length/\σ'=σ++[some [Q2 (List.replicate S.length 0)]]):=by
 refine Fi Tryz.f175.eq_1 [] [] ?_
 have hs:=hR.s
 have Dn:=hR.pv
 have hsn:=hR.sn
 refine Ax @hs ?_;intros
 simp
structure UOk(N:Nat)(U:List (List Sp)):Prop where
 len:U.length=N
 nm:∀l∈U,Norm l/\∀s∈l,0<=s.lo/\s.hi<=18000
theorem UOk.small{N:Nat}{U:List (List Sp)}(h:UOk N U){l:List Sp}(hl:l∈U):l.length<=1000000:=by
 have:=(h.nm l hl).1.q9 (h.nm l hl).2
 omega
structure aeW(N:Nat)(U:List (List Sp))(B:List (List Int))(V0 V:List Int):Prop where
 len:V.length=N
 lo:∀i,i<N->0<=V0.getD i 0/\V0.getD i 0<=V.getD i 0
 up:∀i,i<N->V.getD i 0<=18001
 le:∀u,abM N U B V0 u->∀i,i<N->V.getD i 0<=u.getD i 0
inductive acy(σ:aG)(N:Nat)(U:List (List Sp))(B:List (List Int))(V0:List Int):AV->aG->Prop
 |no(ν:aG)(h:∀u,¬abM N U B V0 u):acy σ N U B V0 (.iu [.v (.slice none 0 0),bl false]) (σ++ν)
 |yes(V:List Int)(h:aeW N U B V0 V)(hu:∀i,i<N->V.getD i 0<=18000):acy σ N U B V0 (.iu [.own σ.length 0 N,bl true]) (σ++[some [Q2 V]])
theorem XN(R:List AV)(S:List aeR)(B:List (List Int))(hR:RgI R S B)(hS:S≠[])(σ:aG)(U:List (List Sp))(hU:UOk S.length U)(h:Nat)(V0:List Int)(hh:σ.at h 0=some (Q2 V0))(vp:V0.length=S.length)(hb:∀i,i<S.length->0<=V0.getD i 0/\V0.getD i 0<=18001):eY Tryz.prog 174 [.bZ R 0,.sl 1 (U.map fun x=>[iT x]),.own h 0 S.length] σ (acy σ S.length U B V0):=by
 refine Fi Tryz.f174.eq_1 [] [.l [0,1,8],.l [0,1,8,16,17],.l [0,1,8,9,10,11,16,17,33,34],.d 17,.d 14] ?_
 have Dn:=hR.pv
 have hrb:=hR.b
 have hsn:=hR.sn
 have l7:=hR.bl
 have hUl:=hU.len
 obtain⟨N,hN⟩:∃N,N=S.length:=⟨_,rfl⟩
 have hN0:0<N:=by rw[hN];exact eQ.2 hS
 have ow:=ac0 σ h V0 hh (by intro e;rw[e]at vp;simp at vp;omega) (by omega)
 rw[vp]at ow
 have Y7:=hR.br
 rw[<-hN]at ow vp hb hU hsn l7 hUl Y7|-
 refine Au ?_;intros
 refine .inr (.inl ⟨_,_,_,_,rfl,fun _=>⟨ow,?_⟩,fun h=>by cases h⟩)
 rintro r σ' ⟨rfl,rfl⟩
 refine aH ?_
 refine adL ?_
 obtain⟨Q,hQ⟩:∃Q:List Int->aG,∀V,Q V=σ++[some [Q2 V]]:=⟨_,fun _=>rfl⟩
 have q1:∀V,aG.at (Q V) σ.length 0=some (Q2 V):=fun V=>by rw[hQ,dV];rfl
 have q2:∀V V',aG.cZ (Q V) σ.length 0 (Q2 V')=Q V':=fun V V'=>by rw[hQ,hQ,qZ];rfl
 have Uu:Q V0=σ++[some [Q2 V0]]:=hQ V0
 refine Au ?_;intros
 refine aR.le (α:={V:List Int//aeW N U B V0 V}) [] (fun _=>[]) (fun V=>Q V.1) (fun V=>room 18001 V.1) ⟨V0,vp,fun i hi=>⟨(hb i hi).1,eZ _⟩,fun i hi=>(hb i hi).2,fun u hu i hi=>(hu.1 i hi).2⟩ Uu.symm ?_
 rintro⟨V,hV⟩
 simp only
 have hl:=hV.len
 have g1:=q1 V
 refine Ax (aa @g1 @hl) ?_;intros
 refine aR.lr (α:={i:Nat//i<=N/\∀m,m<i->V.getD m 0<=18000}) [17] (fun i=>[(17,n i.1)]) (fun _=>Q V) (fun i=>N-i.1) ⟨0,aQ _,by simp⟩ ?_
 rintro⟨i,hi,hA⟩
 by_cases bP:i<N
 ·have r1:=XA (l:=V) (i:=i) (by omega)
  obtain⟨W,hW⟩:∃W,U[i]?=some W:=⟨_,ae (by omega)⟩
  have cX:(U.map fun x=>[iT x]).getD i []=[iT W]:=getD_map hW
  have hWm:=ao hW
  have hWd:U.getD i []=W:=by rw[ab,hW];rfl
  have hnm:=hU.nm W hWm
  have l_:=abN W (hU.small hWm) (V.getD i 0)
  have Oi:=XM (x:=V.getD i 0) hnm.1
  have hvi:=hV.lo i bP
  have hvu:=hV.up i bP
  have Rg:(CS W (V.getD i 0)).2=true->(CS W (V.getD i 0)).1<=18000:=fun e=>by
   obtain⟨s,hs,h1,h2⟩:=(Oi.1 e).2
   have:=hnm.2 s hs
   omega
  have hn0:(CS W (V.getD i 0)).2=false->(CS W (V.getD i 0)).1=0:=by
   clear l_ Oi Rg
   generalize V.getD i 0=x
   clear hnm hWm hW cX hWd
   induction W with
   |nil=>intro _;rfl
   |cons s r ih=>
    unfold CS;split
    ·intro h;cases h
    ·exact ih
  obtain⟨nx,adE⟩:∃nx,nx=CS W (V.getD i 0):=⟨_,rfl⟩
  rw[<-adE]at l_ Oi Rg hn0
  obtain⟨m0,ok⟩:=nx
  simp only at l_ Oi Rg hn0
  obtain⟨C,hC⟩:∃C,B[i]?=some C:=⟨_,ae (by omega)⟩
  have ada:(B.map fun r=>[l9 r]).getD i []=[l9 C]:=getD_map hC
  have hCd:B.getD i []=C:=by rw[ab,hC];rfl
  obtain⟨hCl,hCb⟩:=Y7 C (ao hC)
  refine Az (aa @g1 (aa @hl (aa @r1 @cX))) @l_ ?_;intros
  have hm0:0<=m0/\m0<=18001:=by
   cases ok with
   |true=>have:=Rg rfl;have:=(Oi.1 rfl).1;omega
   |false=>have:=hn0 rfl;omega
  refine aR.VW (α:={x:Nat×Int//x.1<=N/\m0<=x.2/\x.2<=18001/\(ok=true->∀u,abM N U B V0 u->x.2<=u.getD i 0)/\∀k,k<x.1->V.getD k 0-C.getD k 0<=x.2}) [10,34] (fun x=>[(10,n x.1.2),(34,n x.1.1)]) (fun x=>N-x.1.1) ⟨(0,m0),aQ _,eZ _,hm0.2,fun e u hu=>by
   have h1:=hu.1 i bP
   rw[hWd]at h1
   exact(Oi.2 _ h1.1 (hV.le u hu i bP)).2,by simp⟩ ?_ ?_
  ·exact Sb_
  rintro⟨⟨k,m⟩,hk,Gr,OY,Lu,hm4⟩
  simp only at hk Gr OY Lu hm4
  by_cases qz:k<N
  ·have r2:=XA (l:=V) (i:=k) (by omega)
   have r3:=XA (l:=C) (i:=k) (by omega)
   have b1:=hCb (C.getD k 0) (by rw[ab,ae (by omega)];exact cv _)
   have b2:=hV.up k qz
   have b3:=hV.lo k qz
   have ew:IntKind.wrap .i64 (V.getD k 0-C.getD k 0)=V.getD k 0-C.getD k 0:=cB _ (by omega) (by omega)
   refine Ax (aa @g1 (aa @hl (aa @r2 (aa @r3 (aa @hrb (aa @ada (aa @hCl @ew))))))) ?_;intros
   refine⟨⟨(k+1,max m (V.getD k 0-C.getD k 0)),qz,by dsimp only;omega,by dsimp only;omega,fun e u hu=>?_,fun q hq=>?_⟩,by simp,by simp only;omega⟩
   ·have h1:=Lu e u hu
    have h2:=hu.2 i k bP qz
    have h3:=hV.le u hu k qz
    rw[hCd]at h2
    dsimp only;omega
   ·dsimp only at hq|-
    by_cases e:q=k
    ·subst e;omega
    ·have:=hm4 q (by omega);omega
  ·obtain rfl:k=N:=by omega
   cases ok with
   |false=>
    refine Au ?_;intros
    rw[hQ]
    refine .no [some [Q2 V]] fun u hu=>?_
    have h1:=hu.1 i bP
    rw[hWd]at h1
    have:=(Oi.2 _ h1.1 (hV.le u hu i bP)).1
    cases this
   |true=>
    have h0:=(Oi.1 rfl).1
    by_cases iw:m=V.getD i 0
    ·have h1:=Rg rfl
     refine Ax (aa @g1 (aa @hl @r1)) ?_;intros
     exact⟨⟨i+1,bP,od hA (by omega)⟩,by simp,by simp only;omega⟩
    ·have g2:=q2 V (V.set i m)
     have nV:(V.map fun z=>[n z]).set i [n m]=(V.set i m).map fun z=>[n z]:=by simp
     refine Ax (aa @g1 (aa @g2 (aa @hl (aa @r1 @nV)))) ?_;intros
     refine⟨⟨V.set i m,by rw[cK,hl],fun q hq=>?_,fun q hq=>?_,fun u hu q hq=>?_⟩,by simp,Tf (by omega) (by omega) (by omega)⟩
     ·have:=hV.lo q hq
      rw[CN (by omega)];split
      ·rename_i e;subst e;omega
      ·exact this
     ·have:=hV.up q hq
      rw[CN (by omega)];split<;>omega
     ·have h1:=hV.le u hu q hq
      rw[CN (by omega)];split
      ·rename_i e;subst e;exact Lu rfl u hu
      ·exact h1
 ·obtain rfl:i=N:=by omega
  refine Ax (aa @g1 @hl) ?_;intros
  rw[hQ]
  exact .yes V hV hA
theorem abt{l:Int}{h:Sp}(hh:ke h 0 4000):0<=(u5 l h).lo/\(u5 l h).lo<=(u5 l h).hi/\(u5 l h).hi<=18000:=by
 obtain⟨a1,a2,a3⟩:=hh
 unfold u5
 split
 ·rename_i hl
  have h1:=XR hl.1 hl.2 a1 (by omega)
  have h2:=XR hl.1 hl.2 (show 0<=h.hi by omega) a3
  have h3:=Kh hl.1 (eZ l) a1 a2
  unfold Mh;simp only;omega
 ·simp
theorem Ui(R:List AV)(S:List aeR)(B:List (List Int))(hR:RgI R S B)(i:Nat)(s:aeR)(hs:S[i]?=some s)(l:Int):Pure Tryz.prog 105 [.bZ R 0,n i,n l] (.agg (u5 l s.h).cs):=by
 refine jX Tryz.f105.eq_1 [] [] ?_
 have Dn:=hR.pv
 have h9:=hR.s
 have hsn:=hR.sn
 obtain⟨V',T2⟩:=hR.sh s (ao hs)
 have bP:i<S.length:=(ai.1 hs).1
 have cX:(S.map fun s=>[AV.bZ s.cs 0]).getD i []=[.bZ s.cs 0]:=getD_map hs
 obtain⟨e,he⟩:=ab5 l s.h T2
 generalize u5 l s.h=E at*
 refine Az (aa @h9 @cX) @he ?_;intros
 exact Fq
theorem abu(R:List AV)(S:List aeR)(B:List (List Int))(hR:RgI R S B):Pure Tryz.prog 103 [.bZ R 0] (Ho (S.map aeR.tm)):=by
 refine jX Tryz.f103.eq_1 [] [.l [3,9,10,11]] ?_
 have Dn:=hR.pv
 have h9:=hR.s
 have hsn:=hR.sn
 have T2:=hR.sh
 refine Ax @h9 ?_;intros
 refine aR.oC 56 1 3 rfl ?_
 refine aR.lr (α:={i:Nat//i<=S.length}) [3,11] (fun i=>[(3,.own 0 0 i.1),(11,n i.1)]) (fun i=>[some [⟨56,1,((S.take i.1).map aeR.tm).map (fun l=>[iT l]),none⟩]]) (fun i=>S.length-i.1) ⟨0,aQ _⟩ ?_
 rintro⟨i,hi⟩
 simp only
 by_cases bP:i<S.length
 ·obtain⟨s,hs⟩:∃s,S[i]?=some s:=⟨_,ae bP⟩
  have cX:(S.map fun s=>[AV.bZ s.cs 0]).getD i []=[.bZ s.cs 0]:=getD_map hs
  have V':=(T2 s (ao hs)).1
  have l_:(S.take (i+1)).map aeR.tm=(S.take i).map aeR.tm++[s.tm]:=by rw[ey hs];simp
  have xM:((S.take i).map aeR.tm).length=i:=by simp;omega
  generalize(S.take i).map aeR.tm=A at*
  generalize hB:(S.take (i+1)).map aeR.tm=B' at*
  refine Ax (aa @cX @xM) ?_;intros
  exact⟨⟨i+1,bP⟩,by simp,by simp only[hB,l_];simp,by simp only;omega⟩
 ·obtain rfl:i=S.length:=by omega
  rw[aI]
  refine Au ?_;intros
  exact bO.gZ (T:=56) (cs:=fun l=>[iT l]) rfl (by simp) (by decide) (fun a=>by simp) (fun a=>rfl)
def nums(s:Sp):List Int:=(List.range (s.hi+1-s.lo).toNat).map fun(j:Nat)=>s.lo+j
theorem abv{s:Sp}{j:Nat}(h:s.lo+j<=s.hi):(nums s)[j]?=some (s.lo+j):=by
 unfold nums
 rw[aV,cH (by omega)];rfl
theorem Py(s:Sp):(nums s).length=(s.hi+1-s.lo).toNat:=by simp[nums]
theorem VZ{s:Sp}{x:Int}:x∈nums s↔s.lo<=x/\x<=s.hi:=by
 unfold nums
 simp only[aO,bc]
 constructor
 ·rintro⟨j,h,rfl⟩;omega
 ·intro h;exact⟨(x-s.lo).toNat,by omega,by omega⟩
def FH(lv:List Sp)(h:Sp):List Sp:=lv.flatMap fun s=>(nums s).map fun x=>u5 x h
theorem abw{lv:List Sp}{h:Sp}(hh:ke h 0 4000):∀s∈FH lv h,s.lo<=s.hi/\0<=s.lo/\s.hi<=18000:=by
 intro s hs
 obtain⟨t,_,hs⟩:=fc.1 hs
 obtain⟨x,_,rfl⟩:=aO.1 hs
 have:=abt (l:=x) hh
 omega
theorem abO(R:List AV)(S:List aeR)(B:List (List Int))(hR:RgI R S B)(i:Nat)(s:aeR)(hs:S[i]?=some s)(lv:List Sp)(HZ:MB lv):Pure Tryz.prog 176 [.bZ R 0,n i,ec lv] (iT (jI [] (FH lv s.h))):=by
 refine jX Tryz.f176.eq_1 [] [.l [0,1,7,11,12,13],.l [0,1,7,9,10,11,12,13]] ?_
 have Dn:=hR.pv
 have Xp:=Ui R S B hR i s hs
 have Dc:=abw (lv:=lv) (hR.sh s (ao hs)).2
 have adJ:=MC HZ
 obtain⟨Q,hQ⟩:∃Q:Nat->List Sp,∀k,Q k=FH (lv.take k) s.h:=⟨_,fun _=>rfl⟩
 have hQe:FH lv s.h=Q lv.length:=by rw[hQ,aI]
 have l_:∀k t,lv[k]?=some t->Q (k+1)=Q k++(nums t).map fun x=>u5 x s.h:=fun k t h=>by rw[hQ,hQ,ey h];simp[FH]
 have hlen:∀k,k<=lv.length->(Q k).length<=202001*k:=fun k=>by
  induction k with
  |zero=>intro _;rw[hQ];simp[FH]
  |succ k ih=>
   intro hk
   have e1:lv[k]?=some lv[k]:=ae (by omega)
   have h1:=ih (by omega)
   have h2:=HZ.2 _ (ao e1)
   rw[l_ k _ e1,aM,aF,Py];omega
 rw[hQe]at Dc|-
 generalize s.h=H at*
 clear hQe
 refine Au ?_;intros
 refine aR.oC 52 2 7 rfl ?_
 refine aR.mT (α:={x:Nat×aG//x.1<=lv.length}) [7,13] (fun x=>[(7,.own 0 0 (Q x.1.1).length),(13,n x.1.1)]) (fun x=>some [jJ (Q x.1.1)]::x.1.2) (fun x=>lv.length-x.1.1) ⟨(0,[]),aQ _⟩ ?_ ?_ ?_
 ·(simp only[zN,zT,zV,zS,zU,dC,ex,bu,bN,elems,cells,scalar,dH,bL,aX,aU,bJ,bI,Nat.reduceBEq,reduceAdd,reduceSub,reduceLT,reduceLeDiff,reduceMul,reduceEqDiff,reduceIte];try simp)
  rw[hQ];rfl
 ·rw[hQ];rfl
 rintro⟨⟨k,ν⟩,hk⟩
 simp only at hk
 simp only
 have xM:=hlen k hk
 by_cases bP:k<lv.length
 ·obtain⟨t,ht⟩:∃t,lv[k]?=some t:=⟨_,ae bP⟩
  have cX:(lv.map Sp.cs).getD k []=Sp.cs t:=getD_map ht
  have hN:=l_ k t ht
  have htb:=HZ.2 t (ao ht)
  have htn:=HZ.1.ne t (ao ht)
  have Oi:=Py t
  generalize Q k=A at*
  generalize hB:Q (k+1)=B' at*
  refine Ax @cX ?_;intros
  refine aR.lr (α:={j:Nat//(j:Int)<=t.hi+1-t.lo}) [7,10] (fun j=>[(7,.own 0 0 (A++((nums t).take j.1).map fun x=>u5 x H).length),(10,n (t.lo+j.1))]) (fun j=>some [jJ (A++((nums t).take j.1).map fun x=>u5 x H)]::(ν++[some [⟨52,2,[Sp.cs t],none⟩]])) (fun j=>(t.hi+1-t.lo).toNat-j.1) ⟨0,by omega⟩ ?_
  rintro⟨j,hj⟩
  simp only
  have hX:∀(x:Option (List Ob)) (o:Ob) (r:aG),aG.at (x::(ν++some [o]::r)) (List.length ν+1) 0=some o:=fun x o r=>by rw[cQ,dV];rfl
  by_cases qz:t.lo+j<=t.hi
  ·have Xp:=Xp (t.lo+j)
   have aad:((nums t).take (j+1)).map (fun x=>u5 x H)=((nums t).take j).map (fun x=>u5 x H)++[u5 (t.lo+j) H]:=by rw[ey (abv qz)];simp
   have CY:(((nums t).take j).map fun x=>u5 x H).length=j:=by simp;omega
   generalize u5 (t.lo+j) H=E at*
   generalize((nums t).take j).map (fun x=>u5 x H)=D at*
   generalize hD:((nums t).take (j+1)).map (fun x=>u5 x H)=D' at*
   obtain⟨F,hF⟩:∃F,F=A++D:=⟨_,rfl⟩
   have hFl:F.length=A.length+D.length:=by rw[hF];simp
   rw[<-hF]
   refine Az @hX @Xp ?_;intros
   exact⟨⟨j+1,by omega⟩,by simp[hD,aad,hF];omega,by simp only[hD,aad,hF];try simp,by simp only;omega⟩
  ·have hje:(nums t).take j=nums t:=cD (by omega)
   rw[hje]
   refine Ax @hX ?_;intros
   exact⟨⟨(k+1,_),bP⟩,by simp[hB,hN],by simp only[hB,hN];rfl,by simp only;omega⟩
 ·obtain rfl:k=lv.length:=by omega
  have hT:=CQ (Q lv.length) (by omega) (fun s hs=>(Dc s hs).1) fun s hs=>by have:=Dc s hs;omega
  generalize Q lv.length=A at*
  refine adM ?_;intros
  refine adM ?_;intros
  all_goals try(exfalso;omega)
  refine aR.H_ (t:=7) (f:=0) (n:=A.length) (o:=jJ A) rfl rfl (by simp) (by simp) ?_
  refine Ay @hT ?_;intros
  exact Fq
def zH(U:List (List Sp))(S:List aeR):List (List Sp):=(U.zip S).map fun p=>jI [] (FH p.1 p.2.h)
theorem Q8(R:List AV)(S:List aeR)(B:List (List Int))(hR:RgI R S B)(U:List (List Sp))(hU:U.length=S.length)(HZ:∀l∈U,MB l):Pure Tryz.prog 102 [.bZ R 0,Ho U] (Ho (zH U S)):=by
 refine jX Tryz.f102.eq_1 [] [.l [0,5,8,9,10]] ?_
 have Dn:=hR.pv
 have hsn:=hR.sn
 have hCl:(zH U S).length=U.length:=by unfold zH;rw[aF,oG];omega
 refine Au ?_;intros
 refine aR.oC 56 1 5 rfl ?_
 refine aR.lr (α:={i:Nat//i<=U.length}) [5,10] (fun i=>[(5,.own 0 0 i.1),(10,n i.1)]) (fun i=>[some [⟨56,1,((zH U S).take i.1).map (fun l=>[iT l]),none⟩]]) (fun i=>U.length-i.1) ⟨0,aQ _⟩ ?_
 rintro⟨i,hi⟩
 simp only
 by_cases bP:i<U.length
 ·obtain⟨s,hs⟩:∃s,S[i]?=some s:=⟨_,ae (by omega)⟩
  obtain⟨l,hl⟩:∃l,U[i]?=some l:=⟨_,ae bP⟩
  have cX:(U.map fun x=>[iT x]).getD i []=[iT l]:=getD_map hl
  have hc:=abO R S B hR i s hs l (HZ l (ao hl))
  have hg:(zH U S)[i]?=some (jI [] (FH l s.h)):=by
   unfold zH
   rw[aV,(ir (z:=(l,s))).2 ⟨hl,hs⟩];rfl
  have l_:=ey hg
  have xM:((zH U S).take i).length=i:=by rw[bH];omega
  generalize jI [] (FH l s.h)=J at*
  generalize(zH U S).take i=A at*
  generalize hB:(zH U S).take (i+1)=B' at*
  refine Az (aa @cX @xM) @hc ?_;intros
  exact⟨⟨i+1,bP⟩,by simp,by simp only[hB,l_];simp,by simp only;omega⟩
 ·obtain rfl:i=U.length:=by omega
  rw[cD (by omega)]
  refine Au ?_;intros
  exact bO.gZ (T:=56) (cs:=fun l=>[iT l]) rfl (by simp[hCl]) (by decide) (fun a=>by simp) (fun a=>rfl)
theorem XO{U:List (List Sp)}{S:List aeR}(hU:U.length=S.length)(hS:∀s∈S,ke s.h 0 4000):UOk S.length (zH U S):=by
 refine⟨by unfold zH;rw[aF,oG];omega,fun l hl=>?_⟩
 obtain⟨⟨u,s⟩,hp,rfl⟩:=aO.1 hl
 have hb:=abw (lv:=u) (hS s (List.of_mem_zip hp).2)
 refine⟨rh _,Bz (rh _) fun v hv=>?_⟩
 obtain⟨t,ht,h1,h2⟩:=(tD _ v).1 hv
 have:=hb t ht
 omega
abbrev QH(S:List aeR)(B:List (List Int))(u:List Int):Prop:=abM S.length (zH (S.map aeR.tm) S) B (List.replicate S.length 0) u
structure RgL(S:List aeR):Prop where
 ne:S≠[]
 lv:∀s∈S,MB s.tm
theorem abP(R:List AV)(S:List aeR)(B:List (List Int))(hR:RgI R S B)(hL:RgL S)(u:List Int)(hu:QH S B u):Pure Tryz.prog 99 [.bZ R 0] (bl true):=by
 refine jX Tryz.f99.eq_1 [] [] ?_
 have Dn:=hR.pv
 have hsn:=hR.sn
 have ho:=abu R S B hR
 have hc:=Q8 R S B hR (S.map aeR.tm) (by simp) fun l hl=>by
  obtain⟨s,hs,rfl⟩:=aO.1 hl
  exact hL.lv s hs
 have hk:=XO (U:=S.map aeR.tm) (S:=S) (by simp) fun s hs=>(hR.sh s hs).2
 have ac1:=abr R S B hR []
 change abM S.length (zH (S.map aeR.tm) S) B (List.replicate S.length 0) u at hu
 generalize zH (S.map aeR.tm) S=U at*
 generalize S.map aeR.tm=T at*
 refine Ay (aa @ho @hc) ?_;intros
 refine .inr (.inl ⟨_,_,_,_,rfl,fun _=>⟨ac1,?_⟩,fun h=>by cases h⟩)
 rintro r σ' ⟨rfl,rfl⟩
 refine aH ?_
 refine adL ?_
 have hcm:=XN R S B hR hL.ne ([]++[some [Q2 (List.replicate S.length 0)]]) U hk 0 _ rfl (by simp) fun i hi=>by rw[ab,fl,if_pos hi];simp
 simp only[aK,bM]at hcm|-
 refine Au ?_;intros
 refine .inr (.inl ⟨_,_,_,_,rfl,fun _=>⟨hcm,?_⟩,fun h=>by cases h⟩)
 intro r σ' aau
 cases aau with
 |no _ h=>exact absurd hu (h u)
 |yes V h hu2=>
  refine aH ?_
  refine Au ?_;intros
  exact Fq
inductive ac2(S:List aeR)(B:List (List Int))(i:Nat):AV->aG->Prop
 |mk(m:List Sp)(hm:Norm m)(hb:∀s∈m,0<=s.lo/\s.hi<=18000)(h:∀u,QH S B u->Mem (u.getD i 0) m)(ν:aG):ac2 S B i (iT m) ν
theorem E_{N i:Nat}:(List.replicate N (0:Int)).getD i 0=0:=by
 rw[ab,fl];split<;>rfl
structure aeX(S:List aeR)(B:List (List Int))(i:Nat)(F:List Int)(O:List Sp):Prop where
 len:F.length=S.length
 zr:∀q,q<S.length->q≠i->F.getD q 0=0
 up:0<=F.getD i 0/\F.getD i 0<=18001
 ob:∀s∈O,s.lo<=s.hi/\0<=s.lo/\s.hi<=18000
 ol:(O.length:Int)<=F.getD i 0
 sol:∀u,QH S B u->Mem (u.getD i 0) O\/F.getD i 0<=u.getD i 0
theorem XC(R:List AV)(S:List aeR)(B:List (List Int))(hR:RgI R S B)(hL:RgL S)(i:Nat)(hi:i<S.length):eY Tryz.prog 101 [.bZ R 0,Ho (zH (S.map aeR.tm) S),n i] [] (ac2 S B i):=by
 refine Fi Tryz.f101.eq_1 [] [.l [0,1,2,7,8],.d 11] ?_
 have Dn:=hR.pv
 have hsn:=hR.sn
 have hk:=XO (U:=S.map aeR.tm) (S:=S) (by simp) fun s hs=>(hR.sh s hs).2
 have ac1:=abr R S B hR []
 have CU:∀u,QH S B u↔abM S.length (zH (S.map aeR.tm) S) B (List.replicate S.length 0) u:=fun u=>Iff.rfl
 generalize zH (S.map aeR.tm) S=U at*
 refine Au ?_;intros
 refine .inr (.inl ⟨_,_,_,_,rfl,fun _=>⟨ac1,?_⟩,fun h=>by cases h⟩)
 rintro r σ' ⟨rfl,rfl⟩
 refine aH ?_
 refine Au ?_;intros
 refine aR.oC 52 2 7 rfl ?_
 refine aR.lr (α:={x:List Int×List Sp×aG//aeX S B i x.1 x.2.1}) [7] (fun x=>[(7,.own 1 0 x.1.2.1.length)]) (fun x=>some [Q2 x.1.1]::some [jJ x.1.2.1]::x.1.2.2) (fun x=>(18001-x.1.1.getD i 0).toNat) ⟨(List.replicate S.length 0,[],[]),by simp,fun q _ _=>E_,by rw[E_];omega,by simp,by rw[E_];simp,fun u hu=>.inr (by rw[E_];have:=(hu.1 i hi).2;rw[E_]at this;exact this)⟩ ?_
 rintro⟨⟨F,O,ν⟩,hI⟩
 simp only at hI
 simp only
 have hFl:=hI.len
 have hcm:=XN R S B hR hL.ne (some [Q2 F]::some [jJ O]::ν) U hk 0 F rfl hI.len fun q hq=>by
  by_cases e:q=i
  ·subst e;exact hI.up
  ·rw[hI.zr q hq e];omega
 have hup:=hI.up
 have hol:=hI.ol
 refine Au ?_;intros
 refine .inr (.inl ⟨_,_,_,_,rfl,fun _=>⟨hcm,?_⟩,fun h=>by cases h⟩)
 intro r σ' aau
 cases aau with
 |no μ h=>
  refine aH ?_
  refine adL ?_
  have hT:=CQ O (by omega) (fun s hs=>(hI.ob s hs).1) fun s hs=>by have:=hI.ob s hs;omega
  have aau:∀ν,ac2 S B i (iT (jI [] O)) ν:=fun ν=>by
   refine .mk _ (rh _) (Bz (rh _) fun v hv=>?_) (fun u hu=>?_) _
   ·obtain⟨s,hs,h1,h2⟩:=(tD O v).1 hv
    have:=hI.ob s hs
    omega
   ·rw[tD]
    refine(hI.sol u hu).resolve_right fun As=>h u ⟨fun q hq=>⟨(((CU u).1 hu).1 q hq).1,?_⟩,((CU u).1 hu).2⟩
    by_cases e:q=i
    ·subst e;exact As
    ·have:=(((CU u).1 hu).1 q hq).2
     rw[E_]at this
     rw[hI.zr q hq e];exact this
  refine adM ?_;intros
  refine adM ?_;intros
  all_goals try(exfalso;omega)
  refine aR.H_ (t:=7) (f:=1) (n:=O.length) (o:=jJ O) rfl rfl (by simp) (by simp) ?_
  generalize jI [] O=J at*
  refine Ay @hT ?_;intros
  exact aau _
 |yes V h hu2=>
  refine aH ?_
  refine adL ?_
  have YC:=h.len
  have As:=(h.lo i hi).2
  have hVi:=hu2 i hi
  have r1:=XA (l:=V) (i:=i) (by omega)
  have r2:=XA (l:=F) (i:=i) (by omega)
  have nV:(F.map fun z=>[n z]).set i [n (V.getD i 0+1)]=(F.set i (V.getD i 0+1)).map fun z=>[n z]:=by simp
  have hX:∀(a b:Option (List Ob)) (o:Ob) (r:aG),aG.at (a::b::(ν++some [o]::r)) (List.length ν+2) 0=some o:=fun a b o r=>by rw[cQ,cQ,dV];rfl
  have yo:aeX S B i (F.set i (V.getD i 0+1)) (O++[⟨V.getD i 0,V.getD i 0⟩]):=by
   have e0:(F.set i (V.getD i 0+1)).getD i 0=V.getD i 0+1:=by rw[CN (by omega),if_pos rfl]
   refine⟨by rw[cK,hFl],fun q hq iw=>?_,by rw[e0];omega,fun s hs=>?_,by rw[e0,aM];show((O.length+1:Nat):Int)<=V.getD i 0+1;omega,fun u hu=>?_⟩
   ·rw[CN (by omega),if_neg (fun e=>iw e.symm)];exact hI.zr q hq iw
   ·rcases bm.1 hs with hs|hs
    ·exact hI.ob s hs
    ·rw[bp.1 hs];simp only;omega
   ·rw[e0,mem_append]
    rcases hI.sol u hu with h1|h1
    ·exact .inl (.inl h1)
    ·have hsu:abM S.length U B F u:=⟨fun q hq=>⟨(((CU u).1 hu).1 q hq).1,by
      by_cases e:q=i
      ·subst e;exact h1
      ·have:=(((CU u).1 hu).1 q hq).2
       rw[E_]at this
       rw[hI.zr q hq e];exact this⟩,((CU u).1 hu).2⟩
     have:=h.le u hsu i hi
     by_cases e:u.getD i 0=V.getD i 0
     ·exact .inl (.inr ⟨_,bp.2 rfl,by simp only;omega,by simp only;omega⟩)
     ·exact .inr (by omega)
  have hm:(18001-(F.set i (V.getD i 0+1)).getD i 0).toNat<(18001-F.getD i 0).toNat:=by rw[CN (by omega),if_pos rfl];omega
  refine Ax (aa @hX (aa @r1 (aa @r2 (aa @nV (aa @YC @hFl))))) ?_;intros
  exact⟨⟨(F.set i (V.getD i 0+1),O++[⟨V.getD i 0,V.getD i 0⟩],_),yo⟩,by simp,by simp;rfl,hm⟩
def XP(tm:List Sp)(h:Sp)(m:List Sp):List Sp:=tm.flatMap fun s=>((nums s).filter fun x=>decide (0<(A4 [u5 x h] m).length)).map fun x=>⟨x,x⟩
theorem abx{tm m:List Sp}{h:Sp}(htm:MB tm):∀t∈XP tm h m,t.lo<=t.hi/\-101000<=t.lo/\t.hi<=101000:=by
 intro t ht
 obtain⟨p,hp,ht⟩:=fc.1 ht
 obtain⟨x,hx,rfl⟩:=aO.1 ht
 have h1:=VZ.1 (cM.1 hx).1
 have h2:=htm.2 p hp
 simp only;omega
inductive acz(S:List aeR)(B:List (List Int))(s:aeR)(i:Nat):AV->aG->Prop
 |mk(m:List Sp)(hm:MB m)(h:∀u l,QH S B u->Mem l s.tm->(u5 l s.h).lo<=u.getD i 0->u.getD i 0<=(u5 l s.h).hi->Mem l m)(ν:aG):acz S B s i (iT m) ν
theorem abQ(R:List AV)(S:List aeR)(B:List (List Int))(hR:RgI R S B)(hL:RgL S)(i:Nat)(s:aeR)(hs:S[i]?=some s):eY Tryz.prog 50 [.bZ R 0,n i] [] (acz S B s i):=by
 refine Fi Tryz.f50.eq_1 [] [.l [0,1,5,6,26,27,28],.l [0,1,5,6,8,9,26,27,28]] ?_
 have Dn:=hR.pv
 have hsn:=hR.sn
 have h9:=hR.s
 have bP:i<S.length:=(ai.1 hs).1
 have Vr:=ao hs
 obtain⟨V',T2⟩:=hR.sh s Vr
 have cX:(S.map fun s=>[AV.bZ s.cs 0]).getD i []=[.bZ s.cs 0]:=getD_map hs
 have ho:=abu R S B hR
 have hc:=Q8 R S B hR (S.map aeR.tm) (by simp) fun l hl=>by
  obtain⟨s,hs,rfl⟩:=aO.1 hl
  exact hL.lv s hs
 have hp:=XC R S B hR hL i bP
 have Xp:=Ui R S B hR i s hs
 have htm:=hL.lv s Vr
 have DS:=MC htm
 generalize hU:zH (S.map aeR.tm) S=U at*
 have lh:∀(m:List Sp),(∀u,QH S B u->Mem (u.getD i 0) m)->∀ν,acz S B s i (iT (jI [] (XP s.tm s.h m))) ν:=fun m hm ν=>by
  refine .mk _ (Hr (abx htm)) (fun u l hu hl h1 h2=>?_) ν
  ·rw[tD]
   obtain⟨p,hp,g1,g2⟩:=hl
   refine⟨⟨l,l⟩,fc.2 ⟨p,hp,aO.2 ⟨l,cM.2 ⟨VZ.2 ⟨g1,g2⟩,?_⟩,rfl⟩⟩,by simp only;omega,by simp only;omega⟩
   rw[decide_eq_true_eq]
   have h3:Mem (u.getD i 0) (A4 [u5 l s.h] m):=(Qb _).2 ⟨⟨_,bp.2 rfl,h1,h2⟩,hm u hu⟩
   obtain⟨t,ht,_⟩:=h3
   exact List.length_pos_of_mem ht
 refine Ay (aa @ho @hc) ?_;intros
 refine .inr (.inl ⟨_,_,_,_,rfl,fun _=>⟨hp,?_⟩,fun h=>by cases h⟩)
 intro r σ' aau
 cases aau with
 |mk m hm hb h ν=>
 refine aH ?_
 refine adL ?_
 have yu:=hm.q9 hb
 have lh:=lh m h
 obtain⟨Q,hQ⟩:∃Q:Nat->List Sp,∀k,Q k=XP (s.tm.take k) s.h m:=⟨_,fun _=>rfl⟩
 have ou:=abx (h:=s.h) (m:=m) htm
 have hQe:XP s.tm s.h m=Q s.tm.length:=by rw[hQ,aI]
 rw[hQe]at lh ou
 clear hQe
 have l_:∀k t,s.tm[k]?=some t->Q (k+1)=Q k++((nums t).filter fun x=>decide (0<(A4 [u5 x s.h] m).length)).map fun x=>⟨x,x⟩:=fun k t h=>by rw[hQ,hQ,ey h];simp[XP]
 have hlen:∀k,k<=s.tm.length->(Q k).length<=202001*k:=fun k=>by
  induction k with
  |zero=>intro _;rw[hQ];simp[XP]
  |succ k ih=>
   intro hk
   have e1:s.tm[k]?=some s.tm[k]:=ae (by omega)
   have h1:=ih (by omega)
   have h2:=htm.2 _ (ao e1)
   have h3:=bK (fun x=>decide (0<(A4 [u5 x s.h] m).length)) (nums s.tm[k])
   rw[Py]at h3
   rw[l_ k _ e1,aM,aF];omega
 replace l_:=Yb.mk l_
 refine Ax (aa @h9 @cX) ?_;intros
 replace lh:=Yb.mk lh
 refine aR.oC 52 2 6 rfl ?_
 refine aR.mT (α:={x:Nat×aG//x.1<=s.tm.length}) [6,28] (fun x=>[(6,.own σ'.length 0 (Q x.1.1).length),(28,n x.1.1)]) (fun x=>σ'++(some [jJ (Q x.1.1)]::x.1.2)) (fun x=>s.tm.length-x.1.1) ⟨(0,[]),aQ _⟩ ?_ ?_ ?_
 ·(simp only[zN,zT,zV,zS,zU,dC,ex,bu,bN,elems,cells,scalar,dH,bL,aX,aU,bJ,bI,Nat.reduceBEq,reduceAdd,reduceSub,reduceLT,reduceLeDiff,reduceMul,reduceEqDiff,reduceIte];try simp)
  rw[hQ];rfl
 ·rw[hQ];rfl
 rintro⟨⟨k,μ⟩,hk⟩
 simp only at hk
 simp only
 have xM:=hlen k hk
 have hX:∀(o:Ob) (r:aG),aG.at (σ'++(some [o]::r)) (List.length σ') 0=some o:=fun o r=>by rw[dV];rfl
 have hU:∀(o o':Ob) (r:aG),aG.cZ (σ'++(some [o]::r)) (List.length σ') 0 o'=σ'++(some [o']::r):=fun o o' r=>by rw[qZ];rfl
 by_cases my:k<s.tm.length
 ·obtain⟨t,ht⟩:∃t,s.tm[k]?=some t:=⟨_,ae my⟩
  have CR:(s.tm.map Sp.cs).getD k []=Sp.cs t:=getD_map ht
  have hN:=l_.out k t ht
  have htb:=htm.2 t (ao ht)
  have htn:=htm.1.ne t (ao ht)
  have Oi:=Py t
  generalize Q k=A at*
  generalize hB:Q (k+1)=B' at*
  have hX1:∀(x:Option (List Ob)) (o:Ob) (r:aG),aG.at (σ'++(x::(μ++some [o]::r))) (List.length σ'+(List.length μ+1)) 0=some o:=fun x o r=>by rw[dR,cQ,dV];rfl
  have hU1:∀(x:Option (List Ob)) (o o':Ob) (r:aG),aG.cZ (σ'++(x::(μ++some [o]::r))) (List.length σ'+(List.length μ+1)) 0 o'=σ'++(x::(μ++some [o']::r)):=fun x o o' r=>by rw[fC];simp[aG.cZ]
  refine Ax (aa @hX (aa @hU (aa @hX1 (aa @hU1 @CR)))) ?_;intros
  obtain⟨G,hG⟩:∃G:List Int->List Sp,∀l,G l=(l.filter fun x=>decide (0<(A4 [u5 x s.h] m).length)).map fun x=>⟨x,x⟩:=⟨_,fun _=>rfl⟩
  rw[<-hG]at hN
  have hGn:∀j x,(nums t)[j]?=some x->G ((nums t).take (j+1))=G ((nums t).take j)++if 0<(A4 [u5 x s.h] m).length then [⟨x,x⟩]else []:=fun j x h=>by
   rw[hG,hG,ey h,fK,di]
   congr 1
   split
   ·rename_i h;simp[h]
   ·rename_i h;simp[h]
  have hGl:∀j,(G ((nums t).take j)).length<=j:=fun j=>by
   rw[hG,aF]
   have h1:=bK (fun x=>decide (0<(A4 [u5 x s.h] m).length)) ((nums t).take j)
   rw[bH]at h1;omega
  have hG0:G []=[]:=by rw[hG];rfl
  clear hG
  replace hGn:=Yb.mk hGn
  refine aR.mT (α:={j:Nat//(j:Int)<=t.hi+1-t.lo}) [6,9] (fun j=>[(6,.own σ'.length 0 (A++G ((nums t).take j.1)).length),(9,n (t.lo+j.1))]) (fun j=>σ'++(some [jJ (A++G ((nums t).take j.1))]::(μ++[some [⟨52,2,[Sp.cs t],none⟩]]))) (fun j=>(t.hi+1-t.lo).toNat-j.1) ⟨0,by omega⟩ ?_ ?_ ?_
  ·(simp only[zN,zT,zV,zS,zU,dC,ex,bu,bN,elems,cells,scalar,dH,bL,aX,aU,bJ,bI,Nat.reduceBEq,reduceAdd,reduceSub,reduceLT,reduceLeDiff,reduceMul,reduceEqDiff,reduceIte];try simp)
   rw[hG0];try simp
  ·simp[hG0]
  rintro⟨j,hj⟩
  simp only
  have CY:=hGl j
  by_cases adF:t.lo+j<=t.hi
  ·have Xp:=Xp (t.lo+j)
   have hmt:=Tt [u5 (t.lo+j) s.h] m (by simp) (by omega)
   simp only[ec,bq,dL]at hmt
   have aad:=hGn.out j _ (abv adF)
   generalize u5 (t.lo+j) s.h=E at*
   generalize A4 [E] m=W at*
   generalize G ((nums t).take j)=D at*
   generalize hD:G ((nums t).take (j+1))=D' at*
   obtain⟨F,hF⟩:∃F,F=A++D:=⟨_,rfl⟩
   have hFl:F.length=A.length+D.length:=by rw[hF];simp
   rw[<-hF]
   by_cases hw:0<W.length
   ·rw[if_pos hw]at aad
    refine Az (aa @hX (aa @hU (aa @hX1 @hU1))) (aa @Xp @hmt) ?_;intros
    exact⟨⟨j+1,by omega⟩,by simp[hD,aad,hF];omega,by simp only[hD,aad,hF];try simp,by simp only;omega⟩
   ·rw[if_neg hw]at aad
    refine Az (aa @hX (aa @hU (aa @hX1 @hU1))) (aa @Xp @hmt) ?_;intros
    exact⟨⟨j+1,by omega⟩,by simp[hD,aad,hF]<;>omega,by simp only[hD,aad,hF];try simp,by simp only;omega⟩
  ·have hje:(nums t).take j=nums t:=cD (by omega)
   rw[hje]
   refine Ax (aa @hX (aa @hU (aa @hX1 @hU1))) ?_;intros
   exact⟨⟨(k+1,_),my⟩,by simp[hB,hN],by simp only[hB,hN];rfl,by simp only;omega⟩
 ·obtain rfl:k=s.tm.length:=by omega
  have hT:=CQ (Q s.tm.length) (by omega) (fun s hs=>(ou s hs).1) fun s hs=>by have:=ou s hs;omega
  have lh:=lh.out
  generalize Q s.tm.length=A at*
  refine adM ?_;intros
  refine adM ?_;intros
  all_goals try(exfalso;omega)
  refine aR.H_ (t:=6) (f:=σ'.length) (n:=A.length) (o:=jJ A) rfl (hX _ _) (by simp) (by simp) ?_
  generalize jI [] A=J at*
  refine Ay @hT ?_;intros
  exact lh _
end Go.Proofs.YtgopgjnfhkoomaaGreat
