/- Part 19 of the texts: abstract values over the walk; contracts. -/
import Derived.Test.YtgopgjnfhkoomaaGreatBu14
import Derived.Test.YtgopgjnfhkoomaaGreatBu18
import Derived.Test.YtgopgjnfhkoomaaGreatRows
set_option linter.unusedVariables false
set_option linter.unusedSimpArgs false
namespace Go.Proofs.YtgopgjnfhkoomaaGreat
open Go.Abs
open Nat (reduceAdd reduceSub reduceLT reduceLeDiff reduceMul reduceEqDiff)
set_option maxHeartbeats 4000000
set_option maxRecDepth 100000
theorem CW(l:List Sp)(d:Int):(CE l d).length=l.length:=by simp[CE]
theorem NU(l:List Sp)(d:Int)(hl:l.length<=1000000000)(hb:∀s∈l,-1000000<=s.lo/\s.lo<=1000000/\-1000000<=s.hi/\s.hi<=1000000)(hd:-100000<=d/\d<=100000):Pure Tryz.prog 161 [ec l,n d] (ec (CE l d)):=by
 refine jX Tryz.f161.eq_1 [] [.l [1,5,8,9,10]] ?_
 refine Au ?_;intros
 refine aR.oC 52 2 5 rfl ?_
 refine aR.lr (α:={x:Nat×aG//x.1<=l.length}) [5,10] (fun x=>[(5,.own 0 0 x.1.1),(10,n x.1.1)]) (fun x=>some [jJ (CE (l.take x.1.1) d)]::x.1.2) (fun x=>l.length-x.1.1) ⟨(0,[]),aQ _⟩ ?_
 rintro⟨⟨k,ν⟩,hk⟩
 simp only at hk
 simp only
 by_cases bP:k<l.length
 ·obtain⟨s,hs⟩:∃s,l[k]?=some s:=⟨_,ae bP⟩
  have cX:(l.map Sp.cs).getD k []=Sp.cs s:=getD_map hs
  have Vw:=hb s (ao hs)
  have l_:CE (l.take (k+1)) d=CE (l.take k) d++[⟨s.lo+d,s.hi+d⟩]:=by rw[ey hs];simp[CE]
  have xM:(CE (l.take k) d).length=k:=by rw[CW,bH];omega
  generalize CE (l.take k) d=A at*
  generalize hB:CE (l.take (k+1)) d=B at*
  refine Ax (aa @cX @xM) ?_;intros
  exact⟨⟨(k+1,ν++[some [⟨52,2,[Sp.cs s],none⟩]]),bP⟩,by simp,by simp only[hB,l_];simp,by simp only;omega⟩
 ·obtain rfl:k=l.length:=by omega
  rw[aI]
  refine Au ?_;intros
  exact bO.gZ (T:=52) (cs:=Sp.cs) rfl (CW _ _) (by decide) (fun a=>by simp) (fun a=>rfl)
theorem abK{b:List Sp}{s t:Sp}{j:Nat}(h:b[j]?=some t):CZ (b.take (j+1)) s=CZ (b.take j) s++(if max s.lo t.lo<=min s.hi t.hi then [⟨max s.lo t.lo,min s.hi t.hi⟩]else []):=by
 unfold CZ
 rw[ey h,di,fK]
 congr 1
 simp only[bq,dL,List.filter_cons,List.filter_nil,decide_eq_true_eq]
theorem XJ(b:List Sp)(s:Sp):(CZ b s).length<=b.length:=by
 unfold CZ
 have:=bK (fun x:Sp=>decide (x.lo<=x.hi)) (b.map s.cap)
 simpa using this
theorem abl(b:List Sp):∀a:List Sp,(A4 a b).length<=a.length*b.length
 | []=>by simp[A4]
 |s::r=>by
  have:=abl b r
  have h:=XJ b s
  unfold A4 at*
  rw[gP,aM,bf,xc]
  omega
theorem Tt(a b:List Sp)(ha:a.length<=100000)(hb:b.length<=100000):Pure Tryz.prog 104 [ec a,ec b] (ec (A4 a b)):=by
 refine jX Tryz.f104.eq_1 [] [.l [1,5,11,12,13],.l [1,5,7,11,12,13,17,18,19]] ?_
 have hle:∀k,(A4 (a.take k) b).length<=10000000000:=fun k=>by
  have h1:=abl b (a.take k)
  have h2:=Nat.mul_le_mul (show(a.take k).length<=100000 by rw[bH];omega) hb
  omega
 refine Au ?_;intros
 refine aR.oC 52 2 5 rfl ?_
 refine aR.mT (α:={x:Nat×aG//x.1<=a.length}) [5,13] (fun x=>[(5,.own 0 0 (A4 (a.take x.1.1) b).length),(13,n x.1.1)]) (fun x=>some [jJ (A4 (a.take x.1.1) b)]::x.1.2) (fun x=>a.length-x.1.1) ⟨(0,[]),aQ _⟩ ?_ ?_ ?_
 ·(simp only[zN,zT,zV,zS,zU,dC,ex,bu,bN,elems,cells,scalar,dH,bL,aX,aU,bJ,bI,Nat.reduceBEq,reduceAdd,reduceSub,reduceLT,reduceLeDiff,reduceMul,reduceEqDiff,reduceIte];try simp)
  simp[A4]
 ·simp[A4]
 rintro⟨⟨k,ν⟩,hk⟩
 simp only at hk
 simp only
 by_cases bP:k<a.length
 ·obtain⟨s,hs⟩:∃s,a[k]?=some s:=⟨_,ae bP⟩
  have cX:(a.map Sp.cs).getD k []=Sp.cs s:=getD_map hs
  have l_:A4 (a.take (k+1)) b=A4 (a.take k) b++CZ b s:=by rw[ey hs];simp[A4]
  have xM:=hle k
  generalize A4 (a.take k) b=A at*
  generalize hB:A4 (a.take (k+1)) b=B at*
  refine Ax @cX ?_;intros
  refine aR.mT (α:={x:Nat×aG//x.1<=b.length}) [5,19] (fun x=>[(5,.own 0 0 (A++CZ (b.take x.1.1) s).length),(19,n x.1.1)]) (fun x=>some [jJ (A++CZ (b.take x.1.1) s)]::(ν++some [⟨52,2,[Sp.cs s],none⟩]::x.1.2)) (fun x=>b.length-x.1.1) ⟨(0,[]),aQ _⟩ ?_ ?_ ?_
  ·(simp only[zN,zT,zV,zS,zU,dC,ex,bu,bN,elems,cells,scalar,dH,bL,aX,aU,bJ,bI,Nat.reduceBEq,reduceAdd,reduceSub,reduceLT,reduceLeDiff,reduceMul,reduceEqDiff,reduceIte];try simp)
   simp[CZ]
  ·simp[CZ]
  rintro⟨⟨j,μ⟩,hj⟩
  simp only at hj
  simp only
  have hX:∀(x:Option (List Ob)) (o:Ob) (r:aG),aG.at (x::(ν++some [o]::r)) (List.length ν+1) 0=some o:=fun x o r=>by rw[cQ,dV];rfl
  have RA:∀(x y:Option (List Ob)) (o:Ob) (r:aG),aG.at (x::(ν++y::(μ++some [o]::r))) (List.length ν+(List.length μ+2)) 0=some o:=fun x y o r=>by
   rw[show List.length ν+(List.length μ+2)=List.length ν+(List.length μ+1)+1 by omega,cQ,dR,cQ,dV];rfl
  have Yt:∀(x y:Option (List Ob)) (o o':Ob) (r:aG),aG.cZ (x::(ν++y::(μ++some [o]::r))) (List.length ν+(List.length μ+2)) 0 o'=x::(ν++y::(μ++some [o']::r)):=fun x y o o' r=>by
   have e:x::(ν++y::(μ++some [o]::r))=(x::(ν++y::μ))++some [o]::r:=by simp
   have e2:List.length ν+(List.length μ+2)=List.length (x::(ν++y::μ))+0:=by simp;omega
   rw[e,e2,fC];simp[aG.cZ]
  have UC:∀(x y w:Option (List Ob)) (o:Ob) (r:aG),aG.at (x::(ν++y::(μ++w::some [o]::r))) (List.length ν+(List.length μ+3)) 0=some o:=fun x y w o r=>by
   rw[show List.length ν+(List.length μ+3)=List.length ν+(List.length μ+1+1)+1 by omega,cQ,dR,cQ,dR];rfl
  have hU3:∀(x y w:Option (List Ob)) (o o':Ob) (r:aG),aG.cZ (x::(ν++y::(μ++w::some [o]::r))) (List.length ν+(List.length μ+3)) 0 o'=x::(ν++y::(μ++w::some [o']::r)):=fun x y w o o' r=>by
   have e:x::(ν++y::(μ++w::some [o]::r))=(x::(ν++y::μ))++w::some [o]::r:=by simp
   have e2:List.length ν+(List.length μ+3)=List.length (x::(ν++y::μ))+1:=by simp;omega
   rw[e,e2,fC];simp[aG.cZ]
  by_cases qz:j<b.length
  ·obtain⟨t,ht⟩:∃t,b[j]?=some t:=⟨_,ae qz⟩
   have zJ:(b.map Sp.cs).getD j []=Sp.cs t:=getD_map ht
   have hC:=abK (s:=s) ht
   have CY:=XJ (b.take j) s
   rw[bH]at CY
   generalize CZ (b.take j) s=D at*
   generalize hE:CZ (b.take (j+1)) s=E at*
   obtain⟨F,hF⟩:∃F,F=A++D:=⟨_,rfl⟩
   have hFl:F.length=A.length+D.length:=by rw[hF];simp
   rw[<-hF]
   by_cases hc:max s.lo t.lo<=min s.hi t.hi
   ·rw[if_pos hc]at hC
    refine Ax (aa @hX (aa @RA (aa @Yt (aa @UC (aa @hU3 @zJ))))) ?_;intros
    exact⟨⟨(j+1,_),qz⟩,by simp[hE,hC,hF]<;>omega,by simp only[hE,hC,hF];simp;rfl,by simp only;omega⟩
   ·rw[if_neg hc]at hC
    refine Ax (aa @hX (aa @RA (aa @Yt (aa @UC (aa @hU3 @zJ))))) ?_;intros
    exact⟨⟨(j+1,_),qz⟩,by simp[hE,hC,hF]<;>omega,by simp only[hE,hC,hF];simp;rfl,by simp only;omega⟩
  ·obtain rfl:j=b.length:=by omega
   rw[aI]
   refine Au ?_;intros
   exact⟨⟨(k+1,_),bP⟩,by simp[hB,l_],by simp only[hB,l_];rfl,by simp only;omega⟩
 ·obtain rfl:k=a.length:=by omega
  rw[aI]
  refine Au ?_;intros
  exact bO.gZ (T:=52) (cs:=Sp.cs) rfl rfl (by decide) (fun a=>by simp) (fun a=>rfl)
theorem CQ(l:List Sp)(hl:(l.length:Int)*16<=140737488355328)(iw:∀s∈l,s.lo<=s.hi)(Dc:∀s∈l,-1000000<=s.lo/\s.hi<=1000000):Pure Tryz.prog 85 [ec l] (iT (jI [] l)):=by
 refine jX Tryz.f85.eq_1 [] [.l [3,10,11,12],.d 14,.d 14] ?_
 have hV:=kQ l
 refine Ay @hV ?_;intros
 refine .inr (.inl ⟨_,_,_,_,rfl,fun _=>⟨w7 aam [] _ _ l (fun s hs=>⟨(Dc s hs).1,by have:=iw s hs;have:=Dc s hs;omega⟩) hl (w5 l (by omega)),?_⟩,fun h=>by cases h⟩)
 rintro res ν ⟨_,g,l',⟨hp,hs⟩,rfl,rfl,hg,ho⟩
 refine aH ?_
 refine adL ?_
 have JK:l'.length=l.length:=hp.length_eq
 have UG:=dU ho
 have Wg:∀s∈l',-1000000<=s.lo/\s.hi<=1000000:=fun s hs=>Dc s (hp.mem_iff.1 hs)
 have TE:∀s∈l',s.lo<=s.hi:=fun s hs=>iw s (hp.mem_iff.1 hs)
 rw[<-Db hp hs iw]
 have dN:∀X,aG.at (ν++X) g 0=some (jJ l'):=fun X=>by rw[cI UG];exact ho
 refine adM ?_;intros
 refine aR.oC 52 2 3 rfl ?_
 refine Ax @dN ?_;intros
 refine aR.mT (α:={x:Nat×aG//x.1<=l'.length}) [3,12] (fun x=>[(3,.own ν.length 0 (merged (l'.take x.1.1)).length),(12,n x.1.1)]) (fun x=>ν++(some [jJ (merged (l'.take x.1.1))]::x.1.2)) (fun x=>l'.length-x.1.1) ⟨(0,[]),by simp⟩ ?_ ?_ ?_
 ·(simp only[zN,zT,zV,zS,zU,dC,ex,bu,bN,elems,cells,scalar,dH,bL,aX,aU,bJ,bI,Nat.reduceBEq,reduceAdd,reduceSub,reduceLT,reduceLeDiff,reduceMul,reduceEqDiff,reduceIte];try simp)
  simp[merged]
 ·simp[merged]
 ·rintro⟨⟨k,μ⟩,hk⟩
  simp only at hk
  have Rp:=sW (l'.take k) [] (fun s hs=>Wg s (dx hs)) (by simp)
  have yu:=GY (l'.take k)
  have hnm:Norm (merged (l'.take k)):=(oS (l'.take k) [] re (fun s hs=>TE s (dx hs)) (fun s h=>absurd h (au)) (hs.sublist (xd _ _))).1
  rw[bH]at yu
  by_cases bP:k<l'.length
  ·obtain⟨x,hx⟩:∃x,l'[k]?=some x:=⟨_,ae bP⟩
   have l_:merged (l'.take (k+1))=push (merged (l'.take k)) x:=p8 hx
   have hxb:=Wg x (ao hx)
   have hxn:=TE x (ao hx)
   simp only
   change∀s∈merged (l'.take k),_ at Rp
   generalize merged (l'.take k)=A at*
   have hG:∀X,aG.at (ν++(some [jJ A]::X)) g 0=some (jJ l'):=fun X=>dN _
   have hA:∀X,aG.at (ν++(some [jJ A]::X)) ν.length 0=some (jJ A):=fun X=>by rw[dV];rfl
   have hU:∀(X:aG) (o:Ob),aG.cZ (ν++(some [jJ A]::X)) ν.length 0 o=ν++(some [o]::X):=fun X o=>by rw[qZ];rfl
   rcases dp A with rfl|⟨i,s,hi⟩
   ·refine Ax (aa (Kf hx) (aa @hG (aa @hA @hU))) ?_;intros
    exact⟨⟨(k+1,μ++[some [⟨52,2,[x.cs],none⟩]]),bP⟩,⟨by rw[l_];simp[mS],by simp⟩,by rw[l_];simp[mS],by simp only;omega⟩
   ·rw[dq]at hi
    have ZV:A.length=i.length+1:=by rw[hi];simp
    have hs:A[i.length]?=some s:=by rw[hi];simp
    have TF:=Rp s (by rw[hi];simp)
    have hsn:=hnm.ne s (by rw[hi];simp)
    have hp:push A x=if x.lo<=s.hi+1 then i++[⟨s.lo,max s.hi x.hi⟩]else i++[s,x]:=by rw[hi,mG]
    have hw:IntKind.i64.wrap (((i.length+1:Nat):Int)-1)=(i.length:Int):=by rw[cB _ (by omega) (by omega)];omega
    have nV:(A.map Sp.cs).set i.length [n s.lo,n (max s.hi x.hi)]=(i++[(⟨s.lo,max s.hi x.hi⟩:Sp)]).map Sp.cs:=by rw[hi];simp
    (refine Ax (aa (Kf hx) (aa (Kf hs) (aa @hG (aa @hA (aa @hU (aa @ZV (aa @hw @nV))))))) ?_ (CM ?_)<;>intros)
    all_goals
     rename_i hc
    ·rw[if_pos hc.2]at hp
     exact⟨⟨(k+1,μ++[some [⟨52,2,[x.cs],none⟩]]),bP⟩,⟨by rw[l_,hp];simp,by simp⟩,by rw[l_,hp],by simp only;omega⟩
    ·rw[if_neg (by omega)]at hp
     exact⟨⟨(k+1,μ++[some [⟨52,2,[x.cs],none⟩]]),bP⟩,⟨by rw[l_,hp];simp,by simp⟩,by rw[l_,hp,hi];simp,by simp only;omega⟩
  ·obtain rfl:k=l'.length:=by omega
   rw[aI]
   refine Au ?_;intros
   exact C8 (by rw[dV];rfl)
def Ht(c:Ch)(l:List (List Sp))(z:Int):List Sp:=(l.zip c.iY).flatMap fun p=>CE p.1 (p.2.off+z)
abbrev MB(l:List Sp):Prop:=Norm l/\∀s∈l,-101000<=s.lo/\s.hi<=101000
theorem MC{l:List Sp}(h:MB l):l.length<=202001:=by
 have:=h.1.q9 h.2
 omega
theorem Ki{c:Ch}(hc:zu c){l:List (List Sp)}(hg:kq l){z:Int}(hz:-200<=z/\z<=200):∀s∈Ht c l z,s.lo<=s.hi/\-101000<=s.lo/\s.hi<=101000:=by
 intro s hs
 obtain⟨⟨x,t⟩,hp,hs⟩:=fc.1 hs
 obtain⟨hx,ht⟩:=List.of_mem_zip hp
 unfold CE at hs
 obtain⟨u,hu,rfl⟩:=aO.1 hs
 have h1:=(hg x hx).1.ne u hu
 have h2:=(hg x hx).2 u hu
 have h3:=(nI hc.ok.p1).1 ht
 have I8:=hc.ok.p1
 have F':=hc.ok.p2
 simp only;omega
theorem Hr{l:List Sp}(h:∀s∈l,s.lo<=s.hi/\-101000<=s.lo/\s.hi<=101000):MB (jI [] l):=by
 refine⟨rh l,Bz (rh l) fun v hv=>?_⟩
 obtain⟨s,hs,h1,h2⟩:=(tD l v).1 hv
 have:=h s hs
 omega
theorem abL(c:Ch)(hc:zu c)(l:List (List Sp))(hl:l.length=c.iY.length)(hg:kq l)(z:Int)(hz:-200<=z/\z<=200):Pure Tryz.prog 84 [.bZ (A7 c) 0,Ho l,n z] (iT (jI [] (Ht c l z))):=by
 refine jX Tryz.f84.eq_1 [] [.l [0,2,7,10,11,12]] ?_
 have Dn:=kf c 0
 have I8:=hc.ok.p1
 have F':=hc.ok.p2
 have WN:=hc.TM
 obtain⟨R,hR⟩:∃R:Nat->List Sp,∀k,R k=((l.zip c.iY).take k).flatMap fun p=>CE p.1 (p.2.off+z):=⟨_,fun _=>rfl⟩
 have hRe:Ht c l z=R l.length:=by
  rw[hR,cD (by rw[oG];omega)];rfl
 have l_:∀k x s,l[k]?=some x->c.iY[k]?=some s->R (k+1)=R k++CE x (s.off+z):=fun k x s h1 h2=>by
  rw[hR,hR,ey ((ir (z:=(x,s))).2 ⟨h1,h2⟩)];simp
 have hlen:∀k,k<=l.length->(R k).length<=200001*k:=fun k=>by
  induction k with
  |zero=>intro _;rw[hR];simp
  |succ k ih=>
   intro hk
   have e1:l[k]?=some l[k]:=ae (by omega)
   have e2:c.iY[k]?=some c.iY[k]:=ae (by omega)
   have:=ih (by omega)
   have:=pG (hg _ (ao e1))
   rw[l_ k _ _ e1 e2,aM,CW];omega
 have Dc:=Ki hc hg hz
 rw[hRe]at Dc|-
 clear hRe
 refine Au ?_;intros
 refine aR.oC 52 2 7 rfl ?_
 refine aR.mT (α:={x:Nat//x<=l.length}) [7,12] (fun x=>[(7,.own 0 0 (R x.1).length),(12,n x.1)]) (fun x=>[some [jJ (R x.1)]]) (fun x=>l.length-x.1) ⟨0,aQ _⟩ ?_ ?_ ?_
 ·(simp only[zN,zT,zV,zS,zU,dC,ex,bu,bN,elems,cells,scalar,dH,bL,aX,aU,bJ,bI,Nat.reduceBEq,reduceAdd,reduceSub,reduceLT,reduceLeDiff,reduceMul,reduceEqDiff,reduceIte];try simp)
  rw[hR];rfl
 ·rw[hR];rfl
 rintro⟨k,hk⟩
 simp only
 have LD:=hlen k hk
 by_cases bP:k<l.length
 ·obtain⟨x,hx⟩:∃x,l[k]?=some x:=⟨_,ae bP⟩
  obtain⟨s,hs⟩:∃s,c.iY[k]?=some s:=⟨_,ae (by omega)⟩
  have cX:(l.map fun x=>[iT x]).getD k []=[iT x]:=getD_map hx
  have zJ:(c.iY.map St.cs).getD k []=St.cs s:=getD_map hs
  have Vr:=(nI I8).1 (ao hs)
  have hgx:=hg x (ao hx)
  have mF:=pG hgx
  have hS:=NU x (s.off+z) (by omega) (fun u hu=>by have:=hgx.1.ne u hu;have:=hgx.2 u hu;omega) (by omega)
  have hN:=l_ k x s hx hs
  have tQ:=CW x (s.off+z)
  generalize CE x (s.off+z)=S at*
  generalize R k=A at*
  generalize hB:R (k+1)=B at*
  refine Az (aa @zC (aa @cX @zJ)) @hS ?_;intros
  refine⟨⟨fun e he=>by rw[getD_map (ae he)];rfl,by omega⟩,?_⟩
  refine Au ?_;intros
  exact⟨⟨k+1,bP⟩,by simp[hB,hN],by simp only[hB,hN];try simp,by simp only;omega⟩
 ·obtain rfl:k=l.length:=by omega
  have hT:=CQ (R l.length) (by omega) (fun s hs=>(Dc s hs).1) fun s hs=>by have:=Dc s hs;omega
  generalize R l.length=A at*
  refine adM ?_;intros
  refine adM ?_;intros
  all_goals try(exfalso;omega)
  refine aR.H_ (t:=7) (f:=0) (n:=A.length) (o:=jJ A) rfl rfl (by simp) (by simp) ?_
  refine Ay @hT ?_;intros
  exact Fq
theorem acF(c:Ch)(hc:zu c)(t:ka)(hs:E0 t)(hv:valid t)(k:Nat)(hk:k<t.length)(hw:wd t k=c.iY.length)(z:Int)(hz:-200<=z/\z<=200):Pure Tryz.prog 100 [.bZ (A7 c) 0,Af t,n z,n k] (iT (jI [] (Ht c (tz t k) z))):=by
 refine jX Tryz.f100.eq_1 [] [] ?_
 have Dn:=kf c 0
 have hA:=MW t hs hv
 have hR:=abL c hc (tz t k) (by rw[ri hk,hw]) (Gy hv hk) z hz
 have cX:((BB t).map fun l=>[mZ l]).getD k []=[mZ (tz t k)]:=getD_map (by unfold BB;rw[aV,cH hk];rfl)
 have hl:(BB t).length=t.length:=by simp[BB]
 generalize BB t=V at*
 generalize Ht c (tz t k) z=Q at*
 generalize tz t k=X at*
 refine Az (aa @cX @hl) (aa @hA @hR) ?_;intros
 exact Fq
theorem Tu{c:Ch}(hc:zu c){t:ka}(hv:valid t){k:Nat}(hk:k<t.length)(hw:wd t k=c.iY.length){z v:Int}{i:Nat}{s:St}(hs:c.iY[i]?=some s){p:List At}(hp:p.length=t.length)(F':p[k]?=some ⟨i,v⟩)(hwy:FT t 0 p):Mem (v+s.off+z) (jI [] (Ht c (tz t k) z)):=by
 have hi:i<c.iY.length:=by
  rcases cm i c.iY.length with h|h
  ·exact h
  ·rw[b_ h]at hs;cases hs
 have hm:=(EF hv k ⟨(i:Int),v⟩ hk).2 ⟨p,⟨hp,hwy⟩,F'⟩
 obtain⟨_,_,u,hu,h1,h2⟩:=hm
 simp only at h1 h2
 rw[tD]
 have hx:(tz t k)[i]?=some ((tz t k).getD i []):=getD_some (by rw[ri hk,hw];exact hi)
 refine mem_flatMap.2 ⟨((tz t k).getD i [],s),ao ((ir (z:=((tz t k).getD i [],s))).2 ⟨hx,hs⟩),?_⟩
 rw[RN]
 refine⟨u,hu,?_,?_⟩<;>(dsimp only;omega)
theorem acG(t:ka)(h0:t≠[])(hl:t.length*24<=140737488355328)(σ:aG):eY Tryz.prog 219 [MH t] σ (uI σ 336 1 (t.map fun l=>[Ae l])):=by
 refine Fi Tryz.f219.eq_1 [5] [] ?_
 have iw:(t.map fun l=>[Ae l])≠[]:=by simpa using h0
 refine Au ?_;intros
 exact .mk [] (by simp) rfl
theorem acH(l:List q_)(h0:l≠[])(hl:l.length*48<=140737488355328)(σ:aG):eY Tryz.prog 220 [Ae l] σ (uI σ 340 2 (l.map q_.cs)):=by
 refine Fi Tryz.f220.eq_1 [5] [] ?_
 have iw:l.map q_.cs≠[]:=by simpa using h0
 refine Au ?_;intros
 exact .mk [] (by simp) rfl
def abm(p:List Sp)(z:Int)(q:q_×St):q_:=⟨A4 q.1.al (CE p (-q.2.off-z)),q.1.nx⟩
def Mp(c:Ch)(l:List q_)(z:Int)(p:List Sp):List q_:=(l.zip c.iY).map (abm p z)
def Fk(c:Ch)(t:ka)(z:Int)(k:Nat)(p:List Sp):ka:=t.set k (Mp c (t.getD k []) z p)
abbrev acZ(p:List Sp):Prop:=MB p/\p.length<=50
theorem ab6(c:Ch)(hc:zu c)(t:ka)(hv:valid t)(k:Nat)(hk:k<t.length)(hw:wd t k=c.iY.length)(z:Int)(hz:-200<=z/\z<=200)(p:List Sp)(hp:acZ p):Pure Tryz.prog 158 [.bZ (A7 c) 0,Af t,n z,n k,ec p] (Af (Fk c t z k p)):=by
 refine jX Tryz.f158.eq_1 [] [.l [0,2,3,4,10,11,12,25,26],.d 23] ?_
 have Dn:=kf c 0
 have I8:=hc.ok.p1
 have F':=hc.ok.p2
 have WN:=hc.TM
 have DS:=hv.2.1
 have vZ:=hv.2.2 k hk
 have cX:(t.map fun l=>[Ae l]).getD k []=[Ae (t.getD k [])]:=getD_map (getD_some hk)
 obtain⟨L,hL⟩:∃L,L=t.getD k []:=⟨_,rfl⟩
 have Z6:L.length=c.iY.length:=by rw[hL];exact hw
 have hon:Fk c t z k p=t.set k (Mp c L z p):=by rw[hL];rfl
 rw[<-hL]at cX vZ
 rw[hon]
 have iw:t≠[]:=List.ne_nil_of_length_pos (by omega)
 have adD:L≠[]:=List.ne_nil_of_length_pos vZ.1
 obtain⟨O,hO⟩:∃O,O=Mp c L z p:=⟨_,rfl⟩
 have hOl:O.length=L.length:=by rw[hO];simp[Mp,Z6]
 have hOg:∀i x s,L[i]?=some x->c.iY[i]?=some s->O[i]?=some (abm p z (x,s)):=fun i x s h1 h2=>by
  rw[hO,Mp,aV,(ir (z:=(x,s))).2 ⟨h1,h2⟩];rfl
 rw[<-hO]
 refine Ax @zC ?_;intros
 refine .inr (.inl ⟨_,_,_,_,rfl,fun _=>⟨acG t iw (by omega) _,?_⟩,fun h=>by cases h⟩)
 rintro res σ' ⟨ν,rfl,rfl⟩
 refine aH ?_
 refine Ax @cX ?_;intros
 refine .inr (.inl ⟨_,_,_,_,rfl,fun _=>⟨acH L adD (by omega) _,?_⟩,fun h=>by cases h⟩)
 rintro res σ' ⟨μ,rfl,rfl⟩
 refine aH ?_
 refine adL ?_
 have hX:∀(a b c:Option (List Ob)) (o:Ob) (r:aG),aG.at (a::b::(ν++c::some [o]::r)) (List.length ν+3) 0=some o:=fun a b c o r=>by rw[cQ,cQ,dR];rfl
 have hU:∀(a b c:Option (List Ob)) (o o':Ob) (r:aG),aG.cZ (a::b::(ν++c::some [o]::r)) (List.length ν+3) 0 o'=a::b::(ν++c::some [o']::r):=fun a b c o o' r=>by
  have e:a::b::(ν++c::some [o]::r)=(a::b::ν)++c::some [o]::r:=by simp
  have e2:List.length ν+3=List.length (a::b::ν)+1:=by simp
  rw[e,e2,fC];simp[aG.cZ]
 have RA:∀(a b:Option (List Ob)) (o:Ob) (r:aG),aG.at (a::b::(ν++some [o]::r)) (List.length ν+2) 0=some o:=fun a b o r=>by rw[cQ,cQ,dV];rfl
 obtain⟨Z,hZ⟩:∃Z:Nat->List q_,∀k,Z k=O.take k++L.drop k:=⟨_,fun _=>rfl⟩
 have hZl:∀i,i<=L.length->(Z i).length=L.length:=fun i hi=>by rw[hZ];simp;omega
 have hZ0:Z 0=L:=by rw[hZ];rfl
 have hZN:Z L.length=O:=by rw[hZ,c_,bb,cD (by omega)]
 refine Au ?_;intros
 refine aR.le (α:={i:Nat//i<=L.length}) [26] (fun i=>[(26,n i.1)]) (fun i=>some [⟨191,1,[[.v (.slice none 0 0)]],none⟩]::some [⟨336,1,t.map (fun l=>[Ae l]),none⟩]::(ν++some [⟨191,1,[[.own 1 0 t.length]],none⟩]::some [⟨340,2,(Z i.1).map q_.cs,none⟩]::μ)) (fun i=>L.length-i.1) ⟨0,aQ _⟩ ?_ ?_
 ·rw[hZ0];try simp
 rintro⟨i,hi⟩
 simp only
 have hZi:=hZl i hi
 by_cases bP:i<L.length
 ·obtain⟨x,hx⟩:∃x,L[i]?=some x:=⟨_,ae bP⟩
  obtain⟨s,hs⟩:∃s,c.iY[i]?=some s:=⟨_,ae (by omega)⟩
  have Vr:=(nI I8).1 (ao hs)
  have hxn:=vZ.2.2 x (ao hx)
  have ac_:((Z i).map q_.cs).getD i []=q_.cs x:=getD_map (by rw[hZ,bE (by rw[bH];omega),bH,ez,show i+(i-min i O.length)=i by omega,hx])
  have zJ:(c.iY.map St.cs).getD i []=St.cs s:=getD_map hs
  have hS:=NU p (-s.off-z) (by have:=hp.2;omega) (fun u hu=>by have:=hp.1.1.ne u hu;have:=hp.1.2 u hu;omega) (by omega)
  have hM:=Tt x.al (CE p (-s.off-z)) (by have:=hxn.1.1;omega) (by rw[CW];have:=hp.2;omega)
  have nV:((Z i).map q_.cs).set i [iT (A4 x.al (CE p (-s.off-z))),Oo x.nx]=(Z (i+1)).map q_.cs:=by
   have e1:Z (i+1)=(Z i).set i (abm p z (x,s)):=by
    rw[hZ,hZ,ey (hOg i x s hx hs),fa _ _ (by simp;omega),drop_cons hx]
    simp[show i-min i O.length=0 by omega]
   rw[e1,fU];rfl
  have ew:IntKind.wrap .i64 (IntKind.wrap .i64 (0-s.off)-z)=-s.off-z:=by rw[cB (0-s.off) (by omega) (by omega),cB _ (by omega) (by omega)];omega
  generalize CE p (-s.off-z)=P at*
  generalize A4 x.al P=W at*
  generalize Z i=A at*
  generalize hB:Z (i+1)=B at*
  refine Az (aa @zC (aa @hX (aa @hU (aa @ac_ (aa @zJ (aa @nV (aa @hZi @ew))))))) (aa @hS @hM) ?_;intros
  exact⟨⟨i+1,bP⟩,by simp,by rw[hB],by simp only;omega⟩
 ·obtain rfl:i=L.length:=by omega
  rw[hZN]at hZi|-
  have ac':(t.map fun l=>[Ae l]).set k [Ae O]=(t.set k O).map fun l=>[Ae l]:=by simp[fU]
  have CY:(t.set k O).length=t.length:=cK
  refine adM ?_;intros
  refine adM ?_;intros
  all_goals try(exfalso;omega)
  refine aR.H_ (t:=12) (f:=ν.length+3) (n:=L.length) (o:=⟨340,2,O.map q_.cs,none⟩) rfl (hX _ _ _ _ _) (by simp[hOl]) (by simp) ?_
  refine aR.pQ (σ':=some [⟨191,1,[[.v (.slice none 0 0)]],none⟩]::some [⟨336,1,t.map (fun l=>[Ae l]),none⟩]::(ν++some [⟨191,1,[[.own 1 0 t.length]],none⟩]::none::μ)) ?_ ?_
  ·have e:List.length ν+3=List.length (some [(⟨191,1,[[.v (.slice none 0 0)]],none⟩:Ob)]::some [(⟨336,1,t.map (fun l=>[Ae l]),none⟩:Ob)]::ν)+1:=by simp
   rw[e]
   have:=zc (some [(⟨191,1,[[.v (.slice none 0 0)]],none⟩:Ob)]::some [(⟨336,1,t.map (fun l=>[Ae l]),none⟩:Ob)]::ν) (some [⟨191,1,[[.own 1 0 t.length]],none⟩]::some [⟨340,2,O.map q_.cs,none⟩]::μ) 1
   simp[gone]
  refine Ax (aa @RA (aa @cX @ac')) ?_;intros
  exact bO.mX ⟨bO.gZ (T:=336) (cs:=fun l=>[Ae l]) rfl CY (by decide) (fun a=>by simp) (fun a=>rfl),trivial⟩
theorem abn(l:List Sp):Pure Tryz.prog 157 [ec l,n 50] (.fn (.func 218) [] [.bZ [ec l] 0,.bZ [n 50] 0]):=by
 refine jX Tryz.f157.eq_1 [] [] ?_
 refine Au ?_;intros
 exact bO.eq rfl (by simp[bC.fn])
def XB(l:List Sp):List (List AV):=(List.range (parts l)).map fun j=>[ec (Go.Abs.part l j)]
theorem abo(l:List Sp)(hl:l.length<=1000000):Iter Tryz.prog 218 [] [.bZ [ec l] 0,.bZ [n 50] 0] (XB l):=by
 refine⟨Tryz.call218,fun C y J D σ hy hC hJ ew=>?_⟩
 refine eY.mono (R:=fun _ iX=>kS C J D (XB l).length iX) ?_ fun _ _ h=>h.out
 refine qY 31 (jo [jc 4 0] [0,1,2,4] (.block 0 (.loop (.seq (jo [jm 6 4,jl 7 1,je 8 7,jt .lss 9 6 8] [0,1,2,4,9] (.cond (.t 9) .skip (.exit 0))) (.seq (.block 1 (.seq (.draw [jl 13 2,jl 14 1,jm 15 4,jw 16 (.slice 2 (.t 14) (some (.t 15)) none),je 17 16,jw 18 (.tN false (.t 13) (.t 17)),jm 5 18] [] [0,1,2,4,5]) (jo [jm 19 0,jl 20 1,jm 21 4,jm 22 4,jm 23 5,jt .add 24 22 23,jm 25 4,jm 26 5,jt .add 27 25 26,jw 28 (.QM 2 (.t 20) (.t 21) (.t 24) (.t 27)),jw 29 (.call (.t 19) [(.t 28)]),jv 30 29] [0,1,2,4,30] (.cond (.t 30) .ret .skip)))) (.ops [jm 10 4,jl 11 2,jt .add 12 10 11,jm 4 12] [0,1,2,4])))))) [] Tryz.call218 Tryz.func218 ?_
 have Bm:(XB l).length=parts l:=by simp[XB]
 have hpd:parts l=(l.length+49)/50:=rfl
 rw[Bm]
 refine Au ?_;intros
 refine aR.lr (α:={x:Nat×aG×aG//x.1<=parts l/\x.2.1.length=C/\J x.1 x.2.1}) [4] (fun x=>[(4,n (50*x.1.1:Nat))]) (fun x=>x.1.2.1++x.1.2.2) (fun x=>parts l-x.1.1) ⟨(0,σ,[]),by simp,hC,hJ⟩ ?_
 rintro⟨⟨k,τ,ν⟩,hk,pD,ze⟩
 simp only at hk pD ze
 by_cases bP:k<parts l
 ·have hpt:Go.Abs.part l k=(l.drop (50*k)).take 50:=rfl
  have hyk:=ew k [ec (Go.Abs.part l k)] τ ν (by unfold XB;rw[aV,cH bP];rfl) pD ze
  have Sq:50*k<l.length:=by omega
  have K4:(List.drop (50*k) (List.take l.length (l.map Sp.cs))).length=l.length-50*k:=by simp
  (repeat' ((first|refine vn rfl ?_|simp(disch:=omega) only[cB,aj]|refine bo (fun _=>?_) fun _=>?_|refine im fun _=>?_|refine cF ?_|refine om ?_|refine an ?_|fail)<;>try simp only[zN,zT,zV,zS,zU,dC,ex,bu,bN,elems,cells,scalar,dH,bL,aX,aU,bJ,bI,Nat.reduceBEq,reduceAdd,reduceSub,reduceLT,reduceLeDiff,reduceMul,reduceEqDiff,reduceIte,Option.toList,aK,bb,aD,K4]))
  all_goals try(exfalso;omega)
  have Uv:List.drop (50*k) (List.take (((50*k:Nat):Int)+min 50 ((l.length-50*k:Nat):Int)).toNat (l.map Sp.cs))=(Go.Abs.part l k).map Sp.cs:=by
   rw[hpt,List.map_take,List.map_drop,show(((50*k:Nat):Int)+min 50 ((l.length-50*k:Nat):Int)).toNat=50*k+min 50 (l.length-50*k) by omega,List.drop_take,wP,List.take_eq_take_iff]
   simp
  rw[Uv]
  refine .inr (.inr ⟨y,_,rfl,fun _=>⟨hyk,?_⟩,fun h=>by cases h⟩)
  rintro b σ' ⟨iv,gz,rfl,jW,xe,CG⟩
  refine aH ?_
  refine adL ?_
  cases b with
  |false=>
   refine Au ?_;intros
   exact kS.mk iv _ rfl jW (.inr (CG rfl))
  |true=>
   refine Au ?_;intros
   exact⟨⟨(k+1,iv,_),bP,jW,xe rfl⟩,by simp;omega,rfl,by simp only;omega⟩
 ·obtain rfl:k=parts l:=by omega
  refine Au ?_;intros
  exact kS.mk τ _ rfl pD (.inl ze)
theorem YD(c:Ch)(hc:zu c)(tm:Int):Iter Tryz.prog 155 [] [.bZ [.bZ (A7 c) 0] 0,.bZ [bl true] 0,.bZ [.v (.slice none 0 0)] 0,.bZ [n tm] 0] (K9 c (Ch.zs c)):=by
 refine⟨Tryz.call155,fun C y J D σ hy hC hJ ew=>?_⟩
 refine eY.mono (R:=fun _ iX=>kS C J D (K9 c (Ch.zs c)).length iX) ?_ fun _ _ h=>h.out
 refine Fi Tryz.f155.eq_1 [] [.l [1,2,3,4,5,13,14,15],.l [1,2,3,4,5,7,8,13,14,15],.d 8] ?_
 have Dn:=kf c 0
 have hp:=hc.eC
 unfold Pn.ok at hp
 have I':=T1 c
 rw[show(K9 c (Ch.zs c)).length=(Ch.zs c).length by simp[K9]]
 refine Ax @zC ?_;intros
 refine aR.lr (α:={x:Nat×aG×aG//x.1<=(Ch.zs c).length/\x.2.1.length=C/\J x.1 x.2.1}) [15] (fun x=>[(15,n x.1.1)]) (fun x=>x.1.2.1++x.1.2.2) (fun x=>(Ch.zs c).length-x.1.1) ⟨(0,σ,[]),by simp,hC,hJ⟩ ?_
 ·rintro⟨⟨k,τ,ν⟩,hk,pD,ze⟩
  simp only at hk pD ze
  by_cases bP:k<(Ch.zs c).length
  ·obtain⟨z,hz⟩:∃z,(Ch.zs c)[k]?=some z:=⟨_,ae bP⟩
   obtain⟨z1,z2⟩:=Nu hz
   have hT:=He c hc z (by omega)
   have cX:((Ch.zs c).map fun z=>[n z]).getD k []=[n z]:=getD_map hz
   have hy1:∀μ,th Tryz.prog y [Af (c.iZ z),n z] (τ++μ) _:=fun μ=>ew k _ τ μ (by unfold K9;rw[aV,hz];rfl) pD ze
   generalize c.iZ z=T at*
   obtain⟨μ,hμ⟩:∃μ,τ++ν=μ:=⟨_,rfl⟩
   simp only[hμ]
   refine Az @cX @hT ?_;intros
   subst hμ
   rw[aW]
   refine .inr (.inr ⟨y,_,rfl,fun _=>⟨hy1 _,?_⟩,fun h=>by cases h⟩)
   rintro b σ' ⟨iv,gz,rfl,jW,xe,CG⟩
   refine aH ?_
   refine adL ?_
   cases b with
   |false=>
    refine Au ?_;intros
    exact kS.mk iv _ rfl jW (.inr (CG rfl))
   |true=>
    refine Au ?_;intros
    exact⟨⟨(k+1,iv,_),bP,jW,xe rfl⟩,by simp,rfl,by simp only;omega⟩
  ·obtain rfl:k=(Ch.zs c).length:=by omega
   refine Au ?_;intros
   exact kS.mk τ _ rfl pD (.inl ze)
theorem N1(c:Ch)(tm:Int)(an:Bool)(wn:AV)(SC:wn=.v (.slice none 0 0)\/∃l,wn=ec l):Pure Tryz.prog 82 [.bZ (A7 c) 0,n tm,wn,bl an] (.fn (.func 155) [] [.bZ [.bZ (A7 c) 0] 0,.bZ [bl an] 0,.bZ [wn] 0,.bZ [n tm] 0]):=by
 refine jX Tryz.f82.eq_1 [] [] ?_
 have Dn:=kf c 0
 rcases SC with rfl|⟨l,rfl⟩<;>((refine Au ?_;intros);exact bO.eq rfl (by simp[Dn]))
noncomputable def tkB(c:Ch)(tm:Nat)(l:List Sp):List (ka×Int):=(List.range ((Ch.zs c).length*parts l)).map fun m=>(Fk c (c.iZ ((Ch.zs c).getD (m/parts l) 0)) ((Ch.zs c).getD (m/parts l) 0) tm (Go.Abs.part l (m % parts l)),(Ch.zs c).getD (m/parts l) 0)
abbrev ab7(l:List (ka×Int)):List (List AV):=l.map fun p=>[Af p.1,n p.2]
theorem abV{c:Ch}{tm:Nat}{l:List Sp}{k j:Nat}{z:Int}(hz:(Ch.zs c)[k]?=some z)(hj:j<parts l):(tkB c tm l)[k*parts l+j]?=some (Fk c (c.iZ z) z tm (Go.Abs.part l j),z):=by
 have hk:k<(Ch.zs c).length:=(ai.1 hz).1
 have h1:k*parts l+j<(Ch.zs c).length*parts l:=by
  have:=cj (parts l) (show k+1<=(Ch.zs c).length from hk)
  rw[xc]at this;omega
 have h2:(k*parts l+j)/parts l=k:=by
  rw[jj,Nat.mul_add_div (by omega),Nat.div_eq_of_lt hj,eE]
 have h3:(k*parts l+j) % parts l=j:=by rw[jj,Nat.mul_add_mod,A3 hj]
 have h4:(Ch.zs c).getD k 0=z:=by rw[ab,hz];rfl
 unfold tkB
 rw[aV,cH h1,aY,h2,h3,h4]
theorem abW(c:Ch)(tm:Nat)(l:List Sp):(tkB c tm l).length=(Ch.zs c).length*parts l:=by simp[tkB]
theorem Z2(c:Ch)(hc:zu c)(tm:Nat)(htm:(tm:Int)<=c.bD)(l:List Sp)(hl:MB l):Iter Tryz.prog 155 [] [.bZ [.bZ (A7 c) 0] 0,.bZ [bl false] 0,.bZ [ec l] 0,.bZ [n tm] 0] (ab7 (tkB c tm l)):=by
 refine⟨Tryz.call155,fun C y J D σ hy hC hJ ew=>?_⟩
 refine eY.mono (R:=fun _ iX=>kS C J D (ab7 (tkB c tm l)).length iX) ?_ fun _ _ h=>h.out
 refine Fi Tryz.f155.eq_1 [] [.l [1,2,3,4,5,13,14,15],.l [1,2,3,4,5,7,8,13,14,15],.d 8] ?_
 have Dn:=kf c 0
 have hp:=hc.eC
 unfold Pn.ok at hp
 have I':=T1 c
 have JK:=MC hl
 obtain⟨NP,hNP⟩:∃NP,NP=parts l:=⟨_,rfl⟩
 have DS:(ab7 (tkB c tm l)).length=(Ch.zs c).length*NP:=by rw[aF,abW,hNP]
 rw[DS]
 refine Ax @zC ?_;intros
 refine aR.lr (α:={x:Nat×aG×aG//x.1<=(Ch.zs c).length/\x.2.1.length=C/\J (x.1*NP) x.2.1}) [15] (fun x=>[(15,n x.1.1)]) (fun x=>x.1.2.1++x.1.2.2) (fun x=>(Ch.zs c).length-x.1.1) ⟨(0,σ,[]),by simp,hC,by rw[Nat.zero_mul];exact hJ⟩ ?_
 ·rintro⟨⟨k,τ,ν⟩,hk,pD,ze⟩
  simp only at hk pD ze
  by_cases bP:k<(Ch.zs c).length
  ·obtain⟨z,hz⟩:∃z,(Ch.zs c)[k]?=some z:=⟨_,ae bP⟩
   obtain⟨z1,z2⟩:=Nu hz
   have hT:=He c hc z (by omega)
   have hv:=oX hc.ok hc.TM z
   have cX:((Ch.zs c).map fun z=>[n z]).getD k []=[n z]:=getD_map hz
   have hO:∀j,Pure Tryz.prog 158 [.bZ (A7 c) 0,Af (c.iZ z),n z,n tm,ec (Go.Abs.part l j)] (Af (Fk c (c.iZ z) z tm (Go.Abs.part l j))):=fun j=>ab6 c hc (c.iZ z) hv tm (by rw[mJ hc.ok];omega) (yV hc.ok (by omega)) z (by omega) _ ⟨⟨XG hl.1 j,fun s hs=>hl.2 s (List.mem_of_mem_drop (dx hs))⟩,aar l j⟩
   have hyk:∀j τ μ,j<NP->τ.length=C->J (k*NP+j) τ->th Tryz.prog y [Af (Fk c (c.iZ z) z tm (Go.Abs.part l j)),n z] (τ++μ) _:=fun j τ μ hj h1 h2=>ew _ _ τ μ (by rw[aV,hNP,abV hz (by omega)];rfl) h1 h2
   have mw:=abn l
   have lS:=abo l (by omega)
   have hpt:(XB l).length=NP:=by rw[hNP];simp[XB]
   generalize hTr:c.iZ z=T at*
   obtain⟨μ,hμ⟩:∃μ,τ++ν=μ:=⟨_,rfl⟩
   simp only[hμ]
   refine Az @cX (aa @hT @mw) ?_;intros
   subst hμ
   refine aR.TL (α:={x:aG//x.length=C}) (fun x=>x.1++(ν++[some [⟨3,1,[[n z]],none⟩],some [⟨191,1,[[MH T]],none⟩]])) (C+(ν.length+2)) (fun x=>by rw[aM,x.2];simp) (fun j x=>J (k*NP+j) x.1) (fun e x=>match e with| .ret=>D x.1|_=>False) (XB l) ⟨τ,pD⟩ rfl (by simp) ze lS (fun j args h=>?_) (fun j x args ll ρ μ hj hA=>?_) (fun x μ hA=>?_) (fun e x μ h=>?_)
   ·obtain⟨j,_,rfl⟩:=aL.1 (by simpa[XB]using h)
    rfl
   ·have vi:j<NP:=by rw[<-hpt];exact(ai.1 hj).1
    obtain rfl:args=[ec (Go.Abs.part l j)]:=by
     unfold XB at hj
     rw[aV,cH (by omega)]at hj
     exact(v_ hj).symm
    obtain⟨x,hx⟩:=x
    simp only at hA
    have hO:=hO j
    have hX1:∀(o:Ob) (r:aG),aG.at (x++(ν++some [o]::r)) (List.length τ+List.length ν) 0=some o:=fun o r=>by rw[pD,<-hx,dR,dV];rfl
    have RA:∀(a:Option (List Ob)) (o:Ob) (r:aG),aG.at (x++(ν++a::some [o]::r)) (List.length τ+(List.length ν+1)) 0=some o:=fun a o r=>by rw[pD,<-hx,dR,dR];rfl
    have hyj:=fun μ=>hyk j x μ vi hx hA
    simp only[par]
    refine Ax (aa @Ds (aa @hX1 @RA)) ?_;intros
    refine⟨⟨x,hx⟩,[],by simp,fun ox=>?_⟩
    refine Az (aa @hX1 @RA) @hO ?_;intros
    refine .inr (.inr ⟨y,_,rfl,fun _=>⟨hyj _,?_⟩,fun h=>by cases h⟩)
    rintro b σ' ⟨iv,gz,rfl,jW,xe,CG⟩
    refine aH ?_
    refine adL ?_
    cases b with
    |false=>
     refine Au ?_;intros
     exact⟨⟨iv,jW⟩,gz,by simp,CG rfl⟩
    |true=>
     refine Au ?_;intros
     exact⟨⟨iv,jW⟩,gz,by simp,xe rfl⟩
   ·obtain⟨x,hx⟩:=x
    simp only at hA
    refine Au ?_;intros
    exact⟨⟨(k+1,x,_),bP,hx,by simp only;rw[hpt]at hA;rw[xc];exact hA⟩,by simp,by simp;rfl,by simp only;omega⟩
   ·cases e with
    |ret=>
     obtain⟨x,hx⟩:=x
     simp only at h
     show AH 2 (AH 1 (Co _ _ _ _ _)) .ret _ _
     refine adL ?_
     exact kS.mk x _ rfl hx (.inr h)
    |exit i=>exact h.elim
  ·obtain rfl:k=(Ch.zs c).length:=by omega
   refine Au ?_;intros
   exact kS.mk τ _ rfl pD (.inl ze)
def KG(c:Ch)(Tv:List (ka×Int))(k:Nat):List Sp:=Tv.flatMap fun p=>jI [] (Ht c (tz p.1 k) p.2)
def acI(c:Ch)(k:Nat)(p:ka×Int):Prop:=E0 p.1/\valid p.1/\k<p.1.length/\wd p.1 k=c.iY.length/\-200<=p.2/\p.2<=200
theorem aaa{c:Ch}(hc:zu c){Tv:List (ka×Int)}{k:Nat}(h:∀p∈Tv,acI c k p):∀s∈KG c Tv k,s.lo<=s.hi/\-101000<=s.lo/\s.hi<=101000:=by
 intro s hs
 obtain⟨p,hp,hs⟩:=fc.1 hs
 obtain⟨h1,h2,h3,h4,h5,h6⟩:=h p hp
 have hl:=Hr (Ki hc (Gy h2 h3) ⟨h5,h6⟩)
 exact⟨hl.1.ne s hs,hl.2 s hs⟩
theorem Q7(c:Ch)(hc:zu c)(k:Nat)(Tv:List (ka×Int))(tm:Int)(wn:AV)(an:Bool)(dZ:List AV)(ht:Pure Tryz.prog 82 [.bZ (A7 c) 0,n tm,wn,bl an] (.fn (.func 155) [] dZ))(D7:∀a∈dZ,bC a)(hwp:wn=.v (.slice none 0 0)\/∃l,wn=ec l)(lR:Iter Tryz.prog 155 [] dZ (ab7 Tv))(hv:∀p∈Tv,acI c k p)(hl:Tv.length<=2000000):Pure Tryz.prog 49 [.bZ (A7 c) 0,n k,n tm,wn,bl an] (iT (jI [] (KG c Tv k))):=by
 refine jX Tryz.f49.eq_1 [] [.l [5,6,11],.d 6] ?_
 have Dn:=kf c 0
 have Dc:=aaa hc hv
 obtain⟨Q,hQ⟩:∃Q:Nat->List Sp,∀j,Q j=KG c (Tv.take j) k:=⟨_,fun _=>rfl⟩
 have hQe:KG c Tv k=Q Tv.length:=by rw[hQ,aI]
 have l_:∀j p,Tv[j]?=some p->Q (j+1)=Q j++jI [] (Ht c (tz p.1 k) p.2):=fun j p h=>by rw[hQ,hQ,ey h];simp[KG]
 have hlen:∀j,j<=Tv.length->(Q j).length<=202001*j:=fun j=>by
  induction j with
  |zero=>intro _;rw[hQ];simp[KG]
  |succ j ih=>
   intro hj
   have e1:Tv[j]?=some Tv[j]:=ae (by omega)
   have h1:=ih (by omega)
   obtain⟨h2,h3,h4,h5,h6,h7⟩:=hv _ (ao e1)
   have h8:=MC (Hr (Ki hc (Gy h3 h4) ⟨h6,h7⟩))
   rw[l_ j _ e1,aM];omega
 have hQ0:Q 0=[]:=by rw[hQ];rfl
 rw[hQe]at Dc|-
 clear hQe hQ
 replace l_:=Yb.mk l_
 replace hlen:=Yb.mk hlen
 rcases hwp with rfl|⟨wl,rfl⟩
 all_goals
  refine Ay @ht ?_;intros
  refine aR.lH 52 2 (f:=0) (i:=0) (e:=0) (j:=0) rfl (by simp) rfl ?_
  refine aR.pQ (σ':=[some [⟨56,1,[[.own 1 0 (Q 0).length]],none⟩],some [jJ (Q 0)]]) (by rw[hQ0];rfl) ?_
  refine aR.TL (α:={x:Nat//x<=Tv.length}) (fun x=>[some [⟨56,1,[[.own 1 0 (Q x.1).length]],none⟩],some [jJ (Q x.1)]]) 2 (fun _=>rfl) (fun j x=>x.1=j) (fun _ _=>False) (ab7 Tv) ⟨0,aQ _⟩ rfl rfl rfl lR (fun j args h=>?_) (fun j x args ll ρ μ hj hA=>?_) (fun x μ hA=>?_) (fun e x μ h=>h.elim)
  ·obtain⟨p,_,rfl⟩:=aL.1 (by rw[aV]at h;exact h)
   rfl
  ·obtain⟨p,hp,rfl⟩:=aL.1 (by rw[aV]at hj;exact hj)
   obtain⟨x,hx⟩:=x
   simp only at hA
   subst hA
   have bP:x<Tv.length:=(ai.1 hp).1
   obtain⟨h2,h3,h4,h5,h6,h7⟩:=hv p (ao hp)
   have dQ:=acF c hc p.1 h2 h3 k h4 h5 p.2 ⟨h6,h7⟩
   have h8:=MC (Hr (Ki hc (Gy h3 h4) ⟨h6,h7⟩))
   have hN:=l_.out x p hp
   have xM:=hlen.out x hx
   generalize jI [] (Ht c (tz p.1 k) p.2)=J at*
   generalize hQA:Q x=A at*
   generalize hB:Q (x+1)=B at*
   obtain⟨T,z⟩:=p
   have hX:∀(a b r:Option (List Ob)) (o:Ob) (l:aG),aG.at (a::b::r::(μ++some [o]::l)) (List.length μ+3) 0=some o:=fun a b r o l=>by rw[cQ,cQ,cQ,dV];rfl
   have hU:∀(a b r:Option (List Ob)) (o o':Ob) (l:aG),aG.cZ (a::b::r::(μ++some [o]::l)) (List.length μ+3) 0 o'=a::b::r::(μ++some [o']::l):=fun a b r o o' l=>by simp[aG.cZ]
   simp only[par]
   refine Ax (aa @Ds (aa @hX @hU)) ?_;intros
   refine⟨⟨x,hx⟩,[some [⟨191,1,[[MH T]],none⟩]],by rw[hQA],fun ox=>?_⟩
   refine Az (aa @hX @hU) @dQ ?_;intros
   refine⟨⟨fun e he=>by rw[getD_map (ae he)];rfl,by rw[hQA];omega⟩,⟨x+1,bP⟩,[some [⟨191,1,[[MH T]],none⟩]],?_,rfl⟩
   simp only[hB,hN,hQA]
   simp
  ·obtain⟨x,hx⟩:=x
   obtain rfl:x=Tv.length:=by simp only at hA;rw[hA,aF]
   clear hA
   have hT:=CQ (Q Tv.length) (by have:=hlen.out Tv.length (ar _);omega) (fun s hs=>(Dc s hs).1) fun s hs=>by have:=Dc s hs;omega
   simp only
   generalize Q Tv.length=A at*
   generalize jI [] A=J at*
   show aR Tryz.prog 30 none _ _ _ _
   refine aR.sm (f:=1) (n:=A.length) (h:=0) (e:=0) (j:=0) (o:=jJ A) (oh:=⟨56,1,[[.own 1 0 A.length]],none⟩) rfl (by simp) (by simp) rfl (by decide) rfl (by simp) rfl ?_
   refine aR.pQ (σ':=some [⟨56,1,[[iT A]],none⟩]::none::μ) rfl ?_
   refine Ay @hT ?_;intros
   exact Fq
theorem XK{c:Ch}{r:Cr}(h:c.ok)(f:Fit c r):∀(d:Nat) (t:Nat) (s:St),(t:Int)+d=c.bD->Hf c r t s->∃p,p.length=d+1/\p[0]?=some ⟨c.idx s,r.D t⟩/\FT (c.iZ r.zero) t p/\∀j:Nat,j<=d->∃s',Hf c r ((t:Int)+j) s'/\p[j]?=some ⟨c.idx s',r.D ((t:Int)+j)⟩
 |d,t,s,ht,hs=>by
  have ht0:=h.t1
  have hm:=E9 h f (by omega) (by omega) hs
  have Bm:xS (c.iZ r.zero) t ⟨c.idx s,r.D t⟩:=by
   refine⟨by unfold Ch.idx;simp,by rw[yV h (by omega)];exact Mx hm,?_⟩
   simp only[tp,sg h (show t<c.bD.toNat+1 by omega),il]
   have hi:=pj hm
   rw[show(c.idx s).toNat=c.iY.idxOf s by unfold Ch.idx;omega,ab,aV,ae hi,List.getElem_idxOf hi]
   exact Hg h f (by omega) (by omega) hs
  cases d with
  |zero=>exact⟨[_],rfl,rfl,Bm,fun j hj=>by
   obtain rfl:j=0:=by omega
   exact⟨s,by simpa using hs,by simp⟩⟩
  |succ d=>
   obtain⟨s',nM,hw⟩:=J7 h f (by omega) (by omega) hs
   obtain⟨p,hp,hp0,hpw,hpj⟩:=XK h f d (t+1) s' (by omega) (by simpa using nM)
   refine⟨_::p,by simp[hp],rfl,pH.2 ⟨Bm,fun b hb=>?_,hpw⟩,fun j hj=>?_⟩
   ·rw[hp0]at hb
    injection hb with hb;subst hb
    have Tn:=E9 h f (by omega) (by omega) nM
    obtain⟨m1,m2,m3⟩:=J8 h f (s:=s) (s':=s') (by omega) (by omega) hs.off nM.off
    have dN:=(nI h.p1).1 Tn
    refine⟨⟨c.iY.idxOf s,c.iY.idxOf s',BF c.sh.eC s.off s'.off⟩,?_,by simp[Ch.idx],by simp[Ch.idx],by simpa using m2,by simpa using m3⟩
    unfold H6
    rw[ED,sg h (by omega)]
    have hi:=pj hm
    refine⟨c.iY.idxOf s,c.Mw t r.zero s,⟨c.idx s',BF c.sh.eC s.off s'.off⟩,?_,?_,by simp[Ch.idx]⟩
    ·rw[aV,ae hi,List.getElem_idxOf hi];rfl
    ·unfold Ch.Mw
     simp only
     rw[if_pos (by omega)]
     refine fc.2 ⟨_,hw,aO.2 ⟨⟨s'.off+c.cS,BF c.sh.eC s.off s'.off⟩,?_,?_⟩⟩
     ·exact aO.2 ⟨s'.off,cM.2 ⟨(yQ h.p1).2 dN.2.2.2.2,m1⟩,rfl⟩
     ·simp only[Int.add_sub_cancel]
   ·cases j with
    |zero=>exact⟨s,by simpa using hs,by simp⟩
    |succ j=>
     obtain⟨s2,g1,g2⟩:=hpj j (by omega)
     have e:((t:Int)+((j+1:Nat):Int))=((t+1:Nat):Int)+j:=by omega
     rw[e]
     exact⟨s2,g1,by simpa using g2⟩
theorem Tw{c:Ch}{r:Cr}(h:c.ok)(f:Fit c r){k:Nat}(hk:(k:Int)<=c.bD):∃(p:List At) (i:Nat) (s:St),p.length=(c.iZ r.zero).length/\FT (c.iZ r.zero) 0 p/\c.iY[i]?=some s/\p[k]?=some ⟨(i:Int),r.D k⟩/\r.D k+s.off+r.zero=r.L k:=by
 obtain⟨s0,CU⟩:=TR h f
 have:=h.t1
 obtain⟨p,h1,_,h3,h4⟩:=XK h f c.bD.toNat 0 s0 (by omega) (by simpa using CU)
 obtain⟨s,g1,g2⟩:=h4 k (by omega)
 have hm:=E9 h f (by omega) (by omega) g1
 have hi:=pj hm
 have ho:=g1.off
 simp only[Int.natCast_zero,Int.zero_add]at g2 ho
 exact⟨p,c.iY.idxOf s,s,by rw[h1,mJ h],h3,by rw[ae hi,List.getElem_idxOf hi],g2,by omega⟩
theorem abp{t t':ka}{tm:Nat}{Q:At->Prop}(hs:∀k,H6 t' k=H6 t k)(hp:∀k a,k≠tm->xS t k a->xS t' k a)(hq:∀a,Q a->xS t tm a->xS t' tm a):∀(p:List At) (k:Nat),FT t k p->(∀j a,k+j=tm->p[j]?=some a->Q a)->FT t' k p
 | [],_,_,_=>trivial
 |a::r,k,hw,hQ=>by
  obtain⟨h1,h2,h3⟩:=pH.1 hw
  refine pH.2 ⟨?_,fun b hb=>?_,abp hs hp hq r (k+1) h3 fun j b e hb=>hQ (j+1) b (by omega) (by simpa using hb)⟩
  ·by_cases e:k=tm
   ·subst e;exact hq a (hQ 0 a rfl rfl) h1
   ·exact hp k a e h1
  ·have:=h2 b hb
   unfold Gw at this|-
   rw[hs];exact this
theorem abq:∀{l l':List q_} (i:Nat),l.map (·.nx)=l'.map (·.nx)->rb i l=rb i l'
 | [],[],_,_=>rfl
 | [],_::_,_,h=>by simp at h
 |_::_,[],_,h=>by simp at h
 |x::l,y::l',i,h=>by
  simp only[bq,A9]at h
  simp only[rb,pY,h.1,abq (i+1) h.2]
section
variable {c:Ch} {t:ka} {z:Int} {tm:Nat} {p:List Sp} (hv:valid t) (hk:tm<t.length) (hw:wd t tm=c.iY.length)
include hv hk hw
theorem CX:(Fk c t z tm p).length=t.length:=by
 have _:=hv;have _:=hk;have _:=hw
 simp[Fk]
theorem Hs(k:Nat):(Fk c t z tm p).getD k []=if k=tm then Mp c (t.getD tm []) z p else t.getD k []:=by
 have _:=hv;have _:=hw
 unfold Fk
 rw[ab,bX]
 by_cases e:tm=k
 ·subst e;simp[hk]
 ·rw[if_neg e,if_neg (fun h=>e h.symm),ab]
theorem Qc:(Mp c (t.getD tm []) z p).length=c.iY.length:=by
 have _:=hv;have _:=hk
 unfold Mp;rw[aF,oG];unfold wd at hw;omega
theorem N2(k:Nat):wd (Fk c t z tm p) k=wd t k:=by
 unfold wd
 rw[Hs hv hk hw]
 by_cases e:k=tm
 ·subst e;rw[if_pos rfl,Qc hv hk hw];exact hw.symm
 ·rw[if_neg e]
theorem aco(k:Nat):H6 (Fk c t z tm p) k=H6 t k:=by
 unfold H6
 rw[Hs hv hk hw]
 by_cases e:k=tm
 ·subst e
  rw[if_pos rfl]
  refine abq 0 ?_
  unfold Mp
  rw[il]
  have:((fun x:q_=>x.nx)∘abm p z)=(fun x:q_=>x.nx)∘Prod.fst:=rfl
  rw[this,<-il,List.map_fst_zip (by unfold wd at hw;omega)]
 ·rw[if_neg e]
theorem TJ(hp:acZ p)(Cd:∀x∈t.getD tm [],x.al.length<=8):valid (Fk c t z tm p):=by
 refine⟨by rw[CX hv hk hw];exact hv.1,by rw[CX hv hk hw];exact hv.2.1,fun k UH=>?_⟩
 rw[CX hv hk hw]at UH
 rw[N2 hv hk hw,Hs hv hk hw]
 have h0:=hv.2.2 k UH
 by_cases e:k=tm
 ·subst e
  rw[if_pos rfl]
  refine⟨by rw[Qc hv hk hw,<-hw];exact h0.1,by rw[Qc hv hk hw,<-hw];exact h0.2.1,fun x hx=>?_⟩
  obtain⟨⟨y,s⟩,hy,rfl⟩:=aO.1 hx
  have hym:=(List.of_mem_zip hy).1
  obtain⟨⟨g1,g2⟩,g3,g4⟩:=h0.2.2 y hym
  have hn:=Rn g2.1 (Q3 hp.1.1 (-s.off-z))
  refine⟨⟨?_,hn,Bz hn fun v hv=>Jp g2.2 ((Qb v).1 hv).1⟩,g3,g4⟩
  have h1:=ab4 g2.1 (Q3 hp.1.1 (-s.off-z))
  have h2:=Cd y hym
  have h3:=hp.2
  rw[CW]at h1
  show(A4 y.al (CE p (-s.off-z))).length<=64
  omega
 ·rw[if_neg e];exact h0
theorem acp{q:List At}{i:Nat}{s:St}{v:Int}(hq:FT t 0 q)(hs:c.iY[i]?=some s)(hi:q[tm]?=some ⟨(i:Int),v⟩)(hm:Mem (v+s.off+z) p):FT (Fk c t z tm p) 0 q:=by
 refine abp (tm:=tm) (Q:=fun a=>a=⟨(i:Int),v⟩) (aco hv hk hw) (fun k a e h=>?_) (fun a e h=>?_) q 0 hq fun j a e ha=>?_
 ·obtain⟨h1,h2,h3⟩:=h
  refine⟨h1,by rw[N2 hv hk hw];exact h2,?_⟩
  unfold tp at h3|-
  rw[Hs hv hk hw,if_neg e];exact h3
 ·subst e
  obtain⟨h1,h2,h3⟩:=h
  refine⟨h1,by rw[N2 hv hk hw];exact h2,?_⟩
  unfold tp at h3|-
  rw[Hs hv hk hw,if_pos rfl]
  have ON:i<(t.getD tm []).length:=by unfold wd at h2;simp only at h2;omega
  generalize t.getD tm []=N at*
  have hx:N[i]?=some N[i]:=ae ON
  have hz:=(ir (z:=(N[i],s))).2 ⟨hx,hs⟩
  simp only[show((i:Int)).toNat=i from rfl,ab,aV,hx,aY,bV,Mp,hz]at h3|-
  simp only[abm]
  rw[Qb,RN]
  refine⟨h3,?_⟩
  rw[show v-(-s.off-z)=v+s.off+z by omega];exact hm
 ·obtain rfl:j=tm:=by omega
  rw[hi]at ha;exact(v_ ha).symm
end
theorem acq{c:Ch}{z:Int}(h1:c.sh.eC.zero.lo<=z)(h2:z<=c.sh.eC.zero.hi):(Ch.zs c)[(z-c.sh.eC.zero.lo).toNat]?=some z:=by
 unfold Ch.zs
 rw[aV,cH (by omega)]
 simp;omega
theorem acO{c:Ch}(hc:zu c){z:Int}(hz:z∈Ch.zs c):-200<=z/\z<=200:=by
 have hp:=hc.eC
 unfold Pn.ok at hp
 obtain⟨i,hi⟩:=fb.1 hz
 have:=Nu hi
 omega
abbrev tkA(c:Ch):List (ka×Int):=(Ch.zs c).map fun z=>(c.iZ z,z)
theorem acr{c:Ch}(hc:zu c){k:Nat}(hk:(k:Int)<=c.bD):∀p∈tkA c,acI c k p:=by
 intro p hp
 obtain⟨z,hz,rfl⟩:=aO.1 hp
 have:=hc.ok.t1
 exact⟨Fg hc.ok hc.TM z,oX hc.ok hc.TM z,by rw[mJ hc.ok];omega,yV hc.ok (by omega),acO hc hz⟩
theorem acs{c:Ch}(hc:zu c):(Ch.zs c).length<=401:=by
 have hp:=hc.eC
 unfold Pn.ok at hp
 rw[T1];omega
theorem acu{c:Ch}(hc:zu c){z:Int}{k:Nat}(hk:(k:Int)<=c.bD):∀x∈(c.iZ z).getD k [],x.al.length<=8:=by
 have:=hc.ok.t1
 intro x hx
 rw[sg hc.ok (by omega)]at hx
 obtain⟨s,hs,rfl⟩:=aO.1 hx
 show(c.allow s k z).length<=8
 obtain⟨i1,i2,i3⟩:=EM hc.ok s.en
 unfold Ch.allow
 split
 ·simp
 split
 ·simp
 split
 ·exact bT (vL _ _).2.2 (by simp only[bf,bM];omega)
 ·simp
theorem acv{l:List Sp}(hl:MB l):parts l<=4041:=by
 have:=MC hl
 unfold parts;omega
theorem abX{l:List Sp}(hl:MB l)(j:Nat):acZ (Go.Abs.part l j):=⟨⟨XG hl.1 j,fun s hs=>hl.2 s (List.mem_of_mem_drop (dx hs))⟩,aar l j⟩
theorem acw{c:Ch}(hc:zu c){k:Nat}(hk:(k:Int)<=c.bD){l:List Sp}(hl:MB l):∀p∈tkB c k l,acI c k p:=by
 intro p hp
 obtain⟨m,hm,rfl⟩:=aO.1 hp
 have hm:=bc.1 hm
 have h0:0<parts l:=gA fun e=>by rw[e,Nat.mul_zero]at hm;omega
 have hz:m/parts l<(Ch.zs c).length:=(Nat.div_lt_iff_lt_mul h0).2 hm
 have hzm:(Ch.zs c).getD (m/parts l) 0∈Ch.zs c:=by rw[ab,ae hz];exact cv _
 generalize(Ch.zs c).getD (m/parts l) 0=z at*
 have h1:=hc.ok.t1
 have hv:=oX hc.ok hc.TM z
 have UH:k<(c.iZ z).length:=by rw[mJ hc.ok];omega
 have hw:wd (c.iZ z) k=c.iY.length:=yV hc.ok (by omega)
 have hv2:=TJ (p:=Go.Abs.part l (m % parts l)) (z:=z) hv UH hw (abX hl _) (acu hc hk)
 have eX:=Fg hc.ok hc.TM z
 refine⟨⟨by rw[CX hv UH hw];exact eX.1,fun x hx=>?_⟩,hv2,by rw[CX hv UH hw];exact UH,by rw[N2 hv UH hw];exact hw,acO hc hzm⟩
 rcases List.mem_or_eq_of_mem_set hx with hx|rfl
 ·exact eX.2 x hx
 ·have h2:=hv2.2.2 k (by rw[CX hv UH hw];exact UH)
  rw[Hs hv UH hw,if_pos rfl]at h2
  have h3:=h2.2.1
  refine⟨by omega,fun y hy=>?_⟩
  have:=h2.2.2 y hy
  have h4:=this.1.1
  have h5:=this.2.1
  exact⟨by omega,by omega⟩
theorem XL{c:Ch}(hc:zu c){r:Cr}(f:Fit c r)(h1:c.sh.eC.zero.lo<=r.zero)(h2:r.zero<=c.sh.eC.zero.hi){k:Nat}(hk:(k:Int)<=c.bD):Mem (r.L k) (KG c (tkA c) k):=by
 obtain⟨p,i,s,g1,g2,g3,g4,g5⟩:=Tw hc.ok f hk
 have h0:=hc.ok.t1
 refine mem_flatMap.2 ⟨_,aO.2 ⟨r.zero,ao (acq h1 h2),rfl⟩,?_⟩
 rw[<-g5]
 exact Tu hc (oX hc.ok hc.TM _) (by rw[mJ hc.ok];omega) (yV hc.ok (by omega)) g3 g1 g4 g2
theorem acx{c:Ch}(hc:zu c){r:Cr}(f:Fit c r)(h1:c.sh.eC.zero.lo<=r.zero)(h2:r.zero<=c.sh.eC.zero.hi){k:Nat}(hk:(k:Int)<=c.bD){l:List Sp}(hl:MB l)(hm:Mem (r.L k) l):Mem (r.L k) (KG c (tkB c k l) k):=by
 obtain⟨p,i,s,g1,g2,g3,g4,g5⟩:=Tw hc.ok f hk
 have h0:=hc.ok.t1
 obtain⟨j,hj,hmj⟩:=ab' hm
 have hv:=oX hc.ok hc.TM r.zero
 have UH:k<(c.iZ r.zero).length:=by rw[mJ hc.ok];omega
 have hw:wd (c.iZ r.zero) k=c.iY.length:=yV hc.ok (by omega)
 have hv2:=TJ (p:=Go.Abs.part l j) (z:=r.zero) hv UH hw (abX hl _) (acu hc hk)
 refine mem_flatMap.2 ⟨_,ao (abV (acq h1 h2) hj),?_⟩
 rw[<-g5]at hmj|-
 exact Tu hc hv2 (by rw[CX hv UH hw];exact UH) (by rw[N2 hv UH hw];exact hw) g3 (by rw[CX hv UH hw];exact g1) g4 (acp hv UH hw g2 g3 g4 hmj)
theorem aab(c:Ch)(hc:zu c)(k:Nat)(hk:(k:Int)<=c.bD)(tm:Int):Pure Tryz.prog 49 [.bZ (A7 c) 0,n k,n tm,.v (.slice none 0 0),bl true] (iT (jI [] (KG c (tkA c) k))):=by
 have Dn:=kf c 0
 refine Q7 c hc k (tkA c) tm _ true _ (N1 c tm true _ (.inl rfl)) (fun a ha=>?_) (.inl rfl) ?_ (acr hc hk) (by have:=acs hc;simp;omega)
 ·simp only[aC,au,or_false]at ha
  rcases ha with rfl|rfl|rfl|rfl<;>simp[Dn]
 ·have:=YD c hc tm
  unfold K9 at this
  simpa[ab7,tkA,Function.comp_def]using this
theorem aac(c:Ch)(hc:zu c)(k:Nat)(hk:(k:Int)<=c.bD)(l:List Sp)(hl:MB l):Pure Tryz.prog 49 [.bZ (A7 c) 0,n k,n k,ec l,bl false] (iT (jI [] (KG c (tkB c k l) k))):=by
 have Dn:=kf c 0
 refine Q7 c hc k (tkB c k l) k _ false _ (N1 c k false _ (.inr ⟨l,rfl⟩)) (fun a ha=>?_) (.inr ⟨l,rfl⟩) (Z2 c hc k hk l hl) (acw hc hk hl) ?_
 ·simp only[aC,au,or_false]at ha
  rcases ha with rfl|rfl|rfl|rfl<;>simp[Dn]
 ·rw[abW]
  have:=Nat.mul_le_mul (acs hc) (acv hl)
  omega
end Go.Proofs.YtgopgjnfhkoomaaGreat
