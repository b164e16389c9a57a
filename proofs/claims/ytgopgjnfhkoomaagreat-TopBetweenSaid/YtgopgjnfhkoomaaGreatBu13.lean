/- Part 13 of the texts: abstract values over the walk; contracts. -/
import Derived.Test.YtgopgjnfhkoomaaGreatBu8
import Derived.Test.YtgopgjnfhkoomaaGreatBu9
import Derived.Test.YtgopgjnfhkoomaaGreatRows
set_option linter.unusedVariables false
set_option linter.unusedSimpArgs false
namespace Go.Proofs.YtgopgjnfhkoomaaGreat
open Go.Abs
open Nat (reduceAdd reduceSub reduceLT reduceLeDiff reduceMul reduceEqDiff)
set_option maxHeartbeats 4000000
set_option maxRecDepth 100000
theorem MW(t:ka)(hs:E0 t)(h:valid t):Pure Tryz.prog 83 [Af t] (.iu [GR (BB t),n 0]):=by
 have ht:Pure Tryz.prog 159 [Af t,.fn (.func 160) [] []] (.iu [GR (BB t),n 0]):=by
  refine jX Tryz.f159.eq_1 [] [] ?_
  have hc:=zk t hs
  rw[tE h]at hc
  simp only[if_true]at hc
  refine Ay (aa @hc (MT t h)) ?_;intros
  all_goals exact Fq
 refine jX Tryz.f83.eq_1 [] [] ?_
 refine Ay @ht ?_;intros
 all_goals exact Fq
def Ch.zs(c:Ch):List Int:=(List.range (c.sh.eC.zero.hi+1-c.sh.eC.zero.lo).toNat).map fun(k:Nat)=>(k:Int)+c.sh.eC.zero.lo
def oo(c:Ch)(a b:AV):List AV:=[n c.sh.bz.mU,n c.sh.bz.ej,n c.sh.bz.lj,n c.sh.bz.low,n c.sh.bz.high,n c.sh.bz.jY,n c.sh.bz.along.lo,n c.sh.bz.along.hi,n c.sh.bz.fW.lo,n c.sh.bz.fW.hi,
 AO c.sh.trace,l9 c.sh.eu,ec c.sh.rates,mb c.sh.stops,n c.sh.eC.cS,n c.sh.eC.zero.lo,n c.sh.eC.zero.hi,n c.sh.eC.kc,mb c.marks,Jw c.reads,n c.bD,mZ c.Cy,ec c.kz,a,b,l9 (Ch.zs c)]
theorem E7(c:Ch){a b:AV}(ha:bC a)(hb:bC b):∀x∈oo c a b,bC x:=by
 unfold oo
 simp only[aC,au,or_false,forall_eq_or_imp,forall_eq]
 simp[ha,hb]
theorem zC:(∀c a b,(oo c a b).length=26)/\(∀c a b,(oo c a b)[12]?=some (ec c.sh.rates))/\(∀c a b,(oo c a b)[14]?=some (n c.sh.eC.cS))/\(∀c a b,(oo c a b)[15]?=some (n c.sh.eC.zero.lo))/\(∀c a b,(oo c a b)[16]?=some (n c.sh.eC.zero.hi))/\(∀c a b,(oo c a b)[18]?=some (mb c.marks))/\(∀c a b,(oo c a b)[19]?=some (Jw c.reads))/\(∀c a b,(oo c a b)[20]?=some (n c.bD))/\(∀c a b,(oo c a b)[21]?=some (mZ c.Cy))/\(∀c a b,(oo c a b)[22]?=some (ec c.kz))/\(∀c a b,(oo c a b)[23]?=some a)/\(∀c a b,(oo c a b)[24]?=some b)/\(∀c a b,(oo c a b)[25]?=some (l9 (Ch.zs c)))/\(∀c a b,((oo c a b).drop 14).take 4=Pn.cs c.sh.eC)/\(∀c a b,(oo c a b).take 18=fT.cs c.sh):=by
 refine⟨?_,?_,?_,?_,?_,?_,?_,?_,?_,?_,?_,?_,?_,?_,?_⟩<;>intros<;>rfl
@[simp] theorem BR{c:Ch}{a b:AV}(ha:bC a)(hb:bC b)(j:Nat):bC (.bZ (oo c a b) j):=.bZ (E7 c ha hb)
theorem sq(s:Sp)(x:Int):Pure Tryz.prog 72 [.agg s.cs,n x] (bl (decide (s.lo<=x/\x<=s.hi))):=by
 refine jX Tryz.f72.eq_1 [] [] ?_
 refine Au ?_;intros
 all_goals exact bO.eq (congrArg bl (by first|rfl|(rw[cV];simp<;>try omega))) (by simp)
theorem wb(c:Ch)(hc:c.ok)(a b:AV)(k:Int)(h1:-1<=k)(h2:k<=c.last):Pure Tryz.prog 154 [.bZ (oo c a b) 0,n k] (n (c.stay k)):=by
 refine jX Tryz.f154.eq_1 [] [.d 14] ?_
 unfold Ch.stay
 have hl:c.last=c.kz.length:=rfl
 have hg:=hc.g2
 by_cases e1:k=-1
 ·rw[if_pos e1]
  subst e1
  refine Ax @zC ?_;intros
  all_goals first|(exfalso;omega)|exact Fq
 ·rw[if_neg e1]
  by_cases e2:k=c.last
  ·rw[if_pos e2]
   rw[hl]at e2
   refine Ax @zC ?_;intros
   all_goals first|(exfalso;omega)|exact Fq
  ·rw[if_neg e2]
   have hr:(c.kz.map Sp.cs).getD k.toNat []=Sp.cs (c.yO k):=row _ (by omega)
   refine Ax (aa @zC @hr) ?_;intros
   all_goals first|(exfalso;omega)|exact Fq
theorem JZ(c:Ch)(hc:c.ok)(a b:AV)(ha:bC a)(hb:bC b):Pure Tryz.prog 153 [.bZ (oo c a b) 0] (n (c.iY.length:Int)):=by
 refine jX Tryz.f153.eq_1 [] [.l [0,3,4]] ?_
 have Dn:=BR (c:=c) ha hb 0
 have hg:=hc.g2
 have hl:c.last=c.kz.length:=rfl
 have I8:=hc.p1
 have F':=hc.p2
 rw[show(c.iY.length:Int)=c.sum (c.kz.length+2)*(2*c.cS+1)from vU hc (ar _)]
 have hn:=CB hc (ar _)
 have hm:=yG hn.1 (show c.sum (c.kz.length+2)<=80400 by omega) (show 0<=2*c.cS+1 by omega) (show 2*c.cS+1<=17 by omega)
 have e0:c.sh.eC.cS=c.cS:=rfl
 refine Au ?_;intros
 refine aR.VW (α:={m:Nat//m<=c.kz.length+2}) [3,4] (fun m=>[(3,n (c.sum m.1)),(4,n ((m.1:Int)-1))]) (fun m=>c.kz.length+2-m.1) ⟨0,aQ _⟩ ?_ ?_
 ·(simp only[zN,zT,zV,zS,zU,dC,ex,bu,bN,elems,cells,scalar,dH,bL,aX,aU,bJ,bI,Nat.reduceBEq,reduceAdd,reduceSub,reduceLT,reduceLeDiff,reduceMul,reduceEqDiff,reduceIte];try simp)
  rfl
 ·rintro⟨m,Tn⟩
  have hs:=CB hc Tn
  by_cases bP:m<c.kz.length+2
  ·have cn:=oc hc (k:=(m:Int)-1) (by omega) (by omega)
   have h:=wb c hc a b ((m:Int)-1) (by omega) (by omega)
   refine Az @zC @h ?_;intros
   exact⟨⟨m+1,bP⟩,⟨by rfl,by simp<;>omega⟩,by simp only;omega⟩
  ·obtain rfl:m=c.kz.length+2:=by omega
   refine Ax (aa @zC @e0) ?_;intros
   exact Fq
theorem G7(c:Ch)(hc:c.ok)(a b:AV)(ha:bC a)(hb:bC b):Pure Tryz.prog 79 [.bZ (oo c a b) 0] (bl (decide (4000<c.iY.length))):=by
 refine jX Tryz.f79.eq_1 [] [] ?_
 have Dn:=BR (c:=c) ha hb 0
 refine Ay (JZ c hc a b ha hb) ?_;intros
 all_goals exact bO.eq (congrArg bl (by rw[decide_eq_decide];omega)) (by simp)
theorem apart_spec(a b:Int)(h1:-100000<=a)(h2:a<=100000)(h3:-100000<=b)(h4:b<=100000):Pure Tryz.prog 183 [n a,n b] (n (max (a-b) (b-a))):=by
 refine jX Tryz.f183.eq_1 [] [] ?_
 refine Au ?_;intros
 all_goals exact Fq
def A5(p:Pn)(o:Int)(k:Nat):List qy:=(((xE p.cS).take k).filter (yP p o)).map fun to=>⟨to+p.cS,BF p o to⟩
theorem J0{p:Pn}{o:Int}{k:Nat}(hk:k<(2*p.cS+1).toNat):A5 p o (k+1)=if yP p o ((k:Int)-p.cS)=true then A5 p o k++[⟨(k:Int)-p.cS+p.cS,BF p o ((k:Int)-p.cS)⟩]else A5 p o k:=by
 have e:(xE p.cS).take (k+1)=(xE p.cS).take k++[(k:Int)-p.cS]:=by
  rw[ba]
  simp[xE,hk]
 unfold A5
 rw[e,fK,di]
 by_cases h:yP p o ((k:Int)-p.cS)=true
 ·simp[h]
 ·simp[h]
theorem MX(p:Pn)(o:Int)(k:Nat):(A5 p o k).length<=k:=by
 unfold A5
 rw[aF]
 refine bT (bK _ _) ?_
 rw[bH];omega
theorem G8(p:Pn)(hp:p.ok)(o:Int)(h1:-p.cS<=o)(h2:o<=p.cS):Pure Tryz.prog 259 [.agg p.cs,n o] (.iu [Oo (oW p o),n 0]):=by
 refine jX Tryz.f259.eq_1 [] [.l [1,2,7,8],.d 21] ?_
 have hc:=mL p
 rw[if_pos hp]at hc
 have hw:=pJ o (-p.cS) p.cS
 obtain⟨⟨b1,b2⟩,z1,z2,z3,z4,r1,r2⟩:=hp
 have hN:oW p o=A5 p o (2*p.cS+1).toNat:=by
  unfold A5 oW
  rw[cD (by rw[yR];omega)]
 have l_:=fun k=>J0 (p:=p) (o:=o) (k:=k)
 have yu:=MX p o
 have Ot:A5 p o 0=[]:=rfl
 rw[hN]
 have WD:∀to,yP p o to=decide ((BF p o to).lo<=0/\0<=(BF p o to).hi/\(BF p o to≠⟨0,0⟩\/max (to-o) (o-to)<=p.kc)):=fun _=>rfl
 have K6:∀to,BF p o to=⟨if to=-p.cS then-p.kc+p.cS+o else 0,if to=p.cS then p.kc-p.cS+o else 0⟩:=fun _=>rfl
 generalize A5 p o=L at*
 generalize yP p o=M at*
 generalize BF p o=V at*
 obtain⟨b,⟨zl,zh⟩,q⟩:=p
 simp only at*
 obtain⟨N,hNn⟩:∃N,N=(2*b+1).toNat:=⟨_,rfl⟩
 rw[<-hNn]at l_|-
 refine Ay (aa @hc @hw) ?_;intros
 refine aR.oC 392 3 7 rfl ?_
 refine aR.mT (α:={x:Nat×aG//x.1<=N}) [7,8] (fun x=>[(7,.own 0 0 (L x.1.1).length),(8,n ((x.1.1:Int)-b))]) (fun x=>some [⟨392,3,(L x.1.1).map qy.cs,none⟩]::x.1.2) (fun x=>N-x.1.1) ⟨(0,[]),by simp⟩ ?_ ?_ ?_
 ·(simp only[zN,zT,zV,zS,zU,dC,ex,bu,bN,elems,cells,scalar,dH,bL,aX,aU,bJ,bI,Nat.reduceBEq,reduceAdd,reduceSub,reduceLT,reduceLeDiff,reduceMul,reduceEqDiff,reduceIte];try simp)
  rw[Ot];rfl
 ·simp[Ot]
 rintro⟨⟨k,μ⟩,hk⟩
 simp only at hk
 have hl:=yu k
 by_cases bP:k<N
 ·have hn:=l_ k bP
  have HT:=apart_spec ((k:Int)-b) o (by omega) (by omega) (by omega) (by omega)
  have hv:=K6 ((k:Int)-b)
  have hm:=WD ((k:Int)-b)
  have hle:(k:Int)-b<=b:=by omega
  have As:-b<=(k:Int)-b:=by omega
  have rQ:(k:Int)-b+1=((k+1:Nat):Int)-b:=by omega
  generalize VS:(k:Int)-b=to at*
  have lh:∀x y:Int,V to=⟨x,y⟩->(x<=0/\0<=y/\(¬(x=0/\y=0)\/max (to-o) (o-to)<=q)->L (k+1)=L k++[⟨to+b,⟨x,y⟩⟩])/\(¬(x<=0/\0<=y/\(¬(x=0/\y=0)\/max (to-o) (o-to)<=q))->L (k+1)=L k):=fun x y e=>by
   rw[e]at hm hn
   simp only[ne_eq,Sp.mk.injEq]at hm
   refine⟨fun h=>?_,fun h=>?_⟩
   ·rw[hn,if_pos (by rw[hm];exact decide_eq_true h)]
   ·rw[hn,if_neg (by rw[hm,decide_eq_false h];exact gC)]
  have hD:∀(l:List qy) (m:Nat) (JN:aG),L (k+1)=l->m=l.length->∀es,es=l.map qy.cs->∃y:{x:Nat×aG//x.1<=N},(AV.own 0 0 m=.own 0 0 (L y.1.1).length/\n (to+1)=n ((y.1.1:Int)-b))/\some [⟨392,3,es,none⟩]::JN=some [⟨392,3,(L y.1.1).map qy.cs,none⟩]::y.1.2/\N-y.1.1<N-k:=
   fun l m JN h hm es he=>⟨⟨(k+1,JN),bP⟩,⟨by rw[h,hm],by rw[rQ]⟩,by rw[h,he],by simp only;omega⟩
  by_cases e1:to=b
  ·rw[if_pos e1]at hv
   by_cases e2:to=-b
   ·rw[if_pos e2]at hv
    obtain⟨g1,g2⟩:=lh _ _ hv
    clear lh hm hn WD K6
    subst e1
    have e3:(to=-to)=True:=eq_true e2
    iterate 15
     refine aeg (aa @hle @e3) @HT ?_;intros
    clear e3 e2
    (refine Au ?_ (CM ?_)<;>intros)
    all_goals first|(refine hD _ _ _ (g1 ?_) ?_ _ ?_<;>first|omega|(simp;done))|(refine hD _ _ _ (g2 ?_) ?_ _ ?_<;>first|omega|(simp;done))|fail
   ·rw[if_neg e2]at hv
    obtain⟨g1,g2⟩:=lh _ _ hv
    clear lh hm hn WD K6
    subst e1
    (refine Az (aa @hle @e2) @HT ?_ (CM ?_)<;>intros)
    all_goals first|(refine hD _ _ _ (g1 ?_) ?_ _ ?_<;>first|omega|(simp;done))|(refine hD _ _ _ (g2 ?_) ?_ _ ?_<;>first|omega|(simp;done))|fail
  ·rw[if_neg e1]at hv
   by_cases e2:to=-b
   ·rw[if_pos e2]at hv
    obtain⟨g1,g2⟩:=lh _ _ hv
    clear lh hm hn WD K6
    subst e2
    (refine Az (aa @hle @e1) @HT ?_ (CM ?_)<;>intros)
    all_goals first|(refine hD _ _ _ (g1 ?_) ?_ _ ?_<;>first|omega|(simp;done))|(refine hD _ _ _ (g2 ?_) ?_ _ ?_<;>first|omega|(simp;done))|fail
   ·rw[if_neg e2]at hv
    obtain⟨g1,g2⟩:=lh _ _ hv
    clear lh hm hn WD K6
    (refine Az (aa @hle (aa @e1 @e2)) @HT ?_ (CM ?_)<;>intros)
    all_goals first|(refine hD _ _ _ (g1 ?_) ?_ _ ?_<;>first|omega|(simp;done))|(refine hD _ _ _ (g2 ?_) ?_ _ ?_<;>first|omega|(simp;done))|fail
 ·have hkN:k=N:=by omega
  subst hkN
  have Vd:¬(k:Int)-b<=b:=by omega
  refine Ax @Vd ?_;intros
  exact bO.mY ⟨bO.gZ (T:=392) (cs:=qy.cs) (l:=L k) rfl rfl (by decide) (fun a=>by simp) (fun a=>rfl),Fq,trivial⟩
theorem Dp(f:Nat)(dZ:List AV)(ep:∀c∈dZ,bC c)(q:Mk->Bool)(l:List Mk)(hl:l.length<9223372036854775808)(hq:∀x∈l,Pure Tryz.prog f ([.agg (Mk.cs x)]++dZ) (bl (q x))):Pure Tryz.prog 256 [mb l,.fn (.func f) [] dZ] (bl (l.any q)):=by
 refine jX Tryz.f256.eq_1 [] [] ?_
 have h:=lK q l 0
 refine Au ?_;intros
 refine .inl ⟨_,_,_,_,rfl,fun _=>.of ?_ (wc f dZ ep q l hl hq),?_⟩
 ·intro a ha
  simp only[aK,aD,aC,bb,au,or_false]at ha
  rcases ha with rfl|rfl
  ·simp
  ·exact bC.fn (fun _ h=>absurd h (au)) ep
 refine aH ?_
 refine Au ?_;intros
 rw[<-h]
 exact Fq
theorem MY(m:Mk)(s:St)(t:Int):Pure Tryz.prog 257 [.agg m.cs,.bZ s.cs 0,.bZ [n t] 0] (bl (uG s.en t m)):=by
 refine jX Tryz.f257.eq_1 [] [] ?_
 unfold uG
 refine Ay (sq m.bD t) ?_;intros
 all_goals exact bO.eq (congrArg bl (by first|rfl|(rw[cV];simp<;>try omega))) (by simp)
def uT(c:Ch)(t b:Int)(k:Nat):Sp:=(c.reads.take k).foldl (Cz t b) ⟨max 0 (-b),min 12000 (12000-b)⟩
theorem G9{c:Ch}{t b:Int}{k:Nat}{r:Rd}(h:c.reads[k]?=some r):uT c t b (k+1)=Cz t b (uT c t b k) r:=p8 h
theorem MZ(c:Ch)(t b:Int)(k:Nat):0<=(uT c t b k).lo/\(uT c t b k).hi<=12000:=by
 unfold uT
 refine tI (p:=fun o:Sp=>0<=o.lo/\o.hi<=12000) (fun o r h=>?_) _ _ (by simp only;omega)
 unfold Cz
 split
 ·simp only;omega
 ·exact h
theorem Dq(c:Ch)(hc:c.ok)(a b:AV)(ha:bC a)(hb:bC b)(s:St)(hs:s∈c.iY)(t z:Int)(ht:0<=t/\t<=c.bD)(hz:-200<=z/\z<=200)(hm:c.marks.length<=64)(hr:c.reads.length<=64)(hi:c.Cy.length=c.kz.length+1)(vv:∀r∈c.reads,0<=r.levels.lo/\r.levels.lo<=12000/\0<=r.levels.hi/\r.levels.hi<=12000):Pure Tryz.prog 216 [.bZ (oo c a b) 0,.agg s.cs,n t,n z] (iT (c.allow s t z)):=by
 refine jX Tryz.f216.eq_1 [] [.d 16,.d 13,.l [0,5,6,11,12,71,72,73],.d 18,.d 23] ?_
 have hl:c.last=c.kz.length:=rfl
 obtain⟨s1,s2,s3,s4,s5,s6⟩:=(nI hc.p1).1 hs
 have F':=hc.p2
 have Oc:=hc.g2
 have hA:c.allow s t z=if t=0/\¬(s.en=-1\/s.en=0/\s.n_=0)\/t=c.bD/\s.en≠c.last then []else if(c.out t (s.off+z)).hi<(c.out t (s.off+z)).lo\/s.pass/\c.marks.any (uG s.en t)=true then []
  else if s.pass/\c.oa s.en≠[]then meet (c.oa s.en) [c.out t (s.off+z)]else [c.out t (s.off+z)]:=rfl
 have hO:c.out t (s.off+z)=uT c t (s.off+z) c.reads.length:=by unfold uT;rw[aI];rfl
 have l_:=fun k r=>G9 (c:=c) (t:=t) (b:=s.off+z) (k:=k) (r:=r)
 have Dc:=MZ c t (s.off+z)
 have h0:uT c t (s.off+z) 0=⟨max 0 (-(s.off+z)),min 12000 (12000-(s.off+z))⟩:=rfl
 obtain⟨i1,i2,i3⟩:=EM hc s.en
 have hir:(c.Cy.map fun l=>[iT l]).getD s.en.toNat []=[iT (c.oa s.en)]:=getD_map (getD_some (by omega))
 have Rw:=Dp 257 [.bZ s.cs 0,.bZ [n t] 0] (by simp) (uG s.en t) c.marks (by omega) (fun m _=>MY m s t)
 rw[hO]at hA
 rw[hA]
 clear hA hO
 generalize uT c t (s.off+z)=O at*
 have Lo:-208<=s.off+z/\s.off+z<=208:=by omega
 by_cases h1:t=0/\¬(s.en=-1\/s.en=0/\s.n_=0)\/t=c.bD/\s.en≠c.last
 ·rw[if_pos h1]
  rw[hl]at h1
  refine Ax @zC ?_;intros
  all_goals exact so
 ·rw[if_neg h1]
  rw[hl]at h1
  refine Ax @zC ?_;intros
  refine aR.le (α:={x:Nat×aG//x.1<=c.reads.length}) [73] (fun x=>[(73,n x.1.1)]) (fun x=>some [⟨52,2,[(O x.1.1).cs],none⟩]::x.1.2) (fun x=>c.reads.length-x.1.1) ⟨(0,[]),by simp⟩ ?_ ?_
  ·simp only[h0]
  rintro⟨⟨k,μ⟩,hk⟩
  simp only at hk
  have hbk:=Dc k
  by_cases bP:k<c.reads.length
  ·obtain⟨r,JO⟩:∃r,c.reads[k]?=some r:=⟨_,ae bP⟩
   have hn:=l_ k r JO
   have hrr:=vv r (ao JO)
   have cX:(c.reads.map Rd.cs).getD k []=Rd.cs r:=getD_map JO
   unfold Cz at hn
   by_cases e:r.tick=t
   ·rw[if_pos e]at hn
    refine Ax (aa @zC (aa @cX @e)) ?_;intros
    exact⟨⟨(k+1,_),bP⟩,by simp,by rw[hn],by simp only;omega⟩
   ·rw[if_neg e]at hn
    refine Ax (aa @zC (aa @cX @e)) ?_;intros
    exact⟨⟨(k+1,_),bP⟩,by simp,by rw[hn],by simp only;omega⟩
  ·obtain rfl:k=c.reads.length:=by omega
   generalize O c.reads.length=o at*
   have Oq:o.lo<=o.hi->Pure Tryz.prog 258 [iT (c.oa s.en),.sl 2 [o.cs]] (.iu [iT (meet (c.oa s.en) [o]),n 0]):=fun h=>by
    have:=JT (c.oa s.en) [o] (by omega) (by simp)
    rw[tE ⟨⟨by omega,i1,fun s hs=>by have:=i2 s hs;omega⟩,by simp,EL h (by omega) (by omega)⟩]at this
    exact this
   clear l_ Dc
   generalize c.oa s.en=X at*
   by_cases h2:o.hi<o.lo\/s.pass/\c.marks.any (uG s.en t)=true
   ·rw[if_pos h2]
    have hB:(decide (o.hi<o.lo)||decide (0<=s.en/\s.n_=0)&&c.marks.any (uG s.en t))=true:=by simpa[St.pass]using h2
    refine Az (aa @zC @hB) @Rw ?_;intros
    all_goals exact so
   ·rw[if_neg h2]
    have hB:(decide (o.hi<o.lo)||decide (0<=s.en/\s.n_=0)&&c.marks.any (uG s.en t))=false:=by simpa[St.pass]using h2
    have tP:o.lo<=o.hi:=by simp at hB;omega
    have hM:=Oq tP
    by_cases h3:s.pass/\X≠[]
    ·rw[if_pos h3]
     have h4:=eQ.2 h3.2
     have h5:0<=s.en/\s.n_=0:=h3.1
     refine Az (aa @zC (aa @hB @hir)) (aa @Rw @hM) ?_;intros
     all_goals exact Fq
    ·rw[if_neg h3]
     have h4:¬((0<=s.en/\s.n_=0)/\0<X.length):=fun h=>h3 ⟨h.1,eQ.1 h.2⟩
     refine Az (aa @zC (aa @hB @hir)) (aa @Rw @hM) ?_;intros
     all_goals exact Fq
abbrev WK(l:List St):List (List AV):=l.map fun t=>[.agg t.cs]
theorem J3(c:Ch)(a b:AV)(ha:bC a)(hb:bC b)(s:St):Pure Tryz.prog 260 [.bZ (oo c a b) 0,.agg s.cs] (.fn (.func 297) [] [.bZ [.bZ (oo c a b) 0] 0,.bZ s.cs 0]):=by
 refine jX Tryz.f260.eq_1 [] [] ?_
 have Dn:=BR (c:=c) ha hb 0
 refine Au ?_;intros
 exact bO.eq rfl (by simp[Dn])
theorem J4(c:Ch)(hc:c.ok)(a b:AV)(ha:bC a)(hb:bC b)(s:St)(hs:s∈c.iY):Iter Tryz.prog 297 [] [.bZ [.bZ (oo c a b) 0] 0,.bZ s.cs 0] (WK (c.ways s)):=by
 refine⟨Tryz.call297,fun C y J D σ hy hC hJ ew=>?_⟩
 refine eY.mono (R:=fun _ iX=>kS C J D (WK (c.ways s)).length iX) ?_ fun _ _ h=>h.out
 refine Fi Tryz.f297.eq_1 [] [.d 12,.d 16] ?_
 have hl:c.last=c.kz.length:=rfl
 have Oc:=hc.g2
 obtain⟨s1,s2,s3,s4,s5,s6⟩:=(nI hc.p1).1 hs
 have Dn:=BR (c:=c) ha hb 0
 have hW:c.ways s=if s.en=-1 then [⟨-1,0,0⟩,⟨0,0,0⟩]else if s.en=c.last then [⟨c.last,1,0⟩]else(if s.n_+1<c.stay s.en then [⟨s.en,s.n_+1,0⟩]else [])++if(c.yO s.en).lo<=s.n_+1/\s.n_+1<=(c.yO s.en).hi then [⟨s.en+1,0,0⟩]else []:=rfl
 have Dr:∀k args,(WK (c.ways s))[k]?=some args->J k σ->th Tryz.prog y args σ (fun b iX=>∃iv ν,iX=iv++ν/\iv.length=C/\(b=true->J (k+1) iv)/\(b=false->D iv)):=fun k args h1 h3=>by
  simpa using ew k args σ [] h1 hC h3
 by_cases e1:s.en=-1
 ·rw[if_pos e1]at hW
  rw[hW]at ew Dr|-
  refine Ax (aa @zC @e1) ?_;intros
  refine .inr (.inr ⟨y,_,rfl,fun _=>⟨Dr 0 _ rfl hJ,?_⟩,fun h=>by cases h⟩)
  rintro b1 σ' ⟨tT,Ru,rfl,xG,xe,CG⟩
  refine aH ?_
  refine adL ?_
  cases b1 with
  |false=>
   refine Au ?_;intros
   refine .inr (.inr ⟨y,fun _ _=>True,rfl,fun h=>(by cases h),fun _=>aH ?_⟩)
   refine Au ?_;intros
   exact kS.mk tT _ rfl xG (.inr (CG rfl))
  |true=>
   refine Au ?_;intros
   refine .inr (.inr ⟨y,_,rfl,fun _=>⟨ew 1 _ tT Ru rfl xG (xe rfl),?_⟩,fun h=>by cases h⟩)
   rintro b2 σ' ⟨qw,ν2,rfl,TK,hb3,hb4⟩
   refine aH ?_
   refine Au ?_;intros
   exact kS.mk qw _ rfl TK (by cases b2;exact .inr (hb4 rfl);exact .inl (hb3 rfl))
 rw[if_neg e1]at hW
 by_cases e2:s.en=c.last
 ·rw[if_pos e2]at hW
  rw[hW]at ew Dr|-
  rw[hl]at e2 Dr
  refine Ax (aa @zC @e1) ?_;intros
  refine .inr (.inr ⟨y,_,rfl,fun _=>⟨Dr 0 _ rfl hJ,?_⟩,fun h=>by cases h⟩)
  rintro b1 σ' ⟨tT,Ru,rfl,xG,xe,CG⟩
  refine aH ?_
  refine Au ?_;intros
  exact kS.mk tT _ rfl xG (by cases b1;exact .inr (CG rfl);exact .inl (xe rfl))
 ·rw[if_neg e2]at hW
  have cn:=wb c hc a b s.en (by omega) s2
  have Vn:=oc hc s1 s2
  have p9:=sq (c.yO s.en) (s.n_+1)
  have hr:(c.kz.map Sp.cs).getD s.en.toNat []=Sp.cs (c.yO s.en):=row _ (by omega)
  rw[hl]at e2
  rw[hW]at ew Dr|-
  generalize c.stay s.en=S at*
  generalize c.yO s.en=G at*
  by_cases e3:s.n_+1<S
  ·rw[if_pos e3]at ew Dr|-
   refine Az (aa @zC (aa @e1 @hr)) (aa @cn @p9) ?_;intros
   rw[decide_eq_true e3]
   refine .inr (.inr ⟨y,_,rfl,fun _=>⟨Dr 0 _ rfl hJ,?_⟩,fun h=>by cases h⟩)
   rintro b1 σ' ⟨tT,Ru,rfl,xG,xe,CG⟩
   refine aH ?_
   refine adL ?_
   cases b1 with
   |false=>
    refine Au ?_;intros
    exact kS.mk tT _ rfl xG (.inr (CG rfl))
   |true=>
    by_cases e4:G.lo<=s.n_+1/\s.n_+1<=G.hi
    ·rw[if_pos e4]at ew|-
     refine Az (aa @zC @hr) @p9 ?_;intros
     refine .inr (.inr ⟨y,_,rfl,fun _=>⟨ew 1 _ tT Ru rfl xG (xe rfl),?_⟩,fun h=>by cases h⟩)
     rintro b2 σ' ⟨qw,ν2,rfl,TK,hb3,hb4⟩
     refine aH ?_
     refine Au ?_;intros
     exact kS.mk qw _ rfl TK (by cases b2;exact .inr (hb4 rfl);exact .inl (hb3 rfl))
    ·rw[if_neg e4]at ew|-
     refine Az (aa @zC @hr) @p9 ?_;intros
     exact kS.mk tT _ rfl xG (.inl (xe rfl))
  ·rw[if_neg e3]at ew Dr|-
   refine Az (aa @zC (aa @e1 @hr)) (aa @cn @p9) ?_;intros
   rw[decide_eq_false e3]
   refine .inr (.inr ⟨y,fun _ _=>True,rfl,fun h=>(by cases h),fun _=>aH ?_⟩)
   refine adL ?_
   by_cases e4:G.lo<=s.n_+1/\s.n_+1<=G.hi
   ·rw[if_pos e4]at ew Dr|-
    refine Az (aa @zC @hr) @p9 ?_;intros
    refine .inr (.inr ⟨y,_,rfl,fun _=>⟨Dr 0 _ rfl hJ,?_⟩,fun h=>by cases h⟩)
    rintro b1 σ' ⟨tT,Ru,rfl,xG,xe,CG⟩
    refine aH ?_
    refine Au ?_;intros
    exact kS.mk tT _ rfl xG (by cases b1;exact .inr (CG rfl);exact .inl (xe rfl))
   ·rw[if_neg e4]at ew|-
    refine Az (aa @zC @hr) @p9 ?_;intros
    exact kS.mk σ [] (by simp) hC (.inl hJ)
end Go.Proofs.YtgopgjnfhkoomaaGreat
namespace Go.Abs
def Rz{α:Type}(P:Program)(N l:Nat)(bd:C)(s:α->aG)(J:α->Prop)(D:Ac->α->Prop)(ρ:Option (List Ob))(τ:aG):e7:=fun e env σ=>
 match e with
 | .normal=>∃x iv,σ=s x++ρ::(τ++iv)/\∀ox,aR P N (some l) bd (SL s J D ox τ) env (s x++ox::(τ++iv))
 |_=>False
theorem Ds{α:Type}{P:Program}{N l:Nat}{bd:C}{s:α->aG}{J:α->Prop}{D:Ac->α->Prop}{ρ:Option (List Ob)}{τ:aG}{env:Env}{σ:aG}:Rz P N l bd s J D ρ τ .normal env σ=∃x iv,σ=s x++ρ::(τ++iv)/\∀ox,aR P N (some l) bd (SL s J D ox τ) env (s x++ox::(τ++iv)):=rfl
section
variable {P:Program} {N n0:Nat} {K:e7}
theorem aR.TL{env:Env}{σ:aG}{α:Type}(s:α->aG)(m:Nat)(hC:∀x,(s x).length=m)(I:Nat->α->Prop)(D:Ac->α->Prop)(tr:List (List AV))(x0:α){g:O}{qs:List Nat}{as_ bd:C}{it:Nat}{first cap:List AV}(hf:ov env g=.fn (.func it) first cap)(h0:σ=s x0)(hI:I 0 x0)(lR:Iter P it first cap tr)(QQ:∀(k:Nat) (args:List AV),tr[k]?=some args->qs.length=args.length)(round:∀k x args l ρ τ,tr[k]?=some args->I k x->aR P N (some l) as_ (Rz P N l bd s (I (k+1)) D ρ τ) (par qs args env) (s x++ρ::τ))(SM:∀x τ,I tr.length x->K .normal env (s x++τ))(Er:∀e x τ,D e x->K e.e env (s x++τ)):aR P N none (.rL g qs as_ bd) K env σ:=by
 intro code lF n0 X β a w cn
 cases code<;>try(simp[kY]at lF;done)
 rename_i gg ps uw ux
 simp only[kY,ak,beq_iff_eq,bt,decide_eq_true_eq]at lF
 obtain⟨⟨⟨⟨hg,Ss⟩,Zw⟩,Zx⟩,Es⟩:=lF
 have SN:=o_ cn hg
 rw[hf]at SN
 generalize Zy:a.eval gg=gv at SN
 cases SN with
 |fn _ _ _ fx fy R6 KU Zz ZA=>
 refine wpIn_rangeFunc fun fn _=>?_
 generalize lT:(Loop.mk .ready none fn a.tmps ps uw ux w.heap.size)=rec
 have hw1:=run_enterLoop_outer (P:=P) (w:=w) fn a.tmps ps uw ux
 rw[lT]at hw1
 have e0:w.heap.size<=(w.alloc (.deferred (some []))).heap.size:=by rw[j_];omega
 have Jj:∀b,b<w.heap.size->(w.alloc (.deferred (some []))).heap[b]?=w.heap[b]?:=fun b hb=>oP _ _ hb
 have LX:(w.alloc (.deferred (some []))).heap[w.heap.size]?=some (.deferred (some [])):=oQ _ _
 have qX:=cn.tr (cn.sr.same e0 Jj) (Ext.same e0 Jj) (Kp.same e0 Jj cn.sr)
 have VE:Ext w β σ (w.alloc (.deferred (some []))) β σ:=Ext.same e0 Jj
 have SO:=Kp.same e0 Jj cn.sr
 generalize VF:w.alloc (.deferred (some []))=wd at hw1 e0 Jj LX qX VE SO
 have LY:wd.heap.size=w.heap.size+1:=by rw[<-VF,j_]
 let r0:Lp:=⟨.ready,none,ps,uw,ux,N,env⟩
 have oI:∀b,some wd.heap.size=some b->b=wd.heap.size:=fun b hb=>by injection hb with hb;exact hb.symm
 have f0:wd.heap.size<=(wd.alloc (.loop rec)).heap.size:=by rw[j_];omega
 have LZ:∀b,b<wd.heap.size->(wd.alloc (.loop rec)).heap[b]?=wd.heap[b]?:=fun b hb=>oP _ _ hb
 have Et:(wd.alloc (.loop rec)).heap[wd.heap.size]?=some (.loop rec):=oQ _ _
 generalize SP:wd.alloc (.loop rec)=wl at hw1 f0 LZ Et
 have O1:wl.heap.size=w.heap.size+2:=by rw[<-SP,j_,LY]
 have K1:=Kp.push (o:=⟨0,0,[],some (.lp r0)⟩) (bo:=some wd.heap.size) qX.sr f0 LZ oI
 have SQ:Ext wd β σ wl (kv β σ.length (some wd.heap.size)) (σ++[some [⟨0,0,[],some (.lp r0)⟩]]):=Ext.push f0 LZ oI (by rw[<-SP];exact⟨rfl,rfl,rfl,(by first|exact ar _|exact cO _)⟩)
 have hs1:=qX.sr.push (o:=⟨0,0,[],some (.lp r0)⟩) qX.bd f0 LZ oI ⟨fun e he=>absurd he (aN _),fun h=>(by cases h),fun r hr=>by
  injection hr with hr;subst hr
  refine⟨rfl,rec,Et,by rw[<-lT],by rw[<-lT],by rw[<-lT],by rw[<-lT],by rw[<-lT],by rw[<-lT];exact cn.sz,fun s=>?_⟩
  have:=(qX.ev s).tr K1
  rw[<-lT];exact this⟩
 have Oa:RV wl (Xt X (kv β σ.length (some wd.heap.size)) (σ++[some [⟨0,0,[],some (.lp r0)⟩]])) (kv β σ.length (some wd.heap.size)) (σ++[some [⟨0,0,[],some (.lp r0)⟩]]) (.Ai σ.length) (.func (.yield wd.heap.size) #[] #[]):=by
  refine .Ai _ _ rfl (by simp) fun o ho _=>⟨_,iy,rfl⟩
 have Xc:σ.length=m:=by rw[h0];exact hC x0
 generalize Gn:kv β σ.length (some wd.heap.size)=lf at K1 SQ hs1 Oa
 refine⟨wd.heap.size,[{target:=.collected w.heap.size,args:=#[]}],wl,{target:=.fn (.func it) fy,args:=fx++#[.func (.yield wd.heap.size) #[] #[]]},wl,it,
  (fx.toList++[Value.func (.yield wd.heap.size) #[] #[]]++fy.toList).toArray,wl,?_,?_,fun f' _=>trivial,?_,?_,?_⟩
 ·rw[LY];exact hw1
 ·show(Deferred.ofValue (a.eval gg) _).run P wl=_
  rw[Zy,show Array.map a.eval (rangeCall gg wd.heap.size).args=#[Value.func (.yield wd.heap.size) #[] #[]]from by simp[Act.eval]];rfl
 ·have e1:(fx++#[Value.func (.yield wd.heap.size) #[] #[]]++fy)=(fx.toList++[Value.func (.yield wd.heap.size) #[] #[]]++fy.toList).toArray:=by apply gf;simp
  simp only[invoke]
  rw[e1];exact lR.1 _ _
 ·intro h;cases h
 let J:Nat->aG->Prop:=fun k τ=>∃x,τ=s x++[mr r0]/\I k x
 let DD:aG->Prop:=fun τ=>∃x e,τ=s x++[mr {r0 with st:=.done,ta:=some (Ac.code e)}]/\D e x
 have ew:∀k args τ μ,tr[k]?=some args->τ.length=m+1->J k τ->th P m args (τ++μ) (fun b iX=>∃iv ν,iX=iv++(μ++ν)/\iv.length=m+1/\(b=true->J (k+1) iv)/\(b=false->DD iv)):=by
  rintro k args τ μ hk _ ⟨x,rfl,ZB⟩ X' β' w' xs UA nM mF qu
  have ZC:s x++[mr r0]++μ=s x++mr r0::μ:=by simp
  rw[ZC]at nM qu|-
  have dQ:=nn (s x) μ r0 m (hC x)
  have ic:=nM.obj m 0 _ dQ
  cases l7:β' m 0 with
  |none=>rw[l7]at ic;exact absurd ic.2.2 (by simp)
  |some l=>
  rw[l7]at ic
  obtain⟨_,q,hq,ZD⟩:=ic.2.2 (.lp r0) rfl
  obtain⟨q1,q2,q3,q4,q5,q6,q7⟩:=ZD
  have hlen:=QQ k args hk
  refine⟨_,l,q,dQ,rfl,rfl,hq,by rw[q3];show ps.size=_;rw[<-dE,Ss,hlen],?_⟩
  have Eu:(q.params.zip xs.toArray).foldl (fun tmps (t,a)=>tmps.setIfInBounds t a) q.tmps=(qs.zip xs).foldl (fun tmps p=>tmps.setIfInBounds p.1 p.2) q.tmps:=by
   rw[<-Array.foldl_toList,Array.toList_zip,q3]
   show List.foldl _ _ (ps.toList.zip _)=_
   rw[Ss]
  rw[Eu]
  obtain⟨L1,L2⟩:=Cp (N:=N) qs args xs env q.tmps q6 (fun q hq=>Zw q hq) hlen mF q7 qu
  generalize(qs.zip xs).foldl (fun tmps p=>tmps.setIfInBounds p.1 p.2) q.tmps=tmps at L1 L2
  have SR:lY N 0 X' (par qs args env) (s x++mr r0::μ) β' {tmps:=tmps,defers:=[]} w':=⟨L1,⟨[],h_,rfl,fun _ h=>absurd h (au)⟩,UA,aQ _,nM,L2⟩
  refine roundIn_of_wpIn trivial ?_
  rw[q4,q5]
  refine wpIn_mono (round k x args l (mr r0) μ hk ZB uw Zx 0 X' β' _ w' SR) fun e a1 w1 hp=>?_
  obtain⟨LR,lN,SS,rQ,kx,H4,SH⟩:=hp
  cases e with
  |normal=>
   obtain⟨x1,tT,rfl,L3⟩:=rQ
   have Gp:=nn (s x1) (μ++tT) r0 m (hC x1)
   have L4:=kx.sr.obj m 0 _ Gp
   have L5:SS m 0=some l:=by
    obtain⟨o,ho,_,_,hh⟩:=SH.wI m 0 _ (by simp[hC]) Gp
    rw[dQ]at ho;injection ho with ho;subst ho
    rw[(hh rfl).1,l7]
   rw[L5]at L4
   obtain⟨_,qq,VG,tt⟩:=L4.2.2 (.lp r0) rfl
   obtain⟨DW,hs2,Gi,LO,SU⟩:=rX (r':={r0 with st:=.busy}) (q':={qq with state:=.busy}) kx.sr kx.bd Gp L5 VG ⟨rfl,tt.2.1,tt.2.2.1,tt.2.2.2.1,tt.2.2.2.2.1,tt.2.2.2.2.2.1,tt.2.2.2.2.2.2⟩
   rw[rW _ _ _ _ _ (hC x1)]at hs2 Gi LO
   refine⟨_,run_beginRound VG tt.1,?_⟩
   have jV:=kx.tr hs2 Gi LO
   refine wpIn_mono (L3 _ ux Es 0 X' DW a1 _ jV) fun e a2 w2 F'=>?_
   obtain⟨ZE,iX,O9,me,Gq,Ol,KW⟩:=F'
   have fin:∀(y:α) (qw:aG) (jp:Option Code) (Kq:aG->Prop),iX=s y++mr {r0 with st:=.busy}::(μ++qw)->
    (∃iv ν,s y++mr {r0 with st:=if jp.isNone then .ready else .done,ta:=jp}::(μ++qw)=iv++(μ++ν)/\iv.length=m+1/\(jp.isNone=true->J (k+1) iv)/\(jp.isNone=false->DD iv))->
    ∃v w3,(Instr.endRound l jp).run P w2=.ok v w3/\∃b σ' qx,Ending.returned v=.returned (.bool b)/\
     (∃iv ν,σ'=iv++(μ++ν)/\iv.length=m+1/\(b=true->J (k+1) iv)/\(b=false->DD iv))/\dG w3 X' qx σ'/\Ext w' β' (s x++mr r0::μ) w3 qx σ'/\
     Kp w' (Xt X' β' (s x++mr r0::μ)) β' (s x++mr r0::μ) w3 (Xt X' qx σ') qx σ':=by
    intro y qw jp Kq e2 lh
    subst e2
    have tu:=nn (s y) (μ++qw) {r0 with st:=.busy} m (hC y)
    have yC:=Gq.sr.obj m 0 _ tu
    have yD:O9 m 0=some l:=by
     obtain⟨o,ho,_,_,hh⟩:=KW.wI m 0 _ (by simp[hC]) tu
     have:=nn (s x1) (μ++tT) {r0 with st:=.busy} m (hC x1)
     unfold mr at this
     rw[this]at ho;injection ho with ho;subst ho
     rw[(hh rfl).1,SU]
    rw[yD]at yC
    obtain⟨_,ZF,L6,mj⟩:=yC.2.2 _ rfl
    obtain⟨qx,L7,AJ,yE,ZG⟩:=rX (r':={r0 with st:=if jp.isNone then .ready else .done,ta:=jp}) (q':={ZF with state:=if jp.isNone then .ready else .done,pending:=jp}) Gq.sr Gq.bd tu yD L6
     ⟨rfl,rfl,mj.2.2.1,mj.2.2.2.1,mj.2.2.2.2.1,mj.2.2.2.2.2.1,mj.2.2.2.2.2.2⟩
    rw[rW _ _ _ _ _ (hC y)]at L7 AJ yE
    exact⟨_,_,run_endRound jp L6,jp.isNone,_,qx,rfl,lh,L7,((H4.trans Gi).trans Ol).trans AJ,((SH.trans LO).trans KW).trans yE⟩
   cases e with
   |normal=>
    obtain⟨y,qw,e2,hy⟩:=me
    refine fin y qw none (fun _=>True) e2 ⟨s y++[mr r0],qw,by simp[r0],by simp[hC],fun _=>⟨y,rfl,hy⟩,fun h=>by simp at h⟩
   |ret=>
    obtain⟨y,qw,e2,hy⟩:=me
    refine fin y qw (some .ret) (fun _=>True) e2 ⟨s y++[mr {r0 with st:=.done,ta:=some (Ac.code .ret)}],qw,by simp[Ac.code],by simp[hC],fun h=>by simp at h,fun _=>⟨y,.ret,rfl,hy⟩⟩
   |exit i=>
    obtain⟨y,qw,e2,hy⟩:=me
    refine fin y qw (some (.exit i)) (fun _=>True) e2 ⟨s y++[mr {r0 with st:=.done,ta:=some (Ac.code (.exit i))}],qw,by simp[Ac.code],by simp[hC],fun h=>by simp at h,fun _=>⟨y,.exit i,rfl,hy⟩⟩
   |goto t=>exact me.elim
   |panic c=>exact me.elim
   |outgrown=>exact me.elim
  |exit i=>exact rQ.elim
  |goto t=>exact rQ.elim
  |ret=>exact rQ.elim
  |panic c=>exact rQ.elim
  |outgrown=>exact rQ.elim
 subst h0
 have L8:=lR.2 (m+1) m J DD (s x0++[mr r0]) (Nat.lt_succ_self _) (by simp[hC]) ⟨x0,rfl,hI⟩ ew
 rw[hC x0]at Oa
 have lE:=L8.go X lf wl (fx.toList++[Value.func (.yield wd.heap.size) #[] #[]]++fy.toList) (fun b hb=>cr (qX.bd b hb) f0) hs1 (by simp[<-R6,<-KU]) (by
  have VH:=SO.trans K1
  have g0:fx.toList.length=first.length:=by simpa using R6
  have g1:=nN (w:=wl) (X:=Xt X lf (s x0++[mr r0])) (β:=lf) (σ:=s x0++[mr r0]) (cs:=first) (ds:=[.Ai m]) (xs:=fx.toList) (ys:=[.func (.yield wd.heap.size) #[] #[]]) g0 rfl
   (fun i hi=>by have:=(Zz i hi).tr VH;simpa[mr,af,ab]using this) (fun i hi=>by
    have:i=0:=by simpa using hi
    subst this;exact Oa)
  exact(nN g1.1 (by simpa using KU) g1.2 (fun i hi=>by have:=(ZA i hi).tr VH;simpa[mr,af,ab]using this)).2)
 refine CallsIn.mono lE ?_
 rintro e w3 ⟨xr,rr,VI,O9,rfl,⟨τ,ν,rfl,pD,ZH⟩,UB,KT,SV,SX⟩
 have fin:∀(x:α) (r:Lp),τ=s x++[mr r]->r.st≠.busy->r.N=N->r.env=env->∃w4 tU qx,(Instr.endLoop wd.heap.size).run P w3=.ok r.ta w4/\(∃gz,tU=s x++gz)/\
  lY N n0 X env tU qx {a with defers:=[{target:=.collected w.heap.size,args:=#[]}]++a.defers} w4/\Ext w β (s x0) w4 qx tU/\Kp w (Xt X β (s x0)) β (s x0) w4 (Xt X qx tU) qx tU:=by
  rintro x r rfl Rg hrN hrE
  have tu:aG.at (s x++[mr r]++ν) m 0=some ⟨0,0,[],some (.lp r)⟩:=by
   have:=nn (s x) ν r m (hC x)
   simpa using this
  have yD:O9 m 0=some wd.heap.size:=by
   obtain⟨o,ho,_,_,hh⟩:=SX.wI m 0 _ (by simp[hC]) tu
   have:=nn (s x0) [] r0 m (hC x0)
   unfold mr at this
   have dN:some (⟨0,0,[],some (.lp r0)⟩:Ob)=some o:=by rw[<-this];exact ho
   injection dN with dN;subst dN
   rw[(hh rfl).1,<-Gn,<-hC x0];exact iy
  have yC:=UB.obj m 0 _ tu
  rw[yD]at yC
  obtain⟨_,q3,L6,mj⟩:=yC.2.2 _ rfl
  have UC:∀b,X b->b<w3.heap.size:=fun b hb=>cr (qX.bd b hb) (bT f0 SV.size)
  obtain⟨qx,L7,AJ,yE,_⟩:=rX (r':={r with st:=.exhausted}) (q':={q3 with state:=.exhausted}) UB UC tu yD L6
   ⟨rfl,mj.2.1,mj.2.2.1,mj.2.2.2.1,mj.2.2.2.2.1,mj.2.2.2.2.2.1,mj.2.2.2.2.2.2⟩
  have SY:aG.cZ (s x++[mr r]++ν) m 0 ⟨0,0,[],some (.lp {r with st:=.exhausted})⟩=s x++(some [⟨0,0,[],some (.lp {r with st:=.exhausted})⟩]::ν):=by
   have:=rW (s x) ν r ⟨0,0,[],some (.lp {r with st:=.exhausted})⟩ m (hC x)
   simpa using this
  rw[SY]at L7 AJ yE
  have eA:=run_endLoop (P:=P) L6 (by rw[mj.1];exact Rg)
  have eA:(Instr.endLoop wd.heap.size).run P w3=.ok r.ta (w3.putObj wd.heap.size (.loop {q3 with state:=.exhausted})):=by rw[eA];exact congrArg (fun p=>Result.ok p _) mj.2.1
  have VJ:=((VE.trans SQ).trans SV).trans AJ
  have VK:=((SO.trans K1).trans SX).trans yE
  refine⟨_,_,qx,eA,⟨_,rfl⟩,?_,VJ,VK⟩
  have tw:=cn.tr L7 VJ VK
  refine{tw with df:=?_}
  obtain⟨rs,sK,LB,hr⟩:=tw.df
  obtain⟨L9,SZ,L_,wN⟩:=cn.df
  have Gr:wl.heap[w.heap.size]?=some (.deferred (some [])):=by rw[LZ _ (by omega)];exact LX
  have O_:¬owned lf (s x0++[mr r0]) w.heap.size:=fun ho=>by
   have:=hs1.gT ho
   rcases pT (w:=wd) (bo:=some wd.heap.size) oI (β:=β) (σ:=s x0) (o:=⟨0,0,[],some (.lp r0)⟩) (b:=w.heap.size) (by rw[Gn];exact ho)with h|h
   ·have:=cn.sr.gT h;omega
   ·omega
  have S3:¬Xt X lf (s x0++[mr r0]) w.heap.size:=fun h=>h.elim (fun h=>by have:=cn.bd _ h;omega) O_
  have Lu:w3.heap[w.heap.size]?=some (.deferred (some [])):=by rw[SV.wJ _ (by omega) O_];exact Gr
  have S4:¬Xt X O9 (s x++[mr r]++ν) w.heap.size:=fun h=>S3 (SX.Aj _ (by omega) h)
  have S5:w.heap.size≠wd.heap.size:=by omega
  refine⟨w.heap.size::rs,eU.2 ⟨fun hm=>?_,sK⟩,by rw[bq];show _::a.defers=_;rw[show a.defers=rs.map _ from LB],fun mk hm=>?_⟩
  ·have Rh:rs=L9:=by
    have e1:rs.map (fun r=>({target:=.collected r,args:=#[]}:Deferred))=L9.map (fun r=>{target:=.collected r,args:=#[]}):=by rw[<-LB,<-L_]
    clear hr wN LB L_ sK SZ hm
    induction rs generalizing L9 with
    |nil=>cases L9 with|nil=>rfl|cons _ _=>simp at e1
    |cons c cs ih=>cases L9 with
     |nil=>simp at e1
     |cons d ds=>
      simp only[bq,A9,Deferred.mk.injEq,Target.collected.injEq,and_true]at e1
      rw[e1.1,ih ds e1.2]
   rw[Rh]at hm
   have:=ib (wN _ hm).1;omega
  ·rcases aC.1 hm with rfl|hm
   ·refine⟨by rw[nF _ _ S5];exact Lu,fun h=>S4 (yE.Aj _ (ib Lu) h),cn.nb⟩
   ·exact hr mk hm
 rcases ZH with⟨x,ex,hx⟩|⟨x,e,ex,hx⟩
 ·obtain⟨w4,tU,qx,eA,⟨gz,rfl⟩,tw,AJ,yE⟩:=fin x r0 ex (by simp[r0]) rfl rfl
  exact⟨_,w4,eA,⟨env,_,qx,SM x gz hx,tw,AJ,yE⟩⟩
 ·obtain⟨w4,tU,qx,eA,⟨gz,rfl⟩,tw,AJ,yE⟩:=fin x _ ex (by simp) rfl rfl
  refine⟨_,w4,eA,?_⟩
  cases e with
  |ret=>exact wpIn_ret ⟨env,_,qx,Er .ret x gz hx,tw,AJ,yE⟩
  |exit i=>exact wpIn_exit ⟨env,_,qx,Er (.exit i) x gz hx,tw,AJ,yE⟩
end
end Go.Abs
namespace Go.Proofs.YtgopgjnfhkoomaaGreat
open Go.Abs
open Nat (reduceAdd reduceSub reduceLT reduceLeDiff reduceMul reduceEqDiff)
set_option maxHeartbeats 4000000
set_option maxRecDepth 100000
def BS(c:Ch)(t:St)(m:qy):qy:=⟨c.idx ⟨t.en,t.n_,m.to-c.cS⟩,m.ch⟩
def uV(c:Ch)(s:St)(k:Nat):List qy:=((c.ways s).take k).flatMap fun t=>(oW c.sh.eC s.off).map (BS c t)
theorem Hc(c:Ch)(hc:c.ok)(hp:c.sh.eC.ok)(a:AV)(ha:bC a)(s:St)(hs:s∈c.iY)(hn:c.iY.length<=4000):Pure Tryz.prog 217 [.bZ (oo c a (.j4 3 (wm c.iY))) 0,.agg s.cs] (Oo (c.sU s)):=by
 refine jX Tryz.f217.eq_1 [] [.l [2,5,7],.l [2,5,7,8,26,27,28],.d 11,.d 10,.v 10 1 12] ?_
 have Ku:bC (.j4 3 (wm c.iY)):=bC.j4 fun e he=>by
  obtain⟨p,_,rfl⟩:=aO.1 he
  exact bC.v _
 have Dn:=BR (c:=c) ha Ku 0
 obtain⟨s1,s2,s3,s4,s5,s6⟩:=(nI hc.p1).1 hs
 have hM:=G8 c.sh.eC hp s.off s5 s6
 have hW:=J3 c a (.j4 3 (wm c.iY)) ha Ku s
 have hI:=J4 c hc a (.j4 3 (wm c.iY)) ha Ku s hs
 have yu:(oW c.sh.eC s.off).length<=17:=BG hc.p1 hc.p2
 have SP:=EJ c s
 have hE:c.sU s=uV c s (c.ways s).length:=by unfold uV;rw[aI];rfl
 have l_:∀k t,(c.ways s)[k]?=some t->uV c s (k+1)=uV c s k++(oW c.sh.eC s.off).map (BS c t):=fun k t h=>by
  unfold uV;rw[ey h];simp
 have hix:∀t∈c.ways s,∀m∈oW c.sh.eC s.off,jD (wm c.iY) [t.en,t.n_,m.to-c.cS]=some (n (BS c t m).to)/\0<=m.to/\m.to<=16:=fun t ht m hm=>by
  obtain⟨to,h1,h2,_,rfl⟩:=EI hc.p1 hm
  have F':=hc.p2
  have Na:c.cS=c.sh.eC.cS:=rfl
  have h3:=EK hc hs ht (o:=to) (by omega) (by omega)
  have e:to+c.sh.eC.cS-c.cS=to:=by omega
  simp only[BS,e]
  exact⟨Ph h3,by omega,by omega⟩
 have h0:uV c s 0=[]:=rfl
 have oy:∀k,(uV c s k).length<=k*17:=fun k=>by
  induction k with
  |zero=>simp[h0]
  |succ k ih=>
   by_cases h:k<(c.ways s).length
   ·rw[l_ k _ (ae h),aM,aF];omega
   ·unfold uV at ih|-
    rw[cD (by omega)]at ih|-;omega
 rw[hE]
 clear hE
 have Na:c.sh.eC.cS=c.cS:=rfl
 have I8:=hc.p1
 have F':=hc.p2
 generalize oW c.sh.eC s.off=M at*
 generalize c.ways s=W at*
 generalize uV c s=E at*
 have hGc:∀t m,(BS c t m).ch=m.ch:=fun _ _=>rfl
 generalize BS c=G at*
 refine Az @zC (aa @hM @hW) ?_;intros
 refine aR.lH 392 3 (f:=1) (i:=0) (e:=0) (j:=0) rfl (by simp) rfl ?_
 refine aR.TL (fun A:List qy=>[some [⟨338,1,[[Oo M]],none⟩],some [⟨338,1,[[.own 2 0 A.length]],none⟩],some [⟨392,3,A.map qy.cs,none⟩]]) 3 (fun _=>rfl) (fun k A=>A=E k) (fun _ _=>False) (WK W) [] rfl rfl h0.symm hI (fun k args h=>?_) (fun k A args l ρ μ hk hA=>?_) (fun A μ hA=>?_) (fun _ _ _ h=>h.elim)
 ·simp only[aV]at h
  obtain⟨t,_,rfl⟩:=aL.1 h
  rfl
 ·simp only[aV]at hk
  obtain⟨t,ht,rfl⟩:=aL.1 hk
  have UH:=(ai.1 ht).1
  have hek:=oy k
  have O_:=l_ k t ht
  have Zi:=hix t (ao ht)
  simp only[St.cs,par]
  refine Ax @Ds ?_;intros
  refine⟨A,_,rfl,fun ox=>?_⟩
  refine Au ?_;intros
  have hX:∀(a b c d:Option (List Ob)) (o:Ob) (ν:aG),aG.at (a::b::c::d::(μ++some [o]::ν)) (List.length μ+4) 0=some o:=fun a b c d o ν=>by rw[cQ,cQ,cQ,cQ,dV];rfl
  have hU:∀(a b c d:Option (List Ob)) (o o':Ob) (ν:aG),aG.cZ (a::b::c::d::(μ++some [o]::ν)) (List.length μ+4) 0 o'=a::b::c::d::(μ++some [o']::ν):=fun a b c d o o' ν=>by simp[aG.cZ]
  have RA:∀(a b c d x:Option (List Ob)) (o:Ob) (ν r:aG),aG.at (a::b::c::d::(μ++x::(ν++some [o]::r))) (List.length μ+(List.length ν+5)) 0=some o:=fun a b c d x o ν r=>by
   rw[show List.length μ+(List.length ν+5)=List.length μ+(List.length ν+1)+1+1+1+1 by omega,cQ,cQ,cQ,cQ,dR,cQ,dV];rfl
  have Yt:∀(a b c d x:Option (List Ob)) (o o':Ob) (ν r:aG),aG.cZ (a::b::c::d::(μ++x::(ν++some [o]::r))) (List.length μ+(List.length ν+5)) 0 o'=a::b::c::d::(μ++x::(ν++some [o']::r)):=fun a b c d x o o' ν r=>by
   have e:a::b::c::d::(μ++x::(ν++some [o]::r))=(a::b::c::d::(μ++x::ν))++some [o]::r:=by simp
   have e2:List.length μ+(List.length ν+5)=List.length (a::b::c::d::(μ++x::ν))+0:=by simp;omega
   rw[e,e2,fC];simp[aG.cZ]
  refine aR.lr (α:={x:Nat×Int×aG//x.1<=M.length}) [28] (fun x=>[(28,n x.1.1)]) (fun x=>some [⟨338,1,[[Oo M]],none⟩]::some [⟨338,1,[[.own 2 0 (A++(M.take x.1.1).map (G t)).length]],none⟩]::some [⟨392,3,(A++(M.take x.1.1).map (G t)).map qy.cs,none⟩]::ox::(μ++some [⟨282,3,[[n t.en,n t.n_,n x.1.2.1]],none⟩]::x.1.2.2)) (fun x=>M.length-x.1.1) ⟨(0,t.off,[]),aQ _⟩ ?_
  rintro⟨⟨i,o,ν⟩,hi⟩
  simp only at hi
  simp only
  by_cases bP:i<M.length
  ·obtain⟨m,hm⟩:∃m,M[i]?=some m:=⟨_,ae bP⟩
   obtain⟨g1,g2,g3⟩:=Zi m (ao hm)
   have cX:(M.map qy.cs).getD i []=qy.cs m:=getD_map hm
   have hB:A++(M.take (i+1)).map (G t)=(A++(M.take i).map (G t))++[G t m]:=by rw[ey hm];simp
   have qF:(A++(M.take i).map (G t)).length<=100:=by rw[aM,aF,bH,hA];omega
   have ZY:=hGc t m
   generalize A++(M.take i).map (G t)=B at*
   have WM:=congrArg List.length hB
   simp only[aM,aF,bf,bM,br]at WM
   refine Ax (aa @zC (aa @hX (aa @hU (aa @RA (aa @Yt (aa @cX (aa @g1 @Na))))))) ?_;intros
   refine⟨⟨(i+1,m.to-c.cS,ν++[some [⟨392,3,[[n m.to,n m.ch.lo,n m.ch.hi]],none⟩]]),bP⟩,by simp,?_,by simp only;omega⟩
   simp only[hB,WM,di,bq,dL,qy.cs,ZY]
  ·obtain rfl:i=M.length:=by omega
   rw[aI]
   refine Au ?_;intros
   exact⟨A++M.map (G t),some [⟨282,3,[[n t.en,n t.n_,n o]],none⟩]::ν,by simp,by rw[O_,hA]⟩
 ·refine Au ?_;intros
  rw[WK,aF]at hA
  subst hA
  exact bO.gZ (T:=392) (cs:=qy.cs) rfl rfl (by decide) (fun a=>by simp) (fun a=>rfl)
abbrev Ln(l:List St):AV:=.sl 3 (l.map St.cs)
abbrev A7(c:Ch):List AV:=oo c (Ln c.iY) (.j4 3 (wm c.iY))
theorem Ix(l:List St):bC (.j4 3 (wm l)):=bC.j4 fun e he=>by
 obtain⟨p,_,rfl⟩:=aO.1 he
 exact bC.v _
theorem Dt(l:List St):bC (Ln l):=nJ 3 l fun x c hc=>by
 simp only[St.cs,aC,au,or_false]at hc
 rcases hc with rfl|rfl|rfl<;>exact bC.v _
@[simp] theorem kf(c:Ch)(j:Nat):bC (.bZ (A7 c) j):=BR (Dt _) (Ix _) j
structure zu(c:Ch):Prop where
 ok:c.ok
 eC:c.sh.eC.ok
 Yu:c.marks.length<=64
 EW:c.reads.length<=64
 Cy:c.Cy.length=c.kz.length+1
 lv:∀r∈c.reads,0<=r.levels.lo/\r.levels.lo<=12000/\0<=r.levels.hi/\r.levels.hi<=12000
 TM:c.iY.length<=4000
theorem He(c:Ch)(hc:zu c)(z:Int)(hz:-200<=z/\z<=200):Pure Tryz.prog 156 [.bZ (A7 c) 0,n z] (Af (c.iZ z)):=by
 refine jX Tryz.f156.eq_1 [] [.l [0,1,4,5,6],.l [0,1,4,5,6,7,22,23,24]] ?_
 have ht1:=hc.ok.t1
 have ZR:=hc.ok.t2
 have WN:=hc.TM
 have Dn:=kf c 0
 have Cd:∀s∈c.iY,∀t:Nat,(t:Int)<=c.bD->Pure Tryz.prog 216 [.bZ (A7 c) 0,.agg s.cs,n t,n z] (iT (c.allow s t z)):=fun s hs t ht=>
  Dq c hc.ok _ _ (Dt _) (Ix _) s hs t z ⟨by omega,ht⟩ hz hc.Yu hc.EW hc.Cy hc.lv
 have Sw:∀s∈c.iY,Pure Tryz.prog 217 [.bZ (A7 c) 0,.agg s.cs] (Oo (c.sU s)):=fun s hs=>Hc c hc.ok hc.eC _ (Dt _) s hs WN
 have sK:∀t s,c.Mw t z s=⟨c.allow s t z,if t<c.bD then c.sU s else []⟩:=fun _ _=>rfl
 have hT:c.iZ z=(List.range (c.bD+1).toNat).map fun(t:Nat)=>c.iY.map (c.Mw t z):=rfl
 rw[hT]
 generalize c.Mw=D at*
 obtain⟨N,hN⟩:∃N,N=(c.bD+1).toNat:=⟨_,rfl⟩
 rw[<-hN]
 refine Au ?_;intros
 refine aR.lH 336 1 (f:=1) (i:=0) (e:=0) (j:=0) rfl (by simp) rfl ?_
 refine aR.lr (α:={x:Nat×aG//x.1<=N}) [6] (fun x=>[(6,n x.1.1)]) (fun x=>some [⟨191,1,[[.v (.slice none 0 0)]],none⟩]::some [⟨191,1,[[.own 2 0 x.1.1]],none⟩]::some [⟨336,1,((List.range x.1.1).map fun(t:Nat)=>c.iY.map (D t z)).map (fun l=>[Ae l]),none⟩]::x.1.2) (fun x=>N-x.1.1) ⟨(0,[]),aQ _⟩ ?_
 rintro⟨⟨t,ν⟩,ht⟩
 simp only at ht
 simp only
 by_cases bP:t<N
 ·have hle:(t:Int)<=c.bD:=by omega
  have l_:(List.range (t+1)).map (fun(t:Nat)=>c.iY.map (D t z))=(List.range t).map (fun(t:Nat)=>c.iY.map (D t z))++[c.iY.map (D t z)]:=by rw[gE];simp
  have PX:((List.range t).map (fun(t:Nat)=>c.iY.map (D t z))).length=t:=by simp
  generalize(List.range t).map (fun(t:Nat)=>c.iY.map (D t z))=R at*
  refine Ax (aa @zC @hle) ?_;intros
  refine aR.oC 340 2 7 rfl ?_
  obtain⟨rF,hrF⟩:∃rF:St->List AV,∀s,rF s=[iT (c.allow s t z),if(t:Int)<c.bD then Oo (c.sU s)else .v (.slice none 0 0)]:=⟨_,fun _=>rfl⟩
  have hX:∀(a b c:Option (List Ob)) (o:Ob) (r:aG),aG.at (a::b::c::(ν++some [o]::r)) (List.length ν+3) 0=some o:=fun a b c o r=>by rw[cQ,cQ,cQ,dV];rfl
  have hU:∀(a b c:Option (List Ob)) (o o':Ob) (r:aG),aG.cZ (a::b::c::(ν++some [o]::r)) (List.length ν+3) 0 o'=a::b::c::(ν++some [o']::r):=fun a b c o o' r=>by simp[aG.cZ]
  have RA:∀(a b c x:Option (List Ob)) (o:Ob) (μ r:aG),aG.at (a::b::c::(ν++x::(μ++some [o]::r))) (List.length ν+(List.length μ+4)) 0=some o:=fun a b c x o μ r=>by
   rw[show List.length ν+(List.length μ+4)=List.length ν+(List.length μ+1)+1+1+1 by omega,cQ,cQ,cQ,dR,cQ,dV];rfl
  have Yt:∀(a b c x:Option (List Ob)) (o o':Ob) (μ r:aG),aG.cZ (a::b::c::(ν++x::(μ++some [o]::r))) (List.length ν+(List.length μ+4)) 0 o'=a::b::c::(ν++x::(μ++some [o']::r)):=fun a b c x o o' μ r=>by
   have e:a::b::c::(ν++x::(μ++some [o]::r))=(a::b::c::(ν++x::μ))++some [o]::r:=by simp
   have e2:List.length ν+(List.length μ+4)=List.length (a::b::c::(ν++x::μ))+0:=by simp;omega
   rw[e,e2,fC];simp[aG.cZ]
  have UC:∀(a b c x y:Option (List Ob)) (o:Ob) (μ r:aG),aG.at (a::b::c::(ν++x::(μ++y::some [o]::r))) (List.length ν+(List.length μ+5)) 0=some o:=fun a b c x y o μ r=>by
   rw[show List.length ν+(List.length μ+5)=List.length ν+(List.length μ+1+1)+1+1+1 by omega,cQ,cQ,cQ,dR,cQ,dR];rfl
  have hU3:∀(a b c x y:Option (List Ob)) (o o':Ob) (μ r:aG),aG.cZ (a::b::c::(ν++x::(μ++y::some [o]::r))) (List.length ν+(List.length μ+5)) 0 o'=a::b::c::(ν++x::(μ++y::some [o']::r)):=fun a b c x y o o' μ r=>by
   have e:a::b::c::(ν++x::(μ++y::some [o]::r))=(a::b::c::(ν++x::μ))++y::some [o]::r:=by simp
   have e2:List.length ν+(List.length μ+5)=List.length (a::b::c::(ν++x::μ))+1:=by simp;omega
   rw[e,e2,fC];simp[aG.cZ]
  refine aR.lr (α:={x:Nat×aG//x.1<=c.iY.length}) [7,24] (fun x=>[(7,.own (List.length ν+3) 0 x.1.1),(24,n x.1.1)]) (fun x=>some [⟨191,1,[[.v (.slice none 0 0)]],none⟩]::some [⟨191,1,[[.own 2 0 t]],none⟩]::some [⟨336,1,R.map (fun l=>[Ae l]),none⟩]::(ν++some [⟨340,2,(c.iY.take x.1.1).map rF,none⟩]::x.1.2)) (fun x=>c.iY.length-x.1.1) ⟨(0,[]),aQ _⟩ ?_
  rintro⟨⟨i,μ⟩,hi⟩
  simp only at hi
  simp only
  by_cases qz:i<c.iY.length
  ·obtain⟨s,hs⟩:∃s,c.iY[i]?=some s:=⟨_,ae qz⟩
   have Vr:=ao hs
   have ha:=Cd s Vr t hle
   have he:=Sw s Vr
   have cX:(c.iY.map St.cs).getD i []=St.cs s:=getD_map hs
   have hB:(c.iY.take (i+1)).map rF=(c.iY.take i).map rF++[rF s]:=by rw[ey hs];simp
   have qF:((c.iY.take i).map rF).length=i:=by rw[aF,bH];omega
   have hr:=hrF s
   generalize(c.iY.take i).map rF=B at*
   by_cases my:(t:Int)<c.bD
   ·rw[if_pos my]at hr
    refine Az (aa @zC (aa @hX (aa @hU (aa @RA (aa @Yt (aa @UC (aa @hU3 (aa @cX @qF)))))))) (aa @ha @he) ?_;intros
    exact⟨⟨(i+1,_),qz⟩,by simp,by rw[hB,hr],by simp only;omega⟩
   ·rw[if_neg my]at hr
    refine Az (aa @zC (aa @hX (aa @hU (aa @RA (aa @Yt (aa @UC (aa @hU3 (aa @cX @qF)))))))) (aa @ha @he) ?_;intros
    exact⟨⟨(i+1,_),qz⟩,by simp,by rw[hB,hr],by simp only;omega⟩
  ·obtain rfl:i=c.iY.length:=by omega
   rw[aI]
   refine adM ?_;intros
   refine adM ?_;intros
   all_goals try(exfalso;omega)
   refine adM ?_;intros
   refine aR.VU (f:=List.length ν+3) (i:=0) (o:=⟨340,2,c.iY.map rF,none⟩) (o':=⟨340,2,(c.iY.map (D t z)).map q_.cs,none⟩) (hX _ _ _ _ _) rfl rfl rfl rfl (by simp) (fun e he=>?_) (fun e j he hj W X β σ x hx=>?_) ?_
   ·have mB:e<c.iY.length:=by simpa using he
    rw[il,getD_map (ae mB)];rfl
   ·have mB:e<c.iY.length:=by simpa using he
    simp only at hx|-
    rw[il,getD_map (ae mB)]
    rw[getD_map (ae mB),hrF]at hx
    simp only[Function.comp_apply,q_.cs,sK]
    match j,hj with
    |0,_=>exact hx
    |1,_=>
     by_cases my:(t:Int)<c.bD
     ·rw[if_pos my]at hx|-;exact hx
     ·rw[if_neg my]at hx|-
      obtain rfl:=hx.dz
      exact .slnil 3
   rw[hU]
   refine aR.H_ (t:=7) (f:=List.length ν+3) (n:=c.iY.length) (o:=⟨340,2,(c.iY.map (D t z)).map q_.cs,none⟩) rfl (hX _ _ _ _ _) (by simp) (by simp) ?_
   refine aR.pQ (σ':=some [⟨191,1,[[.v (.slice none 0 0)]],none⟩]::some [⟨191,1,[[.own 2 0 t]],none⟩]::some [⟨336,1,R.map (fun l=>[Ae l]),none⟩]::(ν++none::μ)) (by simp[gone]) ?_
   refine Ax @PX ?_;intros
   exact⟨⟨(t+1,_),bP⟩,by simp,by simp only[l_,di,bq,dL];rfl,by simp only;omega⟩
 ·obtain rfl:t=N:=by omega
  refine Ax @zC ?_;intros
  exact bO.mX ⟨bO.gZ (T:=336) (cs:=fun l=>[Ae l]) rfl (by simp) (by decide) (fun a=>by simp) (fun a=>rfl),trivial⟩
end Go.Proofs.YtgopgjnfhkoomaaGreat
namespace Go.Abs
theorem RV.TN{w:World}{X:Nat->Prop}{β:gr}{σ:aG}{f n:Nat}{o:Ob}{m:List (List Int×AV)}{x:Value}(hs:dG w X β σ)(hx:RV w (Xt X β σ) β σ (.mp f) x)(ho:σ.at f 0=some o)(hm:bI o n=some m):RV w (Xt X β (gone σ f)) β (gone σ f) (.j4 n m) x:=by
 obtain⟨b,es,cl,o7,rfl,_,hb,hr⟩:=yq hs ho hm hx
 obtain⟨h1,h2,h3⟩:=yt hr
 have hd:∀i,es.getD i ⟨undef,undef,0⟩=es.toList.getD i ⟨undef,undef,0⟩:=fun i=>by simp[af,ab]
 refine .j4 n m b es cl hb (fun hX=>?_) (by rw[<-h1];simp) (fun i hi=>?_) fun i hi=>?_
 ·rcases hX with hX|⟨g,j',o',dN,oz⟩
  ·exact hs.xJ f 0 o b ho o7 hX
  ·have h3:=iG dN
   exact h3.1 (hs.inj f 0 g j' o o' b ho h3.2 o7 oz).1.symm
 ·rw[hd];exact h2 i (by omega)
 ·rw[hd];exact(h3 i (by omega)).pf
section
variable {P:Program} {N:Nat} {rd:Option Nat} {K:e7} {σ:aG}
theorem aR.PY{f h e j:Nat}{oh:Ob}{x0 y0:AV}{c:C}{env:Env}(UI:∀(w:World) X β v,dG w X β σ->RV w (Xt X β σ) β σ x0 v->RV w (Xt X β (gone σ f)) β (gone σ f) y0 v)(hh:σ.at h 0=some oh)(iw:h≠f)(nB:oh.lp=none)(he:e<oh.es.length)(hj:(oh.es.getD e [])[j]?=some x0)(hc:aR P N rd c K env ((gone σ f).cZ h 0 {oh with es:=oh.es.set e ((oh.es.getD e []).set j y0)})):aR P N rd c K env σ:=by
 intro code lF n0 X β a w cn
 have E1:Ext w β σ w β (gone σ f):=⟨ar _,fun _ _ _=>rfl,fun b ⟨g,i,o,ho,hb⟩=>.inl ⟨g,i,o,(iG ho).2,hb⟩,Still.refl w⟩
 have K1:Kp w (Xt X β σ) β σ w (Xt X β (gone σ f)) β (gone σ f):=
  ⟨ar _,fun _ _ _ _ _=>rfl,fun b _ hx=>sd b hx,by simp,fun g i o' _ dN=>⟨o',(iG dN).2,rfl,ar _,fun _=>⟨rfl,fun b _=>dM.refl w b⟩⟩⟩
 have Tq:=cn.sr.obj h 0 oh hh
 have S1:=cn.sr.pf (f:=f)
 have kx:=cn.tr S1 E1 K1
 have Pw:(gone σ f).at h 0=some oh:=by rw[p7 iw];exact hh
 have ic:=S1.obj h 0 oh Pw
 generalize dN:({oh with es:=oh.es.set e ((oh.es.getD e []).set j y0)}:Ob)=o' at hc
 have ek:o'.k=oh.k:=by rw[<-dN]
 have eT:o'.T=oh.T:=by rw[<-dN]
 have ZM:o'.lp=oh.lp:=by rw[<-dN]
 have Px:o'.es=oh.es.set e ((oh.es.getD e []).set j y0):=by rw[<-dN]
 have hlen:oh.es.length=o'.es.length:=by rw[Px];simp
 have ht:ss w β h 0 (β h 0) w:=⟨ar _,fun _ _ _=>rfl,fun b hb=>.inl hb,Still.refl w⟩
 have fe:oh.es.length=o'.es.length->β h 0=β h 0/\∀b,β h 0=some b->dM w w b:=fun _=>⟨rfl,fun b _=>dM.refl w b⟩
 have K2:=Kp.jM (o':=o') S1 Pw ht ek.symm (dS hlen) fe
 have E2:Ext w β (gone σ f) w (sE β h 0 (β h 0)) ((gone σ f).cZ h 0 o'):=Ext.jM Pw ht
 have cX:∀e',(o'.es.getD e' []).length=(oh.es.getD e' []).length:=by
  intro e'
  simp only[Px,ab,bX]
  split
  ·rename_i h;subst h;simp[he]
  ·rfl
 have S2:=S1.jM (o':=o') kx.bd Pw ht ek.symm (dS hlen) fe (by
  refine⟨fun e' mB=>by rw[cX,ek];exact ic.1 e' (by omega),?_⟩
  have h2:=ic.2
  have V4:=Tq.2
  cases hb:β h 0 with
  |none=>rw[hb]at h2;rw[h2.1]at he;exact absurd he (aN _)
  |some b=>
   rw[hb]at h2 V4
   refine⟨fun _=>?_,fun r hr=>by rw[ZM,nB]at hr;cases hr⟩
   obtain⟨c,lC,hle,h1,hr⟩:=h2.1 nB
   obtain⟨c',vX,_,_,QU⟩:=V4.1 nB
   rw[lC]at vX;injection vX with vX;injection vX with vX;subst vX
   refine⟨c,by rw[eT];exact lC,by rw[<-hlen,ek];exact hle,fun e' j' mB o9=>by rw[ek];exact h1 e' j' (by omega) (by omega),fun e' j' mB o9=>?_⟩
   rw[ek]
   have h3:=hr e' j' (by omega) (by omega)
   have h4:=h3.tr K2
   rw[hb]at h4
   by_cases hq:e'=e/\j'=j
   ·obtain⟨rfl,rfl⟩:=hq
    have vi:=(ai.1 hj).1
    have hv:(o'.es.getD e' []).getD j' .any=y0:=by
     have h5:o'.es.getD e' []=(oh.es.getD e' []).set j' y0:=by
      simp only[Px,ab,cp he,bV]
     rw[h5,ab,cp vi];rfl
    rw[hv]
    have h6:=QU e' j' he (by omega)
    have h7:(oh.es.getD e' []).getD j' .any=x0:=by rw[ab,hj];rfl
    rw[h7]at h6
    have h8:=(UI w X β _ cn.sr h6).tr K2
    rw[hb]at h8
    exact h8
   ·have:(o'.es.getD e' []).getD j' .any=(oh.es.getD e' []).getD j' .any:=by
     simp only[Px,ab,bX]
     split
     ·rename_i I4
      subst I4
      simp only[he,if_true,bV,bX]
      rw[if_neg fun VP=>hq ⟨rfl,VP.symm⟩]
     ·rfl
    rw[this];exact h4)
 exact wpIn_mono (hc code lF n0 X _ a w (kx.tr S2 E2 K2)) fun e a w hp=>hp.trans (E1.trans E2) (K1.trans K2)
theorem aR.PZ{f h e j n:Nat}{o oh:Ob}{m:List (List Int×AV)}{c:C}{env:Env}(ho:σ.at f 0=some o)(hm:bI o n=some m)(hh:σ.at h 0=some oh)(iw:h≠f)(nB:oh.lp=none)(he:e<oh.es.length)(hj:(oh.es.getD e [])[j]?=some (.mp f))(hc:aR P N rd c K env ((gone σ f).cZ h 0 {oh with es:=oh.es.set e ((oh.es.getD e []).set j (.j4 n m))})):aR P N rd c K env σ:=
 aR.PY (fun w X β v hs hv=>hv.TN hs ho hm) hh iw nB he hj hc
end
end Go.Abs
namespace Go.Proofs.YtgopgjnfhkoomaaGreat
open Go.Abs
open Nat (reduceAdd reduceSub reduceLT reduceLeDiff reduceMul reduceEqDiff)
set_option maxHeartbeats 4000000
set_option maxRecDepth 100000
abbrev DZ(c:Ch)(a b:AV):Ob:=⟨185,26,[oo c a b],none⟩
abbrev rA(l:List St):Ob:=⟨0,0,[],some (.mp 3 (wm l))⟩
theorem zD:(∀c a b x,(oo c a b).set 23 x=oo c x b)/\(∀c a b,(oo c a b).length=26)/\(∀c a b,(oo c a b).getD 12 .any=ec c.sh.rates)/\(∀c a b,(oo c a b).getD 14 .any=n c.sh.eC.cS)/\(∀c a b,(oo c a b).getD 15 .any=n c.sh.eC.zero.lo)/\(∀c a b,(oo c a b).getD 16 .any=n c.sh.eC.zero.hi)/\(∀c a b,(oo c a b).getD 22 .any=ec c.kz)/\(∀c a b,(oo c a b).getD 23 .any=a)/\(∀c a b,(oo c a b).getD 24 .any=b)/\(∀c a b x,(oo c a b).take 23++x::(oo c a b).drop 24=oo c x b):=by refine⟨?_,?_,?_,?_,?_,?_,?_,?_,?_,?_⟩<;>intros<;>rfl
theorem M5{σ:aG}{A:Nat}{c:Ch}{a b:AV}(h:σ.at A 0=some (DZ c a b)):bO σ (.ptr A 0 1 0 0) (.bZ (oo c .any .any) 0):=by
 refine bO.ptr (o:=DZ c a b) h rfl (by simp) rfl fun t ht=>?_
 have ht:t<26:=ht
 by_cases e:t=23\/t=24
 ·rcases e with rfl|rfl<;>exact bO.any
 ·have h2:(oo c .any .any).getD t .any=(oo c a b).getD t .any:=by
   unfold oo
   match t,ht with
   |0,_|1,_|2,_|3,_|4,_|5,_|6,_|7,_|8,_|9,_|10,_|11,_|12,_|13,_|14,_|15,_|16,_|17,_|18,_|19,_|20,_|21,_|22,_|25,_=>rfl
   |23,_|24,_=>omega
   |t+26,h=>omega
  have h3:bC ((oo c .any .any).getD t .any):=E7 c bC.any bC.any _ (j9 (show t<26 from ht))
  rw[h2]at h3
  exact bO.eq h2.symm h3
theorem py{v:AV}{ks:List Int}:∀{W:List (List Int×AV)},jD W ks=none->ku W ks v=W++[(ks,v)]
 | [],_=>rfl
 |x::r,h=>by
  unfold jD at h
  split at h
  ·cases h
  ·rename_i hx
   rw[ku,if_neg hx,py h];rfl
theorem TP{l:List St}{s:St}(h:s∉l):ku (wm l) s.ky (n (l.length:Int))=wm (l++[s]):=by
 rw[py (CC h),Pf]
theorem J5{c:Ch}(hb:0<=c.cS){m:Nat}{s:St}(h:s∈c.uF m):s.en<(m:Int)-1:=by
 obtain⟨k,hk,h⟩:=fc.1 h
 have:=(yS hb).1 h
 have:=bc.1 hk
 omega
def lx(c:Ch)(m a j:Nat):List St:=c.uF m++c.jY ((m:Int)-1) a++(c.row ((m:Int)-1) a).take j
theorem J6{c:Ch}(hb:0<=c.cS){m a j:Nat}(h:j<(2*c.cS+1).toNat):lx c m a (j+1)=lx c m a j++[⟨(m:Int)-1,a,(j:Int)-c.cS⟩]/\(⟨(m:Int)-1,a,(j:Int)-c.cS⟩:St)∉lx c m a j:=by
 have e:(c.row ((m:Int)-1) a)[j]?=some ⟨(m:Int)-1,a,(j:Int)-c.cS⟩:=by simp[Ch.row,xE,h]
 refine⟨by unfold lx;rw[ey e];simp,fun hm=>?_⟩
 unfold lx at hm
 rcases bm.1 hm with hm|hm
 ·rcases bm.1 hm with hm|hm
  ·have:=J5 hb hm;simp only at this;omega
  ·have:=(yS hb).1 hm;simp only at this;omega
 ·obtain⟨i,hi,e2⟩:=fZ.1 hm
  rw[bH]at hi
  rw[List.getElem_take]at e2
  simp only[Ch.row,xE,cC,fJ,St.mk.injEq]at e2
  omega
theorem M6{c:Ch}{m a:Nat}:lx c m a (2*c.cS+1).toNat=lx c m (a+1) 0:=by
 unfold lx
 rw[cD (by rw[CA];exact ar _)]
 simp[Ch.jY,gE]
theorem M7{c:Ch}{m:Nat}:lx c m (c.stay ((m:Int)-1)).toNat 0=lx c (m+1) 0 0:=by
 unfold lx
 simp[Ch.uF,Ch.jY,gE]
theorem TQ(c:Ch)(m:Nat):lx c m 0 0=c.uF m:=by simp[lx,Ch.jY]
theorem M8{c:Ch}(h:c.ok){m a j:Nat}(hm:m<=c.kz.length+2)(ha:a<=400):(lx c m a j).length<=1400000:=by
 have h1:=vU h hm
 have h2:=CB h hm
 have hg:=h.g2
 have I8:=h.p1
 have F':=h.p2
 have h3:=yG h2.1 (show c.sum m<=80400 by omega) (show 0<=2*c.cS+1 by omega) (show 2*c.cS+1<=17 by omega)
 have h4:a*(2*c.cS+1).toNat<=400*17:=Nat.mul_le_mul ha (by omega)
 unfold lx
 simp only[aM,EH,bH,CA]
 omega
theorem M9{σ:aG}{f g i j:Nat}{o o':Ob}(h:f≠g):(σ.cZ f i o).cZ g j o'=(σ.cZ g j o').cZ f i o:=by
 have h':g≠f:=fun e=>h e.symm
 unfold aG.cZ
 cases hf:σ[f]? with
 |none=>
  cases hg:σ[g]? with
  |none=>simp[hf]
  |some G=>cases G<;>simp[hf,bW h']
 |some F=>
  cases F with
  |none=>
   cases hg:σ[g]? with
   |none=>simp[hf]
   |some G=>cases G<;>simp[hf,bW h']
  |some F=>
   cases hg:σ[g]? with
   |none=>simp[hf,hg,bW h]
   |some G=>cases G<;>simp[hf,hg,bW h,bW h',List.set_comm _ _ h]
theorem w_(σ:aG)(c:Ch)(hc:c.ok)(A M:Nat)(Yv:A≠M)(hA:σ.at A 0=some (DZ c (.v (.slice none 0 0)) (.mp M)))(hM:σ.at M 0=some (rA [])):eY Tryz.prog 80 [.ptr A 0 1 0 0] σ (fun _ σ'=>∃ν,σ'=(σ.cZ A 0 (DZ c (.own σ.length 0 c.iY.length) (.mp M))).cZ M 0 (rA c.iY)++some [⟨282,3,c.iY.map St.cs,none⟩]::ν):=by
 refine Fi Tryz.f80.eq_1 [] [.l [0,2],.l [0,2,17,18],.l [0,2,3,4,17,18],.v 0 1 7,.d 10] ?_
 have Oc:=hc.g2
 have hl:c.last=c.kz.length:=rfl
 have I8:=hc.p1
 have F':=hc.p2
 have Na:c.sh.eC.cS=c.cS:=rfl
 obtain⟨B,hB⟩:∃B:Nat->List St->aG,∀m k,B m k=(σ.cZ A 0 (DZ c (.own σ.length 0 m) (.mp M))).cZ M 0 (rA k):=⟨_,fun _ _=>rfl⟩
 have Yw:=dU hA
 have hlM:=dU hM
 have qF:∀m k,(B m k).length=σ.length:=fun m k=>by rw[hB,eW,eW]
 have hBA:∀m k,(B m k).at A 0=some (DZ c (.own σ.length 0 m) (.mp M)):=fun m k=>by rw[hB,cx (.inl fun e=>Yv e.symm),cu hA]
 have hBM:∀m k,(B m k).at M 0=some (rA k):=fun m k=>by rw[hB,cu (by rw[cx (.inl Yv)];exact hM)]
 have fA:∀m k r,aG.at (B m k++r) A 0=some (DZ c (.own σ.length 0 m) (.mp M)):=fun m k r=>by rw[cI (by rw[qF];exact Yw),hBA]
 have fM:∀m k r,aG.at (B m k++r) M 0=some (rA k):=fun m k r=>by rw[cI (by rw[qF];exact hlM),hBM]
 have fL:∀m k o r,aG.at (B m k++some [o]::r) σ.length 0=some o:=fun m k o r=>by rw[<-qF m k,dV];rfl
 have uM:∀m k r k',aG.cZ (B m k++r) M 0 (rA k')=B m k'++r:=fun m k r k'=>by rw[iR (by rw[qF];exact hlM),hB,hB,Dh]
 have uA:∀m k r m',aG.cZ (B m k++r) A 0 (DZ c (.own σ.length 0 m') (.mp M))=B m' k++r:=fun m k r m'=>by
  rw[iR (by rw[qF];exact Yw),hB,hB]
  rw[M9 (fun e=>Yv e.symm),Dh]
 have uL:∀m k o o' r,aG.cZ (B m k++some [o]::r) σ.length 0 o'=B m k++some [o']::r:=fun m k o o' r=>by
  have:=fC (B m k) (some [o]::r) 0 0 o'
  rw[qF]at this
  rw[show σ.length=σ.length+0 by rfl,this];simp[aG.cZ]
 have fE:∀m k x (μ:aG) o r,aG.at (B m k++x::(μ++some [o]::r)) (σ.length+(μ.length+1)) 0=some o:=fun m k x μ o r=>by
  rw[<-qF m k,dR,cQ,dV];rfl
 have uE:∀m k x (μ:aG) o o' r,aG.cZ (B m k++x::(μ++some [o]::r)) (σ.length+(μ.length+1)) 0 o'=B m k++x::(μ++some [o']::r):=fun m k x μ o o' r=>by
  rw[<-qF m k,fC]
  simp[aG.cZ]
 have hS:∀m k r x,-1<=x->x<=c.last->jg Tryz.prog 154 [.ptr A 0 1 0 0,n x] (B m k++r) (n (c.stay x)):=fun m k r x h1 h2=>
  jg.plain (wb c hc .any .any x h1 h2) (by simp) ⟨M5 (fA m k r),bO.pure (by simp),trivial⟩
 refine aR.lH 282 3 (f:=A) (i:=0) (e:=0) (j:=23) hA (by simp) rfl ?_
 refine aR.pQ (σ':=B 0 []++some [⟨282,3,([]:List St).map St.cs,none⟩]::[]) (by rw[hB,iR Yw];congr 1;exact(j8 (by rw[cx (.inl Yv)];exact hM)).symm) ?_
 clear hBA hBM
 have hT:c.iY=lx c (c.kz.length+2) 0 0:=(TQ c _).symm
 refine Au ?_;intros
 refine aR.lr (α:={x:Nat×aG//x.1<=c.kz.length+2}) [2] (fun x=>[(2,n ((x.1.1:Int)-1))]) (fun x=>B (lx c x.1.1 0 0).length (lx c x.1.1 0 0)++some [⟨282,3,(lx c x.1.1 0 0).map St.cs,none⟩]::x.1.2) (fun x=>c.kz.length+2-x.1.1) ⟨(0,[]),aQ _⟩ ?_
 rintro⟨⟨m,μ⟩,hm⟩
 simp only at hm
 simp only
 by_cases bP:m<c.kz.length+2
 ·have cn:=oc hc (k:=(m:Int)-1) (by omega) (by omega)
  have K7:=hS (lx c m 0 0).length (lx c m 0 0) (some [⟨282,3,(lx c m 0 0).map St.cs,none⟩]::μ) ((m:Int)-1) (by omega) (by omega)
  refine Az (aa @fA @zD) @K7 ?_;intros
  refine aR.lr (α:={x:Nat×aG//x.1<=(c.stay ((m:Int)-1)).toNat}) [18] (fun x=>[(18,n x.1.1)]) (fun x=>B (lx c m x.1.1 0).length (lx c m x.1.1 0)++some [⟨282,3,(lx c m x.1.1 0).map St.cs,none⟩]::x.1.2) (fun x=>(c.stay ((m:Int)-1)).toNat-x.1.1) ⟨(0,μ),aQ _⟩ ?_
  rintro⟨⟨a,μ⟩,ha⟩
  simp only at ha
  simp only
  by_cases qz:a<(c.stay ((m:Int)-1)).toNat
  ·refine Ax (aa @fA @zD) ?_;intros
   refine aR.lr (α:={x:Nat×aG//x.1<=(2*c.cS+1).toNat}) [4] (fun x=>[(4,n ((x.1.1:Int)-c.cS))]) (fun x=>B (lx c m a x.1.1).length (lx c m a x.1.1)++some [⟨282,3,(lx c m a x.1.1).map St.cs,none⟩]::x.1.2) (fun x=>(2*c.cS+1).toNat-x.1.1) ⟨(0,μ),aQ _⟩ ?_
   rintro⟨⟨j,μ⟩,hj⟩
   simp only at hj
   simp only
   by_cases my:j<(2*c.cS+1).toNat
   ·obtain⟨e1,e2⟩:=J6 I8 (m:=m) (a:=a) my
    have e3:ku (wm (lx c m a j)) [(m:Int)-1,(a:Int),(j:Int)-c.cS] (n ((lx c m a j).length:Int))=wm (lx c m a (j+1)):=by rw[e1];exact TP e2
    have hlen:=M8 hc (m:=m) (a:=a) (j:=j) (by omega) (by omega)
    generalize hS':lx c m a (j+1)=S' at*
    generalize lx c m a j=S at*
    refine Ax (aa @qF (aa @fE (aa @uE (aa @fA (aa @fM (aa @fL (aa @uA (aa @uM (aa @uL (aa @zD (aa @Na @e3))))))))))) ?_;intros
    refine⟨⟨(j+1,μ++[some [⟨282,3,[[n ((m:Int)-1),n (a:Int),n ((j:Int)-c.cS)]],none⟩]]),my⟩,by simp;omega,?_,by simp only;omega⟩
    simp only[hS']
    rw[show S'.length=S.length+1 by rw[e1];simp,show S'.map St.cs=S.map St.cs++[[n ((m:Int)-1),n (a:Int),n ((j:Int)-c.cS)]] by rw[e1];simp]
   ·obtain rfl:j=(2*c.cS+1).toNat:=by omega
    refine Ax (aa @fA (aa @zD @Na)) ?_;intros
    exact⟨⟨(a+1,μ),qz⟩,by simp,by simp only[M6],by simp only;omega⟩
  ·obtain rfl:a=(c.stay ((m:Int)-1)).toNat:=by omega
   refine Ax (aa @fA @zD) ?_;intros
   exact⟨⟨(m+1,μ),bP⟩,by simp,by simp only[M7],by simp only;omega⟩
 ·obtain rfl:m=c.kz.length+2:=by omega
  refine Ax (aa @fA @zD) ?_;intros
  refine⟨μ,?_⟩
  rw[hT,<-hB]
end Go.Proofs.YtgopgjnfhkoomaaGreat
namespace Go.Abs
theorem Mem.one{v a b:Int}(h1:a<=v)(h2:v<=b):Mem v [⟨a,b⟩]:=⟨_,bp.2 rfl,h1,h2⟩
structure Cr where
 zero:Int
 tk:List Int
 shown:List Int
 nq:List Int
def Cr.T(r:Cr)(k:Int):Int:=r.tk.getD k.toNat 0
def Cr.D(r:Cr)(t:Int):Int:=r.shown.getD t.toNat 0
def Cr.L(r:Cr)(t:Int):Int:=r.nq.getD t.toNat 0
structure Fit(c:Ch)(r:Cr):Prop where
 tk:∀k,0<=k->k<=c.last->0<=r.T k/\r.T k<=c.bD/\(c.oa k≠[]->Mem (r.D (r.T k)) (c.oa k))
 gp:∀k,0<=k->k<c.last->(c.yO k).lo<=r.T (k+1)-r.T k/\r.T (k+1)-r.T k<=(c.yO k).hi
 lv:∀t,0<=t->t<=c.bD->0<=r.D t/\r.D t<=12000/\0<=r.L t/\r.L t<=12000/\r.L t-r.zero-r.D t<=c.cS/\r.D t-(r.L t-r.zero)<=c.cS
 st:∀t,0<=t->t<c.bD->r.L (t+1)-r.L t<=c.sh.eC.kc/\r.L t-r.L (t+1)<=c.sh.eC.kc/\r.D (t+1)=min (max (r.D t) (r.L (t+1)-r.zero-c.cS)) (r.L (t+1)-r.zero+c.cS)
 ma:∀m∈c.marks,m.bD.lo<=r.T m.en/\r.T m.en<=m.bD.hi
 rd:∀d∈c.reads,d.levels.lo<=r.L d.tick/\r.L d.tick<=d.levels.hi
structure Hf(c:Ch)(r:Cr)(t:Int)(s:St):Prop where
 off:s.off=r.L t-r.zero-r.D t
 Pc:s.en=-1/\s.n_=0/\t<r.T 0\/0<=s.en/\s.en<c.last/\s.n_=t-r.T s.en/\0<=s.n_/\t<r.T (s.en+1)\/s.en=c.last/\r.T c.last<=t/\s.n_=if t=r.T c.last then 0 else 1
section
variable {c:Ch} {r:Cr} (h:c.ok) (f:Fit c r)
include h f
theorem E9{t:Int}{s:St}(h1:0<=t)(h2:t<=c.bD)(hs:Hf c r t s):s∈c.iY:=by
 rw[nI h.p1]
 have hl:1<=c.last:=by have:=h.g1;unfold Ch.last;omega
 have hv:=f.lv t h1 h2
 have ho:=hs.off
 obtain⟨a1,a2,a3⟩|⟨a1,a2,a3,a4,a5⟩|⟨a1,a2,a3⟩:=hs.Pc
 ·have:c.stay s.en=1:=by rw[a1];rfl
  omega
 ·have hg:=f.gp s.en a1 a2
  have t1:=f.tk s.en a1 (by omega)
  have t2:=f.tk (s.en+1) (by omega) (by omega)
  have:c.stay s.en=min (c.yO s.en).hi c.bD:=by unfold Ch.stay;rw[if_neg (by omega),if_neg (by omega)]
  rw[this];omega
 ·have:c.stay s.en=2:=by unfold Ch.stay;rw[if_neg (by omega),if_pos a1]
  split at a3<;>omega
theorem TR:∃s,Hf c r 0 s:=by
 have hl:1<=c.last:=by have:=h.g1;unfold Ch.last;omega
 have t0:=f.tk 0 (by omega) (by omega)
 have hg:=f.gp 0 (by omega) (by omega)
 have xR:=Gz h (k:=0) (by omega) (by omega)
 by_cases e:r.T 0=0
 ·exact⟨⟨0,0,_⟩,rfl,.inr (.inl ⟨by simp,by simp only;omega,by simp[e],by simp,by simp only[Int.zero_add]at hg|-;omega⟩)⟩
 ·exact⟨⟨-1,0,_⟩,rfl,.inl ⟨rfl,rfl,by omega⟩⟩
theorem J7{t:Int}{s:St}(h1:0<=t)(h2:t<c.bD)(hs:Hf c r t s):∃s',Hf c r (t+1) s'/\(⟨s'.en,s'.n_,0⟩:St)∈c.ways s:=by
 have hl:1<=c.last:=by have:=h.g1;unfold Ch.last;omega
 have P0:∀k,0<=k->k<c.last->r.T k<r.T (k+1):=fun k a b=>by
  have:=f.gp k a b;have:=Gz h a b;omega
 have M_:∀k,0<=k->k<=c.last->t+1=r.T k->Hf c r (t+1) ⟨k,0,r.L (t+1)-r.zero-r.D (t+1)⟩:=fun k a b e=>by
  refine⟨rfl,?_⟩
  by_cases hk:k=c.last
  ·subst hk;exact .inr (.inr ⟨rfl,by omega,by simp only;rw[if_pos e]⟩)
  ·exact .inr (.inl ⟨a,by simp only;omega,by simp only;omega,by simp,by simp only;have:=P0 k a (by omega);omega⟩)
 obtain⟨a1,a2,a3⟩|⟨a1,a2,a3,a4,a5⟩|⟨a1,a2,a3⟩:=hs.Pc
 ·by_cases e:t+1=r.T 0
  ·exact⟨_,M_ 0 (by omega) (by omega) e,by unfold Ch.ways;rw[if_pos a1];simp⟩
  ·exact⟨⟨-1,0,_⟩,⟨rfl,.inl ⟨rfl,rfl,by omega⟩⟩,by unfold Ch.ways;rw[if_pos a1];simp⟩
 ·have hg:=f.gp s.en a1 a2
  have t1:=f.tk s.en a1 (by omega)
  have t2:=f.tk (s.en+1) (by omega) (by omega)
  have cn:c.stay s.en=min (c.yO s.en).hi c.bD:=by unfold Ch.stay;rw[if_neg (by omega),if_neg (by omega)]
  by_cases e:t+1=r.T (s.en+1)
  ·refine⟨_,M_ (s.en+1) (by omega) (by omega) e,?_⟩
   unfold Ch.ways
   rw[if_neg (by omega),if_neg (by omega),if_pos (show(c.yO s.en).lo<=s.n_+1/\s.n_+1<=(c.yO s.en).hi by omega)]
   simp
  ·refine⟨⟨s.en,s.n_+1,_⟩,⟨rfl,.inr (.inl ⟨a1,a2,by simp only;omega,by simp only;omega,by simp only;omega⟩)⟩,?_⟩
   unfold Ch.ways
   rw[if_neg (by omega),if_neg (by omega),if_pos (show s.n_+1<c.stay s.en by omega)]
   simp
 ·refine⟨⟨c.last,1,_⟩,⟨rfl,.inr (.inr ⟨rfl,by omega,by simp only;rw[if_neg (by omega)]⟩)⟩,?_⟩
  unfold Ch.ways
  rw[if_neg (by omega),if_pos a1];simp
omit h in
theorem P1{t z:Int}(hz:z=r.zero){s:St}(h1:0<=t)(h2:t<=c.bD)(hs:s.off=r.L t-r.zero-r.D t):(c.out t (s.off+z)).lo<=r.D t/\r.D t<=(c.out t (s.off+z)).hi:=by
 subst hz
 have hv:=f.lv t h1 h2
 unfold Ch.out
 have:∀(l:List Rd) (o:Sp),(∀d∈l,d∈c.reads)->o.lo<=r.D t/\r.D t<=o.hi->(l.foldl (Cz t (s.off+r.zero)) o).lo<=r.D t/\r.D t<=(l.foldl (Cz t (s.off+r.zero)) o).hi:=by
  intro l
  induction l with
  |nil=>exact fun o _ h=>h
  |cons d l ih=>
   intro o hl ho
   refine ih _ (fun x hx=>hl x (by simp[hx])) ?_
   have:=f.rd d (hl d (by simp))
   unfold Cz
   split
   ·rename_i e;subst e;simp only;omega
   ·exact ho
 exact this _ _ (fun d hd=>hd) (by simp only;omega)
theorem Hg{t:Int}{s:St}(h1:0<=t)(h2:t<=c.bD)(hs:Hf c r t s):Mem (r.D t) (c.allow s t r.zero):=by
 have hl:1<=c.last:=by have:=h.g1;unfold Ch.last;omega
 have ho:=P1 f rfl h1 h2 hs.off
 have P0:∀k,0<=k->k<c.last->r.T k<r.T (k+1):=fun k a b=>by
  have:=f.gp k a b;have:=Gz h a b;omega
 have hp:s.pass->0<=s.en/\s.en<=c.last/\t=r.T s.en:=by
  rintro⟨p1,p2⟩
  obtain⟨a1,a2,a3⟩|⟨a1,a2,a3,a4,a5⟩|⟨a1,a2,a3⟩:=hs.Pc
  ·omega
  ·exact⟨p1,by omega,by omega⟩
  ·split at a3
   ·exact⟨p1,by omega,by rw[a1];assumption⟩
   ·omega
 have h0:¬(t=0/\¬(s.en=-1\/s.en=0/\s.n_=0)\/t=c.bD/\s.en≠c.last):=by
  have tl:=f.tk c.last (by omega) (by omega)
  have t0:=f.tk 0 (by omega) (by omega)
  have up:∀k:Nat,(k:Int)<=c.last->r.T 0+k<=r.T k:=by
   intro k hk
   induction k with
   |zero=>simp
   |succ k ih=>
    have:=ih (by omega);have:=P0 k (by omega) (by omega)
    rw[show((k+1:Nat):Int)=(k:Int)+1 by omega];omega
  have dn:∀k,0<=k->k<=c.last->k<=r.T k:=fun k a b=>by
   have:=up k.toNat (by omega);rw[gm a]at this;omega
  have mono:∀k:Nat,(k:Int)<=c.last->r.T (c.last-k)<=r.T c.last:=by
   intro k hk
   induction k with
   |zero=>simp
   |succ k ih=>
    have:=ih (by omega);have:=P0 (c.last-(k+1:Nat)) (by omega) (by omega)
    rw[show c.last-(k+1:Nat)+1=c.last-k by omega]at this;omega
  obtain⟨a1,a2,a3⟩|⟨a1,a2,a3,a4,a5⟩|⟨a1,a2,a3⟩:=hs.Pc
  ·have:=mono c.last.toNat (by omega)
   rw[gm (by omega),Int.sub_self]at this
   omega
  ·have d1:=dn s.en a1 (by omega)
   have m1:=mono (c.last-(s.en+1)).toNat (by omega)
   rw[gm (by omega),show c.last-(c.last-(s.en+1))=s.en+1 by omega]at m1
   rintro(⟨e1,e2⟩|⟨e1,e2⟩)
   ·exact e2 (.inr (by omega))
   ·omega
  ·have:=dn c.last (by omega) (by omega)
   omega
 unfold Ch.allow
 rw[if_neg h0,if_neg]
 ·split
  ·rename_i hq
   obtain⟨q1,q2,q3⟩:=hp hq.1
   rw[q8]
   refine⟨?_,Mem.one ho.1 ho.2⟩
   have:=(f.tk s.en q1 q2).2.2 hq.2
   rwa[<-q3]at this
  ·exact Mem.one ho.1 ho.2
 ·rintro(e|⟨e1,e2⟩)
  ·omega
  ·obtain⟨q1,q2,q3⟩:=hp e1
   obtain⟨m,hm,e⟩:=eb.1 e2
   have:=f.ma m hm
   unfold uG at e
   simp only[decide_eq_true_eq]at e
   rw[e.1,<-q3]at this
   exact e.2 this
theorem J8{t:Int}{s s':St}(h1:0<=t)(h2:t<c.bD)(hs:s.off=r.L t-r.zero-r.D t)(nM:s'.off=r.L (t+1)-r.zero-r.D (t+1)):yP c.sh.eC s.off s'.off=true/\(BF c.sh.eC s.off s'.off).lo<=r.D (t+1)-r.D t/\r.D (t+1)-r.D t<=(BF c.sh.eC s.off s'.off).hi:=by
 have hv:=f.lv t h1 (by omega)
 have hv':=f.lv (t+1) (by omega) (by omega)
 obtain⟨s1,s2,s3⟩:=f.st t h1 h2
 have hb:=h.p1
 unfold yP BF
 simp only[decide_eq_true_eq,Ch.cS]at*
 generalize c.sh.eC.cS=b at*
 generalize c.sh.eC.kc=q at*
 by_cases e1:s'.off=b<;>by_cases e2:s'.off=-b<;>simp only[e1,e2,if_true,if_false,ne_eq,Sp.mk.injEq]<;>first|omega|(split<;>omega)
end
def Fa(g s:Sp):Sp:=⟨g.lo+s.lo,g.hi+s.hi⟩
def sY(g:List Sp)(s:Mk):List Sp:=g.set s.en.toNat (Fa (g.getD s.en.toNat ⟨0,0⟩) s.bD)
def i_(rates:List Sp)(stops:List Mk):List Sp:=stops.foldl sY rates
structure Iy(N k:Nat)(g:List Sp):Prop where
 len:g.length=N
 bd:∀s∈g,1<=s.lo/\s.lo<=s.hi/\s.hi<=40+400*k
theorem Iy.next{N k:Nat}{g:List Sp}(h:Iy N k g){s:Mk}(hs:ke s.bD 0 400):Iy N (k+1) (sY g s):=by
 refine⟨by unfold sY;rw[cK];exact h.len,fun x hx=>?_⟩
 unfold sY at hx
 rcases List.mem_or_eq_of_mem_set hx with hx|rfl
 ·have:=h.bd x hx;omega
 ·by_cases hc:s.en.toNat<g.length
  ·have:=h.bd _ (cv hc)
   rw[ab,ae hc]
   simp only[Fa,bV];omega
  ·rw[List.set_eq_of_length_le (by omega)]at hx
   have:=h.bd _ hx;omega
theorem Iz{rates:List Sp}{stops:List Mk}(h:gV rates stops)(k:Nat):Iy rates.length (min k stops.length) (i_ rates (stops.take k)):=by
 induction k with
 |zero=>
  refine⟨rfl,fun s hs=>?_⟩
  have:=h.2.2.1 s hs
  obtain⟨a,b,c⟩:=this
  omega
 |succ k ih=>
  by_cases hk:k<stops.length
  ·have e:stops[k]?=some stops[k]:=ae hk
   have e2:i_ rates (stops.take (k+1))=sY (i_ rates (stops.take k)) stops[k]:=by
    unfold i_
    rw[ba,e,eO];rfl
   rw[e2,show min (k+1) stops.length=min k stops.length+1 by omega]
   exact ih.next (h.2.2.2 _ (cv hk)).2
  ·rw[cD (by omega),show min (k+1) stops.length=min k stops.length by omega]
   rwa[cD (by omega)]at ih
theorem rB{rates:List Sp}{stops:List Mk}(h:gV rates stops):(i_ rates stops).length=rates.length/\∀s∈i_ rates stops,1<=s.lo/\s.lo<=s.hi/\s.hi<=10000:=by
 have:=Iz h stops.length
 rw[aI,Nat.min_self]at this
 have hl:=h.2.1
 exact⟨this.len,fun s hs=>by have:=this.bd s hs;omega⟩
theorem P2{rates:List Sp}{k:Nat}(hk:k<rates.length)(stops:List Mk)(hs:∀s∈stops,0<=s.en):(i_ rates stops).getD k ⟨0,0⟩=stops.foldl (fun g s=>if s.en=(k:Int)then Fa g s.bD else g) (rates.getD k ⟨0,0⟩):=by
 unfold i_
 induction stops generalizing rates with
 |nil=>rfl
 |cons s r ih=>
  simp only[cT]
  rw[ih (rates:=sY rates s) (by unfold sY;rw[cK];exact hk) fun x hx=>hs x (by simp[hx])]
  congr 1
  have h0:=hs s (by simp)
  unfold sY
  rw[ab,bX]
  by_cases e:s.en=k
  ·have e2:s.en.toNat=k:=by omega
   rw[if_pos e,if_pos e2,if_pos (by omega),e2];rfl
  ·rw[if_neg e,if_neg (by omega)];rfl
def Hh(Cy:fT->List (List Sp))(w:Wk)(f:dm)(st:Int):Ch:=⟨f.c8,f.marks,w.reads.filter fun r=>decide (r.fB=st),w.base.bD,Cy f.c8,i_ f.c8.rates f.c8.stops⟩
end Go.Abs
namespace Go.Proofs.YtgopgjnfhkoomaaGreat
open Go.Abs
open Nat (reduceAdd reduceSub reduceLT reduceLeDiff reduceMul reduceEqDiff)
set_option maxHeartbeats 4000000
set_option maxRecDepth 100000
theorem zv(l:List Sp)(h0:l≠[])(hl:l.length*16<=140737488355328)(σ:aG):eY Tryz.prog 188 [ec l] σ (uI σ 52 2 (l.map Sp.cs)):=by
 refine Fi Tryz.f188.eq_1 [5] [] ?_
 have iw:l.map Sp.cs≠[]:=by simpa using h0
 refine Au ?_;intros
 exact .mk [] (by simp) rfl
theorem BT(rates:List Sp)(stops:List Mk)(h:gV rates stops):Pure Tryz.prog 185 [.agg [ec rates,mb stops]] (ec (i_ rates stops)):=by
 refine jX Tryz.f185.eq_1 [] [.l [3,10,11,12],.d 12,.d 12] ?_
 have hN:=h.1
 have aa9:=h.2.1
 have ow:=zv rates (by intro e;have:=hN.1;rw[e]at this;simp at this) (by omega) []
 have ff:i_ rates stops=i_ rates (stops.take stops.length):=by rw[aI]
 have QX:i_ rates (stops.take 0)=rates:=rfl
 have l_:∀k s,stops[k]?=some s->i_ rates (stops.take (k+1))=sY (i_ rates (stops.take k)) s:=fun k s e=>p8 e
 have lO:=Iz h
 rw[ff]
 have cn:∀s∈stops,inr s.en 0 (rates.length-1)/\ke s.bD 0 400:=h.2.2.2
 generalize hG:(fun k=>i_ rates (stops.take k))=G at*
 have Yf:∀k,i_ rates (stops.take k)=G k:=fun k=>congrFun hG k
 simp only[Yf]at*
 refine Au ?_;intros
 refine .inr (.inl ⟨_,_,_,_,rfl,fun _=>⟨ow,?_⟩,fun h=>by cases h⟩)
 rintro r1 lN ⟨ν,rfl,rfl⟩
 refine aH ?_
 refine adL ?_
 refine Au ?_;intros
 refine aR.le (α:={x:Nat×aG//x.1<=stops.length}) [12] (fun x=>[(12,n x.1.1)]) (fun x=>some [⟨52,2,(G x.1.1).map Sp.cs,none⟩]::x.1.2) (fun x=>stops.length-x.1.1) ⟨(0,ν),aQ _⟩ ?_ ?_
 ·simp[QX]
 rintro⟨⟨k,μ⟩,hk⟩
 simp only at hk
 simp only
 have KX:=lO k
 by_cases bP:k<stops.length
 ·obtain⟨s,hs⟩:∃s,stops[k]?=some s:=⟨_,ae bP⟩
  have cX:(stops.map Mk.cs).getD k []=Mk.cs s:=getD_map hs
  have hn:=l_ k s hs
  obtain⟨c1,c2⟩:=cn s (ao hs)
  obtain⟨gl,gb⟩:=KX
  have qz:s.en.toNat<(G k).length:=by omega
  have As:(G k)[s.en.toNat]?=some ((G k).getD s.en.toNat ⟨0,0⟩):=getD_some qz
  have hb:=gb _ (ao As)
  have K8:((G k).map Sp.cs).getD s.en.toNat []=Sp.cs ((G k).getD s.en.toNat ⟨0,0⟩):=getD_map As
  have nV:∀X,(((G k).map Sp.cs).set s.en.toNat X).getD s.en.toNat []=X:=fun X=>by simp[ab,qz]
  have wS:∀X Y,(((G k).map Sp.cs).set s.en.toNat X).set s.en.toNat Y=((G k).map Sp.cs).set s.en.toNat Y:=fun X Y=>List.set_set ..
  unfold sY Fa at hn
  generalize(G k).getD s.en.toNat ⟨0,0⟩=g at*
  have lh:((G k).map Sp.cs).set s.en.toNat [n (g.lo+s.bD.lo),n (g.hi+s.bD.hi)]=(G (k+1)).map Sp.cs:=by rw[hn,fU]
  refine Ax (aa @cX (aa @K8 (aa @nV (aa @wS @gl)))) ?_;intros
  exact⟨⟨(k+1,_),bP⟩,by simp,by rw[<-lh],by simp only;omega⟩
 ·obtain rfl:k=stops.length:=by omega
  refine Au ?_;intros
  exact C9 _ rfl (lO _).len.symm
theorem Nc(rates:List Sp)(stops:List Mk)(h:gV rates stops)(i:Nat)(hi:i<rates.length):Pure Tryz.prog 152 [.agg [ec rates,mb stops],n i] (.iu [.agg ((i_ rates stops).getD i ⟨0,0⟩).cs,n 0]):=by
 refine jX Tryz.f152.eq_1 [] [] ?_
 have hN:=h.1
 have h1:=kM rates stops (by omega) (by have:=h.2.1;omega)
 rw[if_pos h]at h1
 have h2:=rm i 0 ((rates.length:Int)-1)
 have h3:=BT rates stops h
 have hl:=(rB h).1
 have cX:((i_ rates stops).map Sp.cs).getD i []=Sp.cs ((i_ rates stops).getD i ⟨0,0⟩):=row _ (by omega)
 generalize i_ rates stops=G at*
 generalize G.getD i ⟨0,0⟩=g at*
 refine Az @cX (aa @h1 (aa @h2 @h3)) ?_;intros
 exact Fq
end Go.Proofs.YtgopgjnfhkoomaaGreat
