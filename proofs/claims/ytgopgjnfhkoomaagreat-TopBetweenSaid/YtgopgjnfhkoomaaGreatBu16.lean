/- Part 16 of the texts: abstract values over the walk; contracts. -/
import Derived.Test.YtgopgjnfhkoomaaGreatBu11
import Derived.Test.YtgopgjnfhkoomaaGreatBu14
import Derived.Test.YtgopgjnfhkoomaaGreatRows
set_option linter.unusedVariables false
set_option linter.unusedSimpArgs false
namespace Go.Proofs.YtgopgjnfhkoomaaGreat
open Go.Abs
open Nat (reduceAdd reduceSub reduceLT reduceLeDiff reduceMul reduceEqDiff)
set_option maxHeartbeats 4000000
set_option maxRecDepth 100000
def qC(s:fT):Bool:=!decide (12<s.trace.length\/8<s.eu.length\/5<s.rates.length\/4<s.stops.length\/2<s.eC.cS\/2<IntKind.i64.wrap (s.eC.zero.hi-s.eC.zero.lo))&&(s.trace.all fun p=>decide (p.half<=2000))&&decide (s.bz.ej<=20000/\s.bz.mU<=5000)
theorem Qq{s:fT}(h:qC s=true):s.trace.length<=12/\s.eu.length<=8/\s.rates.length<=5/\s.stops.length<=4:=by
 unfold qC at h
 simp only[ak,db,decide_eq_false_iff_not]at h
 omega
theorem s8(s:fT)(h1:s.trace.length<9223372036854775808)(h2:s.eu.length<9223372036854775808)(h3:s.rates.length<9223372036854775808)(h4:s.stops.length<9223372036854775808):Pure Tryz.prog 62 [.agg s.cs] (bl (qC s)):=by
 refine jX Tryz.f62.eq_1 [] [.l [1,3]] ?_
 generalize hb:qC s=b
 unfold qC at hb
 generalize hZ:IntKind.i64.wrap (s.eC.zero.hi-s.eC.zero.lo)=z at hb
 obtain⟨P,hP⟩:∃P:Prop,P=(12<s.trace.length\/8<s.eu.length\/5<s.rates.length\/4<s.stops.length\/2<s.eC.cS\/2<z):=⟨_,rfl⟩
 have hz:z=IntKind.i64.wrap (s.eC.zero.hi-s.eC.zero.lo):=hZ.symm
 have xe:P->b=false:=fun h=>by rw[<-hb,decide_eq_true (hP▸h)];rfl
 have CG:¬P->b=((s.trace.all fun p=>decide (p.half<=2000))&&decide (s.bz.ej<=20000/\s.bz.mU<=5000)):=fun h=>by rw[<-hb,decide_eq_false (hP▸h)];rfl
 clear hb hZ
 (refine Ax @zN ?_ (CM ?_)<;>intros)
 ·rw[xe (by rw[hP];omega)]
  exact Fq
 rw[CG (by rw[hP];omega)]
 clear xe CG hP
 refine aR.ls (α:={k:Nat//k<=s.trace.length/\∀t∈s.trace.take k,t.half<=2000}) [3] (fun k=>[(3,n k.1)]) (fun k=>s.trace.length-k.1) ⟨0,aQ _,by simp⟩ ?_
 rintro⟨k,hk,ff⟩
 by_cases bP:k<s.trace.length
 ·obtain⟨t,ht⟩:∃t,s.trace[k]?=some t:=⟨_,ae bP⟩
  have cX:(s.trace.map Pt.cs).getD k []=Pt.cs t:=getD_map ht
  (refine Ax (aa @zN @cX) ?_ (CM ?_)<;>intros)
  ·have:(s.trace.all fun p=>decide (p.half<=2000))=false:=by
    rw[gQ]
    exact⟨t,ao ht,by simp;omega⟩
   rw[this]
   exact Fq
  ·refine⟨⟨k+1,bP,fun u hu=>?_⟩,by simp,by simp only;omega⟩
   rw[ey ht]at hu
   rcases bm.1 hu with hu|hu
   ·exact ff u hu
   ·rw[bp.1 hu];omega
 ·obtain rfl:k=s.trace.length:=by omega
  have:(s.trace.all fun p=>decide (p.half<=2000))=true:=by
   rw[bt]
   intro t ht
   rw[aI]at ff
   simpa using ff t ht
  rw[this]
  refine Ax @zN ?_;intros
  refine bO.eq (congrArg bl ?_) (by simp)
  simp
def Qr(l:List Nt):Bool:=(l.all fun a=>qC a.c8)&&decide (l.length<=40)
theorem NP(l:List Nt)(hl:pK l):Pure Tryz.prog 21 [Ad l] (bl (Qr l)):=by
 refine jX Tryz.f21.eq_1 [] [.l [0,3]] ?_
 unfold Qr
 have JK:=hl.1
 refine Au ?_;intros
 refine aR.ls (α:={k:Nat//k<=l.length/\∀a∈l.take k,qC a.c8=true}) [3] (fun k=>[(3,n k.1)]) (fun k=>l.length-k.1) ⟨0,aQ _,by simp⟩ ?_
 rintro⟨k,hk,ff⟩
 by_cases bP:k<l.length
 ·obtain⟨a,ha⟩:∃a,l[k]?=some a:=⟨_,ae bP⟩
  have cX:(l.map Nt.cs).getD k []=Nt.cs a:=getD_map ha
  have eX:=hl.2 a (ao ha)
  have hF:=s8 a.c8 eX.1 eX.2.1 eX.2.2.1 eX.2.2.2
  have yj:=ao ha
  have h1:qC a.c8=false->(l.all fun a=>qC a.c8)=false:=fun h=>by rw[gQ];exact⟨a,yj,by simp[h]⟩
  generalize T8:qC a.c8=b at*
  cases b with
  |false=>
   rw[h1 rfl]
   refine Az (aa @zN @cX) @hF ?_;intros
   exact Fq
  |true=>
   clear h1
   refine Az (aa @zN @cX) @hF ?_;intros
   refine⟨⟨k+1,bP,fun u hu=>?_⟩,by simp,by simp only;omega⟩
   rw[ey ha]at hu
   rcases bm.1 hu with hu|hu
   ·exact ff u hu
   ·rw[bp.1 hu];exact T8
 ·obtain rfl:k=l.length:=by omega
  have:(l.all fun a=>qC a.c8)=true:=by
   rw[bt]
   intro t ht
   rw[aI]at ff
   exact ff t ht
  rw[this]
  refine Ax @zN ?_;intros
  refine bO.eq (congrArg bl ?_) (by simp)
  simp;omega
def Fy(b:l8):Bool:=decide (b.dh.length<=4/\b.bD<=8)&&b.dh.all fun s=>decide (s.cz.length<=6)
theorem va(b:l8)(hb:ql b.dh):Pure Tryz.prog 22 [.agg b.cs] (bl (Fy b)):=by
 refine jX Tryz.f22.eq_1 [] [.l [1,3]] ?_
 unfold Fy
 have hl:=hb.1
 by_cases h:b.dh.length<=4/\b.bD<=8
 ·rw[decide_eq_true h]
  refine Ax @zN ?_;intros
  refine aR.ls (α:={k:Nat//k<=b.dh.length/\∀s∈b.dh.take k,s.cz.length<=6}) [3] (fun k=>[(3,n k.1)]) (fun k=>b.dh.length-k.1) ⟨0,aQ _,by simp⟩ ?_
  rintro⟨k,hk,ff⟩
  by_cases bP:k<b.dh.length
  ·obtain⟨s,hs⟩:∃s,b.dh[k]?=some s:=⟨_,ae bP⟩
   have cX:(b.dh.map j3.cs).getD k []=j3.cs s:=getD_map hs
   (refine Ax (aa @zN @cX) ?_ (CM ?_)<;>intros)
   ·have:(b.dh.all fun s=>decide (s.cz.length<=6))=false:=by
     rw[gQ]
     exact⟨s,ao hs,by simp;omega⟩
    rw[this]
    exact Fq
   ·refine⟨⟨k+1,bP,fun u hu=>?_⟩,by simp,by simp only;omega⟩
    rw[ey hs]at hu
    rcases bm.1 hu with hu|hu
    ·exact ff u hu
    ·rw[bp.1 hu];omega
  ·obtain rfl:k=b.dh.length:=by omega
   have:(b.dh.all fun s=>decide (s.cz.length<=6))=true:=by
    rw[bt]
    intro t ht
    rw[aI]at ff
    simpa using ff t ht
   rw[this]
   refine Ax @zN ?_;intros
   exact Fq
 ·rw[decide_eq_false h]
  refine Ax @zN ?_;intros
  exact Fq
def Qs(b:l8)(r:FU):Bool:=
 Fy b&&decide (r.aS.length<=4/\r.reads.length<=6/\r.dh.length<=4/\r.ig.length<=60)&&(r.aS.all fun f=>qC f.c8&&decide (f.names.length<=20))&&(r.dh.all fun s=>decide (s.cz.length<=20))&&decide ((r.aS.map fun f=>f.marks.length).sum+r.reads.length<=6)
theorem NQ{l:List dm}{k:Nat}{f:dm}(h:l[k]?=some f):((l.take (k+1)).map fun f=>f.marks.length).sum=((l.take k).map fun f=>f.marks.length).sum+f.marks.length:=by
 rw[ey h];simp
theorem NR{l:List dm}:(∀f∈l,f.marks.length<1000000000000)->(l.map fun f=>f.marks.length).sum<=1000000000000*l.length:=by
 induction l with
 |nil=>simp
 |cons a r ih=>
  intro h
  have:=ih fun f hf=>h f (by simp[hf])
  have:=h a (by simp)
  simp only[bq,List.sum_cons,bf]
  omega
theorem NS(b:l8)(hb:ql b.dh)(r:FU)(h1:r.aS.length<9223372036854775808)(h2:r.reads.length<9223372036854775808)(h3:ql r.dh)(h4:r.ig.length<9223372036854775808)(h5:∀f∈r.aS,rq f.c8/\f.marks.length<1000000000000/\f.names.length<9223372036854775808):Pure Tryz.prog 24 [.agg b.cs,.agg r.cs] (bl (Qs b r)):=by
 refine jX Tryz.f24.eq_1 [] [.l [3,5,7],.l [3,5,6]] ?_
 unfold Qs
 have hB:=va b hb
 have UB:=h3.1
 by_cases hc:Fy b=true/\r.aS.length<=4/\r.reads.length<=6/\r.dh.length<=4/\r.ig.length<=60
 ·obtain⟨c1,c2⟩:=hc
  rw[c1]at hB|-
  rw[decide_eq_true c2]
  refine Az @zN @hB ?_;intros
  refine aR.ls (α:={k:Nat//k<=r.aS.length/\∀f∈r.aS.take k,(qC f.c8&&decide (f.names.length<=20))=true}) [5,6] (fun k=>[(5,n ((((r.aS.take k.1).map fun f=>f.marks.length).sum:Nat):Int)),(6,n k.1)]) (fun k=>r.aS.length-k.1) ⟨0,aQ _,by simp⟩ ?_
  rintro⟨k,hk,ff⟩
  by_cases bP:k<r.aS.length
  ·obtain⟨f,hf⟩:∃f,r.aS[k]?=some f:=⟨_,ae bP⟩
   have cX:(r.aS.map dm.cs).getD k []=dm.cs f:=getD_map hf
   have yj:=ao hf
   obtain⟨z1,z2,z3⟩:=h5 f yj
   have hF:=s8 f.c8 z1.1 z1.2.1 z1.2.2.1 z1.2.2.2
   have aay:=NQ hf
   have Uv:=NR (l:=r.aS.take k) fun f hf=>(h5 f (dx hf)).2.1
   rw[bH]at Uv
   have AQ:¬(qC f.c8=true/\f.names.length<=20)->(r.aS.all fun f=>qC f.c8&&decide (f.names.length<=20))=false:=fun h=>by rw[gQ];exact⟨f,yj,by simpa using h⟩
   generalize K7:((r.aS.take (k+1)).map fun f=>f.marks.length).sum=S1 at*
   generalize hS0:((r.aS.take k).map fun f=>f.marks.length).sum=S0 at*
   by_cases hg:qC f.c8=true/\f.names.length<=20
   ·obtain⟨g1,g2⟩:=hg
    clear AQ
    rw[g1]at hF
    refine Az (aa @zN @cX) @hF ?_;intros
    refine⟨⟨k+1,bP,fun u hu=>?_⟩,⟨by simp only[K7,aay];simp,by simp⟩,by simp only;omega⟩
    rw[ey hf]at hu
    rcases bm.1 hu with hu|hu
    ·exact ff u hu
    ·rw[bp.1 hu,g1];simpa using g2
   ·rw[AQ hg]
    clear AQ
    generalize T8:qC f.c8=q at*
    cases q with
    |false=>
     refine Az (aa @zN @cX) @hF ?_;intros
     exact Fq
    |true=>
     have xR:¬f.names.length<=20:=fun h=>hg ⟨rfl,h⟩
     clear hg
     refine Az (aa @zN @cX) @hF ?_;intros
     exact Fq
  ·obtain rfl:k=r.aS.length:=by omega
   have hS:=NR (l:=r.aS) fun f hf=>(h5 f hf).2.1
   have Cd:(r.aS.all fun f=>qC f.c8&&decide (f.names.length<=20))=true:=by
    rw[bt]
    rw[aI]at ff
    exact ff
   rw[Cd]
   simp only[aI]
   generalize(r.aS.map fun f=>f.marks.length).sum=S at*
   clear Cd
   refine Ax @zN ?_;intros
   refine aR.ls (α:={k:Nat//k<=r.dh.length/\∀s∈r.dh.take k,s.cz.length<=20}) [7] (fun k=>[(7,n k.1)]) (fun k=>r.dh.length-k.1) ⟨0,aQ _,by simp⟩ ?_
   rintro⟨k,hk,ff⟩
   by_cases bP:k<r.dh.length
   ·obtain⟨s,hs⟩:∃s,r.dh[k]?=some s:=⟨_,ae bP⟩
    have cX:(r.dh.map j3.cs).getD k []=j3.cs s:=getD_map hs
    (refine Ax (aa @zN @cX) ?_ (CM ?_)<;>intros)
    ·have:(r.dh.all fun s=>decide (s.cz.length<=20))=false:=by
      rw[gQ]
      exact⟨s,ao hs,by simp;omega⟩
     rw[this]
     exact bO.eq (by simp) (by simp)
    ·refine⟨⟨k+1,bP,fun u hu=>?_⟩,by simp,by simp only;omega⟩
     rw[ey hs]at hu
     rcases bm.1 hu with hu|hu
     ·exact ff u hu
     ·rw[bp.1 hu];omega
   ·obtain rfl:k=r.dh.length:=by omega
    have:(r.dh.all fun s=>decide (s.cz.length<=20))=true:=by
     rw[bt]
     intro t ht
     rw[aI]at ff
     simpa using ff t ht
    rw[this]
    refine Ax @zN ?_;intros
    refine bO.eq (congrArg bl ?_) (by simp)
    simp;omega
 ·have:(Fy b&&decide (r.aS.length<=4/\r.reads.length<=6/\r.dh.length<=4/\r.ig.length<=60))=false:=by
   rw[Bool.eq_false_iff]
   simp only[ne_eq,ak,decide_eq_true_eq]
   exact hc
  rw[this]
  simp only[gq]
  clear this
  cases hq:Fy b with
  |false=>
   rw[hq]at hB
   refine Az @zN @hB ?_;intros
   exact Fq
  |true=>
   rw[hq]at hB
   have hc:¬(r.aS.length<=4/\r.reads.length<=6/\r.dh.length<=4/\r.ig.length<=60):=fun h=>hc ⟨hq,h⟩
   refine Az @zN @hB ?_;intros
   exact Fq
def Fz(l:List Sp)(v:Int):Bool:=l.any fun s=>decide (s.lo<=v/\v<=s.hi)
theorem zY(l:List Sp)(hl:l.length<9223372036854775808)(v:Int):Pure Tryz.prog 11 [ec l,n v] (bl (Fz l v)):=by
 refine jX Tryz.f11.eq_1 [] [.l [0,1,5]] ?_
 unfold Fz
 refine Au ?_;intros
 refine aR.ls (α:={k:Nat//k<=l.length/\∀s∈l.take k,¬(s.lo<=v/\v<=s.hi)}) [5] (fun k=>[(5,n k.1)]) (fun k=>l.length-k.1) ⟨0,aQ _,by simp⟩ ?_
 rintro⟨k,hk,ff⟩
 by_cases bP:k<l.length
 ·obtain⟨s,hs⟩:∃s,l[k]?=some s:=⟨_,ae bP⟩
  have cX:(l.map Sp.cs).getD k []=Sp.cs s:=getD_map hs
  (refine Ax @cX ?_ (CM ?_)<;>intros)
  ·have:(l.any fun s=>decide (s.lo<=v/\v<=s.hi))=true:=by
    rw[eb]
    exact⟨s,ao hs,by simp;omega⟩
   rw[this]
   exact Fq
  ·refine⟨⟨k+1,bP,fun u hu=>?_⟩,by simp,by simp only;omega⟩
   rw[ey hs]at hu
   rcases bm.1 hu with hu|hu
   ·exact ff u hu
   ·rw[bp.1 hu];omega
 ·obtain rfl:k=l.length:=by omega
  have:(l.any fun s=>decide (s.lo<=v/\v<=s.hi))=false:=by
   rw[fo]
   intro t ht
   rw[aI]at ff
   simpa using ff t ht
  rw[this]
  refine Au ?_;intros
  exact Fq
abbrev Ub(r:Cr):List AV:=[n r.zero,l9 r.tk,l9 r.shown,l9 r.nq]
theorem crP(r:Cr)(j:Nat):bC (.bZ (Ub r) j):=.bZ fun c hc=>by
 simp only[Ub,aC,au,or_false]at hc
 rcases hc with rfl|rfl|rfl|rfl<;>simp
theorem HI(b d x:Int)(hb:0<=b/\b<=8)(hx:-13000<=x/\x<=13000):Pure Tryz.prog 37 [n b,n d,n x] (n (min (max d (x-b)) (x+b))):=by
 refine jX Tryz.f37.eq_1 [] [] ?_
 refine Au ?_;intros
 exact Fq
structure RC(s:fT)(tk:Int)(r:Cr)(i:Nat):Prop where
 t1:0<=r.tk.getD i 0
 t2:r.tk.getD i 0<=tk
 ik:(pM s).getD i []=[]\/Fz ((pM s).getD i []) (r.shown.getD (r.tk.getD i 0).toNat 0)=true
 gp:0<i->((i_ s.rates s.stops).getD (i-1) ⟨0,0⟩).lo<=r.tk.getD i 0-r.tk.getD (i-1) 0/\r.tk.getD i 0-r.tk.getD (i-1) 0<=((i_ s.rates s.stops).getD (i-1) ⟨0,0⟩).hi
structure Xg(s:fT)(r:Cr)(t:Nat):Prop where
 d1:0<=r.shown.getD t 0/\r.shown.getD t 0<=12000
 l1:0<=r.nq.getD t 0/\r.nq.getD t 0<=12000
 b1:r.nq.getD t 0-r.zero-r.shown.getD t 0<=s.eC.cS/\r.shown.getD t 0-(r.nq.getD t 0-r.zero)<=s.eC.cS
 st:0<t->r.nq.getD t 0-r.nq.getD (t-1) 0<=s.eC.kc/\-(r.nq.getD t 0-r.nq.getD (t-1) 0)<=s.eC.kc/\r.shown.getD t 0=min (max (r.shown.getD (t-1) 0) (r.nq.getD t 0-r.zero-s.eC.cS)) (r.nq.getD t 0-r.zero+s.eC.cS)
structure s9(s:fT)(tk:Int)(r:Cr):Prop where
 n1:r.tk.length=s.rates.length+1
 n2:(r.shown.length:Int)=tk+1
 n3:(r.nq.length:Int)=tk+1
 z1:s.eC.zero.lo<=r.zero
 z2:r.zero<=s.eC.zero.hi
 ts:∀i,i<r.tk.length->RC s tk r i
 ls:∀t:Nat,(t:Int)<=tk->Xg s r t
theorem Bf{l:List Int}{i:Nat}(h:i<l.length):(l.map fun z=>[n z]).getD i []=[n (l.getD i 0)]:=by
 rw[getD_map (ae h),ab,ae h];rfl
theorem HJ(s:fT)(tk:Int)(r:Cr)(hd:gV s.rates s.stops)(hp:s.eC.ok)(qE:(tK s).2=0)(hln:(s.rates.length:Int)+1=s.bz.jY)(h1:s.trace.length<1000000000)(h2:s.eu.length<9223372036854775808)(ht:1<=tk/\tk<=400)(z1:r.tk.length<9223372036854775808)(z2:r.shown.length<9223372036854775808)(z3:r.nq.length<9223372036854775808):Pure Tryz.prog 10 [.agg s.cs,n tk,.agg (Ub r)] (bl (tr (s9 s tk r))):=by
 have hI:=zB (rE s.bz) s.trace s.eu h1 h2
 have UX:(pM s).length=s.rates.length+1:=by
  have:=(Dy (p:=rE s.bz) (l:=s.trace) (bs:=s.eu) qE).1
  have e:(rE s.bz).co=s.bz.jY:=rfl
  show(wq (rE s.bz) s.trace s.eu).1.length=_
  omega
 have hI8:∀x∈pM s,x.length<=8:=fun x hx=>((Dy (p:=rE s.bz) (l:=s.trace) (bs:=s.eu) qE).2 x hx).2
 rw[show(rE s.bz).cs=AN.cs s.bz from rfl,show wq (rE s.bz) s.trace s.eu=tK s from rfl,qE]at hI
 rw[show(tK s).1=pM s from rfl]at hI
 have hN:=hd.1
 unfold Pn.ok at hp
 refine jX Tryz.f10.eq_1 [] [.l [1,3,5,13],.d 28,.d 13,.d 9,.l [1,3,5,7,9],.d 13,.l [1,3,5,7,9,10,11],.d 23,.d 42] ?_
 have D7:=crP r
 by_cases hc:r.tk.length=s.rates.length+1/\(r.shown.length:Int)=tk+1/\(r.nq.length:Int)=tk+1/\s.eC.zero.lo<=r.zero/\r.zero<=s.eC.zero.hi
 ·obtain⟨c1,c2,c3,c4,c5⟩:=hc
  refine Az (aa @zN @UX) @hI ?_;intros
  refine aR.lr (α:={x:Nat×aG//x.1<=r.tk.length/\∀j,j<x.1->RC s tk r j}) [9] (fun x=>[(9,n x.1.1)]) (fun x=>some [⟨108,1,[[Ho (pM s)]],none⟩]::x.1.2) (fun x=>r.tk.length-x.1.1) ⟨(0,[]),aQ _,by simp⟩ ?_
  rintro⟨⟨i,ν⟩,hi,ff⟩
  simp only at hi ff
  simp only
  by_cases bP:i<r.tk.length
  ·have q1:=Bf (l:=r.tk) bP
   have hX:((pM s).map fun x=>[iT x]).getD i []=[iT ((pM s).getD i [])]:=by
    rw[getD_map (ae (by omega)),ab,ae (by omega)];rfl
   have hX8:((pM s).getD i []).length<=8:=by
    rw[ab,ae (show i<(pM s).length by omega)]
    exact hI8 _ (cv _)
   by_cases hT:0<=r.tk.getD i 0/\r.tk.getD i 0<=tk
   ·have q2:=Bf (l:=r.shown) (i:=(r.tk.getD i 0).toNat) (by omega)
    have hIn:=zY ((pM s).getD i []) (by omega) (r.shown.getD (r.tk.getD i 0).toNat 0)
    obtain⟨G,hG⟩:∃G,G=i_ s.rates s.stops:=⟨_,rfl⟩
    obtain⟨T,Qt⟩:∃T,T=r.tk.getD i 0:=⟨_,rfl⟩
    obtain⟨X,YL⟩:∃X,X=(pM s).getD i []:=⟨_,rfl⟩
    obtain⟨q,hq⟩:∃q,q=Fz X (r.shown.getD T.toNat 0):=⟨_,rfl⟩
    rw[<-Qt]at q1 q2 hIn hT
    rw[<-YL]at hX hX8 hIn
    rw[<-hq]at hIn
    have ti:0<X.length->q=false->tr (s9 s tk r)=false:=fun a b=>yN fun h=>by
     rcases(h.ts i bP).ik with e|e
     ·rw[<-YL]at e;rw[e]at a;simp at a
     ·rw[<-YL,<-Qt,<-hq,b]at e;cases e
    have vG:¬(0<X.length/\q=false)->(pM s).getD i []=[]\/Fz ((pM s).getD i []) (r.shown.getD (r.tk.getD i 0).toNat 0)=true:=fun h=>by
     rw[<-YL,<-Qt,<-hq]
     cases q with
     |true=>exact .inr rfl
     |false=>exact .inl (lL (Nat.eq_zero_of_not_pos fun a=>h ⟨a,rfl⟩))
    have RG:∀p:Bool,(decide (T<0\/tk<T)||p)=p:=fun p=>by rw[decide_eq_false (by omega)];rfl
    by_cases h0:i=0
    ·subst h0
     (refine Az (aa @zN (aa @UX (aa @q1 (aa @q2 @hX)))) @hIn ?_ (CM ?_)<;>intros)
     ·rename_i hc
      rw[RG]at hc
      simp only[ak,decide_eq_true_eq,db]at hc
      rw[ti (by omega) hc.2]
      exact Fq
     ·rename_i hc
      rw[RG]at hc
      have hy:=vG fun⟨a,b⟩=>by rw[b,decide_eq_true (by omega)]at hc;cases hc
      refine⟨⟨(1,ν),by simp only;omega,fun j hj=>?_⟩,by simp,rfl,by simp only;omega⟩
      obtain rfl:j=0:=by simp only at hj;omega
      exact⟨Qt▸hT.1,Qt▸hT.2,hy,fun h=>absurd h (f_ 0)⟩
    ·obtain⟨R,hR⟩:∃R,R=s.rates.getD (i-1) ⟨0,0⟩:=⟨_,rfl⟩
     have hRr:(s.rates.map Sp.cs).getD ((i:Int)-1).toNat []=Sp.cs R:=by
      rw[show((i:Int)-1).toNat=i-1 by omega,row ⟨0,0⟩ (by omega),hR]
     have q3:(r.tk.map fun z=>[n z]).getD ((i:Int)-1).toNat []=[n (r.tk.getD (i-1) 0)]:=by
      rw[show((i:Int)-1).toNat=i-1 by omega];exact Bf (by omega)
     have XT:=ff (i-1) (by omega)
     have aaz:=XT.t1
     have aaA:=XT.t2
     clear XT
     have Xh:=P2 (rates:=s.rates) (k:=i-1) (by omega) s.stops fun st hs=>by have:=(hd.2.2.2 st hs).1;omega
     rw[<-hR,<-hG]at Xh
     have hRb:1<=R.lo/\R.lo<=R.hi/\R.hi<=40:=by
      have:=hd.2.2.1 R (by rw[hR,ab,ae (show i-1<s.rates.length by omega)];exact cv _)
      omega
     obtain⟨T0,Uc⟩:∃T0,T0=r.tk.getD (i-1) 0:=⟨_,rfl⟩
     rw[<-Uc]at q3 aaz aaA
     (refine Az (aa @zN (aa @UX (aa @q1 (aa @q2 (aa @hX @hRr))))) @hIn ?_ (CM ?_)<;>intros)
     ·rename_i hc
      rw[RG]at hc
      simp only[ak,decide_eq_true_eq,db]at hc
      rw[ti (by omega) hc.2]
      exact Fq
     ·rename_i hc _
      rw[RG]at hc
      have hy:=vG fun⟨a,b⟩=>by rw[b,decide_eq_true (by omega)]at hc;cases hc
      clear hc ti vG RG hIn hX hq
      obtain⟨g,hg⟩:∃g:Nat->Sp,∀k,g k=(s.stops.take k).foldl (fun g st=>if st.en=((i-1:Nat):Int)then Fa g st.bD else g) R:=⟨_,fun _=>rfl⟩
      have hgN:g s.stops.length=G.getD (i-1) ⟨0,0⟩:=by rw[hg,aI];exact Xh.symm
      have QX:g 0=R:=by rw[hg];rfl
      have WS:∀k st,s.stops[k]?=some st->g (k+1)=if st.en=((i-1:Nat):Int)then Fa (g k) st.bD else g k:=fun k st e=>by rw[hg,hg,p8 e]
      have KS:∀k:Nat,1<=(g k).lo/\(g k).lo<=(g k).hi/\(g k).hi<=40+400*k:=fun k=>by
       induction k with
       |zero=>rw[QX];omega
       |succ k ih=>
        by_cases hk:k<s.stops.length
        ·have e:=ae hk
         have h3:=(hd.2.2.2 _ (cv hk)).2
         rw[WS k _ e]
         split
         ·simp only[Fa];omega
         ·omega
        ·have:g (k+1)=g k:=by rw[hg,hg,cD (by omega),cD (by omega)]
         rw[this];omega
      have Uv:=hd.2.1
      clear hg
      refine aR.le (α:={x:Nat×aG//x.1<=s.stops.length}) [11] (fun x=>[(11,n x.1.1)]) (fun x=>some [⟨108,1,[[Ho (pM s)]],none⟩]::(ν++some [⟨52,2,[(g x.1.1).cs],none⟩]::x.1.2)) (fun x=>s.stops.length-x.1.1) ⟨(0,[]),aQ _⟩ ?_ ?_
      ·simp only[QX]
      rintro⟨⟨k,μ⟩,hk⟩
      simp only at hk
      simp only
      have fX:∀(a:Option (List Ob)) (o:Ob) (r:aG),aG.at (a::(ν++some [o]::r)) (List.length ν+1) 0=some o:=fun a o r=>by rw[cQ,dV];rfl
      have uX:∀(a:Option (List Ob)) (o o':Ob) (r:aG),aG.cZ (a::(ν++some [o]::r)) (List.length ν+1) 0 o'=a::(ν++some [o']::r):=fun a o o' r=>by simp[aG.cZ]
      have KX:=KS k
      by_cases LD:k<s.stops.length
      ·obtain⟨st,cn⟩:∃st,s.stops[k]?=some st:=⟨_,ae LD⟩
       have cX:(s.stops.map Mk.cs).getD k []=Mk.cs st:=getD_map cn
       have h3:=(hd.2.2.2 _ (ao cn)).2
       have hn:=WS k st cn
       clear WS KS
       generalize QY:g (k+1)=g1 at*
       generalize g k=g0' at*
       by_cases M_:st.en=(i:Int)-1
       ·rw[if_pos (by omega)]at hn
        unfold Fa at hn
        refine Ax (aa @zN (aa @cX (aa @fX (aa @uX @M_)))) ?_;intros
        refine⟨⟨(k+1,μ),LD⟩,by simp,?_,by simp only;omega⟩
        simp only[QY,hn]
       ·rw[if_neg (by omega)]at hn
        have Xi:decide (st.en=(i:Int)-1)=false:=decide_eq_false M_
        refine Ax (aa @zN (aa @cX (aa @fX (aa @uX @Xi)))) ?_;intros
        refine⟨⟨(k+1,μ),LD⟩,by simp,?_,by simp only;omega⟩
        simp only[QY,hn]
      ·obtain rfl:k=s.stops.length:=by omega
       clear WS KS
       rw[hgN]at KX|-
       have hgp:tr (s9 s tk r)=true->(G.getD (i-1) ⟨0,0⟩).lo<=T-T0/\T-T0<=(G.getD (i-1) ⟨0,0⟩).hi:=fun h=>by
        have:=((vP.1 h).ts i bP).gp (by omega)
        rwa[<-hG,<-Qt,<-Uc]at this
       have lO:(G.getD (i-1) ⟨0,0⟩).lo<=T-T0/\T-T0<=(G.getD (i-1) ⟨0,0⟩).hi->RC s tk r i:=fun h=>by
        refine⟨Qt▸hT.1,Qt▸hT.2,hy,fun _=>?_⟩
        rwa[<-hG,<-Qt,<-Uc]
       generalize G.getD (i-1) ⟨0,0⟩=g' at*
       generalize tr (s9 s tk r)=D at*
       (refine Ax (aa @zN (aa @q1 (aa @q3 (aa @fX @uX)))) ?_ (CM ?_)<;>intros)
       ·cases D with
        |false=>exact Fq
        |true=>have:=hgp rfl;exfalso;omega
       ·have lO:=lO (by omega)
        refine⟨⟨(i+1,_),bP,fun j hj=>?_⟩,by simp,rfl,by simp only;omega⟩
        by_cases e:j=i
        ·rw[e];exact lO
        ·exact ff j (by omega)
   ·rw[yN fun h=>hT ⟨(h.ts i bP).t1,(h.ts i bP).t2⟩]
    generalize r.tk.getD i 0=T at*
    generalize(pM s).getD i []=X at*
    have RG:decide (T<0\/tk<T)=true:=decide_eq_true (by omega)
    by_cases hTs:T.toNat<r.shown.length
    ·have q2:=Bf (l:=r.shown) hTs
     refine Ax (aa @zN (aa @UX (aa @q1 (aa @q2 (aa @hX @RG))))) ?_;intros
     exact Fq
    ·have q2:(r.shown.map fun z=>[n z]).getD T.toNat []=[]:=by rw[ab,b_ (by simp;omega)];rfl
     refine Ax (aa @zN (aa @UX (aa @q1 (aa @q2 (aa @hX @RG))))) ?_;intros
     exact Fq
  ·obtain rfl:i=r.tk.length:=by omega
   have lh:(∀t:Nat,(t:Int)<=tk->Xg s r t)->tr (s9 s tk r)=true:=fun h=>tE ⟨c1,c2,c3,c4,c5,ff,h⟩
   have Qu:tr (s9 s tk r)=true->∀t:Nat,(t:Int)<=tk->Xg s r t:=fun h=>(vP.1 h).ls
   generalize tr (s9 s tk r)=D at*
   clear hI
   refine Ax @zN ?_;intros
   refine aR.lr (α:={t:Nat//(t:Int)<=tk+1/\∀u,u<t->Xg s r u}) [13] (fun t=>[(13,n t.1)]) (fun _=>some [⟨108,1,[[Ho (pM s)]],none⟩]::ν) (fun t=>(tk+1).toNat-t.1) ⟨0,by omega,by simp⟩ ?_
   rintro⟨t,htt,UE⟩
   by_cases hle:(t:Int)<=tk
   ·have p1:=Bf (l:=r.shown) (i:=t) (by omega)
    have p2:=Bf (l:=r.nq) (i:=t) (by omega)
    have NT:=fun h=>Qu h t hle
    obtain⟨d,RH⟩:∃d,d=r.shown.getD t 0:=⟨_,rfl⟩
    obtain⟨L,RI⟩:∃L,L=r.nq.getD t 0:=⟨_,rfl⟩
    have xe:D=true->(0<=d/\d<=12000)/\(0<=L/\L<=12000)/\L-r.zero-d<=s.eC.cS/\d-(L-r.zero)<=s.eC.cS:=fun h=>by
     have:=NT h
     rw[RH,RI];exact⟨this.d1,this.l1,this.b1⟩
    rw[<-RH]at p1
    rw[<-RI]at p2
    by_cases p9:(0<=d/\d<=12000)/\0<=L/\L<=12000
    ·by_cases h0:t=0
     ·subst h0
      clear Qu NT
      (refine Ax (aa @zN (aa @p1 @p2)) ?_ (CM ?_)<;>intros)
      ·cases D with
       |false=>exact Fq
       |true=>have:=xe rfl;exfalso;omega
      ·refine⟨⟨1,by omega,fun u hu=>?_⟩,by simp,by simp only;omega⟩
       obtain rfl:u=0:=by omega
       exact⟨by rw[<-RH];exact p9.1,by rw[<-RI];exact p9.2,by rw[<-RH,<-RI];omega,fun h=>absurd h (f_ 0)⟩
     ·have p3:(r.shown.map fun z=>[n z]).getD ((t:Int)-1).toNat []=[n (r.shown.getD (t-1) 0)]:=by rw[show((t:Int)-1).toNat=t-1 by omega];exact Bf (by omega)
      have p4:(r.nq.map fun z=>[n z]).getD ((t:Int)-1).toNat []=[n (r.nq.getD (t-1) 0)]:=by rw[show((t:Int)-1).toNat=t-1 by omega];exact Bf (by omega)
      have Ot:=(UE (t-1) (by omega)).l1
      obtain⟨d0,T6⟩:∃d,d=r.shown.getD (t-1) 0:=⟨_,rfl⟩
      obtain⟨L0,Ud⟩:∃L,L=r.nq.getD (t-1) 0:=⟨_,rfl⟩
      rw[<-T6]at p3
      rw[<-Ud]at p4 Ot
      have T2:=HI s.eC.cS d0 (L-r.zero) (by omega) (by omega)
      have CG:D=true->L-L0<=s.eC.kc/\-(L-L0)<=s.eC.kc/\d=min (max d0 (L-r.zero-s.eC.cS)) (L-r.zero+s.eC.cS):=fun h=>by
       have:=(NT h).st (by omega)
       rwa[<-RH,<-RI,<-T6,<-Ud]at this
      have lO:(L-r.zero-d<=s.eC.cS/\d-(L-r.zero)<=s.eC.cS)->L-L0<=s.eC.kc/\-(L-L0)<=s.eC.kc/\d=min (max d0 (L-r.zero-s.eC.cS)) (L-r.zero+s.eC.cS)->Xg s r t:=fun h h'=>
       ⟨by rw[<-RH];exact p9.1,by rw[<-RI];exact p9.2,by rw[<-RH,<-RI];exact h,fun _=>by rw[<-RH,<-RI,<-T6,<-Ud];exact h'⟩
      clear Qu NT
      generalize min (max d0 (L-r.zero-s.eC.cS)) (L-r.zero+s.eC.cS)=m at*
      (refine Az (aa @zN (aa @p1 (aa @p2 (aa @p3 @p4)))) @T2 ?_ (g2_ ?_ ?_)<;>intros)
      ·cases D with
       |false=>exact Fq
       |true=>have:=xe rfl;exfalso;omega
      ·cases D with
       |false=>exact Fq
       |true=>have:=CG rfl;exfalso;omega
      ·have lO:=lO (by omega) (by omega)
       refine⟨⟨t+1,by omega,fun u hu=>?_⟩,by simp,by simp only;omega⟩
       by_cases e:u=t
       ·rw[e];exact lO
       ·exact UE u (by omega)
    ·clear Qu NT
     refine Ax (aa @zN (aa @p1 @p2)) ?_;intros
     cases D with
     |false=>exact Fq
     |true=>exact absurd ⟨(xe rfl).1,(xe rfl).2.1⟩ p9
   ·have hD:=lh fun u hu=>UE u (by omega)
    rw[hD]
    refine Ax @zN ?_;intros
    exact Fq
 ·rw[yN fun h=>hc ⟨h.n1,h.n2,h.n3,h.z1,h.z2⟩]
  refine Az (aa @zN @UX) @hI ?_;intros
  exact Fq
theorem Qv{l:List Sp}{v:Int}(h:Fz l v=true):Mem v l:=by
 unfold Fz at h
 obtain⟨s,hs,h⟩:=eb.1 h
 rw[decide_eq_true_eq]at h
 exact⟨s,hs,h.1,h.2⟩
theorem Ue{w:Wk}{f:dm}(hG:(i_ f.c8.rates f.c8.stops).length=f.c8.rates.length)(st:Int){r:Cr}(hd:s9 f.c8 w.base.bD r)(hm:∀m∈f.marks,m.bD.lo<=r.tk.getD m.en.toNat 0/\r.tk.getD m.en.toNat 0<=m.bD.hi)(hr:∀d∈w.reads,d.fB=st->d.levels.lo<=r.nq.getD d.tick.toNat 0/\r.nq.getD d.tick.toNat 0<=d.levels.hi):Fit (tW w f st) r:=by
 have hl:(tW w f st).last=f.c8.rates.length:=by
  show(((i_ f.c8.rates f.c8.stops).length:Nat):Int)=_
  rw[hG]
 have O_:=hd.n1
 refine⟨fun k h1 h2=>?_,fun k h1 h2=>?_,fun t h1 h2=>?_,fun t h1 h2=>?_,hm,fun d FV=>?_⟩
 ·have h:=hd.ts k.toNat (by omega)
  refine⟨h.t1,h.t2,fun iw=>?_⟩
  rcases h.ik with e|e
  ·exact absurd e iw
  ·exact Qv e
 ·have h:=(hd.ts (k+1).toNat (by omega)).gp (by omega)
  have e:(k+1).toNat-1=k.toNat:=by omega
  rw[e]at h
  exact h
 ·have F7:t<=w.base.bD:=h2
  have h:=hd.ls t.toNat (by omega)
  exact⟨h.d1.1,h.d1.2,h.l1.1,h.l1.2,h.b1.1,h.b1.2⟩
 ·have F7:t<w.base.bD:=h2
  have h:=(hd.ls (t+1).toNat (by omega)).st (by omega)
  have e:(t+1).toNat-1=t.toNat:=by omega
  rw[e]at h
  obtain⟨a,b,c⟩:=h
  refine⟨a,?_,c⟩
  have:-(r.L (t+1)-r.L t)<=(tW w f st).sh.eC.kc:=b
  omega
 ·obtain⟨h1,h2⟩:=cM.1 FV
  exact hr d h1 (of_decide_eq_true h2)
end Go.Proofs.YtgopgjnfhkoomaaGreat
