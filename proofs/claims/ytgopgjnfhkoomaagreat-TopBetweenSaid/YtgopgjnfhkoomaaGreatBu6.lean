/- Part 6 of the texts: abstract values over the walk; contracts. -/
import Derived.Test.YtgopgjnfhkoomaaGreatBu5
import Derived.Test.YtgopgjnfhkoomaaGreatRows
import Derived.ChangeArms
import Derived.DataReads
set_option linter.unusedVariables false
set_option linter.unusedSimpArgs false
namespace Go.Proofs.YtgopgjnfhkoomaaGreat
open Go.Abs
open Nat (reduceAdd reduceSub reduceLT reduceLeDiff reduceMul reduceEqDiff)
set_option maxHeartbeats 4000000
set_option maxRecDepth 100000
theorem e8(x lo hi:Int):Pure Tryz.prog 66 [n x,n lo,n hi] (bl (decide (inr x lo hi))):=by
 refine jX Tryz.f66.eq_1 [] [] ?_
 refine Au ?_;intros
 all_goals exact bO.eq (congrArg bl (by simp)) (by simp)
theorem og(x lo hi:Int):Pure Tryz.prog 92 [n x,n lo,n hi] (bl (decide (inr x lo hi))):=by
 refine jX Tryz.f92.eq_1 [] [] ?_
 refine Au ?_;intros
 all_goals exact bO.eq (congrArg bl (by simp)) (by simp)
theorem rm(x lo hi:Int):Pure Tryz.prog 124 [n x,n lo,n hi] (bl (decide (inr x lo hi))):=by
 refine jX Tryz.f124.eq_1 [] [] ?_
 refine Au ?_;intros
 all_goals exact bO.eq (congrArg bl (by simp)) (by simp)
theorem pJ(x lo hi:Int):Pure Tryz.prog 117 [n x,n lo,n hi] (bl (decide (inr x lo hi))):=by
 refine jX Tryz.f117.eq_1 [] [] ?_
 refine Au ?_;intros
 all_goals exact bO.eq (congrArg bl (by simp)) (by simp)
theorem gd(x lo hi:Int):Pure Tryz.prog 87 [n x,n lo,n hi] (bl (decide (inr x lo hi))):=by
 refine jX Tryz.f87.eq_1 [] [] ?_
 refine Au ?_;intros
 all_goals exact bO.eq (congrArg bl (by simp)) (by simp)
theorem C2(s:Sp)(lo hi:Int):Pure Tryz.prog 370 [.agg (Sp.cs s),n lo,n hi] (bl (decide (ke s lo hi))):=by
 refine jX Tryz.f370.eq_1 [] [] ?_
 refine Ay (e8 s.lo lo s.hi) ?_;intros
 all_goals exact bO.eq (congrArg bl (by simp[and_assoc])) (by simp)
theorem GA(s:Sp)(lo hi:Int):Pure Tryz.prog 209 [.agg (Sp.cs s),n lo,n hi] (bl (decide (ke s lo hi))):=by
 refine jX Tryz.f209.eq_1 [] [] ?_
 refine Ay (rm s.lo lo s.hi) ?_;intros
 all_goals exact bO.eq (congrArg bl (by simp[and_assoc])) (by simp)
theorem uH(s:Sp):Pure Tryz.prog 207 [.agg (Sp.cs s)] (bl (decide (ke s 900 1100))):=by
 refine jX Tryz.f207.eq_1 [] [] ?_
 refine Ay (gd s.lo 900 s.hi) ?_;intros
 all_goals exact bO.eq (congrArg bl (by simp[and_assoc])) (by simp)
theorem rp(f e:Int):Pure Tryz.prog 71 [.agg [n f,n e]] (n (if inr f 0 12000/\inr e 0 10000 then 0 else 1)):=by
 refine jX Tryz.f71.eq_1 [] [] ?_
 (refine Ay (aa (og f 0 12000) (og e 0 10000)) ?_ (CM ?_)<;>intros)
 ·rename_i h;rw[if_neg (by omega)];exact Fq
 ·rename_i h;rw[if_pos (by omega)];exact Fq
theorem lP(p:AN):Pure Tryz.prog 146 [.agg p.cs] (n (if p.ok then 0 else 10)):=by
 refine jX Tryz.f146.eq_1 [] [] ?_
 (refine Ay (aa (gd p.mU 1 10000) (aa (gd p.ej 1 400000) (aa (gd p.lj p.ej 4000000) (aa (gd p.jY 1 200) (aa (uH p.along) (uH p.fW)))))) ?_ (CM ?_)<;>intros)
 all_goals have hw:0<=p.low->p.low<p.high->p.high<=12000->IntKind.i64.wrap (p.high-p.low)=p.high-p.low:=fun h1 h2 h3=>cB _ (by omega) (by omega)
 ·rename_i h;rw[if_neg (by unfold AN.ok;omega)];exact Fq
 ·rename_i h;rw[if_pos (by unfold AN.ok;omega)];exact Fq
theorem mL(p:Pn):Pure Tryz.prog 113 [.agg p.cs] (n (if p.ok then 0 else 30)):=by
 refine jX Tryz.f113.eq_1 [] [] ?_
 (refine Ay (aa (pJ p.cS 0 8) (aa (pJ p.zero.lo (-200) p.zero.hi) (pJ p.kc 0 12000))) ?_ (CM ?_)<;>intros)
 all_goals have hw:-200<=p.zero.lo->p.zero.lo<=p.zero.hi->p.zero.hi<=200->IntKind.i64.wrap (p.zero.hi-p.zero.lo)=p.zero.hi-p.zero.lo:=fun h1 h2 h3=>cB _ (by omega) (by omega)
 ·rename_i h;rw[if_neg (by unfold Pn.ok;omega)];exact Fq
 ·rename_i h;rw[if_pos (by unfold Pn.ok;omega)];exact Fq
theorem sk(l:List l4)(hl:l.length<9223372036854775808):Pure Tryz.prog 93 [Rl l] (bl (decide (lu l))):=by
 refine jX Tryz.f93.eq_1 [] [.l [0,5,6,7],.d 43] ?_
 refine Au ?_;intros
 refine aR.lr (α:={x:Nat×aG//x.1<=l.length/\∀j,j<x.1->vQ l j}) [7] (fun x=>[(7,n x.1.1)]) (fun x=>x.1.2) (fun x=>l.length-x.1.1) ⟨(0,[]),by simp,by simp⟩ ?_
 ·rintro⟨⟨i,τ⟩,hi,hb⟩
  simp only at hi hb
  by_cases bP:i<l.length
  ·have hs:(l.map l4.cs).getD i []=l4.cs (l.getD i default):=getD_map (fh default bP)
   have hp:=xV (f:=l4.cs) default bP
   generalize hg:l.getD i default=g at hs
   generalize xR:l.getD (i-1) default=g' at hp
   (refine Az (aa @hs @hp) (og g.lk.lo 0 g.lk.hi) ?_ (CM ?_)<;>intros)
   ·rename_i h
    rw[decide_eq_false fun hh=>?_]
    ·exact Fq
    ·have:=hh.2 i bP
     unfold vQ at this
     rw[hg,xR]at this
     omega
   ·rename_i h
    exact⟨⟨(i+1,_),bP,od hb (by unfold vQ;rw[hg,xR];omega)⟩,by simp,rfl,by simp only;omega⟩
  ·obtain rfl:i=l.length:=by omega
   refine Ay (og l.length 1 16) ?_;intros
   refine bO.eq (congrArg bl ?_) (by simp)
   rw[decide_eq_decide]
   exact⟨fun h=>⟨h,hb⟩,fun h=>h.1⟩
def ql(l:List j3):Prop:=l.length<9223372036854775808/\∀s∈l,s.cz.length<9223372036854775808
theorem mM(l:List j3)(hl:ql l):Pure Tryz.prog 38 [KY l] (.iu [n (gW l).1,n (gW l).2]):=by
 refine jX Tryz.f38.eq_1 [] [.l [0,9,10,11],.d 14] ?_
 have Cb:=hl.1
 (refine Au ?_ (CM ?_)<;>intros)
 ·rename_i h
  unfold gW;rw[if_pos (by omega)];exact Fq
 refine aR.lr (α:={x:Nat×aG//x.1<=l.length/\∀j,j<x.1->xD l j=0}) [11] (fun x=>[(11,n x.1.1)]) (fun x=>x.1.2) (fun x=>l.length-x.1.1) ⟨(0,[]),by simp,by simp⟩ ?_
 ·rintro⟨⟨i,τ⟩,hi,hb⟩
  simp only at hi hb
  have hlen:¬32<l.length:=by omega
  by_cases bP:i<l.length
  ·have hs:(l.map j3.cs).getD i []=j3.cs (l.getD i default):=getD_map (fh default bP)
   have hp:=xV (f:=j3.cs) default bP
   have hh:=sk (l.getD i default).cz (hl.2 _ (ao (fh default bP)))
   generalize hg:l.getD i default=g at hs hh
   generalize xR:l.getD (i-1) default=g' at hp
   have hE:xD l i=if inr g.id 1 65535/\(0<i->g'.id<g.id)/\inr g.x 0 2000/\inr g.y 0 2000 then(if lu g.cz then 0 else 51)else 50:=by unfold xD;rw[hg,xR]
   have AQ:xD l i≠0->gW l=(xD l i,i):=fun h=>by unfold gW;rw[if_neg hlen,se bP hb h]
   (refine Az (aa @hs @hp) (aa (og g.id 1 65535) (aa (og g.x 0 2000) (aa (og g.y 0 2000) @hh))) ?_ (g5_ ?_ ?_ ?_ ?_ ?_)<;>intros)
   all_goals first
    |(have e:xD l i=50:=by rw[hE,if_neg (by omega)]
      rw[AQ (by omega),e];exact Fq)
    |(have e:xD l i=51:=by rw[hE,if_pos (by omega),if_neg (by simp_all)]
      rw[AQ (by omega),e];exact Fq)
    |exact⟨⟨(i+1,_),bP,od hb (by rw[hE,if_pos (by omega),if_pos (by simp_all)])⟩,by simp,rfl,by simp only;omega⟩
  ·obtain rfl:i=l.length:=by omega
   refine Au ?_;intros
   unfold gW;rw[if_neg hlen,oT hb];exact Fq
theorem Pl(f:Nat)(dZ:List AV)(ep:∀c∈dZ,bC c)(q:Sp->Bool)(l:List Sp)(hl:l.length<9223372036854775808)(hq:∀x∈l,Pure Tryz.prog f ([.agg (Sp.cs x)]++dZ) (bl (q x))):Pure Tryz.prog 243 [ec l,.fn (.func f) [] dZ] (n (fj q 0 l)):=by
 refine jX Tryz.f243.eq_1 [] [.l [0,1,7,8]] ?_
 refine Au ?_;intros
 refine aR.li 8 l.length (fun i=>fj q i (l.drop i)=fj q 0 l) (by simp) ?_
 ·intro i hi hI
  by_cases bP:i<l.length
  ·obtain⟨x,hx⟩:∃x,l[i]?=some x:=⟨_,ae bP⟩
   have hc:=hq x (ao hx)
   rw[drop_cons hx,fj]at hI
   refine Ax (Kf hx) ?_;intros
   refine .inl ⟨_,_,_,_,rfl,fun _=>.of ?_ (hc),?_⟩
   ·intro a ha
    simp only[aK,aD,aC]at ha
    rcases ha with rfl|ha
    ·simp
    ·exact ep a ha
   refine aH ?_
   (refine Au ?_ (CM ?_)<;>intros)
   ·rename_i h
    rw[h]at hI
    simp only[if_true]at hI
    rw[<-hI]
    exact Fq
   ·rename_i h
    rw[h]at hI
    exact⟨⟨i+1,bP,by simpa using hI⟩,by simp,by simp only;omega⟩
  ·obtain rfl:i=l.length:=by omega
   rw[c_,fj]at hI
   refine Au ?_;intros
   rw[<-hI]
   exact Fq
theorem Pm(f:Nat)(dZ:List AV)(ep:∀c∈dZ,bC c)(q:Mk->Bool)(l:List Mk)(hl:l.length<9223372036854775808)(hq:∀x∈l,Pure Tryz.prog f ([.agg (Mk.cs x)]++dZ) (bl (q x))):Pure Tryz.prog 254 [mb l,.fn (.func f) [] dZ] (n (fj q 0 l)):=by
 refine jX Tryz.f254.eq_1 [] [.l [0,1,7,8]] ?_
 refine Au ?_;intros
 refine aR.li 8 l.length (fun i=>fj q i (l.drop i)=fj q 0 l) (by simp) ?_
 ·intro i hi hI
  by_cases bP:i<l.length
  ·obtain⟨x,hx⟩:∃x,l[i]?=some x:=⟨_,ae bP⟩
   have hc:=hq x (ao hx)
   rw[drop_cons hx,fj]at hI
   refine Ax (Kf hx) ?_;intros
   refine .inl ⟨_,_,_,_,rfl,fun _=>.of ?_ (hc),?_⟩
   ·intro a ha
    simp only[aK,aD,aC]at ha
    rcases ha with rfl|ha
    ·simp
    ·exact ep a ha
   refine aH ?_
   (refine Au ?_ (CM ?_)<;>intros)
   ·rename_i h
    rw[h]at hI
    simp only[if_true]at hI
    rw[<-hI]
    exact Fq
   ·rename_i h
    rw[h]at hI
    exact⟨⟨i+1,bP,by simpa using hI⟩,by simp,by simp only;omega⟩
  ·obtain rfl:i=l.length:=by omega
   rw[c_,fj]at hI
   refine Au ?_;intros
   rw[<-hI]
   exact Fq
theorem yW(f:Nat)(dZ:List AV)(ep:∀c∈dZ,bC c)(q:j3->Bool)(l:List j3)(hl:l.length<9223372036854775808)(hq:∀x∈l,Pure Tryz.prog f ([.agg (j3.cs x)]++dZ) (bl (q x))):Pure Tryz.prog 94 [KY l,.fn (.func f) [] dZ] (n (fj q 0 l)):=by
 refine jX Tryz.f94.eq_1 [] [.l [0,1,7,8]] ?_
 refine Au ?_;intros
 refine aR.li 8 l.length (fun i=>fj q i (l.drop i)=fj q 0 l) (by simp) ?_
 ·intro i hi hI
  by_cases bP:i<l.length
  ·obtain⟨x,hx⟩:∃x,l[i]?=some x:=⟨_,ae bP⟩
   have hc:=hq x (ao hx)
   rw[drop_cons hx,fj]at hI
   refine Ax (Kf hx) ?_;intros
   refine .inl ⟨_,_,_,_,rfl,fun _=>.of ?_ (hc),?_⟩
   ·intro a ha
    simp only[aK,aD,aC]at ha
    rcases ha with rfl|ha
    ·simp
    ·exact ep a ha
   refine aH ?_
   (refine Au ?_ (CM ?_)<;>intros)
   ·rename_i h
    rw[h]at hI
    simp only[if_true]at hI
    rw[<-hI]
    exact Fq
   ·rename_i h
    rw[h]at hI
    exact⟨⟨i+1,bP,by simpa using hI⟩,by simp,by simp only;omega⟩
  ·obtain rfl:i=l.length:=by omega
   rw[c_,fj]at hI
   refine Au ?_;intros
   rw[<-hI]
   exact Fq
theorem yX(f:Nat)(dZ:List AV)(ep:∀c∈dZ,bC c)(q:Sp->Bool)(l:List Sp)(hl:l.length<9223372036854775808)(hq:∀x∈l,Pure Tryz.prog f ([.agg (Sp.cs x)]++dZ) (bl (q x))):Pure Tryz.prog 191 [ec l,.fn (.func f) [] dZ] (bl (l.any q)):=by
 refine jX Tryz.f191.eq_1 [] [] ?_
 have h:=lK q l 0
 refine Au ?_;intros
 refine .inl ⟨_,_,_,_,rfl,fun _=>.of ?_ (Pl f dZ ep q l hl hq),?_⟩
 ·intro a ha
  simp only[aK,aD,aC,bb,au,or_false]at ha
  rcases ha with rfl|rfl
  ·simp
  ·exact bC.fn (fun _ h=>absurd h (au)) ep
 refine aH ?_
 refine Au ?_;intros
 rw[<-h]
 exact Fq
theorem GB(f:Nat)(dZ:List AV)(ep:∀c∈dZ,bC c)(q:Mk->Bool)(l:List Mk)(hl:l.length<9223372036854775808)(hq:∀x∈l,Pure Tryz.prog f ([.agg (Mk.cs x)]++dZ) (bl (q x))):Pure Tryz.prog 211 [mb l,.fn (.func f) [] dZ] (bl (l.any q)):=by
 refine jX Tryz.f211.eq_1 [] [] ?_
 have h:=lK q l 0
 refine Au ?_;intros
 refine .inl ⟨_,_,_,_,rfl,fun _=>.of ?_ (Pm f dZ ep q l hl hq),?_⟩
 ·intro a ha
  simp only[aK,aD,aC,bb,au,or_false]at ha
  rcases ha with rfl|rfl
  ·simp
  ·exact bC.fn (fun _ h=>absurd h (au)) ep
 refine aH ?_
 refine Au ?_;intros
 rw[<-h]
 exact Fq
theorem lQ(l:List Pt)(hl:l.length<9223372036854775808):Pure Tryz.prog 163 [AO l] (.iu [n (nr l).1,n (nr l).2]):=by
 refine jX Tryz.f163.eq_1 [] [.l [9,10,11]] ?_
 (refine Au ?_ (CM ?_)<;>intros)
 ·rename_i h
  unfold nr;rw[if_pos (by omega)];exact Fq
 refine aR.lr (α:={x:Nat×aG//x.1<=l.length/\∀j,j<x.1->(fun i=>if(l.getD i ⟨0,0,0⟩).ok then(0:Int)else 11) j=0}) [11] (fun x=>[(11,n x.1.1)]) (fun x=>x.1.2) (fun x=>l.length-x.1.1) ⟨(0,[]),by simp,by simp⟩ ?_
 ·rintro⟨⟨i,τ⟩,hi,hb⟩
  simp only at hi hb
  have hlen:¬2000<l.length:=by omega
  by_cases bP:i<l.length
  ·have hs:(l.map Pt.cs).getD i []=Pt.cs (l.getD i ⟨0,0,0⟩):=row _ bP
   generalize hg:l.getD i ⟨0,0,0⟩=g at hs
   (refine Az @hs (aa (gd g.x 0 400000) (aa (gd g.y 0 400000) (gd g.half 0 5000))) ?_ (CM ?_)<;>intros)
   ·rename_i h
    have hn:¬(l.getD i ⟨0,0,0⟩).ok:=by rw[hg];unfold Pt.ok;omega
    have:=se (p:=fun i=>if(l.getD i ⟨0,0,0⟩).ok then(0:Int)else 11) bP hb (by simp only[hn,if_false];decide)
    unfold nr;rw[if_neg hlen,this]
    simp only[hn,if_false]
    exact Fq
   ·rename_i h
    exact⟨⟨(i+1,_),bP,od hb (by simp only[hg];rw[if_pos (by unfold Pt.ok;omega)])⟩,by simp,rfl,by simp only;omega⟩
  ·obtain rfl:i=l.length:=by omega
   refine Au ?_;intros
   unfold nr;rw[if_neg hlen,oT hb];exact Fq
theorem C3(s:Sp):Pure Tryz.prog 208 [.agg (Sp.cs s)] (bl (decide (¬ke s 1 40))):=by
 refine jX Tryz.f208.eq_1 [] [] ?_
 refine Ay (GA s 1 40) ?_;intros
 all_goals exact bO.eq (congrArg bl (by simp)) (by simp)
theorem C4(rates:List Sp)(stops:List Mk)(hr:rates.length<9223372036854775808)(s:Mk):Pure Tryz.prog 210 [.agg (Mk.cs s),.bZ [ec rates,mb stops] 0] (bl (decide (¬(inr s.en 0 ((rates.length:Int)-1)/\ke s.bD 0 400)))):=by
 refine jX Tryz.f210.eq_1 [] [] ?_
 refine Ay (aa (rm s.en 0 ((rates.length:Int)-1)) (GA s.bD 0 400)) ?_;intros
 all_goals exact bO.eq (congrArg bl (by rw[cV];simp;omega)) (by simp)
theorem kM(rates:List Sp)(stops:List Mk)(hr:rates.length<9223372036854775808)(hs:stops.length<9223372036854775808):Pure Tryz.prog 147 [.agg [ec rates,mb stops]] (n (if gV rates stops then 0 else 20)):=by
 refine jX Tryz.f147.eq_1 [] [] ?_
 have h1:=yX 208 [] (by simp) (fun s=>decide (¬ke s 1 40)) rates hr (fun s _=>C3 s)
 have h2:=GB 210 [.bZ [ec rates,mb stops] 0] (by simp) (fun s=>decide (¬(inr s.en 0 ((rates.length:Int)-1)/\ke s.bD 0 400))) stops hs (fun s _=>C4 rates stops hr s)
 have hd:gV rates stops↔inr rates.length 1 199/\stops.length<=16/\(rates.any fun s=>decide (¬ke s 1 40))=false/\(stops.any fun s=>decide (¬(inr s.en 0 ((rates.length:Int)-1)/\ke s.bD 0 400)))=false:=by
  simp only[fo,decide_eq_true_eq,fY]
  exact Iff.rfl
 generalize(rates.any fun s=>decide (¬ke s 1 40))=x at h1 hd
 generalize(stops.any fun s=>decide (¬(inr s.en 0 ((rates.length:Int)-1)/\ke s.bD 0 400)))=y at h2 hd
 (refine Ay (aa (rm rates.length 1 199) (aa @h1 @h2)) ?_ (CM ?_)<;>intros)
 ·rename_i h
  rw[if_neg (fun g=>?_)]
  ·exact Fq
  ·obtain⟨a,b,c,d⟩:=hd.1 g
   subst c;subst d
   simp at h;omega
 ·rename_i h
  rw[if_pos (hd.2 ?_)]
  ·exact Fq
  ·cases x<;>cases y<;>simp at h|-<;>omega
theorem Po(a b:List Pt)(ha:a.length<9223372036854775808)(hb:b.length<9223372036854775808):Pure Tryz.prog 313 [AO a,AO b] (bl (decide (a=b))):=by
 refine jX Tryz.f313.eq_1 [] [.l [0,1,12,13],.d 9] ?_
 (refine Au ?_ (CM ?_)<;>intros)
 ·rename_i h
  rw[decide_eq_false fun e=>by subst e;omega];exact Fq
 rename_i iw
 have hlen:a.length=b.length:=by omega
 refine aR.li 13 a.length (fun i=>a.take i=b.take i) (by simp) ?_
 ·intro i hi hI
  by_cases bP:i<a.length
  ·have hx:(a.map Pt.cs).getD i []=Pt.cs (a.getD i ⟨0,0,0⟩):=row _ bP
   have hy:(b.map Pt.cs).getD i []=Pt.cs (b.getD i ⟨0,0,0⟩):=row _ (by omega)
   have hk:a.getD i ⟨0,0,0⟩=b.getD i ⟨0,0,0⟩↔a.take (i+1)=b.take (i+1):=by
    rw[ba,ba,hI,fh ⟨0,0,0⟩ bP,fh ⟨0,0,0⟩ (show i<b.length by omega)];simp
   generalize a.getD i ⟨0,0,0⟩=x at hx hk
   generalize b.getD i ⟨0,0,0⟩=y at hy hk
   obtain⟨x1,x2,x3⟩:=x
   obtain⟨y1,y2,y3⟩:=y
   simp only[Pt.mk.injEq]at hk
   (refine Ax (aa @hx @hy) ?_ (CM ?_)<;>intros)
   ·rename_i h
    rw[decide_eq_false fun e=>by
     have:=hk.2 (by rw[e])
     omega]
    exact Fq
   ·rename_i h
    exact⟨⟨i+1,bP,hk.1 (by omega)⟩,by simp,by simp only;omega⟩
  ·obtain rfl:i=a.length:=by omega
   refine Au ?_;intros
   rw[aI,hlen,aI]at hI
   rw[decide_eq_true hI]
   exact Fq
theorem Ic(a b:List Sp)(ha:a.length<9223372036854775808)(hb:b.length<9223372036854775808):Pure Tryz.prog 193 [ec a,ec b] (bl (decide (a=b))):=by
 refine jX Tryz.f193.eq_1 [] [.l [0,1,12,13],.d 9] ?_
 (refine Au ?_ (CM ?_)<;>intros)
 ·rename_i h
  rw[decide_eq_false fun e=>by subst e;omega];exact Fq
 rename_i iw
 have hlen:a.length=b.length:=by omega
 refine aR.li 13 a.length (fun i=>a.take i=b.take i) (by simp) ?_
 ·intro i hi hI
  by_cases bP:i<a.length
  ·have hx:(a.map Sp.cs).getD i []=Sp.cs (a.getD i ⟨0,0⟩):=row _ bP
   have hy:(b.map Sp.cs).getD i []=Sp.cs (b.getD i ⟨0,0⟩):=row _ (by omega)
   have hk:a.getD i ⟨0,0⟩=b.getD i ⟨0,0⟩↔a.take (i+1)=b.take (i+1):=by
    rw[ba,ba,hI,fh ⟨0,0⟩ bP,fh ⟨0,0⟩ (show i<b.length by omega)];simp
   generalize a.getD i ⟨0,0⟩=x at hx hk
   generalize b.getD i ⟨0,0⟩=y at hy hk
   obtain⟨x1,x2⟩:=x
   obtain⟨y1,y2⟩:=y
   simp only[Sp.mk.injEq]at hk
   (refine Ax (aa @hx @hy) ?_ (CM ?_)<;>intros)
   ·rename_i h
    rw[decide_eq_false fun e=>by
     have:=hk.2 (by rw[e])
     omega]
    exact Fq
   ·rename_i h
    exact⟨⟨i+1,bP,hk.1 (by omega)⟩,by simp,by simp only;omega⟩
  ·obtain rfl:i=a.length:=by omega
   refine Au ?_;intros
   rw[aI,hlen,aI]at hI
   rw[decide_eq_true hI]
   exact Fq
theorem Pq(a b:List Mk)(ha:a.length<9223372036854775808)(hb:b.length<9223372036854775808):Pure Tryz.prog 315 [mb a,mb b] (bl (decide (a=b))):=by
 refine jX Tryz.f315.eq_1 [] [.l [0,1,12,13],.d 9] ?_
 (refine Au ?_ (CM ?_)<;>intros)
 ·rename_i h
  rw[decide_eq_false fun e=>by subst e;omega];exact Fq
 rename_i iw
 have hlen:a.length=b.length:=by omega
 refine aR.li 13 a.length (fun i=>a.take i=b.take i) (by simp) ?_
 ·intro i hi hI
  by_cases bP:i<a.length
  ·have hx:(a.map Mk.cs).getD i []=Mk.cs (a.getD i ⟨0,⟨0,0⟩⟩):=row _ bP
   have hy:(b.map Mk.cs).getD i []=Mk.cs (b.getD i ⟨0,⟨0,0⟩⟩):=row _ (by omega)
   have hk:a.getD i ⟨0,⟨0,0⟩⟩=b.getD i ⟨0,⟨0,0⟩⟩↔a.take (i+1)=b.take (i+1):=by
    rw[ba,ba,hI,fh ⟨0,⟨0,0⟩⟩ bP,fh ⟨0,⟨0,0⟩⟩ (show i<b.length by omega)];simp
   generalize a.getD i ⟨0,⟨0,0⟩⟩=x at hx hk
   generalize b.getD i ⟨0,⟨0,0⟩⟩=y at hy hk
   obtain⟨x1,x2,x3⟩:=x
   obtain⟨y1,y2,y3⟩:=y
   simp only[Mk.mk.injEq,Sp.mk.injEq]at hk
   (refine Ax (aa @hx @hy) ?_ (CM ?_)<;>intros)
   ·rename_i h
    rw[decide_eq_false fun e=>by
     have:=hk.2 (by rw[e])
     omega]
    exact Fq
   ·rename_i h
    exact⟨⟨i+1,bP,hk.1 (by omega)⟩,by simp,by simp only;omega⟩
  ·obtain rfl:i=a.length:=by omega
   refine Au ?_;intros
   rw[aI,hlen,aI]at hI
   rw[decide_eq_true hI]
   exact Fq
theorem My(a b:List Int)(ha:a.length<9223372036854775808)(hb:b.length<9223372036854775808):Pure Tryz.prog 314 [l9 a,l9 b] (bl (decide (a=b))):=by
 refine jX Tryz.f314.eq_1 [] [.l [0,1,12,13],.d 9] ?_
 (refine Au ?_ (CM ?_)<;>intros)
 ·rename_i h
  rw[decide_eq_false fun e=>by subst e;omega];exact Fq
 rename_i iw
 have hlen:a.length=b.length:=by omega
 refine aR.li 13 a.length (fun i=>a.take i=b.take i) (by simp) ?_
 ·intro i hi hI
  by_cases bP:i<a.length
  ·have hx:(a.map (fun z=>[n z])).getD i []=(fun z=>[n z]) (a.getD i 0):=row _ bP
   have hy:(b.map (fun z=>[n z])).getD i []=(fun z=>[n z]) (b.getD i 0):=row _ (by omega)
   have hk:a.getD i 0=b.getD i 0↔a.take (i+1)=b.take (i+1):=by
    rw[ba,ba,hI,fh 0 bP,fh 0 (show i<b.length by omega)];simp
   generalize a.getD i 0=x at hx hk
   generalize b.getD i 0=y at hy hk
   (refine Ax (aa @hx @hy) ?_ (CM ?_)<;>intros)
   ·rename_i h
    rw[decide_eq_false fun e=>by
     have:=hk.2 (by rw[e])
     omega]
    exact Fq
   ·rename_i h
    exact⟨⟨i+1,bP,hk.1 (by omega)⟩,by simp,by simp only;omega⟩
  ·obtain rfl:i=a.length:=by omega
   refine Au ?_;intros
   rw[aI,hlen,aI]at hI
   rw[decide_eq_true hI]
   exact Fq
def rq(s:fT):Prop:=s.trace.length<9223372036854775808/\s.eu.length<9223372036854775808/\s.rates.length<9223372036854775808/\s.stops.length<9223372036854775808
theorem cY(a:Nt):Pure Tryz.prog 131 [.agg a.cs] (.agg [n a.dP,n a.num]):=by
 refine jX Tryz.f131.eq_1 [] [] ?_
 refine Au ?_;intros
 all_goals exact Fq
theorem kN(m:Nm):Pure Tryz.prog 246 [.agg m.cs] (bl (decide m.ok)):=by
 refine jX Tryz.f246.eq_1 [] [] ?_
 refine Ay (aa (e8 m.dP 1 8) (e8 m.num 1 400)) ?_;intros
 all_goals exact bO.eq (congrArg bl (by first|rfl|(unfold Nm.ok;first|rfl|(rw[cV];simp<;>try omega)))) (by simp)
theorem yY(m:Mk):Pure Tryz.prog 369 [.agg m.cs] (bl (decide m.ok)):=by
 refine jX Tryz.f369.eq_1 [] [] ?_
 refine Ay (aa (e8 m.en 0 199) (C2 m.bD 0 400)) ?_;intros
 all_goals exact bO.eq (congrArg bl (by first|rfl|(unfold Mk.ok;first|rfl|(rw[cV];simp<;>try omega)))) (by simp)
theorem yZ(a b:fT)(ha:rq a)(hb:rq b):Pure Tryz.prog 284 [.agg a.cs,.agg b.cs] (bl (decide (a=b))):=by
 refine jX Tryz.f284.eq_1 [] [] ?_
 have h1:=Po a.trace b.trace ha.1 hb.1
 have h2:=My a.eu b.eu ha.2.1 hb.2.1
 have h3:=Ic a.rates b.rates ha.2.2.1 hb.2.2.1
 have h4:=Pq a.stops b.stops ha.2.2.2 hb.2.2.2
 refine Ay (aa @h1 (aa @h2 (aa @h3 @h4))) ?_;intros
 all_goals refine bO.eq (congrArg bl ?_) (by simp)
 obtain⟨⟨a1,a2,a3,a4,a5,a6,⟨a7,a8⟩,⟨a9,a10⟩⟩,a11,a12,a13,a14,⟨a15,⟨a16,a17⟩,a18⟩⟩:=a
 obtain⟨⟨b1,b2,b3,b4,b5,b6,⟨b7,b8⟩,⟨b9,Tg⟩⟩,Yc,Yd,b13,b14,⟨b15,⟨b16,b17⟩,b18⟩⟩:=b
 simp only[fT.mk.injEq,AN.mk.injEq,Pn.mk.injEq,Sp.mk.injEq,and_assoc]
theorem JA(a b:Nt)(ha:rq a.c8)(hb:rq b.c8):Pure Tryz.prog 245 [.agg a.cs,.agg b.cs] (bl (decide (a=b))):=by
 refine jX Tryz.f245.eq_1 [] [.d 76] ?_
 have h1:=yZ a.c8 b.c8 ha hb
 have h2:=cY a
 have h3:=cY b
 refine Ay (aa @h2 (aa @h3 @h1)) ?_;intros
 refine bO.eq (congrArg bl ?_) (by simp)
 clear h1 h2 h3
 obtain⟨a1,a2,a3,a4,a5,a6,a7,a8,⟨a9,⟨a10,a11⟩⟩,⟨a12,a13,a14,⟨a15,a16⟩⟩,⟨a17,⟨a18,a19⟩⟩,⟨a20,a21⟩⟩:=a
 obtain⟨b1,b2,b3,b4,b5,b6,b7,b8,⟨b9,⟨Tg,Yc⟩⟩,⟨Yd,b13,b14,⟨b15,b16⟩⟩,⟨b17,⟨b18,b19⟩⟩,⟨b20,b21⟩⟩:=b
 simp only[Nt.mk.injEq,Mk.mk.injEq,Rd.mk.injEq,l4.mk.injEq,Nm.mk.injEq,Sp.mk.injEq,and_assoc]
 rw[decide_eq_decide]
 constructor<;>(intro h;simp_all)
theorem j6(x y:Int):Pure Tryz.prog 41 [n x,n y] (n (vR x y)):=by
 have h0:∀z,Pure Tryz.prog 96 [n z] (bl false):=fun z=>by
  refine jX Tryz.f96.eq_1 [] [] ?_
  refine Au ?_;intros
  all_goals exact bO.eq (congrArg bl (by simp)) (by simp)
 refine jX Tryz.f41.eq_1 [] [] ?_
 (refine Ay (aa (h0 x) (h0 y)) ?_ (g2_ ?_ ?_)<;>intros)
 all_goals first
  |(refine bO.eq (congrArg n ?_) (by simp);unfold vR;repeat' split
    all_goals first|rfl|omega)
def Ro:List Int->Int
 | []=>0
 |x::r=>if x=0 then Ro r else x
theorem Ie(l:List Int)(hl:l.length<9223372036854775808):Pure Tryz.prog 247 [l9 l] (n (Ro l)):=by
 refine jX Tryz.f247.eq_1 [] [.l [3,6,7,8]] ?_
 refine Au ?_;intros
 refine aR.li 8 l.length (fun i=>Ro (l.drop i)=Ro l) (by simp) ?_
 ·intro i hi hI
  by_cases bP:i<l.length
  ·have hx:(l.map fun z=>[n z]).getD i []=[n (l.getD i 0)]:=row (f:=fun z=>[n z]) 0 bP
   rw[drop_cons (fh 0 bP),Ro]at hI
   generalize l.getD i 0=x at hx hI
   (refine Ax @hx ?_ (CM ?_)<;>intros)
   ·rename_i h
    rw[if_neg h]at hI
    rw[<-hI];exact Fq
   ·rename_i h
    rw[if_pos h]at hI
    exact⟨⟨i+1,bP,hI⟩,by simp,by simp only;omega⟩
  ·obtain rfl:i=l.length:=by omega
   rw[c_]at hI
   refine Au ?_;intros
   rw[<-hI];exact Fq
theorem oY(a b:Nm):Pure Tryz.prog 195 [.agg a.cs,.agg b.cs] (n (uC a b)):=by
 refine jX Tryz.f195.eq_1 [] [.d 13] ?_
 have h1:=j6 a.dP b.dP
 have h2:=j6 a.num b.num
 have h3:=Ie [vR a.dP b.dP,vR a.num b.num] (by simp)
 refine Ay (aa @h1 (aa @h2 @h3)) ?_;intros
 refine bO.eq (congrArg n ?_) (by simp)
 unfold uC Pb Ro
 by_cases h:vR a.dP b.dP=0<;>simp[h,Ro]
 by_cases h':vR a.num b.num=0<;>simp[h']
theorem ZL{a b:Int}:vR a b=0↔a=b:=by unfold vR;repeat' split<;>omega
theorem EN(s:j3)(id:Int):Pure Tryz.prog 40 [.agg s.cs,n id] (n (vR s.id id)):=by
 refine jX Tryz.f40.eq_1 [] [] ?_
 refine Ay (j6 s.id id) ?_;intros
 all_goals exact Fq
theorem p6(s:j3)(id:Int):Pure Tryz.prog 95 [.agg s.cs,.bZ [.fn (.func 40) [] []] 0,.bZ [n id] 0] (bl (s.id==id)):=by
 refine jX Tryz.f95.eq_1 [] [] ?_
 refine Ay (EN s id) ?_;intros
 refine bO.eq (congrArg bl ?_) (by simp)
 rw[cV];simp[ZL]
theorem EO(l:List j3)(hl:l.length<9223372036854775808)(id:Int):Pure Tryz.prog 39 [KY l,n id,.fn (.func 40) [] []] (n (fj (fun s=>s.id==id) 0 l)):=by
 refine jX Tryz.f39.eq_1 [] [] ?_
 (repeat' ((first|refine vn rfl ?_|simp(disch:=omega) only[cB,aj]|refine bo (fun _=>?_) fun _=>?_|refine im fun _=>?_|((repeat refine si ?_);(first|((first|refine .inl ⟨_,_,_,_,rfl,fun _=>pu (yW 95 [.bZ [.fn (.func 40) [] []] 0,.bZ [n id] 0] (by simp) (fun s=>s.id==id) l hl (fun s _=>p6 s id)),?_⟩|refine⟨_,_,_,_,rfl,fun _=>pu (yW 95 [.bZ [.fn (.func 40) [] []] 0,.bZ [n id] 0] (by simp) (fun s=>s.id==id) l hl (fun s _=>p6 s id)),?_⟩);(first|refine o1 ?_|refine o4 ?_))|refine .inl ⟨_,_,_,_,rfl,pu (yW 95 [.bZ [.fn (.func 40) [] []] 0,.bZ [n id] 0] (by simp) (fun s=>s.id==id) l hl (fun s _=>p6 s id)),?_⟩))|refine cF ?_|refine om ?_|refine an ?_|fail)<;>try simp only[zN,zT,zV,zS,zU,dC,ex,bu,bN,elems,cells,scalar,dH,bL,aX,aU,bJ,bI,Nat.reduceBEq,reduceAdd,reduceSub,reduceLT,reduceLeDiff,reduceMul,reduceEqDiff,reduceIte]))
 all_goals exact Fq
theorem kO(l:List j3)(hl:ql l)(id:Int):Pure Tryz.prog 12 [KY l,n id] (.iu [n (gI l id).1,n (gI l id).2]):=by
 refine jX Tryz.f12.eq_1 [] [] ?_
 have h1:=mM l hl
 have h2:=EO l hl.1 id
 have hE:gI l id=if(gW l).1≠0 then(0,(gW l).1)else match l.findIdx? fun s=>s.id==id with
  |some i=>(i,0)
  |none=>(0,50):=rfl
 cases hf:l.findIdx? fun s=>s.id==id with
 |none=>
  have h3:=vV.2 hf
  rw[hf]at hE
  generalize fj (fun s:j3=>s.id==id) 0 l=z at h2 h3
  (refine Ay (aa @h1 @h2) ?_ (CM ?_)<;>intros)
  ·rename_i h;rw[hE,if_pos h];exact Fq
  ·rename_i h _;rw[hE,if_neg (by simpa using h)];exact Fq
 |some j=>
  rw[Jz hf]at h2
  rw[hf]at hE
  (refine Ay (aa @h1 @h2) ?_ (CM ?_)<;>intros)
  ·rename_i h;rw[hE,if_pos h];exact Fq
  ·rename_i h _;rw[hE,if_neg (by simpa using h)];exact Fq
def mq(b:l8):Prop:=ql b.dh
theorem oZ(b:l8)(hb:mq b)(s w:Int):Pure Tryz.prog 357 [.agg b.cs,n s,n w] (bl (decide (kn b s w))):=by
 refine jX Tryz.f357.eq_1 [] [] ?_
 refine Ay (aa (kO b.dh hb s) (e8 w 0 10000)) ?_;intros
 all_goals exact bO.eq (congrArg bl (by unfold kn;first|rfl|(rw[cV];simp<;>try omega))) (by simp)
theorem ru(b:l8)(hb:mq b)(r:Rd):Pure Tryz.prog 372 [.agg b.cs,.agg r.cs] (bl (decide (r.ok b))):=by
 refine jX Tryz.f372.eq_1 [] [] ?_
 have h1:=oZ b hb r.fB r.week
 have hd:r.ok b↔kn b r.fB r.week/\inr r.tick 0 b.bD/\ke r.levels 0 12000:=Iff.rfl
 by_cases hp:kn b r.fB r.week
 ·rw[decide_eq_true hp]at h1
  refine Ay (aa @h1 (aa (e8 r.tick 0 b.bD) (C2 r.levels 0 12000))) ?_;intros
  all_goals refine bO.eq (congrArg bl ?_) (by simp)
  all_goals(rw[cV];simp[hd,hp])
 ·rw[decide_eq_false hp]at h1
  refine Ay (aa @h1 (aa (e8 r.tick 0 b.bD) (C2 r.levels 0 12000))) ?_;intros
  all_goals refine bO.eq (congrArg bl ?_) (by simp)
  all_goals(rw[cV];simp[hd,hp])
theorem oi(b:l8)(hb:mq b):Pure Tryz.prog 65 [.agg b.cs] (n (if b.ok then 0 else 100)):=by
 refine jX Tryz.f65.eq_1 [] [] ?_
 have h1:=rp b.fixed b.each
 (refine Ay (aa (mM b.dh hb) (aa @h1 (aa (e8 b.bD 1 400) (aa (e8 b.term 0 b.bD) (e8 b.tF 1 8))))) ?_ (CM ?_)<;>intros)
 ·rename_i h
  rw[if_neg (fun g=>?_)]
  ·exact Fq
  ·obtain⟨g1,g2,g3,g4,g5,g6⟩:=g
   rw[if_pos ⟨g2,g3⟩]at h;omega
 ·rename_i h
  have hw:inr b.fixed 0 12000/\inr b.each 0 10000:=cW fun hn=>by rw[if_neg hn]at h;omega
  rw[if_pos (by unfold l8.ok;omega)];exact Fq
theorem xF(s:fT)(hs:rq s):Pure Tryz.prog 367 [.agg s.cs] (bl (decide s.ok)):=by
 refine jX Tryz.f367.eq_1 [] [.l [1,34,35,36]] ?_
 have h1:=lQ s.trace hs.1
 have h2:=lP s.bz
 have h3:=kM s.rates s.stops hs.2.2.1 hs.2.2.2
 have h4:=mL s.eC
 have hb:=hs.2.1
 have hr:=hs.2.2.1
 have hd:s.ok↔(nr s.trace).1=0/\s.bz.ok/\gV s.rates s.stops/\s.eC.ok/\sf s.bz.jY s.eu/\(s.rates.length:Int)+1=s.bz.jY:=Iff.rfl
 by_cases ff:(nr s.trace).1=0/\s.bz.ok/\gV s.rates s.stops/\s.eC.ok
 ·obtain⟨g1,g2,g3,g4⟩:=ff
  rw[g1]at h1;rw[if_pos g2]at h2;rw[if_pos g3]at h3;rw[if_pos g4]at h4
  have X7:s.ok↔sf s.bz.jY s.eu/\(s.rates.length:Int)+1=s.bz.jY:=by rw[hd];exact⟨fun h=>h.2.2.2.2,fun h=>⟨g1,g2,g3,g4,h⟩⟩
  have hc:1<=s.bz.jY/\s.bz.jY<=200:=by unfold AN.ok at g2;omega
  have hr9:s.rates.length<=199:=by unfold gV at g3;omega
  refine Ay (aa @h1 (aa @h2 (aa @h3 @h4))) ?_;intros
  refine aR.li 36 s.eu.length (fun i=>∀j,j<i->inr (s.eu.getD j 0) 0 (s.bz.jY-1)/\(0<j->s.eu.getD (j-1) 0<s.eu.getD j 0)) (by simp) ?_
  ·intro i hi hI
   by_cases bP:i<s.eu.length
   ·have hx:(s.eu.map fun z=>[n z]).getD i []=[n (s.eu.getD i 0)]:=row (f:=fun z=>[n z]) 0 bP
    have hp:(s.eu.map fun z=>[n z]).getD ((i:Int)-1).toNat []=[n (s.eu.getD (i-1) 0)]:=xV (f:=fun z=>[n z]) 0 bP
    generalize hg:s.eu.getD i 0=x at hx
    generalize xR:s.eu.getD (i-1) 0=y at hp
    (refine Az (aa @hx @hp) (e8 x 0 (s.bz.jY-1)) ?_ (CM ?_)<;>intros)
    ·rename_i h
     rw[decide_eq_false fun g=>?_]
     ·exact Fq
     ·have:=(X7.1 g).1 i bP
      rw[hg,xR]at this
      omega
    ·rename_i h
     exact⟨⟨i+1,bP,od hI (by rw[hg,xR];omega)⟩,by simp,by simp only;omega⟩
   ·obtain rfl:i=s.eu.length:=by omega
    refine Au ?_;intros
    refine bO.eq (congrArg bl ?_) (by simp)
    rw[cV];simp only[decide_eq_true_eq]
    rw[X7]
    exact⟨fun h=>⟨hI,h⟩,fun h=>h.2⟩
 ·rw[decide_eq_false fun g=>ff (by rw[hd]at g;exact⟨g.1,g.2.1,g.2.2.1,g.2.2.2.1⟩)]
  have hw:¬((nr s.trace).1=0/\(if s.bz.ok then(0:Int)else 10)=0/\(if gV s.rates s.stops then(0:Int)else 20)=0/\(if s.eC.ok then(0:Int)else 30)=0):=by
   intro⟨g1,g2,g3,g4⟩
   refine ff ⟨g1,?_,?_,?_⟩
   ·exact cW fun hn=>by rw[if_neg hn]at g2;omega
   ·exact cW fun hn=>by rw[if_neg hn]at g3;omega
   ·exact cW fun hn=>by rw[if_neg hn]at g4;omega
  generalize(if s.bz.ok then(0:Int)else 10)=x2 at h2 hw
  generalize(if gV s.rates s.stops then(0:Int)else 20)=x3 at h3 hw
  generalize(if s.eC.ok then(0:Int)else 30)=x4 at h4 hw
  refine Ay (aa @h1 (aa @h2 (aa @h3 @h4))) ?_;intros
  all_goals first|(exfalso;omega)|exact Fq
def GC(a:Nt):Prop:=rq a.c8
def EP(a:Nt):AV:=
 if a.kind=1 then .l6 424 (.agg (.v (.pointer none)::n a.fB::n a.week::a.c8.cs))
 else if a.kind=2 then .l6 426 (.agg [n a.ref.dP,n a.ref.num,n a.mark.en,n a.mark.bD.lo,n a.mark.bD.hi])
 else if a.kind=3 then .l6 428 (.agg (.v (.pointer none)::a.read.cs))
 else if a.kind=4 then .l6 430 (.agg (n a.fB::a.ej.cs))
 else if a.kind=5 then .l6 264 (.agg [.bZ a.cs 36,n a.fB,n a.week])
 else if a.kind=6 then(if a.read.fB≠0 then .l6 428 (.agg (.bZ a.cs 36::a.read.cs))else .l6 426 (.agg [n a.ref.dP,n a.ref.num,n a.mark.en,n a.mark.bD.lo,n a.mark.bD.hi]))
 else if a.kind=7 then .l6 432 (.agg [n a.ref.dP,n a.ref.num])
 else .v .nilIface
theorem GD(b:l8)(hb:mq b)(s w:Int):Pure Tryz.prog 356 [.agg [.v (.pointer none),n s,n w],.agg b.cs] (bl (decide (kn b s w))):=by
 refine jX Tryz.f356.eq_1 [] [] ?_
 have h1:=oZ b hb s w
 generalize decide (kn b s w)=x at h1
 cases x
 all_goals(refine Ay @h1 ?_;intros)
 all_goals exact Fq
theorem GF(b:l8)(hb:mq b)(a:Nt)(s w:Int):Pure Tryz.prog 356 [.agg [.bZ a.cs 36,n s,n w],.agg b.cs] (bl (decide (kn b s w/\a.ref.ok))):=by
 refine jX Tryz.f356.eq_1 [] [] ?_
 have h1:=oZ b hb s w
 have h2:=kN a.ref
 rw[iM]
 generalize decide (kn b s w)=x at h1
 generalize decide a.ref.ok=y at h2
 cases x
 all_goals(refine Ay (aa @h1 @h2) ?_;intros)
 all_goals exact bO.eq (by simp) (by simp)
theorem GG(b:l8)(hb:mq b)(s w:Int)(t:fT)(ht:rq t):Pure Tryz.prog 366 [.agg (.v (.pointer none)::n s::n w::t.cs),.agg b.cs] (bl (decide (kn b s w/\t.ok))):=by
 refine jX Tryz.f366.eq_1 [] [] ?_
 have h1:=GD b hb s w
 have h2:=xF t ht
 rw[iM]
 generalize decide (kn b s w)=x at h1
 generalize decide t.ok=y at h2
 cases x
 all_goals(refine Ay (aa @h1 @h2) ?_;intros)
 all_goals exact bO.eq (by simp) (by simp)
theorem BH(b:l8)(r:Nm)(m:Mk):Pure Tryz.prog 368 [.agg [n r.dP,n r.num,n m.en,n m.bD.lo,n m.bD.hi],.agg b.cs] (bl (decide (r.ok/\m.ok))):=by
 refine jX Tryz.f368.eq_1 [] [] ?_
 have h1:=kN r
 have h2:=yY m
 rw[iM]
 generalize decide r.ok=x at h1
 generalize decide m.ok=y at h2
 cases x
 all_goals(refine Ay (aa @h1 @h2) ?_;intros)
 all_goals exact bO.eq (by simp) (by simp)
theorem GH(b:l8)(hb:mq b)(r:Rd):Pure Tryz.prog 371 [.agg (.v (.pointer none)::r.cs),.agg b.cs] (bl (decide (r.ok b))):=by
 refine jX Tryz.f371.eq_1 [] [] ?_
 refine Ay (ru b hb r) ?_;intros
 all_goals exact bO.eq (by simp) (by simp)
theorem GI(b:l8)(hb:mq b)(a:Nt)(r:Rd):Pure Tryz.prog 371 [.agg (.bZ a.cs 36::r.cs),.agg b.cs] (bl (decide (a.ref.ok/\r.ok b))):=by
 refine jX Tryz.f371.eq_1 [] [] ?_
 have h1:=kN a.ref
 have h2:=ru b hb r
 rw[iM]
 generalize decide a.ref.ok=x at h1
 generalize decide (r.ok b)=y at h2
 cases x
 all_goals(refine Ay (aa @h1 @h2) ?_;intros)
 all_goals exact bO.eq (by simp) (by simp)
theorem ER(b:l8)(hb:mq b)(s:Int)(h:l4):Pure Tryz.prog 373 [.agg (n s::h.cs),.agg b.cs] (bl (decide (kn b s h.week/\ke h.lk 0 4000))):=by
 refine jX Tryz.f373.eq_1 [] [] ?_
 have h1:=oZ b hb s h.week
 have h2:=C2 h.lk 0 4000
 rw[iM]
 generalize decide (kn b s h.week)=x at h1
 generalize decide (ke h.lk 0 4000)=y at h2
 cases x
 all_goals(refine Ay (aa @h1 @h2) ?_;intros)
 all_goals exact bO.eq (by simp) (by simp)
theorem AR(b:l8)(r:Nm):Pure Tryz.prog 374 [.agg [n r.dP,n r.num],.agg b.cs] (bl (decide r.ok)):=by
 refine jX Tryz.f374.eq_1 [] [] ?_
 refine Ay (kN r) ?_;intros
 all_goals exact bO.eq (by simp) (by simp)
theorem JB(a:Nt):Pure Tryz.prog 244 [.agg a.cs] (.iu [EP a,.agg a.bare.cs]):=by
 refine et 137 (jo [jx 1 164 38 0,jw 2 (.mv (.c (.nilIface))),jw 3 (.alloc 164 38 vj)] [1,3] (jo [jf 5 0 1,jl 6 5,jf 7 1 1,jl 8 7,jf 9 2 1,jl 10 9,jf 11 3 1,jl 12 11,jf 13 4 1,jl 14 13,jw 15 (.build vj [(0,1,(.t 6)),(1,1,(.t 8)),(2,1,(.t 10)),(3,1,(.t 12)),(4,1,(.t 14))]),jw 4 (.alloc 164 38 vj),js 38 4 15] [1,3,4] (.seq (jo [jf 16 4 1,jl 17 16] [1,3,4,17] (.block 0 (jo [ju .eql 19 17 1,jm 18 19] [1,3,4,17,18] (.cond (.t 18) (.seq (.jC [0,1,2,3,4,5,6,7,8,9,10,11] [2,3,4,5] 3 [jf 20 5 1,jl 21 20,jf 22 6 1,jl 23 22,jf 24 7 1,jk 25 18 24,jf 26 5 4] [js 1 26 21,jf 27 6 4,js 1 27 23,jf 28 7 4,js 18 28 25] [1,3,4]) (.seq (.draw [jf 29 5 1,jl 30 29,jf 31 6 1,jl 32 31,jw 33 (.build [.pointer none,.int .i64 0,.int .i64 0] [(0,1,(.c (.pointer none))),(1,1,(.t 30)),(2,1,(.t 32))]),jf 34 7 1,jk 35 18 34,jw 36 (.build [.pointer none,.int .i64 0,.int .i64 0,.int .i64 0,.int .i64 0,.int .i64 0,.int .i64 0,.int .i64 0,.int .i64 0,.int .i64 0,.int .i64 0,.int .i64 0,.int .i64 0,.slice none 0 0,.slice none 0 0,.slice none 0 0,.slice none 0 0,.int .i64 0,.int .i64 0,.int .i64 0,.int .i64 0] [(0,3,(.t 33)),(3,18,(.t 35))]),jw 37 (.l6 424 (.t 36)),jk 38 38 4,jm 2 37] [js 38 3 38] [2,3]) .ret)) (jo [ju .eql 40 17 2,jm 39 40] [1,3,4,17,39] (.cond (.t 39) (.seq (.jC [0,1,2,3,4,5,6,7] [2,3] 1 [jf 41 36 1,jk 42 2 41,jf 43 25 1,jk 44 3 43,jf 45 36 4] [js 2 45 42,jf 46 25 4,js 3 46 44] [1,3,4]) (.seq (.draw [jf 47 36 1,jk 48 2 47,jf 49 25 1,jk 50 3 49,jw 51 (.build [.int .i64 0,.int .i64 0,.int .i64 0,.int .i64 0,.int .i64 0] [(0,2,(.t 48)),(2,3,(.t 50))]),jw 52 (.l6 426 (.t 51)),jk 53 38 4,jm 2 52] [js 38 3 53] [2,3]) .ret)) (jo [ju .eql 55 17 3,jm 54 55] [1,3,4,17,54] (.cond (.t 54) (jo [jf 56 28 1,jk 57 5 56,jf 58 28 4,js 5 58 57] [1,3,4] (.seq (.draw [jf 59 28 1,jk 60 5 59,jw 61 (.build [.pointer none,.int .i64 0,.int .i64 0,.int .i64 0,.int .i64 0,.int .i64 0] [(0,1,(.c (.pointer none))),(1,5,(.t 60))]),jw 62 (.l6 428 (.t 61)),jk 63 38 4,jm 2 62] [js 38 3 63] [2,3]) .ret)) (jo [ju .eql 65 17 4,jm 64 65] [1,3,4,17,64] (.cond (.t 64) (.seq (.jC [0,1,2,3,4,5,6,7] [2,3] 1 [jf 66 5 1,jl 67 66,jf 68 33 1,jk 69 3 68,jf 70 5 4] [js 1 70 67,jf 71 33 4,js 3 71 69] [1,3,4]) (.seq (.draw [jf 72 5 1,jl 73 72,jf 74 33 1,jk 75 3 74,jw 76 (.build [.int .i64 0,.int .i64 0,.int .i64 0,.int .i64 0] [(0,1,(.t 73)),(1,3,(.t 75))]),jw 77 (.l6 430 (.t 76)),jk 78 38 4,jm 2 77] [js 38 3 78] [2,3]) .ret)) (jo [ju .eql 80 17 5,jm 79 80] [1,3,4,17,79] (.cond (.t 79) (.seq (.jC [0,1,2,3,4,5,6,7,8,9,10,11] [2,3,4,5] 3 [jf 81 36 1,jk 82 2 81,jf 83 5 1,jl 84 83,jf 85 6 1,jl 86 85,jf 87 36 4] [js 2 87 82,jf 88 5 4,js 1 88 84,jf 89 6 4,js 1 89 86] [1,3,4]) (.seq (.draw [jf 90 36 1,jf 91 5 1,jl 92 91,jf 93 6 1,jl 94 93,jw 95 (.build [.pointer none,.int .i64 0,.int .i64 0] [(0,1,(.t 90)),(1,1,(.t 92)),(2,1,(.t 94))]),jw 96 (.l6 264 (.t 95)),jk 97 38 4,jm 2 96] [js 38 3 97] [2,3]) .ret)) (jo [ju .eql 99 17 6,jm 98 99] [1,3,4,17,98] (.cond (.t 98) (jo [jf 100 36 1,jk 101 2 100,jf 102 36 4,js 2 102 101] [1,3,4] (.seq (jo [jf 103 28 1,jf 104 0 103,jl 105 104,ju .neq 106 105 0] [1,3,4,106] (.cond (.t 106) (jo [jf 107 28 1,jk 108 5 107,jf 109 28 4,js 5 109 108] [1,3,4] (.seq (.draw [jf 110 36 1,jf 111 28 1,jk 112 5 111,jw 113 (.build [.pointer none,.int .i64 0,.int .i64 0,.int .i64 0,.int .i64 0,.int .i64 0] [(0,1,(.t 110)),(1,5,(.t 112))]),jw 114 (.l6 428 (.t 113)),jk 115 38 4,jm 2 114] [js 38 3 115] [2,3]) .ret)) .skip)) (jo [jf 116 25 1,jk 117 3 116,jf 118 25 4,js 3 118 117] [1,3,4] (.seq (.draw [jf 119 36 1,jk 120 2 119,jf 121 25 1,jk 122 3 121,jw 123 (.build [.int .i64 0,.int .i64 0,.int .i64 0,.int .i64 0,.int .i64 0] [(0,2,(.t 120)),(2,3,(.t 122))]),jw 124 (.l6 426 (.t 123)),jk 125 38 4,jm 2 124] [js 38 3 125] [2,3]) .ret)))) (jo [ju .eql 127 17 7,jm 126 127] [1,3,4,126] (.cond (.t 126) (jo [jf 128 36 1,jk 129 2 128,jf 130 36 4,js 2 130 129] [1,3,4] (.seq (.draw [jf 131 36 1,jk 132 2 131,jw 133 (.build [.int .i64 0,.int .i64 0] [(0,2,(.t 132))]),jw 134 (.l6 432 (.t 133)),jk 135 38 4,jm 2 134] [js 38 3 135] [2,3]) .ret)) .skip)))))))))))))))) (.seq (.draw [jk 136 38 4,jw 2 (.mv (.c (.nilIface)))] [js 38 3 136] [2,3]) .ret)))) [.t 2,.c 3 (some 38)] Tryz.call244 Tryz.func244 ?_
 (repeat' ((first|refine vn rfl ?_|simp(disch:=omega) only[cB,aj]|refine bo (fun _=>?_) fun _=>?_|refine im fun _=>?_|refine cF ?_|refine om ?_|refine an ?_|fail)<;>try simp only[zN,zT,zV,zS,zU,dC,ex,bu,bN,elems,cells,scalar,dH,bL,aX,aU,bJ,bI,Nat.reduceBEq,reduceAdd,reduceSub,reduceLT,reduceLeDiff,reduceMul,reduceEqDiff,reduceIte,vj,fT.cs]))
 all_goals try(exfalso;omega)
 all_goals unfold EP Nt.bare
 all_goals simp only[*,if_true,if_false,ne_eq,not_true_eq_false,not_false_eq_true,reduceCtorEq,Int.reduceEq]
 all_goals refine bO.mY ⟨?_,bO.mX ?_,trivial⟩
 all_goals first
  |(refine bO.eq rfl ?_;simp;done)
  |(refine bO.eq rfl (bC.l6 (bC.agg ?_));simp;done)
  |(simp only[Nt.cs,Nt.head,Ib,Jx,Mv,KZ,uB,Ct,FL]
    repeat' apply aa
    all_goals first|trivial|exact bO.g_|exact Fq|exact bO.eq (by simp[*]) (by simp))
  |fail
theorem GJ(b:l8)(hb:mq b)(a:Nt)(ha:GC a):(∃T x f,EP a=.l6 T x/\qO Tryz.prog T "aneroid/archive.right" =some f/\Pure Tryz.prog f [x,.agg b.cs] (bl (decide (a.AP b)))/\bC x)\/(EP a=.v .nilIface/\¬a.AP b):=by
 unfold EP Nt.AP
 by_cases h1:a.kind=1
 ·refine .inl ⟨_,_,366,if_pos h1,by kernel_rfl,?_,bC.agg (by simp[fT.cs])⟩
  simp only[if_pos h1]
  exact GG b hb a.fB a.week a.c8 ha
 by_cases h2:a.kind=2
 ·simp only[if_neg h1,if_pos h2]
  exact .inl ⟨_,_,368,rfl,by kernel_rfl,BH b a.ref a.mark,by simp⟩
 by_cases h3:a.kind=3
 ·simp only[if_neg h1,if_neg h2,if_pos h3]
  exact .inl ⟨_,_,371,rfl,by kernel_rfl,GH b hb a.read,by simp⟩
 by_cases h4:a.kind=4
 ·simp only[if_neg h1,if_neg h2,if_neg h3,if_pos h4]
  exact .inl ⟨_,_,373,rfl,by kernel_rfl,ER b hb a.fB a.ej,by simp⟩
 by_cases h5:a.kind=5
 ·simp only[if_neg h1,if_neg h2,if_neg h3,if_neg h4,if_pos h5]
  exact .inl ⟨_,_,356,rfl,by kernel_rfl,GF b hb a a.fB a.week,by simp⟩
 by_cases h6:a.kind=6
 ·simp only[if_neg h1,if_neg h2,if_neg h3,if_neg h4,if_neg h5,if_pos h6]
  by_cases h0:a.read.fB≠0
  ·simp only[if_pos h0]
   exact .inl ⟨_,_,371,rfl,by kernel_rfl,GI b hb a a.read,by simp⟩
  ·simp only[if_neg h0]
   exact .inl ⟨_,_,368,rfl,by kernel_rfl,BH b a.ref a.mark,by simp⟩
 by_cases h7:a.kind=7
 ·simp only[if_neg h1,if_neg h2,if_neg h3,if_neg h4,if_neg h5,if_neg h6,if_pos h7]
  exact .inl ⟨_,_,374,rfl,by kernel_rfl,AR b a.ref,by simp⟩
 ·simp only[if_neg h1,if_neg h2,if_neg h3,if_neg h4,if_neg h5,if_neg h6,if_neg h7]
  exact .inr ⟨by trivial,fun h=>h⟩
theorem Tj{a:Nt}(h:GC a):GC a.bare:=by
 have h0:GC a.head:=(show rq Jx from⟨by decide,by decide,by decide,by decide⟩)
 unfold Nt.bare
 repeat' split
 all_goals first|exact h|exact h0
theorem ES(b:l8)(hb:mq b)(a:Nt)(ha:GC a):Pure Tryz.prog 194 [.agg b.cs,.agg a.cs] (bl (decide (a.ok b))):=by
 refine et 39 (jo [jx 2 26 6 0,jx 3 164 38 1,jb 4 false] [2,3] (jo [jk 8 38 3,jy 9 244 [8],jm 7 9,jz 10 0 7,jz 11 1 7,jw 6 (.alloc 164 38 vj),jm 5 10,js 38 6 11] [2,3,5,6] (jo [jm 12 5,jw 13 (.An false true (.t 12) (.c (.nilIface))),jm 14 13,ja 14 (jk 15 38 3),ja 14 (jk 16 38 6),ja 14 (jy 17 245 [15,16]),jp 18 14 17,jm 19 18,ja 19 (jk 20 38 3),ja 19 (jy 21 131 [20]),ja 19 (jy 22 246 [21]),jp 23 19 22,jm 24 23,ja 24 (jf 25 2 3),ja 24 (jl 26 25),⟨some 27,.call (.f 66) [(.t 26),(.c (.int .i64 1)),(.c (.int .i64 1099511627776))],some (24,true)⟩,jp 28 24 27,jm 29 28,ja 29 (jf 30 3 3),ja 29 (jl 31 30),⟨some 32,.call (.f 66) [(.t 31),(.c (.int .i64 0)),(.c (.int .i64 10000))],some (29,true)⟩,jp 33 29 32,jm 34 33,ja 34 (jm 35 5),ja 34 (jk 36 6 2),⟨some 37,.inv "aneroid/archive.right" (.t 35) [(.t 36)],some (34,true)⟩,jp 38 34 37,jm 4 38] [4] .ret))) [.t 4] Tryz.call194 Tryz.func194 ?_
 have h1:=JB a
 have h2:=JA a a.bare ha (Tj ha)
 have h3:=cY a
 have h4:=kN a.nm
 have hd:decide (a.ok b)=(decide (a=a.bare)&&(decide a.nm.ok&&(decide (inr a.clock 1 1099511627776)&&(decide (inr a.day 0 10000)&&decide (a.AP b))))):=by
  rw[cV];simp only[ak,decide_eq_true_eq];exact Iff.rfl
 rw[hd]
 generalize decide (a=a.bare)=x1 at h2
 generalize decide a.nm.ok=x2 at h4
 rcases GJ b hb a ha with⟨T,x,f,e1,e2,e3,e4⟩|⟨e1,e2⟩
 ·rw[e1]at h1
  generalize decide (a.AP b)=x3 at e3
  refine Az @e2 (aa @h1 (aa @h2 (aa @h3 (aa @h4 (aa (e8 a.clock 1 1099511627776) (aa (e8 a.day 0 10000) @e3)))))) ?_;intros
  all_goals refine bO.eq (congrArg bl ?_) (by simp)
  all_goals simp[Bool.and_assoc]
 ·rw[e1]at h1
  rw[decide_eq_false e2]
  refine Ay (aa @h1 (aa @h2 (aa @h3 (aa @h4 (aa (e8 a.clock 1 1099511627776) (e8 a.day 0 10000)))))) ?_;intros
  all_goals refine bO.eq (congrArg bl ?_) (by simp)
  all_goals simp[Bool.and_assoc]
end Go.Proofs.YtgopgjnfhkoomaaGreat
namespace Go.Abs
theorem bO.mp{σ:aG}{f n:Nat}{o:Ob}{m m':List (List Int×AV)}(ho:σ.at f 0=some o)(hm:bI o n=some m)(hl:m.length=m'.length)(hk:∀i,i<m.length->(m'.getD i ([],.any)).1=(m.getD i ([],.any)).1)(hv:∀i,i<m.length->bO σ (m.getD i ([],.any)).2 (m'.getD i ([],.any)).2):bO σ (.mp f) (.j4 n m'):=fun w X β x hs hx=>by
 obtain⟨b,es,cl,o7,rfl,_,hb,hr⟩:=yq hs ho hm hx
 obtain⟨h1,h2,h3⟩:=yt hr
 have hd:∀i,es.getD i ⟨undef,undef,0⟩=es.toList.getD i ⟨undef,undef,0⟩:=fun i=>by simp[af,ab]
 refine .j4 n m' b es cl hb (fun hX=>hs.xJ f 0 o b ho o7 hX) (by rw[<-hl,<-h1];simp) (fun i hi=>?_) fun i hi=>?_
 ·rw[hd,hk i (by omega)];exact h2 i (by omega)
 ·rw[hd];exact hv i (by omega) w X β _ hs (h3 i (by omega))
end Go.Abs
namespace Go.Proofs.YtgopgjnfhkoomaaGreat
open Go.Abs
open Nat (reduceAdd reduceSub reduceLT reduceLeDiff reduceMul reduceEqDiff)
set_option maxHeartbeats 4000000
set_option maxRecDepth 100000
def pK(l:List Nt):Prop:=l.length<9223372036854775808/\∀a∈l,GC a
theorem AS(b:l8)(hb:mq b)(l:List Nt)(hl:pK l):Pure Tryz.prog 128 [.agg b.cs,Ad l] (.iu [n (pg b l).1,n (pg b l).2]):=by
 refine et 50 (jo [jx 2 26 6 0,jc 4 0,jc 5 0] [1,2] (.seq (jo [jk 10 6 2,jy 11 65 [10],jm 6 11] [1,2,6] (jo [jm 12 6,ju .neq 13 12 0] [1,2,6,13] (.cond (.t 13) (jo [jm 14 6,jm 4 14,jc 5 0] [4,5] .ret) .skip))) (.seq (jo [jm 15 1,je 16 15,ju .gtr 17 16 400] [1,2,17] (.cond (.t 17) (jo [jc 4 2,jc 5 0] [4,5] .ret) .skip)) (.seq (jo [jm 18 1,je 19 18,jc 20 0] [1,2,18,19,20] (.block 0 (.loop (jo [jt .lss 21 20 19] [1,2,18,19,20,21] (.seq (.cond (.t 21) .skip (.exit 0)) (.seq (.block 1 (jo [jm 22 20,ji 23 38 18 20,jk 24 38 23,jw 8 (.alloc 164 38 vj),jm 7 22,js 38 8 24] [1,2,7,8,18,19,20] (.seq (jo [jk 25 6 2,jk 26 38 8,jy 27 194 [25,26],jv 28 27] [1,2,7,8,18,19,20,28] (.cond (.t 28) (jo [jm 29 7,jc 4 60,jm 5 29] [4,5] .ret) .skip)) (.seq (jo [jm 30 7,ju .eql 31 30 0] [1,2,7,8,18,19,20,31] (.cond (.t 31) (.exit 1) .skip)) (.seq (.draw [jm 32 1,jm 33 7,ju .sub 34 33 1,ji 35 38 32 34,jk 36 38 35,jy 37 131 [36],jk 38 38 8,jy 39 131 [38],jy 40 195 [37,39],jm 9 40] [] [1,2,7,9,18,19,20]) (.block 2 (jo [jm 42 9,ju .eql 43 42 0,jm 41 43] [1,2,7,9,18,19,20,41] (.cond (.t 41) (jo [jm 44 7,jc 4 61,jm 5 44] [4,5] .ret) (jo [jm 46 9,ju .gtr 47 46 0,jm 45 47] [1,2,7,18,19,20,45] (.cond (.t 45) (jo [jm 48 7,jc 4 1,jm 5 48] [4,5] .ret) .skip)))))))))) (.ops [ju .add 49 20 1,jm 20 49] [1,2,18,19,20]))))))) (jo [jc 4 0,jc 5 0] [4,5] .ret))))) [.t 4,.t 5] Tryz.call128 Tryz.func128 ?_
 have h1:=oi b hb
 have Cb:=hl.1
 by_cases g:b.ok
 ·rw[if_pos g]at h1
  by_cases hlen:400<l.length
  ·have e:pg b l=(2,0):=by unfold pg;rw[if_neg (fun h=>h g),if_pos hlen]
   rw[e]
   refine Ay @h1 ?_;intros
   all_goals first|(exfalso;omega)|exact Fq
  have e:pg b l=rj (On b l) l.length:=by unfold pg;rw[if_neg (fun h=>h g),if_neg hlen]
  refine Ay @h1 ?_;intros
  refine aR.lr (α:={x:Nat×aG//x.1<=l.length/\∀j,j<x.1->On b l j=0}) [20] (fun x=>[(20,n x.1.1)]) (fun x=>x.1.2) (fun x=>l.length-x.1.1) ⟨(0,[]),by simp,by simp⟩ ?_
  ·rintro⟨⟨i,τ⟩,hi,hI⟩
   simp only at hi hI
   by_cases bP:i<l.length
   ·have hs:(l.map Nt.cs).getD i []=Nt.cs (l.getD i default):=row default bP
    have hp:=xV (f:=Nt.cs) default bP
    have h2:=ES b hb (l.getD i default) (hl.2 _ (ao (fh default bP)))
    have hE:On b l i=if¬(l.getD i default).ok b then 60 else if i=0 then 0 else if uC (l.getD (i-1) default).nm (l.getD i default).nm=0 then 61 else if 0<uC (l.getD (i-1) default).nm (l.getD i default).nm then 1 else 0:=rfl
    have AQ:On b l i≠0->pg b l=(On b l i,i):=fun h=>by rw[e,se bP hI h]
    generalize l.getD i default=x at hs h2 hE
    generalize l.getD (i-1) default=y at hp hE
    have h3:=cY x
    have h4:=cY y
    have h5:=oY y.nm x.nm
    generalize uC y.nm x.nm=c at h5 hE
    by_cases lO:x.ok b
    ·rw[decide_eq_true lO]at h2
     rw[if_neg (fun h=>h lO)]at hE
     (refine Az (aa @hs @hp) (aa @h2 (aa @h3 (aa @h4 @h5))) ?_ (g3_ ?_ ?_ ?_)<;>intros)
     all_goals first
      |(have e2:On b l i=61:=by rw[hE,if_neg (by omega),if_pos (by omega)]
        rw[AQ (by omega),e2];exact Fq)
      |(have e2:On b l i=1:=by rw[hE,if_neg (by omega),if_neg (by omega),if_pos (by omega)]
        rw[AQ (by omega),e2];exact Fq)
      |exact⟨⟨(i+1,_),bP,od hI (by rw[hE,if_pos (by omega)])⟩,by simp,rfl,by simp only;omega⟩
      |exact⟨⟨(i+1,_),bP,od hI (by rw[hE,if_neg (by omega),if_neg (by omega),if_neg (by omega)])⟩,by simp,rfl,by simp only;omega⟩
    ·rw[decide_eq_false lO]at h2
     rw[if_pos lO]at hE
     refine Az (aa @hs @hp) (aa @h2 (aa @h3 (aa @h4 @h5))) ?_;intros
     rw[AQ (by omega),hE];exact Fq
   ·obtain rfl:i=l.length:=by omega
    refine Au ?_;intros
    rw[e,oT hI];exact Fq
 ·rw[if_neg g]at h1
  have e:pg b l=(100,0):=by unfold pg;rw[if_pos g]
  rw[e]
  refine Ay @h1 ?_;intros
  all_goals first|(exfalso;omega)|exact Fq
abbrev V2(ls:List (List Nt)):AV:=.sl 1 (ls.map fun l=>[Ad l])
theorem GK(b:l8)(hb:mq b)(ls:List (List Nt))(UE:ls.length<9223372036854775808)(hl:∀l∈ls,pK l):Pure Tryz.prog 63 [.agg b.cs,V2 ls] (n (lV b ls)):=by
 refine jX Tryz.f63.eq_1 [] [.l [2,15,16,17]] ?_
 have h1:=oi b hb
 by_cases g:b.ok
 ·rw[if_pos g]at h1
  have e:lV b ls=if(ls.all fun l=>(pg b l).1==0)=true then 0 else 1:=by unfold lV;rw[if_neg (fun h=>h g)]
  refine Ay @h1 ?_;intros
  refine aR.li 17 ls.length (fun i=>(ls.drop i).all (fun l=>(pg b l).1==0)=ls.all fun l=>(pg b l).1==0) (by simp) ?_
  ·intro i hi hI
   by_cases bP:i<ls.length
   ·have hs:(ls.map fun l=>[Ad l]).getD i []=[Ad (ls.getD i [])]:=row (f:=fun l=>[Ad l]) [] bP
    have h2:=AS b hb (ls.getD i []) (hl _ (ao (fh [] bP)))
    rw[drop_cons (fh [] bP),List.all_cons]at hI
    generalize ls.getD i []=l at hs h2 hI
    (refine Az @hs @h2 ?_ (CM ?_)<;>intros)
    ·rename_i h
     rw[show((pg b l).1==0)=false by simpa using h,gq]at hI
     rw[e,<-hI];exact Fq
    ·rename_i h
     rw[show((pg b l).1==0)=true by simpa using h,ga]at hI
     exact⟨⟨i+1,bP,hI⟩,by simp,by simp only;omega⟩
   ·obtain rfl:i=ls.length:=by omega
    rw[c_]at hI
    refine Au ?_;intros
    rw[e,<-hI];exact Fq
 ·rw[if_neg g]at h1
  have e:lV b ls=100:=by unfold lV;rw[if_pos g]
  rw[e]
  refine Ay @h1 ?_;intros
  all_goals first|(exfalso;omega)|exact Fq
abbrev tJ(a:Nt):AV:=.agg a.cs
theorem ET{l:List Nt}{i:Nat}{a:Nt}(h:l[i]?=some a):mI (l.take (i+1))=gX (mI (l.take i)) a.nm a:=by
 have e:l.take (i+1)=l.take i++[a]:=by rw[ba,h];rfl
 unfold mI
 rw[e,eO];rfl
theorem EU(l:List Nt)(hl:pK l):Pure Tryz.prog 129 [Ad l] (.j4 2 (jQ tJ (mI l))):=by
 refine et 19 (jo [jw 2 (.mv (.c (.map none)))] [0] (jo [jw 6 (.qn 2),jm 3 6] [0,3] (.seq (jo [jm 7 0,je 8 7,jc 9 0] [3,7,8,9] (.block 0 (.loop (jo [jt .lss 10 9 8] [3,7,8,9,10] (.seq (.cond (.t 10) .skip (.exit 0)) (.seq (.block 1 (jo [ji 11 38 7 9,jk 12 38 11,jw 5 (.alloc 164 38 vj),js 38 5 12] [3,5,7,8,9] (.draw [jm 13 3,jk 14 38 5,jy 15 131 [14],jk 16 38 5] [⟨none,.pR 2 (.t 13) (.t 15) (.t 16),none⟩] [3,7,8,9]))) (.ops [ju .add 17 9 1,jm 9 17] [3,7,8,9]))))))) (jo [jm 18 3,jm 2 18] [2] .ret)))) [.t 2] Tryz.call129 Tryz.func129 ?_
 have Cb:=hl.1
 refine Au ?_;intros
 refine aR.lr (α:={x:Nat×aG//x.1<=l.length}) [9] (fun x=>[(9,n x.1.1)]) (fun x=>some [⟨0,0,[],some (.mp 2 (jQ tJ (mI (l.take x.1.1))))⟩]::x.1.2) (fun x=>l.length-x.1.1) ⟨(0,[]),by simp⟩ ?_
 ·rintro⟨⟨i,ν⟩,hi⟩
  simp only at hi
  by_cases bP:i<l.length
  ·have hs:(l.map Nt.cs).getD i []=Nt.cs (l.getD i default):=row default bP
   have hn:=ET (fh default bP)
   generalize l.getD i default=a at hs hn
   have hk:ku (jQ tJ (mI (l.take i))) [a.dP,a.num] (.agg a.cs)=jQ tJ (mI (l.take (i+1))):=by rw[hn];exact jA tJ a.nm a _
   generalize jQ tJ (mI (l.take i))=M at hk
   generalize Tk:jQ tJ (mI (l.take (i+1)))=M' at hk
   refine Az (aa @hs @hk) (cY a) ?_;intros
   exact⟨⟨(i+1,ν++[some [⟨164,38,[a.cs],none⟩]]),bP⟩,by simp,by simp only[Tk],by simp only;omega⟩
  ·obtain rfl:i=l.length:=by omega
   rw[aI]
   refine Au ?_;intros
   exact bO.mp (o:=⟨0,0,[],some (.mp 2 (jQ tJ (mI l)))⟩) rfl rfl rfl (fun i hi=>rfl) fun i hi=>bO.eq rfl (by
    simp only[jQ,aF]at hi
    rw[ab,aV,ae hi]
    simp)
end Go.Proofs.YtgopgjnfhkoomaaGreat
namespace Go.Abs
theorem Ps{a b:Int}:vR a b<0↔a<b:=by unfold vR;repeat' split<;>omega
theorem GL{a b:Int}:vR a b=0↔a=b:=by unfold vR;repeat' split<;>omega
theorem Tl{a b:Int}:Pb a b<0↔a<0\/a=0/\b<0:=by unfold Pb;split<;>omega
theorem Tm{a b:Int}:Pb a b=0↔a=0/\b=0:=by unfold Pb;split<;>omega
theorem C5{a b:Nm}:uC a b<0↔a.dP<b.dP\/a.dP=b.dP/\a.num<b.num:=by
 unfold uC;rw[Tl,Ps,Ps,GL]
theorem Pu{a b:Nm}:uC a b=0↔a=b:=by
 unfold uC;rw[Tm,GL,GL];cases a;cases b;simp
theorem o3{a b:Nt}:mH a b<0↔a.day<b.day\/a.day=b.day/\(a.clock<b.clock\/a.clock=b.clock/\(a.dP<b.dP\/a.dP=b.dP/\a.num<b.num)):=by
 unfold mH;rw[Tl,Tl,Ps,Ps,GL,GL,C5]
theorem Ig{a b:Nt}:mH a b=0↔a.day=b.day/\a.clock=b.clock/\a.nm=b.nm:=by
 unfold mH;rw[Tm,Tm,GL,GL,Pu]
theorem xW{a b:Nt}:0<mH a b↔mH b a<0:=by
 have h1:=@o3 b a
 have h2:=@o3 a b
 have h3:=@Ig a b
 have h4:a.nm=b.nm↔a.dP=b.dP/\a.num=b.num:=by simp[Nt.nm]
 rw[h4]at h3
 omega
theorem y9{α:Type}{lt:α->α->Prop}(V3:∀a b,lt a b->¬lt b a):∀{l m:List α},l.Perm m->l.Pairwise lt->m.Pairwise lt->l=m
 | [],m,h,_,_=>(List.nil_perm.1 h).symm
 |a::r,[],h,_,_=>absurd h.symm (by simp)
 |a::r,b::s,h,h1,h2=>by
  have Rp:a=b:=by
   have ha:a∈b::s:=h.mem_iff.1 (by simp)
   have hb:b∈a::r:=h.mem_iff.2 (by simp)
   rcases aC.1 ha with rfl|ha
   ·rfl
   rcases aC.1 hb with rfl|hb
   ·rfl
   exact absurd ((ct.1 h1).1 b hb) (V3 _ _ ((ct.1 h2).1 a ha))
  subst Rp
  rw[y9 V3 (List.Perm.cons_inv h) (ct.1 h1).2 (ct.1 h2).2]
theorem vW(a:Nt):∀l,(Cv a l).Perm (a::l)
 | []=>.refl _
 |x::r=>by
  unfold Cv
  split
  ·exact .refl _
  ·exact((vW a r).cons x).trans (.swap a x r)
theorem y_:∀(l o:List Nt),(l.foldl (fun o a=>Cv a o) o).Perm (l++o)
 | [],o=>.refl _
 |a::r,o=>by
  rw[cT]
  exact(y_ r _).trans (((vW a o).append_left r).trans List.perm_middle)
theorem nP(l:List Nt):(Cw l).Perm l:=by have:=y_ l [];rwa[bb]at this
theorem Ih{a:Nt}:∀{l:List Nt},l.Pairwise (fun x y=>0<=mH y x)->(Cv a l).Pairwise (fun x y=>0<=mH y x)
 | [],_=>by simp[Cv]
 |x::r,h=>by
  have K3:∀{p q s:Nt},0<=mH q p->0<=mH s q->0<=mH s p:=fun{p q s} h1 h2=>by
   have:=@o3 q p;have:=@o3 s q;have:=@o3 s p;omega
  rw[ct]at h
  unfold Cv
  split
  ·rename_i hc
   have h0:0<=mH x a:=by have:=@xW a x;have:=@xW x a;omega
   refine ct.2 ⟨fun y hy=>?_,ct.2 h⟩
   rcases aC.1 hy with rfl|hy
   ·exact h0
   ·exact K3 h0 (h.1 y hy)
  ·rename_i hc
   refine ct.2 ⟨fun y hy=>?_,Ih h.2⟩
   rcases aC.1 ((vW a r).mem_iff.1 hy)with rfl|hy
   ·omega
   ·exact h.1 y hy
theorem Pv(l:List Nt):(Cw l).Pairwise (fun x y=>0<=mH y x):=by
 have:∀(l o:List Nt),o.Pairwise (fun x y=>0<=mH y x)->(l.foldl (fun o a=>Cv a o) o).Pairwise (fun x y=>0<=mH y x):=by
  intro l
  induction l with
  |nil=>exact fun o h=>h
  |cons a r ih=>exact fun o h=>ih _ (Ih h)
 exact this l [] .nil
theorem Mz{l m:List Nt}(hn:(l.map Nt.nm).Nodup)(hp:m.Perm l)(hs:m.Pairwise (fun x y=>0<=mH y x)):m=Cw l:=by
 have key:∀{p:List Nt},p.Perm l->p.Pairwise (fun x y=>0<=mH y x)->p.Pairwise (fun x y=>mH x y<0):=fun{p} h1 h2=>by
  have yh:(p.map Nt.nm).Nodup:=(h1.map Nt.nm).nodup_iff.2 hn
  rw[List.Nodup,lM]at yh
  refine(List.Pairwise.and h2 yh).imp fun{x y} ⟨h,h'⟩=>?_
  have g1:=@Ig x y
  have g2:=@xW x y
  have:¬mH x y=0:=fun e=>h' (g1.1 e).2.2
  omega
 exact y9 (lt:=fun x y=>mH x y<0) (fun a b h h'=>by have:=@xW a b;omega) (hp.trans (nP l).symm) (key hp hs) (key (nP l) (Pv l))
theorem bO.ptr{σ:aG}{f i n e j:Nat}{o:Ob}{cs:List AV}(ho:σ.at f i=some o)(hn:o.es.length=n)(he:e<n)(hl:(o.es.getD e []).length=cs.length)(h:∀t,t<cs.length->bO σ ((o.es.getD e []).getD t .any) (cs.getD t .any)):bO σ (.ptr f i n e j) (.bZ cs j):=fun w X β x hs hx=>by
 have ic:=hs.obj f i o ho
 cases hx with
 |ptr _ _ _ _ _ _ Mr hf hle hh=>
  obtain⟨b,hb,rfl⟩:=hh o ho hn
  have h2:=ic.2
  rw[hb]at h2
  have nB:=ic.nA (e:=e) (by omega)
  obtain⟨c,hc,eX,jN,hr⟩:=h2.1 nB
  have cX:=ic.1 e (by omega)
  have yu:=iE (k:=o.k) (show e<o.es.length by omega)
  refine .bZ cs j b (e*o.k) (fun t=>c.getD (e*o.k+t) undef) (fun t ht hx=>hs.xJ f i o b ho hb hx) (fun t ht=>jN e t (by omega) (by omega)) (fun t ht=>?_) fun t ht=>h t ht w X β _ hs (hr e t (by omega) (by omega))
  rw[cell_of_row w b _ c _ _ hc]
  simp[af,show e*o.k+t<c.size by omega]
theorem bO.fn{σ:aG}{g:Fn}{av bs cs ds:List AV}(hl:av.length=cs.length)(hm:bs.length=ds.length)(h:∀i,i<av.length->bO σ (av.getD i .any) (cs.getD i .any))(h':∀i,i<bs.length->bO σ (bs.getD i .any) (ds.getD i .any)):bO σ (.fn g av bs) (.fn g cs ds):=fun w X β x hs hx=>by
 cases hx with
 |fn _ _ _ xs ys hn Tn hr wN=>exact .fn g cs ds xs ys (hn.trans hl) (Tn.trans hm) (fun i hi=>h i (by omega) w X β _ hs (hr i (by omega))) fun i hi=>h' i (by omega) w X β _ hs (wN i (by omega))
theorem bO.fnL{σ:aG}{g:Fn}{bs ds:List AV}(h:FL σ bs ds):bO σ (.fn g [] bs) (.fn g [] ds):=bO.fn rfl h.len (fun i hi=>absurd hi (aN _)) h.get
theorem bO.gZ{α:Type}{σ:aG}{f n:Nat}{T k:Nat}{cs:α->List AV}{l:List α}(ho:σ.at f 0=some ⟨T,k,l.map cs,none⟩)(hn:l.length=n)(Q1:k≠0)(hc:∀a,∀c∈cs a,bC c)(hk:∀a,(cs a).length=k):bO σ (.own f 0 n) (.sl k (l.map cs)):=by
 refine bO.own (o:=⟨T,k,l.map cs,none⟩) Q1 ho (by simp[hn]) (by simp[hn]) (fun e j he hj=>bO.eq rfl ?_) fun e he=>?_
 ·have mB:e<l.length:=by omega
  simp only[ab,aV,ae mB,aY,bV]
  have o9:j<(cs l[e]).length:=by rw[hk];exact hj
  rw[ae o9];exact hc _ _ (cv o9)
 ·have mB:e<l.length:=by omega
  simp only[ab,aV,ae mB,aY,bV]
  exact hk _
def wZ(l:List Nt):List (Nm×Bool):=l.foldl (fun m a=>if a.kind=7 then gX m a.ref true else m) []
theorem GM{l:List Nt}{i:Nat}{a:Nt}(h:l[i]?=some a):wZ (l.take (i+1))=if a.kind=7 then gX (wZ (l.take i)) a.ref true else wZ (l.take i):=by
 have e:l.take (i+1)=l.take i++[a]:=by rw[ba,h];rfl
 unfold wZ
 rw[e,eO];rfl
theorem za(m:Nm):∀(l:List Nt) (M:List (Nm×Bool)),(eM (l.foldl (fun m a=>if a.kind=7 then gX m a.ref true else m) M) m)=if sR l m then some true else eM M m
 | [],M=>by simp[sR]
 |a::r,M=>by
  rw[cT,za m r]
  by_cases h:sR r m=true
  ·simp only[sR,List.any_cons]at h|-;simp[h]
  ·have h':sR (a::r) m=(a.kind==7&&a.ref==m):=by simp only[sR,List.any_cons]at h|-;simp[h]
   rw[h']
   simp only[h]
   by_cases hk:a.kind=7
   ·rw[if_pos hk,vS]
    by_cases hm:m=a.ref
    ·subst hm;simp[hk]
    ·have:¬a.ref=m:=fun e=>hm e.symm
     simp[hk,hm,this]
   ·simp[hk]
theorem GN(l:List Nt)(m:Nm):eM (wZ l) m=if sR l m then some true else none:=za m l []
theorem o5{α:Type}{q:α->Bool}{l:List α}{i:Nat}{a:α}(h:l[i]?=some a):(l.take (i+1)).filter q=if q a then(l.take i).filter q++[a]else(l.take i).filter q:=by
 have e:l.take (i+1)=l.take i++[a]:=by rw[ba,h];rfl
 rw[e,fK]
 by_cases hq:q a=true<;>simp[hq]
theorem AU{α:Type}{R:α->α->Prop}(tr:∀a b c,R a b->R b c->R a c){l:List α}(h:∀i a b,l[i]?=some a->l[i+1]?=some b->R a b):l.Pairwise R:=by
 rw[de]
 intro i j hi hj OV
 obtain⟨d,rfl⟩:∃d,j=i+1+d:=⟨j-(i+1),by omega⟩
 clear OV
 induction d with
 |zero=>exact h i _ _ (ae hi) (ae hj)
 |succ d ih=>exact tr _ _ _ (ih (by omega)) (h (i+1+d) _ _ (ae (by omega)) (ae hj))
theorem C6{b:l8}{l:List Nt}(h:(pg b l).1=0):b.ok/\l.length<=400/\(∀a∈l,a.ok b)/\(l.map Nt.nm).Pairwise (fun x y=>uC x y<0):=by
 unfold pg at h
 split at h
 ·simp at h
 rename_i hb
 split at h
 ·simp at h
 rename_i hlen
 rw[oU]at h
 refine⟨fm.1 hb,by omega,fun a ha=>?_,?_⟩
 ·obtain⟨i,hi,rfl⟩:=fZ.1 ha
  have h1:=h i hi
  unfold On at h1
  simp only at h1
  split at h1
  ·omega
  rename_i h2
  rw[ab,ae hi]at h2
  exact fm.1 h2
 ·rw[lM]
  refine AU (fun x y z=>by simp only[C5];omega) fun i x y hx hy=>?_
  have hi:=(ai.1 hy).1
  have h1:=h (i+1) hi
  unfold On at h1
  simp only[Nat.add_sub_cancel,ab,hx,hy,bV]at h1
  split at h1
  ·omega
  split at h1
  ·omega
  split at h1
  ·omega
  split at h1
  ·omega
  omega
theorem GO{b:l8}{l:List Nt}(h:(pg b l).1=0):(l.map Nt.nm).Nodup:=by
 refine(C6 h).2.2.2.imp fun h e=>?_
 rw[e]at h
 have:=(@C5 _ _).1 h
 omega
theorem BI{b:l8}{ls:List (List Nt)}(h:lV b ls=0):b.ok/\∀l∈ls,(pg b l).1=0:=by
 unfold lV at h
 split at h
 ·simp at h
 rename_i hb
 refine⟨fm.1 hb,fun l hl=>?_⟩
 split at h
 ·rename_i h2
  have:=bt.1 h2 l hl
  simpa using this
 ·simp at h
theorem GP(l:List Nt):∀a∈vT l,a∈l:=by
 intro a ha
 unfold vT at ha
 have h1:=(cM.1 ha).1
 exact(cM.1 ((nP _).mem_iff.1 h1)).1
theorem Tp(l:List Nt)(ks:List Int):(Cw (l.filter fun a=>a.kind !=7)).filter (fun a=>!sR l a.nm&&(ks.isEmpty||ks.any fun x=>decide (a.kind=x)))=fg l ks:=by
 unfold fg vT
 rw[List.filter_filter]
 congr 1
 funext a
 have:ks.contains a.kind=ks.any fun x=>decide (a.kind=x):=by
  induction ks with
  |nil=>rfl
  |cons x r ih=>rw[List.contains_cons,List.any_cons,ih];rfl
 rw[this,Bool.and_comm]
theorem GQ(l:List Nt):(vT l).length<=l.length:=by
 unfold vT
 exact bT (bK _ _) (by rw[(nP _).length_eq];exact bK _ _)
theorem zb(l:List Nt)(ks:List Int):(fg l ks).length<=l.length:=bT (bK _ _) (GQ l)
structure Emb(L:Nat)(X:Nat->Prop)(β:gr)(σ:aG)(X2:Nat->Prop)(DW:gr)(iX:aG):Prop where
 len:iX.length=L+σ.length
 obj:∀f i o2,iX.at (L+f) i=some o2->∃o,σ.at f i=some o/\o2.k=o.k/\o2.es.length=o.es.length
 IH:∀f i,DW (L+f) i=β f i
 sub:∀b,X2 b->X b
def Shf(L:Nat)(v v':AV):Prop:=∀w X β σ X2 DW iX x,Emb L X β σ X2 DW iX->RV w X β σ v x->RV w X2 DW iX v' x
section
variable {L:Nat}
theorem Shf.pure{v:AV}(h:bC v):Shf L v v:=fun w X β σ X2 DW iX x he hx=>by
 have h1:=(h _ _ _ _ _ hx).tr (w':=w) (X':=X2) (β':=sJ) (σ':=[]) ⟨ar _,fun _ _ _ _ _=>rfl,fun b _ hb=>he.sub b hb,ar _,fun f i o' hf=>absurd hf (aN _)⟩
 exact h1.out
theorem Shf.any(v:AV):Shf L v .any:=fun _ _ _ _ _ _ _ _ _ _=>.any _
theorem Shf.own(f i n:Nat):Shf L (.own f i n) (.own (L+f) i n):=fun w X β σ X2 DW iX x he hx=>by
 cases hx with
 |own _ _ _ _ h1 hf hle h=>
  refine .own _ i n x h1 (by rw[he.len];omega) (fun o2 h2=>?_) fun o2 h2 hn=>?_
  ·obtain⟨o,ho,hk,hl⟩:=he.obj f i o2 h2
   rw[hl];exact hle o ho
  ·obtain⟨o,ho,hk,hl⟩:=he.obj f i o2 h2
   have h3:=h o ho (by omega)
   rw[he.IH]
   unfold kD at h3|-
   cases hb:β f i with
   |none=>
    rw[hb]at h3
    exact⟨cd.1 (by rw[hl,h3.1];rfl),h3.2⟩
   |some b=>
    rw[hb]at h3
    obtain⟨cap,c,T,h4,h5,h6⟩:=h3
    exact⟨cap,c,T,by rw[hl];exact h4,h5,by rw[hk];exact h6⟩
theorem Shf.ptr(f i n e j:Nat):Shf L (.ptr f i n e j) (.ptr (L+f) i n e j):=fun w X β σ X2 DW iX x he hx=>by
 cases hx with
 |ptr _ _ _ _ _ _ h1 hf hle h=>
  refine .ptr _ i n e j x h1 (by rw[he.len];omega) (fun o2 h2=>?_) fun o2 h2 hn=>?_
  ·obtain⟨o,ho,hk,hl⟩:=he.obj f i o2 h2
   rw[hl];exact hle o ho
  ·obtain⟨o,ho,hk,hl⟩:=he.obj f i o2 h2
   obtain⟨b,hb,hx⟩:=h o ho (by omega)
   exact⟨b,by rw[he.IH];exact hb,by rw[hk];exact hx⟩
theorem Shf.agg{cs ds:List AV}(hl:cs.length=ds.length)(h:∀i,i<cs.length->Shf L (cs.getD i .any) (ds.getD i .any)):Shf L (.agg cs) (.agg ds):=fun w X β σ X2 DW iX x he hx=>by
 cases hx with
 |agg _ xs hn h1 hr=>exact .agg ds xs (hn.trans hl) (fun i hi=>h1 i (by omega)) fun i hi=>h i (by omega) w X β σ X2 DW iX _ he (hr i (by omega))
theorem Shf.iu{cs ds:List AV}(hl:cs.length=ds.length)(h:∀i,i<cs.length->Shf L (cs.getD i .any) (ds.getD i .any)):Shf L (.iu cs) (.iu ds):=fun w X β σ X2 DW iX x he hx=>by
 cases hx with
 |iu _ xs hn hr=>exact .iu ds xs (hn.trans hl) fun i hi=>h i (by omega) w X β σ X2 DW iX _ he (hr i (by omega))
theorem Shf.sl{k:Nat}{es ds:List (List AV)}(hl:es.length=ds.length)(hk:∀e,e<ds.length->(ds.getD e []).length=k)(h:∀e j,e<es.length->j<k->Shf L ((es.getD e []).getD j .any) ((ds.getD e []).getD j .any)):Shf L (.sl k es) (.sl k ds):=fun w X β σ X2 DW iX x he hx=>by
 generalize Ga:es=es' at hx
 cases hx with
 |slnil=>
  subst Ga
  obtain rfl:ds=[]:=cd.1 (by rw[<-hl];rfl)
  exact .slnil k
 |k9 _ a cap=>
  subst Ga
  obtain rfl:ds=[]:=cd.1 (by rw[<-hl];rfl)
  exact .k9 k a cap
 |sl _ _ b o cap x ep _ hc hX h1 hr=>
  subst Ga
  rw[hl]
  exact .sl k ds b o cap x (by omega) hk (fun e mB j hj=>hc e (by omega) j hj) (fun e j mB hj hb=>hX e j (by omega) hj (he.sub b hb)) (fun e j mB hj=>h1 e j (by omega) hj)
   fun e j mB hj=>h e j (by omega) hj w X β σ X2 DW iX _ he (hr e j (by omega) hj)
structure adH(L:Nat)(ν gz:aG):Prop where
 len:gz.length=ν.length
 obj:∀f i o2,gz.at f i=some o2->∃o,ν.at f i=some o/\o2.T=o.T/\o2.k=o.k/\o.lp=none/\o2.lp=none/\o2.es.length=o.es.length/\(∀e,e<o2.es.length->(o2.es.getD e []).length=o2.k)/\
  ∀e j,e<o2.es.length->j<o2.k->Shf L ((o.es.getD e []).getD j .any) ((o2.es.getD e []).getD j .any)
theorem CH{σ ν:aG}{f i:Nat}{o:Ob}:(σ++ν).at f i=some o↔(f<σ.length/\σ.at f i=some o)\/(σ.length<=f/\ν.at (f-σ.length) i=some o):=by
 by_cases h:f<σ.length
 ·rw[cI h]
  constructor
  ·exact fun hh=>.inl ⟨h,hh⟩
  ·rintro(⟨_,hh⟩|⟨h',_⟩)
   ·exact hh
   ·omega
 ·obtain⟨g,rfl⟩:∃g,f=σ.length+g:=⟨f-σ.length,by omega⟩
  rw[show σ.length+g-σ.length=g by omega]
  have:(σ++ν).at (σ.length+g) i=ν.at g i:=by
   unfold aG.at
   rw[bE (by omega),show σ.length+g-σ.length=g by omega]
  rw[this]
  constructor
  ·exact fun hh=>.inr ⟨by omega,hh⟩
  ·rintro(⟨h',_⟩|⟨_,hh⟩)
   ·omega
   ·exact hh
theorem eY.lift{P:Program}{f:Nat}{args:List AV}{R R':AV->aG->Prop}{σ:aG}(h:eY P f args [] R)(hp:∀a∈args,bC a)(hR:∀r ν,R r ν->∃r' gz,Shf σ.length r r'/\adH σ.length ν gz/\R' r' (σ++gz)):eY P f args σ R':=by
 refine⟨h.N',fun X β w xs hX hs hl hr=>?_⟩
 have bP:∀b,Xt X β σ b->b<w.heap.size:=fun b hb=>Bk hs hX hb
 have CU:dG w (Xt X β σ) sJ []:=⟨fun f i f' i' o o' b ho=>by simp[aG.at]at ho,fun f i o b ho=>by simp[aG.at]at ho,fun f i o ho=>by simp[aG.at]at ho⟩
 have nT:∀i,i<args.length->RV w (Xt (Xt X β σ) sJ []) sJ [] (args.getD i .any) (xs.getD i undef):=fun i hi=>by
  have h1:=hp _ (j9 hi) _ _ _ _ _ (hr i hi)
  refine h1.tr ⟨ar _,fun _ _ _ _ _=>rfl,fun b _ hb=>?_,ar _,fun f i o' hf=>absurd hf (aN _)⟩
  rcases hb with hb|⟨f,i,o,ho,_⟩
  ·exact hb
  ·simp[aG.at]at ho
 refine(h.go (Xt X β σ) sJ w xs bP CU hl nT).mono ?_
 rintro e w' ⟨x,r,ν,β',rfl,hRr,S',hx,E',K'⟩
 obtain⟨r',gz,nv,aai,hR'⟩:=hR r ν hRr
 let DW:gr:=fun f i=>if f<σ.length then β f i else β' (f-σ.length) i
 have xe:∀f i,f<σ.length->DW f i=β f i:=fun f i hf=>by simp only[DW,hf,if_true]
 have CG:∀f i,DW (σ.length+f) i=β' f i:=fun f i=>by simp only[DW];rw[if_neg (by omega),show σ.length+f-σ.length=f by omega]
 have hb3:∀f i,σ.length<=f->DW f i=β' (f-σ.length) i:=fun f i hf=>by simp only[DW];rw[if_neg (by omega)]
 have hold:∀b,b<w.heap.size->w'.heap[b]?=w.heap[b]?:=fun b hb=>E'.wJ b hb fun⟨f,i,o,ho,_⟩=>by simp[aG.at]at ho
 have yo:∀b,owned β' ν b->w.heap.size<=b:=fun b hb=>(E'.new b hb).resolve_left fun⟨f,i,o,ho,_⟩=>by simp[aG.at]at ho
 have how:∀b,owned DW (σ++gz) b->owned β σ b\/owned β' ν b:=fun b ⟨f,i,o,ho,hb⟩=>by
  rcases CH.1 ho with⟨h1,h2⟩|⟨h1,h2⟩
  ·rw[xe f i h1]at hb;exact .inl ⟨f,i,o,h2,hb⟩
  ·rw[hb3 f i h1]at hb
   obtain⟨o1,h3,_⟩:=aai.obj _ _ _ h2
   exact .inr ⟨_,i,o1,h3,hb⟩
 have hXX:∀b,Xt X DW (σ++gz) b->Xt (Xt X β σ) β' ν b:=fun b hb=>by
  rcases hb with hb|hb
  ·exact .inl (.inl hb)
  ·rcases how b hb with h|h
   ·exact .inl (.inr h)
   ·exact .inr h
 have ac6:Emb σ.length (Xt (Xt X β σ) β' ν) β' ν (Xt X DW (σ++gz)) DW (σ++gz):=by
  refine⟨by rw[aM,aai.len],fun f i o2 h2=>?_,CG,hXX⟩
  rcases CH.1 h2 with⟨h1,_⟩|⟨_,h3⟩
  ·omega
  ·rw[show σ.length+f-σ.length=f by omega]at h3
   obtain⟨o,h4,_,h5,_,_,h6,_⟩:=aai.obj _ _ _ h3
   exact⟨o,h4,h5,h6⟩
 have K2:Kp w (Xt X β σ) β σ w' (Xt X DW (σ++gz)) DW (σ++gz):=by
  refine⟨E'.size,fun b o hc _ _=>hold b (ib hc),fun b hb hx=>?_,by rw[aM];omega,fun f i o' hf ho=>?_⟩
  ·rcases hx with hx|hx
   ·exact .inl hx
   ·rcases how b hx with h|h
    ·exact .inr h
    ·have:=yo b h;omega
  ·rcases CH.1 ho with⟨_,h2⟩|⟨h1,_⟩
   ·refine⟨o',h2,rfl,ar _,fun _=>⟨xe f i hf,fun b hb c T hc=>⟨c,T,by rw[hold b (ib hc)];exact hc,rfl⟩⟩⟩
   ·omega
 have E2:Ext w β σ w' DW (σ++gz):=by
  refine⟨E'.size,fun b hb _=>hold b hb,fun b hb=>?_,E'.io⟩
  rcases how b hb with h|h
  ·exact .inl h
  ·exact .inr (yo b h)
 have S2:dG w' X DW (σ++gz):=by
  refine⟨fun f i f' i' o o' b h1 h2 h3 h4=>?_,fun f i o b h1 h3=>?_,fun f i o h1=>?_⟩
  ·rcases CH.1 h1 with⟨p1,p2⟩|⟨p1,p2⟩
   ·rw[xe f i p1]at h3
    rcases CH.1 h2 with⟨q1,q2⟩|⟨q1,q2⟩
    ·rw[xe f' i' q1]at h4
     exact hs.inj f i f' i' o o' b p2 q2 h3 h4
    ·rw[hb3 f' i' q1]at h4
     obtain⟨o1,h5,_⟩:=aai.obj _ _ _ q2
     exact absurd (.inr ⟨f,i,o,p2,h3⟩) (S'.xJ _ i' o1 b h5 h4)
   ·rw[hb3 f i p1]at h3
    obtain⟨o1,h5,_⟩:=aai.obj _ _ _ p2
    rcases CH.1 h2 with⟨q1,q2⟩|⟨q1,q2⟩
    ·rw[xe f' i' q1]at h4
     exact absurd (.inr ⟨f',i',o',q2,h4⟩) (S'.xJ _ i o1 b h5 h3)
    ·rw[hb3 f' i' q1]at h4
     obtain⟨o2,h6,_⟩:=aai.obj _ _ _ q2
     have:=S'.inj _ i _ i' o1 o2 b h5 h6 h3 h4
     exact⟨by omega,this.2⟩
  ·rcases CH.1 h1 with⟨p1,p2⟩|⟨p1,p2⟩
   ·rw[xe f i p1]at h3;exact hs.xJ f i o b p2 h3
   ·rw[hb3 f i p1]at h3
    obtain⟨o1,h5,_⟩:=aai.obj _ _ _ p2
    exact fun hx=>S'.xJ _ i o1 b h5 h3 (.inl hx)
  ·rcases CH.1 h1 with⟨p1,p2⟩|⟨p1,p2⟩
   ·rw[xe f i p1]
    exact(hs.obj f i o p2).tr K2 fun b hb=>hold b (bP b (.inr ⟨f,i,o,p2,hb⟩))
   ·rw[hb3 f i p1]
    obtain⟨o1,h5,hT,hk,xM,CY,Ga,cX,eN⟩:=aai.obj _ _ _ p2
    have ic:=S'.obj _ i o1 h5
    refine⟨cX,?_⟩
    have h2:=ic.2
    cases hb:β' (f-σ.length) i with
    |none=>
     rw[hb]at h2
     exact⟨cd.1 (by rw[Ga,h2.1];rfl),CY⟩
    |some b=>
     rw[hb]at h2
     refine⟨fun _=>?_,fun q hq=>by rw[CY]at hq;cases hq⟩
     obtain⟨c,hc,hle,Mr,hrc⟩:=h2.1 xM
     refine⟨c,by rw[hT];exact hc,by rw[Ga,hk];exact hle,fun e j he hj=>?_,fun e j he hj=>?_⟩
     ·rw[hk]at hj|-;exact Mr e j (by omega) hj
     ·have:=eN e j he hj
      rw[hk]at hj|-
      exact this _ _ _ _ _ _ _ _ ac6 (hrc e j (by omega) hj)
 exact⟨x,r',σ++gz,DW,rfl,hR',S2,nv _ _ _ _ _ _ _ _ ac6 hx,E2,K2⟩
end
section
variable {P:Program} {N:Nat} {rd:Option Nat} {K:e7} {σ:aG}
theorem p7{σ:aG}{f g i:Nat}(h:g≠f):(gone σ f).at g i=σ.at g i:=by
 unfold gone aG.at
 rw[bW (fun e=>h e.symm)]
theorem aR.sm{f n h e j:Nat}{o oh:Ob}{c:C}{env:Env}(ho:σ.at f 0=some o)(hn:o.es.length=n)(Q1:o.k≠0)(hh:σ.at h 0=some oh)(iw:h≠f)(nB:oh.lp=none)(he:e<oh.es.length)(hj:(oh.es.getD e [])[j]?=some (.own f 0 n))(hc:aR P N rd c K env ((gone σ f).cZ h 0 {oh with es:=oh.es.set e ((oh.es.getD e []).set j (.sl o.k o.es))})):aR P N rd c K env σ:=by
 intro code lF n0 X β a w cn
 have E1:Ext w β σ w β (gone σ f):=⟨ar _,fun _ _ _=>rfl,fun b ⟨g,i,o,ho,hb⟩=>.inl ⟨g,i,o,(iG ho).2,hb⟩,Still.refl w⟩
 have K1:Kp w (Xt X β σ) β σ w (Xt X β (gone σ f)) β (gone σ f):=
  ⟨ar _,fun _ _ _ _ _=>rfl,fun b _ hx=>sd b hx,by simp,fun g i o' _ dN=>⟨o',(iG dN).2,rfl,ar _,fun _=>⟨rfl,fun b _=>dM.refl w b⟩⟩⟩
 have Tq:=cn.sr.obj h 0 oh hh
 have S1:=cn.sr.pf (f:=f)
 have kx:=cn.tr S1 E1 K1
 have Pw:(gone σ f).at h 0=some oh:=by rw[p7 iw];exact hh
 have ic:=S1.obj h 0 oh Pw
 generalize dN:({oh with es:=oh.es.set e ((oh.es.getD e []).set j (.sl o.k o.es))}:Ob)=o' at hc
 have ek:o'.k=oh.k:=by rw[<-dN]
 have eT:o'.T=oh.T:=by rw[<-dN]
 have ZM:o'.lp=oh.lp:=by rw[<-dN]
 have Px:o'.es=oh.es.set e ((oh.es.getD e []).set j (.sl o.k o.es)):=by rw[<-dN]
 have hlen:oh.es.length=o'.es.length:=by rw[Px];simp
 have ht:ss w β h 0 (β h 0) w:=⟨ar _,fun _ _ _=>rfl,fun b hb=>.inl hb,Still.refl w⟩
 have fe:oh.es.length=o'.es.length->β h 0=β h 0/\∀b,β h 0=some b->dM w w b:=fun _=>⟨rfl,fun b _=>dM.refl w b⟩
 have K2:=Kp.jM (o':=o') S1 Pw ht ek.symm (dS hlen) fe
 have E2:Ext w β (gone σ f) w (sE β h 0 (β h 0)) ((gone σ f).cZ h 0 o'):=Ext.jM Pw ht
 have cX:∀e',(o'.es.getD e' []).length=(oh.es.getD e' []).length:=by
  intro e'
  simp only[Px,ab,bX]
  split
  ·rename_i h;subst h;simp[he]
  ·rfl
 have S2:=S1.jM (o':=o') kx.bd Pw ht ek.symm (dS hlen) fe (by
  refine⟨fun e' mB=>by rw[cX,ek];exact ic.1 e' (by omega),?_⟩
  have h2:=ic.2
  have V4:=Tq.2
  cases hb:β h 0 with
  |none=>rw[hb]at h2;rw[h2.1]at he;exact absurd he (aN _)
  |some b=>
   rw[hb]at h2 V4
   refine⟨fun _=>?_,fun r hr=>by rw[ZM,nB]at hr;cases hr⟩
   obtain⟨c,lC,hle,h1,hr⟩:=h2.1 nB
   obtain⟨c',vX,_,_,QU⟩:=V4.1 nB
   rw[lC]at vX;injection vX with vX;injection vX with vX;subst vX
   refine⟨c,by rw[eT];exact lC,by rw[<-hlen,ek];exact hle,fun e' j' mB o9=>by rw[ek];exact h1 e' j' (by omega) (by omega),fun e' j' mB o9=>?_⟩
   rw[ek]
   have h3:=hr e' j' (by omega) (by omega)
   have h4:=h3.tr K2
   rw[hb]at h4
   by_cases hq:e'=e/\j'=j
   ·obtain⟨rfl,rfl⟩:=hq
    have vi:=(ai.1 hj).1
    have hv:(o'.es.getD e' []).getD j' .any=.sl o.k o.es:=by
     have h5:o'.es.getD e' []=(oh.es.getD e' []).set j' (.sl o.k o.es):=by
      simp only[Px,ab,cp he,bV]
     rw[h5,ab,cp vi];rfl
    rw[hv]
    have h6:=QU e' j' he (by omega)
    have h7:(oh.es.getD e' []).getD j' .any=.own f 0 n:=by rw[ab,hj];rfl
    rw[h7]at h6
    have h8:=(h6.Rk cn.sr ho hn Q1).tr K2
    rw[hb]at h8
    exact h8
   ·have:(o'.es.getD e' []).getD j' .any=(oh.es.getD e' []).getD j' .any:=by
     simp only[Px,ab,bX]
     split
     ·rename_i I4
      subst I4
      simp only[he,if_true,bV,bX]
      rw[if_neg fun VP=>hq ⟨rfl,VP.symm⟩]
     ·rfl
    rw[this];exact h4)
 exact wpIn_mono (hc code lF n0 X _ a w (kx.tr S2 E2 K2)) fun e a w hp=>hp.trans (E1.trans E2) (K1.trans K2)
end
section
variable {P:Program} {N:Nat} {rd:Option Nat} {K:e7} {σ:aG}
theorem aR.Rq(T k m:Nat){c:C}{env:Env}(h:aR P N rd c K env (σ++[some (List.replicate m ⟨T,k,[],none⟩)])):aR P N rd c K env σ:=by
 intro code hc n0 X β a w cn
 let lf:gr:=fun f i=>if f=σ.length then none else β f i
 have hold:∀{f i:Nat},f<σ.length->lf f i=β f i:=fun hf=>if_neg (by omega)
 have dQ:∀{f i:Nat} {o:Ob},aG.at (σ++[some (List.replicate m (⟨T,k,[],none⟩:Ob))]) f i=some o->(f<σ.length/\σ.at f i=some o)\/(f=σ.length/\o=⟨T,k,[],none⟩):=by
  intro f i o ho
  have bP:=dU ho
  simp at bP
  by_cases hf:f<σ.length
  ·rw[oH σ _ hf]at ho;exact .inl ⟨hf,ho⟩
  ·obtain rfl:f=σ.length:=by omega
   unfold aG.at at ho
   rw[bE (ar _)]at ho
   simp only[jr,cg]at ho
   have:=ao ho
   exact .inr ⟨rfl,(gD.1 this).2⟩
 generalize Sc:(σ++[some (List.replicate m (⟨T,k,[],none⟩:Ob))]:aG)=lN at h dQ
 have hlen:σ.length<=lN.length:=by rw[<-Sc];simp
 have hs:=cn.sr
 have AG:∀b,owned lf lN b->owned β σ b:=by
  rintro b ⟨f,i,o,ho,hb⟩
  rcases dQ ho with⟨hf,ho⟩|⟨rfl,rfl⟩
  ·exact⟨f,i,o,ho,by rw[<-hold hf];exact hb⟩
  ·exact absurd hb (by simp[lf])
 have K1:Kp w (Xt X β σ) β σ w (Xt X lf lN) lf lN:=by
  refine⟨ar _,fun _ _ _ _ _=>rfl,fun b _ hx=>hx.imp id (AG b),hlen,fun f i o' hf dN=>?_⟩
  rcases dQ dN with⟨_,ho⟩|⟨h1,_⟩
  ·exact⟨o',ho,rfl,ar _,fun _=>⟨hold hf,fun b _=>dM.refl w b⟩⟩
  ·omega
 have E1:Ext w β σ w lf lN:=⟨ar _,fun _ _ _=>rfl,fun b hb=>.inl (AG b hb),Still.refl w⟩
 have S1:dG w X lf lN:=by
  refine⟨fun f i f' i' o o' b h1 h2 h3 h4=>?_,fun f i o b h1 h2=>?_,fun f i o h1=>?_⟩
  ·rcases dQ h1 with⟨g1,k1⟩|⟨rfl,_⟩
   ·rcases dQ h2 with⟨g2,k2⟩|⟨rfl,_⟩
    ·rw[hold g1]at h3;rw[hold g2]at h4
     exact hs.inj f i f' i' o o' b k1 k2 h3 h4
    ·exact absurd h4 (by simp[lf])
   ·exact absurd h3 (by simp[lf])
  ·rcases dQ h1 with⟨g1,k1⟩|⟨rfl,_⟩
   ·rw[hold g1]at h2;exact hs.xJ f i o b k1 h2
   ·exact absurd h2 (by simp[lf])
  ·rcases dQ h1 with⟨g1,k1⟩|⟨rfl,rfl⟩
   ·rw[hold g1];exact(hs.obj f i o k1).tr K1 fun b hb=>rfl
   ·rw[show lf σ.length i=none by simp[lf]]
    exact⟨fun e he=>absurd he (aN _),rfl,rfl⟩
 exact wpIn_mono (h code hc n0 X _ a w (cn.tr S1 E1 K1)) fun e a w hp=>hp.trans E1 K1
def MA(h n f i:Nat):List (List Int×AV)->List (List Int×AV)->Prop
 | [],[]=>True
 |x::r,y::s=>x.1=y.1/\(y.2=x.2\/x.2=.own h 0 n/\y.2=.own f i n)/\MA h n f i r s
 |_,_=>False
theorem gw.V5{w:World}{X X':Nat->Prop}{β β':gr}{σ σ':aG}{h n f i nk:Nat}(K:Kp w X β σ w X' β' σ')(hr:∀x,RV w X β σ (.own h 0 n) x->RV w X' β' σ' (.own f i n) x):∀{m m':List (List Int×AV)} {es:List MapEntry},MA h n f i m m'->gw w X β σ nk m es->gw w X' β' σ' nk m' es
 | [],[],[],_,_=>trivial
 |x::r,y::s,e::es,h1,h2=>by
  obtain⟨g1,g2,g3⟩:=h1
  obtain⟨k1,k2,k3,k4⟩:=h2
  refine⟨by rw[<-g1];exact k1,by rw[<-g1];exact k2,?_,gw.V5 K hr g3 k4⟩
  rcases g2 with g2|⟨g2,g4⟩
  ·rw[g2];exact k3.tr K
  ·rw[g2]at k3;rw[g4];exact hr _ k3
 | [],[],_::_,_,h=>h.elim
 |_::_,_::_,[],_,h=>h.elim
 | [],_::_,_,h,_=>h.elim
 |_::_,[],_,h,_=>h.elim
theorem aR.V6{h f i m nk n:Nat}{o p om:Ob}{es es':List (List Int×AV)}{c:C}{env:Env}(ho:σ.at h 0=some o)(nB:o.lp=none)(hn:o.es.length=n)(h0:0<n)(hp:σ.at f i=some p)(Ye:p.es=[])(tj:p.k=o.k)(hf:f≠h)(hm:σ.at m 0=some om)(yu:om.lp=some (.mp nk es))(hmh:m≠h)(ZN:m≠f)(he:MA h n f i es es')(hk:aR P N rd c K env (((gone σ h).cZ f i o).cZ m 0 {om with lp:=some (.mp nk es')})):aR P N rd c K env σ:=by
 intro code hc n0 X β a w cn
 have hs:=cn.sr
 let lf:gr:=fun f' i'=>if f'=f/\i'=i then β h 0 else β f' i'
 have b1:lf f i=β h 0:=if_pos ⟨rfl,rfl⟩
 have b2:∀{f' i':Nat},¬(f'=f/\i'=i)->lf f' i'=β f' i':=fun hh=>if_neg hh
 have I8:(gone σ h).at f i=some p:=by rw[p7 hf];exact hp
 have Gr:((gone σ h).cZ f i o).at m 0=some om:=by rw[cx (.inl fun e=>ZN e.symm),p7 hmh];exact hm
 generalize dN:({om with lp:=some (.mp nk es')}:Ob)=V7 at hk
 have dQ:∀{f' i':Nat} {o':Ob},aG.at (((gone σ h).cZ f i o).cZ m 0 V7) f' i'=some o'->
  (f'=m/\i'=0/\o'=V7)\/(f'=f/\i'=i/\o'=o)\/(f'≠h/\¬(f'=f/\i'=i)/\σ.at f' i'=some o'):=by
  intro f' i' o' h1
  rcases jE Gr h1 with h2|⟨_,h2⟩
  ·exact .inl h2
  ·rcases jE I8 h2 with h3|⟨h3,h4⟩
   ·exact .inr (.inl h3)
   ·have h5:=iG h4
    exact .inr (.inr ⟨h5.1,fun e=>h3.elim (fun q=>q e.1.symm) (fun q=>q e.2.symm),h5.2⟩)
 have I9:aG.at (((gone σ h).cZ f i o).cZ m 0 V7) f i=some o:=by rw[cx (.inl ZN)];exact cu I8
 have hlen:σ.length=(((gone σ h).cZ f i o).cZ m 0 V7).length:=by rw[eW,eW,cK]
 generalize Sc:(((gone σ h).cZ f i o).cZ m 0 V7:aG)=lN at hk dQ I9 hlen
 have Rh:¬(m=f/\(0:Nat)=i):=fun e=>ZN e.1
 have JC:∀{f' i':Nat} {o':Ob},lN.at f' i'=some o'->∃g j o0,σ.at g j=some o0/\lf f' i'=β g j/\((f'=f/\i'=i/\g=h/\j=0)\/(¬(f'=f/\i'=i)/\f'≠h/\g=f'/\j=i')):=by
  intro f' i' o' h1
  rcases dQ h1 with⟨rfl,rfl,rfl⟩|⟨rfl,rfl,rfl⟩|⟨h2,h3,h4⟩
  ·exact⟨f',0,om,hm,b2 Rh,.inr ⟨Rh,hmh,rfl,rfl⟩⟩
  ·exact⟨h,0,o',ho,b1,.inl ⟨rfl,rfl,rfl,rfl⟩⟩
  ·exact⟨f',i',o',h4,b2 h3,.inr ⟨h3,h2,rfl,rfl⟩⟩
 have AG:∀b,owned lf lN b->owned β σ b:=by
  rintro b ⟨f',i',o',h1,hb⟩
  obtain⟨g,j,o0,h2,h3,_⟩:=JC h1
  exact⟨g,j,o0,h2,by rw[<-h3];exact hb⟩
 have K1:Kp w (Xt X β σ) β σ w (Xt X lf lN) lf lN:=by
  refine⟨ar _,fun _ _ _ _ _=>rfl,fun b _ hx=>hx.imp id (AG b),dS hlen,fun f' i' o' _ h1=>?_⟩
  rcases dQ h1 with⟨rfl,rfl,rfl⟩|⟨rfl,rfl,rfl⟩|⟨h2,h3,h4⟩
  ·exact⟨om,hm,by rw[<-dN],by rw[<-dN];exact ar _,fun _=>⟨b2 Rh,fun b _=>dM.refl w b⟩⟩
  ·exact⟨p,hp,tj,by rw[Ye];exact aQ _,fun e=>by rw[Ye,hn]at e;exact absurd e (by simp;omega)⟩
  ·exact⟨o',h4,rfl,ar _,fun _=>⟨b2 h3,fun b _=>dM.refl w b⟩⟩
 have hrn:∀x,RV w (Xt X β σ) β σ (.own h 0 n) x->RV w (Xt X lf lN) lf lN (.own f i n) x:=by
  intro x hx
  cases hx with
  |own _ _ _ _ g1 g2 g3 g4=>
   refine .own f i n x g1 (dU I9) (fun o' h1=>?_) fun o' h1 _=>?_
   ·rw[I9]at h1;injection h1 with h1;subst h1;exact dS hn.symm
   ·rw[I9]at h1;injection h1 with h1;subst h1;rw[b1];exact g4 _ ho hn
 have E1:Ext w β σ w lf lN:=⟨ar _,fun _ _ _=>rfl,fun b hb=>.inl (AG b hb),Still.refl w⟩
 have S1:dG w X lf lN:=by
  refine⟨fun f1 i1 f2 i2 o1 o2 b h1 h2 h3 h4=>?_,fun f1 i1 o1 b h1 h2=>?_,fun f1 i1 o1 h1=>?_⟩
  ·obtain⟨g1,j1,p1,a1,e1,c1⟩:=JC h1
   obtain⟨g2,j2,p2,a2,e2,c2⟩:=JC h2
   have:=hs.inj g1 j1 g2 j2 p1 p2 b a1 a2 (by rw[<-e1];exact h3) (by rw[<-e2];exact h4)
   rcases c1 with⟨q1,q2,q3,q4⟩|⟨q1,q2,q3,q4⟩<;>rcases c2 with⟨r1,r2,r3,r4⟩|⟨r1,r2,r3,r4⟩<;>omega
  ·obtain⟨g1,j1,p1,a1,e1,c1⟩:=JC h1
   exact hs.xJ g1 j1 p1 b a1 (by rw[<-e1];exact h2)
  ·rcases dQ h1 with⟨rfl,rfl,rfl⟩|⟨rfl,rfl,rfl⟩|⟨h2,h3,h4⟩
   ·rw[b2 Rh]
    have ic:=hs.obj f1 0 om hm
    have h7:=ic.2
    refine⟨by rw[<-dN];exact ic.1,?_⟩
    cases hb:β f1 0 with
    |none=>rw[hb]at h7;rw[yu]at h7;exact absurd h7.2 (by simp)
    |some b=>
     rw[hb]at h7
     refine⟨fun hn=>by rw[<-dN]at hn;simp at hn,fun r hr=>?_⟩
     obtain⟨e0,V8,clock,hh,hmr,oI⟩:=h7.2 _ yu
     rw[<-dN]at hr
     injection hr with hr
     subst hr
     exact⟨by rw[<-dN];exact e0,V8,clock,hh,hmr.V5 K1 hrn he,oI⟩
   ·rw[b1];exact(hs.obj h 0 o1 ho).tr K1 fun b hb=>rfl
   ·rw[b2 h3];exact(hs.obj f1 i1 o1 h4).tr K1 fun b hb=>rfl
 exact wpIn_mono (hk code hc n0 X _ a w (cn.tr S1 E1 K1)) fun e a w hp=>hp.trans E1 K1
end
def Plain(v:AV):Prop:=∀w X β σ x w' X' β' σ',RV w X β σ v x->RV w' X' β' σ' v x
@[simp] theorem Plain.v(x:Value):Plain (.v x):=fun w X β σ y w' X' β' σ' h=>by cases h;exact .v _
theorem Plain.iu{cs:List AV}(h:∀c∈cs,Plain c):Plain (.iu cs):=fun w X β σ y w' X' β' σ' hy=>by
 cases hy with
 |iu _ xs hn hr=>exact .iu cs xs hn fun i hi=>h _ (j9 hi) _ _ _ _ _ _ _ _ _ (hr i hi)
theorem Plain.agg{cs:List AV}(h:∀c∈cs,Plain c):Plain (.agg cs):=fun w X β σ y w' X' β' σ' hy=>by
 cases hy with
 |agg _ xs hn h1 hr=>exact .agg cs xs hn h1 fun i hi=>h _ (j9 hi) _ _ _ _ _ _ _ _ _ (hr i hi)
theorem Plain.t2(a b:Value):Plain (.iu [.v a,.v b]):=.iu fun c hc=>by
 simp only[aC,au,or_false]at hc
 rcases hc with rfl|rfl<;>exact .v _
theorem jg.plain{P:Program}{f:Nat}{args qh:List AV}{z:AV}{σ:aG}(h:Pure P f qh z)(hz:Plain z)(hf:FL σ args qh):jg P f args σ z:=by
 refine⟨h.N',fun X β w xs hX hs mF hr=>?_⟩
 have hl:=hf.len
 refine(h.go X w xs hX (by omega) (fun i hi=>hf.get i (by omega) w X β _ hs (hr i (by omega)))).mono ?_
 rintro e w' ⟨x,rfl,wN,eX,hold,Ar⟩
 exact⟨_,rfl,hz _ _ _ _ _ _ _ _ _ wN,eX,hold,Ar⟩
theorem bO.any{σ:aG}{v:AV}:bO σ v .any:=fun _ _ _ _ _ _=>.any _
theorem aR.pQ{P:Program}{N:Nat}{rd:Option Nat}{c:C}{K:e7}{env:Env}{σ σ':aG}(e:σ=σ')(h:aR P N rd c K env σ'):aR P N rd c K env σ:=e▸h
theorem aR.env{P:Program}{N:Nat}{rd:Option Nat}{c:C}{K:e7}{env dj:Env}{σ:aG}(e:env=dj)(h:aR P N rd c K dj σ):aR P N rd c K env σ:=e▸h
theorem zc(τ l:aG)(k:Nat):gone (τ++l) (τ.length+k)=τ++gone l k:=by
 rw[gone,fa _ _ (Nat.le_add_right _ _),wP]
end Go.Abs
namespace Go.Proofs.YtgopgjnfhkoomaaGreat
open Go.Abs
open Nat (reduceAdd reduceSub reduceLT reduceLeDiff reduceMul reduceEqDiff)
set_option maxHeartbeats 4000000
set_option maxRecDepth 100000
theorem BJ{α:Type}{cs:α->List AV}{k:Nat}(hk:∀a,(cs a).length=k)(l:List α):∀e,e<l.length->((l.map cs).getD e []).length=k:=fun e he=>by
 obtain⟨x,hx⟩:∃x,l[e]?=some x:=⟨_,ae he⟩
 rw[getD_map hx];exact hk x
theorem zd{f k:Nat}{r:AV}(nil:Pure Tryz.prog f [.v (.slice none 0 0)] r)(emp:∀a cap,Pure Tryz.prog f [.v (.slice (some a) 0 cap)] r):Pure Tryz.prog f [.sl k []] r:=by
 refine⟨nil.N',fun X w xs hX mF hr=>?_⟩
 match xs,mF with
 | [x],_=>
  have hx:=hr 0 (by simp)
  simp only[dF]at hx
  cases hx with
  |slnil=>exact nil.go X w _ hX rfl (fun i hi=>by obtain rfl:i=0:=(by simpa using hi);exact .v _)
  |k9 _ a cap=>exact(emp a cap).go X w _ hX rfl (fun i hi=>by obtain rfl:i=0:=(by simpa using hi);exact .v _)
  |sl _ _ b o cap x ep hk hc UA h1 wN=>exact(emp _ cap).go X w _ hX rfl (fun i hi=>by obtain rfl:i=0:=(by simpa using hi);exact .v _)
theorem PG(l:List Pt)(hl:l.length*24<=140737488355328):Pure Tryz.prog 202 [AO l] (AO l):=by
 have nil:Pure Tryz.prog 202 [.v (.slice none 0 0)] (AO []):=by
  refine jX Tryz.f202.eq_1 [5] [] ?_
  refine Au ?_;intros
  all_goals exact bO.g_
 have emp:∀a cap,Pure Tryz.prog 202 [.v (.slice (some a) 0 cap)] (AO []):=by
  intro a cap
  refine jX Tryz.f202.eq_1 [5] [] ?_
  refine Au ?_;intros
  all_goals exact bO.gZ (l:=[]) (cs:=Pt.cs) rfl rfl (by decide) (fun a c hc=>by simp at hc;rcases hc with rfl|rfl|rfl<;>simp) (fun a=>rfl)
 by_cases h0:l=[]
 ·subst h0
  exact zd nil emp
 ·refine jX Tryz.f202.eq_1 [5] [] ?_
  have iw:l.map Pt.cs≠[]:=by simpa using h0
  refine Au ?_;intros
  first
   |exact bO.gZ (cs:=Pt.cs) rfl rfl (by decide) (fun a c hc=>by simp at hc;rcases hc with rfl|rfl|rfl<;>simp) (fun a=>rfl)
   |(refine⟨⟨BJ (cs:=Pt.cs) (fun a=>rfl) l,by omega⟩,?_⟩
     exact Au trivial
     exact bO.gZ (cs:=Pt.cs) rfl rfl (by decide) (fun a c hc=>by simp at hc;rcases hc with rfl|rfl|rfl<;>simp) (fun a=>rfl))
theorem MD(l:List Int)(hl:l.length*8<=140737488355328):Pure Tryz.prog 203 [l9 l] (l9 l):=by
 have nil:Pure Tryz.prog 203 [.v (.slice none 0 0)] (l9 []):=by
  refine jX Tryz.f203.eq_1 [5] [] ?_
  refine Au ?_;intros
  all_goals exact bO.g_
 have emp:∀a cap,Pure Tryz.prog 203 [.v (.slice (some a) 0 cap)] (l9 []):=by
  intro a cap
  refine jX Tryz.f203.eq_1 [5] [] ?_
  refine Au ?_;intros
  all_goals exact bO.gZ (l:=[]) (cs:=(fun z:Int=>[n z])) rfl rfl (by decide) (fun a c hc=>by simp at hc;subst hc;simp) (fun a=>rfl)
 by_cases h0:l=[]
 ·subst h0
  exact zd nil emp
 ·refine jX Tryz.f203.eq_1 [5] [] ?_
  have iw:l.map (fun z:Int=>[n z])≠[]:=by simpa using h0
  refine Au ?_;intros
  first
   |exact bO.gZ (cs:=(fun z:Int=>[n z])) rfl rfl (by decide) (fun a c hc=>by simp at hc;subst hc;simp) (fun a=>rfl)
   |(refine⟨⟨BJ (cs:=(fun z:Int=>[n z])) (fun a=>rfl) l,by omega⟩,?_⟩
     exact Au trivial
     exact bO.gZ (cs:=(fun z:Int=>[n z])) rfl rfl (by decide) (fun a c hc=>by simp at hc;subst hc;simp) (fun a=>rfl))
theorem xX(l:List Sp)(hl:l.length*16<=140737488355328):Pure Tryz.prog 188 [ec l] (ec l):=by
 have nil:Pure Tryz.prog 188 [.v (.slice none 0 0)] (ec []):=by
  refine jX Tryz.f188.eq_1 [5] [] ?_
  refine Au ?_;intros
  all_goals exact bO.g_
 have emp:∀a cap,Pure Tryz.prog 188 [.v (.slice (some a) 0 cap)] (ec []):=by
  intro a cap
  refine jX Tryz.f188.eq_1 [5] [] ?_
  refine Au ?_;intros
  all_goals exact bO.gZ (l:=[]) (cs:=Sp.cs) rfl rfl (by decide) (fun a c hc=>by simp at hc;rcases hc with rfl|rfl<;>simp) (fun a=>rfl)
 by_cases h0:l=[]
 ·subst h0
  exact zd nil emp
 ·refine jX Tryz.f188.eq_1 [5] [] ?_
  have iw:l.map Sp.cs≠[]:=by simpa using h0
  refine Au ?_;intros
  first
   |exact bO.gZ (cs:=Sp.cs) rfl rfl (by decide) (fun a c hc=>by simp at hc;rcases hc with rfl|rfl<;>simp) (fun a=>rfl)
   |(refine⟨⟨BJ (cs:=Sp.cs) (fun a=>rfl) l,by omega⟩,?_⟩
     exact Au trivial
     exact bO.gZ (cs:=Sp.cs) rfl rfl (by decide) (fun a c hc=>by simp at hc;rcases hc with rfl|rfl<;>simp) (fun a=>rfl))
theorem PH(l:List Mk)(hl:l.length*24<=140737488355328):Pure Tryz.prog 204 [mb l] (mb l):=by
 have nil:Pure Tryz.prog 204 [.v (.slice none 0 0)] (mb []):=by
  refine jX Tryz.f204.eq_1 [5] [] ?_
  refine Au ?_;intros
  all_goals exact bO.g_
 have emp:∀a cap,Pure Tryz.prog 204 [.v (.slice (some a) 0 cap)] (mb []):=by
  intro a cap
  refine jX Tryz.f204.eq_1 [5] [] ?_
  refine Au ?_;intros
  all_goals exact bO.gZ (l:=[]) (cs:=Mk.cs) rfl rfl (by decide) (fun a c hc=>by simp at hc;rcases hc with rfl|rfl|rfl<;>simp) (fun a=>rfl)
 by_cases h0:l=[]
 ·subst h0
  exact zd nil emp
 ·refine jX Tryz.f204.eq_1 [5] [] ?_
  have iw:l.map Mk.cs≠[]:=by simpa using h0
  refine Au ?_;intros
  first
   |exact bO.gZ (cs:=Mk.cs) rfl rfl (by decide) (fun a c hc=>by simp at hc;rcases hc with rfl|rfl|rfl<;>simp) (fun a=>rfl)
   |(refine⟨⟨BJ (cs:=Mk.cs) (fun a=>rfl) l,by omega⟩,?_⟩
     exact Au trivial
     exact bO.gZ (cs:=Mk.cs) rfl rfl (by decide) (fun a c hc=>by simp at hc;rcases hc with rfl|rfl|rfl<;>simp) (fun a=>rfl))
theorem PI(l:List l4)(hl:l.length*24<=140737488355328):Pure Tryz.prog 141 [Rl l] (Rl l):=by
 have nil:Pure Tryz.prog 141 [.v (.slice none 0 0)] (Rl []):=by
  refine jX Tryz.f141.eq_1 [5] [] ?_
  refine Au ?_;intros
  all_goals exact bO.g_
 have emp:∀a cap,Pure Tryz.prog 141 [.v (.slice (some a) 0 cap)] (Rl []):=by
  intro a cap
  refine jX Tryz.f141.eq_1 [5] [] ?_
  refine Au ?_;intros
  all_goals exact bO.gZ (l:=[]) (cs:=l4.cs) rfl rfl (by decide) (fun a c hc=>by simp at hc;rcases hc with rfl|rfl|rfl<;>simp) (fun a=>rfl)
 by_cases h0:l=[]
 ·subst h0
  exact zd nil emp
 ·refine jX Tryz.f141.eq_1 [5] [] ?_
  have iw:l.map l4.cs≠[]:=by simpa using h0
  refine Au ?_;intros
  first
   |exact bO.gZ (cs:=l4.cs) rfl rfl (by decide) (fun a c hc=>by simp at hc;rcases hc with rfl|rfl|rfl<;>simp) (fun a=>rfl)
   |(refine⟨⟨BJ (cs:=l4.cs) (fun a=>rfl) l,by omega⟩,?_⟩
     exact Au trivial
     exact bO.gZ (cs:=l4.cs) rfl rfl (by decide) (fun a c hc=>by simp at hc;rcases hc with rfl|rfl|rfl<;>simp) (fun a=>rfl))
theorem PJ(l:List Mk)(hl:l.length*24<=140737488355328):Pure Tryz.prog 143 [mb l] (mb l):=by
 have nil:Pure Tryz.prog 143 [.v (.slice none 0 0)] (mb []):=by
  refine jX Tryz.f143.eq_1 [5] [] ?_
  refine Au ?_;intros
  all_goals exact bO.g_
 have emp:∀a cap,Pure Tryz.prog 143 [.v (.slice (some a) 0 cap)] (mb []):=by
  intro a cap
  refine jX Tryz.f143.eq_1 [5] [] ?_
  refine Au ?_;intros
  all_goals exact bO.gZ (l:=[]) (cs:=Mk.cs) rfl rfl (by decide) (fun a c hc=>by simp at hc;rcases hc with rfl|rfl|rfl<;>simp) (fun a=>rfl)
 by_cases h0:l=[]
 ·subst h0
  exact zd nil emp
 ·refine jX Tryz.f143.eq_1 [5] [] ?_
  have iw:l.map Mk.cs≠[]:=by simpa using h0
  refine Au ?_;intros
  first
   |exact bO.gZ (cs:=Mk.cs) rfl rfl (by decide) (fun a c hc=>by simp at hc;rcases hc with rfl|rfl|rfl<;>simp) (fun a=>rfl)
   |(refine⟨⟨BJ (cs:=Mk.cs) (fun a=>rfl) l,by omega⟩,?_⟩
     exact Au trivial
     exact bO.gZ (cs:=Mk.cs) rfl rfl (by decide) (fun a c hc=>by simp at hc;rcases hc with rfl|rfl|rfl<;>simp) (fun a=>rfl))
theorem PK(l:List Nm)(hl:l.length*16<=140737488355328):Pure Tryz.prog 144 [Rm l] (Rm l):=by
 have nil:Pure Tryz.prog 144 [.v (.slice none 0 0)] (Rm []):=by
  refine jX Tryz.f144.eq_1 [5] [] ?_
  refine Au ?_;intros
  all_goals exact bO.g_
 have emp:∀a cap,Pure Tryz.prog 144 [.v (.slice (some a) 0 cap)] (Rm []):=by
  intro a cap
  refine jX Tryz.f144.eq_1 [5] [] ?_
  refine Au ?_;intros
  all_goals exact bO.gZ (l:=[]) (cs:=Nm.cs) rfl rfl (by decide) (fun a c hc=>by simp at hc;rcases hc with rfl|rfl<;>simp) (fun a=>rfl)
 by_cases h0:l=[]
 ·subst h0
  exact zd nil emp
 ·refine jX Tryz.f144.eq_1 [5] [] ?_
  have iw:l.map Nm.cs≠[]:=by simpa using h0
  refine Au ?_;intros
  first
   |exact bO.gZ (cs:=Nm.cs) rfl rfl (by decide) (fun a c hc=>by simp at hc;rcases hc with rfl|rfl<;>simp) (fun a=>rfl)
   |(refine⟨⟨BJ (cs:=Nm.cs) (fun a=>rfl) l,by omega⟩,?_⟩
     exact Au trivial
     exact bO.gZ (cs:=Nm.cs) rfl rfl (by decide) (fun a c hc=>by simp at hc;rcases hc with rfl|rfl<;>simp) (fun a=>rfl))
def PL(s:fT):Prop:=s.trace.length*24<=140737488355328/\s.eu.length*8<=140737488355328/\s.rates.length*16<=140737488355328/\s.stops.length*24<=140737488355328
theorem gF(s:fT)(hs:PL s):Pure Tryz.prog 142 [.agg s.cs] (.agg s.cs):=by
 refine et 22 (jo [jw 1 (.box true 63 18 (.t 0)),jw 2 (.alloc 63 18 Tb)] [1,2] (.seq (.draw [jf 3 10 1,jl 4 3,jy 5 202 [4],jf 6 11 1,jl 7 6,jy 8 203 [7],jf 9 10 1] [js 1 9 5,jf 10 11 1,js 1 10 8] [1,2]) (.seq (.draw [jf 11 12 1,jf 12 0 11,jl 13 12,jy 14 188 [13],jf 15 12 1,jf 16 1 15,jl 17 16,jy 18 204 [17],jw 19 (.build [.slice none 0 0,.slice none 0 0] [(0,1,(.t 14)),(1,1,(.t 18))]),jf 20 12 1] [js 2 20 19] [1,2]) (jo [jk 21 18 1,js 18 2 21] [2] .ret)))) [.c 2 (some 18)] Tryz.call142 Tryz.func142 ?_
 obtain⟨h1,h2,h3,h4⟩:=hs
 have hd:List.drop 1 (List.drop 11 s.cs)=[ec s.rates,mb s.stops,n s.eC.cS,n s.eC.zero.lo,n s.eC.zero.hi,n s.eC.kc]:=rfl
 refine Az @hd (aa (PG s.trace h1) (aa (MD s.eu h2) (aa (xX s.rates h3) (PH s.stops h4)))) ?_;intros
 exact bO.eq rfl (show bC (.agg s.cs)from fT.pa s)
def V9(f:dm):Prop:=PL f.c8/\f.marks.length*24<=140737488355328/\f.names.length*16<=140737488355328
theorem vY(f:dm)(hf:V9 f):Pure Tryz.prog 68 [.agg f.cs] (.agg f.cs):=by
 refine et 16 (jo [jw 1 (.box true 66 24 (.t 0)),jw 2 (.alloc 66 24 z24)] [1,2] (.seq (.draw [jf 3 4 1,jk 4 18 3,jy 5 142 [4],jf 6 22 1,jl 7 6,jy 8 143 [7],jf 9 23 1,jl 10 9,jy 11 144 [10],jf 12 4 1] [js 18 12 5,jf 13 22 1,js 1 13 8,jf 14 23 1,js 1 14 11] [1,2]) (jo [jk 15 24 1,js 24 2 15] [2] .ret))) [.c 2 (some 24)] Tryz.call68 Tryz.func68 ?_
 obtain⟨h1,h2,h3⟩:=hf
 refine Ay (aa (gF f.c8 h1) (aa (PJ f.marks h2) (PK f.names h3))) ?_;intros
 exact(bO.pure (dm.pa f):bO _ (.agg f.cs) (.agg f.cs))
inductive uI(σ:aG)(T k:Nat)(rows:List (List AV)):AV->aG->Prop
 |mk(ν:aG){r:AV}{σ':aG}(h:r=.own σ.length 0 rows.length)(h':σ'=σ++some [⟨T,k,rows,none⟩]::ν):uI σ T k rows r σ'
theorem Tx{f k:Nat}{σ:aG}{R:AV->aG->Prop}(nil:eY Tryz.prog f [.v (.slice none 0 0)] σ R)(emp:∀a cap,eY Tryz.prog f [.v (.slice (some a) 0 cap)] σ R):eY Tryz.prog f [.sl k []] σ R:=by
 refine⟨nil.N',fun X β w xs hX hs mF hr=>?_⟩
 match xs,mF with
 | [x],_=>
  have hx:=hr 0 (by simp)
  simp only[dF]at hx
  cases hx with
  |slnil=>exact nil.go X β w _ hX hs rfl (fun i hi=>by obtain rfl:i=0:=(by simpa using hi);exact .v _)
  |k9 _ a cap=>exact(emp a cap).go X β w _ hX hs rfl (fun i hi=>by obtain rfl:i=0:=(by simpa using hi);exact .v _)
  |sl _ _ b o cap x ep hk hc UA h1 wN=>exact(emp _ cap).go X β w _ hX hs rfl (fun i hi=>by obtain rfl:i=0:=(by simpa using hi);exact .v _)
theorem ME(l:List j3)(hl:l.length*48<=140737488355328)(σ:aG):eY Tryz.prog 140 [KY l] σ (uI σ 118 4 (l.map j3.cs)):=by
 have nil:eY Tryz.prog 140 [.v (.slice none 0 0)] σ (uI σ 118 4 []):=by
  refine Fi Tryz.f140.eq_1 [5] [] ?_
  refine aR.uu ?_;simp only[zN,zS,zU,dC,ex,bu,bN,elems,cells,scalar,dH,bL,aX,aU,bJ,bI,Nat.reduceBEq,reduceAdd,reduceSub,reduceLT,reduceLeDiff,reduceMul,reduceEqDiff,reduceIte]
  refine aR.uu ?_;simp only[zN,zS,zU,dC,ex,bu,bN,elems,cells,scalar,dH,bL,aX,aU,bJ,bI,Nat.reduceBEq,reduceAdd,reduceSub,reduceLT,reduceLeDiff,reduceMul,reduceEqDiff,reduceIte]
  refine aR.uu ?_
  simp only[dC]
  refine⟨fun _=>?_,fun h=>by cases h⟩
  refine aR.uu ?_;simp only[zN,zS,zU,dC,ex,bu,bN,elems,cells,scalar,dH,bL,aX,aU,bJ,bI,Nat.reduceBEq,reduceAdd,reduceSub,reduceLT,reduceLeDiff,reduceMul,reduceEqDiff,reduceIte]
  refine aR.oC 118 4 2 rfl ?_
  refine aR.uu ?_;simp only[zN,zS,zU,dC,ex,bu,bN,elems,cells,scalar,dH,bL,aX,aU,bJ,bI,Nat.reduceBEq,reduceAdd,reduceSub,reduceLT,reduceLeDiff,reduceMul,reduceEqDiff,reduceIte]
  exact .mk [] rfl rfl
 have emp:∀a cap,eY Tryz.prog 140 [.v (.slice (some a) 0 cap)] σ (uI σ 118 4 []):=by
  intro a cap
  refine Fi Tryz.f140.eq_1 [5] [] ?_
  refine Au ?_;intros
  all_goals exact .mk [] rfl rfl
 by_cases h0:l=[]
 ·subst h0
  exact Tx nil emp
 ·refine Fi Tryz.f140.eq_1 [5] [] ?_
  have iw:l.map j3.cs≠[]:=by simpa using h0
  refine Au ?_;intros
  exact .mk [] (by simp) rfl
theorem ny(l:List j3)(hl:l.length*48<=140737488355328)(hh:∀s∈l,s.cz.length*24<=140737488355328)(σ:aG):eY Tryz.prog 67 [KY l] σ (uI σ 118 4 (l.map j3.cs)):=by
 refine Fi Tryz.f67.eq_1 [] [.l [3,8,9,10]] ?_
 refine Au ?_;intros
 refine .inr (.inl ⟨_,_,_,_,rfl,fun _=>⟨ME l hl σ,?_⟩,fun h=>by cases h⟩)
 rintro r σ' ⟨ν,rfl,rfl⟩
 refine aH ?_
 refine adL ?_
 obtain⟨G,hG⟩:∃G,G=List.length σ:=⟨_,rfl⟩
 rw[<-hG]
 have hA:∀(o:Ob) (μ:aG),aG.at (σ++some [o]::μ) G 0=some o:=fun o μ=>by rw[hG,dV];rfl
 have hB:∀(o o':Ob) (μ:aG),aG.cZ (σ++some [o]::μ) G 0 o'=σ++some [o']::μ:=fun o o' μ=>by rw[hG];simp[aG.cZ]
 have Yf:List.length σ=G:=hG.symm
 have hC:∀(f:Nat) (o:Ob) (μ:aG),aG.at (σ++some [o]::μ) (G+(f+1)) 0=aG.at μ f 0:=fun f o μ=>by rw[hG,dR];rfl
 have hD:∀(f:Nat) (o o':Ob) (μ:aG),aG.cZ (σ++some [o]::μ) (G+(f+1)) 0 o'=σ++some [o]::aG.cZ μ f 0 o':=fun f o o' μ=>by rw[hG,fC];simp[aG.cZ];cases μ[f]? with
  |none=>rfl
  |some x=>cases x<;>rfl
 refine Ax (aa @hA @hB) ?_;intros
 refine aR.lr (α:={x:Nat×aG//x.1<=l.length}) [10] (fun x=>[(10,n x.1.1)]) (fun x=>σ++some [⟨118,4,l.map j3.cs,none⟩]::x.1.2) (fun x=>l.length-x.1.1) ⟨(0,ν),by simp⟩ ?_
 ·rintro⟨⟨i,μ⟩,hi⟩
  simp only at hi
  by_cases bP:i<l.length
  ·have hs:(l.map j3.cs).getD i []=j3.cs (l.getD i default):=row default bP
   have nV:(l.map j3.cs).set i (j3.cs (l.getD i default))=l.map j3.cs:=by
    rw[ab,ae bP,bV,<-fU,gK]
   have h3:=PI (l.getD i default).cz (hh _ (ao (fh default bP)))
   generalize l.getD i default=s at hs nV h3
   obtain⟨s1,s2,s3,s4⟩:=s
   simp only[j3.cs]at hs nV h3
   refine Az (aa @hA (aa @hB (aa @hC (aa @hD (aa @Yf (aa @hs @nV)))))) @h3 ?_;intros
   exact⟨⟨(i+1,_),bP⟩,by simp,rfl,by simp only;omega⟩
  ·obtain rfl:i=l.length:=by omega
   refine Au ?_;intros
   exact .mk μ (by simp[hG]) rfl
end Go.Proofs.YtgopgjnfhkoomaaGreat
namespace Go.Abs
open Go
structure gJ(P:Program)(t:TypeId)(α:Type)(row:α->List AV)(Pr:α->Prop):Prop where
 go:∀{H:Type} (enc:TypeId×Value->H) (w:World) (base:Nat) (sp:Nat->Bool) (held:Bool) (fuel:Nat) (cs:List Value) (x:DataW H×List MemPlace),
  DataW.trod enc P w base sp held fuel t cs=some x->
  ∃a:α,Pr a/\cs.length=(row a).length/\∀i,i<cs.length->(cs.getD i undef).oneCell'=true/\RV w (fun _=>False) sJ [] ((row a).getD i .any) (cs.getD i undef)
variable {P:Program}
theorem gJ.to{t:TypeId}{α β:Type}{row:α->List AV}{V_:β->List AV}{Pr:α->Prop}{Pr':β->Prop}(h:gJ P t α row Pr)(f:α->β)(hr:∀a,V_ (f a)=row a)(hp:∀a,Pr a->Pr' (f a)):gJ P t β V_ Pr':=
 ⟨fun enc w base sp held fuel cs x hx=>
  let⟨a,h1,h2,h3⟩:=h.go enc w base sp held fuel cs x hx
  ⟨f a,hp a h1,by rw[hr];exact h2,fun i hi=>by rw[hr];exact h3 i hi⟩⟩
theorem JD{t:TypeId}{k:IntKind}(ht:P.underlying t=some (.int k)):gJ P t Int (fun z=>[.v (.int k z)]) (fun z=>(Lit.int k z).wf=true):=by
 constructor
 intro H enc w base sp held fuel cs x hx
 cases fuel with
 |zero=>simp[DataW.trod]at hx
 |succ m=>
  unfold DataW.trod at hx
  rw[ht]at hx
  split at hx<;>try(simp_all;done)
  rename_i k0 k' z heq
  simp only[ah,TypeDesc.int.injEq]at heq
  split at hx
  ·rename_i hk
   obtain⟨rfl,hw⟩:=hk
   subst heq
   refine⟨z,hw,rfl,fun i hi=>?_⟩
   obtain rfl:i=0:=by simpa using hi
   exact⟨rfl,.v _⟩
  ·cases hx
theorem kP{t e:TypeId}{k:Nat}{α:Type}{row:α->List AV}{Pr:α->Prop}(ht:P.underlying t=some (.slice e))(hk:P.cellsOf e=k)(Q1:k≠0)(h:gJ P e α row Pr)(hl:∀a,(row a).length=k):gJ P t (List α) (fun l=>[.sl k (l.map row)]) (fun l=>l.length<9223372036854775808/\∀a∈l,Pr a):=by
 constructor
 intro H enc w base sp held fuel cs x hx
 rcases DataW.trod_slice ht hx with⟨rfl,_⟩|⟨a,len,cap,elems,rest,m,rfl,rfl,rfl,hb,hlc,ep,hlen,oy,V',hns⟩
 ·refine⟨[],⟨by simp,fun a ha=>absurd ha (au)⟩,rfl,fun i hi=>?_⟩
  obtain rfl:i=0:=by simpa using hi
  exact⟨rfl,.slnil k⟩
 ·have sP:len<9223372036854775808:=by unfold maxLen at ep;omega
  have each:∀i,i<len->∃(b:α) (c1:List Value),Pr b/\c1.length=k/\w.cells? base (a.add (i*k)) k=some c1/\∀j,j<k->(c1.getD j undef).oneCell'=true/\RV w (fun _=>False) sJ [] ((row b).getD j .any) (c1.getD j undef):=by
   intro i hi
   have h1:=oy i hi
   rw[hk,ae (by omega)]at h1
   simp only[fk]at h1
   obtain⟨c1,IQ,hy⟩:=h1
   obtain⟨b,hp,hlb,hr⟩:=h.go enc w base sp held m c1 _ hy
   have xM:=(World.cells?_some IQ).2.1
   exact⟨b,c1,hp,xM,IQ,fun j hj=>hr j (by omega)⟩
  by_cases h0:len=0
  ·subst h0
   refine⟨[],⟨by simp,fun a ha=>absurd ha (au)⟩,rfl,fun i hi=>?_⟩
   obtain rfl:i=0:=by simpa using hi
   exact⟨rfl,.k9 k a cap⟩
  ·
   have Rr:a.spot=none:=by
    obtain⟨b,c1,_,xM,IQ,_⟩:=each 0 (by omega)
    have h2:=(World.cells?_some IQ).2.2 0 (by omega)
    rw[ae (by omega)]at h2
    have e:(a.add (0*k)).add 0=a:=by simp[Addr.add]
    rw[e]at h2
    unfold World.cell? at h2
    split at h2
    ·split at h2
     ·cases h2
     ·rename_i hs;simpa using hs
    ·cases h2
   obtain⟨bl,off,spot⟩:=a
   simp only at Rr
   subst Rr
   have ZP:∀i j,((⟨bl,off,none⟩:Addr).add (i*k)).add j=⟨bl,off+i*k+j,none⟩:=by
    intro i j
    simp only[Addr.add]
    split<;>split<;>simp_all<;>omega
   let B:Nat->α:=fun i=>if hi:i<len then Classical.choose (each i hi)else Classical.choose (each 0 (by omega))
   have hB:∀i,i<len->∃c1:List Value,Pr (B i)/\c1.length=k/\w.cells? base ((⟨bl,off,none⟩:Addr).add (i*k)) k=some c1/\∀j,j<k->(c1.getD j undef).oneCell'=true/\RV w (fun _=>False) sJ [] ((row (B i)).getD j .any) (c1.getD j undef):=by
    intro i hi
    have:=Classical.choose_spec (each i hi)
    simp only[B,hi,dif_pos]
    exact this
   have eN:∀i j,i<len->j<k->w.cell? ⟨bl,off+i*k+j,none⟩=some ((w.cell? ⟨bl,off+i*k+j,none⟩).getD undef)/\((w.cell? ⟨bl,off+i*k+j,none⟩).getD undef).oneCell'=true/\
    RV w (fun _=>False) sJ [] ((row (B i)).getD j .any) ((w.cell? ⟨bl,off+i*k+j,none⟩).getD undef):=by
    intro i j hi hj
    obtain⟨c1,_,xM,IQ,hr⟩:=hB i hi
    have h2:=(World.cells?_some IQ).2.2 j hj
    rw[ZP,ae (by omega)]at h2
    rw[h2]
    have h3:=hr j hj
    rw[ab,ae (show j<c1.length by omega)]at h3
    exact⟨rfl,h3⟩
   refine⟨(List.range len).map B,⟨by simpa using sP,fun b hb=>?_⟩,rfl,fun i hi=>?_⟩
   ·obtain⟨i,hi,rfl⟩:=aO.1 hb
    obtain⟨c1,hp,_⟩:=hB i (bc.1 hi)
    exact hp
   ·obtain rfl:i=0:=by simpa using hi
    refine⟨rfl,?_⟩
    have kF:∀e,e<len->(((List.range len).map B).map row).getD e []=row (B e):=fun e he=>by simp[ab,he]
    have UF:(((List.range len).map B).map row).length=len:=by simp
    have:=RV.sl (w:=w) (X:=fun _=>False) (β:=sJ) (σ:=[]) k (((List.range len).map B).map row) bl off cap (fun i j=>(w.cell? ⟨bl,off+i*k+j,none⟩).getD undef) (by rw[UF];exact hlc)
     (fun e he=>by rw[UF]at he;rw[kF e he];exact hl _) (fun e he j hj=>by rw[UF]at he;exact(eN e j he hj).1) (fun e j he hj hx=>hx)
     (fun e j he hj=>by rw[UF]at he;exact(eN e j he hj).2.1) (fun e j he hj=>by rw[UF]at he;rw[kF e he];exact(eN e j he hj).2.2)
    rw[UF]at this
    exact this
structure C7(P:Program)(fs:List Field)(off:Nat)(α:Type)(row:α->List AV)(Pr:α->Prop):Prop where
 go:∀{H:Type} (enc:TypeId×Value->H) (w:World) (base:Nat) (sp:Nat->Bool) (held:Bool) (fuel:Nat) (cs:List Value) (xs:List (DataW H×List MemPlace)),
  (fs.mapM fun f=>DataW.trod enc P w base sp held fuel f.type ((cs.drop f.offset).take (P.cellsOf f.type)))=some xs->
  ∃a:α,Pr a/\∀i,i<(row a).length->off+i<cs.length/\(cs.getD (off+i) undef).oneCell'=true/\RV w (fun _=>False) sJ [] ((row a).getD i .any) (cs.getD (off+i) undef)
theorem fH(off:Nat):C7 P [] off Unit (fun _=>[]) (fun _=>True):=
 ⟨fun enc w base sp held fuel cs xs _=>⟨(),trivial,fun i hi=>absurd hi (aN _)⟩⟩
theorem bn{f:Field}{fs:List Field}{off k:Nat}{α β:Type}{row:α->List AV}{rows:β->List AV}{Pr:α->Prop}{Prs:β->Prop}(ho:f.offset=off)(hk:P.cellsOf f.type=k)(h:gJ P f.type α row Pr)(hl:∀a,(row a).length=k)(hs:C7 P fs (off+k) β rows Prs):C7 P (f::fs) off (α×β) (fun p=>row p.1++rows p.2) (fun p=>Pr p.1/\Prs p.2):=by
 constructor
 intro H enc w base sp held fuel cs xs hx
 rw[List.mapM_cons]at hx
 simp only[Option.bind_eq_bind,fk]at hx
 obtain⟨y,hy,ys,Uw,_⟩:=hx
 rw[ho,hk]at hy
 obtain⟨a,hp,hla,hr⟩:=h.go enc w base sp held fuel _ _ hy
 obtain⟨b,hq,wN⟩:=hs.go enc w base sp held fuel cs ys Uw
 rw[hl]at hla
 have hlen:off+k<=cs.length\/k=0:=by simp at hla;omega
 refine⟨(a,b),⟨hp,hq⟩,fun i hi=>?_⟩
 by_cases h1:i<k
 ·have km:i<((cs.drop off).take k).length:=by omega
  obtain⟨g1,g2⟩:=hr i km
  have e:((cs.drop off).take k).getD i undef=cs.getD (off+i) undef:=by
   simp only[ab,dk,h1,if_true,ez]
  rw[e]at g1 g2
  refine⟨by omega,g1,?_⟩
  rw[kG,if_pos (by rw[hl];exact h1)]
  exact g2
 ·have:=wN (i-k) (by simp[hl]at hi;omega)
  rw[show off+k+(i-k)=off+i by omega]at this
  refine⟨this.1,this.2.1,?_⟩
  rw[kG,if_neg (by rw[hl];omega),hl]
  exact this.2.2
theorem eD{t:TypeId}{fs:Array Field}{k:Nat}{α:Type}{row:α->List AV}{Pr:α->Prop}(ht:P.underlying t=some (.struct fs))(hk:P.cellsOf t=k)(hl:∀a,(row a).length=k)(h:C7 P fs.toList 0 α row Pr):gJ P t α row Pr:=by
 constructor
 intro H enc w base sp held fuel cs x hx
 cases fuel with
 |zero=>simp[DataW.trod]at hx
 |succ m=>
  unfold DataW.trod at hx
  rw[ht]at hx
  have PM:(if cs.length=P.cellsOf t then(fs.toList.mapM fun f=>DataW.trod enc P w base sp held m f.type ((cs.drop f.offset).take (P.cellsOf f.type))).map (fun xs=>((DataW.agg (xs.map (·.1)),xs.flatMap (·.2)):DataW H×List MemPlace))else none)=some x:=by
   split at hx<;>first|(simp at*;done)|skip
   all_goals(try(rename_i heq;cases heq))
   exact hx
  split at PM
  case isFalse=>cases PM
  rename_i hlen
  rw[aL]at PM
  obtain⟨xs,wL,_⟩:=PM
  obtain⟨a,hp,hr⟩:=h.go enc w base sp held m cs xs wL
  refine⟨a,hp,by rw[hl,hlen,hk],fun i hi=>?_⟩
  have:=hr i (by rw[hl,<-hk,<-hlen];exact hi)
  rw[br]at this
  exact this.2
theorem gJ.one{t:TypeId}{α:Type}{av:α->AV}{Pr:α->Prop}(h:gJ P t α (fun a=>[av a]) Pr){H:Type}{enc:TypeId×Value->H}{w:World}{base:Nat}{sp:Nat->Bool}{held:Bool}{v:Value}{d:DataW H}{ps:List MemPlace}(hv:v.oneCell'=true)(hx:DataW.Trod enc P w base sp held t v d ps):∃a,Pr a/\RV w (fun _=>False) sJ [] (av a) v:=by
 obtain⟨fuel,hx⟩:=hx
 obtain⟨a,hp,hl,hr⟩:=h.go enc w base sp held fuel _ _ hx
 have e:v.cells.toList=[v]:=by cases v<;>first|rfl|simp[Value.oneCell']at hv
 rw[e]at hr
 exact⟨a,hp,(hr 0 (by simp)).2⟩
theorem gJ.agg{t:TypeId}{α:Type}{row:α->List AV}{Pr:α->Prop}(h:gJ P t α row Pr){H:Type}{enc:TypeId×Value->H}{w:World}{base:Nat}{sp:Nat->Bool}{held:Bool}{cs:Array Value}{d:DataW H}{ps:List MemPlace}(hx:DataW.Trod enc P w base sp held t (.agg cs) d ps):∃a,Pr a/\RV w (fun _=>False) sJ [] (.agg (row a)) (.agg cs):=by
 obtain⟨fuel,hx⟩:=hx
 obtain⟨a,hp,hl,hr⟩:=h.go enc w base sp held fuel _ _ hx
 have e:(Value.agg cs).cells.toList=cs.toList:=rfl
 rw[e]at hl hr
 refine⟨a,hp,.agg _ _ (by simpa using hl) (fun i hi=>?_) fun i hi=>?_⟩
 ·have:=(hr i (by rw[hl];exact hi)).1
  simpa[ab,af]using this
 ·have:=(hr i (by rw[hl];exact hi)).2
  simpa[ab,af]using this
end Go.Abs
namespace Go.Proofs.YtgopgjnfhkoomaaGreat
open Go.Abs
open Nat (reduceAdd reduceSub reduceLT reduceLeDiff reduceMul reduceEqDiff)
set_option maxHeartbeats 4000000
set_option maxRecDepth 100000
theorem wc(f:Nat)(dZ:List AV)(ep:∀c∈dZ,bC c)(q:Mk->Bool)(l:List Mk)(hl:l.length<9223372036854775808)(hq:∀x∈l,Pure Tryz.prog f ([.agg (Mk.cs x)]++dZ) (bl (q x))):Pure Tryz.prog 212 [mb l,.fn (.func f) [] dZ] (n (fj q 0 l)):=by
 refine jX Tryz.f212.eq_1 [] [.l [0,1,7,8]] ?_
 refine Au ?_;intros
 refine aR.li 8 l.length (fun i=>fj q i (l.drop i)=fj q 0 l) (by simp) ?_
 ·intro i hi hI
  by_cases bP:i<l.length
  ·obtain⟨x,hx⟩:∃x,l[i]?=some x:=⟨_,ae bP⟩
   have hc:=hq x (ao hx)
   rw[drop_cons hx,fj]at hI
   refine Ax (Kf hx) ?_;intros
   refine .inl ⟨_,_,_,_,rfl,fun _=>.of ?_ (hc),?_⟩
   ·intro a ha
    simp only[aK,aD,aC]at ha
    rcases ha with rfl|ha
    ·simp
    ·exact ep a ha
   refine aH ?_
   (refine Au ?_ (CM ?_)<;>intros)
   ·rename_i h
    rw[h]at hI
    simp only[if_true]at hI
    rw[<-hI]
    exact Fq
   ·rename_i h
    rw[h]at hI
    exact⟨⟨i+1,bP,by simpa using hI⟩,by simp,by simp only;omega⟩
  ·obtain rfl:i=l.length:=by omega
   rw[c_,fj]at hI
   refine Au ?_;intros
   rw[<-hI]
   exact Fq
theorem E8(d:List Sp×List Mk)(m:Mk)(hd:d.1.length<9223372036854775808):Pure Tryz.prog 214 [.agg [ec d.1,mb d.2],.agg m.cs] (bl (decide (inr m.en 0 d.1.length/\ke m.bD 0 400))):=by
 refine jX Tryz.f214.eq_1 [] [] ?_
 have h1:=rm m.en 0 d.1.length
 have h2:=GA m.bD 0 400
 have hD:decide (inr m.en 0 d.1.length/\ke m.bD 0 400)=(decide (inr m.en 0 d.1.length)&&decide (ke m.bD 0 400)):=by rw[cV];simp
 rw[hD]
 generalize decide (inr m.en 0 d.1.length)=x1 at h1
 generalize decide (ke m.bD 0 400)=x2 at h2
 refine Ay (aa @h1 @h2) ?_;intros
 all_goals exact bO.eq (congrArg bl (by cases x1<;>cases x2<;>rfl)) (by simp)
theorem uS(d:List Sp×List Mk)(m:Mk)(hd:d.1.length<9223372036854775808):Pure Tryz.prog 213 ([.agg m.cs]++[.bZ [ec d.1,mb d.2] 0]) (bl (!decide (inr m.en 0 d.1.length/\ke m.bD 0 400))):=by
 refine jX Tryz.f213.eq_1 [] [] ?_
 have h1:=E8 d m hd
 generalize decide (inr m.en 0 d.1.length/\ke m.bD 0 400)=x1 at h1
 refine Ay @h1 ?_;intros
 all_goals exact Fq
theorem xH(d:List Sp×List Mk)(l:List Mk)(hd:d.1.length<9223372036854775808/\d.2.length<9223372036854775808)(hl:l.length<=64)(ok:gV d.1 d.2)(hm:∀m∈l,inr m.en 0 d.1.length/\ke m.bD 0 400):Pure Tryz.prog 148 [.agg [ec d.1,mb d.2],mb l] (.iu [n 0,n 0]):=by
 refine jX Tryz.f148.eq_1 [] [] ?_
 have h1:=kM d.1 d.2 hd.1 hd.2
 rw[if_pos ok]at h1
 have h2:=wc 213 [.bZ [ec d.1,mb d.2] 0] (fun c hc=>by
  simp only[bp]at hc
  subst hc
  exact bC.bZ (fun c hc=>by simp at hc;rcases hc with rfl|rfl<;>simp)) (fun m=>!decide (inr m.en 0 d.1.length/\ke m.bD 0 400)) l (by omega) (fun m _=>uS d m hd.1)
 have h3:fj (fun m=>!decide (inr m.en 0 d.1.length/\ke m.bD 0 400)) 0 l<0:=by
  rw[vV,List.findIdx?_eq_none_iff]
  intro m h
  rw[decide_eq_true (hm m h)];rfl
 generalize fj (fun m=>!decide (inr m.en 0 d.1.length/\ke m.bD 0 400)) 0 l=z at h2 h3
 refine Ay @h1 ?_;intros
 refine .inl ⟨_,_,_,_,rfl,fun _=>.of ?_ h2,?_⟩
 ·intro a ha
  simp only[aK,aD,aC,bb,au,or_false]at ha
  rcases ha with rfl|rfl
  ·simp
  ·exact bC.fn (fun _ h=>absurd h (au)) (fun c hc=>by
    simp only[bp]at hc
    subst hc
    exact bC.bZ (fun c hc=>by simp at hc;rcases hc with rfl|rfl<;>simp))
 refine aH ?_
 refine Au ?_;intros
 all_goals exact Fq
end Go.Proofs.YtgopgjnfhkoomaaGreat
