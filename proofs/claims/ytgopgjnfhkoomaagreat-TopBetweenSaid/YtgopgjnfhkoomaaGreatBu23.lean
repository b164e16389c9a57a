/- Part 23 of the texts: abstract values over the walk; contracts. -/
import Derived.Test.YtgopgjnfhkoomaaGreatBu15
import Derived.Test.YtgopgjnfhkoomaaGreatBu22
import Derived.Test.YtgopgjnfhkoomaaGreatRows
set_option linter.unusedVariables false
set_option linter.unusedSimpArgs false
namespace Go.Proofs.YtgopgjnfhkoomaaGreat
open Go.Abs
open Nat (reduceAdd reduceSub reduceLT reduceLeDiff reduceMul reduceEqDiff)
set_option maxHeartbeats 4000000
set_option maxRecDepth 100000
theorem WB(r:Cr):bC (.agg (Ub r)):=.agg fun c hc=>by
 simp only[Ub,aC,au,or_false]at hc
 rcases hc with rfl|rfl|rfl|rfl<;>simp
abbrev H0(r:Cr):Prop:=r.tk.length<9223372036854775808/\r.shown.length<9223372036854775808/\r.nq.length<9223372036854775808
theorem MV(w:Wk)(hg:UN w)(hw:Kg w)(l:List Cr)(hl:l.length<9223372036854775808)(hs:∀r∈l,H0 r):Pure Tryz.prog 42 [.agg w.cs,FI l] (bl (tr (MU w l))):=by
 obtain⟨b,hb⟩:∃b,b=tr (MU w l):=⟨_,rfl⟩
 rw[<-hb]
 refine jX Tryz.f42.eq_1 [] [.l [1,2,5,6,7],.d 12,.d 19,.d 15] ?_
 have hsn:=hw.sn
 by_cases hlen:l.length=w.aS.length
 ·have ti:∀(i:Nat) (f:dm) (r:Cr),w.aS[i]?=some f->l[i]?=some r->¬s9 f.c8 w.base.bD r->b=false:=fun i f r h1 h2 h3=>by
   rw[hb];exact yN fun h=>h3 (h.dr i f r h1 h2)
  obtain⟨ST,hST⟩:∃ST,ST=abD w:=⟨_,rfl⟩
  obtain⟨LV,hLV⟩:∃LV,LV=lvT w l:=⟨_,rfl⟩
  have tQ:ST.length=w.aS.length:=by rw[hST,aF]
  have Z6:LV.length=w.aS.length:=by rw[hLV,aF,hlen]
  have hSg:∀(i:Nat) (f:dm),w.aS[i]?=some f->ST[i]?=some (Fl w f):=fun i f h=>by rw[hST,aV,h];rfl
  have hLg:∀(i:Nat) (r:Cr),l[i]?=some r->LV[i]?=some (r.nq.getD w.base.term.toNat 0):=fun i r h=>by rw[hLV,aV,h];rfl
  refine Au ?_;intros
  refine aR.oC 118 4 5 rfl ?_
  refine aR.oC 3 1 6 rfl ?_
  refine aR.lr (α:={x:Nat×aG//x.1<=w.aS.length/\∀(i:Nat) (f:dm) (r:Cr),i<x.1->w.aS[i]?=some f->l[i]?=some r->s9 f.c8 w.base.bD r}) [5,6,7] (fun x=>[(5,.own 0 0 x.1.1),(6,.own 1 0 x.1.1),(7,n x.1.1)]) (fun x=>some [⟨118,4,(ST.take x.1.1).map (fun s=>s.cs),none⟩]::some [⟨3,1,(LV.take x.1.1).map (fun z=>[n z]),none⟩]::x.1.2) (fun x=>w.aS.length-x.1.1) ⟨(0,[]),aQ _,fun i f r h=>absurd h (aN _)⟩ ?_
  rintro⟨⟨i,ν⟩,hi,ff⟩
  simp only at hi ff
  simp only
  have xM:((ST.take i).map fun s:j3=>s.cs).length=i:=by simp;omega
  have CY:((LV.take i).map fun z=>[n z]).length=i:=by simp;omega
  by_cases bP:i<w.aS.length
  ·obtain⟨f,hf⟩:∃f,w.aS[i]?=some f:=⟨_,ae bP⟩
   obtain⟨r,hr⟩:∃r,l[i]?=some r:=⟨_,ae (by omega)⟩
   have KU:=ao hf
   have UY:=hg.sh f KU
   have hx:=hw.ok.sh f KU
   obtain⟨z1,z2,z3⟩:=hs r (ao hr)
   have cX:(w.aS.map dm.cs).getD i []=dm.cs f:=getD_map hf
   have CR:(l.map Ub).getD i []=Ub r:=getD_map hr
   have cn:=kO w.base.dh hw.sz f.fB
   rw[UY.st]at cn
   obtain⟨g1,g2⟩:=Fm hw KU
   have zJ:(w.base.dh.map j3.cs).getD (gI w.base.dh f.fB).1 []=j3.cs (Fl w f):=getD_map g1
   have UH:=aag UY.st
   have hD:=HJ f.c8 w.base.bD r UY.dr UY.pn UY.ie UY.ln hx.tr hx.bl ⟨hg.t1,hg.t2⟩ z1 z2 z3
   by_cases hd:s9 f.c8 w.base.bD r
   ·rw[tE hd]at hD
    have hn3:=hd.n3
    have htm:=hw.tm
    have q:=Bf (l:=r.nq) (i:=w.base.term.toNat) (by omega)
    have O_:(ST.take (i+1)).map (fun s:j3=>s.cs)=(ST.take i).map (fun s=>s.cs)++[(Fl w f).cs]:=by rw[ey (hSg i f hf),di];rfl
    have hn2:(LV.take (i+1)).map (fun z=>[n z])=(LV.take i).map (fun z=>[n z])++[[n (r.nq.getD w.base.term.toNat 0)]]:=by rw[ey (hLg i r hr),di];rfl
    have yo:∀(j:Nat) (g:dm) (s:Cr),j<i+1->w.aS[j]?=some g->l[j]?=some s->s9 g.c8 w.base.bD s:=fun j g s h1 h2 h3=>by
     by_cases e:j=i
     ·subst e
      rw[hf]at h2;rw[hr]at h3;cases h2;cases h3;exact hd
     ·exact ff j g s (by omega) h2 h3
    replace ff:=Yb.mk ff
    replace yo:=Yb.mk yo
    replace ti:=Yb.mk ti
    replace hSg:=Yb.mk hSg
    replace hLg:=Yb.mk hLg
    clear g1 g2
    generalize r.nq.getD w.base.term.toNat 0=X at*
    generalize Fl w f=s at*
    generalize(gI w.base.dh f.fB).1=q0 at*
    generalize(ST.take i).map (fun s:j3=>s.cs)=A1 at*
    generalize(LV.take i).map (fun z=>[n z])=A2 at*
    generalize XF:(ST.take (i+1)).map (fun s:j3=>s.cs)=B1 at*
    generalize hB2:(LV.take (i+1)).map (fun z=>[n z])=B2 at*
    replace XF:=Yb.mk XF
    replace hB2:=Yb.mk hB2
    replace O_:=Yb.mk O_
    replace hn2:=Yb.mk hn2
    iterate 3
     refine aeg (aa @cX (aa @zJ (aa @CR (aa @q (aa @xM @CY))))) (aa @cn @hD) ?_;intros
     all_goals try(exfalso;omega)
    refine Az (aa @cX (aa @zJ (aa @CR (aa @q (aa @xM @CY))))) (aa @cn @hD) ?_;intros
    all_goals try contradiction
    exact⟨⟨(i+1,_),bP,yo.out⟩,by simp,by simp only[XF.out,hB2.out,O_.out,hn2.out];rfl,by simp only;omega⟩
   ·rw[yN hd]at hD
    have nf:=ti i f r hf hr hd
    subst nf
    clear ti hb hSg hLg g1 g2
    generalize(gI w.base.dh f.fB).1=q0 at*
    iterate 3
     refine aeg (aa @cX @CR) (aa @cn @hD) ?_;intros
     all_goals try(exfalso;omega)
    refine Az (aa @cX @CR) (aa @cn @hD) ?_;intros
    all_goals try contradiction
    exact Fq
  ·obtain rfl:i=w.aS.length:=by omega
   have ZW:∀(i:Nat) (f:dm) (r:Cr),w.aS[i]?=some f->l[i]?=some r->s9 f.c8 w.base.bD r:=fun j g s h2 h3=>ff j g s (ai.1 h2).1 h2 h3
   obtain⟨kb,e,hK,PR⟩:=Ts w.base.fixed w.base.each ST w.week LV (by rw[hST,hLV];exact PA hw hlen ZW)
   have hbe:b=(decide (e=0)&&kb):=by
    rw[hb,cV,vP,ak,decide_eq_true_eq,PR,hST,hLV]
    exact⟨fun h=>h.kp,fun h=>⟨hlen,ZW,h⟩⟩
   clear hb PR ZW ti hSg hLg
   rw[show ST.take w.aS.length=ST from cD (by omega),show LV.take w.aS.length=LV from cD (by omega)]at*
   refine adM ?_;intros
   refine adM ?_;intros
   refine⟨fun h=>absurd h (by omega),fun _=>?_⟩
   refine adM ?_;intros
   refine aR.H_ (t:=5) (f:=0) (n:=w.aS.length) (o:=⟨118,4,ST.map (fun s=>s.cs),none⟩) rfl rfl xM (by simp) ?_
   refine aR.pQ (σ':=none::some [⟨3,1,LV.map (fun z=>[n z]),none⟩]::ν) (by simp[gone]) ?_
   refine aR.H_ (t:=6) (f:=1) (n:=w.aS.length) (o:=⟨3,1,LV.map (fun z=>[n z]),none⟩) rfl rfl CY (by simp) ?_
   refine aR.pQ (σ':=none::none::ν) (by simp[gone]) ?_
   subst hbe
   refine Ay @hK ?_;intros
   all_goals first
    |exact Fq
    |exact bO.eq (by simp[*]) (by simp)
 ·have nf:b=false:=by rw[hb];exact yN fun h=>hlen h.len
  subst nf
  clear hb
  refine Au ?_;intros
  all_goals exact Fq
theorem CT(w:Wk)(hg:UN w)(hw:Kg w)(l:List Cr)(hl:l.length<9223372036854775808)(hs:∀r∈l,H0 r):Pure Tryz.prog 13 [.agg w.cs,FI l] (bl (tr (CO w l))):=by
 have hC:=MV w hg hw l hl hs
 by_cases hc:MU w l
 ·rw[tE hc]at hC
  obtain⟨hW,hWl⟩:=Wp w l hc.len hg.sn hg.rn fun i f r hf hr=>by
   have KU:=ao hf
   have hd:=hc.dr i f r hf hr
   refine⟨(hg.sh f KU).ml,fun m hm=>?_,fun d FV=>?_⟩
   ·obtain⟨⟨a1,a2⟩,_⟩:=(hg.sh f KU).ms m hm
    have:=hd.n1
    simp only at a2
    exact⟨a1,by omega⟩
   ·have h:=hg.rd d FV
    unfold DC at h
    rw[decide_eq_true_eq]at h
    have:=hd.n3
    have:=h.2.2.1
    exact⟨by omega,by omega⟩
  have e:tr (CO w l)=decide (((wrT w l).length:Int)=0):=by
   rw[cV,vP,decide_eq_true_eq]
   exact⟨fun h=>by rw[Q9.2 h.ok];rfl,fun h=>⟨hc,Q9.1 (by omega)⟩⟩
  rw[e]
  generalize wrT w l=X at*
  clear hc e
  refine jX Tryz.f13.eq_1 [] [] ?_
  refine Ay (aa @hC @hW) ?_;intros
  all_goals first
   |exact Fq
   |exact bO.eq (by simp) (by simp)
 ·rw[yN hc]at hC
  rw[yN fun h=>hc h.CK]
  refine jX Tryz.f13.eq_1 [] [] ?_
  refine Ay @hC ?_;intros
  all_goals exact Fq
theorem abT{l:List Sp}{v:Int}(h:Mem v l):Fz l v=true:=by
 obtain⟨s,hs,h1,h2⟩:=h
 exact eb.2 ⟨s,hs,decide_eq_true ⟨h1,h2⟩⟩
theorem Dk{l:List Cr}{i:Nat}{r:Cr}(h:l[i]?=some r):(l.map Ub).getD i []=Ub r:=getD_map h
theorem M0(hA:Pure Tryz.prog 5 [] (bl true))(b:l8)(l:List Nt)(wk:Int)(l1 l2 l3:List Cr)(rg:FU)(w:Wk)(ok:Bool)(hW:Pure Tryz.prog 6 [.agg b.cs,Ad l,n wk] (.iu [.agg rg.cs,.agg w.cs,bl ok]))(lO:ok=true->WkQ b w)(z1:l1.length<9223372036854775808)(z2:l2.length<9223372036854775808)(z3:l3.length<9223372036854775808)(s1:∀r∈l1,H0 r)(s2:∀r∈l2,H0 r)(s3:∀r∈l3,H0 r):Pure Tryz.prog 4 [.agg b.cs,Ad l,n wk,FI l1,FI l2,FI l3] (bl true):=by
 refine jX Tryz.f4.eq_1 [] [.l [6,13,15,17,24],.d 16,.l [3,4,5,6,13,15,17,18],.d 10,.d 10,.d 10] ?_
 cases ok with
 |false=>
  clear s1 s2 s3 lO
  refine Ay (aa @hA @hW) ?_;intros
  all_goals exact Fq
 |true=>
  have hq:=lO rfl
  clear lO
  have hw:=abZ hq
  have w1:=CT w hq.g hw l1 z1 s1
  have w2:=CT w hq.g hw l2 z2 s2
  have w3:=CT w hq.g hw l3 z3 s3
  by_cases p9:l1.length<=6/\l2.length<=6/\l3.length<=6/\CO w l1/\CO w l2/\CO w l3
  ·obtain⟨n1,n2,n3,p1,p2,p3⟩:=p9
   rw[tE p1]at w1
   rw[tE p2]at w2
   rw[tE p3]at w3
   have htm:=hw.tm
   have htb:=hq.tm
   rw[htb]at htm
   obtain⟨AL,hAL⟩:∃AL,AL=abE w.base.term.toNat l1 l2 l3:=⟨_,rfl⟩
   have hp:=ab0 hw p1 p2 p3
   rw[<-hAL]at hp
   have e1:=p1.CK.len
   have e2:=p2.CK.len
   have e3:=p3.CK.len
   have adG:AL.length=l1.length:=by rw[hAL];exact Ww (by omega) (by omega)
   have WC:∀{i a c d},l1[i]?=some a->l2[i]?=some c->l3[i]?=some d->AL[i]?=some (Fh w.base.term.toNat a c d):=fun h1 h2 h3=>by rw[hAL];exact PC h1 h2 h3
   have hAs:∀r∈AL,H0 r:=fun r hr=>by
    obtain⟨i,hi⟩:=fb.1 hr
    have bP:=(ai.1 hi).1
    have x1:l1[i]?=some (l1[i]'(by omega)):=ae (by omega)
    have x2:l2[i]?=some (l2[i]'(by omega)):=ae (by omega)
    have x3:l3[i]?=some (l3[i]'(by omega)):=ae (by omega)
    rw[WC x1 x2 x3]at hi
    rw[<-v_ hi]
    rcases PB w.base.term.toNat l1[i] l2[i] l3[i]with e|e|e<;>rw[e]
    ·exact s1 _ (ao x1)
    ·exact s2 _ (ao x2)
    ·exact s3 _ (ao x3)
   have wA:=CT w hq.g hw AL (by omega) hAs
   rw[tE hp]at wA
   have HZ:∀{L:List Cr},CO w L->∀{i r},L[i]?=some r->i<w.aS.length->(r.nq.map fun z=>[n z]).getD b.term.toNat []=[n (r.nq.getD b.term.toNat 0)]/\b.term.toNat<r.nq.length:=fun{L} p {i r} hr bP=>by
    have hn:=(p.CK.dr i _ r (ae bP) hr).n3
    have:=hw.tm
    have h:b.term.toNat<r.nq.length:=by omega
    exact⟨Bf h,h⟩
   have Bm:∀r,bC (.agg (Ub r)):=WB
   obtain⟨RG,hRG⟩:∃RG:Option (List Ob),RG=some [⟨36,4,[rg.cs],none⟩]:=⟨_,rfl⟩
   obtain⟨u,hu,tc⟩:=ab1 hw hp
   have hLv:∀(i:Nat) (f:dm),w.aS[i]?=some f->∀σ,eY Tryz.prog 14 [.agg w.cs,n i,n b.term] σ (acJ w i f σ):=fun i f hf σ=>by
    have:=abC w hw hq.ck i f hf u hu σ
    rw[htb]at this;exact this
   rw[htb]at WC
   clear s1 s2 s3 hAs hq
   replace tc:=Yb.mk tc
   replace HZ:=Yb.mk @HZ
   replace WC:=Yb.mk @WC
   replace hLv:=Yb.mk hLv
   refine Ay (aa @hA (aa @hW (aa @w1 (aa @w2 @w3)))) ?_;intros
   refine aR.oC 30 4 17 rfl ?_
   refine aR.le (α:={x:Nat×aG//x.1<=l1.length}) [17,18] (fun x=>[(17,.own 2 0 x.1.1),(18,n x.1.1)]) (fun x=>RG::some [⟨38,9,[w.cs],none⟩]::some [⟨30,4,(AL.take x.1.1).map Ub,none⟩]::x.1.2) (fun x=>l1.length-x.1.1) ⟨(0,[]),aQ _⟩ ?_ ?_
   ·rw[hRG];rfl
   clear hRG
   rintro⟨⟨i,ν⟩,hi⟩
   simp only at hi
   simp only
   have xM:((AL.take i).map Ub).length=i:=by simp;omega
   by_cases bP:i<l1.length
   ·obtain⟨a,ha⟩:∃a,l1[i]?=some a:=⟨_,ae bP⟩
    obtain⟨c,hc⟩:∃c,l2[i]?=some c:=⟨_,ae (by omega)⟩
    obtain⟨d,hd⟩:∃d,l3[i]?=some d:=⟨_,ae (by omega)⟩
    have r1:=Dk ha
    have r2:=Dk hc
    have r3:=Dk hd
    obtain⟨q1,t1⟩:=HZ.out p1 ha (by omega)
    obtain⟨q2,t2⟩:=HZ.out p2 hc (by omega)
    obtain⟨q3,t3⟩:=HZ.out p3 hd (by omega)
    have t0:0<=b.term:=htm.1
    replace t1:b.term<(a.nq.length:Int):=by omega
    replace t2:b.term<(c.nq.length:Int):=by omega
    replace t3:b.term<(d.nq.length:Int):=by omega
    have l_:(AL.take (i+1)).map Ub=(AL.take i).map Ub++[Ub (Fh b.term.toNat a c d)]:=by rw[ey (WC.out ha hc hd),di];rfl
    unfold Fh Go.Abs.WG at l_
    generalize a.nq.getD b.term.toNat 0=x at*
    generalize c.nq.getD b.term.toNat 0=y at*
    generalize d.nq.getD b.term.toNat 0=z at*
    generalize(AL.take i).map Ub=A1 at*
    generalize XF:(AL.take (i+1)).map Ub=B1 at*
    replace XF:=Yb.mk XF
    obtain⟨m,hm⟩:∃m,m=max (max (min x y) (min y z)) (min x z):=⟨_,rfl⟩
    rw[<-hm]at l_
    replace hm:=Yb.mk hm.symm
    clear p1 p2 p3 ha hc hd hp n1 n2 n3 hu hAL
    by_cases c1:z=m
    ·rw[if_pos c1]at l_
     have d1:=Yb.mk (decide_eq_true c1)
     clear c1
     replace l_:=Yb.mk l_
     iterate 3
      ((first|refine vn rfl ?_|simp(disch:=omega) only[cB,aj]|refine bo (fun _=>?_) fun _=>?_|refine im fun _=>?_|refine cF ?_|refine om ?_|refine an ?_|fail)<;>try simp only[zN,zT,zV,zS,zU,dC,ex,bu,bN,elems,cells,scalar,dH,bL,aX,aU,bJ,bI,Nat.reduceBEq,reduceAdd,reduceSub,reduceLT,reduceLeDiff,reduceMul,reduceEqDiff,reduceIte,r1,r2,r3,q1,q2,q3,xM,hm.out,d1.out])
      all_goals try(exfalso;omega)
     (repeat' ((first|refine vn rfl ?_|simp(disch:=omega) only[cB,aj]|refine bo (fun _=>?_) fun _=>?_|refine im fun _=>?_|refine cF ?_|refine om ?_|refine an ?_|fail)<;>try simp only[zN,zT,zV,zS,zU,dC,ex,bu,bN,elems,cells,scalar,dH,bL,aX,aU,bJ,bI,Nat.reduceBEq,reduceAdd,reduceSub,reduceLT,reduceLeDiff,reduceMul,reduceEqDiff,reduceIte,r1,r2,r3,q1,q2,q3,xM,hm.out,d1.out]))
     all_goals try(exfalso;omega)
     all_goals exact⟨⟨(i+1,_),bP⟩,by simp,by simp only[XF.out,l_.out];rfl,by simp only;omega⟩
    ·rw[if_neg c1]at l_
     have d1:=Yb.mk (decide_eq_false c1)
     clear c1
     by_cases c2:y=m
     ·rw[if_pos c2]at l_
      have d2:=Yb.mk (decide_eq_true c2)
      clear c2
      replace l_:=Yb.mk l_
      iterate 3
       ((first|refine vn rfl ?_|simp(disch:=omega) only[cB,aj]|refine bo (fun _=>?_) fun _=>?_|refine im fun _=>?_|refine cF ?_|refine om ?_|refine an ?_|fail)<;>try simp only[zN,zT,zV,zS,zU,dC,ex,bu,bN,elems,cells,scalar,dH,bL,aX,aU,bJ,bI,Nat.reduceBEq,reduceAdd,reduceSub,reduceLT,reduceLeDiff,reduceMul,reduceEqDiff,reduceIte,r1,r2,r3,q1,q2,q3,xM,hm.out,d1.out,d2.out])
       all_goals try(exfalso;omega)
      (repeat' ((first|refine vn rfl ?_|simp(disch:=omega) only[cB,aj]|refine bo (fun _=>?_) fun _=>?_|refine im fun _=>?_|refine cF ?_|refine om ?_|refine an ?_|fail)<;>try simp only[zN,zT,zV,zS,zU,dC,ex,bu,bN,elems,cells,scalar,dH,bL,aX,aU,bJ,bI,Nat.reduceBEq,reduceAdd,reduceSub,reduceLT,reduceLeDiff,reduceMul,reduceEqDiff,reduceIte,r1,r2,r3,q1,q2,q3,xM,hm.out,d1.out,d2.out]))
      all_goals try(exfalso;omega)
      all_goals exact⟨⟨(i+1,_),bP⟩,by simp,by simp only[XF.out,l_.out];rfl,by simp only;omega⟩
     ·rw[if_neg c2]at l_
      have d2:=Yb.mk (decide_eq_false c2)
      clear c2
      replace l_:=Yb.mk l_
      iterate 3
       ((first|refine vn rfl ?_|simp(disch:=omega) only[cB,aj]|refine bo (fun _=>?_) fun _=>?_|refine im fun _=>?_|refine cF ?_|refine om ?_|refine an ?_|fail)<;>try simp only[zN,zT,zV,zS,zU,dC,ex,bu,bN,elems,cells,scalar,dH,bL,aX,aU,bJ,bI,Nat.reduceBEq,reduceAdd,reduceSub,reduceLT,reduceLeDiff,reduceMul,reduceEqDiff,reduceIte,r1,r2,r3,q1,q2,q3,xM,hm.out,d1.out,d2.out])
       all_goals try(exfalso;omega)
      (repeat' ((first|refine vn rfl ?_|simp(disch:=omega) only[cB,aj]|refine bo (fun _=>?_) fun _=>?_|refine im fun _=>?_|refine cF ?_|refine om ?_|refine an ?_|fail)<;>try simp only[zN,zT,zV,zS,zU,dC,ex,bu,bN,elems,cells,scalar,dH,bL,aX,aU,bJ,bI,Nat.reduceBEq,reduceAdd,reduceSub,reduceLT,reduceLeDiff,reduceMul,reduceEqDiff,reduceIte,r1,r2,r3,q1,q2,q3,xM,hm.out,d1.out,d2.out]))
      all_goals try(exfalso;omega)
      all_goals exact⟨⟨(i+1,_),bP⟩,by simp,by simp only[XF.out,l_.out];rfl,by simp only;omega⟩
   ·obtain rfl:i=l1.length:=by omega
    rw[show AL.take l1.length=AL from cD (by omega)]at*
    refine adM ?_;intros
    refine adM ?_;intros
    all_goals try(exfalso;omega)
    refine aR.H_ (t:=17) (f:=2) (n:=l1.length) (o:=⟨30,4,AL.map Ub,none⟩) rfl rfl xM (by simp) ?_
    refine aR.pQ (σ':=RG::some [⟨38,9,[w.cs],none⟩]::none::ν) (by simp[gone]) ?_
    refine Ay @wA ?_;intros
    refine aR.lr (α:={x:Nat×aG//x.1<=AL.length}) [24] (fun x=>[(24,n x.1.1)]) (fun x=>RG::some [⟨38,9,[w.cs],none⟩]::none::x.1.2) (fun x=>AL.length-x.1.1) ⟨(0,ν),aQ _⟩ ?_
    rintro⟨⟨i,ν⟩,hi⟩
    simp only at hi
    simp only
    by_cases bP:i<AL.length
    ·obtain⟨r,hr⟩:∃r,AL[i]?=some r:=⟨_,ae bP⟩
     obtain⟨f,hf⟩:∃f,w.aS[i]?=some f:=⟨_,ae (by omega)⟩
     have r1:=Dk hr
     obtain⟨q1,t1⟩:=HZ.out hp hr (by omega)
     obtain⟨k1,k2,k3,k4,k5⟩:=tc.out i f r hf hr
     have hL:=hLv.out i f hf (RG::some [⟨38,9,[w.cs],none⟩]::none::ν)
     clear p1 p2 p3 n1 n2 n3 hAL
     iterate 3
      refine adM ?_;intros
      all_goals try(exfalso;omega)
     refine Au ?_;intros
     refine .inr (.inl ⟨_,_,_,_,rfl,fun _=>⟨hL,?_⟩,fun h=>by cases h⟩)
     intro res σ' aau
     cases aau with
     |mk m hm h μ=>
     have p9:=abT (h u r hu k1 k2 k3 k4 k5)
     rw[htb]at p9
     have hI:=zY m (by omega) (r.nq.getD b.term.toNat 0)
     rw[show r.L b.term=r.nq.getD b.term.toNat 0 from rfl]at p9
     rw[p9]at hI
     clear h p9 k1 k4 k5 hL hu
     refine aH ?_
     refine adL ?_
     generalize r.nq.getD b.term.toNat 0=X at*
     refine Az (aa @r1 @q1) @hI ?_;intros
     all_goals try contradiction
     exact⟨⟨(i+1,_),bP⟩,by simp,rfl,by simp only;omega⟩
    ·obtain rfl:i=AL.length:=by omega
     refine Au ?_;intros
     all_goals exact Fq
  ·have ti:l1.length<=6->l2.length<=6->l3.length<=6->tr (CO w l1)=false\/tr (CO w l2)=false\/tr (CO w l3)=false:=fun c1 c2 c3=>by
    by_cases c4:CO w l1
    ·by_cases c5:CO w l2
     ·exact .inr (.inr (yN fun c6=>p9 ⟨c1,c2,c3,c4,c5,c6⟩))
     ·exact .inr (.inl (yN c5))
    ·exact .inl (yN c4)
   generalize tr (CO w l1)=q1 at*
   generalize tr (CO w l2)=q2 at*
   generalize tr (CO w l3)=q3 at*
   clear p9 hq hw s1 s2 s3
   by_cases c1:l1.length<=6
   ·by_cases c2:l2.length<=6
    ·by_cases c3:l3.length<=6
     ·have h:=ti c1 c2 c3
      clear ti
      cases q1 with
      |false=>
       clear h
       refine Ay (aa @hA (aa @hW (aa @w1 (aa @w2 @w3)))) ?_;intros
       all_goals try contradiction
       all_goals exact Fq
      |true=>
       cases q2 with
       |false=>
        clear h
        refine Ay (aa @hA (aa @hW (aa @w1 (aa @w2 @w3)))) ?_;intros
        all_goals try contradiction
        all_goals exact Fq
       |true=>
        cases q3 with
        |false=>
         clear h
         refine Ay (aa @hA (aa @hW (aa @w1 (aa @w2 @w3)))) ?_;intros
         all_goals try contradiction
         all_goals exact Fq
        |true=>simp at h
     ·clear ti
      (refine Ay (aa @hA (aa @hW (aa @w1 (aa @w2 @w3)))) ?_ (CM ?_)<;>intros)
      all_goals try contradiction
      all_goals try exact Fq
      all_goals(rename_i hc;rw[decide_eq_true (by omega)]at hc;exact absurd hc (by simp))
    ·clear ti
     (refine Ay (aa @hA (aa @hW (aa @w1 (aa @w2 @w3)))) ?_ (CM ?_)<;>intros)
     all_goals try contradiction
     all_goals try exact Fq
     all_goals(rename_i hc;rw[decide_eq_true (by omega)]at hc;exact absurd hc (by simp))
   ·clear ti
    (refine Ay (aa @hA (aa @hW (aa @w1 (aa @w2 @w3)))) ?_ (CM ?_)<;>intros)
    all_goals try contradiction
    all_goals try exact Fq
    all_goals(rename_i hc;rw[decide_eq_true (by omega)]at hc;exact absurd hc (by simp))
theorem PD(b:l8)(l:List Nt)(wk:Int)(l1 l2 l3:List Cr)(hb:mq b)(hl:pK l)(z1:l1.length<9223372036854775808)(z2:l2.length<9223372036854775808)(z3:l3.length<9223372036854775808)(s1:∀r∈l1,H0 r)(s2:∀r∈l2,H0 r)(s3:∀r∈l3,H0 r):Pure Tryz.prog 4 [.agg b.cs,Ad l,n wk,FI l1,FI l2,FI l3] (bl true):=by
 obtain⟨rg,w,ok,h1,h2,_⟩:=FA b l wk hb hl
 exact M0 HO b l wk l1 l2 l3 rg w ok h1 h2 z1 z2 z3 s1 s2 s3
end Go.Proofs.YtgopgjnfhkoomaaGreat
