/- Part 22 of the texts: abstract values over the walk; contracts. -/
import Derived.Test.YtgopgjnfhkoomaaGreatBu21
import Derived.Test.YtgopgjnfhkoomaaGreatBu25
import Derived.Test.YtgopgjnfhkoomaaGreatRows
set_option linter.unusedVariables false
set_option linter.unusedSimpArgs false
namespace Go.Proofs.YtgopgjnfhkoomaaGreat
open Go.Abs
open Nat (reduceAdd reduceSub reduceLT reduceLeDiff reduceMul reduceEqDiff)
set_option maxHeartbeats 4000000
set_option maxRecDepth 100000
theorem acR{c:Ch}(h:c.ok)(h8:c.bD<=8):∀{m:Nat},m<=c.kz.length+2->0<=c.sum m/\c.sum m<=8*m
 |0,_=>by simp[Ch.sum]
 |m+1,hm=>by
  have:=acR h h8 (m:=m) (by omega)
  have h1:=oc h (k:=(m:Int)-1) (by omega) (by unfold Ch.last;omega)
  have h2:c.stay ((m:Int)-1)<=8:=by
   unfold Ch.stay;split
   ·omega
   split
   ·omega
   ·omega
  simp only[Ch.sum];omega
theorem acK{w:Wk}(hw:zG w)(h8:w.base.bD<=8){f:dm}(hf:f∈w.aS)(hs:qC f.c8=true):p' w f<=4000:=by
 have hx:=hw.sh f hf
 have hk:=hx.ok f.fB
 have hl:=vU hk (m:=(tW w f f.fB).kz.length+2) (ar _)
 have aay:=acR hk h8 (m:=(tW w f f.fB).kz.length+2) (ar _)
 have hg:(tW w f f.fB).kz.length=f.c8.rates.length:=(rB hx.P').1
 have hr:=(Qq hs).2.2.1
 have hb:f.c8.eC.cS<=2:=by
  unfold qC at hs
  simp only[ak,db,decide_eq_false_iff_not]at hs
  omega
 have Na:0<=f.c8.eC.cS:=hk.p1
 have he:(tW w f f.fB).cS=f.c8.eC.cS:=rfl
 have hn:p' w f=((tW w f f.fB).uF ((tW w f f.fB).kz.length+2)).length:=rfl
 rw[<-hn,he]at hl
 have h1:(tW w f f.fB).sum ((tW w f f.fB).kz.length+2)<=56:=by
  have:(8:Int)*(((tW w f f.fB).kz.length+2:Nat):Int)<=56:=by rw[hg];omega
  omega
 have h2:(tW w f f.fB).sum ((tW w f f.fB).kz.length+2)*(2*f.c8.eC.cS+1)<=56*5:=Int.mul_le_mul h1 (by omega) (by omega) (by omega)
 omega
theorem ab8{l:List j3}(h:(gW l).1=0):∀s∈l,H7 s:=fun s hs=>by
 obtain⟨i,hi⟩:=fb.1 hs
 have h2:=wA.1 ((tM.1 h).2 i (ai.1 hi).1)
 have e:l.getD i default=s:=by rw[ab,hi];rfl
 rw[e]at h2
 refine tM.2 ⟨by simp,fun j hj=>?_⟩
 obtain rfl:j=0:=by simp only[bf,bM]at hj;omega
 exact wA.2 ⟨h2.1,fun h=>absurd h (f_ 0),h2.2.2.1,h2.2.2.2.1,h2.2.2.2.2⟩
theorem abZ{b:l8}{w:Wk}(h:WkQ b w):Kg w:=by
 have hg:=h.g
 have hw:=aan h.sz hg
 refine⟨hw,hg.sn,fun f hf=>acK hw (by rw[h.tk];exact h.t8) hf (h.fs f hf),fun f hf=>(hg.sh f hf).st,h.sz.st,ab8 hg.s1,hg.tm,hg.wk,hg.wd⟩
theorem acS{s:Sp}{v:Int}(h:Fz [s] v=true):s.lo<=v/\v<=s.hi:=by
 unfold Fz at h
 simpa using h
def OkM(w:Wk)(f:dm)(r:Cr):Prop:=(∀m∈f.marks,Fz [m.bD] (r.tk.getD m.en.toNat 0)=true)/\∀d∈w.reads,f.fB=d.fB->Fz [d.levels] (r.nq.getD d.tick.toNat 0)=true
theorem Q9{w:Wk}{l:List Cr}:(wrT w l).length=0↔∀(i:Nat) (f:dm) (r:Cr),w.aS[i]?=some f->l[i]?=some r->OkM w f r:=by
 unfold wrT
 rw[aM,Nat.add_eq_zero_iff,QJ,QJ]
 have hz:∀(i:Nat) (f:dm) (r:Cr),(w.aS.zip l)[i]?=some (f,r)↔w.aS[i]?=some f/\l[i]?=some r:=fun i f r=>ir (z:=(f,r))
 constructor
 ·rintro⟨h1,h2⟩ i f r hf hr
  have e:=(hz i f r).2 ⟨hf,hr⟩
  refine⟨fun m hm=>?_,fun d hd hs=>?_⟩
  ·obtain⟨k,hk⟩:=fb.1 hm
   have a:=QJ.1 (congrArg List.length (h1 i _ e)) k m hk
   unfold mkR at a
   simp only at a
   split at a
   ·assumption
   ·cases a
  ·obtain⟨k,hk⟩:=fb.1 hd
   have a:=QJ.1 (congrArg List.length (h2 k d hk)) i _ e
   unfold rdR at a
   simp only at a
   split at a
   ·cases a
   ·rename_i hn
    cases hb:Fz [d.levels] (r.nq.getD d.tick.toNat 0)with
    |true=>rfl
    |false=>exact absurd ⟨hs,hb⟩ hn
 ·intro h
  refine⟨fun i p e=>?_,fun k d hd=>?_⟩
  ·obtain⟨f,r⟩:=p
   obtain⟨hf,hr⟩:=(hz i f r).1 e
   refine lL (QJ.2 fun j m hm=>?_)
   unfold mkR
   exact if_pos ((h i f r hf hr).1 m (ao hm))
  ·refine lL (QJ.2 fun i p e=>?_)
   obtain⟨f,r⟩:=p
   obtain⟨hf,hr⟩:=(hz i f r).1 e
   unfold rdR
   refine if_neg fun hn=>?_
   have:=(h i f r hf hr).2 d (ao hd) hn.1
   rw[hn.2]at this;cases this
noncomputable abbrev abD(w:Wk):List j3:=w.aS.map (Fl w)
abbrev lvT(w:Wk)(l:List Cr):List Int:=l.map fun r=>r.nq.getD w.base.term.toNat 0
structure MU(w:Wk)(l:List Cr):Prop where
 len:l.length=w.aS.length
 dr:∀(i:Nat) (f:dm) (r:Cr),w.aS[i]?=some f->l[i]?=some r->s9 f.c8 w.base.bD r
 kp:Q6 w.base.fixed w.base.each (abD w) w.week (lvT w l)
structure CO(w:Wk)(l:List Cr):Prop where
 CK:MU w l
 ok:∀(i:Nat) (f:dm) (r:Cr),w.aS[i]?=some f->l[i]?=some r->OkM w f r
theorem PA{w:Wk}(hw:Kg w){l:List Cr}(hl:l.length=w.aS.length)(hd:∀(i:Nat) (f:dm) (r:Cr),w.aS[i]?=some f->l[i]?=some r->s9 f.c8 w.base.bD r):abi w.base.fixed w.base.each (abD w) w.week (lvT w l):=by
 refine⟨hw.wd,fun s hs=>?_,by rw[aF];have:=hw.sn;omega,hw.wk,by rw[aF,aF];exact hl,fun x hx=>?_⟩
 ·obtain⟨f,hf,rfl⟩:=aO.1 hs
  exact(Fm hw hf).2
 ·obtain⟨r,hr,rfl⟩:=aO.1 hx
  obtain⟨i,hi⟩:=fb.1 hr
  have bP:=(ai.1 hi).1
  have h:=(hd i _ r (ae (by omega)) hi).ls w.base.term.toNat (by have:=hw.tm;omega)
  exact h.l1
def Fh(t:Nat)(a b c:Cr):Cr:=if c.nq.getD t 0=Go.Abs.WG (a.nq.getD t 0) (b.nq.getD t 0) (c.nq.getD t 0)then c else if b.nq.getD t 0=Go.Abs.WG (a.nq.getD t 0) (b.nq.getD t 0) (c.nq.getD t 0)then b else a
theorem PB(t:Nat)(a b c:Cr):Fh t a b c=a\/Fh t a b c=b\/Fh t a b c=c:=by
 unfold Fh
 split
 ·exact .inr (.inr rfl)
 ·split
  ·exact .inr (.inl rfl)
  ·exact .inl rfl
theorem ab9(t:Nat)(a b c:Cr):(Fh t a b c).nq.getD t 0=Go.Abs.WG (a.nq.getD t 0) (b.nq.getD t 0) (c.nq.getD t 0):=by
 unfold Fh
 split
 ·assumption
 ·split
  ·assumption
  ·rename_i h1 h2
   unfold Go.Abs.WG at*
   omega
def abE(t:Nat)(l1 l2 l3:List Cr):List Cr:=(l1.zip (l2.zip l3)).map fun p=>Fh t p.1 p.2.1 p.2.2
theorem PC{t:Nat}{l1 l2 l3:List Cr}{i:Nat}{a b c:Cr}(h1:l1[i]?=some a)(h2:l2[i]?=some b)(h3:l3[i]?=some c):(abE t l1 l2 l3)[i]?=some (Fh t a b c):=by
 unfold abE
 rw[aV,(ir (z:=(a,(b,c)))).2 ⟨h1,(ir (z:=(b,c))).2 ⟨h2,h3⟩⟩];rfl
theorem Ww{t:Nat}{l1 l2 l3:List Cr}(h2:l2.length=l1.length)(h3:l3.length=l1.length):(abE t l1 l2 l3).length=l1.length:=by
 unfold abE
 rw[aF,oG,oG];omega
theorem acC{N:Nat}{lo hi pP km:Nat->Int}{b:Nat->Nat->Int}{u:Nat->Int}(h:Sol N lo hi b u)(e:∀i,i<N->lo i=pP i/\hi i=km i):Sol N pP km b u:=
 ⟨fun i hi=>(e i hi).1▸h.lo i hi,fun i hi=>(e i hi).2▸h.hi i hi,h.bd⟩
theorem abS{L:List j3}{wk:Int}{lv:List Int}{i:Nat}(hi:i<L.length)(hl:lv.length=L.length):(Fj L wk lv).getD i ⟨0,0⟩=Mh (lv.getD i 0) (CI (L.getD i default) wk):=by
 have e1:L[i]?=some L[i]:=ae hi
 have e2:lv[i]?=some (lv[i]'(by omega)):=ae (by omega)
 rw[ab,Tr e1 e2,ab,ab,e1,e2];rfl
theorem acD{fx ea:Int}{L:List j3}{wk:Int}{lv1 lv2 lv3 lv:List Int}(o1:abi fx ea L wk lv1)(o2:abi fx ea L wk lv2)(o3:abi fx ea L wk lv3)(hl:lv.length=L.length)(hm:∀i,i<L.length->lv.getD i 0=Go.Abs.WG (lv1.getD i 0) (lv2.getD i 0) (lv3.getD i 0))(h1:Q6 fx ea L wk lv1)(h2:Q6 fx ea L wk lv2)(h3:Q6 fx ea L wk lv3):Q6 fx ea L wk lv:=by
 obtain⟨hs,u,hu⟩:=h1
 obtain⟨_,v,hv⟩:=h2
 obtain⟨_,x,hx⟩:=h3
 have nn:∀{l:List Int},abi fx ea L wk l->∀i,i<L.length->0<=l.getD i 0:=fun{l} o i hi=>by
  have e:l[i]?=some (l[i]'(by have:=o.ll;omega)):=ae (by have:=o.ll;omega)
  have:=(o.lv _ (ao e)).1
  rw[ab,e];exact this
 have hH:∀i,i<L.length->0<=(CI (L.getD i default) wk).lo/\0<=(CI (L.getD i default) wk).hi:=fun i hi=>by
  have:=Ti (tC (o1.one _ (ao (fh (default:j3) hi)))).2.2 o1.wk.1
  omega
 have cg:∀{l:List Int} {y:Nat->Int},l.length=L.length->Sol L.length (fun i=>((Fj L wk l).getD i ⟨0,0⟩).lo) (fun i=>((Fj L wk l).getD i ⟨0,0⟩).hi) (WW fx ea L) y->Sol L.length (fun i=>CV (l.getD i 0) (CI (L.getD i default) wk).lo) (fun i=>CV (l.getD i 0) (CI (L.getD i default) wk).hi) (WW fx ea L) y:=fun{l y} e h=>
  acC h fun i hi=>by
   simp only[abS hi e]
   exact⟨rfl,rfl⟩
 have:=Sol.WG hH (fun i hi=>⟨nn o1 i hi,nn o2 i hi,nn o3 i hi⟩) (cg o1.ll hu) (cg o2.ll hv) (cg o3.ll hx)
 refine⟨hs,_,acC this fun i hi=>?_⟩
 simp only[abS hi hl,hm i hi]
 exact⟨rfl,rfl⟩
theorem ab0{w:Wk}(hw:Kg w){l1 l2 l3:List Cr}(h1:CO w l1)(h2:CO w l2)(h3:CO w l3):CO w (abE w.base.term.toNat l1 l2 l3):=by
 have n1:=h1.CK.len
 have n2:=h2.CK.len
 have n3:=h3.CK.len
 have hl:=Ww (t:=w.base.term.toNat) (l1:=l1) (l2:=l2) (l3:=l3) (by omega) (by omega)
 have hg:∀{i:Nat} {f:dm} {r:Cr},w.aS[i]?=some f->(abE w.base.term.toNat l1 l2 l3)[i]?=some r->∃a b c,l1[i]?=some a/\l2[i]?=some b/\l3[i]?=some c/\r=Fh w.base.term.toNat a b c:=fun{i f r} hf hr=>by
  have bP:=(ai.1 hf).1
  have e1:l1[i]?=some (l1[i]'(by omega)):=ae (by omega)
  have e2:l2[i]?=some (l2[i]'(by omega)):=ae (by omega)
  have e3:l3[i]?=some (l3[i]'(by omega)):=ae (by omega)
  rw[PC e1 e2 e3]at hr
  exact⟨_,_,_,e1,e2,e3,(v_ hr).symm⟩
 refine⟨⟨by omega,fun i f r hf hr=>?_,?_⟩,fun i f r hf hr=>?_⟩
 ·obtain⟨a,b,c,e1,e2,e3,rfl⟩:=hg hf hr
  rcases PB w.base.term.toNat a b c with e|e|e<;>rw[e]
  ·exact h1.CK.dr i f a hf e1
  ·exact h2.CK.dr i f b hf e2
  ·exact h3.CK.dr i f c hf e3
 ·refine acD (PA hw n1 h1.CK.dr) (PA hw n2 h2.CK.dr) (PA hw n3 h3.CK.dr) (by rw[aF,aF];omega) (fun i hi=>?_) h1.CK.kp h2.CK.kp h3.CK.kp
  rw[aF]at hi
  have e1:l1[i]?=some (l1[i]'(by omega)):=ae (by omega)
  have e2:l2[i]?=some (l2[i]'(by omega)):=ae (by omega)
  have e3:l3[i]?=some (l3[i]'(by omega)):=ae (by omega)
  simp only[ab (l:=List.map _ _),aV,PC e1 e2 e3,e1,e2,e3,aY,bV]
  exact ab9 _ _ _ _
 ·obtain⟨a,b,c,e1,e2,e3,rfl⟩:=hg hf hr
  rcases PB w.base.term.toNat a b c with e|e|e<;>rw[e]
  ·exact h1.ok i f a hf e1
  ·exact h2.ok i f b hf e2
  ·exact h3.ok i f c hf e3
theorem ab1{w:Wk}(hw:Kg w){l:List Cr}(h:CO w l):∃u:List Int,QH (CJ w) (bdW w) u/\∀(i:Nat) (f:dm) (r:Cr),w.aS[i]?=some f->l[i]?=some r->Fit (tW w f f.fB) r/\f.c8.eC.zero.lo<=r.zero/\r.zero<=f.c8.eC.zero.hi/\(u5 (r.L w.base.term) (CI (Fl w f) w.week)).lo<=u.getD i 0/\u.getD i 0<=(u5 (r.L w.base.term) (CI (Fl w f) w.week)).hi:=by
 obtain⟨_,u,hu⟩:=h.CK.kp
 have n1:=h.CK.len
 have hN:(abD w).length=w.aS.length:=by rw[aF]
 have hNl:(lvT w l).length=(abD w).length:=by rw[aF,hN,n1]
 have tQ:(CJ w).length=w.aS.length:=by unfold CJ;rw[aF]
 have Ah:∀i,i<w.aS.length->((List.range w.aS.length).map u).getD i 0=u i:=fun i hi=>by
  rw[ab,aV,cH hi];rfl
 have cn:∀i f,w.aS[i]?=some f->(abD w).getD i default=Fl w f:=fun i f hf=>by
  rw[ab,aV,hf];rfl
 have key:∀(i:Nat) (f:dm) (r:Cr),w.aS[i]?=some f->l[i]?=some r->
  Fit (tW w f f.fB) r/\f.c8.eC.zero.lo<=r.zero/\r.zero<=f.c8.eC.zero.hi/\inr (r.L w.base.term) 0 12000/\(u5 (r.L w.base.term) (CI (Fl w f) w.week)).lo<=u i/\u i<=(u5 (r.L w.base.term) (CI (Fl w f) w.week)).hi:=fun i f r hf hr=>by
  have bP:=(ai.1 hf).1
  have hd:=h.CK.dr i f r hf hr
  have ho:=h.ok i f r hf hr
  have hx:=hw.ok.sh f (ao hf)
  have hL:inr (r.L w.base.term) 0 12000:=(hd.ls w.base.term.toNat (by have:=hw.tm;omega)).l1
  have tc:=Ue (w:=w) (rB hx.P').1 f.fB hd (fun m hm=>acS (ho.1 m hm)) (fun d hd e=>acS (ho.2 d hd e.symm))
  have e1:=hu.lo i (by omega)
  have e2:=hu.hi i (by omega)
  simp only[abS (show i<(abD w).length by omega) hNl,cn i f hf]at e1 e2
  have e3:(lvT w l).getD i 0=r.L w.base.term:=by
   rw[ab,aV,hr];rfl
  rw[e3]at e1 e2
  unfold u5
  rw[if_pos hL]
  exact⟨tc,hd.z1,hd.z2,hL,e1,e2⟩
 refine⟨(List.range w.aS.length).map u,⟨fun i hi=>?_,fun i k hi hk=>?_⟩,fun i f r hf hr=>?_⟩
 ·rw[tQ]at hi
  have hf:w.aS[i]?=some w.aS[i]:=ae hi
  have hr:l[i]?=some (l[i]'(by omega)):=ae (by omega)
  generalize w.aS[i]=f at hf
  generalize l[i]'(by omega)=r at hr
  obtain⟨k1,k2,k3,k4,k5,k6⟩:=key i f r hf hr
  rw[Ah i hi]
  have KU:=ao hf
  have hc:=Nv hw.ok KU (hw.TM f KU) f.fB
  have hcv:=XL hc k1 k2 k3 (k:=w.base.term.toNat) (by show((w.base.term.toNat:Nat):Int)<=w.base.bD;have:=hw.tm;omega)
  rw[show((w.base.term.toNat:Nat):Int)=w.base.term by have:=hw.tm;omega]at hcv
  have hs:(CJ w)[i]?=some (XD w f):=by rw[CJ,aV,hf];rfl
  have hg:(zH ((CJ w).map aeR.tm) (CJ w)).getD i []=jI [] (FH (XD w f).tm (XD w f).h):=by
   unfold zH
   rw[ab,aV,(ir (z:=((XD w f).tm,XD w f))).2 ⟨by rw[aV,hs];rfl,hs⟩];rfl
  have hz:=Ti (tC (Fm hw KU).2).2.2 hw.wk.1
  have hb:=abt (l:=r.L w.base.term) (h:=CI (Fl w f) w.week) hz
  refine⟨?_,?_⟩
  ·rw[hg]
   refine(tD _ _).2 ⟨u5 (r.L w.base.term) (CI (Fl w f) w.week),?_,k5,k6⟩
   obtain⟨t,ht,h1,h2⟩:=(tD _ _).2 hcv
   exact fc.2 ⟨t,ht,aO.2 ⟨_,VZ.2 ⟨h1,h2⟩,rfl⟩⟩
  ·have:(List.replicate (CJ w).length (0:Int)).getD i 0=0:=by
    rw[ab,fl];split<;>rfl
   rw[this];omega
 ·rw[tQ]at hi hk
  rw[Ah i hi,Ah k hk]
  have hf:w.aS[i]?=some w.aS[i]:=ae hi
  have hfk:w.aS[k]?=some w.aS[k]:=ae hk
  generalize w.aS[i]=f at hf
  generalize w.aS[k]=g at hfk
  have hb:=hu.bd k i (by omega) (by omega)
  unfold WW at hb
  rw[cn i f hf,cn k g hfk,acf]at hb
  have hs:(CJ w)[i]?=some (XD w f):=by rw[CJ,aV,hf];rfl
  have hsk:(CJ w)[k]?=some (XD w g):=by rw[CJ,aV,hfk];rfl
  have e:((bdW w).getD i []).getD k 0=G2 w.base.fixed w.base.each (Fl w f) (Fl w g):=by
   unfold bdW
   rw[ab,ab,aV,hs,aY,bV,aV,hsk];rfl
  rw[e];exact hb
 ·have bP:=(ai.1 hf).1
  obtain⟨k1,k2,k3,k4,k5,k6⟩:=key i f r hf hr
  rw[Ah i bP]
  exact⟨k1,k2,k3,k5,k6⟩
end Go.Proofs.YtgopgjnfhkoomaaGreat
