/- Part 14 of the texts: abstract values over the walk; contracts. -/
import Derived.Test.YtgopgjnfhkoomaaGreatBu12
import Derived.Test.YtgopgjnfhkoomaaGreatBu13
import Derived.Test.YtgopgjnfhkoomaaGreatRows
set_option linter.unusedVariables false
set_option linter.unusedSimpArgs false
namespace Go.Proofs.YtgopgjnfhkoomaaGreat
open Go.Abs
open Nat (reduceAdd reduceSub reduceLT reduceLeDiff reduceMul reduceEqDiff)
set_option maxHeartbeats 4000000
set_option maxRecDepth 100000
def rE(p:AN):Pp:=⟨p.mU,p.ej,p.lj,p.low,p.high,p.jY,p.along,p.fW⟩
noncomputable def tK(s:fT):List (List Sp)×Int:=wq (rE s.bz) s.trace s.eu
theorem Hq(s:fT)(h1:s.trace.length<1000000000)(h2:s.eu.length<9223372036854775808):Pure Tryz.prog 151 [.agg s.cs] (Cy (tK s).1):=by
 refine jX Tryz.f151.eq_1 [] [] ?_
 have h3:=zB (rE s.bz) s.trace s.eu h1 h2
 unfold tK
 rw[show(rE s.bz).cs=AN.cs s.bz from rfl]at h3
 generalize wq (rE s.bz) s.trace s.eu=I at*
 refine Az @zN @h3 ?_;intros
 all_goals exact Fq
def s7(s:fT)(mk rd tk ik gp ls ix zr:AV):List AV:=[n s.bz.mU,n s.bz.ej,n s.bz.lj,n s.bz.low,n s.bz.high,n s.bz.jY,n s.bz.along.lo,n s.bz.along.hi,n s.bz.fW.lo,n s.bz.fW.hi,
 AO s.trace,l9 s.eu,ec s.rates,mb s.stops,n s.eC.cS,n s.eC.zero.lo,n s.eC.zero.hi,n s.eC.kc,mk,rd,tk,ik,gp,ls,ix,zr]
theorem zO:(∀s a b c d e f g h,(s7 s a b c d e f g h).length=26)/\(∀s a b c d e f g h,(s7 s a b c d e f g h).take 18=fT.cs s)/\(∀s a b c d e f g h,((s7 s a b c d e f g h).drop 12).take 2=[ec s.rates,mb s.stops])/\(∀s a b c d e f g h,(s7 s a b c d e f g h).getD 12 .any=ec s.rates)/\(∀s a b c d e f g h,(s7 s a b c d e f g h).getD 15 .any=n s.eC.zero.lo)/\(∀s a b c d e f g h,(s7 s a b c d e f g h).getD 16 .any=n s.eC.zero.hi)/\(∀s a b c d e f g h,(s7 s a b c d e f g h).getD 19 .any=b)/\(∀s a b c d e f g h,(s7 s a b c d e f g h).getD 22 .any=e)/\(∀s a b c d e f g h,(s7 s a b c d e f g h).getD 25 .any=h)/\(∀s a b c d e f g h x,(s7 s a b c d e f g h).take 19++x::(s7 s a b c d e f g h).drop 20=s7 s a x c d e f g h)/\(∀s a b c d e f g h x,(s7 s a b c d e f g h).take 21++x::(s7 s a b c d e f g h).drop 22=s7 s a b c x e f g h)/\(∀s a b c d e f g h x,(s7 s a b c d e f g h).take 22++x::(s7 s a b c d e f g h).drop 23=s7 s a b c d x f g h)/\(∀s a b c d e f g h x,(s7 s a b c d e f g h).take 25++x::(s7 s a b c d e f g h).drop 26=s7 s a b c d e f g x):=by
 refine⟨?_,?_,?_,?_,?_,?_,?_,?_,?_,?_,?_,?_,?_⟩<;>intros<;>rfl
theorem BX(σ:aG)(w:Wk)(f:dm)(st:Int)(h1:f.c8.trace.length<1000000000)(h2:f.c8.eu.length<9223372036854775808)(hd:gV f.c8.rates f.c8.stops)(hp:f.c8.eC.ok)(hr:w.reads.length<=64):eY Tryz.prog 78 [.agg w.cs,.agg f.cs,n st] σ (fun r σ'=>r=.ptr (σ.length+1) 0 1 0 0/\∃ν,σ'=σ++some [rA []]::some [DZ (Hh (fun s=>(tK s).1) w f st) (.v (.slice none 0 0)) (.mp σ.length)]::ν):=by
 refine Fi Tryz.f78.eq_1 [23] [.l [7,13],.l [7,61,62],.v 0 1 7,.l [2,7,25,26,27],.v 0 1 7] ?_
 obtain⟨nl,Oi⟩:∃x:AV,x=.v (.slice none 0 0):=⟨_,rfl⟩
 obtain⟨B,hB⟩:∃B:List AV->aG,∀a,B a=σ++[some [rA []],some [⟨185,26,[a],none⟩]]:=⟨_,fun _=>rfl⟩
 have qF:∀a,(B a).length=σ.length+2:=fun a=>by rw[hB];simp
 have fA:∀a r,aG.at (B a++r) (σ.length+1) 0=some ⟨185,26,[a],none⟩:=fun a r=>by rw[hB,aW,dR];rfl
 have uA:∀a a' r,aG.cZ (B a++r) (σ.length+1) 0 ⟨185,26,[a'],none⟩=B a'++r:=fun a a' r=>by rw[hB,hB,aW,fC];simp[aG.cZ]
 have fL:∀a (ν:aG) o r,aG.at (B a++(ν++some [o]::r)) (σ.length+2+ν.length) 0=some o:=fun a ν o r=>by rw[<-qF a,dR,dV];rfl
 have uL:∀a (ν:aG) o o' r,aG.cZ (B a++(ν++some [o]::r)) (σ.length+2+ν.length) 0 o'=B a++(ν++some [o']::r):=fun a ν o o' r=>by rw[<-qF a,fC];simp[aG.cZ]
 have gL:∀a (ν:aG) o r,gone (B a++(ν++some [o]::r)) (σ.length+2+ν.length)=B a++(ν++none::r):=fun a ν o r=>by rw[<-qF a,zc];congr 1;simp[gone]
 refine Ax @zN ?_;intros
 refine aR.pQ (σ':=B (s7 f.c8 (mb f.marks) nl (n w.base.bD) nl nl nl (.mp σ.length) nl)++[]) (by rw[hB,Oi,bb];rfl) ?_
 refine aR.lH 71 5 (f:=σ.length+1) (i:=0) (e:=0) (j:=19) (fA _ _) (by simp) (by rw[Oi];rfl) ?_
 obtain⟨F,hF⟩:∃F:Nat->List Rd,∀k,F k=(w.reads.take k).filter fun r=>decide (r.fB=st):=⟨_,fun _=>rfl⟩
 refine aR.pQ (σ':=B (s7 f.c8 (mb f.marks) (.own (σ.length+2+([]:aG).length) 0 (F 0).length) (n w.base.bD) nl nl nl (.mp σ.length) nl)++([]++some [⟨71,5,(F 0).map Rd.cs,none⟩]::[])) ?_ ?_
 ·rw[bb]
  refine(uA _ _ _).trans ?_
  rw[qF,hF];rfl
 refine aR.lr (α:={x:Nat×aG//x.1<=w.reads.length}) [27] (fun x=>[(27,n x.1.1)]) (fun x=>B (s7 f.c8 (mb f.marks) (.own (σ.length+2+([]:aG).length) 0 (F x.1.1).length) (n w.base.bD) nl nl nl (.mp σ.length) nl)++([]++some [⟨71,5,(F x.1.1).map Rd.cs,none⟩]::x.1.2)) (fun x=>w.reads.length-x.1.1) ⟨(0,[]),aQ _⟩ ?_
 rintro⟨⟨k,ν⟩,hk⟩
 simp only at hk
 simp only
 by_cases bP:k<w.reads.length
 ·obtain⟨d,FV⟩:∃d,w.reads[k]?=some d:=⟨_,ae bP⟩
  have cX:(w.reads.map Rd.cs).getD k []=Rd.cs d:=getD_map FV
  have Yz:F (k+1)=if d.fB=st then F k++[d]else F k:=by
   rw[hF,hF,ba,FV,fK]
   by_cases e:d.fB=st<;>simp[e]
  have hFl:(F k).length<=64:=by rw[hF];have:=bK (fun r:Rd=>decide (r.fB=st)) (w.reads.take k);simp at this;omega
  have fE:∀a (y:Option (List Ob)) (ν:aG) o r,aG.at (B a++y::(ν++some [o]::r)) (σ.length+(2+(ν.length+1))) 0=some o:=fun a y ν o r=>by
   rw[show σ.length+(2+(ν.length+1))=(B a).length+(ν.length+1) by rw[qF];omega,dR,cQ,dV];rfl
  have uE:∀a (y:Option (List Ob)) (ν:aG) o o' r,aG.cZ (B a++y::(ν++some [o]::r)) (σ.length+(2+(ν.length+1))) 0 o'=B a++y::(ν++some [o']::r):=fun a y ν o o' r=>by
   rw[show σ.length+(2+(ν.length+1))=(B a).length+(ν.length+1) by rw[qF];omega,fC];simp[aG.cZ]
  have fD:∀a o r,aG.at (B a++some [o]::r) (σ.length+2) 0=some o:=fun a o r=>by rw[<-qF a,dV];rfl
  have uD:∀a o o' r,aG.cZ (B a++some [o]::r) (σ.length+2) 0 o'=B a++some [o']::r:=fun a o o' r=>by rw[<-qF a];have:=fC (B a) (some [o]::r) 0 0 o';rw[eE]at this;rw[this];rfl
  generalize W5:F (k+1)=F1 at*
  generalize hFk:F k=F0 at*
  by_cases cn:d.fB=st
  ·rw[if_pos cn]at Yz
   (repeat' ((first|refine vn rfl ?_|simp(disch:=omega) only[cB,aj]|refine bo (fun _=>?_) fun _=>?_|refine im fun _=>?_|refine cF ?_|refine om ?_|refine an ?_|fail)<;>try simp only[zN,zT,zV,zS,zU,dC,ex,bu,bN,elems,cells,scalar,dH,bL,aX,aU,bJ,bI,Nat.reduceBEq,reduceAdd,reduceSub,reduceLT,reduceLeDiff,reduceMul,reduceEqDiff,reduceIte,cX,zO,fA,uA,fE,uE,fD,uD,qF,cn]))
   all_goals try(exfalso;omega)
   refine⟨⟨(k+1,ν++[some [⟨71,5,[[n st,n d.week,n d.tick,n d.levels.lo,n d.levels.hi]],none⟩]]),bP⟩,by simp,?_,by simp only;omega⟩
   simp only[W5,Yz,di,aM,bq,dL]
   rw[<-cn];rfl
  ·rw[if_neg cn]at Yz
   (repeat' ((first|refine vn rfl ?_|simp(disch:=omega) only[cB,aj]|refine bo (fun _=>?_) fun _=>?_|refine im fun _=>?_|refine cF ?_|refine om ?_|refine an ?_|fail)<;>try simp only[zN,zT,zV,zS,zU,dC,ex,bu,bN,elems,cells,scalar,dH,bL,aX,aU,bJ,bI,Nat.reduceBEq,reduceAdd,reduceSub,reduceLT,reduceLeDiff,reduceMul,reduceEqDiff,reduceIte,cX,zO,fA,uA,fE,uE,fD,uD,qF,cn]))
   all_goals try(exfalso;omega)
   refine⟨⟨(k+1,ν++[some [⟨71,5,[Rd.cs d],none⟩]]),bP⟩,by simp,?_,by simp only;omega⟩
   simp only[W5,Yz]
 ·obtain rfl:k=w.reads.length:=by omega
  have hI:=Hq f.c8 h1 h2
  refine aR.sm (f:=σ.length+2) (n:=(F w.reads.length).length) (h:=σ.length+1) (e:=0) (j:=19) (o:=⟨71,5,(F w.reads.length).map Rd.cs,none⟩) (fL _ [] _ _) (by simp) (by simp) (fA _ _) (by omega) rfl (by simp) rfl ?_
  refine aR.pQ (σ':=B (s7 f.c8 (mb f.marks) (Jw (F w.reads.length)) (n w.base.bD) nl nl nl (.mp σ.length) nl)++(none::ν)) ?_ ?_
  ·rw[show gone (B (s7 f.c8 (mb f.marks) (.own (σ.length+2+([]:aG).length) 0 (F w.reads.length).length) (n w.base.bD) nl nl nl (.mp σ.length) nl)++([]++some [⟨71,5,(F w.reads.length).map Rd.cs,none⟩]::ν)) (σ.length+2)=_ from gL _ [] _ _]
   exact uA _ _ _
  generalize none::ν=gz
  have hFe:F w.reads.length=w.reads.filter fun r=>decide (r.fB=st):=by rw[hF,aI]
  generalize F w.reads.length=F0 at*
  obtain⟨I,hIe⟩:∃I,I=(tK f.c8).1:=⟨_,rfl⟩
  rw[<-hIe]at hI
  (repeat' ((first|refine vn rfl ?_|simp(disch:=omega) only[cB,aj]|refine bo (fun _=>?_) fun _=>?_|refine im fun _=>?_|((repeat refine si ?_);(first|((first|refine .inl ⟨_,_,_,_,rfl,fun _=>pu hI,?_⟩|refine⟨_,_,_,_,rfl,fun _=>pu hI,?_⟩);(first|refine o1 ?_|refine o4 ?_))|refine .inl ⟨_,_,_,_,rfl,pu hI,?_⟩))|refine cF ?_|refine om ?_|refine an ?_|fail)<;>try simp only[zN,zT,zV,zS,zU,dC,ex,bu,bN,elems,cells,scalar,dH,bL,aX,aU,bJ,bI,Nat.reduceBEq,reduceAdd,reduceSub,reduceLT,reduceLeDiff,reduceMul,reduceEqDiff,reduceIte,zO,fA,uA]))
  all_goals try(exfalso;omega)
  obtain⟨G,hG⟩:∃G,G=i_ f.c8.rates f.c8.stops:=⟨_,rfl⟩
  have hGl:G.length=f.c8.rates.length:=by rw[hG];exact(rB hd).1
  have hN:=hd.1
  refine aR.lH 52 2 (f:=σ.length+1) (i:=0) (e:=0) (j:=22) (fA _ _) (by simp) (by rw[Oi];rfl) ?_
  refine aR.pQ (σ':=B (s7 f.c8 (mb f.marks) (Jw F0) (n w.base.bD) (mZ I) (.own (σ.length+2+gz.length) 0 (G.take 0).length) nl (.mp σ.length) nl)++(gz++some [⟨52,2,(G.take 0).map Sp.cs,none⟩]::[])) ?_ ?_
  ·rw[aW]
   refine(uA _ _ _).trans ?_
   rw[aM,qF];rfl
  refine aR.lr (α:={x:Nat×aG//x.1<=G.length}) [62] (fun x=>[(62,n x.1.1)]) (fun x=>B (s7 f.c8 (mb f.marks) (Jw F0) (n w.base.bD) (mZ I) (.own (σ.length+2+gz.length) 0 (G.take x.1.1).length) nl (.mp σ.length) nl)++(gz++some [⟨52,2,(G.take x.1.1).map Sp.cs,none⟩]::x.1.2)) (fun x=>G.length-x.1.1) ⟨(0,[]),aQ _⟩ ?_
  rintro⟨⟨k,ν⟩,hk⟩
  simp only at hk
  simp only
  obtain⟨L,hL⟩:∃L,σ.length+2+gz.length=L:=⟨_,rfl⟩
  rw[hL]
  by_cases bP:k<G.length
  ·obtain⟨g,hg⟩:∃g,G[k]?=some g:=⟨_,ae bP⟩
   have hGn:G.take (k+1)=G.take k++[g]:=ey hg
   have hGk:(G.take k).length<=199:=by simp;omega
   have h3:=Nc f.c8.rates f.c8.stops hd k (by omega)
   rw[<-hG,show G.getD k ⟨0,0⟩=g by rw[ab,hg];rfl]at h3
   have fD:∀a o r,aG.at (B a++(gz++some [o]::r)) L 0=some o:=fun a o r=>by rw[<-hL];exact fL a gz o r
   have uD:∀a o o' r,aG.cZ (B a++(gz++some [o]::r)) L 0 o'=B a++(gz++some [o']::r):=fun a o o' r=>by rw[<-hL];exact uL a gz o o' r
   have fE:∀a (y:Option (List Ob)) (ν:aG) o r,aG.at (B a++(gz++y::(ν++some [o]::r))) (σ.length+(2+(gz.length+(ν.length+1)))) 0=some o:=fun a y ν o r=>by
    rw[show σ.length+(2+(gz.length+(ν.length+1)))=(B a).length+(gz.length+(ν.length+1)) by rw[qF];omega,dR,dR,cQ,dV];rfl
   have uE:∀a (y:Option (List Ob)) (ν:aG) o o' r,aG.cZ (B a++(gz++y::(ν++some [o]::r))) (σ.length+(2+(gz.length+(ν.length+1)))) 0 o'=B a++(gz++y::(ν++some [o']::r)):=fun a y ν o o' r=>by
    rw[show σ.length+(2+(gz.length+(ν.length+1)))=(B a).length+(gz.length+(ν.length+1)) by rw[qF];omega,fC,fC];simp[aG.cZ]
   generalize aaj:G.take (k+1)=G1 at*
   generalize hGk:G.take k=G0 at*
   (repeat' ((first|refine vn rfl ?_|simp(disch:=omega) only[cB,aj]|refine bo (fun _=>?_) fun _=>?_|refine im fun _=>?_|((repeat refine si ?_);(first|((first|refine .inl ⟨_,_,_,_,rfl,fun _=>pu h3,?_⟩|refine⟨_,_,_,_,rfl,fun _=>pu h3,?_⟩);(first|refine o1 ?_|refine o4 ?_))|refine .inl ⟨_,_,_,_,rfl,pu h3,?_⟩))|refine cF ?_|refine om ?_|refine an ?_|fail)<;>try simp only[zN,zT,zV,zS,zU,dC,ex,bu,bN,elems,cells,scalar,dH,bL,aX,aU,bJ,bI,Nat.reduceBEq,reduceAdd,reduceSub,reduceLT,reduceLeDiff,reduceMul,reduceEqDiff,reduceIte,zO,fA,uA,fD,uD,fE,uE,qF]))
   all_goals try(exfalso;omega)
   refine⟨⟨(k+1,ν++[some [⟨52,2,[Sp.cs g],none⟩]]),bP⟩,by simp,?_,by simp only;omega⟩
   simp only[aaj,hGn,di,aM,bq,dL]
   rfl
  ·obtain rfl:k=G.length:=by omega
   refine aR.sm (f:=L) (n:=(G.take G.length).length) (h:=σ.length+1) (e:=0) (j:=22) (o:=⟨52,2,(G.take G.length).map Sp.cs,none⟩) (by rw[<-hL];exact fL _ gz _ _) (by simp) (by simp) (fA _ _) (by omega) rfl (by simp) rfl ?_
   refine aR.pQ (σ':=B (s7 f.c8 (mb f.marks) (Jw F0) (n w.base.bD) (mZ I) (ec (G.take G.length)) nl (.mp σ.length) nl)++(gz++none::ν)) ?_ ?_
   ·rw[show∀a o r,gone (B a++(gz++some [o]::r)) L=B a++(gz++none::r)from fun a o r=>by rw[<-hL];exact gL a gz o r]
    exact uA _ _ _
   generalize gz++none::ν=gz
   rw[aI]
   have hz:=hp
   unfold Pn.ok at hz
   (repeat' ((first|refine vn rfl ?_|simp(disch:=omega) only[cB,aj]|refine bo (fun _=>?_) fun _=>?_|refine im fun _=>?_|refine cF ?_|refine om ?_|refine an ?_|fail)<;>try simp only[zN,zT,zV,zS,zU,dC,ex,bu,bN,elems,cells,scalar,dH,bL,aX,aU,bJ,bI,Nat.reduceBEq,reduceAdd,reduceSub,reduceLT,reduceLeDiff,reduceMul,reduceEqDiff,reduceIte,zO,fA,uA]))
   all_goals try(exfalso;omega)
   clear hL L
   obtain⟨Z,hZ⟩:∃Z,Z=Ch.zs (Hh (fun s=>(tK s).1) w f st):=⟨_,rfl⟩
   have hZl:Z.length=(f.c8.eC.zero.hi+1-f.c8.eC.zero.lo).toNat:=by rw[hZ];unfold Ch.zs;simp[Hh]
   have hZg:∀k,k<Z.length->Z[k]?=some ((k:Int)+f.c8.eC.zero.lo):=fun k hk=>by
    rw[hZl]at hk;rw[hZ];unfold Ch.zs;simp[Hh,hk]
   refine aR.lH 3 1 (f:=σ.length+1) (i:=0) (e:=0) (j:=25) (fA _ _) (by simp) (by rw[Oi];rfl) ?_
   refine aR.pQ (σ':=B (s7 f.c8 (mb f.marks) (Jw F0) (n w.base.bD) (mZ I) (ec G) nl (.mp σ.length) (.own (σ.length+2+gz.length) 0 (Z.take 0).length))++(gz++some [⟨3,1,(Z.take 0).map fun z=>[n z],none⟩]::[])) ?_ ?_
   ·rw[aW]
    refine(uA _ _ _).trans ?_
    rw[aM,qF];rfl
   refine aR.lr (α:={x:Nat×aG//x.1<=Z.length}) [13] (fun x=>[(13,n ((x.1.1:Int)+f.c8.eC.zero.lo))]) (fun x=>B (s7 f.c8 (mb f.marks) (Jw F0) (n w.base.bD) (mZ I) (ec G) nl (.mp σ.length) (.own (σ.length+2+gz.length) 0 (Z.take x.1.1).length))++(gz++some [⟨3,1,(Z.take x.1.1).map fun z=>[n z],none⟩]::x.1.2)) (fun x=>Z.length-x.1.1) ⟨(0,[]),aQ _⟩ ?_
   rintro⟨⟨k,ν⟩,hk⟩
   simp only at hk
   simp only
   obtain⟨L,hL⟩:∃L,σ.length+2+gz.length=L:=⟨_,rfl⟩
   rw[hL]
   have fD:∀a o r,aG.at (B a++(gz++some [o]::r)) L 0=some o:=fun a o r=>by rw[<-hL];exact fL a gz o r
   have uD:∀a o o' r,aG.cZ (B a++(gz++some [o]::r)) L 0 o'=B a++(gz++some [o']::r):=fun a o o' r=>by rw[<-hL];exact uL a gz o o' r
   by_cases bP:k<Z.length
   ·have hZk:(Z.take k).length<=41:=by simp;omega
    have hZn:Z.take (k+1)=Z.take k++[(k:Int)+f.c8.eC.zero.lo]:=ey (hZg k bP)
    generalize aak:Z.take (k+1)=Z1 at*
    generalize hZk:Z.take k=Z0 at*
    (repeat' ((first|refine vn rfl ?_|simp(disch:=omega) only[cB,aj]|refine bo (fun _=>?_) fun _=>?_|refine im fun _=>?_|refine cF ?_|refine om ?_|refine an ?_|fail)<;>try simp only[zN,zT,zV,zS,zU,dC,ex,bu,bN,elems,cells,scalar,dH,bL,aX,aU,bJ,bI,Nat.reduceBEq,reduceAdd,reduceSub,reduceLT,reduceLeDiff,reduceMul,reduceEqDiff,reduceIte,zO,fA,uA,fD,uD,qF]))
    all_goals try(exfalso;omega)
    refine⟨⟨(k+1,ν),bP⟩,by simp;omega,?_,by simp only;omega⟩
    simp only[aak,hZn,di,aM,bq,dL]
    rfl
   ·obtain rfl:k=Z.length:=by omega
    refine aR.sm (f:=L) (n:=(Z.take Z.length).length) (h:=σ.length+1) (e:=0) (j:=25) (o:=⟨3,1,(Z.take Z.length).map fun z=>[n z],none⟩) (fD _ _ _) (by simp) (by simp) (fA _ _) (by omega) rfl (by simp) rfl ?_
    refine aR.pQ (σ':=B (s7 f.c8 (mb f.marks) (Jw F0) (n w.base.bD) (mZ I) (ec G) nl (.mp σ.length) (l9 (Z.take Z.length)))++(gz++none::ν)) ?_ ?_
    ·rw[show∀a o r,gone (B a++(gz++some [o]::r)) L=B a++(gz++none::r)from fun a o r=>by rw[<-hL];exact gL a gz o r]
     exact uA _ _ _
    generalize gz++none::ν=gz
    rw[aI]
    (repeat' ((first|refine vn rfl ?_|simp(disch:=omega) only[cB,aj]|refine bo (fun _=>?_) fun _=>?_|refine im fun _=>?_|refine cF ?_|refine om ?_|refine an ?_|fail)<;>try simp only[zN,zT,zV,zS,zU,dC,ex,bu,bN,elems,cells,scalar,dH,bL,aX,aU,bJ,bI,Nat.reduceBEq,reduceAdd,reduceSub,reduceLT,reduceLeDiff,reduceMul,reduceEqDiff,reduceIte,zO,fA,uA]))
    all_goals try(exfalso;omega)
    refine⟨gz,?_⟩
    rw[hB,aW,hFe,hZ,hG,hIe,Oi]
    rfl
theorem IE{σ:aG}{f g i:Nat}{o:Ob}(h:f≠g):(σ.cZ g i o)[f]?=σ[f]?:=by
 have h':g≠f:=fun e=>h e.symm
 unfold aG.cZ
 cases σ[g]? with
 |none=>rfl
 |some G=>cases G with
  |none=>rfl
  |some G=>exact bW h'
theorem shut{P:Program}{N:Nat}{rd:Option Nat}{C0:C}{K:e7}{env:Env}{S:aG}{t A M L:Nat}(c:Ch)(ht:gt env t=.ptr A 0 1 0 0)(hA:S.at A 0=some (DZ c (.own L 0 c.iY.length) (.mp M)))(hM:S.at M 0=some (rA c.iY))(hL:S.at L 0=some ⟨282,3,c.iY.map St.cs,none⟩)(h1:A≠M)(h2:A≠L)(h3:M≠L)(h:∀S',S'.length=S.length->(∀f,f≠A->f≠M->f≠L->S'[f]?=S[f]?)->aR P N rd C0 K ((t,.bZ (A7 c) 0)::env) S'):aR P N rd C0 K env S:=by
 refine aR.sm (h:=A) (e:=0) (j:=23) hL (by simp) (by simp) hA h2 rfl (by simp) rfl ?_
 have YA:∀o,(aG.cZ (gone S L) A 0 o).at M 0=some (rA c.iY):=fun o=>by rw[cx (.inl h1)];unfold aG.at gone at*;rwa[bW (fun e=>h3 e.symm)]
 have hA2:(gone S L).at A 0=some (DZ c (.own L 0 c.iY.length) (.mp M)):=by unfold aG.at gone at*;rwa[bW (fun e=>h2 e.symm)]
 refine aR.PZ (n:=3) (h:=A) (e:=0) (j:=24) (YA _) rfl (cu hA2) h1 rfl (by simp) rfl ?_
 refine aR.H' (n:=1) ht (cu (o:=⟨185,26,[oo c (Ln c.iY) (.mp M)],none⟩) ?_) rfl (by decide) ?_
 ·unfold aG.at gone at*
  rw[bW (fun e=>h1 e.symm)]
  exact cu hA2
 refine h _ ?_ fun f e1 e2 e3=>?_
 ·simp[gone,eW]
 ·simp only[gone]
  rw[bW (fun e=>e1 e.symm),IE e1,bW (fun e=>e2 e.symm),IE e1,bW (fun e=>e3 e.symm)]
theorem DB(w:Wk)(i:Nat)(f:dm)(hf:w.aS[i]?=some f)(c:Ch)(he:c=Hh (fun s=>(tK s).1) w f f.fB)(hc:c.ok)(h1:f.c8.trace.length<1000000000)(h2:f.c8.eu.length<9223372036854775808)(hd:gV f.c8.rates f.c8.stops)(hp:f.c8.eC.ok)(hr:w.reads.length<=64):Pure Tryz.prog 31 [.agg w.cs,n i] (if 4000<c.iY.length then .iu [.v (.pointer none),n 2]else .iu [.bZ (A7 c) 0,n 0]):=by
 refine et 25 (jo [jx 2 38 9 0,jw 4 (.mv (.c (.pointer none))),jc 5 0] [1,2] (.seq (.draw [jk 7 9 2,jf 8 7 2,jl 9 8,jm 10 1,ji 11 24 9 10,jk 12 24 11,jf 13 7 2,jl 14 13,jm 15 1,ji 16 24 14 15,jf 17 2 16,jl 18 17] [jy 19 78 [7,12,18],jm 6 19] [6]) (.seq (jo [jm 20 6,jy 21 79 [20]] [6,21] (.cond (.t 21) (jo [jw 4 (.mv (.c (.pointer none))),jc 5 2] [4,5] .ret) .skip)) (jo [jm 22 6,jy 23 80 [22]] [6] (jo [jm 24 6,jm 4 24,jc 5 0] [4,5] .ret))))) [.t 4,.t 5] Tryz.call31 Tryz.func31 ?_
 have cX:(w.aS.map dm.cs).getD i []=dm.cs f:=getD_map hf
 have bP:i<w.aS.length:=by
  rcases cm i w.aS.length with h|h
  ·exact h
  ·rw[b_ h]at hf;cases hf
 have ho:=BX [] w f f.fB h1 h2 hd hp hr
 rw[<-he]at ho
 refine Ax (aa @zN @cX) ?_;intros
 refine .inr (.inl ⟨_,_,_,_,rfl,fun _=>⟨ho,?_⟩,fun h=>by cases h⟩)
 rintro r1 lN ⟨rfl,ν,rfl⟩
 refine aH ?_
 refine adL ?_
 have hl:=jg.plain (σ:=[]++some [rA []]::some [DZ c (.v (.slice none 0 0)) (.mp ([]:aG).length)]::ν) (args:=[.ptr (([]:aG).length+1) 0 1 0 0]) (G7 c hc .any .any bC.any bC.any) (by simp[bC.any]) ⟨M5 rfl,trivial⟩
 have hn:=w_ (some [rA []]::some [DZ c (.v (.slice none 0 0)) (.mp 0)]::ν) c hc 1 0 (by decide) rfl rfl
 by_cases hb:4000<c.iY.length
 ·rw[if_pos hb]
  refine Az @hb @hl ?_;intros
  exact Fq
 ·rw[if_neg hb]
  refine Az @hb @hl ?_;intros
  refine .inr (.inl ⟨_,_,_,_,rfl,fun _=>⟨hn,?_⟩,fun h=>by cases h⟩)
  rintro r1 lN ⟨gz,rfl⟩
  refine aH ?_
  refine adL ?_
  refine aR.pQ (σ':=some [rA c.iY]::some [DZ c (.own (ν.length+2) 0 c.iY.length) (.mp 0)]::(ν++some [⟨282,3,c.iY.map St.cs,none⟩]::gz)) rfl ?_
  refine shut c (t:=6) (A:=1) (M:=0) (L:=ν.length+2) rfl rfl rfl ?_ (by decide) (by omega) (by omega) fun S' _ _=>?_
  ·have:=dV (some [rA c.iY]::some [DZ c (.own (ν.length+2) 0 c.iY.length) (.mp 0)]::ν) (some [⟨282,3,c.iY.map St.cs,none⟩]::gz) 0
   exact this
  have Dn:=kf c 0
  refine Au ?_;intros
  exact Fq
noncomputable def K9(c:Ch)(l:List Int):List (List AV):=l.map fun z=>[Af (c.iZ z),n z]
theorem Nu{c:Ch}{k:Nat}{z:Int}(h:(Ch.zs c)[k]?=some z):z=(k:Int)+c.sh.eC.zero.lo/\z<=c.sh.eC.zero.hi:=by
 have hk:k<(Ch.zs c).length:=by
  rcases cm k (Ch.zs c).length with h'|h'
  ·exact h'
  ·rw[b_ h']at h;cases h
 unfold Ch.zs at h hk
 simp only[aF,a_]at hk
 rw[aV,cH hk]at h
 simp at h;omega
theorem T1(c:Ch):(Ch.zs c).length=(c.sh.eC.zero.hi+1-c.sh.eC.zero.lo).toNat:=by simp[Ch.zs]
theorem Fg{c:Ch}(hc:c.ok)(hf:c.iY.length<=4000)(z:Int):E0 (c.iZ z):=by
 have h2:=hc.t2
 refine⟨by rw[mJ hc];omega,fun l hl=>?_⟩
 obtain⟨t,_,rfl⟩:=aO.1 hl
 refine⟨by rw[aF];omega,fun x hx=>?_⟩
 obtain⟨s,hs,rfl⟩:=aO.1 hx
 have h3:=(wY hc s t z).1
 have h4:=(yU hc hs).1
 refine⟨by unfold Ch.Mw;simp only;omega,?_⟩
 unfold Ch.Mw
 simp only
 split
 ·omega
 ·simp
noncomputable abbrev pM(s:fT):List (List Sp):=(tK s).1
noncomputable abbrev tW(w:Wk)(f:dm)(st:Int):Ch:=Hh pM w f st
structure aal(w:Wk)(f:dm):Prop where
 ok:∀st,(tW w f st).ok
 eC:f.c8.eC.ok
 Yu:f.marks.length<=64
 Cy:(pM f.c8).length=f.c8.rates.length+1
 P':gV f.c8.rates f.c8.stops
 tr:f.c8.trace.length<1000000000
 bl:f.c8.eu.length<9223372036854775808
structure zG(w:Wk):Prop where
 sh:∀f∈w.aS,aal w f
 rd:∀r∈w.reads,0<=r.levels.lo/\r.levels.lo<=12000/\0<=r.levels.hi/\r.levels.hi<=12000
 rn:w.reads.length<=64
 sn:w.aS.length<=1000000
 st:w.base.dh.length<=1000000
noncomputable def p'(w:Wk)(f:dm):Nat:=(tW w f f.fB).iY.length
theorem Nv{w:Wk}(hw:zG w){f:dm}(hf:f∈w.aS)(hn:p' w f<=4000)(st:Int):zu (tW w f st):=by
 have h:=hw.sh f hf
 refine⟨h.ok st,h.eC,h.Yu,?_,?_,?_,hn⟩
 ·have h1:=hw.rn
  have h2:=bK (fun r:Rd=>decide (r.fB=st)) w.reads
  show(w.reads.filter fun r=>decide (r.fB=st)).length<=64
  omega
 ·show(pM f.c8).length=(i_ f.c8.rates f.c8.stops).length+1
  rw[h.Cy,(rB h.P').1]
 ·exact fun r hr=>hw.rd r (cM.1 hr).1
theorem rG(w:Wk)(i:Int)(hs:w.aS.length<=1000000):Pure Tryz.prog 46 [.agg w.cs,n i] (bl (decide (0<=i/\i<w.aS.length))):=by
 refine jX Tryz.f46.eq_1 [] [] ?_
 refine Au ?_;intros
 all_goals exact bO.eq (congrArg bl (by first|rfl|(rw[cV];simp<;>try omega))) (by simp)
theorem qd(w:Wk)(hw:zG w)(i:Nat)(f:dm)(hf:w.aS[i]?=some f):Pure Tryz.prog 31 [.agg w.cs,n i] (if 4000<p' w f then .iu [.v (.pointer none),n 2]else .iu [.bZ (A7 (tW w f f.fB)) 0,n 0]):=by
 have h:=hw.sh f (ao hf)
 exact DB w i f hf _ rfl (h.ok _) h.tr h.bl h.P' h.eC hw.rn
theorem IG(w:Wk):∀c∈w.cs,bC c:=by intro c hc;simp only[Wk.cs,aC,au,or_false]at hc;rcases hc with rfl|rfl|rfl|rfl|rfl|rfl|rfl|rfl|rfl<;>simp
theorem aam:GX 162 (fun a b=>a.1.lo-b.1.lo):=by
 refine⟨Tryz.call162,fun a b=>?_,fun a b=>by omega⟩
 obtain⟨a,ha⟩:=a
 obtain⟨b,hb⟩:=b
 refine jX Tryz.f162.eq_1 [] [] ?_
 simp only
 refine Au ?_;intros
 exact Fq
def rH(d:List Sp×List Mk)(m:Mk):Prop:=inr m.en 0 d.1.length/\ke m.bD 0 400
instance (d:List Sp×List Mk)(m:Mk):Decidable (rH d m):=by unfold rH;infer_instance
theorem Hu(d:List Sp×List Mk)(l:List Mk)(hd:d.1.length<9223372036854775808/\d.2.length<9223372036854775808)(hl:l.length<9223372036854775808):∃e i:Int,Pure Tryz.prog 148 [.agg [ec d.1,mb d.2],mb l] (.iu [n e,n i])/\(e=0->gV d.1 d.2/\l.length<=64/\∀m∈l,rH d m):=by
 have h1:=kM d.1 d.2 hd.1 hd.2
 have h2:=wc 213 [.bZ [ec d.1,mb d.2] 0] (fun c hc=>by
  simp only[bp]at hc
  subst hc
  exact bC.bZ (fun c hc=>by simp at hc;rcases hc with rfl|rfl<;>simp)) (fun m=>!decide (inr m.en 0 d.1.length/\ke m.bD 0 400)) l hl (fun m _=>uS d m hd.1)
 have h4:∀{z:Int},fj (fun m=>!decide (inr m.en 0 d.1.length/\ke m.bD 0 400)) 0 l=z->z<0->∀m∈l,rH d m:=fun e hz m hm=>by
  rw[<-e,vV,List.findIdx?_eq_none_iff]at hz
  have:=hz m hm
  simpa[rH]using this
 have h5:=h4 rfl
 clear h4
 generalize fj (fun m=>!decide (inr m.en 0 d.1.length/\ke m.bD 0 400)) 0 l=z at h2 h5
 refine⟨if¬gV d.1 d.2 then 20 else if 64<l.length then 2 else if z<0 then 0 else 21,if¬gV d.1 d.2 then 0 else if 64<l.length then 0 else if z<0 then 0 else z,?_,?_⟩
 ·refine jX Tryz.f148.eq_1 [] [] ?_
  by_cases ok:gV d.1 d.2
  ·rw[if_pos ok]at h1
   rw[if_neg (not_not_intro ok),if_neg (not_not_intro ok)]
   by_cases K_:64<l.length
   ·rw[if_pos K_,if_pos K_]
    refine Ay @h1 ?_;intros
    exact Fq
   ·rw[if_neg K_,if_neg K_]
    refine Ay @h1 ?_;intros
    refine .inl ⟨_,_,_,_,rfl,fun _=>.of ?_ h2,?_⟩
    ·intro a ha
     simp only[aK,aD,aC,bb,au,or_false]at ha
     rcases ha with rfl|rfl
     ·simp
     ·exact bC.fn (fun _ h=>absurd h (au)) (fun c hc=>by
       simp only[bp]at hc
       subst hc
       exact bC.bZ (fun c hc=>by simp at hc;rcases hc with rfl|rfl<;>simp))
    refine aH ?_
    refine adL ?_
    by_cases hz:z<0
    ·rw[if_pos hz,if_pos hz]
     refine Au ?_;intros
     exact Fq
    ·rw[if_neg hz,if_neg hz]
     refine Au ?_;intros
     exact Fq
  ·rw[if_neg ok]at h1
   rw[if_pos ok,if_pos ok]
   refine Ay @h1 ?_;intros
   exact Fq
 ·intro e
  split at e
  ·cases e
  ·rename_i ok
   split at e
   ·cases e
   ·split at e
    ·rename_i K_ hz
     exact⟨fY.1 ok,by omega,h5 hz⟩
    ·cases e
theorem Qd(f:Nat)(dZ:List AV)(ep:∀c∈dZ,bC c)(q:Rd->Bool)(l:List Rd)(hl:l.length<9223372036854775808)(hq:∀x∈l,Pure Tryz.prog f ([.agg (Rd.cs x)]++dZ) (bl (q x))):Pure Tryz.prog 149 [Jw l,.fn (.func f) [] dZ] (n (fj q 0 l)):=by
 refine jX Tryz.f149.eq_1 [] [.l [0,1,7,8]] ?_
 refine Au ?_;intros
 refine aR.li 8 l.length (fun i=>fj q i (l.drop i)=fj q 0 l) (by simp) ?_
 ·intro i hi hI
  by_cases bP:i<l.length
  ·obtain⟨x,hx⟩:∃x,l[i]?=some x:=⟨_,ae bP⟩
   have hc:=hq x (ao hx)
   rw[drop_cons hx,fj]at hI
   refine Ax (Kf hx) ?_;intros
   refine .inl ⟨_,_,_,_,rfl,fun _=>.of ?_ (hc),?_⟩
   ·intro a ha
    simp only[aK,aD,aC]at ha
    rcases ha with rfl|ha
    ·simp
    ·exact ep a ha
   refine aH ?_
   (refine Au ?_ (CM ?_)<;>intros)
   ·rename_i h
    rw[h]at hI
    simp only[if_true]at hI
    rw[<-hI]
    exact Fq
   ·rename_i h
    rw[h]at hI
    exact⟨⟨i+1,bP,by simpa using hI⟩,by simp,by simp only;omega⟩
  ·obtain rfl:i=l.length:=by omega
   rw[c_,fj]at hI
   refine Au ?_;intros
   rw[<-hI]
   exact Fq
theorem Hv(f:Nat)(dZ:List AV)(ep:∀c∈dZ,bC c)(q:Rd->Bool)(l:List Rd)(hl:l.length<9223372036854775808)(hq:∀x∈l,Pure Tryz.prog f ([.agg (Rd.cs x)]++dZ) (bl (q x))):Pure Tryz.prog 74 [Jw l,.fn (.func f) [] dZ] (bl (l.any q)):=by
 refine jX Tryz.f74.eq_1 [] [] ?_
 have h:=lK q l 0
 refine Au ?_;intros
 refine .inl ⟨_,_,_,_,rfl,fun _=>.of ?_ (Qd f dZ ep q l hl hq),?_⟩
 ·intro a ha
  simp only[aK,aD,aC,bb,au,or_false]at ha
  rcases ha with rfl|rfl
  ·simp
  ·exact bC.fn (fun _ h=>absurd h (au)) ep
 refine aH ?_
 refine Au ?_;intros
 rw[<-h]
 exact Fq
def DC(w:Wk)(r:Rd):Bool:=decide ((gI w.base.dh r.fB).2=0/\r.week=w.week/\(0<=r.tick/\r.tick<=w.base.bD)/\0<=r.levels.lo/\r.levels.lo<=r.levels.hi/\r.levels.hi<=12000)
theorem Fo(w:Wk)(hs:ql w.base.dh)(r:Rd):Pure Tryz.prog 76 [.agg w.cs,.agg r.cs] (bl (DC w r)):=by
 refine jX Tryz.f76.eq_1 [] [] ?_
 unfold DC
 have h1:=kO w.base.dh hs r.fB
 have h2:=sq ⟨0,w.base.bD⟩ r.tick
 generalize(gI w.base.dh r.fB).1=i at*
 generalize(gI w.base.dh r.fB).2=e at*
 simp only at h2
 generalize hb:decide (0<=r.tick/\r.tick<=w.base.bD)=b at*
 refine Az @zN (aa @h1 @h2) ?_;intros
 refine bO.eq (congrArg bl ?_) (by simp)
 rw[<-hb,cV]
 simp only[ak,decide_eq_true_eq]
 omega
theorem Hw(w:Wk)(j:Nat):bC (.bZ w.cs j):=.bZ (IG w)
theorem Fp(w:Wk)(hs:ql w.base.dh)(r:Rd):Pure Tryz.prog 75 ([.agg r.cs]++[.bZ w.cs 0]) (bl (!DC w r)):=by
 refine jX Tryz.f75.eq_1 [] [] ?_
 have h1:=Fo w hs r
 generalize DC w r=b at*
 refine Az @zN @h1 ?_;intros
 exact Fq
structure YE(w:Wk)(f:dm):Prop where
 st:(gI w.base.dh f.fB).2=0
 wk:f.week=w.week
 pp:f.c8.bz.ok
 ie:(tK f.c8).2=0
 dr:gV f.c8.rates f.c8.stops
 ml:f.marks.length<=64
 ms:∀m∈f.marks,rH (f.c8.rates,f.c8.stops) m
 ln:(f.c8.rates.length:Int)+1=f.c8.bz.jY
 pn:f.c8.eC.ok
theorem DE(w:Wk)(hs:ql w.base.dh)(f:dm)(h1:f.c8.trace.length<1000000000)(h2:f.c8.eu.length<9223372036854775808)(h3:f.c8.rates.length<1000000000)(h4:f.c8.stops.length<9223372036854775808)(h5:f.marks.length<9223372036854775808):∃b:Bool,Pure Tryz.prog 73 [.agg w.cs,.agg f.cs] (bl b)/\(b=true->YE w f):=by
 have q1:=kO w.base.dh hs f.fB
 have q2:=lP f.c8.bz
 have q3:=zB (rE f.c8.bz) f.c8.trace f.c8.eu h1 h2
 have q4:=kM f.c8.rates f.c8.stops (by omega) h4
 obtain⟨e5,i5,q5,q5'⟩:=Hu (f.c8.rates,f.c8.stops) f.marks ⟨by simp only;omega,h4⟩ h5
 have q6:=mL f.c8.eC
 rw[show(rE f.c8.bz).cs=AN.cs f.c8.bz from rfl]at q3
 have r3:tK f.c8=wq (rE f.c8.bz) f.c8.trace f.c8.eu:=rfl
 rw[<-r3]at q3
 obtain⟨e1,r1⟩:∃e,e=(gI w.base.dh f.fB).2:=⟨_,rfl⟩
 rw[<-r1]at q1
 obtain⟨e2,r2⟩:∃e:Int,e=if f.c8.bz.ok then 0 else 10:=⟨_,rfl⟩
 rw[<-r2]at q2
 obtain⟨e3,Oj⟩:∃e,e=(tK f.c8).2:=⟨_,rfl⟩
 rw[<-Oj]at q3
 obtain⟨e4,r4⟩:∃e:Int,e=if gV f.c8.rates f.c8.stops then 0 else 20:=⟨_,rfl⟩
 rw[<-r4]at q4
 obtain⟨e6,r6⟩:∃e:Int,e=if f.c8.eC.ok then 0 else 30:=⟨_,rfl⟩
 rw[<-r6]at q6
 refine⟨decide (e1=0/\f.week=w.week/\e2=0/\e3=0/\e4=0/\e5=0/\(f.c8.rates.length:Int)+1=f.c8.bz.jY/\e6=0),?_,fun h=>?_⟩
 ·clear r1 r2 r3 Oj r4 r6 q5'
  generalize(gI w.base.dh f.fB).1=i1 at*
  generalize(tK f.c8).1=I at*
  refine et 83 (jo [jx 2 38 9 0,jx 3 66 24 1,jb 4 false] [2,3] (jo [jf 13 0 2,jf 14 0 13,jl 15 14,jf 16 2 3,jl 17 16,jy 18 12 [15,17],jm 12 18,jz 19 0 12,jz 20 1 12,jm 5 19,jm 6 20] [2,3,6] (jo [jf 21 4 3,jk 22 18 21,jw 7 (.alloc 63 18 Tb),js 18 7 22] [2,3,6,7] (.seq (jo [jm 23 6,ju .neq 24 23 0,jm 25 24,jd 25 (jf 26 3 3),jd 25 (jl 27 26),jd 25 (jf 28 6 2),jd 25 (jl 29 28),jd 25 (jt .neq 30 27 29),jq 31 25 30,jm 32 31,jd 32 (jf 33 0 7),jd 32 (jk 34 10 33),jd 32 (jy 35 146 [34]),jd 32 (ju .neq 36 35 0),jq 37 32 36] [3,7,37] (.cond (.t 37) (jo [jb 4 false] [4] .ret) .skip)) (.seq (jo [jf 39 0 7,jk 40 10 39,jf 41 10 7,jl 42 41,jf 43 11 7,jl 44 43,jy 45 36 [40,42,44],jm 38 45,jz 46 0 38,jz 47 1 38,jw 8 (.alloc 108 1 [.slice none 0 0]),js 1 8 46,jm 9 47] [3,7,9] (jo [jm 48 9,ju .neq 49 48 0,jm 50 49,jd 50 (jf 51 12 7),jd 50 (jk 52 2 51),jd 50 (jy 53 147 [52]),jd 50 (ju .neq 54 53 0),jq 55 50 54] [3,7,55] (.cond (.t 55) (jo [jb 4 false] [4] .ret) .skip))) (jo [jf 57 12 7,jk 58 2 57,jf 59 22 3,jl 60 59,jy 61 148 [58,60],jm 56 61,jz 62 0 56,jz 63 1 56,jm 10 62,jm 11 63] [7,10] (jo [jf 64 12 7,jf 65 0 64,jl 66 65,je 67 66,ju .add 68 67 1,jf 69 0 7,jf 70 5 69,jl 71 70,jt .eql 72 68 71,jm 73 72,ja 73 (jf 74 14 7),ja 73 (jk 75 4 74),ja 73 (jy 76 113 [75]),ja 73 (ju .eql 77 76 0),jp 78 73 77,jm 79 78,ja 79 (jm 80 10),ja 79 (ju .eql 81 80 0),jp 82 79 81,jm 4 82] [4] .ret))))))) [.t 4] Tryz.call73 Tryz.func73 ?_
  simp only at q5
  (refine Az @zN (aa @q1 (aa @q2 (aa @q3 (aa @q4 (aa @q5 @q6))))) ?_ (g2_ ?_ ?_)<;>intros)
  all_goals(refine bO.eq (congrArg bl ?_) (by simp);rw[cV];simp only[decide_eq_true_eq,bw,false_iff];omega)
 ·rw[decide_eq_true_eq]at h
  obtain⟨a1,a2,a3,a4,a5,a6,a7,a8⟩:=h
  have m:=q5' a6
  refine⟨r1▸a1,a2,?_,Oj▸a4,m.1,m.2.1,m.2.2,a7,?_⟩
  ·by_cases e:f.c8.bz.ok
   ·exact e
   ·rw[if_neg e]at r2;omega
  ·by_cases e:f.c8.eC.ok
   ·exact e
   ·rw[if_neg e]at r6;omega
def YF:CF:=⟨90,(jo [jx 1 38 9 0,jc 2 0] [1] (.seq (jo [jf 9 0 1,jf 10 0 9,jl 11 10,jy 12 38 [11],jm 8 12,jz 13 0 8,jz 14 1 8,jm 3 13,jm 4 14] [1,3] (jo [jm 15 3,ju .neq 16 15 0] [1,3,16] (.cond (.t 16) (jo [jm 17 3,jm 2 17] [2] .ret) .skip))) (jo [jf 18 0 1,jk 19 6 18,jw 5 (.alloc 26 6 [.slice none 0 0,.int .i64 0,.int .i64 0,.int .i64 0,.int .i64 0,.int .i64 0]),js 6 5 19] [1,5] (.seq (jo [jf 20 1 5,jk 21 2 20,jy 22 71 [21],ju .neq 23 22 0,jm 24 23,⟨some 25,.build [.int .i64 0,.int .i64 0] [(0,1,(.c (.int .i64 1))),(1,1,(.c (.int .i64 400)))],some (24,false)⟩,jd 24 (jf 26 4 5),jd 24 (jl 27 26),jd 24 (jy 28 72 [25,27]),jd 24 (jv 29 28),jq 30 24 29,jm 31 30,jd 31 (jf 32 4 5),jd 31 (jl 33 32),⟨some 34,.build [.int .i64 0,.int .i64 0] [(1,1,(.t 33))],some (31,false)⟩,jd 31 (jf 35 3 5),jd 31 (jl 36 35),jd 31 (jy 37 72 [34,36]),jd 31 (jv 38 37),jq 39 31 38,jm 40 39,⟨some 41,.build [.int .i64 0,.int .i64 0] [(1,1,(.c (.int .i64 10000)))],some (40,false)⟩,jd 40 (jf 42 6 1),jd 40 (jl 43 42),jd 40 (jy 44 72 [41,43]),jd 40 (jv 45 44),jq 46 40 45] [1,46] (.cond (.t 46) (jo [jc 2 70] [2] .ret) .skip)) (.seq (jo [jf 47 7 1,jl 48 47,je 49 48,ju .gtr 50 49 64,jm 51 50,jd 51 (jf 52 8 1),jd 51 (jl 53 52),jd 51 (je 54 53),jd 51 (ju .gtr 55 54 64),jq 56 51 55] [1,56] (.cond (.t 56) (jo [jc 2 70] [2] .ret) .skip)) (.seq (jo [jf 57 7 1,jl 58 57,je 59 58,jc 60 0] [1,58,59,60] (.block 0 (.loop (jo [jt .lss 61 60 59] [1,58,59,60,61] (.seq (.cond (.t 61) .skip (.exit 0)) (.seq (.block 1 (jo [jm 62 60,ji 63 24 58 60,jk 64 24 63,jw 7 (.alloc 66 24 z24),jm 6 62,js 24 7 64] [1,6,7,58,59,60] (.seq (.draw [jm 65 6,ju .gtr 66 65 0,jm 67 66,ja 67 (jf 68 2 7),ja 67 (jl 69 68),ja 67 (jf 70 7 1),ja 67 (jl 71 70),ja 67 (jm 72 6),ja 67 (ju .sub 73 72 1),ja 67 (ji 74 24 71 73),ja 67 (jf 75 2 74),ja 67 (jl 76 75),ja 67 (jt .leq 77 69 76),jp 78 67 77,jm 79 78,jd 79 (jk 80 9 1),jd 79 (jk 81 24 7),jd 79 (jy 82 73 [80,81]),jd 79 (jv 83 82),jq 84 79 83] [] [1,58,59,60,84]) (.cond (.t 84) (jo [jc 2 70] [2] .ret) .skip)))) (.ops [ju .add 85 60 1,jm 60 85] [1,58,59,60]))))))) (.seq (jo [jf 86 8 1,jl 87 86,jw 88 (.j5 (.func 75) [] [(.t 1)]),jy 89 74 [87,88]] [89] (.cond (.t 89) (jo [jc 2 70] [2] .ret) .skip)) (jo [jc 2 0] [2] .ret)))))))),[.t 2]⟩
theorem Ok:jP Tryz.prog Tryz.f26 YF=true:=by kernel_rfl
structure Ny(w:Wk):Prop where
 st:ql w.base.dh
 sl:w.base.dh.length<=1000000
 sn:w.aS.length<9223372036854775808
 rn:w.reads.length<9223372036854775808
 sh:∀f∈w.aS,f.c8.trace.length<1000000000/\f.c8.eu.length<9223372036854775808/\f.c8.rates.length<1000000000/\f.c8.stops.length<9223372036854775808/\f.marks.length<9223372036854775808
structure UN(w:Wk):Prop where
 s1:(gW w.base.dh).1=0
 t1:1<=w.base.bD
 t2:w.base.bD<=400
 sn:w.aS.length<=64
 rn:w.reads.length<=64
 sh:∀f∈w.aS,YE w f
 rd:∀r∈w.reads,DC w r=true
 wd:inr w.base.fixed 0 12000/\inr w.base.each 0 10000
 tm:0<=w.base.term/\w.base.term<=w.base.bD
 wk:0<=w.week/\w.week<=10000
theorem DF(w:Wk)(hw:Ny w):∃e:Int,Pure Tryz.prog 26 [.agg w.cs] (n e)/\(e=0->UN w):=by
 have hs:=hw.st
 have T2:∀f∈w.aS,∃b:Bool,Pure Tryz.prog 73 [.agg w.cs,.agg f.cs] (bl b)/\(b=true->YE w f):=fun f hf=>by
  obtain⟨a1,a2,a3,a4,a5⟩:=hw.sh f hf
  exact DE w hs f a1 a2 a3 a4 a5
 obtain⟨S,hS⟩:∃S:Nat->Bool,∀k f,w.aS[k]?=some f->Pure Tryz.prog 73 [.agg w.cs,.agg f.cs] (bl (S k))/\(S k=true->YE w f):=by
  refine⟨fun k=>if h:k<w.aS.length then Classical.choose (T2 _ (cv h))else false,fun k f hk=>?_⟩
  obtain⟨h,rfl⟩:=ai.1 hk
  simp only[h,dif_pos]
  exact Classical.choose_spec (T2 _ (cv h))
 have q1:=mM w.base.dh hs
 have q2:=rp w.base.fixed w.base.each
 have q3:=sq ⟨1,400⟩ w.base.bD
 have q4:=sq ⟨0,w.base.bD⟩ w.base.term
 have q5:=sq ⟨0,10000⟩ w.week
 have q6:=Hv 75 [.bZ w.cs 0] (fun c hc=>by rw[bp.1 hc];exact Hw w 0) (fun r=>!DC w r) w.reads hw.rn (fun r _=>Fp w hs r)
 obtain⟨R,hR⟩:∃R,R=w.reads.any fun r=>!DC w r:=⟨_,rfl⟩
 rw[<-hR]at q6
 simp only at q3 q4 q5
 obtain⟨e1,r1⟩:∃e,e=(gW w.base.dh).1:=⟨_,rfl⟩
 rw[<-r1]at q1
 obtain⟨e2,r2⟩:∃e:Int,e=if inr w.base.fixed 0 12000/\inr w.base.each 0 10000 then 0 else 1:=⟨_,rfl⟩
 rw[<-r2]at q2
 obtain⟨b3,r3⟩:∃b,b=decide (1<=w.base.bD/\w.base.bD<=400):=⟨_,rfl⟩
 rw[<-r3]at q3
 obtain⟨b4,r4⟩:∃b,b=decide (0<=w.base.term/\w.base.term<=w.base.bD):=⟨_,rfl⟩
 rw[<-r4]at q4
 obtain⟨b5,r5⟩:∃b,b=decide (0<=w.week/\w.week<=10000):=⟨_,rfl⟩
 rw[<-r5]at q5
 generalize(gW w.base.dh).2=i1 at*
 by_cases g1:e1=0
 ·rw[g1]at q1 r1
  by_cases g2:e2=0/\b3=true/\b4=true/\b5=true/\w.aS.length<=64/\w.reads.length<=64
  ·obtain⟨rfl,rfl,rfl,rfl,Uv,vv⟩:=g2
   have hT:=of_decide_eq_true r3.symm
   have hT4:=of_decide_eq_true r4.symm
   have hT5:=of_decide_eq_true r5.symm
   have VF:inr w.base.fixed 0 12000/\inr w.base.each 0 10000:=by
    by_cases h:inr w.base.fixed 0 12000/\inr w.base.each 0 10000
    ·exact h
    ·rw[if_neg h]at r2;cases r2
   have iV:∃iV:Nat->Prop,∀k,iV k↔((0<k->∀f g,w.aS[k]?=some f->w.aS[k-1]?=some g->g.fB<f.fB)/\S k=true):=⟨_,fun _=>Iff.rfl⟩
   obtain⟨iV,zL⟩:=iV
   have key:∀e:Int,((∀k,k<w.aS.length->iV k)->R=false->e=0)->(¬((∀k,k<w.aS.length->iV k)/\R=false)->e=70)->Pure Tryz.prog 26 [.agg w.cs] (n e):=by
    intro e H4 qU
    clear T2 r2 r3 r4 r5 hT4 hT5 VF hR g1
    refine mu Tryz.call26 Tryz.func26 Ok ?_
    unfold YF
    refine Az @zN (aa @q1 (aa @q2 (aa @q3 (aa @q4 @q5)))) ?_;intros
    all_goals try contradiction
    all_goals try(exfalso;omega)
    refine aR.lr (α:={x:Nat×aG//x.1<=w.aS.length/\∀j,j<x.1->iV j}) [60] (fun x=>[(60,n x.1.1)]) (fun x=>some [⟨26,6,[l8.cs w.base],none⟩]::x.1.2) (fun x=>w.aS.length-x.1.1) ⟨(0,[]),aQ _,by simp⟩ ?_
    rintro⟨⟨k,ν⟩,hk,hg⟩
    simp only at hk hg
    simp only
    by_cases bP:k<w.aS.length
    ·obtain⟨f,hf⟩:∃f,w.aS[k]?=some f:=⟨_,ae bP⟩
     have cX:(w.aS.map dm.cs).getD k []=dm.cs f:=getD_map hf
     have Om:=(hS k f hf).1
     have KX:=zL k
     generalize S k=b at*
     obtain⟨f',I2⟩:∃f',w.aS[k-1]?=some f':=⟨_,ae (by omega)⟩
     have zJ:(w.aS.map dm.cs).getD ((k:Int)-1).toNat []=dm.cs f':=by
      rw[show((k:Int)-1).toNat=k-1 by omega];exact getD_map I2
     by_cases cn:0<(k:Int)/\f.fB<=f'.fB
     ·have W7:=qU fun h=>by
       have:=(KX.1 (h.1 k bP)).1 (by omega) f f' hf I2
       omega
      clear zL KX H4 qU
      rw[W7]
      (refine Az (aa @zN (aa @cX @zJ)) @Om ?_ (CM ?_)<;>intros)
      exact Fq
      rename_i a
      rw[decide_eq_true cn]at a;cases a
     ·cases b with
      |true=>
       have hgn:∀j,j<k+1->iV j:=fun j hj=>by
        by_cases e:j=k
        ·subst e
         exact KX.2 ⟨fun h0 g g' h1 h2=>by rw[hf]at h1;rw[I2]at h2;cases h1;cases h2;omega,rfl⟩
        ·exact hg j (by omega)
       clear zL KX H4 qU
       refine Az (aa @zN (aa @cX @zJ)) @Om ?_;intros
       exact⟨⟨(k+1,_),bP,hgn⟩,by simp,rfl,by simp only;omega⟩
      |false=>
       have W7:=qU fun h=>Bool.noConfusion (KX.1 (h.1 k bP)).2
       clear zL KX H4 qU
       rw[W7]
       refine Az (aa @zN (aa @cX @zJ)) @Om ?_;intros
       exact Fq
    ·obtain rfl:k=w.aS.length:=by omega
     cases R with
     |true=>
      have W7:=qU fun h=>Bool.noConfusion h.2
      clear zL H4 qU
      rw[W7]
      refine Ax @zN ?_;intros
      refine .inl ⟨_,_,_,_,rfl,fun _=>.of ?_ q6,?_⟩
      ·intro a ha
       simp only[aK,aD,aC,bb,au,or_false]at ha
       rcases ha with rfl|rfl
       ·simp
       ·exact bC.fn (fun _ h=>absurd h (au)) (fun c hc=>by rw[bp.1 hc];exact Hw w 0)
      refine aH ?_
      refine Au ?_;intros
      exact Fq
     |false=>
      have e0:=H4 hg rfl
      clear zL H4 qU
      rw[e0]
      refine Ax @zN ?_;intros
      refine .inl ⟨_,_,_,_,rfl,fun _=>.of ?_ q6,?_⟩
      ·intro a ha
       simp only[aK,aD,aC,bb,au,or_false]at ha
       rcases ha with rfl|rfl
       ·simp
       ·exact bC.fn (fun _ h=>absurd h (au)) (fun c hc=>by rw[bp.1 hc];exact Hw w 0)
      refine aH ?_
      refine Au ?_;intros
      exact Fq
   by_cases ff:(∀k,k<w.aS.length->iV k)/\R=false
   ·refine⟨0,key 0 (fun _ _=>rfl) (fun h=>absurd ff h),fun _=>?_⟩
    refine⟨r1.symm,hT.1,hT.2,Uv,vv,fun f hf=>?_,fun r hr=>?_,VF,hT4,hT5⟩
    ·obtain⟨k,hk⟩:=fb.1 hf
     exact(hS k f hk).2 ((zL k).1 (ff.1 k (ai.1 hk).1)).2
    ·have:=ff.2
     rw[hR,fo]at this
     simpa using this r hr
   ·exact⟨70,key 70 (fun h1 h2=>absurd ⟨h1,h2⟩ ff) (fun _=>rfl),fun h=>by cases h⟩
  ·refine⟨70,?_,fun h=>by cases h⟩
   clear r2 r3 r4 r5
   refine mu Tryz.call26 Tryz.func26 Ok ?_
   unfold YF
   (refine Az @zN (aa @q1 (aa @q2 (aa @q3 (aa @q4 @q5)))) ?_ (g2_ ?_ ?_)<;>intros)
   all_goals try contradiction
   all_goals try exact Fq
   exfalso
   rename_i a b
   apply g2
   cases b3<;>cases b4<;>cases b5<;>simp at a
   exact⟨a,rfl,rfl,rfl,by omega,by omega⟩
 ·refine⟨e1,?_,fun h=>absurd h g1⟩
  refine mu Tryz.call26 Tryz.func26 Ok ?_
  unfold YF
  refine Az @zN @q1 ?_;intros
  all_goals try contradiction
  all_goals try exact Fq
theorem aan{w:Wk}(hz:Ny w)(h:UN w):zG w:=by
 refine⟨fun f hf=>?_,fun r hr=>?_,h.rn,bT h.sn (by decide),hz.sl⟩
 ·have g:=h.sh f hf
  obtain⟨a1,a2,_⟩:=hz.sh f hf
  have hp:=g.pn
  unfold Pn.ok at hp
  have hN:=g.dr.1
  have hG:=rB g.dr
  have hI:=Dy (p:=rE f.c8.bz) (l:=f.c8.trace) (bs:=f.c8.eu) g.ie
  have hln:=g.ln
  refine⟨fun st=>⟨h.t1,h.t2,?_,?_,hG.2,?_,?_,?_,?_,fun x hx=>?_⟩,g.pn,g.ml,?_,g.dr,a1,a2⟩
  ·show 1<=(i_ f.c8.rates f.c8.stops).length
   omega
  ·show(i_ f.c8.rates f.c8.stops).length<=199
   omega
  ·show 0<=f.c8.eC.cS
   omega
  ·show f.c8.eC.cS<=8
   omega
  ·show 0<=f.c8.eC.kc
   omega
  ·show f.c8.eC.kc<=12000
   omega
  ·have:=hI.2 x hx
   exact⟨this.1.1,this.1.2,this.2⟩
  ·have h1:=hI.1
   have:(rE f.c8.bz).co=f.c8.bz.jY:=rfl
   show(wq (rE f.c8.bz) f.c8.trace f.c8.eu).1.length=_
   omega
 ·have:=h.rd r hr
  unfold DC at this
  rw[decide_eq_true_eq]at this
  omega
end Go.Proofs.YtgopgjnfhkoomaaGreat
