/- Part 14 of the texts: abstract values over the walk; contracts. -/
import Derived.Test.YtgopgjnfhkoomaaGreatBt12
import Derived.Test.YtgopgjnfhkoomaaGreatBt13
import Derived.Test.YtgopgjnfhkoomaaGreatRows
set_option linter.unusedVariables false
set_option linter.unusedSimpArgs false
namespace Go.Proofs.YtgopgjnfhkoomaaGreat
open Go.Abs
open Nat (reduceAdd reduceSub reduceLT reduceLeDiff reduceMul reduceEqDiff)
set_option maxHeartbeats 4000000
set_option maxRecDepth 100000
def rE(p:AN):Pp:=⟨p.mU,p.ej,p.lj,p.low,p.high,p.jY,p.along,p.fW⟩
noncomputable def tK(s:fT):List (List Sp)×Int:=wq (rE s.bz) s.trace s.eu
theorem Hq(s:fT)(h1:s.trace.length<1000000000)(h2:s.eu.length<9223372036854775808):Pure Tryz.prog 151 [.agg s.cs] (Cy (tK s).1):=by
 refine et 16 (jo [jx 1 63 18 0,jw 2 (.alloc 108 1 [.slice none 0 0])] [1,2] (jo [jf 6 0 1,jk 7 10 6,jf 8 10 1,jl 9 8,jf 10 11 1,jl 11 10,jy 12 36 [7,9,11],jm 5 12,jz 13 0 5,jz 14 1 5,jw 3 (.alloc 108 1 [.slice none 0 0]),js 1 3 13,jm 4 14] [2,3] (jo [jk 15 1 3,js 1 2 15] [2] .ret))) [.c 2 (some 1)] Tryz.call151 Tryz.func151 ?_
 have h3:=zB (rE s.bz) s.trace s.eu h1 h2
 unfold tK
 rw[show(rE s.bz).cs=AN.cs s.bz from rfl]at h3
 generalize wq (rE s.bz) s.trace s.eu=I at*
 ((refine Az @zN @h3 ?_;repeat' constructor)<;>intros<;>refine aP ?_)
 all_goals exact Fq
def s7(s:fT)(mk rd tk ik gp ls ix zr:AV):List AV:=[n s.bz.mU,n s.bz.ej,n s.bz.lj,n s.bz.low,n s.bz.high,n s.bz.jY,n s.bz.along.lo,n s.bz.along.hi,n s.bz.fW.lo,n s.bz.fW.hi,
 AO s.trace,l9 s.eu,ec s.rates,mb s.stops,n s.eC.cS,n s.eC.zero.lo,n s.eC.zero.hi,n s.eC.kc,mk,rd,tk,ik,gp,ls,ix,zr]
theorem zO:(∀s a b c d e f g h,(s7 s a b c d e f g h).length=26)/\(∀s a b c d e f g h,(s7 s a b c d e f g h).take 18=fT.cs s)/\(∀s a b c d e f g h,((s7 s a b c d e f g h).drop 12).take 2=[ec s.rates,mb s.stops])/\(∀s a b c d e f g h,(s7 s a b c d e f g h).getD 12 .any=ec s.rates)/\(∀s a b c d e f g h,(s7 s a b c d e f g h).getD 15 .any=n s.eC.zero.lo)/\(∀s a b c d e f g h,(s7 s a b c d e f g h).getD 16 .any=n s.eC.zero.hi)/\(∀s a b c d e f g h,(s7 s a b c d e f g h).getD 19 .any=b)/\(∀s a b c d e f g h,(s7 s a b c d e f g h).getD 22 .any=e)/\(∀s a b c d e f g h,(s7 s a b c d e f g h).getD 25 .any=h)/\(∀s a b c d e f g h x,(s7 s a b c d e f g h).take 19++x::(s7 s a b c d e f g h).drop 20=s7 s a x c d e f g h)/\(∀s a b c d e f g h x,(s7 s a b c d e f g h).take 21++x::(s7 s a b c d e f g h).drop 22=s7 s a b c x e f g h)/\(∀s a b c d e f g h x,(s7 s a b c d e f g h).take 22++x::(s7 s a b c d e f g h).drop 23=s7 s a b c d x f g h)/\(∀s a b c d e f g h x,(s7 s a b c d e f g h).take 25++x::(s7 s a b c d e f g h).drop 26=s7 s a b c d e f g x):=by
 refine⟨?_,?_,?_,?_,?_,?_,?_,?_,?_,?_,?_,?_,?_⟩<;>intros<;>rfl
theorem BX(σ:aG)(w:Wk)(f:dm)(st:Int)(h1:f.sheet.trace.length<1000000000)(h2:f.sheet.eu.length<9223372036854775808)(hd:gV f.sheet.rates f.sheet.stops)(hp:f.sheet.eC.ok)(hr:w.reads.length<=64):eY Tryz.prog 78 [.agg w.cs,.agg f.cs,n st] σ (fun r σ'=>r=.ptr (σ.length+1) 0 1 0 0/\∃ν,σ'=σ++some [rA []]::some [DZ (Hh (fun s=>(tK s).1) w f st) (.v (.slice none 0 0)) (.mp σ.length)]::ν):=by
 refine qY 115 (jo [jx 3 38 9 0,jx 4 66 24 1,jw 6 (.mv (.c (.pointer none)))] [2,3,4] (jo [jf 14 4 4,jk 15 18 14,jf 16 22 4,jl 17 16,jf 18 0 3,jf 19 4 18,jl 20 19,jw 21 (.qn 3),jw 22 (.build [.int .i64 0,.int .i64 0,.int .i64 0,.int .i64 0,.int .i64 0,.int .i64 0,.int .i64 0,.int .i64 0,.int .i64 0,.int .i64 0,.slice none 0 0,.slice none 0 0,.slice none 0 0,.slice none 0 0,.int .i64 0,.int .i64 0,.int .i64 0,.int .i64 0,.slice none 0 0,.slice none 0 0,.int .i64 0,.slice none 0 0,.slice none 0 0,.slice none 0 0,.map none,.slice none 0 0] [(0,18,(.t 15)),(18,1,(.t 17)),(20,1,(.t 20)),(24,1,(.t 21))]),jw 23 (.box true 185 26 (.t 22)),jm 7 23] [2,3,7] (.seq (jo [jf 24 8 3,jl 25 24,je 26 25,jc 27 0] [2,7,25,26,27] (.block 0 (.loop (jo [jt .lss 28 27 26] [2,7,25,26,27,28] (.seq (.cond (.t 28) .skip (.exit 0)) (.seq (.block 1 (jo [ji 29 5 25 27,jk 30 5 29,jw 9 (.alloc 71 5 [.int .i64 0,.int .i64 0,.int .i64 0,.int .i64 0,.int .i64 0]),js 5 9 30] [2,7,9,25,26,27] (jo [jf 31 0 9,jl 32 31,jm 33 2,jt .eql 34 32 33] [2,7,9,25,26,27,34] (.cond (.t 34) (.jC (List.range 11) [0] 1 [jm 35 7,jm 36 7,jw 37 (.dY (.t 36)),jf 38 19 37,jl 39 38,jk 40 5 9,jw 41 (.jR false 71 5 1 [.int .i64 0,.int .i64 0,.int .i64 0,.int .i64 0,.int .i64 0] [(0,5,(.t 40))])] [jw 42 (.app 71 5 40 (.t 39) (.t 41)),jw 43 (.dY (.t 35)),jf 44 19 43,js 1 44 42] [2,7,25,26,27]) .skip)))) (.ops [ju .add 45 27 1,jm 27 45] [2,7,25,26,27]))))))) (jo [jm 46 7,jm 47 7,jw 48 (.dY (.t 47)),jf 49 0 48,jk 50 18 49,jy 51 151 [50],jw 52 (.field 0 none (.t 51)),jw 53 (.dY (.t 46)),jf 54 21 53,js 1 54 52] [7] (.seq (jo [jm 55 7,jw 56 (.dY (.t 55)),jf 57 0 56,jf 58 12 57,jf 59 0 58,jl 60 59,je 61 60,jc 62 0] [7,61,62] (.block 2 (.loop (jo [jt .lss 63 62 61] [7,61,62,63] (.seq (.cond (.t 63) .skip (.exit 2)) (.seq (.block 3 (jo [jm 64 62,jm 10 64] [7,10,61,62] (jo [jm 66 7,jw 67 (.dY (.t 66)),jf 68 0 67,jf 69 12 68,jk 70 2 69,jm 71 10,jy 72 152 [70,71],jm 65 72,jz 73 0 65,jz 74 1 65,jw 11 (.alloc 52 2 [.int .i64 0,.int .i64 0]),js 2 11 73,jm 12 74] [7,11,61,62] (.jC (List.range 11) [0] 1 [jm 75 7,jm 76 7,jw 77 (.dY (.t 76)),jf 78 22 77,jl 79 78,jk 80 2 11,jw 81 (.jR false 52 2 1 [.int .i64 0,.int .i64 0] [(0,2,(.t 80))])] [jw 82 (.app 52 2 16 (.t 79) (.t 81)),jw 83 (.dY (.t 75)),jf 84 22 83,js 1 84 82] [7,61,62])))) (.ops [ju .add 85 62 1,jm 62 85] [7,61,62]))))))) (.seq (jo [jm 86 7,jw 87 (.dY (.t 86)),jf 88 0 87,jf 89 14 88,jf 90 1 89,jf 91 0 90,jl 92 91,jm 13 92] [7,13] (.block 4 (.loop (.seq (jo [jm 93 13,jm 94 7,jw 95 (.dY (.t 94)),jf 96 0 95,jf 97 14 96,jf 98 1 97,jf 99 1 98,jl 100 99,jt .leq 101 93 100] [7,13,101] (.cond (.t 101) .skip (.exit 4))) (.seq (.block 5 (.ops [jm 104 7,jm 105 7,jw 106 (.dY (.t 105)),jf 107 25 106,jl 108 107,jm 109 13,jw 110 (.jR false 3 1 1 [.int .i64 0] [(0,1,(.t 109))]),jw 111 (.app 3 1 8 (.t 108) (.t 110)),jw 112 (.dY (.t 104)),jf 113 25 112,js 1 113 111] [7,13])) (.ops [jm 102 13,ju .add 103 102 1,jm 13 103] [7,13])))))) (jo [jm 114 7,jm 6 114] [6] .ret))))))) [.t 6] Tryz.call78 Tryz.func78 ?_
 obtain⟨nl,Oi⟩:∃x:AV,x=.v (.slice none 0 0):=⟨_,rfl⟩
 obtain⟨B,hB⟩:∃B:List AV->aG,∀a,B a=σ++[some [rA []],some [⟨185,26,[a],none⟩]]:=⟨_,fun _=>rfl⟩
 have qF:∀a,(B a).length=σ.length+2:=fun a=>by rw[hB];simp
 have fA:∀a r,aG.at (B a++r) (σ.length+1) 0=some ⟨185,26,[a],none⟩:=fun a r=>by rw[hB,aW,dR];rfl
 have uA:∀a a' r,aG.cZ (B a++r) (σ.length+1) 0 ⟨185,26,[a'],none⟩=B a'++r:=fun a a' r=>by rw[hB,hB,aW,fC];simp[aG.cZ]
 have fL:∀a (ν:aG) o r,aG.at (B a++(ν++some [o]::r)) (σ.length+2+ν.length) 0=some o:=fun a ν o r=>by rw[<-qF a,dR,dV];rfl
 have uL:∀a (ν:aG) o o' r,aG.cZ (B a++(ν++some [o]::r)) (σ.length+2+ν.length) 0 o'=B a++(ν++some [o']::r):=fun a ν o o' r=>by rw[<-qF a,fC];simp[aG.cZ]
 have gL:∀a (ν:aG) o r,gone (B a++(ν++some [o]::r)) (σ.length+2+ν.length)=B a++(ν++none::r):=fun a ν o r=>by rw[<-qF a,zc];congr 1;simp[gone]
 ((refine Ax @zN ?_;repeat' constructor)<;>intros<;>refine aP ?_)
 refine aR.pQ (σ':=B (s7 f.sheet (mb f.marks) nl (n w.base.bD) nl nl nl (.mp σ.length) nl)++[]) (by rw[hB,Oi,bb];rfl) ?_
 refine aR.lH 71 5 (f:=σ.length+1) (i:=0) (e:=0) (j:=19) (fA _ _) (by simp) (by rw[Oi];rfl) ?_
 obtain⟨F,hF⟩:∃F:Nat->List Rd,∀k,F k=(w.reads.take k).filter fun r=>decide (r.fB=st):=⟨_,fun _=>rfl⟩
 refine aR.pQ (σ':=B (s7 f.sheet (mb f.marks) (.own (σ.length+2+([]:aG).length) 0 (F 0).length) (n w.base.bD) nl nl nl (.mp σ.length) nl)++([]++some [⟨71,5,(F 0).map Rd.cs,none⟩]::[])) ?_ ?_
 ·rw[bb]
  refine(uA _ _ _).trans ?_
  rw[qF,hF];rfl
 refine aR.lr (α:={x:Nat×aG//x.1<=w.reads.length}) [27] (fun x=>[(27,n x.1.1)]) (fun x=>B (s7 f.sheet (mb f.marks) (.own (σ.length+2+([]:aG).length) 0 (F x.1.1).length) (n w.base.bD) nl nl nl (.mp σ.length) nl)++([]++some [⟨71,5,(F x.1.1).map Rd.cs,none⟩]::x.1.2)) (fun x=>w.reads.length-x.1.1) ⟨(0,[]),aQ _⟩ ?_
 rintro⟨⟨k,ν⟩,hk⟩
 simp only at hk
 simp only
 by_cases bP:k<w.reads.length
 ·obtain⟨d,FV⟩:∃d,w.reads[k]?=some d:=⟨_,ae bP⟩
  have cX:(w.reads.map Rd.cs).getD k []=Rd.cs d:=getD_map FV
  have Yz:F (k+1)=if d.fB=st then F k++[d]else F k:=by
   rw[hF,hF,ba,FV,fK]
   by_cases e:d.fB=st<;>simp[e]
  have hFl:(F k).length<=64:=by rw[hF];have:=bK (fun r:Rd=>decide (r.fB=st)) (w.reads.take k);simp at this;omega
  have fE:∀a (y:Option (List Ob)) (ν:aG) o r,aG.at (B a++y::(ν++some [o]::r)) (σ.length+(2+(ν.length+1))) 0=some o:=fun a y ν o r=>by
   rw[show σ.length+(2+(ν.length+1))=(B a).length+(ν.length+1) by rw[qF];omega,dR,cQ,dV];rfl
  have uE:∀a (y:Option (List Ob)) (ν:aG) o o' r,aG.cZ (B a++y::(ν++some [o]::r)) (σ.length+(2+(ν.length+1))) 0 o'=B a++y::(ν++some [o']::r):=fun a y ν o o' r=>by
   rw[show σ.length+(2+(ν.length+1))=(B a).length+(ν.length+1) by rw[qF];omega,fC];simp[aG.cZ]
  have fD:∀a o r,aG.at (B a++some [o]::r) (σ.length+2) 0=some o:=fun a o r=>by rw[<-qF a,dV];rfl
  have uD:∀a o o' r,aG.cZ (B a++some [o]::r) (σ.length+2) 0 o'=B a++some [o']::r:=fun a o o' r=>by rw[<-qF a];have:=fC (B a) (some [o]::r) 0 0 o';rw[eE]at this;rw[this];rfl
  generalize W5:F (k+1)=F1 at*
  generalize hFk:F k=F0 at*
  by_cases cn:d.fB=st
  ·rw[if_pos cn]at Yz
   ((refine Ax (aa @cX (aa @zO (aa @fA (aa @uA (aa @fE (aa @uE (aa @fD (aa @uD (aa @qF @cn))))))))) ?_;repeat' constructor)<;>intros<;>refine aP ?_)
   refine⟨⟨(k+1,ν++[some [⟨71,5,[[n st,n d.week,n d.tick,n d.levels.lo,n d.levels.hi]],none⟩]]),bP⟩,by simp,?_,by simp only;omega⟩
   simp only[W5,Yz,di,aM,bq,dL]
   rw[<-cn];rfl
  ·rw[if_neg cn]at Yz
   ((refine Ax (aa @cX (aa @zO (aa @fA (aa @uA (aa @fE (aa @uE (aa @fD (aa @uD (aa @qF @cn))))))))) ?_;repeat' constructor)<;>intros<;>refine aP ?_)
   refine⟨⟨(k+1,ν++[some [⟨71,5,[Rd.cs d],none⟩]]),bP⟩,by simp,?_,by simp only;omega⟩
   simp only[W5,Yz]
 ·obtain rfl:k=w.reads.length:=by omega
  have hI:=Hq f.sheet h1 h2
  refine aR.sm (f:=σ.length+2) (n:=(F w.reads.length).length) (h:=σ.length+1) (e:=0) (j:=19) (o:=⟨71,5,(F w.reads.length).map Rd.cs,none⟩) (fL _ [] _ _) (by simp) (by simp) (fA _ _) (by omega) rfl (by simp) rfl ?_
  refine aR.pQ (σ':=B (s7 f.sheet (mb f.marks) (Jw (F w.reads.length)) (n w.base.bD) nl nl nl (.mp σ.length) nl)++(none::ν)) ?_ ?_
  ·rw[show gone (B (s7 f.sheet (mb f.marks) (.own (σ.length+2+([]:aG).length) 0 (F w.reads.length).length) (n w.base.bD) nl nl nl (.mp σ.length) nl)++([]++some [⟨71,5,(F w.reads.length).map Rd.cs,none⟩]::ν)) (σ.length+2)=_ from gL _ [] _ _]
   exact uA _ _ _
  generalize none::ν=gz
  have hFe:F w.reads.length=w.reads.filter fun r=>decide (r.fB=st):=by rw[hF,aI]
  generalize F w.reads.length=F0 at*
  obtain⟨I,hIe⟩:∃I,I=(tK f.sheet).1:=⟨_,rfl⟩
  rw[<-hIe]at hI
  ((refine Az (aa @zO (aa @fA @uA)) @hI ?_;repeat' constructor)<;>intros<;>refine aP ?_)
  obtain⟨G,hG⟩:∃G,G=i_ f.sheet.rates f.sheet.stops:=⟨_,rfl⟩
  have hGl:G.length=f.sheet.rates.length:=by rw[hG];exact(rB hd).1
  have hN:=hd.1
  refine aR.lH 52 2 (f:=σ.length+1) (i:=0) (e:=0) (j:=22) (fA _ _) (by simp) (by rw[Oi];rfl) ?_
  refine aR.pQ (σ':=B (s7 f.sheet (mb f.marks) (Jw F0) (n w.base.bD) (mZ I) (.own (σ.length+2+gz.length) 0 (G.take 0).length) nl (.mp σ.length) nl)++(gz++some [⟨52,2,(G.take 0).map Sp.cs,none⟩]::[])) ?_ ?_
  ·rw[aW]
   refine(uA _ _ _).trans ?_
   rw[aM,qF];rfl
  refine aR.lr (α:={x:Nat×aG//x.1<=G.length}) [62] (fun x=>[(62,n x.1.1)]) (fun x=>B (s7 f.sheet (mb f.marks) (Jw F0) (n w.base.bD) (mZ I) (.own (σ.length+2+gz.length) 0 (G.take x.1.1).length) nl (.mp σ.length) nl)++(gz++some [⟨52,2,(G.take x.1.1).map Sp.cs,none⟩]::x.1.2)) (fun x=>G.length-x.1.1) ⟨(0,[]),aQ _⟩ ?_
  rintro⟨⟨k,ν⟩,hk⟩
  simp only at hk
  simp only
  obtain⟨L,hL⟩:∃L,σ.length+2+gz.length=L:=⟨_,rfl⟩
  rw[hL]
  by_cases bP:k<G.length
  ·obtain⟨g,hg⟩:∃g,G[k]?=some g:=⟨_,ae bP⟩
   have hGn:G.take (k+1)=G.take k++[g]:=ey hg
   have hGk:(G.take k).length<=199:=by simp;omega
   have h3:=Nc f.sheet.rates f.sheet.stops hd k (by omega)
   rw[<-hG,show G.getD k ⟨0,0⟩=g by rw[ab,hg];rfl]at h3
   have fD:∀a o r,aG.at (B a++(gz++some [o]::r)) L 0=some o:=fun a o r=>by rw[<-hL];exact fL a gz o r
   have uD:∀a o o' r,aG.cZ (B a++(gz++some [o]::r)) L 0 o'=B a++(gz++some [o']::r):=fun a o o' r=>by rw[<-hL];exact uL a gz o o' r
   have fE:∀a (y:Option (List Ob)) (ν:aG) o r,aG.at (B a++(gz++y::(ν++some [o]::r))) (σ.length+(2+(gz.length+(ν.length+1)))) 0=some o:=fun a y ν o r=>by
    rw[show σ.length+(2+(gz.length+(ν.length+1)))=(B a).length+(gz.length+(ν.length+1)) by rw[qF];omega,dR,dR,cQ,dV];rfl
   have uE:∀a (y:Option (List Ob)) (ν:aG) o o' r,aG.cZ (B a++(gz++y::(ν++some [o]::r))) (σ.length+(2+(gz.length+(ν.length+1)))) 0 o'=B a++(gz++y::(ν++some [o']::r)):=fun a y ν o o' r=>by
    rw[show σ.length+(2+(gz.length+(ν.length+1)))=(B a).length+(gz.length+(ν.length+1)) by rw[qF];omega,fC,fC];simp[aG.cZ]
   generalize aaj:G.take (k+1)=G1 at*
   generalize hGk:G.take k=G0 at*
   ((refine Az (aa @zO (aa @fA (aa @uA (aa @fD (aa @uD (aa @fE (aa @uE @qF))))))) @h3 ?_;repeat' constructor)<;>intros<;>refine aP ?_)
   refine⟨⟨(k+1,ν++[some [⟨52,2,[Sp.cs g],none⟩]]),bP⟩,by simp,?_,by simp only;omega⟩
   simp only[aaj,hGn,di,aM,bq,dL]
   rfl
  ·obtain rfl:k=G.length:=by omega
   refine aR.sm (f:=L) (n:=(G.take G.length).length) (h:=σ.length+1) (e:=0) (j:=22) (o:=⟨52,2,(G.take G.length).map Sp.cs,none⟩) (by rw[<-hL];exact fL _ gz _ _) (by simp) (by simp) (fA _ _) (by omega) rfl (by simp) rfl ?_
   refine aR.pQ (σ':=B (s7 f.sheet (mb f.marks) (Jw F0) (n w.base.bD) (mZ I) (ec (G.take G.length)) nl (.mp σ.length) nl)++(gz++none::ν)) ?_ ?_
   ·rw[show∀a o r,gone (B a++(gz++some [o]::r)) L=B a++(gz++none::r)from fun a o r=>by rw[<-hL];exact gL a gz o r]
    exact uA _ _ _
   generalize gz++none::ν=gz
   rw[aI]
   have hz:=hp
   unfold Pn.ok at hz
   ((refine Ax (aa @zO (aa @fA @uA)) ?_;repeat' constructor)<;>intros<;>refine aP ?_)
   clear hL L
   obtain⟨Z,hZ⟩:∃Z,Z=Ch.zs (Hh (fun s=>(tK s).1) w f st):=⟨_,rfl⟩
   have hZl:Z.length=(f.sheet.eC.zero.hi+1-f.sheet.eC.zero.lo).toNat:=by rw[hZ];unfold Ch.zs;simp[Hh]
   have hZg:∀k,k<Z.length->Z[k]?=some ((k:Int)+f.sheet.eC.zero.lo):=fun k hk=>by
    rw[hZl]at hk;rw[hZ];unfold Ch.zs;simp[Hh,hk]
   refine aR.lH 3 1 (f:=σ.length+1) (i:=0) (e:=0) (j:=25) (fA _ _) (by simp) (by rw[Oi];rfl) ?_
   refine aR.pQ (σ':=B (s7 f.sheet (mb f.marks) (Jw F0) (n w.base.bD) (mZ I) (ec G) nl (.mp σ.length) (.own (σ.length+2+gz.length) 0 (Z.take 0).length))++(gz++some [⟨3,1,(Z.take 0).map fun z=>[n z],none⟩]::[])) ?_ ?_
   ·rw[aW]
    refine(uA _ _ _).trans ?_
    rw[aM,qF];rfl
   refine aR.lr (α:={x:Nat×aG//x.1<=Z.length}) [13] (fun x=>[(13,n ((x.1.1:Int)+f.sheet.eC.zero.lo))]) (fun x=>B (s7 f.sheet (mb f.marks) (Jw F0) (n w.base.bD) (mZ I) (ec G) nl (.mp σ.length) (.own (σ.length+2+gz.length) 0 (Z.take x.1.1).length))++(gz++some [⟨3,1,(Z.take x.1.1).map fun z=>[n z],none⟩]::x.1.2)) (fun x=>Z.length-x.1.1) ⟨(0,[]),aQ _⟩ ?_
   rintro⟨⟨k,ν⟩,hk⟩
   simp only at hk
   simp only
   obtain⟨L,hL⟩:∃L,σ.length+2+gz.length=L:=⟨_,rfl⟩
   rw[hL]
   have fD:∀a o r,aG.at (B a++(gz++some [o]::r)) L 0=some o:=fun a o r=>by rw[<-hL];exact fL a gz o r
   have uD:∀a o o' r,aG.cZ (B a++(gz++some [o]::r)) L 0 o'=B a++(gz++some [o']::r):=fun a o o' r=>by rw[<-hL];exact uL a gz o o' r
   by_cases bP:k<Z.length
   ·have hZk:(Z.take k).length<=41:=by simp;omega
    have hZn:Z.take (k+1)=Z.take k++[(k:Int)+f.sheet.eC.zero.lo]:=ey (hZg k bP)
    generalize aak:Z.take (k+1)=Z1 at*
    generalize hZk:Z.take k=Z0 at*
    ((refine Ax (aa @zO (aa @fA (aa @uA (aa @fD (aa @uD @qF))))) ?_;repeat' constructor)<;>intros<;>refine aP ?_)
    refine⟨⟨(k+1,ν),bP⟩,by simp;omega,?_,by simp only;omega⟩
    simp only[aak,hZn,di,aM,bq,dL]
    rfl
   ·obtain rfl:k=Z.length:=by omega
    refine aR.sm (f:=L) (n:=(Z.take Z.length).length) (h:=σ.length+1) (e:=0) (j:=25) (o:=⟨3,1,(Z.take Z.length).map fun z=>[n z],none⟩) (fD _ _ _) (by simp) (by simp) (fA _ _) (by omega) rfl (by simp) rfl ?_
    refine aR.pQ (σ':=B (s7 f.sheet (mb f.marks) (Jw F0) (n w.base.bD) (mZ I) (ec G) nl (.mp σ.length) (l9 (Z.take Z.length)))++(gz++none::ν)) ?_ ?_
    ·rw[show∀a o r,gone (B a++(gz++some [o]::r)) L=B a++(gz++none::r)from fun a o r=>by rw[<-hL];exact gL a gz o r]
     exact uA _ _ _
    generalize gz++none::ν=gz
    rw[aI]
    ((refine Ax (aa @zO (aa @fA @uA)) ?_;repeat' constructor)<;>intros<;>refine aP ?_)
    refine⟨gz,?_⟩
    rw[hB,aW,hFe,hZ,hG,hIe,Oi]
    rfl
theorem IE{σ:aG}{f g i:Nat}{o:Ob}(h:f≠g):(σ.cZ g i o)[f]?=σ[f]?:=by
 have h':g≠f:=fun e=>h e.symm
 unfold aG.cZ
 cases σ[g]? with
 |none=>rfl
 |some G=>cases G with
  |none=>rfl
  |some G=>exact bW h'
theorem shut{P:Program}{N:Nat}{rd:Option Nat}{C0:C}{K:e7}{env:Env}{S:aG}{t A M L:Nat}(c:Ch)(ht:gt env t=.ptr A 0 1 0 0)(hA:S.at A 0=some (DZ c (.own L 0 c.iY.length) (.mp M)))(hM:S.at M 0=some (rA c.iY))(hL:S.at L 0=some ⟨282,3,c.iY.map St.cs,none⟩)(h1:A≠M)(h2:A≠L)(h3:M≠L)(h:∀S',S'.length=S.length->(∀f,f≠A->f≠M->f≠L->S'[f]?=S[f]?)->aR P N rd C0 K ((t,.bZ (A7 c) 0)::env) S'):aR P N rd C0 K env S:=by
 refine aR.sm (h:=A) (e:=0) (j:=23) hL (by simp) (by simp) hA h2 rfl (by simp) rfl ?_
 have YA:∀o,(aG.cZ (gone S L) A 0 o).at M 0=some (rA c.iY):=fun o=>by rw[cx (.inl h1)];unfold aG.at gone at*;rwa[bW (fun e=>h3 e.symm)]
 have hA2:(gone S L).at A 0=some (DZ c (.own L 0 c.iY.length) (.mp M)):=by unfold aG.at gone at*;rwa[bW (fun e=>h2 e.symm)]
 refine aR.PZ (n:=3) (h:=A) (e:=0) (j:=24) (YA _) rfl (cu hA2) h1 rfl (by simp) rfl ?_
 refine aR.H' (n:=1) ht (cu (o:=⟨185,26,[oo c (Ln c.iY) (.mp M)],none⟩) ?_) rfl (by decide) ?_
 ·unfold aG.at gone at*
  rw[bW (fun e=>h1 e.symm)]
  exact cu hA2
 refine h _ ?_ fun f e1 e2 e3=>?_
 ·simp[gone,eW]
 ·simp only[gone]
  rw[bW (fun e=>e1 e.symm),IE e1,bW (fun e=>e2 e.symm),IE e1,bW (fun e=>e3 e.symm)]
theorem DB(w:Wk)(i:Nat)(f:dm)(hf:w.aS[i]?=some f)(c:Ch)(he:c=Hh (fun s=>(tK s).1) w f f.fB)(hc:c.ok)(h1:f.sheet.trace.length<1000000000)(h2:f.sheet.eu.length<9223372036854775808)(hd:gV f.sheet.rates f.sheet.stops)(hp:f.sheet.eC.ok)(hr:w.reads.length<=64):Pure Tryz.prog 31 [.agg w.cs,n i] (if 4000<c.iY.length then .iu [.v (.pointer none),n 2]else .iu [.bZ (A7 c) 0,n 0]):=by
 refine et 25 (jo [jx 2 38 9 0,jw 4 (.mv (.c (.pointer none))),jc 5 0] [1,2] (.seq (.draw [jk 7 9 2,jf 8 7 2,jl 9 8,jm 10 1,ji 11 24 9 10,jk 12 24 11,jf 13 7 2,jl 14 13,jm 15 1,ji 16 24 14 15,jf 17 2 16,jl 18 17] [jy 19 78 [7,12,18],jm 6 19] [6]) (.seq (jo [jm 20 6,jy 21 79 [20]] [6,21] (.cond (.t 21) (jo [jw 4 (.mv (.c (.pointer none))),jc 5 2] [4,5] .ret) .skip)) (jo [jm 22 6,jy 23 80 [22]] [6] (jo [jm 24 6,jm 4 24,jc 5 0] [4,5] .ret))))) [.t 4,.t 5] Tryz.call31 Tryz.func31 ?_
 have cX:(w.aS.map dm.cs).getD i []=dm.cs f:=getD_map hf
 have bP:i<w.aS.length:=by
  rcases cm i w.aS.length with h|h
  ·exact h
  ·rw[b_ h]at hf;cases hf
 have ho:=BX [] w f f.fB h1 h2 hd hp hr
 rw[<-he]at ho
 ((refine Ax (aa @zN @cX) ?_;repeat' constructor)<;>intros<;>refine aP ?_)
 refine .inr (.inl ⟨_,_,_,_,rfl,fun _=>⟨ho,?_⟩,fun h=>by cases h⟩)
 rintro r1 lN ⟨rfl,ν,rfl⟩
 refine aH ?_
 simp only[zN,zT,zV,zS,zU,dC,ex,bu,bN,elems,cells,scalar,dH,bL,aX,aU,bJ,bI,Nat.reduceBEq,reduceAdd,reduceSub,reduceLT,reduceLeDiff,reduceMul,reduceEqDiff,reduceIte]
 have hl:=jg.plain (σ:=[]++some [rA []]::some [DZ c (.v (.slice none 0 0)) (.mp ([]:aG).length)]::ν) (args:=[.ptr (([]:aG).length+1) 0 1 0 0]) (G7 c hc .any .any bC.any bC.any) (by simp[bC.any]) ⟨M5 rfl,trivial⟩
 have hn:=w_ (some [rA []]::some [DZ c (.v (.slice none 0 0)) (.mp 0)]::ν) c hc 1 0 (by decide) rfl rfl
 by_cases hb:4000<c.iY.length
 ·rw[if_pos hb]
  (repeat' ((first|refine vn rfl ?_|simp(disch:=omega) only[cB,aj]|refine bo (fun _=>?_) fun _=>?_|refine im fun _=>?_|((repeat refine si ?_);((first|refine .inl ⟨_,_,_,_,rfl,fun _=>(by first|exact hl),?_⟩|refine⟨_,_,_,_,rfl,fun _=>(by first|exact hl),?_⟩);(first|refine o1 ?_|refine o4 ?_)))|refine cF ?_|refine om ?_|refine an ?_|fail)<;>try simp only[zN,zT,zV,zS,zU,dC,ex,bu,bN,elems,cells,scalar,dH,bL,aX,aU,bJ,bI,Nat.reduceBEq,reduceAdd,reduceSub,reduceLT,reduceLeDiff,reduceMul,reduceEqDiff,reduceIte,hb]))
  exact Fq
 ·rw[if_neg hb]
  (repeat' ((first|refine vn rfl ?_|simp(disch:=omega) only[cB,aj]|refine bo (fun _=>?_) fun _=>?_|refine im fun _=>?_|((repeat refine si ?_);((first|refine .inl ⟨_,_,_,_,rfl,fun _=>(by first|exact hl),?_⟩|refine⟨_,_,_,_,rfl,fun _=>(by first|exact hl),?_⟩);(first|refine o1 ?_|refine o4 ?_)))|refine cF ?_|refine om ?_|refine an ?_|fail)<;>try simp only[zN,zT,zV,zS,zU,dC,ex,bu,bN,elems,cells,scalar,dH,bL,aX,aU,bJ,bI,Nat.reduceBEq,reduceAdd,reduceSub,reduceLT,reduceLeDiff,reduceMul,reduceEqDiff,reduceIte,hb]))
  refine .inr (.inl ⟨_,_,_,_,rfl,fun _=>⟨hn,?_⟩,fun h=>by cases h⟩)
  rintro r1 lN ⟨gz,rfl⟩
  refine aH ?_
  simp only[zN,zT,zV,zS,zU,dC,ex,bu,bN,elems,cells,scalar,dH,bL,aX,aU,bJ,bI,Nat.reduceBEq,reduceAdd,reduceSub,reduceLT,reduceLeDiff,reduceMul,reduceEqDiff,reduceIte]
  refine aR.pQ (σ':=some [rA c.iY]::some [DZ c (.own (ν.length+2) 0 c.iY.length) (.mp 0)]::(ν++some [⟨282,3,c.iY.map St.cs,none⟩]::gz)) rfl ?_
  refine shut c (t:=6) (A:=1) (M:=0) (L:=ν.length+2) rfl rfl rfl ?_ (by decide) (by omega) (by omega) fun S' _ _=>?_
  ·have:=dV (some [rA c.iY]::some [DZ c (.own (ν.length+2) 0 c.iY.length) (.mp 0)]::ν) (some [⟨282,3,c.iY.map St.cs,none⟩]::gz) 0
   exact this
  have Dn:=kf c 0
  ((refine Au ?_;repeat' constructor)<;>intros<;>refine aP ?_)
  exact Fq
noncomputable def K9(c:Ch)(l:List Int):List (List AV):=l.map fun z=>[Af (c.iZ z),n z]
theorem Nu{c:Ch}{k:Nat}{z:Int}(h:(Ch.zs c)[k]?=some z):z=(k:Int)+c.sh.eC.zero.lo/\z<=c.sh.eC.zero.hi:=by
 have hk:k<(Ch.zs c).length:=by
  rcases cm k (Ch.zs c).length with h'|h'
  ·exact h'
  ·rw[b_ h']at h;cases h
 unfold Ch.zs at h hk
 simp only[aF,a_]at hk
 rw[aV,cH hk]at h
 simp at h;omega
theorem T1(c:Ch):(Ch.zs c).length=(c.sh.eC.zero.hi+1-c.sh.eC.zero.lo).toNat:=by simp[Ch.zs]
theorem xc(c:Ch)(hc:zu c):Iter Tryz.prog 155 [] [.bZ [.bZ (A7 c) 0] 0,.bZ [bl true] 0,.bZ [.v (.slice none 0 0)] 0,.bZ [n 0] 0] (K9 c (Ch.zs c)):=by
 refine⟨Tryz.call155,fun C y J D σ hy hC hJ ew=>?_⟩
 refine eY.mono (R:=fun _ iX=>kS C J D (K9 c (Ch.zs c)).length iX) ?_ fun _ _ h=>h.out
 refine qY 42 (jo [jx 5 283 1 0] [1,2,3,4,5] (jo [jl 10 1,jw 11 (.dY (.t 10)),jf 12 25 11,jl 13 12,je 14 13,jc 15 0] [1,2,3,4,5,13,14,15] (.block 0 (.loop (jo [jt .lss 16 15 14] [1,2,3,4,5,13,14,15,16] (.seq (.cond (.t 16) .skip (.exit 0)) (.seq (.block 1 (jo [ji 17 1 13 15,jl 18 17,jw 7 (.alloc 3 1 [.int .i64 0]),js 1 7 18] [1,2,3,4,5,7,13,14,15] (jo [jl 19 1,jl 20 7,jy 21 156 [19,20],jw 8 (.alloc 191 1 [.slice none 0 0]),js 1 8 21] [1,2,3,4,5,7,8,13,14,15] (.seq (jo [jl 22 2] [1,2,3,4,5,7,8,13,14,15,22] (.cond (.t 22) (.seq (jo [jl 23 5,jk 24 1 8,jl 25 7,jw 26 (.call (.t 23) [(.t 24),(.t 25)]),jv 27 26] [1,2,3,4,5,13,14,15,27] (.cond (.t 27) .ret .skip)) (.exit 1)) .skip)) (jo [jl 28 3,jw 29 (.call (.f 157) [(.t 28),(.c (.int .i64 50))])] [1,2,3,4,5,7,8,13,14,15,29] (.block 2 (.rL (.t 29) [30] (.ops [jm 9 30] [1,2,3,4,5,7,8,9,13,14,15]) (.block 3 (.seq (.draw [jl 31 5,jl 32 1,jk 33 1 8,jl 34 7,jl 35 4,jm 36 9,jy 37 158 [32,33,34,35,36],jl 38 7] [jw 39 (.call (.t 31) [(.t 37),(.t 38)]),jv 40 39] [1,2,3,4,5,7,8,13,14,15,40]) (.cond (.t 40) .ret .skip)))))))))) (.ops [ju .add 41 15 1,jm 15 41] [1,2,3,4,5,13,14,15])))))))) [] Tryz.call155 Tryz.func155 ?_
 have Dn:=kf c 0
 have hp:=hc.eC
 unfold Pn.ok at hp
 have I':=T1 c
 rw[show(K9 c (Ch.zs c)).length=(Ch.zs c).length by simp[K9]]
 ((refine Ax @zC ?_;repeat' constructor)<;>intros<;>refine aP ?_)
 refine aR.lr (α:={x:Nat×aG×aG//x.1<=(Ch.zs c).length/\x.2.1.length=C/\J x.1 x.2.1}) [15] (fun x=>[(15,n x.1.1)]) (fun x=>x.1.2.1++x.1.2.2) (fun x=>(Ch.zs c).length-x.1.1) ⟨(0,σ,[]),by simp,hC,hJ⟩ ?_
 ·rintro⟨⟨k,τ,ν⟩,hk,pD,ze⟩
  simp only at hk pD ze
  by_cases bP:k<(Ch.zs c).length
  ·obtain⟨z,hz⟩:∃z,(Ch.zs c)[k]?=some z:=⟨_,ae bP⟩
   obtain⟨z1,z2⟩:=Nu hz
   have hT:=He c hc z (by omega)
   have cX:((Ch.zs c).map fun z=>[n z]).getD k []=[n z]:=getD_map hz
   have hy1:∀μ,th Tryz.prog y [Af (c.iZ z),n z] (τ++μ) _:=fun μ=>ew k _ τ μ (by unfold K9;rw[aV,hz];rfl) pD ze
   generalize c.iZ z=T at*
   obtain⟨μ,hμ⟩:∃μ,τ++ν=μ:=⟨_,rfl⟩
   simp only[hμ]
   ((refine Az @cX @hT ?_;repeat' constructor)<;>intros<;>refine aP ?_)
   subst hμ
   rw[aW]
   refine .inr (.inr ⟨y,_,rfl,fun _=>⟨hy1 _,?_⟩,fun h=>by cases h⟩)
   rintro b σ' ⟨iv,gz,rfl,jW,hb1,hb2⟩
   refine aH ?_
   simp only[zN,zT,zV,zS,zU,dC,ex,bu,bN,elems,cells,scalar,dH,bL,aX,aU,bJ,bI,Nat.reduceBEq,reduceAdd,reduceSub,reduceLT,reduceLeDiff,reduceMul,reduceEqDiff,reduceIte]
   cases b with
   |false=>
    ((refine Au ?_;repeat' constructor)<;>intros<;>refine aP ?_)
    exact kS.mk iv _ rfl jW (.inr (hb2 rfl))
   |true=>
    ((refine Au ?_;repeat' constructor)<;>intros<;>refine aP ?_)
    exact⟨⟨(k+1,iv,_),bP,jW,hb1 rfl⟩,by simp,rfl,by simp only;omega⟩
  ·obtain rfl:k=(Ch.zs c).length:=by omega
   ((refine Au ?_;repeat' constructor)<;>intros<;>refine aP ?_)
   exact kS.mk τ _ rfl pD (.inl ze)
theorem xd(c:Ch):Pure Tryz.prog 82 [.bZ (A7 c) 0,n 0,.v (.slice none 0 0),bl true] (.fn (.func 155) [] [.bZ [.bZ (A7 c) 0] 0,.bZ [bl true] 0,.bZ [.v (.slice none 0 0)] 0,.bZ [n 0] 0]):=by
 refine et 10 (jo [jx 4 98 1 0,jx 5 3 1 1,jx 6 56 1 2,jx 7 4 1 3,jw 8 (.mv (.c (.nilFunc)))] [4,5,6,7] (jo [jw 9 (.j5 (.func 155) [] [(.t 4),(.t 7),(.t 6),(.t 5)]),jm 8 9] [8] .ret)) [.t 8] Tryz.call82 Tryz.func82 ?_
 have Dn:=kf c 0
 ((refine Au ?_;repeat' constructor)<;>intros<;>refine aP ?_)
 exact bO.eq rfl (by simp[Dn])
theorem Fg{c:Ch}(hc:c.ok)(hf:c.iY.length<=4000)(z:Int):E0 (c.iZ z):=by
 have h2:=hc.t2
 refine⟨by rw[mJ hc];omega,fun l hl=>?_⟩
 obtain⟨t,_,rfl⟩:=aO.1 hl
 refine⟨by rw[aF];omega,fun x hx=>?_⟩
 obtain⟨s,hs,rfl⟩:=aO.1 hx
 have h3:=(wY hc s t z).1
 have h4:=(yU hc hs).1
 refine⟨by unfold Ch.Mw;simp only;omega,?_⟩
 unfold Ch.Mw
 simp only
 split
 ·omega
 ·simp
noncomputable def lL(c:Ch):Bool:=(Ch.zs c).any fun z=>tC (c.iZ z)
theorem Hr(w:Wk)(i:Nat)(f:dm)(hf:w.aS[i]?=some f)(st:Int)(c:Ch)(he:c=Hh (fun s=>(tK s).1) w f st)(hc:zu c)(h1:f.sheet.trace.length<1000000000)(h2:f.sheet.eu.length<9223372036854775808)(hd:gV f.sheet.rates f.sheet.stops)(hr:w.reads.length<=64):Pure Tryz.prog 77 [.agg w.cs,n i,n st] (bl (lL c)):=by
 refine et 25 (jo [jx 3 38 9 0,jw 6 (.alloc 4 1 [.bool false])] [1,2,3,6] (.seq (.draw [jk 9 9 3,jf 10 7 3,jl 11 10,jm 12 1,ji 13 24 11 12,jk 14 24 13,jm 15 2] [jy 16 78 [9,14,15],jm 7 16] [6,7]) (jo [jm 17 7,jy 18 80 [17]] [6,7] (.seq (jo [jm 19 7,jw 20 (.call (.f 82) [(.t 19),(.c (.int .i64 0)),(.c (.slice none 0 0)),(.c (.bool true))])] [6,20] (.block 0 (.rL (.t 20) [21,22] (.ops [jw 8 (.alloc 191 1 [.slice none 0 0]),js 1 8 21] [6,8]) (.block 1 (jo [jk 23 1 8,jy 24 150 [23]] [6,24] (.cond (.t 24) (jo [⟨none,.store 1 (.t 6) (.c (.bool true)),none⟩] [6] .ret) .skip)))))) (jo [⟨none,.store 1 (.t 6) (.c (.bool false)),none⟩] [6] .ret))))) [.c 6 none] Tryz.call77 Tryz.func77 ?_
 have cX:(w.aS.map dm.cs).getD i []=dm.cs f:=getD_map hf
 have bP:i<w.aS.length:=by
  rcases cm i w.aS.length with h|h
  ·exact h
  ·rw[b_ h]at hf;cases hf
 have hp:f.sheet.eC.ok:=by have:=hc.eC;rw[he]at this;exact this
 have ho:=BX [some [⟨4,1,[[bl false]],none⟩]] w f st h1 h2 hd hp hr
 rw[<-he]at ho
 ((refine Ax (aa @zN @cX) ?_;repeat' constructor)<;>intros<;>refine aP ?_)
 refine .inr (.inl ⟨_,_,_,_,rfl,fun _=>⟨ho,?_⟩,fun h=>by cases h⟩)
 rintro r1 lN ⟨rfl,ν,rfl⟩
 refine aH ?_
 simp only[zN,zT,zV,zS,zU,dC,ex,bu,bN,elems,cells,scalar,dH,bL,aX,aU,bJ,bI,Nat.reduceBEq,reduceAdd,reduceSub,reduceLT,reduceLeDiff,reduceMul,reduceEqDiff,reduceIte]
 have hn:=w_ (some [⟨4,1,[[bl false]],none⟩]::some [rA []]::some [DZ c (.v (.slice none 0 0)) (.mp 1)]::ν) c hc.ok 2 1 (by decide) rfl rfl
 ((refine Au ?_;repeat' constructor)<;>intros<;>refine aP ?_)
 refine .inr (.inl ⟨_,_,_,_,rfl,fun _=>⟨hn,?_⟩,fun h=>by cases h⟩)
 rintro r1 lN ⟨gz,rfl⟩
 refine aH ?_
 simp only[zN,zT,zV,zS,zU,dC,ex,bu,bN,elems,cells,scalar,dH,bL,aX,aU,bJ,bI,Nat.reduceBEq,reduceAdd,reduceSub,reduceLT,reduceLeDiff,reduceMul,reduceEqDiff,reduceIte]
 refine aR.pQ (σ':=some [⟨4,1,[[bl false]],none⟩]::some [rA c.iY]::some [DZ c (.own (ν.length+3) 0 c.iY.length) (.mp 1)]::(ν++some [⟨282,3,c.iY.map St.cs,none⟩]::gz)) rfl ?_
 refine shut c (t:=7) (A:=2) (M:=1) (L:=ν.length+3) rfl rfl rfl ?_ (by decide) (by omega) (by omega) fun S' hl hS=>?_
 ·have:=dV (some [⟨4,1,[[bl false]],none⟩]::some [rA c.iY]::some [DZ c (.own (ν.length+3) 0 c.iY.length) (.mp 1)]::ν) (some [⟨282,3,c.iY.map St.cs,none⟩]::gz) 0
  exact this
 have Dn:=kf c 0
 have h0:=hS 0 (by decide) (by decide) (by omega)
 cases S' with
 |nil=>simp at hl
 |cons x S1=>
 simp only[cg,ah]at h0
 subst h0
 clear hS hl
 have hT:=xd c
 have hI:=xc c hc
 have UL:∀z,Pure Tryz.prog 150 [Af (c.iZ z)] (bl (tC (c.iZ z))):=fun z=>Dm _ (Fg hc.ok hc.TM z) (oX hc.ok hc.TM z)
 ((refine Ay @hT ?_;repeat' constructor)<;>intros<;>refine aP ?_)
 refine aR.TL (fun b:Bool=>some [⟨4,1,[[bl b]],none⟩]::S1) (S1.length+1) (fun _=>rfl) (fun k b=>b=false/\∀z∈(Ch.zs c).take k,tC (c.iZ z)=false) (fun e b=>match e with| .ret=>b=true/\lL c=true|_=>False) (K9 c (Ch.zs c)) false rfl rfl ⟨rfl,by simp⟩ hI (fun k args h=>?_) (fun k A args l ρ μ hk hA=>?_) (fun A μ hA=>?_) (fun e b τ h=>?_)
 ·obtain⟨z,_,rfl⟩:=aL.1 (by simpa[K9]using h)
  rfl
 ·obtain⟨z,hz,rfl⟩:=aL.1 (by simpa[K9]using hk)
  obtain⟨rfl,hA⟩:=hA
  have UL:=UL z
  have kU:(Ch.zs c).take (k+1)=(Ch.zs c).take k++[z]:=ey hz
  have hz2:=ao hz
  have Mp:tC (c.iZ z)=true->lL c=true:=fun h=>eb.2 ⟨z,hz2,h⟩
  have l_:tC (c.iZ z)=false->∀y∈(Ch.zs c).take (k+1),tC (c.iZ y)=false:=fun h y hy=>by
   rw[kU]at hy
   rcases bm.1 hy with hy|hy
   ·exact hA y hy
   ·rw[bp.1 hy];exact h
  generalize tC (c.iZ z)=fz at*
  generalize c.iZ z=T at*
  have hX:∀(a ρ:Option (List Ob)) (o:Ob) (r:aG),aG.at (a::(S1++ρ::(μ++some [o]::r))) (S1.length+(List.length μ+2)) 0=some o:=fun a ρ o r=>by
   rw[show S1.length+(List.length μ+2)=S1.length+(List.length μ+1)+1 by omega,cQ,dR,cQ,dV];rfl
  have hU:∀(a ρ:Option (List Ob)) (o o':Ob) (r:aG),aG.cZ (a::(S1++ρ::(μ++some [o]::r))) (S1.length+(List.length μ+2)) 0 o'=a::(S1++ρ::(μ++some [o']::r)):=fun a ρ o o' r=>by
   have e:a::(S1++ρ::(μ++some [o]::r))=(a::(S1++ρ::μ))++some [o]::r:=by simp
   have e2:S1.length+(List.length μ+2)=List.length (a::(S1++ρ::μ))+0:=by simp;omega
   rw[e,e2,fC];simp[aG.cZ]
  simp only[par]
  ((refine Ax (aa @Ds (aa @hX @hU)) ?_;repeat' constructor)<;>intros<;>refine aP ?_)
  refine⟨false,_,rfl,fun ox=>?_⟩
  cases fz with
  |false=>
   ((refine Az (aa @hX @hU) @UL ?_;repeat' constructor)<;>intros<;>refine aP ?_)
   exact⟨false,_,rfl,rfl,l_ rfl⟩
  |true=>
   ((refine Az (aa @hX @hU) @UL ?_;repeat' constructor)<;>intros<;>refine aP ?_)
   exact⟨true,_,rfl,rfl,Mp rfl⟩
 ·obtain⟨rfl,hA⟩:=hA
  ((refine Au ?_;repeat' constructor)<;>intros<;>refine aP ?_)
  have hf:lL c=false:=by
   unfold lL
   rw[K9,aF,aI]at hA
   rw[fo]
   exact fun z hz=>by rw[hA z hz];simp
  rw[hf]
  exact Fq
 ·cases e with
  |ret=>
   obtain⟨rfl,h⟩:=h
   rw[h]
   show AH 0 (Co _ _ _ _ _) .ret _ _
   simp only[zN,zT,zV,zS,zU,dC,ex,bu,bN,elems,cells,scalar,dH,bL,aX,aU,bJ,bI,Nat.reduceBEq,reduceAdd,reduceSub,reduceLT,reduceLeDiff,reduceMul,reduceEqDiff,reduceIte]
   exact Fq
  |exit i=>exact h.elim
noncomputable abbrev pM(s:fT):List (List Sp):=(tK s).1
noncomputable abbrev tW(w:Wk)(f:dm)(st:Int):Ch:=Hh pM w f st
structure aal(w:Wk)(f:dm):Prop where
 ok:∀st,(tW w f st).ok
 eC:f.sheet.eC.ok
 Yu:f.marks.length<=64
 Cy:(pM f.sheet).length=f.sheet.rates.length+1
 P':gV f.sheet.rates f.sheet.stops
 tr:f.sheet.trace.length<1000000000
 bl:f.sheet.eu.length<9223372036854775808
structure zG(w:Wk):Prop where
 sh:∀f∈w.aS,aal w f
 rd:∀r∈w.reads,0<=r.levels.lo/\r.levels.lo<=12000/\0<=r.levels.hi/\r.levels.hi<=12000
 rn:w.reads.length<=64
 sn:w.aS.length<=1000000
 st:w.base.dh.length<=1000000
noncomputable def p'(w:Wk)(f:dm):Nat:=(tW w f f.fB).iY.length
theorem Nv{w:Wk}(hw:zG w){f:dm}(hf:f∈w.aS)(hn:p' w f<=4000)(st:Int):zu (tW w f st):=by
 have h:=hw.sh f hf
 refine⟨h.ok st,h.eC,h.Yu,?_,?_,?_,hn⟩
 ·have h1:=hw.rn
  have h2:=bK (fun r:Rd=>decide (r.fB=st)) w.reads
  show(w.reads.filter fun r=>decide (r.fB=st)).length<=64
  omega
 ·show(pM f.sheet).length=(i_ f.sheet.rates f.sheet.stops).length+1
  rw[h.Cy,(rB h.P').1]
 ·exact fun r hr=>hw.rd r (cM.1 hr).1
noncomputable def ir(w:Wk)(f:dm)(l:List j3):List Int:=(l.filter fun s=>lL (tW w f s.id)).map j3.id
theorem zH(w:Wk)(hw:zG w)(i:Nat)(f:dm)(hf:w.aS[i]?=some f)(hn:p' w f<=4000):Pure Tryz.prog 30 [.agg w.cs,n i] (l9 (ir w f w.base.dh)):=by
 refine et 28 (jo [jx 2 38 9 0,jn 4] [1,2] (jo [jn 5] [1,2,5] (.seq (jo [jf 8 0 2,jf 9 0 8,jl 10 9,je 11 10,jc 12 0] [1,2,5,10,11,12] (.block 0 (.loop (jo [jt .lss 13 12 11] [1,2,5,10,11,12,13] (.seq (.cond (.t 13) .skip (.exit 0)) (.seq (.block 1 (jo [ji 14 4 10 12,jk 15 4 14,jw 7 (.alloc 118 4 [.int .i64 0,.int .i64 0,.int .i64 0,.slice none 0 0]),js 4 7 15] [1,2,5,7,10,11,12] (jo [jk 16 9 2,jm 17 1,jf 18 0 7,jl 19 18,jy 20 77 [16,17,19]] [1,2,5,7,10,11,12,20] (.cond (.t 20) (.ops [jm 21 5,jf 22 0 7,jl 23 22,jw 24 (.jR false 3 1 1 [.int .i64 0] [(0,1,(.t 23))]),jw 25 (.app 3 1 8 (.t 21) (.t 24)),jm 5 25] [1,2,5,10,11,12]) .skip)))) (.ops [ju .add 26 12 1,jm 12 26] [1,2,5,10,11,12]))))))) (jo [jm 27 5,jm 4 27] [4] .ret)))) [.t 4] Tryz.call30 Tryz.func30 ?_
 have hm:=ao hf
 have h:=hw.sh f hm
 have cn:=hw.st
 have hF:∀st,Pure Tryz.prog 77 [.agg w.cs,n i,n st] (bl (lL (tW w f st))):=fun st=>Hr w i f hf st _ rfl (Nv hw hm hn st) h.tr h.bl h.P' hw.rn
 obtain⟨H,hH⟩:∃H:Nat->List Int,∀k,H k=ir w f (w.base.dh.take k):=⟨_,fun _=>rfl⟩
 have hHe:ir w f w.base.dh=H w.base.dh.length:=by rw[hH,aI]
 rw[hHe]
 ((refine Au ?_;repeat' constructor)<;>intros<;>refine aP ?_)
 refine aR.oC 3 1 5 rfl ?_
 refine aR.mT (α:={x:Nat×aG//x.1<=w.base.dh.length}) [5,12] (fun x=>[(5,.own 0 0 (H x.1.1).length),(12,n x.1.1)]) (fun x=>some [⟨3,1,(H x.1.1).map fun z=>[n z],none⟩]::x.1.2) (fun x=>w.base.dh.length-x.1.1) ⟨(0,[]),aQ _⟩ ?_ ?_ ?_
 ·(simp only[zN,zT,zV,zS,zU,dC,ex,bu,bN,elems,cells,scalar,dH,bL,aX,aU,bJ,bI,Nat.reduceBEq,reduceAdd,reduceSub,reduceLT,reduceLeDiff,reduceMul,reduceEqDiff,reduceIte];try simp)
  rw[hH];rfl
 ·rw[hH];rfl
 rintro⟨⟨k,ν⟩,hk⟩
 simp only at hk
 simp only
 have Ym:(H k).length<=k:=by
  rw[hH];unfold ir;rw[aF]
  have:=bK (fun s:j3=>lL (tW w f s.id)) (w.base.dh.take k)
  simp at this;omega
 by_cases bP:k<w.base.dh.length
 ·obtain⟨s,hs⟩:∃s,w.base.dh[k]?=some s:=⟨_,ae bP⟩
  have cX:(w.base.dh.map j3.cs).getD k []=j3.cs s:=getD_map hs
  have hF:=hF s.id
  have l_:H (k+1)=if lL (tW w f s.id)then H k++[s.id]else H k:=by
   rw[hH,hH,ey hs]
   unfold ir
   rw[fK,di]
   cases h:lL (tW w f s.id)<;>simp[h]
  generalize lL (tW w f s.id)=b at*
  generalize YB:H (k+1)=H1 at*
  generalize H k=H0 at*
  cases b with
  |true=>
   rw[if_pos rfl]at l_
   ((refine Az @cX @hF ?_;repeat' constructor)<;>intros<;>refine aP ?_)
   refine⟨⟨(k+1,ν++[some [⟨118,4,[j3.cs s],none⟩]]),bP⟩,?_,?_,by simp only;omega⟩
   ·simp[YB,l_]
   ·simp only[YB,l_,di,bq,dL]
  |false=>
   simp only[bw,if_false]at l_
   ((refine Az @cX @hF ?_;repeat' constructor)<;>intros<;>refine aP ?_)
   refine⟨⟨(k+1,ν++[some [⟨118,4,[j3.cs s],none⟩]]),bP⟩,?_,?_,by simp only;omega⟩
   ·simp[YB,l_]
   ·simp only[YB,l_]
 ·obtain rfl:k=w.base.dh.length:=by omega
  ((refine Au ?_;repeat' constructor)<;>intros<;>refine aP ?_)
  exact bO.gZ (T:=3) (cs:=fun z=>[n z]) rfl rfl (by decide) (fun a=>by simp) (fun a=>rfl)
def c7:CF:=⟨12,(jo [jx 2 38 9 0,jx 3 3 1 1,jn 4,jc 5 0] [2,3] (jo [jk 6 9 2,jl 7 3,jw 8 (.j5 (.func 29) [] [(.t 2),(.t 3)]),jw 9 (.call (.f 27) [(.t 6),(.t 7),(.f 28),(.t 8)]),jz 10 0 9,jz 11 1 9,jm 4 10,jm 5 11] [4,5] .ret)),[.t 4,.t 5]⟩
theorem k7:jP Tryz.prog Tryz.f7 c7=true:=by kernel_rfl
theorem xe:Pure Tryz.prog 28 [] (bl true):=by
 refine et 1 (jo [jb 0 false] [] (jo [jb 0 true] [0] .ret)) [.t 0] Tryz.call28 Tryz.func28 ?_
 ((refine Au ?_;repeat' constructor)<;>intros<;>refine aP ?_)
 exact Fq
theorem rG(w:Wk)(i:Int)(hs:w.aS.length<=1000000):Pure Tryz.prog 46 [.agg w.cs,n i] (bl (decide (0<=i/\i<w.aS.length))):=by
 refine et 14 (jo [jx 2 38 9 0,jb 4 false] [1,2] (jo [jm 5 1,ju .geq 6 5 0,jm 7 6,ja 7 (jm 8 1),ja 7 (jf 9 7 2),ja 7 (jl 10 9),ja 7 (je 11 10),ja 7 (jt .lss 12 8 11),jp 13 7 12,jm 4 13] [4] .ret)) [.t 4] Tryz.call46 Tryz.func46 ?_
 ((refine Au ?_;repeat' constructor)<;>intros<;>refine aP ?_)
 all_goals exact bO.eq (congrArg bl (by first|rfl|(rw[cV];simp<;>try omega))) (by simp)
theorem qd(w:Wk)(hw:zG w)(i:Nat)(f:dm)(hf:w.aS[i]?=some f):Pure Tryz.prog 31 [.agg w.cs,n i] (if 4000<p' w f then .iu [.v (.pointer none),n 2]else .iu [.bZ (A7 (tW w f f.fB)) 0,n 0]):=by
 have h:=hw.sh f (ao hf)
 exact DB w i f hf _ rfl (h.ok _) h.tr h.bl h.P' h.eC hw.rn
theorem Fh(w:Wk)(hw:zG w)(i:Nat)(f:dm)(hf:w.aS[i]?=some f)(hn:p' w f<=4000):Pure Tryz.prog 29 [.bZ (A7 (tW w f f.fB)) 0,.bZ w.cs 0,.bZ [n i] 0] (.iu [l9 (ir w f w.base.dh),n 0]):=by
 refine et 9 (jo [jn 4,jc 5 0] [1,2] (jo [jk 6 9 1,jl 7 2,jy 8 30 [6,7],jm 4 8,jc 5 0] [4,5] .ret)) [.t 4,.t 5] Tryz.call29 Tryz.func29 ?_
 have hH:=zH w hw i f hf hn
 generalize ir w f w.base.dh=H at*
 ((refine Az @zN @hH ?_;repeat' constructor)<;>intros<;>refine aP ?_)
 exact Fq
theorem Fi(w:Wk)(hw:zG w)(mw:Pure Tryz.prog 26 [.agg w.cs] (n 0))(i:Nat)(f:dm)(hf:w.aS[i]?=some f)(g:Nat)(cap:List AV)(D7:∀a∈cap,bC a)(l:List Int)(e:Int)(hg:p' w f<=4000->Pure Tryz.prog g (.bZ (A7 (tW w f f.fB)) 0::cap) (.iu [l9 l,n e])):Pure Tryz.prog 27 [.agg w.cs,n i,.fn (.func 28) [] [],.fn (.func g) [] cap] (if 4000<p' w f then .iu [.v (.slice none 0 0),n 2]else .iu [l9 l,n e]):=by
 refine et 43 (jo [jx 4 38 9 0,jn 8,jc 9 0] [1,2,3,4,8] (.seq (jo [jk 12 9 4,jy 13 26 [12],jm 10 13] [1,2,3,4,8,10] (jo [jm 14 10,ju .neq 15 14 0] [1,2,3,4,8,10,15] (.cond (.t 15) (jo [jm 16 8,jm 17 10,jm 8 16,jm 9 17] [8,9] .ret) .skip))) (.seq (jo [jk 18 9 4,jm 19 1,jy 20 46 [18,19],jv 21 20,jm 22 21,jd 22 (jm 23 2),⟨some 24,.call (.t 23) [],some (22,false)⟩,jd 22 (jv 25 24),jq 26 22 25] [1,3,4,8,26] (.cond (.t 26) (jo [jm 27 8,jm 8 27,jc 9 1] [8,9] .ret) .skip)) (jo [jk 29 9 4,jm 30 1,jy 31 31 [29,30],jm 28 31,jz 32 0 28,jz 33 1 28,jm 11 32,jm 9 33] [3,8,9,11] (.seq (jo [jm 34 9,ju .neq 35 34 0] [3,8,9,11,35] (.cond (.t 35) (jo [jm 36 8,jm 37 9,jm 8 36,jm 9 37] [8,9] .ret) .skip)) (jo [jm 38 3,jm 39 11,jw 40 (.call (.t 38) [(.t 39)]),jz 41 0 40,jz 42 1 40,jm 8 41,jm 9 42] [8,9] .ret)))))) [.t 8,.t 9] Tryz.call27 Tryz.func27 ?_
 have hC:=qd w hw i f hf
 have bP:i<w.aS.length:=by
  rcases cm i w.aS.length with h|h
  ·exact h
  ·rw[b_ h]at hf;cases hf
 have hI:=rG w i hw.sn
 rw[decide_eq_true (show(0:Int)<=(i:Int)/\(i:Int)<(w.aS.length:Int) by omega)]at hI
 have hA:=xe
 by_cases hb:4000<p' w f
 ·rw[if_pos hb]at hC|-
  ((refine Ay (aa @mw (aa @hI (aa @hA @hC))) ?_;repeat' constructor)<;>intros<;>refine aP ?_)
  all_goals try contradiction
  exact Fq
 ·rw[if_neg hb]at hC|-
  have hg:=hg (by omega)
  have Dn:=kf (tW w f f.fB) 0
  generalize A7 (tW w f f.fB)=X at*
  ((refine Ay (aa @mw (aa @hI (aa @hA @hC))) ?_;repeat' constructor)<;>intros<;>refine aP ?_)
  refine .inl ⟨_,_,_,_,rfl,fun _=>jg.of (fun a ha=>?_) hg,?_⟩
  ·rcases aC.1 ha with rfl|ha
   ·exact Dn
   ·exact D7 a ha
  refine aH ?_
  ((refine Au ?_;repeat' constructor)<;>intros<;>refine aP ?_)
  exact Fq
theorem IG(w:Wk):∀c∈w.cs,bC c:=by intro c hc;simp only[Wk.cs,aC,au,or_false]at hc;rcases hc with rfl|rfl|rfl|rfl|rfl|rfl|rfl|rfl|rfl<;>simp
theorem Hs(w:Wk)(hw:zG w)(mw:Pure Tryz.prog 26 [.agg w.cs] (n 0))(i:Nat)(f:dm)(hf:w.aS[i]?=some f):Pure Tryz.prog 7 [.agg w.cs,n i] (if 4000<p' w f then .iu [.v (.slice none 0 0),n 2]else .iu [l9 (ir w f w.base.dh),n 0]):=by
 refine mu Tryz.call7 Tryz.func7 k7 ?_
 unfold c7
 have hA:=Fi w hw mw i f hf 29 [.bZ w.cs 0,.bZ [n i] 0] (by intro a ha;simp only[aC,au,or_false]at ha;rcases ha with rfl|rfl;exact .bZ (IG w);simp) (ir w f w.base.dh) 0 (fun hn=>Fh w hw i f hf hn)
 generalize ir w f w.base.dh=H at*
 by_cases hb:4000<p' w f
 ·rw[if_pos hb]at hA|-
  ((refine Az @zN @hA ?_;repeat' constructor)<;>intros<;>refine aP ?_)
  exact Fq
 ·rw[if_neg hb]at hA|-
  ((refine Az @zN @hA ?_;repeat' constructor)<;>intros<;>refine aP ?_)
  exact Fq
def c8:CF:=⟨60,(jo [jx 1 38 9 0,jn 2,jc 3 0] [1] (.seq (jo [jk 12 9 1,jy 13 26 [12],jm 4 13] [1,4] (jo [jm 14 4,ju .neq 15 14 0] [1,4,15] (.cond (.t 15) (jo [jm 16 4,jn 2,jm 3 16] [2,3] .ret) .skip))) (.seq (jo [jf 17 7 1,jl 18 17,je 19 18,jc 20 0] [1,19,20] (.block 0 (.loop (jo [jt .lss 21 20 19] [1,19,20,21] (.seq (.cond (.t 21) .skip (.exit 0)) (.seq (.block 1 (jo [jm 22 20,jm 5 22] [1,5,19,20] (jo [jk 24 9 1,jm 25 5,jy 26 31 [24,25],jm 23 26,jz 27 0 23,jz 28 1 23,jm 6 27,jm 7 28] [1,7,19,20] (jo [jm 29 7,ju .neq 30 29 0] [1,7,19,20,30] (.cond (.t 30) (jo [jm 31 7,jn 2,jm 3 31] [2,3] .ret) .skip))))) (.ops [ju .add 32 20 1,jm 20 32] [1,19,20]))))))) (jo [jn 8] [1,8] (.seq (jo [jf 33 7 1,jl 34 33,je 35 34,jc 36 0] [1,8,34,35,36] (.block 2 (.loop (jo [jt .lss 37 36 35] [1,8,34,35,36,37] (.seq (.cond (.t 37) .skip (.exit 2)) (.seq (.block 3 (jo [jm 38 36,ji 39 24 34 36,jk 40 24 39,jw 10 (.alloc 66 24 z24),jm 9 38,js 24 10 40] [1,8,9,10,34,35,36] (jo [jk 41 9 1,jm 42 9,jy 43 30 [41,42],jm 11 43] [1,8,9,10,11,34,35,36] (jo [jm 44 11,je 45 44,ju .gtr 46 45 0,jm 47 46,ja 47 (jm 48 11),ja 47 (jf 49 2 10),ja 47 (jl 50 49),ja 47 (jy 51 32 [48,50]),ja 47 (jv 52 51),jp 53 47 52] [1,8,9,34,35,36,53] (.cond (.t 53) (.ops [jm 54 8,jm 55 9,jw 56 (.jR false 3 1 1 [.int .i64 0] [(0,1,(.t 55))]),jw 57 (.app 3 1 8 (.t 54) (.t 56)),jm 8 57] [1,8,34,35,36]) .skip))))) (.ops [ju .add 58 36 1,jm 36 58] [1,8,34,35,36]))))))) (jo [jm 59 8,jm 2 59,jc 3 0] [2,3] .ret)))))),[.t 2,.t 3]⟩
theorem k8:jP Tryz.prog Tryz.f8 c8=true:=by kernel_rfl
noncomputable def Fj(w:Wk)(f:dm):Bool:=(ir w f w.base.dh).length !=0&& !(ir w f w.base.dh).any fun x=>decide (f.fB=x)
noncomputable def oG(w:Wk)(k:Nat):List Int:=(((w.aS.take k).zipIdx).filter fun p=>Fj w p.1).map fun p=>(p.2:Int)
theorem Kf{w:Wk}{k:Nat}{f:dm}(h:w.aS[k]?=some f):oG w (k+1)=if Fj w f then oG w k++[(k:Int)]else oG w k:=by
 have hk:k<w.aS.length:=by
  rcases cm k w.aS.length with h'|h'
  ·exact h'
  ·rw[b_ h']at h;cases h
 unfold oG
 rw[ey h,List.zipIdx_append,fK,di]
 have e:(w.aS.take k).length=k:=by simp;omega
 cases hb:Fj w f<;>simp[hb,e]
theorem Fk(w:Wk)(k:Nat):(oG w k).length<=k:=by
 unfold oG
 rw[aF]
 have:=bK (fun p:dm×Nat=>Fj w p.1) (w.aS.take k).zipIdx
 simp at this;omega
theorem A9(w:Wk)(hw:zG w)(mw:Pure Tryz.prog 26 [.agg w.cs] (n 0)):∃e:Int,(e=2\/e=0/\∀f∈w.aS,p' w f<=4000)/\Pure Tryz.prog 8 [.agg w.cs] (if e=2 then .iu [.v (.slice none 0 0),n 2]else .iu [l9 (oG w w.aS.length),n 0]):=by
 by_cases hb:∃f∈w.aS,4000<p' w f
 ·refine⟨2,.inl rfl,?_⟩
  rw[if_pos rfl]
  obtain⟨f0,hf0,hb0⟩:=hb
  refine mu Tryz.call8 Tryz.func8 k8 ?_
  unfold c8
  have hsn:=hw.sn
  ((refine Ay @mw ?_;repeat' constructor)<;>intros<;>refine aP ?_)
  refine aR.ls (α:={x:Nat//x<=w.aS.length/\∀j f,j<x->w.aS[j]?=some f->p' w f<=4000}) [20] (fun x=>[(20,n x.1)]) (fun x=>w.aS.length-x.1) ⟨0,aQ _,by simp⟩ ?_
  rintro⟨k,hk,ff⟩
  by_cases bP:k<w.aS.length
  ·obtain⟨f,hf⟩:∃f,w.aS[k]?=some f:=⟨_,ae bP⟩
   have hC:=qd w hw k f hf
   by_cases h4:4000<p' w f
   ·rw[if_pos h4]at hC
    ((refine Az @zN @hC ?_;repeat' constructor)<;>intros<;>refine aP ?_)
    all_goals try contradiction
    exact Fq
   ·rw[if_neg h4]at hC
    have Dn:=kf (tW w f f.fB) 0
    generalize A7 (tW w f f.fB)=X at*
    ((refine Az @zN @hC ?_;repeat' constructor)<;>intros<;>refine aP ?_)
    all_goals try contradiction
    refine⟨⟨k+1,bP,fun j g hj hg=>?_⟩,by simp,by simp only;omega⟩
    by_cases e:j=k
    ·subst e;rw[hf]at hg;cases hg;omega
    ·exact ff j g (by omega) hg
  ·obtain rfl:k=w.aS.length:=by omega
   obtain⟨i,hi,e⟩:=fZ.1 hf0
   have:=ff i f0 hi (by rw[ae hi,e])
   omega
 ·have hb:∀f∈w.aS,p' w f<=4000:=fun f hf=>Nat.le_of_not_lt fun h=>hb ⟨f,hf,h⟩
  refine⟨0,.inr ⟨rfl,hb⟩,?_⟩
  rw[if_neg (by decide)]
  refine mu Tryz.call8 Tryz.func8 k8 ?_
  unfold c8
  have hsn:=hw.sn
  ((refine Ay @mw ?_;repeat' constructor)<;>intros<;>refine aP ?_)
  refine aR.ls (α:={x:Nat//x<=w.aS.length}) [20] (fun x=>[(20,n x.1)]) (fun x=>w.aS.length-x.1) ⟨0,aQ _⟩ ?_
  rintro⟨k,hk⟩
  by_cases bP:k<w.aS.length
  ·obtain⟨f,hf⟩:∃f,w.aS[k]?=some f:=⟨_,ae bP⟩
   have hC:=qd w hw k f hf
   have h4:=hb f (ao hf)
   rw[if_neg (by omega)]at hC
   have Dn:=kf (tW w f f.fB) 0
   generalize A7 (tW w f f.fB)=X at*
   ((refine Az @zN @hC ?_;repeat' constructor)<;>intros<;>refine aP ?_)
   all_goals try contradiction
   exact⟨⟨k+1,bP⟩,by simp,by simp only;omega⟩
  ·obtain rfl:k=w.aS.length:=by omega
   ((refine Ax @zN ?_;repeat' constructor)<;>intros<;>refine aP ?_)
   refine aR.oC 3 1 8 rfl ?_
   refine aR.mT (α:={x:Nat×aG//x.1<=w.aS.length}) [8,36] (fun x=>[(8,.own 0 0 (oG w x.1.1).length),(36,n x.1.1)]) (fun x=>some [⟨3,1,(oG w x.1.1).map fun z=>[n z],none⟩]::x.1.2) (fun x=>w.aS.length-x.1.1) ⟨(0,[]),aQ _⟩ ?_ ?_ ?_
   ·(simp only[zN,zT,zV,zS,zU,dC,ex,bu,bN,elems,cells,scalar,dH,bL,aX,aU,bJ,bI,Nat.reduceBEq,reduceAdd,reduceSub,reduceLT,reduceLeDiff,reduceMul,reduceEqDiff,reduceIte];try simp)
    rfl
   ·rfl
   rintro⟨⟨k,ν⟩,hk⟩
   simp only at hk
   simp only
   have A_:=Fk w k
   by_cases bP:k<w.aS.length
   ·obtain⟨f,hf⟩:∃f,w.aS[k]?=some f:=⟨_,ae bP⟩
    have cX:(w.aS.map dm.cs).getD k []=dm.cs f:=getD_map hf
    have hH:=zH w hw k f hf (hb f (ao hf))
    have l_:=Kf hf
    have hmb:Fj w f=((ir w f w.base.dh).length !=0&& !(ir w f w.base.dh).any fun x=>decide (f.fB=x)):=rfl
    have Ym:(ir w f w.base.dh).length<9223372036854775808:=by
     have:=hw.st
     unfold ir;rw[aF]
     have:=bK (fun s:j3=>lL (tW w f s.id)) w.base.dh
     omega
    have hCo:=w9 (ir w f w.base.dh) f.fB Ym
    generalize ir w f w.base.dh=H at*
    generalize H.any (fun x=>decide (f.fB=x))=hb2 at*
    rw[hmb]at l_
    generalize Qa:oG w (k+1)=M1 at*
    generalize oG w k=M0 at*
    by_cases h0:H.length=0
    ·rw[h0]at l_
     simp at l_
     ((refine Az (aa @cX (aa @zN @h0)) @hH ?_;repeat' constructor)<;>intros<;>refine aP ?_)
     refine⟨⟨(k+1,ν++[some [⟨66,24,[f.cs],none⟩]]),bP⟩,?_,?_,by simp only;omega⟩
     ·simp[Qa,l_]
     ·simp only[Qa,l_,di,bq,dL]
    ·cases hb2 with
     |true=>
      simp at l_
      ((refine Az (aa @cX @zN) (aa @hH @hCo) ?_;repeat' constructor)<;>intros<;>refine aP ?_)
      refine⟨⟨(k+1,ν++[some [⟨66,24,[f.cs],none⟩]]),bP⟩,?_,?_,by simp only;omega⟩
      ·simp[Qa,l_]
      ·simp only[Qa,l_,di,bq,dL]
     |false=>
      simp[h0]at l_
      ((refine Az (aa @cX @zN) (aa @hH @hCo) ?_;repeat' constructor)<;>intros<;>refine aP ?_)
      refine⟨⟨(k+1,ν++[some [⟨66,24,[f.cs],none⟩]]),bP⟩,?_,?_,by simp only;omega⟩
      ·simp[Qa,l_]
      ·simp only[Qa,l_,di,bq,dL]
   ·obtain rfl:k=w.aS.length:=by omega
    ((refine Au ?_;repeat' constructor)<;>intros<;>refine aP ?_)
    exact bO.mY ⟨bO.gZ (T:=3) (cs:=fun z=>[n z]) rfl rfl (by decide) (fun a=>by simp) (fun a=>rfl),Fq,trivial⟩
theorem aam:GX 162 (fun a b=>a.1.lo-b.1.lo):=by
 refine⟨Tryz.call162,fun a b=>?_,fun a b=>by omega⟩
 obtain⟨a,ha⟩:=a
 obtain⟨b,hb⟩:=b
 refine et 10 (jo [jx 2 52 2 0,jx 3 52 2 1,jc 4 0] [2,3] (jo [jf 5 0 2,jl 6 5,jf 7 0 3,jl 8 7,jt .sub 9 6 8,jm 4 9] [4] .ret)) [.t 4] Tryz.call162 Tryz.func162 ?_
 simp only
 ((refine Au ?_;repeat' constructor)<;>intros<;>refine aP ?_)
 exact Fq
theorem Fl(x:Int):Pure Tryz.prog 161 [ec [],n x] (.v (.slice none 0 0)):=by
 refine et 28 (jo [jn 4] [0,1] (jo [jn 5] [0,1,5] (.seq (jo [jm 8 0,je 9 8,jc 10 0] [1,5,8,9,10] (.block 0 (.loop (jo [jt .lss 11 10 9] [1,5,8,9,10,11] (.seq (.cond (.t 11) .skip (.exit 0)) (.seq (.block 1 (jo [ji 12 2 8 10,jk 13 2 12,jw 7 (.alloc 52 2 [.int .i64 0,.int .i64 0]),js 2 7 13] [1,5,7,8,9,10] (.ops [jm 14 5,jf 15 0 7,jl 16 15,jm 17 1,jt .add 18 16 17,jf 19 1 7,jl 20 19,jm 21 1,jt .add 22 20 21,jw 23 (.build [.int .i64 0,.int .i64 0] [(0,1,(.t 18)),(1,1,(.t 22))]),jw 24 (.jR false 52 2 1 [.int .i64 0,.int .i64 0] [(0,2,(.t 23))]),jw 25 (.app 52 2 16 (.t 14) (.t 24)),jm 5 25] [1,5,8,9,10]))) (.ops [ju .add 26 10 1,jm 10 26] [1,5,8,9,10]))))))) (jo [jm 27 5,jm 4 27] [4] .ret)))) [.t 4] Tryz.call161 Tryz.func161 ?_
 ((refine Au ?_;repeat' constructor)<;>intros<;>refine aP ?_)
 refine aR.ls (α:=Unit) [10] (fun _=>[(10,n 0)]) (fun _=>0) () ?_
 intro _
 ((refine Au ?_;repeat' constructor)<;>intros<;>refine aP ?_)
 all_goals try contradiction
 exact Fq
theorem u5:Pure Tryz.prog 85 [ec []] (.v (.slice none 0 0)):=by
 refine et 52 (jo [jn 2] [0] (jo [jm 7 0,jy 8 111 [7],jw 9 (.call (.f 109) [(.t 8),(.f 162)]),jm 0 9] [0] (jo [jn 3] [0,3] (.seq (jo [jm 10 0,je 11 10,jc 12 0] [3,10,11,12] (.block 0 (.loop (jo [jt .lss 13 12 11] [3,10,11,12,13] (.seq (.cond (.t 13) .skip (.exit 0)) (.seq (.block 1 (jo [ji 14 2 10 12,jk 15 2 14,jw 5 (.alloc 52 2 [.int .i64 0,.int .i64 0]),js 2 5 15] [3,5,10,11,12] (jo [jm 16 3,je 17 16,jm 6 17] [3,5,6,10,11,12] (.seq (.draw [jm 18 6,ju .gtr 19 18 0,jm 20 19,ja 20 (jf 21 0 5),ja 20 (jl 22 21),ja 20 (jm 23 3),ja 20 (jm 24 6),ja 20 (ju .sub 25 24 1),ja 20 (ji 26 2 23 25),ja 20 (jf 27 1 26),ja 20 (jl 28 27),ja 20 (ju .add 29 28 1),ja 20 (jt .leq 30 22 29),jp 31 20 30] [] [3,5,6,10,11,12,31]) (.cond (.t 31) (.draw [jm 32 3,jm 33 6,ju .sub 34 33 1,jm 35 3,jm 36 6,ju .sub 37 36 1,ji 38 2 35 37,jf 39 1 38,jl 40 39,jf 41 1 5,jl 42 41,jw 43 (.tN true (.t 40) (.t 42)),ji 44 2 32 34,jf 45 1 44] [js 1 45 43] [3,10,11,12]) (.ops [jm 46 3,jk 47 2 5,jw 48 (.jR false 52 2 1 [.int .i64 0,.int .i64 0] [(0,2,(.t 47))]),jw 49 (.app 52 2 16 (.t 46) (.t 48)),jm 3 49] [3,10,11,12])))))) (.ops [ju .add 50 12 1,jm 12 50] [3,10,11,12]))))))) (jo [jm 51 3,jm 2 51] [2] .ret))))) [.t 2] Tryz.call85 Tryz.func85 ?_
 have hV:=kQ []
 ((refine Ay @hV ?_;repeat' constructor)<;>intros<;>refine aP ?_)
 refine .inr (.inl ⟨_,_,_,_,rfl,fun _=>⟨w7 aam [] _ _ [] (fun s hs=>by cases hs) (by decide) (w5 [] (by decide)),?_⟩,fun h=>by cases h⟩)
 rintro res S ⟨ν,g,l,⟨hp,_⟩,hS,rfl,_,ho⟩
 clear hS
 obtain rfl:=hp.eq_nil
 refine aH ?_
 simp only[zN,zT,zV,zS,zU,dC,ex,bu,bN,elems,cells,scalar,dH,bL,aX,aU,bJ,bI,Nat.reduceBEq,reduceAdd,reduceSub,reduceLT,reduceLeDiff,reduceMul,reduceEqDiff,reduceIte]
 simp only[bM]at*
 ((refine Ax @ho ?_;repeat' constructor)<;>intros<;>refine aP ?_)
 refine aR.lr (α:=Unit) [12] (fun _=>[(12,n 0)]) (fun _=>S) (fun _=>0) () ?_
 intro _
 ((refine Au ?_;repeat' constructor)<;>intros<;>refine aP ?_)
 all_goals try contradiction
 exact Fq
theorem Kg(c:Ch)(hc:zu c)(l:List (List Sp))(hl:l.length=c.iY.length)(he:∀s∈l,s=[])(z:Int)(hz:-200<=z/\z<=200):Pure Tryz.prog 84 [.bZ (A7 c) 0,Ho l,n z] (.v (.slice none 0 0)):=by
 refine et 34 (jo [jn 6] [0,1,2] (jo [jn 7] [0,1,2,7] (.seq (jo [jm 10 1,je 11 10,jc 12 0] [0,2,7,10,11,12] (.block 0 (.loop (jo [jt .lss 13 12 11] [0,2,7,10,11,12,13] (.seq (.cond (.t 13) .skip (.exit 0)) (.seq (.block 1 (jo [jm 14 12,ji 15 1 10 12,jl 16 15,jm 8 14,jm 9 16] [0,2,7,8,9,10,11,12] (.ops [jm 17 7,jm 18 9,jm 19 0,jw 20 (.dY (.t 19)),jf 21 23 20,jl 22 21,jm 23 8,ji 24 3 22 23,jf 25 2 24,jl 26 25,jm 27 2,jt .add 28 26 27,jy 29 161 [18,28],jw 30 (.app 52 2 16 (.t 17) (.t 29)),jm 7 30] [0,2,7,10,11,12]))) (.ops [ju .add 31 12 1,jm 12 31] [0,2,7,10,11,12]))))))) (jo [jm 32 7,jy 33 85 [32],jm 6 33] [6] .ret)))) [.t 6] Tryz.call84 Tryz.func84 ?_
 have Dn:=kf c 0
 have hT:=u5
 have I8:=hc.ok.p1
 have F':=hc.ok.p2
 have WN:=hc.TM
 have hS:=Fl
 ((refine Au ?_;repeat' constructor)<;>intros<;>refine aP ?_)
 refine aR.oC 52 2 7 rfl ?_
 refine aR.lr (α:={x:Nat//x<=l.length}) [7,12] (fun x=>[(7,.own 0 0 0),(12,n x.1)]) (fun x=>[some [⟨52,2,[],none⟩]]) (fun x=>l.length-x.1) ⟨0,aQ _⟩ ?_
 rintro⟨k,hk⟩
 by_cases bP:k<l.length
 ·have cX:(l.map fun x=>[iT x]).getD k []=[iT []]:=by
   rw[getD_map (ae bP),he _ (cv bP)]
  obtain⟨s,hs⟩:∃s,c.iY[k]?=some s:=⟨_,ae (by omega)⟩
  have Vr:=(nI I8).1 (ao hs)
  have zJ:(c.iY.map St.cs).getD k []=St.cs s:=getD_map hs
  have hS:=hS (s.off+z)
  ((refine Az (aa @zC (aa @cX @zJ)) @hS ?_;repeat' constructor)<;>intros<;>refine aP ?_)
  exact⟨⟨k+1,bP⟩,by simp,by simp only;omega⟩
 ·obtain rfl:k=l.length:=by omega
  (repeat' ((first|refine vn rfl ?_|simp(disch:=omega) only[cB,aj]|refine bo (fun _=>?_) fun _=>?_|refine im fun _=>?_|((repeat refine si ?_);((first|refine .inl ⟨_,_,_,_,rfl,fun _=>(by first|exact(jg.plain hT (by simp) ⟨bO.gZ (T:=52) (l:=[]) rfl rfl (by decide) (fun a=>by simp) (fun a=>rfl),trivial⟩)),?_⟩|refine⟨_,_,_,_,rfl,fun _=>(by first|exact(jg.plain hT (by simp) ⟨bO.gZ (T:=52) (l:=[]) rfl rfl (by decide) (fun a=>by simp) (fun a=>rfl),trivial⟩)),?_⟩);(first|refine o1 ?_|refine o4 ?_)))|refine cF ?_|refine om ?_|refine an ?_|fail)<;>try simp only[zN,zT,zV,zS,zU,dC,ex,bu,bN,elems,cells,scalar,dH,bL,aX,aU,bJ,bI,Nat.reduceBEq,reduceAdd,reduceSub,reduceLT,reduceLeDiff,reduceMul,reduceEqDiff,reduceIte]))
  all_goals try(exfalso;omega)
  exact Fq
theorem Kh{t:ka}(hv:valid t)(hf:tC t=false){k:Nat}(hk:k<t.length):∀s∈tz t k,s=[]:=fun s hs=>by
 obtain⟨i,hi⟩:=fb.1 hs
 cases s with
 |nil=>rfl
 |cons x r=>
  exfalso
  have hl:=(ai.1 hi).1
  rw[ri hk]at hl
  have hx:=(Gy hv hk) _ hs
  obtain⟨c,hc,_⟩:=(EF hv k ⟨(i:Int),x.lo⟩ hk).1 ⟨by simp,by simp only;omega,⟨x,by rw[show((⟨(i:Int),x.lo⟩:At).node.toNat)=i by simp,ab,hi];simp,eZ _,(hx.1.ne x (by simp))⟩⟩
  have:=(wW hv).2 ⟨c,hc⟩
  rw[hf]at this;cases this
def lM(N k b:Nat):List (List AV):=(List.range N).map fun t=>if t<k then [.own (b+t) 0 0]else [.v (.slice none 0 0)]
abbrev Qb:Option (List Ob):=some [⟨52,2,[],none⟩]
theorem Nw{P:Program}{M:Nat}{rd:Option Nat}{C0:C}{K:e7}{env:Env}(N:Nat)(x:Option (List Ob)):∀m,m<=N->aR P M rd C0 K env (some [⟨56,1,lM N N 2,none⟩]::x::List.replicate N Qb)->aR P M rd C0 K env (some [⟨56,1,lM N (N-m) 2,none⟩]::x::List.replicate (N-m) Qb)
 |0,_,h=>h
 |m+1,hm,h=>by
  have ih:=Nw (P:=P) (M:=M) (rd:=rd) (C0:=C0) (K:=K) (env:=env) N x m (by omega) h
  refine aR.lH 52 2 (f:=0) (i:=0) (e:=N-(m+1)) (j:=0) rfl (by simp[lM];omega) ?_ ?_
  ·have e:N-(m+1)<N:=by omega
   simp[lM,e]
  refine aR.pQ ?_ ih
  have e:N-m=N-(m+1)+1:=by omega
  rw[e]
  simp only[aG.cZ,aD,cg,List.set_cons_zero,bf,fQ]
  rw[List.replicate_succ']
  congr 4
  refine dv fun i=>?_
  rw[bX]
  by_cases hi:i<N
  ·by_cases e2:N-(m+1)=i
   ·subst e2;simp[lM,hi];omega
   ·rw[if_neg e2]
    simp only[lM,aV,cH hi,aY]
    by_cases e3:i<N-(m+1)
    ·rw[if_pos e3,if_pos (by omega)]
    ·rw[if_neg e3,if_neg (by omega)]
  ·have e2:¬N-(m+1)=i:=by omega
   rw[if_neg e2];simp[lM,hi]
theorem Nx(c:Ch)(hc:zu c)(hf:lL c=false):Pure Tryz.prog 35 [.bZ (A7 c) 0,n 0,.v (.slice none 0 0),bl true] (.sl 1 (List.replicate (c.bD+1).toNat [.v (.slice none 0 0)])):=by
 refine et 70 (jo [jx 4 98 1 0,jn 8] [1,2,3,4] (jo [jl 16 4,jw 17 (.dY (.t 16)),jf 18 20 17,jl 19 18,ju .add 20 19 1,jw 21 (.vq 56 1 24 [.slice none 0 0] (.t 20) (.t 20)),jw 9 (.alloc 45 1 [.slice none 0 0]),js 1 9 21] [1,2,3,4,9] (.seq (jo [jl 22 4,jm 23 1,jm 24 2,jm 25 3,jy 26 82 [22,23,24,25]] [4,9,26] (.block 0 (.rL (.t 26) [27,28] (jo [jw 10 (.alloc 191 1 [.slice none 0 0]),js 1 10 27] [4,9,10,28] (.ops [jm 11 28] [4,9,10,11])) (.block 1 (jo [jk 30 1 10,jy 31 83 [30],jm 29 31,jz 32 0 29,jz 33 1 29,jm 12 32,jm 13 33] [4,9,11,12] (jo [jl 34 9,je 35 34,jc 36 0] [4,9,11,12,35,36] (.block 2 (.loop (jo [jt .lss 37 36 35] [4,9,11,12,35,36,37] (.seq (.cond (.t 37) .skip (.exit 2)) (.seq (.block 3 (jo [jm 38 36,jm 14 38] [4,9,11,12,14,35,36] (.jC [0,1,2,3,4,5,6,7,8,9,10,11,12,13,14,15] [0,1] 1 [jl 39 9,jm 40 14,jl 41 9,jm 42 14,ji 43 1 41 42,jl 44 43,jl 45 4,jm 46 12,jm 47 14,ji 48 1 46 47,jl 49 48,jm 50 11,jy 51 84 [45,49,50]] [jw 52 (.app 52 2 16 (.t 44) (.t 51)),ji 53 1 39 40,js 1 53 52] [4,9,11,12,35,36]))) (.ops [ju .add 54 36 1,jm 36 54] [4,9,11,12,35,36])))))))))))) (.seq (jo [jl 55 9,je 56 55,jc 57 0] [9,56,57] (.block 4 (.loop (jo [jt .lss 58 57 56] [9,56,57,58] (.seq (.cond (.t 58) .skip (.exit 4)) (.seq (.block 5 (jo [jm 59 57,jm 15 59] [9,15,56,57] (.draw [jl 60 9,jm 61 15,jl 62 9,jm 63 15,ji 64 1 62 63,jl 65 64,jy 66 85 [65],ji 67 1 60 61] [js 1 67 66] [9,56,57]))) (.ops [ju .add 68 57 1,jm 57 68] [9,56,57]))))))) (jo [jl 69 9,jm 8 69] [8] .ret))))) [.t 8] Tryz.call35 Tryz.func35 ?_
 have Dn:=kf c 0
 have ht1:=hc.ok.t1
 have ZR:=hc.ok.t2
 obtain⟨N,hN⟩:∃N,N=(c.bD+1).toNat:=⟨_,rfl⟩
 rw[<-hN]
 have hT:=xd c
 have hI:=xc c hc
 have hTn:=u5
 have hzp:=hc.eC
 unfold Pn.ok at hzp
 have Aq:∀z∈Ch.zs c,-200<=z/\z<=200:=fun z hz=>by
  obtain⟨i,hi⟩:=fb.1 hz
  have:=Nu hi
  omega
 have Cd:∀z∈Ch.zs c,tC (c.iZ z)=false:=fun z hz=>by
  unfold lL at hf
  rw[fo]at hf
  simpa using hf z hz
 ((refine Az @zC @hT ?_;repeat' constructor)<;>intros<;>refine aP ?_)
 refine aR.pQ (σ':=some [⟨56,1,lM N (N-N) 2,none⟩]::some [⟨45,1,[[.own 0 0 N]],none⟩]::List.replicate (N-N) Qb) ?_ ?_
 ·rw[jr,hN]
  simp[lM,List.map_const']
 refine Nw N _ N (ar _) ?_
 obtain⟨B,hB⟩:∃B:List (List AV)->aG,∀a,B a=some [⟨56,1,a,none⟩]::some [⟨45,1,[[.own 0 0 N]],none⟩]::List.replicate N Qb:=⟨_,fun _=>rfl⟩
 have qF:∀a,(B a).length=N+2:=fun a=>by rw[hB];simp
 have f0:∀a r,aG.at (B a++r) 0 0=some ⟨56,1,a,none⟩:=fun a r=>by rw[hB];rfl
 have f1:∀a r,aG.at (B a++r) 1 0=some ⟨45,1,[[.own 0 0 N]],none⟩:=fun a r=>by rw[hB];rfl
 have f2:∀a r (t:Nat),t<N->aG.at (B a++r) (2+t) 0=some ⟨52,2,[],none⟩:=fun a r t ht=>by
  rw[cI (by rw[qF];omega),hB,show 2+t=t+1+1 by omega,cQ,cQ]
  simp[aG.at,ht]
 have u0:∀a a' r,aG.cZ (B a++r) 0 0 ⟨56,1,a',none⟩=B a'++r:=fun a a' r=>by rw[hB,hB];rfl
 have PX:∀k,(lM N k 2).length=N:=fun k=>by simp[lM]
 refine aR.pQ (σ':=B (lM N N 2)) (by rw[hB]) ?_
 refine aR.TL (fun _:Unit=>B (lM N N 2)) (N+2) (fun _=>qF _) (fun _ _=>True) (fun _ _=>False) (K9 c (Ch.zs c)) () rfl rfl trivial hI (fun k args h=>?_) (fun k A args l ρ μ hk hA=>?_) (fun A μ hA=>?_) (fun e b τ h=>h.elim)
 ·obtain⟨z,_,rfl⟩:=aL.1 (by simpa[K9]using h)
  rfl
 ·obtain⟨z,hz,rfl⟩:=aL.1 (by simpa[K9]using hk)
  have hz2:=ao hz
  have hzb:=Aq z hz2
  have hA:=MW _ (Fg hc.ok hc.TM z) (oX hc.ok hc.TM z)
  have hav:∀k,k<N->∃x,(BB (c.iZ z))[k]?=some x/\x.length=c.iY.length/\∀s∈x,s=[]:=fun k hk=>by
   have me:k<(c.iZ z).length:=by rw[mJ hc.ok];omega
   refine⟨tz (c.iZ z) k,by unfold BB;rw[aV,cH me];rfl,?_,Kh (oX hc.ok hc.TM z) (Cd z hz2) me⟩
   rw[ri me,yV hc.ok (by rw[mJ hc.ok]at me;exact me)]
  generalize BB (c.iZ z)=V at*
  generalize c.iZ z=T at*
  have hX:∀(a:List (List AV)) (ρ:Option (List Ob)) (o:Ob) (r:aG),aG.at (B a++ρ::(μ++some [o]::r)) (N+(2+(List.length μ+1))) 0=some o:=fun a ρ o r=>by
   rw[show N+(2+(List.length μ+1))=(B a).length+(List.length μ+1) by rw[qF];omega,dR,cQ,dV];rfl
  have hU:∀(a:List (List AV)) (ρ:Option (List Ob)) (o o':Ob) (r:aG),aG.cZ (B a++ρ::(μ++some [o]::r)) (N+(2+(List.length μ+1))) 0 o'=B a++ρ::(μ++some [o']::r):=fun a ρ o o' r=>by
   rw[show N+(2+(List.length μ+1))=(B a).length+(List.length μ+1) by rw[qF];omega,fC];simp[aG.cZ]
  simp only[par]
  ((refine Ax (aa @Ds (aa @hX (aa @hU @qF))) ?_;repeat' constructor)<;>intros<;>refine aP ?_)
  refine⟨(),_,rfl,fun ox=>?_⟩
  ((refine Az (aa @hX (aa @f0 (aa @f1 @PX))) @hA ?_;repeat' constructor)<;>intros<;>refine aP ?_)
  refine aR.lr (α:={k:Nat//k<=N}) [36] (fun k=>[(36,n k.1)]) (fun _=>B (lM N N 2)++ox::(μ++[some [⟨191,1,[[MH T]],none⟩]])) (fun k=>N-k.1) ⟨0,aQ _⟩ ?_
  rintro⟨k,hk⟩
  by_cases bP:k<N
  ·obtain⟨x,hx,mF,hxe⟩:=hav k bP
   have hR:=Kg c hc x mF hxe z hzb
   have cX:(V.map fun l=>[mZ l]).getD k []=[mZ x]:=getD_map hx
   have YC:=(ai.1 hx).1
   have zJ:(lM N N 2).getD k []=[.own (2+k) 0 0]:=by simp[lM,ab,bP]
   have nV:(lM N N 2).set k [.own (2+k) 0 0]=lM N N 2:=by
    refine dv fun i=>?_
    rw[bX]
    by_cases e2:k=i
    ·subst e2;simp[lM,bP]
    ·rw[if_neg e2]
   have YD:∀a r,aG.at (B a++r) (2+k) 0=some ⟨52,2,[],none⟩:=fun a r=>f2 a r k bP
   have u2k:∀a r,aG.cZ (B a++r) (2+k) 0 ⟨52,2,[],none⟩=B a++r:=fun a r=>j8 (YD a r)
   ((refine Az (aa @hX (aa @f0 (aa @f1 (aa @u0 (aa @YD (aa @u2k (aa @PX (aa @cX (aa @zJ @nV))))))))) @hR ?_;repeat' constructor)<;>intros<;>refine aP ?_)
   exact⟨⟨k+1,bP⟩,by simp,by simp only;omega⟩
  ·obtain rfl:k=N:=by omega
   ((refine Au ?_;repeat' constructor)<;>intros<;>refine aP ?_)
   exact⟨(),_,rfl,trivial⟩
 ·((refine Ax (aa @f0 (aa @f1 @PX)) ?_;repeat' constructor)<;>intros<;>refine aP ?_)
  obtain⟨R,hR⟩:∃R:Nat->List (List AV),∀k,R k=(List.range N).map fun t=>if t<k then [.v (.slice none 0 0)]else [.own (2+t) 0 0]:=⟨_,fun _=>rfl⟩
  have Qc:∀k,(R k).length=N:=fun k=>by rw[hR];simp
  have hR0:lM N N 2=R 0:=by
   rw[hR];unfold lM
   refine eS fun t ht=>?_
   rw[if_pos (bc.1 ht),if_neg (aN t)]
  refine aR.le (α:={k:Nat//k<=N}) [57] (fun k=>[(57,n k.1)]) (fun k=>B (R k.1)++μ) (fun k=>N-k.1) ⟨0,aQ _⟩ ?_ ?_
  ·rw[hR0]
  rintro⟨k,hk⟩
  by_cases bP:k<N
  ·have YD:∀a r,aG.at (B a++r) (2+k) 0=some ⟨52,2,[],none⟩:=fun a r=>f2 a r k bP
   have hT2:=jg.plain (σ:=B (R k)++μ) (args:=[.own (2+k) 0 0]) hTn (by simp) ⟨bO.gZ (T:=52) (cs:=Sp.cs) (l:=[]) (YD _ _) rfl (by decide) (fun a=>by simp) (fun a=>rfl),trivial⟩
   have cX:(R k).getD k []=[.own (2+k) 0 0]:=by rw[hR];simp[ab,bP]
   have nV:(R k).set k [.v (.slice none 0 0)]=R (k+1):=by
    refine dv fun i=>?_
    rw[bX,hR,hR]
    by_cases e2:k=i
    ·subst e2;simp[bP]
    ·rw[if_neg e2]
     simp only[aV]
     by_cases hi:i<N
     ·rw[cH hi]
      simp only[aY]
      by_cases e3:i<k
      ·rw[if_pos e3,if_pos (by omega)]
      ·rw[if_neg e3,if_neg (by omega)]
     ·simp[hi]
   have xM:=Qc k
   have hl2:=Qc (k+1)
   generalize hR1:R (k+1)=R1 at*
   generalize hR2:R k=R2 at*
   (repeat' ((first|refine vn rfl ?_|simp(disch:=omega) only[cB,aj]|refine bo (fun _=>?_) fun _=>?_|refine im fun _=>?_|((repeat refine si ?_);((first|refine .inl ⟨_,_,_,_,rfl,fun _=>(by first|exact hT2),?_⟩|refine⟨_,_,_,_,rfl,fun _=>(by first|exact hT2),?_⟩);(first|refine o1 ?_|refine o4 ?_)))|refine cF ?_|refine om ?_|refine an ?_|fail)<;>try simp only[zN,zT,zV,zS,zU,dC,ex,bu,bN,elems,cells,scalar,dH,bL,aX,aU,bJ,bI,Nat.reduceBEq,reduceAdd,reduceSub,reduceLT,reduceLeDiff,reduceMul,reduceEqDiff,reduceIte,f0,f1,u0,cX,nV,xM]))
   all_goals try(exfalso;omega)
   exact⟨⟨k+1,bP⟩,by simp,by simp only[hR1],by simp only;omega⟩
  ·obtain rfl:k=N:=by omega
   have hRN:R k=List.replicate k [.v (.slice none 0 0)]:=by
    refine List.eq_replicate_iff.2 ⟨Qc k,fun b hb=>?_⟩
    rw[hR]at hb
    obtain⟨t,ht,rfl⟩:=aO.1 hb
    rw[if_pos (bc.1 ht)]
   ((refine Ax (aa @f0 (aa @f1 @Qc)) ?_;repeat' constructor)<;>intros<;>refine aP ?_)
   rw[show List.replicate k [AV.v (.slice none 0 0)]=(List.replicate k ()).map (fun _=>[.v (.slice none 0 0)]) by simp]
   exact bO.gZ (T:=56) (cs:=fun _:Unit=>[.v (.slice none 0 0)]) (by rw[f0,hRN];simp) (by simp) (by decide) (fun a=>by simp) (fun a=>rfl)
theorem Ht(c:Ch)(hc:zu c)(hf:lL c=false):Pure Tryz.prog 34 [.bZ (A7 c) 0] (.iu [.v (.slice none 0 0),n 71]):=by
 refine et 13 (jo [jn 2,jc 3 0] [0] (jo [jm 5 0,jw 6 (.call (.f 35) [(.t 5),(.c (.int .i64 0)),(.c (.slice none 0 0)),(.c (.bool true))]),jm 4 6] [4] (.seq (jo [jm 7 4,jw 8 (.qe 1 (.t 7) (.c (.int .i64 0))),jl 9 8,je 10 9,ju .eql 11 10 0] [4,11] (.cond (.t 11) (jo [jn 2,jc 3 71] [2,3] .ret) .skip)) (jo [jm 12 4,jm 2 12,jc 3 0] [2,3] .ret)))) [.t 2,.t 3] Tryz.call34 Tryz.func34 ?_
 have Dn:=kf c 0
 have hE:=Nx c hc hf
 have ht:=hc.ok.t1
 have cX:(List.replicate (c.bD+1).toNat [AV.v (.slice none 0 0)]).getD 0 []=[.v (.slice none 0 0)]:=by
  rw[ab,fl,if_pos (by omega)];rfl
 have hl:(List.replicate (c.bD+1).toNat [AV.v (.slice none 0 0)]).length=(c.bD+1).toNat:=by simp
 have hp:bC (.sl 1 (List.replicate (c.bD+1).toNat [AV.v (.slice none 0 0)])):=.sl fun e he x hx=>by
  rw[(gD.1 he).2]at hx
  rw[bp.1 hx];exact bC.v _
 generalize List.replicate (c.bD+1).toNat [AV.v (.slice none 0 0)]=R at*
 generalize A7 c=X at*
 ((refine Az (aa @cX @hl) @hE ?_;repeat' constructor)<;>intros<;>refine aP ?_)
 exact Fq
theorem Fm(w:Wk)(hw:zG w)(mw:Pure Tryz.prog 26 [.agg w.cs] (n 0))(i:Nat)(f:dm)(hf:w.aS[i]?=some f)(g:Nat)(hn:p' w f<=4000)(hg:Pure Tryz.prog g [.bZ (A7 (tW w f f.fB)) 0] (.iu [.v (.slice none 0 0),n 71])):Pure Tryz.prog 33 [.agg w.cs,n i,.fn (.func 28) [] [],.fn (.func g) [] []] (.iu [.v (.slice none 0 0),n 71]):=by
 refine et 43 (jo [jx 4 38 9 0,jn 8,jc 9 0] [1,2,3,4,8] (.seq (jo [jk 12 9 4,jy 13 26 [12],jm 10 13] [1,2,3,4,8,10] (jo [jm 14 10,ju .neq 15 14 0] [1,2,3,4,8,10,15] (.cond (.t 15) (jo [jm 16 8,jm 17 10,jm 8 16,jm 9 17] [8,9] .ret) .skip))) (.seq (jo [jk 18 9 4,jm 19 1,jy 20 46 [18,19],jv 21 20,jm 22 21,jd 22 (jm 23 2),⟨some 24,.call (.t 23) [],some (22,false)⟩,jd 22 (jv 25 24),jq 26 22 25] [1,3,4,8,26] (.cond (.t 26) (jo [jm 27 8,jm 8 27,jc 9 1] [8,9] .ret) .skip)) (jo [jk 29 9 4,jm 30 1,jy 31 31 [29,30],jm 28 31,jz 32 0 28,jz 33 1 28,jm 11 32,jm 9 33] [3,8,9,11] (.seq (jo [jm 34 9,ju .neq 35 34 0] [3,8,9,11,35] (.cond (.t 35) (jo [jm 36 8,jm 37 9,jm 8 36,jm 9 37] [8,9] .ret) .skip)) (jo [jm 38 3,jm 39 11,jw 40 (.call (.t 38) [(.t 39)]),jz 41 0 40,jz 42 1 40,jm 8 41,jm 9 42] [8,9] .ret)))))) [.t 8,.t 9] Tryz.call33 Tryz.func33 ?_
 have hC:=qd w hw i f hf
 have bP:i<w.aS.length:=by
  rcases cm i w.aS.length with h|h
  ·exact h
  ·rw[b_ h]at hf;cases hf
 have hI:=rG w i hw.sn
 rw[decide_eq_true (show(0:Int)<=(i:Int)/\(i:Int)<(w.aS.length:Int) by omega)]at hI
 have hA:=xe
 rw[if_neg (by omega)]at hC
 have Dn:=kf (tW w f f.fB) 0
 generalize A7 (tW w f f.fB)=X at*
 ((refine Ay (aa @mw (aa @hI (aa @hA (aa @hC @hg)))) ?_;repeat' constructor)<;>intros<;>refine aP ?_)
 exact Fq
theorem Ki(w:Wk)(hw:zG w)(mw:Pure Tryz.prog 26 [.agg w.cs] (n 0))(i:Nat)(f:dm)(hf:w.aS[i]?=some f)(hn:p' w f<=4000)(hx:lL (tW w f f.fB)=false):Pure Tryz.prog 9 [.agg w.cs,n i] (.iu [.v (.slice none 0 0),n 71]):=by
 refine et 11 (jo [jx 2 38 9 0,jn 4,jc 5 0] [1,2] (jo [jk 6 9 2,jm 7 1,jw 8 (.call (.f 33) [(.t 6),(.t 7),(.f 28),(.f 34)]),jz 9 0 8,jz 10 1 8,jm 4 9,jm 5 10] [4,5] .ret)) [.t 4,.t 5] Tryz.call9 Tryz.func9 ?_
 have hA:=Fm w hw mw i f hf 34 hn (Ht _ (Nv hw (ao hf) hn _) hx)
 ((refine Az @zN @hA ?_;repeat' constructor)<;>intros<;>refine aP ?_)
 exact Fq
def c76:CF:=⟨54,(jo [jx 2 38 9 0,jx 3 71 5 1,jb 4 false] [2,3] (jo [jf 9 0 2,jf 10 0 9,jl 11 10,jf 12 0 3,jl 13 12,jy 14 12 [11,13],jm 8 14,jz 15 0 8,jz 16 1 8,jm 5 15,jm 6 16] [2,3,6] (jo [jf 17 3 3,jk 18 2 17,jw 7 (.alloc 52 2 [.int .i64 0,.int .i64 0]),js 2 7 18] [2,3,6,7] (jo [jm 19 6,ju .eql 20 19 0,jm 21 20,ja 21 (jf 22 1 3),ja 21 (jl 23 22),ja 21 (jf 24 6 2),ja 21 (jl 25 24),ja 21 (jt .eql 26 23 25),jp 27 21 26,jm 28 27,ja 28 (jf 29 0 2),ja 28 (jf 30 4 29),ja 28 (jl 31 30),⟨some 32,.build [.int .i64 0,.int .i64 0] [(1,1,(.t 31))],some (28,true)⟩,ja 28 (jf 33 2 3),ja 28 (jl 34 33),ja 28 (jy 35 72 [32,34]),jp 36 28 35,jm 37 36,ja 37 (jf 38 0 7),ja 37 (jl 39 38),⟨some 40,.bin .leq (.c (.int .i64 0)) (.t 39),some (37,true)⟩,jp 41 37 40,jm 42 41,ja 42 (jf 43 0 7),ja 42 (jl 44 43),ja 42 (jf 45 1 7),ja 42 (jl 46 45),ja 42 (jt .leq 47 44 46),jp 48 42 47,jm 49 48,ja 49 (jf 50 1 7),ja 49 (jl 51 50),ja 49 (ju .leq 52 51 12000),jp 53 49 52,jm 4 53] [4] .ret)))),[.t 4]⟩
theorem k76:jP Tryz.prog Tryz.f76 c76=true:=by kernel_rfl
def rH(d:List Sp×List Mk)(m:Mk):Prop:=inr m.en 0 d.1.length/\ke m.bD 0 400
instance (d:List Sp×List Mk)(m:Mk):Decidable (rH d m):=by unfold rH;infer_instance
theorem Hu(d:List Sp×List Mk)(l:List Mk)(hd:d.1.length<9223372036854775808/\d.2.length<9223372036854775808)(hl:l.length<9223372036854775808):∃e i:Int,Pure Tryz.prog 148 [.agg [ec d.1,mb d.2],mb l] (.iu [n e,n i])/\(e=0->gV d.1 d.2/\l.length<=64/\∀m∈l,rH d m):=by
 have h1:=kM d.1 d.2 hd.1 hd.2
 have h2:=wc 213 [.bZ [ec d.1,mb d.2] 0] (fun c hc=>by
  simp only[bp]at hc
  subst hc
  exact bC.bZ (fun c hc=>by simp at hc;rcases hc with rfl|rfl<;>simp)) (fun m=>!decide (inr m.en 0 d.1.length/\ke m.bD 0 400)) l hl (fun m _=>uS d m hd.1)
 have h4:∀{z:Int},fj (fun m=>!decide (inr m.en 0 d.1.length/\ke m.bD 0 400)) 0 l=z->z<0->∀m∈l,rH d m:=fun e hz m hm=>by
  rw[<-e,vV,List.findIdx?_eq_none_iff]at hz
  have:=hz m hm
  simpa[rH]using this
 have h5:=h4 rfl
 clear h4
 generalize fj (fun m=>!decide (inr m.en 0 d.1.length/\ke m.bD 0 400)) 0 l=z at h2 h5
 refine⟨if¬gV d.1 d.2 then 20 else if 64<l.length then 2 else if z<0 then 0 else 21,if¬gV d.1 d.2 then 0 else if 64<l.length then 0 else if z<0 then 0 else z,?_,?_⟩
 ·refine mu Tryz.call148 Tryz.func148 WE ?_
  unfold TJ
  by_cases ok:gV d.1 d.2
  ·rw[if_pos ok]at h1
   rw[if_neg (not_not_intro ok),if_neg (not_not_intro ok)]
   by_cases K_:64<l.length
   ·rw[if_pos K_,if_pos K_]
    ((refine Ay @h1 ?_;repeat' constructor)<;>intros<;>refine aP ?_)
    exact Fq
   ·rw[if_neg K_,if_neg K_]
    ((refine Ay @h1 ?_;repeat' constructor)<;>intros<;>refine aP ?_)
    refine .inl ⟨_,_,_,_,rfl,fun _=>.of ?_ h2,?_⟩
    ·intro a ha
     simp only[aK,aD,aC,bb,au,or_false]at ha
     rcases ha with rfl|rfl
     ·simp
     ·exact bC.fn (fun _ h=>absurd h (au)) (fun c hc=>by
       simp only[bp]at hc
       subst hc
       exact bC.bZ (fun c hc=>by simp at hc;rcases hc with rfl|rfl<;>simp))
    refine aH ?_
    simp only[zN,zT,zV,zS,zU,dC,ex,bu,bN,elems,cells,scalar,dH,bL,aX,aU,bJ,bI,Nat.reduceBEq,reduceAdd,reduceSub,reduceLT,reduceLeDiff,reduceMul,reduceEqDiff,reduceIte]
    by_cases hz:z<0
    ·rw[if_pos hz,if_pos hz]
     ((refine Au ?_;repeat' constructor)<;>intros<;>refine aP ?_)
     exact Fq
    ·rw[if_neg hz,if_neg hz]
     ((refine Au ?_;repeat' constructor)<;>intros<;>refine aP ?_)
     exact Fq
  ·rw[if_neg ok]at h1
   rw[if_pos ok,if_pos ok]
   ((refine Ay @h1 ?_;repeat' constructor)<;>intros<;>refine aP ?_)
   exact Fq
 ·intro e
  split at e
  ·cases e
  ·rename_i ok
   split at e
   ·cases e
   ·split at e
    ·rename_i K_ hz
     exact⟨fY.1 ok,by omega,h5 hz⟩
    ·cases e
theorem Qd(f:Nat)(dZ:List AV)(ep:∀c∈dZ,bC c)(q:Rd->Bool)(l:List Rd)(hl:l.length<9223372036854775808)(hq:∀x∈l,Pure Tryz.prog f ([.agg (Rd.cs x)]++dZ) (bl (q x))):Pure Tryz.prog 149 [Jw l,.fn (.func f) [] dZ] (n (fj q 0 l)):=by
 refine et 19 (jo [jc 4 0] [0,1] (.seq (jo [jm 6 0,je 7 6,jc 8 0] [0,1,7,8] (.block 0 (.loop (jo [jt .lss 9 8 7] [0,1,7,8,9] (.seq (.cond (.t 9) .skip (.exit 0)) (.seq (.block 1 (jo [jm 10 8,jm 5 10] [0,1,5,7,8] (jo [jm 11 1,jm 12 0,jm 13 5,ji 14 5 12 13,jk 15 5 14,jw 16 (.call (.t 11) [(.t 15)])] [0,1,5,7,8,16] (.cond (.t 16) (jo [jm 17 5,jm 4 17] [4] .ret) .skip)))) (.ops [ju .add 18 8 1,jm 8 18] [0,1,7,8]))))))) (jo [jc 4 (-1)] [4] .ret))) [.t 4] Tryz.call149 Tryz.func149 ?_
 ((refine Au ?_;repeat' constructor)<;>intros<;>refine aP ?_)
 refine aR.li 8 l.length (fun i=>fj q i (l.drop i)=fj q 0 l) (by simp) ?_
 ·intro i hi hI
  by_cases bP:i<l.length
  ·obtain⟨x,hx⟩:∃x,l[i]?=some x:=⟨_,ae bP⟩
   have hc:=hq x (ao hx)
   rw[drop_cons hx,fj]at hI
   (repeat' ((first|refine vn rfl ?_|simp(disch:=omega) only[cB,aj]|refine bo (fun _=>?_) fun _=>?_|refine im fun _=>?_|refine cF ?_|refine om ?_|refine an ?_|fail)<;>try simp only[zN,zT,zV,zS,zU,dC,ex,bu,bN,elems,cells,scalar,dH,bL,aX,aU,bJ,bI,Nat.reduceBEq,reduceAdd,reduceSub,reduceLT,reduceLeDiff,reduceMul,reduceEqDiff,reduceIte,getD_map hx]))
   all_goals try(exfalso;omega)
   refine .inl ⟨_,_,_,_,rfl,fun _=>.of ?_ (hc),?_⟩
   ·intro a ha
    simp only[aK,aD,aC]at ha
    rcases ha with rfl|ha
    ·simp
    ·exact ep a ha
   refine aH ?_
   ((refine Au ?_;repeat' constructor)<;>intros<;>refine aP ?_)
   ·rename_i h
    rw[h]at hI
    simp only[if_true]at hI
    rw[<-hI]
    exact Fq
   ·rename_i h
    rw[h]at hI
    exact⟨⟨i+1,bP,by simpa using hI⟩,by simp,by simp only;omega⟩
  ·obtain rfl:i=l.length:=by omega
   rw[c_,fj]at hI
   ((refine Au ?_;repeat' constructor)<;>intros<;>refine aP ?_)
   rw[<-hI]
   exact Fq
theorem Hv(f:Nat)(dZ:List AV)(ep:∀c∈dZ,bC c)(q:Rd->Bool)(l:List Rd)(hl:l.length<9223372036854775808)(hq:∀x∈l,Pure Tryz.prog f ([.agg (Rd.cs x)]++dZ) (bl (q x))):Pure Tryz.prog 74 [Jw l,.fn (.func f) [] dZ] (bl (l.any q)):=by
 refine et 9 (jo [jb 4 false] [0,1] (jo [jm 5 0,jm 6 1,jy 7 149 [5,6],ju .geq 8 7 0,jm 4 8] [4] .ret)) [.t 4] Tryz.call74 Tryz.func74 ?_
 have h:=lK q l 0
 ((refine Au ?_;repeat' constructor)<;>intros<;>refine aP ?_)
 refine .inl ⟨_,_,_,_,rfl,fun _=>.of ?_ (Qd f dZ ep q l hl hq),?_⟩
 ·intro a ha
  simp only[aK,aD,aC,bb,au,or_false]at ha
  rcases ha with rfl|rfl
  ·simp
  ·exact bC.fn (fun _ h=>absurd h (au)) ep
 refine aH ?_
 ((refine Au ?_;repeat' constructor)<;>intros<;>refine aP ?_)
 rw[<-h]
 exact Fq
def DC(w:Wk)(r:Rd):Bool:=decide ((gI w.base.dh r.fB).2=0/\r.week=w.week/\(0<=r.tick/\r.tick<=w.base.bD)/\0<=r.levels.lo/\r.levels.lo<=r.levels.hi/\r.levels.hi<=12000)
theorem Fo(w:Wk)(hs:ql w.base.dh)(r:Rd):Pure Tryz.prog 76 [.agg w.cs,.agg r.cs] (bl (DC w r)):=by
 refine mu Tryz.call76 Tryz.func76 k76 ?_
 unfold c76 DC
 have h1:=kO w.base.dh hs r.fB
 have h2:=sq ⟨0,w.base.bD⟩ r.tick
 generalize(gI w.base.dh r.fB).1=i at*
 generalize(gI w.base.dh r.fB).2=e at*
 simp only at h2
 generalize hb:decide (0<=r.tick/\r.tick<=w.base.bD)=b at*
 ((refine Az @zN (aa @h1 @h2) ?_;repeat' constructor)<;>intros<;>refine aP ?_)
 refine bO.eq (congrArg bl ?_) (by simp)
 rw[<-hb,cV]
 simp only[ak,decide_eq_true_eq]
 omega
theorem Hw(w:Wk)(j:Nat):bC (.bZ w.cs j):=.bZ (IG w)
theorem Fp(w:Wk)(hs:ql w.base.dh)(r:Rd):Pure Tryz.prog 75 ([.agg r.cs]++[.bZ w.cs 0]) (bl (!DC w r)):=by
 refine et 8 (jo [jx 2 71 5 0,jb 3 false] [1,2] (jo [jk 4 9 1,jk 5 5 2,jy 6 76 [4,5],jv 7 6,jm 3 7] [3] .ret)) [.t 3] Tryz.call75 Tryz.func75 ?_
 have h1:=Fo w hs r
 generalize DC w r=b at*
 ((refine Az @zN @h1 ?_;repeat' constructor)<;>intros<;>refine aP ?_)
 exact Fq
structure YE(w:Wk)(f:dm):Prop where
 st:(gI w.base.dh f.fB).2=0
 wk:f.week=w.week
 pp:f.sheet.bz.ok
 ie:(tK f.sheet).2=0
 dr:gV f.sheet.rates f.sheet.stops
 ml:f.marks.length<=64
 ms:∀m∈f.marks,rH (f.sheet.rates,f.sheet.stops) m
 ln:(f.sheet.rates.length:Int)+1=f.sheet.bz.jY
 pn:f.sheet.eC.ok
theorem DE(w:Wk)(hs:ql w.base.dh)(f:dm)(h1:f.sheet.trace.length<1000000000)(h2:f.sheet.eu.length<9223372036854775808)(h3:f.sheet.rates.length<1000000000)(h4:f.sheet.stops.length<9223372036854775808)(h5:f.marks.length<9223372036854775808):∃b:Bool,Pure Tryz.prog 73 [.agg w.cs,.agg f.cs] (bl b)/\(b=true->YE w f):=by
 have q1:=kO w.base.dh hs f.fB
 have q2:=lP f.sheet.bz
 have q3:=zB (rE f.sheet.bz) f.sheet.trace f.sheet.eu h1 h2
 have q4:=kM f.sheet.rates f.sheet.stops (by omega) h4
 obtain⟨e5,i5,q5,q5'⟩:=Hu (f.sheet.rates,f.sheet.stops) f.marks ⟨by simp only;omega,h4⟩ h5
 have q6:=mL f.sheet.eC
 rw[show(rE f.sheet.bz).cs=AN.cs f.sheet.bz from rfl]at q3
 have r3:tK f.sheet=wq (rE f.sheet.bz) f.sheet.trace f.sheet.eu:=rfl
 rw[<-r3]at q3
 obtain⟨e1,r1⟩:∃e,e=(gI w.base.dh f.fB).2:=⟨_,rfl⟩
 rw[<-r1]at q1
 obtain⟨e2,r2⟩:∃e:Int,e=if f.sheet.bz.ok then 0 else 10:=⟨_,rfl⟩
 rw[<-r2]at q2
 obtain⟨e3,Oj⟩:∃e,e=(tK f.sheet).2:=⟨_,rfl⟩
 rw[<-Oj]at q3
 obtain⟨e4,r4⟩:∃e:Int,e=if gV f.sheet.rates f.sheet.stops then 0 else 20:=⟨_,rfl⟩
 rw[<-r4]at q4
 obtain⟨e6,r6⟩:∃e:Int,e=if f.sheet.eC.ok then 0 else 30:=⟨_,rfl⟩
 rw[<-r6]at q6
 refine⟨decide (e1=0/\f.week=w.week/\e2=0/\e3=0/\e4=0/\e5=0/\(f.sheet.rates.length:Int)+1=f.sheet.bz.jY/\e6=0),?_,fun h=>?_⟩
 ·clear r1 r2 r3 Oj r4 r6 q5'
  generalize(gI w.base.dh f.fB).1=i1 at*
  generalize(tK f.sheet).1=I at*
  refine et 83 (jo [jx 2 38 9 0,jx 3 66 24 1,jb 4 false] [2,3] (jo [jf 13 0 2,jf 14 0 13,jl 15 14,jf 16 2 3,jl 17 16,jy 18 12 [15,17],jm 12 18,jz 19 0 12,jz 20 1 12,jm 5 19,jm 6 20] [2,3,6] (jo [jf 21 4 3,jk 22 18 21,jw 7 (.alloc 63 18 Tb),js 18 7 22] [2,3,6,7] (.seq (jo [jm 23 6,ju .neq 24 23 0,jm 25 24,jd 25 (jf 26 3 3),jd 25 (jl 27 26),jd 25 (jf 28 6 2),jd 25 (jl 29 28),jd 25 (jt .neq 30 27 29),jq 31 25 30,jm 32 31,jd 32 (jf 33 0 7),jd 32 (jk 34 10 33),jd 32 (jy 35 146 [34]),jd 32 (ju .neq 36 35 0),jq 37 32 36] [3,7,37] (.cond (.t 37) (jo [jb 4 false] [4] .ret) .skip)) (.seq (jo [jf 39 0 7,jk 40 10 39,jf 41 10 7,jl 42 41,jf 43 11 7,jl 44 43,jy 45 36 [40,42,44],jm 38 45,jz 46 0 38,jz 47 1 38,jw 8 (.alloc 108 1 [.slice none 0 0]),js 1 8 46,jm 9 47] [3,7,9] (jo [jm 48 9,ju .neq 49 48 0,jm 50 49,jd 50 (jf 51 12 7),jd 50 (jk 52 2 51),jd 50 (jy 53 147 [52]),jd 50 (ju .neq 54 53 0),jq 55 50 54] [3,7,55] (.cond (.t 55) (jo [jb 4 false] [4] .ret) .skip))) (jo [jf 57 12 7,jk 58 2 57,jf 59 22 3,jl 60 59,jy 61 148 [58,60],jm 56 61,jz 62 0 56,jz 63 1 56,jm 10 62,jm 11 63] [7,10] (jo [jf 64 12 7,jf 65 0 64,jl 66 65,je 67 66,ju .add 68 67 1,jf 69 0 7,jf 70 5 69,jl 71 70,jt .eql 72 68 71,jm 73 72,ja 73 (jf 74 14 7),ja 73 (jk 75 4 74),ja 73 (jy 76 113 [75]),ja 73 (ju .eql 77 76 0),jp 78 73 77,jm 79 78,ja 79 (jm 80 10),ja 79 (ju .eql 81 80 0),jp 82 79 81,jm 4 82] [4] .ret))))))) [.t 4] Tryz.call73 Tryz.func73 ?_
  simp only at q5
  ((refine Az @zN (aa @q1 (aa @q2 (aa @q3 (aa @q4 (aa @q5 @q6))))) ?_;repeat' constructor)<;>intros<;>refine aP ?_)
  all_goals(refine bO.eq (congrArg bl ?_) (by simp);rw[cV];simp only[decide_eq_true_eq,bw,false_iff];omega)
 ·rw[decide_eq_true_eq]at h
  obtain⟨a1,a2,a3,a4,a5,a6,a7,a8⟩:=h
  have m:=q5' a6
  refine⟨r1▸a1,a2,?_,Oj▸a4,m.1,m.2.1,m.2.2,a7,?_⟩
  ·by_cases e:f.sheet.bz.ok
   ·exact e
   ·rw[if_neg e]at r2;omega
  ·by_cases e:f.sheet.eC.ok
   ·exact e
   ·rw[if_neg e]at r6;omega
def YF:CF:=⟨90,(jo [jx 1 38 9 0,jc 2 0] [1] (.seq (jo [jf 9 0 1,jf 10 0 9,jl 11 10,jy 12 38 [11],jm 8 12,jz 13 0 8,jz 14 1 8,jm 3 13,jm 4 14] [1,3] (jo [jm 15 3,ju .neq 16 15 0] [1,3,16] (.cond (.t 16) (jo [jm 17 3,jm 2 17] [2] .ret) .skip))) (jo [jf 18 0 1,jk 19 6 18,jw 5 (.alloc 26 6 [.slice none 0 0,.int .i64 0,.int .i64 0,.int .i64 0,.int .i64 0,.int .i64 0]),js 6 5 19] [1,5] (.seq (jo [jf 20 1 5,jk 21 2 20,jy 22 71 [21],ju .neq 23 22 0,jm 24 23,⟨some 25,.build [.int .i64 0,.int .i64 0] [(0,1,(.c (.int .i64 1))),(1,1,(.c (.int .i64 400)))],some (24,false)⟩,jd 24 (jf 26 4 5),jd 24 (jl 27 26),jd 24 (jy 28 72 [25,27]),jd 24 (jv 29 28),jq 30 24 29,jm 31 30,jd 31 (jf 32 4 5),jd 31 (jl 33 32),⟨some 34,.build [.int .i64 0,.int .i64 0] [(1,1,(.t 33))],some (31,false)⟩,jd 31 (jf 35 3 5),jd 31 (jl 36 35),jd 31 (jy 37 72 [34,36]),jd 31 (jv 38 37),jq 39 31 38,jm 40 39,⟨some 41,.build [.int .i64 0,.int .i64 0] [(1,1,(.c (.int .i64 10000)))],some (40,false)⟩,jd 40 (jf 42 6 1),jd 40 (jl 43 42),jd 40 (jy 44 72 [41,43]),jd 40 (jv 45 44),jq 46 40 45] [1,46] (.cond (.t 46) (jo [jc 2 70] [2] .ret) .skip)) (.seq (jo [jf 47 7 1,jl 48 47,je 49 48,ju .gtr 50 49 64,jm 51 50,jd 51 (jf 52 8 1),jd 51 (jl 53 52),jd 51 (je 54 53),jd 51 (ju .gtr 55 54 64),jq 56 51 55] [1,56] (.cond (.t 56) (jo [jc 2 70] [2] .ret) .skip)) (.seq (jo [jf 57 7 1,jl 58 57,je 59 58,jc 60 0] [1,58,59,60] (.block 0 (.loop (jo [jt .lss 61 60 59] [1,58,59,60,61] (.seq (.cond (.t 61) .skip (.exit 0)) (.seq (.block 1 (jo [jm 62 60,ji 63 24 58 60,jk 64 24 63,jw 7 (.alloc 66 24 z24),jm 6 62,js 24 7 64] [1,6,7,58,59,60] (.seq (.draw [jm 65 6,ju .gtr 66 65 0,jm 67 66,ja 67 (jf 68 2 7),ja 67 (jl 69 68),ja 67 (jf 70 7 1),ja 67 (jl 71 70),ja 67 (jm 72 6),ja 67 (ju .sub 73 72 1),ja 67 (ji 74 24 71 73),ja 67 (jf 75 2 74),ja 67 (jl 76 75),ja 67 (jt .leq 77 69 76),jp 78 67 77,jm 79 78,jd 79 (jk 80 9 1),jd 79 (jk 81 24 7),jd 79 (jy 82 73 [80,81]),jd 79 (jv 83 82),jq 84 79 83] [] [1,58,59,60,84]) (.cond (.t 84) (jo [jc 2 70] [2] .ret) .skip)))) (.ops [ju .add 85 60 1,jm 60 85] [1,58,59,60]))))))) (.seq (jo [jf 86 8 1,jl 87 86,jw 88 (.j5 (.func 75) [] [(.t 1)]),jy 89 74 [87,88]] [89] (.cond (.t 89) (jo [jc 2 70] [2] .ret) .skip)) (jo [jc 2 0] [2] .ret)))))))),[.t 2]⟩
theorem Ok:jP Tryz.prog Tryz.f26 YF=true:=by kernel_rfl
structure Ny(w:Wk):Prop where
 st:ql w.base.dh
 sl:w.base.dh.length<=1000000
 sn:w.aS.length<9223372036854775808
 rn:w.reads.length<9223372036854775808
 sh:∀f∈w.aS,f.sheet.trace.length<1000000000/\f.sheet.eu.length<9223372036854775808/\f.sheet.rates.length<1000000000/\f.sheet.stops.length<9223372036854775808/\f.marks.length<9223372036854775808
structure UN(w:Wk):Prop where
 s1:(gW w.base.dh).1=0
 t1:1<=w.base.bD
 t2:w.base.bD<=400
 sn:w.aS.length<=64
 rn:w.reads.length<=64
 sh:∀f∈w.aS,YE w f
 rd:∀r∈w.reads,DC w r=true
theorem DF(w:Wk)(hw:Ny w):∃e:Int,Pure Tryz.prog 26 [.agg w.cs] (n e)/\(e=0->UN w):=by
 have hs:=hw.st
 have T2:∀f∈w.aS,∃b:Bool,Pure Tryz.prog 73 [.agg w.cs,.agg f.cs] (bl b)/\(b=true->YE w f):=fun f hf=>by
  obtain⟨a1,a2,a3,a4,a5⟩:=hw.sh f hf
  exact DE w hs f a1 a2 a3 a4 a5
 obtain⟨S,hS⟩:∃S:Nat->Bool,∀k f,w.aS[k]?=some f->Pure Tryz.prog 73 [.agg w.cs,.agg f.cs] (bl (S k))/\(S k=true->YE w f):=by
  refine⟨fun k=>if h:k<w.aS.length then Classical.choose (T2 _ (cv h))else false,fun k f hk=>?_⟩
  obtain⟨h,rfl⟩:=ai.1 hk
  simp only[h,dif_pos]
  exact Classical.choose_spec (T2 _ (cv h))
 have q1:=mM w.base.dh hs
 have q2:=rp w.base.fixed w.base.each
 have q3:=sq ⟨1,400⟩ w.base.bD
 have q4:=sq ⟨0,w.base.bD⟩ w.base.term
 have q5:=sq ⟨0,10000⟩ w.week
 have q6:=Hv 75 [.bZ w.cs 0] (fun c hc=>by rw[bp.1 hc];exact Hw w 0) (fun r=>!DC w r) w.reads hw.rn (fun r _=>Fp w hs r)
 obtain⟨R,hR⟩:∃R,R=w.reads.any fun r=>!DC w r:=⟨_,rfl⟩
 rw[<-hR]at q6
 simp only at q3 q4 q5
 obtain⟨e1,r1⟩:∃e,e=(gW w.base.dh).1:=⟨_,rfl⟩
 rw[<-r1]at q1
 obtain⟨e2,r2⟩:∃e:Int,e=if inr w.base.fixed 0 12000/\inr w.base.each 0 10000 then 0 else 1:=⟨_,rfl⟩
 rw[<-r2]at q2
 obtain⟨b3,r3⟩:∃b,b=decide (1<=w.base.bD/\w.base.bD<=400):=⟨_,rfl⟩
 rw[<-r3]at q3
 generalize decide (0<=w.base.term/\w.base.term<=w.base.bD)=b4 at*
 generalize decide (0<=w.week/\w.week<=10000)=b5 at*
 generalize(gW w.base.dh).2=i1 at*
 by_cases g1:e1=0
 ·rw[g1]at q1 r1
  by_cases g2:e2=0/\b3=true/\b4=true/\b5=true/\w.aS.length<=64/\w.reads.length<=64
  ·obtain⟨rfl,rfl,rfl,rfl,Uv,vv⟩:=g2
   have hT:=of_decide_eq_true r3.symm
   have iV:∃iV:Nat->Prop,∀k,iV k↔((0<k->∀f g,w.aS[k]?=some f->w.aS[k-1]?=some g->g.fB<f.fB)/\S k=true):=⟨_,fun _=>Iff.rfl⟩
   obtain⟨iV,zL⟩:=iV
   have key:∀e:Int,((∀k,k<w.aS.length->iV k)->R=false->e=0)->(¬((∀k,k<w.aS.length->iV k)/\R=false)->e=70)->Pure Tryz.prog 26 [.agg w.cs] (n e):=by
    intro e H4 qU
    clear T2 r2 r3 hR g1
    refine mu Tryz.call26 Tryz.func26 Ok ?_
    unfold YF
    ((refine Az @zN (aa @q1 (aa @q2 (aa @q3 (aa @q4 @q5)))) ?_;repeat' constructor)<;>intros<;>refine aP ?_)
    all_goals try contradiction
    all_goals try(exfalso;omega)
    refine aR.lr (α:={x:Nat×aG//x.1<=w.aS.length/\∀j,j<x.1->iV j}) [60] (fun x=>[(60,n x.1.1)]) (fun x=>some [⟨26,6,[l8.cs w.base],none⟩]::x.1.2) (fun x=>w.aS.length-x.1.1) ⟨(0,[]),aQ _,by simp⟩ ?_
    rintro⟨⟨k,ν⟩,hk,hg⟩
    simp only at hk hg
    simp only
    by_cases bP:k<w.aS.length
    ·obtain⟨f,hf⟩:∃f,w.aS[k]?=some f:=⟨_,ae bP⟩
     have cX:(w.aS.map dm.cs).getD k []=dm.cs f:=getD_map hf
     have Om:=(hS k f hf).1
     have KX:=zL k
     generalize S k=b at*
     obtain⟨f',I2⟩:∃f',w.aS[k-1]?=some f':=⟨_,ae (by omega)⟩
     have zJ:(w.aS.map dm.cs).getD ((k:Int)-1).toNat []=dm.cs f':=by
      rw[show((k:Int)-1).toNat=k-1 by omega];exact getD_map I2
     by_cases cn:0<(k:Int)/\f.fB<=f'.fB
     ·have W7:=qU fun h=>by
       have:=(KX.1 (h.1 k bP)).1 (by omega) f f' hf I2
       omega
      clear zL KX H4 qU
      rw[W7]
      ((refine Az (aa @zN (aa @cX @zJ)) @Om ?_;repeat' constructor)<;>intros<;>refine aP ?_)
      exact Fq
      rename_i a
      rw[decide_eq_true cn]at a;cases a
     ·cases b with
      |true=>
       have hgn:∀j,j<k+1->iV j:=fun j hj=>by
        by_cases e:j=k
        ·subst e
         exact KX.2 ⟨fun h0 g g' h1 h2=>by rw[hf]at h1;rw[I2]at h2;cases h1;cases h2;omega,rfl⟩
        ·exact hg j (by omega)
       clear zL KX H4 qU
       ((refine Az (aa @zN (aa @cX @zJ)) @Om ?_;repeat' constructor)<;>intros<;>refine aP ?_)
       exact⟨⟨(k+1,_),bP,hgn⟩,by simp,rfl,by simp only;omega⟩
      |false=>
       have W7:=qU fun h=>Bool.noConfusion (KX.1 (h.1 k bP)).2
       clear zL KX H4 qU
       rw[W7]
       ((refine Az (aa @zN (aa @cX @zJ)) @Om ?_;repeat' constructor)<;>intros<;>refine aP ?_)
       exact Fq
    ·obtain rfl:k=w.aS.length:=by omega
     cases R with
     |true=>
      have W7:=qU fun h=>Bool.noConfusion h.2
      clear zL H4 qU
      rw[W7]
      ((refine Ax @zN ?_;repeat' constructor)<;>intros<;>refine aP ?_)
      refine .inl ⟨_,_,_,_,rfl,fun _=>.of ?_ q6,?_⟩
      ·intro a ha
       simp only[aK,aD,aC,bb,au,or_false]at ha
       rcases ha with rfl|rfl
       ·simp
       ·exact bC.fn (fun _ h=>absurd h (au)) (fun c hc=>by rw[bp.1 hc];exact Hw w 0)
      refine aH ?_
      ((refine Au ?_;repeat' constructor)<;>intros<;>refine aP ?_)
      exact Fq
     |false=>
      have e0:=H4 hg rfl
      clear zL H4 qU
      rw[e0]
      ((refine Ax @zN ?_;repeat' constructor)<;>intros<;>refine aP ?_)
      refine .inl ⟨_,_,_,_,rfl,fun _=>.of ?_ q6,?_⟩
      ·intro a ha
       simp only[aK,aD,aC,bb,au,or_false]at ha
       rcases ha with rfl|rfl
       ·simp
       ·exact bC.fn (fun _ h=>absurd h (au)) (fun c hc=>by rw[bp.1 hc];exact Hw w 0)
      refine aH ?_
      ((refine Au ?_;repeat' constructor)<;>intros<;>refine aP ?_)
      exact Fq
   by_cases ff:(∀k,k<w.aS.length->iV k)/\R=false
   ·refine⟨0,key 0 (fun _ _=>rfl) (fun h=>absurd ff h),fun _=>?_⟩
    refine⟨r1.symm,hT.1,hT.2,Uv,vv,fun f hf=>?_,fun r hr=>?_⟩
    ·obtain⟨k,hk⟩:=fb.1 hf
     exact(hS k f hk).2 ((zL k).1 (ff.1 k (ai.1 hk).1)).2
    ·have:=ff.2
     rw[hR,fo]at this
     simpa using this r hr
   ·exact⟨70,key 70 (fun h1 h2=>absurd ⟨h1,h2⟩ ff) (fun _=>rfl),fun h=>by cases h⟩
  ·refine⟨70,?_,fun h=>by cases h⟩
   refine mu Tryz.call26 Tryz.func26 Ok ?_
   unfold YF
   ((refine Az @zN (aa @q1 (aa @q2 (aa @q3 (aa @q4 @q5)))) ?_;repeat' constructor)<;>intros<;>refine aP ?_)
   all_goals try contradiction
   all_goals try exact Fq
   exfalso
   rename_i a b
   apply g2
   cases b3<;>cases b4<;>cases b5<;>simp at a
   exact⟨a,rfl,rfl,rfl,by omega,by omega⟩
 ·refine⟨e1,?_,fun h=>absurd h g1⟩
  refine mu Tryz.call26 Tryz.func26 Ok ?_
  unfold YF
  ((refine Az @zN @q1 ?_;repeat' constructor)<;>intros<;>refine aP ?_)
  all_goals try contradiction
  all_goals try exact Fq
theorem aan{w:Wk}(hz:Ny w)(h:UN w):zG w:=by
 refine⟨fun f hf=>?_,fun r hr=>?_,h.rn,bT h.sn (by decide),hz.sl⟩
 ·have g:=h.sh f hf
  obtain⟨a1,a2,_⟩:=hz.sh f hf
  have hp:=g.pn
  unfold Pn.ok at hp
  have hN:=g.dr.1
  have hG:=rB g.dr
  have hI:=Dy (p:=rE f.sheet.bz) (l:=f.sheet.trace) (bs:=f.sheet.eu) g.ie
  have hln:=g.ln
  refine⟨fun st=>⟨h.t1,h.t2,?_,?_,hG.2,?_,?_,?_,?_,fun x hx=>?_⟩,g.pn,g.ml,?_,g.dr,a1,a2⟩
  ·show 1<=(i_ f.sheet.rates f.sheet.stops).length
   omega
  ·show(i_ f.sheet.rates f.sheet.stops).length<=199
   omega
  ·show 0<=f.sheet.eC.cS
   omega
  ·show f.sheet.eC.cS<=8
   omega
  ·show 0<=f.sheet.eC.kc
   omega
  ·show f.sheet.eC.kc<=12000
   omega
  ·have:=hI.2 x hx
   exact⟨this.1.1,this.1.2,this.2⟩
  ·have h1:=hI.1
   have:(rE f.sheet.bz).co=f.sheet.bz.jY:=rfl
   show(wq (rE f.sheet.bz) f.sheet.trace f.sheet.eu).1.length=_
   omega
 ·have:=h.rd r hr
  unfold DC at this
  rw[decide_eq_true_eq]at this
  omega
end Go.Proofs.YtgopgjnfhkoomaaGreat
