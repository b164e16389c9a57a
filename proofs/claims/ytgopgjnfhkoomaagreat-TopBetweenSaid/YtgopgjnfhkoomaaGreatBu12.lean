/- Part 12 of the texts: abstract values over the walk; contracts. -/
import Derived.Test.YtgopgjnfhkoomaaGreatBu8
import Derived.Test.YtgopgjnfhkoomaaGreatBu9
import Derived.Test.YtgopgjnfhkoomaaGreatRows
set_option linter.unusedVariables false
set_option linter.unusedSimpArgs false
namespace Go.Proofs.YtgopgjnfhkoomaaGreat
open Go.Abs
open Nat (reduceAdd reduceSub reduceLT reduceLeDiff reduceMul reduceEqDiff)
set_option maxHeartbeats 4000000
set_option maxRecDepth 100000
def WO:CF:=⟨79,(jo [jm 8 0,jw 9 (.dY (.t 8)),jf 10 0 9,jl 11 10,jm 12 1,jw 13 (.jR false 56 1 2 [.slice none 0 0,.slice none 0 0] [(0,1,(.t 11)),(1,1,(.t 12))]),jy 14 112 [13],jm 4 14] [0,4] (jo [jm 15 4,jw 16 (.call (.f 169) [(.t 15),(.f 170)])] [0,4] (jo [jm 17 0,jw 18 (.dY (.t 17)),jf 19 0 18,⟨none,.store 1 (.t 19) (.c (.slice none 0 0)),none⟩] [0,4] (jo [jm 20 4,je 21 20,jc 22 0] [0,20,21,22] (.block 0 (.loop (jo [jt .lss 23 22 21] [0,20,21,22,23] (.seq (.cond (.t 23) .skip (.exit 0)) (.seq (.block 1 (jo [ji 24 2 20 22,jk 25 2 24,jw 6 (.alloc 52 2 [.int .i64 0,.int .i64 0]),js 2 6 25] [0,6,20,21,22] (jo [jm 26 0,jw 27 (.dY (.t 26)),jf 28 0 27,jl 29 28,je 30 29,jm 7 30] [0,6,7,20,21,22] (.seq (.seq (.draw [jm 31 7,ju .gtr 32 31 0,jm 33 32,ja 33 (jf 34 0 6),ja 33 (jl 35 34),ja 33 (jm 36 0),⟨some 37,.dY (.t 36),some (33,true)⟩,ja 33 (jf 38 0 37),ja 33 (jl 39 38),ja 33 (jm 40 7),ja 33 (ju .sub 41 40 1),ja 33 (ji 42 2 39 41),ja 33 (jf 43 1 42),ja 33 (jl 44 43),ja 33 (ju .add 45 44 1),ja 33 (jt .leq 46 35 45),jp 47 33 46] [] [0,6,7,20,21,22,47]) (.cond (.t 47) (.seq (.draw [jm 48 0,jw 49 (.dY (.t 48)),jf 50 0 49,jl 51 50,jm 52 7,ju .sub 53 52 1,jm 54 0,jw 55 (.dY (.t 54)),jf 56 0 55,jl 57 56,jm 58 7,ju .sub 59 58 1,ji 60 2 57 59,jf 61 1 60,jl 62 61,jf 63 1 6,jl 64 63,jw 65 (.tN true (.t 62) (.t 64)),ji 66 2 51 53,jf 67 1 66] [js 1 67 65] [0,20,21,22]) (.exit 1)) .skip)) (.jC (List.range 11) [0] 1 [jm 68 0,jm 69 0,jw 70 (.dY (.t 69)),jf 71 0 70,jl 72 71,jk 73 2 6,jw 74 (.jR false 52 2 1 [.int .i64 0,.int .i64 0] [(0,2,(.t 73))])] [jw 75 (.app 52 2 16 (.t 72) (.t 74)),jw 76 (.dY (.t 68)),jf 77 0 76,js 1 77 75] [0,20,21,22]))))) (.ops [ju .add 78 22 1,jm 22 78] [0,20,21,22])))))))))),[]⟩
theorem k91:jP Tryz.prog Tryz.f91 WO=true:=by kernel_rfl
theorem aaf:GX 170 fun a b=>a.1.lo-b.1.lo:=by
 refine⟨Tryz.call170,fun a b=>?_,fun a b=>by omega⟩
 refine jX Tryz.f170.eq_1 [] [] ?_
 have h1:=a.2;have h2:=b.2
 refine Ax (cB (a.1.lo-b.1.lo) (by omega) (by omega)) ?_;intros
 exact Fq
theorem IA{σ:aG}{f i:Nat}{o o':Ob}:(σ.cZ f i o).cZ f i o'=σ.cZ f i o':=by
 unfold aG.cZ
 cases h:σ[f]? with
 |none=>simp[h]
 |some F=>
  cases F with
  |none=>simp[h]
  |some F=>
   have bP:=(ai.1 h).1
   simp only[cp bP,List.set_set]
theorem iI{σ:aG}{f i:Nat}{o:Ob}:(σ.cZ f i o).length=σ.length:=by
 unfold aG.cZ
 split<;>simp
theorem Nd(l:List Sp)(x:Sp):(push l x).length<=l.length+1:=by
 rcases dp l with rfl|⟨i,s,rfl⟩
 ·simp[mS]
 ·rw[dq,mG];split<;>simp
abbrev kg(o:Ob)(e g m:Nat)(rest:List AV):Ob:={o with es:=o.es.set e (.own g 0 m::rest)}
def oq(σ:aG)(f e:Nat)(o:Ob)(rest:List AV)(l' a:List Sp)(ν:aG):aG:=aG.cZ σ f 0 (kg o e (σ.length+1) a.length rest)++(some [jJ l']::some [jJ a]::ν)
def acc(l:List Sp)(i:Nat):List Sp:=(l.take i).foldl push []
theorem TS{σ:aG}{f N e:Nat}{o:Ob}{rest:List AV}(l' a:List Sp)(ν:aG)(hf:σ.at f 0=some o)(hN:o.es.length=N)(he:e<N):(oq σ f e o rest l' a ν).at f 0=some (kg o e (σ.length+1) a.length rest):=by
 have Dd:=dU hf
 unfold oq
 rw[cI (by rw[iI];exact Dd)];exact cu hf
theorem TU(σ:aG)(f e:Nat)(o:Ob)(rest:List AV)(l' a:List Sp)(ν:aG):(oq σ f e o rest l' a ν).at σ.length 0=some (jJ l'):=by
 unfold oq
 have:=dV (aG.cZ σ f 0 (kg o e (σ.length+1) a.length rest)) (some [jJ l']::some [jJ a]::ν) 0
 rw[iI]at this;rw[this];rfl
theorem TV(σ:aG)(f e:Nat)(o:Ob)(rest:List AV)(l' a:List Sp)(ν:aG):(oq σ f e o rest l' a ν).at (σ.length+1) 0=some (jJ a):=by
 unfold oq
 have:=dR (aG.cZ σ f 0 (kg o e (σ.length+1) a.length rest)) (some [jJ l']::some [jJ a]::ν) 1 0
 rw[iI]at this;rw[this];rfl
theorem Nf(σ:aG)(f e:Nat)(o:Ob)(rest:List AV)(l' a:List Sp)(ν:aG):List.length (oq σ f e o rest l' a ν)=σ.length+2+List.length ν:=by
 unfold oq;simp[iI];omega
theorem uW(σ:aG)(f e:Nat)(o:Ob)(rest:List AV)(l' a:List Sp)(ν L:aG):oq σ f e o rest l' a ν++L=oq σ f e o rest l' a (ν++L):=by
 unfold oq;simp
theorem wh(σ:aG)(f e:Nat)(o:Ob)(rest:List AV)(l' a:List Sp)(ν:aG)(b:List Sp):(oq σ f e o rest l' a ν).cZ (σ.length+1) 0 (jJ b)=aG.cZ σ f 0 (kg o e (σ.length+1) a.length rest)++(some [jJ l']::some [jJ b]::ν):=by
 unfold oq
 have:=fC (aG.cZ σ f 0 (kg o e (σ.length+1) a.length rest)) (some [jJ l']::some [jJ a]::ν) 1 0 (jJ b)
 rw[iI]at this;rw[this];rfl
theorem J9(σ:aG)(f e:Nat)(o:Ob)(rest:List AV)(l' a:List Sp)(ν:aG)(b:List Sp)(h:b.length=a.length):(oq σ f e o rest l' a ν).cZ (σ.length+1) 0 (jJ b)=oq σ f e o rest l' b ν:=by
 rw[wh];unfold oq;rw[h]
theorem J_{σ:aG}{f e:Nat}(o:Ob)(rest:List AV)(l' a:List Sp)(ν:aG)(b:List Sp)(hf:f<σ.length):((oq σ f e o rest l' a ν).cZ (σ.length+1) 0 (jJ b)).cZ f 0 (kg o e (σ.length+1) b.length rest)=oq σ f e o rest l' b ν:=by
 rw[wh,iR (by rw[iI];exact hf),IA];rfl
theorem P3(l:List Sp)(i:Nat):(acc l i).length<=i:=by
 have h:∀(l a:List Sp),(l.foldl push a).length<=a.length+l.length:=by
  intro l
  induction l with
  |nil=>intro a;simp
  |cons x r ih=>intro a;have:=ih (push a x);have:=Nd a x;simp only[cT,bf];omega
 have:=h (l.take i) []
 have:=List.length_take_le i l
 simp only[acc]
 simp only[bM]at*
 omega
theorem TW{l:List Sp}{i:Nat}{A B:Int}(h:∀u∈l,A<=u.lo/\u.hi<=B):∀u∈acc l i,A<=u.lo/\u.hi<=B:=by
 have g:∀(l a:List Sp),(∀u∈l,A<=u.lo/\u.hi<=B)->(∀u∈a,A<=u.lo/\u.hi<=B)->∀u∈l.foldl push a,A<=u.lo/\u.hi<=B:=by
  intro l
  induction l with
  |nil=>intro a _ h;exact h
  |cons x r ih=>intro a h1 h2;exact ih _ (fun u hu=>h1 u (List.mem_cons_of_mem _ hu)) (Io h2 (h1 x (List.mem_cons_self ..)))
 exact g _ _ (fun u hu=>h u (dx hu)) (fun u hu=>by cases hu)
theorem Ng{l:List Sp}{i:Nat}{x:Sp}(h:l[i]?=some x):acc l (i+1)=push (acc l i) x:=by
 have bP:=(ai.1 h).1
 have:l.take (i+1)=l.take i++[x]:=by rw[ba,h];rfl
 simp only[acc,this,eO,cT,List.foldl_nil]
def zw(σ:aG)(f e:Nat)(o:Ob)(rest:List AV)(s r:List Sp)(σ':aG):Prop:=
 ∃l' ν,σ'=aG.cZ σ f 0 (kg o e (σ.length+1) l'.length rest)++(ν:aG)/\σ'.at (σ.length+1) 0=some (jJ l')/\Norm l'/\(∀v,Mem v l'↔Mem v s\/Mem v r)/\l'.length<=s.length+r.length/\
  ∀u∈l',-1000000<=u.lo/\u.hi<=1000000
theorem Fb(σ:aG)(f N e:Nat)(o:Ob)(rest:List AV)(q r:List Sp×Option Nat)(hf:σ.at f 0=some o)(hN:o.es.length=N)(he:e<N)(hk:o.k=rest.length+1)(cX:o.es.getD e []=JR q::rest)(nB:o.lp=none)(hq:MJ σ q)(hr:MJ σ r)(iw:∀u∈q.1++r.1,u.lo<=u.hi/\-1000000<=u.lo/\u.hi<=1000000)(hlen:q.1.length+r.1.length<1000000000):aR Tryz.prog WO.N none WO.c (sw WO.rs fun _ σ'=>zw σ f e o rest q.1 r.1 σ') (tx 0 [.ptr f 0 N e 0,JR r]) σ:=by
 have Dd:=dU hf
 obtain⟨l,h⟩:=r
 obtain⟨s,q⟩:=q
 simp only at iw hlen cX|-
 have TX:=w8 σ [(s,q),(l,h)] (by intro z hz;simp only[aC,au,or_false]at hz;rcases hz with rfl|rfl;exact hq;exact hr) (by simp) (by simp[flat];omega)
 simp only[bq,dL,flat,gP,List.flatMap_nil,bb]at TX
 have Il:=BM aaf (σ++[some [jJ (s++l)]]) σ.length (s++l) (by simp[aG.at]) (by simp;omega) (fun u hu=>by have:=iw u hu;omega)
 rw[aM]at Il
 unfold WO
 cases h<;>cases q
 all_goals
  simp only[JR]at TX cX|-
  refine Ax (aa @hf (aa @cX @hN)) ?_;intros
  refine .inr (.inl ⟨_,_,_,_,rfl,fun _=>⟨TX,?_⟩,fun h=>by cases h⟩)
  rintro res σ' ⟨rfl,rfl⟩
  refine aH ?_
  refine Au ?_;intros
  refine .inr (.inl ⟨_,_,_,_,rfl,fun _=>⟨Il,?_⟩,fun h=>by cases h⟩)
  rintro res σ' ⟨l',w6,IB,rfl⟩
  refine aH ?_
  refine adL ?_
  have Av:l'.length=s.length+l.length:=by rw[w6.length_eq,aM]
  have A0:∀q (L:aG),aG.at (aG.cZ σ f 0 q++L) σ.length 0=aG.at L 0 0:=fun q L=>by
   have:=dV (aG.cZ σ f 0 q) L 0
   rwa[iI]at this
  (repeat' ((first|refine vn rfl ?_|simp(disch:=omega) only[cB,aj]|refine bo (fun _=>?_) fun _=>?_|refine im fun _=>?_|refine cF ?_|refine om ?_|refine an ?_|fail)<;>try simp only[zN,zT,zV,zS,zU,dC,ex,bu,bN,elems,cells,scalar,dH,bL,aX,aU,bJ,bI,Nat.reduceBEq,reduceAdd,reduceSub,reduceLT,reduceLeDiff,reduceMul,reduceEqDiff,reduceIte,cI Dd,iR Dd,hf,hN,cX,A0]))
  rw[<-Av]
  generalize WQ:zw σ f e o rest s l=nC
  refine aR.lH 52 2 (f:=f) (i:=0) (e:=e) (j:=0) (o:={o with es:=o.es.set e (.v (.slice none 0 0)::rest)}) ?_ ?_ ?_ ?_
  ·rw[cI (by rw[iI];exact Dd)];exact cu hf
  ·simp only[cK,hN];exact he
  ·simp only[ab,cp (by rw[hN];exact he:e<o.es.length)];rfl
  refine aR.le (α:={p:Nat×aG//p.1<=l'.length}) [22] (fun p=>[(22,n p.1.1)]) (fun p=>oq σ f e o rest l' (acc l' p.1.1) p.1.2) (fun p=>l'.length-p.1.1) ⟨(0,[]),aQ _⟩ ?_ ?_
  ·simp only[oq,acc,List.take_zero,List.foldl_nil]
   rw[aW,iR (by rw[iI];exact Dd),IA]
   simp[iI,kg,jJ,hN,he,ab,cp (by rw[hN];exact he:e<o.es.length)]
  rintro⟨⟨i,ν⟩,hi⟩
  simp only at hi
  simp only
  have hF:=TS (rest:=rest) l' (acc l' i) ν hf hN he
  have hA:=TU σ f e o rest l' (acc l' i) ν
  have hG:=TV σ f e o rest l' (acc l' i) ν
  have tQ:=Nf σ f e o rest l' (acc l' i) ν
  have hup:=wh σ f e o rest l' (acc l' i) ν
  have hu1:=J9 σ f e o rest l' (acc l' i) ν
  have hu2:=fun b=>J_ o rest l' (acc l' i) ν (f:=f) (e:=e) b Dd
  have aa_:=uW σ f e o rest l' (acc l' i) ν
  have ow:(acc l' i).length<=i:=P3 l' i
  have Dc:=TW (l:=l') (i:=i) (A:=-1000000) (B:=1000000) (fun u hu=>(iw u (w6.mem_iff.1 hu)).2)
  have sI:∀X,(o.es.set e X).getD e []=X:=fun X=>by simp[ab,cp (by rw[hN];exact he:e<o.es.length)]
  have hnn:∀u∈acc l' i,u.lo<=u.hi:=(oS (l'.take i) [] trivial (fun u hu=>(iw u (w6.mem_iff.1 (dx hu))).1) (fun _ h=>by cases h) (IB.sublist (xd ..))).1.ne
  by_cases bP:i<l'.length
  ·obtain⟨x,hx⟩:∃x,l'[i]?=some x:=⟨_,ae bP⟩
   have hxb:=iw x (w6.mem_iff.1 (ao hx))
   have hxg:(l'.map Sp.cs).getD i []=x.cs:=by simp[ab,hx]
   have uU:=Ng hx
   generalize acc l' i=a at*
   generalize hSd:oq σ f e o rest l' a ν=S at*
   have Yx:=dU hF
   have vr:=dU hA
   have Wy:=dU hG
   have hX1:∀q L,(S.cZ (σ.length+1) 0 q++L).at f 0=S.at f 0:=fun q L=>by rw[cI (by rw[iI];exact Yx),cx (.inl (by omega))]
   have RA:∀q L q',(S.cZ (σ.length+1) 0 q++L).cZ f 0 q'=(S.cZ (σ.length+1) 0 q).cZ f 0 q'++L:=fun q L q'=>by rw[iR (by rw[iI];exact Yx)]
   rcases dp a with h0|⟨a0,y,h0⟩
   ·subst h0
    refine Ax (aa @hF (aa @hA (aa @hG (aa @hX1 (aa @RA (aa (ac5 Wy) (aa (atL Yx) (aa (atL vr) (aa (atL Wy) (aa @hN (aa @hk (aa @cK.{0} (aa @sI @hxg))))))))))))) ?_;intros
    refine⟨⟨(i+1,ν++[some [⟨52,2,[x.cs],none⟩]]),bP⟩,rfl,?_,by simp only;omega⟩
    have hq:=hu2 [x]
    simp only
    rw[uU,mS,<-uW,<-hq]
    simp[kg,jJ,List.set_set,hk]
   ·rw[dq]at h0
    subst h0
    have Uw:=Dc y (by simp)
    have hyn:=hnn y (by simp)
    have hlen:(a0++[y]).length=a0.length+1:=by simp
    have zy:(a0++[y]).map Sp.cs=a0.map Sp.cs++[y.cs]:=by simp
    have e1:jJ (a0++[⟨y.lo,max y.hi x.hi⟩])=⟨52,2,a0.map Sp.cs++[[n y.lo,n (max y.hi x.hi)]],none⟩:=by simp[jJ]
    have e2:jJ (a0++[y,x])=⟨52,2,a0.map Sp.cs++[y.cs,x.cs],none⟩:=by simp[jJ]
    rw[hlen]at ow hF
    have hw:IntKind.i64.wrap (((a0.length+1:Nat):Int)-1)=(a0.length:Int):=by rw[cB _ (by omega) (by omega)];omega
    have kF:(a0.map Sp.cs++[y.cs]).getD a0.length []=y.cs:=by simp[ab]
    have nV:∀X:List AV,(a0.map Sp.cs++[y.cs]).set a0.length X=a0.map Sp.cs++[X]:=fun X=>by
     rw[fa _ _ (by simp)];simp
    unfold jJ at hG
    rw[zy]at hG
    (refine Ax (aa @hF (aa @hA (aa @hG (aa @hX1 (aa @RA (aa @hlen (aa @zy (aa @hw (aa @kF (aa @nV (aa (ac5 Wy) (aa (atL Yx) (aa (atL vr) (aa (atL Wy) (aa @hN (aa @hk (aa @cK.{0} (aa @sI @hxg)))))))))))))))))) ?_ (CM ?_)<;>intros)
    all_goals refine⟨⟨(i+1,ν++[some [⟨52,2,[x.cs],none⟩]]),bP⟩,rfl,?_,by simp only;omega⟩
    all_goals simp only
    ·rw[uU,mG,if_pos (by omega),<-uW,<-hu1 _ (by simp),e1]
    ·rw[uU,mG,if_neg (by omega),<-uW,<-hu2,e2]
     simp[kg,List.set_set,hk]
  ·obtain rfl:i=l'.length:=by omega
   obtain⟨m1,m2⟩:=oS l' [] trivial (fun u hu=>(iw u (w6.mem_iff.1 hu)).1) (fun _ h=>by cases h) IB
   have lh:zw σ f e o rest s l (oq σ f e o rest l' (acc l' l'.length) ν):=by
    refine⟨acc l' l'.length,_,rfl,hG,?_,?_,by omega,Dc⟩
    ·simp only[acc,aI];exact m1
    ·intro v
     simp only[acc,aI]
     rw[m2]
     simp only[Mem,w6.mem_iff,bm]
     constructor
     ·rintro(⟨u,hu,_⟩|⟨u,hu|hu,h⟩)
      ·cases hu
      ·exact .inl ⟨u,hu,h⟩
      ·exact .inr ⟨u,hu,h⟩
     ·rintro(⟨u,hu,h⟩|⟨u,hu,h⟩)
      ·exact .inr ⟨u,.inl hu,h⟩
      ·exact .inr ⟨u,.inr hu,h⟩
   generalize hSd:oq σ f e o rest l' (acc l' l'.length) ν=S at*
   have vr:=dU hA
   refine Au ?_;intros
   exact WQ▸lh
theorem BU{rs:List RF}{R R':AV->aG->Prop}{e:Exit}{env:Env}{σ:aG}(hR:∀v σ',R v σ'->R' v σ')(h:sw rs R e env σ):sw rs R' e env σ:=by
 unfold sw at h|-
 cases e with
 |normal=>
  simp only at h|-
  split at h
  ·exact⟨h.1,hR _ _ h.2⟩
  ·exact h.elim
 |ret=>
  simp only at h|-
  split at h
  ·exact⟨h.1,hR _ _ h.2⟩
  ·exact h.elim
 |_=>exact h
theorem zw.row{σ σ':aG}{f e:Nat}{o:Ob}{rest:List AV}{s r:List Sp}(h:zw σ f e o rest s r σ')(hf:σ.at f 0=some o)(t:List Sp)(ht:Norm t)(hm:∀v,Mem v t↔Mem v s\/Mem v r):σ'.at f 0=some (kg o e (σ.length+1) t.length rest)/\MJ σ' (t,some (σ.length+1))/\(∀i j,i<σ.length->i≠f->σ'.at i j=σ.at i j)/\σ.length<=σ'.length:=by
 obtain⟨l',ν,rfl,h1,h2,h3,h4,h5⟩:=h
 have Dd:=dU hf
 obtain rfl:l'=t:=Norm.ext h2 ht fun v=>by rw[h3,hm]
 refine⟨?_,h1,fun i j hi iw=>?_,by rw[aM,iI];omega⟩
 ·rw[cI (by rw[iI];exact Dd)];exact cu hf
 ·rw[cI (by rw[iI];exact hi)];exact cx (.inl (fun h=>iw h.symm))
def rC(σ:aG)(c:AV)(s:List Sp):Prop:=(c=.v (.slice none 0 0)/\s=[])\/∃q,c=JR q/\q.1=s/\MJ σ q
theorem P4(σ:aG)(f N e:Nat)(o:Ob)(c:AV)(rest:List AV)(s:List Sp)(r:List Sp×Option Nat)(hf:σ.at f 0=some o)(hN:o.es.length=N)(he:e<N)(hk:o.k=rest.length+1)(cX:o.es.getD e []=c::rest)(nB:o.lp=none)(hc:rC σ c s)(hr:MJ σ r)(iw:∀u∈s++r.1,u.lo<=u.hi/\-1000000<=u.lo/\u.hi<=1000000)(hlen:s.length+r.1.length<1000000000)(t:List Sp)(ht:Norm t)(hm:∀v,Mem v t↔Mem v s\/Mem v r.1):eY Tryz.prog 91 [.ptr f 0 N e 0,JR r] σ (fun _ σ'=>∃G,σ.length<=G/\σ'.at f 0=some (kg o e G t.length rest)/\MJ σ' (t,some G)/\(∀i j,i<σ.length->i≠f->σ'.at i j=σ.at i j)/\σ.length<=σ'.length):=by
 have Dd:=dU hf
 refine Ri Tryz.call91 Tryz.func91 k91 ?_
 rcases hc with⟨rfl,rfl⟩|⟨q,rfl,rfl,hq⟩
 ·have WS:o.es.getD e []=(o.es[e]'(by omega)):=by simp[ab,show e<o.es.length by omega]
  refine aR.lH 52 2 (f:=f) (i:=0) (e:=e) (j:=0) hf (by omega) (by rw[cX];rfl) ?_
  have cn:aG.cZ (σ++[some [⟨52,2,[],none⟩]]) f 0 {o with es:=o.es.set e ((o.es.getD e []).set 0 (.own σ.length 0 0))}=aG.cZ σ f 0 (kg o e σ.length 0 rest)++[some [jJ []]]:=by
   rw[iR Dd,cX];rfl
  rw[cn]
  have Q0:aG.at (aG.cZ σ f 0 (kg o e σ.length 0 rest)++[some [jJ []]]) f 0=some (kg o e σ.length 0 rest):=by
   rw[cI (by rw[iI];exact Dd)];exact cu hf
  have Oc:aG.at (aG.cZ σ f 0 (kg o e σ.length 0 rest)++[some [jJ []]]) σ.length 0=some (jJ []):=by
   have:=dV (aG.cZ σ f 0 (kg o e σ.length 0 rest)) [some [jJ []]] 0
   rw[iI]at this;rw[this];rfl
  have CY:List.length (aG.cZ σ f 0 (kg o e σ.length 0 rest)++[some [jJ []]])=σ.length+1:=by rw[aM,iI];rfl
  have WT:∀i j,i<σ.length->i≠f->aG.at (aG.cZ σ f 0 (kg o e σ.length 0 rest)++[some [jJ []]]) i j=σ.at i j:=fun i j hi iw=>by
   rw[cI (by rw[iI];exact hi)];exact cx (.inl (fun h=>iw h.symm))
  have Oh:MJ (aG.cZ σ f 0 (kg o e σ.length 0 rest)++[some [jJ []]]) r:=by
   obtain⟨l,g⟩:=r
   cases g with
   |none=>trivial
   |some g=>
    simp only[MJ]at hr|-
    rw[WT g 0 (dU hr) (by
     rintro rfl
     rw[hf]at hr;injection hr with hr
     subst hr
     have oy:e<(jJ l).es.length:=by omega
     have hex:e<l.length:=by simpa[jJ]using oy
     rw[show(jJ l).es=l.map Sp.cs from rfl,getD_map (ae hex)]at cX
     cases cX)]
    exact hr
  generalize aG.cZ σ f 0 (kg o e σ.length 0 rest)++[some [jJ []]]=iX at*
  refine aR.mono (fun ex env τ h=>?_) (Fb iX f N e (kg o e σ.length 0 rest) rest ([],some σ.length) r Q0 (by simp[hN]) he hk (by simp[ab,show e<o.es.length by omega,JR]) nB Oc Oh iw hlen)
  refine BU (fun v σ' h=>?_) h
  have K8:=zw.row h Q0 t ht hm
  refine⟨iX.length+1,by omega,?_,K8.2.1,fun i j hi iw=>by rw[K8.2.2.1 i j (by omega) iw,WT i j hi iw],by omega⟩
  rw[K8.1];simp[kg]
 ·refine aR.mono (fun ex env τ h=>?_) (Fb σ f N e o rest q r hf hN he hk cX nB hq hr iw hlen)
  refine BU (fun v σ' h=>?_) h
  have K8:=zw.row h hf t ht hm
  exact⟨σ.length+1,by omega,K8.1,K8.2.1,K8.2.2.1,K8.2.2.2⟩
def Pp.row(p:Pp)(t:Pt)(y:Int):List AV:=[n y,.agg [n (((p.along t).lo-p.Hi y)/p.pi),n (((p.along t).hi-p.Hi y)/p.pi)]]
def Pp.Hl(p:Pp)(t:Pt):Nat:=((p.cz t).hi-(p.cz t).lo+1).toNat
def Pp.tr(p:Pp)(t:Pt):List (List AV):=(List.range (p.Hl t)).map fun(k:Nat)=>p.row t ((p.cz t).lo+k)
theorem Hm(p:Pp)(t:Pt){k:Nat}(h:k<p.Hl t):(p.tr t)[k]?=some (p.row t ((p.cz t).lo+k)):=by
 simp[Pp.tr,h]
theorem TY(p:Pp)(y:Int)(hg:p.iV)(h0:0<=y)(h1:y<=p.he):0<=p.Hi y/\p.Hi y<=160000000000:=by
 obtain⟨g1,g2,g3,g4,g5,g6,g7,g8,g9,g10,g11,g12,g13⟩:=hg
 have hm:=yG h0 (show y<=400000 by omega) (show 0<=p.he-y by omega) (show p.he-y<=400000 by omega)
 unfold Pp.Hi
 split
 ·omega
 ·exact Du hm.1 hm.2 (show 1<=2*p.ra by omega)
theorem Ka(p:Pp)(t:Pt)(hg:p.iV)(ht:Ni t):Iter Tryz.prog 164 [] [.bZ p.cs 0,.bZ t.cs 0] (p.tr t):=by
 refine⟨Tryz.call164,fun C y J D σ hy hC hJ ew=>?_⟩
 refine eY.mono (R:=fun _ iX=>kS C J D (p.tr t).length iX) ?_ fun _ _ h=>h.out
 refine Fi Tryz.f164.eq_1 [] [.l [0,1,4,5,6],.d 19,.d 8] ?_
 have hx:=wi p.al t.x t.half hg.2.2.2.2.2.2.2.2.2.2.2.1 ⟨ht.1,ht.2.1⟩ ⟨ht.2.2.2.2.1,ht.2.2.2.2.2⟩
 have Dr:=wi p.cl t.y t.half hg.2.2.2.2.2.2.2.2.2.2.2.2 ⟨ht.2.2.1,ht.2.2.2.1⟩ ⟨ht.2.2.2.2.1,ht.2.2.2.2.2⟩
 have Oa:0<=(p.cz t).lo:=Dr.1
 have hyh:(p.cz t).hi<=p.he:=Int.min_le_right _ _
 have hA:=Hk p t hg ht
 have hH:=Dw p t hg ht
 have K3:=fun{k}=>Hm p t (k:=k)
 have hcn:(p.tr t).length=p.Hl t:=by simp[Pp.tr]
 have hc2:p.Hl t=((p.cz t).hi-(p.cz t).lo+1).toNat:=rfl
 have hpi:1<=p.pi:=hg.1
 have hhe:p.he<=400000:=hg.2.2.2.1
 unfold Pp.row at K3
 change 0<=(p.along t).lo/\(p.along t).lo<=405000000/\0<=(p.along t).hi/\(p.along t).hi<=405000000 at hx
 have Rp:=fun y=>TY p y hg
 have has:=fun y=>Nj p y hg
 rw[hcn]
 generalize p.along t=sa at*
 generalize p.cz t=sh at*
 generalize p.Hl t=N at*
 refine Ay (aa @hA @hH) ?_;intros
 refine aR.lr (α:={x:Nat×aG×aG//x.1<=N/\x.2.1.length=C/\J x.1 x.2.1}) [6] (fun x=>[(6,n (sh.lo+x.1.1))]) (fun x=>x.1.2.1++(some [⟨52,2,[sa.cs],none⟩]::some [⟨52,2,[sh.cs],none⟩]::x.1.2.2)) (fun x=>N-x.1.1) ⟨(0,σ,[]),by simp,hC,hJ⟩ ?_
 ·rintro⟨⟨k,τ,ν⟩,hk,pD,ze⟩
  simp only at hk pD ze
  have dQ:∀(τ:aG),τ.length=C->(∀L,aG.at (τ++L) σ.length 0=aG.at L 0 0)/\∀L,aG.at (τ++L) (σ.length+1) 0=aG.at L 1 0:=fun τ h=>by
   rw[hC,<-h];exact⟨fun L=>dV _ _ _,fun L=>dR _ _ 1 0⟩
  have h0:=(dQ τ pD).1
  have h1:=(dQ τ pD).2
  by_cases hle:sh.lo+k<=sh.hi
  ·have me:k<N:=by omega
   have ha:=Rp (sh.lo+k) (by omega) (by omega)
   have f1:=p_ (sa.lo-p.Hi (sh.lo+k)) p.pi hpi (by omega) (by omega)
   have f2:=p_ (sa.hi-p.Hi (sh.lo+k)) p.pi hpi (by omega) (by omega)
   have f0:=has (sh.lo+k) (by omega) (by omega)
   have hyk:=ew k _ τ (some [⟨52,2,[sa.cs],none⟩]::some [⟨52,2,[sh.cs],none⟩]::ν) (K3 me) pD ze
   refine Az (aa @h0 @h1) (aa @f0 (aa @f1 @f2)) ?_;intros
   refine .inr (.inr ⟨y,_,rfl,fun _=>⟨hyk,?_⟩,fun h=>by cases h⟩)
   rintro b σ' ⟨iv,gz,rfl,jW,xe,CG⟩
   refine aH ?_
   refine adL ?_
   have h2:=(dQ iv jW).1
   have h3:=(dQ iv jW).2
   cases b with
   |false=>
    refine Ax (aa @h2 @h3) ?_;intros
    exact kS.mk iv _ rfl jW (.inr (CG rfl))
   |true=>
    refine Ax (aa @h2 @h3) ?_;intros
    exact⟨⟨(k+1,iv,ν++gz),me,jW,xe rfl⟩,by simp;omega,by simp,by simp only;omega⟩
  ·obtain rfl:k=N:=by omega
   refine Ax (aa @h0 @h1) ?_;intros
   exact kS.mk τ _ rfl pD (.inl ze)
def uY(l:List Sp)(v:Int):List Sp:=
 match l.getLast? with
 |some s=>if v<=s.hi+1 then l.dropLast++[⟨s.lo,max s.hi v⟩]else l++[⟨v,v⟩]
 |none=>[⟨v,v⟩]
theorem wo(init:List Sp)(s:Sp)(v:Int):uY (init++[s]) v=if v<=s.hi+1 then init++[⟨s.lo,max s.hi v⟩]else init++[s,⟨v,v⟩]:=by
 simp[uY]
theorem Norm.q9{l:List Sp}:∀{A B:Int},Norm l->(∀s∈l,A<=s.lo/\s.hi<=B)->(l.length:Int)<=max 0 (B-A+1):=by
 induction l with
 |nil=>intro A B _ _;simp only[bM];omega
 |cons s r ih=>
  intro A B hn hb
  obtain⟨h1,h2,h3⟩:=hn
  have hs:=hb s (by simp)
  have:=ih (A:=s.hi+2) (B:=B) h3 fun t ht=>by have:=h2 t ht;have:=hb t (by simp[ht]);omega
  rw[bf]
  push_cast
  omega
theorem Hn(σ:aG)(f N e g:Nat)(o:Ob)(l:List Sp)(v:Int)(hf:σ.at f 0=some o)(hN:o.es.length=N)(he:e<N)(hk:o.k=1)(cX:o.es.getD e []=[.own g 0 l.length])(nB:o.lp=none)(hg:σ.at g 0=some (jJ l))(iw:g≠f)(hl:l.length<1000000000)(hv:-1000000<=v/\v<=1000000)(hh:∀s∈l,-1000000<=s.hi/\s.hi<=1000000):eY Tryz.prog 89 [.ptr f 0 N e 0,n v] σ (fun _ σ'=>σ'=(σ.cZ g 0 (jJ (uY l v))).cZ f 0 {o with es:=o.es.set e [.own g 0 (uY l v).length]}):=by
 have ho:∀q,(σ.cZ g 0 q).at f 0=some o:=fun q=>by rw[cx (.inl iw)];exact hf
 refine Fi Tryz.f89.eq_1 [] [.d 19] ?_
 rcases dp l with rfl|⟨init,s,rfl⟩
 ·simp only[bM]at cX
  refine Ax (aa @hf (aa @hg (aa @ho (aa @hN (aa @hk (aa @cX @nB)))))) ?_;intros
  simp[uY,jJ,hk,nB]
 ·rw[dq]at*
  have Av:init.length+1<1000000000:=by simpa using hl
  have hs:=hh s (by simp)
  have hlen:(init++[s]).length=init.length+1:=by simp
  have zy:(init++[s]).map Sp.cs=init.map Sp.cs++[s.cs]:=by simp
  have hw:IntKind.i64.wrap (((init.length+1:Nat):Int)-1)=(init.length:Int):=by rw[cB _ (by omega) (by omega)];omega
  have kF:(init.map Sp.cs++[s.cs]).getD init.length []=s.cs:=by simp[ab]
  have nV:∀X:List AV,(init.map Sp.cs++[s.cs]).set init.length X=init.map Sp.cs++[X]:=fun X=>by
   rw[fa _ _ (by simp)];simp
  rw[hlen]at cX
  unfold jJ at hg
  rw[zy]at hg
  (refine Ax (aa @hf (aa @hg (aa @ho (aa @hN (aa @hk (aa @cX (aa @nB (aa @hlen (aa @zy (aa @hw (aa @kF @nV))))))))))) ?_ (CM ?_)<;>intros)
  ·rename_i h
   rw[wo,if_pos h.2]
   have e1:jJ (init++[⟨s.lo,max s.hi v⟩])=⟨52,2,init.map Sp.cs++[[n s.lo,n (max s.hi v)]],none⟩:=by simp[jJ]
   rw[e1]
   have e2:(init++[⟨s.lo,max s.hi v⟩]:List Sp).length=init.length+1:=by simp
   rw[e2]
   have e3:o.es.set e [.own g 0 (init.length+1)]=o.es:=by
    rw[<-cX,ab]
    refine dv fun i=>?_
    rw[bX]
    by_cases hi:e=i
    ·subst hi;simp[hN,he]
    ·simp[hi]
   rw[e3]
   refine(j8 ?_).symm
   rw[ho,<-nB,<-hk]
  ·rename_i h
   rw[wo,if_neg (by omega)]
   simp[jJ,hk,nB]
abbrev Ho(x:List (List Sp)):AV:=.sl 1 (x.map fun l=>[iT l])
abbrev Cy(x:List (List Sp)):AV:=.agg [Ho x]
abbrev Pp.lR(p:Pp)(t:Pt)(c y:Int):Prop:=((p.along t).lo-p.Hi y)/p.pi<=c/\c<=((p.along t).hi-p.Hi y)/p.pi
def Pp.ms(p:Pp)(t:Pt)(c:Int):Nat->List Sp
 |0=>[]
 |k+1=>if p.lR t c ((p.cz t).lo+k)then uY (p.ms t c k) (p.level ((p.cz t).lo+k))else p.ms t c k
theorem Fe(p:Pp)(y:Int)(hg:p.iV)(h0:0<=y)(h1:y<=p.he):0<=p.level y/\p.level y<=12000:=by
 obtain⟨g1,g2,g3,g4,g5,g6,g7,g8,g9,g10,g11,g12,g13⟩:=hg
 have hm:=Int.mul_nonneg h0 (show 0<=p.hi-p.lo by omega)
 have h2:y*(p.hi-p.lo)<=p.he*(p.hi-p.lo):=Int.mul_le_mul_of_nonneg_right h1 (by omega)
 have h3:(y*(p.hi-p.lo)).tdiv p.he<=p.hi-p.lo:=by
  rw[k8 hm]
  have:=Int.ediv_le_ediv (show 0<p.he by omega) h2
  rw[Int.mul_ediv_cancel_left _ (by omega)]at this
  exact this
 have h4:0<=(y*(p.hi-p.lo)).tdiv p.he:=Int.tdiv_nonneg hm (by omega)
 unfold Pp.level
 omega
def Pp.ot(p:Pp)(t:Pt)(c:Int):List Sp:=p.ms t c (p.Hl t)
def Nb(p:List Sp):Prop:=Norm p/\∀s∈p,0<=s.lo/\s.hi<=12000
theorem Nb.bd{p:List Sp}(h:Nb p):∀s∈p,-1000000<=s.lo/\s.hi<=1000000:=fun s hs=>by have:=h.2 s hs;omega
theorem Nb.mem{p:List Sp}(h:Nb p){v:Int}(hv:Mem v p):0<=v/\v<=12000:=by
 obtain⟨s,hs,h1,h2⟩:=hv
 have:=h.2 s hs;omega
theorem Nb.of{p:List Sp}(hn:Norm p)(h:∀v,Mem v p->0<=v/\v<=12000):Nb p:=⟨hn,Bz hn h⟩
theorem Nk{p q:List Sp}(hp:Nb p)(hq:Nb q):Nb (jI p q):=.of (nW hp.1) fun v hv=>((pF hp.1 v).1 hv).elim hp.mem hq.mem
theorem Hp:Nb []:=⟨trivial,fun s h=>by cases h⟩
theorem Nb.q9{l:List Sp}(h:Nb l):l.length<=12001:=by
 have:=Norm.q9 (A:=0) (B:=12000) h.1 h.2
 omega
theorem P6{l:List Sp}{v:Int}(h:Nb l)(h0:0<=v)(h1:v<=12000):Nb (uY l v):=by
 rcases dp l with rfl|⟨i,s,rfl⟩
 ·exact⟨by simp[uY,Norm],by simp[uY];omega⟩
 ·rw[dq]at h|-
  rw[wo]
  have hs:=h.2 s (by simp)
  have hn:=h.1.ne s (by simp)
  obtain⟨n1,n2,n3⟩:=jH.1 h.1
  split
  ·refine⟨jH.2 ⟨n1,⟨by simp only;omega,by simp,trivial⟩,fun a ha b hb=>?_⟩,fun u hu=>?_⟩
   ·obtain rfl:b=⟨s.lo,max s.hi v⟩:=by simpa using hb
    exact n3 a ha s (by simp)
   ·rcases bm.1 hu with hu|hu
    ·exact h.2 u (by simp[hu])
    ·obtain rfl:u=⟨s.lo,max s.hi v⟩:=by simpa using hu
     simp only;omega
  ·rename_i hv
   rw[show i++[s,⟨v,v⟩]=(i++[s])++[⟨v,v⟩] by simp]
   refine⟨jH.2 ⟨h.1,⟨by simp,by simp,trivial⟩,fun a ha b hb=>?_⟩,fun u hu=>?_⟩
   ·obtain rfl:b=⟨v,v⟩:=by simpa using hb
    rcases bm.1 ha with ha|ha
    ·have:=n3 a ha s (by simp);simp only;omega
    ·obtain rfl:a=s:=by simpa using ha
     simp only;omega
   ·rcases bm.1 hu with hu|hu
    ·exact h.2 u hu
    ·obtain rfl:u=⟨v,v⟩:=by simpa using hu
     simp only;omega
theorem zz(p:Pp)(t:Pt)(hg:p.iV)(ht:Ni t):0<=(p.cz t).lo/\(p.cz t).hi<=p.he:=by
 have h:=wi p.cl t.y t.half hg.2.2.2.2.2.2.2.2.2.2.2.2 ⟨ht.2.2.1,ht.2.2.2.1⟩ ⟨ht.2.2.2.2.1,ht.2.2.2.2.2⟩
 exact⟨h.1,Int.min_le_right _ _⟩
theorem Nl{p:Pp}{t:Pt}(hg:p.iV)(ht:Ni t)(c:Int):∀k,k<=p.Hl t->Nb (p.ms t c k)
 |0,_=>Hp
 |k+1,hk=>by
  have ih:=Nl hg ht c k (by omega)
  have hb:=zz p t hg ht
  unfold Pp.ms
  split
  ·have:=Fe p ((p.cz t).lo+k) hg (by omega) (by unfold Pp.Hl at hk;omega)
   exact P6 ih this.1 this.2
  ·exact ih
theorem BV{p:Pp}{t:Pt}{c:Int}(hg:p.iV)(ht:Ni t):Nb (p.ot t c):=Nl hg ht c _ (ar _)
def Nn(N:Int)(l:List Int):Prop:=(∀b∈l,0<=b/\b<N)/\l.Pairwise (·< ·)
theorem No{N:Int}{l:List Int}(h:Nn N l)(i:Nat):Nn N (l.take i):=⟨fun b hb=>h.1 b (dx hb),h.2.sublist (xd i l)⟩
theorem WY{N:Int}{l:List Int}{b:Int}(hb:l[0]?=some b):Nn N (l.take 1)↔0<=b/\b<N:=by
 have e:l.take 1=[b]:=by rw[ba,hb];rfl
 rw[e];simp[Nn]
theorem Np{N:Int}{l:List Int}{i:Nat}{u b:Int}(hu:l[i]?=some u)(hb:l[i+1]?=some b)(h:Nn N (l.take (i+1))):Nn N (l.take (i+2))↔(0<=b/\b<N)/\u<b:=by
 have e1:l.take (i+1)=l.take i++[u]:=by rw[ba,hu];rfl
 have e2:l.take (i+2)=l.take i++[u]++[b]:=by rw[ba,hb,e1];rfl
 unfold Nn at h|-
 rw[e1]at h
 rw[e2,List.pairwise_append]
 constructor
 ·rintro⟨h1,_,_,h2⟩
  exact⟨h1 b (by simp),h2 u (by simp) b (by simp)⟩
 ·rintro⟨h1,h2⟩
  refine⟨fun x hx=>?_,h.2,by simp,fun x hx y hy=>?_⟩
  ·rcases bm.1 hx with hx|hx
   ·exact h.1 x hx
   ·obtain rfl:x=b:=by simpa using hx
    exact h1
  ·obtain rfl:y=b:=by simpa using hy
   rcases bm.1 hx with hx|hx
   ·have:=(List.pairwise_append.1 h.2).2.2 x hx u (by simp)
    omega
   ·obtain rfl:x=u:=by simpa using hx
    exact h2
def oE(p:Pp)(l:List Pt)(c:Int):List Sp:=l.foldl (fun s t=>jI s (p.ot t c)) []
theorem Kb{p:Pp}{l:List Pt}{i:Nat}{t:Pt}(h:l[i]?=some t)(c:Int):oE p (l.take (i+1)) c=jI (oE p (l.take i) c) (p.ot t c):=by
 have:l.take (i+1)=l.take i++[t]:=by rw[ba,h];rfl
 simp only[oE,this,eO,cT,List.foldl_nil]
theorem IC{p:Pp}{c:Int}(hg:p.iV):∀(l:List Pt) (s:List Sp),(∀t∈l,Ni t)->Nb s->Nb (l.foldl (fun s t=>jI s (p.ot t c)) s)
 | [],s,_,hs=>hs
 |t::l,s,hl,hs=>IC hg l _ (fun u hu=>hl u (by simp[hu])) (Nk hs (BV hg (hl t (by simp))))
theorem Dx{p:Pp}{c:Int}{l:List Pt}(hg:p.iV)(hl:∀t∈l,Ni t):Nb (oE p l c):=IC hg l [] hl Hp
def qA(p:Pp)(l:List Pt)(bs:List Int)(c:Nat):List Sp:=if(c:Int)∈bs then []else oE p l c
def Nq(p:Pp)(l:List Pt)(bs:List Int):List (List Sp):=(List.range p.co.toNat).map (qA p l bs)
abbrev many(x:List (List Sp)):Bool:=x.any fun l=>decide (8<l.length)
abbrev lim(x:List (List Sp)):List (List Sp)×Int:=bif many x then([],2)else(x,0)
theorem zA{x:List (List Sp)}:many x=false↔∀l∈x,l.length<=8:=by
 rw[many,fo]
 exact⟨fun h l hl=>by have:=h l hl;simp at this;exact this,fun h l hl=>by have:=h l hl;simp;exact this⟩
theorem rD{σ:aG}(e:Int):bO σ (.iu [.agg [.v (.slice none 0 0)],n e]) (.iu [Cy [],n e]):=by
 refine bO.iu rfl fun i hi=>?_
 match i,hi with
 |0,_=>exact bO.agg rfl fun i hi=>(by match i,hi with|0,_=>exact so)
 |1,_=>exact Fq
noncomputable def wq(p:Pp)(l:List Pt)(bs:List Int):List (List Sp)×Int:=
 if sZ p l≠0 then([],sZ p l)else if tr (Nn p.co bs)=false then([],1)else lim (Nq p l bs)
theorem ID{p:Pp}{l:List Pt}(h:sZ p l=0):p.iV/\l.length<=2000/\∀t∈l,Ni t:=by
 unfold sZ at h
 split at h
 ·rename_i hp
  unfold nr at h
  split at h
  ·cases h
  ·rw[oU]at h
   refine⟨Pp.Nh hp,by omega,fun t ht=>?_⟩
   obtain⟨i,hi,rfl⟩:=fZ.1 ht
   have:=h i hi
   rw[ab,ae hi]at this
   simp only[bV]at this
   split at this
   ·rename_i hk;exact Pt.Nh hk
   ·cases this
 ·cases h
theorem Dy{p:Pp}{l:List Pt}{bs:List Int}(h:(wq p l bs).2=0):((wq p l bs).1.length:Int)=p.co/\∀x∈(wq p l bs).1,Nb x/\x.length<=8:=by
 unfold wq at h|-
 split at h
 ·rename_i h1;exact absurd h h1
 rename_i h1
 rw[if_neg h1]
 split at h
 ·cases h
 rename_i h2
 rw[if_neg h2]
 obtain⟨hg,_,hl⟩:=ID (fm.1 h1)
 have hc:=hg.2.2.2.2.2.2.2.2.2.1
 unfold lim at h|-
 cases hm:many (Nq p l bs)with
 |true=>rw[hm]at h;cases h
 |false=>
  simp only[cond_false]
  refine⟨by simp[Nq];omega,fun x hx=>⟨?_,zA.1 hm x hx⟩⟩
  obtain⟨c,_,rfl⟩:=aO.1 hx
  unfold qA
  split
  ·exact Hp
  ·exact Dx hg hl
theorem BW{α:Type}(N:Nat)(x:α):List.replicate N x=(List.range N).map fun _=>x:=by
 refine dv fun i=>?_
 by_cases hi:i<N
 ·simp[hi]
 ·simp[hi]
def qB(σ:aG)(A G N:Nat)(R:Nat->List Sp):Prop:=
 σ.at A 0=some ⟨203,1,(List.range N).map fun(j:Nat)=>[.own (G+j) 0 (R j).length],none⟩/\∀j,j<N->σ.at (G+j) 0=some (jJ (R j))
theorem qB.congr{σ:aG}{A G N:Nat}{R R':Nat->List Sp}(h:qB σ A G N R)(hR:∀j,j<N->R' j=R j):qB σ A G N R':=by
 refine⟨?_,fun j hj=>by rw[hR j hj];exact h.2 j hj⟩
 rw[h.1,ea (f:=fun(j:Nat)=>[AV.own (G+j) 0 (R j).length]) (g:=fun(j:Nat)=>[.own (G+j) 0 (R' j).length]) fun j hj=>by rw[hR j hj]]
theorem qB.frame{σ σ':aG}{A G N:Nat}{R:Nat->List Sp}(h:qB σ A G N R)(hA:σ'.at A 0=σ.at A 0)(hG:∀j,j<N->σ'.at (G+j) 0=σ.at (G+j) 0):qB σ' A G N R:=
 ⟨by rw[hA];exact h.1,fun j hj=>by rw[hG j hj];exact h.2 j hj⟩
theorem qB.app{σ:aG}{A G N:Nat}{R:Nat->List Sp}(h:qB σ A G N R)(ν:aG):qB (σ++ν) A G N R:=
 h.frame (cI (dU h.1)) fun j hj=>cI (dU (h.2 j hj))
def uZ(σ:aG)(A G N c:Nat)(R:Nat->List Sp)(v:Int):aG:=
 (σ.cZ (G+c) 0 (jJ (uY (R c) v))).cZ A 0 ⟨203,1,((List.range N).map fun(j:Nat)=>[AV.own (G+j) 0 (R j).length]).set c [.own (G+c) 0 (uY (R c) v).length],none⟩
theorem Kc{σ:aG}{A G N c:Nat}{R:Nat->List Sp}{v:Int}:(uZ σ A G N c R v).length=σ.length:=by rw[uZ,eW,eW]
theorem Ff{σ:aG}{A G N c:Nat}{R:Nat->List Sp}{v:Int}{i:Nat}(h:i≠A)(h':i≠G+c):(uZ σ A G N c R v).at i 0=σ.at i 0:=by
 rw[uZ,cx (.inl fun e=>h e.symm),cx (.inl fun e=>h' e.symm)]
theorem Kd{σ:aG}{A G N c:Nat}{R:Nat->List Sp}{v:Int}(h:qB σ A G N R)(hAG:A<G)(hc:c<N):qB (uZ σ A G N c R v) A G N (fun j=>if j=c then uY (R c) v else R j):=by
 have h1:(σ.cZ (G+c) 0 (jJ (uY (R c) v))).at A 0=some ⟨203,1,(List.range N).map fun(j:Nat)=>[.own (G+j) 0 (R j).length],none⟩:=by rw[cx (.inl (by omega))];exact h.1
 refine⟨?_,fun j hj=>?_⟩
 ·rw[uZ,cu h1,kZ]
  refine congrArg (fun z=>some (⟨203,1,z,none⟩:Ob)) (ea fun j hj=>?_)
  by_cases uP:j=c
  ·subst uP;simp
  ·simp[uP]
 ·rw[uZ,cx (.inl (by omega))]
  by_cases uP:j=c
  ·subst uP;rw[cu (h.2 j hj)];simp
  ·rw[cx (.inl (by omega)),h.2 j hj];simp[uP]
theorem A8(σ ν:aG)(A G N c:Nat)(R:Nat->List Sp)(v:Int)(h:qB σ A G N R)(hAG:A<G)(hc:c<N)(hl:(R c).length<1000000000)(hv:-1000000<=v/\v<=1000000)(hh:∀s∈R c,-1000000<=s.hi/\s.hi<=1000000):eY Tryz.prog 89 [.ptr A 0 N c 0,n v] (σ++ν) (fun _ σ'=>σ'=uZ σ A G N c R v++ν):=by
 have hA:=dU h.1
 have hG:=dU (h.2 c hc)
 refine(Hn (σ++ν) A N c (G+c) _ (R c) v (by rw[cI hA];exact h.1) (by simp) hc rfl (gG _ hc) rfl (by rw[cI hG];exact h.2 c hc) (by omega) hl hv hh).mono fun _ σ' e=>?_
 rw[e,iR hG,iR (by rw[eW];exact hA)]
 rfl
abbrev Dz(N:Nat)(vl:Nat->AV)(bs:List Int):Ob:=⟨205,2,(List.range N).map fun(j:Nat)=>[vl j,bl (decide ((j:Int)∈bs))],none⟩
theorem rC.frame{σ σ':aG}{c:AV}{s:List Sp}(h:rC σ c s)(hs:∀g o,σ.at g 0=some o->o.T=52->σ'.at g 0=some o):rC σ' c s:=by
 rcases h with h|⟨q,h1,h2,h3⟩
 ·exact .inl h
 ·refine .inr ⟨q,h1,h2,?_⟩
  obtain⟨l,g⟩:=q
  cases g with
  |none=>trivial
  |some g=>exact hs g _ h3 rfl
theorem rC.app{σ:aG}{c:AV}{s:List Sp}(h:rC σ c s)(ν:aG):rC (σ++ν) c s:=
 h.frame fun g o ho _=>by rw[cI (dU ho)];exact ho
theorem rC.Wo{σ:aG}{c:AV}{s:List Sp}(h:rC σ c s):bO σ c (iT s):=by
 rcases h with⟨rfl,rfl⟩|⟨⟨l,g⟩,rfl,rfl,h3⟩
 ·exact so
 ·cases g with
  |none=>exact bO.eq rfl (Rs _)
  |some g=>exact C9 _ h3 rfl
structure DA(p:Pp)(N:Nat)(bs:List Int)(σ:aG)(vl:Nat->AV)(S:Nat->List Sp):Prop where
 o0:σ.at 0 0=some ⟨108,1,[[.v (.slice none 0 0)]],none⟩
 o1:σ.at 1 0=some ⟨198,10,[p.cs],none⟩
 o2:σ.at 2 0=some (Dz N vl bs)
 row:∀j,j<N->rC σ (vl j) (S j)
theorem DA.app{p:Pp}{N:Nat}{bs:List Int}{σ:aG}{vl:Nat->AV}{S:Nat->List Sp}(h:DA p N bs σ vl S)(ν:aG):DA p N bs (σ++ν) vl S:=
 ⟨by rw[cI (dU h.o0)];exact h.o0,by rw[cI (dU h.o1)];exact h.o1,by rw[cI (dU h.o2)];exact h.o2,fun j hj=>(h.row j hj).app ν⟩
theorem DA.wJ{p:Pp}{N:Nat}{bs:List Int}{σ σ':aG}{vl:Nat->AV}{S:Nat->List Sp}(h:DA p N bs σ vl S)(hs:∀i,i<σ.length->σ'.at i 0=σ.at i 0):DA p N bs σ' vl S:=
 ⟨by rw[hs _ (dU h.o0)];exact h.o0,by rw[hs _ (dU h.o1)];exact h.o1,by rw[hs _ (dU h.o2)];exact h.o2,fun j hj=>(h.row j hj).frame fun g o ho _=>by rw[hs _ (dU ho)];exact ho⟩
theorem Nr{σ:aG}{g N:Nat}{c:Nat->AV}{S:Nat->List Sp}(h:σ.at g 0=some ⟨56,1,(List.range N).map fun(j:Nat)=>[c j],none⟩)(hr:∀j,j<N->rC σ (c j) (S j)):bO σ (.own g 0 N) (Ho ((List.range N).map S)):=by
 refine bO.own (o:=⟨56,1,(List.range N).map fun(j:Nat)=>[c j],none⟩) (es:=((List.range N).map S).map fun l=>[iT l]) (show(1:Nat)≠0 by decide) h (by simp) (by simp) (fun e j he hj=>?_) fun e he=>?_
 ·rw[gG _ he,getD_map (x:=S e) (by simp[he])]
  match j,hj with
  |0,_=>exact(hr e he).Wo
 ·rw[getD_map (x:=S e) (by simp[he])];rfl
theorem P7(τ:aG)(a c:Option (List Ob))(o0:Ob)(N:Nat)(lN:aG)(h:lN=aG.cZ (τ++[a,some [o0],c]) (List.length τ+1) 0 ⟨203,1,kR (List.length (τ++[a,some [o0],c])) N N,none⟩++List.replicate N (some [jJ []])):lN.length=List.length τ+3+N/\qB lN (List.length τ+1) (List.length τ+3) N (fun _=>[])/\lN.at (List.length τ+2) 0=aG.at [c] 0 0/\∀i,i<List.length τ->lN.at i 0=τ.at i 0:=by
 have e0:List.length (τ++[a,some [o0],c])=List.length τ+3:=by simp
 rw[fC,e0]at h
 have e1:lN=τ++(a::some [⟨203,1,kR (List.length τ+3) N N,none⟩]::c::List.replicate N (some [jJ []])):=by
  rw[h,r7,rZ];simp
 subst e1
 refine⟨by simp;omega,⟨?_,fun j hj=>?_⟩,?_,fun i hi=>cI hi⟩
 ·rw[dR,cQ,uz]
  simp only[cg,kR]
  exact congrArg (fun z=>some (⟨203,1,z,none⟩:Ob)) (ea fun j hj=>by rw[if_pos hj];rfl)
 ·rw[show List.length τ+3+j=List.length τ+(j+1+1+1) by omega,dR,cQ,cQ,cQ]
  unfold aG.at
  simp[hj]
 ·rw[dR,cQ,cQ]
  cases c<;>simp[aG.at]
theorem zB(p:Pp)(l:List Pt)(bs:List Int)(JK:l.length<1000000000)(l7:bs.length<9223372036854775808):Pure Tryz.prog 36 [.agg p.cs,AO l,l9 bs] (.iu [Cy (wq p l bs).1,n (wq p l bs).2]):=by
 refine jX Tryz.f36.eq_1 [] [.l [6,20,123,124,125],.l [3,6,8,10,68,69,70],.l [3,6,8,10,15,68,69,70,103,104],.d 9,.l [3,6,8,10,15,68,69,70],.l [3,6,8,10,15,16,17,18,68,69,70],.d 6,.l [1,2,3,6,8,10,36,37,38]] ?_
 obtain⟨rc,h1,Se⟩:=J' p l JK
 unfold wq
 by_cases he:sZ p l≠0
 ·rw[if_pos he]
  refine Ay @h1 ?_;intros
  ·exact rD _
 rw[if_neg he]
 obtain⟨hg,CY,lO⟩:=ID (fm.1 he)
 rw[Se (by omega)]at h1
 have xR:=hg
 obtain⟨g1,g2,g3,g4,g5,g6,g7,g8,g9,g10,g11,g12,g13⟩:=xR
 obtain⟨N,hN⟩:∃N:Nat,p.co=N:=⟨p.co.toNat,by omega⟩
 have P8:p.co.toNat=N:=by omega
 obtain⟨pre,nj⟩:∃pre:Nat->List Int,∀i,pre i=bs.take i:=⟨_,fun _=>rfl⟩
 have WZ:List.replicate p.co.toNat [AV.v (.slice none 0 0),bl false]=(List.range N).map fun(j:Nat)=>[AV.v (.slice none 0 0),bl (decide ((j:Int)∈pre 0))]:=by
  rw[P8,BW,nj];simp
 have hw:IntKind.i64.wrap (p.co-1)=p.co-1:=cB _ (by omega) (by omega)
 refine Ay @h1 ?_;intros
 refine aR.le (α:={i:Nat//i<=bs.length/\Nn p.co (bs.take i)}) [38] (fun i=>[(38,n i.1)]) (fun i=>[some [⟨108,1,[[.v (.slice none 0 0)]],none⟩],some [⟨198,10,[p.cs],none⟩],some [Dz N (fun _=>.v (.slice none 0 0)) (pre i.1)]]) (fun i=>bs.length-i.1) ⟨0,aQ _,by simp[Nn]⟩ (by rw[WZ]) ?_
 rintro⟨i,hi,hbi⟩
 by_cases bP:i<bs.length
 ·obtain⟨b,hb⟩:∃b,bs[i]?=some b:=⟨_,ae bP⟩
  have Yy:=getD_map (f:=fun z=>[n z]) (d:=[]) hb
  by_cases p9:0<=b/\b<N
  ·have cn:((List.range N).map fun(j:Nat)=>[AV.v (.slice none 0 0),bl (decide ((j:Int)∈pre i))]).set b.toNat [.v (.slice none 0 0),bl true]=(List.range N).map fun(j:Nat)=>[AV.v (.slice none 0 0),bl (decide ((j:Int)∈pre (i+1)))]:=by
    rw[kZ,nj (i+1),ba,hb,<-nj]
    refine ea fun j hj=>?_
    simp only[bm,Option.toList,bp]
    by_cases hj:j=b.toNat
    ·rw[if_pos hj,decide_eq_true];right;omega
    ·rw[if_neg hj]
     have:(j:Int)≠b:=by omega
     simp[this]
   have kF:((List.range N).map fun(j:Nat)=>[AV.v (.slice none 0 0),bl (decide ((j:Int)∈pre i))]).getD b.toNat []=[.v (.slice none 0 0),bl (decide (b∈pre i))]:=by
    rw[gG _ (by omega)]
    rw[show((b.toNat:Nat):Int)=b by omega]
   cases i with
   |zero=>
    have hn:=WY (N:=p.co) hb
    have hz:(-1:Int).toNat=0:=rfl
    refine Az (aa @Yy (aa @hz (aa @P8 (aa @hw (aa @cn (aa @kF @a_)))))) @gd ?_;intros
    rename_i h
    exact⟨⟨1,bP,hn.2 (by omega)⟩,by simp,rfl,by simp only;omega⟩
   |succ i=>
    obtain⟨u,hu⟩:∃u,bs[i]?=some u:=⟨_,ae (by omega)⟩
    have Ah:=getD_map (f:=fun z=>[n z]) (d:=[]) hu
    have hn:=Np hu hb hbi
    have hw2:IntKind.i64.wrap (((i+1:Nat):Int)-1)=(i:Int):=by rw[cB _ (by omega) (by omega)];omega
    (refine Az (aa @Yy (aa @Ah (aa @hw2 (aa @P8 (aa @hw (aa @cn (aa @kF @a_))))))) @gd ?_ (CM ?_)<;>intros)
    ·rename_i h
     rw[yN (fun g=>?_)]
     ·exact rD _
     ·have:=hn.1 (No g (i+2));omega
    ·rename_i h
     exact⟨⟨i+2,bP,hn.2 (by omega)⟩,by simp;omega,rfl,by simp only;omega⟩
  ·have ti:¬Nn p.co bs:=fun g=>p9 (by have:=g.1 b (ao hb);omega)
   rw[yN ti]
   cases i with
   |zero=>
    have hz:(-1:Int).toNat=0:=rfl
    refine Az (aa @Yy (aa @hz (aa @P8 @hw))) @gd ?_;intros
    exact rD _
   |succ i=>
    obtain⟨u,hu⟩:∃u,bs[i]?=some u:=⟨_,ae (by omega)⟩
    have Ah:=getD_map (f:=fun z=>[n z]) (d:=[]) hu
    have hw2:IntKind.i64.wrap (((i+1:Nat):Int)-1)=(i:Int):=by rw[cB _ (by omega) (by omega)];omega
    refine Az (aa @Yy (aa @Ah (aa @hw2 (aa @P8 @hw)))) @gd ?_;intros
    exact rD _
 ·obtain rfl:i=bs.length:=by omega
  have W0:=hbi
  rw[aI]at W0
  rw[tE W0]
  simp only[Bool.true_eq_false,if_false]
  have Ye:pre bs.length=bs:=by rw[nj,aI]
  refine Ax (aa @P8 @Ye) ?_;intros
  refine aR.mT (α:={q:Nat×aG×(Nat->AV)//q.1<=l.length/\DA p N bs q.2.1 q.2.2 (fun j=>oE p (l.take q.1) j)}) [70,16,17,18,80,81,82,83,84,85,86,87,88,89,90,91,93,94,95,96,97,98,99,100] (fun q=>[(70,n q.1.1)]) (fun q=>q.1.2.1) (fun q=>l.length-q.1.1)
   ⟨(0,_,fun _=>.v (.slice none 0 0)),aQ _,⟨rfl,rfl,rfl,fun j hj=>.inl ⟨rfl,rfl⟩⟩⟩ ?_ rfl ?_
  ·exact Sb_
  rintro⟨⟨i,τ,vl⟩,hi2,hS⟩
  simp only at hi2 hS
  simp only
  have l0:=dU hS.o0
  have l1:=dU hS.o1
  have l2:=dU hS.o2
  have s1:=hS.o1
  by_cases qz:i<l.length
  ·obtain⟨t,DX⟩:∃t,l[i]?=some t:=⟨_,ae qz⟩
   have K3:=lO t (ao DX)
   have a1:∀ν,aG.at (τ++ν) 1 0=some ⟨198,10,[p.cs],none⟩:=fun ν=>by rw[cI l1];exact s1
   refine Az (aa @P8 (aa (Kf DX) @a1)) (wj p t) ?_;intros
   refine aR.Ir (A:=List.length τ+1) (T:=203) (N:=N) (T':=52) (k':=2) (by rw[dR];rfl) ?_
   generalize EA:aG.cZ (τ++_) (List.length τ+1) 0 _++List.replicate N (some [⟨52,2,[],none⟩])=lN
   obtain⟨n1,n2,n3,n4⟩:=P7 τ _ _ _ N lN EA.symm
   clear EA
   refine aR.rL (fun x:{σ:aG//σ.length=List.length τ+3+N}=>x.1) (List.length τ+3+N) (fun x=>x.2)
    (fun k x=>qB x.1 (List.length τ+1) (List.length τ+3) N (fun j=>p.ms t j k)/\x.1.at (List.length τ+2) 0=some ⟨208,1,[[.own (List.length τ+1) 0 N]],none⟩/\∀i,i<List.length τ->x.1.at i 0=τ.at i 0)
    (fun _ _=>False) (p.tr t) ⟨lN,n1⟩ rfl rfl ⟨n2,n3,n4⟩ (Ka p t hg K3) (fun k args h=>?_) (fun k x args ll ρ μ hk hx=>?_) (fun x μ hx=>?_) (fun _ _ _ h=>h.elim)
   ·have hk:k<p.Hl t:=by have:=(ai.1 h).1;simpa[Pp.tr]using this
    rw[Hm p t hk]at h;injection h with h;subst h;rfl
   ·obtain⟨x,mF⟩:=x
    simp only at hx|-
    obtain⟨x1,x2,x3⟩:=hx
    have me:k<p.Hl t:=by have:=(ai.1 hk).1;simpa[Pp.tr]using this
    rw[Hm p t me]at hk;injection hk with hk;subst hk
    have hhb:=zz p t hg K3
    have Ej:(p.cz t).lo+k<=(p.cz t).hi:=by unfold Pp.Hl at me;omega
    have P9:∀j:Nat,p.ms t j (k+1)=if((p.along t).lo-p.Hi ((p.cz t).lo+k))/p.pi<=j/\j<=((p.along t).hi-p.Hi ((p.cz t).lo+k))/p.pi then uY (p.ms t j k) (p.level ((p.cz t).lo+k))else p.ms t j k:=fun j=>rfl
    have HZ:=Hj p ((p.cz t).lo+k) hg (by omega) (by omega)
    have hlb:=Fe p ((p.cz t).lo+k) hg (by omega) (by omega)
    have hmi:∀j:Nat,(p.ms t j k).length<=12001/\∀s∈p.ms t j k,0<=s.hi/\s.hi<=12000:=fun j=>have h:=Nl hg K3 j k (by omega);⟨h.q9,fun s hs=>by have:=h.2 s hs;have:=h.1.ne s hs;omega⟩
    unfold Pp.row
    simp only[par]
    generalize((p.along t).lo-p.Hi ((p.cz t).lo+k))/p.pi=lo at*
    generalize((p.along t).hi-p.Hi ((p.cz t).lo+k))/p.pi=km at*
    generalize p.level ((p.cz t).lo+k)=v at*
    refine Au ?_;intros
    refine⟨⟨x,mF⟩,_,rfl,fun ox=>?_⟩
    refine Au ?_;intros
    have qX:qB x (List.length τ+1) (List.length τ+3) N (fun j=>if j<(max lo 0).toNat then p.ms t j (k+1)else p.ms t j k):=x1.congr fun j hj=>by
     try simp only
     by_cases vi:j<(max lo 0).toNat
     ·rw[if_pos vi,P9,if_neg (by omega)]
     ·rw[if_neg vi]
    refine aR.mT (α:={q:Nat×aG//q.2.length=List.length x/\max lo 0<=q.1/\(q.1=max lo 0\/q.1<=min km (p.co-1)+1)/\qB q.2 (List.length τ+1) (List.length τ+3) N (fun j=>if j<q.1 then p.ms t j (k+1)else p.ms t j k)/\
     q.2.at (List.length τ+2) 0=some ⟨208,1,[[.own (List.length τ+1) 0 N]],none⟩/\∀i,i<List.length τ->q.2.at i 0=τ.at i 0})
     [18,85,86,87,88,89,90,91,92,93,94,95,96,97,98,99,100] (fun q=>[(18,n q.1.1)]) (fun q=>q.1.2++ox::(μ++[some [⟨52,2,[[n lo,n km]],none⟩]])) (fun q=>(p.co+1-q.1.1).toNat) ⟨((max lo 0).toNat,x),rfl,by simp only;omega,by simp only;omega,qX,x2,x3⟩ ?_ rfl ?_
    ·(simp only[zN,zT,zV,zS,zU,dC,ex,bu,bN,elems,cells,scalar,dH,bL,aX,aU,bJ,bI,Nat.reduceBEq,reduceAdd,reduceSub,reduceLT,reduceLeDiff,reduceMul,reduceEqDiff,reduceIte];try simp)
     try omega
    rintro⟨⟨c,iX⟩,CL,IQ,hc2,y1,y2,y3⟩
    simp only at CL IQ hc2 y1 y2 y3
    simp only
    have bl0:List.length τ+2<List.length iX:=by omega
    have b1:∀ν,aG.at (iX++ν) 1 0=some ⟨198,10,[p.cs],none⟩:=fun ν=>by rw[cI (by omega),y3 1 l1];exact s1
    have bh:∀ν,aG.at (iX++ν) (List.length τ+2) 0=some ⟨208,1,[[.own (List.length τ+1) 0 N]],none⟩:=fun ν=>by rw[cI (by omega)];exact y2
    have bA:∀ν,aG.at (iX++ν) (List.length τ+1) 0=some ⟨203,1,(List.range N).map fun(j:Nat)=>[.own (List.length τ+3+j) 0 (if j<c then p.ms t j (k+1)else p.ms t j k).length],none⟩:=fun ν=>by rw[cI (by omega)];exact y1.1
    have bsp:∀ν,aG.at (iX++ox::(μ++ν)) (List.length x+(List.length μ+1)) 0=aG.at ν 0 0:=fun ν=>by rw[<-CL,dR,cQ,dV]
    by_cases hle:(c:Int)<=min km (p.co-1)
    ·have hcN:c<N:=by omega
     have F8:(if c<c then p.ms t c (k+1)else p.ms t c k)=p.ms t c k:=if_neg (by omega)
     have hmc:=hmi c
     have hd:=A8 iX (ox::(μ++[some [⟨52,2,[[n lo,n km]],none⟩]])) (List.length τ+1) (List.length τ+3) N c _ v y1 (by omega) hcN (by simp only[F8];have:=hmc.1;unfold Pp.Hl at me;omega) (by omega) (fun s hs=>by simp only[F8]at hs;have:=hmc.2 s hs;omega)
     refine Az (aa @bsp (aa @b1 (aa @bh (aa @bA (aa @a_ @hw))))) @HZ ?_;intros
     refine .inr (.inl ⟨_,_,_,_,rfl,fun _=>⟨hd,?_⟩,fun h=>by cases h⟩)
     rintro res σ' rfl
     refine aH ?_
     refine Au ?_;intros
     refine⟨⟨(c+1,uZ iX (List.length τ+1) (List.length τ+3) N c (fun(j:Nat)=>if j<c then p.ms t j (k+1)else p.ms t j k) v),?_,?_,?_,?_,?_,?_⟩,by simp,rfl,by simp only;omega⟩
     ·simp only;rw[Kc];exact CL
     ·simp only;omega
     ·simp only;omega
     ·refine(Kd y1 (by omega) hcN).congr fun j hj=>?_
      simp only[F8]
      by_cases uP:j=c
      ·subst uP
       rw[if_pos (by omega),if_pos rfl,P9,if_pos (by omega)]
      ·rw[if_neg uP]
       by_cases vi:j<c
       ·rw[if_pos (by omega),if_pos vi]
       ·rw[if_neg (by omega),if_neg vi]
     ·simp only;refine Eq.trans (Ff ?_ ?_) y2<;>omega
     ·intro i hi;simp only;refine Eq.trans (Ff ?_ ?_) (y3 i hi)<;>omega
    ·refine Ax (aa @bsp (aa @b1 @hw)) ?_;intros
     refine⟨⟨iX,by omega⟩,[],by simp,y1.congr fun j hj=>?_,y2,y3⟩
     by_cases vi:j<c
     ·rw[if_pos vi]
     ·rw[if_neg vi,P9,if_neg (by omega)]
   ·obtain⟨x,mF⟩:=x
    simp only at hx|-
    obtain⟨x1,x2,x3⟩:=hx
    have hlen:(p.tr t).length=p.Hl t:=by simp[Pp.tr]
    rw[hlen]at x1
    obtain⟨G,hG⟩:∃G,G=List.length τ+3:=⟨_,rfl⟩
    rw[<-hG]at x1
    replace x1:qB x (List.length τ+1) G N (fun j=>p.ot t j):=x1
    have K7:=(hS.wJ x3).app μ
    have xl2:List.length τ+2<List.length x:=by omega
    have c2:aG.at (x++μ) 2 0=some (Dz N vl bs):=K7.o2
    refine Ax (aa @c2 @a_) ?_;intros
    refine aR.mT (α:={q:Nat×aG×(Nat->AV)//q.1<=N/\DA p N bs q.2.1 q.2.2 (fun j=>if j<q.1 then oE p (l.take (i+1)) j else oE p (l.take i) j)/\qB q.2.1 (List.length τ+1) G N (fun j=>p.ot t j)/\
     q.2.1.at (List.length τ+2) 0=some ⟨208,1,[[.own (List.length τ+1) 0 N]],none⟩})
     [104] (fun q=>[(104,n q.1.1)]) (fun q=>q.1.2.1) (fun q=>N-q.1.1) ⟨(0,x++μ,vl),aQ _,⟨K7.o0,K7.o1,K7.o2,fun j hj=>K7.row j hj⟩,x1.app μ,by rw[cI xl2];exact x2⟩ ?_ rfl ?_
    ·exact Sb_
    rintro⟨⟨c,iX,Ke⟩,hc,z1,z2,z3⟩
    simp only at hc z1 z2 z3
    simp only
    have d2:=z1.o2
    have dA:=z2.1
    by_cases my:c<N
    ·have zF:((List.range N).map fun(j:Nat)=>[Ke j,bl (decide ((j:Int)∈bs))]).getD c []=[Ke c,bl (decide ((c:Int)∈bs))]:=gG _ my
     have W3:((List.range N).map fun(j:Nat)=>[AV.own (G+j) 0 (p.ot t j).length]).getD c []=[.own (G+c) 0 (p.ot t c).length]:=gG _ my
     have Ns:=Dx (p:=p) (c:=c) hg (fun u hu=>lO u (dx (i:=i) hu))
     have TZ:=BV (c:=c) hg K3
     have xM:=Ns.q9
     have aa':=TZ.q9
     have hd:=P4 iX 2 N c (Dz N Ke bs) (Ke c) [bl (decide ((c:Int)∈bs))] (oE p (l.take i) c) (p.ot t c,some (G+c)) d2 (by simp) my rfl zF rfl
      (by have:=z1.row c my;rw[if_neg (by omega)]at this;exact this) (z2.2 c my)
      (fun u hu=>by
       rcases bm.1 hu with hu|hu
       ·exact⟨Ns.1.ne u hu,Ns.bd u hu⟩
       ·exact⟨TZ.1.ne u hu,TZ.bd u hu⟩) (by simp only;omega) (jI (oE p (l.take i) c) (p.ot t c)) (nW Ns.1) (fun v=>pF Ns.1 v)
     refine Ax (aa @d2 (aa @dA (aa @z3 (aa @zF (aa @W3 @a_))))) ?_;intros
     refine .inr (.inl ⟨_,_,_,_,rfl,fun _=>⟨hd,?_⟩,fun h=>by cases h⟩)
     rintro res σ' ⟨G',Yf,f2,f3,f4,f5⟩
     refine aH ?_
     refine Au ?_;intros
     have hA:=dU z2.1
     have hH:=dU z3
     have Yw:2<List.length τ:=l2
     refine⟨⟨(c+1,σ',fun j=>if j=c then .own G' 0 (jI (oE p (l.take i) c) (p.ot t c)).length else Ke j),my,⟨?_,?_,?_,?_⟩,?_,?_⟩,by simp,rfl,by simp only;omega⟩
     ·exact(f4 0 0 (dU z1.o0) (by decide)).trans z1.o0
     ·exact(f4 1 0 (dU z1.o1) (by decide)).trans z1.o1
     ·simp only
      rw[f2]
      simp only[kg,Dz]
      rw[kZ]
      refine congrArg (fun z=>some (⟨205,2,z,none⟩:Ob)) (ea fun j hj=>?_)
      by_cases uP:j=c
      ·subst uP;simp
      ·simp[uP]
     ·intro j hj
      simp only
      by_cases uP:j=c
      ·subst uP
       rw[if_pos rfl,if_pos (by omega),Kb DX]
       exact .inr ⟨(_,some G'),rfl,rfl,f3⟩
      ·rw[if_neg uP]
       have K8:=z1.row j hj
       have PR:(if j<c+1 then oE p (l.take (i+1)) j else oE p (l.take i) j)=(if j<c then oE p (l.take (i+1)) j else oE p (l.take i) j):=by
        by_cases vi:j<c
        ·rw[if_pos (by omega),if_pos vi]
        ·rw[if_neg (by omega),if_neg vi]
       rw[PR]
       refine K8.frame fun g o ho hT=>?_
       rw[f4 g 0 (dU ho) (by rintro rfl;rw[d2]at ho;injection ho with ho;subst ho;cases hT)];exact ho
     ·exact z2.frame (f4 _ 0 hA (by omega)) fun j hj=>f4 _ 0 (dU (z2.2 j hj)) (by omega)
     ·exact(f4 _ 0 hH (by omega)).trans z3
    ·obtain rfl:c=N:=by omega
     refine Au ?_;intros
     refine⟨⟨(i+1,iX,Ke),qz,⟨z1.o0,z1.o1,z1.o2,fun j hj=>?_⟩⟩,by simp,rfl,by simp only;omega⟩
     have:=z1.row j hj
     rw[if_pos hj]at this;exact this
  ·obtain rfl:i=l.length:=by omega
   have Gm:DA p N bs τ vl (fun j=>oE p l j):=⟨hS.o0,hS.o1,hS.o2,fun j hj=>by have:=hS.row j hj;simp only[aI]at this;exact this⟩
   have s0:=hS.o0
   have s2:=hS.o2
   have e2:∀ν,aG.at (τ++ν) 2 0=some (Dz N vl bs):=fun ν=>by rw[cI l2];exact s2
   have hX:Nq p l bs=(List.range N).map (qA p l bs):=by unfold Nq;rw[P8]
   rw[hX]
   refine Ax (aa @P8 (aa @e2 @a_)) ?_;intros
   refine aR.mT (α:={q:Nat×aG×(Nat->AV)//q.1<=N/\q.2.1.at 0 0=some ⟨108,1,[[.v (.slice none 0 0)]],none⟩/\q.2.1.at 2 0=some (Dz N vl bs)/\q.2.1.at (List.length τ) 0=some ⟨56,1,(List.range N).map fun(j:Nat)=>[q.2.2 j],none⟩/\
    q.2.1.at (List.length τ+1) 0=some ⟨108,1,[[.own (List.length τ) 0 N]],none⟩/\(∀j,j<N->rC q.2.1 (vl j) (oE p l j))/\(∀j,j<N->j<q.1->rC q.2.1 (q.2.2 j) (qA p l bs j)/\(qA p l bs j).length<=8)/\∀j,j<N->q.1<=j->q.2.2 j=.v (.slice none 0 0)})
    [125] (fun q=>[(125,n q.1.1)]) (fun q=>q.1.2.1) (fun q=>N-q.1.1)
    ⟨(0,τ++[some [⟨56,1,List.replicate N [.v (.slice none 0 0)],none⟩],some [⟨108,1,[[.own (List.length τ) 0 N]],none⟩]],fun _=>.v (.slice none 0 0)),aQ _,by rw[cI l0];exact s0,e2 _,by rw[dV,BW];rfl,by rw[dR];rfl,fun j hj=>(Gm.row j hj).app _,fun j _ h=>absurd h (aN _),fun j _ _=>rfl⟩ ?_ rfl ?_
   ·exact Sb_
   rintro⟨⟨c,iX,out⟩,hc,w0,w2,wB,wH,wr,wd,wn⟩
   simp only at hc w0 w2 wB wH wr wd wn
   simp only
   have e0:∀ν,aG.at (iX++ν) 0 0=some ⟨108,1,[[.v (.slice none 0 0)]],none⟩:=fun ν=>by rw[cI (dU w0)];exact w0
   have UM:∀ν,aG.at (iX++ν) 2 0=some (Dz N vl bs):=fun ν=>by rw[cI (dU w2)];exact w2
   have eB:∀ν,aG.at (iX++ν) (List.length τ) 0=some ⟨56,1,(List.range N).map fun(j:Nat)=>[out j],none⟩:=fun ν=>by rw[cI (dU wB)];exact wB
   have eH:∀ν,aG.at (iX++ν) (List.length τ+1) 0=some ⟨108,1,[[.own (List.length τ) 0 N]],none⟩:=fun ν=>by rw[cI (dU wH)];exact wH
   by_cases my:c<N
   ·have P_:((List.range N).map fun(j:Nat)=>[out j]).getD c []=[out c]:=gG _ my
    by_cases p9:(c:Int)∈bs
    ·have zF:((List.range N).map fun(j:Nat)=>[vl j,bl (decide ((j:Int)∈bs))]).getD c []=[vl c,bl true]:=by rw[gG _ my,decide_eq_true p9]
     refine Ax (aa @w0 (aa @w2 (aa @e0 (aa @UM (aa @eB (aa @eH (aa @zF (aa @P_ @a_)))))))) ?_;intros
     refine⟨⟨(c+1,_,out),my,e0 _,UM _,eB _,eH _,fun j hj=>(wr j hj).app _,fun j hj uP=>?_,fun j hj uP=>wn j hj (by omega)⟩,by simp,rfl,by simp only;omega⟩
     by_cases vi:j<c
     ·exact⟨(wd j hj vi).1.app _,(wd j hj vi).2⟩
     ·obtain rfl:j=c:=by omega
      have e:qA p l bs j=[]:=by unfold qA;rw[if_pos p9]
      rw[e]
      exact⟨.inl ⟨wn j hj (by omega),rfl⟩,by simp⟩
    ·have zF:((List.range N).map fun(j:Nat)=>[vl j,bl (decide ((j:Int)∈bs))]).getD c []=[vl c,bl false]:=by rw[gG _ my,decide_eq_false p9]
     have eI:qA p l bs c=oE p l c:=by unfold qA;rw[if_neg p9]
     have Rg:=Dx (p:=p) (c:=c) hg lO
     have Oi:=Rg.q9
     have PQ:∀e:AV,e=.iu [.agg [.v (.slice none 0 0)],n 2]->8<(oE p l c).length->∀σ,bO σ e (.iu [Cy (lim ((List.range N).map (qA p l bs))).1,n (lim ((List.range N).map (qA p l bs))).2]):=fun e he h8 σ=>by
      have hm:many ((List.range N).map (qA p l bs))=true:=by
       rw[many,eb]
       exact⟨qA p l bs c,aO.2 ⟨c,bc.2 my,rfl⟩,by rw[eI];simp;exact h8⟩
      rw[he]
      simp only[lim,hm,cond_true]
      exact rD 2
     have lh:(oE p l c).length<=8->∀ν:aG,∃y:{q:Nat×aG×(Nat->AV)//q.1<=N/\q.2.1.at 0 0=some ⟨108,1,[[.v (.slice none 0 0)]],none⟩/\q.2.1.at 2 0=some (Dz N vl bs)/\q.2.1.at (List.length τ) 0=some ⟨56,1,(List.range N).map fun(j:Nat)=>[q.2.2 j],none⟩/\
      q.2.1.at (List.length τ+1) 0=some ⟨108,1,[[.own (List.length τ) 0 N]],none⟩/\(∀j,j<N->rC q.2.1 (vl j) (oE p l j))/\(∀j,j<N->j<q.1->rC q.2.1 (q.2.2 j) (qA p l bs j)/\(qA p l bs j).length<=8)/\∀j,j<N->q.1<=j->q.2.2 j=.v (.slice none 0 0)},
      y.1.1=c+1/\y.1.2.1=aG.cZ (iX++ν) (List.length τ) 0 ⟨56,1,((List.range N).map fun(j:Nat)=>[out j]).set c [vl c],none⟩:=fun h8 ν=>by
      have hold:∀i,i≠List.length τ->aG.at (aG.cZ (iX++ν) (List.length τ) 0 ⟨56,1,((List.range N).map fun(j:Nat)=>[out j]).set c [vl c],none⟩) i 0=aG.at (iX++ν) i 0:=fun i hi=>cx (.inl fun e=>hi e.symm)
      have HS:∀x s,rC iX x s->rC (aG.cZ (iX++ν) (List.length τ) 0 ⟨56,1,((List.range N).map fun(j:Nat)=>[out j]).set c [vl c],none⟩) x s:=fun x s hx=>(hx.app ν).frame fun g o ho hT=>by
       rw[hold g (by rintro rfl;rw[eB]at ho;injection ho with ho;subst ho;cases hT)];exact ho
      refine⟨⟨(c+1,_,fun j=>if j=c then vl c else out j),my,(hold 0 (by omega)).trans (e0 ν),(hold 2 (by omega)).trans (UM ν),?_,(hold _ (by omega)).trans (eH ν),fun j hj=>HS _ _ (wr j hj),fun j hj uP=>?_,fun j hj uP=>?_⟩,rfl,rfl⟩
      ·refine(cu (eB ν)).trans ?_
       rw[kZ]
       refine congrArg (fun z=>some (⟨56,1,z,none⟩:Ob)) (ea fun j hj=>?_)
       by_cases uP:j=c
       ·simp[uP]
       ·simp[uP]
      ·simp only
       by_cases vi:j<c
       ·rw[if_neg (by omega)]
        exact⟨HS _ _ (wd j hj vi).1,(wd j hj vi).2⟩
       ·obtain rfl:j=c:=by simp only at uP;omega
        rw[if_pos rfl,eI]
        exact⟨HS _ _ (wr j hj),h8⟩
      ·simp only at uP|-
       rw[if_neg (by omega)];exact wn j hj (by omega)
     have hrc:=wr c my
     have Rb:∀ν o,aG.at (aG.cZ (iX++ν) 0 0 o) 0 0=some o:=fun ν o=>cu (e0 ν)
     generalize hS:oE p l c=S at*
     rcases hrc with⟨vf,nM⟩|⟨⟨lq,g⟩,vf,nM,W4⟩
     ·rw[vf]at zF lh
      rw[nM]at lh
      refine Ax (aa @w0 (aa @w2 (aa @e0 (aa @UM (aa @eB (aa @eH (aa @zF (aa @P_ @a_)))))))) ?_;intros
      obtain⟨y,y1,y2⟩:=lh (by simp) _
      exact⟨y,by rw[y1];simp,y2.symm,by rw[y1];omega⟩
     ·simp only at nM
      subst nM
      cases g with
      |none=>
       simp only[JR]at vf
       rw[vf]at zF lh
       (refine Ax (aa @Rb (aa @w0 (aa @w2 (aa @e0 (aa @UM (aa @eB (aa @eH (aa @zF (aa @P_ @a_))))))))) ?_ (CM ?_)<;>intros)
       ·rename_i h
        exact PQ _ rfl (by omega) _
       ·rename_i h
        obtain⟨y,y1,y2⟩:=lh (by omega) _
        exact⟨y,by rw[y1];simp,y2.symm,by rw[y1];omega⟩
      |some g=>
       have eG:∀ν,aG.at (iX++ν) g 0=some (jJ lq):=fun ν=>by rw[cI (dU W4)];exact W4
       simp only[JR]at vf
       rw[vf]at zF lh
       (refine Ax (aa @Rb (aa @w0 (aa @w2 (aa @e0 (aa @UM (aa @eB (aa @eH (aa @eG (aa @zF (aa @P_ @a_)))))))))) ?_ (CM ?_)<;>intros)
       ·rename_i h
        exact PQ _ rfl (by omega) _
       ·rename_i h
        obtain⟨y,y1,y2⟩:=lh (by omega) _
        exact⟨y,by rw[y1];simp,y2.symm,by rw[y1];omega⟩
   ·obtain rfl:N=c:=by omega
    have hm:many ((List.range N).map (qA p l bs))=false:=zA.2 fun x hx=>by
     obtain⟨j,hj,rfl⟩:=aO.1 hx
     have hj:=bc.1 hj
     exact(wd j hj hj).2
    simp only[lim,hm,cond_false]
    (repeat' ((first|refine vn rfl ?_|simp(disch:=omega) only[cB,aj]|refine bo (fun _=>?_) fun _=>?_|refine im fun _=>?_|refine cF ?_|refine om ?_|refine an ?_|fail)<;>try simp only[zN,zT,zV,zS,zU,dC,ex,bu,bN,elems,cells,scalar,dH,bL,aX,aU,bJ,bI,Nat.reduceBEq,reduceAdd,reduceSub,reduceLT,reduceLeDiff,reduceMul,reduceEqDiff,reduceIte,w0,wH,cu w0]))
    all_goals try(exfalso;omega)
    have iw:List.length τ≠0:=by omega
    have UI:bO (iX.cZ 0 0 ⟨108,1,[[.own (List.length τ) 0 N]],none⟩) (.own (List.length τ) 0 N) (Ho ((List.range N).map (qA p l bs))):=by
     refine Nr (c:=out) (S:=qA p l bs) (by rw[cx (.inl fun e=>iw e.symm)];exact wB) fun j hj=>?_
     refine(wd j hj hj).1.frame fun g o ho hT=>?_
     rw[cx (.inl (by rintro rfl;rw[w0]at ho;injection ho with ho;subst ho;cases hT))];exact ho
    refine bO.iu rfl fun i hi=>?_
    match i,hi with
    |0,_=>exact bO.agg rfl fun i hi=>(by match i,hi with|0,_=>exact UI)
    |1,_=>exact Fq
end Go.Proofs.YtgopgjnfhkoomaaGreat
