/- Part 18 of the texts: abstract values over the walk; contracts. -/
import Derived.Test.YtgopgjnfhkoomaaGreatBu8
import Derived.Test.YtgopgjnfhkoomaaGreatBu10
import Derived.Test.YtgopgjnfhkoomaaGreatRows
set_option linter.unusedVariables false
set_option linter.unusedSimpArgs false
namespace Go.Abs
theorem Nw{l:List Sp}:Norm l↔(∀s∈l,s.lo<=s.hi)/\l.Pairwise fun s t=>s.hi+1<t.lo:=by
 induction l with
 |nil=>simp[Norm]
 |cons s r ih=>
  simp only[Norm,ih,aC,ct,forall_eq_or_imp]
  constructor
  ·rintro⟨a,b,c,d⟩;exact⟨⟨a,c⟩,b,d⟩
  ·rintro⟨⟨a,c⟩,b,d⟩;exact⟨a,b,c,d⟩
def CZ(b:List Sp)(s:Sp):List Sp:=(b.map s.cap).filter fun x=>decide (x.lo<=x.hi)
def A4(a b:List Sp):List Sp:=a.flatMap (CZ b)
theorem Dm{b:List Sp}{s x:Sp}:x∈CZ b s↔∃t∈b,x=s.cap t/\x.lo<=x.hi:=by
 unfold CZ
 rw[cM,aO,decide_eq_true_eq]
 constructor
 ·rintro⟨⟨t,h,rfl⟩,h2⟩;exact⟨t,h,rfl,h2⟩
 ·rintro⟨t,h,rfl,h2⟩;exact⟨⟨t,h,rfl⟩,h2⟩
theorem Qb{a b:List Sp}(v:Int):Mem v (A4 a b)↔Mem v a/\Mem v b:=by
 unfold Mem A4
 constructor
 ·rintro⟨x,hx,h1,h2⟩
  obtain⟨s,hs,hx⟩:=fc.1 hx
  obtain⟨t,ht,rfl,h3⟩:=Dm.1 hx
  simp only at h1 h2
  exact⟨⟨s,hs,by omega,by omega⟩,t,ht,by omega,by omega⟩
 ·rintro⟨⟨s,hs,h1,h2⟩,t,ht,h3,h4⟩
  exact⟨s.cap t,fc.2 ⟨s,hs,Dm.2 ⟨t,ht,rfl,by simp only;omega⟩⟩,by simp only;omega,by simp only;omega⟩
theorem Rn{a b:List Sp}(ha:Norm a)(hb:Norm b):Norm (A4 a b):=by
 rw[Nw]at*
 refine⟨fun x hx=>?_,?_⟩
 ·obtain⟨s,_,hx⟩:=fc.1 hx
  obtain⟨t,_,_,h⟩:=Dm.1 hx
  exact h
 ·unfold A4
  rw[List.pairwise_flatMap]
  refine⟨fun s _=>?_,ha.2.imp fun h x hx y hy=>?_⟩
  ·unfold CZ
   refine List.Pairwise.filter _ (lM.2 (hb.2.imp fun h=>?_))
   simp only;omega
  ·obtain⟨t,_,rfl,_⟩:=Dm.1 hx
   obtain⟨t',_,rfl,_⟩:=Dm.1 hy
   simp only;omega
theorem aaq{α:Type} [DecidableEq α]:∀{l m:List α},l.Nodup->(∀x∈l,x∈m)->l.length<=m.length
 | [],_,_,_=>aQ _
 |x::r,m,h,hs=>by
  rw[eU]at h
  have hx:=hs x (by simp)
  have:=aaq (l:=r) (m:=m.erase x) h.2 fun y hy=>(List.mem_erase_of_ne (fun(e:y=x)=>h.1 (e▸hy))).2 (hs y (by simp[hy]))
  rw[List.length_erase_of_mem hx]at this
  have:=List.length_pos_of_mem hx
  simp only[bf];omega
theorem ab4{a b:List Sp}(ha:Norm a)(hb:Norm b):(A4 a b).length<=a.length+b.length:=by
 have hn:=Nw.1 (Rn ha hb)
 have:=aaq (l:=(A4 a b).map (·.hi)) (m:=a.map (·.hi)++b.map (·.hi)) (lM.2 ?_) fun x hx=>?_
 ·simpa using this
 ·refine hn.2.imp_of_mem fun hx hy h e=>?_
  have:=hn.1 _ hy
  omega
 ·obtain⟨y,hy,rfl⟩:=aO.1 hx
  obtain⟨s,hs,hy⟩:=fc.1 hy
  obtain⟨t,ht,rfl,_⟩:=Dm.1 hy
  simp only[bm,aO]
  rcases Int.le_total s.hi t.hi with h|h
  ·exact .inl ⟨s,hs,by show s.hi=min s.hi t.hi;omega⟩
  ·exact .inr ⟨t,ht,by show t.hi=min s.hi t.hi;omega⟩
def CE(l:List Sp)(d:Int):List Sp:=l.map fun s=>⟨s.lo+d,s.hi+d⟩
theorem RN{l:List Sp}{d v:Int}:Mem v (CE l d)↔Mem (v-d) l:=by
 unfold Mem CE
 constructor
 ·rintro⟨x,hx,h1,h2⟩
  obtain⟨s,hs,rfl⟩:=aO.1 hx
  simp only at h1 h2
  exact⟨s,hs,by omega,by omega⟩
 ·rintro⟨s,hs,h1,h2⟩
  exact⟨_,aO.2 ⟨s,hs,rfl⟩,by simp only;omega,by simp only;omega⟩
theorem Q3{l:List Sp}(h:Norm l)(d:Int):Norm (CE l d):=by
 rw[Nw]at*
 refine⟨fun x hx=>?_,lM.2 (h.2.imp fun h=>by simp only;omega)⟩
 obtain⟨s,hs,rfl⟩:=aO.1 hx
 have:=h.1 s hs
 simp only;omega
def part(l:List Sp)(j:Nat):List Sp:=(l.drop (50*j)).take 50
theorem XG{l:List Sp}(h:Norm l)(j:Nat):Norm (part l j):=by
 rw[Nw]at*
 have hs:(part l j).Sublist l:=(xd _ _).trans (List.drop_sublist _ _)
 exact⟨fun s hm=>h.1 s (hs.subset hm),h.2.sublist hs⟩
theorem aar(l:List Sp)(j:Nat):(part l j).length<=50:=by unfold part;rw[bH];omega
def parts(l:List Sp):Nat:=(l.length+49)/50
theorem ab'{l:List Sp}{v:Int}(h:Mem v l):∃j,j<parts l/\Mem v (part l j):=by
 obtain⟨s,hs,h1⟩:=h
 obtain⟨i,hi,rfl⟩:=iB hs
 refine⟨i/50,by unfold parts;omega,l[i],?_,h1⟩
 have:(part l (i/50))[i % 50]?=some l[i]:=by
  unfold part
  rw[List.getElem?_take_of_lt (by omega),ez,show 50*(i/50)+i % 50=i by omega,ae hi]
 exact ao this
def aeV:List Value:=List.replicate 1026 (.int .i64 0)++[.slice none 0 0]
theorem aca:∀l:List Value,vs l=l.map .v
 | []=>rfl
 |x::r=>by rw[vs,aca r];rfl
theorem acN:vs aeV=List.replicate 1026 (.v (.int .i64 0))++[.v (.slice none 0 0)]:=by
 rw[aca,aeV,di,List.map_replicate];rfl
def WG(x y z:Int):Int:=max (max (min x y) (min y z)) (min x z)
def CV(l h:Int):Int:=l+(l*h).tdiv 8000
theorem Kh{l l' h h':Int}(h0:0<=l)(h1:l<=l')(h2:0<=h)(h3:h<=h'):CV l h<=CV l' h':=by
 unfold CV
 have e:l*h<=l'*h':=Int.mul_le_mul h1 h3 h2 (by omega)
 have e0:0<=l*h:=Int.mul_nonneg h0 h2
 rw[k8 e0,k8 (by omega)]
 omega
theorem XR{l h:Int}(h0:0<=l)(h1:l<=12000)(h2:0<=h)(h3:h<=4000):0<=CV l h/\CV l h<=18000:=by
 have a:=Kh (eZ 0) h0 (eZ 0) h2
 have b:=Kh h0 h1 h2 h3
 have e:CV 0 0=0:=by decide
 have e2:CV 12000 4000=18000:=by decide
 omega
theorem aaG{x y z h:Int}(hx:0<=x)(hy:0<=y)(hz:0<=z)(hh:0<=h):CV (WG x y z) h=WG (CV x h) (CV y h) (CV z h):=by
 have m:∀a b,0<=a->a<=b->CV a h<=CV b h:=fun a b h1 h2=>Kh h1 h2 hh (eZ _)
 have e:(WG x y z=x\/WG x y z=y\/WG x y z=z):=by unfold WG;omega
 have xy:=m x y hx;have yx:=m y x hy;have yz:=m y z hy;have zy:=m z y hz;have xz:=m x z hx;have zx:=m z x hz
 rcases e with e|e|e<;>rw[e]<;>unfold WG at* <;>omega
structure Sol(N:Nat)(lo hi:Nat->Int)(b:Nat->Nat->Int)(u:Nat->Int):Prop where
 lo:∀i,i<N->lo i<=u i
 hi:∀i,i<N->u i<=hi i
 bd:∀i k,i<N->k<N->u i-u k<=b i k
theorem Sol.WG{N:Nat}{H:Nat->Sp}{A B C u v w:Nat->Int}{b:Nat->Nat->Int}(hH:∀i,i<N->0<=(H i).lo/\0<=(H i).hi)(hA:∀i,i<N->0<=A i/\0<=B i/\0<=C i)(h1:Sol N (fun i=>CV (A i) (H i).lo) (fun i=>CV (A i) (H i).hi) b u)(h2:Sol N (fun i=>CV (B i) (H i).lo) (fun i=>CV (B i) (H i).hi) b v)(h3:Sol N (fun i=>CV (C i) (H i).lo) (fun i=>CV (C i) (H i).hi) b w):Sol N (fun i=>CV (WG (A i) (B i) (C i)) (H i).lo) (fun i=>CV (WG (A i) (B i) (C i)) (H i).hi) b (fun i=>WG (u i) (v i) (w i)):=by
 refine⟨fun i hi=>?_,fun i hi=>?_,fun i k hi hk=>?_⟩
 ·obtain⟨a1,a2,a3⟩:=hA i hi
  try simp only
  rw[aaG a1 a2 a3 (hH i hi).1]
  have:=h1.lo i hi;have:=h2.lo i hi;have:=h3.lo i hi
  unfold Go.Abs.WG;omega
 ·obtain⟨a1,a2,a3⟩:=hA i hi
  try simp only
  rw[aaG a1 a2 a3 (hH i hi).2]
  have:=h1.hi i hi;have:=h2.hi i hi;have:=h3.hi i hi
  unfold Go.Abs.WG;omega
 ·have:=h1.bd i k hi hk;have:=h2.bd i k hi hk;have:=h3.bd i k hi hk
  unfold Go.Abs.WG;omega
structure aeT(N:Nat)(b M:Nat->Nat->Int):Prop where
 nn:∀i k,i<N->k<N->0<=M i k
 le:∀i k,i<N->k<N->M i k<=b i k
 ti:∀u:Nat->Int,(∀i k,i<N->k<N->u i-u k<=b i k)->∀i k,i<N->k<N->u i-u k<=M i k
theorem aeT.step{N:Nat}{b M M':Nat->Nat->Int}(h:aeT N b M){i j k:Nat}(hi:i<N)(hj:j<N)(hk:k<N)(e:∀x y,M' x y=if x=i/\y=j then min (M i j) (M i k+M k j)else M x y):aeT N b M':=by
 refine⟨fun x y hx hy=>?_,fun x y hx hy=>?_,fun u hu x y hx hy=>?_⟩
 ·have:=h.nn x y hx hy;have:=h.nn i j hi hj;have:=h.nn i k hi hk;have:=h.nn k j hk hj
  rw[e];split<;>omega
 ·have:=h.le x y hx hy
  rw[e];split
  ·rename_i q;obtain⟨rfl,rfl⟩:=q;omega
  ·exact this
 ·have:=h.ti u hu x y hx hy;have:=h.ti u hu i k hi hk;have:=h.ti u hu k j hk hj
  rw[e];split
  ·rename_i q;obtain⟨rfl,rfl⟩:=q;omega
  ·assumption
def room(B:Int)(l:List Int):Nat:=(l.map fun x=>(B-x).toNat).sum
theorem Tf{B v:Int}:∀{l:List Int} {i:Nat},i<l.length->l.getD i 0<v->v<=B->room B (l.set i v)<room B l
 | [],_,h,_,_=>absurd h (aN _)
 |x::r,0,_,h1,h2=>by
  simp only[dF]at h1
  simp only[room,List.set_cons_zero,bq,List.sum_cons];omega
 |x::r,i+1,h,h1,h2=>by
  have:=Tf (l:=r) (i:=i) (by simpa using h) (by simpa using h1) h2
  simp only[room,List.set_cons_succ,bq,List.sum_cons]at*;omega
theorem CN{l:List Int}{i j:Nat}{v:Int}(h:i<l.length):(l.set i v).getD j 0=if i=j then v else l.getD j 0:=by
 rw[ab,bX]
 by_cases e:i=j
 ·subst e;simp[h]
 ·simp[e,ab]
end Go.Abs
namespace Go.Proofs.YtgopgjnfhkoomaaGreat
open Go.Abs
open Nat (reduceAdd reduceSub reduceLT reduceLeDiff reduceMul reduceEqDiff)
set_option maxHeartbeats 4000000
set_option maxRecDepth 100000
def sqT(a b:j3):Int:=(a.x-b.x)*(a.x-b.x)+(a.y-b.y)*(a.y-b.y)
structure IsD(m d:Int):Prop where
 d0:0<=d
 ge:m<=d*d
 lt:∀j,0<=j->j<d->j*j<m
theorem acb(m:Int):∀k:Nat,(∃d:Int,d<=k/\IsD m d)\/∀j:Int,0<=j->j<=k->j*j<m
 |0=>by
  by_cases h:m<=0
  ·exact .inl ⟨0,by simp,by simp,by simpa using h,fun j h1 h2=>by omega⟩
  ·refine .inr fun j h1 h2=>?_
   obtain rfl:j=0:=by omega
   omega
 |k+1=>by
  rcases acb m k with⟨d,h1,h2⟩|h
  ·exact .inl ⟨d,by omega,h2⟩
  ·by_cases hm:m<=((k:Int)+1)*((k:Int)+1)
   ·exact .inl ⟨(k:Int)+1,by omega,by omega,hm,fun j h1 h2=>h j h1 (by omega)⟩
   ·refine .inr fun j h1 h2=>?_
    by_cases e:j<=k
    ·exact h j h1 e
    ·obtain rfl:j=(k:Int)+1:=by omega
     omega
noncomputable def WU(m:Int):Int:=by
 classical exact if h:∃d:Int,d<=2829/\IsD m d then Classical.choose h else 0
theorem acd{m:Int}(h:m<=8000000):WU m<=2829/\IsD m (WU m):=by
 have hx:∃d:Int,d<=2829/\IsD m d:=by
  rcases acb m 2829 with h'|h'
  ·exact h'
  ·have:=h' 2829 (by omega) (by omega)
   omega
 unfold WU
 rw[dif_pos hx]
 exact Classical.choose_spec hx
theorem abU{x:Int}(h1:-2000<=x)(h2:x<=2000):0<=x*x/\x*x<=4000000:=by
 have h:=yG (a:=(x.natAbs:Int)) (b:=(x.natAbs:Int)) (A:=2000) (B:=2000) (by omega) (by omega) (by omega) (by omega)
 rw[Int.natAbs_mul_self']at h
 omega
theorem ace(a b:j3):sqT a b=sqT b a:=by
 unfold sqT
 rw[<-Int.neg_mul_neg (a.x-b.x),<-Int.neg_mul_neg (a.y-b.y),Int.neg_sub,Int.neg_sub]
abbrev abH(s:j3):Prop:=inr s.x 0 2000/\inr s.y 0 2000
theorem WV(a b:j3)(ha:abH a)(hb:abH b):Pure Tryz.prog 279 [.agg a.cs,.agg b.cs] (n (WU (sqT a b))):=by
 refine jX Tryz.f279.eq_1 [] [.l [5,6,7],.d 12] ?_
 obtain⟨⟨a1,a2⟩,a3,a4⟩:=ha
 obtain⟨⟨b1,b2⟩,b3,b4⟩:=hb
 obtain⟨X,hX⟩:∃X,X=a.x-b.x:=⟨_,rfl⟩
 obtain⟨Y,hY⟩:∃Y,Y=a.y-b.y:=⟨_,rfl⟩
 obtain⟨m,hm⟩:∃m,m=sqT a b:=⟨_,rfl⟩
 have hXX:=abU (x:=X) (by omega) (by omega)
 have hYY:=abU (x:=Y) (by omega) (by omega)
 have OY:m=X*X+Y*Y:=by rw[hm,hX,hY];rfl
 have hD:=acd (m:=m) (by omega)
 rw[<-hm]
 obtain⟨D,hDe⟩:∃D,D=WU m:=⟨_,rfl⟩
 rw[<-hDe]at hD|-
 have e1:IntKind.wrap .i64 (a.x-b.x)=X:=by rw[cB _ (by omega) (by omega),hX]
 have e2:IntKind.wrap .i64 (a.y-b.y)=Y:=by rw[cB _ (by omega) (by omega),hY]
 have e3:IntKind.wrap .i64 (X*X)=X*X:=cB _ (by omega) (by omega)
 have e4:IntKind.wrap .i64 (Y*Y)=Y*Y:=cB _ (by omega) (by omega)
 have e5:IntKind.wrap .i64 (X*X+Y*Y)=m:=by rw[cB _ (by omega) (by omega),OY]
 have hD0:=hD.2.d0
 refine Ax (aa @e1 @e2) ?_;intros
 refine aR.lr (α:={k:Nat//(k:Int)<=D}) [7] (fun k=>[(7,n k.1)]) (fun _=>[]) (fun k=>D.toNat-k.1) ⟨0,by omega⟩ ?_
 rintro⟨k,hk⟩
 have vg:=yG (a:=(k:Int)) (b:=(k:Int)) (A:=2829) (B:=2829) (by omega) (by omega) (by omega) (by omega)
 have e6:IntKind.wrap .i64 ((k:Int)*(k:Int))=(k:Int)*(k:Int):=cB _ (by omega) (by omega)
 by_cases bP:(k:Int)<D
 ·have h1:=hD.2.lt k (by omega) bP
  refine Ax (aa @e3 (aa @e4 (aa @e5 @e6))) ?_;intros
  exact⟨⟨k+1,by omega⟩,by simp,by simp only;omega⟩
 ·obtain rfl:(k:Int)=D:=by omega
  have h1:=hD.2.ge
  refine Ax (aa @e3 (aa @e4 (aa @e5 @e6))) ?_;intros
  exact Fq
noncomputable def G2(fx ea:Int)(a b:j3):Int:=if a.id=b.id then 0 else fx+(ea*WU (sqT a b)).tdiv 100
theorem acf(fx ea:Int)(a b:j3):G2 fx ea a b=G2 fx ea b a:=by
 unfold G2
 rw[ace a b]
 by_cases h:a.id=b.id
 ·rw[if_pos h,if_pos h.symm]
 ·rw[if_neg h,if_neg fun e=>h e.symm]
abbrev abI(fx ea:Int):Prop:=inr fx 0 12000/\inr ea 0 10000
theorem XS{fx ea:Int}{a b:j3}(hw:abI fx ea)(ha:abH a)(hb:abH b):0<=G2 fx ea a b/\G2 fx ea a b<=300000/\(0<=ea*WU (sqT a b)/\ea*WU (sqT a b)<=28290000):=by
 obtain⟨⟨w1,w2⟩,w3,w4⟩:=hw
 obtain⟨⟨a1,a2⟩,a3,a4⟩:=ha
 obtain⟨⟨b1,b2⟩,b3,b4⟩:=hb
 have h1:=abU (x:=a.x-b.x) (by omega) (by omega)
 have h2:=abU (x:=a.y-b.y) (by omega) (by omega)
 have hD:=acd (m:=sqT a b) (by unfold sqT;omega)
 have h3:=yG w3 w4 hD.2.d0 hD.1
 have e:=k8 (b:=100) h3.1
 unfold G2
 rw[e]
 generalize ea*WU (sqT a b)=z at*
 split<;>omega
theorem Th(fx ea:Int)(a b:j3)(hw:abI fx ea)(ha:abH a)(hb:abH b):Pure Tryz.prog 233 [.agg [n fx,n ea],.agg a.cs,.agg b.cs] (n (G2 fx ea a b)):=by
 refine jX Tryz.f233.eq_1 [] [.d 11] ?_
 have hd:=WV a b ha hb
 have hb:=XS hw ha hb
 obtain⟨D,hD⟩:∃D,D=WU (sqT a b):=⟨_,rfl⟩
 have hB:G2 fx ea a b=if a.id=b.id then 0 else fx+(ea*D).tdiv 100:=by rw[hD];rfl
 rw[<-hD]at hd hb
 generalize G2 fx ea a b=B at*
 obtain⟨⟨w1,w2⟩,w3,w4⟩:=hw
 have e1:IntKind.wrap .i64 (ea*D)=ea*D:=cB _ (by omega) (by omega)
 have hq:=Du hb.2.2.1 hb.2.2.2 (show(1:Int)<=100 by omega)
 have e2:IntKind.wrap .i64 ((ea*D).tdiv 100)=(ea*D).tdiv 100:=cB _ (by omega) (by omega)
 have e3:IntKind.wrap .i64 (fx+(ea*D).tdiv 100)=fx+(ea*D).tdiv 100:=cB _ (by omega) (by omega)
 by_cases h:a.id=b.id
 ·rw[if_pos h]at hB
  rw[hB]
  refine Au ?_;intros
  exact Fq
 ·rw[if_neg h]at hB
  rw[hB]
  refine Az (aa @e1 (aa @e2 @e3)) @hd ?_;intros
  exact Fq
abbrev H7(s:j3):Prop:=(gW [s]).1=0
theorem tC{s:j3}(h:H7 s):inr s.id 1 65535/\abH s/\lu s.cz:=by
 have:=wA.1 ((tM.1 h).2 0 (by simp))
 obtain⟨h1,_,h2,h3,h4⟩:=this
 exact⟨h1,⟨h2,h3⟩,h4⟩
theorem Q4(L:List j3)(hn:L.length<1000000)(hL:∀s∈L,H7 s):Pure Tryz.prog 231 [KY L] (n 0):=by
 refine jX Tryz.f231.eq_1 [] [.l [7,8,9]] ?_
 refine Au ?_;intros
 refine aR.lr (α:={x:Nat×aG//x.1<=L.length}) [9] (fun x=>[(9,n x.1.1)]) (fun x=>x.1.2) (fun x=>L.length-x.1.1) ⟨(0,[]),aQ _⟩ ?_
 rintro⟨⟨i,μ⟩,hi⟩
 simp only at hi
 by_cases bP:i<L.length
 ·obtain⟨s,hs⟩:∃s,L[i]?=some s:=⟨_,ae bP⟩
  have cX:(L.map j3.cs).getD i []=j3.cs s:=getD_map hs
  have h1:=hL s (ao hs)
  have hc:=mM [s] ⟨by simp,by have:=(tC h1).2.2.1;unfold inr at this;simp;omega⟩
  simp only[KY,bq,dL]at hc
  rw[h1]at hc
  generalize(gW [s]).2=v at hc
  refine Az @cX @hc ?_;intros
  exact⟨⟨(i+1,_),bP⟩,by simp,rfl,by simp only;omega⟩
 ·obtain rfl:i=L.length:=by omega
  refine Au ?_;intros
  exact Fq
theorem acg(fx ea:Int)(hw:abI fx ea):Pure Tryz.prog 71 [.agg [n fx,n ea]] (n 0):=by
 have h:=rp fx ea
 rwa[if_pos hw]at h
theorem abb(fx ea:Int)(a b:j3)(hw:abI fx ea)(ha:H7 a)(hb:H7 b):Pure Tryz.prog 173 [.agg [n fx,n ea],.agg a.cs,.agg b.cs] (.iu [n (G2 fx ea a b),n 0]):=by
 refine jX Tryz.f173.eq_1 [] [] ?_
 have h1:=Q4 [a,b] (by simp) fun s h=>by
  simp only[aC,au,or_false]at h
  rcases h with rfl|rfl<;>assumption
 simp only[KY,bq,dL]at h1
 have h2:=acg fx ea hw
 have h3:=Th fx ea a b hw (tC ha).2.1 (tC hb).2.1
 refine Ay (aa @h1 (aa @h2 @h3)) ?_;intros
 all_goals try contradiction
 exact Fq
def ZB(l:List l4)(wk:Int):Nat:=l.findIdx fun h=>decide (wk<=h.week)
theorem X_(l:List l4)(wk:Int):ZB l wk<=l.length:=List.findIdx_le_length
theorem acV{l:List l4}{wk:Int}{j:Nat}(h:j<ZB l wk):(l.getD j default).week<wk:=by
 have hj:j<l.length:=cr h (X_ l wk)
 have:=List.not_of_lt_findIdx h
 rw[ab,ae hj]
 simpa using this
theorem ach{l:List l4}{wk:Int}(hl:lu l){j:Nat}(h:ZB l wk<=j)(hj:j<l.length):wk<=(l.getD j default).week:=by
 induction j with
 |zero=>
  have e:ZB l wk=0:=by omega
  have:=List.findIdx_getElem (xs:=l) (p:=fun h:l4=>decide (wk<=h.week)) (w:=show ZB l wk<l.length by omega)
  rw[ab,ae hj]
  simp only[decide_eq_true_eq]at this
  have e2:l[List.findIdx (fun h:l4=>decide (wk<=h.week)) l]'(show ZB l wk<l.length by omega)=l[0]:=by congr 1
  rw[e2]at this;exact this
 |succ j ih=>
  by_cases e:ZB l wk=j+1
  ·have:=List.findIdx_getElem (xs:=l) (p:=fun h:l4=>decide (wk<=h.week)) (w:=show ZB l wk<l.length by omega)
   rw[ab,ae hj]
   simp only[decide_eq_true_eq]at this
   have e2:l[List.findIdx (fun h:l4=>decide (wk<=h.week)) l]'(show ZB l wk<l.length by omega)=l[j+1]:=by congr 1
   rw[e2]at this;exact this
  ·have h1:=ih (by omega) (by omega)
   have h2:=(hl.2 (j+1) hj).2.1 (by omega)
   simp only[Nat.add_sub_cancel]at h2
   omega
theorem XH(h:l4)(wk:Int):Pure Tryz.prog 278 [.agg h.cs,n wk] (n (vR h.week wk)):=by
 refine jX Tryz.f278.eq_1 [] [] ?_
 refine Ay (j6 h.week wk) ?_;intros
 exact Fq
theorem ac7{a b:Int}:(vR a b<0↔a<b)/\(vR a b=0↔a=b):=by unfold vR;repeat' split<;>omega
theorem adz(x y:Nat)(h:x+y<4398046511104):IntKind.wrap .i64 (Int.fdiv (IntKind.wrap .u64 ((x:Int)+(y:Int))) (2^min (Int.toNat 1) (IntKind.bits .u64)))=(((x+y)/2:Nat):Int):=by
 have h1:IntKind.wrap .u64 ((x:Int)+(y:Int))=(x:Int)+(y:Int):=by
  rw[IntKind.wrap_u64];omega
 rw[h1]
 have h2:Int.fdiv ((x:Int)+(y:Int)) (2^min (Int.toNat 1) (IntKind.bits .u64))=(((x+y)/2:Nat):Int):=by
  show Int.fdiv _ (2^min 1 64)=_
  rw[Int.fdiv_eq_ediv_of_nonneg _ (by decide)]
  show((x:Int)+(y:Int))/2=_
  omega
 rw[h2]
 exact cB _ (by omega) (by omega)
theorem abd(l:List l4)(hl:lu l)(wk:Int):Pure Tryz.prog 277 [Rl l,n wk,.fn (.func 278) [] []] (.iu [n (ZB l wk),bl (decide (ZB l wk<l.length/\(l.getD (ZB l wk) default).week=wk))]):=by
 refine jX Tryz.f277.eq_1 [] [.l [0,1,2,8,9,10]] ?_
 have hL:l.length<=16:=by have:=hl.1;unfold inr at this;omega
 have hK:=X_ l wk
 have hK1:∀j,j<ZB l wk->(l.getD j default).week<wk:=fun j h=>acV h
 have LO:∀j,ZB l wk<=j->j<l.length->wk<=(l.getD j default).week:=fun j h h2=>ach hl h h2
 generalize ZB l wk=K at*
 refine Au ?_;intros
 refine aR.ls (α:={x:Nat×Nat//x.1<=K/\K<=x.2/\x.2<=l.length}) [9,10] (fun x=>[(9,n x.1.1),(10,n x.1.2)]) (fun x=>x.1.2-x.1.1) ⟨(0,l.length),aQ _,hK,ar _⟩ ?_
 rintro⟨⟨i,j⟩,hi,hj,vi⟩
 simp only at hi hj vi
 by_cases bP:i<j
 ·have hm:=adz i j (by omega)
  obtain⟨h,hh⟩:∃h,h=(i+j)/2:=⟨_,rfl⟩
  rw[<-hh]at hm
  have g1:i<=h:=by omega
  have g2:h<j:=by omega
  clear hh
  have cX:(l.map l4.cs).getD h []=l4.cs (l.getD h default):=row default (by omega)
  have hw:=XH (l.getD h default) wk
  have hs:=ac7 (a:=(l.getD h default).week) (b:=wk)
  have c1:=hK1 h
  have c2:=LO h
  generalize l.getD h default=u at*
  (refine Az (aa @hm @cX) @hw ?_ (CM ?_)<;>intros)
  ·exact⟨⟨(h+1,j),by dsimp only;omega,hj,vi⟩,by simp,by simp only;omega⟩
  ·exact⟨⟨(i,h),hi,by dsimp only;omega,by dsimp only;omega⟩,by simp,by simp only;omega⟩
 ·obtain rfl:i=K:=by omega
  by_cases hl:i<l.length
  ·have cX:(l.map l4.cs).getD i []=l4.cs (l.getD i default):=row default (by omega)
   have hw:=XH (l.getD i default) wk
   have hs:=ac7 (a:=(l.getD i default).week) (b:=wk)
   generalize l.getD i default=u at*
   refine Az @cX @hw ?_;intros
   all_goals(refine bO.eq (congrArg (fun b=>AV.iu [n i,bl b]) ?_) (by simp);rw[decide_eq_decide];omega)
  ·have cX:(l.map l4.cs).getD i []=[]:=by rw[ab,b_ (by simp;omega)];rfl
   have adA:decide ((i:Int)<(l.length:Int))=false:=decide_eq_false (by omega)
   rw[decide_eq_false (show¬(i<l.length/\(l.getD i default).week=wk) by omega)]
   refine Ax (aa @cX @adA) ?_;intros
   exact Fq
def CI(s:j3)(wk:Int):Sp:=(s.cz.getD (if ZB s.cz wk<s.cz.length/\(s.cz.getD (ZB s.cz wk) default).week=wk then ZB s.cz wk else ZB s.cz wk-1) default).lk
theorem aci{l:List l4}{wk:Int}(hl:lu l)(hw:0<=wk):0<l.length/\(¬(ZB l wk<l.length/\(l.getD (ZB l wk) default).week=wk)->0<ZB l wk):=by
 have h0:0<l.length:=by have:=hl.1;unfold inr at this;omega
 refine⟨h0,fun h=>?_⟩
 by_cases e:ZB l wk=0
 ·exfalso
  rw[e]at h
  have h1:=ach hl (wk:=wk) (j:=0) (by omega) h0
  have h2:=(hl.2 0 h0).1 rfl
  exact h ⟨h0,by omega⟩
 ·omega
theorem Ti{s:j3}{wk:Int}(hs:lu s.cz)(hw:0<=wk):0<=(CI s wk).lo/\(CI s wk).lo<=(CI s wk).hi/\(CI s wk).hi<=4000:=by
 have h1:=aci hs hw
 have h2:=X_ s.cz wk
 unfold CI
 split
 ·exact(hs.2 _ (by omega)).2.2.2
 ·exact(hs.2 _ (by omega)).2.2.2
theorem Q5(s:j3)(wk:Int)(hs:lu s.cz)(hw:0<=wk):Pure Tryz.prog 232 [.agg s.cs,n wk] (.agg (CI s wk).cs):=by
 refine jX Tryz.f232.eq_1 [] [] ?_
 have h1:=abd s.cz hs wk
 have h2:=aci hs hw
 have h3:=X_ s.cz wk
 have hL:s.cz.length<=16:=by have:=hs.1;unfold inr at this;omega
 by_cases hc:ZB s.cz wk<s.cz.length/\(s.cz.getD (ZB s.cz wk) default).week=wk
 ·have hT:CI s wk=(s.cz.getD (ZB s.cz wk) default).lk:=by unfold CI;rw[if_pos hc]
  rw[decide_eq_true hc]at h1
  have cX:(s.cz.map l4.cs).getD (ZB s.cz wk) []=l4.cs (s.cz.getD (ZB s.cz wk) default):=row default hc.1
  rw[hT]
  generalize s.cz.getD (ZB s.cz wk) default=u at*
  generalize ZB s.cz wk=K at*
  refine Az @cX @h1 ?_;intros
  exact Fq
 ·have hT:CI s wk=(s.cz.getD (ZB s.cz wk-1) default).lk:=by unfold CI;rw[if_neg hc]
  rw[decide_eq_false hc]at h1
  have hp:=h2.2 hc
  have cX:(s.cz.map l4.cs).getD ((ZB s.cz wk:Int)-1).toNat []=l4.cs (s.cz.getD (ZB s.cz wk-1) default):=by
   rw[show((ZB s.cz wk:Int)-1).toNat=ZB s.cz wk-1 by omega];exact row default (by omega)
  rw[hT]
  generalize s.cz.getD (ZB s.cz wk-1) default=u at*
  generalize ZB s.cz wk=K at*
  refine Az @cX @h1 ?_;intros
  exact Fq
theorem abe(s:j3)(wk:Int)(hs:H7 s)(hw:inr wk 0 10000):Pure Tryz.prog 172 [.agg s.cs,n wk] (.iu [.agg (CI s wk).cs,n 0]):=by
 refine jX Tryz.f172.eq_1 [] [] ?_
 have h1:=Q4 [s] (by simp) fun t h=>by rw[bp.1 h];exact hs
 simp only[KY,bq,dL]at h1
 have h2:=og wk 0 10000
 rw[decide_eq_true hw]at h2
 have h3:=Q5 s wk (tC hs).2.2 hw.1
 generalize CI s wk=H at*
 refine Ay (aa @h1 (aa @h2 @h3)) ?_;intros
 all_goals try contradiction
 exact Fq
theorem abf(l h:Int)(h1:inr l 0 12000)(h2:inr h 0 4000):Pure Tryz.prog 280 [n l,n h] (n (CV l h)):=by
 refine jX Tryz.f280.eq_1 [] [] ?_
 unfold CV
 have hm:=yG h1.1 h1.2 h2.1 h2.2
 have hd:=Du hm.1 hm.2 (show(1:Int)<=8000 by omega)
 obtain⟨l1,l2⟩:=h1
 have e1:IntKind.wrap .i64 (l*h)=l*h:=cB _ (by omega) (by omega)
 have e2:IntKind.wrap .i64 ((l*h).tdiv 8000)=(l*h).tdiv 8000:=cB _ (by omega) (by omega)
 have e3:IntKind.wrap .i64 (l+(l*h).tdiv 8000)=l+(l*h).tdiv 8000:=cB _ (by omega) (by omega)
 refine Ax (aa @e1 (aa @e2 @e3)) ?_;intros
 exact Fq
def Mh(l:Int)(h:Sp):Sp:=⟨CV l h.lo,CV l h.hi⟩
theorem XI(l:Int)(h:Sp)(h1:inr l 0 12000)(h2:inr h.lo 0 4000)(h3:inr h.hi 0 4000):Pure Tryz.prog 236 [n l,.agg h.cs] (.agg (Mh l h).cs):=by
 refine jX Tryz.f236.eq_1 [] [.d 9] ?_
 unfold Mh
 have a:=abf l h.lo h1 h2
 have b:=abf l h.hi h1 h3
 refine Ay (aa @a @b) ?_;intros
 exact Fq
theorem abg(h:Sp):Pure Tryz.prog 235 [.agg h.cs] (bl (decide (ke h 0 4000))):=by
 refine jX Tryz.f235.eq_1 [] [] ?_
 refine Ay (og h.lo 0 h.hi) ?_;intros
 all_goals exact bO.eq (congrArg bl (by rw[cV];simp<;>try omega)) (by simp)
def u5(l:Int)(h:Sp):Sp:=if inr l 0 12000 then Mh l h else⟨0,0⟩
theorem ab5(l:Int)(h:Sp)(hh:ke h 0 4000):∃e:Int,Pure Tryz.prog 177 [n l,.agg h.cs] (.iu [.agg (u5 l h).cs,n e]):=by
 refine⟨if inr l 0 12000 then 0 else 1,?_⟩
 refine jX Tryz.f177.eq_1 [] [] ?_
 unfold u5
 have h1:=og l 0 12000
 have h2:=abg h
 rw[decide_eq_true hh]at h2
 obtain⟨a1,a2,a3⟩:=hh
 by_cases hl:inr l 0 12000
 ·have h3:=XI l h hl ⟨a1,by omega⟩ ⟨by omega,a3⟩
  rw[decide_eq_true hl]at h1
  rw[if_pos hl,if_pos hl]
  generalize Mh l h=S at*
  refine Ay (aa @h1 (aa @h2 @h3)) ?_;intros
  all_goals try contradiction
  exact Fq
 ·rw[decide_eq_false hl]at h1
  rw[if_neg hl,if_neg hl]
  refine Ay (aa @h1 @h2) ?_;intros
  all_goals try contradiction
  exact Fq
abbrev rgZ(R:List AV):Ob:=⟨357,1027,[R],none⟩
structure aeS(R:List AV)(M:Nat->Nat->Int):Prop where
 len:R.length=1027
 el:∀i j,i<32->j<32->R.getD (i*32+j) .any=n (M i j)
theorem aeS.set{R:List AV}{M M':Nat->Nat->Int}(h:aeS R M){i j:Nat}(hi:i<32)(hj:j<32){v:Int}(e:∀x y,M' x y=if x=i/\y=j then v else M x y):aeS (R.take (i*32+j)++n v::R.drop (i*32+(j+1))) M':=by
 have hl:=h.len
 have hs:R.take (i*32+j)++n v::R.drop (i*32+(j+1))=R.set (i*32+j) (n v):=by
  rw[List.set_eq_take_append_cons_drop,if_pos (by omega)];rfl
 rw[hs]
 refine⟨by rw[cK,hl],fun x y hx hy=>?_⟩
 rw[ab,bX,e]
 by_cases q:x=i/\y=j
 ·obtain⟨rfl,rfl⟩:=q
  rw[if_pos rfl,if_pos (by omega),if_pos ⟨rfl,rfl⟩];rfl
 ·rw[if_neg (by omega),if_neg q,<-ab,h.el x y hx hy]
theorem adB{σ:aG}{f i:Nat}{o o':Ob}:(σ.cZ f i o).cZ f i o'=σ.cZ f i o':=by
 unfold aG.cZ
 cases h:σ[f]? with
 |none=>simp[h]
 |some x=>cases x with
  |none=>simp[h]
  |some l=>simp[(ai.1 h).1]
inductive TgR(σ:aG)(f N:Nat)(b:Nat->Nat->Int)(r:AV)(σ':aG):Prop
 |mk(R:List AV)(M:Nat->Nat->Int)(hR:aeS R M)(hM:aeT N b M)(h:σ'=σ.cZ f 0 (rgZ R))
theorem Ya(σ:aG)(f N:Nat)(R:List AV)(M b:Nat->Nat->Int)(hN:N<=32)(hf:σ.at f 0=some (rgZ R))(hR:aeS R M)(hM:aeT N b M)(hb:∀i k,i<N->k<N->b i k<=300000):eY Tryz.prog 311 [.ptr f 0 1 0 0,n N] σ (TgR σ f N b):=by
 refine qY 51 (jo [jm 7 1,jc 8 0] [0,1,7,8] (.block 0 (.loop (jo [jt .lss 9 8 7] [0,1,7,8,9] (.seq (.cond (.t 9) .skip (.exit 0)) (.seq (.block 1 (jo [jm 10 8,jm 4 10] [0,1,4,7,8] (jo [jm 11 1,jc 12 0] [0,1,4,7,8,11,12] (.block 2 (.loop (jo [jt .lss 13 12 11] [0,1,4,7,8,11,12,13] (.seq (.cond (.t 13) .skip (.exit 2)) (.seq (.block 3 (jo [jm 14 12,jm 5 14] [0,1,4,5,7,8,11,12] (jo [jm 15 1,jc 16 0] [0,1,4,5,7,8,11,12,15,16] (.block 4 (.loop (jo [jt .lss 17 16 15] [0,1,4,5,7,8,11,12,15,16,17] (.seq (.cond (.t 17) .skip (.exit 4)) (.seq (.block 5 (jo [jm 18 16,jm 6 18] [0,1,4,5,6,7,8,11,12,15,16] (.draw [jm 19 0,jm 20 5,jm 21 6,jm 22 0,jm 23 5,jm 24 6,jw 25 (.dY (.t 22)),jw 26 (.Oz 32 32 (.t 25) (.t 23)),jw 27 (.Oz 1 32 (.t 26) (.t 24)),jl 28 27,jm 29 0,jm 30 5,jm 31 4,jw 32 (.dY (.t 29)),jw 33 (.Oz 32 32 (.t 32) (.t 30)),jw 34 (.Oz 1 32 (.t 33) (.t 31)),jl 35 34,jm 36 0,jm 37 4,jm 38 6,jw 39 (.dY (.t 36)),jw 40 (.Oz 32 32 (.t 39) (.t 37)),jw 41 (.Oz 1 32 (.t 40) (.t 38)),jl 42 41,jt .add 43 35 42,jw 44 (.tN false (.t 28) (.t 43)),jw 45 (.dY (.t 19)),jw 46 (.Oz 32 32 (.t 45) (.t 20)),jw 47 (.Oz 1 32 (.t 46) (.t 21))] [js 1 47 44] [0,1,4,5,7,8,11,12,15,16]))) (.ops [ju .add 48 16 1,jm 16 48] [0,1,4,5,7,8,11,12,15,16]))))))))) (.ops [ju .add 49 12 1,jm 12 49] [0,1,4,7,8,11,12]))))))))) (.ops [ju .add 50 8 1,jm 8 50] [0,1,7,8]))))))) [] Tryz.call311 Tryz.func311 ?_
 have hC:∀o,aG.at (σ.cZ f 0 o) f 0=some o:=fun o=>cu hf
 have hD:∀o o',(σ.cZ f 0 o).cZ f 0 o'=σ.cZ f 0 o':=fun o o'=>adB
 refine Au ?_;intros
 refine aR.le (α:={x:Nat×List AV//x.1<=N/\∃M,aeS x.2 M/\aeT N b M}) [8] (fun x=>[(8,n x.1.1)]) (fun x=>σ.cZ f 0 (rgZ x.1.2)) (fun x=>N-x.1.1) ⟨(0,R),aQ _,M,hR,hM⟩ (by rw[j8 hf]) ?_
 rintro⟨⟨k,R1⟩,hk,Qa⟩
 simp only at hk Qa
 by_cases bP:k<N
 ·refine Au ?_;intros
  refine aR.lr (α:={x:Nat×List AV//x.1<=N/\∃M,aeS x.2 M/\aeT N b M}) [12] (fun x=>[(12,n x.1.1)]) (fun x=>σ.cZ f 0 (rgZ x.1.2)) (fun x=>N-x.1.1) ⟨(0,R1),aQ _,Qa⟩ ?_
  rintro⟨⟨i,R2⟩,hi,YA⟩
  simp only at hi YA
  by_cases qz:i<N
  ·refine Au ?_;intros
   refine aR.lr (α:={x:Nat×List AV//x.1<=N/\∃M,aeS x.2 M/\aeT N b M}) [16] (fun x=>[(16,n x.1.1)]) (fun x=>σ.cZ f 0 (rgZ x.1.2)) (fun x=>N-x.1.1) ⟨(0,R2),aQ _,YA⟩ ?_
   rintro⟨⟨j,R3⟩,hj,M3,hR3,hM3⟩
   simp only at hj hR3
   by_cases my:j<N
   ·have Gr:∀q:Nat,q*1=q:=CD
    have r1:=hR3.el i j (by omega) (by omega)
    have r2:=hR3.el i k (by omega) (by omega)
    have r3:=hR3.el k j (by omega) (by omega)
    have rl:=hR3.len
    have b1:=hM3.nn i k qz bP
    have b2:=hM3.nn k j bP my
    have b3:=hM3.le i k qz bP
    have b4:=hM3.le k j bP my
    have b5:=hb i k qz bP
    have b6:=hb k j bP my
    have hs:=hR3.set (M':=fun x y=>if x=i/\y=j then min (M3 i j) (M3 i k+M3 k j)else M3 x y) (i:=i) (j:=j) (by omega) (by omega) (v:=min (M3 i j) (M3 i k+M3 k j)) fun _ _=>rfl
    have ht:=hM3.step qz my bP (M':=fun x y=>if x=i/\y=j then min (M3 i j) (M3 i k+M3 k j)else M3 x y) fun _ _=>rfl
    have ew:IntKind.wrap .i64 (M3 i k+M3 k j)=M3 i k+M3 k j:=cB _ (by omega) (by omega)
    refine Ax (aa @Gr (aa @hC (aa @hD (aa @r1 (aa @r2 (aa @r3 (aa @rl @ew))))))) ?_;intros
    exact⟨⟨(j+1,_),my,_,hs,ht⟩,by simp,rfl,by simp only;omega⟩
   ·obtain rfl:j=N:=by omega
    refine Au ?_;intros
    exact⟨⟨(i+1,R3),qz,M3,hR3,hM3⟩,by simp,rfl,by simp only;omega⟩
  ·obtain rfl:i=N:=by omega
   refine Au ?_;intros
   exact⟨⟨(k+1,R2),bP,YA⟩,by simp,rfl,by simp only;omega⟩
 ·obtain rfl:k=N:=by omega
  obtain⟨M1,hR1,hT1⟩:=Qa
  refine Au ?_;intros
  exact .mk R1 M1 hR1 hT1 rfl
noncomputable def WW(fx ea:Int)(L:List j3)(i k:Nat):Int:=G2 fx ea (L.getD i default) (L.getD k default)
inductive SpR(fx ea:Int)(L:List j3):AV->aG->Prop
 |bad(ν:aG)(h:(gW L).1≠0):SpR fx ea L (.iu [.v (.pointer none),n (gW L).1]) ν
 |ok(ν:aG)(g:Nat)(R:List AV)(M:Nat->Nat->Int)(h:(gW L).1=0)(hR:aeS R M)(hM:aeT L.length (WW fx ea L) M)(hg:ν.at g 0=some (rgZ R)):SpR fx ea L (.iu [.ptr g 0 1 0 0,n 0]) ν
theorem acj:(vs aeV).length=1027:=by rw[acN];simp
theorem acW{i:Nat}(h:i<1026):(vs aeV).getD i .any=n 0:=by
 rw[acN,ab,cy (by simp[h]),fl,if_pos h];rfl
theorem aeS.zero(x y z:AV):aeS (((vs aeV).take 1024++[x,y])++[z]) fun _ _=>0:=by
 have hl:=acj
 refine⟨by simp[hl],fun i j hi hj=>?_⟩
 have h:=acW (i:=i*32+j) (by omega)
 rw[aW,ab,cy (by rw[bH,hl];omega),List.getElem?_take_of_lt (by omega),<-ab,h]
theorem acE{V:List AV}(hl:V.length=1027)(a b z:AV):List.take 1026 (List.take 1024 V++a::b::List.drop 1026 V)++z::List.drop 1027 (List.take 1024 V++a::b::List.drop 1026 V)=List.take 1024 V++[a,b,z]:=by
 have h1:(List.take 1024 V).length=1024:=by rw[bH,hl];rfl
 have h2:(List.drop 1026 V).length=1:=by rw[wW,hl]
 generalize List.take 1024 V=T at*
 generalize List.drop 1026 V=D at*
 obtain⟨d,rfl⟩:=cq.1 h2
 rw[show 1026=T.length+2 by omega,show 1027=T.length+3 by omega,List.take_length_add_append,List.drop_length_add_append]
 simp
theorem abh(fx ea:Int)(L:List j3)(hw:abI fx ea)(hn:L.length<=1000000)(hL:∀s∈L,H7 s):eY Tryz.prog 276 [.agg [n fx,n ea],KY L] [] (SpR fx ea L):=by
 refine qY 65 (jo [jx 2 24 2 0,jw 4 (.mv (.c (.pointer none))),jc 5 0] [1,2] (.seq (jo [jm 15 1,jy 16 38 [15],jm 14 16,jz 17 0 14,jz 18 1 14,jm 6 17,jm 7 18] [1,2,6] (jo [jm 19 6,ju .neq 20 19 0] [1,2,6,20] (.cond (.t 20) (jo [jm 21 6,jw 4 (.mv (.c (.pointer none))),jm 5 21] [4,5] .ret) .skip))) (.seq (jo [jk 22 2 2,jy 23 71 [22],jm 8 23] [1,2,8] (jo [jm 24 8,ju .neq 25 24 0] [1,2,8,25] (.cond (.t 25) (jo [jm 26 8,jw 4 (.mv (.c (.pointer none))),jm 5 26] [4,5] .ret) .skip))) (jo [jk 27 2 2,jm 28 1,jw 29 (.build aeV [(1024,2,(.t 27)),(1026,1,(.t 28))]),jw 30 (.box true 357 1027 (.t 29)),jm 9 30] [1,2,9] (.seq (jo [jm 31 1,je 32 31,jc 33 0] [1,2,9,31,32,33] (.block 0 (.loop (jo [jt .lss 34 33 32] [1,2,9,31,32,33,34] (.seq (.cond (.t 34) .skip (.exit 0)) (.seq (.block 1 (jo [jm 35 33,ji 36 4 31 33,jk 37 4 36,jw 11 (.alloc 118 4 [.int .i64 0,.int .i64 0,.int .i64 0,.slice none 0 0]),jm 10 35,js 4 11 37] [1,2,9,10,11,31,32,33] (jo [jm 38 1,je 39 38,jc 40 0] [1,2,9,10,11,31,32,33,38,39,40] (.block 2 (.loop (jo [jt .lss 41 40 39] [1,2,9,10,11,31,32,33,38,39,40,41] (.seq (.cond (.t 41) .skip (.exit 2)) (.seq (.block 3 (jo [jm 42 40,ji 43 4 38 40,jk 44 4 43,jw 13 (.alloc 118 4 [.int .i64 0,.int .i64 0,.int .i64 0,.slice none 0 0]),jm 12 42,js 4 13 44] [1,2,9,10,11,12,13,31,32,33,38,39,40] (.draw [jm 45 9,jm 46 10,jm 47 12,jk 48 2 2,jk 49 4 11,jk 50 4 13,jy 51 233 [48,49,50],jw 52 (.dY (.t 45)),jf 53 0 52,jw 54 (.Oz 32 32 (.t 53) (.t 46)),jw 55 (.Oz 1 32 (.t 54) (.t 47))] [js 1 55 51] [1,2,9,10,11,31,32,33,38,39,40]))) (.ops [ju .add 56 40 1,jm 40 56] [1,2,9,10,11,31,32,33,38,39,40]))))))))) (.ops [ju .add 57 33 1,jm 33 57] [1,2,9,31,32,33]))))))) (jo [jm 58 9,jw 59 (.dY (.t 58)),jf 60 0 59,jm 61 1,je 62 61,jy 63 311 [60,62]] [9] (jo [jm 64 9,jm 4 64,jc 5 0] [4,5] .ret))))))) [.t 4,.t 5] Tryz.call276 Tryz.func276 ?_
 have hz:ql L:=⟨by omega,fun s hs=>by have:=(tC (hL s hs)).2.2.1;unfold inr at this;omega⟩
 have h1:=mM L hz
 have h2:=acg fx ea hw
 by_cases he:(gW L).1=0
 ·have hN:L.length<=32:=by
   unfold gW at he
   split at he
   ·cases he
   ·omega
  rw[he]at h1
  generalize(gW L).2=v at h1
  have hl:=acj
  obtain⟨R0,hR0⟩:∃R0,R0=((vs aeV).take 1024++[n fx,n ea])++[KY L]:=⟨_,rfl⟩
  have JU:=aeS.zero (n fx) (n ea) (KY L)
  rw[<-hR0]at JU
  (repeat' ((first|refine vn rfl ?_|simp(disch:=omega) only[cB,aj]|refine bo (fun _=>?_) fun _=>?_|refine im fun _=>?_|((repeat refine si ?_);(first|((first|refine .inl ⟨_,_,_,_,rfl,fun _=>pu (by first|exact h1|exact h2),?_⟩|refine⟨_,_,_,_,rfl,fun _=>pu (by first|exact h1|exact h2),?_⟩);(first|refine o1 ?_|refine o4 ?_))|refine .inl ⟨_,_,_,_,rfl,pu (by first|exact h1|exact h2),?_⟩))|refine cF ?_|refine om ?_|refine an ?_|fail)<;>try simp only[zN,zT,zV,zS,zU,dC,ex,bu,bN,elems,cells,scalar,dH,bL,aX,aU,bJ,bI,Nat.reduceBEq,reduceAdd,reduceSub,reduceLT,reduceLeDiff,reduceMul,reduceEqDiff,reduceIte,hl,bH,wW]))
  all_goals try contradiction
  refine aR.pQ (σ':=[some [rgZ R0]]) ?_ ?_
  ·rw[hR0,acE hl];simp
  refine aR.lr (α:={x:Nat×List AV×aG//x.1<=L.length/\∃M,aeS x.2.1 M/\∀p q,p<x.1->q<L.length->M p q=WW fx ea L p q}) [33] (fun x=>[(33,n x.1.1)]) (fun x=>some [rgZ x.1.2.1]::x.1.2.2) (fun x=>L.length-x.1.1) ⟨(0,R0,[]),aQ _,_,JU,by simp⟩ ?_
  rintro⟨⟨i,R1,ν⟩,hi,Qa⟩
  simp only at hi Qa
  by_cases bP:i<L.length
  ·have hs:L[i]?=some (L.getD i default):=fh default bP
   have cX:(L.map j3.cs).getD i []=j3.cs (L.getD i default):=getD_map hs
   have hoi:=hL _ (ao hs)
   have hbm:∀k,WW fx ea L i k=G2 fx ea (L.getD i default) (L.getD k default):=fun _=>rfl
   generalize L.getD i default=s at*
   refine Ax @cX ?_;intros
   refine aR.lr (α:={x:Nat×List AV×aG//x.1<=L.length/\∃M,aeS x.2.1 M/\(∀p q,p<i->q<L.length->M p q=WW fx ea L p q)/\∀q,q<x.1->M i q=WW fx ea L i q}) [40] (fun x=>[(40,n x.1.1)]) (fun x=>some [rgZ x.1.2.1]::(ν++some [⟨118,4,[j3.cs s],none⟩]::x.1.2.2)) (fun x=>L.length-x.1.1) ⟨(0,R1,[]),aQ _,by obtain⟨M,h1,h2⟩:=Qa;exact⟨M,h1,h2,by simp⟩⟩ ?_
   rintro⟨⟨k,R2,μ⟩,hk,M2,hR2,hA,hB⟩
   simp only at hk hR2 hA hB
   by_cases qz:k<L.length
   ·have hs2:L[k]?=some (L.getD k default):=fh default qz
    have zJ:(L.map j3.cs).getD k []=j3.cs (L.getD k default):=getD_map hs2
    have lO:=hL _ (ao hs2)
    have hb:=Th fx ea s (L.getD k default) hw (tC hoi).2.1 (tC lO).2.1
    rw[<-hbm]at hb
    have rl:=hR2.len
    have cn:=hR2.set (M':=fun x y=>if x=i/\y=k then WW fx ea L i k else M2 x y) (i:=i) (j:=k) (by omega) (by omega) (v:=WW fx ea L i k) fun _ _=>rfl
    generalize L.getD k default=s2 at*
    have hX:∀(x:Option (List Ob)) (o:Ob) (r:aG),aG.at (x::(ν++some [o]::r)) (List.length ν+1) 0=some o:=fun x o r=>by rw[cQ,dV];rfl
    have RA:∀(x y:Option (List Ob)) (o:Ob) (r:aG),aG.at (x::(ν++y::(μ++some [o]::r))) (List.length ν+(List.length μ+2)) 0=some o:=fun x y o r=>by
     rw[show List.length ν+(List.length μ+2)=List.length ν+(List.length μ+1)+1 by omega,cQ,dR,cQ,dV];rfl
    have Yt:∀(x y:Option (List Ob)) (o o':Ob) (r:aG),aG.cZ (x::(ν++y::(μ++some [o]::r))) (List.length ν+(List.length μ+2)) 0 o'=x::(ν++y::(μ++some [o']::r)):=fun x y o o' r=>by
     have e:x::(ν++y::(μ++some [o]::r))=(x::(ν++y::μ))++some [o]::r:=by simp
     have e2:List.length ν+(List.length μ+2)=List.length (x::(ν++y::μ))+0:=by simp;omega
     rw[e,e2,fC];simp[aG.cZ]
    refine Az (aa @hX (aa @RA (aa @Yt (aa @zJ @rl)))) @hb ?_;intros
    exact⟨⟨(k+1,_,_),qz,_,cn,fun p q hp hq=>by rw[if_neg (by omega)];exact hA p q hp hq,fun q hq=>by
     by_cases e:q=k
     ·subst e;rw[if_pos (by simp)]
     ·rw[if_neg (by omega)];exact hB q (by omega)⟩,by simp,by simp;rfl,by simp only;omega⟩
   ·obtain rfl:k=L.length:=by omega
    refine Au ?_;intros
    exact⟨⟨(i+1,R2,_),bP,M2,hR2,fun p q hp hq=>by
     by_cases e:p=i
     ·subst e;exact hB q hq
     ·exact hA p q (by omega) hq⟩,by simp,rfl,by simp only;omega⟩
  ·obtain rfl:i=L.length:=by omega
   obtain⟨M1,hR1,hE⟩:=Qa
   have hbb:∀p q,p<L.length->q<L.length->0<=WW fx ea L p q/\WW fx ea L p q<=300000:=fun p q hp hq=>by
    have h1:=hL _ (ao (fh (default:j3) hp))
    have h2:=hL _ (ao (fh (default:j3) hq))
    have:=XS hw (tC h1).2.1 (tC h2).2.1
    exact⟨this.1,this.2.1⟩
   have hT:aeT L.length (WW fx ea L) M1:=⟨fun p q hp hq=>by rw[hE p q hp hq];exact(hbb p q hp hq).1,fun p q hp hq=>by rw[hE p q hp hq];exact eZ _,fun u hu p q hp hq=>by rw[hE p q hp hq];exact hu p q hp hq⟩
   have ht:=Ya (some [rgZ R1]::ν) 0 L.length R1 M1 (WW fx ea L) hN rfl hR1 hT fun p q hp hq=>(hbb p q hp hq).2
   refine Au ?_;intros
   refine .inr (.inl ⟨_,_,_,_,rfl,fun _=>⟨ht,?_⟩,fun h=>by cases h⟩)
   rintro res σ' ⟨R9,M9,h1,h2,rfl⟩
   refine aH ?_
   refine Au ?_;intros
   exact .ok _ 0 R9 M9 he h1 h2 rfl
 ·have Se:=h1
  generalize hv:(gW L).1=e at*
  generalize(gW L).2=v at h1
  refine Ay @h1 ?_;intros
  all_goals try contradiction
  all_goals(rw[<-hv];exact .bad _ (by rw[hv];exact he))
def Fj(L:List j3)(wk:Int)(lv:List Int):List Sp:=(L.zip lv).map fun p=>Mh p.2 (CI p.1 wk)
theorem Tr{L:List j3}{wk:Int}{lv:List Int}{i:Nat}{s:j3}{v:Int}(h1:L[i]?=some s)(h2:lv[i]?=some v):(Fj L wk lv)[i]?=some (Mh v (CI s wk)):=by
 unfold Fj
 rw[aV,(ir (z:=(s,v))).2 ⟨h1,h2⟩];rfl
theorem Nx{L:List j3}{wk:Int}{lv:List Int}(h:lv.length=L.length):(Fj L wk lv).length=L.length:=by unfold Fj;rw[aF,oG];omega
structure abi(fx ea:Int)(L:List j3)(wk:Int)(lv:List Int):Prop where
 wd:abI fx ea
 one:∀s∈L,H7 s
 len:L.length<=1000000
 wk:inr wk 0 10000
 ll:lv.length=L.length
 lv:∀x∈lv,inr x 0 12000
inductive LvR(fx ea:Int)(L:List j3)(wk:Int)(lv:List Int):AV->aG->Prop
 |bad(ν:aG)(h:(gW L).1≠0):LvR fx ea L wk lv (.iu [.v (.pointer none),.v (.slice none 0 0),n (gW L).1]) ν
 |ok(ν:aG)(g:Nat)(R:List AV)(M:Nat->Nat->Int)(h:(gW L).1=0)(hR:aeS R M)(hM:aeT L.length (WW fx ea L) M)(hg:ν.at g 0=some (rgZ R)):LvR fx ea L wk lv (.iu [.ptr g 0 1 0 0,iT (Fj L wk lv),n 0]) ν
theorem abj(fx ea:Int)(L:List j3)(wk:Int)(lv:List Int)(h:abi fx ea L wk lv):eY Tryz.prog 229 [.agg [n fx,n ea],KY L,n wk,l9 lv] [] (LvR fx ea L wk lv):=by
 refine Fi Tryz.f229.eq_1 [] [.l [2,3,11,13,35,36,37],.w (adQ 0 12) [0,1,2,3,4] 3 7] ?_
 have hs:=abh fx ea L h.wd h.len h.one
 have hw:=og wk 0 10000
 rw[decide_eq_true h.wk]at hw
 have JK:=h.ll
 have hln:=h.len
 refine Au ?_;intros
 refine .inr (.inl ⟨_,_,_,_,rfl,fun _=>⟨hs,?_⟩,fun h=>by cases h⟩)
 intro res ν aau
 cases aau with
 |bad _ he=>
  refine aH ?_
  refine adL ?_
  have hb:LvR fx ea L wk lv (.iu [.v (.pointer none),.v (.slice none 0 0),n (gW L).1]) ν:=.bad ν he
  generalize(gW L).1=e at*
  refine Au ?_;intros
  all_goals try contradiction
  exact hb
 |ok _ g R M he hR hM hg=>
  refine aH ?_
  refine Ay @hw ?_;intros
  have UG:=dU hg
  refine aR.oC 52 2 13 rfl ?_
  refine aR.lr (α:={x:Nat×aG//x.1<=L.length}) [13,37] (fun x=>[(13,.own ν.length 0 x.1.1),(37,n x.1.1)]) (fun x=>ν++(some [jJ ((Fj L wk lv).take x.1.1)]::x.1.2)) (fun x=>L.length-x.1.1) ⟨(0,[]),aQ _⟩ ?_
  rintro⟨⟨i,μ⟩,hi⟩
  simp only at hi
  simp only
  have hX:∀(o:Ob) (r:aG),aG.at (ν++(some [o]::r)) (List.length ν) 0=some o:=fun o r=>by rw[dV];rfl
  have hU:∀(o o':Ob) (r:aG),aG.cZ (ν++(some [o]::r)) (List.length ν) 0 o'=ν++(some [o']::r):=fun o o' r=>by rw[qZ];rfl
  by_cases bP:i<L.length
  ·obtain⟨s,hs⟩:∃s,L[i]?=some s:=⟨_,ae bP⟩
   obtain⟨v,hv⟩:∃v,lv[i]?=some v:=⟨_,ae (by omega)⟩
   have cX:(L.map j3.cs).getD i []=j3.cs s:=getD_map hs
   have zJ:(lv.map fun z=>[n z]).getD i []=[n v]:=getD_map hv
   have ho:=tC (h.one s (ao hs))
   have hvb:=h.lv v (ao hv)
   have hh:=Q5 s wk ho.2.2 h.wk.1
   have hb:=Ti ho.2.2 h.wk.1
   have Xp:=XI v (CI s wk) hvb ⟨hb.1,by omega⟩ ⟨by omega,hb.2.2⟩
   have l_:(Fj L wk lv).take (i+1)=(Fj L wk lv).take i++[Mh v (CI s wk)]:=ey (Tr hs hv)
   have xM:((Fj L wk lv).take i).length=i:=by rw[bH,Nx JK];omega
   have hwv:=og v 0 12000
   rw[decide_eq_true hvb]at hwv
   generalize Mh v (CI s wk)=S at*
   generalize CI s wk=H at*
   generalize(Fj L wk lv).take i=A at*
   generalize hB:(Fj L wk lv).take (i+1)=B at*
   have RA:∀(x:Option (List Ob)) (o:Ob) (r:aG),aG.at (ν++(x::(μ++some [o]::r))) (List.length ν+(List.length μ+1)) 0=some o:=fun x o r=>by rw[dR,cQ,dV];rfl
   have Yt:∀(x:Option (List Ob)) (o o':Ob) (r:aG),aG.cZ (ν++(x::(μ++some [o]::r))) (List.length ν+(List.length μ+1)) 0 o'=ν++(x::(μ++some [o']::r)):=fun x o o' r=>by rw[fC];simp[aG.cZ]
   refine Az (aa @hX (aa @hU (aa @RA (aa @Yt (aa @cX (aa @zJ @xM)))))) (aa @hwv (aa @hh @Xp)) ?_;intros
   exact⟨⟨(i+1,_),bP⟩,by simp,by simp only[hB,l_];simp;rfl,by simp only;omega⟩
  ·obtain rfl:i=L.length:=by omega
   rw[cD (by rw[Nx JK];exact ar _)]
   refine adM ?_;intros
   refine adM ?_;intros
   all_goals try(exfalso;omega)
   refine aR.H_ (t:=13) (f:=ν.length) (n:=L.length) (o:=jJ (Fj L wk lv)) rfl (hX _ _) (by simp[Nx JK]) (by simp) ?_
   refine aR.pQ (σ':=ν++none::μ) (by simp[gone]) ?_
   refine Au ?_;intros
   exact .ok _ g R M he hR hM (by rw[cI UG];exact hg)
abbrev Q2(l:List Int):Ob:=⟨3,1,l.map fun z=>[n z],none⟩
abbrev ack(h N:Nat):Ob:=⟨28,1,[[.own h 0 N]],none⟩
theorem XA{l:List Int}{i:Nat}(h:i<l.length):(l.map fun z=>[n z]).getD i []=[n (l.getD i 0)]:=by
 rw[getD_map (ae h),ab,ae h];rfl
theorem abk(σ:aG)(cc h N:Nat)(V:List Int)(i:Nat)(v:Int)(hc:σ.at cc 0=some (ack h N))(hh:σ.at h 0=some (Q2 V))(hV:V.length=N)(hi:i<N)(hN:N<=1000000):eY Tryz.prog 230 [n i,n v,.ptr cc 0 1 0 0] σ (fun r σ'=>r=bl (decide (V.getD i 0<v))/\σ'=if V.getD i 0<v then σ.cZ h 0 (Q2 (V.set i v))else σ):=by
 refine Fi Tryz.f230.eq_1 [] [] ?_
 have cX:(V.map fun z=>[n z]).getD i []=[n (V.getD i 0)]:=XA (by omega)
 have nV:(V.map fun z=>[n z]).set i [n v]=(V.set i v).map fun z=>[n z]:=by simp
 generalize V.getD i 0=q at*
 by_cases hq:q<v
 ·rw[if_pos hq,decide_eq_true hq]
  exact Ax (aa @hc (aa @hh (aa @cX (aa @nV @hV)))) trivial
 ·rw[if_neg hq,decide_eq_false hq]
  exact Ax (aa @hc (aa @hh (aa @cX (aa @nV @hV)))) trivial
structure aeU(N:Nat)(sp:List Sp)(b:Nat->Nat->Int)(V:List Int):Prop where
 len:V.length=N
 lo:∀i,i<N->0<=V.getD i 0/\(sp.getD i ⟨0,0⟩).lo<=V.getD i 0
 up:∀i,i<N->V.getD i 0<=18000
 le:∀u,Sol N (fun i=>(sp.getD i ⟨0,0⟩).lo) (fun i=>(sp.getD i ⟨0,0⟩).hi) b u->∀i,i<N->V.getD i 0<=u i
abbrev acm(N:Nat)(sp:List Sp)(b:Nat->Nat->Int):Prop:=∃u,Sol N (fun i=>(sp.getD i ⟨0,0⟩).lo) (fun i=>(sp.getD i ⟨0,0⟩).hi) b u
abbrev acn(N:Nat)(M:Nat->Nat->Int)(V:List Int)(i m:Nat):Prop:=∀k,k<m->V.getD k 0-M k i<=V.getD i 0
theorem aeU.raise{N:Nat}{sp:List Sp}{b M:Nat->Nat->Int}{V:List Int}(h:aeU N sp b V)(hM:aeT N b M){i k:Nat}(hi:i<N)(hk:k<N)(hv:V.getD i 0<V.getD k 0-M k i):aeU N sp b (V.set i (V.getD k 0-M k i))/\room 18000 (V.set i (V.getD k 0-M k i))<room 18000 V:=by
 have hl:=h.len
 have hn:=hM.nn k i hk hi
 have hu:=h.up k hk
 refine⟨⟨by rw[cK,hl],fun j hj=>?_,fun j hj=>?_,fun u hs j hj=>?_⟩,Tf (by omega) hv (by omega)⟩
 ·have:=h.lo j hj;have:=h.lo i hi
  rw[CN (by omega)];split
  ·rename_i e;subst e;omega
  ·assumption
 ·have:=h.up j hj
  rw[CN (by omega)];split<;>omega
 ·have h1:=h.le u hs j hj
  rw[CN (by omega)];split
  ·rename_i e;subst e
   have h2:=h.le u hs k hk
   have h3:=hM.ti u hs.bd k i hk hi
   omega
  ·exact h1
inductive ac8(m:Env)(S:List Int->aG)(Q:List Int->Prop)(env:Env):aG->Prop
 |mk(V:List Int)(hq:Q V)(h:Sub m env):ac8 m S Q env (S V)
theorem YB(fx ea:Int)(L:List j3)(wk:Int)(lv:List Int)(h:abi fx ea L wk lv):Pure Tryz.prog 171 [.agg [n fx,n ea],KY L,n wk,l9 lv] (.iu [.any,n (if(gW L).1≠0 then(gW L).1 else if tr (acm L.length (Fj L wk lv) (WW fx ea L))then 0 else 3)]):=by
 refine et 109 (jo [jx 4 24 2 0,jn 8,jc 9 0] [1,2,3,4] (.scope (jo [jk 22 2 4,jm 23 1,jm 24 2,jm 25 3,jy 26 229 [22,23,24,25],jm 21 26,jz 27 0 21,jz 28 1 21,jz 29 2 21,jm 10 27,jm 11 28,jm 12 29] [1,10,11,12] (.seq (jo [jm 30 12,ju .neq 31 30 0] [1,10,11,12,31] (.cond (.t 31) (jo [jm 32 12,jn 8,jm 9 32] [8,9] .ret) .skip)) (jo [jm 33 1,je 34 33,jw 35 (.vq 3 1 8 [.int .i64 0] (.t 34) (.t 34)),jw 13 (.alloc 28 1 [.slice none 0 0]),js 1 13 35] [10,11,13] (.seq (jo [jl 36 13,je 37 36,jc 38 0] [10,11,13,37,38] (.block 0 (.loop (jo [jt .lss 39 38 37] [10,11,13,37,38,39] (.seq (.cond (.t 39) .skip (.exit 0)) (.seq (.block 1 (jo [jm 40 38,jm 14 40] [10,11,13,14,37,38] (.draw [jl 41 13,jm 42 14,jm 43 11,jm 44 14,ji 45 2 43 44,jf 46 0 45,jl 47 46,ji 48 1 41 42] [js 1 48 47] [10,11,13,37,38]))) (.ops [ju .add 49 38 1,jm 38 49] [10,11,13,37,38]))))))) (jo [jw 50 (.j5 (.func 230) [] [(.t 13)]),jm 15 50] [10,11,13,15] (jo [jb 16 true] [10,11,13,15,16] (.seq .skip (.seq (.block 2 (.loop (.seq (jo [jm 51 16] [10,11,13,15,51] (.cond (.t 51) .skip (.exit 2))) (.block 3 (jo [jb 16 false] [10,11,13,15,16] (jo [jl 52 13,je 53 52,jc 54 0] [10,11,13,15,16,53,54] (.block 4 (.loop (jo [jt .lss 55 54 53] [10,11,13,15,16,53,54,55] (.seq (.cond (.t 55) .skip (.exit 4)) (.seq (.block 5 (jo [jm 56 54,jm 17 56] [10,11,13,15,16,17,53,54] (.seq (jo [jl 57 13,je 58 57,jc 59 0] [10,11,13,15,16,17,53,54,58,59] (.block 6 (.loop (jo [jt .lss 60 59 58] [10,11,13,15,16,17,53,54,58,59,60] (.seq (.cond (.t 60) .skip (.exit 6)) (.seq (.block 7 (jo [jm 61 59,jm 18 61] [10,11,13,15,16,17,18,53,54,58,59] (.draw [jm 62 15,jm 63 17,jl 64 13,jm 65 18,ji 66 1 64 65,jl 67 66,jm 68 10,jm 69 18,jm 70 17,jw 71 (.dY (.t 68)),jf 72 0 71,jw 73 (.Oz 32 32 (.t 72) (.t 69)),jw 74 (.Oz 1 32 (.t 73) (.t 70)),jl 75 74,jt .sub 76 67 75] [jw 77 (.call (.t 62) [(.t 63),(.t 76)]),jm 78 77,jd 78 (jm 79 16),jq 80 78 79,jm 16 80] [10,11,13,15,16,17,53,54,58,59]))) (.ops [ju .add 81 59 1,jm 59 81] [10,11,13,15,16,17,53,54,58,59]))))))) (.seq (.draw [jl 82 13,jm 83 17,ji 84 1 82 83,jl 85 84,jm 86 11,jm 87 17,ji 88 2 86 87,jf 89 1 88,jl 90 89,jt .gtr 91 85 90] [] [10,11,13,15,16,53,54,91]) (.cond (.t 91) (.exit 2) .skip))))) (.ops [ju .add 92 54 1,jm 54 92] [10,11,13,15,16,53,54])))))))))))) (.seq (jo [jl 93 13,je 94 93,jc 95 0] [11,13,93,94,95] (.block 8 (.loop (jo [jt .lss 96 95 94] [11,13,93,94,95,96] (.seq (.cond (.t 96) .skip (.exit 8)) (.seq (.block 9 (jo [jm 97 95,ji 98 1 93 95,jl 99 98,jm 19 97,jm 20 99] [11,13,19,20,93,94,95] (jo [jm 100 20,jm 101 11,jm 102 19,ji 103 2 101 102,jf 104 1 103,jl 105 104,jt .gtr 106 100 105] [11,13,93,94,95,106] (.cond (.t 106) (jo [jn 8,jc 9 3] [8,9] .ret) .skip)))) (.ops [ju .add 107 95 1,jm 95 107] [11,13,93,94,95]))))))) (jo [jl 108 13,jm 8 108,jc 9 0] [8,9] .ret)))))))))))) [.t 8,.t 9] Tryz.call171 Tryz.func171 ?_
 have hs:=abj fx ea L wk lv h
 have acX:∀(σ:aG) (v:AV),bO σ v .any:=fun σ v w X β x _ _=>.any x
 refine Au ?_;intros
 refine .inr (.inl ⟨_,_,_,_,rfl,fun _=>⟨hs,?_⟩,fun h=>by cases h⟩)
 intro res ν aau
 cases aau with
 |bad _ he=>
  refine aH ?_
  refine adL ?_
  rw[if_pos he]
  generalize(gW L).1=e at*
  refine Au ?_;intros
  all_goals try contradiction
  exact bO.mY ⟨acX _ _,Fq,trivial⟩
 |ok _ g R M he hR hM hg=>
  refine aH ?_
  refine adL ?_
  rw[if_neg (by rw[he];exact fun h=>h rfl)]
  have UG:=dU hg
  have ac9:=Nx (wk:=wk) h.ll
  have hln:=h.len
  have acY:∀i,i<L.length->0<=((Fj L wk lv).getD i ⟨0,0⟩).lo/\((Fj L wk lv).getD i ⟨0,0⟩).lo<=18000:=fun i hi=>by
   have h1:L[i]?=some L[i]:=ae hi
   have h2:lv[i]?=some (lv[i]'(by have:=h.ll;omega)):=ae (by have:=h.ll;omega)
   have h3:=Tr (wk:=wk) h1 h2
   have h4:=h.lv _ (ao h2)
   have h5:=Ti (tC (h.one _ (ao h1))).2.2 h.wk.1
   rw[ab,h3]
   exact XR h4.1 h4.2 h5.1 (by omega)
  have adC:L.length<=32:=by
   unfold gW at he
   split at he
   ·cases he
   ·omega
  have hbb:∀p q,p<L.length->q<L.length->WW fx ea L p q<=300000:=fun p q hp hq=>by
   have h1:=h.one _ (ao (fh (default:j3) hp))
   have h2:=h.one _ (ao (fh (default:j3) hq))
   exact(XS h.wd (tC h1).2.1 (tC h2).2.1).2.1
  generalize V':Fj L wk lv=sp at*
  generalize hb:WW fx ea L=b at*
  obtain⟨N,hN⟩:∃N,N=L.length:=⟨_,rfl⟩
  rw[<-hN]at ac9 hln acY adC hM hbb|-
  obtain⟨P,hP⟩:∃P:Nat->List Int,∀k,P k=(sp.take k).map (·.lo)++List.replicate (N-k) 0:=⟨_,fun _=>rfl⟩
  have hPl:∀k,k<=N->(P k).length=N:=fun k hk=>by rw[hP];simp;omega
  obtain⟨S,hS⟩:∃S:List Int->aG,∀V,S V=ν++[some [Q2 V],some [ack ν.length N]]:=⟨_,fun _=>rfl⟩
  have s1:∀V,aG.at (S V) ν.length 0=some (Q2 V):=fun V=>by rw[hS,dV];rfl
  have s2:∀V,aG.at (S V) (ν.length+1) 0=some (ack ν.length N):=fun V=>by rw[hS,dR];rfl
  have s3:∀V V',aG.cZ (S V) ν.length 0 (Q2 V')=S V':=fun V V'=>by rw[hS,hS,qZ];rfl
  have s4:∀V,aG.at (S V) g 0=some (rgZ R):=fun V=>by rw[hS,cI UG];exact hg
  refine Au ?_;intros
  refine aR.pQ (σ':=S (P 0)) (by rw[hS,hP,hN];simp) ?_
  refine aR.lr (α:={k:Nat//k<=N}) [38] (fun k=>[(38,n k.1)]) (fun k=>S (P k.1)) (fun k=>N-k.1) ⟨0,aQ _⟩ ?_
  rintro⟨k,hk⟩
  simp only
  have hPk:=hPl k hk
  by_cases bP:k<N
  ·obtain⟨x,hx⟩:∃x,sp[k]?=some x:=⟨_,ae (by omega)⟩
   have cX:(sp.map Sp.cs).getD k []=Sp.cs x:=getD_map hx
   have nV:((P k).map fun z=>[n z]).set k [n x.lo]=(P (k+1)).map fun z=>[n z]:=by
    obtain⟨m,hm⟩:∃m,N-k=m+1:=⟨N-k-1,by omega⟩
    have e:N-(k+1)=m:=by omega
    have xM:((sp.take k).map (·.lo)).length=k:=by simp;omega
    rw[hP,hP,e,hm,ey hx]
    simp only[di,bq,dL,List.replicate_succ]
    rw[fa _ _ (by simp;omega)]
    simp[show k-min k sp.length=0 by omega]
   have KT:=XA (l:=P k) (i:=k) (by omega)
   have g1:=s1 (P k)
   have g2:=s2 (P k)
   have g3:=s3 (P k) (P (k+1))
   generalize hA:P k=A at*
   generalize hB:P (k+1)=B at*
   refine Ax (aa @g1 (aa @g2 (aa @g3 (aa @hPk (aa @cX (aa @KT @nV)))))) ?_;intros
   exact⟨⟨k+1,bP⟩,by simp,by rw[hB],by simp only;omega⟩
  obtain rfl:k=N:=by omega
  have hPN:P k=sp.map (·.lo):=by rw[hP,jr,<-ac9,aI];simp
  have hgd:∀i,i<k->(P k).getD i 0=(sp.getD i ⟨0,0⟩).lo:=fun i hi=>by
   rw[hPN,ab,aV,ae (by omega),ab,ae (by omega)];rfl
  have vp:aeU k sp b (P k):=⟨hPk,fun i hi=>by rw[hgd i hi];exact⟨(acY i hi).1,eZ _⟩,fun i hi=>by rw[hgd i hi];exact(acY i hi).2,fun u hu i hi=>by rw[hgd i hi];exact hu.lo i hi⟩
  generalize P k=V0 at vp
  clear hP hPl hPk hPN hgd
  have hR0:=hR.len
  iterate 7
   refine adM ?_;intros
   all_goals try(exfalso;omega)
  refine aR.cut (ac8 [(11,iT sp),(13,.ptr (ν.length+1) 0 1 0 0)] S fun V=>aeU k sp b V/\((∀i,i<k->acn k M V i k)\/∃i,i<k/\(sp.getD i ⟨0,0⟩).hi<V.getD i 0)) ?_ ?_
  ·refine Au ?_;intros
   refine aR.lr (α:={x:Bool×List Int//aeU k sp b x.2/\(x.1=false->∀i,i<k->acn k M x.2 i k)}) [16] (fun x=>[(16,bl x.1.1)]) (fun x=>S x.1.2) (fun x=>2*room 18000 x.1.2+cond x.1.1 1 0) ⟨(true,V0),vp,fun h=>by cases h⟩ ?_
   rintro⟨⟨ch,V⟩,hV,hF⟩
   simp only at hV hF
   simp only
   cases ch with
   |false=>
    refine Au ?_;intros
    exact .mk V ⟨hV,.inl (hF rfl)⟩ (by simp only[pE,Jk];simp[gt])
   |true=>
    have Cb:=hV.len
    have g1:=s1 V
    have g2:=s2 V
    refine Ax (aa @g1 @g2) ?_;intros
    refine aR.lr (α:={x:Nat×Bool×List Int//x.1<=k/\aeU k sp b x.2.2/\(x.2.1=false->x.2.2=V/\∀i,i<x.1->acn k M V i k)/\(x.2.1=true->room 18000 x.2.2<room 18000 V)}) [16,54] (fun x=>[(16,bl x.1.2.1),(54,n x.1.1)]) (fun x=>S x.1.2.2) (fun x=>k-x.1.1) ⟨(0,false,V),aQ _,hV,fun _=>⟨rfl,by simp⟩,fun h=>by cases h⟩ ?_
    rintro⟨⟨i,ch,V1⟩,hi,YK,hA,hB⟩
    simp only at hi YK hA hB
    simp only
    have xM:=YK.len
    have g3:=s1 V1
    have g4:=s2 V1
    by_cases bP:i<k
    ·refine Ax (aa @g3 (aa @g4 @xM)) ?_;intros
     refine aR.lr (α:={x:Nat×Bool×List Int//x.1<=k/\aeU k sp b x.2.2/\(x.2.1=false->x.2.2=V/\(∀i',i'<i->acn k M V i' k)/\acn k M V i x.1)/\(x.2.1=true->room 18000 x.2.2<room 18000 V)}) [16,59] (fun x=>[(16,bl x.1.2.1),(59,n x.1.1)]) (fun x=>S x.1.2.2) (fun x=>k-x.1.1) ⟨(0,ch,V1),aQ _,YK,fun h=>⟨(hA h).1,(hA h).2,fun k hk=>absurd hk (aN _)⟩,hB⟩ ?_
     rintro⟨⟨j,ch2,V2⟩,hj,hV2,hA2,hB2⟩
     simp only at hj hV2 hA2 hB2
     simp only
     have CY:=hV2.len
     have g5:=s1 V2
     have g6:=s2 V2
     have g7:=s4 V2
     by_cases qz:j<k
     ·have r1:=hR.el j i (by omega) (by omega)
      have r2:=XA (l:=V2) (i:=j) (by omega)
      have Gr:∀q:Nat,q*1=q:=CD
      have b1:=hM.nn j i qz bP
      have b2:=hM.le j i qz bP
      have b3:=(hV2.lo j qz).1
      have b4:=hV2.up j qz
      have b5:=hbb j i qz bP
      have ew:IntKind.wrap .i64 (V2.getD j 0-M j i)=V2.getD j 0-M j i:=cB _ (by omega) (by omega)
      have S7:=abk (S V2) _ _ _ V2 i (V2.getD j 0-M j i) g6 g5 CY bP (by omega)
      have hup:=hV2.raise hM bP qz
      generalize hq:V2.getD j 0-M j i=q at*
      have g8:=s3 V2 (V2.set i q)
      refine Ax (aa @g5 (aa @g6 (aa @g7 (aa @r1 (aa @r2 (aa @Gr (aa @hR0 (aa @ew @hq)))))))) ?_;intros
      refine .inr (.inl ⟨_,_,_,_,rfl,fun _=>⟨S7,?_⟩,fun h=>by cases h⟩)
      rintro r σ' ⟨rfl,rfl⟩
      refine aH ?_
      by_cases hc:V2.getD i 0<q
      ·rw[if_pos hc,decide_eq_true hc,g8]
       refine Au ?_;intros
       exact⟨⟨(j+1,true,V2.set i q),qz,(hup hc).1,(fun h=>by cases h),fun _=>by
        have h1:=(hup hc).2
        cases ch2 with
        |false=>rw[<-(hA2 rfl).1];exact h1
        |true=>exact Nat.lt_trans h1 (hB2 rfl)⟩,by simp,rfl,by simp only;omega⟩
      ·rw[if_neg hc,decide_eq_false hc]
       refine Au ?_;intros
       exact⟨⟨(j+1,ch2,V2),qz,hV2,(fun h=>⟨(hA2 h).1,(hA2 h).2.1,fun m hm=>by
        by_cases e:m=j
        ·subst e;rw[<-(hA2 h).1];omega
        ·exact(hA2 h).2.2 m (by omega)⟩),hB2⟩,by simp,rfl,by simp only;omega⟩
     ·obtain rfl:j=k:=by omega
      obtain⟨x,hx⟩:∃x,sp[i]?=some x:=⟨_,ae (by omega)⟩
      have cX:(sp.map Sp.cs).getD i []=Sp.cs x:=getD_map hx
      have hxh:(sp.getD i ⟨0,0⟩).hi=x.hi:=by rw[ab,hx];rfl
      have r2:=XA (l:=V2) (i:=i) (by omega)
      (refine Ax (aa @g5 (aa @g6 (aa @CY (aa @cX @r2)))) ?_ (CM ?_)<;>intros)
      ·exact .mk V2 ⟨hV2,.inr ⟨i,bP,by omega⟩⟩ (by simp only[pE,Jk];simp[gt])
      ·exact⟨⟨(i+1,ch2,V2),bP,hV2,(fun h=>⟨(hA2 h).1,fun m hm=>by
        by_cases e:m=i
        ·subst e;exact(hA2 h).2.2
        ·exact(hA2 h).2.1 m (by omega)⟩),hB2⟩,by simp,rfl,by simp only;omega⟩
    ·obtain rfl:i=k:=by omega
     refine Au ?_;intros
     refine⟨⟨(ch,V1),YK,fun h=>(hA h).1▸(hA h).2⟩,by simp,rfl,?_⟩
     simp only
     cases ch with
     |false=>obtain rfl:=(hA rfl).1;simp only[cond_false,cond_true];omega
     |true=>have:=hB rfl;simp only[cond_true];omega
  ·rintro env lN ⟨V,⟨hV,hF⟩,Gl⟩
   refine aR.weaken Gl ?_
   clear Gl
   have Cb:=hV.len
   have g1:=s1 V
   have g2:=s2 V
   refine Ax (aa @g1 (aa @g2 @Cb)) ?_;intros
   refine aR.lr (α:={i:Nat//i<=k/\∀m,m<i->V.getD m 0<=(sp.getD m ⟨0,0⟩).hi}) [95] (fun i=>[(95,n i.1)]) (fun _=>S V) (fun i=>k-i.1) ⟨0,aQ _,by simp⟩ ?_
   rintro⟨i,hi,hA⟩
   by_cases bP:i<k
   ·obtain⟨x,hx⟩:∃x,sp[i]?=some x:=⟨_,ae (by omega)⟩
    have cX:(sp.map Sp.cs).getD i []=Sp.cs x:=getD_map hx
    have hxh:(sp.getD i ⟨0,0⟩).hi=x.hi:=by rw[ab,hx];rfl
    have r2:=XA (l:=V) (i:=i) (by omega)
    (refine Ax (aa @g1 (aa @g2 (aa @Cb (aa @cX @r2)))) ?_ (CM ?_)<;>intros)
    ·have ti:¬acm k sp b:=by
      rintro⟨u,hu⟩
      have h1:=hV.le u hu i bP
      have h2:=hu.hi i bP
      try simp only at h2
      omega
     rw[yN ti]
     exact bO.mY ⟨acX _ _,Fq,trivial⟩
    ·exact⟨⟨i+1,bP,od hA (by omega)⟩,by simp,by simp only;omega⟩
   ·obtain rfl:i=k:=by omega
    refine Ax (aa @g1 (aa @g2 @Cb)) ?_;intros
    rw[tE ?_]
    ·exact bO.mY ⟨acX _ _,Fq,trivial⟩
    rcases hF with hF|⟨m,hm,h1⟩
    ·exact⟨fun m=>V.getD m 0,fun m hm=>(hV.lo m hm).2,hA,fun p q hp hq=>by have h1:=hF q hq p hp;have h2:=hM.le p q hp hq;omega⟩
    ·have:=hA m hm;omega
abbrev Q6(fx ea:Int)(L:List j3)(wk:Int)(lv:List Int):Prop:=(gW L).1=0/\acm L.length (Fj L wk lv) (WW fx ea L)
theorem Ts(fx ea:Int)(L:List j3)(wk:Int)(lv:List Int)(h:abi fx ea L wk lv):∃(b:Bool) (e:Int),Pure Tryz.prog 97 [.agg [n fx,n ea],KY L,n wk,l9 lv] (.iu [bl b,n e])/\((e=0/\b=true)↔Q6 fx ea L wk lv):=by
 have hs:=YB fx ea L wk lv h
 obtain⟨e,he⟩:∃e,e=(if(gW L).1≠0 then(gW L).1 else if tr (acm L.length (Fj L wk lv) (WW fx ea L))then 0 else 3):=⟨_,rfl⟩
 have hk:e=0↔Q6 fx ea L wk lv:=by
  rw[he]
  unfold Q6
  by_cases h0:(gW L).1=0
  ·rw[if_neg (by simp[h0])]
   by_cases hk:acm L.length (Fj L wk lv) (WW fx ea L)
   ·rw[if_pos (tE hk)];exact⟨fun _=>⟨h0,hk⟩,fun _=>rfl⟩
   ·rw[if_neg (by rw[yN hk];simp)];exact⟨fun h=>absurd h (by decide),fun h=>absurd h.2 hk⟩
  ·rw[if_pos h0];exact⟨fun h=>absurd h h0,fun h=>absurd h.1 h0⟩
 rw[<-he]at hs
 refine⟨decide (e=0),if e=3 then 0 else e,?_,?_⟩
 ·refine jX Tryz.f97.eq_1 [] [] ?_
  clear he hk
  by_cases h3:e=3
  ·subst h3
   refine Ay @hs ?_;intros
   all_goals try contradiction
   exact Fq
  ·rw[if_neg h3]
   refine Ay @hs ?_;intros
   all_goals try contradiction
   exact Fq
 ·rw[<-hk,decide_eq_true_eq]
  split<;>omega
end Go.Proofs.YtgopgjnfhkoomaaGreat
namespace Go.Abs
theorem eY.over{P:Program}{f:Nat}{args qh:List AV}{σ:aG}{T k:Nat}{rows:List (List AV)}(h:eY P f qh [] (fun r ν=>r=.own 0 0 rows.length/\∃Ru,ν=some [⟨T,k,rows,none⟩]::Ru))(hf:FL σ args qh)(hv:∀e j,e<rows.length->j<k->∃z,(rows.getD e []).getD j .any=.v z)(hk:∀e,e<rows.length->(rows.getD e []).length=k):eY P f args σ (fun r σ'=>r=.own σ.length 0 rows.length/\σ'=σ++[some [⟨T,k,rows,none⟩]]):=by
 refine⟨h.N',fun X β w xs hX hs hl hr=>?_⟩
 have Dd:=hf.len
 have bP:∀b,Xt X β σ b->b<w.heap.size:=fun b hb=>Bk hs hX hb
 have CU:dG w X sJ []:=⟨fun f i f' i' o o' b ho=>by simp[aG.at]at ho,fun f i o b ho=>by simp[aG.at]at ho,fun f i o ho=>by simp[aG.at]at ho⟩
 have nT:∀i,i<qh.length->RV w (Xt X sJ []) sJ [] (qh.getD i .any) (xs.getD i undef):=fun i hi=>by
  have h1:=hf.get i (by omega) w X β _ hs (hr i (by omega))
  refine h1.tr ⟨ar _,fun _ _ _ _ _=>rfl,fun b _ hb=>?_,ar _,fun f i o' hf=>absurd hf (aN _)⟩
  rcases hb with hb|⟨f,i,o,ho,_⟩
  ·exact hb
  ·simp[aG.at]at ho
 refine(h.go X sJ w xs hX CU (by omega) nT).mono ?_
 rintro e w' ⟨x,r,ν,β',rfl,⟨rfl,Ru,rfl⟩,S',hx,E',K'⟩
 obtain⟨ob,ic⟩:∃ob:Ob,ob=⟨T,k,rows,none⟩:=⟨_,rfl⟩
 have abJ:aG.at (some [ob]::Ru) 0 0=some ob:=rfl
 let DW:gr:=fun f i=>if f<σ.length then β f i else β' (f-σ.length) i
 have xe:∀f i,f<σ.length->DW f i=β f i:=fun f i hf=>by simp only[DW,hf,if_true]
 have CG:DW σ.length 0=β' 0 0:=by simp only[DW];rw[if_neg (by omega),jr]
 have hold:∀b,b<w.heap.size->w'.heap[b]?=w.heap[b]?:=fun b hb=>E'.wJ b hb fun⟨f,i,o,ho,_⟩=>by simp[aG.at]at ho
 have yo:∀b,owned β' (some [ob]::Ru) b->w.heap.size<=b:=fun b hb=>(E'.new b (by rw[<-ic];exact hb)).resolve_left fun⟨f,i,o,ho,_⟩=>by simp[aG.at]at ho
 have dQ:∀f i o,aG.at (σ++[some [ob]]) f i=some o->(f<σ.length/\σ.at f i=some o)\/(f=σ.length/\i=0/\o=ob):=fun f i o ho=>by
  rcases CH.1 ho with h|⟨h1,h2⟩
  ·exact .inl h
  ·obtain⟨g,rfl⟩:∃g,f=σ.length+g:=⟨f-σ.length,by omega⟩
   rw[show σ.length+g-σ.length=g by omega]at h2
   cases g with
   |zero=>
    cases i with
    |zero=>simp[aG.at]at h2;exact .inr ⟨rfl,rfl,h2.symm⟩
    |succ i=>simp[aG.at]at h2
   |succ g=>simp[aG.at]at h2
 have how:∀b,owned DW (σ++[some [ob]]) b->owned β σ b\/owned β' (some [ob]::Ru) b:=fun b ⟨f,i,o,ho,hb⟩=>by
  rcases dQ f i o ho with⟨h1,h2⟩|⟨rfl,rfl,rfl⟩
  ·rw[xe f i h1]at hb;exact .inl ⟨f,i,o,h2,hb⟩
  ·rw[CG]at hb;exact .inr ⟨0,0,_,abJ,hb⟩
 have K2:Kp w (Xt X β σ) β σ w' (Xt X DW (σ++[some [ob]])) DW (σ++[some [ob]]):=by
  refine⟨E'.size,fun b o hc _ _=>hold b (ib hc),fun b hb hx=>?_,by rw[aM];omega,fun f i o' hf ho=>?_⟩
  ·rcases hx with hx|hx
   ·exact .inl hx
   ·rcases how b hx with h|h
    ·exact .inr h
    ·have:=yo b h;omega
  ·rcases dQ f i o' ho with⟨_,h2⟩|⟨h1,_⟩
   ·refine⟨o',h2,rfl,ar _,fun _=>⟨xe f i hf,fun b hb c T hc=>⟨c,T,by rw[hold b (ib hc)];exact hc,rfl⟩⟩⟩
   ·omega
 have E2:Ext w β σ w' DW (σ++[some [ob]]):=by
  refine⟨E'.size,fun b hb _=>hold b hb,fun b hb=>?_,E'.io⟩
  rcases how b hb with h|h
  ·exact .inl h
  ·exact .inr (yo b h)
 rw[<-ic]at S' hx
 have S2:dG w' X DW (σ++[some [ob]]):=by
  refine⟨fun f i f' i' o o' b h1 h2 h3 h4=>?_,fun f i o b h1 h3=>?_,fun f i o h1=>?_⟩
  ·rcases dQ _ _ _ h1 with⟨p1,p2⟩|⟨rfl,rfl,rfl⟩
   ·rw[xe f i p1]at h3
    rcases dQ _ _ _ h2 with⟨q1,q2⟩|⟨rfl,rfl,rfl⟩
    ·rw[xe f' i' q1]at h4
     exact hs.inj f i f' i' o o' b p2 q2 h3 h4
    ·rw[CG]at h4
     have:=yo b ⟨0,0,_,abJ,h4⟩
     have:=bP b (.inr ⟨f,i,o,p2,h3⟩)
     omega
   ·rw[CG]at h3
    rcases dQ _ _ _ h2 with⟨q1,q2⟩|⟨rfl,rfl,rfl⟩
    ·rw[xe f' i' q1]at h4
     have:=yo b ⟨0,0,_,abJ,h3⟩
     have:=bP b (.inr ⟨f',i',o',q2,h4⟩)
     omega
    ·exact⟨rfl,rfl⟩
  ·rcases dQ _ _ _ h1 with⟨p1,p2⟩|⟨rfl,rfl,rfl⟩
   ·rw[xe f i p1]at h3;exact hs.xJ f i o b p2 h3
   ·rw[CG]at h3;exact S'.xJ 0 0 _ b abJ h3
  ·rcases dQ _ _ _ h1 with⟨p1,p2⟩|⟨rfl,rfl,rfl⟩
   ·rw[xe f i p1]
    exact(hs.obj f i o p2).tr K2 fun b hb=>hold b (bP b (.inr ⟨f,i,o,p2,hb⟩))
   ·rw[CG]
    have ho:=S'.obj 0 0 _ abJ
    refine⟨ho.1,?_⟩
    have h2:=ho.2
    cases hb:β' 0 0 with
    |none=>rw[hb]at h2;exact h2
    |some b=>
     rw[hb]at h2
     refine⟨fun q=>?_,fun q hq=>by rw[ic]at hq;cases hq⟩
     obtain⟨c,hc,hle,Mr,hrc⟩:=h2.1 q
     refine⟨c,hc,hle,Mr,fun e j he hj=>?_⟩
     have h5:=hrc e j he hj
     rw[ic]at h5 he hj|-
     obtain⟨z,hz⟩:=hv e j he hj
     simp only at h5 hz|-
     rw[hz]at h5|-
     obtain h6:=h5.dz
     rw[h6];exact .v _
 refine⟨x,.own σ.length 0 rows.length,σ++[some [ob]],DW,rfl,⟨rfl,by rw[ic]⟩,S2,?_,E2,K2⟩
 cases hx with
 |own _ _ _ _ g1 g2 g3 g4=>
  refine .own _ _ _ _ g1 (by simp) (fun o ho=>?_) fun o ho hn=>?_
  ·rcases dQ _ _ _ ho with⟨p,_⟩|⟨_,_,rfl⟩
   ·omega
   ·exact g3 _ abJ
  ·rcases dQ _ _ _ ho with⟨p,_⟩|⟨_,_,rfl⟩
   ·omega
   ·rw[CG];exact g4 _ abJ hn
end Go.Abs
