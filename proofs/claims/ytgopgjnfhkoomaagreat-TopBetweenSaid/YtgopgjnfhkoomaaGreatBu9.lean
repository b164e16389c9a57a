/- Part 9 of the texts: abstract values over the walk; contracts. -/
import Derived.Test.YtgopgjnfhkoomaaGreatBu6
import Derived.Test.YtgopgjnfhkoomaaGreatBu7
import Derived.Shelf.SlGeneric
import Derived.Shelf.SlSortCmp.WholeK
import Derived.Test.YtgopgjnfhkoomaaGreatProg
import Derived.Test.YtgopgjnfhkoomaaGreatRows
import Derived.WalkKit
import Derived.Shelf.SlSortCmp.NoneTotal
set_option linter.unusedVariables false
set_option linter.unusedSimpArgs false
namespace Go.Proofs.YtgopgjnfhkoomaaGreat
open Go.Shelf
def Tryz.J1:Go.Shelf.Ren:=⟨fun|6=>196|15=>228|14=>248|28=>274|29=>275|20=>285|21=>286|22=>287|23=>288|24=>289|25=>290|26=>291|27=>292|46=>316|47=>307|48=>308|49=>317|50=>318|57=>334|n=>n,fun|22=>27|24=>164|25=>314|3=>3|39=>348|0=>0|53=>410|55=>412|4=>4|46=>404|45=>403|50=>361|5=>5|9=>9|66=>457|70=>461|76=>471|77=>370|n=>n,fun|n=>n⟩
theorem Tryz.WI:Go.Proofs.SlLaysF0.n6 Tryz.prog Tryz.J1:={
 mixed:=by kernel_rfl
 f6:=⟨Tryz.f196.name,by decide,Tryz.func196.trans (congrArg some (by kernel_rfl))⟩
 f14:=⟨Tryz.f248.name,by decide,Tryz.func248.trans (congrArg some (by kernel_rfl))⟩
 f15:=Tryz.func228.trans (congrArg some (by kernel_rfl))
 f20:=⟨Tryz.f285.name,by decide,Tryz.func285.trans (congrArg some (by kernel_rfl))⟩
 f21:=⟨Tryz.f286.name,by decide,Tryz.func286.trans (congrArg some (by kernel_rfl))⟩
 f22:=⟨Tryz.f287.name,by decide,Tryz.func287.trans (congrArg some (by kernel_rfl))⟩
 f23:=⟨Tryz.f288.name,by decide,Tryz.func288.trans (congrArg some (by kernel_rfl))⟩
 f24:=⟨Tryz.f289.name,by decide,Tryz.func289.trans (congrArg some (by kernel_rfl))⟩
 f25:=⟨Tryz.f290.name,by decide,Tryz.func290.trans (congrArg some (by kernel_rfl))⟩
 f26:=⟨Tryz.f291.name,by decide,Tryz.func291.trans (congrArg some (by kernel_rfl))⟩
 f27:=⟨Tryz.f292.name,by decide,Tryz.func292.trans (congrArg some (by kernel_rfl))⟩
 f28:=Tryz.func274.trans (congrArg some (by kernel_rfl))
 f29:=Tryz.func275.trans (congrArg some (by kernel_rfl))
 f46:=⟨Tryz.f316.name,by decide,Tryz.func316.trans (congrArg some (by kernel_rfl))⟩
 f47:=Tryz.func307.trans (congrArg some (by kernel_rfl))
 f48:=Tryz.func308.trans (congrArg some (by kernel_rfl))
 f49:=⟨Tryz.f317.name,by decide,Tryz.func317.trans (congrArg some (by kernel_rfl))⟩
 f50:=⟨Tryz.f318.name,by decide,Tryz.func318.trans (congrArg some (by kernel_rfl))⟩
 f57:=⟨Tryz.f334.name,by decide,Tryz.func334.trans (congrArg some (by kernel_rfl))⟩
 t0:=Tryz.underlying0
 a0:=Tryz.isAgg0
 z0:=Tryz.sizeOf0
 v0:=Tryz.zeroValue0
 t3:=Tryz.underlying3
 a3:=Tryz.isAgg3
 z3:=Tryz.sizeOf3
 v3:=Tryz.zeroValue3
 t4:=Tryz.underlying4
 a4:=Tryz.isAgg4
 z4:=Tryz.sizeOf4
 v4:=Tryz.zeroValue4
 t5:=Tryz.underlying5
 a5:=Tryz.isAgg5
 z5:=Tryz.sizeOf5
 v5:=Tryz.zeroValue5
 t9:=Tryz.underlying9
 a9:=Tryz.isAgg9
 z9:=Tryz.sizeOf9
 v9:=Tryz.zeroValue9
 t22:=Tryz.underlying27
 a22:=Tryz.isAgg27
 z22:=Tryz.sizeOf27
 v22:=Tryz.zeroValue27
 t25:=Tryz.underlying314
 a25:=Tryz.isAgg314
 z25:=Tryz.sizeOf314
 v25:=Tryz.zeroValue314
 t39:=Tryz.underlying348
 a39:=Tryz.isAgg348
 z39:=Tryz.sizeOf348
 v39:=Tryz.zeroValue348
 t45:=Tryz.underlying403
 a45:=Tryz.isAgg403
 z45:=Tryz.sizeOf403
 v45:=Tryz.zeroValue403
 t46:=Tryz.underlying404
 a46:=Tryz.isAgg404
 z46:=Tryz.sizeOf404
 v46:=Tryz.zeroValue404
 t50:=Tryz.underlying361
 a50:=Tryz.isAgg361
 z50:=Tryz.sizeOf361
 v50:=Tryz.zeroValue361
 t53:=Tryz.underlying410
 a53:=Tryz.isAgg410
 z53:=Tryz.sizeOf410
 v53:=Tryz.zeroValue410
 t55:=Tryz.underlying412
 a55:=Tryz.isAgg412
 z55:=Tryz.sizeOf412
 v55:=Tryz.zeroValue412
 t66:=Tryz.underlying457
 a66:=Tryz.isAgg457
 z66:=Tryz.sizeOf457
 v66:=Tryz.zeroValue457
 t70:=Tryz.underlying461
 a70:=Tryz.isAgg461
 z70:=Tryz.sizeOf461
 v70:=Tryz.zeroValue461
 t76:=Tryz.underlying471
 a76:=Tryz.isAgg471
 z76:=Tryz.sizeOf471
 v76:=Tryz.zeroValue471
 t77:=Tryz.underlying370
 a77:=Tryz.isAgg370
 z77:=Tryz.sizeOf370
 v77:=Tryz.zeroValue370}
end Go.Proofs.YtgopgjnfhkoomaaGreat
namespace Go.Proofs.YtgopgjnfhkoomaaGreat
open Go.Abs
open Nat (reduceAdd reduceSub reduceLT reduceLeDiff reduceMul reduceEqDiff)
set_option maxHeartbeats 4000000
set_option maxRecDepth 100000
open Go.Shelf Go.RowKit Go.Lib Go.Sort
def mz(a:Nt):List AV:=n a.dP::n a.num::n a.clock::n a.day::List.replicate 34 .any
theorem zK:(∀a,(mz a).length=38)/\(∀a,(mz a).take 38=mz a)/\(∀a,(mz a).drop 38=[])/\(∀a,(mz a)[0]?=some (n a.dP))/\(∀a,(mz a)[1]?=some (n a.num))/\(∀a,(mz a)[2]?=some (n a.clock))/\(∀a,(mz a)[3]?=some (n a.day)):=by refine⟨?_,?_,?_,?_,?_,?_,?_⟩<;>intros<;>rfl
theorem WJ(a:Nt):∀c∈mz a,bC c:=by
 intro c hc
 simp only[mz,aC,gD]at hc
 rcases hc with rfl|rfl|rfl|rfl|⟨_,rfl⟩<;>first|exact bC.v _|exact bC.any
@[simp] theorem aa2(a:Nt):bC (.agg (mz a)):=.agg (WJ a)
@[simp] theorem aeP(a:Nt)(j:Nat):bC (.bZ (mz a) j):=.bZ (WJ a)
theorem Rx(a:Nt):Pure Tryz.prog 131 [.agg (mz a)] (.agg [n a.dP,n a.num]):=by
 refine jX Tryz.f131.eq_1 [] [] ?_
 refine Ax @zK ?_;intros
 all_goals exact Fq
theorem M3(a b:Nt):Pure Tryz.prog 197 [.agg (mz a),.agg (mz b)] (n (mH a b)):=by
 refine jX Tryz.f197.eq_1 [] [.d 18] ?_
 have h1:=j6 a.day b.day
 have h2:=j6 a.clock b.clock
 have h4:=oY a.nm b.nm
 have h3:=Ie [vR a.day b.day,vR a.clock b.clock,uC a.nm b.nm] (by simp)
 refine Az @zK (aa @h1 (aa @h2 (aa @h3 (aa @h4 (aa (Rx a) (Rx b)))))) ?_;intros
 refine bO.eq (congrArg n ?_) (by simp)
 unfold mH Pb
 simp only[Ro]
 by_cases h:vR a.day b.day=0<;>simp[h]
 by_cases h':vR a.clock b.clock=0<;>simp[h']
 by_cases h'':uC a.nm b.nm=0<;>simp[h'']
theorem isAgg68(w:World):(isAgg 164).run Tryz.prog w=.ok true w:=by simp[isAgg,run_underlying Tryz.underlying164]
theorem sizeOf68(w:World):(Go.sizeOf 164).run Tryz.prog w=.ok 38 w:=by
 have h:nh Tryz.prog 164=some 38:=by kernel_rfl
 obtain⟨i,hi,h2⟩:=fS h
 simp[Go.sizeOf,typeInfo,hi,h2]
def Ry(a:Nt)(c:List Value):Prop:=c.getD 0 undef=.int .i64 a.dP/\c.getD 1 undef=.int .i64 a.num/\c.getD 2 undef=.int .i64 a.clock/\c.getD 3 undef=.int .i64 a.day
instance :Inhabited (oD Nt 38 Ry):=⟨⟨Ib,List.replicate 38 (.int .i64 0),by simp,fun v hv=>by rw[(gD.1 hv).2];rfl,rfl,rfl,rfl,rfl⟩⟩
theorem Iv(x:oD Nt 38 Ry)(W:World):RV W (fun _=>False) sJ [] (.agg (mz x.a)) (.agg x.c.toArray):=by
 have hk:x.c.length=38:=x.hk
 have h:Ry x.a x.c:=x.h
 refine t_ (by rw[hk];rfl) (fun i hi=>?_) fun i hi=>?_
 ·have hi:i<x.c.length:=by rw[hk];exact hi
  rw[ab,ae hi]
  exact x.h1 _ (cv hi)
 ·match i with
  |0=>exact h.1.symm▸RV.v _
  |1=>exact h.2.1.symm▸RV.v _
  |2=>exact h.2.2.1.symm▸RV.v _
  |3=>exact h.2.2.2.symm▸RV.v _
  |i+4=>
   have:(mz x.a).getD (i+4) .any=.any:=by
    show(List.replicate 34 AV.any).getD i .any=.any
    rw[ab,fl]
    split<;>rfl
   rw[this];exact .any _
theorem G_(g:Nat)(cf:Nt->Nt->Int)(hO:SWO (ltOf fun x y:oD Nt 38 Ry=>cf x.a y.a))(eg:∀args w,(callFunc g args).run Tryz.prog w=.ok (.enter g args) w)(hc:∀a b,Pure Tryz.prog g [.agg (mz a),.agg (mz b)] (n (cf a b)))(σ:aG)(f:Nat)(l:List Nt)(hf:σ.at f 0=some ⟨164,38,l.map Nt.cs,none⟩)(hl:l.length<4611686018427387904):eY Tryz.prog 196 [.own f 0 l.length,.fn (.func g) [] []] σ (fun _ σ'=>∃l':List Nt,l'.Perm l/\l'.Pairwise (fun a b=>0<=cf b a)/\σ'=σ.cZ f 0 ⟨164,38,l'.map Nt.cs,none⟩):=
 BL Tryz.WI Nt.cs Ry (fun a=>rfl) (fun w X β σ a x hx hr=>⟨(hr 0 (by decide)).dz,(hr 1 (by decide)).dz,(hr 2 (by decide)).dz,(hr 3 (by decide)).dz⟩)
  isAgg68 sizeOf68 g eg cf hO (fun x y W=>sV (hc x.a y.a) [.agg x.c.toArray,.agg y.c.toArray] W rfl fun i hi=>by
   match i,hi with
   |0,_=>exact Iv x W
   |1,_=>exact Iv y W) Tryz.call196 σ f 164 l hf hl
theorem aae:SWO (ltOf fun x y:oD Nt 38 Ry=>mH x.a y.a):=by
 have e:∀x y:oD Nt 38 Ry,ltOf (fun x y:oD Nt 38 Ry=>mH x.a y.a) x y=decide (mH x.a y.a<0):=fun x y=>rfl
 refine⟨fun x=>?_,fun x y z h1 h2=>?_,fun x y z h1 h2=>?_⟩
 ·rw[e,decide_eq_false_iff_not,o3];omega
 ·rw[e,decide_eq_true_eq,o3]at*;omega
 ·rw[e,decide_eq_false_iff_not,o3]at*;omega
theorem Ha(σ:aG)(f:Nat)(l:List Nt)(hf:σ.at f 0=some ⟨164,38,l.map Nt.cs,none⟩)(hl:l.length<4611686018427387904)(hn:(l.map Nt.nm).Nodup):eY Tryz.prog 196 [.own f 0 l.length,.fn (.func 197) [] []] σ (fun _ σ'=>σ'=σ.cZ f 0 ⟨164,38,(Cw l).map Nt.cs,none⟩):=
 (G_ 197 mH aae Tryz.call197 M3 σ f l hf hl).mono fun r σ' ⟨l',h1,h2,h3⟩=>by rw[h3,Mz hn h1 h2]
end Go.Proofs.YtgopgjnfhkoomaaGreat
namespace Go.Proofs.YtgopgjnfhkoomaaGreat
open Go.Abs
open Nat (reduceAdd reduceSub reduceLT reduceLeDiff reduceMul reduceEqDiff)
set_option maxHeartbeats 4000000
set_option maxRecDepth 100000
theorem M4(l:List Int)(v:Int)(hl:l.length<9223372036854775808):Pure Tryz.prog 81 [l9 l,n v] (n (fj (fun x=>decide (v=x)) 0 l)):=by
 refine jX Tryz.f81.eq_1 [] [.l [0,1,7,8]] ?_
 refine Au ?_;intros
 refine aR.li 8 l.length (fun i=>fj (fun x=>decide (v=x)) i (l.drop i)=fj (fun x=>decide (v=x)) 0 l) (by simp) ?_
 ·intro i hi hI
  by_cases bP:i<l.length
  ·obtain⟨x,hx⟩:∃x,l[i]?=some x:=⟨_,ae bP⟩
   rw[drop_cons hx,fj]at hI
   (refine Ax (Kf hx) ?_ (CM ?_)<;>intros)
   ·rename_i h
    rw[if_pos (decide_eq_true h)]at hI
    rw[<-hI]
    exact Fq
   ·rename_i h
    rw[if_neg (by rw[decide_eq_false h];exact gC)]at hI
    exact⟨⟨i+1,bP,hI⟩,by simp,by simp only;omega⟩
  ·obtain rfl:i=l.length:=by omega
   rw[c_,fj]at hI
   refine Au ?_;intros
   rw[<-hI]
   exact Fq
theorem w9(l:List Int)(v:Int)(hl:l.length<9223372036854775808):Pure Tryz.prog 32 [l9 l,n v] (bl (l.any fun x=>decide (v=x))):=by
 refine jX Tryz.f32.eq_1 [] [] ?_
 have h:=lK (fun x=>decide (v=x)) l 0
 rw[<-h]
 refine Ay (M4 l v hl) ?_;intros
 exact Fq
abbrev pL(l:List Nt):List (List Int×AV):=jQ bl (wZ l)
theorem Iw{β:Type}{f:β->AV}(m:List (Nm×β))(h:∀x,bC (f x)):∀e∈jQ f m,bC e.2:=by
 intro e he
 simp only[jQ,aO]at he
 obtain⟨x,_,rfl⟩:=he
 exact h _
theorem J2{σ:aG}{f:Nat}{l:List Nt}(h:σ.at f 0=some ⟨0,0,[],some (.mp 2 (pL l))⟩):bO σ (.mp f) (.j4 2 (pL l)):=
 bO.mp h rfl rfl (fun i hi=>rfl) fun i hi=>bO.eq rfl (Iw _ (fun _=>by simp) _ (j9 hi))
abbrev xI(l:List Nt):List Nt:=l.filter fun a=>a.kind !=7
theorem sX(l:List Nt)(hl:pK l)(we:l.length<=400)(hn:(l.map Nt.nm).Nodup)(ks:List Int)(q:AV)(hq:q=l9 ks\/q=.v (.slice none 0 0)):Pure Tryz.prog 130 [Ad l,q] (.fn (.func 198) [] [.bZ [Ad (Cw (xI l))] 0,.bZ [.j4 2 (pL l)] 0,.bZ [q] 0]):=by
 refine et 30 (jo [jx 3 28 1 1,jw 4 (.mv (.c (.nilFunc)))] [0,3] (jo [jw 9 (.qn 2),jw 5 (.alloc 255 1 [.map none]),js 1 5 9] [0,3,5] (jo [jw 6 (.alloc 27 1 [.slice none 0 0])] [0,3,5,6] (.seq (jo [jm 10 0,je 11 10,jc 12 0] [3,5,6,10,11,12] (.block 0 (.loop (jo [jt .lss 13 12 11] [3,5,6,10,11,12,13] (.seq (.cond (.t 13) .skip (.exit 0)) (.seq (.block 1 (jo [ji 14 38 10 12,jk 15 38 14,jw 8 (.alloc 164 38 vj),js 38 8 15] [3,5,6,8,10,11,12] (jo [jf 16 4 8,jl 17 16,ju .eql 18 17 7] [3,5,6,8,10,11,12,18] (.cond (.t 18) (.ops [jl 19 5,jf 20 36 8,jk 21 2 20,⟨none,.pR 2 (.t 19) (.t 21) (.c (.bool true)),none⟩] [3,5,6,10,11,12]) (.ops [jl 22 6,jk 23 38 8,jw 24 (.jR false 164 38 1 vj [(0,38,(.t 23))]),jw 25 (.app 164 38 368 (.t 22) (.t 24)),js 1 6 25] [3,5,6,10,11,12]))))) (.ops [ju .add 26 12 1,jm 12 26] [3,5,6,10,11,12]))))))) (jo [jl 27 6,jw 28 (.call (.f 196) [(.t 27),(.f 197)])] [3,5,6] (jo [jw 29 (.j5 (.func 198) [] [(.t 6),(.t 5),(.t 3)]),jm 4 29] [4] .ret)))))) [.t 4] Tryz.call130 Tryz.func130 ?_
 have Cb:=hl.1
 rcases hq with rfl|rfl
 all_goals(
  refine Au ?_;intros
  refine aR.lH 164 38 (f:=2) (i:=0) (e:=0) (j:=0) rfl (by simp) rfl ?_
  refine aR.mT (α:={x:Nat×aG//x.1<=l.length}) [12] (fun x=>[(12,n x.1.1)])
   (fun x=>some [⟨0,0,[],some (.mp 2 (pL (l.take x.1.1)))⟩]::some [⟨255,1,[[.mp 0]],none⟩]::some [⟨27,1,[[.own 3 0 (xI (l.take x.1.1)).length]],none⟩]::some [⟨164,38,(xI (l.take x.1.1)).map Nt.cs,none⟩]::x.1.2)
   (fun x=>l.length-x.1.1) ⟨(0,[]),by simp⟩ ?_ ?_ ?_
  ·exact Sb_
  ·rfl
  ·rintro⟨⟨i,ν⟩,hi⟩
   simp only at hi
   by_cases bP:i<l.length
   ·have hs:(l.map Nt.cs).getD i []=Nt.cs (l.getD i default):=row default bP
    have hg:=GM (fh default bP)
    have ho:=o5 (q:=fun a:Nt=>a.kind !=7) (fh default bP)
    have hlen:(xI (l.take i)).length<=i:=bT (bK _ _) (by rw[bH];omega)
    generalize l.getD i default=a at hs hg ho
    by_cases hk:a.kind=7
    ·rw[if_pos hk]at hg
     rw[show(a.kind !=7)=false by simp[hk]]at ho
     simp only[bw,if_false]at ho
     have hm:ku (pL (l.take i)) [a.ref.dP,a.ref.num] (bl true)=pL (l.take (i+1)):=by rw[pL,pL,hg];exact jA bl a.ref true _
     generalize pL (l.take i)=M at hm
     generalize Tk:pL (l.take (i+1))=M' at hm
     generalize hO:xI (l.take i)=O at hlen
     rw[show(l.take i).filter (fun a:Nt=>a.kind !=7)=O from hO]at ho
     refine Ax (aa @hs (aa @hk @hm)) ?_;intros
     exact⟨⟨(i+1,ν++[some [⟨164,38,[a.cs],none⟩]]),bP⟩,by simp,by simp only[Tk,xI,ho],by simp only;omega⟩
    ·rw[if_neg hk]at hg
     rw[show(a.kind !=7)=true by simp[hk]]at ho
     simp only[if_true]at ho
     generalize hO:xI (l.take i)=O at hlen
     rw[show(l.take i).filter (fun a:Nt=>a.kind !=7)=O from hO]at ho
     refine Ax @hs ?_;intros
     exact⟨⟨(i+1,ν++[some [⟨164,38,[a.cs],none⟩]]),bP⟩,by simp,by simp[pL,hg,xI,ho],by simp only;omega⟩
   ·obtain rfl:i=l.length:=by omega
    rw[aI]
    refine Au ?_;intros
    have hlen:(xI l).length<=l.length:=bK _ _
    refine .inr (.inl ⟨_,_,_,_,rfl,fun _=>⟨Ha _ 3 (xI l) rfl (by omega) (hn.sublist ((List.filter_sublist (l:=l)).map _)),?_⟩,fun h=>by cases h⟩)
    rintro r σ' rfl
    refine aH ?_
    refine Au ?_;intros
    refine bO.fnL ⟨bO.ptr rfl rfl (by simp) rfl ?_,bO.ptr rfl rfl (by simp) rfl ?_,bO.pure (by simp),trivial⟩
    ·intro t ht
     obtain rfl:t=0:=by simpa using ht
     exact bO.gZ (T:=164) rfl (nP _).length_eq (by decide) (fun a=>Nt.pc a) (fun a=>rfl)
    ·intro t ht
     obtain rfl:t=0:=by simpa using ht
     exact J2 rfl)
abbrev wg(l:List Nt):List (List AV):=l.map fun a=>[tJ a]
theorem Hb{α:Type}{q:α->Bool}{l:List α}{i:Nat}{a:α}(h:l[i]?=some a)(hq:q a=true):(l.filter q)[((l.take i).filter q).length]?=some a:=by
 have e:l=l.take i++l.drop i:=(e_ _ _).symm
 have h1:l.filter q=(l.take i).filter q++(l.drop i).filter q:=by rw[<-fK,<-e]
 rw[h1,bE (ar _),jr,drop_cons h,List.filter_cons,if_pos hq];rfl
inductive kS(C:Nat)(J:Nat->aG->Prop)(D:aG->Prop)(m:Nat):aG->Prop
 |mk(τ ν:aG){σ:aG}(h:σ=τ++ν)(hC:τ.length=C)(hJ:J m τ\/D τ):kS C J D m σ
theorem kS.out{C:Nat}{J:Nat->aG->Prop}{D:aG->Prop}{m:Nat}{σ:aG}(h:kS C J D m σ):∃τ ν,σ=τ++ν/\τ.length=C/\(J m τ\/D τ):=by
 cases h with
 |mk τ ν h hC hJ=>exact⟨τ,ν,h,hC,hJ⟩
theorem A6(o:List Nt)(ho:o.length<9223372036854775808)(W:List (List Int×AV))(g:Nm->Bool)(hW:∀m:Nm,jD W [m.dP,m.num]=if g m=true then some (bl true)else none)(ks:List Int)(xz:ks.length<9223372036854775808)(q:AV)(hq:q=l9 ks\/q=.v (.slice none 0 0)/\ks=[]):Iter Tryz.prog 198 [] [.bZ [Ad o] 0,.bZ [.j4 2 W] 0,.bZ [q] 0] (wg (o.filter fun a=>!g a.nm&&(ks.isEmpty||ks.any fun x=>decide (a.kind=x)))):=by
 refine⟨Tryz.call198,fun C y J D σ hy hC hJ ew=>?_⟩
 generalize hp:(fun a:Nt=>!g a.nm&&(ks.isEmpty||ks.any fun x=>decide (a.kind=x)))=p at ew|-
 refine eY.mono (R:=fun _ iX=>kS C J D (wg (o.filter p)).length iX) ?_ fun _ _ h=>h.out
 refine qY 34 (jo [jl 7 1,je 8 7,jc 9 0] [0,2,3,7,8,9] (.block 0 (.loop (jo [jt .lss 10 9 8] [0,2,3,7,8,9,10] (.seq (.cond (.t 10) .skip (.exit 0)) (.seq (.block 1 (jo [ji 11 38 7 9,jk 12 38 11,jw 6 (.alloc 164 38 vj),js 38 6 12] [0,2,3,6,7,8,9] (.seq (.seq (.draw [jl 13 2,jk 14 38 6,jy 15 131 [14],jw 16 (.look 2 false [.bool false] false (.t 13) (.t 15)),jm 17 16,jd 17 (jl 18 3),jd 17 (je 19 18),jd 17 (ju .gtr 20 19 0),jd 17 (jm 21 20),ja 21 (jl 22 3),ja 21 (jf 23 4 6),ja 21 (jl 24 23),ja 21 (jy 25 32 [22,24]),ja 21 (jv 26 25),jd 17 (jp 27 21 26),jq 28 17 27] [] [0,2,3,6,7,8,9,28]) (.cond (.t 28) (.exit 1) .skip)) (jo [jm 29 0,jk 30 38 6,jw 31 (.call (.t 29) [(.t 30)]),jv 32 31] [0,2,3,7,8,9,32] (.cond (.t 32) .ret .skip))))) (.ops [ju .add 33 9 1,jm 9 33] [0,2,3,7,8,9]))))))) [] Tryz.call198 Tryz.func198 ?_
 refine Au ?_;intros
 refine aR.lr (α:={x:Nat×aG×aG//x.1<=o.length/\x.2.1.length=C/\J ((o.take x.1).filter p).length x.2.1}) [9] (fun x=>[(9,n x.1.1)]) (fun x=>x.1.2.1++x.1.2.2) (fun x=>o.length-x.1.1) ⟨(0,σ,[]),by simp,hC,hJ⟩ ?_
 ·rintro⟨⟨k,τ,ν⟩,hk,pD,ze⟩
  simp only at hk pD ze
  by_cases bP:k<o.length
  ·have hs:(o.map Nt.cs).getD k []=Nt.cs (o.getD k default):=row default bP
   have kF:=fh default bP
   have uU:=o5 (q:=p) kF
   have K3:p (o.getD k default)=true->(wg (o.filter p))[((o.take k).filter p).length]?=some [tJ (o.getD k default)]:=fun h=>by
    rw[wg,aV,Hb kF h];rfl
   have Ag:=congrFun hp (o.getD k default)
   generalize o.getD k default=a at hs uU K3 Ag
   have hw:=hW a.nm
   simp only at hw Ag
   have hc:=w9 ks a.kind xz
   by_cases hg:g a.nm=true
   ·rw[if_pos hg]at hw
    rw[hg]at Ag
    simp only[Bool.not_true,gq]at Ag
    rw[if_neg (by rw[<-Ag];exact gC)]at uU
    have Yq:J ((o.take (k+1)).filter p).length τ:=by rw[uU];exact ze
    rcases hq with rfl|⟨rfl,rfl⟩
    ·refine Az (aa @hs @hw) (aa (cY a) @hc) ?_;intros
     exact⟨⟨(k+1,τ,_),bP,pD,Yq⟩,by simp,rfl,by simp only;omega⟩
    ·refine Az (aa @hs @hw) (cY a) ?_;intros
     exact⟨⟨(k+1,τ,_),bP,pD,Yq⟩,by simp,rfl,by simp only;omega⟩
   ·rw[if_neg hg]at hw
    rw[show g a.nm=false by simpa using hg]at Ag
    simp only[Bool.not_false,ga]at Ag
    have vG:p a=true->J ((o.take k).filter p).length τ->th Tryz.prog y [tJ a] (τ++(ν++[some [⟨164,38,[a.cs],none⟩]])) (fun b iX=>∃iv gz,iX=iv++((ν++[some [⟨164,38,[a.cs],none⟩]])++gz)/\iv.length=C/\(b=true->J ((o.take (k+1)).filter p).length iv)/\(b=false->D iv)):=fun h hj=>by
     rw[uU,if_pos h,aM]
     exact ew _ _ τ _ (K3 h) pD hj
    have ti:p a=false->J ((o.take (k+1)).filter p).length τ:=fun h=>by rw[uU,h];exact ze
    rcases gB ks.length with h0|h0
    ·obtain rfl:ks=[]:=cd.1 h0
     rcases hq with rfl|⟨rfl,_⟩
     ·simp only[List.isEmpty_nil,Bool.true_or]at Ag
      refine Az (aa @hs @hw) (cY a) ?_;intros
      refine .inr (.inr ⟨y,_,rfl,fun _=>⟨vG Ag.symm ze,?_⟩,fun h=>by cases h⟩)
      rintro b σ' ⟨iv,gz,rfl,jW,xe,CG⟩
      refine aH ?_
      refine adL ?_
      cases b with
      |false=>
       refine Au ?_;intros
       exact kS.mk iv _ rfl jW (.inr (CG rfl))
      |true=>
       refine Au ?_;intros
       exact⟨⟨(k+1,iv,_),bP,jW,xe rfl⟩,by simp,rfl,by simp only;omega⟩
     ·simp only[List.isEmpty_nil,Bool.true_or]at Ag
      refine Az (aa @hs @hw) (cY a) ?_;intros
      refine .inr (.inr ⟨y,_,rfl,fun _=>⟨vG Ag.symm ze,?_⟩,fun h=>by cases h⟩)
      rintro b σ' ⟨iv,gz,rfl,jW,xe,CG⟩
      refine aH ?_
      refine adL ?_
      cases b with
      |false=>
       refine Au ?_;intros
       exact kS.mk iv _ rfl jW (.inr (CG rfl))
      |true=>
       refine Au ?_;intros
       exact⟨⟨(k+1,iv,_),bP,jW,xe rfl⟩,by simp,rfl,by simp only;omega⟩
    ·obtain rfl:q=l9 ks:=hq.elim id fun h=>by rw[h.2]at h0;simp at h0
     have he:ks.isEmpty=false:=by cases ks<;>simp at h0|-
     rw[he]at Ag
     simp only[Bool.false_or]at Ag
     rw[Ag]at hc
     cases Yr:p a with
     |true=>
      rw[Yr]at hc Ag
      refine Az (aa @hs @hw) (aa (cY a) @hc) ?_;intros
      refine .inr (.inr ⟨y,_,rfl,fun _=>⟨vG Yr ze,?_⟩,fun h=>by cases h⟩)
      rintro b σ' ⟨iv,gz,rfl,jW,xe,CG⟩
      refine aH ?_
      refine adL ?_
      cases b with
      |false=>
       refine Au ?_;intros
       exact kS.mk iv _ rfl jW (.inr (CG rfl))
      |true=>
       refine Au ?_;intros
       exact⟨⟨(k+1,iv,_),bP,jW,xe rfl⟩,by simp,rfl,by simp only;omega⟩
     |false=>
      rw[Yr]at hc
      have Yq:=ti Yr
      refine Az (aa @hs @hw) (aa (cY a) @hc) ?_;intros
      exact⟨⟨(k+1,τ,_),bP,pD,Yq⟩,by simp,rfl,by simp only;omega⟩
  ·obtain rfl:k=o.length:=by omega
   refine Au ?_;intros
   exact kS.mk τ _ rfl pD (.inl (by simpa using ze))
structure Pp where
 pi:Int
 he:Int
 ra:Int
 lo:Int
 hi:Int
 co:Int
 al:Sp
 cl:Sp
abbrev Pp.pr(p:Pp):AN:=⟨p.pi,p.he,p.ra,p.lo,p.hi,p.co,p.al,p.cl⟩
abbrev Pp.cs(p:Pp):List AV:=[n p.pi,n p.he,n p.ra,n p.lo,n p.hi,n p.co,n p.al.lo,n p.al.hi,n p.cl.lo,n p.cl.hi]
def Pp.iV(p:Pp):Prop:=1<=p.pi/\p.pi<=10000/\1<=p.he/\p.he<=400000/\(p.ra=0\/p.he<=p.ra/\p.ra<=4000000)/\0<=p.lo/\p.lo<p.hi/\p.hi<=12000/\p.hi-p.lo<=p.he/\1<=p.co/\p.co<=200/\p.al.ok/\p.cl.ok
theorem Pp.Nh{p:Pp}(h:p.pr.ok):p.iV:=by
 obtain⟨⟨a,b⟩,⟨c,d⟩,e,f,g,i,j,⟨k,l⟩,m,o⟩:=h
 exact⟨a,b,c,d,e,f,g,i,j,k,l,m,o⟩
abbrev Ni(p:Pt):Prop:=0<=p.x/\p.x<=400000/\0<=p.y/\p.y<=400000/\0<=p.half/\p.half<=5000
theorem Pt.Nh{p:Pt}(h:p.ok):Ni p:=by obtain⟨⟨a,b⟩,⟨c,d⟩,e,f⟩:=h;exact⟨a,b,c,d,e,f⟩
def sZ(p:Pp)(l:List Pt):Int:=if p.pr.ok then(nr l).1 else 10
theorem J'(p:Pp)(l:List Pt)(hl:l.length<1000000000):∃q:Pp,Pure Tryz.prog 86 [.agg p.cs,AO l] (.iu [.agg q.cs,n (sZ p l)])/\(sZ p l=0->q=p):=by
 by_cases h:p.pr.ok
 ·refine⟨p,?_,fun _=>rfl⟩
  unfold sZ
  rw[if_pos h]
  refine jX Tryz.f86.eq_1 [] [] ?_
  have h1:=lP p.pr
  rw[if_pos h]at h1
  refine Ay (aa @h1 (lQ l (by omega))) ?_;intros
  all_goals exact Fq
 ·refine⟨Pp.mk 0 0 0 0 0 0 ⟨0,0⟩ ⟨0,0⟩,?_,fun e=>?_⟩
  ·unfold sZ
   rw[if_neg h]
   refine jX Tryz.f86.eq_1 [] [] ?_
   have h1:=lP p.pr
   rw[if_neg h]at h1
   refine Az (show decide (¬(10:Int)=0)=true from rfl) @h1 ?_;intros
   all_goals exact Fq
  ·unfold sZ at e;rw[if_neg h]at e;cases e
def Pp.Hi(p:Pp)(y:Int):Int:=if p.ra=0 then 0 else(y*(p.he-y)).tdiv (2*p.ra)
def Pp.level(p:Pp)(y:Int):Int:=p.lo+(y*(p.hi-p.lo)).tdiv p.he
theorem Du{a b A:Int}(h1:0<=a)(h2:a<=A)(h3:1<=b):0<=a.tdiv b/\a.tdiv b<=A:=by
 rw[k8 h1]
 exact⟨Int.ediv_nonneg h1 (by omega),Int.le_trans (Int.ediv_le_self b h1) h2⟩
theorem Nj(p:Pp)(y:Int)(hg:p.iV)(h0:0<=y)(h1:y<=p.he):Pure Tryz.prog 167 [.agg p.cs,n y] (n (p.Hi y)):=by
 refine jX Tryz.f167.eq_1 [] [] ?_
 unfold Pp.Hi
 obtain⟨g1,g2,g3,g4,g5,g6,g7,g8,g9,g10,g11,g12,g13⟩:=hg
 have hm:=yG h0 (show y<=400000 by omega) (show 0<=p.he-y by omega) (show p.he-y<=400000 by omega)
 by_cases hr:p.ra=0
 ·rw[if_pos hr]
  refine Au ?_;intros
  all_goals first|(exfalso;omega)|exact Fq
 ·rw[if_neg hr]
  have hd:=Du hm.1 hm.2 (show 1<=2*p.ra by omega)
  refine Ax (aa (cB (p.he-y) (by omega) (by omega)) (aa (cB (y*(p.he-y)) (by omega) (by omega)) (aa (cB (2*p.ra) (by omega) (by omega)) (cB ((y*(p.he-y)).tdiv (2*p.ra)) (by omega) (by omega))))) ?_;intros
  all_goals first|(exfalso;omega)|exact Fq
theorem Hj(p:Pp)(y:Int)(hg:p.iV)(h0:0<=y)(h1:y<=p.he):Pure Tryz.prog 90 [.agg p.cs,n y] (n (p.level y)):=by
 refine jX Tryz.f90.eq_1 [] [.d 18] ?_
 obtain⟨g1,g2,g3,g4,g5,g6,g7,g8,g9,g10,g11,g12,g13⟩:=hg
 have hm:=yG h0 (show y<=400000 by omega) (show 0<=p.hi-p.lo by omega) (show p.hi-p.lo<=12000 by omega)
 have hd:=Du hm.1 hm.2 (show 1<=p.he by omega)
 refine Ax (aa (cB (p.hi-p.lo) (by omega) (by omega)) (aa (cB (y*(p.hi-p.lo)) (by omega) (by omega)) (aa (cB ((y*(p.hi-p.lo)).tdiv p.he) (by omega) (by omega)) (cB (p.lo+(y*(p.hi-p.lo)).tdiv p.he) (by omega) (by omega))))) ?_;intros
 all_goals first|(exfalso;omega)|exact Fq
theorem P5{a b:Int}(hb:0<b):(a.tmod b<0->a.tdiv b-1=a/b)/\(¬a.tmod b<0->a.tdiv b=a/b):=by
 have h1:=Int.mul_tdiv_add_tmod a b
 have h2:=Int.mul_ediv_add_emod a b
 have h3:=Int.emod_nonneg a (show b≠0 by omega)
 have h4:=Int.emod_lt_of_pos a hb
 have h5:a.tmod b<b:=Int.tmod_lt_of_pos a hb
 have h6:-b<a.tmod b:=by have:=Int.lt_tmod_of_pos a hb;omega
 generalize a.tdiv b=q at*
 generalize a/b=e at*
 generalize a.tmod b=r at*
 generalize a % b=s at*
 constructor
 ·intro hr
  have h7:b*(q-e)=s-r:=by rw[Int.mul_sub];omega
  have h8:0<b*(q-e):=by omega
  have h9:b*(q-e)<b*2:=by omega
  have g1:=Int.pos_of_mul_pos_right h8 hb
  have g2:=Int.lt_of_mul_lt_mul_left h9 (by omega)
  omega
 ·intro hr
  have h7:b*(q-e)=s-r:=by rw[Int.mul_sub];omega
  have h8:b*(-1)<b*(q-e):=by omega
  have h9:b*(q-e)<b*1:=by omega
  have g1:=Int.lt_of_mul_lt_mul_left h8 (by omega)
  have g2:=Int.lt_of_mul_lt_mul_left h9 (by omega)
  omega
theorem Dv{a b A:Int}(h1:-A<=a)(h2:a<=A)(hA:0<=A)(h3:1<=b):-A<=a/b/\a/b<=A:=by
 constructor
 ·rw[Int.le_ediv_iff_mul_le (by omega)]
  have:-A*b<=-A*1:=Int.mul_le_mul_of_nonpos_left (by omega) h3
  omega
 ·have h4:a/b<=A/b:=Int.ediv_le_ediv (by omega) h2
  have h5:=Int.ediv_le_self b hA
  omega
theorem p_(a b:Int)(hb:1<=b)(h1:-1000000000000000<=a)(h2:a<=1000000000000000):Pure Tryz.prog 168 [n a,n b] (n (a/b)):=by
 refine jX Tryz.f168.eq_1 [] [] ?_
 have hf:=P5 (a:=a) (show 0<b by omega)
 have hd:=Dv h1 h2 (by omega) hb
 by_cases h:a.tmod b<0
 ·have:=hf.1 h
  refine Ax (aa (cB (a.tdiv b) (by omega) (by omega)) (aa @this (cB (a/b) (by omega) (by omega)))) ?_;intros
  all_goals first|(exfalso;omega)|exact Fq
 ·have:=hf.2 h
  refine Ax (aa @this (cB (a/b) (by omega) (by omega))) ?_;intros
  all_goals first|(exfalso;omega)|exact Fq
def Pp.along(p:Pp)(t:Pt):Sp:=p.al.pZ t.x t.half
def Pp.fW(p:Pp)(t:Pt):Sp:=p.cl.pZ t.y t.half
def Pp.cz(p:Pp)(t:Pt):Sp:=⟨(p.fW t).lo,min (p.fW t).hi p.he⟩
theorem wi(s:Sp)(x h:Int)(hs:s.ok)(hx:0<=x/\x<=400000)(hh:0<=h/\h<=5000):0<=(s.pZ x h).lo/\(s.pZ x h).lo<=405000000/\0<=(s.pZ x h).hi/\(s.pZ x h).hi<=405000000:=by
 have h1:=Dv (a:=(x-h)*1000) (b:=s.hi) (A:=405000000) (by omega) (by omega) (by omega) (by omega)
 have h2:=Dv (a:=(x+h)*1000) (b:=s.lo) (A:=405000000) (by omega) (by omega) (by omega) (by omega)
 have h3:0<=((x+h)*1000)/s.lo:=Int.ediv_nonneg (by omega) (by omega)
 simp only[Sp.pZ]
 omega
theorem xb(x h:Int)(s:Sp)(hs:s.ok)(hx:0<=x/\x<=400000)(hh:0<=h/\h<=5000):Pure Tryz.prog 225 [n x,n h,.agg s.cs] (.agg (s.pZ x h).cs):=by
 refine jX Tryz.f225.eq_1 [] [.d 16] ?_
 unfold Sp.pZ
 have h1:=p_ ((x-h)*1000) s.hi (by omega) (by omega) (by omega)
 have h2:=p_ ((x+h)*1000) s.lo (by omega) (by omega) (by omega)
 refine Az (aa (cB (x-h) (by omega) (by omega)) (aa (cB ((x-h)*1000) (by omega) (by omega)) (aa (cB (x+h) (by omega) (by omega)) (cB ((x+h)*1000) (by omega) (by omega))))) (aa @h1 @h2) ?_;intros
 exact Fq
theorem Hk(p:Pp)(t:Pt)(hg:p.iV)(ht:Ni t):Pure Tryz.prog 165 [.agg p.cs,.agg t.cs] (.agg (p.along t).cs):=by
 refine jX Tryz.f165.eq_1 [] [] ?_
 have h:=xb t.x t.half p.al hg.2.2.2.2.2.2.2.2.2.2.2.1 ⟨ht.1,ht.2.1⟩ ⟨ht.2.2.2.2.1,ht.2.2.2.2.2⟩
 refine Ay @h ?_;intros
 exact Fq
theorem Fc(p:Pp)(t:Pt)(hg:p.iV)(ht:Ni t):Pure Tryz.prog 226 [.agg p.cs,.agg t.cs] (.agg (p.fW t).cs):=by
 refine jX Tryz.f226.eq_1 [] [] ?_
 have h:=xb t.y t.half p.cl hg.2.2.2.2.2.2.2.2.2.2.2.2 ⟨ht.2.2.1,ht.2.2.2.1⟩ ⟨ht.2.2.2.2.1,ht.2.2.2.2.2⟩
 refine Ay @h ?_;intros
 exact Fq
theorem Dw(p:Pp)(t:Pt)(hg:p.iV)(ht:Ni t):Pure Tryz.prog 166 [.agg p.cs,.agg t.cs] (.agg (p.cz t).cs):=by
 refine jX Tryz.f166.eq_1 [] [] ?_
 refine Ay (Fc p t hg ht) ?_;intros
 exact Fq
theorem wj(p:Pp)(t:Pt):Pure Tryz.prog 88 [.agg p.cs,.agg t.cs] (.fn (.func 164) [] [.bZ p.cs 0,.bZ t.cs 0]):=by
 refine jX Tryz.f88.eq_1 [] [] ?_
 refine Au ?_;intros
 exact Fq
end Go.Proofs.YtgopgjnfhkoomaaGreat
