/- Part 15 of the texts: abstract values over the walk; contracts. -/
import Derived.Test.YtgopgjnfhkoomaaGreatBu10
import Derived.Test.YtgopgjnfhkoomaaGreatBu13
import Derived.Test.YtgopgjnfhkoomaaGreatRows
import Derived.Shelf.Spec.SlicesInsert
import Derived.Laws.MakeOwn
import Derived.LoopN
import Derived.Test.YtgopgjnfhkoomaaGreatProg
import Derived.Shelf.SortM.Plain
import Derived.Shelf.SortM.SortNone
set_option linter.unusedVariables false
set_option linter.unusedSimpArgs false
namespace Go.Abs
def Un(P:Program)(N:Nat)(rd:Option Nat)(c:C)(K:e7):Nat->Env->aG->Prop
 |0,_,_=>False
 |k+1,env,σ=>aR P N rd c (fun e env σ=>match e with
  | .normal=>Un P N rd c K k env σ
  |e=>K e env σ) env σ
theorem aR.turns{P:Program}{N:Nat}{rd:Option Nat}{K:e7}{env:Env}{σ:aG}{c:C}(k:Nat)(h:Un P N rd c K k env σ):aR P N rd (.loop c) K env σ:=by
 intro code hc n0 X β a w cn
 cases code<;>simp[kY]at hc
 rename_i body
 have key:∀k env σ,Un P N rd c K k env σ->∀lf a1 w1,lY N n0 X env σ lf a1 w1->∀(b:Frame) (kk:List Item) (cs:List Frame),b.roundOf=(tg rd).round->(tg rd).fn b.fn->(tg rd).room (cs.length+1+0)->
  ∃e a' w',nC N n0 X w1 lf σ K e a' w'/\ArrivesIn (Machine.fenced P (tg rd)) P (lone (b.atR a1 (.code body::.inLoop body::kk)) cs w1) b kk cs e a' w':=by
  intro k
  induction k with
  |zero=>intro env σ h;exact h.elim
  |succ k ih=>
   intro env σ h lf a1 w1 kx b kk cs LS hb hr
   obtain⟨e,a2,w2,hq,oB⟩:=h body hc n0 X lf a1 w1 kx b (.inLoop body::kk) cs LS hb hr
   obtain⟨dj,σ',β',vg,jV,qU,H3⟩:=hq
   cases e with
   |normal=>
    obtain⟨e3,a3,w3,Va,LW⟩:=ih dj σ' vg β' a2 w2 jV b kk cs LS hb hr
    exact⟨e3,a3,w3,nC.trans qU H3 Va,.of_steps (StepsIn.trans oB (.one (fenced_calm hb hr rfl) stepR_inLoop)) LW⟩
   |exit id=>exact⟨_,a2,w2,⟨dj,σ',β',vg,jV,qU,H3⟩,.pass (x:=.inLoop body) rfl (fun _ _=>.inl (by simp)) oB⟩
   |goto l=>exact⟨_,a2,w2,⟨dj,σ',β',vg,jV,qU,H3⟩,.pass (x:=.inLoop body) rfl (fun _ _=>.inl (by simp)) oB⟩
   |ret=>exact⟨_,a2,w2,⟨dj,σ',β',vg,jV,qU,H3⟩,.pass (x:=.inLoop body) rfl (fun _ _=>.inl (by simp)) oB⟩
   |panic ch=>exact⟨_,a2,w2,⟨dj,σ',β',vg,jV,qU,H3⟩,.pass (x:=.inLoop body) rfl (fun _ _=>.inl (by simp)) oB⟩
   |outgrown=>exact⟨_,a2,w2,⟨dj,σ',β',vg,jV,qU,H3⟩,.pass (x:=.inLoop body) rfl (fun _ _=>.inl (by simp)) oB⟩
 intro b kk cs LS hb hr
 obtain⟨e,a',w',hp,oB⟩:=key k env σ h β a w cn b kk cs LS hb hr
 exact⟨e,a',w',hp,.of_steps (.one (fenced_calm hb hr rfl) stepR_loop) oB⟩
def z64:List Value:=List.replicate 64 (.int .u8 0)
theorem Qw{τ ν:aG}{o:Ob}{C:Nat}(h:τ.length=C):aG.at (τ++(some [o]::ν)) C 0=some o:=by subst h;rw[dV];rfl
theorem IL{τ ν:aG}{o o':Ob}{C:Nat}(h:τ.length=C):aG.cZ (τ++(some [o]::ν)) C 0 o'=τ++(some [o']::ν):=by subst h;rw[qZ];rfl
def LV(a b:AV):Prop:=∀w X β σ x,RV w X β σ a x->RV w X sJ [] b x
def LL:List AV->List AV->Prop
 | [],[]=>True
 |a::r,b::s=>LV a b/\LL r s
 |_,_=>False
theorem LL.len:∀{a b:List AV},LL a b->a.length=b.length
 | [],[],_=>rfl
 |_::_,_::_,h=>congrArg (·+1) h.2.len
 | [],_::_,h=>h.elim
 |_::_,[],h=>h.elim
theorem LL.get:∀{a b:List AV},LL a b->∀i,i<a.length->LV (a.getD i .any) (b.getD i .any)
 |_::_,_::_,h,0,_=>h.1
 |_::_,_::_,h,i+1,hi=>h.2.get i (Nat.lt_of_succ_lt_succ hi)
 | [],_,_,i,hi=>absurd hi (aN _)
 |_::_,[],h,_,_=>h.elim
theorem LV.pv{a:AV}(h:bC a):LV a a:=h
theorem LV.any{a:AV}:LV a .any:=fun _ _ _ _ _ _=>.any _
theorem LV.nil{k:Nat}:LV (.v (.slice none 0 0)) (.sl k []):=fun w X β σ x h=>by cases h;exact .slnil k
theorem LV.agg{a b:List AV}(h:LL a b):LV (.agg a) (.agg b):=fun w X β σ x hx=>by
 have hl:=h.len
 cases hx with
 |agg _ xs hn h1 hr=>exact .agg b xs (hn.trans hl) (fun i hi=>h1 i (by omega)) fun i hi=>h.get i (by omega) _ _ _ _ _ (hr i (by omega))
theorem jg.less{P:Program}{f:Nat}{args qh:List AV}{r:AV}{σ:aG}(h:Pure P f qh r)(hl:LL args qh):jg P f args σ r:=
 ⟨h.N',fun X β w xs hX hs mF hr=>h.go (Xt X β σ) w xs (fun b hb=>Bk hs hX hb) (mF.trans hl.len) fun i hi=>hl.get i (by rw[hl.len];exact hi) _ _ _ _ _ (hr i (by rw[hl.len];exact hi))⟩
end Go.Abs
namespace Go.Proofs.YtgopgjnfhkoomaaGreat
open Go.Abs
open Nat (reduceAdd reduceSub reduceLT reduceLeDiff reduceMul reduceEqDiff)
set_option maxHeartbeats 4000000
set_option maxRecDepth 100000
theorem xi(x:Int):Pure Tryz.prog 116 [n x] (bl (decide (inr x (-50000) 50000))):=by
 refine jX Tryz.f116.eq_1 [] [] ?_
 refine Ay (pJ x (-50000) 50000) ?_;intros
 all_goals exact Fq
theorem KJ(x:Int):Pure Tryz.prog 115 [n x] (bl (!decide (inr x (-50000) 50000))):=by
 refine jX Tryz.f115.eq_1 [] [] ?_
 refine Ay (xi x) ?_;intros
 all_goals exact Fq
theorem KK(x:Int):Pure Tryz.prog 118 [n x] (bl (!decide (inr x (-50000) 50000))):=by
 refine jX Tryz.f118.eq_1 [] [] ?_
 refine Ay (xi x) ?_;intros
 all_goals exact Fq
theorem Ug(f:Nat)(dZ:List AV)(ep:∀c∈dZ,bC c)(q:Int->Bool)(l:List Int)(hl:l.length<9223372036854775808)(hq:∀x∈l,Pure Tryz.prog f ([n x]++dZ) (bl (q x))):Pure Tryz.prog 182 [l9 l,.fn (.func f) [] dZ] (n (fj q 0 l)):=by
 refine jX Tryz.f182.eq_1 [] [.l [0,1,7,8]] ?_
 refine Au ?_;intros
 refine aR.li 8 l.length (fun i=>fj q i (l.drop i)=fj q 0 l) (by simp) ?_
 ·intro i hi hI
  by_cases bP:i<l.length
  ·obtain⟨x,hx⟩:∃x,l[i]?=some x:=⟨_,ae bP⟩
   have hc:=hq x (ao hx)
   rw[drop_cons hx,fj]at hI
   refine Ax (Kf hx) ?_;intros
   refine .inl ⟨_,_,_,_,rfl,fun _=>.of ?_ (hc),?_⟩
   ·intro a ha
    simp only[aK,aD,aC]at ha
    rcases ha with rfl|ha
    ·simp
    ·exact ep a ha
   refine aH ?_
   (refine Au ?_ (CM ?_)<;>intros)
   ·rename_i h
    rw[h]at hI
    simp only[if_true]at hI
    rw[<-hI]
    exact Fq
   ·rename_i h
    rw[h]at hI
    exact⟨⟨i+1,bP,by simpa using hI⟩,by simp,by simp only;omega⟩
  ·obtain rfl:i=l.length:=by omega
   rw[c_,fj]at hI
   refine Au ?_;intros
   rw[<-hI]
   exact Fq
theorem wF(f:Nat)(dZ:List AV)(ep:∀c∈dZ,bC c)(q:Int->Bool)(l:List Int)(hl:l.length<9223372036854775808)(hq:∀x∈l,Pure Tryz.prog f ([n x]++dZ) (bl (q x))):Pure Tryz.prog 114 [l9 l,.fn (.func f) [] dZ] (bl (l.any q)):=by
 refine jX Tryz.f114.eq_1 [] [] ?_
 have h:=lK q l 0
 refine Au ?_;intros
 refine .inl ⟨_,_,_,_,rfl,fun _=>.of ?_ (Ug f dZ ep q l hl hq),?_⟩
 ·intro a ha
  simp only[aK,aD,aC,bb,au,or_false]at ha
  rcases ha with rfl|rfl
  ·simp
  ·exact bC.fn (fun _ h=>absurd h (au)) ep
 refine aH ?_
 refine Au ?_;intros
 rw[<-h]
 exact Fq
def zZ:Pn:=⟨1,⟨0,0⟩,9⟩
theorem Uh:Pure Tryz.prog 56 [.agg zZ.cs,l9 [5]] (n 0):=by
 refine jX Tryz.f56.eq_1 [] [] ?_
 have h1:=mL zZ
 have h2:=wF 115 [] (by simp) _ [5] (by simp) fun x _=>KJ x
 rw[show(if zZ.ok then 0 else 30:Int)=0 from if_pos (by decide)]at h1
 rw[show([5]:List Int).any (fun x=>!decide (inr x (-50000) 50000))=false from rfl]at h2
 refine Ay (aa @h1 @h2) ?_;intros
 all_goals try contradiction
 all_goals exact Fq
theorem Xk:Pure Tryz.prog 57 [l9 [5,7,4]] (n 0):=by
 refine jX Tryz.f57.eq_1 [] [] ?_
 have h2:=wF 118 [] (by simp) _ [5,7,4] (by simp) fun x _=>KK x
 rw[show([5,7,4]:List Int).any (fun x=>!decide (inr x (-50000) 50000))=false from rfl]at h2
 have h1:=pJ 3 1 401
 refine Ay (aa @h1 @h2) ?_;intros
 all_goals try contradiction
 all_goals exact Fq
abbrev b7:AV:=.sl 1 [[.v (.int .u8 7)]]
@[simp] theorem YM:bC b7:=nJ (row:=fun z:Int=>[.v (.int .u8 z)]) 1 [7] fun a c hc=>by rw[bp.1 hc];simp
theorem NV(x lo hi:Int):Pure Tryz.prog 106 [n x,n lo,n hi] (bl (decide (inr x lo hi))):=by
 refine jX Tryz.f106.eq_1 [] [] ?_
 refine Au ?_;intros
 all_goals exact bO.eq (congrArg bl (by simp)) (by simp)
theorem Bg:Pure Tryz.prog 51 [b7] (bl true):=by
 refine jX Tryz.f51.eq_1 [] [] ?_
 refine Ay (NV 1 1 30000) ?_;intros
 all_goals exact Fq
theorem HK:Pure Tryz.prog 107 [b7,n 62] (.fn (.func 178) [] [.bZ [b7] 0,.bZ [n 62] 0]):=by
 refine jX Tryz.f107.eq_1 [] [] ?_
 refine Au ?_;intros
 exact bO.eq rfl (by simp[bC.fn])
inductive nz(C:Nat)(J:Nat->aG->Prop)(D:aG->Prop)(m:Nat)(iX:aG):Prop
 |mk(τ ν:aG)(h:iX=τ++ν)(hl:τ.length=C)(hj:J m τ\/D τ)
theorem nz.out{C:Nat}{J:Nat->aG->Prop}{D:aG->Prop}{m:Nat}{iX:aG}:nz C J D m iX->∃τ ν,iX=τ++ν/\τ.length=C/\(J m τ\/D τ)
 |⟨τ,ν,h,hl,hj⟩=>⟨τ,ν,h,hl,hj⟩
theorem HL:Iter Tryz.prog 178 [] [.bZ [b7] 0,.bZ [n 62] 0] [[b7]]:=by
 refine⟨Tryz.call178,fun C y J D σ hy hC hJ ew=>?_⟩
 refine eY.mono (R:=fun _ iX=>nz C J D 1 iX) ?_ fun _ _ h=>h.out
 refine qY 31 (jo [jc 4 0] [0,1,2,4] (.block 0 (.loop (.seq (jo [jm 6 4,jl 7 1,je 8 7,jt .lss 9 6 8] [0,1,2,4,9] (.cond (.t 9) .skip (.exit 0))) (.seq (.block 1 (.seq (.draw [jl 13 2,jl 14 1,jm 15 4,jw 16 (.slice 1 (.t 14) (some (.t 15)) none),je 17 16,jw 18 (.tN false (.t 13) (.t 17)),jm 5 18] [] [0,1,2,4,5]) (jo [jm 19 0,jl 20 1,jm 21 4,jm 22 4,jm 23 5,jt .add 24 22 23,jm 25 4,jm 26 5,jt .add 27 25 26,jw 28 (.QM 1 (.t 20) (.t 21) (.t 24) (.t 27)),jw 29 (.call (.t 19) [(.t 28)]),jv 30 29] [0,1,2,4,30] (.cond (.t 30) .ret .skip)))) (.ops [jm 10 4,jl 11 2,jt .add 12 10 11,jm 4 12] [0,1,2,4])))))) [] Tryz.call178 Tryz.func178 ?_
 refine Au ?_;intros
 refine aR.turns 2 ?_
 simp only[Un]
 (repeat' ((first|refine vn rfl ?_|simp(disch:=omega) only[cB,aj]|refine bo (fun _=>?_) fun _=>?_|refine im fun _=>?_|refine cF ?_|refine om ?_|refine an ?_|fail)<;>try simp only[zN,zT,zV,zS,zU,dC,ex,bu,bN,elems,cells,scalar,dH,bL,aX,aU,bJ,bI,Nat.reduceBEq,reduceAdd,reduceSub,reduceLT,reduceLeDiff,reduceMul,reduceEqDiff,reduceIte,Option.toList,aK,bb,aD]))
 all_goals try(exfalso;omega)
 have Dr:=ew 0 [b7] σ [] rfl hC hJ
 rw[bb]at Dr
 refine⟨by decide,.inr (.inr ⟨y,_,rfl,fun _=>⟨Dr,?_⟩,fun h=>by cases h⟩)⟩
 rintro b σ' ⟨iv,gz,rfl,jW,xe,CG⟩
 refine aH ?_
 refine adL ?_
 cases b with
 |false=>
  refine Au ?_;intros
  exact nz.mk iv _ rfl jW (.inr (CG rfl))
 |true=>
  refine Au ?_;intros
  exact nz.mk iv _ rfl jW (.inl (xe rfl))
theorem aaB(e j:Nat):(([List.replicate 64 AV.any]:List (List AV)).getD e []).getD j .any=.any:=by
 rcases e with _|e
 ·show(List.replicate 64 AV.any).getD j .any=_
  rw[ab,fl]
  split<;>rfl
 ·rfl
theorem Bh:Pure Tryz.prog 52 [b7] (.sl 64 [List.replicate 64 .any]):=by
 refine et 29 (jo [jx 1 83 1 0,jn 2] [1] (jo [jw 3 (.alloc 137 1 [.slice none 0 0])] [1,3] (.seq (jo [jl 6 1,jw 7 (.call (.f 107) [(.t 6),(.c (.int .i64 62))])] [1,3,7] (.block 0 (.rL (.t 7) [8] (.ops [jm 4 8] [1,3,4]) (.block 1 (jo [jw 5 (.alloc 140 64 z64)] [1,3,4,5] (jo [jm 9 4,je 10 9,jw 11 (.N6 .u8 (.t 10)),jw 12 (.Oz 1 64 (.t 5) (.c (.int .i64 0))),js 1 12 11] [1,3,4,5] (.seq (jo [jl 13 3,je 14 13,jl 15 1,je 16 15,ju .sub 17 16 1,ju .quo 18 17 62,jt .eql 19 14 18] [1,3,4,5,19] (.cond (.t 19) (.ops [jw 20 (.Oz 1 64 (.t 5) (.c (.int .i64 1))),⟨none,.store 1 (.t 20) (.c (.int .u8 1)),none⟩] [1,3,4,5]) .skip)) (jo [jw 21 (.OA 64 (.t 5) (some (.c (.int .i64 2))) none),jm 22 4,jw 23 (.OB (.t 21) (.t 22))] [1,3,5] (.ops [jl 24 3,jk 25 64 5,jw 26 (.jR false 140 64 1 z64 [(0,64,(.t 25))]),jw 27 (.app 140 64 64 (.t 24) (.t 26)),js 1 3 27] [1,3]))))))))) (jo [jl 28 3,jm 2 28] [2] .ret)))) [.t 2] Tryz.call52 Tryz.func52 ?_
 refine Ay @HK ?_;intros
 refine aR.lH 140 64 (f:=0) (i:=0) (e:=0) (j:=0) rfl (by simp) rfl ?_
 refine aR.pQ (σ':=[some [⟨137,1,[[.own 1 0 0]],none⟩],some [⟨140,64,[],none⟩]]) rfl ?_
 refine aR.rL (α:={R:List (List AV)//∀r∈R,r.length=64}) (fun R=>[some [⟨137,1,[[.own 1 0 R.1.length]],none⟩],some [⟨140,64,R.1,none⟩]]) 2 (fun _=>rfl) (fun k R=>R.1.length=k) (fun _ _=>False) [[b7]] ⟨[],by simp⟩
  rfl rfl rfl HL (fun k args h=>?_) (fun k x args ll ρ τ hk hx=>?_) (fun x τ hx=>?_) (fun _ _ _ h=>h.elim)
 ·match k,h with
  |0,h=>injection h with h;subst h;rfl
  |k+1,h=>cases h
 ·match k,hk with
  |k+1,h=>cases h
  |0,h=>
   injection h with h;subst h
   obtain⟨R,hR⟩:=x
   obtain rfl:=cd.1 hx
   simp only[par]
   refine Au ?_;intros
   refine⟨⟨[],by simp⟩,[],by simp,fun ox=>?_⟩
   (refine Au ?_ (CM ?_)<;>intros)
   case' refine_2 h=>exact absurd (by decide) h
   refine⟨⟨fun _=>rfl,trivial⟩,by decide,rfl,⟨by simp,by decide⟩,?_⟩
   generalize hr:List.take (Int.toNat 2) _++_=r
   have hl:r.length=64:=by rw[<-hr];rfl
   clear hr
   have ht:List.take 64 r=r:=cD (by omega)
   have hz:(vs z64).length=64:=rfl
   have hd:List.drop 64 (vs z64)=[]:=rfl
   refine Ax (aa @hl (aa @ht (aa @hz @hd))) ?_;intros
   exact⟨⟨[r],by simpa using hl⟩,_,rfl,rfl⟩
 ·obtain⟨R,hR⟩:=x
  simp only at hx
  obtain⟨r,rfl⟩:=cq.1 hx
  refine Au ?_;intros
  refine bO.own (o:=⟨140,64,[r],none⟩) (show(64:Nat)≠0 by decide) rfl rfl rfl (fun e j he hj=>?_) fun e he=>?_
  ·rw[aaB]
   exact bO.any
  ·obtain rfl:e=0:=by simpa using he
   exact fQ
theorem rJ:Pure Tryz.prog 15 [b7] (.iu [.sl 1 [[.any]],n 0]):=by
 refine et 23 (jo [jn 2,jc 3 0] [0] (.seq (jo [jm 7 0,jy 8 51 [7],jv 9 8] [0,9] (.cond (.t 9) (jo [jn 2,jc 3 1] [2,3] .ret) .skip)) (jo [jn 4] [0,4] (.seq (jo [jm 10 0,jy 11 52 [10],je 12 11,jc 13 0] [4,11,12,13] (.block 0 (.loop (jo [jt .lss 14 13 12] [4,11,12,13,14] (.seq (.cond (.t 14) .skip (.exit 0)) (.seq (.block 1 (jo [ji 15 64 11 13,jk 16 64 15,jw 6 (.alloc 140 64 z64),js 64 6 16] [4,6,11,12,13] (.ops [jm 17 4,jw 18 (.OA 64 (.t 6) none none),jw 19 (.jR false 83 1 1 [.slice none 0 0] [(0,1,(.t 18))]),jw 20 (.app 83 1 24 (.t 17) (.t 19)),jm 4 20] [4,11,12,13]))) (.ops [ju .add 21 13 1,jm 13 21] [4,11,12,13]))))))) (jo [jm 22 4,jm 2 22,jc 3 0] [2,3] .ret))))) [.t 2,.t 3] Tryz.call15 Tryz.func15 ?_
 have hB:=Bh
 have hX:([List.replicate 64 AV.any]:List (List AV)).getD 0 []=List.replicate 64 .any:=rfl
 have hL:(List.replicate 64 AV.any).length=64:=fQ
 generalize List.replicate 64 AV.any=r at*
 have ht:List.take 64 r=r:=cD (by omega)
 have hz:(vs z64).length=64:=rfl
 have hd:List.drop 64 (vs z64)=[]:=rfl
 refine Ay (aa @Bg @hB) ?_;intros
 refine aR.turns 2 ?_
 simp only[Un]
 refine Ax (aa @hX (aa @hL (aa @ht (aa @hz @hd)))) ?_;intros
 ·refine⟨trivial,by decide,rfl,?_⟩
  refine Au ?_;intros
  refine bO.mY ⟨?_,bO.pure (by simp),trivial⟩
  exact bO.own (o:=⟨83,1,[[.vw 0 0 1 0 0 64]],none⟩) (es:=[[.any]]) (show(1:Nat)≠0 by decide) rfl rfl rfl (fun e j he hj=>by
   obtain rfl:e=0:=by omega
   obtain rfl:j=0:=Nat.lt_one_iff.1 hj
   exact bO.any) fun e he=>by
   obtain rfl:e=0:=by omega
   rfl
end Go.Proofs.YtgopgjnfhkoomaaGreat
namespace Go.Proofs.YtgopgjnfhkoomaaGreat
open Go.Abs Go.Lib Go.Proofs
set_option maxHeartbeats 4000000
set_option maxRecDepth 100000
theorem Xl:∃i z,Tryz.prog.info? 52=some i/\i.size=2/\i.bytes=16/\i.zero=some z/\z.cells.size=2:=by
 have h1:(Tryz.prog.info? 52).map (fun i=>(i.size,i.bytes,i.zero.map fun z=>z.cells.size))=some (2,16,some 2):=by kernel_rfl
 obtain⟨i,hi,h⟩:=aL.1 h1
 simp only[aw]at h
 obtain⟨h2,h3,h4⟩:=h
 obtain⟨z,hz,h5⟩:=aL.1 h4
 exact⟨i,z,hi,h2,h3,hz,h5⟩
structure Xm(x:Nat->Value)(w w':World):Prop where
 IH:∃c',w'.heap[w.heap.size]?=some (.cells c' 52 (0,0))/\c'.size=4
 size:w.heap.size<=w'.heap.size
 wJ:∀d,d<w.heap.size->w'.heap[d]?=w.heap[d]?
 io:Still w w'
 cell:∀t,t<4->w'.cell? ⟨w.heap.size,t,none⟩=some (x (t % 2))
theorem aaC{w:World}{x:Nat->Value}{Z:Array Value}(hz:Z.size=4):Xm x w (((w.alloc (.cells Z 52)).setCells w.heap.size 0 [x 0,x 1]).drew.setCells w.heap.size 2 [x 0,x 1]):=by
 have Na:(w.alloc (.cells Z 52)).heap[w.heap.size]?=some (.cells Z 52 (0,0)):=oQ w _
 obtain⟨⟨c1,h1,h2⟩,h3,h4,h5⟩:=jK w.heap.size [x 0,x 1] 0 (w.alloc (.cells Z 52)) Z 52 (0,0) Na
 obtain⟨⟨c',g1,g2⟩,g3,g4,g5⟩:=jK w.heap.size [x 0,x 1] 2 ((w.alloc (.cells Z 52)).setCells w.heap.size 0 [x 0,x 1]).drew c1 52 (0,0) h1
 have hg:∀j (h:j< [x 0,x 1].length),[x 0,x 1][j]=x j:=fun j h=>by
  match j,h with
  |0,_=>rfl
  |1,_=>rfl
 refine⟨⟨c',g1,by omega⟩,?_,fun d hd=>?_,?_,fun t ht=>?_⟩
 ·rw[g3];show _<=(World.setCells _ _ _ _).heap.size;rw[h3,j_];exact cO _
 ·have FV:d≠w.heap.size:=Nat.ne_of_lt hd
  rw[g4 d FV]
  show(World.setCells _ _ _ _).heap[d]?=_
  rw[h4 d FV]
  exact oP w _ hd
 ·have s0:Still w (w.alloc (.cells Z 52)):=⟨rfl,rfl,rfl,ar _⟩
  have s1:∀v:World,Still v v.drew:=fun v=>⟨rfl,rfl,rfl,cO _⟩
  exact s0.trans (h5.trans ((s1 _).trans g5))
 ·by_cases h:t<2
  ·rw[cN _ _ _ _ _ (fun _ _=>.inl h)]
   show(World.setCells _ _ _ _).cell? _=_
   have:=dI w.heap.size [x 0,x 1] 0 (w.alloc (.cells Z 52)) (fun j hj=>by rw[cell_of Na (by simp at hj;omega)];rfl) t h
   rw[hg,br]at this
   rw[this,A3 h]
  ·have:=dI w.heap.size [x 0,x 1] 2 ((w.alloc (.cells Z 52)).setCells w.heap.size 0 [x 0,x 1]).drew (fun j hj=>by
    have:((w.alloc (.cells Z 52)).setCells w.heap.size 0 [x 0,x 1]).drew.cell? ⟨w.heap.size,2+j,none⟩=_:=cell_of h1 (by simp at hj;omega)
    rw[this];rfl) (t-2) (by simp;omega)
   rw[hg,show 2+(t-2)=t by omega]at this
   rw[this,show t % 2=t-2 by omega]
theorem DQ{w:World}{b o cap:Nat}{x:Nat->Value}(hx:∀j,j<2->w.cell? ⟨b,o+j,none⟩=some (x j))(h1:∀j,j<2->(x j).oneCell'=true):Calls Tryz.prog 186 #[.slice (some ⟨b,o,none⟩) 1 cap,.int .i64 2] w fun e w'=>e=.returned (.slice (some ⟨w.heap.size,0,none⟩) 2 2)/\Xm x w w':=by
 have b1:bits BinOp.and IntKind.u64 1 4294967295=1:=by decide
 have b2:bits BinOp.and IntKind.u64 2 4294967295=2:=by decide
 have b0:bits BinOp.and IntKind.u64 0 4294967295=0:=by decide
 have w0:IntKind.u64.wrap 0=0:=by decide
 have w1:IntKind.u64.wrap 1=1:=by decide
 have w2:IntKind.u64.wrap 2=2:=by decide
 have v2:IntKind.i64.wrap 2=2:=by decide
 obtain⟨i0,z0,hi0,CU,Na,JU,K5⟩:=Xl
 have Rw:=run_make (P:=Tryz.prog) w 56 52 i0 z0 Tryz.underlying56 hi0 JU .i64 .i64 2 2 (by omega) (by omega) (by omega) (by omega)
 have I':(madeCells z0.cells (2*i0.size)).size=4:=by rw[CU];exact size_madeCells _ _
 obtain⟨Z,hZ⟩:∃Z,Z=madeCells z0.cells (2*i0.size):=⟨_,rfl⟩
 simp only[show(2:Int).toNat=2 from rfl]at Rw
 rw[<-hZ]at Rw I'
 have eX:(Tryz.prog.info? 52).map (·.size)=some 2:=by rw[hi0];simp[CU]
 have hR:=aaC (w:=w) (x:=x) I'
 obtain⟨W1,WE⟩:∃W1,W1=w.alloc (.cells Z 52):=⟨_,rfl⟩
 rw[<-WE]at hR
 have hN:∀j,j<4->(W1.cell? ⟨w.heap.size,j,none⟩).isSome=true:=fun j hj=>by
  rw[WE,ia (w:=w) Z _ w.heap.size j rfl,bS (by omega)];rfl
 have UQ:∀j,W1.frozen? ⟨w.heap.size,j,none⟩=false:=fun j=>by rw[WE];exact World.frozen?_alloc_at (w:=w) Z _ w.heap.size j rfl
 have PW:b<w.heap.size:=tX (a:=⟨b,o+0,none⟩) (hx 0 (by omega))
 have hO:∀j,j<2->W1.cell? ⟨b,o+j,none⟩=some (x j):=fun j hj=>by rw[WE,World.cell?_alloc_past (w:=w) _ b (o+j) PW];exact hx j hj
 have hv:∀j v,[x 0,x 1][j]?=some v->j<2/\v=x j:=fun j v h=>by
  match j,h with
  |0,h=>injection h with h;exact⟨by omega,h.symm⟩
  |1,h=>injection h with h;exact⟨by omega,h.symm⟩
  |j+2,h=>cases h
 have N9:∀v∈[x 0,x 1],v.oneCell'=true:=fun v h=>by
  simp only[aC,au,or_false]at h
  rcases h with rfl|rfl
  ·exact h1 0 (by omega)
  ·exact h1 1 (by omega)
 have ab3:∀ty dc sc,(Builtin.copy_ #[56,56] ty #[.slice (some ⟨w.heap.size,0,none⟩) 2 dc,.slice (some ⟨b,o,none⟩) 1 sc]).run Tryz.prog W1=.ok (goInt (Nat.min 1 2)) (W1.setCells w.heap.size 0 [x 0,x 1]):=fun ty dc sc=>
  jB W1 56 56 ty 52 2 w.heap.size 0 2 dc ⟨b,o,none⟩ 1 sc [x 0,x 1] Tryz.underlying56 eX rfl
   (fun j v hj=>by obtain⟨h,rfl⟩:=hv j v hj;rw[c9];exact hO j h)
   (fun j hj=>by rw[br];exact hN j (by simp at hj;omega)) (fun j _=>UQ _) N9
 rw[<-WE]at Rw
 obtain⟨W2,kC⟩:∃W2,W2=W1.setCells w.heap.size 0 [x 0,x 1]:=⟨_,rfl⟩
 rw[<-kC]at ab3
 have Yp:∀j,j<4->(W2.cell? ⟨w.heap.size,j,none⟩).isSome=true:=fun j hj=>by rw[kC];exact isSome_setCells _ _ _ _ (fun t ht=>by simp at ht;rw[br];exact hN _ (by omega)) _ (hN _ hj)
 have hc2:∀(W:World),(∀x,W.cell? x=W2.cell? x)->(∀x,W.frozen? x=W2.frozen? x)->∀ty dc sc,(Builtin.copy_ #[56,56] ty #[.slice (some ⟨w.heap.size,2,none⟩) 1 dc,.slice (some ⟨w.heap.size,0,none⟩) 1 sc]).run Tryz.prog W=.ok (goInt (Nat.min 1 1)) (W.setCells w.heap.size 2 [x 0,x 1]):=fun W e1 e2 ty dc sc=>
  jB W 56 56 ty 52 2 w.heap.size 2 1 dc ⟨w.heap.size,0,none⟩ 1 sc [x 0,x 1] Tryz.underlying56 eX rfl
   (fun j v hj=>by
    obtain⟨h,rfl⟩:=hv j v hj
    rw[c9,e1,kC]
    have:=dI w.heap.size [x 0,x 1] 0 W1 (fun i hi=>by rw[br];exact hN i (by simp at hi;omega)) j (by simp;omega)
    rw[this]
    match j,h with
    |0,_=>rfl
    |1,_=>rfl)
   (fun j hj=>by rw[e1];exact Yp _ (by simp at hj;omega)) (fun j _=>by rw[e2,kC,World.frozen?_setCells];exact UQ _) N9
 have mixed:Tryz.prog.follows Departure.mixedOrders=true:=by kernel_rfl
 clear WE hZ I' hi0 JU K5 Na CU
 go_enter Tryz.func186,Tryz.ntmps186
 go_wp2
 go_wp2_with (at_builtin;refine wpList_copy_runI _ rfl _ _ 56 56 rfl _ _ rfl rfl (ab3 _ _ _) ?_)
 refine wp_loop_rounds 2 ?_
 simp only[Code.rounds]
 go_wp2
 clear hv N9 hN Yp hO UQ ab3 Rw eX h1 hx
 have hd:=hc2 (W1.setCells w.heap.size 0 [x 0,x 1]).drew (fun _=>by rw[kC];rfl) (fun _=>by rw[kC];rfl) 3 1 2
 clear hc2 kC
 go_region_law_o (refine step_copy_runI rfl _ _ 56 56 rfl (.slice (some ⟨w.heap.size,2,none⟩) 1 1) (.slice (some ⟨w.heap.size,0,none⟩) 1 2) (by simp[Act.eval,Act.put]) (by simp[Act.eval,Act.put]) (by assumption) ?_)
 change Code.wp _ _ _ _ _
 go_wp2
 go_ret
 exact⟨rfl,hR⟩
theorem FB(σ:aG):eY Tryz.prog 186 [.sl 2 [[n 0,n 400]],n 2] σ (fun r σ'=>r=.own σ.length 0 2/\σ'=σ++[some [⟨52,2,[[n 0,n 400],[n 0,n 400]],none⟩]]):=by
 refine⟨Tryz.call186,fun X β w xs hX hs hlen hr=>?_⟩
 match xs,hlen with
 | [y,z],_=>
  have hy:=hr 0 (by simp)
  have hz:=(hr 1 (by simp)).dz
  simp only[dF,eP]at hy hz
  subst hz
  cases hy with
  |sl _ _ b o cap x ep hk hc hX1 h1 DT=>
   have Wm:=(DT 0 0 (by simp) (by omega)).dz
   have Qj:=(DT 0 1 (by simp) (by omega)).dz
   refine callsIn_wide.2 ((DQ (w:=w) (b:=b) (o:=o) (cap:=cap) (x:=x 0) (fun j hj=>by simpa using hc 0 (by simp) j hj) (fun j hj=>h1 0 j (by simp) hj)).mono ?_)
   rintro e w' ⟨rfl,R⟩
   obtain⟨c,eN,eX⟩:=R.IH
   have oI:∀b,some w.heap.size=some b->b=w.heap.size:=fun b hb=>by injection hb with hb;exact hb.symm
   have kF:∀t,t<4->c.getD t undef=x 0 (t % 2):=fun t ht=>II eN (R.cell t ht)
   have cX:∀e j,e<2->j<2->c.getD (e*2+j) undef=x 0 j:=fun e j he hj=>by rw[kF _ (by omega),show(e*2+j) % 2=j by omega]
   have tf:∀(X:Nat->Prop) (β:gr) (σ:aG) e j,e<2->j<2->RV w' X β σ ((([[n 0,n 400],[n 0,n 400]]:List (List AV)).getD e []).getD j .any) (x 0 j):=fun X β σ e j he hj=>by
    match e,j,he,hj with
    |0,0,_,_=>rw[Wm];exact .v _
    |0,1,_,_=>rw[Qj];exact .v _
    |1,0,_,_=>rw[Wm];exact .v _
    |1,1,_,_=>rw[Qj];exact .v _
   have K:=Kp.push (o:=⟨52,2,[[n 0,n 400],[n 0,n 400]],none⟩) (bo:=some w.heap.size) hs R.size R.wJ oI
   have S:=hs.push (o:=⟨52,2,[[n 0,n 400],[n 0,n 400]],none⟩) (bo:=some w.heap.size) hX R.size R.wJ oI ⟨fun e he=>by
    match e,he with
    |0,_=>rfl
    |1,_=>rfl,fun _=>⟨c,eN,by rw[eX];exact ar _,fun e j he hj=>by rw[cX e j he hj];exact h1 0 j (by simp) hj,fun e j he hj=>by rw[cX e j he hj];exact tf _ _ _ e j he hj⟩,fun r hr=>by cases hr⟩
   refine⟨_,_,_,_,rfl,⟨rfl,rfl⟩,S,?_,Ext.push R.size R.wJ oI R.io,K⟩
   refine .own _ _ _ _ rfl (by simp) (fun o ho=>?_) fun o ho _=>?_
   ·rw[gS]at ho;simp at ho;subst ho;exact ar _
   ·rw[gS]at ho;simp at ho;subst ho
    unfold kD;rw[iy]
    exact⟨2,c,52,rfl,eN,eX⟩
end Go.Proofs.YtgopgjnfhkoomaaGreat
namespace Go.Proofs.YtgopgjnfhkoomaaGreat
open Go.Abs
open Nat (reduceAdd reduceSub reduceLT reduceLeDiff reduceMul reduceEqDiff)
set_option maxHeartbeats 4000000
set_option maxRecDepth 100000
theorem Xn:Pure Tryz.prog 185 [.agg [ec [⟨2,3⟩],.sl 3 []]] (ec [⟨2,3⟩]):=BT [⟨2,3⟩] [] (by decide)
theorem HM(σ:aG):eY Tryz.prog 186 [.sl 2 [[n 0,n 400]],n 2] σ (uI σ 52 2 [[n 0,n 400],[n 0,n 400]]):=
 (FB σ).mono fun _ _ ⟨h1,h2⟩=>.mk [] h1 h2
theorem B7(a b:Int):Pure Tryz.prog 240 [n a,n b] (.iu [n (min a b),n (max a b)]):=by
 refine jX Tryz.f240.eq_1 [] [] ?_
 refine Au ?_;intros
 all_goals exact Fq
theorem aaD{σ:aG}{f i:Nat}{a b o:Ob}(h:σ.at f i=some o):(σ.cZ f i a).cZ f i b=σ.cZ f i b:=by
 unfold aG.at at h
 unfold aG.cZ
 cases hf:σ[f]? with
 |none=>rw[hf]at h;cases h
 |some F=>
  have hl:=(ai.1 hf).1
  cases F with
  |none=>rw[hf]at h;cases h
  |some L=>
   simp[hf,hl,bX]
theorem na(σ:aG)(f g:Nat)(G:AV)(l:List Sp)(i:Nat)(s a:Sp)(hi:l[i]?=some a)(hf:σ.at f 0=some ⟨156,2,[[G,.own g 0 l.length]],none⟩)(hg:σ.at g 0=some ⟨52,2,l.map Sp.cs,none⟩):eY Tryz.prog 187 [.ptr f 0 1 0 0,n i,.agg s.cs] σ (fun _ σ'=>σ'=σ.cZ g 0 ⟨52,2,(l.set i ⟨max a.lo s.lo,min a.hi s.hi⟩).map Sp.cs,none⟩):=by
 refine Fi Tryz.f187.eq_1 [] [.v 10 1 13,.d 13] ?_
 have cX:(l.map Sp.cs).getD i []=Sp.cs a:=getD_map hi
 have ON:=(ai.1 hi).1
 have e1:=B7 a.lo s.lo
 have e2:=B7 a.hi s.hi
 have h1:∀o,(σ.cZ g 0 o).at g 0=some o:=fun o=>cu hg
 have h2:∀o o',(σ.cZ g 0 o).cZ g 0 o'=σ.cZ g 0 o':=fun o o'=>aaD hg
 have nV:∀X,((l.map Sp.cs).set i X).getD i []=X:=fun X=>by simp[ab,ON]
 have wS:∀X Y,((l.map Sp.cs).set i X).set i Y=(l.map Sp.cs).set i Y:=fun X Y=>List.set_set ..
 refine Az (aa @hf (aa @hg (aa @cX (aa @h1 (aa @h2 (aa @nV (aa @wS @cK.{0}))))))) (aa @e1 @e2) ?_;intros
 rw[fU]
abbrev g0:List Sp:=[⟨2,3⟩]
theorem Uj:bC .any:=fun _ _ _ _ _ _=>.any _
theorem RJ:bC (.bZ [ec g0,.any] 0):=.bZ fun c hc=>by
 simp only[aC,au,or_false]at hc
 rcases hc with rfl|rfl
 ·simp
 ·exact Uj
theorem NW:Pure Tryz.prog 189 [.agg [ec g0,.any]] (.fn (.func 241) [] [.bZ [ec g0,.any] 0]):=by
 refine jX Tryz.f189.eq_1 [] [] ?_
 refine Au ?_;intros
 exact bO.eq rfl (bC.fn (by simp) fun c hc=>by rw[bp.1 hc];exact RJ)
theorem KL:Pure Tryz.prog 190 [.agg [ec g0,.any]] (.fn (.func 242) [] [.bZ [ec g0,.any] 0]):=by
 refine jX Tryz.f190.eq_1 [] [] ?_
 refine Au ?_;intros
 exact bO.eq rfl (bC.fn (by simp) fun c hc=>by rw[bp.1 hc];exact RJ)
theorem NX:Iter Tryz.prog 241 [] [.bZ [ec g0,.any] 0] [[n 0,.agg [n 2,n 3]]]:=by
 refine⟨Tryz.call241,fun C y J D σ hy hC hJ ew=>?_⟩
 refine eY.mono (R:=fun _ iX=>nz C J D 1 iX) ?_ fun _ _ h=>h.out
 refine Fi Tryz.f241.eq_1 [] [.l [0,6,7,8]] ?_
 subst hC
 refine Au ?_;intros
 refine aR.turns 2 ?_
 simp only[Un]
 refine Au ?_;intros
 refine .inr (.inr ⟨y,_,rfl,fun _=>⟨ew 0 _ σ _ rfl rfl hJ,?_⟩,fun h=>by cases h⟩)
 rintro b σ' ⟨iv,gz,rfl,jW,xe,CG⟩
 refine aH ?_
 refine adL ?_
 cases b with
 |false=>
  refine Au ?_;intros
  exact nz.mk iv _ rfl jW (.inr (CG rfl))
 |true=>
  refine Au ?_;intros
  exact nz.mk iv _ rfl jW (.inl (xe rfl))
theorem NY:Iter Tryz.prog 242 [] [.bZ [ec g0,.any] 0] [[n 0,.agg [n 2,n 3]]]:=by
 refine⟨Tryz.call242,fun C y J D σ hy hC hJ ew=>?_⟩
 refine eY.mono (R:=fun _ iX=>nz C J D 1 iX) ?_ fun _ _ h=>h.out
 refine Fi Tryz.f242.eq_1 [] [.l [0,1,3]] ?_
 subst hC
 refine Au ?_;intros
 refine aR.turns 2 ?_
 simp only[Un]
 refine Au ?_;intros
 have Dr:=ew 0 _ σ [] rfl rfl hJ
 rw[bb]at Dr
 refine .inr (.inr ⟨y,_,rfl,fun _=>⟨Dr,?_⟩,fun h=>by cases h⟩)
 rintro b σ' ⟨iv,gz,rfl,jW,xe,CG⟩
 refine aH ?_
 refine adL ?_
 cases b with
 |false=>
  refine Au ?_;intros
  exact nz.mk iv _ rfl jW (.inr (CG rfl))
 |true=>
  refine Au ?_;intros
  exact nz.mk iv _ rfl jW (.inl (xe rfl))
theorem KM:Pure Tryz.prog 60 [.agg [ec g0,ec [⟨2,3⟩,⟨5,5⟩]]] (l9 [2,5]):=by
 refine jX Tryz.f60.eq_1 [] [.l [3,7,8,9]] ?_
 refine Au ?_;intros
 refine aR.turns 3 ?_
 simp only[Un]
 have h1:([Sp.cs ⟨2,3⟩,Sp.cs ⟨5,5⟩]:List (List AV)).getD (0+1:Int).toNat []=[n 5,n 5]:=rfl
 refine Ax @h1 ?_;intros
 exact bO.gZ (T:=3) (cs:=fun z:Int=>[n z]) (l:=[2,5]) rfl rfl (by decide) (fun a c hc=>by rw[bp.1 hc];simp) (fun a=>rfl)
theorem aaE(s:Sp):Pure Tryz.prog 192 [.agg s.cs] (bl (decide (s.hi<s.lo))):=by
 refine jX Tryz.f192.eq_1 [] [] ?_
 refine Au ?_;intros
 exact Fq
theorem jg.copy{f T k:Nat}{args qh:List AV}{σ:aG}{rows:List (List AV)}(hk:k≠0)(h:eY Tryz.prog f qh [] (uI [] T k rows))(hf:FL σ args qh)(hp:∀e j w X β σ x,e<rows.length->j<k->RV w X β σ ((rows.getD e []).getD j .any) x->∀X' β' σ',RV w X' β' σ' ((rows.getD e []).getD j .any) x):jg Tryz.prog f args σ (.sl k rows):=by
 refine⟨h.N',fun X β w xs hX hs mF hr=>?_⟩
 have hl:=hf.len
 have CU:dG w X sJ []:=⟨fun f i f' i' o o' b ho=>by simp[aG.at]at ho,fun f i o b ho=>by simp[aG.at]at ho,fun f i o ho=>by simp[aG.at]at ho⟩
 refine(h.go X sJ w xs hX CU (by omega) (fun i hi=>?_)).mono ?_
 ·have h1:=hf.get i (by omega) w X β _ hs (hr i (by omega))
  refine h1.tr ⟨ar _,fun _ _ _ _ _=>rfl,fun b _ hb=>?_,ar _,fun f i o' hf=>absurd hf (aN _)⟩
  rcases hb with hb|⟨f,i,o,ho,_⟩
  ·exact hb
  ·simp[aG.at]at ho
 rintro e w' ⟨x,r,σ',β',rfl,⟨ν,rfl,rfl⟩,S',hx,E',K'⟩
 have ic:=S'.obj 0 0 ⟨T,k,rows,none⟩ rfl
 have ti:∀b,¬owned sJ [] b:=fun b ⟨f,i,o,ho,_⟩=>by simp[aG.at]at ho
 refine⟨x,rfl,?_,E'.size,fun b hb=>E'.wJ b hb (ti b),E'.io⟩
 cases hx with
 |own _ _ _ _ Mr Tz hle hh=>
  have h':=hh ⟨T,k,rows,none⟩ rfl rfl
  unfold kD at h'
  cases hb:β' 0 0 with
  |none=>
   rw[show β' ([]:aG).length 0=none from hb]at h'
   obtain⟨h1,rfl⟩:=h'
   simp only at h1
   subst h1
   exact .slnil k
  |some b=>
   rw[show β' ([]:aG).length 0=some b from hb]at h'
   rw[hb]at ic
   obtain⟨cap,c0,T0,rfl,CL,vx⟩:=h'
   obtain⟨c,hc,eX,jN,GV⟩:=ic.2.1 rfl
   rw[hc]at CL;injection CL with CL;injection CL with CL _;subst CL
   simp only at vx eX jN GV
   have FQ:w.heap.size<=b:=(E'.new b ⟨0,0,⟨T,k,rows,none⟩,rfl,hb⟩).resolve_left (ti b)
   have bP:∀e j,e<rows.length->j<k->e*k+j<c.size:=fun e j he hj=>by
    have:(e+1)*k<=rows.length*k:=cj _ he
    rw[cP,jT]at this;omega
   refine .sl k rows b 0 cap (fun e j=>c.getD (e*k+j) undef) ?_ (fun e he=>ic.1 e he) (fun e he j hj=>?_) (fun e j he hj oz=>?_) jN fun e j he hj=>hp e j _ _ _ _ _ he hj (GV e j he hj) _ _ _
   ·rw[vx]at eX;exact d_ eX (gA hk)
   ·unfold World.cell?
    rw[hc]
    simp[af,bP e j he hj]
   ·have:=Bk hs hX oz
    omega
theorem KN(σ:aG)(g:Nat)(l:List Sp)(h0:l≠[])(hl:l.length*16<=140737488355328)(hg:σ.at g 0=some ⟨52,2,l.map Sp.cs,none⟩):jg Tryz.prog 188 [.own g 0 l.length] σ (ec l):=by
 refine jg.copy (by decide) (zv l h0 hl []) ⟨bO.gZ (cs:=Sp.cs) hg rfl (by decide) (fun a c hc=>by simp at hc;rcases hc with rfl|rfl<;>simp) (fun a=>rfl),trivial⟩ fun e j w X β σ x he hj h X' β' σ'=>?_
 rw[aF]at he
 have hr:(l.map Sp.cs).getD e []=Sp.cs (l.getD e ⟨0,0⟩):=row ⟨0,0⟩ he
 rw[hr]at h|-
 match j,hj with
 |0,_=>cases h;exact .v _
 |1,_=>cases h;exact .v _
abbrev FC(l:List Sp)(τ:aG):aG:=some [⟨156,2,[[ec g0,.own 2 0 2]],none⟩]::some [⟨156,2,[[.v (.slice none 0 0),.v (.slice none 0 0)]],none⟩]::some [⟨52,2,l.map Sp.cs,none⟩]::τ
theorem xj(a b c ρ:Option (List Ob))(u:Ob)(ν τ:aG):aG.at (a::b::c::(ν++ρ::(τ++[some [u]]))) (List.length ν+(List.length τ+4)) 0=some u:=by
 rw[show(a::b::c::(ν++ρ::(τ++[some [u]])):aG)=(a::b::c::(ν++ρ::τ))++some [u]::[] by simp]
 exact Qw (by simp;omega)
theorem rK(a b c ρ:Option (List Ob))(u u':Ob)(ν τ:aG):aG.cZ (a::b::c::(ν++ρ::(τ++[some [u]]))) (List.length ν+(List.length τ+4)) 0 u'=a::b::c::(ν++ρ::(τ++[some [u']])):=by
 rw[show(a::b::c::(ν++ρ::(τ++[some [u]])):aG)=(a::b::c::(ν++ρ::τ))++some [u]::[] by simp,IL (by simp;omega)]
 simp
theorem gR(k:Nat)(args:List AV)(h:([[n 0,.agg [n 2,n 3]]]:List (List AV))[k]?=some args):[18,19].length=args.length:=by
 match k,h with
 |0,h=>injection h with h;subst h;rfl
 |k+1,h=>cases h
theorem z6:Pure Tryz.prog 127 [.agg [ec g0,ec [⟨0,400⟩,⟨5,5⟩]]] (.iu [.agg [ec g0,ec [⟨2,3⟩,⟨5,5⟩]],bl true]):=by
 refine et 78 (jo [jw 1 (.box true 156 2 (.t 0)),jw 2 (.alloc 156 2 [.slice none 0 0,.slice none 0 0]),jb 3 false] [1,2] (.scope (jo [jf 9 1 1,jl 10 9,jy 11 188 [10],jf 12 1 1,js 1 12 11] [1,2] (.seq .skip (.seq (.block 0 (.loop (.block 1 (jo [jf 13 1 1,jl 14 13,jy 15 188 [14],jm 4 15] [1,2,4] (.seq (jo [jk 16 2 1,jy 17 189 [16]] [1,2,4,17] (.block 2 (.rL (.t 17) [18,19] (jo [jm 5 18] [1,2,4,5,19] (.ops [jw 6 (.alloc 52 2 [.int .i64 0,.int .i64 0]),js 2 6 19] [1,2,4,5,6])) (.block 3 (.draw [jm 20 5,ju .add 21 20 1,jf 22 1 1,jl 23 22,jm 24 5,ji 25 2 23 24,jf 26 0 25,jl 27 26,jf 28 0 6,jl 29 28,jt .add 30 27 29,jf 31 1 1,jl 32 31,jm 33 5,ji 34 2 32 33,jf 35 1 34,jl 36 35,jf 37 1 6,jl 38 37,jt .add 39 36 38,jw 40 (.build [.int .i64 0,.int .i64 0] [(0,1,(.t 30)),(1,1,(.t 39))])] [jy 41 187 [1,21,40]] [1,2,4]))))) (.seq (jo [jk 42 2 1,jy 43 190 [42]] [1,2,4,43] (.block 4 (.rL (.t 43) [44,45] (jo [jm 7 44] [1,2,4,7,45] (.ops [jw 8 (.alloc 52 2 [.int .i64 0,.int .i64 0]),js 2 8 45] [1,2,4,7,8])) (.block 5 (.draw [jm 46 7,jf 47 1 1,jl 48 47,jm 49 7,ju .add 50 49 1,ji 51 2 48 50,jf 52 0 51,jl 53 52,jf 54 1 8,jl 55 54,jt .sub 56 53 55,jf 57 1 1,jl 58 57,jm 59 7,ju .add 60 59 1,ji 61 2 58 60,jf 62 1 61,jl 63 62,jf 64 0 8,jl 65 64,jt .sub 66 63 65,jw 67 (.build [.int .i64 0,.int .i64 0] [(0,1,(.t 56)),(1,1,(.t 66))])] [jy 68 187 [1,46,67]] [1,2,4]))))) (.seq (jo [jf 69 1 1,jl 70 69,jw 71 (.call (.f 191) [(.t 70),(.f 192)])] [1,2,4,71] (.cond (.t 71) (jo [jk 72 2 1,js 2 2 72,jb 3 false] [2,3] .ret) .skip)) (jo [jm 73 4,jf 74 1 1,jl 75 74,jy 76 193 [73,75]] [1,2,76] (.cond (.t 76) (.exit 0) .skip))))))))) (jo [jk 77 2 1,js 2 2 77,jb 3 true] [2,3] .ret)))))) [.c 2 (some 2),.t 3] Tryz.call127 Tryz.func127 ?_
 have ow:∀l ν,l.length=2->jg Tryz.prog 188 [.own 2 0 2] (FC l ν) (ec l):=fun l ν h=>by
  have:=KN (FC l ν) 2 l (fun e=>by rw[e]at h;cases h) (by omega) rfl
  rwa[h]at this
 have YN:∀σ,jg Tryz.prog 189 [.agg [ec g0,.own 2 0 2]] σ (.fn (.func 241) [] [.bZ [ec g0,.any] 0]):=fun σ=>jg.less NW ⟨LV.agg ⟨LV.pv (by simp),LV.any,trivial⟩,trivial⟩
 have PW:∀σ,jg Tryz.prog 190 [.agg [ec g0,.own 2 0 2]] σ (.fn (.func 242) [] [.bZ [ec g0,.any] 0]):=fun σ=>jg.less KL ⟨LV.agg ⟨LV.pv (by simp),LV.any,trivial⟩,trivial⟩
 have Dd:∀l ν,FL (FC l ν) [.own 2 0 l.length] [ec l]:=fun l ν=>⟨bO.gZ (cs:=Sp.cs) rfl rfl (by decide) (fun a c hc=>by simp at hc;rcases hc with rfl|rfl<;>simp) (fun a=>rfl),trivial⟩
 have Dc:∀ν,jg Tryz.prog 191 [.own 2 0 2,.fn (.func 192) [] []] (FC [⟨2,3⟩,⟨5,5⟩] ν) (bl false):=fun ν=>
  jg.plain (yX 192 [] (by simp) _ [⟨2,3⟩,⟨5,5⟩] (by simp) fun s _=>aaE s) (Plain.v _) ⟨(Dd [⟨2,3⟩,⟨5,5⟩] ν).1,bO.pure (bC.fn (by simp) (by simp)),trivial⟩
 have heq:∀l ν,l.length=2->jg Tryz.prog 193 [ec l,.own 2 0 2] (FC [⟨2,3⟩,⟨5,5⟩] ν) (bl (decide (l=[⟨2,3⟩,⟨5,5⟩]))):=fun l ν h=>
  jg.plain (Ic l [⟨2,3⟩,⟨5,5⟩] (by omega) (by simp)) (Plain.v _) ⟨bO.pure (by simp),(Dd [⟨2,3⟩,⟨5,5⟩] ν).1,trivial⟩
 have r1:∀a b:Sp,([Sp.cs a,Sp.cs b]:List (List AV)).getD (0+1:Int).toNat []=Sp.cs b:=fun _ _=>rfl
 have YO:∀a b:List AV,([a,b]:List (List AV)).getD (0+1:Int).toNat []=b:=fun _ _=>rfl
 refine Au ?_;intros
 refine .inr (.inl ⟨_,_,_,_,rfl,fun _=>⟨zv [⟨0,400⟩,⟨5,5⟩] (by simp) (by simp) _,?_⟩,fun h=>by cases h⟩)
 rintro r σ' ⟨ν,rfl,rfl⟩
 refine aH ?_
 refine Au ?_;intros
 refine aR.turns 2 ?_
 simp only[Un]
 (repeat' ((first|refine vn rfl ?_|simp(disch:=omega) only[cB,aj]|refine bo (fun _=>?_) fun _=>?_|refine im fun _=>?_|((repeat refine si ?_);((first|refine .inl ⟨_,_,_,_,rfl,fun _=>(by first|exact ow [⟨0,400⟩,⟨5,5⟩] _ rfl|exact YN _),?_⟩|refine⟨_,_,_,_,rfl,fun _=>(by first|exact ow [⟨0,400⟩,⟨5,5⟩] _ rfl|exact YN _),?_⟩);(first|refine o1 ?_|refine o4 ?_)))|refine cF ?_|refine om ?_|refine an ?_|fail)<;>try simp only[zN,zT,zV,zS,zU,dC,ex,bu,bN,elems,cells,scalar,dH,bL,aX,aU,bJ,bI,Nat.reduceBEq,reduceAdd,reduceSub,reduceLT,reduceLeDiff,reduceMul,reduceEqDiff,reduceIte]))
 refine aR.rL (α:=List Sp) (fun x=>FC x ν) (3+List.length ν) (fun x=>by simp[FC];omega) (fun k x=>x=if k=0 then [⟨0,400⟩,⟨5,5⟩]else [⟨0,400⟩,⟨5,5⟩]) (fun _ _=>False) [[n 0,.agg [n 2,n 3]]] [⟨0,400⟩,⟨5,5⟩] rfl rfl rfl NX gR (fun k x args ll ρ τ hk hx=>?_) (fun x τ hx=>?_) (fun _ _ _ h=>h.elim)
 ·match k,hk with
  |k+1,h=>cases h
  |0,h=>
   injection h with h;subst h
   obtain rfl:x=[⟨0,400⟩,⟨5,5⟩]:=hx
   simp only[par]
   refine Ax (aa @xj @rK) ?_;intros
   refine⟨[⟨0,400⟩,⟨5,5⟩],[some [⟨52,2,[[n 2,n 3]],none⟩]],by simp[FC],fun ox=>?_⟩
   refine Ax (aa @xj (aa @rK (aa @r1 @YO))) ?_;intros
   refine .inr (.inl ⟨_,_,_,_,rfl,fun _=>⟨na _ 0 2 (ec g0) [⟨0,400⟩,⟨5,5⟩] 1 ⟨2,403⟩ ⟨5,5⟩ rfl rfl rfl,?_⟩,fun h=>by cases h⟩)
   rintro r σ' rfl
   refine aH ?_
   refine Au ?_;intros
   exact⟨[⟨0,400⟩,⟨5,5⟩],[],by rw[bb];rfl,rfl⟩
 ·obtain rfl:x=[⟨0,400⟩,⟨5,5⟩]:=hx
  refine Ay @PW ?_;intros
  generalize hX:ν++τ=X1
  refine aR.rL (α:=List Sp) (fun x=>FC x X1) (3+List.length X1) (fun x=>by simp[FC];omega) (fun k x=>x=if k=0 then [⟨0,400⟩,⟨5,5⟩]else [⟨2,3⟩,⟨5,5⟩]) (fun _ _=>False) [[n 0,.agg [n 2,n 3]]] [⟨0,400⟩,⟨5,5⟩] rfl rfl rfl NY gR (fun k x args ll ρ τ hk hx=>?_) (fun x τ hx=>?_) (fun _ _ _ h=>h.elim)
  ·match k,hk with
   |k+1,h=>cases h
   |0,h=>
    injection h with h;subst h
    obtain rfl:x=[⟨0,400⟩,⟨5,5⟩]:=hx
    simp only[par]
    refine Ax (aa @xj @rK) ?_;intros
    refine⟨[⟨0,400⟩,⟨5,5⟩],[some [⟨52,2,[[n 2,n 3]],none⟩]],by simp[FC],fun ox=>?_⟩
    refine Ax (aa @xj (aa @rK (aa @r1 @YO))) ?_;intros
    refine .inr (.inl ⟨_,_,_,_,rfl,fun _=>⟨na _ 0 2 (ec g0) [⟨0,400⟩,⟨5,5⟩] 0 ⟨2,3⟩ ⟨0,400⟩ rfl rfl rfl,?_⟩,fun h=>by cases h⟩)
    rintro r σ' rfl
    refine aH ?_
    refine Au ?_;intros
    exact⟨[⟨2,3⟩,⟨5,5⟩],[],by rw[bb];rfl,rfl⟩
  ·obtain rfl:x=[⟨2,3⟩,⟨5,5⟩]:=hx
   (repeat' ((first|refine vn rfl ?_|simp(disch:=omega) only[cB,aj]|refine bo (fun _=>?_) fun _=>?_|refine im fun _=>?_|((repeat refine si ?_);((first|refine .inl ⟨_,_,_,_,rfl,fun _=>(by first|exact Dc _|exact heq [⟨0,400⟩,⟨5,5⟩] _ rfl),?_⟩|refine⟨_,_,_,_,rfl,fun _=>(by first|exact Dc _|exact heq [⟨0,400⟩,⟨5,5⟩] _ rfl),?_⟩);(first|refine o1 ?_|refine o4 ?_)))|refine cF ?_|refine om ?_|refine an ?_|fail)<;>try simp only[zN,zT,zV,zS,zU,dC,ex,bu,bN,elems,cells,scalar,dH,bL,aX,aU,bJ,bI,Nat.reduceBEq,reduceAdd,reduceSub,reduceLT,reduceLeDiff,reduceMul,reduceEqDiff,reduceIte]))
   ·rename_i h
    exact absurd h (by simp)
   rename_i h
   clear h
   generalize UA:X1++τ=X2
   (repeat' ((first|refine vn rfl ?_|simp(disch:=omega) only[cB,aj]|refine bo (fun _=>?_) fun _=>?_|refine im fun _=>?_|((repeat refine si ?_);((first|refine .inl ⟨_,_,_,_,rfl,fun _=>(by first|exact ow [⟨2,3⟩,⟨5,5⟩] _ rfl|exact YN _),?_⟩|refine⟨_,_,_,_,rfl,fun _=>(by first|exact ow [⟨2,3⟩,⟨5,5⟩] _ rfl|exact YN _),?_⟩);(first|refine o1 ?_|refine o4 ?_)))|refine cF ?_|refine om ?_|refine an ?_|fail)<;>try simp only[zN,zT,zV,zS,zU,dC,ex,bu,bN,elems,cells,scalar,dH,bL,aX,aU,bJ,bI,Nat.reduceBEq,reduceAdd,reduceSub,reduceLT,reduceLeDiff,reduceMul,reduceEqDiff,reduceIte]))
   refine aR.rL (α:=List Sp) (fun x=>FC x X2) (3+List.length X2) (fun x=>by simp[FC];omega) (fun k x=>x=if k=0 then [⟨2,3⟩,⟨5,5⟩]else [⟨2,3⟩,⟨5,5⟩]) (fun _ _=>False) [[n 0,.agg [n 2,n 3]]] [⟨2,3⟩,⟨5,5⟩] rfl rfl rfl NX gR (fun k x args ll ρ τ hk hx=>?_) (fun x τ hx=>?_) (fun _ _ _ h=>h.elim)
   ·match k,hk with
    |k+1,h=>cases h
    |0,h=>
     injection h with h;subst h
     obtain rfl:x=[⟨2,3⟩,⟨5,5⟩]:=hx
     simp only[par]
     refine Ax (aa @xj @rK) ?_;intros
     refine⟨[⟨2,3⟩,⟨5,5⟩],[some [⟨52,2,[[n 2,n 3]],none⟩]],by simp[FC],fun ox=>?_⟩
     refine Ax (aa @xj (aa @rK (aa @r1 @YO))) ?_;intros
     refine .inr (.inl ⟨_,_,_,_,rfl,fun _=>⟨na _ 0 2 (ec g0) [⟨2,3⟩,⟨5,5⟩] 1 ⟨4,6⟩ ⟨5,5⟩ rfl rfl rfl,?_⟩,fun h=>by cases h⟩)
     rintro r σ' rfl
     refine aH ?_
     refine Au ?_;intros
     exact⟨[⟨2,3⟩,⟨5,5⟩],[],by rw[bb];rfl,rfl⟩
   ·obtain rfl:x=[⟨2,3⟩,⟨5,5⟩]:=hx
    refine Ay @PW ?_;intros
    generalize RA:X2++τ=X3
    refine aR.rL (α:=List Sp) (fun x=>FC x X3) (3+List.length X3) (fun x=>by simp[FC];omega) (fun k x=>x=if k=0 then [⟨2,3⟩,⟨5,5⟩]else [⟨2,3⟩,⟨5,5⟩]) (fun _ _=>False) [[n 0,.agg [n 2,n 3]]] [⟨2,3⟩,⟨5,5⟩] rfl rfl rfl NY gR (fun k x args ll ρ τ hk hx=>?_) (fun x τ hx=>?_) (fun _ _ _ h=>h.elim)
    ·match k,hk with
     |k+1,h=>cases h
     |0,h=>
      injection h with h;subst h
      obtain rfl:x=[⟨2,3⟩,⟨5,5⟩]:=hx
      simp only[par]
      refine Ax (aa @xj @rK) ?_;intros
      refine⟨[⟨2,3⟩,⟨5,5⟩],[some [⟨52,2,[[n 2,n 3]],none⟩]],by simp[FC],fun ox=>?_⟩
      refine Ax (aa @xj (aa @rK (aa @r1 @YO))) ?_;intros
      refine .inr (.inl ⟨_,_,_,_,rfl,fun _=>⟨na _ 0 2 (ec g0) [⟨2,3⟩,⟨5,5⟩] 0 ⟨2,3⟩ ⟨2,3⟩ rfl rfl rfl,?_⟩,fun h=>by cases h⟩)
      rintro r σ' rfl
      refine aH ?_
      refine Au ?_;intros
      exact⟨[⟨2,3⟩,⟨5,5⟩],[],by rw[bb];rfl,rfl⟩
    ·obtain rfl:x=[⟨2,3⟩,⟨5,5⟩]:=hx
     (repeat' ((first|refine vn rfl ?_|simp(disch:=omega) only[cB,aj]|refine bo (fun _=>?_) fun _=>?_|refine im fun _=>?_|((repeat refine si ?_);((first|refine .inl ⟨_,_,_,_,rfl,fun _=>(by first|exact Dc _|exact heq [⟨2,3⟩,⟨5,5⟩] _ rfl),?_⟩|refine⟨_,_,_,_,rfl,fun _=>(by first|exact Dc _|exact heq [⟨2,3⟩,⟨5,5⟩] _ rfl),?_⟩);(first|refine o1 ?_|refine o4 ?_)))|refine cF ?_|refine om ?_|refine an ?_|fail)<;>try simp only[zN,zT,zV,zS,zU,dC,ex,bu,bN,elems,cells,scalar,dH,bL,aX,aU,bJ,bI,Nat.reduceBEq,reduceAdd,reduceSub,reduceLT,reduceLeDiff,reduceMul,reduceEqDiff,reduceIte]))
     exact bO.mY ⟨bO.mX ⟨bO.pure (by simp),bO.gZ (T:=52) (cs:=Sp.cs) (l:=[⟨2,3⟩,⟨5,5⟩]) rfl rfl (by decide) (fun a c hc=>by simp at hc;rcases hc with rfl|rfl<;>simp) (fun a=>rfl),trivial⟩,bO.pure (by simp),trivial⟩
theorem z7:Pure Tryz.prog 126 [.agg [ec g0,.sl 3 []],.sl 3 [[n 1,n 5,n 5]]] (.agg [ec g0,ec [⟨0,400⟩,⟨5,5⟩]]):=by
 refine jX Tryz.f126.eq_1 [] [.l [4,5,19,20,21]] ?_
 refine Ay @Xn ?_;intros
 refine .inr (.inl ⟨_,_,_,_,rfl,fun _=>⟨HM _,?_⟩,fun h=>by cases h⟩)
 rintro r σ' ⟨ν,rfl,rfl⟩
 refine aH ?_
 refine Au ?_;intros
 refine aR.turns 2 ?_
 simp only[Un]
 refine Au ?_;intros
 refine .inr (.inl ⟨_,_,_,_,rfl,fun _=>⟨na _ 1 2 (ec g0) [⟨0,400⟩,⟨0,400⟩] 1 ⟨5,5⟩ ⟨0,400⟩ rfl rfl rfl,?_⟩,fun h=>by cases h⟩)
 rintro r σ' rfl
 refine aH ?_
 refine Au ?_;intros
 exact bO.mX ⟨bO.pure (by simp),bO.gZ (T:=52) (cs:=Sp.cs) (l:=[⟨0,400⟩,⟨5,5⟩]) rfl rfl (by decide) (fun a c hc=>by simp at hc;rcases hc with rfl|rfl<;>simp) (fun a=>rfl),trivial⟩
abbrev Xo:AV:=.sl 3 [[n 1,n 5,n 5]]
theorem z8:Pure Tryz.prog 122 [.agg [ec g0,.sl 3 []],Xo] (n 0):=by
 refine jX Tryz.f122.eq_1 [] [] ?_
 have h:Pure Tryz.prog 148 [.agg [ec g0,.sl 3 []],Xo] (.iu [n 0,n 0]):=xH (g0,[]) [⟨1,⟨5,5⟩⟩] ⟨by decide,by decide⟩ (by decide) (by decide) (by decide)
 refine Ay @h ?_;intros
 all_goals try contradiction
 all_goals exact Fq
theorem RK(f:Nat)(dZ:List AV)(ep:∀c∈dZ,bC c)(σ:aG):jg Tryz.prog 114 [.v (.slice none 0 0),.fn (.func f) [] dZ] σ (bl false):=
 jg.less (wF f dZ ep (fun _=>true) [] (by simp) (by simp)) ⟨LV.nil,LV.pv (bC.fn (by simp) ep),trivial⟩
theorem Qx:Pure Tryz.prog 59 [.agg [ec g0,.sl 3 []],Xo,.v (.slice none 0 0),.v (.slice none 0 0)] (.iu [.agg [ec g0,ec [⟨2,3⟩,⟨5,5⟩]],n 0]):=by
 refine jX Tryz.f59.eq_1 [] [] ?_
 have hp:bC (.bZ [ec g0,.sl 3 []] 0):=.bZ fun c hc=>by
  simp only[aC,au,or_false]at hc
  rcases hc with rfl|rfl<;>simp
 have h1:=fun σ=>RK 123 [.bZ [ec g0,.sl 3 []] 0] (fun c hc=>by rw[bp.1 hc];exact hp) σ
 have h2:=fun σ=>RK 125 [] (by simp) σ
 refine Ay (aa @h1 (aa @h2 (aa @z8 (aa @z7 @z6)))) ?_;intros
 all_goals try contradiction
 exact bO.mY ⟨bO.mX ⟨bO.pure (by simp),bO.pure (by simp),trivial⟩,bO.pure (by simp),trivial⟩
theorem KO:Pure Tryz.prog 18 [.agg [ec g0,.sl 3 []],Xo] (.iu [l9 [2,5],n 0]):=by
 refine jX Tryz.f18.eq_1 [] [] ?_
 refine Ay (aa @Qx @KM) ?_;intros
 all_goals try contradiction
 all_goals exact bO.mY ⟨bO.pure (by simp),bO.pure (by simp),trivial⟩
end Go.Proofs.YtgopgjnfhkoomaaGreat
namespace Go.Abs
open Go.Shelf Go.RowKit Go.Lib Go.Sort Go.Proofs
theorem wG(a:Int):∀l,(Cx a l).Perm (a::l)
 | []=>.refl _
 |x::r=>by
  unfold Cx
  split
  ·exact .refl _
  ·exact((wG a r).cons x).trans (.swap a x r)
theorem IM{a:Int}:∀{l:List Int},l.Pairwise (·<=·)->(Cx a l).Pairwise (·<=·)
 | [],_=>by simp[Cx]
 |x::r,h=>by
  rw[ct]at h
  unfold Cx
  split
  ·refine ct.2 ⟨fun y hy=>?_,ct.2 h⟩
   rcases aC.1 hy with rfl|hy
   ·omega
   ·have:=h.1 y hy;omega
  ·refine ct.2 ⟨fun y hy=>?_,IM h.2⟩
   rcases aC.1 ((wG a r).mem_iff.1 hy)with rfl|hy
   ·omega
   ·exact h.1 y hy
theorem B8(l:List Int):(tH l).Perm l:=by
 have:∀(l o:List Int),(l.foldl (fun o a=>Cx a o) o).Perm (l++o):=by
  intro l
  induction l with
  |nil=>exact fun o=>.refl _
  |cons a r ih=>exact fun o=>(ih _).trans (((wG a o).append_left r).trans List.perm_middle)
 have:=this l []
 rwa[bb]at this
theorem Qy(l:List Int):(tH l).Pairwise (·<=·):=by
 have:∀(l o:List Int),o.Pairwise (·<=·)->(l.foldl (fun o a=>Cx a o) o).Pairwise (·<=·):=by
  intro l
  induction l with
  |nil=>exact fun o h=>h
  |cons a r ih=>exact fun o h=>ih _ (IM h)
 exact this l [] .nil
theorem xk:∀{l m:List Int},l.Perm m->l.Pairwise (·<=·)->m.Pairwise (·<=·)->l=m
 | [],m,h,_,_=>(List.nil_perm.1 h).symm
 |a::r,[],h,_,_=>absurd h.symm (by simp)
 |a::r,b::s,h,h1,h2=>by
  rw[ct]at h1 h2
  have Rp:a=b:=by
   rcases aC.1 (h.mem_iff.1 (List.mem_cons_self ..))with e|ha
   ·exact e
   rcases aC.1 (h.mem_iff.2 (List.mem_cons_self ..))with e|hb
   ·exact e.symm
   have g1:=h1.1 b hb
   have g2:=h2.1 a ha
   omega
  subst Rp
  rw[xk (List.Perm.cons_inv h) h1.2 h2.2]
theorem z_(l:List Int):(l.mergeSort fun x y=>decide (x<=y))=tH l:=by
 refine xk ((List.mergeSort_perm l _).trans (B8 l).symm) ?_ (Qy l)
 have:=List.pairwise_mergeSort (le:=fun x y:Int=>decide (x<=y)) (fun a b c h1 h2=>by simp at h1 h2|-;omega) (fun a b=>by simp;omega) l
 exact this.imp fun h=>by simpa using h
theorem Bi{w:World}{b m:Nat}{l:List Int}{os:Array Obj}{c:Array Value}{T:TypeId}(hc:w.heap[b]?=some (.cells c T (0,0)))(eX:l.length<=c.size):(∃c',(grow (putRow (Value.int .i64) (Sort.ahead w m) b 0 l.toArray) os).heap[b]?=some (.cells c' T (0,0))/\c'.size=c.size/\∀i (hi:i<l.length),c'.getD i undef=.int .i64 l[i])/\w.heap.size<=(grow (putRow (Value.int .i64) (Sort.ahead w m) b 0 l.toArray) os).heap.size/\(∀b',b'<w.heap.size->b'≠b->(grow (putRow (Value.int .i64) (Sort.ahead w m) b 0 l.toArray) os).heap[b']?=w.heap[b']?)/\Still w (grow (putRow (Value.int .i64) (Sort.ahead w m) b 0 l.toArray) os):=by
 have hb:b<w.heap.size:=(aZ.1 hc).1
 have C':∀b',(putRow (Value.int .i64) (Sort.ahead w m) b 0 l.toArray).heap[b']?=if b=b' then(w.heap[b']?).map (onCells (putCells (Value.int .i64) 0 l.toArray))else w.heap[b']?:=by
  intro b'
  simp only[putRow,mapBlock,Sort.ahead]
  rw[fR]
 refine⟨?_,by simp[grow,putRow,mapBlock,Sort.ahead],fun b' h1 h2=>?_,⟨rfl,rfl,rfl,(show w.drawn<=w.drawn+m from Nat.le_add_right _ _)⟩⟩
 ·refine⟨putCells (Value.int .i64) 0 l.toArray c,?_,?_,fun i hi=>?_⟩
  ·rw[heap_grow_old _ _ (by simp[putRow,mapBlock,Sort.ahead];exact hb),C',if_pos rfl,hc]
   rfl
  ·simp[putCells]
  ·have:i<c.size:=by omega
   simp[putCells,af,this,hi]
 ·rw[heap_grow_old _ _ (by simp[putRow,mapBlock,Sort.ahead];exact h1),C',if_neg (fun e=>h2 e.symm)]
theorem KP{P:Program}{g:Nat}(hs:∀(IH off cap:Nat) (zs:List Int) (w:World),Holds (Value.int .i64) w IH off zs.toArray->IH<w.heap.size->zs.length<4611686018427387904->Calls P g #[.slice (some ⟨IH,off,none⟩) zs.length cap] w fun e w'=>
 e=.returned (.tuple #[])/\∃m os,w'=grow (putRow (Value.int .i64) (Sort.ahead w m) IH off (zs.mergeSort fun x y=>decide (x<=y)).toArray) os)
 (hn:∀(p:Option Addr) (cap:Nat) (w:World),Calls P g #[.slice p 0 cap] w fun e w'=>e=.returned (.tuple #[])/\w'=w)
 (ef:∀args w,(callFunc g args).run P w=.ok (.enter g args) w)
 (σ:aG) (f:Nat) (T:TypeId) (l:List Int) (hf:σ.at f 0=some ⟨T,1,l.map (fun z=>[n z]),none⟩) (hl:l.length<4611686018427387904):
 eY P g [.own f 0 l.length] σ (fun _ σ'=>σ'=σ.cZ f 0 ⟨T,1,(tH l).map (fun z=>[n z]),none⟩):=by
 refine⟨ef,fun X β w xs hX nv hlen hr=>?_⟩
 match xs,hlen with
 | [x],_=>
  have hx:=hr 0 (by simp)
  simp only[dF]at hx
  have ic:=nv.obj f 0 _ hf
  cases hx with
  |own _ _ _ _ Mr Tz hle h=>
   have h':=h _ hf (by simp)
   unfold kD at h'
   by_cases h0:l=[]
   ·subst h0
    have TA:∃p cap,x=.slice p 0 cap:=by
     cases nf:β f 0 with
     |none=>rw[nf]at h';exact⟨none,0,h'.2⟩
     |some b=>rw[nf]at h';obtain⟨cap,_,_,rfl,_⟩:=h';exact⟨_,cap,rfl⟩
    obtain⟨p,cap,rfl⟩:=TA
    refine callsIn_wide.2 ((hn p cap w).mono ?_)
    rintro e w' ⟨rfl,rfl⟩
    exact⟨_,.any,σ,β,rfl,(j8 hf).symm,nv,.any _,Ext.refl _ _ _,Kp.refl⟩
   ·cases nf:β f 0 with
    |none=>
     rw[nf]at h'
     exact absurd (List.map_eq_nil_iff.1 h'.1) h0
    |some b=>
     rw[nf]at h' ic
     obtain⟨cap,c0,T0,rfl,CL,JL⟩:=h'
     obtain⟨c,IQ,eX,jN,GV⟩:=ic.2.1 rfl
     rw[IQ]at CL;injection CL with CL;injection CL with CL _;subst CL
     simp only[aF,CD]at eX jN GV JL|-
     have eN:∀i (hi:i<l.length),c.getD i undef=.int .i64 l[i]:=by
      intro i hi
      have h1:=GV i 0 hi (by omega)
      rw[getD_map (ae hi),eE]at h1
      exact h1.dz
     have hH:Holds (Value.int .i64) w b 0 l.toArray:=by
      intro t ht
      have ht':t<l.length:=by simpa using ht
      have h2:c[t]?=some (c.getD t undef):=by
       rw[af,bS (by omega)];rfl
      refine⟨?_,?_⟩
      ·unfold World.cell?
       rw[IQ]
       simp only[fN,bw,if_false,br,id_eq]
       rw[h2,eN t ht']
       simp[ht']
      ·unfold World.frozen?
       rw[IQ]
       simp
     have hblk:b<w.heap.size:=(aZ.1 IQ).1
     refine callsIn_wide.2 ((hs b 0 cap l w hH hblk hl).mono ?_)
     rintro e w' ⟨rfl,m,os,rfl⟩
     rw[z_]
     have JK:(tH l).length=l.length:=(B8 l).length_eq
     obtain⟨⟨c',vf,GW,KR⟩,As,hold,Da⟩:=Bi (l:=tH l) (m:=m) (os:=os) IQ (by omega)
     generalize hW:grow (putRow (Value.int .i64) (Sort.ahead w m) b 0 (tH l).toArray) os=W at vf As hold Da
     have ht:ss w β f 0 (some b) W:=⟨As,fun b' h1 h2=>hold b' h1 (fun e=>h2 (by rw[nf,e])),fun b' oz=>.inl (by rw[nf];exact oz),Da⟩
     have fe:(⟨T,1,l.map (fun z=>[n z]),none⟩:Ob).es.length=(⟨T,1,(tH l).map (fun z=>[n z]),none⟩:Ob).es.length->some b=β f 0/\∀b',β f 0=some b'->dM w W b':=fun _=>
      ⟨nf.symm,fun b' oz cc T lC=>by
       rw[nf]at oz;injection oz with oz;subst oz
       rw[IQ]at lC;injection lC with lC;injection lC with lC hT;subst lC;subst hT
       exact⟨c',_,vf,GW⟩⟩
     have sP:(⟨T,1,l.map (fun z=>[n z]),none⟩:Ob).es.length<=(⟨T,1,(tH l).map (fun z=>[n z]),none⟩:Ob).es.length:=by simp[JK]
     have K:=Kp.jM (o':=⟨T,1,(tH l).map (fun z=>[n z]),none⟩) nv hf ht rfl sP fe
     have S:=nv.jM (o':=⟨T,1,(tH l).map (fun z=>[n z]),none⟩) hX hf ht rfl sP fe (by
      refine⟨fun e he=>?_,fun _=>⟨c',vf,by simp only[aF,CD];omega,fun e j he hj=>?_,fun e j he hj=>?_⟩,fun r hr=>by cases hr⟩
      ·simp only[aF]at he|-
       rw[getD_map (ae he)];rfl
      ·simp only[aF,CD]at he|-
       obtain rfl:j=0:=by simp at hj;omega
       rw[eE,KR e he];rfl
      ·simp only[aF,CD]at he|-
       obtain rfl:j=0:=by simp at hj;omega
       rw[eE,KR e he,getD_map (ae he)]
       exact .v _)
     exact⟨_,.any,_,_,rfl,rfl,S,.any _,Ext.jM hf ht,K⟩
end Go.Abs
namespace Go.Proofs.YtgopgjnfhkoomaaGreat
open Go.Shelf
def Tryz.ve:Go.Shelf.Ren:=⟨fun|5=>281|8=>228|7=>312|19=>274|20=>275|10=>325|11=>326|12=>327|13=>328|14=>329|15=>330|16=>331|17=>332|18=>333|30=>337|31=>307|32=>308|33=>338|34=>339|35=>96|40=>340|n=>n,fun|23=>28|25=>3|3=>3|32=>348|22=>28|0=>0|44=>410|46=>412|4=>4|36=>404|35=>403|41=>361|5=>5|9=>9|53=>457|57=>461|63=>471|64=>370|n=>n,fun|n=>n⟩
theorem Tryz.s_:Go.Proofs.SlLaysM.n5 Tryz.prog Tryz.ve:={
 mixed:=by kernel_rfl
 f5:=⟨Tryz.f281.name,by decide,Tryz.func281.trans (congrArg some (by kernel_rfl))⟩
 f7:=⟨Tryz.f312.name,by decide,Tryz.func312.trans (congrArg some (by kernel_rfl))⟩
 f8:=Tryz.func228.trans (congrArg some (by kernel_rfl))
 f10:=⟨Tryz.f325.name,by decide,Tryz.func325.trans (congrArg some (by kernel_rfl))⟩
 f11:=⟨Tryz.f326.name,by decide,Tryz.func326.trans (congrArg some (by kernel_rfl))⟩
 f12:=⟨Tryz.f327.name,by decide,Tryz.func327.trans (congrArg some (by kernel_rfl))⟩
 f13:=⟨Tryz.f328.name,by decide,Tryz.func328.trans (congrArg some (by kernel_rfl))⟩
 f14:=⟨Tryz.f329.name,by decide,Tryz.func329.trans (congrArg some (by kernel_rfl))⟩
 f15:=⟨Tryz.f330.name,by decide,Tryz.func330.trans (congrArg some (by kernel_rfl))⟩
 f16:=⟨Tryz.f331.name,by decide,Tryz.func331.trans (congrArg some (by kernel_rfl))⟩
 f17:=⟨Tryz.f332.name,by decide,Tryz.func332.trans (congrArg some (by kernel_rfl))⟩
 f18:=⟨Tryz.f333.name,by decide,Tryz.func333.trans (congrArg some (by kernel_rfl))⟩
 f19:=Tryz.func274.trans (congrArg some (by kernel_rfl))
 f20:=Tryz.func275.trans (congrArg some (by kernel_rfl))
 f30:=⟨Tryz.f337.name,by decide,Tryz.func337.trans (congrArg some (by kernel_rfl))⟩
 f31:=Tryz.func307.trans (congrArg some (by kernel_rfl))
 f32:=Tryz.func308.trans (congrArg some (by kernel_rfl))
 f33:=⟨Tryz.f338.name,by decide,Tryz.func338.trans (congrArg some (by kernel_rfl))⟩
 f34:=⟨Tryz.f339.name,by decide,Tryz.func339.trans (congrArg some (by kernel_rfl))⟩
 f35:=⟨Tryz.f96.name,by decide,Tryz.func96.trans (congrArg some (by kernel_rfl))⟩
 f40:=⟨Tryz.f340.name,by decide,Tryz.func340.trans (congrArg some (by kernel_rfl))⟩
 t0:=Tryz.underlying0
 a0:=Tryz.isAgg0
 z0:=Tryz.sizeOf0
 v0:=Tryz.zeroValue0
 t3:=Tryz.underlying3
 a3:=Tryz.isAgg3
 z3:=Tryz.sizeOf3
 v3:=Tryz.zeroValue3
 t4:=Tryz.underlying4
 a4:=Tryz.isAgg4
 z4:=Tryz.sizeOf4
 v4:=Tryz.zeroValue4
 t5:=Tryz.underlying5
 a5:=Tryz.isAgg5
 z5:=Tryz.sizeOf5
 v5:=Tryz.zeroValue5
 t9:=Tryz.underlying9
 a9:=Tryz.isAgg9
 z9:=Tryz.sizeOf9
 v9:=Tryz.zeroValue9
 t22:=Tryz.underlying28
 a22:=Tryz.isAgg28
 z22:=Tryz.sizeOf28
 v22:=Tryz.zeroValue28
 t23:=Tryz.underlying28
 a23:=Tryz.isAgg28
 z23:=Tryz.sizeOf28
 v23:=Tryz.zeroValue28
 t25:=Tryz.underlying3
 a25:=Tryz.isAgg3
 z25:=Tryz.sizeOf3
 v25:=Tryz.zeroValue3
 t32:=Tryz.underlying348
 a32:=Tryz.isAgg348
 z32:=Tryz.sizeOf348
 v32:=Tryz.zeroValue348
 t35:=Tryz.underlying403
 a35:=Tryz.isAgg403
 z35:=Tryz.sizeOf403
 v35:=Tryz.zeroValue403
 t36:=Tryz.underlying404
 a36:=Tryz.isAgg404
 z36:=Tryz.sizeOf404
 v36:=Tryz.zeroValue404
 t41:=Tryz.underlying361
 a41:=Tryz.isAgg361
 z41:=Tryz.sizeOf361
 v41:=Tryz.zeroValue361
 t44:=Tryz.underlying410
 a44:=Tryz.isAgg410
 z44:=Tryz.sizeOf410
 v44:=Tryz.zeroValue410
 t46:=Tryz.underlying412
 a46:=Tryz.isAgg412
 z46:=Tryz.sizeOf412
 v46:=Tryz.zeroValue412
 t53:=Tryz.underlying457
 a53:=Tryz.isAgg457
 z53:=Tryz.sizeOf457
 v53:=Tryz.zeroValue457
 t57:=Tryz.underlying461
 a57:=Tryz.isAgg461
 z57:=Tryz.sizeOf461
 v57:=Tryz.zeroValue461
 t63:=Tryz.underlying471
 a63:=Tryz.isAgg471
 z63:=Tryz.sizeOf471
 v63:=Tryz.zeroValue471
 t64:=Tryz.underlying370
 a64:=Tryz.isAgg370
 z64:=Tryz.sizeOf370
 v64:=Tryz.zeroValue370}
open Go.Sort Go.RowKit Go.Proofs in
theorem Tryz.slices_Sort_int(IH off cap:Nat)(zs:List Int)(w:World)(hH:Holds (Value.int .i64) w IH off zs.toArray)(hblk:IH<w.heap.size)(eX:zs.length<4611686018427387904):Calls Tryz.prog 281 #[.slice (some ⟨IH,off,none⟩) zs.length cap] w fun e w'=>
 e=.returned (.tuple #[])/\∃n os,w'=grow (putRow (Value.int .i64) (Sort.ahead w n) IH off (zs.mergeSort fun x y=>decide (x<=y)).toArray) os:=AnyM.slices_Sort_int Tryz.s_ IH off cap zs w hH hblk eX
open Go.RowKit Go.Sort Go.Proofs in
theorem Tryz.slices_Sort_int_none(p:Option Addr)(cap:Nat)(w:World):Calls Tryz.prog 281 #[.slice p 0 cap] w fun e w'=>e=.returned (.tuple #[])/\w'=w:=AnyM.slices_Sort_int_none Tryz.s_ p cap w
end Go.Proofs.YtgopgjnfhkoomaaGreat
namespace Go.Proofs.YtgopgjnfhkoomaaGreat
open Go.Abs
open Nat (reduceAdd reduceSub reduceLT reduceLeDiff reduceMul reduceEqDiff)
set_option maxHeartbeats 4000000
set_option maxRecDepth 100000
theorem HN(σ:aG)(f:Nat)(l:List Int)(hf:σ.at f 0=some ⟨3,1,l.map (fun z=>[n z]),none⟩)(hl:l.length<4611686018427387904):eY Tryz.prog 281 [.own f 0 l.length] σ (fun _ σ'=>σ'=σ.cZ f 0 ⟨3,1,(tH l).map (fun z=>[n z]),none⟩):=
 KP Tryz.slices_Sort_int Tryz.slices_Sort_int_none Tryz.call281 σ f 3 l hf hl
theorem FD(a b c m:Int)(hm:∃x y,tH [a,b,c]=[x,m,y]):eY Tryz.prog 238 [.own 0 0 3] [some [⟨3,1,[[n a],[n b],[n c]],none⟩]] (fun r _=>r=n m):=by
 refine Fi Tryz.f238.eq_1 [] [] ?_
 have hS:=HN [some [⟨3,1,[[n a],[n b],[n c]],none⟩]] 0 [a,b,c] rfl (by simp)
 obtain⟨x,y,e⟩:=hm
 rw[e]at hS
 refine Au ?_;intros
 refine .inr (.inl ⟨_,_,_,_,rfl,fun _=>⟨hS,?_⟩,fun h=>by cases h⟩)
 rintro r σ' rfl
 refine aH ?_
 refine adL ?_
 have hw:IntKind.i64.wrap (Int.tdiv 3 2)=1:=by decide
 have ht:(1:Int).toNat=1:=rfl
 have hg:([[n x],[n m],[n y]]:List (List AV)).getD 1 []=[n m]:=rfl
 exact Ax (aa @hw (aa @ht @hg)) trivial
theorem KQ(p:Pn)(hp:0<=p.cS/\p.cS<=8)(s x m:Int)(hx:-1000<=x/\x<=1000)(hm:∃u v,tH [s,x-p.cS,x+p.cS]=[u,m,v]):Pure Tryz.prog 184 [.agg p.cs,n s,n x] (n m):=by
 refine jX Tryz.f184.eq_1 [18] [] ?_
 refine Au ?_;intros
 refine .inr (.inl ⟨_,_,_,_,rfl,fun _=>⟨FD _ _ _ m hm,?_⟩,fun h=>by cases h⟩)
 rintro r σ' rfl
 refine aH ?_
 refine Au ?_;intros
 exact Fq
theorem xl(p:Pn)(s r:Int)(h1:-1000<=s/\s<=1000)(h2:-1000<=r/\r<=1000):Pure Tryz.prog 120 [.agg p.cs,.agg [n s,n r]] (bl (decide (max (r-s) (s-r)<=p.cS))):=by
 refine jX Tryz.f120.eq_1 [] [.d 10] ?_
 have h:=apart_spec r s (by omega) (by omega) (by omega) (by omega)
 refine Ay @h ?_;intros
 all_goals exact Fq
theorem Aa(p:Pn)(hp:0<=p.cS/\p.cS<=8)(s r x m:Int)(h1:-1000<=s/\s<=1000)(h2:-1000<=r/\r<=1000)(hx:-1000<=x/\x<=1000)(hr:max (r-s) (s-r)<=p.cS)(ha:max (x-r) (r-x)<=p.kc)(hm:∃u v,tH [s,x-p.cS,x+p.cS]=[u,m,v]):Pure Tryz.prog 121 [.agg p.cs,.agg [n s,n r],n x] (.iu [.agg [n m,n x],bl true]):=by
 refine jX Tryz.f121.eq_1 [] [.d 14] ?_
 have q1:=xl p s r h1 h2
 rw[decide_eq_true hr]at q1
 have q2:=apart_spec x r (by omega) (by omega) (by omega) (by omega)
 have q3:=KQ p hp s x m hx hm
 generalize max (x-r) (r-x)=D at*
 refine Ay (aa @q1 (aa @q2 @q3)) ?_;intros
 all_goals exact bO.mY ⟨bO.mX ⟨Fq,Fq,trivial⟩,Fq,trivial⟩
def OL:List (List AV):=[[.agg [n 5,n 5]],[.agg [n 6,n 7]],[.agg [n 5,n 4]]]
theorem FE:Iter Tryz.prog 119 [] [.bZ [n 5] 0,.bZ [l9 [5,7,4]] 0,.bZ zZ.cs 0] OL:=by
 refine⟨Tryz.call119,fun C y J D σ hy hC hJ ew=>?_⟩
 refine eY.mono (R:=fun _ iX=>nz C J D 3 iX) ?_ fun _ _ h=>h.out
 refine qY 45 (.seq (.draw [jl 9 1,jl 10 2,jw 11 (.qe 1 (.t 10) (.c (.int .i64 0))),jl 12 11,jw 13 (.build [.int .i64 0,.int .i64 0] [(0,1,(.t 9)),(1,1,(.t 12))]),jw 5 (.alloc 154 2 [.int .i64 0,.int .i64 0])] [js 2 5 13] [0,2,3,5]) (jo [jk 14 4 3,jk 15 2 5,jy 16 120 [14,15],jm 6 16] [0,2,3,5,6] (jo [jk 17 4 3,jw 18 (.j5 (.func 121) [(.t 17)] []),jm 7 18] [0,2,5,6,7] (jo [jc 8 0] [0,2,5,6,7,8] (.block 0 (.loop (.seq (jo [jm 19 6,jm 20 19,ja 20 (jm 21 0),ja 20 (jk 22 2 5),⟨some 23,.call (.t 21) [(.t 22)],some (20,true)⟩,jp 24 20 23,jm 25 24,ja 25 (jm 26 8),ja 25 (ju .add 27 26 1),ja 25 (jl 28 2),ja 25 (je 29 28),ja 25 (jt .lss 30 27 29),jp 31 25 30] [0,2,5,7,8,31] (.cond (.t 31) .skip (.exit 0))) (.seq (.block 1 (.jC [0,1,2,3,4,5,6,7,8,9,10,11,12] [10] 1 [jm 35 7,jk 36 2 5,jl 37 2,jm 38 8,ju .add 39 38 1,ji 40 1 37 39,jl 41 40,jw 42 (.call (.t 35) [(.t 36),(.t 41)]),jm 34 42,jz 43 0 34,jz 44 1 34] [js 2 5 43,jm 6 44] [0,2,5,6,7,8])) (.ops [jm 32 8,ju .add 33 32 1,jm 8 33] [0,2,5,6,7,8]))))))))) [] Tryz.call119 Tryz.func119 ?_
 have hR:=xl zZ 5 5 (by omega) (by omega)
 rw[show decide (max (5-5:Int) (5-5)<=zZ.cS)=true from rfl]at hR
 have K7:=Aa zZ (by decide) 5 5 7 6 (by omega) (by omega) (by omega) (by decide) (by decide) ⟨5,8,rfl⟩
 have Gm:=Aa zZ (by decide) 6 7 4 5 (by omega) (by omega) (by omega) (by decide) (by decide) ⟨3,6,rfl⟩
 subst hC
 refine Ay @hR ?_;intros
 refine aR.turns 4 ?_
 simp only[Un]
 refine Au ?_;intros
 refine .inr (.inr ⟨y,_,rfl,fun _=>⟨ew 0 _ σ _ rfl rfl hJ,?_⟩,fun h=>by cases h⟩)
 rintro b σ' ⟨It,ν0,rfl,e0,j0,d0⟩
 refine aH ?_
 have a0:∀o ν,aG.at (It++(some [o]::ν)) σ.length 0=some o:=fun o ν=>Qw e0
 have u0:∀o o' ν,aG.cZ (It++(some [o]::ν)) σ.length 0 o'=It++(some [o']::ν):=fun o o' ν=>IL e0
 refine adL ?_
 cases b with
 |false=>
  refine Au ?_;intros
  exact nz.mk It _ rfl e0 (.inr (d0 rfl))
 |true=>
  refine Az (aa @a0 @u0) @K7 ?_;intros
  refine .inr (.inr ⟨y,_,rfl,fun _=>⟨ew 1 _ It _ rfl e0 (j0 rfl),?_⟩,fun h=>by cases h⟩)
  rintro b σ' ⟨tT,Ru,rfl,e1,j1,d1⟩
  refine aH ?_
  have a1:∀o ν,aG.at (tT++(some [o]::ν)) σ.length 0=some o:=fun o ν=>Qw e1
  have u1:∀o o' ν,aG.cZ (tT++(some [o]::ν)) σ.length 0 o'=tT++(some [o']::ν):=fun o o' ν=>IL e1
  refine adL ?_
  cases b with
  |false=>
   refine Au ?_;intros
   exact nz.mk tT _ rfl e1 (.inr (d1 rfl))
  |true=>
   refine Az (aa @a1 @u1) @Gm ?_;intros
   refine .inr (.inr ⟨y,_,rfl,fun _=>⟨ew 2 _ tT _ rfl e1 (j1 rfl),?_⟩,fun h=>by cases h⟩)
   rintro b σ' ⟨qw,ν2,rfl,e2,j2,d2⟩
   refine aH ?_
   have a2:∀o ν,aG.at (qw++(some [o]::ν)) σ.length 0=some o:=fun o ν=>Qw e2
   have u2:∀o o' ν,aG.cZ (qw++(some [o]::ν)) σ.length 0 o'=qw++(some [o']::ν):=fun o o' ν=>IL e2
   refine adL ?_
   cases b with
   |false=>
    refine Au ?_;intros
    exact nz.mk qw _ rfl e2 (.inr (d2 rfl))
   |true=>
    refine Ax (aa @a2 @u2) ?_;intros
    exact nz.mk qw _ rfl e2 (.inl (j2 rfl))
theorem FF:Pure Tryz.prog 58 [.agg zZ.cs,n 5,l9 [5,7,4]] (.fn (.func 119) [] [.bZ [n 5] 0,.bZ [l9 [5,7,4]] 0,.bZ zZ.cs 0]):=by
 refine jX Tryz.f58.eq_1 [] [] ?_
 refine Au ?_;intros
 refine bO.eq rfl (bC.fn (by simp) fun c hc=>?_)
 simp only[aC,au,or_false]at hc
 rcases hc with rfl|rfl|rfl<;>simp
theorem IP:∀{k:Nat} {args:List AV},OL[k]?=some args->k<3/\∃s r:Int,args=[.agg [n s,n r]]/\([5,6,5]:List Int).take (k+1)=([5,6,5]:List Int).take k++[s]
 |0,_,h=>by injection h with h;subst h;exact⟨by omega,5,5,rfl,rfl⟩
 |1,_,h=>by injection h with h;subst h;exact⟨by omega,6,7,rfl,rfl⟩
 |2,_,h=>by injection h with h;subst h;exact⟨by omega,5,4,rfl,rfl⟩
 |k+3,_,h=>by cases h
theorem FG:Pure Tryz.prog 17 [.agg zZ.cs,n 5,l9 [5,7,4]] (.iu [l9 [5,6,5],n 0]):=by
 refine jX Tryz.f17.eq_1 [] [.l [2,10]] ?_
 refine Ay (aa @Uh (aa @Xk @FF)) ?_;intros
 refine aR.lH 3 1 (f:=0) (i:=0) (e:=0) (j:=0) rfl (by simp) rfl ?_
 refine aR.pQ (σ':=[some [⟨28,1,[[.own 1 0 0]],none⟩],some [⟨3,1,[],none⟩]]) rfl ?_
 refine aR.rL (α:={k:Nat//k<=3}) (fun k=>[some [⟨28,1,[[.own 1 0 k.1]],none⟩],some [⟨3,1,(([5,6,5]:List Int).take k.1).map (fun z=>[n z]),none⟩]]) 2 (fun _=>rfl) (fun k x=>x.1=k) (fun _ _=>False) OL ⟨0,by omega⟩
  rfl rfl rfl FE (fun k args h=>?_) (fun k x args ll ρ τ hk hx=>?_) (fun x τ hx=>?_) (fun _ _ _ h=>h.elim)
 ·obtain⟨_,s,r,rfl,_⟩:=IP h
  rfl
 ·obtain⟨x,Qm⟩:=x
  simp only at hx
  subst hx
  obtain⟨h3,s,r,rfl,l_⟩:=IP hk
  have hl:(([5,6,5]:List Int).take x).length=x:=by simp;omega
  clear hk
  simp only[par]
  refine Au ?_;intros
  refine⟨⟨x,Qm⟩,[some [⟨154,2,[[n s,n r]],none⟩]],by simp,fun ox=>?_⟩
  simp only
  generalize hL:([5,6,5]:List Int).take x=L at*
  subst hl
  refine Au ?_;intros
  refine⟨⟨L.length+1,h3⟩,[],?_,rfl⟩
  simp only[l_]
  simp
 ·obtain⟨x,Qm⟩:=x
  simp only at hx
  obtain rfl:x=3:=hx
  refine Au ?_;intros
  exact bO.mY ⟨bO.gZ (T:=3) (cs:=fun z:Int=>[n z]) (l:=[5,6,5]) rfl rfl (by decide) (fun a c hc=>by rw[bp.1 hc];simp) (fun a=>rfl),bO.pure (by simp),trivial⟩
def c5:CF:=⟨84,(jo [jb 0 false] [] (jo [jw 10 (.jR false 5 1 1 [.int .u8 0] [(0,1,(.c (.int .u8 7)))]),jy 11 15 [10],jm 9 11,jz 12 0 9,jz 13 1 9,jm 1 12,jm 2 13] [1,2] (jo [jw 15 (.build [.int .i64 0,.int .i64 0] [(0,1,(.c (.int .i64 0))),(1,1,(.c (.int .i64 2)))]),jw 16 (.build [.int .i64 0,.int .i64 0] [(0,1,(.c (.int .i64 5))),(1,1,(.c (.int .i64 5)))]),jw 17 (.jR false 52 2 2 [.int .i64 0,.int .i64 0,.int .i64 0,.int .i64 0] [(0,2,(.t 15)),(2,2,(.t 16))]),jw 18 (.build [.int .i64 0,.int .i64 0] [(0,1,(.c (.int .i64 2))),(1,1,(.c (.int .i64 4)))]),jw 19 (.jR false 52 2 1 [.int .i64 0,.int .i64 0] [(0,2,(.t 18))]),jy 20 16 [17,19],jm 14 20,jz 21 0 14,jz 22 1 14,jm 3 21,jm 4 22] [1,2,3,4] (jo [jw 24 (.build [.int .i64 0,.int .i64 0,.int .i64 0,.int .i64 0] [(0,1,(.c (.int .i64 1))),(3,1,(.c (.int .i64 9)))]),jw 25 (.jR false 3 1 3 [.int .i64 0,.int .i64 0,.int .i64 0] [(0,1,(.c (.int .i64 5))),(1,1,(.c (.int .i64 7))),(2,1,(.c (.int .i64 4)))]),jw 26 (.call (.f 17) [(.t 24),(.c (.int .i64 5)),(.t 25)]),jm 23 26,jz 27 0 23,jz 28 1 23,jm 5 27,jm 6 28] [1,2,3,4,5,6] (jo [jw 30 (.build [.int .i64 0,.int .i64 0] [(0,1,(.c (.int .i64 2))),(1,1,(.c (.int .i64 3)))]),jw 31 (.jR false 52 2 1 [.int .i64 0,.int .i64 0] [(0,2,(.t 30))]),jw 32 (.build [.slice none 0 0,.slice none 0 0] [(0,1,(.t 31))]),jw 33 (.build [.int .i64 0,.int .i64 0] [(0,1,(.c (.int .i64 5))),(1,1,(.c (.int .i64 5)))]),jw 34 (.build [.int .i64 0,.int .i64 0,.int .i64 0] [(0,1,(.c (.int .i64 1))),(1,2,(.t 33))]),jw 35 (.jR false 68 3 1 [.int .i64 0,.int .i64 0,.int .i64 0] [(0,3,(.t 34))]),jy 36 18 [32,35],jm 29 36,jz 37 0 29,jz 38 1 29,jm 7 37,jm 8 38] [1,2,3,4,5,6,7,8] (jo [jm 39 2,ju .eql 40 39 0,jm 41 40,ja 41 (jm 42 1),ja 41 (je 43 42),ja 41 (ju .eql 44 43 1),jp 45 41 44,jm 46 45,ja 46 (jm 47 4),ja 46 (ju .eql 48 47 0),jp 49 46 48,jm 50 49,ja 50 (jm 51 3),ja 50 (je 52 51),ja 50 (ju .eql 53 52 1),jp 54 50 53,jm 55 54,ja 55 (jm 56 3),⟨some 57,.qe 2 (.t 56) (.c (.int .i64 0)),some (55,true)⟩,ja 55 (jk 58 2 57),⟨some 59,.build [.int .i64 0,.int .i64 0] [(0,1,(.c (.int .i64 0))),(1,1,(.c (.int .i64 5)))],some (55,true)⟩,⟨some 60,.eqs false [some .i64,some .i64] (.t 58) (.t 59),some (55,true)⟩,jp 61 55 60,jm 62 61,ja 62 (jm 63 6),ja 62 (ju .eql 64 63 0),jp 65 62 64,jm 66 65,ja 66 (jm 67 5),⟨some 68,.jR false 3 1 3 [.int .i64 0,.int .i64 0,.int .i64 0] [(0,1,(.c (.int .i64 5))),(1,1,(.c (.int .i64 6))),(2,1,(.c (.int .i64 5)))],some (66,true)⟩,ja 66 (jy 69 19 [67,68]),jp 70 66 69,jm 71 70,ja 71 (jm 72 8),ja 71 (ju .eql 73 72 0),jp 74 71 73,jm 75 74,ja 75 (jm 76 7),⟨some 77,.jR false 3 1 2 [.int .i64 0,.int .i64 0] [(0,1,(.c (.int .i64 2))),(1,1,(.c (.int .i64 5)))],some (75,true)⟩,ja 75 (jy 78 19 [76,77]),jp 79 75 78,jm 80 79,⟨some 81,.call (.f 20) [(.c (.slice none 0 0))],some (80,true)⟩,ja 80 (ju .eql 82 81 23),jp 83 80 82,jm 0 83] [0] .ret)))))),[.t 0]⟩
theorem k5:jP Tryz.prog Tryz.f5 c5=true:=by kernel_rfl
theorem Uk(l:List Int)(hl:l.length<9223372036854775808):Pure Tryz.prog 61 [l9 l,l9 l] (bl true):=by
 refine jX Tryz.f61.eq_1 [] [.l [0,1,5],.d 9] ?_
 refine Au ?_;intros
 refine aR.li 5 l.length (fun _=>True) trivial ?_
 ·intro i hi _
  by_cases bP:i<l.length
  ·obtain⟨x,hx⟩:∃x,l[i]?=some x:=⟨_,ae bP⟩
   refine Ax (Kf hx) ?_;intros
   exact⟨⟨i+1,bP,trivial⟩,by simp,by simp only;omega⟩
  ·obtain rfl:i=l.length:=by omega
   refine Au ?_;intros
   exact Fq
theorem RM(l:List Int)(hl:l.length<9223372036854775808):Pure Tryz.prog 19 [l9 l,l9 l] (bl true):=by
 refine jX Tryz.f19.eq_1 [] [] ?_
 refine Ay (Uk l hl) ?_;intros
 all_goals exact Fq
theorem NZ:Pure Tryz.prog 20 [.v (.slice none 0 0)] (n 23):=by
 refine jX Tryz.f20.eq_1 [] [.l [3,6,7,8]] ?_
 refine Au ?_;intros
 refine aR.turns 1 ?_
 simp only[Un]
 refine Au ?_;intros
 exact Fq
theorem HO:Pure Tryz.prog 5 [] (bl true):=by
 refine mu Tryz.call5 Tryz.func5 k5 ?_
 unfold c5
 have hU:Pure Tryz.prog 16 [.sl 2 [[n 0,n 2],[n 5,n 5]],.sl 2 [[n 2,n 4]]] (.iu [iT [⟨0,5⟩],n 0]):=by
  have h:=GZ [⟨0,2⟩,⟨5,5⟩] [⟨2,4⟩] (by decide) (by decide)
  have hs:tr (small [⟨0,2⟩,⟨5,5⟩]/\small [⟨2,4⟩])=true:=tE (by simp[small,iV,Norm])
  rw[if_pos hs,if_pos hs,show jI [⟨0,2⟩,⟨5,5⟩] [⟨2,4⟩]=[⟨0,5⟩] by decide]at h
  exact h
 have h1:Pure Tryz.prog 17 [.agg [n 1,n 0,n 0,n 9],n 5,l9 [5,7,4]] (.iu [l9 [5,6,5],n 0]):=FG
 have h2:∀σ,jg Tryz.prog 18 [.agg [ec g0,.v (.slice none 0 0)],Xo] σ (.iu [l9 [2,5],n 0]):=fun σ=>jg.less KO ⟨LV.agg ⟨LV.pv (by simp),LV.nil,trivial⟩,LV.pv (nJ (row:=fun z:Int×Int×Int=>[n z.1,n z.2.1,n z.2.2]) 3 [(1,5,5)] (fun a c hc=>by simp at hc;rcases hc with rfl|rfl|rfl<;>simp)),trivial⟩
 have h3:=RM [5,6,5] (by decide)
 have h4:=RM [2,5] (by decide)
 refine Ay (aa @rJ (aa @hU (aa @h1 (aa @h2 (aa @h3 (aa @h4 @NZ)))))) ?_;intros
 exact Fq
end Go.Proofs.YtgopgjnfhkoomaaGreat
