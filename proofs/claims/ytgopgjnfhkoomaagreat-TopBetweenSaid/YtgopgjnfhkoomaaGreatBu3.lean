/- Part 3 of the texts: abstract values over the walk; contracts. -/
import Derived.Test.YtgopgjnfhkoomaaGreatBu2
set_option linter.unusedVariables false
set_option linter.unusedSimpArgs false
namespace Go.Abs
def yv(env:Env):Option (Nat×Bool)->Option (Bool×Bool)
 |none=>some (true,false)
 |some (s,w)=>match gt env s with
  | .v (.bool c)=>some (c==w,true)
  | .when d (.v (.bool c))=>some (d&&(c==w),true)
  |_=>none
def wrap(wr c:Bool)(v:AV):AV:=bif wr then .when c v else v
def th(P:Program)(y:Nat)(args:List AV)(σ:aG)(R:Bool->aG->Prop):Prop:=
 ∀(X:Nat->Prop) (β:gr) (w:World) (xs:List Value),(∀b,X b->b<w.heap.size)->dG w X β σ->xs.length=args.length->
  (∀i,i<args.length->RV w (Xt X β σ) β σ (args.getD i .any) (xs.getD i undef))->
  ∃o l q,σ.at y 0=some o/\o.es.length=0/\β y 0=some l/\w.heap[l]?=some (.loop q)/\q.params.size=args.length/\
   RoundIn Fence.wide 0 P l q.fn ((q.params.zip xs.toArray).foldl (fun tmps (t,a)=>tmps.setIfInBounds t a) q.tmps) q.assign q.body w fun e w'=>
    ∃b σ' β',e=.returned (.bool b)/\R b σ'/\dG w' X β' σ'/\Ext w β σ w' β' σ'/\Kp w (Xt X β σ) β σ w' (Xt X β' σ') β' σ'
def LA(P:Program)(N:Nat)(rd:Option Nat)(f:AV)(args:List AV)(c wr:Bool)(d:Option Nat)(r:List J)(live:List Nat)(K:e7)(env:Env)(σ:aG):Prop:=
 (∃n first cap res,f=.fn (.func n) first cap/\(c=true->jg P n (first++args++cap) σ res)/\N_ P N rd r live K (st d (wrap wr c res) env) σ)\/
 (∃n first cap R,f=.fn (.func n) first cap/\(c=true->eY P n (first++args++cap) σ R/\∀res σ',R res σ'->N_ P N rd r live K (st d (wrap wr true res) env) σ')/\
  (c=false->N_ P N rd r live K (st d (wrap wr false .any) env) σ))\/
 (∃y R,f=.Ai y/\(c=true->th P y args σ R/\∀b σ',R b σ'->N_ P N rd r live K (st d (wrap wr true (.v (.bool b))) env) σ')/\
  (c=false->N_ P N rd r live K (st d (wrap wr false .any) env) σ))
def oL(c:Bool)(env:Env)(x y z:O):Option (Prop×Bool):=
 match bu (ov env x)with
 | .v (.bool p)=>
  match bu (ov env y),bu (ov env z)with
  | .v (.bool q),.v (.bool s)=>some ((c=true->qD (ov env x)=true)/\(c=true->p=true->qD (ov env y)=true)/\(c=true->p=false->qD (ov env z)=true),bif p then q else s)
  | .v (.bool q),_=>some ((c=true->qD (ov env x)=true)/\(c=true->p=true)/\(c=true->qD (ov env y)=true),q)
  |_,.v (.bool s)=>some ((c=true->qD (ov env x)=true)/\(c=true->p=false)/\(c=true->qD (ov env z)=true),s)
  |_,_=>none
 |_=>none
def qO(P:Program)(t:TypeId)(nm:String):Option Nat:=
 match P.info? t with
 |some i=>match i.methods.find? (·.name==nm)with
  |some m=>if m.path.isEmpty then(match m.func,P.underlying t with
   |some (f,false),some (.struct _)=>some f
   |_,_=>none)else none
  |none=>none
 |none=>none
def Bt(P:Program)(N:Nat)(rd:Option Nat):List J->List Nat->e7->Env->aG->Prop
 | [],live,K,env,σ=>K .normal (tb live env) σ
 |⟨d,i,g⟩::r,live,K,env,σ=>
  match yv env g with
  |none=>False
  |some (c,wr)=>
   match i with
   | .pick x y z=>
    match oL c env x y z with
    |some (S,b)=>S/\Bt P N rd r live K (st d (wrap wr c (.v (.bool b))) env) σ
    |none=>False
   | .call f as_=>j7 c env (f::as_)/\LA P N rd (bu (ov env f)) (fu as_ env) c wr d r live K env σ
   | .inv nm x as_=>j7 c env (x::as_)/\(match bu (ov env x)with
    | .l6 T v=>(match qO P T nm with
     |some n=>LA P N rd (.fn (.func n) [v] []) (fu as_ env) c wr d r live K env σ
     |none=>False)
    |_=>c=false/\wr=true/\Bt P N rd r live K (st d (wrap wr c .any) env) σ)
   | .Ak T k bytes s x=>(match c with
    |true=>(match ex (.app T k bytes s x) (fun o=>bu (ov env o)) σ with
     |some (S,v,σ')=>j7 true env [s,x]/\S/\Bt P N rd r live K (st d (wrap wr true v) env) σ'
     |none=>False)
    |false=>wr=true/\Bt P N rd r live K (st d (wrap wr false .any) env) σ)
   | .Am T k n z ps=>(match c with
    |true=>(match ex (.jR true T k n z ps) (fun o=>bu (ov env o)) σ with
     |some (S,v,σ')=>j7 true env (ps.map (·.2.2))/\S/\Bt P N rd r live K (st d (wrap wr true v) env) σ'
     |none=>False)
    |false=>wr=true/\Bt P N rd r live K (st d (wrap wr false .any) env) σ)
   |i=>
    match ex i (fun o=>bu (ov env o)) σ with
    |some (S,v,σ')=>j7 c env i.os/\(c=true->S)/\Bt P N rd r live K (st d (wrap wr c v) env) σ'
    |none=>c=false/\wr=true/\Bt P N rd r live K (st d (wrap wr c .any) env) σ
section
variable {P:Program} {N n0:Nat} {rd:Option Nat} {K:e7}
theorem mD(f:Nat):(tg rd).fn f:=by cases rd<;>trivial
theorem kV:(tg rd).depth=none:=by cases rd<;>rfl
theorem jZ{f:Nat}{xs:Array Value}{w:World}{R:Ending->World->Prop}(h:CallsIn Fence.wide 0 P f xs w R):CallsIn (tg rd) (0-1) P f xs w R:=by
 cases rd with
 |none=>exact h
 |some l=>exact CallsIn.inRound l h
theorem kI{o:Op}{i:I}(h:ck P o i=true)(c:Call):o≠.defer c:=by
 rintro rfl;cases i<;>simp[ck]at h
theorem lY.tr{X:Nat->Prop}{env:Env}{σ σ':aG}{β β':gr}{a:Act}{w w':World}(h:lY N n0 X env σ β a w)(hs:dG w' X β' σ')(he:Ext w β σ w' β' σ')(K:Kp w (Xt X β σ) β σ w' (Xt X β' σ') β' σ'):lY N n0 X env σ' β' a w' where
 sz:=h.sz
 df:=by
  obtain⟨rs,sK,LB,hr⟩:=h.df
  refine⟨rs,sK,LB,fun r hm=>?_⟩
  obtain⟨h1,h2,h3⟩:=hr r hm
  exact⟨by rw[he.wJ r (ib h1) (fun ho=>h2 (.inr ho))];exact h1,fun hx=>h2 (K.Aj r (ib h1) hx),h3⟩
 bd b hb:=cr (h.bd b hb) he.size
 nb:=bT h.nb he.size
 sr:=hs
 ev s:=(h.ev s).tr K
theorem lY.put{X:Nat->Prop}{env:Env}{σ:aG}{β:gr}{a:Act}{w:World}{d:Option Nat}{v:AV}{x:Value}(h:lY N n0 X env σ β a w)(hd:∀s,d=some s->s<N)(hx:RV w (Xt X β σ) β σ v x):lY N n0 X (st d v env) σ β (a.put d x) w:=by
 cases d with
 |none=>exact h
 |some d=>
  refine⟨by simp[Act.put,h.sz],h.df,h.bd,h.nb,h.sr,fun s=>?_⟩
  have bP:=hd d rfl
  simp only[st,gt,Act.put]
  by_cases hs:d=s
  ·subst hs
   simp only[beq_self_eq_true,cond_true]
   simpa[af,eV,h.sz,bP]using hx
  ·rw[show(d==s)=false by simpa using hs]
   simpa[af,dB hs]using h.ev s
theorem mE{X:Nat->Prop}{env:Env}{σ:aG}{β:gr}{a:Act}{w:World}{ops:Array Oper}{o:Oper}{j:J}{c wr:Bool}(h:lY N n0 X env σ β a w)(hc:ui P N ops o j=true)(hg:yv env j.g=some (c,wr)):Region.wanted o (yielded ops a.tmps)=c/\(wr=false->c=true)/\(wr=true->j.i.calm=true/\j.d.isSome=true):=by
 simp only[ui,ak]at hc
 obtain⟨_,hc⟩:=hc
 obtain⟨d,i,g⟩:=j
 cases g with
 |none=>
  cases QW:o.guard with
  |some p=>rw[QW]at hc;simp at hc
  |none=>
   simp only[yv,ah,aw]at hg
   obtain⟨rfl,rfl⟩:=hg
   exact⟨by simp[Region.wanted,QW],fun _=>rfl,(fun h=>(by cases h))⟩
 |some p=>
  obtain⟨s,b⟩:=p
  cases QW:o.guard with
  |none=>rw[QW]at hc;simp at hc
  |some q=>
   obtain⟨gi,b'⟩:=q
   rw[QW]at hc
   simp only[ak,beq_iff_eq,decide_eq_true_eq]at hc
   obtain⟨⟨⟨⟨rfl,Y4⟩,iP⟩,XZ⟩,bP⟩:=hc
   have Ux:=h.ev s
   have Vc:a.tmps[s]?=some (a.tmps.getD s undef):=by
    simp[af,show s<a.tmps.size by rw[h.sz];exact bP]
   have hy:yielded ops a.tmps gi=match a.tmps.getD s undef with| .bool b=>some b|_=>none:=by
    unfold yielded
    rw[Y4,Option.bind_some,Vc]
    generalize a.tmps.getD s undef=q
    cases q<;>rfl
   simp only[yv]at hg
   split at hg
   ·rename_i cc Vd
    simp only[ah,aw]at hg
    obtain⟨rfl,rfl⟩:=hg
    rw[Vd]at Ux
    rw[Ux.dz]at hy
    refine⟨?_,(fun h=>(by cases h)),fun _=>⟨iP,XZ⟩⟩
    simp only[Region.wanted,QW,hy]
    cases cc<;>cases b'<;>rfl
   ·rename_i dd cc Vd
    simp only[ah,aw]at hg
    obtain⟨rfl,rfl⟩:=hg
    rw[Vd]at Ux
    refine⟨?_,(fun h=>(by cases h)),fun _=>⟨iP,XZ⟩⟩
    cases Ux with
    |when _ _ _ h1 h2=>
     cases dd with
     |false=>
      rw[h2 rfl]at hy
      simp only[Region.wanted,QW,hy,undef,gq]
      rfl
     |true=>
      have:=(h1 rfl).dz
      rw[this]at hy
      simp only[Region.wanted,QW,hy,ga]
      cases cc<;>cases b'<;>rfl
   ·cases hg
theorem iq{ops:Array Oper}{o:Oper}{j:J}(hc:ui P N ops o j=true):o.dst=j.d/\(∀s,j.d=some s->s<N)/\ck P o.op j.i=true:=by
 simp only[ui,ak,beq_iff_eq]at hc
 obtain⟨⟨⟨h1,h2⟩,h3⟩,_⟩:=hc
 refine⟨h1,fun s hs=>?_,h3⟩
 rw[hs]at h2;simpa using h2
theorem iQ{X:Nat->Prop}{env:Env}{σ:aG}{β:gr}{a:Act}{w:World}{ops:Array Oper}{o:Oper}{j:J}{c wr:Bool}{i:Nat}{is:List Nat}{r:List J}{live:List Nat}(cn:lY N n0 X env σ β a w)(ho:ops[i]?=some o)(hc:ui P N ops o j=true)(hg:yv env j.g=some (c,wr))(ow:qt P N ops is r=true)(vG:c=true->∃Kn:AV->aG->Prop,(∀v σ',Kn v σ'->N_ P N rd r live K (st j.d (wrap wr c v) env) σ')/\o.wpIn (tg rd) 0 P a w (fun a' w'=>∃x v σ' β',a'=a.put j.d x/\Kn v σ'/\dG w' X β' σ'/\RV w' (Xt X β' σ') β' σ' v x/\Ext w β σ w' β' σ'/\Kp w (Xt X β σ) β σ w' (Xt X β' σ') β' σ') (nC N n0 X w β σ (Kl live K)))(ti:c=false->wr=true->∃v,N_ P N rd r live K (st j.d (wrap wr c v) env) σ):wpOpsIn (tg rd) 0 P ops (nC N n0 X w β σ (Kl live K)) (i::is) a w:=by
 obtain⟨hw,Ve,iP⟩:=mE cn hc hg
 obtain⟨hd,bP,_⟩:=iq hc
 simp only[wpOpsIn,ho,hw]
 cases c with
 |true=>
  simp only[if_true]
  obtain⟨Kn,hK,h⟩:=vG rfl
  refine Oper.wpIn_mono (fun a' w' ⟨x,v,σ',β',ha,hk,hs,hr,he,kp⟩=>?_) h
  subst ha
  have fV:=(cn.tr hs he kp).put (d:=j.d) (v:=wrap wr true v) bP (by
   cases wr with
   |false=>exact hr
   |true=>exact .when _ _ _ (fun _=>hr) (fun h=>by cases h))
  have:=hK v σ' hk ops is ow n0 X β' _ w' fV
  refine gN (fun e a w h=>h.trans he kp) is _ _ this
 |false=>
  simp only[bw,if_false]
  have O3:wr=true:=by cases wr with|false=>exact absurd (Ve rfl) (by simp)|true=>rfl
  subst O3
  obtain⟨v,h⟩:=ti rfl rfl
  refine⟨fun f _=>mD f,?_⟩
  rw[hd]
  exact h ops is ow n0 X β _ w (cn.put (v:=wrap true false v) bP (.when _ _ _ (fun h=>by cases h) (fun _=>rfl)))
 where
  gN {F:Fence} {ops:Array Oper} {Q Q':Exit->Act->World->Prop} (hq:∀e a w,Q e a w->Q' e a w):∀(is:List Nat) (a:Act) (w:World),wpOpsIn F 0 P ops Q is a w->wpOpsIn F 0 P ops Q' is a w
   | [],a,w,h=>hq _ _ _ h
   |i::is,a,w,h=>by
    simp only[wpOpsIn]at h|-
    cases ho:ops[i]? with
    |none=>simp only[ho]at h|-;exact gN hq is a w h
    |some o=>
     simp only[ho]at h|-
     cases hw:Region.wanted o (yielded ops a.tmps)with
     |false=>
      simp only[hw,bw,if_false]at h|-
      exact⟨h.1,gN hq is _ _ h.2⟩
     |true=>
      simp only[hw,if_true]at h|-
      obtain⟨h1,h2⟩:=h
      refine⟨h1,?_⟩
      generalize(o.semAt F.round a.eval).run P w=r at*
      cases r with
      |ok x w'=>
       cases x<;>simp only[Oper.uponIn]at h2|-<;>
        first
         |exact gN hq is _ _ h2
         |exact⟨h2.1,CallsIn.mono h2.2 (fun e N7 he=>by cases e<;>first|exact gN hq is _ _ he|exact hq _ _ _ he|(obtain⟨a0,w0,h0⟩:=he;exact⟨a0,w0,hq _ _ _ h0⟩))⟩
         |exact⟨h2.1,RowsIn.mono h2.2 (fun _ _ he=>gN hq is _ _ he)⟩
         |exact⟨h2.1,RoundIn.mono h2.2 (fun e N7 he=>by cases e<;>first|exact gN hq is _ _ he|exact hq _ _ _ he|(obtain⟨a0,w0,h0⟩:=he;exact⟨a0,w0,hq _ _ _ h0⟩))⟩
      |halt x w'=>cases x<;>simp only[Oper.uponIn]at h2|-<;>first|exact h2|exact hq _ _ _ h2
def Y5(N:Nat)(X:Nat->Prop)(w:World)(β:gr)(σ:aG)(a:Act)(d:Option Nat)(Kn:AV->aG->Prop):Act->World->Prop:=fun a' w'=>
 ∃x v σ' β',a'=a.put d x/\Kn v σ'/\dG w' X β' σ'/\RV w' (Xt X β' σ') β' σ' v x/\Ext w β σ w' β' σ'/\Kp w (Xt X β σ) β σ w' (Xt X β' σ') β' σ'
theorem mi{X:Nat->Prop}{σ:aG}{β:gr}{a:Act}{w:World}{o:Oper}{i:I}{d:Option Nat}{r:AV}{σ':aG}{Q:Exit->Act->World->Prop}(hc:ck P o.op i=true)(hd:o.dst=d)(h:fi P o a.eval w X β σ r σ'):o.wpIn (tg rd) 0 P a w (Y5 N X w β σ a d (fun v s=>v=r/\s=σ')) Q:=by
 obtain⟨n,x,w',β',eA,hn,hs,hk,he,hr⟩:=h
 refine⟨fun f _=>mD f,?_⟩
 rw[eK _ _ _ (kI hc),eA]
 rcases hn with rfl|⟨rfl,rfl⟩
 ·exact⟨x,r,σ',β',by rw[hd],⟨rfl,rfl⟩,hs,hr,he,hk⟩
 ·exact⟨_,r,σ',β',by rw[hd],⟨rfl,rfl⟩,hs,hr,he,hk⟩
theorem pV{X:Nat->Prop}{env:Env}{σ:aG}{β:gr}{a:Act}{w:World}(cn:lY N n0 X env σ β a w):∀(xs:List Operand) (os:List O),iz xs os=true->(∀o∈os,qD (ov env o)=true)->(xs.map a.eval).length=(fu os env).length/\∀i,i<(fu os env).length->RV w (Xt X β σ) β σ ((fu os env).getD i .any) ((xs.map a.eval).getD i undef)
 | [],[],_,_=>⟨rfl,fun i hi=>absurd hi (aN _)⟩
 |x::xs,o::os,h,hc=>by
  simp only[iz,ak]at h
  obtain⟨h1,h2⟩:=pV cn xs os h.2 fun o ho=>hc o (by simp[ho])
  refine⟨by simpa[fu]using h1,fun i hi=>?_⟩
  cases i with
  |zero=>simpa[fu]using mh (o_ cn h.1) (hc o (by simp))
  |succ i=>simpa[fu]using h2 i (by simpa[fu]using hi)
 | [],_::_,h,_=>by simp[iz]at h
 |_::_,[],h,_=>by simp[iz]at h
theorem nN{w:World}{X:Nat->Prop}{β:gr}{σ:aG}{cs ds:List AV}{xs ys:List Value}(h1:xs.length=cs.length)(h2:ys.length=ds.length)(hx:∀i,i<cs.length->RV w X β σ (cs.getD i .any) (xs.getD i undef))(hy:∀i,i<ds.length->RV w X β σ (ds.getD i .any) (ys.getD i undef)):(xs++ys).length=(cs++ds).length/\∀i,i<(cs++ds).length->RV w X β σ ((cs++ds).getD i .any) ((xs++ys).getD i undef):=by
 refine⟨by simp[h1,h2],fun i hi=>?_⟩
 rw[kG cs ds,kG xs ys,h1]
 split
 ·exact hx i ‹_›
 ·exact hy _ (by simp at hi;omega)
theorem pA{X:Nat->Prop}{env:Env}{σ:aG}{β:gr}{a:Act}{w:World}{o:Oper}{f:O}{as_:List O}{n:Nat}{first cap:List AV}(cn:lY N n0 X env σ β a w)(hc:ck P o.op (.call f as_)=true)(qP:∀x∈f::as_,qD (ov env x)=true)(hf:bu (ov env f)=.fn (.func n) first cap)(lD:∀as_ w,(callFunc n as_).run P w=.ok (.enter n as_) w):∃xs:List Value,xs.length=(first++fu as_ env++cap).length/\(∀i,i<(first++fu as_ env++cap).length->RV w (Xt X β σ) β σ ((first++fu as_ env++cap).getD i .any) (xs.getD i undef))/\(execOp a.eval o).run P w=.ok (.enter n xs.toArray) w:=by
 cases fv:o.op<;>rw[fv]at hc<;>try(simp[ck]at hc;done)
 rename_i cc
 obtain⟨Ao,args,ts⟩:=cc
 cases Ao<;>try(simp[ck]at hc;done)
 ·rename_i g
  simp only[ck,ak]at hc
  have hg:=mh (o_ cn hc.1) (qP f (by simp))
  rw[hf]at hg
  obtain⟨h1,h2⟩:=pV cn args.toList as_ hc.2 fun o ho=>qP o (by simp[ho])
  generalize Vf:a.eval g=qg at hg
  cases hg with
  |fn _ _ _ xs ys hn hm hx hy=>
   have mF:xs.toList.length=first.length:=by simpa using hn
   have Oa:ys.toList.length=cap.length:=by simpa using hm
   obtain⟨g1,g2⟩:=nN mF h1 (fun i hi=>by simpa[af,ab]using hx i hi) h2
   obtain⟨g3,g4⟩:=nN g1 Oa g2 (fun i hi=>by simpa[af,ab]using hy i hi)
   refine⟨xs.toList++args.toList.map a.eval++ys.toList,g3,g4,?_⟩
   ·unfold execOp;rw[fv]
    have e1:xs++args.map a.eval++ys=(xs.toList++args.toList.map a.eval++ys.toList).toArray:=by apply gf;simp
    simp only[resolve,Deferred.ofValue,Vf,invoke,bx,dD,bg]
    rw[e1]
    exact lD _ _
theorem Gb{T:TypeId}{nm:String}{n:Nat}{v:Value}{w:World}{k:Nat}(h:qO P T nm=some n):(method (k+1) T v nm).run P w=.ok (n,v) w:=by
 unfold qO at h
 split at h
 case h_2=>cases h
 rename_i i hi
 split at h
 case h_2=>cases h
 rename_i m hm
 by_cases hp:m.path.isEmpty=true
 case neg=>rw[if_neg hp]at h;cases h
 rw[if_pos hp]at h
 split at h
 case h_2=>cases h
 rename_i f fs hf hu
 injection h with h;subst h
 have hp':m.path.toList=[]:=by simpa using hp
 unfold method
 simp only[bx,run_typeInfo _ hi,bg,hm,hp',follow,dD,hf]
 unfold receiverAt
 simp only[bx,run_underlying hu,bg,Place.get,dD]
theorem HW{X:Nat->Prop}{env:Env}{σ:aG}{β:gr}{a:Act}{w:World}{o:Oper}{nm:String}{r:O}{as_:List O}{T n:Nat}{v:AV}(cn:lY N n0 X env σ β a w)(hc:ck P o.op (.inv nm r as_)=true)(qP:∀x∈r::as_,qD (ov env x)=true)(hf:bu (ov env r)=.l6 T v)(hm:qO P T nm=some n)(lD:∀as_ w,(callFunc n as_).run P w=.ok (.enter n as_) w):∃xs:List Value,xs.length=([v]++fu as_ env++[]).length/\(∀i,i<([v]++fu as_ env++[]).length->RV w (Xt X β σ) β σ (([v]++fu as_ env++[]).getD i .any) (xs.getD i undef))/\(execOp a.eval o).run P w=.ok (.enter n xs.toArray) w:=by
 cases fv:o.op<;>rw[fv]at hc<;>try(simp[ck]at hc;done)
 rename_i cc
 obtain⟨Ao,args,ts⟩:=cc
 cases Ao<;>try(simp[ck]at hc;done)
 ·rename_i g UK
  simp only[ck,ak,beq_iff_eq]at hc
  obtain⟨⟨rfl,QX⟩,nT⟩:=hc
  have hg:=mh (o_ cn QX) (qP r (by simp))
  rw[hf]at hg
  obtain⟨h1,h2⟩:=pV cn args.toList as_ nT fun o ho=>qP o (by simp[ho])
  generalize Vf:a.eval g=qg at hg
  cases hg with
  |l6 _ _ x hx=>
   refine⟨x::args.toList.map a.eval,by simp[h1],fun i hi=>?_,?_⟩
   ·cases i with
    |zero=>simpa using hx
    |succ i=>
     have:=h2 i (by simpa using hi)
     simpa using this
   ·unfold execOp;rw[fv]
    obtain⟨k,hk⟩:∃k,P.types.size+Made.depth=k+1:=⟨P.types.size+Made.depth-1,by have:0<Made.depth:=(by decide);omega⟩
    simp only[resolve,Vf,invoke,bx,dD,bg]
    have e1:(#[Value.iface T x]++args.map a.eval)[0]?=some (Value.iface T x):=by rw[cA (by simp)];rfl
    have e2:(#[Value.iface T x]++args.map a.eval).extract 1 (#[Value.iface T x]++args.map a.eval).size=args.map a.eval:=by
     apply gf;simp[cD]
    rw[e1]
    simp only[e2,callMethod,bx,program,Sem.run,bg,hk,Gb hm]
    have e3:#[x]++args.map a.eval=(x::args.toList.map a.eval).toArray:=by apply gf;simp
    rw[e3]
    exact lD _ _
theorem yw{X:Nat->Prop}{env:Env}{σ:aG}{β:gr}{a:Act}{w:World}{o:Oper}{x y z:O}{c b:Bool}{S:Prop}(cn:lY N n0 X env σ β a w)(lS:ck P o.op (.pick x y z)=true)(hp:oL c env x y z=some (S,b))(hS:S)(hc:c=true):(execOp a.eval o).run P w=.ok (.value (.bool b)) w:=by
 cases fv:o.op<;>rw[fv]at lS<;>try(simp[ck]at lS;done)
 rename_i ax ay az
 simp only[ck,ak]at lS
 unfold oL at hp
 have qP:∀{q:O} {aq:Operand} {b:Bool},dt aq q=true->bu (ov env q)=.v (.bool b)->qD (ov env q)=true->a.eval aq=.bool b:=by
  intro q aq b h1 h2 h3
  have h:=mh (o_ cn h1) h3
  rw[h2]at h;exact h.dz
 have HX:∀p,a.eval ax=.bool p->(p=true->a.eval ay=.bool b)->(p=false->a.eval az=.bool b)->(execOp a.eval o).run P w=.ok (.value (.bool b)) w:=by
  intro p h1 h2 h3
  unfold execOp;rw[fv]
  simp only[h1,asBool,pure_bind]
  cases p with
  |true=>simp[h2 rfl]
  |false=>simp[h3 rfl]
 split at hp
 case h_2=>cases hp
 rename_i p hx
 split at hp
 ·rename_i q s hy hz
  simp only[ah,aw]at hp
  obtain⟨rfl,rfl⟩:=hp
  refine HX p (qP lS.1.1 hx (hS.1 hc)) (fun hp=>?_) fun hp=>?_
  ·subst hp;exact qP lS.1.2 hy (hS.2.1 hc rfl)
  ·subst hp;exact qP lS.2 hz (hS.2.2 hc rfl)
 ·rename_i q hy _
  simp only[ah,aw]at hp
  obtain⟨rfl,rfl⟩:=hp
  exact HX p (qP lS.1.1 hx (hS.1 hc)) (fun hp=>qP lS.1.2 hy (hS.2.2 hc)) fun hp=>by rw[hS.2.1 hc]at hp;cases hp
 ·rename_i s hz _
  simp only[ah,aw]at hp
  obtain⟨rfl,rfl⟩:=hp
  exact HX p (qP lS.1.1 hx (hS.1 hc)) (fun hp=>by rw[hS.2.1 hc]at hp;cases hp) fun hp=>qP lS.2 hz (hS.2.2 hc)
 ·cases hp
theorem Ed{l:Nat}{f:FuncId}{tmps:Array Value}{as_ body:Code}{w:World}{R:Ending->World->Prop}(h:RoundIn Fence.wide 0 P l f tmps as_ body w R):RoundIn (tg rd) (0-1) P l f tmps as_ body w R:=by
 cases rd with
 |none=>exact h
 |some l=>exact h
theorem Jb{X:Nat->Prop}{env:Env}{σ:aG}{β:gr}{a:Act}{w:World}{o:Oper}{f:O}{as_:List O}{y:Nat}(cn:lY N n0 X env σ β a w)(hc:ck P o.op (.call f as_)=true)(qP:∀x∈f::as_,qD (ov env x)=true)(hf:bu (ov env f)=.Ai y):∃xs:List Value,xs.length=(fu as_ env).length/\(∀i,i<(fu as_ env).length->RV w (Xt X β σ) β σ ((fu as_ env).getD i .any) (xs.getD i undef))/\True/\∀ob l,σ.at y 0=some ob->ob.es.length=0->β y 0=some l->(execOp a.eval o).run P w=(Instr.yield l xs.toArray).run P w:=by
 cases fv:o.op<;>rw[fv]at hc<;>try(simp[ck]at hc;done)
 rename_i cc
 obtain⟨Ao,args,ts⟩:=cc
 cases Ao<;>try(simp[ck]at hc;done)
 ·rename_i g
  simp only[ck,ak]at hc
  have hg:=mh (o_ cn hc.1) (qP f (by simp))
  rw[hf]at hg
  obtain⟨h1,h2⟩:=pV cn args.toList as_ hc.2 fun o ho=>qP o (by simp[ho])
  refine⟨args.toList.map a.eval,h1,h2,trivial,fun ob l dQ Ga hb=>?_⟩
  generalize Vf:a.eval g=qg at hg
  cases hg with
  |Ai _ _ _ _ h=>
   obtain⟨l',Av,rfl⟩:=h ob dQ Ga
   rw[hb]at Av;injection Av with Av;subst Av
   unfold execOp;rw[fv]
   have e1:#[]++args.map a.eval=(args.toList.map a.eval).toArray:=by apply gf;simp
   simp only[resolve,Deferred.ofValue,Vf,invoke,bx,dD,bg]
   rw[e1]
theorem aH:∀{l:List J} {live:List Nat} {env:Env} {σ:aG},Bt P N rd l live K env σ->N_ P N rd l live K env σ
 | [],live,env,σ,h=>by
  intro ops is LC n0 X β a w cn
  cases is with
  |cons i is=>simp[qt]at LC
  |nil=>exact⟨env,σ,β,h,cn,Ext.refl _ _ _,Kp.refl⟩
 |⟨d,i,g⟩::r,live,env,σ,h=>by
  intro ops is LC n0 X β a w cn
  cases is with
  |nil=>simp[qt]at LC
  |cons ix is=>
  simp only[qt,ak]at LC
  obtain⟨hj,ow⟩:=LC
  cases ho:ops[ix]? with
  |none=>rw[ho]at hj;simp at hj
  |some o=>
  rw[ho]at hj
  simp only at hj
  obtain⟨hd,bP,lS⟩:=iq hj
  simp only[Bt]at h
  cases hg:yv env g with
  |none=>rw[hg]at h;exact h.elim
  |some p=>
  obtain⟨c,wr⟩:=p
  rw[hg]at h
  simp only at h hd lS
  have Ve:=(mE cn hj hg).2.1
  by_cases QY:∃T k bytes s x,i=.Ak T k bytes s x
  ·obtain⟨T,k,bytes,s,x,rfl⟩:=QY
   cases c with
   |true=>
    simp only at h
    cases hex:ex (.app T k bytes s x) (fun o=>bu (ov env o)) σ with
    |none=>rw[hex]at h;exact h.elim
    |some q=>
    obtain⟨S,v,σ'⟩:=q
    rw[hex]at h
    obtain⟨iW,hS,gH⟩:=h
    have lT:=aH gH
    refine iQ cn ho hj hg ow (fun hc=>?_) fun hc hw=>by cases hc
    refine⟨fun v' s=>v'=v/\s=σ',fun v' s ⟨e1,e2⟩=>?_,?_⟩
    ·rw[e1,e2];exact lT
    ·exact mi (N:=N) (rM lS) hd (kH cn (rM lS) (fO iW rfl) hex hS)
   |false=>
    simp only at h
    have lT:=aH h.2
    exact iQ cn ho hj hg ow (fun hc=>by cases hc) fun hc hw=>⟨_,lT⟩
  by_cases Oc:∃T k n z ps,i=.Am T k n z ps
  ·obtain⟨T,k,n,z,ps,rfl⟩:=Oc
   cases c with
   |true=>
    simp only at h
    cases hex:ex (.jR true T k n z ps) (fun o=>bu (ov env o)) σ with
    |none=>rw[hex]at h;exact h.elim
    |some q=>
    obtain⟨S,v,σ'⟩:=q
    rw[hex]at h
    obtain⟨iW,hS,gH⟩:=h
    have lT:=aH gH
    refine iQ cn ho hj hg ow (fun hc=>?_) fun hc hw=>by cases hc
    refine⟨fun v' s=>v'=v/\s=σ',fun v' s ⟨e1,e2⟩=>?_,?_⟩
    ·rw[e1,e2];exact lT
    ·exact mi (N:=N) (rN lS) hd (kH cn (rN lS) (fO iW rfl) hex hS)
   |false=>
    simp only at h
    have lT:=aH h.2
    exact iQ cn ho hj hg ow (fun hc=>by cases hc) fun hc hw=>⟨_,lT⟩
  by_cases Bm:i.plain=true
  ·
   have h':match ex i (fun o=>bu (ov env o)) σ with
    |some (S,v,σ')=>j7 c env i.os/\(c=true->S)/\Bt P N rd r live K (st d (wrap wr c v) env) σ'
    |none=>c=false/\wr=true/\Bt P N rd r live K (st d (wrap wr c .any) env) σ:=by
    cases i<;>first|exact h|(simp[I.plain]at Bm;done)|exact absurd ⟨_,_,_,_,_,rfl⟩ QY|exact absurd ⟨_,_,_,_,_,rfl⟩ Oc
   cases hex:ex i (fun o=>bu (ov env o)) σ with
   |none=>
    rw[hex]at h'
    obtain⟨h1,h2,h3⟩:=h'
    exact iQ cn ho hj hg ow (fun hc=>by rw[h1]at hc;cases hc) fun hc hw=>⟨.any,aH h3⟩
   |some q=>
   obtain⟨S,v,σ'⟩:=q
   rw[hex]at h'
   obtain⟨iW,hS,gH⟩:=h'
   have lT:=aH gH
   refine iQ cn ho hj hg ow (fun hc=>?_) fun hc hw=>?_
   ·refine⟨fun v' s=>v'=v/\s=σ',fun v' s ⟨e1,e2⟩=>?_,?_⟩
    ·rw[e1,e2];exact lT
    ·exact mi (N:=N) lS hd (kH cn lS (fO iW hc) hex (hS hc))
   ·have iP:=(mE cn hj hg).2.2 hw
    have:=xO iP.1 hex
    subst this
    exact⟨v,lT⟩
  ·cases i<;>try(simp[I.plain]at Bm;done)
   ·
    rename_i x y z
    simp only at h
    cases tj:oL c env x y z with
    |none=>rw[tj]at h;exact h.elim
    |some q=>
    obtain⟨S,b⟩:=q
    rw[tj]at h
    obtain⟨hS,gH⟩:=h
    have lT:=aH gH
    refine iQ cn ho hj hg ow (fun hc=>?_) fun hc hw=>⟨_,lT⟩
    refine⟨fun v' s'=>v'=.v (.bool b)/\s'=σ,fun v' s' ⟨e1,e2⟩=>by rw[e1,e2];exact lT,?_⟩
    exact mi (N:=N) lS hd (bQ cn.sr (yw cn lS tj hS hc) (.v _))
   ·
    rename_i f as_
    simp only at h
    obtain⟨iW,h⟩:=h
    rcases h with⟨n,first,cap,res,hf,hp,gH⟩|⟨n,first,cap,R,hf,O4,Bu⟩|⟨y,R,hf,O4,Bu⟩
    ·refine iQ cn ho hj hg ow (fun hc=>?_) fun hc hw=>⟨res,gH⟩
     obtain⟨lD,lE⟩:=hp hc
     obtain⟨xs,mF,qu,eA⟩:=pA cn lS (fO iW hc) hf lD
     refine⟨fun v' s'=>v'=res/\s'=σ,fun v' s' ⟨e1,e2⟩=>?_,?_⟩
     ·rw[e1,e2];exact gH
     ·refine⟨fun f _=>mD f,?_⟩
      rw[eK _ _ _ (kI lS),eA]
      refine⟨(fun mQ=>(by rw[kV]at mQ;cases mQ)),?_⟩
      have lC:=lE X β w xs cn.bd cn.sr mF qu
      refine(jZ lC).mono ?_
      rintro e w' ⟨x,rfl,hr,eX,hold,Ar⟩
      exact⟨x,res,σ,β,by rw[hd],⟨rfl,rfl⟩,cn.sr.same eX hold,hr.out,Ext.same eX hold Ar,Kp.same eX hold cn.sr⟩
    ·refine iQ cn ho hj hg ow (fun hc=>?_) fun hc hw=>⟨.any,by subst hc;subst hw;exact Bu rfl⟩
     subst hc
     obtain⟨⟨lD,lE⟩,gH⟩:=O4 rfl
     obtain⟨xs,mF,qu,eA⟩:=pA cn lS (fO iW rfl) hf lD
     refine⟨R,fun v' s' hR=>gH v' s' hR,?_⟩
     refine⟨fun f _=>mD f,?_⟩
     rw[eK _ _ _ (kI lS),eA]
     refine⟨(fun mQ=>(by rw[kV]at mQ;cases mQ)),?_⟩
     have lC:=lE X β w xs cn.bd cn.sr mF qu
     refine(jZ lC).mono ?_
     rintro e w' ⟨x,r',σ',β',rfl,hR,nM,hr,he,hk⟩
     exact⟨x,r',σ',β',by rw[hd],hR,nM,hr,he,hk⟩
    ·refine iQ cn ho hj hg ow (fun hc=>?_) fun hc hw=>⟨.any,by subst hc;subst hw;exact Bu rfl⟩
     subst hc
     obtain⟨lE,gH⟩:=O4 rfl
     obtain⟨xs,mF,qu,hv,eA⟩:=Jb cn lS (fO iW rfl) hf
     obtain⟨ob,l,q,dQ,Ga,l7,hq,Ss,Su⟩:=lE X β w xs cn.bd cn.sr mF qu
     refine⟨fun v' s'=>∃b,v'=.v (.bool b)/\R b s',fun v' s' ⟨b,e1,hR⟩=>by rw[e1];exact gH b s' hR,?_⟩
     refine⟨fun f _=>mD f,?_⟩
     rw[eK _ _ _ (kI lS),eA ob l dQ Ga l7,run_yield hq (by simpa[Ss]using mF)]
     refine⟨(fun mQ=>(by rw[kV]at mQ;cases mQ)),?_⟩
     refine(Ed Su).mono ?_
     rintro e w' ⟨b,σ',β',rfl,hR,nM,he,hk⟩
     exact⟨.bool b,.v (.bool b),σ',β',by rw[hd],⟨b,rfl,hR⟩,nM,.v _,he,hk⟩
   ·
    rename_i nm x as_
    simp only at h
    obtain⟨iW,h⟩:=h
    split at h
    case h_2=>exact iQ cn ho hj hg ow (fun hc=>by rw[h.1]at hc;cases hc) fun hc hw=>⟨.any,aH h.2.2⟩
    rename_i T v hx
    split at h
    case h_2=>exact h.elim
    rename_i n QZ
    rcases h with⟨n',first,cap,res,hf,hp,gH⟩|⟨n',first,cap,R,hf,O4,Bu⟩|⟨y,R,hf,O4,Bu⟩
    ·injection hf with Od Q0 Y6
     injection Od with Od
     subst Od;subst Q0;subst Y6
     refine iQ cn ho hj hg ow (fun hc=>?_) fun hc hw=>⟨res,gH⟩
     obtain⟨lD,lE⟩:=hp hc
     obtain⟨xs,mF,qu,eA⟩:=HW cn lS (fO iW hc) hx QZ lD
     refine⟨fun v' s'=>v'=res/\s'=σ,fun v' s' ⟨e1,e2⟩=>?_,?_⟩
     ·rw[e1,e2];exact gH
     ·refine⟨fun f _=>mD f,?_⟩
      rw[eK _ _ _ (kI lS),eA]
      refine⟨(fun mQ=>(by rw[kV]at mQ;cases mQ)),?_⟩
      have lC:=lE X β w xs cn.bd cn.sr mF qu
      refine(jZ lC).mono ?_
      rintro e w' ⟨x,rfl,hr,eX,hold,Ar⟩
      exact⟨x,res,σ,β,by rw[hd],⟨rfl,rfl⟩,cn.sr.same eX hold,hr.out,Ext.same eX hold Ar,Kp.same eX hold cn.sr⟩
    ·injection hf with Od Q0 Y6
     injection Od with Od
     subst Od;subst Q0;subst Y6
     refine iQ cn ho hj hg ow (fun hc=>?_) fun hc hw=>⟨.any,by subst hc;subst hw;exact Bu rfl⟩
     subst hc
     obtain⟨⟨lD,lE⟩,gH⟩:=O4 rfl
     obtain⟨xs,mF,qu,eA⟩:=HW cn lS (fO iW rfl) hx QZ lD
     refine⟨R,fun v' s' hR=>gH v' s' hR,?_⟩
     refine⟨fun f _=>mD f,?_⟩
     rw[eK _ _ _ (kI lS),eA]
     refine⟨(fun mQ=>(by rw[kV]at mQ;cases mQ)),?_⟩
     have lC:=lE X β w xs cn.bd cn.sr mF qu
     refine(jZ lC).mono ?_
     rintro e w' ⟨x,r',σ',β',rfl,hR,nM,hr,he,hk⟩
     exact⟨x,r',σ',β',by rw[hd],hR,nM,hr,he,hk⟩
    ·cases hf
end
def yx:List O->List Nat
 | []=>[]
 | .t n::r=>n::yx r
 |_::r=>yx r
def xP(j:J):List Nat:=(match j.g with|some (s,_)=>[s]|none=>[])++yx j.i.os
def kJ(o:Oper):List Nat:=(o.after.toList.filter (Region.binds .any)).map (·.on)
def Cc:List (Option Nat)->Bool
 | []=>true
 |a::r=>!r.contains a&&Cc r
def dep(ops:Array Oper):Nat->Nat->Nat->Bool
 |0,_,_=>false
 |d+1,i,k=>match ops[i]? with
  |some o=>(kJ o).contains k||(kJ o).any fun e=>Nat.blt k e&&dep ops d e k
  |none=>false
def xC:J->Bool
 |⟨some _,.alloc _ _ _,none⟩=>true
 |_=>false
structure Al where
 d:Nat
 T:Nat
 k:Nat
 z:List Value
def Al.ob(q:Al):Ob:=⟨q.T,q.k,[vs q.z],none⟩
def wQ(al:List Al):aG:=al.map fun q=>some [q.ob]
def nD:J->Option Al
 |⟨some d,.alloc T k z,none⟩=>some ⟨d,T,k,z⟩
 |_=>none
section
variable {P:Program} {N n0:Nat} {rd:Option Nat} {K:e7}
theorem lY.Gc{X:Nat->Prop}{env dj:Env}{σ:aG}{β:gr}{a:Act}{w:World}(cn:lY N n0 X env σ β a w)(h:∀s,gt dj s=.any\/gt dj s=gt env s):lY N n0 X dj σ β a w:=
 {cn with ev:=fun s=>(h s).elim (fun e=>e▸ .any _) (fun e=>e▸cn.ev s)}
def One(P:Program)(N:Nat)(rd:Option Nat)(j:J)(env:Env)(σ:aG)(v:AV):Prop:=
 j.i.calm=true->∀(ops:Array Oper) (i:Nat) (o:Oper),ops[i]?=some o->ui P N ops o j=true->∀dj,(∀s∈xP j,gt dj s=gt env s)->∀n0 X β a w,lY N n0 X dj σ β a w->
  ∀Q,wpOpIn (tg rd) 0 P ops Q i (fun a' w'=>∃β',lY N n0 X (st j.d v dj) σ β' a' w'/\Ext w β σ w' β' σ/\Kp w (Xt X β σ) β σ w' (Xt X β' σ) β' σ) a w
def Q_(P:Program)(N:Nat)(rd:Option Nat):List J->Env->aG->List Al->(Env->aG->Prop)->Prop
 | [],env,σ,al,Z=>Z env (σ++wQ al)
 |j::r,env,σ,al,Z=>(∃v,j.i.calm=true/\One P N rd j env σ v/\Q_ P N rd r (st j.d v env) σ al Z)\/
  (∃q,nD j=some q/\q.z.length=q.k/\Q_ P N rd r (st (some q.d) (.ptr (σ.length+al.length) 0 1 0 0) env) σ (al++[q]) Z)
def I.pb:I->Bool
 | .alloc ..=>false
 |i=>i.plain
theorem kK{env dj:Env}:∀{os:List O},(∀s∈yx os,gt dj s=gt env s)->∀o∈os,ov dj o=ov env o
 | [],_,o,ho=>absurd ho (au)
 |a::os,h,o,ho=>by
  have h':∀s∈yx os,gt dj s=gt env s:=fun s hs=>h s (by cases a<;>simp[yx,hs])
  rcases aC.1 ho with rfl|ho
  ·cases o with
   |t n=>exact h n (by simp[yx])
   |_=>rfl
  ·exact kK h' o ho
theorem jG{env dj:Env}{g:Bool}:∀{os:List O},(∀o∈os,ov dj o=ov env o)->j7 g env os->j7 g dj os
 | [],_,_=>trivial
 |a::os,h,hh=>⟨fun e=>by rw[h a (by simp)];exact hh.1 e,jG (fun o ho=>h o (by simp[ho])) hh.2⟩
theorem nE{env dj:Env}:∀{os:List O},(∀o∈os,ov dj o=ov env o)->fu os dj=fu os env
 | [],_=>rfl
 |a::os,h=>by simp[fu,h a (by simp),nE (os:=os) fun o ho=>h o (by simp[ho])]
theorem kW{env dj:Env}{j:J}(h:∀s∈xP j,gt dj s=gt env s):yv dj j.g=yv env j.g:=by
 obtain⟨d,i,g⟩:=j
 cases g with
 |none=>rfl
 |some p=>obtain⟨s,b⟩:=p;simp only[yv];rw[h s (by simp[xP])]
theorem pd{X:Nat->Prop}{env:Env}{σ:aG}{β:gr}{a:Act}{w:World}{ops:Array Oper}{o:Oper}{j:J}{c wr:Bool}{i:Nat}{v:AV}{Q:Exit->Act->World->Prop}(cn:lY N n0 X env σ β a w)(ho:ops[i]?=some o)(hc:ui P N ops o j=true)(hg:yv env j.g=some (c,wr))(vG:c=true->o.wpIn (tg rd) 0 P a w (Y5 N X w β σ a j.d (fun v' s=>v'=v/\s=σ)) Q):wpOpIn (tg rd) 0 P ops Q i (fun a' w'=>∃β',lY N n0 X (st j.d (wrap wr c v) env) σ β' a' w'/\Ext w β σ w' β' σ/\Kp w (Xt X β σ) β σ w' (Xt X β' σ) β' σ) a w:=by
 obtain⟨hw,Ve,iP⟩:=mE cn hc hg
 obtain⟨hd,bP,_⟩:=iq hc
 simp only[wpOpIn,ho,hw]
 cases c with
 |true=>
  simp only[if_true]
  refine Oper.wpIn_mono (fun a' w' ⟨x,v',σ',β',ha,⟨e1,e2⟩,hs,hr,he,kp⟩=>?_) (vG rfl)
  subst ha;subst e1;subst e2
  exact⟨β',(cn.tr hs he kp).put (d:=j.d) (v:=wrap wr true v') bP (by
   cases wr with
   |false=>exact hr
   |true=>exact .when _ _ _ (fun _=>hr) (fun h=>by cases h)),he,kp⟩
 |false=>
  simp only[bw,if_false]
  have O3:wr=true:=by cases wr with|false=>exact absurd (Ve rfl) (by simp)|true=>rfl
  subst O3
  refine⟨fun f _=>mD f,β,?_,Ext.refl _ _ _,Kp.refl⟩
  rw[hd]
  exact cn.put (v:=wrap true false v) bP (.when _ _ _ (fun h=>by cases h) (fun _=>rfl))
theorem qQ:∀{l:List (Option Nat)},Cc l=true->l.Nodup
 | [],_=>h_
 |a::r,h=>by
  simp only[Cc,ak,db]at h
  exact eU.2 ⟨by simpa using h.1,qQ h.2⟩
theorem kh{j:J}{q:Al}(h:nD j=some q):j=⟨some q.d,.alloc q.T q.k q.z,none⟩:=by
 obtain⟨d,i,g⟩:=j
 cases d<;>cases i<;>cases g<;>simp[nD]at h
 subst h;rfl
theorem nO{j:J}(h:j.i.calm=true):nD j=none:=by
 obtain⟨d,i,g⟩:=j
 cases d<;>cases i<;>cases g<;>simp_all[nD,I.calm]
theorem xQ{σ:aG}{Z:Env->aG->Prop}:∀(p:List J) (env:Env) (al:List Al),(p.map (·.d)).Nodup->(∀j∈p,j.d.isSome=true)->(∀(i k:Nat) (j jk:J),p[i]?=some j->p[k]?=some jk->i<=k->∀s,jk.d=some s->s∉xP j)->Q_ P N rd p env σ al Z->∃E,Z E (σ++wQ (al++p.filterMap nD))/\(∀s,(∀j∈p,j.d≠some s)->gt E s=gt env s)/\(∀j∈p,j.i.calm=true->∃v,One P N rd j E σ v/\∀s,j.d=some s->gt E s=v)/\∀n q,(p.filterMap nD)[n]?=some q->q.z.length=q.k/\gt E q.d=.ptr (σ.length+(al.length+n)) 0 1 0 0
 | [],env,al,_,_,_,h=>⟨env,by simpa[Q_]using h,fun _ _=>rfl,fun j hj=>absurd hj (au),fun n q h=>by simp at h⟩
 |j::r,env,al,sK,mQ,Oe,h=>by
  simp only[bq,eU]at sK
  obtain⟨s0,CU⟩:=dy.1 (mQ j (by simp))
  have Vg:∀j'∈r,j'.d≠some s0:=fun j' o9 e=>sK.1 (by rw[CU,<-e];exact List.mem_map_of_mem o9)
  have Sv:∀v s,s≠s0->gt (st j.d v env) s=gt env s:=fun v s hs=>by
   rw[CU];simp only[st,gt];rw[show(s0==s)=false by simpa using fun e=>hs e.symm];rfl
  have Vh:∀(i k:Nat) (j jk:J),r[i]?=some j->r[k]?=some jk->i<=k->∀s,jk.d=some s->s∉xP j:=
   fun i k ji jk hi hk AA s=>Oe (i+1) (k+1) ji jk (by simpa using hi) (by simpa using hk) (by omega) s
  have ZW:∀j∈r,j.d.isSome=true:=fun j hj=>mQ j (by simp[hj])
  rcases h with⟨v,Jc,h1,h2⟩|⟨q,hq,hz,h2⟩
  ·obtain⟨E,hz,hE,hj,Cd⟩:=xQ r _ al sK.2 ZW Vh h2
   have hf:(j::r).filterMap nD=r.filterMap nD:=by rw[List.filterMap_cons,nO Jc]
   rw[hf]
   refine⟨E,hz,fun s hs=>?_,fun j' o9 Ee=>?_,Cd⟩
   ·rw[hE s fun j' o9=>hs j' (by simp[o9]),Sv v s fun e=>hs j (by simp) (by rw[CU,e])]
   ·rcases aC.1 o9 with rfl|o9
    ·refine⟨v,fun iP ops i o ho hc dj lg=>h1 iP ops i o ho hc dj fun s hs=>?_,fun s hs=>?_⟩
     ·rw[lg s hs,hE s,Sv v s]
      ·intro e;subst e
       exact Oe 0 0 j' j' rfl rfl (ar _) s CU hs
      ·intro j2 Bv e
       obtain⟨k,hk⟩:=dJ Bv
       exact Oe 0 (k+1) j' j2 rfl (by simpa using hk) (aQ _) s e hs
     ·rw[CU]at hs;injection hs with hs;subst hs
      rw[hE s0 Vg,CU];simp[st,gt]
    ·exact hj j' o9 Ee
  ·have sL:=kh hq
   have hd:j.d=some q.d:=by rw[sL]
   obtain rfl:s0=q.d:=by rw[hd]at CU;injection CU with h;exact h.symm
   rw[<-hd]at h2
   obtain⟨E,hz',hE,hj,Cd⟩:=xQ r _ (al++[q]) sK.2 ZW Vh h2
   have hf:(j::r).filterMap nD=q::r.filterMap nD:=by rw[List.filterMap_cons,hq]
   rw[hf]
   refine⟨E,by simpa using hz',fun s hs=>?_,fun j' o9 Ee=>?_,fun n q' hn=>?_⟩
   ·rw[hE s fun j' o9=>hs j' (by simp[o9]),Sv _ s fun e=>hs j (by simp) (by rw[CU,e])]
   ·rcases aC.1 o9 with rfl|o9
    ·rw[sL]at Ee;cases Ee
    ·exact hj j' o9 Ee
   ·cases n with
    |zero=>
     simp only[cg,ah]at hn;subst hn
     refine⟨hz,?_⟩
     rw[hE _ Vg,hd];simp[st,gt]
    |succ n=>
     obtain⟨h3,h4⟩:=Cd n q' (by simpa using hn)
     refine⟨h3,?_⟩
     rw[h4];simp;omega
theorem yy{σ:aG}{al:List Al}{f i:Nat}{o:Ob}(h:aG.at (σ++wQ al) f i=some o):(f<σ.length/\σ.at f i=some o)\/∃n q,f=σ.length+n/\i=0/\al[n]?=some q/\o=q.ob:=by
 by_cases hf:f<σ.length
 ·refine .inl ⟨hf,?_⟩
  unfold aG.at at h|-
  rwa[cy hf]at h
 ·refine .inr ⟨f-σ.length,?_⟩
  unfold aG.at at h
  rw[bE (by omega),wQ,aV]at h
  cases hq:al[f-σ.length]? with
  |none=>rw[hq]at h;simp at h
  |some q=>
   rw[hq]at h
   simp only[aY]at h
   cases i with
   |zero=>simp only[cg,ah]at h;exact⟨q,by omega,rfl,rfl,h.symm⟩
   |succ i=>simp at h
theorem Gd{σ:aG}{al:List Al}{f i:Nat}(hf:f<σ.length):aG.at (σ++wQ al) f i=σ.at f i:=by
 unfold aG.at;rw[cy hf]
def HY(β:gr)(n:Nat)(bs:List Nat):gr:=fun f i=>if n<=f/\i=0 then bs[f-n]? else β f i
theorem oM{β:gr}{n f i:Nat}{bs:List Nat}(h:f<n):HY β n bs f i=β f i:=by unfold HY;rw[if_neg (by omega)]
theorem pW{β:gr}{n m:Nat}{bs:List Nat}:HY β n bs (n+m) 0=bs[m]?:=by unfold HY;rw[if_pos ⟨by omega,rfl⟩];congr 1;omega
theorem Bw{β:gr}{σ:aG}{al:List Al}{bs:List Nat}{b:Nat}(h:owned (HY β σ.length bs) (σ++wQ al) b):owned β σ b\/b∈bs:=by
 obtain⟨f,i,o,ho,hb⟩:=h
 rcases yy ho with⟨hf,ho⟩|⟨n,q,rfl,rfl,hq,rfl⟩
 ·rw[oM hf]at hb;exact .inl ⟨f,i,o,ho,hb⟩
 ·rw[pW]at hb;exact .inr (ao hb)
theorem Vi{X Xr:Nat->Prop}{β:gr}{σ:aG}{w:World}{al:List Al}{bs:List Nat}(hs:dG w Xr β σ)(hXr:∀b,X b->Xr b)(Y7:∀b∈bs,Xr b)(hnX:∀b∈bs,¬X b)(hlen:bs.length=al.length)(sK:bs.Nodup)(hh:∀(n:Nat) (q:Al) (b:Nat),al[n]?=some q->bs[n]?=some b->q.z.length=q.k/\(∀x∈q.z,scalar x=true)/\w.heap[b]?=some (Obj.cells q.z.toArray q.T (0,0))):dG w X (HY β σ.length bs) (σ++wQ al)/\Kp w (Xt Xr β σ) β σ w (Xt X (HY β σ.length bs) (σ++wQ al)) (HY β σ.length bs) (σ++wQ al):=by
 have K:Kp w (Xt Xr β σ) β σ w (Xt X (HY β σ.length bs) (σ++wQ al)) (HY β σ.length bs) (σ++wQ al):=
  {size:=ar _
   I1:=fun _ _ _ _ _=>rfl
   Aj:=fun b _ h=>h.elim (fun h=>.inl (hXr b h)) fun h=>(Bw h).elim .inr fun h=>.inl (Y7 b h)
   len:=by simp
   wI:=fun f i o' hf ho=>by
    rw[Gd hf]at ho
    exact⟨o',ho,rfl,ar _,fun _=>⟨oM hf,fun b _=>dM.refl w b⟩⟩}
 refine⟨⟨fun f i f' i' o o' b h1 h2 xe CG=>?_,fun f i o b h1 hb hx=>?_,fun f i o h1=>?_⟩,K⟩
 ·rcases yy h1 with⟨hf,g1⟩|⟨n,q,rfl,rfl,hq,e1⟩<;>rcases yy h2 with⟨I2,g2⟩|⟨n',q',rfl,rfl,I5,e2⟩
  ·rw[oM hf]at xe;rw[oM I2]at CG
   exact hs.inj f i f' i' o o' b g1 g2 xe CG
  ·rw[oM hf]at xe;rw[pW]at CG
   exact absurd (Y7 b (ao CG)) (hs.xJ f i o b g1 xe)
  ·rw[oM I2]at CG;rw[pW]at xe
   exact absurd (Y7 b (ao xe)) (hs.xJ f' i' o' b g2 CG)
  ·rw[pW]at xe CG
   obtain⟨u1,u2⟩:=ai.1 xe
   obtain⟨u3,u4⟩:=ai.1 CG
   have hp:=de.1 sK
   rcases gO n n' with hh|hh|hh
   ·exact absurd (u2.trans u4.symm) (hp n n' u1 u3 hh)
   ·exact⟨by rw[hh],rfl⟩
   ·exact absurd (u4.trans u2.symm) (hp n' n u3 u1 hh)
 ·rcases yy h1 with⟨hf,g1⟩|⟨n,q,rfl,rfl,hq,e1⟩
  ·rw[oM hf]at hb;exact hs.xJ f i o b g1 hb (hXr b hx)
  ·rw[pW]at hb;exact hnX b (ao hb) hx
 ·rcases yy h1 with⟨hf,g1⟩|⟨n,q,rfl,rfl,hq,rfl⟩
  ·rw[oM hf];exact(hs.obj f i o g1).tr K fun _ _=>rfl
  ·rw[pW]
   have hn:n<bs.length:=by rw[hlen];exact(ai.1 hq).1
   rw[ae hn]
   obtain⟨hz,xt,hc⟩:=hh n q _ hq (ae hn)
   have vv:=RL.vs (w:=w) (X:=Xt X (HY β σ.length bs) (σ++wQ al)) (β:=HY β σ.length bs) (σ:=σ++wQ al) _ xt
   have HZ:=pq q.z
   refine⟨fun e he=>?_,fun _=>⟨_,hc,by simp[Al.ob,hz],fun e j he hj=>?_,fun e j he hj=>?_⟩,fun r hr=>(by cases hr)⟩
   ·obtain rfl:e=0:=by simpa[Al.ob]using he
    simp[Al.ob,HZ,hz]
   ·obtain rfl:e=0:=by simpa[Al.ob]using he
    have:=(vv.2 j (by rw[HZ,hz];exact hj)).1
    simpa[ab,af]using this
   ·obtain rfl:e=0:=by simpa[Al.ob]using he
    have:=(vv.2 j (by rw[HZ,hz];exact hj)).2
    simpa[Al.ob,ab,af]using this
theorem Jd{o:Oper}{ρ:Operand->Value}{T k:Nat}{z:List Value}(hc:ck P o.op (.alloc T k z)=true)(w:World):∃w',(execOp ρ o).run P w=.ok (.value (.pointer (some ⟨w.heap.size,0,none⟩))) w'/\w'.heap=w.heap.push (.cells z.toArray T (0,0))/\(∀x∈z,scalar x=true)/\Still w w':=by
 cases fv:o.op<;>rw[fv]at hc<;>try(simp[ck]at hc;done)
 rename_i t
 simp only[ck,ak,beq_iff_eq]at hc
 obtain⟨⟨rfl,h1⟩,h2⟩:=hc
 have hx:execOp ρ o=(do let x<-Instr.alloc t true (.tuple #[]);pure (.value x)):=by unfold execOp;rw[fv]
 cases hz:yd P t with
 |none=>rw[hz]at h2;simp at h2
 |some l=>
 rw[hz]at h2
 simp only at h2
 obtain⟨rfl,xt⟩:=lz h2
 obtain⟨it,z0,lR,JU,rfl⟩:=mf hz
 refine⟨w.alloc (.cells z0.cells t),?_,rfl,xt,rfl,rfl,rfl,(by first|exact ar _|exact cO _)⟩
 rw[hx]
 exact cE _ _ _ (by simp[Instr.alloc,zeroValue,typeInfo,lR,JU,newVar,newRow])
def AB(p:List J)(listed:Array Bool)(s:Nat):Prop:=∃k j,p[k]?=some j/\j.d=some s/\listed.getD k true=false
open Classical in
noncomputable def pe(H:Nat->Prop)(E:Env):Env:=E.filter fun q=>decide (¬H q.1)
theorem fI{H:Nat->Prop}{s:Nat}:∀(E:Env),(H s->gt (pe H E) s=.any)/\(¬H s->gt (pe H E) s=gt E s)
 | []=>⟨fun _=>rfl,fun _=>rfl⟩
 |(m,v)::r=>by
  have ih:=fI (H:=H) (s:=s) r
  unfold pe at ih|-
  by_cases hm:H m
  ·rw[List.filter_cons_of_neg (by simpa using hm)]
   refine⟨ih.1,fun hs=>?_⟩
   simp only[gt]
   rw[show(m==s)=false by simp only[beq_eq_false_iff_ne];rintro rfl;exact hs hm]
   exact ih.2 hs
  ·rw[List.filter_cons_of_pos (by simpa using hm)]
   refine⟨fun hs=>?_,fun hs=>?_⟩
   ·simp only[gt]
    rw[show(m==s)=false by simp only[beq_eq_false_iff_ne];rintro rfl;exact hm hs]
    exact ih.1 hs
   ·simp only[gt]
    by_cases he:m=s
    ·subst he;simp
    ·rw[show(m==s)=false by simpa using he];exact ih.2 hs
theorem uj{o:Oper}{e:Edge}(he:e∈o.after)(hb:Region.binds .any e=true):e.on∈kJ o:=by
 simp only[kJ,aO,cM]
 exact⟨e,⟨by simpa using he,hb⟩,rfl⟩
theorem oN{o:Oper}{k:Nat}(h:k∈kJ o):∃e∈o.after,Region.binds .any e=true/\e.on=k:=by
 simp only[kJ,aO,cM]at h
 obtain⟨e,⟨h1,h2⟩,h3⟩:=h
 exact⟨e,by simpa using h1,h2,h3⟩
theorem pX{ops:Array Oper}{listed:Array Bool}(hd:∀(k:Nat) (o:Oper),ops[k]?=some o->listed.getD k true=true->∀e∈kJ o,listed.getD e true=true):∀(d i k:Nat) (o:Oper),ops[i]?=some o->(∀e∈kJ o,listed.getD e true=true)->dep ops d i k=true->listed.getD k true=true
 |0,_,_,_,_,_,h=>by simp[dep]at h
 |d+1,i,k,o,ho,hl,h=>by
  simp only[dep,ho,dK,eF,decide_eq_true_eq,eb,ak]at h
  rcases h with h|⟨e,he,_,h⟩
  ·exact hl k h
  ·cases Y8:ops[e]? with
   |none=>cases d<;>simp[dep,Y8]at h
   |some oe=>exact pX hd d e k oe Y8 (hd e oe Y8 (hl e he)) h
def vH(p:List J)(listed:Array Bool):Nat:=(List.range p.length).countP fun k=>!listed.getD k true
theorem Ef{p:List J}{listed:Array Bool}{i:Nat}(hi:i<p.length)(eX:p.length<=listed.size)(h:listed.getD i true=false):vH p (listed.setIfInBounds i true)+1=vH p listed:=by
 unfold vH
 have:∀(l:List Nat),l.Nodup->i∈l->(l.countP fun k=>!(listed.setIfInBounds i true).getD k true)+1=l.countP fun k=>!listed.getD k true:=by
  intro l
  induction l with
  |nil=>intro _ h;exact absurd h (au)
  |cons k l ih=>
   intro sK yj
   rw[eU]at sK
   have Vj:(listed.setIfInBounds i true).getD i true=true:=by simp[af,show i<listed.size by omega]
   by_cases hk:k=i
   ·subst hk
    rw[List.countP_cons_of_neg (by simp[Vj]),List.countP_cons_of_pos (by simp[h])]
    congr 1
    refine List.countP_congr fun x hx=>?_
    rw[getD_set_ne true (show k≠x by rintro rfl;exact sK.1 hx)]
   ·have hih:=ih sK.2 ((aC.1 yj).resolve_left fun e=>hk e.symm)
    have hke:(listed.setIfInBounds i true).getD k true=listed.getD k true:=getD_set_ne true fun e=>hk e.symm
    cases hv:listed.getD k true with
    |true=>rw[List.countP_cons_of_neg (by simp[hke,hv]),List.countP_cons_of_neg (by simp[hv])];exact hih
    |false=>rw[List.countP_cons_of_pos (by simp[hke,hv]),List.countP_cons_of_pos (by simp[hv])];omega
 exact this _ List.nodup_range (bc.2 hi)
theorem uk{ops:Array Oper}:∀{is:List Nat} {l:List J},qt P N ops is l=true->∀(n:Nat) (j:J),l[n]?=some j->∃i o,is[n]?=some i/\ops[i]?=some o/\ui P N ops o j=true
 | [],[],_,n,j,h=>by simp at h
 |i::is,j::l,h,n,j',hn=>by
  simp only[qt,ak]at h
  cases n with
  |zero=>
   cases ho:ops[i]? with
   |none=>rw[ho]at h;simp at h
   |some o=>rw[ho]at h;simp only[cg,ah]at hn;subst hn;exact⟨i,o,rfl,ho,h.1⟩
  |succ n=>simpa using uk h.2 n j' (by simpa using hn)
 | [],_::_,h,_,_,_=>by simp[qt]at h
 |_::_,[],h,_,_,_=>by simp[qt]at h
def pB(rs:List (Nat×Nat))(E:Env):Env:=rs.map (fun p=>(p.1,AV.v (.pointer (some ⟨p.2,0,none⟩))))++E
theorem kX{s:Nat}{E:Env}:∀{rs:List (Nat×Nat)},s∉rs.map (·.1)->gt (pB rs E) s=gt E s
 | [],_=>rfl
 |(d,b)::rs,h=>by
  simp only[bq,aC,not_or]at h
  simp only[pB,bq,aD,gt]
  rw[show(d==s)=false by simpa using fun e=>h.1 e.symm]
  exact kX h.2
theorem tm{s:Nat}{E E':Env}:∀{rs:List (Nat×Nat)},s∈rs.map (·.1)->gt (pB rs E) s=gt (pB rs E') s/\∃b,(s,b)∈rs/\gt (pB rs E) s=.v (.pointer (some ⟨b,0,none⟩))
 | [],h=>by simp at h
 |(d,b)::rs,h=>by
  simp only[pB,bq,aD,gt]
  by_cases hd:d=s
  ·subst hd;simp
  ·rw[show(d==s)=false by simpa using hd]
   obtain⟨h1,b',h2,h3⟩:=tm (E:=E) (E':=E') (rs:=rs) (by simpa[Ne.symm hd]using h)
   exact⟨h1,b',by simp[h2],h3⟩
theorem Eg{s b:Nat}{E:Env}:∀{rs:List (Nat×Nat)},(s,b)∈rs->gt (pB rs E) s=.v (.pointer (some ⟨b,0,none⟩))->(rs.find? fun p=>p.1==s)=some (s,b)
 | [],h,_=>by simp at h
 |(d,c)::rs,hb,KS=>by
  simp only[pB,bq,aD,gt]at KS
  by_cases hd:d=s
  ·subst hd
   simp only[beq_self_eq_true,cond_true,AV.v.injEq,Value.pointer.injEq,ah,Addr.mk.injEq,and_true,true_and]at KS
   subst KS;simp
  ·rw[show(d==s)=false by simpa using hd]at KS
   rw[List.find?_cons_of_neg (by simpa using hd)]
   rcases aC.1 hb with e|hb
   ·injection e with e1 e2;exact absurd e1.symm hd
   ·exact Eg hb KS
theorem Ce:∀(p:List J),((p.filterMap nD).map fun q=>some q.d).Sublist (p.map (·.d))
 | []=>.slnil
 |j::p=>by
  rw[List.filterMap_cons]
  cases h:nD j with
  |none=>simp only;exact(Ce p).cons _
  |some q=>
   simp only[bq]
   rw[kh h]
   exact(Ce p).cons_cons _
end
section
variable {P:Program} {N n0:Nat} {rd:Option Nat} {K:e7}
theorem qR{F:Fence}{ops:Array Oper}{Q:Exit->Act->World->Prop}{m:Nat}(ff:∀(i:Nat) (o:Oper),ops[i]?=some o->∀k∈kJ o,k<i)(qv:∀i,m<=i->i<ops.size->∃o,ops[i]?=some o/\∀k,m<=k->k<i->dep ops 9 i k=true):∀(t j:Nat) (listed:Array Bool) (a:Act) (w:World),m<=j->j+t=ops.size->listed.size=ops.size->(∀k,k<ops.size->(listed.getD k true=true↔k<j))->wpOpsIn F 0 P ops Q (List.range' j t) a w->wpAnyIn F 0 P .any ops Q t listed a w
 |0,j,listed,a,w,hm,hj,eX,hl,h=>by
  refine⟨?_,h⟩
  cases hr:Region.ready .any ops listed with
  |nil=>rfl
  |cons i rs=>
   have hi:i∈Region.ready .any ops listed:=by rw[hr];simp
   obtain⟨h0,o,ho,_⟩:=mem_ready.1 hi
   have bP:=(aZ.1 ho).1
   rw[(hl i bP).2 (by omega)]at h0
   cases h0
 |t+1,j,listed,a,w,hm,hj,eX,hl,h=>by
  rw[List.range'_succ,wpOpsIn_cons]at h
  have AD:∀k,k<ops.size->listed.getD k false=listed.getD k true:=fun k hk=>by
   simp[af,show k<listed.size by omega]
  have hrj:j∈Region.ready .any ops listed:=by
   obtain⟨o,ho,h2⟩:=qv j hm (by omega)
   have h1:=ff j o ho
   refine mem_ready.2 ⟨?_,o,ho,fun e he hb=>?_⟩
   ·cases hv:listed.getD j true with
    |false=>rfl
    |true=>exact absurd ((hl j (by omega)).1 hv) (by omega)
   ·have:=h1 _ (uj he hb)
    rw[AD _ (by omega)]
    exact(hl _ (by omega)).2 this
  refine⟨fun e=>by rw[e]at hrj;exact absurd hrj (au),fun i hi=>?_⟩
  obtain⟨h0,o,ho,Oe⟩:=mem_ready.1 hi
  have bP:=(aZ.1 ho).1
  have As:¬i<j:=fun hh=>by rw[(hl i bP).2 hh]at h0;cases h0
  have OV:i=j:=by
   rcases cm j i with hh|hh
   ·obtain⟨o',dN,h2⟩:=qv i (by omega) bP
    rw[ho]at dN;injection dN with dN;subst dN
    have X4:=pX (listed:=listed) (fun k ok lO LD e he=>by
     have hk:=(aZ.1 lO).1
     have:=ff k ok lO e he
     have:=(hl k hk).1 LD
     exact(hl e (by omega)).2 (by omega)) 9 i j o ho (fun e he=>by
      obtain⟨ed,Sw,hb,rfl⟩:=oN he
      have h3:=Oe ed Sw hb
      have:=ff i o ho _ he
      rw[AD _ (by omega)]at h3;exact h3) (h2 j hm hh)
    exact absurd ((hl j (by omega)).1 X4) (by omega)
   ·omega
  subst OV
  refine wpOpIn_mono (fun a' w' hh=>qR ff qv t (i+1) _ a' w' (by omega) (by omega) (by simpa using eX) (fun k hk=>?_) hh) h
  by_cases AE:i=k
  ·subst AE
   simp[af,show i<listed.size by omega]
  ·rw[getD_set_ne true AE,hl k hk];omega
end
def mR(n:Nat)(π:List Nat)(i:Nat):Nat:=if i<n then π.idxOf i else i
def AF(n:Nat)(π:List Nat)(j:Nat):Nat:=π.getD j n
def Sx(n:Nat)(π:List Nat)(o:Oper):Oper:=
 {o with after:=o.after.map fun e=>{e with on:=mR n π e.on},guard:=o.guard.map fun g=>(mR n π g.1,g.2)}
def perm(ops:Array Oper)(π:List Nat):Array Oper:=((List.range ops.size).map fun j=>Sx ops.size π (ops.getD (AF ops.size π j) default)).toArray
def qS(n:Nat)(π:List Nat):Bool:=
 (List.range n).all fun i=>decide (mR n π i<n)&&AF n π (mR n π i)==i&&decide (AF n π i<n)&&mR n π (AF n π i)==i
section
variable {P:Program} {F:Fence} {n:Nat} {ops:Array Oper} {Q:Exit->Act->World->Prop} {π:List Nat}
theorem kL(h:qS ops.size π=true){i:Nat}(hi:i<ops.size):mR ops.size π i<ops.size/\AF ops.size π (mR ops.size π i)=i/\AF ops.size π i<ops.size/\mR ops.size π (AF ops.size π i)=i:=by
 have:=bt.1 h i (bc.2 hi)
 simp only[ak,decide_eq_true_eq,beq_iff_eq]at this
 exact⟨this.1.1.1,this.1.1.2,this.1.2,this.2⟩
theorem pC:(perm ops π).size=ops.size:=by simp[perm]
theorem um(h:qS ops.size π=true){i:Nat}{o:Oper}(ho:ops[i]?=some o):(perm ops π)[mR ops.size π i]?=some (Sx ops.size π o):=by
 have hi:=(aZ.1 ho).1
 obtain⟨h1,h2,_⟩:=kL h hi
 have:ops.getD i default=o:=by rw[af,ho];rfl
 simp[perm,h1,h2,ho]
theorem Cf(h:qS ops.size π=true)(tmps:Array Value)(g:Nat):yielded (perm ops π) tmps (mR ops.size π g)=yielded ops tmps g:=by
 unfold yielded
 cases ho:ops[g]? with
 |some o=>rw[um h ho];rfl
 |none=>
  have hg:ops.size<=g:=by
   rcases cm g ops.size with h1|h1
   ·rw[bS h1]at ho;cases ho
   ·exact h1
  have:(perm ops π)[mR ops.size π g]?=none:=by
   rw[Array.getElem?_eq_none_iff,pC,mR,if_neg (by omega)];exact hg
  rw[this]
theorem Eh(h:qS ops.size π=true)(tmps:Array Value)(o:Oper):Region.wanted (Sx ops.size π o) (yielded (perm ops π) tmps)=Region.wanted o (yielded ops tmps):=by
 unfold Region.wanted Sx
 cases o.guard with
 |none=>rfl
 |some g=>simp only[aY,Cf h]
theorem Sy{m:Nat}{o:Oper}{a:Act}{w:World}{K:Act->World->Prop}:(Sx m π o).wpIn F n P a w K Q↔o.wpIn F n P a w K Q:=Iff.rfl
theorem yz(h:qS ops.size π=true){listed gy:Array Bool}(hl:∀i,i<ops.size->gy.getD (mR ops.size π i) true=listed.getD i true)(hf:∀i,gy.getD (mR ops.size π i) false=listed.getD i false){i:Nat}(hi:i∈Region.ready .any ops listed):mR ops.size π i∈Region.ready .any (perm ops π) gy:=by
 unfold Region.ready at hi|-
 rw[cM,bc]at hi|-
 obtain⟨h1,h2⟩:=hi
 obtain⟨g1,_⟩:=kL h h1
 refine⟨by rw[pC];exact g1,?_⟩
 have ho:ops[i]?=some ops[i]:=bS h1
 rw[um h ho,hl i h1]
 rw[ho]at h2
 simp only[aY,bV,ak]at h2|-
 refine⟨h2.1,?_⟩
 have h3:=h2.2
 rw[Array.all_eq_true']at h3|-
 intro e he
 simp only[Sx,Array.mem_map]at he
 obtain⟨e',mB,rfl⟩:=he
 have h4:=h3 e' mB
 simp only[hf]
 exact h4
theorem Ei(h:qS ops.size π=true):∀(fuel:Nat) (listed gy:Array Bool) (a:Act) (w:World),listed.size=ops.size->gy.size=ops.size->(∀i,i<ops.size->gy.getD (mR ops.size π i) true=listed.getD i true)->wpAnyIn F n P .any (perm ops π) Q fuel gy a w->wpAnyIn F n P .any ops Q fuel listed a w:=by
 have Ge:∀{listed gy:Array Bool},listed.size=ops.size->gy.size=ops.size->(∀i,i<ops.size->gy.getD (mR ops.size π i) true=listed.getD i true)->∀i,gy.getD (mR ops.size π i) false=listed.getD i false:=by
  intro listed gy hs nM hl i
  rcases cm i ops.size with hi|hi
  ·have h1:=hl i hi
   obtain⟨g1,_⟩:=kL h hi
   simp only[af,bS (show i<listed.size by omega),bS (show mR ops.size π i<gy.size by omega),bV]at h1|-
   exact h1
  ·have:mR ops.size π i=i:=by unfold mR;rw[if_neg (by omega)]
   rw[this]
   simp[af,gx (show listed.size<=i by omega),gx (show gy.size<=i by omega)]
 have Vk:∀{listed gy:Array Bool},listed.size=ops.size->gy.size=ops.size->(∀i,i<ops.size->gy.getD (mR ops.size π i) true=listed.getD i true)->Region.ready .any ops listed=[]->Region.ready .any (perm ops π) gy=[]:=by
  intro listed gy hs nM hl hr
  refine List.eq_nil_iff_forall_not_mem.2 fun j hj=>?_
  unfold Region.ready at hj
  rw[cM,bc,pC]at hj
  obtain⟨Ra,Bv⟩:=hj
  obtain⟨_,_,g3,g4⟩:=kL h Ra
  have ho:ops[AF ops.size π j]?=some ops[AF ops.size π j]:=bS g3
  have hp:=um h ho
  rw[g4]at hp
  have yj:AF ops.size π j∈Region.ready .any ops listed:=by
   unfold Region.ready
   rw[cM,bc]
   refine⟨g3,?_⟩
   rw[hp]at Bv
   rw[ho,<-hl _ g3,g4]
   simp only[aY,bV,ak]at Bv|-
   refine⟨Bv.1,?_⟩
   have h3:=Bv.2
   rw[Array.all_eq_true']at h3|-
   intro e he
   have h4:=h3 {e with on:=mR ops.size π e.on} (by simp only[Sx,Array.mem_map];exact⟨e,he,rfl⟩)
   simp only[Ge hs nM hl]at h4
   exact h4
  rw[hr]at yj;cases yj
 intro fuel
 induction fuel with
 |zero=>
  intro listed gy a w hs nM hl hw
  refine⟨?_,hw.2⟩
  refine List.eq_nil_iff_forall_not_mem.2 fun i hi=>?_
  have:=yz h hl (Ge hs nM hl) hi
  rw[hw.1]at this;cases this
 |succ fuel ih=>
  intro listed gy a w hs nM hl hw
  refine⟨fun hr=>hw.1 (Vk hs nM hl hr),fun i hi=>?_⟩
  have km:=yz h hl (Ge hs nM hl) hi
  have h1:=hw.2 _ km
  have bP:i<ops.size:=by unfold Region.ready at hi;rw[cM,bc]at hi;exact hi.1
  have ho:ops[i]?=some ops[i]:=bS bP
  unfold wpOpIn at h1|-
  rw[um h ho]at h1
  rw[ho]
  simp only[Eh h]at h1|-
  have sG:∀a w,wpAnyIn F n P .any (perm ops π) Q fuel (gy.setIfInBounds (mR ops.size π i) true) a w->wpAnyIn F n P .any ops Q fuel (listed.setIfInBounds i true) a w:=fun a w hh=>by
   refine ih _ _ a w (by simp[hs]) (by simp[nM]) (fun k hk=>?_) hh
   obtain⟨k1,k2,_⟩:=kL h hk
   obtain⟨i1,i2,_⟩:=kL h bP
   by_cases AE:k=i
   ·subst AE
    simp[af,eV,hs,nM,hk,k1]
   ·have iw:mR ops.size π k≠mR ops.size π i:=fun e=>AE (by rw[<-k2,e,i2])
    have:=hl k hk
    simpa[af,dB (fun e=>AE e.symm),dB (fun e=>iw e.symm)]using this
  split
  ·rename_i O3
   rw[if_pos O3]at h1
   exact Oper.wpIn_mono sG (Sy.1 h1)
  ·rename_i O3
   rw[if_neg O3]at h1
   exact⟨h1.1,sG _ _ h1.2⟩
end
section
variable {P:Program} {N n0:Nat} {rd:Option Nat} {K:e7}
def X5(P:Program)(N:Nat)(rd:Option Nat)(j:J)(E:Env)(σ:aG)(Φ:AV->aG->Prop):Prop:=
 ∀(ops:Array Oper) (i:Nat) (o:Oper),ops[i]?=some o->ui P N ops o j=true->∀dj,(∀s∈xP j,gt dj s=gt E s)->∀n0 X β a w,lY N n0 X dj σ β a w->∀Q,
  wpOpIn (tg rd) 0 P ops Q i (fun a' w'=>∃v σ' β',Φ v σ'/\lY N n0 X (st j.d v dj) σ' β' a' w'/\Ext w β σ w' β' σ'/\Kp w (Xt X β σ) β σ w' (Xt X β' σ') β' σ') a w
def LT(P:Program)(N:Nat)(rd:Option Nat)(p:List J)(ks:List Nat)(E:Env)(σ:aG):Prop:=
 ∀k∈ks,∀j,p[k]?=some j->∃v,One P N rd j E σ v/\∀s,j.d=some s->gt E s=v
def ZO(P:Program)(N:Nat)(rd:Option Nat)(live:List Nat)(K:e7)(l:List J)(E:Env)(σ:aG):Prop:=N_ P N rd l live K E σ
def O5(P:Program)(N:Nat)(rd:Option Nat)(p:List J)(ks:List Nat)(Z:List J->Env->aG->Prop):Nat->List J->Env->aG->Prop
 |0,l,E,σ=>LT P N rd p ks E σ/\Z l E σ
 |_+1,[],_,_=>False
 |q+1,j::r,E,σ=>LT P N rd p ks E σ/\X5 P N rd j E σ fun v σ'=>O5 P N rd p ks Z q r (st j.d v E) σ'
theorem O5.lt{p:List J}{ks:List Nat}{Z:List J->Env->aG->Prop}{E:Env}{σ:aG}:∀{q:Nat} {l:List J},O5 P N rd p ks Z q l E σ->LT P N rd p ks E σ
 |0,_,h=>h.1
 |_+1,[],h=>h.elim
 |_+1,_::_,h=>h.1
theorem vI{ops:Array Oper}:∀{n:Nat} {l:List J} {s:Nat},qt P N ops (List.range' s l.length) l=true->qt P N ops (List.range' (s+n) (l.length-n)) (l.drop n)=true
 |0,l,s,h=>by simpa using h
 |n+1,[],s,h=>by simpa using h
 |n+1,j::l,s,h=>by
  rw[bf,List.range'_succ]at h
  simp only[qt,ak]at h
  have:=vI (n:=n) h.2
  rw[bf,iC,show l.length+1-(n+1)=l.length-n by omega,show s+(n+1)=s+1+n by omega]
  exact this
theorem yA{p:List J}{listed:Array Bool}(h:0<vH p listed):∃k,k<p.length/\listed.getD k true=false/\∀k',k'<k->listed.getD k' true=true:=by
 have h0:∃k,k<p.length/\listed.getD k true=false:=by
  obtain⟨k,hk,hv⟩:=List.countP_pos_iff.1 h
  exact⟨k,bc.1 hk,by simpa using hv⟩
 obtain⟨k,hk⟩:=h0
 induction k using Nat.strongRecOn with
 |_ k ihk=>
  by_cases hh:∃k',k'<k/\listed.getD k' true=false
  ·obtain⟨k',h1,h2⟩:=hh
   exact ihk k' h1 ⟨by omega,h2⟩
  ·refine⟨k,hk.1,hk.2,fun k' h1=>?_⟩
   cases hv:listed.getD k' true with
   |true=>rfl
   |false=>exact absurd ⟨k',h1,hv⟩ hh
theorem Cg{ops:Array Oper}{p l:List J}{ks live:List Nat}{q0:Nat}{Z:List J->Env->aG->Prop}(wR:ops.size=p.length+l.length)(D7:qt P N ops (List.range p.length) p=true)(ow:qt P N ops (List.range' p.length l.length) l=true)(qT:∀(i:Nat) (o:Oper),ops[i]?=some o->∀k∈kJ o,k<i)(nj:∀(i:Nat) (j:J),p[i]?=some j->∃o,ops[i]?=some o/\ui P N ops o j=true/\(∀k∈kJ o,k<i)/\∀(k:Nat) (jk:J) s,p[k]?=some jk->jk.d=some s->s∈xP j->k∈kJ o/\xC jk=false)(sM:∀(i k:Nat) (ji jk:J) s,p[i]?=some ji->p[k]?=some jk->ji.d=some s->jk.d=some s->i=k)(Sz:∀j∈p,j.d.isSome=true)(qv:∀i,p.length<=i->i<ops.size->∃o,ops[i]?=some o/\(∀k∈kJ o,k<i)/\∀k,k<i->k<p.length+q0->(k∈ks/\i<p.length+q0)\/dep ops 9 i k=true)(hZ:∀(listed:Array Bool) (E:Env) (σ:aG) (X:Nat->Prop) (β:gr) (a:Act) (w:World) (Q:Exit->Act->World->Prop),listed.size=ops.size->(∀k,k<p.length+q0->listed.getD k true=true)->(∀k,p.length+q0<=k->k<ops.size->listed.getD k true=false)->(∀(k:Nat) (o:Oper),ops[k]?=some o->listed.getD k true=true->∀e∈kJ o,listed.getD e true=true)->lY N n0 X E σ β a w->Z (l.drop q0) E σ->(∀e a2 w2,nC N n0 X w β σ (Kl live K) e a2 w2->Q e a2 w2)->wpAnyIn (tg rd) 0 P .any ops Q (l.length-q0) listed a w)(xz:∀k∈ks,k<p.length)(iP:∀k∈ks,∀j,p[k]?=some j->j.i.calm=true)(Y9:∀t,t<q0->∀j,l[t]?=some j->∀k∈ks,∀jk,p[k]?=some jk->jk.d≠j.d/\∀s,jk.d=some s->s∈xP j->dep ops 9 (p.length+t) k=true):∀(f t u q:Nat) (listed:Array Bool) (E:Env) (σ:aG) (X:Nat->Prop) (β:gr) (a:Act) (w:World) (Q:Exit->Act->World->Prop),f=u+(l.length-t)->t+q=q0->t<=l.length->vH p listed=u->listed.size=ops.size->(∀k,k<p.length->k∉ks->listed.getD k true=true)->(∀k,p.length<=k->k<ops.size->(listed.getD k true=true↔k<p.length+t))->(∀(k:Nat) (o:Oper),ops[k]?=some o->listed.getD k true=true->∀e∈kJ o,listed.getD e true=true)->lY N n0 X (pe (AB p listed) E) σ β a w->O5 P N rd p ks Z q (l.drop t) E σ->(∀e a2 w2,nC N n0 X w β σ (Kl live K) e a2 w2->Q e a2 w2)->wpAnyIn (tg rd) 0 P .any ops Q f listed a w:=by
 intro f
 induction f with
 |zero=>
  intro t u q listed E σ X β a w Q hf htq DS hu eX rQ me Gf cn hw hQ
  have Rb:u=0:=by omega
  have Y_:t=l.length:=by omega
  subst Rb;subst Y_
  have ff:∀k,k<p.length->listed.getD k true=true:=fun k hk=>by
   have:=gh.1 hu k (bc.2 hk)
   simpa using this
  have Y':∀s,¬AB p listed s:=by
   rintro s ⟨k,j,hk,_,hh⟩
   rw[ff k (ai.1 hk).1]at hh;cases hh
  cases q with
  |succ q=>rw[c_]at hw;exact hw.elim
  |zero=>
  have Uu:q0=l.length:=by omega
  have jV:lY N n0 X E σ β a w:=cn.Gc fun s=>.inr ((fI E).2 (Y' s)).symm
  have:=hZ listed E σ X β a w Q eX (fun k hk=>by
   rcases cm k p.length with h3|h3
   ·exact ff k h3
   ·exact(me k h3 (by omega)).2 (by omega)) (fun k h3 h4=>by omega) Gf jV (by rw[Uu];exact hw.2) hQ
  rw[Uu,jr]at this
  exact this
 |succ f ih=>
  intro t u q listed E σ X β a w Q hf htq DS hu eX rQ me Gf cn hw hQ
  have AD:∀k,k<ops.size->listed.getD k false=listed.getD k true:=fun k hk=>by
   simp[af,show k<listed.size by omega]
  by_cases LF:u=0/\q=0
  ·
   obtain⟨rfl,rfl⟩:=LF
   have ff:∀k,k<p.length->listed.getD k true=true:=fun k hk=>by
    have:=gh.1 hu k (bc.2 hk)
    simpa using this
   have Y':∀s,¬AB p listed s:=by
    rintro s ⟨k,j,hk,_,hh⟩
    rw[ff k (ai.1 hk).1]at hh;cases hh
   have jV:lY N n0 X E σ β a w:=cn.Gc fun s=>.inr ((fI E).2 (Y' s)).symm
   have Uu:q0=t:=by omega
   have:=hZ listed E σ X β a w Q eX (fun k hk=>by
    rcases cm k p.length with h3|h3
    ·exact ff k h3
    ·exact(me k h3 (by omega)).2 (by omega)) (fun k h3 h4=>by
     cases hv:listed.getD k true with
     |false=>rfl
     |true=>exact absurd ((me k (by omega) h4).1 hv) (by omega)) Gf jV (by rw[Uu];exact hw.2) hQ
   rw[show f+1=l.length-q0 by omega]
   exact this
  ·have Vl:q≠0->t<l.length:=fun hq=>by
    rcases cm t l.length with h|h
    ·exact h
    ·rw[fG h]at hw
     cases q with
     |zero=>exact absurd rfl hq
     |succ q=>exact hw.elim
   have SA:Region.ready .any ops listed≠[]:=by
    by_cases Rb:u=0
    ·have hq:q≠0:=fun e=>LF ⟨Rb,e⟩
     have Vm:=Vl hq
     subst Rb
     have ff:∀k,k<p.length->listed.getD k true=true:=fun k hk=>by
      have:=gh.1 hu k (bc.2 hk)
      simpa using this
     obtain⟨o,ho,h2,_⟩:=qv (p.length+t) (by omega) (by omega)
     have:p.length+t∈Region.ready .any ops listed:=by
      refine mem_ready.2 ⟨?_,o,ho,fun e he hb=>?_⟩
      ·cases hv:listed.getD (p.length+t) true with
       |false=>rfl
       |true=>exact absurd ((me _ (by omega) (by omega)).1 hv) (by omega)
      ·have:=h2 _ (uj he hb)
       rw[AD _ (by omega)]
       rcases cm e.on p.length with h|h
       ·exact ff _ h
       ·exact(me _ h (by omega)).2 this
     intro e;rw[e]at this;exact absurd this (au)
    ·obtain⟨k0,g1,g2,g3⟩:=yA (p:=p) (listed:=listed) (by omega)
     obtain⟨o,ho,_,h1,_⟩:=nj k0 _ (ae g1)
     have:k0∈Region.ready .any ops listed:=mem_ready.2 ⟨g2,o,ho,fun e he hb=>by
      have:=h1 _ (uj he hb)
      rw[AD _ (by omega)]
      exact g3 _ this⟩
     intro e;rw[e]at this;exact absurd this (au)
   refine⟨fun e=>absurd e SA,fun i hi=>?_⟩
   obtain⟨h0,o,ho,ff⟩:=mem_ready.1 hi
   have bP:=(aZ.1 ho).1
   have Je:∀e∈kJ o,listed.getD e true=true:=fun e he=>by
    obtain⟨ed,Sw,hb,rfl⟩:=oN he
    have h3:=ff ed Sw hb
    have:=qT i o ho _ he
    rw[AD _ (by omega)]at h3;exact h3
   have nV:(listed.setIfInBounds i true).getD i true=true:=by simp[af,show i<listed.size by omega]
   have H2:∀k,listed.getD k true=true->(listed.setIfInBounds i true).getD k true=true:=by
    intro k hk
    by_cases AA:i=k
    ·subst AA;exact nV
    ·rw[getD_set_ne true AA];exact hk
   have LG:∀(k:Nat) (o:Oper),ops[k]?=some o->(listed.setIfInBounds i true).getD k true=true->∀e∈kJ o,(listed.setIfInBounds i true).getD e true=true:=by
    intro k ok lO LD e he
    by_cases AE:i=k
    ·subst AE
     rw[ho]at lO;injection lO with lO;subst lO
     exact H2 _ (Je e he)
    ·rw[getD_set_ne true AE]at LD
     exact H2 _ (Gf k ok lO LD e he)
   have LH:∀k,dep ops 9 i k=true->listed.getD k true=true:=fun k hd=>pX Gf 9 i k o ho Je hd
   rcases cm i p.length with Og|Og
   ·
    have AA:i∈ks:=cW fun hn=>by rw[rQ i Og hn]at h0;cases h0
    obtain⟨j,hj⟩:∃j,p[i]?=some j:=⟨_,ae Og⟩
    obtain⟨o',dN,Jc,h1,h2⟩:=nj i j hj
    rw[ho]at dN;injection dN with dN;subst dN
    obtain⟨v,jN,hv⟩:=hw.lt i AA j hj
    obtain⟨s0,CU⟩:=dy.1 (Sz j (ao hj))
    have Ej:=Ef (p:=p) Og (by omega) h0
    have sG:=jN (iP i AA j hj) ops i o ho Jc (pe (AB p listed) E) (fun s hs=>by
     refine(fI E).2 ?_
     rintro⟨k,jk,hk,tn,uo⟩
     rw[Je k (h2 k jk s hk tn hs).1]at uo;cases uo) n0 X β a w cn Q
    refine wpOpIn_mono (fun a2 w2 ⟨DW,jV,qU,H3⟩=>?_) sG
    refine ih t (u-1) q _ E σ X DW a2 w2 Q (by omega) htq DS (by omega) (by simpa using eX) (fun k hk hn=>H2 _ (rQ k hk hn)) (fun k hk xu=>?_) LG (jV.Gc fun s=>?_) hw fun e a3 w3 h=>hQ _ _ _ (h.trans qU H3)
    ·rw[getD_set_ne true (by omega)];exact me k hk xu
    ·by_cases hh:AB p (listed.setIfInBounds i true) s
     ·exact .inl ((fI E).1 hh)
     ·refine .inr ?_
      rw[(fI E).2 hh]
      by_cases wS:s=s0
      ·subst wS
       rw[hv s CU,CU];simp[st,gt]
      ·rw[CU];simp only[st,gt];rw[show(s0==s)=false by simpa using fun e=>wS e.symm]
       refine((fI E).2 ?_).symm
       rintro⟨k,jk,hk,tn,uo⟩
       refine hh ⟨k,jk,hk,tn,?_⟩
       rw[getD_set_ne true]
       ·exact uo
       ·intro e;subst e
        rw[hj]at hk;injection hk with hk;subst hk
        rw[CU]at tn;injection tn with tn;exact wS tn.symm
   ·
    obtain⟨o',dN,_,h2⟩:=qv i Og bP
    rw[ho]at dN;injection dN with dN;subst dN
    have As:¬i<p.length+t:=fun h=>by rw[(me i Og bP).2 h]at h0;cases h0
    cases q with
    |zero=>
     exfalso
     have Rb:u≠0:=fun e=>LF ⟨e,rfl⟩
     obtain⟨k0,g1,g2,_⟩:=yA (p:=p) (listed:=listed) (by omega)
     have:=LH k0 ((h2 k0 (by omega) (by omega)).resolve_left fun hx=>by omega)
     rw[this]at g2;cases g2
    |succ q=>
    have lR:i=p.length+t:=by
     refine cW fun iw=>?_
     have:=LH _ ((h2 (p.length+t) (by omega) (by omega)).resolve_left fun hx=>by have:=xz _ hx.1;omega)
     exact absurd ((me _ (by omega) (by omega)).1 this) (by omega)
    subst lR
    have Vm:=Vl (by omega)
    obtain⟨j,r,Za⟩:∃j r,l.drop t=j::r:=by
     cases hd:l.drop t with
     |nil=>rw[List.drop_eq_nil_iff]at hd;omega
     |cons j r=>exact⟨j,r,rfl⟩
    have X4:l[t]?=some j:=by
     have:(l.drop t)[0]?=some j:=by rw[Za];rfl
     simpa using this
    have hr:l.drop (t+1)=r:=by
     rw[show t+1=t+1 from rfl,<-List.drop_drop,Za];rfl
    rw[Za]at hw
    obtain⟨Li,Vn⟩:=hw
    obtain⟨i',o2,km,X6,Jc⟩:=uk ow t j X4
    rw[List.getElem?_range' Vm]at km;simp only[jT,ah]at km;subst km
    rw[ho]at X6;injection X6 with X6;subst X6
    have Zb:∀{s},AB p listed s->∃k∈ks,∃jk,p[k]?=some jk/\jk.d=some s/\listed.getD k true=false:=by
     rintro s ⟨k,jk,hk,tn,uo⟩
     exact⟨k,cW fun hn=>(by rw[rQ k (ai.1 hk).1 hn]at uo;cases uo),jk,hk,tn,uo⟩
    have sG:=Vn ops _ o ho Jc (pe (AB p listed) E) (fun s hs=>by
     refine(fI E).2 fun hh=>?_
     obtain⟨k,vg,jk,hk,tn,uo⟩:=Zb hh
     have:=LH k ((Y9 t (by omega) j X4 k vg jk hk).2 s tn hs)
     rw[this]at uo;cases uo) n0 X β a w cn Q
    refine wpOpIn_mono (fun a2 w2 ⟨v,σ',DW,hΦ,jV,qU,H3⟩=>?_) sG
    have Zc:∀s,AB p (listed.setIfInBounds (p.length+t) true) s↔AB p listed s:=fun s=>by
     constructor
     ·rintro⟨k,jk,hk,tn,uo⟩
      refine⟨k,jk,hk,tn,?_⟩
      rw[getD_set_ne true (by have:=(ai.1 hk).1;omega)]at uo;exact uo
     ·rintro⟨k,jk,hk,tn,uo⟩
      refine⟨k,jk,hk,tn,?_⟩
      rw[getD_set_ne true (by have:=(ai.1 hk).1;omega)];exact uo
    have Vo:vH p (listed.setIfInBounds (p.length+t) true)=u:=by
     rw[<-hu]
     unfold vH
     refine List.countP_congr fun k hk=>?_
     rw[getD_set_ne true (by have:=bc.1 hk;omega)]
    refine ih (t+1) u q _ (st j.d v E) σ' X DW a2 w2 Q (by omega) (by omega) (by omega) Vo (by simpa using eX) (fun k hk hn=>H2 _ (rQ k hk hn)) (fun k hk xu=>?_) LG (jV.Gc fun s=>?_) (by rw[hr];exact hΦ) fun e a3 w3 h=>hQ _ _ _ (h.trans qU H3)
    ·by_cases AE:p.length+t=k
     ·subst AE;rw[nV];simp
     ·rw[getD_set_ne true AE,me k hk xu];omega
    ·by_cases hh:AB p (listed.setIfInBounds (p.length+t) true) s
     ·exact .inl ((fI _).1 hh)
     ·refine .inr ?_
      rw[(fI _).2 hh]
      have hh2:¬AB p listed s:=fun h=>hh ((Zc s).2 h)
      cases hjd:j.d with
      |none=>simp only[st];exact((fI E).2 hh2).symm
      |some s0=>
       simp only[st,gt]
       by_cases wS:s0=s
       ·subst wS;simp
       ·rw[show(s0==s)=false by simpa using wS]
        exact((fI E).2 hh2).symm
end
def Ci(P:Program)(N:Nat)(ops:Array Oper)(ks:List Nat)(q:Nat)(p l:List J):Bool:=
 ops.size==p.length+l.length&&qt P N ops (List.range p.length) p&&qt P N ops (List.range' p.length l.length) l&&
 (p.all fun j=>j.d.isSome)&&Cc (p.map (·.d))&&
 ((List.range p.length).all fun i=>match ops[i]?,p[i]? with
  |some o,some j=>(kJ o).all (fun k=>decide (k<i))&&(List.range p.length).all fun k=>match p[k]? with
   |some jk=>(match jk.d with|some s=>!(xP j).contains s||((kJ o).contains k&& !xC jk)|none=>true)
   |none=>true
  |_,_=>false)&&
 ((List.range' p.length l.length).all fun i=>match ops[i]? with
  |some o=>(kJ o).all (fun k=>decide (k<i))&&(List.range i).all fun k=>decide (p.length+q<=k)||(ks.contains k&&decide (i<p.length+q))||dep ops 9 i k
  |none=>false)&&
 (ks.all fun k=>match p[k]? with|some j=>j.i.calm|none=>false)&&
 (List.range q).all fun t=>match l[t]? with
  |some j=>ks.all fun k=>match p[k]? with
   |some jk=>jk.d !=j.d&&(match jk.d with|some s=>!(xP j).contains s||dep ops 9 (p.length+t) k|none=>true)
   |none=>true
  |none=>true
def O6(P:Program)(N:Nat)(ops:Array Oper)(ks:List Nat)(q:Nat)(p l:List J):Bool:=
 Ci P N ops ks q p l&&(p.all fun j=>j.i.calm||xC j)&&(List.range' p.length l.length).all fun i=>decide (i<p.length+q)||(List.range i).all fun k=>dep ops 9 i k
section
variable {P:Program} {N n0:Nat} {rd:Option Nat} {K:e7}
def qV(d:Option Nat)(env:Env)(v:AV):Prop:=
 match d with
 |some s=>gt env s=v
 |none=>True
def Vp(P:Program)(j:J)(env:Env)(σ:aG):Prop:=
 match j with
 |⟨d,i,g⟩=>match yv env g with
  |none=>False
  |some (c,wr)=>
   match i with
   | .pick x y z=>
    match oL c env x y z with
    |some (S,b)=>S/\qV d env (wrap wr c (.v (.bool b)))
    |none=>False
   | .call f as_=>j7 c env (f::as_)/\∃n first cap res,bu (ov env f)=.fn (.func n) first cap/\
    (c=true->jg P n (first++fu as_ env++cap) σ res)/\qV d env (wrap wr c res)
   | .inv ..=>False
   | .alloc ..=>False
   |i=>
    match ex i (fun o=>bu (ov env o)) σ with
    |some (S,v,σ')=>j7 c env i.os/\(c=true->S)/\qV d env (wrap wr c v)
    |none=>c=false/\wr=true/\qV d env (wrap wr c .any)
def Rc(P:Program)(p:List J)(env:Env)(σ:aG):List Nat->Prop
 | []=>True
 |k::ks=>(match p[k]? with|some j=>Vp P j env σ|none=>True)/\Rc P p env σ ks
def Vq(P:Program)(f:AV)(args:List AV)(σ:aG)(Φ:AV->aG->Prop):Prop:=
 (∃n first cap res,f=.fn (.func n) first cap/\jg P n (first++args++cap) σ res/\Φ res σ)\/
 (∃n first cap R,f=.fn (.func n) first cap/\eY P n (first++args++cap) σ R/\∀res σ',R res σ'->Φ res σ')
def LI(P:Program)(j:J)(env:Env)(σ:aG)(Φ:AV->aG->Prop):Prop:=
 match j with
 |⟨d,i,g⟩=>match yv env g with
  |none=>False
  |some (c,wr)=>
   match i with
   | .pick ..=>False
   | .inv ..=>False
   | .alloc ..=>False
   | .call f as_=>g=none/\j7 true env (f::as_)/\Vq P (bu (ov env f)) (fu as_ env) σ Φ
   | .Ak T k bytes s x=>(match c with
    |true=>(match ex (.app T k bytes s x) (fun o=>bu (ov env o)) σ with
     |some (S,v,σ')=>j7 true env [s,x]/\S/\Φ (wrap wr true v) σ'
     |none=>False)
    |false=>wr=true/\Φ (wrap wr false .any) σ)
   | .Am T k n z ps=>(match c with
    |true=>(match ex (.jR true T k n z ps) (fun o=>bu (ov env o)) σ with
     |some (S,v,σ')=>j7 true env (ps.map (·.2.2))/\S/\Φ (wrap wr true v) σ'
     |none=>False)
    |false=>wr=true/\Φ (wrap wr false .any) σ)
   |i=>
    match ex i (fun o=>bu (ov env o)) σ with
    |some (S,v,σ')=>j7 c env i.os/\(c=true->S)/\Φ (wrap wr c v) σ'
    |none=>c=false/\wr=true/\Φ (wrap wr c .any) σ
def Ck(P:Program)(N:Nat)(rd:Option Nat)(p:List J)(ks live:List Nat)(K:e7):Nat->List J->Env->aG->Prop
 |0,l,env,σ=>Rc P p env σ ks/\Bt P N rd l live K env σ
 |_+1,[],_,_=>False
 |q+1,j::r,env,σ=>Rc P p env σ ks/\LI P j env σ fun v σ'=>Ck P N rd p ks live K q r (st j.d v env) σ'
theorem Gg{j:J}{env:Env}{σ:aG}(h:Vp P j env σ):∃v,One P N rd j env σ v/\∀s,j.d=some s->gt env s=v:=by
 obtain⟨d,i,g⟩:=j
 simp only[Vp]at h
 have fe:∀{v},qV d env v->∀s,d=some s->gt env s=v:=by
  rintro v h s rfl;exact h
 cases hg:yv env g with
 |none=>rw[hg]at h;exact h.elim
 |some p=>
 obtain⟨c,wr⟩:=p
 rw[hg]at h
 simp only at h
 by_cases Bm:i.pb=true
 ·have h':match ex i (fun o=>bu (ov env o)) σ with
   |some (S,v,σ')=>j7 c env i.os/\(c=true->S)/\qV d env (wrap wr c v)
   |none=>c=false/\wr=true/\qV d env (wrap wr c .any):=by
   cases i<;>first|exact h|simp[I.pb,I.plain]at Bm
  cases hex:ex i (fun o=>bu (ov env o)) σ with
  |none=>
   rw[hex]at h'
   obtain⟨h1,h2,h3⟩:=h'
   refine⟨wrap wr c .any,fun iP ops ix o ho hj dj lg n0 X β a w cn Q=>?_,fe h3⟩
   exact pd cn ho hj (by rw[kW lg];exact hg) fun hc=>by rw[h1]at hc;cases hc
  |some q=>
  obtain⟨S,v,σ'⟩:=q
  rw[hex]at h'
  obtain⟨iW,hS,gH⟩:=h'
  refine⟨wrap wr c v,fun iP ops ix o ho hj dj lg n0 X β a w cn Q=>?_,fe gH⟩
  have sN:∀o∈i.os,ov dj o=ov env o:=kK fun s hs=>lg s (by simp[xP,hs])
  have Cl:ex i (fun o=>bu (ov dj o)) σ=some (S,v,σ):=by
   have:=xO iP hex
   subst this
   rw[<-hex];exact pz fun o ho=>by rw[sN o ho]
  obtain⟨hd,bP,lS⟩:=iq hj
  exact pd cn ho hj (by rw[kW lg];exact hg) fun hc=>mi (N:=N) lS hd (kH cn lS (fO (jG sN iW) hc) Cl (hS hc))
 ·cases i<;>try(simp[I.pb,I.plain]at Bm;done)
  ·rename_i x y z
   simp only at h
   cases tj:oL c env x y z with
   |none=>rw[tj]at h;exact h.elim
   |some q=>
   obtain⟨S,b⟩:=q
   rw[tj]at h
   obtain⟨hS,gH⟩:=h
   refine⟨_,fun iP ops ix o ho hj dj lg n0 X β a w cn Q=>?_,fe gH⟩
   have sN:∀o∈I.os (.pick x y z),ov dj o=ov env o:=kK fun s hs=>lg s (by simp[xP,hs])
   simp only[I.os,aC,au,or_false,forall_eq_or_imp,forall_eq]at sN
   obtain⟨Zd,Ze,Zf⟩:=sN
   have SB:oL c dj x y z=some (S,b):=by unfold oL at tj|-;rw[Zd,Ze,Zf];exact tj
   obtain⟨hd,bP,lS⟩:=iq hj
   exact pd cn ho hj (by rw[kW lg];exact hg) fun hc=>mi (N:=N) lS hd (bQ cn.sr (yw cn lS SB hS hc) (.v _))
  ·exact h.elim
  ·rename_i f as_
   simp only at h
   obtain⟨iW,n,first,cap,res,hf,hp,Vr⟩:=h
   refine⟨wrap wr c res,fun iP ops ix o ho hj dj lg n0 X β a w cn Q=>?_,fe Vr⟩
   have sN:∀o∈I.os (.call f as_),ov dj o=ov env o:=kK fun s hs=>lg s (by simp[xP,hs])
   have vJ:=jG sN iW
   have I2:bu (ov dj f)=.fn (.func n) first cap:=by rw[sN f (by simp[I.os])];exact hf
   have Uy:fu as_ dj=fu as_ env:=nE fun o ho=>sN o (by simp[I.os,ho])
   obtain⟨hd,bP,lS⟩:=iq hj
   refine pd cn ho hj (by rw[kW lg];exact hg) fun hc=>?_
   obtain⟨lD,lE⟩:=hp hc
   obtain⟨xs,mF,qu,eA⟩:=pA cn lS (fO vJ hc) I2 lD
   rw[Uy]at mF qu
   refine⟨fun f _=>mD f,?_⟩
   rw[eK _ _ _ (kI lS),eA]
   refine⟨(fun mQ=>(by rw[kV]at mQ;cases mQ)),?_⟩
   have lC:=lE X β w xs cn.bd cn.sr mF qu
   refine(jZ lC).mono ?_
   rintro e w' ⟨x,rfl,hr,eX,hold,Ar⟩
   exact⟨x,res,σ,β,by rw[hd],⟨rfl,rfl⟩,cn.sr.same eX hold,hr.out,Ext.same eX hold Ar,Kp.same eX hold cn.sr⟩
  ·exact h.elim
theorem vK{p:List J}{env:Env}{σ:aG}:∀{ks:List Nat},Rc P p env σ ks->LT P N rd p ks env σ
 | [],_=>fun k hk=>absurd hk (au)
 |k::ks,h=>fun k' xu j hj=>by
  rcases aC.1 xu with rfl|xu
  ·have:=h.1
   rw[hj]at this
   exact Gg this
  ·exact vK h.2 k' xu j hj
theorem qW{X:Nat->Prop}{env:Env}{σ:aG}{β:gr}{a:Act}{w:World}{ops:Array Oper}{o:Oper}{j:J}{c wr:Bool}{i:Nat}{Φ Kn:AV->aG->Prop}{Q:Exit->Act->World->Prop}(cn:lY N n0 X env σ β a w)(ho:ops[i]?=some o)(hc:ui P N ops o j=true)(hg:yv env j.g=some (c,wr))(vG:c=true->o.wpIn (tg rd) 0 P a w (Y5 N X w β σ a j.d Kn) Q)(hK:∀v σ',Kn v σ'->Φ (wrap wr c v) σ')(ti:c=false->Φ (wrap wr c .any) σ):wpOpIn (tg rd) 0 P ops Q i (fun a' w'=>∃v σ' β',Φ v σ'/\lY N n0 X (st j.d v env) σ' β' a' w'/\Ext w β σ w' β' σ'/\Kp w (Xt X β σ) β σ w' (Xt X β' σ') β' σ') a w:=by
 obtain⟨hw,Ve,iP⟩:=mE cn hc hg
 obtain⟨hd,bP,_⟩:=iq hc
 cases c with
 |true=>
  simp only[wpOpIn,ho,hw,if_true]
  refine Oper.wpIn_mono (fun a' w' ⟨x,v',σ',β',ha,hk,hs,hr,he,kp⟩=>?_) (vG rfl)
  subst ha
  exact⟨_,σ',β',hK v' σ' hk,(cn.tr hs he kp).put (d:=j.d) (v:=wrap wr true v') bP (by
   cases wr with
   |false=>exact hr
   |true=>exact .when _ _ _ (fun _=>hr) (fun h=>by cases h)),he,kp⟩
 |false=>
  have h1:=pd (rd:=rd) (Q:=Q) (v:=.any) cn ho hc hg (fun h=>by cases h)
  exact wpOpIn_mono (fun a' w' ⟨β',h2,h3,h4⟩=>⟨_,σ,β',ti rfl,h2,h3,h4⟩) h1
theorem LJ{j:J}{env:Env}{σ:aG}{Φ:AV->aG->Prop}(h:LI P j env σ Φ):X5 P N rd j env σ Φ:=by
 obtain⟨d,i,g⟩:=j
 intro ops ix o ho hj dj lg n0 X β a w cn Q
 simp only[LI]at h
 cases hg:yv env g with
 |none=>rw[hg]at h;exact h.elim
 |some p=>
 obtain⟨c,wr⟩:=p
 rw[hg]at h
 simp only at h
 have xR:yv dj g=some (c,wr):=by rw[<-hg];exact kW lg
 obtain⟨hd,bP,lS⟩:=iq hj
 by_cases QY:∃T k bytes s x,i=.Ak T k bytes s x
 ·obtain⟨T,k,bytes,s,x,rfl⟩:=QY
  have sN:∀o∈(I.app T k bytes s x).os,ov dj o=ov env o:=kK fun s hs=>lg s (by simp only[xP];exact List.mem_append_right _ hs)
  cases c with
  |true=>
   simp only at h
   cases hex:ex (.app T k bytes s x) (fun o=>bu (ov env o)) σ with
   |none=>rw[hex]at h;exact h.elim
   |some q=>
   obtain⟨S,v,σ'⟩:=q
   rw[hex]at h
   obtain⟨iW,hS,gH⟩:=h
   have Cl:ex (.app T k bytes s x) (fun o=>bu (ov dj o)) σ=some (S,v,σ'):=by
    rw[<-hex];exact pz fun o ho=>by rw[sN o ho]
   exact qW cn ho hj xR (fun hc=>mi (N:=N) (rM lS) hd (kH cn (rM lS) (fO (jG sN iW) rfl) Cl hS)) (fun v' s ⟨e1,e2⟩=>by rw[e1,e2];exact gH) fun h=>by cases h
  |false=>
   simp only at h
   exact qW (Kn:=fun _ _=>False) cn ho hj xR (fun hc=>by cases hc) (fun _ _ h=>h.elim) fun _=>h.2
 by_cases Oc:∃T k n z ps,i=.Am T k n z ps
 ·obtain⟨T,k,n,z,ps,rfl⟩:=Oc
  have sN:∀o∈(I.jR true T k n z ps).os,ov dj o=ov env o:=kK fun s hs=>lg s (by simp only[xP];exact List.mem_append_right _ hs)
  cases c with
  |true=>
   simp only at h
   cases hex:ex (.jR true T k n z ps) (fun o=>bu (ov env o)) σ with
   |none=>rw[hex]at h;exact h.elim
   |some q=>
   obtain⟨S,v,σ'⟩:=q
   rw[hex]at h
   obtain⟨iW,hS,gH⟩:=h
   have Cl:ex (.jR true T k n z ps) (fun o=>bu (ov dj o)) σ=some (S,v,σ'):=by
    rw[<-hex];exact pz fun o ho=>by rw[sN o ho]
   exact qW cn ho hj xR (fun hc=>mi (N:=N) (rN lS) hd (kH cn (rN lS) (fO (jG sN iW) rfl) Cl hS)) (fun v' s ⟨e1,e2⟩=>by rw[e1,e2];exact gH) fun h=>by cases h
  |false=>
   simp only at h
   exact qW (Kn:=fun _ _=>False) cn ho hj xR (fun hc=>by cases hc) (fun _ _ h=>h.elim) fun _=>h.2
 by_cases Bm:i.pb=true
 ·have h':match ex i (fun o=>bu (ov env o)) σ with
   |some (S,v,σ')=>j7 c env i.os/\(c=true->S)/\Φ (wrap wr c v) σ'
   |none=>c=false/\wr=true/\Φ (wrap wr c .any) σ:=by
   cases i<;>first|exact h|(simp[I.pb,I.plain]at Bm;done)|exact absurd ⟨_,_,_,_,_,rfl⟩ QY|exact absurd ⟨_,_,_,_,_,rfl⟩ Oc
  have sN:∀o∈i.os,ov dj o=ov env o:=kK fun s hs=>lg s (by simp[xP,hs])
  cases hex:ex i (fun o=>bu (ov env o)) σ with
  |none=>
   rw[hex]at h'
   obtain⟨h1,h2,h3⟩:=h'
   exact qW (Kn:=fun _ _=>False) cn ho hj xR (fun hc=>by rw[h1]at hc;cases hc) (fun _ _ h=>h.elim) fun _=>h3
  |some q=>
  obtain⟨S,v,σ'⟩:=q
  rw[hex]at h'
  obtain⟨iW,hS,gH⟩:=h'
  have Cl:ex i (fun o=>bu (ov dj o)) σ=some (S,v,σ'):=by
   rw[<-hex];exact pz fun o ho=>by rw[sN o ho]
  cases c with
  |true=>
   exact qW cn ho hj xR (fun hc=>mi (N:=N) lS hd (kH cn lS (fO (jG sN iW) hc) Cl (hS hc))) (fun v' s ⟨e1,e2⟩=>by rw[e1,e2];exact gH) fun h=>by cases h
  |false=>
   have hw:=mE cn hj xR
   have O3:wr=true:=by cases wr with|false=>exact absurd (hw.2.1 rfl) (by simp)|true=>rfl
   subst O3
   have iP:=(hw.2.2 rfl).1
   have:=xO iP hex
   subst this
   have h1:=pd (rd:=rd) (Q:=Q) (v:=v) cn ho hj xR (fun h=>by cases h)
   exact wpOpIn_mono (fun a' w' ⟨β',h2,h3,h4⟩=>⟨_,_,β',gH,h2,h3,h4⟩) h1
 ·cases i<;>try(simp[I.pb,I.plain]at Bm;done)
  ·exact h.elim
  ·exact h.elim
  ·rename_i f as_
   simp only at h
   obtain⟨rfl,iW,h⟩:=h
   have hcw:c=true/\wr=false:=by simp[yv]at hg;exact⟨hg.1,hg.2⟩
   obtain⟨rfl,rfl⟩:=hcw
   have sN:∀o∈I.os (.call f as_),ov dj o=ov env o:=kK fun s hs=>lg s (by simp[xP,hs])
   have vJ:=jG sN iW
   have hof:ov dj f=ov env f:=sN f (by simp[I.os])
   have Uy:fu as_ dj=fu as_ env:=nE fun o ho=>sN o (by simp[I.os,ho])
   rcases h with⟨n,first,cap,res,hf,⟨lD,lE⟩,hr⟩|⟨n,first,cap,R,hf,⟨lD,lE⟩,hr⟩
   ·rw[<-hof]at hf
    refine qW (Kn:=fun v' s'=>v'=res/\s'=σ) cn ho hj xR (fun hc=>?_) (fun v' s' ⟨e1,e2⟩=>by rw[e1,e2];exact hr) fun h=>by cases h
    obtain⟨xs,mF,qu,eA⟩:=pA cn lS (fO vJ hc) hf lD
    rw[Uy]at mF qu
    refine⟨fun f _=>mD f,?_⟩
    rw[eK _ _ _ (kI lS),eA]
    refine⟨(fun mQ=>(by rw[kV]at mQ;cases mQ)),?_⟩
    have lC:=lE X β w xs cn.bd cn.sr mF qu
    refine(jZ lC).mono ?_
    rintro e w' ⟨x,rfl,hr,eX,hold,Ar⟩
    exact⟨x,res,σ,β,by rw[hd],⟨rfl,rfl⟩,cn.sr.same eX hold,hr.out,Ext.same eX hold Ar,Kp.same eX hold cn.sr⟩
   ·rw[<-hof]at hf
    refine qW (Kn:=R) cn ho hj xR (fun hc=>?_) (fun v' s' hR=>hr v' s' hR) fun h=>by cases h
    obtain⟨xs,mF,qu,eA⟩:=pA cn lS (fO vJ hc) hf lD
    rw[Uy]at mF qu
    refine⟨fun f _=>mD f,?_⟩
    rw[eK _ _ _ (kI lS),eA]
    refine⟨(fun mQ=>(by rw[kV]at mQ;cases mQ)),?_⟩
    have lC:=lE X β w xs cn.bd cn.sr mF qu
    refine(jZ lC).mono ?_
    rintro e w' ⟨x,r',σ',β',rfl,hR,nM,hr,he,hk⟩
    exact⟨x,r',σ',β',by rw[hd],hR,nM,hr,he,hk⟩
  ·exact h.elim
theorem Ek{j:J}{env:Env}{σ:aG}{Φ Ψ:AV->aG->Prop}(hm:∀v σ',Φ v σ'->Ψ v σ')(h:X5 P N rd j env σ Φ):X5 P N rd j env σ Ψ:=
 fun ops i o ho hj dj lg n0 X β a w cn Q=>wpOpIn_mono (fun a' w' ⟨v,σ',β',h1,h2⟩=>⟨v,σ',β',hm v σ' h1,h2⟩) (h ops i o ho hj dj lg n0 X β a w cn Q)
theorem El{p:List J}{ks live:List Nat}:∀{q:Nat} {l:List J} {env:Env} {σ:aG},Ck P N rd p ks live K q l env σ->O5 P N rd p ks (ZO P N rd live K) q l env σ
 |0,l,env,σ,h=>⟨vK h.1,aH h.2⟩
 |_+1,[],_,_,h=>h.elim
 |q+1,j::r,env,σ,h=>⟨vK h.1,Ek (fun v σ' h=>El h) (LJ h.2)⟩
def Vs(P:Program)(N:Nat)(rd:Option Nat)(p0:List J)(ks:List Nat)(q:Nat)(p l:List J)(live:List Nat)(K:e7)(env:Env)(σ:aG)(al:List Al):Prop:=
 (∀j∈p,(j.i.calm||xC j)=true)->Q_ P N rd p env σ al fun E σ'=>O5 P N rd p0 ks (ZO P N rd live K) q l E σ'
def Re(P:Program)(N:Nat)(rd:Option Nat)(f:AV)(args:List AV)(c wr:Bool)(d:Option Nat)(p0:List J)(ks:List Nat)(q:Nat)(p l:List J)(live:List Nat)(K:e7)(env:Env)(σ:aG)(al:List Al):Prop:=
 ∃n first cap res,f=.fn (.func n) first cap/\(c=true->jg P n (first++args++cap) σ res)/\Vs P N rd p0 ks q p l live K (st d (wrap wr c res) env) σ al
def Cm(P:Program)(N:Nat)(rd:Option Nat)(p0:List J)(ks:List Nat)(q:Nat):List J->List J->List Nat->e7->Env->aG->List Al->Prop
 | [],l,live,K,env,σ,al=>Ck P N rd p0 ks live K q l env (σ++wQ al)
 |⟨d,i,g⟩::r,l,live,K,env,σ,al=>
  match yv env g with
  |none=>False
  |some (c,wr)=>
   match i with
   | .pick x y z=>
    match oL c env x y z with
    |some (S,b)=>S/\Cm P N rd p0 ks q r l live K (st d (wrap wr c (.v (.bool b))) env) σ al
    |none=>False
   | .alloc T k z=>(match d,g with
    |some d,none=>z.length=k/\Cm P N rd p0 ks q r l live K (st (some d) (.ptr (σ.length+al.length) 0 1 0 0) env) σ (al++[⟨d,T,k,z⟩])
    |_,_=>False)
   | .call f as_=>j7 c env (f::as_)/\Re P N rd (bu (ov env f)) (fu as_ env) c wr d p0 ks q r l live K env σ al
   | .inv ..=>False
   |i=>
    match ex i (fun o=>bu (ov env o)) σ with
    |some (S,v,σ')=>j7 c env i.os/\(c=true->S)/\Cm P N rd p0 ks q r l live K (st d (wrap wr c v) env) σ al
    |none=>c=false/\wr=true/\Cm P N rd p0 ks q r l live K (st d (wrap wr c .any) env) σ al
theorem jO{p0:List J}{ks:List Nat}{q:Nat}:∀{p l:List J} {live:List Nat} {env:Env} {σ:aG} {al:List Al},Cm P N rd p0 ks q p l live K env σ al->Vs P N rd p0 ks q p l live K env σ al
 | [],l,live,env,σ,al,h=>fun _=>El h
 |⟨d,i,g⟩::r,l,live,env,σ,al,h=>by
  intro ff
  have Em:∀j∈r,(j.i.calm||xC j)=true:=fun j hj=>ff j (by simp[hj])
  have Vt:=ff ⟨d,i,g⟩ (by simp)
  simp only[Cm]at h
  cases hg:yv env g with
  |none=>rw[hg]at h;exact h.elim
  |some p=>
  obtain⟨c,wr⟩:=p
  rw[hg]at h
  simp only at h
  by_cases Bm:i.pb=true
  ·have Vu:i.calm=true:=by
    rcases dK _ _▸Vt with h|h
    ·exact h
    ·cases i<;>cases d<;>cases g<;>simp[xC,I.pb]at h Bm
   have h':match ex i (fun o=>bu (ov env o)) σ with
    |some (S,v,σ')=>j7 c env i.os/\(c=true->S)/\Cm P N rd p0 ks q r l live K (st d (wrap wr c v) env) σ al
    |none=>c=false/\wr=true/\Cm P N rd p0 ks q r l live K (st d (wrap wr c .any) env) σ al:=by
    cases i<;>first|exact h|simp[I.pb,I.plain]at Bm
   cases hex:ex i (fun o=>bu (ov env o)) σ with
   |none=>
    rw[hex]at h'
    obtain⟨h1,h2,h3⟩:=h'
    refine .inl ⟨wrap wr c .any,Vu,fun iP ops ix o ho hj dj lg n0 X β a w cn Q=>?_,jO h3 Em⟩
    exact pd cn ho hj (by rw[kW lg];exact hg) fun hc=>by rw[h1]at hc;cases hc
   |some q=>
   obtain⟨S,v,σ'⟩:=q
   rw[hex]at h'
   obtain⟨iW,hS,gH⟩:=h'
   refine .inl ⟨wrap wr c v,Vu,fun iP ops ix o ho hj dj lg n0 X β a w cn Q=>?_,jO gH Em⟩
   have sN:∀o∈i.os,ov dj o=ov env o:=kK fun s hs=>lg s (by simp[xP,hs])
   have Cl:ex i (fun o=>bu (ov dj o)) σ=some (S,v,σ):=by
    have:=xO iP hex
    subst this
    rw[<-hex];exact pz fun o ho=>by rw[sN o ho]
   obtain⟨hd,bP,lS⟩:=iq hj
   exact pd cn ho hj (by rw[kW lg];exact hg) fun hc=>mi (N:=N) lS hd (kH cn lS (fO (jG sN iW) hc) Cl (hS hc))
  ·cases i<;>try(simp[I.pb,I.plain]at Bm;done)
   ·rename_i x y z
    simp only at h
    cases tj:oL c env x y z with
    |none=>rw[tj]at h;exact h.elim
    |some q=>
    obtain⟨S,b⟩:=q
    rw[tj]at h
    obtain⟨hS,gH⟩:=h
    refine .inl ⟨_,rfl,fun iP ops ix o ho hj dj lg n0 X β a w cn Q=>?_,jO gH Em⟩
    have sN:∀o∈I.os (.pick x y z),ov dj o=ov env o:=kK fun s hs=>lg s (by simp[xP,hs])
    simp only[I.os,aC,au,or_false,forall_eq_or_imp,forall_eq]at sN
    obtain⟨Zd,Ze,Zf⟩:=sN
    have SB:oL c dj x y z=some (S,b):=by unfold oL at tj|-;rw[Zd,Ze,Zf];exact tj
    obtain⟨hd,bP,lS⟩:=iq hj
    exact pd cn ho hj (by rw[kW lg];exact hg) fun hc=>mi (N:=N) lS hd (bQ cn.sr (yw cn lS SB hS hc) (.v _))
   ·rename_i T k z
    cases d<;>cases g<;>simp only at h<;>try exact h.elim
    exact .inr ⟨⟨_,T,k,z⟩,rfl,h.1,jO h.2 Em⟩
   ·rename_i f as_
    simp only at h
    obtain⟨iW,n,first,cap,res,hf,hp,gH⟩:=h
    refine .inl ⟨wrap wr c res,rfl,fun iP ops ix o ho hj dj lg n0 X β a w cn Q=>?_,gH Em⟩
    have sN:∀o∈I.os (.call f as_),ov dj o=ov env o:=kK fun s hs=>lg s (by simp[xP,hs])
    have vJ:=jG sN iW
    have I2:bu (ov dj f)=.fn (.func n) first cap:=by rw[sN f (by simp[I.os])];exact hf
    have Uy:fu as_ dj=fu as_ env:=nE fun o ho=>sN o (by simp[I.os,ho])
    obtain⟨hd,bP,lS⟩:=iq hj
    refine pd cn ho hj (by rw[kW lg];exact hg) fun hc=>?_
    obtain⟨lD,lE⟩:=hp hc
    obtain⟨xs,mF,qu,eA⟩:=pA cn lS (fO vJ hc) I2 lD
    rw[Uy]at mF qu
    refine⟨fun f _=>mD f,?_⟩
    rw[eK _ _ _ (kI lS),eA]
    refine⟨(fun mQ=>(by rw[kV]at mQ;cases mQ)),?_⟩
    have lC:=lE X β w xs cn.bd cn.sr mF qu
    refine(jZ lC).mono ?_
    rintro e w' ⟨x,rfl,hr,eX,hold,Ar⟩
    exact⟨x,res,σ,β,by rw[hd],⟨rfl,rfl⟩,cn.sr.same eX hold,hr.out,Ext.same eX hold Ar,Kp.same eX hold cn.sr⟩
   ·exact h.elim
theorem uq{ks:List Nat}{q:Nat}{X:Nat->Prop}{env:Env}{σ:aG}{β:gr}{a:Act}{w:World}{ops:Array Oper}{p l:List J}{live:List Nat}{Z:List J->Env->aG->Prop}(mw:Ci P N ops ks q p l=true)(iP:∀j∈p,(j.i.calm||xC j)=true)(h:Q_ P N rd p env σ [] fun E σ'=>O5 P N rd p ks Z q l E σ')(hZ:∀(listed:Array Bool) (E:Env) (σ:aG) (X:Nat->Prop) (β:gr) (a:Act) (w:World) (Q:Exit->Act->World->Prop),listed.size=ops.size->(∀k,k<p.length+q->listed.getD k true=true)->(∀k,p.length+q<=k->k<ops.size->listed.getD k true=false)->(∀(k:Nat) (o:Oper),ops[k]?=some o->listed.getD k true=true->∀e∈kJ o,listed.getD e true=true)->lY N n0 X E σ β a w->Z (l.drop q) E σ->(∀e a2 w2,nC N n0 X w β σ (Kl live K) e a2 w2->Q e a2 w2)->wpAnyIn (tg rd) 0 P .any ops Q (l.length-q) listed a w)(cn:lY N n0 X env σ β a w):wpAnyIn (tg rd) 0 P .any ops (nC N n0 X w β σ (Kl live K)) ops.size (Array.replicate ops.size false) a w:=by
 simp only[Ci,ak,beq_iff_eq,decide_eq_true_eq]at mw
 obtain⟨⟨⟨⟨⟨⟨⟨⟨wR,D7⟩,ow⟩,mQ⟩,sK⟩,nj⟩,qv⟩,Gh⟩,SC⟩:=mw
 rw[bt]at mQ nj qv Gh SC
 have sO:∀(i:Nat) (j:J),p[i]?=some j->∃o,ops[i]?=some o/\ui P N ops o j=true/\(∀k∈kJ o,k<i)/\∀(k:Nat) (jk:J) s,p[k]?=some jk->jk.d=some s->s∈xP j->k∈kJ o/\xC jk=false:=by
  intro i j hj
  have hi:i<p.length:=(ai.1 hj).1
  obtain⟨i',o,km,ho,Jc⟩:=uk D7 i j hj
  rw[cH hi]at km;injection km with km;subst km
  have h1:=nj i (bc.2 hi)
  rw[ho,hj]at h1
  simp only[ak,bt,decide_eq_true_eq]at h1
  refine⟨o,ho,Jc,h1.1,fun k jk s hk hs hm=>?_⟩
  have h2:=h1.2 k (bc.2 (ai.1 hk).1)
  rw[hk]at h2
  simp only[hs,dK,ak,db,eF,decide_eq_true_eq,decide_eq_false_iff_not]at h2
  exact h2.resolve_left fun hn=>hn hm
 have yB:∀i,p.length<=i->i<ops.size->∃o,ops[i]?=some o/\(∀k∈kJ o,k<i)/\∀k,k<i->k<p.length+q->(k∈ks/\i<p.length+q)\/dep ops 9 i k=true:=by
  intro i h1 h2
  have h3:=qv i (by rw[er];omega)
  cases ho:ops[i]? with
  |none=>rw[ho]at h3;simp at h3
  |some o=>
   rw[ho]at h3
   simp only[ak,bt,decide_eq_true_eq,dK,eF]at h3
   exact⟨o,rfl,h3.1,fun k hk hkq=>(h3.2 k (bc.2 hk)).elim (fun h=>h.elim (fun h=>by omega) .inl) .inr⟩
 have qT:∀(i:Nat) (o:Oper),ops[i]?=some o->∀k∈kJ o,k<i:=by
  intro i o ho
  have bP:=(aZ.1 ho).1
  rcases cm i p.length with h1|h1
  ·obtain⟨o',dN,_,h2,_⟩:=sO i _ (ae h1)
   rw[ho]at dN;injection dN with dN;subst dN;exact h2
  ·obtain⟨o',dN,h2,_⟩:=yB i h1 bP
   rw[ho]at dN;injection dN with dN;subst dN;exact h2
 have O7:=qQ sK
 have sM:∀(i k:Nat) (ji jk:J) s,p[i]?=some ji->p[k]?=some jk->ji.d=some s->jk.d=some s->i=k:=by
  intro i k ji jk s hi hk h1 h2
  obtain⟨km,rfl⟩:=ai.1 hi
  obtain⟨xu,rfl⟩:=ai.1 hk
  have hp:=de.1 O7
  rcases gO i k with hh|hh|hh
  ·exact absurd (by rw[cC,cC,h1,h2]) (hp i k (by simpa using km) (by simpa using xu) hh)
  ·exact hh
  ·exact absurd (by rw[cC,cC,h1,h2]) (hp k i (by simpa using xu) (by simpa using km) hh)
 have Cn:∀k∈ks,∃j,p[k]?=some j/\j.i.calm=true:=by
  intro k hk
  have:=Gh k hk
  cases hj:p[k]? with
  |none=>rw[hj]at this;simp at this
  |some j=>rw[hj]at this;exact⟨j,rfl,this⟩
 have O8:∀t,t<q->∀j,l[t]?=some j->∀k∈ks,∀jk,p[k]?=some jk->jk.d≠j.d/\∀s,jk.d=some s->s∈xP j->dep ops 9 (p.length+t) k=true:=by
  intro t ht j hj k hk jk Jf
  have h1:=SC t (bc.2 ht)
  rw[hj]at h1
  simp only[bt]at h1
  have h2:=h1 k hk
  rw[Jf]at h2
  simp only[ak,bne_iff_ne,ne_eq]at h2
  refine⟨h2.1,fun s hs hm=>?_⟩
  have h3:=h2.2
  rw[hs]at h3
  simp only[dK,db,eF,decide_eq_false_iff_not]at h3
  exact h3.resolve_left fun hn=>hn hm
 obtain⟨E,hz,hE,hjE,Cd⟩:=xQ p env [] O7 mQ
  (fun i k j jk hi hk AA s hs hm=>by
   obtain⟨o,ho,_,h1,h2⟩:=sO i j hi
   have:=h1 k (h2 k jk s hk hs hm).1
   omega) h
 generalize Vv:p.filterMap nD=tp at hz Cd
 rw[aK]at hz
 have tq:∀q,q∈tp↔∃(k:Nat) (j:J),p[k]?=some j/\nD j=some q:=by
  intro q
  rw[<-Vv,List.mem_filterMap]
  constructor
  ·rintro⟨j,hj,hq⟩
   obtain⟨k,hk⟩:=dJ hj
   exact⟨k,j,hk,hq⟩
  ·rintro⟨k,j,hk,hq⟩
   exact⟨j,ao hk,hq⟩
 let Hd:Array Bool->Nat->Prop:=fun listed s=>AB p listed s\/∃q∈tp,q.d=s
 have rU:∀(listed:Array Bool) (i k:Nat),listed.getD k true=true->(listed.setIfInBounds i true).getD k true=true:=by
  intro listed i k hk
  by_cases AA:i=k
  ·subst AA
   by_cases bP:i<listed.size
   ·simp[af,bP]
   ·simp[af,bP]
  ·rw[getD_set_ne true AA];exact hk
 have En:∀(listed:Array Bool) (a':Act) (w':World) (β':gr) (rs:List (Nat×Nat)),(∀(k:Nat) (j:J) (q:Al),p[k]?=some j->nD j=some q->listed.getD k true=true)->
  lY N n0 (fun b=>X b\/b∈rs.map (·.2)) (pB rs (pe (Hd listed) E)) σ β' a' w'->Ext w β σ w' β' σ->Kp w (Xt X β σ) β σ w' (Xt (fun b=>X b\/b∈rs.map (·.2)) β' σ) β' σ->
  (∀d b,(d,b)∈rs->w.heap.size<=b/\∃(k:Nat) (j:J) (q:Al),p[k]?=some j/\nD j=some q/\q.d=d/\listed.getD k true=true/\(∀x∈q.z,scalar x=true)/\w'.heap[b]?=some (.cells q.z.toArray q.T (0,0)))->
  (rs.map (·.2)).Nodup->(∀(k:Nat) (j:J) (q:Al),p[k]?=some j->nD j=some q->listed.getD k true=true->q.d∈rs.map (·.1))->
  ∃DW,lY N n0 X (pe (AB p listed) E) (σ++wQ tp) DW a' w'/\Ext w β σ w' DW (σ++wQ tp)/\Kp w (Xt X β σ) β σ w' (Xt X DW (σ++wQ tp)) DW (σ++wQ tp):=by
  intro listed a' w' β' rs LK fV he kp DT Oh KT
  let bs:List Nat:=tp.map fun q=>((rs.find? fun p=>p.1==q.d).map (·.2)).getD 0
  have Vw:∀(n:Nat) (q:Al) (b:Nat),tp[n]?=some q->bs[n]?=some b->(q.d,b)∈rs:=by
   intro n q b hq hb
   simp only[bs,aV,hq,aY,ah]at hb
   obtain⟨k,j,hk,sL⟩:=(tq q).1 (ao hq)
   have:=KT k j q hk sL (LK k _ _ hk sL)
   obtain⟨pr,SD,Zg⟩:=aO.1 this
   cases hf:rs.find? fun p=>p.1==q.d with
   |none=>
    rw[List.find?_eq_none]at hf
    exact absurd Zg (by simpa using hf pr SD)
   |some p2=>
    rw[hf]at hb
    have h1:=List.mem_of_find?_eq_some hf
    have h2:=List.find?_some hf
    simp only[aY,bV]at hb
    obtain⟨c,d⟩:=p2
    simp only[beq_iff_eq]at h2 hb
    subst h2;subst hb;exact h1
  have hlen:bs.length=tp.length:=by simp[bs]
  have kF:∀n,n<bs.length->∃q,tp[n]?=some q:=fun n hn=>⟨_,ae (by omega)⟩
  have LM:∀b∈bs,∃d,(d,b)∈rs:=by
   intro b hb
   obtain⟨n,hn⟩:=dJ hb
   obtain⟨q,hq⟩:=kF n (ai.1 hn).1
   exact⟨_,Vw n q b hq hn⟩
  have F':=de.1 Oh
  have Zh:bs.Nodup:=by
   refine de.2 fun n n' hn yh bP=>?_
   intro e
   obtain⟨q,hq⟩:=kF n hn
   obtain⟨q',I5⟩:=kF n' yh
   have m1:=Vw n q _ hq (ae hn)
   have m2:=Vw n' q' _ I5 (ae yh)
   rw[<-e]at m2
   have XZ:q.d=q'.d:=by
    obtain⟨i1,Zi⟩:=dJ m1
    obtain⟨i2,hi2⟩:=dJ m2
    obtain⟨l1,e1⟩:=ai.1 Zi
    obtain⟨l2,e2⟩:=ai.1 hi2
    rcases gO i1 i2 with hh|hh|hh
    ·exact absurd (by rw[cC,cC,e1,e2]) (F' i1 i2 (by simpa using l1) (by simpa using l2) hh)
    ·subst hh;rw[e1]at e2;injection e2
    ·exact absurd (by rw[cC,cC,e1,e2]) (F' i2 i1 (by simpa using l2) (by simpa using l1) hh)
   have hs:=(Ce p).nodup O7
   rw[Vv]at hs
   have hs2:=de.1 hs
   have a1:tp[n]'(by omega)=q:=by obtain⟨_,e⟩:=ai.1 hq;exact e
   have a2:tp[n']'(by omega)=q':=by obtain⟨_,e⟩:=ai.1 I5;exact e
   exact hs2 n n' (by simp;omega) (by simp;omega) bP (by rw[cC,cC,a1,a2,XZ])
  obtain⟨hs2,K2⟩:=Vi (X:=X) (al:=tp) (bs:=bs) fV.sr (fun b hb=>.inl hb) (fun b hb=>by obtain⟨d,hd⟩:=LM b hb;exact .inr (aO.2 ⟨_,hd,rfl⟩))
   (fun b hb hx=>by obtain⟨d,hd⟩:=LM b hb;have:=(DT d b hd).1;have:=cn.bd b hx;omega) hlen Zh (fun n q b hq hb=>by
    obtain⟨_,k,j,q',hk,sL,hd,_,xt,hc⟩:=DT _ b (Vw n q b hq hb)
    obtain⟨k2,j2,me,LN⟩:=(tq q).1 (ao hq)
    have h1:j.d=some q'.d:=by rw[kh sL]
    have h2:j2.d=some q.d:=by rw[kh LN]
    have:=sM k k2 j j2 _ hk me h1 (by rw[h2,hd])
    subst this
    rw[hk]at me;injection me with me;subst me
    rw[sL]at LN;injection LN with LN;subst LN
    exact⟨(Cd n q' hq).1,xt,hc⟩)
  have jV:lY N n0 X (pe (AB p listed) E) (σ++wQ tp) (HY β' σ.length bs) a' w':=by
   refine⟨fV.sz,?_,fun b hb=>fV.bd b (.inl hb),fV.nb,hs2,fun s=>?_⟩
   ·obtain⟨ms,Zj,Zk,hm⟩:=fV.df
    exact⟨ms,Zj,Zk,fun r hr=>let⟨h1,h2,h3⟩:=hm r hr;⟨h1,fun hx=>h2 (K2.Aj r (ib h1) hx),h3⟩⟩
   ·have hv:=fV.ev s
    by_cases hs:∃q∈tp,q.d=s
    ·obtain⟨q,hq,rfl⟩:=hs
     obtain⟨n,hn⟩:=dJ hq
     obtain⟨_,hg⟩:=Cd n q hn
     obtain⟨k,j,hk,sL⟩:=(tq q).1 hq
     obtain⟨_,b,hb,KS⟩:=tm (E:=pe (Hd listed) E) (E':=[]) (KT k j q hk sL (LK k _ _ hk sL))
     rw[KS]at hv
     have hv:=hv.dz
     rw[(fI E).2 (show¬AB p listed q.d from fun⟨k2,j2,me,X7,uo⟩=>by
      have:=sM k2 k j2 j q.d me hk X7 (by rw[kh sL])
      subst this
      rw[LK k2 j q hk sL]at uo;cases uo),hg,hv]
     have Oi:n<bs.length:=by rw[hlen];exact(ai.1 hn).1
     have dQ:aG.at (σ++wQ tp) (σ.length+n) 0=some q.ob:=by
      unfold aG.at
      rw[bE (by omega),wQ,aV,show σ.length+n-σ.length=n by omega,hn]
      rfl
     simp only[bM,br]
     have hbb:bs[n]?=some b:=by
      have m1:=Vw n q _ hn (ae Oi)
      have:bs[n]=b:=by
       obtain⟨_,k1,j1,q1,rQ,aa3,hd1,_,_,_⟩:=DT _ _ m1
       simp only[bs,cC]
       have ha:tp[n]'(by omega)=q:=by obtain⟨_,e⟩:=ai.1 hn;exact e
       rw[ha]
       have hf:(rs.find? fun p=>p.1==q.d)=some (q.d,b):=Eg hb KS
       rw[hf];rfl
      rw[ae Oi,this]
     refine .ptr _ _ _ _ _ _ rfl (by rw[aM,wQ,aF];have:=(ai.1 hn).1;omega) (fun o ho=>?_) fun o ho _=>?_
     ·rw[dQ]at ho;injection ho with ho;subst ho;simp[Al.ob]
     ·rw[dQ]at ho;injection ho with ho;subst ho
      exact⟨b,by rw[pW];exact hbb,by simp⟩
    ·have hnr:s∉rs.map (·.1):=fun hm=>by
      obtain⟨pr,SD,rfl⟩:=aO.1 hm
      obtain⟨_,k,j,q,hk,sL,hd,_⟩:=DT pr.1 pr.2 SD
      exact hs ⟨q,(tq q).2 ⟨k,j,hk,sL⟩,hd⟩
     by_cases hh:AB p listed s
     ·rw[(fI E).1 hh];exact .any _
     ·rw[kX hnr,(fI E).2 (fun h2=>h2.elim hh hs)]at hv
      rw[(fI E).2 hh]
      exact hv.tr K2
  have Gi:Ext w β σ w' (HY β' σ.length bs) (σ++wQ tp):=⟨he.size,he.wJ,fun b hb=>(Bw hb).elim (he.new b) fun hb=>by
   obtain⟨d,hd⟩:=LM b hb;exact .inr (DT d b hd).1,he.io⟩
  exact⟨_,jV,Gi,kp.trans K2⟩
 have key:∀(u:Nat) (listed:Array Bool) (a':Act) (w':World) (β':gr) (rs:List (Nat×Nat)),vH p listed=u->listed.size=ops.size->(∀k,p.length<=k->k<ops.size->listed.getD k true=false)->(∀(k:Nat) (o:Oper),ops[k]?=some o->listed.getD k true=true->∀e∈kJ o,listed.getD e true=true)->
  lY N n0 (fun b=>X b\/b∈rs.map (·.2)) (pB rs (pe (Hd listed) E)) σ β' a' w'->Ext w β σ w' β' σ->Kp w (Xt X β σ) β σ w' (Xt (fun b=>X b\/b∈rs.map (·.2)) β' σ) β' σ->
  (∀d b,(d,b)∈rs->w.heap.size<=b/\∃(k:Nat) (j:J) (q:Al),p[k]?=some j/\nD j=some q/\q.d=d/\listed.getD k true=true/\(∀x∈q.z,scalar x=true)/\w'.heap[b]?=some (.cells q.z.toArray q.T (0,0)))->
  (rs.map (·.2)).Nodup->(∀(k:Nat) (j:J) (q:Al),p[k]?=some j->nD j=some q->listed.getD k true=true->q.d∈rs.map (·.1))->
  wpAnyIn (tg rd) 0 P .any ops (nC N n0 X w β σ (Kl live K)) (u+l.length) listed a' w':=by
  intro u
  induction u with
  |zero=>
   intro listed a' w' β' rs hu eX ti Gf fV he kp DT Oh KT
   by_cases Gj:∀k,k<p.length->k∉ks->listed.getD k true=true
   ·obtain⟨DW,jV,Gi,LO⟩:=En listed a' w' β' rs (fun k j qq hk hq=>Gj k (ai.1 hk).1 fun vg=>by
     obtain⟨j2,h1,h2⟩:=Cn k vg
     rw[hk]at h1;injection h1 with h1;subst h1
     rw[nO h2]at hq;cases hq) fV he kp DT Oh KT
    refine Cg (q0:=q) wR D7 ow qT sO sM mQ yB hZ (fun k hk=>by obtain⟨j,h1,_⟩:=Cn k hk;exact(ai.1 h1).1) (fun k hk j hj=>by
     obtain⟨j2,h1,h2⟩:=Cn k hk
     rw[hj]at h1;injection h1 with h1;subst h1;exact h2) O8 _ 0 0 q listed E _ X DW a' w' _ rfl (by omega) (by omega) hu eX Gj (fun k rQ me=>?_) Gf jV (by simpa using hz) fun e a2 w2 hp=>nC.trans Gi LO hp
    rw[ti k rQ me];simp;omega
   ·exact absurd (fun k hk _=>by
     have:=gh.1 hu k (bc.2 hk)
     simpa using this) Gj
  |succ u ih=>
   intro listed a' w' β' rs hu eX ti Gf fV he kp DT Oh KT
   have AD:∀k,k<ops.size->listed.getD k false=listed.getD k true:=fun k hk=>by
    simp[af,show k<listed.size by omega]
   by_cases Gj:∀k,k<p.length->k∉ks->listed.getD k true=true
   ·obtain⟨DW,jV,Gi,LO⟩:=En listed a' w' β' rs (fun k j qq hk hq=>Gj k (ai.1 hk).1 fun vg=>by
     obtain⟨j2,h1,h2⟩:=Cn k vg
     rw[hk]at h1;injection h1 with h1;subst h1
     rw[nO h2]at hq;cases hq) fV he kp DT Oh KT
    refine Cg (q0:=q) wR D7 ow qT sO sM mQ yB hZ (fun k hk=>by obtain⟨j,h1,_⟩:=Cn k hk;exact(ai.1 h1).1) (fun k hk j hj=>by
     obtain⟨j2,h1,h2⟩:=Cn k hk
     rw[hj]at h1;injection h1 with h1;subst h1;exact h2) O8 _ 0 (u+1) q listed E _ X DW a' w' _ rfl (by omega) (by omega) hu eX Gj (fun k rQ me=>?_) Gf jV (by simpa using hz) fun e a2 w2 hp=>nC.trans Gi LO hp
    rw[ti k rQ me];simp;omega
   obtain⟨kb,X8,Zl,Zm⟩:∃k,k<p.length/\k∉ks/\listed.getD k true=false:=by
    refine cW fun hn=>Gj fun k hk hkn=>?_
    cases hv:listed.getD k true with
    |true=>rfl
    |false=>exact absurd ⟨k,hk,hkn,hv⟩ hn
   obtain⟨k0,Q1,rQ,me⟩:=yA (p:=p) (listed:=listed) (by omega)
   have QU:k0∈Region.ready .any ops listed:=by
    obtain⟨j,hj⟩:∃j,p[k0]?=some j:=⟨_,ae Q1⟩
    obtain⟨o,ho,_,h1,_⟩:=sO k0 j hj
    refine mem_ready.2 ⟨rQ,o,ho,fun e he hb=>?_⟩
    have:=h1 _ (uj he hb)
    rw[AD _ (by omega)]
    exact me _ this
   rw[show u+1+l.length=(u+l.length)+1 by omega]
   refine⟨fun e=>by rw[e]at QU;exact absurd QU (au),fun i hi=>?_⟩
   obtain⟨h0,o,ho,ff⟩:=mem_ready.1 hi
   have bP:=(aZ.1 ho).1
   have Je:∀e∈kJ o,listed.getD e true=true:=fun e he=>by
    obtain⟨ed,Sw,hb,rfl⟩:=oN he
    have h3:=ff ed Sw hb
    have:=qT i o ho _ he
    rw[AD _ (by omega)]at h3;exact h3
   have Og:i<p.length:=by
    refine cW fun Og=>?_
    obtain⟨o',dN,_,h2⟩:=yB i (by omega) bP
    rw[ho]at dN;injection dN with dN;subst dN
    have:=pX Gf 9 i kb o ho (fun e he=>Je e he) ((h2 kb (by omega) (by omega)).resolve_left fun hx=>Zl hx.1)
    rw[Zm]at this;cases this
   obtain⟨j,hj⟩:∃j,p[i]?=some j:=⟨_,ae Og⟩
   obtain⟨o',dN,Jc,h1,h2⟩:=sO i j hj
   rw[ho]at dN;injection dN with dN;subst dN
   have Zn:j∈p:=ao hj
   have Ee:=aa (iP j Zn) (mQ j Zn)
   obtain⟨s0,CU⟩:=dy.1 Ee.2
   have nV:(listed.setIfInBounds i true).getD i true=true:=by simp[af,show i<listed.size by omega]
   have Ej:vH p (listed.setIfInBounds i true)=u:=by have:=Ef (p:=p) Og (by omega) h0;omega
   have LG:∀(k:Nat) (o:Oper),ops[k]?=some o->(listed.setIfInBounds i true).getD k true=true->∀e∈kJ o,(listed.setIfInBounds i true).getD e true=true:=by
    intro k ok lO LD e he
    by_cases AE:i=k
    ·subst AE
     rw[ho]at lO;injection lO with lO;subst lO
     exact rU _ _ _ (Je e he)
    ·rw[getD_set_ne true AE]at LD
     exact rU _ _ _ (Gf k ok lO LD e he)
   have Vx:∀k,p.length<=k->k<ops.size->(listed.setIfInBounds i true).getD k true=false:=fun k rQ me=>by
    rw[getD_set_ne true (by omega)];exact ti k rQ me
   have hHd:∀s,s≠s0->¬Hd (listed.setIfInBounds i true) s->¬Hd listed s:=by
    rintro s wS hh (⟨k,jk,hk,xz,uo⟩|hq)
    ·refine hh (.inl ⟨k,jk,hk,xz,?_⟩)
     rw[getD_set_ne true]
     ·exact uo
     ·intro e;subst e
      rw[hj]at hk;injection hk with hk;subst hk
      rw[CU]at xz;injection xz with xz;exact wS xz.symm
    ·exact hh (.inr hq)
   have Rf:∀s,s≠s0->gt (pB rs (pe (Hd (listed.setIfInBounds i true)) E)) s=.any\/gt (pB rs (pe (Hd (listed.setIfInBounds i true)) E)) s=gt (pB rs (pe (Hd listed) E)) s:=by
    intro s wS
    by_cases hm:s∈rs.map (·.1)
    ·exact .inr (tm hm).1
    ·rw[kX hm,kX hm]
     by_cases hh:Hd (listed.setIfInBounds i true) s
     ·exact .inl ((fI E).1 hh)
     ·exact .inr (by rw[(fI E).2 hh,(fI E).2 (hHd s wS hh)])
   have Vy:∀d b,(d,b)∈rs->∃(k:Nat) (j:J) (q:Al),p[k]?=some j/\nD j=some q/\q.d=d/\listed.getD k true=true:=fun d b hm=>by
    obtain⟨_,k,j,q,h1,h2,h3,h4,_⟩:=DT d b hm;exact⟨k,j,q,h1,h2,h3,h4⟩
   have Vz:s0∉rs.map (·.1):=fun hm=>by
    obtain⟨pr,SD,e⟩:=aO.1 hm
    obtain⟨k,jk,q,hk,sL,hd,hl⟩:=Vy pr.1 pr.2 SD
    have:i=k:=sM i k j jk s0 hj hk CU (by rw[kh sL,hd,e])
    subst this
    rw[h0]at hl;cases hl
   by_cases lC:j.i.calm=true
   ·obtain⟨v,jN,hv⟩:=hjE j Zn lC
    have Zo:∀q∈tp,q.d≠s0:=fun q hq e=>by
     obtain⟨k,jk,hk,sL⟩:=(tq q).1 hq
     have:i=k:=sM i k j jk s0 hj hk CU (by rw[kh sL,e])
     subst this
     rw[hj]at hk;injection hk with hk;subst hk
     rw[nO lC]at sL;cases sL
    have sG:=jN lC ops i o ho Jc (pB rs (pe (Hd listed) E)) (fun s hs=>by
     have hnq:∀q∈tp,q.d≠s:=fun q hq e=>by
      obtain⟨k,jk,hk,sL⟩:=(tq q).1 hq
      have:=(h2 k jk s hk (by rw[kh sL,e]) hs).2
      rw[kh sL]at this
      cases this
     rw[kX fun hm=>by
      obtain⟨pr,SD,e⟩:=aO.1 hm
      obtain⟨k,jk,q,hk,sL,hd,_⟩:=Vy pr.1 pr.2 SD
      exact hnq q ((tq q).2 ⟨k,jk,hk,sL⟩) (hd.trans e)]
     refine(fI E).2 ?_
     rintro(⟨k,jk,hk,xz,uo⟩|⟨q,hq,e⟩)
     ·obtain⟨e,he,hb,hon⟩:=oN (h2 k jk s hk xz hs).1
      have:=ff e he hb
      rw[hon,AD k (by have:=(ai.1 hk).1;omega),uo]at this
      cases this
     ·exact hnq q hq e) n0 _ β' a' w' fV (nC N n0 X w β σ (Kl live K))
    refine wpOpIn_mono (fun a2 w2 ⟨DW,jV,qU,H3⟩=>?_) sG
    refine ih _ a2 w2 DW rs Ej (by simpa using eX) Vx LG (jV.Gc fun s=>?_) (he.trans qU) (kp.trans H3) (fun d b hm=>?_) Oh (fun k jk q hk sL hl=>?_)
    ·by_cases wS:s=s0
     ·subst wS
      refine .inr ?_
      rw[kX Vz,(fI E).2,hv s CU,CU]
      ·simp[st,gt]
      ·rintro(⟨k,jk,hk,xz,uo⟩|⟨q,hq,e⟩)
       ·have:=sM i k j jk s hj hk CU xz
        subst this
        rw[nV]at uo;cases uo
       ·exact Zo q hq e
     ·have Zp:gt (st j.d v (pB rs (pe (Hd listed) E))) s=gt (pB rs (pe (Hd listed) E)) s:=by
       rw[CU];simp only[st,gt];rw[show(s0==s)=false by simpa using fun e=>wS e.symm];rfl
      rw[Zp]
      exact Rf s wS
    ·obtain⟨g0,k,jk,q,g1,g2,g3,g4,g5,g6⟩:=DT d b hm
     refine⟨g0,k,jk,q,g1,g2,g3,rU _ _ _ g4,g5,?_⟩
     rw[qU.wJ b (ib g6) fun AG=>?_]
     ·exact g6
     ·obtain⟨f,i,o,ho,hb⟩:=AG
      exact fV.sr.xJ f i o b ho hb (.inr (aO.2 ⟨_,hm,rfl⟩))
    ·by_cases AE:i=k
     ·subst AE
      rw[hj]at hk;injection hk with hk;subst hk
      rw[nO lC]at sL;cases sL
     ·rw[getD_set_ne true AE]at hl
      exact KT k jk q hk sL hl
   ·
    have VA:xC j=true:=by
     rcases dK _ _▸Ee.1 with h|h
     ·exact absurd h lC
     ·exact h
    obtain⟨q,sL⟩:∃q,nD j=some q:=by
     obtain⟨d,ii,g⟩:=j
     cases d<;>cases ii<;>cases g<;>simp[xC]at VA
     exact⟨_,rfl⟩
    have hjs:=kh sL
    have hqd:q.d=s0:=by rw[hjs]at CU;injection CU
    subst hjs
    obtain⟨hw,_,_⟩:=mE fV Jc (c:=true) (wr:=false) rfl
    obtain⟨hd,Zq,lS⟩:=iq Jc
    obtain⟨w2,eA,hh,xt,Ar⟩:=Jd lS w'
    simp only[wpOpIn,ho,hw,if_true]
    refine⟨fun f _=>mD f,?_⟩
    rw[eK _ _ _ (kI lS),eA]
    show wpAnyIn _ _ _ _ _ _ _ _ (a'.put o.dst _) w2
    rw[hd]
    have aa4:w2.heap.size=w'.heap.size+1:=by rw[hh];simp
    have K2:Kp w' (Xt (fun b=>X b\/b∈rs.map (·.2)) β' σ) β' σ w2 (Xt (fun b=>X b\/b∈((q.d,w'.heap.size)::rs).map (·.2)) β' σ) β' σ:=
     {size:=iL hh
      I1:=fun b o hc _ _=>jF hh (ib hc)
      Aj:=fun b hb hx=>hx.elim (fun h=>h.elim (fun h=>.inl (.inl h)) fun h=>by
       rcases aC.1 h with e|h
       ·simp only at e;omega
       ·exact .inl (.inr h)) .inr
      len:=ar _
      wI:=fun f i o' _ ho=>⟨o',ho,rfl,ar _,fun _=>⟨rfl,fun b hb c T hc=>⟨c,T,by rw[jF hh (ib hc)];exact hc,rfl⟩⟩⟩}
    have hs2:dG w2 (fun b=>X b\/b∈((q.d,w'.heap.size)::rs).map (·.2)) β' σ:=
     ⟨fV.sr.inj,fun f i o b ho hb hx=>hx.elim (fun h=>fV.sr.xJ f i o b ho hb (.inl h)) fun h=>by
      rcases aC.1 h with e|h
      ·have:=fV.sr.gT ⟨f,i,o,ho,hb⟩
       simp only at e;omega
      ·exact fV.sr.xJ f i o b ho hb (.inr h),
      fun f i o ho=>(fV.sr.obj f i o ho).tr K2 fun b hb=>jF hh (fV.sr.gT ⟨f,i,o,ho,hb⟩)⟩
    have fe:∀b,b<w'.heap.size->w2.heap[b]?=w'.heap[b]?:=fun b hb=>jF hh hb
    refine ih _ _ w2 β' ((q.d,w'.heap.size)::rs) Ej (by simpa using eX) Vx LG ⟨by simp[Act.put,fV.sz],?_,fun b hb=>?_,bT fV.nb (iL hh),hs2,fun s=>?_⟩ (he.trans (Ext.same (iL hh) fe Ar)) (kp.trans K2) (fun d b hm=>?_) ?_ (fun k jk q' hk SE hl=>?_)
    ·obtain⟨ms,Zj,Zk,hm⟩:=fV.df
     exact⟨ms,Zj,Zk,fun r hr=>let⟨g1,g2,g3⟩:=hm r hr;⟨by rw[fe r (ib g1)];exact g1,fun hx=>g2 (K2.Aj r (ib g1) hx),g3⟩⟩
    ·rcases hb with h|h
     ·have:=fV.bd b (.inl h);omega
     ·rcases aC.1 h with e|h
      ·simp only at e;omega
      ·have:=fV.bd b (.inr h);omega
    ·have Li:q.d<N:=Zq q.d rfl
     by_cases wS:s=q.d
     ·subst wS
      simp only[pB,bq,aD,gt,beq_self_eq_true,cond_true,Act.put]
      have:(a'.tmps.setIfInBounds q.d (.pointer (some ⟨w'.heap.size,0,none⟩))).getD q.d undef=.pointer (some ⟨w'.heap.size,0,none⟩):=by
       simp[af,fV.sz,Li]
      rw[this];exact .v _
     ·simp only[Act.put]
      have iw:(a'.tmps.setIfInBounds q.d (.pointer (some ⟨w'.heap.size,0,none⟩))).getD s undef=a'.tmps.getD s undef:=by
       simp[af,dB (Ne.symm wS)]
      rw[iw]
      have hg:gt (pB ((q.d,w'.heap.size)::rs) (pe (Hd (listed.setIfInBounds i true)) E)) s=gt (pB rs (pe (Hd (listed.setIfInBounds i true)) E)) s:=by
       simp only[pB,bq,aD,gt]
       rw[show(q.d==s)=false by simpa using fun e=>wS e.symm];rfl
      rw[hg]
      rcases Rf s (by rw[<-hqd];exact wS)with e|e
      ·rw[e];exact .any _
      ·rw[e];exact(fV.ev s).tr K2
    ·rcases aC.1 hm with e|hm
     ·injection e with e1 e2
      subst e1;subst e2
      exact⟨he.size,i,_,q,hj,rfl,rfl,nV,xt,by rw[hh];simp⟩
     ·obtain⟨g0,k,jk,q2,g1,g2,g3,g4,g5,g6⟩:=DT d b hm
      exact⟨g0,k,jk,q2,g1,g2,g3,rU _ _ _ g4,g5,by rw[fe b (ib g6)];exact g6⟩
    ·rw[bq]
     refine eU.2 ⟨fun hm=>?_,Oh⟩
     have:=fV.bd _ (.inr hm)
     simp only at this;omega
    ·by_cases AE:i=k
     ·subst AE
      rw[hj]at hk;injection hk with hk;subst hk
      simp only[nD,ah]at SE
      subst SE;simp
     ·rw[getD_set_ne true AE]at hl
      simp only[bq,aC]
      exact .inr (KT k jk q' hk SE hl)
 have LP:∀k,k<ops.size->(Array.replicate ops.size false).getD k true=false:=fun k hk=>by
  simp[af,hk]
 have Ej:vH p (Array.replicate ops.size false)=p.length:=by
  unfold vH
  rw[List.countP_eq_length.2 (fun k hk=>by rw[LP k (by have:=bc.1 hk;omega)];rfl)]
  simp
 have Y0:(fun b=>X b\/b∈([]:List (Nat×Nat)).map (·.2))=X:=by funext b;simp
 have:=key p.length (Array.replicate ops.size false) a w β [] Ej (by simp) (fun k _ hk=>LP k hk) (fun k o lO hl=>by rw[LP k (aZ.1 lO).1]at hl;cases hl) (by
  rw[Y0]
  refine cn.Gc fun s=>?_
  show gt (pe _ E) s=_\/gt (pe _ E) s=_
  by_cases hh:Hd (Array.replicate ops.size false) s
  ·exact .inl ((fI E).1 hh)
  ·refine .inr ?_
   rw[(fI E).2 hh]
   refine hE s fun j hj e=>hh (.inl ?_)
   obtain⟨k,hk⟩:=dJ hj
   exact⟨k,j,hk,e,LP k (by have:=(ai.1 hk).1;omega)⟩) (Ext.refl _ _ _) (by rw[Y0];exact Kp.refl) (fun d b hm=>absurd hm (au)) (by simp) (fun k j q hk _ hl=>by
   rw[LP k (by have:=(ai.1 hk).1;omega)]at hl;cases hl)
 rw[<-wR]at this;exact this
theorem wT{ks:List Nat}{q:Nat}{X:Nat->Prop}{env:Env}{σ:aG}{β:gr}{a:Act}{w:World}{ops:Array Oper}{p l:List J}{live:List Nat}(mw:O6 P N ops ks q p l=true)(h:Vs P N rd p ks q p l live K env σ [])(cn:lY N n0 X env σ β a w):wpAnyIn (tg rd) 0 P .any ops (nC N n0 X w β σ (Kl live K)) ops.size (Array.replicate ops.size false) a w:=by
 simp only[O6,ak,bt]at mw
 obtain⟨⟨mw,iP⟩,DS⟩:=mw
 refine uq mw iP (h iP) (fun listed E σ X β a w Q eX xM CY Gf cn hz hQ=>?_) cn
 simp only[Ci,ak,beq_iff_eq,decide_eq_true_eq]at mw
 obtain⟨⟨⟨⟨⟨⟨⟨⟨wR,D7⟩,ow⟩,mQ⟩,sK⟩,nj⟩,qv⟩,Gh⟩,SC⟩:=mw
 rw[bt]at nj qv
 have qT:∀(i:Nat) (o:Oper),ops[i]?=some o->∀k∈kJ o,k<i:=by
  intro i o ho
  have bP:=(aZ.1 ho).1
  rcases cm i p.length with h1|h1
  ·have h2:=nj i (bc.2 h1)
   rw[ho,ae h1]at h2
   simp only[ak,bt,decide_eq_true_eq]at h2
   exact h2.1
  ·have h2:=qv i (by rw[er];omega)
   rw[ho]at h2
   simp only[ak,bt,decide_eq_true_eq]at h2
   exact h2.1
 rcases cm l.length q with hq|hq
 ·have h1:l.drop q=[]:=fG (by omega)
  rw[h1]at hz
  have:=hz ops [] rfl n0 X β a w cn
  rw[show l.length-q=0 by omega]
  refine⟨?_,hQ _ _ _ this⟩
  refine List.eq_nil_iff_forall_not_mem.2 fun i hi=>?_
  obtain⟨h0,o,ho,_⟩:=mem_ready.1 hi
  have bP:=(aZ.1 ho).1
  rw[xM i (by omega)]at h0;cases h0
 have h1:=hz ops _ (vI (n:=q) ow) n0 X β a w cn
 have h2:=iQ.gN (fun e a w h=>hQ _ _ _ h) _ _ _ h1
 refine qR (m:=p.length+q) qT (fun i h1 h2=>?_) (l.length-q) (p.length+q) listed a w (ar _) (by omega) eX (fun k hk=>?_) h2
 ·have h3:=DS i (by rw[er];omega)
  simp only[dK,decide_eq_true_eq,bt]at h3
  exact⟨_,bS h2,fun k _ hk=>(h3.resolve_left (by omega)) k (bc.2 hk)⟩
 ·rcases cm k (p.length+q)with h3|h3
  ·exact⟨fun _=>h3,fun _=>xM k h3⟩
  ·rw[CY k h3 hk];simp;omega
def SF(P:Program)(N:Nat)(ops:Array Oper)(p:List J)(j:J)(ks:List Nat)(q:Nat)(tl l:List J):Bool:=
 Ci P N ops [] 1 p (j::(tl++l))&&(p.all fun j=>j.i.calm||xC j)&&Ci P N ops ks q (p++j::tl) l&&(tl.all fun j=>j.i.calm)&&ks==List.range' (p.length+1) tl.length&&
 decide (q<=l.length)&&(List.range' (p.length+1+tl.length) l.length).all fun i=>decide (i<p.length+1+tl.length+q)||(List.range i).all fun k=>dep ops 9 i k
def kB(P:Program)(N:Nat)(rd:Option Nat)(p:List J)(j:J)(ks:List Nat)(q:Nat)(tl l:List J)(live:List Nat)(K:e7):e7:=fun e env σ=>
 match e with
 | .normal=>Cm P N rd (p++j::tl) ks q tl l live K env σ []
 |_=>False
theorem hZO{ops:Array Oper}{ks live:List Nat}{q:Nat}{p l:List J}(mw:Ci P N ops ks q p l=true)(hq:q<=l.length)(DS:∀i∈List.range' p.length l.length,(decide (i<p.length+q)||(List.range i).all fun k=>dep ops 9 i k)=true)(listed:Array Bool)(E:Env)(σ:aG)(X:Nat->Prop)(β:gr)(a:Act)(w:World)(Q:Exit->Act->World->Prop)(eX:listed.size=ops.size)(xM:∀k,k<p.length+q->listed.getD k true=true)(CY:∀k,p.length+q<=k->k<ops.size->listed.getD k true=false)(Gf:∀(k:Nat) (o:Oper),ops[k]?=some o->listed.getD k true=true->∀e∈kJ o,listed.getD e true=true)(cn:lY N n0 X E σ β a w)(hz:ZO P N rd live K (l.drop q) E σ)(hQ:∀e a2 w2,nC N n0 X w β σ (Kl live K) e a2 w2->Q e a2 w2):wpAnyIn (tg rd) 0 P .any ops Q (l.length-q) listed a w:=by
 simp only[Ci,ak,beq_iff_eq,decide_eq_true_eq]at mw
 obtain⟨⟨⟨⟨⟨⟨⟨⟨wR,D7⟩,ow⟩,mQ⟩,sK⟩,nj⟩,qv⟩,Gh⟩,SC⟩:=mw
 rw[bt]at nj qv
 have qT:∀(i:Nat) (o:Oper),ops[i]?=some o->∀k∈kJ o,k<i:=by
  intro i o ho
  have bP:=(aZ.1 ho).1
  rcases cm i p.length with h1|h1
  ·have h2:=nj i (bc.2 h1)
   rw[ho,ae h1]at h2
   simp only[ak,bt,decide_eq_true_eq]at h2
   exact h2.1
  ·have h2:=qv i (by rw[er];omega)
   rw[ho]at h2
   simp only[ak,bt,decide_eq_true_eq]at h2
   exact h2.1
 have h1:=hz ops _ (vI (n:=q) ow) n0 X β a w cn
 have h2:=iQ.gN (fun e a w h=>hQ _ _ _ h) _ _ _ h1
 refine qR (m:=p.length+q) qT (fun i h1 h2=>?_) (l.length-q) (p.length+q) listed a w (ar _) (by omega) eX (fun k hk=>?_) h2
 ·have h3:=DS i (by rw[er];omega)
  simp only[dK,decide_eq_true_eq,bt]at h3
  exact⟨_,bS h2,fun k _ hk=>(h3.resolve_left (by omega)) k (bc.2 hk)⟩
 ·rcases cm k (p.length+q)with h3|h3
  ·exact⟨fun _=>h3,fun _=>xM k h3⟩
  ·rw[CY k h3 hk];simp;omega
theorem VB{N n0:Nat}{X:Nat->Prop}{env:Env}{σ:aG}{β:gr}{a:Act}{w:World}(live:List Nat)(cn:lY N n0 X env σ β a w)(s:Nat):RV w (Xt X β σ) β σ (gt (tb live env) s) (a.tmps.getD s undef):=by
 induction live with
 |nil=>exact .any _
 |cons m live ih=>
  simp only[tb,bq,gt]at ih|-
  by_cases hm:m=s
  ·subst hm;simpa using cn.ev m
  ·rw[show(m==s)=false by simpa using hm];exact ih
theorem Eo{ks:List Nat}{q:Nat}{X:Nat->Prop}{env:Env}{σ:aG}{β:gr}{a:Act}{w:World}{ops:Array Oper}{p tl l:List J}{j:J}{live po:List Nat}(mw:SF P N ops p j ks q tl l=true)(h:Vs P N rd p [] 1 p [j] po (kB P N rd p j ks q tl l live K) env σ [])(cn:lY N n0 X env σ β a w):wpAnyIn (tg rd) 0 P .any ops (nC N n0 X w β σ (Kl live K)) ops.size (Array.replicate ops.size false) a w:=by
 simp only[SF,ak,bt,beq_iff_eq,decide_eq_true_eq]at mw
 obtain⟨⟨⟨⟨⟨⟨Zr,iP⟩,SG⟩,LQ⟩,xz⟩,Sq⟩,DS⟩:=mw
 have sP:(p++j::tl).length=p.length+1+tl.length:=by simp;omega
 refine uq (Z:=fun r E σ=>r=tl++l/\ZO P N rd po (kB P N rd p j ks q tl l live K) [] E σ) Zr iP ?_ ?_ cn
 ·have h1:=h iP
  have mono:∀(p0:List J) (env:Env) (al:List Al),Q_ P N rd p0 env σ al (fun E σ'=>O5 P N rd p [] (ZO P N rd po (kB P N rd p j ks q tl l live K)) 1 [j] E σ')->
   Q_ P N rd p0 env σ al (fun E σ'=>O5 P N rd p [] (fun r E σ=>r=tl++l/\ZO P N rd po (kB P N rd p j ks q tl l live K) [] E σ) 1 (j::(tl++l)) E σ'):=by
   intro p0
   induction p0 with
   |nil=>
    intro env al h
    exact⟨h.1,Ek (fun v σ' h=>⟨h.1,rfl,h.2⟩) h.2⟩
   |cons j0 r ih=>
    intro env al h
    rcases h with⟨v,h1,h2,h3⟩|⟨q,h1,h2,h3⟩
    ·exact .inl ⟨v,h1,h2,ih _ _ h3⟩
    ·exact .inr ⟨q,h1,h2,ih _ _ h3⟩
  exact mono p env [] h1
 ·intro listed E σ X β a w Q eX xM CY Gf cn hz hQ
  obtain⟨_,hz⟩:=hz
  have h1:=hz ops [] rfl n0 X β a w cn
  obtain⟨LR,lN,lf,hk,kx,H4,SH⟩:=(h1:nC N n0 X w β σ (Kl po (kB P N rd p j ks q tl l live K)) .normal a w)
  have jV:lY N n0 X (tb po LR) lN lf a w:={kx with ev:=fun s=>VB po kx s}
  have h2:=jO (show Cm P N rd (p++j::tl) ks q tl l live K (tb po LR) lN []from hk)
  have h3:=h2 fun j hj=>by simp[LQ j hj]
  have VC:=SG
  simp only[Ci,ak,beq_iff_eq,decide_eq_true_eq]at SG
  obtain⟨⟨⟨⟨⟨⟨⟨⟨wR,D7⟩,ow⟩,mQ⟩,sK⟩,nj⟩,qv⟩,Gh⟩,SC⟩:=SG
  rw[bt]at mQ nj qv Gh SC
  have sO:∀(i:Nat) (j':J),(p++j::tl)[i]?=some j'->∃o,ops[i]?=some o/\ui P N ops o j'=true/\(∀k∈kJ o,k<i)/\∀(k:Nat) (jk:J) s,(p++j::tl)[k]?=some jk->jk.d=some s->s∈xP j'->k∈kJ o/\xC jk=false:=by
   intro i j' hj
   have hi:i<(p++j::tl).length:=(ai.1 hj).1
   obtain⟨i',o,km,ho,Jc⟩:=uk D7 i j' hj
   rw[cH hi]at km;injection km with km;subst km
   have h1:=nj i (bc.2 hi)
   rw[ho,hj]at h1
   simp only[ak,bt,decide_eq_true_eq]at h1
   refine⟨o,ho,Jc,h1.1,fun k jk s hk hs hm=>?_⟩
   have h2:=h1.2 k (bc.2 (ai.1 hk).1)
   rw[hk]at h2
   simp only[hs,dK,ak,db,eF,decide_eq_true_eq,decide_eq_false_iff_not]at h2
   exact h2.resolve_left fun hn=>hn hm
  have yB:∀i,(p++j::tl).length<=i->i<ops.size->∃o,ops[i]?=some o/\(∀k∈kJ o,k<i)/\∀k,k<i->k<(p++j::tl).length+q->(k∈ks/\i<(p++j::tl).length+q)\/dep ops 9 i k=true:=by
   intro i h1 h2
   have h3:=qv i (by rw[er];omega)
   cases ho:ops[i]? with
   |none=>rw[ho]at h3;simp at h3
   |some o=>
    rw[ho]at h3
    simp only[ak,bt,decide_eq_true_eq,dK,eF]at h3
    exact⟨o,rfl,h3.1,fun k hk hkq=>(h3.2 k (bc.2 hk)).elim (fun h=>h.elim (fun h=>by omega) .inl) .inr⟩
  have qT:∀(i:Nat) (o:Oper),ops[i]?=some o->∀k∈kJ o,k<i:=by
   intro i o ho
   have bP:=(aZ.1 ho).1
   rcases cm i (p++j::tl).length with h1|h1
   ·obtain⟨o',dN,_,h2,_⟩:=sO i _ (ae h1)
    rw[ho]at dN;injection dN with dN;subst dN;exact h2
   ·obtain⟨o',dN,h2,_⟩:=yB i h1 bP
    rw[ho]at dN;injection dN with dN;subst dN;exact h2
  have O7:=qQ sK
  have sM:∀(i k:Nat) (ji jk:J) s,(p++j::tl)[i]?=some ji->(p++j::tl)[k]?=some jk->ji.d=some s->jk.d=some s->i=k:=by
   intro i k ji jk s hi hk h1 h2
   obtain⟨km,rfl⟩:=ai.1 hi
   obtain⟨xu,rfl⟩:=ai.1 hk
   have hp:=de.1 O7
   rcases gO i k with hh|hh|hh
   ·exact absurd (by rw[cC,cC,h1,h2]) (hp i k (by simpa using km) (by simpa using xu) hh)
   ·exact hh
   ·exact absurd (by rw[cC,cC,h1,h2]) (hp k i (by simpa using xu) (by simpa using km) hh)
  have Cn:∀k∈ks,∃j',(p++j::tl)[k]?=some j'/\j'.i.calm=true:=by
   intro k hk
   have:=Gh k hk
   cases hj:(p++j::tl)[k]? with
   |none=>rw[hj]at this;simp at this
   |some j=>rw[hj]at this;exact⟨j,rfl,this⟩
  have O8:∀t,t<q->∀j',l[t]?=some j'->∀k∈ks,∀jk,(p++j::tl)[k]?=some jk->jk.d≠j'.d/\∀s,jk.d=some s->s∈xP j'->dep ops 9 ((p++j::tl).length+t) k=true:=by
   intro t ht j' hj k hk jk Jf
   have h1:=SC t (bc.2 ht)
   rw[hj]at h1
   simp only[bt]at h1
   have h2:=h1 k hk
   rw[Jf]at h2
   simp only[ak,bne_iff_ne,ne_eq]at h2
   refine⟨h2.1,fun s hs hm=>?_⟩
   have h3:=h2.2
   rw[hs]at h3
   simp only[dK,db,eF,decide_eq_false_iff_not]at h3
   exact h3.resolve_left fun hn=>hn hm
  have SI:∀k,(p++j::tl)[p.length+1+k]?=tl[k]?:=fun k=>by
   rw[bE (by omega),show p.length+1+k-p.length=k+1 by omega,dW]
  have Zs:(tl.map (·.d)).Nodup:=by
   rw[di,bq]at O7
   have:=(List.nodup_append.1 O7).2.1
   exact(eU.1 this).2
  obtain⟨E2,hz2,hE,hjE,_⟩:=xQ tl (tb po LR) [] Zs (fun j' hj=>mQ j' (by simp[hj]))
   (fun i k j' jk hi hk AA s hs hm=>by
    obtain⟨o,ho,_,h1,h2⟩:=sO (p.length+1+i) j' (by rw[SI];exact hi)
    have:=h1 _ (h2 (p.length+1+k) jk s (by rw[SI];exact hk) hs hm).1
    omega) h3
  have KU:tl.filterMap nD=[]:=List.filterMap_eq_nil_iff.2 fun j' hj=>nO (LQ j' hj)
  rw[KU]at hz2
  simp only[bb,wQ,dL]at hz2
  have uo:∀k,p.length+1<=k->k<(p++j::tl).length->listed.getD k true=false:=fun k h1 h2=>CY k h1 (by omega)
  have Ej:vH (p++j::tl) listed=tl.length:=by
   unfold vH
   rw[sP,List.range_eq_range',show p.length+1+tl.length=(p.length+1)+tl.length from rfl,<-List.range'_append_1,List.countP_append,br]
   have e1:(List.range' 0 (p.length+1)).countP (fun k=>!listed.getD k true)=0:=by
    rw[gh]
    intro k hk
    rw[er]at hk
    simp[xM k (by omega)]
   have e2:(List.range' (p.length+1) tl.length).countP (fun k=>!listed.getD k true)=tl.length:=by
    have:(List.range' (p.length+1) tl.length).countP (fun k=>!listed.getD k true)=(List.range' (p.length+1) tl.length).length:=by
     rw[List.countP_eq_length]
     intro k hk
     rw[er]at hk
     simp[uo k hk.1 (by omega)]
    rw[this,List.length_range']
   rw[e1,e2,br]
  have lh:=Cg (P:=P) (N:=N) (rd:=rd) (K:=K) (live:=live) (Z:=ZO P N rd live K) (q0:=q) wR D7 ow qT sO sM mQ yB
   (hZO VC Sq fun i hi=>by rw[sP]at hi|-;exact by simpa using DS i hi)
   (fun k hk=>by obtain⟨j',h1,_⟩:=Cn k hk;exact(ai.1 h1).1) (fun k hk j' hj=>by
    obtain⟨j2,h1,h2⟩:=Cn k hk
    rw[hj]at h1;injection h1 with h1;subst h1;exact h2) O8 _ 0 tl.length q listed E2 lN X lf a w Q rfl (by omega) (by omega) Ej eX
   (fun k hk hn=>xM k (cW fun hc=>hn (by rw[xz,er];omega))) (fun k h1 h2=>by rw[CY k (by omega) h2];simp;omega) Gf
   (jV.Gc fun s=>by
    by_cases hs:∃j'∈tl,j'.d=some s
    ·obtain⟨j',hj,hs⟩:=hs
     obtain⟨k,hk⟩:=dJ hj
     refine .inl ((fI E2).1 ⟨p.length+1+k,j',by rw[SI];exact hk,hs,uo _ (by omega) ?_⟩)
     have:=(ai.1 hk).1
     omega
    ·by_cases hh:AB (p++j::tl) listed s
     ·exact .inl ((fI E2).1 hh)
     ·exact .inr (by rw[(fI E2).2 hh];exact hE s fun j' hj e=>hs ⟨j',hj,e⟩))
   (by simpa using hz2) fun e a2 w2 hp=>hQ _ _ _ (hp.trans H4 SH)
  rw[show(j::(tl++l)).length-1=tl.length+(l.length-0) by simp]
  exact lh
end
end Go.Abs
