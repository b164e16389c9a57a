/- Part 4 of the texts: abstract values over the walk; contracts. -/
import Derived.Test.YtgopgjnfhkoomaaGreatBu3
import Derived.RangeFuncRecord
import Derived.Below
import Derived.WideShapes
import Derived.OpenShut
set_option linter.unusedVariables false
set_option linter.unusedSimpArgs false
namespace Go.Abs
def kY(P:Program)(N:Nat):Code->C->Bool
 | .skip,.skip=>true
 | .label _,.skip=>true
 | .scope a,.scope c=>kY P N a c
 | .region _ ops false,.ops l _=>qt P N ops (List.range ops.size) l
 | .region _ ops true,.draw p l _=>P.follows .mixedOrders&&O6 P N ops [] 0 p l
 | .region _ ops true,.jC pi ks q p l _=>P.follows .mixedOrders&&(qS ops.size pi&&O6 P N (perm ops pi) ks q p l)
 | .region _ ops true,.HQ pi p j _ ks q tl l _=>P.follows .mixedOrders&&(qS ops.size pi&&SF P N (perm ops pi) p j ks q tl l)
 | .seq a b,.seq c d=>kY P N a c&&kY P N b d
 | .cond x a b,.cond y c d=>dt x y&&kY P N a c&&kY P N b d
 | .block i a,.block j c=>i==j&&kY P N a c
 | .loop a,.loop c=>kY P N a c
 | .exit i,.exit j=>i==j
 | .ret,.ret=>true
 | .rangeFunc g ps a b,.rL f qs c d=>dt g f&&ps.toList==qs&&qs.all (fun q=>decide (q<N))&&kY P N a c&&kY P N b d
 |_,_=>false
def aR(P:Program)(N:Nat)(rd:Option Nat)(c:C)(K:e7)(env:Env)(σ:aG):Prop:=
 ∀code,kY P N code c=true->Sr P N rd code K env σ
def Co(P:Program)(N:Nat)(rd:Option Nat)(b:C)(K:e7):e7:=fun e env σ=>
 match e with
 | .normal=>aR P N rd b K env σ
 |e=>K e env σ
def AH(id:Nat)(K:e7):e7:=fun e env σ=>
 match e with
 | .exit i=>if i=id then K .normal env σ else K (.exit i) env σ
 |e=>K e env σ
def Jg(K:e7):e7:=fun e env σ=>
 match e with
 | .goto _=>False
 |e=>K e env σ
def dC(P:Program)(N:Nat)(rd:Option Nat):C->e7->Env->aG->Prop
 | .skip,K,env,σ=>K .normal env σ
 | .ops l live,K,env,σ=>Bt P N rd l live K env σ
 | .draw p l live,K,env,σ=>Cm P N rd p [] 0 p l live K env σ []
 | .jC _ ks q p l live,K,env,σ=>Cm P N rd p ks q p l live K env σ []
 | .HQ _ p j po ks q tl l live,K,env,σ=>Cm P N rd p [] 1 p [j] po (kB P N rd p j ks q tl l live K) env σ []
 | .seq a b,K,env,σ=>dC P N rd a (Co P N rd b K) env σ
 | .cond x a b,K,env,σ=>match ov env x with
  | .v (.bool t)=>(t=true->aR P N rd a K env σ)/\(t=false->aR P N rd b K env σ)
  |_=>False
 | .block i a,K,env,σ=>dC P N rd a (AH i K) env σ
 | .scope a,K,env,σ=>dC P N rd a (Jg K) env σ
 | .exit i,K,env,σ=>K (.exit i) env σ
 | .ret,K,env,σ=>K .ret env σ
 |c,K,env,σ=>aR P N rd c K env σ
section
variable {P:Program} {N:Nat} {rd:Option Nat} {K:e7} {env:Env} {σ:aG}
theorem rV{n0:Nat}{X:Nat->Prop}{β:gr}{a:Act}{w:World}{e:Exit}(cn:lY N n0 X env σ β a w)(h:K e env σ):nC N n0 X w β σ K e a w:=
 ⟨env,σ,β,h,cn,Ext.refl _ _ _,Kp.refl⟩
theorem H5{x y:Code}{c:C}(hy:kY P N y c=true)(h:Sr P N rd x (Co P N rd c K) env σ):Sr P N rd (.seq x y) K env σ:=by
 intro n0 X β a w cn
 refine wpIn_seq (wpIn_mono (h n0 X β a w cn) fun e a' w' hp=>?_)
 obtain⟨dj,σ',β',hk,fV,he,kp⟩:=hp
 cases e with
 |normal=>exact wpIn_mono (hk y hy n0 X β' a' w' fV) fun e a w h=>h.trans he kp
 |_=>exact⟨dj,σ',β',hk,fV,he,kp⟩
theorem Jh{x:Code}{id:Nat}(h:Sr P N rd x (AH id K) env σ):Sr P N rd (.block id x) K env σ:=by
 intro n0 X β a w cn
 refine wpIn_block (wpIn_mono (h n0 X β a w cn) fun e a' w' hp=>?_)
 obtain⟨dj,σ',β',hk,fV,he,kp⟩:=hp
 cases e with
 |exit i=>
  simp only[Exit.inBlock]
  simp only[AH]at hk
  split
  ·rw[if_pos ‹_›]at hk;exact⟨dj,σ',β',hk,fV,he,kp⟩
  ·rw[if_neg ‹_›]at hk;exact⟨dj,σ',β',hk,fV,he,kp⟩
 |_=>exact⟨dj,σ',β',hk,fV,he,kp⟩
theorem stepR_label{b:Frame}{a:Act}{k:List Item}{cs:List Frame}{w:World}{l:Nat}:step P (lone (b.atR a (.code (.label l)::k)) cs w)=.next (lone (b.atR a k) cs w):=
 step_lone_go (by simp[stepG,stepG.exec,Frame.atR])
theorem oO{b:Frame}{a:Act}{k:List Item}{cs:List Frame}{w:World}{c:Code}:step P (lone (b.atR a (.code (.scope c)::k)) cs w)=.next (lone (b.atR a (.code c::.inScope c::k)) cs w):=
 step_lone_go (by simp[stepG,stepG.exec,Frame.atR])
theorem AI{b:Frame}{a:Act}{k:List Item}{cs:List Frame}{w:World}{c:Code}:step P (lone (b.atR a (.inScope c::k)) cs w)=.next (lone (b.atR a k) cs w):=
 step_lone_go (by simp[stepG,stepG.exec,Frame.atR])
theorem wpIn_label{F:Fence}{n:Nat}{Q:Exit->Act->World->Prop}{a:Act}{w:World}{l:Nat}(h:Q .normal a w):(Code.label l).wpIn F n P Q a w:=fun _ _ _ _ hb hr=>⟨.normal,a,w,h,.one (fenced_calm hb hr rfl) stepR_label⟩
theorem Gk{F:Fence}{n:Nat}{Q:Exit->Act->World->Prop}{a:Act}{w:World}{c:Code}(h:c.wpIn F n P (fun e a w=>match e with| .goto _=>False|e=>Q e a w) a w):(Code.scope c).wpIn F n P Q a w:=by
 intro b k cs LS hb hr
 have h0:(lone (b.atR a (.code (.scope c)::k)) cs w).fenced P F:=fenced_calm hb hr rfl
 obtain⟨e,SJ,SK,hq,oB⟩:=h b (.inScope c::k) cs LS hb hr
 cases e with
 |normal=>exact⟨.normal,SJ,SK,hq,.head h0 oO (StepsIn.trans oB (.one (fenced_calm hb hr rfl) AI))⟩
 |exit Zt=>
  have hx:exitTo Zt (.inScope c::k)=exitTo Zt k:=by simp[exitTo]
  exact⟨.exit Zt,SJ,SK,hq,fun k' hk=>.head h0 oO (oB.1 k' (by rw[hx];exact hk)),
   fun wN hk=>let⟨k₁,h1,h2⟩:=oB.2 wN (by rw[hx];exact hk);⟨k₁,h1,.head h0 oO h2⟩⟩
 |goto l=>exact hq.elim
 |_=>exact⟨_,SJ,SK,hq,.of_steps (.one h0 oO) oB⟩
theorem Ji{x:Code}(h:Sr P N rd x (Jg K) env σ):Sr P N rd (.scope x) K env σ:=by
 intro n0 X β a w cn
 refine Gk (wpIn_mono (h n0 X β a w cn) fun e a' w' hp=>?_)
 obtain⟨dj,σ',β',hk,fV,he,kp⟩:=hp
 cases e with
 |goto l=>exact hk.elim
 |_=>exact⟨dj,σ',β',hk,fV,he,kp⟩
theorem aR.uu:∀{c:C} {K:e7} {env:Env} {σ:aG},dC P N rd c K env σ->aR P N rd c K env σ
 | .skip,K,env,σ,h=>fun code hc n0 X β a w cn=>by
  cases code<;>simp[kY]at hc
  ·exact wpIn_skip (rV cn h)
  ·exact wpIn_label (rV cn h)
 | .ops l live,K,env,σ,h=>fun code hc n0 X β a w cn=>by
  cases code<;>try(simp[kY]at hc;done)
  rename_i id ops dr
  cases dr<;>simp[kY]at hc
  refine wpIn_mono (wpIn_region (aH h ops _ hc n0 X β a w cn)) fun e a' w' hp=>?_
  obtain⟨dj,σ',β',hk,fV,he,kp⟩:=hp
  cases e with
  |normal=>exact⟨tb live dj,σ',β',hk,{fV with ev:=fun s=>uv live fV s},he,kp⟩
  |_=>exact⟨dj,σ',β',hk,fV,he,kp⟩
 | .seq c d,K,env,σ,h=>fun code hc=>by
  cases code<;>simp[kY]at hc
  exact H5 hc.2 (aR.uu (c:=c) (K:=Co P N rd d K) h _ hc.1)
 | .cond x c d,K,env,σ,h=>fun code hc n0 X β a w cn=>by
  cases code<;>simp[kY]at hc
  simp only[dC]at h
  split at h
  case h_2=>exact h.elim
  rename_i t ht
  have hx:=o_ cn hc.1.1
  rw[ht]at hx
  exact wpIn_cond_split hx.dz (fun e=>h.1 e _ hc.1.2 n0 X β a w cn) (fun e=>h.2 e _ hc.2 n0 X β a w cn)
 | .block i c,K,env,σ,h=>fun code hc=>by
  cases code<;>simp[kY]at hc
  obtain⟨rfl,hc⟩:=hc
  exact Jh (aR.uu (c:=c) (K:=AH _ K) h _ hc)
 | .scope c,K,env,σ,h=>fun code hc=>by
  cases code<;>simp[kY]at hc
  exact Ji (aR.uu (c:=c) (K:=Jg K) h _ hc)
 | .exit i,K,env,σ,h=>fun code hc n0 X β a w cn=>by
  cases code<;>simp[kY]at hc
  subst hc
  exact wpIn_exit (rV cn h)
 | .ret,K,env,σ,h=>fun code hc n0 X β a w cn=>by
  cases code<;>simp[kY]at hc
  exact wpIn_ret (rV cn h)
 | .loop c,K,env,σ,h=>h
 | .draw p l live,K,env,σ,h=>fun code hc n0 X β a w cn=>by
  cases code<;>try(simp[kY]at hc;done)
  rename_i id ops dr
  cases dr<;>simp[kY]at hc
  obtain⟨hm,hc⟩:=hc
  have hs:w.heap.size<=({w with drawn:=w.drawn+1}:World).heap.size:=ar _
  have hh:∀b,b<w.heap.size->({w with drawn:=w.drawn+1}:World).heap[b]?=w.heap[b]?:=fun _ _=>rfl
  have fV:=cn.tr (cn.sr.same hs hh) (Ext.same hs hh) (Kp.same hs hh cn.sr)
  refine wpIn_mono (wpIn_region_any hm (wT hc (jO h) fV)) fun e a' w' hp=>?_
  obtain⟨dj,σ',β',hk,fV,he,kp⟩:=hp.trans (Ext.same hs hh) (Kp.same hs hh cn.sr)
  cases e with
  |normal=>exact⟨tb live dj,σ',β',hk,{fV with ev:=fun s=>uv live fV s},he,kp⟩
  |_=>exact⟨dj,σ',β',hk,fV,he,kp⟩
 | .jC pi ks q p l live,K,env,σ,h=>fun code hc n0 X β a w cn=>by
  cases code<;>try(simp[kY]at hc;done)
  rename_i id ops dr
  cases dr<;>simp[kY]at hc
  obtain⟨hm,VD,hc⟩:=hc
  have hs:w.heap.size<=({w with drawn:=w.drawn+1}:World).heap.size:=ar _
  have hh:∀b,b<w.heap.size->({w with drawn:=w.drawn+1}:World).heap[b]?=w.heap[b]?:=fun _ _=>rfl
  have fV:=cn.tr (cn.sr.same hs hh) (Ext.same hs hh) (Kp.same hs hh cn.sr)
  have LU:=wT hc (jO h) fV
  rw[pC]at LU
  refine wpIn_mono (wpIn_region_any hm (Ei VD _ _ (Array.replicate ops.size false) _ _ (by simp) (by simp) (fun i hi=>by
   obtain⟨g1,_⟩:=kL VD hi
   simp[af,hi,g1]) LU)) fun e a' w' hp=>?_
  obtain⟨dj,σ',β',hk,fV,he,kp⟩:=hp.trans (Ext.same hs hh) (Kp.same hs hh cn.sr)
  cases e with
  |normal=>exact⟨tb live dj,σ',β',hk,{fV with ev:=fun s=>uv live fV s},he,kp⟩
  |_=>exact⟨dj,σ',β',hk,fV,he,kp⟩
 | .HQ pi p j po ks q tl l live,K,env,σ,h=>fun code hc n0 X β a w cn=>by
  cases code<;>try(simp[kY]at hc;done)
  rename_i id ops dr
  cases dr<;>simp[kY]at hc
  obtain⟨hm,VD,hc⟩:=hc
  have hs:w.heap.size<=({w with drawn:=w.drawn+1}:World).heap.size:=ar _
  have hh:∀b,b<w.heap.size->({w with drawn:=w.drawn+1}:World).heap[b]?=w.heap[b]?:=fun _ _=>rfl
  have fV:=cn.tr (cn.sr.same hs hh) (Ext.same hs hh) (Kp.same hs hh cn.sr)
  have LU:=Eo hc (jO h) fV
  rw[pC]at LU
  refine wpIn_mono (wpIn_region_any hm (Ei VD _ _ (Array.replicate ops.size false) _ _ (by simp) (by simp) (fun i hi=>by
   obtain⟨g1,_⟩:=kL VD hi
   simp[af,hi,g1]) LU)) fun e a' w' hp=>?_
  obtain⟨dj,σ',β',hk,fV,he,kp⟩:=hp.trans (Ext.same hs hh) (Kp.same hs hh cn.sr)
  cases e with
  |normal=>exact⟨tb live dj,σ',β',hk,{fV with ev:=fun s=>uv live fV s},he,kp⟩
  |_=>exact⟨dj,σ',β',hk,fV,he,kp⟩
 | .rL f ps a b,K,env,σ,h=>h
 where
  uv {N n0:Nat} {X:Nat->Prop} {env:Env} {σ:aG} {β:gr} {a:Act} {w:World} (live:List Nat) (cn:lY N n0 X env σ β a w) (s:Nat):
   RV w (Xt X β σ) β σ (gt (tb live env) s) (a.tmps.getD s undef):=by
   induction live with
   |nil=>exact .any _
   |cons m live ih=>
    simp only[tb,bq,gt]at ih|-
    by_cases hm:m=s
    ·subst hm;simpa using cn.ev m
    ·rw[show(m==s)=false by simpa using hm];exact ih
def Sub(dj env:Env):Prop:=∀p∈dj,gt env p.1=p.2
theorem Sub.Zu{n0:Nat}{X:Nat->Prop}{dj:Env}{β:gr}{a:Act}{w:World}(h:Sub dj env)(cn:lY N n0 X env σ β a w):lY N n0 X dj σ β a w:=by
 refine{cn with ev:=fun s=>?_}
 have:gt dj s=.any\/∃p∈dj,p.1=s/\p.2=gt dj s:=by
  clear h
  induction dj with
  |nil=>exact .inl rfl
  |cons p r ih=>
   obtain⟨m,v⟩:=p
   simp only[gt]
   by_cases hm:m=s
   ·subst hm;exact .inr ⟨(m,v),by simp,rfl,by simp⟩
   ·rw[show(m==s)=false by simpa using hm]
    rcases ih with h|⟨p,hp,h1,h2⟩
    ·exact .inl h
    ·exact .inr ⟨p,by simp[hp],h1,h2⟩
 rcases this with h0|⟨p,hp,h1,h2⟩
 ·rw[h0];exact .any _
 ·rw[<-h2,<-h p hp,h1];exact cn.ev s
theorem aR.weaken{c:C}{dj:Env}(h:Sub dj env)(h':aR P N rd c K dj σ):aR P N rd c K env σ:=
 fun code hc n0 X β a w cn=>h' code hc n0 X β a w (h.Zu cn)
theorem aR.mono{c:C}{K':e7}(hK:∀e env σ,K e env σ->K' e env σ)(h:aR P N rd c K env σ):aR P N rd c K' env σ:=
 fun code hc n0 X β a w cn=>wpIn_mono (h code hc n0 X β a w cn) fun e a w hp=>
  let⟨dj,σ',β',hk,r⟩:=hp;⟨dj,σ',β',hK _ _ _ hk,r⟩
def KV{α:Type}(s:α->Env×aG)(μ:α->Nat)(x:α)(K:e7):e7:=fun e env σ=>
 match e with
 | .normal=>∃y,Sub (s y).1 env/\σ=(s y).2/\μ y<μ x
 |e=>K e env σ
theorem aR.loop{α:Type}(s:α->Env×aG)(μ:α->Nat)(x0:α){c:C}(h0:Sub (s x0).1 env)(h1:σ=(s x0).2)(round:∀x,aR P N rd c (KV s μ x K) (s x).1 (s x).2):aR P N rd (.loop c) K env σ:=by
 intro code hc n0 X β a w cn
 cases code<;>simp[kY]at hc
 rename_i body
 subst h1
 have key:∀k x lf a1 w1,μ x=k->lY N n0 X (s x).1 (s x).2 lf a1 w1->Ext w β (s x0).2 w1 lf (s x).2->Kp w (Xt X β (s x0).2) β (s x0).2 w1 (Xt X lf (s x).2) lf (s x).2->
  ∀(b:Frame) (kk:List Item) (cs:List Frame),b.roundOf=(tg rd).round->(tg rd).fn b.fn->(tg rd).room (cs.length+1+0)->
  ∃e a' w',nC N n0 X w β (s x0).2 K e a' w'/\ArrivesIn (Machine.fenced P (tg rd)) P (lone (b.atR a1 (.code body::.inLoop body::kk)) cs w1) b kk cs e a' w':=by
  intro k
  induction k using Nat.strongRecOn with
  |_ k ih=>
   intro x lf a1 w1 hk kx H4 rQ b kk cs LS hb hr
   obtain⟨e,a2,w2,hq,oB⟩:=round x body hc n0 X lf a1 w1 kx b (.inLoop body::kk) cs LS hb hr
   obtain⟨dj,σ',β',vg,jV,qU,H3⟩:=hq
   have Ol:=H4.trans qU
   have KW:=rQ.trans H3
   cases e with
   |normal=>
    obtain⟨y,Gl,rfl,bP⟩:=vg
    obtain⟨e3,a3,w3,Va,LW⟩:=ih (μ y) (hk▸bP) y β' a2 w2 rfl (Gl.Zu jV) Ol KW b kk cs LS hb hr
    exact⟨e3,a3,w3,Va,.of_steps (StepsIn.trans oB (.one (fenced_calm hb hr rfl) stepR_inLoop)) LW⟩
   |exit id=>exact⟨_,a2,w2,⟨dj,σ',β',vg,jV,Ol,KW⟩,.pass (x:=.inLoop body) rfl (fun _ _=>.inl (by simp)) oB⟩
   |goto l=>exact⟨_,a2,w2,⟨dj,σ',β',vg,jV,Ol,KW⟩,.pass (x:=.inLoop body) rfl (fun _ _=>.inl (by simp)) oB⟩
   |ret=>exact⟨_,a2,w2,⟨dj,σ',β',vg,jV,Ol,KW⟩,.pass (x:=.inLoop body) rfl (fun _ _=>.inl (by simp)) oB⟩
   |panic ch=>exact⟨_,a2,w2,⟨dj,σ',β',vg,jV,Ol,KW⟩,.pass (x:=.inLoop body) rfl (fun _ _=>.inl (by simp)) oB⟩
   |outgrown=>exact⟨_,a2,w2,⟨dj,σ',β',vg,jV,Ol,KW⟩,.pass (x:=.inLoop body) rfl (fun _ _=>.inl (by simp)) oB⟩
 intro b kk cs LS hb hr
 obtain⟨e,a',w',hp,oB⟩:=key _ x0 β a w rfl (h0.Zu cn) (Ext.refl _ _ _) Kp.refl b kk cs LS hb hr
 exact⟨e,a',w',hp,.of_steps (.one (fenced_calm hb hr rfl) stepR_loop) oB⟩
theorem aR.cut(I:Env->aG->Prop){b c:C}(hb:aR P N rd b (fun e env σ=>match e with| .normal=>I env σ|e=>K e env σ) env σ)(hc:∀env σ,I env σ->aR P N rd c K env σ):aR P N rd (.seq b c) K env σ:=by
 intro code lF
 cases code<;>simp[kY]at lF
 refine H5 lF.2 (aR.mono (fun e env σ h=>?_) hb _ lF.1)
 cases e with
 |normal=>exact hc env σ h
 |_=>exact h
end
theorem putObj_size(w:World)(b:Nat)(o:Obj):(w.putObj b o).heap.size=w.heap.size:=by simp[World.putObj]
theorem nF(w:World){b b':Nat}(o:Obj)(h:b'≠b):(w.putObj b o).heap[b']?=w.heap[b']?:=by
 simp only[World.putObj]
 rw[dB (fun e=>h e.symm)]
theorem Ep(w:World){b:Nat}(o:Obj)(h:b<w.heap.size):(w.putObj b o).heap[b]?=some o:=by
 simp[World.putObj,h]
theorem j_(w:World)(o:Obj):(w.alloc o).heap.size=w.heap.size+1:=by
 show(w.heap.push o).size=_;simp
theorem oP(w:World)(o:Obj){b:Nat}(h:b<w.heap.size):(w.alloc o).heap[b]?=w.heap[b]?:=by
 show(w.heap.push o)[b]?=_
 rw[iA];simp[Nat.ne_of_lt h]
theorem oQ(w:World)(o:Obj):(w.alloc o).heap[w.heap.size]?=some o:=by
 show(w.heap.push o)[w.heap.size]?=_;simp
def mr(r:Lp):Option (List Ob):=some [⟨0,0,[],some (.lp r)⟩]
def Iter(P:Program)(it:Nat)(first cap:List AV)(tr:List (List AV)):Prop:=
 (∀as_ w,(callFunc it as_).run P w=.ok (.enter it as_) w)/\
 ∀(C y:Nat) (J:Nat->aG->Prop) (D:aG->Prop) (σ:aG),y<C->σ.length=C->J 0 σ->
  (∀k as_ τ μ,tr[k]?=some as_->τ.length=C->J k τ->th P y as_ (τ++μ) (fun b iX=>∃iv ν,iX=iv++(μ++ν)/\iv.length=C/\(b=true->J (k+1) iv)/\(b=false->D iv)))->
  eY P it (first++[.Ai y]++cap) σ (fun _ iX=>∃τ ν,iX=τ++ν/\τ.length=C/\(J tr.length τ\/D τ))
def par:List Nat->List AV->Env->Env
 |q::qs,a::as_,env=>par qs as_ ((q,a)::env)
 |_,_,env=>env
inductive Ac where
 |ret
 |exit(id:Nat)
def Ac.code:Ac->Code
 | .ret=>.ret
 | .exit i=>.exit i
def Ac.e:Ac->Exit
 | .ret=>.ret
 | .exit i=>.exit i
def SL{α:Type}(s:α->aG)(J:α->Prop)(D:Ac->α->Prop)(ρ:Option (List Ob))(τ:aG):e7:=fun e env σ=>
 match e with
 | .normal=>∃y iv,σ=s y++ρ::(τ++iv)/\J y
 | .ret=>∃y iv,σ=s y++ρ::(τ++iv)/\D .ret y
 | .exit i=>∃y iv,σ=s y++ρ::(τ++iv)/\D (.exit i) y
 |_=>False
def Zv{α:Type}(P:Program)(N l:Nat)(bd:C)(s:α->aG)(J:α->Prop)(D:Ac->α->Prop)(ρ:Option (List Ob))(τ:aG):e7:=fun e env σ=>
 match e with
 | .normal=>∃x iv,σ=s x++ρ::(τ++iv)/\∀ox,aR P N (some l) bd (SL s J D ox (τ++iv)) env (s x++ox::(τ++iv))
 |_=>False
section
variable {P:Program} {N n0:Nat} {K:e7}
theorem Cp{w:World}{X:Nat->Prop}{β:gr}{σ:aG}{N:Nat}:∀(qs:List Nat) (as_:List AV) (xs:List Value) (env:Env) (tmps:Array Value),tmps.size=N->(∀q∈qs,q<N)->qs.length=as_.length->xs.length=as_.length->(∀s,RV w X β σ (gt env s) (tmps.getD s undef))->(∀i,i<as_.length->RV w X β σ (as_.getD i .any) (xs.getD i undef))->((qs.zip xs).foldl (fun tmps p=>tmps.setIfInBounds p.1 p.2) tmps).size=N/\∀s,RV w X β σ (gt (par qs as_ env) s) (((qs.zip xs).foldl (fun tmps p=>tmps.setIfInBounds p.1 p.2) tmps).getD s undef)
 | [],[],[],env,tmps,hN,_,_,_,h,_=>⟨hN,h⟩
 |q::qs,a::as_,x::xs,env,tmps,hN,hq,h1,h2,h,hx=>by
  refine Cp qs as_ xs _ _ (by simpa using hN) (fun q I5=>hq q (by simp[I5])) (by simpa using h1) (by simpa using h2) (fun s=>?_) fun i hi=>by simpa using hx (i+1) (by simpa using hi)
  have bP:=hq q (by simp)
  simp only[gt]
  by_cases hs:q=s
  ·subst hs
   simp only[beq_self_eq_true,cond_true]
   have:=hx 0 (by simp)
   simpa[af,eV,hN,bP]using this
  ·rw[show(q==s)=false by simpa using hs]
   simpa[af,dB hs]using h s
 | [],[],_::_,_,_,_,_,_,h,_,_=>by simp at h
 | [],_::_,_,_,_,_,_,h,_,_,_=>by simp at h
 |_::_,[],_,_,_,_,_,h,_,_,_=>by simp at h
 |_::_,_::_,[],_,_,_,_,_,h,_,_=>by simp at h
theorem nn(s τ:aG)(r:Lp)(C:Nat)(hC:s.length=C):aG.at (s++mr r::τ) C 0=some ⟨0,0,[],some (.lp r)⟩:=by
 unfold aG.at;subst hC;simp[mr]
theorem rW(s τ:aG)(r:Lp)(o:Ob)(C:Nat)(hC:s.length=C):aG.cZ (s++mr r::τ) C 0 o=s++some [o]::τ:=by
 unfold aG.cZ;subst hC;simp[mr]
theorem rX{X:Nat->Prop}{σ:aG}{β:gr}{w:World}{C l:Nat}{r r':Lp}{q q':Loop}(hs:dG w X β σ)(hX:∀b,X b->b<w.heap.size)(dQ:σ.at C 0=some ⟨0,0,[],some (.lp r)⟩)(o7:β C 0=some l)(hq:w.heap[l]?=some (.loop q))(I5:D0 w (Xt X β σ) β σ r' q'):∃β',dG (w.putObj l (.loop q')) X β' (σ.cZ C 0 ⟨0,0,[],some (.lp r')⟩)/\Ext w β σ (w.putObj l (.loop q')) β' (σ.cZ C 0 ⟨0,0,[],some (.lp r')⟩)/\Kp w (Xt X β σ) β σ (w.putObj l (.loop q')) (Xt X β' (σ.cZ C 0 ⟨0,0,[],some (.lp r')⟩)) β' (σ.cZ C 0 ⟨0,0,[],some (.lp r')⟩)/\β' C 0=some l:=by
 have ht:ss w β C 0 (some l) (w.putObj l (.loop q')):=⟨by rw[putObj_size];exact ar _,fun b hb iw=>nF w _ fun e=>iw (by rw[o7,e]),fun b hb=>.inl (by rw[o7];exact hb),rfl,rfl,rfl,(by first|exact ar _|exact cO _)⟩
 have fe:(⟨0,0,[],some (.lp r)⟩:Ob).es.length=(⟨0,0,[],some (.lp r')⟩:Ob).es.length->some l=β C 0/\∀b,β C 0=some b->dM w (w.putObj l (.loop q')) b:=fun _=>
  ⟨o7.symm,fun b hb c T hc=>by rw[o7]at hb;injection hb with hb;subst hb;rw[hq]at hc;cases hc⟩
 have K:=Kp.jM (o':=⟨0,0,[],some (.lp r')⟩) hs dQ ht rfl (ar _) fe
 exact⟨_,hs.jM hX dQ ht rfl (ar _) fe ⟨fun e he=>absurd he (aN _),fun h=>(by cases h),fun r hr=>by
  injection hr with hr;subst hr
  exact⟨rfl,q',Ep w _ (ib hq),I5.tr K⟩⟩,Ext.jM dQ ht,K,kE⟩
theorem aR.rL{env:Env}{σ:aG}{α:Type}(s:α->aG)(m:Nat)(hC:∀x,(s x).length=m)(I:Nat->α->Prop)(D:Ac->α->Prop)(tr:List (List AV))(x0:α){g:O}{qs:List Nat}{as_ bd:C}{it:Nat}{first cap:List AV}(hf:ov env g=.fn (.func it) first cap)(h0:σ=s x0)(hI:I 0 x0)(lR:Iter P it first cap tr)(QQ:∀(k:Nat) (args:List AV),tr[k]?=some args->qs.length=args.length)(round:∀k x args l ρ τ,tr[k]?=some args->I k x->aR P N (some l) as_ (Zv P N l bd s (I (k+1)) D ρ τ) (par qs args env) (s x++ρ::τ))(SM:∀x τ,I tr.length x->K .normal env (s x++τ))(Er:∀e x τ,D e x->K e.e env (s x++τ)):aR P N none (.rL g qs as_ bd) K env σ:=by
 intro code lF n0 X β a w cn
 cases code<;>try(simp[kY]at lF;done)
 rename_i gg ps uw ux
 simp only[kY,ak,beq_iff_eq,bt,decide_eq_true_eq]at lF
 obtain⟨⟨⟨⟨hg,Ss⟩,Zw⟩,Zx⟩,Es⟩:=lF
 have SN:=o_ cn hg
 rw[hf]at SN
 generalize Zy:a.eval gg=gv at SN
 cases SN with
 |fn _ _ _ fx fy R6 KU Zz ZA=>
 refine wpIn_rangeFunc fun fn _=>?_
 generalize lT:(Loop.mk .ready none fn a.tmps ps uw ux w.heap.size)=rec
 have hw1:=run_enterLoop_outer (P:=P) (w:=w) fn a.tmps ps uw ux
 rw[lT]at hw1
 have e0:w.heap.size<=(w.alloc (.deferred (some []))).heap.size:=by rw[j_];omega
 have Jj:∀b,b<w.heap.size->(w.alloc (.deferred (some []))).heap[b]?=w.heap[b]?:=fun b hb=>oP _ _ hb
 have LX:(w.alloc (.deferred (some []))).heap[w.heap.size]?=some (.deferred (some [])):=oQ _ _
 have qX:=cn.tr (cn.sr.same e0 Jj) (Ext.same e0 Jj) (Kp.same e0 Jj cn.sr)
 have VE:Ext w β σ (w.alloc (.deferred (some []))) β σ:=Ext.same e0 Jj
 have SO:=Kp.same e0 Jj cn.sr
 generalize VF:w.alloc (.deferred (some []))=wd at hw1 e0 Jj LX qX VE SO
 have LY:wd.heap.size=w.heap.size+1:=by rw[<-VF,j_]
 let r0:Lp:=⟨.ready,none,ps,uw,ux,N,env⟩
 have oI:∀b,some wd.heap.size=some b->b=wd.heap.size:=fun b hb=>by injection hb with hb;exact hb.symm
 have f0:wd.heap.size<=(wd.alloc (.loop rec)).heap.size:=by rw[j_];omega
 have LZ:∀b,b<wd.heap.size->(wd.alloc (.loop rec)).heap[b]?=wd.heap[b]?:=fun b hb=>oP _ _ hb
 have Et:(wd.alloc (.loop rec)).heap[wd.heap.size]?=some (.loop rec):=oQ _ _
 generalize SP:wd.alloc (.loop rec)=wl at hw1 f0 LZ Et
 have O1:wl.heap.size=w.heap.size+2:=by rw[<-SP,j_,LY]
 have K1:=Kp.push (o:=⟨0,0,[],some (.lp r0)⟩) (bo:=some wd.heap.size) qX.sr f0 LZ oI
 have SQ:Ext wd β σ wl (kv β σ.length (some wd.heap.size)) (σ++[some [⟨0,0,[],some (.lp r0)⟩]]):=Ext.push f0 LZ oI (by rw[<-SP];exact⟨rfl,rfl,rfl,(by first|exact ar _|exact cO _)⟩)
 have hs1:=qX.sr.push (o:=⟨0,0,[],some (.lp r0)⟩) qX.bd f0 LZ oI ⟨fun e he=>absurd he (aN _),fun h=>(by cases h),fun r hr=>by
  injection hr with hr;subst hr
  refine⟨rfl,rec,Et,by rw[<-lT],by rw[<-lT],by rw[<-lT],by rw[<-lT],by rw[<-lT],by rw[<-lT];exact cn.sz,fun s=>?_⟩
  have:=(qX.ev s).tr K1
  rw[<-lT];exact this⟩
 have Oa:RV wl (Xt X (kv β σ.length (some wd.heap.size)) (σ++[some [⟨0,0,[],some (.lp r0)⟩]])) (kv β σ.length (some wd.heap.size)) (σ++[some [⟨0,0,[],some (.lp r0)⟩]]) (.Ai σ.length) (.func (.yield wd.heap.size) #[] #[]):=by
  refine .Ai _ _ rfl (by simp) fun o ho _=>⟨_,iy,rfl⟩
 have Xc:σ.length=m:=by rw[h0];exact hC x0
 generalize Gn:kv β σ.length (some wd.heap.size)=lf at K1 SQ hs1 Oa
 refine⟨wd.heap.size,[{target:=.collected w.heap.size,args:=#[]}],wl,{target:=.fn (.func it) fy,args:=fx++#[.func (.yield wd.heap.size) #[] #[]]},wl,it,
  (fx.toList++[Value.func (.yield wd.heap.size) #[] #[]]++fy.toList).toArray,wl,?_,?_,fun f' _=>trivial,?_,?_,?_⟩
 ·rw[LY];exact hw1
 ·show(Deferred.ofValue (a.eval gg) _).run P wl=_
  rw[Zy,show Array.map a.eval (rangeCall gg wd.heap.size).args=#[Value.func (.yield wd.heap.size) #[] #[]]from by simp[Act.eval]];rfl
 ·have e1:(fx++#[Value.func (.yield wd.heap.size) #[] #[]]++fy)=(fx.toList++[Value.func (.yield wd.heap.size) #[] #[]]++fy.toList).toArray:=by apply gf;simp
  simp only[invoke]
  rw[e1];exact lR.1 _ _
 ·intro h;cases h
 let J:Nat->aG->Prop:=fun k τ=>∃x,τ=s x++[mr r0]/\I k x
 let DD:aG->Prop:=fun τ=>∃x e,τ=s x++[mr {r0 with st:=.done,ta:=some (Ac.code e)}]/\D e x
 have ew:∀k args τ μ,tr[k]?=some args->τ.length=m+1->J k τ->th P m args (τ++μ) (fun b iX=>∃iv ν,iX=iv++(μ++ν)/\iv.length=m+1/\(b=true->J (k+1) iv)/\(b=false->DD iv)):=by
  rintro k args τ μ hk _ ⟨x,rfl,ZB⟩ X' β' w' xs UA nM mF qu
  have ZC:s x++[mr r0]++μ=s x++mr r0::μ:=by simp
  rw[ZC]at nM qu|-
  have dQ:=nn (s x) μ r0 m (hC x)
  have ic:=nM.obj m 0 _ dQ
  cases l7:β' m 0 with
  |none=>rw[l7]at ic;exact absurd ic.2.2 (by simp)
  |some l=>
  rw[l7]at ic
  obtain⟨_,q,hq,ZD⟩:=ic.2.2 (.lp r0) rfl
  obtain⟨q1,q2,q3,q4,q5,q6,q7⟩:=ZD
  have hlen:=QQ k args hk
  refine⟨_,l,q,dQ,rfl,rfl,hq,by rw[q3];show ps.size=_;rw[<-dE,Ss,hlen],?_⟩
  have Eu:(q.params.zip xs.toArray).foldl (fun tmps (t,a)=>tmps.setIfInBounds t a) q.tmps=(qs.zip xs).foldl (fun tmps p=>tmps.setIfInBounds p.1 p.2) q.tmps:=by
   rw[<-Array.foldl_toList,Array.toList_zip,q3]
   show List.foldl _ _ (ps.toList.zip _)=_
   rw[Ss]
  rw[Eu]
  obtain⟨L1,L2⟩:=Cp (N:=N) qs args xs env q.tmps q6 (fun q hq=>Zw q hq) hlen mF q7 qu
  generalize(qs.zip xs).foldl (fun tmps p=>tmps.setIfInBounds p.1 p.2) q.tmps=tmps at L1 L2
  have SR:lY N 0 X' (par qs args env) (s x++mr r0::μ) β' {tmps:=tmps,defers:=[]} w':=⟨L1,⟨[],h_,rfl,fun _ h=>absurd h (au)⟩,UA,aQ _,nM,L2⟩
  refine roundIn_of_wpIn trivial ?_
  rw[q4,q5]
  refine wpIn_mono (round k x args l (mr r0) μ hk ZB uw Zx 0 X' β' _ w' SR) fun e a1 w1 hp=>?_
  obtain⟨LR,lN,SS,rQ,kx,H4,SH⟩:=hp
  cases e with
  |normal=>
   obtain⟨x1,tT,rfl,L3⟩:=rQ
   have Gp:=nn (s x1) (μ++tT) r0 m (hC x1)
   have L4:=kx.sr.obj m 0 _ Gp
   have L5:SS m 0=some l:=by
    obtain⟨o,ho,_,_,hh⟩:=SH.wI m 0 _ (by simp[hC]) Gp
    rw[dQ]at ho;injection ho with ho;subst ho
    rw[(hh rfl).1,l7]
   rw[L5]at L4
   obtain⟨_,qq,VG,tt⟩:=L4.2.2 (.lp r0) rfl
   obtain⟨DW,hs2,Gi,LO,SU⟩:=rX (r':={r0 with st:=.busy}) (q':={qq with state:=.busy}) kx.sr kx.bd Gp L5 VG ⟨rfl,tt.2.1,tt.2.2.1,tt.2.2.2.1,tt.2.2.2.2.1,tt.2.2.2.2.2.1,tt.2.2.2.2.2.2⟩
   rw[rW _ _ _ _ _ (hC x1)]at hs2 Gi LO
   refine⟨_,run_beginRound VG tt.1,?_⟩
   have jV:=kx.tr hs2 Gi LO
   refine wpIn_mono (L3 _ ux Es 0 X' DW a1 _ jV) fun e a2 w2 F'=>?_
   obtain⟨ZE,iX,O9,me,Gq,Ol,KW⟩:=F'
   have fin:∀(y:α) (qw:aG) (jp:Option Code) (Kq:aG->Prop),iX=s y++mr {r0 with st:=.busy}::(μ++tT++qw)->
    (∃iv ν,s y++mr {r0 with st:=if jp.isNone then .ready else .done,ta:=jp}::(μ++tT++qw)=iv++(μ++ν)/\iv.length=m+1/\(jp.isNone=true->J (k+1) iv)/\(jp.isNone=false->DD iv))->
    ∃v w3,(Instr.endRound l jp).run P w2=.ok v w3/\∃b σ' qx,Ending.returned v=.returned (.bool b)/\
     (∃iv ν,σ'=iv++(μ++ν)/\iv.length=m+1/\(b=true->J (k+1) iv)/\(b=false->DD iv))/\dG w3 X' qx σ'/\Ext w' β' (s x++mr r0::μ) w3 qx σ'/\
     Kp w' (Xt X' β' (s x++mr r0::μ)) β' (s x++mr r0::μ) w3 (Xt X' qx σ') qx σ':=by
    intro y qw jp Kq e2 lh
    subst e2
    have tu:=nn (s y) (μ++tT++qw) {r0 with st:=.busy} m (hC y)
    have yC:=Gq.sr.obj m 0 _ tu
    have yD:O9 m 0=some l:=by
     obtain⟨o,ho,_,_,hh⟩:=KW.wI m 0 _ (by simp[hC]) tu
     have:=nn (s x1) (μ++tT) {r0 with st:=.busy} m (hC x1)
     unfold mr at this
     rw[this]at ho;injection ho with ho;subst ho
     rw[(hh rfl).1,SU]
    rw[yD]at yC
    obtain⟨_,ZF,L6,mj⟩:=yC.2.2 _ rfl
    obtain⟨qx,L7,AJ,yE,ZG⟩:=rX (r':={r0 with st:=if jp.isNone then .ready else .done,ta:=jp}) (q':={ZF with state:=if jp.isNone then .ready else .done,pending:=jp}) Gq.sr Gq.bd tu yD L6
     ⟨rfl,rfl,mj.2.2.1,mj.2.2.2.1,mj.2.2.2.2.1,mj.2.2.2.2.2.1,mj.2.2.2.2.2.2⟩
    rw[rW _ _ _ _ _ (hC y)]at L7 AJ yE
    exact⟨_,_,run_endRound jp L6,jp.isNone,_,qx,rfl,lh,L7,((H4.trans Gi).trans Ol).trans AJ,((SH.trans LO).trans KW).trans yE⟩
   cases e with
   |normal=>
    obtain⟨y,qw,e2,hy⟩:=me
    refine fin y qw none (fun _=>True) e2 ⟨s y++[mr r0],tT++qw,by simp[r0],by simp[hC],fun _=>⟨y,rfl,hy⟩,fun h=>by simp at h⟩
   |ret=>
    obtain⟨y,qw,e2,hy⟩:=me
    refine fin y qw (some .ret) (fun _=>True) e2 ⟨s y++[mr {r0 with st:=.done,ta:=some (Ac.code .ret)}],tT++qw,by simp[Ac.code],by simp[hC],fun h=>by simp at h,fun _=>⟨y,.ret,rfl,hy⟩⟩
   |exit i=>
    obtain⟨y,qw,e2,hy⟩:=me
    refine fin y qw (some (.exit i)) (fun _=>True) e2 ⟨s y++[mr {r0 with st:=.done,ta:=some (Ac.code (.exit i))}],tT++qw,by simp[Ac.code],by simp[hC],fun h=>by simp at h,fun _=>⟨y,.exit i,rfl,hy⟩⟩
   |goto t=>exact me.elim
   |panic c=>exact me.elim
   |outgrown=>exact me.elim
  |exit i=>exact rQ.elim
  |goto t=>exact rQ.elim
  |ret=>exact rQ.elim
  |panic c=>exact rQ.elim
  |outgrown=>exact rQ.elim
 subst h0
 have L8:=lR.2 (m+1) m J DD (s x0++[mr r0]) (Nat.lt_succ_self _) (by simp[hC]) ⟨x0,rfl,hI⟩ ew
 rw[hC x0]at Oa
 have lE:=L8.go X lf wl (fx.toList++[Value.func (.yield wd.heap.size) #[] #[]]++fy.toList) (fun b hb=>cr (qX.bd b hb) f0) hs1 (by simp[<-R6,<-KU]) (by
  have VH:=SO.trans K1
  have g0:fx.toList.length=first.length:=by simpa using R6
  have g1:=nN (w:=wl) (X:=Xt X lf (s x0++[mr r0])) (β:=lf) (σ:=s x0++[mr r0]) (cs:=first) (ds:=[.Ai m]) (xs:=fx.toList) (ys:=[.func (.yield wd.heap.size) #[] #[]]) g0 rfl
   (fun i hi=>by have:=(Zz i hi).tr VH;simpa[mr,af,ab]using this) (fun i hi=>by
    have:i=0:=by simpa using hi
    subst this;exact Oa)
  exact(nN g1.1 (by simpa using KU) g1.2 (fun i hi=>by have:=(ZA i hi).tr VH;simpa[mr,af,ab]using this)).2)
 refine CallsIn.mono lE ?_
 rintro e w3 ⟨xr,rr,VI,O9,rfl,⟨τ,ν,rfl,pD,ZH⟩,UB,KT,SV,SX⟩
 have fin:∀(x:α) (r:Lp),τ=s x++[mr r]->r.st≠.busy->r.N=N->r.env=env->∃w4 tU qx,(Instr.endLoop wd.heap.size).run P w3=.ok r.ta w4/\(∃gz,tU=s x++gz)/\
  lY N n0 X env tU qx {a with defers:=[{target:=.collected w.heap.size,args:=#[]}]++a.defers} w4/\Ext w β (s x0) w4 qx tU/\Kp w (Xt X β (s x0)) β (s x0) w4 (Xt X qx tU) qx tU:=by
  rintro x r rfl Rg hrN hrE
  have tu:aG.at (s x++[mr r]++ν) m 0=some ⟨0,0,[],some (.lp r)⟩:=by
   have:=nn (s x) ν r m (hC x)
   simpa using this
  have yD:O9 m 0=some wd.heap.size:=by
   obtain⟨o,ho,_,_,hh⟩:=SX.wI m 0 _ (by simp[hC]) tu
   have:=nn (s x0) [] r0 m (hC x0)
   unfold mr at this
   have dN:some (⟨0,0,[],some (.lp r0)⟩:Ob)=some o:=by rw[<-this];exact ho
   injection dN with dN;subst dN
   rw[(hh rfl).1,<-Gn,<-hC x0];exact iy
  have yC:=UB.obj m 0 _ tu
  rw[yD]at yC
  obtain⟨_,q3,L6,mj⟩:=yC.2.2 _ rfl
  have UC:∀b,X b->b<w3.heap.size:=fun b hb=>cr (qX.bd b hb) (bT f0 SV.size)
  obtain⟨qx,L7,AJ,yE,_⟩:=rX (r':={r with st:=.exhausted}) (q':={q3 with state:=.exhausted}) UB UC tu yD L6
   ⟨rfl,mj.2.1,mj.2.2.1,mj.2.2.2.1,mj.2.2.2.2.1,mj.2.2.2.2.2.1,mj.2.2.2.2.2.2⟩
  have SY:aG.cZ (s x++[mr r]++ν) m 0 ⟨0,0,[],some (.lp {r with st:=.exhausted})⟩=s x++(some [⟨0,0,[],some (.lp {r with st:=.exhausted})⟩]::ν):=by
   have:=rW (s x) ν r ⟨0,0,[],some (.lp {r with st:=.exhausted})⟩ m (hC x)
   simpa using this
  rw[SY]at L7 AJ yE
  have eA:=run_endLoop (P:=P) L6 (by rw[mj.1];exact Rg)
  have eA:(Instr.endLoop wd.heap.size).run P w3=.ok r.ta (w3.putObj wd.heap.size (.loop {q3 with state:=.exhausted})):=by rw[eA];exact congrArg (fun p=>Result.ok p _) mj.2.1
  have VJ:=((VE.trans SQ).trans SV).trans AJ
  have VK:=((SO.trans K1).trans SX).trans yE
  refine⟨_,_,qx,eA,⟨_,rfl⟩,?_,VJ,VK⟩
  have tw:=cn.tr L7 VJ VK
  refine{tw with df:=?_}
  obtain⟨rs,sK,LB,hr⟩:=tw.df
  obtain⟨L9,SZ,L_,wN⟩:=cn.df
  have Gr:wl.heap[w.heap.size]?=some (.deferred (some [])):=by rw[LZ _ (by omega)];exact LX
  have O_:¬owned lf (s x0++[mr r0]) w.heap.size:=fun ho=>by
   have:=hs1.gT ho
   rcases pT (w:=wd) (bo:=some wd.heap.size) oI (β:=β) (σ:=s x0) (o:=⟨0,0,[],some (.lp r0)⟩) (b:=w.heap.size) (by rw[Gn];exact ho)with h|h
   ·have:=cn.sr.gT h;omega
   ·omega
  have S3:¬Xt X lf (s x0++[mr r0]) w.heap.size:=fun h=>h.elim (fun h=>by have:=cn.bd _ h;omega) O_
  have Lu:w3.heap[w.heap.size]?=some (.deferred (some [])):=by rw[SV.wJ _ (by omega) O_];exact Gr
  have S4:¬Xt X O9 (s x++[mr r]++ν) w.heap.size:=fun h=>S3 (SX.Aj _ (by omega) h)
  have S5:w.heap.size≠wd.heap.size:=by omega
  refine⟨w.heap.size::rs,eU.2 ⟨fun hm=>?_,sK⟩,by rw[bq];show _::a.defers=_;rw[show a.defers=rs.map _ from LB],fun mk hm=>?_⟩
  ·have Rh:rs=L9:=by
    have e1:rs.map (fun r=>({target:=.collected r,args:=#[]}:Deferred))=L9.map (fun r=>{target:=.collected r,args:=#[]}):=by rw[<-LB,<-L_]
    clear hr wN LB L_ sK SZ hm
    induction rs generalizing L9 with
    |nil=>cases L9 with|nil=>rfl|cons _ _=>simp at e1
    |cons c cs ih=>cases L9 with
     |nil=>simp at e1
     |cons d ds=>
      simp only[bq,A9,Deferred.mk.injEq,Target.collected.injEq,and_true]at e1
      rw[e1.1,ih ds e1.2]
   rw[Rh]at hm
   have:=ib (wN _ hm).1;omega
  ·rcases aC.1 hm with rfl|hm
   ·refine⟨by rw[nF _ _ S5];exact Lu,fun h=>S4 (yE.Aj _ (ib Lu) h),cn.nb⟩
   ·exact hr mk hm
 rcases ZH with⟨x,ex,hx⟩|⟨x,e,ex,hx⟩
 ·obtain⟨w4,tU,qx,eA,⟨gz,rfl⟩,tw,AJ,yE⟩:=fin x r0 ex (by simp[r0]) rfl rfl
  exact⟨_,w4,eA,⟨env,_,qx,SM x gz hx,tw,AJ,yE⟩⟩
 ·obtain⟨w4,tU,qx,eA,⟨gz,rfl⟩,tw,AJ,yE⟩:=fin x _ ex (by simp) rfl rfl
  refine⟨_,w4,eA,?_⟩
  cases e with
  |ret=>exact wpIn_ret ⟨env,_,qx,Er .ret x gz hx,tw,AJ,yE⟩
  |exit i=>exact wpIn_exit ⟨env,_,qx,Er (.exit i) x gz hx,tw,AJ,yE⟩
end
inductive RF where
 |t(n:Nat)
 |c(n:Nat)(s:Option Nat)
def Ev(env:Env)(σ:aG):RF->Option (Prop×AV)
 | .t n=>some (qD (gt env n)=true,bu (gt env n))
 | .c n s=>match ex (.load s (.t n)) (fun o=>bu (ov env o)) σ with
  |some (S,v,_)=>some (qD (gt env n)=true/\S,v)
  |none=>none
def uy(env:Env)(σ:aG):List RF->Option (Prop×List AV)
 | []=>some (True,[])
 |r::rs=>match Ev env σ r,uy env σ rs with
  |some (S,v),some (S',vs)=>some (S/\S',v::vs)
  |_,_=>none
def one(vs:List AV):AV:=
 match vs with
 | [v]=>v
 |vs=>.iu vs
def sw(rs:List RF)(R:AV->aG->Prop):e7:=fun e env σ=>
 match e with
 | .ret| .normal=>match uy env σ rs with
  |some (S,vs)=>S/\R (one vs) σ
  |none=>False
 |_=>False
def S6(P:Program):ResultVar->RF->Bool
 | .tmp t,.t n=>t==n
 | .cell a t,.c n s=>a==n&&(match su P t,s with
  |some false,none=>true
  |some true,some n=>nh P t==some n
  |_,_=>false)
 |_,_=>false
def wU(P:Program):List ResultVar->List RF->Bool
 | [],[]=>true
 |a::r,b::s=>S6 P a b&&wU P r s
 |_,_=>false
structure CF where
 N:Nat
 c:C
 rs:List RF
def jP(P:Program)(fn:Func)(cf:CF):Bool:=
 fn.ntmps==cf.N&&wU P fn.results.toList cf.rs&&(match fn.body with|some code=>kY P cf.N code cf.c|none=>false)
def tx:Nat->List AV->Env
 |_,[]=>[]
 |n,a::r=>(n,a)::tx (n+1) r
def Ew(tmps:Array Value):ResultVar->Sem Value
 | .tmp t=>pure (tmps.getD t undef)
 | .cell p t=>do loadVar t (<-asAddr (tmps.getD p undef))
theorem Gs(fn:Func)(tmps:Array Value):results fn tmps=(do let vs<-fn.results.mapM (Ew tmps);pure (if h:vs.size=1 then vs[0]else .tuple vs)):=by
 unfold results
 have:(fun x=>match x with|ResultVar.tmp t=>pure (tmps.getD t undef)|ResultVar.cell a t=>do loadVar t (<-asAddr (tmps.getD a undef)):ResultVar->Sem Value)=Ew tmps:=by
  funext rv;cases rv<;>rfl
 congr 1
section
variable {P:Program} {N n0:Nat} {X:Nat->Prop} {env:Env} {σ:aG} {β:gr} {a:Act} {w:World}
theorem L'(cn:lY N n0 X env σ β a w){rv:ResultVar}{rf:RF}{S:Prop}{v:AV}(hc:S6 P rv rf=true)(h:Ev env σ rf=some (S,v))(hS:S):∃x,(Ew a.tmps rv).run P w=.ok x w/\RV w (Xt X β σ) β σ v x:=by
 cases rv<;>cases rf<;>simp only[S6,bw,ak,beq_iff_eq]at hc
 ·subst hc
  simp only[Ev,ah,aw]at h
  obtain⟨rfl,rfl⟩:=h
  exact⟨_,rfl,mh (cn.ev _) hS⟩
 ·rename_i p t n s
  obtain⟨rfl,hc⟩:=hc
  simp only[Ev]at h
  split at h
  case h_2=>cases h
  rename_i S' v' σ' hex
  simp only[ah,aw]at h
  obtain⟨rfl,rfl⟩:=h
  obtain⟨rfl,x,hr,hx⟩:=D2 (P:=P) (o:={dst:=none,op:=.load t (.tmp p),type:=0,pos:= "",after:=#[],guard:=none}) (ρ:=a.eval) (v:=fun o=>bu (ov env o))
   (by simp only[ck,ak,dt,beq_self_eq_true,true_and];exact hc) cn.sr
   (fun x z h hz=>by
    simp only[I.os,bp]at hz;subst hz
    exact mh (o_ cn h) hS.1) hex hS.2
  refine⟨x,?_,hx⟩
  have hv:=mh (cn.ev p) hS.1
  have ZI:∃ad,a.tmps.getD p undef=.pointer (some ad):=by
   simp only[ex,ov]at hex
   generalize bu (gt env p)=q at hex hv
   generalize a.tmps.getD p undef=tv at hv
   cases q<;>try(simp at hex;done)
   case bZ cs j=>cases hv;exact⟨_,rfl⟩
   case ptr f i n e j=>
    simp only[obj]at hex
    cases dQ:σ'.at f i with
    |none=>rw[dQ]at hex;simp at hex
    |some ob=>
     rw[dQ]at hex
     cases hv with
     |ptr _ _ _ _ _ _ h1 hf hle h=>
      have hn:ob.es.length=n:=by
       cases s<;>simp only[ah,aw]at hex<;>(obtain⟨h0,_⟩:=hex;have:=hS.2;rw[<-h0]at this;exact this.1)
      obtain⟨b,_,hb⟩:=h ob dQ hn
      exact⟨_,hb⟩
  obtain⟨ad,XY⟩:=ZI
  have:(execOp a.eval {dst:=none,op:=.load t (.tmp p),type:=0,pos:= "",after:=#[],guard:=none}).run P w=((loadVar t ad).run P w).andThen fun x w'=>.ok (.value x) w':=by
   simp only[execOp,Act.eval,XY,Instr.loadAt,Instr.sureAddr,pure_bind,bx,dD]
  rw[this]at hr
  simp only[Ew,XY,asAddr,pure_bind]
  cases hl:(loadVar t ad).run P w with
  |ok y w'=>rw[hl]at hr;simp only[bg,Result.ok.injEq,Next.value.injEq]at hr;rw[hr.1,hr.2]
  |halt q w'=>rw[hl]at hr;simp at hr
theorem Ex(cn:lY N n0 X env σ β a w):∀{ZJ:List ResultVar} {rs:List RF} {S:Prop} {vs:List AV},wU P ZJ rs=true->uy env σ rs=some (S,vs)->S->∃xs:List Value,(ZJ.mapM (Ew a.tmps)).run P w=.ok xs w/\xs.length=vs.length/\∀i,i<vs.length->RV w (Xt X β σ) β σ (vs.getD i .any) (xs.getD i undef)
 | [],[],S,vs,_,h,hS=>by
  simp only[uy,ah,aw]at h
  obtain⟨rfl,rfl⟩:=h
  exact⟨[],by simp,rfl,fun i hi=>absurd hi (aN _)⟩
 |rv::ZJ,r::rs,S,vs,hc,h,hS=>by
  simp only[wU,ak]at hc
  simp only[uy]at h
  split at h
  case h_2=>cases h
  rename_i S1 v S2 vs' h1 h2
  simp only[ah,aw]at h
  obtain⟨rfl,rfl⟩:=h
  obtain⟨x,hx,qu⟩:=L' cn hc.1 h1 hS.1
  obtain⟨xs,wL,hl,hr⟩:=Ex cn hc.2 h2 hS.2
  refine⟨x::xs,?_,by simp[hl],fun i hi=>?_⟩
  ·rw[List.mapM_cons,bx,hx,bg,bx,wL,bg];rfl
  ·cases i with
   |zero=>simpa using qu
   |succ i=>simpa using hr i (by simpa using hi)
 | [],_::_,_,_,hc,_,_=>by simp[wU]at hc
 |_::_,[],_,_,hc,_,_=>by simp[wU]at hc
theorem Ey{fn:Func}(cn:lY N n0 X env σ β a w){rs:List RF}{S:Prop}{vs:List AV}(hc:wU P fn.results.toList rs=true)(h:uy env σ rs=some (S,vs))(hS:S):∃x,(results fn a.tmps).run P w=.ok x w/\RV w (Xt X β σ) β σ (one vs) x:=by
 obtain⟨xs,hx,hl,hr⟩:=Ex cn hc h hS
 have h0:(results fn a.tmps).run P w=.ok (if h:xs.toArray.size=1 then xs.toArray[0]else .tuple xs.toArray) w:=by
  rw[Gs,Array.mapM_eq_mapM_toList]
  simp only[bx,Sem.run_map]
  rw[hx]
  rfl
 refine⟨_,h0,?_⟩
 unfold one
 split
 ·rename_i v
  obtain⟨x,rfl⟩:=cq.1 hl
  have:=hr 0 (by simp)
  simpa using this
 ·rename_i iw
  have B9:¬xs.toArray.size=1:=by
   intro h1
   obtain⟨v,rfl⟩:=cq.1 (show vs.length=1 by rw[<-hl];simpa using h1)
   exact iw v rfl
  rw[dif_neg B9]
  refine .iu _ _ (by simpa using hl) fun i hi=>?_
  simpa[af,ab]using hr i hi
theorem wV{fn:Func}{R:Ending->World->Prop}{rs:List RF}{S:Prop}{vs:List AV}(hc:wU P fn.results.toList rs=true)(h:uy env σ rs=some (S,vs))(hS:S){tmps:Array Value}:∀(l:List Nat) (w:World),l.Nodup->(∀r∈l,w.heap[r]?=some (.deferred (some []))/\¬Xt X β σ r/\n0<=r)->lY N n0 X env σ β {tmps:=tmps,defers:=[]} w->(∀w',w.heap.size=w'.heap.size->(∀b,b<n0->w'.heap[b]?=w.heap[b]?)->Still w w'->Kp w (Xt X β σ) β σ w' (Xt X β σ) β σ->dG w' X β σ->∀x,RV w' (Xt X β σ) β σ (one vs) x->R (.returned x) w')->LeavesInM Fence.wide 0 P fn tmps R (l.map fun r=>{target:=.collected r,args:=#[]}) .returning w
 | [],w,_,_,cn,hR=>by
  obtain⟨x,hx,hr⟩:=Ey cn hc h hS
  exact⟨x,hx,hR w rfl (fun _ _=>rfl) (Still.refl w) Kp.refl cn.sr x hr⟩
 |r::l,w,sK,hl,cn,hR=>by
  obtain⟨h1,h2,h3⟩:=hl r (by simp)
  have bP:=ib h1
  have yF:∀b,b≠r->(w.putObj r (.deferred none)).heap[b]?=w.heap[b]?:=fun b hb=>nF w _ hb
  have iw:∀b c T fr,w.heap[b]?=some (.cells c T fr)->b≠r:=fun b c T fr hb e=>by rw[e,h1]at hb;cases hb
  have K:Kp w (Xt X β σ) β σ (w.putObj r (.deferred none)) (Xt X β σ) β σ:=
   {size:=by rw[putObj_size];exact ar _
    I1:=fun b o hb hF _=>yF b fun e=>by rw[e,h1]at hb;injection hb with hb;subst hb;exact hF
    Aj:=fun _ _ h=>h
    len:=ar _
    wI:=fun f i o _ ho=>⟨o,ho,rfl,ar _,fun _=>⟨rfl,fun b _ c T lC=>⟨c,T,by rw[yF b (iw b c T _ lC)];exact lC,rfl⟩⟩⟩}
  have nv:dG (w.putObj r (.deferred none)) X β σ:=
   {inj:=cn.sr.inj,xJ:=cn.sr.xJ
    obj:=fun f i o ho=>(cn.sr.obj f i o ho).tr K fun b hb=>yF b fun e=>h2 (e▸ .inr ⟨f,i,o,ho,hb⟩)}
  refine⟨by simp,.inl ⟨r,_,rfl,run_takeDeferred h1,?_⟩⟩
  refine wV hc h hS l _ (eU.1 sK).2 (fun r' wN=>?_) ⟨cn.sz,⟨[],h_,rfl,fun _ h=>absurd h (au)⟩,fun b hb=>by rw[putObj_size];exact cn.bd b hb,by rw[putObj_size];exact cn.nb,nv,fun s=>(cn.ev s).tr K⟩ fun w' e1 e2 ei e3 e4 x hx=>?_
  ·have hrr:r'≠r:=fun e=>(eU.1 sK).1 (e▸wN)
   rw[yF r' hrr]
   exact hl r' (by simp[wN])
  ·refine hR w' (by rw[<-e1,putObj_size]) (fun b hb=>?_) (Still.trans ⟨rfl,rfl,rfl,(by first|exact ar _|exact cO _)⟩ ei) (K.trans e3) e4 x hx
   rw[e2 b hb,yF b (by omega)]
theorem Ez:∀(args:List AV) (xs:List Value) (n k:Nat) (tmps:Array Value),xs.length=args.length->(∀i,i<args.length->RV w (Xt X β σ) β σ (args.getD i .any) (xs.getD i undef))->(∀i,i<xs.length->tmps.getD (n+i) undef=xs.getD i undef)->∀s,RV w (Xt X β σ) β σ (gt (tx n args) s) (tmps.getD s undef)
 | [],xs,n,k,tmps,_,_,_,s=>.any _
 |a::args,[],n,k,tmps,hl,_,_,s=>by simp at hl
 |a::args,x::xs,n,k,tmps,hl,hr,ht,s=>by
  simp only[tx,gt]
  by_cases hs:n=s
  ·subst hs
   simp only[beq_self_eq_true,cond_true]
   have h1:=ht 0 (by simp)
   have h2:=hr 0 (by simp)
   simp only[eE,dF]at h1 h2
   rw[h1];exact h2
  ·rw[show(n==s)=false by simpa using hs]
   refine Ez args xs (n+1) k tmps (by simpa using hl) (fun i hi=>by simpa using hr (i+1) (by simpa using hi)) (fun i hi=>?_) s
   have:=ht (i+1) (by simpa using hi)
   rw[show n+1+i=n+(i+1) by omega,this];simp
theorem eY.rY{f:Nat}{fn:Func}{cf:CF}{args:List AV}{R:AV->aG->Prop}(lD:∀as_ w,(callFunc f as_).run P w=.ok (.enter f as_) w)(hf:P.funcs[f]?=some fn)(mw:jP P fn cf=true)(hlen:args.length<=cf.N)(h:aR P cf.N none cf.c (sw cf.rs R) (tx 0 args) σ):eY P f args σ R:=by
 refine⟨lD,fun X β w xs hX hs mF qu=>?_⟩
 simp only[jP,ak,beq_iff_eq]at mw
 obtain⟨⟨hN,S7⟩,lF⟩:=mw
 cases hb:fn.body with
 |none=>rw[hb]at lF;simp at lF
 |some code=>
 rw[hb]at lF
 simp only at lF
 refine callsIn_of_wp_marks hf hb trivial ?_
 have eX:(xs.toArray++Array.replicate (fn.ntmps-xs.toArray.size) undef).size=cf.N:=by simp;omega
 have cn:lY cf.N w.heap.size X (tx 0 args) σ β {tmps:=xs.toArray++Array.replicate (fn.ntmps-xs.toArray.size) undef,defers:=[]} w:=by
  refine⟨eX,⟨[],h_,rfl,fun _ h=>absurd h (au)⟩,hX,ar _,hs,Ez args xs 0 0 _ mF qu fun i hi=>?_⟩
  simp only[br,af,ab]
  rw[cA (by simpa using hi)]
  simp
 refine wpIn_mono (h code lF w.heap.size X β _ w cn) fun e a' w' hp=>?_
 obtain⟨dj,σ',β',hk,fV,he,kp⟩:=hp
 have lh:∀(S:Prop) (vs:List AV),uy dj σ' cf.rs=some (S,vs)->S->R (one vs) σ'->LeavesInM Fence.wide 0 P fn a'.tmps (fun e w'=>∃x r σ' β',e=.returned x/\R r σ'/\dG w' X β' σ'/\RV w' (Xt X β' σ') β' σ' r x/\Ext w β σ w' β' σ'/\
  Kp w (Xt X β σ) β σ w' (Xt X β' σ') β' σ') a'.defers .returning w':=by
  intro S vs hr hS hR
  obtain⟨l,sK,LB,hl⟩:=fV.df
  rw[LB]
  refine wV (n0:=w.heap.size) (N:=cf.N) (X:=X) (β:=β') S7 hr hS l w' sK hl {fV with df:=⟨[],h_,rfl,fun _ h=>absurd h (au)⟩} fun w2 e1 e2 ei e3 e4 x hx=>?_
  refine⟨x,_,σ',β',rfl,hR,e4,hx,⟨by rw[<-e1];exact he.size,fun b hb hn=>by rw[e2 b hb,he.wJ b hb hn],he.new,he.io.trans ei⟩,kp.trans e3⟩
 cases e with
 |normal=>
  simp only[sw]at hk
  split at hk
  ·exact lh _ _ ‹_› hk.1 hk.2
  ·exact hk.elim
 |ret=>
  simp only[sw]at hk
  split at hk
  ·exact lh _ _ ‹_› hk.1 hk.2
  ·exact hk.elim
 |_=>exact hk.elim
def bO(σ:aG)(v r:AV):Prop:=∀w X β x,dG w X β σ->RV w (Xt X β σ) β σ v x->RV w X sJ [] r x
theorem bO.pure{v:AV}(h:bC v):bO σ v v:=fun w X β x hs hx=>by
 have h1:=h _ _ _ _ _ hx
 exact h1.tr ⟨ar _,fun _ _ _ _ _=>rfl,fun b _ hb=>.inl hb,ar _,fun f i o' hf=>absurd hf (aN _)⟩
theorem bO.agg{cs ds:List AV}(hl:cs.length=ds.length)(h:∀i,i<cs.length->bO σ (cs.getD i .any) (ds.getD i .any)):bO σ (.agg cs) (.agg ds):=fun w X β x hs hx=>by
 cases hx with
 |agg _ xs hn h1 hr=>exact .agg ds xs (hn.trans hl) (fun i hi=>h1 i (by omega)) fun i hi=>h i (by omega) w X β _ hs (hr i (by omega))
theorem bO.iu{cs ds:List AV}(hl:cs.length=ds.length)(h:∀i,i<cs.length->bO σ (cs.getD i .any) (ds.getD i .any)):bO σ (.iu cs) (.iu ds):=fun w X β x hs hx=>by
 cases hx with
 |iu _ xs hn hr=>exact .iu ds xs (hn.trans hl) fun i hi=>h i (by omega) w X β _ hs (hr i (by omega))
theorem bO.own{f i n:Nat}{o:Ob}{es:List (List AV)}(Q1:o.k≠0)(ho:σ.at f i=some o)(hn:o.es.length=n)(hl:es.length=n)(h:∀e j,e<n->j<o.k->bO σ ((o.es.getD e []).getD j .any) ((es.getD e []).getD j .any))(hk:∀e,e<n->(es.getD e []).length=o.k):bO σ (.own f i n) (.sl o.k es):=fun w X β x hs hx=>by
 have ic:=hs.obj f i o ho
 cases hx with
 |own _ _ _ _ Mr hf hle hh=>
  have h':=hh o ho hn
  unfold kD at h'
  have h2:=ic.2
  cases hb:β f i with
  |none=>
   rw[hb]at h'
   obtain⟨e0,rfl⟩:=h'
   have:n=0:=by rw[<-hn,e0];rfl
   subst this
   rw[cd.1 hl]
   exact .slnil _
  |some b=>
   rw[hb]at h' h2
   obtain⟨cap,c0,T0,rfl,CL,vx⟩:=h'
   rw[hb]at ic
   obtain⟨c,hc,eX,jN,hr⟩:=h2.1 (ic.ya CL)
   rw[hc]at CL;injection CL with CL;injection CL with CL _;subst CL
   subst hn
   rw[<-hl]
   ·refine .sl o.k es b 0 cap (fun e j=>c.getD (e*o.k+j) undef) ?_ (fun e he=>hk e (by omega)) (fun e he j hj=>?_) (fun e j he hj hx=>?_) (fun e j he hj=>jN e j (by omega) hj) fun e j he hj=>h e j (by omega) hj w X β _ hs (hr e j (by omega) hj)
    ·rw[hl];rw[vx]at eX;exact d_ eX (by omega)
    ·have:=iE (k:=o.k) (show e<o.es.length by omega)
     rw[br,cell_of_row w b _ c _ _ hc]
     simp[af,show e*o.k+j<c.size by omega]
    ·exact hs.xJ f i o b ho hb hx
theorem Pure.rY{f:Nat}{fn:Func}{cf:CF}{args:List AV}{r:AV}(lD:∀as_ w,(callFunc f as_).run P w=.ok (.enter f as_) w)(hf:P.funcs[f]?=some fn)(mw:jP P fn cf=true)(hlen:args.length<=cf.N)(h:aR P cf.N none cf.c (sw cf.rs fun v σ'=>bO σ' v r) (tx 0 args) []):Pure P f args r:=by
 obtain⟨_,hd⟩:=eY.rY lD hf mw hlen h
 refine⟨lD,fun X w xs hX mF qu=>?_⟩
 have ti:∀f i o,¬aG.at ([]:aG) f i=some o:=fun f i o h=>by have:=dU h;simp at this
 have hs:dG w X sJ []:=⟨fun f i _ _ o _ _ h=>absurd h (ti f i o),fun f i o _ h=>absurd h (ti f i o),fun f i o h=>absurd h (ti f i o)⟩
 have ZK:Xt X sJ []=X:=by
  funext b;apply propext
  exact⟨fun h=>h.elim id fun⟨f,i,o,h,_⟩=>absurd h (ti f i o),.inl⟩
 refine(hd X sJ w xs hX hs mF (fun i hi=>by rw[ZK];exact qu i hi)).mono ?_
 rintro e w' ⟨x,v,σ',β',rfl,hR,nM,hv,he,kp⟩
 exact⟨x,rfl,hR w' X β' x nM hv,he.size,fun b hb=>he.wJ b hb fun⟨f,i,o,h,_⟩=>ti f i o h,he.io⟩
theorem mu{f:Nat}{fn:Func}{cf:CF}{args:List AV}{r:AV}(lD:∀as_ w,(callFunc f as_).run P w=.ok (.enter f as_) w)(hf:P.funcs[f]?=some fn)(mw:jP P fn cf=true)(h:aR P cf.N none cf.c (sw cf.rs fun v σ'=>bO σ' v r) (tx 0 args) [])(hlen:Nat.ble args.length cf.N=true:=by exact rfl):Pure P f args r:=Pure.rY lD hf mw (gM hlen) h
theorem Ri{f:Nat}{fn:Func}{cf:CF}{args:List AV}{R:AV->aG->Prop}(lD:∀as_ w,(callFunc f as_).run P w=.ok (.enter f as_) w)(hf:P.funcs[f]?=some fn)(mw:jP P fn cf=true)(h:aR P cf.N none cf.c (sw cf.rs R) (tx 0 args) σ)(hlen:Nat.ble args.length cf.N=true:=by exact rfl):eY P f args σ R:=eY.rY lD hf mw (gM hlen) h
theorem et(N:Nat)(c:C)(rs:List RF){f:Nat}{fn:Func}{args:List AV}{r:AV}(lD:∀as_ w,(callFunc f as_).run P w=.ok (.enter f as_) w)(hf:P.funcs[f]?=some fn)(h:aR P N none c (sw rs fun v σ'=>bO σ' v r) (tx 0 args) [])(mw:jP P fn ⟨N,c,rs⟩=true:=by kernel_rfl)(hlen:Nat.ble args.length N=true:=by exact rfl):Pure P f args r:=Pure.rY lD hf mw (gM hlen) h
theorem qY(N:Nat)(c:C)(rs:List RF){f:Nat}{fn:Func}{args:List AV}{R:AV->aG->Prop}(lD:∀as_ w,(callFunc f as_).run P w=.ok (.enter f as_) w)(hf:P.funcs[f]?=some fn)(h:aR P N none c (sw rs R) (tx 0 args) σ)(mw:jP P fn ⟨N,c,rs⟩=true:=by kernel_rfl)(hlen:Nat.ble args.length N=true:=by exact rfl):eY P f args σ R:=eY.rY lD hf mw (gM hlen) h
end
theorem VL(a b:Int):(a==b)=decide (a=b):=by
 by_cases h:a=b<;>simp[h]
theorem VM(a b:Int):(a !=b)=decide (¬a=b):=by
 by_cases h:a=b<;>simp[h]
theorem VN(a b:Bool):(bif a then b else false)=(a&&b):=by cases a<;>rfl
theorem VO(a b:Bool):(bif a then true else b)=(a||b):=by cases a<;>rfl
theorem Ma(p q:Prop) [Decidable p] [Decidable q]:(decide p&&decide q)=decide (p/\q):=by simp
theorem Rj(p q:Prop) [Decidable p] [Decidable q]:(decide p||decide q)=decide (p\/q):=by simp
theorem Mb(p:Prop) [Decidable p]:(!decide p)=decide (¬p):=by simp
theorem Pure.args{P:Program}{f:Nat}{args qh:List AV}{r:AV}(hl:args.length=qh.length)(h:∀i,i<args.length->∀w X x,RV w X sJ [] (args.getD i .any) x->RV w X sJ [] (qh.getD i .any) x)(hp:Pure P f qh r):Pure P f args r:=
 ⟨hp.1,fun X w xs hX mF hr=>hp.go X w xs hX (mF.trans hl) fun i hi=>h i (by omega) w X _ (hr i (by omega))⟩
theorem RV.nil{w:World}{X:Nat->Prop}{β:gr}{σ:aG}{k:Nat}{x:Value}(h:RV w X β σ (.v (.slice none 0 0)) x):RV w X β σ (.sl k []) x:=by
 cases h;exact .slnil k
theorem yG{a b A B:Int}(h1:0<=a)(h2:a<=A)(h3:0<=b)(h4:b<=B):0<=a*b/\a*b<=A*B:=
 ⟨Int.mul_nonneg h1 h3,Int.mul_le_mul h2 h4 h3 (by omega)⟩
theorem bO.eq{σ:aG}{v r:AV}(h:v=r)(hp:bC v):bO σ v r:=h▸bO.pure hp
theorem cB(n:Int)(h1:-9223372036854775808<=n)(h2:n<9223372036854775808):IntKind.i64.wrap n=n:=by rw[gu];omega
theorem O'(env:Env):Sub [] env:=fun p hp=>absurd hp (au)
theorem pE{k:Nat}{v:AV}{l env:Env}:Sub ((k,v)::l) env↔gt env k=v/\Sub l env:=
 ⟨fun h=>⟨h (k,v) (by simp),fun p hp=>h p (by simp[hp])⟩,fun h p hp=>by
  rcases aC.1 hp with rfl|hp
  ·exact h.1
  ·exact h.2 p hp⟩
theorem Jk(env:Env):Sub [] env↔True:=⟨fun _=>trivial,fun _=>O' env⟩
theorem getD_map{α β:Type}{f:α->β}{l:List α}{i:Nat}{x:α}{d:β}(h:l[i]?=some x):(l.map f).getD i d=f x:=by
 simp[ab,h]
theorem drop_cons{α:Type}{l:List α}{i:Nat}{x:α}(h:l[i]?=some x):l.drop i=x::l.drop (i+1):=by
 obtain⟨hi,rfl⟩:=ai.1 h
 exact List.drop_eq_getElem_cons hi
theorem Mc(f i:Nat):aG.at [] f i=none:=by simp[aG.at]
theorem uz(F:List Ob)(l:aG)(i:Nat):aG.at (some F::l) 0 i=F[i]?:=by simp[aG.at]
theorem cQ(a:Option (List Ob))(l:aG)(f i:Nat):aG.at (a::l) (f+1) i=aG.at l f i:=by simp[aG.at]
theorem dR(τ l:aG)(f i:Nat):aG.at (τ++l) (τ.length+f) i=aG.at l f i:=by
 unfold aG.at;rw[bE (by omega),show τ.length+f-τ.length=f by omega]
theorem dV(τ l:aG)(i:Nat):aG.at (τ++l) τ.length i=aG.at l 0 i:=dR τ l 0 i
theorem cI{τ l:aG}{f i:Nat}(h:f<τ.length):aG.at (τ++l) f i=aG.at τ f i:=by
 unfold aG.at;rw[cy h]
theorem rZ(F:List Ob)(l:aG)(i:Nat)(o:Ob):aG.cZ (some F::l) 0 i o=some (F.set i o)::l:=by simp[aG.cZ]
theorem r7(a:Option (List Ob))(l:aG)(f i:Nat)(o:Ob):aG.cZ (a::l) (f+1) i o=a::aG.cZ l f i o:=by
 unfold aG.cZ
 rw[dW]
 cases h:l[f]? with
 |none=>rfl
 |some F=>cases F<;>rfl
theorem fC(τ l:aG)(f i:Nat)(o:Ob):aG.cZ (τ++l) (τ.length+f) i o=τ++aG.cZ l f i o:=by
 unfold aG.cZ
 rw[bE (by omega),show τ.length+f-τ.length=f by omega]
 cases h:l[f]? with
 |none=>rfl
 |some F=>
  cases F with
  |none=>rfl
  |some F=>
   show List.set _ _ _=_
   rw[fa _ _ (by omega),show τ.length+f-τ.length=f by omega]
theorem qZ(τ l:aG)(i:Nat)(o:Ob):aG.cZ (τ++l) τ.length i o=τ++aG.cZ l 0 i o:=fC τ l 0 i o
theorem iR{τ l:aG}{f i:Nat}{o:Ob}(h:f<τ.length):aG.cZ (τ++l) f i o=aG.cZ τ f i o++l:=by
 unfold aG.cZ
 rw[cy h]
 cases hh:τ[f]? with
 |none=>rfl
 |some F=>
  cases F with
  |none=>rfl
  |some F=>
   show List.set _ _ _=_
   rw[List.set_append_left _ _ h]
section
variable {P:Program} {N n0:Nat} {rd:Option Nat} {K:e7} {X:Nat->Prop} {β:gr} {σ:aG} {w:World}
theorem Kp.oC{T k:Nat}(hs:dG w X β σ):Kp w (Xt X β σ) β σ w (Xt X (kv β σ.length none) (σ++[some [⟨T,k,[],none⟩]])) (kv β σ.length none) (σ++[some [⟨T,k,[],none⟩]]):=
 Kp.push hs (ar _) (fun _ _=>rfl) (fun b hb=>by cases hb)
theorem dG.oC{T k:Nat}(hs:dG w X β σ)(hX:∀b,X b->b<w.heap.size):dG w X (kv β σ.length none) (σ++[some [⟨T,k,[],none⟩]]):=
 hs.push hX (ar _) (fun _ _=>rfl) (fun b hb=>by cases hb) ⟨fun e he=>absurd he (aN _),rfl,rfl⟩
theorem RV.oC{T k:Nat}{x:Value}(hx:x=.slice none 0 0):RV w X (kv β σ.length none) (σ++[some [⟨T,k,[],none⟩]]) (.own σ.length 0 0) x:=by
 subst hx
 refine .own _ _ _ _ rfl (by simp) (fun o _=>aQ _) fun o ho _=>?_
 rw[gS]at ho;simp at ho;subst ho
 unfold kD;rw[iy];exact⟨rfl,rfl⟩
theorem aR.oC(T k t:Nat){c:C}{env:Env}(ht:gt env t=.v (.slice none 0 0))(h:aR P N rd c K ((t,.own σ.length 0 0)::env) (σ++[some [⟨T,k,[],none⟩]])):aR P N rd c K env σ:=by
 intro code hc n0 X β a w cn
 have K1:=Kp.oC (T:=T) (k:=k) cn.sr
 have E1:Ext w β σ w (kv β σ.length none) (σ++[some [⟨T,k,[],none⟩]]):=Ext.push (ar _) (fun _ _=>rfl) (fun b hb=>by cases hb)
 have kx:=cn.tr (cn.sr.oC (T:=T) (k:=k) cn.bd) E1 K1
 have Ux:∀s,RV w (Xt X (kv β σ.length none) (σ++[some [⟨T,k,[],none⟩]])) (kv β σ.length none) (σ++[some [⟨T,k,[],none⟩]]) (gt ((t,.own σ.length 0 0)::env) s) (a.tmps.getD s undef):=by
  intro s
  simp only[gt]
  by_cases hs:t=s
  ·subst hs
   simp only[beq_self_eq_true,cond_true]
   have:=cn.ev t
   rw[ht]at this
   exact RV.oC this.dz
  ·rw[show(t==s)=false by simpa using hs];exact kx.ev s
 have jV:lY N n0 X ((t,.own σ.length 0 0)::env) (σ++[some [⟨T,k,[],none⟩]]) (kv β σ.length none) a w:={kx with ev:=Ux}
 exact wpIn_mono (h code hc n0 X _ a w jV) fun e a w hp=>hp.trans E1 K1
theorem aR.lH(T k:Nat){f i e j:Nat}{o:Ob}{c:C}{env:Env}(ho:σ.at f i=some o)(he:e<o.es.length)(hj:(o.es.getD e [])[j]?=some (.v (.slice none 0 0)))(h:aR P N rd c K env (aG.cZ (σ++[some [⟨T,k,[],none⟩]]) f i {o with es:=o.es.set e ((o.es.getD e []).set j (.own σ.length 0 0))})):aR P N rd c K env σ:=by
 intro code hc n0 X β a w cn
 have K1:=Kp.oC (T:=T) (k:=k) cn.sr
 have E1:Ext w β σ w (kv β σ.length none) (σ++[some [⟨T,k,[],none⟩]]):=Ext.push (ar _) (fun _ _=>rfl) (fun b hb=>by cases hb)
 have S1:=cn.sr.oC (T:=T) (k:=k) cn.bd
 have kx:=cn.tr S1 E1 K1
 have hf:=dU ho
 have S8:aG.at (σ++[some [⟨T,k,[],none⟩]]) f i=some o:=by rw[oH σ _ hf];exact ho
 generalize Gn:kv β σ.length none=lf at K1 E1 S1 kx
 generalize EA:(σ++[some [⟨T,k,[],none⟩]]:aG)=lN at K1 E1 S1 kx S8 h
 have ic:=S1.obj f i o S8
 have nB:=ic.nA he
 have ht:ss w lf f i (lf f i) w:=⟨ar _,fun _ _ _=>rfl,fun b hb=>.inl hb,Still.refl w⟩
 let o':Ob:={o with es:=o.es.set e ((o.es.getD e []).set j (.own σ.length 0 0))}
 have hlen:o.es.length=o'.es.length:=by simp[o']
 have fe:o.es.length=o'.es.length->lf f i=lf f i/\∀b,lf f i=some b->dM w w b:=fun _=>⟨rfl,fun b _=>dM.refl w b⟩
 have K2:=Kp.jM (o':=o') S1 S8 ht rfl (dS hlen) fe
 have E2:Ext w lf lN w (sE lf f i (lf f i)) (lN.cZ f i o'):=Ext.jM S8 ht
 have cX:∀e',(o'.es.getD e' []).length=(o.es.getD e' []).length:=by
  intro e'
  simp only[o',ab,bX]
  split
  ·rename_i h;subst h;simp[he]
  ·rfl
 have S2:=S1.jM (o':=o') kx.bd S8 ht rfl (dS hlen) fe (by
  refine⟨fun e' mB=>by rw[cX];exact ic.1 e' (by omega),?_⟩
  have h2:=ic.2
  cases hb:lf f i with
  |none=>rw[hb]at h2;rw[h2.1]at he;exact absurd he (aN _)
  |some b=>
   rw[hb]at h2 ic
   refine⟨fun _=>?_,fun r hr=>(by simp only[o']at hr;rw[nB]at hr;cases hr)⟩
   obtain⟨c,lC,hle,h1,hr⟩:=h2.1 nB
   refine⟨c,lC,by rw[<-hlen];exact hle,fun e' j' mB o9=>h1 e' j' (by omega) o9,fun e' j' mB o9=>?_⟩
   have h3:=hr e' j' (by omega) o9
   have h4:=h3.tr K2
   rw[hb]at h4
   by_cases hq:e'=e/\j'=j
   ·obtain⟨rfl,rfl⟩:=hq
    have hv:(o'.es.getD e' []).getD j' .any=.own σ.length 0 0:=by
     have vi:=(ai.1 hj).1
     have h5:o'.es.getD e' []=(o.es.getD e' []).set j' (.own σ.length 0 0):=by
      simp only[o',ab,cp he,bV]
     rw[h5,ab,cp vi];rfl
    rw[hv]
    have te:c.getD (e'*o.k+j') undef=.slice none 0 0:=by
     have:(o.es.getD e' []).getD j' .any=.v (.slice none 0 0):=by rw[ab,hj];rfl
     rw[this]at h3;exact h3.dz
    have h6:RV w (Xt X lf lN) lf lN (.own σ.length 0 0) (c.getD (e'*o.k+j') undef):=by
     rw[<-Gn,<-EA];exact RV.oC te
    have:=h6.tr K2
    rw[hb]at this
    exact this
   ·have:(o'.es.getD e' []).getD j' .any=(o.es.getD e' []).getD j' .any:=by
     simp only[o',ab,bX]
     split
     ·rename_i I4
      subst I4
      simp only[he,if_true,bV,bX]
      rw[if_neg fun VP=>hq ⟨rfl,VP.symm⟩]
     ·rfl
    rw[this];exact h4)
 exact wpIn_mono (h code hc n0 X _ a w (kx.tr S2 E2 K2)) fun e a w hp=>hp.trans (E1.trans E2) (K1.trans K2)
end
end Go.Abs
namespace Go.Abs
open Go.RowKit Go.WideShapes
theorem AK{P:Program}{f:Nat}{args:List AV}{r:AV}(h:Pure P f args r)(W:World)(xs:List Value)(hl:xs.length=args.length)(hr:∀i,i<args.length->RV W (fun _=>False) sJ [] (args.getD i .any) (xs.getD i undef)):Calls P f xs.toArray W fun e W'=>∃x,e=.returned x/\RV W' (fun _=>False) sJ [] r x/\Below W.heap.size W W':=
 callsIn_wide.1 ((h.go _ W xs (fun b hb=>hb.elim) hl hr).mono fun e w' ⟨x,he,hx,hs,ho,Ar⟩=>⟨x,he,hx,⟨Ar.1,Ar.2.1,Ar.2.2.1,hs,ho⟩⟩)
end Go.Abs
namespace Go.Abs
structure Sp where
 lo:Int
 hi:Int
 deriving DecidableEq
def Mem(v:Int)(l:List Sp):Prop:=∃s∈l,s.lo<=v/\v<=s.hi
def Norm:List Sp->Prop
 | []=>True
 |s::r=>s.lo<=s.hi/\(∀t∈r,s.hi+1<t.lo)/\Norm r
theorem Mem.nil{v:Int}:¬Mem v []:=fun⟨_,h,_⟩=>absurd h (au)
theorem mem_cons{v:Int}{s:Sp}{r:List Sp}:Mem v (s::r)↔(s.lo<=v/\v<=s.hi)\/Mem v r:=by
 constructor
 ·rintro⟨t,ht,h⟩
  rcases aC.1 ht with rfl|ht
  ·exact .inl h
  ·exact .inr ⟨t,ht,h⟩
 ·rintro(h|⟨t,ht,h⟩)
  ·exact⟨s,by simp,h⟩
  ·exact⟨t,by simp[ht],h⟩
theorem mem_append{v:Int}{a b:List Sp}:Mem v (a++b)↔Mem v a\/Mem v b:=by
 constructor
 ·rintro⟨t,ht,h⟩
  rcases bm.1 ht with ht|ht
  ·exact .inl ⟨t,ht,h⟩
  ·exact .inr ⟨t,ht,h⟩
 ·rintro(⟨t,ht,h⟩|⟨t,ht,h⟩)
  ·exact⟨t,bm.2 (.inl ht),h⟩
  ·exact⟨t,bm.2 (.inr ht),h⟩
theorem Norm.ne{l:List Sp}(h:Norm l):∀s∈l,s.lo<=s.hi:=by
 induction l with
 |nil=>intro s hs;exact absurd hs (au)
 |cons t r ih=>
  intro s hs
  rcases aC.1 hs with rfl|hs
  ·exact h.1
  ·exact ih h.2.2 s hs
theorem jH{a b:List Sp}:Norm (a++b)↔Norm a/\Norm b/\∀s∈a,∀t∈b,s.hi+1<t.lo:=by
 induction a with
 |nil=>simp[Norm]
 |cons s a ih=>
  simp only[aD,Norm,ih,bm,aC]
  constructor
  ·rintro⟨h1,h2,h3,h4,h5⟩
   refine⟨⟨h1,fun t ht=>h2 t (.inl ht),h3⟩,h4,?_⟩
   rintro u (rfl|hu) t ht
   ·exact h2 t (.inr ht)
   ·exact h5 u hu t ht
  ·rintro⟨⟨h1,h2,h3⟩,h4,h5⟩
   refine⟨h1,?_,h3,h4,fun u hu t ht=>h5 u (.inr hu) t ht⟩
   rintro t (ht|ht)
   ·exact h2 t ht
   ·exact h5 s (.inl rfl) t ht
theorem Norm.ext{a b:List Sp}(ha:Norm a)(hb:Norm b)(h:∀v,Mem v a↔Mem v b):a=b:=by
 induction a generalizing b with
 |nil=>
  cases b with
  |nil=>rfl
  |cons t b=>exact absurd ((h t.lo).2 (mem_cons.2 (.inl ⟨eZ _,hb.1⟩))) Mem.nil
 |cons s a ih=>
  cases b with
  |nil=>exact absurd ((h s.lo).1 (mem_cons.2 (.inl ⟨eZ _,ha.1⟩))) Mem.nil
  |cons t b=>
   obtain⟨a1,a2,a3⟩:=ha
   obtain⟨b1,b2,b3⟩:=hb
   have low:∀{s:Sp} {r:List Sp} {v:Int},s.lo<=s.hi->(∀t∈r,s.hi+1<t.lo)->Mem v (s::r)->s.lo<=v:=by
    intro s r v h1 h2 hv
    rcases mem_cons.1 hv with hv|⟨u,hu,hv⟩
    ·exact hv.1
    ·have:=h2 u hu;omega
   have e1:s.lo=t.lo:=by
    have g1:=low b1 b2 ((h s.lo).1 (mem_cons.2 (.inl ⟨eZ _,a1⟩)))
    have g2:=low a1 a2 ((h t.lo).2 (mem_cons.2 (.inl ⟨eZ _,b1⟩)))
    omega
   have top:∀{s t:Sp} {a b:List Sp},s.lo=t.lo->s.lo<=s.hi->(∀u∈a,s.hi+1<u.lo)->(∀v,Mem v (t::b)->Mem v (s::a))->t.hi<=s.hi:=by
    intro s t a b e h1 h2 h3
    refine Int.not_lt.1 fun bP=>?_
    rcases mem_cons.1 (h3 (s.hi+1) (mem_cons.2 (.inl ⟨by omega,by omega⟩)))with hv|⟨u,hu,hv⟩
    ·omega
    ·have:=h2 u hu;omega
   have e2:s.hi=t.hi:=by
    have g1:=top e1 a1 a2 fun v=>(h v).2
    have g2:=top e1.symm b1 b2 fun v=>(h v).1
    omega
   have e:s=t:=by cases s;cases t;simp_all
   subst e
   rw[ih a3 b3 fun v=>?_]
   have VQ:∀{r:List Sp},(∀t∈r,s.hi+1<t.lo)->Mem v r->s.hi<v:=by
    rintro r hr ⟨u,hu,hv⟩;have:=hr u hu;omega
   have hv:=h v
   rw[mem_cons,mem_cons]at hv
   constructor
   ·intro hm
    have:=VQ a2 hm
    rcases hv.1 (.inr hm)with g|g
    ·omega
    ·exact g
   ·intro hm
    have:=VQ b2 hm
    rcases hv.2 (.inr hm)with g|g
    ·omega
    ·exact g
def join:List Sp->Sp->List Sp
 | [],x=>[x]
 |s::r,x=>if s.hi+1<x.lo then s::join r x else if x.hi+1<s.lo then x::s::r else join r ⟨min x.lo s.lo,max x.hi s.hi⟩
theorem Md{l:List Sp}{x:Sp}{B:Int}(hl:∀t∈l,B<t.lo)(hx:B<x.lo):∀t∈join l x,B<t.lo:=by
 induction l generalizing x with
 |nil=>simpa[join]using hx
 |cons s r ih=>
  have hr:∀t∈r,B<t.lo:=fun t ht=>hl t (by simp[ht])
  have hs:=hl s (by simp)
  unfold join
  split
  ·intro t ht
   rcases aC.1 ht with rfl|ht
   ·exact hs
   ·exact ih hr hx t ht
  ·split
   ·intro t ht
    rcases aC.1 ht with rfl|ht
    ·exact hx
    ·exact hl t ht
   ·exact ih hr (by simp only;omega)
theorem Me{l:List Sp}{x:Sp}(hl:Norm l)(hx:x.lo<=x.hi)(v:Int):Mem v (join l x)↔Mem v l\/(x.lo<=v/\v<=x.hi):=by
 induction l generalizing x with
 |nil=>simp[join,mem_cons,Mem.nil]
 |cons s r ih=>
  obtain⟨h1,h2,h3⟩:=hl
  unfold join
  split
  ·rw[mem_cons,mem_cons,ih h3 hx,or_assoc]
  ·split
   ·rw[mem_cons,or_comm]
   ·rw[ih h3 (by simp only;omega),mem_cons]
    simp only
    constructor
    ·rintro(h|h)
     ·exact .inl (.inr h)
     ·by_cases g:s.lo<=v/\v<=s.hi
      ·exact .inl (.inl g)
      ·exact .inr (by omega)
    ·rintro((h|h)|h)
     ·exact .inr (by omega)
     ·exact .inl h
     ·exact .inr (by omega)
theorem Jl{l:List Sp}{x:Sp}(hl:Norm l)(hx:x.lo<=x.hi):Norm (join l x):=by
 induction l generalizing x with
 |nil=>exact⟨hx,fun t h=>absurd h (au),trivial⟩
 |cons s r ih=>
  have Av:=hl
  obtain⟨h1,h2,h3⟩:=hl
  unfold join
  split
  ·exact⟨h1,Md h2 (by omega),ih h3 hx⟩
  ·split
   ·refine⟨hx,fun t ht=>?_,Av⟩
    rcases aC.1 ht with rfl|ht
    ·omega
    ·have:=h2 t ht;omega
   ·exact ih h3 (by simp only;omega)
def push(l:List Sp)(x:Sp):List Sp:=
 match l.getLast? with
 |some s=>if x.lo<=s.hi+1 then l.dropLast++[⟨s.lo,max s.hi x.hi⟩]else l++[x]
 |none=>[x]
theorem mG(i:List Sp)(s x:Sp):push (i++[s]) x=if x.lo<=s.hi+1 then i++[⟨s.lo,max s.hi x.hi⟩]else i++[s,x]:=by
 simp[push]
theorem mS(x:Sp):push [] x=[x]:=rfl
theorem Jm{l:List Sp}{x:Sp}(hl:Norm l)(hx:x.lo<=x.hi)(h:∀s∈l,s.lo<=x.lo):Norm (push l x)/\(∀v,Mem v (push l x)↔Mem v l\/(x.lo<=v/\v<=x.hi))/\∀s∈push l x,s.lo<=x.lo:=by
 rcases dp l with rfl|⟨i,s,rfl⟩
 ·refine⟨⟨hx,fun t h=>absurd h (au),trivial⟩,fun v=>?_,?_⟩
  ·simp[mS,mem_cons,Mem.nil]
  ·simp[mS]
 ·rw[dq]at hl h|-
  obtain⟨hi,⟨hs,_,_⟩,hd⟩:=jH.1 hl
  have hsx:=h s (by simp)
  rw[mG]
  split
  ·refine⟨jH.2 ⟨hi,⟨by simp only;omega,fun t h=>absurd h (au),trivial⟩,fun u hu t ht=>?_⟩,fun v=>?_,fun u hu=>?_⟩
   ·have:t=⟨s.lo,max s.hi x.hi⟩:=by simpa using ht
    subst this
    exact hd u hu s (by simp)
   ·rw[mem_append,mem_append,mem_cons,mem_cons]
    simp only[Mem.nil,or_false]
    constructor
    ·rintro(h|h)
     ·exact .inl (.inl h)
     ·by_cases g:v<=s.hi
      ·exact .inl (.inr (by omega))
      ·exact .inr (by omega)
    ·rintro((h|h)|h)
     ·exact .inl h
     ·exact .inr (by omega)
     ·exact .inr (by omega)
   ·rcases bm.1 hu with hu|hu
    ·exact h u (by simp[hu])
    ·have:u=⟨s.lo,max s.hi x.hi⟩:=by simpa using hu
     subst this;exact hsx
  ·refine⟨?_,fun v=>?_,fun u hu=>?_⟩
   ·rw[show i++[s,x]=(i++[s])++[x] by simp]
    refine jH.2 ⟨hl,⟨hx,fun t h=>absurd h (au),trivial⟩,fun u hu t ht=>?_⟩
    obtain rfl:t=x:=by simpa using ht
    rcases bm.1 hu with hu|hu
    ·have:=hd u hu s (by simp);omega
    ·obtain rfl:u=s:=by simpa using hu
     omega
   ·rw[show i++[s,x]=(i++[s])++[x] by simp,mem_append,mem_cons]
    simp only[Mem.nil,or_false]
   ·rw[show i++[s,x]=(i++[s])++[x] by simp]at hu
    rcases bm.1 hu with hu|hu
    ·exact h u hu
    ·obtain rfl:u=x:=by simpa using hu
     omega
def merged(l:List Sp):List Sp:=l.foldl push []
theorem oS(l:List Sp):∀(acc:List Sp),Norm acc->(∀s∈l,s.lo<=s.hi)->(∀s∈acc,∀t∈l,s.lo<=t.lo)->l.Pairwise (fun s t=>s.lo<=t.lo)->Norm (l.foldl push acc)/\∀v,Mem v (l.foldl push acc)↔Mem v acc\/Mem v l:=by
 induction l with
 |nil=>intro acc ha _ _ _;exact⟨ha,fun v=>by simp[Mem.nil]⟩
 |cons x l ih=>
  intro acc ha iw hle hp
  obtain⟨p1,p2,p3⟩:=Jm ha (iw x (by simp)) fun s hs=>hle s hs x (by simp)
  rw[ct]at hp
  obtain⟨q1,q2⟩:=ih (push acc x) p1 (fun s hs=>iw s (by simp[hs])) (fun s hs t ht=>Int.le_trans (p3 s hs) (hp.1 t ht)) hp.2
  refine⟨q1,fun v=>?_⟩
  rw[cT,q2,p2,mem_cons,or_assoc]
abbrev Sp.cap(a b:Sp):Sp:=⟨max a.lo b.lo,min a.hi b.hi⟩
theorem Cq{v:Int}{a b:Sp}:((a.cap b).lo<=v/\v<=(a.cap b).hi)↔(a.lo<=v/\v<=a.hi)/\(b.lo<=v/\v<=b.hi):=by
 simp only[Sp.cap];omega
theorem ab2{s:Sp}{r:List Sp}(h:Norm (s::r)):Norm r:=h.2.2
def sQ(l:List Sp)(x:Sp):List Sp:=if x.hi<x.lo then l else join l x
theorem Jn{l:List Sp}{x:Sp}(hl:Norm l)(v:Int):Mem v (sQ l x)↔Mem v l\/(x.lo<=v/\v<=x.hi):=by
 unfold sQ
 split
 ·exact⟨.inl,fun h=>h.elim id fun h=>by omega⟩
 ·exact Me hl (by omega) v
theorem yH{l:List Sp}{x:Sp}(hl:Norm l):Norm (sQ l x):=by
 unfold sQ
 split
 ·exact hl
 ·exact Jl hl (by omega)
theorem Mf(l:List Sp)(x:Sp):(join l x).length<=l.length+1:=by
 induction l generalizing x with
 |nil=>simp[join]
 |cons s r ih=>
  unfold join
  split
  ·have:=ih x;simp only[bf];omega
  ·split
   ·simp
   ·have:=ih ⟨min x.lo s.lo,max x.hi s.hi⟩;simp only[bf];omega
theorem Jo(l:List Sp)(x:Sp):(sQ l x).length<=l.length+1:=by
 unfold sQ
 split
 ·omega
 ·exact Mf l x
def jI(l b:List Sp):List Sp:=b.foldl sQ l
theorem pF{b:List Sp}:∀{l:List Sp},Norm l->∀v,Mem v (jI l b)↔Mem v l\/Mem v b:=by
 induction b with
 |nil=>intro l h v;simp[jI,Mem.nil]
 |cons x b ih=>intro l h v;show Mem v (jI (sQ l x) b)↔_;rw[ih (yH h),Jn h,mem_cons,or_assoc]
theorem nW{b:List Sp}:∀{l:List Sp},Norm l->Norm (jI l b):=by
 induction b with
 |nil=>intro l h;exact h
 |cons x b ih=>intro l h;exact ih (yH h)
theorem Bx{b:List Sp}:∀{l:List Sp},(jI l b).length<=l.length+b.length:=by
 induction b with
 |nil=>intro l;exact ar _
 |cons x b ih=>intro l;have:=ih (l:=sQ l x);have h2:=Jo l x;simp only[bf];show(jI (sQ l x) b).length<=_;omega
def dZ(s:Sp)(b:List Sp):List Sp:=b.map s.cap
theorem Mg{s:Sp}{b:List Sp}(v:Int):Mem v (dZ s b)↔(s.lo<=v/\v<=s.hi)/\Mem v b:=by
 unfold dZ
 constructor
 ·rintro⟨u,hu,h⟩
  obtain⟨t,ht,rfl⟩:=aO.1 hu
  have:=Cq.1 h
  exact⟨this.1,t,ht,this.2⟩
 ·rintro⟨h,t,ht,h'⟩
  exact⟨s.cap t,aO.2 ⟨t,ht,rfl⟩,Cq.2 ⟨h,h'⟩⟩
def meet(a b:List Sp):List Sp:=a.foldl (fun l s=>jI l (dZ s b)) []
theorem vL(a b:List Sp):Norm (meet a b)/\(∀v,Mem v (meet a b)↔Mem v a/\Mem v b)/\(meet a b).length<=a.length*b.length:=by
 have h:∀(a l:List Sp),Norm l->Norm (a.foldl (fun l s=>jI l (dZ s b)) l)/\(∀v,Mem v (a.foldl (fun l s=>jI l (dZ s b)) l)↔Mem v l\/(Mem v a/\Mem v b))/\(a.foldl (fun l s=>jI l (dZ s b)) l).length<=l.length+a.length*b.length:=by
  intro a
  induction a with
  |nil=>intro l h;exact⟨h,fun v=>by simp[Mem.nil],by simp⟩
  |cons x a ih=>
   intro l hl
   obtain⟨i1,i2,i3⟩:=ih _ (nW (b:=dZ x b) hl)
   refine⟨i1,fun v=>?_,?_⟩
   ·rw[cT,i2,pF hl,Mg,mem_cons,or_and_right,or_assoc]
   ·have h1:=Bx (l:=l) (b:=dZ x b)
    have h2:(dZ x b).length=b.length:=by simp[dZ]
    rw[cT,bf,xc]
    omega
 obtain⟨h1,h2,h3⟩:=h a [] trivial
 exact⟨h1,fun v=>by rw[meet,h2];simp[Mem.nil],by unfold meet;simpa using h3⟩
theorem vM(a b:List Sp):Norm (meet a b):=(vL a b).1
theorem q8(a b:List Sp)(v:Int):Mem v (meet a b)↔Mem v a/\Mem v b:=(vL a b).2.1 v
theorem Bz{l:List Sp}{A B:Int}(hn:Norm l)(h:∀v,Mem v l->A<=v/\v<=B):∀s∈l,A<=s.lo/\s.hi<=B:=fun s hs=>
 have iw:=hn.ne s hs
 ⟨(h s.lo ⟨s,hs,eZ _,iw⟩).1,(h s.hi ⟨s,hs,iw,eZ _⟩).2⟩
theorem Jp{l:List Sp}{A B:Int}(h:∀s∈l,A<=s.lo/\s.hi<=B){v:Int}(hv:Mem v l):A<=v/\v<=B:=by
 obtain⟨s,hs,h1,h2⟩:=hv
 have:=h s hs;omega
theorem Norm.q9{l:List Sp}:∀{A B:Int},Norm l->(∀s∈l,A<=s.lo/\s.hi<=B)->(l.length:Int)<=max 0 (B-A+1):=by
 induction l with
 |nil=>intro A B _ _;simp only[bM];omega
 |cons s r ih=>
  intro A B hn hb
  obtain⟨h1,h2,h3⟩:=hn
  have hs:=hb s (by simp)
  have:=ih (A:=s.hi+2) (B:=B) h3 fun t ht=>by have:=h2 t ht;have:=hb t (by simp[ht]);omega
  rw[bf]
  push_cast
  omega
def comm:List Sp->List Sp->List Sp
 | [],_=>[]
 |_::_,[]=>[]
 |s::a,t::b=>(if(s.cap t).lo<=(s.cap t).hi then [s.cap t]else [])++(if s.hi<t.hi then comm a (t::b)else comm (s::a) b)
termination_by a b=>a.length+b.length
theorem BA(a b:List Sp)(ha:Norm a)(hb:Norm b):Norm (comm a b)/\∀v,Mem v (comm a b)↔Mem v a/\Mem v b:=by
 suffices main:∀(m:Nat) (a b:List Sp),a.length+b.length<=m->Norm a->Norm b->Norm (comm a b)/\∀v,Mem v (comm a b)↔Mem v a/\Mem v b from main _ a b (ar _) ha hb
 intro m
 induction m with
 |zero=>
  intro a b hm _ _
  have:a=[]:=cd.1 (by omega)
  subst this
  unfold comm
  exact⟨trivial,fun v=>⟨fun h=>absurd h Mem.nil,fun h=>absurd h.1 Mem.nil⟩⟩
 |succ m ih=>
  intro a b hm ha hb
  cases a with
  |nil=>unfold comm;exact⟨trivial,fun v=>⟨fun h=>absurd h Mem.nil,fun h=>absurd h.1 Mem.nil⟩⟩
  |cons s a=>
  cases b with
  |nil=>unfold comm;exact⟨trivial,fun v=>⟨fun h=>absurd h Mem.nil,fun h=>absurd h.2 Mem.nil⟩⟩
  |cons t b=>
  simp only[bf]at hm
  have OI:=ha
  have oz:=hb
  obtain⟨a1,a2,a3⟩:=OI
  obtain⟨b1,b2,b3⟩:=oz
  have VQ:∀v,Mem v a->s.hi+1<v:=fun v ⟨u,hu,h1,h2⟩=>by have:=a2 u hu;omega
  have VR:∀v,Mem v b->t.hi+1<v:=fun v ⟨u,hu,h1,h2⟩=>by have:=b2 u hu;omega
  have ep:∀v,Mem v (if(s.cap t).lo<=(s.cap t).hi then [s.cap t]else [])↔(s.lo<=v/\v<=s.hi)/\(t.lo<=v/\v<=t.hi):=fun v=>by
   split
   ·rw[mem_cons];simp only[Mem.nil,or_false];exact Cq
   ·rename_i hc
    simp only[Mem.nil,false_iff]
    simp only[Sp.cap]at hc
    omega
  unfold comm
  by_cases bP:s.hi<t.hi
  ·rw[if_pos bP]
   obtain⟨i1,i2⟩:=ih a (t::b) (by simp only[bf];omega) a3 hb
   refine⟨?_,fun v=>?_⟩
   ·by_cases hc:(s.cap t).lo<=(s.cap t).hi
    ·rw[if_pos hc]
     refine⟨hc,fun u hu=>?_,i1⟩
     have h1:=i1.ne u hu
     have h2:=VQ u.lo ((i2 u.lo).1 ⟨u,hu,eZ _,h1⟩).1
     simp only[Sp.cap];omega
    ·rw[if_neg hc];exact i1
   ·rw[mem_append,i2,mem_cons (s:=s),mem_cons (s:=t) (r:=b),ep]
    constructor
    ·rintro(h|h)
     ·exact⟨.inl h.1,.inl h.2⟩
     ·exact⟨.inr h.1,h.2⟩
    ·rintro⟨h1|h1,h2⟩
     ·rcases h2 with h2|h2
      ·exact .inl ⟨h1,h2⟩
      ·have:=VR v h2;omega
     ·exact .inr ⟨h1,h2⟩
  ·rw[if_neg bP]
   obtain⟨i1,i2⟩:=ih (s::a) b (by simp only[bf];omega) ha b3
   refine⟨?_,fun v=>?_⟩
   ·by_cases hc:(s.cap t).lo<=(s.cap t).hi
    ·rw[if_pos hc]
     refine⟨hc,fun u hu=>?_,i1⟩
     have h1:=i1.ne u hu
     have h2:=VR u.lo ((i2 u.lo).1 ⟨u,hu,eZ _,h1⟩).2
     simp only[Sp.cap];omega
    ·rw[if_neg hc];exact i1
   ·rw[mem_append,i2,mem_cons (s:=s) (r:=a),mem_cons (s:=t) (r:=b),ep]
    constructor
    ·rintro(h|h)
     ·exact⟨.inl h.1,.inl h.2⟩
     ·exact⟨h.1,.inr h.2⟩
    ·rintro⟨h1,h2|h2⟩
     ·rcases h1 with h1|h1
      ·exact .inl ⟨h1,h2⟩
      ·have:=VQ v h1;omega
     ·exact .inr ⟨h1,h2⟩
theorem Jq{a b:List Sp}(ha:Norm a)(hb:Norm b):comm a b=meet a b:=
 Norm.ext (BA a b ha hb).1 (vM a b) fun v=>by rw[(BA a b ha hb).2,q8]
structure qy where
 to:Int
 ch:Sp
structure q_ where
 al:List Sp
 nx:List qy
abbrev ka:=List (List q_)
structure At where
 node:Int
 val:Int
deriving DecidableEq
def iV(l:List Sp):Prop:=Norm l/\∀s∈l,-100000<=s.lo/\s.hi<=100000
abbrev small(l:List Sp):Prop:=l.length<=64/\iV l
abbrev Gt(s:Sp):Prop:=-100000<=s.lo/\s.lo<=s.hi/\s.hi<=100000
def EB(m:Nat)(e:qy):Prop:=0<=e.to/\e.to<(m:Int)/\Gt e.ch
def EC(m:Nat)(x:q_):Prop:=small x.al/\x.nx.length<=64/\∀e∈x.nx,EB m e
def yI(m:Nat)(l:List q_):Prop:=1<=l.length/\l.length<=4000/\∀x∈l,EC m x
def wd(t:ka)(k:Nat):Nat:=(t.getD k []).length
def valid(t:ka):Prop:=1<=t.length/\t.length<=401/\∀k,k<t.length->yI (wd t (k+1)) (t.getD k [])
def wide(l:List Sp)(c:Sp):List Sp:=l.map fun x=>⟨x.lo+c.lo,x.hi+c.hi⟩
structure np where
 fr:Nat
 to:Nat
 ch:Sp
def np.flip(h:np):np:=⟨h.to,h.fr,⟨-h.ch.hi,-h.ch.lo⟩⟩
def pY(i:Nat)(x:q_):List np:=x.nx.map fun e=>⟨i,e.to.toNat,e.ch⟩
def rb:Nat->List q_->List np
 |_,[]=>[]
 |i,x::r=>pY i x++rb (i+1) r
abbrev AL(l:List q_):List np:=rb 0 l
def Jr(cur:List (List Sp))(j:Nat)(h:np):List Sp:=if h.to=j then wide (cur.getD h.fr []) h.ch else []
def jh(hs:List np)(cur:List (List Sp))(j:Nat):List Sp:=hs.flatMap (Jr cur j)
def nw(hs:List np)(cur al:List (List Sp))(j:Nat):List Sp:=meet (jI [] (jh hs cur j)) (al.getD j [])
def AM(hs:List np)(cur al:List (List Sp)):List (List Sp):=(List.range al.length).map (nw hs cur al)
def nq(al:Nat->List (List Sp))(hs:Nat->List np)(first:List (List Sp)):Nat->List (List Sp)
 |0=>first
 |k+1=>AM (hs k) (nq al hs first k) (al (k+1))
def tp(t:ka)(k:Nat):List (List Sp):=(t.getD k []).map (·.al)
def H6(t:ka)(k:Nat):List np:=AL (t.getD k [])
def fwd(t:ka)(k:Nat):List (List Sp):=nq (tp t) (H6 t) (tp t 0) k
def yJ(t:ka)(k:Nat):List (List Sp):=tp t (t.length-1-k)
def yK(t:ka)(k:Nat):List np:=(H6 t (t.length-2-k)).map np.flip
def sA(t:ka)(k:Nat):List (List Sp):=nq (yJ t) (yK t) (yJ t 0) k
def bwd(t:ka)(k:Nat):List (List Sp):=sA t (t.length-1-k)
def Js(t:ka):List (List (List Sp)):=(List.range t.length).map (bwd t)
def both(a b:List (List Sp)):List (List Sp):=List.zipWith meet a b
def tz(t:ka)(k:Nat):List (List Sp):=both (fwd t k) (bwd t k)
def BB(t:ka):List (List (List Sp)):=(List.range t.length).map (tz t)
theorem Mi{l:List Sp}{c:Sp}(hl:∀s∈l,s.lo<=s.hi)(hc:c.lo<=c.hi)(v:Int):Mem v (wide l c)↔∃u,Mem u l/\c.lo<=v-u/\v-u<=c.hi:=by
 unfold wide Mem
 constructor
 ·rintro⟨s,hs,h1,h2⟩
  obtain⟨x,hx,rfl⟩:=aO.1 hs
  have:=hl x hx
  simp only at h1 h2
  refine⟨max x.lo (v-c.hi),⟨x,hx,?_,?_⟩,?_,?_⟩<;>omega
 ·rintro⟨u,⟨x,hx,h1,h2⟩,h3,h4⟩
  exact⟨_,aO.2 ⟨x,hx,rfl⟩,by simp only;omega,by simp only;omega⟩
theorem mem_flatMap{α:Type}{l:List α}{f:α->List Sp}{v:Int}:Mem v (l.flatMap f)↔∃x∈l,Mem v (f x):=by
 unfold Mem
 constructor
 ·rintro⟨s,hs,h⟩
  obtain⟨x,hx,hs⟩:=fc.1 hs
  exact⟨x,hx,s,hs,h⟩
 ·rintro⟨x,hx,s,hs,h⟩
  exact⟨s,fc.2 ⟨x,hx,hs⟩,h⟩
theorem yL:iV []:=⟨by simp[Norm],by simp⟩
theorem re:Norm []:=by simp[Norm]
theorem rh(l:List Sp):Norm (jI [] l):=nW re
theorem tD(l:List Sp)(v:Int):Mem v (jI [] l)↔Mem v l:=by
 rw[pF re]
 exact⟨fun h=>h.resolve_left Mem.nil,.inr⟩
theorem r8{a b:List Sp}(hb:iV b):iV (meet a b):=
 ⟨vM a b,Bz (vM a b) fun v hv=>Jp hb.2 ((q8 a b v).1 hv).2⟩
theorem pG{l:List Sp}(h:iV l):l.length<=200001:=by
 have:=h.1.q9 h.2
 omega
theorem getD_some{α:Type}{l:List α}{i:Nat}{d:α}(h:i<l.length):l[i]?=some (l.getD i d):=by
 rw[ab,ae h];rfl
def kq(l:List (List Sp)):Prop:=∀x∈l,iV x
theorem ki{l:List (List Sp)}(h:kq l)(i:Nat):iV (l.getD i []):=by
 by_cases hi:i<l.length
 ·exact h _ (ao (getD_some hi))
 ·rw[ab,b_ (by omega)];exact yL
theorem Mj(hs:List np)(cur al:List (List Sp)):(AM hs cur al).length=al.length:=by simp[AM]
theorem Ml{hs:List np}{cur al:List (List Sp)}{j:Nat}(h:j<al.length):(AM hs cur al)[j]?=some (nw hs cur al j):=by simp[AM,h]
theorem Gu{hs:List np}{cur al:List (List Sp)}(h:kq al):kq (AM hs cur al):=fun x hx=>by
 obtain⟨j,_,rfl⟩:=aO.1 hx
 exact r8 (ki h j)
theorem Mm{hs:List np}{cur:List (List Sp)}(hc:kq cur)(hh:∀h∈hs,h.ch.lo<=h.ch.hi)(j:Nat)(v:Int):Mem v (jh hs cur j)↔∃h∈hs,h.to=j/\∃u,Mem u (cur.getD h.fr [])/\h.ch.lo<=v-u/\v-u<=h.ch.hi:=by
 unfold jh
 rw[mem_flatMap]
 refine exists_congr fun h=>and_congr_right fun hm=>?_
 unfold Jr
 by_cases e:h.to=j
 ·rw[if_pos e,Mi (fun s hs=>(ki hc _).1.ne s hs) (hh h hm)]
  exact⟨fun h=>⟨e,h⟩,fun h=>h.2⟩
 ·rw[if_neg e]
  exact⟨fun h=>absurd h Mem.nil,fun h=>absurd h.1 e⟩
theorem Mn{hs:List np}{cur al:List (List Sp)}(hc:kq cur)(ha:kq al)(hh:∀h∈hs,h.ch.lo<=h.ch.hi)(j:Nat)(v:Int):Mem v (nw hs cur al j)↔(∃h∈hs,h.to=j/\∃u,Mem u (cur.getD h.fr [])/\h.ch.lo<=v-u/\v-u<=h.ch.hi)/\Mem v (al.getD j []):=by
 unfold nw
 rw[q8,tD,Mm hc hh]
theorem Jt{l:List q_}:∀{i:Nat} {h:np},h∈rb i l↔∃k x e,l[k]?=some x/\e∈x.nx/\h=⟨i+k,e.to.toNat,e.ch⟩:=by
 induction l with
 |nil=>intro i h;simp[rb]
 |cons y r ih=>
  intro i h
  simp only[rb,bm,ih,pY,aO]
  constructor
  ·rintro(⟨e,he,rfl⟩|⟨k,x,e,hk,he,rfl⟩)
   ·exact⟨0,y,e,rfl,he,rfl⟩
   ·exact⟨k+1,x,e,by simpa using hk,he,by simp;omega⟩
  ·rintro⟨k,x,e,hk,he,rfl⟩
   cases k with
   |zero=>simp at hk;subst hk;exact .inl ⟨e,he,rfl⟩
   |succ k=>exact .inr ⟨k,x,e,by simpa using hk,he,by simp;omega⟩
theorem ED{l:List q_}{h:np}:h∈AL l↔∃k x e,l[k]?=some x/\e∈x.nx/\h=⟨k,e.to.toNat,e.ch⟩:=by
 rw[AL,Jt];simp
theorem lZ{t:ka}(h:valid t){k:Nat}(hk:k<t.length):yI (wd t (k+1)) (t.getD k []):=h.2.2 k hk
theorem BC{t:ka}(h:valid t){k i:Nat}{x:q_}(hx:(t.getD k [])[i]?=some x):EC (wd t (k+1)) x:=by
 by_cases hk:k<t.length
 ·exact(lZ h hk).2.2 x (ao hx)
 ·rw[ab,b_ (l:=t) (i:=k) (by omega)]at hx;simp at hx
theorem kj{t:ka}(h:valid t)(k:Nat):kq (tp t k):=fun x hx=>by
 obtain⟨y,hy,rfl⟩:=aO.1 hx
 obtain⟨i,hi⟩:=fb.1 hy
 exact(BC h hi).1.2
theorem r9(t:ka)(k:Nat):(tp t k).length=wd t k:=by simp[tp,wd]
theorem vN{t:ka}(h:valid t){k:Nat}{g:np}(hg:g∈H6 t k):g.fr<wd t k/\g.to<wd t (k+1)/\Gt g.ch:=by
 obtain⟨i,x,e,hx,he,rfl⟩:=ED.1 hg
 have h1:=(BC h hx).2.2 e he
 have h2:=(ai.1 hx).1
 obtain⟨a,b,c⟩:=h1
 refine⟨h2,?_,c⟩
 show e.to.toNat<wd t (k+1)
 omega
theorem r_{al:Nat->List (List Sp)}{hs:Nat->List np}{f:List (List Sp)}(hf:kq f)(ha:∀k,kq (al k)):∀k,kq (nq al hs f k)
 |0=>hf
 |k+1=>Gu (ha (k+1))
theorem Cs{al:Nat->List (List Sp)}{hs:Nat->List np}{f:List (List Sp)}(hf:f.length=(al 0).length):∀k,(nq al hs f k).length=(al k).length
 |0=>hf
 |k+1=>Mj _ _ _
theorem vO{t:ka}(h:valid t)(k:Nat):kq (fwd t k):=r_ (kj h 0) (kj h) k
theorem nG(t:ka)(k:Nat):(fwd t k).length=wd t k:=by rw[fwd,Cs rfl,r9]
theorem lU{t:ka}(h:valid t)(k:Nat):kq (yJ t k):=kj h _
theorem Gv{t:ka}(h:valid t)(k:Nat):kq (sA t k):=r_ (lU h 0) (lU h) k
theorem Mo(t:ka)(k:Nat):(sA t k).length=wd t (t.length-1-k):=by rw[sA,Cs rfl,yJ,r9]
theorem BD{t:ka}(h:valid t)(k:Nat):kq (bwd t k):=Gv h _
theorem sb{t:ka}{k:Nat}(hk:k<t.length):(bwd t k).length=wd t k:=by rw[bwd,Mo,show t.length-1-(t.length-1-k)=k by omega]
def xS(t:ka)(k:Nat)(a:At):Prop:=0<=a.node/\a.node<(wd t k:Int)/\Mem a.val ((tp t k).getD a.node.toNat [])
def Gw(t:ka)(k:Nat)(a b:At):Prop:=∃h∈H6 t k,h.fr=a.node.toNat/\h.to=b.node.toNat/\h.ch.lo<=b.val-a.val/\b.val-a.val<=h.ch.hi
def FT(t:ka):Nat->List At->Prop
 |_,[]=>True
 |k,[a]=>xS t k a
 |k,a::b::r=>xS t k a/\Gw t k a b/\FT t (k+1) (b::r)
def acT(t:ka)(c:List At):Prop:=c.length=t.length/\FT t 0 c
theorem pH{t:ka}{k:Nat}{a:At}{r:List At}:FT t k (a::r)↔xS t k a/\(∀b,r[0]?=some b->Gw t k a b)/\FT t (k+1) r:=by
 cases r with
 |nil=>simp[FT]
 |cons b r=>simp[FT]
theorem nX{t:ka}{p q:List At}:∀{k:Nat},FT t k (p++q)↔FT t k p/\FT t (k+p.length) q/\(∀a b,p.getLast?=some a->q[0]?=some b->Gw t (k+p.length-1) a b):=by
 induction p with
 |nil=>intro k;simp[FT]
 |cons a p ih=>
  intro k
  rw[aD,pH,ih,pH]
  cases p with
  |nil=>
   simp only[aK,bM,bf,List.getLast?_nil,List.getLast?_singleton,FT]
   simp
   intro _
   constructor
   ·rintro⟨h1,h2⟩;exact⟨h2,fun x y hx hy=>hx▸h1 y hy⟩
   ·rintro⟨h1,h2⟩;exact⟨fun y hy=>h2 a y rfl hy,h1⟩
  |cons b p=>
   have e1:k+1+(b::p).length=k+(a::b::p).length:=by simp;omega
   rw[e1,List.getLast?_cons_cons]
   simp only[aD,cg,ah,forall_eq']
   constructor
   ·rintro⟨h1,h2,h3,h4,h5⟩;exact⟨⟨h1,h2,h3⟩,h4,h5⟩
   ·rintro⟨⟨h1,h2,h3⟩,h4,h5⟩;exact⟨h1,h2,h3,h4,h5⟩
theorem getD_none{α:Type}{l:List α}{i:Nat}{d:α}(h:l.length<=i):l.getD i d=d:=by
 rw[ab,b_ h];rfl
theorem Ju{hs:List np}{cur al:List (List Sp)}{j:Nat}(h:j<al.length):(AM hs cur al).getD j []=nw hs cur al j:=by
 rw[ab,Ml h];rfl
theorem xT{al:Nat->List (List Sp)}{hs:Nat->List np}{f:List (List Sp)}(hf:kq f)(ha:∀k,kq (al k))(hh:∀k,∀h∈hs k,h.ch.lo<=h.ch.hi)(k j:Nat)(hj:j<(al (k+1)).length)(v:Int):Mem v ((nq al hs f (k+1)).getD j [])↔(∃h∈hs k,h.to=j/\∃u,Mem u ((nq al hs f k).getD h.fr [])/\h.ch.lo<=v-u/\v-u<=h.ch.hi)/\Mem v ((al (k+1)).getD j []):=by
 rw[nq,Ju hj,Mn (r_ hf ha k) (ha _) (hh k)]
theorem Gx{t:ka}(h:valid t)(k:Nat):∀g∈H6 t k,g.ch.lo<=g.ch.hi:=fun g hg=>(vN h hg).2.2.2.1
theorem H8{t:ka}(h:valid t)(k:Nat):∀g∈yK t k,g.ch.lo<=g.ch.hi:=fun g hg=>by
 obtain⟨x,hx,rfl⟩:=aO.1 hg
 have:=Gx h _ x hx
 simp only[np.flip];omega
theorem xU{t:ka}(h:valid t):∀(k:Nat) (a:At),k<t.length->(0<=a.node/\a.node<(wd t k:Int)/\Mem a.val ((fwd t k).getD a.node.toNat [])↔∃p,p.length=k/\FT t 0 (p++[a])):=by
 intro k
 induction k with
 |zero=>
  intro a hk
  constructor
  ·rintro⟨h1,h2,h3⟩;exact⟨[],rfl,h1,h2,h3⟩
  ·rintro⟨p,hp,hw⟩
   obtain rfl:=cd.1 hp
   exact hw
 |succ k ih=>
  intro a hk
  have hlen:∀n:Int,0<=n->n<(wd t (k+1):Int)->n.toNat<(tp t (k+1)).length:=fun n h1 h2=>by rw[r9];omega
  constructor
  ·rintro⟨h1,h2,h3⟩
   rw[fwd,xT (kj h 0) (kj h) (Gx h) k _ (hlen _ h1 h2)]at h3
   obtain⟨⟨g,hg,VS,u,hu,h4,h5⟩,h6⟩:=h3
   have KX:=vN h hg
   have:=(ih ⟨(g.fr:Int),u⟩ (by omega)).1 ⟨by simp,by simp only;omega,by simpa[fwd]using hu⟩
   obtain⟨p,hp,hw⟩:=this
   refine⟨p++[⟨(g.fr:Int),u⟩],by simp[hp],?_⟩
   rw[nX]
   refine⟨hw,(show FT t _ [a]from ?_),fun x y hx hy=>?_⟩
   ·simp only[aM,List.length_singleton,hp,br]
    exact⟨h1,h2,h6⟩
   simp at hx hy
   subst hx hy
   simp only[aM,List.length_singleton,hp]
   rw[show 0+(k+1)-1=k by omega]
   exact⟨g,hg,by simp,VS,h4,h5⟩
  ·rintro⟨p,hp,hw⟩
   obtain⟨q,b,rfl⟩:∃q b,p=q++[b]:=by
    rcases dp p with rfl|⟨q,b,rfl⟩
    ·simp at hp
    ·exact⟨q,b,dq⟩
   have hq:q.length=k:=by simpa using hp
   rw[nX]at hw
   obtain⟨w1,w2,w3⟩:=hw
   have h4:=(ih b (by omega)).2 ⟨q,hq,w1⟩
   simp only[aM,List.length_singleton,hq,br]at w2 w3
   obtain⟨g,hg,e1,e2,e3,e4⟩:=w3 b a (by simp) (by simp)
   rw[show k+1-1=k by omega]at hg
   obtain⟨p1,p2,p3⟩:=w2
   refine⟨p1,p2,?_⟩
   rw[fwd,xT (kj h 0) (kj h) (Gx h) k _ (hlen _ p1 p2)]
   exact⟨⟨g,hg,e2,b.val,by rw[e1];exact h4.2.2,e3,e4⟩,p3⟩
theorem Mq{t:ka}(h:valid t):∀(m:Nat) (a:At),m<t.length->(0<=a.node/\a.node<(wd t (t.length-1-m):Int)/\Mem a.val ((sA t m).getD a.node.toNat [])↔∃p,p.length=m/\FT t (t.length-1-m) (a::p)):=by
 intro m
 induction m with
 |zero=>
  intro a hk
  constructor
  ·rintro⟨h1,h2,h3⟩
   refine⟨[],rfl,h1,h2,?_⟩
   simpa[sA,nq,yJ]using h3
  ·rintro⟨p,hp,hw⟩
   obtain rfl:=cd.1 hp
   obtain⟨h1,h2,h3⟩:=hw
   exact⟨h1,h2,by simpa[sA,nq,yJ]using h3⟩
 |succ m ih=>
  intro a hk
  have e0:t.length-1-m=t.length-1-(m+1)+1:=by omega
  have e1:t.length-2-m=t.length-1-(m+1):=by omega
  have hlen:∀n:Int,0<=n->n<(wd t (t.length-1-(m+1)):Int)->n.toNat<(yJ t (m+1)).length:=fun n h1 h2=>by rw[yJ,r9];omega
  constructor
  ·rintro⟨h1,h2,h3⟩
   rw[sA,xT (lU h 0) (lU h) (H8 h) m _ (hlen _ h1 h2)]at h3
   obtain⟨⟨g',xR,VS,u,hu,h4,h5⟩,h6⟩:=h3
   obtain⟨g,hg,rfl⟩:=aO.1 xR
   rw[e1]at hg
   have KX:=vN h hg
   simp only[np.flip]at VS hu h4 h5
   have:=(ih ⟨(g.to:Int),u⟩ (by omega)).1 ⟨by simp,by simp only;rw[e0];omega,by simpa[sA]using hu⟩
   obtain⟨p,hp,hw⟩:=this
   refine⟨⟨(g.to:Int),u⟩::p,by simp[hp],?_⟩
   rw[pH]
   refine⟨⟨h1,h2,h6⟩,fun b hb=>?_,by rw[<-e0];exact hw⟩
   simp at hb;subst hb
   exact⟨g,hg,VS,by simp,by simp only;omega,by simp only;omega⟩
  ·rintro⟨p,hp,hw⟩
   cases p with
   |nil=>simp at hp
   |cons b q=>
    rw[pH,<-e0]at hw
    obtain⟨w1,w2,w3⟩:=hw
    have h4:=(ih b (by omega)).2 ⟨q,by simpa using hp,w3⟩
    obtain⟨g,hg,f1,f2,f3,f4⟩:=w2 b (by simp)
    obtain⟨p1,p2,p3⟩:=w1
    refine⟨p1,p2,?_⟩
    rw[sA,xT (lU h 0) (lU h) (H8 h) m _ (hlen _ p1 p2)]
    refine⟨⟨g.flip,aO.2 ⟨g,by rw[e1];exact hg,rfl⟩,f1,b.val,by simp only[np.flip];rw[f2];exact h4.2.2,by simp only[np.flip];omega,by simp only[np.flip];omega⟩,p3⟩
theorem H9{t:ka}(h:valid t)(k:Nat)(a:At)(hk:k<t.length):(0<=a.node/\a.node<(wd t k:Int)/\Mem a.val ((bwd t k).getD a.node.toNat [])↔∃p,p.length=t.length-1-k/\FT t k (a::p)):=by
 have:=Mq h (t.length-1-k) a (by omega)
 rwa[show t.length-1-(t.length-1-k)=k by omega]at this
theorem yM{a b:List (List Sp)}{i:Nat}(h:i<a.length)(h':i<b.length):(both a b).getD i []=meet (a.getD i []) (b.getD i []):=by
 rw[both,ab,List.getElem?_zipWith,getD_some h (d:=[]),getD_some h' (d:=[])];rfl
theorem ri{t:ka}{k:Nat}(hk:k<t.length):(tz t k).length=wd t k:=by
 rw[tz,both,List.length_zipWith,nG,sb hk,Nat.min_self]
theorem Gy{t:ka}(h:valid t){k:Nat}(hk:k<t.length):kq (tz t k):=fun x hx=>by
 obtain⟨i,hi⟩:=fb.1 hx
 have hl:=(ai.1 hi).1
 rw[ri hk]at hl
 have e:x=(tz t k).getD i []:=by rw[ab,hi];rfl
 rw[e,tz,yM (by rw[nG];exact hl) (by rw[sb hk];exact hl)]
 exact r8 (ki (BD h k) i)
theorem EE{t:ka}(h:valid t){k i:Nat}(hk:k<t.length)(hi:i<wd t k)(v:Int):Mem v ((tz t k).getD i [])↔Mem v ((fwd t k).getD i [])/\Mem v ((bwd t k).getD i []):=by
 rw[tz,yM (by rw[nG];exact hi) (by rw[sb hk];exact hi),q8]
theorem EF{t:ka}(h:valid t)(k:Nat)(a:At)(hk:k<t.length):(0<=a.node/\a.node<(wd t k:Int)/\Mem a.val ((tz t k).getD a.node.toNat []))↔∃c,acT t c/\c[k]?=some a:=by
 constructor
 ·rintro⟨h1,h2,h3⟩
  rw[EE h hk (by omega)]at h3
  obtain⟨p,hp,hw⟩:=(xU h k a hk).1 ⟨h1,h2,h3.1⟩
  obtain⟨q,hq,hw'⟩:=(H9 h k a hk).1 ⟨h1,h2,h3.2⟩
  refine⟨p++(a::q),⟨by simp[hp,hq];omega,?_⟩,by simp[<-hp]⟩
  rw[nX]at hw|-
  rw[hp,br]at hw|-
  exact⟨hw.1,hw',fun x y hx hy=>hw.2.2 x y hx (by simpa using hy)⟩
 ·rintro⟨c,⟨hl,hw⟩,hc⟩
  have hkc:=(ai.1 hc).1
  have e:c=c.take k++a::c.drop (k+1):=by
   conv=>lhs;rw[<-e_ k c]
   rw[List.drop_eq_getElem_cons hkc,(ai.1 hc).2]
  rw[e,nX,bH,Bj (by omega),br]at hw
  obtain⟨w1,w2,w3⟩:=hw
  have hf:=(xU h k a hk).2 ⟨c.take k,by simp;omega,by
   rw[nX,bH,Bj (by omega),br]
   exact⟨w1,(pH.1 w2).1,fun x y hx hy=>w3 x y hx (by simpa using hy)⟩⟩
  have hb:=(H9 h k a hk).2 ⟨c.drop (k+1),by simp;omega,w2⟩
  exact⟨hf.1,hf.2.1,(EE h hk (by omega) _).2 ⟨hf.2.2,hb.2.2⟩⟩
section
variable {w w0:World} {X X0 X':Nat->Prop} {β β0:gr} {σ σ0 lN ν:aG}
def blank(m:Nat)(ν:aG):aG:=List.replicate m none++ν
theorem aeF{m f i:Nat}{o:Ob}(h:aG.at (blank m ν) f i=some o):m<=f/\aG.at ν (f-m) i=some o:=by
 unfold blank aG.at at h
 unfold aG.at
 rcases cm f m with hf|hf
 ·rw[cy (by simpa using hf)]at h
  simp[fl,hf]at h
 ·rw[bE (by simpa using hf)]at h
  simp only[fQ]at h
  exact⟨hf,h⟩
theorem du{f i:Nat}{o:Ob}(h:aG.at (blank lN.length ν) f i=some o):aG.at (lN++ν) f i=some o:=by
 obtain⟨hf,h⟩:=aeF h
 unfold aG.at at h|-
 rw[bE hf];exact h
theorem RV.forget{v:AV}{x:Value}(h:RV w X β σ v x)(hX:∀b,X' b->X b)(hl:σ.length=lN.length)(hs:∀f i o,lN.at f i=some o->σ.at f i=some o):RV w X' β lN v x:=by
 induction h with
 |v x=>exact .v x
 |any x=>exact .any x
 |agg cs xs hn h1 _ ih=>exact .agg cs xs hn h1 ih
 |iu cs xs hn _ ih=>exact .iu cs xs hn ih
 |slnil k=>exact .slnil k
 |k9 k a cap=>exact .k9 k a cap
 |sl k es b o cap x ep hk hc VT h1 _ ih=>exact .sl k es b o cap x ep hk hc (fun e j he hj hb=>VT e j he hj (hX _ hb)) h1 ih
 |own f i n x h1 hf hle h=>exact .own f i n x h1 (hl▸hf) (fun o ho=>hle o (hs _ _ _ ho)) fun o ho=>h o (hs _ _ _ ho)
 |fresh k es x _ hc ih=>exact .fresh k es x ih hc
 |tight f i n x _ hc ih=>exact .tight f i n x ih hc
 |sub f i n lo x h1 hf hle h=>exact .sub f i n lo x h1 (hl▸hf) (fun o ho=>hle o (hs _ _ _ ho)) fun o ho=>h o (hs _ _ _ ho)
 |vw f i n e j m x h1 hf hle h=>exact .vw f i n e j m x h1 (hl▸hf) (fun o ho=>hle o (hs _ _ _ ho)) fun o ho=>h o (hs _ _ _ ho)
 |ptr f i n e j x h1 hf hle h=>exact .ptr f i n e j x h1 (hl▸hf) (fun o ho=>hle o (hs _ _ _ ho)) fun o ho=>h o (hs _ _ _ ho)
 |bZ cs j b o x VT h1 hc _ ih=>exact .bZ cs j b o x (fun t ht hb=>VT t ht (hX _ hb)) h1 hc ih
 |fn f first cap xs ys hn hm _ _ ih U0=>exact .fn f first cap xs ys hn hm ih U0
 |Ai f x h1 hf h=>exact .Ai f x h1 (hl▸hf) fun o ho=>h o (hs _ _ _ ho)
 |mp f x h1 hf h=>exact .mp f x h1 (hl▸hf) fun o ho=>h o (hs _ _ _ ho)
 |j4 n es b m cl hb VT Av hk _ ih=>exact .j4 n es b m cl hb (fun hx=>VT (hX _ hx)) Av hk ih
 |l6 t a x _ ih=>exact .l6 t a x ih
 |when c a x _ h' ih=>exact .when c a x ih h'
theorem gw.forget{w:World}{X X':Nat->Prop}{β:gr}{σ σ':aG}{n:Nat}(hX:∀b,X' b->X b)(hl:σ.length=σ'.length)(hs:∀f i o,σ'.at f i=some o->σ.at f i=some o):∀{m:List (List Int×AV)} {es:List MapEntry},gw w X β σ n m es->gw w X' β σ' n m es
 | [],[],_=>trivial
 |_::_,_::_,h=>⟨h.1,h.2.1,h.2.2.1.forget hX hl hs,gw.forget hX hl hs h.2.2.2⟩
 | [],_::_,h=>h.elim
 |_::_,[],h=>h.elim
theorem RV.shrink{v:AV}{x:Value}(h:RV w X β (lN++ν) v x)(hX:∀b,X' b->X b):∀{y:Value},RV w0 X0 β0 σ0 v y->σ0.length=lN.length->RV w X' β lN v x:=by
 have at1:∀f i,f<lN.length->aG.at (lN++ν) f i=aG.at lN f i:=fun f i hf=>by unfold aG.at;rw[cy hf]
 induction h with
 |v x=>intro y hy hl;exact .v x
 |any x=>intro y hy hl;exact .any x
 |agg cs xs hn h1 _ ih=>intro y hy hl;cases hy with
  |agg _ ys yh Se hr=>exact .agg cs xs hn h1 fun i hi=>ih i hi (hr i hi) hl
 |iu cs xs hn _ ih=>intro y hy hl;cases hy with
  |iu _ ys yh hr=>exact .iu cs xs hn fun i hi=>ih i hi (hr i hi) hl
 |slnil k=>intro y hy hl;exact .slnil k
 |k9 k a cap=>intro y hy hl;exact .k9 k a cap
 |sl k es b o cap x ep hk hc VT h1 _ ih=>
  intro y hy hl
  refine .sl k es b o cap x ep hk hc (fun e j he hj hb=>VT e j he hj (hX _ hb)) h1 fun e j he hj=>?_
  cases hy with
  |slnil=>exact absurd he (aN _)
  |k9=>exact absurd he (aN _)
  |sl _ _ b' o' xw x' aaX xu vf UA Se hr=>exact ih e j he hj (hr e j he hj) hl
 |own f i n x h1 hf hle h=>intro y hy hl;cases hy with
  |own _ _ _ _ _ I2=>exact .own f i n x h1 (by omega) (fun o ho=>hle o (by rw[at1 f i (by omega)];exact ho)) fun o ho=>h o (by rw[at1 f i (by omega)];exact ho)
 |tight f i n x _ hc ih=>intro y hy hl;cases hy with
  |tight _ _ _ _ hr _=>exact .tight f i n x (ih hr hl) hc
 |fresh k es x _ hc ih=>intro y hy hl;cases hy with
  |fresh _ _ _ hr _=>exact .fresh k es x (ih hr hl) hc
 |sub f i n lo x h1 hf hle h=>intro y hy hl;cases hy with
  |sub _ _ _ _ _ _ I2=>exact .sub f i n lo x h1 (by omega) (fun o ho=>hle o (by rw[at1 f i (by omega)];exact ho)) fun o ho=>h o (by rw[at1 f i (by omega)];exact ho)
 |vw f i n e j m x h1 hf hle h=>intro y hy hl;cases hy with
  |vw _ _ _ _ _ _ _ _ I2=>exact .vw f i n e j m x h1 (by omega) (fun o ho=>hle o (by rw[at1 f i (by omega)];exact ho)) fun o ho=>h o (by rw[at1 f i (by omega)];exact ho)
 |ptr f i n e j x h1 hf hle h=>intro y hy hl;cases hy with
  |ptr _ _ _ _ _ _ _ I2=>exact .ptr f i n e j x h1 (by omega) (fun o ho=>hle o (by rw[at1 f i (by omega)];exact ho)) fun o ho=>h o (by rw[at1 f i (by omega)];exact ho)
 |bZ cs j b o x VT h1 hc _ ih=>intro y hy hl;cases hy with
  |bZ _ _ _ _ x' _ _ _ hr=>exact .bZ cs j b o x (fun t ht hb=>VT t ht (hX _ hb)) h1 hc fun t ht=>ih t ht (hr t ht) hl
 |fn f first cap xs ys hn hm _ _ ih U0=>intro y hy hl;cases hy with
  |fn _ _ _ xs' ys' yh Tn hr wN=>exact .fn f first cap xs ys hn hm (fun i hi=>ih i hi (hr i hi) hl) fun i hi=>U0 i hi (wN i hi) hl
 |Ai f x h1 hf h=>intro y hy hl;cases hy with
  |Ai _ _ _ I2=>exact .Ai f x h1 (by omega) fun o ho=>h o (by rw[at1 f 0 (by omega)];exact ho)
 |j4 n es b m cl hb VT Av hk _ ih=>intro y hy hl;cases hy with
  |j4 _ _ b' m' cl' oz UA aeQ xu hr=>exact .j4 n es b m cl hb (fun hx=>VT (hX _ hx)) Av hk fun i hi=>ih i hi (hr i hi) hl
 |mp f x h1 hf h=>intro y hy hl;cases hy with
  |mp _ _ _ I2=>exact .mp f x h1 (by omega) fun o ho=>h o (by rw[at1 f 0 (by omega)];exact ho)
 |l6 t a x _ ih=>intro y hy hl;cases hy with
  |l6 _ _ _ hr=>exact .l6 t a x (ih hr hl)
 |when c a x _ h' ih=>intro y hy hl;cases hy with
  |when _ _ _ hr _=>exact .when c a x (fun hc=>ih hc (hr hc) hl) h'
theorem aeG(b:Nat)(h:Xt X β lN b):Xt X β (lN++ν) b:=by
 rcases h with h|⟨f,i,o,ho,hb⟩
 ·exact .inl h
 ·exact .inr ⟨f,i,o,by have:=dU ho;unfold aG.at at ho|-;rw[cy this];exact ho,hb⟩
end
section
variable {P:Program}
theorem eY.Wo{f:Nat}{args:List AV}{σ:aG}{R:AV->aG->Prop}(h:eY P f args σ (fun v σ'=>∃(lN ν:aG) (r:AV),σ'=lN++ν/\lN.length=σ.length/\bO (blank lN.length ν) v r/\R r lN/\∀g i o,lN.at g i=some o->o.lp=none/\(σ.at g i=some o\/∀e j,e<o.es.length->j<o.k->bC ((o.es.getD e []).getD j .any)))):eY P f args σ R:=by
 refine⟨h.N',fun X β w xs hX hs mF qu=>(h.go X β w xs hX hs mF qu).mono ?_⟩
 rintro e w' ⟨x,v,σ',β',rfl,⟨lN,ν,r,rfl,hlen,UI,hR,ic⟩,nM,hv,he,kp⟩
 have at1:∀f i o,aG.at lN f i=some o->aG.at (lN++ν) f i=some o:=fun f i o ho=>by
  have:=dU ho;unfold aG.at at ho|-;rw[cy this];exact ho
 have Gl:∀b,Xt X β' lN b->Xt X β' (lN++ν) b:=fun b hb=>aeG b hb
 have hs1:dG w' X β' lN:=by
  refine⟨fun f i f' i' o o' b h1 h2=>nM.inj f i f' i' o o' b (at1 _ _ _ h1) (at1 _ _ _ h2),fun f i o b h1=>nM.xJ f i o b (at1 _ _ _ h1),fun g i o h1=>?_⟩
  have h2:=nM.obj g i o (at1 _ _ _ h1)
  obtain⟨nB,aeH⟩:=ic g i o h1
  refine⟨h2.1,?_⟩
  have h3:=h2.2
  cases hb:β' g i with
  |none=>rw[hb]at h3;exact h3
  |some b=>
   rw[hb]at h3
   refine⟨fun hn=>?_,fun r hr=>by rw[nB]at hr;cases hr⟩
   obtain⟨c,hc,eX,jN,hr⟩:=h3.1 hn
   refine⟨c,hc,eX,jN,fun e j he hj=>?_⟩
   rcases aeH with hold|aeI
   ·have h4:=hs.obj g i o hold
    have h5:=h4.2
    cases Na:β g i with
    |none=>rw[Na]at h5;rw[h5.1]at he;exact absurd he (aN _)
    |some b0=>
     rw[Na]at h5
     obtain⟨c0,_,_,_,QU⟩:=h5.1 hn
     exact(hr e j he hj).shrink Gl (QU e j he hj) hlen.symm
   ·have h6:=aeI e j he hj _ _ _ _ _ (hr e j he hj)
    exact(RV.forget (X':=Xt X β' lN) h6 Gl rfl (fun _ _ _ h=>h)).out
 have hs2:dG w' (Xt X β' lN) β' (blank lN.length ν):=by
  have hXX:∀b,Xt (Xt X β' lN) β' (blank lN.length ν) b->Xt X β' (lN++ν) b:=by
   rintro b (hb|⟨f,i,o,ho,hb⟩)
   ·exact Gl b hb
   ·exact .inr ⟨f,i,o,du ho,hb⟩
  refine⟨fun f i f' i' o o' b h1 h2=>nM.inj f i f' i' o o' b (du h1) (du h2),fun f i o b h1 h2 hx=>?_,fun g i o h1=>?_⟩
  ·rcases hx with hx|⟨f',i',o',dN,oz⟩
   ·exact nM.xJ f i o b (du h1) h2 hx
   ·have:=nM.inj f i f' i' o o' b (du h1) (at1 _ _ _ dN) h2 oz
    have h3:=(aeF h1).1
    have:=dU dN
    omega
  ·have h2:=nM.obj g i o (du h1)
   have JK:(lN++ν).length=(blank lN.length ν).length:=by unfold blank;simp
   refine⟨h2.1,?_⟩
   have h3:=h2.2
   cases hb:β' g i with
   |none=>rw[hb]at h3;exact h3
   |some b=>
    rw[hb]at h3
    refine⟨fun hn=>?_,fun r hr=>?_⟩
    ·obtain⟨c,hc,eX,jN,hr⟩:=h3.1 hn
     exact⟨c,hc,eX,jN,fun e j he hj=>(hr e j he hj).forget hXX JK fun _ _ _=>du⟩
    ·obtain⟨e0,h7⟩:=h3.2 r hr
     cases r with
     |lp r=>
      obtain⟨q,hq,a1,a2,a3,a4,a5,a6,a7⟩:=h7
      exact⟨e0,q,hq,a1,a2,a3,a4,a5,a6,fun s=>(a7 s).forget hXX JK fun _ _ _=>du⟩
     |mp n m=>
      obtain⟨es,cl,hq,hm,hn⟩:=h7
      exact⟨e0,es,cl,hq,gw.forget hXX JK (fun _ _ _=>du) hm,hn⟩
 have hv2:RV w' (Xt (Xt X β' lN) β' (blank lN.length ν)) β' (blank lN.length ν) v x:=by
  refine hv.forget ?_ (by unfold blank;simp) fun _ _ _=>du
  rintro b (hb|⟨f,i,o,ho,hb⟩)
  ·exact Gl b hb
  ·exact .inr ⟨f,i,o,du ho,hb⟩
 have hr:=UI w' (Xt X β' lN) β' x hs2 hv2
 refine⟨x,r,lN,β',rfl,hR,hs1,hr.out,⟨he.size,he.wJ,fun b ⟨f,i,o,ho,hb⟩=>he.new b ⟨f,i,o,at1 _ _ _ ho,hb⟩,he.io⟩,kp.size,kp.I1,fun b hb hx=>kp.Aj b hb (Gl b hx),by omega,fun g i o' hg ho=>kp.wI g i o' hg (at1 _ _ _ ho)⟩
end
section
variable {P:Program} {N:Nat} {rd:Option Nat} {K:e7} {σ:aG}
theorem aR.VU{f i:Nat}{o o':Ob}{c:C}{env:Env}(ho:σ.at f i=some o)(hT:o'.T=o.T)(hk:o'.k=o.k)(nB:o.lp=none)(VV:o'.lp=none)(hl:o'.es.length=o.es.length)(cX:∀e,e<o.es.length->(o'.es.getD e []).length=o.k)(hw:∀e j,e<o.es.length->j<o.k->∀w X β σ x,RV w X β σ ((o.es.getD e []).getD j .any) x->RV w X β σ ((o'.es.getD e []).getD j .any) x)(h:aR P N rd c K env (σ.cZ f i o')):aR P N rd c K env σ:=by
 intro code hc n0 X β a w cn
 have S1:=cn.sr
 have ic:=S1.obj f i o ho
 have ht:ss w β f i (β f i) w:=⟨ar _,fun _ _ _=>rfl,fun b hb=>.inl hb,Still.refl w⟩
 have fe:o.es.length=o'.es.length->β f i=β f i/\∀b,β f i=some b->dM w w b:=fun _=>⟨rfl,fun b _=>dM.refl w b⟩
 have K2:=Kp.jM (o':=o') S1 ho ht hk.symm (dS hl.symm) fe
 have E2:Ext w β σ w (sE β f i (β f i)) (σ.cZ f i o'):=Ext.jM ho ht
 have S2:=S1.jM (o':=o') cn.bd ho ht hk.symm (dS hl.symm) fe (by
  refine⟨fun e' mB=>by rw[hk];exact cX e' (by omega),?_⟩
  have h2:=ic.2
  cases hb:β f i with
  |none=>rw[hb]at h2;exact⟨cd.1 (by rw[hl,h2.1];rfl),VV⟩
  |some b=>
   rw[hb]at h2
   refine⟨fun _=>?_,fun r hr=>by rw[VV]at hr;cases hr⟩
   obtain⟨c,lC,hle,h1,hr⟩:=h2.1 nB
   refine⟨c,by rw[hT];exact lC,by rw[hl,hk];exact hle,fun e' j' mB o9=>by rw[hk];exact h1 e' j' (by omega) (by omega),fun e' j' mB o9=>?_⟩
   have h3:=hr e' j' (by omega) (by omega)
   have h4:=h3.tr K2
   rw[hb]at h4
   rw[hk]
   exact hw e' j' (by omega) (by omega) _ _ _ _ _ h4)
 exact wpIn_mono (h code hc n0 X _ a w (cn.tr S2 E2 K2)) fun e a w hp=>hp.trans E2 K2
abbrev gone(σ:aG)(f:Nat):aG:=σ.set f none
theorem iG{σ:aG}{f g i:Nat}{o:Ob}(h:(gone σ f).at g i=some o):g≠f/\σ.at g i=some o:=by
 unfold gone aG.at at h
 unfold aG.at
 by_cases hg:f=g
 ·subst hg
  rw[bX]at h
  by_cases hl:f<σ.length
  ·simp[hl]at h
  ·simp[hl]at h
 ·rw[bW hg]at h
  exact⟨fun e=>hg e.symm,h⟩
theorem sd{X:Nat->Prop}{β:gr}{σ:aG}{f:Nat}(b:Nat)(h:Xt X β (gone σ f) b):Xt X β σ b:=by
 rcases h with h|⟨g,i,o,ho,hb⟩
 ·exact .inl h
 ·exact .inr ⟨g,i,o,(iG ho).2,hb⟩
theorem RV.pf{w:World}{X:Nat->Prop}{β:gr}{σ:aG}{f:Nat}{v:AV}{x:Value}(h:RV w (Xt X β σ) β σ v x):RV w (Xt X β (gone σ f)) β (Abs.gone σ f) v x:=
 h.forget sd (by simp) fun _ _ _ ho=>(iG ho).2
theorem dG.pf{w:World}{X:Nat->Prop}{β:gr}{σ:aG}{f:Nat}(h:dG w X β σ):dG w X β (gone σ f):=by
 refine⟨fun f i f' i' o o' b h1 h2=>h.inj f i f' i' o o' b (iG h1).2 (iG h2).2,fun f i o b h1=>h.xJ f i o b (iG h1).2,fun g i o h1=>?_⟩
 have h2:=h.obj g i o (iG h1).2
 refine⟨h2.1,?_⟩
 have h3:=h2.2
 cases hb:β g i with
 |none=>rw[hb]at h3;exact h3
 |some b=>
  rw[hb]at h3
  refine⟨fun hn=>?_,fun r hr=>?_⟩
  ·obtain⟨c,hc,eX,jN,hr⟩:=h3.1 hn
   exact⟨c,hc,eX,jN,fun e j he hj=>(hr e j he hj).pf⟩
  ·obtain⟨e0,h7⟩:=h3.2 r hr
   cases r with
   |lp r=>
    obtain⟨q,hq,a1,a2,a3,a4,a5,a6,a7⟩:=h7
    exact⟨e0,q,hq,a1,a2,a3,a4,a5,a6,fun s=>(a7 s).pf⟩
   |mp n m=>
    obtain⟨es,cl,hq,hm,hn⟩:=h7
    exact⟨e0,es,cl,hq,gw.forget sd (by simp) (fun _ _ _ ho=>(iG ho).2) hm,hn⟩
theorem RV.Rk{w:World}{X:Nat->Prop}{β:gr}{σ:aG}{f i n:Nat}{o:Ob}{x:Value}(hs:dG w X β σ)(h:RV w (Xt X β σ) β σ (.own f i n) x)(ho:σ.at f i=some o)(hn:o.es.length=n)(Q1:o.k≠0):RV w (Xt X β (gone σ f)) β (Abs.gone σ f) (.sl o.k o.es) x:=by
 have ic:=hs.obj f i o ho
 cases h with
 |own _ _ _ _ Mr hf hle hh=>
  have h':=hh o ho hn
  unfold kD at h'
  have h2:=ic.2
  cases hb:β f i with
  |none=>
   rw[hb]at h'
   obtain⟨e0,rfl⟩:=h'
   rw[e0]
   exact .slnil _
  |some b=>
   rw[hb]at h' h2
   obtain⟨cap,c0,T0,rfl,CL,vx⟩:=h'
   rw[hb]at ic
   obtain⟨c,hc,eX,jN,hr⟩:=h2.1 (ic.ya CL)
   rw[hc]at CL;injection CL with CL;injection CL with CL _;subst CL
   subst hn
   refine .sl o.k o.es b 0 cap (fun e j=>c.getD (e*o.k+j) undef) ?_ (fun e he=>ic.1 e he) (fun e he j hj=>?_) (fun e j he hj hx=>?_) (fun e j he hj=>jN e j he hj) fun e j he hj=>(hr e j he hj).pf
   ·rw[vx]at eX;exact d_ eX (by omega)
   ·have:=iE (k:=o.k) he
    rw[br,cell_of_row w b _ c _ _ hc]
    simp[af,show e*o.k+j<c.size by omega]
   ·rcases hx with hx|⟨g,j',o',dN,oz⟩
    ·exact hs.xJ f i o b ho hb hx
    ·have h3:=iG dN
     exact h3.1 (hs.inj f i g j' o o' b ho h3.2 hb oz).1.symm
theorem aR.freeze{f n:Nat}{o:Ob}{c:C}{env dj:Env}(ho:σ.at f 0=some o)(hn:o.es.length=n)(Q1:o.k≠0)(lg:∀s,gt dj s=gt env s\/(gt env s=.own f 0 n/\gt dj s=.sl o.k o.es))(h:aR P N rd c K dj (gone σ f)):aR P N rd c K env σ:=by
 intro code hc n0 X β a w cn
 have E2:Ext w β σ w β (gone σ f):=⟨ar _,fun _ _ _=>rfl,fun b ⟨g,i,o,ho,hb⟩=>.inl ⟨g,i,o,(iG ho).2,hb⟩,Still.refl w⟩
 have K2:Kp w (Xt X β σ) β σ w (Xt X β (gone σ f)) β (gone σ f):=
  ⟨ar _,fun _ _ _ _ _=>rfl,fun b _ hx=>sd b hx,by simp,fun g i o' _ dN=>⟨o',(iG dN).2,rfl,ar _,fun _=>⟨rfl,fun b _=>dM.refl w b⟩⟩⟩
 have kx:=cn.tr cn.sr.pf E2 K2
 have jV:lY N n0 X dj (gone σ f) β a w:={kx with
  ev:=fun s=>(lg s).elim (fun e=>by rw[e];exact kx.ev s) (fun e=>by
   rw[e.2]
   have:=cn.ev s
   rw[e.1]at this
   exact this.Rk cn.sr ho hn Q1)}
 exact wpIn_mono (h code hc n0 X _ a w jV) fun e a w hp=>hp.trans E2 K2
theorem aR.H_{f n t:Nat}{o:Ob}{c:C}{env:Env}(ht:gt env t=.own f 0 n)(ho:σ.at f 0=some o)(hn:o.es.length=n)(Q1:o.k≠0)(h:aR P N rd c K ((t,.sl o.k o.es)::env) (gone σ f)):aR P N rd c K env σ:=by
 refine aR.freeze ho hn Q1 (fun s=>?_) h
 simp only[gt]
 by_cases hs:t=s
 ·subst hs;simp only[beq_self_eq_true,cond_true];exact .inr ⟨ht,trivial⟩
 ·have:(t==s)=false:=by simpa using hs
  simp only[this,cond_false];exact .inl trivial
end
theorem eY.mono{P:Program}{f:Nat}{args:List AV}{σ:aG}{R R':AV->aG->Prop}(h:eY P f args σ R)(hR:∀r σ',R r σ'->R' r σ'):eY P f args σ R':=
 ⟨h.N',fun X β w xs h1 h2 h3 h4=>(h.go X β w xs h1 h2 h3 h4).mono fun e w' ⟨x,r,σ',β',a,b,c⟩=>⟨x,r,σ',β',a,hR _ _ b,c⟩⟩
section
variable {P:Program} {N:Nat} {rd:Option Nat} {K:e7} {σ:aG}
theorem RV.S9{w:World}{X:Nat->Prop}{β:gr}{σ:aG}{f i n e j:Nat}{o:Ob}{x:Value}(hs:dG w X β σ)(h:RV w (Xt X β σ) β σ (.ptr f i n e j) x)(ho:σ.at f i=some o)(hn:o.es.length=n)(he:e<n):RV w (Xt X β (gone σ f)) β (Abs.gone σ f) (.bZ (o.es.getD e []) j) x:=by
 have ic:=hs.obj f i o ho
 cases h with
 |ptr _ _ _ _ _ _ Mr hf hle hh=>
  obtain⟨b,hb,rfl⟩:=hh o ho hn
  have h2:=ic.2
  rw[hb]at h2
  have nB:=ic.nA (e:=e) (by omega)
  obtain⟨c,hc,eX,jN,hr⟩:=h2.1 nB
  have cX:=ic.1 e (by omega)
  have yu:=iE (k:=o.k) (show e<o.es.length by omega)
  refine .bZ (o.es.getD e []) j b (e*o.k) (fun t=>c.getD (e*o.k+t) undef) (fun t ht hx=>?_) (fun t ht=>jN e t (by omega) (by omega)) (fun t ht=>?_) fun t ht=>(hr e t (by omega) (by omega)).pf
  ·rcases hx with hx|⟨g,j',o',dN,oz⟩
   ·exact hs.xJ f i o b ho hb hx
   ·have h3:=iG dN
    exact h3.1 (hs.inj f i g j' o o' b ho h3.2 hb oz).1.symm
  ·rw[cell_of_row w b _ c _ _ hc]
   simp[af,show e*o.k+t<c.size by omega]
theorem aR.H'{f n e j t:Nat}{o:Ob}{c:C}{env:Env}(ht:gt env t=.ptr f 0 n e j)(ho:σ.at f 0=some o)(hn:o.es.length=n)(he:e<n)(h:aR P N rd c K ((t,.bZ (o.es.getD e []) j)::env) (gone σ f)):aR P N rd c K env σ:=by
 intro code hc n0 X β a w cn
 have E2:Ext w β σ w β (gone σ f):=⟨ar _,fun _ _ _=>rfl,fun b ⟨g,i,o,ho,hb⟩=>.inl ⟨g,i,o,(iG ho).2,hb⟩,Still.refl w⟩
 have K2:Kp w (Xt X β σ) β σ w (Xt X β (gone σ f)) β (gone σ f):=
  ⟨ar _,fun _ _ _ _ _=>rfl,fun b _ hx=>sd b hx,by simp,fun g i o' _ dN=>⟨o',(iG dN).2,rfl,ar _,fun _=>⟨rfl,fun b _=>dM.refl w b⟩⟩⟩
 have kx:=cn.tr cn.sr.pf E2 K2
 have jV:lY N n0 X ((t,.bZ (o.es.getD e []) j)::env) (gone σ f) β a w:={kx with
  ev:=fun s=>by
   simp only[gt]
   by_cases hs:t=s
   ·subst hs
    simp only[beq_self_eq_true,cond_true]
    have:=cn.ev t
    rw[ht]at this
    exact this.S9 cn.sr ho hn he
   ·have:(t==s)=false:=by simpa using hs
    simp only[this,cond_false]
    exact kx.ev s}
 exact wpIn_mono (h code hc n0 X _ a w jV) fun e a w hp=>hp.trans E2 K2
end
def C.plain:C->Bool
 | .loop _| .rL ..=>false
 |_=>true
theorem aR.S_{P:Program}{N:Nat}{rd:Option Nat}{K:e7}{env:Env}{σ:aG}{c:C}(hp:c.plain=true)(h:dC P N rd c K env σ):aR P N rd c K env σ:=aR.uu h
theorem Ia(a:List AV)(k:Nat):(∀e,e<1->(List.getD [a] e []).length=k)↔a.length=k:=
 ⟨fun h=>h 0 (by omega),fun h e he=>by obtain rfl:e=0:=(by omega);exact h⟩
theorem aR.both{P:Program}{N:Nat}{rd:Option Nat}{K K':e7}{env dj:Env}{σ σ':aG}{c c':C}{A B:Prop}(h:A->aR P N rd c K env σ)(h':B->aR P N rd c' K' dj σ'):(A->aR P N rd c K env σ)/\(B->aR P N rd c' K' dj σ'):=⟨h,h'⟩
theorem aR.imp{P:Program}{N:Nat}{rd:Option Nat}{K:e7}{env:Env}{σ:aG}{c:C}{A:Prop}(h:A->aR P N rd c K env σ):A->aR P N rd c K env σ:=h
abbrev n(i:Int):AV:=.v (.int .i64 i)
abbrev bl(b:Bool):AV:=.v (.bool b)
abbrev Sp.cs(s:Sp):List AV:=[n s.lo,n s.hi]
abbrev Sp.ok(s:Sp):Prop:=900<=s.lo/\s.lo<=s.hi/\s.hi<=1100
def Sp.pZ(s:Sp)(x h:Int):Sp:=⟨max 0 (((x-h)*1000)/s.hi),((x+h)*1000)/s.lo⟩
def Jv(k:Nat):List Nat->Bool
 | []=>false
 |a::r=>bif a==k then true else Jv k r
def tV(ks:List Nat):Env->Env
 | []=>[]
 |(k,v)::r=>bif Jv k ks then tV ks r else(k,v)::tV ks r
theorem aR.mT{P:Program}{N:Nat}{rd:Option Nat}{K:e7}{env:Env}{σ:aG}{c:C}{α:Type}(ks:List Nat)(over:α->Env)(pQ:α->aG)(μ:α->Nat)(x0:α)(h0:Sub (over x0++tV ks env) env)(h1:σ=pQ x0)(round:∀x,aR P N rd c (KV (fun x=>(over x++tV ks env,pQ x)) μ x K) (over x++tV ks env) (pQ x)):aR P N rd (.loop c) K env σ:=
 aR.loop (fun x=>(over x++tV ks env,pQ x)) μ x0 h0 h1 round
theorem aR.VW{P:Program}{N:Nat}{rd:Option Nat}{K:e7}{env:Env}{σ:aG}{c:C}{α:Type}(ks:List Nat)(over:α->Env)(μ:α->Nat)(x0:α)(h0:Sub (over x0++tV ks env) env)(round:∀x,aR P N rd c (KV (fun x=>(over x++tV ks env,σ)) μ x K) (over x++tV ks env) σ):aR P N rd (.loop c) K env σ:=
 aR.loop (fun x=>(over x++tV ks env,σ)) μ x0 h0 rfl round
theorem aR.VX{P:Program}{N:Nat}{rd:Option Nat}{K:e7}{env:Env}{σ:aG}{c:C}(k m:Nat)(I:Nat->Prop)(U_:I 0)(h0:Sub ((k,n ((0:Nat):Int))::tV [k] env) env)(round:∀i (hi:i<=m) (hI:I i),aR P N rd c (KV (fun x:{i:Nat//i<=m/\I i}=>((k,n ((x.1:Nat):Int))::tV [k] env,σ)) (fun x=>m-x.1) ⟨i,hi,hI⟩ K) ((k,n ((i:Nat):Int))::tV [k] env) σ):aR P N rd (.loop c) K env σ:=
 aR.loop (α:={i:Nat//i<=m/\I i}) (fun x=>((k,n ((x.1:Nat):Int))::tV [k] env,σ)) (fun x=>m-x.1) ⟨0,aQ _,U_⟩ h0 rfl fun⟨i,h1,h2⟩=>round i h1 h2
noncomputable abbrev tr(P:Prop):Bool:=@decide P (Classical.propDecidable P)
theorem vP{P:Prop}:tr P=true↔P:=by simp
theorem Ta{P:Prop}:tr P=false↔¬P:=by simp
theorem Ms(p q:Prop) [Decidable p] [Decidable q]:(decide p !=decide q)=decide (¬(p↔q)):=by by_cases h:p<;>by_cases g:q<;>simp[h,g]
theorem Mt(p q:Prop) [Decidable p] [Decidable q]:(decide p==decide q)=decide (p↔q):=by by_cases h:p<;>by_cases g:q<;>simp[h,g]
theorem tE{P:Prop}(h:P):tr P=true:=vP.2 h
theorem yN{P:Prop}(h:¬P):tr P=false:=Ta.2 h
theorem zS:(type_of% @List.getD_nil.{0})/\(type_of% @Int.lt_irrefl)/\(type_of% @Int.cast_ofNat_Int)/\(type_of% @decide_false)/\(type_of% @decide_true)/\(type_of% @gq)/\(type_of% @Bool.and_false)/\(type_of% @imp_self)/\(type_of% @pE)/\(type_of% @Jk)/\(type_of% @Int.toNat_natCast)/\(type_of% @Mc)/\(type_of% @uz)/\(type_of% @cQ)/\(type_of% @dR)/\(type_of% @dV)/\(type_of% @rZ)/\(type_of% @r7)/\(type_of% @fC)/\(type_of% @qZ)/\(type_of% @aM.{0})/\(type_of% @aW.{0})/\(type_of% @List.set_cons_zero.{0})/\(type_of% @List.set_cons_succ.{0})/\(type_of% @eJ)/\(type_of% @br)/\(type_of% @eE)/\(type_of% @VL)/\(type_of% @VM)/\(type_of% @VN)/\(type_of% @VO)/\(type_of% @Ma)/\(type_of% @Rj)/\(type_of% @Mb)/\(type_of% @decide_eq_true_eq)/\(type_of% @decide_eq_false_iff_not)/\(type_of% @fm)/\(type_of% @bq.{0,0})/\(type_of% @dL.{0,0})/\(type_of% @true_and)/\(type_of% @and_true)/\(type_of% @and_self)/\(type_of% @true_implies)/\(type_of% @ga)/\(type_of% @Bool.and_true)/\(type_of% @beq_self_eq_true.{0})/\(type_of% @beq_true)/\(type_of% @beq_false)/\(type_of% @Bool.not_true)/\(type_of% @Bool.not_false)/\(type_of% @Bool.true_eq_false)/\(type_of% @bw)/\(type_of% @false_implies)/\(type_of% @bf.{0})/\(type_of% @bM.{0})/\(type_of% @List.take_succ_cons.{0})/\(type_of% @List.take_zero.{0})/\(type_of% @iC.{0})/\(type_of% @List.drop_zero.{0})/\(type_of% @aD.{0})/\(type_of% @aK.{0})/\(type_of% @bb.{0})/\(type_of% @cg.{0})/\(type_of% @dW.{0})/\(type_of% @dF.{0})/\(type_of% @eP.{0})/\(type_of% @aY.{0,0})/\(type_of% @da.{0,0})/\(type_of% @bV.{0})/\(type_of% @Option.getD_none.{0})/\(type_of% @Int.toNat_zero)/\(type_of% @cond_true.{1})/\(type_of% @cond_false.{1})/\(type_of% @if_true.{1})/\(type_of% @if_false.{1})/\(type_of% @implies_true.{0})/\(type_of% @implies_true.{1})/\(type_of% @forall_const.{0})/\(type_of% @forall_const.{1})/\(type_of% @ne_eq.{1}):=
 ⟨@List.getD_nil.{0},@Int.lt_irrefl,@Int.cast_ofNat_Int,@decide_false,@decide_true,@gq,@Bool.and_false,@imp_self,@pE,@Jk,@Int.toNat_natCast,@Mc,@uz,@cQ,@dR,@dV,@rZ,@r7,@fC,@qZ,@aM.{0},@aW.{0},@List.set_cons_zero.{0},@List.set_cons_succ.{0},@eJ,@br,@eE,@VL,@VM,@VN,@VO,@Ma,@Rj,@Mb,@decide_eq_true_eq,@decide_eq_false_iff_not,@fm,@bq.{0,0},@dL.{0,0},@true_and,@and_true,@and_self,@true_implies,@ga,@Bool.and_true,@beq_self_eq_true.{0},@beq_true,@beq_false,@Bool.not_true,@Bool.not_false,@Bool.true_eq_false,@bw,@false_implies,@bf.{0},@bM.{0},@List.take_succ_cons.{0},@List.take_zero.{0},@iC.{0},@List.drop_zero.{0},@aD.{0},@aK.{0},@bb.{0},@cg.{0},@dW.{0},@dF.{0},@eP.{0},@aY.{0,0},@da.{0,0},@bV.{0},@Option.getD_none.{0},@Int.toNat_zero,@cond_true.{1},@cond_false.{1},@if_true.{1},@if_false.{1},@implies_true.{0},@implies_true.{1},@forall_const.{0},@forall_const.{1},@ne_eq.{1}⟩
theorem zT:(type_of% @not_true_eq_false)/\(type_of% @not_false_eq_true)/\(type_of% @or_false)/\(type_of% @false_or)/\(type_of% @or_true)/\(type_of% @true_or)/\(type_of% @or_self)/\(type_of% @and_false)/\(type_of% @false_and)/\(type_of% @Ms)/\(type_of% @Mt)/\(type_of% @Ia)/\(type_of% @aF.{0,0})/\(type_of% @db)/\(type_of% @Bool.not_eq_false'):=
 ⟨@not_true_eq_false,@not_false_eq_true,@or_false,@false_or,@or_true,@true_or,@or_self,@and_false,@false_and,@Ms,@Mt,@Ia,@aF.{0,0},@db,@Bool.not_eq_false'⟩
def jm(k a:Nat):J:=⟨some k,.mv (.t a),none⟩
def jc(k:Nat)(z:Int):J:=⟨some k,.mv (.c (.int .i64 z)),none⟩
def jb(k:Nat)(b:Bool):J:=⟨some k,.mv (.c (.bool b)),none⟩
def jn(k:Nat):J:=⟨some k,.mv (.c (.slice none 0 0)),none⟩
def jf(k o a:Nat):J:=⟨some k,.tZ o (.t a),none⟩
def jl(k a:Nat):J:=⟨some k,.load none (.t a),none⟩
def jk(k s a:Nat):J:=⟨some k,.load (some s) (.t a),none⟩
def jp(k a b:Nat):J:=⟨some k,.pick (.t a) (.t b) (.c (.bool false)),none⟩
def jq(k a b:Nat):J:=⟨some k,.pick (.t a) (.c (.bool true)) (.t b),none⟩
def jx(k s m a:Nat):J:=⟨some k,.box false s m (.t a),none⟩
def jy(k f:Nat)(as_:List Nat):J:=⟨some k,.call (.f f) (as_.map .t),none⟩
def ji(k m a b:Nat):J:=⟨some k,.qe m (.t a) (.t b),none⟩
def jt(o:BinOp)(k a b:Nat):J:=⟨some k,.bin o (.t a) (.t b),none⟩
def ju(o:BinOp)(k a:Nat)(z:Int):J:=⟨some k,.bin o (.t a) (.c (.int .i64 z)),none⟩
def je(k a:Nat):J:=⟨some k,.len (.t a),none⟩
def jz(k i a:Nat):J:=⟨some k,.ext i (.t a),none⟩
def jv(k a:Nat):J:=⟨some k,.un .not (.t a),none⟩
def js(s a b:Nat):J:=⟨none,.store s (.t a) (.t b),none⟩
def jw(k:Nat)(i:I):J:=⟨some k,i,none⟩
def ja(g:Nat)(j:J):J:=⟨j.d,j.i,some (g,true)⟩
def jd(g:Nat)(j:J):J:=⟨j.d,j.i,some (g,false)⟩
def jo(l:List J)(v:List Nat)(c:C):C:=.seq (.ops l v) c
theorem zI:(type_of% @jm.eq_1)/\(type_of% @jc.eq_1)/\(type_of% @jb.eq_1)/\(type_of% @jn.eq_1)/\(type_of% @jf.eq_1)/\(type_of% @jl.eq_1)/\(type_of% @jk.eq_1)/\(type_of% @jp.eq_1)/\(type_of% @jq.eq_1)/\(type_of% @jx.eq_1)/\(type_of% @jy.eq_1)/\(type_of% @ji.eq_1)/\(type_of% @jt.eq_1)/\(type_of% @ju.eq_1)/\(type_of% @je.eq_1)/\(type_of% @jz.eq_1)/\(type_of% @jv.eq_1)/\(type_of% @js.eq_1)/\(type_of% @jw.eq_1)/\(type_of% @ja.eq_1)/\(type_of% @jd.eq_1)/\(type_of% @jo.eq_1):=
 ⟨@jm.eq_1,@jc.eq_1,@jb.eq_1,@jn.eq_1,@jf.eq_1,@jl.eq_1,@jk.eq_1,@jp.eq_1,@jq.eq_1,@jx.eq_1,@jy.eq_1,@ji.eq_1,@jt.eq_1,@ju.eq_1,@je.eq_1,@jz.eq_1,@jv.eq_1,@js.eq_1,@jw.eq_1,@ja.eq_1,@jd.eq_1,@jo.eq_1⟩
theorem zU0:(type_of% @kB.eq_1)/\(type_of% @Cm.eq_1)/\(type_of% @Cm.eq_2)/\(type_of% @Ck.eq_1)/\(type_of% @Ck.eq_2)/\(type_of% @Ck.eq_3)/\(type_of% @LI.eq_1)/\(type_of% @Vp.eq_1)/\(type_of% @Rc.eq_1)/\(type_of% @Rc.eq_2)/\(type_of% @qV.eq_1)/\(type_of% @qV.eq_2)/\(type_of% @Bt.eq_1)/\(type_of% @Bt.eq_2)/\(type_of% @oL.eq_1)/\(type_of% @wQ.eq_1)/\(type_of% @Al.ob.eq_1)/\(type_of% @yv.eq_1)/\(type_of% @yv.eq_2)/\(type_of% @ov.eq_1)/\(type_of% @ov.eq_2)/\(type_of% @ov.eq_3)/\(type_of% @ov.eq_4)/\(type_of% @gt.eq_1)/\(type_of% @gt.eq_2)/\(type_of% @tx.eq_1)/\(type_of% @tx.eq_2)/\(type_of% @j7.eq_1)/\(type_of% @j7.eq_2)/\(type_of% @I.os.eq_1)/\(type_of% @I.os.eq_2)/\(type_of% @I.os.eq_3)/\(type_of% @I.os.eq_4)/\(type_of% @I.os.eq_5)/\(type_of% @I.os.eq_6)/\(type_of% @I.os.eq_7)/\(type_of% @I.os.eq_8)/\(type_of% @I.os.eq_9)/\(type_of% @I.os.eq_10)/\(type_of% @I.os.eq_11)/\(type_of% @I.os.eq_12)/\(type_of% @I.os.eq_13)/\(type_of% @I.os.eq_14)/\(type_of% @I.os.eq_15)/\(type_of% @I.os.eq_16)/\(type_of% @I.os.eq_17)/\(type_of% @I.os.eq_18)/\(type_of% @I.os.eq_19)/\(type_of% @I.os.eq_20)/\(type_of% @I.os.eq_21)/\(type_of% @I.os.eq_22)/\(type_of% @I.os.eq_23)/\(type_of% @I.os.eq_24)/\(type_of% @I.os.eq_25)/\(type_of% @I.os.eq_26)/\(type_of% @I.os.eq_27)/\(type_of% @I.os.eq_28)/\(type_of% @I.os.eq_29)/\(type_of% @I.os.eq_30)/\(type_of% @I.os.eq_31)/\(type_of% @I.os.eq_32)/\(type_of% @I.os.eq_33)/\(type_of% @I.os.eq_34)/\(type_of% @I.os.eq_35)/\(type_of% @I.os.eq_36)/\(type_of% @I.os.eq_37)/\(type_of% @I.os.eq_38)/\(type_of% @I.os.eq_39)/\(type_of% @I.os.eq_40)/\(type_of% @I.os.eq_41)/\(type_of% @I.os.eq_42)/\(type_of% @I.os.eq_43)/\(type_of% @I.os.eq_44)/\(type_of% @I.os.eq_45)/\(type_of% @I.os.eq_46)/\(type_of% @st.eq_1)/\(type_of% @st.eq_2)/\(type_of% @wrap.eq_1)/\(type_of% @tb.eq_1)/\(type_of% @uy.eq_1)/\(type_of% @uy.eq_2)/\(type_of% @Ev.eq_1)/\(type_of% @Ev.eq_2)/\(type_of% @fu.eq_1)/\(type_of% @fu.eq_2)/\(type_of% @obj.eq_1)/\(type_of% @vs.eq_1)/\(type_of% @vs.eq_2)/\(type_of% @sD.eq_1)/\(type_of% @sD.eq_2)/\(type_of% @qI.eq_1)/\(type_of% @qI.eq_2)/\(type_of% @jL.eq_1)/\(type_of% @qJ.eq_1)/\(type_of% @qJ.eq_2):=
 ⟨@kB.eq_1,@Cm.eq_1,@Cm.eq_2,@Ck.eq_1,@Ck.eq_2,@Ck.eq_3,@LI.eq_1,@Vp.eq_1,@Rc.eq_1,@Rc.eq_2,@qV.eq_1,@qV.eq_2,@Bt.eq_1,@Bt.eq_2,@oL.eq_1,@wQ.eq_1,@Al.ob.eq_1,@yv.eq_1,@yv.eq_2,@ov.eq_1,@ov.eq_2,@ov.eq_3,@ov.eq_4,@gt.eq_1,@gt.eq_2,@tx.eq_1,@tx.eq_2,@j7.eq_1,@j7.eq_2,@I.os.eq_1,@I.os.eq_2,@I.os.eq_3,@I.os.eq_4,@I.os.eq_5,@I.os.eq_6,@I.os.eq_7,@I.os.eq_8,@I.os.eq_9,@I.os.eq_10,@I.os.eq_11,@I.os.eq_12,@I.os.eq_13,@I.os.eq_14,@I.os.eq_15,@I.os.eq_16,@I.os.eq_17,@I.os.eq_18,@I.os.eq_19,@I.os.eq_20,@I.os.eq_21,@I.os.eq_22,@I.os.eq_23,@I.os.eq_24,@I.os.eq_25,@I.os.eq_26,@I.os.eq_27,@I.os.eq_28,@I.os.eq_29,@I.os.eq_30,@I.os.eq_31,@I.os.eq_32,@I.os.eq_33,@I.os.eq_34,@I.os.eq_35,@I.os.eq_36,@I.os.eq_37,@I.os.eq_38,@I.os.eq_39,@I.os.eq_40,@I.os.eq_41,@I.os.eq_42,@I.os.eq_43,@I.os.eq_44,@I.os.eq_45,@I.os.eq_46,@st.eq_1,@st.eq_2,@wrap.eq_1,@tb.eq_1,@uy.eq_1,@uy.eq_2,@Ev.eq_1,@Ev.eq_2,@fu.eq_1,@fu.eq_2,@obj.eq_1,@vs.eq_1,@vs.eq_2,@sD.eq_1,@sD.eq_2,@qI.eq_1,@qI.eq_2,@jL.eq_1,@qJ.eq_1,@qJ.eq_2⟩
theorem zW:(∀x,qD (.v x)=true)/\(∀x,qD (.agg x)=true)/\(∀x,qD (.iu x)=true)/\(∀x y,qD (.sl x y)=true)/\(∀x y z,qD (.own x y z)=true)/\(∀x y z u,qD (.sub x y z u)=true)/\(∀x y,qD (.fresh x y)=true)/\(∀x y z,qD (.tight x y z)=true)/\(∀x y z u v,qD (.ptr x y z u v)=true)/\(∀x y,qD (.bZ x y)=true)/\(∀x y z,qD (.fn x y z)=true)/\(∀x,qD (.Ai x)=true)/\(∀x,qD (.mp x)=true)/\(∀x y,qD (.j4 x y)=true)/\(∀x y,qD (.l6 x y)=true)/\qD .any=true/\(∀x y,qD (.when x y)=x)/\(∀(P:Program) (N:Nat) (rd:Option Nat) (b:C) (K:e7) (env:Env) (σ:aG),Co P N rd b K .normal env σ=aR P N rd b K env σ)/\(∀(P:Program) (N:Nat) (rd:Option Nat) (b:C) (K:e7) (env:Env) (σ:aG),Co P N rd b K .ret env σ=K .ret env σ)/\(∀(P:Program) (N:Nat) (rd:Option Nat) (b:C) (K:e7) (env:Env) (σ:aG) (i:Nat),Co P N rd b K (.exit i) env σ=K (.exit i) env σ)/\(∀(P:Program) (N:Nat) (rd:Option Nat) (b:C) (K:e7) (env:Env) (σ:aG) (i:Nat),Co P N rd b K (.goto i) env σ=K (.goto i) env σ)/\(∀(K:e7) (env:Env) (σ:aG),Jg K .normal env σ=K .normal env σ)/\(∀(K:e7) (env:Env) (σ:aG),Jg K .ret env σ=K .ret env σ)/\(∀(K:e7) (env:Env) (σ:aG) (i:Nat),Jg K (.exit i) env σ=K (.exit i) env σ)/\(∀(K:e7) (env:Env) (σ:aG) (d:Nat),AH d K .normal env σ=K .normal env σ)/\(∀(K:e7) (env:Env) (σ:aG) (d:Nat),AH d K .ret env σ=K .ret env σ)/\(∀(K:e7) (env:Env) (σ:aG) (d i:Nat),AH d K (.exit i) env σ=if i=d then K .normal env σ else K (.exit i) env σ)/\(∀(K:e7) (env:Env) (σ:aG) (d i:Nat),AH d K (.goto i) env σ=K (.goto i) env σ)/\(∀(rs:List RF) (R:AV->aG->Prop) (env:Env) (σ:aG),sw rs R .normal env σ=(match uy env σ rs with|some (S,vs)=>S/\R (one vs) σ|none=>False))/\(∀(rs:List RF) (R:AV->aG->Prop) (env:Env) (σ:aG),sw rs R .ret env σ=(match uy env σ rs with|some (S,vs)=>S/\R (one vs) σ|none=>False))/\(∀(rs:List RF) (R:AV->aG->Prop) (env:Env) (σ:aG) (i:Nat),sw rs R (.exit i) env σ=False)/\(∀{α:Type} (s:α->Env×aG) (μ:α->Nat) (x:α) (K:e7) (env:Env) (σ:aG),KV s μ x K .normal env σ=∃y,Sub (s y).1 env/\σ=(s y).2/\μ y<μ x)/\(∀{α:Type} (s:α->Env×aG) (μ:α->Nat) (x:α) (K:e7) (env:Env) (σ:aG),KV s μ x K .ret env σ=K .ret env σ)/\(∀{α:Type} (s:α->Env×aG) (μ:α->Nat) (x:α) (K:e7) (env:Env) (σ:aG) (i:Nat),KV s μ x K (.exit i) env σ=K (.exit i) env σ)/\(∀{α:Type} (s:α->Env×aG) (μ:α->Nat) (x:α) (K:e7) (env:Env) (σ:aG) (i:Nat),KV s μ x K (.goto i) env σ=K (.goto i) env σ)/\(∀v,one [v]=v)/\one []=.iu []/\(∀a b r,one (a::b::r)=.iu (a::b::r)):=by
 refine⟨?_,?_,?_,?_,?_,?_,?_,?_,?_,?_,?_,?_,?_,?_,?_,?_,?_,?_,?_,?_,?_,?_,?_,?_,?_,?_,?_,?_,?_,?_,?_,?_,?_,?_,?_,?_,?_,?_⟩<;>intros<;>rfl
theorem zU:(type_of% zU0)/\(type_of% zW)/\(type_of% zI):=⟨zU0,zW,zI⟩
theorem zV:(type_of% @tV.eq_1)/\(type_of% @tV.eq_2)/\(type_of% @Jv.eq_1)/\(type_of% @Jv.eq_2)/\(type_of% @Bool.or_false)/\(type_of% @Bool.false_or)/\(type_of% @Bool.or_true)/\(type_of% @Bool.true_or)/\(type_of% @fY):=
 ⟨@tV.eq_1,@tV.eq_2,@Jv.eq_1,@Jv.eq_2,@Bool.or_false,@Bool.false_or,@Bool.or_true,@Bool.true_or,@fY⟩
section
variable {P:Program} {N:Nat} {rd:Option Nat} {K:e7} {σ:aG} {env:Env}
theorem pu{f:Nat}{args:List AV}{r:AV}{τ:aG}(h:Pure P f args r)(hp:∀a∈args,bC a:=by simp(maxDischargeDepth:=9)<;>assumption):jg P f args τ r:=.of hp h
theorem cF{f:Nat}{first cap args:List AV}{wr:Bool}{d:Option Nat}{r:List J}{live:List Nat}(h:Bt P N rd r live K (st d (wrap wr false .any) env) σ):LA P N rd (.fn (.func f) first cap) args false wr d r live K env σ:=
 .inl ⟨_,_,_,.any,rfl,fun h=>absurd h gC,aH h⟩
theorem cG{f:Nat}{first cap args:List AV}{wr:Bool}{d:Option Nat}{p0:List J}{ks:List Nat}{q:Nat}{p l:List J}{live:List Nat}{al:List Al}(h:Cm P N rd p0 ks q p l live K (st d (wrap wr false .any) env) σ al):Re P N rd (.fn (.func f) first cap) args false wr d p0 ks q p l live K env σ al:=
 ⟨_,_,_,.any,rfl,fun h=>absurd h gC,jO h⟩
theorem vn{c:C}(hp:c.plain=true)(h:dC P N rd c K env σ):aR P N rd c K env σ:=aR.S_ hp h
end
theorem o1{P:Program}{N:Nat}{rd:Option Nat}{K:e7}{l:List J}{live:List Nat}{env:Env}{σ:aG}(h:Bt P N rd l live K env σ):N_ P N rd l live K env σ:=aH h
theorem o4{P:Program}{N:Nat}{rd:Option Nat}{K:e7}{p0:List J}{ks:List Nat}{q:Nat}{p l:List J}{live:List Nat}{env:Env}{σ:aG}{al:List Al}(h:Cm P N rd p0 ks q p l live K env σ al):Vs P N rd p0 ks q p l live K env σ al:=jO h
theorem bo{P:Program}{N:Nat}{rd:Option Nat}{K K':e7}{env dj:Env}{σ σ':aG}{c c':C}{A B:Prop}(h:A->aR P N rd c K env σ)(h':B->aR P N rd c' K' dj σ'):(A->aR P N rd c K env σ)/\(B->aR P N rd c' K' dj σ'):=⟨h,h'⟩
theorem im{P:Program}{N:Nat}{rd:Option Nat}{K:e7}{env:Env}{σ:aG}{c:C}{A:Prop}(h:A->aR P N rd c K env σ):A->aR P N rd c K env σ:=h
theorem an{p q:Prop}(h:q)(hp:p:=by(intros;first|(simp_all;done)|fail)):p/\q:=⟨hp,h⟩
theorem si{p q:Prop}(h:q)(hp:p:=by(intros;first|omega|(simp_all;done)|fail)):p/\q:=⟨hp,h⟩
theorem om{p q:Prop}(h:q)(hp:p:=by omega):p/\q:=⟨hp,h⟩
end Go.Abs
