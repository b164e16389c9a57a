/- Part 10 of the texts: abstract values over the walk; contracts. -/
import Derived.Test.YtgopgjnfhkoomaaGreatBu9
import Derived.WalkKit
import Derived.Lib.AppendZeros
import Derived.Lib.AppendZerosOnto
import Derived.Lib.JoinLaws
import Derived.Laws.Externs
import Derived.Laws.IdiomCopy
import Derived.Laws.NewBlocks
import Derived.Shelf.Spec.SlicesInsert
import Derived.Test.YtgopgjnfhkoomaaGreatProg
import Derived.Test.YtgopgjnfhkoomaaGreatRows
set_option linter.unusedVariables false
set_option linter.unusedSimpArgs false
namespace Go.Abs
open Go.Lib
section
variable {P:Program}
theorem jB(w:World)(dT sT ty elem:TypeId)(k b o acU adx:Nat)(a:Addr)(abG ab_:Nat)(cs:List Value)(hu:P.underlying dT=some (.slice elem))(hs:(P.info? elem).map (·.size)=some k)(hn:cs.length=Nat.min abG acU*k)(JC:∀j v,cs[j]?=some v->w.cell? (a.add j)=some v)(hc:∀j,j<cs.length->(w.cell? ⟨b,o+j,none⟩).isSome=true)(hf:∀j,j<cs.length->w.frozen? ⟨b,o+j,none⟩=false)(h1:∀v∈cs,v.oneCell'=true):(Builtin.copy_ #[dT,sT] ty #[.slice (some ⟨b,o,none⟩) acU adx,.slice (some a) abG ab_]).run P w=.ok (goInt (Nat.min abG acU)) (w.setCells b o cs):=by
 have hl:=run_loadCells_list (P:=P) w a cs JC
 have cn:=run_storeCells_cells (P:=P) b o cs 0 w (by simpa using hc) (by simpa using hf) h1
 cases hq:P.info? elem with
 |none=>simp[hq]at hs
 |some i=>
  have hi:i.size=k:=by simpa[hq]using hs
  simp[Builtin.copy_,run_underlying hu,Builtin.lenOf,Builtin.firstCells,sizeOf,typeInfo,hq,hi,<-hn,hl,cn]
theorem wz(w:World)(tS tR e:TypeId)(ht:P.underlying tS=some (.slice e))(size:Nat)(hz:∀w,(Go.sizeOf e).run P w=.ok size w)(a b:Addr)(la ca lb cb:Nat)(iw:a.block≠b.block)(tA tB:TypeId)(kA kB:Nat)(T7:w.shape? a.block=some (tA,kA))(lI:kA≠0)(TF:w.shape? b.block=some (tB,kB))(hkB:kB≠0)(hfb:w.frozen? b=false)(T8:w.frozen? {block:=b.block,off:=kB}=false):(Extern.SlicesOverlaps.overlaps #[tS,tS] #[tR] #[.slice (some a) la ca,.slice (some b) lb cb]).run P w=.ok (.bool false) w:=by
 have Rg:(a.block !=b.block)=true:=by simpa using iw
 have Xa:(a.block==b.block)=false:=by simpa using iw
 change Sem.run P (α:=Value) (do
  let some t:=(#[tS,tS]:Array TypeId)[0]?|stuck "slices.overlaps: no parameter types"
  let .slice elem<-underlying t|stuck "slices.overlaps: slice type expected"
  let size<-sizeOf elem
  match(some a:Option Addr),(some b:Option Addr)with
  |some a,some b=>
   if la=0\/lb=0\/size=0 then pure (Value.bool false)
   else if a.block !=b.block&&(<-frozen a)&&(<-frozen b)then unsupported .addressObserved
   else do
    if a.block !=b.block then do
     noView a;noView b
     if<-mayBeOne a b then return Value.bool ((<-choose (.extern "sameAddr.stringBytes" 2))==1)
    pure (Value.bool (a.block==b.block&&a.off<b.off+lb*size&&b.off<a.off+la*size))
  |_,_=>pure (Value.bool false)) w=_
 by_cases h0:la=0\/lb=0\/size=0
 ·simp[run_underlying ht,hz,h0]
 ·cases kA with
  |zero=>exact absurd rfl lI
  |succ kA=>
   cases kB with
   |zero=>exact absurd rfl hkB
   |succ kB=>
    cases Od:w.frozen? a with
    |true=>simp[run_underlying ht,hz,h0,Rg,Xa,frozen,noView,viewAt,mayBeOne,stringish,shape,Sem.run,T7,TF,hfb,T8,Od]
    |false=>
     cases Q0:w.frozen? {block:=a.block,off:=kA+1}<;>
      simp[run_underlying ht,hz,h0,Rg,Xa,frozen,noView,viewAt,mayBeOne,stringish,shape,Sem.run,T7,TF,hfb,T8,Od,Q0]
theorem jK(b:Nat):∀(vs:List Value) (o:Nat) (w:World) (c:Array Value) (T:TypeId) (fr:Nat×Nat),w.heap[b]?=some (.cells c T fr)->(∃c',(w.setCells b o vs).heap[b]?=some (.cells c' T fr)/\c'.size=c.size)/\(w.setCells b o vs).heap.size=w.heap.size/\(∀b',b'≠b->(w.setCells b o vs).heap[b']?=w.heap[b']?)/\Still w (w.setCells b o vs)
 | [],o,w,c,T,fr,h=>⟨⟨c,h,rfl⟩,rfl,fun _ _=>rfl,Still.refl w⟩
 |v::r,o,w,c,T,fr,h=>by
  have h1:(w.setCell ⟨b,o,none⟩ v).heap[b]?=some (.cells (c.setIfInBounds o v) T fr):=by
   simp[World.setCell,fR,h]
  obtain⟨⟨c',g1,g2⟩,g3,g4,g5⟩:=jK b r (o+1) (w.setCell ⟨b,o,none⟩ v) _ T fr h1
  refine⟨⟨c',g1,by rw[g2,Array.size_setIfInBounds]⟩,by rw[World.setCells,g3];simp[World.setCell],fun b' oz=>?_,?_⟩
  ·rw[World.setCells,g4 b' oz]
   simp[World.setCell,fR,Ne.symm oz]
  ·exact Still.trans (⟨rfl,rfl,rfl,ar _⟩:Still w (w.setCell ⟨b,o,none⟩ v)) g5
def Kr(k n i:Nat)(c:Array Value)(x:Nat->Value)(t:Nat):Value:=if t<i*k then c.getD t undef else if t<i*k+k then x (t-i*k)else c.getD (t-k) undef
structure Ks(k n i b T:Nat)(c:Array Value)(x:Nat->Value)(w w':World)(b' xw:Nat):Prop where
 IH:∃c',w'.heap[b']?=some (.cells c' T (0,0))/\c'.size=xw*k
 le:n+1<=xw
 at_:b'=b\/w.heap.size<=b'
 size:w.heap.size<=w'.heap.size
 wJ:∀d,d<w.heap.size->d≠b->w'.heap[d]?=w.heap[d]?
 io:Still w w'
 cell:∀t,t<(n+1)*k->w'.cell? ⟨b',t,none⟩=some (Kr k n i c x t)
theorem cell_of{w:World}{b:Nat}{c:Array Value}{T:TypeId}{fr:Nat×Nat}(h:w.heap[b]?=some (.cells c T fr)){t:Nat}(ht:t<c.size):w.cell? ⟨b,t,none⟩=some (c.getD t undef):=by
 unfold World.cell?
 rw[h]
 simp[af,ht]
theorem II{w:World}{b:Nat}{c:Array Value}{T:TypeId}{fr:Nat×Nat}(h:w.heap[b]?=some (.cells c T fr)){t:Nat}{v:Value}(ht:w.cell? ⟨b,t,none⟩=some v):c.getD t undef=v:=by
 unfold World.cell? at ht
 rw[h]at ht
 simp only[fN,bw,if_false]at ht
 rw[af,ht];rfl
theorem Qi{w w':World}{X:Nat->Prop}{β:gr}{σ:aG}{f T k n i b' xw:Nat}{es:List (List AV)}{r:List AV}{c:Array Value}{x:Nat->Value}{b:Nat}(nv:dG w X β σ)(hX:∀b,X b->b<w.heap.size)(hf:σ.at f 0=some ⟨T,k,es,none⟩)(hb:β f 0=some b)(hc:w.heap[b]?=some (.cells c T (0,0)))(hn:es.length=n)(hi:i<=n)(hr:r.length=k)(Qj:∀j,j<k->(x j).oneCell'=true)(qu:∀j,j<k->RV w (Xt X β σ) β σ (r.getD j .any) (x j))(I:Ks k n i b T c x w w' b' xw):∃β',dG w' X β' (σ.cZ f 0 ⟨T,k,es.take i++r::es.drop i,none⟩)/\RV w' (Xt X β' (σ.cZ f 0 ⟨T,k,es.take i++r::es.drop i,none⟩)) β' (σ.cZ f 0 ⟨T,k,es.take i++r::es.drop i,none⟩) (.own f 0 (n+1)) (.slice (some ⟨b',0,none⟩) (n+1) xw)/\Ext w β σ w' β' (σ.cZ f 0 ⟨T,k,es.take i++r::es.drop i,none⟩)/\Kp w (Xt X β σ) β σ w' (Xt X β' (σ.cZ f 0 ⟨T,k,es.take i++r::es.drop i,none⟩)) β' (σ.cZ f 0 ⟨T,k,es.take i++r::es.drop i,none⟩):=by
 obtain⟨c',vf,Xb⟩:=I.IH
 have ic:=nv.obj f 0 _ hf
 rw[hb]at ic
 obtain⟨c0,CL,eX,jN,GV⟩:=ic.2.1 rfl
 rw[hc]at CL;injection CL with CL;injection CL with CL _;subst CL
 have NF:=ic.1
 simp only at eX jN GV NF
 have CY:(es.take i++r::es.drop i).length=n+1:=by
  rw[aM,bH,bf,wW];omega
 have ht:ss w β f 0 (some b') w':=⟨I.size,fun d h1 h2=>I.wJ d h1 (fun e=>h2 (by rw[hb,e])),fun d hd=>by
  injection hd with hd;subst hd
  rcases I.at_ with h|h
  ·exact .inl (by rw[hb,h])
  ·exact .inr h,I.io⟩
 have hle:(⟨T,k,es,none⟩:Ob).es.length<=(⟨T,k,es.take i++r::es.drop i,none⟩:Ob).es.length:=by show es.length<=_;rw[CY];omega
 have fe:(⟨T,k,es,none⟩:Ob).es.length=(⟨T,k,es.take i++r::es.drop i,none⟩:Ob).es.length->some b'=β f 0/\∀d,β f 0=some d->dM w w' d:=fun h=>by
  simp only[CY]at h;omega
 have K:=Kp.jM (o':=⟨T,k,es.take i++r::es.drop i,none⟩) nv hf ht rfl hle fe
 have cX:∀e,e<n+1->(es.take i++r::es.drop i).getD e []=if e<i then es.getD e []else if e=i then r else es.getD (e-1) []:=by
  intro e he
  rw[ab,List.getElem?_append,bH]
  by_cases h1:e<i
  ·rw[if_pos (by omega),if_pos h1,dk,if_pos h1,ab]
  ·rw[if_neg (by omega),if_neg h1,Bj (by omega)]
   by_cases h2:e=i
   ·rw[if_pos h2,h2,jr];rfl
   ·rw[if_neg h2]
    obtain⟨m,rfl⟩:∃m,e=i+m+1:=⟨e-i-1,by omega⟩
    rw[show i+m+1-i=m+1 by omega,dW,ez,ab];rfl
 have Bc:∀e j,e<n+1->j<k->∃v,c'.getD (e*k+j) undef=v/\v.oneCell'=true/\RV w (Xt X β σ) β σ (((es.take i++r::es.drop i).getD e []).getD j .any) v:=by
  intro e j he hj
  have bP:e*k+j<(n+1)*k:=by
   have:(e+1)*k<=(n+1)*k:=cj _ he
   rw[cP,jT]at this;omega
  refine⟨_,II vf (I.cell _ bP),?_⟩
  rw[cX e he]
  unfold Kr
  by_cases h1:e<i
  ·have:(e+1)*k<=i*k:=cj _ h1
   rw[cP,jT]at this
   rw[if_pos h1,if_pos (by omega)]
   exact⟨jN e j (by omega) hj,GV e j (by omega) hj⟩
  ·by_cases h2:e=i
   ·subst h2
    rw[if_neg h1,if_pos rfl,if_neg (by omega),if_pos (by omega),wP]
    exact⟨Qj j hj,qu j hj⟩
   ·obtain⟨m,rfl⟩:∃m,e=m+1:=⟨e-1,by omega⟩
    have:(i+1)*k<=(m+1)*k:=cj _ (by omega)
    rw[cP,jT]at this
    have e1:(m+1)*k=m*k+k:=by rw[cP,jT]
    rw[if_neg h1,if_neg h2,if_neg (by omega),if_neg (by omega),Nat.add_sub_cancel,show(m+1)*k+j-k=m*k+j by omega]
    exact⟨jN m j (by omega) hj,GV m j (by omega) hj⟩
 have S:=nv.jM (o':=⟨T,k,es.take i++r::es.drop i,none⟩) hX hf ht rfl hle fe (by
  refine⟨fun e he=>?_,fun _=>⟨c',vf,?_,fun e j he hj=>?_,fun e j he hj=>?_⟩,fun r hr=>by cases hr⟩
  ·simp only[CY]at he|-
   rw[cX e he]
   split
   ·exact NF _ (by omega)
   ·split
    ·exact hr
    ·exact NF _ (by omega)
  ·simp only[CY];rw[Xb];exact cj _ I.le
  ·simp only[CY]at he hj|-
   obtain⟨v,h1,h2,_⟩:=Bc e j he hj
   rw[h1];exact h2
  ·simp only[CY]at he hj|-
   obtain⟨v,h1,_,h3⟩:=Bc e j he hj
   rw[h1];exact h3.tr K)
 refine⟨_,S,?_,Ext.jM hf ht,K⟩
 refine .own _ _ _ _ rfl (by rw[eW];exact dU hf) (fun o ho=>?_) fun o ho hon=>?_
 ·rw[cu hf]at ho;simp only[ah]at ho;subst ho;simp only[CY];exact ar _
 ·rw[cu hf]at ho;simp only[ah]at ho;subst ho
  unfold kD;rw[kE]
  exact⟨xw,c',T,by simp only[CY],vf,Xb⟩
end
end Go.Abs
namespace Go.Proofs.YtgopgjnfhkoomaaGreat
open Go.Abs Go.Lib Go.Proofs
set_option maxHeartbeats 4000000
set_option maxRecDepth 100000
theorem IJ:∃i z,Tryz.prog.info? 162=some i/\i.size=3/\i.bytes=24/\i.zero=some z/\z.cells.size=3:=by
 have h1:(Tryz.prog.info? 162).map (fun i=>(i.size,i.bytes,i.zero.map fun z=>z.cells.size))=some (3,24,some 3):=by kernel_rfl
 obtain⟨i,hi,h⟩:=aL.1 h1
 simp only[aw]at h
 obtain⟨h2,h3,h4⟩:=h
 obtain⟨z,hz,h5⟩:=aL.1 h4
 exact⟨i,z,hi,h2,h3,hz,h5⟩
structure zR(b vb vo n i cap:Nat)(cur:Array Value)(x:Nat->Value)(w:World):Prop where
 hc:w.heap[b]?=some (.cells cur 162 (0,0))
 eX:cur.size=cap*3
 UO:n<=cap
 hn0:0<n
 UP:n<1000000
 hi:i<=n
 hvb:vb≠b
 hv:∀j,j<3->w.cell? ⟨vb,vo+j,none⟩=some (x j)
 Mr:∀t,t<n*3->(cur.getD t undef).oneCell'=true
 h1v:∀j,j<3->(x j).oneCell'=true
section
variable {b vb vo n i cap vc:Nat} {cur:Array Value} {x:Nat->Value} {w:World} (H:zR b vb vo n i cap cur x w)
include H
theorem zR.cell{t:Nat}(ht:t<cap*3):w.cell? ⟨b,t,none⟩=some (cur.getD t undef):=cell_of H.hc (by rw[H.eX];exact ht)
theorem zR.fz(t:Nat):w.frozen? ⟨b,t,none⟩=false:=by
 unfold World.frozen?;rw[H.hc];simp
theorem zR.vs:∀j v,[x 0,x 1,x 2][j]?=some v->w.cell? ⟨vb,vo+j,none⟩=some v:=by
 intro j v hj
 match j,hj with
 |0,hj=>simp only[cg,ah]at hj;subst hj;exact H.hv 0 (by omega)
 |1,hj=>simp only[cg,dW,ah]at hj;subst hj;exact H.hv 1 (by omega)
 |2,hj=>simp only[cg,dW,ah]at hj;subst hj;exact H.hv 2 (by omega)
theorem zR.v1:∀v∈[x 0,x 1,x 2],v.oneCell'=true:=by
 intro v hv
 simp only[aC,au,or_false]at hv
 rcases hv with rfl|rfl|rfl
 ·exact H.h1v 0 (by omega)
 ·exact H.h1v 1 (by omega)
 ·exact H.h1v 2 (by omega)
theorem zR.src:Src Tryz.prog 3 116 (.slice (some ⟨vb,vo,none⟩) 1 vc) 1 [x 0,x 1,x 2] w:=
 Src.ofSlice w Tryz.underlying116 ⟨vb,vo,none⟩ 1 vc _ (by simp) (fun j u hj=>by rw[c9];exact H.vs j u hj) H.v1
theorem DL(p9:i=n)(ko:n+1<=cap):Calls Tryz.prog 252 #[.slice (some ⟨b,0,none⟩) n cap,.int .i64 n,.slice (some ⟨vb,vo,none⟩) 1 vc] w fun e w'=>
 e=.returned (.slice (some ⟨b,0,none⟩) (n+1) cap)/\w'=w.setCells b (n*3) [x 0,x 1,x 2]:=by
 obtain⟨i0,z0,hi0,CU,Na,JU,K5⟩:=IJ
 have hr:∀ty,(Builtin.append_ #[116,116] ty #[.slice (some ⟨b,0,none⟩) n cap,.slice (some ⟨vb,vo,none⟩) 1 vc]).run Tryz.prog w=.ok (.slice (some ⟨b,0,none⟩) (n+1) cap) (w.setCells b (n*3) [x 0,x 1,x 2]):=fun ty=>by
  have h:=run_append_room_src (P:=Tryz.prog) w 116 116 ty 162 i0 Tryz.underlying116 hi0 b 0 n cap (.slice (some ⟨vb,vo,none⟩) 1 vc) 1 [x 0,x 1,x 2] (by rw[CU];exact H.src) ko
   (fun j hj=>by rw[CU,br,H.cell (by simp at hj;omega)];rfl) (fun j hj=>by rw[CU];exact H.fz _)
  rw[CU,br]at h
  exact h
 have kU:¬((1:Int)=0):=by omega
 clear H
 go_enter Tryz.func252,Tryz.ntmps252
 go_wp2_with (at_builtin;refine Lib.wpList_append_run _ rfl _ _ _ _ rfl _ _ rfl rfl _ _ (hr _) ?_)
 go_ret
 exact⟨rfl,rfl⟩
theorem DM(p9:i=n)(ko:cap<n+1):∃z:Value,z.cells.size=3/\Calls Tryz.prog 252 #[.slice (some ⟨b,0,none⟩) n cap,.int .i64 n,.slice (some ⟨vb,vo,none⟩) 1 vc] w fun e w'=>
 e=.returned (.slice (some ⟨w.heap.size,0,none⟩) (n+1) (grownCap w (n+1) cap 162))/\
 w'=w.drew.alloc (.cells ((((List.range (n*3)).map fun t=>cur.getD t undef)++[x 0,x 1,x 2]).toArray++Builtin.zeroCells z.cells (grownCap w (n+1) cap 162-(n+1))) 162):=by
 obtain⟨i0,z0,hi0,CU,Na,JU,K5⟩:=IJ
 refine⟨z0,K5,?_⟩
 have hold:(Builtin.firstCells i0.size n (.slice (some ⟨b,0,none⟩) n cap)).run Tryz.prog w.drew=.ok ((List.range (n*3)).map fun t=>cur.getD t undef).toArray w.drew:=by
  rw[CU]
  refine run_firstCells_some w.drew 3 n ⟨b,0,none⟩ n cap _ (by simp) (fun j v hj=>?_)
  rw[c9,br]
  rw[aV,aL]at hj
  obtain⟨t,ht,rfl⟩:=hj
  obtain⟨h1,rfl⟩:=ai.1 ht
  simp only[a_]at h1
  rw[fJ]
  exact H.cell (by have:=H.UO;omega)
 have UP:=H.UP
 have hr:∀ty,(Builtin.append_ #[116,116] ty #[.slice (some ⟨b,0,none⟩) n cap,.slice (some ⟨vb,vo,none⟩) 1 vc]).run Tryz.prog w=_:=fun ty=>
  run_append_grow_src (P:=Tryz.prog) w 116 116 ty 162 i0 z0 Tryz.underlying116 hi0 JU (some ⟨b,0,none⟩) n cap _ hold (.slice (some ⟨vb,vo,none⟩) 1 vc) 1 [x 0,x 1,x 2] (by rw[CU];exact H.src) ko (by omega) (by rw[Na];exact growslice_fits ko (by omega))
 have kU:¬((1:Int)=0):=by omega
 obtain rfl:cap=n:=by have:=H.UO;omega
 generalize(.cells ((((List.range (cap*3)).map fun t=>cur.getD t undef)++[x 0,x 1,x 2]).toArray++Builtin.zeroCells z0.cells (grownCap w (cap+1) cap 162-(cap+1))) 162:Obj)=R at hr|-
 clear H hold hi0 CU Na JU K5
 go_enter Tryz.func252,Tryz.ntmps252
 go_wp2_with (at_builtin;refine Lib.wpList_append_run _ rfl _ _ _ _ rfl _ _ rfl rfl _ _ (hr _) ?_)
 go_ret
 exact⟨rfl,rfl⟩
abbrev kr(n i:Nat)(cur:Array Value):List Value:=(List.range ((n-i)*3)).map fun t=>cur.getD (i*3+t) undef
theorem zR.tail:∀j v,(kr n i cur)[j]?=some v->w.cell? ⟨b,i*3+j,none⟩=some v:=by
 intro j v hj
 rw[aV,aL]at hj
 obtain⟨t,ht,rfl⟩:=hj
 obtain⟨h1,rfl⟩:=ai.1 ht
 simp only[a_]at h1
 rw[fJ]
 exact H.cell (by have:=H.UO;have:=H.hi;omega)
theorem zR.RB:∀v∈kr n i cur,v.oneCell'=true:=by
 intro v hv
 obtain⟨t,ht,rfl⟩:=aO.1 hv
 rw[bc]at ht
 exact H.Mr _ (by have:=H.hi;omega)
theorem Kt(p9:i<n)(ko:n+1<=cap):Calls Tryz.prog 252 #[.slice (some ⟨b,0,none⟩) n cap,.int .i64 i,.slice (some ⟨vb,vo,none⟩) 1 vc] w fun e w'=>
 e=.returned (.slice (some ⟨b,0,none⟩) (n+1) cap)/\w'=(w.drew.setCells b ((i+1)*3) (kr n i cur)).setCells b (i*3) [x 0,x 1,x 2]:=by
 obtain⟨i0,z0,hi0,CU,Na,JU,K5⟩:=IJ
 have kU:¬((1:Int)=0):=by omega
 have hz2:¬((i:Int)=(n:Int)):=by omega
 have eX:(Tryz.prog.info? 162).map (·.size)=some 3:=by rw[hi0];simp[CU]
 have UP:=H.UP
 have hn0:=H.hn0
 have GW:=H.eX
 have T7:w.shape? vb≠none/\∃tA kA,w.shape? vb=some (tA,kA)/\kA≠0:=by
  have h0:=H.hv 0 (by omega)
  unfold World.cell? at h0
  unfold World.shape?
  split at h0
  ·rename_i c T fr hc
   simp only at hc
   rw[hc]
   simp only[fN,bw,if_false,eE]at h0
   exact⟨by simp,T,c.size,rfl,fun e=>by rw[gx (by omega)]at h0;cases h0⟩
  ·cases h0
 obtain⟨_,tA,kA,T7,lI⟩:=T7
 have TF:w.shape? b=some (162,cur.size):=by unfold World.shape?;rw[H.hc]
 have hov:∀lb cb,(callFunc 293 #[.slice (some ⟨vb,vo,none⟩) 1 vc,.slice (some ⟨b,(i+1)*3,none⟩) lb cb]).run Tryz.prog w=.ok (.value (.bool false)) w:=fun lb cb=>by
  rw[run_callFunc_extern Tryz.func293 (by kernel_rfl) (by kernel_rfl) (by kernel_rfl) (e:=Extern.SlicesOverlaps.overlaps #[116,116] #[4]) (by kernel_rfl),
   wz w 116 4 162 Tryz.underlying116 3 Tryz.sizeOf162 ⟨vb,vo,none⟩ ⟨b,(i+1)*3,none⟩ 1 vc lb cb H.hvb tA 162 kA cur.size T7 lI TF (by omega) (H.fz _) (H.fz _)]
  rfl
 have K4:(kr n i cur).length=(n-i)*3:=by simp
 have ab3:∀ty dc sc,(Builtin.copy_ #[116,116] ty #[.slice (some ⟨b,(i+1)*3,none⟩) (n-i) dc,.slice (some ⟨b,i*3,none⟩) (n+1-i) sc]).run Tryz.prog w.drew=.ok (goInt (Nat.min (n+1-i) (n-i))) (w.drew.setCells b ((i+1)*3) (kr n i cur)):=fun ty dc sc=>
  jB w.drew 116 116 ty 162 3 b ((i+1)*3) (n-i) dc ⟨b,i*3,none⟩ (n+1-i) sc (kr n i cur) Tryz.underlying116 eX
   (by rw[K4];congr 1;simp only[Nat.min_def];split<;>omega)
   (fun j v hj=>by rw[c9];exact H.tail j v hj)
   (fun j hj=>by show(w.cell? _).isSome=true;rw[H.cell (by omega)];rfl) (fun j hj=>H.fz _) H.RB
 obtain⟨W1,WE⟩:∃W1,W1=w.drew.setCells b ((i+1)*3) (kr n i cur):=⟨_,rfl⟩
 have ady:∀(W:World),(∀x,W.cell? x=W1.cell? x)->(∀x,W.frozen? x=W1.frozen? x)->∀ty dc,(Builtin.copy_ #[116,116] ty #[.slice (some ⟨b,i*3,none⟩) (n+1-i) dc,.slice (some ⟨vb,vo,none⟩) 1 vc]).run Tryz.prog W=.ok (goInt (Nat.min 1 (n+1-i))) (W.setCells b (i*3) [x 0,x 1,x 2]):=fun W hWc oA ty dc=>
  jB W 116 116 ty 162 3 b (i*3) (n+1-i) dc ⟨vb,vo,none⟩ 1 vc [x 0,x 1,x 2] Tryz.underlying116 eX (by simp only[Nat.min_def];split<;>simp<;>omega)
   (fun j v hj=>by
    rw[c9,hWc,WE,cN b _ _ _ _ (fun h _=>absurd h H.hvb)]
    exact H.vs j v hj)
   (fun j hj=>by
    rw[hWc,WE]
    simp only[bf,bM]at hj
    rw[cN b _ _ _ _ (fun _ _=>by left;show i*3+j<(i+1)*3;omega)]
    show(w.cell? _).isSome=true
    rw[H.cell (by omega)];rfl)
   (fun j hj=>by rw[oA,WE,World.frozen?_setCells];exact H.fz _) H.v1
 rw[<-WE]at ab3
 have hw1:IntKind.i64.wrap ((i:Int)+1)=(i:Int)+1:=by rw[gu];omega
 have hw2:IntKind.i64.wrap ((n:Int)+1)=(n:Int)+1:=by rw[gu];omega
 have xe:(0:Int)<=(i:Int)+1:=by omega
 have aas:i<=n:=by omega
 have htn:((i:Int)+1).toNat=i+1:=by omega
 have aba:((n:Int)+1).toNat=n+1:=by omega
 have CG:¬(cap=i+1):=by omega
 have hb3:(i:Int)<=(n:Int)+1:=by omega
 have hb4:¬(cap=i):=by omega
 have YJ:¬((cap:Int)<(n:Int)+1):=by omega
 have hb6:(n:Int)+1<=(cap:Int):=by omega
 have mixed:Tryz.prog.follows Departure.mixedOrders=true:=by kernel_rfl
 clear H T7 TF K4
 go_enter Tryz.func252,Tryz.ntmps252
 go_wp2_with (simp only[hov])
 go_region_law_o (refine step_copy_runI rfl _ _ 116 116 rfl _ _ (by simp[Act.eval,Act.put]) (by simp[Act.eval,Act.put]) (ab3 _ _ _) ?_)
 go_wp2_with (at_builtin;refine wpList_copy_runI _ rfl _ _ 116 116 rfl _ _ rfl rfl (ady _ (fun _=>rfl) (fun _=>rfl) _ _) ?_)
 go_ret
 first|exact⟨rfl,rfl⟩|exact⟨rfl,by rw[WE]⟩
end
section
variable {b vb vo n i cap vc:Nat} {cur:Array Value} {x:Nat->Value} {w:World} (H:zR b vb vo n i cap cur x w)
include H
theorem NG(p9:i<n)(ko:cap<n+1):∃z:Value,z.cells.size=3/\Calls Tryz.prog 252 #[.slice (some ⟨b,0,none⟩) n cap,.int .i64 i,.slice (some ⟨vb,vo,none⟩) 1 vc] w fun e w'=>
 e=.returned (.slice (some ⟨w.heap.size,0,none⟩) (n+1) (grownCap w (n+1) cap 162))/\
 w'=(((w.alloc (.cells (((List.range (i*3)).map fun t=>cur.getD t undef).toArray++Builtin.zeroCells z.cells (n+1-i)++Builtin.zeroCells z.cells (grownCap w (n+1) cap 162-(n+1))) 162)).drew.setCells w.heap.size (i*3) [x 0,x 1,x 2]).drew).setCells w.heap.size ((i+1)*3) (kr n i cur):=by
 obtain⟨i0,z0,hi0,CU,Na,JU,K5⟩:=IJ
 refine⟨z0,K5,?_⟩
 have kU:¬((1:Int)=0):=by omega
 have hz2:¬((i:Int)=(n:Int)):=by omega
 have hz3:(cap:Int)<(n:Int)+1:=by omega
 have eX:(Tryz.prog.info? 162).map (·.size)=some 3:=by rw[hi0];simp[CU]
 have UP:=H.UP
 have UO:=H.UO
 have PW:b<w.heap.size:=ib H.hc
 have hvw:vb<w.heap.size:=tX (a:=⟨vb,vo+0,none⟩) (H.hv 0 (by omega))
 have vg:(n:Int)+1-(i:Int)=((n+1-i:Nat):Int):=by omega
 have AA:i+(n+1-i)=n+1:=by omega
 have hold:(Builtin.firstCells i0.size i (.slice (some ⟨b,0,none⟩) i cap)).run Tryz.prog w.drew=.ok ((List.range (i*3)).map fun t=>cur.getD t undef).toArray w.drew:=by
  rw[CU]
  refine run_firstCells_some w.drew 3 i ⟨b,0,none⟩ i cap _ (by simp) (fun j v hj=>?_)
  rw[c9,br]
  rw[aV,aL]at hj
  obtain⟨t,ht,rfl⟩:=hj
  obtain⟨h1,rfl⟩:=ai.1 ht
  simp only[a_]at h1
  rw[fJ]
  exact H.cell (by omega)
 obtain⟨G,hG⟩:∃G,G=grownCap w (n+1) cap 162:=⟨_,rfl⟩
 obtain⟨PF,Fv⟩:∃PF:Array Value,PF=((List.range (i*3)).map fun t=>cur.getD t undef).toArray++Builtin.zeroCells z0.cells (n+1-i)++Builtin.zeroCells z0.cells (G-(n+1)):=⟨_,rfl⟩
 have hrz:∀ty,(Builtin.append_ #[116,3] ty #[.slice (some ⟨b,0,none⟩) i cap,.int .i64 ((n:Int)+1-(i:Int))]).run Tryz.prog w=
  .ok (.slice (some ⟨w.heap.size,0,none⟩) (n+1) G) (w.drew.alloc (.cells PF 162)):=fun ty=>by
  have h:=Lib.run_append_grow_zeros (P:=Tryz.prog) w 116 3 ty 162 i0 z0 .i64 .i64 Tryz.underlying116 Tryz.underlying3 hi0 JU (some ⟨b,0,none⟩) i cap _ hold (n+1-i) (by omega) (by omega) (by omega) (by omega) (by rw[Na];omega) (by rw[Na,AA];exact growslice_fits ko (by omega))
  rw[AA,<-hG,<-Fv]at h
  rw[vg]
  exact h
 rw[<-hG,<-Fv]
 have PX:(n+1)*3<=PF.size:=by
  rw[Fv]
  simp[Builtin.zeroCells,K5]
  omega
 obtain⟨W1,WE⟩:∃W1,W1=w.drew.alloc (.cells PF 162):=⟨_,rfl⟩
 rw[<-WE]at hrz
 have hN:∀j,j<(n+1)*3->(W1.cell? ⟨w.heap.size,j,none⟩).isSome=true:=fun j hj=>by
  rw[WE,ia (w:=w.drew) PF _ w.heap.size j rfl,bS (by omega)];rfl
 have UQ:∀j,W1.frozen? ⟨w.heap.size,j,none⟩=false:=fun j=>by rw[WE];exact World.frozen?_alloc_at (w:=w.drew) PF _ w.heap.size j rfl
 have hOb:∀j v,w.cell? ⟨b,j,none⟩=some v->W1.cell? ⟨b,j,none⟩=some v:=fun j v h=>by rw[WE,World.cell?_alloc_past (w:=w.drew) _ b j PW];exact h
 have hOv:∀j v,w.cell? ⟨vb,j,none⟩=some v->W1.cell? ⟨vb,j,none⟩=some v:=fun j v h=>by rw[WE,World.cell?_alloc_past (w:=w.drew) _ vb j hvw];exact h
 have aat:∀(W:World),(∀x,W.cell? x=W1.cell? x)->(∀x,W.frozen? x=W1.frozen? x)->∀ty dc,(Builtin.copy_ #[116,116] ty #[.slice (some ⟨w.heap.size,i*3,none⟩) (n+1-i) dc,.slice (some ⟨vb,vo,none⟩) 1 vc]).run Tryz.prog W=.ok (goInt (Nat.min 1 (n+1-i))) (W.setCells w.heap.size (i*3) [x 0,x 1,x 2]):=fun W hWc oA ty dc=>
  jB W 116 116 ty 162 3 w.heap.size (i*3) (n+1-i) dc ⟨vb,vo,none⟩ 1 vc [x 0,x 1,x 2] Tryz.underlying116 eX (by simp only[Nat.min_def];split<;>simp<;>omega)
   (fun j v hj=>by rw[c9,hWc];exact hOv _ v (H.vs j v hj))
   (fun j hj=>by simp only[bf,bM]at hj;rw[hWc];exact hN _ (by omega)) (fun j hj=>by rw[oA];exact UQ _) H.v1
 have hGn:n+1<=G:=by rw[hG];exact grownCap_ge w _ _ _
 have adI:G<=9223372036854775807:=by
  have:=grownCap_le_maxLen w (n+1) cap 162 (by unfold maxLen;omega)
  rw[<-hG]at this
  unfold maxLen at this
  omega
 have hGi:¬(G=i):=by omega
 have abc:¬(G=i+1):=by omega
 have lS:¬(cap=i):=by omega
 have hbN:b≠w.heap.size:=by omega
 have K4:(kr n i cur).length=(n-i)*3:=by simp
 have Xd:∀(W:World),(∀y,W.cell? y=(W1.setCells w.heap.size (i*3) [x 0,x 1,x 2]).cell? y)->(∀y,W.frozen? y=(W1.setCells w.heap.size (i*3) [x 0,x 1,x 2]).frozen? y)->∀ty dc sc,(Builtin.copy_ #[116,116] ty #[.slice (some ⟨w.heap.size,(i+1)*3,none⟩) (n-i) dc,.slice (some ⟨b,i*3,none⟩) (n-i) sc]).run Tryz.prog W=.ok (goInt (Nat.min (n-i) (n-i))) (W.setCells w.heap.size ((i+1)*3) (kr n i cur)):=fun W hWc oA ty dc sc=>
  jB W 116 116 ty 162 3 w.heap.size ((i+1)*3) (n-i) dc ⟨b,i*3,none⟩ (n-i) sc (kr n i cur) Tryz.underlying116 eX (by rw[K4];congr 1;exact(Nat.min_self _).symm)
   (fun j v hj=>by
    rw[c9,hWc,cN _ _ _ _ _ (fun h _=>absurd h hbN)]
    exact hOb _ v (H.tail j v hj))
   (fun j hj=>by rw[hWc];exact isSome_setCells _ _ _ _ (fun t ht=>by simp only[bf,bM]at ht;exact hN _ (by omega)) _ (hN _ (by omega)))
   (fun j hj=>by rw[oA,World.frozen?_setCells];exact UQ _) H.RB
 subst WE
 have SQ:∀x,((w.alloc (.cells PF 162)).drew).cell? x=(w.drew.alloc (.cells PF 162)).cell? x:=fun x=>rfl
 have Gi:∀x,((w.alloc (.cells PF 162)).drew).frozen? x=(w.drew.alloc (.cells PF 162)).frozen? x:=fun x=>rfl
 have hF1:∀y,(((w.alloc (.cells PF 162)).drew.setCells w.heap.size (i*3) [x 0,x 1,x 2]).drew).cell? y=((w.drew.alloc (.cells PF 162)).setCells w.heap.size (i*3) [x 0,x 1,x 2]).cell? y:=fun x=>rfl
 have hF2:∀y,(((w.alloc (.cells PF 162)).drew.setCells w.heap.size (i*3) [x 0,x 1,x 2]).drew).frozen? y=((w.drew.alloc (.cells PF 162)).setCells w.heap.size (i*3) [x 0,x 1,x 2]).frozen? y:=fun x=>rfl
 have hw1:IntKind.i64.wrap ((i:Int)+1)=(i:Int)+1:=by rw[gu];omega
 have hw2:IntKind.i64.wrap ((n:Int)+1)=(n:Int)+1:=by rw[gu];omega
 have hw3:IntKind.i64.wrap ((n:Int)+1-(i:Int))=(n:Int)+1-(i:Int):=by rw[gu];omega
 have xe:(0:Int)<=(i:Int)+1:=by omega
 have aas:i<=n:=by omega
 have htn:((i:Int)+1).toNat=i+1:=by omega
 have hb3:(i:Int)<=(n:Int):=by omega
 have mixed:Tryz.prog.follows Departure.mixedOrders=true:=by kernel_rfl
 clear vg AA hold Fv hG PX hi0 CU Na JU K5 eX H
 go_enter Tryz.func252,Tryz.ntmps252
 go_wp2_with (first
  |(at_builtin;refine Lib.wpList_append_run _ rfl _ _ _ _ rfl _ _ rfl rfl _ _ (hrz _) ?_)
  |(at_builtin;refine wpList_copy_runI _ rfl _ _ 116 116 rfl _ _ rfl rfl (aat _ SQ Gi _ _) ?_)
  |(at_builtin;refine wpList_copy_runI _ rfl _ _ 116 116 rfl _ _ rfl rfl (Xd _ (fun _=>rfl) (fun _=>rfl) _ _ _) ?_))
 go_region_law_o (refine step_copy_runI rfl _ _ 116 116 rfl (.slice (some ⟨w.heap.size,(i+1)*3,none⟩) (n-i) (G-(i+1))) (.slice (some ⟨b,i*3,none⟩) (n-i) (cap-i)) (by simp[Act.eval,Act.put]) (by simp[Act.eval,Act.put]) (Xd _ hF1 hF2 3 (G-(i+1)) (cap-i)) ?_)
 go_wp2
 go_ret
 exact⟨rfl,rfl⟩
end
theorem w3(x:Nat->Value):∀j,(hj:j< [x 0,x 1,x 2].length)->[x 0,x 1,x 2][j]=x j
 |0,_=>rfl
 |1,_=>rfl
 |2,_=>rfl
theorem IK{n i:Nat}{cur:Array Value}(j:Nat)(hj:j<(kr n i cur).length):(kr n i cur)[j]=cur.getD (i*3+j) undef:=by simp[kr]
section
variable {b vb vo n i cap vc:Nat} {cur:Array Value} {x:Nat->Value} {w:World} (H:zR b vb vo n i cap cur x w)
include H
theorem Bd(p9:i=n)(ko:n+1<=cap):Ks 3 n i b 162 cur x w (w.setCells b (n*3) [x 0,x 1,x 2]) b cap:=by
 obtain⟨⟨c',h1,h2⟩,h3,h4,h5⟩:=jK b [x 0,x 1,x 2] (n*3) w cur 162 (0,0) H.hc
 refine⟨⟨c',h1,by rw[h2,H.eX]⟩,ko,.inl rfl,by rw[h3];exact ar _,fun d _ hd=>h4 d hd,h5,fun t ht=>?_⟩
 subst p9
 unfold Kr
 by_cases h:t<i*3
 ·rw[if_pos h,cN b _ _ _ _ (fun _ _=>.inl h)]
  exact H.cell (by have:=H.UO;omega)
 ·rw[if_neg h,if_pos (by omega)]
  have:=dI b [x 0,x 1,x 2] (i*3) w (fun j hj=>by rw[H.cell (by simp at hj;omega)];rfl) (t-i*3) (by simp;omega)
  rw[w3,show i*3+(t-i*3)=t by omega]at this
  exact this
theorem Be(p9:i=n){z:Value}(hz:z.cells.size=3):Ks 3 n i b 162 cur x w (w.drew.alloc (.cells ((((List.range (n*3)).map fun t=>cur.getD t undef)++[x 0,x 1,x 2]).toArray++Builtin.zeroCells z.cells (grownCap w (n+1) cap 162-(n+1))) 162)) w.heap.size (grownCap w (n+1) cap 162):=by
 have As:=grownCap_ge w (n+1) cap 162
 subst p9
 refine⟨⟨_,oQ w.drew _,?_⟩,As,.inr (ar _),?_,fun d hd _=>oP w.drew _ hd,⟨rfl,rfl,rfl,cO _⟩,fun t ht=>?_⟩
 ·rw[dw,gU,hz];simp;omega
 ·rw[j_];exact cO _
 ·rw[ia (w:=w.drew) _ _ w.heap.size t rfl,cA (by simp;omega)]
  simp only[fP,List.getElem?_append,aF,a_]
  unfold Kr
  by_cases h:t<i*3
  ·rw[if_pos h,if_pos h,aV,cH h];rfl
  ·rw[if_neg h,if_neg h,if_pos (by omega),ae (by simp;omega),w3]
theorem HC(p9:i<n)(ko:n+1<=cap):Ks 3 n i b 162 cur x w ((w.drew.setCells b ((i+1)*3) (kr n i cur)).setCells b (i*3) [x 0,x 1,x 2]) b cap:=by
 obtain⟨⟨c1,h1,h2⟩,h3,h4,h5⟩:=jK b (kr n i cur) ((i+1)*3) w.drew cur 162 (0,0) H.hc
 obtain⟨⟨c',g1,g2⟩,g3,g4,g5⟩:=jK b [x 0,x 1,x 2] (i*3) (w.drew.setCells b ((i+1)*3) (kr n i cur)) c1 162 (0,0) h1
 have K4:(kr n i cur).length=(n-i)*3:=by simp
 have hs1:c1.size=cap*3:=by rw[h2,H.eX]
 refine⟨⟨c',g1,by rw[g2,hs1]⟩,ko,.inl rfl,by rw[g3,h3];exact ar _,fun d _ hd=>by rw[g4 d hd,h4 d hd];rfl,?_,fun t ht=>?_⟩
 ·have h0:Still w w.drew:=⟨rfl,rfl,rfl,cO _⟩
  exact h0.trans (h5.trans g5)
 ·unfold Kr
  have cw:∀t,t<cap*3->w.drew.cell? ⟨b,t,none⟩=some (cur.getD t undef):=fun t ht=>H.cell ht
  by_cases h:t<i*3
  ·rw[if_pos h,cN b _ _ _ _ (fun _ _=>.inl h),cN b _ _ _ _ (fun _ _=>.inl (show t<(i+1)*3 by omega))]
   exact cw _ (by omega)
  ·rw[if_neg h]
   by_cases h':t<i*3+3
   ·rw[if_pos h']
    have:=dI b [x 0,x 1,x 2] (i*3) (w.drew.setCells b ((i+1)*3) (kr n i cur)) (fun j hj=>by rw[cell_of h1 (by simp at hj;omega)];rfl) (t-i*3) (by simp;omega)
    rw[w3,show i*3+(t-i*3)=t by omega]at this
    exact this
   ·rw[if_neg h',cN b _ _ _ _ (fun _ _=>.inr (show i*3+3<=t by omega))]
    have:=dI b (kr n i cur) ((i+1)*3) w.drew (fun j hj=>by rw[cw _ (by rw[K4]at hj;omega)];rfl) (t-(i+1)*3) (by rw[K4];omega)
    rw[IK,show(i+1)*3+(t-(i+1)*3)=t by omega,show i*3+(t-(i+1)*3)=t-3 by omega]at this
    exact this
theorem Kv(p9:i<n){z:Value}(hz:z.cells.size=3):Ks 3 n i b 162 cur x w ((((w.alloc (.cells (((List.range (i*3)).map fun t=>cur.getD t undef).toArray++Builtin.zeroCells z.cells (n+1-i)++Builtin.zeroCells z.cells (grownCap w (n+1) cap 162-(n+1))) 162)).drew.setCells w.heap.size (i*3) [x 0,x 1,x 2]).drew).setCells w.heap.size ((i+1)*3) (kr n i cur)) w.heap.size (grownCap w (n+1) cap 162):=by
 have _h:=H
 have As:=grownCap_ge w (n+1) cap 162
 obtain⟨PF,Fv⟩:∃PF:Array Value,PF=((List.range (i*3)).map fun t=>cur.getD t undef).toArray++Builtin.zeroCells z.cells (n+1-i)++Builtin.zeroCells z.cells (grownCap w (n+1) cap 162-(n+1)):=⟨_,rfl⟩
 rw[<-Fv]
 have eX:PF.size=grownCap w (n+1) cap 162*3:=by rw[Fv,dw,dw,gU,gU,hz];simp;omega
 have Na:(w.alloc (.cells PF 162)).drew.heap[w.heap.size]?=some (.cells PF 162 (0,0)):=oQ w _
 have K4:(kr n i cur).length=(n-i)*3:=by simp
 obtain⟨⟨c1,h1,h2⟩,h3,h4,h5⟩:=jK w.heap.size [x 0,x 1,x 2] (i*3) (w.alloc (.cells PF 162)).drew PF 162 (0,0) Na
 obtain⟨⟨c',g1,g2⟩,g3,g4,g5⟩:=jK w.heap.size (kr n i cur) ((i+1)*3) ((w.alloc (.cells PF 162)).drew.setCells w.heap.size (i*3) [x 0,x 1,x 2]).drew c1 162 (0,0) h1
 refine⟨⟨c',g1,by rw[g2,h2,eX]⟩,As,.inr (ar _),?_,fun d hd _=>?_,?_,fun t ht=>?_⟩
 ·rw[g3];show _<=(World.setCells _ _ _ _).heap.size;rw[h3];show _<=(w.alloc _).heap.size;rw[j_];exact cO _
 ·have FV:d≠w.heap.size:=Nat.ne_of_lt hd
  rw[g4 d FV]
  show(World.setCells _ _ _ _).heap[d]?=_
  rw[h4 d FV]
  exact oP w _ hd
 ·have s0:Still w (w.alloc (.cells PF 162)).drew:=⟨rfl,rfl,rfl,cO _⟩
  have s1:∀v:World,Still v v.drew:=fun v=>⟨rfl,rfl,rfl,cO _⟩
  exact s0.trans (h5.trans ((s1 _).trans g5))
 ·unfold Kr
  by_cases h:t<i*3
  ·rw[if_pos h,cN _ _ _ _ _ (fun _ _=>.inl (show t<(i+1)*3 by omega))]
   show(World.setCells _ _ _ _).cell? _=_
   rw[cN _ _ _ _ _ (fun _ _=>.inl h)]
   show(w.alloc _).cell? _=_
   rw[ia _ _ w.heap.size t rfl,Fv,Array.append_assoc,cA (by simp;exact h)]
   simp only[fP,aV,cH h];rfl
  ·rw[if_neg h]
   by_cases h':t<i*3+3
   ·rw[if_pos h',cN _ _ _ _ _ (fun _ _=>.inl (show t<(i+1)*3 by omega))]
    have:=dI w.heap.size [x 0,x 1,x 2] (i*3) (w.alloc (.cells PF 162)).drew (fun j hj=>by rw[cell_of Na (by simp at hj;omega)];rfl) (t-i*3) (by simp;omega)
    rw[w3,show i*3+(t-i*3)=t by omega]at this
    exact this
   ·rw[if_neg h']
    have:=dI w.heap.size (kr n i cur) ((i+1)*3) ((w.alloc (.cells PF 162)).drew.setCells w.heap.size (i*3) [x 0,x 1,x 2]).drew (fun j hj=>by
     have:((w.alloc (.cells PF 162)).drew.setCells w.heap.size (i*3) [x 0,x 1,x 2]).drew.cell? ⟨w.heap.size,(i+1)*3+j,none⟩=_:=cell_of h1 (by rw[h2,eX];rw[K4]at hj;omega)
     rw[this];rfl) (t-(i+1)*3) (by rw[K4];omega)
    rw[IK,show(i+1)*3+(t-(i+1)*3)=t by omega,show i*3+(t-(i+1)*3)=t-3 by omega]at this
    exact this
theorem Kw:Calls Tryz.prog 252 #[.slice (some ⟨b,0,none⟩) n cap,.int .i64 i,.slice (some ⟨vb,vo,none⟩) 1 vc] w fun e w'=>
 ∃b' xw,e=.returned (.slice (some ⟨b',0,none⟩) (n+1) xw)/\Ks 3 n i b 162 cur x w w' b' xw:=by
 rcases cm i n with p9|p9
 ·rcases cm cap (n+1)with ko|ko
  ·obtain⟨z,hz,h⟩:=NG (vc:=vc) H p9 ko
   exact h.mono fun e w' ⟨h1,h2⟩=>⟨_,_,h1,h2▸Kv H p9 hz⟩
  ·exact(Kt (vc:=vc) H p9 ko).mono fun e w' ⟨h1,h2⟩=>⟨_,_,h1,h2▸HC H p9 ko⟩
 ·have hi:i=n:=by have:=H.hi;omega
  rcases cm cap (n+1)with ko|ko
  ·obtain⟨z,hz,h⟩:=DM (vc:=vc) H hi ko
   rw[show(i:Int)=(n:Int) by omega]
   exact h.mono fun e w' ⟨h1,h2⟩=>⟨_,_,h1,h2▸Be H hi hz⟩
  ·rw[show(i:Int)=(n:Int) by omega]
   exact(DL (vc:=vc) H hi ko).mono fun e w' ⟨h1,h2⟩=>⟨_,_,h1,h2▸Bd H hi ko⟩
end
theorem xh(σ:aG)(f:Nat)(l:List l4)(h:l4)(i:Nat)(hf:σ.at f 0=some ⟨162,3,l.map l4.cs,none⟩)(hn0:0<l.length)(hi:i<=l.length)(hl:l.length<1000000):eY Tryz.prog 252 [.own f 0 l.length,n i,.sl 3 [h.cs]] σ (fun r σ'=>r=.own f 0 (l.length+1)/\σ'=σ.cZ f 0 ⟨162,3,(l.map l4.cs).take i++h.cs::(l.map l4.cs).drop i,none⟩):=by
 refine⟨Tryz.call252,fun X β w xs hX nv hlen hr=>?_⟩
 match xs,hlen with
 | [x,y,z],_=>
  have hx:=hr 0 (by simp)
  have hy:=(hr 1 (by simp)).dz
  have hz:=hr 2 (by simp)
  simp only[dF,eP]at hx hy hz
  subst hy
  have ic:=nv.obj f 0 _ hf
  have yu:(l.map l4.cs).length=l.length:=aF _
  cases hx with
  |own _ _ _ _ Mr Tz hle h0=>
   have h':=h0 _ hf yu
   unfold kD at h'
   cases nf:β f 0 with
   |none=>
    rw[nf]at h'
    have h2:l.map l4.cs=[]:=h'.1
    rw[h2]at yu
    simp only[bM]at yu
    omega
   |some b=>
    rw[nf]at h' ic
    obtain⟨cap,c0,T0,rfl,CL,JL⟩:=h'
    obtain⟨c,IQ,eX,jN,GV⟩:=ic.2.1 rfl
    rw[IQ]at CL;injection CL with CL;injection CL with CL _;subst CL
    simp only[yu]at eX jN GV JL|-
    have hzz:∃vb vo vc,∃x:Nat->Value,z=.slice (some ⟨vb,vo,none⟩) 1 vc/\(∀j,j<3->w.cell? ⟨vb,vo+j,none⟩=some (x j))/\¬Xt X β σ vb/\(∀j,j<3->(x j).oneCell'=true)/\∀j,j<3->RV w (Xt X β σ) β σ (h.cs.getD j .any) (x j):=by
     cases hz with
     |sl _ _ vb vo vc x ep hk hc hX1 h1 KT=>
      exact⟨vb,vo,vc,x 0,rfl,fun j hj=>by have:=hc 0 (by simp) j hj;simpa using this,hX1 0 0 (by simp) (by omega),fun j hj=>h1 0 j (by simp) hj,fun j hj=>by have:=KT 0 j (by simp) hj;simpa using this⟩
    obtain⟨vb,vo,vc,xv,rfl,N9,hvX,hv2,hv3⟩:=hzz
    have hle:l.length<=cap:=by omega
    have P:zR b vb vo l.length i cap c xv w:=⟨IQ,JL,hle,hn0,hl,hi,fun e=>hvX (.inr ⟨f,0,_,hf,by rw[nf,e]⟩),N9,fun t ht=>by
     have:=jN (t/3) (t % 3) (by omega) (by omega)
     rwa[show t/3*3+t % 3=t by omega]at this,hv2⟩
    refine callsIn_wide.2 ((Kw (vc:=vc) P).mono ?_)
    rintro e w' ⟨b',xw,rfl,I⟩
    obtain⟨β',S,aau,aav,hkp⟩:=Qi nv hX hf nf IQ yu hi rfl hv2 hv3 I
    exact⟨_,_,_,_,rfl,⟨rfl,rfl⟩,S,aau,aav,hkp⟩
end Go.Proofs.YtgopgjnfhkoomaaGreat
namespace Go.Abs
theorem lW{α β γ:Type}{G:α->β->α}(g:α->γ)(h:∀x a,g (G x a)=g x):∀(l:List β) (x:α),g (l.foldl G x)=g x
 | [],x=>rfl
 |a::l,x=>by rw[cT,lW g h l,h]
theorem l5{α β:Type}{G:α->β->α}(I:α->Prop):∀(l:List β) (x:α),(∀x a,a∈l->I x->I (G x a))->I x->I (l.foldl G x)
 | [],x,h,hx=>hx
 |a::l,x,h,hx=>l5 I l _ (fun x a ha=>h x a (List.mem_cons_of_mem _ ha)) (h x a (List.mem_cons_self ..) hx)
def rH(x:Fs):Prop:=∀m L,eM x.marks m=some L->L.length<=64
def kp(x:Fs):List (Nm×List Nm)×List dm×List Rd×List j3:=(x.marks,x.rs,x.rr,x.st)
theorem kl(al:List (Nm×Nt))(x:Fs)(a:Nt):kp (fw al x a)=kp x:=by unfold fw kp;split<;>rfl
theorem B4(x:Fs)(a:Nt):kp (mm x a)=kp x:=by unfold mm kp;split<;>rfl
theorem Ft(al:List (Nm×Nt))(x:Fs)(a:Nt):kp (rk al x a)=kp x:=by unfold rk;split;exact kl ..;rfl
theorem xf(al:List (Nm×Nt))(x:Fs)(a:Nt):kp (gY al x a)=kp x:=by
 unfold gY
 split
 ·split
  ·exact kl ..
  ·rfl
 ·split
  ·exact kl ..
  ·rfl
theorem kT{x y:Fs}(h:kp x=kp y):x.marks=y.marks/\x.rs=y.rs/\x.rr=y.rr/\x.st=y.st:=by
 simp only[kp,aw]at h;exact h
theorem xg{β:Type}(m:Nm)(v:β):∀M:List (Nm×β),(gX M m v).length<=M.length+1
 | []=>by simp[gX]
 |x::r=>by
  simp only[gX]
  have:=xg m v r
  split<;>simp<;>omega
theorem u9(al:List (Nm×Nt))(x:Fs)(a:Nt)(h:rH x):rH (lJ al x a)/\(lJ al x a).marks.length<=x.marks.length+1/\(lJ al x a).rs=x.rs/\(lJ al x a).rr=x.rr/\(lJ al x a).st=x.st:=by
 unfold lJ
 split
 ·obtain⟨h1,h2,h3,h4⟩:=kT (kl al x a)
  exact⟨fun m L hm=>h m L (by rw[<-h1];exact hm),by rw[h1];omega,h2,h3,h4⟩
 ·rename_i hn
  refine⟨fun m L hm=>?_,xg _ _ _,rfl,rfl,rfl⟩
  simp only[vS]at hm
  split at hm
  ·injection hm with hm
   subst hm
   simp only[not_or]at hn
   simp only[aM,bf,bM]
   omega
  ·exact h m L hm
theorem nR(al:List (Nm×Nt))(x:Fs)(a:Nt):(mo al x a).marks=x.marks/\(mo al x a).rs.length<=x.rs.length+1/\(mo al x a).rr=x.rr/\(mo al x a).st=x.st:=by
 unfold mo
 simp only
 split
 ·obtain⟨h1,h2,h3,h4⟩:=kT (kl al x a)
  exact⟨h1,by rw[h2];omega,h3,h4⟩
 ·exact⟨rfl,by simp,rfl,rfl⟩
theorem Fu(x:Fs)(a:Nt):(qk x a).marks=x.marks/\(qk x a).rs=x.rs/\(qk x a).rr.length=x.rr.length+1/\(qk x a).st=x.st:=⟨rfl,rfl,by simp[qk],rfl⟩
theorem zQ{l:List Nt}{ks:List Int}{a:Nt}(h:a∈fg l ks):a∈l/\(ks=[]\/a.kind∈ks):=by
 unfold fg at h
 obtain⟨h1,h2⟩:=cM.1 h
 refine⟨GP l a h1,?_⟩
 rcases dK _ _|>.mp h2 with h3|h3
 ·exact .inl (List.isEmpty_iff.1 h3)
 ·exact .inr (List.contains_iff_mem.1 h3)
theorem wy(al:List (Nm×Nt)):∀(l:List Nt) (q:Fs×List Nm),(l.foldl (k_ al) q).2.length<=q.2.length+l.length/\kp (l.foldl (k_ al) q).1=kp q.1
 | [],q=>⟨by simp,rfl⟩
 |a::l,(f,o)=>by
  obtain⟨h1,h2⟩:=wy al l (k_ al (f,o) a)
  rw[cT]
  refine⟨bT h1 ?_,h2.trans ?_⟩
  ·simp only[k_,bf]
   (repeat' split)<;>(try simp only[aM,bf,bM])<;>omega
  ·simp only[k_]
   split
   ·exact kl ..
   ·rfl
def fq(S:List Nt)(q:Nt->Bool)(m:Nm):Option Nt:=S.find? fun a=>decide (a.nm=m)&&q a
def kd(k:Int):Nt->Bool:=fun a=>decide (a.kind=k)
abbrev shN(S:List Nt):Nm->Option Nt:=fq S (kd 1)
def aaw(s:Nt)(c:Int):Bool:=decide (c<=(s.c8.rates.length:Int))
def mkd(S:List Nt)(a:Nt):Bool:=match shN S a.ref with
 |none=>false
 |some s=>aaw s a.mark.en
def bef(S:List Nt)(a:Nt):List Nt:=S.takeWhile fun x=>decide (x.nm≠a.nm)
def onT(m:Nm):Nt->Bool:=fun x=>decide (x.ref=m)
def Hl(S:List Nt)(a:Nt):Bool:=mkd S a&&decide (((bef S a).filter fun x=>kd 2 x&&(onT a.ref x&&mkd S x)).length<64)
def Yu(S:List Nt)(m:Nm):List Nt:=S.filter fun k=>kd 2 k&&(onT m k&&Hl S k)
def clS(C:List (Nm×Bool))(P:Nm->Prop):Prop:=∀m,eM C m=some true↔P m
theorem clS.set{C:List (Nm×Bool)}{P:Nm->Prop}(h:clS C P)(k:Nm):clS (gX C k true) fun m=>m=k\/P m:=fun m=>by
 rw[vS]
 by_cases e:m=k
 ·simp[e]
 ·simp[e,h m]
theorem clS.cg{C:List (Nm×Bool)}{P Q:Nm->Prop}(h:clS C P)(e:∀m,P m↔Q m):clS C Q:=fun m=>(h m).trans (e m)
theorem Kx{c:Int}{l:List Int}(h:sf c l)(hc:0<=c):(l.length:Int)<=c:=by
 have key:∀i:Nat,i<l.length->(i:Int)<=l.getD i 0:=by
  intro i
  induction i with
  |zero=>intro hi;exact(h 0 hi).1.1
  |succ i ih=>
   intro hi
   have h1:=ih (by omega)
   have h2:=(h (i+1) hi).2 (by omega)
   rw[Nat.add_sub_cancel]at h2
   omega
 rcases gB l.length with h0|h0
 ·omega
 ·have h1:=key (l.length-1) (by omega)
  have h2:=(h (l.length-1) (by omega)).1.2
  omega
theorem Ky{s:fT}(h:s.ok):s.trace.length<=2000/\s.eu.length<=200/\s.rates.length<=199/\s.stops.length<=16:=by
 obtain⟨h1,h2,h3,h4,h5,h6⟩:=h
 have ht:s.trace.length<=2000:=by
  unfold nr at h1
  split at h1
  ·simp at h1
  ·omega
 have hr:=h3.1.2
 have hb:=Kx h5 (by omega)
 exact⟨ht,by omega,by omega,h3.2.1⟩
theorem tL{l:List j3}(h:(gW l).1=0):l.length<=32/\∀s∈l,s.cz.length<=16:=by
 unfold gW at h
 split at h
 ·simp at h
 rename_i h32
 rw[oU]at h
 refine⟨by omega,fun s hs=>?_⟩
 obtain⟨i,hi,rfl⟩:=fZ.1 hs
 have h1:=h i hi
 unfold xD at h1
 simp only at h1
 split at h1
 ·split at h1
  ·rename_i h2
   rw[ab,ae hi]at h2
   have:=h2.1.2
   simp only[bV]at this
   omega
  ·omega
 ·omega
theorem NH{b:l8}{a:Nt}(h:a.ok b)(hk:a.kind=1):a.c8.trace.length<=2000/\a.c8.eu.length<=200/\a.c8.rates.length<=199/\a.c8.stops.length<=16:=by
 have h1:=h.2.2.2.2
 unfold Nt.AP at h1
 rw[if_pos hk]at h1
 exact Ky h1.2
theorem tM{l:List j3}:(gW l).1=0↔l.length<=32/\∀j,j<l.length->xD l j=0:=by
 unfold gW
 by_cases h:32<l.length
 ·rw[if_pos h]
  exact⟨fun e=>absurd e (by decide),fun⟨h1,_⟩=>by omega⟩
 ·rw[if_neg h,oU]
  exact⟨fun e=>⟨by omega,e⟩,fun e=>e.2⟩
theorem wA{l:List j3}{j:Nat}:xD l j=0↔inr (l.getD j default).id 1 65535/\(0<j->(l.getD (j-1) default).id<(l.getD j default).id)/\inr (l.getD j default).x 0 2000/\inr (l.getD j default).y 0 2000/\lu (l.getD j default).cz:=by
 unfold xD
 simp only
 by_cases h:inr (l.getD j default).id 1 65535/\(0<j->(l.getD (j-1) default).id<(l.getD j default).id)/\inr (l.getD j default).x 0 2000/\inr (l.getD j default).y 0 2000
 ·rw[if_pos h]
  by_cases hh:lu (l.getD j default).cz
  ·rw[if_pos hh];exact⟨fun _=>⟨h.1,h.2.1,h.2.2.1,h.2.2.2,hh⟩,fun _=>rfl⟩
  ·rw[if_neg hh];exact⟨fun e=>absurd e (by decide),fun e=>absurd e.2.2.2.2 hh⟩
 ·rw[if_neg h]
  exact⟨fun e=>absurd e (by decide),fun e=>absurd ⟨e.1,e.2.1,e.2.2.1,e.2.2.2.1⟩ h⟩
theorem u_{α:Type}{l:List α}{i j:Nat}{a d:α}(hi:i<l.length):(l.set i a).getD j d=if j=i then a else l.getD j d:=by
 rw[ab,bX]
 by_cases h:j=i
 ·subst h;rw[if_pos rfl,if_pos hi,if_pos rfl];rfl
 ·rw[if_neg (fun e=>h e.symm),if_neg h,ab]
theorem NI{l:List j3}{i:Nat}{r:j3}(h:(gW l).1=0)(hi:i<l.length)(e1:r.id=(l.getD i default).id)(e2:r.x=(l.getD i default).x)(e3:r.y=(l.getD i default).y)(hh:lu r.cz):(gW (l.set i r)).1=0:=by
 obtain⟨h1,h2⟩:=tM.1 h
 refine tM.2 ⟨by rw[cK];exact h1,fun j hj=>?_⟩
 rw[cK]at hj
 have h3:=wA.1 (h2 j hj)
 have AB:∀m,((l.set i r).getD m default).id=(l.getD m default).id:=fun m=>by
  rw[u_ hi];split
  ·rename_i e;rw[e,e1]
  ·rfl
 refine wA.2 ⟨by rw[AB];exact h3.1,fun h0=>by rw[AB,AB];exact h3.2.1 h0,?_,?_,?_⟩
 ·rw[u_ hi];split
  ·rename_i e;subst e;rw[e2];exact h3.2.2.1
  ·exact h3.2.2.1
 ·rw[u_ hi];split
  ·rename_i e;subst e;rw[e3];exact h3.2.2.2.1
  ·exact h3.2.2.2.1
 ·rw[u_ hi];split
  ·exact hh
  ·exact h3.2.2.2.2
theorem Qk{s:j3}{h:l4}(e:(mV s h).2=0):(mV s h).1={s with cz:=nY h s.cz}/\lu (nY h s.cz):=by
 unfold mV at e|-
 by_cases h1:(gW [s]).1≠0
 ·rw[if_pos h1]at e;exact absurd e h1
 ·rw[if_neg h1]at e|-
  by_cases h2:lu (nY h s.cz)
  ·rw[if_pos h2];exact⟨rfl,h2⟩
  ·rw[if_neg h2]at e;exact absurd e (by decide)
structure pO(b l:List j3):Prop where
 ok:(gW l).1=0
 ids:l.map j3.id=b.map j3.id
theorem Fw(l:List j3)(id:Int):(l.findIdx? fun s=>s.id==id)=(l.map j3.id).findIdx? fun z=>z==id:=by
 rw[List.findIdx?_map];rfl
theorem pO.of{b l:List j3}(hb:(gW b).1=0)(h:pO b l)(id:Int):gI l id=gI b id:=by
 unfold gI
 rw[if_neg (by rw[h.ok];decide),if_neg (by rw[hb];decide),Fw,Fw,h.ids]
theorem NJ{l:List j3}{id:Int}(h:(gI l id).2=0):(gI l id).1<l.length/\(l.getD (gI l id).1 default).id=id:=by
 unfold gI at h|-
 by_cases h1:(gW l).1≠0
 ·rw[if_pos h1]at h;exact absurd h h1
 ·rw[if_neg h1]at h|-
  cases hf:l.findIdx? fun s=>s.id==id with
  |none=>rw[hf]at h;exact absurd h (by decide)
  |some i=>
   obtain⟨h2,h3,_⟩:=List.findIdx?_eq_some_iff_getElem.1 hf
   refine⟨h2,?_⟩
   simp only
   rw[ab,ae h2]
   simpa using h3
theorem pO.move{b l:List j3}(h:pO b l){i:Nat}(hi:i<l.length){g:l4}(e:(mV (l.getD i default) g).2=0):pO b (l.set i (mV (l.getD i default) g).1):=by
 obtain⟨h1,h2⟩:=Qk e
 rw[h1]
 refine⟨NI h.ok hi rfl rfl rfl h2,?_⟩
 rw[<-h.ids,fU]
 refine dv fun j=>?_
 rw[bX]
 split
 ·rename_i e;subst e
  rw[aV,aF,if_pos hi,ab,ae hi];rfl
 ·rfl
theorem pO.raise{b:List j3}{x:Fs}(al:List (Nm×Nt))(a:Nt)(h:pO b x.st):pO b (nt al x a).st:=by
 unfold nt
 simp only
 by_cases h2:(mV (x.st.getD (gI x.st a.fB).1 default) a.ej).2≠0
 ·rw[if_pos h2,(kT (kl al x a)).2.2.2];exact h
 ·rw[if_neg h2]
  by_cases hi:(gI x.st a.fB).1<x.st.length
  ·exact h.move hi (by omega)
  ·simp only;rw[List.set_eq_of_length_le (by omega)];exact h
theorem B5(al:List (Nm×Nt))(x:Fs)(a:Nt):(nt al x a).rr=x.rr:=by
 unfold nt
 simp only
 split
 ·exact(kT (kl al x a)).2.2.1
 ·rfl
end Go.Abs
namespace Go.Proofs.YtgopgjnfhkoomaaGreat
open Go.Abs
open Nat (reduceAdd reduceSub reduceLT reduceLeDiff reduceMul reduceEqDiff)
set_option maxHeartbeats 4000000
set_option maxRecDepth 100000
theorem HD(s:j3)(hs:s.cz.length<9223372036854775808):Pure Tryz.prog 231 [.sl 4 [s.cs]] (n (gW [s]).1):=by
 refine jX Tryz.f231.eq_1 [] [.l [7,8,9]] ?_
 have hc:=mM [s] ⟨by simp,by simpa using hs⟩
 simp only[KY,bq,dL]at hc
 generalize(gW [s]).1=e at hc
 generalize(gW [s]).2=v at hc
 refine Au ?_;intros
 refine aR.lr (α:={x:Nat×aG//x.1<=1/\(x.1=1->e=0)}) [9] (fun x=>[(9,n x.1.1)]) (fun x=>x.1.2) (fun x=>1-x.1.1) ⟨(0,[]),by omega,by simp⟩ ?_
 ·rintro⟨⟨i,μ⟩,hi,hI⟩
  simp only at hi hI
  by_cases h0:i=0
  ·subst h0
   (refine Ay @hc ?_ (CM ?_)<;>intros)
   ·exact Fq
   ·exact⟨⟨(1,μ++[some [⟨118,4,[s.cs],none⟩]]),by omega,fun _=>by omega⟩,by simp,by simp,by simp⟩
  ·obtain rfl:i=1:=by omega
   have he:=hI rfl
   subst he
   refine Au ?_;intros
   all_goals exact Fq
theorem DN{h:l4}:∀{l:List l4} {k:Nat},k<=l.length->(∀j,j<k->(l.getD j uB).week<h.week)->(k<l.length->¬(l.getD k uB).week<h.week)->nY h l=l.take k++h::l.drop k
 | [],k,hk,_,_=>by
  obtain rfl:k=0:=by simpa using hk
  rfl
 |g::r,0,_,_,h2=>by
  have:¬g.week<h.week:=h2 (by simp)
  unfold nY
  rw[if_neg this];rfl
 |g::r,k+1,hk,h1,h2=>by
  have:g.week<h.week:=h1 0 (Nat.succ_pos _)
  unfold nY
  rw[if_pos this,List.take_succ_cons,iC,aD]
  congr 1
  refine DN (by simpa using hk) (fun j hj=>?_) (fun UH=>?_)
  ·have:=h1 (j+1) (by omega)
   simpa using this
  ·have:=h2 (by simpa using UH)
   simpa using this
theorem NK(l:List l4)(h0:l≠[])(hl:l.length*24<=140737488355328)(σ:aG):eY Tryz.prog 141 [Rl l] σ (uI σ 162 3 (l.map l4.cs)):=by
 refine Fi Tryz.f141.eq_1 [5] [] ?_
 have iw:l.map l4.cs≠[]:=by simpa using h0
 refine Au ?_;intros
 exact .mk [] (by simp) rfl
theorem Kz(s:j3)(h:l4)(hs:s.cz.length<1000000):Pure Tryz.prog 201 [.agg s.cs,.agg h.cs] (.iu [.agg (mV s h).1.cs,n (mV s h).2]):=by
 refine et 47 (jo [jw 2 (.box true 118 4 (.t 0)),jx 3 162 3 1,jw 4 (.alloc 118 4 [.int .i64 0,.int .i64 0,.int .i64 0,.slice none 0 0]),jc 5 0] [2,3,4] (.seq (jo [jk 8 4 2,jw 9 (.jR false 118 4 1 [.int .i64 0,.int .i64 0,.int .i64 0,.slice none 0 0] [(0,4,(.t 8))]),jy 10 231 [9],jm 6 10] [2,3,4,6] (jo [jm 11 6,ju .neq 12 11 0] [2,3,4,6,12] (.cond (.t 12) (jo [jw 13 (.build [.int .i64 0,.int .i64 0,.int .i64 0,.slice none 0 0] []),jm 14 6,js 4 4 13,jm 5 14] [4,5] .ret) .skip))) (jo [jc 7 0] [2,3,4,7] (.seq (.block 0 (.loop (.seq (.seq (.draw [jm 15 7,jf 16 3 2,jl 17 16,je 18 17,jt .lss 19 15 18,jm 20 19,ja 20 (jf 21 3 2),ja 20 (jl 22 21),ja 20 (jm 23 7),ja 20 (ji 24 3 22 23),ja 20 (jf 25 0 24),ja 20 (jl 26 25),ja 20 (jf 27 0 3),ja 20 (jl 28 27),ja 20 (jt .lss 29 26 28),jp 30 20 29] [] [2,3,4,7,30]) (.cond (.t 30) .skip (.exit 0))) (.block 1 (.ops [jm 31 7,ju .add 32 31 1,jm 7 32] [2,3,4,7]))))) (.seq (.jC [0,1,3,4,5,2,6,7,8] [2,3,4] 1 [jf 33 3 2,jl 34 33,jm 36 7,jk 37 3 3,jw 38 (.jR false 162 3 1 [.int .i64 0,.int .i64 0,.int .i64 0] [(0,3,(.t 37))])] [jy 35 141 [34],jy 39 252 [35,36,38],jf 40 3 2,js 1 40 39] [2,4]) (.seq (jo [jf 41 3 2,jl 42 41,jy 43 93 [42],jv 44 43] [2,4,44] (.cond (.t 44) (jo [jw 45 (.build [.int .i64 0,.int .i64 0,.int .i64 0,.slice none 0 0] []),js 4 4 45,jc 5 51] [4,5] .ret) .skip)) (jo [jk 46 4 2,js 4 4 46,jc 5 0] [4,5] .ret))))))) [.c 4 (some 4),.t 5] Tryz.call201 Tryz.func201 ?_
 have ha:=HD s (by omega)
 by_cases he:(gW [s]).1=0
 ·rw[he]at ha
  have iw:s.cz≠[]:=by
   have:=(wA.1 ((tM.1 he).2 0 (by simp))).2.2.2.2
   have h1:inr s.cz.length 1 16:=this.1
   intro e;rw[e]at h1;exact absurd h1.1 (by decide)
  have Cb:0<s.cz.length:=eQ.2 iw
  have hE:mV s h=if lu (nY h s.cz)then({s with cz:=nY h s.cz},0)else(default,51):=by unfold mV;rw[if_neg (by omega)]
  rw[hE]
  have ow:=fun σ=>NK s.cz iw (by omega) σ
  have DU:=fun l hl=>sk l hl
  clear hE
  obtain⟨id,sx,sy,L⟩:=s
  simp only at hs Cb ow iw|-
  refine Ay @ha ?_;intros
  refine aR.ls (α:={k:Nat//k<=L.length/\∀j,j<k->(L.getD j uB).week<h.week}) [7] (fun k=>[(7,n k.1)]) (fun k=>L.length-k.1) ⟨0,aQ _,fun j hj=>absurd hj (aN _)⟩ ?_
  ·rintro⟨k,hk,hI⟩
   try simp only at hk hI
   by_cases ue:k<L.length/\(L.getD k uB).week<h.week
   ·obtain⟨bP,hw⟩:=ue
    have cX:(L.map l4.cs).getD k []=l4.cs (L.getD k uB):=row uB bP
    have hI2:∀j,j<k+1->(L.getD j uB).week<h.week:=od hI hw
    generalize L.getD k uB=g at cX hw
    refine Ax @cX ?_;intros
    exact⟨⟨k+1,bP,hI2⟩,by simp,by simp only;omega⟩
   ·by_cases bP:k<L.length
    ·have cX:(L.map l4.cs).getD k []=l4.cs (L.getD k uB):=row uB bP
     have hw:¬(L.getD k uB).week<h.week:=fun hw=>ue ⟨bP,hw⟩
     generalize L.getD k uB=g at cX hw
     refine Ax @cX ?_;intros
     refine .inr ⟨_,_,_,_,rfl,ow _,?_⟩
     rintro r σ' ⟨ν,rfl,rfl⟩
     refine⟨rfl,?_⟩
     refine adL ?_
     refine .inr (.inl ⟨_,_,_,_,rfl,fun _=>⟨xh _ 2 L h k rfl Cb hk hs,?_⟩,fun h=>by cases h⟩)
     rintro r σ' ⟨rfl,rfl⟩
     refine aH ?_
     have hF:=DN hk hI (fun bP hw=>ue ⟨bP,hw⟩)
     have zy:(L.map l4.cs).take k++h.cs::(L.map l4.cs).drop k=(nY h L).map l4.cs:=by rw[hF];simp
     have A_:(nY h L).length=L.length+1:=by rw[hF];simp;omega
     rw[zy]
     clear hF zy hI ue
     have tj:∀A B ν,jg Tryz.prog 93 [.own 2 0 (L.length+1)] (A::B::some [⟨162,3,(nY h L).map l4.cs,none⟩]::ν) (bl (decide (lu (nY h L)))):=fun A B ν=>
      jg.plain (sk (nY h L) (by omega)) (Plain.v _) ⟨bO.gZ (f:=2) rfl A_ (by decide) (fun a c hc=>by simp at hc;rcases hc with rfl|rfl|rfl<;>simp) (fun a=>rfl),trivial⟩
     generalize nY h L=M at A_ tj|-
     refine aet @A_ ?_
     by_cases lO:lu M
     ·rw[decide_eq_true lO]at tj
      rw[if_pos lO]
      refine Az @A_ @tj ?_;intros
      exact bO.mY ⟨bO.mX ⟨bO.pure (by simp),bO.pure (by simp),bO.pure (by simp),bO.gZ (f:=2) (T:=162) (cs:=l4.cs) rfl A_ (by decide) (fun a c hc=>by simp at hc;rcases hc with rfl|rfl|rfl<;>simp) (fun a=>rfl),trivial⟩,bO.pure (by simp),trivial⟩
     ·rw[decide_eq_false lO]at tj
      rw[if_neg lO]
      refine Az @A_ @tj ?_;intros
      exact bO.mY ⟨bO.mX ⟨bO.pure (by simp),bO.pure (by simp),bO.pure (by simp),bO.g_,trivial⟩,bO.pure (by simp),trivial⟩
    ·have cX:(L.map l4.cs).getD k []=[]:=by rw[ab,b_ (by simp;omega)];rfl
     refine Ax @cX ?_;intros
     refine .inr ⟨_,_,_,_,rfl,ow _,?_⟩
     rintro r σ' ⟨ν,rfl,rfl⟩
     refine⟨rfl,?_⟩
     refine adL ?_
     refine .inr (.inl ⟨_,_,_,_,rfl,fun _=>⟨xh _ 2 L h k rfl Cb hk hs,?_⟩,fun h=>by cases h⟩)
     rintro r σ' ⟨rfl,rfl⟩
     refine aH ?_
     have hF:=DN hk hI (fun bP hw=>ue ⟨bP,hw⟩)
     have zy:(L.map l4.cs).take k++h.cs::(L.map l4.cs).drop k=(nY h L).map l4.cs:=by rw[hF];simp
     have A_:(nY h L).length=L.length+1:=by rw[hF];simp;omega
     rw[zy]
     clear hF zy hI ue
     have tj:∀A B ν,jg Tryz.prog 93 [.own 2 0 (L.length+1)] (A::B::some [⟨162,3,(nY h L).map l4.cs,none⟩]::ν) (bl (decide (lu (nY h L)))):=fun A B ν=>
      jg.plain (sk (nY h L) (by omega)) (Plain.v _) ⟨bO.gZ (f:=2) rfl A_ (by decide) (fun a c hc=>by simp at hc;rcases hc with rfl|rfl|rfl<;>simp) (fun a=>rfl),trivial⟩
     generalize nY h L=M at A_ tj|-
     refine aet @A_ ?_
     by_cases lO:lu M
     ·rw[decide_eq_true lO]at tj
      rw[if_pos lO]
      refine Az @A_ @tj ?_;intros
      exact bO.mY ⟨bO.mX ⟨bO.pure (by simp),bO.pure (by simp),bO.pure (by simp),bO.gZ (f:=2) (T:=162) (cs:=l4.cs) rfl A_ (by decide) (fun a c hc=>by simp at hc;rcases hc with rfl|rfl|rfl<;>simp) (fun a=>rfl),trivial⟩,bO.pure (by simp),trivial⟩
     ·rw[decide_eq_false lO]at tj
      rw[if_neg lO]
      refine Az @A_ @tj ?_;intros
      exact bO.mY ⟨bO.mX ⟨bO.pure (by simp),bO.pure (by simp),bO.pure (by simp),bO.g_,trivial⟩,bO.pure (by simp),trivial⟩
 ·have hE:mV s h=(default,(gW [s]).1):=by unfold mV;rw[if_pos he]
  rw[hE]
  generalize(gW [s]).1=e at ha he
  refine Ay @ha ?_;intros
  all_goals exact bO.mY ⟨bO.mX ⟨bO.pure (by simp),bO.pure (by simp),bO.pure (by simp),bO.g_,trivial⟩,bO.pure (by simp),trivial⟩
theorem Qe(f:Nat)(dZ:List AV)(ep:∀c∈dZ,bC c)(q:dm->Bool)(l:List dm)(hl:l.length<9223372036854775808)(hq:∀x∈l,Pure Tryz.prog f ([.agg (dm.cs x)]++dZ) (bl (q x))):Pure Tryz.prog 250 [X9 l,.fn (.func f) [] dZ] (n (fj q 0 l)):=by
 refine jX Tryz.f250.eq_1 [] [.l [0,1,7,8]] ?_
 refine Au ?_;intros
 refine aR.li 8 l.length (fun i=>fj q i (l.drop i)=fj q 0 l) (by simp) ?_
 ·intro i hi hI
  by_cases bP:i<l.length
  ·obtain⟨x,hx⟩:∃x,l[i]?=some x:=⟨_,ae bP⟩
   have hc:=hq x (ao hx)
   rw[drop_cons hx,fj]at hI
   refine Ax (Kf hx) ?_;intros
   refine .inl ⟨_,_,_,_,rfl,fun _=>.of ?_ (hc),?_⟩
   ·intro a ha
    simp only[aK,aD,aC]at ha
    rcases ha with rfl|ha
    ·simp
    ·exact ep a ha
   refine aH ?_
   (refine Au ?_ (CM ?_)<;>intros)
   ·rename_i h
    rw[h]at hI
    simp only[if_true]at hI
    rw[<-hI]
    exact Fq
   ·rename_i h
    rw[h]at hI
    exact⟨⟨i+1,bP,by simpa using hI⟩,by simp,by simp only;omega⟩
  ·obtain rfl:i=l.length:=by omega
   rw[c_,fj]at hI
   refine Au ?_;intros
   rw[<-hI]
   exact Fq
theorem Hy(o:Option Nat)(z:Int)(h:z=match o with|some j=>(j:Int)|none=>-1):Pure Tryz.prog 249 [n z] (.iu [n ((nZ o).1:Nat),n (nZ o).2]):=by
 refine jX Tryz.f249.eq_1 [] [] ?_
 cases o with
 |none=>
  subst h
  refine Au ?_;intros
  all_goals first|(exfalso;omega)|exact bO.eq rfl (by simp[nZ])
 |some j=>
  subst h
  refine Au ?_;intros
  all_goals first|(exfalso;omega)|exact bO.eq rfl (by simp[nZ])
theorem Nz{α:Type}(q:α->Bool)(l:List α):fj q 0 l=match l.findIdx? q with|some j=>(j:Int)|none=>-1:=by rw[sj];cases l.findIdx? q<;>simp
theorem A'(s w:Int)(f:dm):Pure Tryz.prog 251 [.agg f.cs,.bZ [n s] 0,.bZ [n w] 0] (bl (f.fB==s&&f.week==w)):=by
 refine jX Tryz.f251.eq_1 [] [] ?_
 by_cases h1:f.fB=s<;>by_cases h2:f.week=w
 all_goals(
  refine Ax (aa @h1 @h2) ?_;intros
  all_goals first|(exfalso;omega)|exact bO.eq (by simp[h1,h2]) (by simp))
theorem DG(r:FU)(hr:r.aS.length<9223372036854775808)(s w:Int):Pure Tryz.prog 200 [.agg r.cs,n s,n w] (.iu [n ((nZ (nH r.aS s w)).1:Nat),n (nZ (nH r.aS s w)).2]):=by
 refine jX Tryz.f200.eq_1 [] [] ?_
 have h:=Qe 251 [.bZ [n s] 0,.bZ [n w] 0] (by simp) (fun x=>x.fB==s&&x.week==w) r.aS hr fun x _=>A' s w x
 have h2:=Nz (fun x:dm=>x.fB==s&&x.week==w) r.aS
 generalize fj (fun x:dm=>x.fB==s&&x.week==w) 0 r.aS=z at h h2
 have h3:=Hy (nH r.aS s w) z h2
 generalize nZ (nH r.aS s w)=q at h3
 refine Ay (aa @h @h3) ?_;intros
 exact Fq
theorem zM(l:List Nt)(we:l.length<=400)(ks:List Int)(xz:ks.length<9223372036854775808)(q:AV)(hq:q=l9 ks\/q=.v (.slice none 0 0)/\ks=[]):Iter Tryz.prog 198 [] [.bZ [Ad (Cw (xI l))] 0,.bZ [.j4 2 (pL l)] 0,.bZ [q] 0] (wg (fg l ks)):=by
 rw[<-Tp]
 have h1:(Cw (xI l)).length<=l.length:=by rw[(nP _).length_eq];exact bK _ _
 refine A6 _ (by omega) _ (sR l) (fun m=>?_) ks xz q hq
 have h2:=ij bl m (wZ l)
 rw[GN]at h2
 rw[show jD (pL l) [m.dP,m.num]=jD (jQ bl (wZ l)) m.ky from rfl,h2]
 split<;>rfl
theorem u6{l:List Nt}{k:Nat}{args:List AV}(h:(wg l)[k]?=some args):∃a,l[k]?=some a/\args=[tJ a]:=by
 simp only[wg,aV]at h
 cases hg:l[k]? with
 |none=>rw[hg]at h;cases h
 |some a=>rw[hg]at h;injection h with h;exact⟨a,rfl,h.symm⟩
abbrev Qf(x:Int×Int):AV:=.agg [.v (.pointer none),n x.1,n x.2]
abbrev Ou(r:Rd):AV:=.agg r.cs
abbrev NA(m:Mk):AV:=.agg m.cs
abbrev YG(m:Nm):AV:=.agg m.cs
abbrev Ba(m:List (List Int×AV)):Option (List Ob):=some [⟨0,0,[],some (.mp 2 m)⟩]
abbrev Qg{α:Type}(T k:Nat)(cs:α->List AV)(l:List α):Option (List Ob):=some [⟨T,k,l.map cs,none⟩]
def u7:Nat->List (Nm×List Nm)->List (List Int×AV)
 |_,[]=>[]
 |i,x::r=>(x.1.ky,.own 12 i x.2.length)::u7 (i+1) r
def FW(N:Nat)(m:List (Nm×List Nm)):List Ob:=(m.map fun x=>⟨50,2,x.2.map Nm.cs,none⟩)++List.replicate (N-m.length) ⟨50,2,[],none⟩
abbrev aJ(A:AV)(x:Fs)(o:List Nm):Option (List Ob):=some [⟨257,12,[[A,.mp 1,.mp 2,.mp 3,.mp 4,.mp 5,.mp 6,.mp 7,.own 9 0 x.rs.length,.own 10 0 x.rr.length,.own 13 0 x.st.length,.own 11 0 o.length]],none⟩]
abbrev dX:Option (List Ob):=some [⟨36,4,[[.v (.slice none 0 0),.v (.slice none 0 0),.v (.slice none 0 0),.v (.slice none 0 0)]],none⟩]
def nu(N:Nat)(A:AV)(x:Fs)(o:List Nm):aG:=
 [dX,Ba (jQ tJ x.aS),Ba (jQ Qf x.CP),Ba (u7 0 x.marks),Ba (jQ NA x.marked),Ba (jQ YG x.on),Ba (jQ Ou x.reads),Ba (jQ bl x.ig),
  aJ A x o,Qg 66 24 dm.cs x.rs,Qg 71 5 Rd.cs x.rr,Qg 50 2 Nm.cs o,some (FW N x.marks),Qg 118 4 j3.cs x.st]
inductive FR(N:Nat)(A:AV)(x:Fs)(o:List Nm)(ν:aG):AV->aG->Prop
 |mk(gz:aG){r:AV}{σ':aG}(h:σ'=nu N A x o++(ν++gz)):FR N A x o ν r σ'
abbrev qG(al:List (Nm×Nt)):AV:=.j4 2 (jQ tJ al)
theorem mK(N:Nat)(al:List (Nm×Nt))(x:Fs)(o:List Nm)(a:Nt)(ν:aG):eY Tryz.prog 139 [.ptr 8 0 1 0 0,tJ a] (nu N (qG al) x o++ν) (FR N (qG al) (fw al x a) o ν):=by
 refine qY 32 (jo [jx 3 164 38 1] [0,3] (jo [jf 6 4 3,jl 7 6] [0,3,7] (.block 0 (.seq (.block 2 (.seq (.block 1 (.seq (jo [ju .eql 9 7 7,jm 8 9] [0,3,8] (.cond (.t 8) (.exit 1) .skip)) (.exit 2))) (.seq (.jC (List.range 13) [9] 1 [jm 11 0,jw 12 (.dY (.t 11)),jf 13 0 12,jl 14 13,jf 15 36 3,jk 16 2 15,jw 17 (.look 2 true vj true (.t 14) (.t 16)),jm 10 17,jz 18 0 10,jz 19 1 10,jw 4 (.alloc 164 38 vj)] [js 38 4 18,jm 5 19] [0,3,4,5]) (jo [jm 20 5,jm 21 20,ja 21 (jf 22 4 4),ja 21 (jl 23 22),ja 21 (ju .neq 24 23 7),jp 25 21 24] [0,3,25] (.cond (.t 25) .ret .skip))))) (.seq (.draw [jm 26 0,jw 27 (.dY (.t 26)),jf 28 7 27,jl 29 28,jk 30 38 3,jy 31 131 [30]] [⟨none,.pR 2 (.t 29) (.t 31) (.c (.bool true)),none⟩] []) (.exit 0)))))) [] Tryz.call139 Tryz.func139 ?_
 have hA:=ij tJ a.ref al
 have hM:=jA bl a.nm true x.ig
 simp only[nu,aD,aK]
 unfold qG
 generalize jQ tJ al=W at hA|-
 simp only[Nm.ky]at hA hM
 by_cases hk:a.kind=7
 ·cases hg:eM al a.ref with
  |none=>
   rw[hg]at hA
   simp only[da]at hA
   have hC:fw al x a={x with ig:=gX x.ig a.nm true}:=by unfold fw;rw[if_neg (by simp[hg])]
   rw[hC]
   refine Az (aa @hk (aa @hA @hM)) (cY a) ?_;intros
   exact .mk _ rfl
  |some m=>
   rw[hg]at hA
   simp only[aY]at hA
   by_cases hm:m.kind=7
   ·have hC:fw al x a={x with ig:=gX x.ig a.nm true}:=by unfold fw;rw[if_neg (by simp[hg,hm])]
    rw[hC]
    refine Az (aa @hk (aa @hA (aa @hM @hm))) (cY a) ?_;intros
    exact .mk _ rfl
   ·have hC:fw al x a=x:=by unfold fw;rw[if_pos (by simp[hg,hm,hk])]
    rw[hC]
    refine Az (aa @hk (aa @hA @hM)) (cY a) ?_;intros
    all_goals first|(exfalso;omega)|exact .mk _ rfl
 ·have hC:fw al x a={x with ig:=gX x.ig a.nm true}:=by unfold fw;rw[if_neg (fun h=>hk h.1)]
  rw[hC]
  refine Az (aa @hA @hM) (cY a) ?_;intros
  all_goals first|(exfalso;omega)|exact .mk [] (by rw[bb];rfl)
theorem Kj(N:Nat)(al:List (Nm×Nt))(x:Fs)(o:List Nm)(a:Nt)(ν:aG):eY Tryz.prog 133 [.ptr 8 0 1 0 0,tJ a] (nu N (qG al) x o++ν) (FR N (qG al) (rk al x a) o ν):=by
 refine qY 32 (jo [jx 3 164 38 1] [0,3] (.seq (.seq (.jC (List.range 13) [9] 1 [jm 7 0,jw 8 (.dY (.t 7)),jf 9 1 8,jl 10 9,jf 11 36 3,jk 12 2 11,jw 13 (.look 2 true vj true (.t 10) (.t 12)),jm 6 13,jz 14 0 6,jz 15 1 6,jw 4 (.alloc 164 38 vj)] [js 38 4 14,jm 5 15] [0,3,5]) (jo [jm 16 5,jv 17 16] [0,3,17] (.cond (.t 17) (jo [jm 18 0,jk 19 38 3,jy 20 139 [18,19]] [] .ret) .skip))) (.draw [jm 21 0,jw 22 (.dY (.t 21)),jf 23 2 22,jl 24 23,jf 25 36 3,jk 26 2 25,jf 27 5 3,jl 28 27,jf 29 6 3,jl 30 29,jw 31 (.build [.pointer none,.int .i64 0,.int .i64 0] [(1,1,(.t 28)),(2,1,(.t 30))])] [⟨none,.pR 2 (.t 24) (.t 26) (.t 31),none⟩] []))) [] Tryz.call133 Tryz.func133 ?_
 have hA:=ij tJ a.ref x.aS
 have hM:=jA Qf a.ref (a.fB,a.week) x.CP
 have hc:=fun μ=>mK N al x o a μ
 cases hg:eM x.aS a.ref with
 |none=>
  have hC:rk al x a=fw al x a:=by unfold rk;rw[hg]
  rw[hC]
  rw[hg]at hA
  simp only[nu,aD,aK]
  simp only[Nm.ky,da]at hA
  refine Ax @hA ?_;intros
  refine .inr (.inl ⟨_,_,_,_,rfl,fun _=>⟨hc _,?_⟩,fun h=>by cases h⟩)
  rintro r σ' ⟨gz,rfl⟩
  refine aH ?_
  refine Au ?_;intros
  exact .mk ([some [⟨164,38,[vs vj],none⟩]]++gz) (by simp)
 |some m=>
  have hC:rk al x a={x with CP:=gX x.CP a.ref (a.fB,a.week)}:=by unfold rk;rw[hg]
  rw[hC]
  rw[hg]at hA
  simp only[nu,aD,aK]
  simp only[Nm.ky,aY]at hA
  refine Ax (aa @hA @hM) ?_;intros
  exact .mk _ rfl
theorem Kk(M:List (Nm×Nt))(s:Nm)(m:Mk):Pure Tryz.prog 199 [.bZ [.any,.j4 2 (jQ tJ M),.any,.any,.any,.any,.any,.any,.any,.any,.any,.any] 0,.agg s.cs,.agg m.cs] (bl (decide (m.en<=(((eM M s).getD Ib).c8.rates.length:Int)))):=by
 refine et 20 (jo [jx 4 50 2 1,jx 5 68 3 2,jb 6 false] [0,4,5] (.seq (.draw [jf 7 0 5,jl 8 7,jm 9 0,jw 10 (.dY (.t 9)),jf 11 1 10,jl 12 11,jk 13 2 4,jw 14 (.look 2 true vj false (.t 12) (.t 13)),jw 15 (.field 7 (some 18) (.t 14)),jw 16 (.field 12 (some 2) (.t 15)),jw 17 (.field 0 none (.t 16)),je 18 17,jt .leq 19 8 18,jm 6 19] [] [6]) .ret)) [.t 6] Tryz.call199 Tryz.func199 ?_
 have hA:=ij tJ s M
 cases hg:eM M s with
 |none=>
  rw[hg]at hA
  simp only[Nm.ky,da]at hA
  refine Ax @hA ?_;intros
  exact bO.eq (congrArg bl (by rw[decide_eq_decide];simp[Ib,Jx])) (by simp)
 |some a=>
  rw[hg]at hA
  simp only[Nm.ky,aY]at hA
  refine Ax @hA ?_;intros
  exact bO.eq (by simp) (by simp)
theorem NB{β:Type}{f:β->AV}{σ:aG}{i:Nat}{M:List (Nm×β)}(hf:∀x,bC (f x))(h:σ.at i 0=some ⟨0,0,[],some (.mp 2 (jQ f M))⟩):bO σ (.mp i) (.j4 2 (jQ f M)):=
 bO.mp h rfl rfl (fun i hi=>rfl) fun i hi=>bO.eq rfl (Iw _ hf _ (j9 hi))
theorem BZ(N:Nat)(al:List (Nm×Nt))(x:Fs)(o:List Nm)(s:Nm)(m:Mk)(ν:aG):jg Tryz.prog 199 [.ptr 8 0 1 0 0,.agg s.cs,.agg m.cs] (nu N (qG al) x o++ν) (bl (EG x s m)):=by
 refine jg.plain (Kk x.aS s m) (by simp) ⟨?_,bO.pure (by simp),bO.pure (by simp),trivial⟩
 refine bO.ptr (o:=⟨257,12,[[qG al,.mp 1,.mp 2,.mp 3,.mp 4,.mp 5,.mp 6,.mp 7,.own 9 0 x.rs.length,.own 10 0 x.rr.length,.own 13 0 x.st.length,.own 11 0 o.length]],none⟩) rfl rfl (by simp) rfl fun t ht=>?_
 match t,ht with
 |1,_=>exact NB (M:=x.aS) (fun a=>by simp) rfl
 |0,_|2,_|3,_|4,_|5,_|6,_|7,_|8,_|9,_|10,_|11,_=>exact bO.any
def m_{β:Type}:List (Nm×β)->Nm->Nat
 | [],_=>0
 |x::r,k=>if x.1=k then 0 else m_ r k+1
theorem wu(m:Nm):∀(M:List (Nm×List Nm)) (i:Nat),jD (u7 i M) m.ky=(eM M m).map fun l=>.own 12 (i+m_ M m) l.length
 | [],i=>rfl
 |x::r,i=>by
  simp only[u7,jD,eM,m_,Cu,wu m r]
  split
  ·rfl
  ·rw[show i+1+m_ r m=i+(m_ r m+1) by omega]
theorem wv(m:Nm)(l:List Nm):∀(M:List (Nm×List Nm)) (i:Nat),ku (u7 i M) m.ky (.own 12 (i+m_ M m) l.length)=u7 i (gX M m l)
 | [],i=>rfl
 |x::r,i=>by
  have h:=wv m l r (i+1)
  simp only[u7,ku,gX,m_,Cu]
  split
  ·rename_i h;simp[u7,h]
  ·rw[u7,<-h,show i+1+m_ r m=i+(m_ r m+1) by omega]
theorem B0{β:Type}(m:Nm):∀M:List (Nm×β),eM M m=none->m_ M m=M.length/\∀v,gX M m v=M++[(m,v)]
 | [],_=>⟨rfl,fun _=>rfl⟩
 |x::r,h=>by
  simp only[eM]at h
  split at h
  ·cases h
  rename_i iw
  obtain⟨h1,h2⟩:=B0 m r h
  simp only[m_,gX,iw,if_false,h1,h2]
  exact⟨rfl,fun _=>rfl⟩
theorem B1{β:Type}(m:Nm)(l:β):∀M:List (Nm×β),eM M m=some l->M[m_ M m]?=some (m,l)/\∀v,gX M m v=M.set (m_ M m) (m,v)
 | [],h=>by cases h
 |x::r,h=>by
  simp only[eM]at h
  split at h
  ·rename_i he
   injection h with h
   subst h he
   simp[m_,gX]
  ·rename_i iw
   obtain⟨h1,h2⟩:=B1 m l r h
   simp[m_,gX,iw,h1,h2]
theorem NC{N:Nat}{M:List (Nm×List Nm)}{m:Nm}(h:eM M m=none)(hN:M.length<N):(FW N M)[m_ M m]?=some ⟨50,2,[],none⟩/\∀l:List Nm,(FW N M).set (m_ M m) ⟨50,2,l.map Nm.cs,none⟩=FW N (gX M m l):=by
 obtain⟨h1,h2⟩:=B0 m M h
 have e:List.replicate (N-M.length) (⟨50,2,[],none⟩:Ob)=⟨50,2,[],none⟩::List.replicate (N-(M.length+1)) ⟨50,2,[],none⟩:=by
  rw[show N-M.length=(N-(M.length+1))+1 by omega];rfl
 unfold FW
 rw[h1,e]
 refine⟨by simp,fun l=>?_⟩
 rw[h2]
 simp
theorem rI{N:Nat}{M:List (Nm×List Nm)}{m:Nm}{l:List Nm}(h:eM M m=some l):(FW N M)[m_ M m]?=some ⟨50,2,l.map Nm.cs,none⟩/\∀l:List Nm,(FW N M).set (m_ M m) ⟨50,2,l.map Nm.cs,none⟩=FW N (gX M m l):=by
 obtain⟨h1,h2⟩:=B1 m l M h
 have bP:=(ai.1 h1).1
 unfold FW
 refine⟨?_,fun l=>?_⟩
 ·rw[cy (by simpa using bP),aV,h1];rfl
 ·rw[h2,cK,List.set_append_left _ _ (by simpa using bP),fU]
theorem B2{h n f i:Nat}:∀M:List (List Int×AV),MA h n f i M M
 | []=>trivial
 |x::r=>⟨rfl,.inl rfl,B2 r⟩
theorem B3{h n f i:Nat}(k:List Int):∀M:List (List Int×AV),MA h n f i (ku M k (.own h 0 n)) (ku M k (.own f i n))
 | []=>⟨rfl,.inr ⟨rfl,rfl⟩,trivial⟩
 |x::r=>by
  simp only[ku]
  split
  ·exact⟨rfl,.inr ⟨rfl,rfl⟩,B2 r⟩
  ·exact⟨rfl,.inl rfl,B3 k r⟩
theorem DH(M:List (List Int×AV))(k:List Int)(v:AV):((0:Int)<=(o8 M k:Int)/\(o8 M k:Int)<((ku M k v).length:Int))=True:=by
 have:=@Ls M k v
 simp only[eq_iff_iff,iff_true]
 omega
theorem T3(x0 x1 x2 x3 x4 x5 x6 x7 x8 x9 FX FY FZ F2 t u:Option (List Ob))(ν:aG):gone (x0::x1::x2::x3::x4::x5::x6::x7::x8::x9::FX::FY::FZ::F2::(ν++[t,u])) (List.length ν+15)=x0::x1::x2::x3::x4::x5::x6::x7::x8::x9::FX::FY::FZ::F2::(ν++[t,none]):=by
 have e:(x0::x1::x2::x3::x4::x5::x6::x7::x8::x9::FX::FY::FZ::F2::(ν++[t,u]):aG)=(x0::x1::x2::x3::x4::x5::x6::x7::x8::x9::FX::FY::FZ::F2::(ν++[t]))++[u]:=by simp
 rw[e,gone,fa _ _ (by simp)]
 simp
theorem aao(x0 x1 x2 x3 x4 x5 x6 x7 x8 x9 FX FY FZ F2 t:Option (List Ob))(u:Ob)(ν:aG):aG.at (x0::x1::x2::x3::x4::x5::x6::x7::x8::x9::FX::FY::FZ::F2::(ν++[t,some [u]])) (List.length ν+15) 0=some u:=by
 have e:(x0::x1::x2::x3::x4::x5::x6::x7::x8::x9::FX::FY::FZ::F2::(ν++[t,some [u]]):aG)=(x0::x1::x2::x3::x4::x5::x6::x7::x8::x9::FX::FY::FZ::F2::(ν++[t]))++[some [u]]:=by simp
 have:=dV (x0::x1::x2::x3::x4::x5::x6::x7::x8::x9::FX::FY::FZ::F2::(ν++[t])) [some [u]] 0
 rw[e,show List.length ν+15=(x0::x1::x2::x3::x4::x5::x6::x7::x8::x9::FX::FY::FZ::F2::(ν++[t])).length by simp,this]
 rfl
theorem Km(N:Nat)(al:List (Nm×Nt))(x:Fs)(o:List Nm)(a:Nt)(hN:x.marks.length<N)(ν:aG):eY Tryz.prog 134 [.ptr 8 0 1 0 0,tJ a] (nu N (qG al) x o++ν) (FR N (qG al) (lJ al x a) o ν):=by
 refine qY 74 (jo [jx 3 164 38 1] [0,3] (.seq (.seq (.jC (List.range 13) [9] 1 [jm 7 0,jw 8 (.dY (.t 7)),jf 9 1 8,jl 10 9,jf 11 36 3,jk 12 2 11,jw 13 (.look 2 true vj true (.t 10) (.t 12)),jm 6 13,jz 14 0 6,jz 15 1 6,jw 4 (.alloc 164 38 vj)] [js 38 4 14,jm 5 15] [0,3,5]) (.seq (.draw [jm 16 5,jv 17 16,jm 18 17,jd 18 (jm 19 0),jd 18 (jf 20 36 3),jd 18 (jk 21 2 20),jd 18 (jf 22 25 3),jd 18 (jk 23 3 22),jd 18 (jy 24 199 [19,21,23]),jd 18 (jv 25 24),jq 26 18 25,jm 27 26,jd 27 (jm 28 0),⟨some 29,.dY (.t 28),some (27,false)⟩,jd 27 (jf 30 3 29),jd 27 (jl 31 30),jd 27 (jf 32 36 3),jd 27 (jk 33 2 32),⟨some 34,.look 2 false [.slice none 0 0] false (.t 31) (.t 33),some (27,false)⟩,jd 27 (je 35 34),jd 27 (ju .geq 36 35 64),jq 37 27 36] [] [0,3,37]) (.cond (.t 37) (jo [jm 38 0,jk 39 38 3,jy 40 139 [38,39]] [] .ret) .skip))) (.seq (.HQ [0,1,2,3,4,5,6,7,8,9,12,10,11,13] [jm 41 0,jw 42 (.dY (.t 41)),jf 43 3 42,jl 44 43,jf 45 36 3,jk 46 2 45,jk 48 38 3,jy 49 131 [48],jw 50 (.jR false 50 2 1 [.int .i64 0,.int .i64 0] [(0,2,(.t 49))])] (jw 51 (.yb 2 false [.slice none 0 0] (.t 44) (.t 46))) [0,3,44,50,51] [10] 2 [jz 53 1 51] [jz 47 0 51,jw 52 (.app 50 2 16 (.t 47) (.t 50)),⟨none,.La 2 (.t 44) (.t 53) (.t 52),none⟩] [0,3]) (.jC [0,1,2,3,4,5,6,7,8,9,10,11,12,13,14,15,16,17,18,19,20,21] [12,13,14,15] 5 [jm 54 0,jw 55 (.dY (.t 54)),jf 56 4 55,jl 57 56,jk 58 38 3,jy 59 131 [58],jm 60 0,jw 61 (.dY (.t 60)),jf 62 5 61,jl 63 62,jk 64 38 3,jy 65 131 [64],jf 66 25 3,jk 67 3 66,jf 68 36 3,jk 69 2 68] [jw 70 (.yb 2 true [.int .i64 0,.int .i64 0,.int .i64 0] (.t 57) (.t 59)),jz 71 1 70,⟨none,.La 2 (.t 57) (.t 71) (.t 67),none⟩,jw 72 (.yb 2 true [.int .i64 0,.int .i64 0] (.t 63) (.t 65)),jz 73 1 72,⟨none,.La 2 (.t 63) (.t 73) (.t 69),none⟩] [])))) [] Tryz.call134 Tryz.func134 ?_
 have hA:=ij tJ a.ref x.aS
 have hc:=fun μ=>mK N al x o a μ
 have hf:=fun μ=>BZ N al x o a.ref a.mark μ
 have hm:=wu a.ref x.marks 0
 rw[br]at hm
 simp only[Nm.ky]at hm
 cases hg:eM x.aS a.ref with
 |none=>
  have hC:lJ al x a=fw al x a:=by unfold lJ;rw[if_pos (.inl (by simp[hg]))]
  rw[hC]
  rw[hg]at hA
  simp only[nu,aD,aK]
  simp only[Nm.ky,da]at hA
  cases wx:eM x.marks a.ref with
  |none=>
   rw[wx]at hm
   simp only[da]at hm
   refine Ax (aa @hA @hm) ?_;intros
   refine .inr (.inl ⟨_,_,_,_,rfl,fun _=>⟨hc _,?_⟩,fun h=>by cases h⟩)
   rintro r σ' ⟨gz,rfl⟩
   refine aH ?_
   refine Au ?_;intros
   exact .mk ([some [⟨164,38,[vs vj],none⟩]]++gz) (by simp)
  |some l=>
   rw[wx]at hm
   simp only[aY]at hm
   have Qh:=(rI (N:=N) wx).1
   refine Ax (aa @hA (aa @hm @Qh)) ?_;intros
   refine .inr (.inl ⟨_,_,_,_,rfl,fun _=>⟨hc _,?_⟩,fun h=>by cases h⟩)
   rintro r σ' ⟨gz,rfl⟩
   refine aH ?_
   refine Au ?_;intros
   exact .mk ([some [⟨164,38,[vs vj],none⟩]]++gz) (by simp)
 |some m=>
  rw[hg]at hA
  simp only[nu,aD,aK]
  simp only[Nm.ky,aY]at hA
  cases tc:EG x a.ref a.mark with
  |false=>
   have hC:lJ al x a=fw al x a:=by unfold lJ;rw[if_pos (.inr (.inl tc))]
   rw[hC]
   rw[tc]at hf
   cases wx:eM x.marks a.ref with
   |none=>
    rw[wx]at hm
    simp only[da]at hm
    refine Az (aa @hA @hm) @hf ?_;intros
    refine .inr (.inl ⟨_,_,_,_,rfl,fun _=>⟨hc _,?_⟩,fun h=>by cases h⟩)
    rintro r σ' ⟨gz,rfl⟩
    refine aH ?_
    refine Au ?_;intros
    exact .mk ([some [⟨164,38,[m.cs],none⟩]]++gz) (by simp)
   |some l=>
    rw[wx]at hm
    simp only[aY]at hm
    have Qh:=(rI (N:=N) wx).1
    refine Az (aa @hA (aa @hm @Qh)) @hf ?_;intros
    refine .inr (.inl ⟨_,_,_,_,rfl,fun _=>⟨hc _,?_⟩,fun h=>by cases h⟩)
    rintro r σ' ⟨gz,rfl⟩
    refine aH ?_
    refine Au ?_;intros
    exact .mk ([some [⟨164,38,[m.cs],none⟩]]++gz) (by simp)
  |true=>
   rw[tc]at hf
   have OY:=jA NA a.nm a.mark x.marked
   have Lu:=jA YG a.nm a.ref x.on
   simp only[Nm.ky]at OY Lu
   cases wx:eM x.marks a.ref with
   |none=>
    rw[wx]at hm
    simp only[da]at hm
    have hC:lJ al x a={x with marks:=gX x.marks a.ref [a.nm],marked:=gX x.marked a.nm a.mark,on:=gX x.on a.nm a.ref}:=by
     unfold lJ;rw[if_neg (by simp[hg,tc,wx])];simp[wx]
    rw[hC]
    have hp:=@qN
    obtain⟨f1,f2⟩:=NC wx hN
    have hM:=wv a.ref [a.nm] x.marks 0
    rw[br]at hM
    refine Az (aa @hA @hm) (aa @hf (cY a)) ?_;intros
    rw[DH,hp]
    refine⟨trivial,?_⟩
    refine aR.V6 (h:=List.length ν+15) (f:=12) (i:=m_ x.marks a.ref) (m:=3) (nk:=2) (n:=1) (o:=⟨50,2,[[n a.dP,n a.num]],none⟩) (p:=⟨50,2,[],none⟩)
     (aao _ _ _ _ _ _ _ _ _ _ _ _ _ _ _ _ _) rfl rfl (by omega) f1 rfl rfl (by omega) rfl rfl (by omega) (by omega) (B3 _ _) ?_
    rw[T3]
    have Tk:ku (u7 0 x.marks) [a.ref.dP,a.ref.num] (.own 12 (m_ x.marks a.ref) 1)=u7 0 (gX x.marks a.ref [a.nm]):=hM
    have U5:(FW N x.marks).set (m_ x.marks a.ref) ⟨50,2,[[n a.dP,n a.num]],none⟩=FW N (gX x.marks a.ref [a.nm]):=f2 [a.nm]
    rw[Tk]
    show aR Tryz.prog 74 none _ _ _ (dX::Ba (jQ tJ x.aS)::Ba (jQ Qf x.CP)::Ba (u7 0 (gX x.marks a.ref [a.nm]))::Ba (jQ NA x.marked)::Ba (jQ YG x.on)::Ba (jQ Ou x.reads)::Ba (jQ bl x.ig)::
     aJ (qG al) x o::Qg 66 24 dm.cs x.rs::Qg 71 5 Rd.cs x.rr::Qg 50 2 Nm.cs o::some ((FW N x.marks).set (m_ x.marks a.ref) ⟨50,2,[[n a.dP,n a.num]],none⟩)::Qg 118 4 j3.cs x.st::(ν++[some [⟨164,38,[m.cs],none⟩],none]))
    rw[U5]
    refine Az (aa @hp (aa @DH (aa @OY @Lu))) (cY a) ?_;intros
    exact .mk _ rfl
   |some l=>
    rw[wx]at hm
    simp only[aY]at hm
    have Qh:=(rI (N:=N) wx).1
    by_cases K_:64<=l.length
    ·have hC:lJ al x a=fw al x a:=by unfold lJ;rw[if_pos (.inr (.inr (by simp[wx];exact K_)))]
     rw[hC]
     refine Az (aa @hA (aa @hm @Qh)) @hf ?_;intros
     refine .inr (.inl ⟨_,_,_,_,rfl,fun _=>⟨hc _,?_⟩,fun h=>by cases h⟩)
     rintro r σ' ⟨gz,rfl⟩
     refine aH ?_
     refine Au ?_;intros
     exact .mk ([some [⟨164,38,[m.cs],none⟩]]++gz) (by simp)
    ·have hC:lJ al x a={x with marks:=gX x.marks a.ref (l++[a.nm]),marked:=gX x.marked a.nm a.mark,on:=gX x.on a.nm a.ref}:=by
      unfold lJ;rw[if_neg (by simp[hg,tc,wx];omega)];simp[wx]
     rw[hC]
     have hp:=@qN
     have hM:=wv a.ref (l++[a.nm]) x.marks 0
     rw[br,aM]at hM
     have Tk:ku (u7 0 x.marks) [a.ref.dP,a.ref.num] (.own 12 (m_ x.marks a.ref) (l.length+1))=u7 0 (gX x.marks a.ref (l++[a.nm])):=hM
     have hF:=(rI (N:=N) wx).2 (l++[a.nm])
     rw[di]at hF
     have U5:(FW N x.marks).set (m_ x.marks a.ref) ⟨50,2,l.map Nm.cs++[[n a.dP,n a.num]],none⟩=FW N (gX x.marks a.ref (l++[a.nm])):=hF
     refine Az (aa @hA (aa @hm (aa @Qh (aa @hp (aa @DH (aa @Tk (aa @U5 (aa @OY @Lu)))))))) (aa @hf (cY a)) ?_;intros
     exact .mk _ rfl
theorem DI(N:Nat)(al:List (Nm×Nt))(x:Fs)(o:List Nm)(a:Nt)(ν:aG):eY Tryz.prog 135 [.ptr 8 0 1 0 0,tJ a] (nu N (qG al) x o++ν) (FR N (qG al) (gY al x a) o ν):=by
 refine Fi Tryz.f135.eq_1 [] [.d 8,.d 16,.v 9 1 11,.d 8,.v 9 1 11] ?_
 have hc:=fun μ=>mK N al x o a μ
 by_cases hs:a.read.fB=0
 ·have hA:=ij NA a.ref x.marked
  have hO:=ij YG a.ref x.on
  have hM:=jA NA a.ref a.mark x.marked
  simp only[Nm.ky]at hA hO hM
  have hf:=fun μ=>BZ N al x o ((eM x.on a.ref).getD Ct) a.mark μ
  cases hg:eM x.marked a.ref with
  |none=>
   have hC:gY al x a=fw al x a:=by unfold gY;rw[if_neg (by simp[hs]),if_pos (.inl (by simp[hg]))]
   rw[hC]
   rw[hg]at hA
   simp only[nu,aD,aK]
   simp only[da]at hA
   cases HX:eM x.on a.ref with
   |none=>
    rw[HX]at hO
    simp only[da]at hO
    refine Ax (aa @hs (aa @hA @hO)) ?_;intros
    refine .inr (.inl ⟨_,_,_,_,rfl,fun _=>⟨hc _,?_⟩,fun h=>by cases h⟩)
    rintro r σ' ⟨gz,rfl⟩
    refine aH ?_
    refine Au ?_;intros
    exact .mk ([some [⟨68,3,[[n 0,n 0,n 0]],none⟩]]++gz) (by simp)
   |some s=>
    rw[HX]at hO
    simp only[aY]at hO
    refine Ax (aa @hs (aa @hA @hO)) ?_;intros
    refine .inr (.inl ⟨_,_,_,_,rfl,fun _=>⟨hc _,?_⟩,fun h=>by cases h⟩)
    rintro r σ' ⟨gz,rfl⟩
    refine aH ?_
    refine Au ?_;intros
    exact .mk ([some [⟨68,3,[[n 0,n 0,n 0]],none⟩]]++gz) (by simp)
  |some m=>
   rw[hg]at hA
   simp only[nu,aD,aK]
   simp only[aY]at hA
   cases tc:EG x ((eM x.on a.ref).getD Ct) a.mark with
   |false=>
    have hC:gY al x a=fw al x a:=by unfold gY;rw[if_neg (by simp[hs]),if_pos (.inr tc)]
    rw[hC]
    rw[tc]at hf
    cases HX:eM x.on a.ref with
    |none=>
     rw[HX]at hO hf
     simp only[da,Option.getD_none]at hO hf
     refine Az (aa @hs (aa @hA @hO)) @hf ?_;intros
     refine .inr (.inl ⟨_,_,_,_,rfl,fun _=>⟨hc _,?_⟩,fun h=>by cases h⟩)
     rintro r σ' ⟨gz,rfl⟩
     refine aH ?_
     refine Au ?_;intros
     exact .mk ([some [⟨68,3,[m.cs],none⟩]]++gz) (by simp)
    |some s=>
     rw[HX]at hO hf
     simp only[aY,bV]at hO hf
     refine Az (aa @hs (aa @hA @hO)) @hf ?_;intros
     refine .inr (.inl ⟨_,_,_,_,rfl,fun _=>⟨hc _,?_⟩,fun h=>by cases h⟩)
     rintro r σ' ⟨gz,rfl⟩
     refine aH ?_
     refine Au ?_;intros
     exact .mk ([some [⟨68,3,[m.cs],none⟩]]++gz) (by simp)
   |true=>
    have hC:gY al x a={x with marked:=gX x.marked a.ref a.mark}:=by unfold gY;rw[if_neg (by simp[hs]),if_neg (by simp[hg,tc])]
    rw[hC]
    rw[tc]at hf
    cases HX:eM x.on a.ref with
    |none=>
     rw[HX]at hO hf
     simp only[da,Option.getD_none]at hO hf
     refine Az (aa @hs (aa @hA (aa @hO @hM))) @hf ?_;intros
     exact .mk _ rfl
    |some s=>
     rw[HX]at hO hf
     simp only[aY,bV]at hO hf
     refine Az (aa @hs (aa @hA (aa @hO @hM))) @hf ?_;intros
     exact .mk _ rfl
 ·have hA:=ij Ou a.ref x.reads
  have hM:=jA Ou a.ref a.read x.reads
  simp only[Nm.ky]at hA hM
  cases hg:eM x.reads a.ref with
  |none=>
   have hC:gY al x a=fw al x a:=by unfold gY;rw[if_pos hs,if_pos (by simp[hg])]
   rw[hC]
   rw[hg]at hA
   simp only[nu,aD,aK]
   simp only[da]at hA
   refine Ax @hA ?_;intros
   refine .inr (.inl ⟨_,_,_,_,rfl,fun _=>⟨hc _,?_⟩,fun h=>by cases h⟩)
   rintro r σ' ⟨gz,rfl⟩
   refine aH ?_
   refine Au ?_;intros
   exact .mk ([some [⟨71,5,[[n 0,n 0,n 0,n 0,n 0]],none⟩]]++gz) (by simp)
  |some r=>
   have hC:gY al x a={x with reads:=gX x.reads a.ref a.read}:=by unfold gY;rw[if_pos hs,if_neg (by simp[hg])]
   rw[hC]
   rw[hg]at hA
   simp only[nu,aD,aK]
   simp only[aY]at hA
   refine Ax (aa @hA @hM) ?_;intros
   exact .mk _ rfl
def Ko:CF:=⟨86,(jo [jx 3 164 38 1] [0,3] (.seq (.draw [jm 10 0,jw 11 (.dY (.t 10)),jf 12 2 11,jl 13 12,jk 14 38 3,jy 15 131 [14],jw 16 (.look 2 true [.pointer none,.int .i64 0,.int .i64 0] false (.t 13) (.t 15)),jw 4 (.alloc 264 3 [.pointer none,.int .i64 0,.int .i64 0])] [js 3 4 16] [0,3,4]) (.seq (.seq (.draw [jm 18 0,jw 19 (.dY (.t 18)),jf 20 8 19,jk 21 4 20,jf 22 1 4,jl 23 22,jf 24 2 4,jl 25 24,jy 26 200 [21,23,25],jm 17 26,jz 27 0 17,jz 28 1 17,jm 5 27,jm 6 28] [] [0,3,4,6]) (jo [jm 29 6,ju .eql 30 29 0] [0,3,4,30] (.cond (.t 30) (jo [jm 31 0,jk 32 38 3,jy 33 139 [31,32]] [] .ret) .skip))) (.seq (.draw [jk 34 38 3,jy 35 131 [34],jf 36 1 4,jl 37 36,jf 38 2 4,jl 39 38,jf 40 7 3,jk 41 18 40,jy 42 142 [41],jw 43 (.build z24 [(0,2,(.t 35)),(2,1,(.t 37)),(3,1,(.t 39)),(4,18,(.t 42))]),jw 7 (.alloc 66 24 z24)] [js 24 7 43] [0,3,7]) (.seq (.seq (.draw [jm 44 0,jw 45 (.dY (.t 44)),jf 46 3 45,jl 47 46,jk 48 38 3,jy 49 131 [48],jw 50 (.look 2 false [.slice none 0 0] false (.t 47) (.t 49)),je 51 50,jc 52 0] [] [0,7,50,51,52]) (.block 0 (.loop (jo [jt .lss 53 52 51] [0,7,50,51,52,53] (.seq (.cond (.t 53) .skip (.exit 0)) (.seq (.block 1 (jo [ji 54 2 50 52,jk 55 2 54,jw 9 (.alloc 50 2 [.int .i64 0,.int .i64 0]),js 2 9 55] [0,7,9,50,51,52] (.seq (.draw [jf 56 22 7,jl 57 56,jm 58 0,jw 59 (.dY (.t 58)),jf 60 4 59,jl 61 60,jk 62 2 9,jw 63 (.look 2 true [.int .i64 0,.int .i64 0,.int .i64 0] false (.t 61) (.t 62)),jw 64 (.jR false 68 3 1 [.int .i64 0,.int .i64 0,.int .i64 0] [(0,3,(.t 63))])] [jw 65 (.app 68 3 24 (.t 57) (.t 64)),jf 66 22 7,js 1 66 65] [0,7,9,50,51,52]) (.ops [jf 67 23 7,jl 68 67,jk 69 2 9,jw 70 (.jR false 50 2 1 [.int .i64 0,.int .i64 0] [(0,2,(.t 69))]),jw 71 (.app 50 2 16 (.t 68) (.t 70)),jf 72 23 7,js 1 72 71] [0,7,50,51,52])))) (.ops [ju .add 73 52 1,jm 52 73] [0,7,50,51,52]))))))) (.jC (List.range 13) [0] 1 [jm 74 0,jm 75 0,jw 76 (.dY (.t 75)),jf 77 8 76,jf 78 0 77,jl 79 78,jk 80 24 7,jw 81 (.jR false 66 24 1 z24 [(0,24,(.t 80))])] [jw 82 (.app 66 24 288 (.t 79) (.t 81)),jw 83 (.dY (.t 74)),jf 84 8 83,jf 85 0 84,js 1 85 82] [])))))),[]⟩
theorem aap:jP Tryz.prog Tryz.f136 Ko=true:=by kernel_rfl
theorem DJ(N:Nat)(al:List (Nm×Nt))(x:Fs)(o:List Nm)(s w:Int)(hx:x.rs.length<9223372036854775808)(ν:aG):jg Tryz.prog 200 [.agg [.own 9 0 x.rs.length,.own 10 0 x.rr.length,.own 13 0 x.st.length,.own 11 0 o.length],n s,n w] (nu N (qG al) x o++ν) (.iu [n ((nZ (nH x.rs s w)).1:Nat),n (nZ (nH x.rs s w)).2]):=by
 refine jg.plain (DG ⟨x.rs,x.rr,x.st,o⟩ hx s w) (Plain.t2 _ _) ⟨bO.mX ⟨?_,?_,?_,?_,trivial⟩,bO.pure (by simp),bO.pure (by simp),trivial⟩
 ·exact bO.gZ (T:=66) rfl rfl (by decide) (fun a=>dm.pc a) (fun a=>rfl)
 ·exact bO.gZ (T:=71) rfl rfl (by decide) (fun a c hc=>by simp at hc;rcases hc with rfl|rfl|rfl|rfl|rfl<;>simp) (fun a=>rfl)
 ·exact bO.gZ (T:=118) rfl rfl (by decide) (fun a c hc=>by simp at hc;rcases hc with rfl|rfl|rfl|rfl<;>simp) (fun a=>rfl)
 ·exact bO.gZ (T:=50) rfl rfl (by decide) (fun a c hc=>by simp at hc;rcases hc with rfl|rfl<;>simp) (fun a=>rfl)
def pN(a:Nt)(p:Int×Int)(m k:AV):List AV:=n a.dP::n a.num::n p.1::n p.2::(a.c8.cs++[m,k])
theorem T4(a:Nt)(p:Int×Int)(m k:AV):(pN a p m k).getD 22 .any=m:=rfl
theorem T5(a:Nt)(p:Int×Int)(m k:AV):(pN a p m k).getD 23 .any=k:=rfl
theorem W8(a:Nt)(p:Int×Int)(m k:AV):(pN a p m k).length=24:=rfl
theorem W9(a:Nt)(p:Int×Int)(m k v:AV):List.take 22 (pN a p m k)++v::List.drop 23 (pN a p m k)=pN a p v k:=rfl
theorem W_(a:Nt)(p:Int×Int)(m k v:AV):List.take 23 (pN a p m k)++v::List.drop 24 (pN a p m k)=pN a p m v:=rfl
def Hz:C:=match Ko.c with
 | .seq _ (.seq _ (.seq _ (.seq _ (.seq (.seq _ (.block _ (.loop l))) _))))=>l
 |_=>.skip
def ND:C:=match Ko.c with
 | .seq _ (.seq _ (.seq _ (.seq _ (.seq _ l))))=>l
 |_=>.skip
abbrev Bb:AV:=.v (.slice none 0 0)
abbrev DK(x:Fs)(m:Nm):List AV:=Mk.cs ((eM x.marked m).getD Mv)
theorem zP(N:Nat)(al:List (Nm×Nt))(x:Fs)(o:List Nm)(a:Nt)(p:Int×Int)(L:List Nm)(hx:x.rs.length<=400)(hL:L.length<=64)(ν W:aG)(hW:W=nu N (qG al) x o++ν)(A E:Option (List Ob))(F I:Nat)(hR:∀A X μ,aG.at (W++(A::X::E::μ)) F I=some ⟨50,2,L.map Nm.cs,none⟩):aR Tryz.prog 86 none (.loop Hz) (AH 0 (Co Tryz.prog 86 none ND (sw [] (FR N (qG al) {x with rs:=x.rs++[⟨a.nm,p.1,p.2,a.c8,L.map fun m=>(eM x.marked m).getD Mv,L⟩]} o ν)))) [(0,.ptr 8 0 1 0 0),(7,.ptr (List.length W+1) 0 1 0 0),(50,.own F I L.length),(51,n L.length),(52,n (0:Nat))] (W++[A,some [⟨66,24,[pN a p Bb Bb],none⟩],E]):=by
 have h8:∀μ,aG.at (W++μ) 8 0=some ⟨257,12,[[qG al,.mp 1,.mp 2,.mp 3,.mp 4,.mp 5,.mp 6,.mp 7,.own 9 0 x.rs.length,.own 10 0 x.rr.length,.own 13 0 x.st.length,.own 11 0 o.length]],none⟩:=fun μ=>by rw[hW];rfl
 have h4:∀μ,aG.at (W++μ) 4 0=some ⟨0,0,[],some (.mp 2 (jQ NA x.marked))⟩:=fun μ=>by rw[hW];rfl
 refine aR.lH 68 3 (f:=List.length W+1) (i:=0) (e:=0) (j:=22) (by rw[dR];rfl) (by simp) rfl ?_
 refine aR.pQ (σ':=W++[A,some [⟨66,24,[pN a p (.own (List.length W+3) 0 0) Bb],none⟩],E,some [⟨68,3,[],none⟩]]) (by
  rw[aW,fC,show List.length (W++[A,some [⟨66,24,[pN a p Bb Bb],none⟩],E])=List.length W+3 by simp];rfl) ?_
 refine aR.lH 50 2 (f:=List.length W+1) (i:=0) (e:=0) (j:=23) (by rw[dR];rfl) (by simp) rfl ?_
 refine aR.pQ (σ':=W++(A::some [⟨66,24,[pN a p (.own (List.length W+3) 0 0) (.own (List.length W+4) 0 0)],none⟩]::E::some [⟨68,3,[],none⟩]::some [⟨50,2,[],none⟩]::[])) (by
  rw[aW,fC,show List.length (W++[A,some [⟨66,24,[pN a p (.own (List.length W+3) 0 0) Bb],none⟩],E,some [⟨68,3,[],none⟩]])=List.length W+4 by simp];rfl) ?_
 refine aR.mT (α:={x:Nat×aG//x.1<=L.length}) [52] (fun x=>[(52,n x.1.1)])
  (fun y=>W++(A::some [⟨66,24,[pN a p (.own (List.length W+3) 0 y.1.1) (.own (List.length W+4) 0 y.1.1)],none⟩]::E::some [⟨68,3,(L.take y.1.1).map (DK x),none⟩]::some [⟨50,2,(L.take y.1.1).map Nm.cs,none⟩]::y.1.2))
  (fun x=>L.length-x.1.1) ⟨(0,[]),by simp⟩ ?_ rfl ?_
 ·exact Sb_
 ·rintro⟨⟨i,μ⟩,hi⟩
  simp only at hi
  by_cases bP:i<L.length
  ·have hs:(L.map Nm.cs).getD i []=Nm.cs (L.getD i Ct):=row Ct bP
   have vZ:L.take (i+1)=L.take i++[L.getD i Ct]:=by rw[ba,fh Ct bP];rfl
   have hw:aU false (NA Mv) (jD (jQ NA x.marked) [(L.getD i Ct).dP,(L.getD i Ct).num])=.agg (DK x (L.getD i Ct)):=by
    rw[show jD (jQ NA x.marked) [(L.getD i Ct).dP,(L.getD i Ct).num]=_ from ij NA (L.getD i Ct) x.marked]
    unfold DK
    cases eM x.marked (L.getD i Ct)<;>rfl
   generalize L.getD i Ct=m at hs vZ hw
   simp only[aU,cond_false,NA,Mv,Mk.cs]at hw
   have xM:((L.take i).map (DK x)).length=i:=by rw[aF,bH];omega
   have CY:((L.take i).map Nm.cs).length=i:=by rw[aF,bH];omega
   generalize Qa:(L.take i).map (DK x)=M1 at xM
   generalize YA:(L.take i).map Nm.cs=M2 at CY
   simp only[Qa,YA]
   unfold Hz Ko
   dsimp only
   refine Ax (aa @h8 (aa @h4 (aa @hR (aa @hs (aa @hw (aa @xM (aa @CY (aa @T4 (aa @T5 (aa @W8 (aa @W9 @W_))))))))))) ?_;intros
   exact⟨⟨(i+1,μ++[some [⟨50,2,[[n m.dP,n m.num]],none⟩]]),bP⟩,by simp,by simp[vZ,<-Qa,<-YA],by simp only;omega⟩
  ·obtain rfl:i=L.length:=by omega
   simp only[aI]
   have YH:List.length W=List.length ν+14:=by rw[hW];simp[nu]
   refine aR.sm (f:=List.length W+3) (n:=L.length) (h:=List.length W+1) (e:=0) (j:=22) (by rw[dR];rfl) (by simp) (by simp) (by rw[dR];rfl) (by omega) rfl (by simp) rfl ?_
   refine aR.pQ (σ':=W++(A::some [⟨66,24,[pN a p (.sl 3 (L.map (DK x))) (.own (List.length W+4) 0 L.length)],none⟩]::E::none::some [⟨50,2,L.map Nm.cs,none⟩]::μ)) (by
    rw[zc,fC];rfl) ?_
   refine aR.sm (f:=List.length W+4) (n:=L.length) (h:=List.length W+1) (e:=0) (j:=23) (by rw[dR];rfl) (by simp) (by simp) (by rw[dR];rfl) (by omega) rfl (by simp) rfl ?_
   refine aR.pQ (σ':=W++(A::some [⟨66,24,[pN a p (.sl 3 (L.map (DK x))) (.sl 2 (L.map Nm.cs))],none⟩]::E::none::none::μ)) (by
    rw[zc,fC];rfl) ?_
   have cX:pN a p (.sl 3 (L.map (DK x))) (.sl 2 (L.map Nm.cs))=dm.cs ⟨a.nm,p.1,p.2,a.c8,L.map fun m=>(eM x.marked m).getD Mv,L⟩:=by
    have e:L.map (DK x)=(L.map fun m=>(eM x.marked m).getD Mv).map Mk.cs:=by rw[il];rfl
    rw[e];rfl
   rw[cX,YH,hW]
   generalize(⟨a.nm,p.1,p.2,a.c8,L.map fun m=>(eM x.marked m).getD Mv,L⟩:dm)=F0
   simp only[nu,aD,aK]
   unfold Hz ND Ko
   dsimp only
   refine Au ?_;intros
   refine .mk (A::some [⟨66,24,[F0.cs],none⟩]::E::none::none::μ) ?_
   simp[nu]
theorem HA(N:Nat)(al:List (Nm×Nt))(x:Fs)(o:List Nm)(a:Nt)(hx:x.rs.length<=400)(hs:PL a.c8)(hL:((eM x.marks a.nm).getD []).length<=64)(ν:aG):eY Tryz.prog 136 [.ptr 8 0 1 0 0,tJ a] (nu N (qG al) x o++ν) (FR N (qG al) (mo al x a) o ν):=by
 refine Ri Tryz.call136 Tryz.func136 aap ?_
 unfold Ko
 have hc:=fun μ=>mK N al x o a μ
 have hA:=ij Qf a.nm x.CP
 simp only[Nm.ky]at hA
 have hE:mo al x a=if(nH x.rs ((eM x.CP a.nm).getD (0,0)).1 ((eM x.CP a.nm).getD (0,0)).2).isSome then fw al x a
  else{x with rs:=x.rs++[⟨a.nm,((eM x.CP a.nm).getD (0,0)).1,((eM x.CP a.nm).getD (0,0)).2,a.c8,((eM x.marks a.nm).getD []).map fun m=>(eM x.marked m).getD Mv,(eM x.marks a.nm).getD []⟩]}:=rfl
 obtain⟨p,hp,hw⟩:∃p:Int×Int,(eM x.CP a.nm).getD (0,0)=p/\aU false (Qf (0,0)) (jD (jQ Qf x.CP) [a.dP,a.num])=Qf p:=by
  rw[hA];cases eM x.CP a.nm<;>exact⟨_,rfl,rfl⟩
 rw[hp]at hE
 simp only[aU,cond_false,Qf]at hw
 have Ov:=fun μ=>DJ N al x o p.1 p.2 (by omega) μ
 simp only[nu,aD,aK]
 cases hf:nH x.rs p.1 p.2 with
 |some j=>
  rw[hf]at hE Ov
  simp only[Option.isSome_some,if_true]at hE
  simp only[nZ]at Ov
  rw[hE]
  refine Az @hw (aa @Ov (cY a)) ?_;intros
  refine .inr (.inl ⟨_,_,_,_,rfl,fun _=>⟨hc _,?_⟩,fun h=>by cases h⟩)
  rintro r σ' ⟨gz,rfl⟩
  refine aH ?_
  refine Au ?_;intros
  exact .mk ([some [⟨264,3,[[.v (.pointer none),n p.1,n p.2]],none⟩]]++gz) (by simp)
 |none=>
  rw[hf]at hE Ov
  simp only[fN,bw,if_false]at hE
  simp only[nZ]at Ov
  rw[hE]
  have hm:=wu a.nm x.marks 0
  rw[br]at hm
  simp only[Nm.ky]at hm
  generalize YI:(eM x.marks a.nm).getD []=L at hL
  obtain⟨W,hW⟩:∃W,W=nu N (qG al) x o++ν:=⟨_,rfl⟩
  have YH:List.length W=List.length ν+14:=by rw[hW];simp[nu]
  cases wx:eM x.marks a.nm with
  |none=>
   rw[wx]at hm
   simp only[da]at hm
   rw[wx]at YI
   have Ot:L=[]:=YI.symm
   refine Az (aa @hw @hm) (aa @Ov (aa (cY a) (gF a.c8 hs))) ?_;intros
   refine aR.oC 50 2 50 rfl ?_
   refine aR.pQ (σ':=W++[some [⟨264,3,[[.v (.pointer none),n p.1,n p.2]],none⟩],some [⟨66,24,[pN a p Bb Bb],none⟩],some [⟨50,2,[],none⟩]]) (by rw[hW];simp only[nu,aD,aW,aK];rfl) ?_
   refine aR.weaken ?_ (zP N al x o a p L hx hL ν W hW _ _ (List.length W+2) 0 (fun A X μ=>by rw[dR,Ot];rfl))
   intro q hq
   simp only[aC,au,or_false]at hq
   rcases hq with rfl|rfl|rfl|rfl|rfl<;>simp[gt,YH,Ot]
  |some l=>
   rw[wx]at hm
   simp only[aY]at hm
   rw[wx]at YI
   have Ot:l=L:=YI
   have Qh:=(rI (N:=N) wx).1
   refine Az (aa @hw (aa @hm @Qh)) (aa @Ov (aa (cY a) (gF a.c8 hs))) ?_;intros
   refine aR.Rq 50 2 0 ?_
   refine aR.pQ (σ':=W++[some [⟨264,3,[[.v (.pointer none),n p.1,n p.2]],none⟩],some [⟨66,24,[pN a p Bb Bb],none⟩],some []]) (by rw[hW];simp only[nu,aD,aW,aK];rfl) ?_
   refine aR.weaken ?_ (zP N al x o a p L hx hL ν W hW _ _ 12 (m_ x.marks a.nm) (fun A X μ=>by rw[hW,<-Ot,<-Qh];rfl))
   intro q hq
   simp only[aC,au,or_false]at hq
   rcases hq with rfl|rfl|rfl|rfl|rfl<;>simp[gt,YH,Ot]
theorem HB(N:Nat)(al:List (Nm×Nt))(x:Fs)(o:List Nm)(a:Nt)(hx:x.rr.length<=400)(ν:aG):eY Tryz.prog 138 [tJ a,.ptr 8 0 1 0 0] (nu N (qG al) x o++ν) (FR N (qG al) (qk x a) o ν):=by
 refine Fi Tryz.f138.eq_1 [] [.d 9] ?_
 have hA:=ij Ou a.nm x.reads
 simp only[Nm.ky]at hA
 have hC:qk x a={x with rr:=x.rr++[(eM x.reads a.nm).getD KZ]}:=rfl
 rw[hC]
 have hw:aU false (Ou KZ) (jD (jQ Ou x.reads) [a.dP,a.num])=Ou ((eM x.reads a.nm).getD KZ):=by
  rw[hA];cases eM x.reads a.nm<;>rfl
 generalize(eM x.reads a.nm).getD KZ=r at hw
 simp only[aU,cond_false,Ou,KZ,Rd.cs]at hw
 simp only[nu,aD,aK]
 refine Az @hw (cY a) ?_;intros
 refine .mk [] ?_
 simp[nu]
theorem nQ(l:List Nt)(hl:pK l)(we:l.length<=400)(hn:(l.map Nt.nm).Nodup)(k:Int)(f:Nat)(first cap:List AV)(G:Fs->Nt->Fs)(Q:Nat->Fs->Prop)(N:Nat)(A:AV)(o:List Nm)(O4:∀i a x ν,(fg l [k])[i]?=some a->Q i x->eY Tryz.prog f (first++[tJ a]++cap) (nu N A x o++ν) (FR N A (G x a) o ν))(hQ:∀i a x,(fg l [k])[i]?=some a->Q i x->Q (i+1) (G x a))(x:Fs)(hx:Q 0 x)(ν:aG):eY Tryz.prog 132 [.fn (.func f) first cap,l9 [k],.bZ [Ad l] 0] (nu N A x o++ν) (FR N A ((fg l [k]).foldl G x) o ν):=by
 refine qY 13 (jo [jx 3 265 1 0] [1,2,3] (jo [jl 6 2,jm 7 1,jy 8 130 [6,7]] [3,8] (.block 0 (.rL (.t 8) [9] (.ops [jw 5 (.alloc 164 38 vj),js 38 5 9] [3,5]) (.block 1 (.ops [jl 10 3,jk 11 38 5,jw 12 (.call (.t 10) [(.t 11)])] [3])))))) [] Tryz.call132 Tryz.func132 ?_
 have h2:=sX l hl we hn [k] (l9 [k]) (.inl rfl)
 have lR:=zM l we [k] (by simp) (l9 [k]) (.inl rfl)
 generalize fg l [k]=S at O4 hQ lR
 have hq:∀i,i<=S.length->Q i ((S.take i).foldl G x):=by
  intro i
  induction i with
  |zero=>exact fun _=>hx
  |succ i ih=>
   intro hi
   have hg:S[i]?=some (S.getD i Ib):=fh Ib (by omega)
   rw[ba,hg]
   simp only[Option.toList_some,eO,cT,List.foldl_nil]
   exact hQ i _ _ hg (ih (by omega))
 refine Ay @h2 ?_;intros
 refine aR.rL (fun y:{y:Fs//True}=>nu N A y.1 o++ν) (14+List.length ν) (fun _=>by simp[nu];omega) (fun i y=>y.1=(S.take i).foldl G x) (fun _ _=>False) (wg S) ⟨x,trivial⟩
  rfl rfl rfl lR (fun k args h=>?_) (fun i y args ll ρ τ hk hy=>?_) (fun y τ hy=>?_) (fun _ _ _ h=>h.elim)
 ·obtain⟨a,_,rfl⟩:=u6 h
  rfl
 ·obtain⟨y,_⟩:=y
  simp only at hy
  subst hy
  obtain⟨a,hs,rfl⟩:=u6 hk
  have mF:=(ai.1 hs).1
  have hd:=fun μ=>O4 i a _ μ hs (hq i (by omega))
  have vZ:(S.take (i+1)).foldl G x=G ((S.take i).foldl G x) a:=by
   rw[ba,hs];simp
  simp only[par]
  generalize hY:(S.take i).foldl G x=Y at hd vZ
  obtain⟨C,hC⟩:∃C,C=nu N A Y o++ν:=⟨_,rfl⟩
  simp only[<-hC]
  refine Au ?_;intros
  refine⟨⟨Y,trivial⟩,[some [⟨164,38,[a.cs],none⟩]],by simp[hC],fun ox=>?_⟩
  simp only[<-hC]
  have FV:eY Tryz.prog f (first++[tJ a]++cap) (C++ox::(τ++[some [⟨164,38,[a.cs],none⟩]])) (FR N A (G Y a) o (ν++ox::(τ++[some [⟨164,38,[a.cs],none⟩]]))):=by
   have e:C++ox::(τ++[some [⟨164,38,[a.cs],none⟩]])=nu N A Y o++(ν++ox::(τ++[some [⟨164,38,[a.cs],none⟩]])):=by rw[hC,aW]
   rw[e];exact hd _
  have hT:∀(μ:aG) (u:Ob),aG.at (C++ox::(τ++[some [u]])) (List.length C+(List.length τ+1)) 0=some u:=fun μ u=>by
   rw[dR,show(ox::(τ++[some [u]]):aG)=(ox::τ)++[some [u]] by simp,show List.length τ+1=(ox::τ).length by simp,dV];rfl
  refine Ax @hT ?_;intros
  refine .inr (.inl ⟨_,_,_,_,rfl,fun _=>⟨FV,?_⟩,fun h=>by cases h⟩)
  rintro r σ' ⟨gz,rfl⟩
  refine aH ?_
  refine Au ?_;intros
  exact⟨⟨G Y a,trivial⟩,gz,by simp,vZ.symm⟩
 ·obtain⟨y,_⟩:=y
  simp only at hy
  subst hy
  have JK:(wg S).length=S.length:=by simp[wg]
  simp only[JK,aI]
  refine Au ?_;intros
  exact .mk τ rfl
theorem RD(a:Rd):∀c∈a.cs,bC c:=fun c hc=>by simp at hc;rcases hc with rfl|rfl|rfl|rfl|rfl<;>simp
theorem NL(a:j3):∀c∈a.cs,bC c:=fun c hc=>by simp at hc;rcases hc with rfl|rfl|rfl|rfl<;>simp
theorem Xe(a:Nm):∀c∈a.cs,bC c:=fun c hc=>by simp at hc;rcases hc with rfl|rfl<;>simp
theorem T9(r:FU):∀c∈r.cs,bC c:=fun c hc=>by
 simp only[aC,au,or_false]at hc
 rcases hc with rfl|rfl|rfl|rfl
 ·exact Mu _
 ·exact nJ 5 _ RD
 ·exact nJ 4 _ NL
 ·exact nJ 2 _ Xe
@[simp] theorem HE(r:FU):bC (.agg r.cs):=.agg (T9 r)
@[simp] theorem aeN(r:FU)(j:Nat):bC (.bZ r.cs j):=.bZ (T9 r)
@[simp] theorem aeJ(l:List Rd):bC (Jw l):=nJ 5 _ RD
@[simp] theorem aeK(l:List j3):bC (KY l):=nJ 4 _ NL
@[simp] theorem aeL(l:List Nm):bC (Rm l):=nJ 2 _ Xe
theorem HF(N:Nat)(al:List (Nm×Nt))(x:Fs)(o:List Nm)(a:Nt)(cn:(gW x.st).1=0)(hp:(gI x.st a.fB).2=0)(ν:aG):eY Tryz.prog 137 [.ptr 8 0 1 0 0,tJ a] (nu N (qG al) x o++ν) (FR N (qG al) (nt al x a) o ν):=by
 refine Fi Tryz.f137.eq_1 [] [.d 8,.v 13 1 15,.d 13] ?_
 have hc:=fun μ=>mK N al x o a μ
 obtain⟨Qj,Ql⟩:=tL cn
 have hS:=fun μ=>(jg.plain (kO x.st ⟨by omega,fun s hs=>by have:=Ql s hs;omega⟩ a.fB) (Plain.t2 _ _) ⟨bO.gZ (σ:=nu N (qG al) x o++μ) (f:=13) (T:=118) rfl rfl (by decide) (fun a=>NL a) (fun a=>rfl),bO.pure (by simp),trivial⟩:
  jg Tryz.prog 12 [.own 13 0 x.st.length,n a.fB] (nu N (qG al) x o++μ) (.iu [n (gI x.st a.fB).1,n (gI x.st a.fB).2]))
 obtain⟨hi,_⟩:=NJ hp
 have cX:(x.st.map j3.cs).getD (gI x.st a.fB).1 []=j3.cs (x.st.getD (gI x.st a.fB).1 default):=row default hi
 have hM:=Kz (x.st.getD (gI x.st a.fB).1 default) a.ej (by have:=Ql _ (ao (fh default hi));omega)
 have hE:nt al x a=if(mV (x.st.getD (gI x.st a.fB).1 default) a.ej).2≠0 then fw al x a else{x with st:=x.st.set (gI x.st a.fB).1 (mV (x.st.getD (gI x.st a.fB).1 default) a.ej).1}:=rfl
 rw[hp]at hS
 generalize(gI x.st a.fB).1=i at hS hi cX hM hE
 generalize x.st.getD i default=s at cX hM hE
 generalize DT:(mV s a.ej).1=r at hM hE
 generalize Oh:(mV s a.ej).2=e at hM hE
 simp only[nu,aD,aK]
 by_cases he:e=0
 ·rw[hE,if_neg (by omega)]
  subst he
  refine Az @cX (aa @hS @hM) ?_;intros
  refine .mk [some [⟨118,4,[r.cs],none⟩]] ?_
  simp[nu,Qg,aJ,fU]
 ·rw[hE,if_pos he]
  refine Az @cX (aa @hS @hM) ?_;intros
  refine .inr (.inl ⟨_,_,_,_,rfl,fun _=>⟨hc _,?_⟩,fun h=>by cases h⟩)
  rintro r' σ' ⟨gz,rfl⟩
  refine aH ?_
  refine Au ?_;intros
  refine .mk ([some [⟨118,4,[r.cs],none⟩]]++gz) (by simp)
theorem KA(b:l8)(l:List Nt)(hl:pK l)(we:l.length<=400)(hn:(l.map Nt.nm).Nodup)(cn:b.dh.length*48<=140737488355328)(hh:∀s∈b.dh,s.cz.length*24<=140737488355328)(T2:∀a∈l,a.kind=1->PL a.c8)(Na:(gW b.dh).1=0)(hp:∀a∈l,a.kind=4->(gI b.dh a.fB).2=0):Pure Tryz.prog 64 [.agg b.cs,Ad l] (.agg (oV b l).cs):=by
 refine et 105 (jo [jx 2 26 6 0,jx 3 27 1 1,jw 4 (.alloc 36 4 [.slice none 0 0,.slice none 0 0,.slice none 0 0,.slice none 0 0])] [2,3,4] (jo [jl 10 3,jy 11 129 [10],jw 12 (.qn 2),jw 13 (.qn 2),jw 14 (.qn 2),jw 15 (.qn 2),jw 16 (.qn 2),jw 17 (.qn 2),jw 18 (.qn 2),jw 19 (.build [.map none,.map none,.map none,.map none,.map none,.map none,.map none,.map none,.slice none 0 0,.slice none 0 0,.slice none 0 0,.slice none 0 0] [(0,1,(.t 11)),(1,1,(.t 12)),(2,1,(.t 13)),(3,1,(.t 14)),(4,1,(.t 15)),(5,1,(.t 16)),(6,1,(.t 17)),(7,1,(.t 18))]),jw 5 (.alloc 257 12 [.map none,.map none,.map none,.map none,.map none,.map none,.map none,.map none,.slice none 0 0,.slice none 0 0,.slice none 0 0,.slice none 0 0]),js 12 5 19] [2,3,4,5] (jo [jf 20 0 2,jl 21 20,jy 22 67 [21],jf 23 8 5,jf 24 2 23,js 1 24 22] [3,4,5] (.seq (jo [jl 25 3,jw 26 (.jR false 3 1 2 [.int .i64 0,.int .i64 0] [(0,1,(.c (.int .i64 1))),(1,1,(.c (.int .i64 3)))]),jy 27 130 [25,26]] [3,4,5,27] (.block 0 (.rL (.t 27) [28] (.ops [jw 6 (.alloc 164 38 vj),js 38 6 28] [3,4,5,6]) (.block 1 (.seq (jo [jf 29 4 6,jl 30 29,ju .eql 31 30 3] [3,4,5,6,31] (.cond (.t 31) (.seq (.draw [jf 32 6 5,jl 33 32,jk 34 38 6,jy 35 131 [34],jf 36 28 6,jk 37 5 36] [⟨none,.pR 2 (.t 33) (.t 35) (.t 37),none⟩] [3,4,5]) (.exit 1)) .skip)) (.seq (.draw [jf 38 1 5,jl 39 38,jk 40 38 6,jy 41 131 [40],jk 42 38 6] [⟨none,.pR 2 (.t 39) (.t 41) (.t 42),none⟩] [3,4,5,6]) (.draw [jf 43 2 5,jl 44 43,jk 45 38 6,jy 46 131 [45],jf 47 5 6,jl 48 47,jf 49 6 6,jl 50 49,jw 51 (.build [.pointer none,.int .i64 0,.int .i64 0] [(1,1,(.t 48)),(2,1,(.t 50))])] [⟨none,.pR 2 (.t 44) (.t 46) (.t 51),none⟩] [3,4,5]))))))) (jo [jw 52 (.j5 (.func 132) [] [(.t 3)]),jm 7 52] [3,4,5,7] (jo [jm 53 7,jw 54 (.j5 (.func 133) [(.t 5)] []),jw 55 (.jR false 3 1 1 [.int .i64 0] [(0,1,(.c (.int .i64 5)))]),jw 56 (.call (.t 53) [(.t 54),(.t 55)])] [3,4,5,7] (jo [jm 57 7,jw 58 (.j5 (.func 134) [(.t 5)] []),jw 59 (.jR false 3 1 1 [.int .i64 0] [(0,1,(.c (.int .i64 2)))]),jw 60 (.call (.t 57) [(.t 58),(.t 59)])] [3,4,5,7] (jo [jm 61 7,jw 62 (.j5 (.func 135) [(.t 5)] []),jw 63 (.jR false 3 1 1 [.int .i64 0] [(0,1,(.c (.int .i64 6)))]),jw 64 (.call (.t 61) [(.t 62),(.t 63)])] [3,4,5,7] (jo [jm 65 7,jw 66 (.j5 (.func 136) [(.t 5)] []),jw 67 (.jR false 3 1 1 [.int .i64 0] [(0,1,(.c (.int .i64 1)))]),jw 68 (.call (.t 65) [(.t 66),(.t 67)])] [3,4,5,7] (jo [jm 69 7,jw 70 (.j5 (.func 137) [(.t 5)] []),jw 71 (.jR false 3 1 1 [.int .i64 0] [(0,1,(.c (.int .i64 4)))]),jw 72 (.call (.t 69) [(.t 70),(.t 71)])] [3,4,5,7] (jo [jm 73 7,jw 74 (.j5 (.func 138) [] [(.t 5)]),jw 75 (.jR false 3 1 1 [.int .i64 0] [(0,1,(.c (.int .i64 3)))]),jw 76 (.call (.t 73) [(.t 74),(.t 75)])] [3,4,5] (.seq (jo [jl 77 3,je 78 77,jc 79 0] [4,5,77,78,79] (.block 2 (.loop (jo [jt .lss 80 79 78] [4,5,77,78,79,80] (.seq (.cond (.t 80) .skip (.exit 2)) (.seq (.block 3 (jo [ji 81 38 77 79,jk 82 38 81,jw 9 (.alloc 164 38 vj),js 38 9 82] [4,5,9,77,78,79] (.seq (jo [jf 83 4 9,jl 84 83,ju .eql 85 84 7] [4,5,9,77,78,79,85] (.cond (.t 85) (.ops [jk 86 38 9,jy 87 139 [5,86]] [4,5,9,77,78,79]) .skip)) (.seq (.draw [jf 88 7 5,jl 89 88,jk 90 38 9,jy 91 131 [90],jw 92 (.look 2 false [.bool false] false (.t 89) (.t 91))] [] [4,5,9,77,78,79,92]) (.cond (.t 92) (.draw [jf 93 8 5,jf 94 3 93,jl 95 94,jk 96 38 9,jy 97 131 [96],jw 98 (.jR false 50 2 1 [.int .i64 0,.int .i64 0] [(0,2,(.t 97))])] [jw 99 (.app 50 2 16 (.t 95) (.t 98)),jf 100 8 5,jf 101 3 100,js 1 101 99] [4,5,77,78,79]) .skip))))) (.ops [ju .add 102 79 1,jm 79 102] [4,5,77,78,79]))))))) (jo [jf 103 8 5,jk 104 4 103,js 4 4 104] [4] .ret))))))))))))) [.c 4 (some 4)] Tryz.call64 Tryz.func64 ?_
 have hb:=EU l hl
 obtain⟨al,Cd⟩:∃al,al=mI l:=⟨_,rfl⟩
 rw[<-Cd]at hb
 iterate 3
  refine aeD @hb ?_;intros
 refine aR.lH 66 24 (f:=8) (i:=0) (e:=0) (j:=8) rfl (by simp) rfl ?_
 refine aR.lH 71 5 (f:=8) (i:=0) (e:=0) (j:=9) rfl (by simp) rfl ?_
 refine aR.lH 50 2 (f:=8) (i:=0) (e:=0) (j:=11) rfl (by simp) rfl ?_
 refine aR.Rq 50 2 l.length ?_
 refine aR.pQ (σ':=[dX,Ba [],Ba [],Ba [],Ba [],Ba [],Ba [],Ba [],some [⟨257,12,[[qG al,.mp 1,.mp 2,.mp 3,.mp 4,.mp 5,.mp 6,.mp 7,.own 9 0 0,.own 10 0 0,.v (.slice none 0 0),.own 11 0 0]],none⟩],
  some [⟨66,24,[],none⟩],some [⟨71,5,[],none⟩],some [⟨50,2,[],none⟩],some (FW l.length [])]) rfl ?_
 obtain⟨MF,hMF⟩:∃MF,MF=FW l.length []:=⟨_,rfl⟩
 rw[<-hMF]
 refine Au ?_;intros
 refine .inr (.inl ⟨_,_,_,_,rfl,fun _=>⟨ny b.dh cn hh _,?_⟩,fun h=>by cases h⟩)
 rintro r σ' ⟨ν,rfl,rfl⟩
 refine aH ?_
 refine adL ?_
 have h2:=sX l hl we hn [1,3] (l9 [1,3]) (.inl rfl)
 have lR:=zM l we [1,3] (by simp) (l9 [1,3]) (.inl rfl)
 refine Ay @h2 ?_;intros
 refine aR.pQ (σ':=nu l.length (qG al) (K0 b) []++ν) (by rw[hMF];rfl) ?_
 generalize hS:fg l [1,3]=S at lR
 refine aR.rL (fun y:{y:Fs//True}=>nu l.length (qG al) y.1 []++ν) (14+List.length ν) (fun _=>by simp[nu];omega) (fun i y=>y.1=(S.take i).foldl mm (K0 b)) (fun _ _=>False) (wg S) ⟨K0 b,trivial⟩
  rfl rfl rfl lR (fun k args h=>?_) (fun i y args ll ρ τ hk hy=>?_) (fun y τ hy=>?_) (fun _ _ _ h=>h.elim)
 ·obtain⟨a,_,rfl⟩:=u6 h
  rfl
 ·obtain⟨y,_⟩:=y
  simp only at hy
  subst hy
  obtain⟨a,hs,rfl⟩:=u6 hk
  have vZ:(S.take (i+1)).foldl mm (K0 b)=mm ((S.take i).foldl mm (K0 b)) a:=by
   rw[ba,hs];simp
  simp only[par]
  generalize hY:(S.take i).foldl mm (K0 b)=Y at vZ
  obtain⟨C,hC⟩:∃C,C=nu l.length (qG al) Y []++ν:=⟨_,rfl⟩
  have hlC:List.length C=List.length ν+14:=by rw[hC];simp[nu]
  simp only[<-hC]
  refine Au ?_;intros
  refine⟨⟨Y,trivial⟩,[some [⟨164,38,[a.cs],none⟩]],by simp[hC],fun ox=>?_⟩
  have hT:∀(x0 x1 x2 x3 x4 x5 x6 x7 x8 x9 FX FY FZ F2:Option (List Ob)) (u:Ob),aG.at (x0::x1::x2::x3::x4::x5::x6::x7::x8::x9::FX::FY::FZ::F2::(ν++ox::(τ++[some [u]]))) (List.length C+(List.length τ+1)) 0=some u:=fun x0 x1 x2 x3 x4 x5 x6 x7 x8 x9 FX FY FZ F2 u=>by
   have e:(x0::x1::x2::x3::x4::x5::x6::x7::x8::x9::FX::FY::FZ::F2::(ν++ox::(τ++[some [u]])):aG)=(x0::x1::x2::x3::x4::x5::x6::x7::x8::x9::FX::FY::FZ::F2::(ν++ox::τ))++[some [u]]:=by simp
   rw[e,hlC,show List.length ν+14+(List.length τ+1)=(x0::x1::x2::x3::x4::x5::x6::x7::x8::x9::FX::FY::FZ::F2::(ν++ox::τ)).length by simp;omega,dV];rfl
  have hm6:=jA Ou a.nm a.read Y.reads
  have Gr:=jA tJ a.nm a Y.aS
  have OY:=jA Qf a.nm (a.fB,a.week) Y.CP
  simp only[Nm.ky]at hm6 Gr OY
  simp only[nu,aW,aD,aK]
  by_cases qp:a.kind=3
  ·have hB:mm Y a={Y with reads:=gX Y.reads a.nm a.read}:=by unfold mm;rw[if_pos qp]
   rw[hB]at vZ
   refine Az (aa @hT (aa @qp @hm6)) (cY a) ?_;intros
   refine⟨⟨_,trivial⟩,[],?_,vZ.symm⟩
   simp
  ·have hB:mm Y a={Y with aS:=gX Y.aS a.nm a,CP:=gX Y.CP a.nm (a.fB,a.week)}:=by unfold mm;rw[if_neg qp]
   rw[hB]at vZ
   refine Az (aa @hT (aa @Gr @OY)) (cY a) ?_;intros
   refine⟨⟨_,trivial⟩,[],?_,vZ.symm⟩
   simp
 ·obtain⟨y,_⟩:=y
  simp only at hy
  subst hy
  have JK:(wg S).length=S.length:=by simp[wg]
  simp only[JK,aI]
  rw[<-hS]
  clear lR h2 hb
  have hlen:∀ks:List Int,(fg l ks).length<=l.length:=zb l
  have kF:∀(ks:List Int) (i:Nat) (a:Nt),(fg l ks)[i]?=some a->i<l.length/\a∈l/\(ks=[]\/a.kind∈ks):=fun ks i a h=>
   ⟨cr (ai.1 h).1 (hlen ks),zQ (ao h)⟩
  obtain⟨x1,Qj⟩:∃x1,x1=(fg l [1,3]).foldl mm (K0 b):=⟨_,rfl⟩
  have k1:kp x1=kp (K0 b):=by rw[Qj];exact lW kp B4 _ _
  obtain⟨x2,Ql⟩:∃x2,x2=(fg l [5]).foldl (rk al) x1:=⟨_,rfl⟩
  have k2:kp x2=kp (K0 b):=by rw[Ql,<-k1];exact lW kp (Ft al) _ _
  obtain⟨m2,r2,q2,s2⟩:=kT k2
  obtain⟨x3,Qm⟩:∃x3,x3=(fg l [2]).foldl (lJ al) x2:=⟨_,rfl⟩
  have k3:rH x3/\x3.rs=[]/\x3.rr=[]/\x3.st=b.dh:=by
   rw[Qm]
   refine l5 (fun x=>rH x/\x.rs=[]/\x.rr=[]/\x.st=b.dh) _ _ (fun x a _ h=>?_) ⟨fun m L h=>(by rw[m2]at h;cases h),r2,q2,s2⟩
   obtain⟨g1,_,g2,g3,g4⟩:=u9 al x a h.1
   exact⟨g1,g2.trans h.2.1,g3.trans h.2.2.1,g4.trans h.2.2.2⟩
  obtain⟨x4,UR⟩:∃x4,x4=(fg l [6]).foldl (gY al) x3:=⟨_,rfl⟩
  have k4:kp x4=kp x3:=by rw[UR];exact lW kp (xf al) _ _
  obtain⟨m4,r4,q4,s4⟩:=kT k4
  obtain⟨x5,T_⟩:∃x5,x5=(fg l [1]).foldl (mo al) x4:=⟨_,rfl⟩
  have k5:x5.rr=[]/\x5.st=b.dh:=by
   rw[T_]
   refine l5 (fun x=>x.rr=[]/\x.st=b.dh) _ _ (fun x a _ h=>⟨(nR al x a).2.2.1.trans h.1,(nR al x a).2.2.2.trans h.2⟩) ⟨q4.trans k3.2.2.1,s4.trans k3.2.2.2⟩
  obtain⟨x6,US⟩:∃x6,x6=(fg l [4]).foldl (nt al) x5:=⟨_,rfl⟩
  have k6:x6.rr=[]:=by
   rw[US]
   refine l5 (fun x=>x.rr=[]) _ _ (fun x a _ h=>(B5 al x a).trans h) k5.1
  obtain⟨x7,UT⟩:∃x7,x7=(fg l [3]).foldl qk x6:=⟨_,rfl⟩
  have c5:=fun ν=>nQ l hl we hn 5 133 [.ptr 8 0 1 0 0] [] (rk al) (fun _ _=>True) l.length (qG al) [] (fun i a x ν _ _=>Kj _ al x [] a ν) (fun _ _ _ _ _=>trivial) x1 trivial ν
  have c2:=fun ν=>nQ l hl we hn 2 134 [.ptr 8 0 1 0 0] [] (lJ al) (fun i x=>x.marks.length<=i/\rH x) l.length (qG al) []
   (fun i a x ν hg hq=>Km _ al x [] a (Nat.lt_of_le_of_lt hq.1 (kF _ _ _ hg).1) ν) (fun i a x hg hq=>⟨bT (u9 al x a hq.2).2.1 (by have:=hq.1;omega),(u9 al x a hq.2).1⟩) x2 ⟨by rw[m2];exact ar _,fun m L h=>(by rw[m2]at h;cases h)⟩ ν
  have c6:=fun ν=>nQ l hl we hn 6 135 [.ptr 8 0 1 0 0] [] (gY al) (fun _ _=>True) l.length (qG al) [] (fun i a x ν _ _=>DI _ al x [] a ν) (fun _ _ _ _ _=>trivial) x3 trivial ν
  have c1:=fun ν=>nQ l hl we hn 1 136 [.ptr 8 0 1 0 0] [] (mo al) (fun i x=>x.rs.length<=i/\rH x) l.length (qG al) []
   (fun i a x ν hg hq=>HA _ al x [] a (by have:=(kF _ _ _ hg).1;have:=hq.1;omega) (T2 a (kF _ _ _ hg).2.1 (by simpa using(kF _ _ _ hg).2.2)) (by
    cases hk:eM x.marks a.nm with
    |none=>simp
    |some L=>exact hq.2 _ _ hk) ν)
   (fun i a x hg hq=>⟨bT (nR al x a).2.1 (by have:=hq.1;omega),fun m L h=>hq.2 m L (by rw[<-(nR al x a).1];exact h)⟩) x4 ⟨by rw[r4,k3.2.1];exact ar _,fun m L h=>k3.1 m L (by rw[<-m4];exact h)⟩ ν
  have c4:=fun ν=>nQ l hl we hn 4 137 [.ptr 8 0 1 0 0] [] (nt al) (fun _ x=>pO b.dh x.st) l.length (qG al) [] (fun i a x ν hg hq=>HF _ al x [] a hq.ok (by
   rw[hq.of Na];exact hp a (kF _ _ _ hg).2.1 (by simpa using(kF _ _ _ hg).2.2)) ν) (fun i a x _ hq=>hq.raise al a) x5 (by rw[k5.2];exact⟨Na,rfl⟩) ν
  have c3:=fun ν=>nQ l hl we hn 3 138 [] [.ptr 8 0 1 0 0] qk (fun i x=>x.rr.length<=i) l.length (qG al) []
   (fun i a x ν hg hq=>HB _ al x [] a (by have:=(kF _ _ _ hg).1;omega) ν) (fun i a x hg hq=>by have:=(Fu x a).2.2.1;omega) x6 (by rw[k6];exact ar _) ν
  rw[<-Ql]at c5
  rw[<-Qm]at c2
  rw[<-UR]at c6
  rw[<-T_]at c1
  rw[<-US]at c4
  rw[<-UT]at c3
  rw[<-Qj]
  have Eu:oV b l=⟨(l.foldl (k_ al) (x7,[])).1.rs,(l.foldl (k_ al) (x7,[])).1.rr,(l.foldl (k_ al) (x7,[])).1.st,(l.foldl (k_ al) (x7,[])).2⟩:=by
   rw[UT,US,T_,UR,Qm,Ql,Qj,Cd];rfl
  rw[Eu]
  rw[aW]
  generalize hW:ν++τ=W
  refine Au ?_;intros
  refine .inr (.inl ⟨_,_,_,_,rfl,fun _=>⟨c5 W,?_⟩,fun h=>by cases h⟩)
  rintro r σ' ⟨μ1,rfl⟩
  refine aH ?_
  refine Au ?_;intros
  refine .inr (.inl ⟨_,_,_,_,rfl,fun _=>⟨c2 _,?_⟩,fun h=>by cases h⟩)
  rintro r σ' ⟨μ2,rfl⟩
  refine aH ?_
  refine Au ?_;intros
  refine .inr (.inl ⟨_,_,_,_,rfl,fun _=>⟨c6 _,?_⟩,fun h=>by cases h⟩)
  rintro r σ' ⟨μ3,rfl⟩
  refine aH ?_
  refine Au ?_;intros
  refine .inr (.inl ⟨_,_,_,_,rfl,fun _=>⟨c1 _,?_⟩,fun h=>by cases h⟩)
  rintro r σ' ⟨μ4,rfl⟩
  refine aH ?_
  refine Au ?_;intros
  refine .inr (.inl ⟨_,_,_,_,rfl,fun _=>⟨c4 _,?_⟩,fun h=>by cases h⟩)
  rintro r σ' ⟨μ5,rfl⟩
  refine aH ?_
  refine Au ?_;intros
  refine .inr (.inl ⟨_,_,_,_,rfl,fun _=>⟨c3 _,?_⟩,fun h=>by cases h⟩)
  rintro r σ' ⟨μ6,rfl⟩
  refine aH ?_
  refine Au ?_;intros
  have Sq:∀i,((l.take i).foldl (k_ al) (x7,[])).2.length<=400:=fun i=>by
   have h5:=(wy al (l.take i) (x7,[])).1
   have h6:(l.take i).length<=l.length:=by rw[bH];omega
   simp only[bM]at h5
   omega
  refine aR.mT (α:={p:Nat×aG//p.1<=l.length}) [79] (fun p=>[(79,n p.1.1)])
   (fun p=>nu l.length (qG al) ((l.take p.1.1).foldl (k_ al) (x7,[])).1 ((l.take p.1.1).foldl (k_ al) (x7,[])).2++p.1.2) (fun p=>l.length-p.1.1) ⟨(0,W++(μ1++(μ2++(μ3++(μ4++(μ5++μ6)))))),by simp⟩ ?_ rfl ?_
  ·exact Sb_
  ·rintro⟨⟨i,μ⟩,hi⟩
   simp only at hi
   by_cases bP:i<l.length
   ·have hs:(l.map Nt.cs).getD i []=Nt.cs (l.getD i Ib):=row Ib bP
    have vZ:(l.take (i+1)).foldl (k_ al) (x7,[])=k_ al ((l.take i).foldl (k_ al) (x7,[])) (l.getD i Ib):=by
     rw[ba,fh Ib bP];simp
    have hq4:=Sq i
    generalize l.getD i Ib=a at hs vZ
    generalize hY:(l.take i).foldl (k_ al) (x7,[])=Y at vZ hq4
    obtain⟨f,o⟩:=Y
    simp only at hq4
    simp only[hY]
    by_cases sH:a.kind=7
    ·have hw:aU false (bl false) (jD (jQ bl (fw al f a).ig) [a.dP,a.num])=bl ((eM (fw al f a).ig a.nm).getD false):=by
      rw[show jD (jQ bl (fw al f a).ig) [a.dP,a.num]=_ from ij bl a.nm (fw al f a).ig]
      cases eM (fw al f a).ig a.nm<;>rfl
     have hL:k_ al (f,o) a=(fw al f a,if(eM (fw al f a).ig a.nm).getD false then o++[a.nm]else o):=by unfold k_;simp only[sH,if_true]
     rw[hL]at vZ
     have hc:=fun μ=>mK l.length al f o a μ
     generalize fw al f a=g at hw vZ hc
     generalize(eM g.ig a.nm).getD false=c at hw vZ
     simp only[aU,cond_false]at hw
     simp only[nu,aD,aK]
     refine Ax (aa @hs @sH) ?_;intros
     refine .inr (.inl ⟨_,_,_,_,rfl,fun _=>⟨hc _,?_⟩,fun h=>by cases h⟩)
     rintro r σ' ⟨gz,rfl⟩
     refine aH ?_
     simp only[nu,List.append_eq,aW,aD,aK]
     refine adL ?_
     cases c with
     |true=>
      refine Az @hw (cY a) ?_;intros
      refine⟨⟨(i+1,μ++some [⟨164,38,[a.cs],none⟩]::gz),bP⟩,by simp,?_,by simp only;omega⟩
      simp only[vZ]
      simp
     |false=>
      refine Az @hw (cY a) ?_;intros
      refine⟨⟨(i+1,μ++some [⟨164,38,[a.cs],none⟩]::gz),bP⟩,by simp,?_,by simp only;omega⟩
      simp only[vZ]
      simp
    ·have hw:aU false (bl false) (jD (jQ bl f.ig) [a.dP,a.num])=bl ((eM f.ig a.nm).getD false):=by
      rw[show jD (jQ bl f.ig) [a.dP,a.num]=_ from ij bl a.nm f.ig]
      cases eM f.ig a.nm<;>rfl
     have hL:k_ al (f,o) a=(f,if(eM f.ig a.nm).getD false then o++[a.nm]else o):=by unfold k_;simp only[sH,if_false]
     rw[hL]at vZ
     generalize(eM f.ig a.nm).getD false=c at hw vZ
     simp only[aU,cond_false]at hw
     simp only[nu,aD,aK]
     cases c with
     |true=>
      refine Az (aa @hs @hw) (cY a) ?_;intros
      refine⟨⟨(i+1,μ++some [⟨164,38,[a.cs],none⟩]::[]),bP⟩,by simp,?_,by simp only;omega⟩
      simp only[vZ]
      simp
     |false=>
      refine Az (aa @hs @hw) (cY a) ?_;intros
      refine⟨⟨(i+1,μ++some [⟨164,38,[a.cs],none⟩]::[]),bP⟩,by simp,?_,by simp only;omega⟩
      simp only[vZ]
      simp
   ·obtain rfl:i=l.length:=by omega
    rw[aI]
    generalize hY:l.foldl (k_ al) (x7,[])=Y
    obtain⟨f,o⟩:=Y
    simp only[nu,aD,aK]
    refine Au ?_;intros
    refine bO.mX ⟨?_,?_,?_,?_,trivial⟩
    ·exact bO.gZ (T:=66) rfl rfl (by decide) (fun a=>dm.pc a) (fun a=>rfl)
    ·exact bO.gZ (T:=71) rfl rfl (by decide) (fun a c hc=>by simp at hc;rcases hc with rfl|rfl|rfl|rfl|rfl<;>simp) (fun a=>rfl)
    ·exact bO.gZ (T:=118) rfl rfl (by decide) (fun a c hc=>by simp at hc;rcases hc with rfl|rfl|rfl|rfl<;>simp) (fun a=>rfl)
    ·exact bO.gZ (T:=50) rfl rfl (by decide) (fun a c hc=>by simp at hc;rcases hc with rfl|rfl<;>simp) (fun a=>rfl)
theorem Qn(b:l8)(l m:List Nt)(hl:pK l)(he:(pg b l).1=0)(hm:m.Sublist l):Pure Tryz.prog 64 [.agg b.cs,Ad m] (.agg (oV b m).cs):=by
 obtain⟨h1,h2,h3,_⟩:=C6 he
 obtain⟨g1,g2⟩:=tL h1.1
 refine KA b m ⟨Nat.lt_of_le_of_lt hm.length_le hl.1,fun a ha=>hl.2 a (hm.subset ha)⟩ (bT hm.length_le h2) ((GO he).sublist (hm.map _)) (by omega) (fun s hs=>by have:=g2 s hs;omega) (fun a ha hk=>?_) h1.1 (fun a ha hk=>?_)
 ·obtain⟨k1,k2,k3,k4⟩:=NH (h3 a (hm.subset ha)) hk
  exact⟨by omega,by omega,by omega,by omega⟩
 ·have g:=(h3 a (hm.subset ha)).2.2.2.2
  unfold Nt.AP at g
  rw[if_neg (by omega),if_neg (by omega),if_neg (by omega),if_pos hk]at g
  exact g.1.1
theorem KB(b:l8)(hb:mq b)(l:List Nt)(hl:pK l):Pure Tryz.prog 23 [.agg b.cs,Ad l] (.iu [.agg (sS b l).1.cs,n (sS b l).2]):=by
 refine jX Tryz.f23.eq_1 [] [] ?_
 have h1:=GK b hb [l] (by simp) (by simpa using hl)
 by_cases ha:lV b [l]=0
 ·have hE:sS b l=(oV b l,0):=by unfold sS;rw[if_neg (by omega)]
  rw[hE]
  rw[ha]at h1
  have h2:=Qn b l l hl ((BI ha).2 l (by simp)) (List.Sublist.refl _)
  generalize oV b l=r at h2
  refine Ay (aa @h1 @h2) ?_;intros
  exact bO.mY ⟨bO.pure (HE r),bO.pure (by simp),trivial⟩
 ·have hE:sS b l=(Jy,lV b [l]):=by unfold sS;rw[if_pos ha]
  rw[hE]
  generalize lV b [l]=e at h1 ha
  refine Ay @h1 ?_;intros
  exact bO.mY ⟨bO.mX ⟨bO.g_,bO.g_,bO.g_,bO.g_,trivial⟩,bO.pure (by simp),trivial⟩
theorem zX(x y:dm):Pure Tryz.prog 70 [.agg x.cs,.agg y.cs] (n (vR x.fB y.fB)):=by
 refine jX Tryz.f70.eq_1 [] [] ?_
 refine Ay (j6 x.fB y.fB) ?_;intros
 exact Fq
def RE(K:List dm->Prop):Prop:=∀(σ:aG) (f:Nat) (l:List dm),K l->σ.at f 0=some ⟨66,24,l.map dm.cs,none⟩->
 eY Tryz.prog 69 [.own f 0 l.length,.fn (.func 70) [] []] σ (fun _ σ'=>σ'=σ.cZ f 0 ⟨66,24,(sB l).map dm.cs,none⟩)
theorem wC(a:dm):∀l,(rl a l).Perm (a::l)
 | []=>.refl _
 |x::r=>by
  unfold rl
  split
  ·exact .refl _
  ·exact((wC a r).cons x).trans (.swap a x r)
theorem wD(l:List dm):(sB l).Perm l:=by
 have:∀(l o:List dm),(l.foldl (fun o a=>rl a o) o).Perm (l++o):=by
  intro l
  induction l with
  |nil=>exact fun o=>.refl _
  |cons a r ih=>exact fun o=>(ih _).trans (((wC a o).append_left r).trans List.perm_middle)
 have:=this l []
 rwa[bb]at this
theorem KC{K:List dm->Prop}(hK:RE K)(b:l8)(hb:mq b)(r:FU)(w:Int)(hs:K (r.aS.filter fun f=>f.week==w))(hl:r.dh.length*48<=140737488355328)(hh:∀s∈r.dh,s.cz.length*24<=140737488355328)(Dd:∀f∈r.aS,V9 f)(h1:r.aS.length<274877906944)(h2:r.reads.length<1099511627776):Pure Tryz.prog 25 [.agg b.cs,.agg r.cs,n w] (.iu [.agg (mW b r w).1.cs,n (mW b r w).2]):=by
 refine et 84 (jo [jx 3 26 6 0,jx 4 36 4 1,jw 6 (.alloc 38 9 [.slice none 0 0,.int .i64 0,.int .i64 0,.int .i64 0,.int .i64 0,.int .i64 0,.int .i64 0,.slice none 0 0,.slice none 0 0]),jc 7 0] [2,3,4,6] (.seq (jo [jk 14 6 3,jy 15 65 [14],jm 8 15] [2,3,4,6,8] (jo [jm 16 8,ju .neq 17 16 0] [2,3,4,6,8,17] (.cond (.t 17) (jo [jw 18 (.build [.slice none 0 0,.int .i64 0,.int .i64 0,.int .i64 0,.int .i64 0,.int .i64 0,.int .i64 0,.slice none 0 0,.slice none 0 0] []),jm 19 8,js 9 6 18,jm 7 19] [6,7] .ret) .skip))) (.seq (jo [jm 20 2,jw 21 (.call (.f 66) [(.t 20),(.c (.int .i64 0)),(.c (.int .i64 10000))]),jv 22 21] [2,3,4,6,22] (.cond (.t 22) (jo [jw 23 (.build [.slice none 0 0,.int .i64 0,.int .i64 0,.int .i64 0,.int .i64 0,.int .i64 0,.int .i64 0,.slice none 0 0,.slice none 0 0] []),js 9 6 23,jc 7 1] [6,7] .ret) .skip)) (jo [jk 24 6 3,jm 25 2,jw 26 (.build [.slice none 0 0,.int .i64 0,.int .i64 0,.int .i64 0,.int .i64 0,.int .i64 0,.int .i64 0,.slice none 0 0,.slice none 0 0] [(0,6,(.t 24)),(6,1,(.t 25))]),jw 9 (.alloc 38 9 [.slice none 0 0,.int .i64 0,.int .i64 0,.int .i64 0,.int .i64 0,.int .i64 0,.int .i64 0,.slice none 0 0,.slice none 0 0]),js 9 9 26] [2,4,6,9] (jo [jf 27 2 4,jl 28 27,jy 29 67 [28],jf 30 0 9,jf 31 0 30,js 1 31 29] [2,4,6,9] (.seq (jo [jf 32 0 4,jl 33 32,je 34 33,jc 35 0] [2,4,6,9,33,34,35] (.block 0 (.loop (jo [jt .lss 36 35 34] [2,4,6,9,33,34,35,36] (.seq (.cond (.t 36) .skip (.exit 0)) (.seq (.block 1 (jo [ji 37 24 33 35,jk 38 24 37,jw 11 (.alloc 66 24 z24),js 24 11 38] [2,4,6,9,11,33,34,35] (jo [jf 39 3 11,jl 40 39,jm 41 2,jt .eql 42 40 41] [2,4,6,9,11,33,34,35,42] (.cond (.t 42) (.draw [jf 43 7 9,jl 44 43,jk 45 24 11,jy 46 68 [45],jw 47 (.jR false 66 24 1 z24 [(0,24,(.t 46))])] [jw 48 (.app 66 24 288 (.t 44) (.t 47)),jf 49 7 9,js 1 49 48] [2,4,6,9,33,34,35]) .skip)))) (.ops [ju .add 50 35 1,jm 35 50] [2,4,6,9,33,34,35]))))))) (jo [jf 51 7 9,jl 52 51,jw 53 (.call (.f 69) [(.t 52),(.f 70)])] [2,4,6,9] (.seq (jo [jf 54 1 4,jl 55 54,je 56 55,jc 57 0] [2,6,9,55,56,57] (.block 2 (.loop (jo [jt .lss 58 57 56] [2,6,9,55,56,57,58] (.seq (.cond (.t 58) .skip (.exit 2)) (.seq (.block 3 (jo [ji 59 5 55 57,jk 60 5 59,jw 13 (.alloc 71 5 [.int .i64 0,.int .i64 0,.int .i64 0,.int .i64 0,.int .i64 0]),js 5 13 60] [2,6,9,13,55,56,57] (jo [jf 61 1 13,jl 62 61,jm 63 2,jt .eql 64 62 63] [2,6,9,13,55,56,57,64] (.cond (.t 64) (.ops [jf 65 8 9,jl 66 65,jk 67 5 13,jw 68 (.jR false 71 5 1 [.int .i64 0,.int .i64 0,.int .i64 0,.int .i64 0,.int .i64 0] [(0,5,(.t 67))]),jw 69 (.app 71 5 40 (.t 66) (.t 68)),jf 70 8 9,js 1 70 69] [2,6,9,55,56,57]) .skip)))) (.ops [ju .add 71 57 1,jm 57 71] [2,6,9,55,56,57]))))))) (.seq (jo [jf 72 7 9,jl 73 72,je 74 73,ju .gtr 75 74 64,jm 76 75,jd 76 (jf 77 8 9),jd 76 (jl 78 77),jd 76 (je 79 78),jd 76 (ju .gtr 80 79 64),jq 81 76 80] [6,9,81] (.cond (.t 81) (jo [jw 82 (.build [.slice none 0 0,.int .i64 0,.int .i64 0,.int .i64 0,.int .i64 0,.int .i64 0,.int .i64 0,.slice none 0 0,.slice none 0 0] []),js 9 6 82,jc 7 2] [6,7] .ret) .skip)) (jo [jk 83 9 9,js 9 6 83,jc 7 0] [6,7] .ret)))))))))) [.c 6 (some 9),.t 7] Tryz.call25 Tryz.func25 ?_
 have Es:=oi b hb
 by_cases KD:b.ok
 ·rw[if_pos KD]at Es
  by_cases hw:inr w 0 10000
  ·simp only[inr]at hw
   iterate 9
    refine aeD (aa @Es (e8 w 0 10000)) ?_;intros
   refine aeD (aa @Es (e8 w 0 10000)) ?_;intros
   all_goals try(exfalso;omega)
   iterate 2
    refine aeD (aa @Es (e8 w 0 10000)) ?_;intros
   refine aR.lH 66 24 (f:=1) (i:=0) (e:=0) (j:=7) rfl (by simp) rfl ?_
   refine aR.lH 71 5 (f:=1) (i:=0) (e:=0) (j:=8) rfl (by simp) rfl ?_
   refine aR.pQ (σ':=[some [⟨38,9,[[.v (.slice none 0 0),n 0,n 0,n 0,n 0,n 0,n 0,.v (.slice none 0 0),.v (.slice none 0 0)]],none⟩],some [⟨38,9,[[KY b.dh,n b.fixed,n b.each,n b.term,n b.bD,n b.tF,n w,.own 2 0 0,.own 3 0 0]],none⟩],some [⟨66,24,[],none⟩],some [⟨71,5,[],none⟩]]) rfl ?_
   refine Au ?_;intros
   refine .inr (.inl ⟨_,_,_,_,rfl,fun _=>⟨ny r.dh hl hh _,?_⟩,fun h=>by cases h⟩)
   rintro r1 lN ⟨ν,rfl,rfl⟩
   refine aH ?_
   refine adL ?_
   refine Au ?_;intros
   refine aR.mT (α:={x:Nat×List dm×aG//x.1<=r.aS.length/\x.2.1=(r.aS.take x.1).filter fun f=>f.week==w}) [35] (fun x=>[(35,n x.1.1)])
    (fun x=>some [⟨38,9,[[.v (.slice none 0 0),n 0,n 0,n 0,n 0,n 0,n 0,.v (.slice none 0 0),.v (.slice none 0 0)]],none⟩]::some [⟨38,9,[[.own 4 0 r.dh.length,n b.fixed,n b.each,n b.term,n b.bD,n b.tF,n w,.own 2 0 x.1.2.1.length,.own 3 0 0]],none⟩]::some [⟨66,24,x.1.2.1.map dm.cs,none⟩]::some [⟨71,5,[],none⟩]::some [⟨118,4,r.dh.map j3.cs,none⟩]::x.1.2.2)
    (fun x=>r.aS.length-x.1.1) ⟨(0,[],ν),aQ _,rfl⟩ ?_ rfl ?_
   ·exact Sb_
   ·rintro⟨⟨i,S,μ⟩,hi,hS⟩
    simp only at hi hS
    obtain⟨d,hd⟩:∃d:dm,True:=⟨⟨Ct,0,0,Jx,[],[]⟩,trivial⟩
    have tQ:S.length<=r.aS.length:=by rw[hS];exact bT (bK _ _) (by rw[bH];omega)
    by_cases bP:i<r.aS.length
    ·generalize hM:S.map dm.cs=M
     have A_:M.length=S.length:=by rw[<-hM,aF]
     have hx:(r.aS.map dm.cs).getD i []=dm.cs (r.aS.getD i d):=row d bP
     have hN:=o5 (q:=fun f:dm=>f.week==w) (fh d bP)
     rw[<-hS]at hN
     have Yn:=vY (r.aS.getD i d) (Dd _ (ao (fh d bP)))
     generalize r.aS.getD i d=x at hx hN Yn
     by_cases Ow:x.week=w
     ·rw[show(x.week==w)=true by simp[Ow],if_pos rfl]at hN
      refine Az (aa @hx (aa @A_ @Ow)) @Yn ?_;intros
      refine⟨⟨(i+1,S++[x],μ++[some [⟨66,24,[x.cs],none⟩]]),bP,hN.symm⟩,by simp,?_,by simp only;omega⟩
      simp[<-hM]
     ·rw[show(x.week==w)=false by simp[Ow],if_neg (by decide)]at hN
      refine Az (aa @hx (aa @A_ @Ow)) @Yn ?_;intros
      refine⟨⟨(i+1,S,μ++[some [⟨66,24,[x.cs],none⟩]]),bP,hN.symm⟩,by simp,?_,by simp only;omega⟩
      simp[<-hM]
    ·obtain rfl:i=r.aS.length:=by omega
     rw[aI]at hS
     refine Au ?_;intros
     refine .inr (.inl ⟨_,_,_,_,rfl,fun _=>⟨hK _ 2 S (by rw[hS];exact hs) rfl,?_⟩,fun h=>by cases h⟩)
     rintro r1 lN rfl
     refine aH ?_
     have V':(sB S).length=S.length:=(wD S).length_eq
     refine adL ?_
     generalize hT:sB S=T at V'
     rw[<-V']
     rw[<-V']at tQ
     refine Au ?_;intros
     refine aR.mT (α:={x:Nat×List Rd×aG//x.1<=r.reads.length/\x.2.1=(r.reads.take x.1).filter fun f=>f.week==w}) [57] (fun x=>[(57,n x.1.1)])
      (fun x=>some [⟨38,9,[[.v (.slice none 0 0),n 0,n 0,n 0,n 0,n 0,n 0,.v (.slice none 0 0),.v (.slice none 0 0)]],none⟩]::some [⟨38,9,[[.own 4 0 r.dh.length,n b.fixed,n b.each,n b.term,n b.bD,n b.tF,n w,.own 2 0 T.length,.own 3 0 x.1.2.1.length]],none⟩]::some [⟨66,24,T.map dm.cs,none⟩]::some [⟨71,5,x.1.2.1.map Rd.cs,none⟩]::some [⟨118,4,r.dh.map j3.cs,none⟩]::x.1.2.2)
      (fun x=>r.reads.length-x.1.1) ⟨(0,[],μ),aQ _,rfl⟩ ?_ rfl ?_
     ·exact Sb_
     ·rintro⟨⟨i,R,μ⟩,hi,hR⟩
      simp only at hi hR
      have PX:R.length<=r.reads.length:=by rw[hR];exact bT (bK _ _) (by rw[bH];omega)
      by_cases bP:i<r.reads.length
      ·generalize hM:R.map Rd.cs=M
       have A_:M.length=R.length:=by rw[<-hM,aF]
       have hx:(r.reads.map Rd.cs).getD i []=Rd.cs (r.reads.getD i KZ):=row KZ bP
       have hN:=o5 (q:=fun f:Rd=>f.week==w) (fh KZ bP)
       rw[<-hR]at hN
       generalize r.reads.getD i KZ=x at hx hN
       by_cases Ow:x.week=w
       ·rw[show(x.week==w)=true by simp[Ow],if_pos rfl]at hN
        refine Ax (aa @hx (aa @A_ @Ow)) ?_;intros
        refine⟨⟨(i+1,R++[x],μ++[some [⟨71,5,[x.cs],none⟩]]),bP,hN.symm⟩,by simp,?_,by simp only;omega⟩
        simp[<-hM,Ow]
       ·rw[show(x.week==w)=false by simp[Ow],if_neg (by decide)]at hN
        refine Ax (aa @hx (aa @A_ @Ow)) ?_;intros
        refine⟨⟨(i+1,R,μ++[some [⟨71,5,[x.cs],none⟩]]),bP,hN.symm⟩,by simp,?_,by simp only;omega⟩
        simp[<-hM]
      ·obtain rfl:i=r.reads.length:=by omega
       rw[aI]at hR
       have ur:pI b r w=⟨{b with dh:=r.dh},w,T,R⟩:=by unfold pI;rw[hR,<-hT,hS]
       by_cases K_:64<T.length\/64<R.length
       ·have hE:mW b r w=(Pd,2):=by unfold mW;rw[if_neg (fun h=>h KD),if_neg (fun h=>h hw),ur];exact if_pos K_
        rw[hE]
        refine Au ?_;intros
        all_goals exact bO.mY ⟨bO.mX ⟨bO.g_,bO.pure (by simp),bO.pure (by simp),bO.pure (by simp),bO.pure (by simp),bO.pure (by simp),bO.pure (by simp),bO.g_,bO.g_,trivial⟩,bO.pure (by simp),trivial⟩
       ·have hE:mW b r w=(pI b r w,0):=by unfold mW;rw[if_neg (fun h=>h KD),if_neg (fun h=>h hw),ur];exact if_neg K_
        rw[hE,ur]
        refine Au ?_;intros
        all_goals exact bO.mY ⟨bO.mX ⟨bO.gZ (T:=118) (cs:=j3.cs) rfl rfl (by decide) NL (fun a=>rfl),bO.pure (by simp),bO.pure (by simp),bO.pure (by simp),bO.pure (by simp),bO.pure (by simp),bO.pure (by simp),bO.gZ (T:=66) (cs:=dm.cs) rfl rfl (by decide) (fun a=>dm.pc a) (fun a=>rfl),bO.gZ (T:=71) (cs:=Rd.cs) rfl rfl (by decide) RD (fun a=>rfl),trivial⟩,bO.pure (by simp),trivial⟩
  ·have hE:mW b r w=(Pd,1):=by unfold mW;rw[if_neg (fun h=>h KD),if_pos hw]
   rw[hE]
   simp only[inr]at hw
   refine Ay (aa @Es (e8 w 0 10000)) ?_;intros
   all_goals exact bO.mY ⟨bO.mX ⟨bO.g_,bO.pure (by simp),bO.pure (by simp),bO.pure (by simp),bO.pure (by simp),bO.pure (by simp),bO.pure (by simp),bO.g_,bO.g_,trivial⟩,bO.pure (by simp),trivial⟩
 ·rw[if_neg KD]at Es
  have hE:mW b r w=(Pd,100):=by unfold mW;rw[if_pos KD]
  rw[hE]
  refine Ay @Es ?_;intros
  all_goals exact bO.mY ⟨bO.mX ⟨bO.g_,bO.pure (by simp),bO.pure (by simp),bO.pure (by simp),bO.pure (by simp),bO.pure (by simp),bO.pure (by simp),bO.g_,bO.g_,trivial⟩,bO.pure (by simp),trivial⟩
end Go.Proofs.YtgopgjnfhkoomaaGreat
