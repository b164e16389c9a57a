/- Part 2 of the texts: abstract values over the walk; contracts. -/
import Derived.Test.YtgopgjnfhkoomaaGreatBu1
import Derived.Laws.StructEq
import Derived.MapKept
import Derived.RangeFuncRecord
import Derived.Laws.CopyRow
import Derived.Laws.IdiomCopy
import Derived.OrdersIn
import Derived.RangeFuncLeaves
import Derived.RangeFuncCalls
set_option linter.unusedVariables false
set_option linter.unusedSimpArgs false
namespace Go.Abs
theorem mO{α:Type}(l vs:List α)(p q:Nat)(d:α)(h:p+vs.length<=l.length):(l.take p++vs++l.drop (p+vs.length)).getD q d=if p<=q/\q<p+vs.length then vs.getD (q-p) d else l.getD q d:=by
 simp only[ab]
 by_cases h1:q<p
 ·rw[if_neg (by omega),aW,cy (by simp;omega),dk,if_pos h1]
 ·by_cases h2:q<p+vs.length
  ·rw[if_pos ⟨by omega,h2⟩,cy (by simp;omega),bE (by simp;omega)]
   simp[show min p l.length=p by omega]
  ·rw[if_neg (by omega),bE (by simp;omega),ez]
   congr 2
   simp;omega
theorem Ap(cs:List AV)(j:Nat)(xs:List AV)(h:j+xs.length<=cs.length):(jL cs j xs).length=cs.length:=by
 unfold jL;simp;omega
theorem uc{e e' k:Nat}(h:e<e'):e*k+k<=e'*k:=by
 have:=cj k (show e+1<=e' by omega)
 rw[cP]at this;omega
section
variable {P:Program} {o:Oper} {ρ:Operand->Value} {w w':World} {X:Nat->Prop} {β:gr} {σ:aG} {v:O->AV}
theorem Bn{ob ob':Ob}{f i:Nat}{n:Next}{x:Value}{r:AV}(hs:dG w X β σ)(hX:∀b,X b->b<w.heap.size)(ho:σ.at f i=some ob)(hk:ob.k=ob'.k)(hl:ob.es.length=ob'.es.length)(ht:ss w β f i (β f i) w')(fe:∀b,β f i=some b->dM w w' b)(hr:(execOp ρ o).run P w=.ok n w')(hn:n=.value x\/n=.skip/\x=undef)(ic:pk w' (Xt X (sE β f i (β f i)) (σ.cZ f i ob')) (sE β f i (β f i)) (σ.cZ f i ob') (β f i) ob')(hx:RV w' (Xt X (sE β f i (β f i)) (σ.cZ f i ob')) (sE β f i (β f i)) (σ.cZ f i ob') r x):fi P o ρ w X β σ r (σ.cZ f i ob'):=
 ⟨n,x,w',sE β f i (β f i),hr,hn,hs.jM hX ho ht hk (dS hl) (fun _=>⟨rfl,fe⟩) ic,
  Kp.jM hs ho ht hk (dS hl) (fun _=>⟨rfl,fe⟩),Ext.jM ho ht,hx⟩
theorem qL{b:Nat}{c c':Array Value}{T:TypeId}{f i:Nat}(_hc:w.heap[b]?=some (.cells c T (0,0)))(hb:β f i=some b):ss w β f i (β f i) (w.setRow b c')where
 size:=by rw[setRow_size];exact ar _
 wJ b' _ iw:=setRow_other w b b' c' (fun e=>iw (by rw[hb,e]))
 at_ b' h:=.inl h
 io:=⟨rfl,rfl,rfl,(by first|exact ar _|exact cO _)⟩
theorem yn{ob:Ob}{f i e j bl:Nat}{c:Array Value}{xs:List AV}{ys:List Value}{nx:Next}{x:Value}{r:AV}(hs:dG w X β σ)(hX:∀b,X b->b<w.heap.size)(dQ:σ.at f i=some ob)(l7:β f i=some bl)(RT:e<ob.es.length)(eN:w.heap[bl]?=some (.cells c ob.T (0,0)))(eX:ob.es.length*ob.k<=c.size)(jN:∀e j,e<ob.es.length->j<ob.k->(c.getD (e*ob.k+j) undef).oneCell'=true)(hr:∀e j,e<ob.es.length->j<ob.k->RV w (Xt X β σ) β σ ((ob.es.getD e []).getD j .any) (c.getD (e*ob.k+j) undef))(hj:j+xs.length<=ob.k)(vv:RL w (Xt X β σ) β σ xs ys)(eA:(execOp ρ o).run P w=.ok nx (w.setRow bl (c.toList.take (e*ob.k+j)++ys++c.toList.drop (e*ob.k+j+ys.length)).toArray))(l_:nx=.value x\/nx=.skip/\x=undef)(hx:r=.any\/r=.v x):fi P o ρ w X β σ r (σ.cZ f i {ob with es:=ob.es.set e (jL (ob.es.getD e []) j xs)}):=by
 have ic:=hs.obj f i ob dQ
 have nB:=ic.nA (e:=e) RT
 have cX:=ic.1 e RT
 have tc:e*ob.k+ob.k<=c.size:=bT (iE RT) eX
 have xM:ys.length=xs.length:=vv.1
 generalize yo:(c.toList.take (e*ob.k+j)++ys++c.toList.drop (e*ob.k+j+ys.length)).toArray=c' at eA
 have ud:c'.size=c.size:=by rw[<-yo];simp at xM|-;omega
 have kF:∀q,c'.getD q undef=if e*ob.k+j<=q/\q<e*ob.k+j+xs.length then ys.getD (q-(e*ob.k+j)) undef else c.getD q undef:=by
  intro q
  have:=mO c.toList ys (e*ob.k+j) q undef (by simp at xM|-;omega)
  rw[xM]at this
  rw[<-yo,xM]
  simpa[ab,af]using this
 have fe:∀b',β f i=some b'->dM w (w.setRow bl c') b':=by
  intro b' oz c0 T0 h0
  rw[l7]at oz;injection oz with oz;subst oz
  rw[eN]at h0;injection h0 with h0;injection h0 with h0;subst h0
  exact⟨c',ob.T,setRow_heap w bl c c' ob.T (0,0) eN,ud⟩
 let ob':Ob:={ob with es:=ob.es.set e (jL (ob.es.getD e []) j xs)}
 have D9:=qL (c':=c') eN l7
 have K:Kp w (Xt X β σ) β σ (w.setRow bl c') (Xt X (sE β f i (β f i)) (σ.cZ f i ob')) (sE β f i (β f i)) (σ.cZ f i ob'):=
  Kp.jM hs dQ D9 rfl (by simp[ob']) (fun _=>⟨rfl,fe⟩)
 have QP:∀e',(ob.es.set e (jL (ob.es.getD e []) j xs)).getD e' []=if e'=e then jL (ob.es.getD e []) j xs else ob.es.getD e' []:=by
  intro e'
  rw[ab,bX]
  by_cases I4:e=e'
  ·subst I4;simp[RT]
  ·rw[if_neg I4,if_neg (fun h=>I4 h.symm),ab]
 have hinv:∀e' j',e'<ob.es.length->j'<ob.k->(e*ob.k+j<=e'*ob.k+j'/\e'*ob.k+j'<e*ob.k+j+xs.length↔e'=e/\j<=j'/\j'<j+xs.length):=by
  intro e' j' mB o9
  constructor
  ·rintro⟨g1,g2⟩
   rcases gO e' e with h|h|h
   ·have:=uc (k:=ob.k) h;omega
   ·subst h;omega
   ·have:=uc (k:=ob.k) h;omega
  ·rintro⟨rfl,g1,g2⟩;omega
 refine Bn (ob':=ob') hs hX dQ rfl (by simp[ob']) D9 fe eA l_ ⟨fun e' mB=>?_,?_⟩ (by rcases hx with rfl|rfl<;>first|exact .any _|exact .v _)
 ·simp only[ob',cK]at mB
  simp only[ob',QP]
  split
  ·rw[Ap _ _ _ (by omega)];exact cX
  ·exact ic.1 e' mB
 ·rw[l7]
  refine⟨fun _=>⟨c',setRow_heap w bl c c' ob.T (0,0) eN,by simp only[ob',cK,ud];exact eX,fun e' j' mB o9=>?_,fun e' j' mB o9=>?_⟩,fun r h=>(by simp only[ob']at h;rw[nB]at h;cases h)⟩
  ·simp only[ob',cK]at mB o9|-
   rw[kF]
   split
   ·rename_i hq
    exact(vv.2 _ (by omega)).1
   ·exact jN e' j' mB o9
  ·simp only[ob',cK]at mB o9
   rw[l7]at K
   simp only[ob',QP]
   rw[kF]
   by_cases hq:e'=e/\j<=j'/\j'<j+xs.length
   ·rw[if_pos ((hinv e' j' mB o9).2 hq),if_pos hq.1]
    have e2:=mO (ob.es.getD e []) xs j j' AV.any (by omega)
    unfold jL
    rw[e2,if_pos hq.2]
    have:=((vv.2 (j'-j) (by omega)).2).tr K
    obtain⟨rfl,_,_⟩:=hq
    rw[show e'*ob.k+j'-(e'*ob.k+j)=j'-j by omega]
    exact this
   ·rw[if_neg (fun h=>hq ((hinv e' j' mB o9).1 h))]
    have h3:=(hr e' j' mB o9).tr K
    by_cases I4:e'=e
    ·rw[if_pos I4]
     subst I4
     have e2:=mO (ob.es.getD e' []) xs j j' AV.any (by omega)
     unfold jL
     rw[e2,if_neg (fun h=>hq ⟨rfl,h⟩)]
     exact h3
    ·rw[if_neg I4];exact h3
theorem Lm{S:Prop}{r:AV}{σ':aG}{s:Nat}{y z:O}(hc:ck P o.op (.store s y z)=true)(hs:dG w X β σ)(hX:∀b,X b->b<w.heap.size)(hv:∀x u,dt x u=true->RV w (Xt X β σ) β σ (v u) (ρ x))(he:ex (.store s y z) v σ=some (S,r,σ'))(hS:S):fi P o ρ w X β σ r σ':=by
 cases fv:o.op<;>rw[fv]at hc<;>try(simp[ck]at hc;done)
 rename_i t a b
 simp only[ck,ak,beq_iff_eq]at hc
 obtain⟨⟨h1,h2⟩,h3⟩:=hc
 have ha:=hv a y h1
 have hb:=hv b z h2
 have hx:execOp ρ o=(do Instr.storeAt t (ρ a) (ρ b);pure .skip):=by unfold execOp;rw[fv]
 simp only[ex]at he
 generalize v y=vy at ha he
 generalize v z=vz at hb he
 generalize jS:ρ a=qa at ha
 split at he
 case h_2=>cases he
 rename_i f i n e j xs vx
 simp only[obj]at he
 cases dQ:σ.at f i with
 |none=>rw[dQ]at he;simp at he
 |some ob=>
 rw[dQ]at he
 simp only at he
 split at he
 case isFalse=>cases he
 rename_i hlen
 simp only[ah,aw]at he
 obtain⟨rfl,rfl,rfl⟩:=he
 obtain⟨hn,RT,hj⟩:=hS
 have vv:=vt hb vx
 cases ha with
 |ptr _ _ _ _ _ _ Mr hf hle h=>
 obtain⟨bl,l7,rfl⟩:=h ob dQ hn
 have ic:=hs.obj f i ob dQ
 have F7:=ic.2
 rw[l7]at F7
 have nB:=ic.nA (e:=e) (by omega)
 obtain⟨c,eN,eX,jN,hr⟩:=F7.1 nB
 have cX:=ic.1 e (by omega)
 have tc:e*ob.k+ob.k<=c.size:=bT (iE (by omega)) eX
 have xM:(ρ b).cells.toList.length=xs.length:=vv.1
 obtain⟨ie,qE,HR⟩:=fS h3
 have N9:∀u∈(ρ b).cells.toList,u.oneCell'=true:=by
  intro u hu
  obtain⟨q,hq,rfl⟩:=iB hu
  have:=(vv.2 q (by omega)).1
  rw[ab,ae hq]at this
  exact this
 have cn:=run_storeCells_at P bl (e*ob.k+j) ob.T (ρ b).cells.toList 0 c w eN (by omega) N9
 rw[eE]at cn
 refine yn (x:=undef) hs hX dQ l7 (by omega) eN eX jN hr (by omega) vv ?_ (.inr ⟨rfl,rfl⟩) (.inl rfl)
 rw[hx,jS]
 have e1:¬((ρ b).cells.size≠ie.size):=by simp at xM|-;omega
 have hs2:(Instr.storeAt t (.pointer (some ⟨bl,e*ob.k+j,none⟩)) (ρ b)).run P w=.ok () (w.setRow bl (c.toList.take (e*ob.k+j)++(ρ b).cells.toList++c.toList.drop (e*ob.k+j+(ρ b).cells.toList.length)).toArray):=by
  simp only[Instr.storeAt,Instr.sureAddr,pure_bind,storeVar,bx,sizeOf,typeInfo,run_program,bg,qE,dD,if_neg e1]
  exact cn
 simp only[bx,hs2,bg,dD]
theorem px{a:AV}{x:Value}{p:Prop}{xs:List (List AV)}{k:Nat}(hs:dG w X β σ)(h:RV w (Xt X β σ) β σ a x)(he:elems σ a=some (p,xs))(hp:p)(hk:∀e,e<xs.length->(xs.getD e []).length=k):(xs=[]/\∃q c,x=.slice q 0 c)\/∃b off cap,x=.slice (some ⟨b,off,none⟩) xs.length cap/\∃f:Nat->Nat->Value,(∀e j,e<xs.length->j<k->w.cell? ⟨b,off+e*k+j,none⟩=some (f e j)/\(f e j).oneCell'=true/\RV w (Xt X β σ) β σ ((xs.getD e []).getD j .any) (f e j)):=by
 unfold elems at he
 split at he
 ·rename_i k0 es0
  simp only[ah,aw]at he
  obtain⟨rfl,rfl⟩:=he
  cases h with
  |slnil=>exact .inl ⟨rfl,_,_,rfl⟩
  |k9=>exact .inl ⟨rfl,_,_,rfl⟩
  |sl _ _ b off cap f ep xu hc hX h1 hr=>
   refine .inr ⟨b,off,cap,rfl,f,fun e j he hj=>?_⟩
   have vg:k0=k:=by rw[<-xu e he,hk e he]
   subst vg
   exact⟨hc e he j hj,h1 e j he hj,hr e j he hj⟩
 ·rename_i f i n
  split at he
  case h_2=>cases he
  rename_i ob dQ
  simp only[ah,aw]at he
  obtain⟨rfl,rfl⟩:=he
  have ic:=hs.obj f i ob dQ
  cases h with
  |own _ _ _ _ Mr hf hle h=>
   have h':=h ob dQ hp
   unfold kD at h'
   have h2:=ic.2
   cases hb:β f i with
   |none=>
    rw[hb]at h'
    exact .inl ⟨h'.1,_,_,h'.2⟩
   |some b=>
    rw[hb]at h' h2
    obtain⟨cap,c0,T0,rfl,YS,_⟩:=h'
    rw[hb]at ic
    obtain⟨c,eN,eX,jN,hr⟩:=h2.1 (ic.ya YS)
    refine .inr ⟨b,0,cap,rfl,fun e j=>c.getD (e*ob.k+j) undef,fun e j he hj=>?_⟩
    have vg:ob.k=k:=by rw[<-ic.1 e he,hk e he]
    subst vg
    have:=iE (k:=ob.k) he
    refine⟨?_,jN e j he hj,hr e j he hj⟩
    rw[cell_of_row w b _ c _ _ eN]
    simp[af,show e*ob.k+j<c.size by omega]
 ·simp only[ah,aw]at he
  obtain⟨rfl,rfl⟩:=he
  obtain rfl:=h.dz
  exact .inl ⟨rfl,_,_,rfl⟩
 ·cases he
def flat(f:Nat->Nat->Value)(n k:Nat):List Value:=(List.range (n*k)).map fun q=>f (q/k) (q % k)
theorem rR(f:Nat->Nat->Value)(n k e j:Nat)(he:e<n)(hj:j<k):(flat f n k).getD (e*k+j) undef=f e j:=by
 have h:=iE (k:=k) he
 have h1:(e*k+j)/k=e:=by
  rw[jj,Nat.mul_add_div (by omega),Nat.div_eq_of_lt hj];simp
 have h2:(e*k+j) % k=j:=by
  rw[jj,Nat.mul_add_mod,A3 hj]
 simp[flat,ab,cH (show e*k+j<n*k by omega),h1,h2]
theorem mP(f:Nat->Nat->Value)(n k:Nat):(flat f n k).length=n*k:=by simp[flat]
theorem rS{f:Nat->Nat->Value}{n k b off:Nat}(hk:k≠0)(h:∀e j,e<n->j<k->w.cell? ⟨b,off+e*k+j,none⟩=some (f e j)):∀q u,(flat f n k)[q]?=some u->w.cell? ((⟨b,off,none⟩:Addr).add q)=some u:=by
 intro q u hq
 obtain⟨bP,hu⟩:=ai.1 hq
 rw[mP]at bP
 have h1:q/k<n:=Nat.div_lt_of_lt_mul (by rw[jj];exact bP)
 have h2:q % k<k:=Nat.mod_lt _ (by omega)
 have h3:=h _ _ h1 h2
 have h4:q/k*k+q % k=q:=Nat.div_add_mod' q k
 rw[c9,show off+q=off+q/k*k+q % k by omega,h3]
 simp only[flat,cC,fJ]at hu
 rw[hu]
theorem ni{t ty e:TypeId}{i:TypeInfo}(ht:P.underlying t=some (.slice e))(hi:P.info? e=some i){base q:Option Addr}{abG ab_ c:Nat}(hle:abG<=ab_):(Builtin.append_ #[t,t] ty #[.slice base abG ab_,.slice q 0 c]).run P w=.ok (.slice base abG ab_) w:=by
 cases q<;>cases base<;>simp[Builtin.append_,run_underlying ht,sizeOf,typeInfo,hi,Builtin.lenOf,hle,Builtin.firstCells,loadCells,loadCellsFrom,storeCells]
theorem gU(z:Array Value)(n:Nat):(Builtin.zeroCells z n).size=n*z.size:=by simp[Builtin.zeroCells]
theorem Bo{ob ob':Ob}{f i:Nat}{c:Array Value}{x:Value}{r:AV}(hs:dG w X β σ)(hX:∀b,X b->b<w.heap.size)(ho:σ.at f i=some ob)(hk:ob.k=ob'.k)(hl:ob.es.length<ob'.es.length)(nB:ob'.lp=none)(hh:w'.heap=w.heap.push (.cells c ob'.T (0,0)))(hr:(execOp ρ o).run P w=.ok (.value x) w')(cX:∀e,e<ob'.es.length->(ob'.es.getD e []).length=ob'.k)(eX:ob'.es.length*ob'.k<=c.size)(hc:∀e j,e<ob'.es.length->j<ob'.k->(c.getD (e*ob'.k+j) undef).oneCell'=true/\RV w (Xt X β σ) β σ ((ob'.es.getD e []).getD j .any) (c.getD (e*ob'.k+j) undef))(hx:RV w' (Xt X (sE β f i (some w.heap.size)) (σ.cZ f i ob')) (sE β f i (some w.heap.size)) (σ.cZ f i ob') r x)(io:Still w w':=by exact⟨rfl,rfl,rfl,(by first|exact ar _|exact cO _)⟩):fi P o ρ w X β σ r (σ.cZ f i ob'):=by
 have ht:ss w β f i (some w.heap.size) w':=⟨iL hh,fun b hb _=>jF hh hb,fun b hb=>.inr (by injection hb with hb;omega),io⟩
 have iw:ob.es.length=ob'.es.length->some w.heap.size=β f i/\∀b,β f i=some b->dM w w' b:=fun h=>absurd h (by omega)
 have K:=Kp.jM (o':=ob') hs ho ht hk (Nat.le_of_lt hl) iw
 exact⟨_,x,w',sE β f i (some w.heap.size),hr,.inl rfl,
  hs.jM hX ho ht hk (Nat.le_of_lt hl) iw ⟨cX,fun _=>⟨c,pw hh,eX,fun e j he hj=>(hc e j he hj).1,fun e j he hj=>(hc e j he hj).2.tr K⟩,fun r h=>(by rw[nB]at h;cases h)⟩,K,Ext.jM ho ht,hx⟩
theorem kG{α:Type}(a b:List α)(i:Nat)(d:α):(a++b).getD i d=if i<a.length then a.getD i d else b.getD (i-a.length) d:=by
 simp only[ab]
 split
 ·rw[cy ‹_›]
 ·rw[bE (by omega)]
theorem wO{a b:List (List AV)}{k:Nat}(ha:∀e,e<a.length->(a.getD e []).length=k)(hb:∀e,e<b.length->(b.getD e []).length=k):∀e,e<(a++b).length->((a++b).getD e []).length=k:=by
 intro e he
 rw[kG]
 split
 ·exact ha e ‹_›
 ·exact hb _ (by simp at he;omega)
theorem j8{σ:aG}{f i:Nat}{o:Ob}(h:σ.at f i=some o):σ.cZ f i o=σ:=by
 unfold aG.at at h
 split at h
 ·rename_i F hF
  unfold aG.cZ
  rw[hF]
  obtain⟨bP,rfl⟩:=ai.1 h
  obtain⟨Li,U5⟩:=ai.1 hF
  simp only[gK]
  rw[<-U5,gK]
 ·cases h
theorem R_{S:Prop}{r:AV}{σ':aG}{T k bytes:Nat}{y z:O}(hc:ck P o.op (.app T k bytes y z)=true)(hs:dG w X β σ)(hX:∀b,X b->b<w.heap.size)(hv:∀x u,dt x u=true->RV w (Xt X β σ) β σ (v u) (ρ x))(he:ex (.app T k bytes y z) v σ=some (S,r,σ'))(hS:S):fi P o ρ w X β σ r σ':=by
 cases fv:o.op<;>rw[fv]at hc<;>try(simp[ck]at hc;done)
 rename_i cc
 obtain⟨Ao,args,ts⟩:=cc
 cases Ao<;>try(simp[ck]at hc;done)
 rename_i bi
 cases bi<;>try(simp[ck]at hc;done)
 simp only[ck,ak]at hc
 obtain⟨nT,DR⟩:=hc
 obtain⟨args⟩:=args
 obtain⟨ts⟩:=ts
 rcases args with _|⟨a,_|⟨b,_|⟨_,_⟩⟩⟩<;>simp[iz]at nT
 obtain⟨h1,h2⟩:=nT
 split at DR
 case h_2=>cases DR
 rename_i t t' DS
 simp only at DS
 subst DS
 simp only[ak,beq_iff_eq,bne_iff_ne]at DR
 obtain⟨⟨⟨⟨⟨⟨rfl,h3⟩,h4⟩,h5⟩,h6⟩,h7⟩,h8⟩:=DR
 have hu:=iO h3
 obtain⟨ie,qE,rfl⟩:=fS h4
 have Lo:ie.bytes=bytes:=by rw[qE]at h5;simpa using h5
 cases hz:yd P T with
 |none=>rw[hz]at h6;simp at h6
 |some l=>
 rw[hz]at h6
 simp only[beq_iff_eq]at h6
 obtain⟨it,z0,lR,JU,rfl⟩:=mf hz
 obtain rfl:it=ie:=by rw[qE]at lR;injection lR with lR;exact lR.symm
 have Aq:z0.cells.size=it.size:=by simpa using h6
 have ha:=hv a y h1
 have hb:=hv b z h2
 have hx:execOp ρ o=(do let d<-resolve ρ ⟨.builtin .append,#[a,b],#[t,t]⟩ o.type;invoke d.target d.args):=by unfold execOp;rw[fv]
 have eA:∀x w',(Builtin.append_ #[t,t] o.type #[ρ a,ρ b]).run P w=.ok x w'->(execOp ρ o).run P w=.ok (.value x) w':=by
  intro x w' h
  rw[hx]
  simp[resolve,invoke,builtin,h]
 simp only[ex]at he
 generalize v y=vy at ha he
 generalize v z=vz at hb he
 generalize jS:ρ a=qa at ha eA
 generalize ou:ρ b=qb at hb eA
 split at he
 case h_2=>cases he
 rename_i p xs oy
 have empty:∀(cX:∀e,e<xs.length->(xs.getD e []).length=it.size),p->xs.length*bytes<=140737488355328->qa=.slice none 0 0->
  (xs=[]/\(execOp ρ o).run P w=.ok (.value (.slice none 0 0)) w)\/
  ∃cap c w',xs≠[]/\(execOp ρ o).run P w=.ok (.value (.slice (some ⟨w.heap.size,0,none⟩) xs.length cap)) w'/\w'.heap=w.heap.push (.cells c T (0,0))/\c.size=cap*it.size/\xs.length<=cap/\Still w w'/\
   ∀e j,e<xs.length->j<it.size->(c.getD (e*it.size+j) undef).oneCell'=true/\RV w (Xt X β σ) β σ ((xs.getD e []).getD j .any) (c.getD (e*it.size+j) undef):=by
  rintro cX hp qM rfl
  rcases px hs hb oy hp cX with⟨rfl,q,c,rfl⟩|⟨b',off,cap,rfl,f,hf⟩
  ·exact .inl ⟨rfl,eA _ _ (ni hu qE (ar 0))⟩
  ·by_cases wL:xs=[]
   ·subst wL;exact .inl ⟨rfl,eA _ _ (ni hu qE (ar 0))⟩
   ·have Sa:0<xs.length:=eQ.2 wL
    have hl:=mP f xs.length it.size
    have U6:xs.length<=xs.length*bytes:=Nat.le_mul_of_pos_right _ (gA h8)
    have hg:=grownCap_ge w xs.length 0 T
    have eN:=rS (w:=w) (f:=f) (n:=xs.length) (k:=it.size) h7 fun e j he hj=>(hf e j he hj).1
    have HT:=run_append_nil (P:=P) w t o.type T it z0 hu qE JU ⟨b',off,none⟩ xs.length cap (flat f xs.length it.size) hl eN Sa (by omega) (by rw[Lo];omega)
    refine .inr ⟨_,_,_,wL,eA _ _ HT,rfl,?_,hg,⟨rfl,rfl,rfl,(by first|exact ar _|exact cO _)⟩,fun e j he hj=>?_⟩
    ·simp only[dw,cJ,hl,gU,Aq]
     rw[<-cP];congr 1;omega
    ·have bP:=iE (k:=it.size) he
     have e1:(((flat f xs.length it.size).toArray++Builtin.zeroCells z0.cells (grownCap w xs.length 0 T-xs.length))).getD (e*it.size+j) undef=f e j:=by
      rw[<-rR f xs.length it.size e j he hj]
      simp only[af,ab]
      rw[cA (by simp[hl];omega)]
      simp
     rw[e1]
     exact⟨(hf e j he hj).2.1,(hf e j he hj).2.2⟩
 split at he
 ·simp only[ah,aw]at he
  obtain⟨rfl,rfl,rfl⟩:=he
  obtain⟨hp,cX,qM⟩:=hS
  rcases empty cX hp qM ha.dz with⟨rfl,hr⟩|⟨cap,c,w',iw,hr,hh,vx,ep,Ar,lC⟩
  ·have oI:∀b,(none:Option Nat)=some b->b=w.heap.size:=fun b hb=>by cases hb
   exact⟨_,_,w,kv β σ.length none,hr,.inl rfl,hs.push hX (ar _) (fun _ _=>rfl) oI ⟨fun e he=>absurd he (aN _),rfl,rfl⟩,
    Kp.push hs (ar _) (fun _ _=>rfl) oI,Ext.push (ar _) (fun _ _=>rfl) oI,
    .own _ _ _ _ rfl (by simp) (fun ob ic=>by rw[gS]at ic;simp at ic;subst ic;simp) fun ob ic _=>by
     rw[gS]at ic;simp at ic;subst ic
     unfold kD;rw[iy];exact⟨rfl,rfl⟩⟩
  ·refine nL (io:=Ar) hs hX hr hh cX ?_ lC (ub hh rfl vx)
   rw[vx];exact cj _ ep
 ·rename_i f i n
  simp only[obj]at he
  cases dQ:σ.at f i with
  |none=>rw[dQ]at he;simp at he
  |some ob=>
  rw[dQ]at he
  simp only[ah,aw]at he
  obtain⟨rfl,rfl,rfl⟩:=he
  obtain⟨hp,cX,hT,hk,nB,hn,qM⟩:=hS
  have ic:=hs.obj f i ob dQ
  have sI:∀e,e<(ob.es++xs).length->((ob.es++xs).getD e []).length=ob.k:=wO ic.1 (by rw[hk];exact cX)
  cases ha with
  |own _ _ _ _ Mr hf hle h=>
  have h':=h ob dQ hn
  unfold kD at h'
  have F7:=ic.2
  have U6:n+xs.length<=(n+xs.length)*bytes:=Nat.le_mul_of_pos_right _ (gA h8)
  by_cases wL:xs=[]
  ·
   subst wL
   have Uu:∃q c,qb=.slice q 0 c:=by
    rcases px hs hb oy hp cX with⟨_,h⟩|⟨b',off,cap,rfl,_⟩
    ·exact h
    ·exact⟨_,_,rfl⟩
   obtain⟨q,c,rfl⟩:=Uu
   have QQ:∃base cap,qa=.slice base n cap/\n<=cap:=by
    cases nf:β f i with
    |none=>rw[nf]at h';exact⟨none,0,by rw[h'.2,<-hn,h'.1];rfl,by rw[<-hn,h'.1];exact ar _⟩
    |some bl=>
     rw[nf]at h' F7
     obtain⟨cap,c0,T0,rfl,CL,vx⟩:=h'
     obtain⟨c1,IQ,eX,_⟩:=F7.1 nB
     rw[IQ]at CL;injection CL with CL;injection CL with CL _;subst CL
     refine⟨_,cap,by rw[hn],?_⟩
     rw[vx,hn]at eX
     exact d_ eX (by rw[hk];omega)
   obtain⟨base,cap,QQ,ep⟩:=QQ
   have hr:=eA _ _ (by rw[QQ];exact ni (q:=q) (c:=c) hu qE ep)
   have o7:sE β f i (β f i)=β:=by
    funext f' i';unfold sE;split
    ·rename_i h;rw[h.1,h.2]
    ·rfl
   have Sc:σ.cZ f i {ob with es:=ob.es++[]}=σ:=by
    rw[bb]
    exact j8 dQ
   rw[Sc]
   refine bQ (x:=qa) hs (by rw[hr,QQ]) ?_
   exact .own f i _ qa Mr hf (by simpa using hle) (by simpa using h)
  have Sa:0<xs.length:=eQ.2 wL
  rcases px hs hb oy hp cX with⟨h0,_⟩|⟨b',off,cap,rfl,g,hg⟩
  ·exact absurd h0 wL
  have hl:=mP g xs.length it.size
  have eN:=rS (w:=w) (f:=g) (n:=xs.length) (k:=it.size) h7 fun e j he hj=>(hg e j he hj).1
  cases nf:β f i with
  |none=>
   rw[nf]at h'
   have hn0:n=0:=by rw[<-hn,h'.1];rfl
   subst hn0
   rcases empty cX hp (by rw[br]at qM;exact qM) h'.2 with⟨h0,_⟩|⟨xw,c,w',_,hr,hh,vx,ep,Ar,lC⟩
   ·exact absurd h0 wL
   ·refine Bo (io:=Ar) (c:=c) hs hX dQ rfl (by simp[h'.1];omega) (by exact nB) (by simpa[hT]using hh) hr sI ?_ ?_ ?_
    ·simp only[h'.1,aK,hk,vx];exact cj _ ep
    ·simpa[h'.1,hk]using lC
    ·refine .own _ _ _ _ rfl (by rw[eW];exact hf) (fun o' dN=>?_) fun o' dN yh=>?_
     ·rw[cu dQ]at dN;injection dN with dN;subst dN;simp[hn]
     ·rw[cu dQ]at dN;injection dN with dN;subst dN
      unfold kD
      rw[kE]
      exact⟨xw,c,T,by simp[h'.1],pw hh,by simp[hk,vx]⟩
  |some bl=>
   rw[nf]at h' F7
   obtain⟨yp,c0,T0,rfl,CL,vx⟩:=h'
   obtain⟨c1,IQ,eX,jN,DT⟩:=F7.1 nB
   rw[IQ]at CL;injection CL with CL;injection CL with CL XT;subst CL
   rw[hn]at eA
   have QR:n<=yp:=by
    rw[vx,hn]at eX
    exact d_ eX (by rw[hk];omega)
   have kF:∀(C:Array Value),(∀q,q<n*it.size->C.getD q undef=c1.getD q undef)->(∀q,q<xs.length*it.size->C.getD (n*it.size+q) undef=(flat g xs.length it.size).getD q undef)->
    ∀e j,e<(ob.es++xs).length->j<ob.k->(C.getD (e*ob.k+j) undef).oneCell'=true/\RV w (Xt X β σ) β σ (((ob.es++xs).getD e []).getD j .any) (C.getD (e*ob.k+j) undef):=by
    intro C XU XV e j he hj
    rw[kG]
    split
    ·rename_i bP
     have:=iE (k:=it.size) (show e<n by omega)
     rw[XU _ (by rw[hk]at hj|-;omega)]
     exact⟨jN e j bP hj,DT e j bP hj⟩
    ·rename_i As
     have mB:e-ob.es.length<xs.length:=by simp at he;omega
     have:=iE (k:=it.size) mB
     have e1:e*ob.k+j=n*it.size+((e-ob.es.length)*it.size+j):=by
      rw[hk,<-eJ,<-cP];congr 2;omega
     rw[hk]at hj
     rw[e1,XV _ (by omega),rR g xs.length it.size _ _ mB hj]
     exact⟨(hg _ _ mB hj).2.1,(hg _ _ mB hj).2.2⟩
   by_cases ko:n+xs.length<=yp
   ·
    have hmul:(n+xs.length)*it.size<=yp*it.size:=cj _ ko
    rw[cP]at hmul
    have U7:c1.size=yp*it.size:=by rw[vx,hk]
    have U8:∀u∈flat g xs.length it.size,u.oneCell'=true:=by
     intro u hu
     obtain⟨q,hq,rfl⟩:=iB hu
     rw[hl]at hq
     have a1:q/it.size<xs.length:=Nat.div_lt_of_lt_mul (by rw[jj];exact hq)
     have a2:q % it.size<it.size:=Nat.mod_lt _ (by omega)
     simp only[flat,cC,fJ]
     exact(hg _ _ a1 a2).2.1
    have HT:=run_append_room (P:=P) w t o.type T it hu qE bl n yp c1 (by rw[<-hT];exact IQ) ⟨b',off,none⟩ xs.length cap (flat g xs.length it.size) hl eN U8 ko (by rw[hl];omega)
    have hr:=eA _ _ HT
    generalize yo:(c1.toList.take (n*it.size)++flat g xs.length it.size++c1.toList.drop (n*it.size+(flat g xs.length it.size).length)).toArray=c' at hr
    have ud:c'.size=c1.size:=by rw[<-yo];simp[hl];omega
    have QS:∀q,c'.getD q undef=if n*it.size<=q/\q<n*it.size+xs.length*it.size then(flat g xs.length it.size).getD (q-n*it.size) undef else c1.getD q undef:=by
     intro q
     have:=mO c1.toList (flat g xs.length it.size) (n*it.size) q undef (by simp[hl];omega)
     rw[hl]at this
     rw[<-yo,hl]
     simpa[ab,af]using this
    have fe:∀b,β f i=some b->dM w (w.setRow bl c') b:=by
     intro b2 CG cc TT h0
     rw[nf]at CG;injection CG with CG;subst CG
     rw[IQ]at h0;injection h0 with h0;injection h0 with h0;subst h0
     exact⟨c',ob.T,setRow_heap w bl c1 c' ob.T (0,0) IQ,ud⟩
    have ht:=qL (c':=c') IQ nf
    rw[nf]at ht
    have iw:ob.es.length=(ob.es++xs).length->(some bl=β f i/\∀b,β f i=some b->dM w (w.setRow bl c') b):=fun _=>⟨nf.symm,fe⟩
    have K:=Kp.jM (o':={ob with es:=ob.es++xs}) hs dQ ht rfl (by simp) iw
    have ff:=kF c' (fun q hq=>by rw[QS,if_neg (by omega)]) (fun q hq=>by rw[QS,if_pos ⟨by omega,by omega⟩];congr 1;omega)
    refine⟨_,_,w.setRow bl c',sE β f i (some bl),hr,.inl rfl,
     hs.jM hX dQ ht rfl (by simp) iw ⟨sI,fun _=>⟨c',setRow_heap w bl c1 c' ob.T (0,0) IQ,?_,fun e j he hj=>(ff e j he hj).1,fun e j he hj=>(ff e j he hj).2.tr K⟩,fun r h=>(by simp only at h;rw[nB]at h;cases h)⟩,K,Ext.jM dQ ht,?_⟩
    ·simp only[aM,hn,hk]
     rw[cP,ud,U7];exact hmul
    ·refine .own _ _ _ _ rfl (by rw[eW];exact hf) (fun o' dN=>?_) fun o' dN yh=>?_
     ·rw[cu dQ]at dN;injection dN with dN;subst dN;simp[hn]
     ·rw[cu dQ]at dN;injection dN with dN;subst dN
      unfold kD
      rw[kE]
      exact⟨yp,c',ob.T,by simp[hn],setRow_heap w bl c1 c' ob.T (0,0) IQ,by simp[ud,vx]⟩
   ·
    have holds:∀j u,(c1.toList.take (n*it.size))[j]?=some u->w.cell? ((⟨bl,0,none⟩:Addr).add j)=some u:=by
     intro j u hu
     rw[c9,br,cell_of_row w bl j c1 _ _ IQ]
     rw[dk]at hu
     split at hu
     ·simpa using hu
     ·cases hu
    have U7:c1.size=yp*it.size:=by rw[vx,hk]
    have tP:(c1.toList.take (n*it.size)).length=n*it.size:=by
     have:=cj it.size QR
     simp;omega
    have HT:=run_append_grow (P:=P) w t o.type T it z0 hu qE JU ⟨bl,0,none⟩ n yp (c1.toList.take (n*it.size)) tP holds ⟨b',off,none⟩ xs.length cap (flat g xs.length it.size) hl eN
     (by omega) (by omega) (growslice_fits (by omega) (by rw[Lo];exact qM))
    have hr:=eA _ _ HT
    have As:=grownCap_ge w (n+xs.length) yp T
    generalize grownCap w (n+xs.length) yp T=nc at hr As
    refine Bo (ob':={ob with es:=ob.es++xs}) (w':=w.drew.alloc (.cells ((c1.toList.take (n*it.size)).toArray++(flat g xs.length it.size).toArray++Builtin.zeroCells z0.cells (nc-(n+xs.length))) T)) hs hX dQ rfl (by simp;omega) (by exact nB) (by simp only[hT];rfl) hr sI ?_ (kF _ (fun q hq=>?_) fun q hq=>?_) ?_
    ·simp only[aM,hn,hk,dw,cJ,tP,hl,gU,Aq]
     rw[cP];omega
    ·simp only[af]
     rw[cA (by simp only[dw,cJ,tP,hl];omega),cA (by simp only[cJ,tP];exact hq)]
     simp[hq]
    ·simp only[af,ab]
     rw[cA (by simp only[dw,cJ,tP,hl];omega),Array.getElem?_append_right (by simp only[cJ,tP];omega)]
     simp only[cJ,tP,wP,fP]
    ·refine .own _ _ _ _ rfl (by rw[eW];exact hf) (fun o' dN=>?_) fun o' dN yh=>?_
     ·rw[cu dQ]at dN;injection dN with dN;subst dN;simp[hn]
     ·rw[cu dQ]at dN;injection dN with dN;subst dN
      unfold kD
      rw[kE]
      refine⟨nc,_,T,by simp[hn],pw (w:=w) rfl,?_⟩
      simp only[dw,cJ,tP,hl,gU,Aq,hk]
      rw[<-cP,<-cP];congr 1;omega
 ·cases he
end
section
variable {P:Program} {o:Oper} {ρ:Operand->Value} {w w':World} {X:Nat->Prop} {β:gr} {σ:aG} {v:O->AV}
theorem OM{S:Prop}{r:AV}{σ':aG}{T k bytes:Nat}{z:List Value}{y y':O}(hc:ck P o.op (.vq T k bytes z y y')=true)(hs:dG w X β σ)(hX:∀b,X b->b<w.heap.size)(hv:∀x u,dt x u=true->RV w (Xt X β σ) β σ (v u) (ρ x))(he:ex (.vq T k bytes z y y') v σ=some (S,r,σ'))(hS:S):fi P o ρ w X β σ r σ':=by
 cases fv:o.op<;>rw[fv]at hc<;>try(simp[ck]at hc;done)
 rename_i t a b
 simp only[ck,ak,beq_iff_eq,bne_iff_ne]at hc
 obtain⟨⟨⟨⟨⟨⟨⟨h1,h2⟩,h3⟩,h4⟩,h5⟩,h6⟩,h7⟩,h8⟩:=hc
 have hu:=iO h3
 obtain⟨ie,qE,rfl⟩:=fS h4
 have Lo:ie.bytes=bytes:=by rw[qE]at h5;simpa using h5
 cases hz:yd P T with
 |none=>rw[hz]at h6;simp at h6
 |some l=>
 rw[hz]at h6
 simp only[ak,beq_iff_eq]at h6
 obtain⟨h6,WL⟩:=h6
 obtain⟨rfl,xt⟩:=lz h6
 obtain⟨it,z0,lR,JU,rfl⟩:=mf hz
 obtain rfl:it=ie:=by rw[qE]at lR;injection lR with lR;exact lR.symm
 have Aq:z0.cells.size=it.size:=by simpa using WL
 have ha:=hv a y h1
 have hb:=hv b y' h2
 have hx:execOp ρ o=(do let x<-Instr.makeSlice t (ρ a) (ρ b);pure (.value x)):=by unfold execOp;rw[fv]
 simp only[ex]at he
 generalize v y=vy at ha he
 generalize v y'=vz at hb he
 generalize jS:ρ a=qa at ha
 generalize ou:ρ b=qb at hb
 split at he
 case h_2=>cases he
 rename_i k1 l k2 c
 rw[if_pos WL]at he
 simp only[ah,aw]at he
 obtain⟨rfl,rfl,rfl⟩:=he
 obtain⟨rfl,h0,xe⟩:=hS
 obtain rfl:=ha.dz
 obtain rfl:=hb.dz
 have hle:l*1<=l*bytes:=Int.mul_le_mul_of_nonneg_left (by omega) h0
 have vv:=RL.vs (w:=w) (X:=Xt X β σ) (β:=β) (σ:=σ) _ xt
 have hlen:=pq z0.cells.toList
 refine nL (w':=w.alloc (.cells (madeCells z0.cells (l.toNat*it.size)) T)) (c:=madeCells z0.cells (l.toNat*it.size)) (x:=.slice (some ⟨w.heap.size,0,none⟩) l.toNat l.toNat) hs hX ?_ rfl (fun e he=>?_) ?_ (fun e j he hj=>?_)
  (ub rfl (by simp) (by simp[madeCells]))
 ·rw[hx,jS,ou]
  refine cE _ _ _ (run_make w t T it z0 hu qE JU k1 k2 l l h0 (eZ _) ?_ ?_)
  ·rw[Lo,Int.mul_comm];omega
  ·omega
 ·simp only[fQ]at he
  simp[ab,he,hlen,Aq]
 ·simp[madeCells]
 ·simp only[fQ]at he
  have bP:=iE (k:=it.size) he
  have e1:(madeCells z0.cells (l.toNat*it.size)).getD (e*it.size+j) undef=z0.cells.getD j undef:=by
   have e2:(e*it.size+j) % it.size=j:=by rw[jj,Nat.mul_add_mod,A3 hj]
   simp[madeCells,af,show e*it.size+j<l.toNat*it.size by omega,Aq,e2,show j<it.size by omega]
  have:=vv.2 j (by rw[hlen];simp;omega)
  rw[e1]
  simpa[ab,he,af]using this
theorem run_sliceBound{k:IntKind}{i y:Nat}{code:BoundsCode}(h:i<=y):(Instr.sliceBound (.int k i) y code).run P w=.ok i w:=by
 have g:(0:Int)<=(i:Int)/\(i:Int)<=(y:Int):=by omega
 simp[Instr.sliceBound,asIntOf,g]
theorem xx{len cap:Nat}(lo hi:Option Value)(l h:Nat)(tP:(lo=none/\l=0)\/∃k,lo=some (.int k l))(DU:(hi=none/\h=len)\/∃k,hi=some (.int k h))(h1:l<=h)(h2:h<=cap):(Instr.sliceBounds true len cap lo hi none).run P w=.ok (l,h,cap) w:=by
 rcases tP with⟨rfl,rfl⟩|⟨k,rfl⟩<;>rcases DU with⟨rfl,rfl⟩|⟨k',rfl⟩<;>
  simp[Instr.sliceBounds,run_sliceBound h1,run_sliceBound h2]
theorem qi{t e:TypeId}{s:Nat}(he:xK P t=some e)(hs:nh P e=some s){b off len cap:Nat}(lo hi:Option Value)(l h:Nat)(tP:(lo=none/\l=0)\/∃k,lo=some (.int k l))(DU:(hi=none/\h=len)\/∃k,hi=some (.int k h))(h1:l<=h)(h2:h<=cap):(Instr.sliceAt t (.slice (some ⟨b,off,none⟩) len cap) lo hi none).run P w=.ok (.slice (some (if cap=l then⟨b,off,none⟩else⟨b,off+l*s,none⟩)) (h-l) (cap-l)) w:=by
 have hu:=iO he
 obtain⟨i,km,rfl⟩:=fS hs
 simp only[Instr.sliceAt,Instr.slice,bx,run_underlying hu,bg,xx (P:=P) (w:=w) lo hi l h tP DU h1 h2,sizeOf,typeInfo,run_program,km,dD,aY,c9]
 split<;>rfl
theorem mg{α:Type}(l:List α)(a b i:Nat)(d:α)(h:i<b-a):((l.take b).drop a).getD i d=l.getD (a+i) d:=by
 simp only[ab,ez,dk]
 rw[if_pos (by omega)]
theorem Lr{S:Prop}{r:AV}{σ':aG}{k:Nat}{y:O}{lo hi:Option O}(hc:ck P o.op (.slice k y lo hi)=true)(hs:dG w X β σ)(hv:∀x u,dt x u=true->RV w (Xt X β σ) β σ (v u) (ρ x))(he:ex (.slice k y lo hi) v σ=some (S,r,σ'))(hS:S):fi P o ρ w X β σ r σ':=by
 cases fv:o.op<;>rw[fv]at hc<;>try(simp[ck]at hc;done)
 rename_i t a D_ DV Sd
 cases Sd<;>try(simp[ck]at hc;done)
 simp only[ck,ak]at hc
 obtain⟨⟨⟨h1,h2⟩,h3⟩,h4⟩:=hc
 cases oy:xK P t with
 |none=>rw[oy]at h4;simp at h4
 |some e=>
 rw[oy]at h4
 simp only[beq_iff_eq]at h4
 have ha:=hv a y h1
 have hx:execOp ρ o=(do let x<-Instr.sliceAt t (ρ a) (D_.map ρ) (DV.map ρ) none;pure (.value x)):=by unfold execOp;rw[fv];rfl
 simp only[ex]at he
 generalize v y=vy at ha he
 generalize jS:ρ a=qa at ha
 split at he
 case h_2=>cases he
 rename_i k' es kk pP tP
 split at he
 case h_2=>cases he
 rename_i XW km DU
 split at he
 case isFalse=>cases he
 rename_i hk;subst hk
 simp only[ah,aw]at he
 obtain⟨rfl,rfl,rfl⟩:=he
 obtain⟨g0,g1,g2⟩:=hS
 have F9:(D_.map ρ=none/\pP.toNat=0)\/∃k,D_.map ρ=some (.int k pP.toNat):=by
  cases D_ with
  |none=>
   cases lo with
   |none=>simp at tP;exact .inl ⟨rfl,by rw[<-tP.2];rfl⟩
   |some l=>simp[qo]at h2
  |some p=>
   cases lo with
   |none=>simp[qo]at h2
   |some l=>
    have:=hv p l (by simpa[qo]using h2)
    simp at tP
    rw[tP]at this
    exact .inr ⟨kk,by simp[this.dz];omega⟩
 cases ha with
 |slnil=>
  simp at g2
  have e1:km=0:=by omega
  have e2:pP=0:=by omega
  subst e1;subst e2
  have F_:(DV.map ρ=none)\/∃k,DV.map ρ=some (.int k 0):=by
   cases DV with
   |none=>exact .inl rfl
   |some p=>
    cases hi with
    |none=>simp[qo]at h3
    |some l=>
     have:=hv p l (by simpa[qo]using h3)
     simp at DU
     rw[DU]at this
     exact .inr ⟨XW,by simp[this.dz]⟩
  refine bQ (x:=.slice none 0 0) hs ?_ (by simpa using RV.slnil k')
  rw[hx,jS]
  have hu:=iO oy
  obtain⟨i,km,rfl⟩:=fS h4
  refine cE _ _ _ ?_
  rcases F9 with⟨e3,_⟩|⟨q,e3⟩<;>rcases F_ with e4|⟨q',e4⟩<;>rw[e3,e4]<;>
   simp[Instr.sliceAt,Instr.slice,run_underlying hu,Instr.sliceBounds,Instr.sliceBound,asIntOf,sizeOf,typeInfo,km]
 |k9 _ qa U9=>
  simp at g2
  have e1:km=0:=by omega
  have e2:pP=0:=by omega
  subst e1;subst e2
  have F_:(DV.map ρ=none)\/∃k,DV.map ρ=some (.int k 0):=by
   cases DV with
   |none=>exact .inl rfl
   |some p=>
    cases hi with
    |none=>simp[qo]at h3
    |some l=>
     have:=hv p l (by simpa[qo]using h3)
     simp at DU
     rw[DU]at this
     exact .inr ⟨XW,by simp[this.dz]⟩
  refine bQ (x:=.slice (some qa) 0 U9) hs ?_ (by simpa using RV.k9 k' qa U9)
  rw[hx,jS]
  have hu:=iO oy
  obtain⟨i,km,rfl⟩:=fS h4
  refine cE _ _ _ ?_
  rcases F9 with⟨e3,_⟩|⟨q,e3⟩<;>rcases F_ with e4|⟨q',e4⟩<;>rw[e3,e4]<;>
   simp[Instr.sliceAt,Instr.slice,run_underlying hu,Instr.sliceBounds,Instr.sliceBound,asIntOf,sizeOf,typeInfo,km,Addr.add]
 |sl _ _ b off cap f ep xu eN hX Se hr=>
  have F_:(DV.map ρ=none/\km.toNat=es.length)\/∃k,DV.map ρ=some (.int k km.toNat):=by
   cases DV with
   |none=>
    cases hi with
    |none=>simp at DU;exact .inl ⟨rfl,by omega⟩
    |some l=>simp[qo]at h3
   |some p=>
    cases hi with
    |none=>simp[qo]at h3
    |some l=>
     have:=hv p l (by simpa[qo]using h3)
     simp at DU
     rw[DU]at this
     exact .inr ⟨XW,by simp[this.dz];omega⟩
  have eA:=qi (P:=P) (w:=w) oy h4 (b:=b) (off:=off) (len:=es.length) (cap:=cap) _ _ _ _ F9 F_ (by omega) (by omega)
  have hlen:((es.take km.toNat).drop pP.toNat).length=km.toNat-pP.toNat:=by simp;omega
  by_cases ow:cap=pP.toNat
  ·rw[if_pos ow]at eA
   refine bQ (x:=.slice (some ⟨b,off,none⟩) (km.toNat-pP.toNat) (cap-pP.toNat)) hs (by rw[hx,jS];exact cE _ _ _ eA) ?_
   have h0:km.toNat-pP.toNat=0:=by omega
   have U_:(es.take km.toNat).drop pP.toNat=[]:=cd.1 (by rw[hlen];exact h0)
   rw[U_,h0]
   exact RV.sl k' [] b off (cap-pP.toNat) (fun _ _=>undef) (aQ _) (fun e he=>absurd he (aN _)) (fun e he=>absurd he (aN _)) (fun e _ he=>absurd he (aN _))
    (fun e _ he=>absurd he (aN _)) (fun e _ he=>absurd he (aN _))
  ·rw[if_neg ow]at eA
   refine bQ (x:=.slice (some ⟨b,off+pP.toNat*k',none⟩) (km.toNat-pP.toNat) (cap-pP.toNat)) hs (by rw[hx,jS];exact cE _ _ _ eA) ?_
   rw[<-hlen]
   refine .sl k' _ b _ _ (fun e j=>f (pP.toNat+e) j) (by rw[hlen];omega) (fun e he=>?_) (fun e he j hj=>?_) (fun e j he hj=>?_) (fun e j he hj=>?_) fun e j he hj=>?_
   all_goals rw[hlen]at he
   ·rw[mg _ _ _ _ _ he];exact xu _ (by omega)
   ·have:=eN (pP.toNat+e) (by omega) j hj
    rw[cP]at this
    rw[show off+pP.toNat*k'+e*k'+j=off+(pP.toNat*k'+e*k')+j by omega]
    exact this
   ·exact hX (pP.toNat+e) j (by omega) hj
   ·exact Se (pP.toNat+e) j (by omega) hj
   ·rw[mg _ _ _ _ _ he];exact hr _ j (by omega) hj
def xy:List (Option IntKind)->List Value->List Value->Option Bool
 | [],[],[]=>some true
 |some k::q,.int k1 a::r,.int k2 b::s=>if k1=k/\k2=k then(xy q r s).map fun t=>(a==b)&&t else none
 |none::q,.bool a::r,.bool b::s=>(xy q r s).map fun t=>(a==b)&&t
 |_,_,_=>none
theorem RL.tail{cs:List AV}{c:AV}{x:Value}{xs:List Value}{X:Nat->Prop}(h:RL w X β σ (c::cs) (x::xs)):RV w X β σ c x/\RL w X β σ cs xs:=by
 refine⟨(h.2 0 (by simp)).2,by have:=h.1;simpa using this,fun i hi=>?_⟩
 have:=h.2 (i+1) (by simp;omega)
 simpa using this
theorem Ca{X:Nat->Prop}:∀{ks:List (Option IntKind)} {cs ds:List AV} {xs ys:List Value} {r:Bool},dH ks cs ds=some r->RL w X β σ cs xs->RL w X β σ ds ys->xy ks xs ys=some r
 |ks,cs,ds,xs,ys,r,h,h1,h2=>by
  unfold dH at h
  split at h
  ·have e1:=h1.1;have e2:=h2.1
   simp at e1 e2;subst e1;subst e2
   simpa[xy]using h
  ·cases xs with
   |nil=>have:=h1.1;simp at this
   |cons x xs=>
   cases ys with
   |nil=>have:=h2.1;simp at this
   |cons y ys=>
   obtain⟨g1,g2⟩:=h1.tail
   obtain⟨g3,g4⟩:=h2.tail
   obtain rfl:=g1.dz
   obtain rfl:=g3.dz
   split at h
   case isFalse=>cases h
   rename_i hk
   obtain⟨t,ht,rfl⟩:=aL.1 h
   simp only[xy,if_pos hk,Ca ht g2 g4,aY]
  ·cases xs with
   |nil=>have:=h1.1;simp at this
   |cons x xs=>
   cases ys with
   |nil=>have:=h2.1;simp at this
   |cons y ys=>
   obtain⟨g1,g2⟩:=h1.tail
   obtain⟨g3,g4⟩:=h2.tail
   obtain rfl:=g1.dz
   obtain rfl:=g3.dz
   obtain⟨t,ht,rfl⟩:=aL.1 h
   simp only[xy,Ca ht g2 g4,aY]
  ·cases h
theorem xN:∀{ks:List (Option IntKind)} {xs ys:List Value} {r:Bool},xy ks xs ys=some r->xs.length=ks.length/\ys.length=ks.length
 |ks,xs,ys,r,h=>by
  unfold xy at h
  split at h
  ·exact⟨rfl,rfl⟩
  ·split at h
   case isFalse=>cases h
   obtain⟨t,ht,rfl⟩:=aL.1 h
   have:=xN ht;simp[this.1,this.2]
  ·obtain⟨t,ht,rfl⟩:=aL.1 h
   have:=xN ht;simp[this.1,this.2]
  ·cases h
theorem vA:∀(k1:List (Option IntKind)) {k2:List (Option IntKind)} {xs ys:List Value} {r:Bool},xy (k1++k2) xs ys=some r->∃a b,xy k1 (xs.take k1.length) (ys.take k1.length)=some a/\xy k2 (xs.drop k1.length) (ys.drop k1.length)=some b/\r=(a&&b)
 | [],k2,xs,ys,r,h=>⟨true,r,rfl,by simpa using h,by simp⟩
 |q::k1,k2,xs,ys,r,h=>by
  rw[aD]at h
  unfold xy at h
  split at h
  ·rename_i hh;cases hh
  ·rename_i hh;injection hh with h1 h2;subst h1;subst h2
   split at h
   case isFalse=>cases h
   rename_i hk
   obtain⟨t,ht,rfl⟩:=aL.1 h
   obtain⟨a,b,h1,h2,rfl⟩:=vA k1 ht
   exact⟨_,b,by simp[xy,hk,h1];rfl,by simpa using h2,by rw[Bool.and_assoc]⟩
  ·rename_i hh;injection hh with h1 h2;subst h1;subst h2
   obtain⟨t,ht,rfl⟩:=aL.1 h
   obtain⟨a,b,h1,h2,rfl⟩:=vA k1 ht
   exact⟨_,b,by simp[xy,h1];rfl,by simpa using h2,by rw[Bool.and_assoc]⟩
  ·cases h
theorem vB(P:Program)(d:Nat):∀(fs:List Field),fs.foldl (fun(acc:Option (List (Option IntKind))) f=>acc.bind fun l=>if f.offset==l.length&&f.name != "_" then(nS P d f.type).map fun n=>l++n else none) none=none
 | []=>rfl
 |_::fs=>by
  simp only[cT,Option.bind_none]
  exact vB P d fs
theorem pU{d D:Nat}(ih:∀(t:Nat) (n:List (Option IntKind)) (xs ys:List Value) (r:Bool),nS P d t=some n->xy n xs ys=some r->(su P t=some true->(Op.equalIn (D+d) t (.agg xs.toArray) (.agg ys.toArray)).run P w=.ok r w)/\(su P t=some false->∃x y,xs=[x]/\ys=[y]/\(Op.equalIn (D+d) t x y).run P w=.ok r w)):∀(fs:List Field) (l n:List (Option IntKind)) (xs ys:List Value) (r:Bool),fs.foldl (fun(acc:Option (List (Option IntKind))) f=>acc.bind fun l=>if f.offset==l.length&&f.name != "_" then(nS P d f.type).map fun n=>l++n else none) (some l)=some n->∃n',n=l++n'/\(xy n' (xs.drop l.length) (ys.drop l.length)=some r->(Op.eqFields (D+d) xs.toArray ys.toArray fs).run P w=.ok r w)
 | [],l,n,xs,ys,r,h=>by
  simp at h;subst h
  refine⟨[],by simp,fun h3=>?_⟩
  have:=xN h3
  rw[cd.1 this.1,cd.1 this.2]at h3
  simp[xy]at h3;subst h3
  simp[Op.eqFields]
 |f::fs,l,n,xs,ys,r,h=>by
  simp only[cT,Option.bind_some]at h
  split at h
  case isFalse=>rw[vB]at h;cases h
  rename_i hf
  simp only[ak,beq_iff_eq,bne_iff_ne]at hf
  obtain⟨YT,U'⟩:=hf
  cases hm:nS P d f.type with
  |none=>rw[hm]at h;simp only[da,vB]at h;cases h
  |some m=>
  rw[hm]at h
  simp only[aY]at h
  obtain⟨n',yh,_⟩:=pU ih fs (l++m) n xs ys true h
  refine⟨m++n',by rw[yh,aW],fun h3=>?_⟩
  obtain⟨a,b,e1,e2,rfl⟩:=vA m h3
  rw[List.drop_drop,List.drop_drop]at e2
  obtain⟨n'',YU,h4⟩:=pU ih fs (l++m) n xs ys b h
  have:n''=n':=List.append_cancel_left (YU.symm.trans yh)
  subst this
  rw[aM]at h4
  have h4:=h4 e2
  obtain⟨i1,i2⟩:=ih f.type m _ _ a hm e1
  have sv:su P f.type=some true\/su P f.type=some false:=by
   cases d with
   |zero=>simp[nS]at hm
   |succ d=>
    unfold nS at hm
    unfold su
    split at hm<;>simp_all
  have hd:∃dd,P.underlying f.type=some dd:=by
   rcases sv with h|h<;>(unfold su at h;obtain⟨dd,hd,_⟩:=aL.1 h;exact⟨dd,hd⟩)
  obtain⟨dd,hd⟩:=hd
  have D4:∀q,su P f.type=some q->(isAgg f.type).run P w=.ok q w:=by
   intro q hq
   unfold su at hq
   rw[hd]at hq
   simp only[isAgg,bx,run_underlying hd,bg]
   cases dd<;>simp at hq<;>subst hq<;>rfl
  have ue:∀(u v:Value),(part f.type xs.toArray f.offset).run P w=.ok u w->(part f.type ys.toArray f.offset).run P w=.ok v w->(Op.equalIn (D+d) f.type u v).run P w=.ok a w->
   (Op.eqFields (D+d) xs.toArray ys.toArray (f::fs)).run P w=.ok (a&&b) w:=by
   intro u v g1 g2 g3
   simp only[Op.eqFields,ne_eq,U',not_false_eq_true,if_true,bx,g1,g2,g3,bg]
   cases a
   ·simp
   ·simp[h4]
  rw[<-YT]at i1 i2
  rcases sv with h5|h5
  ·have eX:nh P f.type=some m.length:=by
    cases d with
    |zero=>simp[nS]at hm
    |succ d=>
     unfold nS at hm
     unfold su at h5
     rw[hd]at h5 hm
     cases dd<;>simp only[aY,ah,bw,reduceCtorEq]at h5 hm
     split at hm
     ·cases hm
     ·obtain⟨q,_,hq⟩:=fk.1 hm
      split at hq
      ·rename_i hs;injection hq with hq;subst hq;exact eq_of_beq hs
      ·cases hq
   obtain⟨i,hi,ON⟩:=fS eX
   refine ue (.agg (xs.drop f.offset|>.take m.length).toArray) (.agg (ys.drop f.offset|>.take m.length).toArray) ?_ ?_ (i1 h5)
   ·simp only[part,bx,D4 _ h5,bg,if_true,sizeOf,typeInfo,run_program,hi,dD,ON]
    congr 2;apply gf;simp[List.extract_eq_take_drop]
   ·simp only[part,bx,D4 _ h5,bg,if_true,sizeOf,typeInfo,run_program,hi,dD,ON]
    congr 2;apply gf;simp[List.extract_eq_take_drop]
  ·obtain⟨x,y,q1,q2,q3⟩:=i2 h5
   have hx:xs[f.offset]?=some x:=by
    have:((xs.drop f.offset).take m.length)[0]?=some x:=by rw[q1];rfl
    rw[dk]at this
    split at this
    ·simpa using this
    ·cases this
   have hy:ys[f.offset]?=some y:=by
    have:((ys.drop f.offset).take m.length)[0]?=some y:=by rw[q2];rfl
    rw[dk]at this
    split at this
    ·simpa using this
    ·cases this
   exact ue x y (by simp[part,D4 _ h5,hx]) (by simp[part,D4 _ h5,hy]) q3
theorem vC{D:Nat}:∀(d t:Nat) (n:List (Option IntKind)) (xs ys:List Value) (r:Bool),nS P d t=some n->xy n xs ys=some r->(su P t=some true->(Op.equalIn (D+d) t (.agg xs.toArray) (.agg ys.toArray)).run P w=.ok r w)/\(su P t=some false->∃x y,xs=[x]/\ys=[y]/\(Op.equalIn (D+d) t x y).run P w=.ok r w)
 |0,t,n,xs,ys,r,h,_=>by simp[nS]at h
 |d+1,t,n,xs,ys,r,h,h3=>by
  unfold nS at h
  cases hu:P.underlying t with
  |none=>rw[hu]at h;simp at h
  |some dd=>
  rw[hu]at h
  obtain⟨h1,h2⟩:=xN h3
  cases dd<;>simp only[reduceCtorEq]at h<;>simp only[su,hu,aY,ah,bw,reduceCtorEq,false_imp_iff,true_imp_iff,and_true,true_and]
  case bool=>
   injection h with h;subst h
   obtain⟨x,rfl⟩:=cq.1 h1
   obtain⟨y,rfl⟩:=cq.1 h2
   refine⟨x,y,rfl,rfl,?_⟩
   unfold xy at h3
   split at h3<;>simp_all[xy]
   subst h3;exact run_equalIn_bool' w _ t _ _ hu
  case int k=>
   injection h with h;subst h
   obtain⟨x,rfl⟩:=cq.1 h1
   obtain⟨y,rfl⟩:=cq.1 h2
   refine⟨x,y,rfl,rfl,?_⟩
   unfold xy at h3
   split at h3<;>simp_all[xy]
   obtain⟨⟨rfl,rfl⟩,rfl⟩:=h3
   exact run_equalIn_int w _ t _ _ _ _ hu
  case struct fs=>
   split at h
   ·cases h
   ·rename_i cn
    obtain⟨q,hq,I5⟩:=fk.1 h
    split at I5
    case isFalse=>cases I5
    injection I5 with I5;subst I5
    have OO:P.fieldsOf t=fs:=by simp[Program.fieldsOf,hu]
    obtain⟨n',yh,this⟩:=pU (w:=w) (d:=d) (D:=D) (fun t n xs ys r=>vC d t n xs ys r) fs.toList [] q xs ys r hq
    simp at yh;subst yh
    rw[show D+(d+1)=(D+d)+1 by omega,run_equalIn_agg w _ t _ _ (by rw[OO];exact hu) (by simpa using cn),OO]
    exact this (by simpa using h3)
theorem Sf{S:Prop}{r:AV}{σ':aG}{neg:Bool}{ks:List (Option IntKind)}{y z:O}(hc:ck P o.op (.eqs neg ks y z)=true)(hs:dG w X β σ)(hv:∀x u,dt x u=true->RV w (Xt X β σ) β σ (v u) (ρ x))(he:ex (.eqs neg ks y z) v σ=some (S,r,σ')):fi P o ρ w X β σ r σ':=by
 cases fv:o.op<;>rw[fv]at hc<;>try(simp[ck]at hc;done)
 rename_i F5 t a b t'
 simp only[ck,ak,beq_iff_eq,db]at hc
 obtain⟨⟨⟨⟨⟨rfl,h1⟩,h2⟩,h3⟩,h4⟩,h5⟩:=hc
 have ha:=hv a y h1
 have hb:=hv b z h2
 simp only[ex]at he
 generalize v y=vy at ha he
 generalize v z=vz at hb he
 generalize jS:ρ a=qa at ha
 generalize ou:ρ b=qb at hb
 split at he
 case h_2=>cases he
 split at he
 case h_2=>cases he
 rename_i cs ds r' wN
 simp only[ah,aw]at he
 obtain⟨_,rfl,rfl⟩:=he
 obtain⟨xs,rfl,_⟩:=ha.xL
 obtain⟨ys,rfl,_⟩:=hb.xL
 have sv:su P t=some true:=by unfold su;revert h3;split<;>simp_all
 have eA:=(vC (w:=w) (D:=9996) 4 t ks xs.toList ys.toList r' h4 (Ca wN (RL.B' ha) (RL.B' hb))).1 sv
 simp only[Array.toArray_toList]at eA
 refine bQ hs ?_ (.v _)
 unfold execOp;rw[fv]
 simp only[jS,ou]
 refine cE _ _ _ ?_
 cases neg
 ·simp only[bw,if_false,bx,run_eqGuard_agg w _ t a b xs ys h5,bg,run_eql_struct]
  rw[show(10000:Nat)=9996+4 from rfl,eA];rfl
 ·simp only[if_true,bx,run_eqGuard_agg w _ t a b xs ys h5,bg,run_neq_struct]
  rw[show(10000:Nat)=9996+4 from rfl,eA];rfl
end
section
variable {P:Program} {o:Oper} {ρ:Operand->Value} {w w':World} {X:Nat->Prop} {β:gr} {σ:aG} {v:O->AV}
theorem Bp{X:Nat->Prop}:∀{cs:List AV} {ks:List Int} {xs:List Value},aX cs=some ks->RL w X β σ cs xs->xs=ks.map fun a=>Value.int .i64 a
 | [],ks,xs,h,r=>by
  simp only[aX,ah]at h;subst h
  exact cd.1 r.1
 |c::cs,ks,[],h,r=>by cases r.1
 |c::cs,ks,x::xs,h,r=>by
  obtain⟨h1,h2⟩:=r.tail
  unfold aX at h
  split at h
  ·rename_i h';cases h'
  ·rename_i a r' h'
   injection h' with e1 e2;subst e1;subst e2
   obtain⟨l,hl,rfl⟩:=aL.1 h
   rw[Bp hl h2,h1.dz];rfl
  ·cases h
theorem Bq:∀{cs:List AV} {ks:List Int},aX cs=some ks->ks.length=cs.length
 | [],ks,h=>by simp only[aX,ah]at h;subst h;rfl
 |c::cs,ks,h=>by
  unfold aX at h
  split at h
  ·rename_i h';cases h'
  ·rename_i a r' h'
   injection h' with e1 e2;subst e1;subst e2
   obtain⟨l,hl,rfl⟩:=aL.1 h
   simp[Bq hl]
  ·cases h
theorem nU{ks:List Int}(h:ks.length≠1):eh ks=.agg (ks.map fun a=>Value.int .i64 a).toArray:=by
 unfold eh
 split
 ·exact absurd rfl h
 ·rfl
theorem uf{X:Nat->Prop}{a:AV}{ks:List Int}{x:Value}(h:bL a=some ks)(r:RV w X β σ a x):x=eh ks:=by
 unfold bL at h
 split at h
 ·injection h with h;subst h;exact r.dz
 ·split at h
  ·cases h
  ·rename_i cs hl
   obtain⟨xs,rfl,h1,h2,h3⟩:=r.xL
   have hr:RL w X β σ cs xs.toList:=RL.B' (.agg cs xs h1 h2 h3)
   rw[nU (by rw[Bq h];exact hl),<-Bp h hr]
 ·cases h
theorem mC{t n:Nat}(h:xm P t n=true):∃k e,P.underlying t=some (.map k e)/\((P.underlying k=some (.int .i64)/\n=1)\/∃fs,P.underlying k=some (.struct fs)/\n≠1/\nS P 4 k=some (List.replicate n (some .i64))/\∀f∈fs.toList,f.name≠ "_" /\P.underlying f.type=some (.int .i64)/\f.offset<n):=by
 unfold xm at h
 split at h
 case h_2=>cases h
 rename_i k e hu
 refine⟨k,e,hu,?_⟩
 split at h
 ·exact .inl ⟨by assumption,by simpa using h⟩
 ·rename_i fs hk
  simp only[ak,bne_iff_ne,beq_iff_eq,bt]at h
  refine .inr ⟨fs,hk,h.1.1,h.1.2,fun f hf=>?_⟩
  have:=h.2 f hf
  obtain⟨h1,h2⟩:=this
  split at h2
  ·exact⟨h1,by assumption,by simpa using h2⟩
  ·cases h2
 ·cases h
theorem D':∀(a b:List Int),a.length=b.length->xy (List.replicate a.length (some .i64)) (a.map fun a=>Value.int .i64 a) (b.map fun a=>Value.int .i64 a)=some (decide (a=b))
 | [],[],_=>by simp[xy]
 | [],_::_,h=>by cases h
 |_::_,[],h=>by cases h
 |a::r,b::s,h=>by
  simp only[bf,Nat.add_right_cancel_iff]at h
  simp only[bf,List.replicate_succ,bq,xy,and_self,if_true,D' r s h,aY,ah,A9]
  by_cases e1:a=b<;>by_cases e2:r=s<;>simp[e1,e2]
theorem td{t n k e:Nat}{ks:List Int}{em:Bool}(hc:xm P t n=true)(hu:P.underlying t=some (.map k e))(hl:ks.length=n):(Instr.checkKey em 10000 k (eh ks)).run P w=.ok () w:=by
 obtain⟨k',e',FP,hk⟩:=mC hc
 rw[hu]at FP;injection FP with FP;injection FP with h1 h2;subst h1;subst h2
 rcases hk with⟨hk,rfl⟩|⟨fs,hk,hn,hf,ff⟩
 ·obtain⟨a,rfl⟩:=cq.1 hl
  rw[show(10000:Nat)=9999+1 from rfl,Instr.checkKey]
  simp[eh,run_underlying hk]
 ·rw[nU (by omega),show(10000:Nat)=9999+1 from rfl,Instr.checkKey]
  simp only[bx,run_underlying hk,bg]
  rw[<-Array.forIn_toList]
  generalize fs.toList=L at ff
  induction L with
  |nil=>simp
  |cons f L ih=>
   obtain⟨h1,h2,h3⟩:=ff f (by simp)
   have sv:(isAgg f.type).run P w=.ok false w:=by simp[isAgg,run_underlying h2]
   have hp:(part f.type (ks.map fun a=>Value.int .i64 a).toArray f.offset).run P w=.ok (.int .i64 (ks.getD f.offset 0)) w:=by
    have bP:f.offset<ks.length:=by omega
    simp[part,sv,bP,ab]
   have hq:(Instr.checkKey em 9999 f.type (.int .i64 (ks.getD f.offset 0))).run P w=.ok () w:=by
    rw[show(9999:Nat)=9998+1 from rfl,Instr.checkKey]
    simp[run_underlying h2]
   simp only[List.forIn_cons,bx,h1,ne_eq,not_false_eq_true,if_true,bg,hp,hq,dD]
   exact ih (fun y hy=>ff y (by simp[hy]))
theorem I6{t n k e:Nat}{a b:List Int}(hc:xm P t n=true)(hu:P.underlying t=some (.map k e))(ha:a.length=n)(hb:b.length=n):(Op.equal k (eh a) (eh b)).run P w=.ok (decide (a=b)) w:=by
 obtain⟨k',e',FP,hk⟩:=mC hc
 rw[hu]at FP;injection FP with FP;injection FP with h1 h2;subst h1;subst h2
 rcases hk with⟨hk,rfl⟩|⟨fs,hk,hn,hf,ff⟩
 ·obtain⟨x,rfl⟩:=cq.1 ha
  obtain⟨y,rfl⟩:=cq.1 hb
  have:=run_equalIn_int (P:=P) w 9999 k .i64 .i64 x y hk
  simp only[eh,Op.equal,Op.maxDepth,A9,and_true]
  rw[show(10000:Nat)=9999+1 from rfl,this]
  congr 1
 ·rw[nU (by omega),nU (by omega)]
  have sv:su P k=some true:=by simp[su,hk]
  have h3:=D' a b (by omega)
  rw[ha]at h3
  exact(vC (w:=w) (D:=9996) 4 k _ _ _ _ hf h3).1 sv
theorem py{X:Nat->Prop}{n:Nat}{ks:List Int}{a:AV}{x:Value}{c:Nat}(hl:ks.length=n)(hx:RV w X β σ a x):∀{m:List (List Int×AV)} {es:List MapEntry},gw w X β σ n m es->jD m ks=none->gw w X β σ n (ku m ks a) (es++[⟨eh ks,x,c⟩])
 | [],[],_,_=>⟨hl,rfl,hx,trivial⟩
 | [],_::_,h,_=>h.elim
 |_::_,[],h,_=>h.elim
 |y::m,e::es,h,hg=>by
  unfold jD at hg
  split at hg
  ·cases hg
  ·rename_i hk
   simp only[ku,hk,if_false]
   exact⟨h.1,h.2.1,h.2.2.1,py hl hx h.2.2.2 hg⟩
theorem qj{t n k e:Nat}{ks:List Int}(hc:xm P t n=true)(hu:P.underlying t=some (.map k e))(hl:ks.length=n){X:Nat->Prop}:∀(m:List (List Int×AV)) (es:List MapEntry) (i:Nat),gw w X β σ n m es->((Instr.findAsking k (eh ks) es i).run P w=.ok none w/\jD m ks=none/\o8 m ks=m.length)\/∃j y a,(Instr.findAsking k (eh ks) es i).run P w=.ok (some (i+j,y.val)) w/\es[j]?=some y/\y.key=eh ks/\jD m ks=some a/\RV w X β σ a y.val/\(∀b x,RV w X β σ b x->gw w X β σ n (ku m ks b) (es.modify j fun e=>{e with key:=eh ks,val:=x}))/\o8 m ks=j
 | [],[],i,_=>.inl ⟨by simp[Instr.findAsking],rfl,rfl⟩
 | [],_::_,_,h=>h.elim
 |_::_,[],_,h=>h.elim
 |x::m,y::es,i,h=>by
  obtain⟨h1,h2,h3,h4⟩:=h
  have he:=I6 (w:=w) hc hu hl h1
  by_cases hk:x.1=ks
  ·refine .inr ⟨0,y,x.2,?_,rfl,by rw[h2,hk],by simp[jD,hk],h3,fun b z hz=>?_,by simp[o8,hk]⟩
   rotate_left
   ·simp only[ku,hk,if_true,List.modify_zero_cons]
    exact⟨hl,rfl,hz,h4⟩
   simp only[Instr.findAsking,bx,h2,he,bg]
   simp[hk]
  ·have hd:decide (ks=x.1)=false:=by simpa using fun e=>hk e.symm
   rw[hd]at he
   have hm:jD (x::m) ks=jD m ks:=by simp[jD,hk]
   have hr:(Instr.findAsking k (eh ks) (y::es) i).run P w=(Instr.findAsking k (eh ks) es (i+1)).run P w:=by
    simp only[Instr.findAsking,bx,h2,he,bg]
    simp
   rw[hr,hm]
   rcases qj hc hu hl m es (i+1) h4 with⟨g,g',YV⟩|⟨j,y',a,g1,g2,g3,g4,g5,g6,g7⟩
   ·exact .inl ⟨g,g',by simp[o8,hk,YV]⟩
   ·refine .inr ⟨j+1,y',a,by rw[g1,show i+1+j=i+(j+1) by omega],by simpa using g2,g3,g4,g5,fun b z hz=>?_,by simp[o8,hk,g7]⟩
    simp only[ku,hk,if_false,List.modify_succ_cons]
    exact⟨h1,h2,h3,g6 b z hz⟩
theorem Ea{ks:List Int}{X:Nat->Prop}{k:IntKind}(hl:ks.length=1):∀(m:List (List Int×AV)) (es:List MapEntry) (i:Nat),gw w X β σ 1 m es->(Instr.findNow (.int k) (eh ks) es i=some none/\jD m ks=none/\o8 m ks=m.length)\/∃j y a,Instr.findNow (.int k) (eh ks) es i=some (some (i+j,y.val))/\es[j]?=some y/\y.key=eh ks/\jD m ks=some a/\RV w X β σ a y.val/\(∀b x,RV w X β σ b x->gw w X β σ 1 (ku m ks b) (es.modify j fun e=>{e with key:=eh ks,val:=x}))/\o8 m ks=j
 | [],[],i,_=>.inl ⟨rfl,rfl,rfl⟩
 | [],_::_,_,h=>h.elim
 |_::_,[],_,h=>h.elim
 |x::m,y::es,i,h=>by
  obtain⟨h1,h2,h3,h4⟩:=h
  obtain⟨xa,xv⟩:=x
  obtain⟨a,rfl⟩:=cq.1 hl
  obtain⟨b0,rfl⟩:=cq.1 h1
  have e2:y.key=.int .i64 b0:=h2
  by_cases hk:b0=a
  ·subst hk
   refine .inr ⟨0,y,xv,?_,rfl,h2,by simp[jD],h3,fun b z hz=>?_,by simp[o8]⟩
   rotate_left
   ·simp only[ku,if_true,List.modify_zero_cons]
    exact⟨rfl,rfl,hz,h4⟩
   simp[Instr.findNow,Instr.sameNow,eh,e2]
  ·have xu:¬a=b0:=fun e=>hk e.symm
   have hm:jD (([b0],xv)::m) [a]=jD m [a]:=by simp[jD,hk]
   have hr:Instr.findNow (.int k) (eh [a]) (y::es) i=Instr.findNow (.int k) (eh [a]) es (i+1):=by
    have:(a==b0)=false:=by simpa using xu
    simp[Instr.findNow,Instr.sameNow,eh,e2,this]
   rw[hr,hm]
   rcases Ea hl m es (i+1) h4 with⟨g,g',YV⟩|⟨j,y',c,g1,g2,g3,g4,g5,g6,g7⟩
   ·exact .inl ⟨g,g',by simp[o8,hk,YV]⟩
   ·refine .inr ⟨j+1,y',c,by rw[g1,show i+1+j=i+(j+1) by omega],by simpa using g2,g3,g4,g5,fun b z hz=>?_,by simp[o8,hk,g7]⟩
    have me:¬[b0]=[a]:=by simpa using hk
    simp only[ku,me,if_false,List.modify_succ_cons]
    exact⟨rfl,h2,h3,g6 b z hz⟩
theorem vD{t n k e:Nat}{ks:List Int}(hc:xm P t n=true)(hu:P.underlying t=some (.map k e))(hl:ks.length=n){X:Nat->Prop}(m:List (List Int×AV))(es:List MapEntry)(h:gw w X β σ n m es):((Instr.findKey k (eh ks) es).run P w=.ok none w/\jD m ks=none/\o8 m ks=m.length)\/∃j y a,(Instr.findKey k (eh ks) es).run P w=.ok (some (j,y.val)) w/\es[j]?=some y/\y.key=eh ks/\jD m ks=some a/\RV w X β σ a y.val/\(∀b x,RV w X β σ b x->gw w X β σ n (ku m ks b) (es.modify j fun e=>{e with key:=eh ks,val:=x}))/\o8 m ks=j:=by
 obtain⟨k',e',FP,hk⟩:=mC hc
 rw[hu]at FP;injection FP with FP;injection FP with h1 h2;subst h1;subst h2
 rcases hk with⟨hk,rfl⟩|⟨fs,hk,hn,hf,ff⟩
 ·rcases Ea (w:=w) (β:=β) (σ:=σ) (k:=.i64) hl m es 0 h with⟨g1,g2⟩|⟨j,y,a,g1,g2⟩
  ·exact .inl ⟨by simp[Instr.findKey,run_underlying hk,g1],g2⟩
  ·exact .inr ⟨j,y,a,by simp[Instr.findKey,run_underlying hk,g1],g2⟩
 ·have e1:(Instr.findKey k (eh ks) es).run P w=(Instr.findAsking k (eh ks) es 0).run P w:=by
   simp only[Instr.findKey,bx,run_underlying hk,bg]
   cases es with
   |nil=>simp[Instr.findNow,Instr.findAsking]
   |cons y es=>
    have:Instr.sameNow (.struct fs) (eh ks) y.key=none:=by unfold Instr.sameNow;split<;>simp_all
    simp[Instr.findNow,this]
  rw[e1]
  rcases qj hc hu hl m es 0 h with g|⟨j,y,a,g1,g2⟩
  ·exact .inl g
  ·exact .inr ⟨j,y,a,by rw[g1,br],g2⟩
theorem ug{ks:List Int}:Instr.sameBits 10000 (eh ks) (eh ks)=true:=by
 by_cases h1:ks.length=1
 ·obtain⟨x,rfl⟩:=cq.1 h1
  simp[eh,Instr.sameBits]
 ·rw[nU h1,show(10000:Nat)=9999+1 from rfl]
  simp only[Instr.sameBits,beq_self_eq_true,ga,bt,List.toList_toArray]
  intro p hp
  obtain⟨q,hq⟩:=dJ hp
  rw[ir]at hq
  obtain⟨a1,a2⟩:=hq
  obtain⟨i,hi,km⟩:=aO.1 (ao a1)
  rw[a1]at a2;injection a2 with a2
  obtain⟨p1,p2⟩:=p
  simp only at a2 km|-
  subst a2;subst km
  simp[Instr.sameBits]
theorem OP{S:Prop}{r:AV}{σ':aG}{n:Nat}(hc:ck P o.op (.qn n)=true)(hs:dG w X β σ)(hX:∀b,X b->b<w.heap.size)(he:ex (.qn n) v σ=some (S,r,σ')):fi P o ρ w X β σ r σ':=by
 cases fv:o.op<;>rw[fv]at hc<;>try(simp[ck]at hc;done)
 rename_i t rs
 cases rs<;>try(simp[ck]at hc;done)
 simp only[ex,ah,aw]at he
 obtain⟨_,rfl,rfl⟩:=he
 have hx:execOp ρ o=(do let x<-Instr.makeMap t none;pure (.value x)):=by unfold execOp;rw[fv];rfl
 have oI:∀b,some w.heap.size=some b->b=w.heap.size:=fun b hb=>by injection hb with hb;exact hb.symm
 have hh:(w.alloc (.map #[] 0)).heap=w.heap.push (.map #[] 0):=rfl
 have h1:w.heap.size<=(w.alloc (.map #[] 0)).heap.size:=by rw[hh];simp
 have h2:∀b,b<w.heap.size->(w.alloc (.map #[] 0)).heap[b]?=w.heap[b]?:=(MapKept.heap_alloc w (.map #[] 0)).2
 have K:=Kp.push (o:=⟨0,0,[],some (.mp n [])⟩) (bo:=some w.heap.size) hs h1 h2 oI
 refine⟨_,.map (some w.heap.size),w.alloc (.map #[] 0),kv β σ.length (some w.heap.size),?_,.inl rfl,
  hs.push hX h1 h2 oI ⟨fun e he=>absurd he (aN _),fun h=>(by cases h),fun r hr=>?_⟩,K,Ext.push h1 h2 oI ⟨rfl,rfl,rfl,(by first|exact ar _|exact cO _)⟩,?_⟩
 ·rw[hx]
  refine cE _ _ _ ?_
  simp[Instr.makeMap,run_newObj_alloc]
 ·injection hr with hr;subst hr
  exact⟨rfl,#[],0,(MapKept.heap_alloc w (.map #[] 0)).1,trivial,rfl,fun i e h=>by simp at h⟩
 ·exact .mp _ _ rfl (by simp) fun ob _ _=>⟨_,iy,rfl⟩
theorem I7{ob:Ob}{n:Nat}{es:List (List Int×AV)}(h:bI ob n=some es):ob.lp=some (.mp n es):=by
 unfold bI at h
 split at h
 ·rename_i n' es' hl
  split at h
  ·rename_i hn;injection h with h;subst h;subst hn;exact hl
  ·cases h
 ·cases h
theorem rT(hs:dG w X β σ){f n:Nat}{ob:Ob}{m:List (List Int×AV)}{x:Value}(dQ:σ.at f 0=some ob)(hm:bI ob n=some m)(hx:RV w (Xt X β σ) β σ (.mp f) x):∃b es clock,β f 0=some b/\x=.map (some b)/\ob.es=[]/\w.heap[b]?=some (.map es clock)/\gw w (Xt X β σ) β σ n m es.toList/\sC es clock:=by
 have hl:=I7 hm
 have ic:=hs.obj f 0 ob dQ
 cases hx with
 |mp _ _ h1 hf h=>
  cases o7:β f 0 with
  |none=>
   have h2:=ic.2
   rw[o7]at h2
   rw[h2.2]at hl;cases hl
  |some b=>
   have h2:=ic.2
   rw[o7]at h2
   obtain⟨he,es,cl,hb,hr,FQ⟩:=h2.2 _ hl
   obtain⟨l,Av,rfl⟩:=h ob dQ (by rw[he];rfl)
   rw[o7]at Av;injection Av with Av;subst Av
   exact⟨b,es,cl,rfl,rfl,he,hb,hr,FQ⟩
theorem yq(hs:dG w X β σ){f n:Nat}{ob:Ob}{m:List (List Int×AV)}{x:Value}(dQ:σ.at f 0=some ob)(hm:bI ob n=some m)(hx:RV w (Xt X β σ) β σ (.mp f) x):∃b es clock,β f 0=some b/\x=.map (some b)/\ob.es=[]/\w.heap[b]?=some (.map es clock)/\gw w (Xt X β σ) β σ n m es.toList:=by
 obtain⟨b,es,cl,h1,h2,h3,h4,h5,_⟩:=rT hs dQ hm hx
 exact⟨b,es,cl,h1,h2,h3,h4,h5⟩
theorem sC.push{es:Array MapEntry}{cl:Nat}(h:sC es cl)(k x:Value):sC (es.push ⟨k,x,cl⟩) (cl+1):=by
 obtain⟨h1,h2⟩:=h
 refine⟨by simp[h1],fun i e he=>?_⟩
 rw[iA]at he
 split at he
 ·rename_i hi;injection he with he;subst he;rw[h1,hi]
 ·exact h2 i e he
theorem sC.modify{es:Array MapEntry}{cl:Nat}(h:sC es cl)(j:Nat)(g:MapEntry->MapEntry)(hg:∀e,(g e).born=e.born):sC (es.modify j g) cl:=by
 obtain⟨h1,h2⟩:=h
 refine⟨by simp[h1],fun i e he=>?_⟩
 rw[fR]at he
 split at he
 ·obtain⟨e',mB,rfl⟩:=aL.1 he
  rw[hg];exact h2 i e' mB
 ·exact h2 i e he
theorem qN:∀{m:List (List Int×AV)} {ks:List Int} {a b:AV},pS (ku m ks a) (o8 m ks) b=ku m ks b
 | [],_,_,_=>rfl
 |x::r,ks,a,b=>by
  unfold ku o8
  by_cases hk:x.1=ks
  ·simp[hk,pS]
  ·simp only[hk,if_false,pS,qN]
theorem Ls{m:List (List Int×AV)}{ks:List Int}{a:AV}:o8 m ks<(ku m ks a).length:=by
 induction m with
 |nil=>simp[ku,o8]
 |cons x r ih=>
  unfold ku o8
  by_cases hk:x.1=ks
  ·simp[hk]
  ·simp only[hk,if_false,bf];omega
theorem yr{X:Nat->Prop}{n:Nat}{a:AV}{x:Value}(hx:RV w X β σ a x):∀{m:List (List Int×AV)} {es:List MapEntry} {i:Nat},gw w X β σ n m es->gw w X β σ n (pS m i a) (es.modify i fun e=>{e with val:=x})
 | [],[],i,_=>by simp[pS,gw]
 | [],_::_,_,h=>h.elim
 |_::_,[],_,h=>h.elim
 |y::m,e::es,0,h=>by
  simp only[pS,List.modify_zero_cons]
  exact⟨h.1,h.2.1,hx,h.2.2.2⟩
 |y::m,e::es,i+1,h=>by
  simp only[pS,List.modify_succ_cons]
  exact⟨h.1,h.2.1,h.2.2.1,yr hx h.2.2.2⟩
theorem gw.len{X:Nat->Prop}{n:Nat}:∀{m:List (List Int×AV)} {es:List MapEntry},gw w X β σ n m es->es.length=m.length
 | [],[],_=>rfl
 | [],_::_,h=>h.elim
 |_::_,[],h=>h.elim
 |_::m,_::es,h=>by simp[gw.len h.2.2.2]
theorem uh{n:Nat}{m':List (List Int×AV)}{f:Nat}{ob:Ob}{bl:Nat}{vh es':Array MapEntry}{clock cl':Nat}{nx:Next}{r:AV}{x:Value}(hs:dG w X β σ)(hX:∀b,X b->b<w.heap.size)(dQ:σ.at f 0=some ob)(o7:β f 0=some bl)(te:ob.es=[])(l7:w.heap[bl]?=some (.map vh clock))(Lt:gw w (Xt X β σ) β σ n m' es'.toList)(FQ:sC es' cl')(eA:(execOp ρ o).run P w=.ok nx (w.putObj bl (.map es' cl')))(l_:nx=.value x\/nx=.skip/\x=undef)(hr:RV w (Xt X β σ) β σ r x):fi P o ρ w X β σ r (σ.cZ f 0 {ob with lp:=some (.mp n m')}):=by
 have I8:(w.putObj bl (.map es' cl')).heap[bl]?=some (.map es' cl'):=(MapKept.heap_set l7).1
 have F':∀b',b'≠bl->(w.putObj bl (.map es' cl')).heap[b']?=w.heap[b']?:=(MapKept.heap_set l7).2
 have Va:(w.putObj bl (.map es' cl')).heap.size=w.heap.size:=by simp[World.putObj]
 have ht:ss w β f 0 (some bl) (w.putObj bl (.map es' cl')):=⟨by rw[Va];exact ar _,fun b' oz iw=>F' _ fun e=>iw (by rw[o7,e]),fun b' oz=>.inl (by rw[o7];exact oz),rfl,rfl,rfl,(by first|exact ar _|exact cO _)⟩
 have fe:ob.es.length=({ob with lp:=some (.mp n m')}:Ob).es.length->some bl=β f 0/\∀b',β f 0=some b'->dM w (w.putObj bl (.map es' cl')) b':=fun _=>
  ⟨o7.symm,fun b' oz c T hc=>by rw[o7]at oz;injection oz with oz;subst oz;rw[l7]at hc;cases hc⟩
 have K:=Kp.jM (o':={ob with lp:=some (.mp n m')}) hs dQ ht rfl (ar _) fe
 refine⟨nx,x,w.putObj bl (.map es' cl'),_,eA,l_,hs.jM hX dQ ht rfl (ar _) fe ⟨fun e he=>?_,fun h=>(by cases h),fun r hr=>?_⟩,K,Ext.jM dQ ht,hr.tr K⟩
 ·simp only[te,bM]at he;exact absurd he (aN _)
 ·injection hr with hr;subst hr
  exact⟨te,es',cl',I8,Lt.tr K,FQ⟩
theorem RV.Vb{X:Nat->Prop}{xs:Array Value}(h:∀x∈xs.toList,scalar x=true):RV w X β σ (bJ true xs.toList) (.agg xs):=by
 have:=(RL.vs (w:=w) (X:=X) (β:=β) (σ:=σ) xs.toList h).agg
 simpa[bJ]using this
theorem Eb{e:Nat}{ag:Bool}{z:List Value}{X:Nat->Prop}(h:OC P e ag z=true):∃x,(zeroValue e).run P w=.ok x w/\RV w X β σ (bJ ag z) x:=by
 unfold OC at h
 cases hi:P.info? e with
 |none=>rw[hi]at h;simp at h
 |some i=>
  rw[hi,Option.bind_some]at h
  cases hz:i.zero with
  |none=>rw[hz]at h;simp at h
  |some z0=>
   rw[hz]at h
   refine⟨z0,by simp[zeroValue,typeInfo,hi,hz],?_⟩
   split at h
   ·rename_i xs _ wL
    injection wL with wL;subst wL
    simp only[ak]at h
    obtain⟨rfl,h⟩:=h
    obtain⟨rfl,xt⟩:=lz h
    exact RV.Vb xt
   ·rename_i x y _ wL
    injection wL with wL;subst wL
    simp only[ak,db]at h
    obtain⟨rfl,h⟩:=h
    obtain⟨rfl,_⟩:=B_ h
    exact .v _
   ·cases h
theorem OQ{X:Nat->Prop}{a b:AV}{x y:Value}(h1:RV w X β σ a x)(h2:RV w X β σ b y):RV w X β σ (.iu [a,b]) (.tuple #[x,y]):=by
 refine .iu [a,b] #[x,y] rfl fun i hi=>?_
 match i,hi with
 |0,_=>exact h1
 |1,_=>exact h2
theorem Ec{X:Nat->Prop}{n:Nat}:∀{es:List (List Int×AV)} {m:List MapEntry},m.length=es.length->(∀i,i<es.length->(es.getD i ([],.any)).1.length=n/\(m.getD i ⟨undef,undef,0⟩).key=eh (es.getD i ([],.any)).1)->(∀i,i<es.length->RV w X β σ (es.getD i ([],.any)).2 (m.getD i ⟨undef,undef,0⟩).val)->gw w X β σ n es m
 | [],[],_,_,_=>trivial
 | [],_::_,h,_,_=>by cases h
 |_::_,[],h,_,_=>by cases h
 |e::es,y::m,h,hk,hr=>by
  have h0:=hk 0 (by simp)
  refine⟨h0.1,h0.2,hr 0 (by simp),Ec (by simpa using h) (fun i hi=>?_) fun i hi=>?_⟩
  ·simpa using hk (i+1) (by simpa using hi)
  ·simpa using hr (i+1) (by simpa using hi)
theorem yt{X:Nat->Prop}{n:Nat}:∀{es:List (List Int×AV)} {m:List MapEntry},gw w X β σ n es m->m.length=es.length/\(∀i,i<es.length->(es.getD i ([],.any)).1.length=n/\(m.getD i ⟨undef,undef,0⟩).key=eh (es.getD i ([],.any)).1)/\(∀i,i<es.length->RV w X β σ (es.getD i ([],.any)).2 (m.getD i ⟨undef,undef,0⟩).val)
 | [],[],_=>⟨rfl,fun i hi=>absurd hi (aN _),fun i hi=>absurd hi (aN _)⟩
 | [],_::_,h=>h.elim
 |_::_,[],h=>h.elim
 |e::es,y::m,h=>by
  obtain⟨h1,h2,h3,h4⟩:=h
  obtain⟨g1,g2,g3⟩:=yt h4
  refine⟨by simp[g1],fun i hi=>?_,fun i hi=>?_⟩
  ·cases i with
   |zero=>exact⟨h1,h2⟩
   |succ i=>simpa using g2 i (by simpa using hi)
  ·cases i with
   |zero=>exact h3
   |succ i=>simpa using g3 i (by simpa using hi)
theorem OS{S:Prop}{r:AV}{σ':aG}{n:Nat}{ag ok:Bool}{z:List Value}{m k:O}(hc:ck P o.op (.look n ag z ok m k)=true)(hs:dG w X β σ)(hv:∀x u,dt x u=true->RV w (Xt X β σ) β σ (v u) (ρ x))(he:ex (.look n ag z ok m k) v σ=some (S,r,σ')):fi P o ρ w X β σ r σ':=by
 cases fv:o.op<;>rw[fv]at hc<;>try(simp[ck]at hc;done)
 rename_i t a b QN
 simp only[ck,ak,beq_iff_eq]at hc
 obtain⟨⟨⟨⟨rfl,h1⟩,h2⟩,h3⟩,h4⟩:=hc
 obtain⟨kt,e,hu,_⟩:=mC h3
 rw[hu]at h4
 have ha:=hv a m h1
 have hb:=hv b k h2
 simp only[ex]at he
 generalize v m=vm at ha he
 generalize v k=vk at hb he
 generalize jS:ρ a=qa at ha
 generalize ou:ρ b=qb at hb
 have hx:execOp ρ o=(do let x<-Instr.lookup t (ρ a) (ρ b) QN;pure (.value x)):=by unfold execOp;rw[fv]
 obtain⟨zx,hz,HU⟩:=Eb (w:=w) (β:=β) (σ:=σ) (X:=Xt X β σ) h4
 have key:∀(ks:List Int) (es:List (List Int×AV)) (bl:Nat) (vh:Array MapEntry) (clock:Nat),ks.length=n->qa=.map (some bl)->qb=eh ks->w.heap[bl]?=some (.map vh clock)->
  gw w (Xt X β σ) β σ n es vh.toList->fi P o ρ w X β σ (aU QN (bJ ag z) (jD es ks)) σ:=by
  intro ks es bl vh clock hl e1 e2 l7 tf
  subst e1;subst e2
  have mw:=td (w:=w) (em:=vh.isEmpty) h3 hu hl
  rcases vD (w:=w) h3 hu hl es vh.toList tf with⟨g1,g2,_⟩|⟨j,y,av,g1,g2,g3,g4,g5,_⟩
  ·refine bQ (x:=if QN then .tuple #[zx,.bool false]else zx) hs ?_ ?_
   ·rw[hx,jS,ou]
    refine cE _ _ _ ?_
    simp[Instr.lookup,run_underlying hu,ee l7,mw,g1,hz,Result.andThen]
   ·rw[g2]
    cases QN
    ·exact HU
    ·exact OQ HU (.v _)
  ·refine bQ (x:=if QN then .tuple #[y.val,.bool true]else y.val) hs ?_ ?_
   ·rw[hx,jS,ou]
    refine cE _ _ _ ?_
    simp[Instr.lookup,run_underlying hu,ee l7,mw,g1,Result.andThen]
   ·rw[g4]
    cases QN
    ·exact g5
    ·exact OQ g5 (.v _)
 split at he
 ·rename_i f ks xz
  cases dQ:σ.at f 0 with
  |none=>simp only[obj,dQ]at he;cases he
  |some ob=>
  simp only[obj,dQ]at he
  split at he
  case h_2=>cases he
  rename_i es Ga
  split at he
  case isFalse=>cases he
  rename_i hl
  simp only[ah,aw]at he
  obtain⟨_,rfl,rfl⟩:=he
  obtain⟨bl,vh,clock,o7,rfl,_,l7,tf⟩:=yq hs dQ Ga ha
  exact key ks es bl vh clock hl rfl (uf xz hb) l7 tf
 ·rename_i n' es ks xz
  split at he
  case isFalse=>cases he
  rename_i hl
  simp only[ah,aw]at he
  obtain⟨_,rfl,rfl⟩:=he
  obtain⟨rfl,hl⟩:=hl
  cases ha with
  |j4 _ _ bl vh cl l7 hX eX hk hr=>
   exact key ks es bl vh cl hl rfl (uf xz hb) l7 (Ec (by simpa using eX) (fun i hi=>by simpa[af,ab]using hk i hi)
    fun i hi=>by simpa[af,ab]using hr i hi)
 ·cases he
theorem OT{S:Prop}{r:AV}{σ':aG}{n:Nat}{m k y:O}(hc:ck P o.op (.pR n m k y)=true)(hs:dG w X β σ)(hX:∀b,X b->b<w.heap.size)(hv:∀x u,dt x u=true->RV w (Xt X β σ) β σ (v u) (ρ x))(he:ex (.pR n m k y) v σ=some (S,r,σ')):fi P o ρ w X β σ r σ':=by
 have YW:∃t a b c,(o.op=.mapUpdate t a b c\/o.op=.insert t a b c)/\(((dt a m=true/\dt b k=true)/\dt c y=true)/\xm P t n=true):=by
  cases fv:o.op<;>rw[fv]at hc<;>try(simp[ck]at hc;done)
  ·rename_i t a b c
   exact⟨t,a,b,c,by simp,by simpa only[ck,ak]using hc⟩
  ·rename_i t a b c
   exact⟨t,a,b,c,by simp,by simpa only[ck,ak]using hc⟩
 obtain⟨t,a,b,c,fv,⟨⟨h1,h2⟩,h3⟩,h4⟩:=YW
 obtain⟨kt,e,hu,_⟩:=mC h4
 have ha:=hv a m h1
 have hb:=hv b k h2
 have QT:=hv c y h3
 simp only[ex]at he
 generalize v m=vm at ha he
 generalize v k=vk at hb he
 generalize v y=vy at QT he
 generalize jS:ρ a=qa at ha
 generalize ou:ρ b=qb at hb
 generalize Us:ρ c=qc at QT
 split at he
 case h_2=>cases he
 rename_i f ks xz
 cases dQ:σ.at f 0 with
 |none=>simp only[obj,dQ]at he;cases he
 |some ob=>
 simp only[obj,dQ]at he
 split at he
 case h_2=>cases he
 rename_i es Ga
 split at he
 case isFalse=>cases he
 rename_i hl
 simp only[ah,aw]at he
 obtain⟨_,rfl,rfl⟩:=he
 obtain⟨bl,vh,clock,o7,rfl,te,l7,tf,FQ⟩:=rT hs dQ Ga ha
 obtain rfl:=uf xz hb
 have hx:execOp ρ o=(do Instr.mapUpdate t (ρ a) (ρ b) (ρ c);pure .skip):=by
  unfold execOp
  rcases fv with fv|fv<;>rw[fv]
 have mw:=td (w:=w) (em:=false) h4 hu hl
 have fin:∀(es':Array MapEntry) (cl':Nat),gw w (Xt X β σ) β σ n (ku es ks vy) es'.toList->sC es' cl'->
  (Instr.mapUpdate t (.map (some bl)) (eh ks) qc).run P w=.ok () (w.putObj bl (.map es' cl'))->
  fi P o ρ w X β σ .any (σ.cZ f 0 {ob with lp:=some (.mp n (ku es ks vy))}):=fun es' cl' Lt YX eA=>
  uh (x:=undef) hs hX dQ o7 te l7 Lt YX (by
   rw[hx,jS,ou,Us]
   simp only[bx,eA,bg,dD]) (.inr ⟨rfl,rfl⟩) (.any _)
 rcases vD (w:=w) h4 hu hl es vh.toList tf with⟨g1,g2,_⟩|⟨j,z,av,g1,g2,g3,g4,g5,g6,_⟩
 ·refine fin (vh.push ⟨eh ks,qc,clock⟩) (clock+1) (by rw[Array.toList_push];exact py hl QT tf g2) (FQ.push _ _) ?_
  simp[Instr.mapUpdate,run_underlying hu,ee l7,mw,g1,fF _ l7,Result.andThen,World.putObj]
 ·have hj:vh[j]?=some z:=by simpa using g2
  refine fin (vh.modify j fun e=>{e with key:=eh ks,val:=qc}) clock (by rw[Array.toList_modify];exact g6 vy qc QT) (FQ.modify _ _ fun _=>rfl) ?_
  simp[Instr.mapUpdate,run_underlying hu,ee l7,mw,g1,hj,g3,Instr.keyThatStays,ug,fF _ l7,Result.andThen,World.putObj]
theorem OU{S:Prop}{r:AV}{σ':aG}{n:Nat}{ag:Bool}{z:List Value}{m k:O}(hc:ck P o.op (.yb n ag z m k)=true)(hs:dG w X β σ)(hX:∀b,X b->b<w.heap.size)(hv:∀x u,dt x u=true->RV w (Xt X β σ) β σ (v u) (ρ x))(he:ex (.yb n ag z m k) v σ=some (S,r,σ')):fi P o ρ w X β σ r σ':=by
 cases fv:o.op<;>rw[fv]at hc<;>try(simp[ck]at hc;done)
 rename_i t a b
 simp only[ck,ak]at hc
 obtain⟨⟨⟨h1,h2⟩,h4⟩,h5⟩:=hc
 obtain⟨kt,e,hu,_⟩:=mC h4
 rw[hu]at h5
 have ha:=hv a m h1
 have hb:=hv b k h2
 simp only[ex]at he
 generalize v m=vm at ha he
 generalize v k=vk at hb he
 generalize jS:ρ a=qa at ha
 generalize ou:ρ b=qb at hb
 split at he
 case h_2=>cases he
 rename_i f ks xz
 cases dQ:σ.at f 0 with
 |none=>simp only[obj,dQ]at he;cases he
 |some ob=>
 simp only[obj,dQ]at he
 split at he
 case h_2=>cases he
 rename_i es Ga
 split at he
 case isFalse=>cases he
 rename_i hl
 simp only[ah,aw]at he
 obtain⟨_,rfl,rfl⟩:=he
 obtain⟨bl,vh,clock,o7,rfl,te,l7,tf,FQ⟩:=rT hs dQ Ga ha
 obtain rfl:=uf xz hb
 obtain⟨zx,hz,HU⟩:=Eb (w:=w) (β:=β) (σ:=σ) (X:=Xt X β σ) h5
 have hx:execOp ρ o=(do let x<-Instr.mapEntry t (ρ a) (ρ b);pure (.value x)):=by unfold execOp;rw[fv]
 have mw:=td (w:=w) (em:=false) h4 hu hl
 have yu:=gw.len tf
 rcases vD (w:=w) h4 hu hl es vh.toList tf with⟨g1,g2,g3⟩|⟨j,y,av,g1,g2,g3,g4,g5,g6,g7⟩
 ·rw[g2,g3]
  refine uh (es':=vh.push ⟨eh ks,zx,clock⟩) (cl':=clock+1) (x:=.tuple #[zx,goInt clock]) hs hX dQ o7 te l7 (by rw[Array.toList_push];exact py hl HU tf g2) (FQ.push _ _) ?_ (.inl rfl) ?_
  ·rw[hx,jS,ou]
   refine cE _ _ _ ?_
   simp[Instr.mapEntry,run_underlying hu,ee l7,mw,g1,hz,fF _ l7,Result.andThen,World.putObj]
  ·refine OQ HU ?_
   have:clock=es.length:=by rw[FQ.1];simpa using yu
   rw[this];exact .v _
 ·have hj:vh[j]?=some y:=by simpa using g2
  rw[g4,g7]
  refine uh (es':=vh.modify j fun e=>{e with key:=eh ks}) (cl':=clock) (x:=.tuple #[y.val,goInt j]) hs hX dQ o7 te l7 ?_ (FQ.modify _ _ fun _=>rfl) ?_ (.inl rfl) ?_
  ·have h8:=g6 av y.val g5
   rw[Array.toList_modify]
   have e1:(vh.toList.modify j fun e=>{e with key:=eh ks})=vh.toList.modify j fun e=>{e with key:=eh ks,val:=y.val}:=by
    apply dv
    intro i
    simp only[List.getElem?_modify]
    by_cases OV:j=i
    ·subst OV;simp[hj]
    ·simp[OV]
   rw[e1];exact h8
  ·rw[hx,jS,ou]
   refine cE _ _ _ ?_
   have CG:y.born=j:=FQ.2 j y hj
   simp[Instr.mapEntry,run_underlying hu,ee l7,mw,g1,hj,g3,CG,Instr.keyThatStays,ug,fF _ l7,Result.andThen,World.putObj]
  ·exact OQ g5 (.v _)
theorem Sg{S:Prop}{r:AV}{σ':aG}{n:Nat}{m s y:O}(hc:ck P o.op (.La n m s y)=true)(hs:dG w X β σ)(hX:∀b,X b->b<w.heap.size)(hv:∀x u,dt x u=true->RV w (Xt X β σ) β σ (v u) (ρ x))(he:ex (.La n m s y) v σ=some (S,r,σ'))(hS:S):fi P o ρ w X β σ r σ':=by
 cases fv:o.op<;>rw[fv]at hc<;>try(simp[ck]at hc;done)
 rename_i t a b c
 simp only[ck,ak]at hc
 obtain⟨⟨h1,h2⟩,h3⟩:=hc
 have ha:=hv a m h1
 have hb:=hv b s h2
 have QT:=hv c y h3
 simp only[ex]at he
 generalize v m=vm at ha he
 generalize v s=vk at hb he
 generalize v y=vy at QT he
 generalize jS:ρ a=qa at ha
 generalize ou:ρ b=qb at hb
 generalize Us:ρ c=qc at QT
 split at he
 case h_2=>cases he
 rename_i f i
 cases dQ:σ.at f 0 with
 |none=>simp only[obj,dQ]at he;cases he
 |some ob=>
 simp only[obj,dQ]at he
 split at he
 case h_2=>cases he
 rename_i es Ga
 simp only[ah,aw]at he
 obtain⟨rfl,rfl,rfl⟩:=he
 obtain⟨bl,vh,clock,o7,rfl,te,l7,tf,FQ⟩:=rT hs dQ Ga ha
 obtain rfl:=hb.dz
 have yu:=gw.len tf
 simp only[dE]at yu
 obtain⟨q,rfl⟩:=gn hS.1
 have hq:q<vh.size:=by omega
 have hx:execOp ρ o=(do Instr.entryStore t (ρ a) (ρ b) (ρ c);pure .skip):=by unfold execOp;rw[fv]
 have I9:vh.findIdx? (fun e=>(e.born:Int)==(q:Int))=some q:=by
  rw[Array.findIdx?_eq_some_iff_getElem]
  refine⟨hq,?_,fun j hj=>?_⟩
  ·have:=FQ.2 q _ (bS hq);simp[this]
  ·have:=FQ.2 j _ (bS (show j<vh.size by omega));simp[this];omega
 refine uh (es':=vh.modify q fun e=>{e with val:=qc}) (cl':=clock) (x:=undef) hs hX dQ o7 te l7 ?_ (FQ.modify _ _ fun _=>rfl) ?_ (.inr ⟨rfl,rfl⟩) (.any _)
 ·rw[Array.toList_modify]
  exact yr QT tf
 ·rw[hx,jS,ou,Us]
  have hai:(asInt (.int .i64 (q:Int))).run P w=.ok (q:Int) w:=rfl
  simp[Instr.entryStore,ee l7,hai,I9,fF _ l7,Result.andThen,World.putObj]
theorem I_{t:TypeId}(h:U2 P t=true):∃e,P.underlying t=some (.pointer e):=by
 unfold U2 at h
 split at h
 ·rename_i e hu;exact⟨e,hu⟩
 ·cases h
theorem Br{t:TypeId}(h:RS P t=true):∃e,P.underlying t=some (.interface e):=by
 unfold RS at h
 split at h
 ·rename_i e hu;exact⟨e,hu⟩
 ·cases h
theorem xA(d:Nat){t:TypeId}(hu:U2 P t=true)(q:Option Addr):(Op.equalIn (d+1) t (.pointer q) (.pointer none)).run P w=.ok q.isNone w:=by
 obtain⟨e,hu⟩:=I_ hu
 unfold Op.equalIn
 rw[bx,run_underlying hu]
 cases q<;>rfl
theorem vE(d:Nat){t:TypeId}(hu:RS P t=true):(Op.equalIn (d+1) t .nilIface .nilIface).run P w=.ok true w:=by
 obtain⟨e,hu⟩:=Br hu
 unfold Op.equalIn
 rw[bx,run_underlying hu]
 rfl
theorem xB(d:Nat){t:TypeId}(hu:RS P t=true)(T:TypeId)(x:Value):(Op.equalIn (d+1) t (.iface T x) .nilIface).run P w=.ok false w:=by
 obtain⟨e,hu⟩:=Br hu
 unfold Op.equalIn
 rw[bx,run_underlying hu]
 rfl
theorem OW{S:Prop}{r:AV}{σ':aG}{p neg:Bool}{y z:O}(hc:ck P o.op (.An p neg y z)=true)(hs:dG w X β σ)(hv:∀x u,dt x u=true->RV w (Xt X β σ) β σ (v u) (ρ x))(he:ex (.An p neg y z) v σ=some (S,r,σ'))(hS:S):fi P o ρ w X β σ r σ':=by
 cases fv:o.op<;>rw[fv]at hc<;>try(simp[ck]at hc;done)
 rename_i F5 t a b t'
 cases b<;>try(simp[ck]at hc;done)
 rename_i c
 simp only[ck,ak,beq_iff_eq]at hc
 obtain⟨⟨⟨rfl,h1⟩,h2⟩,h3⟩:=hc
 have ha:=hv a y h1
 have hb:=hv _ z h2
 simp only[ex]at he
 generalize v y=vy at ha he
 generalize v z=vz at hb he
 generalize jS:ρ a=qa at ha
 generalize ou:ρ (.const c)=qb at hb
 have Sh:p=true->∀q:Option Addr,qa=.pointer q->qb=.pointer none->(execOp ρ o).run P w=.ok (.value (.bool (bif neg then !q.isNone else q.isNone))) w:=by
  intro hp q e1 e2
  subst e1;subst e2;subst hp
  have h3:U2 P t=true:=h3
  unfold execOp;rw[fv]
  simp only[jS,ou]
  refine cE _ _ _ ?_
  cases neg<;>simp[go_sem,binOp,Op.equal,Op.maxDepth,xA (P:=P) (w:=w) 9999 h3]
 have YY:p=false->qa=.nilIface->qb=.nilIface->(execOp ρ o).run P w=.ok (.value (.bool (!neg))) w:=by
  intro hp e1 e2
  subst e1;subst e2;subst hp
  have h3:RS P t=true:=h3
  unfold execOp;rw[fv]
  simp only[jS,ou]
  refine cE _ _ _ ?_
  cases neg<;>simp[go_sem,eqGuard,binOp,Op.equal,Op.maxDepth,vE (P:=P) (w:=w) 9999 h3]
 have YZ:p=false->∀T x,qa=.iface T x->qb=.nilIface->(execOp ρ o).run P w=.ok (.value (.bool neg)) w:=by
  intro hp T x e1 e2
  subst e1;subst e2;subst hp
  have h3:RS P t=true:=h3
  unfold execOp;rw[fv]
  simp only[jS,ou]
  refine cE _ _ _ ?_
  cases neg<;>simp[go_sem,eqGuard,binOp,Op.equal,Op.maxDepth,xB (P:=P) (w:=w) 9999 h3]
 split at he
 ·simp only[ah,aw]at he
  obtain⟨_,rfl,rfl⟩:=he
  obtain rfl:=hb.dz
  cases ha with
  |bZ _ _ b' off f hX h1 hc hr=>exact bQ hs (Sh rfl _ rfl rfl) (by cases neg<;>exact .v _)
 ·rename_i f i n _ _
  cases dQ:σ.at f i with
  |none=>simp only[obj,dQ]at he;cases he
  |some ob=>
   simp only[obj,dQ,ah,aw]at he
   obtain⟨rfl,rfl,rfl⟩:=he
   obtain rfl:=hb.dz
   cases ha with
   |ptr _ _ _ _ _ _ Mr hf hle hh=>
    obtain⟨b',oz,rfl⟩:=hh ob dQ hS
    exact bQ hs (Sh rfl _ rfl rfl) (by cases neg<;>exact .v _)
 ·simp only[ah,aw]at he
  obtain⟨_,rfl,rfl⟩:=he
  obtain rfl:=ha.dz
  obtain rfl:=hb.dz
  exact bQ hs (Sh rfl _ rfl rfl) (by cases neg<;>exact .v _)
 ·simp only[ah,aw]at he
  obtain⟨_,rfl,rfl⟩:=he
  obtain rfl:=hb.dz
  cases ha with
  |l6 T _ x h=>exact bQ hs (YZ rfl _ _ rfl rfl) (by cases neg<;>exact .v _)
 ·simp only[ah,aw]at he
  obtain⟨_,rfl,rfl⟩:=he
  obtain rfl:=ha.dz
  obtain rfl:=hb.dz
  exact bQ hs (YY rfl rfl rfl) (by cases neg<;>exact .v _)
 ·cases he
end
section
variable {P:Program} {o:Oper} {ρ:Operand->Value} {w w':World} {X:Nat->Prop} {β:gr} {σ:aG} {v:O->AV}
theorem OX{S:Prop}{r:AV}{σ':aG}{k:Nat}{y z:O}(hc:ck P o.op (.F3 k y z)=true)(hs:dG w X β σ)(hv:∀x u,dt x u=true->RV w (Xt X β σ) β σ (v u) (ρ x))(he:ex (.F3 k y z) v σ=some (S,r,σ'))(hS:S):fi P o ρ w X β σ r σ':=by
 cases fv:o.op<;>rw[fv]at hc<;>try(simp[ck]at hc;done)
 rename_i t a D_ DV Sd
 cases D_<;>try(simp[ck]at hc;done)
 cases DV<;>try(simp[ck]at hc;done)
 cases Sd<;>try(simp[ck]at hc;done)
 rename_i b
 simp only[ck,ak]at hc
 obtain⟨⟨⟨h1,h2⟩,Q1⟩,h4⟩:=hc
 have Q1:k≠0:=by simpa using Q1
 cases oy:xK P t with
 |none=>rw[oy]at h4;simp at h4
 |some e=>
 rw[oy]at h4
 simp only[beq_iff_eq]at h4
 have ha:=hv a y h1
 have hb:=hv b z h2
 have hx:execOp ρ o=(do let x<-Instr.sliceAt t (ρ a) (some (ρ b)) none none;pure (.value x)):=by unfold execOp;rw[fv];rfl
 simp only[ex]at he
 generalize v y=vy at ha he
 generalize v z=vz at hb he
 generalize jS:ρ a=qa at ha
 generalize ou:ρ b=qb at hb
 split at he
 case h_2=>cases he
 rename_i f i n kk lo
 simp only[obj]at he
 cases dQ:σ.at f i with
 |none=>rw[dQ]at he;simp at he
 |some ob=>
 rw[dQ]at he
 simp only[ah,aw]at he
 obtain⟨rfl,rfl,rfl⟩:=he
 obtain⟨rfl,rfl,g0,g1⟩:=hS
 obtain rfl:=hb.dz
 have F9:(some (Value.int kk lo)=none/\lo.toNat=0)\/∃k,some (Value.int kk lo)=some (.int k lo.toNat):=.inr ⟨kk,by simp;omega⟩
 cases ha with
 |own _ _ _ _ Mr hf hle h=>
  have h':=h ob dQ rfl
  unfold kD at h'
  cases nf:β f i with
  |none=>
   rw[nf]at h'
   obtain⟨e0,rfl⟩:=h'
   have e2:lo=0:=by rw[e0]at g1;simp at g1;omega
   subst e2
   refine bQ (x:=.slice none 0 0) hs ?_ (.sub f i _ _ _ rfl hf hle fun o' dN yh=>?_)
   ·rw[hx,jS,ou]
    have hu:=iO oy
    obtain⟨i,km,_⟩:=fS h4
    refine cE _ _ _ ?_
    simp[Instr.sliceAt,Instr.slice,run_underlying hu,Instr.sliceBounds,Instr.sliceBound,asIntOf,sizeOf,typeInfo,km]
   ·rw[dQ]at dN;injection dN with dN;subst dN
    exact⟨by simp,none,0,by simp[e0],fun h=>by rw[e0]at h;simp at h⟩
  |some b'=>
   rw[nf]at h'
   obtain⟨cap,c,T,rfl,eN,vx⟩:=h'
   have ep:ob.es.length<=cap:=by
    have h2:=(hs.obj f i ob dQ).2
    rw[nf]at h2
    cases nB:ob.lp with
    |none=>
     obtain⟨c',vf,eX,_⟩:=h2.1 nB
     rw[eN]at vf;injection vf with vf;injection vf with vf _;subst vf
     rw[vx]at eX
     exact d_ eX (gA Q1)
    |some r=>rw[(h2.2 r nB).1];simp
   have eA:=qi (P:=P) (w:=w) oy h4 (b:=b') (off:=0) (len:=ob.es.length) (cap:=cap) _ none _ ob.es.length F9 (.inl ⟨rfl,rfl⟩) (by omega) ep
   refine bQ (x:=.slice (some (if cap=lo.toNat then⟨b',0,none⟩else⟨b',0+lo.toNat*ob.k,none⟩)) (ob.es.length-lo.toNat) (cap-lo.toNat)) hs ?_ (.sub f i _ _ _ rfl hf hle fun o' dN yh=>?_)
   ·rw[hx,jS,ou]
    exact cE _ _ _ eA
   ·rw[dQ]at dN;injection dN with dN;subst dN
    refine⟨by omega,_,_,rfl,fun h=>⟨b',nf,?_⟩⟩
    rw[if_neg (by omega),br]
theorem Si{S:Prop}{r:AV}{σ':aG}{T k:Nat}{z:List Value}{y:O}(hc:ck P o.op (.QL T k z y)=true)(hs:dG w X β σ)(hX:∀b,X b->b<w.heap.size)(hv:∀x u,dt x u=true->RV w (Xt X β σ) β σ (v u) (ρ x))(he:ex (.QL T k z y) v σ=some (S,r,σ'))(hS:S):fi P o ρ w X β σ r σ':=by
 cases fv:o.op<;>rw[fv]at hc<;>try(simp[ck]at hc;done)
 rename_i c
 obtain⟨Ao,args,ts⟩:=c
 cases Ao<;>try(simp[ck]at hc;done)
 rename_i bi
 cases bi<;>try(simp[ck]at hc;done)
 simp only[ck,ak]at hc
 obtain⟨h1,hc⟩:=hc
 split at hc
 case h_2=>cases hc
 rename_i t DR
 simp only[ak,beq_iff_eq]at hc
 obtain⟨⟨oy,hz⟩,I'⟩:=hc
 obtain⟨args⟩:=args
 obtain⟨ts⟩:=ts
 simp only at DR h1
 subst DR
 have nT:∃a,args=[a]/\dt a y=true:=by
  match args,h1 with
  | [a],h1=>exact⟨a,rfl,by simpa[iz]using h1⟩
  | [],h1=>simp[iz]at h1
  |_::_::_,h1=>simp[iz]at h1
 obtain⟨a,rfl,Se⟩:=nT
 have hu:=iO oy
 have ha:=hv a y Se
 have hx:execOp ρ o=(do let d<-resolve ρ ⟨.builtin .clear,#[a],#[t]⟩ o.type;invoke d.target d.args):=by unfold execOp;rw[fv]
 cases HU:yd P T with
 |none=>rw[HU]at hz;simp at hz
 |some l=>
 rw[HU]at hz
 simp only at hz
 obtain⟨rfl,xt⟩:=lz hz
 obtain⟨it,z0,lR,JU,rfl⟩:=mf HU
 simp only[dE]at I'
 simp only[ex]at he
 generalize v y=vy at ha he
 generalize jS:ρ a=qa at ha
 split at he
 case h_2=>cases he
 rename_i f i n lo
 simp only[obj]at he
 cases dQ:σ.at f i with
 |none=>rw[dQ]at he;simp at he
 |some ob=>
 rw[dQ]at he
 simp only[ah,aw]at he
 obtain⟨rfl,rfl,rfl⟩:=he
 obtain⟨hk,hn⟩:=hS
 cases ha with
 |sub _ _ _ _ _ Mr hf hle h=>
 obtain⟨h5,a',cap,rfl,h6⟩:=h ob dQ hn
 have hlen:(ob.es.take lo++List.replicate (n-lo) (vs z0.cells.toList)).length=ob.es.length:=by simp;omega
 by_cases h0:lo=ob.es.length
 ·have e1:({ob with es:=ob.es.take lo++List.replicate (n-lo) (vs z0.cells.toList)}:Ob)=ob:=by
   rw[show n-lo=0 by omega,List.replicate_zero,bb,h0,aI]
  rw[e1,j8 dQ]
  refine bQ (x:=.tuple #[]) hs ?_ (.any _)
  rw[hx]
  have e2:ob.es.length-lo=0:=by omega
  cases a'<;>simp[resolve,invoke,builtin,Builtin.clear_,run_underlying hu,jS,e2]
 ·obtain⟨bl,l7,rfl⟩:=h6 (by omega)
  have ic:=hs.obj f i ob dQ
  have F7:=ic.2
  rw[l7]at F7
  have nB:=ic.nA (e:=lo) (by omega)
  obtain⟨c,eN,eX,jN,hr⟩:=F7.1 nB
  have hm:ob.es.length-lo+lo=ob.es.length:=by omega
  have hmul:(ob.es.length-lo)*ob.k+lo*ob.k=ob.es.length*ob.k:=by rw[<-cP,hm]
  have Aq:(Builtin.zeroCells z0.cells (ob.es.length-lo)).toList.length=(ob.es.length-lo)*ob.k:=by
   rw[dE,gU,I',hk]
  have WR:∀q,q<(ob.es.length-lo)*ob.k->(Builtin.zeroCells z0.cells (ob.es.length-lo)).toList.getD q undef=z0.cells.getD (q % ob.k) undef:=by
   intro q hq
   have Q1:0<ob.k:=by
    rcases gB ob.k with e|e
    ·rw[e,Nat.mul_zero]at hq;omega
    ·exact e
   have bP:q % ob.k<z0.cells.size:=by rw[I',<-hk];exact Nat.mod_lt _ Q1
   unfold Builtin.zeroCells
   rw[I',<-hk]
   simp[ab,af,hq,bP]
  have N9:∀u∈(Builtin.zeroCells z0.cells (ob.es.length-lo)).toList,u.oneCell'=true:=by
   intro u hu
   obtain⟨q,hq,rfl⟩:=iB hu
   have h7:=WR q (by rw[<-Aq];exact hq)
   rw[ab,ae hq]at h7
   simp only[bV]at h7
   rw[h7]
   have Q1:0<ob.k:=by
    rcases gB ob.k with e|e
    ·rw[Aq,e,Nat.mul_zero]at hq;omega
    ·exact e
   have bP:q % ob.k<z0.cells.size:=by rw[I',<-hk];exact Nat.mod_lt _ Q1
   refine oK (xt _ ?_)
   rw[af,bS bP]
   simp
  have cn:=run_storeCells_at P bl (lo*ob.k) ob.T (Builtin.zeroCells z0.cells (ob.es.length-lo)).toList 0 c w eN (by rw[Aq];omega) N9
  rw[eE]at cn
  generalize yo:(c.toList.take (lo*ob.k)++(Builtin.zeroCells z0.cells (ob.es.length-lo)).toList++c.toList.drop (lo*ob.k+(Builtin.zeroCells z0.cells (ob.es.length-lo)).toList.length)).toArray=c' at cn
  have eA:(execOp ρ o).run P w=.ok (.value (.tuple #[])) (w.setRow bl c'):=by
   rw[hx]
   obtain⟨q,hq⟩:∃q,ob.es.length-lo=q+1:=⟨ob.es.length-lo-1,by omega⟩
   rw[hq]at cn jS
   simp[resolve,invoke,builtin,Builtin.clear_,run_underlying hu,jS,zeroValue,typeInfo,lR,JU,cn]
  have ud:c'.size=c.size:=by rw[<-yo];simp only[cJ,aM,bH,wW,Aq,dE];omega
  have kF:∀q,c'.getD q undef=if lo*ob.k<=q/\q<lo*ob.k+(ob.es.length-lo)*ob.k then(Builtin.zeroCells z0.cells (ob.es.length-lo)).toList.getD (q-lo*ob.k) undef else c.getD q undef:=by
   intro q
   have:=mO c.toList (Builtin.zeroCells z0.cells (ob.es.length-lo)).toList (lo*ob.k) q undef (by rw[Aq,dE];omega)
   rw[Aq]at this
   rw[<-yo,Aq]
   simpa[ab,af]using this
  have fe:∀b',β f i=some b'->dM w (w.setRow bl c') b':=by
   intro b' oz c0 T0 h0
   rw[l7]at oz;injection oz with oz;subst oz
   rw[eN]at h0;injection h0 with h0;injection h0 with h0;subst h0
   exact⟨c',ob.T,setRow_heap w bl c c' ob.T (0,0) eN,ud⟩
  have D9:=qL (c':=c') eN l7
  have K:Kp w (Xt X β σ) β σ (w.setRow bl c') (Xt X (sE β f i (β f i)) (σ.cZ f i {ob with es:=ob.es.take lo++List.replicate (n-lo) (vs z0.cells.toList)})) (sE β f i (β f i)) (σ.cZ f i {ob with es:=ob.es.take lo++List.replicate (n-lo) (vs z0.cells.toList)}):=
   Kp.jM hs dQ D9 rfl (dS hlen.symm) (fun _=>⟨rfl,fe⟩)
  have WX:∀e,e<ob.es.length->(ob.es.take lo++List.replicate (n-lo) (vs z0.cells.toList)).getD e []=if e<lo then ob.es.getD e []else vs z0.cells.toList:=by
   intro e he
   have bP:(ob.es.take lo).length=lo:=by simp;omega
   rw[ab]
   by_cases hl:e<lo
   ·rw[if_pos hl,cy (by omega),dk,if_pos hl,ab]
   ·rw[if_neg hl,bE (by omega),bP,fl,if_pos (by omega)];rfl
  have W6:(vs z0.cells.toList).length=ob.k:=by rw[pq,dE,I',hk]
  have vv:=RL.vs (w:=w.setRow bl c') (X:=Xt X (sE β f i (β f i)) (σ.cZ f i {ob with es:=ob.es.take lo++List.replicate (n-lo) (vs z0.cells.toList)})) (β:=sE β f i (β f i)) (σ:=σ.cZ f i {ob with es:=ob.es.take lo++List.replicate (n-lo) (vs z0.cells.toList)}) _ xt
  refine Bn (ob':={ob with es:=ob.es.take lo++List.replicate (n-lo) (vs z0.cells.toList)}) (x:=.tuple #[]) hs hX dQ rfl hlen.symm D9 fe eA (.inl rfl) ⟨fun e' mB=>?_,?_⟩ (.any _)
  ·simp only at mB|-
   rw[hlen]at mB
   rw[WX e' mB]
   split
   ·exact ic.1 e' mB
   ·exact W6
  ·rw[l7]
   rw[l7]at K vv
   refine⟨fun _=>⟨c',setRow_heap w bl c c' ob.T (0,0) eN,by simp only;rw[hlen,ud];exact eX,fun e' j' mB o9=>?_,fun e' j' mB o9=>?_⟩,fun r h=>(by simp only at h;rw[nB]at h;cases h)⟩
   ·simp only at mB o9|-
    rw[hlen]at mB
    rw[kF]
    split
    ·rename_i hq
     have:=N9 _ (cv (show e'*ob.k+j'-lo*ob.k<(Builtin.zeroCells z0.cells (ob.es.length-lo)).toList.length by rw[Aq];omega))
     rw[ab,ae (by rw[Aq];omega)]
     exact this
    ·exact jN e' j' mB o9
   ·simp only at mB o9|-
    rw[hlen]at mB
    rw[WX e' mB,kF]
    have OY:e'*ob.k+j'<ob.es.length*ob.k:=cr (by rw[xc];omega) (cj ob.k (show e'+1<=ob.es.length by omega))
    by_cases hl:e'<lo
    ·have Lu:e'*ob.k+j'<lo*ob.k:=cr (by rw[xc];omega) (cj ob.k (show e'+1<=lo by omega))
     rw[if_pos hl,if_neg (by omega)]
     exact(hr e' j' mB o9).tr K
    ·have Lu:lo*ob.k<=e'*ob.k:=cj ob.k (by omega)
     rw[if_neg hl,if_pos (by omega),WR _ (by omega)]
     have e3:(e'*ob.k+j'-lo*ob.k) % ob.k=j':=by
      rw[show e'*ob.k+j'-lo*ob.k=j'+(e'-lo)*ob.k by rw[Nat.sub_mul];omega,Nat.add_mul_mod_self_right,A3 o9]
     rw[e3]
     have:=(vv.2 j' (by rw[W6];exact o9)).2
     simpa[ab,af]using this
theorem OZ{S:Prop}{r:AV}{σ':aG}{T k bytes:Nat}{y z:O}(hc:ck P o.op (.F4 T k bytes y z)=true)(hs:dG w X β σ)(hX:∀b,X b->b<w.heap.size)(hv:∀x u,dt x u=true->RV w (Xt X β σ) β σ (v u) (ρ x))(he:ex (.F4 T k bytes y z) v σ=some (S,r,σ'))(hS:S):fi P o ρ w X β σ r σ':=by
 cases fv:o.op<;>rw[fv]at hc<;>try(simp[ck]at hc;done)
 rename_i cc
 obtain⟨Ao,args,ts⟩:=cc
 cases Ao<;>try(simp[ck]at hc;done)
 rename_i bi
 cases bi<;>try(simp[ck]at hc;done)
 simp only[ck,ak]at hc
 obtain⟨nT,DR⟩:=hc
 obtain⟨args⟩:=args
 obtain⟨ts⟩:=ts
 rcases args with _|⟨a,_|⟨b,_|⟨_,_⟩⟩⟩<;>simp[iz]at nT
 obtain⟨h1,h2⟩:=nT
 split at DR
 case h_2=>cases DR
 rename_i t t' DS
 simp only at DS
 subst DS
 simp only[ak,beq_iff_eq,bne_iff_ne]at DR
 obtain⟨⟨⟨⟨⟨⟨rfl,h3⟩,h4⟩,h5⟩,h6⟩,h7⟩,h8⟩:=DR
 have hu:=iO h3
 obtain⟨ie,qE,rfl⟩:=fS h4
 have Lo:ie.bytes=bytes:=by rw[qE]at h5;simpa using h5
 cases hz:yd P T with
 |none=>rw[hz]at h6;simp at h6
 |some l=>
 rw[hz]at h6
 simp only[beq_iff_eq]at h6
 obtain⟨it,z0,lR,JU,rfl⟩:=mf hz
 obtain rfl:it=ie:=by rw[qE]at lR;injection lR with lR;exact lR.symm
 have Aq:z0.cells.size=it.size:=by simpa using h6
 have ha:=hv a y h1
 have hb:=hv b z h2
 have hx:execOp ρ o=(do let d<-resolve ρ ⟨.builtin .append,#[a,b],#[t,t]⟩ o.type;invoke d.target d.args):=by unfold execOp;rw[fv]
 have eA:∀x w',(Builtin.append_ #[t,t] o.type #[ρ a,ρ b]).run P w=.ok x w'->(execOp ρ o).run P w=.ok (.value x) w':=by
  intro x w' h
  rw[hx]
  simp[resolve,invoke,builtin,h]
 simp only[ex]at he
 generalize v y=vy at ha he
 generalize v z=vz at hb he
 generalize jS:ρ a=qa at ha eA
 generalize ou:ρ b=qb at hb eA
 split at he
 case h_2=>cases he
 rename_i k' es p xs oy
 split at he
 case isFalse=>cases he
 rename_i vg;subst vg
 simp only[ah,aw]at he
 obtain⟨rfl,rfl,rfl⟩:=he
 obtain⟨hp,wL,Ga,cX,qM⟩:=hS
 have Sa:0<xs.length:=eQ.2 wL
 have aaW:0<es.length:=eQ.2 Ga
 rcases px hs hb oy hp cX with⟨h0,_⟩|⟨b',off,cap,rfl,g,hg⟩
 ·exact absurd h0 wL
 cases ha with
 |fresh _ _ _ ha ep=>
 obtain⟨a',ep⟩:=ep
 cases ha with
 |slnil=>exact absurd rfl Ga
 |k9=>exact absurd rfl Ga
 |sl _ _ b0 o0 yp f0 QR Q1 CL Y0 h10 QU=>
 injection ep with _ _ ep
 subst ep
 have Cb:=mP f0 es.length it.size
 have Sj:=rS (w:=w) (f:=f0) (n:=es.length) (k:=it.size) h7 fun e j he hj=>CL e he j hj
 have hl:=mP g xs.length it.size
 have eN:=rS (w:=w) (f:=g) (n:=xs.length) (k:=it.size) h7 fun e j he hj=>(hg e j he hj).1
 have U6:es.length+xs.length<=(es.length+xs.length)*bytes:=Nat.le_mul_of_pos_right _ (gA h8)
 have HT:=run_append_grow (P:=P) w t o.type T it z0 hu qE JU ⟨b0,o0,none⟩ es.length es.length (flat f0 es.length it.size) Cb Sj ⟨b',off,none⟩ xs.length cap (flat g xs.length it.size) hl eN
  (by omega) (by omega) (growslice_fits (by omega) (by rw[Lo];exact qM))
 have hr:=eA _ _ HT
 have As:=grownCap_ge w (es.length+xs.length) es.length T
 generalize grownCap w (es.length+xs.length) es.length T=nc at hr As
 have hh:(w.drew.alloc (.cells ((flat f0 es.length it.size).toArray++(flat g xs.length it.size).toArray++Builtin.zeroCells z0.cells (nc-(es.length+xs.length))) T)).heap=w.heap.push (.cells ((flat f0 es.length it.size).toArray++(flat g xs.length it.size).toArray++Builtin.zeroCells z0.cells (nc-(es.length+xs.length))) T (0,0)):=rfl
 have K:=Kp.same (iL hh) (fun _=>jF hh) hs
 generalize hC:(flat f0 es.length it.size).toArray++(flat g xs.length it.size).toArray++Builtin.zeroCells z0.cells (nc-(es.length+xs.length))=C at hr hh K
 have Xc:(es.length+xs.length)*it.size<=C.size:=by
  rw[<-hC];simp only[dw,cJ,Cb,hl,cP];omega
 have XU:∀e j,e<es.length->j<it.size->C.getD (e*it.size+j) undef=f0 e j:=fun e j he hj=>by
  have bP:=iE (k:=it.size) he
  rw[<-rR f0 es.length it.size e j he hj,<-hC]
  simp only[af,ab]
  rw[cA (by simp only[dw,cJ,Cb,hl];omega),cA (by simp only[cJ,Cb];omega)]
  simp
 have XV:∀e j,e<xs.length->j<it.size->C.getD ((es.length+e)*it.size+j) undef=g e j:=fun e j he hj=>by
  have bP:=iE (k:=it.size) he
  rw[<-rR g xs.length it.size e j he hj,<-hC]
  simp only[af,ab]
  rw[cP,cA (by simp only[dw,cJ,Cb,hl];omega),Array.getElem?_append_right (by simp only[cJ,Cb];omega)]
  simp only[cJ,Cb,fP]
  congr 2;omega
 refine yl hs hr hh ?_
 rw[<-aM]
 refine .sl it.size (es++xs) w.heap.size 0 nc (fun e j=>C.getD (e*it.size+j) undef) (by simp;omega) (wO (fun e he=>Q1 e he) cX) (fun e he j hj=>?_) (fun e j _ _ hx=>f_ _ (Bk hs hX hx)) (fun e j he hj=>?_) fun e j he hj=>?_
 ·simp only[aM]at he
  have:=iE (k:=it.size) he
  rw[br];exact ym hh (by omega)
 ·simp only[aM]at he
  by_cases bP:e<es.length
  ·rw[XU e j bP hj];exact h10 e j bP hj
  ·have:=XV (e-es.length) j (by omega) hj
   rw[show es.length+(e-es.length)=e by omega]at this
   rw[this];exact(hg _ _ (by omega) hj).2.1
 ·simp only[aM]at he
  rw[kG]
  by_cases bP:e<es.length
  ·rw[if_pos bP,XU e j bP hj];exact(QU e j bP hj).tr K
  ·have:=XV (e-es.length) j (by omega) hj
   rw[show es.length+(e-es.length)=e by omega]at this
   rw[if_neg bP,this];exact(hg _ _ (by omega) hj).2.2.tr K
end
section
variable {P:Program} {o:Oper} {ρ:Operand->Value} {w w':World} {X:Nat->Prop} {β:gr} {σ:aG} {v:O->AV}
theorem Ja{α:Type}{l:List α}{i:Nat}{d:α}(h:i<l.length):l.getD i d∈l:=by
 rw[ab,ae h];exact cv h
theorem O0{t e m k:Nat}(hu:P.underlying t=some (.array m e))(hs:nh P e=some k){b off:Nat}{q:IntKind}{z:Int}(h0:0<=z)(h1:z<m):(Instr.indexAt t (.pointer (some ⟨b,off,none⟩)) (.int q z)).run P w=.ok (.pointer (some ⟨b,off+z.toNat*k,none⟩)) w:=by
 obtain⟨i,hi,rfl⟩:=fS hs
 simp[Instr.indexAt,run_underlying hu,asIntOf,Instr.sureAddr,h0,h1,sizeOf,typeInfo,hi,c9]
theorem Bs{t n k:Nat}(h:(match P.underlying t with|some (.array m e)=>m==n&&nh P e==some k|_=>false)=true):∃e,P.underlying t=some (.array n e)/\nh P e=some k:=by
 split at h
 ·rename_i m e hu
  simp only[ak,beq_iff_eq]at h
  obtain⟨rfl,h⟩:=h
  exact⟨e,hu,h⟩
 ·cases h
theorem Sk{S:Prop}{r:AV}{σ':aG}{k n:Nat}{y z:O}(hc:ck P o.op (.Oz k n y z)=true)(hs:dG w X β σ)(hv:∀x u,dt x u=true->RV w (Xt X β σ) β σ (v u) (ρ x))(he:ex (.Oz k n y z) v σ=some (S,r,σ'))(hS:S):fi P o ρ w X β σ r σ':=by
 cases fv:o.op<;>rw[fv]at hc<;>try(simp[ck]at hc;done)
 rename_i t a b
 simp only[ck,ak]at hc
 obtain⟨⟨h1,h2⟩,h3⟩:=hc
 obtain⟨e,hu,eX⟩:=Bs h3
 have ha:=hv a y h1
 have hb:=hv b z h2
 have hx:execOp ρ o=(do let x<-Instr.indexAt t (ρ a) (ρ b);pure (.value x)):=by unfold execOp;rw[fv]
 simp only[ex]at he
 generalize v y=vy at ha he
 generalize v z=vz at hb he
 generalize jS:ρ a=qa at ha
 generalize ou:ρ b=qb at hb
 split at he
 case h_2=>cases he
 ·rename_i f i m e' j kk z'
  simp only[obj]at he
  cases dQ:σ.at f i with
  |none=>rw[dQ]at he;simp at he
  |some ob=>
  rw[dQ]at he
  simp only[ah,aw]at he
  obtain⟨rfl,rfl,rfl⟩:=he
  obtain⟨rfl,g0,g1⟩:=hS
  obtain rfl:=hb.dz
  cases ha with
  |ptr _ _ _ _ _ _ Mr hf hle h=>
  obtain⟨bl,l7,rfl⟩:=h ob dQ rfl
  refine bQ (x:=.pointer (some ⟨bl,e'*ob.k+j+z'.toNat*k,none⟩)) hs ?_ (.ptr f i _ _ _ _ rfl hf hle fun o' dN yh=>?_)
  ·rw[hx,jS,ou];exact cE _ _ _ (O0 hu eX g0 g1)
  ·rw[dQ]at dN;injection dN with dN;subst dN
   exact⟨bl,l7,by rw[eJ]⟩
theorem vF{n:Nat}(lo hi:Option Value)(l h:Nat)(tP:(lo=none/\l=0)\/∃k,lo=some (.int k l))(DU:(hi=none/\h=n)\/∃k,hi=some (.int k h))(h1:l<=h)(h2:h<=n):(Instr.sliceBounds false n n lo hi none).run P w=.ok (l,h,n) w:=by
 rcases tP with⟨rfl,rfl⟩|⟨k,rfl⟩<;>rcases DU with⟨rfl,rfl⟩|⟨k',rfl⟩<;>
  simp[Instr.sliceBounds,run_sliceBound h1,run_sliceBound h2]
theorem Aw{t e n s:Nat}(hu:P.underlying t=some (.array n e))(hs:nh P e=some s){b off:Nat}(lo hi:Option Value)(l h:Nat)(tP:(lo=none/\l=0)\/∃k,lo=some (.int k l))(DU:(hi=none/\h=n)\/∃k,hi=some (.int k h))(h1:l<=h)(h2:h<=n):(Instr.sliceAt t (.pointer (some ⟨b,off,none⟩)) lo hi none).run P w=.ok (.slice (some (if n=l then⟨b,off,none⟩else⟨b,off+l*s,none⟩)) (h-l) (n-l)) w:=by
 obtain⟨i,km,rfl⟩:=fS hs
 simp only[Instr.sliceAt,bx,run_underlying hu,bg,Instr.sureAddr,vF (P:=P) (w:=w) lo hi l h tP DU h1 h2,sizeOf,typeInfo,run_program,km,dD,c9]
theorem HV{lo:Option O}{D_:Option Operand}{d:Int}{q kk:IntKind}{a:Int}(h2:qo D_ lo=true)(hv:∀x u,dt x u=true->RV w (Xt X β σ) β σ (v u) (ρ x))(tP:(lo.map v).getD (.v (.int q d))=.v (.int kk a))(h0:0<=a):(D_.map ρ=none/\a=d)\/∃k,D_.map ρ=some (.int k a.toNat):=by
 cases D_ with
 |none=>
  cases lo with
  |none=>simp at tP;exact .inl ⟨rfl,tP.2.symm⟩
  |some l=>simp[qo]at h2
 |some p=>
  cases lo with
  |none=>simp[qo]at h2
  |some l=>
   have:=hv p l (by simpa[qo]using h2)
   simp at tP
   rw[tP]at this
   exact .inr ⟨kk,by simp[this.dz];omega⟩
theorem Sl{S:Prop}{r:AV}{σ':aG}{n:Nat}{y:O}{lo hi:Option O}(hc:ck P o.op (.OA n y lo hi)=true)(hs:dG w X β σ)(hv:∀x u,dt x u=true->RV w (Xt X β σ) β σ (v u) (ρ x))(he:ex (.OA n y lo hi) v σ=some (S,r,σ'))(hS:S):fi P o ρ w X β σ r σ':=by
 cases fv:o.op<;>rw[fv]at hc<;>try(simp[ck]at hc;done)
 rename_i t a D_ DV Sd
 cases Sd<;>try(simp[ck]at hc;done)
 simp only[ck,ak]at hc
 obtain⟨⟨⟨h1,h2⟩,h3⟩,h4⟩:=hc
 obtain⟨e,hu,eX⟩:=Bs h4
 have ha:=hv a y h1
 have hx:execOp ρ o=(do let x<-Instr.sliceAt t (ρ a) (D_.map ρ) (DV.map ρ) none;pure (.value x)):=by unfold execOp;rw[fv];rfl
 simp only[ex]at he
 generalize v y=vy at ha he
 generalize jS:ρ a=qa at ha
 split at he
 case h_2=>cases he
 ·rename_i f i m e' j kk pP XW km tP DU
  simp only[obj]at he
  cases dQ:σ.at f i with
  |none=>rw[dQ]at he;simp at he
  |some ob=>
  rw[dQ]at he
  simp only[ah,aw]at he
  obtain⟨rfl,rfl,rfl⟩:=he
  obtain⟨rfl,g0,g1,g2⟩:=hS
  have F9:(D_.map ρ=none/\pP.toNat=0)\/∃k,D_.map ρ=some (.int k pP.toNat):=(HV h2 hv tP g0).imp_left fun h=>⟨h.1,by omega⟩
  have F_:(DV.map ρ=none/\km.toNat=n)\/∃k,DV.map ρ=some (.int k km.toNat):=(HV h3 hv DU (by omega)).imp_left fun h=>⟨h.1,by omega⟩
  cases ha with
  |ptr _ _ _ _ _ _ Mr hf hle h=>
  obtain⟨bl,l7,rfl⟩:=h ob dQ rfl
  have eA:=Aw (P:=P) (w:=w) hu eX (b:=bl) (off:=e'*ob.k+j) _ _ _ _ F9 F_ (by omega) (by omega)
  refine bQ (x:=.slice (some (if n=pP.toNat then⟨bl,e'*ob.k+j,none⟩else⟨bl,e'*ob.k+j+pP.toNat*1,none⟩)) (km.toNat-pP.toNat) (n-pP.toNat)) hs (by rw[hx,jS];exact cE _ _ _ eA) (.vw f i _ _ _ _ _ rfl hf hle fun o' dN yh=>?_)
  rw[dQ]at dN;injection dN with dN;subst dN
  refine⟨bl,_,n-pP.toNat,l7,by rw[show(km-pP).toNat=km.toNat-pP.toNat by omega],fun h0=>?_⟩
  rw[if_neg (by omega),CD,eJ]
theorem Sm{S:Prop}{r:AV}{σ':aG}{k:Nat}{y lo hi mx:O}(hc:ck P o.op (.QM k y lo hi mx)=true)(hs:dG w X β σ)(hv:∀x u,dt x u=true->RV w (Xt X β σ) β σ (v u) (ρ x))(he:ex (.QM k y lo hi mx) v σ=some (S,r,σ'))(hS:S):fi P o ρ w X β σ r σ':=by
 cases fv:o.op<;>rw[fv]at hc<;>try(simp[ck]at hc;done)
 rename_i t a D_ DV Sd
 cases D_<;>try(simp[ck]at hc;done)
 cases DV<;>try(simp[ck]at hc;done)
 cases Sd<;>try(simp[ck]at hc;done)
 rename_i b c d
 simp only[ck,ak]at hc
 obtain⟨⟨⟨⟨h1,h2⟩,h3⟩,h3'⟩,h4⟩:=hc
 cases oy:xK P t with
 |none=>rw[oy]at h4;simp at h4
 |some e=>
 rw[oy]at h4
 simp only[beq_iff_eq]at h4
 have ha:=hv a y h1
 have hb:=hv b lo h2
 have lC:=hv c hi h3
 have hd:=hv d mx h3'
 have hx:execOp ρ o=(do let x<-Instr.sliceAt t (ρ a) (some (ρ b)) (some (ρ c)) (some (ρ d));pure (.value x)):=by unfold execOp;rw[fv];rfl
 simp only[ex]at he
 generalize v y=vy at ha he
 generalize v lo=vlo at hb he
 generalize v hi=vhi at lC he
 generalize v mx=vmx at hd he
 generalize jS:ρ a=qa at ha
 split at he
 case h_2=>cases he
 rename_i k' es k1 pP k2 km k3 YP
 split at he
 case isFalse=>cases he
 rename_i hk;subst hk
 simp only[ah,aw]at he
 obtain⟨rfl,rfl,rfl⟩:=he
 obtain⟨g0,g1,g2,g3⟩:=hS
 have hb:=hb.dz
 have lC:=lC.dz
 have hd:=hd.dz
 obtain⟨A,rfl⟩:=gn g0
 obtain⟨B,rfl⟩:=gn (show 0<=km by omega)
 obtain⟨M,rfl⟩:=gn (show 0<=YP by omega)
 simp only[Int.toNat_natCast]
 have hu:=iO oy
 obtain⟨ie,qE,HR⟩:=fS h4
 have hlen:((es.take B).drop A).length=B-A:=by simp;omega
 have eA:∀(q:Option Addr) (cap:Nat),es.length<=cap->(Instr.sliceAt t (.slice q es.length cap) (some (ρ b)) (some (ρ c)) (some (ρ d))).run P w=.ok (.slice (if M=A then q else q.map (·.add (A*k'))) (B-A) (M-A)) w:=by
  intro q cap ep
  rw[hb,lC,hd]
  simp only[Instr.sliceAt,Instr.slice,bx,run_underlying hu,bg,Instr.sliceBounds,run_sliceBound (P:=P) (w:=w) (show A<=B by omega),run_sliceBound (P:=P) (w:=w) (show B<=M by omega),run_sliceBound (P:=P) (w:=w) (show M<=cap by omega),Option.isSome_some,if_true,sizeOf,typeInfo,run_program,qE,dD,HR]
 have key:∃q cap,qa=.slice q es.length cap/\es.length<=cap:=by
  cases ha with
  |slnil=>exact⟨_,_,rfl,ar _⟩
  |k9=>exact⟨_,_,rfl,aQ _⟩
  |sl _ _ b' off cap f ep=>exact⟨_,_,rfl,ep⟩
 obtain⟨q,cap,rfl,ep⟩:=key
 by_cases h0:B-A=0
 ·refine bQ (x:=.slice (if M=A then q else q.map (·.add (A*k'))) (B-A) (M-A)) hs (by rw[hx,jS];exact cE _ _ _ (eA _ _ ep)) ?_
  have hn0:(es.take B).drop A=[]:=cd.1 (hlen.trans h0)
  rw[hn0,h0]
  cases q with
  |none=>
   have hM:M-A=0:=by
    cases ha with
    |slnil=>simp at g3;omega
   rw[hM]
   by_cases hm:M=A<;>simp[hm]<;>exact .slnil _
  |some q=>
   by_cases hm:M=A<;>simp only[hm,if_true,if_false,aY]<;>exact .k9 _ _ _
 ·cases ha with
  |slnil=>simp at g3;omega
  |k9=>simp at g3;omega
  |sl _ _ b' off cap f aaX xu eN hX Se hr=>
   refine bQ (x:=.slice (some ⟨b',off+A*k',none⟩) (B-A) (M-A)) hs ?_ ?_
   ·rw[hx,jS]
    have:=eA (some ⟨b',off,none⟩) cap ep
    rw[if_neg (by omega),aY,c9]at this
    exact cE _ _ _ this
   ·rw[<-hlen]
    refine .sl k' _ b' _ _ (fun e j=>f (A+e) j) (by rw[hlen];omega) (fun e he=>?_) (fun e he j hj=>?_) (fun e j he hj=>?_) (fun e j he hj=>?_) fun e j he hj=>?_
    all_goals rw[hlen]at he
    ·rw[mg _ _ _ _ _ he];exact xu _ (by omega)
    ·have:=eN (A+e) (by omega) j hj
     rw[cP]at this
     rw[show off+A*k'+e*k'+j=off+(A*k'+e*k')+j by omega]
     exact this
    ·exact hX (A+e) j (by omega) hj
    ·exact Se (A+e) j (by omega) hj
    ·rw[mg _ _ _ _ _ he];exact hr _ j (by omega) hj
theorem Lv{xs:List (List AV)}(h:∀x∈xs,x.length=1):∀i,i<xs.length->xs.flatten.getD i .any=(xs.getD i []).getD 0 .any:=by
 induction xs with
 |nil=>intro i hi;simp at hi
 |cons x r ih=>
  intro i hi
  obtain⟨y,rfl⟩:=cq.1 (h x (by simp))
  cases i with
  |zero=>rfl
  |succ i=>
   have:=ih (fun z hz=>h z (by simp[hz])) i (by simpa using hi)
   simpa using this
theorem Lw{xs:List (List AV)}(h:∀x∈xs,x.length=1):xs.flatten.length=xs.length:=by
 induction xs with
 |nil=>rfl
 |cons x r ih=>simp[ih (fun z hz=>h z (by simp[hz])),h x (by simp),Nat.add_comm]
theorem Sn{S:Prop}{r:AV}{σ':aG}{y z:O}(hc:ck P o.op (.OB y z)=true)(hs:dG w X β σ)(hX:∀b,X b->b<w.heap.size)(hv:∀x u,dt x u=true->RV w (Xt X β σ) β σ (v u) (ρ x))(he:ex (.OB y z) v σ=some (S,r,σ'))(hS:S):fi P o ρ w X β σ r σ':=by
 cases fv:o.op<;>rw[fv]at hc<;>try(simp[ck]at hc;done)
 rename_i c
 obtain⟨Ao,args,ts⟩:=c
 cases Ao<;>try(simp[ck]at hc;done)
 rename_i bi
 cases bi<;>try(simp[ck]at hc;done)
 simp only[ck,ak]at hc
 obtain⟨h1,hc⟩:=hc
 split at hc
 case h_2=>cases hc
 rename_i t t2 DR
 obtain⟨args⟩:=args
 obtain⟨ts⟩:=ts
 simp only at DR h1
 subst DR
 have nT:∃a b,args=[a,b]/\dt a y=true/\dt b z=true:=by
  match args,h1 with
  | [a,b],h1=>exact⟨a,b,rfl,by simpa[iz]using h1⟩
  | [],h1=>simp[iz]at h1
  | [_],h1=>simp[iz]at h1
  |_::_::_::_,h1=>simp[iz]at h1
 obtain⟨a,b,rfl,Y1,Na⟩:=nT
 cases oy:xK P t with
 |none=>rw[oy]at hc;simp at hc
 |some e=>
 rw[oy]at hc
 simp only[beq_iff_eq]at hc
 have hu:=iO oy
 obtain⟨ie,qE,HR⟩:=fS hc
 have O1:(P.info? e).map (·.size)=some 1:=by rw[qE,aY,HR]
 have ha:=hv a y Y1
 have hb:=hv b z Na
 have hx:∀(vd XX res:Value) (w2:World),ρ a=vd->ρ b=XX->(Builtin.copy_ #[t,t2] o.type #[vd,XX]).run P w=.ok res w2->(execOp ρ o).run P w=.ok (.value res) w2:=by
  intro vd XX res w2 e1 e2 h
  have:execOp ρ o=(do let d<-resolve ρ ⟨.builtin .copy,#[a,b],#[t,t2]⟩ o.type;invoke d.target d.args):=by unfold execOp;rw[fv]
  rw[this]
  simp[resolve,invoke,builtin,e1,e2,h]
 simp only[ex]at he
 generalize v y=vy at ha he
 generalize v z=vz at hb he
 generalize jS:ρ a=qa at ha
 generalize ou:ρ b=qb at hb
 split at he
 case h_2=>cases he
 rename_i f i m e' j c p xs Y2
 simp only[obj]at he
 cases dQ:σ.at f i with
 |none=>rw[dQ]at he;simp at he
 |some ob=>
 rw[dQ]at he
 simp only[ah,aw]at he
 obtain⟨rfl,rfl,rfl⟩:=he
 obtain⟨hp,Lx,hn,hem,hj⟩:=hS
 cases ha with
 |vw _ _ _ _ _ _ _ Mr hf hle h=>
 obtain⟨bl,ad,cap,l7,rfl,XY⟩:=h ob dQ hn
 have cX:∀q,q<xs.length->(xs.getD q []).length=1:=fun q hq=>Lx _ (Ja hq)
 have ic:=hs.obj f i ob dQ
 have F7:=ic.2
 rw[l7]at F7
 have nB:=ic.nA (e:=e') (by omega)
 obtain⟨cc,eN,eX,jN,hr⟩:=F7.1 nB
 have O2:(xs.take c).flatten.length=min c xs.length:=by
  rw[Lw fun x hx=>Lx x (dx hx),bH]
 have sI:=ic.1 e' (by omega)
 have tc:e'*ob.k+ob.k<=cc.size:=bT (iE (by omega)) eX
 have QV:min c xs.length=0->∀q sl sc,sl=xs.length->qb=.slice q sl sc->fi P o ρ w X β σ (.v (.int .i64 (min c xs.length:Nat))) (σ.cZ f i {ob with es:=ob.es.set e' (jL (ob.es.getD e' []) j ((xs.take c).flatten))}):=by
  intro h0 q sl sc Uv hq
  have te:(xs.take c).flatten=[]:=cd.1 (by rw[O2,h0])
  have e1:({ob with es:=ob.es.set e' (jL (ob.es.getD e' []) j ((xs.take c).flatten))}:Ob)=ob:=by
   rw[te]
   unfold jL
   rw[bb,bM,eE,e_]
   have:ob.es.set e' (ob.es.getD e' [])=ob.es:=by
    rw[ab,ae (by omega),bV,gK]
   rw[this]
  rw[e1,j8 dQ,h0]
  refine bQ (x:=.int .i64 0) hs ?_ (.v _)
  exact hx _ _ _ _ jS (ou.trans hq) (run_copy_none (P:=P) w t t2 o.type e (some ad) q c cap sl sc hu O1 (by rw[Uv];exact(Nat.min_comm _ _).trans h0))
 rcases px hs hb Y2 hp cX with⟨rfl,q,sc,hq⟩|⟨b',off,sc,hq,g,hg⟩
 ·exact QV (by simp) q 0 sc rfl hq
 ·by_cases h0:min c xs.length=0
  ·exact QV h0 _ _ sc rfl hq
  ·obtain rfl:=XY (by omega)
   have Uw:∀q,q<min c xs.length->w.cell? ⟨b',off+q,none⟩=some (g q 0)/\(g q 0).oneCell'=true/\RV w (Xt X β σ) β σ ((xs.getD q []).getD 0 .any) (g q 0):=fun q hq=>by
    have:=hg q 0 (by omega) (by omega)
    simpa using this
   have vv:RL w (Xt X β σ) β σ (xs.take c).flatten ((List.range (min c xs.length)).map fun q=>g q 0):=by
    refine⟨by rw[O2];simp,fun q hq=>?_⟩
    rw[O2]at hq
    have e2:((List.range (min c xs.length)).map fun q=>g q 0).getD q undef=g q 0:=by
     rw[ab,aV,cH hq];rfl
    have e3:(xs.take c).flatten.getD q .any=(xs.getD q []).getD 0 .any:=by
     rw[Lv (fun x hx=>Lx x (dx hx)) q (by rw[bH];exact hq)]
     rw[ab (l:=xs.take c),dk,if_pos (by omega),<-ab]
    rw[e2,e3]
    exact(Uw q hq).2
   have D7:=run_copy_row (P:=P) w t t2 o.type e bl (e'*ob.k+j) c cap ⟨b',off,none⟩ xs.length sc cc ob.T ((List.range (min c xs.length)).map fun q=>g q 0) hu O1 eN
    (by simp[Nat.min_comm]) (fun q u hq=>by
     rw[aV]at hq
     by_cases Sq:q<min c xs.length
     ·rw[cH Sq]at hq
      simp only[aY,ah]at hq
      rw[c9,(Uw q Sq).1,hq]
     ·rw[b_ (by simpa using Sq)]at hq;cases hq) (by simp;omega) (fun u FP=>by
     obtain⟨q,hq,rfl⟩:=aO.1 FP
     exact(Uw q (bc.1 hq)).2.1)
   refine yn (x:=.int .i64 (min c xs.length:Nat)) hs hX dQ l7 (by omega) eN eX jN hr (by rw[O2];omega) vv ?_ (.inl rfl) (.inr rfl)
   refine hx _ _ _ _ jS (ou.trans hq) ?_
   rw[D7]
   simp[goInt]
end
def I.plain:I->Bool
 | .pick ..| .call ..| .inv ..=>false
 |_=>true
theorem Ly{P:Program}{o:Oper}{ρ:Operand->Value}{w:World}{X:Nat->Prop}{β:gr}{σ:aG}{v:O->AV}{S:Prop}{r:AV}{σ':aG}{i:I}(hc:ck P o.op i=true)(hs:dG w X β σ)(hX:∀b,X b->b<w.heap.size)(hv:∀x z,dt x z=true->RV w (Xt X β σ) β σ (v z) (ρ x))(he:ex i v σ=some (S,r,σ'))(hS:S):fi P o ρ w X β σ r σ':=by
 cases i with
 |mv y=>exact U3 hc hs (fun x z h _=>hv x z h) he hS
 |pick a b c=>simp[ex]at he
 |alloc T k z=>exact Ll hc hs hX he
 |box own T k x=>exact R8 hc hs hX hv he
 |build z ps=>exact Lj hc hs hv he hS
 |jR own T k n z ps=>exact R9 hc hs hX hv he
 |D1 T k n z ps=>exact OK hc hs hX hv he
 |load s a=>exact OE hc hs (fun x z h _=>hv x z h) he hS
 |store s a x=>exact Lm hc hs hX hv he hS
 |bin op x y=>exact RU hc hs (fun x z h _=>hv x z h) he hS
 |eqs neg ks x y=>exact Sf hc hs hv he
 |Ox neg x y=>exact RY hc hs (fun x z h _=>hv x z h) he hS
 |un op x=>exact U4 hc hs (fun x z h _=>hv x z h) he hS
 |tZ off x=>exact Lf hc hs (fun x z h _=>hv x z h) he hS
 |field off s x=>exact Lg hc hs (fun x z h _=>hv x z h) he hS
 |qe k x i=>exact Lh hc hs (fun x z h _=>hv x z h) he hS
 |ext i x=>exact RZ hc hs (fun x z h _=>hv x z h) he hS
 |len x=>exact R0 hc hs (fun x z h _=>hv x z h) he hS
 |tN mx x y=>exact R4 hc hs (fun x z h _=>hv x z h) he hS
 |Oy mx x y z=>exact R5 hc hs (fun x z h _=>hv x z h) he hS
 |app T k bytes s x=>exact R_ hc hs hX hv he hS
 |vq T k bytes z l c=>exact OM hc hs hX hv he hS
 |slice k x lo hi=>exact Lr hc hs hv he hS
 |j5 f a b=>exact OG hc hs (fun x z h _=>hv x z h) he hS
 |dY x=>exact OH hc hs (fun x z h _=>hv x z h) he hS
 |l6 T x=>exact R3 hc hs (fun x z h _=>hv x z h) he hS
 |call f as_=>simp[ex]at he
 |bad=>simp[ex]at he
 |Ak T k bytes s x=>simp[ex]at he
 |Am T k n z ps=>simp[ex]at he
 |inv nm x as_=>simp[ex]at he
 |qH neg x y=>exact OJ hc hs (fun x z h _=>hv x z h) he hS
 |qn n=>exact OP hc hs hX he
 |look n ag z ok m k=>exact OS hc hs hv he
 |pR n m k x=>exact OT hc hs hX hv he
 |yb n ag z m k=>exact OU hc hs hX hv he
 |F3 k x lo=>exact OX hc hs hv he hS
 |F4 T k bytes s x=>exact OZ hc hs hX hv he hS
 |QL T k z x=>exact Si hc hs hX hv he hS
 |N6 k x=>exact RW hc hs (fun x z h _=>hv x z h) he hS
 |Oz k n x i=>exact Sk hc hs hv he hS
 |OA n x lo hi=>exact Sl hc hs hv he hS
 |OB x y=>exact Sn hc hs hX hv he hS
 |QM k x lo hi mx=>exact Sm hc hs hv he hS
 |La n m s x=>exact Sg hc hs hX hv he hS
 |An p neg x y=>exact OW hc hs (fun x z h=>hv x z h) he hS
theorem Kp.trans{w w' N7:World}{X X' Ys:Nat->Prop}{β β' Lc:gr}{σ σ' Ld:aG}(h:Kp w X β σ w' X' β' σ')(h':Kp w' X' β' σ' N7 Ys Lc Ld):Kp w X β σ N7 Ys Lc Ld where
 size:=bT h.size h'.size
 I1 b o hc hF hn:=by
  have h1:=h.I1 b o hc hF hn
  rw[h'.I1 b o (h1.trans hc) hF (fun hx=>hn (h.Aj b (ib hc) hx)),h1]
 Aj b hb hx:=h.Aj b hb (h'.Aj b (cr hb h.size) hx)
 len:=bT h.len h'.len
 wI f i Lb hf ho:=by
  obtain⟨o',dN,xu,Av,nM⟩:=h'.wI f i Lb (cr hf h.len) ho
  obtain⟨o,ho,hk,hl,hs⟩:=h.wI f i o' hf dN
  refine⟨o,ho,hk.trans xu,bT hl Av,fun he=>?_⟩
  obtain⟨h1,h2⟩:=hs (by omega)
  obtain⟨h3,h4⟩:=nM (by omega)
  refine⟨h3.trans h1,fun b hb c T hc=>?_⟩
  obtain⟨c',T',vf,e1⟩:=h2 b hb c T hc
  obtain⟨c'',T'',Y3,e2⟩:=h4 b (h1.trans hb) c' T' vf
  exact⟨c'',T'',Y3,e2.trans e1⟩
theorem Kp.refl{w:World}{X:Nat->Prop}{β:gr}{σ:aG}:Kp w X β σ w X β σ where
 size:=ar _
 I1 _ _ _ _ _:=rfl
 Aj _ _ h:=h
 len:=ar _
 wI f i o _ ho:=⟨o,ho,rfl,ar _,fun _=>⟨rfl,fun b _=>dM.refl w b⟩⟩
abbrev e7:=Exit->Env->aG->Prop
def tg:Option Nat->Fence
 |none=>Fence.wide
 |some l=>Fence.wide.inRound l
structure lY(N n0:Nat)(X:Nat->Prop)(env:Env)(σ:aG)(β:gr)(a:Act)(w:World):Prop where
 sz:a.tmps.size=N
 df:∃rs:List Nat,rs.Nodup/\a.defers=rs.map (fun r=>{target:=.collected r,args:=#[]})/\∀r∈rs,w.heap[r]?=some (.deferred (some []))/\¬Xt X β σ r/\n0<=r
 bd:∀b,X b->b<w.heap.size
 nb:n0<=w.heap.size
 sr:dG w X β σ
 ev:∀s,RV w (Xt X β σ) β σ (gt env s) (a.tmps.getD s undef)
def nC(N n0:Nat)(X:Nat->Prop)(w:World)(β:gr)(σ:aG)(K:e7):Exit->Act->World->Prop:=fun e a' w'=>
 ∃dj σ' β',K e dj σ'/\lY N n0 X dj σ' β' a' w'/\Ext w β σ w' β' σ'/\Kp w (Xt X β σ) β σ w' (Xt X β' σ') β' σ'
theorem nC.trans{N n0:Nat}{X:Nat->Prop}{w w1:World}{β lf:gr}{σ lN:aG}{K:e7}(he:Ext w β σ w1 lf lN)(hk:Kp w (Xt X β σ) β σ w1 (Xt X lf lN) lf lN){e:Exit}{a:Act}{w2:World}(h:nC N n0 X w1 lf lN K e a w2):nC N n0 X w β σ K e a w2:=by
 obtain⟨dj,σ',β',h1,h2,h3,h4⟩:=h
 exact⟨dj,σ',β',h1,h2,he.trans h3,hk.trans h4⟩
def Sr(P:Program)(N:Nat)(rd:Option Nat)(c:Code)(K:e7)(env:Env)(σ:aG):Prop:=
 ∀n0 X β a w,lY N n0 X env σ β a w->c.wpIn (tg rd) 0 P (nC N n0 X w β σ K) a w
def Kl(live:List Nat)(K:e7):e7:=fun e env σ=>
 match e with
 | .normal=>K .normal (tb live env) σ
 |e=>K e env σ
def ui(P:Program)(N:Nat)(ops:Array Oper)(o:Oper)(j:J):Bool:=
 o.dst==j.d&&(match j.d with|some d=>decide (d<N)|none=>true)&&ck P o.op j.i&&
 (match o.guard,j.g with
  |none,none=>true
  |some (g,b),some (s,b')=>b==b'&&(ops[g]?).bind (·.dst)==some s&&j.i.calm&&j.d.isSome&&decide (s<N)
  |_,_=>false)
def qt(P:Program)(N:Nat)(ops:Array Oper):List Nat->List J->Bool
 | [],[]=>true
 |i::is,j::js=>(match ops[i]? with|some o=>ui P N ops o j|none=>false)&&qt P N ops is js
 |_,_=>false
def N_(P:Program)(N:Nat)(rd:Option Nat)(l:List J)(live:List Nat)(K:e7)(env:Env)(σ:aG):Prop:=
 ∀ops is,qt P N ops is l=true->∀n0 X β a w,lY N n0 X env σ β a w->wpOpsIn (tg rd) 0 P ops (nC N n0 X w β σ (Kl live K)) is a w
structure eY(P:Program)(f:Nat)(args:List AV)(σ:aG)(R:AV->aG->Prop):Prop where
 N':∀as_ w,(callFunc f as_).run P w=.ok (.enter f as_) w
 go:∀(X:Nat->Prop) (β:gr) (w:World) (xs:List Value),(∀b,X b->b<w.heap.size)->dG w X β σ->xs.length=args.length->
  (∀i,i<args.length->RV w (Xt X β σ) β σ (args.getD i .any) (xs.getD i undef))->
  CallsIn Fence.wide 0 P f xs.toArray w fun e w'=>∃x r σ' β',e=.returned x/\R r σ'/\dG w' X β' σ'/\RV w' (Xt X β' σ') β' σ' r x/\Ext w β σ w' β' σ'/\
   Kp w (Xt X β σ) β σ w' (Xt X β' σ') β' σ'
def sJ:gr:=fun _ _=>none
structure Pure(P:Program)(f:Nat)(args:List AV)(r:AV):Prop where
 N':∀as_ w,(callFunc f as_).run P w=.ok (.enter f as_) w
 go:∀(X:Nat->Prop) (w:World) (xs:List Value),(∀b,X b->b<w.heap.size)->xs.length=args.length->(∀i,i<args.length->RV w X sJ [] (args.getD i .any) (xs.getD i undef))->
  CallsIn Fence.wide 0 P f xs.toArray w fun e w'=>∃x,e=.returned x/\RV w' X sJ [] r x/\w.heap.size<=w'.heap.size/\(∀b,b<w.heap.size->w'.heap[b]?=w.heap[b]?)/\Still w w'
def bC(v:AV):Prop:=∀w X β σ x,RV w X β σ v x->RV w X sJ [] v x
theorem RV.out{w:World}{X:Nat->Prop}{β:gr}{σ:aG}{v:AV}{x:Value}(h:RV w X sJ [] v x):RV w X β σ v x:=by
 induction h with
 |v x=>exact .v x
 |any x=>exact .any x
 |agg cs xs hn h1 _ ih=>exact .agg cs xs hn h1 ih
 |iu cs xs hn _ ih=>exact .iu cs xs hn ih
 |slnil k=>exact .slnil k
 |k9 k a cap=>exact .k9 k a cap
 |sl k es b o cap x ep hk hc hX h1 _ ih=>exact .sl k es b o cap x ep hk hc hX h1 ih
 |own f i n x h1 hf=>exact absurd hf (aN _)
 |sub f i n lo x h1 hf=>exact absurd hf (aN _)
 |fresh k es x _ hc ih=>exact .fresh k es x ih hc
 |tight f i n x _ hc ih=>exact .tight f i n x ih hc
 |ptr f i n e j x h1 hf=>exact absurd hf (aN _)
 |vw f i n e j m x h1 hf=>exact absurd hf (aN _)
 |bZ cs j b o x hX h1 hc _ ih=>exact .bZ cs j b o x hX h1 hc ih
 |fn f first cap xs ys hn hm _ _ ih U0=>exact .fn f first cap xs ys hn hm ih U0
 |Ai f x h1 hf h=>exact absurd hf (aN _)
 |mp f x h1 hf h=>exact absurd hf (aN _)
 |j4 n es b m cl hb hX hl hk _ ih=>exact .j4 n es b m cl hb hX hl hk ih
 |l6 t a x _ ih=>exact .l6 t a x ih
 |when c a x _ h' ih=>exact .when c a x ih h'
@[simp] theorem bC.v(x:Value):bC (.v x):=fun w X β σ y h=>by cases h;exact .v _
theorem bC.j4{n:Nat}{es:List (List Int×AV)}(h:∀e∈es,bC e.2):bC (.j4 n es):=fun w X β σ y hy=>by
 cases hy with
 |j4 _ _ b m cl hb hX hl hk hr=>
  refine .j4 n es b m cl hb hX hl hk fun i hi=>h _ ?_ _ _ _ _ _ (hr i hi)
  rw[ab,ae hi];exact cv hi
@[simp] theorem bC.any:bC .any:=fun w X β σ y h=>.any _
theorem j9{α:Type}{l:List α}{i:Nat}{d:α}(h:i<l.length):l.getD i d∈l:=by
 rw[ab,ae h];exact cv h
@[simp] theorem bC.agg{cs:List AV}(h:∀c∈cs,bC c):bC (.agg cs):=fun w X β σ y hy=>by
 cases hy with
 |agg _ xs hn h1 hr=>exact .agg cs xs hn h1 fun i hi=>h _ (j9 hi) _ _ _ _ _ (hr i hi)
@[simp] theorem bC.iu{cs:List AV}(h:∀c∈cs,bC c):bC (.iu cs):=fun w X β σ y hy=>by
 cases hy with
 |iu _ xs hn hr=>exact .iu cs xs hn fun i hi=>h _ (j9 hi) _ _ _ _ _ (hr i hi)
@[simp] theorem bC.sl{k:Nat}{es:List (List AV)}(h:∀e∈es,∀c∈e,bC c):bC (.sl k es):=fun w X β σ y hy=>by
 cases hy with
 |slnil=>exact .slnil k
 |k9 _ a cap=>exact .k9 k a cap
 |sl _ _ b o cap x ep hk hc hX h1 hr=>exact .sl k es b o cap x ep hk hc hX h1 fun e j he hj=>h _ (j9 he) _ (j9 (by rw[hk e he];exact hj)) _ _ _ _ _ (hr e j he hj)
@[simp] theorem bC.bZ{cs:List AV}{j:Nat}(h:∀c∈cs,bC c):bC (.bZ cs j):=fun w X β σ y hy=>by
 cases hy with
 |bZ _ _ b o x hX h1 hc hr=>exact .bZ cs j b o x hX h1 hc fun t ht=>h _ (j9 ht) _ _ _ _ _ (hr t ht)
@[simp] theorem bC.fn{f:Fn}{as_ bs:List AV}(h:∀c∈as_,bC c)(h':∀c∈bs,bC c):bC (.fn f as_ bs):=fun w X β σ y hy=>by
 cases hy with
 |fn _ _ _ xs ys hn hm hr wN=>exact .fn f as_ bs xs ys hn hm (fun i hi=>h _ (j9 hi) _ _ _ _ _ (hr i hi)) fun i hi=>h' _ (j9 hi) _ _ _ _ _ (wN i hi)
@[simp] theorem bC.l6{t:TypeId}{a:AV}(h:bC a):bC (.l6 t a):=fun w X β σ y hy=>by
 cases hy with
 |l6 _ _ x hr=>exact .l6 t a x (h _ _ _ _ _ hr)
structure jg(P:Program)(f:Nat)(args:List AV)(σ:aG)(r:AV):Prop where
 N':∀as_ w,(callFunc f as_).run P w=.ok (.enter f as_) w
 go:∀(X:Nat->Prop) (β:gr) (w:World) (xs:List Value),(∀b,X b->b<w.heap.size)->dG w X β σ->xs.length=args.length->
  (∀i,i<args.length->RV w (Xt X β σ) β σ (args.getD i .any) (xs.getD i undef))->
  CallsIn Fence.wide 0 P f xs.toArray w fun e w'=>∃x,e=.returned x/\RV w' (Xt X β σ) sJ [] r x/\w.heap.size<=w'.heap.size/\(∀b,b<w.heap.size->w'.heap[b]?=w.heap[b]?)/\Still w w'
theorem jg.of{P:Program}{f:Nat}{args:List AV}{σ:aG}{r:AV}(hp:∀a∈args,bC a)(h:Pure P f args r):jg P f args σ r:=
 ⟨h.N',fun X β w xs hX hs hl hr=>h.go (Xt X β σ) w xs (fun b hb=>Bk hs hX hb) hl fun i hi=>hp _ (j9 hi) _ _ _ _ _ (hr i hi)⟩
theorem o_{N n0:Nat}{X:Nat->Prop}{env:Env}{σ:aG}{β:gr}{a:Act}{w:World}(cn:lY N n0 X env σ β a w){x:Operand}{o:O}(h:dt x o=true):RV w (Xt X β σ) β σ (ov env o) (a.eval x):=by
 unfold dt at h
 split at h
 ·simp at h;subst h;exact cn.ev _
 ·obtain⟨rfl,_⟩:=B_ h;exact .v _
 ·obtain⟨rfl,xt⟩:=lz h
  have:=(RL.vs (w:=w) (X:=Xt X β σ) (β:=β) (σ:=σ) _ xt).agg
  simp only[Array.toArray_toList]at this
  exact this
 ·simp at h;subst h
  exact .fn _ _ _ _ _ rfl rfl (fun i hi=>absurd hi (aN _)) (fun i hi=>absurd hi (aN _))
 ·cases h
theorem mh{w:World}{X:Nat->Prop}{β:gr}{σ:aG}{v:AV}{x:Value}(h:RV w X β σ v x)(hc:qD v=true):RV w X β σ (bu v) x:=by
 cases h with
 |when c a x h h'=>exact h hc
 |_=>constructor<;>assumption
theorem pz{i:I}{v v':O->AV}{σ:aG}(h:∀o∈i.os,v o=v' o):ex i v σ=ex i v' σ:=by
 cases i with
 |build z ps=>
  have:(ps.map fun p=>(p.1,p.2.1,v p.2.2))=ps.map fun p=>(p.1,p.2.1,v' p.2.2):=
   eS fun p hp=>by rw[h p.2.2 (by simp only[I.os,aO];exact⟨p,hp,rfl⟩)]
  simp only[ex,this]
 |jR own T k n z ps=>
  have:(ps.map fun p=>(p.1,p.2.1,v p.2.2))=ps.map fun p=>(p.1,p.2.1,v' p.2.2):=
   eS fun p hp=>by rw[h p.2.2 (by simp only[I.os,aO];exact⟨p,hp,rfl⟩)]
  simp only[ex,this]
 |D1 T k n z ps=>
  have:(ps.map fun p=>(p.1,p.2.1,v p.2.2))=ps.map fun p=>(p.1,p.2.1,v' p.2.2):=
   eS fun p hp=>by rw[h p.2.2 (by simp only[I.os,aO];exact⟨p,hp,rfl⟩)]
  simp only[ex,this]
 |j5 f a b=>
  have h1:a.map v=a.map v':=eS fun p hp=>h p (by simp[I.os,hp])
  have h2:b.map v=b.map v':=eS fun p hp=>h p (by simp[I.os,hp])
  simp only[ex,h1,h2]
 |slice k x lo hi=>
  have h0:=h x (by simp[I.os])
  have h1:lo.map v=lo.map v':=by cases lo with|none=>rfl|some l=>simp[h l (by simp[I.os])]
  have h2:hi.map v=hi.map v':=by cases hi with|none=>rfl|some l=>simp[h l (by simp[I.os])]
  simp only[ex,h0,h1,h2]
 |alloc T k z=>rfl
 |pick a b c=>rfl
 |bad=>rfl
 |Ak T k bytes s x=>rfl
 |Am T k n z ps=>rfl
 |inv nm x as_=>rfl
 |qH neg a x=>simp only[ex,h a (by simp[I.os]),h x (by simp[I.os])]
 |call f as_=>rfl
 |mv x=>simp only[ex,h x (by simp[I.os])]
 |box own T k x=>simp only[ex,h x (by simp[I.os])]
 |load s x=>simp only[ex,h x (by simp[I.os])]
 |store s a x=>simp only[ex,h a (by simp[I.os]),h x (by simp[I.os])]
 |bin op a x=>simp only[ex,h a (by simp[I.os]),h x (by simp[I.os])]
 |eqs neg ks a x=>simp only[ex,h a (by simp[I.os]),h x (by simp[I.os])]
 |Ox neg a x=>simp only[ex,h a (by simp[I.os]),h x (by simp[I.os])]
 |un op x=>simp only[ex,h x (by simp[I.os])]
 |tZ off x=>simp only[ex,h x (by simp[I.os])]
 |field off s x=>simp only[ex,h x (by simp[I.os])]
 |qe k a x=>simp only[ex,h a (by simp[I.os]),h x (by simp[I.os])]
 |ext i x=>simp only[ex,h x (by simp[I.os])]
 |len x=>simp only[ex,h x (by simp[I.os])]
 |Oy mx a x y=>simp only[ex,h a (by simp[I.os]),h x (by simp[I.os]),h y (by simp[I.os])]
 |tN mx a x=>simp only[ex,h a (by simp[I.os]),h x (by simp[I.os])]
 |app T k bytes a x=>simp only[ex,h a (by simp[I.os]),h x (by simp[I.os])]
 |vq T k bytes z a x=>simp only[ex,h a (by simp[I.os]),h x (by simp[I.os])]
 |dY x=>simp only[ex,h x (by simp[I.os])]
 |l6 T x=>simp only[ex,h x (by simp[I.os])]
 |qn n=>rfl
 |look n ag z ok m k=>simp only[ex,h m (by simp[I.os]),h k (by simp[I.os])]
 |pR n m k x=>simp only[ex,h m (by simp[I.os]),h k (by simp[I.os]),h x (by simp[I.os])]
 |F4 T k bytes a x=>simp only[ex,h a (by simp[I.os]),h x (by simp[I.os])]
 |F3 k a x=>simp only[ex,h a (by simp[I.os]),h x (by simp[I.os])]
 |QL T k z x=>simp only[ex,h x (by simp[I.os])]
 |N6 k x=>simp only[ex,h x (by simp[I.os])]
 |Oz k n x i=>simp only[ex,h x (by simp[I.os]),h i (by simp[I.os])]
 |OB x i=>simp only[ex,h x (by simp[I.os]),h i (by simp[I.os])]
 |QM k x lo hi mx=>simp only[ex,h x (by simp[I.os]),h lo (by simp[I.os]),h hi (by simp[I.os]),h mx (by simp[I.os])]
 |OA n x lo hi=>
  have h0:=h x (by simp[I.os])
  have h1:lo.map v=lo.map v':=by cases lo with|none=>rfl|some l=>simp[h l (by simp[I.os])]
  have h2:hi.map v=hi.map v':=by cases hi with|none=>rfl|some l=>simp[h l (by simp[I.os])]
  simp only[ex,h0,h1,h2]
 |yb n ag z m k=>simp only[ex,h m (by simp[I.os]),h k (by simp[I.os])]
 |La n m s x=>simp only[ex,h m (by simp[I.os]),h s (by simp[I.os]),h x (by simp[I.os])]
 |An p neg a x=>simp only[ex,h a (by simp[I.os]),h x (by simp[I.os])]
theorem xO{i:I}{v:O->AV}{σ:aG}{S:Prop}{r:AV}{σ':aG}(hc:i.calm=true)(h:ex i v σ=some (S,r,σ')):σ'=σ:=by
 cases i<;>simp only[ex,obj,I.calm,db,bw,reduceCtorEq]at h hc
 all_goals
  (try subst hc)
  repeat' (split at h)
  all_goals first
   |contradiction
   |(simp only[ah,aw]at h;exact h.2.2.symm)
theorem fO{g:Bool}{env:Env}:∀{os:List O},j7 g env os->g=true->∀o∈os,qD (ov env o)=true
 | [],_,_,o,ho=>absurd ho (au)
 |a::os,h,hg,o,ho=>by
  rcases aC.1 ho with rfl|ho
  ·exact h.1 hg
  ·exact fO h.2 hg o ho
theorem kH{P:Program}{N n0:Nat}{X:Nat->Prop}{env:Env}{σ:aG}{β:gr}{a:Act}{w:World}{o:Oper}{i:I}{S:Prop}{r:AV}{σ':aG}(cn:lY N n0 X env σ β a w)(hc:ck P o.op i=true)(iW:∀o∈i.os,qD (ov env o)=true)(he:ex i (fun o=>bu (ov env o)) σ=some (S,r,σ'))(hS:S):fi P o a.eval w X β σ r σ':=by
 have KR:ex i (fun o=>if qD (ov env o)then bu (ov env o)else .any) σ=some (S,r,σ'):=by
  rw[<-he];exact pz fun o ho=>by simp[iW o ho]
 refine Ly hc cn.sr cn.bd (fun x z h=>?_) KR hS
 have:=o_ cn h
 split
 ·exact mh this ‹_›
 ·exact .any _
end Go.Abs
