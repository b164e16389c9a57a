/- Part 7 of the texts: abstract values over the walk; contracts. -/
import Derived.Test.YtgopgjnfhkoomaaGreatBu4
import Derived.WalkKit
import Derived.Shelf.SlSortCmp.NoneTotal
set_option linter.unusedVariables false
set_option linter.unusedSimpArgs false
namespace Go.Abs
open Go.Shelf Go.RowKit Go.Lib Go.Sort Go.Proofs
structure oD(A:Type)(k:Nat)(ok:A->List Value->Prop)where
 a:A
 c:List Value
 hk:c.length=k
 h1:∀v∈c,v.oneCell'=true
 h:ok a c
theorem AX{α:Type} [Inhabited α]{enc:α->List Value}{k:Nat}(hk:∀x,(enc x).length=k){w:World}{b n:Nat}{d d':Array α}{os:Array Obj}{c:Array Value}{T:TypeId}(hc:w.heap[b]?=some (.cells c T (0,0)))(hs:d'.size=d.size)(hH:HoldsK enc k w b 0 d):(∃c',(sortWorldK enc k w b 0 n d' os).heap[b]?=some (.cells c' T (0,0))/\c'.size=c.size/\∀i j,i<d.size->j<k->c'.getD (i*k+j) undef=((enc d'[i]!).getD j undef))/\w.heap.size<=(sortWorldK enc k w b 0 n d' os).heap.size/\(∀b',b'<w.heap.size->b'≠b->(sortWorldK enc k w b 0 n d' os).heap[b']?=w.heap[b']?)/\Still w (sortWorldK enc k w b 0 n d' os):=by
 have hb:b<w.heap.size:=(aZ.1 hc).1
 have C':∀b',(putRowK enc k (Sort.ahead w n) b 0 d').heap[b']?=if b=b' then(w.heap[b']?).map (onCells (putCells id 0 (flatK enc k d')))else w.heap[b']?:=by
  intro b'
  simp only[putRowK,putRow,mapBlock,Sort.ahead]
  rw[fR]
 refine⟨?_,by simp[sortWorldK,putRowK],fun b' h1 h2=>?_,⟨rfl,rfl,rfl,(show w.drawn<=w.drawn+n from Nat.le_add_right _ _)⟩⟩
 ·refine⟨putCells id 0 (flatK enc k d') c,?_,?_,fun i j hi hj=>?_⟩
  ·unfold sortWorldK
   rw[heap_grow_old _ _ (by simp[putRowK];exact hb),C',if_pos rfl,hc]
   rfl
  ·simp[putCells]
  ·have h1:=holdsK_putRowK (enc:=enc) (k:=k) (Sort.ahead w n) b 0 d d' (show HoldsK enc k (Sort.ahead w n) b 0 d from hH) hs
   have h2:=(h1.cell (i:=i) (c:=j) (by omega) hj).1
   unfold World.cell? at h2
   rw[C',if_pos rfl,hc]at h2
   simp only[aY,onCells,fN,bw,if_false,br]at h2
   have h3:j<(enc d'[i]!).length:=by rw[hk];exact hj
   rw[af,h2,ab,ae h3,getElem!_pos _ j h3]
 ·unfold sortWorldK
  rw[heap_grow_old _ _ (by simp[putRowK];exact h1),C',if_neg (fun e=>h2 e.symm)]
theorem PN{α:Type} [Inhabited α]{lt:α->α->Bool}{d d':Array α}(hp:PermIn 0 d.size d d')(hs:SortedIn lt 0 d.size d'):d'.size=d.size/\d'.toList.Perm d.toList/\d'.toList.Pairwise (fun a b=>lt b a=false):=by
 obtain⟨h1,_,h3⟩:=hp
 refine⟨h1,?_,?_⟩
 ·simp only[Array.toList_extract,List.extract_eq_take_drop,Nat.sub_zero,List.drop_zero]at h3
  rw[cD (by simp[h1]),cD (by simp)]at h3
  exact h3
 ·rw[de]
  intro i j hi hj OV
  simp only[dE]at hi hj
  have:=hs i j (aQ _) OV (by omega)
  rw[getElem!_pos d' i hi,getElem!_pos d' j hj]at this
  simpa only[Array.getElem_toList]using this
theorem BL{P:Program}{ρ:Ren}(L:SlLaysF0.n6 P ρ){A:Type}{k:Nat}(cs:A->List AV)(ok:A->List Value->Prop) [Inhabited (oD A k ok)](vx:∀a,(cs a).length=k)(lO:∀(w:World) X β σ a (x:List Value),x.length=k->(∀j,j<k->RV w X β σ ((cs a).getD j .any) (x.getD j undef))->ok a x)(aE:∀w,(isAgg (ρ.t 24)).run P w=.ok true w)(zE:∀w,(Go.sizeOf (ρ.t 24)).run P w=.ok k w)(g:Nat)(eg:∀args w,(callFunc g args).run P w=.ok (.enter g args) w)(cf:A->A->Int)(hO:SWO (ltOf fun x y:oD A k ok=>cf x.a y.a))(hc:∀(x y:oD A k ok) (W:World),Calls P g #[.agg x.c.toArray,.agg y.c.toArray] W fun e w'=>e=.returned (.int .i64 (cf x.a y.a))/\∃q Yi,w'=grow (W.drewN q) Yi)(ef:∀args w,(callFunc (ρ.f 6) args).run P w=.ok (.enter (ρ.f 6) args) w)(σ:aG)(f:Nat)(T:TypeId)(l:List A)(hf:σ.at f 0=some ⟨T,k,l.map cs,none⟩)(hl:l.length<4611686018427387904):eY P (ρ.f 6) [.own f 0 l.length,.fn (.func g) [] []] σ (fun _ σ'=>∃l':List A,l'.Perm l/\l'.Pairwise (fun a b=>0<=cf b a)/\σ'=σ.cZ f 0 ⟨T,k,l'.map cs,none⟩):=by
 refine⟨ef,fun X β w xs hX nv hlen hr=>?_⟩
 match xs,hlen with
 | [x,y],_=>
  have hx:=hr 0 (by simp)
  have hy:=hr 1 (by simp)
  simp only[dF,eP]at hx hy
  have hy':y=.func (.func g) #[] #[]:=by
   cases hy with
   |fn _ _ _ xs ys hn hm h h'=>
    have e1:xs=#[]:=Array.eq_empty_of_size_eq_zero (by simpa using hn)
    have e2:ys=#[]:=Array.eq_empty_of_size_eq_zero (by simpa using hm)
    rw[e1,e2]
  subst hy'
  have ic:=nv.obj f 0 _ hf
  cases hx with
  |own _ _ _ _ Mr Tz hle h=>
   have h':=h _ hf (by simp)
   unfold kD at h'
   by_cases h0:l=[]
   ·subst h0
    have TA:∃p cap,x=.slice p 0 cap:=by
     cases nf:β f 0 with
     |none=>rw[nf]at h';exact⟨none,0,h'.2⟩
     |some b=>rw[nf]at h';obtain⟨cap,_,_,rfl,_⟩:=h';exact⟨_,cap,rfl⟩
    obtain⟨p,cap,rfl⟩:=TA
    refine callsIn_wide.2 ((AnyF.slices_SortFunc_none L p cap _ w).mono ?_)
    rintro e w' ⟨rfl,rfl⟩
    exact⟨_,.any,σ,β,rfl,⟨[],.nil,.nil,(j8 hf).symm⟩,nv,.any _,Ext.refl _ _ _,Kp.refl⟩
   ·cases nf:β f 0 with
    |none=>
     rw[nf]at h'
     exact absurd (List.map_eq_nil_iff.1 h'.1) h0
    |some b=>
     rw[nf]at h' ic
     obtain⟨cap,c0,T0,rfl,CL,JL⟩:=h'
     obtain⟨c,IQ,eX,jN,GV⟩:=ic.2.1 rfl
     rw[IQ]at CL;injection CL with CL;injection CL with CL _;subst CL
     simp only[aF]at eX jN GV JL|-
     have UG:∀i (hi:i<l.length),(l.map cs).getD i []=cs l[i]:=fun i hi=>getD_map (ae hi)
     have cX:∀i j (hi:i<l.length) (hj:j<k),(((List.range k).map fun j=>c.getD (i*k+j) undef).getD j undef)=c.getD (i*k+j) undef:=fun i j hi hj=>by
      rw[ab,aV,cH hj];rfl
     let raw:Fin l.length->oD A k ok:=fun i=>⟨l[i.1]'i.2,(List.range k).map fun j=>c.getD (i.1*k+j) undef,by simp,fun v hv=>by
      obtain⟨j,hj,rfl⟩:=aO.1 hv
      exact jN i.1 j i.2 (bc.1 hj),lO w (Xt X β σ) β σ _ _ (by simp) fun j hj=>by
       rw[cX i.1 j i.2 hj,<-UG i.1 i.2];exact GV i.1 j i.2 hj⟩
     let d:Array (oD A k ok):=Array.ofFn raw
     have mQ:d.size=l.length:=by simp[d]
     have hdg:∀i (hi:i<l.length),d[i]! =raw ⟨i,hi⟩:=by
      intro i hi
      rw[getElem!_pos d i (by omega)]
      simp[d]
     have TB:∀x:oD A k ok,x.c.length=k:=fun x=>x.hk
     have eN:∀i j,i<l.length->j<k->c.getD (i*k+j) undef=(d[i]!.c).getD j undef:=by
      intro i j hi hj
      rw[hdg i hi]
      exact(cX i j hi hj).symm
     have hkp:l.length*k<=c.size:=eX
     have hH:HoldsK (fun x:oD A k ok=>x.c) k w b 0 d:=by
      intro t ht
      rw[size_flatK,mQ]at ht
      have Wd:0<k:=by
       rcases gB k with Q1|Q1
       ·rw[Q1,Nat.mul_zero]at ht;omega
       ·exact Q1
      have ZR:t/k*k+t % k=t:=Nat.div_add_mod' t k
      have hm:t % k<k:=Nat.mod_lt _ Wd
      have hd:t/k<l.length:=Nat.div_lt_of_lt_mul (by rw[jj];exact ht)
      have h1:=eN (t/k) (t % k) hd hm
      rw[ZR]at h1
      have h2:c[t]?=some (c.getD t undef):=by
       rw[af,bS (by omega)];rfl
      have h3:(d[t/k]!.c).getD (t % k) undef=(d[t/k]!.c)[t % k]! :=by
       have h4:t % k<(d[t/k]!.c).length:=by rw[TB];exact hm
       rw[ab,ae h4,getElem!_pos (d[t/k]!.c) (t % k) h4];rfl
      refine⟨?_,?_⟩
      ·unfold World.cell?
       rw[IQ]
       simp only[fN,bw,if_false,br,id_eq]
       rw[h2,get_flatK _ _ _ _ (by rw[mQ];exact ht),h1,h3]
      ·unfold World.frozen?
       rw[IQ]
       simp
     have hblk:b<w.heap.size:=(aZ.1 IQ).1
     have We:=AnyQ.slices_SortFunc L k aE zE (fun x:oD A k ok=>x.c) TB (fun x=>x.h1) (fun x y:oD A k ok=>cf x.a y.a) hO g #[] b 0 cap d w eg (fun _ _ _ _ x y=>hc x y _) hH hblk (by omega)
     rw[mQ]at We
     refine callsIn_wide.2 (We.mono ?_)
     rintro e w' ⟨rfl,d',n,os,hp,hs,rfl⟩
     rw[<-mQ]at hp hs
     obtain⟨e1,e2,e3⟩:=PN hp hs
     obtain⟨⟨c',vf,GW,KR⟩,As,hold,Da⟩:=AX (n:=n) (os:=os) TB IQ e1 hH
     let l':List A:=d'.toList.map (·.a)
     have Av:l'.length=l.length:=by simp[l',e1,mQ]
     have K4:d.toList.map (·.a)=l:=by
      apply List.ext_getElem (by simp[mQ])
      intro i h1 h2
      simp[d,raw]
     have w6:l'.Perm l:=by
      have:=e2.map (·.a)
      rw[K4]at this;exact this
     have Il:l'.Pairwise (fun a b=>0<=cf b a):=by
      rw[lM]
      refine e3.imp fun{a b} h=>?_
      simpa[ltOf]using h
     have ht:ss w β f 0 (some b) (sortWorldK (fun x:oD A k ok=>x.c) k w b 0 n d' os):=⟨As,fun b' h1 h2=>hold b' h1 (fun e=>h2 (by rw[nf,e])),fun b' oz=>.inl (by rw[nf];exact oz),Da⟩
     have fe:(⟨T,k,l.map cs,none⟩:Ob).es.length=(⟨T,k,l'.map cs,none⟩:Ob).es.length->some b=β f 0/\∀b',β f 0=some b'->dM w (sortWorldK (fun x:oD A k ok=>x.c) k w b 0 n d' os) b':=fun _=>
      ⟨nf.symm,fun b' oz cc T lC=>by
       rw[nf]at oz;injection oz with oz;subst oz
       rw[IQ]at lC;injection lC with lC;injection lC with lC hT;subst lC;subst hT
       exact⟨c',_,vf,GW⟩⟩
     have sP:(⟨T,k,l.map cs,none⟩:Ob).es.length<=(⟨T,k,l'.map cs,none⟩:Ob).es.length:=by simp[Av]
     have K:=Kp.jM (o':=⟨T,k,l'.map cs,none⟩) nv hf ht rfl sP fe
     have oy:∀e (he:e<l'.length),∃i,i<l.length/\d'[e]! =d[i]! /\l'[e]?=l[i]?:=by
      intro e he
      have qU:e<d'.size:=by simpa[l']using he
      have hm:d'[e]! ∈d.toList:=by
       rw[getElem!_pos d' e qU]
       exact e2.mem_iff.1 (by simp)
      obtain⟨i,hi,hi2⟩:=iB hm
      have hi3:i<d.size:=by simpa using hi
      have Yj:d'[e]! =d[i]! :=by
       rw[<-hi2,getElem!_pos d i hi3];simp
      refine⟨i,by omega,Yj,?_⟩
      have h5:l'[e]?=some d'[e]!.a:=by
       rw[getElem!_pos d' e qU];simp[l',qU]
      rw[h5,Yj,hdg i (by omega),ae (by omega)]
     have sI:∀e j,e<l'.length->j<k->∃i,i<l.length/\(l'.map cs).getD e []=(l.map cs).getD i []/\c'.getD (e*k+j) undef=c.getD (i*k+j) undef:=by
      intro e j he hj
      obtain⟨i,hi,h6,h7⟩:=oy e he
      refine⟨i,hi,?_,?_⟩
      ·simp only[ab,aV,h7]
      ·rw[KR e j (by omega) hj,h6,<-eN i j hi hj]
     have S:=nv.jM (o':=⟨T,k,l'.map cs,none⟩) hX hf ht rfl sP fe (by
      refine⟨fun e he=>?_,fun _=>⟨c',vf,by simp only[aF];rw[Av,GW];exact eX,fun e j he hj=>?_,fun e j he hj=>?_⟩,fun r hr=>by cases hr⟩
      ·simp only[aF]at he|-
       rw[getD_map (ae he)];exact vx _
      ·simp only[aF]at he|-
       obtain⟨i,hi,h6,h7⟩:=sI e j he hj
       rw[h7];exact jN i j hi hj
      ·simp only[aF]at he|-
       obtain⟨i,hi,h6,h7⟩:=sI e j he hj
       rw[h7,h6]
       exact(GV i j hi hj).tr K)
     exact⟨_,.any,_,_,rfl,⟨l',w6,Il,rfl⟩,S,.any _,Ext.jM hf ht,K⟩
theorem sV{P:Program}{f:Nat}{args:List AV}{v:Value}(h:Pure P f args (.v v))(xs:List Value)(W:World)(hl:xs.length=args.length)(hr:∀i,i<args.length->RV W (fun _=>False) sJ [] (args.getD i .any) (xs.getD i undef)):Calls P f xs.toArray W fun e w'=>e=.returned v/\∃q Yi,w'=grow (W.drewN q) Yi:=by
 refine callsIn_wide.1 ((h.go (fun _=>False) W xs (fun b hb=>hb.elim) hl hr).mono ?_)
 rintro e w' ⟨x,rfl,hx,eX,hold,h1,h2,h3,h4⟩
 obtain rfl:=hx.dz
 refine⟨rfl,w'.drawn-W.drawn,w'.heap.extract W.heap.size w'.heap.size,?_⟩
 have hh:w'.heap=W.heap++w'.heap.extract W.heap.size w'.heap.size:=by
  apply Array.ext_getElem?
  intro i
  rw[Array.getElem?_append]
  by_cases hi:i<W.heap.size
  ·rw[if_pos hi,hold i hi]
  ·rw[if_neg hi,Array.getElem?_extract]
   by_cases h5:i<w'.heap.size
   ·rw[if_pos (by omega),show W.heap.size+(i-W.heap.size)=i by omega]
   ·rw[if_neg (by omega),gx (by omega)]
 have hd:W.drawn+(w'.drawn-W.drawn)=w'.drawn:=by omega
 obtain⟨heap,tape,drawn,os,output⟩:=W
 obtain⟨aaY,aaZ,ZS,Yi,Yk⟩:=w'
 simp only at h1 h2 h3 hh hd
 subst h1;subst h2;subst h3
 simp only[grow,World.drewN,World.mk.injEq,and_true,true_and]
 exact⟨hh,hd.symm⟩
end Go.Abs
