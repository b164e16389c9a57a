/- Part 5: contracts. -/
import Derived.Test.YtolgelipcgcbhaaGreatBn4
import Derived.Shelf.SlSortCmp.NoneTotal
namespace Go.Abs
open Go.Shelf Go.RowKit Go.Lib Go.Sort Go.Proofs
set_option linter.unusedVariables false
set_option linter.unusedSimpArgs false
structure RawR (A:Type) (k:Nat) (ok:A→List Value→Prop) where
  a:A
  c:List Value
  hk:c.length=k
  h1:∀ v∈c,v.oneCell'=true
  h:ok a c
theorem sorted_blockR {α:Type} [Inhabited α] {enc:α→List Value} {k:Nat} (hk:∀ x,(enc x).length=k) {w:World} {b n:Nat} {d d':Array α} {os:Array Obj} {c:Array Value} {T:TypeId} (hc:w.heap[b]?=some (.cells c T (0,0))) (hs:d'.size=d.size) (hH:HoldsK enc k w b 0 d) :
    (∃ c',(sortWorldK enc k w b 0 n d' os).heap[b]?=some (.cells c' T (0,0))∧c'.size=c.size∧∀ i j,i < d.size→j < k→c'.getD (i * k+j) undef=((enc d'[i]!).getD j undef)) ∧
    w.heap.size≤(sortWorldK enc k w b 0 n d' os).heap.size∧(∀ b',b' < w.heap.size→b'≠b→(sortWorldK enc k w b 0 n d' os).heap[b']?=w.heap[b']?)∧Still w (sortWorldK enc k w b 0 n d' os):=by
  have hb:b < w.heap.size:=(Array.getElem?_eq_some_iff.1 hc).1
  have hput:∀ b',(putRowK enc k (Sort.ahead w n) b 0 d').heap[b']?=if b=b' then (w.heap[b']?).map (onCells (putCells id 0 (flatK enc k d'))) else w.heap[b']?:=by
    intro b'
    simp only [putRowK,putRow,mapBlock,Sort.ahead]
    rw [Array.getElem?_modify]
  refine ⟨?_,by simp [sortWorldK,putRowK],fun b' h1 h2=>?_,⟨rfl,rfl,rfl,(show w.drawn≤w.drawn+n from Nat.le_add_right _ _)⟩⟩
  · refine ⟨putCells id 0 (flatK enc k d') c,?_,?_,fun i j hi hj=>?_⟩
    · unfold sortWorldK
      rw [heap_grow_old _ _ (by simp [putRowK]; exact hb),hput,if_pos rfl,hc]
      rfl
    · simp [putCells]
    · have h1:=holdsK_putRowK (enc:=enc) (k:=k) (Sort.ahead w n) b 0 d d' (show HoldsK enc k (Sort.ahead w n) b 0 d from hH) hs
      have h2:=(h1.cell (i:=i) (c:=j) (by omega) hj).1
      unfold World.cell? at h2
      rw [hput,if_pos rfl,hc] at h2
      simp only [Option.map_some,onCells,Option.isSome_none,Bool.false_eq_true,if_false,Nat.zero_add] at h2
      have h3:j < (enc d'[i]!).length:=by rw [hk]; exact hj
      rw [Array.getD_eq_getD_getElem?,h2,List.getD_eq_getElem?_getD,List.getElem?_eq_getElem h3,getElem!_pos _ j h3]
  · unfold sortWorldK
    rw [heap_grow_old _ _ (by simp [putRowK]; exact h1),hput,if_neg (fun e=>h2 e.symm)]
theorem perm_of {α:Type} [Inhabited α] {lt:α→α→Bool} {d d':Array α} (hp:PermIn 0 d.size d d') (hs:SortedIn lt 0 d.size d'):d'.size=d.size∧d'.toList.Perm d.toList∧d'.toList.Pairwise (fun a b=>lt b a=false):=by
  obtain ⟨h1,_,h3⟩:=hp
  refine ⟨h1,?_,?_⟩
  · simp only [Array.toList_extract,List.extract_eq_take_drop,Nat.sub_zero,List.drop_zero] at h3
    rw [List.take_of_length_le (by simp [h1]),List.take_of_length_le (by simp)] at h3
    exact h3
  · rw [List.pairwise_iff_getElem]
    intro i j hi hj hij
    simp only [Array.length_toList] at hi hj
    have:=hs i j (Nat.zero_le _) hij (by omega)
    rw [getElem!_pos d' i hi,getElem!_pos d' j hj] at this
    simpa only [Array.getElem_toList] using this
theorem sort_rows {P:Program} {ρ:Ren} (L:SlLaysF0.n6 P ρ) {A:Type} {k:Nat} (cs:A→List AV) (ok:A→List Value→Prop) [Inhabited (RawR A k ok)] (hcs:∀ a,(cs a).length=k)
    (hok:∀ (w:World) X β σ a (x:List Value),x.length=k→(∀ j,j < k→RV w X β σ ((cs a).getD j .any) (x.getD j undef))→ok a x)
    (aE:∀ w,(isAgg (ρ.t 24)).run P w=.ok true w) (zE:∀ w,(Go.sizeOf (ρ.t 24)).run P w=.ok k w) (g:Nat) (eg:∀ args w,(callFunc g args).run P w=.ok (.enter g args) w)
    (cf:A→A→Int) (hO:SWO (ltOf fun x y:RawR A k ok=>cf x.a y.a))
    (hc:∀ (x y:RawR A k ok) (W:World),Calls P g #[.agg x.c.toArray,.agg y.c.toArray] W fun e w'=>e=.returned (.int .i64 (cf x.a y.a))∧∃ q os',w'=grow (W.drewN q) os')
    (ef:∀ args w,(callFunc (ρ.f 6) args).run P w=.ok (.enter (ρ.f 6) args) w)
    (σ:Sto) (f:Nat) (T:TypeId) (l:List A) (hf:σ.at f 0=some ⟨T,k,l.map cs,none⟩) (hl:l.length < 4611686018427387904) :
    Does P (ρ.f 6) [.own f 0 l.length,.fn (.func g) [] []] σ (fun _ σ'=>∃ l':List A,l'.Perm l∧l'.Pairwise (fun a b=>0≤cf b a)∧σ'=σ.upd f 0 ⟨T,k,l'.map cs,none⟩):=by
  refine ⟨ef,fun X β w xs hX hsr hlen hr=>?_⟩
  match xs,hlen with
  | [x,y],_ =>
    have hx:=hr 0 (by simp)
    have hy:=hr 1 (by simp)
    simp only [List.getD_cons_zero,List.getD_cons_succ] at hx hy
    have hy':y=.func (.func g) #[] #[]:=by
      cases hy with
      | fn _ _ _ xs ys hn hm h h' =>
        have e1:xs=#[]:=Array.eq_empty_of_size_eq_zero (by simpa using hn)
        have e2:ys=#[]:=Array.eq_empty_of_size_eq_zero (by simpa using hm)
        rw [e1,e2]
    subst hy'
    have hob:=hsr.obj f 0 _ hf
    cases hx with
    | own _ _ _ _ h1c hflt hle h =>
      have h':=h _ hf (by simp)
      unfold OwnSl at h'
      by_cases h0:l=[]
      · subst h0
        have hemp:∃ p cap,x=.slice p 0 cap:=by
          cases hbf:β f 0 with
          | none=>rw [hbf] at h'; exact ⟨none,0,h'.2⟩
          | some b=>rw [hbf] at h'; obtain ⟨cap,_,_,rfl,_⟩:=h'; exact ⟨_,cap,rfl⟩
        obtain ⟨p,cap,rfl⟩:=hemp
        refine callsIn_wide.2 ((AnyF.slices_SortFunc_none L p cap _ w).mono ?_)
        rintro e w' ⟨rfl,rfl⟩
        exact ⟨_,.any,σ,β,rfl,⟨[],.nil,.nil,(upd_self hf).symm⟩,hsr,.any _,Ext.refl _ _ _,Kp.refl⟩
      · cases hbf:β f 0 with
        | none =>
          rw [hbf] at h'
          exact absurd (List.map_eq_nil_iff.1 h'.1) h0
        | some b =>
          rw [hbf] at h' hob
          obtain ⟨cap,c0,T0,rfl,hc0,hcs0⟩:=h'
          obtain ⟨c,hc1,hsz,hone,hrv⟩:=hob.2.1 rfl
          rw [hc1] at hc0; injection hc0 with hc0; injection hc0 with hc0 _; subst hc0
          simp only [List.length_map] at hsz hone hrv hcs0 ⊢
          have hgl:∀ i (hi:i < l.length),(l.map cs).getD i []=cs l[i]:=fun i hi=>getD_map (List.getElem?_eq_getElem hi)
          have hrow:∀ i j (hi:i < l.length) (hj:j < k),(((List.range k).map fun j=>c.getD (i * k+j) undef).getD j undef)=c.getD (i * k+j) undef:=fun i j hi hj=>by
            rw [List.getD_eq_getElem?_getD,List.getElem?_map,List.getElem?_range hj]; rfl
          let raw:Fin l.length→RawR A k ok:=fun i=>⟨l[i.1]'i.2,(List.range k).map fun j=>c.getD (i.1 * k+j) undef,by simp,fun v hv=>by
              obtain ⟨j,hj,rfl⟩:=List.mem_map.1 hv
              exact hone i.1 j i.2 (List.mem_range.1 hj),hok w (Xt X β σ) β σ _ _ (by simp) fun j hj=>by
                rw [hrow i.1 j i.2 hj,← hgl i.1 i.2]; exact hrv i.1 j i.2 hj⟩
          let d:Array (RawR A k ok):=Array.ofFn raw
          have hds:d.size=l.length:=by simp [d]
          have hdg:∀ i (hi:i < l.length),d[i]! = raw ⟨i,hi⟩:=by
            intro i hi
            rw [getElem!_pos d i (by omega)]
            simp [d]
          have henc:∀ x:RawR A k ok,x.c.length=k:=fun x=>x.hk
          have hcell:∀ i j,i < l.length→j < k→c.getD (i * k+j) undef=(d[i]!.c).getD j undef:=by
            intro i j hi hj
            rw [hdg i hi]
            exact (hrow i j hi hj).symm
          have hkp:l.length * k≤c.size:=hsz
          have hH:HoldsK (fun x:RawR A k ok=>x.c) k w b 0 d:=by
            intro t ht
            rw [size_flatK,hds] at ht
            have hkpos:0 < k:=by
              rcases Nat.eq_zero_or_pos k with hk0 | hk0
              · rw [hk0,Nat.mul_zero] at ht; omega
              · exact hk0
            have ht2:t / k * k+t % k=t:=Nat.div_add_mod' t k
            have hm:t % k < k:=Nat.mod_lt _ hkpos
            have hd:t / k < l.length:=Nat.div_lt_of_lt_mul (by rw [Nat.mul_comm]; exact ht)
            have h1:=hcell (t / k) (t % k) hd hm
            rw [ht2] at h1
            have h2:c[t]?=some (c.getD t undef):=by
              rw [Array.getD_eq_getD_getElem?,Array.getElem?_eq_getElem (by omega)]; rfl
            have h3:(d[t / k]!.c).getD (t % k) undef=(d[t / k]!.c)[t % k]! := by
              have h4:t % k < (d[t / k]!.c).length:=by rw [henc]; exact hm
              rw [List.getD_eq_getElem?_getD,List.getElem?_eq_getElem h4,getElem!_pos (d[t / k]!.c) (t % k) h4]; rfl
            refine ⟨?_,?_⟩
            · unfold World.cell?
              rw [hc1]
              simp only [Option.isSome_none,Bool.false_eq_true,if_false,Nat.zero_add,id_eq]
              rw [h2,get_flatK _ _ _ _ (by rw [hds]; exact ht),h1,h3]
            · unfold World.frozen?
              rw [hc1]
              simp
          have hblk:b < w.heap.size:=(Array.getElem?_eq_some_iff.1 hc1).1
          have hcon:=AnyQ.slices_SortFunc L k aE zE (fun x:RawR A k ok=>x.c) henc (fun x=>x.h1) (fun x y:RawR A k ok=>cf x.a y.a) hO g #[] b 0 cap d w eg (fun _ _ _ _ x y=>hc x y _) hH hblk (by omega)
          rw [hds] at hcon
          refine callsIn_wide.2 (hcon.mono ?_)
          rintro e w' ⟨rfl,d',n,os,hp,hs,rfl⟩
          rw [← hds] at hp hs
          obtain ⟨e1,e2,e3⟩:=perm_of hp hs
          obtain ⟨⟨c',hc',hcsz,hcg⟩,hge,hold,hstill⟩:=sorted_blockR (n:=n) (os:=os) henc hc1 e1 hH
          let l':List A:=d'.toList.map (·.a)
          have hl':l'.length=l.length:=by simp [l',e1,hds]
          have hdl:d.toList.map (·.a)=l:=by
            apply List.ext_getElem (by simp [hds])
            intro i h1 h2
            simp [d,raw]
          have hperm:l'.Perm l:=by
            have:=e2.map (·.a)
            rw [hdl] at this; exact this
          have hsort:l'.Pairwise (fun a b=>0≤cf b a):=by
            rw [List.pairwise_map]
            refine e3.imp fun {a b} h=>?_
            simpa [ltOf] using h
          have ht:Turn w β f 0 (some b) (sortWorldK (fun x:RawR A k ok=>x.c) k w b 0 n d' os):=⟨hge,fun b' h1 h2=>hold b' h1 (fun e=>h2 (by rw [hbf,e])),fun b' hb'=>.inl (by rw [hbf]; exact hb'),hstill⟩
          have hsame:(⟨T,k,l.map cs,none⟩:Ob).es.length=(⟨T,k,l'.map cs,none⟩:Ob).es.length→some b=β f 0∧∀ b',β f 0=some b'→SameSize w (sortWorldK (fun x:RawR A k ok=>x.c) k w b 0 n d' os) b':=fun _ =>
            ⟨hbf.symm,fun b' hb' cc T hcc=>by
              rw [hbf] at hb'; injection hb' with hb'; subst hb'
              rw [hc1] at hcc; injection hcc with hcc; injection hcc with hcc hT; subst hcc; subst hT
              exact ⟨c',_,hc',hcsz⟩⟩
          have hlen2:(⟨T,k,l.map cs,none⟩:Ob).es.length≤(⟨T,k,l'.map cs,none⟩:Ob).es.length:=by simp [hl']
          have K:=Kp.turn (o':=⟨T,k,l'.map cs,none⟩) hsr hf ht rfl hlen2 hsame
          have hel:∀ e (he:e < l'.length),∃ i,i < l.length∧d'[e]! = d[i]! ∧ l'[e]?=l[i]?:=by
            intro e he
            have he2:e < d'.size:=by simpa [l'] using he
            have hm:d'[e]! ∈ d.toList:=by
              rw [getElem!_pos d' e he2]
              exact e2.mem_iff.1 (by simp)
            obtain ⟨i,hi,hi2⟩:=List.getElem_of_mem hm
            have hi3:i < d.size:=by simpa using hi
            have hdi:d'[e]! = d[i]! := by
              rw [← hi2,getElem!_pos d i hi3]; simp
            refine ⟨i,by omega,hdi,?_⟩
            have h5:l'[e]?=some d'[e]!.a:=by
              rw [getElem!_pos d' e he2]; simp [l',he2]
            rw [h5,hdi,hdg i (by omega),List.getElem?_eq_getElem (by omega)]
          have hrow':∀ e j,e < l'.length→j < k→∃ i,i < l.length∧(l'.map cs).getD e []=(l.map cs).getD i []∧c'.getD (e * k+j) undef=c.getD (i * k+j) undef:=by
            intro e j he hj
            obtain ⟨i,hi,h6,h7⟩:=hel e he
            refine ⟨i,hi,?_,?_⟩
            · simp only [List.getD_eq_getElem?_getD,List.getElem?_map,h7]
            · rw [hcg e j (by omega) hj,h6,← hcell i j hi hj]
          have S:=hsr.turn (o':=⟨T,k,l'.map cs,none⟩) hX hf ht rfl hlen2 hsame (by
            refine ⟨fun e he=>?_,fun _=>⟨c',hc',by simp only [List.length_map]; rw [hl',hcsz]; exact hsz,fun e j he hj=>?_,fun e j he hj=>?_⟩,fun r hr=>by cases hr⟩
            · simp only [List.length_map] at he ⊢
              rw [getD_map (List.getElem?_eq_getElem he)]; exact hcs _
            · simp only [List.length_map] at he ⊢
              obtain ⟨i,hi,h6,h7⟩:=hrow' e j he hj
              rw [h7]; exact hone i j hi hj
            · simp only [List.length_map] at he ⊢
              obtain ⟨i,hi,h6,h7⟩:=hrow' e j he hj
              rw [h7,h6]
              exact (hrv i j hi hj).tr K)
          exact ⟨_,.any,_,_,rfl,⟨l',hperm,hsort,rfl⟩,S,.any _,Ext.turn hf ht,K⟩
theorem calls_of_pure {P:Program} {f:Nat} {args:List AV} {v:Value} (h:Pure P f args (.v v)) (xs:List Value) (W:World) (hl:xs.length=args.length)
    (hr:∀ i,i < args.length→RV W (fun _=>False) nob [] (args.getD i .any) (xs.getD i undef)) :
    Calls P f xs.toArray W fun e w'=>e=.returned v∧∃ q os',w'=grow (W.drewN q) os':=by
  refine callsIn_wide.1 ((h.go (fun _=>False) W xs (fun b hb=>hb.elim) hl hr).mono ?_)
  rintro e w' ⟨x,rfl,hx,hsz,hold,h1,h2,h3,h4⟩
  obtain rfl:=hx.inv_v
  refine ⟨rfl,w'.drawn - W.drawn,w'.heap.extract W.heap.size w'.heap.size,?_⟩
  have hh:w'.heap=W.heap++w'.heap.extract W.heap.size w'.heap.size:=by
    apply Array.ext_getElem?
    intro i
    rw [Array.getElem?_append]
    by_cases hi:i < W.heap.size
    · rw [if_pos hi,hold i hi]
    · rw [if_neg hi,Array.getElem?_extract]
      by_cases h5:i < w'.heap.size
      · rw [if_pos (by omega),show W.heap.size+(i - W.heap.size)=i by omega]
      · rw [if_neg (by omega),Array.getElem?_eq_none (by omega)]
  have hd:W.drawn+(w'.drawn - W.drawn)=w'.drawn:=by omega
  obtain ⟨heap,tape,drawn,os,output⟩:=W
  obtain ⟨heap',tape',drawn',os',output'⟩:=w'
  simp only at h1 h2 h3 hh hd
  subst h1; subst h2; subst h3
  simp only [grow,World.drewN,World.mk.injEq,and_true,true_and]
  exact ⟨hh,hd.symm⟩
end Go.Abs
