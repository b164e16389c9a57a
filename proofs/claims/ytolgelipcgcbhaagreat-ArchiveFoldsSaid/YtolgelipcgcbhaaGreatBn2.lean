/- Part 2: contracts. -/
import Derived.Test.YtolgelipcgcbhaaGreatBn1
import Derived.Laws.CopyRow
import Derived.OrdersIn
import Derived.RangeFuncLeaves
import Derived.RangeFuncCalls
namespace Go.Abs
set_option linter.unusedVariables false
set_option linter.unusedSimpArgs false
section
variable {P:Program} {o:Oper} {ρ:Operand→Value} {w w':World} {X:Nat→Prop} {β:Blk} {σ:Sto} {v:O→AV}
theorem ex_subs {S:Prop} {r:AV} {σ':Sto} {k:Nat} {y z:O} (hc:chkI P o.op (.subs k y z)=true) (hs:SRel w X β σ)
    (hv:∀ x u,chkO x u=true→RV w (Xt X β σ) β σ (v u) (ρ x)) (he:ex (.subs k y z) v σ=some (S,r,σ')) (hS:S):Done P o ρ w X β σ r σ':=by
  cases hop:o.op <;> rw [hop] at hc <;> try (simp [chkI] at hc; done)
  rename_i t a plo phi pmx
  cases plo <;> try (simp [chkI] at hc; done)
  cases phi <;> try (simp [chkI] at hc; done)
  cases pmx <;> try (simp [chkI] at hc; done)
  rename_i b
  simp only [chkI,Bool.and_eq_true] at hc
  obtain ⟨⟨⟨h1,h2⟩,hk0⟩,h4⟩:=hc
  have hk0:k≠0:=by simpa using hk0
  cases hel:elF P t with
  | none=>rw [hel] at h4; simp at h4
  | some e =>
  rw [hel] at h4
  simp only [beq_iff_eq] at h4
  have ha:=hv a y h1
  have hb:=hv b z h2
  have hx:execOp ρ o=(do let x ← Instr.sliceAt t (ρ a) (some (ρ b)) none none; pure (.value x)):=by unfold execOp; rw [hop]; rfl
  simp only [ex] at he
  generalize v y=vy at ha he
  generalize v z=vz at hb he
  generalize hqa:ρ a=qa at ha
  generalize hqb:ρ b=qb at hb
  split at he
  case h_2=>cases he
  rename_i f i n kk lo
  simp only [obj] at he
  cases hat:σ.at f i with
  | none=>rw [hat] at he; simp at he
  | some ob =>
  rw [hat] at he
  simp only [Option.some.injEq,Prod.mk.injEq] at he
  obtain ⟨rfl,rfl,rfl⟩:=he
  obtain ⟨rfl,rfl,g0,g1⟩:=hS
  obtain rfl:=hb.inv_v
  have plo':(some (Value.int kk lo)=none∧lo.toNat=0)∨∃ k,some (Value.int kk lo)=some (.int k lo.toNat):=.inr ⟨kk,by simp; omega⟩
  cases ha with
  | own _ _ _ _ h1c hf hle h =>
    have h':=h ob hat rfl
    unfold OwnSl at h'
    cases hbf:β f i with
    | none =>
      rw [hbf] at h'
      obtain ⟨e0,rfl⟩:=h'
      have e2:lo=0:=by rw [e0] at g1; simp at g1; omega
      subst e2
      refine Zx (x:=.slice none 0 0) hs ?_ (.sub f i _ _ _ rfl hf hle fun o' ho' hn'=>?_)
      · rw [hx,hqa,hqb]
        have hu:=el_parts hel
        obtain ⟨i,hi',_⟩:=sz_parts h4
        refine Zv _ _ _ ?_
        simp [Instr.sliceAt,Instr.slice,run_underlying hu,Instr.sliceBounds,Instr.sliceBound,asIntOf,sizeOf,typeInfo,hi']
      · rw [hat] at ho'; injection ho' with ho'; subst ho'
        exact ⟨by simp,none,0,by simp [e0],fun h=>by rw [e0] at h; simp at h⟩
    | some b' =>
      rw [hbf] at h'
      obtain ⟨cap,c,T,rfl,hcell,hcs⟩:=h'
      have hcap:ob.es.length≤cap:=by
        have h2:=(hs.obj f i ob hat).2
        rw [hbf] at h2
        cases hlp:ob.lp with
        | none =>
          obtain ⟨c',hc',hsz,_⟩:=h2.1 hlp
          rw [hcell] at hc'; injection hc' with hc'; injection hc' with hc' _; subst hc'
          rw [hcs] at hsz
          exact Nat.le_of_mul_le_mul_right hsz (Nat.pos_of_ne_zero hk0)
        | some r=>rw [(h2.2 r hlp).1]; simp
      have hrun:=run_slice_slice (P:=P) (w:=w) hel h4 (b:=b') (off:=0) (len:=ob.es.length) (cap:=cap) _ none _ ob.es.length plo' (.inl ⟨rfl,rfl⟩) (by omega) hcap
      refine Zx (x:=.slice (some (if cap=lo.toNat then ⟨b',0,none⟩ else ⟨b',0+lo.toNat * ob.k,none⟩)) (ob.es.length - lo.toNat) (cap - lo.toNat)) hs ?_ (.sub f i _ _ _ rfl hf hle fun o' ho' hn'=>?_)
      · rw [hx,hqa,hqb]
        exact Zv _ _ _ hrun
      · rw [hat] at ho'; injection ho' with ho'; subst ho'
        refine ⟨by omega,_,_,rfl,fun h=>⟨b',hbf,?_⟩⟩
        rw [if_neg (by omega),Nat.zero_add]
theorem ex_clr {S:Prop} {r:AV} {σ':Sto} {T k:Nat} {z:List Value} {y:O} (hc:chkI P o.op (.clr T k z y)=true) (hs:SRel w X β σ) (hX:∀ b,X b→b < w.heap.size)
    (hv:∀ x u,chkO x u=true→RV w (Xt X β σ) β σ (v u) (ρ x)) (he:ex (.clr T k z y) v σ=some (S,r,σ')) (hS:S):Done P o ρ w X β σ r σ':=by
  cases hop:o.op <;> rw [hop] at hc <;> try (simp [chkI] at hc; done)
  rename_i c
  obtain ⟨cal,args,ts⟩:=c
  cases cal <;> try (simp [chkI] at hc; done)
  rename_i bi
  cases bi <;> try (simp [chkI] at hc; done)
  simp only [chkI,Bool.and_eq_true] at hc
  obtain ⟨h1,hc⟩:=hc
  split at hc
  case h_2=>cases hc
  rename_i t hts
  simp only [Bool.and_eq_true,beq_iff_eq] at hc
  obtain ⟨⟨hel,hz⟩,hzl⟩:=hc
  obtain ⟨args⟩:=args
  obtain ⟨ts⟩:=ts
  simp only at hts h1
  subst hts
  have hargs:∃ a,args=[a]∧chkO a y=true:=by
    match args,h1 with
    | [a],h1=>exact ⟨a,rfl,by simpa [chkOs] using h1⟩
    | [],h1=>simp [chkOs] at h1
    | _::_::_,h1=>simp [chkOs] at h1
  obtain ⟨a,rfl,h1'⟩:=hargs
  have hu:=el_parts hel
  have ha:=hv a y h1'
  have hx:execOp ρ o=(do let d ← resolve ρ ⟨.builtin .clear,#[a],#[t]⟩ o.type; invoke d.target d.args):=by unfold execOp; rw [hop]
  cases hzr:zrF P T with
  | none=>rw [hzr] at hz; simp at hz
  | some l =>
  rw [hzr] at hz
  simp only at hz
  obtain ⟨rfl,hsc⟩:=beqVs_eq hz
  obtain ⟨it,z0,hit,hz0,rfl⟩:=zr_parts hzr
  simp only [Array.length_toList] at hzl
  simp only [ex] at he
  generalize v y=vy at ha he
  generalize hqa:ρ a=qa at ha
  split at he
  case h_2=>cases he
  rename_i f i n lo
  simp only [obj] at he
  cases hat:σ.at f i with
  | none=>rw [hat] at he; simp at he
  | some ob =>
  rw [hat] at he
  simp only [Option.some.injEq,Prod.mk.injEq] at he
  obtain ⟨rfl,rfl,rfl⟩:=he
  obtain ⟨hk,hn⟩:=hS
  cases ha with
  | sub _ _ _ _ _ h1c hf hle h =>
  obtain ⟨h5,a',cap,rfl,h6⟩:=h ob hat hn
  have hlen:(ob.es.take lo++List.replicate (n - lo) (vs z0.cells.toList)).length=ob.es.length:=by simp; omega
  by_cases h0:lo=ob.es.length
  · have e1:({ ob with es:=ob.es.take lo++List.replicate (n - lo) (vs z0.cells.toList) }:Ob)=ob:=by
      rw [show n - lo=0 by omega,List.replicate_zero,List.append_nil,h0,List.take_length]
    rw [e1,upd_self hat]
    refine Zx (x:=.tuple #[]) hs ?_ (.any _)
    rw [hx]
    have e2:ob.es.length - lo=0:=by omega
    cases a' <;> simp [resolve,invoke,builtin,Builtin.clear_,run_underlying hu,hqa,e2]
  · obtain ⟨bl,hbl,rfl⟩:=h6 (by omega)
    have hob:=hs.obj f i ob hat
    have h2':=hob.2
    rw [hbl] at h2'
    have hlp:=hob.lp_none (e:=lo) (by omega)
    obtain ⟨c,hcell,hsz,hone,hr⟩:=h2'.1 hlp
    have hm:ob.es.length - lo+lo=ob.es.length:=by omega
    have hmul:(ob.es.length - lo) * ob.k+lo * ob.k=ob.es.length * ob.k:=by rw [← Nat.add_mul,hm]
    have hzs:(Builtin.zeroCells z0.cells (ob.es.length - lo)).toList.length=(ob.es.length - lo) * ob.k:=by
      rw [Array.length_toList,zeroCells_size,hzl,hk]
    have hzg:∀ q,q < (ob.es.length - lo) * ob.k→(Builtin.zeroCells z0.cells (ob.es.length - lo)).toList.getD q undef=z0.cells.getD (q % ob.k) undef:=by
      intro q hq
      have hk0:0 < ob.k:=by
        rcases Nat.eq_zero_or_pos ob.k with e | e
        · rw [e,Nat.mul_zero] at hq; omega
        · exact e
      have hlt:q % ob.k < z0.cells.size:=by rw [hzl,← hk]; exact Nat.mod_lt _ hk0
      unfold Builtin.zeroCells
      rw [hzl,← hk]
      simp [List.getD_eq_getElem?_getD,Array.getD_eq_getD_getElem?,hq,hlt]
    have hv1:∀ u∈(Builtin.zeroCells z0.cells (ob.es.length - lo)).toList,u.oneCell'=true:=by
      intro u hu
      obtain ⟨q,hq,rfl⟩:=List.getElem_of_mem hu
      have h7:=hzg q (by rw [← hzs]; exact hq)
      rw [List.getD_eq_getElem?_getD,List.getElem?_eq_getElem hq] at h7
      simp only [Option.getD_some] at h7
      rw [h7]
      have hk0:0 < ob.k:=by
        rcases Nat.eq_zero_or_pos ob.k with e | e
        · rw [hzs,e,Nat.mul_zero] at hq; omega
        · exact e
      have hlt:q % ob.k < z0.cells.size:=by rw [hzl,← hk]; exact Nat.mod_lt _ hk0
      refine oneCell_of_scalar (hsc _ ?_)
      rw [Array.getD_eq_getD_getElem?,Array.getElem?_eq_getElem hlt]
      simp
    have hst:=run_storeCells_at P bl (lo * ob.k) ob.T (Builtin.zeroCells z0.cells (ob.es.length - lo)).toList 0 c w hcell (by rw [hzs]; omega) hv1
    rw [Nat.add_zero] at hst
    generalize hnew:(c.toList.take (lo * ob.k)++(Builtin.zeroCells z0.cells (ob.es.length - lo)).toList++c.toList.drop (lo * ob.k+(Builtin.zeroCells z0.cells (ob.es.length - lo)).toList.length)).toArray=c' at hst
    have hrun:(execOp ρ o).run P w=.ok (.value (.tuple #[])) (w.setRow bl c'):=by
      rw [hx]
      obtain ⟨q,hq⟩:∃ q,ob.es.length - lo=q+1:=⟨ob.es.length - lo - 1,by omega⟩
      rw [hq] at hst hqa
      simp [resolve,invoke,builtin,Builtin.clear_,run_underlying hu,hqa,zeroValue,typeInfo,hit,hz0,hst]
    have hc'sz:c'.size=c.size:=by rw [← hnew]; simp only [List.size_toArray,List.length_append,List.length_take,List.length_drop,hzs,Array.length_toList]; omega
    have hget:∀ q,c'.getD q undef=if lo * ob.k≤q∧q < lo * ob.k+(ob.es.length - lo) * ob.k then (Builtin.zeroCells z0.cells (ob.es.length - lo)).toList.getD (q - lo * ob.k) undef else c.getD q undef:=by
      intro q
      have:=getD_splice c.toList (Builtin.zeroCells z0.cells (ob.es.length - lo)).toList (lo * ob.k) q undef (by rw [hzs,Array.length_toList]; omega)
      rw [hzs] at this
      rw [← hnew,hzs]
      simpa [List.getD_eq_getElem?_getD,Array.getD_eq_getD_getElem?] using this
    have hsame:∀ b',β f i=some b'→SameSize w (w.setRow bl c') b':=by
      intro b' hb' c0 T0 h0
      rw [hbl] at hb'; injection hb' with hb'; subst hb'
      rw [hcell] at h0; injection h0 with h0; injection h0 with h0; subst h0
      exact ⟨c',ob.T,setRow_heap w bl c c' ob.T (0,0) hcell,hc'sz⟩
    have hturn:=setRow_turn (c':=c') hcell hbl
    have K:Kp w (Xt X β σ) β σ (w.setRow bl c') (Xt X (mvB β f i (β f i)) (σ.upd f i { ob with es:=ob.es.take lo++List.replicate (n - lo) (vs z0.cells.toList) })) (mvB β f i (β f i)) (σ.upd f i { ob with es:=ob.es.take lo++List.replicate (n - lo) (vs z0.cells.toList) }) :=
      Kp.turn hs hat hturn rfl (Nat.le_of_eq hlen.symm) (fun _=>⟨rfl,hsame⟩)
    have hgE:∀ e,e < ob.es.length→(ob.es.take lo++List.replicate (n - lo) (vs z0.cells.toList)).getD e []=if e < lo then ob.es.getD e [] else vs z0.cells.toList:=by
      intro e he
      have hlt:(ob.es.take lo).length=lo:=by simp; omega
      rw [List.getD_eq_getElem?_getD]
      by_cases hl:e < lo
      · rw [if_pos hl,List.getElem?_append_left (by omega),List.getElem?_take,if_pos hl,List.getD_eq_getElem?_getD]
      · rw [if_neg hl,List.getElem?_append_right (by omega),hlt,List.getElem?_replicate,if_pos (by omega)]; rfl
    have hvl:(vs z0.cells.toList).length=ob.k:=by rw [length_vs,Array.length_toList,hzl,hk]
    have hrl:=RL.vs (w:=w.setRow bl c') (X:=Xt X (mvB β f i (β f i)) (σ.upd f i { ob with es:=ob.es.take lo++List.replicate (n - lo) (vs z0.cells.toList) })) (β:=mvB β f i (β f i)) (σ:=σ.upd f i { ob with es:=ob.es.take lo++List.replicate (n - lo) (vs z0.cells.toList) }) _ hsc
    refine done_turn (ob':={ ob with es:=ob.es.take lo++List.replicate (n - lo) (vs z0.cells.toList) }) (x:=.tuple #[]) hs hX hat rfl hlen.symm hturn hsame hrun (.inl rfl) ⟨fun e' he'=>?_,?_⟩ (.any _)
    · simp only at he' ⊢
      rw [hlen] at he'
      rw [hgE e' he']
      split
      · exact hob.1 e' he'
      · exact hvl
    · rw [hbl]
      rw [hbl] at K hrl
      refine ⟨fun _=>⟨c',setRow_heap w bl c c' ob.T (0,0) hcell,by simp only; rw [hlen,hc'sz]; exact hsz,fun e' j' he' hj'=>?_,fun e' j' he' hj'=>?_⟩,fun r h=>(by simp only at h; rw [hlp] at h; cases h)⟩
      · simp only at he' hj' ⊢
        rw [hlen] at he'
        rw [hget]
        split
        · rename_i hq
          have:=hv1 _ (List.getElem_mem (show e' * ob.k+j' - lo * ob.k < (Builtin.zeroCells z0.cells (ob.es.length - lo)).toList.length by rw [hzs]; omega))
          rw [List.getD_eq_getElem?_getD,List.getElem?_eq_getElem (by rw [hzs]; omega)]
          exact this
        · exact hone e' j' he' hj'
      · simp only at he' hj' ⊢
        rw [hlen] at he'
        rw [hgE e' he',hget]
        have hm2:e' * ob.k+j' < ob.es.length * ob.k:=Nat.lt_of_lt_of_le (by rw [Nat.succ_mul]; omega) (Nat.mul_le_mul_right ob.k (show e'+1≤ob.es.length by omega))
        by_cases hl:e' < lo
        · have hm3:e' * ob.k+j' < lo * ob.k:=Nat.lt_of_lt_of_le (by rw [Nat.succ_mul]; omega) (Nat.mul_le_mul_right ob.k (show e'+1≤lo by omega))
          rw [if_pos hl,if_neg (by omega)]
          exact (hr e' j' he' hj').tr K
        · have hm3:lo * ob.k≤e' * ob.k:=Nat.mul_le_mul_right ob.k (by omega)
          rw [if_neg hl,if_pos (by omega),hzg _ (by omega)]
          have e3:(e' * ob.k+j' - lo * ob.k) % ob.k=j':=by
            rw [show e' * ob.k+j' - lo * ob.k=j'+(e' - lo) * ob.k by rw [Nat.sub_mul]; omega,Nat.add_mul_mod_self_right,Nat.mod_eq_of_lt hj']
          rw [e3]
          have:=(hrl.2 j' (by rw [hvl]; exact hj')).2
          simpa [List.getD_eq_getElem?_getD,Array.getD_eq_getD_getElem?] using this
theorem ex_appi {S:Prop} {r:AV} {σ':Sto} {T k bytes:Nat} {y z:O} (hc:chkI P o.op (.appi T k bytes y z)=true) (hs:SRel w X β σ) (hX:∀ b,X b→b < w.heap.size)
    (hv:∀ x u,chkO x u=true→RV w (Xt X β σ) β σ (v u) (ρ x)) (he:ex (.appi T k bytes y z) v σ=some (S,r,σ')) (hS:S):Done P o ρ w X β σ r σ':=by
  cases hop:o.op <;> rw [hop] at hc <;> try (simp [chkI] at hc; done)
  rename_i cc
  obtain ⟨cal,args,ts⟩:=cc
  cases cal <;> try (simp [chkI] at hc; done)
  rename_i bi
  cases bi <;> try (simp [chkI] at hc; done)
  simp only [chkI,Bool.and_eq_true] at hc
  obtain ⟨hargs,hts⟩:=hc
  obtain ⟨args⟩:=args
  obtain ⟨ts⟩:=ts
  rcases args with _ | ⟨a,_ | ⟨b,_ | ⟨_,_⟩⟩⟩ <;> simp [chkOs] at hargs
  obtain ⟨h1,h2⟩:=hargs
  split at hts
  case h_2=>cases hts
  rename_i t t' htl
  simp only at htl
  subst htl
  simp only [Bool.and_eq_true,beq_iff_eq,bne_iff_ne] at hts
  obtain ⟨⟨⟨⟨⟨⟨rfl,h3⟩,h4⟩,h5⟩,h6⟩,h7⟩,h8⟩:=hts
  have hu:=el_parts h3
  obtain ⟨ie,hie,rfl⟩:=sz_parts h4
  have hby:ie.bytes=bytes:=by rw [hie] at h5; simpa using h5
  cases hz:zrF P T with
  | none=>rw [hz] at h6; simp at h6
  | some l =>
  rw [hz] at h6
  simp only [beq_iff_eq] at h6
  obtain ⟨it,z0,hit,hz0,rfl⟩:=zr_parts hz
  obtain rfl:it=ie:=by rw [hie] at hit; injection hit with hit; exact hit.symm
  have hzs:z0.cells.size=it.size:=by simpa using h6
  have ha:=hv a y h1
  have hb:=hv b z h2
  have hx:execOp ρ o=(do let d ← resolve ρ ⟨.builtin .append,#[a,b],#[t,t]⟩ o.type; invoke d.target d.args):=by unfold execOp; rw [hop]
  have hrun:∀ x w',(Builtin.append_ #[t,t] o.type #[ρ a,ρ b]).run P w=.ok x w'→(execOp ρ o).run P w=.ok (.value x) w':=by
    intro x w' h
    rw [hx]
    simp [resolve,invoke,builtin,h]
  simp only [ex] at he
  generalize v y=vy at ha he
  generalize v z=vz at hb he
  generalize hqa:ρ a=qa at ha hrun
  generalize hqb:ρ b=qb at hb hrun
  split at he
  case h_2=>cases he
  rename_i k' es p xs hel
  split at he
  case isFalse=>cases he
  rename_i hkk; subst hkk
  simp only [Option.some.injEq,Prod.mk.injEq] at he
  obtain ⟨rfl,rfl,rfl⟩:=he
  obtain ⟨hp,hxs,hes,hrow,hbytes⟩:=hS
  have hpos:0 < xs.length:=List.length_pos_iff.2 hxs
  have hpos2:0 < es.length:=List.length_pos_iff.2 hes
  rcases elems_rel hs hb hel hp hrow with ⟨h0,_⟩ | ⟨b',off,cap,rfl,g,hg⟩
  · exact absurd h0 hxs
  cases ha with
  | fresh _ _ _ ha hcap =>
  obtain ⟨a',hcap⟩:=hcap
  cases ha with
  | slnil=>exact absurd rfl hes
  | slemp=>exact absurd rfl hes
  | sl _ _ b0 o0 cap0 f0 hcap0 hk0 hc0 hX0 h10 hr0 =>
  injection hcap with _ _ hcap
  subst hcap
  have hl0:=flat_length f0 es.length it.size
  have hcell0:=flat_cell (w:=w) (f:=f0) (n:=es.length) (k:=it.size) h7 fun e j he hj=>hc0 e he j hj
  have hl:=flat_length g xs.length it.size
  have hcell:=flat_cell (w:=w) (f:=g) (n:=xs.length) (k:=it.size) h7 fun e j he hj=>(hg e j he hj).1
  have hle1:es.length+xs.length≤(es.length+xs.length) * bytes:=Nat.le_mul_of_pos_right _ (Nat.pos_of_ne_zero h8)
  have hap:=run_append_grow (P:=P) w t o.type T it z0 hu hie hz0 ⟨b0,o0,none⟩ es.length es.length (flat f0 es.length it.size) hl0 hcell0 ⟨b',off,none⟩ xs.length cap (flat g xs.length it.size) hl hcell
    (by omega) (by omega) (growslice_fits (by omega) (by rw [hby]; exact hbytes))
  have hr:=hrun _ _ hap
  have hge:=grownCap_ge w (es.length+xs.length) es.length T
  generalize grownCap w (es.length+xs.length) es.length T=nc at hr hge
  have hh:(w.drew.alloc (.cells ((flat f0 es.length it.size).toArray++(flat g xs.length it.size).toArray++Builtin.zeroCells z0.cells (nc - (es.length+xs.length))) T)).heap=w.heap.push (.cells ((flat f0 es.length it.size).toArray++(flat g xs.length it.size).toArray++Builtin.zeroCells z0.cells (nc - (es.length+xs.length))) T (0,0)):=rfl
  have K:=Kp.same (push_size hh) (fun _=>push_old hh) hs
  generalize hC:(flat f0 es.length it.size).toArray++(flat g xs.length it.size).toArray++Builtin.zeroCells z0.cells (nc - (es.length+xs.length))=C at hr hh K
  have hCs:(es.length+xs.length) * it.size≤C.size:=by
    rw [← hC]; simp only [Array.size_append,List.size_toArray,hl0,hl,Nat.add_mul]; omega
  have hC1:∀ e j,e < es.length→j < it.size→C.getD (e * it.size+j) undef=f0 e j:=fun e j he hj=>by
    have hlt:=mul_lt (k:=it.size) he
    rw [← flat_getD f0 es.length it.size e j he hj,← hC]
    simp only [Array.getD_eq_getD_getElem?,List.getD_eq_getElem?_getD]
    rw [Array.getElem?_append_left (by simp only [Array.size_append,List.size_toArray,hl0,hl]; omega),Array.getElem?_append_left (by simp only [List.size_toArray,hl0]; omega)]
    simp
  have hC2:∀ e j,e < xs.length→j < it.size→C.getD ((es.length+e) * it.size+j) undef=g e j:=fun e j he hj=>by
    have hlt:=mul_lt (k:=it.size) he
    rw [← flat_getD g xs.length it.size e j he hj,← hC]
    simp only [Array.getD_eq_getD_getElem?,List.getD_eq_getElem?_getD]
    rw [Nat.add_mul,Array.getElem?_append_left (by simp only [Array.size_append,List.size_toArray,hl0,hl]; omega),Array.getElem?_append_right (by simp only [List.size_toArray,hl0]; omega)]
    simp only [List.size_toArray,hl0,List.getElem?_toArray]
    congr 2; omega
  refine done_imm hs hr hh ?_
  rw [← List.length_append]
  refine .sl it.size (es++xs) w.heap.size 0 nc (fun e j=>C.getD (e * it.size+j) undef) (by simp; omega) (rows_append (fun e he=>hk0 e he) hrow) (fun e he j hj=>?_) (fun e j _ _ hx=>Nat.lt_irrefl _ (Xt_lt hs hX hx)) (fun e j he hj=>?_) fun e j he hj=>?_
  · simp only [List.length_append] at he
    have:=mul_lt (k:=it.size) he
    rw [Nat.zero_add]; exact cell_new hh (by omega)
  · simp only [List.length_append] at he
    by_cases hlt:e < es.length
    · rw [hC1 e j hlt hj]; exact h10 e j hlt hj
    · have:=hC2 (e - es.length) j (by omega) hj
      rw [show es.length+(e - es.length)=e by omega] at this
      rw [this]; exact (hg _ _ (by omega) hj).2.1
  · simp only [List.length_append] at he
    rw [getD_append]
    by_cases hlt:e < es.length
    · rw [if_pos hlt,hC1 e j hlt hj]; exact (hr0 e j hlt hj).tr K
    · have:=hC2 (e - es.length) j (by omega) hj
      rw [show es.length+(e - es.length)=e by omega] at this
      rw [if_neg hlt,this]; exact (hg _ _ (by omega) hj).2.2.tr K
end
def I.plain:I→Bool
  | .pick .. | .call .. | .inv ..=>false
  | _=>true
theorem ex_sound {P:Program} {o:Oper} {ρ:Operand→Value} {w:World} {X:Nat→Prop} {β:Blk} {σ:Sto} {v:O→AV} {S:Prop} {r:AV} {σ':Sto} {i:I}
    (hc:chkI P o.op i=true) (hs:SRel w X β σ) (hX:∀ b,X b→b < w.heap.size) (hv:∀ x z,chkO x z=true→RV w (Xt X β σ) β σ (v z) (ρ x))
    (he:ex i v σ=some (S,r,σ')) (hS:S):Done P o ρ w X β σ r σ':=by
  cases i with
  | mv y=>exact ex_mv hc hs (fun x z h _=>hv x z h) he hS
  | pick a b c=>simp [ex] at he
  | alloc T k z=>exact ex_alloc hc hs hX he
  | box own T k x=>exact ex_box hc hs hX hv he
  | build z ps=>exact ex_build hc hs hv he hS
  | bsl own T k n z ps=>exact ex_bsl hc hs hX hv he
  | bslt T k n z ps=>exact ex_bslt hc hs hX hv he
  | load s a=>exact ex_load hc hs (fun x z h _=>hv x z h) he hS
  | store s a x=>exact ex_store hc hs hX hv he hS
  | bin op x y=>exact ex_bin hc hs (fun x z h _=>hv x z h) he hS
  | eqs neg ks x y=>exact ex_eqs hc hs hv he
  | eqb neg x y=>exact ex_eqb hc hs (fun x z h _=>hv x z h) he hS
  | un op x=>exact ex_un hc hs (fun x z h _=>hv x z h) he hS
  | faddr off x=>exact ex_faddr hc hs (fun x z h _=>hv x z h) he hS
  | field off s x=>exact ex_field hc hs (fun x z h _=>hv x z h) he hS
  | iaddr k x i=>exact ex_iaddr hc hs (fun x z h _=>hv x z h) he hS
  | ext i x=>exact ex_ext hc hs (fun x z h _=>hv x z h) he hS
  | len x=>exact ex_len hc hs (fun x z h _=>hv x z h) he hS
  | mnx mx x y=>exact ex_mnx hc hs (fun x z h _=>hv x z h) he hS
  | mn3 mx x y z=>exact ex_mn3 hc hs (fun x z h _=>hv x z h) he hS
  | app T k bytes s x=>exact ex_app hc hs hX hv he hS
  | mksl T k bytes z l c=>exact ex_mksl hc hs hX hv he hS
  | slice k x lo hi=>exact ex_slice hc hs hv he hS
  | mkfn f a b=>exact ex_mkfn hc hs (fun x z h _=>hv x z h) he hS
  | nilc x=>exact ex_nilc hc hs (fun x z h _=>hv x z h) he hS
  | ifc T x=>exact ex_ifc hc hs (fun x z h _=>hv x z h) he hS
  | call f as=>simp [ex] at he
  | bad=>simp [ex] at he
  | gapp T k bytes s x=>simp [ex] at he
  | gbsl T k n z ps=>simp [ex] at he
  | inv nm x as=>simp [ex] at he
  | nilq neg x y=>exact ex_nilq hc hs (fun x z h _=>hv x z h) he hS
  | mkmp n=>exact ex_mkmp hc hs hX he
  | look n ag z ok m k=>exact ex_look hc hs hv he
  | mput n m k x=>exact ex_mput hc hs hX hv he
  | ment n ag z m k=>exact ex_ment hc hs hX hv he
  | subs k x lo=>exact ex_subs hc hs hv he hS
  | appi T k bytes s x=>exact ex_appi hc hs hX hv he hS
  | clr T k z x=>exact ex_clr hc hs hX hv he hS
  | cnv k x=>exact ex_cnv hc hs (fun x z h _=>hv x z h) he hS
  | est n m s x=>exact ex_est hc hs hX hv he hS
  | nilf p neg x y=>exact ex_nilf hc hs (fun x z h=>hv x z h) he hS
theorem Kp.trans {w w' w'':World} {X X' X'':Nat→Prop} {β β' β'':Blk} {σ σ' σ'':Sto} (h:Kp w X β σ w' X' β' σ') (h':Kp w' X' β' σ' w'' X'' β'' σ''):Kp w X β σ w'' X'' β'' σ'' where
  size:=Nat.le_trans h.size h'.size
  imm b o hc hF hn:=by
    have h1:=h.imm b o hc hF hn
    rw [h'.imm b o (h1.trans hc) hF (fun hx=>hn (h.frb b (Zh hc) hx)),h1]
  frb b hb hx:=h.frb b hb (h'.frb b (Nat.lt_of_lt_of_le hb h.size) hx)
  len:=Nat.le_trans h.len h'.len
  obs f i o'' hf ho:=by
    obtain ⟨o',ho',hk',hl',hs'⟩:=h'.obs f i o'' (Nat.lt_of_lt_of_le hf h.len) ho
    obtain ⟨o,ho,hk,hl,hs⟩:=h.obs f i o' hf ho'
    refine ⟨o,ho,hk.trans hk',Nat.le_trans hl hl',fun he=>?_⟩
    obtain ⟨h1,h2⟩:=hs (by omega)
    obtain ⟨h3,h4⟩:=hs' (by omega)
    refine ⟨h3.trans h1,fun b hb c T hc=>?_⟩
    obtain ⟨c',T',hc',e1⟩:=h2 b hb c T hc
    obtain ⟨c'',T'',hc'',e2⟩:=h4 b (h1.trans hb) c' T' hc'
    exact ⟨c'',T'',hc'',e2.trans e1⟩
theorem Kp.refl {w:World} {X:Nat→Prop} {β:Blk} {σ:Sto}:Kp w X β σ w X β σ where
  size:=Nat.le_refl _
  imm _ _ _ _ _:=rfl
  frb _ _ h:=h
  len:=Nat.le_refl _
  obs f i o _ ho:=⟨o,ho,rfl,Nat.le_refl _,fun _=>⟨rfl,fun b _=>SameSize.refl w b⟩⟩
abbrev Kont:=Exit→Env→Sto→Prop
def fnc:Option Nat→Fence
  | none=>Fence.wide
  | some l=>Fence.wide.inRound l
structure Stt (N n0:Nat) (X:Nat→Prop) (env:Env) (σ:Sto) (β:Blk) (a:Act) (w:World):Prop where
  sz:a.tmps.size=N
  df:∃ rs:List Nat,rs.Nodup∧a.defers=rs.map (fun r=>{ target:=.collected r,args:=#[] })∧∀ r∈rs,w.heap[r]?=some (.deferred (some []))∧¬ Xt X β σ r∧n0≤r
  bd:∀ b,X b→b < w.heap.size
  nb:n0≤w.heap.size
  sr:SRel w X β σ
  ev:∀ s,RV w (Xt X β σ) β σ (gt env s) (a.tmps.getD s undef)
def Post (N n0:Nat) (X:Nat→Prop) (w:World) (β:Blk) (σ:Sto) (K:Kont):Exit→Act→World→Prop:=fun e a' w' =>
  ∃ env' σ' β',K e env' σ'∧Stt N n0 X env' σ' β' a' w'∧Ext w β σ w' β' σ'∧Kp w (Xt X β σ) β σ w' (Xt X β' σ') β' σ'
theorem Post.trans {N n0:Nat} {X:Nat→Prop} {w w1:World} {β β1:Blk} {σ σ1:Sto} {K:Kont} (he:Ext w β σ w1 β1 σ1) (hk:Kp w (Xt X β σ) β σ w1 (Xt X β1 σ1) β1 σ1) {e:Exit} {a:Act} {w2:World}
    (h:Post N n0 X w1 β1 σ1 K e a w2):Post N n0 X w β σ K e a w2:=by
  obtain ⟨env',σ',β',h1,h2,h3,h4⟩:=h
  exact ⟨env',σ',β',h1,h2,he.trans h3,hk.trans h4⟩
def AWP (P:Program) (N:Nat) (rd:Option Nat) (c:Code) (K:Kont) (env:Env) (σ:Sto):Prop :=
  ∀ n0 X β a w,Stt N n0 X env σ β a w→c.wpIn (fnc rd) 0 P (Post N n0 X w β σ K) a w
def Kl (live:List Nat) (K:Kont):Kont:=fun e env σ =>
  match e with
  | .normal=>K .normal (keep live env) σ
  | e=>K e env σ
def chkJ (P:Program) (N:Nat) (ops:Array Oper) (o:Oper) (j:J):Bool :=
  o.dst == j.d && (match j.d with | some d=>decide (d < N) | none=>true) && chkI P o.op j.i &&
  (match o.guard,j.g with
    | none,none=>true
    | some (g,b),some (s,b')=>b == b' && (ops[g]?).bind (·.dst) == some s && j.i.calm && j.d.isSome && decide (s < N)
    | _,_=>false)
def chkL (P:Program) (N:Nat) (ops:Array Oper):List Nat→List J→Bool
  | [],[]=>true
  | i::is,j::js=>(match ops[i]? with | some o=>chkJ P N ops o j | none=>false) && chkL P N ops is js
  | _,_=>false
def OWP (P:Program) (N:Nat) (rd:Option Nat) (l:List J) (live:List Nat) (K:Kont) (env:Env) (σ:Sto):Prop :=
  ∀ ops is,chkL P N ops is l=true→∀ n0 X β a w,Stt N n0 X env σ β a w→wpOpsIn (fnc rd) 0 P ops (Post N n0 X w β σ (Kl live K)) is a w
structure Does (P:Program) (f:Nat) (args:List AV) (σ:Sto) (R:AV→Sto→Prop):Prop where
  ent:∀ as w,(callFunc f as).run P w=.ok (.enter f as) w
  go:∀ (X:Nat→Prop) (β:Blk) (w:World) (xs:List Value),(∀ b,X b→b < w.heap.size)→SRel w X β σ→xs.length=args.length →
    (∀ i,i < args.length→RV w (Xt X β σ) β σ (args.getD i .any) (xs.getD i undef)) →
    CallsIn Fence.wide 0 P f xs.toArray w fun e w'=>∃ x r σ' β',e=.returned x∧R r σ'∧SRel w' X β' σ'∧RV w' (Xt X β' σ') β' σ' r x∧Ext w β σ w' β' σ' ∧
      Kp w (Xt X β σ) β σ w' (Xt X β' σ') β' σ'
def nob:Blk:=fun _ _=>none
structure Pure (P:Program) (f:Nat) (args:List AV) (r:AV):Prop where
  ent:∀ as w,(callFunc f as).run P w=.ok (.enter f as) w
  go:∀ (X:Nat→Prop) (w:World) (xs:List Value),(∀ b,X b→b < w.heap.size)→xs.length=args.length→(∀ i,i < args.length→RV w X nob [] (args.getD i .any) (xs.getD i undef)) →
    CallsIn Fence.wide 0 P f xs.toArray w fun e w'=>∃ x,e=.returned x∧RV w' X nob [] r x∧w.heap.size≤w'.heap.size∧(∀ b,b < w.heap.size→w'.heap[b]?=w.heap[b]?)∧Still w w'
def PureV (v:AV):Prop:=∀ w X β σ x,RV w X β σ v x→RV w X nob [] v x
theorem RV.out {w:World} {X:Nat→Prop} {β:Blk} {σ:Sto} {v:AV} {x:Value} (h:RV w X nob [] v x):RV w X β σ v x:=by
  induction h with
  | v x=>exact .v x
  | any x=>exact .any x
  | agg cs xs hn h1 _ ih=>exact .agg cs xs hn h1 ih
  | tup cs xs hn _ ih=>exact .tup cs xs hn ih
  | slnil k=>exact .slnil k
  | slemp k a cap=>exact .slemp k a cap
  | sl k es b o cap x hcap hk hc hX h1 _ ih=>exact .sl k es b o cap x hcap hk hc hX h1 ih
  | own f i n x h1 hf=>exact absurd hf (Nat.not_lt_zero _)
  | sub f i n lo x h1 hf=>exact absurd hf (Nat.not_lt_zero _)
  | fresh k es x _ hc ih=>exact .fresh k es x ih hc
  | tight f i n x _ hc ih=>exact .tight f i n x ih hc
  | ptr f i n e j x h1 hf=>exact absurd hf (Nat.not_lt_zero _)
  | iptr cs j b o x hX h1 hc _ ih=>exact .iptr cs j b o x hX h1 hc ih
  | fn f first cap xs ys hn hm _ _ ih ih'=>exact .fn f first cap xs ys hn hm ih ih'
  | yld f x h1 hf h=>exact absurd hf (Nat.not_lt_zero _)
  | mp f x h1 hf h=>exact absurd hf (Nat.not_lt_zero _)
  | imap n es b m cl hb hX hl hk _ ih=>exact .imap n es b m cl hb hX hl hk ih
  | ifc t a x _ ih=>exact .ifc t a x ih
  | when c a x _ h' ih=>exact .when c a x ih h'
@[simp] theorem PureV.v (x:Value):PureV (.v x):=fun w X β σ y h=>by cases h; exact .v _
theorem PureV.imap {n:Nat} {es:List (List Int × AV)} (h:∀ e∈es,PureV e.2):PureV (.imap n es):=fun w X β σ y hy=>by
  cases hy with
  | imap _ _ b m cl hb hX hl hk hr =>
    refine .imap n es b m cl hb hX hl hk fun i hi=>h _ ?_ _ _ _ _ _ (hr i hi)
    rw [List.getD_eq_getElem?_getD,List.getElem?_eq_getElem hi]; exact List.getElem_mem hi
@[simp] theorem PureV.any:PureV .any:=fun w X β σ y h=>.any _
theorem getD_mem {α:Type} {l:List α} {i:Nat} {d:α} (h:i < l.length):l.getD i d∈l:=by
  rw [List.getD_eq_getElem?_getD,List.getElem?_eq_getElem h]; exact List.getElem_mem h
@[simp] theorem PureV.agg {cs:List AV} (h:∀ c∈cs,PureV c):PureV (.agg cs):=fun w X β σ y hy=>by
  cases hy with
  | agg _ xs hn h1 hr=>exact .agg cs xs hn h1 fun i hi=>h _ (getD_mem hi) _ _ _ _ _ (hr i hi)
@[simp] theorem PureV.tup {cs:List AV} (h:∀ c∈cs,PureV c):PureV (.tup cs):=fun w X β σ y hy=>by
  cases hy with
  | tup _ xs hn hr=>exact .tup cs xs hn fun i hi=>h _ (getD_mem hi) _ _ _ _ _ (hr i hi)
@[simp] theorem PureV.sl {k:Nat} {es:List (List AV)} (h:∀ e∈es,∀ c∈e,PureV c):PureV (.sl k es):=fun w X β σ y hy=>by
  cases hy with
  | slnil=>exact .slnil k
  | slemp _ a cap=>exact .slemp k a cap
  | sl _ _ b o cap x hcap hk hc hX h1 hr=>exact .sl k es b o cap x hcap hk hc hX h1 fun e j he hj=>h _ (getD_mem he) _ (getD_mem (by rw [hk e he]; exact hj)) _ _ _ _ _ (hr e j he hj)
@[simp] theorem PureV.fresh {k:Nat} {es:List (List AV)} (h:∀ e∈es,∀ c∈e,PureV c):PureV (.fresh k es):=fun w X β σ y hy=>by
  cases hy with
  | fresh _ _ _ h1 hc=>exact .fresh k es y (PureV.sl h _ _ _ _ _ h1) hc
@[simp] theorem PureV.iptr {cs:List AV} {j:Nat} (h:∀ c∈cs,PureV c):PureV (.iptr cs j):=fun w X β σ y hy=>by
  cases hy with
  | iptr _ _ b o x hX h1 hc hr=>exact .iptr cs j b o x hX h1 hc fun t ht=>h _ (getD_mem ht) _ _ _ _ _ (hr t ht)
@[simp] theorem PureV.fn {f:Fn} {as bs:List AV} (h:∀ c∈as,PureV c) (h':∀ c∈bs,PureV c):PureV (.fn f as bs):=fun w X β σ y hy=>by
  cases hy with
  | fn _ _ _ xs ys hn hm hr hr'=>exact .fn f as bs xs ys hn hm (fun i hi=>h _ (getD_mem hi) _ _ _ _ _ (hr i hi)) fun i hi=>h' _ (getD_mem hi) _ _ _ _ _ (hr' i hi)
@[simp] theorem PureV.ifc {t:TypeId} {a:AV} (h:PureV a):PureV (.ifc t a):=fun w X β σ y hy=>by
  cases hy with
  | ifc _ _ x hr=>exact .ifc t a x (h _ _ _ _ _ hr)
structure Peek (P:Program) (f:Nat) (args:List AV) (σ:Sto) (r:AV):Prop where
  ent:∀ as w,(callFunc f as).run P w=.ok (.enter f as) w
  go:∀ (X:Nat→Prop) (β:Blk) (w:World) (xs:List Value),(∀ b,X b→b < w.heap.size)→SRel w X β σ→xs.length=args.length →
    (∀ i,i < args.length→RV w (Xt X β σ) β σ (args.getD i .any) (xs.getD i undef)) →
    CallsIn Fence.wide 0 P f xs.toArray w fun e w'=>∃ x,e=.returned x∧RV w' (Xt X β σ) nob [] r x∧w.heap.size≤w'.heap.size∧(∀ b,b < w.heap.size→w'.heap[b]?=w.heap[b]?)∧Still w w'
theorem Peek.of {P:Program} {f:Nat} {args:List AV} {σ:Sto} {r:AV} (hp:∀ a∈args,PureV a) (h:Pure P f args r):Peek P f args σ r :=
  ⟨h.ent,fun X β w xs hX hs hl hr=>h.go (Xt X β σ) w xs (fun b hb=>Xt_lt hs hX hb) hl fun i hi=>hp _ (getD_mem hi) _ _ _ _ _ (hr i hi)⟩
theorem ov_rel {N n0:Nat} {X:Nat→Prop} {env:Env} {σ:Sto} {β:Blk} {a:Act} {w:World} (hst:Stt N n0 X env σ β a w) {x:Operand} {o:O} (h:chkO x o=true):RV w (Xt X β σ) β σ (ov env o) (a.eval x):=by
  unfold chkO at h
  split at h
  · simp at h; subst h; exact hst.ev _
  · obtain ⟨rfl,_⟩:=beqV_eq h; exact .v _
  · obtain ⟨rfl,hsc⟩:=beqVs_eq h
    have:=(RL.vs (w:=w) (X:=Xt X β σ) (β:=β) (σ:=σ) _ hsc).agg
    simp only [Array.toArray_toList] at this
    exact this
  · simp at h; subst h
    exact .fn _ _ _ _ _ rfl rfl (fun i hi=>absurd hi (Nat.not_lt_zero _)) (fun i hi=>absurd hi (Nat.not_lt_zero _))
  · cases h
theorem strp_rel {w:World} {X:Nat→Prop} {β:Blk} {σ:Sto} {v:AV} {x:Value} (h:RV w X β σ v x) (hc:cnd v=true):RV w X β σ (strp v) x:=by
  cases h with
  | when c a x h h'=>exact h hc
  | _=>constructor <;> assumption
theorem ex_congr {i:I} {v v':O→AV} {σ:Sto} (h:∀ o∈i.os,v o=v' o):ex i v σ=ex i v' σ:=by
  cases i with
  | build z ps =>
    have:(ps.map fun p=>(p.1,p.2.1,v p.2.2))=ps.map fun p=>(p.1,p.2.1,v' p.2.2) :=
      List.map_congr_left fun p hp=>by rw [h p.2.2 (by simp only [I.os,List.mem_map]; exact ⟨p,hp,rfl⟩)]
    simp only [ex,this]
  | bsl own T k n z ps =>
    have:(ps.map fun p=>(p.1,p.2.1,v p.2.2))=ps.map fun p=>(p.1,p.2.1,v' p.2.2) :=
      List.map_congr_left fun p hp=>by rw [h p.2.2 (by simp only [I.os,List.mem_map]; exact ⟨p,hp,rfl⟩)]
    simp only [ex,this]
  | bslt T k n z ps =>
    have:(ps.map fun p=>(p.1,p.2.1,v p.2.2))=ps.map fun p=>(p.1,p.2.1,v' p.2.2) :=
      List.map_congr_left fun p hp=>by rw [h p.2.2 (by simp only [I.os,List.mem_map]; exact ⟨p,hp,rfl⟩)]
    simp only [ex,this]
  | mkfn f a b =>
    have h1:a.map v=a.map v':=List.map_congr_left fun p hp=>h p (by simp [I.os,hp])
    have h2:b.map v=b.map v':=List.map_congr_left fun p hp=>h p (by simp [I.os,hp])
    simp only [ex,h1,h2]
  | slice k x lo hi =>
    have h0:=h x (by simp [I.os])
    have h1:lo.map v=lo.map v':=by cases lo with | none=>rfl | some l=>simp [h l (by simp [I.os])]
    have h2:hi.map v=hi.map v':=by cases hi with | none=>rfl | some l=>simp [h l (by simp [I.os])]
    simp only [ex,h0,h1,h2]
  | alloc T k z=>rfl
  | pick a b c=>rfl
  | bad=>rfl
  | gapp T k bytes s x=>rfl
  | gbsl T k n z ps=>rfl
  | inv nm x as=>rfl
  | nilq neg a x=>simp only [ex,h a (by simp [I.os]),h x (by simp [I.os])]
  | call f as=>rfl
  | mv x=>simp only [ex,h x (by simp [I.os])]
  | box own T k x=>simp only [ex,h x (by simp [I.os])]
  | load s x=>simp only [ex,h x (by simp [I.os])]
  | store s a x=>simp only [ex,h a (by simp [I.os]),h x (by simp [I.os])]
  | bin op a x=>simp only [ex,h a (by simp [I.os]),h x (by simp [I.os])]
  | eqs neg ks a x=>simp only [ex,h a (by simp [I.os]),h x (by simp [I.os])]
  | eqb neg a x=>simp only [ex,h a (by simp [I.os]),h x (by simp [I.os])]
  | un op x=>simp only [ex,h x (by simp [I.os])]
  | faddr off x=>simp only [ex,h x (by simp [I.os])]
  | field off s x=>simp only [ex,h x (by simp [I.os])]
  | iaddr k a x=>simp only [ex,h a (by simp [I.os]),h x (by simp [I.os])]
  | ext i x=>simp only [ex,h x (by simp [I.os])]
  | len x=>simp only [ex,h x (by simp [I.os])]
  | mn3 mx a x y=>simp only [ex,h a (by simp [I.os]),h x (by simp [I.os]),h y (by simp [I.os])]
  | mnx mx a x=>simp only [ex,h a (by simp [I.os]),h x (by simp [I.os])]
  | app T k bytes a x=>simp only [ex,h a (by simp [I.os]),h x (by simp [I.os])]
  | mksl T k bytes z a x=>simp only [ex,h a (by simp [I.os]),h x (by simp [I.os])]
  | nilc x=>simp only [ex,h x (by simp [I.os])]
  | ifc T x=>simp only [ex,h x (by simp [I.os])]
  | mkmp n=>rfl
  | look n ag z ok m k=>simp only [ex,h m (by simp [I.os]),h k (by simp [I.os])]
  | mput n m k x=>simp only [ex,h m (by simp [I.os]),h k (by simp [I.os]),h x (by simp [I.os])]
  | appi T k bytes a x=>simp only [ex,h a (by simp [I.os]),h x (by simp [I.os])]
  | subs k a x=>simp only [ex,h a (by simp [I.os]),h x (by simp [I.os])]
  | clr T k z x=>simp only [ex,h x (by simp [I.os])]
  | cnv k x=>simp only [ex,h x (by simp [I.os])]
  | ment n ag z m k=>simp only [ex,h m (by simp [I.os]),h k (by simp [I.os])]
  | est n m s x=>simp only [ex,h m (by simp [I.os]),h s (by simp [I.os]),h x (by simp [I.os])]
  | nilf p neg a x=>simp only [ex,h a (by simp [I.os]),h x (by simp [I.os])]
theorem ex_calm {i:I} {v:O→AV} {σ:Sto} {S:Prop} {r:AV} {σ':Sto} (hc:i.calm=true) (h:ex i v σ=some (S,r,σ')):σ'=σ:=by
  cases i <;> simp only [ex,obj,I.calm,Bool.not_eq_true',Bool.false_eq_true,reduceCtorEq] at h hc
  all_goals
    (try subst hc)
    repeat' (split at h)
    all_goals first
      | contradiction
      | (simp only [Option.some.injEq,Prod.mk.injEq] at h; exact h.2.2.symm)
theorem Zq {g:Bool} {env:Env}:∀ {os:List O},sideL g env os→g=true→∀ o∈os,cnd (ov env o)=true
  | [],_,_,o,ho=>absurd ho (List.not_mem_nil)
  | a::os,h,hg,o,ho=>by
    rcases List.mem_cons.1 ho with rfl | ho
    · exact h.1 hg
    · exact Zq h.2 hg o ho
theorem step_plain {P:Program} {N n0:Nat} {X:Nat→Prop} {env:Env} {σ:Sto} {β:Blk} {a:Act} {w:World} {o:Oper} {i:I} {S:Prop} {r:AV} {σ':Sto}
    (hst:Stt N n0 X env σ β a w) (hc:chkI P o.op i=true) (hside:∀ o∈i.os,cnd (ov env o)=true) (he:ex i (fun o=>strp (ov env o)) σ=some (S,r,σ')) (hS:S) :
    Done P o a.eval w X β σ r σ':=by
  have hcg:ex i (fun o=>if cnd (ov env o) then strp (ov env o) else .any) σ=some (S,r,σ'):=by
    rw [← he]; exact ex_congr fun o ho=>by simp [hside o ho]
  refine ex_sound hc hst.sr hst.bd (fun x z h=>?_) hcg hS
  have:=ov_rel hst h
  split
  · exact strp_rel this ‹_›
  · exact .any _
def grd (env:Env):Option (Nat × Bool)→Option (Bool × Bool)
  | none=>some (true,false)
  | some (s,w)=>match gt env s with
    | .v (.bool c)=>some (c == w,true)
    | .when d (.v (.bool c))=>some (d && (c == w),true)
    | _=>none
def wrap (wr c:Bool) (v:AV):AV:=bif wr then .when c v else v
def YieldC (P:Program) (y:Nat) (args:List AV) (σ:Sto) (R:Bool→Sto→Prop):Prop :=
  ∀ (X:Nat→Prop) (β:Blk) (w:World) (xs:List Value),(∀ b,X b→b < w.heap.size)→SRel w X β σ→xs.length=args.length →
    (∀ i,i < args.length→RV w (Xt X β σ) β σ (args.getD i .any) (xs.getD i undef)) →
    ∃ o l q,σ.at y 0=some o∧o.es.length=0∧β y 0=some l∧w.heap[l]?=some (.loop q)∧q.params.size=args.length ∧
      RoundIn Fence.wide 0 P l q.fn ((q.params.zip xs.toArray).foldl (fun tmps (t,a)=>tmps.setIfInBounds t a) q.tmps) q.assign q.body w fun e w' =>
        ∃ b σ' β',e=.returned (.bool b)∧R b σ'∧SRel w' X β' σ'∧Ext w β σ w' β' σ'∧Kp w (Xt X β σ) β σ w' (Xt X β' σ') β' σ'
def CallP (P:Program) (N:Nat) (rd:Option Nat) (f:AV) (args:List AV) (c wr:Bool) (d:Option Nat) (r:List J) (live:List Nat) (K:Kont) (env:Env) (σ:Sto):Prop :=
  (∃ n first cap res,f=.fn (.func n) first cap∧(c=true→Peek P n (first++args++cap) σ res)∧OWP P N rd r live K (st d (wrap wr c res) env) σ) ∨
  (∃ n first cap R,f=.fn (.func n) first cap∧(c=true→Does P n (first++args++cap) σ R∧∀ res σ',R res σ'→OWP P N rd r live K (st d (wrap wr true res) env) σ') ∧
    (c=false→OWP P N rd r live K (st d (wrap wr false .any) env) σ)) ∨
  (∃ y R,f=.yld y∧(c=true→YieldC P y args σ R∧∀ b σ',R b σ'→OWP P N rd r live K (st d (wrap wr true (.v (.bool b))) env) σ') ∧
    (c=false→OWP P N rd r live K (st d (wrap wr false .any) env) σ))
def pickV (c:Bool) (env:Env) (x y z:O):Option (Prop × Bool) :=
  match strp (ov env x) with
  | .v (.bool p) =>
    match strp (ov env y),strp (ov env z) with
    | .v (.bool q),.v (.bool s)=>some ((c=true→cnd (ov env x)=true)∧(c=true→p=true→cnd (ov env y)=true)∧(c=true→p=false→cnd (ov env z)=true),bif p then q else s)
    | .v (.bool q),_=>some ((c=true→cnd (ov env x)=true)∧(c=true→p=true)∧(c=true→cnd (ov env y)=true),q)
    | _,.v (.bool s)=>some ((c=true→cnd (ov env x)=true)∧(c=true→p=false)∧(c=true→cnd (ov env z)=true),s)
    | _,_=>none
  | _=>none
def methOf (P:Program) (t:TypeId) (nm:String):Option Nat :=
  match P.info? t with
  | some i=>match i.methods.find? (·.name == nm) with
    | some m=>if m.path.isEmpty then (match m.func,P.underlying t with
      | some (f,false),some (.struct _)=>some f
      | _,_=>none) else none
    | none=>none
  | none=>none
def exs (P:Program) (N:Nat) (rd:Option Nat):List J→List Nat→Kont→Env→Sto→Prop
  | [],live,K,env,σ=>K .normal (keep live env) σ
  | ⟨d,i,g⟩::r,live,K,env,σ =>
    match grd env g with
    | none=>False
    | some (c,wr) =>
      match i with
      | .pick x y z =>
        match pickV c env x y z with
        | some (S,b)=>S∧exs P N rd r live K (st d (wrap wr c (.v (.bool b))) env) σ
        | none=>False
      | .call f as=>sideL c env (f::as)∧CallP P N rd (strp (ov env f)) (ocalls as env) c wr d r live K env σ
      | .inv nm x as=>sideL c env (x::as)∧(match strp (ov env x) with
        | .ifc T v=>(match methOf P T nm with
          | some n=>CallP P N rd (.fn (.func n) [v] []) (ocalls as env) c wr d r live K env σ
          | none=>False)
        | _=>c=false∧wr=true∧exs P N rd r live K (st d (wrap wr c .any) env) σ)
      | .gapp T k bytes s x=>(match c with
        | true=>(match ex (.app T k bytes s x) (fun o=>strp (ov env o)) σ with
          | some (S,v,σ')=>sideL true env [s,x]∧S∧exs P N rd r live K (st d (wrap wr true v) env) σ'
          | none=>False)
        | false=>wr=true∧exs P N rd r live K (st d (wrap wr false .any) env) σ)
      | .gbsl T k n z ps=>(match c with
        | true=>(match ex (.bsl true T k n z ps) (fun o=>strp (ov env o)) σ with
          | some (S,v,σ')=>sideL true env (ps.map (·.2.2))∧S∧exs P N rd r live K (st d (wrap wr true v) env) σ'
          | none=>False)
        | false=>wr=true∧exs P N rd r live K (st d (wrap wr false .any) env) σ)
      | i =>
        match ex i (fun o=>strp (ov env o)) σ with
        | some (S,v,σ')=>sideL c env i.os∧(c=true→S)∧exs P N rd r live K (st d (wrap wr c v) env) σ'
        | none=>c=false∧wr=true∧exs P N rd r live K (st d (wrap wr c .any) env) σ
section
variable {P:Program} {N n0:Nat} {rd:Option Nat} {K:Kont}
theorem fnc_fn (f:Nat):(fnc rd).fn f:=by cases rd <;> trivial
theorem fnc_depth:(fnc rd).depth=none:=by cases rd <;> rfl
theorem callsIn_fnc {f:Nat} {xs:Array Value} {w:World} {R:Ending→World→Prop} (h:CallsIn Fence.wide 0 P f xs w R):CallsIn (fnc rd) (0 - 1) P f xs w R:=by
  cases rd with
  | none=>exact h
  | some l=>exact CallsIn.inRound l h
theorem no_defer {o:Op} {i:I} (h:chkI P o i=true) (c:Call):o≠.defer c:=by
  rintro rfl; cases i <;> simp [chkI] at h
theorem Stt.tr {X:Nat→Prop} {env:Env} {σ σ':Sto} {β β':Blk} {a:Act} {w w':World} (h:Stt N n0 X env σ β a w) (hs:SRel w' X β' σ') (he:Ext w β σ w' β' σ')
    (K:Kp w (Xt X β σ) β σ w' (Xt X β' σ') β' σ'):Stt N n0 X env σ' β' a w' where
  sz:=h.sz
  df:=by
    obtain ⟨rs,hnd,hdf,hr⟩:=h.df
    refine ⟨rs,hnd,hdf,fun r hm=>?_⟩
    obtain ⟨h1,h2,h3⟩:=hr r hm
    exact ⟨by rw [he.old r (Zh h1) (fun ho=>h2 (.inr ho))]; exact h1,fun hx=>h2 (K.frb r (Zh h1) hx),h3⟩
  bd b hb:=Nat.lt_of_lt_of_le (h.bd b hb) he.size
  nb:=Nat.le_trans h.nb he.size
  sr:=hs
  ev s:=(h.ev s).tr K
theorem Stt.put {X:Nat→Prop} {env:Env} {σ:Sto} {β:Blk} {a:Act} {w:World} {d:Option Nat} {v:AV} {x:Value} (h:Stt N n0 X env σ β a w) (hd:∀ s,d=some s→s < N)
    (hx:RV w (Xt X β σ) β σ v x):Stt N n0 X (st d v env) σ β (a.put d x) w:=by
  cases d with
  | none=>exact h
  | some d =>
    refine ⟨by simp [Act.put,h.sz],h.df,h.bd,h.nb,h.sr,fun s=>?_⟩
    have hlt:=hd d rfl
    simp only [st,gt,Act.put]
    by_cases hs:d=s
    · subst hs
      simp only [beq_self_eq_true,cond_true]
      simpa [Array.getD_eq_getD_getElem?,Array.getElem?_setIfInBounds_self_of_lt,h.sz,hlt] using hx
    · rw [show (d == s)=false by simpa using hs]
      simpa [Array.getD_eq_getD_getElem?,Array.getElem?_setIfInBounds_ne hs] using h.ev s
theorem wanted_eq {X:Nat→Prop} {env:Env} {σ:Sto} {β:Blk} {a:Act} {w:World} {ops:Array Oper} {o:Oper} {j:J} {c wr:Bool} (h:Stt N n0 X env σ β a w) (hc:chkJ P N ops o j=true)
    (hg:grd env j.g=some (c,wr)):Region.wanted o (yielded ops a.tmps)=c∧(wr=false→c=true)∧(wr=true→j.i.calm=true∧j.d.isSome=true):=by
  simp only [chkJ,Bool.and_eq_true] at hc
  obtain ⟨_,hc⟩:=hc
  obtain ⟨d,i,g⟩:=j
  cases g with
  | none =>
    cases hog:o.guard with
    | some p=>rw [hog] at hc; simp at hc
    | none =>
      simp only [grd,Option.some.injEq,Prod.mk.injEq] at hg
      obtain ⟨rfl,rfl⟩:=hg
      exact ⟨by simp [Region.wanted,hog],fun _=>rfl,(fun h=>(by cases h))⟩
  | some p =>
    obtain ⟨s,b⟩:=p
    cases hog:o.guard with
    | none=>rw [hog] at hc; simp at hc
    | some q =>
      obtain ⟨gi,b'⟩:=q
      rw [hog] at hc
      simp only [Bool.and_eq_true,beq_iff_eq,decide_eq_true_eq] at hc
      obtain ⟨⟨⟨⟨rfl,hdst⟩,hcalm⟩,hdd⟩,hlt⟩:=hc
      have hev:=h.ev s
      have hslot:a.tmps[s]?=some (a.tmps.getD s undef):=by
        simp [Array.getD_eq_getD_getElem?,show s < a.tmps.size by rw [h.sz]; exact hlt]
      have hy:yielded ops a.tmps gi=match a.tmps.getD s undef with | .bool b=>some b | _=>none:=by
        unfold yielded
        rw [hdst,Option.bind_some,hslot]
        generalize a.tmps.getD s undef=q
        cases q <;> rfl
      simp only [grd] at hg
      split at hg
      · rename_i cc hgt
        simp only [Option.some.injEq,Prod.mk.injEq] at hg
        obtain ⟨rfl,rfl⟩:=hg
        rw [hgt] at hev
        rw [hev.inv_v] at hy
        refine ⟨?_,(fun h=>(by cases h)),fun _=>⟨hcalm,hdd⟩⟩
        simp only [Region.wanted,hog,hy]
        cases cc <;> cases b' <;> rfl
      · rename_i dd cc hgt
        simp only [Option.some.injEq,Prod.mk.injEq] at hg
        obtain ⟨rfl,rfl⟩:=hg
        rw [hgt] at hev
        refine ⟨?_,(fun h=>(by cases h)),fun _=>⟨hcalm,hdd⟩⟩
        cases hev with
        | when _ _ _ h1 h2 =>
          cases dd with
          | false =>
            rw [h2 rfl] at hy
            simp only [Region.wanted,hog,hy,undef,Bool.false_and]
            rfl
          | true =>
            have:=(h1 rfl).inv_v
            rw [this] at hy
            simp only [Region.wanted,hog,hy,Bool.true_and]
            cases cc <;> cases b' <;> rfl
      · cases hg
theorem Zg {ops:Array Oper} {o:Oper} {j:J} (hc:chkJ P N ops o j=true):o.dst=j.d∧(∀ s,j.d=some s→s < N)∧chkI P o.op j.i=true:=by
  simp only [chkJ,Bool.and_eq_true,beq_iff_eq] at hc
  obtain ⟨⟨⟨h1,h2⟩,h3⟩,_⟩:=hc
  refine ⟨h1,fun s hs=>?_,h3⟩
  rw [hs] at h2; simpa using h2
theorem ops_cons {X:Nat→Prop} {env:Env} {σ:Sto} {β:Blk} {a:Act} {w:World} {ops:Array Oper} {o:Oper} {j:J} {c wr:Bool} {i:Nat} {is:List Nat} {r:List J} {live:List Nat}
    (hst:Stt N n0 X env σ β a w) (ho:ops[i]?=some o) (hc:chkJ P N ops o j=true) (hg:grd env j.g=some (c,wr)) (hcl:chkL P N ops is r=true)
    (hyes:c=true→∃ Kn:AV→Sto→Prop,(∀ v σ',Kn v σ'→OWP P N rd r live K (st j.d (wrap wr c v) env) σ') ∧
      o.wpIn (fnc rd) 0 P a w (fun a' w'=>∃ x v σ' β',a'=a.put j.d x∧Kn v σ'∧SRel w' X β' σ'∧RV w' (Xt X β' σ') β' σ' v x∧Ext w β σ w' β' σ'∧Kp w (Xt X β σ) β σ w' (Xt X β' σ') β' σ') (Post N n0 X w β σ (Kl live K)))
    (hno:c=false→wr=true→∃ v,OWP P N rd r live K (st j.d (wrap wr c v) env) σ) :
    wpOpsIn (fnc rd) 0 P ops (Post N n0 X w β σ (Kl live K)) (i::is) a w:=by
  obtain ⟨hw,hwr,hcalm⟩:=wanted_eq hst hc hg
  obtain ⟨hd,hlt,_⟩:=Zg hc
  simp only [wpOpsIn,ho,hw]
  cases c with
  | true =>
    simp only [if_true]
    obtain ⟨Kn,hK,h⟩:=hyes rfl
    refine Oper.wpIn_mono (fun a' w' ⟨x,v,σ',β',ha,hk,hs,hr,he,kp⟩=>?_) h
    subst ha
    have hst':=(hst.tr hs he kp).put (d:=j.d) (v:=wrap wr true v) hlt (by
      cases wr with
      | false=>exact hr
      | true=>exact .when _ _ _ (fun _=>hr) (fun h=>by cases h))
    have:=hK v σ' hk ops is hcl n0 X β' _ w' hst'
    refine wpOpsIn_mono' (fun e a w h=>h.trans he kp) is _ _ this
  | false =>
    simp only [Bool.false_eq_true,if_false]
    have hwt:wr=true:=by cases wr with | false=>exact absurd (hwr rfl) (by simp) | true=>rfl
    subst hwt
    obtain ⟨v,h⟩:=hno rfl rfl
    refine ⟨fun f _=>fnc_fn f,?_⟩
    rw [hd]
    exact h ops is hcl n0 X β _ w (hst.put (v:=wrap true false v) hlt (.when _ _ _ (fun h=>by cases h) (fun _=>rfl)))
  where
    wpOpsIn_mono' {F:Fence} {ops:Array Oper} {Q Q':Exit→Act→World→Prop} (hq:∀ e a w,Q e a w→Q' e a w):∀ (is:List Nat) (a:Act) (w:World),wpOpsIn F 0 P ops Q is a w→wpOpsIn F 0 P ops Q' is a w
      | [],a,w,h=>hq _ _ _ h
      | i::is,a,w,h=>by
        simp only [wpOpsIn] at h ⊢
        cases ho:ops[i]? with
        | none=>simp only [ho] at h ⊢; exact wpOpsIn_mono' hq is a w h
        | some o =>
          simp only [ho] at h ⊢
          cases hw:Region.wanted o (yielded ops a.tmps) with
          | false =>
            simp only [hw,Bool.false_eq_true,if_false] at h ⊢
            exact ⟨h.1,wpOpsIn_mono' hq is _ _ h.2⟩
          | true =>
            simp only [hw,if_true] at h ⊢
            obtain ⟨h1,h2⟩:=h
            refine ⟨h1,?_⟩
            generalize (o.semAt F.round a.eval).run P w=r at *
            cases r with
            | ok x w' =>
              cases x <;> simp only [Oper.uponIn] at h2 ⊢ <;>
                first
                  | exact wpOpsIn_mono' hq is _ _ h2
                  | exact ⟨h2.1,CallsIn.mono h2.2 (fun e w'' he=>by cases e <;> first | exact wpOpsIn_mono' hq is _ _ he | exact hq _ _ _ he | (obtain ⟨a0,w0,h0⟩:=he; exact ⟨a0,w0,hq _ _ _ h0⟩))⟩
                  | exact ⟨h2.1,RowsIn.mono h2.2 (fun _ _ he=>wpOpsIn_mono' hq is _ _ he)⟩
                  | exact ⟨h2.1,RoundIn.mono h2.2 (fun e w'' he=>by cases e <;> first | exact wpOpsIn_mono' hq is _ _ he | exact hq _ _ _ he | (obtain ⟨a0,w0,h0⟩:=he; exact ⟨a0,w0,hq _ _ _ h0⟩))⟩
            | halt x w'=>cases x <;> simp only [Oper.uponIn] at h2 ⊢ <;> first | exact h2 | exact hq _ _ _ h2
def Aft (N:Nat) (X:Nat→Prop) (w:World) (β:Blk) (σ:Sto) (a:Act) (d:Option Nat) (Kn:AV→Sto→Prop):Act→World→Prop:=fun a' w' =>
  ∃ x v σ' β',a'=a.put d x∧Kn v σ'∧SRel w' X β' σ'∧RV w' (Xt X β' σ') β' σ' v x∧Ext w β σ w' β' σ'∧Kp w (Xt X β σ) β σ w' (Xt X β' σ') β' σ'
theorem wp_done {X:Nat→Prop} {σ:Sto} {β:Blk} {a:Act} {w:World} {o:Oper} {i:I} {d:Option Nat} {r:AV} {σ':Sto} {Q:Exit→Act→World→Prop} (hc:chkI P o.op i=true) (hd:o.dst=d)
    (h:Done P o a.eval w X β σ r σ'):o.wpIn (fnc rd) 0 P a w (Aft N X w β σ a d (fun v s=>v=r∧s=σ')) Q:=by
  obtain ⟨n,x,w',β',hrun,hn,hs,hk,he,hr⟩:=h
  refine ⟨fun f _=>fnc_fn f,?_⟩
  rw [Oper.semAt_eq _ _ _ (no_defer hc),hrun]
  rcases hn with rfl | ⟨rfl,rfl⟩
  · exact ⟨x,r,σ',β',by rw [hd],⟨rfl,rfl⟩,hs,hr,he,hk⟩
  · exact ⟨_,r,σ',β',by rw [hd],⟨rfl,rfl⟩,hs,hr,he,hk⟩
theorem ocalls_rel {X:Nat→Prop} {env:Env} {σ:Sto} {β:Blk} {a:Act} {w:World} (hst:Stt N n0 X env σ β a w):∀ (xs:List Operand) (os:List O),chkOs xs os=true→(∀ o∈os,cnd (ov env o)=true) →
    (xs.map a.eval).length=(ocalls os env).length∧∀ i,i < (ocalls os env).length→RV w (Xt X β σ) β σ ((ocalls os env).getD i .any) ((xs.map a.eval).getD i undef)
  | [],[],_,_=>⟨rfl,fun i hi=>absurd hi (Nat.not_lt_zero _)⟩
  | x::xs,o::os,h,hc=>by
    simp only [chkOs,Bool.and_eq_true] at h
    obtain ⟨h1,h2⟩:=ocalls_rel hst xs os h.2 fun o ho=>hc o (by simp [ho])
    refine ⟨by simpa [ocalls] using h1,fun i hi=>?_⟩
    cases i with
    | zero=>simpa [ocalls] using strp_rel (ov_rel hst h.1) (hc o (by simp))
    | succ i=>simpa [ocalls] using h2 i (by simpa [ocalls] using hi)
  | [],_::_,h,_=>by simp [chkOs] at h
  | _::_,[],h,_=>by simp [chkOs] at h
theorem pw_append {w:World} {X:Nat→Prop} {β:Blk} {σ:Sto} {cs ds:List AV} {xs ys:List Value} (h1:xs.length=cs.length) (h2:ys.length=ds.length)
    (hx:∀ i,i < cs.length→RV w X β σ (cs.getD i .any) (xs.getD i undef)) (hy:∀ i,i < ds.length→RV w X β σ (ds.getD i .any) (ys.getD i undef)) :
    (xs++ys).length=(cs++ds).length∧∀ i,i < (cs++ds).length→RV w X β σ ((cs++ds).getD i .any) ((xs++ys).getD i undef):=by
  refine ⟨by simp [h1,h2],fun i hi=>?_⟩
  rw [getD_append cs ds,getD_append xs ys,h1]
  split
  · exact hx i ‹_›
  · exact hy _ (by simp at hi; omega)
theorem call_run {X:Nat→Prop} {env:Env} {σ:Sto} {β:Blk} {a:Act} {w:World} {o:Oper} {f:O} {as:List O} {n:Nat} {first cap:List AV} (hst:Stt N n0 X env σ β a w) (hc:chkI P o.op (.call f as)=true)
    (hcnd:∀ x∈f::as,cnd (ov env x)=true) (hf:strp (ov env f)=.fn (.func n) first cap) (hent:∀ as w,(callFunc n as).run P w=.ok (.enter n as) w) :
    ∃ xs:List Value,xs.length=(first++ocalls as env++cap).length ∧
      (∀ i,i < (first++ocalls as env++cap).length→RV w (Xt X β σ) β σ ((first++ocalls as env++cap).getD i .any) (xs.getD i undef)) ∧
      (execOp a.eval o).run P w=.ok (.enter n xs.toArray) w:=by
  cases hop:o.op <;> rw [hop] at hc <;> try (simp [chkI] at hc; done)
  rename_i cc
  obtain ⟨cal,args,ts⟩:=cc
  cases cal <;> try (simp [chkI] at hc; done)
  · rename_i g
    simp only [chkI,Bool.and_eq_true] at hc
    have hg:=strp_rel (ov_rel hst hc.1) (hcnd f (by simp))
    rw [hf] at hg
    obtain ⟨h1,h2⟩:=ocalls_rel hst args.toList as hc.2 fun o ho=>hcnd o (by simp [ho])
    generalize hqg:a.eval g=qg at hg
    cases hg with
    | fn _ _ _ xs ys hn hm hx hy =>
      have hxl:xs.toList.length=first.length:=by simpa using hn
      have hyl:ys.toList.length=cap.length:=by simpa using hm
      obtain ⟨g1,g2⟩:=pw_append hxl h1 (fun i hi=>by simpa [Array.getD_eq_getD_getElem?,List.getD_eq_getElem?_getD] using hx i hi) h2
      obtain ⟨g3,g4⟩:=pw_append g1 hyl g2 (fun i hi=>by simpa [Array.getD_eq_getD_getElem?,List.getD_eq_getElem?_getD] using hy i hi)
      refine ⟨xs.toList++args.toList.map a.eval++ys.toList,g3,g4,?_⟩
      · unfold execOp; rw [hop]
        have e1:xs++args.map a.eval++ys=(xs.toList++args.toList.map a.eval++ys.toList).toArray:=by apply Array.ext'; simp
        simp only [resolve,Deferred.ofValue,hqg,invoke,Sem.run_bind,Sem.run_pure,Result.andThen_ok]
        rw [e1]
        exact hent _ _
theorem run_method {T:TypeId} {nm:String} {n:Nat} {v:Value} {w:World} {k:Nat} (h:methOf P T nm=some n):(method (k+1) T v nm).run P w=.ok (n,v) w:=by
  unfold methOf at h
  split at h
  case h_2=>cases h
  rename_i i hi
  split at h
  case h_2=>cases h
  rename_i m hm
  by_cases hp:m.path.isEmpty=true
  case neg=>rw [if_neg hp] at h; cases h
  rw [if_pos hp] at h
  split at h
  case h_2=>cases h
  rename_i f fs hf hu
  injection h with h; subst h
  have hp':m.path.toList=[]:=by simpa using hp
  unfold method
  simp only [Sem.run_bind,run_typeInfo _ hi,Result.andThen_ok,hm,hp',follow,Sem.run_pure,hf]
  unfold receiverAt
  simp only [Sem.run_bind,run_underlying hu,Result.andThen_ok,Place.get,Sem.run_pure]
theorem inv_run {X:Nat→Prop} {env:Env} {σ:Sto} {β:Blk} {a:Act} {w:World} {o:Oper} {nm:String} {r:O} {as:List O} {T n:Nat} {v:AV} (hst:Stt N n0 X env σ β a w) (hc:chkI P o.op (.inv nm r as)=true)
    (hcnd:∀ x∈r::as,cnd (ov env x)=true) (hf:strp (ov env r)=.ifc T v) (hm:methOf P T nm=some n) (hent:∀ as w,(callFunc n as).run P w=.ok (.enter n as) w) :
    ∃ xs:List Value,xs.length=([v]++ocalls as env++[]).length ∧
      (∀ i,i < ([v]++ocalls as env++[]).length→RV w (Xt X β σ) β σ (([v]++ocalls as env++[]).getD i .any) (xs.getD i undef)) ∧
      (execOp a.eval o).run P w=.ok (.enter n xs.toArray) w:=by
  cases hop:o.op <;> rw [hop] at hc <;> try (simp [chkI] at hc; done)
  rename_i cc
  obtain ⟨cal,args,ts⟩:=cc
  cases cal <;> try (simp [chkI] at hc; done)
  · rename_i g nm'
    simp only [chkI,Bool.and_eq_true,beq_iff_eq] at hc
    obtain ⟨⟨rfl,hg0⟩,hargs⟩:=hc
    have hg:=strp_rel (ov_rel hst hg0) (hcnd r (by simp))
    rw [hf] at hg
    obtain ⟨h1,h2⟩:=ocalls_rel hst args.toList as hargs fun o ho=>hcnd o (by simp [ho])
    generalize hqg:a.eval g=qg at hg
    cases hg with
    | ifc _ _ x hx =>
      refine ⟨x::args.toList.map a.eval,by simp [h1],fun i hi=>?_,?_⟩
      · cases i with
        | zero=>simpa using hx
        | succ i =>
          have:=h2 i (by simpa using hi)
          simpa using this
      · unfold execOp; rw [hop]
        obtain ⟨k, hk⟩ : ∃ k, P.types.size + Made.depth = k + 1 := ⟨P.types.size + Made.depth - 1, by have : 0 < Made.depth := by decide
                                                                                                      omega⟩
        simp only [resolve,hqg,invoke,Sem.run_bind,Sem.run_pure,Result.andThen_ok]
        have e1:(#[Value.iface T x]++args.map a.eval)[0]?=some (Value.iface T x):=by rw [Array.getElem?_append_left (by simp)]; rfl
        have e2:(#[Value.iface T x]++args.map a.eval).extract 1 (#[Value.iface T x]++args.map a.eval).size=args.map a.eval:=by
          apply Array.ext'; simp [List.take_of_length_le]
        rw [e1]
        simp only [e2,callMethod,Sem.run_bind,program,Sem.run,Result.andThen_ok,hk,run_method hm]
        have e3:#[x]++args.map a.eval=(x::args.toList.map a.eval).toArray:=by apply Array.ext'; simp
        rw [e3]
        exact hent _ _
theorem pick_run {X:Nat→Prop} {env:Env} {σ:Sto} {β:Blk} {a:Act} {w:World} {o:Oper} {x y z:O} {c b:Bool} {S:Prop} (hst:Stt N n0 X env σ β a w) (hci:chkI P o.op (.pick x y z)=true)
    (hp:pickV c env x y z=some (S,b)) (hS:S) (hc:c=true):(execOp a.eval o).run P w=.ok (.value (.bool b)) w:=by
  cases hop:o.op <;> rw [hop] at hci <;> try (simp [chkI] at hci; done)
  rename_i ax ay az
  simp only [chkI,Bool.and_eq_true] at hci
  unfold pickV at hp
  have hcnd:∀ {q:O} {aq:Operand} {b:Bool},chkO aq q=true→strp (ov env q)=.v (.bool b)→cnd (ov env q)=true→a.eval aq=.bool b:=by
    intro q aq b h1 h2 h3
    have h:=strp_rel (ov_rel hst h1) h3
    rw [h2] at h; exact h.inv_v
  have hgo:∀ p,a.eval ax=.bool p→(p=true→a.eval ay=.bool b)→(p=false→a.eval az=.bool b)→(execOp a.eval o).run P w=.ok (.value (.bool b)) w:=by
    intro p h1 h2 h3
    unfold execOp; rw [hop]
    simp only [h1,asBool,pure_bind]
    cases p with
    | true=>simp [h2 rfl]
    | false=>simp [h3 rfl]
  split at hp
  case h_2=>cases hp
  rename_i p hx
  split at hp
  · rename_i q s hy hz
    simp only [Option.some.injEq,Prod.mk.injEq] at hp
    obtain ⟨rfl,rfl⟩:=hp
    refine hgo p (hcnd hci.1.1 hx (hS.1 hc)) (fun hp=>?_) fun hp=>?_
    · subst hp; exact hcnd hci.1.2 hy (hS.2.1 hc rfl)
    · subst hp; exact hcnd hci.2 hz (hS.2.2 hc rfl)
  · rename_i q hy _
    simp only [Option.some.injEq,Prod.mk.injEq] at hp
    obtain ⟨rfl,rfl⟩:=hp
    exact hgo p (hcnd hci.1.1 hx (hS.1 hc)) (fun hp=>hcnd hci.1.2 hy (hS.2.2 hc)) fun hp=>by rw [hS.2.1 hc] at hp; cases hp
  · rename_i s hz _
    simp only [Option.some.injEq,Prod.mk.injEq] at hp
    obtain ⟨rfl,rfl⟩:=hp
    exact hgo p (hcnd hci.1.1 hx (hS.1 hc)) (fun hp=>by rw [hS.2.1 hc] at hp; cases hp) fun hp=>hcnd hci.2 hz (hS.2.2 hc)
  · cases hp
theorem roundIn_fnc {l:Nat} {f:FuncId} {tmps:Array Value} {as body:Code} {w:World} {R:Ending→World→Prop} (h:RoundIn Fence.wide 0 P l f tmps as body w R):RoundIn (fnc rd) (0 - 1) P l f tmps as body w R:=by
  cases rd with
  | none=>exact h
  | some l=>exact h
theorem yield_run {X:Nat→Prop} {env:Env} {σ:Sto} {β:Blk} {a:Act} {w:World} {o:Oper} {f:O} {as:List O} {y:Nat} (hst:Stt N n0 X env σ β a w) (hc:chkI P o.op (.call f as)=true)
    (hcnd:∀ x∈f::as,cnd (ov env x)=true) (hf:strp (ov env f)=.yld y) :
    ∃ xs:List Value,xs.length=(ocalls as env).length ∧
      (∀ i,i < (ocalls as env).length→RV w (Xt X β σ) β σ ((ocalls as env).getD i .any) (xs.getD i undef))∧True ∧
      ∀ ob l,σ.at y 0=some ob→ob.es.length=0→β y 0=some l→(execOp a.eval o).run P w=(Instr.yield l xs.toArray).run P w:=by
  cases hop:o.op <;> rw [hop] at hc <;> try (simp [chkI] at hc; done)
  rename_i cc
  obtain ⟨cal,args,ts⟩:=cc
  cases cal <;> try (simp [chkI] at hc; done)
  · rename_i g
    simp only [chkI,Bool.and_eq_true] at hc
    have hg:=strp_rel (ov_rel hst hc.1) (hcnd f (by simp))
    rw [hf] at hg
    obtain ⟨h1,h2⟩:=ocalls_rel hst args.toList as hc.2 fun o ho=>hcnd o (by simp [ho])
    refine ⟨args.toList.map a.eval,h1,h2,trivial,fun ob l hat hes hb=>?_⟩
    generalize hqg:a.eval g=qg at hg
    cases hg with
    | yld _ _ _ _ h =>
      obtain ⟨l',hl',rfl⟩:=h ob hat hes
      rw [hb] at hl'; injection hl' with hl'; subst hl'
      unfold execOp; rw [hop]
      have e1:#[]++args.map a.eval=(args.toList.map a.eval).toArray:=by apply Array.ext'; simp
      simp only [resolve,Deferred.ofValue,hqg,invoke,Sem.run_bind,Sem.run_pure,Result.andThen_ok]
      rw [e1]
theorem Zy:∀ {l:List J} {live:List Nat} {env:Env} {σ:Sto},exs P N rd l live K env σ→OWP P N rd l live K env σ
  | [],live,env,σ,h=>by
    intro ops is hchk n0 X β a w hst
    cases is with
    | cons i is=>simp [chkL] at hchk
    | nil=>exact ⟨env,σ,β,h,hst,Ext.refl _ _ _,Kp.refl⟩
  | ⟨d,i,g⟩::r,live,env,σ,h=>by
    intro ops is hchk n0 X β a w hst
    cases is with
    | nil=>simp [chkL] at hchk
    | cons ix is =>
    simp only [chkL,Bool.and_eq_true] at hchk
    obtain ⟨hj,hcl⟩:=hchk
    cases ho:ops[ix]? with
    | none=>rw [ho] at hj; simp at hj
    | some o =>
    rw [ho] at hj
    simp only at hj
    obtain ⟨hd,hlt,hci⟩:=Zg hj
    simp only [exs] at h
    cases hg:grd env g with
    | none=>rw [hg] at h; exact h.elim
    | some p =>
    obtain ⟨c,wr⟩:=p
    rw [hg] at h
    simp only at h hd hci
    have hwr:=(wanted_eq hst hj hg).2.1
    by_cases hg1:∃ T k bytes s x,i=.gapp T k bytes s x
    · obtain ⟨T,k,bytes,s,x,rfl⟩:=hg1
      cases c with
      | true =>
        simp only at h
        cases hex:ex (.app T k bytes s x) (fun o=>strp (ov env o)) σ with
        | none=>rw [hex] at h; exact h.elim
        | some q =>
        obtain ⟨S,v,σ'⟩:=q
        rw [hex] at h
        obtain ⟨hside,hS,hrest⟩:=h
        have hrec:=Zy hrest
        refine ops_cons hst ho hj hg hcl (fun hc=>?_) fun hc hw=>by cases hc
        refine ⟨fun v' s=>v'=v∧s=σ',fun v' s ⟨e1,e2⟩=>?_,?_⟩
        · rw [e1,e2]; exact hrec
        · exact wp_done (N:=N) (chkI_gapp hci) hd (step_plain hst (chkI_gapp hci) (Zq hside rfl) hex hS)
      | false =>
        simp only at h
        have hrec:=Zy h.2
        exact ops_cons hst ho hj hg hcl (fun hc=>by cases hc) fun hc hw=>⟨_,hrec⟩
    by_cases hg2:∃ T k n z ps,i=.gbsl T k n z ps
    · obtain ⟨T,k,n,z,ps,rfl⟩:=hg2
      cases c with
      | true =>
        simp only at h
        cases hex:ex (.bsl true T k n z ps) (fun o=>strp (ov env o)) σ with
        | none=>rw [hex] at h; exact h.elim
        | some q =>
        obtain ⟨S,v,σ'⟩:=q
        rw [hex] at h
        obtain ⟨hside,hS,hrest⟩:=h
        have hrec:=Zy hrest
        refine ops_cons hst ho hj hg hcl (fun hc=>?_) fun hc hw=>by cases hc
        refine ⟨fun v' s=>v'=v∧s=σ',fun v' s ⟨e1,e2⟩=>?_,?_⟩
        · rw [e1,e2]; exact hrec
        · exact wp_done (N:=N) (chkI_gbsl hci) hd (step_plain hst (chkI_gbsl hci) (Zq hside rfl) hex hS)
      | false =>
        simp only at h
        have hrec:=Zy h.2
        exact ops_cons hst ho hj hg hcl (fun hc=>by cases hc) fun hc hw=>⟨_,hrec⟩
    by_cases hpl:i.plain=true
    ·
      have h':match ex i (fun o=>strp (ov env o)) σ with
          | some (S,v,σ')=>sideL c env i.os∧(c=true→S)∧exs P N rd r live K (st d (wrap wr c v) env) σ'
          | none=>c=false∧wr=true∧exs P N rd r live K (st d (wrap wr c .any) env) σ:=by
        cases i <;> first | exact h | (simp [I.plain] at hpl; done) | exact absurd ⟨_,_,_,_,_,rfl⟩ hg1 | exact absurd ⟨_,_,_,_,_,rfl⟩ hg2
      cases hex:ex i (fun o=>strp (ov env o)) σ with
      | none =>
        rw [hex] at h'
        obtain ⟨h1,h2,h3⟩:=h'
        exact ops_cons hst ho hj hg hcl (fun hc=>by rw [h1] at hc; cases hc) fun hc hw=>⟨.any,Zy h3⟩
      | some q =>
      obtain ⟨S,v,σ'⟩:=q
      rw [hex] at h'
      obtain ⟨hside,hS,hrest⟩:=h'
      have hrec:=Zy hrest
      refine ops_cons hst ho hj hg hcl (fun hc=>?_) fun hc hw=>?_
      · refine ⟨fun v' s=>v'=v∧s=σ',fun v' s ⟨e1,e2⟩=>?_,?_⟩
        · rw [e1,e2]; exact hrec
        · exact wp_done (N:=N) hci hd (step_plain hst hci (Zq hside hc) hex (hS hc))
      · have hcalm:=(wanted_eq hst hj hg).2.2 hw
        have:=ex_calm hcalm.1 hex
        subst this
        exact ⟨v,hrec⟩
    · cases i <;> try (simp [I.plain] at hpl; done)
      ·
        rename_i x y z
        simp only at h
        cases hpk:pickV c env x y z with
        | none=>rw [hpk] at h; exact h.elim
        | some q =>
        obtain ⟨S,b⟩:=q
        rw [hpk] at h
        obtain ⟨hS,hrest⟩:=h
        have hrec:=Zy hrest
        refine ops_cons hst ho hj hg hcl (fun hc=>?_) fun hc hw=>⟨_,hrec⟩
        refine ⟨fun v' s'=>v'=.v (.bool b)∧s'=σ,fun v' s' ⟨e1,e2⟩=>by rw [e1,e2]; exact hrec,?_⟩
        exact wp_done (N:=N) hci hd (Zx hst.sr (pick_run hst hci hpk hS hc) (.v _))
      ·
        rename_i f as
        simp only at h
        obtain ⟨hside,h⟩:=h
        rcases h with ⟨n,first,cap,res,hf,hp,hrest⟩ | ⟨n,first,cap,R,hf,hdo,hskip⟩ | ⟨y,R,hf,hdo,hskip⟩
        · refine ops_cons hst ho hj hg hcl (fun hc=>?_) fun hc hw=>⟨res,hrest⟩
          obtain ⟨hent,hcall⟩:=hp hc
          obtain ⟨xs,hxl,hxr,hrun⟩:=call_run hst hci (Zq hside hc) hf hent
          refine ⟨fun v' s'=>v'=res∧s'=σ,fun v' s' ⟨e1,e2⟩=>?_,?_⟩
          · rw [e1,e2]; exact hrest
          · refine ⟨fun f _=>fnc_fn f,?_⟩
            rw [Oper.semAt_eq _ _ _ (no_defer hci),hrun]
            refine ⟨(fun hds=>(by rw [fnc_depth] at hds; cases hds)),?_⟩
            have hcc:=hcall X β w xs hst.bd hst.sr hxl hxr
            refine (callsIn_fnc hcc).mono ?_
            rintro e w' ⟨x,rfl,hr,hsz,hold,hio⟩
            exact ⟨x,res,σ,β,by rw [hd],⟨rfl,rfl⟩,hst.sr.same hsz hold,hr.out,Ext.same hsz hold hio,Kp.same hsz hold hst.sr⟩
        · refine ops_cons hst ho hj hg hcl (fun hc=>?_) fun hc hw=>⟨.any,by subst hc; subst hw; exact hskip rfl⟩
          subst hc
          obtain ⟨⟨hent,hcall⟩,hrest⟩:=hdo rfl
          obtain ⟨xs,hxl,hxr,hrun⟩:=call_run hst hci (Zq hside rfl) hf hent
          refine ⟨R,fun v' s' hR=>hrest v' s' hR,?_⟩
          refine ⟨fun f _=>fnc_fn f,?_⟩
          rw [Oper.semAt_eq _ _ _ (no_defer hci),hrun]
          refine ⟨(fun hds=>(by rw [fnc_depth] at hds; cases hds)),?_⟩
          have hcc:=hcall X β w xs hst.bd hst.sr hxl hxr
          refine (callsIn_fnc hcc).mono ?_
          rintro e w' ⟨x,r',σ',β',rfl,hR,hs',hr,he,hk⟩
          exact ⟨x,r',σ',β',by rw [hd],hR,hs',hr,he,hk⟩
        · refine ops_cons hst ho hj hg hcl (fun hc=>?_) fun hc hw=>⟨.any,by subst hc; subst hw; exact hskip rfl⟩
          subst hc
          obtain ⟨hcall,hrest⟩:=hdo rfl
          obtain ⟨xs,hxl,hxr,hv,hrun⟩:=yield_run hst hci (Zq hside rfl) hf
          obtain ⟨ob,l,q,hat,hes,hbl,hq,hps,hround⟩:=hcall X β w xs hst.bd hst.sr hxl hxr
          refine ⟨fun v' s'=>∃ b,v'=.v (.bool b)∧R b s',fun v' s' ⟨b,e1,hR⟩=>by rw [e1]; exact hrest b s' hR,?_⟩
          refine ⟨fun f _=>fnc_fn f,?_⟩
          rw [Oper.semAt_eq _ _ _ (no_defer hci),hrun ob l hat hes hbl,run_yield hq (by simpa [hps] using hxl)]
          refine ⟨(fun hds=>(by rw [fnc_depth] at hds; cases hds)),?_⟩
          refine (roundIn_fnc hround).mono ?_
          rintro e w' ⟨b,σ',β',rfl,hR,hs',he,hk⟩
          exact ⟨.bool b,.v (.bool b),σ',β',by rw [hd],⟨b,rfl,hR⟩,hs',.v _,he,hk⟩
      ·
        rename_i nm x as
        simp only at h
        obtain ⟨hside,h⟩:=h
        split at h
        case h_2=>exact ops_cons hst ho hj hg hcl (fun hc=>by rw [h.1] at hc; cases hc) fun hc hw=>⟨.any,Zy h.2.2⟩
        rename_i T v hx
        split at h
        case h_2=>exact h.elim
        rename_i n hmeth
        rcases h with ⟨n',first,cap,res,hf,hp,hrest⟩ | ⟨n',first,cap,R,hf,hdo,hskip⟩ | ⟨y,R,hf,hdo,hskip⟩
        · injection hf with hf1 hf2 hf3
          injection hf1 with hf1
          subst hf1; subst hf2; subst hf3
          refine ops_cons hst ho hj hg hcl (fun hc=>?_) fun hc hw=>⟨res,hrest⟩
          obtain ⟨hent,hcall⟩:=hp hc
          obtain ⟨xs,hxl,hxr,hrun⟩:=inv_run hst hci (Zq hside hc) hx hmeth hent
          refine ⟨fun v' s'=>v'=res∧s'=σ,fun v' s' ⟨e1,e2⟩=>?_,?_⟩
          · rw [e1,e2]; exact hrest
          · refine ⟨fun f _=>fnc_fn f,?_⟩
            rw [Oper.semAt_eq _ _ _ (no_defer hci),hrun]
            refine ⟨(fun hds=>(by rw [fnc_depth] at hds; cases hds)),?_⟩
            have hcc:=hcall X β w xs hst.bd hst.sr hxl hxr
            refine (callsIn_fnc hcc).mono ?_
            rintro e w' ⟨x,rfl,hr,hsz,hold,hio⟩
            exact ⟨x,res,σ,β,by rw [hd],⟨rfl,rfl⟩,hst.sr.same hsz hold,hr.out,Ext.same hsz hold hio,Kp.same hsz hold hst.sr⟩
        · injection hf with hf1 hf2 hf3
          injection hf1 with hf1
          subst hf1; subst hf2; subst hf3
          refine ops_cons hst ho hj hg hcl (fun hc=>?_) fun hc hw=>⟨.any,by subst hc; subst hw; exact hskip rfl⟩
          subst hc
          obtain ⟨⟨hent,hcall⟩,hrest⟩:=hdo rfl
          obtain ⟨xs,hxl,hxr,hrun⟩:=inv_run hst hci (Zq hside rfl) hx hmeth hent
          refine ⟨R,fun v' s' hR=>hrest v' s' hR,?_⟩
          refine ⟨fun f _=>fnc_fn f,?_⟩
          rw [Oper.semAt_eq _ _ _ (no_defer hci),hrun]
          refine ⟨(fun hds=>(by rw [fnc_depth] at hds; cases hds)),?_⟩
          have hcc:=hcall X β w xs hst.bd hst.sr hxl hxr
          refine (callsIn_fnc hcc).mono ?_
          rintro e w' ⟨x,r',σ',β',rfl,hR,hs',hr,he,hk⟩
          exact ⟨x,r',σ',β',by rw [hd],hR,hs',hr,he,hk⟩
        · cases hf
end
def slots:List O→List Nat
  | []=>[]
  | .t n::r=>n::slots r
  | _::r=>slots r
def rdJ (j:J):List Nat:=(match j.g with | some (s,_)=>[s] | none=>[])++slots j.i.os
def afts (o:Oper):List Nat:=(o.after.toList.filter (Region.binds .any)).map (·.on)
def nodupB:List (Option Nat)→Bool
  | []=>true
  | a::r=>!r.contains a && nodupB r
def dep (ops:Array Oper):Nat→Nat→Nat→Bool
  | 0,_,_=>false
  | d+1,i,k=>match ops[i]? with
    | some o=>(afts o).contains k || (afts o).any fun e=>Nat.blt k e && dep ops d e k
    | none=>false
def isAl:J→Bool
  | ⟨some _,.alloc _ _ _,none⟩=>true
  | _=>false
def chkD (P:Program) (N:Nat) (ops:Array Oper) (p l:List J):Bool :=
  ops.size == p.length+l.length && chkL P N ops (List.range p.length) p && chkL P N ops (List.range' p.length l.length) l &&
  (p.all fun j=>(j.i.calm || isAl j) && j.d.isSome) && nodupB (p.map (·.d)) &&
  ((List.range p.length).all fun i=>match ops[i]?,p[i]? with
    | some o,some j=>(afts o).all (fun k=>decide (k < i)) && (List.range p.length).all fun k=>match p[k]? with
      | some jk=>(match jk.d with | some s=>!(rdJ j).contains s || ((afts o).contains k && !isAl jk) | none=>true)
      | none=>true
    | _,_=>false) &&
  ((List.range' p.length l.length).all fun i=>match ops[i]? with
    | some o=>(afts o).all (fun k=>decide (k < i)) && (List.range i).all fun k=>dep ops 9 i k
    | none=>false)
structure Al where
  d:Nat
  T:Nat
  k:Nat
  z:List Value
def Al.ob (q:Al):Ob:=⟨q.T,q.k,[vs q.z],none⟩
def alS (al:List Al):Sto:=al.map fun q=>some [q.ob]
def toAl:J→Option Al
  | ⟨some d,.alloc T k z,none⟩=>some ⟨d,T,k,z⟩
  | _=>none
section
variable {P:Program} {N n0:Nat} {rd:Option Nat} {K:Kont}
theorem Stt.weak {X:Nat→Prop} {env env':Env} {σ:Sto} {β:Blk} {a:Act} {w:World} (hst:Stt N n0 X env σ β a w) (h:∀ s,gt env' s=.any∨gt env' s=gt env s):Stt N n0 X env' σ β a w :=
  { hst with ev:=fun s=>(h s).elim (fun e=>e ▸ .any _) (fun e=>e ▸ hst.ev s) }
def One (P:Program) (N:Nat) (rd:Option Nat) (j:J) (env:Env) (σ:Sto) (v:AV):Prop :=
  j.i.calm=true→∀ (ops:Array Oper) (i:Nat) (o:Oper),ops[i]?=some o→chkJ P N ops o j=true→∀ env',(∀ s∈rdJ j,gt env' s=gt env s)→∀ n0 X β a w,Stt N n0 X env' σ β a w →
    ∀ Q,wpOpIn (fnc rd) 0 P ops Q i (fun a' w'=>∃ β',Stt N n0 X (st j.d v env') σ β' a' w'∧Ext w β σ w' β' σ∧Kp w (Xt X β σ) β σ w' (Xt X β' σ) β' σ) a w
def PRE (P:Program) (N:Nat) (rd:Option Nat):List J→Env→Sto→List Al→(Env→Sto→Prop)→Prop
  | [],env,σ,al,Z=>Z env (σ++alS al)
  | j::r,env,σ,al,Z=>(∃ v,j.i.calm=true∧One P N rd j env σ v∧PRE P N rd r (st j.d v env) σ al Z) ∨
      (∃ q,toAl j=some q∧q.z.length=q.k∧PRE P N rd r (st (some q.d) (.ptr (σ.length+al.length) 0 1 0 0) env) σ (al++[q]) Z)
def OWD (P:Program) (N:Nat) (rd:Option Nat) (p l:List J) (live:List Nat) (K:Kont) (env:Env) (σ:Sto) (al:List Al):Prop :=
  (∀ j∈p,(j.i.calm || isAl j)=true)→PRE P N rd p env σ al fun E σ'=>OWP P N rd l live K E σ'
def CallD (P:Program) (N:Nat) (rd:Option Nat) (f:AV) (args:List AV) (c wr:Bool) (d:Option Nat) (p l:List J) (live:List Nat) (K:Kont) (env:Env) (σ:Sto) (al:List Al):Prop :=
  ∃ n first cap res,f=.fn (.func n) first cap∧(c=true→Peek P n (first++args++cap) σ res)∧OWD P N rd p l live K (st d (wrap wr c res) env) σ al
def exd (P:Program) (N:Nat) (rd:Option Nat):List J→List J→List Nat→Kont→Env→Sto→List Al→Prop
  | [],l,live,K,env,σ,al=>exs P N rd l live K env (σ++alS al)
  | ⟨d,i,g⟩::r,l,live,K,env,σ,al =>
    match grd env g with
    | none=>False
    | some (c,wr) =>
      match i with
      | .pick x y z =>
        match pickV c env x y z with
        | some (S,b)=>S∧exd P N rd r l live K (st d (wrap wr c (.v (.bool b))) env) σ al
        | none=>False
      | .alloc T k z=>(match d,g with
        | some d,none=>z.length=k∧exd P N rd r l live K (st (some d) (.ptr (σ.length+al.length) 0 1 0 0) env) σ (al++[⟨d,T,k,z⟩])
        | _,_=>False)
      | .call f as=>sideL c env (f::as)∧CallD P N rd (strp (ov env f)) (ocalls as env) c wr d r l live K env σ al
      | .inv ..=>False
      | i =>
        match ex i (fun o=>strp (ov env o)) σ with
        | some (S,v,σ')=>sideL c env i.os∧(c=true→S)∧exd P N rd r l live K (st d (wrap wr c v) env) σ al
        | none=>c=false∧wr=true∧exd P N rd r l live K (st d (wrap wr c .any) env) σ al
def I.plainD:I→Bool
  | .alloc ..=>false
  | i=>i.plain
theorem ov_slots {env env':Env}:∀ {os:List O},(∀ s∈slots os,gt env' s=gt env s)→∀ o∈os,ov env' o=ov env o
  | [],_,o,ho=>absurd ho (List.not_mem_nil)
  | a::os,h,o,ho=>by
    have h':∀ s∈slots os,gt env' s=gt env s:=fun s hs=>h s (by cases a <;> simp [slots,hs])
    rcases List.mem_cons.1 ho with rfl | ho
    · cases o with
      | t n=>exact h n (by simp [slots])
      | _=>rfl
    · exact ov_slots h' o ho
theorem sideL_congr {env env':Env} {g:Bool}:∀ {os:List O},(∀ o∈os,ov env' o=ov env o)→sideL g env os→sideL g env' os
  | [],_,_=>trivial
  | a::os,h,hh=>⟨fun e=>by rw [h a (by simp)]; exact hh.1 e,sideL_congr (fun o ho=>h o (by simp [ho])) hh.2⟩
theorem ocalls_congr {env env':Env}:∀ {os:List O},(∀ o∈os,ov env' o=ov env o)→ocalls os env'=ocalls os env
  | [],_=>rfl
  | a::os,h=>by simp [ocalls,h a (by simp),ocalls_congr (os:=os) fun o ho=>h o (by simp [ho])]
theorem grd_congr {env env':Env} {j:J} (h:∀ s∈rdJ j,gt env' s=gt env s):grd env' j.g=grd env j.g:=by
  obtain ⟨d,i,g⟩:=j
  cases g with
  | none=>rfl
  | some p=>obtain ⟨s,b⟩:=p; simp only [grd]; rw [h s (by simp [rdJ])]
theorem op_one {X:Nat→Prop} {env:Env} {σ:Sto} {β:Blk} {a:Act} {w:World} {ops:Array Oper} {o:Oper} {j:J} {c wr:Bool} {i:Nat} {v:AV} {Q:Exit→Act→World→Prop}
    (hst:Stt N n0 X env σ β a w) (ho:ops[i]?=some o) (hc:chkJ P N ops o j=true) (hg:grd env j.g=some (c,wr))
    (hyes:c=true→o.wpIn (fnc rd) 0 P a w (Aft N X w β σ a j.d (fun v' s=>v'=v∧s=σ)) Q) :
    wpOpIn (fnc rd) 0 P ops Q i (fun a' w'=>∃ β',Stt N n0 X (st j.d (wrap wr c v) env) σ β' a' w'∧Ext w β σ w' β' σ∧Kp w (Xt X β σ) β σ w' (Xt X β' σ) β' σ) a w:=by
  obtain ⟨hw,hwr,hcalm⟩:=wanted_eq hst hc hg
  obtain ⟨hd,hlt,_⟩:=Zg hc
  simp only [wpOpIn,ho,hw]
  cases c with
  | true =>
    simp only [if_true]
    refine Oper.wpIn_mono (fun a' w' ⟨x,v',σ',β',ha,⟨e1,e2⟩,hs,hr,he,kp⟩=>?_) (hyes rfl)
    subst ha; subst e1; subst e2
    exact ⟨β',(hst.tr hs he kp).put (d:=j.d) (v:=wrap wr true v') hlt (by
      cases wr with
      | false=>exact hr
      | true=>exact .when _ _ _ (fun _=>hr) (fun h=>by cases h)),he,kp⟩
  | false =>
    simp only [Bool.false_eq_true,if_false]
    have hwt:wr=true:=by cases wr with | false=>exact absurd (hwr rfl) (by simp) | true=>rfl
    subst hwt
    refine ⟨fun f _=>fnc_fn f,β,?_,Ext.refl _ _ _,Kp.refl⟩
    rw [hd]
    exact hst.put (v:=wrap true false v) hlt (.when _ _ _ (fun h=>by cases h) (fun _=>rfl))
theorem pre_of_exd:∀ {p l:List J} {live:List Nat} {env:Env} {σ:Sto} {al:List Al},exd P N rd p l live K env σ al→OWD P N rd p l live K env σ al
  | [],l,live,env,σ,al,h=>fun _=>Zy h
  | ⟨d,i,g⟩::r,l,live,env,σ,al,h=>by
    intro hall
    have hallr:∀ j∈r,(j.i.calm || isAl j)=true:=fun j hj=>hall j (by simp [hj])
    have hcal0:=hall ⟨d,i,g⟩ (by simp)
    simp only [exd] at h
    cases hg:grd env g with
    | none=>rw [hg] at h; exact h.elim
    | some p =>
    obtain ⟨c,wr⟩:=p
    rw [hg] at h
    simp only at h
    by_cases hpl:i.plainD=true
    · have hcal:i.calm=true:=by
        rcases Bool.or_eq_true _ _ ▸ hcal0 with h | h
        · exact h
        · cases i <;> cases d <;> cases g <;> simp [isAl,I.plainD] at h hpl
      have h':match ex i (fun o=>strp (ov env o)) σ with
          | some (S,v,σ')=>sideL c env i.os∧(c=true→S)∧exd P N rd r l live K (st d (wrap wr c v) env) σ al
          | none=>c=false∧wr=true∧exd P N rd r l live K (st d (wrap wr c .any) env) σ al:=by
        cases i <;> first | exact h | simp [I.plainD,I.plain] at hpl
      cases hex:ex i (fun o=>strp (ov env o)) σ with
      | none =>
        rw [hex] at h'
        obtain ⟨h1,h2,h3⟩:=h'
        refine .inl ⟨wrap wr c .any,hcal,fun hcalm ops ix o ho hj env' henv n0 X β a w hst Q=>?_,pre_of_exd h3 hallr⟩
        exact op_one hst ho hj (by rw [grd_congr henv]; exact hg) fun hc=>by rw [h1] at hc; cases hc
      | some q =>
      obtain ⟨S,v,σ'⟩:=q
      rw [hex] at h'
      obtain ⟨hside,hS,hrest⟩:=h'
      refine .inl ⟨wrap wr c v,hcal,fun hcalm ops ix o ho hj env' henv n0 X β a w hst Q=>?_,pre_of_exd hrest hallr⟩
      have hos:∀ o∈i.os,ov env' o=ov env o:=ov_slots fun s hs=>henv s (by simp [rdJ,hs])
      have hex':ex i (fun o=>strp (ov env' o)) σ=some (S,v,σ):=by
        have:=ex_calm hcalm hex
        subst this
        rw [← hex]; exact ex_congr fun o ho=>by rw [hos o ho]
      obtain ⟨hd,hlt,hci⟩:=Zg hj
      exact op_one hst ho hj (by rw [grd_congr henv]; exact hg) fun hc=>wp_done (N:=N) hci hd (step_plain hst hci (Zq (sideL_congr hos hside) hc) hex' (hS hc))
    · cases i <;> try (simp [I.plainD,I.plain] at hpl; done)
      · rename_i x y z
        simp only at h
        cases hpk:pickV c env x y z with
        | none=>rw [hpk] at h; exact h.elim
        | some q =>
        obtain ⟨S,b⟩:=q
        rw [hpk] at h
        obtain ⟨hS,hrest⟩:=h
        refine .inl ⟨_,rfl,fun hcalm ops ix o ho hj env' henv n0 X β a w hst Q=>?_,pre_of_exd hrest hallr⟩
        have hos:∀ o∈I.os (.pick x y z),ov env' o=ov env o:=ov_slots fun s hs=>henv s (by simp [rdJ,hs])
        simp only [I.os,List.mem_cons,List.not_mem_nil,or_false,forall_eq_or_imp,forall_eq] at hos
        obtain ⟨ex',ey',ez'⟩:=hos
        have hpk':pickV c env' x y z=some (S,b):=by unfold pickV at hpk ⊢; rw [ex',ey',ez']; exact hpk
        obtain ⟨hd,hlt,hci⟩:=Zg hj
        exact op_one hst ho hj (by rw [grd_congr henv]; exact hg) fun hc=>wp_done (N:=N) hci hd (Zx hst.sr (pick_run hst hci hpk' hS hc) (.v _))
      · rename_i T k z
        cases d <;> cases g <;> simp only at h <;> try exact h.elim
        exact .inr ⟨⟨_,T,k,z⟩,rfl,h.1,pre_of_exd h.2 hallr⟩
      · rename_i f as
        simp only at h
        obtain ⟨hside,n,first,cap,res,hf,hp,hrest⟩:=h
        refine .inl ⟨wrap wr c res,rfl,fun hcalm ops ix o ho hj env' henv n0 X β a w hst Q=>?_,hrest hallr⟩
        have hos:∀ o∈I.os (.call f as),ov env' o=ov env o:=ov_slots fun s hs=>henv s (by simp [rdJ,hs])
        have hside':=sideL_congr hos hside
        have hf':strp (ov env' f)=.fn (.func n) first cap:=by rw [hos f (by simp [I.os])]; exact hf
        have hoc:ocalls as env'=ocalls as env:=ocalls_congr fun o ho=>hos o (by simp [I.os,ho])
        obtain ⟨hd,hlt,hci⟩:=Zg hj
        refine op_one hst ho hj (by rw [grd_congr henv]; exact hg) fun hc=>?_
        obtain ⟨hent,hcall⟩:=hp hc
        obtain ⟨xs,hxl,hxr,hrun⟩:=call_run hst hci (Zq hside' hc) hf' hent
        rw [hoc] at hxl hxr
        refine ⟨fun f _=>fnc_fn f,?_⟩
        rw [Oper.semAt_eq _ _ _ (no_defer hci),hrun]
        refine ⟨(fun hds=>(by rw [fnc_depth] at hds; cases hds)),?_⟩
        have hcc:=hcall X β w xs hst.bd hst.sr hxl hxr
        refine (callsIn_fnc hcc).mono ?_
        rintro e w' ⟨x,rfl,hr,hsz,hold,hio⟩
        exact ⟨x,res,σ,β,by rw [hd],⟨rfl,rfl⟩,hst.sr.same hsz hold,hr.out,Ext.same hsz hold hio,Kp.same hsz hold hst.sr⟩
      · exact h.elim
theorem nodupB_spec:∀ {l:List (Option Nat)},nodupB l=true→l.Nodup
  | [],_=>List.nodup_nil
  | a::r,h=>by
    simp only [nodupB,Bool.and_eq_true,Bool.not_eq_true'] at h
    exact List.nodup_cons.2 ⟨by simpa using h.1,nodupB_spec h.2⟩
theorem Zj {j:J} {q:Al} (h:toAl j=some q):j=⟨some q.d,.alloc q.T q.k q.z,none⟩:=by
  obtain ⟨d,i,g⟩:=j
  cases d <;> cases i <;> cases g <;> simp [toAl] at h
  subst h; rfl
theorem calm_toAl {j:J} (h:j.i.calm=true):toAl j=none:=by
  obtain ⟨d,i,g⟩:=j
  cases d <;> cases i <;> cases g <;> simp_all [toAl,I.calm]
theorem pre_all {σ:Sto} {Z:Env→Sto→Prop}:∀ (p:List J) (env:Env) (al:List Al),(p.map (·.d)).Nodup→(∀ j∈p,j.d.isSome=true) →
    (∀ (i k:Nat) (j jk:J),p[i]?=some j→p[k]?=some jk→i≤k→∀ s,jk.d=some s→s ∉ rdJ j)→PRE P N rd p env σ al Z →
    ∃ E,Z E (σ++alS (al++p.filterMap toAl))∧(∀ s,(∀ j∈p,j.d≠some s)→gt E s=gt env s)∧(∀ j∈p,j.i.calm=true→∃ v,One P N rd j E σ v∧∀ s,j.d=some s→gt E s=v) ∧
      ∀ n q,(p.filterMap toAl)[n]?=some q→q.z.length=q.k∧gt E q.d=.ptr (σ.length+(al.length+n)) 0 1 0 0
  | [],env,al,_,_,_,h=>⟨env,by simpa [PRE] using h,fun _ _=>rfl,fun j hj=>absurd hj (List.not_mem_nil),fun n q h=>by simp at h⟩
  | j::r,env,al,hnd,hds,hrd,h=>by
    simp only [List.map_cons,List.nodup_cons] at hnd
    obtain ⟨s0,hs0⟩:=Option.isSome_iff_exists.1 (hds j (by simp))
    have hs0n:∀ j'∈r,j'.d≠some s0:=fun j' hj' e=>hnd.1 (by rw [hs0,← e]; exact List.mem_map_of_mem hj')
    have hstv:∀ v s,s≠s0→gt (st j.d v env) s=gt env s:=fun v s hs=>by
      rw [hs0]; simp only [st,gt]; rw [show (s0 == s)=false by simpa using fun e=>hs e.symm]; rfl
    have hrdr:∀ (i k:Nat) (j jk:J),r[i]?=some j→r[k]?=some jk→i≤k→∀ s,jk.d=some s→s ∉ rdJ j :=
      fun i k ji jk hi hk hik s=>hrd (i+1) (k+1) ji jk (by simpa using hi) (by simpa using hk) (by omega) s
    have hdr:∀ j∈r,j.d.isSome=true:=fun j hj=>hds j (by simp [hj])
    rcases h with ⟨v,hcj,h1,h2⟩ | ⟨q,hq,hz,h2⟩
    · obtain ⟨E,hz,hE,hj,hal⟩:=pre_all r _ al hnd.2 hdr hrdr h2
      have hf:(j::r).filterMap toAl=r.filterMap toAl:=by rw [List.filterMap_cons,calm_toAl hcj]
      rw [hf]
      refine ⟨E,hz,fun s hs=>?_,fun j' hj' hcj'=>?_,hal⟩
      · rw [hE s fun j' hj'=>hs j' (by simp [hj']),hstv v s fun e=>hs j (by simp) (by rw [hs0,e])]
      · rcases List.mem_cons.1 hj' with rfl | hj'
        · refine ⟨v,fun hcalm ops i o ho hc env' henv=>h1 hcalm ops i o ho hc env' fun s hs=>?_,fun s hs=>?_⟩
          · rw [henv s hs,hE s,hstv v s]
            · intro e; subst e
              exact hrd 0 0 j' j' rfl rfl (Nat.le_refl _) s hs0 hs
            · intro j2 hj2 e
              obtain ⟨k,hk⟩:=List.getElem?_of_mem hj2
              exact hrd 0 (k+1) j' j2 rfl (by simpa using hk) (Nat.zero_le _) s e hs
          · rw [hs0] at hs; injection hs with hs; subst hs
            rw [hE s0 hs0n,hs0]; simp [st,gt]
        · exact hj j' hj' hcj'
    · have hjq:=Zj hq
      have hd:j.d=some q.d:=by rw [hjq]
      obtain rfl:s0=q.d:=by rw [hd] at hs0; injection hs0 with h; exact h.symm
      rw [← hd] at h2
      obtain ⟨E,hz',hE,hj,hal⟩:=pre_all r _ (al++[q]) hnd.2 hdr hrdr h2
      have hf:(j::r).filterMap toAl=q::r.filterMap toAl:=by rw [List.filterMap_cons,hq]
      rw [hf]
      refine ⟨E,by simpa using hz',fun s hs=>?_,fun j' hj' hcj'=>?_,fun n q' hn=>?_⟩
      · rw [hE s fun j' hj'=>hs j' (by simp [hj']),hstv _ s fun e=>hs j (by simp) (by rw [hs0,e])]
      · rcases List.mem_cons.1 hj' with rfl | hj'
        · rw [hjq] at hcj'; cases hcj'
        · exact hj j' hj' hcj'
      · cases n with
        | zero =>
          simp only [List.getElem?_cons_zero,Option.some.injEq] at hn; subst hn
          refine ⟨hz,?_⟩
          rw [hE _ hs0n,hd]; simp [st,gt]
        | succ n =>
          obtain ⟨h3,h4⟩:=hal n q' (by simpa using hn)
          refine ⟨h3,?_⟩
          rw [h4]; simp; omega
theorem at_als {σ:Sto} {al:List Al} {f i:Nat} {o:Ob} (h:Sto.at (σ++alS al) f i=some o) :
    (f < σ.length∧σ.at f i=some o)∨∃ n q,f=σ.length+n∧i=0∧al[n]?=some q∧o=q.ob:=by
  by_cases hf:f < σ.length
  · refine .inl ⟨hf,?_⟩
    unfold Sto.at at h ⊢
    rwa [List.getElem?_append_left hf] at h
  · refine .inr ⟨f - σ.length,?_⟩
    unfold Sto.at at h
    rw [List.getElem?_append_right (by omega),alS,List.getElem?_map] at h
    cases hq:al[f - σ.length]? with
    | none=>rw [hq] at h; simp at h
    | some q =>
      rw [hq] at h
      simp only [Option.map_some] at h
      cases i with
      | zero=>simp only [List.getElem?_cons_zero,Option.some.injEq] at h; exact ⟨q,by omega,rfl,rfl,h.symm⟩
      | succ i=>simp at h
theorem at_als_old {σ:Sto} {al:List Al} {f i:Nat} (hf:f < σ.length):Sto.at (σ++alS al) f i=σ.at f i:=by
  unfold Sto.at; rw [List.getElem?_append_left hf]
def alB (β:Blk) (n:Nat) (bs:List Nat):Blk:=fun f i=>if n≤f∧i=0 then bs[f - n]? else β f i
theorem alB_old {β:Blk} {n f i:Nat} {bs:List Nat} (h:f < n):alB β n bs f i=β f i:=by unfold alB; rw [if_neg (by omega)]
theorem alB_new {β:Blk} {n m:Nat} {bs:List Nat}:alB β n bs (n+m) 0=bs[m]?:=by unfold alB; rw [if_pos ⟨by omega,rfl⟩]; congr 1; omega
theorem owned_als {β:Blk} {σ:Sto} {al:List Al} {bs:List Nat} {b:Nat} (h:owned (alB β σ.length bs) (σ++alS al) b):owned β σ b∨b∈bs:=by
  obtain ⟨f,i,o,ho,hb⟩:=h
  rcases at_als ho with ⟨hf,ho⟩ | ⟨n,q,rfl,rfl,hq,rfl⟩
  · rw [alB_old hf] at hb; exact .inl ⟨f,i,o,ho,hb⟩
  · rw [alB_new] at hb; exact .inr (List.mem_of_getElem? hb)
theorem adopt {X Xr:Nat→Prop} {β:Blk} {σ:Sto} {w:World} {al:List Al} {bs:List Nat} (hs:SRel w Xr β σ) (hXr:∀ b,X b→Xr b) (hbr:∀ b∈bs,Xr b) (hnX:∀ b∈bs,¬ X b) (hlen:bs.length=al.length) (hnd:bs.Nodup)
    (hh:∀ (n:Nat) (q:Al) (b:Nat),al[n]?=some q→bs[n]?=some b→q.z.length=q.k∧(∀ x∈q.z,scalar x=true)∧w.heap[b]?=some (Obj.cells q.z.toArray q.T (0,0))) :
    SRel w X (alB β σ.length bs) (σ++alS al)∧Kp w (Xt Xr β σ) β σ w (Xt X (alB β σ.length bs) (σ++alS al)) (alB β σ.length bs) (σ++alS al):=by
  have K:Kp w (Xt Xr β σ) β σ w (Xt X (alB β σ.length bs) (σ++alS al)) (alB β σ.length bs) (σ++alS al) :=
    { size:=Nat.le_refl _
      imm:=fun _ _ _ _ _=>rfl
      frb:=fun b _ h=>h.elim (fun h=>.inl (hXr b h)) fun h=>(owned_als h).elim .inr fun h=>.inl (hbr b h)
      len:=by simp
      obs:=fun f i o' hf ho=>by
        rw [at_als_old hf] at ho
        exact ⟨o',ho,rfl,Nat.le_refl _,fun _=>⟨alB_old hf,fun b _=>SameSize.refl w b⟩⟩ }
  refine ⟨⟨fun f i f' i' o o' b h1 h2 hb1 hb2=>?_,fun f i o b h1 hb hx=>?_,fun f i o h1=>?_⟩,K⟩
  · rcases at_als h1 with ⟨hf,g1⟩ | ⟨n,q,rfl,rfl,hq,e1⟩ <;> rcases at_als h2 with ⟨hf',g2⟩ | ⟨n',q',rfl,rfl,hq',e2⟩
    · rw [alB_old hf] at hb1; rw [alB_old hf'] at hb2
      exact hs.inj f i f' i' o o' b g1 g2 hb1 hb2
    · rw [alB_old hf] at hb1; rw [alB_new] at hb2
      exact absurd (hbr b (List.mem_of_getElem? hb2)) (hs.dis f i o b g1 hb1)
    · rw [alB_old hf'] at hb2; rw [alB_new] at hb1
      exact absurd (hbr b (List.mem_of_getElem? hb1)) (hs.dis f' i' o' b g2 hb2)
    · rw [alB_new] at hb1 hb2
      obtain ⟨u1,u2⟩:=List.getElem?_eq_some_iff.1 hb1
      obtain ⟨u3,u4⟩:=List.getElem?_eq_some_iff.1 hb2
      have hp:=List.pairwise_iff_getElem.1 hnd
      rcases Nat.lt_trichotomy n n' with hh | hh | hh
      · exact absurd (u2.trans u4.symm) (hp n n' u1 u3 hh)
      · exact ⟨by rw [hh],rfl⟩
      · exact absurd (u4.trans u2.symm) (hp n' n u3 u1 hh)
  · rcases at_als h1 with ⟨hf,g1⟩ | ⟨n,q,rfl,rfl,hq,e1⟩
    · rw [alB_old hf] at hb; exact hs.dis f i o b g1 hb (hXr b hx)
    · rw [alB_new] at hb; exact hnX b (List.mem_of_getElem? hb) hx
  · rcases at_als h1 with ⟨hf,g1⟩ | ⟨n,q,rfl,rfl,hq,rfl⟩
    · rw [alB_old hf]; exact (hs.obj f i o g1).tr K fun _ _=>rfl
    · rw [alB_new]
      have hn:n < bs.length:=by rw [hlen]; exact (List.getElem?_eq_some_iff.1 hq).1
      rw [List.getElem?_eq_getElem hn]
      obtain ⟨hz,hsc,hc⟩:=hh n q _ hq (List.getElem?_eq_getElem hn)
      have hrl:=RL.vs (w:=w) (X:=Xt X (alB β σ.length bs) (σ++alS al)) (β:=alB β σ.length bs) (σ:=σ++alS al) _ hsc
      have hlv:=length_vs q.z
      refine ⟨fun e he=>?_,fun _=>⟨_,hc,by simp [Al.ob,hz],fun e j he hj=>?_,fun e j he hj=>?_⟩,fun r hr=>(by cases hr)⟩
      · obtain rfl:e=0:=by simpa [Al.ob] using he
        simp [Al.ob,hlv,hz]
      · obtain rfl:e=0:=by simpa [Al.ob] using he
        have:=(hrl.2 j (by rw [hlv,hz]; exact hj)).1
        simpa [List.getD_eq_getElem?_getD,Array.getD_eq_getD_getElem?] using this
      · obtain rfl:e=0:=by simpa [Al.ob] using he
        have:=(hrl.2 j (by rw [hlv,hz]; exact hj)).2
        simpa [Al.ob,List.getD_eq_getElem?_getD,Array.getD_eq_getD_getElem?] using this
theorem run_alloc {o:Oper} {ρ:Operand→Value} {T k:Nat} {z:List Value} (hc:chkI P o.op (.alloc T k z)=true) (w:World) :
    ∃ w',(execOp ρ o).run P w=.ok (.value (.pointer (some ⟨w.heap.size,0,none⟩))) w'∧w'.heap=w.heap.push (.cells z.toArray T (0,0))∧(∀ x∈z,scalar x=true)∧Still w w':=by
  cases hop:o.op <;> rw [hop] at hc <;> try (simp [chkI] at hc; done)
  rename_i t
  simp only [chkI,Bool.and_eq_true,beq_iff_eq] at hc
  obtain ⟨⟨rfl,h1⟩,h2⟩:=hc
  have hx:execOp ρ o=(do let x ← Instr.alloc t true (.tuple #[]); pure (.value x)):=by unfold execOp; rw [hop]
  cases hz:zrF P t with
  | none=>rw [hz] at h2; simp at h2
  | some l =>
  rw [hz] at h2
  simp only at h2
  obtain ⟨rfl,hsc⟩:=beqVs_eq h2
  obtain ⟨it,z0,hit,hz0,rfl⟩:=zr_parts hz
  refine ⟨w.alloc (.cells z0.cells t),?_,rfl,hsc,rfl,rfl,rfl,(by first | exact Nat.le_refl _ | exact Nat.le_succ _)⟩
  rw [hx]
  exact Zv _ _ _ (by simp [Instr.alloc,zeroValue,typeInfo,hit,hz0,newVar,newRow])
def hid (p:List J) (listed:Array Bool) (s:Nat):Prop:=∃ k j,p[k]?=some j∧j.d=some s∧listed.getD k true=false
open Classical in
noncomputable def hide (H:Nat→Prop) (E:Env):Env:=E.filter fun q=>decide (¬ H q.1)
theorem Zu {H:Nat→Prop} {s:Nat}:∀ (E:Env),(H s→gt (hide H E) s=.any)∧(¬ H s→gt (hide H E) s=gt E s)
  | []=>⟨fun _=>rfl,fun _=>rfl⟩
  | (m,v)::r=>by
    have ih:=Zu (H:=H) (s:=s) r
    unfold hide at ih ⊢
    by_cases hm:H m
    · rw [List.filter_cons_of_neg (by simpa using hm)]
      refine ⟨ih.1,fun hs=>?_⟩
      simp only [gt]
      rw [show (m == s)=false by simp only [beq_eq_false_iff_ne]; rintro rfl; exact hs hm]
      exact ih.2 hs
    · rw [List.filter_cons_of_pos (by simpa using hm)]
      refine ⟨fun hs=>?_,fun hs=>?_⟩
      · simp only [gt]
        rw [show (m == s)=false by simp only [beq_eq_false_iff_ne]; rintro rfl; exact hm hs]
        exact ih.1 hs
      · simp only [gt]
        by_cases he:m=s
        · subst he; simp
        · rw [show (m == s)=false by simpa using he]; exact ih.2 hs
theorem mem_afts {o:Oper} {e:Edge} (he:e∈o.after) (hb:Region.binds .any e=true):e.on∈afts o:=by
  simp only [afts,List.mem_map,List.mem_filter]
  exact ⟨e,⟨by simpa using he,hb⟩,rfl⟩
theorem of_mem_afts {o:Oper} {k:Nat} (h:k∈afts o):∃ e∈o.after,Region.binds .any e=true∧e.on=k:=by
  simp only [afts,List.mem_map,List.mem_filter] at h
  obtain ⟨e,⟨h1,h2⟩,h3⟩:=h
  exact ⟨e,by simpa using h1,h2,h3⟩
theorem dep_listed {ops:Array Oper} {listed:Array Bool} (hd:∀ (k:Nat) (o:Oper),ops[k]?=some o→listed.getD k true=true→∀ e∈afts o,listed.getD e true=true):∀ (d i k:Nat) (o:Oper),ops[i]?=some o →
    (∀ e∈afts o,listed.getD e true=true)→dep ops d i k=true→listed.getD k true=true
  | 0,_,_,_,_,_,h=>by simp [dep] at h
  | d+1,i,k,o,ho,hl,h=>by
    simp only [dep,ho,Bool.or_eq_true,List.contains_eq_mem,decide_eq_true_eq,List.any_eq_true,Bool.and_eq_true] at h
    rcases h with h | ⟨e,he,_,h⟩
    · exact hl k h
    · cases hoe:ops[e]? with
      | none=>cases d <;> simp [dep,hoe] at h
      | some oe=>exact dep_listed hd d e k oe hoe (hd e oe hoe (hl e he)) h
theorem any_behind {F:Fence} {ops:Array Oper} {Q:Exit→Act→World→Prop} {m:Nat} (hall:∀ (i:Nat) (o:Oper),ops[i]?=some o→∀ k∈afts o,k < i) (hsuf:∀ i,m≤i→i < ops.size→∃ o,ops[i]?=some o∧∀ k,k < i→dep ops 9 i k=true) :
    ∀ (t j:Nat) (listed:Array Bool) (a:Act) (w:World),m≤j→j+t=ops.size→listed.size=ops.size→(∀ k,k < ops.size→(listed.getD k true=true↔k < j)) →
      wpOpsIn F 0 P ops Q (List.range' j t) a w→wpAnyIn F 0 P .any ops Q t listed a w
  | 0,j,listed,a,w,hm,hj,hsz,hl,h=>by
    refine ⟨?_,h⟩
    cases hr:Region.ready .any ops listed with
    | nil=>rfl
    | cons i rs =>
      have hi:i∈Region.ready .any ops listed:=by rw [hr]; simp
      obtain ⟨h0,o,ho,_⟩:=mem_ready.1 hi
      have hlt:=(Array.getElem?_eq_some_iff.1 ho).1
      rw [(hl i hlt).2 (by omega)] at h0
      cases h0
  | t+1,j,listed,a,w,hm,hj,hsz,hl,h=>by
    rw [List.range'_succ,wpOpsIn_cons] at h
    have hdef:∀ k,k < ops.size→listed.getD k false=listed.getD k true:=fun k hk=>by
      simp [Array.getD_eq_getD_getElem?,show k < listed.size by omega]
    have hrj:j∈Region.ready .any ops listed:=by
      obtain ⟨o,ho,h2⟩:=hsuf j hm (by omega)
      have h1:=hall j o ho
      refine mem_ready.2 ⟨?_,o,ho,fun e he hb=>?_⟩
      · cases hv:listed.getD j true with
        | false=>rfl
        | true=>exact absurd ((hl j (by omega)).1 hv) (by omega)
      · have:=h1 _ (mem_afts he hb)
        rw [hdef _ (by omega)]
        exact (hl _ (by omega)).2 this
    refine ⟨fun e=>by rw [e] at hrj; exact absurd hrj (List.not_mem_nil),fun i hi=>?_⟩
    obtain ⟨h0,o,ho,hrd⟩:=mem_ready.1 hi
    have hlt:=(Array.getElem?_eq_some_iff.1 ho).1
    have hge:¬ i < j:=fun hh=>by rw [(hl i hlt).2 hh] at h0; cases h0
    have hij:i=j:=by
      rcases Nat.lt_or_ge j i with hh | hh
      · obtain ⟨o',ho',h2⟩:=hsuf i (by omega) hlt
        rw [ho] at ho'; injection ho' with ho'; subst ho'
        have hlj:=dep_listed (listed:=listed) (fun k ok hok hlk e he=>by
          have hk:=(Array.getElem?_eq_some_iff.1 hok).1
          have:=hall k ok hok e he
          have:=(hl k hk).1 hlk
          exact (hl e (by omega)).2 (by omega)) 9 i j o ho (fun e he=>by
            obtain ⟨ed,hed,hb,rfl⟩:=of_mem_afts he
            have h3:=hrd ed hed hb
            have:=hall i o ho _ he
            rw [hdef _ (by omega)] at h3; exact h3) (h2 j hh)
        exact absurd ((hl j (by omega)).1 hlj) (by omega)
      · omega
    subst hij
    refine wpOpIn_mono (fun a' w' hh=>any_behind hall hsuf t (i+1) _ a' w' (by omega) (by omega) (by simpa using hsz) (fun k hk=>?_) hh) h
    by_cases hki:i=k
    · subst hki
      simp [Array.getD_eq_getD_getElem?,show i < listed.size by omega]
    · rw [getD_set_ne true hki,hl k hk]; omega
def cntU (p:List J) (listed:Array Bool):Nat:=(List.range p.length).countP fun k=>!listed.getD k true
theorem cntU_set {p:List J} {listed:Array Bool} {i:Nat} (hi:i < p.length) (hsz:p.length≤listed.size) (h:listed.getD i true=false):cntU p (listed.setIfInBounds i true)+1=cntU p listed:=by
  unfold cntU
  have:∀ (l:List Nat),l.Nodup→i∈l→(l.countP fun k=>!(listed.setIfInBounds i true).getD k true)+1=l.countP fun k=>!listed.getD k true:=by
    intro l
    induction l with
    | nil=>intro _ h; exact absurd h (List.not_mem_nil)
    | cons k l ih =>
      intro hnd hmem
      rw [List.nodup_cons] at hnd
      have hself:(listed.setIfInBounds i true).getD i true=true:=by simp [Array.getD_eq_getD_getElem?,show i < listed.size by omega]
      by_cases hk:k=i
      · subst hk
        rw [List.countP_cons_of_neg (by simp [hself]),List.countP_cons_of_pos (by simp [h])]
        congr 1
        refine List.countP_congr fun x hx=>?_
        rw [getD_set_ne true (show k≠x by rintro rfl; exact hnd.1 hx)]
      · have hih:=ih hnd.2 ((List.mem_cons.1 hmem).resolve_left fun e=>hk e.symm)
        have hke:(listed.setIfInBounds i true).getD k true=listed.getD k true:=getD_set_ne true fun e=>hk e.symm
        cases hv:listed.getD k true with
        | true=>rw [List.countP_cons_of_neg (by simp [hke,hv]),List.countP_cons_of_neg (by simp [hv])]; exact hih
        | false=>rw [List.countP_cons_of_pos (by simp [hke,hv]),List.countP_cons_of_pos (by simp [hv])]; omega
  exact this _ List.nodup_range (List.mem_range.2 hi)
theorem chkL_get {ops:Array Oper}:∀ {is:List Nat} {l:List J},chkL P N ops is l=true→∀ (n:Nat) (j:J),l[n]?=some j→∃ i o,is[n]?=some i∧ops[i]?=some o∧chkJ P N ops o j=true
  | [],[],_,n,j,h=>by simp at h
  | i::is,j::l,h,n,j',hn=>by
    simp only [chkL,Bool.and_eq_true] at h
    cases n with
    | zero =>
      cases ho:ops[i]? with
      | none=>rw [ho] at h; simp at h
      | some o=>rw [ho] at h; simp only [List.getElem?_cons_zero,Option.some.injEq] at hn; subst hn; exact ⟨i,o,rfl,ho,h.1⟩
    | succ n=>simpa using chkL_get h.2 n j' (by simpa using hn)
  | [],_::_,h,_,_,_=>by simp [chkL] at h
  | _::_,[],h,_,_,_=>by simp [chkL] at h
def resE (rs:List (Nat × Nat)) (E:Env):Env:=rs.map (fun p=>(p.1,AV.v (.pointer (some ⟨p.2,0,none⟩))))++E
theorem Zk {s:Nat} {E:Env}:∀ {rs:List (Nat × Nat)},s ∉ rs.map (·.1)→gt (resE rs E) s=gt E s
  | [],_=>rfl
  | (d,b)::rs,h=>by
    simp only [List.map_cons,List.mem_cons,not_or] at h
    simp only [resE,List.map_cons,List.cons_append,gt]
    rw [show (d == s)=false by simpa using fun e=>h.1 e.symm]
    exact Zk h.2
theorem gt_res_mem {s:Nat} {E E':Env}:∀ {rs:List (Nat × Nat)},s∈rs.map (·.1)→gt (resE rs E) s=gt (resE rs E') s∧∃ b,(s,b)∈rs∧gt (resE rs E) s=.v (.pointer (some ⟨b,0,none⟩))
  | [],h=>by simp at h
  | (d,b)::rs,h=>by
    simp only [resE,List.map_cons,List.cons_append,gt]
    by_cases hd:d=s
    · subst hd; simp
    · rw [show (d == s)=false by simpa using hd]
      obtain ⟨h1,b',h2,h3⟩:=gt_res_mem (E:=E) (E':=E') (rs:=rs) (by simpa [Ne.symm hd] using h)
      exact ⟨h1,b',by simp [h2],h3⟩
theorem find_res {s b:Nat} {E:Env}:∀ {rs:List (Nat × Nat)},(s,b)∈rs→gt (resE rs E) s=.v (.pointer (some ⟨b,0,none⟩))→(rs.find? fun p=>p.1 == s)=some (s,b)
  | [],h,_=>by simp at h
  | (d,c)::rs,hb,hgb=>by
    simp only [resE,List.map_cons,List.cons_append,gt] at hgb
    by_cases hd:d=s
    · subst hd
      simp only [beq_self_eq_true,cond_true,AV.v.injEq,Value.pointer.injEq,Option.some.injEq,Addr.mk.injEq,and_true,true_and] at hgb
      subst hgb; simp
    · rw [show (d == s)=false by simpa using hd] at hgb
      rw [List.find?_cons_of_neg (by simpa using hd)]
      rcases List.mem_cons.1 hb with e | hb
      · injection e with e1 e2; exact absurd e1.symm hd
      · exact find_res hb hgb
theorem als_sub:∀ (p:List J),((p.filterMap toAl).map fun q=>some q.d).Sublist (p.map (·.d))
  | []=>.slnil
  | j::p=>by
    rw [List.filterMap_cons]
    cases h:toAl j with
    | none=>simp only; exact (als_sub p).cons _
    | some q =>
      simp only [List.map_cons]
      rw [Zj h]
      exact (als_sub p).cons_cons _
theorem any_of_pre {X:Nat→Prop} {env:Env} {σ:Sto} {β:Blk} {a:Act} {w:World} {ops:Array Oper} {p l:List J} {live:List Nat} (hck:chkD P N ops p l=true) (h:OWD P N rd p l live K env σ [])
    (hst:Stt N n0 X env σ β a w):wpAnyIn (fnc rd) 0 P .any ops (Post N n0 X w β σ (Kl live K)) ops.size (Array.replicate ops.size false) a w:=by
  simp only [chkD,Bool.and_eq_true,beq_iff_eq] at hck
  obtain ⟨⟨⟨⟨⟨⟨hsize,hcp⟩,hcl⟩,hcalm⟩,hnd⟩,hpre⟩,hsuf⟩:=hck
  rw [List.all_eq_true] at hcalm hpre hsuf
  have h:=h fun j hj=>by have:=hcalm j hj; simp only [Bool.and_eq_true] at this; exact this.1
  have hpre':∀ (i:Nat) (j:J),p[i]?=some j→∃ o,ops[i]?=some o∧chkJ P N ops o j=true∧(∀ k∈afts o,k < i)∧∀ (k:Nat) (jk:J) s,p[k]?=some jk→jk.d=some s→s∈rdJ j→k∈afts o∧isAl jk=false:=by
    intro i j hj
    have hi:i < p.length:=(List.getElem?_eq_some_iff.1 hj).1
    obtain ⟨i',o,hi',ho,hcj⟩:=chkL_get hcp i j hj
    rw [List.getElem?_range hi] at hi'; injection hi' with hi'; subst hi'
    have h1:=hpre i (List.mem_range.2 hi)
    rw [ho,hj] at h1
    simp only [Bool.and_eq_true,List.all_eq_true,decide_eq_true_eq] at h1
    refine ⟨o,ho,hcj,h1.1,fun k jk s hk hs hm=>?_⟩
    have h2:=h1.2 k (List.mem_range.2 (List.getElem?_eq_some_iff.1 hk).1)
    rw [hk] at h2
    simp only [hs,Bool.or_eq_true,Bool.and_eq_true,Bool.not_eq_true',List.contains_eq_mem,decide_eq_true_eq,decide_eq_false_iff_not] at h2
    exact h2.resolve_left fun hn=>hn hm
  have hsuf':∀ i,p.length≤i→i < ops.size→∃ o,ops[i]?=some o∧(∀ k∈afts o,k < i)∧∀ k,k < i→dep ops 9 i k=true:=by
    intro i h1 h2
    have h3:=hsuf i (by rw [List.mem_range'_1]; omega)
    cases ho:ops[i]? with
    | none=>rw [ho] at h3; simp at h3
    | some o =>
      rw [ho] at h3
      simp only [Bool.and_eq_true,List.all_eq_true,decide_eq_true_eq] at h3
      exact ⟨o,rfl,h3.1,fun k hk=>h3.2 k (List.mem_range.2 hk)⟩
  have hdown:∀ (i:Nat) (o:Oper),ops[i]?=some o→∀ k∈afts o,k < i:=by
    intro i o ho
    have hlt:=(Array.getElem?_eq_some_iff.1 ho).1
    rcases Nat.lt_or_ge i p.length with h1 | h1
    · obtain ⟨o',ho',_,h2,_⟩:=hpre' i _ (List.getElem?_eq_getElem h1)
      rw [ho] at ho'; injection ho' with ho'; subst ho'; exact h2
    · obtain ⟨o',ho',h2,_⟩:=hsuf' i h1 hlt
      rw [ho] at ho'; injection ho' with ho'; subst ho'; exact h2
  have hdn:=nodupB_spec hnd
  have huniq:∀ (i k:Nat) (ji jk:J) s,p[i]?=some ji→p[k]?=some jk→ji.d=some s→jk.d=some s→i=k:=by
    intro i k ji jk s hi hk h1 h2
    obtain ⟨hi',rfl⟩:=List.getElem?_eq_some_iff.1 hi
    obtain ⟨hk',rfl⟩:=List.getElem?_eq_some_iff.1 hk
    have hp:=List.pairwise_iff_getElem.1 hdn
    rcases Nat.lt_trichotomy i k with hh | hh | hh
    · exact absurd (by rw [List.getElem_map,List.getElem_map,h1,h2]) (hp i k (by simpa using hi') (by simpa using hk') hh)
    · exact hh
    · exact absurd (by rw [List.getElem_map,List.getElem_map,h1,h2]) (hp k i (by simpa using hk') (by simpa using hi') hh)
  obtain ⟨E,hz,hE,hjE,hal⟩:=pre_all p env [] hdn (fun j hj=>by have:=hcalm j hj; simp only [Bool.and_eq_true] at this; exact this.2)
    (fun i k j jk hi hk hik s hs hm=>by
      obtain ⟨o,ho,_,h1,h2⟩:=hpre' i j hi
      have:=h1 k (h2 k jk s hk hs hm).1
      omega) h
  generalize hals:p.filterMap toAl=als at hz hal
  rw [List.nil_append] at hz
  have hmemal:∀ q,q∈als↔∃ (k:Nat) (j:J),p[k]?=some j∧toAl j=some q:=by
    intro q
    rw [← hals,List.mem_filterMap]
    constructor
    · rintro ⟨j,hj,hq⟩
      obtain ⟨k,hk⟩:=List.getElem?_of_mem hj
      exact ⟨k,j,hk,hq⟩
    · rintro ⟨k,j,hk,hq⟩
      exact ⟨j,List.mem_of_getElem? hk,hq⟩
  let Hd:Array Bool→Nat→Prop:=fun listed s=>hid p listed s∨∃ q∈als,q.d=s
  have hget_mono:∀ (listed:Array Bool) (i k:Nat),listed.getD k true=true→(listed.setIfInBounds i true).getD k true=true:=by
    intro listed i k hk
    by_cases hik:i=k
    · subst hik
      by_cases hlt:i < listed.size
      · simp [Array.getD_eq_getD_getElem?,hlt]
      · simp [Array.getD_eq_getD_getElem?,hlt]
    · rw [getD_set_ne true hik]; exact hk
  have key:∀ (u:Nat) (listed:Array Bool) (a':Act) (w':World) (β':Blk) (rs:List (Nat × Nat)),cntU p listed=u→listed.size=ops.size→(∀ k,p.length≤k→k < ops.size→listed.getD k true=false)→(∀ (k:Nat) (o:Oper),ops[k]?=some o→listed.getD k true=true→∀ e∈afts o,listed.getD e true=true) →
      Stt N n0 (fun b=>X b∨b∈rs.map (·.2)) (resE rs (hide (Hd listed) E)) σ β' a' w'→Ext w β σ w' β' σ→Kp w (Xt X β σ) β σ w' (Xt (fun b=>X b∨b∈rs.map (·.2)) β' σ) β' σ →
      (∀ d b,(d,b)∈rs→w.heap.size≤b∧∃ (k:Nat) (j:J) (q:Al),p[k]?=some j∧toAl j=some q∧q.d=d∧listed.getD k true=true∧(∀ x∈q.z,scalar x=true)∧w'.heap[b]?=some (.cells q.z.toArray q.T (0,0))) →
      (rs.map (·.2)).Nodup→(∀ (k:Nat) (j:J) (q:Al),p[k]?=some j→toAl j=some q→listed.getD k true=true→q.d∈rs.map (·.1)) →
      wpAnyIn (fnc rd) 0 P .any ops (Post N n0 X w β σ (Kl live K)) (u+l.length) listed a' w':=by
    intro u
    induction u with
    | zero =>
      intro listed a' w' β' rs hu hsz hno hdc hst' he kp hr1 hr2 hr3
      have hall:∀ k,k < p.length→listed.getD k true=true:=by
        intro k hk
        have:=List.countP_eq_zero.1 hu k (List.mem_range.2 hk)
        simpa using this
      have hnh:∀ s,¬ hid p listed s:=by
        rintro s ⟨k,j,hk,_,hh⟩
        rw [hall k (List.getElem?_eq_some_iff.1 hk).1] at hh; cases hh
      rw [Nat.zero_add]
      refine any_behind hdown (fun i h1 h2=>let ⟨o,h3,_,h4⟩:=hsuf' i h1 h2; ⟨o,h3,h4⟩) l.length p.length listed a' w' (Nat.le_refl _) (by omega) hsz (fun k hk=>?_) ?_
      · constructor
        · intro hh
          rcases Nat.lt_or_ge k p.length with h1 | h1
          · exact h1
          · rw [hno k h1 hk] at hh; cases hh
        · exact hall k
      ·
        let bs:List Nat:=als.map fun q=>((rs.find? fun p=>p.1 == q.d).map (·.2)).getD 0
        have hbs:∀ (n:Nat) (q:Al) (b:Nat),als[n]?=some q→bs[n]?=some b→(q.d,b)∈rs:=by
          intro n q b hq hb
          simp only [bs,List.getElem?_map,hq,Option.map_some,Option.some.injEq] at hb
          obtain ⟨k,j,hk,hjq⟩:=(hmemal q).1 (List.mem_of_getElem? hq)
          have:=hr3 k j q hk hjq (hall k (List.getElem?_eq_some_iff.1 hk).1)
          obtain ⟨pr,hpr,hpr1⟩:=List.mem_map.1 this
          cases hf:rs.find? fun p=>p.1 == q.d with
          | none =>
            rw [List.find?_eq_none] at hf
            exact absurd hpr1 (by simpa using hf pr hpr)
          | some p2 =>
            rw [hf] at hb
            have h1:=List.mem_of_find?_eq_some hf
            have h2:=List.find?_some hf
            simp only [Option.map_some,Option.getD_some] at hb
            obtain ⟨c,d⟩:=p2
            simp only [beq_iff_eq] at h2 hb
            subst h2; subst hb; exact h1
        have hlen:bs.length=als.length:=by simp [bs]
        have hget:∀ n,n < bs.length→∃ q,als[n]?=some q:=fun n hn=>⟨_,List.getElem?_eq_getElem (by omega)⟩
        have hbmem:∀ b∈bs,∃ d,(d,b)∈rs:=by
          intro b hb
          obtain ⟨n,hn⟩:=List.getElem?_of_mem hb
          obtain ⟨q,hq⟩:=hget n (List.getElem?_eq_some_iff.1 hn).1
          exact ⟨_,hbs n q b hq hn⟩
        have hp2:=List.pairwise_iff_getElem.1 hr2
        have hbnd:bs.Nodup:=by
          refine List.pairwise_iff_getElem.2 fun n n' hn hn' hlt=>?_
          intro e
          obtain ⟨q,hq⟩:=hget n hn
          obtain ⟨q',hq'⟩:=hget n' hn'
          have m1:=hbs n q _ hq (List.getElem?_eq_getElem hn)
          have m2:=hbs n' q' _ hq' (List.getElem?_eq_getElem hn')
          rw [← e] at m2
          have hdd:q.d=q'.d:=by
            obtain ⟨i1,hi1⟩:=List.getElem?_of_mem m1
            obtain ⟨i2,hi2⟩:=List.getElem?_of_mem m2
            obtain ⟨l1,e1⟩:=List.getElem?_eq_some_iff.1 hi1
            obtain ⟨l2,e2⟩:=List.getElem?_eq_some_iff.1 hi2
            rcases Nat.lt_trichotomy i1 i2 with hh | hh | hh
            · exact absurd (by rw [List.getElem_map,List.getElem_map,e1,e2]) (hp2 i1 i2 (by simpa using l1) (by simpa using l2) hh)
            · subst hh; rw [e1] at e2; injection e2
            · exact absurd (by rw [List.getElem_map,List.getElem_map,e1,e2]) (hp2 i2 i1 (by simpa using l2) (by simpa using l1) hh)
          have hs:=(als_sub p).nodup hdn
          rw [hals] at hs
          have hs2:=List.pairwise_iff_getElem.1 hs
          have a1:als[n]'(by omega)=q:=by obtain ⟨_,e⟩:=List.getElem?_eq_some_iff.1 hq; exact e
          have a2:als[n']'(by omega)=q':=by obtain ⟨_,e⟩:=List.getElem?_eq_some_iff.1 hq'; exact e
          exact hs2 n n' (by simp; omega) (by simp; omega) hlt (by rw [List.getElem_map,List.getElem_map,a1,a2,hdd])
        obtain ⟨hs2,K2⟩:=adopt (X:=X) (al:=als) (bs:=bs) hst'.sr (fun b hb=>.inl hb) (fun b hb=>by obtain ⟨d,hd⟩:=hbmem b hb; exact .inr (List.mem_map.2 ⟨_,hd,rfl⟩))
          (fun b hb hx=>by obtain ⟨d,hd⟩:=hbmem b hb; have:=(hr1 d b hd).1; have:=hst.bd b hx; omega) hlen hbnd (fun n q b hq hb=>by
            obtain ⟨_,k,j,q',hk,hjq,hd,_,hsc,hc⟩:=hr1 _ b (hbs n q b hq hb)
            obtain ⟨k2,j2,hk2,hjq2⟩:=(hmemal q).1 (List.mem_of_getElem? hq)
            have h1:j.d=some q'.d:=by rw [Zj hjq]
            have h2:j2.d=some q.d:=by rw [Zj hjq2]
            have:=huniq k k2 j j2 _ hk hk2 h1 (by rw [h2,hd])
            subst this
            rw [hk] at hk2; injection hk2 with hk2; subst hk2
            rw [hjq] at hjq2; injection hjq2 with hjq2; subst hjq2
            exact ⟨(hal n q' hq).1,hsc,hc⟩)
        have hst2:Stt N n0 X E (σ++alS als) (alB β' σ.length bs) a' w':=by
          refine ⟨hst'.sz,?_,fun b hb=>hst'.bd b (.inl hb),hst'.nb,hs2,fun s=>?_⟩
          · obtain ⟨ms,hmn,hmd,hm⟩:=hst'.df
            exact ⟨ms,hmn,hmd,fun r hr=>let ⟨h1,h2,h3⟩:=hm r hr; ⟨h1,fun hx=>h2 (K2.frb r (Zh h1) hx),h3⟩⟩
          · have hv:=hst'.ev s
            by_cases hs:∃ q∈als,q.d=s
            · obtain ⟨q,hq,rfl⟩:=hs
              obtain ⟨n,hn⟩:=List.getElem?_of_mem hq
              obtain ⟨_,hg⟩:=hal n q hn
              obtain ⟨k,j,hk,hjq⟩:=(hmemal q).1 hq
              obtain ⟨_,b,hb,hgb⟩:=gt_res_mem (E:=hide (Hd listed) E) (E':=[]) (hr3 k j q hk hjq (hall k (List.getElem?_eq_some_iff.1 hk).1))
              rw [hgb] at hv
              have hv:=hv.inv_v
              rw [hg,hv]
              have hnl:n < bs.length:=by rw [hlen]; exact (List.getElem?_eq_some_iff.1 hn).1
              have hat:Sto.at (σ++alS als) (σ.length+n) 0=some q.ob:=by
                unfold Sto.at
                rw [List.getElem?_append_right (by omega),alS,List.getElem?_map,show σ.length+n - σ.length=n by omega,hn]
                rfl
              simp only [List.length_nil,Nat.zero_add]
              have hbb:bs[n]?=some b:=by
                have m1:=hbs n q _ hn (List.getElem?_eq_getElem hnl)
                have:bs[n]=b:=by
                  obtain ⟨_,k1,j1,q1,hk1,hjq1,hd1,_,_,_⟩:=hr1 _ _ m1
                  simp only [bs,List.getElem_map]
                  have ha:als[n]'(by omega)=q:=by obtain ⟨_,e⟩:=List.getElem?_eq_some_iff.1 hn; exact e
                  rw [ha]
                  have hf:(rs.find? fun p=>p.1 == q.d)=some (q.d,b):=find_res hb hgb
                  rw [hf]; rfl
                rw [List.getElem?_eq_getElem hnl,this]
              refine .ptr _ _ _ _ _ _ rfl (by rw [List.length_append,alS,List.length_map]; have:=(List.getElem?_eq_some_iff.1 hn).1; omega) (fun o ho=>?_) fun o ho _=>?_
              · rw [hat] at ho; injection ho with ho; subst ho; simp [Al.ob]
              · rw [hat] at ho; injection ho with ho; subst ho
                exact ⟨b,by rw [alB_new]; exact hbb,by simp⟩
            · have hnr:s ∉ rs.map (·.1):=fun hm=>by
                obtain ⟨pr,hpr,rfl⟩:=List.mem_map.1 hm
                obtain ⟨_,k,j,q,hk,hjq,hd,_⟩:=hr1 pr.1 pr.2 hpr
                exact hs ⟨q,(hmemal q).2 ⟨k,j,hk,hjq⟩,hd⟩
              rw [Zk hnr,(Zu E).2 (fun hh=>hh.elim (hnh s) hs)] at hv
              exact hv.tr K2
        have:=hz ops _ hcl n0 X _ a' w' hst2
        have hE2:Ext w β σ w' (alB β' σ.length bs) (σ++alS als):=⟨he.size,he.old,fun b hb=>(owned_als hb).elim (he.new b) fun hb=>by
          obtain ⟨d,hd⟩:=hbmem b hb; exact .inr (hr1 d b hd).1,he.io⟩
        exact ops_cons.wpOpsIn_mono' (fun e a w h=>h.trans hE2 (kp.trans K2)) _ _ _ this
    | succ u ih =>
      intro listed a' w' β' rs hu hsz hno hdc hst' he kp hr1 hr2 hr3
      have hdef:∀ k,k < ops.size→listed.getD k false=listed.getD k true:=fun k hk=>by
        simp [Array.getD_eq_getD_getElem?,show k < listed.size by omega]
      have hex:∃ k,k < p.length∧listed.getD k true=false∧∀ k',k' < k→listed.getD k' true=true:=by
        have h0:∃ k,k < p.length∧listed.getD k true=false:=by
          have hpos:0 < cntU p listed:=by omega
          obtain ⟨k,hk,hv⟩:=List.countP_pos_iff.1 hpos
          exact ⟨k,List.mem_range.1 hk,by simpa using hv⟩
        obtain ⟨k,hk⟩:=h0
        induction k using Nat.strongRecOn with
        | _ k ihk =>
          by_cases hh:∃ k',k' < k∧listed.getD k' true=false
          · obtain ⟨k',h1,h2⟩:=hh
            exact ihk k' h1 ⟨by omega,h2⟩
          · refine ⟨k,hk.1,hk.2,fun k' h1=>?_⟩
            cases hv:listed.getD k' true with
            | true=>rfl
            | false=>exact absurd ⟨k',h1,hv⟩ hh
      obtain ⟨k0,hk0,hk1,hk2⟩:=hex
      have hr0:k0∈Region.ready .any ops listed:=by
        obtain ⟨j,hj⟩:∃ j,p[k0]?=some j:=⟨_,List.getElem?_eq_getElem hk0⟩
        obtain ⟨o,ho,_,h1,_⟩:=hpre' k0 j hj
        refine mem_ready.2 ⟨hk1,o,ho,fun e he hb=>?_⟩
        have:=h1 _ (mem_afts he hb)
        rw [hdef _ (by omega)]
        exact hk2 _ this
      rw [show u+1+l.length=(u+l.length)+1 by omega]
      refine ⟨fun e=>by rw [e] at hr0; exact absurd hr0 (List.not_mem_nil),fun i hi=>?_⟩
      obtain ⟨h0,o,ho,hall⟩:=mem_ready.1 hi
      have hlt:=(Array.getElem?_eq_some_iff.1 ho).1
      have hafl:∀ e∈afts o,listed.getD e true=true:=fun e he=>by
        obtain ⟨ed,hed,hb,rfl⟩:=of_mem_afts he
        have h3:=hall ed hed hb
        have:=hdown i o ho _ he
        rw [hdef _ (by omega)] at h3; exact h3
      have hip:i < p.length:=by
        rcases Nat.lt_or_ge i p.length with h1 | h1
        · exact h1
        · obtain ⟨o',ho',_,h2⟩:=hsuf' i h1 hlt
          rw [ho] at ho'; injection ho' with ho'; subst ho'
          have:=dep_listed hdc 9 i k0 o ho (fun e he=>hafl e he) (h2 k0 (by omega))
          rw [hk1] at this
          cases this
      obtain ⟨j,hj⟩:∃ j,p[i]?=some j:=⟨_,List.getElem?_eq_getElem hip⟩
      obtain ⟨o',ho',hcj,h1,h2⟩:=hpre' i j hj
      rw [ho] at ho'; injection ho' with ho'; subst ho'
      have hjm:j∈p:=List.mem_of_getElem? hj
      have hcj':=hcalm j hjm
      simp only [Bool.and_eq_true] at hcj'
      obtain ⟨s0,hs0⟩:=Option.isSome_iff_exists.1 hcj'.2
      have hset:(listed.setIfInBounds i true).getD i true=true:=by simp [Array.getD_eq_getD_getElem?,show i < listed.size by omega]
      have hcnt:cntU p (listed.setIfInBounds i true)=u:=by have:=cntU_set (p:=p) hip (by omega) h0; omega
      have hdc2:∀ (k:Nat) (o:Oper),ops[k]?=some o→(listed.setIfInBounds i true).getD k true=true→∀ e∈afts o,(listed.setIfInBounds i true).getD e true=true:=by
        intro k ok hok hlk e he
        by_cases hki:i=k
        · subst hki
          rw [ho] at hok; injection hok with hok; subst hok
          exact hget_mono _ _ _ (hafl e he)
        · rw [getD_set_ne true hki] at hlk
          exact hget_mono _ _ _ (hdc k ok hok hlk e he)
      have hno2:∀ k,p.length≤k→k < ops.size→(listed.setIfInBounds i true).getD k true=false:=fun k hk1 hk2=>by
        rw [getD_set_ne true (by omega)]; exact hno k hk1 hk2
      have hHd:∀ s,s≠s0→¬ Hd (listed.setIfInBounds i true) s→¬ Hd listed s:=by
        rintro s hss hh (⟨k,jk,hk,hks,hun⟩ | hq)
        · refine hh (.inl ⟨k,jk,hk,hks,?_⟩)
          rw [getD_set_ne true]
          · exact hun
          · intro e; subst e
            rw [hj] at hk; injection hk with hk; subst hk
            rw [hs0] at hks; injection hks with hks; exact hss hks.symm
        · exact hh (.inr hq)
      have hweak:∀ s,s≠s0→gt (resE rs (hide (Hd (listed.setIfInBounds i true)) E)) s=.any∨gt (resE rs (hide (Hd (listed.setIfInBounds i true)) E)) s=gt (resE rs (hide (Hd listed) E)) s:=by
        intro s hss
        by_cases hm:s∈rs.map (·.1)
        · exact .inr (gt_res_mem hm).1
        · rw [Zk hm,Zk hm]
          by_cases hh:Hd (listed.setIfInBounds i true) s
          · exact .inl ((Zu E).1 hh)
          · exact .inr (by rw [(Zu E).2 hh,(Zu E).2 (hHd s hss hh)])
      have hrsd:∀ d b,(d,b)∈rs→∃ (k:Nat) (j:J) (q:Al),p[k]?=some j∧toAl j=some q∧q.d=d∧listed.getD k true=true:=fun d b hm=>by
        obtain ⟨_,k,j,q,h1,h2,h3,h4,_⟩:=hr1 d b hm; exact ⟨k,j,q,h1,h2,h3,h4⟩
      have hs0rs:s0 ∉ rs.map (·.1):=fun hm=>by
        obtain ⟨pr,hpr,e⟩:=List.mem_map.1 hm
        obtain ⟨k,jk,q,hk,hjq,hd,hl⟩:=hrsd pr.1 pr.2 hpr
        have:i=k:=huniq i k j jk s0 hj hk hs0 (by rw [Zj hjq,hd,e])
        subst this
        rw [h0] at hl; cases hl
      by_cases hcc:j.i.calm=true
      · obtain ⟨v,hone,hv⟩:=hjE j hjm hcc
        have hnal:∀ q∈als,q.d≠s0:=fun q hq e=>by
          obtain ⟨k,jk,hk,hjq⟩:=(hmemal q).1 hq
          have:i=k:=huniq i k j jk s0 hj hk hs0 (by rw [Zj hjq,e])
          subst this
          rw [hj] at hk; injection hk with hk; subst hk
          rw [calm_toAl hcc] at hjq; cases hjq
        have hstep:=hone hcc ops i o ho hcj (resE rs (hide (Hd listed) E)) (fun s hs=>by
          have hnq:∀ q∈als,q.d≠s:=fun q hq e=>by
            obtain ⟨k,jk,hk,hjq⟩:=(hmemal q).1 hq
            have:=(h2 k jk s hk (by rw [Zj hjq,e]) hs).2
            rw [Zj hjq] at this
            cases this
          rw [Zk fun hm=>by
            obtain ⟨pr,hpr,e⟩:=List.mem_map.1 hm
            obtain ⟨k,jk,q,hk,hjq,hd,_⟩:=hrsd pr.1 pr.2 hpr
            exact hnq q ((hmemal q).2 ⟨k,jk,hk,hjq⟩) (hd.trans e)]
          refine (Zu E).2 ?_
          rintro (⟨k,jk,hk,hks,hun⟩ | ⟨q,hq,e⟩)
          · obtain ⟨e,he,hb,hon⟩:=of_mem_afts (h2 k jk s hk hks hs).1
            have:=hall e he hb
            rw [hon,hdef k (by have:=(List.getElem?_eq_some_iff.1 hk).1; omega),hun] at this
            cases this
          · exact hnq q hq e) n0 _ β' a' w' hst' (Post N n0 X w β σ (Kl live K))
        refine wpOpIn_mono (fun a2 w2 ⟨β2,hst2,he2,kp2⟩=>?_) hstep
        refine ih _ a2 w2 β2 rs hcnt (by simpa using hsz) hno2 hdc2 (hst2.weak fun s=>?_) (he.trans he2) (kp.trans kp2) (fun d b hm=>?_) hr2 (fun k jk q hk hjq hl=>?_)
        · by_cases hss:s=s0
          · subst hss
            refine .inr ?_
            rw [Zk hs0rs,(Zu E).2,hv s hs0,hs0]
            · simp [st,gt]
            · rintro (⟨k,jk,hk,hks,hun⟩ | ⟨q,hq,e⟩)
              · have:=huniq i k j jk s hj hk hs0 hks
                subst this
                rw [hset] at hun; cases hun
              · exact hnal q hq e
          · have hgst:gt (st j.d v (resE rs (hide (Hd listed) E))) s=gt (resE rs (hide (Hd listed) E)) s:=by
              rw [hs0]; simp only [st,gt]; rw [show (s0 == s)=false by simpa using fun e=>hss e.symm]; rfl
            rw [hgst]
            exact hweak s hss
        · obtain ⟨g0,k,jk,q,g1,g2,g3,g4,g5,g6⟩:=hr1 d b hm
          refine ⟨g0,k,jk,q,g1,g2,g3,hget_mono _ _ _ g4,g5,?_⟩
          rw [he2.old b (Zh g6) fun hown=>?_]
          · exact g6
          · obtain ⟨f,i,o,ho,hb⟩:=hown
            exact hst'.sr.dis f i o b ho hb (.inr (List.mem_map.2 ⟨_,hm,rfl⟩))
        · by_cases hki:i=k
          · subst hki
            rw [hj] at hk; injection hk with hk; subst hk
            rw [calm_toAl hcc] at hjq; cases hjq
          · rw [getD_set_ne true hki] at hl
            exact hr3 k jk q hk hjq hl
      ·
        have hisal:isAl j=true:=by
          rcases Bool.or_eq_true _ _ ▸ hcj'.1 with h | h
          · exact absurd h hcc
          · exact h
        obtain ⟨q,hjq⟩:∃ q,toAl j=some q:=by
          obtain ⟨d,ii,g⟩:=j
          cases d <;> cases ii <;> cases g <;> simp [isAl] at hisal
          exact ⟨_,rfl⟩
        have hjs:=Zj hjq
        have hqd:q.d=s0:=by rw [hjs] at hs0; injection hs0
        subst hjs
        obtain ⟨hw,_,_⟩:=wanted_eq hst' hcj (c:=true) (wr:=false) rfl
        obtain ⟨hd,hltd,hci⟩:=Zg hcj
        obtain ⟨w2,hrun,hh,hsc,hio⟩:=run_alloc hci w'
        simp only [wpOpIn,ho,hw,if_true]
        refine ⟨fun f _=>fnc_fn f,?_⟩
        rw [Oper.semAt_eq _ _ _ (no_defer hci),hrun]
        show wpAnyIn _ _ _ _ _ _ _ _ (a'.put o.dst _) w2
        rw [hd]
        have hsz2:w2.heap.size=w'.heap.size+1:=by rw [hh]; simp
        have K2:Kp w' (Xt (fun b=>X b∨b∈rs.map (·.2)) β' σ) β' σ w2 (Xt (fun b=>X b∨b∈((q.d,w'.heap.size)::rs).map (·.2)) β' σ) β' σ :=
          { size:=push_size hh
            imm:=fun b o hc _ _=>push_old hh (Zh hc)
            frb:=fun b hb hx=>hx.elim (fun h=>h.elim (fun h=>.inl (.inl h)) fun h=>by
              rcases List.mem_cons.1 h with e | h
              · simp only at e; omega
              · exact .inl (.inr h)) .inr
            len:=Nat.le_refl _
            obs:=fun f i o' _ ho=>⟨o',ho,rfl,Nat.le_refl _,fun _=>⟨rfl,fun b hb c T hc=>⟨c,T,by rw [push_old hh (Zh hc)]; exact hc,rfl⟩⟩⟩ }
        have hs2:SRel w2 (fun b=>X b∨b∈((q.d,w'.heap.size)::rs).map (·.2)) β' σ :=
          ⟨hst'.sr.inj,fun f i o b ho hb hx=>hx.elim (fun h=>hst'.sr.dis f i o b ho hb (.inl h)) fun h=>by
              rcases List.mem_cons.1 h with e | h
              · have:=hst'.sr.owned_lt ⟨f,i,o,ho,hb⟩
                simp only at e; omega
              · exact hst'.sr.dis f i o b ho hb (.inr h),
            fun f i o ho=>(hst'.sr.obj f i o ho).tr K2 fun b hb=>push_old hh (hst'.sr.owned_lt ⟨f,i,o,ho,hb⟩)⟩
        have hsame:∀ b,b < w'.heap.size→w2.heap[b]?=w'.heap[b]?:=fun b hb=>push_old hh hb
        refine ih _ _ w2 β' ((q.d,w'.heap.size)::rs) hcnt (by simpa using hsz) hno2 hdc2 ⟨by simp [Act.put,hst'.sz],?_,fun b hb=>?_,Nat.le_trans hst'.nb (push_size hh),hs2,fun s=>?_⟩ (he.trans (Ext.same (push_size hh) hsame hio)) (kp.trans K2) (fun d b hm=>?_) ?_ (fun k jk q' hk hjq' hl=>?_)
        · obtain ⟨ms,hmn,hmd,hm⟩:=hst'.df
          exact ⟨ms,hmn,hmd,fun r hr=>let ⟨g1,g2,g3⟩:=hm r hr; ⟨by rw [hsame r (Zh g1)]; exact g1,fun hx=>g2 (K2.frb r (Zh g1) hx),g3⟩⟩
        · rcases hb with h | h
          · have:=hst'.bd b (.inl h); omega
          · rcases List.mem_cons.1 h with e | h
            · simp only at e; omega
            · have:=hst'.bd b (.inr h); omega
        · have hlt':q.d < N:=hltd q.d rfl
          by_cases hss:s=q.d
          · subst hss
            simp only [resE,List.map_cons,List.cons_append,gt,beq_self_eq_true,cond_true,Act.put]
            have:(a'.tmps.setIfInBounds q.d (.pointer (some ⟨w'.heap.size,0,none⟩))).getD q.d undef=.pointer (some ⟨w'.heap.size,0,none⟩):=by
              simp [Array.getD_eq_getD_getElem?,hst'.sz,hlt']
            rw [this]; exact .v _
          · simp only [Act.put]
            have hne:(a'.tmps.setIfInBounds q.d (.pointer (some ⟨w'.heap.size,0,none⟩))).getD s undef=a'.tmps.getD s undef:=by
              simp [Array.getD_eq_getD_getElem?,Array.getElem?_setIfInBounds_ne (Ne.symm hss)]
            rw [hne]
            have hg:gt (resE ((q.d,w'.heap.size)::rs) (hide (Hd (listed.setIfInBounds i true)) E)) s=gt (resE rs (hide (Hd (listed.setIfInBounds i true)) E)) s:=by
              simp only [resE,List.map_cons,List.cons_append,gt]
              rw [show (q.d == s)=false by simpa using fun e=>hss e.symm]; rfl
            rw [hg]
            rcases hweak s (by rw [← hqd]; exact hss) with e | e
            · rw [e]; exact .any _
            · rw [e]; exact (hst'.ev s).tr K2
        · rcases List.mem_cons.1 hm with e | hm
          · injection e with e1 e2
            subst e1; subst e2
            exact ⟨he.size,i,_,q,hj,rfl,rfl,hset,hsc,by rw [hh]; simp⟩
          · obtain ⟨g0,k,jk,q2,g1,g2,g3,g4,g5,g6⟩:=hr1 d b hm
            exact ⟨g0,k,jk,q2,g1,g2,g3,hget_mono _ _ _ g4,g5,by rw [hsame b (Zh g6)]; exact g6⟩
        · rw [List.map_cons]
          refine List.nodup_cons.2 ⟨fun hm=>?_,hr2⟩
          have:=hst'.bd _ (.inr hm)
          simp only at this; omega
        · by_cases hki:i=k
          · subst hki
            rw [hj] at hk; injection hk with hk; subst hk
            simp only [toAl,Option.some.injEq] at hjq'
            subst hjq'; simp
          · rw [getD_set_ne true hki] at hl
            simp only [List.map_cons,List.mem_cons]
            exact .inr (hr3 k jk q' hk hjq' hl)
  have hrep:∀ k,k < ops.size→(Array.replicate ops.size false).getD k true=false:=fun k hk=>by
    simp [Array.getD_eq_getD_getElem?,hk]
  have hcnt:cntU p (Array.replicate ops.size false)=p.length:=by
    unfold cntU
    rw [List.countP_eq_length.2 (fun k hk=>by rw [hrep k (by have:=List.mem_range.1 hk; omega)]; rfl)]
    simp
  have hX0:(fun b=>X b∨b∈([]:List (Nat × Nat)).map (·.2))=X:=by funext b; simp
  have:=key p.length (Array.replicate ops.size false) a w β [] hcnt (by simp) (fun k _ hk=>hrep k hk) (fun k o hok hl=>by rw [hrep k (Array.getElem?_eq_some_iff.1 hok).1] at hl; cases hl) (by
      rw [hX0]
      refine hst.weak fun s=>?_
      show gt (hide _ E) s=_∨gt (hide _ E) s=_
      by_cases hh:Hd (Array.replicate ops.size false) s
      · exact .inl ((Zu E).1 hh)
      · refine .inr ?_
        rw [(Zu E).2 hh]
        refine hE s fun j hj e=>hh (.inl ?_)
        obtain ⟨k,hk⟩:=List.getElem?_of_mem hj
        exact ⟨k,j,hk,e,hrep k (by have:=(List.getElem?_eq_some_iff.1 hk).1; omega)⟩) (Ext.refl _ _ _) (by rw [hX0]; exact Kp.refl) (fun d b hm=>absurd hm (List.not_mem_nil)) (by simp) (fun k j q hk _ hl=>by
        rw [hrep k (by have:=(List.getElem?_eq_some_iff.1 hk).1; omega)] at hl; cases hl)
  rw [← hsize] at this; exact this
end
def swapped (l:List J) (jl:J):List J :=
  match l with
  | m::r=>m::jl::r
  | []=>[jl]
def isMv:J→Bool
  | ⟨some _,i,none⟩=>i.calm
  | _=>false
def two:List J→Bool
  | ⟨_,.call _ _,none⟩::⟨some _,.bsl _ _ _ _ _ _,none⟩::_=>true
  | _=>false
def chkE (P:Program) (N:Nat) (ops:Array Oper) (kl:Nat) (p l:List J):Bool :=
  ops.size == p.length+l.length && chkL P N ops (List.range p.length) p && chkL P N ops (List.range' p.length l.length) l &&
  (p.all fun j=>(j.i.calm || isAl j) && j.d.isSome) && nodupB (p.map (·.d)) &&
  ((List.range p.length).all fun i=>match ops[i]?,p[i]? with
    | some o,some j=>(afts o).all (fun k=>decide (k < i)) && (List.range p.length).all fun k=>match p[k]? with
      | some jk=>(match jk.d with | some s=>!(rdJ j).contains s || ((afts o).contains k && !isAl jk) | none=>true)
      | none=>true
    | _,_=>false) &&
  ((List.range' p.length l.length).all fun i=>match ops[i]? with
    | some o=>(afts o).all (fun k=>decide (k < i)) && (List.range i).all fun k=>(k == kl && (i == p.length || (two l && i == p.length+1))) || dep ops 9 i k
    | none=>false) && decide (kl < p.length) && decide (l≠[]) && (match p[kl]? with | some j=>isMv j | none=>false)
section
variable {P:Program} {N n0:Nat} {rd:Option Nat} {K:Kont}
def OWL (P:Program) (N:Nat) (rd:Option Nat) (jl:J) (live:List Nat) (K:Kont) (env:Env) (σ:Sto):List J→Prop
  | m::b::r=>∀ ops im ik ib is,chkL P N ops (im::ik::ib::is) (m::jl::b::r)=true→∀ n0 X β a w,Stt N n0 X env σ β a w→∀ Q,(∀ e a2 w2,Post N n0 X w β σ (Kl live K) e a2 w2→Q e a2 w2) →
      wpOpIn (fnc rd) 0 P ops Q im (fun a' w'=>wpOpsIn (fnc rd) 0 P ops Q (ik::ib::is) a' w'∧wpOpsIn (fnc rd) 0 P ops Q (ib::ik::is) a' w') a w
  | _=>False
def LATE (P:Program) (N:Nat) (rd:Option Nat) (jl:J) (live:List Nat) (K:Kont) (env:Env) (σ:Sto) (l:List J):Prop :=
  (two l=false→OWP P N rd (swapped l jl) live K env σ)∧(two l=true→OWL P N rd jl live K env σ l)
def CallL (P:Program) (N:Nat) (rd:Option Nat) (f:AV) (args:List AV) (d:Option Nat) (jl b:J) (r:List J) (live:List Nat) (K:Kont) (env:Env) (σ:Sto):Prop :=
  (∃ n first cap res,f=.fn (.func n) first cap∧Peek P n (first++args++cap) σ res∧OWP P N rd (jl::b::r) live K (st d res env) σ∧OWP P N rd (b::jl::r) live K (st d res env) σ) ∨
  (∃ n first cap R,f=.fn (.func n) first cap∧Does P n (first++args++cap) σ R∧∀ res σ',R res σ'→OWP P N rd (jl::b::r) live K (st d res env) σ'∧OWP P N rd (b::jl::r) live K (st d res env) σ')
def lateX (P:Program) (N:Nat) (rd:Option Nat) (jl:J) (live:List Nat) (K:Kont) (env:Env) (σ:Sto):List J→Prop
  | ⟨d,.call f as,none⟩::⟨some e,.bsl o T k n z ps,none⟩::r=>sideL true env (f::as)∧CallL P N rd (strp (ov env f)) (ocalls as env) d jl ⟨some e,.bsl o T k n z ps,none⟩ r live K env σ
  | l=>exs P N rd (swapped l jl) live K env σ
theorem op_two {X:Nat→Prop} {env:Env} {σ:Sto} {β:Blk} {a:Act} {w:World} {ops:Array Oper} {o:Oper} {j:J} {i:Nat} {is1 is2:List Nat} {r1 r2:List J} {live:List Nat} {Q:Exit→Act→World→Prop}
    (hQ:∀ e a2 w2,Post N n0 X w β σ (Kl live K) e a2 w2→Q e a2 w2) (hst:Stt N n0 X env σ β a w) (ho:ops[i]?=some o) (hc:chkJ P N ops o j=true) (hg:j.g=none) (hcl1:chkL P N ops is1 r1=true) (hcl2:chkL P N ops is2 r2=true)
    (hyes:∃ Kn:AV→Sto→Prop,(∀ v σ',Kn v σ'→OWP P N rd r1 live K (st j.d v env) σ'∧OWP P N rd r2 live K (st j.d v env) σ') ∧
      o.wpIn (fnc rd) 0 P a w (fun a' w'=>∃ x v σ' β',a'=a.put j.d x∧Kn v σ'∧SRel w' X β' σ'∧RV w' (Xt X β' σ') β' σ' v x∧Ext w β σ w' β' σ'∧Kp w (Xt X β σ) β σ w' (Xt X β' σ') β' σ') Q) :
    wpOpIn (fnc rd) 0 P ops Q i (fun a' w'=>wpOpsIn (fnc rd) 0 P ops Q is1 a' w'∧wpOpsIn (fnc rd) 0 P ops Q is2 a' w') a w:=by
  obtain ⟨hw,hwr,hcalm⟩:=wanted_eq hst hc (c:=true) (wr:=false) (by rw [hg]; rfl)
  obtain ⟨hd,hlt,_⟩:=Zg hc
  simp only [wpOpIn,ho,hw,if_true]
  obtain ⟨Kn,hK,h⟩:=hyes
  refine Oper.wpIn_mono (fun a' w' ⟨x,v,σ',β',ha,hk,hs,hr,he,kp⟩=>?_) h
  subst ha
  have hst':=(hst.tr hs he kp).put (d:=j.d) (v:=v) hlt hr
  have h1:=(hK v σ' hk).1 ops is1 hcl1 n0 X β' _ w' hst'
  have h2:=(hK v σ' hk).2 ops is2 hcl2 n0 X β' _ w' hst'
  exact ⟨ops_cons.wpOpsIn_mono' (fun e a w h=>hQ _ _ _ (h.trans he kp)) is1 _ _ h1,ops_cons.wpOpsIn_mono' (fun e a w h=>hQ _ _ _ (h.trans he kp)) is2 _ _ h2⟩
theorem late_of_x {jl:J} {live:List Nat} {env:Env} {σ:Sto}:∀ {l:List J},lateX P N rd jl live K env σ l→LATE P N rd jl live K env σ l:=by
  intro l h
  refine ⟨fun ht=>?_,fun ht=>?_⟩
  · refine Zy ?_
    unfold lateX at h
    split at h
    · simp [two] at ht
    · exact h
  · unfold two at ht
    split at ht
    case h_2=>cases ht
    rename_i d f as e o T k n z ps r
    obtain ⟨hside,h⟩:=h
    intro ops im ik ib is hchk n0 X β a w hst Q hQ
    simp only [chkL,Bool.and_eq_true] at hchk
    obtain ⟨hj,hjl,hb,hr⟩:=hchk
    cases ho:ops[im]? with
    | none=>rw [ho] at hj; simp at hj
    | some oo =>
    rw [ho] at hj
    simp only at hj
    obtain ⟨hd,hlt,hci⟩:=Zg hj
    simp only at hd hci
    have c1:chkL P N ops (ik::ib::is) (jl::⟨some e,.bsl o T k n z ps,none⟩::r)=true:=by simp only [chkL,Bool.and_eq_true]; exact ⟨hjl,hb,hr⟩
    have c2:chkL P N ops (ib::ik::is) (⟨some e,.bsl o T k n z ps,none⟩::jl::r)=true:=by simp only [chkL,Bool.and_eq_true]; exact ⟨hb,hjl,hr⟩
    rcases h with ⟨nf,first,cap,res,hf,hp,hr1,hr2⟩ | ⟨nf,first,cap,R,hf,hdo,hrest⟩
    · refine op_two hQ hst ho hj rfl c1 c2 ?_
      obtain ⟨hent,hcall⟩:=hp
      obtain ⟨xs,hxl,hxr,hrun⟩:=call_run hst hci (Zq hside rfl) hf hent
      refine ⟨fun v' s'=>v'=res∧s'=σ,fun v' s' ⟨e1,e2⟩=>?_,?_⟩
      · rw [e1,e2]; exact ⟨hr1,hr2⟩
      · refine ⟨fun f _=>fnc_fn f,?_⟩
        rw [Oper.semAt_eq _ _ _ (no_defer hci),hrun]
        refine ⟨(fun hds=>(by rw [fnc_depth] at hds; cases hds)),?_⟩
        have hcc:=hcall X β w xs hst.bd hst.sr hxl hxr
        refine (callsIn_fnc hcc).mono ?_
        rintro e w' ⟨x,rfl,hr,hsz,hold,hio⟩
        exact ⟨x,res,σ,β,by rw [hd],⟨rfl,rfl⟩,hst.sr.same hsz hold,hr.out,Ext.same hsz hold hio,Kp.same hsz hold hst.sr⟩
    · refine op_two hQ hst ho hj rfl c1 c2 ?_
      obtain ⟨hent,hcall⟩:=hdo
      obtain ⟨xs,hxl,hxr,hrun⟩:=call_run hst hci (Zq hside rfl) hf hent
      refine ⟨R,fun v' s' hR=>hrest v' s' hR,?_⟩
      refine ⟨fun f _=>fnc_fn f,?_⟩
      rw [Oper.semAt_eq _ _ _ (no_defer hci),hrun]
      refine ⟨(fun hds=>(by rw [fnc_depth] at hds; cases hds)),?_⟩
      have hcc:=hcall X β w xs hst.bd hst.sr hxl hxr
      refine (callsIn_fnc hcc).mono ?_
      rintro e w' ⟨x,r',σ',β',rfl,hR,hs',hr,he,hk⟩
      exact ⟨x,r',σ',β',by rw [hd],hR,hs',hr,he,hk⟩
def OWE (P:Program) (N:Nat) (rd:Option Nat) (p l:List J) (jl:J) (dl:Nat) (live:List Nat) (K:Kont) (env:Env) (σ:Sto) (al:List Al):Prop :=
  (∀ j∈p,(j.i.calm || isAl j)=true)→PRE P N rd p env σ al fun E σ'=>OWP P N rd l live K E σ'∧LATE P N rd jl live K ((dl,.any)::E) σ' l
def CallE (P:Program) (N:Nat) (rd:Option Nat) (f:AV) (args:List AV) (c wr:Bool) (d:Option Nat) (p l:List J) (jl:J) (dl:Nat) (live:List Nat) (K:Kont) (env:Env) (σ:Sto) (al:List Al):Prop :=
  ∃ n first cap res,f=.fn (.func n) first cap∧(c=true→Peek P n (first++args++cap) σ res)∧OWE P N rd p l jl dl live K (st d (wrap wr c res) env) σ al
def exe (P:Program) (N:Nat) (rd:Option Nat) (jl:J) (dl:Nat):List J→List J→List Nat→Kont→Env→Sto→List Al→Prop
  | [],l,live,K,env,σ,al=>exs P N rd l live K env (σ++alS al)∧lateX P N rd jl live K ((dl,.any)::env) (σ++alS al) l
  | ⟨d,i,g⟩::r,l,live,K,env,σ,al =>
    match grd env g with
    | none=>False
    | some (c,wr) =>
      match i with
      | .pick x y z =>
        match pickV c env x y z with
        | some (S,b)=>S∧exe P N rd jl dl r l live K (st d (wrap wr c (.v (.bool b))) env) σ al
        | none=>False
      | .alloc T k z=>(match d,g with
        | some d,none=>z.length=k∧exe P N rd jl dl r l live K (st (some d) (.ptr (σ.length+al.length) 0 1 0 0) env) σ (al++[⟨d,T,k,z⟩])
        | _,_=>False)
      | .call f as=>sideL c env (f::as)∧CallE P N rd (strp (ov env f)) (ocalls as env) c wr d r l jl dl live K env σ al
      | .inv ..=>False
      | i =>
        match ex i (fun o=>strp (ov env o)) σ with
        | some (S,v,σ')=>sideL c env i.os∧(c=true→S)∧exe P N rd jl dl r l live K (st d (wrap wr c v) env) σ al
        | none=>c=false∧wr=true∧exe P N rd jl dl r l live K (st d (wrap wr c .any) env) σ al
theorem pre_of_exe {jl:J} {dl:Nat}:∀ {p l:List J} {live:List Nat} {env:Env} {σ:Sto} {al:List Al},exe P N rd jl dl p l live K env σ al→OWE P N rd p l jl dl live K env σ al
  | [],l,live,env,σ,al,h=>fun _=>⟨Zy h.1,late_of_x h.2⟩
  | ⟨d,i,g⟩::r,l,live,env,σ,al,h=>by
    intro hall
    have hallr:∀ j∈r,(j.i.calm || isAl j)=true:=fun j hj=>hall j (by simp [hj])
    have hcal0:=hall ⟨d,i,g⟩ (by simp)
    simp only [exe] at h
    cases hg:grd env g with
    | none=>rw [hg] at h; exact h.elim
    | some p =>
    obtain ⟨c,wr⟩:=p
    rw [hg] at h
    simp only at h
    by_cases hpl:i.plainD=true
    · have hcal:i.calm=true:=by
        rcases Bool.or_eq_true _ _ ▸ hcal0 with h | h
        · exact h
        · cases i <;> cases d <;> cases g <;> simp [isAl,I.plainD] at h hpl
      have h':match ex i (fun o=>strp (ov env o)) σ with
          | some (S,v,σ')=>sideL c env i.os∧(c=true→S)∧exe P N rd jl dl r l live K (st d (wrap wr c v) env) σ al
          | none=>c=false∧wr=true∧exe P N rd jl dl r l live K (st d (wrap wr c .any) env) σ al:=by
        cases i <;> first | exact h | simp [I.plainD,I.plain] at hpl
      cases hex:ex i (fun o=>strp (ov env o)) σ with
      | none =>
        rw [hex] at h'
        obtain ⟨h1,h2,h3⟩:=h'
        refine .inl ⟨wrap wr c .any,hcal,fun hcalm ops ix o ho hj env' henv n0 X β a w hst Q=>?_,pre_of_exe h3 hallr⟩
        exact op_one hst ho hj (by rw [grd_congr henv]; exact hg) fun hc=>by rw [h1] at hc; cases hc
      | some q =>
      obtain ⟨S,v,σ'⟩:=q
      rw [hex] at h'
      obtain ⟨hside,hS,hrest⟩:=h'
      refine .inl ⟨wrap wr c v,hcal,fun hcalm ops ix o ho hj env' henv n0 X β a w hst Q=>?_,pre_of_exe hrest hallr⟩
      have hos:∀ o∈i.os,ov env' o=ov env o:=ov_slots fun s hs=>henv s (by simp [rdJ,hs])
      have hex':ex i (fun o=>strp (ov env' o)) σ=some (S,v,σ):=by
        have:=ex_calm hcalm hex
        subst this
        rw [← hex]; exact ex_congr fun o ho=>by rw [hos o ho]
      obtain ⟨hd,hlt,hci⟩:=Zg hj
      exact op_one hst ho hj (by rw [grd_congr henv]; exact hg) fun hc=>wp_done (N:=N) hci hd (step_plain hst hci (Zq (sideL_congr hos hside) hc) hex' (hS hc))
    · cases i <;> try (simp [I.plainD,I.plain] at hpl; done)
      · rename_i x y z
        simp only at h
        cases hpk:pickV c env x y z with
        | none=>rw [hpk] at h; exact h.elim
        | some q =>
        obtain ⟨S,b⟩:=q
        rw [hpk] at h
        obtain ⟨hS,hrest⟩:=h
        refine .inl ⟨_,rfl,fun hcalm ops ix o ho hj env' henv n0 X β a w hst Q=>?_,pre_of_exe hrest hallr⟩
        have hos:∀ o∈I.os (.pick x y z),ov env' o=ov env o:=ov_slots fun s hs=>henv s (by simp [rdJ,hs])
        simp only [I.os,List.mem_cons,List.not_mem_nil,or_false,forall_eq_or_imp,forall_eq] at hos
        obtain ⟨ex',ey',ez'⟩:=hos
        have hpk':pickV c env' x y z=some (S,b):=by unfold pickV at hpk ⊢; rw [ex',ey',ez']; exact hpk
        obtain ⟨hd,hlt,hci⟩:=Zg hj
        exact op_one hst ho hj (by rw [grd_congr henv]; exact hg) fun hc=>wp_done (N:=N) hci hd (Zx hst.sr (pick_run hst hci hpk' hS hc) (.v _))
      · rename_i T k z
        cases d <;> cases g <;> simp only at h <;> try exact h.elim
        exact .inr ⟨⟨_,T,k,z⟩,rfl,h.1,pre_of_exe h.2 hallr⟩
      · rename_i f as
        simp only at h
        obtain ⟨hside,n,first,cap,res,hf,hp,hrest⟩:=h
        refine .inl ⟨wrap wr c res,rfl,fun hcalm ops ix o ho hj env' henv n0 X β a w hst Q=>?_,hrest hallr⟩
        have hos:∀ o∈I.os (.call f as),ov env' o=ov env o:=ov_slots fun s hs=>henv s (by simp [rdJ,hs])
        have hside':=sideL_congr hos hside
        have hf':strp (ov env' f)=.fn (.func n) first cap:=by rw [hos f (by simp [I.os])]; exact hf
        have hoc:ocalls as env'=ocalls as env:=ocalls_congr fun o ho=>hos o (by simp [I.os,ho])
        obtain ⟨hd,hlt,hci⟩:=Zg hj
        refine op_one hst ho hj (by rw [grd_congr henv]; exact hg) fun hc=>?_
        obtain ⟨hent,hcall⟩:=hp hc
        obtain ⟨xs,hxl,hxr,hrun⟩:=call_run hst hci (Zq hside' hc) hf' hent
        rw [hoc] at hxl hxr
        refine ⟨fun f _=>fnc_fn f,?_⟩
        rw [Oper.semAt_eq _ _ _ (no_defer hci),hrun]
        refine ⟨(fun hds=>(by rw [fnc_depth] at hds; cases hds)),?_⟩
        have hcc:=hcall X β w xs hst.bd hst.sr hxl hxr
        refine (callsIn_fnc hcc).mono ?_
        rintro e w' ⟨x,rfl,hr,hsz,hold,hio⟩
        exact ⟨x,res,σ,β,by rw [hd],⟨rfl,rfl⟩,hst.sr.same hsz hold,hr.out,Ext.same hsz hold hio,Kp.same hsz hold hst.sr⟩
      · exact h.elim
theorem any_behind2 {F:Fence} {ops:Array Oper} {Q:Exit→Act→World→Prop} {m:Nat} (hall:∀ (i:Nat) (o:Oper),ops[i]?=some o→∀ k∈afts o,k < i) (hsuf:∀ i,m≤i→i < ops.size→∃ o,ops[i]?=some o∧∀ k,m≤k→k < i→dep ops 9 i k=true) :
    ∀ (t j:Nat) (listed:Array Bool) (a:Act) (w:World),m≤j→j+t=ops.size→listed.size=ops.size→(∀ k,k < ops.size→(listed.getD k true=true↔k < j)) →
      wpOpsIn F 0 P ops Q (List.range' j t) a w→wpAnyIn F 0 P .any ops Q t listed a w
  | 0,j,listed,a,w,hm,hj,hsz,hl,h=>by
    refine ⟨?_,h⟩
    cases hr:Region.ready .any ops listed with
    | nil=>rfl
    | cons i rs =>
      have hi:i∈Region.ready .any ops listed:=by rw [hr]; simp
      obtain ⟨h0,o,ho,_⟩:=mem_ready.1 hi
      have hlt:=(Array.getElem?_eq_some_iff.1 ho).1
      rw [(hl i hlt).2 (by omega)] at h0
      cases h0
  | t+1,j,listed,a,w,hm,hj,hsz,hl,h=>by
    rw [List.range'_succ,wpOpsIn_cons] at h
    have hdef:∀ k,k < ops.size→listed.getD k false=listed.getD k true:=fun k hk=>by
      simp [Array.getD_eq_getD_getElem?,show k < listed.size by omega]
    have hrj:j∈Region.ready .any ops listed:=by
      obtain ⟨o,ho,h2⟩:=hsuf j hm (by omega)
      have h1:=hall j o ho
      refine mem_ready.2 ⟨?_,o,ho,fun e he hb=>?_⟩
      · cases hv:listed.getD j true with
        | false=>rfl
        | true=>exact absurd ((hl j (by omega)).1 hv) (by omega)
      · have:=h1 _ (mem_afts he hb)
        rw [hdef _ (by omega)]
        exact (hl _ (by omega)).2 this
    refine ⟨fun e=>by rw [e] at hrj; exact absurd hrj (List.not_mem_nil),fun i hi=>?_⟩
    obtain ⟨h0,o,ho,hrd⟩:=mem_ready.1 hi
    have hlt:=(Array.getElem?_eq_some_iff.1 ho).1
    have hge:¬ i < j:=fun hh=>by rw [(hl i hlt).2 hh] at h0; cases h0
    have hij:i=j:=by
      rcases Nat.lt_or_ge j i with hh | hh
      · obtain ⟨o',ho',h2⟩:=hsuf i (by omega) hlt
        rw [ho] at ho'; injection ho' with ho'; subst ho'
        have hlj:=dep_listed (listed:=listed) (fun k ok hok hlk e he=>by
          have hk:=(Array.getElem?_eq_some_iff.1 hok).1
          have:=hall k ok hok e he
          have:=(hl k hk).1 hlk
          exact (hl e (by omega)).2 (by omega)) 9 i j o ho (fun e he=>by
            obtain ⟨ed,hed,hb,rfl⟩:=of_mem_afts he
            have h3:=hrd ed hed hb
            have:=hall i o ho _ he
            rw [hdef _ (by omega)] at h3; exact h3) (h2 j hm hh)
        exact absurd ((hl j (by omega)).1 hlj) (by omega)
      · omega
    subst hij
    refine wpOpIn_mono (fun a' w' hh=>any_behind2 hall hsuf t (i+1) _ a' w' (by omega) (by omega) (by simpa using hsz) (fun k hk=>?_) hh) h
    by_cases hki:i=k
    · subst hki
      simp [Array.getD_eq_getD_getElem?,show i < listed.size by omega]
    · rw [getD_set_ne true hki,hl k hk]; omega
theorem behind_first {F:Fence} {ops:Array Oper} {Q:Exit→Act→World→Prop} {p l:List J} {kl:Nat} {tw:Bool} (hall:∀ (i:Nat) (o:Oper),ops[i]?=some o→∀ k∈afts o,k < i)
    (hsuf:∀ i,p.length≤i→i < ops.size→∃ o,ops[i]?=some o∧(∀ k∈afts o,k < i)∧∀ k,k < i→(k=kl∧(i=p.length∨(tw=true∧i=p.length+1)))∨dep ops 9 i k=true) (hlne:l≠[]) (hkl:kl < p.length) (hsize:ops.size=p.length+l.length) :
    ∀ (t:Nat) (listed:Array Bool) (a:Act) (w:World),t=l.length→listed.size=ops.size→(∀ k,k < ops.size→(listed.getD k true=true↔k < p.length)) →
      wpOpsIn F 0 P ops Q (List.range' p.length t) a w→wpAnyIn F 0 P .any ops Q t listed a w:=by
  intro t listed a w ht hsz hl h
  obtain ⟨t,rfl⟩:∃ t',t=t'+1:=⟨t - 1,by cases l with | nil=>exact absurd rfl hlne | cons _ _=>rw [ht,List.length_cons]; omega⟩
  have hdef:∀ k,k < ops.size→listed.getD k false=listed.getD k true:=fun k hk=>by
    simp [Array.getD_eq_getD_getElem?,show k < listed.size by omega]
  rw [List.range'_succ,wpOpsIn_cons] at h
  have hm:p.length < ops.size:=by omega
  have hrj:p.length∈Region.ready .any ops listed:=by
    obtain ⟨o,ho,h2,_⟩:=hsuf p.length (Nat.le_refl _) hm
    refine mem_ready.2 ⟨?_,o,ho,fun e he hb=>?_⟩
    · cases hv:listed.getD p.length true with
      | false=>rfl
      | true=>exact absurd ((hl _ hm).1 hv) (by omega)
    · have:=h2 _ (mem_afts he hb)
      rw [hdef _ (by omega)]
      exact (hl _ (by omega)).2 this
  refine ⟨fun e=>by rw [e] at hrj; exact absurd hrj (List.not_mem_nil),fun i hi=>?_⟩
  obtain ⟨h0,o,ho,hrd⟩:=mem_ready.1 hi
  have hlt:=(Array.getElem?_eq_some_iff.1 ho).1
  have hge:¬ i < p.length:=fun hh=>by rw [(hl i hlt).2 hh] at h0; cases h0
  have hij:i=p.length:=by
    rcases Nat.lt_or_ge p.length i with hh | hh
    · obtain ⟨o',ho',_,h2⟩:=hsuf i (by omega) hlt
      rw [ho] at ho'; injection ho' with ho'; subst ho'
      have hlj:=dep_listed (listed:=listed) (fun k ok hok hlk e he=>by
        have hk:=(Array.getElem?_eq_some_iff.1 hok).1
        have:=hall k ok hok e he
        have:=(hl k hk).1 hlk
        exact (hl e (by omega)).2 (by omega)) 9 i p.length o ho (fun e he=>by
          obtain ⟨ed,hed,hb,rfl⟩:=of_mem_afts he
          have h3:=hrd ed hed hb
          have:=hall i o ho _ he
          rw [hdef _ (by omega)] at h3; exact h3) ((h2 p.length hh).resolve_left fun hx=>by omega)
      exact absurd ((hl _ hm).1 hlj) (by omega)
    · omega
  subst hij
  refine wpOpIn_mono (fun a' w' hh=>any_behind2 (m:=p.length+1) hall (fun i h1 h2=>?_) t (p.length+1) _ a' w' (Nat.le_refl _) (by omega) (by simpa using hsz) (fun k hk=>?_) hh) h
  · obtain ⟨o,h3,_,h4⟩:=hsuf i (by omega) h2
    exact ⟨o,h3,fun k hmk hk=>(h4 k hk).resolve_left fun hx=>by omega⟩
  · by_cases hki:p.length=k
    · subst hki
      simp [Array.getD_eq_getD_getElem?,show p.length < listed.size by omega]
    · rw [getD_set_ne true hki,hl k hk]; omega
theorem late_at {F:Fence} {ops:Array Oper} {Q:Exit→Act→World→Prop} {m t kl:Nat} (hall:∀ (i:Nat) (o:Oper),ops[i]?=some o→∀ k∈afts o,k < i)
    (hsuf:∀ i,m≤i→i < ops.size→∃ o,ops[i]?=some o∧∀ k,k < i→dep ops 9 i k=true) (hkl:kl < m) (hsize:ops.size=m+t) :
    ∀ (listed:Array Bool) (a:Act) (w:World),listed.size=ops.size→(∀ k,k < ops.size→(listed.getD k true=true↔k < m∧k≠kl)) →
      (∀ (k:Nat) (o:Oper),ops[k]?=some o→listed.getD k true=true→∀ e∈afts o,listed.getD e true=true) →
      wpOpIn F 0 P ops Q kl (fun a w=>wpOpsIn F 0 P ops Q (List.range' m t) a w) a w→wpAnyIn F 0 P .any ops Q (t+1) listed a w:=by
  intro listed a w hsz hl hdc h
  have hdef:∀ k,k < ops.size→listed.getD k false=listed.getD k true:=fun k hk=>by
    simp [Array.getD_eq_getD_getElem?,show k < listed.size by omega]
  have hklo:kl < ops.size:=by omega
  have hrj:kl∈Region.ready .any ops listed:=by
    refine mem_ready.2 ⟨?_,ops[kl],Array.getElem?_eq_getElem hklo,fun e he hb=>?_⟩
    · cases hv:listed.getD kl true with
      | false=>rfl
      | true=>exact absurd ((hl _ hklo).1 hv).2 (by simp)
    · have:=hall kl _ (Array.getElem?_eq_getElem hklo) _ (mem_afts he hb)
      rw [hdef _ (by omega)]
      exact (hl _ (by omega)).2 ⟨by omega,by omega⟩
  refine ⟨fun e=>by rw [e] at hrj; exact absurd hrj (List.not_mem_nil),fun i hi=>?_⟩
  obtain ⟨h0,o,ho,hrd⟩:=mem_ready.1 hi
  have hlt:=(Array.getElem?_eq_some_iff.1 ho).1
  have hij:i=kl:=by
    by_cases hik:i=kl
    · exact hik
    exfalso
    have hgt:m≤i:=by
      rcases Nat.lt_or_ge i m with hh | hh
      · rw [(hl i hlt).2 ⟨hh,hik⟩] at h0; cases h0
      · exact hh
    obtain ⟨o',ho',h2⟩:=hsuf i hgt hlt
    rw [ho] at ho'; injection ho' with ho'; subst ho'
    have hnl:¬ listed.getD kl true=true:=fun hv=>((hl _ hklo).1 hv).2 rfl
    exact hnl (dep_listed hdc 9 i kl o ho (fun e he=>by
      obtain ⟨ed,hed,hb,rfl⟩:=of_mem_afts he
      have h3:=hrd ed hed hb
      have:=hall i o ho _ he
      rw [hdef _ (by omega)] at h3; exact h3) (h2 kl (by omega)))
  subst hij
  refine wpOpIn_mono (fun a' w' hh=>any_behind2 (m:=m) hall (fun i h1 h2=>?_) t m _ a' w' (Nat.le_refl _) (by omega) (by simpa using hsz) (fun k hk=>?_) hh) h
  · obtain ⟨o,h3,h4⟩:=hsuf i h1 h2
    exact ⟨o,h3,fun k _ hk=>h4 k hk⟩
  · by_cases hki:i=k
    · subst hki
      simp [Array.getD_eq_getD_getElem?,show i < listed.size by omega]; omega
    · rw [getD_set_ne true hki,hl k hk]; omega
theorem late_two {F:Fence} {ops:Array Oper} {Q:Exit→Act→World→Prop} {m t kl:Nat} (hall:∀ (i:Nat) (o:Oper),ops[i]?=some o→∀ k∈afts o,k < i)
    (hsuf:∀ i,m≤i→i < ops.size→∃ o,ops[i]?=some o∧∀ k,k < i→(k=kl∧i=m)∨dep ops 9 i k=true) (hkl:kl < m) (hsize:ops.size=m+(t+1)) :
    ∀ (listed:Array Bool) (a:Act) (w:World),listed.size=ops.size→(∀ k,k < ops.size→(listed.getD k true=true↔k < m∧k≠kl)) →
      (∀ (k:Nat) (o:Oper),ops[k]?=some o→listed.getD k true=true→∀ e∈afts o,listed.getD e true=true) →
      wpOpsIn F 0 P ops Q (kl::m::List.range' (m+1) t) a w→wpOpsIn F 0 P ops Q (m::kl::List.range' (m+1) t) a w→wpAnyIn F 0 P .any ops Q (t+1+1) listed a w:=by
  intro listed a w hsz hl hdc h h'
  have hdef:∀ k,k < ops.size→listed.getD k false=listed.getD k true:=fun k hk=>by
    simp [Array.getD_eq_getD_getElem?,show k < listed.size by omega]
  have hklo:kl < ops.size:=by omega
  have hrj:kl∈Region.ready .any ops listed:=by
    refine mem_ready.2 ⟨?_,ops[kl],Array.getElem?_eq_getElem hklo,fun e he hb=>?_⟩
    · cases hv:listed.getD kl true with
      | false=>rfl
      | true=>exact absurd ((hl _ hklo).1 hv).2 (by simp)
    · have:=hall kl _ (Array.getElem?_eq_getElem hklo) _ (mem_afts he hb)
      rw [hdef _ (by omega)]
      exact (hl _ (by omega)).2 ⟨by omega,by omega⟩
  refine ⟨fun e=>by rw [e] at hrj; exact absurd hrj (List.not_mem_nil),fun i hi=>?_⟩
  obtain ⟨h0,o,ho,hrd⟩:=mem_ready.1 hi
  have hlt:=(Array.getElem?_eq_some_iff.1 ho).1
  have hafl:∀ e∈afts o,listed.getD e true=true:=fun e he=>by
    obtain ⟨ed,hed,hb,rfl⟩:=of_mem_afts he
    have h3:=hrd ed hed hb
    have:=hall i o ho _ he
    rw [hdef _ (by omega)] at h3; exact h3
  have hdepl:∀ k,k < i→dep ops 9 i k=true→listed.getD k true=true:=fun k hk hd=>dep_listed hdc 9 i k o ho hafl hd
  have hij:i=kl∨i=m:=by
    rcases Nat.lt_or_ge i m with hh | hh
    · refine .inl (Decidable.byContradiction fun hik=>?_)
      rw [(hl i hlt).2 ⟨hh,hik⟩] at h0; cases h0
    · refine .inr (Decidable.byContradiction fun him=>?_)
      obtain ⟨o',ho',h2⟩:=hsuf i hh hlt
      rw [ho] at ho'; injection ho' with ho'; subst ho'
      have:=hdepl m (by omega) ((h2 m (by omega)).resolve_left fun hx=>by omega)
      exact absurd ((hl m (by omega)).1 this).1 (by omega)
  rw [wpOpsIn_cons] at h h'
  rcases hij with rfl | rfl
  · refine wpOpIn_mono (fun a' w' hh=>any_behind2 (m:=m) hall (fun i h1 h2=>?_) (t+1) m _ a' w' (Nat.le_refl _) (by omega) (by simpa using hsz) (fun k hk=>?_) (by rw [List.range'_succ]; exact hh)) h
    · obtain ⟨o,h3,h4⟩:=hsuf i h1 h2
      exact ⟨o,h3,fun k hmk hk=>(h4 k hk).resolve_left fun hx=>by omega⟩
    · by_cases hki:i=k
      · subst hki
        simp [Array.getD_eq_getD_getElem?,show i < listed.size by omega]; omega
      · rw [getD_set_ne true hki,hl k hk]; omega
  · refine wpOpIn_mono (fun a' w' hh=>?_) h'
    rw [wpOpsIn_cons] at hh
    have hmono:∀ k,listed.getD k true=true→(listed.setIfInBounds i true).getD k true=true:=by
      intro k hk
      by_cases hik:i=k
      · subst hik; simp [Array.getD_eq_getD_getElem?,show i < listed.size by omega]
      · rw [getD_set_ne true hik]; exact hk
    refine late_at (m:=i+1) (t:=t) hall (fun j h1 h2=>?_) (by omega) (by omega) _ a' w' (by simpa using hsz) (fun k hk=>?_) (fun k ok hok hlk e he=>?_) hh
    · obtain ⟨o,h3,h4⟩:=hsuf j (by omega) h2
      exact ⟨o,h3,fun k hk=>(h4 k hk).resolve_left fun hx=>by omega⟩
    · by_cases hki:i=k
      · subst hki
        simp [Array.getD_eq_getD_getElem?,show i < listed.size by omega]; omega
      · rw [getD_set_ne true hki,hl k hk]; omega
    · by_cases hki:i=k
      · subst hki
        rw [ho] at hok; injection hok with hok; subst hok
        exact hmono _ (hafl e he)
      · rw [getD_set_ne true hki] at hlk
        exact hmono _ (hdc k ok hok hlk e he)
theorem any_of_pree {kl dl:Nat} {jl:J} {X:Nat→Prop} {env:Env} {σ:Sto} {β:Blk} {a:Act} {w:World} {ops:Array Oper} {p l:List J} {live:List Nat} (hck:chkE P N ops kl p l=true) (hjl:p[kl]?=some jl) (hdl:jl.d=some dl) (h:OWE P N rd p l jl dl live K env σ [])
    (hst:Stt N n0 X env σ β a w):wpAnyIn (fnc rd) 0 P .any ops (Post N n0 X w β σ (Kl live K)) ops.size (Array.replicate ops.size false) a w:=by
  simp only [chkE,Bool.and_eq_true,beq_iff_eq,decide_eq_true_eq] at hck
  obtain ⟨⟨⟨⟨⟨⟨⟨⟨⟨hsize,hcp⟩,hcl⟩,hcalm⟩,hnd⟩,hpre⟩,hsuf⟩,hkl⟩,hlne⟩,hmv⟩:=hck
  rw [List.all_eq_true] at hcalm hpre hsuf
  have h:=h fun j hj=>by have:=hcalm j hj; simp only [Bool.and_eq_true] at this; exact this.1
  have hpre':∀ (i:Nat) (j:J),p[i]?=some j→∃ o,ops[i]?=some o∧chkJ P N ops o j=true∧(∀ k∈afts o,k < i)∧∀ (k:Nat) (jk:J) s,p[k]?=some jk→jk.d=some s→s∈rdJ j→k∈afts o∧isAl jk=false:=by
    intro i j hj
    have hi:i < p.length:=(List.getElem?_eq_some_iff.1 hj).1
    obtain ⟨i',o,hi',ho,hcj⟩:=chkL_get hcp i j hj
    rw [List.getElem?_range hi] at hi'; injection hi' with hi'; subst hi'
    have h1:=hpre i (List.mem_range.2 hi)
    rw [ho,hj] at h1
    simp only [Bool.and_eq_true,List.all_eq_true,decide_eq_true_eq] at h1
    refine ⟨o,ho,hcj,h1.1,fun k jk s hk hs hm=>?_⟩
    have h2:=h1.2 k (List.mem_range.2 (List.getElem?_eq_some_iff.1 hk).1)
    rw [hk] at h2
    simp only [hs,Bool.or_eq_true,Bool.and_eq_true,Bool.not_eq_true',List.contains_eq_mem,decide_eq_true_eq,decide_eq_false_iff_not] at h2
    exact h2.resolve_left fun hn=>hn hm
  have hsuf':∀ i,p.length≤i→i < ops.size→∃ o,ops[i]?=some o∧(∀ k∈afts o,k < i)∧∀ k,k < i→(k=kl∧(i=p.length∨(two l=true∧i=p.length+1)))∨dep ops 9 i k=true:=by
    intro i h1 h2
    have h3:=hsuf i (by rw [List.mem_range'_1]; omega)
    cases ho:ops[i]? with
    | none=>rw [ho] at h3; simp at h3
    | some o =>
      rw [ho] at h3
      simp only [Bool.and_eq_true,List.all_eq_true,decide_eq_true_eq,Bool.or_eq_true,beq_iff_eq] at h3
      exact ⟨o,rfl,h3.1,fun k hk=>h3.2 k (List.mem_range.2 hk)⟩
  have hdown:∀ (i:Nat) (o:Oper),ops[i]?=some o→∀ k∈afts o,k < i:=by
    intro i o ho
    have hlt:=(Array.getElem?_eq_some_iff.1 ho).1
    rcases Nat.lt_or_ge i p.length with h1 | h1
    · obtain ⟨o',ho',_,h2,_⟩:=hpre' i _ (List.getElem?_eq_getElem h1)
      rw [ho] at ho'; injection ho' with ho'; subst ho'; exact h2
    · obtain ⟨o',ho',h2,_⟩:=hsuf' i h1 hlt
      rw [ho] at ho'; injection ho' with ho'; subst ho'; exact h2
  have hdn:=nodupB_spec hnd
  have huniq:∀ (i k:Nat) (ji jk:J) s,p[i]?=some ji→p[k]?=some jk→ji.d=some s→jk.d=some s→i=k:=by
    intro i k ji jk s hi hk h1 h2
    obtain ⟨hi',rfl⟩:=List.getElem?_eq_some_iff.1 hi
    obtain ⟨hk',rfl⟩:=List.getElem?_eq_some_iff.1 hk
    have hp:=List.pairwise_iff_getElem.1 hdn
    rcases Nat.lt_trichotomy i k with hh | hh | hh
    · exact absurd (by rw [List.getElem_map,List.getElem_map,h1,h2]) (hp i k (by simpa using hi') (by simpa using hk') hh)
    · exact hh
    · exact absurd (by rw [List.getElem_map,List.getElem_map,h1,h2]) (hp k i (by simpa using hk') (by simpa using hi') hh)
  obtain ⟨E,hz,hE,hjE,hal⟩:=pre_all p env [] hdn (fun j hj=>by have:=hcalm j hj; simp only [Bool.and_eq_true] at this; exact this.2)
    (fun i k j jk hi hk hik s hs hm=>by
      obtain ⟨o,ho,_,h1,h2⟩:=hpre' i j hi
      have:=h1 k (h2 k jk s hk hs hm).1
      omega) h
  generalize hals:p.filterMap toAl=als at hz hal
  rw [List.nil_append] at hz
  have hmemal:∀ q,q∈als↔∃ (k:Nat) (j:J),p[k]?=some j∧toAl j=some q:=by
    intro q
    rw [← hals,List.mem_filterMap]
    constructor
    · rintro ⟨j,hj,hq⟩
      obtain ⟨k,hk⟩:=List.getElem?_of_mem hj
      exact ⟨k,j,hk,hq⟩
    · rintro ⟨k,j,hk,hq⟩
      exact ⟨j,List.mem_of_getElem? hk,hq⟩
  let Hd:Array Bool→Nat→Prop:=fun listed s=>hid p listed s∨∃ q∈als,q.d=s
  have hget_mono:∀ (listed:Array Bool) (i k:Nat),listed.getD k true=true→(listed.setIfInBounds i true).getD k true=true:=by
    intro listed i k hk
    by_cases hik:i=k
    · subst hik
      by_cases hlt:i < listed.size
      · simp [Array.getD_eq_getD_getElem?,hlt]
      · simp [Array.getD_eq_getD_getElem?,hlt]
    · rw [getD_set_ne true hik]; exact hk
  have adoptAll:∀ (listed:Array Bool) (a':Act) (w':World) (β':Blk) (rs:List (Nat × Nat)),(∀ (k:Nat) (j:J) (q:Al),p[k]?=some j→toAl j=some q→listed.getD k true=true) →
      Stt N n0 (fun b=>X b∨b∈rs.map (·.2)) (resE rs (hide (Hd listed) E)) σ β' a' w'→Ext w β σ w' β' σ→Kp w (Xt X β σ) β σ w' (Xt (fun b=>X b∨b∈rs.map (·.2)) β' σ) β' σ →
      (∀ d b,(d,b)∈rs→w.heap.size≤b∧∃ (k:Nat) (j:J) (q:Al),p[k]?=some j∧toAl j=some q∧q.d=d∧listed.getD k true=true∧(∀ x∈q.z,scalar x=true)∧w'.heap[b]?=some (.cells q.z.toArray q.T (0,0))) →
      (rs.map (·.2)).Nodup→(∀ (k:Nat) (j:J) (q:Al),p[k]?=some j→toAl j=some q→listed.getD k true=true→q.d∈rs.map (·.1)) →
      ∃ β2,Stt N n0 X (hide (hid p listed) E) (σ++alS als) β2 a' w'∧Ext w β σ w' β2 (σ++alS als)∧Kp w (Xt X β σ) β σ w' (Xt X β2 (σ++alS als)) β2 (σ++alS als):=by
    intro listed a' w' β' rs hals2 hst' he kp hr1 hr2 hr3
    let bs:List Nat:=als.map fun q=>((rs.find? fun p=>p.1 == q.d).map (·.2)).getD 0
    have hbs:∀ (n:Nat) (q:Al) (b:Nat),als[n]?=some q→bs[n]?=some b→(q.d,b)∈rs:=by
      intro n q b hq hb
      simp only [bs,List.getElem?_map,hq,Option.map_some,Option.some.injEq] at hb
      obtain ⟨k,j,hk,hjq⟩:=(hmemal q).1 (List.mem_of_getElem? hq)
      have:=hr3 k j q hk hjq (hals2 k _ _ hk hjq)
      obtain ⟨pr,hpr,hpr1⟩:=List.mem_map.1 this
      cases hf:rs.find? fun p=>p.1 == q.d with
      | none =>
        rw [List.find?_eq_none] at hf
        exact absurd hpr1 (by simpa using hf pr hpr)
      | some p2 =>
        rw [hf] at hb
        have h1:=List.mem_of_find?_eq_some hf
        have h2:=List.find?_some hf
        simp only [Option.map_some,Option.getD_some] at hb
        obtain ⟨c,d⟩:=p2
        simp only [beq_iff_eq] at h2 hb
        subst h2; subst hb; exact h1
    have hlen:bs.length=als.length:=by simp [bs]
    have hget:∀ n,n < bs.length→∃ q,als[n]?=some q:=fun n hn=>⟨_,List.getElem?_eq_getElem (by omega)⟩
    have hbmem:∀ b∈bs,∃ d,(d,b)∈rs:=by
      intro b hb
      obtain ⟨n,hn⟩:=List.getElem?_of_mem hb
      obtain ⟨q,hq⟩:=hget n (List.getElem?_eq_some_iff.1 hn).1
      exact ⟨_,hbs n q b hq hn⟩
    have hp2:=List.pairwise_iff_getElem.1 hr2
    have hbnd:bs.Nodup:=by
      refine List.pairwise_iff_getElem.2 fun n n' hn hn' hlt=>?_
      intro e
      obtain ⟨q,hq⟩:=hget n hn
      obtain ⟨q',hq'⟩:=hget n' hn'
      have m1:=hbs n q _ hq (List.getElem?_eq_getElem hn)
      have m2:=hbs n' q' _ hq' (List.getElem?_eq_getElem hn')
      rw [← e] at m2
      have hdd:q.d=q'.d:=by
        obtain ⟨i1,hi1⟩:=List.getElem?_of_mem m1
        obtain ⟨i2,hi2⟩:=List.getElem?_of_mem m2
        obtain ⟨l1,e1⟩:=List.getElem?_eq_some_iff.1 hi1
        obtain ⟨l2,e2⟩:=List.getElem?_eq_some_iff.1 hi2
        rcases Nat.lt_trichotomy i1 i2 with hh | hh | hh
        · exact absurd (by rw [List.getElem_map,List.getElem_map,e1,e2]) (hp2 i1 i2 (by simpa using l1) (by simpa using l2) hh)
        · subst hh; rw [e1] at e2; injection e2
        · exact absurd (by rw [List.getElem_map,List.getElem_map,e1,e2]) (hp2 i2 i1 (by simpa using l2) (by simpa using l1) hh)
      have hs:=(als_sub p).nodup hdn
      rw [hals] at hs
      have hs2:=List.pairwise_iff_getElem.1 hs
      have a1:als[n]'(by omega)=q:=by obtain ⟨_,e⟩:=List.getElem?_eq_some_iff.1 hq; exact e
      have a2:als[n']'(by omega)=q':=by obtain ⟨_,e⟩:=List.getElem?_eq_some_iff.1 hq'; exact e
      exact hs2 n n' (by simp; omega) (by simp; omega) hlt (by rw [List.getElem_map,List.getElem_map,a1,a2,hdd])
    obtain ⟨hs2,K2⟩:=adopt (X:=X) (al:=als) (bs:=bs) hst'.sr (fun b hb=>.inl hb) (fun b hb=>by obtain ⟨d,hd⟩:=hbmem b hb; exact .inr (List.mem_map.2 ⟨_,hd,rfl⟩))
      (fun b hb hx=>by obtain ⟨d,hd⟩:=hbmem b hb; have:=(hr1 d b hd).1; have:=hst.bd b hx; omega) hlen hbnd (fun n q b hq hb=>by
        obtain ⟨_,k,j,q',hk,hjq,hd,_,hsc,hc⟩:=hr1 _ b (hbs n q b hq hb)
        obtain ⟨k2,j2,hk2,hjq2⟩:=(hmemal q).1 (List.mem_of_getElem? hq)
        have h1:j.d=some q'.d:=by rw [Zj hjq]
        have h2:j2.d=some q.d:=by rw [Zj hjq2]
        have:=huniq k k2 j j2 _ hk hk2 h1 (by rw [h2,hd])
        subst this
        rw [hk] at hk2; injection hk2 with hk2; subst hk2
        rw [hjq] at hjq2; injection hjq2 with hjq2; subst hjq2
        exact ⟨(hal n q' hq).1,hsc,hc⟩)
    have hst2:Stt N n0 X (hide (hid p listed) E) (σ++alS als) (alB β' σ.length bs) a' w':=by
      refine ⟨hst'.sz,?_,fun b hb=>hst'.bd b (.inl hb),hst'.nb,hs2,fun s=>?_⟩
      · obtain ⟨ms,hmn,hmd,hm⟩:=hst'.df
        exact ⟨ms,hmn,hmd,fun r hr=>let ⟨h1,h2,h3⟩:=hm r hr; ⟨h1,fun hx=>h2 (K2.frb r (Zh h1) hx),h3⟩⟩
      · have hv:=hst'.ev s
        by_cases hs:∃ q∈als,q.d=s
        · obtain ⟨q,hq,rfl⟩:=hs
          obtain ⟨n,hn⟩:=List.getElem?_of_mem hq
          obtain ⟨_,hg⟩:=hal n q hn
          obtain ⟨k,j,hk,hjq⟩:=(hmemal q).1 hq
          obtain ⟨_,b,hb,hgb⟩:=gt_res_mem (E:=hide (Hd listed) E) (E':=[]) (hr3 k j q hk hjq (hals2 k _ _ hk hjq))
          rw [hgb] at hv
          have hv:=hv.inv_v
          rw [(Zu E).2 (show ¬ hid p listed q.d from fun ⟨k2,j2,hk2,hd2,hun⟩=>by
            have:=huniq k2 k j2 j q.d hk2 hk hd2 (by rw [Zj hjq])
            subst this
            rw [hals2 k2 j q hk hjq] at hun; cases hun),hg,hv]
          have hnl:n < bs.length:=by rw [hlen]; exact (List.getElem?_eq_some_iff.1 hn).1
          have hat:Sto.at (σ++alS als) (σ.length+n) 0=some q.ob:=by
            unfold Sto.at
            rw [List.getElem?_append_right (by omega),alS,List.getElem?_map,show σ.length+n - σ.length=n by omega,hn]
            rfl
          simp only [List.length_nil,Nat.zero_add]
          have hbb:bs[n]?=some b:=by
            have m1:=hbs n q _ hn (List.getElem?_eq_getElem hnl)
            have:bs[n]=b:=by
              obtain ⟨_,k1,j1,q1,hk1,hjq1,hd1,_,_,_⟩:=hr1 _ _ m1
              simp only [bs,List.getElem_map]
              have ha:als[n]'(by omega)=q:=by obtain ⟨_,e⟩:=List.getElem?_eq_some_iff.1 hn; exact e
              rw [ha]
              have hf:(rs.find? fun p=>p.1 == q.d)=some (q.d,b):=find_res hb hgb
              rw [hf]; rfl
            rw [List.getElem?_eq_getElem hnl,this]
          refine .ptr _ _ _ _ _ _ rfl (by rw [List.length_append,alS,List.length_map]; have:=(List.getElem?_eq_some_iff.1 hn).1; omega) (fun o ho=>?_) fun o ho _=>?_
          · rw [hat] at ho; injection ho with ho; subst ho; simp [Al.ob]
          · rw [hat] at ho; injection ho with ho; subst ho
            exact ⟨b,by rw [alB_new]; exact hbb,by simp⟩
        · have hnr:s ∉ rs.map (·.1):=fun hm=>by
            obtain ⟨pr,hpr,rfl⟩:=List.mem_map.1 hm
            obtain ⟨_,k,j,q,hk,hjq,hd,_⟩:=hr1 pr.1 pr.2 hpr
            exact hs ⟨q,(hmemal q).2 ⟨k,j,hk,hjq⟩,hd⟩
          by_cases hh:hid p listed s
          · rw [(Zu E).1 hh]; exact .any _
          · rw [Zk hnr,(Zu E).2 (fun h2=>h2.elim hh hs)] at hv
            rw [(Zu E).2 hh]
            exact hv.tr K2
    have hE2:Ext w β σ w' (alB β' σ.length bs) (σ++alS als):=⟨he.size,he.old,fun b hb=>(owned_als hb).elim (he.new b) fun hb=>by
      obtain ⟨d,hd⟩:=hbmem b hb; exact .inr (hr1 d b hd).1,he.io⟩
    exact ⟨_,hst2,hE2,kp.trans K2⟩
  have key:∀ (u:Nat) (listed:Array Bool) (a':Act) (w':World) (β':Blk) (rs:List (Nat × Nat)),cntU p listed=u→listed.size=ops.size→(∀ k,p.length≤k→k < ops.size→listed.getD k true=false)→(∀ (k:Nat) (o:Oper),ops[k]?=some o→listed.getD k true=true→∀ e∈afts o,listed.getD e true=true) →
      Stt N n0 (fun b=>X b∨b∈rs.map (·.2)) (resE rs (hide (Hd listed) E)) σ β' a' w'→Ext w β σ w' β' σ→Kp w (Xt X β σ) β σ w' (Xt (fun b=>X b∨b∈rs.map (·.2)) β' σ) β' σ →
      (∀ d b,(d,b)∈rs→w.heap.size≤b∧∃ (k:Nat) (j:J) (q:Al),p[k]?=some j∧toAl j=some q∧q.d=d∧listed.getD k true=true∧(∀ x∈q.z,scalar x=true)∧w'.heap[b]?=some (.cells q.z.toArray q.T (0,0))) →
      (rs.map (·.2)).Nodup→(∀ (k:Nat) (j:J) (q:Al),p[k]?=some j→toAl j=some q→listed.getD k true=true→q.d∈rs.map (·.1)) →
      wpAnyIn (fnc rd) 0 P .any ops (Post N n0 X w β σ (Kl live K)) (u+l.length) listed a' w':=by
    intro u
    induction u with
    | zero =>
      intro listed a' w' β' rs hu hsz hno hdc hst' he kp hr1 hr2 hr3
      have hall:∀ k,k < p.length→listed.getD k true=true:=by
        intro k hk
        have:=List.countP_eq_zero.1 hu k (List.mem_range.2 hk)
        simpa using this
      have hnh:∀ s,¬ hid p listed s:=by
        rintro s ⟨k,j,hk,_,hh⟩
        rw [hall k (List.getElem?_eq_some_iff.1 hk).1] at hh; cases hh
      rw [Nat.zero_add]
      refine behind_first hdown hsuf' hlne hkl hsize l.length listed a' w' rfl hsz (fun k hk=>?_) ?_
      · constructor
        · intro hh
          rcases Nat.lt_or_ge k p.length with h1 | h1
          · exact h1
          · rw [hno k h1 hk] at hh; cases hh
        · exact hall k
      · obtain ⟨β2,hst2,hE2,hK2⟩:=adoptAll listed a' w' β' rs (fun k j q hk _=>hall k (List.getElem?_eq_some_iff.1 hk).1) hst' he kp hr1 hr2 hr3
        have hst3:Stt N n0 X E (σ++alS als) β2 a' w':=hst2.weak fun s=>.inr ((Zu E).2 (hnh s)).symm
        have:=hz.1 ops _ hcl n0 X _ a' w' hst3
        exact ops_cons.wpOpsIn_mono' (fun e a w h=>h.trans hE2 hK2) _ _ _ this
    | succ u ih =>
      intro listed a' w' β' rs hu hsz hno hdc hst' he kp hr1 hr2 hr3
      have hdef:∀ k,k < ops.size→listed.getD k false=listed.getD k true:=fun k hk=>by
        simp [Array.getD_eq_getD_getElem?,show k < listed.size by omega]
      have hex:∃ k,k < p.length∧listed.getD k true=false∧∀ k',k' < k→listed.getD k' true=true:=by
        have h0:∃ k,k < p.length∧listed.getD k true=false:=by
          have hpos:0 < cntU p listed:=by omega
          obtain ⟨k,hk,hv⟩:=List.countP_pos_iff.1 hpos
          exact ⟨k,List.mem_range.1 hk,by simpa using hv⟩
        obtain ⟨k,hk⟩:=h0
        induction k using Nat.strongRecOn with
        | _ k ihk =>
          by_cases hh:∃ k',k' < k∧listed.getD k' true=false
          · obtain ⟨k',h1,h2⟩:=hh
            exact ihk k' h1 ⟨by omega,h2⟩
          · refine ⟨k,hk.1,hk.2,fun k' h1=>?_⟩
            cases hv:listed.getD k' true with
            | true=>rfl
            | false=>exact absurd ⟨k',h1,hv⟩ hh
      obtain ⟨k0,hk0,hk1,hk2⟩:=hex
      have hr0:k0∈Region.ready .any ops listed:=by
        obtain ⟨j,hj⟩:∃ j,p[k0]?=some j:=⟨_,List.getElem?_eq_getElem hk0⟩
        obtain ⟨o,ho,_,h1,_⟩:=hpre' k0 j hj
        refine mem_ready.2 ⟨hk1,o,ho,fun e he hb=>?_⟩
        have:=h1 _ (mem_afts he hb)
        rw [hdef _ (by omega)]
        exact hk2 _ this
      rw [show u+1+l.length=(u+l.length)+1 by omega]
      refine ⟨fun e=>by rw [e] at hr0; exact absurd hr0 (List.not_mem_nil),fun i hi=>?_⟩
      obtain ⟨h0,o,ho,hall⟩:=mem_ready.1 hi
      have hlt:=(Array.getElem?_eq_some_iff.1 ho).1
      have hafl:∀ e∈afts o,listed.getD e true=true:=fun e he=>by
        obtain ⟨ed,hed,hb,rfl⟩:=of_mem_afts he
        have h3:=hall ed hed hb
        have:=hdown i o ho _ he
        rw [hdef _ (by omega)] at h3; exact h3
      by_cases hip:¬ i < p.length
      ·
        obtain ⟨o',ho',_,h2⟩:=hsuf' i (by omega) hlt
        rw [ho] at ho'; injection ho' with ho'; subst ho'
        have hdl2:∀ k,k < i→k≠kl→listed.getD k true=true:=fun k hk hne=>dep_listed hdc 9 i k o ho (fun e he=>hafl e he) ((h2 k hk).resolve_left fun hx=>hne hx.1)
        have hil:i=p.length∧k0=kl:=by
          rcases h2 k0 (by omega) with h3 | h3
          · refine ⟨?_,h3.1⟩
            rcases h3.2 with h4 | ⟨_,h4⟩
            · exact h4
            · have:=hdl2 p.length (by omega) (by omega)
              rw [hno p.length (Nat.le_refl _) (by omega)] at this; cases this
          · have:=dep_listed hdc 9 i k0 o ho (fun e he=>hafl e he) h3
            rw [hk1] at this; cases this
        obtain ⟨rfl,rfl⟩:=hil
        have hothers:∀ k,k < p.length→k≠k0→listed.getD k true=true:=fun k hk hne=>hdl2 k hk hne
        have hu0:u=0:=by
          have h4:=cntU_set (p:=p) (i:=k0) hk0 (by omega) hk1
          have h5:cntU p (listed.setIfInBounds k0 true)=0:=List.countP_eq_zero.2 fun k hk=>by
            have hk:=List.mem_range.1 hk
            by_cases hkk:k0=k
            · subst hkk; simp [Array.getD_eq_getD_getElem?,show k0 < listed.size by omega]
            · rw [getD_set_ne true hkk,hothers k hk fun e=>hkk e.symm]; simp
          omega
        subst hu0
        have hmvj:isMv jl=true:=by rw [hjl] at hmv; exact hmv
        have hnal:toAl jl=none:=by
          obtain ⟨d,i,g⟩:=jl
          cases d <;> cases g <;> simp only [isMv] at hmvj <;> first | exact calm_toAl hmvj | cases hmvj
        obtain ⟨β2,hst2,hE2,hK2⟩:=adoptAll listed a' w' β' rs (fun k j q hk hq=>by
          by_cases hkk:k=k0
          · subst hkk; rw [hjl] at hk; injection hk with hk; subst hk; rw [hnal] at hq; cases hq
          · exact hothers k (List.getElem?_eq_some_iff.1 hk).1 hkk) hst' he kp hr1 hr2 hr3
        have hst3:Stt N n0 X ((dl,.any)::E) (σ++alS als) β2 a' w':=hst2.weak fun s=>by
          by_cases hs:dl=s
          · subst hs; exact .inl (by simp [gt])
          · refine .inr ?_
            simp only [gt]
            rw [show (dl == s)=false by simpa using hs,(Zu E).2]
            · rfl
            · rintro ⟨k,j,hk,hd,hun⟩
              by_cases hkk:k=k0
              · subst hkk; rw [hjl] at hk; injection hk with hk; subst hk; rw [hdl] at hd; injection hd with hd; exact hs hd
              · rw [hothers k (List.getElem?_eq_some_iff.1 hk).1 hkk] at hun; cases hun
        obtain ⟨jm,tl,rfl⟩:∃ jm tl,l=jm::tl:=by
          cases l with
          | nil=>exact absurd rfl hlne
          | cons a b=>exact ⟨a,b,rfl⟩
        obtain ⟨il,ol,hil',hol,hcjl⟩:=chkL_get hcp k0 jl hjl
        rw [List.getElem?_range hk0] at hil'; injection hil' with hil'; subst hil'
        have hszl:p.length < listed.size:=by omega
        have hl2:∀ k,k < ops.size→((listed.setIfInBounds p.length true).getD k true=true↔k < p.length+1∧k≠k0):=fun k hk=>by
          by_cases hkp:p.length=k
          · subst hkp
            simp [Array.getD_eq_getD_getElem?,hszl]; omega
          · rw [getD_set_ne true hkp]
            rcases Nat.lt_or_ge k p.length with h3 | h3
            · by_cases hkk:k=k0
              · subst hkk; rw [hk1]; simp
              · rw [hothers k h3 hkk]; simp [hkk]; omega
            · rw [hno k h3 hk]; simp; omega
        have hdc2:∀ (k:Nat) (o:Oper),ops[k]?=some o→(listed.setIfInBounds p.length true).getD k true=true→∀ e∈afts o,(listed.setIfInBounds p.length true).getD e true=true:=(fun k ok hok hlk e he=>by
          by_cases hki:p.length=k
          · subst hki
            rw [ho] at hok; injection hok with hok; subst hok
            exact hget_mono _ _ _ (hafl e he)
          · rw [getD_set_ne true hki] at hlk
            exact hget_mono _ _ _ (hdc k ok hok hlk e he))
        cases htw:two (jm::tl) with
        | false =>
          have hcl2:chkL P N ops (p.length::k0::List.range' (p.length+1) tl.length) (swapped (jm::tl) jl)=true:=by
            rw [show (jm::tl).length=tl.length+1 from rfl,List.range'_succ] at hcl
            simp only [chkL,Bool.and_eq_true] at hcl
            simp only [swapped,chkL,Bool.and_eq_true]
            exact ⟨hcl.1,by rw [hol]; exact hcjl,hcl.2⟩
          have hw2:=hz.2.1 htw ops _ hcl2 n0 X _ a' w' hst3
          have hw3:=ops_cons.wpOpsIn_mono' (fun e a w h=>Post.trans hE2 hK2 h) _ _ _ hw2
          rw [wpOpsIn_cons] at hw3
          refine wpOpIn_mono (fun a2 w2 hh=>?_) hw3
          rw [wpOpsIn_cons] at hh
          show wpAnyIn _ _ _ _ _ _ (0+(tl.length+1)) _ _ _
          rw [Nat.zero_add]
          refine late_at (m:=p.length+1) (t:=tl.length) hdown (fun i h1 h2=>?_) (by omega) (by simp only [List.length_cons] at hsize; omega) _ a2 w2 (by simpa using hsz) hl2 hdc2 hh
          obtain ⟨o,h3,_,h4⟩:=hsuf' i (by omega) h2
          refine ⟨o,h3,fun k hk=>(h4 k hk).resolve_left fun hx=>?_⟩
          rcases hx.2 with hx | hx
          · omega
          · rw [htw] at hx; cases hx.1
        | true =>
          obtain ⟨jb,r,rfl⟩:∃ jb r,tl=jb::r:=by
            cases tl with
            | nil=>simp [two] at htw
            | cons a b=>exact ⟨a,b,rfl⟩
          have hcl2:chkL P N ops (p.length::k0::(p.length+1)::List.range' (p.length+1+1) r.length) (jm::jl::jb::r)=true:=by
            rw [show (jm::jb::r).length=r.length+1+1 from rfl,List.range'_succ,List.range'_succ] at hcl
            simp only [chkL,Bool.and_eq_true] at hcl ⊢
            exact ⟨hcl.1,by rw [hol]; exact hcjl,hcl.2⟩
          have hw2:=hz.2.2 htw ops _ _ _ _ hcl2 n0 X _ a' w' hst3 _ (fun e a w h=>Post.trans hE2 hK2 h)
          refine wpOpIn_mono (fun a2 w2 hh=>?_) hw2
          show wpAnyIn _ _ _ _ _ _ (0+(r.length+1+1)) _ _ _
          rw [Nat.zero_add]
          refine late_two (m:=p.length+1) (t:=r.length) hdown (fun i h1 h2=>?_) (by omega) (by simp only [List.length_cons] at hsize; omega) _ a2 w2 (by simpa using hsz) hl2 hdc2 hh.1 hh.2
          obtain ⟨o,h3,_,h4⟩:=hsuf' i (by omega) h2
          refine ⟨o,h3,fun k hk=>(h4 k hk).imp_left fun hx=>⟨hx.1,?_⟩⟩
          rcases hx.2 with hx | hx <;> omega
      have hip:i < p.length:=Decidable.not_not.1 hip
      obtain ⟨j,hj⟩:∃ j,p[i]?=some j:=⟨_,List.getElem?_eq_getElem hip⟩
      obtain ⟨o',ho',hcj,h1,h2⟩:=hpre' i j hj
      rw [ho] at ho'; injection ho' with ho'; subst ho'
      have hjm:j∈p:=List.mem_of_getElem? hj
      have hcj':=hcalm j hjm
      simp only [Bool.and_eq_true] at hcj'
      obtain ⟨s0,hs0⟩:=Option.isSome_iff_exists.1 hcj'.2
      have hset:(listed.setIfInBounds i true).getD i true=true:=by simp [Array.getD_eq_getD_getElem?,show i < listed.size by omega]
      have hcnt:cntU p (listed.setIfInBounds i true)=u:=by have:=cntU_set (p:=p) hip (by omega) h0; omega
      have hdc2:∀ (k:Nat) (o:Oper),ops[k]?=some o→(listed.setIfInBounds i true).getD k true=true→∀ e∈afts o,(listed.setIfInBounds i true).getD e true=true:=by
        intro k ok hok hlk e he
        by_cases hki:i=k
        · subst hki
          rw [ho] at hok; injection hok with hok; subst hok
          exact hget_mono _ _ _ (hafl e he)
        · rw [getD_set_ne true hki] at hlk
          exact hget_mono _ _ _ (hdc k ok hok hlk e he)
      have hno2:∀ k,p.length≤k→k < ops.size→(listed.setIfInBounds i true).getD k true=false:=fun k hk1 hk2=>by
        rw [getD_set_ne true (by omega)]; exact hno k hk1 hk2
      have hHd:∀ s,s≠s0→¬ Hd (listed.setIfInBounds i true) s→¬ Hd listed s:=by
        rintro s hss hh (⟨k,jk,hk,hks,hun⟩ | hq)
        · refine hh (.inl ⟨k,jk,hk,hks,?_⟩)
          rw [getD_set_ne true]
          · exact hun
          · intro e; subst e
            rw [hj] at hk; injection hk with hk; subst hk
            rw [hs0] at hks; injection hks with hks; exact hss hks.symm
        · exact hh (.inr hq)
      have hweak:∀ s,s≠s0→gt (resE rs (hide (Hd (listed.setIfInBounds i true)) E)) s=.any∨gt (resE rs (hide (Hd (listed.setIfInBounds i true)) E)) s=gt (resE rs (hide (Hd listed) E)) s:=by
        intro s hss
        by_cases hm:s∈rs.map (·.1)
        · exact .inr (gt_res_mem hm).1
        · rw [Zk hm,Zk hm]
          by_cases hh:Hd (listed.setIfInBounds i true) s
          · exact .inl ((Zu E).1 hh)
          · exact .inr (by rw [(Zu E).2 hh,(Zu E).2 (hHd s hss hh)])
      have hrsd:∀ d b,(d,b)∈rs→∃ (k:Nat) (j:J) (q:Al),p[k]?=some j∧toAl j=some q∧q.d=d∧listed.getD k true=true:=fun d b hm=>by
        obtain ⟨_,k,j,q,h1,h2,h3,h4,_⟩:=hr1 d b hm; exact ⟨k,j,q,h1,h2,h3,h4⟩
      have hs0rs:s0 ∉ rs.map (·.1):=fun hm=>by
        obtain ⟨pr,hpr,e⟩:=List.mem_map.1 hm
        obtain ⟨k,jk,q,hk,hjq,hd,hl⟩:=hrsd pr.1 pr.2 hpr
        have:i=k:=huniq i k j jk s0 hj hk hs0 (by rw [Zj hjq,hd,e])
        subst this
        rw [h0] at hl; cases hl
      by_cases hcc:j.i.calm=true
      · obtain ⟨v,hone,hv⟩:=hjE j hjm hcc
        have hnal:∀ q∈als,q.d≠s0:=fun q hq e=>by
          obtain ⟨k,jk,hk,hjq⟩:=(hmemal q).1 hq
          have:i=k:=huniq i k j jk s0 hj hk hs0 (by rw [Zj hjq,e])
          subst this
          rw [hj] at hk; injection hk with hk; subst hk
          rw [calm_toAl hcc] at hjq; cases hjq
        have hstep:=hone hcc ops i o ho hcj (resE rs (hide (Hd listed) E)) (fun s hs=>by
          have hnq:∀ q∈als,q.d≠s:=fun q hq e=>by
            obtain ⟨k,jk,hk,hjq⟩:=(hmemal q).1 hq
            have:=(h2 k jk s hk (by rw [Zj hjq,e]) hs).2
            rw [Zj hjq] at this
            cases this
          rw [Zk fun hm=>by
            obtain ⟨pr,hpr,e⟩:=List.mem_map.1 hm
            obtain ⟨k,jk,q,hk,hjq,hd,_⟩:=hrsd pr.1 pr.2 hpr
            exact hnq q ((hmemal q).2 ⟨k,jk,hk,hjq⟩) (hd.trans e)]
          refine (Zu E).2 ?_
          rintro (⟨k,jk,hk,hks,hun⟩ | ⟨q,hq,e⟩)
          · obtain ⟨e,he,hb,hon⟩:=of_mem_afts (h2 k jk s hk hks hs).1
            have:=hall e he hb
            rw [hon,hdef k (by have:=(List.getElem?_eq_some_iff.1 hk).1; omega),hun] at this
            cases this
          · exact hnq q hq e) n0 _ β' a' w' hst' (Post N n0 X w β σ (Kl live K))
        refine wpOpIn_mono (fun a2 w2 ⟨β2,hst2,he2,kp2⟩=>?_) hstep
        refine ih _ a2 w2 β2 rs hcnt (by simpa using hsz) hno2 hdc2 (hst2.weak fun s=>?_) (he.trans he2) (kp.trans kp2) (fun d b hm=>?_) hr2 (fun k jk q hk hjq hl=>?_)
        · by_cases hss:s=s0
          · subst hss
            refine .inr ?_
            rw [Zk hs0rs,(Zu E).2,hv s hs0,hs0]
            · simp [st,gt]
            · rintro (⟨k,jk,hk,hks,hun⟩ | ⟨q,hq,e⟩)
              · have:=huniq i k j jk s hj hk hs0 hks
                subst this
                rw [hset] at hun; cases hun
              · exact hnal q hq e
          · have hgst:gt (st j.d v (resE rs (hide (Hd listed) E))) s=gt (resE rs (hide (Hd listed) E)) s:=by
              rw [hs0]; simp only [st,gt]; rw [show (s0 == s)=false by simpa using fun e=>hss e.symm]; rfl
            rw [hgst]
            exact hweak s hss
        · obtain ⟨g0,k,jk,q,g1,g2,g3,g4,g5,g6⟩:=hr1 d b hm
          refine ⟨g0,k,jk,q,g1,g2,g3,hget_mono _ _ _ g4,g5,?_⟩
          rw [he2.old b (Zh g6) fun hown=>?_]
          · exact g6
          · obtain ⟨f,i,o,ho,hb⟩:=hown
            exact hst'.sr.dis f i o b ho hb (.inr (List.mem_map.2 ⟨_,hm,rfl⟩))
        · by_cases hki:i=k
          · subst hki
            rw [hj] at hk; injection hk with hk; subst hk
            rw [calm_toAl hcc] at hjq; cases hjq
          · rw [getD_set_ne true hki] at hl
            exact hr3 k jk q hk hjq hl
      ·
        have hisal:isAl j=true:=by
          rcases Bool.or_eq_true _ _ ▸ hcj'.1 with h | h
          · exact absurd h hcc
          · exact h
        obtain ⟨q,hjq⟩:∃ q,toAl j=some q:=by
          obtain ⟨d,ii,g⟩:=j
          cases d <;> cases ii <;> cases g <;> simp [isAl] at hisal
          exact ⟨_,rfl⟩
        have hjs:=Zj hjq
        have hqd:q.d=s0:=by rw [hjs] at hs0; injection hs0
        subst hjs
        obtain ⟨hw,_,_⟩:=wanted_eq hst' hcj (c:=true) (wr:=false) rfl
        obtain ⟨hd,hltd,hci⟩:=Zg hcj
        obtain ⟨w2,hrun,hh,hsc,hio⟩:=run_alloc hci w'
        simp only [wpOpIn,ho,hw,if_true]
        refine ⟨fun f _=>fnc_fn f,?_⟩
        rw [Oper.semAt_eq _ _ _ (no_defer hci),hrun]
        show wpAnyIn _ _ _ _ _ _ _ _ (a'.put o.dst _) w2
        rw [hd]
        have hsz2:w2.heap.size=w'.heap.size+1:=by rw [hh]; simp
        have K2:Kp w' (Xt (fun b=>X b∨b∈rs.map (·.2)) β' σ) β' σ w2 (Xt (fun b=>X b∨b∈((q.d,w'.heap.size)::rs).map (·.2)) β' σ) β' σ :=
          { size:=push_size hh
            imm:=fun b o hc _ _=>push_old hh (Zh hc)
            frb:=fun b hb hx=>hx.elim (fun h=>h.elim (fun h=>.inl (.inl h)) fun h=>by
              rcases List.mem_cons.1 h with e | h
              · simp only at e; omega
              · exact .inl (.inr h)) .inr
            len:=Nat.le_refl _
            obs:=fun f i o' _ ho=>⟨o',ho,rfl,Nat.le_refl _,fun _=>⟨rfl,fun b hb c T hc=>⟨c,T,by rw [push_old hh (Zh hc)]; exact hc,rfl⟩⟩⟩ }
        have hs2:SRel w2 (fun b=>X b∨b∈((q.d,w'.heap.size)::rs).map (·.2)) β' σ :=
          ⟨hst'.sr.inj,fun f i o b ho hb hx=>hx.elim (fun h=>hst'.sr.dis f i o b ho hb (.inl h)) fun h=>by
              rcases List.mem_cons.1 h with e | h
              · have:=hst'.sr.owned_lt ⟨f,i,o,ho,hb⟩
                simp only at e; omega
              · exact hst'.sr.dis f i o b ho hb (.inr h),
            fun f i o ho=>(hst'.sr.obj f i o ho).tr K2 fun b hb=>push_old hh (hst'.sr.owned_lt ⟨f,i,o,ho,hb⟩)⟩
        have hsame:∀ b,b < w'.heap.size→w2.heap[b]?=w'.heap[b]?:=fun b hb=>push_old hh hb
        refine ih _ _ w2 β' ((q.d,w'.heap.size)::rs) hcnt (by simpa using hsz) hno2 hdc2 ⟨by simp [Act.put,hst'.sz],?_,fun b hb=>?_,Nat.le_trans hst'.nb (push_size hh),hs2,fun s=>?_⟩ (he.trans (Ext.same (push_size hh) hsame hio)) (kp.trans K2) (fun d b hm=>?_) ?_ (fun k jk q' hk hjq' hl=>?_)
        · obtain ⟨ms,hmn,hmd,hm⟩:=hst'.df
          exact ⟨ms,hmn,hmd,fun r hr=>let ⟨g1,g2,g3⟩:=hm r hr; ⟨by rw [hsame r (Zh g1)]; exact g1,fun hx=>g2 (K2.frb r (Zh g1) hx),g3⟩⟩
        · rcases hb with h | h
          · have:=hst'.bd b (.inl h); omega
          · rcases List.mem_cons.1 h with e | h
            · simp only at e; omega
            · have:=hst'.bd b (.inr h); omega
        · have hlt':q.d < N:=hltd q.d rfl
          by_cases hss:s=q.d
          · subst hss
            simp only [resE,List.map_cons,List.cons_append,gt,beq_self_eq_true,cond_true,Act.put]
            have:(a'.tmps.setIfInBounds q.d (.pointer (some ⟨w'.heap.size,0,none⟩))).getD q.d undef=.pointer (some ⟨w'.heap.size,0,none⟩):=by
              simp [Array.getD_eq_getD_getElem?,hst'.sz,hlt']
            rw [this]; exact .v _
          · simp only [Act.put]
            have hne:(a'.tmps.setIfInBounds q.d (.pointer (some ⟨w'.heap.size,0,none⟩))).getD s undef=a'.tmps.getD s undef:=by
              simp [Array.getD_eq_getD_getElem?,Array.getElem?_setIfInBounds_ne (Ne.symm hss)]
            rw [hne]
            have hg:gt (resE ((q.d,w'.heap.size)::rs) (hide (Hd (listed.setIfInBounds i true)) E)) s=gt (resE rs (hide (Hd (listed.setIfInBounds i true)) E)) s:=by
              simp only [resE,List.map_cons,List.cons_append,gt]
              rw [show (q.d == s)=false by simpa using fun e=>hss e.symm]; rfl
            rw [hg]
            rcases hweak s (by rw [← hqd]; exact hss) with e | e
            · rw [e]; exact .any _
            · rw [e]; exact (hst'.ev s).tr K2
        · rcases List.mem_cons.1 hm with e | hm
          · injection e with e1 e2
            subst e1; subst e2
            exact ⟨he.size,i,_,q,hj,rfl,rfl,hset,hsc,by rw [hh]; simp⟩
          · obtain ⟨g0,k,jk,q2,g1,g2,g3,g4,g5,g6⟩:=hr1 d b hm
            exact ⟨g0,k,jk,q2,g1,g2,g3,hget_mono _ _ _ g4,g5,by rw [hsame b (Zh g6)]; exact g6⟩
        · rw [List.map_cons]
          refine List.nodup_cons.2 ⟨fun hm=>?_,hr2⟩
          have:=hst'.bd _ (.inr hm)
          simp only at this; omega
        · by_cases hki:i=k
          · subst hki
            rw [hj] at hk; injection hk with hk; subst hk
            simp only [toAl,Option.some.injEq] at hjq'
            subst hjq'; simp
          · rw [getD_set_ne true hki] at hl
            simp only [List.map_cons,List.mem_cons]
            exact .inr (hr3 k jk q' hk hjq' hl)
  have hrep:∀ k,k < ops.size→(Array.replicate ops.size false).getD k true=false:=fun k hk=>by
    simp [Array.getD_eq_getD_getElem?,hk]
  have hcnt:cntU p (Array.replicate ops.size false)=p.length:=by
    unfold cntU
    rw [List.countP_eq_length.2 (fun k hk=>by rw [hrep k (by have:=List.mem_range.1 hk; omega)]; rfl)]
    simp
  have hX0:(fun b=>X b∨b∈([]:List (Nat × Nat)).map (·.2))=X:=by funext b; simp
  have:=key p.length (Array.replicate ops.size false) a w β [] hcnt (by simp) (fun k _ hk=>hrep k hk) (fun k o hok hl=>by rw [hrep k (Array.getElem?_eq_some_iff.1 hok).1] at hl; cases hl) (by
      rw [hX0]
      refine hst.weak fun s=>?_
      show gt (hide _ E) s=_∨gt (hide _ E) s=_
      by_cases hh:Hd (Array.replicate ops.size false) s
      · exact .inl ((Zu E).1 hh)
      · refine .inr ?_
        rw [(Zu E).2 hh]
        refine hE s fun j hj e=>hh (.inl ?_)
        obtain ⟨k,hk⟩:=List.getElem?_of_mem hj
        exact ⟨k,j,hk,e,hrep k (by have:=(List.getElem?_eq_some_iff.1 hk).1; omega)⟩) (Ext.refl _ _ _) (by rw [hX0]; exact Kp.refl) (fun d b hm=>absurd hm (List.not_mem_nil)) (by simp) (fun k j q hk _ hl=>by
        rw [hrep k (by have:=(List.getElem?_eq_some_iff.1 hk).1; omega)] at hl; cases hl)
  rw [← hsize] at this; exact this
end
def pnew (n:Nat) (π:List Nat) (i:Nat):Nat:=if i < n then π.idxOf i else i
def pold (n:Nat) (π:List Nat) (j:Nat):Nat:=π.getD j n
def pmO (n:Nat) (π:List Nat) (o:Oper):Oper :=
  { o with after:=o.after.map fun e=>{ e with on:=pnew n π e.on },guard:=o.guard.map fun g=>(pnew n π g.1,g.2) }
def perm (ops:Array Oper) (π:List Nat):Array Oper:=((List.range ops.size).map fun j=>pmO ops.size π (ops.getD (pold ops.size π j) default)).toArray
def okPerm (n:Nat) (π:List Nat):Bool :=
  (List.range n).all fun i=>decide (pnew n π i < n) && pold n π (pnew n π i) == i && decide (pold n π i < n) && pnew n π (pold n π i) == i
section
variable {P:Program} {F:Fence} {n:Nat} {ops:Array Oper} {Q:Exit→Act→World→Prop} {π:List Nat}
theorem okPerm_new (h:okPerm ops.size π=true) {i:Nat} (hi:i < ops.size):pnew ops.size π i < ops.size∧pold ops.size π (pnew ops.size π i)=i∧pold ops.size π i < ops.size∧pnew ops.size π (pold ops.size π i)=i:=by
  have:=List.all_eq_true.1 h i (List.mem_range.2 hi)
  simp only [Bool.and_eq_true,decide_eq_true_eq,beq_iff_eq] at this
  exact ⟨this.1.1.1,this.1.1.2,this.1.2,this.2⟩
theorem perm_size:(perm ops π).size=ops.size:=by simp [perm]
theorem perm_get (h:okPerm ops.size π=true) {i:Nat} {o:Oper} (ho:ops[i]?=some o):(perm ops π)[pnew ops.size π i]?=some (pmO ops.size π o):=by
  have hi:=(Array.getElem?_eq_some_iff.1 ho).1
  obtain ⟨h1,h2,_⟩:=okPerm_new h hi
  have:ops.getD i default=o:=by rw [Array.getD_eq_getD_getElem?,ho]; rfl
  simp [perm,h1,h2,ho]
theorem perm_yielded (h:okPerm ops.size π=true) (tmps:Array Value) (g:Nat):yielded (perm ops π) tmps (pnew ops.size π g)=yielded ops tmps g:=by
  unfold yielded
  cases ho:ops[g]? with
  | some o=>rw [perm_get h ho]; rfl
  | none =>
    have hg:ops.size≤g:=by
      rcases Nat.lt_or_ge g ops.size with h1 | h1
      · rw [Array.getElem?_eq_getElem h1] at ho; cases ho
      · exact h1
    have:(perm ops π)[pnew ops.size π g]?=none:=by
      rw [Array.getElem?_eq_none_iff,perm_size,pnew,if_neg (by omega)]; exact hg
    rw [this]
theorem perm_wanted (h:okPerm ops.size π=true) (tmps:Array Value) (o:Oper):Region.wanted (pmO ops.size π o) (yielded (perm ops π) tmps)=Region.wanted o (yielded ops tmps):=by
  unfold Region.wanted pmO
  cases o.guard with
  | none=>rfl
  | some g=>simp only [Option.map_some,perm_yielded h]
theorem pmO_wp {m:Nat} {o:Oper} {a:Act} {w:World} {K:Act→World→Prop}:(pmO m π o).wpIn F n P a w K Q↔o.wpIn F n P a w K Q:=Iff.rfl
theorem perm_ready (h:okPerm ops.size π=true) {listed listed':Array Bool} (hl:∀ i,i < ops.size→listed'.getD (pnew ops.size π i) true=listed.getD i true) (hf:∀ i,listed'.getD (pnew ops.size π i) false=listed.getD i false) {i:Nat}
    (hi:i∈Region.ready .any ops listed):pnew ops.size π i∈Region.ready .any (perm ops π) listed':=by
  unfold Region.ready at hi ⊢
  rw [List.mem_filter,List.mem_range] at hi ⊢
  obtain ⟨h1,h2⟩:=hi
  obtain ⟨g1,_⟩:=okPerm_new h h1
  refine ⟨by rw [perm_size]; exact g1,?_⟩
  have ho:ops[i]?=some ops[i]:=Array.getElem?_eq_getElem h1
  rw [perm_get h ho,hl i h1]
  rw [ho] at h2
  simp only [Option.map_some,Option.getD_some,Bool.and_eq_true] at h2 ⊢
  refine ⟨h2.1,?_⟩
  have h3:=h2.2
  rw [Array.all_eq_true'] at h3 ⊢
  intro e he
  simp only [pmO,Array.mem_map] at he
  obtain ⟨e',he',rfl⟩:=he
  have h4:=h3 e' he'
  simp only [hf]
  exact h4
theorem any_perm (h:okPerm ops.size π=true):∀ (fuel:Nat) (listed listed':Array Bool) (a:Act) (w:World),listed.size=ops.size→listed'.size=ops.size→(∀ i,i < ops.size→listed'.getD (pnew ops.size π i) true=listed.getD i true) →
    wpAnyIn F n P .any (perm ops π) Q fuel listed' a w→wpAnyIn F n P .any ops Q fuel listed a w:=by
  have hfalse:∀ {listed listed':Array Bool},listed.size=ops.size→listed'.size=ops.size→(∀ i,i < ops.size→listed'.getD (pnew ops.size π i) true=listed.getD i true)→∀ i,listed'.getD (pnew ops.size π i) false=listed.getD i false:=by
    intro listed listed' hs hs' hl i
    rcases Nat.lt_or_ge i ops.size with hi | hi
    · have h1:=hl i hi
      obtain ⟨g1,_⟩:=okPerm_new h hi
      simp only [Array.getD_eq_getD_getElem?,Array.getElem?_eq_getElem (show i < listed.size by omega),Array.getElem?_eq_getElem (show pnew ops.size π i < listed'.size by omega),Option.getD_some] at h1 ⊢
      exact h1
    · have:pnew ops.size π i=i:=by unfold pnew; rw [if_neg (by omega)]
      rw [this]
      simp [Array.getD_eq_getD_getElem?,Array.getElem?_eq_none (show listed.size≤i by omega),Array.getElem?_eq_none (show listed'.size≤i by omega)]
  have hback:∀ {listed listed':Array Bool},listed.size=ops.size→listed'.size=ops.size→(∀ i,i < ops.size→listed'.getD (pnew ops.size π i) true=listed.getD i true)→Region.ready .any ops listed=[]→Region.ready .any (perm ops π) listed'=[]:=by
    intro listed listed' hs hs' hl hr
    refine List.eq_nil_iff_forall_not_mem.2 fun j hj=>?_
    unfold Region.ready at hj
    rw [List.mem_filter,List.mem_range,perm_size] at hj
    obtain ⟨hj1,hj2⟩:=hj
    obtain ⟨_,_,g3,g4⟩:=okPerm_new h hj1
    have ho:ops[pold ops.size π j]?=some ops[pold ops.size π j]:=Array.getElem?_eq_getElem g3
    have hp:=perm_get h ho
    rw [g4] at hp
    have hmem:pold ops.size π j∈Region.ready .any ops listed:=by
      unfold Region.ready
      rw [List.mem_filter,List.mem_range]
      refine ⟨g3,?_⟩
      rw [hp] at hj2
      rw [ho,← hl _ g3,g4]
      simp only [Option.map_some,Option.getD_some,Bool.and_eq_true] at hj2 ⊢
      refine ⟨hj2.1,?_⟩
      have h3:=hj2.2
      rw [Array.all_eq_true'] at h3 ⊢
      intro e he
      have h4:=h3 { e with on:=pnew ops.size π e.on } (by simp only [pmO,Array.mem_map]; exact ⟨e,he,rfl⟩)
      simp only [hfalse hs hs' hl] at h4
      exact h4
    rw [hr] at hmem; cases hmem
  intro fuel
  induction fuel with
  | zero =>
    intro listed listed' a w hs hs' hl hw
    refine ⟨?_,hw.2⟩
    refine List.eq_nil_iff_forall_not_mem.2 fun i hi=>?_
    have:=perm_ready h hl (hfalse hs hs' hl) hi
    rw [hw.1] at this; cases this
  | succ fuel ih =>
    intro listed listed' a w hs hs' hl hw
    refine ⟨fun hr=>hw.1 (hback hs hs' hl hr),fun i hi=>?_⟩
    have hi':=perm_ready h hl (hfalse hs hs' hl) hi
    have h1:=hw.2 _ hi'
    have hlt:i < ops.size:=by unfold Region.ready at hi; rw [List.mem_filter,List.mem_range] at hi; exact hi.1
    have ho:ops[i]?=some ops[i]:=Array.getElem?_eq_getElem hlt
    unfold wpOpIn at h1 ⊢
    rw [perm_get h ho] at h1
    rw [ho]
    simp only [perm_wanted h] at h1 ⊢
    have hstep:∀ a w,wpAnyIn F n P .any (perm ops π) Q fuel (listed'.setIfInBounds (pnew ops.size π i) true) a w→wpAnyIn F n P .any ops Q fuel (listed.setIfInBounds i true) a w:=fun a w hh=>by
      refine ih _ _ a w (by simp [hs]) (by simp [hs']) (fun k hk=>?_) hh
      obtain ⟨k1,k2,_⟩:=okPerm_new h hk
      obtain ⟨i1,i2,_⟩:=okPerm_new h hlt
      by_cases hki:k=i
      · subst hki
        simp [Array.getD_eq_getD_getElem?,Array.getElem?_setIfInBounds_self_of_lt,hs,hs',hk,k1]
      · have hne:pnew ops.size π k≠pnew ops.size π i:=fun e=>hki (by rw [← k2,e,i2])
        have:=hl k hk
        simpa [Array.getD_eq_getD_getElem?,Array.getElem?_setIfInBounds_ne (fun e=>hki e.symm),Array.getElem?_setIfInBounds_ne (fun e=>hne e.symm)] using this
    split
    · rename_i hwt
      rw [if_pos hwt] at h1
      exact Oper.wpIn_mono hstep (pmO_wp.1 h1)
    · rename_i hwt
      rw [if_neg hwt] at h1
      exact ⟨h1.1,hstep _ _ h1.2⟩
end
end Go.Abs
