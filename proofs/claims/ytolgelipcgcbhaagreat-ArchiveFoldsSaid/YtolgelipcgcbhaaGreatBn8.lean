/- Part 8: contracts. -/
import Derived.Test.YtolgelipcgcbhaaGreatBn7
import Derived.Lib.AppendZeros
import Derived.Lib.AppendZerosOnto
import Derived.Lib.JoinLaws
import Derived.Laws.Externs
import Derived.Laws.IdiomCopy
import Derived.Laws.NewBlocks
import Derived.Shelf.Spec.SlicesInsert
namespace Go.Abs
open Go.Lib
set_option linter.unusedVariables false
set_option linter.unusedSimpArgs false
section
variable {P:Program}
theorem run_copy_cellsK (w:World) (dT sT ty elem:TypeId) (k b o dLen dCap:Nat) (a:Addr) (sLen sCap:Nat) (cs:List Value)
    (hu:P.underlying dT=some (.slice elem)) (hs:(P.info? elem).map (·.size)=some k) (hn:cs.length=Nat.min sLen dLen * k)
    (hsrc:∀ j v,cs[j]?=some v→w.cell? (a.add j)=some v) (hc:∀ j,j < cs.length→(w.cell? ⟨b,o+j,none⟩).isSome=true) (hf:∀ j,j < cs.length→w.frozen? ⟨b,o+j,none⟩=false) (h1:∀ v∈cs,v.oneCell'=true) :
    (Builtin.copy_ #[dT,sT] ty #[.slice (some ⟨b,o,none⟩) dLen dCap,.slice (some a) sLen sCap]).run P w=.ok (goInt (Nat.min sLen dLen)) (w.setCells b o cs):=by
  have hl:=run_loadCells_list (P:=P) w a cs hsrc
  have hst:=run_storeCells_cells (P:=P) b o cs 0 w (by simpa using hc) (by simpa using hf) h1
  cases hq:P.info? elem with
  | none=>simp [hq] at hs
  | some i =>
    have hi:i.size=k:=by simpa [hq] using hs
    simp [Builtin.copy_,run_underlying hu,Builtin.lenOf,Builtin.firstCells,sizeOf,typeInfo,hq,hi,← hn,hl,hst]
theorem run_overlaps_own (w:World) (tS tR e:TypeId) (ht:P.underlying tS=some (.slice e)) (size:Nat) (hz:∀ w,(Go.sizeOf e).run P w=.ok size w)
    (a b:Addr) (la ca lb cb:Nat) (hne:a.block≠b.block) (tA tB:TypeId) (kA kB:Nat)
    (hsa:w.shape? a.block=some (tA,kA)) (hkA:kA≠0) (hsb:w.shape? b.block=some (tB,kB)) (hkB:kB≠0)
    (hfb:w.frozen? b=false) (hfe:w.frozen? { block:=b.block,off:=kB }=false) :
    (Extern.SlicesOverlaps.overlaps #[tS,tS] #[tR] #[.slice (some a) la ca,.slice (some b) lb cb]).run P w=.ok (.bool false) w:=by
  have hnb:(a.block != b.block)=true:=by simpa using hne
  have hnb':(a.block == b.block)=false:=by simpa using hne
  change Sem.run P (α:=Value) (do
    let some t:=(#[tS,tS]:Array TypeId)[0]? | stuck "slices.overlaps: no parameter types"
    let .slice elem ← underlying t | stuck "slices.overlaps: slice type expected"
    let size ← sizeOf elem
    match (some a:Option Addr),(some b:Option Addr) with
    | some a,some b =>
      if la=0∨lb=0∨size=0 then pure (Value.bool false)
      else if a.block != b.block && (← frozen a) && (← frozen b) then unsupported .addressObserved
      else do
        if a.block != b.block then do
          noView a; noView b
          if ← mayBeOne a b then return Value.bool ((← choose (.extern "sameAddr.stringBytes" 2)) == 1)
        pure (Value.bool (a.block == b.block && a.off < b.off+lb * size && b.off < a.off+la * size))
    | _,_=>pure (Value.bool false)) w=_
  by_cases h0:la=0∨lb=0∨size=0
  · simp [run_underlying ht,hz,h0]
  · cases kA with
    | zero=>exact absurd rfl hkA
    | succ kA =>
      cases kB with
      | zero=>exact absurd rfl hkB
      | succ kB =>
        cases hf1:w.frozen? a with
        | true=>simp [run_underlying ht,hz,h0,hnb,hnb',frozen,noView,viewAt,mayBeOne,stringish,shape,Sem.run,hsa,hsb,hfb,hfe,hf1]
        | false =>
          cases hf2:w.frozen? { block:=a.block,off:=kA+1 } <;>
            simp [run_underlying ht,hz,h0,hnb,hnb',frozen,noView,viewAt,mayBeOne,stringish,shape,Sem.run,hsa,hsb,hfb,hfe,hf1,hf2]
theorem setCells_blk (b:Nat):∀ (vs:List Value) (o:Nat) (w:World) (c:Array Value) (T:TypeId) (fr:Nat × Nat),w.heap[b]?=some (.cells c T fr) →
    (∃ c',(w.setCells b o vs).heap[b]?=some (.cells c' T fr)∧c'.size=c.size)∧(w.setCells b o vs).heap.size=w.heap.size∧(∀ b',b'≠b→(w.setCells b o vs).heap[b']?=w.heap[b']?)∧Still w (w.setCells b o vs)
  | [],o,w,c,T,fr,h=>⟨⟨c,h,rfl⟩,rfl,fun _ _=>rfl,Still.refl w⟩
  | v::r,o,w,c,T,fr,h=>by
    have h1:(w.setCell ⟨b,o,none⟩ v).heap[b]?=some (.cells (c.setIfInBounds o v) T fr):=by
      simp [World.setCell,Array.getElem?_modify,h]
    obtain ⟨⟨c',g1,g2⟩,g3,g4,g5⟩:=setCells_blk b r (o+1) (w.setCell ⟨b,o,none⟩ v) _ T fr h1
    refine ⟨⟨c',g1,by rw [g2,Array.size_setIfInBounds]⟩,by rw [World.setCells,g3]; simp [World.setCell],fun b' hb'=>?_,?_⟩
    · rw [World.setCells,g4 b' hb']
      simp [World.setCell,Array.getElem?_modify,Ne.symm hb']
    · exact Still.trans (⟨rfl,rfl,rfl,Nat.le_refl _⟩:Still w (w.setCell ⟨b,o,none⟩ v)) g5
def insV (k n i:Nat) (c:Array Value) (x:Nat→Value) (t:Nat):Value:=if t < i * k then c.getD t undef else if t < i * k+k then x (t - i * k) else c.getD (t - k) undef
structure InsW (k n i b T:Nat) (c:Array Value) (x:Nat→Value) (w w':World) (b' cap':Nat):Prop where
  blk:∃ c',w'.heap[b']?=some (.cells c' T (0,0))∧c'.size=cap' * k
  le:n+1≤cap'
  at_:b'=b∨w.heap.size≤b'
  size:w.heap.size≤w'.heap.size
  old:∀ d,d < w.heap.size→d≠b→w'.heap[d]?=w.heap[d]?
  io:Still w w'
  cell:∀ t,t < (n+1) * k→w'.cell? ⟨b',t,none⟩=some (insV k n i c x t)
theorem cell_of {w:World} {b:Nat} {c:Array Value} {T:TypeId} {fr:Nat × Nat} (h:w.heap[b]?=some (.cells c T fr)) {t:Nat} (ht:t < c.size):w.cell? ⟨b,t,none⟩=some (c.getD t undef):=by
  unfold World.cell?
  rw [h]
  simp [Array.getD_eq_getD_getElem?,ht]
theorem getD_of {w:World} {b:Nat} {c:Array Value} {T:TypeId} {fr:Nat × Nat} (h:w.heap[b]?=some (.cells c T fr)) {t:Nat} {v:Value} (ht:w.cell? ⟨b,t,none⟩=some v):c.getD t undef=v:=by
  unfold World.cell? at ht
  rw [h] at ht
  simp only [Option.isSome_none,Bool.false_eq_true,if_false] at ht
  rw [Array.getD_eq_getD_getElem?,ht]; rfl
theorem ins_own {w w':World} {X:Nat→Prop} {β:Blk} {σ:Sto} {f T k n i b' cap':Nat} {es:List (List AV)} {r:List AV} {c:Array Value} {x:Nat→Value} {b:Nat}
    (hsr:SRel w X β σ) (hX:∀ b,X b→b < w.heap.size) (hf:σ.at f 0=some ⟨T,k,es,none⟩) (hb:β f 0=some b) (hc:w.heap[b]?=some (.cells c T (0,0)))
    (hn:es.length=n) (hi:i≤n) (hr:r.length=k) (hx1:∀ j,j < k→(x j).oneCell'=true) (hxr:∀ j,j < k→RV w (Xt X β σ) β σ (r.getD j .any) (x j)) (I:InsW k n i b T c x w w' b' cap') :
    ∃ β',SRel w' X β' (σ.upd f 0 ⟨T,k,es.take i++r::es.drop i,none⟩)∧RV w' (Xt X β' (σ.upd f 0 ⟨T,k,es.take i++r::es.drop i,none⟩)) β' (σ.upd f 0 ⟨T,k,es.take i++r::es.drop i,none⟩) (.own f 0 (n+1)) (.slice (some ⟨b',0,none⟩) (n+1) cap') ∧
      Ext w β σ w' β' (σ.upd f 0 ⟨T,k,es.take i++r::es.drop i,none⟩)∧Kp w (Xt X β σ) β σ w' (Xt X β' (σ.upd f 0 ⟨T,k,es.take i++r::es.drop i,none⟩)) β' (σ.upd f 0 ⟨T,k,es.take i++r::es.drop i,none⟩):=by
  obtain ⟨c',hc',hsz'⟩:=I.blk
  have hob:=hsr.obj f 0 _ hf
  rw [hb] at hob
  obtain ⟨c0,hc0,hsz,hone,hrv⟩:=hob.2.1 rfl
  rw [hc] at hc0; injection hc0 with hc0; injection hc0 with hc0 _; subst hc0
  have hlen0:=hob.1
  simp only at hsz hone hrv hlen0
  have hl2:(es.take i++r::es.drop i).length=n+1:=by
    rw [List.length_append,List.length_take,List.length_cons,List.length_drop]; omega
  have ht:Turn w β f 0 (some b') w':=⟨I.size,fun d h1 h2=>I.old d h1 (fun e=>h2 (by rw [hb,e])),fun d hd=>by
    injection hd with hd; subst hd
    rcases I.at_ with h | h
    · exact .inl (by rw [hb,h])
    · exact .inr h,I.io⟩
  have hle:(⟨T,k,es,none⟩:Ob).es.length≤(⟨T,k,es.take i++r::es.drop i,none⟩:Ob).es.length:=by show es.length≤_; rw [hl2]; omega
  have hsame:(⟨T,k,es,none⟩:Ob).es.length=(⟨T,k,es.take i++r::es.drop i,none⟩:Ob).es.length→some b'=β f 0∧∀ d,β f 0=some d→SameSize w w' d:=fun h=>by
    simp only [hl2] at h; omega
  have K:=Kp.turn (o':=⟨T,k,es.take i++r::es.drop i,none⟩) hsr hf ht rfl hle hsame
  have hrow:∀ e,e < n+1→(es.take i++r::es.drop i).getD e []=if e < i then es.getD e [] else if e=i then r else es.getD (e - 1) []:=by
    intro e he
    rw [List.getD_eq_getElem?_getD,List.getElem?_append,List.length_take]
    by_cases h1:e < i
    · rw [if_pos (by omega),if_pos h1,List.getElem?_take,if_pos h1,List.getD_eq_getElem?_getD]
    · rw [if_neg (by omega),if_neg h1,Nat.min_eq_left (by omega)]
      by_cases h2:e=i
      · rw [if_pos h2,h2,Nat.sub_self]; rfl
      · rw [if_neg h2]
        obtain ⟨m,rfl⟩:∃ m,e=i+m+1:=⟨e - i - 1,by omega⟩
        rw [show i+m+1 - i=m+1 by omega,List.getElem?_cons_succ,List.getElem?_drop,List.getD_eq_getElem?_getD]; rfl
  have hval:∀ e j,e < n+1→j < k→∃ v,c'.getD (e * k+j) undef=v∧v.oneCell'=true∧RV w (Xt X β σ) β σ (((es.take i++r::es.drop i).getD e []).getD j .any) v:=by
    intro e j he hj
    have hlt:e * k+j < (n+1) * k:=by
      have:(e+1) * k≤(n+1) * k:=Nat.mul_le_mul_right _ he
      rw [Nat.add_mul,Nat.one_mul] at this; omega
    refine ⟨_,getD_of hc' (I.cell _ hlt),?_⟩
    rw [hrow e he]
    unfold insV
    by_cases h1:e < i
    · have:(e+1) * k≤i * k:=Nat.mul_le_mul_right _ h1
      rw [Nat.add_mul,Nat.one_mul] at this
      rw [if_pos h1,if_pos (by omega)]
      exact ⟨hone e j (by omega) hj,hrv e j (by omega) hj⟩
    · by_cases h2:e=i
      · subst h2
        rw [if_neg h1,if_pos rfl,if_neg (by omega),if_pos (by omega),Nat.add_sub_cancel_left]
        exact ⟨hx1 j hj,hxr j hj⟩
      · obtain ⟨m,rfl⟩:∃ m,e=m+1:=⟨e - 1,by omega⟩
        have:(i+1) * k≤(m+1) * k:=Nat.mul_le_mul_right _ (by omega)
        rw [Nat.add_mul,Nat.one_mul] at this
        have e1:(m+1) * k=m * k+k:=by rw [Nat.add_mul,Nat.one_mul]
        rw [if_neg h1,if_neg h2,if_neg (by omega),if_neg (by omega),Nat.add_sub_cancel,show (m+1) * k+j - k=m * k+j by omega]
        exact ⟨hone m j (by omega) hj,hrv m j (by omega) hj⟩
  have S:=hsr.turn (o':=⟨T,k,es.take i++r::es.drop i,none⟩) hX hf ht rfl hle hsame (by
    refine ⟨fun e he=>?_,fun _=>⟨c',hc',?_,fun e j he hj=>?_,fun e j he hj=>?_⟩,fun r hr=>by cases hr⟩
    · simp only [hl2] at he ⊢
      rw [hrow e he]
      split
      · exact hlen0 _ (by omega)
      · split
        · exact hr
        · exact hlen0 _ (by omega)
    · simp only [hl2]; rw [hsz']; exact Nat.mul_le_mul_right _ I.le
    · simp only [hl2] at he hj ⊢
      obtain ⟨v,h1,h2,_⟩:=hval e j he hj
      rw [h1]; exact h2
    · simp only [hl2] at he hj ⊢
      obtain ⟨v,h1,_,h3⟩:=hval e j he hj
      rw [h1]; exact h3.tr K)
  refine ⟨_,S,?_,Ext.turn hf ht,K⟩
  refine .own _ _ _ _ rfl (by rw [upd_length]; exact at_lt hf) (fun o ho=>?_) fun o ho hon=>?_
  · rw [at_upd_same hf] at ho; simp only [Option.some.injEq] at ho; subst ho; simp only [hl2]; exact Nat.le_refl _
  · rw [at_upd_same hf] at ho; simp only [Option.some.injEq] at ho; subst ho
    unfold OwnSl; rw [mvB_same]
    exact ⟨cap',c',T,by simp only [hl2],hc',hsz'⟩
end
end Go.Abs
namespace Go.Proofs.YtolgelipcgcbhaaGreat
open Go.Abs Go.Lib Go.Proofs
set_option linter.unusedVariables false
set_option linter.unusedSimpArgs false
set_option maxHeartbeats 4000000
set_option maxRecDepth 100000
theorem inf66:∃ i z,Tryz.prog.info? 66=some i∧i.size=3∧i.bytes=24∧i.zero=some z∧z.cells.size=3:=by
  have h1:(Tryz.prog.info? 66).map (fun i=>(i.size,i.bytes,i.zero.map fun z=>z.cells.size))=some (3,24,some 3):=by kernel_rfl
  obtain ⟨i,hi,h⟩:=Option.map_eq_some_iff.1 h1
  simp only [Prod.mk.injEq] at h
  obtain ⟨h2,h3,h4⟩:=h
  obtain ⟨z,hz,h5⟩:=Option.map_eq_some_iff.1 h4
  exact ⟨i,z,hi,h2,h3,hz,h5⟩
structure InsP (b vb vo n i cap:Nat) (cur:Array Value) (x:Nat→Value) (w:World):Prop where
  hc:w.heap[b]?=some (.cells cur 66 (0,0))
  hsz:cur.size=cap * 3
  hnc:n≤cap
  hn0:0 < n
  hn4:n < 1000000
  hi:i≤n
  hvb:vb≠b
  hv:∀ j,j < 3→w.cell? ⟨vb,vo+j,none⟩=some (x j)
  h1c:∀ t,t < n * 3→(cur.getD t undef).oneCell'=true
  h1v:∀ j,j < 3→(x j).oneCell'=true
section
variable {b vb vo n i cap vc:Nat} {cur:Array Value} {x:Nat→Value} {w:World} (H:InsP b vb vo n i cap cur x w)
include H
theorem InsP.cell {t:Nat} (ht:t < cap * 3):w.cell? ⟨b,t,none⟩=some (cur.getD t undef):=cell_of H.hc (by rw [H.hsz]; exact ht)
theorem InsP.fz (t:Nat):w.frozen? ⟨b,t,none⟩=false:=by
  unfold World.frozen?; rw [H.hc]; simp
theorem InsP.vs:∀ j v,[x 0,x 1,x 2][j]?=some v→w.cell? ⟨vb,vo+j,none⟩=some v:=by
  intro j v hj
  match j,hj with
  | 0,hj=>simp only [List.getElem?_cons_zero,Option.some.injEq] at hj; subst hj; exact H.hv 0 (by omega)
  | 1,hj=>simp only [List.getElem?_cons_zero,List.getElem?_cons_succ,Option.some.injEq] at hj; subst hj; exact H.hv 1 (by omega)
  | 2,hj=>simp only [List.getElem?_cons_zero,List.getElem?_cons_succ,Option.some.injEq] at hj; subst hj; exact H.hv 2 (by omega)
theorem InsP.v1:∀ v∈[x 0,x 1,x 2],v.oneCell'=true:=by
  intro v hv
  simp only [List.mem_cons,List.not_mem_nil,or_false] at hv
  rcases hv with rfl | rfl | rfl
  · exact H.h1v 0 (by omega)
  · exact H.h1v 1 (by omega)
  · exact H.h1v 2 (by omega)
theorem InsP.src:Src Tryz.prog 3 107 (.slice (some ⟨vb,vo,none⟩) 1 vc) 1 [x 0,x 1,x 2] w :=
  Src.ofSlice w Tryz.underlying107 ⟨vb,vo,none⟩ 1 vc _ (by simp) (fun j u hj=>by rw [Addr.add_lit]; exact H.vs j u hj) H.v1
theorem ins_end_room (hin:i=n) (hroom:n+1≤cap) :
    Calls Tryz.prog 232 #[.slice (some ⟨b,0,none⟩) n cap,.int .i64 n,.slice (some ⟨vb,vo,none⟩) 1 vc] w fun e w' =>
      e=.returned (.slice (some ⟨b,0,none⟩) (n+1) cap)∧w'=w.setCells b (n * 3) [x 0,x 1,x 2]:=by
  obtain ⟨i0,z0,hi0,hs0,hb0,hz0,hzc⟩:=inf66
  have hr:∀ ty,(Builtin.append_ #[107,107] ty #[.slice (some ⟨b,0,none⟩) n cap,.slice (some ⟨vb,vo,none⟩) 1 vc]).run Tryz.prog w=.ok (.slice (some ⟨b,0,none⟩) (n+1) cap) (w.setCells b (n * 3) [x 0,x 1,x 2]):=fun ty=>by
    have h:=run_append_room_src (P:=Tryz.prog) w 107 107 ty 66 i0 Tryz.underlying107 hi0 b 0 n cap (.slice (some ⟨vb,vo,none⟩) 1 vc) 1 [x 0,x 1,x 2] (by rw [hs0]; exact H.src) hroom
      (fun j hj=>by rw [hs0,Nat.zero_add,H.cell (by simp at hj; omega)]; rfl) (fun j hj=>by rw [hs0]; exact H.fz _)
    rw [hs0,Nat.zero_add] at h
    exact h
  have hz1:¬ ((1:Int)=0):=by omega
  clear H
  go_enter Tryz.func232,Tryz.ntmps232
  go_wp2_with (at_builtin; refine Lib.wpList_append_run _ rfl _ _ _ _ rfl _ _ rfl rfl _ _ (hr _) ?_)
  go_ret
  exact ⟨rfl,rfl⟩
theorem ins_end_grow (hin:i=n) (hroom:cap < n+1):∃ z:Value,z.cells.size=3 ∧
    Calls Tryz.prog 232 #[.slice (some ⟨b,0,none⟩) n cap,.int .i64 n,.slice (some ⟨vb,vo,none⟩) 1 vc] w fun e w' =>
      e=.returned (.slice (some ⟨w.heap.size,0,none⟩) (n+1) (grownCap w (n+1) cap 66)) ∧
      w'=w.drew.alloc (.cells ((((List.range (n * 3)).map fun t=>cur.getD t undef)++[x 0,x 1,x 2]).toArray++Builtin.zeroCells z.cells (grownCap w (n+1) cap 66 - (n+1))) 66):=by
  obtain ⟨i0,z0,hi0,hs0,hb0,hz0,hzc⟩:=inf66
  refine ⟨z0,hzc,?_⟩
  have hold:(Builtin.firstCells i0.size n (.slice (some ⟨b,0,none⟩) n cap)).run Tryz.prog w.drew=.ok ((List.range (n * 3)).map fun t=>cur.getD t undef).toArray w.drew:=by
    rw [hs0]
    refine run_firstCells_some w.drew 3 n ⟨b,0,none⟩ n cap _ (by simp) (fun j v hj=>?_)
    rw [Addr.add_lit,Nat.zero_add]
    rw [List.getElem?_map,Option.map_eq_some_iff] at hj
    obtain ⟨t,ht,rfl⟩:=hj
    obtain ⟨h1,rfl⟩:=List.getElem?_eq_some_iff.1 ht
    simp only [List.length_range] at h1
    rw [List.getElem_range]
    exact H.cell (by have:=H.hnc; omega)
  have hn4:=H.hn4
  have hr:∀ ty,(Builtin.append_ #[107,107] ty #[.slice (some ⟨b,0,none⟩) n cap,.slice (some ⟨vb,vo,none⟩) 1 vc]).run Tryz.prog w=_:=fun ty =>
    run_append_grow_src (P:=Tryz.prog) w 107 107 ty 66 i0 z0 Tryz.underlying107 hi0 hz0 (some ⟨b,0,none⟩) n cap _ hold (.slice (some ⟨vb,vo,none⟩) 1 vc) 1 [x 0,x 1,x 2] (by rw [hs0]; exact H.src) hroom (by omega) (by rw [hb0]; exact growslice_fits hroom (by omega))
  have hz1:¬ ((1:Int)=0):=by omega
  obtain rfl:cap=n:=by have:=H.hnc; omega
  generalize (.cells ((((List.range (cap * 3)).map fun t=>cur.getD t undef)++[x 0,x 1,x 2]).toArray++Builtin.zeroCells z0.cells (grownCap w (cap+1) cap 66 - (cap+1))) 66:Obj)=R at hr ⊢
  clear H hold hi0 hs0 hb0 hz0 hzc
  go_enter Tryz.func232,Tryz.ntmps232
  go_wp2_with (at_builtin; refine Lib.wpList_append_run _ rfl _ _ _ _ rfl _ _ rfl rfl _ _ (hr _) ?_)
  go_ret
  exact ⟨rfl,rfl⟩
abbrev tailC (n i:Nat) (cur:Array Value):List Value:=(List.range ((n - i) * 3)).map fun t=>cur.getD (i * 3+t) undef
theorem InsP.tail:∀ j v,(tailC n i cur)[j]?=some v→w.cell? ⟨b,i * 3+j,none⟩=some v:=by
  intro j v hj
  rw [List.getElem?_map,Option.map_eq_some_iff] at hj
  obtain ⟨t,ht,rfl⟩:=hj
  obtain ⟨h1,rfl⟩:=List.getElem?_eq_some_iff.1 ht
  simp only [List.length_range] at h1
  rw [List.getElem_range]
  exact H.cell (by have:=H.hnc; have:=H.hi; omega)
theorem InsP.tail1:∀ v∈tailC n i cur,v.oneCell'=true:=by
  intro v hv
  obtain ⟨t,ht,rfl⟩:=List.mem_map.1 hv
  rw [List.mem_range] at ht
  exact H.h1c _ (by have:=H.hi; omega)
theorem ins_shift (hin:i < n) (hroom:n+1≤cap) :
    Calls Tryz.prog 232 #[.slice (some ⟨b,0,none⟩) n cap,.int .i64 i,.slice (some ⟨vb,vo,none⟩) 1 vc] w fun e w' =>
      e=.returned (.slice (some ⟨b,0,none⟩) (n+1) cap)∧w'=(w.drew.setCells b ((i+1) * 3) (tailC n i cur)).setCells b (i * 3) [x 0,x 1,x 2]:=by
  obtain ⟨i0,z0,hi0,hs0,hb0,hz0,hzc⟩:=inf66
  have hz1:¬ ((1:Int)=0):=by omega
  have hz2:¬ ((i:Int)=(n:Int)):=by omega
  have hsz:(Tryz.prog.info? 66).map (·.size)=some 3:=by rw [hi0]; simp [hs0]
  have hn4:=H.hn4
  have hn0:=H.hn0
  have hcsz:=H.hsz
  have hsa:w.shape? vb≠none∧∃ tA kA,w.shape? vb=some (tA,kA)∧kA≠0:=by
    have h0:=H.hv 0 (by omega)
    unfold World.cell? at h0
    unfold World.shape?
    split at h0
    · rename_i c T fr hc
      simp only at hc
      rw [hc]
      simp only [Option.isSome_none,Bool.false_eq_true,if_false,Nat.add_zero] at h0
      exact ⟨by simp,T,c.size,rfl,fun e=>by rw [Array.getElem?_eq_none (by omega)] at h0; cases h0⟩
    · cases h0
  obtain ⟨_,tA,kA,hsa,hkA⟩:=hsa
  have hsb:w.shape? b=some (66,cur.size):=by unfold World.shape?; rw [H.hc]
  have hov:∀ lb cb,(callFunc 248 #[.slice (some ⟨vb,vo,none⟩) 1 vc,.slice (some ⟨b,(i+1) * 3,none⟩) lb cb]).run Tryz.prog w=.ok (.value (.bool false)) w:=fun lb cb=>by
    rw [run_callFunc_extern Tryz.func248 (by kernel_rfl) (by kernel_rfl) (by kernel_rfl) (e:=Extern.SlicesOverlaps.overlaps #[107,107] #[4]) (by kernel_rfl),
      run_overlaps_own w 107 4 66 Tryz.underlying107 3 Tryz.sizeOf66 ⟨vb,vo,none⟩ ⟨b,(i+1) * 3,none⟩ 1 vc lb cb H.hvb tA 66 kA cur.size hsa hkA hsb (by omega) (H.fz _) (H.fz _)]
    rfl
  have hdl:(tailC n i cur).length=(n - i) * 3:=by simp
  have hcp1:∀ ty dc sc,(Builtin.copy_ #[107,107] ty #[.slice (some ⟨b,(i+1) * 3,none⟩) (n - i) dc,.slice (some ⟨b,i * 3,none⟩) (n+1 - i) sc]).run Tryz.prog w.drew=.ok (goInt (Nat.min (n+1 - i) (n - i))) (w.drew.setCells b ((i+1) * 3) (tailC n i cur)):=fun ty dc sc =>
    run_copy_cellsK w.drew 107 107 ty 66 3 b ((i+1) * 3) (n - i) dc ⟨b,i * 3,none⟩ (n+1 - i) sc (tailC n i cur) Tryz.underlying107 hsz
      (by rw [hdl]; congr 1; simp only [Nat.min_def]; split <;> omega)
      (fun j v hj=>by rw [Addr.add_lit]; exact H.tail j v hj)
      (fun j hj=>by show (w.cell? _).isSome=true; rw [H.cell (by omega)]; rfl) (fun j hj=>H.fz _) H.tail1
  obtain ⟨W1,hW1⟩:∃ W1,W1=w.drew.setCells b ((i+1) * 3) (tailC n i cur):=⟨_,rfl⟩
  have hcp2:∀ (W:World),(∀ x,W.cell? x=W1.cell? x)→(∀ x,W.frozen? x=W1.frozen? x)→∀ ty dc,(Builtin.copy_ #[107,107] ty #[.slice (some ⟨b,i * 3,none⟩) (n+1 - i) dc,.slice (some ⟨vb,vo,none⟩) 1 vc]).run Tryz.prog W=.ok (goInt (Nat.min 1 (n+1 - i))) (W.setCells b (i * 3) [x 0,x 1,x 2]):=fun W hWc hWf ty dc =>
    run_copy_cellsK W 107 107 ty 66 3 b (i * 3) (n+1 - i) dc ⟨vb,vo,none⟩ 1 vc [x 0,x 1,x 2] Tryz.underlying107 hsz (by simp only [Nat.min_def]; split <;> simp <;> omega)
      (fun j v hj=>by
        rw [Addr.add_lit,hWc,hW1,World.cell?_setCells_out b _ _ _ _ (fun h _=>absurd h H.hvb)]
        exact H.vs j v hj)
      (fun j hj=>by
        rw [hWc,hW1]
        simp only [List.length_cons,List.length_nil] at hj
        rw [World.cell?_setCells_out b _ _ _ _ (fun _ _=>by left; show i * 3+j < (i+1) * 3; omega)]
        show (w.cell? _).isSome=true
        rw [H.cell (by omega)]; rfl)
      (fun j hj=>by rw [hWf,hW1,World.frozen?_setCells]; exact H.fz _) H.v1
  rw [← hW1] at hcp1
  have hw1:IntKind.i64.wrap ((i:Int)+1)=(i:Int)+1:=by rw [IntKind.wrap_i64]; omega
  have hw2:IntKind.i64.wrap ((n:Int)+1)=(n:Int)+1:=by rw [IntKind.wrap_i64]; omega
  have hb1:(0:Int)≤(i:Int)+1:=by omega
  have hin':i≤n:=by omega
  have htn:((i:Int)+1).toNat=i+1:=by omega
  have htn2:((n:Int)+1).toNat=n+1:=by omega
  have hb2:¬ (cap=i+1):=by omega
  have hb3:(i:Int)≤(n:Int)+1:=by omega
  have hb4:¬ (cap=i):=by omega
  have hb5:¬ ((cap:Int) < (n:Int)+1):=by omega
  have hb6:(n:Int)+1≤(cap:Int):=by omega
  have mixed:Tryz.prog.follows Departure.mixedOrders=true:=by kernel_rfl
  clear H hsa hsb hdl
  go_enter Tryz.func232,Tryz.ntmps232
  go_wp2_with (simp only [hov])
  go_region_law_o (refine step_copy_runI rfl _ _ 107 107 rfl _ _ (by simp [Act.eval,Act.put]) (by simp [Act.eval,Act.put]) (hcp1 _ _ _) ?_)
  go_wp2_with (at_builtin; refine wpList_copy_runI _ rfl _ _ 107 107 rfl _ _ rfl rfl (hcp2 _ (fun _=>rfl) (fun _=>rfl) _ _) ?_)
  go_ret
  first | exact ⟨rfl,rfl⟩ | exact ⟨rfl,by rw [hW1]⟩
end
section
variable {b vb vo n i cap vc:Nat} {cur:Array Value} {x:Nat→Value} {w:World} (H:InsP b vb vo n i cap cur x w)
include H
theorem ins_grow (hin:i < n) (hroom:cap < n+1):∃ z:Value,z.cells.size=3 ∧
    Calls Tryz.prog 232 #[.slice (some ⟨b,0,none⟩) n cap,.int .i64 i,.slice (some ⟨vb,vo,none⟩) 1 vc] w fun e w' =>
      e=.returned (.slice (some ⟨w.heap.size,0,none⟩) (n+1) (grownCap w (n+1) cap 66)) ∧
      w'=(((w.alloc (.cells (((List.range (i * 3)).map fun t=>cur.getD t undef).toArray++Builtin.zeroCells z.cells (n+1 - i)++Builtin.zeroCells z.cells (grownCap w (n+1) cap 66 - (n+1))) 66)).drew.setCells w.heap.size (i * 3) [x 0,x 1,x 2]).drew).setCells w.heap.size ((i+1) * 3) (tailC n i cur):=by
  obtain ⟨i0,z0,hi0,hs0,hb0,hz0,hzc⟩:=inf66
  refine ⟨z0,hzc,?_⟩
  have hz1:¬ ((1:Int)=0):=by omega
  have hz2:¬ ((i:Int)=(n:Int)):=by omega
  have hz3:(cap:Int) < (n:Int)+1:=by omega
  have hsz:(Tryz.prog.info? 66).map (·.size)=some 3:=by rw [hi0]; simp [hs0]
  have hn4:=H.hn4
  have hnc:=H.hnc
  have hbw:b < w.heap.size:=Zh H.hc
  have hvw:vb < w.heap.size:=block_lt (a:=⟨vb,vo+0,none⟩) (H.hv 0 (by omega))
  have hkk:(n:Int)+1 - (i:Int)=((n+1 - i:Nat):Int):=by omega
  have hik:i+(n+1 - i)=n+1:=by omega
  have hold:(Builtin.firstCells i0.size i (.slice (some ⟨b,0,none⟩) i cap)).run Tryz.prog w.drew=.ok ((List.range (i * 3)).map fun t=>cur.getD t undef).toArray w.drew:=by
    rw [hs0]
    refine run_firstCells_some w.drew 3 i ⟨b,0,none⟩ i cap _ (by simp) (fun j v hj=>?_)
    rw [Addr.add_lit,Nat.zero_add]
    rw [List.getElem?_map,Option.map_eq_some_iff] at hj
    obtain ⟨t,ht,rfl⟩:=hj
    obtain ⟨h1,rfl⟩:=List.getElem?_eq_some_iff.1 ht
    simp only [List.length_range] at h1
    rw [List.getElem_range]
    exact H.cell (by omega)
  obtain ⟨G,hG⟩:∃ G,G=grownCap w (n+1) cap 66:=⟨_,rfl⟩
  obtain ⟨ROW,hROW⟩:∃ ROW:Array Value,ROW=((List.range (i * 3)).map fun t=>cur.getD t undef).toArray++Builtin.zeroCells z0.cells (n+1 - i)++Builtin.zeroCells z0.cells (G - (n+1)):=⟨_,rfl⟩
  have hrz:∀ ty,(Builtin.append_ #[107,3] ty #[.slice (some ⟨b,0,none⟩) i cap,.int .i64 ((n:Int)+1 - (i:Int))]).run Tryz.prog w =
      .ok (.slice (some ⟨w.heap.size,0,none⟩) (n+1) G) (w.drew.alloc (.cells ROW 66)):=fun ty=>by
    have h:=Lib.run_append_grow_zeros (P:=Tryz.prog) w 107 3 ty 66 i0 z0 .i64 .i64 Tryz.underlying107 Tryz.underlying3 hi0 hz0 (some ⟨b,0,none⟩) i cap _ hold (n+1 - i) (by omega) (by omega) (by omega) (by omega) (by rw [hb0]; omega) (by rw [hb0,hik]; exact growslice_fits hroom (by omega))
    rw [hik,← hG,← hROW] at h
    rw [hkk]
    exact h
  rw [← hG,← hROW]
  have hRl:(n+1) * 3≤ROW.size:=by
    rw [hROW]
    simp [Builtin.zeroCells,hzc]
    omega
  obtain ⟨W1,hW1⟩:∃ W1,W1=w.drew.alloc (.cells ROW 66):=⟨_,rfl⟩
  rw [← hW1] at hrz
  have hN:∀ j,j < (n+1) * 3→(W1.cell? ⟨w.heap.size,j,none⟩).isSome=true:=fun j hj=>by
    rw [hW1,World.cell?_alloc_at (w:=w.drew) ROW _ w.heap.size j rfl,Array.getElem?_eq_getElem (by omega)]; rfl
  have hNf:∀ j,W1.frozen? ⟨w.heap.size,j,none⟩=false:=fun j=>by rw [hW1]; exact World.frozen?_alloc_at (w:=w.drew) ROW _ w.heap.size j rfl
  have hOb:∀ j v,w.cell? ⟨b,j,none⟩=some v→W1.cell? ⟨b,j,none⟩=some v:=fun j v h=>by rw [hW1,World.cell?_alloc_past (w:=w.drew) _ b j hbw]; exact h
  have hOv:∀ j v,w.cell? ⟨vb,j,none⟩=some v→W1.cell? ⟨vb,j,none⟩=some v:=fun j v h=>by rw [hW1,World.cell?_alloc_past (w:=w.drew) _ vb j hvw]; exact h
  have hcpA:∀ (W:World),(∀ x,W.cell? x=W1.cell? x)→(∀ x,W.frozen? x=W1.frozen? x)→∀ ty dc,(Builtin.copy_ #[107,107] ty #[.slice (some ⟨w.heap.size,i * 3,none⟩) (n+1 - i) dc,.slice (some ⟨vb,vo,none⟩) 1 vc]).run Tryz.prog W=.ok (goInt (Nat.min 1 (n+1 - i))) (W.setCells w.heap.size (i * 3) [x 0,x 1,x 2]):=fun W hWc hWf ty dc =>
    run_copy_cellsK W 107 107 ty 66 3 w.heap.size (i * 3) (n+1 - i) dc ⟨vb,vo,none⟩ 1 vc [x 0,x 1,x 2] Tryz.underlying107 hsz (by simp only [Nat.min_def]; split <;> simp <;> omega)
      (fun j v hj=>by rw [Addr.add_lit,hWc]; exact hOv _ v (H.vs j v hj))
      (fun j hj=>by simp only [List.length_cons,List.length_nil] at hj; rw [hWc]; exact hN _ (by omega)) (fun j hj=>by rw [hWf]; exact hNf _) H.v1
  have hGn:n+1≤G:=by rw [hG]; exact grownCap_ge w _ _ _
  have hG63:G≤9223372036854775807:=by
    have:=grownCap_le_maxLen w (n+1) cap 66 (by unfold maxLen; omega)
    rw [← hG] at this
    unfold maxLen at this
    omega
  have hGi:¬ (G=i):=by omega
  have hGim:¬ (G=i+1):=by omega
  have hci:¬ (cap=i):=by omega
  have hbN:b≠w.heap.size:=by omega
  have hdl:(tailC n i cur).length=(n - i) * 3:=by simp
  have hcpB:∀ (W:World),(∀ y,W.cell? y=(W1.setCells w.heap.size (i * 3) [x 0,x 1,x 2]).cell? y)→(∀ y,W.frozen? y=(W1.setCells w.heap.size (i * 3) [x 0,x 1,x 2]).frozen? y)→∀ ty dc sc,(Builtin.copy_ #[107,107] ty #[.slice (some ⟨w.heap.size,(i+1) * 3,none⟩) (n - i) dc,.slice (some ⟨b,i * 3,none⟩) (n - i) sc]).run Tryz.prog W=.ok (goInt (Nat.min (n - i) (n - i))) (W.setCells w.heap.size ((i+1) * 3) (tailC n i cur)):=fun W hWc hWf ty dc sc =>
    run_copy_cellsK W 107 107 ty 66 3 w.heap.size ((i+1) * 3) (n - i) dc ⟨b,i * 3,none⟩ (n - i) sc (tailC n i cur) Tryz.underlying107 hsz (by rw [hdl]; congr 1; exact (Nat.min_self _).symm)
      (fun j v hj=>by
        rw [Addr.add_lit,hWc,World.cell?_setCells_out _ _ _ _ _ (fun h _=>absurd h hbN)]
        exact hOb _ v (H.tail j v hj))
      (fun j hj=>by rw [hWc]; exact isSome_setCells _ _ _ _ (fun t ht=>by simp only [List.length_cons,List.length_nil] at ht; exact hN _ (by omega)) _ (hN _ (by omega)))
      (fun j hj=>by rw [hWf,World.frozen?_setCells]; exact hNf _) H.tail1
  subst hW1
  have hE1:∀ x,((w.alloc (.cells ROW 66)).drew).cell? x=(w.drew.alloc (.cells ROW 66)).cell? x:=fun x=>rfl
  have hE2:∀ x,((w.alloc (.cells ROW 66)).drew).frozen? x=(w.drew.alloc (.cells ROW 66)).frozen? x:=fun x=>rfl
  have hF1:∀ y,(((w.alloc (.cells ROW 66)).drew.setCells w.heap.size (i * 3) [x 0,x 1,x 2]).drew).cell? y=((w.drew.alloc (.cells ROW 66)).setCells w.heap.size (i * 3) [x 0,x 1,x 2]).cell? y:=fun x=>rfl
  have hF2:∀ y,(((w.alloc (.cells ROW 66)).drew.setCells w.heap.size (i * 3) [x 0,x 1,x 2]).drew).frozen? y=((w.drew.alloc (.cells ROW 66)).setCells w.heap.size (i * 3) [x 0,x 1,x 2]).frozen? y:=fun x=>rfl
  have hw1:IntKind.i64.wrap ((i:Int)+1)=(i:Int)+1:=by rw [IntKind.wrap_i64]; omega
  have hw2:IntKind.i64.wrap ((n:Int)+1)=(n:Int)+1:=by rw [IntKind.wrap_i64]; omega
  have hw3:IntKind.i64.wrap ((n:Int)+1 - (i:Int))=(n:Int)+1 - (i:Int):=by rw [IntKind.wrap_i64]; omega
  have hb1:(0:Int)≤(i:Int)+1:=by omega
  have hin':i≤n:=by omega
  have htn:((i:Int)+1).toNat=i+1:=by omega
  have hb3:(i:Int)≤(n:Int):=by omega
  have mixed:Tryz.prog.follows Departure.mixedOrders=true:=by kernel_rfl
  clear hkk hik hold hROW hG hRl hi0 hs0 hb0 hz0 hzc hsz H
  go_enter Tryz.func232,Tryz.ntmps232
  go_wp2_with (first
    | (at_builtin; refine Lib.wpList_append_run _ rfl _ _ _ _ rfl _ _ rfl rfl _ _ (hrz _) ?_)
    | (at_builtin; refine wpList_copy_runI _ rfl _ _ 107 107 rfl _ _ rfl rfl (hcpA _ hE1 hE2 _ _) ?_)
    | (at_builtin; refine wpList_copy_runI _ rfl _ _ 107 107 rfl _ _ rfl rfl (hcpB _ (fun _=>rfl) (fun _=>rfl) _ _ _) ?_))
  go_region_law_o (refine step_copy_runI rfl _ _ 107 107 rfl (.slice (some ⟨w.heap.size,(i+1) * 3,none⟩) (n - i) (G - (i+1))) (.slice (some ⟨b,i * 3,none⟩) (n - i) (cap - i)) (by simp [Act.eval,Act.put]) (by simp [Act.eval,Act.put]) (hcpB _ hF1 hF2 3 (G - (i+1)) (cap - i)) ?_)
  go_wp2
  go_ret
  exact ⟨rfl,rfl⟩
end
theorem w3 (x:Nat→Value):∀ j,(hj:j < [x 0,x 1,x 2].length)→[x 0,x 1,x 2][j]=x j
  | 0,_=>rfl
  | 1,_=>rfl
  | 2,_=>rfl
theorem tailGet {n i:Nat} {cur:Array Value} (j:Nat) (hj:j < (tailC n i cur).length):(tailC n i cur)[j]=cur.getD (i * 3+j) undef:=by simp [tailC]
section
variable {b vb vo n i cap vc:Nat} {cur:Array Value} {x:Nat→Value} {w:World} (H:InsP b vb vo n i cap cur x w)
include H
theorem insW_end_room (hin:i=n) (hroom:n+1≤cap):InsW 3 n i b 66 cur x w (w.setCells b (n * 3) [x 0,x 1,x 2]) b cap:=by
  obtain ⟨⟨c',h1,h2⟩,h3,h4,h5⟩:=setCells_blk b [x 0,x 1,x 2] (n * 3) w cur 66 (0,0) H.hc
  refine ⟨⟨c',h1,by rw [h2,H.hsz]⟩,hroom,.inl rfl,by rw [h3]; exact Nat.le_refl _,fun d _ hd=>h4 d hd,h5,fun t ht=>?_⟩
  subst hin
  unfold insV
  by_cases h:t < i * 3
  · rw [if_pos h,World.cell?_setCells_out b _ _ _ _ (fun _ _=>.inl h)]
    exact H.cell (by have:=H.hnc; omega)
  · rw [if_neg h,if_pos (by omega)]
    have:=World.cell?_setCells_in b [x 0,x 1,x 2] (i * 3) w (fun j hj=>by rw [H.cell (by simp at hj; omega)]; rfl) (t - i * 3) (by simp; omega)
    rw [w3,show i * 3+(t - i * 3)=t by omega] at this
    exact this
theorem insW_end_grow (hin:i=n) {z:Value} (hz:z.cells.size=3):InsW 3 n i b 66 cur x w (w.drew.alloc (.cells ((((List.range (n * 3)).map fun t=>cur.getD t undef)++[x 0,x 1,x 2]).toArray++Builtin.zeroCells z.cells (grownCap w (n+1) cap 66 - (n+1))) 66)) w.heap.size (grownCap w (n+1) cap 66):=by
  have hge:=grownCap_ge w (n+1) cap 66
  subst hin
  refine ⟨⟨_,alc_new w.drew _,?_⟩,hge,.inr (Nat.le_refl _),?_,fun d hd _=>alc_old w.drew _ hd,⟨rfl,rfl,rfl,Nat.le_succ _⟩,fun t ht=>?_⟩
  · rw [Array.size_append,zeroCells_size,hz]; simp; omega
  · rw [alc_size]; exact Nat.le_succ _
  · rw [World.cell?_alloc_at (w:=w.drew) _ _ w.heap.size t rfl,Array.getElem?_append_left (by simp; omega)]
    simp only [List.getElem?_toArray,List.getElem?_append,List.length_map,List.length_range]
    unfold insV
    by_cases h:t < i * 3
    · rw [if_pos h,if_pos h,List.getElem?_map,List.getElem?_range h]; rfl
    · rw [if_neg h,if_neg h,if_pos (by omega),List.getElem?_eq_getElem (by simp; omega),w3]
theorem insW_shift (hin:i < n) (hroom:n+1≤cap):InsW 3 n i b 66 cur x w ((w.drew.setCells b ((i+1) * 3) (tailC n i cur)).setCells b (i * 3) [x 0,x 1,x 2]) b cap:=by
  obtain ⟨⟨c1,h1,h2⟩,h3,h4,h5⟩:=setCells_blk b (tailC n i cur) ((i+1) * 3) w.drew cur 66 (0,0) H.hc
  obtain ⟨⟨c',g1,g2⟩,g3,g4,g5⟩:=setCells_blk b [x 0,x 1,x 2] (i * 3) (w.drew.setCells b ((i+1) * 3) (tailC n i cur)) c1 66 (0,0) h1
  have hdl:(tailC n i cur).length=(n - i) * 3:=by simp
  have hs1:c1.size=cap * 3:=by rw [h2,H.hsz]
  refine ⟨⟨c',g1,by rw [g2,hs1]⟩,hroom,.inl rfl,by rw [g3,h3]; exact Nat.le_refl _,fun d _ hd=>by rw [g4 d hd,h4 d hd]; rfl,?_,fun t ht=>?_⟩
  · have h0:Still w w.drew:=⟨rfl,rfl,rfl,Nat.le_succ _⟩
    exact h0.trans (h5.trans g5)
  · unfold insV
    have cw:∀ t,t < cap * 3→w.drew.cell? ⟨b,t,none⟩=some (cur.getD t undef):=fun t ht=>H.cell ht
    by_cases h:t < i * 3
    · rw [if_pos h,World.cell?_setCells_out b _ _ _ _ (fun _ _=>.inl h),World.cell?_setCells_out b _ _ _ _ (fun _ _=>.inl (show t < (i+1) * 3 by omega))]
      exact cw _ (by omega)
    · rw [if_neg h]
      by_cases h':t < i * 3+3
      · rw [if_pos h']
        have:=World.cell?_setCells_in b [x 0,x 1,x 2] (i * 3) (w.drew.setCells b ((i+1) * 3) (tailC n i cur)) (fun j hj=>by rw [cell_of h1 (by simp at hj; omega)]; rfl) (t - i * 3) (by simp; omega)
        rw [w3,show i * 3+(t - i * 3)=t by omega] at this
        exact this
      · rw [if_neg h',World.cell?_setCells_out b _ _ _ _ (fun _ _=>.inr (show i * 3+3≤t by omega))]
        have:=World.cell?_setCells_in b (tailC n i cur) ((i+1) * 3) w.drew (fun j hj=>by rw [cw _ (by rw [hdl] at hj; omega)]; rfl) (t - (i+1) * 3) (by rw [hdl]; omega)
        rw [tailGet,show (i+1) * 3+(t - (i+1) * 3)=t by omega,show i * 3+(t - (i+1) * 3)=t - 3 by omega] at this
        exact this
theorem insW_grow (hin:i < n) {z:Value} (hz:z.cells.size=3):InsW 3 n i b 66 cur x w ((((w.alloc (.cells (((List.range (i * 3)).map fun t=>cur.getD t undef).toArray++Builtin.zeroCells z.cells (n+1 - i)++Builtin.zeroCells z.cells (grownCap w (n+1) cap 66 - (n+1))) 66)).drew.setCells w.heap.size (i * 3) [x 0,x 1,x 2]).drew).setCells w.heap.size ((i+1) * 3) (tailC n i cur)) w.heap.size (grownCap w (n+1) cap 66):=by
  have _h:=H
  have hge:=grownCap_ge w (n+1) cap 66
  obtain ⟨ROW,hROW⟩:∃ ROW:Array Value,ROW=((List.range (i * 3)).map fun t=>cur.getD t undef).toArray++Builtin.zeroCells z.cells (n+1 - i)++Builtin.zeroCells z.cells (grownCap w (n+1) cap 66 - (n+1)):=⟨_,rfl⟩
  rw [← hROW]
  have hsz:ROW.size=grownCap w (n+1) cap 66 * 3:=by rw [hROW,Array.size_append,Array.size_append,zeroCells_size,zeroCells_size,hz]; simp; omega
  have hb0:(w.alloc (.cells ROW 66)).drew.heap[w.heap.size]?=some (.cells ROW 66 (0,0)):=alc_new w _
  have hdl:(tailC n i cur).length=(n - i) * 3:=by simp
  obtain ⟨⟨c1,h1,h2⟩,h3,h4,h5⟩:=setCells_blk w.heap.size [x 0,x 1,x 2] (i * 3) (w.alloc (.cells ROW 66)).drew ROW 66 (0,0) hb0
  obtain ⟨⟨c',g1,g2⟩,g3,g4,g5⟩:=setCells_blk w.heap.size (tailC n i cur) ((i+1) * 3) ((w.alloc (.cells ROW 66)).drew.setCells w.heap.size (i * 3) [x 0,x 1,x 2]).drew c1 66 (0,0) h1
  refine ⟨⟨c',g1,by rw [g2,h2,hsz]⟩,hge,.inr (Nat.le_refl _),?_,fun d hd _=>?_,?_,fun t ht=>?_⟩
  · rw [g3]; show _≤(World.setCells _ _ _ _).heap.size; rw [h3]; show _≤(w.alloc _).heap.size; rw [alc_size]; exact Nat.le_succ _
  · have hd':d≠w.heap.size:=Nat.ne_of_lt hd
    rw [g4 d hd']
    show (World.setCells _ _ _ _).heap[d]?=_
    rw [h4 d hd']
    exact alc_old w _ hd
  · have s0:Still w (w.alloc (.cells ROW 66)).drew:=⟨rfl,rfl,rfl,Nat.le_succ _⟩
    have s1:∀ v:World,Still v v.drew:=fun v=>⟨rfl,rfl,rfl,Nat.le_succ _⟩
    exact s0.trans (h5.trans ((s1 _).trans g5))
  · unfold insV
    by_cases h:t < i * 3
    · rw [if_pos h,World.cell?_setCells_out _ _ _ _ _ (fun _ _=>.inl (show t < (i+1) * 3 by omega))]
      show (World.setCells _ _ _ _).cell? _=_
      rw [World.cell?_setCells_out _ _ _ _ _ (fun _ _=>.inl h)]
      show (w.alloc _).cell? _=_
      rw [World.cell?_alloc_at _ _ w.heap.size t rfl,hROW,Array.append_assoc,Array.getElem?_append_left (by simp; exact h)]
      simp only [List.getElem?_toArray,List.getElem?_map,List.getElem?_range h]; rfl
    · rw [if_neg h]
      by_cases h':t < i * 3+3
      · rw [if_pos h',World.cell?_setCells_out _ _ _ _ _ (fun _ _=>.inl (show t < (i+1) * 3 by omega))]
        have:=World.cell?_setCells_in w.heap.size [x 0,x 1,x 2] (i * 3) (w.alloc (.cells ROW 66)).drew (fun j hj=>by rw [cell_of hb0 (by simp at hj; omega)]; rfl) (t - i * 3) (by simp; omega)
        rw [w3,show i * 3+(t - i * 3)=t by omega] at this
        exact this
      · rw [if_neg h']
        have:=World.cell?_setCells_in w.heap.size (tailC n i cur) ((i+1) * 3) ((w.alloc (.cells ROW 66)).drew.setCells w.heap.size (i * 3) [x 0,x 1,x 2]).drew (fun j hj=>by
          have:((w.alloc (.cells ROW 66)).drew.setCells w.heap.size (i * 3) [x 0,x 1,x 2]).drew.cell? ⟨w.heap.size,(i+1) * 3+j,none⟩=_:=cell_of h1 (by rw [h2,hsz]; rw [hdl] at hj; omega)
          rw [this]; rfl) (t - (i+1) * 3) (by rw [hdl]; omega)
        rw [tailGet,show (i+1) * 3+(t - (i+1) * 3)=t by omega,show i * 3+(t - (i+1) * 3)=t - 3 by omega] at this
        exact this
theorem ins_calls:Calls Tryz.prog 232 #[.slice (some ⟨b,0,none⟩) n cap,.int .i64 i,.slice (some ⟨vb,vo,none⟩) 1 vc] w fun e w' =>
    ∃ b' cap',e=.returned (.slice (some ⟨b',0,none⟩) (n+1) cap')∧InsW 3 n i b 66 cur x w w' b' cap':=by
  rcases Nat.lt_or_ge i n with hin | hin
  · rcases Nat.lt_or_ge cap (n+1) with hroom | hroom
    · obtain ⟨z,hz,h⟩:=ins_grow (vc:=vc) H hin hroom
      exact h.mono fun e w' ⟨h1,h2⟩=>⟨_,_,h1,h2 ▸ insW_grow H hin hz⟩
    · exact (ins_shift (vc:=vc) H hin hroom).mono fun e w' ⟨h1,h2⟩=>⟨_,_,h1,h2 ▸ insW_shift H hin hroom⟩
  · have hi:i=n:=by have:=H.hi; omega
    rcases Nat.lt_or_ge cap (n+1) with hroom | hroom
    · obtain ⟨z,hz,h⟩:=ins_end_grow (vc:=vc) H hi hroom
      rw [show (i:Int)=(n:Int) by omega]
      exact h.mono fun e w' ⟨h1,h2⟩=>⟨_,_,h1,h2 ▸ insW_end_grow H hi hz⟩
    · rw [show (i:Int)=(n:Int) by omega]
      exact (ins_end_room (vc:=vc) H hi hroom).mono fun e w' ⟨h1,h2⟩=>⟨_,_,h1,h2 ▸ insW_end_room H hi hroom⟩
end
theorem insert_does (σ:Sto) (f:Nat) (l:List Hgt) (h:Hgt) (i:Nat) (hf:σ.at f 0=some ⟨66,3,l.map Hgt.cs,none⟩) (hn0:0 < l.length) (hi:i≤l.length) (hl:l.length < 1000000) :
    Does Tryz.prog 232 [.own f 0 l.length,n i,.sl 3 [h.cs]] σ (fun r σ'=>r=.own f 0 (l.length+1)∧σ'=σ.upd f 0 ⟨66,3,(l.map Hgt.cs).take i++h.cs::(l.map Hgt.cs).drop i,none⟩):=by
  refine ⟨Tryz.call232,fun X β w xs hX hsr hlen hr=>?_⟩
  match xs,hlen with
  | [x,y,z],_ =>
    have hx:=hr 0 (by simp)
    have hy:=(hr 1 (by simp)).inv_v
    have hz:=hr 2 (by simp)
    simp only [List.getD_cons_zero,List.getD_cons_succ] at hx hy hz
    subst hy
    have hob:=hsr.obj f 0 _ hf
    have hml:(l.map Hgt.cs).length=l.length:=List.length_map _
    cases hx with
    | own _ _ _ _ h1c hflt hle h0 =>
      have h':=h0 _ hf hml
      unfold OwnSl at h'
      cases hbf:β f 0 with
      | none =>
        rw [hbf] at h'
        have h2:l.map Hgt.cs=[]:=h'.1
        rw [h2] at hml
        simp only [List.length_nil] at hml
        omega
      | some b =>
        rw [hbf] at h' hob
        obtain ⟨cap,c0,T0,rfl,hc0,hcs0⟩:=h'
        obtain ⟨c,hc1,hsz,hone,hrv⟩:=hob.2.1 rfl
        rw [hc1] at hc0; injection hc0 with hc0; injection hc0 with hc0 _; subst hc0
        simp only [hml] at hsz hone hrv hcs0 ⊢
        have hzz:∃ vb vo vc,∃ x:Nat→Value,z=.slice (some ⟨vb,vo,none⟩) 1 vc∧(∀ j,j < 3→w.cell? ⟨vb,vo+j,none⟩=some (x j))∧¬ Xt X β σ vb∧(∀ j,j < 3→(x j).oneCell'=true)∧∀ j,j < 3→RV w (Xt X β σ) β σ (h.cs.getD j .any) (x j):=by
          cases hz with
          | sl _ _ vb vo vc x hcap hk hc hX1 h1 hr3 =>
            exact ⟨vb,vo,vc,x 0,rfl,fun j hj=>by have:=hc 0 (by simp) j hj; simpa using this,hX1 0 0 (by simp) (by omega),fun j hj=>h1 0 j (by simp) hj,fun j hj=>by have:=hr3 0 j (by simp) hj; simpa using this⟩
        obtain ⟨vb,vo,vc,xv,rfl,hv1,hvX,hv2,hv3⟩:=hzz
        have hle:l.length≤cap:=by omega
        have P:InsP b vb vo l.length i cap c xv w:=⟨hc1,hcs0,hle,hn0,hl,hi,fun e=>hvX (.inr ⟨f,0,_,hf,by rw [hbf,e]⟩),hv1,fun t ht=>by
          have:=hone (t / 3) (t % 3) (by omega) (by omega)
          rwa [show t / 3 * 3+t % 3=t by omega] at this,hv2⟩
        refine callsIn_wide.2 ((ins_calls (vc:=vc) P).mono ?_)
        rintro e w' ⟨b',cap',rfl,I⟩
        obtain ⟨β',S,hres,hext,hkp⟩:=ins_own hsr hX hf hbf hc1 hml hi rfl hv2 hv3 I
        exact ⟨_,_,_,_,rfl,⟨rfl,rfl⟩,S,hres,hext,hkp⟩
end Go.Proofs.YtolgelipcgcbhaaGreat
namespace Go.Abs
set_option linter.unusedVariables false
set_option linter.unusedSimpArgs false
theorem nm_inj:∀ {S:List Nt},(S.map Nt.nm).Nodup→∀ {a b:Nt},a∈S→b∈S→a.nm=b.nm→a=b
  | [],_,_,_,h,_,_=>by cases h
  | x::r,hn,a,b,ha,hb,e=>by
    rw [List.map_cons,List.nodup_cons] at hn
    rcases List.mem_cons.1 ha with rfl | ha' <;> rcases List.mem_cons.1 hb with rfl | hb'
    · rfl
    · exact absurd (List.mem_map.2 ⟨b,hb',e.symm⟩) hn.1
    · exact absurd (List.mem_map.2 ⟨a,ha',e⟩) hn.1
    · exact nm_inj hn.2 ha' hb' e
def fq (S:List Nt) (q:Nt→Bool) (m:Nm):Option Nt:=S.find? fun a=>decide (a.nm=m) && q a
theorem fq_some {S:List Nt} (hn:(S.map Nt.nm).Nodup) {q:Nt→Bool} {m:Nm} {a:Nt}:fq S q m=some a↔a∈S∧a.nm=m∧q a=true:=by
  constructor
  · intro h
    have h1:=List.find?_some h
    simp only [Bool.and_eq_true,decide_eq_true_eq] at h1
    exact ⟨List.mem_of_find?_eq_some h,h1.1,h1.2⟩
  · rintro ⟨h1,h2,h3⟩
    cases h:fq S q m with
    | none =>
      have:=List.find?_eq_none.1 h a h1
      simp [h2,h3] at this
    | some b =>
      have h4:=List.find?_some h
      simp only [Bool.and_eq_true,decide_eq_true_eq] at h4
      rw [nm_inj hn (List.mem_of_find?_eq_some h) h1 (h4.1.trans h2.symm)]
theorem fq_none {S:List Nt} {q:Nt→Bool} {m:Nm}:fq S q m=none↔∀ a∈S,a.nm=m→q a=false:=by
  unfold fq
  rw [List.find?_eq_none]
  constructor
  · intro h a ha e
    have:=h a ha
    simpa [e] using this
  · intro h a ha
    have:=h a ha
    by_cases e:a.nm=m
    · simp [e,this e]
    · simp [e]
theorem fq_snoc {p:List Nt} {q:Nt→Bool} {a:Nt} (h:a.nm ∉ p.map Nt.nm) (m:Nm):fq (p++[a]) q m=if m=a.nm then (if q a then some a else none) else fq p q m:=by
  unfold fq
  rw [List.find?_append]
  by_cases e:m=a.nm
  · rw [if_pos e]
    have:fq p q m=none:=fq_none.2 fun x hx hxm=>absurd (List.mem_map.2 ⟨x,hx,hxm.trans e⟩) h
    unfold fq at this
    rw [this]
    cases hq:q a <;> simp [e,hq]
  · rw [if_neg e]
    have e':¬ a.nm=m:=fun h=>e h.symm
    simp [e']
theorem fq_out {p:List Nt} {q:Nt→Bool} {a:Nt} (h:a.nm ∉ p.map Nt.nm):fq p q a.nm=none:=fq_none.2 fun x hx hxm=>absurd (List.mem_map.2 ⟨x,hx,hxm⟩) h
theorem fq_ext {S T:List Nt} (hS:(S.map Nt.nm).Nodup) (hT:(T.map Nt.nm).Nodup) {q r:Nt→Bool} (h:∀ a,(a∈S∧q a=true)↔(a∈T∧r a=true)) (m:Nm):fq S q m=fq T r m:=by
  apply Option.ext
  intro a
  rw [fq_some hS,fq_some hT]
  have:=h a
  constructor
  · rintro ⟨h1,h2,h3⟩; exact ⟨(this.1 ⟨h1,h3⟩).1,h2,(this.1 ⟨h1,h3⟩).2⟩
  · rintro ⟨h1,h2,h3⟩; exact ⟨(this.2 ⟨h1,h3⟩).1,h2,(this.2 ⟨h1,h3⟩).2⟩
theorem foldl_pre {α β:Type} {G:α→β→α} (I:List β→α→Prop) {l:List β} {x:α} (h:∀ p a s x,l=p++a::s→I p x→I (p++[a]) (G x a)) (h0:I [] x):I l (l.foldl G x):=by
  have key:∀ (s p:List β) (x:α),l=p++s→I p x→I l (s.foldl G x):=by
    intro s
    induction s with
    | nil=>intro p x e hx; rw [List.append_nil] at e; rw [e]; exact hx
    | cons a s ih=>intro p x e hx; exact ih (p++[a]) (G x a) (by simpa using e) (h p a s x e hx)
  exact key l [] x rfl h0
def kd (k:Int):Nt→Bool:=fun a=>decide (a.kind=k)
abbrev shN (S:List Nt):Nm→Option Nt:=fq S (kd 1)
def colT (s:Nt) (c:Int):Bool:=decide (c≤(s.sheet.rates.length:Int))
def mkd (S:List Nt) (a:Nt):Bool:=match shN S a.ref with
  | none=>false
  | some s=>colT s a.mark.col
def bef (S:List Nt) (a:Nt):List Nt:=S.takeWhile fun x=>decide (x.nm≠a.nm)
def onT (m:Nm):Nt→Bool:=fun x=>decide (x.ref=m)
def cnt (S:List Nt) (a:Nt):Bool:=mkd S a && decide (((bef S a).filter fun x=>kd 2 x && (onT a.ref x && mkd S x)).length < 64)
def corr (S:List Nt) (a:Nt):Bool:=match fq S (fun _=>true) a.ref with
  | none=>false
  | some k=>if a.read.stn≠0 then kd 3 k else kd 2 k && (cnt S k && (match shN S k.ref with
    | none=>false
    | some s=>colT s a.mark.col))
def knw (S:List Nt) (a:Nt):Nt:=((S.filter fun k=>kd 6 k && (onT a.nm k && corr S k)).getLast?).getD a
def flg (S:List Nt) (a:Nt):Nt:=((S.filter fun k=>kd 5 k && onT a.nm k).getLast?).getD a
def mks (S:List Nt) (m:Nm):List Nt:=S.filter fun k=>kd 2 k && (onT m k && cnt S k)
def fld (S:List Nt) (a:Nt):Fld:=⟨a.nm,(flg S a).stn,(flg S a).week,a.sheet,(mks S a.nm).map fun k=>(knw S k).mark,(mks S a.nm).map Nt.nm⟩
def entR (S:List Nt) (rs:List Fld) (a:Nt):List Fld:=if (sheetAt rs (fld S a).stn (fld S a).week).isSome then rs else rs++[fld S a]
def takenB (S:List Nt) (rs:List Fld) (a:Nt):Bool:=(sheetAt rs (fld S a).stn (fld S a).week).isSome
def shsR (S T:List Nt):List Fld:=(T.filter (kd 1)).foldl (entR S) []
def movR (st:List Stn) (a:Nt):Stn × Int:=moveE (st.getD (stnOf st a.stn).1 default) a.height
def raiR (st:List Stn) (a:Nt):List Stn:=if (movR st a).2≠0 then st else st.set (stnOf st a.stn).1 (movR st a).1
def stsR (st:List Stn) (T:List Nt):List Stn:=(T.filter (kd 4)).foldl raiR st
def badS (b:Bse) (S:List Nt) (a:Nt):Bool :=
  if a.kind=1 then takenB S (shsR S (bef S a)) a
  else if a.kind=2 then !cnt S a
  else if a.kind=4 then decide ((movR (stsR b.stns (bef S a)) a).2≠0)
  else if a.kind=5 then (shN S a.ref).isNone
  else if a.kind=6 then !corr S a
  else false
def badR (b:Bse) (l:List Nt) (a:Nt):Bool :=
  if a.kind=7 then (match fq l (fun _=>true) a.ref with
    | none=>true
    | some m=>decide (m.kind=7))
  else !goneT l a.nm && badS b (Zf l) a
def refT (b:Bse) (l:List Nt):Rgr :=
  let S:=Zf l
  ⟨shsR S S,(S.filter (kd 3)).map fun a=>(knw S a).read,stsR b.stns S,(l.filter (badR b l)).map Nt.nm⟩
theorem bef_app {u v:List Nt} {a:Nt} (h:((u++a::v).map Nt.nm).Nodup):bef (u++a::v) a=u:=by
  unfold bef
  rw [List.takeWhile_append_of_pos]
  · simp
  · intro x hx
    rw [decide_eq_true_eq]
    intro e
    rw [List.map_append,List.nodup_append] at h
    exact h.2.2 _ (List.mem_map.2 ⟨x,hx,rfl⟩) _ (List.mem_map.2 ⟨a,by simp,rfl⟩) e
theorem filter_split {S p s:List Nt} {q:Nt→Bool} {a:Nt} (h:S.filter q=p++a::s):∃ u v,S=u++a::v∧u.filter q=p∧v.filter q=s∧q a=true:=by
  obtain ⟨l1,l2,h1,h2,h3⟩:=List.filter_eq_append_iff.1 h
  obtain ⟨l3,l4,h4,h5,h6,h7⟩:=List.filter_eq_cons_iff.1 h3
  refine ⟨l1++l3,l4,by rw [h1,h4]; simp,?_,h7,h6⟩
  rw [List.filter_append,h2,List.filter_eq_nil_iff.2 h5,List.append_nil]
theorem bef_filter {S p s:List Nt} {q:Nt→Bool} {a:Nt} (hn:(S.map Nt.nm).Nodup) (h:S.filter q=p++a::s):(bef S a).filter q=p∧a∈S∧q a=true:=by
  obtain ⟨u,v,rfl,h2,h3,h4⟩:=filter_split h
  rw [bef_app hn]
  exact ⟨h2,by simp,h4⟩
theorem nodup_pre {S p s:List Nt} {q:Nt→Bool} {a:Nt} (hn:(S.map Nt.nm).Nodup) (h:S.filter q=p++a::s):a.nm ∉ p.map Nt.nm:=by
  have h1:((S.filter q).map Nt.nm).Nodup:=hn.sublist (List.filter_sublist.map _)
  rw [h,List.map_append,List.nodup_append] at h1
  intro hm
  exact h1.2.2 _ hm _ (List.mem_map.2 ⟨a,by simp,rfl⟩) rfl
theorem last_snoc {α:Type} (p:List α) (q:α→Bool) (a d:α):(((p++[a]).filter q).getLast?).getD d=if q a then a else ((p.filter q).getLast?).getD d:=by
  rw [List.filter_append]
  cases h:q a <;> simp [h]
theorem clash_eq {al:List (Nm × Nt)} {x:Fs} {a:Nt} (h:a.kind≠7):clashF al x a={ x with confl:=kset x.confl a.nm true }:=by
  unfold clashF
  rw [if_neg (fun e=>h e.1)]
theorem mem_snoc {α:Type} {p:List α} {a x:α}:x∈p++[a]↔x∈p∨x=a:=by simp
theorem ff {α:Type} (q r:α→Bool) (l:List α):(l.filter q).filter r=l.filter fun x=>q x && r x:=by
  rw [List.filter_filter]; congr 1; funext x; exact Bool.and_comm ..
theorem fq_filter {S:List Nt} (hn:(S.map Nt.nm).Nodup) {q r:Nt→Bool} (m:Nm):fq (S.filter q) r m=fq S (fun a=>q a && r a) m :=
  fq_ext (hn.sublist (List.filter_sublist.map _)) hn (fun a=>by simp [List.mem_filter,and_assoc]) m
theorem fq_of {S:List Nt} (hn:(S.map Nt.nm).Nodup) (q:Nt→Bool) {m:Nm} {o:Option Nt} (h:fq S (fun _=>true) m=o):fq S q m=match o with
    | none=>none
    | some k=>if q k then some k else none:=by
  cases o with
  | none =>
    rw [fq_none] at h
    exact fq_none.2 fun a ha e=>absurd (h a ha e) (by simp)
  | some k =>
    rw [fq_some hn] at h
    by_cases hq:q k=true
    · simp only [hq,if_true]; exact (fq_some hn).2 ⟨h.1,h.2.1,hq⟩
    · simp only [hq,Bool.false_eq_true,if_false]
      exact fq_none.2 fun a ha e=>by rw [nm_inj hn ha h.1 (e.trans h.2.1.symm)]; simpa using hq
theorem fq_self {S:List Nt} (hn:(S.map Nt.nm).Nodup) {q:Nt→Bool} {a:Nt} (h:a∈S) (hq:q a=true):fq S q a.nm=some a:=(fq_some hn).2 ⟨h,rfl,hq⟩
theorem kd_iff {k:Int} {a:Nt}:kd k a=true↔a.kind=k:=by simp [kd]
theorem kd_ff {k:Int} {a:Nt}:kd k a=false↔a.kind≠k:=by simp [kd]
def clS (C:List (Nm × Bool)) (P:Nm→Prop):Prop:=∀ m,kget C m=some true↔P m
theorem clS.set {C:List (Nm × Bool)} {P:Nm→Prop} (h:clS C P) (k:Nm):clS (kset C k true) fun m=>m=k∨P m:=fun m=>by
  rw [kget_kset]
  by_cases e:m=k
  · simp [e]
  · simp [e,h m]
theorem clS.cg {C:List (Nm × Bool)} {P Q:Nm→Prop} (h:clS C P) (e:∀ m,P m↔Q m):clS C Q:=fun m=>(h m).trans (e m)
theorem begin_ref (b:Bse) {S:List Nt} (hn:(S.map Nt.nm).Nodup):∃ x:Fs,(S.filter fun a=>kd 1 a || kd 3 a).foldl beginF (fs0 b)=x∧(∀ m,kget x.sheets m=shN S m)∧(∀ m,kget x.filed m=(shN S m).map fun s=>(s.stn,s.week)) ∧
    (∀ m,kget x.reads m=(fq S (kd 3) m).map Nt.read)∧x.marks=[]∧x.marked=[]∧x.on=[]∧x.confl=[]∧x.rs=[]∧x.rr=[]∧x.st=b.stns:=by
  have key:=foldl_pre (G:=beginF) (l:=S.filter fun a=>kd 1 a || kd 3 a) (x:=fs0 b) (fun p x=>(∀ m,kget x.sheets m=fq p (kd 1) m)∧(∀ m,kget x.filed m=(fq p (kd 1) m).map fun s=>(s.stn,s.week)) ∧
    (∀ m,kget x.reads m=(fq p (kd 3) m).map Nt.read)∧x.marks=[]∧x.marked=[]∧x.on=[]∧x.confl=[]∧x.rs=[]∧x.rr=[]∧x.st=b.stns) ?_ ?_
  · refine ⟨_,rfl,?_⟩
    obtain ⟨h1,h2,h3,h4⟩:=key
    have e1:∀ m,fq (S.filter fun a=>kd 1 a || kd 3 a) (kd 1) m=fq S (kd 1) m:=fun m=>by
      rw [fq_filter hn]; exact fq_ext hn hn (fun a=>by cases kd 1 a <;> simp) m
    have e3:∀ m,fq (S.filter fun a=>kd 1 a || kd 3 a) (kd 3) m=fq S (kd 3) m:=fun m=>by
      rw [fq_filter hn]; exact fq_ext hn hn (fun a=>by cases kd 3 a <;> simp) m
    exact ⟨fun m=>(h1 m).trans (e1 m),fun m=>by rw [h2 m,e1 m],fun m=>by rw [h3 m,e3 m],h4⟩
  · rintro p a s x h ⟨h1,h2,h3,h4⟩
    have out:=nodup_pre hn h
    obtain ⟨_,_,hq⟩:=bef_filter hn h
    unfold beginF
    by_cases hk:a.kind=3
    · rw [if_pos hk]
      have k1:kd 1 a=false:=by simp [kd,hk]
      have k3:kd 3 a=true:=by simp [kd,hk]
      refine ⟨fun m=>?_,fun m=>?_,fun m=>?_,h4⟩
      · rw [fq_snoc out,k1]
        by_cases e:m=a.nm
        · rw [if_pos e,h1,e,fq_out out]; rfl
        · rw [if_neg e]; exact h1 m
      · rw [fq_snoc out,k1]
        by_cases e:m=a.nm
        · rw [if_pos e,h2,e,fq_out out]; rfl
        · rw [if_neg e]; exact h2 m
      · rw [fq_snoc out,k3,kget_kset]
        by_cases e:m=a.nm
        · rw [if_pos e,if_pos e]; rfl
        · rw [if_neg e,if_neg e]; exact h3 m
    · rw [if_neg hk]
      have k3:kd 3 a=false:=kd_ff.2 hk
      have k1:kd 1 a=true:=by simpa [k3] using hq
      refine ⟨fun m=>?_,fun m=>?_,fun m=>?_,h4⟩
      · rw [fq_snoc out,k1,kget_kset]
        by_cases e:m=a.nm
        · rw [if_pos e,if_pos e]; rfl
        · rw [if_neg e,if_neg e]; exact h1 m
      · rw [fq_snoc out,k1,kget_kset]
        by_cases e:m=a.nm
        · rw [if_pos e,if_pos e]; rfl
        · rw [if_neg e,if_neg e]; exact h2 m
      · rw [fq_snoc out,k3]
        by_cases e:m=a.nm
        · rw [if_pos e,h3,e,fq_out out]; rfl
        · rw [if_neg e]; exact h3 m
  · exact ⟨fun _=>rfl,fun _=>rfl,fun _=>rfl,rfl,rfl,rfl,rfl,rfl,rfl,rfl⟩
theorem file_ref (al:List (Nm × Nt)) {S:List Nt} (hn:(S.map Nt.nm).Nodup) (x1:Fs) (P:Nm→Prop) (hs:∀ m,kget x1.sheets m=shN S m) (hf:∀ m,kget x1.filed m=(shN S m).map fun s=>(s.stn,s.week)) (hc:clS x1.confl P) :
    ∃ F C,(S.filter (kd 5)).foldl (fileF al) x1={ x1 with filed:=F,confl:=C }∧(∀ m,kget F m=(shN S m).map fun s=>((flg S s).stn,(flg S s).week))∧clS C fun m=>P m∨∃ a∈S,a.kind=5∧shN S a.ref=none∧a.nm=m:=by
  have key:=foldl_pre (G:=fileF al) (l:=S.filter (kd 5)) (x:=x1) (fun p x=>∃ F C,x={ x1 with filed:=F,confl:=C } ∧
    (∀ m,kget F m=(shN S m).map fun s=>((((p.filter (onT m)).getLast?).getD s).stn,(((p.filter (onT m)).getLast?).getD s).week))∧clS C fun m=>P m∨∃ a∈p,shN S a.ref=none∧a.nm=m) ?_ ?_
  · obtain ⟨F,C,h1,h2,h3⟩:=key
    refine ⟨F,C,h1,fun m=>?_,h3.cg fun m=>?_⟩
    · rw [h2 m]
      cases h:shN S m with
      | none=>rfl
      | some s =>
        have:=(fq_some hn).1 h
        simp only [Option.map_some,flg,this.2.1,ff]
    · simp only [List.mem_filter,kd_iff,and_assoc]
  · rintro p a s x h ⟨F,C,rfl,h2,h3⟩
    obtain ⟨_,hm,hq⟩:=bef_filter hn h
    have hk:a.kind≠7:=by rw [kd_iff.1 hq]; decide
    unfold fileF
    simp only [hs]
    cases ha:shN S a.ref with
    | none =>
      simp only
      rw [clash_eq hk]
      refine ⟨F,_,rfl,fun m=>?_,(h3.set a.nm).cg fun m=>?_⟩
      · rw [h2 m]
        by_cases e:a.ref=m
        · subst e; rw [ha]; rfl
        · simp only [last_snoc,onT,e,decide_false,Bool.false_eq_true,if_false]
      · simp only [mem_snoc]
        constructor
        · rintro (rfl | h | ⟨c,h1,h2⟩)
          · exact .inr ⟨a,.inr rfl,ha,rfl⟩
          · exact .inl h
          · exact .inr ⟨c,.inl h1,h2⟩
        · rintro (h | ⟨c,h1 | rfl,h2,h3⟩)
          · exact .inr (.inl h)
          · exact .inr (.inr ⟨c,h1,h2,h3⟩)
          · exact .inl h3.symm
    | some s0 =>
      simp only
      refine ⟨_,C,rfl,fun m=>?_,h3.cg fun m=>?_⟩
      · rw [kget_kset]
        by_cases e:a.ref=m
        · subst e
          simp only [if_true,ha,Option.map_some,last_snoc,onT,decide_true]
        · have e':¬ m=a.ref:=fun h=>e h.symm
          rw [if_neg e',h2 m]
          simp only [last_snoc,onT,e,decide_false,Bool.false_eq_true,if_false]
      · simp only [mem_snoc]
        constructor
        · rintro (h | ⟨c,h1,h2⟩)
          · exact .inl h
          · exact .inr ⟨c,.inl h1,h2⟩
        · rintro (h | ⟨c,h1 | rfl,h2,h3⟩)
          · exact .inl h
          · exact .inr ⟨c,h1,h2,h3⟩
          · rw [ha] at h2; cases h2
  · exact ⟨x1.filed,x1.confl,rfl,fun m=>by rw [hf m]; rfl,hc.cg fun m=>by simp⟩
theorem mark_ref (al:List (Nm × Nt)) {S:List Nt} (hn:(S.map Nt.nm).Nodup) (x2:Fs) (P:Nm→Prop) (hs:∀ m,kget x2.sheets m=shN S m) (h1:x2.marks=[]) (h2:x2.marked=[]) (h3:x2.on=[]) (hc:clS x2.confl P) :
    ∃ M K O C,(S.filter (kd 2)).foldl (markF al) x2={ x2 with marks:=M,marked:=K,on:=O,confl:=C }∧(∀ m,(kget M m).getD []=(mks S m).map Nt.nm)∧(∀ m,kget K m=(fq S (fun a=>kd 2 a && cnt S a) m).map Nt.mark) ∧
      (∀ m,kget O m=(fq S (fun a=>kd 2 a && cnt S a) m).map Nt.ref)∧clS C fun m=>P m∨∃ a∈S,a.kind=2∧cnt S a=false∧a.nm=m:=by
  have key:=foldl_pre (G:=markF al) (l:=S.filter (kd 2)) (x:=x2) (fun p x=>∃ M K O C,x={ x2 with marks:=M,marked:=K,on:=O,confl:=C }∧(∀ m,(kget M m).getD []=(p.filter fun k=>onT m k && cnt S k).map Nt.nm) ∧
    (∀ m,kget K m=(fq p (cnt S) m).map Nt.mark)∧(∀ m,kget O m=(fq p (cnt S) m).map Nt.ref)∧(clS C fun m=>P m∨∃ a∈p,cnt S a=false∧a.nm=m) ∧
    (∀ m,(p.filter fun k=>onT m k && cnt S k).length=min 64 (p.filter fun k=>onT m k && mkd S k).length)) ?_ ?_
  · obtain ⟨M,K,O,C,g1,g2,g3,g4,g5,_⟩:=key
    refine ⟨M,K,O,C,g1,fun m=>?_,fun m=>?_,fun m=>?_,g5.cg fun m=>?_⟩
    · rw [g2 m,ff]; rfl
    · rw [g3 m,fq_filter hn]
    · rw [g4 m,fq_filter hn]
    · simp only [List.mem_filter,kd_iff,and_assoc]
  · rintro p a s x h ⟨M,K,O,C,rfl,g2,g3,g4,g5,g6⟩
    have out:=nodup_pre hn h
    obtain ⟨hb,hm,hq⟩:=bef_filter hn h
    have hk:a.kind≠7:=by rw [kd_iff.1 hq]; decide
    have hcnt:cnt S a=(mkd S a && decide ((p.filter fun k=>onT a.ref k && mkd S k).length < 64)):=by
      unfold cnt; rw [← ff,hb]
    have hlen:((kget M a.ref).getD []).length=min 64 (p.filter fun k=>onT a.ref k && mkd S k).length:=by rw [g2,List.length_map,g6]
    have hcond:((shN S a.ref).isNone∨fitsF { x2 with marks:=M,marked:=K,on:=O,confl:=C } a.ref a.mark=false∨64≤((kget M a.ref).getD []).length)↔cnt S a=false:=by
      rw [hcnt,hlen]
      generalize (p.filter fun k=>onT a.ref k && mkd S k).length=d
      simp only [fitsF,hs]
      cases ha:shN S a.ref with
      | none=>simp [mkd,ha]
      | some s0 =>
        simp only [mkd,ha,colT,Option.isNone_some,Option.getD_some,Bool.false_eq_true,false_or,Bool.and_eq_false_iff,decide_eq_false_iff_not]
        omega
    have step:∀ m,((p++[a]).filter fun k=>onT m k && mkd S k).length=(p.filter fun k=>onT m k && mkd S k).length+if onT m a && mkd S a then 1 else 0:=fun m=>by
      rw [List.filter_append,List.length_append]
      cases hh:(onT m a && mkd S a) <;> simp [hh]
    unfold markF
    simp only [hs]
    by_cases hcc:cnt S a=false
    · rw [if_pos (hcond.2 hcc),clash_eq hk]
      refine ⟨M,K,O,_,rfl,fun m=>?_,fun m=>?_,fun m=>?_,(g5.set a.nm).cg fun m=>?_,fun m=>?_⟩
      · rw [g2 m,List.filter_append]; simp [hcc]
      · rw [g3 m,fq_snoc out,hcc]
        by_cases e:m=a.nm
        · rw [if_pos e,e,fq_out out]; rfl
        · rw [if_neg e]
      · rw [g4 m,fq_snoc out,hcc]
        by_cases e:m=a.nm
        · rw [if_pos e,e,fq_out out]; rfl
        · rw [if_neg e]
      · simp only [mem_snoc]
        constructor
        · rintro (rfl | h | ⟨c,h1,h2⟩)
          · exact .inr ⟨a,.inr rfl,hcc,rfl⟩
          · exact .inl h
          · exact .inr ⟨c,.inl h1,h2⟩
        · rintro (h | ⟨c,h1 | rfl,h2,h3⟩)
          · exact .inr (.inl h)
          · exact .inr (.inr ⟨c,h1,h2,h3⟩)
          · exact .inl h3.symm
      · rw [step,List.filter_append,List.length_append,g6 m]
        have e0:([a].filter fun k=>onT m k && cnt S k).length=0:=by simp [hcc]
        rw [e0]
        by_cases e:a.ref=m
        · subst e
          have e3:onT a.ref a=true:=by simp [onT]
          rw [hcnt] at hcc
          rw [e3,Bool.true_and]
          cases hmk:mkd S a with
          | false=>simp
          | true =>
            rw [hmk] at hcc
            simp only [Bool.true_and,decide_eq_false_iff_not] at hcc
            simp only [if_true]
            omega
        · have:onT m a=false:=by simp [onT,e]
          simp [this]
    · rw [if_neg (fun h=>hcc (hcond.1 h))]
      have hct:cnt S a=true:=by simpa using hcc
      refine ⟨_,_,_,C,rfl,fun m=>?_,fun m=>?_,fun m=>?_,g5.cg fun m=>?_,fun m=>?_⟩
      · rw [kget_kset,List.filter_append]
        by_cases e:a.ref=m
        · subst e
          rw [if_pos rfl,g2]
          simp [onT,hct]
        · have e':¬ m=a.ref:=fun h=>e h.symm
          rw [if_neg e',g2 m]
          simp [onT,e]
      · rw [kget_kset,fq_snoc out,hct]
        by_cases e:m=a.nm
        · rw [if_pos e,if_pos e]; rfl
        · rw [if_neg e,if_neg e]; exact g3 m
      · rw [kget_kset,fq_snoc out,hct]
        by_cases e:m=a.nm
        · rw [if_pos e,if_pos e]; rfl
        · rw [if_neg e,if_neg e]; exact g4 m
      · simp only [mem_snoc]
        constructor
        · rintro (h | ⟨c,h1,h2⟩)
          · exact .inl h
          · exact .inr ⟨c,.inl h1,h2⟩
        · rintro (h | ⟨c,h1 | rfl,h2,h3⟩)
          · exact .inl h
          · exact .inr ⟨c,h1,h2,h3⟩
          · rw [hct] at h2; cases h2
      · rw [step,List.filter_append,List.length_append,g6 m]
        by_cases e:a.ref=m
        · subst e
          have e1:([a].filter fun k=>onT a.ref k && cnt S k).length=1:=by simp [onT,hct]
          rw [e1]
          rw [hcnt] at hct
          simp only [Bool.and_eq_true,decide_eq_true_eq] at hct
          have e3:onT a.ref a=true:=by simp [onT]
          rw [e3,hct.1]
          have:=hct.2
          simp only [Bool.and_self,if_true]
          omega
        · have:onT m a=false:=by simp [onT,e]
          simp [this]
  · refine ⟨[],[],[],x2.confl,?_,fun m=>rfl,fun m=>rfl,fun m=>rfl,hc.cg fun m=>by simp,fun m=>by simp⟩
    cases x2; simp only at h1 h2 h3; subst h1; subst h2; subst h3; rfl
theorem correct_ref (al:List (Nm × Nt)) {S:List Nt} (hn:(S.map Nt.nm).Nodup) (x3:Fs) (P:Nm→Prop) (hs:∀ m,kget x3.sheets m=shN S m) (hr:∀ m,kget x3.reads m=(fq S (kd 3) m).map Nt.read)
    (hk:∀ m,kget x3.marked m=(fq S (fun a=>kd 2 a && cnt S a) m).map Nt.mark) (ho:∀ m,kget x3.on m=(fq S (fun a=>kd 2 a && cnt S a) m).map Nt.ref) (hc:clS x3.confl P) :
    ∃ R K C,(S.filter (kd 6)).foldl (correctF al) x3={ x3 with reads:=R,marked:=K,confl:=C }∧(∀ m,kget R m=(fq S (kd 3) m).map fun k=>(knw S k).read)∧(∀ m,kget K m=(fq S (fun a=>kd 2 a && cnt S a) m).map fun k=>(knw S k).mark) ∧
      clS C fun m=>P m∨∃ a∈S,a.kind=6∧corr S a=false∧a.nm=m:=by
  have key:=foldl_pre (G:=correctF al) (l:=S.filter (kd 6)) (x:=x3) (fun p x=>∃ R K C,x={ x3 with reads:=R,marked:=K,confl:=C } ∧
    (∀ m,kget R m=(fq S (kd 3) m).map fun k=>(((p.filter fun c=>onT m c && corr S c).getLast?).getD k).read) ∧
    (∀ m,kget K m=(fq S (fun a=>kd 2 a && cnt S a) m).map fun k=>(((p.filter fun c=>onT m c && corr S c).getLast?).getD k).mark)∧clS C fun m=>P m∨∃ a∈p,corr S a=false∧a.nm=m) ?_ ?_
  · obtain ⟨R,K,C,g1,g2,g3,g4⟩:=key
    refine ⟨R,K,C,g1,fun m=>?_,fun m=>?_,g4.cg fun m=>?_⟩
    · rw [g2 m]
      cases h:fq S (kd 3) m with
      | none=>rfl
      | some s =>
        have:=(fq_some hn).1 h
        simp only [Option.map_some,knw,this.2.1,ff]
    · rw [g3 m]
      cases h:fq S (fun a=>kd 2 a && cnt S a) m with
      | none=>rfl
      | some s =>
        have:=(fq_some hn).1 h
        simp only [Option.map_some,knw,this.2.1,ff]
    · simp only [List.mem_filter,kd_iff,and_assoc]
  · rintro p a s x h ⟨R,K,C,rfl,g2,g3,g4⟩
    obtain ⟨_,hm,hq⟩:=bef_filter hn h
    have hk7:a.kind≠7:=by rw [kd_iff.1 hq]; decide
    have no:corr S a=false→∃ R' K' C',clashF al { x3 with reads:=R,marked:=K,confl:=C } a={ x3 with reads:=R',marked:=K',confl:=C' } ∧
        (∀ m,kget R' m=(fq S (kd 3) m).map fun k=>((((p++[a]).filter fun c=>onT m c && corr S c).getLast?).getD k).read) ∧
        (∀ m,kget K' m=(fq S (fun a=>kd 2 a && cnt S a) m).map fun k=>((((p++[a]).filter fun c=>onT m c && corr S c).getLast?).getD k).mark)∧clS C' fun m=>P m∨∃ c∈p++[a],corr S c=false∧c.nm=m:=fun hcc=>by
      rw [clash_eq hk7]
      refine ⟨R,K,_,rfl,fun m=>?_,fun m=>?_,(g4.set a.nm).cg fun m=>?_⟩
      · rw [g2 m]; simp only [last_snoc,hcc,Bool.and_false,Bool.false_eq_true,if_false]
      · rw [g3 m]; simp only [last_snoc,hcc,Bool.and_false,Bool.false_eq_true,if_false]
      · simp only [mem_snoc]
        constructor
        · rintro (rfl | h | ⟨c,h1,h2⟩)
          · exact .inr ⟨a,.inr rfl,hcc,rfl⟩
          · exact .inl h
          · exact .inr ⟨c,.inl h1,h2⟩
        · rintro (h | ⟨c,h1 | rfl,h2,h3⟩)
          · exact .inr (.inl h)
          · exact .inr (.inr ⟨c,h1,h2,h3⟩)
          · exact .inl h3.symm
    have yesC:corr S a=true→clS C fun m=>P m∨∃ c∈p++[a],corr S c=false∧c.nm=m:=fun hct=>g4.cg fun m=>by
      simp only [mem_snoc]
      constructor
      · rintro (h | ⟨c,h1,h2⟩)
        · exact .inl h
        · exact .inr ⟨c,.inl h1,h2⟩
      · rintro (h | ⟨c,h1 | rfl,h2,h3⟩)
        · exact .inl h
        · exact .inr ⟨c,h1,h2,h3⟩
        · rw [hct] at h2; cases h2
    unfold correctF
    cases hf:fq S (fun _=>true) a.ref with
    | none =>
      have e3:=fq_of hn (kd 3) hf
      have e2:=fq_of hn (fun a=>kd 2 a && cnt S a) hf
      simp only at e3 e2
      have hcc:corr S a=false:=by unfold corr; rw [hf]
      by_cases hz:a.read.stn≠0
      · rw [if_pos hz,if_pos (by simp only [g2,e3]; rfl)]; exact no hcc
      · rw [if_neg hz,if_pos (.inl (by simp only [g3,e2]; rfl))]; exact no hcc
    | some k =>
      have e3:=fq_of hn (kd 3) hf
      have e2:=fq_of hn (fun a=>kd 2 a && cnt S a) hf
      simp only at e3 e2
      have hkm:=(fq_some hn).1 hf
      by_cases hz:a.read.stn≠0
      · have hcr:corr S a=kd 3 k:=by unfold corr; rw [hf]; simp only [if_pos hz]
        rw [if_pos hz]
        cases h3:kd 3 k with
        | false =>
          rw [h3] at e3 hcr
          simp only [Bool.false_eq_true,if_false] at e3
          rw [if_pos (by simp only [g2,e3]; rfl)]; exact no hcr
        | true =>
          rw [h3] at e3 hcr
          simp only [if_true] at e3
          have h2:kd 2 k=false:=by rw [kd_iff] at h3; simp [kd,h3]
          simp only [h2,Bool.false_and,Bool.false_eq_true,if_false] at e2
          rw [if_neg (by simp only [g2,e3]; simp)]
          refine ⟨_,K,C,rfl,fun m=>?_,fun m=>?_,yesC hcr⟩
          · rw [kget_kset]
            by_cases e:a.ref=m
            · subst e
              simp only [if_true,e3,Option.map_some,last_snoc,onT,decide_true,hcr,Bool.true_and]
            · have e':¬ m=a.ref:=fun h=>e h.symm
              rw [if_neg e',g2 m]
              simp only [last_snoc,onT,e,decide_false,Bool.false_and,Bool.false_eq_true,if_false]
          · rw [g3 m]
            by_cases e:a.ref=m
            · subst e; rw [e2]; rfl
            · simp only [last_snoc,onT,e,decide_false,Bool.false_and,Bool.false_eq_true,if_false]
      · rw [if_neg hz]
        have hcr:corr S a=(kd 2 k && (cnt S k && (match shN S k.ref with
          | none=>false
          | some s=>colT s a.mark.col))):=by unfold corr; rw [hf]; simp only [if_neg hz] <;> rfl
        cases h2:(kd 2 k && cnt S k) with
        | false =>
          rw [h2] at e2
          simp only [Bool.false_eq_true,if_false] at e2
          rw [← Bool.and_assoc,h2,Bool.false_and] at hcr
          rw [if_pos (.inl (by simp only [g3,e2]; rfl))]; exact no hcr
        | true =>
          rw [h2] at e2
          simp only [if_true] at e2
          rw [← Bool.and_assoc,h2,Bool.true_and] at hcr
          simp only [Bool.and_eq_true] at h2
          have h3:kd 3 k=false:=by have:=kd_iff.1 h2.1; simp [kd,this]
          simp only [h3,Bool.false_eq_true,if_false] at e3
          have hmk:mkd S k=true:=by have:=h2.2; unfold cnt at this; simp only [Bool.and_eq_true] at this; exact this.1
          cases hsh:shN S k.ref with
          | none=>rw [mkd,hsh] at hmk; cases hmk
          | some s0 =>
            rw [hsh] at hcr
            simp only at hcr
            have hfit:fitsF { x3 with reads:=R,marked:=K,confl:=C } ((kget x3.on a.ref).getD nm0) a.mark=colT s0 a.mark.col:=by
              simp only [fitsF,ho,e2,Option.map_some,Option.getD_some,hs,hsh,colT]
            rw [← hfit] at hcr
            cases hff:fitsF { x3 with reads:=R,marked:=K,confl:=C } ((kget x3.on a.ref).getD nm0) a.mark with
            | false =>
              rw [hff] at hcr
              rw [if_pos (.inr rfl)]; exact no hcr
            | true =>
              rw [hff] at hcr
              rw [if_neg (by
                rintro (h | h)
                · simp only [g3,e2] at h; cases h
                · exact absurd h (by decide))]
              refine ⟨R,_,C,rfl,fun m=>?_,fun m=>?_,yesC hcr⟩
              · rw [g2 m]
                by_cases e:a.ref=m
                · subst e; rw [e3]; rfl
                · simp only [last_snoc,onT,e,decide_false,Bool.false_and,Bool.false_eq_true,if_false]
              · rw [kget_kset]
                by_cases e:a.ref=m
                · subst e
                  simp only [if_true,e2,Option.map_some,last_snoc,onT,decide_true,hcr,Bool.true_and]
                · have e':¬ m=a.ref:=fun h=>e h.symm
                  rw [if_neg e',g3 m]
                  simp only [last_snoc,onT,e,decide_false,Bool.false_and,Bool.false_eq_true,if_false]
  · exact ⟨x3.reads,x3.marked,x3.confl,rfl,fun m=>by rw [hr m]; rfl,fun m=>by rw [hk m]; rfl,hc.cg fun m=>by simp⟩
theorem clS.snoc_yes {C:List (Nm × Bool)} {P:Nm→Prop} {p:List Nt} {a:Nt} {B:Nt→Prop} (h:clS C fun m=>P m∨∃ c∈p,B c∧c.nm=m) (hb:B a):clS (kset C a.nm true) fun m=>P m∨∃ c∈p++[a],B c∧c.nm=m :=
  (h.set a.nm).cg fun m=>by
    simp only [mem_snoc]
    constructor
    · rintro (rfl | h | ⟨c,h1,h2⟩)
      · exact .inr ⟨a,.inr rfl,hb,rfl⟩
      · exact .inl h
      · exact .inr ⟨c,.inl h1,h2⟩
    · rintro (h | ⟨c,h1 | rfl,h2,h3⟩)
      · exact .inr (.inl h)
      · exact .inr (.inr ⟨c,h1,h2,h3⟩)
      · exact .inl h3.symm
theorem clS.snoc_no {C:List (Nm × Bool)} {P:Nm→Prop} {p:List Nt} {a:Nt} {B:Nt→Prop} (h:clS C fun m=>P m∨∃ c∈p,B c∧c.nm=m) (hb:¬ B a):clS C fun m=>P m∨∃ c∈p++[a],B c∧c.nm=m :=
  h.cg fun m=>by
    simp only [mem_snoc]
    constructor
    · rintro (h | ⟨c,h1,h2⟩)
      · exact .inl h
      · exact .inr ⟨c,.inl h1,h2⟩
    · rintro (h | ⟨c,h1 | rfl,h2,h3⟩)
      · exact .inl h
      · exact .inr ⟨c,h1,h2,h3⟩
      · exact absurd h2 hb
theorem enter_ref (al:List (Nm × Nt)) {S:List Nt} (hn:(S.map Nt.nm).Nodup) (x4:Fs) (P:Nm→Prop) (hrs:x4.rs=[]) (hf:∀ m,kget x4.filed m=(shN S m).map fun s=>((flg S s).stn,(flg S s).week)) (hm:∀ m,(kget x4.marks m).getD []=(mks S m).map Nt.nm)
    (hk:∀ m,kget x4.marked m=(fq S (fun a=>kd 2 a && cnt S a) m).map fun k=>(knw S k).mark) (hc:clS x4.confl P) :
    ∃ C,(S.filter (kd 1)).foldl (enterF al) x4={ x4 with rs:=shsR S S,confl:=C }∧clS C fun m=>P m∨∃ a∈S,(a.kind=1∧takenB S (shsR S (bef S a)) a=true)∧a.nm=m:=by
  have key:=foldl_pre (G:=enterF al) (l:=S.filter (kd 1)) (x:=x4) (fun p x=>∃ C,x={ x4 with rs:=p.foldl (entR S) [],confl:=C }∧clS C fun m=>P m∨∃ a∈p,takenB S (shsR S (bef S a)) a=true∧a.nm=m) ?_ ?_
  · obtain ⟨C,h1,h2⟩:=key
    refine ⟨C,h1,h2.cg fun m=>?_⟩
    simp only [List.mem_filter,kd_iff,and_assoc]
  · rintro p a s x h ⟨C,rfl,h3⟩
    obtain ⟨hb,hmm,hq⟩:=bef_filter hn h
    have hk7:a.kind≠7:=by rw [kd_iff.1 hq]; decide
    have hsh:shN S a.nm=some a:=fq_self hn hmm hq
    have hpre:shsR S (bef S a)=p.foldl (entR S) []:=by unfold shsR; rw [hb]
    have hfl:fld S a=⟨a.nm,(flg S a).stn,(flg S a).week,a.sheet,((kget x4.marks a.nm).getD []).map fun m=>(kget x4.marked m).getD mk0,(kget x4.marks a.nm).getD []⟩:=by
      unfold fld
      rw [hm,List.map_map]
      congr 1
      apply List.map_congr_left
      intro k hkm
      unfold mks at hkm
      obtain ⟨g1,g2⟩:=List.mem_filter.1 hkm
      simp only [Bool.and_eq_true] at g2
      have:fq S (fun a=>kd 2 a && cnt S a) k.nm=some k:=fq_self hn g1 (by simp [g2.1,g2.2.2])
      simp only [Function.comp,hk,this,Option.map_some,Option.getD_some]
    unfold enterF
    simp only [hf,hsh,Option.map_some,Option.getD_some]
    have ht:takenB S (shsR S (bef S a)) a=(sheetAt (p.foldl (entR S) []) (flg S a).stn (flg S a).week).isSome:=by unfold takenB; rw [hpre]; rfl
    have hfo:(p++[a]).foldl (entR S) []=entR S (p.foldl (entR S) []) a:=by rw [List.foldl_append]; rfl
    rw [hfo]
    have hent:∀ rs,entR S rs a=if (sheetAt rs (flg S a).stn (flg S a).week).isSome=true then rs else rs++[⟨a.nm,(flg S a).stn,(flg S a).week,a.sheet,((kget x4.marks a.nm).getD []).map fun m=>(kget x4.marked m).getD mk0,(kget x4.marks a.nm).getD []⟩]:=fun rs=>by
      unfold entR; rw [hfl]
    rw [hent]
    by_cases hi:(sheetAt (p.foldl (entR S) []) (flg S a).stn (flg S a).week).isSome=true
    · rw [if_pos hi,if_pos hi,clash_eq hk7]
      exact ⟨_,rfl,h3.snoc_yes (ht.trans hi)⟩
    · rw [if_neg hi,if_neg hi]
      exact ⟨_,rfl,h3.snoc_no (by rw [ht]; exact hi)⟩
  · exact ⟨x4.confl,(by cases x4; simp only at hrs; subst hrs; rfl),hc.cg fun m=>by simp⟩
theorem raise_ref (al:List (Nm × Nt)) (b:Bse) {S:List Nt} (hn:(S.map Nt.nm).Nodup) (x5:Fs) (P:Nm→Prop) (hst:x5.st=b.stns) (hc:clS x5.confl P) :
    ∃ C,(S.filter (kd 4)).foldl (raiseF al) x5={ x5 with st:=stsR b.stns S,confl:=C }∧clS C fun m=>P m∨∃ a∈S,(a.kind=4∧(movR (stsR b.stns (bef S a)) a).2≠0)∧a.nm=m:=by
  have key:=foldl_pre (G:=raiseF al) (l:=S.filter (kd 4)) (x:=x5) (fun p x=>∃ C,x={ x5 with st:=p.foldl raiR b.stns,confl:=C }∧clS C fun m=>P m∨∃ a∈p,(movR (stsR b.stns (bef S a)) a).2≠0∧a.nm=m) ?_ ?_
  · obtain ⟨C,h1,h2⟩:=key
    refine ⟨C,h1,h2.cg fun m=>?_⟩
    simp only [List.mem_filter,kd_iff,and_assoc]
  · rintro p a s x h ⟨C,rfl,h3⟩
    obtain ⟨hb,hmm,hq⟩:=bef_filter hn h
    have hk7:a.kind≠7:=by rw [kd_iff.1 hq]; decide
    have hpre:stsR b.stns (bef S a)=p.foldl raiR b.stns:=by unfold stsR; rw [hb]
    have hfo:(p++[a]).foldl raiR b.stns=raiR (p.foldl raiR b.stns) a:=by rw [List.foldl_append]; rfl
    rw [hfo]
    have hrai:∀ st,raiR st a=if (movR st a).2≠0 then st else st.set (stnOf st a.stn).1 (movR st a).1:=fun _=>rfl
    rw [hrai]
    unfold raiseF
    simp only
    by_cases hz:(movR (p.foldl raiR b.stns) a).2≠0
    · have hz':(moveE ((p.foldl raiR b.stns).getD (stnOf (p.foldl raiR b.stns) a.stn).1 default) a.height).2≠0:=hz
      rw [if_pos hz,if_pos hz',clash_eq hk7]
      exact ⟨_,rfl,h3.snoc_yes (by rw [hpre]; exact hz)⟩
    · have hz':¬ (moveE ((p.foldl raiR b.stns).getD (stnOf (p.foldl raiR b.stns) a.stn).1 default) a.height).2≠0:=hz
      rw [if_neg hz,if_neg hz']
      exact ⟨_,rfl,h3.snoc_no (by rw [hpre]; exact hz)⟩
  · exact ⟨x5.confl,(by cases x5; simp only at hst; subst hst; rfl),hc.cg fun m=>by simp⟩
theorem read_ref {S:List Nt} (hn:(S.map Nt.nm).Nodup) (x6:Fs) (hrr:x6.rr=[]) (hr:∀ m,kget x6.reads m=(fq S (kd 3) m).map fun k=>(knw S k).read) :
    (S.filter (kd 3)).foldl readF x6={ x6 with rr:=(S.filter (kd 3)).map fun a=>(knw S a).read }:=by
  have key:=foldl_pre (G:=readF) (l:=S.filter (kd 3)) (x:=x6) (fun p x=>x={ x6 with rr:=p.map fun a=>(knw S a).read }) ?_ ?_
  · exact key
  · rintro p a s x h rfl
    obtain ⟨hb,hmm,hq⟩:=bef_filter hn h
    have:fq S (kd 3) a.nm=some a:=fq_self hn hmm hq
    unfold readF
    simp only [hr,this,Option.map_some,Option.getD_some,List.map_append,List.map_cons,List.map_nil]
  · cases x6; simp only at hrr; subst hrr; rfl
theorem byName_get {l:List Nt} (hn:(l.map Nt.nm).Nodup) (m:Nm):kget (byName l) m=fq l (fun _=>true) m:=by
  have key:∀ m,kget (byName l) m=fq l (fun _=>true) m:=by
    unfold byName
    refine foldl_pre (G:=fun (m:List (Nm × Nt)) a=>kset m a.nm a) (l:=l) (x:=[]) (fun p x=>∀ m,kget x m=fq p (fun _=>true) m) ?_ (fun _=>rfl)
    intro p a s x h h1 m
    have out:a.nm ∉ p.map Nt.nm:=nodup_pre (q:=fun _=>true) hn (by rw [List.filter_eq_self.2 (fun _ _=>rfl)]; exact h)
    rw [kget_kset,fq_snoc out]
    by_cases e:m=a.nm
    · rw [if_pos e,if_pos e]; rfl
    · rw [if_neg e,if_neg e]; exact h1 m
  exact key m
theorem mem_standT {l:List Nt} {a:Nt}:a∈Zf l↔a∈l∧a.kind≠7∧goneT l a.nm=false:=by
  unfold Zf
  rw [List.mem_filter,(srtT_perm _).mem_iff,List.mem_filter]
  simp [and_assoc]
theorem standK_one (l:List Nt) (k:Int):standK l [k]=(Zf l).filter (kd k):=by
  unfold standK
  congr 1
  funext a
  rw [Bool.eq_iff_iff]
  simp [kd]
theorem standK_two (l:List Nt) (j k:Int):standK l [j,k]=(Zf l).filter fun a=>kd j a || kd k a:=by
  unfold standK
  congr 1
  funext a
  rw [Bool.eq_iff_iff]
  simp [kd]
theorem last_ref (b:Bse) {l:List Nt} (hn:(l.map Nt.nm).Nodup) (x7:Fs) (hc:clS x7.confl fun m=>∃ a∈Zf l,badS b (Zf l) a=true∧a.nm=m) :
    ∃ C,l.foldl (lastF (byName l)) (x7,[])=({ x7 with confl:=C },(l.filter (badR b l)).map Nt.nm):=by
  have key:=foldl_pre (G:=lastF (byName l)) (l:=l) (x:=(x7,[])) (fun p x=>∃ C,x=({ x7 with confl:=C },(p.filter (badR b l)).map Nt.nm) ∧
    clS C fun m=>(∃ a∈Zf l,badS b (Zf l) a=true∧a.nm=m)∨∃ a∈p,(a.kind=7∧badR b l a=true)∧a.nm=m) ?_ ?_
  · obtain ⟨C,h1,_⟩:=key
    exact ⟨C,h1⟩
  · rintro p a s x h ⟨C,rfl,h3⟩
    have hal:a∈l:=by rw [h]; simp
    have out:a.nm ∉ p.map Nt.nm:=nodup_pre (q:=fun _=>true) hn (by rw [List.filter_eq_self.2 (fun _ _=>rfl)]; exact h)
    have fin:∀ C',clS C' (fun m=>(∃ c∈Zf l,badS b (Zf l) c=true∧c.nm=m)∨∃ c∈p++[a],(c.kind=7∧badR b l c=true)∧c.nm=m)→((kget C' a.nm).getD false)=badR b l a:=by
      intro C' hC'
      have h4:=hC' a.nm
      simp only at h4
      have h5:((∃ c∈Zf l,badS b (Zf l) c=true∧c.nm=a.nm)∨∃ c∈p++[a],(c.kind=7∧badR b l c=true)∧c.nm=a.nm)↔badR b l a=true:=by
        constructor
        · rintro (⟨c,hc1,hc2,hc3⟩ | ⟨c,hc1,hc2,hc3⟩)
          · obtain ⟨g1,g2,g3⟩:=mem_standT.1 hc1
            obtain rfl:=nm_inj hn g1 hal hc3
            unfold badR
            rw [if_neg g2,g3,hc2]; rfl
          · rcases mem_snoc.1 hc1 with hc1 | rfl
            · exact absurd (List.mem_map.2 ⟨c,hc1,hc3⟩) out
            · exact hc2.2
        · intro hb
          by_cases h7:a.kind=7
          · exact .inr ⟨a,by simp,⟨h7,hb⟩,rfl⟩
          · refine .inl ⟨a,?_,?_,rfl⟩
            · unfold badR at hb
              rw [if_neg h7] at hb
              simp only [Bool.and_eq_true,Bool.not_eq_true'] at hb
              exact mem_standT.2 ⟨hal,h7,hb.1⟩
            · unfold badR at hb
              rw [if_neg h7] at hb
              simp only [Bool.and_eq_true,Bool.not_eq_true'] at hb
              exact hb.2
      rw [h5] at h4
      cases hb:badR b l a with
      | true=>rw [hb] at h4; rw [h4.2 rfl]; rfl
      | false =>
        rw [hb] at h4
        cases hg:kget C' a.nm with
        | none=>rfl
        | some v=>cases v with
          | false=>rfl
          | true=>exact absurd (h4.1 hg) (by decide)
    have out2:∀ c:Bool,badR b l a=c→(if c then (p.filter (badR b l)).map Nt.nm++[a.nm] else (p.filter (badR b l)).map Nt.nm)=((p++[a]).filter (badR b l)).map Nt.nm:=by
      rintro c rfl
      rw [List.filter_append,List.map_append]
      cases hb:badR b l a <;> simp [hb]
    unfold lastF
    simp only
    by_cases h7:a.kind=7
    · rw [if_pos h7]
      have hcl:clashF (byName l) { x7 with confl:=C } a=if badR b l a then { x7 with confl:=kset C a.nm true } else { x7 with confl:=C }:=by
        unfold clashF badR
        simp only [byName_get hn,h7,if_true,true_and]
        cases hf:fq l (fun _=>true) a.ref with
        | none=>simp
        | some m =>
          by_cases hm:m.kind=7
          · simp [hm]
          · simp [hm]
      rw [hcl]
      cases hb:badR b l a with
      | true =>
        simp only [if_true]
        have h8:=h3.snoc_yes (a:=a) (B:=fun a=>a.kind=7∧badR b l a=true) ⟨h7,hb⟩
        refine ⟨_,?_,h8⟩
        rw [fin _ h8,out2 _ rfl]
      | false =>
        simp only [Bool.false_eq_true,if_false]
        have h8:=h3.snoc_no (a:=a) (B:=fun a=>a.kind=7∧badR b l a=true) (fun e=>by rw [hb] at e; exact absurd e.2 (by decide))
        refine ⟨_,?_,h8⟩
        have:=out2 _ rfl
        rw [← this,fin _ h8]
    · rw [if_neg h7]
      have h8:=h3.snoc_no (a:=a) (B:=fun a=>a.kind=7∧badR b l a=true) (fun e=>h7 e.1)
      refine ⟨C,?_,h8⟩
      have:=out2 _ rfl
      rw [← this,fin _ h8]
  · exact ⟨x7.confl,rfl,hc.cg fun m=>by simp⟩
theorem foldT_ref (b:Bse) {l:List Nt} (hn:(l.map Nt.nm).Nodup):foldT b l=refT b l:=by
  have hS:=standT_nodup hn
  obtain ⟨al,hal⟩:∃ al,al=byName l:=⟨_,rfl⟩
  unfold foldT refT
  simp only [standK_one,standK_two]
  rw [← hal]
  generalize hSS:Zf l=S at hS
  obtain ⟨x1,e1,s1,f1,r1,m1,k1,o1,c1,rs1,rr1,st1⟩:=begin_ref b hS
  rw [e1]
  obtain ⟨F2,C2,e2,f2,c2⟩:=file_ref al hS x1 (fun _=>False) s1 f1 (fun m=>by rw [c1]; simp [kget])
  rw [e2]
  obtain ⟨M3,K3,O3,C3,e3,m3,k3,o3,c3⟩:=mark_ref al hS { x1 with filed:=F2,confl:=C2 } _ s1 m1 k1 o1 c2
  rw [e3]
  obtain ⟨R4,K4,C4,e4,r4,k4,c4⟩:=correct_ref al hS { x1 with filed:=F2,marks:=M3,marked:=K3,on:=O3,confl:=C3 } _ s1 r1 k3 o3 c3
  rw [e4]
  obtain ⟨C5,e5,c5⟩:=enter_ref al hS { x1 with filed:=F2,marks:=M3,marked:=K4,on:=O3,reads:=R4,confl:=C4 } _ rs1 f2 m3 k4 c4
  rw [e5]
  obtain ⟨C6,e6,c6⟩:=raise_ref al b hS { x1 with filed:=F2,marks:=M3,marked:=K4,on:=O3,reads:=R4,rs:=shsR S S,confl:=C5 } _ st1 c5
  have e8:=read_ref hS { x1 with filed:=F2,marks:=M3,marked:=K4,on:=O3,reads:=R4,rs:=shsR S S,st:=stsR b.stns S,confl:=C6 } rr1 r4
  rw [e6,e8]
  subst hal
  obtain ⟨C7,e7⟩:=last_ref b hn { x1 with filed:=F2,marks:=M3,marked:=K4,on:=O3,reads:=R4,rs:=shsR S S,st:=stsR b.stns S,rr:=(S.filter (kd 3)).map fun a=>(knw S a).read,confl:=C6 } (by
    rw [hSS]
    refine c6.cg fun m=>?_
    constructor
    · rintro (((((h | ⟨a,h1,h2,h3,h4⟩) | ⟨a,h1,h2,h3,h4⟩) | ⟨a,h1,h2,h3,h4⟩) | ⟨a,h1,⟨h2,h3⟩,h4⟩) | ⟨a,h1,⟨h2,h3⟩,h4⟩)
      · exact h.elim
      · exact ⟨a,h1,by unfold badS; simp [h2,h3],h4⟩
      · exact ⟨a,h1,by unfold badS; simp [h2,h3],h4⟩
      · exact ⟨a,h1,by unfold badS; simp [h2,h3],h4⟩
      · exact ⟨a,h1,by unfold badS; simp [h2,h3],h4⟩
      · exact ⟨a,h1,by unfold badS; simp [h2,h3],h4⟩
    · rintro ⟨a,h1,h2,h3⟩
      unfold badS at h2
      split at h2
      · exact .inl (.inr ⟨a,h1,⟨by assumption,h2⟩,h3⟩)
      split at h2
      · exact .inl (.inl (.inl (.inr ⟨a,h1,by assumption,by simpa using h2,h3⟩)))
      split at h2
      · exact .inr ⟨a,h1,⟨by assumption,by simpa using h2⟩,h3⟩
      split at h2
      · exact .inl (.inl (.inl (.inl (.inr ⟨a,h1,by assumption,by simpa using h2,h3⟩))))
      split at h2
      · exact .inl (.inl (.inr ⟨a,h1,by assumption,by simpa using h2,h3⟩))
      · cases h2)
  rw [e7]
def samP (S:List Nt) (a x:Nt):Bool:=(flg S x).stn == (flg S a).stn && (flg S x).week == (flg S a).week
def entA (S:List Nt) (rs:List Nt) (a:Nt):List Nt:=if rs.any (samP S a) then rs else rs++[a]
def entN (S T:List Nt):List Nt:=(T.filter (kd 1)).foldl (entA S) []
theorem sheetAt_map (S:List Nt) (rs:List Nt) (a:Nt):(sheetAt (rs.map (fld S)) (fld S a).stn (fld S a).week).isSome=rs.any (samP S a):=by
  unfold sheetAt
  rw [List.findIdx?_isSome,List.any_map]; rfl
theorem shsR_ent (S T:List Nt):shsR S T=(entN S T).map (fld S):=by
  have key:∀ (L:List Nt) (rs:List Nt),L.foldl (entR S) (rs.map (fld S))=(L.foldl (entA S) rs).map (fld S):=by
    intro L
    induction L with
    | nil=>intro rs; rfl
    | cons a L ih =>
      intro rs
      rw [List.foldl_cons,List.foldl_cons,← ih]
      congr 1
      unfold entR entA
      rw [sheetAt_map]
      split
      · rfl
      · simp
  exact key _ []
theorem entN_sub (S T:List Nt):(entN S T).Sublist (T.filter (kd 1)):=by
  unfold entN
  refine foldl_pre (G:=entA S) (l:=T.filter (kd 1)) (x:=[]) (fun p x=>x.Sublist p) (fun p a s x _ h=>?_) (List.Sublist.refl _)
  unfold entA
  split
  · exact h.trans (List.sublist_append_left _ _)
  · exact h.append (List.Sublist.refl _)
section
end
theorem setE_iff {b:Bse} {l:List Nt}:(setE b l).1=0↔b.ok∧l.length≤400∧(∀ a∈l,a.ok b)∧(l.map Nt.nm).Pairwise (fun x y=>cmpN x y < 0):=by
  refine ⟨setE_ok,fun ⟨h1,h2,h3,h4⟩=>?_⟩
  unfold setE
  rw [if_neg (fun h=>h h1),if_neg (by omega),firstE_zero]
  intro i hi
  unfold ntE
  have hg:l.getD i default=l[i]:=by rw [List.getD_eq_getElem?_getD,List.getElem?_eq_getElem hi]; rfl
  simp only
  rw [if_neg (fun h=>h (by rw [hg]; exact h3 _ (List.getElem_mem hi)))]
  by_cases h0:i=0
  · rw [if_pos h0]
  · rw [if_neg h0]
    have hg2:l.getD (i - 1) default=l[i - 1]:=by rw [List.getD_eq_getElem?_getD,List.getElem?_eq_getElem (by omega)]; rfl
    rw [List.pairwise_map,List.pairwise_iff_getElem] at h4
    have h5:=h4 (i - 1) i (by omega) hi (by omega)
    rw [hg,hg2]
    have h6:=@cmpN_lt l[i - 1].nm l[i].nm
    have h7:=@cmpN_gt l[i - 1].nm l[i].nm
    rw [if_neg (by omega),if_neg (by omega)]
theorem setE_sub {b:Bse} {l m:List Nt} (h:(setE b l).1=0) (hm:m.Sublist l):(setE b m).1=0:=by
  obtain ⟨h1,h2,h3,h4⟩:=setE_ok h
  exact setE_iff.2 ⟨h1,Nat.le_trans hm.length_le h2,fun a ha=>h3 a (hm.subset ha),h4.sublist (hm.map _)⟩
theorem askedE_one {b:Bse} {l:List Nt}:askedE b [l]=0↔(setE b l).1=0:=by
  constructor
  · intro h; exact (askedE_ok h).2 l (by simp)
  · intro h
    unfold askedE
    rw [if_neg (fun hb=>hb (setE_ok h).1)]
    simp [h]
section
theorem entN_mem {S T:List Nt} {a:Nt} (h:a∈entN S T):a∈T∧a.kind=1:=by
  have:=(entN_sub S T).subset h
  rw [List.mem_filter,kd_iff] at this
  exact this
end
theorem blots_len {c:Int} {l:List Int} (h:blotsOk c l) (hc:0≤c):(l.length:Int)≤c:=by
  have key:∀ i:Nat,i < l.length→(i:Int)≤l.getD i 0:=by
    intro i
    induction i with
    | zero=>intro hi; exact (h 0 hi).1.1
    | succ i ih =>
      intro hi
      have h1:=ih (by omega)
      have h2:=(h (i+1) hi).2 (by omega)
      rw [Nat.add_sub_cancel] at h2
      omega
  rcases Nat.eq_zero_or_pos l.length with h0 | h0
  · omega
  · have h1:=key (l.length - 1) (by omega)
    have h2:=(h (l.length - 1) (by omega)).1.2
    omega
theorem sht_small {s:Sht} (h:s.ok):s.trace.length≤2000∧s.blots.length≤200∧s.rates.length≤199∧s.stops.length≤16:=by
  obtain ⟨h1,h2,h3,h4,h5,h6⟩:=h
  have ht:s.trace.length≤2000:=by
    unfold traceE at h1
    split at h1
    · simp at h1
    · omega
  have hr:=h3.1.2
  have hb:=blots_len h5 (by omega)
  exact ⟨ht,by omega,by omega,h3.2.1⟩
theorem stns_small {l:List Stn} (h:(stnsE l).1=0):l.length≤32∧∀ s∈l,s.heights.length≤16:=by
  unfold stnsE at h
  split at h
  · simp at h
  rename_i h32
  rw [firstE_zero] at h
  refine ⟨by omega,fun s hs=>?_⟩
  obtain ⟨i,hi,rfl⟩:=List.mem_iff_getElem.1 hs
  have h1:=h i hi
  unfold stnE at h1
  simp only at h1
  split at h1
  · split at h1
    · rename_i h2
      rw [List.getD_eq_getElem?_getD,List.getElem?_eq_getElem hi] at h2
      have:=h2.1.2
      simp only [Option.getD_some] at this
      omega
    · omega
  · omega
theorem nt_small {b:Bse} {a:Nt} (h:a.ok b) (hk:a.kind=1):a.sheet.trace.length≤2000∧a.sheet.blots.length≤200∧a.sheet.rates.length≤199∧a.sheet.stops.length≤16:=by
  have h1:=h.2.2.2.2
  unfold Nt.says at h1
  rw [if_pos hk] at h1
  exact sht_small h1.2
theorem stnsE_zero {l:List Stn}:(stnsE l).1=0↔l.length≤32∧∀ j,j < l.length→stnE l j=0:=by
  unfold stnsE
  by_cases h:32 < l.length
  · rw [if_pos h]
    exact ⟨fun e=>absurd e (by decide),fun ⟨h1,_⟩=>by omega⟩
  · rw [if_neg h,firstE_zero]
    exact ⟨fun e=>⟨by omega,e⟩,fun e=>e.2⟩
theorem stnE_zero {l:List Stn} {j:Nat}:stnE l j=0↔inr (l.getD j default).id 1 65535∧(0 < j→(l.getD (j - 1) default).id < (l.getD j default).id)∧inr (l.getD j default).x 0 2000∧inr (l.getD j default).y 0 2000∧highOk (l.getD j default).heights:=by
  unfold stnE
  simp only
  by_cases h:inr (l.getD j default).id 1 65535∧(0 < j→(l.getD (j - 1) default).id < (l.getD j default).id)∧inr (l.getD j default).x 0 2000∧inr (l.getD j default).y 0 2000
  · rw [if_pos h]
    by_cases hh:highOk (l.getD j default).heights
    · rw [if_pos hh]; exact ⟨fun _=>⟨h.1,h.2.1,h.2.2.1,h.2.2.2,hh⟩,fun _=>rfl⟩
    · rw [if_neg hh]; exact ⟨fun e=>absurd e (by decide),fun e=>absurd e.2.2.2.2 hh⟩
  · rw [if_neg h]
    exact ⟨fun e=>absurd e (by decide),fun e=>absurd ⟨e.1,e.2.1,e.2.2.1,e.2.2.2.1⟩ h⟩
theorem getD_set {α:Type} {l:List α} {i j:Nat} {a d:α} (hi:i < l.length):(l.set i a).getD j d=if j=i then a else l.getD j d:=by
  rw [List.getD_eq_getElem?_getD,List.getElem?_set]
  by_cases h:j=i
  · subst h; rw [if_pos rfl,if_pos hi,if_pos rfl]; rfl
  · rw [if_neg (fun e=>h e.symm),if_neg h,List.getD_eq_getElem?_getD]
theorem stns_set {l:List Stn} {i:Nat} {r:Stn} (h:(stnsE l).1=0) (hi:i < l.length) (e1:r.id=(l.getD i default).id) (e2:r.x=(l.getD i default).x) (e3:r.y=(l.getD i default).y) (hh:highOk r.heights):(stnsE (l.set i r)).1=0:=by
  obtain ⟨h1,h2⟩:=stnsE_zero.1 h
  refine stnsE_zero.2 ⟨by rw [List.length_set]; exact h1,fun j hj=>?_⟩
  rw [List.length_set] at hj
  have h3:=stnE_zero.1 (h2 j hj)
  have hid:∀ m,((l.set i r).getD m default).id=(l.getD m default).id:=fun m=>by
    rw [getD_set hi]; split
    · rename_i e; rw [e,e1]
    · rfl
  refine stnE_zero.2 ⟨by rw [hid]; exact h3.1,fun h0=>by rw [hid,hid]; exact h3.2.1 h0,?_,?_,?_⟩
  · rw [getD_set hi]; split
    · rename_i e; subst e; rw [e2]; exact h3.2.2.1
    · exact h3.2.2.1
  · rw [getD_set hi]; split
    · rename_i e; subst e; rw [e3]; exact h3.2.2.2.1
    · exact h3.2.2.2.1
  · rw [getD_set hi]; split
    · exact hh
    · exact h3.2.2.2.2
theorem move_ok {s:Stn} {h:Hgt} (e:(moveE s h).2=0):(moveE s h).1={ s with heights:=putH h s.heights }∧highOk (putH h s.heights):=by
  unfold moveE at e ⊢
  by_cases h1:(stnsE [s]).1≠0
  · rw [if_pos h1] at e; exact absurd e h1
  · rw [if_neg h1] at e ⊢
    by_cases h2:highOk (putH h s.heights)
    · rw [if_pos h2]; exact ⟨rfl,h2⟩
    · rw [if_neg h2] at e; exact absurd e (by decide)
structure SameS (b l:List Stn):Prop where
  ok:(stnsE l).1=0
  ids:l.map Stn.id=b.map Stn.id
theorem stn_find (l:List Stn) (id:Int):(l.findIdx? fun s=>s.id == id)=(l.map Stn.id).findIdx? fun z=>z == id:=by
  rw [List.findIdx?_map]; rfl
theorem SameS.of {b l:List Stn} (hb:(stnsE b).1=0) (h:SameS b l) (id:Int):stnOf l id=stnOf b id:=by
  unfold stnOf
  rw [if_neg (by rw [h.ok]; decide),if_neg (by rw [hb]; decide),stn_find,stn_find,h.ids]
theorem stnOf_lt {l:List Stn} {id:Int} (h:(stnOf l id).2=0):(stnOf l id).1 < l.length∧(l.getD (stnOf l id).1 default).id=id:=by
  unfold stnOf at h ⊢
  by_cases h1:(stnsE l).1≠0
  · rw [if_pos h1] at h; exact absurd h h1
  · rw [if_neg h1] at h ⊢
    cases hf:l.findIdx? fun s=>s.id == id with
    | none=>rw [hf] at h; exact absurd h (by decide)
    | some i =>
      obtain ⟨h2,h3,_⟩:=List.findIdx?_eq_some_iff_getElem.1 hf
      refine ⟨h2,?_⟩
      simp only
      rw [List.getD_eq_getElem?_getD,List.getElem?_eq_getElem h2]
      simpa using h3
theorem SameS.move {b l:List Stn} (h:SameS b l) {i:Nat} (hi:i < l.length) {g:Hgt} (e:(moveE (l.getD i default) g).2=0):SameS b (l.set i (moveE (l.getD i default) g).1):=by
  obtain ⟨h1,h2⟩:=move_ok e
  rw [h1]
  refine ⟨stns_set h.ok hi rfl rfl rfl h2,?_⟩
  rw [← h.ids,List.map_set]
  refine List.ext_getElem? fun j=>?_
  rw [List.getElem?_set]
  split
  · rename_i e; subst e
    rw [List.getElem?_map,List.length_map,if_pos hi,List.getD_eq_getElem?_getD,List.getElem?_eq_getElem hi]; rfl
  · rfl
theorem SameS.raise {b:List Stn} {x:Fs} (al:List (Nm × Nt)) (a:Nt) (h:SameS b x.st):SameS b (raiseF al x a).st:=by
  unfold raiseF
  simp only
  by_cases h2:(moveE (x.st.getD (stnOf x.st a.stn).1 default) a.height).2≠0
  · rw [if_pos h2,(kp_marks (clashF_kp al x a)).2.2.2]; exact h
  · rw [if_neg h2]
    by_cases hi:(stnOf x.st a.stn).1 < x.st.length
    · exact h.move hi (by omega)
    · simp only; rw [List.set_eq_of_length_le (by omega)]; exact h
theorem raiseF_rr (al:List (Nm × Nt)) (x:Fs) (a:Nt):(raiseF al x a).rr=x.rr:=by
  unfold raiseF
  simp only
  split
  · exact (kp_marks (clashF_kp al x a)).2.2.1
  · rfl
theorem SameS.raiR {b st:List Stn} (a:Nt) (h:SameS b st):SameS b (raiR st a):=by
  unfold Go.Abs.raiR movR
  by_cases h2:(moveE (st.getD (stnOf st a.stn).1 default) a.height).2≠0
  · rw [if_pos h2]; exact h
  · rw [if_neg h2]
    by_cases hi:(stnOf st a.stn).1 < st.length
    · exact h.move hi (by omega)
    · rw [List.set_eq_of_length_le (by omega)]; exact h
theorem SameS.stsR {b:List Stn} (hb:(stnsE b).1=0) (T:List Nt):SameS b (stsR b T):=by
  unfold Go.Abs.stsR
  have key:∀ (L:List Nt) (st:List Stn),SameS b st→SameS b (L.foldl Go.Abs.raiR st):=by
    intro L
    induction L with
    | nil=>intro st h; exact h
    | cons a L ih=>intro st h; rw [List.foldl_cons]; exact ih _ (h.raiR a)
  exact key _ _ ⟨hb,rfl⟩
end Go.Abs
namespace Go.Proofs.YtolgelipcgcbhaaGreat
open Go.Abs
open Nat (reduceAdd reduceSub reduceLT reduceLeDiff reduceMul reduceEqDiff)
open Go.Abs renaming vcC→Q0,lateX→Q1,strp→Q2,binA→Q3,elems→Q4,cells→Q5,scalar→Q6,eqC→Q7,keyA→Q8,intsA→Q9,lookA→QA,ofVs→QB,mpOf→QC
set_option linter.unusedVariables false
set_option linter.unusedSimpArgs false
set_option maxHeartbeats 4000000
set_option maxRecDepth 100000
def c231:CF:=⟨23,(jo [jc 2 0] [0]
 (.seq (jo [jm 7 0,je 8 7,jc 9 0] [7,8,9]
 (.block 0 (.loop (jo [jt .lss 10 9 8] [7,8,9,10]
 (.seq (.cond (.t 10) .skip
 (.exit 0))
 (.seq (.block 1 (jo [ji 11 4 7 9,jk 12 4 11,jw 4 (.alloc 109 4 [.int .i64 0,.int .i64 0,.int .i64 0,.slice none 0 0]),js 4 4 12] [4,7,8,9]
 (jo [jk 14 4 4,jw 15 (.bsl false 109 4 1 [.int .i64 0,.int .i64 0,.int .i64 0,.slice none 0 0] [(0,4,(.t 14))]),jy 16 55 [15],jm 13 16,jz 17 0 13,jz 18 1 13,jm 5 17,jm 6 18] [5,7,8,9]
 (jo [jm 19 5,ju .neq 20 19 0] [5,7,8,9,20]
 (.cond (.t 20) (jo [jm 21 5,jm 2 21] [2]
 .ret)
 .skip)))))
 (.ops [ju .add 22 9 1,jm 9 22] [7,8,9])))))))
 (jo [jc 2 0] [2]
 .ret))),[.t 2]⟩
theorem k231:chkF Tryz.prog Tryz.f231 c231=true:=by kernel_rfl
def c193:CF:=⟨47,(jo [jw 2 (.box true 109 4 (.t 0)),jx 3 66 3 1,jw 4 (.alloc 109 4 [.int .i64 0,.int .i64 0,.int .i64 0,.slice none 0 0]),jc 5 0] [2,3,4]
 (.seq (jo [jk 8 4 2,jw 9 (.bsl false 109 4 1 [.int .i64 0,.int .i64 0,.int .i64 0,.slice none 0 0] [(0,4,(.t 8))]),jy 10 231 [9],jm 6 10] [2,3,4,6]
 (jo [jm 11 6,ju .neq 12 11 0] [2,3,4,6,12]
 (.cond (.t 12) (jo [jw 13 (.build [.int .i64 0,.int .i64 0,.int .i64 0,.slice none 0 0] []),jm 14 6,js 4 4 13,jm 5 14] [4,5]
 .ret)
 .skip)))
 (jo [jc 7 0] [2,3,4,7]
 (.seq (.block 0 (.loop (.seq (.seq (.draw [jm 15 7,jf 16 3 2,jl 17 16,je 18 17,jt .lss 19 15 18,jm 20 19,ja 20 (jf 21 3 2),ja 20 (jl 22 21),ja 20 (jm 23 7),ja 20 (ji 24 3 22 23),ja 20 (jf 25 0 24),ja 20 (jl 26 25),ja 20 (jf 27 0 3),ja 20 (jl 28 27),ja 20 (jt .lss 29 26 28),jp 30 20 29] [] [2,3,4,7,30])
 (.cond (.t 30) .skip
 (.exit 0)))
 (.block 1 (.ops [jm 31 7,ju .add 32 31 1,jm 7 32] [2,3,4,7])))))
 (.seq (.draww [0,1,3,4,5,2,6,7,8] [2,3,4] 1 [jf 33 3 2,jl 34 33,jm 36 7,jk 37 3 3,jw 38 (.bsl false 66 3 1 [.int .i64 0,.int .i64 0,.int .i64 0] [(0,3,(.t 37))])] [jy 35 125 [34],jy 39 232 [35,36,38],jf 40 3 2,js 1 40 39] [2,4])
 (.seq (jo [jf 41 3 2,jl 42 41,jy 43 123 [42],jv 44 43] [2,4,44]
 (.cond (.t 44) (jo [jw 45 (.build [.int .i64 0,.int .i64 0,.int .i64 0,.slice none 0 0] []),js 4 4 45,jc 5 51] [4,5]
 .ret)
 .skip))
 (jo [jk 46 4 2,js 4 4 46,jc 5 0] [4,5]
 .ret))))))),[.c 4 (some 4),.t 5]⟩
theorem k193:chkF Tryz.prog Tryz.f193 c193=true:=by kernel_rfl
theorem alone_spec (s:Stn) (hs:s.heights.length < 9223372036854775808):Pure Tryz.prog 231 [.sl 4 [s.cs]] (n (stnsE [s]).1):=by
  refine pB_ Tryz.call231 Tryz.func231 k231 ?_
  unfold c231
  have hc:=CheckStn_spec [s] ⟨by simp,by simpa using hs⟩
  simp only [snS,List.map_cons,List.map_nil] at hc
  generalize (stnsE [s]).1=e at hc
  generalize (stnsE [s]).2=v at hc
  ((refine Au ?_;repeat' constructor)<;>intros<;>refine hD_ ?_)
  refine AWPC.loopE (α:={ x:Nat × Sto // x.1≤1∧(x.1=1→e=0) }) [9] (fun x=>[(9,n x.1.1)]) (fun x=>x.1.2) (fun x=>1 - x.1.1) ⟨(0,[]),by omega,by simp⟩ ?_ rfl ?_
  · (simp only [zN,zT,zV,zS,zU,Q0,Q1,ex,Q2,Q3,Q4,Q5,Q6,Q7,Q8,Q9,QA,QB,QC,Nat.reduceBEq,reduceAdd,reduceSub,reduceLT,reduceLeDiff,reduceMul,reduceEqDiff,reduceIte]; try simp)
  · rintro ⟨⟨i,μ⟩,hi,hI⟩
    simp only at hi hI
    by_cases h0:i=0
    · subst h0
      ((refine Ay @hc ?_;repeat' constructor)<;>intros<;>refine hD_ ?_)
      all_goals try (exfalso;omega)
      · exact Frz.eq rfl (by simp)
      · exact ⟨⟨(1,μ++[some [⟨109,4,[s.cs],none⟩]]),by omega,fun _=>by omega⟩,by simp,by simp,by simp⟩
    · obtain rfl:i=1:=by omega
      have he:=hI rfl
      subst he
      ((refine Au ?_;repeat' constructor)<;>intros<;>refine hD_ ?_)
      all_goals try (exfalso;omega)
      all_goals exact Frz.eq rfl (by simp)
theorem putH_at {h:Hgt}:∀ {l:List Hgt} {k:Nat},k≤l.length→(∀ j,j < k→(l.getD j hgt0).week < h.week)→(k < l.length→¬ (l.getD k hgt0).week < h.week)→putH h l=l.take k++h::l.drop k
  | [],k,hk,_,_=>by
    obtain rfl:k=0:=by simpa using hk
    rfl
  | g::r,0,_,_,h2=>by
    have:¬ g.week < h.week:=h2 (by simp)
    unfold putH
    rw [if_neg this]; rfl
  | g::r,k+1,hk,h1,h2=>by
    have:g.week < h.week:=h1 0 (Nat.succ_pos _)
    unfold putH
    rw [if_pos this,List.take_succ_cons,List.drop_succ_cons,List.cons_append]
    congr 1
    refine putH_at (by simpa using hk) (fun j hj=>?_) (fun hkl=>?_)
    · have:=h1 (j+1) (by omega)
      simpa using this
    · have:=h2 (by simpa using hkl)
      simpa using this
theorem cloneHgO (l:List Hgt) (h0:l≠[]) (hl:l.length * 24≤140737488355328) (σ:Sto):Does Tryz.prog 125 [hgS l] σ (OwnAt σ 66 3 (l.map Hgt.cs)):=by
  refine dB_ Tryz.call125 Tryz.func125 k125 ?_
  unfold c125
  have hne:l.map Hgt.cs≠[]:=by simpa using h0
  ((refine Au ?_;repeat' constructor)<;>intros<;>refine hD_ ?_)
  exact .mk [] (by simp) rfl
theorem Move_spec (s:Stn) (h:Hgt) (hs:s.heights.length < 1000000):Pure Tryz.prog 193 [.agg s.cs,.agg h.cs] (.tup [.agg (moveE s h).1.cs,n (moveE s h).2]):=by
  refine pB_ Tryz.call193 Tryz.func193 k193 ?_
  unfold c193
  have ha:=alone_spec s (by omega)
  by_cases he:(stnsE [s]).1=0
  · rw [he] at ha
    have hne:s.heights≠[]:=by
      have:=(stnE_zero.1 ((stnsE_zero.1 he).2 0 (by simp))).2.2.2.2
      have h1:inr s.heights.length 1 16:=this.1
      intro e; rw [e] at h1; exact absurd h1.1 (by decide)
    have hl0:0 < s.heights.length:=List.length_pos_iff.2 hne
    have hE:moveE s h=if highOk (putH h s.heights) then ({ s with heights:=putH h s.heights },0) else (default,51):=by unfold moveE; rw [if_neg (by omega)]
    rw [hE]
    have hcl:=fun σ=>cloneHgO s.heights hne (by omega) σ
    have hhi:=fun l hl=>high_spec l hl
    clear hE
    obtain ⟨id,sx,sy,L⟩:=s
    simp only at hs hl0 hcl hne ⊢
    ((refine Ay @ha ?_;repeat' constructor)<;>intros<;>refine hD_ ?_)
    all_goals try (exfalso;omega)
    refine AWPC.loopS (α:={ k:Nat // k≤L.length∧∀ j,j < k→(L.getD j hgt0).week < h.week }) [7] (fun k=>[(7,n k.1)]) (fun k=>L.length - k.1) ⟨0,Nat.zero_le _,fun j hj=>absurd hj (Nat.not_lt_zero _)⟩ ?_ ?_
    · (simp only [zN,zT,zV,zS,zU,Q0,Q1,ex,Q2,Q3,Q4,Q5,Q6,Q7,Q8,Q9,QA,QB,QC,Nat.reduceBEq,reduceAdd,reduceSub,reduceLT,reduceLeDiff,reduceMul,reduceEqDiff,reduceIte]; try simp)
    · rintro ⟨k,hk,hI⟩
      try simp only at hk hI
      by_cases hcont:k < L.length∧(L.getD k hgt0).week < h.week
      · obtain ⟨hlt,hw⟩:=hcont
        have hrow:(L.map Hgt.cs).getD k []=Hgt.cs (L.getD k hgt0):=row hgt0 hlt
        have hI2:∀ j,j < k+1→(L.getD j hgt0).week < h.week:=all_next hI hw
        generalize L.getD k hgt0=g at hrow hw
        ((refine Ax @hrow ?_;repeat' constructor)<;>intros<;>refine hD_ ?_)
        all_goals try (exfalso;omega)
        exact ⟨⟨k+1,hlt,hI2⟩,by simp,by simp only; omega⟩
      · by_cases hlt:k < L.length
        · have hrow:(L.map Hgt.cs).getD k []=Hgt.cs (L.getD k hgt0):=row hgt0 hlt
          have hw:¬ (L.getD k hgt0).week < h.week:=fun hw=>hcont ⟨hlt,hw⟩
          generalize L.getD k hgt0=g at hrow hw
          ((refine Ax @hrow ?_;repeat' constructor)<;>intros<;>refine hD_ ?_)
          all_goals try (exfalso;omega)
          refine .inr ⟨_,_,_,_,rfl,hcl _,?_⟩
          rintro r σ' ⟨ν,rfl,rfl⟩
          refine ⟨rfl,?_⟩
          simp only [zN,zT,zV,zS,zU,Q0,Q1,ex,Q2,Q3,Q4,Q5,Q6,Q7,Q8,Q9,QA,QB,QC,Nat.reduceBEq,reduceAdd,reduceSub,reduceLT,reduceLeDiff,reduceMul,reduceEqDiff,reduceIte,List.length_map]
          refine .inr (.inl ⟨_,_,_,_,rfl,fun _=>⟨insert_does _ 2 L h k rfl hl0 hk hs,?_⟩,fun h=>by cases h⟩)
          rintro r σ' ⟨rfl,rfl⟩
          refine Zy ?_
          have hF:=putH_at hk hI (fun hlt hw=>hcont ⟨hlt,hw⟩)
          have hmap:(L.map Hgt.cs).take k++h.cs::(L.map Hgt.cs).drop k=(putH h L).map Hgt.cs:=by rw [hF]; simp
          have hMl:(putH h L).length=L.length+1:=by rw [hF]; simp; omega
          rw [hmap]
          clear hF hmap hI hcont
          have hpk:∀ A B ν,Peek Tryz.prog 123 [.own 2 0 (L.length+1)] (A::B::some [⟨66,3,(putH h L).map Hgt.cs,none⟩]::ν) (bl (decide (highOk (putH h L)))):=fun A B ν =>
            Peek.plain (high_spec (putH h L) (by omega)) (Plain.v _) ⟨Frz.ownL (f:=2) rfl hMl (by decide) (fun a c hc=>by simp at hc; rcases hc with rfl | rfl | rfl <;> simp) (fun a=>rfl),trivial⟩
          generalize putH h L=M at hMl hpk ⊢
          simp only [zN,zT,zV,zS,zU,Q0,Q1,ex,Q2,Q3,Q4,Q5,Q6,Q7,Q8,Q9,QA,QB,QC,Nat.reduceBEq,reduceAdd,reduceSub,reduceLT,reduceLeDiff,reduceMul,reduceEqDiff,reduceIte,hMl]
          by_cases hok:highOk M
          · rw [decide_eq_true hok] at hpk
            rw [if_pos hok]
            (repeat' ((first
 | refine vn rfl ?_
 | simp (disch:=omega) only [wr64,Int.zero_sub]
 | refine bo (fun _=>?_) fun _=>?_
 | refine im fun _=>?_
 | ((repeat refine si ?_); ((first | refine .inl ⟨_,_,_,_,rfl,fun _=>(by first | exact hpk _ _ _),?_⟩ | refine ⟨_,_,_,_,rfl,fun _=>(by first | exact hpk _ _ _),?_⟩); (first | refine o1 ?_ | refine o2 ?_ | refine o3 ?_ | refine o4 ?_)))
 | refine cF ?_
 | refine om ?_
 | refine an ?_
 | fail) <;> try simp only [zN, zT, zV, zS, zU, vcC, lateX, ex, strp, binA, elems, cells, scalar, eqC, keyA, intsA, lookA, ofVs, mpOf, Nat.reduceBEq, reduceAdd, reduceSub, reduceLT, reduceLeDiff, reduceMul, reduceEqDiff, reduceIte, hMl]))
            all_goals try (exfalso;omega)
            exact Frz.tupL ⟨Frz.aggL ⟨Frz.pure (by simp),Frz.pure (by simp),Frz.pure (by simp),Frz.ownL (f:=2) (T:=66) (cs:=Hgt.cs) rfl hMl (by decide) (fun a c hc=>by simp at hc; rcases hc with rfl | rfl | rfl <;> simp) (fun a=>rfl),trivial⟩,Frz.pure (by simp),trivial⟩
          · rw [decide_eq_false hok] at hpk
            rw [if_neg hok]
            (repeat' ((first
 | refine vn rfl ?_
 | simp (disch:=omega) only [wr64,Int.zero_sub]
 | refine bo (fun _=>?_) fun _=>?_
 | refine im fun _=>?_
 | ((repeat refine si ?_); ((first | refine .inl ⟨_,_,_,_,rfl,fun _=>(by first | exact hpk _ _ _),?_⟩ | refine ⟨_,_,_,_,rfl,fun _=>(by first | exact hpk _ _ _),?_⟩); (first | refine o1 ?_ | refine o2 ?_ | refine o3 ?_ | refine o4 ?_)))
 | refine cF ?_
 | refine om ?_
 | refine an ?_
 | fail) <;> try simp only [zN, zT, zV, zS, zU, vcC, lateX, ex, strp, binA, elems, cells, scalar, eqC, keyA, intsA, lookA, ofVs, mpOf, Nat.reduceBEq, reduceAdd, reduceSub, reduceLT, reduceLeDiff, reduceMul, reduceEqDiff, reduceIte, hMl]))
            all_goals try (exfalso;omega)
            exact Frz.tupL ⟨Frz.aggL ⟨Frz.pure (by simp),Frz.pure (by simp),Frz.pure (by simp),Frz.nil0,trivial⟩,Frz.pure (by simp),trivial⟩
        · have hrow:(L.map Hgt.cs).getD k []=[]:=by rw [List.getD_eq_getElem?_getD,List.getElem?_eq_none (by simp; omega)]; rfl
          ((refine Ax @hrow ?_;repeat' constructor)<;>intros<;>refine hD_ ?_)
          all_goals try (exfalso;omega)
          refine .inr ⟨_,_,_,_,rfl,hcl _,?_⟩
          rintro r σ' ⟨ν,rfl,rfl⟩
          refine ⟨rfl,?_⟩
          simp only [zN,zT,zV,zS,zU,Q0,Q1,ex,Q2,Q3,Q4,Q5,Q6,Q7,Q8,Q9,QA,QB,QC,Nat.reduceBEq,reduceAdd,reduceSub,reduceLT,reduceLeDiff,reduceMul,reduceEqDiff,reduceIte,List.length_map]
          refine .inr (.inl ⟨_,_,_,_,rfl,fun _=>⟨insert_does _ 2 L h k rfl hl0 hk hs,?_⟩,fun h=>by cases h⟩)
          rintro r σ' ⟨rfl,rfl⟩
          refine Zy ?_
          have hF:=putH_at hk hI (fun hlt hw=>hcont ⟨hlt,hw⟩)
          have hmap:(L.map Hgt.cs).take k++h.cs::(L.map Hgt.cs).drop k=(putH h L).map Hgt.cs:=by rw [hF]; simp
          have hMl:(putH h L).length=L.length+1:=by rw [hF]; simp; omega
          rw [hmap]
          clear hF hmap hI hcont
          have hpk:∀ A B ν,Peek Tryz.prog 123 [.own 2 0 (L.length+1)] (A::B::some [⟨66,3,(putH h L).map Hgt.cs,none⟩]::ν) (bl (decide (highOk (putH h L)))):=fun A B ν =>
            Peek.plain (high_spec (putH h L) (by omega)) (Plain.v _) ⟨Frz.ownL (f:=2) rfl hMl (by decide) (fun a c hc=>by simp at hc; rcases hc with rfl | rfl | rfl <;> simp) (fun a=>rfl),trivial⟩
          generalize putH h L=M at hMl hpk ⊢
          simp only [zN,zT,zV,zS,zU,Q0,Q1,ex,Q2,Q3,Q4,Q5,Q6,Q7,Q8,Q9,QA,QB,QC,Nat.reduceBEq,reduceAdd,reduceSub,reduceLT,reduceLeDiff,reduceMul,reduceEqDiff,reduceIte,hMl]
          by_cases hok:highOk M
          · rw [decide_eq_true hok] at hpk
            rw [if_pos hok]
            (repeat' ((first
 | refine vn rfl ?_
 | simp (disch:=omega) only [wr64,Int.zero_sub]
 | refine bo (fun _=>?_) fun _=>?_
 | refine im fun _=>?_
 | ((repeat refine si ?_); ((first | refine .inl ⟨_,_,_,_,rfl,fun _=>(by first | exact hpk _ _ _),?_⟩ | refine ⟨_,_,_,_,rfl,fun _=>(by first | exact hpk _ _ _),?_⟩); (first | refine o1 ?_ | refine o2 ?_ | refine o3 ?_ | refine o4 ?_)))
 | refine cF ?_
 | refine om ?_
 | refine an ?_
 | fail) <;> try simp only [zN, zT, zV, zS, zU, vcC, lateX, ex, strp, binA, elems, cells, scalar, eqC, keyA, intsA, lookA, ofVs, mpOf, Nat.reduceBEq, reduceAdd, reduceSub, reduceLT, reduceLeDiff, reduceMul, reduceEqDiff, reduceIte, hMl]))
            all_goals try (exfalso;omega)
            exact Frz.tupL ⟨Frz.aggL ⟨Frz.pure (by simp),Frz.pure (by simp),Frz.pure (by simp),Frz.ownL (f:=2) (T:=66) (cs:=Hgt.cs) rfl hMl (by decide) (fun a c hc=>by simp at hc; rcases hc with rfl | rfl | rfl <;> simp) (fun a=>rfl),trivial⟩,Frz.pure (by simp),trivial⟩
          · rw [decide_eq_false hok] at hpk
            rw [if_neg hok]
            (repeat' ((first
 | refine vn rfl ?_
 | simp (disch:=omega) only [wr64,Int.zero_sub]
 | refine bo (fun _=>?_) fun _=>?_
 | refine im fun _=>?_
 | ((repeat refine si ?_); ((first | refine .inl ⟨_,_,_,_,rfl,fun _=>(by first | exact hpk _ _ _),?_⟩ | refine ⟨_,_,_,_,rfl,fun _=>(by first | exact hpk _ _ _),?_⟩); (first | refine o1 ?_ | refine o2 ?_ | refine o3 ?_ | refine o4 ?_)))
 | refine cF ?_
 | refine om ?_
 | refine an ?_
 | fail) <;> try simp only [zN, zT, zV, zS, zU, vcC, lateX, ex, strp, binA, elems, cells, scalar, eqC, keyA, intsA, lookA, ofVs, mpOf, Nat.reduceBEq, reduceAdd, reduceSub, reduceLT, reduceLeDiff, reduceMul, reduceEqDiff, reduceIte, hMl]))
            all_goals try (exfalso;omega)
            exact Frz.tupL ⟨Frz.aggL ⟨Frz.pure (by simp),Frz.pure (by simp),Frz.pure (by simp),Frz.nil0,trivial⟩,Frz.pure (by simp),trivial⟩
  · have hE:moveE s h=(default,(stnsE [s]).1):=by unfold moveE; rw [if_pos he]
    rw [hE]
    generalize (stnsE [s]).1=e at ha he
    ((refine Ay @ha ?_;repeat' constructor)<;>intros<;>refine hD_ ?_)
    all_goals try (exfalso;omega)
    all_goals exact Frz.tupL ⟨Frz.aggL ⟨Frz.pure (by simp),Frz.pure (by simp),Frz.pure (by simp),Frz.nil0,trivial⟩,Frz.pure (by simp),trivial⟩
def c146:CF:=⟨46,(jo [jx 3 68 38 1] [0,3]
 (.seq (.draw [jm 9 0,jw 10 (.nilc (.t 9)),jf 11 8 10,jf 12 2 11,jl 13 12,jf 14 5 3,jl 15 14,jy 16 192 [13,15],jm 8 16,jz 17 0 8,jz 18 1 8,jm 4 17,jm 5 18] [] [0,3,4])
 (.seq (.drawl 13 [jm 20 0,jw 21 (.nilc (.t 20)),jf 22 8 21,jf 23 2 22,jl 24 23,jm 25 4,ji 26 4 24 25,jk 27 4 26,jf 28 33 3,jk 29 3 28,jy 30 193 [27,29],jm 19 30,jz 31 0 19,jz 32 1 19,jw 6 (.alloc 109 4 [.int .i64 0,.int .i64 0,.int .i64 0,.slice none 0 0])] [js 4 6 31,jm 7 32] [0,3,4,6,7])
 (.seq (jo [jm 33 7,ju .neq 34 33 0] [0,3,4,6,34]
 (.cond (.t 34) (jo [jm 35 0,jk 36 38 3,jy 37 148 [35,36]] []
 .ret)
 .skip))
 (.draw [jm 38 0,jw 39 (.nilc (.t 38)),jf 40 8 39,jf 41 2 40,jl 42 41,jm 43 4,jk 44 4 6,ji 45 4 42 43] [js 4 45 44] []))))),[]⟩
theorem k146:chkF Tryz.prog Tryz.f146 c146=true:=by kernel_rfl
theorem rd_pc (a:Rd):∀ c∈a.cs,PureV c:=fun c hc=>by simp at hc; rcases hc with rfl | rfl | rfl | rfl | rfl <;> simp
theorem sn_pc (a:Stn):∀ c∈a.cs,PureV c:=fun c hc=>by simp at hc; rcases hc with rfl | rfl | rfl | rfl <;> simp
theorem nm_pc (a:Nm):∀ c∈a.cs,PureV c:=fun c hc=>by simp at hc; rcases hc with rfl | rfl <;> simp
theorem rgr_pc (r:Rgr):∀ c∈r.cs,PureV c:=fun c hc=>by
  simp only [List.mem_cons,List.not_mem_nil,or_false] at hc
  rcases hc with rfl | rfl | rfl | rfl
  · exact fdS_pure _
  · exact pv_rows 5 _ rd_pc
  · exact pv_rows 4 _ sn_pc
  · exact pv_rows 2 _ nm_pc
@[simp] theorem rgr_pa (r:Rgr):PureV (.agg r.cs):=.agg (rgr_pc r)
@[simp] theorem rgr_pi (r:Rgr) (j:Nat):PureV (.iptr r.cs j):=.iptr (rgr_pc r)
@[simp] theorem rdS_pure (l:List Rd):PureV (rdS l):=pv_rows 5 _ rd_pc
@[simp] theorem snS_pure (l:List Stn):PureV (snS l):=pv_rows 4 _ sn_pc
@[simp] theorem nmS_pure (l:List Nm):PureV (nmS l):=pv_rows 2 _ nm_pc
theorem raise_does (N:Nat) (al:List (Nm × Nt)) (x:Fs) (o:List Nm) (a:Nt) (hst:(stnsE x.st).1=0) (hp:(stnOf x.st a.stn).2=0) (ν:Sto) :
    Does Tryz.prog 146 [.ptr 8 0 1 0 0,ntA a] (FST N (alA al) x o++ν) (FR N (alA al) (raiseF al x a) o ν):=by
  refine dB_ Tryz.call146 Tryz.func146 k146 ?_
  unfold c146
  have hc:=fun μ=>clash_does N al x o a μ
  obtain ⟨hx1,hx2⟩:=stns_small hst
  have hS:=fun μ=>(Peek.plain (StationOf_spec x.st ⟨by omega,fun s hs=>by have:=hx2 s hs; omega⟩ a.stn) (Plain.t2 _ _) ⟨Frz.ownL (σ:=FST N (alA al) x o++μ) (f:=13) (T:=109) rfl rfl (by decide) (fun a=>sn_pc a) (fun a=>rfl),Frz.pure (by simp),trivial⟩ :
    Peek Tryz.prog 192 [.own 13 0 x.st.length,n a.stn] (FST N (alA al) x o++μ) (.tup [n (stnOf x.st a.stn).1,n (stnOf x.st a.stn).2]))
  obtain ⟨hi,_⟩:=stnOf_lt hp
  have hrow:(x.st.map Stn.cs).getD (stnOf x.st a.stn).1 []=Stn.cs (x.st.getD (stnOf x.st a.stn).1 default):=row default hi
  have hM:=Move_spec (x.st.getD (stnOf x.st a.stn).1 default) a.height (by have:=hx2 _ (List.mem_of_getElem? (getD_lt default hi)); omega)
  have hE:raiseF al x a=if (moveE (x.st.getD (stnOf x.st a.stn).1 default) a.height).2≠0 then clashF al x a else { x with st:=x.st.set (stnOf x.st a.stn).1 (moveE (x.st.getD (stnOf x.st a.stn).1 default) a.height).1 }:=rfl
  rw [hp] at hS
  generalize (stnOf x.st a.stn).1=i at hS hi hrow hM hE
  generalize x.st.getD i default=s at hrow hM hE
  generalize hr1:(moveE s a.height).1=r at hM hE
  generalize hr2:(moveE s a.height).2=e at hM hE
  simp only [FST,List.cons_append,List.nil_append]
  by_cases he:e=0
  · rw [hE,if_neg (by omega)]
    subst he
    (repeat' ((first
 | refine vn rfl ?_
 | simp (disch:=omega) only [wr64,Int.zero_sub]
 | refine bo (fun _=>?_) fun _=>?_
 | refine im fun _=>?_
 | ((repeat refine si ?_); ((first | refine .inl ⟨_,_,_,_,rfl,fun _=>(by first | exact hS _),?_⟩ | refine ⟨_,_,_,_,rfl,fun _=>(by first | exact hS _),?_⟩); (first | refine o1 ?_ | refine o2 ?_ | refine o3 ?_ | refine o4 ?_)))
 | ((repeat refine si ?_); (first | ((first | refine .inl ⟨_,_,_,_,rfl,fun _=>pu hM,?_⟩ | refine ⟨_,_,_,_,rfl,fun _=>pu hM,?_⟩); (first | refine o1 ?_ | refine o2 ?_ | refine o3 ?_ | refine o4 ?_)) | refine .inl ⟨_,_,_,_,rfl,pu hM,?_⟩))
 | refine cF ?_
 | refine om ?_
 | refine an ?_
 | fail) <;> try simp only [zN,zT,zV,zS,zU,Q0,Q1,ex,Q2,Q3,Q4,Q5,Q6,Q7,Q8,Q9,QA,QB,QC,Nat.reduceBEq,reduceAdd,reduceSub,reduceLT,reduceLeDiff,reduceMul,reduceEqDiff,reduceIte,hrow]))
    all_goals try (exfalso;omega)
    refine .mk [some [⟨109,4,[r.cs],none⟩]] ?_
    simp [FST,rwO,flO,List.map_set]
  · rw [hE,if_pos he]
    (repeat' ((first
 | refine vn rfl ?_
 | simp (disch:=omega) only [wr64,Int.zero_sub]
 | refine bo (fun _=>?_) fun _=>?_
 | refine im fun _=>?_
 | ((repeat refine si ?_); ((first | refine .inl ⟨_,_,_,_,rfl,fun _=>(by first | exact hS _),?_⟩ | refine ⟨_,_,_,_,rfl,fun _=>(by first | exact hS _),?_⟩); (first | refine o1 ?_ | refine o2 ?_ | refine o3 ?_ | refine o4 ?_)))
 | ((repeat refine si ?_); (first | ((first | refine .inl ⟨_,_,_,_,rfl,fun _=>pu hM,?_⟩ | refine ⟨_,_,_,_,rfl,fun _=>pu hM,?_⟩); (first | refine o1 ?_ | refine o2 ?_ | refine o3 ?_ | refine o4 ?_)) | refine .inl ⟨_,_,_,_,rfl,pu hM,?_⟩))
 | refine cF ?_
 | refine om ?_
 | refine an ?_
 | fail) <;> try simp only [zN,zT,zV,zS,zU,Q0,Q1,ex,Q2,Q3,Q4,Q5,Q6,Q7,Q8,Q9,QA,QB,QC,Nat.reduceBEq,reduceAdd,reduceSub,reduceLT,reduceLeDiff,reduceMul,reduceEqDiff,reduceIte,hrow]))
    all_goals try (exfalso;omega)
    refine .inr (.inl ⟨_,_,_,_,rfl,fun _=>⟨hc _,?_⟩,fun h=>by cases h⟩)
    rintro r' σ' ⟨ν',rfl⟩
    refine Zy ?_
    simp only [zN,zT,zV,zS,zU,Q0,Q1,ex,Q2,Q3,Q4,Q5,Q6,Q7,Q8,Q9,QA,QB,QC,Nat.reduceBEq,reduceAdd,reduceSub,reduceLT,reduceLeDiff,reduceMul,reduceEqDiff,reduceIte]
    ((refine Au ?_;repeat' constructor)<;>intros<;>refine hD_ ?_)
    refine .mk ([some [⟨109,4,[r.cs],none⟩]]++ν') (by simp)
def c81:CF:=⟨105,(jo [jx 2 26 6 0,jx 3 27 1 1,jw 4 (.alloc 37 4 [.slice none 0 0,.slice none 0 0,.slice none 0 0,.slice none 0 0])] [2,3,4]
 (jo [jl 10 3,jy 11 87 [10],jw 12 (.mkmp 2),jw 13 (.mkmp 2),jw 14 (.mkmp 2),jw 15 (.mkmp 2),jw 16 (.mkmp 2),jw 17 (.mkmp 2),jw 18 (.mkmp 2),jw 19 (.build [.map none,.map none,.map none,.map none,.map none,.map none,.map none,.map none,.slice none 0 0,.slice none 0 0,.slice none 0 0,.slice none 0 0] [(0,1,(.t 11)),(1,1,(.t 12)),(2,1,(.t 13)),(3,1,(.t 14)),(4,1,(.t 15)),(5,1,(.t 16)),(6,1,(.t 17)),(7,1,(.t 18))]),jw 5 (.alloc 194 12 [.map none,.map none,.map none,.map none,.map none,.map none,.map none,.map none,.slice none 0 0,.slice none 0 0,.slice none 0 0,.slice none 0 0]),js 12 5 19] [2,3,4,5]
 (jo [jf 20 0 2,jl 21 20,jy 22 97 [21],jf 23 8 5,jf 24 2 23,js 1 24 22] [3,4,5]
 (.seq (jo [jl 25 3,jw 26 (.bsl false 3 1 2 [.int .i64 0,.int .i64 0] [(0,1,(.c (.int .i64 1))),(1,1,(.c (.int .i64 3)))]),jy 27 88 [25,26]] [3,4,5,27]
 (.block 0 (.rng (.t 27) [28] (.ops [jw 6 (.alloc 68 38 z38),js 38 6 28] [3,4,5,6])
 (.block 1 (.seq (jo [jf 29 4 6,jl 30 29,ju .eql 31 30 3] [3,4,5,6,31]
 (.cond (.t 31) (.seq (.draw [jf 32 6 5,jl 33 32,jk 34 38 6,jy 35 89 [34],jf 36 28 6,jk 37 5 36] [⟨none,.mput 2 (.t 33) (.t 35) (.t 37),none⟩] [3,4,5])
 (.exit 1))
 .skip))
 (.seq (.draw [jf 38 1 5,jl 39 38,jk 40 38 6,jy 41 89 [40],jk 42 38 6] [⟨none,.mput 2 (.t 39) (.t 41) (.t 42),none⟩] [3,4,5,6])
 (.draw [jf 43 2 5,jl 44 43,jk 45 38 6,jy 46 89 [45],jf 47 5 6,jl 48 47,jf 49 6 6,jl 50 49,jw 51 (.build [.pointer none,.int .i64 0,.int .i64 0] [(1,1,(.t 48)),(2,1,(.t 50))])] [⟨none,.mput 2 (.t 44) (.t 46) (.t 51),none⟩] [3,4,5])))))))
 (jo [jw 52 (.mkfn (.func 141) [] [(.t 3)]),jm 7 52] [3,4,5,7]
 (jo [jm 53 7,jw 54 (.mkfn (.func 142) [(.t 5)] []),jw 55 (.bsl false 3 1 1 [.int .i64 0] [(0,1,(.c (.int .i64 5)))]),jw 56 (.call (.t 53) [(.t 54),(.t 55)])] [3,4,5,7]
 (jo [jm 57 7,jw 58 (.mkfn (.func 143) [(.t 5)] []),jw 59 (.bsl false 3 1 1 [.int .i64 0] [(0,1,(.c (.int .i64 2)))]),jw 60 (.call (.t 57) [(.t 58),(.t 59)])] [3,4,5,7]
 (jo [jm 61 7,jw 62 (.mkfn (.func 144) [(.t 5)] []),jw 63 (.bsl false 3 1 1 [.int .i64 0] [(0,1,(.c (.int .i64 6)))]),jw 64 (.call (.t 61) [(.t 62),(.t 63)])] [3,4,5,7]
 (jo [jm 65 7,jw 66 (.mkfn (.func 145) [(.t 5)] []),jw 67 (.bsl false 3 1 1 [.int .i64 0] [(0,1,(.c (.int .i64 1)))]),jw 68 (.call (.t 65) [(.t 66),(.t 67)])] [3,4,5,7]
 (jo [jm 69 7,jw 70 (.mkfn (.func 146) [(.t 5)] []),jw 71 (.bsl false 3 1 1 [.int .i64 0] [(0,1,(.c (.int .i64 4)))]),jw 72 (.call (.t 69) [(.t 70),(.t 71)])] [3,4,5,7]
 (jo [jm 73 7,jw 74 (.mkfn (.func 147) [] [(.t 5)]),jw 75 (.bsl false 3 1 1 [.int .i64 0] [(0,1,(.c (.int .i64 3)))]),jw 76 (.call (.t 73) [(.t 74),(.t 75)])] [3,4,5]
 (.seq (jo [jl 77 3,je 78 77,jc 79 0] [4,5,77,78,79]
 (.block 2 (.loop (jo [jt .lss 80 79 78] [4,5,77,78,79,80]
 (.seq (.cond (.t 80) .skip
 (.exit 2))
 (.seq (.block 3 (jo [ji 81 38 77 79,jk 82 38 81,jw 9 (.alloc 68 38 z38),js 38 9 82] [4,5,9,77,78,79]
 (.seq (jo [jf 83 4 9,jl 84 83,ju .eql 85 84 7] [4,5,9,77,78,79,85]
 (.cond (.t 85) (.ops [jk 86 38 9,jy 87 148 [5,86]] [4,5,9,77,78,79])
 .skip))
 (.seq (.draw [jf 88 7 5,jl 89 88,jk 90 38 9,jy 91 89 [90],jw 92 (.look 2 false [.bool false] false (.t 89) (.t 91))] [] [4,5,9,77,78,79,92])
 (.cond (.t 92) (.draw [jf 93 8 5,jf 94 3 93,jl 95 94,jk 96 38 9,jy 97 89 [96],jw 98 (.bsl false 29 2 1 [.int .i64 0,.int .i64 0] [(0,2,(.t 97))])] [jw 99 (.app 29 2 16 (.t 95) (.t 98)),jf 100 8 5,jf 101 3 100,js 1 101 99] [4,5,77,78,79])
 .skip)))))
 (.ops [ju .add 102 79 1,jm 79 102] [4,5,77,78,79])))))))
 (jo [jf 103 8 5,jk 104 4 103,js 4 4 104] [4]
 .ret))))))))))))),[.c 4 (some 4)]⟩
theorem k81:chkF Tryz.prog Tryz.f81 c81=true:=by kernel_rfl
theorem fold_spec (b:Bse) (l:List Nt) (hl:setSz l) (h400:l.length≤400) (hn:(l.map Nt.nm).Nodup) (hst:b.stns.length * 48≤140737488355328) (hh:∀ s∈b.stns,s.heights.length * 24≤140737488355328)
    (hsh:∀ a∈l,a.kind=1→shtC a.sheet) (hb0:(stnsE b.stns).1=0) (hp:∀ a∈l,a.kind=4→(stnOf b.stns a.stn).2=0):Pure Tryz.prog 81 [.agg b.cs,ntS l] (.agg (foldT b l).cs):=by
  refine pB_ Tryz.call81 Tryz.func81 k81 ?_
  unfold c81
  have hb:=byName_spec l hl
  obtain ⟨al,hal⟩:∃ al,al=byName l:=⟨_,rfl⟩
  rw [← hal] at hb
  iterate 3
    ((first
 | refine vn rfl ?_
 | simp (disch:=omega) only [wr64,Int.zero_sub]
 | refine bo (fun _=>?_) fun _=>?_
 | refine im fun _=>?_
 | ((repeat refine si ?_); (first | ((first | refine .inl ⟨_,_,_,_,rfl,fun _=>pu hb,?_⟩ | refine ⟨_,_,_,_,rfl,fun _=>pu hb,?_⟩); (first | refine o1 ?_ | refine o2 ?_ | refine o3 ?_ | refine o4 ?_)) | refine .inl ⟨_,_,_,_,rfl,pu hb,?_⟩))
 | refine cF ?_
 | refine om ?_
 | refine an ?_
 | fail) <;> try simp only [zN,zT,zV,zS,zU,Q0,Q1,ex,Q2,Q3,Q4,Q5,Q6,Q7,Q8,Q9,QA,QB,QC,Nat.reduceBEq,reduceAdd,reduceSub,reduceLT,reduceLeDiff,reduceMul,reduceEqDiff,reduceIte])
  refine AWPC.own0c 72 24 (f:=8) (i:=0) (e:=0) (j:=8) rfl (by simp) rfl ?_
  refine AWPC.own0c 64 5 (f:=8) (i:=0) (e:=0) (j:=9) rfl (by simp) rfl ?_
  refine AWPC.own0c 29 2 (f:=8) (i:=0) (e:=0) (j:=11) rfl (by simp) rfl ?_
  refine AWPC.own0F 29 2 l.length ?_
  refine AWPC.sto (σ':=[rgO,mpO [],mpO [],mpO [],mpO [],mpO [],mpO [],mpO [],some [⟨194,12,[[alA al,.mp 1,.mp 2,.mp 3,.mp 4,.mp 5,.mp 6,.mp 7,.own 9 0 0,.own 10 0 0,.v (.slice none 0 0),.own 11 0 0]],none⟩],
    some [⟨72,24,[],none⟩],some [⟨64,5,[],none⟩],some [⟨29,2,[],none⟩],some (mkF l.length [])]) rfl ?_
  obtain ⟨MF,hMF⟩:∃ MF,MF=mkF l.length []:=⟨_,rfl⟩
  rw [← hMF]
  ((refine Au ?_;repeat' constructor)<;>intros<;>refine hD_ ?_)
  refine .inr (.inl ⟨_,_,_,_,rfl,fun _=>⟨copiedStations_does b.stns hst hh _,?_⟩,fun h=>by cases h⟩)
  rintro r σ' ⟨ν,rfl,rfl⟩
  refine Zy ?_
  simp only [zN,zT,zV,zS,zU,Q0,Q1,ex,Q2,Q3,Q4,Q5,Q6,Q7,Q8,Q9,QA,QB,QC,Nat.reduceBEq,reduceAdd,reduceSub,reduceLT,reduceLeDiff,reduceMul,reduceEqDiff,reduceIte,List.length_map]
  have h2:=standing_spec l hl h400 hn [1,3] (inS [1,3]) (.inl rfl)
  have hit:=stand_iter l h400 [1,3] (by simp) (inS [1,3]) (.inl rfl)
  ((refine Ay @h2 ?_;repeat' constructor)<;>intros<;>refine hD_ ?_)
  refine AWPC.sto (σ':=FST l.length (alA al) (fs0 b) []++ν) (by rw [hMF]; rfl) ?_
  generalize hS:standK l [1,3]=S at hit
  refine AWPC.rng (fun y:{ y:Fs // True }=>FST l.length (alA al) y.1 []++ν) (14+List.length ν) (fun _=>by simp [FST]; omega) (fun i y=>y.1=(S.take i).foldl beginF (fs0 b)) (fun _ _=>False) (ntTr S) ⟨fs0 b,trivial⟩
      rfl rfl rfl hit (fun k args h=>?_) (fun i y args ll ρ τ hk hy=>?_) (fun y τ hy=>?_) (fun _ _ _ h=>h.elim)
  · obtain ⟨a,_,rfl⟩:=ntTr_get h
    rfl
  · obtain ⟨y,_⟩:=y
    simp only at hy
    subst hy
    obtain ⟨a,hs,rfl⟩:=ntTr_get hk
    have htk:(S.take (i+1)).foldl beginF (fs0 b)=beginF ((S.take i).foldl beginF (fs0 b)) a:=by
      rw [List.take_add_one,hs]; simp
    simp only [par]
    generalize hY:(S.take i).foldl beginF (fs0 b)=Y at htk
    obtain ⟨C,hC⟩:∃ C,C=FST l.length (alA al) Y []++ν:=⟨_,rfl⟩
    have hlC:List.length C=List.length ν+14:=by rw [hC]; simp [FST]
    simp only [← hC]
    ((refine Au ?_;repeat' constructor)<;>intros<;>refine hD_ ?_)
    refine ⟨⟨Y,trivial⟩,[some [⟨68,38,[a.cs],none⟩]],by simp [hC],fun ρ'=>?_⟩
    have hT:∀ (x0 x1 x2 x3 x4 x5 x6 x7 x8 x9 x10 x11 x12 x13:Option (List Ob)) (u:Ob),Sto.at (x0::x1::x2::x3::x4::x5::x6::x7::x8::x9::x10::x11::x12::x13::(ν++ρ'::(τ++[some [u]]))) (List.length C+(List.length τ+1)) 0=some u:=fun x0 x1 x2 x3 x4 x5 x6 x7 x8 x9 x10 x11 x12 x13 u=>by
      have e:(x0::x1::x2::x3::x4::x5::x6::x7::x8::x9::x10::x11::x12::x13::(ν++ρ'::(τ++[some [u]])):Sto)=(x0::x1::x2::x3::x4::x5::x6::x7::x8::x9::x10::x11::x12::x13::(ν++ρ'::τ))++[some [u]]:=by simp
      rw [e,hlC,show List.length ν+14+(List.length τ+1)=(x0::x1::x2::x3::x4::x5::x6::x7::x8::x9::x10::x11::x12::x13::(ν++ρ'::τ)).length by simp; omega,at_app0]; rfl
    have hm6:=mset_kenc rdA a.nm a.read Y.reads
    have hm1:=mset_kenc ntA a.nm a Y.sheets
    have hm2:=mset_kenc flA a.nm (a.stn,a.week) Y.filed
    simp only [Nm.ky] at hm6 hm1 hm2
    simp only [FST,List.append_assoc,List.cons_append,List.nil_append]
    by_cases hk3:a.kind=3
    · have hB:beginF Y a={ Y with reads:=kset Y.reads a.nm a.read }:=by unfold beginF; rw [if_pos hk3]
      rw [hB] at htk
      ((refine Az (And.intro @hT (And.intro @hk3 @hm6)) (Zw a) ?_;repeat' constructor)<;>intros<;>refine hD_ ?_)
      refine ⟨⟨_,trivial⟩,[],?_,htk.symm⟩
      simp
    · have hB:beginF Y a={ Y with sheets:=kset Y.sheets a.nm a,filed:=kset Y.filed a.nm (a.stn,a.week) }:=by unfold beginF; rw [if_neg hk3]
      rw [hB] at htk
      ((refine Az (And.intro @hT (And.intro @hm1 @hm2)) (Zw a) ?_;repeat' constructor)<;>intros<;>refine hD_ ?_)
      all_goals try (exfalso;omega)
      refine ⟨⟨_,trivial⟩,[],?_,htk.symm⟩
      simp
  · obtain ⟨y,_⟩:=y
    simp only at hy
    subst hy
    have hll:(ntTr S).length=S.length:=by simp [ntTr]
    simp only [hll,List.take_length]
    rw [← hS]
    clear hit h2 hb
    have hlen:∀ ks:List Int,(standK l ks).length≤l.length:=standK_len l
    have hget:∀ (ks:List Int) (i:Nat) (a:Nt),(standK l ks)[i]?=some a→i < l.length∧a∈l∧(ks=[]∨a.kind∈ks):=fun ks i a h =>
      ⟨Nat.lt_of_lt_of_le (List.getElem?_eq_some_iff.1 h).1 (hlen ks),standK_mem (List.mem_of_getElem? h)⟩
    obtain ⟨x1,hx1⟩:∃ x1,x1=(standK l [1,3]).foldl beginF (fs0 b):=⟨_,rfl⟩
    have k1:kp x1=kp (fs0 b):=by rw [hx1]; exact foldl_keep kp beginF_kp _ _
    obtain ⟨x2,hx2⟩:∃ x2,x2=(standK l [5]).foldl (fileF al) x1:=⟨_,rfl⟩
    have k2:kp x2=kp (fs0 b):=by rw [hx2,← k1]; exact foldl_keep kp (fileF_kp al) _ _
    obtain ⟨m2,r2,q2,s2⟩:=kp_marks k2
    obtain ⟨x3,hx3⟩:∃ x3,x3=(standK l [2]).foldl (markF al) x2:=⟨_,rfl⟩
    have k3:mkOk x3∧x3.rs=[]∧x3.rr=[]∧x3.st=b.stns:=by
      rw [hx3]
      refine foldl_inv (fun x=>mkOk x∧x.rs=[]∧x.rr=[]∧x.st=b.stns) _ _ (fun x a _ h=>?_) ⟨fun m L h=>(by rw [m2] at h; cases h),r2,q2,s2⟩
      obtain ⟨g1,_,g2,g3,g4⟩:=markF_ok al x a h.1
      exact ⟨g1,g2.trans h.2.1,g3.trans h.2.2.1,g4.trans h.2.2.2⟩
    obtain ⟨x4,hx4⟩:∃ x4,x4=(standK l [6]).foldl (correctF al) x3:=⟨_,rfl⟩
    have k4:kp x4=kp x3:=by rw [hx4]; exact foldl_keep kp (correctF_kp al) _ _
    obtain ⟨m4,r4,q4,s4⟩:=kp_marks k4
    obtain ⟨x5,hx5⟩:∃ x5,x5=(standK l [1]).foldl (enterF al) x4:=⟨_,rfl⟩
    have k5:x5.rr=[]∧x5.st=b.stns:=by
      rw [hx5]
      refine foldl_inv (fun x=>x.rr=[]∧x.st=b.stns) _ _ (fun x a _ h=>⟨(enterF_ok al x a).2.2.1.trans h.1,(enterF_ok al x a).2.2.2.trans h.2⟩) ⟨q4.trans k3.2.2.1,s4.trans k3.2.2.2⟩
    obtain ⟨x6,hx6⟩:∃ x6,x6=(standK l [4]).foldl (raiseF al) x5:=⟨_,rfl⟩
    have k6:x6.rr=[]:=by
      rw [hx6]
      refine foldl_inv (fun x=>x.rr=[]) _ _ (fun x a _ h=>(raiseF_rr al x a).trans h) k5.1
    obtain ⟨x7,hx7⟩:∃ x7,x7=(standK l [3]).foldl readF x6:=⟨_,rfl⟩
    have c5:=fun ν=>step_does l hl h400 hn 5 142 [.ptr 8 0 1 0 0] [] (fileF al) (fun _ _=>True) l.length (alA al) [] (fun i a x ν _ _=>file_does _ al x [] a ν) (fun _ _ _ _ _=>trivial) x1 trivial ν
    have c2:=fun ν=>step_does l hl h400 hn 2 143 [.ptr 8 0 1 0 0] [] (markF al) (fun i x=>x.marks.length≤i∧mkOk x) l.length (alA al) []
      (fun i a x ν hg hq=>mark_does _ al x [] a (Nat.lt_of_le_of_lt hq.1 (hget _ _ _ hg).1) ν) (fun i a x hg hq=>⟨Nat.le_trans (markF_ok al x a hq.2).2.1 (by have:=hq.1; omega),(markF_ok al x a hq.2).1⟩) x2 ⟨by rw [m2]; exact Nat.le_refl _,fun m L h=>(by rw [m2] at h; cases h)⟩ ν
    have c6:=fun ν=>step_does l hl h400 hn 6 144 [.ptr 8 0 1 0 0] [] (correctF al) (fun _ _=>True) l.length (alA al) [] (fun i a x ν _ _=>correct_does _ al x [] a ν) (fun _ _ _ _ _=>trivial) x3 trivial ν
    have c1:=fun ν=>step_does l hl h400 hn 1 145 [.ptr 8 0 1 0 0] [] (enterF al) (fun i x=>x.rs.length≤i∧mkOk x) l.length (alA al) []
      (fun i a x ν hg hq=>enter_does _ al x [] a (by have:=(hget _ _ _ hg).1; have:=hq.1; omega) (hsh a (hget _ _ _ hg).2.1 (by simpa using (hget _ _ _ hg).2.2)) (by
        cases hk:kget x.marks a.nm with
        | none=>simp
        | some L=>exact hq.2 _ _ hk) ν)
      (fun i a x hg hq=>⟨Nat.le_trans (enterF_ok al x a).2.1 (by have:=hq.1; omega),fun m L h=>hq.2 m L (by rw [← (enterF_ok al x a).1]; exact h)⟩) x4 ⟨by rw [r4,k3.2.1]; exact Nat.le_refl _,fun m L h=>k3.1 m L (by rw [← m4]; exact h)⟩ ν
    have c4:=fun ν=>step_does l hl h400 hn 4 146 [.ptr 8 0 1 0 0] [] (raiseF al) (fun _ x=>SameS b.stns x.st) l.length (alA al) [] (fun i a x ν hg hq=>raise_does _ al x [] a hq.ok (by
      rw [hq.of hb0]; exact hp a (hget _ _ _ hg).2.1 (by simpa using (hget _ _ _ hg).2.2)) ν) (fun i a x _ hq=>hq.raise al a) x5 (by rw [k5.2]; exact ⟨hb0,rfl⟩) ν
    have c3:=fun ν=>step_does l hl h400 hn 3 147 [] [.ptr 8 0 1 0 0] readF (fun i x=>x.rr.length≤i) l.length (alA al) []
      (fun i a x ν hg hq=>reads_does _ al x [] a (by have:=(hget _ _ _ hg).1; omega) ν) (fun i a x hg hq=>by have:=(readF_ok x a).2.2.1; omega) x6 (by rw [k6]; exact Nat.le_refl _) ν
    rw [← hx2] at c5
    rw [← hx3] at c2
    rw [← hx4] at c6
    rw [← hx5] at c1
    rw [← hx6] at c4
    rw [← hx7] at c3
    rw [← hx1]
    have hfold:foldT b l=⟨(l.foldl (lastF al) (x7,[])).1.rs,(l.foldl (lastF al) (x7,[])).1.rr,(l.foldl (lastF al) (x7,[])).1.st,(l.foldl (lastF al) (x7,[])).2⟩:=by
      rw [hx7,hx6,hx5,hx4,hx3,hx2,hx1,hal]; rfl
    rw [hfold]
    rw [List.append_assoc]
    generalize hW:ν++τ=W
    simp only [zN,zT,zV,zS,zU,Q0,Q1,ex,Q2,Q3,Q4,Q5,Q6,Q7,Q8,Q9,QA,QB,QC,Nat.reduceBEq,reduceAdd,reduceSub,reduceLT,reduceLeDiff,reduceMul,reduceEqDiff,reduceIte]
    ((refine Au ?_;repeat' constructor)<;>intros<;>refine hD_ ?_)
    refine .inr (.inl ⟨_,_,_,_,rfl,fun _=>⟨c5 W,?_⟩,fun h=>by cases h⟩)
    rintro r σ' ⟨μ1,rfl⟩
    refine Zy ?_
    simp only [zN,zT,zV,zS,zU,Q0,Q1,ex,Q2,Q3,Q4,Q5,Q6,Q7,Q8,Q9,QA,QB,QC,Nat.reduceBEq,reduceAdd,reduceSub,reduceLT,reduceLeDiff,reduceMul,reduceEqDiff,reduceIte]
    ((refine Au ?_;repeat' constructor)<;>intros<;>refine hD_ ?_)
    refine .inr (.inl ⟨_,_,_,_,rfl,fun _=>⟨c2 _,?_⟩,fun h=>by cases h⟩)
    rintro r σ' ⟨μ2,rfl⟩
    refine Zy ?_
    simp only [zN,zT,zV,zS,zU,Q0,Q1,ex,Q2,Q3,Q4,Q5,Q6,Q7,Q8,Q9,QA,QB,QC,Nat.reduceBEq,reduceAdd,reduceSub,reduceLT,reduceLeDiff,reduceMul,reduceEqDiff,reduceIte]
    ((refine Au ?_;repeat' constructor)<;>intros<;>refine hD_ ?_)
    refine .inr (.inl ⟨_,_,_,_,rfl,fun _=>⟨c6 _,?_⟩,fun h=>by cases h⟩)
    rintro r σ' ⟨μ3,rfl⟩
    refine Zy ?_
    simp only [zN,zT,zV,zS,zU,Q0,Q1,ex,Q2,Q3,Q4,Q5,Q6,Q7,Q8,Q9,QA,QB,QC,Nat.reduceBEq,reduceAdd,reduceSub,reduceLT,reduceLeDiff,reduceMul,reduceEqDiff,reduceIte]
    ((refine Au ?_;repeat' constructor)<;>intros<;>refine hD_ ?_)
    refine .inr (.inl ⟨_,_,_,_,rfl,fun _=>⟨c1 _,?_⟩,fun h=>by cases h⟩)
    rintro r σ' ⟨μ4,rfl⟩
    refine Zy ?_
    simp only [zN,zT,zV,zS,zU,Q0,Q1,ex,Q2,Q3,Q4,Q5,Q6,Q7,Q8,Q9,QA,QB,QC,Nat.reduceBEq,reduceAdd,reduceSub,reduceLT,reduceLeDiff,reduceMul,reduceEqDiff,reduceIte]
    ((refine Au ?_;repeat' constructor)<;>intros<;>refine hD_ ?_)
    refine .inr (.inl ⟨_,_,_,_,rfl,fun _=>⟨c4 _,?_⟩,fun h=>by cases h⟩)
    rintro r σ' ⟨μ5,rfl⟩
    refine Zy ?_
    simp only [zN,zT,zV,zS,zU,Q0,Q1,ex,Q2,Q3,Q4,Q5,Q6,Q7,Q8,Q9,QA,QB,QC,Nat.reduceBEq,reduceAdd,reduceSub,reduceLT,reduceLeDiff,reduceMul,reduceEqDiff,reduceIte]
    ((refine Au ?_;repeat' constructor)<;>intros<;>refine hD_ ?_)
    refine .inr (.inl ⟨_,_,_,_,rfl,fun _=>⟨c3 _,?_⟩,fun h=>by cases h⟩)
    rintro r σ' ⟨μ6,rfl⟩
    refine Zy ?_
    simp only [zN,zT,zV,zS,zU,Q0,Q1,ex,Q2,Q3,Q4,Q5,Q6,Q7,Q8,Q9,QA,QB,QC,Nat.reduceBEq,reduceAdd,reduceSub,reduceLT,reduceLeDiff,reduceMul,reduceEqDiff,reduceIte]
    ((refine Au ?_;repeat' constructor)<;>intros<;>refine hD_ ?_)
    have hql:∀ i,((l.take i).foldl (lastF al) (x7,[])).2.length≤400:=fun i=>by
      have h5:=(lastF_len al (l.take i) (x7,[])).1
      have h6:(l.take i).length≤l.length:=by rw [List.length_take]; omega
      simp only [List.length_nil] at h5
      omega
    refine AWPC.loopE (α:={ p:Nat × Sto // p.1≤l.length }) [79] (fun p=>[(79,n p.1.1)])
      (fun p=>FST l.length (alA al) ((l.take p.1.1).foldl (lastF al) (x7,[])).1 ((l.take p.1.1).foldl (lastF al) (x7,[])).2++p.1.2) (fun p=>l.length - p.1.1) ⟨(0,W++(μ1++(μ2++(μ3++(μ4++(μ5++μ6)))))),by simp⟩ ?_ rfl ?_
    · (simp only [zN,zT,zV,zS,zU,Q0,Q1,ex,Q2,Q3,Q4,Q5,Q6,Q7,Q8,Q9,QA,QB,QC,Nat.reduceBEq,reduceAdd,reduceSub,reduceLT,reduceLeDiff,reduceMul,reduceEqDiff,reduceIte]; try simp)
    · rintro ⟨⟨i,μ⟩,hi⟩
      simp only at hi
      by_cases hlt:i < l.length
      · have hs:(l.map Nt.cs).getD i []=Nt.cs (l.getD i nt0):=row nt0 hlt
        have htk:(l.take (i+1)).foldl (lastF al) (x7,[])=lastF al ((l.take i).foldl (lastF al) (x7,[])) (l.getD i nt0):=by
          rw [List.take_add_one,getD_lt nt0 hlt]; simp
        have hq4:=hql i
        generalize l.getD i nt0=a at hs htk
        generalize hY:(l.take i).foldl (lastF al) (x7,[])=Y at htk hq4
        obtain ⟨f,o⟩:=Y
        simp only at hq4
        simp only [hY]
        by_cases hk7:a.kind=7
        · have hw:lookA false (bl false) (mget (kenc bl (clashF al f a).confl) [a.clerk,a.num])=bl ((kget (clashF al f a).confl a.nm).getD false):=by
            rw [show mget (kenc bl (clashF al f a).confl) [a.clerk,a.num]=_ from mget_kenc bl a.nm (clashF al f a).confl]
            cases kget (clashF al f a).confl a.nm <;> rfl
          have hL:lastF al (f,o) a=(clashF al f a,if (kget (clashF al f a).confl a.nm).getD false then o++[a.nm] else o):=by unfold lastF; simp only [hk7,if_true]
          rw [hL] at htk
          have hc:=fun μ=>clash_does l.length al f o a μ
          generalize clashF al f a=g at hw htk hc
          generalize (kget g.confl a.nm).getD false=c at hw htk
          simp only [lookA,cond_false] at hw
          simp only [FST,List.cons_append,List.nil_append]
          ((refine Ax (And.intro @hs @hk7) ?_;repeat' constructor)<;>intros<;>refine hD_ ?_)
          all_goals try (exfalso;omega)
          refine .inr (.inl ⟨_,_,_,_,rfl,fun _=>⟨hc _,?_⟩,fun h=>by cases h⟩)
          rintro r σ' ⟨ν',rfl⟩
          refine Zy ?_
          simp only [FST,List.append_eq,List.append_assoc,List.cons_append,List.nil_append]
          simp only [zN,zT,zV,zS,zU,Q0,Q1,ex,Q2,Q3,Q4,Q5,Q6,Q7,Q8,Q9,QA,QB,QC,Nat.reduceBEq,reduceAdd,reduceSub,reduceLT,reduceLeDiff,reduceMul,reduceEqDiff,reduceIte]
          cases c with
          | true =>
            ((refine Az @hw (Zw a) ?_;repeat' constructor)<;>intros<;>refine hD_ ?_)
            all_goals try (exfalso;omega)
            refine ⟨⟨(i+1,μ++some [⟨68,38,[a.cs],none⟩]::ν'),hlt⟩,by simp,?_,by simp only; omega⟩
            simp only [htk]
            simp
          | false =>
            ((refine Az @hw (Zw a) ?_;repeat' constructor)<;>intros<;>refine hD_ ?_)
            all_goals try (exfalso;omega)
            refine ⟨⟨(i+1,μ++some [⟨68,38,[a.cs],none⟩]::ν'),hlt⟩,by simp,?_,by simp only; omega⟩
            simp only [htk]
            simp
        · have hw:lookA false (bl false) (mget (kenc bl f.confl) [a.clerk,a.num])=bl ((kget f.confl a.nm).getD false):=by
            rw [show mget (kenc bl f.confl) [a.clerk,a.num]=_ from mget_kenc bl a.nm f.confl]
            cases kget f.confl a.nm <;> rfl
          have hL:lastF al (f,o) a=(f,if (kget f.confl a.nm).getD false then o++[a.nm] else o):=by unfold lastF; simp only [hk7,if_false]
          rw [hL] at htk
          generalize (kget f.confl a.nm).getD false=c at hw htk
          simp only [lookA,cond_false] at hw
          simp only [FST,List.cons_append,List.nil_append]
          cases c with
          | true =>
            ((refine Az (And.intro @hs @hw) (Zw a) ?_;repeat' constructor)<;>intros<;>refine hD_ ?_)
            all_goals try (exfalso;omega)
            refine ⟨⟨(i+1,μ++some [⟨68,38,[a.cs],none⟩]::[]),hlt⟩,by simp,?_,by simp only; omega⟩
            simp only [htk]
            simp
          | false =>
            ((refine Az (And.intro @hs @hw) (Zw a) ?_;repeat' constructor)<;>intros<;>refine hD_ ?_)
            all_goals try (exfalso;omega)
            refine ⟨⟨(i+1,μ++some [⟨68,38,[a.cs],none⟩]::[]),hlt⟩,by simp,?_,by simp only; omega⟩
            simp only [htk]
            simp
      · obtain rfl:i=l.length:=by omega
        rw [List.take_length]
        generalize hY:l.foldl (lastF al) (x7,[])=Y
        obtain ⟨f,o⟩:=Y
        simp only [FST,List.cons_append,List.nil_append]
        ((refine Au ?_;repeat' constructor)<;>intros<;>refine hD_ ?_)
        all_goals try (exfalso;omega)
        refine Frz.aggL ⟨?_,?_,?_,?_,trivial⟩
        · exact Frz.ownL (T:=72) rfl rfl (by decide) (fun a=>Fld.pc a) (fun a=>rfl)
        · exact Frz.ownL (T:=64) rfl rfl (by decide) (fun a c hc=>by simp at hc; rcases hc with rfl | rfl | rfl | rfl | rfl <;> simp) (fun a=>rfl)
        · exact Frz.ownL (T:=109) rfl rfl (by decide) (fun a c hc=>by simp at hc; rcases hc with rfl | rfl | rfl | rfl <;> simp) (fun a=>rfl)
        · exact Frz.ownL (T:=29) rfl rfl (by decide) (fun a c hc=>by simp at hc; rcases hc with rfl | rfl <;> simp) (fun a=>rfl)
end Go.Proofs.YtolgelipcgcbhaaGreat
namespace Go.Proofs.YtolgelipcgcbhaaGreat
open Go.Abs
open Nat (reduceAdd reduceSub reduceLT reduceLeDiff reduceMul reduceEqDiff)
set_option linter.unusedVariables false
set_option linter.unusedSimpArgs false
set_option maxHeartbeats 4000000
set_option maxRecDepth 100000
def c21:CF:=⟨18,(jo [jx 2 26 6 0,jw 4 (.alloc 37 4 [.slice none 0 0,.slice none 0 0,.slice none 0 0,.slice none 0 0]),jc 5 0] [1,2,4]
 (.seq (jo [jk 7 6 2,jm 8 1,jw 9 (.bsl false 27 1 1 [.slice none 0 0] [(0,1,(.t 8))]),jy 10 80 [7,9],jm 6 10] [1,2,4,6]
 (jo [jm 11 6,ju .neq 12 11 0] [1,2,4,6,12]
 (.cond (.t 12) (jo [jw 13 (.build [.slice none 0 0,.slice none 0 0,.slice none 0 0,.slice none 0 0] []),jm 14 6,js 4 4 13,jm 5 14] [4,5]
 .ret)
 .skip)))
 (jo [jk 15 6 2,jm 16 1,jy 17 81 [15,16],js 4 4 17,jc 5 0] [4,5]
 .ret))),[.c 4 (some 4),.t 5]⟩
theorem k21:chkF Tryz.prog Tryz.f21 c21=true:=by kernel_rfl
theorem fold_ok (b:Bse) (l m:List Nt) (hl:setSz l) (he:(setE b l).1=0) (hm:m.Sublist l):Pure Tryz.prog 81 [.agg b.cs,ntS m] (.agg (foldT b m).cs):=by
  obtain ⟨h1,h2,h3,_⟩:=setE_ok he
  obtain ⟨g1,g2⟩:=stns_small h1.1
  refine fold_spec b m ⟨Nat.lt_of_le_of_lt hm.length_le hl.1,fun a ha=>hl.2 a (hm.subset ha)⟩ (Nat.le_trans hm.length_le h2) ((setE_nodup he).sublist (hm.map _)) (by omega) (fun s hs=>by have:=g2 s hs; omega) (fun a ha hk=>?_) h1.1 (fun a ha hk=>?_)
  · obtain ⟨k1,k2,k3,k4⟩:=nt_small (h3 a (hm.subset ha)) hk
    exact ⟨by omega,by omega,by omega,by omega⟩
  · have g:=(h3 a (hm.subset ha)).2.2.2.2
    unfold Nt.says at g
    rw [if_neg (by omega),if_neg (by omega),if_neg (by omega),if_pos hk] at g
    exact g.1.1
theorem Fold_spec (b:Bse) (hb:bseSz b) (l:List Nt) (hl:setSz l):Pure Tryz.prog 21 [.agg b.cs,ntS l] (.tup [.agg (foldE b l).1.cs,n (foldE b l).2]):=by
  refine pB_ Tryz.call21 Tryz.func21 k21 ?_
  unfold c21
  have h1:=asked_spec b hb [l] (by simp) (by simpa using hl)
  by_cases ha:askedE b [l]=0
  · have hE:foldE b l=(foldT b l,0):=by unfold foldE; rw [if_neg (by omega)]
    rw [hE]
    rw [ha] at h1
    have h2:=fold_ok b l l hl ((askedE_ok ha).2 l (by simp)) (List.Sublist.refl _)
    generalize foldT b l=r at h2
    ((refine Ay (And.intro @h1 @h2) ?_;repeat' constructor)<;>intros<;>refine hD_ ?_)
    all_goals try (exfalso;omega)
    exact Frz.tupL ⟨Frz.pure (rgr_pa r),Frz.pure (by simp),trivial⟩
  · have hE:foldE b l=(rgr0,askedE b [l]):=by unfold foldE; rw [if_pos ha]
    rw [hE]
    generalize askedE b [l]=e at h1 ha
    ((refine Ay @h1 ?_;repeat' constructor)<;>intros<;>refine hD_ ?_)
    all_goals try (exfalso;omega)
    exact Frz.tupL ⟨Frz.aggL ⟨Frz.nil0,Frz.nil0,Frz.nil0,Frz.nil0,trivial⟩,Frz.pure (by simp),trivial⟩
end Go.Proofs.YtolgelipcgcbhaaGreat
namespace Go.Proofs.YtolgelipcgcbhaaGreat
open Go.Abs
open Nat (reduceAdd reduceSub reduceLT reduceLeDiff reduceMul reduceEqDiff)
open Go.Abs renaming vcC→Q0,lateX→Q1,strp→Q2,binA→Q3,elems→Q4,cells→Q5,scalar→Q6,eqC→Q7,keyA→Q8,intsA→Q9,lookA→QA,ofVs→QB,mpOf→QC
set_option linter.unusedVariables false
set_option linter.unusedSimpArgs false
set_option maxHeartbeats 4000000
set_option maxRecDepth 100000
def c157:CF:=⟨19,(jo [jc 4 0] [0,1]
 (.seq (jo [jm 6 0,je 7 6,jc 8 0] [0,1,7,8]
 (.block 0 (.loop (jo [jt .lss 9 8 7] [0,1,7,8,9]
 (.seq (.cond (.t 9) .skip
 (.exit 0))
 (.seq (.block 1 (jo [jm 10 8,jm 5 10] [0,1,5,7,8]
 (jo [jm 11 1,jm 12 0,jm 13 5,ji 14 38 12 13,jk 15 38 14,jw 16 (.call (.t 11) [(.t 15)])] [0,1,5,7,8,16]
 (.cond (.t 16) (jo [jm 17 5,jm 4 17] [4]
 .ret)
 .skip))))
 (.ops [ju .add 18 8 1,jm 8 18] [0,1,7,8])))))))
 (jo [jc 4 (-1)] [4]
 .ret))),[.t 4]⟩
theorem k157:chkF Tryz.prog Tryz.f157 c157=true:=by kernel_rfl
def c84:CF:=⟨15,(jo [jx 3 68 38 0,jb 4 false] [1,2,3]
 (jo [jf 5 3 3,jl 6 5,jl 7 1,jt .gtr 8 6 7,jm 9 8,jd 9 (jf 10 2 3),jd 9 (jl 11 10),jd 9 (jl 12 2),jd 9 (jt .gtr 13 11 12),jq 14 9 13,jm 4 14] [4]
 .ret)),[.t 4]⟩
theorem k84:chkF Tryz.prog Tryz.f84 c84=true:=by kernel_rfl
def c85:CF:=⟨42,(jo [jn 4] [0,1]
 (jo [jm 8 0,jm 9 1,jy 10 157 [8,9],jm 5 10] [0,1,5]
 (.seq (jo [jm 11 5,ju .eql 12 11 (-1)] [0,1,5,12]
 (.cond (.t 12) (jo [jm 13 0,jm 4 13] [4]
 .ret)
 .skip))
 (.seq (jo [jm 14 5,ju .add 15 14 1,jm 6 15] [0,1,5,6]
 (.block 0 (.loop (.seq (jo [jm 16 6,jm 17 0,je 18 17,jt .lss 19 16 18] [0,1,5,6,19]
 (.cond (.t 19) .skip
 (.exit 0)))
 (.seq (.block 1 (jo [jm 22 0,jm 23 6,ji 24 38 22 23,jk 25 38 24,jw 7 (.alloc 68 38 z38),js 38 7 25] [0,1,5,6,7]
 (jo [jm 26 1,jk 27 38 7,jw 28 (.call (.t 26) [(.t 27)]),jv 29 28] [0,1,5,6,7,29]
 (.cond (.t 29) (jo [jm 30 0,jm 31 5,jk 32 38 7,ji 33 38 30 31,js 38 33 32] [0,1,5,6]
 (.ops [jm 34 5,ju .add 35 34 1,jm 5 35] [0,1,5,6]))
 .skip))))
 (.ops [jm 20 6,ju .add 21 20 1,jm 6 21] [0,1,5,6]))))))
 (jo [jm 36 0,jm 37 5,jw 38 (.subs 38 (.t 36) (.t 37)),⟨none,.clr 68 38 z38 (.t 38),none⟩] [0,5]
 (jo [jm 39 0,jm 40 5,jw 41 (.slice 38 (.t 39) none (some (.t 40))),jm 4 41] [4]
 .ret)))))),[.t 4]⟩
theorem k85:chkF Tryz.prog Tryz.f85 c85=true:=by kernel_rfl
def c23:CF:=⟨27,(jo [jx 4 26 6 0,jx 6 3 1 2,jx 7 3 1 3,jw 8 (.alloc 37 4 [.slice none 0 0,.slice none 0 0,.slice none 0 0,.slice none 0 0]),jc 9 0] [1,4,6,7,8]
 (.seq (jo [jk 12 6 4,jm 13 1,jw 14 (.bsl false 27 1 1 [.slice none 0 0] [(0,1,(.t 13))]),jy 15 80 [12,14],jm 10 15] [1,4,6,7,8,10]
 (jo [jm 16 10,ju .neq 17 16 0] [1,4,6,7,8,10,17]
 (.cond (.t 17) (jo [jw 18 (.build [.slice none 0 0,.slice none 0 0,.slice none 0 0,.slice none 0 0] []),jm 19 10,js 4 8 18,jm 9 19] [8,9]
 .ret)
 .skip)))
 (jo [jw 20 (.mkfn (.func 84) [] [(.t 6),(.t 7)]),jm 11 20] [1,4,8,11]
 (.seq (.draww [0,1,3,2,4,5,6,7] [0,2] 2 [jk 21 6 4,jm 22 1,jm 24 11] [jy 23 86 [22],jy 25 85 [23,24],jy 26 81 [21,25],js 4 8 26,jc 9 0] [8,9])
 .ret)))),[.c 8 (some 4),.t 9]⟩
theorem k23:chkF Tryz.prog Tryz.f23 c23=true:=by kernel_rfl
theorem indexNt (f:Nat) (caps:List AV) (hcap:∀ c∈caps,PureV c) (q:Nt→Bool) (l:List Nt) (hl:l.length < 9223372036854775808) (hq:∀ x∈l,Pure Tryz.prog f ([.agg (Nt.cs x)]++caps) (bl (q x))):Pure Tryz.prog 157 [ntS l,.fn (.func f) [] caps] (n (fidx q 0 l)):=by
  refine pB_ Tryz.call157 Tryz.func157 k157 ?_
  unfold c157
  ((refine Au ?_;repeat' constructor)<;>intros<;>refine hD_ ?_)
  refine AWPC.loopI 8 l.length (fun i=>fidx q i (l.drop i)=fidx q 0 l) (by simp) ?_ ?_
  · (simp only [zN,zT,zV,zS,zU,Q0,Q1,ex,Q2,Q3,Q4,Q5,Q6,Q7,Q8,Q9,QA,QB,QC,Nat.reduceBEq,reduceAdd,reduceSub,reduceLT,reduceLeDiff,reduceMul,reduceEqDiff,reduceIte]; try simp)
  · intro i hi hI
    by_cases hlt:i < l.length
    · obtain ⟨x,hx⟩:∃ x,l[i]?=some x:=⟨_,List.getElem?_eq_getElem hlt⟩
      have hc:=hq x (List.mem_of_getElem? hx)
      rw [drop_cons hx,fidx] at hI
      (repeat' ((first
 | refine vn rfl ?_
 | simp (disch:=omega) only [wr64,Int.zero_sub]
 | refine bo (fun _=>?_) fun _=>?_
 | refine im fun _=>?_
 | refine cF ?_
 | refine om ?_
 | refine an ?_
 | fail) <;> try simp only [zN,zT,zV,zS,zU,Q0,Q1,ex,Q2,Q3,Q4,Q5,Q6,Q7,Q8,Q9,QA,QB,QC,Nat.reduceBEq,reduceAdd,reduceSub,reduceLT,reduceLeDiff,reduceMul,reduceEqDiff,reduceIte,getD_map hx]))
      all_goals try (exfalso;omega)
      refine .inl ⟨_,_,_,_,rfl,fun _=>.of ?_ (hc),?_⟩
      · intro a ha
        simp only [List.nil_append,List.cons_append,List.mem_cons] at ha
        rcases ha with rfl | ha
        · simp
        · exact hcap a ha
      refine Zy ?_
      simp only [zN,zT,zV,zS,zU,Q0,Q1,ex,Q2,Q3,Q4,Q5,Q6,Q7,Q8,Q9,QA,QB,QC,Nat.reduceBEq,reduceAdd,reduceSub,reduceLT,reduceLeDiff,reduceMul,reduceEqDiff,reduceIte]
      ((refine Au ?_;repeat' constructor)<;>intros<;>refine hD_ ?_)
      · rename_i h
        rw [h] at hI
        simp only [if_true] at hI
        rw [← hI]
        exact Frz.eq rfl (by simp)
      · rename_i h
        rw [h] at hI
        exact ⟨⟨i+1,hlt,by simpa using hI⟩,by simp,by simp only; omega⟩
    · obtain rfl:i=l.length:=by omega
      rw [List.drop_length,fidx] at hI
      ((refine Au ?_;repeat' constructor)<;>intros<;>refine hD_ ?_)
      all_goals try (exfalso;omega)
      rw [← hI]
      exact Frz.eq rfl (by simp)
theorem cloneNtD (l:List Nt) (hl:l.length * 368≤140737488355328) (σ:Sto):Does Tryz.prog 86 [ntS l] σ (OwnAt σ 68 38 (l.map Nt.cs)):=by
  have nil:Does Tryz.prog 86 [.v (.slice none 0 0)] σ (OwnAt σ 68 38 []):=by
    refine dB_ Tryz.call86 Tryz.func86 k86 ?_
    unfold c86
    refine AWPC.of_vc ?_; simp only [zN,zS,zU,Q0,Q1,ex,Q2,Q3,Q4,Q5,Q6,Q7,Q8,Q9,QA,QB,QC,Nat.reduceBEq,reduceAdd,reduceSub,reduceLT,reduceLeDiff,reduceMul,reduceEqDiff,reduceIte]
    refine AWPC.of_vc ?_; simp only [zN,zS,zU,Q0,Q1,ex,Q2,Q3,Q4,Q5,Q6,Q7,Q8,Q9,QA,QB,QC,Nat.reduceBEq,reduceAdd,reduceSub,reduceLT,reduceLeDiff,reduceMul,reduceEqDiff,reduceIte]
    refine AWPC.of_vc ?_
    simp only [vcC]
    refine ⟨fun _=>?_,fun h=>by cases h⟩
    refine AWPC.of_vc ?_; simp only [zN,zS,zU,Q0,Q1,ex,Q2,Q3,Q4,Q5,Q6,Q7,Q8,Q9,QA,QB,QC,Nat.reduceBEq,reduceAdd,reduceSub,reduceLT,reduceLeDiff,reduceMul,reduceEqDiff,reduceIte]
    refine AWPC.own0 68 38 2 rfl ?_
    refine AWPC.of_vc ?_; simp only [zN,zS,zU,Q0,Q1,ex,Q2,Q3,Q4,Q5,Q6,Q7,Q8,Q9,QA,QB,QC,Nat.reduceBEq,reduceAdd,reduceSub,reduceLT,reduceLeDiff,reduceMul,reduceEqDiff,reduceIte]
    exact .mk [] rfl rfl
  have emp:∀ a cap,Does Tryz.prog 86 [.v (.slice (some a) 0 cap)] σ (OwnAt σ 68 38 []):=by
    intro a cap
    refine dB_ Tryz.call86 Tryz.func86 k86 ?_
    unfold c86
    ((refine Au ?_;repeat' constructor)<;>intros<;>refine hD_ ?_)
    all_goals exact .mk [] rfl rfl
  by_cases h0:l=[]
  · subst h0
    exact byNilD nil emp
  · refine dB_ Tryz.call86 Tryz.func86 k86 ?_
    unfold c86
    have hne:l.map Nt.cs≠[]:=by simpa using h0
    ((refine Au ?_;repeat' constructor)<;>intros<;>refine hD_ ?_)
    refine ⟨⟨rowsL (cs:=Nt.cs) (fun a=>rfl) l,by omega⟩,?_⟩
    ((refine Au ?_;repeat' constructor)<;>intros<;>refine hD_ ?_)
    exact .mk [] (by simp) rfl
theorem asOf1_spec (day clock:Int) (a:Nt):Pure Tryz.prog 84 [.agg a.cs,.iptr [n day] 0,.iptr [n clock] 0] (bl (!decide (a.day≤day∧a.clock≤clock))):=by
  refine pB_ Tryz.call84 Tryz.func84 k84 ?_
  unfold c84
  ((refine Au ?_;repeat' constructor)<;>intros<;>refine hD_ ?_)
  exact Frz.eq (congrArg bl (by rw [decide_eq_decide]; omega)) (by simp)
theorem gone_upd {σ μ:Sto} {f:Nat} {o o':Ob} (h:σ.at f 0=some o):gone (σ.upd f 0 o'++μ) f=gone σ f++μ:=by
  have hlt:=at_lt h
  rw [gone,List.set_append_left _ _ (by rw [upd_length]; exact hlt)]
  congr 1
  unfold Sto.at at h
  unfold Sto.upd
  split at h
  · rename_i F hF
    simp only [hF,gone,List.set_set]
  · cases h
inductive Left (σ:Sto) (f:Nat) (r0:AV):AV→Sto→Prop
  | mk (ν:Sto) {r:AV} {σ':Sto} (h:r=r0) (h':σ'=gone σ f++ν):Left σ f r0 r σ'
structure DelS (q:Nt→Bool) (l R:List Nt) (i j:Nat):Prop where
  len:R.length=l.length
  lt:i < j
  le:j≤l.length
  tk:R.take i=(l.take j).filter (fun a=>!q a)
  dr:R.drop j=l.drop j
theorem DelS.init {q:Nt→Bool} {l:List Nt} {i:Nat} (hi:i < l.length) (h1:q l[i]=true) (h2:∀ j (hj:j < i),q (l[j]'(by omega))=false):DelS q l l i (i+1):=by
  refine ⟨rfl,by omega,hi,?_,rfl⟩
  rw [List.take_add_one,List.getElem?_eq_getElem hi,List.filter_append]
  have e:(l.take i).filter (fun a=>!q a)=l.take i:=by
    rw [List.filter_eq_self]
    intro a ha
    obtain ⟨j,hj,rfl⟩:=List.mem_iff_getElem.1 ha
    rw [List.length_take] at hj
    rw [List.getElem_take,h2 j (by omega)]; rfl
  rw [e]; simp [h1]
theorem DelS.get {q:Nt→Bool} {l R:List Nt} {i j:Nat} (h:DelS q l R i j) (hj:j < l.length):R[j]?=l[j]?:=by
  have h1:(R.drop j)[0]?=(l.drop j)[0]?:=by rw [h.dr]
  simpa using h1
theorem DelS.drop1 {q:Nt→Bool} {l R:List Nt} {i j:Nat} (h:DelS q l R i j):R.drop (j+1)=l.drop (j+1):=by
  have h1:(R.drop j).drop 1=(l.drop j).drop 1:=by rw [h.dr]
  simpa [List.drop_drop,Nat.add_comm] using h1
theorem DelS.skip {q:Nt→Bool} {l R:List Nt} {i j:Nat} {a:Nt} (h:DelS q l R i j) (ha:l[j]?=some a) (hq:q a=true):DelS q l R i (j+1):=by
  have hj:=(List.getElem?_eq_some_iff.1 ha).1
  refine ⟨h.len,by have:=h.lt; omega,hj,?_,h.drop1⟩
  rw [h.tk,List.take_add_one,ha,List.filter_append]; simp [hq]
theorem DelS.keep {q:Nt→Bool} {l R:List Nt} {i j:Nat} {a:Nt} (h:DelS q l R i j) (ha:l[j]?=some a) (hq:q a=false):DelS q l (R.set i a) (i+1) (j+1):=by
  have hj:=(List.getElem?_eq_some_iff.1 ha).1
  have hlt:=h.lt
  have hlen:=h.len
  refine ⟨by rw [List.length_set]; exact h.len,by omega,hj,?_,?_⟩
  · rw [List.take_add_one,List.getElem?_set_self (by omega),List.take_set_of_le (Nat.le_refl _),h.tk,List.take_add_one,ha,List.filter_append]; simp [hq]
  · rw [List.drop_set_of_lt (by omega)]; exact h.drop1
theorem upd_upd {σ:Sto} {f i:Nat} {a b o:Ob} (h:σ.at f i=some o):(σ.upd f i a).upd f i b=σ.upd f i b:=by
  unfold Sto.at at h
  unfold Sto.upd
  split at h
  · rename_i F hF
    have hlt:=(List.getElem?_eq_some_iff.1 hF).1
    simp only [hF,List.getElem?_set_self hlt,List.set_set]
  · cases h
theorem delete_does (q:Nt→Bool) (fd:Nat) (cap:List AV) (hcap:∀ c∈cap,PureV c) (hq:∀ a,Pure Tryz.prog fd ([.agg (Nt.cs a)]++cap) (bl (q a))) (σ:Sto) (f:Nat) (l:List Nt) (hl:l.length < 9223372036854775808) (hf:σ.at f 0=some ⟨68,38,l.map Nt.cs,none⟩) :
    Does Tryz.prog 85 [.own f 0 l.length,.fn (.func fd) [] cap] σ (Left σ f (ntS (l.filter fun a=>!q a))):=by
  refine dB_ Tryz.call85 Tryz.func85 k85 ?_
  unfold c85
  have hcp:PureV (.fn (.func fd) [] cap):=PureV.fn (fun _ h=>absurd h (List.not_mem_nil)) hcap
  have hix:=indexNt fd cap hcap q l hl fun x _=>hq x
  have hz:=fidx_opt q l
  cases hi:l.findIdx? q with
  | none =>
    rw [hi] at hz
    simp only at hz
    rw [hz] at hix
    have hall:l.filter (fun a=>!q a)=l:=by
      rw [List.filter_eq_self]
      intro a ha
      have:=List.findIdx?_eq_none_iff.1 hi a ha
      simp [this]
    rw [hall]
    refine AWPC.freeze1 (t:=0) (f:=f) (n:=l.length) (o:=⟨68,38,l.map Nt.cs,none⟩) rfl hf (by simp) (by simp) ?_
    ((refine Ay @hix ?_;repeat' constructor)<;>intros<;>refine hD_ ?_)
    all_goals try (exfalso;omega)
    exact .mk [] rfl (by simp)
  | some i =>
    rw [hi] at hz
    simp only at hz
    rw [hz] at hix
    have hp:Peek Tryz.prog 157 [.own f 0 l.length,.fn (.func fd) [] cap] σ (n (i:Int)) :=
      Peek.plain hix (by simp) ⟨Frz.ownL hf rfl (by decide) (fun a=>Nt.pc a) (fun a=>rfl),Frz.pure hcp,trivial⟩
    obtain ⟨hil,hqi,hqj⟩:=List.findIdx?_eq_some_iff_getElem.1 hi
    have hf1:Sto.at σ f 0=some ⟨68,38,l.map Nt.cs,none⟩:=hf
    (repeat' ((first
 | refine vn rfl ?_
 | simp (disch:=omega) only [wr64,Int.zero_sub]
 | refine bo (fun _=>?_) fun _=>?_
 | refine im fun _=>?_
 | ((repeat refine si ?_); ((first | refine .inl ⟨_,_,_,_,rfl,fun _=>(by first | exact hp),?_⟩ | refine ⟨_,_,_,_,rfl,fun _=>(by first | exact hp),?_⟩); (first | refine o1 ?_ | refine o2 ?_ | refine o3 ?_ | refine o4 ?_)))
 | refine cF ?_
 | refine om ?_
 | refine an ?_
 | fail) <;> try simp only [zN,zT,zV,zS,zU,Q0,Q1,ex,Q2,Q3,Q4,Q5,Q6,Q7,Q8,Q9,QA,QB,QC,Nat.reduceBEq,reduceAdd,reduceSub,reduceLT,reduceLeDiff,reduceMul,reduceEqDiff,reduceIte,hf1]))
    all_goals try (exfalso;omega)
    have hflt:=at_lt hf
    refine AWPC.loopE (α:={ x:Nat × Nat × List Nt × Sto // DelS q l x.2.2.1 x.1 x.2.1 }) [5,6] (fun x=>[(5,n x.1.1),(6,n x.1.2.1)])
      (fun x=>σ.upd f 0 ⟨68,38,x.1.2.2.1.map Nt.cs,none⟩++x.1.2.2.2) (fun x=>l.length - x.1.2.1) ⟨(i,i+1,l,[]),DelS.init hil hqi (fun j hj=>by simpa using hqj j hj)⟩ ?_ (by rw [upd_self hf,List.append_nil]) ?_
    · (simp only [zN,zT,zV,zS,zU,Q0,Q1,ex,Q2,Q3,Q4,Q5,Q6,Q7,Q8,Q9,QA,QB,QC,Nat.reduceBEq,reduceAdd,reduceSub,reduceLT,reduceLeDiff,reduceMul,reduceEqDiff,reduceIte]; try simp)
    · rintro ⟨⟨i,j,R,μ⟩,hD⟩
      simp only at hD
      obtain ⟨U,hU⟩:∃ U,U=σ.upd f 0 ⟨68,38,R.map Nt.cs,none⟩:=⟨_,rfl⟩
      have hUl:List.length U=List.length σ:=by rw [hU,upd_length]
      have hA:∀ μ,Sto.at (U++μ) f 0=some ⟨68,38,R.map Nt.cs,none⟩:=fun μ=>by rw [at_appL (by omega),hU,at_upd_same hf]
      have hB:∀ o μ,Sto.upd (U++μ) f 0 o=σ.upd f 0 o++μ:=fun o μ=>by rw [upd_appL (by omega),hU,upd_upd hf]
      simp only [← hU]
      have hRl:=hD.len
      have hi1:=hD.lt
      by_cases hlt:j < l.length
      · obtain ⟨a,ha⟩:∃ a,l[j]?=some a:=⟨_,List.getElem?_eq_getElem hlt⟩
        have hs:(R.map Nt.cs).getD j []=Nt.cs a:=getD_map ((hD.get hlt).trans ha)
        have hca:=hq a
        have hset:(R.map Nt.cs).set i (Nt.cs a)=(R.set i a).map Nt.cs:=by rw [List.map_set]
        cases hqa:q a with
        | true =>
          rw [hqa] at hca
          have hN:=hD.skip ha hqa
          ((refine Az (And.intro @hA (And.intro @hB (And.intro @hs @hRl))) @hca ?_;repeat' constructor)<;>intros<;>refine hD_ ?_)
          all_goals try (exfalso;omega)
          exact ⟨⟨(i,j+1,R,μ++[some [⟨68,38,[a.cs],none⟩]]),hN⟩,by simp,by rw [hU],by simp only; omega⟩
        | false =>
          rw [hqa] at hca
          have hN:=hD.keep ha hqa
          have hsi:(R.map Nt.cs).getD i []=Nt.cs (R.getD i nt0):=row nt0 (by omega)
          ((refine Az (And.intro @hA (And.intro @hB (And.intro @hs (And.intro @hsi (And.intro @hRl @hset))))) @hca ?_;repeat' constructor)<;>intros<;>refine hD_ ?_)
          all_goals try (exfalso;omega)
          exact ⟨⟨(i+1,j+1,R.set i a,μ++[some [⟨68,38,[a.cs],none⟩]]),hN⟩,by simp,rfl,by simp only; omega⟩
      · obtain rfl:j=l.length:=by have:=hD.le; omega
        iterate 4
          ((first
 | refine vn rfl ?_
 | simp (disch:=omega) only [wr64,Int.zero_sub]
 | refine bo (fun _=>?_) fun _=>?_
 | refine im fun _=>?_
 | refine cF ?_
 | refine om ?_
 | refine an ?_
 | fail) <;> try simp only [zN, zT, zV, zS, zU, vcC, lateX, ex, strp, binA, elems, cells, scalar, eqC, keyA, intsA, lookA, ofVs, mpOf, Nat.reduceBEq, reduceAdd, reduceSub, reduceLT, reduceLeDiff, reduceMul, reduceEqDiff, reduceIte, hA, hRl, List.length_map])
        ((first
 | refine vn rfl ?_
 | simp (disch:=omega) only [wr64,Int.zero_sub]
 | refine bo (fun _=>?_) fun _=>?_
 | refine im fun _=>?_
 | refine cF ?_
 | refine om ?_
 | refine an ?_
 | fail) <;> try simp only [zN, zT, zV, zS, zU, vcC, lateX, ex, strp, binA, elems, cells, scalar, eqC, keyA, intsA, lookA, ofVs, mpOf, Nat.reduceBEq, reduceAdd, reduceSub, reduceLT, reduceLeDiff, reduceMul, reduceEqDiff, reduceIte, hA, hB, hRl, List.length_map])
        have hm1:(List.take i (R.map Nt.cs)).length=i:=by rw [List.length_take,List.length_map]; omega
        have hfin:R.take i=l.filter fun a=>!q a:=by rw [hD.tk,List.take_length]
        refine AWPC.freeze1 (t:=0) (f:=f) (n:=l.length) (o:=⟨68,38,List.take i (R.map Nt.cs)++List.replicate (l.length - i) (vs z38),none⟩) rfl (by rw [at_appL (by rw [upd_length]; omega),at_upd_same hf])
          (by simp only [List.length_append,hm1,List.length_replicate]; omega) (by simp) ?_
        have hlen2:((List.take i (R.map Nt.cs)++List.replicate (l.length - i) (vs z38)).length:Int)=l.length:=by simp only [List.length_append,hm1,List.length_replicate]; omega
        have htk2:List.take i (List.take i (R.map Nt.cs)++List.replicate (l.length - i) (vs z38))=(l.filter fun a=>!q a).map Nt.cs:=by
          rw [List.take_append_of_le_length (by omega),List.take_take,Nat.min_self,← List.map_take,hfin]
        generalize List.take i (R.map Nt.cs)++List.replicate (l.length - i) (vs z38)=es at hlen2 htk2
        ((refine Ax (And.intro @hlen2 @htk2) ?_;repeat' constructor)<;>intros<;>refine hD_ ?_)
        refine ⟨by simp [sideL,ov,gt,cnd],⟨by omega,by omega,by omega⟩,?_⟩
        ((refine Au ?_;repeat' constructor)<;>intros<;>refine hD_ ?_)
        exact .mk μ rfl (gone_upd hf)
theorem AsOf_spec (b:Bse) (hb:bseSz b) (l:List Nt) (hl:setSz l) (day clock:Int):Pure Tryz.prog 23 [.agg b.cs,ntS l,n day,n clock] (.tup [.agg (asofE b l day clock).1.cs,n (asofE b l day clock).2]):=by
  refine pB_ Tryz.call23 Tryz.func23 k23 ?_
  unfold c23
  have h1:=asked_spec b hb [l] (by simp) (by simpa using hl)
  by_cases ha:askedE b [l]=0
  · have hE:asofE b l day clock=(foldT b (l.filter fun a=>decide (a.day≤day∧a.clock≤clock)),0):=by unfold asofE; rw [if_neg (by omega)]
    rw [hE]
    rw [ha] at h1
    have hok:=(askedE_ok ha).2 l (by simp)
    have h400:=(setE_ok hok).2.1
    have h2:=fold_ok b l (l.filter fun a=>decide (a.day≤day∧a.clock≤clock)) hl hok List.filter_sublist
    generalize foldT b (l.filter fun a=>decide (a.day≤day∧a.clock≤clock))=r at h2
    have hd:=fun σ f=>delete_does (fun a=>!decide (a.day≤day∧a.clock≤clock)) 84 [.iptr [n day] 0,.iptr [n clock] 0] (by simp) (fun a=>asOf1_spec day clock a) σ f l hl.1
    have hnn:(l.filter fun a=>!!decide (a.day≤day∧a.clock≤clock))=l.filter fun a=>decide (a.day≤day∧a.clock≤clock):=by simp
    ((refine Ay @h1 ?_;repeat' constructor)<;>intros<;>refine hD_ ?_)
    all_goals try (exfalso;omega)
    refine .inr ⟨_,_,_,_,rfl,cloneNtD l (by omega) _,?_⟩
    rintro r1 σ1 ⟨ν1,rfl,rfl⟩
    simp only [zN,zT,zV,zS,zU,Q0,Q1,ex,Q2,Q3,Q4,Q5,Q6,Q7,Q8,Q9,QA,QB,QC,Nat.reduceBEq,reduceAdd,reduceSub,reduceLT,reduceLeDiff,reduceMul,reduceEqDiff,reduceIte,List.length_map]
    refine .inr ⟨_,_,_,_,rfl,hd _ 1 rfl,?_⟩
    rintro r1 σ1 ⟨ν2,rfl,rfl⟩
    simp only [hnn]
    simp only [zN,zT,zV,zS,zU,Q0,Q1,ex,Q2,Q3,Q4,Q5,Q6,Q7,Q8,Q9,QA,QB,QC,Nat.reduceBEq,reduceAdd,reduceSub,reduceLT,reduceLeDiff,reduceMul,reduceEqDiff,reduceIte]
    ((refine Ay @h2 ?_;repeat' constructor)<;>intros<;>refine hD_ ?_)
    exact Frz.tupL ⟨Frz.pure (rgr_pa r),Frz.pure (by simp),trivial⟩
  · have hE:asofE b l day clock=(rgr0,askedE b [l]):=by unfold asofE; rw [if_pos ha]
    rw [hE]
    generalize askedE b [l]=e at h1 ha
    ((refine Ay @h1 ?_;repeat' constructor)<;>intros<;>refine hD_ ?_)
    all_goals try (exfalso;omega)
    exact Frz.tupL ⟨Frz.aggL ⟨Frz.nil0,Frz.nil0,Frz.nil0,Frz.nil0,trivial⟩,Frz.pure (by simp),trivial⟩
end Go.Proofs.YtolgelipcgcbhaaGreat
