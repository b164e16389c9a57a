/- Part 9: contracts. -/
import Derived.Test.YtolgelipcgcbhaaGreatBn8
namespace Go.Abs
open Go.Shelf Go.RowKit Go.Lib Go.Sort Go.Proofs
set_option linter.unusedVariables false
set_option linter.unusedSimpArgs false
theorem insI_perm (a:Int):∀ l,(insI a l).Perm (a::l)
  | []=>.refl _
  | x::r=>by
    unfold insI
    split
    · exact .refl _
    · exact ((insI_perm a r).cons x).trans (.swap a x r)
theorem insI_le {a:Int}:∀ {l:List Int},l.Pairwise (·≤·)→(insI a l).Pairwise (·≤·)
  | [],_=>by simp [insI]
  | x::r,h=>by
    rw [List.pairwise_cons] at h
    unfold insI
    split
    · refine List.pairwise_cons.2 ⟨fun y hy=>?_,List.pairwise_cons.2 h⟩
      rcases List.mem_cons.1 hy with rfl | hy
      · omega
      · have:=h.1 y hy; omega
    · refine List.pairwise_cons.2 ⟨fun y hy=>?_,insI_le h.2⟩
      rcases List.mem_cons.1 ((insI_perm a r).mem_iff.1 hy) with rfl | hy
      · omega
      · exact h.1 y hy
theorem srtI_perm (l:List Int):(srtI l).Perm l:=by
  have:∀ (l o:List Int),(l.foldl (fun o a=>insI a o) o).Perm (l++o):=by
    intro l
    induction l with
    | nil=>exact fun o=>.refl _
    | cons a r ih=>exact fun o=>(ih _).trans (((insI_perm a o).append_left r).trans List.perm_middle)
  have:=this l []
  rwa [List.append_nil] at this
theorem srtI_le (l:List Int):(srtI l).Pairwise (·≤·):=by
  have:∀ (l o:List Int),o.Pairwise (·≤·)→(l.foldl (fun o a=>insI a o) o).Pairwise (·≤·):=by
    intro l
    induction l with
    | nil=>exact fun o h=>h
    | cons a r ih=>exact fun o h=>ih _ (insI_le h)
  exact this l [] .nil
theorem sortedI_one:∀ {l m:List Int},l.Perm m→l.Pairwise (·≤·)→m.Pairwise (·≤·)→l=m
  | [],m,h,_,_=>(List.nil_perm.1 h).symm
  | a::r,[],h,_,_=>absurd h.symm (by simp)
  | a::r,b::s,h,h1,h2=>by
    rw [List.pairwise_cons] at h1 h2
    have hab:a=b:=by
      rcases List.mem_cons.1 (h.mem_iff.1 (List.mem_cons_self ..)) with e | ha
      · exact e
      rcases List.mem_cons.1 (h.mem_iff.2 (List.mem_cons_self ..)) with e | hb
      · exact e.symm
      have g1:=h1.1 b hb
      have g2:=h2.1 a ha
      omega
    subst hab
    rw [sortedI_one (List.Perm.cons_inv h) h1.2 h2.2]
theorem mergeSort_srtI (l:List Int):(l.mergeSort fun x y=>decide (x≤y))=srtI l:=by
  refine sortedI_one ((List.mergeSort_perm l _).trans (srtI_perm l).symm) ?_ (srtI_le l)
  have:=List.pairwise_mergeSort (le:=fun x y:Int=>decide (x≤y)) (fun a b c h1 h2=>by simp at h1 h2 ⊢; omega) (fun a b=>by simp; omega) l
  exact this.imp fun h=>by simpa using h
theorem sorted_block1 {w:World} {b m:Nat} {l:List Int} {os:Array Obj} {c:Array Value} {T:TypeId} (hc:w.heap[b]?=some (.cells c T (0,0))) (hsz:l.length≤c.size) :
    (∃ c',(grow (putRow (Value.int .i64) (Sort.ahead w m) b 0 l.toArray) os).heap[b]?=some (.cells c' T (0,0))∧c'.size=c.size∧∀ i (hi:i < l.length),c'.getD i undef=.int .i64 l[i]) ∧
    w.heap.size≤(grow (putRow (Value.int .i64) (Sort.ahead w m) b 0 l.toArray) os).heap.size∧(∀ b',b' < w.heap.size→b'≠b→(grow (putRow (Value.int .i64) (Sort.ahead w m) b 0 l.toArray) os).heap[b']?=w.heap[b']?) ∧
    Still w (grow (putRow (Value.int .i64) (Sort.ahead w m) b 0 l.toArray) os):=by
  have hb:b < w.heap.size:=(Array.getElem?_eq_some_iff.1 hc).1
  have hput:∀ b',(putRow (Value.int .i64) (Sort.ahead w m) b 0 l.toArray).heap[b']?=if b=b' then (w.heap[b']?).map (onCells (putCells (Value.int .i64) 0 l.toArray)) else w.heap[b']?:=by
    intro b'
    simp only [putRow,mapBlock,Sort.ahead]
    rw [Array.getElem?_modify]
  refine ⟨?_,by simp [grow,putRow,mapBlock,Sort.ahead],fun b' h1 h2=>?_,⟨rfl,rfl,rfl,(show w.drawn≤w.drawn+m from Nat.le_add_right _ _)⟩⟩
  · refine ⟨putCells (Value.int .i64) 0 l.toArray c,?_,?_,fun i hi=>?_⟩
    · rw [heap_grow_old _ _ (by simp [putRow,mapBlock,Sort.ahead]; exact hb),hput,if_pos rfl,hc]
      rfl
    · simp [putCells]
    · have:i < c.size:=by omega
      simp [putCells,Array.getD_eq_getD_getElem?,this,hi]
  · rw [heap_grow_old _ _ (by simp [putRow,mapBlock,Sort.ahead]; exact h1),hput,if_neg (fun e=>h2 e.symm)]
theorem sort_ints {P:Program} {g:Nat}
    (hs:∀ (blk off cap:Nat) (zs:List Int) (w:World),Holds (Value.int .i64) w blk off zs.toArray→blk < w.heap.size→zs.length < 4611686018427387904→Calls P g #[.slice (some ⟨blk,off,none⟩) zs.length cap] w fun e w' =>
      e=.returned (.tuple #[])∧∃ m os,w'=grow (putRow (Value.int .i64) (Sort.ahead w m) blk off (zs.mergeSort fun x y=>decide (x≤y)).toArray) os)
    (hn:∀ (p:Option Addr) (cap:Nat) (w:World),Calls P g #[.slice p 0 cap] w fun e w'=>e=.returned (.tuple #[])∧w'=w)
    (ef:∀ args w,(callFunc g args).run P w=.ok (.enter g args) w)
    (σ:Sto) (f:Nat) (T:TypeId) (l:List Int) (hf:σ.at f 0=some ⟨T,1,l.map (fun z=>[n z]),none⟩) (hl:l.length < 4611686018427387904) :
    Does P g [.own f 0 l.length] σ (fun _ σ'=>σ'=σ.upd f 0 ⟨T,1,(srtI l).map (fun z=>[n z]),none⟩):=by
  refine ⟨ef,fun X β w xs hX hsr hlen hr=>?_⟩
  match xs,hlen with
  | [x],_ =>
    have hx:=hr 0 (by simp)
    simp only [List.getD_cons_zero] at hx
    have hob:=hsr.obj f 0 _ hf
    cases hx with
    | own _ _ _ _ h1c hflt hle h =>
      have h':=h _ hf (by simp)
      unfold OwnSl at h'
      by_cases h0:l=[]
      · subst h0
        have hemp:∃ p cap,x=.slice p 0 cap:=by
          cases hbf:β f 0 with
          | none=>rw [hbf] at h'; exact ⟨none,0,h'.2⟩
          | some b=>rw [hbf] at h'; obtain ⟨cap,_,_,rfl,_⟩:=h'; exact ⟨_,cap,rfl⟩
        obtain ⟨p,cap,rfl⟩:=hemp
        refine callsIn_wide.2 ((hn p cap w).mono ?_)
        rintro e w' ⟨rfl,rfl⟩
        exact ⟨_,.any,σ,β,rfl,(upd_self hf).symm,hsr,.any _,Ext.refl _ _ _,Kp.refl⟩
      · cases hbf:β f 0 with
        | none =>
          rw [hbf] at h'
          exact absurd (List.map_eq_nil_iff.1 h'.1) h0
        | some b =>
          rw [hbf] at h' hob
          obtain ⟨cap,c0,T0,rfl,hc0,hcs0⟩:=h'
          obtain ⟨c,hc1,hsz,hone,hrv⟩:=hob.2.1 rfl
          rw [hc1] at hc0; injection hc0 with hc0; injection hc0 with hc0 _; subst hc0
          simp only [List.length_map,Nat.mul_one] at hsz hone hrv hcs0 ⊢
          have hcell:∀ i (hi:i < l.length),c.getD i undef=.int .i64 l[i]:=by
            intro i hi
            have h1:=hrv i 0 hi (by omega)
            rw [getD_map (List.getElem?_eq_getElem hi),Nat.add_zero] at h1
            exact h1.inv_v
          have hH:Holds (Value.int .i64) w b 0 l.toArray:=by
            intro t ht
            have ht':t < l.length:=by simpa using ht
            have h2:c[t]?=some (c.getD t undef):=by
              rw [Array.getD_eq_getD_getElem?,Array.getElem?_eq_getElem (by omega)]; rfl
            refine ⟨?_,?_⟩
            · unfold World.cell?
              rw [hc1]
              simp only [Option.isSome_none,Bool.false_eq_true,if_false,Nat.zero_add,id_eq]
              rw [h2,hcell t ht']
              simp [ht']
            · unfold World.frozen?
              rw [hc1]
              simp
          have hblk:b < w.heap.size:=(Array.getElem?_eq_some_iff.1 hc1).1
          refine callsIn_wide.2 ((hs b 0 cap l w hH hblk hl).mono ?_)
          rintro e w' ⟨rfl,m,os,rfl⟩
          rw [mergeSort_srtI]
          have hll:(srtI l).length=l.length:=(srtI_perm l).length_eq
          obtain ⟨⟨c',hc',hcsz,hcg⟩,hge,hold,hstill⟩:=sorted_block1 (l:=srtI l) (m:=m) (os:=os) hc1 (by omega)
          generalize hW:grow (putRow (Value.int .i64) (Sort.ahead w m) b 0 (srtI l).toArray) os=W at hc' hge hold hstill
          have ht:Turn w β f 0 (some b) W:=⟨hge,fun b' h1 h2=>hold b' h1 (fun e=>h2 (by rw [hbf,e])),fun b' hb'=>.inl (by rw [hbf]; exact hb'),hstill⟩
          have hsame:(⟨T,1,l.map (fun z=>[n z]),none⟩:Ob).es.length=(⟨T,1,(srtI l).map (fun z=>[n z]),none⟩:Ob).es.length→some b=β f 0∧∀ b',β f 0=some b'→SameSize w W b':=fun _ =>
            ⟨hbf.symm,fun b' hb' cc T hcc=>by
              rw [hbf] at hb'; injection hb' with hb'; subst hb'
              rw [hc1] at hcc; injection hcc with hcc; injection hcc with hcc hT; subst hcc; subst hT
              exact ⟨c',_,hc',hcsz⟩⟩
          have hlen2:(⟨T,1,l.map (fun z=>[n z]),none⟩:Ob).es.length≤(⟨T,1,(srtI l).map (fun z=>[n z]),none⟩:Ob).es.length:=by simp [hll]
          have K:=Kp.turn (o':=⟨T,1,(srtI l).map (fun z=>[n z]),none⟩) hsr hf ht rfl hlen2 hsame
          have S:=hsr.turn (o':=⟨T,1,(srtI l).map (fun z=>[n z]),none⟩) hX hf ht rfl hlen2 hsame (by
            refine ⟨fun e he=>?_,fun _=>⟨c',hc',by simp only [List.length_map,Nat.mul_one]; omega,fun e j he hj=>?_,fun e j he hj=>?_⟩,fun r hr=>by cases hr⟩
            · simp only [List.length_map] at he ⊢
              rw [getD_map (List.getElem?_eq_getElem he)]; rfl
            · simp only [List.length_map,Nat.mul_one] at he ⊢
              obtain rfl:j=0:=by simp at hj; omega
              rw [Nat.add_zero,hcg e he]; rfl
            · simp only [List.length_map,Nat.mul_one] at he ⊢
              obtain rfl:j=0:=by simp at hj; omega
              rw [Nat.add_zero,hcg e he,getD_map (List.getElem?_eq_getElem he)]
              exact .v _)
          exact ⟨_,.any,_,_,rfl,rfl,S,.any _,Ext.turn hf ht,K⟩
end Go.Abs
