/- Part 9 of the texts that the claim rests on: abstract values over the walk, and contracts of functions. -/
import Derived.Test.YtolgelipcgcbhaaGreatBb8
import Derived.Test.YtolgelipcgcbhaaGreatRows
import Derived.Shelf.Spec.SlicesGrow
import Derived.Shelf.SlGeneric
import Derived.Test.YtolgelipcgcbhaaGreatProg
namespace Go.Abs
open Go.Shelf Go.RowKit Go.Lib Go.Sort Go.Proofs
set_option linter.unusedVariables false
set_option linter.unusedSimpArgs false
theorem insI_perm (a:Int):∀ l,(insI a l).Perm (a::l)
  | []=>.refl _
  | x::r=>by
    unfold insI
    split
    · exact .refl _
    · exact ((insI_perm a r).cons x).trans (.swap a x r)
theorem insI_le {a:Int}:∀ {l:List Int},l.Pairwise (·≤·)→(insI a l).Pairwise (·≤·)
  | [],_=>by simp [insI]
  | x::r,h=>by
    rw [List.pairwise_cons] at h
    unfold insI
    split
    · refine List.pairwise_cons.2 ⟨fun y hy=>?_,List.pairwise_cons.2 h⟩
      rcases List.mem_cons.1 hy with rfl | hy
      · omega
      · have:=h.1 y hy; omega
    · refine List.pairwise_cons.2 ⟨fun y hy=>?_,insI_le h.2⟩
      rcases List.mem_cons.1 ((insI_perm a r).mem_iff.1 hy) with rfl | hy
      · omega
      · exact h.1 y hy
theorem srtI_perm (l:List Int):(srtI l).Perm l:=by
  have:∀ (l o:List Int),(l.foldl (fun o a=>insI a o) o).Perm (l++o):=by
    intro l
    induction l with
    | nil=>exact fun o=>.refl _
    | cons a r ih=>exact fun o=>(ih _).trans (((insI_perm a o).append_left r).trans List.perm_middle)
  have:=this l []
  rwa [List.append_nil] at this
theorem srtI_le (l:List Int):(srtI l).Pairwise (·≤·):=by
  have:∀ (l o:List Int),o.Pairwise (·≤·)→(l.foldl (fun o a=>insI a o) o).Pairwise (·≤·):=by
    intro l
    induction l with
    | nil=>exact fun o h=>h
    | cons a r ih=>exact fun o h=>ih _ (insI_le h)
  exact this l [] .nil
theorem sortedI_one:∀ {l m:List Int},l.Perm m→l.Pairwise (·≤·)→m.Pairwise (·≤·)→l=m
  | [],m,h,_,_=>(List.nil_perm.1 h).symm
  | a::r,[],h,_,_=>absurd h.symm (by simp)
  | a::r,b::s,h,h1,h2=>by
    rw [List.pairwise_cons] at h1 h2
    have hab:a=b:=by
      rcases List.mem_cons.1 (h.mem_iff.1 (List.mem_cons_self ..)) with e | ha
      · exact e
      rcases List.mem_cons.1 (h.mem_iff.2 (List.mem_cons_self ..)) with e | hb
      · exact e.symm
      have g1:=h1.1 b hb
      have g2:=h2.1 a ha
      omega
    subst hab
    rw [sortedI_one (List.Perm.cons_inv h) h1.2 h2.2]
theorem mergeSort_srtI (l:List Int):(l.mergeSort fun x y=>decide (x≤y))=srtI l:=by
  refine sortedI_one ((List.mergeSort_perm l _).trans (srtI_perm l).symm) ?_ (srtI_le l)
  have:=List.pairwise_mergeSort (le:=fun x y:Int=>decide (x≤y)) (fun a b c h1 h2=>by simp at h1 h2 ⊢; omega) (fun a b=>by simp; omega) l
  exact this.imp fun h=>by simpa using h
theorem sorted_block1 {w:World} {b m:Nat} {l:List Int} {os:Array Obj} {c:Array Value} {T:TypeId} (hc:w.heap[b]?=some (.cells c T (0,0))) (hsz:l.length≤c.size) :
    (∃ c',(grow (putRow (Value.int .i64) (Sort.ahead w m) b 0 l.toArray) os).heap[b]?=some (.cells c' T (0,0))∧c'.size=c.size∧∀ i (hi:i < l.length),c'.getD i undef=.int .i64 l[i]) ∧
    w.heap.size≤(grow (putRow (Value.int .i64) (Sort.ahead w m) b 0 l.toArray) os).heap.size∧(∀ b',b' < w.heap.size→b'≠b→(grow (putRow (Value.int .i64) (Sort.ahead w m) b 0 l.toArray) os).heap[b']?=w.heap[b']?) ∧
    Still w (grow (putRow (Value.int .i64) (Sort.ahead w m) b 0 l.toArray) os):=by
  have hb:b < w.heap.size:=(Array.getElem?_eq_some_iff.1 hc).1
  have hput:∀ b',(putRow (Value.int .i64) (Sort.ahead w m) b 0 l.toArray).heap[b']?=if b=b' then (w.heap[b']?).map (onCells (putCells (Value.int .i64) 0 l.toArray)) else w.heap[b']?:=by
    intro b'
    simp only [putRow,mapBlock,Sort.ahead]
    rw [Array.getElem?_modify]
  refine ⟨?_,by simp [grow,putRow,mapBlock,Sort.ahead],fun b' h1 h2=>?_,⟨rfl,rfl,rfl,(show w.drawn≤w.drawn+m from Nat.le_add_right _ _)⟩⟩
  · refine ⟨putCells (Value.int .i64) 0 l.toArray c,?_,?_,fun i hi=>?_⟩
    · rw [heap_grow_old _ _ (by simp [putRow,mapBlock,Sort.ahead]; exact hb),hput,if_pos rfl,hc]
      rfl
    · simp [putCells]
    · have:i < c.size:=by omega
      simp [putCells,Array.getD_eq_getD_getElem?,this,hi]
  · rw [heap_grow_old _ _ (by simp [putRow,mapBlock,Sort.ahead]; exact h1),hput,if_neg (fun e=>h2 e.symm)]
theorem sort_ints {P:Program} {g:Nat}
    (hs:∀ (blk off cap:Nat) (zs:List Int) (w:World),Holds (Value.int .i64) w blk off zs.toArray→blk < w.heap.size→zs.length < 4611686018427387904→Calls P g #[.slice (some ⟨blk,off,none⟩) zs.length cap] w fun e w' =>
      e=.returned (.tuple #[])∧∃ m os,w'=grow (putRow (Value.int .i64) (Sort.ahead w m) blk off (zs.mergeSort fun x y=>decide (x≤y)).toArray) os)
    (hn:∀ (p:Option Addr) (cap:Nat) (w:World),Calls P g #[.slice p 0 cap] w fun e w'=>e=.returned (.tuple #[])∧w'=w)
    (ef:∀ args w,(callFunc g args).run P w=.ok (.enter g args) w)
    (σ:Sto) (f:Nat) (T:TypeId) (l:List Int) (hf:σ.at f 0=some ⟨T,1,l.map (fun z=>[n z]),none⟩) (hl:l.length < 4611686018427387904) :
    Does P g [.own f 0 l.length] σ (fun _ σ'=>σ'=σ.upd f 0 ⟨T,1,(srtI l).map (fun z=>[n z]),none⟩):=by
  refine ⟨ef,fun X β w xs hX hsr hlen hr=>?_⟩
  match xs,hlen with
  | [x],_ =>
    have hx:=hr 0 (by simp)
    simp only [List.getD_cons_zero] at hx
    have hob:=hsr.obj f 0 _ hf
    cases hx with
    | own _ _ _ _ h1c hflt hle h =>
      have h':=h _ hf (by simp)
      unfold OwnSl at h'
      by_cases h0:l=[]
      · subst h0
        have hemp:∃ p cap,x=.slice p 0 cap:=by
          cases hbf:β f 0 with
          | none=>rw [hbf] at h'; exact ⟨none,0,h'.2⟩
          | some b=>rw [hbf] at h'; obtain ⟨cap,_,_,rfl,_⟩:=h'; exact ⟨_,cap,rfl⟩
        obtain ⟨p,cap,rfl⟩:=hemp
        refine callsIn_wide.2 ((hn p cap w).mono ?_)
        rintro e w' ⟨rfl,rfl⟩
        exact ⟨_,.any,σ,β,rfl,(upd_self hf).symm,hsr,.any _,Ext.refl _ _ _,Kp.refl⟩
      · cases hbf:β f 0 with
        | none =>
          rw [hbf] at h'
          exact absurd (List.map_eq_nil_iff.1 h'.1) h0
        | some b =>
          rw [hbf] at h' hob
          obtain ⟨cap,c0,T0,rfl,hc0,hcs0⟩:=h'
          obtain ⟨c,hc1,hsz,hone,hrv⟩:=hob.2.1 rfl
          rw [hc1] at hc0; injection hc0 with hc0; injection hc0 with hc0 _; subst hc0
          simp only [List.length_map,Nat.mul_one] at hsz hone hrv hcs0 ⊢
          have hcell:∀ i (hi:i < l.length),c.getD i undef=.int .i64 l[i]:=by
            intro i hi
            have h1:=hrv i 0 hi (by omega)
            rw [getD_map (List.getElem?_eq_getElem hi),Nat.add_zero] at h1
            exact h1.inv_v
          have hH:Holds (Value.int .i64) w b 0 l.toArray:=by
            intro t ht
            have ht':t < l.length:=by simpa using ht
            have h2:c[t]?=some (c.getD t undef):=by
              rw [Array.getD_eq_getD_getElem?,Array.getElem?_eq_getElem (by omega)]; rfl
            refine ⟨?_,?_⟩
            · unfold World.cell?
              rw [hc1]
              simp only [Option.isSome_none,Bool.false_eq_true,if_false,Nat.zero_add,id_eq]
              rw [h2,hcell t ht']
              simp [ht']
            · unfold World.frozen?
              rw [hc1]
              simp
          have hblk:b < w.heap.size:=(Array.getElem?_eq_some_iff.1 hc1).1
          refine callsIn_wide.2 ((hs b 0 cap l w hH hblk hl).mono ?_)
          rintro e w' ⟨rfl,m,os,rfl⟩
          rw [mergeSort_srtI]
          have hll:(srtI l).length=l.length:=(srtI_perm l).length_eq
          obtain ⟨⟨c',hc',hcsz,hcg⟩,hge,hold,hstill⟩:=sorted_block1 (l:=srtI l) (m:=m) (os:=os) hc1 (by omega)
          generalize hW:grow (putRow (Value.int .i64) (Sort.ahead w m) b 0 (srtI l).toArray) os=W at hc' hge hold hstill
          have ht:Turn w β f 0 (some b) W:=⟨hge,fun b' h1 h2=>hold b' h1 (fun e=>h2 (by rw [hbf,e])),fun b' hb'=>.inl (by rw [hbf]; exact hb'),hstill⟩
          have hsame:(⟨T,1,l.map (fun z=>[n z]),none⟩:Ob).es.length=(⟨T,1,(srtI l).map (fun z=>[n z]),none⟩:Ob).es.length→some b=β f 0∧∀ b',β f 0=some b'→SameSize w W b':=fun _ =>
            ⟨hbf.symm,fun b' hb' cc T hcc=>by
              rw [hbf] at hb'; injection hb' with hb'; subst hb'
              rw [hc1] at hcc; injection hcc with hcc; injection hcc with hcc hT; subst hcc; subst hT
              exact ⟨c',_,hc',hcsz⟩⟩
          have hlen2:(⟨T,1,l.map (fun z=>[n z]),none⟩:Ob).es.length≤(⟨T,1,(srtI l).map (fun z=>[n z]),none⟩:Ob).es.length:=by simp [hll]
          have K:=Kp.turn (o':=⟨T,1,(srtI l).map (fun z=>[n z]),none⟩) hsr hf ht rfl hlen2 hsame
          have S:=hsr.turn (o':=⟨T,1,(srtI l).map (fun z=>[n z]),none⟩) hX hf ht rfl hlen2 hsame (by
            refine ⟨fun e he=>?_,fun _=>⟨c',hc',by simp only [List.length_map,Nat.mul_one]; omega,fun e j he hj=>?_,fun e j he hj=>?_⟩,fun r hr=>by cases hr⟩
            · simp only [List.length_map] at he ⊢
              rw [getD_map (List.getElem?_eq_getElem he)]; rfl
            · simp only [List.length_map,Nat.mul_one] at he ⊢
              obtain rfl:j=0:=by simp at hj; omega
              rw [Nat.add_zero,hcg e he]; rfl
            · simp only [List.length_map,Nat.mul_one] at he ⊢
              obtain rfl:j=0:=by simp at hj; omega
              rw [Nat.add_zero,hcg e he,getD_map (List.getElem?_eq_getElem he)]
              exact .v _)
          exact ⟨_,.any,_,_,rfl,rfl,S,.any _,Ext.turn hf ht,K⟩
end Go.Abs
namespace Go.Proofs.YtolgelipcgcbhaaGreat
open Go.Abs
open Nat renaming reduceBEq→zq0,reduceAdd→zq1,reduceSub→zq2,reduceLT→zq3,reduceLeDiff→zq4,reduceMul→zq5,reduceEqDiff→zq6
set_option linter.unusedVariables false
set_option linter.unusedSimpArgs false
set_option maxHeartbeats 4000000
set_option maxRecDepth 100000
def c135:CF:=⟨10,
 (.seq (.ops [
 ⟨some 2,.box false 68 38 (.t 0),none⟩,
 ⟨some 3,.box false 68 38 (.t 1),none⟩,
 ⟨some 4,.mv (.c (.bool false)),none⟩] [2,3])
 (.seq (.draw [
 ⟨some 5,.load (some 38) (.t 2),none⟩,
 ⟨some 6,.call (.f 89) [(.t 5)],none⟩,
 ⟨some 7,.load (some 38) (.t 3),none⟩,
 ⟨some 8,.call (.f 89) [(.t 7)],none⟩,
 ⟨some 9,.eqs false [some .i64,some .i64] (.t 6) (.t 8),none⟩,
 ⟨some 4,.mv (.t 9),none⟩] [
 ] [4])
 .ret)),
 [.t 4]⟩
theorem k135:chkF Tryz.prog Tryz.f135 c135=true:=by kernel_rfl
def c134:CF:=⟨66,
 (.seq (.ops [
 ⟨some 4,.mv (.c (.slice none 0 0)),none⟩] [0,1])
 (.seq (.seq (.ops [
 ⟨some 8,.mv (.t 0),none⟩,
 ⟨some 9,.len (.t 8),none⟩,
 ⟨some 10,.bin .lss (.t 9) (.c (.int .i64 2)),none⟩] [0,1,10])
 (.cond (.t 10) (.seq (.ops [
 ⟨some 11,.mv (.t 0),none⟩,
 ⟨some 4,.mv (.t 11),none⟩] [4])
 .ret)
 .skip))
 (.seq (.seq (.ops [
 ⟨some 5,.mv (.c (.int .i64 1)),none⟩] [0,1,5])
 (.block 0 (.loop (.seq (.seq (.ops [
 ⟨some 12,.mv (.t 5),none⟩,
 ⟨some 13,.mv (.t 0),none⟩,
 ⟨some 14,.len (.t 13),none⟩,
 ⟨some 15,.bin .lss (.t 12) (.t 14),none⟩] [0,1,5,15])
 (.cond (.t 15) .skip
 (.exit 0)))
 (.seq (.block 1 (.seq (.draw [
 ⟨some 18,.mv (.t 1),none⟩,
 ⟨some 19,.mv (.t 0),none⟩,
 ⟨some 20,.mv (.t 5),none⟩,
 ⟨some 21,.iaddr 38 (.t 19) (.t 20),none⟩,
 ⟨some 22,.load (some 38) (.t 21),none⟩,
 ⟨some 23,.mv (.t 0),none⟩,
 ⟨some 24,.mv (.t 5),none⟩,
 ⟨some 25,.bin .sub (.t 24) (.c (.int .i64 1)),none⟩,
 ⟨some 26,.iaddr 38 (.t 23) (.t 25),none⟩,
 ⟨some 27,.load (some 38) (.t 26),none⟩] [
 ⟨some 28,.call (.t 18) [(.t 22),(.t 27)],none⟩] [0,1,5,28])
 (.cond (.t 28) (.seq (.ops [
 ⟨some 29,.mv (.t 0),none⟩,
 ⟨some 30,.mv (.t 5),none⟩,
 ⟨some 31,.subs 38 (.t 29) (.t 30),none⟩,
 ⟨some 6,.mv (.t 31),none⟩] [0,1,5,6])
 (.seq (.seq (.ops [
 ⟨some 7,.mv (.c (.int .i64 1)),none⟩] [0,1,5,6,7])
 (.block 2 (.loop (.seq (.seq (.ops [
 ⟨some 32,.mv (.t 7),none⟩,
 ⟨some 33,.mv (.t 6),none⟩,
 ⟨some 34,.len (.t 33),none⟩,
 ⟨some 35,.bin .lss (.t 32) (.t 34),none⟩] [0,1,5,6,7,35])
 (.cond (.t 35) .skip
 (.exit 2)))
 (.seq (.block 3 (.seq (.draw [
 ⟨some 38,.mv (.t 1),none⟩,
 ⟨some 39,.mv (.t 6),none⟩,
 ⟨some 40,.mv (.t 7),none⟩,
 ⟨some 41,.iaddr 38 (.t 39) (.t 40),none⟩,
 ⟨some 42,.load (some 38) (.t 41),none⟩,
 ⟨some 43,.mv (.t 6),none⟩,
 ⟨some 44,.mv (.t 7),none⟩,
 ⟨some 45,.bin .sub (.t 44) (.c (.int .i64 1)),none⟩,
 ⟨some 46,.iaddr 38 (.t 43) (.t 45),none⟩,
 ⟨some 47,.load (some 38) (.t 46),none⟩] [
 ⟨some 48,.call (.t 38) [(.t 42),(.t 47)],none⟩,
 ⟨some 49,.un .not (.t 48),none⟩] [0,1,5,6,7,49])
 (.cond (.t 49) (.seq (.ops [
 ⟨some 50,.mv (.t 0),none⟩,
 ⟨some 51,.mv (.t 5),none⟩,
 ⟨some 52,.mv (.t 6),none⟩,
 ⟨some 53,.mv (.t 7),none⟩,
 ⟨some 54,.iaddr 38 (.t 52) (.t 53),none⟩,
 ⟨some 55,.load (some 38) (.t 54),none⟩,
 ⟨some 56,.iaddr 38 (.t 50) (.t 51),none⟩,
 ⟨none,.store 38 (.t 56) (.t 55),none⟩] [0,1,5,6,7])
 (.ops [
 ⟨some 57,.mv (.t 5),none⟩,
 ⟨some 58,.bin .add (.t 57) (.c (.int .i64 1)),none⟩,
 ⟨some 5,.mv (.t 58),none⟩] [0,1,5,6,7]))
 .skip)))
 (.ops [
 ⟨some 36,.mv (.t 7),none⟩,
 ⟨some 37,.bin .add (.t 36) (.c (.int .i64 1)),none⟩,
 ⟨some 7,.mv (.t 37),none⟩] [0,1,5,6,7]))))))
 (.seq (.ops [
 ⟨some 59,.mv (.t 0),none⟩,
 ⟨some 60,.mv (.t 5),none⟩,
 ⟨some 61,.subs 38 (.t 59) (.t 60),none⟩,
 ⟨none,.clr 68 38 z38 (.t 61),none⟩] [0,5])
 (.seq (.ops [
 ⟨some 62,.mv (.t 0),none⟩,
 ⟨some 63,.mv (.t 5),none⟩,
 ⟨some 64,.slice 38 (.t 62) none (some (.t 63)),none⟩,
 ⟨some 4,.mv (.t 64),none⟩] [4])
 .ret))))
 .skip)))
 (.ops [
 ⟨some 16,.mv (.t 5),none⟩,
 ⟨some 17,.bin .add (.t 16) (.c (.int .i64 1)),none⟩,
 ⟨some 5,.mv (.t 17),none⟩] [0,1,5]))))))
 (.seq (.ops [
 ⟨some 65,.mv (.t 0),none⟩,
 ⟨some 4,.mv (.t 65),none⟩] [4])
 .ret)))),
 [.t 4]⟩
theorem k134:chkF Tryz.prog Tryz.f134 c134=true:=by kernel_rfl
theorem merge2_spec (a b:Nt):Pure Tryz.prog 135 [.agg a.cs,.agg b.cs] (bl (decide (a.nm=b.nm))):=by
  refine Pure.of_body Tryz.call135 Tryz.func135 k135 (Nat.le_of_ble_eq_true rfl) ?_
  unfold c135
  (repeat' ((first
 | refine vn rfl ?_
 | simp (disch:=omega) only [wr64,Int.zero_sub]
 | refine bo (fun _=>?_) fun _=>?_
 | refine im fun _=>?_
 | ((repeat refine si ?_); (first | ((first | refine .inl ⟨_,_,_,_,rfl,fun _=>pu (by first | exact name_spec a | exact name_spec b),?_⟩ | refine ⟨_,_,_,_,rfl,fun _=>pu (by first | exact name_spec a | exact name_spec b),?_⟩); (first | refine o1 ?_ | refine o2 ?_ | refine o3 ?_ | refine o4 ?_)) | refine .inl ⟨_,_,_,_,rfl,pu (by first | exact name_spec a | exact name_spec b),?_⟩))
 | refine cF ?_
 | refine om ?_
 | refine an ?_
 | fail) <;> try simp only [zN,zT,zV,zS,zU,vcC,lateX,ex,strp,binA,elems,cells,scalar,eqC,keyA,intsA,lookA,ofVs,mpOf,zq0,zq1,zq2,zq3,zq4,zq5,zq6,reduceIte]))
  refine Frz.eq (congrArg bl ?_) (by simp)
  rw [Bool.eq_iff_iff]
  simp [Nt.nm]
theorem compN1_snoc (x:Nt):∀ (r:List Nt) (a:Nt),compN1 a (r++[x])=if ((r.getLast?).getD a).nm=x.nm then compN1 a r else compN1 a r++[x]
  | [],a=>by
    show compN1 a [x]=if a.nm=x.nm then compN1 a [] else compN1 a []++[x]
    simp only [compN1]
    by_cases h:a.nm=x.nm
    · rw [if_pos h,if_pos h]
    · rw [if_neg h,if_neg h]; rfl
  | b::r,a=>by
    have h:=compN1_snoc x r
    have e:((b::r).getLast?).getD a=(r.getLast?).getD b:=by
      cases r with
      | nil=>rfl
      | cons c s=>simp [List.getLast?_cons]
    rw [e]
    simp only [List.cons_append,compN1]
    by_cases hab:a.nm=b.nm
    · have e2:((r.getLast?).getD a).nm=((r.getLast?).getD b).nm:=by cases r.getLast? <;> simp [hab]
      rw [if_pos hab,if_pos hab,h,e2]
    · rw [if_neg hab,if_neg hab,h]
      split <;> rfl
theorem compN_next {l:List Nt} {j:Nat} (h0:0 < j) (hj:j < l.length):compN (l.take (j+1))=if (l.getD (j - 1) nt0).nm=(l.getD j nt0).nm then compN (l.take j) else compN (l.take j)++[l.getD j nt0]:=by
  cases l with
  | nil=>simp at hj
  | cons a r =>
    obtain ⟨i,rfl⟩:∃ i,j=i+1:=⟨j - 1,by omega⟩
    have hir:i < r.length:=by simpa using hj
    have e1:r.take (i+1)=r.take i++[r.getD i nt0]:=by rw [List.take_add_one,getD_lt nt0 hir]; rfl
    have e2:((r.take i).getLast?).getD a=(a::r).getD i nt0:=by
      cases i with
      | zero=>rfl
      | succ i =>
        rw [List.take_add_one,getD_lt nt0 (show i < r.length by omega)]
        simp
    rw [List.take_succ_cons,List.take_succ_cons]
    simp only [compN]
    rw [e1,compN1_snoc,e2]
    rfl
structure CmpN (l R:List Nt) (k j:Nat):Prop where
  len:R.length=l.length
  pos:0 < k
  lt:k < j
  le:j≤l.length
  tk:R.take k=compN (l.take j)
  dr:R.drop (j - 1)=l.drop (j - 1)
theorem CmpN.get {l R:List Nt} {k j:Nat} (h:CmpN l R k j) (i:Nat) (hi:j - 1≤i):R.getD i nt0=l.getD i nt0:=by
  have h1:(R.drop (j - 1))[i - (j - 1)]?=(l.drop (j - 1))[i - (j - 1)]?:=by rw [h.dr]
  rw [List.getElem?_drop,List.getElem?_drop,show j - 1+(i - (j - 1))=i by omega] at h1
  rw [List.getD_eq_getElem?_getD,List.getD_eq_getElem?_getD,h1]
theorem CmpN.drop1 {l R:List Nt} {k j:Nat} (h:CmpN l R k j):R.drop j=l.drop j:=by
  have h1:(R.drop (j - 1)).drop 1=(l.drop (j - 1)).drop 1:=by rw [h.dr]
  have:=h.lt
  rw [List.drop_drop,List.drop_drop,show j - 1+1=j by omega] at h1
  exact h1
theorem CmpN.skip {l R:List Nt} {k j:Nat} (h:CmpN l R k j) (hj:j < l.length) (e:(l.getD (j - 1) nt0).nm=(l.getD j nt0).nm):CmpN l R k (j+1) :=
  ⟨h.len,h.pos,by have:=h.lt; omega,hj,by rw [h.tk,compN_next (by have:=h.lt; omega) hj,if_pos e],by simpa using h.drop1⟩
theorem CmpN.keep {l R:List Nt} {k j:Nat} (h:CmpN l R k j) (hj:j < l.length) (e:¬ (l.getD (j - 1) nt0).nm=(l.getD j nt0).nm):CmpN l (R.set k (l.getD j nt0)) (k+1) (j+1):=by
  have hlt:=h.lt
  have hlen:=h.len
  refine ⟨by rw [List.length_set]; exact h.len,by omega,by omega,hj,?_,?_⟩
  · rw [List.take_add_one,List.getElem?_set_self (by omega),List.take_set_of_le (Nat.le_refl _),h.tk,compN_next (by omega) hj,if_neg e]; rfl
  · rw [Nat.add_sub_cancel,List.drop_set_of_lt (by omega)]; exact h.drop1
theorem CmpN.init {l:List Nt} {k:Nat} (hk:0 < k) (hl:k < l.length) (h:compN (l.take k)=l.take k) (e:(l.getD (k - 1) nt0).nm=(l.getD k nt0).nm):CmpN l l k (k+1) :=
  ⟨rfl,hk,by omega,hl,by rw [compN_next hk hl,if_pos e,h],rfl⟩
theorem compN_does (σ:Sto) (f:Nat) (l:List Nt) (hl:l.length < 9223372036854775808) (hf:σ.at f 0=some ⟨68,38,l.map Nt.cs,none⟩) :
    Does Tryz.prog 134 [.own f 0 l.length,.fn (.func 135) [] []] σ (Left σ f (ntS (compN l))):=by
  refine Does.of_body Tryz.call134 Tryz.func134 k134 (Nat.le_of_ble_eq_true rfl) ?_
  unfold c134
  by_cases h2:l.length < 2
  · have he:compN l=l:=by
      cases l with
      | nil=>rfl
      | cons a r=>cases r with
        | nil=>rfl
        | cons x r=>simp only [List.length_cons] at h2; omega
    rw [he]
    refine AWPC.freeze1 (t:=0) (f:=f) (n:=l.length) (o:=⟨68,38,l.map Nt.cs,none⟩) rfl hf (by simp) (by simp) ?_
    (repeat' ((first
 | refine vn rfl ?_
 | simp (disch:=omega) only [wr64,Int.zero_sub]
 | refine bo (fun _=>?_) fun _=>?_
 | refine im fun _=>?_
 | refine cF ?_
 | refine om ?_
 | refine an ?_
 | fail) <;> try simp only [zN,zT,zV,zS,zU,vcC,lateX,ex,strp,binA,elems,cells,scalar,eqC,keyA,intsA,lookA,ofVs,mpOf,zq0,zq1,zq2,zq3,zq4,zq5,zq6,reduceIte]))
    all_goals try (exfalso; omega)
    exact .mk [] rfl (by simp)
  · (repeat' ((first
 | refine vn rfl ?_
 | simp (disch:=omega) only [wr64,Int.zero_sub]
 | refine bo (fun _=>?_) fun _=>?_
 | refine im fun _=>?_
 | refine cF ?_
 | refine om ?_
 | refine an ?_
 | fail) <;> try simp only [zN,zT,zV,zS,zU,vcC,lateX,ex,strp,binA,elems,cells,scalar,eqC,keyA,intsA,lookA,ofVs,mpOf,zq0,zq1,zq2,zq3,zq4,zq5,zq6,reduceIte,hf]))
    all_goals try (exfalso; omega)
    refine AWPC.loopS (α:={ k:Nat // 0 < k∧k≤l.length∧compN (l.take k)=l.take k }) [5] (fun k=>[(5,n k.1)]) (fun k=>l.length - k.1) ⟨1,by omega,by omega,by cases l with | nil=>rfl | cons a r=>rfl⟩ ?_ ?_
    · (simp only [zN,zT,zV,zS,zU,vcC,lateX,ex,strp,binA,elems,cells,scalar,eqC,keyA,intsA,lookA,ofVs,mpOf,zq0,zq1,zq2,zq3,zq4,zq5,zq6,reduceIte]; try simp)
    · rintro ⟨k,hk0,hkl,hc⟩
      simp only at hk0 hkl hc ⊢
      by_cases hlt:k < l.length
      · have hs1:(l.map Nt.cs).getD k []=Nt.cs (l.getD k nt0):=row nt0 hlt
        have hs0:(l.map Nt.cs).getD ((k:Int) - 1).toNat []=Nt.cs (l.getD (k - 1) nt0):=rowPrev nt0 hlt
        have hq:=merge2_spec (l.getD k nt0) (l.getD (k - 1) nt0)
        by_cases e:(l.getD (k - 1) nt0).nm=(l.getD k nt0).nm
        · have hI:=CmpN.init hk0 hlt hc e
          rw [decide_eq_true e.symm] at hq
          generalize hga:l.getD k nt0=a at hs1 hq
          generalize hgb:l.getD (k - 1) nt0=a0 at hs0 hq
          (repeat' ((first
 | refine vn rfl ?_
 | simp (disch:=omega) only [wr64,Int.zero_sub]
 | refine bo (fun _=>?_) fun _=>?_
 | refine im fun _=>?_
 | ((repeat refine si ?_); (first | ((first | refine .inl ⟨_,_,_,_,rfl,fun _=>pu hq,?_⟩ | refine ⟨_,_,_,_,rfl,fun _=>pu hq,?_⟩); (first | refine o1 ?_ | refine o2 ?_ | refine o3 ?_ | refine o4 ?_)) | refine .inl ⟨_,_,_,_,rfl,pu hq,?_⟩))
 | refine cF ?_
 | refine om ?_
 | refine an ?_
 | fail) <;> try simp only [zN, zT, zV, zS, zU, vcC, lateX, ex, strp, binA, elems, cells, scalar, eqC, keyA, intsA, lookA, ofVs, mpOf, zq0, zq1, zq2, zq3, zq4, zq5, zq6, reduceIte, hf, hs1, hs0]))
          all_goals try (exfalso; omega)
          refine AWPC.loopE (α:={ x:Nat × Nat × List Nt × Sto // 0 < x.2.1∧CmpN l x.2.2.1 x.1 (k+x.2.1) }) [5,7] (fun x=>[(5,n x.1.1),(7,n x.1.2.1)])
            (fun x=>σ.upd f 0 ⟨68,38,x.1.2.2.1.map Nt.cs,none⟩++x.1.2.2.2) (fun x=>l.length - k - x.1.2.1) ⟨(k,1,l,[]),Nat.one_pos,hI⟩ ?_ (by rw [upd_self hf,List.append_nil]) ?_
          · (simp only [zN,zT,zV,zS,zU,vcC,lateX,ex,strp,binA,elems,cells,scalar,eqC,keyA,intsA,lookA,ofVs,mpOf,zq0,zq1,zq2,zq3,zq4,zq5,zq6,reduceIte]; try simp)
          · rintro ⟨⟨i,j,R,μ⟩,hj0,hD⟩
            simp only at hj0 hD
            obtain ⟨U,hU⟩:∃ U,U=σ.upd f 0 ⟨68,38,R.map Nt.cs,none⟩:=⟨_,rfl⟩
            have hflt:=at_lt hf
            have hUl:List.length U=List.length σ:=by rw [hU,upd_length]
            have hA:∀ μ,Sto.at (U++μ) f 0=some ⟨68,38,R.map Nt.cs,none⟩:=fun μ=>by rw [at_appL (by omega),hU,at_upd_same hf]
            have hB:∀ o μ,Sto.upd (U++μ) f 0 o=σ.upd f 0 o++μ:=fun o μ=>by rw [upd_appL (by omega),hU,upd_upd hf]
            simp only [← hU]
            have hRl:=hD.len
            have hi1:=hD.lt
            by_cases hlt:k+j < l.length
            · have hr1:(R.map Nt.cs).getD (k+j) []=Nt.cs (R.getD (k+j) nt0):=row nt0 (by omega)
              have hr0:(R.map Nt.cs).getD (k+((j:Int) - 1).toNat) []=Nt.cs (R.getD (k+j - 1) nt0):=by
                rw [show k+((j:Int) - 1).toNat=k+j - 1 by omega]
                exact row nt0 (by omega)
              rw [hD.get _ (by omega)] at hr1 hr0
              have hw:IntKind.i64.wrap ((j:Int) - 1)=(j:Int) - 1:=by simp (disch:=omega) only [wr64,Int.zero_sub]
              have hsi:(R.map Nt.cs).getD i []=Nt.cs (R.getD i nt0):=row nt0 (by omega)
              have hset:(R.map Nt.cs).set i (Nt.cs (l.getD (k+j) nt0))=(R.set i (l.getD (k+j) nt0)).map Nt.cs:=by rw [List.map_set]
              have hq2:=merge2_spec (l.getD (k+j) nt0) (l.getD (k+j - 1) nt0)
              by_cases e:(l.getD (k+j - 1) nt0).nm=(l.getD (k+j) nt0).nm
              · have hN:=hD.skip hlt e
                rw [decide_eq_true e.symm] at hq2
                generalize l.getD (k+j) nt0=x at hr1 hq2
                generalize l.getD (k+j - 1) nt0=y at hr0 hq2
                (repeat' ((first
 | refine vn rfl ?_
 | simp (disch:=omega) only [wr64,Int.zero_sub]
 | refine bo (fun _=>?_) fun _=>?_
 | refine im fun _=>?_
 | ((repeat refine si ?_); (first | ((first | refine .inl ⟨_,_,_,_,rfl,fun _=>pu hq2,?_⟩ | refine ⟨_,_,_,_,rfl,fun _=>pu hq2,?_⟩); (first | refine o1 ?_ | refine o2 ?_ | refine o3 ?_ | refine o4 ?_)) | refine .inl ⟨_,_,_,_,rfl,pu hq2,?_⟩))
 | refine cF ?_
 | refine om ?_
 | refine an ?_
 | fail) <;> try simp only [zN, zT, zV, zS, zU, vcC, lateX, ex, strp, binA, elems, cells, scalar, eqC, keyA, intsA, lookA, ofVs, mpOf, zq0, zq1, zq2, zq3, zq4, zq5, zq6, reduceIte, hA, hB, hw, hr1, hr0, hRl, at_app, at_app0, upd_app, upd_app0, List.length_map, List.append_assoc, List.cons_append, List.nil_append]))
                all_goals try (exfalso; omega)
                exact ⟨⟨(i,j+1,R,μ),by simp,hN⟩,by simp,by simp [hU],by simp only; omega⟩
              · have hN:=hD.keep hlt e
                rw [decide_eq_false (fun h=>e h.symm)] at hq2
                generalize l.getD (k+j) nt0=x at hr1 hq2 hset hN
                generalize l.getD (k+j - 1) nt0=y at hr0 hq2
                (repeat' ((first
 | refine vn rfl ?_
 | simp (disch:=omega) only [wr64,Int.zero_sub]
 | refine bo (fun _=>?_) fun _=>?_
 | refine im fun _=>?_
 | ((repeat refine si ?_); (first | ((first | refine .inl ⟨_,_,_,_,rfl,fun _=>pu hq2,?_⟩ | refine ⟨_,_,_,_,rfl,fun _=>pu hq2,?_⟩); (first | refine o1 ?_ | refine o2 ?_ | refine o3 ?_ | refine o4 ?_)) | refine .inl ⟨_,_,_,_,rfl,pu hq2,?_⟩))
 | refine cF ?_
 | refine om ?_
 | refine an ?_
 | fail) <;> try simp only [zN, zT, zV, zS, zU, vcC, lateX, ex, strp, binA, elems, cells, scalar, eqC, keyA, intsA, lookA, ofVs, mpOf, zq0, zq1, zq2, zq3, zq4, zq5, zq6, reduceIte, hA, hB, hw, hr1, hr0, hRl, hsi, hset, at_app, at_app0, upd_app, upd_app0, List.length_map, List.append_assoc, List.cons_append, List.nil_append]))
                all_goals try (exfalso; omega)
                exact ⟨⟨(i+1,j+1,R.set i x,μ),by simp,hN⟩,by simp,by simp,by simp only; omega⟩
            · have hjl:k+j=l.length:=by have:=hD.le; omega
              have hnl:¬ ((j:Int) < (l.length:Int) - (k:Int)):=by omega
              ((first
 | refine vn rfl ?_
 | simp (disch:=omega) only [wr64,Int.zero_sub]
 | refine bo (fun _=>?_) fun _=>?_
 | refine im fun _=>?_
 | refine cF ?_
 | refine om ?_
 | refine an ?_
 | fail) <;> try simp only [zN, zT, zV, zS, zU, vcC, lateX, ex, strp, binA, elems, cells, scalar, eqC, keyA, intsA, lookA, ofVs, mpOf, zq0, zq1, zq2, zq3, zq4, zq5, zq6, reduceIte, hA, hRl, hnl, List.length_map])
              ((first
 | refine vn rfl ?_
 | simp (disch:=omega) only [wr64,Int.zero_sub]
 | refine bo (fun _=>?_) fun _=>?_
 | refine im fun _=>?_
 | refine cF ?_
 | refine om ?_
 | refine an ?_
 | fail) <;> try simp only [zN, zT, zV, zS, zU, vcC, lateX, ex, strp, binA, elems, cells, scalar, eqC, keyA, intsA, lookA, ofVs, mpOf, zq0, zq1, zq2, zq3, zq4, zq5, zq6, reduceIte, hA, hRl, hnl, List.length_map])
              ((first
 | refine vn rfl ?_
 | simp (disch:=omega) only [wr64,Int.zero_sub]
 | refine bo (fun _=>?_) fun _=>?_
 | refine im fun _=>?_
 | refine cF ?_
 | refine om ?_
 | refine an ?_
 | fail) <;> try simp only [zN, zT, zV, zS, zU, vcC, lateX, ex, strp, binA, elems, cells, scalar, eqC, keyA, intsA, lookA, ofVs, mpOf, zq0, zq1, zq2, zq3, zq4, zq5, zq6, reduceIte, hA, hRl, hnl, List.length_map])
              ((first
 | refine vn rfl ?_
 | simp (disch:=omega) only [wr64,Int.zero_sub]
 | refine bo (fun _=>?_) fun _=>?_
 | refine im fun _=>?_
 | refine cF ?_
 | refine om ?_
 | refine an ?_
 | fail) <;> try simp only [zN, zT, zV, zS, zU, vcC, lateX, ex, strp, binA, elems, cells, scalar, eqC, keyA, intsA, lookA, ofVs, mpOf, zq0, zq1, zq2, zq3, zq4, zq5, zq6, reduceIte, hA, hRl, hnl, List.length_map])
              ((first
 | refine vn rfl ?_
 | simp (disch:=omega) only [wr64,Int.zero_sub]
 | refine bo (fun _=>?_) fun _=>?_
 | refine im fun _=>?_
 | refine cF ?_
 | refine om ?_
 | refine an ?_
 | fail) <;> try simp only [zN, zT, zV, zS, zU, vcC, lateX, ex, strp, binA, elems, cells, scalar, eqC, keyA, intsA, lookA, ofVs, mpOf, zq0, zq1, zq2, zq3, zq4, zq5, zq6, reduceIte, hA, hB, hRl, List.length_map])
              have hm1:(List.take i (R.map Nt.cs)).length=i:=by rw [List.length_take,List.length_map]; omega
              have hfin:R.take i=compN l:=by rw [hD.tk,hjl,List.take_length]
              refine AWPC.freeze1 (t:=0) (f:=f) (n:=l.length) (o:=⟨68,38,List.take i (R.map Nt.cs)++List.replicate (l.length - i) (vs z38),none⟩) rfl (by rw [at_appL (by rw [upd_length]; omega),at_upd_same hf])
                (by simp only [List.length_append,hm1,List.length_replicate]; omega) (by simp) ?_
              have hlen2:((List.take i (R.map Nt.cs)++List.replicate (l.length - i) (vs z38)).length:Int)=l.length:=by simp only [List.length_append,hm1,List.length_replicate]; omega
              have htk2:List.take i (List.take i (R.map Nt.cs)++List.replicate (l.length - i) (vs z38))=(compN l).map Nt.cs:=by
                rw [List.take_append_of_le_length (by omega),List.take_take,Nat.min_self,← List.map_take,hfin]
              generalize List.take i (R.map Nt.cs)++List.replicate (l.length - i) (vs z38)=es at hlen2 htk2
              (repeat' ((first
 | refine vn rfl ?_
 | simp (disch:=omega) only [wr64,Int.zero_sub]
 | refine bo (fun _=>?_) fun _=>?_
 | refine im fun _=>?_
 | refine cF ?_
 | refine om ?_
 | refine an ?_
 | fail) <;> try simp only [zN, zT, zV, zS, zU, vcC, lateX, ex, strp, binA, elems, cells, scalar, eqC, keyA, intsA, lookA, ofVs, mpOf, zq0, zq1, zq2, zq3, zq4, zq5, zq6, reduceIte, hlen2, htk2]))
              refine ⟨by simp [sideL,ov,gt,cnd],⟨by omega,by omega,by omega⟩,?_⟩
              (repeat' ((first
 | refine vn rfl ?_
 | simp (disch:=omega) only [wr64,Int.zero_sub]
 | refine bo (fun _=>?_) fun _=>?_
 | refine im fun _=>?_
 | refine cF ?_
 | refine om ?_
 | refine an ?_
 | fail) <;> try simp only [zN, zT, zV, zS, zU, vcC, lateX, ex, strp, binA, elems, cells, scalar, eqC, keyA, intsA, lookA, ofVs, mpOf, zq0, zq1, zq2, zq3, zq4, zq5, zq6, reduceIte]))
              exact .mk μ rfl (gone_upd hf)
        · have hN:compN (l.take (k+1))=l.take (k+1):=by rw [compN_next hk0 hlt,if_neg e,hc,List.take_add_one,getD_lt nt0 hlt]; rfl
          rw [decide_eq_false (fun h=>e h.symm)] at hq
          generalize hga:l.getD k nt0=a at hs1 hq
          generalize hgb:l.getD (k - 1) nt0=a0 at hs0 hq
          (repeat' ((first
 | refine vn rfl ?_
 | simp (disch:=omega) only [wr64,Int.zero_sub]
 | refine bo (fun _=>?_) fun _=>?_
 | refine im fun _=>?_
 | ((repeat refine si ?_); (first | ((first | refine .inl ⟨_,_,_,_,rfl,fun _=>pu hq,?_⟩ | refine ⟨_,_,_,_,rfl,fun _=>pu hq,?_⟩); (first | refine o1 ?_ | refine o2 ?_ | refine o3 ?_ | refine o4 ?_)) | refine .inl ⟨_,_,_,_,rfl,pu hq,?_⟩))
 | refine cF ?_
 | refine om ?_
 | refine an ?_
 | fail) <;> try simp only [zN, zT, zV, zS, zU, vcC, lateX, ex, strp, binA, elems, cells, scalar, eqC, keyA, intsA, lookA, ofVs, mpOf, zq0, zq1, zq2, zq3, zq4, zq5, zq6, reduceIte, hf, hs1, hs0]))
          all_goals try (exfalso; omega)
          exact ⟨⟨k+1,by omega,hlt,hN⟩,by simp,by simp only; omega⟩
      · obtain rfl:k=l.length:=by omega
        rw [List.take_length] at hc
        rw [hc]
        refine AWPC.freeze1 (t:=0) (f:=f) (n:=l.length) (o:=⟨68,38,l.map Nt.cs,none⟩) rfl hf (by simp) (by simp) ?_
        (repeat' ((first
 | refine vn rfl ?_
 | simp (disch:=omega) only [wr64,Int.zero_sub]
 | refine bo (fun _=>?_) fun _=>?_
 | refine im fun _=>?_
 | refine cF ?_
 | refine om ?_
 | refine an ?_
 | fail) <;> try simp only [zN, zT, zV, zS, zU, vcC, lateX, ex, strp, binA, elems, cells, scalar, eqC, keyA, intsA, lookA, ofVs, mpOf, zq0, zq1, zq2, zq3, zq4, zq5, zq6, reduceIte]))
        all_goals try (exfalso; omega)
        exact .mk [] rfl (by simp)
end Go.Proofs.YtolgelipcgcbhaaGreat
namespace Go.Abs
open Go.Shelf Go.RowKit Go.Lib Go.Proofs
set_option linter.unusedVariables false
set_option linter.unusedSimpArgs false
theorem grow_any {P:Program} {ρ:Ren} (L:Lays8.n4 P ρ) {T k B:Nat} (hT:ρ.t 25=T) (hsz:szF P T=some k) {zs:List Value} (hzr:zrF P T=some zs) (hzl:zs.length=k) (hk:0 < k) (hby:(P.info? T).map (·.bytes)=some B)
    (ef:∀ args w,(callFunc (ρ.f 4) args).run P w=.ok (.enter (ρ.f 4) args) w) (σ:Sto) (z:Int) (h0:0≤z) (h1:z * B≤140737488355328) (hB:0 < B) :
    Does P (ρ.f 4) [.v (.slice none 0 0),n z] σ (fun r σ'=>r=.own σ.length 0 0∧σ'=σ++[some [⟨T,k,[],none⟩]]):=by
  subst hT
  have hzB:z≤z * B:=by
    have:z * 1≤z * B:=Int.mul_le_mul_of_nonneg_left (by omega) h0
    omega
  refine ⟨ef,fun X β w xs hX hsr hlen hr=>?_⟩
  match xs,hlen with
  | [x,y],_ =>
    have hx:=(hr 0 (by simp)).inv_v
    have hy:=(hr 1 (by simp)).inv_v
    simp only [List.getD_cons_zero,List.getD_cons_succ] at hx hy
    subst hx; subst hy
    by_cases hz:z=0
    · subst hz
      refine callsIn_wide.2 ((Any8.slices_Grow_room L none 0 0 0 w (Nat.le_refl _) (by decide) (by decide) (Nat.le_refl _)).mono ?_)
      rintro e w' ⟨rfl,rfl⟩
      exact ⟨_,_,_,_,rfl,⟨rfl,rfl⟩,hsr.own0 hX,RV.own0 rfl,Ext.push (Nat.le_refl _) (fun _ _=>rfl) (fun b hb=>by cases hb),Kp.own0 hsr⟩
    · obtain ⟨i0,hi0,hs2⟩:=sz_parts hsz
      rw [hi0] at hby
      simp only [Option.map_some,Option.some.injEq] at hby
      unfold zrF at hzr
      rw [hi0] at hzr
      simp only [Option.bind_some,Option.map_eq_some_iff] at hzr
      obtain ⟨z0,hz0,hzc⟩:=hzr
      have hzn:(z.toNat:Int)=z:=by omega
      have hbig:(0+z.toNat) * i0.bytes≤140737488355328:=by
        rw [hby,Nat.zero_add]
        have:((z.toNat * B:Nat):Int)≤140737488355328:=by rw [Int.natCast_mul,hzn]; exact h1
        omega
      have hg:=Any8.slices_Grow_grow L i0 z0 hi0 hz0 (by omega) none 0 0 z.toNat [] w (Nat.le_refl _) (by omega) hbig (by omega) (by simp) (fun _=>rfl) (fun a h=>by cases h)
      have hge:=grownCap_ge w (0+z.toNat) 0 (ρ.t 25)
      refine callsIn_wide.2 ?_
      change Calls P (ρ.f 4) #[.slice none 0 0,.int .i64 z] w _
      rw [hzn] at hg
      refine Calls.mono hg ?_
      rintro e w' ⟨rfl,rfl⟩
      change grownCap w (0+z.toNat) 0 (ρ.t 25)≥_ at hge
      have hzs:z0.cells.size=k:=by rw [← Array.length_toList,hzc]; exact hzl
      have hsz:w.heap.size≤(w.drew.alloc (.cells ((#[]:Array Value)++Builtin.zeroCells z0.cells (0+z.toNat - 0)++Builtin.zeroCells z0.cells (grownCap w (0+z.toNat) 0 (ρ.t 25) - (0+z.toNat))) (ρ.t 25))).heap.size:=by rw [alc_size]; exact Nat.le_succ _
      have hold:∀ b,b < w.heap.size→(w.drew.alloc (.cells ((#[]:Array Value)++Builtin.zeroCells z0.cells (0+z.toNat - 0)++Builtin.zeroCells z0.cells (grownCap w (0+z.toNat) 0 (ρ.t 25) - (0+z.toNat))) (ρ.t 25))).heap[b]?=w.heap[b]?:=fun b hb=>alc_old w.drew _ hb
      have hnew:(w.drew.alloc (.cells ((#[]:Array Value)++Builtin.zeroCells z0.cells (0+z.toNat - 0)++Builtin.zeroCells z0.cells (grownCap w (0+z.toNat) 0 (ρ.t 25) - (0+z.toNat))) (ρ.t 25))).heap[w.heap.size]?=some (.cells ((#[]:Array Value)++Builtin.zeroCells z0.cells (0+z.toNat - 0)++Builtin.zeroCells z0.cells (grownCap w (0+z.toNat) 0 (ρ.t 25) - (0+z.toNat))) (ρ.t 25)):=alc_new w.drew _
      have hcsz:((#[]:Array Value)++Builtin.zeroCells z0.cells (0+z.toNat - 0)++Builtin.zeroCells z0.cells (grownCap w (0+z.toNat) 0 (ρ.t 25) - (0+z.toNat))).size=grownCap w (0+z.toNat) 0 (ρ.t 25) * k:=by
        simp only [Array.size_append,zeroCells_size,hzs]
        simp only [List.size_toArray,List.length_nil]
        rw [Nat.zero_add,← Nat.add_mul]
        congr 1; omega
      have hbo:∀ b,some w.heap.size=some b→b=w.heap.size:=fun b hb=>by injection hb with hb; exact hb.symm
      have K:=Kp.push (o:=⟨ρ.t 25,k,[],none⟩) (bo:=some w.heap.size) hsr hsz hold hbo
      have S:=hsr.push (o:=⟨ρ.t 25,k,[],none⟩) (bo:=some w.heap.size) hX hsz hold hbo ⟨fun e he=>absurd he (Nat.not_lt_zero _),fun _=>⟨_,hnew,by simp,fun e j he=>absurd he (Nat.not_lt_zero _),fun e j he=>absurd he (Nat.not_lt_zero _)⟩,fun r hr=>by cases hr⟩
      refine ⟨_,_,_,_,rfl,⟨rfl,rfl⟩,S,?_,Ext.push hsz hold hbo ⟨rfl,rfl,rfl,Nat.le_succ _⟩,K⟩
      refine .own _ _ _ _ rfl (by simp) (fun o _=>Nat.zero_le _) fun o ho _=>?_
      rw [at_push_new] at ho; simp at ho; subst ho
      unfold OwnSl; rw [addB_new]
      exact ⟨_,_,_,rfl,hnew,hcsz⟩
end Go.Abs
namespace Go.Proofs.YtolgelipcgcbhaaGreat
open Go.Shelf
def Tryz.growN_ren:Go.Shelf.Ren:=⟨fun | 4=>189 | n=>n,fun | 22=>27 | 25=>68 | 3=>3 | 4=>4 | 9=>9 | 20=>20 | 0=>0 | n=>n,fun | n=>n⟩
theorem Tryz.growN:Go.Proofs.Lays8.n4 Tryz.prog Tryz.growN_ren:={
  mixed:=by kernel_rfl
  f4:=⟨Tryz.f189.name,by decide,Tryz.func189.trans (congrArg some (by kernel_rfl))⟩
  t0:=Tryz.underlying0
  a0:=Tryz.isAgg0
  z0:=Tryz.sizeOf0
  v0:=Tryz.zeroValue0
  t3:=Tryz.underlying3
  a3:=Tryz.isAgg3
  z3:=Tryz.sizeOf3
  v3:=Tryz.zeroValue3
  t4:=Tryz.underlying4
  a4:=Tryz.isAgg4
  z4:=Tryz.sizeOf4
  v4:=Tryz.zeroValue4
  t9:=Tryz.underlying9
  a9:=Tryz.isAgg9
  z9:=Tryz.sizeOf9
  v9:=Tryz.zeroValue9
  t20:=Tryz.underlying20
  a20:=Tryz.isAgg20
  z20:=Tryz.sizeOf20
  v20:=Tryz.zeroValue20
  t22:=Tryz.underlying27
  a22:=Tryz.isAgg27
  z22:=Tryz.sizeOf27
  v22:=Tryz.zeroValue27 }
end Go.Proofs.YtolgelipcgcbhaaGreat
namespace Go.Proofs.YtolgelipcgcbhaaGreat
open Go.Abs
open Nat renaming reduceBEq→zq0,reduceAdd→zq1,reduceSub→zq2,reduceLT→zq3,reduceLeDiff→zq4,reduceMul→zq5,reduceEqDiff→zq6
set_option linter.unusedVariables false
set_option linter.unusedSimpArgs false
set_option maxHeartbeats 4000000
set_option maxRecDepth 100000
def c131:CF:=⟨36,
 (.seq (.ops [
 ⟨some 2,.mv (.c (.slice none 0 0)),none⟩] [0])
 (.seq (.ops [
 ⟨some 3,.mv (.c (.int .i64 0)),none⟩] [0,3])
 (.seq (.seq (.ops [
 ⟨some 9,.mv (.t 0),none⟩,
 ⟨some 10,.len (.t 9),none⟩,
 ⟨some 11,.mv (.c (.int .i64 0)),none⟩] [0,3,9,10,11])
 (.block 0 (.loop (.seq (.ops [
 ⟨some 12,.bin .lss (.t 11) (.t 10),none⟩] [0,3,9,10,11,12])
 (.seq (.cond (.t 12) .skip
 (.exit 0))
 (.seq (.block 1 (.seq (.ops [
 ⟨some 13,.iaddr 1 (.t 9) (.t 11),none⟩,
 ⟨some 14,.load none (.t 13),none⟩,
 ⟨some 5,.mv (.t 14),none⟩] [0,3,5,9,10,11])
 (.seq (.ops [
 ⟨some 15,.mv (.t 3),none⟩,
 ⟨some 16,.mv (.t 5),none⟩,
 ⟨some 17,.len (.t 16),none⟩,
 ⟨some 18,.bin .add (.t 15) (.t 17),none⟩,
 ⟨some 3,.mv (.t 18),none⟩] [0,3,9,10,11])
 (.seq (.ops [
 ⟨some 19,.mv (.t 3),none⟩,
 ⟨some 20,.bin .lss (.t 19) (.c (.int .i64 0)),none⟩] [0,3,9,10,11,20])
 (.cond (.t 20) (.ops [
 ⟨some 21,.ifc 9 (.c (.string ⟨#[108,101,110,32,111,117,116,32,111,102,32,114,97,110,103,101]⟩)),none⟩,
 ⟨none,.bad,none⟩] [0,3,9,10,11])
 .skip)))))
 (.ops [
 ⟨some 22,.bin .add (.t 11) (.c (.int .i64 1)),none⟩,
 ⟨some 11,.mv (.t 22),none⟩] [0,3,9,10,11])))))))
 (.seq (.ops [
 ⟨some 23,.mv (.t 3),none⟩,
 ⟨some 24,.call (.f 189) [(.c (.slice none 0 0)),(.t 23)],none⟩,
 ⟨some 6,.mv (.t 24),none⟩] [0,6])
 (.seq (.seq (.ops [
 ⟨some 25,.mv (.t 0),none⟩,
 ⟨some 26,.len (.t 25),none⟩,
 ⟨some 27,.mv (.c (.int .i64 0)),none⟩] [6,25,26,27])
 (.block 2 (.loop (.seq (.ops [
 ⟨some 28,.bin .lss (.t 27) (.t 26),none⟩] [6,25,26,27,28])
 (.seq (.cond (.t 28) .skip
 (.exit 2))
 (.seq (.block 3 (.seq (.ops [
 ⟨some 29,.iaddr 1 (.t 25) (.t 27),none⟩,
 ⟨some 30,.load none (.t 29),none⟩,
 ⟨some 8,.mv (.t 30),none⟩] [6,8,25,26,27])
 (.ops [
 ⟨some 31,.mv (.t 6),none⟩,
 ⟨some 32,.mv (.t 8),none⟩,
 ⟨some 33,.app 68 38 368 (.t 31) (.t 32),none⟩,
 ⟨some 6,.mv (.t 33),none⟩] [6,25,26,27])))
 (.ops [
 ⟨some 34,.bin .add (.t 27) (.c (.int .i64 1)),none⟩,
 ⟨some 27,.mv (.t 34),none⟩] [6,25,26,27])))))))
 (.seq (.ops [
 ⟨some 35,.mv (.t 6),none⟩,
 ⟨some 2,.mv (.t 35),none⟩] [2])
 .ret)))))),
 [.t 2]⟩
theorem k131:chkF Tryz.prog Tryz.f131 c131=true:=by kernel_rfl
theorem growN_does (σ:Sto) (z:Int) (h0:0≤z) (h1:z * 368≤140737488355328):Does Tryz.prog 189 [.v (.slice none 0 0),n z] σ (fun r σ'=>r=.own σ.length 0 0∧σ'=σ++[some [⟨68,38,[],none⟩]]) :=
  grow_any Tryz.growN (T:=68) (k:=38) (B:=368) rfl (by kernel_rfl) (zs:=z38) (by kernel_rfl) rfl (by decide) (by kernel_rfl) Tryz.call189 σ z h0 h1 (by decide)
theorem ntRows (l:List Nt):∀ e,e < l.length→((l.map Nt.cs).getD e []).length=38:=rowsL (cs:=Nt.cs) (k:=38) (fun a=>rfl) l
theorem flat_next {α:Type} {rows:List (List α)} {i:Nat} {r:List α} (h:rows[i]?=some r):(rows.take (i+1)).flatten=(rows.take i).flatten++r:=by
  rw [List.take_add_one,h]; simp
theorem flat_le {α:Type} (rows:List (List α)) (i:Nat):(rows.take i).flatten.length≤rows.flatten.length:=by
  have:rows.flatten=(rows.take i).flatten++(rows.drop i).flatten:=by rw [← List.flatten_append,List.take_append_drop]
  rw [this,List.length_append]; omega
theorem concatN_does (σ:Sto) (rows:List (List Nt)) (hlen:rows.length < 9223372036854775808) (htot:(rows.flatten.length:Int) * 368≤140737488355328) :
    Does Tryz.prog 131 [.sl 1 (rows.map fun r=>[ntS r])] σ (fun r σ'=>r=.own σ.length 0 rows.flatten.length∧σ'=σ++[some [⟨68,38,rows.flatten.map Nt.cs,none⟩]]):=by
  refine Does.of_body Tryz.call131 Tryz.func131 k131 (Nat.le_of_ble_eq_true rfl) ?_
  unfold c131
  (repeat' ((first
 | refine vn rfl ?_
 | simp (disch:=omega) only [wr64,Int.zero_sub]
 | refine bo (fun _=>?_) fun _=>?_
 | refine im fun _=>?_
 | refine cF ?_
 | refine om ?_
 | refine an ?_
 | fail) <;> try simp only [zN,zT,zV,zS,zU,vcC,lateX,ex,strp,binA,elems,cells,scalar,eqC,keyA,intsA,lookA,ofVs,mpOf,zq0,zq1,zq2,zq3,zq4,zq5,zq6,reduceIte]))
  refine AWPC.loopS (α:={ i:Nat // i≤rows.length }) [3,11] (fun i=>[(3,n ((rows.take i.1).flatten.length)),(11,n i.1)]) (fun i=>rows.length - i.1) ⟨0,Nat.zero_le _⟩ ?_ ?_
  · (simp only [zN,zT,zV,zS,zU,vcC,lateX,ex,strp,binA,elems,cells,scalar,eqC,keyA,intsA,lookA,ofVs,mpOf,zq0,zq1,zq2,zq3,zq4,zq5,zq6,reduceIte]; try simp)
  · rintro ⟨i,hi⟩
    have hfl:=flat_le rows i
    by_cases hlt:i < rows.length
    · obtain ⟨r,hr⟩:∃ r,rows[i]?=some r:=⟨_,List.getElem?_eq_getElem hlt⟩
      have ft:=flat_next hr
      have hfl1:=flat_le rows (i+1)
      have hl2:(rows.take (i+1)).flatten.length=(rows.take i).flatten.length+r.length:=by rw [ft,List.length_append]
      (repeat' ((first
 | refine vn rfl ?_
 | simp (disch:=omega) only [wr64,Int.zero_sub]
 | refine bo (fun _=>?_) fun _=>?_
 | refine im fun _=>?_
 | refine cF ?_
 | refine om ?_
 | refine an ?_
 | fail) <;> try simp only [zN,zT,zV,zS,zU,vcC,lateX,ex,strp,binA,elems,cells,scalar,eqC,keyA,intsA,lookA,ofVs,mpOf,zq0,zq1,zq2,zq3,zq4,zq5,zq6,reduceIte,getD_map hr]))
      all_goals try (exfalso; omega)
      exact ⟨⟨i+1,hlt⟩,⟨by rw [hl2]; simp,by simp⟩,by simp only; omega⟩
    · obtain rfl:i=rows.length:=by omega
      rw [List.take_length]
      (repeat' ((first
 | refine vn rfl ?_
 | simp (disch:=omega) only [wr64,Int.zero_sub]
 | refine bo (fun _=>?_) fun _=>?_
 | refine im fun _=>?_
 | refine cF ?_
 | refine om ?_
 | refine an ?_
 | fail) <;> try simp only [zN,zT,zV,zS,zU,vcC,lateX,ex,strp,binA,elems,cells,scalar,eqC,keyA,intsA,lookA,ofVs,mpOf,zq0,zq1,zq2,zq3,zq4,zq5,zq6,reduceIte]))
      all_goals try (exfalso; omega)
      refine .inr (.inl ⟨_,_,_,_,rfl,fun _=>⟨growN_does σ _ (by omega) htot,?_⟩,fun h=>by cases h⟩)
      rintro res σ' ⟨rfl,rfl⟩
      refine owp_of_exs ?_
      simp only [zN,zT,zV,zS,zU,vcC,lateX,ex,strp,binA,elems,cells,scalar,eqC,keyA,intsA,lookA,ofVs,mpOf,zq0,zq1,zq2,zq3,zq4,zq5,zq6,reduceIte]
      (repeat' ((first
 | refine vn rfl ?_
 | simp (disch:=omega) only [wr64,Int.zero_sub]
 | refine bo (fun _=>?_) fun _=>?_
 | refine im fun _=>?_
 | refine cF ?_
 | refine om ?_
 | refine an ?_
 | fail) <;> try simp only [zN,zT,zV,zS,zU,vcC,lateX,ex,strp,binA,elems,cells,scalar,eqC,keyA,intsA,lookA,ofVs,mpOf,zq0,zq1,zq2,zq3,zq4,zq5,zq6,reduceIte]))
      refine AWPC.loopE (α:={ i:Nat // i≤rows.length }) [6,27] (fun i=>[(6,.own σ.length 0 (rows.take i.1).flatten.length),(27,n i.1)]) (fun i=>σ++[some [⟨68,38,(rows.take i.1).flatten.map Nt.cs,none⟩]]) (fun i=>rows.length - i.1) ⟨0,Nat.zero_le _⟩ ?_ rfl ?_
      · (simp only [zN,zT,zV,zS,zU,vcC,lateX,ex,strp,binA,elems,cells,scalar,eqC,keyA,intsA,lookA,ofVs,mpOf,zq0,zq1,zq2,zq3,zq4,zq5,zq6,reduceIte]; try simp)
      · rintro ⟨i,hi⟩
        simp only
        have hfl:=flat_le rows i
        by_cases hlt:i < rows.length
        · obtain ⟨r,hr⟩:∃ r,rows[i]?=some r:=⟨_,List.getElem?_eq_getElem hlt⟩
          have ft:=flat_next hr
          have hfl1:=flat_le rows (i+1)
          have hl2:(rows.take (i+1)).flatten.length=(rows.take i).flatten.length+r.length:=by rw [ft,List.length_append]
          have hA:∀ (o:Ob) (μ:Sto),Sto.at (σ++some [o]::μ) (List.length σ) 0=some o:=fun o μ=>by rw [at_app0]; rfl
          have hB:∀ (o o':Ob) (μ:Sto),Sto.upd (σ++some [o]::μ) (List.length σ) 0 o'=σ++some [o']::μ:=fun o o' μ=>by simp [Sto.upd]
          generalize hF:(rows.take i).flatten=F at ft hl2 hfl
          (repeat' ((first
 | refine vn rfl ?_
 | simp (disch:=omega) only [wr64,Int.zero_sub]
 | refine bo (fun _=>?_) fun _=>?_
 | refine im fun _=>?_
 | refine cF ?_
 | refine om ?_
 | refine an ?_
 | fail) <;> try simp only [zN, zT, zV, zS, zU, vcC, lateX, ex, strp, binA, elems, cells, scalar, eqC, keyA, intsA, lookA, ofVs, mpOf, zq0, zq1, zq2, zq3, zq4, zq5, zq6, reduceIte, getD_map hr, hA, hB, List.length_map]))
          all_goals try (exfalso; omega)
          refine ⟨⟨ntRows r,by omega⟩,?_⟩
          (repeat' ((first
 | refine vn rfl ?_
 | simp (disch:=omega) only [wr64,Int.zero_sub]
 | refine bo (fun _=>?_) fun _=>?_
 | refine im fun _=>?_
 | refine cF ?_
 | refine om ?_
 | refine an ?_
 | fail) <;> try simp only [zN, zT, zV, zS, zU, vcC, lateX, ex, strp, binA, elems, cells, scalar, eqC, keyA, intsA, lookA, ofVs, mpOf, zq0, zq1, zq2, zq3, zq4, zq5, zq6, reduceIte]))
          refine ⟨⟨i+1,hlt⟩,⟨by rw [hl2],by simp⟩,?_,by simp only; omega⟩
          simp [ft]
        · obtain rfl:i=rows.length:=by omega
          rw [List.take_length]
          (repeat' ((first
 | refine vn rfl ?_
 | simp (disch:=omega) only [wr64,Int.zero_sub]
 | refine bo (fun _=>?_) fun _=>?_
 | refine im fun _=>?_
 | refine cF ?_
 | refine om ?_
 | refine an ?_
 | fail) <;> try simp only [zN, zT, zV, zS, zU, vcC, lateX, ex, strp, binA, elems, cells, scalar, eqC, keyA, intsA, lookA, ofVs, mpOf, zq0, zq1, zq2, zq3, zq4, zq5, zq6, reduceIte]))
          all_goals try (exfalso; omega)
          all_goals exact ⟨rfl,rfl⟩
end Go.Proofs.YtolgelipcgcbhaaGreat
namespace Go.Abs
set_option linter.unusedVariables false
set_option linter.unusedSimpArgs false
theorem nm_inj:∀ {S:List Nt},(S.map Nt.nm).Nodup→∀ {a b:Nt},a∈S→b∈S→a.nm=b.nm→a=b
  | [],_,_,_,h,_,_=>by cases h
  | x::r,hn,a,b,ha,hb,e=>by
    rw [List.map_cons,List.nodup_cons] at hn
    rcases List.mem_cons.1 ha with rfl | ha' <;> rcases List.mem_cons.1 hb with rfl | hb'
    · rfl
    · exact absurd (List.mem_map.2 ⟨b,hb',e.symm⟩) hn.1
    · exact absurd (List.mem_map.2 ⟨a,ha',e⟩) hn.1
    · exact nm_inj hn.2 ha' hb' e
def fq (S:List Nt) (q:Nt→Bool) (m:Nm):Option Nt:=S.find? fun a=>decide (a.nm=m) && q a
theorem fq_some {S:List Nt} (hn:(S.map Nt.nm).Nodup) {q:Nt→Bool} {m:Nm} {a:Nt}:fq S q m=some a↔a∈S∧a.nm=m∧q a=true:=by
  constructor
  · intro h
    have h1:=List.find?_some h
    simp only [Bool.and_eq_true,decide_eq_true_eq] at h1
    exact ⟨List.mem_of_find?_eq_some h,h1.1,h1.2⟩
  · rintro ⟨h1,h2,h3⟩
    cases h:fq S q m with
    | none =>
      have:=List.find?_eq_none.1 h a h1
      simp [h2,h3] at this
    | some b =>
      have h4:=List.find?_some h
      simp only [Bool.and_eq_true,decide_eq_true_eq] at h4
      rw [nm_inj hn (List.mem_of_find?_eq_some h) h1 (h4.1.trans h2.symm)]
theorem fq_none {S:List Nt} {q:Nt→Bool} {m:Nm}:fq S q m=none↔∀ a∈S,a.nm=m→q a=false:=by
  unfold fq
  rw [List.find?_eq_none]
  constructor
  · intro h a ha e
    have:=h a ha
    simpa [e] using this
  · intro h a ha
    have:=h a ha
    by_cases e:a.nm=m
    · simp [e,this e]
    · simp [e]
theorem fq_snoc {p:List Nt} {q:Nt→Bool} {a:Nt} (h:a.nm ∉ p.map Nt.nm) (m:Nm):fq (p++[a]) q m=if m=a.nm then (if q a then some a else none) else fq p q m:=by
  unfold fq
  rw [List.find?_append]
  by_cases e:m=a.nm
  · rw [if_pos e]
    have:fq p q m=none:=fq_none.2 fun x hx hxm=>absurd (List.mem_map.2 ⟨x,hx,hxm.trans e⟩) h
    unfold fq at this
    rw [this]
    cases hq:q a <;> simp [e,hq]
  · rw [if_neg e]
    have e':¬ a.nm=m:=fun h=>e h.symm
    simp [e']
theorem foldl_pre {α β:Type} {G:α→β→α} (I:List β→α→Prop) {l:List β} {x:α} (h:∀ p a s x,l=p++a::s→I p x→I (p++[a]) (G x a)) (h0:I [] x):I l (l.foldl G x):=by
  have key:∀ (s p:List β) (x:α),l=p++s→I p x→I l (s.foldl G x):=by
    intro s
    induction s with
    | nil=>intro p x e hx; rw [List.append_nil] at e; rw [e]; exact hx
    | cons a s ih=>intro p x e hx; exact ih (p++[a]) (G x a) (by simpa using e) (h p a s x e hx)
  exact key l [] x rfl h0
theorem nodup_pre {S p s:List Nt} {q:Nt→Bool} {a:Nt} (hn:(S.map Nt.nm).Nodup) (h:S.filter q=p++a::s):a.nm ∉ p.map Nt.nm:=by
  have h1:((S.filter q).map Nt.nm).Nodup:=hn.sublist (List.filter_sublist.map _)
  rw [h,List.map_append,List.nodup_append] at h1
  intro hm
  exact h1.2.2 _ hm _ (List.mem_map.2 ⟨a,by simp,rfl⟩) rfl
def clS (C:List (Nm × Bool)) (P:Nm→Prop):Prop:=∀ m,kget C m=some true↔P m
theorem clS.set {C:List (Nm × Bool)} {P:Nm→Prop} (h:clS C P) (k:Nm):clS (kset C k true) fun m=>m=k∨P m:=fun m=>by
  rw [kget_kset]
  by_cases e:m=k
  · simp [e]
  · simp [e,h m]
theorem byName_get {l:List Nt} (hn:(l.map Nt.nm).Nodup) (m:Nm):kget (byName l) m=fq l (fun _=>true) m:=by
  have key:∀ m,kget (byName l) m=fq l (fun _=>true) m:=by
    unfold byName
    refine foldl_pre (G:=fun (m:List (Nm × Nt)) a=>kset m a.nm a) (l:=l) (x:=[]) (fun p x=>∀ m,kget x m=fq p (fun _=>true) m) ?_ (fun _=>rfl)
    intro p a s x h h1 m
    have out:a.nm ∉ p.map Nt.nm:=nodup_pre (q:=fun _=>true) hn (by rw [List.filter_eq_self.2 (fun _ _=>rfl)]; exact h)
    rw [kget_kset,fq_snoc out]
    by_cases e:m=a.nm
    · rw [if_pos e,if_pos e]; rfl
    · rw [if_neg e,if_neg e]; exact h1 m
  exact key m
theorem sorted_ext {lt:Nt→Nt→Prop} (has:∀ a b,lt a b→¬ lt b a):∀ {l m:List Nt},l.Pairwise lt→m.Pairwise lt→(∀ a,a∈l↔a∈m)→l=m
  | [],[],_,_,_=>rfl
  | [],b::s,_,_,h=>absurd ((h b).2 (by simp)) (by simp)
  | a::r,[],_,_,h=>absurd ((h a).1 (by simp)) (by simp)
  | a::r,b::s,h1,h2,h=>by
    rw [List.pairwise_cons] at h1 h2
    have hab:a=b:=by
      rcases List.mem_cons.1 ((h a).1 (by simp)) with e | ha
      · exact e
      rcases List.mem_cons.1 ((h b).2 (by simp)) with e | hb
      · exact e.symm
      exact absurd (h1.1 b hb) (has _ _ (h2.1 a ha))
    subst hab
    rw [sorted_ext has h1.2 h2.2 fun x=>?_]
    have hx:=h x
    simp only [List.mem_cons] at hx
    constructor
    · intro hr
      rcases hx.1 (.inr hr) with rfl | hs
      · exact absurd (h1.1 x hr) (has _ _ (h1.1 x hr))
      · exact hs
    · intro hs
      rcases hx.2 (.inr hs) with rfl | hr
      · exact absurd (h2.1 x hs) (has _ _ (h2.1 x hs))
      · exact hr
section
end
theorem insN_perm (a:Nt):∀ l,(insN a l).Perm (a::l)
  | []=>.refl _
  | x::r=>by
    unfold insN
    split
    · exact .refl _
    · exact ((insN_perm a r).cons x).trans (.swap a x r)
theorem srtN_perm (l:List Nt):(srtN l).Perm l:=by
  have:∀ (l o:List Nt),(l.foldl (fun o a=>insN a o) o).Perm (l++o):=by
    intro l
    induction l with
    | nil=>exact fun o=>.refl _
    | cons a r ih=>exact fun o=>(ih _).trans (((insN_perm a o).append_left r).trans List.perm_middle)
  have:=this l []
  rwa [List.append_nil] at this
theorem cmpN_tr {p q s:Nm} (h1:0≤cmpN q p) (h2:0≤cmpN s q):0≤cmpN s p:=by
  have:=@cmpN_lt q p; have:=@cmpN_lt s q; have:=@cmpN_lt s p; omega
theorem insN_le {a:Nt}:∀ {l:List Nt},l.Pairwise (fun x y=>0≤cmpN y.nm x.nm)→(insN a l).Pairwise (fun x y=>0≤cmpN y.nm x.nm)
  | [],_=>by simp [insN]
  | x::r,h=>by
    rw [List.pairwise_cons] at h
    unfold insN
    split
    · rename_i hc
      have h0:0≤cmpN x.nm a.nm:=by have:=@cmpN_gt a.nm x.nm; have:=@cmpN_gt x.nm a.nm; omega
      refine List.pairwise_cons.2 ⟨fun y hy=>?_,List.pairwise_cons.2 h⟩
      rcases List.mem_cons.1 hy with rfl | hy
      · exact h0
      · exact cmpN_tr h0 (h.1 y hy)
    · rename_i hc
      refine List.pairwise_cons.2 ⟨fun y hy=>?_,insN_le h.2⟩
      rcases List.mem_cons.1 ((insN_perm a r).mem_iff.1 hy) with rfl | hy
      · omega
      · exact h.1 y hy
theorem srtN_le (l:List Nt):(srtN l).Pairwise (fun x y=>0≤cmpN y.nm x.nm):=by
  have:∀ (l o:List Nt),o.Pairwise (fun x y=>0≤cmpN y.nm x.nm)→(l.foldl (fun o a=>insN a o) o).Pairwise (fun x y=>0≤cmpN y.nm x.nm):=by
    intro l
    induction l with
    | nil=>exact fun o h=>h
    | cons a r ih=>exact fun o h=>ih _ (insN_le h)
  exact this l [] .nil
theorem sortedN_one:∀ {l m:List Nt},l.Perm m→(∀ a∈l,∀ b∈l,a.nm=b.nm→a=b)→l.Pairwise (fun x y=>0≤cmpN y.nm x.nm)→m.Pairwise (fun x y=>0≤cmpN y.nm x.nm)→l=m
  | [],m,h,_,_,_=>(List.nil_perm.1 h).symm
  | a::r,[],h,_,_,_=>absurd h.symm (by simp)
  | a::r,b::s,h,hn,h1,h2=>by
    rw [List.pairwise_cons] at h1 h2
    have hab:a=b:=by
      rcases List.mem_cons.1 (h.mem_iff.1 (List.mem_cons_self ..)) with e | ha
      · exact e
      have hb':b∈a::r:=h.mem_iff.2 (List.mem_cons_self ..)
      rcases List.mem_cons.1 hb' with e | hb
      · exact e.symm
      have g1:=h1.1 b hb
      have g2:=h2.1 a ha
      refine hn a (List.mem_cons_self ..) b hb' (cmpN_eq.1 ?_)
      have:=@cmpN_gt a.nm b.nm
      omega
    subst hab
    rw [sortedN_one (List.Perm.cons_inv h) (fun x hx y hy=>hn x (List.mem_cons_of_mem _ hx) y (List.mem_cons_of_mem _ hy)) h1.2 h2.2]
theorem srtN_one {l m:List Nt} (hn:∀ a∈l,∀ b∈l,a.nm=b.nm→a=b) (hp:m.Perm l) (hs:m.Pairwise (fun x y=>0≤cmpN y.nm x.nm)):m=srtN l :=
  sortedN_one (hp.trans (srtN_perm l).symm) (fun a ha b hb=>hn a (hp.mem_iff.1 ha) b (hp.mem_iff.1 hb)) hs (srtN_le l)
theorem nofork {x y:List Nt} (hx:(x.map Nt.nm).Nodup) (hy:(y.map Nt.nm).Nodup) (h:forkT x y=none):∀ a∈x++y,∀ b∈x++y,a.nm=b.nm→a=b:=by
  have key:∀ a∈x,∀ b∈y,a.nm=b.nm→a=b:=by
    intro a ha b hb e
    unfold forkT at h
    rw [Option.map_eq_none_iff,List.find?_eq_none] at h
    have h1:=h a ha
    rw [byName_get hy,(fq_some hy (q:=fun _=>true)).2 ⟨hb,e.symm,rfl⟩] at h1
    simp only [decide_eq_true_eq,Decidable.not_not] at h1
    exact h1.symm
  intro a ha b hb e
  rcases List.mem_append.1 ha with ha | ha <;> rcases List.mem_append.1 hb with hb | hb
  · exact nm_inj hx ha hb e
  · exact key a ha b hb e
  · exact (key b hb a ha e.symm).symm
  · exact nm_inj hy ha hb e
theorem compN1_sub:∀ (r:List Nt) (a:Nt),∀ x∈compN1 a r,x∈a::r
  | [],a=>fun x hx=>hx
  | b::r,a=>by
    intro x hx
    unfold compN1 at hx
    split at hx
    · rcases List.mem_cons.1 (compN1_sub r a x hx) with rfl | h <;> simp [*]
    · rcases List.mem_cons.1 hx with rfl | hx
      · simp
      · exact List.mem_cons_of_mem _ (compN1_sub r b x hx)
theorem compN_sub (l:List Nt):∀ x∈compN l,x∈l:=by
  cases l with
  | nil=>exact fun x hx=>hx
  | cons a r=>exact compN1_sub r a
theorem compN1_len:∀ (r:List Nt) (a:Nt),(compN1 a r).length≤r.length+1
  | [],a=>Nat.le_refl _
  | b::r,a=>by
    unfold compN1
    split
    · have:=compN1_len r a; simp only [List.length_cons]; omega
    · have:=compN1_len r b; simp only [List.length_cons]; omega
theorem compN_len (l:List Nt):(compN l).length≤l.length:=by
  cases l with
  | nil=>exact Nat.le_refl _
  | cons a r=>exact compN1_len r a
end Go.Abs
namespace Go.Proofs.YtolgelipcgcbhaaGreat
open Go.Abs
open Nat renaming reduceBEq→zq0,reduceAdd→zq1,reduceSub→zq2,reduceLT→zq3,reduceLeDiff→zq4,reduceMul→zq5,reduceEqDiff→zq6
set_option linter.unusedVariables false
set_option linter.unusedSimpArgs false
set_option maxHeartbeats 4000000
set_option maxRecDepth 100000
def c130:CF:=⟨37,
 (.seq (.ops [
 ⟨some 4,.alloc 29 2 [.int .i64 0,.int .i64 0],none⟩,
 ⟨some 5,.mv (.c (.bool false)),none⟩] [0,1,4])
 (.seq (.ops [
 ⟨some 11,.mv (.t 1),none⟩,
 ⟨some 12,.call (.f 87) [(.t 11)],none⟩,
 ⟨some 6,.mv (.t 12),none⟩] [0,4,6])
 (.seq (.seq (.ops [
 ⟨some 13,.mv (.t 0),none⟩,
 ⟨some 14,.len (.t 13),none⟩,
 ⟨some 15,.mv (.c (.int .i64 0)),none⟩] [4,6,13,14,15])
 (.block 0 (.loop (.seq (.ops [
 ⟨some 16,.bin .lss (.t 15) (.t 14),none⟩] [4,6,13,14,15,16])
 (.seq (.cond (.t 16) .skip
 (.exit 0))
 (.seq (.block 1 (.seq (.ops [
 ⟨some 17,.iaddr 38 (.t 13) (.t 15),none⟩,
 ⟨some 18,.load (some 38) (.t 17),none⟩,
 ⟨some 8,.alloc 68 38 z38,none⟩,
 ⟨none,.store 38 (.t 8) (.t 18),none⟩] [4,6,8,13,14,15])
 (.seq (.ops [
 ⟨some 20,.mv (.t 6),none⟩,
 ⟨some 21,.load (some 38) (.t 8),none⟩,
 ⟨some 22,.call (.f 89) [(.t 21)],none⟩,
 ⟨some 23,.look 2 true z38 true (.t 20) (.t 22),none⟩,
 ⟨some 19,.mv (.t 23),none⟩,
 ⟨some 24,.ext 0 (.t 19),none⟩,
 ⟨some 25,.ext 1 (.t 19),none⟩,
 ⟨some 9,.alloc 68 38 z38,none⟩,
 ⟨none,.store 38 (.t 9) (.t 24),none⟩,
 ⟨some 10,.mv (.t 25),none⟩] [4,6,8,9,10,13,14,15])
 (.seq (.ops [
 ⟨some 26,.mv (.t 10),none⟩,
 ⟨some 27,.mv (.t 26),none⟩,
 ⟨some 28,.load (some 38) (.t 9),some (27,true)⟩,
 ⟨some 29,.load (some 38) (.t 8),some (27,true)⟩,
 ⟨some 30,.call (.f 49) [(.t 28),(.t 29)],some (27,true)⟩,
 ⟨some 31,.un .not (.t 30),some (27,true)⟩,
 ⟨some 32,.pick (.t 27) (.t 31) (.c (.bool false)),none⟩] [4,6,8,13,14,15,32])
 (.cond (.t 32) (.seq (.ops [
 ⟨some 33,.load (some 38) (.t 8),none⟩,
 ⟨some 34,.call (.f 89) [(.t 33)],none⟩,
 ⟨none,.store 2 (.t 4) (.t 34),none⟩,
 ⟨some 5,.mv (.c (.bool true)),none⟩] [4,5])
 .ret)
 .skip)))))
 (.ops [
 ⟨some 35,.bin .add (.t 15) (.c (.int .i64 1)),none⟩,
 ⟨some 15,.mv (.t 35),none⟩] [4,6,13,14,15])))))))
 (.seq (.ops [
 ⟨some 36,.build [.int .i64 0,.int .i64 0] [],none⟩,
 ⟨none,.store 2 (.t 4) (.t 36),none⟩,
 ⟨some 5,.mv (.c (.bool false)),none⟩] [4,5])
 .ret)))),
 [.c 4 (some 2),.t 5]⟩
theorem k130:chkF Tryz.prog Tryz.f130 c130=true:=by kernel_rfl
def c71:CF:=⟨30,
 (.seq (.ops [
 ⟨some 3,.box false 26 6 (.t 0),none⟩,
 ⟨some 6,.alloc 29 2 [.int .i64 0,.int .i64 0],none⟩,
 ⟨some 7,.mv (.c (.int .i64 0)),none⟩] [1,2,3,6])
 (.seq (.seq (.ops [
 ⟨some 11,.load (some 6) (.t 3),none⟩,
 ⟨some 12,.mv (.t 1),none⟩,
 ⟨some 13,.mv (.t 2),none⟩,
 ⟨some 14,.bsl false 27 1 2 [.slice none 0 0,.slice none 0 0] [(0,1,(.t 12)),(1,1,(.t 13))],none⟩,
 ⟨some 15,.call (.f 80) [(.t 11),(.t 14)],none⟩,
 ⟨some 8,.mv (.t 15),none⟩] [1,2,6,8])
 (.seq (.ops [
 ⟨some 16,.mv (.t 8),none⟩,
 ⟨some 17,.bin .neq (.t 16) (.c (.int .i64 0)),none⟩] [1,2,6,8,17])
 (.cond (.t 17) (.seq (.ops [
 ⟨some 18,.build [.int .i64 0,.int .i64 0] [],none⟩,
 ⟨some 19,.mv (.t 8),none⟩,
 ⟨none,.store 2 (.t 6) (.t 18),none⟩,
 ⟨some 7,.mv (.t 19),none⟩] [6,7])
 .ret)
 .skip)))
 (.seq (.ops [
 ⟨some 21,.mv (.t 1),none⟩,
 ⟨some 22,.mv (.t 2),none⟩,
 ⟨some 23,.call (.f 130) [(.t 21),(.t 22)],none⟩,
 ⟨some 20,.mv (.t 23),none⟩,
 ⟨some 24,.ext 0 (.t 20),none⟩,
 ⟨some 25,.ext 1 (.t 20),none⟩,
 ⟨some 9,.alloc 29 2 [.int .i64 0,.int .i64 0],none⟩,
 ⟨none,.store 2 (.t 9) (.t 24),none⟩,
 ⟨some 10,.mv (.t 25),none⟩] [6,9,10])
 (.seq (.seq (.ops [
 ⟨some 26,.mv (.t 10),none⟩,
 ⟨some 27,.un .not (.t 26),none⟩] [6,9,27])
 (.cond (.t 27) (.seq (.ops [
 ⟨some 28,.build [.int .i64 0,.int .i64 0] [],none⟩,
 ⟨none,.store 2 (.t 6) (.t 28),none⟩,
 ⟨some 7,.mv (.c (.int .i64 3)),none⟩] [6,7])
 .ret)
 .skip))
 (.seq (.ops [
 ⟨some 29,.load (some 2) (.t 9),none⟩,
 ⟨none,.store 2 (.t 6) (.t 29),none⟩,
 ⟨some 7,.mv (.c (.int .i64 0)),none⟩] [6,7])
 .ret))))),
 [.c 6 (some 2),.t 7]⟩
theorem k71:chkF Tryz.prog Tryz.f71 c71=true:=by kernel_rfl
theorem fork_spec (x y:List Nt) (hx:setSz x) (hy:setSz y) (hyn:(y.map Nt.nm).Nodup):Pure Tryz.prog 130 [ntS x,ntS y] (.tup [.agg ((forkT x y).getD nm0).cs,bl (forkT x y).isSome]):=by
  refine Pure.of_body Tryz.call130 Tryz.func130 k130 (Nat.le_of_ble_eq_true rfl) ?_
  unfold c130
  have h1:=byName_spec y hy
  have hx0:=hx.1
  obtain ⟨o,ho⟩:∃ o,o=forkT x y:=⟨_,rfl⟩
  rw [← ho]
  (repeat' ((first
 | refine vn rfl ?_
 | simp (disch:=omega) only [wr64,Int.zero_sub]
 | refine bo (fun _=>?_) fun _=>?_
 | refine im fun _=>?_
 | ((repeat refine si ?_); (first | ((first | refine .inl ⟨_,_,_,_,rfl,fun _=>pu h1,?_⟩ | refine ⟨_,_,_,_,rfl,fun _=>pu h1,?_⟩); (first | refine o1 ?_ | refine o2 ?_ | refine o3 ?_ | refine o4 ?_)) | refine .inl ⟨_,_,_,_,rfl,pu h1,?_⟩))
 | refine cF ?_
 | refine om ?_
 | refine an ?_
 | fail) <;> try simp only [zN,zT,zV,zS,zU,vcC,lateX,ex,strp,binA,elems,cells,scalar,eqC,keyA,intsA,lookA,ofVs,mpOf,zq0,zq1,zq2,zq3,zq4,zq5,zq6,reduceIte]))
  refine AWPC.loopE (α:={ z:Nat × Sto // z.1≤x.length∧forkT (x.drop z.1) y=o }) [15] (fun z=>[(15,n z.1.1)]) (fun z=>some [⟨29,2,[[n 0,n 0]],none⟩]::z.1.2) (fun z=>x.length - z.1.1) ⟨(0,[]),Nat.zero_le _,by simp [ho]⟩ ?_ rfl ?_
  · (simp only [zN,zT,zV,zS,zU,vcC,lateX,ex,strp,binA,elems,cells,scalar,eqC,keyA,intsA,lookA,ofVs,mpOf,zq0,zq1,zq2,zq3,zq4,zq5,zq6,reduceIte]; try simp)
  · rintro ⟨⟨i,μ⟩,hi,hI⟩
    simp only at hi hI
    clear ho
    by_cases hlt:i < x.length
    · obtain ⟨a,ha⟩:∃ a,x[i]?=some a:=⟨_,List.getElem?_eq_getElem hlt⟩
      have ham:=hx.2 a (List.mem_of_getElem? ha)
      have hA:=mget_kenc ntA a.nm (byName y)
      simp only [Nm.ky] at hA
      rw [drop_cons ha] at hI
      cases hg:kget (byName y) a.nm with
      | none =>
        rw [hg] at hA
        simp only [Option.map_none] at hA
        have hI2:forkT (x.drop (i+1)) y=o:=by
          rw [← hI]; unfold forkT; rw [List.find?_cons,hg]
        (repeat' ((first
 | refine vn rfl ?_
 | simp (disch:=omega) only [wr64,Int.zero_sub]
 | refine bo (fun _=>?_) fun _=>?_
 | refine im fun _=>?_
 | ((repeat refine si ?_); (first | ((first | refine .inl ⟨_,_,_,_,rfl,fun _=>pu (name_spec a),?_⟩ | refine ⟨_,_,_,_,rfl,fun _=>pu (name_spec a),?_⟩); (first | refine o1 ?_ | refine o2 ?_ | refine o3 ?_ | refine o4 ?_)) | refine .inl ⟨_,_,_,_,rfl,pu (name_spec a),?_⟩))
 | refine cF ?_
 | refine om ?_
 | refine an ?_
 | fail) <;> try simp only [zN, zT, zV, zS, zU, vcC, lateX, ex, strp, binA, elems, cells, scalar, eqC, keyA, intsA, lookA, ofVs, mpOf, zq0, zq1, zq2, zq3, zq4, zq5, zq6, reduceIte, getD_map ha, hA, List.append_assoc, List.cons_append, List.nil_append, at_app, at_app0, upd_app, upd_app0]))
        all_goals try (exfalso; omega)
        refine ⟨⟨(i+1,_),hlt,hI2⟩,by simp,rfl,by simp only; omega⟩
      | some m =>
        rw [hg] at hA
        simp only [Option.map_some] at hA
        have hmy:m∈y:=by
          rw [byName_get hyn] at hg
          exact ((fq_some hyn).1 hg).1
        have hc:=Same_spec m a (hy.2 m hmy) ham
        by_cases e:m=a
        · have hI2:forkT (x.drop (i+1)) y=o:=by
            rw [← hI]; unfold forkT; rw [List.find?_cons,hg]; simp [e]
          rw [decide_eq_true e] at hc
          (repeat' ((first
 | refine vn rfl ?_
 | simp (disch:=omega) only [wr64,Int.zero_sub]
 | refine bo (fun _=>?_) fun _=>?_
 | refine im fun _=>?_
 | ((repeat refine si ?_); (first | ((first | refine .inl ⟨_,_,_,_,rfl,fun _=>pu (by first | exact name_spec a | exact hc),?_⟩ | refine ⟨_,_,_,_,rfl,fun _=>pu (by first | exact name_spec a | exact hc),?_⟩); (first | refine o1 ?_ | refine o2 ?_ | refine o3 ?_ | refine o4 ?_)) | refine .inl ⟨_,_,_,_,rfl,pu (by first | exact name_spec a | exact hc),?_⟩))
 | refine cF ?_
 | refine om ?_
 | refine an ?_
 | fail) <;> try simp only [zN, zT, zV, zS, zU, vcC, lateX, ex, strp, binA, elems, cells, scalar, eqC, keyA, intsA, lookA, ofVs, mpOf, zq0, zq1, zq2, zq3, zq4, zq5, zq6, reduceIte, getD_map ha, hA, List.append_assoc, List.cons_append, List.nil_append, at_app, at_app0, upd_app, upd_app0]))
          all_goals try (exfalso; omega)
          refine ⟨⟨(i+1,_),hlt,hI2⟩,by simp,rfl,by simp only; omega⟩
        · have hI2:o=some a.nm:=by
            rw [← hI]; unfold forkT; rw [List.find?_cons,hg]; simp [e]
          subst hI2
          rw [decide_eq_false e] at hc
          (repeat' ((first
 | refine vn rfl ?_
 | simp (disch:=omega) only [wr64,Int.zero_sub]
 | refine bo (fun _=>?_) fun _=>?_
 | refine im fun _=>?_
 | ((repeat refine si ?_); (first | ((first | refine .inl ⟨_,_,_,_,rfl,fun _=>pu (by first | exact name_spec a | exact hc),?_⟩ | refine ⟨_,_,_,_,rfl,fun _=>pu (by first | exact name_spec a | exact hc),?_⟩); (first | refine o1 ?_ | refine o2 ?_ | refine o3 ?_ | refine o4 ?_)) | refine .inl ⟨_,_,_,_,rfl,pu (by first | exact name_spec a | exact hc),?_⟩))
 | refine cF ?_
 | refine om ?_
 | refine an ?_
 | fail) <;> try simp only [zN, zT, zV, zS, zU, vcC, lateX, ex, strp, binA, elems, cells, scalar, eqC, keyA, intsA, lookA, ofVs, mpOf, zq0, zq1, zq2, zq3, zq4, zq5, zq6, reduceIte, getD_map ha, hA, List.append_assoc, List.cons_append, List.nil_append, at_app, at_app0, upd_app, upd_app0]))
          all_goals try (exfalso; omega)
          exact Frz.eq rfl (by simp)
    · obtain rfl:i=x.length:=by omega
      have hI2:o=none:=by rw [← hI]; unfold forkT; simp
      subst hI2
      (repeat' ((first
 | refine vn rfl ?_
 | simp (disch:=omega) only [wr64,Int.zero_sub]
 | refine bo (fun _=>?_) fun _=>?_
 | refine im fun _=>?_
 | refine cF ?_
 | refine om ?_
 | refine an ?_
 | fail) <;> try simp only [zN,zT,zV,zS,zU,vcC,lateX,ex,strp,binA,elems,cells,scalar,eqC,keyA,intsA,lookA,ofVs,mpOf,zq0,zq1,zq2,zq3,zq4,zq5,zq6,reduceIte]))
      all_goals try (exfalso; omega)
      exact Frz.eq rfl (by simp)
theorem Fork_spec (b:Bse) (hb:bseSz b) (x y:List Nt) (hx:setSz x) (hy:setSz y):Pure Tryz.prog 71 [.agg b.cs,ntS x,ntS y] (.tup [.agg (forkE b x y).1.cs,n (forkE b x y).2]):=by
  refine Pure.of_body Tryz.call71 Tryz.func71 k71 (Nat.le_of_ble_eq_true rfl) ?_
  unfold c71
  have h1:=asked_spec b hb [x,y] (by simp) (by rintro l hl; simp at hl; rcases hl with rfl | rfl <;> assumption)
  by_cases ha:askedE b [x,y]=0
  · rw [ha] at h1
    have hyn:=setE_nodup ((askedE_ok ha).2 y (by simp))
    have h2:=fork_spec x y hx hy hyn
    cases hf:forkT x y with
    | none =>
      have hE:forkE b x y=(nm0,3):=by unfold forkE; rw [if_neg (by omega),hf]
      rw [hE]
      rw [hf] at h2
      simp only [Option.getD_none,Option.isSome_none] at h2
      (repeat' ((first
 | refine vn rfl ?_
 | simp (disch:=omega) only [wr64,Int.zero_sub]
 | refine bo (fun _=>?_) fun _=>?_
 | refine im fun _=>?_
 | ((repeat refine si ?_); (first | ((first | refine .inl ⟨_,_,_,_,rfl,fun _=>pu (by first | exact h1 | exact h2),?_⟩ | refine ⟨_,_,_,_,rfl,fun _=>pu (by first | exact h1 | exact h2),?_⟩); (first | refine o1 ?_ | refine o2 ?_ | refine o3 ?_ | refine o4 ?_)) | refine .inl ⟨_,_,_,_,rfl,pu (by first | exact h1 | exact h2),?_⟩))
 | refine cF ?_
 | refine om ?_
 | refine an ?_
 | fail) <;> try simp only [zN,zT,zV,zS,zU,vcC,lateX,ex,strp,binA,elems,cells,scalar,eqC,keyA,intsA,lookA,ofVs,mpOf,zq0,zq1,zq2,zq3,zq4,zq5,zq6,reduceIte]))
      all_goals try (exfalso; omega)
      all_goals exact Frz.eq rfl (by simp)
    | some m =>
      have hE:forkE b x y=(m,0):=by unfold forkE; rw [if_neg (by omega),hf]
      rw [hE]
      rw [hf] at h2
      simp only [Option.getD_some,Option.isSome_some] at h2
      (repeat' ((first
 | refine vn rfl ?_
 | simp (disch:=omega) only [wr64,Int.zero_sub]
 | refine bo (fun _=>?_) fun _=>?_
 | refine im fun _=>?_
 | ((repeat refine si ?_); (first | ((first | refine .inl ⟨_,_,_,_,rfl,fun _=>pu (by first | exact h1 | exact h2),?_⟩ | refine ⟨_,_,_,_,rfl,fun _=>pu (by first | exact h1 | exact h2),?_⟩); (first | refine o1 ?_ | refine o2 ?_ | refine o3 ?_ | refine o4 ?_)) | refine .inl ⟨_,_,_,_,rfl,pu (by first | exact h1 | exact h2),?_⟩))
 | refine cF ?_
 | refine om ?_
 | refine an ?_
 | fail) <;> try simp only [zN,zT,zV,zS,zU,vcC,lateX,ex,strp,binA,elems,cells,scalar,eqC,keyA,intsA,lookA,ofVs,mpOf,zq0,zq1,zq2,zq3,zq4,zq5,zq6,reduceIte]))
      all_goals try (exfalso; omega)
      all_goals exact Frz.eq rfl (by simp)
  · have hE:forkE b x y=(nm0,askedE b [x,y]):=by unfold forkE; rw [if_pos ha]
    rw [hE]
    generalize askedE b [x,y]=e at h1 ha
    (repeat' ((first
 | refine vn rfl ?_
 | simp (disch:=omega) only [wr64,Int.zero_sub]
 | refine bo (fun _=>?_) fun _=>?_
 | refine im fun _=>?_
 | ((repeat refine si ?_); (first | ((first | refine .inl ⟨_,_,_,_,rfl,fun _=>pu h1,?_⟩ | refine ⟨_,_,_,_,rfl,fun _=>pu h1,?_⟩); (first | refine o1 ?_ | refine o2 ?_ | refine o3 ?_ | refine o4 ?_)) | refine .inl ⟨_,_,_,_,rfl,pu h1,?_⟩))
 | refine cF ?_
 | refine om ?_
 | refine an ?_
 | fail) <;> try simp only [zN,zT,zV,zS,zU,vcC,lateX,ex,strp,binA,elems,cells,scalar,eqC,keyA,intsA,lookA,ofVs,mpOf,zq0,zq1,zq2,zq3,zq4,zq5,zq6,reduceIte]))
    all_goals try (exfalso; omega)
    all_goals exact Frz.eq rfl (by simp)
def c70:CF:=⟨54,
 (.seq (.ops [
 ⟨some 3,.box false 26 6 (.t 0),none⟩,
 ⟨some 6,.mv (.c (.slice none 0 0)),none⟩,
 ⟨some 7,.mv (.c (.int .i64 0)),none⟩] [1,2,3])
 (.seq (.seq (.ops [
 ⟨some 15,.load (some 6) (.t 3),none⟩,
 ⟨some 16,.mv (.t 1),none⟩,
 ⟨some 17,.mv (.t 2),none⟩,
 ⟨some 18,.bsl false 27 1 2 [.slice none 0 0,.slice none 0 0] [(0,1,(.t 16)),(1,1,(.t 17))],none⟩,
 ⟨some 19,.call (.f 80) [(.t 15),(.t 18)],none⟩,
 ⟨some 8,.mv (.t 19),none⟩] [1,2,8])
 (.seq (.ops [
 ⟨some 20,.mv (.t 8),none⟩,
 ⟨some 21,.bin .neq (.t 20) (.c (.int .i64 0)),none⟩] [1,2,8,21])
 (.cond (.t 21) (.seq (.ops [
 ⟨some 22,.mv (.t 8),none⟩,
 ⟨some 6,.mv (.c (.slice none 0 0)),none⟩,
 ⟨some 7,.mv (.t 22),none⟩] [6,7])
 .ret)
 .skip)))
 (.seq (.seq (.ops [
 ⟨some 24,.mv (.t 1),none⟩,
 ⟨some 25,.mv (.t 2),none⟩,
 ⟨some 26,.call (.f 130) [(.t 24),(.t 25)],none⟩,
 ⟨some 23,.mv (.t 26),none⟩,
 ⟨some 27,.ext 0 (.t 23),none⟩,
 ⟨some 28,.ext 1 (.t 23),none⟩,
 ⟨some 9,.alloc 29 2 [.int .i64 0,.int .i64 0],none⟩,
 ⟨none,.store 2 (.t 9) (.t 27),none⟩,
 ⟨some 10,.mv (.t 28),none⟩] [1,2,10])
 (.seq (.ops [
 ⟨some 29,.mv (.t 10),none⟩] [1,2,29])
 (.cond (.t 29) (.seq (.ops [
 ⟨some 6,.mv (.c (.slice none 0 0)),none⟩,
 ⟨some 7,.mv (.c (.int .i64 61)),none⟩] [6,7])
 .ret)
 .skip)))
 (.seq (.ops [
 ⟨some 30,.mv (.t 1),none⟩,
 ⟨some 31,.mv (.t 2),none⟩,
 ⟨some 32,.bsl false 27 1 2 [.slice none 0 0,.slice none 0 0] [(0,1,(.t 30)),(1,1,(.t 31))],none⟩,
 ⟨some 33,.call (.f 131) [(.t 32)],none⟩,
 ⟨some 11,.mv (.t 33),none⟩] [11])
 (.seq (.ops [
 ⟨some 34,.mv (.t 11),none⟩,
 ⟨some 35,.call (.f 132) [(.t 34),(.f 133)],none⟩] [11])
 (.seq (.ops [
 ⟨some 36,.mv (.t 11),none⟩,
 ⟨some 37,.call (.f 134) [(.t 36),(.f 135)],none⟩,
 ⟨some 11,.mv (.t 37),none⟩] [11])
 (.seq (.seq (.ops [
 ⟨some 38,.mv (.t 11),none⟩,
 ⟨some 39,.len (.t 38),none⟩,
 ⟨some 40,.bin .gtr (.t 39) (.c (.int .i64 400)),none⟩] [11,40])
 (.cond (.t 40) (.seq (.ops [
 ⟨some 6,.mv (.c (.slice none 0 0)),none⟩,
 ⟨some 7,.mv (.c (.int .i64 2)),none⟩] [6,7])
 .ret)
 .skip))
 (.seq (.ops [
 ⟨some 12,.mv (.c (.slice none 0 0)),none⟩] [11,12])
 (.seq (.seq (.ops [
 ⟨some 41,.mv (.t 11),none⟩,
 ⟨some 42,.len (.t 41),none⟩,
 ⟨some 43,.mv (.c (.int .i64 0)),none⟩] [12,41,42,43])
 (.block 0 (.loop (.seq (.ops [
 ⟨some 44,.bin .lss (.t 43) (.t 42),none⟩] [12,41,42,43,44])
 (.seq (.cond (.t 44) .skip
 (.exit 0))
 (.seq (.block 1 (.seq (.ops [
 ⟨some 45,.iaddr 38 (.t 41) (.t 43),none⟩,
 ⟨some 46,.load (some 38) (.t 45),none⟩,
 ⟨some 14,.alloc 68 38 z38,none⟩,
 ⟨none,.store 38 (.t 14) (.t 46),none⟩] [12,14,41,42,43])
 (.ops [
 ⟨some 47,.mv (.t 12),none⟩,
 ⟨some 48,.load (some 38) (.t 14),none⟩,
 ⟨some 49,.call (.f 136) [(.t 48)],none⟩,
 ⟨some 50,.bsl false 68 38 1 z38 [(0,38,(.t 49))],none⟩,
 ⟨some 51,.app 68 38 368 (.t 47) (.t 50),none⟩,
 ⟨some 12,.mv (.t 51),none⟩] [12,41,42,43])))
 (.ops [
 ⟨some 52,.bin .add (.t 43) (.c (.int .i64 1)),none⟩,
 ⟨some 43,.mv (.t 52),none⟩] [12,41,42,43])))))))
 (.seq (.ops [
 ⟨some 53,.mv (.t 12),none⟩,
 ⟨some 6,.mv (.t 53),none⟩,
 ⟨some 7,.mv (.c (.int .i64 0)),none⟩] [6,7])
 .ret)))))))))),
 [.t 6,.t 7]⟩
theorem k70:chkF Tryz.prog Tryz.f70 c70=true:=by kernel_rfl
theorem sortN_does (σ:Sto) (f:Nat) (l:List Nt) (hf:σ.at f 0=some ⟨68,38,l.map Nt.cs,none⟩) (hl:l.length < 4611686018427387904) (hn:∀ a∈l,∀ b∈l,a.nm=b.nm→a=b) :
    Does Tryz.prog 132 [.own f 0 l.length,.fn (.func 133) [] []] σ (fun _ σ'=>σ'=σ.upd f 0 ⟨68,38,(srtN l).map Nt.cs,none⟩) :=
  (sort_notes 133 (fun a b=>cmpN a.nm b.nm) swoN Tryz.call133 mergeK σ f l hf hl).mono fun r σ' ⟨l',h1,h2,h3⟩=>by rw [h3,srtN_one hn h1 h2]
theorem nt_shtC {b:Bse} {a:Nt} (h:a.ok b):shtC a.sheet:=by
  by_cases hk:a.kind=1
  · obtain ⟨h1,h2,h3,h4⟩:=nt_small h hk
    exact ⟨by omega,by omega,by omega,by omega⟩
  · have h1:=h.1
    have h2:a.sheet=sht0:=by
      rw [h1]
      unfold Nt.bare
      rw [if_neg hk]
      repeat' split
      all_goals rfl
    rw [h2]
    exact ⟨by decide,by decide,by decide,by decide⟩
theorem Merge_spec (b:Bse) (hb:bseSz b) (x y:List Nt) (hx:setSz x) (hy:setSz y):Pure Tryz.prog 70 [.agg b.cs,ntS x,ntS y] (.tup [ntS (mergeE b x y).1,n (mergeE b x y).2]):=by
  refine Pure.of_body Tryz.call70 Tryz.func70 k70 (Nat.le_of_ble_eq_true rfl) ?_
  unfold c70
  have h1:=asked_spec b hb [x,y] (by simp) (by rintro l hl; simp at hl; rcases hl with rfl | rfl <;> assumption)
  by_cases ha:askedE b [x,y]=0
  · rw [ha] at h1
    have okx:=(askedE_ok ha).2 x (by simp)
    have oky:=(askedE_ok ha).2 y (by simp)
    have hyn:=setE_nodup oky
    have h2:=fork_spec x y hx hy hyn
    cases hf:forkT x y with
    | some m =>
      have hE:mergeE b x y=([],61):=by unfold mergeE; rw [if_neg (by omega),hf]; rfl
      rw [hE]
      rw [hf] at h2
      simp only [Option.getD_some,Option.isSome_some] at h2
      (repeat' ((first
 | refine vn rfl ?_
 | simp (disch:=omega) only [wr64,Int.zero_sub]
 | refine bo (fun _=>?_) fun _=>?_
 | refine im fun _=>?_
 | ((repeat refine si ?_); (first | ((first | refine .inl ⟨_,_,_,_,rfl,fun _=>pu (by first | exact h1 | exact h2),?_⟩ | refine ⟨_,_,_,_,rfl,fun _=>pu (by first | exact h1 | exact h2),?_⟩); (first | refine o1 ?_ | refine o2 ?_ | refine o3 ?_ | refine o4 ?_)) | refine .inl ⟨_,_,_,_,rfl,pu (by first | exact h1 | exact h2),?_⟩))
 | refine cF ?_
 | refine om ?_
 | refine an ?_
 | fail) <;> try simp only [zN,zT,zV,zS,zU,vcC,lateX,ex,strp,binA,elems,cells,scalar,eqC,keyA,intsA,lookA,ofVs,mpOf,zq0,zq1,zq2,zq3,zq4,zq5,zq6,reduceIte]))
      all_goals try (exfalso; omega)
      all_goals exact Frz.tupL ⟨Frz.nil0,Frz.pure (by simp),trivial⟩
    | none =>
      rw [hf] at h2
      simp only [Option.getD_none,Option.isSome_none] at h2
      have hxl:=(setE_ok okx).2.1
      have hyl:=(setE_ok oky).2.1
      have hone:=nofork (setE_nodup okx) hyn hf
      obtain ⟨l,hl⟩:∃ l,l=x++y:=⟨_,rfl⟩
      have hll:l.length=x.length+y.length:=by rw [hl,List.length_append]
      have hfl:[x,y].flatten=l:=by rw [hl]; simp
      rw [← hl] at hone
      have hcc:=fun σ=>concatN_does σ [x,y] (by simp) (by rw [hfl]; omega)
      rw [hfl] at hcc
      have hsl:(srtN l).length=l.length:=(srtN_perm l).length_eq
      have hcl:(compN (srtN l)).length≤l.length:=by rw [← hsl]; exact compN_len _
      have hok:∀ a∈compN (srtN l),shtC a.sheet:=by
        intro a h
        have h3:=(srtN_perm l).mem_iff.1 (compN_sub _ a h)
        rw [hl] at h3
        rcases List.mem_append.1 h3 with h4 | h4
        · exact nt_shtC ((setE_ok okx).2.2.1 a h4)
        · exact nt_shtC ((setE_ok oky).2.2.1 a h4)
      (repeat' ((first
 | refine vn rfl ?_
 | simp (disch:=omega) only [wr64,Int.zero_sub]
 | refine bo (fun _=>?_) fun _=>?_
 | refine im fun _=>?_
 | ((repeat refine si ?_); (first | ((first | refine .inl ⟨_,_,_,_,rfl,fun _=>pu (by first | exact h1 | exact h2),?_⟩ | refine ⟨_,_,_,_,rfl,fun _=>pu (by first | exact h1 | exact h2),?_⟩); (first | refine o1 ?_ | refine o2 ?_ | refine o3 ?_ | refine o4 ?_)) | refine .inl ⟨_,_,_,_,rfl,pu (by first | exact h1 | exact h2),?_⟩))
 | refine cF ?_
 | refine om ?_
 | refine an ?_
 | fail) <;> try simp only [zN,zT,zV,zS,zU,vcC,lateX,ex,strp,binA,elems,cells,scalar,eqC,keyA,intsA,lookA,ofVs,mpOf,zq0,zq1,zq2,zq3,zq4,zq5,zq6,reduceIte]))
      all_goals try (exfalso; omega)
      refine .inr (.inl ⟨_,_,_,_,rfl,fun _=>⟨hcc _,?_⟩,fun h=>by cases h⟩)
      rintro r1 σ1 ⟨rfl,rfl⟩
      refine owp_of_exs ?_
      simp only [zN,zT,zV,zS,zU,vcC,lateX,ex,strp,binA,elems,cells,scalar,eqC,keyA,intsA,lookA,ofVs,mpOf,zq0,zq1,zq2,zq3,zq4,zq5,zq6,reduceIte,List.cons_append,List.nil_append]
      (repeat' ((first
 | refine vn rfl ?_
 | simp (disch:=omega) only [wr64,Int.zero_sub]
 | refine bo (fun _=>?_) fun _=>?_
 | refine im fun _=>?_
 | refine cF ?_
 | refine om ?_
 | refine an ?_
 | fail) <;> try simp only [zN,zT,zV,zS,zU,vcC,lateX,ex,strp,binA,elems,cells,scalar,eqC,keyA,intsA,lookA,ofVs,mpOf,zq0,zq1,zq2,zq3,zq4,zq5,zq6,reduceIte]))
      refine .inr (.inl ⟨_,_,_,_,rfl,fun _=>⟨sortN_does _ 1 l rfl (by omega) hone,?_⟩,fun h=>by cases h⟩)
      rintro r1 σ1 rfl
      refine owp_of_exs ?_
      simp only [zN,zT,zV,zS,zU,vcC,lateX,ex,strp,binA,elems,cells,scalar,eqC,keyA,intsA,lookA,ofVs,mpOf,zq0,zq1,zq2,zq3,zq4,zq5,zq6,reduceIte]
      (repeat' ((first
 | refine vn rfl ?_
 | simp (disch:=omega) only [wr64,Int.zero_sub]
 | refine bo (fun _=>?_) fun _=>?_
 | refine im fun _=>?_
 | refine cF ?_
 | refine om ?_
 | refine an ?_
 | fail) <;> try simp only [zN,zT,zV,zS,zU,vcC,lateX,ex,strp,binA,elems,cells,scalar,eqC,keyA,intsA,lookA,ofVs,mpOf,zq0,zq1,zq2,zq3,zq4,zq5,zq6,reduceIte]))
      refine .inr (.inl ⟨_,_,_,_,rfl,fun _=>⟨by rw [← hsl]; exact compN_does _ 1 (srtN l) (by omega) rfl,?_⟩,fun h=>by cases h⟩)
      rintro r1 σ1 ⟨ν1,rfl,rfl⟩
      refine owp_of_exs ?_
      simp only [zN,zT,zV,zS,zU,vcC,lateX,ex,strp,binA,elems,cells,scalar,eqC,keyA,intsA,lookA,ofVs,mpOf,zq0,zq1,zq2,zq3,zq4,zq5,zq6,reduceIte]
      have hE:mergeE b x y=if 400 < (compN (srtN l)).length then ([],2) else (compN (srtN l),0):=by unfold mergeE; rw [if_neg (by omega),hf,← hl]; rfl
      rw [hE]
      generalize compN (srtN l)=m at hcl hok
      by_cases h400:400 < m.length
      · rw [if_pos h400]
        (repeat' ((first
 | refine vn rfl ?_
 | simp (disch:=omega) only [wr64,Int.zero_sub]
 | refine bo (fun _=>?_) fun _=>?_
 | refine im fun _=>?_
 | refine cF ?_
 | refine om ?_
 | refine an ?_
 | fail) <;> try simp only [zN, zT, zV, zS, zU, vcC, lateX, ex, strp, binA, elems, cells, scalar, eqC, keyA, intsA, lookA, ofVs, mpOf, zq0, zq1, zq2, zq3, zq4, zq5, zq6, reduceIte]))
        all_goals try (exfalso; omega)
        all_goals exact Frz.tupL ⟨Frz.nil0,Frz.pure (by simp),trivial⟩
      · rw [if_neg h400]
        (repeat' ((first
 | refine vn rfl ?_
 | simp (disch:=omega) only [wr64,Int.zero_sub]
 | refine bo (fun _=>?_) fun _=>?_
 | refine im fun _=>?_
 | refine cF ?_
 | refine om ?_
 | refine an ?_
 | fail) <;> try simp only [zN, zT, zV, zS, zU, vcC, lateX, ex, strp, binA, elems, cells, scalar, eqC, keyA, intsA, lookA, ofVs, mpOf, zq0, zq1, zq2, zq3, zq4, zq5, zq6, reduceIte]))
        all_goals try (exfalso; omega)
        generalize (some [⟨29,2,[[n nm0.clerk,n nm0.num]],none⟩]::none::ν1:Sto)=S
        refine AWPC.own0 68 38 12 rfl ?_
        obtain ⟨G,hG⟩:∃ G,G=List.length S:=⟨_,rfl⟩
        rw [← hG]
        have hA:∀ (o:Ob) (μ:Sto),Sto.at (S++some [o]::μ) G 0=some o:=fun o μ=>by rw [hG,at_app0]; rfl
        have hB:∀ (o o':Ob) (μ:Sto),Sto.upd (S++some [o]::μ) G 0 o'=S++some [o']::μ:=fun o o' μ=>by rw [hG]; simp [Sto.upd]
        have hG':List.length S=G:=hG.symm
        have hC:∀ (f:Nat) (o:Ob) (μ:Sto),Sto.at (S++some [o]::μ) (G+(f+1)) 0=Sto.at μ f 0:=fun f o μ=>by rw [hG,at_app]; rfl
        have hD:∀ (f:Nat) (o o':Ob) (μ:Sto),Sto.upd (S++some [o]::μ) (G+(f+1)) 0 o'=S++some [o]::Sto.upd μ f 0 o':=fun f o o' μ=>by rw [hG,upd_app]; simp [Sto.upd]; cases μ[f]? with
          | none=>rfl
          | some x=>cases x <;> rfl
        refine AWPC.loopE (α:={ x:Nat × List Nt × Sto // x.1≤m.length∧x.2.1=m.take x.1 }) [12,43] (fun x=>[(12,.own G 0 x.1.2.1.length),(43,n x.1.1)]) (fun x=>S++some [⟨68,38,x.1.2.1.map Nt.cs,none⟩]::x.1.2.2) (fun x=>m.length - x.1.1) ⟨(0,[],[]),Nat.zero_le _,rfl⟩ ?_ rfl ?_
        · (simp only [zN,zT,zV,zS,zU,vcC,lateX,ex,strp,binA,elems,cells,scalar,eqC,keyA,intsA,lookA,ofVs,mpOf,zq0,zq1,zq2,zq3,zq4,zq5,zq6,reduceIte]; try simp)
        · rintro ⟨⟨i,W,μ⟩,hi,hW⟩
          simp only at hi hW
          have hWl:W.length=i:=by rw [hW,List.length_take]; omega
          generalize hM:W.map Nt.cs=M
          have hMl:M.length=i:=by rw [← hM,List.length_map]; exact hWl
          simp only [hM]
          by_cases hlt:i < m.length
          · have hx:(m.map Nt.cs).getD i []=Nt.cs (m.getD i nt0):=row nt0 hlt
            have hN:m.take (i+1)=W++[m.getD i nt0]:=by rw [hW,List.take_add_one,getD_lt nt0 hlt]; simp
            have hc:=copied_spec (m.getD i nt0) (hok _ (List.mem_of_getElem? (getD_lt nt0 hlt)))
            generalize m.getD i nt0=x at hx hN hc
            (repeat' ((first
 | refine vn rfl ?_
 | simp (disch:=omega) only [wr64,Int.zero_sub]
 | refine bo (fun _=>?_) fun _=>?_
 | refine im fun _=>?_
 | ((repeat refine si ?_); (first | ((first | refine .inl ⟨_,_,_,_,rfl,fun _=>pu hc,?_⟩ | refine ⟨_,_,_,_,rfl,fun _=>pu hc,?_⟩); (first | refine o1 ?_ | refine o2 ?_ | refine o3 ?_ | refine o4 ?_)) | refine .inl ⟨_,_,_,_,rfl,pu hc,?_⟩))
 | refine cF ?_
 | refine om ?_
 | refine an ?_
 | fail) <;> try simp only [zN, zT, zV, zS, zU, vcC, lateX, ex, strp, binA, elems, cells, scalar, eqC, keyA, intsA, lookA, ofVs, mpOf, zq0, zq1, zq2, zq3, zq4, zq5, zq6, reduceIte, hA, hB, hC, hD, hG', hx, hMl, hWl, List.length_map, List.append_assoc, List.cons_append, List.nil_append]))
            all_goals try (exfalso; omega)
            refine ⟨⟨(i+1,W++[x],μ++[some [⟨68,38,[x.cs],none⟩]]),hlt,hN.symm⟩,?_,?_,by simp only; omega⟩
            · simp [hWl]
            · simp [← hM]
          · obtain rfl:i=m.length:=by omega
            rw [List.take_length] at hW
            subst hW
            clear hG hWl hE hok hcl hcc hone hsl hfl hll hl
            iterate 5 (refine vn rfl ?_; simp only [zN,zT,zV,zS,zU,vcC,lateX,ex,strp,binA,elems,cells,scalar,eqC,keyA,intsA,lookA,ofVs,mpOf,zq0,zq1,zq2,zq3,zq4,zq5,zq6,reduceIte,hA,hB,hC,hD,hG',hMl])
            exact Frz.tupL ⟨Frz.ownL (cs:=Nt.cs) (by rw [hM]; exact hA _ _) rfl (by decide) (fun a=>Nt.pc a) (fun a=>rfl),Frz.pure (by simp),trivial⟩
  · have hE:mergeE b x y=([],askedE b [x,y]):=by unfold mergeE; rw [if_pos ha]
    rw [hE]
    generalize askedE b [x,y]=e at h1 ha
    (repeat' ((first
 | refine vn rfl ?_
 | simp (disch:=omega) only [wr64,Int.zero_sub]
 | refine bo (fun _=>?_) fun _=>?_
 | refine im fun _=>?_
 | ((repeat refine si ?_); (first | ((first | refine .inl ⟨_,_,_,_,rfl,fun _=>pu h1,?_⟩ | refine ⟨_,_,_,_,rfl,fun _=>pu h1,?_⟩); (first | refine o1 ?_ | refine o2 ?_ | refine o3 ?_ | refine o4 ?_)) | refine .inl ⟨_,_,_,_,rfl,pu h1,?_⟩))
 | refine cF ?_
 | refine om ?_
 | refine an ?_
 | fail) <;> try simp only [zN,zT,zV,zS,zU,vcC,lateX,ex,strp,binA,elems,cells,scalar,eqC,keyA,intsA,lookA,ofVs,mpOf,zq0,zq1,zq2,zq3,zq4,zq5,zq6,reduceIte]))
    all_goals try (exfalso; omega)
    all_goals exact Frz.tupL ⟨Frz.nil0,Frz.pure (by simp),trivial⟩
end Go.Proofs.YtolgelipcgcbhaaGreat
namespace Go.Abs
set_option linter.unusedVariables false
set_option linter.unusedSimpArgs false
def OneN (l:List Nt):Prop:=∀ a∈l,∀ b∈l,a.nm=b.nm→a=b
theorem cmpN_as {a b:Nm} (h:cmpN a b < 0):¬ cmpN b a < 0:=by
  have h1:=@cmpN_lt a b
  have h2:=@cmpN_lt b a
  omega
theorem compN1_spec:∀ (r:List Nt) (a:Nt),(a::r).Pairwise (fun x y=>0≤cmpN y.nm x.nm)→OneN (a::r) →
    (compN1 a r).Pairwise (fun x y=>cmpN x.nm y.nm < 0)∧(∀ x,x∈compN1 a r↔x∈a::r)
  | [],a,_,_=>⟨by simp [compN1],fun x=>Iff.rfl⟩
  | b::r,a,hp,ho=>by
    rw [List.pairwise_cons] at hp
    unfold compN1
    by_cases e:a.nm=b.nm
    · rw [if_pos e]
      have hab:a=b:=ho a (by simp) b (by simp) e
      subst hab
      obtain ⟨h1,h2⟩:=compN1_spec r a hp.2 (fun x hx y hy=>ho x (List.mem_cons_of_mem _ hx) y (List.mem_cons_of_mem _ hy))
      exact ⟨h1,fun x=>by rw [h2]; simp⟩
    · rw [if_neg e]
      obtain ⟨h1,h2⟩:=compN1_spec r b hp.2 (fun x hx y hy=>ho x (List.mem_cons_of_mem _ hx) y (List.mem_cons_of_mem _ hy))
      refine ⟨List.pairwise_cons.2 ⟨fun y hy=>?_,h1⟩,fun x=>by rw [List.mem_cons,h2]; simp⟩
      have hy':=(h2 y).1 hy
      have g1:0≤cmpN b.nm a.nm:=hp.1 b (by simp)
      have g2:cmpN a.nm b.nm < 0:=by
        have h3:=@cmpN_gt a.nm b.nm
        have h4:=@cmpN_eq a.nm b.nm
        have:¬ cmpN a.nm b.nm=0:=fun h=>e (h4.1 h)
        omega
      rcases List.mem_cons.1 hy' with rfl | hy'
      · exact g2
      · have g3:0≤cmpN y.nm b.nm:=(List.pairwise_cons.1 hp.2).1 y hy'
        rw [cmpN_lt] at g2 ⊢
        have:=@cmpN_lt y.nm b.nm
        omega
abbrev uni (l:List Nt):List Nt:=compN (srtN l)
theorem uni_spec {l:List Nt} (ho:OneN l):(uni l).Pairwise (fun x y=>cmpN x.nm y.nm < 0)∧∀ x,x∈uni l↔x∈l:=by
  have hp:=srtN_le l
  have hm:∀ x,x∈srtN l↔x∈l:=fun x=>(srtN_perm l).mem_iff
  have ho':OneN (srtN l):=fun a ha b hb=>ho a ((hm a).1 ha) b ((hm b).1 hb)
  unfold uni
  generalize srtN l=s at hp hm ho'
  cases s with
  | nil=>exact ⟨by simp [compN],hm⟩
  | cons a r =>
    obtain ⟨h1,h2⟩:=compN1_spec r a hp ho'
    exact ⟨h1,fun x=>(h2 x).trans (hm x)⟩
theorem uni_ext {l m:List Nt} (hl:l.Pairwise (fun x y=>cmpN x.nm y.nm < 0)) (hm:m.Pairwise (fun x y=>cmpN x.nm y.nm < 0)) (h:∀ x,x∈l↔x∈m):l=m :=
  sorted_ext (lt:=fun x y=>cmpN x.nm y.nm < 0) (fun a b=>cmpN_as) hl hm h
theorem set_srt {b:Bse} {l:List Nt} (h:(setE b l).1=0):l.Pairwise (fun x y=>cmpN x.nm y.nm < 0):=by
  have:=(setE_ok h).2.2.2
  rwa [List.pairwise_map] at this
theorem asked_two {b:Bse} {x y:List Nt}:askedE b [x,y]=askedE b [y,x]:=by
  unfold askedE
  simp only [List.all_cons,List.all_nil,Bool.and_true]
  rw [Bool.and_comm]
theorem fork_none {x y:List Nt} (hx:(x.map Nt.nm).Nodup) (hy:(y.map Nt.nm).Nodup):forkT x y=none↔OneN (x++y):=by
  refine ⟨fun h=>nofork hx hy h,fun h=>?_⟩
  unfold forkT
  rw [Option.map_eq_none_iff,List.find?_eq_none]
  intro a ha
  rw [byName_get hy]
  cases hf:fq y (fun _=>true) a.nm with
  | none=>simp
  | some m =>
    obtain ⟨h1,h2,_⟩:=(fq_some hy).1 hf
    have:=h m (by simp [h1]) a (by simp [ha]) h2
    simp [this]
theorem one_comm {x y:List Nt}:OneN (x++y)↔OneN (y++x):=by
  unfold OneN
  constructor <;> intro h a ha b hb <;> exact h a (by simp at ha ⊢; exact ha.symm) b (by simp at hb ⊢; exact hb.symm)
theorem merge_comm (b:Bse) (x y:List Nt):mergeE b x y=mergeE b y x:=by
  unfold mergeE
  rw [asked_two]
  by_cases ha:askedE b [y,x]≠0
  · rw [if_pos ha,if_pos ha]
  · have ha0:askedE b [y,x]=0:=by omega
    have okx:=(askedE_ok ha0).2 x (by simp)
    have oky:=(askedE_ok ha0).2 y (by simp)
    rw [if_neg ha,if_neg ha]
    have hf:(forkT x y).isSome=(forkT y x).isSome:=by
      have h1:=fork_none (setE_nodup okx) (setE_nodup oky)
      have h2:=fork_none (setE_nodup oky) (setE_nodup okx)
      rw [one_comm] at h1
      have h3:=h1.trans h2.symm
      cases e1:forkT x y <;> cases e2:forkT y x <;> simp [e1,e2] at h3 ⊢
    rw [hf]
    by_cases hs:(forkT y x).isSome=true
    · rw [if_pos hs,if_pos hs]
    · rw [if_neg hs,if_neg hs]
      have hn:forkT y x=none:=by simpa using hs
      have ho:=(fork_none (setE_nodup oky) (setE_nodup okx)).1 hn
      obtain ⟨p1,p2⟩:=uni_spec ho
      obtain ⟨q1,q2⟩:=uni_spec (one_comm.1 ho)
      have:compN (srtN (x++y))=compN (srtN (y++x)):=uni_ext q1 p1 fun a=>by rw [q2,p2]; simp [or_comm]
      rw [this]
theorem merge_ok {b:Bse} {x y:List Nt} (h:(mergeE b x y).2=0):(setE b x).1=0∧(setE b y).1=0∧OneN (x++y)∧(mergeE b x y).1=uni (x++y)∧(uni (x++y)).length≤400:=by
  unfold mergeE at h ⊢
  by_cases ha:askedE b [x,y]≠0
  · rw [if_pos ha] at h; exact absurd h ha
  rw [if_neg ha] at h ⊢
  have ha0:askedE b [x,y]=0:=by omega
  have okx:=(askedE_ok ha0).2 x (by simp)
  have oky:=(askedE_ok ha0).2 y (by simp)
  by_cases hs:(forkT x y).isSome=true
  · rw [if_pos hs] at h; simp at h
  rw [if_neg hs] at h ⊢
  by_cases h4:400 < (compN (srtN (x++y))).length
  · rw [if_pos h4] at h; simp at h
  rw [if_neg h4]
  exact ⟨okx,oky,(fork_none (setE_nodup okx) (setE_nodup oky)).1 (by simpa using hs),rfl,Nat.le_of_not_lt h4⟩
theorem merge_self {b:Bse} {x:List Nt} (h:(mergeE b x x).2=0):(mergeE b x x).1=x:=by
  obtain ⟨h1,_,h3,h4,_⟩:=merge_ok h
  rw [h4]
  obtain ⟨p1,p2⟩:=uni_spec h3
  exact uni_ext p1 (set_srt h1) fun a=>by rw [p2]; simp
def unionE (b:Bse) (x y z:List Nt):List Nt × Int:=if (mergeE b x y).2≠0 then ([],(mergeE b x y).2) else mergeE b (mergeE b x y).1 z
theorem union_ok {b:Bse} {x y z:List Nt} (h:(unionE b x y z).2=0):(unionE b x y z).1.Pairwise (fun x y=>cmpN x.nm y.nm < 0)∧∀ a,a∈(unionE b x y z).1↔a∈x∨a∈y∨a∈z:=by
  unfold unionE at h ⊢
  by_cases h0:(mergeE b x y).2≠0
  · rw [if_pos h0] at h; exact absurd h h0
  rw [if_neg h0] at h ⊢
  obtain ⟨_,_,h3,h4,_⟩:=merge_ok (show (mergeE b x y).2=0 by omega)
  obtain ⟨_,_,g3,g4,_⟩:=merge_ok h
  rw [g4]
  obtain ⟨p1,p2⟩:=uni_spec g3
  refine ⟨p1,fun a=>?_⟩
  rw [p2,List.mem_append,h4,(uni_spec h3).2,List.mem_append,or_assoc]
theorem union_rot {b:Bse} {x y z:List Nt} (h:(unionE b x y z).2=0) (h':(unionE b y z x).2=0):(unionE b x y z).1=(unionE b y z x).1:=by
  obtain ⟨p1,p2⟩:=union_ok h
  obtain ⟨q1,q2⟩:=union_ok h'
  refine uni_ext p1 q1 fun a=>?_
  rw [p2,q2]
  constructor
  · rintro (h | h | h)
    · exact .inr (.inr h)
    · exact .inl h
    · exact .inr (.inl h)
  · rintro (h | h | h)
    · exact .inr (.inl h)
    · exact .inr (.inr h)
    · exact .inl h
theorem fork_merge (b:Bse) (x y:List Nt):(forkE b x y).2=0↔(mergeE b x y).2=61:=by
  unfold forkE mergeE
  by_cases ha:askedE b [x,y]≠0
  · rw [if_pos ha,if_pos ha]
    have:askedE b [x,y]=1∨askedE b [x,y]=100:=by
      unfold askedE at ha ⊢
      split
      · exact .inr rfl
      · rename_i h
        rw [if_neg h] at ha
        split
        · rename_i h2; rw [if_pos h2] at ha; exact absurd rfl ha
        · exact .inl rfl
    simp only
    omega
  · rw [if_neg ha,if_neg ha]
    cases hf:forkT x y with
    | none =>
      simp only [Option.isSome_none,Bool.false_eq_true,if_false]
      split <;> simp
    | some m=>simp
end Go.Abs
namespace Go.Proofs.YtolgelipcgcbhaaGreat
open Go.Abs
open Nat renaming reduceBEq→zq0,reduceAdd→zq1,reduceSub→zq2,reduceLT→zq3,reduceLeDiff→zq4,reduceMul→zq5,reduceEqDiff→zq6
set_option linter.unusedVariables false
set_option linter.unusedSimpArgs false
set_option maxHeartbeats 4000000
set_option maxRecDepth 100000
def c25:CF:=⟨44,
 (.seq (.ops [
 ⟨some 3,.box false 26 6 (.t 0),none⟩,
 ⟨some 5,.box false 29 2 (.t 2),none⟩,
 ⟨some 6,.mv (.c (.slice none 0 0)),none⟩,
 ⟨some 7,.mv (.c (.int .i64 0)),none⟩] [1,3,5])
 (.seq (.seq (.ops [
 ⟨some 12,.load (some 6) (.t 3),none⟩,
 ⟨some 13,.mv (.t 1),none⟩,
 ⟨some 14,.bsl false 27 1 1 [.slice none 0 0] [(0,1,(.t 13))],none⟩,
 ⟨some 15,.call (.f 80) [(.t 12),(.t 14)],none⟩,
 ⟨some 8,.mv (.t 15),none⟩] [1,5,8])
 (.seq (.ops [
 ⟨some 16,.mv (.t 8),none⟩,
 ⟨some 17,.bin .neq (.t 16) (.c (.int .i64 0)),none⟩] [1,5,8,17])
 (.cond (.t 17) (.seq (.ops [
 ⟨some 18,.mv (.t 8),none⟩,
 ⟨some 6,.mv (.c (.slice none 0 0)),none⟩,
 ⟨some 7,.mv (.t 18),none⟩] [6,7])
 .ret)
 .skip)))
 (.seq (.ops [
 ⟨some 9,.mv (.c (.int .i64 0)),none⟩] [1,5])
 (.seq (.seq (.draw [
 ⟨some 19,.mv (.t 1),none⟩,
 ⟨some 20,.call (.f 87) [(.t 19)],none⟩,
 ⟨some 21,.load (some 2) (.t 5),none⟩,
 ⟨some 22,.look 2 true z38 false (.t 20) (.t 21),none⟩,
 ⟨some 23,.field 4 none (.t 22),none⟩] [
 ] [1,5,23])
 (.block 0 (.seq (.ops [
 ⟨some 25,.bin .eql (.t 23) (.c (.int .i64 1)),none⟩,
 ⟨some 24,.mv (.t 25),none⟩] [1,5,23,24])
 (.cond (.t 24) (.ops [
 ⟨some 9,.mv (.c (.int .i64 5)),none⟩] [1,5,9])
 (.seq (.seq (.ops [
 ⟨some 27,.bin .eql (.t 23) (.c (.int .i64 2)),none⟩,
 ⟨some 26,.mv (.t 27),none⟩] [1,5,23,26])
 (.cond (.t 26) .skip
 (.ops [
 ⟨some 28,.bin .eql (.t 23) (.c (.int .i64 3)),none⟩,
 ⟨some 26,.mv (.t 28),none⟩] [1,5,26])))
 (.cond (.t 26) (.ops [
 ⟨some 9,.mv (.c (.int .i64 6)),none⟩] [1,5,9])
 (.seq (.ops [
 ⟨some 6,.mv (.c (.slice none 0 0)),none⟩,
 ⟨some 7,.mv (.c (.int .i64 3)),none⟩] [6,7])
 .ret)))))))
 (.seq (.ops [
 ⟨some 10,.alloc 35 1 [.slice none 0 0],none⟩] [1,5,9,10])
 (.seq (.seq (.ops [
 ⟨some 29,.mv (.t 1),none⟩,
 ⟨some 30,.mv (.t 9),none⟩,
 ⟨some 31,.bsl false 3 1 1 [.int .i64 0] [(0,1,(.t 30))],none⟩,
 ⟨some 32,.call (.f 88) [(.t 29),(.t 31)],none⟩] [5,10,32])
 (.block 1 (.rng (.t 32) [33] (.ops [
 ⟨some 11,.alloc 68 38 z38,none⟩,
 ⟨none,.store 38 (.t 11) (.t 33),none⟩] [5,10,11])
 (.block 2 (.seq (.ops [
 ⟨some 34,.faddr 36 (.t 11),none⟩,
 ⟨some 35,.load (some 2) (.t 34),none⟩,
 ⟨some 36,.load (some 2) (.t 5),none⟩,
 ⟨some 37,.eqs false [some .i64,some .i64] (.t 35) (.t 36),none⟩] [5,10,11,37])
 (.cond (.t 37) (.draw [
 ⟨some 38,.load none (.t 10),none⟩,
 ⟨some 39,.load (some 38) (.t 11),none⟩,
 ⟨some 40,.call (.f 89) [(.t 39)],none⟩,
 ⟨some 41,.bsl false 29 2 1 [.int .i64 0,.int .i64 0] [(0,2,(.t 40))],none⟩] [
 ⟨some 42,.app 29 2 16 (.t 38) (.t 41),none⟩,
 ⟨none,.store 1 (.t 10) (.t 42),none⟩] [5,10])
 .skip))))))
 (.seq (.ops [
 ⟨some 43,.load none (.t 10),none⟩,
 ⟨some 6,.mv (.t 43),none⟩,
 ⟨some 7,.mv (.c (.int .i64 0)),none⟩] [6,7])
 .ret))))))),
 [.t 6,.t 7]⟩
theorem k25:chkF Tryz.prog Tryz.f25 c25=true:=by kernel_rfl
theorem ref_iff {a:Nt} {m:Nm}:(a.ref == m)=decide (a.ref.clerk=m.clerk∧a.ref.num=m.num):=by
  generalize a.ref=r
  cases r; cases m
  rw [Bool.eq_iff_iff]
  simp
theorem Chain_spec (b:Bse) (hb:bseSz b) (l:List Nt) (hl:setSz l) (m:Nm):Pure Tryz.prog 25 [.agg b.cs,ntS l,.agg m.cs] (.tup [nmS (chainE b l m).1,n (chainE b l m).2]):=by
  refine Pure.of_body Tryz.call25 Tryz.func25 k25 (Nat.le_of_ble_eq_true rfl) ?_
  unfold c25
  have h1:=asked_spec b hb [l] (by simp) (by simpa using hl)
  by_cases ha:askedE b [l]=0
  · rw [ha] at h1
    have hok:=(askedE_ok ha).2 l (by simp)
    have h400:=(setE_ok hok).2.1
    have hby:=byName_spec l hl
    have hA:=mget_kenc ntA m (byName l)
    cases hg:kget (byName l) m with
    | none =>
      rw [hg] at hA
      simp only [Nm.ky,Option.map_none] at hA
      have hE:chainE b l m=([],3):=by unfold chainE; rw [if_neg (by omega),hg]; rfl
      rw [hE]
      (repeat' ((first
 | refine vn rfl ?_
 | simp (disch:=omega) only [wr64,Int.zero_sub]
 | refine bo (fun _=>?_) fun _=>?_
 | refine im fun _=>?_
 | ((repeat refine si ?_); (first | ((first | refine .inl ⟨_,_,_,_,rfl,fun _=>pu (by first | exact h1 | exact hby),?_⟩ | refine ⟨_,_,_,_,rfl,fun _=>pu (by first | exact h1 | exact hby),?_⟩); (first | refine o1 ?_ | refine o2 ?_ | refine o3 ?_ | refine o4 ?_)) | refine .inl ⟨_,_,_,_,rfl,pu (by first | exact h1 | exact hby),?_⟩))
 | refine cF ?_
 | refine om ?_
 | refine an ?_
 | fail) <;> try simp only [zN,zT,zV,zS,zU,vcC,lateX,ex,strp,binA,elems,cells,scalar,eqC,keyA,intsA,lookA,ofVs,mpOf,zq0,zq1,zq2,zq3,zq4,zq5,zq6,reduceIte,hA]))
      all_goals try (exfalso; omega)
      all_goals exact Frz.tupL ⟨Frz.nil0,Frz.pure (by simp),trivial⟩
    | some a =>
      rw [hg] at hA
      simp only [Nm.ky,Option.map_some] at hA
      by_cases hk:a.kind=1∨a.kind=2∨a.kind=3
      · obtain ⟨k,hkk⟩:∃ k:Int,k=if a.kind=1 then 5 else 6:=⟨_,rfl⟩
        have hE:chainE b l m=(((standK l [k]).filter fun a=>a.ref == m).map Nt.nm,0):=by unfold chainE; simp only [hg,Option.getD_some]; rw [if_neg (by omega),if_pos hk,hkk]
        rw [hE]
        have hit:=stand_iter l h400 [k] (by simp) (inS [k]) (.inl rfl)
        have h2:=standing_spec l hl h400 (setE_nodup hok) [k] (inS [k]) (.inl rfl)
        have hlen:=standK_len l [k]
        generalize standK l [k]=S at hit hlen
        have hsw:(a.kind=1∧k=5)∨(a.kind=2∧k=6)∨(a.kind=3∧k=6):=by
          rcases hk with h | h | h
          · rw [if_pos h] at hkk; exact .inl ⟨h,hkk⟩
          · rw [if_neg (by omega)] at hkk; exact .inr (.inl ⟨h,hkk⟩)
          · rw [if_neg (by omega)] at hkk; exact .inr (.inr ⟨h,hkk⟩)
        clear hkk hk
        rcases hsw with ⟨hk,rfl⟩ | ⟨hk,rfl⟩ | ⟨hk,rfl⟩
        all_goals (
          (repeat' ((first
 | refine vn rfl ?_
 | simp (disch:=omega) only [wr64,Int.zero_sub]
 | refine bo (fun _=>?_) fun _=>?_
 | refine im fun _=>?_
 | ((repeat refine si ?_); (first | ((first | refine .inl ⟨_,_,_,_,rfl,fun _=>pu (by first | exact h1 | exact hby | exact h2),?_⟩ | refine ⟨_,_,_,_,rfl,fun _=>pu (by first | exact h1 | exact hby | exact h2),?_⟩); (first | refine o1 ?_ | refine o2 ?_ | refine o3 ?_ | refine o4 ?_)) | refine .inl ⟨_,_,_,_,rfl,pu (by first | exact h1 | exact hby | exact h2),?_⟩))
 | refine cF ?_
 | refine om ?_
 | refine an ?_
 | fail) <;> try simp only [zN, zT, zV, zS, zU, vcC, lateX, ex, strp, binA, elems, cells, scalar, eqC, keyA, intsA, lookA, ofVs, mpOf, zq0, zq1, zq2, zq3, zq4, zq5, zq6, reduceIte, hA, hk]))
          all_goals try (exfalso; omega)
          refine AWPC.own0c 29 2 (f:=0) (i:=0) (e:=0) (j:=0) rfl (by simp) rfl ?_
          refine AWPC.rng (fun R:{ R:List Nt // R.length≤S.length }=>[some [⟨35,1,[[.own 1 0 R.1.length]],none⟩],some [⟨29,2,R.1.map (fun a=>Nm.cs a.nm),none⟩]]) 2 (fun _=>rfl) (fun k x=>x.1=(S.take k).filter fun a=>a.ref == m) (fun _ _=>False) (ntTr S) ⟨[],Nat.zero_le _⟩
            rfl rfl rfl hit (fun k args h=>?_) (fun k x args ll ρ τ hk hx=>?_) (fun x τ hx=>?_) (fun _ _ _ h=>h.elim)
          · obtain ⟨a,_,rfl⟩:=ntTr_get h
            rfl
          · obtain ⟨R,hR⟩:=x
            simp only at hx
            obtain ⟨a,hs,rfl⟩:=ntTr_get hk
            have hnx:=filter_next (q:=fun a:Nt=>a.ref == m) hs
            have hRl:((S.take (k+1)).filter fun a:Nt=>a.ref == m).length≤S.length:=Nat.le_trans (List.length_filter_le _ _) (by rw [List.length_take]; omega)
            rw [← hx,ref_iff] at hnx
            simp only [par]
            generalize hM:(R.map fun a=>Nm.cs a.nm)=M
            have hMl:M.length=R.length:=by rw [← hM,List.length_map]
            simp only [hM,List.append_assoc,List.cons_append,List.nil_append]
            (repeat' ((first
 | refine vn rfl ?_
 | simp (disch:=omega) only [wr64,Int.zero_sub]
 | refine bo (fun _=>?_) fun _=>?_
 | refine im fun _=>?_
 | refine cF ?_
 | refine om ?_
 | refine an ?_
 | fail) <;> try simp only [zN, zT, zV, zS, zU, vcC, lateX, ex, strp, binA, elems, cells, scalar, eqC, keyA, intsA, lookA, ofVs, mpOf, zq0, zq1, zq2, zq3, zq4, zq5, zq6, reduceIte, List.append_assoc, List.cons_append, List.nil_append]))
            refine ⟨⟨R,hR⟩,[some [⟨68,38,[a.cs],none⟩]],by simp [hM],fun ρ'=>?_⟩
            simp only [List.append_assoc,List.cons_append,List.nil_append,hM]
            by_cases hrf:a.ref.clerk=m.clerk∧a.ref.num=m.num
            · rw [decide_eq_true hrf] at hnx
              simp only [if_true] at hnx
              (repeat' ((first
 | refine vn rfl ?_
 | simp (disch:=omega) only [wr64,Int.zero_sub]
 | refine bo (fun _=>?_) fun _=>?_
 | refine im fun _=>?_
 | ((repeat refine si ?_); (first | ((first | refine .inl ⟨_,_,_,_,rfl,fun _=>pu (name_spec a),?_⟩ | refine ⟨_,_,_,_,rfl,fun _=>pu (name_spec a),?_⟩); (first | refine o1 ?_ | refine o2 ?_ | refine o3 ?_ | refine o4 ?_)) | refine .inl ⟨_,_,_,_,rfl,pu (name_spec a),?_⟩))
 | refine cF ?_
 | refine om ?_
 | refine an ?_
 | fail) <;> try simp only [zN, zT, zV, zS, zU, vcC, lateX, ex, strp, binA, elems, cells, scalar, eqC, keyA, intsA, lookA, ofVs, mpOf, zq0, zq1, zq2, zq3, zq4, zq5, zq6, reduceIte, List.append_assoc, List.cons_append, List.nil_append, hMl, hrf]))
              all_goals try (exfalso; omega)
              refine ⟨⟨R++[a],by rw [← hnx]; exact hRl⟩,[],?_,hnx.symm⟩
              simp [← hM]
            · rw [decide_eq_false hrf] at hnx
              simp only [Bool.false_eq_true,if_false] at hnx
              (repeat' ((first
 | refine vn rfl ?_
 | simp (disch:=omega) only [wr64,Int.zero_sub]
 | refine bo (fun _=>?_) fun _=>?_
 | refine im fun _=>?_
 | ((repeat refine si ?_); (first | ((first | refine .inl ⟨_,_,_,_,rfl,fun _=>pu (name_spec a),?_⟩ | refine ⟨_,_,_,_,rfl,fun _=>pu (name_spec a),?_⟩); (first | refine o1 ?_ | refine o2 ?_ | refine o3 ?_ | refine o4 ?_)) | refine .inl ⟨_,_,_,_,rfl,pu (name_spec a),?_⟩))
 | refine cF ?_
 | refine om ?_
 | refine an ?_
 | fail) <;> try simp only [zN, zT, zV, zS, zU, vcC, lateX, ex, strp, binA, elems, cells, scalar, eqC, keyA, intsA, lookA, ofVs, mpOf, zq0, zq1, zq2, zq3, zq4, zq5, zq6, reduceIte, List.append_assoc, List.cons_append, List.nil_append, hMl, hrf]))
              all_goals try (exfalso; omega)
              refine ⟨⟨R,hR⟩,[],?_,hnx.symm⟩
              simp [← hM]
          · obtain ⟨R,hR⟩:=x
            simp only at hx
            have hll:(ntTr S).length=S.length:=by simp [ntTr]
            rw [hll,List.take_length] at hx
            simp only [zN,zT,zV,zS,zU,vcC,lateX,ex,strp,binA,elems,cells,scalar,eqC,keyA,intsA,lookA,ofVs,mpOf,zq0,zq1,zq2,zq3,zq4,zq5,zq6,reduceIte]
            (repeat' ((first
 | refine vn rfl ?_
 | simp (disch:=omega) only [wr64,Int.zero_sub]
 | refine bo (fun _=>?_) fun _=>?_
 | refine im fun _=>?_
 | refine cF ?_
 | refine om ?_
 | refine an ?_
 | fail) <;> try simp only [zN, zT, zV, zS, zU, vcC, lateX, ex, strp, binA, elems, cells, scalar, eqC, keyA, intsA, lookA, ofVs, mpOf, zq0, zq1, zq2, zq3, zq4, zq5, zq6, reduceIte]))
            rw [← hx]
            exact Frz.tupL ⟨by rw [nmS,List.map_map]; exact Frz.ownL (T:=29) (cs:=fun a:Nt=>Nm.cs a.nm) rfl rfl (by decide) (fun a c hc=>by simp at hc; rcases hc with rfl | rfl <;> simp) (fun a=>rfl),Frz.pure (by simp),trivial⟩)
      · have hE:chainE b l m=([],3):=by unfold chainE; simp only [hg,Option.getD_some]; rw [if_neg (by omega),if_neg hk]
        rw [hE]
        have hk1:¬ a.kind=1:=fun h=>hk (.inl h)
        have hk2:¬ a.kind=2:=fun h=>hk (.inr (.inl h))
        have hk3:¬ a.kind=3:=fun h=>hk (.inr (.inr h))
        (repeat' ((first
 | refine vn rfl ?_
 | simp (disch:=omega) only [wr64,Int.zero_sub]
 | refine bo (fun _=>?_) fun _=>?_
 | refine im fun _=>?_
 | ((repeat refine si ?_); (first | ((first | refine .inl ⟨_,_,_,_,rfl,fun _=>pu (by first | exact h1 | exact hby),?_⟩ | refine ⟨_,_,_,_,rfl,fun _=>pu (by first | exact h1 | exact hby),?_⟩); (first | refine o1 ?_ | refine o2 ?_ | refine o3 ?_ | refine o4 ?_)) | refine .inl ⟨_,_,_,_,rfl,pu (by first | exact h1 | exact hby),?_⟩))
 | refine cF ?_
 | refine om ?_
 | refine an ?_
 | fail) <;> try simp only [zN, zT, zV, zS, zU, vcC, lateX, ex, strp, binA, elems, cells, scalar, eqC, keyA, intsA, lookA, ofVs, mpOf, zq0, zq1, zq2, zq3, zq4, zq5, zq6, reduceIte, hA, hk1, hk2, hk3]))
        all_goals try (exfalso; omega)
        all_goals exact Frz.tupL ⟨Frz.nil0,Frz.pure (by simp),trivial⟩
  · have hE:chainE b l m=([],askedE b [l]):=by unfold chainE; rw [if_pos ha]
    rw [hE]
    (repeat' ((first
 | refine vn rfl ?_
 | simp (disch:=omega) only [wr64,Int.zero_sub]
 | refine bo (fun _=>?_) fun _=>?_
 | refine im fun _=>?_
 | ((repeat refine si ?_); (first | ((first | refine .inl ⟨_,_,_,_,rfl,fun _=>pu h1,?_⟩ | refine ⟨_,_,_,_,rfl,fun _=>pu h1,?_⟩); (first | refine o1 ?_ | refine o2 ?_ | refine o3 ?_ | refine o4 ?_)) | refine .inl ⟨_,_,_,_,rfl,pu h1,?_⟩))
 | refine cF ?_
 | refine om ?_
 | refine an ?_
 | fail) <;> try simp only [zN,zT,zV,zS,zU,vcC,lateX,ex,strp,binA,elems,cells,scalar,eqC,keyA,intsA,lookA,ofVs,mpOf,zq0,zq1,zq2,zq3,zq4,zq5,zq6,reduceIte]))
    all_goals try (exfalso; omega)
    exact Frz.tupL ⟨Frz.nil0,Frz.pure (by simp),trivial⟩
end Go.Proofs.YtolgelipcgcbhaaGreat
