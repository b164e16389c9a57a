/- Part 5 of the texts that the claim rests on: abstract values over the walk, and contracts of functions. -/
import Derived.Test.YtahkhnagpdlkiaaGreatBy4
import Derived.Shelf.SlGeneric
import Derived.Shelf.SlSortCmp.WholeK
import Derived.Shelf.Spec.SlicesGrow
import Derived.Test.YtahkhnagpdlkiaaGreatProg
import Derived.Test.YtahkhnagpdlkiaaGreatRows
import Derived.WalkKit
import Derived.Shelf.SlSortCmp.NoneTotal
namespace Go.Proofs.YtahkhnagpdlkiaaGreat
open Go.Shelf
def Tryz.sortS_ren:Go.Shelf.Ren:=⟨fun | 6=>165 | 15=>174 | 14=>173 | 28=>183 | 29=>184 | 20=>175 | 21=>176 | 22=>177 | 23=>178 | 24=>179 | 25=>180 | 26=>181 | 27=>182 | 46=>185 | 47=>186 | 48=>187 | 49=>188 | 50=>189 | 57=>190 | n=>n,fun | 22=>45 | 24=>30 | 25=>143 | 3=>3 | 39=>174 | 0=>0 | 53=>184 | 55=>186 | 4=>4 | 46=>177 | 45=>176 | 50=>181 | 5=>5 | 9=>9 | 66=>187 | 70=>191 | 76=>193 | 77=>194 | n=>n,fun | n=>n⟩
theorem Tryz.sortS:Go.Proofs.SlLaysF0.n6 Tryz.prog Tryz.sortS_ren:={
  mixed:=by kernel_rfl
  f6:=⟨Tryz.f165.name,by decide,Tryz.func165.trans (congrArg some (by kernel_rfl))⟩
  f14:=⟨Tryz.f173.name,by decide,Tryz.func173.trans (congrArg some (by kernel_rfl))⟩
  f15:=Tryz.func174.trans (congrArg some (by kernel_rfl))
  f20:=⟨Tryz.f175.name,by decide,Tryz.func175.trans (congrArg some (by kernel_rfl))⟩
  f21:=⟨Tryz.f176.name,by decide,Tryz.func176.trans (congrArg some (by kernel_rfl))⟩
  f22:=⟨Tryz.f177.name,by decide,Tryz.func177.trans (congrArg some (by kernel_rfl))⟩
  f23:=⟨Tryz.f178.name,by decide,Tryz.func178.trans (congrArg some (by kernel_rfl))⟩
  f24:=⟨Tryz.f179.name,by decide,Tryz.func179.trans (congrArg some (by kernel_rfl))⟩
  f25:=⟨Tryz.f180.name,by decide,Tryz.func180.trans (congrArg some (by kernel_rfl))⟩
  f26:=⟨Tryz.f181.name,by decide,Tryz.func181.trans (congrArg some (by kernel_rfl))⟩
  f27:=⟨Tryz.f182.name,by decide,Tryz.func182.trans (congrArg some (by kernel_rfl))⟩
  f28:=Tryz.func183.trans (congrArg some (by kernel_rfl))
  f29:=Tryz.func184.trans (congrArg some (by kernel_rfl))
  f46:=⟨Tryz.f185.name,by decide,Tryz.func185.trans (congrArg some (by kernel_rfl))⟩
  f47:=Tryz.func186.trans (congrArg some (by kernel_rfl))
  f48:=Tryz.func187.trans (congrArg some (by kernel_rfl))
  f49:=⟨Tryz.f188.name,by decide,Tryz.func188.trans (congrArg some (by kernel_rfl))⟩
  f50:=⟨Tryz.f189.name,by decide,Tryz.func189.trans (congrArg some (by kernel_rfl))⟩
  f57:=⟨Tryz.f190.name,by decide,Tryz.func190.trans (congrArg some (by kernel_rfl))⟩
  t0:=Tryz.underlying0
  a0:=Tryz.isAgg0
  z0:=Tryz.sizeOf0
  v0:=Tryz.zeroValue0
  t3:=Tryz.underlying3
  a3:=Tryz.isAgg3
  z3:=Tryz.sizeOf3
  v3:=Tryz.zeroValue3
  t4:=Tryz.underlying4
  a4:=Tryz.isAgg4
  z4:=Tryz.sizeOf4
  v4:=Tryz.zeroValue4
  t5:=Tryz.underlying5
  a5:=Tryz.isAgg5
  z5:=Tryz.sizeOf5
  v5:=Tryz.zeroValue5
  t9:=Tryz.underlying9
  a9:=Tryz.isAgg9
  z9:=Tryz.sizeOf9
  v9:=Tryz.zeroValue9
  t22:=Tryz.underlying45
  a22:=Tryz.isAgg45
  z22:=Tryz.sizeOf45
  v22:=Tryz.zeroValue45
  t25:=Tryz.underlying143
  a25:=Tryz.isAgg143
  z25:=Tryz.sizeOf143
  v25:=Tryz.zeroValue143
  t39:=Tryz.underlying174
  a39:=Tryz.isAgg174
  z39:=Tryz.sizeOf174
  v39:=Tryz.zeroValue174
  t45:=Tryz.underlying176
  a45:=Tryz.isAgg176
  z45:=Tryz.sizeOf176
  v45:=Tryz.zeroValue176
  t46:=Tryz.underlying177
  a46:=Tryz.isAgg177
  z46:=Tryz.sizeOf177
  v46:=Tryz.zeroValue177
  t50:=Tryz.underlying181
  a50:=Tryz.isAgg181
  z50:=Tryz.sizeOf181
  v50:=Tryz.zeroValue181
  t53:=Tryz.underlying184
  a53:=Tryz.isAgg184
  z53:=Tryz.sizeOf184
  v53:=Tryz.zeroValue184
  t55:=Tryz.underlying186
  a55:=Tryz.isAgg186
  z55:=Tryz.sizeOf186
  v55:=Tryz.zeroValue186
  t66:=Tryz.underlying187
  a66:=Tryz.isAgg187
  z66:=Tryz.sizeOf187
  v66:=Tryz.zeroValue187
  t70:=Tryz.underlying191
  a70:=Tryz.isAgg191
  z70:=Tryz.sizeOf191
  v70:=Tryz.zeroValue191
  t76:=Tryz.underlying193
  a76:=Tryz.isAgg193
  z76:=Tryz.sizeOf193
  v76:=Tryz.zeroValue193
  t77:=Tryz.underlying194
  a77:=Tryz.isAgg194
  z77:=Tryz.sizeOf194
  v77:=Tryz.zeroValue194 }
def Tryz.growS_ren:Go.Shelf.Ren:=⟨fun | 4=>145 | n=>n,fun | 22=>45 | 25=>30 | 3=>3 | 4=>4 | 9=>9 | 20=>20 | 0=>0 | 2=>3 | n=>n,fun | n=>n⟩
theorem Tryz.growS:Go.Proofs.Lays8.n4 Tryz.prog Tryz.growS_ren:={
  mixed:=by kernel_rfl
  f4:=⟨Tryz.f145.name,by decide,Tryz.func145.trans (congrArg some (by kernel_rfl))⟩
  t0:=Tryz.underlying0
  a0:=Tryz.isAgg0
  z0:=Tryz.sizeOf0
  v0:=Tryz.zeroValue0
  t3:=Tryz.underlying3
  a3:=Tryz.isAgg3
  z3:=Tryz.sizeOf3
  v3:=Tryz.zeroValue3
  t4:=Tryz.underlying4
  a4:=Tryz.isAgg4
  z4:=Tryz.sizeOf4
  v4:=Tryz.zeroValue4
  t9:=Tryz.underlying9
  a9:=Tryz.isAgg9
  z9:=Tryz.sizeOf9
  v9:=Tryz.zeroValue9
  t20:=Tryz.underlying20
  a20:=Tryz.isAgg20
  z20:=Tryz.sizeOf20
  v20:=Tryz.zeroValue20
  t22:=Tryz.underlying45
  a22:=Tryz.isAgg45
  z22:=Tryz.sizeOf45
  v22:=Tryz.zeroValue45 }
end Go.Proofs.YtahkhnagpdlkiaaGreat
namespace Go.Proofs.YtahkhnagpdlkiaaGreat
open Go.Abs
open Nat (reduceAdd reduceSub reduceLT reduceLeDiff reduceMul reduceEqDiff)
set_option linter.unusedVariables false
set_option linter.unusedSimpArgs false
set_option maxHeartbeats 4000000
set_option maxRecDepth 100000
open Go.Shelf Go.RowKit Go.Lib Go.Sort
abbrev Sb:Type:=Sp
instance:Inhabited Sb:=⟨⟨0,0⟩⟩
def encS (x:Sb):List Value:=[.int .i64 x.lo,.int .i64 x.hi]
def cfS (x y:Sb):Int:=if x.lo < y.lo then -1 else if y.lo < x.lo then 1 else 0
theorem ltS (x y:Sb):ltOf cfS x y=decide (x.lo < y.lo):=by
  unfold ltOf cfS
  rw [decide_eq_decide]
  repeat' split
  all_goals omega
theorem swoS:SWO (ltOf cfS) where
  irrefl x:=by rw [ltS]; simp
  trans x y z h1 h2:=by rw [ltS] at *; simp at *; omega
  ntrans x y z h1 h2:=by rw [ltS] at *; simp at *; omega
set_option maxHeartbeats 4000000 in
theorem closure138 (x y:Sb) (W:World):Calls Tryz.prog 138 #[.agg #[.int .i64 x.lo,.int .i64 x.hi],.agg #[.int .i64 y.lo,.int .i64 y.hi]] W fun e w'=>e=.returned (.int .i64 (cfS x y))∧∃ q os',w'=grow (W.drewN q) os':=by
  obtain ⟨a,b⟩:=x
  obtain ⟨c,d⟩:=y
  unfold cfS
  go_enter Tryz.func138,Tryz.ntmps138
  go_wp2
  all_goals go_ret
  all_goals exact ⟨by simp,0,_,by rw [alloc_eq_grow,alloc_eq_grow,grow_grow]; rfl⟩
theorem cmpLaysS (blk off size:Nat) (w:World):CmpLays Tryz.prog 138 #[] encS 2 cfS blk off size w :=
  fun _ _ _ _ x y=>closure138 x y _
theorem isAgg30 (w:World):(isAgg 30).run Tryz.prog w=.ok true w:=by simp [isAgg,run_underlying Tryz.underlying30]
theorem sizeOf30 (w:World):(Go.sizeOf 30).run Tryz.prog w=.ok 2 w:=by
  have h:szF Tryz.prog 30=some 2:=by kernel_rfl
  obtain ⟨i,hi,h2⟩:=sz_parts h
  simp [Go.sizeOf,typeInfo,hi,h2]
theorem sort_calls (blk off cap:Nat) (d:Array Sb) (w:World) (hH:HoldsK encS 2 w blk off d) (hblk:blk < w.heap.size) (hsz:d.size < 4611686018427387904) :
    Calls Tryz.prog 165 #[.slice (some ⟨blk,off,none⟩) d.size cap,.func (.func 138) #[] #[]] w fun e w'=>e=.returned (.tuple #[])∧∃ d' n os,PermIn 0 d.size d d'∧SortedIn (ltOf cfS) 0 d.size d'∧w'=sortWorldK encS 2 w blk off n d' os:=by
  have h:=AnyQ.slices_SortFunc Tryz.sortS 2 isAgg30 sizeOf30 encS (fun _=>rfl) (fun x v hv=>by simp [encS] at hv; rcases hv with rfl | rfl <;> rfl) cfS swoS 138 #[] blk off cap d w (fun xs w=>Tryz.call138 xs w) (cmpLaysS blk off d.size w) hH hblk hsz
  exact h
theorem sorted_block {w:World} {b n:Nat} {d d':Array Sb} {os:Array Obj} {c:Array Value} {T:TypeId} (hc:w.heap[b]?=some (.cells c T (0,0))) (hs:d'.size=d.size) (hH:HoldsK encS 2 w b 0 d) :
    (∃ c',(sortWorldK encS 2 w b 0 n d' os).heap[b]?=some (.cells c' T (0,0))∧c'.size=c.size∧∀ i j,i < d.size→j < 2→c'.getD (i * 2+j) undef=((encS d'[i]!).getD j undef)) ∧
    w.heap.size≤(sortWorldK encS 2 w b 0 n d' os).heap.size∧(∀ b',b' < w.heap.size→b'≠b→(sortWorldK encS 2 w b 0 n d' os).heap[b']?=w.heap[b']?)∧Still w (sortWorldK encS 2 w b 0 n d' os):=by
  have hb:b < w.heap.size:=(Array.getElem?_eq_some_iff.1 hc).1
  have hput:∀ b',(putRowK encS 2 (Sort.ahead w n) b 0 d').heap[b']?=if b=b' then (w.heap[b']?).map (onCells (putCells id 0 (flatK encS 2 d'))) else w.heap[b']?:=by
    intro b'
    simp only [putRowK,putRow,mapBlock,Sort.ahead]
    rw [Array.getElem?_modify]
  refine ⟨?_,by simp [sortWorldK,putRowK],fun b' h1 h2=>?_,⟨rfl,rfl,rfl⟩⟩
  · refine ⟨putCells id 0 (flatK encS 2 d') c,?_,?_,fun i j hi hj=>?_⟩
    · unfold sortWorldK
      rw [heap_grow_old _ _ (by simp [putRowK]; exact hb),hput,if_pos rfl,hc]
      rfl
    · simp [putCells]
    · have h1:=holdsK_putRowK (enc:=encS) (k:=2) (Sort.ahead w n) b 0 d d' (show HoldsK encS 2 (Sort.ahead w n) b 0 d from hH) hs
      have h2:=(h1.cell (i:=i) (c:=j) (by omega) hj).1
      unfold World.cell? at h2
      rw [hput,if_pos rfl,hc] at h2
      simp only [Option.map_some,onCells,Option.isSome_none,Bool.false_eq_true,if_false,Nat.zero_add] at h2
      rw [Array.getD_eq_getD_getElem?,h2]
      match j,hj with
      | 0,_=>rfl
      | 1,_=>rfl
  · unfold sortWorldK
    rw [heap_grow_old _ _ (by simp [putRowK]; exact h1),hput,if_neg (fun e=>h2 e.symm)]
theorem sorted_rows {d d':Array Sb} (hp:PermIn 0 d.size d d') (hs:SortedIn (ltOf cfS) 0 d.size d'):d'.size=d.size∧d'.toList.Perm d.toList∧(d'.toList).Pairwise (fun a b=>a.lo≤b.lo):=by
  obtain ⟨h1,_,h3⟩:=hp
  refine ⟨h1,?_,?_⟩
  · simp only [Array.toList_extract,List.extract_eq_take_drop,Nat.sub_zero,List.drop_zero] at h3
    rw [List.take_of_length_le (by simp [h1]),List.take_of_length_le (by simp)] at h3
    exact h3
  · rw [List.pairwise_iff_getElem]
    intro i j hi hj hij
    simp only [List.length_map,Array.length_toList] at hi hj
    have:=hs i j (Nat.zero_le _) hij (by omega)
    rw [ltS,decide_eq_false_iff_not,getElem!_pos d' i hi,getElem!_pos d' j hj] at this
    simp only [List.getElem_map,Array.getElem_toList]
    omega
theorem sort_does (σ:Sto) (f:Nat) (l:List Sp) (hf:σ.at f 0=some ⟨30,2,l.map Sp.cs,none⟩) (hl:l.length < 4611686018427387904) :
    Does Tryz.prog 165 [.own f 0 l.length,.fn (.func 138) [] []] σ (fun _ σ'=>∃ l':List Sp,l'.Perm l∧l'.Pairwise (fun a b=>a.lo≤b.lo)∧σ'=σ.upd f 0 ⟨30,2,l'.map Sp.cs,none⟩):=by
  refine ⟨Tryz.call165,fun X β w xs hX hsr hlen hr=>?_⟩
  match xs,hlen with
  | [x,y],_ =>
    have hx:=hr 0 (by simp)
    have hy:=hr 1 (by simp)
    simp only [List.getD_cons_zero,List.getD_cons_succ] at hx hy
    have hy':y=.func (.func 138) #[] #[]:=by
      cases hy with
      | fn _ _ _ xs ys hn hm h h' =>
        have e1:xs=#[]:=Array.eq_empty_of_size_eq_zero (by simpa using hn)
        have e2:ys=#[]:=Array.eq_empty_of_size_eq_zero (by simpa using hm)
        rw [e1,e2]
    subst hy'
    have hob:=hsr.obj f 0 _ hf
    cases hx with
    | own _ _ _ _ h1c hflt hle h =>
      have h':=h _ hf (by simp)
      unfold OwnSl at h'
      by_cases h0:l=[]
      · subst h0
        have hemp:∃ p cap,x=.slice p 0 cap:=by
          cases hbf:β f 0 with
          | none=>rw [hbf] at h'; exact ⟨none,0,h'.2⟩
          | some b=>rw [hbf] at h'; obtain ⟨cap,_,_,rfl,_⟩:=h'; exact ⟨_,cap,rfl⟩
        obtain ⟨p,cap,rfl⟩:=hemp
        refine callsIn_wide.2 ((AnyF.slices_SortFunc_none Tryz.sortS p cap _ w).mono ?_)
        rintro e w' ⟨rfl,rfl⟩
        exact ⟨_,.any,σ,β,rfl,⟨[],.nil,.nil,(upd_self hf).symm⟩,hsr,.any _,Ext.refl _ _ _,Kp.refl⟩
      · cases hbf:β f 0 with
        | none =>
          rw [hbf] at h'
          exact absurd (List.map_eq_nil_iff.1 h'.1) h0
        | some b =>
          rw [hbf] at h' hob
          obtain ⟨cap,c0,T0,rfl,hc0,hcs⟩:=h'
          obtain ⟨c,hc,hsz,hone,hrv⟩:=hob.2.1 rfl
          rw [hc] at hc0; injection hc0 with hc0; injection hc0 with hc0 _; subst hc0
          simp only [List.length_map] at hsz hone hrv hcs ⊢
          let d:Array Sb:=l.toArray
          have hds:d.size=l.length:=by simp [d]
          have hdl:d.toList=l:=by simp [d,List.map_map,Function.comp_def]
          have hdg:∀ i,i < l.length→∃ s,l[i]?=some s∧d[i]! = s:=by
            intro i hi
            refine ⟨_,List.getElem?_eq_getElem hi,?_⟩
            rw [getElem!_pos d i (by omega)]
            simp [d]
          have hcell:∀ i j,i < l.length→j < 2→c.getD (i * 2+j) undef=(encS d[i]!).getD j undef:=by
            intro i j hi hj
            obtain ⟨s,hs,hds⟩:=hdg i hi
            have:=hrv i j hi hj
            rw [getD_map hs] at this
            unfold encS
            rw [hds]
            match j,hj with
            | 0,_=>exact this.inv_v
            | 1,_=>exact this.inv_v
          have hH:HoldsK encS 2 w b 0 d:=by
            intro t ht
            rw [size_flatK,hds] at ht
            have ht2:t / 2 * 2+t % 2=t:=by omega
            have hm:t % 2 < 2:=Nat.mod_lt _ (by decide)
            have h1:=hcell (t / 2) (t % 2) (by omega) hm
            rw [ht2] at h1
            have h2:c[t]?=some (c.getD t undef):=by
              rw [Array.getD_eq_getD_getElem?,Array.getElem?_eq_getElem (by omega)]; rfl
            have h3:(encS d[t / 2]!).getD (t % 2) undef=(encS d[t / 2]!)[t % 2]! := by
              generalize t % 2=m at hm
              match m,hm with
              | 0,_=>rfl
              | 1,_=>rfl
            refine ⟨?_,?_⟩
            · unfold World.cell?
              rw [hc]
              simp only [Option.isSome_none,Bool.false_eq_true,if_false,Nat.zero_add,id_eq]
              rw [h2,get_flatK _ _ _ _ (by rw [hds]; exact ht),h1,h3]
            · unfold World.frozen?
              rw [hc]
              simp
          have hblk:b < w.heap.size:=(Array.getElem?_eq_some_iff.1 hc).1
          have hcon:=sort_calls b 0 cap d w hH hblk (by omega)
          rw [hds] at hcon
          refine callsIn_wide.2 (hcon.mono ?_)
          rintro e w' ⟨rfl,d',n,os,hp,hs,rfl⟩
          rw [← hds] at hp hs
          obtain ⟨e1,e2,e3⟩:=sorted_rows hp hs
          obtain ⟨⟨c',hc',hcsz,hcg⟩,hge,hold,hstill⟩:=sorted_block (n:=n) (os:=os) hc e1 hH
          have hl':(d'.toList).length=l.length:=by simp [e1,hds]
          have hperm:(d'.toList).Perm l:=by
            have:=e2
            rw [hdl] at this; exact this
          have ht:Turn w β f 0 (some b) (sortWorldK encS 2 w b 0 n d' os):=⟨hge,fun b' h1 h2=>hold b' h1 (fun e=>h2 (by rw [hbf,e])),fun b' hb'=>.inl (by rw [hbf]; exact hb'),hstill⟩
          have hsame:(⟨30,2,l.map Sp.cs,none⟩:Ob).es.length=(⟨30,2,(d'.toList).map Sp.cs,none⟩:Ob).es.length→some b=β f 0∧∀ b',β f 0=some b'→SameSize w (sortWorldK encS 2 w b 0 n d' os) b':=fun _ =>
            ⟨hbf.symm,fun b' hb' cc T hcc=>by
              rw [hbf] at hb'; injection hb' with hb'; subst hb'
              rw [hc] at hcc; injection hcc with hcc; injection hcc with hcc hT; subst hcc; subst hT
              exact ⟨c',_,hc',hcsz⟩⟩
          have hlen2:(⟨30,2,l.map Sp.cs,none⟩:Ob).es.length≤(⟨30,2,(d'.toList).map Sp.cs,none⟩:Ob).es.length:=by simp [e1,hds]
          have K:=Kp.turn (o':=⟨30,2,(d'.toList).map Sp.cs,none⟩) hsr hf ht rfl hlen2 hsame
          have S:=hsr.turn (o':=⟨30,2,(d'.toList).map Sp.cs,none⟩) hX hf ht rfl hlen2 hsame (by
            refine ⟨fun e he=>?_,fun _=>⟨c',hc',by simp [e1,hds]; omega,fun e j he hj=>?_,fun e j he hj=>?_⟩,fun r hr=>by cases hr⟩
            · obtain ⟨s,hs⟩:∃ s,(d'.toList)[e]?=some s:=⟨_,List.getElem?_eq_getElem (by simpa using he)⟩
              rw [getD_map hs]; rfl
            · have he':e < d.size:=by simpa [e1] using he
              rw [hcg e j he' hj]
              match j,hj with
              | 0,_=>rfl
              | 1,_=>rfl
            · have he':e < d.size:=by simpa [e1] using he
              have he2:e < d'.size:=by omega
              rw [hcg e j he' hj]
              have hs:(d'.toList)[e]?=some d'[e]! := by
                rw [getElem!_pos d' e he2]; simp [he2]
              rw [getD_map hs]
              match j,hj with
              | 0,_=>exact .v _
              | 1,_=>exact .v _)
          exact ⟨_,.any,_,_,rfl,⟨d'.toList,hperm,e3,rfl⟩,S,.any _,Ext.turn hf ht,K⟩
theorem grow_does (σ:Sto) (z:Int) (h0:0≤z) (h1:z * 16≤140737488355328) :
    Does Tryz.prog 145 [.v (.slice none 0 0),n z] σ (fun r σ'=>r=.own σ.length 0 0∧σ'=σ++[some [⟨30,2,[],none⟩]]):=by
  refine ⟨Tryz.call145,fun X β w xs hX hsr hlen hr=>?_⟩
  match xs,hlen with
  | [x,y],_ =>
    have hx:=(hr 0 (by simp)).inv_v
    have hy:=(hr 1 (by simp)).inv_v
    simp only [List.getD_cons_zero,List.getD_cons_succ] at hx hy
    subst hx; subst hy
    by_cases hz:z=0
    · subst hz
      refine callsIn_wide.2 ((Any8.slices_Grow_room Tryz.growS none 0 0 0 w (Nat.le_refl _) (by decide) (by decide) (Nat.le_refl _)).mono ?_)
      rintro e w' ⟨rfl,rfl⟩
      exact ⟨_,_,_,_,rfl,⟨rfl,rfl⟩,hsr.own0 hX,RV.own0 rfl,Ext.push (Nat.le_refl _) (fun _ _=>rfl) (fun b hb=>by cases hb),Kp.own0 hsr⟩
    · obtain ⟨i0,hi0,hs2⟩:=sz_parts (show szF Tryz.prog 30=some 2 by kernel_rfl)
      have hzr:zrF Tryz.prog 30=some [.int .i64 0,.int .i64 0]:=by kernel_rfl
      have hby:(Tryz.prog.info? 30).map (·.bytes)=some 16:=by kernel_rfl
      rw [hi0] at hby
      simp only [Option.map_some,Option.some.injEq] at hby
      unfold zrF at hzr
      rw [hi0] at hzr
      simp only [Option.bind_some,Option.map_eq_some_iff] at hzr
      obtain ⟨z0,hz0,hzc⟩:=hzr
      have hzn:(z.toNat:Int)=z:=by omega
      have hg:=Any8.slices_Grow_grow Tryz.growS i0 z0 hi0 hz0 (by omega) none 0 0 z.toNat [] w (Nat.le_refl _) (by omega) (by rw [hby]; omega) (by omega) (by simp) (fun _=>rfl) (fun a h=>by cases h)
      have hge:=grownCap_ge w (0+z.toNat) 0 30
      refine callsIn_wide.2 ?_
      change Calls Tryz.prog 145 #[.slice none 0 0,.int .i64 z] w _
      rw [hzn] at hg
      refine Calls.mono hg ?_
      rintro e w' ⟨rfl,rfl⟩
      change grownCap w (0+z.toNat) 0 30≥_ at hge
      have hzs:z0.cells.size=2:=by rw [← Array.length_toList,hzc]; rfl
      have hsz:w.heap.size≤(w.drew.alloc (.cells ((#[]:Array Value)++Builtin.zeroCells z0.cells (0+z.toNat - 0)++Builtin.zeroCells z0.cells (grownCap w (0+z.toNat) 0 30 - (0+z.toNat))) 30)).heap.size:=by rw [alc_size]; exact Nat.le_succ _
      have hold:∀ b,b < w.heap.size→(w.drew.alloc (.cells ((#[]:Array Value)++Builtin.zeroCells z0.cells (0+z.toNat - 0)++Builtin.zeroCells z0.cells (grownCap w (0+z.toNat) 0 30 - (0+z.toNat))) 30)).heap[b]?=w.heap[b]?:=fun b hb=>alc_old w.drew _ hb
      have hnew:(w.drew.alloc (.cells ((#[]:Array Value)++Builtin.zeroCells z0.cells (0+z.toNat - 0)++Builtin.zeroCells z0.cells (grownCap w (0+z.toNat) 0 30 - (0+z.toNat))) 30)).heap[w.heap.size]?=some (.cells ((#[]:Array Value)++Builtin.zeroCells z0.cells (0+z.toNat - 0)++Builtin.zeroCells z0.cells (grownCap w (0+z.toNat) 0 30 - (0+z.toNat))) 30):=alc_new w.drew _
      have hcsz:((#[]:Array Value)++Builtin.zeroCells z0.cells (0+z.toNat - 0)++Builtin.zeroCells z0.cells (grownCap w (0+z.toNat) 0 30 - (0+z.toNat))).size=grownCap w (0+z.toNat) 0 30 * 2:=by
        simp only [Array.size_append,zeroCells_size,hzs]
        simp only [List.size_toArray,List.length_nil]
        omega
      have hbo:∀ b,some w.heap.size=some b→b=w.heap.size:=fun b hb=>by injection hb with hb; exact hb.symm
      have K:=Kp.push (o:=⟨30,2,[],none⟩) (bo:=some w.heap.size) hsr hsz hold hbo
      have S:=hsr.push (o:=⟨30,2,[],none⟩) (bo:=some w.heap.size) hX hsz hold hbo ⟨fun e he=>absurd he (Nat.not_lt_zero _),fun _=>⟨_,hnew,by simp,fun e j he=>absurd he (Nat.not_lt_zero _),fun e j he=>absurd he (Nat.not_lt_zero _)⟩,fun r hr=>by cases hr⟩
      refine ⟨_,_,_,_,rfl,⟨rfl,rfl⟩,S,?_,Ext.push hsz hold hbo ⟨rfl,rfl,rfl⟩,K⟩
      refine .own _ _ _ _ rfl (by simp) (fun o _=>Nat.zero_le _) fun o ho _=>?_
      rw [at_push_new] at ho; simp at ho; subst ho
      unfold OwnSl; rw [addB_new]
      exact ⟨_,_,_,rfl,hnew,hcsz⟩
end Go.Proofs.YtahkhnagpdlkiaaGreat
namespace Go.Proofs.YtahkhnagpdlkiaaGreat
open Go.Abs
open Nat (reduceAdd reduceSub reduceLT reduceLeDiff reduceMul reduceEqDiff)
set_option linter.unusedVariables false
set_option linter.unusedSimpArgs false
set_option maxHeartbeats 4000000
set_option maxRecDepth 100000
def c137:CF:=⟨12,
 (.seq (.ops [
 ⟨some 4,.mv (.c (.slice none 0 0)),none⟩] [0,1])
 (.seq (.ops [
 ⟨some 6,.mv (.t 0),none⟩,
 ⟨some 7,.call (.f 140) [(.t 6)],none⟩,
 ⟨some 5,.mv (.t 7),none⟩] [1,5])
 (.seq (.ops [
 ⟨some 8,.mv (.t 5),none⟩,
 ⟨some 9,.mv (.t 1),none⟩,
 ⟨some 10,.call (.f 165) [(.t 8),(.t 9)],none⟩] [5])
 (.seq (.ops [
 ⟨some 11,.mv (.t 5),none⟩,
 ⟨some 4,.mv (.t 11),none⟩] [4])
 .ret)))),
 [.t 4]⟩
def c79:CF:=⟨52,
 (.seq (.ops [
 ⟨some 2,.mv (.c (.slice none 0 0)),none⟩] [0])
 (.seq (.ops [
 ⟨some 8,.mv (.t 0),none⟩,
 ⟨some 9,.call (.f 137) [(.t 8),(.f 138)],none⟩,
 ⟨some 3,.mv (.t 9),none⟩] [3])
 (.seq (.ops [
 ⟨some 4,.mv (.c (.slice none 0 0)),none⟩] [3,4])
 (.seq (.seq (.ops [
 ⟨some 10,.mv (.t 3),none⟩,
 ⟨some 11,.len (.t 10),none⟩,
 ⟨some 12,.mv (.c (.int .i64 0)),none⟩] [4,10,11,12])
 (.block 0 (.loop (.seq (.ops [
 ⟨some 13,.bin .lss (.t 12) (.t 11),none⟩] [4,10,11,12,13])
 (.seq (.cond (.t 13) .skip
 (.exit 0))
 (.seq (.block 1 (.seq (.ops [
 ⟨some 14,.iaddr 2 (.t 10) (.t 12),none⟩,
 ⟨some 15,.load (some 2) (.t 14),none⟩,
 ⟨some 6,.alloc 30 2 [.int .i64 0,.int .i64 0],none⟩,
 ⟨none,.store 2 (.t 6) (.t 15),none⟩] [4,6,10,11,12])
 (.seq (.ops [
 ⟨some 16,.mv (.t 4),none⟩,
 ⟨some 17,.len (.t 16),none⟩,
 ⟨some 7,.mv (.t 17),none⟩] [4,6,7,10,11,12])
 (.seq (.draw [
 ⟨some 18,.mv (.t 7),none⟩,
 ⟨some 19,.bin .gtr (.t 18) (.c (.int .i64 0)),none⟩,
 ⟨some 20,.mv (.t 19),none⟩,
 ⟨some 21,.faddr 0 (.t 6),some (20,true)⟩,
 ⟨some 22,.load none (.t 21),some (20,true)⟩,
 ⟨some 23,.mv (.t 4),some (20,true)⟩,
 ⟨some 24,.mv (.t 7),some (20,true)⟩,
 ⟨some 25,.bin .sub (.t 24) (.c (.int .i64 1)),some (20,true)⟩,
 ⟨some 26,.iaddr 2 (.t 23) (.t 25),some (20,true)⟩,
 ⟨some 27,.faddr 1 (.t 26),some (20,true)⟩,
 ⟨some 28,.load none (.t 27),some (20,true)⟩,
 ⟨some 29,.bin .add (.t 28) (.c (.int .i64 1)),some (20,true)⟩,
 ⟨some 30,.bin .leq (.t 22) (.t 29),some (20,true)⟩,
 ⟨some 31,.pick (.t 20) (.t 30) (.c (.bool false)),none⟩] [
 ] [4,6,7,10,11,12,31])
 (.cond (.t 31) (.draw [
 ⟨some 32,.mv (.t 4),none⟩,
 ⟨some 33,.mv (.t 7),none⟩,
 ⟨some 34,.bin .sub (.t 33) (.c (.int .i64 1)),none⟩,
 ⟨some 35,.mv (.t 4),none⟩,
 ⟨some 36,.mv (.t 7),none⟩,
 ⟨some 37,.bin .sub (.t 36) (.c (.int .i64 1)),none⟩,
 ⟨some 38,.iaddr 2 (.t 35) (.t 37),none⟩,
 ⟨some 39,.faddr 1 (.t 38),none⟩,
 ⟨some 40,.load none (.t 39),none⟩,
 ⟨some 41,.faddr 1 (.t 6),none⟩,
 ⟨some 42,.load none (.t 41),none⟩,
 ⟨some 43,.mnx true (.t 40) (.t 42),none⟩,
 ⟨some 44,.iaddr 2 (.t 32) (.t 34),none⟩,
 ⟨some 45,.faddr 1 (.t 44),none⟩] [
 ⟨none,.store 1 (.t 45) (.t 43),none⟩] [4,10,11,12])
 (.ops [
 ⟨some 46,.mv (.t 4),none⟩,
 ⟨some 47,.load (some 2) (.t 6),none⟩,
 ⟨some 48,.bsl false 30 2 1 [.int .i64 0,.int .i64 0] [(0,2,(.t 47))],none⟩,
 ⟨some 49,.app 30 2 16 (.t 46) (.t 48),none⟩,
 ⟨some 4,.mv (.t 49),none⟩] [4,10,11,12]))))))
 (.ops [
 ⟨some 50,.bin .add (.t 12) (.c (.int .i64 1)),none⟩,
 ⟨some 12,.mv (.t 50),none⟩] [4,10,11,12])))))))
 (.seq (.ops [
 ⟨some 51,.mv (.t 4),none⟩,
 ⟨some 2,.mv (.t 51),none⟩] [2])
 .ret))))),
 [.t 2]⟩
theorem k137:chkF Tryz.prog Tryz.f137 c137=true:=by kernel_rfl
theorem k79:chkF Tryz.prog Tryz.f79 c79=true:=by kernel_rfl
inductive OwnP (σ:Sto) (Q:List Sp→Prop) (r:AV) (σ':Sto):Prop
  | mk (ν:Sto) (g:Nat) (l:List Sp) (hq:Q l) (h:σ'=σ++ν) (hr:r=.own g 0 l.length) (hg:σ.length≤g) (ho:σ'.at g 0=some (spO l))
theorem sorted_does (σ:Sto) (it:Nat) (cap:List AV) (l:List Sp) (hl:(l.length:Int) * 16≤140737488355328) (hit:Iter Tryz.prog it [] cap (rds l)) :
    Does Tryz.prog 137 [.fn (.func it) [] cap,.fn (.func 138) [] []] σ (OwnP σ fun l'=>l'.Perm l∧l'.Pairwise (fun a b=>a.lo≤b.lo)):=by
  refine Does.of_body Tryz.call137 Tryz.func137 k137 (Nat.le_of_ble_eq_true rfl) ?_
  unfold c137
  (repeat' ((first
 | refine vn rfl ?_
 | simp (disch:=omega) only [wr64,Int.zero_sub]
 | refine bo (fun _=>?_) fun _=>?_
 | refine im fun _=>?_
 | refine cF ?_
 | refine om ?_
 | refine an ?_
 | fail) <;> try simp only [zT,zV,zS,zU,vcC,lateX,ex,strp,binA,elems,cells,scalar,eqC,keyA,intsA,lookA,ofVs,mpOf,Nat.reduceBEq,reduceAdd,reduceSub,reduceLT,reduceLeDiff,reduceMul,reduceEqDiff,reduceIte]))
  refine .inr (.inl ⟨_,_,_,_,rfl,fun _=>⟨collect_does σ it cap l hl hit,?_⟩,fun h=>by cases h⟩)
  rintro res σ' ⟨ν,g,rfl,rfl,hg,ho⟩
  refine owp_of_exs ?_
  simp only [zT,zV,zS,zU,vcC,lateX,ex,strp,binA,elems,cells,scalar,eqC,keyA,intsA,lookA,ofVs,mpOf,Nat.reduceBEq,reduceAdd,reduceSub,reduceLT,reduceLeDiff,reduceMul,reduceEqDiff,reduceIte]
  (repeat' ((first
 | refine vn rfl ?_
 | simp (disch:=omega) only [wr64,Int.zero_sub]
 | refine bo (fun _=>?_) fun _=>?_
 | refine im fun _=>?_
 | refine cF ?_
 | refine om ?_
 | refine an ?_
 | fail) <;> try simp only [zT,zV,zS,zU,vcC,lateX,ex,strp,binA,elems,cells,scalar,eqC,keyA,intsA,lookA,ofVs,mpOf,Nat.reduceBEq,reduceAdd,reduceSub,reduceLT,reduceLeDiff,reduceMul,reduceEqDiff,reduceIte]))
  refine .inr (.inl ⟨_,_,_,_,rfl,fun _=>⟨sort_does _ g l ho (by omega),?_⟩,fun h=>by cases h⟩)
  rintro res σ' ⟨l',hp,hs,rfl⟩
  refine owp_of_exs ?_
  simp only [zT,zV,zS,zU,vcC,lateX,ex,strp,binA,elems,cells,scalar,eqC,keyA,intsA,lookA,ofVs,mpOf,Nat.reduceBEq,reduceAdd,reduceSub,reduceLT,reduceLeDiff,reduceMul,reduceEqDiff,reduceIte]
  have hll:l'.length=l.length:=hp.length_eq
  have hgl:=at_lt ho
  have hu:∀ o:Ob,Sto.upd (σ++ν) g 0 o=σ++Sto.upd ν (g - σ.length) 0 o:=fun o=>by
    have:=upd_app σ ν (g - σ.length) 0 o
    rwa [show σ.length+(g - σ.length)=g by omega] at this
  (repeat' ((first
 | refine vn rfl ?_
 | simp (disch:=omega) only [wr64,Int.zero_sub]
 | refine bo (fun _=>?_) fun _=>?_
 | refine im fun _=>?_
 | refine cF ?_
 | refine om ?_
 | refine an ?_
 | fail) <;> try simp only [zT,zV,zS,zU,vcC,lateX,ex,strp,binA,elems,cells,scalar,eqC,keyA,intsA,lookA,ofVs,mpOf,Nat.reduceBEq,reduceAdd,reduceSub,reduceLT,reduceLeDiff,reduceMul,reduceEqDiff,reduceIte]))
  refine .mk _ g l' ⟨hp,hs⟩ (hu _) (by rw [hll]) hg (at_upd_same ho)
theorem foldl_take {α β:Type} {f:β→α→β} {l:List α} {i:Nat} {x:α} {b:β} (h:l[i]?=some x):(l.take (i+1)).foldl f b=f ((l.take i).foldl f b) x:=by
  rw [take_snoc h,List.foldl_append]; rfl
theorem merged_len (l:List Sp):(merged l).length≤l.length:=by
  suffices h:∀ acc,(l.foldl push acc).length≤acc.length+l.length by simpa [merged] using h []
  induction l with
  | nil=>intro acc; simp
  | cons x r ih =>
    intro acc
    have h1:=ih (push acc x)
    have h2:(push acc x).length≤acc.length+1:=by
      rcases List.eq_nil_or_concat acc with rfl | ⟨i,s,rfl⟩
      · simp [push_nil]
      · rw [List.concat_eq_append,push_last]; split <;> simp
    simp only [List.foldl_cons,List.length_cons]; omega
theorem merged_joins {l l':List Sp} (hp:l'.Perm l) (hs:l'.Pairwise (fun a b=>a.lo≤b.lo)) (hne:∀ s∈l,s.lo≤s.hi):merged l'=joins [] l:=by
  have h:=merged_spec l' [] norm_nil (fun s hs'=>hne s (hp.mem_iff.1 hs')) (fun s h=>absurd h (List.not_mem_nil)) hs
  refine Norm.ext h.1 (joins0_norm l) fun v=>?_
  rw [joins0_mem]
  have h2:=h.2 v
  unfold merged at *
  rw [h2]
  constructor
  · rintro (h | ⟨s,hs,h⟩)
    · exact absurd h Mem.nil
    · exact ⟨s,hp.mem_iff.1 hs,h⟩
  · rintro ⟨s,hs,h⟩; exact .inr ⟨s,hp.mem_iff.2 hs,h⟩
theorem push_bd {l:List Sp} {x:Sp} {A B:Int} (hl:∀ s∈l,A≤s.lo∧s.hi≤B) (hx:A≤x.lo∧x.hi≤B):∀ s∈push l x,A≤s.lo∧s.hi≤B:=by
  rcases List.eq_nil_or_concat l with rfl | ⟨i,s,rfl⟩
  · simpa [push_nil] using hx
  · rw [List.concat_eq_append] at hl ⊢
    rw [push_last]
    have hs:=hl s (by simp)
    split
    · intro u hu
      rcases List.mem_append.1 hu with hu | hu
      · exact hl u (by simp [hu])
      · obtain rfl:u=⟨s.lo,max s.hi x.hi⟩:=by simpa using hu
        simp only; omega
    · intro u hu
      rw [show i++[s,x]=(i++[s])++[x] by simp] at hu
      rcases List.mem_append.1 hu with hu | hu
      · exact hl u hu
      · obtain rfl:u=x:=by simpa using hu
        exact hx
theorem foldl_push_bd {A B:Int}:∀ (l acc:List Sp),(∀ s∈l,A≤s.lo∧s.hi≤B)→(∀ s∈acc,A≤s.lo∧s.hi≤B)→∀ s∈l.foldl push acc,A≤s.lo∧s.hi≤B
  | [],acc,_,h=>h
  | x::l,acc,hl,h=>foldl_push_bd l (push acc x) (fun s hs=>hl s (by simp [hs])) (push_bd h (hl x (by simp)))
theorem gather_spec (it:Nat) (cap:List AV) (l:List Sp) (hl:(l.length:Int) * 16≤140737488355328) (hne:∀ s∈l,s.lo≤s.hi) (hbd:∀ s∈l,-1000000≤s.lo∧s.hi≤1000000) (hit:Iter Tryz.prog it [] cap (rds l)) :
    Pure Tryz.prog 79 [.fn (.func it) [] cap] (spS (joins [] l)):=by
  refine Pure.of_body Tryz.call79 Tryz.func79 k79 (Nat.le_of_ble_eq_true rfl) ?_
  unfold c79
  (repeat' ((first
 | refine vn rfl ?_
 | simp (disch:=omega) only [wr64,Int.zero_sub]
 | refine bo (fun _=>?_) fun _=>?_
 | refine im fun _=>?_
 | refine cF ?_
 | refine om ?_
 | refine an ?_
 | fail) <;> try simp only [zT,zV,zS,zU,vcC,lateX,ex,strp,binA,elems,cells,scalar,eqC,keyA,intsA,lookA,ofVs,mpOf,Nat.reduceBEq,reduceAdd,reduceSub,reduceLT,reduceLeDiff,reduceMul,reduceEqDiff,reduceIte]))
  refine .inr (.inl ⟨_,_,_,_,rfl,fun _=>⟨sorted_does [] it cap l hl hit,?_⟩,fun h=>by cases h⟩)
  rintro res ν ⟨_,g,l',⟨hp,hs⟩,rfl,rfl,hg,ho⟩
  refine owp_of_exs ?_
  simp only [zT,zV,zS,zU,vcC,lateX,ex,strp,binA,elems,cells,scalar,eqC,keyA,intsA,lookA,ofVs,mpOf,Nat.reduceBEq,reduceAdd,reduceSub,reduceLT,reduceLeDiff,reduceMul,reduceEqDiff,reduceIte]
  have hll:l'.length=l.length:=hp.length_eq
  have hgl:=at_lt ho
  have hbd':∀ s∈l',-1000000≤s.lo∧s.hi≤1000000:=fun s hs=>hbd s (hp.mem_iff.1 hs)
  have hne':∀ s∈l',s.lo≤s.hi:=fun s hs=>hne s (hp.mem_iff.1 hs)
  rw [← merged_joins hp hs hne]
  have ho':∀ X,Sto.at (ν++X) g 0=some (spO l'):=fun X=>by rw [at_appL hgl]; exact ho
  ((first
 | refine vn rfl ?_
 | simp (disch:=omega) only [wr64,Int.zero_sub]
 | refine bo (fun _=>?_) fun _=>?_
 | refine im fun _=>?_
 | refine cF ?_
 | refine om ?_
 | refine an ?_
 | fail) <;> try simp only [zT,zV,zS,zU,vcC,lateX,ex,strp,binA,elems,cells,scalar,eqC,keyA,intsA,lookA,ofVs,mpOf,Nat.reduceBEq,reduceAdd,reduceSub,reduceLT,reduceLeDiff,reduceMul,reduceEqDiff,reduceIte])
  refine AWPC.own0 30 2 4 rfl ?_
  (repeat' ((first
 | refine vn rfl ?_
 | simp (disch:=omega) only [wr64,Int.zero_sub]
 | refine bo (fun _=>?_) fun _=>?_
 | refine im fun _=>?_
 | refine cF ?_
 | refine om ?_
 | refine an ?_
 | fail) <;> try simp only [zT,zV,zS,zU,vcC,lateX,ex,strp,binA,elems,cells,scalar,eqC,keyA,intsA,lookA,ofVs,mpOf,Nat.reduceBEq,reduceAdd,reduceSub,reduceLT,reduceLeDiff,reduceMul,reduceEqDiff,reduceIte,ho']))
  refine AWPC.loopE (α:={ x:Nat × Sto // x.1≤l'.length }) [4,12] (fun x=>[(4,.own ν.length 0 (merged (l'.take x.1.1)).length),(12,n x.1.1)]) (fun x=>ν++(some [spO (merged (l'.take x.1.1))]::x.1.2)) (fun x=>l'.length - x.1.1) ⟨(0,[]),by simp⟩ ?_ ?_ ?_
  · (simp only [zT,zV,zS,zU,vcC,lateX,ex,strp,binA,elems,cells,scalar,eqC,keyA,intsA,lookA,ofVs,mpOf,Nat.reduceBEq,reduceAdd,reduceSub,reduceLT,reduceLeDiff,reduceMul,reduceEqDiff,reduceIte]; try simp)
    simp [merged]
  · simp [merged]
  · rintro ⟨⟨k,μ⟩,hk⟩
    simp only at hk
    have hab:=foldl_push_bd (l'.take k) [] (fun s hs=>hbd' s (List.mem_of_mem_take hs)) (by simp)
    have hml:=merged_len (l'.take k)
    have hnm:Norm (merged (l'.take k)):=(merged_spec (l'.take k) [] norm_nil (fun s hs=>hne' s (List.mem_of_mem_take hs)) (fun s h=>absurd h (List.not_mem_nil)) (hs.sublist (List.take_sublist _ _))).1
    rw [List.length_take] at hml
    by_cases hlt:k < l'.length
    · obtain ⟨x,hx⟩:∃ x,l'[k]?=some x:=⟨_,List.getElem?_eq_getElem hlt⟩
      have hnx:merged (l'.take (k+1))=push (merged (l'.take k)) x:=foldl_take hx
      have hxb:=hbd' x (List.mem_of_getElem? hx)
      have hxn:=hne' x (List.mem_of_getElem? hx)
      simp only
      change ∀ s∈merged (l'.take k),_ at hab
      generalize merged (l'.take k)=A at *
      have hG:∀ X,Sto.at (ν++(some [spO A]::X)) g 0=some (spO l'):=fun X=>ho' _
      have hA:∀ X,Sto.at (ν++(some [spO A]::X)) ν.length 0=some (spO A):=fun X=>by rw [at_app0]; rfl
      have hU:∀ (X:Sto) (o:Ob),Sto.upd (ν++(some [spO A]::X)) ν.length 0 o=ν++(some [o]::X):=fun X o=>by rw [upd_app0]; rfl
      rcases List.eq_nil_or_concat A with rfl | ⟨i,s,hi⟩
      · (repeat' ((first
 | refine vn rfl ?_
 | simp (disch:=omega) only [wr64,Int.zero_sub]
 | refine bo (fun _=>?_) fun _=>?_
 | refine im fun _=>?_
 | refine cF ?_
 | refine om ?_
 | refine an ?_
 | fail) <;> try simp only [zT, zV, zS, zU, vcC, lateX, ex, strp, binA, elems, cells, scalar, eqC, keyA, intsA, lookA, ofVs, mpOf, Nat.reduceBEq, reduceAdd, reduceSub, reduceLT, reduceLeDiff, reduceMul, reduceEqDiff, reduceIte, getD_map hx, hG, hA, hU, List.append_assoc, List.cons_append]))
        all_goals try (exfalso; omega)
        exact ⟨⟨(k+1,μ++[some [⟨30,2,[x.cs],none⟩]]),hlt⟩,⟨by rw [hnx]; simp [push_nil],by simp⟩,by rw [hnx]; simp [push_nil],by simp only; omega⟩
      · rw [List.concat_eq_append] at hi
        have hAl:A.length=i.length+1:=by rw [hi]; simp
        have hs:A[i.length]?=some s:=by rw [hi]; simp
        have hsb:=hab s (by rw [hi]; simp)
        have hsn:=hnm.ne s (by rw [hi]; simp)
        have hp:push A x=if x.lo≤s.hi+1 then i++[⟨s.lo,max s.hi x.hi⟩] else i++[s,x]:=by rw [hi,push_last]
        have hw:IntKind.i64.wrap (((i.length+1:Nat):Int) - 1)=(i.length:Int):=by rw [wr64 _ (by omega) (by omega)]; omega
        have hset:(A.map Sp.cs).set i.length [n s.lo,n (max s.hi x.hi)]=(i++[(⟨s.lo,max s.hi x.hi⟩:Sp)]).map Sp.cs:=by rw [hi]; simp
        (repeat' ((first
 | refine vn rfl ?_
 | simp (disch:=omega) only [wr64,Int.zero_sub]
 | refine bo (fun _=>?_) fun _=>?_
 | refine im fun _=>?_
 | refine cF ?_
 | refine om ?_
 | refine an ?_
 | fail) <;> try simp only [zT, zV, zS, zU, vcC, lateX, ex, strp, binA, elems, cells, scalar, eqC, keyA, intsA, lookA, ofVs, mpOf, Nat.reduceBEq, reduceAdd, reduceSub, reduceLT, reduceLeDiff, reduceMul, reduceEqDiff, reduceIte, getD_map hx, getD_map hs, hG, hA, hU, hAl, hw, hset, List.append_assoc, List.cons_append]))
        all_goals try (exfalso; omega)
        all_goals
          rename_i hc
        · rw [if_pos hc.2] at hp
          exact ⟨⟨(k+1,μ++[some [⟨30,2,[x.cs],none⟩]]),hlt⟩,⟨by rw [hnx,hp]; simp,by simp⟩,by rw [hnx,hp],by simp only; omega⟩
        · rw [if_neg (by omega)] at hp
          exact ⟨⟨(k+1,μ++[some [⟨30,2,[x.cs],none⟩]]),hlt⟩,⟨by rw [hnx,hp]; simp,by simp⟩,by rw [hnx,hp,hi]; simp,by simp only; omega⟩
    · obtain rfl:k=l'.length:=by omega
      rw [List.take_length]
      (repeat' ((first
 | refine vn rfl ?_
 | simp (disch:=omega) only [wr64,Int.zero_sub]
 | refine bo (fun _=>?_) fun _=>?_
 | refine im fun _=>?_
 | refine cF ?_
 | refine om ?_
 | refine an ?_
 | fail) <;> try simp only [zT,zV,zS,zU,vcC,lateX,ex,strp,binA,elems,cells,scalar,eqC,keyA,intsA,lookA,ofVs,mpOf,Nat.reduceBEq,reduceAdd,reduceSub,reduceLT,reduceLeDiff,reduceMul,reduceEqDiff,reduceIte]))
      all_goals try (exfalso; omega)
      exact frz_sp (by rw [at_app0]; rfl)
def c170:CF:=⟨19,
 (.seq (.ops [
 ⟨some 4,.mv (.c (.int .i64 0)),none⟩] [0,1])
 (.seq (.seq (.ops [
 ⟨some 6,.mv (.t 0),none⟩,
 ⟨some 7,.len (.t 6),none⟩,
 ⟨some 8,.mv (.c (.int .i64 0)),none⟩] [0,1,7,8])
 (.block 0 (.loop (.seq (.ops [
 ⟨some 9,.bin .lss (.t 8) (.t 7),none⟩] [0,1,7,8,9])
 (.seq (.cond (.t 9) .skip
 (.exit 0))
 (.seq (.block 1 (.seq (.ops [
 ⟨some 10,.mv (.t 8),none⟩,
 ⟨some 5,.mv (.t 10),none⟩] [0,1,5,7,8])
 (.seq (.ops [
 ⟨some 11,.mv (.t 1),none⟩,
 ⟨some 12,.mv (.t 0),none⟩,
 ⟨some 13,.mv (.t 5),none⟩,
 ⟨some 14,.iaddr 2 (.t 12) (.t 13),none⟩,
 ⟨some 15,.load (some 2) (.t 14),none⟩,
 ⟨some 16,.call (.t 11) [(.t 15)],none⟩] [0,1,5,7,8,16])
 (.cond (.t 16) (.seq (.ops [
 ⟨some 17,.mv (.t 5),none⟩,
 ⟨some 4,.mv (.t 17),none⟩] [4])
 .ret)
 .skip))))
 (.ops [
 ⟨some 18,.bin .add (.t 8) (.c (.int .i64 1)),none⟩,
 ⟨some 8,.mv (.t 18),none⟩] [0,1,7,8])))))))
 (.seq (.ops [
 ⟨some 4,.mv (.c (.int .i64 (-1))),none⟩] [4])
 .ret))),
 [.t 4]⟩
def c152:CF:=⟨9,
 (.seq (.ops [
 ⟨some 4,.mv (.c (.bool false)),none⟩] [0,1])
 (.seq (.ops [
 ⟨some 5,.mv (.t 0),none⟩,
 ⟨some 6,.mv (.t 1),none⟩,
 ⟨some 7,.call (.f 170) [(.t 5),(.t 6)],none⟩,
 ⟨some 8,.bin .geq (.t 7) (.c (.int .i64 0)),none⟩,
 ⟨some 4,.mv (.t 8),none⟩] [4])
 .ret)),
 [.t 4]⟩
def c171:CF:=⟨19,
 (.seq (.ops [
 ⟨some 4,.mv (.c (.int .i64 0)),none⟩] [0,1])
 (.seq (.seq (.ops [
 ⟨some 6,.mv (.t 0),none⟩,
 ⟨some 7,.len (.t 6),none⟩,
 ⟨some 8,.mv (.c (.int .i64 0)),none⟩] [0,1,7,8])
 (.block 0 (.loop (.seq (.ops [
 ⟨some 9,.bin .lss (.t 8) (.t 7),none⟩] [0,1,7,8,9])
 (.seq (.cond (.t 9) .skip
 (.exit 0))
 (.seq (.block 1 (.seq (.ops [
 ⟨some 10,.mv (.t 8),none⟩,
 ⟨some 5,.mv (.t 10),none⟩] [0,1,5,7,8])
 (.seq (.ops [
 ⟨some 11,.mv (.t 1),none⟩,
 ⟨some 12,.mv (.t 0),none⟩,
 ⟨some 13,.mv (.t 5),none⟩,
 ⟨some 14,.iaddr 3 (.t 12) (.t 13),none⟩,
 ⟨some 15,.load (some 3) (.t 14),none⟩,
 ⟨some 16,.call (.t 11) [(.t 15)],none⟩] [0,1,5,7,8,16])
 (.cond (.t 16) (.seq (.ops [
 ⟨some 17,.mv (.t 5),none⟩,
 ⟨some 4,.mv (.t 17),none⟩] [4])
 .ret)
 .skip))))
 (.ops [
 ⟨some 18,.bin .add (.t 8) (.c (.int .i64 1)),none⟩,
 ⟨some 8,.mv (.t 18),none⟩] [0,1,7,8])))))))
 (.seq (.ops [
 ⟨some 4,.mv (.c (.int .i64 (-1))),none⟩] [4])
 .ret))),
 [.t 4]⟩
def c154:CF:=⟨9,
 (.seq (.ops [
 ⟨some 4,.mv (.c (.bool false)),none⟩] [0,1])
 (.seq (.ops [
 ⟨some 5,.mv (.t 0),none⟩,
 ⟨some 6,.mv (.t 1),none⟩,
 ⟨some 7,.call (.f 171) [(.t 5),(.t 6)],none⟩,
 ⟨some 8,.bin .geq (.t 7) (.c (.int .i64 0)),none⟩,
 ⟨some 4,.mv (.t 8),none⟩] [4])
 .ret)),
 [.t 4]⟩
def c146:CF:=⟨19,
 (.seq (.ops [
 ⟨some 4,.mv (.c (.int .i64 0)),none⟩] [0,1])
 (.seq (.seq (.ops [
 ⟨some 6,.mv (.t 0),none⟩,
 ⟨some 7,.len (.t 6),none⟩,
 ⟨some 8,.mv (.c (.int .i64 0)),none⟩] [0,1,7,8])
 (.block 0 (.loop (.seq (.ops [
 ⟨some 9,.bin .lss (.t 8) (.t 7),none⟩] [0,1,7,8,9])
 (.seq (.cond (.t 9) .skip
 (.exit 0))
 (.seq (.block 1 (.seq (.ops [
 ⟨some 10,.mv (.t 8),none⟩,
 ⟨some 5,.mv (.t 10),none⟩] [0,1,5,7,8])
 (.seq (.ops [
 ⟨some 11,.mv (.t 1),none⟩,
 ⟨some 12,.mv (.t 0),none⟩,
 ⟨some 13,.mv (.t 5),none⟩,
 ⟨some 14,.iaddr 2 (.t 12) (.t 13),none⟩,
 ⟨some 15,.load (some 2) (.t 14),none⟩,
 ⟨some 16,.call (.t 11) [(.t 15)],none⟩] [0,1,5,7,8,16])
 (.cond (.t 16) (.seq (.ops [
 ⟨some 17,.mv (.t 5),none⟩,
 ⟨some 4,.mv (.t 17),none⟩] [4])
 .ret)
 .skip))))
 (.ops [
 ⟨some 18,.bin .add (.t 8) (.c (.int .i64 1)),none⟩,
 ⟨some 8,.mv (.t 18),none⟩] [0,1,7,8])))))))
 (.seq (.ops [
 ⟨some 4,.mv (.c (.int .i64 (-1))),none⟩] [4])
 .ret))),
 [.t 4]⟩
def c98:CF:=⟨9,
 (.seq (.ops [
 ⟨some 4,.mv (.c (.bool false)),none⟩] [0,1])
 (.seq (.ops [
 ⟨some 5,.mv (.t 0),none⟩,
 ⟨some 6,.mv (.t 1),none⟩,
 ⟨some 7,.call (.f 146) [(.t 5),(.t 6)],none⟩,
 ⟨some 8,.bin .geq (.t 7) (.c (.int .i64 0)),none⟩,
 ⟨some 4,.mv (.t 8),none⟩] [4])
 .ret)),
 [.t 4]⟩
def c133:CF:=⟨19,
 (.seq (.ops [
 ⟨some 4,.mv (.c (.int .i64 0)),none⟩] [0,1])
 (.seq (.seq (.ops [
 ⟨some 6,.mv (.t 0),none⟩,
 ⟨some 7,.len (.t 6),none⟩,
 ⟨some 8,.mv (.c (.int .i64 0)),none⟩] [0,1,7,8])
 (.block 0 (.loop (.seq (.ops [
 ⟨some 9,.bin .lss (.t 8) (.t 7),none⟩] [0,1,7,8,9])
 (.seq (.cond (.t 9) .skip
 (.exit 0))
 (.seq (.block 1 (.seq (.ops [
 ⟨some 10,.mv (.t 8),none⟩,
 ⟨some 5,.mv (.t 10),none⟩] [0,1,5,7,8])
 (.seq (.ops [
 ⟨some 11,.mv (.t 1),none⟩,
 ⟨some 12,.mv (.t 0),none⟩,
 ⟨some 13,.mv (.t 5),none⟩,
 ⟨some 14,.iaddr 1 (.t 12) (.t 13),none⟩,
 ⟨some 15,.load none (.t 14),none⟩,
 ⟨some 16,.call (.t 11) [(.t 15)],none⟩] [0,1,5,7,8,16])
 (.cond (.t 16) (.seq (.ops [
 ⟨some 17,.mv (.t 5),none⟩,
 ⟨some 4,.mv (.t 17),none⟩] [4])
 .ret)
 .skip))))
 (.ops [
 ⟨some 18,.bin .add (.t 8) (.c (.int .i64 1)),none⟩,
 ⟨some 8,.mv (.t 18),none⟩] [0,1,7,8])))))))
 (.seq (.ops [
 ⟨some 4,.mv (.c (.int .i64 (-1))),none⟩] [4])
 .ret))),
 [.t 4]⟩
def c74:CF:=⟨9,
 (.seq (.ops [
 ⟨some 4,.mv (.c (.bool false)),none⟩] [0,1])
 (.seq (.ops [
 ⟨some 5,.mv (.t 0),none⟩,
 ⟨some 6,.mv (.t 1),none⟩,
 ⟨some 7,.call (.f 133) [(.t 5),(.t 6)],none⟩,
 ⟨some 8,.bin .geq (.t 7) (.c (.int .i64 0)),none⟩,
 ⟨some 4,.mv (.t 8),none⟩] [4])
 .ret)),
 [.t 4]⟩
abbrev Edg.cs (e:Edg):List AV:=[n e.to,n e.ch.lo,n e.ch.hi]
abbrev edS (l:List Edg):AV:=.sl 3 (l.map Edg.cs)
abbrev Nod.cs (x:Nod):List AV:=[spS x.al,edS x.nx]
abbrev stS (l:List Nod):AV:=.sl 2 (l.map Nod.cs)
abbrev tkS (t:Trk):AV:=.sl 1 (t.map fun l=>[stS l])
abbrev trS (t:Trk):AV:=.agg [tkS t]
structure Lim where
  st:Int
  vs:List Sp
abbrev Lim.cs (x:Lim):List AV:=[n x.st,spS x.vs]
abbrev liS (l:List Lim):AV:=.sl 2 (l.map Lim.cs)
abbrev At.cs (a:At):List AV:=[n a.node,n a.val]
abbrev atS (l:List At):AV:=.sl 2 (l.map At.cs)
theorem pv_rows {α:Type} {row:α→List AV} (k:Nat) (l:List α) (h:∀ x,∀ c∈row x,PureV c):PureV (.sl k (l.map row)):=PureV.sl fun e he c hc=>by
  obtain ⟨x,_,rfl⟩:=List.mem_map.1 he
  exact h x c hc
@[simp] theorem pv_ed (l:List Edg):PureV (edS l):=pv_rows 3 l fun x c hc=>by
  simp only [Edg.cs,List.mem_cons,List.not_mem_nil,or_false] at hc
  rcases hc with rfl | rfl | rfl <;> exact PureV.v _
@[simp] theorem pv_st (l:List Nod):PureV (stS l):=pv_rows 2 l fun x c hc=>by
  simp only [Nod.cs,List.mem_cons,List.not_mem_nil,or_false] at hc
  rcases hc with rfl | rfl <;> simp
@[simp] theorem pv_tk (l:Trk):PureV (tkS l):=pv_rows 1 l fun x c hc=>by
  simp only [List.mem_cons,List.not_mem_nil,or_false] at hc
  subst hc; simp
@[simp] theorem pv_li (l:List Lim):PureV (liS l):=pv_rows 2 l fun x c hc=>by
  simp only [Lim.cs,List.mem_cons,List.not_mem_nil,or_false] at hc
  rcases hc with rfl | rfl <;> simp
@[simp] theorem pv_at (l:List At):PureV (atS l):=pv_rows 2 l fun x c hc=>by
  simp only [At.cs,List.mem_cons,List.not_mem_nil,or_false] at hc
  rcases hc with rfl | rfl <;> simp
def fidx {α:Type} (q:α→Bool):Nat→List α→Int
  | _,[]=>-1
  | i,x::r=>if q x=true then (i:Int) else fidx q (i+1) r
theorem fidx_any {α:Type} (q:α→Bool):∀ (l:List α) (i:Nat),decide (0≤fidx q i l)=l.any q
  | [],i=>by simp [fidx]
  | x::r,i=>by
    rw [fidx,List.any_cons]
    by_cases h:q x=true
    · rw [if_pos h,h]; simp
    · rw [if_neg h,fidx_any q r (i+1)]; simp [h]
theorem k170:chkF Tryz.prog Tryz.f170 c170=true:=by kernel_rfl
theorem k152:chkF Tryz.prog Tryz.f152 c152=true:=by kernel_rfl
theorem indexNod_spec (f:Nat) (caps:List AV) (hcap:∀ c∈caps,PureV c) (q:Nod→Bool) (l:List Nod) (hl:l.length < 9223372036854775808) (hq:∀ x∈l,Pure Tryz.prog f ([.agg (Nod.cs x)]++caps) (bl (q x))):Pure Tryz.prog 170 [stS l,.fn (.func f) [] caps] (n (fidx q 0 l)):=by
  refine Pure.of_body Tryz.call170 Tryz.func170 k170 (Nat.le_of_ble_eq_true rfl) ?_
  unfold c170
  (repeat' ((first
 | refine vn rfl ?_
 | simp (disch:=omega) only [wr64,Int.zero_sub]
 | refine bo (fun _=>?_) fun _=>?_
 | refine im fun _=>?_
 | refine cF ?_
 | refine om ?_
 | refine an ?_
 | fail) <;> try simp only [zT,zV,zS,zU,vcC,lateX,ex,strp,binA,elems,cells,scalar,eqC,keyA,intsA,lookA,ofVs,mpOf,Nat.reduceBEq,reduceAdd,reduceSub,reduceLT,reduceLeDiff,reduceMul,reduceEqDiff,reduceIte]))
  refine AWPC.loopI 8 l.length (fun i=>fidx q i (l.drop i)=fidx q 0 l) (by simp) ?_ ?_
  · (simp only [zT,zV,zS,zU,vcC,lateX,ex,strp,binA,elems,cells,scalar,eqC,keyA,intsA,lookA,ofVs,mpOf,Nat.reduceBEq,reduceAdd,reduceSub,reduceLT,reduceLeDiff,reduceMul,reduceEqDiff,reduceIte]; try simp)
  · intro i hi hI
    by_cases hlt:i < l.length
    · obtain ⟨x,hx⟩:∃ x,l[i]?=some x:=⟨_,List.getElem?_eq_getElem hlt⟩
      have hc:=hq x (List.mem_of_getElem? hx)
      rw [drop_cons hx,fidx] at hI
      (repeat' ((first
 | refine vn rfl ?_
 | simp (disch:=omega) only [wr64,Int.zero_sub]
 | refine bo (fun _=>?_) fun _=>?_
 | refine im fun _=>?_
 | refine cF ?_
 | refine om ?_
 | refine an ?_
 | fail) <;> try simp only [zT,zV,zS,zU,vcC,lateX,ex,strp,binA,elems,cells,scalar,eqC,keyA,intsA,lookA,ofVs,mpOf,Nat.reduceBEq,reduceAdd,reduceSub,reduceLT,reduceLeDiff,reduceMul,reduceEqDiff,reduceIte,getD_map hx]))
      all_goals try (exfalso; omega)
      refine .inl ⟨_,_,_,_,rfl,fun _=>⟨?_,hc⟩,?_⟩
      · intro a ha
        simp only [List.nil_append,List.cons_append,List.mem_cons] at ha
        rcases ha with rfl | ha
        · simp
        · exact hcap a ha
      refine owp_of_exs ?_
      simp only [zT,zV,zS,zU,vcC,lateX,ex,strp,binA,elems,cells,scalar,eqC,keyA,intsA,lookA,ofVs,mpOf,Nat.reduceBEq,reduceAdd,reduceSub,reduceLT,reduceLeDiff,reduceMul,reduceEqDiff,reduceIte]
      (repeat' ((first
 | refine vn rfl ?_
 | simp (disch:=omega) only [wr64,Int.zero_sub]
 | refine bo (fun _=>?_) fun _=>?_
 | refine im fun _=>?_
 | refine cF ?_
 | refine om ?_
 | refine an ?_
 | fail) <;> try simp only [zT,zV,zS,zU,vcC,lateX,ex,strp,binA,elems,cells,scalar,eqC,keyA,intsA,lookA,ofVs,mpOf,Nat.reduceBEq,reduceAdd,reduceSub,reduceLT,reduceLeDiff,reduceMul,reduceEqDiff,reduceIte]))
      · rename_i h
        rw [h] at hI
        simp only [if_true] at hI
        rw [← hI]
        exact Frz.eq rfl (by simp)
      · rename_i h
        rw [h] at hI
        exact ⟨⟨i+1,hlt,by simpa using hI⟩,by simp,by simp only; omega⟩
    · obtain rfl:i=l.length:=by omega
      rw [List.drop_length,fidx] at hI
      (repeat' ((first
 | refine vn rfl ?_
 | simp (disch:=omega) only [wr64,Int.zero_sub]
 | refine bo (fun _=>?_) fun _=>?_
 | refine im fun _=>?_
 | refine cF ?_
 | refine om ?_
 | refine an ?_
 | fail) <;> try simp only [zT,zV,zS,zU,vcC,lateX,ex,strp,binA,elems,cells,scalar,eqC,keyA,intsA,lookA,ofVs,mpOf,Nat.reduceBEq,reduceAdd,reduceSub,reduceLT,reduceLeDiff,reduceMul,reduceEqDiff,reduceIte]))
      all_goals try (exfalso; omega)
      rw [← hI]
      exact Frz.eq rfl (by simp)
theorem containsNod_spec (f:Nat) (caps:List AV) (hcap:∀ c∈caps,PureV c) (q:Nod→Bool) (l:List Nod) (hl:l.length < 9223372036854775808) (hq:∀ x∈l,Pure Tryz.prog f ([.agg (Nod.cs x)]++caps) (bl (q x))):Pure Tryz.prog 152 [stS l,.fn (.func f) [] caps] (bl (l.any q)):=by
  refine Pure.of_body Tryz.call152 Tryz.func152 k152 (Nat.le_of_ble_eq_true rfl) ?_
  unfold c152
  have h:=fidx_any q l 0
  (repeat' ((first
 | refine vn rfl ?_
 | simp (disch:=omega) only [wr64,Int.zero_sub]
 | refine bo (fun _=>?_) fun _=>?_
 | refine im fun _=>?_
 | refine cF ?_
 | refine om ?_
 | refine an ?_
 | fail) <;> try simp only [zT,zV,zS,zU,vcC,lateX,ex,strp,binA,elems,cells,scalar,eqC,keyA,intsA,lookA,ofVs,mpOf,Nat.reduceBEq,reduceAdd,reduceSub,reduceLT,reduceLeDiff,reduceMul,reduceEqDiff,reduceIte]))
  refine .inl ⟨_,_,_,_,rfl,fun _=>⟨?_,indexNod_spec f caps hcap q l hl hq⟩,?_⟩
  · intro a ha
    simp only [List.nil_append,List.cons_append,List.mem_cons,List.append_nil,List.not_mem_nil,or_false] at ha
    rcases ha with rfl | rfl
    · simp
    · exact PureV.fn (fun _ h=>absurd h (List.not_mem_nil)) hcap
  refine owp_of_exs ?_
  simp only [zT,zV,zS,zU,vcC,lateX,ex,strp,binA,elems,cells,scalar,eqC,keyA,intsA,lookA,ofVs,mpOf,Nat.reduceBEq,reduceAdd,reduceSub,reduceLT,reduceLeDiff,reduceMul,reduceEqDiff,reduceIte]
  (repeat' ((first
 | refine vn rfl ?_
 | simp (disch:=omega) only [wr64,Int.zero_sub]
 | refine bo (fun _=>?_) fun _=>?_
 | refine im fun _=>?_
 | refine cF ?_
 | refine om ?_
 | refine an ?_
 | fail) <;> try simp only [zT,zV,zS,zU,vcC,lateX,ex,strp,binA,elems,cells,scalar,eqC,keyA,intsA,lookA,ofVs,mpOf,Nat.reduceBEq,reduceAdd,reduceSub,reduceLT,reduceLeDiff,reduceMul,reduceEqDiff,reduceIte]))
  rw [← h]
  exact Frz.eq rfl (by simp)
theorem k171:chkF Tryz.prog Tryz.f171 c171=true:=by kernel_rfl
theorem k154:chkF Tryz.prog Tryz.f154 c154=true:=by kernel_rfl
theorem indexEdg_spec (f:Nat) (caps:List AV) (hcap:∀ c∈caps,PureV c) (q:Edg→Bool) (l:List Edg) (hl:l.length < 9223372036854775808) (hq:∀ x∈l,Pure Tryz.prog f ([.agg (Edg.cs x)]++caps) (bl (q x))):Pure Tryz.prog 171 [edS l,.fn (.func f) [] caps] (n (fidx q 0 l)):=by
  refine Pure.of_body Tryz.call171 Tryz.func171 k171 (Nat.le_of_ble_eq_true rfl) ?_
  unfold c171
  (repeat' ((first
 | refine vn rfl ?_
 | simp (disch:=omega) only [wr64,Int.zero_sub]
 | refine bo (fun _=>?_) fun _=>?_
 | refine im fun _=>?_
 | refine cF ?_
 | refine om ?_
 | refine an ?_
 | fail) <;> try simp only [zT,zV,zS,zU,vcC,lateX,ex,strp,binA,elems,cells,scalar,eqC,keyA,intsA,lookA,ofVs,mpOf,Nat.reduceBEq,reduceAdd,reduceSub,reduceLT,reduceLeDiff,reduceMul,reduceEqDiff,reduceIte]))
  refine AWPC.loopI 8 l.length (fun i=>fidx q i (l.drop i)=fidx q 0 l) (by simp) ?_ ?_
  · (simp only [zT,zV,zS,zU,vcC,lateX,ex,strp,binA,elems,cells,scalar,eqC,keyA,intsA,lookA,ofVs,mpOf,Nat.reduceBEq,reduceAdd,reduceSub,reduceLT,reduceLeDiff,reduceMul,reduceEqDiff,reduceIte]; try simp)
  · intro i hi hI
    by_cases hlt:i < l.length
    · obtain ⟨x,hx⟩:∃ x,l[i]?=some x:=⟨_,List.getElem?_eq_getElem hlt⟩
      have hc:=hq x (List.mem_of_getElem? hx)
      rw [drop_cons hx,fidx] at hI
      (repeat' ((first
 | refine vn rfl ?_
 | simp (disch:=omega) only [wr64,Int.zero_sub]
 | refine bo (fun _=>?_) fun _=>?_
 | refine im fun _=>?_
 | refine cF ?_
 | refine om ?_
 | refine an ?_
 | fail) <;> try simp only [zT,zV,zS,zU,vcC,lateX,ex,strp,binA,elems,cells,scalar,eqC,keyA,intsA,lookA,ofVs,mpOf,Nat.reduceBEq,reduceAdd,reduceSub,reduceLT,reduceLeDiff,reduceMul,reduceEqDiff,reduceIte,getD_map hx]))
      all_goals try (exfalso; omega)
      refine .inl ⟨_,_,_,_,rfl,fun _=>⟨?_,hc⟩,?_⟩
      · intro a ha
        simp only [List.nil_append,List.cons_append,List.mem_cons] at ha
        rcases ha with rfl | ha
        · simp
        · exact hcap a ha
      refine owp_of_exs ?_
      simp only [zT,zV,zS,zU,vcC,lateX,ex,strp,binA,elems,cells,scalar,eqC,keyA,intsA,lookA,ofVs,mpOf,Nat.reduceBEq,reduceAdd,reduceSub,reduceLT,reduceLeDiff,reduceMul,reduceEqDiff,reduceIte]
      (repeat' ((first
 | refine vn rfl ?_
 | simp (disch:=omega) only [wr64,Int.zero_sub]
 | refine bo (fun _=>?_) fun _=>?_
 | refine im fun _=>?_
 | refine cF ?_
 | refine om ?_
 | refine an ?_
 | fail) <;> try simp only [zT,zV,zS,zU,vcC,lateX,ex,strp,binA,elems,cells,scalar,eqC,keyA,intsA,lookA,ofVs,mpOf,Nat.reduceBEq,reduceAdd,reduceSub,reduceLT,reduceLeDiff,reduceMul,reduceEqDiff,reduceIte]))
      · rename_i h
        rw [h] at hI
        simp only [if_true] at hI
        rw [← hI]
        exact Frz.eq rfl (by simp)
      · rename_i h
        rw [h] at hI
        exact ⟨⟨i+1,hlt,by simpa using hI⟩,by simp,by simp only; omega⟩
    · obtain rfl:i=l.length:=by omega
      rw [List.drop_length,fidx] at hI
      (repeat' ((first
 | refine vn rfl ?_
 | simp (disch:=omega) only [wr64,Int.zero_sub]
 | refine bo (fun _=>?_) fun _=>?_
 | refine im fun _=>?_
 | refine cF ?_
 | refine om ?_
 | refine an ?_
 | fail) <;> try simp only [zT,zV,zS,zU,vcC,lateX,ex,strp,binA,elems,cells,scalar,eqC,keyA,intsA,lookA,ofVs,mpOf,Nat.reduceBEq,reduceAdd,reduceSub,reduceLT,reduceLeDiff,reduceMul,reduceEqDiff,reduceIte]))
      all_goals try (exfalso; omega)
      rw [← hI]
      exact Frz.eq rfl (by simp)
theorem containsEdg_spec (f:Nat) (caps:List AV) (hcap:∀ c∈caps,PureV c) (q:Edg→Bool) (l:List Edg) (hl:l.length < 9223372036854775808) (hq:∀ x∈l,Pure Tryz.prog f ([.agg (Edg.cs x)]++caps) (bl (q x))):Pure Tryz.prog 154 [edS l,.fn (.func f) [] caps] (bl (l.any q)):=by
  refine Pure.of_body Tryz.call154 Tryz.func154 k154 (Nat.le_of_ble_eq_true rfl) ?_
  unfold c154
  have h:=fidx_any q l 0
  (repeat' ((first
 | refine vn rfl ?_
 | simp (disch:=omega) only [wr64,Int.zero_sub]
 | refine bo (fun _=>?_) fun _=>?_
 | refine im fun _=>?_
 | refine cF ?_
 | refine om ?_
 | refine an ?_
 | fail) <;> try simp only [zT,zV,zS,zU,vcC,lateX,ex,strp,binA,elems,cells,scalar,eqC,keyA,intsA,lookA,ofVs,mpOf,Nat.reduceBEq,reduceAdd,reduceSub,reduceLT,reduceLeDiff,reduceMul,reduceEqDiff,reduceIte]))
  refine .inl ⟨_,_,_,_,rfl,fun _=>⟨?_,indexEdg_spec f caps hcap q l hl hq⟩,?_⟩
  · intro a ha
    simp only [List.nil_append,List.cons_append,List.mem_cons,List.append_nil,List.not_mem_nil,or_false] at ha
    rcases ha with rfl | rfl
    · simp
    · exact PureV.fn (fun _ h=>absurd h (List.not_mem_nil)) hcap
  refine owp_of_exs ?_
  simp only [zT,zV,zS,zU,vcC,lateX,ex,strp,binA,elems,cells,scalar,eqC,keyA,intsA,lookA,ofVs,mpOf,Nat.reduceBEq,reduceAdd,reduceSub,reduceLT,reduceLeDiff,reduceMul,reduceEqDiff,reduceIte]
  (repeat' ((first
 | refine vn rfl ?_
 | simp (disch:=omega) only [wr64,Int.zero_sub]
 | refine bo (fun _=>?_) fun _=>?_
 | refine im fun _=>?_
 | refine cF ?_
 | refine om ?_
 | refine an ?_
 | fail) <;> try simp only [zT,zV,zS,zU,vcC,lateX,ex,strp,binA,elems,cells,scalar,eqC,keyA,intsA,lookA,ofVs,mpOf,Nat.reduceBEq,reduceAdd,reduceSub,reduceLT,reduceLeDiff,reduceMul,reduceEqDiff,reduceIte]))
  rw [← h]
  exact Frz.eq rfl (by simp)
theorem k146:chkF Tryz.prog Tryz.f146 c146=true:=by kernel_rfl
theorem k98:chkF Tryz.prog Tryz.f98 c98=true:=by kernel_rfl
theorem indexLim_spec (f:Nat) (caps:List AV) (hcap:∀ c∈caps,PureV c) (q:Lim→Bool) (l:List Lim) (hl:l.length < 9223372036854775808) (hq:∀ x∈l,Pure Tryz.prog f ([.agg x.cs]++caps) (bl (q x))):Pure Tryz.prog 146 [liS l,.fn (.func f) [] caps] (n (fidx q 0 l)):=by
  refine Pure.of_body Tryz.call146 Tryz.func146 k146 (Nat.le_of_ble_eq_true rfl) ?_
  unfold c146
  (repeat' ((first
 | refine vn rfl ?_
 | simp (disch:=omega) only [wr64,Int.zero_sub]
 | refine bo (fun _=>?_) fun _=>?_
 | refine im fun _=>?_
 | refine cF ?_
 | refine om ?_
 | refine an ?_
 | fail) <;> try simp only [zT,zV,zS,zU,vcC,lateX,ex,strp,binA,elems,cells,scalar,eqC,keyA,intsA,lookA,ofVs,mpOf,Nat.reduceBEq,reduceAdd,reduceSub,reduceLT,reduceLeDiff,reduceMul,reduceEqDiff,reduceIte]))
  refine AWPC.loopI 8 l.length (fun i=>fidx q i (l.drop i)=fidx q 0 l) (by simp) ?_ ?_
  · (simp only [zT,zV,zS,zU,vcC,lateX,ex,strp,binA,elems,cells,scalar,eqC,keyA,intsA,lookA,ofVs,mpOf,Nat.reduceBEq,reduceAdd,reduceSub,reduceLT,reduceLeDiff,reduceMul,reduceEqDiff,reduceIte]; try simp)
  · intro i hi hI
    by_cases hlt:i < l.length
    · obtain ⟨x,hx⟩:∃ x,l[i]?=some x:=⟨_,List.getElem?_eq_getElem hlt⟩
      have hc:=hq x (List.mem_of_getElem? hx)
      rw [drop_cons hx,fidx] at hI
      (repeat' ((first
 | refine vn rfl ?_
 | simp (disch:=omega) only [wr64,Int.zero_sub]
 | refine bo (fun _=>?_) fun _=>?_
 | refine im fun _=>?_
 | refine cF ?_
 | refine om ?_
 | refine an ?_
 | fail) <;> try simp only [zT,zV,zS,zU,vcC,lateX,ex,strp,binA,elems,cells,scalar,eqC,keyA,intsA,lookA,ofVs,mpOf,Nat.reduceBEq,reduceAdd,reduceSub,reduceLT,reduceLeDiff,reduceMul,reduceEqDiff,reduceIte,getD_map hx]))
      all_goals try (exfalso; omega)
      refine .inl ⟨_,_,_,_,rfl,fun _=>⟨?_,hc⟩,?_⟩
      · intro a ha
        simp only [List.nil_append,List.cons_append,List.mem_cons] at ha
        rcases ha with rfl | ha
        · simp
        · exact hcap a ha
      refine owp_of_exs ?_
      simp only [zT,zV,zS,zU,vcC,lateX,ex,strp,binA,elems,cells,scalar,eqC,keyA,intsA,lookA,ofVs,mpOf,Nat.reduceBEq,reduceAdd,reduceSub,reduceLT,reduceLeDiff,reduceMul,reduceEqDiff,reduceIte]
      (repeat' ((first
 | refine vn rfl ?_
 | simp (disch:=omega) only [wr64,Int.zero_sub]
 | refine bo (fun _=>?_) fun _=>?_
 | refine im fun _=>?_
 | refine cF ?_
 | refine om ?_
 | refine an ?_
 | fail) <;> try simp only [zT,zV,zS,zU,vcC,lateX,ex,strp,binA,elems,cells,scalar,eqC,keyA,intsA,lookA,ofVs,mpOf,Nat.reduceBEq,reduceAdd,reduceSub,reduceLT,reduceLeDiff,reduceMul,reduceEqDiff,reduceIte]))
      · rename_i h
        rw [h] at hI
        simp only [if_true] at hI
        rw [← hI]
        exact Frz.eq rfl (by simp)
      · rename_i h
        rw [h] at hI
        exact ⟨⟨i+1,hlt,by simpa using hI⟩,by simp,by simp only; omega⟩
    · obtain rfl:i=l.length:=by omega
      rw [List.drop_length,fidx] at hI
      (repeat' ((first
 | refine vn rfl ?_
 | simp (disch:=omega) only [wr64,Int.zero_sub]
 | refine bo (fun _=>?_) fun _=>?_
 | refine im fun _=>?_
 | refine cF ?_
 | refine om ?_
 | refine an ?_
 | fail) <;> try simp only [zT,zV,zS,zU,vcC,lateX,ex,strp,binA,elems,cells,scalar,eqC,keyA,intsA,lookA,ofVs,mpOf,Nat.reduceBEq,reduceAdd,reduceSub,reduceLT,reduceLeDiff,reduceMul,reduceEqDiff,reduceIte]))
      all_goals try (exfalso; omega)
      rw [← hI]
      exact Frz.eq rfl (by simp)
theorem containsLim_spec (f:Nat) (caps:List AV) (hcap:∀ c∈caps,PureV c) (q:Lim→Bool) (l:List Lim) (hl:l.length < 9223372036854775808) (hq:∀ x∈l,Pure Tryz.prog f ([.agg x.cs]++caps) (bl (q x))):Pure Tryz.prog 98 [liS l,.fn (.func f) [] caps] (bl (l.any q)):=by
  refine Pure.of_body Tryz.call98 Tryz.func98 k98 (Nat.le_of_ble_eq_true rfl) ?_
  unfold c98
  have h:=fidx_any q l 0
  (repeat' ((first
 | refine vn rfl ?_
 | simp (disch:=omega) only [wr64,Int.zero_sub]
 | refine bo (fun _=>?_) fun _=>?_
 | refine im fun _=>?_
 | refine cF ?_
 | refine om ?_
 | refine an ?_
 | fail) <;> try simp only [zT,zV,zS,zU,vcC,lateX,ex,strp,binA,elems,cells,scalar,eqC,keyA,intsA,lookA,ofVs,mpOf,Nat.reduceBEq,reduceAdd,reduceSub,reduceLT,reduceLeDiff,reduceMul,reduceEqDiff,reduceIte]))
  refine .inl ⟨_,_,_,_,rfl,fun _=>⟨?_,indexLim_spec f caps hcap q l hl hq⟩,?_⟩
  · intro a ha
    simp only [List.nil_append,List.cons_append,List.mem_cons,List.append_nil,List.not_mem_nil,or_false] at ha
    rcases ha with rfl | rfl
    · simp
    · exact PureV.fn (fun _ h=>absurd h (List.not_mem_nil)) hcap
  refine owp_of_exs ?_
  simp only [zT,zV,zS,zU,vcC,lateX,ex,strp,binA,elems,cells,scalar,eqC,keyA,intsA,lookA,ofVs,mpOf,Nat.reduceBEq,reduceAdd,reduceSub,reduceLT,reduceLeDiff,reduceMul,reduceEqDiff,reduceIte]
  (repeat' ((first
 | refine vn rfl ?_
 | simp (disch:=omega) only [wr64,Int.zero_sub]
 | refine bo (fun _=>?_) fun _=>?_
 | refine im fun _=>?_
 | refine cF ?_
 | refine om ?_
 | refine an ?_
 | fail) <;> try simp only [zT,zV,zS,zU,vcC,lateX,ex,strp,binA,elems,cells,scalar,eqC,keyA,intsA,lookA,ofVs,mpOf,Nat.reduceBEq,reduceAdd,reduceSub,reduceLT,reduceLeDiff,reduceMul,reduceEqDiff,reduceIte]))
  rw [← h]
  exact Frz.eq rfl (by simp)
theorem k133:chkF Tryz.prog Tryz.f133 c133=true:=by kernel_rfl
theorem k74:chkF Tryz.prog Tryz.f74 c74=true:=by kernel_rfl
theorem indexSet_spec (f:Nat) (caps:List AV) (hcap:∀ c∈caps,PureV c) (q:(List Sp)→Bool) (l:List (List Sp)) (hl:l.length < 9223372036854775808) (hq:∀ x∈l,Pure Tryz.prog f ([spS x]++caps) (bl (q x))):Pure Tryz.prog 133 [nodS l,.fn (.func f) [] caps] (n (fidx q 0 l)):=by
  refine Pure.of_body Tryz.call133 Tryz.func133 k133 (Nat.le_of_ble_eq_true rfl) ?_
  unfold c133
  (repeat' ((first
 | refine vn rfl ?_
 | simp (disch:=omega) only [wr64,Int.zero_sub]
 | refine bo (fun _=>?_) fun _=>?_
 | refine im fun _=>?_
 | refine cF ?_
 | refine om ?_
 | refine an ?_
 | fail) <;> try simp only [zT,zV,zS,zU,vcC,lateX,ex,strp,binA,elems,cells,scalar,eqC,keyA,intsA,lookA,ofVs,mpOf,Nat.reduceBEq,reduceAdd,reduceSub,reduceLT,reduceLeDiff,reduceMul,reduceEqDiff,reduceIte]))
  refine AWPC.loopI 8 l.length (fun i=>fidx q i (l.drop i)=fidx q 0 l) (by simp) ?_ ?_
  · (simp only [zT,zV,zS,zU,vcC,lateX,ex,strp,binA,elems,cells,scalar,eqC,keyA,intsA,lookA,ofVs,mpOf,Nat.reduceBEq,reduceAdd,reduceSub,reduceLT,reduceLeDiff,reduceMul,reduceEqDiff,reduceIte]; try simp)
  · intro i hi hI
    by_cases hlt:i < l.length
    · obtain ⟨x,hx⟩:∃ x,l[i]?=some x:=⟨_,List.getElem?_eq_getElem hlt⟩
      have hc:=hq x (List.mem_of_getElem? hx)
      rw [drop_cons hx,fidx] at hI
      (repeat' ((first
 | refine vn rfl ?_
 | simp (disch:=omega) only [wr64,Int.zero_sub]
 | refine bo (fun _=>?_) fun _=>?_
 | refine im fun _=>?_
 | refine cF ?_
 | refine om ?_
 | refine an ?_
 | fail) <;> try simp only [zT,zV,zS,zU,vcC,lateX,ex,strp,binA,elems,cells,scalar,eqC,keyA,intsA,lookA,ofVs,mpOf,Nat.reduceBEq,reduceAdd,reduceSub,reduceLT,reduceLeDiff,reduceMul,reduceEqDiff,reduceIte,getD_map hx]))
      all_goals try (exfalso; omega)
      refine .inl ⟨_,_,_,_,rfl,fun _=>⟨?_,hc⟩,?_⟩
      · intro a ha
        simp only [List.nil_append,List.cons_append,List.mem_cons] at ha
        rcases ha with rfl | ha
        · simp
        · exact hcap a ha
      refine owp_of_exs ?_
      simp only [zT,zV,zS,zU,vcC,lateX,ex,strp,binA,elems,cells,scalar,eqC,keyA,intsA,lookA,ofVs,mpOf,Nat.reduceBEq,reduceAdd,reduceSub,reduceLT,reduceLeDiff,reduceMul,reduceEqDiff,reduceIte]
      (repeat' ((first
 | refine vn rfl ?_
 | simp (disch:=omega) only [wr64,Int.zero_sub]
 | refine bo (fun _=>?_) fun _=>?_
 | refine im fun _=>?_
 | refine cF ?_
 | refine om ?_
 | refine an ?_
 | fail) <;> try simp only [zT,zV,zS,zU,vcC,lateX,ex,strp,binA,elems,cells,scalar,eqC,keyA,intsA,lookA,ofVs,mpOf,Nat.reduceBEq,reduceAdd,reduceSub,reduceLT,reduceLeDiff,reduceMul,reduceEqDiff,reduceIte]))
      · rename_i h
        rw [h] at hI
        simp only [if_true] at hI
        rw [← hI]
        exact Frz.eq rfl (by simp)
      · rename_i h
        rw [h] at hI
        exact ⟨⟨i+1,hlt,by simpa using hI⟩,by simp,by simp only; omega⟩
    · obtain rfl:i=l.length:=by omega
      rw [List.drop_length,fidx] at hI
      (repeat' ((first
 | refine vn rfl ?_
 | simp (disch:=omega) only [wr64,Int.zero_sub]
 | refine bo (fun _=>?_) fun _=>?_
 | refine im fun _=>?_
 | refine cF ?_
 | refine om ?_
 | refine an ?_
 | fail) <;> try simp only [zT,zV,zS,zU,vcC,lateX,ex,strp,binA,elems,cells,scalar,eqC,keyA,intsA,lookA,ofVs,mpOf,Nat.reduceBEq,reduceAdd,reduceSub,reduceLT,reduceLeDiff,reduceMul,reduceEqDiff,reduceIte]))
      all_goals try (exfalso; omega)
      rw [← hI]
      exact Frz.eq rfl (by simp)
theorem containsSet_spec (f:Nat) (caps:List AV) (hcap:∀ c∈caps,PureV c) (q:(List Sp)→Bool) (l:List (List Sp)) (hl:l.length < 9223372036854775808) (hq:∀ x∈l,Pure Tryz.prog f ([spS x]++caps) (bl (q x))):Pure Tryz.prog 74 [nodS l,.fn (.func f) [] caps] (bl (l.any q)):=by
  refine Pure.of_body Tryz.call74 Tryz.func74 k74 (Nat.le_of_ble_eq_true rfl) ?_
  unfold c74
  have h:=fidx_any q l 0
  (repeat' ((first
 | refine vn rfl ?_
 | simp (disch:=omega) only [wr64,Int.zero_sub]
 | refine bo (fun _=>?_) fun _=>?_
 | refine im fun _=>?_
 | refine cF ?_
 | refine om ?_
 | refine an ?_
 | fail) <;> try simp only [zT,zV,zS,zU,vcC,lateX,ex,strp,binA,elems,cells,scalar,eqC,keyA,intsA,lookA,ofVs,mpOf,Nat.reduceBEq,reduceAdd,reduceSub,reduceLT,reduceLeDiff,reduceMul,reduceEqDiff,reduceIte]))
  refine .inl ⟨_,_,_,_,rfl,fun _=>⟨?_,indexSet_spec f caps hcap q l hl hq⟩,?_⟩
  · intro a ha
    simp only [List.nil_append,List.cons_append,List.mem_cons,List.append_nil,List.not_mem_nil,or_false] at ha
    rcases ha with rfl | rfl
    · simp
    · exact PureV.fn (fun _ h=>absurd h (List.not_mem_nil)) hcap
  refine owp_of_exs ?_
  simp only [zT,zV,zS,zU,vcC,lateX,ex,strp,binA,elems,cells,scalar,eqC,keyA,intsA,lookA,ofVs,mpOf,Nat.reduceBEq,reduceAdd,reduceSub,reduceLT,reduceLeDiff,reduceMul,reduceEqDiff,reduceIte]
  (repeat' ((first
 | refine vn rfl ?_
 | simp (disch:=omega) only [wr64,Int.zero_sub]
 | refine bo (fun _=>?_) fun _=>?_
 | refine im fun _=>?_
 | refine cF ?_
 | refine om ?_
 | refine an ?_
 | fail) <;> try simp only [zT,zV,zS,zU,vcC,lateX,ex,strp,binA,elems,cells,scalar,eqC,keyA,intsA,lookA,ofVs,mpOf,Nat.reduceBEq,reduceAdd,reduceSub,reduceLT,reduceLeDiff,reduceMul,reduceEqDiff,reduceIte]))
  rw [← h]
  exact Frz.eq rfl (by simp)
def c94:CF:=⟨36,
 (.seq (.ops [
 ⟨some 2,.mv (.c (.slice none 0 0)),none⟩] [0])
 (.seq (.ops [
 ⟨some 3,.mv (.c (.int .i64 0)),none⟩] [0,3])
 (.seq (.seq (.ops [
 ⟨some 9,.mv (.t 0),none⟩,
 ⟨some 10,.len (.t 9),none⟩,
 ⟨some 11,.mv (.c (.int .i64 0)),none⟩] [0,3,9,10,11])
 (.block 0 (.loop (.seq (.ops [
 ⟨some 12,.bin .lss (.t 11) (.t 10),none⟩] [0,3,9,10,11,12])
 (.seq (.cond (.t 12) .skip
 (.exit 0))
 (.seq (.block 1 (.seq (.ops [
 ⟨some 13,.iaddr 1 (.t 9) (.t 11),none⟩,
 ⟨some 14,.load none (.t 13),none⟩,
 ⟨some 5,.mv (.t 14),none⟩] [0,3,5,9,10,11])
 (.seq (.ops [
 ⟨some 15,.mv (.t 3),none⟩,
 ⟨some 16,.mv (.t 5),none⟩,
 ⟨some 17,.len (.t 16),none⟩,
 ⟨some 18,.bin .add (.t 15) (.t 17),none⟩,
 ⟨some 3,.mv (.t 18),none⟩] [0,3,9,10,11])
 (.seq (.ops [
 ⟨some 19,.mv (.t 3),none⟩,
 ⟨some 20,.bin .lss (.t 19) (.c (.int .i64 0)),none⟩] [0,3,9,10,11,20])
 (.cond (.t 20) (.ops [
 ⟨some 21,.ifc 9 (.c (.string ⟨#[108,101,110,32,111,117,116,32,111,102,32,114,97,110,103,101]⟩)),none⟩,
 ⟨none,.bad,none⟩] [0,3,9,10,11])
 .skip)))))
 (.ops [
 ⟨some 22,.bin .add (.t 11) (.c (.int .i64 1)),none⟩,
 ⟨some 11,.mv (.t 22),none⟩] [0,3,9,10,11])))))))
 (.seq (.ops [
 ⟨some 23,.mv (.t 3),none⟩,
 ⟨some 24,.call (.f 145) [(.c (.slice none 0 0)),(.t 23)],none⟩,
 ⟨some 6,.mv (.t 24),none⟩] [0,6])
 (.seq (.seq (.ops [
 ⟨some 25,.mv (.t 0),none⟩,
 ⟨some 26,.len (.t 25),none⟩,
 ⟨some 27,.mv (.c (.int .i64 0)),none⟩] [6,25,26,27])
 (.block 2 (.loop (.seq (.ops [
 ⟨some 28,.bin .lss (.t 27) (.t 26),none⟩] [6,25,26,27,28])
 (.seq (.cond (.t 28) .skip
 (.exit 2))
 (.seq (.block 3 (.seq (.ops [
 ⟨some 29,.iaddr 1 (.t 25) (.t 27),none⟩,
 ⟨some 30,.load none (.t 29),none⟩,
 ⟨some 8,.mv (.t 30),none⟩] [6,8,25,26,27])
 (.ops [
 ⟨some 31,.mv (.t 6),none⟩,
 ⟨some 32,.mv (.t 8),none⟩,
 ⟨some 33,.app 30 2 16 (.t 31) (.t 32),none⟩,
 ⟨some 6,.mv (.t 33),none⟩] [6,25,26,27])))
 (.ops [
 ⟨some 34,.bin .add (.t 27) (.c (.int .i64 1)),none⟩,
 ⟨some 27,.mv (.t 34),none⟩] [6,25,26,27])))))))
 (.seq (.ops [
 ⟨some 35,.mv (.t 6),none⟩,
 ⟨some 2,.mv (.t 35),none⟩] [2])
 .ret)))))),
 [.t 2]⟩
def c163:CF:=⟨26,
 (.seq (.ops [
 ⟨some 4,.mv (.c (.bool false)),none⟩] [0,1])
 (.seq (.seq (.ops [
 ⟨some 6,.mv (.t 0),none⟩,
 ⟨some 7,.len (.t 6),none⟩,
 ⟨some 8,.mv (.t 1),none⟩,
 ⟨some 9,.len (.t 8),none⟩,
 ⟨some 10,.bin .neq (.t 7) (.t 9),none⟩] [0,1,10])
 (.cond (.t 10) (.seq (.ops [
 ⟨some 4,.mv (.c (.bool false)),none⟩] [4])
 .ret)
 .skip))
 (.seq (.seq (.ops [
 ⟨some 11,.mv (.t 0),none⟩,
 ⟨some 12,.len (.t 11),none⟩,
 ⟨some 13,.mv (.c (.int .i64 0)),none⟩] [0,1,12,13])
 (.block 0 (.loop (.seq (.ops [
 ⟨some 14,.bin .lss (.t 13) (.t 12),none⟩] [0,1,12,13,14])
 (.seq (.cond (.t 14) .skip
 (.exit 0))
 (.seq (.block 1 (.seq (.ops [
 ⟨some 15,.mv (.t 13),none⟩,
 ⟨some 5,.mv (.t 15),none⟩] [0,1,5,12,13])
 (.seq (.draw [
 ⟨some 16,.mv (.t 0),none⟩,
 ⟨some 17,.mv (.t 5),none⟩,
 ⟨some 18,.iaddr 2 (.t 16) (.t 17),none⟩,
 ⟨some 19,.load (some 2) (.t 18),none⟩,
 ⟨some 20,.mv (.t 1),none⟩,
 ⟨some 21,.mv (.t 5),none⟩,
 ⟨some 22,.iaddr 2 (.t 20) (.t 21),none⟩,
 ⟨some 23,.load (some 2) (.t 22),none⟩,
 ⟨some 24,.eqs true [some .i64,some .i64] (.t 19) (.t 23),none⟩] [
 ] [0,1,12,13,24])
 (.cond (.t 24) (.seq (.ops [
 ⟨some 4,.mv (.c (.bool false)),none⟩] [4])
 .ret)
 .skip))))
 (.ops [
 ⟨some 25,.bin .add (.t 13) (.c (.int .i64 1)),none⟩,
 ⟨some 13,.mv (.t 25),none⟩] [0,1,12,13])))))))
 (.seq (.ops [
 ⟨some 4,.mv (.c (.bool true)),none⟩] [4])
 .ret)))),
 [.t 4]⟩
def c134:CF:=⟨10,
 (.seq (.ops [
 ⟨some 4,.mv (.c (.bool false)),none⟩] [0,1])
 (.seq (.ops [
 ⟨some 5,.mv (.t 0),none⟩,
 ⟨some 6,.mv (.t 1),none⟩,
 ⟨some 7,.call (.f 81) [(.t 5),(.t 6)],none⟩,
 ⟨some 8,.mv (.t 0),none⟩,
 ⟨some 9,.call (.f 163) [(.t 7),(.t 8)],none⟩,
 ⟨some 4,.mv (.t 9),none⟩] [4])
 .ret)),
 [.t 4]⟩
def c132:CF:=⟨6,
 (.seq (.ops [
 ⟨some 2,.mv (.c (.bool false)),none⟩] [0])
 (.seq (.ops [
 ⟨some 3,.mv (.t 0),none⟩,
 ⟨some 4,.len (.t 3),none⟩,
 ⟨some 5,.bin .gtr (.t 4) (.c (.int .i64 0)),none⟩,
 ⟨some 2,.mv (.t 5),none⟩] [2])
 .ret)),
 [.t 2]⟩
def c72:CF:=⟨5,
 (.seq (.ops [
 ⟨some 2,.mv (.c (.bool false)),none⟩] [0])
 (.seq (.ops [
 ⟨some 3,.mv (.t 0),none⟩,
 ⟨some 4,.call (.f 74) [(.t 3),(.f 132)],none⟩,
 ⟨some 2,.mv (.t 4),none⟩] [2])
 .ret)),
 [.t 2]⟩
theorem k94:chkF Tryz.prog Tryz.f94 c94=true:=by kernel_rfl
theorem k163:chkF Tryz.prog Tryz.f163 c163=true:=by kernel_rfl
theorem k134:chkF Tryz.prog Tryz.f134 c134=true:=by kernel_rfl
theorem k132:chkF Tryz.prog Tryz.f132 c132=true:=by kernel_rfl
theorem k72:chkF Tryz.prog Tryz.f72 c72=true:=by kernel_rfl
theorem flatten_take {rows:List (List Sp)} {i:Nat} {r:List Sp} (h:rows[i]?=some r):(rows.take (i+1)).flatten=(rows.take i).flatten++r:=by
  rw [List.take_add_one,h]; simp
theorem flatten_le (rows:List (List Sp)) (i:Nat):((rows.take i).flatten).length≤rows.flatten.length:=by
  have:rows.flatten=(rows.take i).flatten++(rows.drop i).flatten:=by rw [← List.flatten_append,List.take_append_drop]
  rw [this,List.length_append]; omega
theorem concat_spec (rows:List (List Sp)) (hlen:rows.length < 9223372036854775808) (htot:(rows.flatten.length:Int) * 16≤140737488355328) :
    Pure Tryz.prog 94 [nodS rows] (spS rows.flatten):=by
  refine Pure.of_body Tryz.call94 Tryz.func94 k94 (Nat.le_of_ble_eq_true rfl) ?_
  unfold c94
  (repeat' ((first
 | refine vn rfl ?_
 | simp (disch:=omega) only [wr64,Int.zero_sub]
 | refine bo (fun _=>?_) fun _=>?_
 | refine im fun _=>?_
 | refine cF ?_
 | refine om ?_
 | refine an ?_
 | fail) <;> try simp only [zT,zV,zS,zU,vcC,lateX,ex,strp,binA,elems,cells,scalar,eqC,keyA,intsA,lookA,ofVs,mpOf,Nat.reduceBEq,reduceAdd,reduceSub,reduceLT,reduceLeDiff,reduceMul,reduceEqDiff,reduceIte]))
  refine AWPC.loopS (α:={ i:Nat // i≤rows.length }) [3,11] (fun i=>[(3,n (((rows.take i.1).flatten).length)),(11,n i.1)]) (fun i=>rows.length - i.1) ⟨0,Nat.zero_le _⟩ ?_ ?_
  · (simp only [zT,zV,zS,zU,vcC,lateX,ex,strp,binA,elems,cells,scalar,eqC,keyA,intsA,lookA,ofVs,mpOf,Nat.reduceBEq,reduceAdd,reduceSub,reduceLT,reduceLeDiff,reduceMul,reduceEqDiff,reduceIte]; try simp)
  · rintro ⟨i,hi⟩
    have hfl:=flatten_le rows i
    by_cases hlt:i < rows.length
    · obtain ⟨l,hr⟩:∃ r,rows[i]?=some r:=⟨_,List.getElem?_eq_getElem hlt⟩
      have ft:=flatten_take hr
      have hfl1:=flatten_le rows (i+1)
      have hl2:((rows.take (i+1)).flatten).length=((rows.take i).flatten).length+l.length:=by rw [ft,List.length_append]
      (repeat' ((first
 | refine vn rfl ?_
 | simp (disch:=omega) only [wr64,Int.zero_sub]
 | refine bo (fun _=>?_) fun _=>?_
 | refine im fun _=>?_
 | refine cF ?_
 | refine om ?_
 | refine an ?_
 | fail) <;> try simp only [zT,zV,zS,zU,vcC,lateX,ex,strp,binA,elems,cells,scalar,eqC,keyA,intsA,lookA,ofVs,mpOf,Nat.reduceBEq,reduceAdd,reduceSub,reduceLT,reduceLeDiff,reduceMul,reduceEqDiff,reduceIte,getD_map hr]))
      all_goals try (exfalso; omega)
      exact ⟨⟨i+1,hlt⟩,⟨by rw [hl2]; simp,by simp⟩,by simp only; omega⟩
    · obtain rfl:i=rows.length:=by omega
      rw [List.take_length]
      (repeat' ((first
 | refine vn rfl ?_
 | simp (disch:=omega) only [wr64,Int.zero_sub]
 | refine bo (fun _=>?_) fun _=>?_
 | refine im fun _=>?_
 | refine cF ?_
 | refine om ?_
 | refine an ?_
 | fail) <;> try simp only [zT,zV,zS,zU,vcC,lateX,ex,strp,binA,elems,cells,scalar,eqC,keyA,intsA,lookA,ofVs,mpOf,Nat.reduceBEq,reduceAdd,reduceSub,reduceLT,reduceLeDiff,reduceMul,reduceEqDiff,reduceIte]))
      all_goals try (exfalso; omega)
      refine .inr (.inl ⟨_,_,_,_,rfl,fun _=>⟨grow_does [] _ (by omega) htot,?_⟩,fun h=>by cases h⟩)
      rintro res σ' ⟨rfl,rfl⟩
      refine owp_of_exs ?_
      simp only [zT,zV,zS,zU,vcC,lateX,ex,strp,binA,elems,cells,scalar,eqC,keyA,intsA,lookA,ofVs,mpOf,Nat.reduceBEq,reduceAdd,reduceSub,reduceLT,reduceLeDiff,reduceMul,reduceEqDiff,reduceIte]
      (repeat' ((first
 | refine vn rfl ?_
 | simp (disch:=omega) only [wr64,Int.zero_sub]
 | refine bo (fun _=>?_) fun _=>?_
 | refine im fun _=>?_
 | refine cF ?_
 | refine om ?_
 | refine an ?_
 | fail) <;> try simp only [zT,zV,zS,zU,vcC,lateX,ex,strp,binA,elems,cells,scalar,eqC,keyA,intsA,lookA,ofVs,mpOf,Nat.reduceBEq,reduceAdd,reduceSub,reduceLT,reduceLeDiff,reduceMul,reduceEqDiff,reduceIte]))
      refine AWPC.loopE (α:={ i:Nat // i≤rows.length }) [6,27] (fun i=>[(6,.own 0 0 ((rows.take i.1).flatten).length),(27,n i.1)]) (fun i=>[some [spO (rows.take i.1).flatten]]) (fun i=>rows.length - i.1) ⟨0,Nat.zero_le _⟩ ?_ (by simp) ?_
      · (simp only [zT,zV,zS,zU,vcC,lateX,ex,strp,binA,elems,cells,scalar,eqC,keyA,intsA,lookA,ofVs,mpOf,Nat.reduceBEq,reduceAdd,reduceSub,reduceLT,reduceLeDiff,reduceMul,reduceEqDiff,reduceIte]; try simp)
      · rintro ⟨i,hi⟩
        have hfl:=flatten_le rows i
        by_cases hlt:i < rows.length
        · obtain ⟨l,hr⟩:∃ r,rows[i]?=some r:=⟨_,List.getElem?_eq_getElem hlt⟩
          have ft:=flatten_take hr
          have hfl1:=flatten_le rows (i+1)
          have hl2:((rows.take (i+1)).flatten).length=((rows.take i).flatten).length+l.length:=by rw [ft,List.length_append]
          (repeat' ((first
 | refine vn rfl ?_
 | simp (disch:=omega) only [wr64,Int.zero_sub]
 | refine bo (fun _=>?_) fun _=>?_
 | refine im fun _=>?_
 | refine cF ?_
 | refine om ?_
 | refine an ?_
 | fail) <;> try simp only [zT, zV, zS, zU, vcC, lateX, ex, strp, binA, elems, cells, scalar, eqC, keyA, intsA, lookA, ofVs, mpOf, Nat.reduceBEq, reduceAdd, reduceSub, reduceLT, reduceLeDiff, reduceMul, reduceEqDiff, reduceIte, getD_map hr]))
          all_goals try (exfalso; omega)
          refine ⟨⟨rows_ok l,by omega⟩,?_⟩
          (repeat' ((first
 | refine vn rfl ?_
 | simp (disch:=omega) only [wr64,Int.zero_sub]
 | refine bo (fun _=>?_) fun _=>?_
 | refine im fun _=>?_
 | refine cF ?_
 | refine om ?_
 | refine an ?_
 | fail) <;> try simp only [zT, zV, zS, zU, vcC, lateX, ex, strp, binA, elems, cells, scalar, eqC, keyA, intsA, lookA, ofVs, mpOf, Nat.reduceBEq, reduceAdd, reduceSub, reduceLT, reduceLeDiff, reduceMul, reduceEqDiff, reduceIte]))
          exact ⟨⟨i+1,hlt⟩,⟨by rw [hl2],by simp⟩,by rw [ft]; simp [spO],by simp only; omega⟩
        · obtain rfl:i=rows.length:=by omega
          rw [List.take_length]
          (repeat' ((first
 | refine vn rfl ?_
 | simp (disch:=omega) only [wr64,Int.zero_sub]
 | refine bo (fun _=>?_) fun _=>?_
 | refine im fun _=>?_
 | refine cF ?_
 | refine om ?_
 | refine an ?_
 | fail) <;> try simp only [zT, zV, zS, zU, vcC, lateX, ex, strp, binA, elems, cells, scalar, eqC, keyA, intsA, lookA, ofVs, mpOf, Nat.reduceBEq, reduceAdd, reduceSub, reduceLT, reduceLeDiff, reduceMul, reduceEqDiff, reduceIte]))
          all_goals try (exfalso; omega)
          all_goals exact frz_sp rfl
theorem meet_specN (a b:List Sp) (ha:Norm a) (hal:a.length < 9223372036854775808) (hb:good b):Pure Tryz.prog 81 [spS a,spS b] (spS (meet a b)):=by
  have hg:=good_len (meet_good (a:=a) hb)
  rw [← comm_meet ha hb.1] at hg ⊢
  have:=good_len hb
  exact meet_spec0 a b hal (by omega) (by omega)
theorem meet_spec (a b:List Sp) (ha:good a) (hb:good b):Pure Tryz.prog 81 [spS a,spS b] (spS (meet a b)):=by
  have:=good_len ha
  exact meet_specN a b ha.1 (by omega) hb
theorem gatherV_spec (l:List Sp) (hl:(l.length:Int) * 16≤140737488355328) (hne:∀ s∈l,s.lo≤s.hi) (hbd:∀ s∈l,-1000000≤s.lo∧s.hi≤1000000) :
    Pure Tryz.prog 79 [.fn (.func 144) [] [.iptr [spS l] 0]] (spS (joins [] l)) :=
  gather_spec 144 [.iptr [spS l] 0] l hl hne hbd (values_iter l (by omega))
theorem frz_nil {σ:Sto} {k:Nat}:Frz σ (.v (.slice none 0 0)) (.sl k []):=fun w X β x hs hx=>by
  cases hx; exact .slnil k
theorem frz2 {σ:Sto} {a b:AV} {x:AV} (h:Frz σ a b) (hx:PureV x):Frz σ (.tup [a,x]) (.tup [b,x]):=Frz.tup rfl fun i hi=>by
  match i,hi with
  | 0,_=>exact h
  | 1,_=>exact Frz.eq rfl hx
theorem good_in {l:List Sp} (h:good l):∀ s∈l,-1000000≤s.lo∧s.hi≤1000000:=fun s hs=>by have:=h.2 s hs; omega
theorem equal_spec (a b:List Sp) (ha:a.length < 9223372036854775808) (hb:b.length < 9223372036854775808):Pure Tryz.prog 163 [spS a,spS b] (bl (decide (a=b))):=by
  refine Pure.of_body Tryz.call163 Tryz.func163 k163 (Nat.le_of_ble_eq_true rfl) ?_
  unfold c163
  (repeat' ((first
 | refine vn rfl ?_
 | simp (disch:=omega) only [wr64,Int.zero_sub]
 | refine bo (fun _=>?_) fun _=>?_
 | refine im fun _=>?_
 | refine cF ?_
 | refine om ?_
 | refine an ?_
 | fail) <;> try simp only [zT,zV,zS,zU,vcC,lateX,ex,strp,binA,elems,cells,scalar,eqC,keyA,intsA,lookA,ofVs,mpOf,Nat.reduceBEq,reduceAdd,reduceSub,reduceLT,reduceLeDiff,reduceMul,reduceEqDiff,reduceIte]))
  · rename_i h
    refine Frz.eq ?_ (by simp)
    rw [decide_eq_false (fun e=>by rw [e] at h; simp at h)]
  · rename_i h
    have hlen:a.length=b.length:=by omega
    refine AWPC.loopI 13 a.length (fun i=>a.take i=b.take i) (by simp) ?_ ?_
    · (simp only [zT,zV,zS,zU,vcC,lateX,ex,strp,binA,elems,cells,scalar,eqC,keyA,intsA,lookA,ofVs,mpOf,Nat.reduceBEq,reduceAdd,reduceSub,reduceLT,reduceLeDiff,reduceMul,reduceEqDiff,reduceIte]; try simp)
    · intro i hi hI
      by_cases hlt:i < a.length
      · obtain ⟨s,hs⟩:∃ s,a[i]?=some s:=⟨_,List.getElem?_eq_getElem hlt⟩
        obtain ⟨t,ht⟩:∃ t,b[i]?=some t:=⟨_,List.getElem?_eq_getElem (by omega)⟩
        (repeat' ((first
 | refine vn rfl ?_
 | simp (disch:=omega) only [wr64,Int.zero_sub]
 | refine bo (fun _=>?_) fun _=>?_
 | refine im fun _=>?_
 | refine cF ?_
 | refine om ?_
 | refine an ?_
 | fail) <;> try simp only [zT, zV, zS, zU, vcC, lateX, ex, strp, binA, elems, cells, scalar, eqC, keyA, intsA, lookA, ofVs, mpOf, Nat.reduceBEq, reduceAdd, reduceSub, reduceLT, reduceLeDiff, reduceMul, reduceEqDiff, reduceIte, getD_map hs, getD_map ht]))
        all_goals try (exfalso; omega)
        · rename_i h2
          refine Frz.eq ?_ (by simp)
          rw [decide_eq_false (fun e=>by subst e; rw [hs] at ht; injection ht with ht; subst ht; simp at h2)]
        · rename_i h2
          obtain ⟨s1,s2⟩:=s
          obtain ⟨t1,t2⟩:=t
          simp only at h2
          obtain ⟨rfl,rfl⟩:=h2
          exact ⟨⟨i+1,hlt,by rw [List.take_add_one,List.take_add_one,hI,hs,ht]⟩,by simp,by simp only; omega⟩
      · obtain rfl:i=a.length:=by omega
        (repeat' ((first
 | refine vn rfl ?_
 | simp (disch:=omega) only [wr64,Int.zero_sub]
 | refine bo (fun _=>?_) fun _=>?_
 | refine im fun _=>?_
 | refine cF ?_
 | refine om ?_
 | refine an ?_
 | fail) <;> try simp only [zT, zV, zS, zU, vcC, lateX, ex, strp, binA, elems, cells, scalar, eqC, keyA, intsA, lookA, ofVs, mpOf, Nat.reduceBEq, reduceAdd, reduceSub, reduceLT, reduceLeDiff, reduceMul, reduceEqDiff, reduceIte]))
        all_goals try (exfalso; omega)
        rw [List.take_length,hlen,List.take_length] at hI
        rw [decide_eq_true hI]
        exact Frz.eq rfl (by simp)
theorem twithin_spec (a b:List Sp) (ha:good a) (hb:good b):Pure Tryz.prog 134 [spS a,spS b] (bl (decide (meet a b=a))):=by
  refine Pure.of_body Tryz.call134 Tryz.func134 k134 (Nat.le_of_ble_eq_true rfl) ?_
  unfold c134
  have l1:=good_len ha
  have l2:=good_len (meet_good (a:=a) hb)
  (repeat' ((first
 | refine vn rfl ?_
 | simp (disch:=omega) only [wr64,Int.zero_sub]
 | refine bo (fun _=>?_) fun _=>?_
 | refine im fun _=>?_
 | ((repeat refine si ?_); (first | ((first | refine .inl ⟨_,_,_,_,rfl,fun _=>pu (by first | exact meet_spec a b ha hb | exact equal_spec (meet a b) a (by omega) (by omega)),?_⟩ | refine ⟨_,_,_,_,rfl,fun _=>pu (by first | exact meet_spec a b ha hb | exact equal_spec (meet a b) a (by omega) (by omega)),?_⟩); (first | refine o1 ?_ | refine o2 ?_ | refine o3 ?_ | refine o4 ?_)) | refine .inl ⟨_,_,_,_,rfl,pu (by first | exact meet_spec a b ha hb | exact equal_spec (meet a b) a (by omega) (by omega)),?_⟩))
 | refine cF ?_
 | refine om ?_
 | refine an ?_
 | fail) <;> try simp only [zT,zV,zS,zU,vcC,lateX,ex,strp,binA,elems,cells,scalar,eqC,keyA,intsA,lookA,ofVs,mpOf,Nat.reduceBEq,reduceAdd,reduceSub,reduceLT,reduceLeDiff,reduceMul,reduceEqDiff,reduceIte]))
  all_goals exact Frz.eq rfl (by simp)
theorem some1_spec (x:List Sp) (hx:x.length < 9223372036854775808):Pure Tryz.prog 132 [spS x] (bl (!x.isEmpty)):=by
  refine Pure.of_body Tryz.call132 Tryz.func132 k132 (Nat.le_of_ble_eq_true rfl) ?_
  unfold c132
  (repeat' ((first
 | refine vn rfl ?_
 | simp (disch:=omega) only [wr64,Int.zero_sub]
 | refine bo (fun _=>?_) fun _=>?_
 | refine im fun _=>?_
 | refine cF ?_
 | refine om ?_
 | refine an ?_
 | fail) <;> try simp only [zT,zV,zS,zU,vcC,lateX,ex,strp,binA,elems,cells,scalar,eqC,keyA,intsA,lookA,ofVs,mpOf,Nat.reduceBEq,reduceAdd,reduceSub,reduceLT,reduceLeDiff,reduceMul,reduceEqDiff,reduceIte]))
  refine Frz.eq (congrArg bl ?_) (by simp)
  cases x <;> simp
theorem some_spec (l:List (List Sp)) (hl:l.length < 9223372036854775808) (hx:∀ x∈l,x.length < 9223372036854775808):Pure Tryz.prog 72 [nodS l] (bl (some' l)):=by
  refine Pure.of_body Tryz.call72 Tryz.func72 k72 (Nat.le_of_ble_eq_true rfl) ?_
  unfold c72
  have h:=containsSet_spec 132 [] (by simp) (fun s=>!s.isEmpty) l hl (fun x h=>some1_spec x (hx x h))
  (repeat' ((first
 | refine vn rfl ?_
 | simp (disch:=omega) only [wr64,Int.zero_sub]
 | refine bo (fun _=>?_) fun _=>?_
 | refine im fun _=>?_
 | ((repeat refine si ?_); (first | ((first | refine .inl ⟨_,_,_,_,rfl,fun _=>pu h,?_⟩ | refine ⟨_,_,_,_,rfl,fun _=>pu h,?_⟩); (first | refine o1 ?_ | refine o2 ?_ | refine o3 ?_ | refine o4 ?_)) | refine .inl ⟨_,_,_,_,rfl,pu h,?_⟩))
 | refine cF ?_
 | refine om ?_
 | refine an ?_
 | fail) <;> try simp only [zT,zV,zS,zU,vcC,lateX,ex,strp,binA,elems,cells,scalar,eqC,keyA,intsA,lookA,ofVs,mpOf,Nat.reduceBEq,reduceAdd,reduceSub,reduceLT,reduceLeDiff,reduceMul,reduceEqDiff,reduceIte]))
  all_goals exact Frz.eq rfl (by simp)
def c151:CF:=⟨19,
 (.seq (.ops [
 ⟨some 2,.box false 124 3 (.t 0),none⟩,
 ⟨some 3,.mv (.c (.bool false)),none⟩] [1,2])
 (.seq (.ops [
 ⟨some 4,.faddr 0 (.t 2),none⟩,
 ⟨some 5,.load none (.t 4),none⟩,
 ⟨some 6,.bin .lss (.t 5) (.c (.int .i64 0)),none⟩,
 ⟨some 7,.mv (.t 6),none⟩,
 ⟨some 8,.faddr 0 (.t 2),some (7,false)⟩,
 ⟨some 9,.load none (.t 8),some (7,false)⟩,
 ⟨some 10,.load none (.t 1),some (7,false)⟩,
 ⟨some 11,.bin .geq (.t 9) (.t 10),some (7,false)⟩,
 ⟨some 12,.pick (.t 7) (.c (.bool true)) (.t 11),none⟩,
 ⟨some 13,.mv (.t 12),none⟩,
 ⟨some 14,.faddr 1 (.t 2),some (13,false)⟩,
 ⟨some 15,.load (some 2) (.t 14),some (13,false)⟩,
 ⟨some 16,.call (.f 105) [(.t 15)],some (13,false)⟩,
 ⟨some 17,.un .not (.t 16),some (13,false)⟩,
 ⟨some 18,.pick (.t 13) (.c (.bool true)) (.t 17),none⟩,
 ⟨some 3,.mv (.t 18),none⟩] [3])
 .ret)),
 [.t 3]⟩
def c153:CF:=⟨20,
 (.seq (.ops [
 ⟨some 2,.box false 80 2 (.t 0),none⟩,
 ⟨some 3,.mv (.c (.bool false)),none⟩] [1,2])
 (.seq (.ops [
 ⟨some 4,.faddr 0 (.t 2),none⟩,
 ⟨some 5,.load none (.t 4),none⟩,
 ⟨some 6,.call (.f 78) [(.t 5)],none⟩,
 ⟨some 7,.un .not (.t 6),none⟩,
 ⟨some 8,.mv (.t 7),none⟩,
 ⟨some 9,.faddr 1 (.t 2),some (8,false)⟩,
 ⟨some 10,.load none (.t 9),some (8,false)⟩,
 ⟨some 11,.len (.t 10),some (8,false)⟩,
 ⟨some 12,.bin .gtr (.t 11) (.c (.int .i64 64)),some (8,false)⟩,
 ⟨some 13,.pick (.t 8) (.c (.bool true)) (.t 12),none⟩,
 ⟨some 14,.mv (.t 13),none⟩,
 ⟨some 15,.faddr 1 (.t 2),some (14,false)⟩,
 ⟨some 16,.load none (.t 15),some (14,false)⟩,
 ⟨some 17,.load none (.t 1),some (14,false)⟩,
 ⟨some 18,.call (.f 154) [(.t 16),(.t 17)],some (14,false)⟩,
 ⟨some 19,.pick (.t 14) (.c (.bool true)) (.t 18),none⟩,
 ⟨some 3,.mv (.t 19),none⟩] [3])
 .ret)),
 [.t 3]⟩
def c115:CF:=⟨21,
 (.seq (.ops [
 ⟨some 3,.box false 3 1 (.t 1),none⟩,
 ⟨some 4,.mv (.c (.bool false)),none⟩] [0,3])
 (.seq (.ops [
 ⟨some 6,.mkfn (.func 151) [] [(.t 3)],none⟩,
 ⟨some 5,.alloc 154 1 [.nilFunc],none⟩,
 ⟨none,.store 1 (.t 5) (.t 6),none⟩] [0,5])
 (.seq (.ops [
 ⟨some 7,.mv (.t 0),none⟩,
 ⟨some 8,.len (.t 7),none⟩,
 ⟨some 9,.bin .geq (.t 8) (.c (.int .i64 1)),none⟩,
 ⟨some 10,.mv (.t 9),none⟩,
 ⟨some 11,.mv (.t 0),some (10,true)⟩,
 ⟨some 12,.len (.t 11),some (10,true)⟩,
 ⟨some 13,.bin .leq (.t 12) (.c (.int .i64 4000)),some (10,true)⟩,
 ⟨some 14,.pick (.t 10) (.t 13) (.c (.bool false)),none⟩,
 ⟨some 15,.mv (.t 14),none⟩,
 ⟨some 16,.mv (.t 0),some (15,true)⟩,
 ⟨some 17,.mkfn (.func 153) [] [(.t 5)],some (15,true)⟩,
 ⟨some 18,.call (.f 152) [(.t 16),(.t 17)],some (15,true)⟩,
 ⟨some 19,.un .not (.t 18),some (15,true)⟩,
 ⟨some 20,.pick (.t 15) (.t 19) (.c (.bool false)),none⟩,
 ⟨some 4,.mv (.t 20),none⟩] [4])
 .ret))),
 [.t 4]⟩
def c114:CF:=⟨4,
 (.seq (.ops [
 ⟨some 1,.box false 22 1 (.t 0),none⟩,
 ⟨some 2,.mv (.c (.nilFunc)),none⟩] [1])
 (.seq (.ops [
 ⟨some 3,.mkfn (.func 150) [] [(.t 1)],none⟩,
 ⟨some 2,.mv (.t 3),none⟩] [2])
 .ret)),
 [.t 2]⟩
def c150:CF:=⟨19,
 (.seq (.ops [
 ⟨some 4,.load none (.t 1),none⟩,
 ⟨some 5,.len (.t 4),none⟩,
 ⟨some 6,.bin .sub (.t 5) (.c (.int .i64 1)),none⟩,
 ⟨some 3,.mv (.t 6),none⟩] [0,1,3])
 (.block 0 (.loop (.seq (.seq (.ops [
 ⟨some 7,.mv (.t 3),none⟩,
 ⟨some 8,.bin .geq (.t 7) (.c (.int .i64 0)),none⟩] [0,1,3,8])
 (.cond (.t 8) .skip
 (.exit 0)))
 (.seq (.block 1 (.seq (.ops [
 ⟨some 11,.mv (.t 0),none⟩,
 ⟨some 12,.mv (.t 3),none⟩,
 ⟨some 13,.load none (.t 1),none⟩,
 ⟨some 14,.mv (.t 3),none⟩,
 ⟨some 15,.iaddr 1 (.t 13) (.t 14),none⟩,
 ⟨some 16,.load none (.t 15),none⟩,
 ⟨some 17,.call (.t 11) [(.t 12),(.t 16)],none⟩,
 ⟨some 18,.un .not (.t 17),none⟩] [0,1,3,18])
 (.cond (.t 18) .ret
 .skip)))
 (.ops [
 ⟨some 9,.mv (.t 3),none⟩,
 ⟨some 10,.bin .sub (.t 9) (.c (.int .i64 1)),none⟩,
 ⟨some 3,.mv (.t 10),none⟩] [0,1,3])))))),
 []⟩
def c53:CF:=⟨27,
 (.seq (.ops [
 ⟨some 1,.box false 24 1 (.t 0),none⟩,
 ⟨some 2,.alloc 39 1 [.int .i64 0],none⟩] [1,2])
 (.seq (.seq (.ops [
 ⟨some 6,.faddr 0 (.t 1),none⟩,
 ⟨some 7,.load none (.t 6),none⟩,
 ⟨some 8,.len (.t 7),none⟩,
 ⟨some 9,.bin .lss (.t 8) (.c (.int .i64 1)),none⟩,
 ⟨some 10,.mv (.t 9),none⟩,
 ⟨some 11,.faddr 0 (.t 1),some (10,false)⟩,
 ⟨some 12,.load none (.t 11),some (10,false)⟩,
 ⟨some 13,.len (.t 12),some (10,false)⟩,
 ⟨some 14,.bin .gtr (.t 13) (.c (.int .i64 401)),some (10,false)⟩,
 ⟨some 15,.pick (.t 10) (.c (.bool true)) (.t 14),none⟩] [1,2,15])
 (.cond (.t 15) (.seq (.ops [
 ⟨none,.store 1 (.t 2) (.c (.int .i64 40)),none⟩] [2])
 .ret)
 .skip))
 (.seq (.ops [
 ⟨some 3,.alloc 3 1 [.int .i64 0],none⟩,
 ⟨none,.store 1 (.t 3) (.c (.int .i64 0)),none⟩] [1,2,3])
 (.seq (.seq (.ops [
 ⟨some 16,.faddr 0 (.t 1),none⟩,
 ⟨some 17,.load none (.t 16),none⟩,
 ⟨some 18,.call (.f 114) [(.t 17)],none⟩] [2,3,18])
 (.block 0 (.rng (.t 18) [19,20] (.ops [
 ⟨some 5,.mv (.t 20),none⟩] [2,3,5])
 (.block 1 (.seq (.seq (.ops [
 ⟨some 21,.mv (.t 5),none⟩,
 ⟨some 22,.load none (.t 3),none⟩,
 ⟨some 23,.call (.f 115) [(.t 21),(.t 22)],none⟩,
 ⟨some 24,.un .not (.t 23),none⟩] [2,3,5,24])
 (.cond (.t 24) (.seq (.ops [
 ⟨none,.store 1 (.t 2) (.c (.int .i64 40)),none⟩] [2])
 .ret)
 .skip))
 (.ops [
 ⟨some 25,.mv (.t 5),none⟩,
 ⟨some 26,.len (.t 25),none⟩,
 ⟨none,.store 1 (.t 3) (.t 26),none⟩] [2,3]))))))
 (.seq (.ops [
 ⟨none,.store 1 (.t 2) (.c (.int .i64 0)),none⟩] [2])
 .ret))))),
 [.c 2 none]⟩
theorem k151:chkF Tryz.prog Tryz.f151 c151=true:=by kernel_rfl
theorem k153:chkF Tryz.prog Tryz.f153 c153=true:=by kernel_rfl
theorem k115:chkF Tryz.prog Tryz.f115 c115=true:=by kernel_rfl
theorem k114:chkF Tryz.prog Tryz.f114 c114=true:=by kernel_rfl
theorem k150:chkF Tryz.prog Tryz.f150 c150=true:=by kernel_rfl
theorem k53:chkF Tryz.prog Tryz.f53 c53=true:=by kernel_rfl
def nodSz (x:Nod):Prop:=x.al.length < 9223372036854775808∧x.nx.length < 9223372036854775808
def stgSz (l:List Nod):Prop:=l.length < 9223372036854775808∧∀ x∈l,nodSz x
def trkSz (t:Trk):Prop:=t.length < 9223372036854775808∧∀ l∈t,stgSz l
theorem bad1_spec (m:Nat) (e:Edg):Pure Tryz.prog 151 [.agg (Edg.cs e),.iptr [n m] 0] (bl (tr (¬ edgOk m e))):=by
  refine Pure.of_body Tryz.call151 Tryz.func151 k151 (Nat.le_of_ble_eq_true rfl) ?_
  unfold c151
  (repeat' ((first
 | refine vn rfl ?_
 | simp (disch:=omega) only [wr64,Int.zero_sub]
 | refine bo (fun _=>?_) fun _=>?_
 | refine im fun _=>?_
 | ((repeat refine si ?_); (first | ((first | refine .inl ⟨_,_,_,_,rfl,fun _=>pu (isChange_spec e.ch),?_⟩ | refine ⟨_,_,_,_,rfl,fun _=>pu (isChange_spec e.ch),?_⟩); (first | refine o1 ?_ | refine o2 ?_ | refine o3 ?_ | refine o4 ?_)) | refine .inl ⟨_,_,_,_,rfl,pu (isChange_spec e.ch),?_⟩))
 | refine cF ?_
 | refine om ?_
 | refine an ?_
 | fail) <;> try simp only [zT,zV,zS,zU,vcC,lateX,ex,strp,binA,elems,cells,scalar,eqC,keyA,intsA,lookA,ofVs,mpOf,Nat.reduceBEq,reduceAdd,reduceSub,reduceLT,reduceLeDiff,reduceMul,reduceEqDiff,reduceIte]))
  all_goals refine Frz.eq (congrArg bl ?_) (by simp)
  all_goals (rw [decide_eq_decide]; unfold edgOk; omega)
theorem any_not {α:Type} (l:List α) (p:α→Prop):(l.any fun x=>tr (¬ p x))=tr (¬ ∀ x∈l,p x):=by
  rw [Bool.eq_iff_iff,tr_iff,List.any_eq_true]
  simp only [tr_iff]
  constructor
  · rintro ⟨x,hx,h⟩ h2; exact h (h2 x hx)
  · intro h
    by_cases h3:∃ x∈l,¬ p x
    · exact h3
    · exact absurd (fun x hx=>Classical.byContradiction fun hp=>h3 ⟨x,hx,hp⟩) h
theorem bad2_spec (m:Nat) (x:Nod) (hx:nodSz x):Pure Tryz.prog 153 [.agg (Nod.cs x),.iptr [.fn (.func 151) [] [.iptr [n m] 0]] 0] (bl (tr (¬ nodOk m x))):=by
  refine Pure.of_body Tryz.call153 Tryz.func153 k153 (Nat.le_of_ble_eq_true rfl) ?_
  unfold c153
  have h:=containsEdg_spec 151 [.iptr [n m] 0] (by simp) (fun e=>tr (¬ edgOk m e)) x.nx hx.2 (fun e _=>bad1_spec m e)
  rw [any_not] at h
  have h1:=isSmall_spec x.al hx.1
  (repeat' ((first
 | refine vn rfl ?_
 | simp (disch:=omega) only [wr64,Int.zero_sub]
 | refine bo (fun _=>?_) fun _=>?_
 | refine im fun _=>?_
 | ((repeat refine si ?_); (first | ((first | refine .inl ⟨_,_,_,_,rfl,fun _=>pu (by first | exact h1 | exact h),?_⟩ | refine ⟨_,_,_,_,rfl,fun _=>pu (by first | exact h1 | exact h),?_⟩); (first | refine o1 ?_ | refine o2 ?_ | refine o3 ?_ | refine o4 ?_)) | refine .inl ⟨_,_,_,_,rfl,pu (by first | exact h1 | exact h),?_⟩))
 | refine cF ?_
 | refine om ?_
 | refine an ?_
 | fail) <;> try simp only [zT,zV,zS,zU,vcC,lateX,ex,strp,binA,elems,cells,scalar,eqC,keyA,intsA,lookA,ofVs,mpOf,Nat.reduceBEq,reduceAdd,reduceSub,reduceLT,reduceLeDiff,reduceMul,reduceEqDiff,reduceIte]))
  all_goals refine Frz.eq (congrArg bl (decide_eq_decide.2 ?_)) (by simp)
  unfold nodOk
  constructor
  · rintro ((h | h) | h) ⟨h1,h2,h3⟩
    · exact h h1
    · omega
    · exact h h3
  · intro h
    by_cases c1:small x.al
    · by_cases c2:x.nx.length≤64
      · exact .inr fun c3=>h ⟨c1,c2,c3⟩
      · exact .inl (.inr (by omega))
    · exact .inl (.inl c1)
theorem isStage_spec (l:List Nod) (m:Nat) (hl:stgSz l):Pure Tryz.prog 115 [stS l,n m] (bl (tr (stgOk m l))):=by
  refine Pure.of_body Tryz.call115 Tryz.func115 k115 (Nat.le_of_ble_eq_true rfl) ?_
  unfold c115
  have h:=containsNod_spec 153 [.iptr [.fn (.func 151) [] [.iptr [n m] 0]] 0] (by intro c hc; simp only [List.mem_singleton] at hc; subst hc; exact PureV.iptr (by simp)) (fun x=>tr (¬ nodOk m x)) l hl.1 (fun x hx=>bad2_spec m x (hl.2 x hx))
  rw [any_not] at h
  ((first
 | refine vn rfl ?_
 | simp (disch:=omega) only [wr64,Int.zero_sub]
 | refine bo (fun _=>?_) fun _=>?_
 | refine im fun _=>?_
 | refine cF ?_
 | refine om ?_
 | refine an ?_
 | fail) <;> try simp only [zT,zV,zS,zU,vcC,lateX,ex,strp,binA,elems,cells,scalar,eqC,keyA,intsA,lookA,ofVs,mpOf,Nat.reduceBEq,reduceAdd,reduceSub,reduceLT,reduceLeDiff,reduceMul,reduceEqDiff,reduceIte])
  ((first
 | refine vn rfl ?_
 | simp (disch:=omega) only [wr64,Int.zero_sub]
 | refine bo (fun _=>?_) fun _=>?_
 | refine im fun _=>?_
 | refine cF ?_
 | refine om ?_
 | refine an ?_
 | fail) <;> try simp only [zT,zV,zS,zU,vcC,lateX,ex,strp,binA,elems,cells,scalar,eqC,keyA,intsA,lookA,ofVs,mpOf,Nat.reduceBEq,reduceAdd,reduceSub,reduceLT,reduceLeDiff,reduceMul,reduceEqDiff,reduceIte])
  refine AWPC.freezeP (t:=5) (e:=0) rfl rfl rfl (by decide) ?_
  (repeat' ((first
 | refine vn rfl ?_
 | simp (disch:=omega) only [wr64,Int.zero_sub]
 | refine bo (fun _=>?_) fun _=>?_
 | refine im fun _=>?_
 | ((repeat refine si ?_); (first | ((first | refine .inl ⟨_,_,_,_,rfl,fun _=>pu h,?_⟩ | refine ⟨_,_,_,_,rfl,fun _=>pu h,?_⟩); (first | refine o1 ?_ | refine o2 ?_ | refine o3 ?_ | refine o4 ?_)) | refine .inl ⟨_,_,_,_,rfl,pu h,?_⟩))
 | refine cF ?_
 | refine om ?_
 | refine an ?_
 | fail) <;> try simp only [zT,zV,zS,zU,vcC,lateX,ex,strp,binA,elems,cells,scalar,eqC,keyA,intsA,lookA,ofVs,mpOf,Nat.reduceBEq,reduceAdd,reduceSub,reduceLT,reduceLeDiff,reduceMul,reduceEqDiff,reduceIte]))
  all_goals refine Frz.eq (congrArg bl (decide_eq_decide.2 ?_)) (by simp)
  unfold stgOk
  constructor
  · rintro ⟨⟨h1,h2⟩,h3⟩
    exact ⟨by omega,by omega,Classical.not_not.1 h3⟩
  · rintro ⟨h1,h2,h3⟩
    exact ⟨⟨by omega,by omega⟩,Classical.not_not.2 h3⟩
def rdsB (t:Trk):List (List AV):=(List.range t.length).map fun i=>[n ((t.length - 1 - i:Nat):Int),stS (t.getD (t.length - 1 - i) [])]
theorem rdsB_get {t:Trk} {i:Nat} (h:i < t.length):(rdsB t)[i]?=some [n ((t.length - 1 - i:Nat):Int),stS (t.getD (t.length - 1 - i) [])]:=by simp [rdsB,h]
theorem rdsB_len (t:Trk):(rdsB t).length=t.length:=by simp [rdsB]
theorem backward_iter (t:Trk) (hl:t.length < 9223372036854775808):Iter Tryz.prog 150 [] [.iptr [tkS t] 0] (rdsB t):=by
  refine ⟨Tryz.call150,fun C y J D σ hy hC hJ hyield=>?_⟩
  refine Does.mono (R:=fun _ σ2=>Done C J D (rdsB t).length σ2) ?_ fun _ _ h=>h.out
  refine Does.of_body Tryz.call150 Tryz.func150 k150 (Nat.le_of_ble_eq_true rfl) ?_
  unfold c150
  (repeat' ((first
 | refine vn rfl ?_
 | simp (disch:=omega) only [wr64,Int.zero_sub]
 | refine bo (fun _=>?_) fun _=>?_
 | refine im fun _=>?_
 | refine cF ?_
 | refine om ?_
 | refine an ?_
 | fail) <;> try simp only [zT,zV,zS,zU,vcC,lateX,ex,strp,binA,elems,cells,scalar,eqC,keyA,intsA,lookA,ofVs,mpOf,Nat.reduceBEq,reduceAdd,reduceSub,reduceLT,reduceLeDiff,reduceMul,reduceEqDiff,reduceIte]))
  refine AWPC.loopE (α:={ x:Nat × Sto × Sto // x.1≤t.length∧x.2.1.length=C∧J x.1 x.2.1 }) [3] (fun x=>[(3,n ((t.length:Int) - 1 - x.1.1))]) (fun x=>x.1.2.1++x.1.2.2) (fun x=>t.length - x.1.1) ⟨(0,σ,[]),by simp,hC,hJ⟩ ?_ ?_ ?_
  · (simp only [zT,zV,zS,zU,vcC,lateX,ex,strp,binA,elems,cells,scalar,eqC,keyA,intsA,lookA,ofVs,mpOf,Nat.reduceBEq,reduceAdd,reduceSub,reduceLT,reduceLeDiff,reduceMul,reduceEqDiff,reduceIte]; try simp)
  · simp
  · rintro ⟨⟨k,τ,ν⟩,hk,hτ,hJk⟩
    simp only at hk hτ hJk
    by_cases hlt:k < t.length
    · have hs:t[t.length - 1 - k]?=some (t.getD (t.length - 1 - k) []):=getD_some (by omega)
      have hg:((t.map fun l=>[stS l]).getD (t.length - 1 - k) [])=[stS (t.getD (t.length - 1 - k) [])]:=getD_map hs
      have hi:(((t.length:Int) - 1 - k).toNat)=t.length - 1 - k:=by omega
      have hz:(t.length:Int) - 1 - k=((t.length - 1 - k:Nat):Int):=by omega
      have hy:=hyield k _ τ ν (rdsB_get hlt) hτ hJk
      rw [← hz] at hy
      (repeat' ((first
 | refine vn rfl ?_
 | simp (disch:=omega) only [wr64,Int.zero_sub]
 | refine bo (fun _=>?_) fun _=>?_
 | refine im fun _=>?_
 | refine cF ?_
 | refine om ?_
 | refine an ?_
 | fail) <;> try simp only [zT,zV,zS,zU,vcC,lateX,ex,strp,binA,elems,cells,scalar,eqC,keyA,intsA,lookA,ofVs,mpOf,Nat.reduceBEq,reduceAdd,reduceSub,reduceLT,reduceLeDiff,reduceMul,reduceEqDiff,reduceIte,hi,hg,List.append_assoc]))
      all_goals try (exfalso; omega)
      refine .inr (.inr ⟨y,_,rfl,fun _=>⟨hy,?_⟩,fun h=>by cases h⟩)
      rintro b σ' ⟨τ',ν',rfl,hτ',hb1,hb2⟩
      refine owp_of_exs ?_
      simp only [zT,zV,zS,zU,vcC,lateX,ex,strp,binA,elems,cells,scalar,eqC,keyA,intsA,lookA,ofVs,mpOf,Nat.reduceBEq,reduceAdd,reduceSub,reduceLT,reduceLeDiff,reduceMul,reduceEqDiff,reduceIte]
      cases b with
      | false =>
        (repeat' ((first
 | refine vn rfl ?_
 | simp (disch:=omega) only [wr64,Int.zero_sub]
 | refine bo (fun _=>?_) fun _=>?_
 | refine im fun _=>?_
 | refine cF ?_
 | refine om ?_
 | refine an ?_
 | fail) <;> try simp only [zT, zV, zS, zU, vcC, lateX, ex, strp, binA, elems, cells, scalar, eqC, keyA, intsA, lookA, ofVs, mpOf, Nat.reduceBEq, reduceAdd, reduceSub, reduceLT, reduceLeDiff, reduceMul, reduceEqDiff, reduceIte]))
        exact Done.mk τ' _ rfl hτ' (.inr (hb2 rfl))
      | true =>
        (repeat' ((first
 | refine vn rfl ?_
 | simp (disch:=omega) only [wr64,Int.zero_sub]
 | refine bo (fun _=>?_) fun _=>?_
 | refine im fun _=>?_
 | refine cF ?_
 | refine om ?_
 | refine an ?_
 | fail) <;> try simp only [zT, zV, zS, zU, vcC, lateX, ex, strp, binA, elems, cells, scalar, eqC, keyA, intsA, lookA, ofVs, mpOf, Nat.reduceBEq, reduceAdd, reduceSub, reduceLT, reduceLeDiff, reduceMul, reduceEqDiff, reduceIte]))
        exact ⟨⟨(k+1,τ',_),hlt,hτ',hb1 rfl⟩,by simp; omega,rfl,by simp only; omega⟩
    · obtain rfl:k=t.length:=by omega
      (repeat' ((first
 | refine vn rfl ?_
 | simp (disch:=omega) only [wr64,Int.zero_sub]
 | refine bo (fun _=>?_) fun _=>?_
 | refine im fun _=>?_
 | refine cF ?_
 | refine om ?_
 | refine an ?_
 | fail) <;> try simp only [zT,zV,zS,zU,vcC,lateX,ex,strp,binA,elems,cells,scalar,eqC,keyA,intsA,lookA,ofVs,mpOf,Nat.reduceBEq,reduceAdd,reduceSub,reduceLT,reduceLeDiff,reduceMul,reduceEqDiff,reduceIte]))
      all_goals try (exfalso; omega)
      exact Done.mk τ _ rfl hτ (.inl (by rw [rdsB_len]; exact hJk))
theorem backwardS_spec (t:Trk):Pure Tryz.prog 114 [tkS t] (.fn (.func 150) [] [.iptr [tkS t] 0]):=by
  refine Pure.of_body Tryz.call114 Tryz.func114 k114 (Nat.le_of_ble_eq_true rfl) ?_
  unfold c114
  (repeat' ((first
 | refine vn rfl ?_
 | simp (disch:=omega) only [wr64,Int.zero_sub]
 | refine bo (fun _=>?_) fun _=>?_
 | refine im fun _=>?_
 | refine cF ?_
 | refine om ?_
 | refine an ?_
 | fail) <;> try simp only [zT,zV,zS,zU,vcC,lateX,ex,strp,binA,elems,cells,scalar,eqC,keyA,intsA,lookA,ofVs,mpOf,Nat.reduceBEq,reduceAdd,reduceSub,reduceLT,reduceLeDiff,reduceMul,reduceEqDiff,reduceIte]))
  all_goals exact Frz.eq rfl (by simp (maxDischargeDepth:=9))
theorem Check_spec (t:Trk) (hs:trkSz t):Pure Tryz.prog 53 [trS t] (n (if tr (valid t) then 0 else 40)):=by
  refine Pure.of_body Tryz.call53 Tryz.func53 k53 (Nat.le_of_ble_eq_true rfl) ?_
  unfold c53
  have hl:=hs.1
  by_cases hN:1≤t.length∧t.length≤401
  · (repeat' ((first
 | refine vn rfl ?_
 | simp (disch:=omega) only [wr64,Int.zero_sub]
 | refine bo (fun _=>?_) fun _=>?_
 | refine im fun _=>?_
 | ((repeat refine si ?_); (first | ((first | refine .inl ⟨_,_,_,_,rfl,fun _=>pu (backwardS_spec t),?_⟩ | refine ⟨_,_,_,_,rfl,fun _=>pu (backwardS_spec t),?_⟩); (first | refine o1 ?_ | refine o2 ?_ | refine o3 ?_ | refine o4 ?_)) | refine .inl ⟨_,_,_,_,rfl,pu (backwardS_spec t),?_⟩))
 | refine cF ?_
 | refine om ?_
 | refine an ?_
 | fail) <;> try simp only [zT,zV,zS,zU,vcC,lateX,ex,strp,binA,elems,cells,scalar,eqC,keyA,intsA,lookA,ofVs,mpOf,Nat.reduceBEq,reduceAdd,reduceSub,reduceLT,reduceLeDiff,reduceMul,reduceEqDiff,reduceIte]))
    all_goals try (exfalso; omega)
    refine AWPC.rng (fun x:{ x:Int × Nat // True }=>[some [⟨39,1,[[n x.1.1]],none⟩],some [⟨3,1,[[n (x.1.2:Int)]],none⟩]]) 2 (fun _=>rfl)
      (fun k x=>x.1.1=0∧x.1.2=wd t (t.length - k)∧∀ j,t.length - k≤j→j < t.length→stgOk (wd t (j+1)) (t.getD j []))
      (fun e x=>match e with | .ret=>x.1.1=40∧¬ valid t | _=>False) (rdsB t) ⟨(0,0),trivial⟩
      rfl ?_ ?_ (backward_iter t hl) (fun k args h=>?_) (fun k x args ll ρ τ hk hx=>?_) (fun x τ hx=>?_) (fun e x τ hx=>?_)
    · rfl
    · refine ⟨rfl,?_,fun j h1 h2=>by omega⟩
      show 0=wd t (t.length - 0)
      rw [wd,getD_none (by omega)]; rfl
    · have hk:=(List.getElem?_eq_some_iff.1 h).1
      rw [rdsB_len] at hk
      rw [rdsB_get hk] at h; injection h with h; subst h; rfl
    · obtain ⟨⟨r,m⟩,hx0⟩:=x
      obtain ⟨h1,h2,h3⟩:=hx
      simp only at h1 h2 h3
      subst h1
      have hkl:=(List.getElem?_eq_some_iff.1 hk).1
      rw [rdsB_len] at hkl
      rw [rdsB_get hkl] at hk; injection hk with hk; subst hk
      have e1:t.length - 1 - k+1=t.length - k:=by omega
      have hst:stgSz (t.getD (t.length - 1 - k) []):=hs.2 _ (List.mem_of_getElem? (getD_some (by omega)))
      have hstl:=hst.1
      have hwd:wd t (t.length - 1 - k)=(t.getD (t.length - 1 - k) []).length:=rfl
      have hS:=isStage_spec (t.getD (t.length - 1 - k) []) m hst
      have hiff:(∀ j,t.length - (k+1)≤j→j < t.length→stgOk (wd t (j+1)) (t.getD j []))↔stgOk m (t.getD (t.length - 1 - k) []):=by
        rw [h2]
        constructor
        · intro h
          have:=h (t.length - 1 - k) (by omega) (by omega)
          rwa [e1] at this
        · intro h j h4 h5
          by_cases hj:j=t.length - 1 - k
          · subst hj; rw [e1]; exact h
          · exact h3 j (by omega) h5
      simp only [par]
      generalize t.getD (t.length - 1 - k) []=L at *
      (repeat' ((first
 | refine vn rfl ?_
 | simp (disch:=omega) only [wr64,Int.zero_sub]
 | refine bo (fun _=>?_) fun _=>?_
 | refine im fun _=>?_
 | refine cF ?_
 | refine om ?_
 | refine an ?_
 | fail) <;> try simp only [zT,zV,zS,zU,vcC,lateX,ex,strp,binA,elems,cells,scalar,eqC,keyA,intsA,lookA,ofVs,mpOf,Nat.reduceBEq,reduceAdd,reduceSub,reduceLT,reduceLeDiff,reduceMul,reduceEqDiff,reduceIte]))
      refine ⟨⟨(0,m),trivial⟩,[],by simp,fun ρ'=>?_⟩
      (repeat' ((first
 | refine vn rfl ?_
 | simp (disch:=omega) only [wr64,Int.zero_sub]
 | refine bo (fun _=>?_) fun _=>?_
 | refine im fun _=>?_
 | ((repeat refine si ?_); (first | ((first | refine .inl ⟨_,_,_,_,rfl,fun _=>pu hS,?_⟩ | refine ⟨_,_,_,_,rfl,fun _=>pu hS,?_⟩); (first | refine o1 ?_ | refine o2 ?_ | refine o3 ?_ | refine o4 ?_)) | refine .inl ⟨_,_,_,_,rfl,pu hS,?_⟩))
 | refine cF ?_
 | refine om ?_
 | refine an ?_
 | fail) <;> try simp only [zT,zV,zS,zU,vcC,lateX,ex,strp,binA,elems,cells,scalar,eqC,keyA,intsA,lookA,ofVs,mpOf,Nat.reduceBEq,reduceAdd,reduceSub,reduceLT,reduceLeDiff,reduceMul,reduceEqDiff,reduceIte]))
      · rename_i h
        exact ⟨⟨(40,m),trivial⟩,[],by simp,rfl,fun hv=>h (hiff.1 fun j _ h5=>hv.2.2 j h5)⟩
      · rename_i h
        exact ⟨⟨(0,L.length),trivial⟩,[],by simp,rfl,by show L.length=wd t (t.length - (k+1)); rw [show t.length - (k+1)=t.length - 1 - k by omega]; exact hwd.symm,hiff.2 h⟩
    · obtain ⟨⟨r,m⟩,hx0⟩:=x
      obtain ⟨h1,h2,h3⟩:=hx
      simp only at h1 h2 h3
      subst h1
      rw [rdsB_len] at h3
      simp only [zT,zV,zS,zU,vcC,lateX,ex,strp,binA,elems,cells,scalar,eqC,keyA,intsA,lookA,ofVs,mpOf,Nat.reduceBEq,reduceAdd,reduceSub,reduceLT,reduceLeDiff,reduceMul,reduceEqDiff,reduceIte]
      (repeat' ((first
 | refine vn rfl ?_
 | simp (disch:=omega) only [wr64,Int.zero_sub]
 | refine bo (fun _=>?_) fun _=>?_
 | refine im fun _=>?_
 | refine cF ?_
 | refine om ?_
 | refine an ?_
 | fail) <;> try simp only [zT,zV,zS,zU,vcC,lateX,ex,strp,binA,elems,cells,scalar,eqC,keyA,intsA,lookA,ofVs,mpOf,Nat.reduceBEq,reduceAdd,reduceSub,reduceLT,reduceLeDiff,reduceMul,reduceEqDiff,reduceIte]))
      rw [tr_1 ⟨hN.1,hN.2,fun j h5=>h3 j (by omega) h5⟩]
      exact Frz.eq rfl (by simp)
    · obtain ⟨⟨r,m⟩,hx0⟩:=x
      cases e with
      | ret =>
        obtain ⟨h1,h2⟩:=hx
        simp only at h1
        subst h1
        simp only [Jmp.e,zT,zV,zS,zU,vcC,lateX,ex,strp,binA,elems,cells,scalar,eqC,keyA,intsA,lookA,ofVs,mpOf,Nat.reduceBEq,reduceAdd,reduceSub,reduceLT,reduceLeDiff,reduceMul,reduceEqDiff,reduceIte]
        (repeat' ((first
 | refine vn rfl ?_
 | simp (disch:=omega) only [wr64,Int.zero_sub]
 | refine bo (fun _=>?_) fun _=>?_
 | refine im fun _=>?_
 | refine cF ?_
 | refine om ?_
 | refine an ?_
 | fail) <;> try simp only [zT, zV, zS, zU, vcC, lateX, ex, strp, binA, elems, cells, scalar, eqC, keyA, intsA, lookA, ofVs, mpOf, Nat.reduceBEq, reduceAdd, reduceSub, reduceLT, reduceLeDiff, reduceMul, reduceEqDiff, reduceIte]))
        rw [tr_0 h2]
        exact Frz.eq rfl (by simp)
      | exit i=>exact hx.elim
  · have hv:¬ valid t:=fun h=>hN ⟨h.1,h.2.1⟩
    rw [tr_0 hv]
    ((first
 | refine vn rfl ?_
 | simp (disch:=omega) only [wr64,Int.zero_sub]
 | refine bo (fun _=>?_) fun _=>?_
 | refine im fun _=>?_
 | refine cF ?_
 | refine om ?_
 | refine an ?_
 | fail) <;> try simp only [zT,zV,zS,zU,vcC,lateX,ex,strp,binA,elems,cells,scalar,eqC,keyA,intsA,lookA,ofVs,mpOf,Nat.reduceBEq,reduceAdd,reduceSub,reduceLT,reduceLeDiff,reduceMul,reduceEqDiff,reduceIte])
    ((first
 | refine vn rfl ?_
 | simp (disch:=omega) only [wr64,Int.zero_sub]
 | refine bo (fun _=>?_) fun _=>?_
 | refine im fun _=>?_
 | refine cF ?_
 | refine om ?_
 | refine an ?_
 | fail) <;> try simp only [zT,zV,zS,zU,vcC,lateX,ex,strp,binA,elems,cells,scalar,eqC,keyA,intsA,lookA,ofVs,mpOf,Nat.reduceBEq,reduceAdd,reduceSub,reduceLT,reduceLeDiff,reduceMul,reduceEqDiff,reduceIte])
    ((first
 | refine vn rfl ?_
 | simp (disch:=omega) only [wr64,Int.zero_sub]
 | refine bo (fun _=>?_) fun _=>?_
 | refine im fun _=>?_
 | refine cF ?_
 | refine om ?_
 | refine an ?_
 | fail) <;> try simp only [zT,zV,zS,zU,vcC,lateX,ex,strp,binA,elems,cells,scalar,eqC,keyA,intsA,lookA,ofVs,mpOf,Nat.reduceBEq,reduceAdd,reduceSub,reduceLT,reduceLeDiff,reduceMul,reduceEqDiff,reduceIte])
    ((first
 | refine vn rfl ?_
 | simp (disch:=omega) only [wr64,Int.zero_sub]
 | refine bo (fun _=>?_) fun _=>?_
 | refine im fun _=>?_
 | refine cF ?_
 | refine om ?_
 | refine an ?_
 | fail) <;> try simp only [zT,zV,zS,zU,vcC,lateX,ex,strp,binA,elems,cells,scalar,eqC,keyA,intsA,lookA,ofVs,mpOf,Nat.reduceBEq,reduceAdd,reduceSub,reduceLT,reduceLeDiff,reduceMul,reduceEqDiff,reduceIte])
    all_goals try (exfalso; omega)
    (repeat' ((first
 | refine vn rfl ?_
 | simp (disch:=omega) only [wr64,Int.zero_sub]
 | refine bo (fun _=>?_) fun _=>?_
 | refine im fun _=>?_
 | refine cF ?_
 | refine om ?_
 | refine an ?_
 | fail) <;> try simp only [zT,zV,zS,zU,vcC,lateX,ex,strp,binA,elems,cells,scalar,eqC,keyA,intsA,lookA,ofVs,mpOf,Nat.reduceBEq,reduceAdd,reduceSub,reduceLT,reduceLeDiff,reduceMul,reduceEqDiff,reduceIte]))
    exact Frz.eq rfl (by simp)
def c164:CF:=⟨38,
 (.seq (.ops [
 ⟨some 8,.faddr 0 (.t 1),none⟩,
 ⟨some 9,.faddr 0 (.t 8),none⟩,
 ⟨some 10,.load none (.t 9),none⟩,
 ⟨some 11,.load none (.t 2),none⟩,
 ⟨some 12,.iaddr 1 (.t 10) (.t 11),none⟩,
 ⟨some 13,.load none (.t 12),none⟩,
 ⟨some 14,.len (.t 13),none⟩,
 ⟨some 15,.mv (.c (.int .i64 0)),none⟩] [0,13,14,15])
 (.block 0 (.loop (.seq (.ops [
 ⟨some 16,.bin .lss (.t 15) (.t 14),none⟩] [0,13,14,15,16])
 (.seq (.cond (.t 16) .skip
 (.exit 0))
 (.seq (.block 1 (.seq (.ops [
 ⟨some 17,.mv (.t 15),none⟩,
 ⟨some 18,.iaddr 2 (.t 13) (.t 15),none⟩,
 ⟨some 19,.load (some 2) (.t 18),none⟩,
 ⟨some 5,.alloc 80 2 [.slice none 0 0,.slice none 0 0],none⟩,
 ⟨some 4,.mv (.t 17),none⟩,
 ⟨none,.store 2 (.t 5) (.t 19),none⟩] [0,4,5,13,14,15])
 (.seq (.ops [
 ⟨some 20,.faddr 1 (.t 5),none⟩,
 ⟨some 21,.load none (.t 20),none⟩,
 ⟨some 22,.len (.t 21),none⟩,
 ⟨some 23,.mv (.c (.int .i64 0)),none⟩] [0,4,13,14,15,21,22,23])
 (.block 2 (.loop (.seq (.ops [
 ⟨some 24,.bin .lss (.t 23) (.t 22),none⟩] [0,4,13,14,15,21,22,23,24])
 (.seq (.cond (.t 24) .skip
 (.exit 2))
 (.seq (.block 3 (.seq (.ops [
 ⟨some 25,.iaddr 3 (.t 21) (.t 23),none⟩,
 ⟨some 26,.load (some 3) (.t 25),none⟩,
 ⟨some 7,.alloc 124 3 [.int .i64 0,.int .i64 0,.int .i64 0],none⟩,
 ⟨none,.store 3 (.t 7) (.t 26),none⟩] [0,4,7,13,14,15,21,22,23])
 (.seq (.ops [
 ⟨some 27,.mv (.t 0),none⟩,
 ⟨some 28,.mv (.t 4),none⟩,
 ⟨some 29,.faddr 0 (.t 7),none⟩,
 ⟨some 30,.load none (.t 29),none⟩,
 ⟨some 31,.build [.int .i64 0,.int .i64 0] [(0,1,(.t 28)),(1,1,(.t 30))],none⟩,
 ⟨some 32,.faddr 1 (.t 7),none⟩,
 ⟨some 33,.load (some 2) (.t 32),none⟩,
 ⟨some 34,.call (.t 27) [(.t 31),(.t 33)],none⟩,
 ⟨some 35,.un .not (.t 34),none⟩] [0,4,13,14,15,21,22,23,35])
 (.cond (.t 35) .ret
 .skip))))
 (.ops [
 ⟨some 36,.bin .add (.t 23) (.c (.int .i64 1)),none⟩,
 ⟨some 23,.mv (.t 36),none⟩] [0,4,13,14,15,21,22,23])))))))))
 (.ops [
 ⟨some 37,.bin .add (.t 15) (.c (.int .i64 1)),none⟩,
 ⟨some 15,.mv (.t 37),none⟩] [0,13,14,15]))))))),
 []⟩
def c159:CF:=⟨34,
 (.seq (.ops [
 ⟨some 3,.box false 159 1 (.t 0),none⟩] [1,2,3])
 (.seq (.ops [
 ⟨some 6,.faddr 0 (.t 1),none⟩,
 ⟨some 7,.load (some 1) (.t 6),none⟩,
 ⟨some 8,.build [.slice none 0 0] [(0,1,(.t 7))],none⟩,
 ⟨some 9,.faddr 0 (.t 1),none⟩,
 ⟨some 10,.faddr 0 (.t 9),none⟩,
 ⟨some 11,.load none (.t 10),none⟩,
 ⟨some 12,.len (.t 11),none⟩,
 ⟨some 13,.bin .sub (.t 12) (.c (.int .i64 2)),none⟩,
 ⟨some 14,.load none (.t 2),none⟩,
 ⟨some 15,.bin .sub (.t 13) (.t 14),none⟩,
 ⟨some 16,.call (.f 135) [(.t 8),(.t 15)],none⟩] [3,16])
 (.block 0 (.rng (.t 16) [17,18] (.seq (.ops [
 ⟨some 4,.alloc 130 2 [.int .i64 0,.int .i64 0],none⟩,
 ⟨none,.store 2 (.t 4) (.t 17),none⟩] [3,4,18])
 (.ops [
 ⟨some 5,.alloc 30 2 [.int .i64 0,.int .i64 0],none⟩,
 ⟨none,.store 2 (.t 5) (.t 18),none⟩] [3,4,5]))
 (.block 1 (.seq (.ops [
 ⟨some 19,.load none (.t 3),none⟩,
 ⟨some 20,.faddr 1 (.t 4),none⟩,
 ⟨some 21,.load none (.t 20),none⟩,
 ⟨some 22,.faddr 0 (.t 4),none⟩,
 ⟨some 23,.load none (.t 22),none⟩,
 ⟨some 24,.build [.int .i64 0,.int .i64 0] [(0,1,(.t 21)),(1,1,(.t 23))],none⟩,
 ⟨some 25,.faddr 1 (.t 5),none⟩,
 ⟨some 26,.load none (.t 25),none⟩,
 ⟨some 27,.un .neg (.t 26),none⟩,
 ⟨some 28,.faddr 0 (.t 5),none⟩,
 ⟨some 29,.load none (.t 28),none⟩,
 ⟨some 30,.un .neg (.t 29),none⟩,
 ⟨some 31,.build [.int .i64 0,.int .i64 0] [(0,1,(.t 27)),(1,1,(.t 30))],none⟩,
 ⟨some 32,.call (.t 19) [(.t 24),(.t 31)],none⟩,
 ⟨some 33,.un .not (.t 32),none⟩] [3,33])
 (.cond (.t 33) .ret
 .skip))))))),
 []⟩
def c135:CF:=⟨6,
 (.seq (.ops [
 ⟨some 2,.box false 109 1 (.t 0),none⟩,
 ⟨some 3,.box false 3 1 (.t 1),none⟩,
 ⟨some 4,.mv (.c (.nilFunc)),none⟩] [2,3])
 (.seq (.ops [
 ⟨some 5,.mkfn (.func 164) [] [(.t 2),(.t 3)],none⟩,
 ⟨some 4,.mv (.t 5),none⟩] [4])
 .ret)),
 [.t 4]⟩
def c130:CF:=⟨6,
 (.seq (.ops [
 ⟨some 2,.box false 133 1 (.t 0),none⟩,
 ⟨some 3,.box false 3 1 (.t 1),none⟩,
 ⟨some 4,.mv (.c (.nilFunc)),none⟩] [2,3])
 (.seq (.ops [
 ⟨some 5,.mkfn (.func 159) [] [(.t 2),(.t 3)],none⟩,
 ⟨some 4,.mv (.t 5),none⟩] [4])
 .ret)),
 [.t 4]⟩
def c206:CF:=⟨11,
 (.seq (.ops [
 ⟨some 2,.box false 109 1 (.t 0),none⟩,
 ⟨some 4,.mv (.c (.slice none 0 0)),none⟩] [1,2])
 (.seq (.ops [
 ⟨some 5,.faddr 0 (.t 2),none⟩,
 ⟨some 6,.faddr 0 (.t 5),none⟩,
 ⟨some 7,.load none (.t 6),none⟩,
 ⟨some 8,.mv (.t 1),none⟩,
 ⟨some 9,.iaddr 1 (.t 7) (.t 8),none⟩,
 ⟨some 10,.load none (.t 9),none⟩,
 ⟨some 4,.mv (.t 10),none⟩] [4])
 .ret)),
 [.t 4]⟩
def c207:CF:=⟨7,
 (.seq (.ops [
 ⟨some 1,.box false 109 1 (.t 0),none⟩,
 ⟨some 2,.mv (.c (.int .i64 0)),none⟩] [1])
 (.seq (.ops [
 ⟨some 3,.faddr 0 (.t 1),none⟩,
 ⟨some 4,.faddr 0 (.t 3),none⟩,
 ⟨some 5,.load none (.t 4),none⟩,
 ⟨some 6,.len (.t 5),none⟩,
 ⟨some 2,.mv (.t 6),none⟩] [2])
 .ret)),
 [.t 2]⟩
def c128:CF:=⟨17,
 (.seq (.ops [
 ⟨some 2,.box false 133 1 (.t 0),none⟩,
 ⟨some 4,.mv (.c (.slice none 0 0)),none⟩] [1,2])
 (.seq (.ops [
 ⟨some 5,.faddr 0 (.t 2),none⟩,
 ⟨some 6,.faddr 0 (.t 5),none⟩,
 ⟨some 7,.load none (.t 6),none⟩,
 ⟨some 8,.faddr 0 (.t 2),none⟩,
 ⟨some 9,.faddr 0 (.t 8),none⟩,
 ⟨some 10,.load none (.t 9),none⟩,
 ⟨some 11,.len (.t 10),none⟩,
 ⟨some 12,.bin .sub (.t 11) (.c (.int .i64 1)),none⟩,
 ⟨some 13,.mv (.t 1),none⟩,
 ⟨some 14,.bin .sub (.t 12) (.t 13),none⟩,
 ⟨some 15,.iaddr 1 (.t 7) (.t 14),none⟩,
 ⟨some 16,.load none (.t 15),none⟩,
 ⟨some 4,.mv (.t 16),none⟩] [4])
 .ret)),
 [.t 4]⟩
def c208:CF:=⟨7,
 (.seq (.ops [
 ⟨some 1,.box false 133 1 (.t 0),none⟩,
 ⟨some 2,.mv (.c (.int .i64 0)),none⟩] [1])
 (.seq (.ops [
 ⟨some 3,.faddr 0 (.t 1),none⟩,
 ⟨some 4,.faddr 0 (.t 3),none⟩,
 ⟨some 5,.load none (.t 4),none⟩,
 ⟨some 6,.len (.t 5),none⟩,
 ⟨some 2,.mv (.t 6),none⟩] [2])
 .ret)),
 [.t 2]⟩
def c136:CF:=⟨30,
 (.seq (.ops [
 ⟨some 3,.box false 30 2 (.t 1),none⟩,
 ⟨some 4,.mv (.c (.slice none 0 0)),none⟩] [0,3])
 (.seq (.ops [
 ⟨some 5,.mv (.c (.slice none 0 0)),none⟩] [0,3,5])
 (.seq (.seq (.ops [
 ⟨some 8,.mv (.t 0),none⟩,
 ⟨some 9,.len (.t 8),none⟩,
 ⟨some 10,.mv (.c (.int .i64 0)),none⟩] [3,5,8,9,10])
 (.block 0 (.loop (.seq (.ops [
 ⟨some 11,.bin .lss (.t 10) (.t 9),none⟩] [3,5,8,9,10,11])
 (.seq (.cond (.t 11) .skip
 (.exit 0))
 (.seq (.block 1 (.seq (.ops [
 ⟨some 12,.iaddr 2 (.t 8) (.t 10),none⟩,
 ⟨some 13,.load (some 2) (.t 12),none⟩,
 ⟨some 7,.alloc 30 2 [.int .i64 0,.int .i64 0],none⟩,
 ⟨none,.store 2 (.t 7) (.t 13),none⟩] [3,5,7,8,9,10])
 (.ops [
 ⟨some 14,.mv (.t 5),none⟩,
 ⟨some 15,.faddr 0 (.t 7),none⟩,
 ⟨some 16,.load none (.t 15),none⟩,
 ⟨some 17,.faddr 0 (.t 3),none⟩,
 ⟨some 18,.load none (.t 17),none⟩,
 ⟨some 19,.bin .add (.t 16) (.t 18),none⟩,
 ⟨some 20,.faddr 1 (.t 7),none⟩,
 ⟨some 21,.load none (.t 20),none⟩,
 ⟨some 22,.faddr 1 (.t 3),none⟩,
 ⟨some 23,.load none (.t 22),none⟩,
 ⟨some 24,.bin .add (.t 21) (.t 23),none⟩,
 ⟨some 25,.build [.int .i64 0,.int .i64 0] [(0,1,(.t 19)),(1,1,(.t 24))],none⟩,
 ⟨some 26,.bsl false 30 2 1 [.int .i64 0,.int .i64 0] [(0,2,(.t 25))],none⟩,
 ⟨some 27,.app 30 2 16 (.t 14) (.t 26),none⟩,
 ⟨some 5,.mv (.t 27),none⟩] [3,5,8,9,10])))
 (.ops [
 ⟨some 28,.bin .add (.t 10) (.c (.int .i64 1)),none⟩,
 ⟨some 10,.mv (.t 28),none⟩] [3,5,8,9,10])))))))
 (.seq (.ops [
 ⟨some 29,.mv (.t 5),none⟩,
 ⟨some 4,.mv (.t 29),none⟩] [4])
 .ret)))),
 [.t 4]⟩
def c129:CF:=⟨8,
 (.seq (.ops [
 ⟨some 2,.mv (.c (.slice none 0 0)),none⟩] [0])
 (.seq (.seq (.ops [
 ⟨some 3,.mv (.t 0),none⟩,
 ⟨some 4,.nilq false (.t 3) (.c (.slice none 0 0)),none⟩] [0,4])
 (.cond (.t 4) (.seq (.ops [
 ⟨some 2,.mv (.c (.slice none 0 0)),none⟩] [2])
 .ret)
 .skip))
 (.seq (.ops [
 ⟨some 5,.bsl true 30 2 0 [] [],none⟩,
 ⟨some 6,.mv (.t 0),none⟩,
 ⟨some 7,.app 30 2 16 (.t 5) (.t 6),none⟩,
 ⟨some 2,.mv (.t 7),none⟩] [2])
 .ret))),
 [.t 2]⟩
theorem k164:chkF Tryz.prog Tryz.f164 c164=true:=by kernel_rfl
theorem k159:chkF Tryz.prog Tryz.f159 c159=true:=by kernel_rfl
theorem k135:chkF Tryz.prog Tryz.f135 c135=true:=by kernel_rfl
theorem k130:chkF Tryz.prog Tryz.f130 c130=true:=by kernel_rfl
theorem k206:chkF Tryz.prog Tryz.f206 c206=true:=by kernel_rfl
theorem k207:chkF Tryz.prog Tryz.f207 c207=true:=by kernel_rfl
theorem k128:chkF Tryz.prog Tryz.f128 c128=true:=by kernel_rfl
theorem k208:chkF Tryz.prog Tryz.f208 c208=true:=by kernel_rfl
theorem k136:chkF Tryz.prog Tryz.f136 c136=true:=by kernel_rfl
theorem k129:chkF Tryz.prog Tryz.f129 c129=true:=by kernel_rfl
abbrev Hop.cs (h:Hop):List AV:=[.agg [n (h.fr:Int),n (h.to:Int)],.agg h.ch.cs]
abbrev rdsH (l:List Hop):List (List AV):=l.map Hop.cs
theorem rdsH_get {l:List Hop} {i:Nat} {h:Hop} (e:l[i]?=some h):(rdsH l)[i]?=some (Hop.cs h):=by simp [rdsH,e]
theorem rdsH_inv {l:List Hop} {k:Nat} {args:List AV} (h:(rdsH l)[k]?=some args):∃ s,l[k]?=some s∧args=Hop.cs s:=by
  simp only [rdsH,List.getElem?_map,Option.map_eq_some_iff] at h
  obtain ⟨s,hs,rfl⟩:=h
  exact ⟨s,hs,rfl⟩
theorem ahead_stages (t:Trk):Pure Tryz.prog 207 [trS t] (n (t.length:Int)):=by
  refine Pure.of_body Tryz.call207 Tryz.func207 k207 (Nat.le_of_ble_eq_true rfl) ?_
  unfold c207
  (repeat' ((first
 | refine vn rfl ?_
 | simp (disch:=omega) only [wr64,Int.zero_sub]
 | refine bo (fun _=>?_) fun _=>?_
 | refine im fun _=>?_
 | refine cF ?_
 | refine om ?_
 | refine an ?_
 | fail) <;> try simp only [zT,zV,zS,zU,vcC,lateX,ex,strp,binA,elems,cells,scalar,eqC,keyA,intsA,lookA,ofVs,mpOf,Nat.reduceBEq,reduceAdd,reduceSub,reduceLT,reduceLeDiff,reduceMul,reduceEqDiff,reduceIte]))
  all_goals exact Frz.eq (by simp) (by simp)
theorem ahead_nodes (t:Trk) (k:Nat) (hk:k < t.length):Pure Tryz.prog 206 [trS t,n (k:Int)] (stS (t.getD k [])):=by
  refine Pure.of_body Tryz.call206 Tryz.func206 k206 (Nat.le_of_ble_eq_true rfl) ?_
  unfold c206
  have h:(t.map fun l=>[stS l]).getD k []=[stS (t.getD k [])]:=getD_map (getD_some hk)
  (repeat' ((first
 | refine vn rfl ?_
 | simp (disch:=omega) only [wr64,Int.zero_sub]
 | refine bo (fun _=>?_) fun _=>?_
 | refine im fun _=>?_
 | refine cF ?_
 | refine om ?_
 | refine an ?_
 | fail) <;> try simp only [zT,zV,zS,zU,vcC,lateX,ex,strp,binA,elems,cells,scalar,eqC,keyA,intsA,lookA,ofVs,mpOf,Nat.reduceBEq,reduceAdd,reduceSub,reduceLT,reduceLeDiff,reduceMul,reduceEqDiff,reduceIte,h]))
  all_goals exact Frz.eq rfl (by simp)
theorem ahead_steps (t:Trk) (k:Int):Pure Tryz.prog 135 [trS t,n k] (.fn (.func 164) [] [.iptr [tkS t] 0,.iptr [n k] 0]):=by
  refine Pure.of_body Tryz.call135 Tryz.func135 k135 (Nat.le_of_ble_eq_true rfl) ?_
  unfold c135
  (repeat' ((first
 | refine vn rfl ?_
 | simp (disch:=omega) only [wr64,Int.zero_sub]
 | refine bo (fun _=>?_) fun _=>?_
 | refine im fun _=>?_
 | refine cF ?_
 | refine om ?_
 | refine an ?_
 | fail) <;> try simp only [zT,zV,zS,zU,vcC,lateX,ex,strp,binA,elems,cells,scalar,eqC,keyA,intsA,lookA,ofVs,mpOf,Nat.reduceBEq,reduceAdd,reduceSub,reduceLT,reduceLeDiff,reduceMul,reduceEqDiff,reduceIte]))
  all_goals exact Frz.eq rfl (by simp (maxDischargeDepth:=9))
theorem back_stages (t:Trk):Pure Tryz.prog 208 [trS t] (n (t.length:Int)):=by
  refine Pure.of_body Tryz.call208 Tryz.func208 k208 (Nat.le_of_ble_eq_true rfl) ?_
  unfold c208
  (repeat' ((first
 | refine vn rfl ?_
 | simp (disch:=omega) only [wr64,Int.zero_sub]
 | refine bo (fun _=>?_) fun _=>?_
 | refine im fun _=>?_
 | refine cF ?_
 | refine om ?_
 | refine an ?_
 | fail) <;> try simp only [zT,zV,zS,zU,vcC,lateX,ex,strp,binA,elems,cells,scalar,eqC,keyA,intsA,lookA,ofVs,mpOf,Nat.reduceBEq,reduceAdd,reduceSub,reduceLT,reduceLeDiff,reduceMul,reduceEqDiff,reduceIte]))
  all_goals exact Frz.eq (by simp) (by simp)
theorem back_nodes (t:Trk) (k:Nat) (hl:t.length < 9223372036854775808) (hk:k < t.length):Pure Tryz.prog 128 [trS t,n (k:Int)] (stS (t.getD (t.length - 1 - k) [])):=by
  refine Pure.of_body Tryz.call128 Tryz.func128 k128 (Nat.le_of_ble_eq_true rfl) ?_
  unfold c128
  have h:(t.map fun l=>[stS l]).getD (t.length - 1 - k) []=[stS (t.getD (t.length - 1 - k) [])]:=getD_map (getD_some (by omega))
  have hi:(((t.length:Int) - 1 - k).toNat)=t.length - 1 - k:=by omega
  (repeat' ((first
 | refine vn rfl ?_
 | simp (disch:=omega) only [wr64,Int.zero_sub]
 | refine bo (fun _=>?_) fun _=>?_
 | refine im fun _=>?_
 | refine cF ?_
 | refine om ?_
 | refine an ?_
 | fail) <;> try simp only [zT,zV,zS,zU,vcC,lateX,ex,strp,binA,elems,cells,scalar,eqC,keyA,intsA,lookA,ofVs,mpOf,Nat.reduceBEq,reduceAdd,reduceSub,reduceLT,reduceLeDiff,reduceMul,reduceEqDiff,reduceIte,hi,h]))
  all_goals exact Frz.eq rfl (by simp)
theorem back_steps (t:Trk) (k:Int):Pure Tryz.prog 130 [trS t,n k] (.fn (.func 159) [] [.iptr [tkS t] 0,.iptr [n k] 0]):=by
  refine Pure.of_body Tryz.call130 Tryz.func130 k130 (Nat.le_of_ble_eq_true rfl) ?_
  unfold c130
  (repeat' ((first
 | refine vn rfl ?_
 | simp (disch:=omega) only [wr64,Int.zero_sub]
 | refine bo (fun _=>?_) fun _=>?_
 | refine im fun _=>?_
 | refine cF ?_
 | refine om ?_
 | refine an ?_
 | fail) <;> try simp only [zT,zV,zS,zU,vcC,lateX,ex,strp,binA,elems,cells,scalar,eqC,keyA,intsA,lookA,ofVs,mpOf,Nat.reduceBEq,reduceAdd,reduceSub,reduceLT,reduceLeDiff,reduceMul,reduceEqDiff,reduceIte]))
  all_goals exact Frz.eq rfl (by simp (maxDischargeDepth:=9))
theorem ahead_iter (t:Trk) (k:Nat) (hv:valid t) (hk:k < t.length):Iter Tryz.prog 164 [] [.iptr [tkS t] 0,.iptr [n (k:Int)] 0] (rdsH (stp t k)):=by
  refine ⟨Tryz.call164,fun C y J D σ hy hC hJ hyield=>?_⟩
  refine Does.mono (R:=fun _ σ2=>Done C J D (rdsH (stp t k)).length σ2) ?_ fun _ _ h=>h.out
  refine Does.of_body Tryz.call164 Tryz.func164 k164 (Nat.le_of_ble_eq_true rfl) ?_
  unfold c164
  have hg:(t.map fun l=>[stS l]).getD k []=[stS (t.getD k [])]:=getD_map (getD_some hk)
  obtain ⟨v1,v2,v3⟩:=valid_stg hv hk
  unfold stp at *
  generalize t.getD k []=L at *
  (repeat' ((first
 | refine vn rfl ?_
 | simp (disch:=omega) only [wr64,Int.zero_sub]
 | refine bo (fun _=>?_) fun _=>?_
 | refine im fun _=>?_
 | refine cF ?_
 | refine om ?_
 | refine an ?_
 | fail) <;> try simp only [zT,zV,zS,zU,vcC,lateX,ex,strp,binA,elems,cells,scalar,eqC,keyA,intsA,lookA,ofVs,mpOf,Nat.reduceBEq,reduceAdd,reduceSub,reduceLT,reduceLeDiff,reduceMul,reduceEqDiff,reduceIte,hg]))
  refine AWPC.loopE (α:={ x:Nat × Nat × Sto × Sto // x.1≤L.length∧(hops L).drop x.2.1=hopsF x.1 (L.drop x.1)∧x.2.1≤(hops L).length∧x.2.2.1.length=C∧J x.2.1 x.2.2.1 }) [15] (fun x=>[(15,n x.1.1)]) (fun x=>x.1.2.2.1++x.1.2.2.2) (fun x=>L.length - x.1.1) ⟨(0,0,σ,[]),by simp,by simp,by simp,hC,hJ⟩ ?_ ?_ ?_
  · (simp only [zT,zV,zS,zU,vcC,lateX,ex,strp,binA,elems,cells,scalar,eqC,keyA,intsA,lookA,ofVs,mpOf,Nat.reduceBEq,reduceAdd,reduceSub,reduceLT,reduceLeDiff,reduceMul,reduceEqDiff,reduceIte]; try simp)
  · simp
  rintro ⟨⟨i,m,τ,ν⟩,hi,hd,hm,hτ,hJm⟩
  simp only at hi hd hm hτ hJm
  by_cases hlt:i < L.length
  · obtain ⟨x,hx⟩:∃ x,L[i]?=some x:=⟨_,List.getElem?_eq_getElem hlt⟩
    obtain ⟨w1,w2,w3⟩:=v3 x (List.mem_of_getElem? hx)
    have hdi:(hops L).drop m=hopsOf i x++hopsF (i+1) (L.drop (i+1)):=by rw [hd,drop_cons hx]; rfl
    (repeat' ((first
 | refine vn rfl ?_
 | simp (disch:=omega) only [wr64,Int.zero_sub]
 | refine bo (fun _=>?_) fun _=>?_
 | refine im fun _=>?_
 | refine cF ?_
 | refine om ?_
 | refine an ?_
 | fail) <;> try simp only [zT,zV,zS,zU,vcC,lateX,ex,strp,binA,elems,cells,scalar,eqC,keyA,intsA,lookA,ofVs,mpOf,Nat.reduceBEq,reduceAdd,reduceSub,reduceLT,reduceLeDiff,reduceMul,reduceEqDiff,reduceIte,getD_map hx]))
    all_goals try (exfalso; omega)
    refine AWPC.loopE (α:={ x':Nat × Nat × Sto × Sto // x'.1≤x.nx.length∧(hops L).drop x'.2.1=(hopsOf i x).drop x'.1++hopsF (i+1) (L.drop (i+1))∧x'.2.1≤(hops L).length∧x'.2.2.1.length=C∧J x'.2.1 x'.2.2.1 }) [23]
      (fun x=>[(23,n x.1.1)]) (fun x=>x.1.2.2.1++x.1.2.2.2) (fun x'=>x.nx.length - x'.1.1) ⟨(0,m,τ,ν++[some [⟨80,2,[Nod.cs x],none⟩]]),by simp,by simpa using hdi,hm,hτ,hJm⟩ ?_ ?_ ?_
    · (simp only [zT,zV,zS,zU,vcC,lateX,ex,strp,binA,elems,cells,scalar,eqC,keyA,intsA,lookA,ofVs,mpOf,Nat.reduceBEq,reduceAdd,reduceSub,reduceLT,reduceLeDiff,reduceMul,reduceEqDiff,reduceIte]; try simp)
    · simp
    rintro ⟨⟨j,m,τ,ν⟩,hj,hd,hm,hτ,hJm⟩
    simp only at hj hd hm hτ hJm
    by_cases hlt2:j < x.nx.length
    · obtain ⟨e,he⟩:∃ e,x.nx[j]?=some e:=⟨_,List.getElem?_eq_getElem hlt2⟩
      obtain ⟨u1,u2,u3⟩:=w3 e (List.mem_of_getElem? he)
      have hho:(hopsOf i x)[j]?=some ⟨i,e.to.toNat,e.ch⟩:=by simp [hopsOf,he]
      rw [drop_cons hho,List.cons_append] at hd
      obtain ⟨hxm,hd'⟩:=drop_next hd
      have hm1:=(List.getElem?_eq_some_iff.1 hxm).1
      have hy2:=hyield m _ τ (ν++[some [⟨124,3,[Edg.cs e],none⟩]]) (rdsH_get hxm) hτ hJm
      have ht0:((e.to.toNat:Nat):Int)=e.to:=by omega
      simp only [Hop.cs,ht0] at hy2
      (repeat' ((first
 | refine vn rfl ?_
 | simp (disch:=omega) only [wr64,Int.zero_sub]
 | refine bo (fun _=>?_) fun _=>?_
 | refine im fun _=>?_
 | refine cF ?_
 | refine om ?_
 | refine an ?_
 | fail) <;> try simp only [zT,zV,zS,zU,vcC,lateX,ex,strp,binA,elems,cells,scalar,eqC,keyA,intsA,lookA,ofVs,mpOf,Nat.reduceBEq,reduceAdd,reduceSub,reduceLT,reduceLeDiff,reduceMul,reduceEqDiff,reduceIte,getD_map he,List.append_assoc]))
      all_goals try (exfalso; omega)
      refine .inr (.inr ⟨y,_,rfl,fun _=>⟨hy2,?_⟩,fun h=>by cases h⟩)
      rintro b σ' ⟨τ',ν',rfl,hτ',hb1,hb2⟩
      refine owp_of_exs ?_
      simp only [zT,zV,zS,zU,vcC,lateX,ex,strp,binA,elems,cells,scalar,eqC,keyA,intsA,lookA,ofVs,mpOf,Nat.reduceBEq,reduceAdd,reduceSub,reduceLT,reduceLeDiff,reduceMul,reduceEqDiff,reduceIte]
      cases b with
      | false =>
        (repeat' ((first
 | refine vn rfl ?_
 | simp (disch:=omega) only [wr64,Int.zero_sub]
 | refine bo (fun _=>?_) fun _=>?_
 | refine im fun _=>?_
 | refine cF ?_
 | refine om ?_
 | refine an ?_
 | fail) <;> try simp only [zT, zV, zS, zU, vcC, lateX, ex, strp, binA, elems, cells, scalar, eqC, keyA, intsA, lookA, ofVs, mpOf, Nat.reduceBEq, reduceAdd, reduceSub, reduceLT, reduceLeDiff, reduceMul, reduceEqDiff, reduceIte]))
        exact Done.mk τ' _ rfl hτ' (.inr (hb2 rfl))
      | true =>
        (repeat' ((first
 | refine vn rfl ?_
 | simp (disch:=omega) only [wr64,Int.zero_sub]
 | refine bo (fun _=>?_) fun _=>?_
 | refine im fun _=>?_
 | refine cF ?_
 | refine om ?_
 | refine an ?_
 | fail) <;> try simp only [zT, zV, zS, zU, vcC, lateX, ex, strp, binA, elems, cells, scalar, eqC, keyA, intsA, lookA, ofVs, mpOf, Nat.reduceBEq, reduceAdd, reduceSub, reduceLT, reduceLeDiff, reduceMul, reduceEqDiff, reduceIte]))
        exact ⟨⟨(j+1,m+1,τ',_),hlt2,hd',hm1,hτ',hb1 rfl⟩,by simp,rfl,by simp only; omega⟩
    · obtain rfl:j=x.nx.length:=by omega
      have hdn:(hopsOf i x).drop x.nx.length=[]:=List.drop_eq_nil_of_le (by simp [hopsOf])
      rw [hdn,List.nil_append] at hd
      (repeat' ((first
 | refine vn rfl ?_
 | simp (disch:=omega) only [wr64,Int.zero_sub]
 | refine bo (fun _=>?_) fun _=>?_
 | refine im fun _=>?_
 | refine cF ?_
 | refine om ?_
 | refine an ?_
 | fail) <;> try simp only [zT,zV,zS,zU,vcC,lateX,ex,strp,binA,elems,cells,scalar,eqC,keyA,intsA,lookA,ofVs,mpOf,Nat.reduceBEq,reduceAdd,reduceSub,reduceLT,reduceLeDiff,reduceMul,reduceEqDiff,reduceIte]))
      all_goals try (exfalso; omega)
      exact ⟨⟨(i+1,m,τ,ν),hlt,hd,hm,hτ,hJm⟩,by simp,rfl,by simp only; omega⟩
  · obtain rfl:i=L.length:=by omega
    rw [List.drop_length] at hd
    have:m=(hops L).length:=by have:=List.drop_eq_nil_iff.1 hd; omega
    subst this
    (repeat' ((first
 | refine vn rfl ?_
 | simp (disch:=omega) only [wr64,Int.zero_sub]
 | refine bo (fun _=>?_) fun _=>?_
 | refine im fun _=>?_
 | refine cF ?_
 | refine om ?_
 | refine an ?_
 | fail) <;> try simp only [zT,zV,zS,zU,vcC,lateX,ex,strp,binA,elems,cells,scalar,eqC,keyA,intsA,lookA,ofVs,mpOf,Nat.reduceBEq,reduceAdd,reduceSub,reduceLT,reduceLeDiff,reduceMul,reduceEqDiff,reduceIte]))
    all_goals try (exfalso; omega)
    exact Done.mk τ _ rfl hτ (.inl (by simpa using hJm))
theorem back_iter (t:Trk) (k:Nat) (hv:valid t) (hk:k+1 < t.length):Iter Tryz.prog 159 [] [.iptr [tkS t] 0,.iptr [n (k:Int)] 0] (rdsH (stpB t k)):=by
  refine ⟨Tryz.call159,fun C y J D σ hy hC hJ hyield=>?_⟩
  refine Does.mono (R:=fun _ σ2=>Done C J D (rdsH (stpB t k)).length σ2) ?_ fun _ _ h=>h.out
  refine Does.of_body Tryz.call159 Tryz.func159 k159 (Nat.le_of_ble_eq_true rfl) ?_
  unfold c159
  have hle:=hv.2.1
  have hit:=ahead_iter t (t.length - 2 - k) hv (by omega)
  have hz:(t.length:Int) - 2 - k=((t.length - 2 - k:Nat):Int):=by omega
  have hlen:(rdsH (stpB t k)).length=(rdsH (stp t (t.length - 2 - k))).length:=by simp [rdsH,stpB]
  (repeat' ((first
 | refine vn rfl ?_
 | simp (disch:=omega) only [wr64,Int.zero_sub]
 | refine bo (fun _=>?_) fun _=>?_
 | refine im fun _=>?_
 | ((repeat refine si ?_); (first | ((first | refine .inl ⟨_,_,_,_,rfl,fun _=>pu (ahead_steps t _),?_⟩ | refine ⟨_,_,_,_,rfl,fun _=>pu (ahead_steps t _),?_⟩); (first | refine o1 ?_ | refine o2 ?_ | refine o3 ?_ | refine o4 ?_)) | refine .inl ⟨_,_,_,_,rfl,pu (ahead_steps t _),?_⟩))
 | refine cF ?_
 | refine om ?_
 | refine an ?_
 | fail) <;> try simp only [zT,zV,zS,zU,vcC,lateX,ex,strp,binA,elems,cells,scalar,eqC,keyA,intsA,lookA,ofVs,mpOf,Nat.reduceBEq,reduceAdd,reduceSub,reduceLT,reduceLeDiff,reduceMul,reduceEqDiff,reduceIte,hz]))
  all_goals try (exfalso; omega)
  refine AWPC.rng (fun x:{ τ:Sto // τ.length=C }=>x.1) C (fun x=>x.2) (fun k x=>J k x.1) (fun e x=>match e with | .ret=>D x.1 | _=>False) (rdsH (stp t (t.length - 2 - k))) ⟨σ,hC⟩
    rfl rfl hJ hit (fun k' args h=>?_) (fun k' x args ll ρ τ hk' hx=>?_) (fun x τ hx=>?_) (fun e x τ hx=>?_)
  · obtain ⟨s,hs,rfl⟩:=rdsH_inv h; rfl
  · obtain ⟨x,hxC⟩:=x
    simp only at hx
    obtain ⟨h,hh,rfl⟩:=rdsH_inv hk'
    have hb:(stpB t k)[k']?=some h.flip:=by simp [stpB,hh]
    have hch:=(stp_ok hv (List.mem_of_getElem? hh)).2.2
    obtain ⟨c1,c2,c3⟩:=hch
    simp only [Hop.cs,par]
    (repeat' ((first
 | refine vn rfl ?_
 | simp (disch:=omega) only [wr64,Int.zero_sub]
 | refine bo (fun _=>?_) fun _=>?_
 | refine im fun _=>?_
 | refine cF ?_
 | refine om ?_
 | refine an ?_
 | fail) <;> try simp only [zT,zV,zS,zU,vcC,lateX,ex,strp,binA,elems,cells,scalar,eqC,keyA,intsA,lookA,ofVs,mpOf,Nat.reduceBEq,reduceAdd,reduceSub,reduceLT,reduceLeDiff,reduceMul,reduceEqDiff,reduceIte]))
    refine ⟨⟨x,hxC⟩,_,by simp only [List.append_assoc]; rfl,fun ρ'=>?_⟩
    have hy2:=fun ν=>hyield k' _ x ν (rdsH_get hb) hxC hx
    simp only [Hop.cs,Hop.flip] at hy2
    have e1:∀ (ν:Sto),Sto.at (x++ρ'::(τ++(some [⟨130,2,[[n (h.fr:Int),n (h.to:Int)]],none⟩]::ν))) (C+(τ.length+1)) 0=some ⟨130,2,[[n (h.fr:Int),n (h.to:Int)]],none⟩:=fun ν=>by rw [← hxC,at_app,at_consS,at_app0]; rfl
    have e2:∀ (a:Option (List Ob)) (ν:Sto),Sto.at (x++ρ'::(τ++(a::some [⟨30,2,[h.ch.cs],none⟩]::ν))) (C+(τ.length+1+1)) 0=some ⟨30,2,[h.ch.cs],none⟩:=fun a ν=>by rw [← hxC,at_app,at_consS,at_app]; rfl
    (repeat' ((first
 | refine vn rfl ?_
 | simp (disch:=omega) only [wr64,Int.zero_sub]
 | refine bo (fun _=>?_) fun _=>?_
 | refine im fun _=>?_
 | refine cF ?_
 | refine om ?_
 | refine an ?_
 | fail) <;> try simp only [zT,zV,zS,zU,vcC,lateX,ex,strp,binA,elems,cells,scalar,eqC,keyA,intsA,lookA,ofVs,mpOf,Nat.reduceBEq,reduceAdd,reduceSub,reduceLT,reduceLeDiff,reduceMul,reduceEqDiff,reduceIte,hxC,e1,e2]))
    refine .inr (.inr ⟨y,_,rfl,fun _=>⟨hy2 _,?_⟩,fun h=>by cases h⟩)
    rintro b σ' ⟨τ',ν',rfl,hτ',hb1,hb2⟩
    refine owp_of_exs ?_
    simp only [zT,zV,zS,zU,vcC,lateX,ex,strp,binA,elems,cells,scalar,eqC,keyA,intsA,lookA,ofVs,mpOf,Nat.reduceBEq,reduceAdd,reduceSub,reduceLT,reduceLeDiff,reduceMul,reduceEqDiff,reduceIte]
    cases b with
    | false =>
      (repeat' ((first
 | refine vn rfl ?_
 | simp (disch:=omega) only [wr64,Int.zero_sub]
 | refine bo (fun _=>?_) fun _=>?_
 | refine im fun _=>?_
 | refine cF ?_
 | refine om ?_
 | refine an ?_
 | fail) <;> try simp only [zT,zV,zS,zU,vcC,lateX,ex,strp,binA,elems,cells,scalar,eqC,keyA,intsA,lookA,ofVs,mpOf,Nat.reduceBEq,reduceAdd,reduceSub,reduceLT,reduceLeDiff,reduceMul,reduceEqDiff,reduceIte]))
      exact ⟨⟨τ',hτ'⟩,ν',by simp,hb2 rfl⟩
    | true =>
      (repeat' ((first
 | refine vn rfl ?_
 | simp (disch:=omega) only [wr64,Int.zero_sub]
 | refine bo (fun _=>?_) fun _=>?_
 | refine im fun _=>?_
 | refine cF ?_
 | refine om ?_
 | refine an ?_
 | fail) <;> try simp only [zT,zV,zS,zU,vcC,lateX,ex,strp,binA,elems,cells,scalar,eqC,keyA,intsA,lookA,ofVs,mpOf,Nat.reduceBEq,reduceAdd,reduceSub,reduceLT,reduceLeDiff,reduceMul,reduceEqDiff,reduceIte]))
      exact ⟨⟨τ',hτ'⟩,ν',by simp,hb1 rfl⟩
  · obtain ⟨x,hxC⟩:=x
    simp only at hx
    simp only [zT,zV,zS,zU,vcC,lateX,ex,strp,binA,elems,cells,scalar,eqC,keyA,intsA,lookA,ofVs,mpOf,Nat.reduceBEq,reduceAdd,reduceSub,reduceLT,reduceLeDiff,reduceMul,reduceEqDiff,reduceIte]
    (repeat' ((first
 | refine vn rfl ?_
 | simp (disch:=omega) only [wr64,Int.zero_sub]
 | refine bo (fun _=>?_) fun _=>?_
 | refine im fun _=>?_
 | refine cF ?_
 | refine om ?_
 | refine an ?_
 | fail) <;> try simp only [zT,zV,zS,zU,vcC,lateX,ex,strp,binA,elems,cells,scalar,eqC,keyA,intsA,lookA,ofVs,mpOf,Nat.reduceBEq,reduceAdd,reduceSub,reduceLT,reduceLeDiff,reduceMul,reduceEqDiff,reduceIte]))
    exact Done.mk x _ rfl hxC (.inl (by simp only [rdsH,List.length_map] at hlen hx ⊢; rw [hlen]; exact hx))
  · obtain ⟨x,hxC⟩:=x
    cases e with
    | ret =>
      simp only at hx
      simp only [Jmp.e,zT,zV,zS,zU,vcC,lateX,ex,strp,binA,elems,cells,scalar,eqC,keyA,intsA,lookA,ofVs,mpOf,Nat.reduceBEq,reduceAdd,reduceSub,reduceLT,reduceLeDiff,reduceMul,reduceEqDiff,reduceIte]
      (repeat' ((first
 | refine vn rfl ?_
 | simp (disch:=omega) only [wr64,Int.zero_sub]
 | refine bo (fun _=>?_) fun _=>?_
 | refine im fun _=>?_
 | refine cF ?_
 | refine om ?_
 | refine an ?_
 | fail) <;> try simp only [zT,zV,zS,zU,vcC,lateX,ex,strp,binA,elems,cells,scalar,eqC,keyA,intsA,lookA,ofVs,mpOf,Nat.reduceBEq,reduceAdd,reduceSub,reduceLT,reduceLeDiff,reduceMul,reduceEqDiff,reduceIte]))
      exact Done.mk x _ rfl hxC (.inr hx)
    | exit i=>exact hx.elim
theorem wide_len (l:List Sp) (c:Sp):(wide l c).length=l.length:=by simp [wide]
theorem moved_spec (l:List Sp) (c:Sp) (hl:l.length≤200001) (hb:∀ s∈l,-100000≤s.lo∧s.lo≤s.hi∧s.hi≤100000) (hc:chOk c):Pure Tryz.prog 136 [spS l,.agg c.cs] (spS (wide l c)):=by
  refine Pure.of_body Tryz.call136 Tryz.func136 k136 (Nat.le_of_ble_eq_true rfl) ?_
  unfold c136
  obtain ⟨c1,c2,c3⟩:=hc
  ((first
 | refine vn rfl ?_
 | simp (disch:=omega) only [wr64,Int.zero_sub]
 | refine bo (fun _=>?_) fun _=>?_
 | refine im fun _=>?_
 | refine cF ?_
 | refine om ?_
 | refine an ?_
 | fail) <;> try simp only [zT,zV,zS,zU,vcC,lateX,ex,strp,binA,elems,cells,scalar,eqC,keyA,intsA,lookA,ofVs,mpOf,Nat.reduceBEq,reduceAdd,reduceSub,reduceLT,reduceLeDiff,reduceMul,reduceEqDiff,reduceIte])
  ((first
 | refine vn rfl ?_
 | simp (disch:=omega) only [wr64,Int.zero_sub]
 | refine bo (fun _=>?_) fun _=>?_
 | refine im fun _=>?_
 | refine cF ?_
 | refine om ?_
 | refine an ?_
 | fail) <;> try simp only [zT,zV,zS,zU,vcC,lateX,ex,strp,binA,elems,cells,scalar,eqC,keyA,intsA,lookA,ofVs,mpOf,Nat.reduceBEq,reduceAdd,reduceSub,reduceLT,reduceLeDiff,reduceMul,reduceEqDiff,reduceIte])
  refine AWPC.own0 30 2 5 rfl ?_
  (repeat' ((first
 | refine vn rfl ?_
 | simp (disch:=omega) only [wr64,Int.zero_sub]
 | refine bo (fun _=>?_) fun _=>?_
 | refine im fun _=>?_
 | refine cF ?_
 | refine om ?_
 | refine an ?_
 | fail) <;> try simp only [zT,zV,zS,zU,vcC,lateX,ex,strp,binA,elems,cells,scalar,eqC,keyA,intsA,lookA,ofVs,mpOf,Nat.reduceBEq,reduceAdd,reduceSub,reduceLT,reduceLeDiff,reduceMul,reduceEqDiff,reduceIte]))
  refine AWPC.loopE (α:={ x:Nat × Sto // x.1≤l.length }) [5,10] (fun x=>[(5,.own 0 0 (wide (l.take x.1.1) c).length),(10,n x.1.1)]) (fun x=>some [spO (wide (l.take x.1.1) c)]::x.1.2) (fun x=>l.length - x.1.1) ⟨(0,[]),by simp⟩ ?_ ?_ ?_
  · (simp only [zT,zV,zS,zU,vcC,lateX,ex,strp,binA,elems,cells,scalar,eqC,keyA,intsA,lookA,ofVs,mpOf,Nat.reduceBEq,reduceAdd,reduceSub,reduceLT,reduceLeDiff,reduceMul,reduceEqDiff,reduceIte]; try simp)
    simp [wide]
  · simp [wide]
  rintro ⟨⟨k,μ⟩,hk⟩
  simp only at hk
  have hw1:=wide_len (l.take k) c
  rw [List.length_take] at hw1
  by_cases hlt:k < l.length
  · obtain ⟨s,hs⟩:∃ s,l[k]?=some s:=⟨_,List.getElem?_eq_getElem hlt⟩
    have hsb:=hb s (List.mem_of_getElem? hs)
    have hnx:wide (l.take (k+1)) c=wide (l.take k) c++[⟨s.lo+c.lo,s.hi+c.hi⟩]:=by rw [take_snoc hs]; simp [wide]
    simp only
    generalize wide (l.take k) c=A at *
    (repeat' ((first
 | refine vn rfl ?_
 | simp (disch:=omega) only [wr64,Int.zero_sub]
 | refine bo (fun _=>?_) fun _=>?_
 | refine im fun _=>?_
 | refine cF ?_
 | refine om ?_
 | refine an ?_
 | fail) <;> try simp only [zT,zV,zS,zU,vcC,lateX,ex,strp,binA,elems,cells,scalar,eqC,keyA,intsA,lookA,ofVs,mpOf,Nat.reduceBEq,reduceAdd,reduceSub,reduceLT,reduceLeDiff,reduceMul,reduceEqDiff,reduceIte,getD_map hs,hw1,List.cons_append]))
    all_goals try (exfalso; omega)
    exact ⟨⟨(k+1,μ++[some [⟨30,2,[s.cs],none⟩]]),hlt⟩,⟨by rw [hnx]; simp [hw1],by simp⟩,by rw [hnx]; simp,by simp only; omega⟩
  · obtain rfl:k=l.length:=by omega
    rw [List.take_length]
    (repeat' ((first
 | refine vn rfl ?_
 | simp (disch:=omega) only [wr64,Int.zero_sub]
 | refine bo (fun _=>?_) fun _=>?_
 | refine im fun _=>?_
 | refine cF ?_
 | refine om ?_
 | refine an ?_
 | fail) <;> try simp only [zT,zV,zS,zU,vcC,lateX,ex,strp,binA,elems,cells,scalar,eqC,keyA,intsA,lookA,ofVs,mpOf,Nat.reduceBEq,reduceAdd,reduceSub,reduceLT,reduceLeDiff,reduceMul,reduceEqDiff,reduceIte]))
    all_goals try (exfalso; omega)
    exact frz_sp rfl
theorem clone_spec (l:List Sp) (hl:(l.length:Int) * 16≤140737488355328):Pure Tryz.prog 129 [spS l] (spS l):=by
  have nil:Pure Tryz.prog 129 [.v (.slice none 0 0)] (spS []):=by
    refine Pure.of_body Tryz.call129 Tryz.func129 k129 (Nat.le_of_ble_eq_true rfl) ?_
    unfold c129
    (repeat' ((first
 | refine vn rfl ?_
 | simp (disch:=omega) only [wr64,Int.zero_sub]
 | refine bo (fun _=>?_) fun _=>?_
 | refine im fun _=>?_
 | refine cF ?_
 | refine om ?_
 | refine an ?_
 | fail) <;> try simp only [zT,zV,zS,zU,vcC,lateX,ex,strp,binA,elems,cells,scalar,eqC,keyA,intsA,lookA,ofVs,mpOf,Nat.reduceBEq,reduceAdd,reduceSub,reduceLT,reduceLeDiff,reduceMul,reduceEqDiff,reduceIte]))
    all_goals exact frz_nil
  have emp:∀ a cap,Pure Tryz.prog 129 [.v (.slice (some a) 0 cap)] (spS []):=by
    intro a cap
    refine Pure.of_body Tryz.call129 Tryz.func129 k129 (Nat.le_of_ble_eq_true rfl) ?_
    unfold c129
    (repeat' ((first
 | refine vn rfl ?_
 | simp (disch:=omega) only [wr64,Int.zero_sub]
 | refine bo (fun _=>?_) fun _=>?_
 | refine im fun _=>?_
 | refine cF ?_
 | refine om ?_
 | refine an ?_
 | fail) <;> try simp only [zT,zV,zS,zU,vcC,lateX,ex,strp,binA,elems,cells,scalar,eqC,keyA,intsA,lookA,ofVs,mpOf,Nat.reduceBEq,reduceAdd,reduceSub,reduceLT,reduceLeDiff,reduceMul,reduceEqDiff,reduceIte]))
    all_goals exact frz_sp' [] rfl rfl
  by_cases h0:l=[]
  · subst h0
    refine ⟨nil.ent,fun X w xs hX hxl hr=>?_⟩
    match xs,hxl with
    | [x],_ =>
      have hx:=hr 0 (by simp)
      simp only [List.getD_cons_zero] at hx
      cases hx with
      | slnil=>exact nil.go X w _ hX rfl (fun i hi=>by obtain rfl:i=0:=(by simpa using hi); exact .v _)
      | slemp _ a cap=>exact (emp a cap).go X w _ hX rfl (fun i hi=>by obtain rfl:i=0:=(by simpa using hi); exact .v _)
      | sl _ _ b o cap x hcap hk hc hX' h1 hr'=>exact (emp _ cap).go X w _ hX rfl (fun i hi=>by obtain rfl:i=0:=(by simpa using hi); exact .v _)
  · refine Pure.of_body Tryz.call129 Tryz.func129 k129 (Nat.le_of_ble_eq_true rfl) ?_
    unfold c129
    have hne:l.map Sp.cs≠[]:=by simpa using h0
    (repeat' ((first
 | refine vn rfl ?_
 | simp (disch:=omega) only [wr64,Int.zero_sub]
 | refine bo (fun _=>?_) fun _=>?_
 | refine im fun _=>?_
 | refine cF ?_
 | refine om ?_
 | refine an ?_
 | fail) <;> try simp only [zT,zV,zS,zU,vcC,lateX,ex,strp,binA,elems,cells,scalar,eqC,keyA,intsA,lookA,ofVs,mpOf,Nat.reduceBEq,reduceAdd,reduceSub,reduceLT,reduceLeDiff,reduceMul,reduceEqDiff,reduceIte]))
    refine ⟨⟨rows_ok l,by omega⟩,?_⟩
    (repeat' ((first
 | refine vn rfl ?_
 | simp (disch:=omega) only [wr64,Int.zero_sub]
 | refine bo (fun _=>?_) fun _=>?_
 | refine im fun _=>?_
 | refine cF ?_
 | refine om ?_
 | refine an ?_
 | fail) <;> try simp only [zT,zV,zS,zU,vcC,lateX,ex,strp,binA,elems,cells,scalar,eqC,keyA,intsA,lookA,ofVs,mpOf,Nat.reduceBEq,reduceAdd,reduceSub,reduceLT,reduceLeDiff,reduceMul,reduceEqDiff,reduceIte]))
    exact frz_sp' l rfl rfl
theorem updUpd {σ:Sto} {f i:Nat} {o o':Ob}:(σ.upd f i o).upd f i o'=σ.upd f i o':=by
  unfold Sto.upd
  cases h:σ[f]? with
  | none=>simp [h]
  | some F =>
    cases F with
    | none=>simp [h]
    | some F =>
      have hlt:=(List.getElem?_eq_some_iff.1 h).1
      simp [List.getElem?_set_self hlt]
theorem range_get {α:Type} (f:Nat→α) {N i:Nat} {d:α} (h:i < N):((List.range N).map f).getD i d=f i:=by simp [List.getD_eq_getElem?_getD,h]
theorem range_congr {α:Type} {f g:Nat→α} {N:Nat} (h:∀ j,j < N→f j=g j):(List.range N).map f=(List.range N).map g:=List.map_congr_left fun j hj=>h j (List.mem_range.1 hj)
theorem range_set {α:Type} (f:Nat→α) (N c:Nat) (x:α):((List.range N).map f).set c x=(List.range N).map fun j=>if j=c then x else f j:=by
  refine List.ext_getElem? fun i=>?_
  rw [List.getElem?_set]
  by_cases hi:c=i
  · subst hi
    by_cases hc:c < N
    · simp [hc]
    · simp [hc]
  · have:¬ i=c:=fun e=>hi e.symm
    by_cases hc:i < N
    · simp [hi,hc,this]
    · simp [hi,hc]
def rowsO (G m N:Nat):List (List AV):=(List.range N).map fun c=>if c < m then [.own (G+c) 0 0] else [.v (.slice none 0 0)]
theorem AWPC.ownRows {P:Program} {N0:Nat} {rd:Option Nat} {K:Kont} {env:Env} {σ:Sto} {c:C} {A N T T' k':Nat} (ho:σ.at A 0=some ⟨T,1,List.replicate N [.v (.slice none 0 0)],none⟩)
    (h:AWPC P N0 rd c K env (σ.upd A 0 ⟨T,1,rowsO σ.length N N,none⟩++List.replicate N (some [⟨T',k',[],none⟩]))):AWPC P N0 rd c K env σ:=by
  have hA:=at_lt ho
  have main:∀ j,j≤N→AWPC P N0 rd c K env (σ.upd A 0 ⟨T,1,rowsO σ.length (N - j) N,none⟩++List.replicate (N - j) (some [⟨T',k',[],none⟩])):=by
    intro j
    induction j with
    | zero=>intro _; exact h
    | succ j ih =>
      intro hj
      have ih:=ih (by omega)
      obtain ⟨m,hm⟩:∃ m,N - j=m+1:=⟨N - j - 1,by omega⟩
      have hm':N - (j+1)=m:=by omega
      rw [hm] at ih
      rw [hm']
      have hmN:m < N:=by omega
      have hat:Sto.at (σ.upd A 0 ⟨T,1,rowsO σ.length m N,none⟩++List.replicate m (some [⟨T',k',[],none⟩])) A 0=some ⟨T,1,rowsO σ.length m N,none⟩:=by
        rw [at_appL (by rw [upd_length]; exact hA)]; exact at_upd_same ho
      refine AWPC.own0c T' k' (f:=A) (i:=0) (e:=m) (j:=0) hat (by simp [rowsO]; exact hmN) (by simp [rowsO,List.getD_eq_getElem?_getD,hmN]) ?_
      have e1:(rowsO σ.length m N).set m (((rowsO σ.length m N).getD m []).set 0 (.own (σ.length+m) 0 0))=rowsO σ.length (m+1) N:=by
        refine List.ext_getElem? fun i=>?_
        rw [List.getElem?_set]
        by_cases hi:m=i
        · subst hi
          simp [rowsO,hmN,List.getD_eq_getElem?_getD]
        · simp only [hi,if_false]
          simp only [rowsO,List.getElem?_map]
          by_cases hiN:i < N
          · simp only [List.getElem?_range hiN,Option.map_some]
            have:(i < m)↔(i < m+1):=by omega
            simp only [this]
          · simp [List.getElem?_eq_none,hiN]
      have e2:List.length (σ.upd A 0 ⟨T,1,rowsO σ.length m N,none⟩++List.replicate m (some [⟨T',k',[],none⟩]))=σ.length+m:=by simp [upd_length]
      rw [e2]
      simp only
      rw [e1]
      have e3:Sto.upd (σ.upd A 0 ⟨T,1,rowsO σ.length m N,none⟩++List.replicate m (some [⟨T',k',[],none⟩])++[some [⟨T',k',[],none⟩]]) A 0 ⟨T,1,rowsO σ.length (m+1) N,none⟩=σ.upd A 0 ⟨T,1,rowsO σ.length (m+1) N,none⟩++List.replicate (m+1) (some [⟨T',k',[],none⟩]):=by
        rw [List.append_assoc,upd_appL (by rw [upd_length]; exact hA)]
        congr 1
        · exact updUpd
        · rw [List.replicate_succ']
      rw [e3]
      exact ih
  have:=main N (Nat.le_refl _)
  rw [Nat.sub_self] at this
  simp only [List.replicate_zero,List.append_nil] at this
  have e:rowsO σ.length 0 N=List.replicate N [.v (.slice none 0 0)]:=by
    refine List.ext_getElem? fun i=>?_
    simp only [rowsO,List.getElem?_map,List.getElem?_replicate]
    by_cases hi:i < N
    · simp [hi]
    · simp [hi]
  rw [e,upd_self ho] at this
  exact this
def Cols (σ:Sto) (A G N:Nat) (R:Nat→List Sp):Prop :=
  σ.at A 0=some ⟨45,1,(List.range N).map fun (j:Nat)=>[.own (G+j) 0 (R j).length],none⟩∧∀ j,j < N→σ.at (G+j) 0=some (spO (R j))
theorem Cols.congr {σ:Sto} {A G N:Nat} {R R':Nat→List Sp} (h:Cols σ A G N R) (hR:∀ j,j < N→R' j=R j):Cols σ A G N R':=by
  refine ⟨?_,fun j hj=>by rw [hR j hj]; exact h.2 j hj⟩
  rw [h.1,range_congr (f:=fun (j:Nat)=>[AV.own (G+j) 0 (R j).length]) (g:=fun (j:Nat)=>[.own (G+j) 0 (R' j).length]) fun j hj=>by rw [hR j hj]]
theorem Cols.frame {σ σ':Sto} {A G N:Nat} {R:Nat→List Sp} (h:Cols σ A G N R) (hA:σ'.at A 0=σ.at A 0) (hG:∀ j,j < N→σ'.at (G+j) 0=σ.at (G+j) 0):Cols σ' A G N R :=
  ⟨by rw [hA]; exact h.1,fun j hj=>by rw [hG j hj]; exact h.2 j hj⟩
theorem Cols.app {σ:Sto} {A G N:Nat} {R:Nat→List Sp} (h:Cols σ A G N R) (ν:Sto):Cols (σ++ν) A G N R :=
  h.frame (at_appL (at_lt h.1)) fun j hj=>at_appL (at_lt (h.2 j hj))
def putO (σ:Sto) (A G N c:Nat) (R:Nat→List Sp) (l:List Sp):Sto :=
  (σ.upd (G+c) 0 (spO l)).upd A 0 ⟨45,1,((List.range N).map fun (j:Nat)=>[AV.own (G+j) 0 (R j).length]).set c [.own (G+c) 0 l.length],none⟩
theorem putO_len {σ:Sto} {A G N c:Nat} {R:Nat→List Sp} {v:List Sp}:(putO σ A G N c R v).length=σ.length:=by rw [putO,upd_length,upd_length]
theorem putO_at {σ:Sto} {A G N c:Nat} {R:Nat→List Sp} {v:List Sp} {i:Nat} (h:i≠A) (h':i≠G+c):(putO σ A G N c R v).at i 0=σ.at i 0:=by
  rw [putO,at_upd_other (.inl fun e=>h e.symm),at_upd_other (.inl fun e=>h' e.symm)]
theorem putO_one {σ:Sto} {A G N c:Nat} {R:Nat→List Sp} {v:List Sp} (h:Cols σ A G N R) (hAG:A < G) (hc:c < N):Cols (putO σ A G N c R v) A G N (fun j=>if j=c then v else R j):=by
  have h1:(σ.upd (G+c) 0 (spO v)).at A 0=some ⟨45,1,(List.range N).map fun (j:Nat)=>[.own (G+j) 0 (R j).length],none⟩:=by rw [at_upd_other (.inl (by omega))]; exact h.1
  refine ⟨?_,fun j hj=>?_⟩
  · rw [putO,at_upd_same h1,range_set]
    refine congrArg (fun z=>some (⟨45,1,z,none⟩:Ob)) (range_congr fun j hj=>?_)
    by_cases hjc:j=c
    · subst hjc; simp
    · simp [hjc]
  · rw [putO,at_upd_other (.inl (by omega))]
    by_cases hjc:j=c
    · subst hjc; rw [at_upd_same (h.2 j hj)]; simp
    · rw [at_upd_other (.inl (by omega)),h.2 j hj]; simp [hjc]
theorem cols_new (τ:Sto) (a c:Option (List Ob)) (o0:Ob) (N:Nat) (σ1:Sto) (h:σ1=Sto.upd (τ++[a,some [o0],c]) (List.length τ+1) 0 ⟨45,1,rowsO (List.length (τ++[a,some [o0],c])) N N,none⟩++List.replicate N (some [spO []])) :
    σ1.length=List.length τ+3+N∧Cols σ1 (List.length τ+1) (List.length τ+3) N (fun _=>[])∧σ1.at (List.length τ+2) 0=Sto.at [c] 0 0∧σ1.at (List.length τ) 0=Sto.at [a] 0 0∧∀ i,i < List.length τ→σ1.at i 0=τ.at i 0:=by
  have e0:List.length (τ++[a,some [o0],c])=List.length τ+3:=by simp
  rw [upd_app,e0] at h
  have e1:σ1=τ++(a::some [⟨45,1,rowsO (List.length τ+3) N N,none⟩]::c::List.replicate N (some [spO []])):=by
    rw [h,upd_consS,upd_cons0]; simp
  subst e1
  refine ⟨by simp; omega,⟨?_,fun j hj=>?_⟩,?_,?_,fun i hi=>at_appL hi⟩
  · rw [at_app,at_consS,at_cons0]
    simp only [List.getElem?_cons_zero,rowsO]
    exact congrArg (fun z=>some (⟨45,1,z,none⟩:Ob)) (range_congr fun j hj=>by rw [if_pos hj]; rfl)
  · rw [show List.length τ+3+j=List.length τ+(j+1+1+1) by omega,at_app,at_consS,at_consS,at_consS]
    unfold Sto.at
    simp [hj]
  · rw [at_app,at_consS,at_consS]
    cases c <;> simp [Sto.at]
  · rw [at_app0]
    cases a <;> simp [Sto.at]
def RowAt (σ:Sto) (c:AV) (x:List (List Sp)):Prop:=c=nodS x∨∃ f,c=.own f 0 x.length∧σ.at f 0=some ⟨45,1,x.map (fun l=>[spS l]),none⟩
theorem RowAt.app {σ:Sto} {c:AV} {x:List (List Sp)} (h:RowAt σ c x) (ν:Sto):RowAt (σ++ν) c x:=by
  rcases h with h | ⟨f,h1,h2⟩
  · exact .inl h
  · exact .inr ⟨f,h1,by rw [at_appL (at_lt h2)]; exact h2⟩
theorem frz_nodO {σ:Sto} {f:Nat} {x:List (List Sp)} (h:σ.at f 0=some ⟨45,1,x.map (fun l=>[spS l]),none⟩):Frz σ (.own f 0 x.length) (nodS x):=by
  refine Frz.own (o:=⟨45,1,x.map (fun l=>[spS l]),none⟩) (es:=x.map fun l=>[spS l]) (show (1:Nat)≠0 by decide) h (by simp) (by simp) (fun e j he hj=>?_) fun e he=>?_
  · obtain ⟨l,hl⟩:∃ l,x[e]?=some l:=⟨_,List.getElem?_eq_getElem he⟩
    rw [getD_map hl]
    match j,hj with
    | 0,_=>exact Frz.eq rfl (by simp)
  · obtain ⟨l,hl⟩:∃ l,x[e]?=some l:=⟨_,List.getElem?_eq_getElem he⟩
    rw [getD_map hl]; rfl
theorem RowAt.frz {σ:Sto} {c:AV} {x:List (List Sp)} (h:RowAt σ c x):Frz σ c (nodS x):=by
  rcases h with rfl | ⟨f,rfl,h2⟩
  · exact Frz.eq rfl (by simp)
  · exact frz_nodO h2
def c97:CF:=⟨97,
 (.seq (.ops [
 ⟨some 4,.mv (.c (.slice none 0 0)),none⟩] [0,1])
 (.seq (.seq (.ops [
 ⟨some 15,.mv (.t 1),none⟩,
 ⟨some 16,.nilq false (.t 15) (.c (.slice none 0 0)),none⟩] [0,1,16])
 (.cond (.t 16) (.seq (.ops [
 ⟨some 17,.mv (.t 0),none⟩,
 ⟨some 18,.inv "aneroid/tracks.nodes" (.t 17) [(.c (.int .i64 0))],none⟩,
 ⟨some 19,.len (.t 18),none⟩,
 ⟨some 20,.mv (.c (.int .i64 0)),none⟩] [0,1,18,19,20])
 (.block 0 (.loop (.seq (.ops [
 ⟨some 21,.bin .lss (.t 20) (.t 19),none⟩] [0,1,18,19,20,21])
 (.seq (.cond (.t 21) .skip
 (.exit 0))
 (.seq (.block 1 (.seq (.ops [
 ⟨some 22,.iaddr 2 (.t 18) (.t 20),none⟩,
 ⟨some 23,.load (some 2) (.t 22),none⟩,
 ⟨some 6,.alloc 80 2 [.slice none 0 0,.slice none 0 0],none⟩,
 ⟨none,.store 2 (.t 6) (.t 23),none⟩] [0,1,6,18,19,20])
 (.ops [
 ⟨some 24,.mv (.t 1),none⟩,
 ⟨some 25,.faddr 0 (.t 6),none⟩,
 ⟨some 26,.load none (.t 25),none⟩,
 ⟨some 27,.call (.f 129) [(.t 26)],none⟩,
 ⟨some 28,.bsl false 45 1 1 [.slice none 0 0] [(0,1,(.t 27))],none⟩,
 ⟨some 29,.app 45 1 24 (.t 24) (.t 28),none⟩,
 ⟨some 1,.mv (.t 29),none⟩] [0,1,18,19,20])))
 (.ops [
 ⟨some 30,.bin .add (.t 20) (.c (.int .i64 1)),none⟩,
 ⟨some 20,.mv (.t 30),none⟩] [0,1,18,19,20])))))))
 .skip))
 (.seq (.ops [
 ⟨some 31,.mv (.t 1),none⟩,
 ⟨some 32,.bsl true 61 1 1 [.slice none 0 0] [(0,1,(.t 31))],none⟩,
 ⟨some 7,.alloc 31 1 [.slice none 0 0],none⟩,
 ⟨none,.store 1 (.t 7) (.t 32),none⟩] [0,7])
 (.seq (.seq (.ops [
 ⟨some 33,.mv (.t 0),none⟩,
 ⟨some 34,.inv "aneroid/tracks.stages" (.t 33) [],none⟩,
 ⟨some 35,.bin .sub (.t 34) (.c (.int .i64 1)),none⟩,
 ⟨some 36,.mv (.c (.int .i64 0)),none⟩] [0,7,35,36])
 (.block 2 (.loop (.seq (.ops [
 ⟨some 37,.bin .lss (.t 36) (.t 35),none⟩] [0,7,35,36,37])
 (.seq (.cond (.t 37) .skip
 (.exit 2))
 (.seq (.block 3 (.seq (.ops [
 ⟨some 38,.mv (.t 36),none⟩,
 ⟨some 8,.alloc 3 1 [.int .i64 0],none⟩,
 ⟨none,.store 1 (.t 8) (.t 38),none⟩] [0,7,8,35,36])
 (.seq (.ops [
 ⟨some 39,.mv (.t 0),none⟩,
 ⟨some 40,.load none (.t 8),none⟩,
 ⟨some 41,.bin .add (.t 40) (.c (.int .i64 1)),none⟩,
 ⟨some 42,.inv "aneroid/tracks.nodes" (.t 39) [(.t 41)],none⟩,
 ⟨some 9,.mv (.t 42),none⟩] [0,7,8,9,35,36])
 (.seq (.ops [
 ⟨some 43,.mv (.t 9),none⟩,
 ⟨some 44,.len (.t 43),none⟩,
 ⟨some 45,.mksl 45 1 24 [.slice none 0 0] (.t 44) (.t 44),none⟩,
 ⟨some 10,.alloc 61 1 [.slice none 0 0],none⟩,
 ⟨none,.store 1 (.t 10) (.t 45),none⟩] [0,7,8,9,10,35,36])
 (.seq (.seq (.ops [
 ⟨some 46,.mv (.t 0),none⟩,
 ⟨some 47,.load none (.t 8),none⟩,
 ⟨some 48,.inv "aneroid/tracks.steps" (.t 46) [(.t 47)],none⟩] [0,7,8,9,10,35,36,48])
 (.block 4 (.rng (.t 48) [49,50] (.seq (.ops [
 ⟨some 11,.alloc 130 2 [.int .i64 0,.int .i64 0],none⟩,
 ⟨none,.store 2 (.t 11) (.t 49),none⟩] [0,7,8,9,10,11,35,36,50])
 (.ops [
 ⟨some 12,.alloc 30 2 [.int .i64 0,.int .i64 0],none⟩,
 ⟨none,.store 2 (.t 12) (.t 50),none⟩] [0,7,8,9,10,11,12,35,36]))
 (.block 5 (.draww [0,1,2,3,4,5,6,7,8,9,10,11,12,13,14,15,16,17,18,19,20] [0,1,2] 1 [
 ⟨some 51,.load none (.t 10),none⟩,
 ⟨some 52,.faddr 1 (.t 11),none⟩,
 ⟨some 53,.load none (.t 52),none⟩,
 ⟨some 54,.load none (.t 10),none⟩,
 ⟨some 55,.faddr 1 (.t 11),none⟩,
 ⟨some 56,.load none (.t 55),none⟩,
 ⟨some 57,.iaddr 1 (.t 54) (.t 56),none⟩,
 ⟨some 58,.load none (.t 57),none⟩,
 ⟨some 59,.load none (.t 7),none⟩,
 ⟨some 60,.load none (.t 8),none⟩,
 ⟨some 61,.iaddr 1 (.t 59) (.t 60),none⟩,
 ⟨some 62,.load none (.t 61),none⟩,
 ⟨some 63,.faddr 0 (.t 11),none⟩,
 ⟨some 64,.load none (.t 63),none⟩,
 ⟨some 65,.iaddr 1 (.t 62) (.t 64),none⟩,
 ⟨some 66,.load none (.t 65),none⟩,
 ⟨some 67,.load (some 2) (.t 12),none⟩,
 ⟨some 68,.call (.f 136) [(.t 66),(.t 67)],none⟩] [
 ⟨some 69,.app 30 2 16 (.t 58) (.t 68),none⟩,
 ⟨some 70,.iaddr 1 (.t 51) (.t 53),none⟩,
 ⟨none,.store 1 (.t 70) (.t 69),none⟩] [0,7,8,9,10,35,36])))))
 (.seq (.seq (.ops [
 ⟨some 71,.load none (.t 10),none⟩,
 ⟨some 72,.len (.t 71),none⟩,
 ⟨some 73,.mv (.c (.int .i64 0)),none⟩] [0,7,9,10,35,36,71,72,73])
 (.block 6 (.loop (.seq (.ops [
 ⟨some 74,.bin .lss (.t 73) (.t 72),none⟩] [0,7,9,10,35,36,71,72,73,74])
 (.seq (.cond (.t 74) .skip
 (.exit 6))
 (.seq (.block 7 (.seq (.ops [
 ⟨some 75,.mv (.t 73),none⟩,
 ⟨some 76,.iaddr 1 (.t 71) (.t 73),none⟩,
 ⟨some 77,.load none (.t 76),none⟩,
 ⟨some 13,.mv (.t 75),none⟩,
 ⟨some 14,.mv (.t 77),none⟩] [0,7,9,10,13,14,35,36,71,72,73])
 (.draw [
 ⟨some 78,.load none (.t 10),none⟩,
 ⟨some 79,.mv (.t 13),none⟩,
 ⟨some 80,.mv (.t 14),none⟩,
 ⟨some 81,.call (.f 93) [(.t 80)],none⟩,
 ⟨some 82,.call (.f 79) [(.t 81)],none⟩,
 ⟨some 83,.mv (.t 9),none⟩,
 ⟨some 84,.mv (.t 13),none⟩,
 ⟨some 85,.iaddr 2 (.t 83) (.t 84),none⟩,
 ⟨some 86,.faddr 0 (.t 85),none⟩,
 ⟨some 87,.load none (.t 86),none⟩,
 ⟨some 88,.call (.f 81) [(.t 82),(.t 87)],none⟩,
 ⟨some 89,.iaddr 1 (.t 78) (.t 79),none⟩] [
 ⟨none,.store 1 (.t 89) (.t 88),none⟩] [0,7,9,10,35,36,71,72,73])))
 (.ops [
 ⟨some 90,.bin .add (.t 73) (.c (.int .i64 1)),none⟩,
 ⟨some 73,.mv (.t 90),none⟩] [0,7,9,10,35,36,71,72,73])))))))
 (.ops [
 ⟨some 91,.load none (.t 7),none⟩,
 ⟨some 92,.load none (.t 10),none⟩,
 ⟨some 93,.bsl false 61 1 1 [.slice none 0 0] [(0,1,(.t 92))],none⟩,
 ⟨some 94,.app 61 1 24 (.t 91) (.t 93),none⟩,
 ⟨none,.store 1 (.t 7) (.t 94),none⟩] [0,7,35,36])))))))
 (.ops [
 ⟨some 95,.bin .add (.t 36) (.c (.int .i64 1)),none⟩,
 ⟨some 36,.mv (.t 95),none⟩] [0,7,35,36])))))))
 (.seq (.ops [
 ⟨some 96,.load none (.t 7),none⟩,
 ⟨some 4,.mv (.t 96),none⟩] [4])
 .ret))))),
 [.t 4]⟩
theorem k97:chkF Tryz.prog Tryz.f97 c97=true:=by kernel_rfl
structure SeenP (T:Nat) (rv:AV) (fs fn fp it:Nat) (cap:Nat→List AV) (N:Nat) (nd:Nat→List Nod) (hs:Nat→List Hop):Prop where
  ms:methOf Tryz.prog T "aneroid/tracks.stages" = some fs
  mn:methOf Tryz.prog T "aneroid/tracks.nodes" = some fn
  mp:methOf Tryz.prog T "aneroid/tracks.steps" = some fp
  ps:Pure Tryz.prog fs [rv] (n (N:Int))
  pn:∀ k:Nat,k < N→Pure Tryz.prog fn [rv,n (k:Int)] (stS (nd k))
  pp:∀ k:Nat,k+1 < N→Pure Tryz.prog fp [rv,n (k:Int)] (.fn (.func it) [] (cap k))
  pi:∀ k:Nat,k+1 < N→Iter Tryz.prog it [] (cap k) (rdsH (hs k))
  pv:PureV rv
  n1:1≤N
  n2:N≤401
  nl:∀ k,k < N→(nd k).length≤4000
  ng:∀ k,goods ((nd k).map (·.al))
  ns:∀ k,k < N→∀ x∈nd k,x.al.length≤64
  hk:∀ k,k+1 < N→∀ h∈hs k,h.fr < (nd k).length∧h.to < (nd (k+1)).length∧chOk h.ch
  hl:∀ k,k+1 < N→(hs k).length≤256000
theorem RowAt.frame {σ σ':Sto} {c:AV} {x:List (List Sp)} (h:RowAt σ c x) (hs:∀ f o,σ.at f 0=some o→o.T=45→σ'.at f 0=some o):RowAt σ' c x:=by
  rcases h with h | ⟨f,h1,h2⟩
  · exact .inl h
  · exact .inr ⟨f,h1,hs f _ h2 rfl⟩
structure LvS (m:Nat) (o0:Bool) (A B:Nat) (lv:Nat→List (List Sp)) (τ:Sto) (k:Nat) (cl:Nat→AV) (g:Nat→Nat):Prop where
  a:τ.at A 0=some ⟨61,1,(List.range (k+1)).map fun i=>[cl i],none⟩
  b:τ.at B 0=some ⟨31,1,[[.own A 0 (k+1)]],none⟩
  row:∀ i,i≤k→RowAt τ (cl i) (lv i)
  own:∀ i,(o0=true∨1≤i)→i≤k→cl i=.own (g i) 0 (lv i).length∧τ.at (g i) 0=some ⟨45,1,(lv i).map (fun l=>[spS l]),none⟩∧m≤g i
  inj:∀ i j,(o0=true∨1≤i)→i < j→j≤k→g i < g j
inductive ReachR (σ:Sto) (N:Nat) (lv:Nat→List (List Sp)) (o0:Bool) (r:AV) (σ':Sto):Prop
  | mk (ν:Sto) (A B:Nat) (cl:Nat→AV) (g:Nat→Nat) (h:σ'=σ++ν) (hr:r=.own A 0 N) (hA:σ.length≤A) (hs:LvS σ.length o0 A B lv σ' (N - 1) cl g)
theorem into_len {hs:List Hop} {cur:List (List Sp)} (hc:goods cur) (j:Nat):(into hs cur j).length≤hs.length * 200001:=by
  unfold into
  induction hs with
  | nil=>simp
  | cons h r ih =>
    rw [List.flatMap_cons,List.length_append,List.length_cons]
    have h1:(hop1 cur j h).length≤200001:=by
      unfold hop1
      split
      · rw [wide_len]; exact good_len (goods_get hc _)
      · simp
    omega
theorem into_bd {hs:List Hop} {cur:List (List Sp)} (hc:goods cur) (hh:∀ h∈hs,chOk h.ch) (j:Nat):∀ s∈into hs cur j,s.lo≤s.hi∧-1000000≤s.lo∧s.hi≤1000000:=fun s hs'=>by
  obtain ⟨h,hm,hx⟩:=List.mem_flatMap.1 hs'
  unfold hop1 at hx
  split at hx
  · obtain ⟨x,hx',rfl⟩:=List.mem_map.1 hx
    have h1:=(goods_get hc h.fr).1.ne x hx'
    have h2:=(goods_get hc h.fr).2 x hx'
    obtain ⟨h3,h4,h5⟩:=hh h hm
    simp only; omega
  · simp at hx
theorem into_next {hs:List Hop} {cur:List (List Sp)} {m:Nat} {h:Hop} (e:hs[m]?=some h) (j:Nat):into (hs.take (m+1)) cur j=if j=h.to then into (hs.take m) cur j++wide (cur.getD h.fr []) h.ch else into (hs.take m) cur j:=by
  rw [take_snoc e]
  unfold into
  rw [List.flatMap_append]
  simp only [List.flatMap_cons,List.flatMap_nil,List.append_nil]
  unfold hop1
  by_cases hj:j=h.to
  · subst hj; simp
  · rw [if_neg hj,if_neg (fun e=>hj e.symm),List.append_nil]
theorem at_gone' {σ:Sto} {f g i:Nat} (h:g≠f):(gone σ f).at g i=σ.at g i:=by
  unfold gone Sto.at
  rw [List.getElem?_set_ne (fun e=>h e.symm)]
def Pre (σ x:Sto):Prop:=∃ ν,x=σ++ν
theorem Pre.app {σ x:Sto} (h:Pre σ x) (ν:Sto):Pre σ (x++ν):=by obtain ⟨μ,rfl⟩:=h; exact ⟨μ++ν,by simp⟩
theorem Pre.upd {σ x:Sto} (h:Pre σ x) {f i:Nat} {o:Ob} (hf:σ.length≤f):Pre σ (x.upd f i o):=by
  obtain ⟨μ,rfl⟩:=h
  obtain ⟨d,rfl⟩:∃ d,f=σ.length+d:=⟨f - σ.length,by omega⟩
  exact ⟨_,upd_app _ _ _ _ _⟩
theorem Pre.gone {σ x:Sto} (h:Pre σ x) {f:Nat} (hf:σ.length≤f):Pre σ (Abs.gone x f):=by
  obtain ⟨μ,rfl⟩:=h
  exact ⟨_,List.set_append_right _ _ hf⟩
theorem Pre.len {σ x:Sto} (h:Pre σ x):σ.length≤x.length:=by obtain ⟨μ,rfl⟩:=h; simp
inductive FstR (σ:Sto) (T:Nat) (rv:AV) (F0:List (List Sp)) (o0:Bool) (env:Env) (σ':Sto):Prop
  | mk (c0:AV) (g0:Nat) (ν:Sto) (h:Sub [(0,.ifc T rv),(1,c0)] env) (hs:σ'=σ++ν) (hr:RowAt σ' c0 F0) (ho:o0=true→c0=.own g0 0 F0.length∧σ'.at g0 0=some ⟨45,1,F0.map (fun l=>[spS l]),none⟩∧σ.length≤g0)
inductive OutI (σ:Sto) (T:Nat) (rv:AV) (o0:Bool) (lv:Nat→List (List Sp)) (env:Env) (σ':Sto):Prop
  | mk (A:Nat) (cl:Nat→AV) (g:Nat→Nat) (ν:Sto) (h:Sub [(0,.ifc T rv),(7,.ptr (A+1) 0 1 0 0)] env) (hA:σ.length≤A) (hs:σ'=σ++ν) (hl:LvS σ.length o0 A (A+1) lv σ' 0 cl g)
theorem reached_does (σ:Sto) {T:Nat} {rv:AV} {fs fn fp it:Nat} {cap:Nat→List AV} {N:Nat} {nd:Nat→List Nod} {hs:Nat→List Hop} (S:SeenP T rv fs fn fp it cap N nd hs)
    (o0:Bool) (F0:List (List Sp)) (fst:AV) (hf:if o0=true then fst=.v (.slice none 0 0)∧F0=(nd 0).map (·.al) else fst=nodS F0∧F0≠[]) (hg0:goods F0) (hl0:F0.length=(nd 0).length) :
    Does Tryz.prog 97 [.ifc T rv,fst] σ (ReachR σ N (lev (fun k=>(nd k).map (·.al)) hs F0) o0):=by
  refine Does.of_body Tryz.call97 Tryz.func97 k97 (Nat.le_of_ble_eq_true rfl) ?_
  obtain ⟨ms,mn,mp,ps,pn,pp,pi,pv,n1,n2,nl,ng,ns,hhk,hhl⟩:=S
  unfold c97
  ((first
 | refine vn rfl ?_
 | simp (disch:=omega) only [wr64,Int.zero_sub]
 | refine bo (fun _=>?_) fun _=>?_
 | refine im fun _=>?_
 | refine cF ?_
 | refine om ?_
 | refine an ?_
 | fail) <;> try simp only [zT,zV,zS,zU,vcC,lateX,ex,strp,binA,elems,cells,scalar,eqC,keyA,intsA,lookA,ofVs,mpOf,Nat.reduceBEq,reduceAdd,reduceSub,reduceLT,reduceLeDiff,reduceMul,reduceEqDiff,reduceIte])
  refine AWPC.cut (FstR σ T rv F0 o0) ?_ ?_
  · cases o0 with
    | false =>
      obtain ⟨rfl,hne⟩:=hf
      have hne':F0.map (fun l=>[spS l])≠[]:=by simpa using hne
      (repeat' ((first
 | refine vn rfl ?_
 | simp (disch:=omega) only [wr64,Int.zero_sub]
 | refine bo (fun _=>?_) fun _=>?_
 | refine im fun _=>?_
 | refine cF ?_
 | refine om ?_
 | refine an ?_
 | fail) <;> try simp only [zT,zV,zS,zU,vcC,lateX,ex,strp,binA,elems,cells,scalar,eqC,keyA,intsA,lookA,ofVs,mpOf,Nat.reduceBEq,reduceAdd,reduceSub,reduceLT,reduceLeDiff,reduceMul,reduceEqDiff,reduceIte]))
      exact .mk (nodS F0) 0 [] (by simp only [Sub_cons,SubT]; simp [gt]) (by simp) (.inl rfl) (fun h=>by cases h)
    | true =>
      obtain ⟨rfl,rfl⟩:=hf
      have hn0:=nl 0 (by omega)
      have hm0:=ns 0 (by omega)
      have hN0:nd 0=nd 0:=rfl
      generalize hL:nd 0=L at *
      have hp:=pn 0 (by omega)
      rw [hL] at hp
      ((first
 | refine vn rfl ?_
 | simp (disch:=omega) only [wr64,Int.zero_sub]
 | refine bo (fun _=>?_) fun _=>?_
 | refine im fun _=>?_
 | refine cF ?_
 | refine om ?_
 | refine an ?_
 | fail) <;> try simp only [zT,zV,zS,zU,vcC,lateX,ex,strp,binA,elems,cells,scalar,eqC,keyA,intsA,lookA,ofVs,mpOf,Nat.reduceBEq,reduceAdd,reduceSub,reduceLT,reduceLeDiff,reduceMul,reduceEqDiff,reduceIte])
      ((first
 | refine vn rfl ?_
 | simp (disch:=omega) only [wr64,Int.zero_sub]
 | refine bo (fun _=>?_) fun _=>?_
 | refine im fun _=>?_
 | refine cF ?_
 | refine om ?_
 | refine an ?_
 | fail) <;> try simp only [zT,zV,zS,zU,vcC,lateX,ex,strp,binA,elems,cells,scalar,eqC,keyA,intsA,lookA,ofVs,mpOf,Nat.reduceBEq,reduceAdd,reduceSub,reduceLT,reduceLeDiff,reduceMul,reduceEqDiff,reduceIte])
      (repeat' ((first
 | refine vn rfl ?_
 | simp (disch:=omega) only [wr64,Int.zero_sub]
 | refine bo (fun _=>?_) fun _=>?_
 | refine im fun _=>?_
 | ((repeat refine si ?_); (first | ((first | refine .inl ⟨_,_,_,_,rfl,fun _=>pu hp,?_⟩ | refine ⟨_,_,_,_,rfl,fun _=>pu hp,?_⟩); (first | refine o1 ?_ | refine o2 ?_ | refine o3 ?_ | refine o4 ?_)) | refine .inl ⟨_,_,_,_,rfl,pu hp,?_⟩))
 | refine cF ?_
 | refine om ?_
 | refine an ?_
 | fail) <;> try simp only [zT,zV,zS,zU,vcC,lateX,ex,strp,binA,elems,cells,scalar,eqC,keyA,intsA,lookA,ofVs,mpOf,Nat.reduceBEq,reduceAdd,reduceSub,reduceLT,reduceLeDiff,reduceMul,reduceEqDiff,reduceIte,mn]))
      refine AWPC.own0 45 1 1 rfl ?_
      refine AWPC.loopE (α:={ x:Nat × Sto // x.1≤L.length }) [1,20] (fun x=>[(1,.own σ.length 0 x.1.1),(20,n x.1.1)]) (fun x=>σ++(some [⟨45,1,(L.take x.1.1).map (fun x=>[spS x.al]),none⟩]::x.1.2)) (fun x=>L.length - x.1.1) ⟨(0,[]),by simp⟩ ?_ ?_ ?_
      · (simp only [zT,zV,zS,zU,vcC,lateX,ex,strp,binA,elems,cells,scalar,eqC,keyA,intsA,lookA,ofVs,mpOf,Nat.reduceBEq,reduceAdd,reduceSub,reduceLT,reduceLeDiff,reduceMul,reduceEqDiff,reduceIte]; try simp)
      · simp
      rintro ⟨⟨k,μ⟩,hk⟩
      simp only at hk
      simp only
      have htl:(L.take k).length=k:=by rw [List.length_take]; omega
      by_cases hlt:k < L.length
      · obtain ⟨x,hx⟩:∃ x,L[k]?=some x:=⟨_,List.getElem?_eq_getElem hlt⟩
        have hxs:=hm0 x (List.mem_of_getElem? hx)
        (repeat' ((first
 | refine vn rfl ?_
 | simp (disch:=omega) only [wr64,Int.zero_sub]
 | refine bo (fun _=>?_) fun _=>?_
 | refine im fun _=>?_
 | ((repeat refine si ?_); (first | ((first | refine .inl ⟨_,_,_,_,rfl,fun _=>pu (clone_spec x.al (by omega)),?_⟩ | refine ⟨_,_,_,_,rfl,fun _=>pu (clone_spec x.al (by omega)),?_⟩); (first | refine o1 ?_ | refine o2 ?_ | refine o3 ?_ | refine o4 ?_)) | refine .inl ⟨_,_,_,_,rfl,pu (clone_spec x.al (by omega)),?_⟩))
 | refine cF ?_
 | refine om ?_
 | refine an ?_
 | fail) <;> try simp only [zT, zV, zS, zU, vcC, lateX, ex, strp, binA, elems, cells, scalar, eqC, keyA, intsA, lookA, ofVs, mpOf, Nat.reduceBEq, reduceAdd, reduceSub, reduceLT, reduceLeDiff, reduceMul, reduceEqDiff, reduceIte, getD_map hx, htl, List.append_assoc, List.cons_append]))
        all_goals try (exfalso; omega)
        exact ⟨⟨(k+1,μ++[some [⟨80,2,[Nod.cs x],none⟩]]),hlt⟩,by simp,by rw [take_snoc hx]; simp,by simp only; omega⟩
      · obtain rfl:k=L.length:=by omega
        rw [List.take_length]
        (repeat' ((first
 | refine vn rfl ?_
 | simp (disch:=omega) only [wr64,Int.zero_sub]
 | refine bo (fun _=>?_) fun _=>?_
 | refine im fun _=>?_
 | refine cF ?_
 | refine om ?_
 | refine an ?_
 | fail) <;> try simp only [zT, zV, zS, zU, vcC, lateX, ex, strp, binA, elems, cells, scalar, eqC, keyA, intsA, lookA, ofVs, mpOf, Nat.reduceBEq, reduceAdd, reduceSub, reduceLT, reduceLeDiff, reduceMul, reduceEqDiff, reduceIte]))
        all_goals try (exfalso; omega)
        have hat:Sto.at (σ++some [⟨45,1,L.map (fun x=>[spS x.al]),none⟩]::μ) σ.length 0=some ⟨45,1,(L.map (·.al)).map (fun l=>[spS l]),none⟩:=by rw [at_app0]; simp [Sto.at]
        exact .mk (.own σ.length 0 L.length) σ.length _ (by simp only [Sub_cons,SubT]; simp [gt]) rfl (.inr ⟨σ.length,by simp,hat⟩) (fun _=>⟨by simp,hat,Nat.le_refl _⟩)
  · rintro env τ0 ⟨c0,g0,ν0,hsub,hτ0,hrow,hown⟩
    refine AWPC.weaken hsub ?_
    clear hsub hf
    refine AWPC.cut (OutI σ T rv o0 (lev (fun k=>(nd k).map (·.al)) hs F0)) ?_ ?_
    · have hL:LvS σ.length o0 τ0.length (τ0.length+1) (lev (fun k=>(nd k).map (·.al)) hs F0) (τ0++[some [⟨61,1,[[c0]],none⟩],some [⟨31,1,[[.own τ0.length 0 1]],none⟩]]) 0 (fun _=>c0) (fun _=>g0):=by
        refine ⟨?_,?_,fun i hi=>?_,fun i hi hi2=>?_,fun i j _ h1 h2=>?_⟩
        · rw [at_app0]; rfl
        · rw [at_app]; rfl
        · obtain rfl:i=0:=by simpa using hi
          exact hrow.app _
        · obtain rfl:i=0:=by omega
          have ho:o0=true:=by rcases hi with h | h; exact h; omega
          obtain ⟨h1,h2,h3⟩:=hown ho
          exact ⟨h1,by rw [at_appL (at_lt h2)]; exact h2,h3⟩
        · omega
      have hσ:σ.length≤τ0.length:=by rw [hτ0]; simp
      have hE:∀ X,τ0++X=σ++(ν0++X):=fun X=>by rw [hτ0]; simp
      rcases hrow with rfl | ⟨f,rfl,_⟩
      · (repeat' ((first
 | refine vn rfl ?_
 | simp (disch:=omega) only [wr64,Int.zero_sub]
 | refine bo (fun _=>?_) fun _=>?_
 | refine im fun _=>?_
 | refine cF ?_
 | refine om ?_
 | refine an ?_
 | fail) <;> try simp only [zT, zV, zS, zU, vcC, lateX, ex, strp, binA, elems, cells, scalar, eqC, keyA, intsA, lookA, ofVs, mpOf, Nat.reduceBEq, reduceAdd, reduceSub, reduceLT, reduceLeDiff, reduceMul, reduceEqDiff, reduceIte, List.append_assoc]))
        exact .mk τ0.length _ _ _ (by simp only [Sub_cons,SubT]; simp [gt]) hσ (hE _) hL
      · (repeat' ((first
 | refine vn rfl ?_
 | simp (disch:=omega) only [wr64,Int.zero_sub]
 | refine bo (fun _=>?_) fun _=>?_
 | refine im fun _=>?_
 | refine cF ?_
 | refine om ?_
 | refine an ?_
 | fail) <;> try simp only [zT, zV, zS, zU, vcC, lateX, ex, strp, binA, elems, cells, scalar, eqC, keyA, intsA, lookA, ofVs, mpOf, Nat.reduceBEq, reduceAdd, reduceSub, reduceLT, reduceLeDiff, reduceMul, reduceEqDiff, reduceIte, List.append_assoc]))
        exact .mk τ0.length _ _ _ (by simp only [Sub_cons,SubT]; simp [gt]) hσ (hE _) hL
    clear hrow hown
    rintro env τ1 ⟨A,cl1,g1,ν1,hsub,hσA,hτ1,hL1⟩
    refine AWPC.weaken hsub ?_
    clear hsub
    (repeat' ((first
 | refine vn rfl ?_
 | simp (disch:=omega) only [wr64,Int.zero_sub]
 | refine bo (fun _=>?_) fun _=>?_
 | refine im fun _=>?_
 | ((repeat refine si ?_); (first | ((first | refine .inl ⟨_,_,_,_,rfl,fun _=>pu ps,?_⟩ | refine ⟨_,_,_,_,rfl,fun _=>pu ps,?_⟩); (first | refine o1 ?_ | refine o2 ?_ | refine o3 ?_ | refine o4 ?_)) | refine .inl ⟨_,_,_,_,rfl,pu ps,?_⟩))
 | refine cF ?_
 | refine om ?_
 | refine an ?_
 | fail) <;> try simp only [zT,zV,zS,zU,vcC,lateX,ex,strp,binA,elems,cells,scalar,eqC,keyA,intsA,lookA,ofVs,mpOf,Nat.reduceBEq,reduceAdd,reduceSub,reduceLT,reduceLeDiff,reduceMul,reduceEqDiff,reduceIte,ms]))
    all_goals try (exfalso; omega)
    generalize hlv:lev (fun k=>(nd k).map (·.al)) hs F0=lv at *
    have hgo:∀ k,goods (lv k):=by rw [← hlv]; exact lev_goods hg0 ng
    have hlen:∀ k,(lv k).length=(nd k).length:=fun k=>by
      have:=lev_len (al:=fun k=>(nd k).map (·.al)) (hs:=hs) (f:=F0) (by simpa using hl0) k
      rw [hlv] at this; rw [this]; simp
    refine AWPC.loopE (α:={ x:Nat × Sto × (Nat→AV) × (Nat→Nat) // x.1≤N - 1∧Pre σ x.2.1∧LvS σ.length o0 A (A+1) lv x.2.1 x.1 x.2.2.1 x.2.2.2 }) [36] (fun x=>[(36,n x.1.1)]) (fun x=>x.1.2.1) (fun x=>N - 1 - x.1.1)
      ⟨(0,τ1,cl1,g1),by simp,⟨ν1,hτ1⟩,hL1⟩ ?_ ?_ ?_
    · (simp only [zT,zV,zS,zU,vcC,lateX,ex,strp,binA,elems,cells,scalar,eqC,keyA,intsA,lookA,ofVs,mpOf,Nat.reduceBEq,reduceAdd,reduceSub,reduceLT,reduceLeDiff,reduceMul,reduceEqDiff,reduceIte]; try simp)
    · simp
    rintro ⟨⟨k,τ,cl,g⟩,hk,hpre,hS⟩
    simp only at hk hpre hS
    simp only
    have lA:=at_lt hS.a
    have lB:=at_lt hS.b
    have aA:∀ ν,Sto.at (τ++ν) A 0=some ⟨61,1,(List.range (k+1)).map fun i=>[cl i],none⟩:=fun ν=>by rw [at_appL lA]; exact hS.a
    have aB:∀ ν,Sto.at (τ++ν) (A+1) 0=some ⟨31,1,[[.own A 0 (k+1)]],none⟩:=fun ν=>by rw [at_appL lB]; exact hS.b
    by_cases hlt:k < N - 1
    · have hnl:=nl (k+1) (by omega)
      have hP:=pn (k+1) (by omega)
      have hcast:((k+1:Nat):Int)=(k:Int)+1:=by omega
      rw [hcast] at hP
      generalize hL:nd (k+1)=L at *
      (repeat' ((first
 | refine vn rfl ?_
 | simp (disch:=omega) only [wr64,Int.zero_sub]
 | refine bo (fun _=>?_) fun _=>?_
 | refine im fun _=>?_
 | ((repeat refine si ?_); (first | ((first | refine .inl ⟨_,_,_,_,rfl,fun _=>pu (by first | exact hP | exact pp k (by omega)),?_⟩ | refine ⟨_,_,_,_,rfl,fun _=>pu (by first | exact hP | exact pp k (by omega)),?_⟩); (first | refine o1 ?_ | refine o2 ?_ | refine o3 ?_ | refine o4 ?_)) | refine .inl ⟨_,_,_,_,rfl,pu (by first | exact hP | exact pp k (by omega)),?_⟩))
 | refine cF ?_
 | refine om ?_
 | refine an ?_
 | fail) <;> try simp only [zT,zV,zS,zU,vcC,lateX,ex,strp,binA,elems,cells,scalar,eqC,keyA,intsA,lookA,ofVs,mpOf,Nat.reduceBEq,reduceAdd,reduceSub,reduceLT,reduceLeDiff,reduceMul,reduceEqDiff,reduceIte,mn,mp,aA,aB,List.append_assoc]))
      all_goals try (exfalso; omega)
      have hLl:=hlen (k+1)
      rw [hL] at hLl
      have hok:=hhk k (by omega)
      rw [hL] at hok
      have hkl:=hhl k (by omega)
      generalize hHk:hs k=H at *
      refine AWPC.ownRows (A:=List.length τ+1) (T:=45) (N:=L.length) (T':=30) (k':=2) (by rw [at_app]; rfl) ?_
      generalize hσ1:Sto.upd (τ++_) (List.length τ+1) 0 _++List.replicate L.length (some [⟨30,2,[],none⟩])=σ1
      obtain ⟨m1,m2,m3,m4,m5⟩:=cols_new τ _ _ _ L.length σ1 hσ1.symm
      have hp1:Pre σ σ1:=by rw [← hσ1]; exact ((hpre.app _).upd (by have:=hpre.len; omega)).app _
      have hpl0:=hpre.len
      clear hσ1
      obtain ⟨G,hG⟩:∃ G,G=List.length τ+3:=⟨_,rfl⟩
      rw [← hG] at m2
      have hit:=pi k (by omega)
      rw [hHk] at hit
      have hcg:=hgo k
      have hcl:=hlen k
      refine AWPC.rng (fun x:{ σ:Sto // σ.length=List.length τ+3+L.length }=>x.1) (List.length τ+3+L.length) (fun x=>x.2)
        (fun m x=>Cols x.1 (List.length τ+1) G L.length (fun j=>into (H.take m) (lv k) j)∧x.1.at (List.length τ+2) 0=some ⟨61,1,[[.own (List.length τ+1) 0 L.length]],none⟩∧x.1.at (List.length τ) 0=some ⟨3,1,[[n (k:Int)]],none⟩∧Pre σ x.1∧∀ i,i < List.length τ→x.1.at i 0=τ.at i 0)
        (fun _ _=>False) (rdsH H) ⟨σ1,m1⟩ rfl rfl ⟨m2.congr fun j _=>by simp [into],m3,m4,hp1,m5⟩ hit (fun m args h=>?_) (fun m x args ll ρ μ hm hx=>?_) (fun x μ hx=>?_) (fun _ _ _ h=>h.elim)
      · obtain ⟨h,hh,rfl⟩:=rdsH_inv h; rfl
      · obtain ⟨x,hxl⟩:=x
        simp only at hx ⊢
        obtain ⟨x1,x2,x3,xp,x4⟩:=hx
        obtain ⟨h,hh,rfl⟩:=rdsH_inv hm
        obtain ⟨h1,h2,h3⟩:=hok h (List.mem_of_getElem? hh)
        have hHl:=(List.getElem?_eq_some_iff.1 hh).1
        have hil:=into_len (hs:=H.take m) hcg h.to
        rw [List.length_take] at hil
        have hil2:=into_len (hs:=H.take (m+1)) hcg h.to
        rw [List.length_take] at hil2
        have hnx:=into_next (cur:=lv k) hh
        have hfr:(lv k)[h.fr]?=some ((lv k).getD h.fr []):=getD_some (by omega)
        have hcur:=goods_get hcg h.fr
        have hcurl:=good_len hcur
        have hmv:=moved_spec ((lv k).getD h.fr []) h.ch hcurl (fun s hs=>⟨(hcur.2 s hs).1,hcur.1.ne s hs,(hcur.2 s hs).2⟩) h3
        have hrow:=hS.row k (Nat.le_refl _)
        generalize hcf:(lv k).getD h.fr []=cf at *
        simp only [Hop.cs,par]
        (repeat' ((first
 | refine vn rfl ?_
 | simp (disch:=omega) only [wr64,Int.zero_sub]
 | refine bo (fun _=>?_) fun _=>?_
 | refine im fun _=>?_
 | refine cF ?_
 | refine om ?_
 | refine an ?_
 | fail) <;> try simp only [zT, zV, zS, zU, vcC, lateX, ex, strp, binA, elems, cells, scalar, eqC, keyA, intsA, lookA, ofVs, mpOf, Nat.reduceBEq, reduceAdd, reduceSub, reduceLT, reduceLeDiff, reduceMul, reduceEqDiff, reduceIte]))
        refine ⟨⟨x,hxl⟩,_,by simp only [List.append_assoc]; rfl,fun ρ'=>?_⟩
        have bA:∀ ν,Sto.at (x++ν) A 0=some ⟨61,1,(List.range (k+1)).map fun i=>[cl i],none⟩:=fun ν=>by rw [at_appL (by omega),x4 A lA]; exact hS.a
        have bB:∀ ν,Sto.at (x++ν) (A+1) 0=some ⟨31,1,[[.own A 0 (k+1)]],none⟩:=fun ν=>by rw [at_appL (by omega),x4 _ lB]; exact hS.b
        have bgk:((List.range (k+1)).map fun i=>[cl i]).getD k []=[cl k]:=range_get _ (by omega)
        have b8:∀ ν,Sto.at (x++ν) (List.length τ) 0=some ⟨3,1,[[n (k:Int)]],none⟩:=fun ν=>by rw [at_appL (by omega)]; exact x3
        have b10:∀ ν,Sto.at (x++ν) (List.length τ+2) 0=some ⟨61,1,[[.own (List.length τ+1) 0 L.length]],none⟩:=fun ν=>by rw [at_appL (by omega)]; exact x2
        have bR:∀ ν,Sto.at (x++ν) (List.length τ+1) 0=some ⟨45,1,(List.range L.length).map fun (j:Nat)=>[.own (G+j) 0 (into (H.take m) (lv k) j).length],none⟩:=fun ν=>by rw [at_appL (by omega)]; exact x1.1
        have bgt:((List.range L.length).map fun (j:Nat)=>[AV.own (G+j) 0 (into (H.take m) (lv k) j).length]).getD h.to []=[.own (G+h.to) 0 (into (H.take m) (lv k) h.to).length]:=range_get _ h2
        have bG:∀ ν,Sto.at (x++ν) (G+h.to) 0=some (spO (into (H.take m) (lv k) h.to)):=fun ν=>by rw [at_appL (by omega)]; exact x1.2 _ h2
        have b11:∀ (ν:Sto),Sto.at (x++ρ'::(μ++(some [⟨130,2,[[n (h.fr:Int),n (h.to:Int)]],none⟩]::ν))) (List.length x+(List.length μ+1)) 0=some ⟨130,2,[[n (h.fr:Int),n (h.to:Int)]],none⟩:=fun ν=>by rw [at_app,at_consS,at_app0]; rfl
        have b12:∀ (a:Option (List Ob)) (ν:Sto),Sto.at (x++ρ'::(μ++(a::some [⟨30,2,[h.ch.cs],none⟩]::ν))) (List.length x+(List.length μ+1+1)) 0=some ⟨30,2,[h.ch.cs],none⟩:=fun a ν=>by rw [at_app,at_consS,at_app]; rfl
        have bU:∀ o ν,Sto.upd (x++ν) (G+h.to) 0 o=Sto.upd x (G+h.to) 0 o++ν:=fun o ν=>upd_appL (by omega)
        have cL:∀ o,List.length (Sto.upd x (G+h.to) 0 o)=List.length x:=fun o=>upd_length _ _ _ _
        have c10:∀ o ν,Sto.at (Sto.upd x (G+h.to) 0 o++ν) (List.length τ+2) 0=some ⟨61,1,[[.own (List.length τ+1) 0 L.length]],none⟩:=fun o ν=>by rw [at_appL (by rw [cL]; omega),at_upd_other (.inl (by omega))]; exact x2
        have cR:∀ o ν,Sto.at (Sto.upd x (G+h.to) 0 o++ν) (List.length τ+1) 0=some ⟨45,1,(List.range L.length).map fun (j:Nat)=>[.own (G+j) 0 (into (H.take m) (lv k) j).length],none⟩:=fun o ν=>by rw [at_appL (by rw [cL]; omega),at_upd_other (.inl (by omega))]; exact x1.1
        have c11:∀ o (ν:Sto),Sto.at (Sto.upd x (G+h.to) 0 o++ρ'::(μ++(some [⟨130,2,[[n (h.fr:Int),n (h.to:Int)]],none⟩]::ν))) (List.length x+(List.length μ+1)) 0=some ⟨130,2,[[n (h.fr:Int),n (h.to:Int)]],none⟩:=fun o ν=>by rw [← cL o,at_app,at_consS,at_app0]; rfl
        have cU:∀ o o' ν,Sto.upd (Sto.upd x (G+h.to) 0 o++ν) (List.length τ+1) 0 o'=Sto.upd (Sto.upd x (G+h.to) 0 o) (List.length τ+1) 0 o'++ν:=fun o o' ν=>upd_appL (by rw [cL]; omega)
        have hw2:(into (H.take m) (lv k) h.to).length+(wide cf h.ch).length≤51200256000:=by
          rw [hnx,if_pos rfl,List.length_append] at hil2; omega
        have hsp:(⟨30,2,(into (H.take m) (lv k) h.to).map Sp.cs++(wide cf h.ch).map Sp.cs,none⟩:Ob)=spO (into (H.take m) (lv k) h.to++wide cf h.ch):=by simp [spO]
        have hput:=putO_one (c:=h.to) (v:=into (H.take m) (lv k) h.to++wide cf h.ch) x1 (by omega) h2
        have hpl:=putO_len (σ:=x) (A:=List.length τ+1) (G:=G) (N:=L.length) (c:=h.to) (R:=fun j=>into (H.take m) (lv k) j) (v:=into (H.take m) (lv k) h.to++wide cf h.ch)
        have hpa:=fun i=>putO_at (σ:=x) (A:=List.length τ+1) (G:=G) (N:=L.length) (c:=h.to) (R:=fun j=>into (H.take m) (lv k) j) (v:=into (H.take m) (lv k) h.to++wide cf h.ch) (i:=i)
        rcases hrow with hck | ⟨f,hck,hfo⟩
        · rw [hck] at bgk
          (repeat' ((first
 | refine vn rfl ?_
 | simp (disch:=omega) only [wr64,Int.zero_sub]
 | refine bo (fun _=>?_) fun _=>?_
 | refine im fun _=>?_
 | ((repeat refine si ?_); (first | ((first | refine .inl ⟨_,_,_,_,rfl,fun _=>pu hmv,?_⟩ | refine ⟨_,_,_,_,rfl,fun _=>pu hmv,?_⟩); (first | refine o1 ?_ | refine o2 ?_ | refine o3 ?_ | refine o4 ?_)) | refine .inl ⟨_,_,_,_,rfl,pu hmv,?_⟩))
 | refine cF ?_
 | refine om ?_
 | refine an ?_
 | fail) <;> try simp only [zT, zV, zS, zU, vcC, lateX, ex, strp, binA, elems, cells, scalar, eqC, keyA, intsA, lookA, ofVs, mpOf, Nat.reduceBEq, reduceAdd, reduceSub, reduceLT, reduceLeDiff, reduceMul, reduceEqDiff, reduceIte, bA, bB, bgk, b8, b10, bR, bgt, bG, b11, b12, bU, List.length_range, getD_map hfr]))
          refine ⟨⟨rows_ok _,by omega⟩,?_⟩
          simp only [zT,zV,zS,zU,vcC,lateX,ex,strp,binA,elems,cells,scalar,eqC,keyA,intsA,lookA,ofVs,mpOf,Nat.reduceBEq,reduceAdd,reduceSub,reduceLT,reduceLeDiff,reduceMul,reduceEqDiff,reduceIte,c10,cR,c11,cU,bgt,List.length_range]
          (repeat' ((first
 | refine vn rfl ?_
 | simp (disch:=omega) only [wr64,Int.zero_sub]
 | refine bo (fun _=>?_) fun _=>?_
 | refine im fun _=>?_
 | refine cF ?_
 | refine om ?_
 | refine an ?_
 | fail) <;> try simp only [zT, zV, zS, zU, vcC, lateX, ex, strp, binA, elems, cells, scalar, eqC, keyA, intsA, lookA, ofVs, mpOf, Nat.reduceBEq, reduceAdd, reduceSub, reduceLT, reduceLeDiff, reduceMul, reduceEqDiff, reduceIte, c10, cR, c11, cU, bgt, List.length_range]))
          refine ⟨⟨putO x (List.length τ+1) G L.length h.to (fun j=>into (H.take m) (lv k) j) (into (H.take m) (lv k) h.to++wide cf h.ch),by rw [hpl]; exact hxl⟩,[],?_,hput.congr fun j hj=>?_,?_,?_,?_,fun i hi=>?_⟩
          · simp [putO,spO]
          · rw [hnx]; by_cases hj2:j=h.to
            · subst hj2; simp
            · simp [hj2]
          · exact (hpa _ (by omega) (by omega)).trans x2
          · exact (hpa _ (by omega) (by omega)).trans x3
          · exact (xp.upd (by omega)).upd (by omega)
          · exact (hpa _ (by omega) (by omega)).trans (x4 i hi)
        · rw [hck] at bgk
          have bF:∀ ν,Sto.at (x++ν) f 0=some ⟨45,1,(lv k).map (fun l=>[spS l]),none⟩:=fun ν=>by rw [at_appL (by have:=at_lt hfo; omega),x4 f (at_lt hfo)]; exact hfo
          (repeat' ((first
 | refine vn rfl ?_
 | simp (disch:=omega) only [wr64,Int.zero_sub]
 | refine bo (fun _=>?_) fun _=>?_
 | refine im fun _=>?_
 | ((repeat refine si ?_); (first | ((first | refine .inl ⟨_,_,_,_,rfl,fun _=>pu hmv,?_⟩ | refine ⟨_,_,_,_,rfl,fun _=>pu hmv,?_⟩); (first | refine o1 ?_ | refine o2 ?_ | refine o3 ?_ | refine o4 ?_)) | refine .inl ⟨_,_,_,_,rfl,pu hmv,?_⟩))
 | refine cF ?_
 | refine om ?_
 | refine an ?_
 | fail) <;> try simp only [zT, zV, zS, zU, vcC, lateX, ex, strp, binA, elems, cells, scalar, eqC, keyA, intsA, lookA, ofVs, mpOf, Nat.reduceBEq, reduceAdd, reduceSub, reduceLT, reduceLeDiff, reduceMul, reduceEqDiff, reduceIte, bA, bB, bgk, b8, b10, bR, bgt, bG, b11, b12, bU, bF, List.length_range, getD_map hfr]))
          refine ⟨⟨rows_ok _,by omega⟩,?_⟩
          simp only [zT,zV,zS,zU,vcC,lateX,ex,strp,binA,elems,cells,scalar,eqC,keyA,intsA,lookA,ofVs,mpOf,Nat.reduceBEq,reduceAdd,reduceSub,reduceLT,reduceLeDiff,reduceMul,reduceEqDiff,reduceIte,c10,cR,c11,cU,bgt,List.length_range]
          (repeat' ((first
 | refine vn rfl ?_
 | simp (disch:=omega) only [wr64,Int.zero_sub]
 | refine bo (fun _=>?_) fun _=>?_
 | refine im fun _=>?_
 | refine cF ?_
 | refine om ?_
 | refine an ?_
 | fail) <;> try simp only [zT, zV, zS, zU, vcC, lateX, ex, strp, binA, elems, cells, scalar, eqC, keyA, intsA, lookA, ofVs, mpOf, Nat.reduceBEq, reduceAdd, reduceSub, reduceLT, reduceLeDiff, reduceMul, reduceEqDiff, reduceIte, c10, cR, c11, cU, bgt, List.length_range]))
          refine ⟨⟨putO x (List.length τ+1) G L.length h.to (fun j=>into (H.take m) (lv k) j) (into (H.take m) (lv k) h.to++wide cf h.ch),by rw [hpl]; exact hxl⟩,[],?_,hput.congr fun j hj=>?_,?_,?_,?_,fun i hi=>?_⟩
          · simp [putO,spO]
          · rw [hnx]; by_cases hj2:j=h.to
            · subst hj2; simp
            · simp [hj2]
          · exact (hpa _ (by omega) (by omega)).trans x2
          · exact (hpa _ (by omega) (by omega)).trans x3
          · exact (xp.upd (by omega)).upd (by omega)
          · exact (hpa _ (by omega) (by omega)).trans (x4 i hi)
      · obtain ⟨x,hxl⟩:=x
        simp only at hx ⊢
        obtain ⟨x1,x2,x3,xp,x4⟩:=hx
        have hHlen:(rdsH H).length=H.length:=by simp [rdsH]
        rw [hHlen,List.take_length] at x1
        have bB:∀ ν,Sto.at (x++ν) (A+1) 0=some ⟨31,1,[[.own A 0 (k+1)]],none⟩:=fun ν=>by rw [at_appL (by omega),x4 _ lB]; exact hS.b
        have b10:∀ ν,Sto.at (x++ν) (List.length τ+2) 0=some ⟨61,1,[[.own (List.length τ+1) 0 L.length]],none⟩:=fun ν=>by rw [at_appL (by omega)]; exact x2
        have bR:∀ ν,Sto.at (x++ν) (List.length τ+1) 0=some ⟨45,1,(List.range L.length).map fun (j:Nat)=>[.own (G+j) 0 (into H (lv k) j).length],none⟩:=fun ν=>by rw [at_appL (by omega)]; exact x1.1
        simp only [zT,zV,zS,zU,vcC,lateX,ex,strp,binA,elems,cells,scalar,eqC,keyA,intsA,lookA,ofVs,mpOf,Nat.reduceBEq,reduceAdd,reduceSub,reduceLT,reduceLeDiff,reduceMul,reduceEqDiff,reduceIte]
        (repeat' ((first
 | refine vn rfl ?_
 | simp (disch:=omega) only [wr64,Int.zero_sub]
 | refine bo (fun _=>?_) fun _=>?_
 | refine im fun _=>?_
 | refine cF ?_
 | refine om ?_
 | refine an ?_
 | fail) <;> try simp only [zT, zV, zS, zU, vcC, lateX, ex, strp, binA, elems, cells, scalar, eqC, keyA, intsA, lookA, ofVs, mpOf, Nat.reduceBEq, reduceAdd, reduceSub, reduceLT, reduceLeDiff, reduceMul, reduceEqDiff, reduceIte, b10, bR, List.length_range]))
        all_goals try (exfalso; omega)
        have hgL:goods (L.map (·.al)):=by have:=ng (k+1); rwa [hL] at this
        refine AWPC.loopE (α:={ q:Nat × Sto // q.1≤L.length∧q.2.at (List.length τ+1) 0=some ⟨45,1,(List.range L.length).map fun (j:Nat)=>[if j < q.1 then spS (onto1 H (lv k) (L.map (·.al)) j) else .own (G+j) 0 (into H (lv k) j).length],none⟩ ∧
            (∀ j,q.1≤j→j < L.length→q.2.at (G+j) 0=some (spO (into H (lv k) j)))∧q.2.at (List.length τ+2) 0=some ⟨61,1,[[.own (List.length τ+1) 0 L.length]],none⟩∧(∀ i,i < List.length τ→q.2.at i 0=τ.at i 0)∧Pre σ q.2 })
          [73] (fun q=>[(73,n q.1.1)]) (fun q=>q.1.2) (fun q=>L.length - q.1.1) ⟨(0,x++μ),Nat.zero_le _,by simpa using bR μ,fun j _ hj=>(x1.app μ).2 j hj,b10 μ,fun i hi=>by rw [at_appL (by omega)]; exact x4 i hi,xp.app μ⟩ ?_ rfl ?_
        · (simp only [zT,zV,zS,zU,vcC,lateX,ex,strp,binA,elems,cells,scalar,eqC,keyA,intsA,lookA,ofVs,mpOf,Nat.reduceBEq,reduceAdd,reduceSub,reduceLT,reduceLeDiff,reduceMul,reduceEqDiff,reduceIte]; try simp)
        rintro ⟨⟨i,σ2⟩,hi,y1,y2,y3,y4,y5⟩
        simp only at hi y1 y2 y3 y4 y5
        simp only
        have dg:∀ j,j < L.length→((List.range L.length).map fun (j:Nat)=>[if j < i then spS (onto1 H (lv k) (L.map (·.al)) j) else .own (G+j) 0 (into H (lv k) j).length]).getD j []=[if j < i then spS (onto1 H (lv k) (L.map (·.al)) j) else .own (G+j) 0 (into H (lv k) j).length]:=fun j hj=>range_get _ hj
        by_cases hlt3:i < L.length
        · obtain ⟨z,hz⟩:∃ z,L[i]?=some z:=⟨_,List.getElem?_eq_getElem hlt3⟩
          have dgi:=dg i hlt3
          rw [if_neg (Nat.lt_irrefl i)] at dgi
          have yi:=y2 i (Nat.le_refl _) hlt3
          ((first
 | refine vn rfl ?_
 | simp (disch:=omega) only [wr64,Int.zero_sub]
 | refine bo (fun _=>?_) fun _=>?_
 | refine im fun _=>?_
 | refine cF ?_
 | refine om ?_
 | refine an ?_
 | fail) <;> try simp only [zT, zV, zS, zU, vcC, lateX, ex, strp, binA, elems, cells, scalar, eqC, keyA, intsA, lookA, ofVs, mpOf, Nat.reduceBEq, reduceAdd, reduceSub, reduceLT, reduceLeDiff, reduceMul, reduceEqDiff, reduceIte, y1, dgi, List.length_range])
          ((first
 | refine vn rfl ?_
 | simp (disch:=omega) only [wr64,Int.zero_sub]
 | refine bo (fun _=>?_) fun _=>?_
 | refine im fun _=>?_
 | refine cF ?_
 | refine om ?_
 | refine an ?_
 | fail) <;> try simp only [zT, zV, zS, zU, vcC, lateX, ex, strp, binA, elems, cells, scalar, eqC, keyA, intsA, lookA, ofVs, mpOf, Nat.reduceBEq, reduceAdd, reduceSub, reduceLT, reduceLeDiff, reduceMul, reduceEqDiff, reduceIte, y1, dgi, List.length_range])
          refine AWPC.both (fun _=>?_) (fun h=>?_)
          case refine_2=>exfalso; omega
          ((first
 | refine vn rfl ?_
 | simp (disch:=omega) only [wr64,Int.zero_sub]
 | refine bo (fun _=>?_) fun _=>?_
 | refine im fun _=>?_
 | refine cF ?_
 | refine om ?_
 | refine an ?_
 | fail) <;> try simp only [zT, zV, zS, zU, vcC, lateX, ex, strp, binA, elems, cells, scalar, eqC, keyA, intsA, lookA, ofVs, mpOf, Nat.reduceBEq, reduceAdd, reduceSub, reduceLT, reduceLeDiff, reduceMul, reduceEqDiff, reduceIte])
          ((first
 | refine vn rfl ?_
 | simp (disch:=omega) only [wr64,Int.zero_sub]
 | refine bo (fun _=>?_) fun _=>?_
 | refine im fun _=>?_
 | refine cF ?_
 | refine om ?_
 | refine an ?_
 | fail) <;> try simp only [zT, zV, zS, zU, vcC, lateX, ex, strp, binA, elems, cells, scalar, eqC, keyA, intsA, lookA, ofVs, mpOf, Nat.reduceBEq, reduceAdd, reduceSub, reduceLT, reduceLeDiff, reduceMul, reduceEqDiff, reduceIte, y1, dgi, List.length_range])
          (repeat refine si ?_)
          refine AWPC.freeze1 (t:=14) (n:=(into H (lv k) i).length) rfl yi (by simp) (show (2:Nat)≠0 by decide) ?_
          have lG:=at_lt yi
          have l1:=at_lt y1
          have l3:=at_lt y3
          have z1:Sto.at (gone σ2 (G+i)) (List.length τ+1) 0=some ⟨45,1,(List.range L.length).map fun (j:Nat)=>[if j < i then spS (onto1 H (lv k) (L.map (·.al)) j) else .own (G+j) 0 (into H (lv k) j).length],none⟩:=by rw [at_gone' (by omega)]; exact y1
          have z3:Sto.at (gone σ2 (G+i)) (List.length τ+2) 0=some ⟨61,1,[[.own (List.length τ+1) 0 L.length]],none⟩:=by rw [at_gone' (by omega)]; exact y3
          have hzal:(L.map (·.al)).getD i []=z.al:=getD_map hz
          have hgz:good z.al:=by have:=goods_get hgL i; rwa [hzal] at this
          have hgi:=into_len (hs:=H) hcg i
          have hbd:=into_bd (hs:=H) hcg (fun h hh=>(hok h hh).2.2) i
          have hga:=gatherV_spec (into H (lv k) i) (by omega) (fun s hs=>(hbd s hs).1) (fun s hs=>(hbd s hs).2)
          have hjn:=joins0_norm (into H (lv k) i)
          have hjl:(joins [] (into H (lv k) i)).length≤51200256000:=by have:=joins_len (l:=[]) (b:=into H (lv k) i); simp only [List.length_nil] at this; omega
          have hme:=meet_specN (joins [] (into H (lv k) i)) z.al hjn (by omega) hgz
          have ho1:meet (joins [] (into H (lv k) i)) z.al=onto1 H (lv k) (L.map (·.al)) i:=by unfold onto1; rw [hzal]
          rw [ho1] at hme
          have z4:∀ q,q≠G+i→(gone σ2 (G+i)).at q 0=σ2.at q 0:=fun q hq=>at_gone' hq
          have z5:Pre σ (gone σ2 (G+i)):=y5.gone (by omega)
          generalize hGS:gone σ2 (G+i)=σ3 at *
          (repeat' ((first
 | refine vn rfl ?_
 | simp (disch:=omega) only [wr64,Int.zero_sub]
 | refine bo (fun _=>?_) fun _=>?_
 | refine im fun _=>?_
 | ((repeat refine si ?_); (first | ((first | refine .inl ⟨_,_,_,_,rfl,fun _=>pu (by first | exact values_spec _ | exact hga | exact hme),?_⟩ | refine ⟨_,_,_,_,rfl,fun _=>pu (by first | exact values_spec _ | exact hga | exact hme),?_⟩); (first | refine o1 ?_ | refine o2 ?_ | refine o3 ?_ | refine o4 ?_)) | refine .inl ⟨_,_,_,_,rfl,pu (by first | exact values_spec _ | exact hga | exact hme),?_⟩))
 | refine cF ?_
 | refine om ?_
 | refine an ?_
 | fail) <;> try simp only [zT, zV, zS, zU, vcC, lateX, ex, strp, binA, elems, cells, scalar, eqC, keyA, intsA, lookA, ofVs, mpOf, Nat.reduceBEq, reduceAdd, reduceSub, reduceLT, reduceLeDiff, reduceMul, reduceEqDiff, reduceIte, z1, z3, dgi, getD_map hz, List.length_range]))
          all_goals try (exfalso; omega)
          generalize hσ4:Sto.upd σ3 (List.length τ+1) 0 _=σ4
          have f1:=at_upd_same (o':=⟨45,1,((List.range L.length).map fun (j:Nat)=>[if j < i then spS (onto1 H (lv k) (L.map (·.al)) j) else .own (G+j) 0 (into H (lv k) j).length]).set i [spS (onto1 H (lv k) (L.map (·.al)) i)],none⟩) z1
          have f2:∀ q,q≠List.length τ+1→σ4.at q 0=σ3.at q 0:=fun q hq=>by rw [← hσ4,at_upd_other (.inl fun e=>hq e.symm)]
          have f3:Pre σ σ4:=by rw [← hσ4]; exact z5.upd (by omega)
          rw [show Sto.upd σ3 (List.length τ+1) 0 ⟨45,1,((List.range L.length).map fun (j:Nat)=>[if j < i then spS (onto1 H (lv k) (L.map (·.al)) j) else .own (G+j) 0 (into H (lv k) j).length]).set i [spS (onto1 H (lv k) (L.map (·.al)) i)],none⟩=σ4 from hσ4] at f1
          refine ⟨⟨(i+1,σ4),hlt3,?_,?_,?_,?_,f3⟩,by simp,rfl,by simp only; omega⟩
          · simp only
            rw [f1]
            simp only [range_set]
            refine congrArg (fun z=>some (⟨45,1,z,none⟩:Ob)) (range_congr fun j hj=>?_)
            by_cases hji:j=i
            · subst hji; simp
            · rw [if_neg hji]
              by_cases hjl:j < i
              · rw [if_pos hjl,if_pos (by omega)]
              · rw [if_neg hjl,if_neg (by omega)]
          · intro j hj1 hj2
            simp only at hj1 ⊢
            rw [f2 _ (by omega),z4 _ (by omega)]
            exact y2 j (by omega) hj2
          · simp only
            rw [f2 _ (by omega)]; exact z3
          · intro q hq
            simp only
            rw [f2 _ (by omega),z4 _ (by omega)]
            exact y4 q hq
        · obtain rfl:i=L.length:=by omega
          have y6:σ2.at (A+1) 0=some ⟨31,1,[[.own A 0 (k+1)]],none⟩:=(y4 _ lB).trans hS.b
          have y7:σ2.at A 0=some ⟨61,1,(List.range (k+1)).map fun i=>[cl i],none⟩:=(y4 _ lA).trans hS.a
          have lA2:=at_lt y7
          have lB2:=at_lt y6
          have y8:∀ o,(σ2.upd A 0 o).at (A+1) 0=some ⟨31,1,[[.own A 0 (k+1)]],none⟩:=fun o=>by rw [at_upd_other (.inl (by omega))]; exact y6
          (repeat' ((first
 | refine vn rfl ?_
 | simp (disch:=omega) only [wr64,Int.zero_sub]
 | refine bo (fun _=>?_) fun _=>?_
 | refine im fun _=>?_
 | refine cF ?_
 | refine om ?_
 | refine an ?_
 | fail) <;> try simp only [zT, zV, zS, zU, vcC, lateX, ex, strp, binA, elems, cells, scalar, eqC, keyA, intsA, lookA, ofVs, mpOf, Nat.reduceBEq, reduceAdd, reduceSub, reduceLT, reduceLeDiff, reduceMul, reduceEqDiff, reduceIte, y6, y7, y8, y3, List.length_range]))
          all_goals try (exfalso; omega)
          have hAσ:=hS.own
          have eL:lv (k+1)=onto H (lv k) (L.map (·.al)):=by rw [← hlv]; show onto (hs k) (lev _ hs F0 k) ((nd (k+1)).map (·.al))=_; rw [hHk,hL,hlv]
          have eR:(List.range L.length).map (fun (j:Nat)=>[if j < L.length then spS (onto1 H (lv k) (L.map (·.al)) j) else .own (G+j) 0 (into H (lv k) j).length])=(lv (k+1)).map (fun l=>[spS l]):=by
            rw [eL,onto,List.map_map,List.length_map]
            exact range_congr fun j hj=>by rw [if_pos hj]; rfl
          rw [eR] at y1
          generalize hσ4:Sto.upd (Sto.upd σ2 A 0 _) (A+1) 0 _=σ4
          have w0:∀ q,q≠A→q≠A+1→σ4.at q 0=σ2.at q 0:=fun q h1 h2=>by rw [← hσ4,at_upd_other (.inl (fun e=>h2 e.symm)),at_upd_other (.inl (fun e=>h1 e.symm))]
          have w1:σ4.at A 0=some ⟨61,1,(List.range (k+1)).map (fun i=>[cl i])++[[.own (List.length τ+1) 0 L.length]],none⟩:=by rw [← hσ4,at_upd_other (.inl (by omega)),at_upd_same y7]
          have w2:σ4.at (A+1) 0=some ⟨31,1,[[.own A 0 (k+2)]],none⟩:=by rw [← hσ4,at_upd_same (y8 _)]
          have w3:Pre σ σ4:=by rw [← hσ4]; exact (y5.upd (by omega)).upd (by omega)
          refine ⟨⟨(k+1,σ4,fun j=>if j=k+1 then .own (List.length τ+1) 0 L.length else cl j,fun j=>if j=k+1 then List.length τ+1 else g j),by simp only; omega,?_,⟨?_,?_,?_,?_,?_⟩⟩,by simp,rfl,by simp only; omega⟩
          · exact w3
          · simp only
            rw [w1]
            refine congrArg (fun z=>some (⟨61,1,z,none⟩:Ob)) ?_
            rw [show List.range (k+1+1)=List.range (k+1)++[k+1] from List.range_succ,List.map_append]
            congr 1
            · exact range_congr fun j hj=>by rw [if_neg (by omega)]
            · simp
          · simp only
            exact w2
          · intro j hj
            simp only at hj ⊢
            by_cases hjk:j=k+1
            · subst hjk
              rw [if_pos rfl]
              refine .inr ⟨List.length τ+1,by rw [hLl],?_⟩
              rw [w0 _ (by omega) (by omega)]; exact y1
            · rw [if_neg hjk]
              refine (hS.row j (by omega)).frame fun f o ho hoT=>?_
              have:=at_lt ho
              rw [w0 _ (fun e=>?_) (fun e=>?_),y4 f this]
              · exact ho
              · subst e; rw [hS.a] at ho; injection ho with ho; subst ho; cases hoT
              · subst e; rw [hS.b] at ho; injection ho with ho; subst ho; cases hoT
          · intro j hj1 hj2
            simp only at hj2 ⊢
            by_cases hjk:j=k+1
            · subst hjk
              rw [if_pos rfl,if_pos rfl]
              refine ⟨by rw [hLl],?_,by omega⟩
              rw [w0 _ (by omega) (by omega)]; exact y1
            · rw [if_neg hjk,if_neg hjk]
              obtain ⟨u1,u2,u3⟩:=hS.own j hj1 (by omega)
              refine ⟨u1,?_,u3⟩
              have:=at_lt u2
              rw [w0 _ (fun e=>?_) (fun e=>?_),y4 _ this]
              · exact u2
              · rw [e,hS.a] at u2; injection u2 with u2; injection u2 with u2; cases u2
              · rw [e,hS.b] at u2; injection u2 with u2; injection u2 with u2; cases u2
          · intro j1 j2 hj1 hj2 hj3
            simp only at hj3 ⊢
            rw [if_neg (show ¬ j1=k+1 by omega)]
            by_cases hjk:j2=k+1
            · rw [if_pos hjk]
              have:=at_lt (hS.own j1 hj1 (by omega)).2.1
              omega
            · rw [if_neg hjk]
              exact hS.inj j1 j2 hj1 hj2 (by omega)
    · obtain rfl:k=N - 1:=by omega
      (repeat' ((first
 | refine vn rfl ?_
 | simp (disch:=omega) only [wr64,Int.zero_sub]
 | refine bo (fun _=>?_) fun _=>?_
 | refine im fun _=>?_
 | refine cF ?_
 | refine om ?_
 | refine an ?_
 | fail) <;> try simp only [zT,zV,zS,zU,vcC,lateX,ex,strp,binA,elems,cells,scalar,eqC,keyA,intsA,lookA,ofVs,mpOf,Nat.reduceBEq,reduceAdd,reduceSub,reduceLT,reduceLeDiff,reduceMul,reduceEqDiff,reduceIte,aA,aB,hS.a,hS.b]))
      all_goals try (exfalso; omega)
      obtain ⟨ν,hν⟩:=hpre
      exact .mk ν A (A+1) cl g hν (by rw [show N - 1+1=N by omega]) hσA hS
def c71:CF:=⟨7,
 (.seq (.ops [
 ⟨some 1,.box false 24 1 (.t 0),none⟩,
 ⟨some 2,.mv (.c (.slice none 0 0)),none⟩] [1])
 (.seq (.ops [
 ⟨some 3,.load (some 1) (.t 1),none⟩,
 ⟨some 4,.build [.slice none 0 0] [(0,1,(.t 3))],none⟩,
 ⟨some 5,.ifc 109 (.t 4),none⟩,
 ⟨some 6,.call (.f 97) [(.t 5),(.c (.slice none 0 0))],none⟩,
 ⟨some 2,.mv (.t 6),none⟩] [2])
 .ret)),
 [.t 2]⟩
def c142:CF:=⟨28,
 (.seq (.ops [
 ⟨some 4,.mv (.t 0),none⟩,
 ⟨some 5,.len (.t 4),none⟩,
 ⟨some 6,.bin .sub (.t 5) (.c (.int .i64 1)),none⟩,
 ⟨some 2,.mv (.c (.int .i64 0)),none⟩,
 ⟨some 3,.mv (.t 6),none⟩] [0,2,3])
 (.block 0 (.loop (.seq (.seq (.ops [
 ⟨some 7,.mv (.t 2),none⟩,
 ⟨some 8,.mv (.t 3),none⟩,
 ⟨some 9,.bin .lss (.t 7) (.t 8),none⟩] [0,2,3,9])
 (.cond (.t 9) .skip
 (.exit 0)))
 (.seq (.block 1 (.draww [0,1,2,3,4,5,6,7,8,9,10,11,12,13,14,15] [2,3] 1 [
 ⟨some 14,.mv (.t 0),none⟩,
 ⟨some 15,.mv (.t 2),none⟩,
 ⟨some 16,.mv (.t 0),none⟩,
 ⟨some 17,.mv (.t 3),none⟩,
 ⟨some 18,.mv (.t 0),none⟩,
 ⟨some 19,.mv (.t 3),none⟩,
 ⟨some 20,.iaddr 1 (.t 18) (.t 19),none⟩,
 ⟨some 21,.load none (.t 20),none⟩,
 ⟨some 22,.mv (.t 0),none⟩,
 ⟨some 23,.mv (.t 2),none⟩,
 ⟨some 24,.iaddr 1 (.t 22) (.t 23),none⟩,
 ⟨some 25,.load none (.t 24),none⟩,
 ⟨some 26,.iaddr 1 (.t 14) (.t 15),none⟩] [
 ⟨none,.store 1 (.t 26) (.t 21),none⟩,
 ⟨some 27,.iaddr 1 (.t 16) (.t 17),none⟩,
 ⟨none,.store 1 (.t 27) (.t 25),none⟩] [0,2,3]))
 (.ops [
 ⟨some 10,.mv (.t 2),none⟩,
 ⟨some 11,.bin .add (.t 10) (.c (.int .i64 1)),none⟩,
 ⟨some 12,.mv (.t 3),none⟩,
 ⟨some 13,.bin .sub (.t 12) (.c (.int .i64 1)),none⟩,
 ⟨some 2,.mv (.t 11),none⟩,
 ⟨some 3,.mv (.t 13),none⟩] [0,2,3])))))),
 []⟩
def c86:CF:=⟨11,
 (.seq (.ops [
 ⟨some 1,.box false 24 1 (.t 0),none⟩,
 ⟨some 2,.mv (.c (.slice none 0 0)),none⟩] [1])
 (.seq (.ops [
 ⟨some 4,.load (some 1) (.t 1),none⟩,
 ⟨some 5,.build [.slice none 0 0] [(0,1,(.t 4))],none⟩,
 ⟨some 6,.ifc 133 (.t 5),none⟩,
 ⟨some 7,.call (.f 97) [(.t 6),(.c (.slice none 0 0))],none⟩,
 ⟨some 3,.mv (.t 7),none⟩] [3])
 (.seq (.ops [
 ⟨some 8,.mv (.t 3),none⟩,
 ⟨some 9,.call (.f 142) [(.t 8)],none⟩] [3])
 (.seq (.ops [
 ⟨some 10,.mv (.t 3),none⟩,
 ⟨some 2,.mv (.t 10),none⟩] [2])
 .ret)))),
 [.t 2]⟩
def c88:CF:=⟨42,
 (.seq (.ops [
 ⟨some 1,.box false 24 1 (.t 0),none⟩,
 ⟨some 2,.mv (.c (.slice none 0 0)),none⟩] [1])
 (.seq (.draww [0,2,1,3,4,5] [1] 1 [
 ⟨some 8,.load (some 1) (.t 1),none⟩,
 ⟨some 10,.load (some 1) (.t 1),none⟩] [
 ⟨some 9,.call (.f 71) [(.t 8)],none⟩,
 ⟨some 11,.call (.f 86) [(.t 10)],none⟩,
 ⟨some 3,.mv (.t 9),none⟩,
 ⟨some 4,.mv (.t 11),none⟩] [3,4])
 (.seq (.seq (.ops [
 ⟨some 12,.mv (.t 3),none⟩,
 ⟨some 13,.len (.t 12),none⟩,
 ⟨some 14,.mv (.c (.int .i64 0)),none⟩] [3,4,12,13,14])
 (.block 0 (.loop (.seq (.ops [
 ⟨some 15,.bin .lss (.t 14) (.t 13),none⟩] [3,4,12,13,14,15])
 (.seq (.cond (.t 15) .skip
 (.exit 0))
 (.seq (.block 1 (.seq (.ops [
 ⟨some 16,.mv (.t 14),none⟩,
 ⟨some 17,.iaddr 1 (.t 12) (.t 14),none⟩,
 ⟨some 18,.load none (.t 17),none⟩,
 ⟨some 5,.mv (.t 16),none⟩,
 ⟨some 6,.mv (.t 18),none⟩] [3,4,5,6,12,13,14])
 (.seq (.ops [
 ⟨some 19,.mv (.t 6),none⟩,
 ⟨some 20,.len (.t 19),none⟩,
 ⟨some 21,.mv (.c (.int .i64 0)),none⟩] [3,4,5,6,12,13,14,20,21])
 (.block 2 (.loop (.seq (.ops [
 ⟨some 22,.bin .lss (.t 21) (.t 20),none⟩] [3,4,5,6,12,13,14,20,21,22])
 (.seq (.cond (.t 22) .skip
 (.exit 2))
 (.seq (.block 3 (.seq (.ops [
 ⟨some 23,.mv (.t 21),none⟩,
 ⟨some 7,.mv (.t 23),none⟩] [3,4,5,6,7,12,13,14,20,21])
 (.draw [
 ⟨some 24,.mv (.t 6),none⟩,
 ⟨some 25,.mv (.t 7),none⟩,
 ⟨some 26,.mv (.t 6),none⟩,
 ⟨some 27,.mv (.t 7),none⟩,
 ⟨some 28,.iaddr 1 (.t 26) (.t 27),none⟩,
 ⟨some 29,.load none (.t 28),none⟩,
 ⟨some 30,.mv (.t 4),none⟩,
 ⟨some 31,.mv (.t 5),none⟩,
 ⟨some 32,.iaddr 1 (.t 30) (.t 31),none⟩,
 ⟨some 33,.load none (.t 32),none⟩,
 ⟨some 34,.mv (.t 7),none⟩,
 ⟨some 35,.iaddr 1 (.t 33) (.t 34),none⟩,
 ⟨some 36,.load none (.t 35),none⟩,
 ⟨some 37,.call (.f 81) [(.t 29),(.t 36)],none⟩,
 ⟨some 38,.iaddr 1 (.t 24) (.t 25),none⟩] [
 ⟨none,.store 1 (.t 38) (.t 37),none⟩] [3,4,5,6,12,13,14,20,21])))
 (.ops [
 ⟨some 39,.bin .add (.t 21) (.c (.int .i64 1)),none⟩,
 ⟨some 21,.mv (.t 39),none⟩] [3,4,5,6,12,13,14,20,21])))))))))
 (.ops [
 ⟨some 40,.bin .add (.t 14) (.c (.int .i64 1)),none⟩,
 ⟨some 14,.mv (.t 40),none⟩] [3,4,12,13,14])))))))
 (.seq (.ops [
 ⟨some 41,.mv (.t 3),none⟩,
 ⟨some 2,.mv (.t 41),none⟩] [2])
 .ret)))),
 [.t 2]⟩
theorem k71:chkF Tryz.prog Tryz.f71 c71=true:=by kernel_rfl
theorem k142:chkF Tryz.prog Tryz.f142 c142=true:=by kernel_rfl
theorem k86:chkF Tryz.prog Tryz.f86 c86=true:=by kernel_rfl
theorem k88:chkF Tryz.prog Tryz.f88 c88=true:=by kernel_rfl
theorem Does.toPure {P:Program} {f:Nat} {args:List AV} {r:AV} {R:AV→Sto→Prop} (h:Does P f args [] R) (hR:∀ v σ',R v σ'→Frz σ' v r):Abs.Pure P f args r:=by
  refine ⟨h.ent,fun X w xs hX hxl hxr=>?_⟩
  have hno:∀ f i o,¬ Sto.at ([]:Sto) f i=some o:=fun f i o h=>by have:=at_lt h; simp at this
  have hs:SRel w X nob []:=⟨fun f i _ _ o _ _ h=>absurd h (hno f i o),fun f i o _ h=>absurd h (hno f i o),fun f i o h=>absurd h (hno f i o)⟩
  have hXt:Xt X nob []=X:=by
    funext b; apply propext
    exact ⟨fun h=>h.elim id fun ⟨f,i,o,h,_⟩=>absurd h (hno f i o),.inl⟩
  refine (h.go X nob w xs hX hs hxl (fun i hi=>by rw [hXt]; exact hxr i hi)).mono ?_
  rintro e w' ⟨x,v,σ',β',rfl,hRv,hs',hv,he,kp⟩
  exact ⟨x,rfl,hR v σ' hRv w' X β' x hs' hv,he.size,fun b hb=>he.old b hb fun ⟨f,i,o,h,_⟩=>hno f i o h,he.io⟩
theorem hopsF_len {m:Nat}:∀ {l:List Nod} {i:Nat},(∀ x∈l,x.nx.length≤m)→(hopsF i l).length≤l.length * m
  | [],_,_=>by simp [hopsF]
  | x::r,i,h=>by
    have h1:=h x (by simp)
    have h2:=hopsF_len (i:=i+1) (l:=r) fun y hy=>h y (by simp [hy])
    simp only [hopsF,List.length_append,List.length_cons,hopsOf,List.length_map,Nat.succ_mul]
    omega
theorem stp_len {t:Trk} (h:valid t) {k:Nat} (hk:k < t.length):(stp t k).length≤256000:=by
  obtain ⟨h1,h2,h3⟩:=valid_stg h hk
  have:=hopsF_len (i:=0) fun x hx=>(h3 x hx).2.1
  unfold stp hops
  omega
theorem aheadP (t:Trk) (h:valid t):SeenP 109 (trS t) 207 206 135 164 (fun k=>[.iptr [tkS t] 0,.iptr [n (k:Int)] 0]) t.length (fun k=>t.getD k []) (stp t) where
  ms:=by kernel_rfl
  mn:=by kernel_rfl
  mp:=by kernel_rfl
  ps:=ahead_stages t
  pn k hk:=ahead_nodes t k hk
  pp k _:=ahead_steps t k
  pi k hk:=ahead_iter t k h (by omega)
  pv:=by simp
  n1:=h.1
  n2:=h.2.1
  nl k hk:=(valid_stg h hk).2.1
  ng k:=als_goods h k
  ns k hk x hx:=((valid_stg h hk).2.2 x hx).1.1
  hk k hk g hg:=stp_ok h hg
  hl k hk:=stp_len h (by omega)
theorem backP (t:Trk) (h:valid t):SeenP 133 (trS t) 208 128 130 159 (fun k=>[.iptr [tkS t] 0,.iptr [n (k:Int)] 0]) t.length (fun k=>t.getD (t.length - 1 - k) []) (stpB t) where
  ms:=by kernel_rfl
  mn:=by kernel_rfl
  mp:=by kernel_rfl
  ps:=back_stages t
  pn k hk:=back_nodes t k (by have:=h.2.1; omega) hk
  pp k _:=back_steps t k
  pi k hk:=back_iter t k h hk
  pv:=by simp
  n1:=h.1
  n2:=h.2.1
  nl k hk:=(valid_stg h (by omega)).2.1
  ng k:=als_goods h _
  ns k hk x hx:=((valid_stg h (by omega)).2.2 x hx).1.1
  hk k hk g hg:=by
    obtain ⟨x,hx,rfl⟩:=List.mem_map.1 hg
    obtain ⟨h1,h2,h3⟩:=stp_ok h hx
    refine ⟨?_,?_,?_⟩
    · show x.to < wd t (t.length - 1 - k)
      rwa [show t.length - 1 - k=t.length - 2 - k+1 by omega]
    · show x.fr < wd t (t.length - 1 - (k+1))
      rwa [show t.length - 1 - (k+1)=t.length - 2 - k by omega]
    · obtain ⟨c1,c2,c3⟩:=h3
      exact ⟨by show -100000≤-x.ch.hi; omega,by show -x.ch.hi≤-x.ch.lo; omega,by show -x.ch.lo≤100000; omega⟩
  hl k hk:=by
    rw [stpB,List.length_map]; exact stp_len h (by omega)
theorem forward_does (σ:Sto) (t:Trk) (h:valid t):Does Tryz.prog 71 [trS t] σ (ReachR σ t.length (fwd t) true):=by
  refine Does.of_body Tryz.call71 Tryz.func71 k71 (Nat.le_of_ble_eq_true rfl) ?_
  unfold c71
  have hd:=reached_does σ (aheadP t h) true (als t 0) (.v (.slice none 0 0)) ⟨rfl,rfl⟩ (als_goods h 0) (by rw [als_len]; rfl)
  (repeat' ((first
 | refine vn rfl ?_
 | simp (disch:=omega) only [wr64,Int.zero_sub]
 | refine bo (fun _=>?_) fun _=>?_
 | refine im fun _=>?_
 | refine cF ?_
 | refine om ?_
 | refine an ?_
 | fail) <;> try simp only [zT,zV,zS,zU,vcC,lateX,ex,strp,binA,elems,cells,scalar,eqC,keyA,intsA,lookA,ofVs,mpOf,Nat.reduceBEq,reduceAdd,reduceSub,reduceLT,reduceLeDiff,reduceMul,reduceEqDiff,reduceIte]))
  refine .inr (.inl ⟨_,_,_,_,rfl,fun _=>⟨hd,?_⟩,fun h=>by cases h⟩)
  rintro res σ' hR
  refine owp_of_exs ?_
  obtain ⟨ν,A,B,cl,g,rfl,rfl,hA,hL⟩:=hR
  simp only [zT,zV,zS,zU,vcC,lateX,ex,strp,binA,elems,cells,scalar,eqC,keyA,intsA,lookA,ofVs,mpOf,Nat.reduceBEq,reduceAdd,reduceSub,reduceLT,reduceLeDiff,reduceMul,reduceEqDiff,reduceIte]
  (repeat' ((first
 | refine vn rfl ?_
 | simp (disch:=omega) only [wr64,Int.zero_sub]
 | refine bo (fun _=>?_) fun _=>?_
 | refine im fun _=>?_
 | refine cF ?_
 | refine om ?_
 | refine an ?_
 | fail) <;> try simp only [zT,zV,zS,zU,vcC,lateX,ex,strp,binA,elems,cells,scalar,eqC,keyA,intsA,lookA,ofVs,mpOf,Nat.reduceBEq,reduceAdd,reduceSub,reduceLT,reduceLeDiff,reduceMul,reduceEqDiff,reduceIte]))
  exact .mk ν A B cl g rfl rfl hA hL
theorem frz_stg {σ:Sto} {A N:Nat} {cl:Nat→AV} {lv:Nat→List (List Sp)} (h:σ.at A 0=some ⟨61,1,(List.range N).map fun i=>[cl i],none⟩) (hr:∀ i,i < N→RowAt σ (cl i) (lv i)):Frz σ (.own A 0 N) (stgS ((List.range N).map lv)):=by
  refine Frz.own (o:=⟨61,1,(List.range N).map fun i=>[cl i],none⟩) (es:=((List.range N).map lv).map fun l=>[nodS l]) (show (1:Nat)≠0 by decide) h (by simp) (by simp) (fun e j he hj=>?_) fun e he=>?_
  · rw [range_get _ he,getD_map (x:=lv e) (by simp [he])]
    match j,hj with
    | 0,_=>exact (hr e he).frz
  · rw [getD_map (x:=lv e) (by simp [he])]; rfl
theorem ReachR.frz {σ σ':Sto} {N:Nat} {lv:Nat→List (List Sp)} {o0:Bool} {r:AV} (hN:1≤N) (h:ReachR σ N lv o0 r σ'):Frz σ' r (stgS ((List.range N).map lv)):=by
  obtain ⟨ν,A,B,cl,g,h1,rfl,hA,hL⟩:=h
  have:=hL.a
  rw [show N - 1+1=N by omega] at this
  exact frz_stg this fun i hi=>hL.row i (by omega)
theorem forward_spec (t:Trk) (h:valid t):Pure Tryz.prog 71 [trS t] (stgS (fwds t)) :=
  Does.toPure (forward_does [] t h) fun _ _ hR=>hR.frz h.1
theorem reverse_does (σ:Sto) (A N:Nat) (g w:Nat→Nat) (hN:N < 9223372036854775808) (ho:σ.at A 0=some ⟨61,1,(List.range N).map fun i=>[.own (g i) 0 (w i)],none⟩) :
    Does Tryz.prog 142 [.own A 0 N] σ (fun _ σ'=>σ'=σ.upd A 0 ⟨61,1,(List.range N).map fun i=>[.own (g (N - 1 - i)) 0 (w (N - 1 - i))],none⟩):=by
  refine Does.of_body Tryz.call142 Tryz.func142 k142 (Nat.le_of_ble_eq_true rfl) ?_
  unfold c142
  let ix:Nat→Nat→Nat:=fun i m=>if m < i∨N - i≤m then N - 1 - m else m
  let ob:Nat→Ob:=fun i=>⟨61,1,(List.range N).map fun m=>[.own (g (ix i m)) 0 (w (ix i m))],none⟩
  have hat:∀ i,Sto.at (σ.upd A 0 (ob i)) A 0=some (ob i):=fun i=>at_upd_same ho
  have h0:σ.upd A 0 (ob 0)=σ:=by
    have:ob 0=⟨61,1,(List.range N).map fun i=>[.own (g i) 0 (w i)],none⟩:=by
      simp only [ob]
      exact congrArg (fun z=>(⟨61,1,z,none⟩:Ob)) (range_congr fun j hj=>by simp only [ix]; rw [if_neg (by omega)])
    rw [this]; exact upd_self ho
  (repeat' ((first
 | refine vn rfl ?_
 | simp (disch:=omega) only [wr64,Int.zero_sub]
 | refine bo (fun _=>?_) fun _=>?_
 | refine im fun _=>?_
 | refine cF ?_
 | refine om ?_
 | refine an ?_
 | fail) <;> try simp only [zT,zV,zS,zU,vcC,lateX,ex,strp,binA,elems,cells,scalar,eqC,keyA,intsA,lookA,ofVs,mpOf,Nat.reduceBEq,reduceAdd,reduceSub,reduceLT,reduceLeDiff,reduceMul,reduceEqDiff,reduceIte,ho,List.length_range]))
  all_goals try (exfalso; omega)
  refine AWPC.loopE (α:={ i:Nat // 2 * i≤N+1 }) [2,3] (fun i=>[(2,n i.1),(3,n ((N:Int) - 1 - i.1))]) (fun i=>σ.upd A 0 (ob i.1)) (fun i=>N - i.1) ⟨0,by omega⟩ ?_ h0.symm ?_
  · (simp only [zT,zV,zS,zU,vcC,lateX,ex,strp,binA,elems,cells,scalar,eqC,keyA,intsA,lookA,ofVs,mpOf,Nat.reduceBEq,reduceAdd,reduceSub,reduceLT,reduceLeDiff,reduceMul,reduceEqDiff,reduceIte]; try simp)
  rintro ⟨i,hi⟩
  simp only
  by_cases hlt:2 * i+1 < N
  · have e1:(((N:Int) - 1 - i).toNat)=N - 1 - i:=by omega
    have g1:∀ i m,m < N→((List.range N).map fun m=>[AV.own (g (ix i m)) 0 (w (ix i m))]).getD m []=[.own (g (ix i m)) 0 (w (ix i m))]:=fun i m hm=>range_get _ hm
    have g2:=g1 i i (by omega)
    have g3:=g1 i (N - 1 - i) (by omega)
    have hat':=hat i
    have i1:ix i i=i:=by simp only [ix]; rw [if_neg (by omega)]
    have i2:ix i (N - 1 - i)=N - 1 - i:=by simp only [ix]; rw [if_neg (by omega)]
    rw [i1] at g2
    rw [i2] at g3
    simp only [ob] at hat' ⊢
    have hato:∀ o,Sto.at (σ.upd A 0 o) A 0=some o:=fun o=>at_upd_same ho
    have huu:∀ o o',(σ.upd A 0 o).upd A 0 o'=σ.upd A 0 o':=fun o o'=>updUpd
    have g4:∀ X,(((List.range N).map fun m=>[AV.own (g (ix i m)) 0 (w (ix i m))]).set i X).getD (N - 1 - i) []=[.own (g (N - 1 - i)) 0 (w (N - 1 - i))]:=fun X=>by
      rw [List.getD_eq_getElem?_getD,List.getElem?_set_ne (by omega),← List.getD_eq_getElem?_getD]; exact g3
    (repeat' ((first
 | refine vn rfl ?_
 | simp (disch:=omega) only [wr64,Int.zero_sub]
 | refine bo (fun _=>?_) fun _=>?_
 | refine im fun _=>?_
 | refine cF ?_
 | refine om ?_
 | refine an ?_
 | fail) <;> try simp only [zT,zV,zS,zU,vcC,lateX,ex,strp,binA,elems,cells,scalar,eqC,keyA,intsA,lookA,ofVs,mpOf,Nat.reduceBEq,reduceAdd,reduceSub,reduceLT,reduceLeDiff,reduceMul,reduceEqDiff,reduceIte,hato,e1,g2,g3,List.length_range]))
    all_goals try (exfalso; omega)
    simp only [zT,zV,zS,zU,vcC,lateX,ex,strp,binA,elems,cells,scalar,eqC,keyA,intsA,lookA,ofVs,mpOf,Nat.reduceBEq,reduceAdd,reduceSub,reduceLT,reduceLeDiff,reduceMul,reduceEqDiff,reduceIte,hato,huu,e1,g4,List.length_set,List.length_range]
    (repeat' ((first
 | refine vn rfl ?_
 | simp (disch:=omega) only [wr64,Int.zero_sub]
 | refine bo (fun _=>?_) fun _=>?_
 | refine im fun _=>?_
 | refine cF ?_
 | refine om ?_
 | refine an ?_
 | fail) <;> try simp only [zT,zV,zS,zU,vcC,lateX,ex,strp,binA,elems,cells,scalar,eqC,keyA,intsA,lookA,ofVs,mpOf,Nat.reduceBEq,reduceAdd,reduceSub,reduceLT,reduceLeDiff,reduceMul,reduceEqDiff,reduceIte]))
    refine ⟨⟨i+1,by omega⟩,⟨by simp,by simp; omega⟩,?_,by simp only; omega⟩
    refine congrArg (fun z=>Sto.upd σ A 0 (⟨61,1,z,none⟩:Ob)) ?_
    rw [range_set,range_set]
    refine range_congr fun j hj=>?_
    simp only [ix]
    by_cases h1:j=N - 1 - i
    · rw [if_pos h1,if_pos (by omega),h1,show N - 1 - (N - 1 - i)=i by omega]
    · rw [if_neg h1]
      by_cases h2:j=i
      · rw [if_pos h2,if_pos (by omega),h2]
      · rw [if_neg h2]
        by_cases h3:j < i∨N - i≤j
        · rw [if_pos h3,if_pos (by omega)]
        · rw [if_neg h3,if_neg (by omega)]
  · have hfin:ob i=⟨61,1,(List.range N).map fun i=>[.own (g (N - 1 - i)) 0 (w (N - 1 - i))],none⟩:=by
      simp only [ob]
      refine congrArg (fun z=>(⟨61,1,z,none⟩:Ob)) (range_congr fun j hj=>?_)
      simp only [ix]
      by_cases h3:j < i∨N - i≤j
      · rw [if_pos h3]
      · rw [if_neg h3,show N - 1 - j=j by omega]
    (repeat' ((first
 | refine vn rfl ?_
 | simp (disch:=omega) only [wr64,Int.zero_sub]
 | refine bo (fun _=>?_) fun _=>?_
 | refine im fun _=>?_
 | refine cF ?_
 | refine om ?_
 | refine an ?_
 | fail) <;> try simp only [zT,zV,zS,zU,vcC,lateX,ex,strp,binA,elems,cells,scalar,eqC,keyA,intsA,lookA,ofVs,mpOf,Nat.reduceBEq,reduceAdd,reduceSub,reduceLT,reduceLeDiff,reduceMul,reduceEqDiff,reduceIte]))
    all_goals try (exfalso; omega)
    rw [hfin]
theorem backward_spec (t:Trk) (h:valid t):Pure Tryz.prog 86 [trS t] (stgS (bwds t)):=by
  refine Pure.of_body Tryz.call86 Tryz.func86 k86 (Nat.le_of_ble_eq_true rfl) ?_
  unfold c86
  have hN:=h.1
  have hN2:=h.2.1
  have hd:=reached_does [] (backP t h) true (alsB t 0) (.v (.slice none 0 0)) ⟨rfl,rfl⟩ (alsB_goods h 0) (by rw [alsB,als_len]; rfl)
  (repeat' ((first
 | refine vn rfl ?_
 | simp (disch:=omega) only [wr64,Int.zero_sub]
 | refine bo (fun _=>?_) fun _=>?_
 | refine im fun _=>?_
 | refine cF ?_
 | refine om ?_
 | refine an ?_
 | fail) <;> try simp only [zT,zV,zS,zU,vcC,lateX,ex,strp,binA,elems,cells,scalar,eqC,keyA,intsA,lookA,ofVs,mpOf,Nat.reduceBEq,reduceAdd,reduceSub,reduceLT,reduceLeDiff,reduceMul,reduceEqDiff,reduceIte]))
  refine .inr (.inl ⟨_,_,_,_,rfl,fun _=>⟨hd,?_⟩,fun h=>by cases h⟩)
  rintro res σ' hR
  refine owp_of_exs ?_
  obtain ⟨ν,A,B,cl,g,hν,rfl,hA,hL⟩:=hR
  have hlv:lev (fun k=>(t.getD (t.length - 1 - k) []).map (·.al)) (stpB t) (alsB t 0)=bwdB t:=rfl
  rw [hlv] at hL
  have e1:t.length - 1+1=t.length:=by omega
  have hat:=hL.a
  rw [e1] at hat
  have hcl:∀ i,i < t.length→cl i=.own (g i) 0 (bwdB t i).length:=fun i hi=>(hL.own i (.inl rfl) (by omega)).1
  rw [range_congr (f:=fun i=>[cl i]) (g:=fun i=>[AV.own (g i) 0 (bwdB t i).length]) fun i hi=>by rw [hcl i hi]] at hat
  simp only [zT,zV,zS,zU,vcC,lateX,ex,strp,binA,elems,cells,scalar,eqC,keyA,intsA,lookA,ofVs,mpOf,Nat.reduceBEq,reduceAdd,reduceSub,reduceLT,reduceLeDiff,reduceMul,reduceEqDiff,reduceIte]
  (repeat' ((first
 | refine vn rfl ?_
 | simp (disch:=omega) only [wr64,Int.zero_sub]
 | refine bo (fun _=>?_) fun _=>?_
 | refine im fun _=>?_
 | refine cF ?_
 | refine om ?_
 | refine an ?_
 | fail) <;> try simp only [zT,zV,zS,zU,vcC,lateX,ex,strp,binA,elems,cells,scalar,eqC,keyA,intsA,lookA,ofVs,mpOf,Nat.reduceBEq,reduceAdd,reduceSub,reduceLT,reduceLeDiff,reduceMul,reduceEqDiff,reduceIte]))
  refine .inr (.inl ⟨_,_,_,_,rfl,fun _=>⟨reverse_does σ' A t.length g (fun i=>(bwdB t i).length) (by omega) hat,?_⟩,fun h=>by cases h⟩)
  rintro res σ2 rfl
  refine owp_of_exs ?_
  simp only [zT,zV,zS,zU,vcC,lateX,ex,strp,binA,elems,cells,scalar,eqC,keyA,intsA,lookA,ofVs,mpOf,Nat.reduceBEq,reduceAdd,reduceSub,reduceLT,reduceLeDiff,reduceMul,reduceEqDiff,reduceIte]
  (repeat' ((first
 | refine vn rfl ?_
 | simp (disch:=omega) only [wr64,Int.zero_sub]
 | refine bo (fun _=>?_) fun _=>?_
 | refine im fun _=>?_
 | refine cF ?_
 | refine om ?_
 | refine an ?_
 | fail) <;> try simp only [zT,zV,zS,zU,vcC,lateX,ex,strp,binA,elems,cells,scalar,eqC,keyA,intsA,lookA,ofVs,mpOf,Nat.reduceBEq,reduceAdd,reduceSub,reduceLT,reduceLeDiff,reduceMul,reduceEqDiff,reduceIte]))
  have hb:bwds t=(List.range t.length).map fun i=>bwdB t (t.length - 1 - i):=rfl
  rw [hb]
  refine frz_stg (cl:=fun i=>.own (g (t.length - 1 - i)) 0 (bwdB t (t.length - 1 - i)).length) (at_upd_same hat) fun i hi=>.inr ⟨_,rfl,?_⟩
  obtain ⟨_,h2,_⟩:=hL.own (t.length - 1 - i) (.inl rfl) (by omega)
  rw [at_upd_other (.inl fun e=>?_)]
  · exact h2
  · rw [← e,hat] at h2; injection h2 with h2; injection h2 with h2; cases h2
theorem bwds_get {t:Trk} {k:Nat} (h:k < t.length):((bwds t).map fun l=>[nodS l]).getD k []=[nodS (bwd t k)]:=getD_map (by simp [bwds,h])
theorem wd_le {t:Trk} (h:valid t) (k:Nat):wd t k≤4000:=by
  by_cases hk:k < t.length
  · exact (valid_stg h hk).2.1
  · rw [wd,getD_none (by omega)]; simp
theorem map_range {α β:Type} (l:List α) (f:α→β) (d:α):l.map f=(List.range l.length).map fun j=>f (l.getD j d):=by
  refine List.ext_getElem? fun i=>?_
  by_cases hi:i < l.length
  · simp [hi,List.getD_eq_getElem?_getD]
  · simp [hi,List.getElem?_eq_none (show l.length≤i by omega)]
theorem allv_map {t:Trk} {k:Nat} (hk:k < t.length):(allv t k).map (fun l=>[spS l])=(List.range (wd t k)).map fun j=>[spS (meet ((fwd t k).getD j []) ((bwd t k).getD j []))]:=by
  rw [map_range _ _ [],allv_len hk]
  exact range_congr fun j hj=>by rw [allv,both_get (by rw [fwd_len]; exact hj) (by rw [bwd_len hk]; exact hj)]
theorem all_spec (t:Trk) (h:valid t):Pure Tryz.prog 88 [trS t] (stgS (allvs t)):=by
  refine Pure.of_body Tryz.call88 Tryz.func88 k88 (Nat.le_of_ble_eq_true rfl) ?_
  unfold c88
  have hN:=h.1
  have hN2:=h.2.1
  have hbl:(bwds t).length=t.length:=by simp [bwds]
  (repeat' ((first
 | refine vn rfl ?_
 | simp (disch:=omega) only [wr64,Int.zero_sub]
 | refine bo (fun _=>?_) fun _=>?_
 | refine im fun _=>?_
 | refine cF ?_
 | refine om ?_
 | refine an ?_
 | fail) <;> try simp only [zT,zV,zS,zU,vcC,lateX,ex,strp,binA,elems,cells,scalar,eqC,keyA,intsA,lookA,ofVs,mpOf,Nat.reduceBEq,reduceAdd,reduceSub,reduceLT,reduceLeDiff,reduceMul,reduceEqDiff,reduceIte]))
  refine .inr ⟨_,_,_,_,rfl,forward_does [] t h,?_⟩
  rintro res σ0 ⟨ν,A,B,cl,g,hν,rfl,hA,hL⟩
  have e1:t.length - 1+1=t.length:=by omega
  have hat:=hL.a
  rw [e1] at hat
  rw [range_congr (f:=fun i=>[cl i]) (g:=fun i=>[AV.own (g i) 0 (wd t i)]) fun i hi=>by rw [(hL.own i (.inl rfl) (by omega)).1,fwd_len]] at hat
  have hgA:∀ i,i < t.length→g i≠A:=fun i hi e=>by
    have h2:=(hL.own i (.inl rfl) (by omega)).2.1
    rw [e,hat] at h2; injection h2 with h2; injection h2 with h2; cases h2
  have hgi:∀ i j,i < t.length→j < t.length→i≠j→g i≠g j:=fun i j hi hj hij=>by
    rcases Nat.lt_or_ge i j with h1 | h1
    · have:=hL.inj i j (.inl rfl) h1 (by omega); omega
    · have:=hL.inj j i (.inl rfl) (by omega) (by omega); omega
  (repeat' ((first
 | refine vn rfl ?_
 | simp (disch:=omega) only [wr64,Int.zero_sub]
 | refine bo (fun _=>?_) fun _=>?_
 | refine im fun _=>?_
 | ((repeat refine si ?_); (first | ((first | refine .inl ⟨_,_,_,_,rfl,fun _=>pu (backward_spec t h),?_⟩ | refine ⟨_,_,_,_,rfl,fun _=>pu (backward_spec t h),?_⟩); (first | refine o1 ?_ | refine o2 ?_ | refine o3 ?_ | refine o4 ?_)) | refine .inl ⟨_,_,_,_,rfl,pu (backward_spec t h),?_⟩))
 | refine cF ?_
 | refine om ?_
 | refine an ?_
 | fail) <;> try simp only [zT,zV,zS,zU,vcC,lateX,ex,strp,binA,elems,cells,scalar,eqC,keyA,intsA,lookA,ofVs,mpOf,Nat.reduceBEq,reduceAdd,reduceSub,reduceLT,reduceLeDiff,reduceMul,reduceEqDiff,reduceIte,hat,List.length_range]))
  all_goals try (exfalso; omega)
  refine AWPC.loopE (α:={ x:Nat × Sto // x.1≤t.length∧x.2.at A 0=some ⟨61,1,(List.range t.length).map fun i=>[.own (g i) 0 (wd t i)],none⟩∧∀ i,i < t.length→x.2.at (g i) 0=some ⟨45,1,(if i < x.1 then allv t i else fwd t i).map (fun l=>[spS l]),none⟩ })
    [14] (fun x=>[(14,n x.1.1)]) (fun x=>x.1.2) (fun x=>t.length - x.1.1) ⟨(0,σ0),Nat.zero_le _,hat,fun i hi=>by rw [if_neg (by omega)]; exact (hL.own i (.inl rfl) (by omega)).2.1⟩ ?_ rfl ?_
  · (simp only [zT,zV,zS,zU,vcC,lateX,ex,strp,binA,elems,cells,scalar,eqC,keyA,intsA,lookA,ofVs,mpOf,Nat.reduceBEq,reduceAdd,reduceSub,reduceLT,reduceLeDiff,reduceMul,reduceEqDiff,reduceIte]; try simp)
  rintro ⟨⟨k,τ⟩,hk,y1,y2⟩
  simp only at hk y1 y2
  simp only
  by_cases hlt:k < t.length
  · have gk:((List.range t.length).map fun i=>[AV.own (g i) 0 (wd t i)]).getD k []=[.own (g k) 0 (wd t k)]:=range_get _ hlt
    have yk:=y2 k hlt
    rw [if_neg (Nat.lt_irrefl k),map_range _ _ [],fwd_len] at yk
    have bk:=bwds_get hlt
    have hw:=wd_le h k
    (repeat' ((first
 | refine vn rfl ?_
 | simp (disch:=omega) only [wr64,Int.zero_sub]
 | refine bo (fun _=>?_) fun _=>?_
 | refine im fun _=>?_
 | refine cF ?_
 | refine om ?_
 | refine an ?_
 | fail) <;> try simp only [zT,zV,zS,zU,vcC,lateX,ex,strp,binA,elems,cells,scalar,eqC,keyA,intsA,lookA,ofVs,mpOf,Nat.reduceBEq,reduceAdd,reduceSub,reduceLT,reduceLeDiff,reduceMul,reduceEqDiff,reduceIte,y1,gk,yk,List.length_range]))
    all_goals try (exfalso; omega)
    refine AWPC.loopE (α:={ x:Nat × Sto // x.1≤wd t k∧x.2.at A 0=some ⟨61,1,(List.range t.length).map fun i=>[.own (g i) 0 (wd t i)],none⟩∧(∀ i,i < t.length→i≠k→x.2.at (g i) 0=some ⟨45,1,(if i < k then allv t i else fwd t i).map (fun l=>[spS l]),none⟩) ∧
        x.2.at (g k) 0=some ⟨45,1,(List.range (wd t k)).map fun j=>[spS (if j < x.1 then meet ((fwd t k).getD j []) ((bwd t k).getD j []) else (fwd t k).getD j [])],none⟩ })
      [21] (fun x=>[(21,n x.1.1)]) (fun x=>x.1.2) (fun x=>wd t k - x.1.1) ⟨(0,τ),Nat.zero_le _,y1,fun i hi _=>y2 i hi,by simpa using yk⟩ ?_ rfl ?_
    · (simp only [zT,zV,zS,zU,vcC,lateX,ex,strp,binA,elems,cells,scalar,eqC,keyA,intsA,lookA,ofVs,mpOf,Nat.reduceBEq,reduceAdd,reduceSub,reduceLT,reduceLeDiff,reduceMul,reduceEqDiff,reduceIte]; try simp)
    rintro ⟨⟨j,τ⟩,hj,z1,z2,z3⟩
    simp only at hj z1 z2 z3
    simp only
    by_cases hlt2:j < wd t k
    · have gj:((List.range (wd t k)).map fun m=>[spS (if m < j then meet ((fwd t k).getD m []) ((bwd t k).getD m []) else (fwd t k).getD m [])]).getD j []=[spS ((fwd t k).getD j [])]:=by rw [range_get _ hlt2,if_neg (Nat.lt_irrefl j)]
      have bj:((bwd t k).map fun l=>[spS l]).getD j []=[spS ((bwd t k).getD j [])]:=getD_map (getD_some (by rw [bwd_len hlt]; exact hlt2))
      have hbw:=bwd_len hlt
      have hme:=meet_spec _ _ (goods_get (fwd_goods h k) j) (goods_get (bwd_goods h k) j)
      (repeat' ((first
 | refine vn rfl ?_
 | simp (disch:=omega) only [wr64,Int.zero_sub]
 | refine bo (fun _=>?_) fun _=>?_
 | refine im fun _=>?_
 | ((repeat refine si ?_); (first | ((first | refine .inl ⟨_,_,_,_,rfl,fun _=>pu hme,?_⟩ | refine ⟨_,_,_,_,rfl,fun _=>pu hme,?_⟩); (first | refine o1 ?_ | refine o2 ?_ | refine o3 ?_ | refine o4 ?_)) | refine .inl ⟨_,_,_,_,rfl,pu hme,?_⟩))
 | refine cF ?_
 | refine om ?_
 | refine an ?_
 | fail) <;> try simp only [zT,zV,zS,zU,vcC,lateX,ex,strp,binA,elems,cells,scalar,eqC,keyA,intsA,lookA,ofVs,mpOf,Nat.reduceBEq,reduceAdd,reduceSub,reduceLT,reduceLeDiff,reduceMul,reduceEqDiff,reduceIte,z1,z3,gj,bk,bj,hbl,List.length_range]))
      all_goals try (exfalso; omega)
      generalize hσ4:Sto.upd τ (g k) 0 _=σ4
      have w1:∀ q,q≠g k→σ4.at q 0=τ.at q 0:=fun q hq=>by rw [← hσ4,at_upd_other (.inl fun e=>hq e.symm)]
      have w2:σ4.at (g k) 0=some ⟨45,1,((List.range (wd t k)).map fun m=>[spS (if m < j then meet ((fwd t k).getD m []) ((bwd t k).getD m []) else (fwd t k).getD m [])]).set j [spS (meet ((fwd t k).getD j []) ((bwd t k).getD j []))],none⟩:=by rw [← hσ4,at_upd_same z3]
      refine ⟨⟨(j+1,σ4),hlt2,?_,fun i hi hik=>?_,?_⟩,by simp,rfl,by simp only; omega⟩
      · simp only; rw [w1 _ (hgA k hlt).symm]; exact z1
      · simp only; rw [w1 _ (hgi i k hi hlt hik)]; exact z2 i hi hik
      · simp only
        rw [w2,range_set]
        refine congrArg (fun z=>some (⟨45,1,z,none⟩:Ob)) (range_congr fun m hm=>?_)
        by_cases hmj:m=j
        · subst hmj; simp
        · rw [if_neg hmj]
          by_cases hml:m < j
          · rw [if_pos hml,if_pos (by omega)]
          · rw [if_neg hml,if_neg (by omega)]
    · obtain rfl:j=wd t k:=by omega
      (repeat' ((first
 | refine vn rfl ?_
 | simp (disch:=omega) only [wr64,Int.zero_sub]
 | refine bo (fun _=>?_) fun _=>?_
 | refine im fun _=>?_
 | refine cF ?_
 | refine om ?_
 | refine an ?_
 | fail) <;> try simp only [zT,zV,zS,zU,vcC,lateX,ex,strp,binA,elems,cells,scalar,eqC,keyA,intsA,lookA,ofVs,mpOf,Nat.reduceBEq,reduceAdd,reduceSub,reduceLT,reduceLeDiff,reduceMul,reduceEqDiff,reduceIte,z1,z3,List.length_range]))
      all_goals try (exfalso; omega)
      refine ⟨⟨(k+1,τ),hlt,z1,fun i hi=>?_⟩,by simp,rfl,by simp only; omega⟩
      simp only
      by_cases hik:i=k
      · subst hik
        rw [if_pos (by omega),allv_map hi,z3]
        exact congrArg (fun z=>some (⟨45,1,z,none⟩:Ob)) (range_congr fun m hm=>by rw [if_pos hm])
      · rw [z2 i hi hik]
        by_cases hil:i < k
        · rw [if_pos hil,if_pos (by omega)]
        · rw [if_neg hil,if_neg (by omega)]
  · obtain rfl:k=t.length:=by omega
    (repeat' ((first
 | refine vn rfl ?_
 | simp (disch:=omega) only [wr64,Int.zero_sub]
 | refine bo (fun _=>?_) fun _=>?_
 | refine im fun _=>?_
 | refine cF ?_
 | refine om ?_
 | refine an ?_
 | fail) <;> try simp only [zT,zV,zS,zU,vcC,lateX,ex,strp,binA,elems,cells,scalar,eqC,keyA,intsA,lookA,ofVs,mpOf,Nat.reduceBEq,reduceAdd,reduceSub,reduceLT,reduceLeDiff,reduceMul,reduceEqDiff,reduceIte,y1,List.length_range]))
    all_goals try (exfalso; omega)
    refine frz_stg y1 fun i hi=>.inr ⟨g i,by rw [allv_len hi],?_⟩
    have:=y2 i hi
    rwa [if_pos hi] at this
end Go.Proofs.YtahkhnagpdlkiaaGreat
