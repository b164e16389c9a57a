/- Part 7: contracts. -/
import Derived.Test.YtolgelipcgcbhaaGreatBn6
namespace Go.Proofs.YtolgelipcgcbhaaGreat
open Go.Abs
open Nat (reduceAdd reduceSub reduceLT reduceLeDiff reduceMul reduceEqDiff)
set_option linter.unusedVariables false
set_option linter.unusedSimpArgs false
set_option maxHeartbeats 4000000
set_option maxRecDepth 100000
open Go.Shelf Go.RowKit Go.Lib Go.Sort
def keyCs (a:Nt):List AV:=n a.clerk::n a.num::n a.clock::n a.day::List.replicate 34 .any
theorem zK:(∀ a,(keyCs a).length=38)∧(∀ a,(keyCs a).take 38=keyCs a)∧(∀ a,(keyCs a).drop 38=[])∧(∀ a,(keyCs a)[0]?=some (n a.clerk))∧(∀ a,(keyCs a)[1]?=some (n a.num))∧(∀ a,(keyCs a)[2]?=some (n a.clock)) ∧
    (∀ a,(keyCs a)[3]?=some (n a.day)):=by refine ⟨?_,?_,?_,?_,?_,?_,?_⟩ <;> intros <;> rfl
theorem keyPc (a:Nt):∀ c∈keyCs a,PureV c:=by
  intro c hc
  simp only [keyCs,List.mem_cons,List.mem_replicate] at hc
  rcases hc with rfl | rfl | rfl | rfl | ⟨_,rfl⟩ <;> first | exact PureV.v _ | exact PureV.any
@[simp] theorem keyPa (a:Nt):PureV (.agg (keyCs a)):=.agg (keyPc a)
@[simp] theorem keyPi (a:Nt) (j:Nat):PureV (.iptr (keyCs a) j):=.iptr (keyPc a)
theorem nameK (a:Nt):Pure Tryz.prog 89 [.agg (keyCs a)] (.agg [n a.clerk,n a.num]):=by
  refine pB_ Tryz.call89 Tryz.func89 k89 ?_
  unfold c89
  ((refine Ax @zK ?_;repeat' constructor)<;>intros<;>refine hD_ ?_)
  all_goals exact Frz.eq rfl (by simp)
theorem compareK (a b:Nt):Pure Tryz.prog 114 [.agg (keyCs a),.agg (keyCs b)] (n (cmpT a b)):=by
  refine pB_ Tryz.call114 Tryz.func114 k114 ?_
  unfold c114
  have h1:=Compare_spec a.day b.day
  have h2:=Compare_spec a.clock b.clock
  have h4:=compareNames_spec a.nm b.nm
  have h3:=Or_spec [sgn a.day b.day,sgn a.clock b.clock,cmpN a.nm b.nm] (by simp)
  ((refine Az @zK (And.intro @h1 (And.intro @h2 (And.intro @h3 (And.intro @h4 (And.intro (nameK a) (nameK b)))))) ?_;repeat' constructor)<;>intros<;>refine hD_ ?_)
  refine Frz.eq (congrArg n ?_) (by simp)
  unfold cmpT orI
  simp only [orL]
  by_cases h:sgn a.day b.day=0 <;> simp [h]
  by_cases h':sgn a.clock b.clock=0 <;> simp [h']
  by_cases h'':cmpN a.nm b.nm=0 <;> simp [h'']
theorem isAgg68 (w:World):(isAgg 68).run Tryz.prog w=.ok true w:=by simp [isAgg,run_underlying Tryz.underlying68]
theorem sizeOf68 (w:World):(Go.sizeOf 68).run Tryz.prog w=.ok 38 w:=by
  have h:szF Tryz.prog 68=some 38:=by kernel_rfl
  obtain ⟨i,hi,h2⟩:=sz_parts h
  simp [Go.sizeOf,typeInfo,hi,h2]
def okT (a:Nt) (c:List Value):Prop:=c.getD 0 undef=.int .i64 a.clerk∧c.getD 1 undef=.int .i64 a.num∧c.getD 2 undef=.int .i64 a.clock∧c.getD 3 undef=.int .i64 a.day
instance:Inhabited (RawR Nt 38 okT):=⟨⟨nt0,List.replicate 38 (.int .i64 0),by simp,fun v hv=>by rw [(List.mem_replicate.1 hv).2]; rfl,rfl,rfl,rfl,rfl⟩⟩
theorem key_rel (x:RawR Nt 38 okT) (W:World):RV W (fun _=>False) nob [] (.agg (keyCs x.a)) (.agg x.c.toArray):=by
  have hk:x.c.length=38:=x.hk
  have h:okT x.a x.c:=x.h
  refine agg_list (by rw [hk]; rfl) (fun i hi=>?_) fun i hi=>?_
  · have hi:i < x.c.length:=by rw [hk]; exact hi
    rw [List.getD_eq_getElem?_getD,List.getElem?_eq_getElem hi]
    exact x.h1 _ (List.getElem_mem hi)
  · match i with
    | 0=>exact h.1.symm ▸ RV.v _
    | 1=>exact h.2.1.symm ▸ RV.v _
    | 2=>exact h.2.2.1.symm ▸ RV.v _
    | 3=>exact h.2.2.2.symm ▸ RV.v _
    | i+4 =>
      have:(keyCs x.a).getD (i+4) .any=.any:=by
        show (List.replicate 34 AV.any).getD i .any=.any
        rw [List.getD_eq_getElem?_getD,List.getElem?_replicate]
        split <;> rfl
      rw [this]; exact .any _
theorem sort_notes (g:Nat) (cf:Nt→Nt→Int) (hO:SWO (ltOf fun x y:RawR Nt 38 okT=>cf x.a y.a)) (eg:∀ args w,(callFunc g args).run Tryz.prog w=.ok (.enter g args) w)
    (hc:∀ a b,Pure Tryz.prog g [.agg (keyCs a),.agg (keyCs b)] (n (cf a b))) (σ:Sto) (f:Nat) (l:List Nt) (hf:σ.at f 0=some ⟨68,38,l.map Nt.cs,none⟩) (hl:l.length < 4611686018427387904) :
    Does Tryz.prog 132 [.own f 0 l.length,.fn (.func g) [] []] σ (fun _ σ'=>∃ l':List Nt,l'.Perm l∧l'.Pairwise (fun a b=>0≤cf b a)∧σ'=σ.upd f 0 ⟨68,38,l'.map Nt.cs,none⟩) :=
  sort_rows Tryz.sortS Nt.cs okT (fun a=>rfl) (fun w X β σ a x hx hr=>⟨(hr 0 (by decide)).inv_v,(hr 1 (by decide)).inv_v,(hr 2 (by decide)).inv_v,(hr 3 (by decide)).inv_v⟩)
    isAgg68 sizeOf68 g eg cf hO (fun x y W=>calls_of_pure (hc x.a y.a) [.agg x.c.toArray,.agg y.c.toArray] W rfl fun i hi=>by
      match i,hi with
      | 0,_=>exact key_rel x W
      | 1,_=>exact key_rel y W) Tryz.call132 σ f 68 l hf hl
theorem swoT:SWO (ltOf fun x y:RawR Nt 38 okT=>cmpT x.a y.a):=by
  have e:∀ x y:RawR Nt 38 okT,ltOf (fun x y:RawR Nt 38 okT=>cmpT x.a y.a) x y=decide (cmpT x.a y.a < 0):=fun x y=>rfl
  refine ⟨fun x=>?_,fun x y z h1 h2=>?_,fun x y z h1 h2=>?_⟩
  · rw [e,decide_eq_false_iff_not,cmpT_lt]; omega
  · rw [e,decide_eq_true_eq,cmpT_lt] at *; omega
  · rw [e,decide_eq_false_iff_not,cmpT_lt] at *; omega
theorem sortT_does (σ:Sto) (f:Nat) (l:List Nt) (hf:σ.at f 0=some ⟨68,38,l.map Nt.cs,none⟩) (hl:l.length < 4611686018427387904) (hn:(l.map Nt.nm).Nodup) :
    Does Tryz.prog 132 [.own f 0 l.length,.fn (.func 114) [] []] σ (fun _ σ'=>σ'=σ.upd f 0 ⟨68,38,(srtT l).map Nt.cs,none⟩) :=
  (sort_notes 114 cmpT swoT Tryz.call114 compareK σ f l hf hl).mono fun r σ' ⟨l',h1,h2,h3⟩=>by rw [h3,srtT_one hn h1 h2]
end Go.Proofs.YtolgelipcgcbhaaGreat
namespace Go.Proofs.YtolgelipcgcbhaaGreat
open Go.Abs
open Nat (reduceAdd reduceSub reduceLT reduceLeDiff reduceMul reduceEqDiff)
open Go.Abs renaming vcC→Q0,lateX→Q1,strp→Q2,binA→Q3,elems→Q4,cells→Q5,scalar→Q6,eqC→Q7,keyA→Q8,intsA→Q9,lookA→QA,ofVs→QB,mpOf→QC
set_option linter.unusedVariables false
set_option linter.unusedSimpArgs false
set_option maxHeartbeats 4000000
set_option maxRecDepth 100000
def c197:CF:=⟨19,(jo [jc 4 0] [0,1]
 (.seq (jo [jm 6 0,je 7 6,jc 8 0] [0,1,7,8]
 (.block 0 (.loop (jo [jt .lss 9 8 7] [0,1,7,8,9]
 (.seq (.cond (.t 9) .skip
 (.exit 0))
 (.seq (.block 1 (jo [jm 10 8,jm 5 10] [0,1,5,7,8]
 (jo [jm 11 1,jm 12 0,jm 13 5,ji 14 1 12 13,jl 15 14,jt .eql 16 11 15] [0,1,5,7,8,16]
 (.cond (.t 16) (jo [jm 17 5,jm 4 17] [4]
 .ret)
 .skip))))
 (.ops [ju .add 18 8 1,jm 8 18] [0,1,7,8])))))))
 (jo [jc 4 (-1)] [4]
 .ret))),[.t 4]⟩
theorem k197:chkF Tryz.prog Tryz.f197 c197=true:=by kernel_rfl
def c159:CF:=⟨9,(jo [jb 4 false] [0,1]
 (jo [jm 5 0,jm 6 1,jy 7 197 [5,6],ju .geq 8 7 0,jm 4 8] [4]
 .ret)),[.t 4]⟩
theorem k159:chkF Tryz.prog Tryz.f159 c159=true:=by kernel_rfl
def c88:CF:=⟨30,(jo [jx 3 52 1 1,jw 4 (.mv (.c (.nilFunc)))] [0,3]
 (jo [jw 9 (.mkmp 2),jw 5 (.alloc 192 1 [.map none]),js 1 5 9] [0,3,5]
 (jo [jw 6 (.alloc 27 1 [.slice none 0 0])] [0,3,5,6]
 (.seq (jo [jm 10 0,je 11 10,jc 12 0] [3,5,6,10,11,12]
 (.block 0 (.loop (jo [jt .lss 13 12 11] [3,5,6,10,11,12,13]
 (.seq (.cond (.t 13) .skip
 (.exit 0))
 (.seq (.block 1 (jo [ji 14 38 10 12,jk 15 38 14,jw 8 (.alloc 68 38 z38),js 38 8 15] [3,5,6,8,10,11,12]
 (jo [jf 16 4 8,jl 17 16,ju .eql 18 17 7] [3,5,6,8,10,11,12,18]
 (.cond (.t 18) (.ops [jl 19 5,jf 20 36 8,jk 21 2 20,⟨none,.mput 2 (.t 19) (.t 21) (.c (.bool true)),none⟩] [3,5,6,10,11,12])
 (.ops [jl 22 6,jk 23 38 8,jw 24 (.bsl false 68 38 1 z38 [(0,38,(.t 23))]),jw 25 (.app 68 38 368 (.t 22) (.t 24)),js 1 6 25] [3,5,6,10,11,12])))))
 (.ops [ju .add 26 12 1,jm 12 26] [3,5,6,10,11,12])))))))
 (jo [jl 27 6,jw 28 (.call (.f 132) [(.t 27),(.f 114)])] [3,5,6]
 (jo [jw 29 (.mkfn (.func 158) [] [(.t 6),(.t 5),(.t 3)]),jm 4 29] [4]
 .ret)))))),[.t 4]⟩
theorem k88:chkF Tryz.prog Tryz.f88 c88=true:=by kernel_rfl
def c158:CF:=⟨34,(jo [jl 7 1,je 8 7,jc 9 0] [0,2,3,7,8,9]
 (.block 0 (.loop (jo [jt .lss 10 9 8] [0,2,3,7,8,9,10]
 (.seq (.cond (.t 10) .skip
 (.exit 0))
 (.seq (.block 1 (jo [ji 11 38 7 9,jk 12 38 11,jw 6 (.alloc 68 38 z38),js 38 6 12] [0,2,3,6,7,8,9]
 (.seq (.seq (.draw [jl 13 2,jk 14 38 6,jy 15 89 [14],jw 16 (.look 2 false [.bool false] false (.t 13) (.t 15)),jm 17 16,jd 17 (jl 18 3),jd 17 (je 19 18),jd 17 (ju .gtr 20 19 0),jd 17 (jm 21 20),ja 21 (jl 22 3),ja 21 (jf 23 4 6),ja 21 (jl 24 23),ja 21 (jy 25 159 [22,24]),ja 21 (jv 26 25),jd 17 (jp 27 21 26),jq 28 17 27] [] [0,2,3,6,7,8,9,28])
 (.cond (.t 28) (.exit 1)
 .skip))
 (jo [jm 29 0,jk 30 38 6,jw 31 (.call (.t 29) [(.t 30)]),jv 32 31] [0,2,3,7,8,9,32]
 (.cond (.t 32) .ret
 .skip)))))
 (.ops [ju .add 33 9 1,jm 9 33] [0,2,3,7,8,9]))))))),[]⟩
theorem k158:chkF Tryz.prog Tryz.f158 c158=true:=by kernel_rfl
theorem indexInt (l:List Int) (v:Int) (hl:l.length < 9223372036854775808):Pure Tryz.prog 197 [inS l,n v] (n (fidx (fun x=>decide (v=x)) 0 l)):=by
  refine pB_ Tryz.call197 Tryz.func197 k197 ?_
  unfold c197
  ((refine Au ?_;repeat' constructor)<;>intros<;>refine hD_ ?_)
  refine AWPC.loopI 8 l.length (fun i=>fidx (fun x=>decide (v=x)) i (l.drop i)=fidx (fun x=>decide (v=x)) 0 l) (by simp) ?_ ?_
  · (simp only [zN,zT,zV,zS,zU,Q0,Q1,ex,Q2,Q3,Q4,Q5,Q6,Q7,Q8,Q9,QA,QB,QC,Nat.reduceBEq,reduceAdd,reduceSub,reduceLT,reduceLeDiff,reduceMul,reduceEqDiff,reduceIte]; try simp)
  · intro i hi hI
    by_cases hlt:i < l.length
    · obtain ⟨x,hx⟩:∃ x,l[i]?=some x:=⟨_,List.getElem?_eq_getElem hlt⟩
      rw [drop_cons hx,fidx] at hI
      (repeat' ((first
 | refine vn rfl ?_
 | simp (disch:=omega) only [wr64,Int.zero_sub]
 | refine bo (fun _=>?_) fun _=>?_
 | refine im fun _=>?_
 | refine cF ?_
 | refine om ?_
 | refine an ?_
 | fail) <;> try simp only [zN,zT,zV,zS,zU,Q0,Q1,ex,Q2,Q3,Q4,Q5,Q6,Q7,Q8,Q9,QA,QB,QC,Nat.reduceBEq,reduceAdd,reduceSub,reduceLT,reduceLeDiff,reduceMul,reduceEqDiff,reduceIte,getD_map hx]))
      all_goals try (exfalso;omega)
      · rename_i h
        rw [if_pos (decide_eq_true h)] at hI
        rw [← hI]
        exact Frz.eq rfl (by simp)
      · rename_i h
        rw [if_neg (by rw [decide_eq_false h]; exact Bool.false_ne_true)] at hI
        exact ⟨⟨i+1,hlt,hI⟩,by simp,by simp only; omega⟩
    · obtain rfl:i=l.length:=by omega
      rw [List.drop_length,fidx] at hI
      ((refine Au ?_;repeat' constructor)<;>intros<;>refine hD_ ?_)
      all_goals try (exfalso;omega)
      rw [← hI]
      exact Frz.eq rfl (by simp)
theorem containsInt (l:List Int) (v:Int) (hl:l.length < 9223372036854775808):Pure Tryz.prog 159 [inS l,n v] (bl (l.any fun x=>decide (v=x))):=by
  refine pB_ Tryz.call159 Tryz.func159 k159 ?_
  unfold c159
  have h:=fidx_any (fun x=>decide (v=x)) l 0
  rw [← h]
  ((refine Ay (indexInt l v hl) ?_;repeat' constructor)<;>intros<;>refine hD_ ?_)
  exact Frz.eq rfl (by simp)
abbrev goneW (l:List Nt):List (List Int × AV):=kenc bl (goneM l)
theorem kenc_pv {β:Type} {f:β→AV} (m:List (Nm × β)) (h:∀ x,PureV (f x)):∀ e∈kenc f m,PureV e.2:=by
  intro e he
  simp only [kenc,List.mem_map] at he
  obtain ⟨x,_,rfl⟩:=he
  exact h _
theorem goneW_frz {σ:Sto} {f:Nat} {l:List Nt} (h:σ.at f 0=some ⟨0,0,[],some (.mp 2 (goneW l))⟩):Frz σ (.mp f) (.imap 2 (goneW l)) :=
  Frz.mp h rfl rfl (fun i hi=>rfl) fun i hi=>Frz.eq rfl (kenc_pv _ (fun _=>by simp) _ (getD_mem hi))
abbrev ordT (l:List Nt):List Nt:=l.filter fun a=>a.kind != 7
theorem standing_spec (l:List Nt) (hl:setSz l) (h400:l.length≤400) (hn:(l.map Nt.nm).Nodup) (ks:List Int) (q:AV) (hq:q=inS ks∨q=.v (.slice none 0 0)) :
    Pure Tryz.prog 88 [ntS l,q] (.fn (.func 158) [] [.iptr [ntS (srtT (ordT l))] 0,.iptr [.imap 2 (goneW l)] 0,.iptr [q] 0]):=by
  refine pB_ Tryz.call88 Tryz.func88 k88 ?_
  unfold c88
  have hl0:=hl.1
  rcases hq with rfl | rfl
  all_goals (
    ((refine Au ?_;repeat' constructor)<;>intros<;>refine hD_ ?_)
    refine AWPC.own0c 68 38 (f:=2) (i:=0) (e:=0) (j:=0) rfl (by simp) rfl ?_
    refine AWPC.loopE (α:={ x:Nat × Sto // x.1≤l.length }) [12] (fun x=>[(12,n x.1.1)])
      (fun x=>some [⟨0,0,[],some (.mp 2 (goneW (l.take x.1.1)))⟩]::some [⟨192,1,[[.mp 0]],none⟩]::some [⟨27,1,[[.own 3 0 (ordT (l.take x.1.1)).length]],none⟩]::some [⟨68,38,(ordT (l.take x.1.1)).map Nt.cs,none⟩]::x.1.2)
      (fun x=>l.length - x.1.1) ⟨(0,[]),by simp⟩ ?_ ?_ ?_
    · (simp only [zN,zT,zV,zS,zU,Q0,Q1,ex,Q2,Q3,Q4,Q5,Q6,Q7,Q8,Q9,QA,QB,QC,Nat.reduceBEq,reduceAdd,reduceSub,reduceLT,reduceLeDiff,reduceMul,reduceEqDiff,reduceIte]; try simp)
    · rfl
    · rintro ⟨⟨i,ν⟩,hi⟩
      simp only at hi
      by_cases hlt:i < l.length
      · have hs:(l.map Nt.cs).getD i []=Nt.cs (l.getD i default):=row default hlt
        have hg:=goneM_next (getD_lt default hlt)
        have ho:=filter_next (q:=fun a:Nt=>a.kind != 7) (getD_lt default hlt)
        have hlen:(ordT (l.take i)).length≤i:=Nat.le_trans (List.length_filter_le _ _) (by rw [List.length_take]; omega)
        generalize l.getD i default=a at hs hg ho
        by_cases hk:a.kind=7
        · rw [if_pos hk] at hg
          rw [show (a.kind != 7)=false by simp [hk]] at ho
          simp only [Bool.false_eq_true,if_false] at ho
          have hm:mset (goneW (l.take i)) [a.ref.clerk,a.ref.num] (bl true)=goneW (l.take (i+1)):=by rw [goneW,goneW,hg]; exact mset_kenc bl a.ref true _
          generalize goneW (l.take i)=M at hm
          generalize hM':goneW (l.take (i+1))=M' at hm
          generalize hO:ordT (l.take i)=O at hlen
          rw [show (l.take i).filter (fun a:Nt=>a.kind != 7)=O from hO] at ho
          ((refine Ax (And.intro @hs (And.intro @hk @hm)) ?_;repeat' constructor)<;>intros<;>refine hD_ ?_)
          all_goals try (exfalso;omega)
          exact ⟨⟨(i+1,ν++[some [⟨68,38,[a.cs],none⟩]]),hlt⟩,by simp,by simp only [hM',ordT,ho],by simp only; omega⟩
        · rw [if_neg hk] at hg
          rw [show (a.kind != 7)=true by simp [hk]] at ho
          simp only [if_true] at ho
          generalize hO:ordT (l.take i)=O at hlen
          rw [show (l.take i).filter (fun a:Nt=>a.kind != 7)=O from hO] at ho
          ((refine Ax @hs ?_;repeat' constructor)<;>intros<;>refine hD_ ?_)
          all_goals try (exfalso;omega)
          exact ⟨⟨(i+1,ν++[some [⟨68,38,[a.cs],none⟩]]),hlt⟩,by simp,by simp [goneW,hg,ordT,ho],by simp only; omega⟩
      · obtain rfl:i=l.length:=by omega
        rw [List.take_length]
        ((refine Au ?_;repeat' constructor)<;>intros<;>refine hD_ ?_)
        all_goals try (exfalso;omega)
        have hlen:(ordT l).length≤l.length:=List.length_filter_le _ _
        refine .inr (.inl ⟨_,_,_,_,rfl,fun _=>⟨sortT_does _ 3 (ordT l) rfl (by omega) (hn.sublist ((List.filter_sublist (l:=l)).map _)),?_⟩,fun h=>by cases h⟩)
        rintro r σ' rfl
        refine Zy ?_
        simp only [zN,zT,zV,zS,zU,Q0,Q1,ex,Q2,Q3,Q4,Q5,Q6,Q7,Q8,Q9,QA,QB,QC,Nat.reduceBEq,reduceAdd,reduceSub,reduceLT,reduceLeDiff,reduceMul,reduceEqDiff,reduceIte]
        ((refine Au ?_;repeat' constructor)<;>intros<;>refine hD_ ?_)
        refine Frz.fnL ⟨Frz.ptr rfl rfl (by simp) rfl ?_,Frz.ptr rfl rfl (by simp) rfl ?_,Frz.pure (by simp),trivial⟩
        · intro t ht
          obtain rfl:t=0:=by simpa using ht
          exact Frz.ownL (T:=68) rfl (srtT_perm _).length_eq (by decide) (fun a=>Nt.pc a) (fun a=>rfl)
        · intro t ht
          obtain rfl:t=0:=by simpa using ht
          exact goneW_frz rfl)
abbrev ntTr (l:List Nt):List (List AV):=l.map fun a=>[ntA a]
theorem filter_get {α:Type} {q:α→Bool} {l:List α} {i:Nat} {a:α} (h:l[i]?=some a) (hq:q a=true):(l.filter q)[((l.take i).filter q).length]?=some a:=by
  have e:l=l.take i++l.drop i:=(List.take_append_drop _ _).symm
  have h1:l.filter q=(l.take i).filter q++(l.drop i).filter q:=by rw [← List.filter_append,← e]
  rw [h1,List.getElem?_append_right (Nat.le_refl _),Nat.sub_self,drop_cons h,List.filter_cons,if_pos hq]; rfl
inductive DoneT (C:Nat) (J:Nat→Sto→Prop) (D:Sto→Prop) (m:Nat):Sto→Prop
  | mk (τ ν:Sto) {σ:Sto} (h:σ=τ++ν) (hC:τ.length=C) (hJ:J m τ∨D τ):DoneT C J D m σ
theorem DoneT.out {C:Nat} {J:Nat→Sto→Prop} {D:Sto→Prop} {m:Nat} {σ:Sto} (h:DoneT C J D m σ):∃ τ ν,σ=τ++ν∧τ.length=C∧(J m τ∨D τ):=by
  cases h with
  | mk τ ν h hC hJ=>exact ⟨τ,ν,h,hC,hJ⟩
theorem standing_iter (o:List Nt) (ho:o.length < 9223372036854775808) (W:List (List Int × AV)) (g:Nm→Bool) (hW:∀ m:Nm,mget W [m.clerk,m.num]=if g m=true then some (bl true) else none) (ks:List Int) (hks:ks.length < 9223372036854775808) (q:AV) (hq:q=inS ks∨q=.v (.slice none 0 0)∧ks=[]) :
    Iter Tryz.prog 158 [] [.iptr [ntS o] 0,.iptr [.imap 2 W] 0,.iptr [q] 0] (ntTr (o.filter fun a=>!g a.nm && (ks.isEmpty || ks.any fun x=>decide (a.kind=x)))):=by
  refine ⟨Tryz.call158,fun C y J D σ hy hC hJ hyield=>?_⟩
  generalize hp:(fun a:Nt=>!g a.nm && (ks.isEmpty || ks.any fun x=>decide (a.kind=x)))=p at hyield ⊢
  refine Does.mono (R:=fun _ σ2=>DoneT C J D (ntTr (o.filter p)).length σ2) ?_ fun _ _ h=>h.out
  refine dB_ Tryz.call158 Tryz.func158 k158 ?_
  unfold c158
  ((refine Au ?_;repeat' constructor)<;>intros<;>refine hD_ ?_)
  refine AWPC.loopE (α:={ x:Nat × Sto × Sto // x.1≤o.length∧x.2.1.length=C∧J ((o.take x.1).filter p).length x.2.1 }) [9] (fun x=>[(9,n x.1.1)]) (fun x=>x.1.2.1++x.1.2.2) (fun x=>o.length - x.1.1) ⟨(0,σ,[]),by simp,hC,hJ⟩ ?_ ?_ ?_
  · (simp only [zN,zT,zV,zS,zU,Q0,Q1,ex,Q2,Q3,Q4,Q5,Q6,Q7,Q8,Q9,QA,QB,QC,Nat.reduceBEq,reduceAdd,reduceSub,reduceLT,reduceLeDiff,reduceMul,reduceEqDiff,reduceIte]; try simp)
  · simp
  · rintro ⟨⟨k,τ,ν⟩,hk,hτ,hJk⟩
    simp only at hk hτ hJk
    by_cases hlt:k < o.length
    · have hs:(o.map Nt.cs).getD k []=Nt.cs (o.getD k default):=row default hlt
      have hget:=getD_lt default hlt
      have hnext:=filter_next (q:=p) hget
      have htr:p (o.getD k default)=true→(ntTr (o.filter p))[((o.take k).filter p).length]?=some [ntA (o.getD k default)]:=fun h=>by
        rw [ntTr,List.getElem?_map,filter_get hget h]; rfl
      have hpa:=congrFun hp (o.getD k default)
      generalize o.getD k default=a at hs hnext htr hpa
      have hw:=hW a.nm
      simp only at hw hpa
      have hc:=containsInt ks a.kind hks
      by_cases hg:g a.nm=true
      · rw [if_pos hg] at hw
        rw [hg] at hpa
        simp only [Bool.not_true,Bool.false_and] at hpa
        rw [if_neg (by rw [← hpa]; exact Bool.false_ne_true)] at hnext
        have hJ1:J ((o.take (k+1)).filter p).length τ:=by rw [hnext]; exact hJk
        rcases hq with rfl | ⟨rfl,rfl⟩
        · ((refine Az (And.intro @hs @hw) (And.intro (Zw a) @hc) ?_;repeat' constructor)<;>intros<;>refine hD_ ?_)
          all_goals try (exfalso;omega)
          exact ⟨⟨(k+1,τ,_),hlt,hτ,hJ1⟩,by simp,rfl,by simp only; omega⟩
        · ((refine Az (And.intro @hs @hw) (Zw a) ?_;repeat' constructor)<;>intros<;>refine hD_ ?_)
          all_goals try (exfalso;omega)
          exact ⟨⟨(k+1,τ,_),hlt,hτ,hJ1⟩,by simp,rfl,by simp only; omega⟩
      · rw [if_neg hg] at hw
        rw [show g a.nm=false by simpa using hg] at hpa
        simp only [Bool.not_false,Bool.true_and] at hpa
        have hyes:p a=true→J ((o.take k).filter p).length τ→YieldC Tryz.prog y [ntA a] (τ++(ν++[some [⟨68,38,[a.cs],none⟩]])) (fun b σ2=>∃ τ' ν',σ2=τ'++((ν++[some [⟨68,38,[a.cs],none⟩]])++ν')∧τ'.length=C∧(b=true→J ((o.take (k+1)).filter p).length τ')∧(b=false→D τ')):=fun h hj=>by
          rw [hnext,if_pos h,List.length_append]
          exact hyield _ _ τ _ (htr h) hτ hj
        have hno:p a=false→J ((o.take (k+1)).filter p).length τ:=fun h=>by rw [hnext,h]; exact hJk
        rcases Nat.eq_zero_or_pos ks.length with h0 | h0
        · obtain rfl:ks=[]:=List.length_eq_zero_iff.1 h0
          rcases hq with rfl | ⟨rfl,_⟩
          · simp only [List.isEmpty_nil,Bool.true_or] at hpa
            ((refine Az (And.intro @hs @hw) (Zw a) ?_;repeat' constructor)<;>intros<;>refine hD_ ?_)
            all_goals try (exfalso;omega)
            refine .inr (.inr ⟨y,_,rfl,fun _=>⟨hyes hpa.symm hJk,?_⟩,fun h=>by cases h⟩)
            rintro b σ' ⟨τ',ν',rfl,hτ',hb1,hb2⟩
            refine Zy ?_
            simp only [zN,zT,zV,zS,zU,Q0,Q1,ex,Q2,Q3,Q4,Q5,Q6,Q7,Q8,Q9,QA,QB,QC,Nat.reduceBEq,reduceAdd,reduceSub,reduceLT,reduceLeDiff,reduceMul,reduceEqDiff,reduceIte]
            cases b with
            | false =>
              ((refine Au ?_;repeat' constructor)<;>intros<;>refine hD_ ?_)
              exact DoneT.mk τ' _ rfl hτ' (.inr (hb2 rfl))
            | true =>
              ((refine Au ?_;repeat' constructor)<;>intros<;>refine hD_ ?_)
              exact ⟨⟨(k+1,τ',_),hlt,hτ',hb1 rfl⟩,by simp,rfl,by simp only; omega⟩
          · simp only [List.isEmpty_nil,Bool.true_or] at hpa
            ((refine Az (And.intro @hs @hw) (Zw a) ?_;repeat' constructor)<;>intros<;>refine hD_ ?_)
            all_goals try (exfalso;omega)
            refine .inr (.inr ⟨y,_,rfl,fun _=>⟨hyes hpa.symm hJk,?_⟩,fun h=>by cases h⟩)
            rintro b σ' ⟨τ',ν',rfl,hτ',hb1,hb2⟩
            refine Zy ?_
            simp only [zN,zT,zV,zS,zU,Q0,Q1,ex,Q2,Q3,Q4,Q5,Q6,Q7,Q8,Q9,QA,QB,QC,Nat.reduceBEq,reduceAdd,reduceSub,reduceLT,reduceLeDiff,reduceMul,reduceEqDiff,reduceIte]
            cases b with
            | false =>
              ((refine Au ?_;repeat' constructor)<;>intros<;>refine hD_ ?_)
              exact DoneT.mk τ' _ rfl hτ' (.inr (hb2 rfl))
            | true =>
              ((refine Au ?_;repeat' constructor)<;>intros<;>refine hD_ ?_)
              exact ⟨⟨(k+1,τ',_),hlt,hτ',hb1 rfl⟩,by simp,rfl,by simp only; omega⟩
        · obtain rfl:q=inS ks:=hq.elim id fun h=>by rw [h.2] at h0; simp at h0
          have he:ks.isEmpty=false:=by cases ks <;> simp at h0 ⊢
          rw [he] at hpa
          simp only [Bool.false_or] at hpa
          rw [hpa] at hc
          cases hct:p a with
          | true =>
            rw [hct] at hc hpa
            ((refine Az (And.intro @hs @hw) (And.intro (Zw a) @hc) ?_;repeat' constructor)<;>intros<;>refine hD_ ?_)
            all_goals try (exfalso;omega)
            refine .inr (.inr ⟨y,_,rfl,fun _=>⟨hyes hct hJk,?_⟩,fun h=>by cases h⟩)
            rintro b σ' ⟨τ',ν',rfl,hτ',hb1,hb2⟩
            refine Zy ?_
            simp only [zN,zT,zV,zS,zU,Q0,Q1,ex,Q2,Q3,Q4,Q5,Q6,Q7,Q8,Q9,QA,QB,QC,Nat.reduceBEq,reduceAdd,reduceSub,reduceLT,reduceLeDiff,reduceMul,reduceEqDiff,reduceIte]
            cases b with
            | false =>
              ((refine Au ?_;repeat' constructor)<;>intros<;>refine hD_ ?_)
              exact DoneT.mk τ' _ rfl hτ' (.inr (hb2 rfl))
            | true =>
              ((refine Au ?_;repeat' constructor)<;>intros<;>refine hD_ ?_)
              exact ⟨⟨(k+1,τ',_),hlt,hτ',hb1 rfl⟩,by simp,rfl,by simp only; omega⟩
          | false =>
            rw [hct] at hc
            have hJ1:=hno hct
            ((refine Az (And.intro @hs @hw) (And.intro (Zw a) @hc) ?_;repeat' constructor)<;>intros<;>refine hD_ ?_)
            all_goals try (exfalso;omega)
            exact ⟨⟨(k+1,τ,_),hlt,hτ,hJ1⟩,by simp,rfl,by simp only; omega⟩
    · obtain rfl:k=o.length:=by omega
      ((refine Au ?_;repeat' constructor)<;>intros<;>refine hD_ ?_)
      all_goals try (exfalso;omega)
      exact DoneT.mk τ _ rfl hτ (.inl (by simpa using hJk))
end Go.Proofs.YtolgelipcgcbhaaGreat
namespace Go.Abs
set_option linter.unusedVariables false
set_option linter.unusedSimpArgs false
theorem pairwise_next {α:Type} {R:α→α→Prop} (tr:∀ a b c,R a b→R b c→R a c) {l:List α} (h:∀ i a b,l[i]?=some a→l[i+1]?=some b→R a b):l.Pairwise R:=by
  rw [List.pairwise_iff_getElem]
  intro i j hi hj hij
  obtain ⟨d,rfl⟩:∃ d,j=i+1+d:=⟨j - (i+1),by omega⟩
  clear hij
  induction d with
  | zero=>exact h i _ _ (List.getElem?_eq_getElem hi) (List.getElem?_eq_getElem hj)
  | succ d ih=>exact tr _ _ _ (ih (by omega)) (h (i+1+d) _ _ (List.getElem?_eq_getElem (by omega)) (List.getElem?_eq_getElem hj))
theorem setE_ok {b:Bse} {l:List Nt} (h:(setE b l).1=0):b.ok∧l.length≤400∧(∀ a∈l,a.ok b)∧(l.map Nt.nm).Pairwise (fun x y=>cmpN x y < 0):=by
  unfold setE at h
  split at h
  · simp at h
  rename_i hb
  split at h
  · simp at h
  rename_i hlen
  rw [firstE_zero] at h
  refine ⟨Decidable.not_not.1 hb,by omega,fun a ha=>?_,?_⟩
  · obtain ⟨i,hi,rfl⟩:=List.mem_iff_getElem.1 ha
    have h1:=h i hi
    unfold ntE at h1
    simp only at h1
    split at h1
    · omega
    rename_i h2
    rw [List.getD_eq_getElem?_getD,List.getElem?_eq_getElem hi] at h2
    exact Decidable.not_not.1 h2
  · rw [List.pairwise_map]
    refine pairwise_next (fun x y z=>by simp only [cmpN_lt]; omega) fun i x y hx hy=>?_
    have hi:=(List.getElem?_eq_some_iff.1 hy).1
    have h1:=h (i+1) hi
    unfold ntE at h1
    simp only [Nat.add_sub_cancel,List.getD_eq_getElem?_getD,hx,hy,Option.getD_some] at h1
    split at h1
    · omega
    split at h1
    · omega
    split at h1
    · omega
    split at h1
    · omega
    omega
theorem setE_nodup {b:Bse} {l:List Nt} (h:(setE b l).1=0):(l.map Nt.nm).Nodup:=by
  refine (setE_ok h).2.2.2.imp fun h e=>?_
  rw [e] at h
  have:=(@cmpN_lt _ _).1 h
  omega
theorem askedE_ok {b:Bse} {ls:List (List Nt)} (h:askedE b ls=0):b.ok∧∀ l∈ls,(setE b l).1=0:=by
  unfold askedE at h
  split at h
  · simp at h
  rename_i hb
  refine ⟨Decidable.not_not.1 hb,fun l hl=>?_⟩
  split at h
  · rename_i h2
    have:=List.all_eq_true.1 h2 l hl
    simpa using this
  · simp at h
theorem standT_sub (l:List Nt):∀ a∈Zf l,a∈l:=by
  intro a ha
  unfold Zf at ha
  have h1:=(List.mem_filter.1 ha).1
  exact (List.mem_filter.1 ((srtT_perm _).mem_iff.1 h1)).1
theorem std_tr (l:List Nt) (ks:List Int):(srtT (l.filter fun a=>a.kind != 7)).filter (fun a=>!goneT l a.nm && (ks.isEmpty || ks.any fun x=>decide (a.kind=x)))=standK l ks:=by
  unfold standK Zf
  rw [List.filter_filter]
  congr 1
  funext a
  have:ks.contains a.kind=ks.any fun x=>decide (a.kind=x):=by
    induction ks with
    | nil=>rfl
    | cons x r ih=>rw [List.contains_cons,List.any_cons,ih]; rfl
  rw [this,Bool.and_comm]
theorem standT_len (l:List Nt):(Zf l).length≤l.length:=by
  unfold Zf
  exact Nat.le_trans (List.length_filter_le _ _) (by rw [(srtT_perm _).length_eq]; exact List.length_filter_le _ _)
theorem standK_len (l:List Nt) (ks:List Int):(standK l ks).length≤l.length:=Nat.le_trans (List.length_filter_le _ _) (standT_len l)
theorem standT_nodup {l:List Nt} (h:(l.map Nt.nm).Nodup):((Zf l).map Nt.nm).Nodup:=by
  unfold Zf
  refine List.Nodup.sublist ((List.filter_sublist).map _) ?_
  rw [((srtT_perm _).map _).nodup_iff]
  exact h.sublist ((List.filter_sublist).map _)
end Go.Abs
namespace Go.Proofs.YtolgelipcgcbhaaGreat
open Go.Abs
open Nat (reduceAdd reduceSub reduceLT reduceLeDiff reduceMul reduceEqDiff)
set_option linter.unusedVariables false
set_option linter.unusedSimpArgs false
set_option maxHeartbeats 4000000
set_option maxRecDepth 100000
theorem stand_iter (l:List Nt) (h400:l.length≤400) (ks:List Int) (hks:ks.length < 9223372036854775808) (q:AV) (hq:q=inS ks∨q=.v (.slice none 0 0)∧ks=[]) :
    Iter Tryz.prog 158 [] [.iptr [ntS (srtT (ordT l))] 0,.iptr [.imap 2 (goneW l)] 0,.iptr [q] 0] (ntTr (standK l ks)):=by
  rw [← std_tr]
  have h1:(srtT (ordT l)).length≤l.length:=by rw [(srtT_perm _).length_eq]; exact List.length_filter_le _ _
  refine standing_iter _ (by omega) _ (goneT l) (fun m=>?_) ks hks q hq
  have h2:=mget_kenc bl m (goneM l)
  rw [kget_goneM] at h2
  rw [show mget (goneW l) [m.clerk,m.num]=mget (kenc bl (goneM l)) m.ky from rfl,h2]
  split <;> rfl
theorem ntTr_get {l:List Nt} {k:Nat} {args:List AV} (h:(ntTr l)[k]?=some args):∃ a,l[k]?=some a∧args=[ntA a]:=by
  simp only [ntTr,List.getElem?_map] at h
  cases hg:l[k]? with
  | none=>rw [hg] at h; cases h
  | some a=>rw [hg] at h; injection h with h; exact ⟨a,rfl,h.symm⟩
end Go.Proofs.YtolgelipcgcbhaaGreat
namespace Go.Proofs.YtolgelipcgcbhaaGreat
open Go.Abs
open Nat (reduceAdd reduceSub reduceLT reduceLeDiff reduceMul reduceEqDiff)
open Go.Abs renaming vcC→Q0,lateX→Q1,strp→Q2,binA→Q3,elems→Q4,cells→Q5,scalar→Q6,eqC→Q7,keyA→Q8,intsA→Q9,lookA→QA,ofVs→QB,mpOf→QC
set_option linter.unusedVariables false
set_option linter.unusedSimpArgs false
set_option maxHeartbeats 4000000
set_option maxRecDepth 100000
def c25:CF:=⟨44,(jo [jx 3 26 6 0,jx 5 29 2 2,jn 6,jc 7 0] [1,3,5]
 (.seq (jo [jk 12 6 3,jm 13 1,jw 14 (.bsl false 27 1 1 [.slice none 0 0] [(0,1,(.t 13))]),jy 15 80 [12,14],jm 8 15] [1,5,8]
 (jo [jm 16 8,ju .neq 17 16 0] [1,5,8,17]
 (.cond (.t 17) (jo [jm 18 8,jn 6,jm 7 18] [6,7]
 .ret)
 .skip)))
 (jo [jc 9 0] [1,5]
 (.seq (.seq (.draw [jm 19 1,jy 20 87 [19],jk 21 2 5,jw 22 (.look 2 true z38 false (.t 20) (.t 21)),jw 23 (.field 4 none (.t 22))] [] [1,5,23])
 (.block 0 (jo [ju .eql 25 23 1,jm 24 25] [1,5,23,24]
 (.cond (.t 24) (.ops [jc 9 5] [1,5,9])
 (.seq (jo [ju .eql 27 23 2,jm 26 27] [1,5,23,26]
 (.cond (.t 26) .skip
 (.ops [ju .eql 28 23 3,jm 26 28] [1,5,26])))
 (.cond (.t 26) (.ops [jc 9 6] [1,5,9])
 (jo [jn 6,jc 7 3] [6,7]
 .ret)))))))
 (jo [jw 10 (.alloc 35 1 [.slice none 0 0])] [1,5,9,10]
 (.seq (jo [jm 29 1,jm 30 9,jw 31 (.bsl false 3 1 1 [.int .i64 0] [(0,1,(.t 30))]),jy 32 88 [29,31]] [5,10,32]
 (.block 1 (.rng (.t 32) [33] (.ops [jw 11 (.alloc 68 38 z38),js 38 11 33] [5,10,11])
 (.block 2 (jo [jf 34 36 11,jk 35 2 34,jk 36 2 5,jw 37 (.eqs false [some .i64,some .i64] (.t 35) (.t 36))] [5,10,11,37]
 (.cond (.t 37) (.draw [jl 38 10,jk 39 38 11,jy 40 89 [39],jw 41 (.bsl false 29 2 1 [.int .i64 0,.int .i64 0] [(0,2,(.t 40))])] [jw 42 (.app 29 2 16 (.t 38) (.t 41)),js 1 10 42] [5,10])
 .skip))))))
 (jo [jl 43 10,jm 6 43,jc 7 0] [6,7]
 .ret))))))),[.t 6,.t 7]⟩
theorem k25:chkF Tryz.prog Tryz.f25 c25=true:=by kernel_rfl
theorem ref_iff {a:Nt} {m:Nm}:(a.ref == m)=decide (a.ref.clerk=m.clerk∧a.ref.num=m.num):=by
  generalize a.ref=r
  cases r; cases m
  rw [Bool.eq_iff_iff]
  simp
theorem Chain_spec (b:Bse) (hb:bseSz b) (l:List Nt) (hl:setSz l) (m:Nm):Pure Tryz.prog 25 [.agg b.cs,ntS l,.agg m.cs] (.tup [nmS (chainE b l m).1,n (chainE b l m).2]):=by
  refine pB_ Tryz.call25 Tryz.func25 k25 ?_
  unfold c25
  have h1:=asked_spec b hb [l] (by simp) (by simpa using hl)
  by_cases ha:askedE b [l]=0
  · rw [ha] at h1
    have hok:=(askedE_ok ha).2 l (by simp)
    have h400:=(setE_ok hok).2.1
    have hby:=byName_spec l hl
    have hA:=mget_kenc ntA m (byName l)
    cases hg:kget (byName l) m with
    | none =>
      rw [hg] at hA
      simp only [Nm.ky,Option.map_none] at hA
      have hE:chainE b l m=([],3):=by unfold chainE; rw [if_neg (by omega),hg]; rfl
      rw [hE]
      ((refine Az @hA (And.intro @h1 @hby) ?_;repeat' constructor)<;>intros<;>refine hD_ ?_)
      all_goals try (exfalso;omega)
      all_goals exact Frz.tupL ⟨Frz.nil0,Frz.pure (by simp),trivial⟩
    | some a =>
      rw [hg] at hA
      simp only [Nm.ky,Option.map_some] at hA
      by_cases hk:a.kind=1∨a.kind=2∨a.kind=3
      · obtain ⟨k,hkk⟩:∃ k:Int,k=if a.kind=1 then 5 else 6:=⟨_,rfl⟩
        have hE:chainE b l m=(((standK l [k]).filter fun a=>a.ref == m).map Nt.nm,0):=by unfold chainE; simp only [hg,Option.getD_some]; rw [if_neg (by omega),if_pos hk,hkk]
        rw [hE]
        have hit:=stand_iter l h400 [k] (by simp) (inS [k]) (.inl rfl)
        have h2:=standing_spec l hl h400 (setE_nodup hok) [k] (inS [k]) (.inl rfl)
        have hlen:=standK_len l [k]
        generalize standK l [k]=S at hit hlen
        have hsw:(a.kind=1∧k=5)∨(a.kind=2∧k=6)∨(a.kind=3∧k=6):=by
          rcases hk with h | h | h
          · rw [if_pos h] at hkk; exact .inl ⟨h,hkk⟩
          · rw [if_neg (by omega)] at hkk; exact .inr (.inl ⟨h,hkk⟩)
          · rw [if_neg (by omega)] at hkk; exact .inr (.inr ⟨h,hkk⟩)
        clear hkk hk
        rcases hsw with ⟨hk,rfl⟩ | ⟨hk,rfl⟩ | ⟨hk,rfl⟩
        all_goals (
          ((refine Az (And.intro @hA @hk) (And.intro @h1 (And.intro @hby @h2)) ?_;repeat' constructor)<;>intros<;>refine hD_ ?_)
          all_goals try (exfalso;omega)
          refine AWPC.own0c 29 2 (f:=0) (i:=0) (e:=0) (j:=0) rfl (by simp) rfl ?_
          refine AWPC.rng (fun R:{ R:List Nt // R.length≤S.length }=>[some [⟨35,1,[[.own 1 0 R.1.length]],none⟩],some [⟨29,2,R.1.map (fun a=>Nm.cs a.nm),none⟩]]) 2 (fun _=>rfl) (fun k x=>x.1=(S.take k).filter fun a=>a.ref == m) (fun _ _=>False) (ntTr S) ⟨[],Nat.zero_le _⟩
            rfl rfl rfl hit (fun k args h=>?_) (fun k x args ll ρ τ hk hx=>?_) (fun x τ hx=>?_) (fun _ _ _ h=>h.elim)
          · obtain ⟨a,_,rfl⟩:=ntTr_get h
            rfl
          · obtain ⟨R,hR⟩:=x
            simp only at hx
            obtain ⟨a,hs,rfl⟩:=ntTr_get hk
            have hnx:=filter_next (q:=fun a:Nt=>a.ref == m) hs
            have hRl:((S.take (k+1)).filter fun a:Nt=>a.ref == m).length≤S.length:=Nat.le_trans (List.length_filter_le _ _) (by rw [List.length_take]; omega)
            rw [← hx,ref_iff] at hnx
            simp only [par]
            generalize hM:(R.map fun a=>Nm.cs a.nm)=M
            have hMl:M.length=R.length:=by rw [← hM,List.length_map]
            simp only [hM,List.append_assoc,List.cons_append,List.nil_append]
            ((refine Au ?_;repeat' constructor)<;>intros<;>refine hD_ ?_)
            refine ⟨⟨R,hR⟩,[some [⟨68,38,[a.cs],none⟩]],by simp [hM],fun ρ'=>?_⟩
            simp only [List.append_assoc,List.cons_append,List.nil_append,hM]
            by_cases hrf:a.ref.clerk=m.clerk∧a.ref.num=m.num
            · rw [decide_eq_true hrf] at hnx
              simp only [if_true] at hnx
              ((refine Az (And.intro @hMl @hrf) (Zw a) ?_;repeat' constructor)<;>intros<;>refine hD_ ?_)
              all_goals try (exfalso;omega)
              refine ⟨⟨R++[a],by rw [← hnx]; exact hRl⟩,[],?_,hnx.symm⟩
              simp [← hM]
            · rw [decide_eq_false hrf] at hnx
              simp only [Bool.false_eq_true,if_false] at hnx
              ((refine Az (And.intro @hMl @hrf) (Zw a) ?_;repeat' constructor)<;>intros<;>refine hD_ ?_)
              all_goals try (exfalso;omega)
              refine ⟨⟨R,hR⟩,[],?_,hnx.symm⟩
              simp [← hM]
          · obtain ⟨R,hR⟩:=x
            simp only at hx
            have hll:(ntTr S).length=S.length:=by simp [ntTr]
            rw [hll,List.take_length] at hx
            simp only [zN,zT,zV,zS,zU,Q0,Q1,ex,Q2,Q3,Q4,Q5,Q6,Q7,Q8,Q9,QA,QB,QC,Nat.reduceBEq,reduceAdd,reduceSub,reduceLT,reduceLeDiff,reduceMul,reduceEqDiff,reduceIte]
            ((refine Au ?_;repeat' constructor)<;>intros<;>refine hD_ ?_)
            rw [← hx]
            exact Frz.tupL ⟨by rw [nmS,List.map_map]; exact Frz.ownL (T:=29) (cs:=fun a:Nt=>Nm.cs a.nm) rfl rfl (by decide) (fun a c hc=>by simp at hc; rcases hc with rfl | rfl <;> simp) (fun a=>rfl),Frz.pure (by simp),trivial⟩)
      · have hE:chainE b l m=([],3):=by unfold chainE; simp only [hg,Option.getD_some]; rw [if_neg (by omega),if_neg hk]
        rw [hE]
        have hk1:¬ a.kind=1:=fun h=>hk (.inl h)
        have hk2:¬ a.kind=2:=fun h=>hk (.inr (.inl h))
        have hk3:¬ a.kind=3:=fun h=>hk (.inr (.inr h))
        ((refine Az (And.intro @hA (And.intro @hk1 (And.intro @hk2 @hk3))) (And.intro @h1 @hby) ?_;repeat' constructor)<;>intros<;>refine hD_ ?_)
        all_goals try (exfalso;omega)
        all_goals exact Frz.tupL ⟨Frz.nil0,Frz.pure (by simp),trivial⟩
  · have hE:chainE b l m=([],askedE b [l]):=by unfold chainE; rw [if_pos ha]
    rw [hE]
    ((refine Ay @h1 ?_;repeat' constructor)<;>intros<;>refine hD_ ?_)
    all_goals try (exfalso;omega)
    exact Frz.tupL ⟨Frz.nil0,Frz.pure (by simp),trivial⟩
end Go.Proofs.YtolgelipcgcbhaaGreat
namespace Go.Abs
set_option linter.unusedVariables false
set_option linter.unusedSimpArgs false
structure Emb (L:Nat) (X:Nat→Prop) (β:Blk) (σ:Sto) (X2:Nat→Prop) (β2:Blk) (σ2:Sto):Prop where
  len:σ2.length=L+σ.length
  obj:∀ f i o2,σ2.at (L+f) i=some o2→∃ o,σ.at f i=some o∧o2.k=o.k∧o2.es.length=o.es.length
  blk:∀ f i,β2 (L+f) i=β f i
  sub:∀ b,X2 b→X b
def Shf (L:Nat) (v v':AV):Prop:=∀ w X β σ X2 β2 σ2 x,Emb L X β σ X2 β2 σ2→RV w X β σ v x→RV w X2 β2 σ2 v' x
section
variable {L:Nat}
structure ShfS (L:Nat) (ν ν':Sto):Prop where
  len:ν'.length=ν.length
  obj:∀ f i o2,ν'.at f i=some o2→∃ o,ν.at f i=some o∧o2.T=o.T∧o2.k=o.k∧o.lp=none∧o2.lp=none∧o2.es.length=o.es.length∧(∀ e,e < o2.es.length→(o2.es.getD e []).length=o2.k) ∧
    ∀ e j,e < o2.es.length→j < o2.k→Shf L ((o.es.getD e []).getD j .any) ((o2.es.getD e []).getD j .any)
end
section
variable {P:Program} {N:Nat} {rd:Option Nat} {K:Kont} {σ:Sto}
theorem at_gone_ne {σ:Sto} {f g i:Nat} (h:g≠f):(gone σ f).at g i=σ.at g i:=by
  unfold gone Sto.at
  rw [List.getElem?_set_ne (fun e=>h e.symm)]
theorem AWPC.freezeC {f n h e j:Nat} {o oh:Ob} {c:C} {env:Env} (ho:σ.at f 0=some o) (hn:o.es.length=n) (hk0:o.k≠0) (hh:σ.at h 0=some oh) (hne:h≠f) (hlp:oh.lp=none)
    (he:e < oh.es.length) (hj:(oh.es.getD e [])[j]?=some (.own f 0 n))
    (hc:AWPC P N rd c K env ((gone σ f).upd h 0 { oh with es:=oh.es.set e ((oh.es.getD e []).set j (.sl o.k o.es)) })):AWPC P N rd c K env σ:=by
  intro code hcode n0 X β a w hst
  have E1:Ext w β σ w β (gone σ f):=⟨Nat.le_refl _,fun _ _ _=>rfl,fun b ⟨g,i,o,ho,hb⟩=>.inl ⟨g,i,o,(at_gone ho).2,hb⟩,Still.refl w⟩
  have K1:Kp w (Xt X β σ) β σ w (Xt X β (gone σ f)) β (gone σ f) :=
    ⟨Nat.le_refl _,fun _ _ _ _ _=>rfl,fun b _ hx=>Xt_gone b hx,by simp,fun g i o' _ ho'=>⟨o',(at_gone ho').2,rfl,Nat.le_refl _,fun _=>⟨rfl,fun b _=>SameSize.refl w b⟩⟩⟩
  have hob0:=hst.sr.obj h 0 oh hh
  have S1:=hst.sr.toGone (f:=f)
  have hst1:=hst.tr S1 E1 K1
  have hh1:(gone σ f).at h 0=some oh:=by rw [at_gone_ne hne]; exact hh
  have hob:=S1.obj h 0 oh hh1
  generalize ho':({ oh with es:=oh.es.set e ((oh.es.getD e []).set j (.sl o.k o.es)) }:Ob)=o' at hc
  have ek:o'.k=oh.k:=by rw [← ho']
  have eT:o'.T=oh.T:=by rw [← ho']
  have elp:o'.lp=oh.lp:=by rw [← ho']
  have ees:o'.es=oh.es.set e ((oh.es.getD e []).set j (.sl o.k o.es)):=by rw [← ho']
  have hlen:oh.es.length=o'.es.length:=by rw [ees]; simp
  have ht:Turn w β h 0 (β h 0) w:=⟨Nat.le_refl _,fun _ _ _=>rfl,fun b hb=>.inl hb,Still.refl w⟩
  have hsame:oh.es.length=o'.es.length→β h 0=β h 0∧∀ b,β h 0=some b→SameSize w w b:=fun _=>⟨rfl,fun b _=>SameSize.refl w b⟩
  have K2:=Kp.turn (o':=o') S1 hh1 ht ek.symm (Nat.le_of_eq hlen) hsame
  have E2:Ext w β (gone σ f) w (mvB β h 0 (β h 0)) ((gone σ f).upd h 0 o'):=Ext.turn hh1 ht
  have hrow:∀ e',(o'.es.getD e' []).length=(oh.es.getD e' []).length:=by
    intro e'
    simp only [ees,List.getD_eq_getElem?_getD,List.getElem?_set]
    split
    · rename_i h; subst h; simp [he]
    · rfl
  have S2:=S1.turn (o':=o') hst1.bd hh1 ht ek.symm (Nat.le_of_eq hlen) hsame (by
    refine ⟨fun e' he'=>by rw [hrow,ek]; exact hob.1 e' (by omega),?_⟩
    have h2:=hob.2
    have h20:=hob0.2
    cases hb:β h 0 with
    | none=>rw [hb] at h2; rw [h2.1] at he; exact absurd he (Nat.not_lt_zero _)
    | some b =>
      rw [hb] at h2 h20
      refine ⟨fun _=>?_,fun r hr=>by rw [elp,hlp] at hr; cases hr⟩
      obtain ⟨c,hcc,hle,h1,hr⟩:=h2.1 hlp
      obtain ⟨c',hcc',_,_,hr0⟩:=h20.1 hlp
      rw [hcc] at hcc'; injection hcc' with hcc'; injection hcc' with hcc'; subst hcc'
      refine ⟨c,by rw [eT]; exact hcc,by rw [← hlen,ek]; exact hle,fun e' j' he' hj'=>by rw [ek]; exact h1 e' j' (by omega) (by omega),fun e' j' he' hj'=>?_⟩
      rw [ek]
      have h3:=hr e' j' (by omega) (by omega)
      have h4:=h3.tr K2
      rw [hb] at h4
      by_cases hq:e'=e∧j'=j
      · obtain ⟨rfl,rfl⟩:=hq
        have hjl:=(List.getElem?_eq_some_iff.1 hj).1
        have hv:(o'.es.getD e' []).getD j' .any=.sl o.k o.es:=by
          have h5:o'.es.getD e' []=(oh.es.getD e' []).set j' (.sl o.k o.es):=by
            simp only [ees,List.getD_eq_getElem?_getD,List.getElem?_set_self he,Option.getD_some]
          rw [h5,List.getD_eq_getElem?_getD,List.getElem?_set_self hjl]; rfl
        rw [hv]
        have h6:=hr0 e' j' he (by omega)
        have h7:(oh.es.getD e' []).getD j' .any=.own f 0 n:=by rw [List.getD_eq_getElem?_getD,hj]; rfl
        rw [h7] at h6
        have h8:=(h6.froze hst.sr ho hn hk0).tr K2
        rw [hb] at h8
        exact h8
      · have:(o'.es.getD e' []).getD j' .any=(oh.es.getD e' []).getD j' .any:=by
          simp only [ees,List.getD_eq_getElem?_getD,List.getElem?_set]
          split
          · rename_i hee
            subst hee
            simp only [he,if_true,Option.getD_some,List.getElem?_set]
            rw [if_neg fun hjj=>hq ⟨rfl,hjj.symm⟩]
          · rfl
        rw [this]; exact h4)
  exact wpIn_mono (hc code hcode n0 X _ a w (hst1.tr S2 E2 K2)) fun e a w hp=>hp.trans (E1.trans E2) (K1.trans K2)
end
section
variable {P:Program} {N:Nat} {rd:Option Nat} {K:Kont} {σ:Sto}
theorem AWPC.own0F (T k m:Nat) {c:C} {env:Env} (h:AWPC P N rd c K env (σ++[some (List.replicate m ⟨T,k,[],none⟩)])):AWPC P N rd c K env σ:=by
  intro code hc n0 X β a w hst
  let β1:Blk:=fun f i=>if f=σ.length then none else β f i
  have hold:∀ {f i:Nat},f < σ.length→β1 f i=β f i:=fun hf=>if_neg (by omega)
  have hat:∀ {f i:Nat} {o:Ob},Sto.at (σ++[some (List.replicate m (⟨T,k,[],none⟩:Ob))]) f i=some o→(f < σ.length∧σ.at f i=some o)∨(f=σ.length∧o=⟨T,k,[],none⟩):=by
    intro f i o ho
    have hlt:=at_lt ho
    simp at hlt
    by_cases hf:f < σ.length
    · rw [at_push_old σ _ hf] at ho; exact .inl ⟨hf,ho⟩
    · obtain rfl:f=σ.length:=by omega
      unfold Sto.at at ho
      rw [List.getElem?_append_right (Nat.le_refl _)] at ho
      simp only [Nat.sub_self,List.getElem?_cons_zero] at ho
      have:=List.mem_of_getElem? ho
      exact .inr ⟨rfl,(List.mem_replicate.1 this).2⟩
  generalize hσ:(σ++[some (List.replicate m (⟨T,k,[],none⟩:Ob))]:Sto)=σ1 at h hat
  have hlen:σ.length≤σ1.length:=by rw [← hσ]; simp
  have hs:=hst.sr
  have hown:∀ b,owned β1 σ1 b→owned β σ b:=by
    rintro b ⟨f,i,o,ho,hb⟩
    rcases hat ho with ⟨hf,ho⟩ | ⟨rfl,rfl⟩
    · exact ⟨f,i,o,ho,by rw [← hold hf]; exact hb⟩
    · exact absurd hb (by simp [β1])
  have K1:Kp w (Xt X β σ) β σ w (Xt X β1 σ1) β1 σ1:=by
    refine ⟨Nat.le_refl _,fun _ _ _ _ _=>rfl,fun b _ hx=>hx.imp id (hown b),hlen,fun f i o' hf ho'=>?_⟩
    rcases hat ho' with ⟨_,ho⟩ | ⟨h1,_⟩
    · exact ⟨o',ho,rfl,Nat.le_refl _,fun _=>⟨hold hf,fun b _=>SameSize.refl w b⟩⟩
    · omega
  have E1:Ext w β σ w β1 σ1:=⟨Nat.le_refl _,fun _ _ _=>rfl,fun b hb=>.inl (hown b hb),Still.refl w⟩
  have S1:SRel w X β1 σ1:=by
    refine ⟨fun f i f' i' o o' b h1 h2 h3 h4=>?_,fun f i o b h1 h2=>?_,fun f i o h1=>?_⟩
    · rcases hat h1 with ⟨g1,k1⟩ | ⟨rfl,_⟩
      · rcases hat h2 with ⟨g2,k2⟩ | ⟨rfl,_⟩
        · rw [hold g1] at h3; rw [hold g2] at h4
          exact hs.inj f i f' i' o o' b k1 k2 h3 h4
        · exact absurd h4 (by simp [β1])
      · exact absurd h3 (by simp [β1])
    · rcases hat h1 with ⟨g1,k1⟩ | ⟨rfl,_⟩
      · rw [hold g1] at h2; exact hs.dis f i o b k1 h2
      · exact absurd h2 (by simp [β1])
    · rcases hat h1 with ⟨g1,k1⟩ | ⟨rfl,rfl⟩
      · rw [hold g1]; exact (hs.obj f i o k1).tr K1 fun b hb=>rfl
      · rw [show β1 σ.length i=none by simp [β1]]
        exact ⟨fun e he=>absurd he (Nat.not_lt_zero _),rfl,rfl⟩
  exact wpIn_mono (h code hc n0 X _ a w (hst.tr S1 E1 K1)) fun e a w hp=>hp.trans E1 K1
def Renm (h n f i:Nat):List (List Int × AV)→List (List Int × AV)→Prop
  | [],[]=>True
  | x::r,y::s=>x.1=y.1∧(y.2=x.2∨x.2=.own h 0 n∧y.2=.own f i n)∧Renm h n f i r s
  | _,_=>False
theorem MpRel.renm {w:World} {X X':Nat→Prop} {β β':Blk} {σ σ':Sto} {h n f i nk:Nat} (K:Kp w X β σ w X' β' σ') (hr:∀ x,RV w X β σ (.own h 0 n) x→RV w X' β' σ' (.own f i n) x) :
    ∀ {m m':List (List Int × AV)} {es:List MapEntry},Renm h n f i m m'→MpRel w X β σ nk m es→MpRel w X' β' σ' nk m' es
  | [],[],[],_,_=>trivial
  | x::r,y::s,e::es,h1,h2=>by
    obtain ⟨g1,g2,g3⟩:=h1
    obtain ⟨k1,k2,k3,k4⟩:=h2
    refine ⟨by rw [← g1]; exact k1,by rw [← g1]; exact k2,?_,MpRel.renm K hr g3 k4⟩
    rcases g2 with g2 | ⟨g2,g4⟩
    · rw [g2]; exact k3.tr K
    · rw [g2] at k3; rw [g4]; exact hr _ k3
  | [],[],_::_,_,h=>h.elim
  | _::_,_::_,[],_,h=>h.elim
  | [],_::_,_,h,_=>h.elim
  | _::_,[],_,h,_=>h.elim
theorem AWPC.tuckM {h f i m nk n:Nat} {o p om:Ob} {es es':List (List Int × AV)} {c:C} {env:Env} (ho:σ.at h 0=some o) (hlp:o.lp=none) (hn:o.es.length=n) (h0:0 < n) (hp:σ.at f i=some p) (hpe:p.es=[]) (hpk:p.k=o.k)
    (hf:f≠h) (hm:σ.at m 0=some om) (hml:om.lp=some (.mp nk es)) (hmh:m≠h) (hmf:m≠f) (he:Renm h n f i es es')
    (hk:AWPC P N rd c K env (((gone σ h).upd f i o).upd m 0 { om with lp:=some (.mp nk es') })):AWPC P N rd c K env σ:=by
  intro code hc n0 X β a w hst
  have hs:=hst.sr
  let β1:Blk:=fun f' i'=>if f'=f∧i'=i then β h 0 else β f' i'
  have b1:β1 f i=β h 0:=if_pos ⟨rfl,rfl⟩
  have b2:∀ {f' i':Nat},¬ (f'=f∧i'=i)→β1 f' i'=β f' i':=fun hh=>if_neg hh
  have hp1:(gone σ h).at f i=some p:=by rw [at_gone_ne hf]; exact hp
  have hm1:((gone σ h).upd f i o).at m 0=some om:=by rw [at_upd_other (.inl fun e=>hmf e.symm),at_gone_ne hmh]; exact hm
  generalize ho':({ om with lp:=some (.mp nk es') }:Ob)=om' at hk
  have hat:∀ {f' i':Nat} {o':Ob},Sto.at (((gone σ h).upd f i o).upd m 0 om') f' i'=some o' →
      (f'=m∧i'=0∧o'=om')∨(f'=f∧i'=i∧o'=o)∨(f'≠h∧¬ (f'=f∧i'=i)∧σ.at f' i'=some o'):=by
    intro f' i' o' h1
    rcases at_upd_cases hm1 h1 with h2 | ⟨_,h2⟩
    · exact .inl h2
    · rcases at_upd_cases hp1 h2 with h3 | ⟨h3,h4⟩
      · exact .inr (.inl h3)
      · have h5:=at_gone h4
        exact .inr (.inr ⟨h5.1,fun e=>h3.elim (fun q=>q e.1.symm) (fun q=>q e.2.symm),h5.2⟩)
  have hfi:Sto.at (((gone σ h).upd f i o).upd m 0 om') f i=some o:=by rw [at_upd_other (.inl hmf)]; exact at_upd_same hp1
  have hlen:σ.length=(((gone σ h).upd f i o).upd m 0 om').length:=by rw [upd_length,upd_length,List.length_set]
  generalize hσ:(((gone σ h).upd f i o).upd m 0 om':Sto)=σ1 at hk hat hfi hlen
  have hmm:¬ (m=f∧(0:Nat)=i):=fun e=>hmf e.1
  have hsrc:∀ {f' i':Nat} {o':Ob},σ1.at f' i'=some o'→∃ g j o0,σ.at g j=some o0∧β1 f' i'=β g j∧((f'=f∧i'=i∧g=h∧j=0)∨(¬ (f'=f∧i'=i)∧f'≠h∧g=f'∧j=i')):=by
    intro f' i' o' h1
    rcases hat h1 with ⟨rfl,rfl,rfl⟩ | ⟨rfl,rfl,rfl⟩ | ⟨h2,h3,h4⟩
    · exact ⟨f',0,om,hm,b2 hmm,.inr ⟨hmm,hmh,rfl,rfl⟩⟩
    · exact ⟨h,0,o',ho,b1,.inl ⟨rfl,rfl,rfl,rfl⟩⟩
    · exact ⟨f',i',o',h4,b2 h3,.inr ⟨h3,h2,rfl,rfl⟩⟩
  have hown:∀ b,owned β1 σ1 b→owned β σ b:=by
    rintro b ⟨f',i',o',h1,hb⟩
    obtain ⟨g,j,o0,h2,h3,_⟩:=hsrc h1
    exact ⟨g,j,o0,h2,by rw [← h3]; exact hb⟩
  have K1:Kp w (Xt X β σ) β σ w (Xt X β1 σ1) β1 σ1:=by
    refine ⟨Nat.le_refl _,fun _ _ _ _ _=>rfl,fun b _ hx=>hx.imp id (hown b),Nat.le_of_eq hlen,fun f' i' o' _ h1=>?_⟩
    rcases hat h1 with ⟨rfl,rfl,rfl⟩ | ⟨rfl,rfl,rfl⟩ | ⟨h2,h3,h4⟩
    · exact ⟨om,hm,by rw [← ho'],by rw [← ho']; exact Nat.le_refl _,fun _=>⟨b2 hmm,fun b _=>SameSize.refl w b⟩⟩
    · exact ⟨p,hp,hpk,by rw [hpe]; exact Nat.zero_le _,fun e=>by rw [hpe,hn] at e; exact absurd e (by simp; omega)⟩
    · exact ⟨o',h4,rfl,Nat.le_refl _,fun _=>⟨b2 h3,fun b _=>SameSize.refl w b⟩⟩
  have hrn:∀ x,RV w (Xt X β σ) β σ (.own h 0 n) x→RV w (Xt X β1 σ1) β1 σ1 (.own f i n) x:=by
    intro x hx
    cases hx with
    | own _ _ _ _ g1 g2 g3 g4 =>
      refine .own f i n x g1 (at_lt hfi) (fun o' h1=>?_) fun o' h1 _=>?_
      · rw [hfi] at h1; injection h1 with h1; subst h1; exact Nat.le_of_eq hn.symm
      · rw [hfi] at h1; injection h1 with h1; subst h1; rw [b1]; exact g4 _ ho hn
  have E1:Ext w β σ w β1 σ1:=⟨Nat.le_refl _,fun _ _ _=>rfl,fun b hb=>.inl (hown b hb),Still.refl w⟩
  have S1:SRel w X β1 σ1:=by
    refine ⟨fun f1 i1 f2 i2 o1 o2 b h1 h2 h3 h4=>?_,fun f1 i1 o1 b h1 h2=>?_,fun f1 i1 o1 h1=>?_⟩
    · obtain ⟨g1,j1,p1,a1,e1,c1⟩:=hsrc h1
      obtain ⟨g2,j2,p2,a2,e2,c2⟩:=hsrc h2
      have:=hs.inj g1 j1 g2 j2 p1 p2 b a1 a2 (by rw [← e1]; exact h3) (by rw [← e2]; exact h4)
      rcases c1 with ⟨q1,q2,q3,q4⟩ | ⟨q1,q2,q3,q4⟩ <;> rcases c2 with ⟨r1,r2,r3,r4⟩ | ⟨r1,r2,r3,r4⟩ <;> omega
    · obtain ⟨g1,j1,p1,a1,e1,c1⟩:=hsrc h1
      exact hs.dis g1 j1 p1 b a1 (by rw [← e1]; exact h2)
    · rcases hat h1 with ⟨rfl,rfl,rfl⟩ | ⟨rfl,rfl,rfl⟩ | ⟨h2,h3,h4⟩
      · rw [b2 hmm]
        have hob:=hs.obj f1 0 om hm
        have h7:=hob.2
        refine ⟨by rw [← ho']; exact hob.1,?_⟩
        cases hb:β f1 0 with
        | none=>rw [hb] at h7; rw [hml] at h7; exact absurd h7.2 (by simp)
        | some b =>
          rw [hb] at h7
          refine ⟨fun hn=>by rw [← ho'] at hn; simp at hn,fun r hr=>?_⟩
          obtain ⟨e0,ments,clock,hh,hmr,hbo⟩:=h7.2 _ hml
          rw [← ho'] at hr
          injection hr with hr
          subst hr
          exact ⟨by rw [← ho']; exact e0,ments,clock,hh,hmr.renm K1 hrn he,hbo⟩
      · rw [b1]; exact (hs.obj h 0 o1 ho).tr K1 fun b hb=>rfl
      · rw [b2 h3]; exact (hs.obj f1 i1 o1 h4).tr K1 fun b hb=>rfl
  exact wpIn_mono (hk code hc n0 X _ a w (hst.tr S1 E1 K1)) fun e a w hp=>hp.trans E1 K1
end
def Plain (v:AV):Prop:=∀ w X β σ x w' X' β' σ',RV w X β σ v x→RV w' X' β' σ' v x
@[simp] theorem Plain.v (x:Value):Plain (.v x):=fun w X β σ y w' X' β' σ' h=>by cases h; exact .v _
theorem Plain.tup {cs:List AV} (h:∀ c∈cs,Plain c):Plain (.tup cs):=fun w X β σ y w' X' β' σ' hy=>by
  cases hy with
  | tup _ xs hn hr=>exact .tup cs xs hn fun i hi=>h _ (getD_mem hi) _ _ _ _ _ _ _ _ _ (hr i hi)
theorem Plain.agg {cs:List AV} (h:∀ c∈cs,Plain c):Plain (.agg cs):=fun w X β σ y w' X' β' σ' hy=>by
  cases hy with
  | agg _ xs hn h1 hr=>exact .agg cs xs hn h1 fun i hi=>h _ (getD_mem hi) _ _ _ _ _ _ _ _ _ (hr i hi)
theorem Plain.t2 (a b:Value):Plain (.tup [.v a,.v b]):=.tup fun c hc=>by
  simp only [List.mem_cons,List.not_mem_nil,or_false] at hc
  rcases hc with rfl | rfl <;> exact .v _
theorem Peek.plain {P:Program} {f:Nat} {args args':List AV} {z:AV} {σ:Sto} (h:Pure P f args' z) (hz:Plain z) (hf:FL σ args args'):Peek P f args σ z:=by
  refine ⟨h.ent,fun X β w xs hX hs hxl hr=>?_⟩
  have hl:=hf.len
  refine (h.go X w xs hX (by omega) (fun i hi=>hf.get i (by omega) w X β _ hs (hr i (by omega)))).mono ?_
  rintro e w' ⟨x,rfl,hr',hsz,hold,hio⟩
  exact ⟨_,rfl,hz _ _ _ _ _ _ _ _ _ hr',hsz,hold,hio⟩
theorem Frz.any {σ:Sto} {v:AV}:Frz σ v .any:=fun _ _ _ _ _ _=>.any _
theorem AWPC.sto {P:Program} {N:Nat} {rd:Option Nat} {c:C} {K:Kont} {env:Env} {σ σ':Sto} (e:σ=σ') (h:AWPC P N rd c K env σ'):AWPC P N rd c K env σ:=e ▸ h
theorem AWPC.env {P:Program} {N:Nat} {rd:Option Nat} {c:C} {K:Kont} {env env':Env} {σ:Sto} (e:env=env') (h:AWPC P N rd c K env' σ):AWPC P N rd c K env σ:=e ▸ h
theorem gone_app (τ l:Sto) (k:Nat):gone (τ++l) (τ.length+k)=τ++gone l k:=by
  rw [gone,List.set_append_right _ _ (Nat.le_add_right _ _),Nat.add_sub_cancel_left]
end Go.Abs
namespace Go.Proofs.YtolgelipcgcbhaaGreat
open Go.Abs
open Nat (reduceAdd reduceSub reduceLT reduceLeDiff reduceMul reduceEqDiff)
open Go.Abs renaming vcC→Q0,lateX→Q1,strp→Q2,binA→Q3,elems→Q4,cells→Q5,scalar→Q6,eqC→Q7,keyA→Q8,intsA→Q9,lookA→QA,ofVs→QB,mpOf→QC
set_option linter.unusedVariables false
set_option linter.unusedSimpArgs false
set_option maxHeartbeats 4000000
set_option maxRecDepth 100000
def c209:CF:=⟨8,(jo [jn 2] [0]
 (.seq (jo [jm 3 0,jw 4 (.nilq false (.t 3) (.c (.slice none 0 0)))] [0,4]
 (.cond (.t 4) (jo [jn 2] [2]
 .ret)
 .skip))
 (jo [jw 5 (.bsl true 164 3 0 [] []),jm 6 0,jw 7 (.app 164 3 24 (.t 5) (.t 6)),jm 2 7] [2]
 .ret))),[.t 2]⟩
theorem k209:chkF Tryz.prog Tryz.f209 c209=true:=by kernel_rfl
def c210:CF:=⟨8,(jo [jn 2] [0]
 (.seq (jo [jm 3 0,jw 4 (.nilq false (.t 3) (.c (.slice none 0 0)))] [0,4]
 (.cond (.t 4) (jo [jn 2] [2]
 .ret)
 .skip))
 (jo [jw 5 (.bsl true 3 1 0 [] []),jm 6 0,jw 7 (.app 3 1 8 (.t 5) (.t 6)),jm 2 7] [2]
 .ret))),[.t 2]⟩
theorem k210:chkF Tryz.prog Tryz.f210 c210=true:=by kernel_rfl
def c211:CF:=⟨8,(jo [jn 2] [0]
 (.seq (jo [jm 3 0,jw 4 (.nilq false (.t 3) (.c (.slice none 0 0)))] [0,4]
 (.cond (.t 4) (jo [jn 2] [2]
 .ret)
 .skip))
 (jo [jw 5 (.bsl true 48 2 0 [] []),jm 6 0,jw 7 (.app 48 2 16 (.t 5) (.t 6)),jm 2 7] [2]
 .ret))),[.t 2]⟩
theorem k211:chkF Tryz.prog Tryz.f211 c211=true:=by kernel_rfl
def c212:CF:=⟨8,(jo [jn 2] [0]
 (.seq (jo [jm 3 0,jw 4 (.nilq false (.t 3) (.c (.slice none 0 0)))] [0,4]
 (.cond (.t 4) (jo [jn 2] [2]
 .ret)
 .skip))
 (jo [jw 5 (.bsl true 226 3 0 [] []),jm 6 0,jw 7 (.app 226 3 24 (.t 5) (.t 6)),jm 2 7] [2]
 .ret))),[.t 2]⟩
theorem k212:chkF Tryz.prog Tryz.f212 c212=true:=by kernel_rfl
def c125:CF:=⟨8,(jo [jn 2] [0]
 (.seq (jo [jm 3 0,jw 4 (.nilq false (.t 3) (.c (.slice none 0 0)))] [0,4]
 (.cond (.t 4) (jo [jn 2] [2]
 .ret)
 .skip))
 (jo [jw 5 (.bsl true 66 3 0 [] []),jm 6 0,jw 7 (.app 66 3 24 (.t 5) (.t 6)),jm 2 7] [2]
 .ret))),[.t 2]⟩
theorem k125:chkF Tryz.prog Tryz.f125 c125=true:=by kernel_rfl
def c165:CF:=⟨8,(jo [jn 2] [0]
 (.seq (jo [jm 3 0,jw 4 (.nilq false (.t 3) (.c (.slice none 0 0)))] [0,4]
 (.cond (.t 4) (jo [jn 2] [2]
 .ret)
 .skip))
 (jo [jw 5 (.bsl true 62 3 0 [] []),jm 6 0,jw 7 (.app 62 3 24 (.t 5) (.t 6)),jm 2 7] [2]
 .ret))),[.t 2]⟩
theorem k165:chkF Tryz.prog Tryz.f165 c165=true:=by kernel_rfl
def c166:CF:=⟨8,(jo [jn 2] [0]
 (.seq (jo [jm 3 0,jw 4 (.nilq false (.t 3) (.c (.slice none 0 0)))] [0,4]
 (.cond (.t 4) (jo [jn 2] [2]
 .ret)
 .skip))
 (jo [jw 5 (.bsl true 29 2 0 [] []),jm 6 0,jw 7 (.app 29 2 16 (.t 5) (.t 6)),jm 2 7] [2]
 .ret))),[.t 2]⟩
theorem k166:chkF Tryz.prog Tryz.f166 c166=true:=by kernel_rfl
def c86:CF:=⟨8,(jo [jn 2] [0]
 (.seq (jo [jm 3 0,jw 4 (.nilq false (.t 3) (.c (.slice none 0 0)))] [0,4]
 (.cond (.t 4) (jo [jn 2] [2]
 .ret)
 .skip))
 (jo [jw 5 (.bsl true 68 38 0 [] []),jm 6 0,jw 7 (.app 68 38 368 (.t 5) (.t 6)),jm 2 7] [2]
 .ret))),[.t 2]⟩
theorem k86:chkF Tryz.prog Tryz.f86 c86=true:=by kernel_rfl
def c163:CF:=⟨8,(jo [jn 2] [0]
 (.seq (jo [jm 3 0,jw 4 (.nilq false (.t 3) (.c (.slice none 0 0)))] [0,4]
 (.cond (.t 4) (jo [jn 2] [2]
 .ret)
 .skip))
 (jo [jw 5 (.bsl true 109 4 0 [] []),jm 6 0,jw 7 (.app 109 4 48 (.t 5) (.t 6)),jm 2 7] [2]
 .ret))),[.t 2]⟩
theorem k163:chkF Tryz.prog Tryz.f163 c163=true:=by kernel_rfl
def c164:CF:=⟨22,(jo [jw 1 (.box true 60 18 (.t 0)),jw 2 (.alloc 60 18 z18)] [1,2]
 (.seq (.draw [jf 3 10 1,jl 4 3,jy 5 209 [4],jf 6 11 1,jl 7 6,jy 8 210 [7],jf 9 10 1] [js 1 9 5,jf 10 11 1,js 1 10 8] [1,2])
 (.seq (.draw [jf 11 12 1,jf 12 0 11,jl 13 12,jy 14 211 [13],jf 15 12 1,jf 16 1 15,jl 17 16,jy 18 212 [17],jw 19 (.build [.slice none 0 0,.slice none 0 0] [(0,1,(.t 14)),(1,1,(.t 18))]),jf 20 12 1] [js 2 20 19] [1,2])
 (jo [jk 21 18 1,js 18 2 21] [2]
 .ret)))),[.c 2 (some 18)]⟩
theorem k164:chkF Tryz.prog Tryz.f164 c164=true:=by kernel_rfl
def c98:CF:=⟨16,(jo [jw 1 (.box true 72 24 (.t 0)),jw 2 (.alloc 72 24 z24)] [1,2]
 (.seq (.draw [jf 3 4 1,jk 4 18 3,jy 5 164 [4],jf 6 22 1,jl 7 6,jy 8 165 [7],jf 9 23 1,jl 10 9,jy 11 166 [10],jf 12 4 1] [js 18 12 5,jf 13 22 1,js 1 13 8,jf 14 23 1,js 1 14 11] [1,2])
 (jo [jk 15 24 1,js 24 2 15] [2]
 .ret))),[.c 2 (some 24)]⟩
theorem k98:chkF Tryz.prog Tryz.f98 c98=true:=by kernel_rfl
def c97:CF:=⟨24,(jo [jn 2] [0]
 (jo [jm 6 0,jy 7 163 [6],jm 3 7] [3]
 (.seq (jo [jm 8 3,je 9 8,jc 10 0] [3,8,9,10]
 (.block 0 (.loop (jo [jt .lss 11 10 9] [3,8,9,10,11]
 (.seq (.cond (.t 11) .skip
 (.exit 0))
 (.seq (.block 1 (jo [jm 12 10,ji 13 4 8 10,jk 14 4 13,jw 5 (.alloc 109 4 [.int .i64 0,.int .i64 0,.int .i64 0,.slice none 0 0]),jm 4 12,js 4 5 14] [3,4,5,8,9,10]
 (.ops [jm 15 3,jm 16 4,jf 17 3 5,jl 18 17,jy 19 125 [18],ji 20 4 15 16,jf 21 3 20,js 1 21 19] [3,8,9,10])))
 (.ops [ju .add 22 10 1,jm 10 22] [3,8,9,10])))))))
 (jo [jm 23 3,jm 2 23] [2]
 .ret)))),[.t 2]⟩
theorem k97:chkF Tryz.prog Tryz.f97 c97=true:=by kernel_rfl
theorem rowsL {α:Type} {cs:α→List AV} {k:Nat} (hk:∀ a,(cs a).length=k) (l:List α):∀ e,e < l.length→((l.map cs).getD e []).length=k:=fun e he=>by
  obtain ⟨x,hx⟩:∃ x,l[e]?=some x:=⟨_,List.getElem?_eq_getElem he⟩
  rw [getD_map hx]; exact hk x
theorem byNil {f k:Nat} {r:AV} (nil:Pure Tryz.prog f [.v (.slice none 0 0)] r) (emp:∀ a cap,Pure Tryz.prog f [.v (.slice (some a) 0 cap)] r):Pure Tryz.prog f [.sl k []] r:=by
  refine ⟨nil.ent,fun X w xs hX hxl hr=>?_⟩
  match xs,hxl with
  | [x],_ =>
    have hx:=hr 0 (by simp)
    simp only [List.getD_cons_zero] at hx
    cases hx with
    | slnil=>exact nil.go X w _ hX rfl (fun i hi=>by obtain rfl:i=0:=(by simpa using hi); exact .v _)
    | slemp _ a cap=>exact (emp a cap).go X w _ hX rfl (fun i hi=>by obtain rfl:i=0:=(by simpa using hi); exact .v _)
    | sl _ _ b o cap x hcap hk hc hX' h1 hr'=>exact (emp _ cap).go X w _ hX rfl (fun i hi=>by obtain rfl:i=0:=(by simpa using hi); exact .v _)
theorem clonePt (l:List Pt) (hl:l.length * 24≤140737488355328):Pure Tryz.prog 209 [ptS l] (ptS l):=by
  have nil:Pure Tryz.prog 209 [.v (.slice none 0 0)] (ptS []):=by
    refine pB_ Tryz.call209 Tryz.func209 k209 ?_
    unfold c209
    ((refine Au ?_;repeat' constructor)<;>intros<;>refine hD_ ?_)
    all_goals exact Frz.nil0
  have emp:∀ a cap,Pure Tryz.prog 209 [.v (.slice (some a) 0 cap)] (ptS []):=by
    intro a cap
    refine pB_ Tryz.call209 Tryz.func209 k209 ?_
    unfold c209
    ((refine Au ?_;repeat' constructor)<;>intros<;>refine hD_ ?_)
    all_goals exact Frz.ownL (l:=[]) (cs:=Pt.cs) rfl rfl (by decide) (fun a c hc=>by simp at hc; rcases hc with rfl | rfl | rfl <;> simp) (fun a=>rfl)
  by_cases h0:l=[]
  · subst h0
    exact byNil nil emp
  · refine pB_ Tryz.call209 Tryz.func209 k209 ?_
    unfold c209
    have hne:l.map Pt.cs≠[]:=by simpa using h0
    ((refine Au ?_;repeat' constructor)<;>intros<;>refine hD_ ?_)
    first
      | exact Frz.ownL (cs:=Pt.cs) rfl rfl (by decide) (fun a c hc=>by simp at hc; rcases hc with rfl | rfl | rfl <;> simp) (fun a=>rfl)
      | (refine ⟨⟨rowsL (cs:=Pt.cs) (fun a=>rfl) l,by omega⟩,?_⟩
         ((refine Au ?_;repeat' constructor)<;>intros<;>refine hD_ ?_)
         exact Frz.ownL (cs:=Pt.cs) rfl rfl (by decide) (fun a c hc=>by simp at hc; rcases hc with rfl | rfl | rfl <;> simp) (fun a=>rfl))
theorem cloneInt (l:List Int) (hl:l.length * 8≤140737488355328):Pure Tryz.prog 210 [inS l] (inS l):=by
  have nil:Pure Tryz.prog 210 [.v (.slice none 0 0)] (inS []):=by
    refine pB_ Tryz.call210 Tryz.func210 k210 ?_
    unfold c210
    ((refine Au ?_;repeat' constructor)<;>intros<;>refine hD_ ?_)
    all_goals exact Frz.nil0
  have emp:∀ a cap,Pure Tryz.prog 210 [.v (.slice (some a) 0 cap)] (inS []):=by
    intro a cap
    refine pB_ Tryz.call210 Tryz.func210 k210 ?_
    unfold c210
    ((refine Au ?_;repeat' constructor)<;>intros<;>refine hD_ ?_)
    all_goals exact Frz.ownL (l:=[]) (cs:=(fun z:Int=>[n z])) rfl rfl (by decide) (fun a c hc=>by simp at hc; subst hc; simp) (fun a=>rfl)
  by_cases h0:l=[]
  · subst h0
    exact byNil nil emp
  · refine pB_ Tryz.call210 Tryz.func210 k210 ?_
    unfold c210
    have hne:l.map (fun z:Int=>[n z])≠[]:=by simpa using h0
    ((refine Au ?_;repeat' constructor)<;>intros<;>refine hD_ ?_)
    first
      | exact Frz.ownL (cs:=(fun z:Int=>[n z])) rfl rfl (by decide) (fun a c hc=>by simp at hc; subst hc; simp) (fun a=>rfl)
      | (refine ⟨⟨rowsL (cs:=(fun z:Int=>[n z])) (fun a=>rfl) l,by omega⟩,?_⟩
         ((refine Au ?_;repeat' constructor)<;>intros<;>refine hD_ ?_)
         exact Frz.ownL (cs:=(fun z:Int=>[n z])) rfl rfl (by decide) (fun a c hc=>by simp at hc; subst hc; simp) (fun a=>rfl))
theorem cloneSp (l:List Sp) (hl:l.length * 16≤140737488355328):Pure Tryz.prog 211 [spnS l] (spnS l):=by
  have nil:Pure Tryz.prog 211 [.v (.slice none 0 0)] (spnS []):=by
    refine pB_ Tryz.call211 Tryz.func211 k211 ?_
    unfold c211
    ((refine Au ?_;repeat' constructor)<;>intros<;>refine hD_ ?_)
    all_goals exact Frz.nil0
  have emp:∀ a cap,Pure Tryz.prog 211 [.v (.slice (some a) 0 cap)] (spnS []):=by
    intro a cap
    refine pB_ Tryz.call211 Tryz.func211 k211 ?_
    unfold c211
    ((refine Au ?_;repeat' constructor)<;>intros<;>refine hD_ ?_)
    all_goals exact Frz.ownL (l:=[]) (cs:=Sp.cs) rfl rfl (by decide) (fun a c hc=>by simp at hc; rcases hc with rfl | rfl <;> simp) (fun a=>rfl)
  by_cases h0:l=[]
  · subst h0
    exact byNil nil emp
  · refine pB_ Tryz.call211 Tryz.func211 k211 ?_
    unfold c211
    have hne:l.map Sp.cs≠[]:=by simpa using h0
    ((refine Au ?_;repeat' constructor)<;>intros<;>refine hD_ ?_)
    first
      | exact Frz.ownL (cs:=Sp.cs) rfl rfl (by decide) (fun a c hc=>by simp at hc; rcases hc with rfl | rfl <;> simp) (fun a=>rfl)
      | (refine ⟨⟨rowsL (cs:=Sp.cs) (fun a=>rfl) l,by omega⟩,?_⟩
         ((refine Au ?_;repeat' constructor)<;>intros<;>refine hD_ ?_)
         exact Frz.ownL (cs:=Sp.cs) rfl rfl (by decide) (fun a c hc=>by simp at hc; rcases hc with rfl | rfl <;> simp) (fun a=>rfl))
theorem cloneSt (l:List Mk) (hl:l.length * 24≤140737488355328):Pure Tryz.prog 212 [mkS l] (mkS l):=by
  have nil:Pure Tryz.prog 212 [.v (.slice none 0 0)] (mkS []):=by
    refine pB_ Tryz.call212 Tryz.func212 k212 ?_
    unfold c212
    ((refine Au ?_;repeat' constructor)<;>intros<;>refine hD_ ?_)
    all_goals exact Frz.nil0
  have emp:∀ a cap,Pure Tryz.prog 212 [.v (.slice (some a) 0 cap)] (mkS []):=by
    intro a cap
    refine pB_ Tryz.call212 Tryz.func212 k212 ?_
    unfold c212
    ((refine Au ?_;repeat' constructor)<;>intros<;>refine hD_ ?_)
    all_goals exact Frz.ownL (l:=[]) (cs:=Mk.cs) rfl rfl (by decide) (fun a c hc=>by simp at hc; rcases hc with rfl | rfl | rfl <;> simp) (fun a=>rfl)
  by_cases h0:l=[]
  · subst h0
    exact byNil nil emp
  · refine pB_ Tryz.call212 Tryz.func212 k212 ?_
    unfold c212
    have hne:l.map Mk.cs≠[]:=by simpa using h0
    ((refine Au ?_;repeat' constructor)<;>intros<;>refine hD_ ?_)
    first
      | exact Frz.ownL (cs:=Mk.cs) rfl rfl (by decide) (fun a c hc=>by simp at hc; rcases hc with rfl | rfl | rfl <;> simp) (fun a=>rfl)
      | (refine ⟨⟨rowsL (cs:=Mk.cs) (fun a=>rfl) l,by omega⟩,?_⟩
         ((refine Au ?_;repeat' constructor)<;>intros<;>refine hD_ ?_)
         exact Frz.ownL (cs:=Mk.cs) rfl rfl (by decide) (fun a c hc=>by simp at hc; rcases hc with rfl | rfl | rfl <;> simp) (fun a=>rfl))
theorem cloneHg (l:List Hgt) (hl:l.length * 24≤140737488355328):Pure Tryz.prog 125 [hgS l] (hgS l):=by
  have nil:Pure Tryz.prog 125 [.v (.slice none 0 0)] (hgS []):=by
    refine pB_ Tryz.call125 Tryz.func125 k125 ?_
    unfold c125
    ((refine Au ?_;repeat' constructor)<;>intros<;>refine hD_ ?_)
    all_goals exact Frz.nil0
  have emp:∀ a cap,Pure Tryz.prog 125 [.v (.slice (some a) 0 cap)] (hgS []):=by
    intro a cap
    refine pB_ Tryz.call125 Tryz.func125 k125 ?_
    unfold c125
    ((refine Au ?_;repeat' constructor)<;>intros<;>refine hD_ ?_)
    all_goals exact Frz.ownL (l:=[]) (cs:=Hgt.cs) rfl rfl (by decide) (fun a c hc=>by simp at hc; rcases hc with rfl | rfl | rfl <;> simp) (fun a=>rfl)
  by_cases h0:l=[]
  · subst h0
    exact byNil nil emp
  · refine pB_ Tryz.call125 Tryz.func125 k125 ?_
    unfold c125
    have hne:l.map Hgt.cs≠[]:=by simpa using h0
    ((refine Au ?_;repeat' constructor)<;>intros<;>refine hD_ ?_)
    first
      | exact Frz.ownL (cs:=Hgt.cs) rfl rfl (by decide) (fun a c hc=>by simp at hc; rcases hc with rfl | rfl | rfl <;> simp) (fun a=>rfl)
      | (refine ⟨⟨rowsL (cs:=Hgt.cs) (fun a=>rfl) l,by omega⟩,?_⟩
         ((refine Au ?_;repeat' constructor)<;>intros<;>refine hD_ ?_)
         exact Frz.ownL (cs:=Hgt.cs) rfl rfl (by decide) (fun a c hc=>by simp at hc; rcases hc with rfl | rfl | rfl <;> simp) (fun a=>rfl))
theorem cloneMk (l:List Mk) (hl:l.length * 24≤140737488355328):Pure Tryz.prog 165 [mkS l] (mkS l):=by
  have nil:Pure Tryz.prog 165 [.v (.slice none 0 0)] (mkS []):=by
    refine pB_ Tryz.call165 Tryz.func165 k165 ?_
    unfold c165
    ((refine Au ?_;repeat' constructor)<;>intros<;>refine hD_ ?_)
    all_goals exact Frz.nil0
  have emp:∀ a cap,Pure Tryz.prog 165 [.v (.slice (some a) 0 cap)] (mkS []):=by
    intro a cap
    refine pB_ Tryz.call165 Tryz.func165 k165 ?_
    unfold c165
    ((refine Au ?_;repeat' constructor)<;>intros<;>refine hD_ ?_)
    all_goals exact Frz.ownL (l:=[]) (cs:=Mk.cs) rfl rfl (by decide) (fun a c hc=>by simp at hc; rcases hc with rfl | rfl | rfl <;> simp) (fun a=>rfl)
  by_cases h0:l=[]
  · subst h0
    exact byNil nil emp
  · refine pB_ Tryz.call165 Tryz.func165 k165 ?_
    unfold c165
    have hne:l.map Mk.cs≠[]:=by simpa using h0
    ((refine Au ?_;repeat' constructor)<;>intros<;>refine hD_ ?_)
    first
      | exact Frz.ownL (cs:=Mk.cs) rfl rfl (by decide) (fun a c hc=>by simp at hc; rcases hc with rfl | rfl | rfl <;> simp) (fun a=>rfl)
      | (refine ⟨⟨rowsL (cs:=Mk.cs) (fun a=>rfl) l,by omega⟩,?_⟩
         ((refine Au ?_;repeat' constructor)<;>intros<;>refine hD_ ?_)
         exact Frz.ownL (cs:=Mk.cs) rfl rfl (by decide) (fun a c hc=>by simp at hc; rcases hc with rfl | rfl | rfl <;> simp) (fun a=>rfl))
theorem cloneNm (l:List Nm) (hl:l.length * 16≤140737488355328):Pure Tryz.prog 166 [nmS l] (nmS l):=by
  have nil:Pure Tryz.prog 166 [.v (.slice none 0 0)] (nmS []):=by
    refine pB_ Tryz.call166 Tryz.func166 k166 ?_
    unfold c166
    ((refine Au ?_;repeat' constructor)<;>intros<;>refine hD_ ?_)
    all_goals exact Frz.nil0
  have emp:∀ a cap,Pure Tryz.prog 166 [.v (.slice (some a) 0 cap)] (nmS []):=by
    intro a cap
    refine pB_ Tryz.call166 Tryz.func166 k166 ?_
    unfold c166
    ((refine Au ?_;repeat' constructor)<;>intros<;>refine hD_ ?_)
    all_goals exact Frz.ownL (l:=[]) (cs:=Nm.cs) rfl rfl (by decide) (fun a c hc=>by simp at hc; rcases hc with rfl | rfl <;> simp) (fun a=>rfl)
  by_cases h0:l=[]
  · subst h0
    exact byNil nil emp
  · refine pB_ Tryz.call166 Tryz.func166 k166 ?_
    unfold c166
    have hne:l.map Nm.cs≠[]:=by simpa using h0
    ((refine Au ?_;repeat' constructor)<;>intros<;>refine hD_ ?_)
    first
      | exact Frz.ownL (cs:=Nm.cs) rfl rfl (by decide) (fun a c hc=>by simp at hc; rcases hc with rfl | rfl <;> simp) (fun a=>rfl)
      | (refine ⟨⟨rowsL (cs:=Nm.cs) (fun a=>rfl) l,by omega⟩,?_⟩
         ((refine Au ?_;repeat' constructor)<;>intros<;>refine hD_ ?_)
         exact Frz.ownL (cs:=Nm.cs) rfl rfl (by decide) (fun a c hc=>by simp at hc; rcases hc with rfl | rfl <;> simp) (fun a=>rfl))
def shtC (s:Sht):Prop:=s.trace.length * 24≤140737488355328∧s.blots.length * 8≤140737488355328∧s.rates.length * 16≤140737488355328∧s.stops.length * 24≤140737488355328
theorem copiedSheet_spec (s:Sht) (hs:shtC s):Pure Tryz.prog 164 [.agg s.cs] (.agg s.cs):=by
  refine pB_ Tryz.call164 Tryz.func164 k164 ?_
  unfold c164
  obtain ⟨h1,h2,h3,h4⟩:=hs
  have hd:List.drop 1 (List.drop 11 s.cs)=[spnS s.rates,mkS s.stops,n s.pen.band,n s.pen.zero.lo,n s.pen.zero.hi,n s.pen.rate]:=rfl
  ((refine Az @hd (And.intro (clonePt s.trace h1) (And.intro (cloneInt s.blots h2) (And.intro (cloneSp s.rates h3) (cloneSt s.stops h4)))) ?_;repeat' constructor)<;>intros<;>refine hD_ ?_)
  exact Frz.eq rfl (show PureV (.agg s.cs) from Sht.pa s)
def fldC (f:Fld):Prop:=shtC f.sheet∧f.marks.length * 24≤140737488355328∧f.names.length * 16≤140737488355328
theorem copiedFiled_spec (f:Fld) (hf:fldC f):Pure Tryz.prog 98 [.agg f.cs] (.agg f.cs):=by
  refine pB_ Tryz.call98 Tryz.func98 k98 ?_
  unfold c98
  obtain ⟨h1,h2,h3⟩:=hf
  ((refine Ay (And.intro (copiedSheet_spec f.sheet h1) (And.intro (cloneMk f.marks h2) (cloneNm f.names h3))) ?_;repeat' constructor)<;>intros<;>refine hD_ ?_)
  exact (Frz.pure (Fld.pa f):Frz _ (.agg f.cs) (.agg f.cs))
inductive OwnAt (σ:Sto) (T k:Nat) (rows:List (List AV)):AV→Sto→Prop
  | mk (ν:Sto) {r:AV} {σ':Sto} (h:r=.own σ.length 0 rows.length) (h':σ'=σ++some [⟨T,k,rows,none⟩]::ν):OwnAt σ T k rows r σ'
theorem byNilD {f k:Nat} {σ:Sto} {R:AV→Sto→Prop} (nil:Does Tryz.prog f [.v (.slice none 0 0)] σ R) (emp:∀ a cap,Does Tryz.prog f [.v (.slice (some a) 0 cap)] σ R):Does Tryz.prog f [.sl k []] σ R:=by
  refine ⟨nil.ent,fun X β w xs hX hs hxl hr=>?_⟩
  match xs,hxl with
  | [x],_ =>
    have hx:=hr 0 (by simp)
    simp only [List.getD_cons_zero] at hx
    cases hx with
    | slnil=>exact nil.go X β w _ hX hs rfl (fun i hi=>by obtain rfl:i=0:=(by simpa using hi); exact .v _)
    | slemp _ a cap=>exact (emp a cap).go X β w _ hX hs rfl (fun i hi=>by obtain rfl:i=0:=(by simpa using hi); exact .v _)
    | sl _ _ b o cap x hcap hk hc hX' h1 hr'=>exact (emp _ cap).go X β w _ hX hs rfl (fun i hi=>by obtain rfl:i=0:=(by simpa using hi); exact .v _)
theorem cloneStn (l:List Stn) (hl:l.length * 48≤140737488355328) (σ:Sto):Does Tryz.prog 163 [snS l] σ (OwnAt σ 109 4 (l.map Stn.cs)):=by
  have nil:Does Tryz.prog 163 [.v (.slice none 0 0)] σ (OwnAt σ 109 4 []):=by
    refine dB_ Tryz.call163 Tryz.func163 k163 ?_
    unfold c163
    refine AWPC.of_vc ?_; simp only [zN,zS,zU,Q0,Q1,ex,Q2,Q3,Q4,Q5,Q6,Q7,Q8,Q9,QA,QB,QC,Nat.reduceBEq,reduceAdd,reduceSub,reduceLT,reduceLeDiff,reduceMul,reduceEqDiff,reduceIte]
    refine AWPC.of_vc ?_; simp only [zN,zS,zU,Q0,Q1,ex,Q2,Q3,Q4,Q5,Q6,Q7,Q8,Q9,QA,QB,QC,Nat.reduceBEq,reduceAdd,reduceSub,reduceLT,reduceLeDiff,reduceMul,reduceEqDiff,reduceIte]
    refine AWPC.of_vc ?_
    simp only [vcC]
    refine ⟨fun _=>?_,fun h=>by cases h⟩
    refine AWPC.of_vc ?_; simp only [zN,zS,zU,Q0,Q1,ex,Q2,Q3,Q4,Q5,Q6,Q7,Q8,Q9,QA,QB,QC,Nat.reduceBEq,reduceAdd,reduceSub,reduceLT,reduceLeDiff,reduceMul,reduceEqDiff,reduceIte]
    refine AWPC.own0 109 4 2 rfl ?_
    refine AWPC.of_vc ?_; simp only [zN,zS,zU,Q0,Q1,ex,Q2,Q3,Q4,Q5,Q6,Q7,Q8,Q9,QA,QB,QC,Nat.reduceBEq,reduceAdd,reduceSub,reduceLT,reduceLeDiff,reduceMul,reduceEqDiff,reduceIte]
    exact .mk [] rfl rfl
  have emp:∀ a cap,Does Tryz.prog 163 [.v (.slice (some a) 0 cap)] σ (OwnAt σ 109 4 []):=by
    intro a cap
    refine dB_ Tryz.call163 Tryz.func163 k163 ?_
    unfold c163
    ((refine Au ?_;repeat' constructor)<;>intros<;>refine hD_ ?_)
    all_goals exact .mk [] rfl rfl
  by_cases h0:l=[]
  · subst h0
    exact byNilD nil emp
  · refine dB_ Tryz.call163 Tryz.func163 k163 ?_
    unfold c163
    have hne:l.map Stn.cs≠[]:=by simpa using h0
    ((refine Au ?_;repeat' constructor)<;>intros<;>refine hD_ ?_)
    exact .mk [] (by simp) rfl
theorem copiedStations_does (l:List Stn) (hl:l.length * 48≤140737488355328) (hh:∀ s∈l,s.heights.length * 24≤140737488355328) (σ:Sto):Does Tryz.prog 97 [snS l] σ (OwnAt σ 109 4 (l.map Stn.cs)):=by
  refine dB_ Tryz.call97 Tryz.func97 k97 ?_
  unfold c97
  ((refine Au ?_;repeat' constructor)<;>intros<;>refine hD_ ?_)
  refine .inr (.inl ⟨_,_,_,_,rfl,fun _=>⟨cloneStn l hl σ,?_⟩,fun h=>by cases h⟩)
  rintro r σ' ⟨ν,rfl,rfl⟩
  refine Zy ?_
  simp only [zN,zT,zV,zS,zU,Q0,Q1,ex,Q2,Q3,Q4,Q5,Q6,Q7,Q8,Q9,QA,QB,QC,Nat.reduceBEq,reduceAdd,reduceSub,reduceLT,reduceLeDiff,reduceMul,reduceEqDiff,reduceIte,List.length_map]
  obtain ⟨G,hG⟩:∃ G,G=List.length σ:=⟨_,rfl⟩
  rw [← hG]
  have hA:∀ (o:Ob) (μ:Sto),Sto.at (σ++some [o]::μ) G 0=some o:=fun o μ=>by rw [hG,at_app0]; rfl
  have hB:∀ (o o':Ob) (μ:Sto),Sto.upd (σ++some [o]::μ) G 0 o'=σ++some [o']::μ:=fun o o' μ=>by rw [hG]; simp [Sto.upd]
  have hG':List.length σ=G:=hG.symm
  have hC:∀ (f:Nat) (o:Ob) (μ:Sto),Sto.at (σ++some [o]::μ) (G+(f+1)) 0=Sto.at μ f 0:=fun f o μ=>by rw [hG,at_app]; rfl
  have hD:∀ (f:Nat) (o o':Ob) (μ:Sto),Sto.upd (σ++some [o]::μ) (G+(f+1)) 0 o'=σ++some [o]::Sto.upd μ f 0 o':=fun f o o' μ=>by rw [hG,upd_app]; simp [Sto.upd]; cases μ[f]? with
    | none=>rfl
    | some x=>cases x <;> rfl
  ((refine Ax (And.intro @hA @hB) ?_;repeat' constructor)<;>intros<;>refine hD_ ?_)
  refine AWPC.loopE (α:={ x:Nat × Sto // x.1≤l.length }) [10] (fun x=>[(10,n x.1.1)]) (fun x=>σ++some [⟨109,4,l.map Stn.cs,none⟩]::x.1.2) (fun x=>l.length - x.1.1) ⟨(0,ν),by simp⟩ ?_ rfl ?_
  · (simp only [zN,zT,zV,zS,zU,Q0,Q1,ex,Q2,Q3,Q4,Q5,Q6,Q7,Q8,Q9,QA,QB,QC,Nat.reduceBEq,reduceAdd,reduceSub,reduceLT,reduceLeDiff,reduceMul,reduceEqDiff,reduceIte]; try simp)
  · rintro ⟨⟨i,μ⟩,hi⟩
    simp only at hi
    by_cases hlt:i < l.length
    · have hs:(l.map Stn.cs).getD i []=Stn.cs (l.getD i default):=row default hlt
      have hset:(l.map Stn.cs).set i (Stn.cs (l.getD i default))=l.map Stn.cs:=by
        rw [List.getD_eq_getElem?_getD,List.getElem?_eq_getElem hlt,Option.getD_some,← List.map_set,List.set_getElem_self]
      have h3:=cloneHg (l.getD i default).heights (hh _ (List.mem_of_getElem? (getD_lt default hlt)))
      generalize l.getD i default=s at hs hset h3
      obtain ⟨s1,s2,s3,s4⟩:=s
      simp only [Stn.cs] at hs hset h3
      ((refine Az (And.intro @hA (And.intro @hB (And.intro @hC (And.intro @hD (And.intro @hG' (And.intro @hs @hset)))))) @h3 ?_;repeat' constructor)<;>intros<;>refine hD_ ?_)
      all_goals try (exfalso;omega)
      exact ⟨⟨(i+1,_),hlt⟩,by simp,rfl,by simp only; omega⟩
    · obtain rfl:i=l.length:=by omega
      ((refine Au ?_;repeat' constructor)<;>intros<;>refine hD_ ?_)
      all_goals try (exfalso;omega)
      exact .mk μ (by simp [hG]) rfl
def c103:CF:=⟨19,(jo [jc 4 0] [0,1]
 (.seq (jo [jm 6 0,je 7 6,jc 8 0] [0,1,7,8]
 (.block 0 (.loop (jo [jt .lss 9 8 7] [0,1,7,8,9]
 (.seq (.cond (.t 9) .skip
 (.exit 0))
 (.seq (.block 1 (jo [jm 10 8,jm 5 10] [0,1,5,7,8]
 (jo [jm 11 1,jm 12 0,jm 13 5,ji 14 24 12 13,jk 15 24 14,jw 16 (.call (.t 11) [(.t 15)])] [0,1,5,7,8,16]
 (.cond (.t 16) (jo [jm 17 5,jm 4 17] [4]
 .ret)
 .skip))))
 (.ops [ju .add 18 8 1,jm 8 18] [0,1,7,8])))))))
 (jo [jc 4 (-1)] [4]
 .ret))),[.t 4]⟩
theorem k103:chkF Tryz.prog Tryz.f103 c103=true:=by kernel_rfl
def c102:CF:=⟨7,(jo [jc 2 0,jc 3 0] [0]
 (.seq (jo [jm 4 0,ju .lss 5 4 0] [0,5]
 (.cond (.t 5) (jo [jc 2 0,jc 3 3] [2,3]
 .ret)
 .skip))
 (jo [jm 6 0,jm 2 6,jc 3 0] [2,3]
 .ret))),[.t 2,.t 3]⟩
theorem k102:chkF Tryz.prog Tryz.f102 c102=true:=by kernel_rfl
def c104:CF:=⟨15,(jo [jx 3 72 24 0,jb 4 false] [1,2,3]
 (jo [jf 5 2 3,jl 6 5,jl 7 1,jt .eql 8 6 7,jm 9 8,ja 9 (jf 10 3 3),ja 9 (jl 11 10),ja 9 (jl 12 2),ja 9 (jt .eql 13 11 12),jp 14 9 13,jm 4 14] [4]
 .ret)),[.t 4]⟩
theorem k104:chkF Tryz.prog Tryz.f104 c104=true:=by kernel_rfl
def c39:CF:=⟨15,(jo [jx 3 37 4 0,jx 4 3 1 1,jx 5 3 1 2,jc 6 0,jc 7 0] [3,4,5]
 (jo [jf 8 0 3,jl 9 8,jw 10 (.mkfn (.func 104) [] [(.t 4),(.t 5)]),jy 11 103 [9,10],jy 12 102 [11],jz 13 0 12,jz 14 1 12,jm 6 13,jm 7 14] [6,7]
 .ret)),[.t 6,.t 7]⟩
theorem k39:chkF Tryz.prog Tryz.f39 c39=true:=by kernel_rfl
theorem indexFd (f:Nat) (caps:List AV) (hcap:∀ c∈caps,PureV c) (q:Fld→Bool) (l:List Fld) (hl:l.length < 9223372036854775808) (hq:∀ x∈l,Pure Tryz.prog f ([.agg (Fld.cs x)]++caps) (bl (q x))):Pure Tryz.prog 103 [fdS l,.fn (.func f) [] caps] (n (fidx q 0 l)):=by
  refine pB_ Tryz.call103 Tryz.func103 k103 ?_
  unfold c103
  ((refine Au ?_;repeat' constructor)<;>intros<;>refine hD_ ?_)
  refine AWPC.loopI 8 l.length (fun i=>fidx q i (l.drop i)=fidx q 0 l) (by simp) ?_ ?_
  · (simp only [zN,zT,zV,zS,zU,Q0,Q1,ex,Q2,Q3,Q4,Q5,Q6,Q7,Q8,Q9,QA,QB,QC,Nat.reduceBEq,reduceAdd,reduceSub,reduceLT,reduceLeDiff,reduceMul,reduceEqDiff,reduceIte]; try simp)
  · intro i hi hI
    by_cases hlt:i < l.length
    · obtain ⟨x,hx⟩:∃ x,l[i]?=some x:=⟨_,List.getElem?_eq_getElem hlt⟩
      have hc:=hq x (List.mem_of_getElem? hx)
      rw [drop_cons hx,fidx] at hI
      (repeat' ((first
 | refine vn rfl ?_
 | simp (disch:=omega) only [wr64,Int.zero_sub]
 | refine bo (fun _=>?_) fun _=>?_
 | refine im fun _=>?_
 | refine cF ?_
 | refine om ?_
 | refine an ?_
 | fail) <;> try simp only [zN,zT,zV,zS,zU,Q0,Q1,ex,Q2,Q3,Q4,Q5,Q6,Q7,Q8,Q9,QA,QB,QC,Nat.reduceBEq,reduceAdd,reduceSub,reduceLT,reduceLeDiff,reduceMul,reduceEqDiff,reduceIte,getD_map hx]))
      all_goals try (exfalso;omega)
      refine .inl ⟨_,_,_,_,rfl,fun _=>.of ?_ (hc),?_⟩
      · intro a ha
        simp only [List.nil_append,List.cons_append,List.mem_cons] at ha
        rcases ha with rfl | ha
        · simp
        · exact hcap a ha
      refine Zy ?_
      simp only [zN,zT,zV,zS,zU,Q0,Q1,ex,Q2,Q3,Q4,Q5,Q6,Q7,Q8,Q9,QA,QB,QC,Nat.reduceBEq,reduceAdd,reduceSub,reduceLT,reduceLeDiff,reduceMul,reduceEqDiff,reduceIte]
      ((refine Au ?_;repeat' constructor)<;>intros<;>refine hD_ ?_)
      · rename_i h
        rw [h] at hI
        simp only [if_true] at hI
        rw [← hI]
        exact Frz.eq rfl (by simp)
      · rename_i h
        rw [h] at hI
        exact ⟨⟨i+1,hlt,by simpa using hI⟩,by simp,by simp only; omega⟩
    · obtain rfl:i=l.length:=by omega
      rw [List.drop_length,fidx] at hI
      ((refine Au ?_;repeat' constructor)<;>intros<;>refine hD_ ?_)
      all_goals try (exfalso;omega)
      rw [← hI]
      exact Frz.eq rfl (by simp)
theorem found_spec (o:Option Nat) (z:Int) (h:z=match o with | some j=>(j:Int) | none=>-1):Pure Tryz.prog 102 [n z] (.tup [n ((foundE o).1:Nat),n (foundE o).2]):=by
  refine pB_ Tryz.call102 Tryz.func102 k102 ?_
  unfold c102
  cases o with
  | none =>
    subst h
    ((refine Au ?_;repeat' constructor)<;>intros<;>refine hD_ ?_)
    all_goals first | (exfalso; omega) | exact Frz.eq rfl (by simp [foundE])
  | some j =>
    subst h
    ((refine Au ?_;repeat' constructor)<;>intros<;>refine hD_ ?_)
    all_goals first | (exfalso; omega) | exact Frz.eq rfl (by simp [foundE])
theorem fidx_opt {α:Type} (q:α→Bool) (l:List α):fidx q 0 l=match l.findIdx? q with | some j=>(j:Int) | none=>-1:=by rw [fidx_find]; cases l.findIdx? q <;> simp
theorem SheetOf1_spec (s w:Int) (f:Fld):Pure Tryz.prog 104 [.agg f.cs,.iptr [n s] 0,.iptr [n w] 0] (bl (f.stn == s && f.week == w)):=by
  refine pB_ Tryz.call104 Tryz.func104 k104 ?_
  unfold c104
  by_cases h1:f.stn=s <;> by_cases h2:f.week=w
  all_goals (
    ((refine Ax (And.intro @h1 @h2) ?_;repeat' constructor)<;>intros<;>refine hD_ ?_)
    all_goals first | (exfalso; omega) | exact Frz.eq (by simp [h1,h2]) (by simp))
theorem SheetOf_spec (r:Rgr) (hr:r.sheets.length < 9223372036854775808) (s w:Int):Pure Tryz.prog 39 [.agg r.cs,n s,n w] (.tup [n ((foundE (sheetAt r.sheets s w)).1:Nat),n (foundE (sheetAt r.sheets s w)).2]):=by
  refine pB_ Tryz.call39 Tryz.func39 k39 ?_
  unfold c39
  have h:=indexFd 104 [.iptr [n s] 0,.iptr [n w] 0] (by simp) (fun x=>x.stn == s && x.week == w) r.sheets hr fun x _=>SheetOf1_spec s w x
  have h2:=fidx_opt (fun x:Fld=>x.stn == s && x.week == w) r.sheets
  generalize fidx (fun x:Fld=>x.stn == s && x.week == w) 0 r.sheets=z at h h2
  have h3:=found_spec (sheetAt r.sheets s w) z h2
  generalize foundE (sheetAt r.sheets s w)=q at h3
  ((refine Ay (And.intro @h @h3) ?_;repeat' constructor)<;>intros<;>refine hD_ ?_)
  exact Frz.eq rfl (by simp)
def c148:CF:=⟨32,(jo [jx 3 68 38 1] [0,3]
 (jo [jf 6 4 3,jl 7 6] [0,3,7]
 (.block 0 (.seq (.block 2 (.seq (.block 1 (.seq (jo [ju .eql 9 7 7,jm 8 9] [0,3,8]
 (.cond (.t 8) (.exit 1)
 .skip))
 (.exit 2)))
 (.seq (.drawl 9 [jm 11 0,jw 12 (.nilc (.t 11)),jf 13 0 12,jl 14 13,jf 15 36 3,jk 16 2 15,jw 17 (.look 2 true z38 true (.t 14) (.t 16)),jm 10 17,jz 18 0 10,jz 19 1 10,jw 4 (.alloc 68 38 z38)] [js 38 4 18,jm 5 19] [0,3,4,5])
 (jo [jm 20 5,jm 21 20,ja 21 (jf 22 4 4),ja 21 (jl 23 22),ja 21 (ju .neq 24 23 7),jp 25 21 24] [0,3,25]
 (.cond (.t 25) .ret
 .skip)))))
 (.seq (.draw [jm 26 0,jw 27 (.nilc (.t 26)),jf 28 7 27,jl 29 28,jk 30 38 3,jy 31 89 [30]] [⟨none,.mput 2 (.t 29) (.t 31) (.c (.bool true)),none⟩] [])
 (.exit 0)))))),[]⟩
theorem k148:chkF Tryz.prog Tryz.f148 c148=true:=by kernel_rfl
def c142:CF:=⟨32,(jo [jx 3 68 38 1] [0,3]
 (.seq (.seq (.drawl 9 [jm 7 0,jw 8 (.nilc (.t 7)),jf 9 1 8,jl 10 9,jf 11 36 3,jk 12 2 11,jw 13 (.look 2 true z38 true (.t 10) (.t 12)),jm 6 13,jz 14 0 6,jz 15 1 6,jw 4 (.alloc 68 38 z38)] [js 38 4 14,jm 5 15] [0,3,5])
 (jo [jm 16 5,jv 17 16] [0,3,17]
 (.cond (.t 17) (jo [jm 18 0,jk 19 38 3,jy 20 148 [18,19]] []
 .ret)
 .skip)))
 (.draw [jm 21 0,jw 22 (.nilc (.t 21)),jf 23 2 22,jl 24 23,jf 25 36 3,jk 26 2 25,jf 27 5 3,jl 28 27,jf 29 6 3,jl 30 29,jw 31 (.build [.pointer none,.int .i64 0,.int .i64 0] [(1,1,(.t 28)),(2,1,(.t 30))])] [⟨none,.mput 2 (.t 24) (.t 26) (.t 31),none⟩] []))),[]⟩
theorem k142:chkF Tryz.prog Tryz.f142 c142=true:=by kernel_rfl
def c191:CF:=⟨20,(jo [jx 4 29 2 1,jx 5 62 3 2,jb 6 false] [0,4,5]
 (.seq (.draw [jf 7 0 5,jl 8 7,jm 9 0,jw 10 (.nilc (.t 9)),jf 11 1 10,jl 12 11,jk 13 2 4,jw 14 (.look 2 true z38 false (.t 12) (.t 13)),jw 15 (.field 7 (some 18) (.t 14)),jw 16 (.field 12 (some 2) (.t 15)),jw 17 (.field 0 none (.t 16)),je 18 17,jt .leq 19 8 18,jm 6 19] [] [6])
 .ret)),[.t 6]⟩
theorem k191:chkF Tryz.prog Tryz.f191 c191=true:=by kernel_rfl
def c143:CF:=⟨74,(jo [jx 3 68 38 1] [0,3]
 (.seq (.seq (.drawl 9 [jm 7 0,jw 8 (.nilc (.t 7)),jf 9 1 8,jl 10 9,jf 11 36 3,jk 12 2 11,jw 13 (.look 2 true z38 true (.t 10) (.t 12)),jm 6 13,jz 14 0 6,jz 15 1 6,jw 4 (.alloc 68 38 z38)] [js 38 4 14,jm 5 15] [0,3,5])
 (.seq (.draw [jm 16 5,jv 17 16,jm 18 17,jd 18 (jm 19 0),jd 18 (jf 20 36 3),jd 18 (jk 21 2 20),jd 18 (jf 22 25 3),jd 18 (jk 23 3 22),jd 18 (jy 24 191 [19,21,23]),jd 18 (jv 25 24),jq 26 18 25,jm 27 26,jd 27 (jm 28 0),⟨some 29,.nilc (.t 28),some (27,false)⟩,jd 27 (jf 30 3 29),jd 27 (jl 31 30),jd 27 (jf 32 36 3),jd 27 (jk 33 2 32),⟨some 34,.look 2 false [.slice none 0 0] false (.t 31) (.t 33),some (27,false)⟩,jd 27 (je 35 34),jd 27 (ju .geq 36 35 64),jq 37 27 36] [] [0,3,37])
 (.cond (.t 37) (jo [jm 38 0,jk 39 38 3,jy 40 148 [38,39]] []
 .ret)
 .skip)))
 (.seq (.drawb [0,1,2,3,4,5,6,7,8,9,12,10,11,13] [jm 41 0,jw 42 (.nilc (.t 41)),jf 43 3 42,jl 44 43,jf 45 36 3,jk 46 2 45,jk 48 38 3,jy 49 89 [48],jw 50 (.bsl false 29 2 1 [.int .i64 0,.int .i64 0] [(0,2,(.t 49))])]
 (jw 51 (.ment 2 false [.slice none 0 0] (.t 44) (.t 46))) [0,3,44,50,51] [10] 2 [jz 53 1 51] [jz 47 0 51,jw 52 (.app 29 2 16 (.t 47) (.t 50)),⟨none,.est 2 (.t 44) (.t 53) (.t 52),none⟩] [0,3])
 (.draww [0,1,2,3,4,5,6,7,8,9,10,11,12,13,14,15,16,17,18,19,20,21] [12,13,14,15] 5 [jm 54 0,jw 55 (.nilc (.t 54)),jf 56 4 55,jl 57 56,jk 58 38 3,jy 59 89 [58],jm 60 0,jw 61 (.nilc (.t 60)),jf 62 5 61,jl 63 62,jk 64 38 3,jy 65 89 [64],jf 66 25 3,jk 67 3 66,jf 68 36 3,jk 69 2 68] [jw 70 (.ment 2 true [.int .i64 0,.int .i64 0,.int .i64 0] (.t 57) (.t 59)),jz 71 1 70,⟨none,.est 2 (.t 57) (.t 71) (.t 67),none⟩,jw 72 (.ment 2 true [.int .i64 0,.int .i64 0] (.t 63) (.t 65)),jz 73 1 72,⟨none,.est 2 (.t 63) (.t 73) (.t 69),none⟩] [])))),[]⟩
theorem k143:chkF Tryz.prog Tryz.f143 c143=true:=by kernel_rfl
abbrev flA (x:Int × Int):AV:=.agg [.v (.pointer none),n x.1,n x.2]
abbrev rdA (r:Rd):AV:=.agg r.cs
abbrev mkA (m:Mk):AV:=.agg m.cs
abbrev nmA (m:Nm):AV:=.agg m.cs
abbrev mpO (m:List (List Int × AV)):Option (List Ob):=some [⟨0,0,[],some (.mp 2 m)⟩]
abbrev rwO {α:Type} (T k:Nat) (cs:α→List AV) (l:List α):Option (List Ob):=some [⟨T,k,l.map cs,none⟩]
def mkMp:Nat→List (Nm × List Nm)→List (List Int × AV)
  | _,[]=>[]
  | i,x::r=>(x.1.ky,.own 12 i x.2.length)::mkMp (i+1) r
def mkF (N:Nat) (m:List (Nm × List Nm)):List Ob:=(m.map fun x=>⟨29,2,x.2.map Nm.cs,none⟩)++List.replicate (N - m.length) ⟨29,2,[],none⟩
abbrev flO (A:AV) (x:Fs) (o:List Nm):Option (List Ob):=some [⟨194,12,[[A,.mp 1,.mp 2,.mp 3,.mp 4,.mp 5,.mp 6,.mp 7,.own 9 0 x.rs.length,.own 10 0 x.rr.length,.own 13 0 x.st.length,.own 11 0 o.length]],none⟩]
abbrev rgO:Option (List Ob):=some [⟨37,4,[[.v (.slice none 0 0),.v (.slice none 0 0),.v (.slice none 0 0),.v (.slice none 0 0)]],none⟩]
def FST (N:Nat) (A:AV) (x:Fs) (o:List Nm):Sto :=
  [rgO,mpO (kenc ntA x.sheets),mpO (kenc flA x.filed),mpO (mkMp 0 x.marks),mpO (kenc mkA x.marked),mpO (kenc nmA x.on),mpO (kenc rdA x.reads),mpO (kenc bl x.confl),
    flO A x o,rwO 72 24 Fld.cs x.rs,rwO 64 5 Rd.cs x.rr,rwO 29 2 Nm.cs o,some (mkF N x.marks),rwO 109 4 Stn.cs x.st]
inductive FR (N:Nat) (A:AV) (x:Fs) (o:List Nm) (ν:Sto):AV→Sto→Prop
  | mk (ν':Sto) {r:AV} {σ':Sto} (h:σ'=FST N A x o++(ν++ν')):FR N A x o ν r σ'
abbrev alA (al:List (Nm × Nt)):AV:=.imap 2 (kenc ntA al)
theorem clash_does (N:Nat) (al:List (Nm × Nt)) (x:Fs) (o:List Nm) (a:Nt) (ν:Sto):Does Tryz.prog 148 [.ptr 8 0 1 0 0,ntA a] (FST N (alA al) x o++ν) (FR N (alA al) (clashF al x a) o ν):=by
  refine dB_ Tryz.call148 Tryz.func148 k148 ?_
  unfold c148
  have hA:=mget_kenc ntA a.ref al
  have hM:=mset_kenc bl a.nm true x.confl
  simp only [FST,List.cons_append,List.nil_append]
  unfold alA
  generalize kenc ntA al=W at hA ⊢
  simp only [Nm.ky] at hA hM
  by_cases hk:a.kind=7
  · cases hg:kget al a.ref with
    | none =>
      rw [hg] at hA
      simp only [Option.map_none] at hA
      have hC:clashF al x a={ x with confl:=kset x.confl a.nm true }:=by unfold clashF; rw [if_neg (by simp [hg])]
      rw [hC]
      ((refine Az (And.intro @hk (And.intro @hA @hM)) (Zw a) ?_;repeat' constructor)<;>intros<;>refine hD_ ?_)
      exact .mk _ rfl
    | some m =>
      rw [hg] at hA
      simp only [Option.map_some] at hA
      by_cases hm:m.kind=7
      · have hC:clashF al x a={ x with confl:=kset x.confl a.nm true }:=by unfold clashF; rw [if_neg (by simp [hg,hm])]
        rw [hC]
        ((refine Az (And.intro @hk (And.intro @hA (And.intro @hM @hm))) (Zw a) ?_;repeat' constructor)<;>intros<;>refine hD_ ?_)
        exact .mk _ rfl
      · have hC:clashF al x a=x:=by unfold clashF; rw [if_pos (by simp [hg,hm,hk])]
        rw [hC]
        ((refine Az (And.intro @hk (And.intro @hA @hM)) (Zw a) ?_;repeat' constructor)<;>intros<;>refine hD_ ?_)
        all_goals first | (exfalso; omega) | exact .mk _ rfl
  · have hC:clashF al x a={ x with confl:=kset x.confl a.nm true }:=by unfold clashF; rw [if_neg (fun h=>hk h.1)]
    rw [hC]
    ((refine Az (And.intro @hA @hM) (Zw a) ?_;repeat' constructor)<;>intros<;>refine hD_ ?_)
    all_goals first | (exfalso; omega) | exact .mk [] (by rw [List.append_nil]; rfl)
theorem file_does (N:Nat) (al:List (Nm × Nt)) (x:Fs) (o:List Nm) (a:Nt) (ν:Sto):Does Tryz.prog 142 [.ptr 8 0 1 0 0,ntA a] (FST N (alA al) x o++ν) (FR N (alA al) (fileF al x a) o ν):=by
  refine dB_ Tryz.call142 Tryz.func142 k142 ?_
  unfold c142
  have hA:=mget_kenc ntA a.ref x.sheets
  have hM:=mset_kenc flA a.ref (a.stn,a.week) x.filed
  have hc:=fun μ=>clash_does N al x o a μ
  cases hg:kget x.sheets a.ref with
  | none =>
    have hC:fileF al x a=clashF al x a:=by unfold fileF; rw [hg]
    rw [hC]
    rw [hg] at hA
    simp only [FST,List.cons_append,List.nil_append]
    simp only [Nm.ky,Option.map_none] at hA
    ((refine Ax @hA ?_;repeat' constructor)<;>intros<;>refine hD_ ?_)
    refine .inr (.inl ⟨_,_,_,_,rfl,fun _=>⟨hc _,?_⟩,fun h=>by cases h⟩)
    rintro r σ' ⟨ν',rfl⟩
    refine Zy ?_
    simp only [zN,zT,zV,zS,zU,Q0,Q1,ex,Q2,Q3,Q4,Q5,Q6,Q7,Q8,Q9,QA,QB,QC,Nat.reduceBEq,reduceAdd,reduceSub,reduceLT,reduceLeDiff,reduceMul,reduceEqDiff,reduceIte]
    ((refine Au ?_;repeat' constructor)<;>intros<;>refine hD_ ?_)
    exact .mk ([some [⟨68,38,[vs z38],none⟩]]++ν') (by simp)
  | some m =>
    have hC:fileF al x a={ x with filed:=kset x.filed a.ref (a.stn,a.week) }:=by unfold fileF; rw [hg]
    rw [hC]
    rw [hg] at hA
    simp only [FST,List.cons_append,List.nil_append]
    simp only [Nm.ky,Option.map_some] at hA
    ((refine Ax (And.intro @hA @hM) ?_;repeat' constructor)<;>intros<;>refine hD_ ?_)
    exact .mk _ rfl
theorem fits_spec (M:List (Nm × Nt)) (s:Nm) (m:Mk):Pure Tryz.prog 191 [.iptr [.any,.imap 2 (kenc ntA M),.any,.any,.any,.any,.any,.any,.any,.any,.any,.any] 0,.agg s.cs,.agg m.cs] (bl (decide (m.col≤(((kget M s).getD nt0).sheet.rates.length:Int)))):=by
  refine pB_ Tryz.call191 Tryz.func191 k191 ?_
  unfold c191
  have hA:=mget_kenc ntA s M
  cases hg:kget M s with
  | none =>
    rw [hg] at hA
    simp only [Nm.ky,Option.map_none] at hA
    ((refine Ax @hA ?_;repeat' constructor)<;>intros<;>refine hD_ ?_)
    exact Frz.eq (congrArg bl (by rw [decide_eq_decide]; simp [nt0,sht0])) (by simp)
  | some a =>
    rw [hg] at hA
    simp only [Nm.ky,Option.map_some] at hA
    ((refine Ax @hA ?_;repeat' constructor)<;>intros<;>refine hD_ ?_)
    exact Frz.eq (by simp) (by simp)
theorem kenc_frz {β:Type} {f:β→AV} {σ:Sto} {i:Nat} {M:List (Nm × β)} (hf:∀ x,PureV (f x)) (h:σ.at i 0=some ⟨0,0,[],some (.mp 2 (kenc f M))⟩):Frz σ (.mp i) (.imap 2 (kenc f M)) :=
  Frz.mp h rfl rfl (fun i hi=>rfl) fun i hi=>Frz.eq rfl (kenc_pv _ hf _ (getD_mem hi))
theorem fits_peek (N:Nat) (al:List (Nm × Nt)) (x:Fs) (o:List Nm) (s:Nm) (m:Mk) (ν:Sto):Peek Tryz.prog 191 [.ptr 8 0 1 0 0,.agg s.cs,.agg m.cs] (FST N (alA al) x o++ν) (bl (fitsF x s m)):=by
  refine Peek.plain (fits_spec x.sheets s m) (by simp) ⟨?_,Frz.pure (by simp),Frz.pure (by simp),trivial⟩
  refine Frz.ptr (o:=⟨194,12,[[alA al,.mp 1,.mp 2,.mp 3,.mp 4,.mp 5,.mp 6,.mp 7,.own 9 0 x.rs.length,.own 10 0 x.rr.length,.own 13 0 x.st.length,.own 11 0 o.length]],none⟩) rfl rfl (by simp) rfl fun t ht=>?_
  match t,ht with
  | 1,_=>exact kenc_frz (M:=x.sheets) (fun a=>by simp) rfl
  | 0,_ | 2,_ | 3,_ | 4,_ | 5,_ | 6,_ | 7,_ | 8,_ | 9,_ | 10,_ | 11,_=>exact Frz.any
def kidx {β:Type}:List (Nm × β)→Nm→Nat
  | [],_=>0
  | x::r,k=>if x.1=k then 0 else kidx r k+1
theorem mget_mkMp (m:Nm):∀ (M:List (Nm × List Nm)) (i:Nat),mget (mkMp i M) m.ky=(kget M m).map fun l=>.own 12 (i+kidx M m) l.length
  | [],i=>rfl
  | x::r,i=>by
    simp only [mkMp,mget,kget,kidx,ky_inj,mget_mkMp m r]
    split
    · rfl
    · rw [show i+1+kidx r m=i+(kidx r m+1) by omega]
theorem mset_mkMp (m:Nm) (l:List Nm):∀ (M:List (Nm × List Nm)) (i:Nat),mset (mkMp i M) m.ky (.own 12 (i+kidx M m) l.length)=mkMp i (kset M m l)
  | [],i=>rfl
  | x::r,i=>by
    have h:=mset_mkMp m l r (i+1)
    simp only [mkMp,mset,kset,kidx,ky_inj]
    split
    · rename_i h; simp [mkMp,h]
    · rw [mkMp,← h,show i+1+kidx r m=i+(kidx r m+1) by omega]
theorem kidx_none {β:Type} (m:Nm):∀ M:List (Nm × β),kget M m=none→kidx M m=M.length∧∀ v,kset M m v=M++[(m,v)]
  | [],_=>⟨rfl,fun _=>rfl⟩
  | x::r,h=>by
    simp only [kget] at h
    split at h
    · cases h
    rename_i hne
    obtain ⟨h1,h2⟩:=kidx_none m r h
    simp only [kidx,kset,hne,if_false,h1,h2]
    exact ⟨rfl,fun _=>rfl⟩
theorem kidx_some {β:Type} (m:Nm) (l:β):∀ M:List (Nm × β),kget M m=some l→M[kidx M m]?=some (m,l)∧∀ v,kset M m v=M.set (kidx M m) (m,v)
  | [],h=>by cases h
  | x::r,h=>by
    simp only [kget] at h
    split at h
    · rename_i he
      injection h with h
      subst h he
      simp [kidx,kset]
    · rename_i hne
      obtain ⟨h1,h2⟩:=kidx_some m l r h
      simp [kidx,kset,hne,h1,h2]
theorem mkF_none {N:Nat} {M:List (Nm × List Nm)} {m:Nm} (h:kget M m=none) (hN:M.length < N):(mkF N M)[kidx M m]?=some ⟨29,2,[],none⟩∧∀ l:List Nm,(mkF N M).set (kidx M m) ⟨29,2,l.map Nm.cs,none⟩=mkF N (kset M m l):=by
  obtain ⟨h1,h2⟩:=kidx_none m M h
  have e:List.replicate (N - M.length) (⟨29,2,[],none⟩:Ob)=⟨29,2,[],none⟩::List.replicate (N - (M.length+1)) ⟨29,2,[],none⟩:=by
    rw [show N - M.length=(N - (M.length+1))+1 by omega]; rfl
  unfold mkF
  rw [h1,e]
  refine ⟨by simp,fun l=>?_⟩
  rw [h2]
  simp
theorem mkF_some {N:Nat} {M:List (Nm × List Nm)} {m:Nm} {l:List Nm} (h:kget M m=some l):(mkF N M)[kidx M m]?=some ⟨29,2,l.map Nm.cs,none⟩∧∀ l:List Nm,(mkF N M).set (kidx M m) ⟨29,2,l.map Nm.cs,none⟩=mkF N (kset M m l):=by
  obtain ⟨h1,h2⟩:=kidx_some m l M h
  have hlt:=(List.getElem?_eq_some_iff.1 h1).1
  unfold mkF
  refine ⟨?_,fun l=>?_⟩
  · rw [List.getElem?_append_left (by simpa using hlt),List.getElem?_map,h1]; rfl
  · rw [h2,List.length_set,List.set_append_left _ _ (by simpa using hlt),List.map_set]
theorem renm_refl {h n f i:Nat}:∀ M:List (List Int × AV),Renm h n f i M M
  | []=>trivial
  | x::r=>⟨rfl,.inl rfl,renm_refl r⟩
theorem renm_mset {h n f i:Nat} (k:List Int):∀ M:List (List Int × AV),Renm h n f i (mset M k (.own h 0 n)) (mset M k (.own f i n))
  | []=>⟨rfl,.inr ⟨rfl,rfl⟩,trivial⟩
  | x::r=>by
    simp only [mset]
    split
    · exact ⟨rfl,.inr ⟨rfl,rfl⟩,renm_refl r⟩
    · exact ⟨rfl,.inl rfl,renm_mset k r⟩
theorem midx_ok (M:List (List Int × AV)) (k:List Int) (v:AV):((0:Int)≤(midx M k:Int)∧(midx M k:Int) < ((mset M k v).length:Int))=True:=by
  have:=@mset_len M k v
  simp only [eq_iff_iff,iff_true]
  omega
theorem gone15 (x0 x1 x2 x3 x4 x5 x6 x7 x8 x9 x10 x11 x12 x13 t u:Option (List Ob)) (ν:Sto):gone (x0::x1::x2::x3::x4::x5::x6::x7::x8::x9::x10::x11::x12::x13::(ν++[t,u])) (List.length ν+15)=x0::x1::x2::x3::x4::x5::x6::x7::x8::x9::x10::x11::x12::x13::(ν++[t,none]):=by
  have e:(x0::x1::x2::x3::x4::x5::x6::x7::x8::x9::x10::x11::x12::x13::(ν++[t,u]):Sto)=(x0::x1::x2::x3::x4::x5::x6::x7::x8::x9::x10::x11::x12::x13::(ν++[t]))++[u]:=by simp
  rw [e,gone,List.set_append_right _ _ (by simp)]
  simp
theorem at15 (x0 x1 x2 x3 x4 x5 x6 x7 x8 x9 x10 x11 x12 x13 t:Option (List Ob)) (u:Ob) (ν:Sto):Sto.at (x0::x1::x2::x3::x4::x5::x6::x7::x8::x9::x10::x11::x12::x13::(ν++[t,some [u]])) (List.length ν+15) 0=some u:=by
  have e:(x0::x1::x2::x3::x4::x5::x6::x7::x8::x9::x10::x11::x12::x13::(ν++[t,some [u]]):Sto)=(x0::x1::x2::x3::x4::x5::x6::x7::x8::x9::x10::x11::x12::x13::(ν++[t]))++[some [u]]:=by simp
  have:=at_app0 (x0::x1::x2::x3::x4::x5::x6::x7::x8::x9::x10::x11::x12::x13::(ν++[t])) [some [u]] 0
  rw [e,show List.length ν+15=(x0::x1::x2::x3::x4::x5::x6::x7::x8::x9::x10::x11::x12::x13::(ν++[t])).length by simp,this]
  rfl
theorem mark_does (N:Nat) (al:List (Nm × Nt)) (x:Fs) (o:List Nm) (a:Nt) (hN:x.marks.length < N) (ν:Sto):Does Tryz.prog 143 [.ptr 8 0 1 0 0,ntA a] (FST N (alA al) x o++ν) (FR N (alA al) (markF al x a) o ν):=by
  refine dB_ Tryz.call143 Tryz.func143 k143 ?_
  unfold c143
  have hA:=mget_kenc ntA a.ref x.sheets
  have hc:=fun μ=>clash_does N al x o a μ
  have hf:=fun μ=>fits_peek N al x o a.ref a.mark μ
  have hm:=mget_mkMp a.ref x.marks 0
  rw [Nat.zero_add] at hm
  simp only [Nm.ky] at hm
  cases hg:kget x.sheets a.ref with
  | none =>
    have hC:markF al x a=clashF al x a:=by unfold markF; rw [if_pos (.inl (by simp [hg]))]
    rw [hC]
    rw [hg] at hA
    simp only [FST,List.cons_append,List.nil_append]
    simp only [Nm.ky,Option.map_none] at hA
    cases hgm:kget x.marks a.ref with
    | none =>
      rw [hgm] at hm
      simp only [Option.map_none] at hm
      ((refine Ax (And.intro @hA @hm) ?_;repeat' constructor)<;>intros<;>refine hD_ ?_)
      refine .inr (.inl ⟨_,_,_,_,rfl,fun _=>⟨hc _,?_⟩,fun h=>by cases h⟩)
      rintro r σ' ⟨ν',rfl⟩
      refine Zy ?_
      simp only [zN,zT,zV,zS,zU,Q0,Q1,ex,Q2,Q3,Q4,Q5,Q6,Q7,Q8,Q9,QA,QB,QC,Nat.reduceBEq,reduceAdd,reduceSub,reduceLT,reduceLeDiff,reduceMul,reduceEqDiff,reduceIte]
      ((refine Au ?_;repeat' constructor)<;>intros<;>refine hD_ ?_)
      exact .mk ([some [⟨68,38,[vs z38],none⟩]]++ν') (by simp)
    | some l =>
      rw [hgm] at hm
      simp only [Option.map_some] at hm
      have hfa:=(mkF_some (N:=N) hgm).1
      ((refine Ax (And.intro @hA (And.intro @hm @hfa)) ?_;repeat' constructor)<;>intros<;>refine hD_ ?_)
      refine .inr (.inl ⟨_,_,_,_,rfl,fun _=>⟨hc _,?_⟩,fun h=>by cases h⟩)
      rintro r σ' ⟨ν',rfl⟩
      refine Zy ?_
      simp only [zN,zT,zV,zS,zU,Q0,Q1,ex,Q2,Q3,Q4,Q5,Q6,Q7,Q8,Q9,QA,QB,QC,Nat.reduceBEq,reduceAdd,reduceSub,reduceLT,reduceLeDiff,reduceMul,reduceEqDiff,reduceIte]
      ((refine Au ?_;repeat' constructor)<;>intros<;>refine hD_ ?_)
      exact .mk ([some [⟨68,38,[vs z38],none⟩]]++ν') (by simp)
  | some m =>
    rw [hg] at hA
    simp only [FST,List.cons_append,List.nil_append]
    simp only [Nm.ky,Option.map_some] at hA
    cases hfit:fitsF x a.ref a.mark with
    | false =>
      have hC:markF al x a=clashF al x a:=by unfold markF; rw [if_pos (.inr (.inl hfit))]
      rw [hC]
      rw [hfit] at hf
      cases hgm:kget x.marks a.ref with
      | none =>
        rw [hgm] at hm
        simp only [Option.map_none] at hm
        (repeat' ((first
 | refine vn rfl ?_
 | simp (disch:=omega) only [wr64,Int.zero_sub]
 | refine bo (fun _=>?_) fun _=>?_
 | refine im fun _=>?_
 | ((repeat refine si ?_); ((first | refine .inl ⟨_,_,_,_,rfl,fun _=>(by first | exact hf _),?_⟩ | refine ⟨_,_,_,_,rfl,fun _=>(by first | exact hf _),?_⟩); (first | refine o1 ?_ | refine o2 ?_ | refine o3 ?_ | refine o4 ?_)))
 | refine cF ?_
 | refine om ?_
 | refine an ?_
 | fail) <;> try simp only [zN, zT, zV, zS, zU, vcC, lateX, ex, strp, binA, elems, cells, scalar, eqC, keyA, intsA, lookA, ofVs, mpOf, Nat.reduceBEq, reduceAdd, reduceSub, reduceLT, reduceLeDiff, reduceMul, reduceEqDiff, reduceIte, hA, hm]))
        refine .inr (.inl ⟨_,_,_,_,rfl,fun _=>⟨hc _,?_⟩,fun h=>by cases h⟩)
        rintro r σ' ⟨ν',rfl⟩
        refine Zy ?_
        simp only [zN,zT,zV,zS,zU,Q0,Q1,ex,Q2,Q3,Q4,Q5,Q6,Q7,Q8,Q9,QA,QB,QC,Nat.reduceBEq,reduceAdd,reduceSub,reduceLT,reduceLeDiff,reduceMul,reduceEqDiff,reduceIte]
        ((refine Au ?_;repeat' constructor)<;>intros<;>refine hD_ ?_)
        exact .mk ([some [⟨68,38,[m.cs],none⟩]]++ν') (by simp)
      | some l =>
        rw [hgm] at hm
        simp only [Option.map_some] at hm
        have hfa:=(mkF_some (N:=N) hgm).1
        (repeat' ((first
 | refine vn rfl ?_
 | simp (disch:=omega) only [wr64,Int.zero_sub]
 | refine bo (fun _=>?_) fun _=>?_
 | refine im fun _=>?_
 | ((repeat refine si ?_); ((first | refine .inl ⟨_,_,_,_,rfl,fun _=>(by first | exact hf _),?_⟩ | refine ⟨_,_,_,_,rfl,fun _=>(by first | exact hf _),?_⟩); (first | refine o1 ?_ | refine o2 ?_ | refine o3 ?_ | refine o4 ?_)))
 | refine cF ?_
 | refine om ?_
 | refine an ?_
 | fail) <;> try simp only [zN, zT, zV, zS, zU, vcC, lateX, ex, strp, binA, elems, cells, scalar, eqC, keyA, intsA, lookA, ofVs, mpOf, Nat.reduceBEq, reduceAdd, reduceSub, reduceLT, reduceLeDiff, reduceMul, reduceEqDiff, reduceIte, hA, hm, hfa, List.length_map]))
        refine .inr (.inl ⟨_,_,_,_,rfl,fun _=>⟨hc _,?_⟩,fun h=>by cases h⟩)
        rintro r σ' ⟨ν',rfl⟩
        refine Zy ?_
        simp only [zN,zT,zV,zS,zU,Q0,Q1,ex,Q2,Q3,Q4,Q5,Q6,Q7,Q8,Q9,QA,QB,QC,Nat.reduceBEq,reduceAdd,reduceSub,reduceLT,reduceLeDiff,reduceMul,reduceEqDiff,reduceIte]
        ((refine Au ?_;repeat' constructor)<;>intros<;>refine hD_ ?_)
        exact .mk ([some [⟨68,38,[m.cs],none⟩]]++ν') (by simp)
    | true =>
      rw [hfit] at hf
      have hm2:=mset_kenc mkA a.nm a.mark x.marked
      have hm3:=mset_kenc nmA a.nm a.ref x.on
      simp only [Nm.ky] at hm2 hm3
      cases hgm:kget x.marks a.ref with
      | none =>
        rw [hgm] at hm
        simp only [Option.map_none] at hm
        have hC:markF al x a={ x with marks:=kset x.marks a.ref [a.nm],marked:=kset x.marked a.nm a.mark,on:=kset x.on a.nm a.ref }:=by
          unfold markF; rw [if_neg (by simp [hg,hfit,hgm])]; simp [hgm]
        rw [hC]
        have hp:=@mputAt_mset
        obtain ⟨f1,f2⟩:=mkF_none hgm hN
        have hM:=mset_mkMp a.ref [a.nm] x.marks 0
        rw [Nat.zero_add] at hM
        (repeat' ((first
 | refine vn rfl ?_
 | simp (disch:=omega) only [wr64,Int.zero_sub]
 | refine bo (fun _=>?_) fun _=>?_
 | refine im fun _=>?_
 | ((repeat refine si ?_); ((first | refine .inl ⟨_,_,_,_,rfl,fun _=>(by first | exact hf _),?_⟩ | refine ⟨_,_,_,_,rfl,fun _=>(by first | exact hf _),?_⟩); (first | refine o1 ?_ | refine o2 ?_ | refine o3 ?_ | refine o4 ?_)))
 | ((repeat refine si ?_); (first | ((first | refine .inl ⟨_,_,_,_,rfl,fun _=>pu (Zw a),?_⟩ | refine ⟨_,_,_,_,rfl,fun _=>pu (Zw a),?_⟩); (first | refine o1 ?_ | refine o2 ?_ | refine o3 ?_ | refine o4 ?_)) | refine .inl ⟨_,_,_,_,rfl,pu (Zw a),?_⟩))
 | refine cF ?_
 | refine om ?_
 | refine an ?_
 | fail) <;> try simp only [zN, zT, zV, zS, zU, vcC, lateX, ex, strp, binA, elems, cells, scalar, eqC, keyA, intsA, lookA, ofVs, mpOf, Nat.reduceBEq, reduceAdd, reduceSub, reduceLT, reduceLeDiff, reduceMul, reduceEqDiff, reduceIte, hA, hm]))
        all_goals try (exfalso;omega)
        rw [midx_ok,hp]
        refine ⟨trivial,?_⟩
        refine AWPC.tuckM (h:=List.length ν+15) (f:=12) (i:=kidx x.marks a.ref) (m:=3) (nk:=2) (n:=1) (o:=⟨29,2,[[n a.clerk,n a.num]],none⟩) (p:=⟨29,2,[],none⟩)
          (at15 _ _ _ _ _ _ _ _ _ _ _ _ _ _ _ _ _) rfl rfl (by omega) f1 rfl rfl (by omega) rfl rfl (by omega) (by omega) (renm_mset _ _) ?_
        rw [gone15]
        have hM':mset (mkMp 0 x.marks) [a.ref.clerk,a.ref.num] (.own 12 (kidx x.marks a.ref) 1)=mkMp 0 (kset x.marks a.ref [a.nm]):=hM
        have hF':(mkF N x.marks).set (kidx x.marks a.ref) ⟨29,2,[[n a.clerk,n a.num]],none⟩=mkF N (kset x.marks a.ref [a.nm]):=f2 [a.nm]
        rw [hM']
        show AWPC Tryz.prog 74 none _ _ _ (rgO::mpO (kenc ntA x.sheets)::mpO (kenc flA x.filed)::mpO (mkMp 0 (kset x.marks a.ref [a.nm]))::mpO (kenc mkA x.marked)::mpO (kenc nmA x.on)::mpO (kenc rdA x.reads)::mpO (kenc bl x.confl) ::
            flO (alA al) x o::rwO 72 24 Fld.cs x.rs::rwO 64 5 Rd.cs x.rr::rwO 29 2 Nm.cs o::some ((mkF N x.marks).set (kidx x.marks a.ref) ⟨29,2,[[n a.clerk,n a.num]],none⟩)::rwO 109 4 Stn.cs x.st::(ν++[some [⟨68,38,[m.cs],none⟩],none]))
        rw [hF']
        ((refine Az (And.intro @hp (And.intro @midx_ok (And.intro @hm2 @hm3))) (Zw a) ?_;repeat' constructor)<;>intros<;>refine hD_ ?_)
        exact .mk _ rfl
      | some l =>
        rw [hgm] at hm
        simp only [Option.map_some] at hm
        have hfa:=(mkF_some (N:=N) hgm).1
        by_cases h64:64≤l.length
        · have hC:markF al x a=clashF al x a:=by unfold markF; rw [if_pos (.inr (.inr (by simp [hgm]; exact h64)))]
          rw [hC]
          (repeat' ((first
 | refine vn rfl ?_
 | simp (disch:=omega) only [wr64,Int.zero_sub]
 | refine bo (fun _=>?_) fun _=>?_
 | refine im fun _=>?_
 | ((repeat refine si ?_); ((first | refine .inl ⟨_,_,_,_,rfl,fun _=>(by first | exact hf _),?_⟩ | refine ⟨_,_,_,_,rfl,fun _=>(by first | exact hf _),?_⟩); (first | refine o1 ?_ | refine o2 ?_ | refine o3 ?_ | refine o4 ?_)))
 | refine cF ?_
 | refine om ?_
 | refine an ?_
 | fail) <;> try simp only [zN, zT, zV, zS, zU, vcC, lateX, ex, strp, binA, elems, cells, scalar, eqC, keyA, intsA, lookA, ofVs, mpOf, Nat.reduceBEq, reduceAdd, reduceSub, reduceLT, reduceLeDiff, reduceMul, reduceEqDiff, reduceIte, hA, hm, hfa, List.length_map]))
          all_goals try (exfalso;omega)
          refine .inr (.inl ⟨_,_,_,_,rfl,fun _=>⟨hc _,?_⟩,fun h=>by cases h⟩)
          rintro r σ' ⟨ν',rfl⟩
          refine Zy ?_
          simp only [zN,zT,zV,zS,zU,Q0,Q1,ex,Q2,Q3,Q4,Q5,Q6,Q7,Q8,Q9,QA,QB,QC,Nat.reduceBEq,reduceAdd,reduceSub,reduceLT,reduceLeDiff,reduceMul,reduceEqDiff,reduceIte]
          ((refine Au ?_;repeat' constructor)<;>intros<;>refine hD_ ?_)
          exact .mk ([some [⟨68,38,[m.cs],none⟩]]++ν') (by simp)
        · have hC:markF al x a={ x with marks:=kset x.marks a.ref (l++[a.nm]),marked:=kset x.marked a.nm a.mark,on:=kset x.on a.nm a.ref }:=by
            unfold markF; rw [if_neg (by simp [hg,hfit,hgm]; omega)]; simp [hgm]
          rw [hC]
          have hp:=@mputAt_mset
          have hM:=mset_mkMp a.ref (l++[a.nm]) x.marks 0
          rw [Nat.zero_add,List.length_append] at hM
          have hM':mset (mkMp 0 x.marks) [a.ref.clerk,a.ref.num] (.own 12 (kidx x.marks a.ref) (l.length+1))=mkMp 0 (kset x.marks a.ref (l++[a.nm])):=hM
          have hF:=(mkF_some (N:=N) hgm).2 (l++[a.nm])
          rw [List.map_append] at hF
          have hF':(mkF N x.marks).set (kidx x.marks a.ref) ⟨29,2,l.map Nm.cs++[[n a.clerk,n a.num]],none⟩=mkF N (kset x.marks a.ref (l++[a.nm])):=hF
          (repeat' ((first
 | refine vn rfl ?_
 | simp (disch:=omega) only [wr64,Int.zero_sub]
 | refine bo (fun _=>?_) fun _=>?_
 | refine im fun _=>?_
 | ((repeat refine si ?_); ((first | refine .inl ⟨_,_,_,_,rfl,fun _=>(by first | exact hf _),?_⟩ | refine ⟨_,_,_,_,rfl,fun _=>(by first | exact hf _),?_⟩); (first | refine o1 ?_ | refine o2 ?_ | refine o3 ?_ | refine o4 ?_)))
 | ((repeat refine si ?_); (first | ((first | refine .inl ⟨_,_,_,_,rfl,fun _=>pu (Zw a),?_⟩ | refine ⟨_,_,_,_,rfl,fun _=>pu (Zw a),?_⟩); (first | refine o1 ?_ | refine o2 ?_ | refine o3 ?_ | refine o4 ?_)) | refine .inl ⟨_,_,_,_,rfl,pu (Zw a),?_⟩))
 | refine cF ?_
 | refine om ?_
 | refine an ?_
 | fail) <;> try simp only [zN, zT, zV, zS, zU, vcC, lateX, ex, strp, binA, elems, cells, scalar, eqC, keyA, intsA, lookA, ofVs, mpOf, Nat.reduceBEq, reduceAdd, reduceSub, reduceLT, reduceLeDiff, reduceMul, reduceEqDiff, reduceIte, hA, hm, hfa, hp, midx_ok, List.length_map, hM', hF', hm2, hm3]))
          all_goals try (exfalso;omega)
          exact .mk _ rfl
def c144:CF:=⟨72,(jo [jx 3 68 38 1] [0,3]
 (.seq (jo [jf 8 28 3,jf 9 0 8,jl 10 9,ju .neq 11 10 0] [0,3,11]
 (.cond (.t 11) (.seq (.seq (.drawl 9 [jm 13 0,jw 14 (.nilc (.t 13)),jf 15 6 14,jl 16 15,jf 17 36 3,jk 18 2 17,jw 19 (.look 2 true [.int .i64 0,.int .i64 0,.int .i64 0,.int .i64 0,.int .i64 0] true (.t 16) (.t 18)),jm 12 19,jz 20 0 12,jz 21 1 12,jw 4 (.alloc 64 5 [.int .i64 0,.int .i64 0,.int .i64 0,.int .i64 0,.int .i64 0])] [js 5 4 20,jm 5 21] [0,3,5])
 (jo [jm 22 5,jv 23 22] [0,3,23]
 (.cond (.t 23) (jo [jm 24 0,jk 25 38 3,jy 26 148 [24,25]] []
 .ret)
 .skip)))
 (.seq (.draw [jm 27 0,jw 28 (.nilc (.t 27)),jf 29 6 28,jl 30 29,jf 31 36 3,jk 32 2 31,jf 33 28 3,jk 34 5 33] [⟨none,.mput 2 (.t 30) (.t 32) (.t 34),none⟩] [])
 .ret))
 .skip))
 (.seq (.seq (.drawl 9 [jm 36 0,jw 37 (.nilc (.t 36)),jf 38 4 37,jl 39 38,jf 40 36 3,jk 41 2 40,jw 42 (.look 2 true [.int .i64 0,.int .i64 0,.int .i64 0] true (.t 39) (.t 41)),jm 35 42,jz 43 0 35,jz 44 1 35,jw 6 (.alloc 62 3 [.int .i64 0,.int .i64 0,.int .i64 0])] [js 3 6 43,jm 7 44] [0,3,7])
 (.seq (.draw [jm 45 7,jv 46 45,jm 47 46,jd 47 (jm 48 0),jd 47 (jm 49 0),⟨some 50,.nilc (.t 49),some (47,false)⟩,jd 47 (jf 51 5 50),jd 47 (jl 52 51),jd 47 (jf 53 36 3),jd 47 (jk 54 2 53),⟨some 55,.look 2 true [.int .i64 0,.int .i64 0] false (.t 52) (.t 54),some (47,false)⟩,jd 47 (jf 56 25 3),jd 47 (jk 57 3 56),jd 47 (jy 58 191 [48,55,57]),jd 47 (jv 59 58),jq 60 47 59] [] [0,3,60])
 (.cond (.t 60) (jo [jm 61 0,jk 62 38 3,jy 63 148 [61,62]] []
 .ret)
 .skip)))
 (.draw [jm 64 0,jw 65 (.nilc (.t 64)),jf 66 4 65,jl 67 66,jf 68 36 3,jk 69 2 68,jf 70 25 3,jk 71 3 70] [⟨none,.mput 2 (.t 67) (.t 69) (.t 71),none⟩] [])))),[]⟩
theorem k144:chkF Tryz.prog Tryz.f144 c144=true:=by kernel_rfl
theorem correct_does (N:Nat) (al:List (Nm × Nt)) (x:Fs) (o:List Nm) (a:Nt) (ν:Sto):Does Tryz.prog 144 [.ptr 8 0 1 0 0,ntA a] (FST N (alA al) x o++ν) (FR N (alA al) (correctF al x a) o ν):=by
  refine dB_ Tryz.call144 Tryz.func144 k144 ?_
  unfold c144
  have hc:=fun μ=>clash_does N al x o a μ
  by_cases hs:a.read.stn=0
  · have hA:=mget_kenc mkA a.ref x.marked
    have hO:=mget_kenc nmA a.ref x.on
    have hM:=mset_kenc mkA a.ref a.mark x.marked
    simp only [Nm.ky] at hA hO hM
    have hf:=fun μ=>fits_peek N al x o ((kget x.on a.ref).getD nm0) a.mark μ
    cases hg:kget x.marked a.ref with
    | none =>
      have hC:correctF al x a=clashF al x a:=by unfold correctF; rw [if_neg (by simp [hs]),if_pos (.inl (by simp [hg]))]
      rw [hC]
      rw [hg] at hA
      simp only [FST,List.cons_append,List.nil_append]
      simp only [Option.map_none] at hA
      cases hgo:kget x.on a.ref with
      | none =>
        rw [hgo] at hO
        simp only [Option.map_none] at hO
        ((refine Ax (And.intro @hs (And.intro @hA @hO)) ?_;repeat' constructor)<;>intros<;>refine hD_ ?_)
        refine .inr (.inl ⟨_,_,_,_,rfl,fun _=>⟨hc _,?_⟩,fun h=>by cases h⟩)
        rintro r σ' ⟨ν',rfl⟩
        refine Zy ?_
        simp only [zN,zT,zV,zS,zU,Q0,Q1,ex,Q2,Q3,Q4,Q5,Q6,Q7,Q8,Q9,QA,QB,QC,Nat.reduceBEq,reduceAdd,reduceSub,reduceLT,reduceLeDiff,reduceMul,reduceEqDiff,reduceIte]
        ((refine Au ?_;repeat' constructor)<;>intros<;>refine hD_ ?_)
        exact .mk ([some [⟨62,3,[[n 0,n 0,n 0]],none⟩]]++ν') (by simp)
      | some s =>
        rw [hgo] at hO
        simp only [Option.map_some] at hO
        ((refine Ax (And.intro @hs (And.intro @hA @hO)) ?_;repeat' constructor)<;>intros<;>refine hD_ ?_)
        refine .inr (.inl ⟨_,_,_,_,rfl,fun _=>⟨hc _,?_⟩,fun h=>by cases h⟩)
        rintro r σ' ⟨ν',rfl⟩
        refine Zy ?_
        simp only [zN,zT,zV,zS,zU,Q0,Q1,ex,Q2,Q3,Q4,Q5,Q6,Q7,Q8,Q9,QA,QB,QC,Nat.reduceBEq,reduceAdd,reduceSub,reduceLT,reduceLeDiff,reduceMul,reduceEqDiff,reduceIte]
        ((refine Au ?_;repeat' constructor)<;>intros<;>refine hD_ ?_)
        exact .mk ([some [⟨62,3,[[n 0,n 0,n 0]],none⟩]]++ν') (by simp)
    | some m =>
      rw [hg] at hA
      simp only [FST,List.cons_append,List.nil_append]
      simp only [Option.map_some] at hA
      cases hfit:fitsF x ((kget x.on a.ref).getD nm0) a.mark with
      | false =>
        have hC:correctF al x a=clashF al x a:=by unfold correctF; rw [if_neg (by simp [hs]),if_pos (.inr hfit)]
        rw [hC]
        rw [hfit] at hf
        cases hgo:kget x.on a.ref with
        | none =>
          rw [hgo] at hO hf
          simp only [Option.map_none,Option.getD_none] at hO hf
          (repeat' ((first
 | refine vn rfl ?_
 | simp (disch:=omega) only [wr64,Int.zero_sub]
 | refine bo (fun _=>?_) fun _=>?_
 | refine im fun _=>?_
 | ((repeat refine si ?_); ((first | refine .inl ⟨_,_,_,_,rfl,fun _=>(by first | exact hf _),?_⟩ | refine ⟨_,_,_,_,rfl,fun _=>(by first | exact hf _),?_⟩); (first | refine o1 ?_ | refine o2 ?_ | refine o3 ?_ | refine o4 ?_)))
 | refine cF ?_
 | refine om ?_
 | refine an ?_
 | fail) <;> try simp only [zN, zT, zV, zS, zU, vcC, lateX, ex, strp, binA, elems, cells, scalar, eqC, keyA, intsA, lookA, ofVs, mpOf, Nat.reduceBEq, reduceAdd, reduceSub, reduceLT, reduceLeDiff, reduceMul, reduceEqDiff, reduceIte, hs, hA, hO]))
          refine .inr (.inl ⟨_,_,_,_,rfl,fun _=>⟨hc _,?_⟩,fun h=>by cases h⟩)
          rintro r σ' ⟨ν',rfl⟩
          refine Zy ?_
          simp only [zN,zT,zV,zS,zU,Q0,Q1,ex,Q2,Q3,Q4,Q5,Q6,Q7,Q8,Q9,QA,QB,QC,Nat.reduceBEq,reduceAdd,reduceSub,reduceLT,reduceLeDiff,reduceMul,reduceEqDiff,reduceIte]
          ((refine Au ?_;repeat' constructor)<;>intros<;>refine hD_ ?_)
          exact .mk ([some [⟨62,3,[m.cs],none⟩]]++ν') (by simp)
        | some s =>
          rw [hgo] at hO hf
          simp only [Option.map_some,Option.getD_some] at hO hf
          (repeat' ((first
 | refine vn rfl ?_
 | simp (disch:=omega) only [wr64,Int.zero_sub]
 | refine bo (fun _=>?_) fun _=>?_
 | refine im fun _=>?_
 | ((repeat refine si ?_); ((first | refine .inl ⟨_,_,_,_,rfl,fun _=>(by first | exact hf _),?_⟩ | refine ⟨_,_,_,_,rfl,fun _=>(by first | exact hf _),?_⟩); (first | refine o1 ?_ | refine o2 ?_ | refine o3 ?_ | refine o4 ?_)))
 | refine cF ?_
 | refine om ?_
 | refine an ?_
 | fail) <;> try simp only [zN, zT, zV, zS, zU, vcC, lateX, ex, strp, binA, elems, cells, scalar, eqC, keyA, intsA, lookA, ofVs, mpOf, Nat.reduceBEq, reduceAdd, reduceSub, reduceLT, reduceLeDiff, reduceMul, reduceEqDiff, reduceIte, hs, hA, hO]))
          refine .inr (.inl ⟨_,_,_,_,rfl,fun _=>⟨hc _,?_⟩,fun h=>by cases h⟩)
          rintro r σ' ⟨ν',rfl⟩
          refine Zy ?_
          simp only [zN,zT,zV,zS,zU,Q0,Q1,ex,Q2,Q3,Q4,Q5,Q6,Q7,Q8,Q9,QA,QB,QC,Nat.reduceBEq,reduceAdd,reduceSub,reduceLT,reduceLeDiff,reduceMul,reduceEqDiff,reduceIte]
          ((refine Au ?_;repeat' constructor)<;>intros<;>refine hD_ ?_)
          exact .mk ([some [⟨62,3,[m.cs],none⟩]]++ν') (by simp)
      | true =>
        have hC:correctF al x a={ x with marked:=kset x.marked a.ref a.mark }:=by unfold correctF; rw [if_neg (by simp [hs]),if_neg (by simp [hg,hfit])]
        rw [hC]
        rw [hfit] at hf
        cases hgo:kget x.on a.ref with
        | none =>
          rw [hgo] at hO hf
          simp only [Option.map_none,Option.getD_none] at hO hf
          (repeat' ((first
 | refine vn rfl ?_
 | simp (disch:=omega) only [wr64,Int.zero_sub]
 | refine bo (fun _=>?_) fun _=>?_
 | refine im fun _=>?_
 | ((repeat refine si ?_); ((first | refine .inl ⟨_,_,_,_,rfl,fun _=>(by first | exact hf _),?_⟩ | refine ⟨_,_,_,_,rfl,fun _=>(by first | exact hf _),?_⟩); (first | refine o1 ?_ | refine o2 ?_ | refine o3 ?_ | refine o4 ?_)))
 | refine cF ?_
 | refine om ?_
 | refine an ?_
 | fail) <;> try simp only [zN, zT, zV, zS, zU, vcC, lateX, ex, strp, binA, elems, cells, scalar, eqC, keyA, intsA, lookA, ofVs, mpOf, Nat.reduceBEq, reduceAdd, reduceSub, reduceLT, reduceLeDiff, reduceMul, reduceEqDiff, reduceIte, hs, hA, hO, hM]))
          exact .mk _ rfl
        | some s =>
          rw [hgo] at hO hf
          simp only [Option.map_some,Option.getD_some] at hO hf
          (repeat' ((first
 | refine vn rfl ?_
 | simp (disch:=omega) only [wr64,Int.zero_sub]
 | refine bo (fun _=>?_) fun _=>?_
 | refine im fun _=>?_
 | ((repeat refine si ?_); ((first | refine .inl ⟨_,_,_,_,rfl,fun _=>(by first | exact hf _),?_⟩ | refine ⟨_,_,_,_,rfl,fun _=>(by first | exact hf _),?_⟩); (first | refine o1 ?_ | refine o2 ?_ | refine o3 ?_ | refine o4 ?_)))
 | refine cF ?_
 | refine om ?_
 | refine an ?_
 | fail) <;> try simp only [zN, zT, zV, zS, zU, vcC, lateX, ex, strp, binA, elems, cells, scalar, eqC, keyA, intsA, lookA, ofVs, mpOf, Nat.reduceBEq, reduceAdd, reduceSub, reduceLT, reduceLeDiff, reduceMul, reduceEqDiff, reduceIte, hs, hA, hO, hM]))
          exact .mk _ rfl
  · have hA:=mget_kenc rdA a.ref x.reads
    have hM:=mset_kenc rdA a.ref a.read x.reads
    simp only [Nm.ky] at hA hM
    cases hg:kget x.reads a.ref with
    | none =>
      have hC:correctF al x a=clashF al x a:=by unfold correctF; rw [if_pos hs,if_pos (by simp [hg])]
      rw [hC]
      rw [hg] at hA
      simp only [FST,List.cons_append,List.nil_append]
      simp only [Option.map_none] at hA
      ((refine Ax @hA ?_;repeat' constructor)<;>intros<;>refine hD_ ?_)
      all_goals try (exfalso;omega)
      refine .inr (.inl ⟨_,_,_,_,rfl,fun _=>⟨hc _,?_⟩,fun h=>by cases h⟩)
      rintro r σ' ⟨ν',rfl⟩
      refine Zy ?_
      simp only [zN,zT,zV,zS,zU,Q0,Q1,ex,Q2,Q3,Q4,Q5,Q6,Q7,Q8,Q9,QA,QB,QC,Nat.reduceBEq,reduceAdd,reduceSub,reduceLT,reduceLeDiff,reduceMul,reduceEqDiff,reduceIte]
      ((refine Au ?_;repeat' constructor)<;>intros<;>refine hD_ ?_)
      exact .mk ([some [⟨64,5,[[n 0,n 0,n 0,n 0,n 0]],none⟩]]++ν') (by simp)
    | some r =>
      have hC:correctF al x a={ x with reads:=kset x.reads a.ref a.read }:=by unfold correctF; rw [if_pos hs,if_neg (by simp [hg])]
      rw [hC]
      rw [hg] at hA
      simp only [FST,List.cons_append,List.nil_append]
      simp only [Option.map_some] at hA
      ((refine Ax (And.intro @hA @hM) ?_;repeat' constructor)<;>intros<;>refine hD_ ?_)
      all_goals try (exfalso;omega)
      exact .mk _ rfl
def c145:CF:=⟨86,(jo [jx 3 68 38 1] [0,3]
 (.seq (.draw [jm 10 0,jw 11 (.nilc (.t 10)),jf 12 2 11,jl 13 12,jk 14 38 3,jy 15 89 [14],jw 16 (.look 2 true [.pointer none,.int .i64 0,.int .i64 0] false (.t 13) (.t 15)),jw 4 (.alloc 197 3 [.pointer none,.int .i64 0,.int .i64 0])] [js 3 4 16] [0,3,4])
 (.seq (.seq (.draw [jm 18 0,jw 19 (.nilc (.t 18)),jf 20 8 19,jk 21 4 20,jf 22 1 4,jl 23 22,jf 24 2 4,jl 25 24,jy 26 39 [21,23,25],jm 17 26,jz 27 0 17,jz 28 1 17,jm 5 27,jm 6 28] [] [0,3,4,6])
 (jo [jm 29 6,ju .eql 30 29 0] [0,3,4,30]
 (.cond (.t 30) (jo [jm 31 0,jk 32 38 3,jy 33 148 [31,32]] []
 .ret)
 .skip)))
 (.seq (.draw [jk 34 38 3,jy 35 89 [34],jf 36 1 4,jl 37 36,jf 38 2 4,jl 39 38,jf 40 7 3,jk 41 18 40,jy 42 164 [41],jw 43 (.build z24 [(0,2,(.t 35)),(2,1,(.t 37)),(3,1,(.t 39)),(4,18,(.t 42))]),jw 7 (.alloc 72 24 z24)] [js 24 7 43] [0,3,7])
 (.seq (.seq (.draw [jm 44 0,jw 45 (.nilc (.t 44)),jf 46 3 45,jl 47 46,jk 48 38 3,jy 49 89 [48],jw 50 (.look 2 false [.slice none 0 0] false (.t 47) (.t 49)),je 51 50,jc 52 0] [] [0,7,50,51,52])
 (.block 0 (.loop (jo [jt .lss 53 52 51] [0,7,50,51,52,53]
 (.seq (.cond (.t 53) .skip
 (.exit 0))
 (.seq (.block 1 (jo [ji 54 2 50 52,jk 55 2 54,jw 9 (.alloc 29 2 [.int .i64 0,.int .i64 0]),js 2 9 55] [0,7,9,50,51,52]
 (.seq (.draw [jf 56 22 7,jl 57 56,jm 58 0,jw 59 (.nilc (.t 58)),jf 60 4 59,jl 61 60,jk 62 2 9,jw 63 (.look 2 true [.int .i64 0,.int .i64 0,.int .i64 0] false (.t 61) (.t 62)),jw 64 (.bsl false 62 3 1 [.int .i64 0,.int .i64 0,.int .i64 0] [(0,3,(.t 63))])] [jw 65 (.app 62 3 24 (.t 57) (.t 64)),jf 66 22 7,js 1 66 65] [0,7,9,50,51,52])
 (.ops [jf 67 23 7,jl 68 67,jk 69 2 9,jw 70 (.bsl false 29 2 1 [.int .i64 0,.int .i64 0] [(0,2,(.t 69))]),jw 71 (.app 29 2 16 (.t 68) (.t 70)),jf 72 23 7,js 1 72 71] [0,7,50,51,52]))))
 (.ops [ju .add 73 52 1,jm 52 73] [0,7,50,51,52])))))))
 (.drawl 0 [jm 74 0,jm 75 0,jw 76 (.nilc (.t 75)),jf 77 8 76,jf 78 0 77,jl 79 78,jk 80 24 7,jw 81 (.bsl false 72 24 1 z24 [(0,24,(.t 80))])] [jw 82 (.app 72 24 288 (.t 79) (.t 81)),jw 83 (.nilc (.t 74)),jf 84 8 83,jf 85 0 84,js 1 85 82] [])))))),[]⟩
theorem k145:chkF Tryz.prog Tryz.f145 c145=true:=by kernel_rfl
theorem sheetOf_peek (N:Nat) (al:List (Nm × Nt)) (x:Fs) (o:List Nm) (s w:Int) (hx:x.rs.length < 9223372036854775808) (ν:Sto) :
    Peek Tryz.prog 39 [.agg [.own 9 0 x.rs.length,.own 10 0 x.rr.length,.own 13 0 x.st.length,.own 11 0 o.length],n s,n w] (FST N (alA al) x o++ν) (.tup [n ((foundE (sheetAt x.rs s w)).1:Nat),n (foundE (sheetAt x.rs s w)).2]):=by
  refine Peek.plain (SheetOf_spec ⟨x.rs,x.rr,x.st,o⟩ hx s w) (Plain.t2 _ _) ⟨Frz.aggL ⟨?_,?_,?_,?_,trivial⟩,Frz.pure (by simp),Frz.pure (by simp),trivial⟩
  · exact Frz.ownL (T:=72) rfl rfl (by decide) (fun a=>Fld.pc a) (fun a=>rfl)
  · exact Frz.ownL (T:=64) rfl rfl (by decide) (fun a c hc=>by simp at hc; rcases hc with rfl | rfl | rfl | rfl | rfl <;> simp) (fun a=>rfl)
  · exact Frz.ownL (T:=109) rfl rfl (by decide) (fun a c hc=>by simp at hc; rcases hc with rfl | rfl | rfl | rfl <;> simp) (fun a=>rfl)
  · exact Frz.ownL (T:=29) rfl rfl (by decide) (fun a c hc=>by simp at hc; rcases hc with rfl | rfl <;> simp) (fun a=>rfl)
def xrow (a:Nt) (p:Int × Int) (m k:AV):List AV:=n a.clerk::n a.num::n p.1::n p.2::(a.sheet.cs++[m,k])
theorem xrow22 (a:Nt) (p:Int × Int) (m k:AV):(xrow a p m k).getD 22 .any=m:=rfl
theorem xrow23 (a:Nt) (p:Int × Int) (m k:AV):(xrow a p m k).getD 23 .any=k:=rfl
theorem xrowL (a:Nt) (p:Int × Int) (m k:AV):(xrow a p m k).length=24:=rfl
theorem xrowM (a:Nt) (p:Int × Int) (m k v:AV):List.take 22 (xrow a p m k)++v::List.drop 23 (xrow a p m k)=xrow a p v k:=rfl
theorem xrowN (a:Nt) (p:Int × Int) (m k v:AV):List.take 23 (xrow a p m k)++v::List.drop 24 (xrow a p m k)=xrow a p m v:=rfl
def enterL:C:=match c145.c with
  | .seq _ (.seq _ (.seq _ (.seq _ (.seq (.seq _ (.block _ (.loop l))) _))))=>l
  | _=>.skip
def enterE:C:=match c145.c with
  | .seq _ (.seq _ (.seq _ (.seq _ (.seq _ l))))=>l
  | _=>.skip
abbrev vnil:AV:=.v (.slice none 0 0)
abbrev mrow (x:Fs) (m:Nm):List AV:=Mk.cs ((kget x.marked m).getD mk0)
theorem enter_tail (N:Nat) (al:List (Nm × Nt)) (x:Fs) (o:List Nm) (a:Nt) (p:Int × Int) (L:List Nm) (hx:x.rs.length≤400) (hL:L.length≤64) (ν W:Sto) (hW:W=FST N (alA al) x o++ν) (A E:Option (List Ob)) (F I:Nat)
    (hR:∀ A X μ,Sto.at (W++(A::X::E::μ)) F I=some ⟨29,2,L.map Nm.cs,none⟩) :
    AWPC Tryz.prog 86 none (.loop enterL) (kblk 0 (kseq Tryz.prog 86 none enterE (kret [] (FR N (alA al) { x with rs:=x.rs++[⟨a.nm,p.1,p.2,a.sheet,L.map fun m=>(kget x.marked m).getD mk0,L⟩] } o ν))))
      [(0,.ptr 8 0 1 0 0),(7,.ptr (List.length W+1) 0 1 0 0),(50,.own F I L.length),(51,n L.length),(52,n (0:Nat))] (W++[A,some [⟨72,24,[xrow a p vnil vnil],none⟩],E]):=by
  have h8:∀ μ,Sto.at (W++μ) 8 0=some ⟨194,12,[[alA al,.mp 1,.mp 2,.mp 3,.mp 4,.mp 5,.mp 6,.mp 7,.own 9 0 x.rs.length,.own 10 0 x.rr.length,.own 13 0 x.st.length,.own 11 0 o.length]],none⟩:=fun μ=>by rw [hW]; rfl
  have h4:∀ μ,Sto.at (W++μ) 4 0=some ⟨0,0,[],some (.mp 2 (kenc mkA x.marked))⟩:=fun μ=>by rw [hW]; rfl
  refine AWPC.own0c 62 3 (f:=List.length W+1) (i:=0) (e:=0) (j:=22) (by rw [at_app]; rfl) (by simp) rfl ?_
  refine AWPC.sto (σ':=W++[A,some [⟨72,24,[xrow a p (.own (List.length W+3) 0 0) vnil],none⟩],E,some [⟨62,3,[],none⟩]]) (by
    rw [List.append_assoc,upd_app,show List.length (W++[A,some [⟨72,24,[xrow a p vnil vnil],none⟩],E])=List.length W+3 by simp]; rfl) ?_
  refine AWPC.own0c 29 2 (f:=List.length W+1) (i:=0) (e:=0) (j:=23) (by rw [at_app]; rfl) (by simp) rfl ?_
  refine AWPC.sto (σ':=W++(A::some [⟨72,24,[xrow a p (.own (List.length W+3) 0 0) (.own (List.length W+4) 0 0)],none⟩]::E::some [⟨62,3,[],none⟩]::some [⟨29,2,[],none⟩]::[])) (by
    rw [List.append_assoc,upd_app,show List.length (W++[A,some [⟨72,24,[xrow a p (.own (List.length W+3) 0 0) vnil],none⟩],E,some [⟨62,3,[],none⟩]])=List.length W+4 by simp]; rfl) ?_
  refine AWPC.loopE (α:={ x:Nat × Sto // x.1≤L.length }) [52] (fun x=>[(52,n x.1.1)])
    (fun y=>W++(A::some [⟨72,24,[xrow a p (.own (List.length W+3) 0 y.1.1) (.own (List.length W+4) 0 y.1.1)],none⟩]::E::some [⟨62,3,(L.take y.1.1).map (mrow x),none⟩]::some [⟨29,2,(L.take y.1.1).map Nm.cs,none⟩]::y.1.2))
    (fun x=>L.length - x.1.1) ⟨(0,[]),by simp⟩ ?_ rfl ?_
  · (simp only [zN,zT,zV,zS,zU,Q0,Q1,ex,Q2,Q3,Q4,Q5,Q6,Q7,Q8,Q9,QA,QB,QC,Nat.reduceBEq,reduceAdd,reduceSub,reduceLT,reduceLeDiff,reduceMul,reduceEqDiff,reduceIte]; try simp)
  · rintro ⟨⟨i,μ⟩,hi⟩
    simp only at hi
    by_cases hlt:i < L.length
    · have hs:(L.map Nm.cs).getD i []=Nm.cs (L.getD i nm0):=row nm0 hlt
      have htk:L.take (i+1)=L.take i++[L.getD i nm0]:=by rw [List.take_add_one,getD_lt nm0 hlt]; rfl
      have hw:lookA false (mkA mk0) (mget (kenc mkA x.marked) [(L.getD i nm0).clerk,(L.getD i nm0).num])=.agg (mrow x (L.getD i nm0)):=by
        rw [show mget (kenc mkA x.marked) [(L.getD i nm0).clerk,(L.getD i nm0).num]=_ from mget_kenc mkA (L.getD i nm0) x.marked]
        unfold mrow
        cases kget x.marked (L.getD i nm0) <;> rfl
      generalize L.getD i nm0=m at hs htk hw
      simp only [lookA,cond_false,mkA,mk0,Mk.cs] at hw
      have hl1:((L.take i).map (mrow x)).length=i:=by rw [List.length_map,List.length_take]; omega
      have hl2:((L.take i).map Nm.cs).length=i:=by rw [List.length_map,List.length_take]; omega
      generalize hM1:(L.take i).map (mrow x)=M1 at hl1
      generalize hM2:(L.take i).map Nm.cs=M2 at hl2
      simp only [hM1,hM2]
      unfold enterL c145
      dsimp only
      ((refine Ax (And.intro @h8 (And.intro @h4 (And.intro @hR (And.intro @hs (And.intro @hw (And.intro @hl1 (And.intro @hl2 (And.intro @xrow22 (And.intro @xrow23 (And.intro @xrowL (And.intro @xrowM @xrowN))))))))))) ?_;repeat' constructor)<;>intros<;>refine hD_ ?_)
      all_goals try (exfalso;omega)
      exact ⟨⟨(i+1,μ++[some [⟨29,2,[[n m.clerk,n m.num]],none⟩]]),hlt⟩,by simp,by simp [htk,← hM1,← hM2],by simp only; omega⟩
    · obtain rfl:i=L.length:=by omega
      simp only [List.take_length]
      have hlW:List.length W=List.length ν+14:=by rw [hW]; simp [FST]
      refine AWPC.freezeC (f:=List.length W+3) (n:=L.length) (h:=List.length W+1) (e:=0) (j:=22) (by rw [at_app]; rfl) (by simp) (by simp) (by rw [at_app]; rfl) (by omega) rfl (by simp) rfl ?_
      refine AWPC.sto (σ':=W++(A::some [⟨72,24,[xrow a p (.sl 3 (L.map (mrow x))) (.own (List.length W+4) 0 L.length)],none⟩]::E::none::some [⟨29,2,L.map Nm.cs,none⟩]::μ)) (by
        rw [gone_app,upd_app]; rfl) ?_
      refine AWPC.freezeC (f:=List.length W+4) (n:=L.length) (h:=List.length W+1) (e:=0) (j:=23) (by rw [at_app]; rfl) (by simp) (by simp) (by rw [at_app]; rfl) (by omega) rfl (by simp) rfl ?_
      refine AWPC.sto (σ':=W++(A::some [⟨72,24,[xrow a p (.sl 3 (L.map (mrow x))) (.sl 2 (L.map Nm.cs))],none⟩]::E::none::none::μ)) (by
        rw [gone_app,upd_app]; rfl) ?_
      have hrow:xrow a p (.sl 3 (L.map (mrow x))) (.sl 2 (L.map Nm.cs))=Fld.cs ⟨a.nm,p.1,p.2,a.sheet,L.map fun m=>(kget x.marked m).getD mk0,L⟩:=by
        have e:L.map (mrow x)=(L.map fun m=>(kget x.marked m).getD mk0).map Mk.cs:=by rw [List.map_map]; rfl
        rw [e]; rfl
      rw [hrow,hlW,hW]
      generalize (⟨a.nm,p.1,p.2,a.sheet,L.map fun m=>(kget x.marked m).getD mk0,L⟩:Fld)=F0
      simp only [FST,List.cons_append,List.nil_append]
      unfold enterL enterE c145
      dsimp only
      ((refine Au ?_;repeat' constructor)<;>intros<;>refine hD_ ?_)
      all_goals try (exfalso;omega)
      refine .mk (A::some [⟨72,24,[F0.cs],none⟩]::E::none::none::μ) ?_
      simp [FST]
theorem enter_does (N:Nat) (al:List (Nm × Nt)) (x:Fs) (o:List Nm) (a:Nt) (hx:x.rs.length≤400) (hs:shtC a.sheet) (hL:((kget x.marks a.nm).getD []).length≤64) (ν:Sto):Does Tryz.prog 145 [.ptr 8 0 1 0 0,ntA a] (FST N (alA al) x o++ν) (FR N (alA al) (enterF al x a) o ν):=by
  refine dB_ Tryz.call145 Tryz.func145 k145 ?_
  unfold c145
  have hc:=fun μ=>clash_does N al x o a μ
  have hA:=mget_kenc flA a.nm x.filed
  simp only [Nm.ky] at hA
  have hE:enterF al x a=if (sheetAt x.rs ((kget x.filed a.nm).getD (0,0)).1 ((kget x.filed a.nm).getD (0,0)).2).isSome then clashF al x a
      else { x with rs:=x.rs++[⟨a.nm,((kget x.filed a.nm).getD (0,0)).1,((kget x.filed a.nm).getD (0,0)).2,a.sheet,((kget x.marks a.nm).getD []).map fun m=>(kget x.marked m).getD mk0,(kget x.marks a.nm).getD []⟩] }:=rfl
  obtain ⟨p,hp,hw⟩:∃ p:Int × Int,(kget x.filed a.nm).getD (0,0)=p∧lookA false (flA (0,0)) (mget (kenc flA x.filed) [a.clerk,a.num])=flA p:=by
    rw [hA]; cases kget x.filed a.nm <;> exact ⟨_,rfl,rfl⟩
  rw [hp] at hE
  simp only [lookA,cond_false,flA] at hw
  have hso:=fun μ=>sheetOf_peek N al x o p.1 p.2 (by omega) μ
  simp only [FST,List.cons_append,List.nil_append]
  cases hf:sheetAt x.rs p.1 p.2 with
  | some j =>
    rw [hf] at hE hso
    simp only [Option.isSome_some,if_true] at hE
    simp only [foundE] at hso
    rw [hE]
    (repeat' ((first
 | refine vn rfl ?_
 | simp (disch:=omega) only [wr64,Int.zero_sub]
 | refine bo (fun _=>?_) fun _=>?_
 | refine im fun _=>?_
 | ((repeat refine si ?_); ((first | refine .inl ⟨_,_,_,_,rfl,fun _=>(by first | exact hso _),?_⟩ | refine ⟨_,_,_,_,rfl,fun _=>(by first | exact hso _),?_⟩); (first | refine o1 ?_ | refine o2 ?_ | refine o3 ?_ | refine o4 ?_)))
 | ((repeat refine si ?_); (first | ((first | refine .inl ⟨_,_,_,_,rfl,fun _=>pu (Zw a),?_⟩ | refine ⟨_,_,_,_,rfl,fun _=>pu (Zw a),?_⟩); (first | refine o1 ?_ | refine o2 ?_ | refine o3 ?_ | refine o4 ?_)) | refine .inl ⟨_,_,_,_,rfl,pu (Zw a),?_⟩))
 | refine cF ?_
 | refine om ?_
 | refine an ?_
 | fail) <;> try simp only [zN,zT,zV,zS,zU,Q0,Q1,ex,Q2,Q3,Q4,Q5,Q6,Q7,Q8,Q9,QA,QB,QC,Nat.reduceBEq,reduceAdd,reduceSub,reduceLT,reduceLeDiff,reduceMul,reduceEqDiff,reduceIte,hw]))
    refine .inr (.inl ⟨_,_,_,_,rfl,fun _=>⟨hc _,?_⟩,fun h=>by cases h⟩)
    rintro r σ' ⟨ν',rfl⟩
    refine Zy ?_
    simp only [zN,zT,zV,zS,zU,Q0,Q1,ex,Q2,Q3,Q4,Q5,Q6,Q7,Q8,Q9,QA,QB,QC,Nat.reduceBEq,reduceAdd,reduceSub,reduceLT,reduceLeDiff,reduceMul,reduceEqDiff,reduceIte]
    ((refine Au ?_;repeat' constructor)<;>intros<;>refine hD_ ?_)
    exact .mk ([some [⟨197,3,[[.v (.pointer none),n p.1,n p.2]],none⟩]]++ν') (by simp)
  | none =>
    rw [hf] at hE hso
    simp only [Option.isSome_none,Bool.false_eq_true,if_false] at hE
    simp only [foundE] at hso
    rw [hE]
    have hm:=mget_mkMp a.nm x.marks 0
    rw [Nat.zero_add] at hm
    simp only [Nm.ky] at hm
    generalize hLd:(kget x.marks a.nm).getD []=L at hL
    obtain ⟨W,hW⟩:∃ W,W=FST N (alA al) x o++ν:=⟨_,rfl⟩
    have hlW:List.length W=List.length ν+14:=by rw [hW]; simp [FST]
    cases hgm:kget x.marks a.nm with
    | none =>
      rw [hgm] at hm
      simp only [Option.map_none] at hm
      rw [hgm] at hLd
      have hL0:L=[]:=hLd.symm
      (repeat' ((first
 | refine vn rfl ?_
 | simp (disch:=omega) only [wr64,Int.zero_sub]
 | refine bo (fun _=>?_) fun _=>?_
 | refine im fun _=>?_
 | ((repeat refine si ?_); ((first | refine .inl ⟨_,_,_,_,rfl,fun _=>(by first | exact hso _),?_⟩ | refine ⟨_,_,_,_,rfl,fun _=>(by first | exact hso _),?_⟩); (first | refine o1 ?_ | refine o2 ?_ | refine o3 ?_ | refine o4 ?_)))
 | ((repeat refine si ?_); (first | ((first | refine .inl ⟨_,_,_,_,rfl,fun _=>pu (by first | exact Zw a | exact copiedSheet_spec a.sheet hs),?_⟩ | refine ⟨_,_,_,_,rfl,fun _=>pu (by first | exact Zw a | exact copiedSheet_spec a.sheet hs),?_⟩); (first | refine o1 ?_ | refine o2 ?_ | refine o3 ?_ | refine o4 ?_)) | refine .inl ⟨_,_,_,_,rfl,pu (by first | exact Zw a | exact copiedSheet_spec a.sheet hs),?_⟩))
 | refine cF ?_
 | refine om ?_
 | refine an ?_
 | fail) <;> try simp only [zN,zT,zV,zS,zU,Q0,Q1,ex,Q2,Q3,Q4,Q5,Q6,Q7,Q8,Q9,QA,QB,QC,Nat.reduceBEq,reduceAdd,reduceSub,reduceLT,reduceLeDiff,reduceMul,reduceEqDiff,reduceIte,hw,hm]))
      all_goals try (exfalso;omega)
      refine AWPC.own0 29 2 50 rfl ?_
      refine AWPC.sto (σ':=W++[some [⟨197,3,[[.v (.pointer none),n p.1,n p.2]],none⟩],some [⟨72,24,[xrow a p vnil vnil],none⟩],some [⟨29,2,[],none⟩]]) (by rw [hW]; simp only [FST,List.cons_append,List.append_assoc,List.nil_append]; rfl) ?_
      refine AWPC.weaken ?_ (enter_tail N al x o a p L hx hL ν W hW _ _ (List.length W+2) 0 (fun A X μ=>by rw [at_app,hL0]; rfl))
      intro q hq
      simp only [List.mem_cons,List.not_mem_nil,or_false] at hq
      rcases hq with rfl | rfl | rfl | rfl | rfl <;> simp [gt,hlW,hL0]
    | some l =>
      rw [hgm] at hm
      simp only [Option.map_some] at hm
      rw [hgm] at hLd
      have hL0:l=L:=hLd
      have hfa:=(mkF_some (N:=N) hgm).1
      (repeat' ((first
 | refine vn rfl ?_
 | simp (disch:=omega) only [wr64,Int.zero_sub]
 | refine bo (fun _=>?_) fun _=>?_
 | refine im fun _=>?_
 | ((repeat refine si ?_); ((first | refine .inl ⟨_,_,_,_,rfl,fun _=>(by first | exact hso _),?_⟩ | refine ⟨_,_,_,_,rfl,fun _=>(by first | exact hso _),?_⟩); (first | refine o1 ?_ | refine o2 ?_ | refine o3 ?_ | refine o4 ?_)))
 | ((repeat refine si ?_); (first | ((first | refine .inl ⟨_,_,_,_,rfl,fun _=>pu (by first | exact Zw a | exact copiedSheet_spec a.sheet hs),?_⟩ | refine ⟨_,_,_,_,rfl,fun _=>pu (by first | exact Zw a | exact copiedSheet_spec a.sheet hs),?_⟩); (first | refine o1 ?_ | refine o2 ?_ | refine o3 ?_ | refine o4 ?_)) | refine .inl ⟨_,_,_,_,rfl,pu (by first | exact Zw a | exact copiedSheet_spec a.sheet hs),?_⟩))
 | refine cF ?_
 | refine om ?_
 | refine an ?_
 | fail) <;> try simp only [zN,zT,zV,zS,zU,Q0,Q1,ex,Q2,Q3,Q4,Q5,Q6,Q7,Q8,Q9,QA,QB,QC,Nat.reduceBEq,reduceAdd,reduceSub,reduceLT,reduceLeDiff,reduceMul,reduceEqDiff,reduceIte,hw,hm,hfa,List.length_map]))
      all_goals try (exfalso;omega)
      refine AWPC.own0F 29 2 0 ?_
      refine AWPC.sto (σ':=W++[some [⟨197,3,[[.v (.pointer none),n p.1,n p.2]],none⟩],some [⟨72,24,[xrow a p vnil vnil],none⟩],some []]) (by rw [hW]; simp only [FST,List.cons_append,List.append_assoc,List.nil_append]; rfl) ?_
      refine AWPC.weaken ?_ (enter_tail N al x o a p L hx hL ν W hW _ _ 12 (kidx x.marks a.nm) (fun A X μ=>by rw [hW,← hL0,← hfa]; rfl))
      intro q hq
      simp only [List.mem_cons,List.not_mem_nil,or_false] at hq
      rcases hq with rfl | rfl | rfl | rfl | rfl <;> simp [gt,hlW,hL0]
def c147:CF:=⟨15,(jo [jx 2 68 38 0] [1,2]
 (.draw [jf 3 8 1,jf 4 1 3,jl 5 4,jf 6 6 1,jl 7 6,jk 8 38 2,jy 9 89 [8],jw 10 (.look 2 true [.int .i64 0,.int .i64 0,.int .i64 0,.int .i64 0,.int .i64 0] false (.t 7) (.t 9)),jw 11 (.bsl false 64 5 1 [.int .i64 0,.int .i64 0,.int .i64 0,.int .i64 0,.int .i64 0] [(0,5,(.t 10))])] [jw 12 (.app 64 5 40 (.t 5) (.t 11)),jf 13 8 1,jf 14 1 13,js 1 14 12] [])),[]⟩
theorem k147:chkF Tryz.prog Tryz.f147 c147=true:=by kernel_rfl
def c141:CF:=⟨13,(jo [jx 3 198 1 0] [1,2,3]
 (jo [jl 6 2,jm 7 1,jy 8 88 [6,7]] [3,8]
 (.block 0 (.rng (.t 8) [9] (.ops [jw 5 (.alloc 68 38 z38),js 38 5 9] [3,5])
 (.block 1 (.ops [jl 10 3,jk 11 38 5,jw 12 (.call (.t 10) [(.t 11)])] [3])))))),[]⟩
theorem k141:chkF Tryz.prog Tryz.f141 c141=true:=by kernel_rfl
theorem reads_does (N:Nat) (al:List (Nm × Nt)) (x:Fs) (o:List Nm) (a:Nt) (hx:x.rr.length≤400) (ν:Sto):Does Tryz.prog 147 [ntA a,.ptr 8 0 1 0 0] (FST N (alA al) x o++ν) (FR N (alA al) (readF x a) o ν):=by
  refine dB_ Tryz.call147 Tryz.func147 k147 ?_
  unfold c147
  have hA:=mget_kenc rdA a.nm x.reads
  simp only [Nm.ky] at hA
  have hC:readF x a={ x with rr:=x.rr++[(kget x.reads a.nm).getD rd0] }:=rfl
  rw [hC]
  have hw:lookA false (rdA rd0) (mget (kenc rdA x.reads) [a.clerk,a.num])=rdA ((kget x.reads a.nm).getD rd0):=by
    rw [hA]; cases kget x.reads a.nm <;> rfl
  generalize (kget x.reads a.nm).getD rd0=r at hw
  simp only [lookA,cond_false,rdA,rd0,Rd.cs] at hw
  simp only [FST,List.cons_append,List.nil_append]
  ((refine Az @hw (Zw a) ?_;repeat' first|exact True.intro|refine Cj.mk ?_ ?_)<;>intros<;>refine hD_ ?_)
  all_goals try (exfalso;omega)
  refine .mk [] ?_
  simp [FST]
theorem step_does (l:List Nt) (hl:setSz l) (h400:l.length≤400) (hn:(l.map Nt.nm).Nodup) (k:Int) (f:Nat) (first cap:List AV) (G:Fs→Nt→Fs) (Q:Nat→Fs→Prop) (N:Nat) (A:AV) (o:List Nm)
    (hdo:∀ i a x ν,(standK l [k])[i]?=some a→Q i x→Does Tryz.prog f (first++[ntA a]++cap) (FST N A x o++ν) (FR N A (G x a) o ν))
    (hQ:∀ i a x,(standK l [k])[i]?=some a→Q i x→Q (i+1) (G x a)) (x:Fs) (hx:Q 0 x) (ν:Sto) :
    Does Tryz.prog 141 [.fn (.func f) first cap,inS [k],.iptr [ntS l] 0] (FST N A x o++ν) (FR N A ((standK l [k]).foldl G x) o ν):=by
  refine dB_ Tryz.call141 Tryz.func141 k141 ?_
  unfold c141
  have h2:=standing_spec l hl h400 hn [k] (inS [k]) (.inl rfl)
  have hit:=stand_iter l h400 [k] (by simp) (inS [k]) (.inl rfl)
  generalize standK l [k]=S at hdo hQ hit
  have hq:∀ i,i≤S.length→Q i ((S.take i).foldl G x):=by
    intro i
    induction i with
    | zero=>exact fun _=>hx
    | succ i ih =>
      intro hi
      have hg:S[i]?=some (S.getD i nt0):=getD_lt nt0 (by omega)
      rw [List.take_add_one,hg]
      simp only [Option.toList_some,List.foldl_append,List.foldl_cons,List.foldl_nil]
      exact hQ i _ _ hg (ih (by omega))
  ((refine Ay @h2 ?_;repeat' first|exact True.intro|refine Cj.mk ?_ ?_)<;>intros<;>refine hD_ ?_)
  refine AWPC.rng (fun y:{ y:Fs // True }=>FST N A y.1 o++ν) (14+List.length ν) (fun _=>by simp [FST]; omega) (fun i y=>y.1=(S.take i).foldl G x) (fun _ _=>False) (ntTr S) ⟨x,trivial⟩
      rfl rfl rfl hit (fun k args h=>?_) (fun i y args ll ρ τ hk hy=>?_) (fun y τ hy=>?_) (fun _ _ _ h=>h.elim)
  · obtain ⟨a,_,rfl⟩:=ntTr_get h
    rfl
  · obtain ⟨y,_⟩:=y
    simp only at hy
    subst hy
    obtain ⟨a,hs,rfl⟩:=ntTr_get hk
    have hxl:=(List.getElem?_eq_some_iff.1 hs).1
    have hd:=fun μ=>hdo i a _ μ hs (hq i (by omega))
    have htk:(S.take (i+1)).foldl G x=G ((S.take i).foldl G x) a:=by
      rw [List.take_add_one,hs]; simp
    simp only [par]
    generalize hY:(S.take i).foldl G x=Y at hd htk
    obtain ⟨C,hC⟩:∃ C,C=FST N A Y o++ν:=⟨_,rfl⟩
    simp only [← hC]
    ((refine Au ?_;repeat' first|exact True.intro|refine Cj.mk ?_ ?_)<;>intros<;>refine hD_ ?_)
    refine ⟨⟨Y,trivial⟩,[some [⟨68,38,[a.cs],none⟩]],by simp [hC],fun ρ'=>?_⟩
    simp only [← hC]
    have hd':Does Tryz.prog f (first++[ntA a]++cap) (C++ρ'::(τ++[some [⟨68,38,[a.cs],none⟩]])) (FR N A (G Y a) o (ν++ρ'::(τ++[some [⟨68,38,[a.cs],none⟩]]))):=by
      have e:C++ρ'::(τ++[some [⟨68,38,[a.cs],none⟩]])=FST N A Y o++(ν++ρ'::(τ++[some [⟨68,38,[a.cs],none⟩]])):=by rw [hC,List.append_assoc]
      rw [e]; exact hd _
    have hT:∀ (μ:Sto) (u:Ob),Sto.at (C++ρ'::(τ++[some [u]])) (List.length C+(List.length τ+1)) 0=some u:=fun μ u=>by
      rw [at_app,show (ρ'::(τ++[some [u]]):Sto)=(ρ'::τ)++[some [u]] by simp,show List.length τ+1=(ρ'::τ).length by simp,at_app0]; rfl
    ((refine Ax @hT ?_;repeat' first|exact True.intro|refine Cj.mk ?_ ?_)<;>intros<;>refine hD_ ?_)
    refine .inr (.inl ⟨_,_,_,_,rfl,fun _=>⟨hd',?_⟩,fun h=>by cases h⟩)
    rintro r σ' ⟨ν',rfl⟩
    refine Zy ?_
    simp only [zN,zT,zV,zS,zU,Q0,Q1,ex,Q2,Q3,Q4,Q5,Q6,Q7,Q8,Q9,QA,QB,QC,Nat.reduceBEq,reduceAdd,reduceSub,reduceLT,reduceLeDiff,reduceMul,reduceEqDiff,reduceIte]
    ((refine Au ?_;repeat' first|exact True.intro|refine Cj.mk ?_ ?_)<;>intros<;>refine hD_ ?_)
    exact ⟨⟨G Y a,trivial⟩,ν',by simp,htk.symm⟩
  · obtain ⟨y,_⟩:=y
    simp only at hy
    subst hy
    have hll:(ntTr S).length=S.length:=by simp [ntTr]
    simp only [hll,List.take_length]
    simp only [zN,zT,zV,zS,zU,Q0,Q1,ex,Q2,Q3,Q4,Q5,Q6,Q7,Q8,Q9,QA,QB,QC,Nat.reduceBEq,reduceAdd,reduceSub,reduceLT,reduceLeDiff,reduceMul,reduceEqDiff,reduceIte]
    ((refine Au ?_;repeat' first|exact True.intro|refine Cj.mk ?_ ?_)<;>intros<;>refine hD_ ?_)
    exact .mk τ rfl
end Go.Proofs.YtolgelipcgcbhaaGreat
namespace Go.Abs
set_option linter.unusedVariables false
set_option linter.unusedSimpArgs false
theorem foldl_keep {α β γ:Type} {G:α→β→α} (g:α→γ) (h:∀ x a,g (G x a)=g x):∀ (l:List β) (x:α),g (l.foldl G x)=g x
  | [],x=>rfl
  | a::l,x=>by rw [List.foldl_cons,foldl_keep g h l,h]
theorem foldl_inv {α β:Type} {G:α→β→α} (I:α→Prop):∀ (l:List β) (x:α),(∀ x a,a∈l→I x→I (G x a))→I x→I (l.foldl G x)
  | [],x,h,hx=>hx
  | a::l,x,h,hx=>foldl_inv I l _ (fun x a ha=>h x a (List.mem_cons_of_mem _ ha)) (h x a (List.mem_cons_self ..) hx)
def mkOk (x:Fs):Prop:=∀ m L,kget x.marks m=some L→L.length≤64
def kp (x:Fs):List (Nm × List Nm) × List Fld × List Rd × List Stn:=(x.marks,x.rs,x.rr,x.st)
theorem clashF_kp (al:List (Nm × Nt)) (x:Fs) (a:Nt):kp (clashF al x a)=kp x:=by unfold clashF kp; split <;> rfl
theorem beginF_kp (x:Fs) (a:Nt):kp (beginF x a)=kp x:=by unfold beginF kp; split <;> rfl
theorem fileF_kp (al:List (Nm × Nt)) (x:Fs) (a:Nt):kp (fileF al x a)=kp x:=by unfold fileF; split; exact clashF_kp ..; rfl
theorem correctF_kp (al:List (Nm × Nt)) (x:Fs) (a:Nt):kp (correctF al x a)=kp x:=by
  unfold correctF
  split
  · split
    · exact clashF_kp ..
    · rfl
  · split
    · exact clashF_kp ..
    · rfl
theorem kp_marks {x y:Fs} (h:kp x=kp y):x.marks=y.marks∧x.rs=y.rs∧x.rr=y.rr∧x.st=y.st:=by
  simp only [kp,Prod.mk.injEq] at h; exact h
theorem kset_length {β:Type} (m:Nm) (v:β):∀ M:List (Nm × β),(kset M m v).length≤M.length+1
  | []=>by simp [kset]
  | x::r=>by
    simp only [kset]
    have:=kset_length m v r
    split <;> simp <;> omega
theorem markF_ok (al:List (Nm × Nt)) (x:Fs) (a:Nt) (h:mkOk x):mkOk (markF al x a)∧(markF al x a).marks.length≤x.marks.length+1∧(markF al x a).rs=x.rs∧(markF al x a).rr=x.rr∧(markF al x a).st=x.st:=by
  unfold markF
  split
  · obtain ⟨h1,h2,h3,h4⟩:=kp_marks (clashF_kp al x a)
    exact ⟨fun m L hm=>h m L (by rw [← h1]; exact hm),by rw [h1]; omega,h2,h3,h4⟩
  · rename_i hn
    refine ⟨fun m L hm=>?_,kset_length _ _ _,rfl,rfl,rfl⟩
    simp only [kget_kset] at hm
    split at hm
    · injection hm with hm
      subst hm
      simp only [not_or] at hn
      simp only [List.length_append,List.length_cons,List.length_nil]
      omega
    · exact h m L hm
theorem enterF_ok (al:List (Nm × Nt)) (x:Fs) (a:Nt):(enterF al x a).marks=x.marks∧(enterF al x a).rs.length≤x.rs.length+1∧(enterF al x a).rr=x.rr∧(enterF al x a).st=x.st:=by
  unfold enterF
  simp only
  split
  · obtain ⟨h1,h2,h3,h4⟩:=kp_marks (clashF_kp al x a)
    exact ⟨h1,by rw [h2]; omega,h3,h4⟩
  · exact ⟨rfl,by simp,rfl,rfl⟩
theorem readF_ok (x:Fs) (a:Nt):(readF x a).marks=x.marks∧(readF x a).rs=x.rs∧(readF x a).rr.length=x.rr.length+1∧(readF x a).st=x.st:=⟨rfl,rfl,by simp [readF],rfl⟩
theorem standK_mem {l:List Nt} {ks:List Int} {a:Nt} (h:a∈standK l ks):a∈l∧(ks=[]∨a.kind∈ks):=by
  unfold standK at h
  obtain ⟨h1,h2⟩:=List.mem_filter.1 h
  refine ⟨standT_sub l a h1,?_⟩
  rcases Bool.or_eq_true _ _ |>.mp h2 with h3 | h3
  · exact .inl (List.isEmpty_iff.1 h3)
  · exact .inr (List.contains_iff_mem.1 h3)
theorem lastF_len (al:List (Nm × Nt)):∀ (l:List Nt) (q:Fs × List Nm),(l.foldl (lastF al) q).2.length≤q.2.length+l.length∧kp (l.foldl (lastF al) q).1=kp q.1
  | [],q=>⟨by simp,rfl⟩
  | a::l,(f,o)=>by
    obtain ⟨h1,h2⟩:=lastF_len al l (lastF al (f,o) a)
    rw [List.foldl_cons]
    refine ⟨Nat.le_trans h1 ?_,h2.trans ?_⟩
    · simp only [lastF,List.length_cons]
      (repeat' split) <;> (try simp only [List.length_append,List.length_cons,List.length_nil]) <;> omega
    · simp only [lastF]
      split
      · exact clashF_kp ..
      · rfl
end Go.Abs
