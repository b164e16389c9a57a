/- Part 1: contracts. -/
import Derived.WalkKit
import Derived.CallsIn
import Derived.Laws.Tables
import Derived.Laws.StructEq
import Derived.MapKept
import Derived.RangeFuncRecord
namespace Go.Abs
set_option linter.unusedVariables false
set_option linter.unusedSimpArgs false
inductive AV where
  | v (x:Value)
  | agg (cs:List AV)
  | tup (cs:List AV)
  | sl (k:Nat) (es:List (List AV))
  | fresh (k:Nat) (es:List (List AV))
  | own (f i n:Nat)
  | tight (f i n:Nat)
  | sub (f i n lo:Nat)
  | ptr (f i n e j:Nat)
  | iptr (cs:List AV) (j:Nat)
  | fn (f:Fn) (first cap:List AV)
  | yld (f:Nat)
  | mp (f:Nat)
  | imap (n:Nat) (es:List (List Int × AV))
  | ifc (t:TypeId) (x:AV)
  | when (c:Bool) (x:AV)
  | any
instance:Inhabited AV:=⟨.any⟩
abbrev Env:=List (Nat × AV)
def gt:Env→Nat→AV
  | [],_=>.any
  | (m,v)::r,n=>bif m == n then v else gt r n
structure Lp where
  st:LoopState
  pend:Option Code
  ps:Array Tmp
  assign:Code
  body:Code
  N:Nat
  env:Env
inductive Lq where
  | lp (r:Lp)
  | mp (n:Nat) (es:List (List Int × AV))
structure Ob where
  T:TypeId
  k:Nat
  es:List (List AV)
  lp:Option Lq
abbrev Sto:=List (Option (List Ob))
abbrev Blk:=Nat→Nat→Option Nat
def Sto.at (σ:Sto) (f i:Nat):Option Ob :=
  match σ[f]? with
  | some (some F)=>F[i]?
  | _=>none
def Sto.upd (σ:Sto) (f i:Nat) (o:Ob):Sto :=
  match σ[f]? with
  | some (some F)=>σ.set f (some (F.set i o))
  | _=>σ
def owned (β:Blk) (σ:Sto) (b:Nat):Prop:=∃ f i o,σ.at f i=some o∧β f i=some b
def OwnSl (w:World) (bo:Option Nat) (o:Ob) (x:Value):Prop :=
  match bo with
  | none=>o.es=[]∧x=.slice none 0 0
  | some b=>∃ cap c T,x=.slice (some ⟨b,0,none⟩) o.es.length cap∧w.heap[b]?=some (.cells c T (0,0))∧c.size=cap * o.k
def SubSl (bo:Option Nat) (o:Ob) (lo:Nat) (x:Value):Prop :=
  lo≤o.es.length∧∃ a cap,x=.slice a (o.es.length - lo) cap∧(lo < o.es.length→∃ b,bo=some b∧a=some ⟨b,lo * o.k,none⟩)
def keyVal:List Int→Value
  | [a]=>.int .i64 a
  | ks=>.agg (ks.map fun a=>Value.int .i64 a).toArray
def Fix:Obj→Prop
  | .cells .. | .map ..=>True
  | _=>False
inductive RV (w:World) (X:Nat→Prop) (β:Blk) (σ:Sto):AV→Value→Prop
  | v (x:Value):RV w X β σ (.v x) x
  | any (x:Value):RV w X β σ .any x
  | agg (cs:List AV) (xs:Array Value) (hn:xs.size=cs.length) (h1:∀ i,i < cs.length→(xs.getD i undef).oneCell'=true) (h:∀ i,i < cs.length→RV w X β σ (cs.getD i .any) (xs.getD i undef)):RV w X β σ (.agg cs) (.agg xs)
  | tup (cs:List AV) (xs:Array Value) (hn:xs.size=cs.length) (h:∀ i,i < cs.length→RV w X β σ (cs.getD i .any) (xs.getD i undef)):RV w X β σ (.tup cs) (.tuple xs)
  | slnil (k:Nat):RV w X β σ (.sl k []) (.slice none 0 0)
  | slemp (k:Nat) (a:Addr) (cap:Nat):RV w X β σ (.sl k []) (.slice (some a) 0 cap)
  | sl (k:Nat) (es:List (List AV)) (b o cap:Nat) (x:Nat→Nat→Value) (hcap:es.length≤cap) (hk:∀ e,e < es.length→(es.getD e []).length=k)
      (hc:∀ e,e < es.length→∀ j,j < k→w.cell? ⟨b,o+e * k+j,none⟩=some (x e j)) (hX:∀ e j,e < es.length→j < k→¬ X b) (h1:∀ e j,e < es.length→j < k→(x e j).oneCell'=true)
      (hr:∀ e j,e < es.length→j < k→RV w X β σ ((es.getD e []).getD j .any) (x e j)):RV w X β σ (.sl k es) (.slice (some ⟨b,o,none⟩) es.length cap)
  | fresh (k:Nat) (es:List (List AV)) (x:Value) (h:RV w X β σ (.sl k es) x) (hc:∃ a,x=.slice a es.length es.length):RV w X β σ (.fresh k es) x
  | own (f i n:Nat) (x:Value) (h1:x.oneCell'=true) (hf:f < σ.length) (hle:∀ o,σ.at f i=some o→n≤o.es.length) (h:∀ o,σ.at f i=some o→o.es.length=n→OwnSl w (β f i) o x):RV w X β σ (.own f i n) x
  | tight (f i n:Nat) (x:Value) (h:RV w X β σ (.own f i n) x) (hc:∃ a,x=.slice a n n):RV w X β σ (.tight f i n) x
  | sub (f i n lo:Nat) (x:Value) (h1:x.oneCell'=true) (hf:f < σ.length) (hle:∀ o,σ.at f i=some o→n≤o.es.length) (h:∀ o,σ.at f i=some o→o.es.length=n→SubSl (β f i) o lo x):RV w X β σ (.sub f i n lo) x
  | ptr (f i n e j:Nat) (x:Value) (h1:x.oneCell'=true) (hf:f < σ.length) (hle:∀ o,σ.at f i=some o→n≤o.es.length) (h:∀ o,σ.at f i=some o→o.es.length=n→∃ b,β f i=some b∧x=.pointer (some ⟨b,e * o.k+j,none⟩)):RV w X β σ (.ptr f i n e j) x
  | iptr (cs:List AV) (j b o:Nat) (x:Nat→Value) (hX:∀ t,t < cs.length→¬ X b) (h1:∀ t,t < cs.length→(x t).oneCell'=true)
      (hc:∀ t,t < cs.length→w.cell? ⟨b,o+t,none⟩=some (x t)) (hr:∀ t,t < cs.length→RV w X β σ (cs.getD t .any) (x t)):RV w X β σ (.iptr cs j) (.pointer (some ⟨b,o+j,none⟩))
  | fn (f:Fn) (first cap:List AV) (xs ys:Array Value) (hn:xs.size=first.length) (hm:ys.size=cap.length)
      (h:∀ i,i < first.length→RV w X β σ (first.getD i .any) (xs.getD i undef)) (h':∀ i,i < cap.length→RV w X β σ (cap.getD i .any) (ys.getD i undef)):RV w X β σ (.fn f first cap) (.func f xs ys)
  | yld (f:Nat) (x:Value) (h1:x.oneCell'=true) (hf:f < σ.length) (h:∀ o,σ.at f 0=some o→o.es.length=0→∃ l,β f 0=some l∧x=.func (.yield l) #[] #[]):RV w X β σ (.yld f) x
  | mp (f:Nat) (x:Value) (h1:x.oneCell'=true) (hf:f < σ.length) (h:∀ o,σ.at f 0=some o→o.es.length=0→∃ l,β f 0=some l∧x=.map (some l)):RV w X β σ (.mp f) x
  | imap (n:Nat) (es:List (List Int × AV)) (b:Nat) (m:Array MapEntry) (cl:Nat) (hb:w.heap[b]?=some (.map m cl)) (hX:¬ X b) (hl:m.size=es.length)
      (hk:∀ i,i < es.length→(es.getD i ([],.any)).1.length=n∧(m.getD i ⟨undef,undef,0⟩).key=keyVal (es.getD i ([],.any)).1)
      (hr:∀ i,i < es.length→RV w X β σ (es.getD i ([],.any)).2 (m.getD i ⟨undef,undef,0⟩).val):RV w X β σ (.imap n es) (.map (some b))
  | ifc (t:TypeId) (a:AV) (x:Value) (h:RV w X β σ a x):RV w X β σ (.ifc t a) (.iface t x)
  | when (c:Bool) (a:AV) (x:Value) (h:c=true→RV w X β σ a x) (h':c=false→x=undef):RV w X β σ (.when c a) x
def LpRel (w:World) (X:Nat→Prop) (β:Blk) (σ:Sto) (r:Lp) (q:Loop):Prop :=
  q.state=r.st∧q.pending=r.pend∧q.params=r.ps∧q.assign=r.assign∧q.body=r.body∧q.tmps.size=r.N∧∀ s,RV w X β σ (gt r.env s) (q.tmps.getD s undef)
def MpRel (w:World) (X:Nat→Prop) (β:Blk) (σ:Sto) (n:Nat):List (List Int × AV)→List MapEntry→Prop
  | [],[]=>True
  | x::r,e::s=>x.1.length=n∧e.key=keyVal x.1∧RV w X β σ x.2 e.val∧MpRel w X β σ n r s
  | _,_=>False
def Borns (es:Array MapEntry) (cl:Nat):Prop:=cl=es.size∧∀ (i:Nat) (e:MapEntry),es[i]?=some e→e.born=i
def LqRel (w:World) (X:Nat→Prop) (β:Blk) (σ:Sto) (r:Lq) (b:Nat):Prop :=
  match r with
  | .lp r=>∃ q,w.heap[b]?=some (.loop q)∧LpRel w X β σ r q
  | .mp n m=>∃ es clock,w.heap[b]?=some (.map es clock)∧MpRel w X β σ n m es.toList∧Borns es clock
def ObRel (w:World) (X:Nat→Prop) (β:Blk) (σ:Sto) (bo:Option Nat) (o:Ob):Prop :=
  (∀ e,e < o.es.length→(o.es.getD e []).length=o.k) ∧
  match bo with
  | none=>o.es=[]∧o.lp=none
  | some b=>(o.lp=none→∃ c,w.heap[b]?=some (.cells c o.T (0,0))∧o.es.length * o.k≤c.size ∧
      (∀ e j,e < o.es.length→j < o.k→(c.getD (e * o.k+j) undef).oneCell'=true) ∧
      ∀ e j,e < o.es.length→j < o.k→RV w X β σ ((o.es.getD e []).getD j .any) (c.getD (e * o.k+j) undef)) ∧
      ∀ r,o.lp=some r→o.es=[]∧LqRel w X β σ r b
theorem ObRel.lp_none {w:World} {X:Nat→Prop} {β:Blk} {σ:Sto} {bo:Option Nat} {o:Ob} {e:Nat} (h:ObRel w X β σ bo o) (he:e < o.es.length):o.lp=none:=by
  have h2:=h.2
  cases bo with
  | none=>exact h2.2
  | some b =>
    cases hl:o.lp with
    | none=>rfl
    | some r=>rw [(h2.2 r hl).1] at he; exact absurd he (Nat.not_lt_zero _)
theorem ObRel.lp_cells {w:World} {X:Nat→Prop} {β:Blk} {σ:Sto} {b:Nat} {o:Ob} {c:Array Value} {T:TypeId} {fr:Nat × Nat} (h:ObRel w X β σ (some b) o) (hc:w.heap[b]?=some (.cells c T fr)):o.lp=none:=by
  cases hl:o.lp with
  | none=>rfl
  | some r =>
    have h3:=(h.2.2 r hl).2
    cases r with
    | lp r=>obtain ⟨q,hq,_⟩:=h3; rw [hc] at hq; cases hq
    | mp n m=>obtain ⟨es,cl,hq,_⟩:=h3; rw [hc] at hq; cases hq
def Xt (X:Nat→Prop) (β:Blk) (σ:Sto) (b:Nat):Prop:=X b∨owned β σ b
structure SRel (w:World) (X:Nat→Prop) (β:Blk) (σ:Sto):Prop where
  inj:∀ f i f' i' o o' b,σ.at f i=some o→σ.at f' i'=some o'→β f i=some b→β f' i'=some b→f=f'∧i=i'
  dis:∀ f i o b,σ.at f i=some o→β f i=some b→¬ X b
  obj:∀ f i o,σ.at f i=some o→ObRel w (Xt X β σ) β σ (β f i) o
def SameSize (w w':World) (b:Nat):Prop :=
  ∀ c T,w.heap[b]?=some (.cells c T (0,0))→∃ c' T',w'.heap[b]?=some (.cells c' T' (0,0))∧c'.size=c.size
structure Kp (w:World) (X:Nat→Prop) (β:Blk) (σ:Sto) (w':World) (X':Nat→Prop) (β':Blk) (σ':Sto):Prop where
  size:w.heap.size≤w'.heap.size
  imm:∀ b o,w.heap[b]?=some o→Fix o→¬ X b→w'.heap[b]?=w.heap[b]?
  frb:∀ b,b < w.heap.size→X' b→X b
  len:σ.length≤σ'.length
  obs:∀ f i o',f < σ.length→σ'.at f i=some o'→∃ o,σ.at f i=some o∧o.k=o'.k∧o.es.length≤o'.es.length ∧
    (o.es.length=o'.es.length→β' f i=β f i∧∀ b,β f i=some b→SameSize w w' b)
theorem SameSize.refl (w:World) (b:Nat):SameSize w w b:=fun c T h=>⟨c,T,h,rfl⟩
theorem block_lt {w:World} {a:Addr} {v:Value} (h:w.cell? a=some v):a.block < w.heap.size:=by
  unfold World.cell? at h
  split at h
  · rename_i hb
    exact (Array.getElem?_eq_some_iff.1 hb).1
  · cases h
theorem cells_of_cell {w:World} {a:Addr} {v:Value} (h:w.cell? a=some v):∃ c T fr,w.heap[a.block]?=some (.cells c T fr):=by
  unfold World.cell? at h
  split at h
  · rename_i c T fr hb; exact ⟨c,T,fr,hb⟩
  · cases h
theorem cell_of_heap {w w':World} {a:Addr} (h:w'.heap[a.block]?=w.heap[a.block]?):w'.cell? a=w.cell? a:=by
  unfold World.cell?; rw [h]
theorem RV.tr {w:World} {X:Nat→Prop} {β:Blk} {σ:Sto} {w':World} {X':Nat→Prop} {β':Blk} {σ':Sto} {a:AV} {x:Value}
    (h:RV w X β σ a x) (K:Kp w X β σ w' X' β' σ'):RV w' X' β' σ' a x:=by
  induction h with
  | v x=>exact .v x
  | any x=>exact .any x
  | agg cs xs hn h1 _ ih=>exact .agg cs xs hn h1 ih
  | tup cs xs hn _ ih=>exact .tup cs xs hn ih
  | slnil k=>exact .slnil k
  | slemp k a cap=>exact .slemp k a cap
  | sl k es b o cap x hcap hk hc hX h1 _ ih =>
    refine .sl k es b o cap x hcap hk (fun e he j hj=>?_) (fun e j he hj hx=>?_) h1 ih
    · have h0:=hc e he j hj
      obtain ⟨c,T,fr,hh⟩:=cells_of_cell h0
      rw [cell_of_heap (K.imm b _ hh trivial (hX e j he hj))]
      exact h0
    · exact hX e j he hj (K.frb b (block_lt (hc e he j hj)) hx)
  | fresh k es x _ hc ih=>exact .fresh k es x ih hc
  | tight f i n x _ hc ih=>exact .tight f i n x ih hc
  | own f i n x h1 hf hle h =>
    refine .own f i n x h1 (Nat.lt_of_lt_of_le hf K.len) (fun o' ho'=>?_) fun o' ho' hn=>?_
    · obtain ⟨o,ho,_,hl,_⟩:=K.obs f i o' hf ho'
      exact Nat.le_trans (hle o ho) hl
    · obtain ⟨o,ho,hk,hl,hs⟩:=K.obs f i o' hf ho'
      have hle':=hle o ho
      have he:o.es.length=o'.es.length:=by omega
      obtain ⟨hβ,hsz⟩:=hs he
      have hx:=h o ho (by omega)
      rw [hβ]
      unfold OwnSl at hx ⊢
      cases hb:β f i with
      | none =>
        rw [hb] at hx
        refine ⟨?_,hx.2⟩
        have:o'.es.length=0:=by rw [← he,hx.1]; rfl
        exact List.length_eq_zero_iff.1 this
      | some b =>
        rw [hb] at hx
        obtain ⟨cap,c,T,rfl,hh,hc⟩:=hx
        obtain ⟨c',T',hh',hc'⟩:=hsz b hb c T hh
        exact ⟨cap,c',T',by rw [he],hh',by rw [hc',hc,hk]⟩
  | sub f i n lo x h1 hf hle h =>
    refine .sub f i n lo x h1 (Nat.lt_of_lt_of_le hf K.len) (fun o' ho'=>?_) fun o' ho' hn=>?_
    · obtain ⟨o,ho,_,hl,_⟩:=K.obs f i o' hf ho'
      exact Nat.le_trans (hle o ho) hl
    · obtain ⟨o,ho,hk,hl,hs⟩:=K.obs f i o' hf ho'
      have hle':=hle o ho
      have he:o.es.length=o'.es.length:=by omega
      obtain ⟨hβ,_⟩:=hs he
      have hx:=h o ho (by omega)
      unfold SubSl at hx ⊢
      rw [hβ,← he,← hk]
      exact hx
  | ptr f i n e j x h1 hf hle h =>
    refine .ptr f i n e j x h1 (Nat.lt_of_lt_of_le hf K.len) (fun o' ho'=>?_) fun o' ho' hn=>?_
    · obtain ⟨o,ho,_,hl,_⟩:=K.obs f i o' hf ho'
      exact Nat.le_trans (hle o ho) hl
    · obtain ⟨o,ho,hk,hl,hs⟩:=K.obs f i o' hf ho'
      have hle':=hle o ho
      obtain ⟨hβ,hsz⟩:=hs (by omega)
      obtain ⟨b,hb,rfl⟩:=h o ho (by omega)
      exact ⟨b,by rw [hβ,hb],by rw [hk]⟩
  | iptr cs j b o x hX h1 hc _ ih =>
    refine .iptr cs j b o x (fun t ht hx=>hX t ht (K.frb b (block_lt (hc t ht)) hx)) h1 (fun t ht=>?_) ih
    have h0:=hc t ht
    obtain ⟨c,T,fr,hh⟩:=cells_of_cell h0
    rw [cell_of_heap (K.imm b _ hh trivial (hX t ht))]
    exact h0
  | fn f first cap xs ys hn hm _ _ ih ih'=>exact .fn f first cap xs ys hn hm ih ih'
  | yld f x h1 hf h =>
    refine .yld f x h1 (Nat.lt_of_lt_of_le hf K.len) fun o' ho' hn=>?_
    obtain ⟨o,ho,_,hl,hs⟩:=K.obs f 0 o' hf ho'
    rw [(hs (by omega)).1]
    exact h o ho (by omega)
  | mp f x h1 hf h =>
    refine .mp f x h1 (Nat.lt_of_lt_of_le hf K.len) fun o' ho' hn=>?_
    obtain ⟨o,ho,_,hl,hs⟩:=K.obs f 0 o' hf ho'
    rw [(hs (by omega)).1]
    exact h o ho (by omega)
  | imap n es b m cl hb hX hl hk _ ih =>
    exact .imap n es b m cl (by rw [K.imm b _ hb trivial hX]; exact hb) (fun hx=>hX (K.frb b (Array.getElem?_eq_some_iff.1 hb).1 hx)) hl hk ih
  | ifc t a x _ ih=>exact .ifc t a x ih
  | when c a x _ h' ih=>exact .when c a x ih h'
theorem LpRel.tr {w:World} {X:Nat→Prop} {β:Blk} {σ:Sto} {w':World} {X':Nat→Prop} {β':Blk} {σ':Sto} {r:Lp} {q:Loop} (h:LpRel w X β σ r q) (K:Kp w X β σ w' X' β' σ'):LpRel w' X' β' σ' r q :=
  ⟨h.1,h.2.1,h.2.2.1,h.2.2.2.1,h.2.2.2.2.1,h.2.2.2.2.2.1,fun s=>(h.2.2.2.2.2.2 s).tr K⟩
theorem MpRel.tr {w:World} {X:Nat→Prop} {β:Blk} {σ:Sto} {w':World} {X':Nat→Prop} {β':Blk} {σ':Sto} {n:Nat} (K:Kp w X β σ w' X' β' σ') :
    ∀ {m:List (List Int × AV)} {es:List MapEntry},MpRel w X β σ n m es→MpRel w' X' β' σ' n m es
  | [],[],_=>trivial
  | _::_,_::_,h=>⟨h.1,h.2.1,h.2.2.1.tr K,MpRel.tr K h.2.2.2⟩
  | [],_::_,h=>h.elim
  | _::_,[],h=>h.elim
theorem LqRel.tr {w:World} {X:Nat→Prop} {β:Blk} {σ:Sto} {w':World} {X':Nat→Prop} {β':Blk} {σ':Sto} {r:Lq} {b:Nat} (h:LqRel w X β σ r b) (K:Kp w X β σ w' X' β' σ')
    (hb:w'.heap[b]?=w.heap[b]?):LqRel w' X' β' σ' r b:=by
  cases r with
  | lp r=>obtain ⟨q,hq,hr⟩:=h; exact ⟨q,by rw [hb]; exact hq,hr.tr K⟩
  | mp n m=>obtain ⟨es,cl,hq,hr,hn⟩:=h; exact ⟨es,cl,by rw [hb]; exact hq,hr.tr K,hn⟩
theorem ObRel.tr {w:World} {X:Nat→Prop} {β:Blk} {σ:Sto} {w':World} {X':Nat→Prop} {β':Blk} {σ':Sto} {bo:Option Nat} {o:Ob} (h:ObRel w X β σ bo o) (K:Kp w X β σ w' X' β' σ')
    (hb:∀ b,bo=some b→w'.heap[b]?=w.heap[b]?):ObRel w' X' β' σ' bo o:=by
  refine ⟨h.1,?_⟩
  have h2:=h.2
  cases bo with
  | none=>exact h2
  | some b =>
    refine ⟨fun hl=>?_,fun r hl=>?_⟩
    · obtain ⟨c,hc,hle,h1,hr⟩:=h2.1 hl
      exact ⟨c,by rw [hb b rfl]; exact hc,hle,h1,fun e j he hj=>(hr e j he hj).tr K⟩
    · obtain ⟨he,hr⟩:=h2.2 r hl
      exact ⟨he,hr.tr K (hb b rfl)⟩
inductive O where
  | t (n:Nat)
  | c (x:Value)
  | ca (xs:List Value)
  | f (n:Nat)
inductive I where
  | mv (x:O)
  | pick (c a b:O)
  | alloc (T k:Nat) (z:List Value)
  | box (own:Bool) (T k:Nat) (x:O)
  | build (z:List Value) (ps:List (Nat × Nat × O))
  | bsl (own:Bool) (T k n:Nat) (z:List Value) (ps:List (Nat × Nat × O))
  | load (s:Option Nat) (a:O)
  | store (s:Nat) (a x:O)
  | bin (op:BinOp) (x y:O)
  | eqs (neg:Bool) (ks:List (Option IntKind)) (x y:O)
  | eqb (neg:Bool) (x y:O)
  | un (op:UnOp) (x:O)
  | faddr (off:Nat) (x:O)
  | field (off:Nat) (s:Option Nat) (x:O)
  | iaddr (k:Nat) (x i:O)
  | ext (i:Nat) (x:O)
  | len (x:O)
  | mnx (mx:Bool) (x y:O)
  | app (T k bytes:Nat) (s x:O)
  | mksl (T k bytes:Nat) (z:List Value) (l c:O)
  | slice (k:Nat) (x:O) (lo hi:Option O)
  | mkfn (f:Fn) (first cap:List O)
  | nilc (x:O)
  | ifc (T:Nat) (x:O)
  | call (f:O) (args:List O)
  | bad
  | nilq (neg:Bool) (x y:O)
  | inv (nm:String) (x:O) (as:List O)
  | mkmp (n:Nat)
  | look (n:Nat) (ag:Bool) (z:List Value) (ok:Bool) (m k:O)
  | mput (n:Nat) (m k x:O)
  | mn3 (mx:Bool) (x y z:O)
  | gapp (T k bytes:Nat) (s x:O)
  | gbsl (T k n:Nat) (z:List Value) (ps:List (Nat × Nat × O))
  | bslt (T k n:Nat) (z:List Value) (ps:List (Nat × Nat × O))
  | nilf (ptr neg:Bool) (x y:O)
  | ment (n:Nat) (ag:Bool) (z:List Value) (m k:O)
  | est (n:Nat) (m s x:O)
  | subs (k:Nat) (x lo:O)
  | appi (T k bytes:Nat) (s x:O)
  | clr (T k:Nat) (z:List Value) (x:O)
  | cnv (k:IntKind) (x:O)
structure J where
  d:Option Nat
  i:I
  g:Option (Nat × Bool)
inductive C where
  | skip
  | ops (l:List J) (live:List Nat)
  | draw (p l:List J) (live:List Nat)
  | drawl (kl:Nat) (p l:List J) (live:List Nat)
  | seq (a b:C)
  | cond (x:O) (a b:C)
  | block (id:Nat) (a:C)
  | loop (a:C)
  | exit (id:Nat)
  | ret
  | rng (f:O) (ps:List Nat) (assign body:C)
  | scope (a:C)
  | drawp (pi:List Nat) (p l:List J) (live:List Nat)
  | drawq (pi:List Nat) (kl:Nat) (p l:List J) (live:List Nat)
  | draww (pi ks:List Nat) (q:Nat) (p l:List J) (live:List Nat)
  | drawb (pi:List Nat) (p:List J) (j:J) (live' ks:List Nat) (q:Nat) (tl l:List J) (live:List Nat)
def st (d:Option Nat) (v:AV) (env:Env):Env :=
  match d with
  | some d=>(d,v)::env
  | none=>env
def keep (live:List Nat) (env:Env):Env:=live.map fun s=>(s,gt env s)
def vs:List Value→List AV
  | []=>[]
  | x::r=>.v x::vs r
def ov (env:Env):O→AV
  | .t n=>gt env n
  | .c x=>.v x
  | .ca xs=>.agg (vs xs)
  | .f n=>.fn (.func n) [] []
def strp:AV→AV
  | .when _ x=>x
  | x=>x
def cnd:AV→Bool
  | .when d _=>d
  | _=>true
def scalar:Value→Bool
  | .agg _ | .tuple _=>false
  | _=>true
def cells:AV→Option (List AV)
  | .agg cs=>some cs
  | .v x=>if scalar x then some [.v x] else none
  | .sl k es=>some [.sl k es]
  | .own f i n=>some [.own f i n]
  | .tight f i n=>some [.tight f i n]
  | .fresh k es=>some [.fresh k es]
  | .sub f i n lo=>some [.sub f i n lo]
  | .ptr f i n e j=>some [.ptr f i n e j]
  | .iptr cs j=>some [.iptr cs j]
  | .fn f a b=>some [.fn f a b]
  | .yld f=>some [.yld f]
  | .mp f=>some [.mp f]
  | .imap n es=>some [.imap n es]
  | .ifc t x=>some [.ifc t x]
  | _=>none
def pick1 (s:Option Nat) (cs:List AV) (j:Nat):Option AV :=
  match s with
  | none=>cs[j]?
  | some n=>if j+n≤cs.length then some (.agg ((cs.drop j).take n)) else none
def splice (cs:List AV) (j:Nat) (xs:List AV):List AV:=cs.take j++xs++cs.drop (j+xs.length)
def fillA:List AV→List (Nat × Nat × AV)→Option (List AV)
  | cs,[]=>some cs
  | cs,(off,size,x)::r =>
    match cells x with
    | some xs=>if xs.length=size∧off+size≤cs.length then fillA (splice cs off xs) r else none
    | none=>none
def chop (k:Nat):Nat→List AV→List (List AV)
  | 0,_=>[]
  | n+1,cs=>cs.take k::chop k n (cs.drop k)
def binA (op:BinOp) (x y:AV):Option (Prop × AV) :=
  match x,y with
  | .v (.int k a),.v (.int k' b) =>
    if k=k' then
      match op with
      | .add=>some (True,.v (.int k (k.wrap (a+b))))
      | .sub=>some (True,.v (.int k (k.wrap (a - b))))
      | .mul=>some (True,.v (.int k (k.wrap (a * b))))
      | .quo=>some (b≠0,.v (.int k (k.wrap (a.tdiv b))))
      | .rem=>some (b≠0,.v (.int k (a.tmod b)))
      | .eql=>some (True,.v (.bool (a == b)))
      | .neq=>some (True,.v (.bool (a != b)))
      | .lss=>some (True,.v (.bool (decide (a < b))))
      | .leq=>some (True,.v (.bool (decide (a≤b))))
      | .gtr=>some (True,.v (.bool (decide (b < a))))
      | .geq=>some (True,.v (.bool (decide (b≤a))))
      | .shl=>some (0≤b,.v (.int k (k.wrap (a * 2 ^ (min b.toNat k.bits)))))
      | .shr=>some (0≤b,.v (.int k (a.fdiv (2 ^ (min b.toNat k.bits)))))
      | .and=>some (True,.v (.int k (k.wrap (BitVec.ofInt k.bits a &&& BitVec.ofInt k.bits b).toNat)))
      | .or=>some (True,.v (.int k (k.wrap (BitVec.ofInt k.bits a ||| BitVec.ofInt k.bits b).toNat)))
      | .xor=>some (True,.v (.int k (k.wrap (BitVec.ofInt k.bits a ^^^ BitVec.ofInt k.bits b).toNat)))
      | _=>none
    else none
  | .sl _ _,_=>some (False,.v (.bool false))
  | _,_=>none
def eqC:List (Option IntKind)→List AV→List AV→Option Bool
  | [],[],[]=>some true
  | some k::q,.v (.int k1 a)::r,.v (.int k2 b)::s=>if k1=k∧k2=k then (eqC q r s).map fun t=>(a == b) && t else none
  | none::q,.v (.bool a)::r,.v (.bool b)::s=>(eqC q r s).map fun t=>(a == b) && t
  | _,_,_=>none
def obj (σ:Sto) (f i:Nat) (K:Ob→Option (Prop × AV × Sto)):Option (Prop × AV × Sto) :=
  match σ.at f i with
  | some o=>K o
  | none=>none
def elems (σ:Sto):AV→Option (Prop × List (List AV))
  | .sl _ es=>some (True,es)
  | .own f i n=>match σ.at f i with
    | some o=>some (o.es.length=n,o.es)
    | none=>none
  | .v (.slice _ 0 _)=>some (True,[])
  | _=>none
def intsA:List AV→Option (List Int)
  | []=>some []
  | .v (.int .i64 a)::r=>(intsA r).map fun l=>a::l
  | _=>none
def keyA:AV→Option (List Int)
  | .v (.int .i64 a)=>some [a]
  | .agg cs=>if cs.length=1 then none else intsA cs
  | _=>none
def mget:List (List Int × AV)→List Int→Option AV
  | [],_=>none
  | x::r,ks=>if x.1=ks then some x.2 else mget r ks
def mset:List (List Int × AV)→List Int→AV→List (List Int × AV)
  | [],ks,v=>[(ks,v)]
  | x::r,ks,v=>if x.1=ks then (ks,v)::r else x::mset r ks v
def midx:List (List Int × AV)→List Int→Nat
  | [],_=>0
  | x::r,ks=>if x.1=ks then 0 else midx r ks+1
def mputAt:List (List Int × AV)→Nat→AV→List (List Int × AV)
  | [],_,_=>[]
  | x::r,0,v=>(x.1,v)::r
  | x::r,i+1,v=>x::mputAt r i v
def ofVs (ag:Bool) (z:List Value):AV:=bif ag then .agg (vs z) else (vs z).getD 0 .any
def lookA (ok:Bool) (z:AV) (r:Option AV):AV :=
  match r with
  | some a=>bif ok then .tup [a,.v (.bool true)] else a
  | none=>bif ok then .tup [z,.v (.bool false)] else z
def mpOf (o:Ob) (n:Nat):Option (List (List Int × AV)) :=
  match o.lp with
  | some (.mp n' es)=>if n'=n then some es else none
  | _=>none
def ex (i:I) (v:O→AV) (σ:Sto):Option (Prop × AV × Sto) :=
  match i with
  | .mv x=>some (True,v x,σ)
  | .alloc T k z=>if z.length=k then some (True,.ptr σ.length 0 1 0 0,σ++[some [⟨T,k,[vs z],none⟩]]) else none
  | .box own T k x=>match cells (v x) with
    | some cs=>if cs.length=k then (if own then some (True,.ptr σ.length 0 1 0 0,σ++[some [⟨T,k,[cs],none⟩]]) else some (True,.iptr cs 0,σ)) else none
    | none=>none
  | .build z ps=>match fillA (vs z) (ps.map fun p=>(p.1,p.2.1,v p.2.2)) with
    | some cs=>some (True,.agg cs,σ)
    | none=>none
  | .bsl own T k n z ps=>match fillA (vs z) (ps.map fun p=>(p.1,p.2.1,v p.2.2)) with
    | some cs=>if cs.length=n * k then (if own then some (True,.own σ.length 0 n,σ++[some [⟨T,k,chop k n cs,none⟩]]) else some (True,.sl k (chop k n cs),σ)) else none
    | none=>none
  | .bslt T k n z ps=>match fillA (vs z) (ps.map fun p=>(p.1,p.2.1,v p.2.2)) with
    | some cs=>if cs.length=n * k then some (True,.tight σ.length 0 n,σ++[some [⟨T,k,chop k n cs,none⟩]]) else none
    | none=>none
  | .load s a=>match v a with
    | .iptr cs j=>match pick1 s cs j with
      | some x=>some (True,x,σ)
      | none=>some (False,.sl 1 [],σ)
    | .ptr f i n e j=>obj σ f i fun o=>match s with
      | none=>some (o.es.length=n∧e < n∧j < o.k,(o.es.getD e []).getD j .any,σ)
      | some m=>some (o.es.length=n∧e < n∧j+m≤o.k,.agg (((o.es.getD e []).drop j).take m),σ)
    | _=>none
  | .store s a x=>match v a,cells (v x) with
    | .ptr f i n e j,some xs=>obj σ f i fun o =>
      if xs.length=s then some (o.es.length=n∧e < n∧j+s≤o.k,.any,σ.upd f i { o with es:=o.es.set e (splice (o.es.getD e []) j xs) }) else none
    | _,_=>none
  | .bin op x y=>match binA op (v x) (v y) with
    | some (s,r)=>some (s,r,σ)
    | none=>none
  | .eqs neg ks x y=>match v x,v y with
    | .agg a,.agg b=>match eqC ks a b with
      | some t=>some (True,.v (.bool (bif neg then !t else t)),σ)
      | none=>none
    | _,_=>none
  | .eqb neg x y=>match v x,v y with
    | .v (.bool a),.v (.bool b)=>some (True,.v (.bool (bif neg then a != b else a == b)),σ)
    | _,_=>none
  | .un op x=>match op,v x with
    | .not,.v (.bool b)=>some (True,.v (.bool !b),σ)
    | .neg,.v (.int k n)=>some (True,.v (.int k (k.wrap (0 - n))),σ)
    | _,_=>none
  | .faddr off x=>match v x with
    | .iptr cs j=>some (True,.iptr cs (j+off),σ)
    | .ptr f i n e j=>obj σ f i fun o=>some (o.es.length=n,.ptr f i n e (j+off),σ)
    | _=>none
  | .field off s x=>match v x with
    | .agg cs=>match pick1 s cs off with
      | some x=>some (True,x,σ)
      | none=>none
    | _=>none
  | .iaddr k x i=>match v x,v i with
    | .sl k' es,.v (.int _ z)=>if k'=k then some (0≤z∧z < es.length,.iptr (es.getD z.toNat []) 0,σ) else none
    | .own f i n,.v (.int _ z)=>obj σ f i fun o=>some (o.k=k∧o.es.length=n∧0≤z∧z < n,.ptr f i n z.toNat 0,σ)
    | .tight f i n,.v (.int _ z)=>obj σ f i fun o=>some (o.k=k∧o.es.length=n∧0≤z∧z < n,.ptr f i n z.toNat 0,σ)
    | .sub f i n lo,.v (.int _ z)=>obj σ f i fun o=>some (o.k=k∧o.es.length=n∧0≤z∧lo+z < n,.ptr f i n (lo+z.toNat) 0,σ)
    | _,_=>none
  | .ext i x=>match v x with
    | .tup cs=>match cs[i]? with
      | some x=>some (True,x,σ)
      | none=>none
    | _=>none
  | .len x=>match v x with
    | .sl _ es=>some (True,.v (.int .i64 es.length),σ)
    | .own f i n=>obj σ f i fun o=>some (o.es.length=n,.v (.int .i64 n),σ)
    | .v (.slice _ 0 _)=>some (True,.v (.int .i64 0),σ)
    | .sub f i n lo=>obj σ f i fun o=>some (o.es.length=n,.v (.int .i64 ((n:Int) - lo)),σ)
    | _=>none
  | .mnx mx x y=>match v x,v y with
    | .v (.int k a),.v (.int k' b)=>if k=k' then some (True,.v (.int k (bif mx then max a b else min a b)),σ) else none
    | _,_=>none
  | .mn3 mx x y z=>match v x,v y,v z with
    | .v (.int k a),.v (.int k' b),.v (.int k'' c)=>if k=k'∧k=k'' then some (True,.v (.int k (bif mx then max (max a b) c else min (min a b) c)),σ) else none
    | _,_,_=>none
  | .app T k bytes s x=>match elems σ (v x) with
    | some (p,xs)=>match v s with
      | .v (.slice none 0 0)=>some (p∧(∀ e,e < xs.length→(xs.getD e []).length=k)∧xs.length * bytes≤140737488355328,.own σ.length 0 xs.length,σ++[some [⟨T,k,xs,none⟩]])
      | .own f i n=>obj σ f i fun o=>some (p∧(∀ e,e < xs.length→(xs.getD e []).length=k)∧o.T=T∧o.k=k∧o.lp=none∧o.es.length=n∧(n+xs.length) * bytes≤140737488355328,.own f i (n+xs.length),σ.upd f i { o with es:=o.es++xs })
      | _=>none
    | none=>none
  | .mksl T k bytes z l c=>match v l,v c with
    | .v (.int _ a),.v (.int _ b)=>if z.length=k then some (a=b∧0≤a∧a * bytes≤140737488355328,.own σ.length 0 a.toNat,σ++[some [⟨T,k,List.replicate a.toNat (vs z),none⟩]]) else none
    | _,_=>none
  | .slice k x lo hi=>match v x,(lo.map v).getD (.v (.int .i64 0)) with
    | .sl k' es,.v (.int _ a)=>match (hi.map v).getD (.v (.int .i64 es.length)) with
      | .v (.int _ b)=>if k'=k then some (0≤a∧a≤b∧b≤es.length,.sl k ((es.take b.toNat).drop a.toNat),σ) else none
      | _=>none
    | _,_=>none
  | .mkfn f first cap=>some (True,.fn f (first.map v) (cap.map v),σ)
  | .nilc x=>match v x with
    | .fn f a b=>match f with
      | .func _=>some (True,.fn f a b,σ)
      | _=>none
    | .ptr f i n e j=>obj σ f i fun o=>some (o.es.length=n,.ptr f i n e j,σ)
    | .iptr cs j=>some (True,.iptr cs j,σ)
    | .ifc t x=>some (True,.ifc t x,σ)
    | _=>none
  | .ifc T x=>some (True,.ifc T (v x),σ)
  | .nilq neg x y=>match v x,v y with
    | .v (.slice none _ _),.v (.slice none _ _)=>some (True,.v (.bool !neg),σ)
    | .v (.slice (some _) _ _),.v (.slice none _ _)=>some (True,.v (.bool neg),σ)
    | .sl _ es,.v (.slice none _ _)=>some (es≠[],.v (.bool neg),σ)
    | _,_=>none
  | .mkmp n=>some (True,.mp σ.length,σ++[some [⟨0,0,[],some (.mp n [])⟩]])
  | .look n ag z ok m k=>match v m,keyA (v k) with
    | .mp f,some ks=>obj σ f 0 fun o=>match mpOf o n with
      | some es=>if ks.length=n then some (True,lookA ok (ofVs ag z) (mget es ks),σ) else none
      | none=>none
    | .imap n' es,some ks=>if n'=n∧ks.length=n then some (True,lookA ok (ofVs ag z) (mget es ks),σ) else none
    | _,_=>none
  | .mput n m k x=>match v m,keyA (v k) with
    | .mp f,some ks=>obj σ f 0 fun o=>match mpOf o n with
      | some es=>if ks.length=n then some (True,.any,σ.upd f 0 { o with lp:=some (.mp n (mset es ks (v x))) }) else none
      | none=>none
    | _,_=>none
  | .nilf p neg x y=>match p,v x,v y with
    | true,.iptr _ _,.v (.pointer none)=>some (True,.v (.bool neg),σ)
    | true,.ptr f i n _ _,.v (.pointer none)=>obj σ f i fun o=>some (o.es.length=n,.v (.bool neg),σ)
    | true,.v (.pointer none),.v (.pointer none)=>some (True,.v (.bool !neg),σ)
    | false,.ifc _ _,.v .nilIface=>some (True,.v (.bool neg),σ)
    | false,.v .nilIface,.v .nilIface=>some (True,.v (.bool !neg),σ)
    | _,_,_=>none
  | .ment n ag z m k=>match v m,keyA (v k) with
    | .mp f,some ks=>obj σ f 0 fun o=>match mpOf o n with
      | some es=>if ks.length=n then some (True,.tup [(mget es ks).getD (ofVs ag z),.v (.int .i64 (midx es ks))],σ.upd f 0 { o with lp:=some (.mp n (mset es ks ((mget es ks).getD (ofVs ag z)))) }) else none
      | none=>none
    | _,_=>none
  | .est n m s x=>match v m,v s with
    | .mp f,.v (.int .i64 i)=>obj σ f 0 fun o=>match mpOf o n with
      | some es=>some (0≤i∧i < es.length,.any,σ.upd f 0 { o with lp:=some (.mp n (mputAt es i.toNat (v x))) })
      | none=>none
    | _,_=>none
  | .subs k x lo=>match v x,v lo with
    | .own f i n,.v (.int _ a)=>obj σ f i fun o=>some (o.k=k∧o.es.length=n∧0≤a∧a≤n,.sub f i n a.toNat,σ)
    | _,_=>none
  | .clr T k z x=>match v x with
    | .sub f i n lo=>obj σ f i fun o=>some (o.k=k∧o.es.length=n,.any,σ.upd f i { o with es:=o.es.take lo++List.replicate (n - lo) (vs z) })
    | _=>none
  | .appi T k bytes s x=>match v s,elems σ (v x) with
    | .fresh k' es,some (p,xs)=>if k'=k then some (p∧xs≠[]∧es≠[]∧(∀ e,e < xs.length→(xs.getD e []).length=k)∧(es.length+xs.length) * bytes≤140737488355328,.sl k (es++xs),σ) else none
    | _,_=>none
  | .cnv k x=>match v x with
    | .v (.int _ a)=>some (True,.v (.int k (k.wrap a)),σ)
    | _=>none
  | .pick .. | .call .. | .bad | .inv .. | .gapp .. | .gbsl ..=>none
def I.os:I→List O
  | .alloc .. | .bad | .mkmp _=>[]
  | .mv x | .box _ _ _ x | .load _ x | .un _ x | .faddr _ x | .field _ _ x | .ext _ x | .len x | .nilc x | .ifc _ x | .clr _ _ _ x=>[x]
  | .build _ ps | .bsl _ _ _ _ _ ps | .gbsl _ _ _ _ ps | .bslt _ _ _ _ ps=>ps.map (·.2.2)
  | .nilq _ a x | .nilf _ _ a x | .subs _ a x | .appi _ _ _ a x | .store _ a x | .bin _ a x | .eqs _ _ a x | .eqb _ a x | .iaddr _ a x | .mnx _ a x | .app _ _ _ a x | .gapp _ _ _ a x | .mksl _ _ _ _ a x=>[a,x]
  | .pick c a b=>[c,a,b]
  | .mn3 _ a b c=>[a,b,c]
  | .look _ _ _ _ m k=>[m,k]
  | .ment _ _ _ m k=>[m,k]
  | .est _ m s x=>[m,s,x]
  | .mput _ m k x=>[m,k,x]
  | .slice _ x lo hi=>x::(lo.toList++hi.toList)
  | .mkfn _ a b=>a++b
  | .call f args=>f::args
  | .inv _ x args=>x::args
  | .cnv _ x=>[x]
def I.calm:I→Bool
  | .alloc .. | .store .. | .app .. | .mksl .. | .mkmp _ | .mput .. | .ment .. | .est .. | .clr .. | .bslt ..=>false
  | .box own .. | .bsl own ..=>!own
  | _=>true
def sideL (g:Bool) (env:Env):List O→Prop
  | []=>True
  | o::r=>(g=true→cnd (ov env o)=true)∧sideL g env r
def ocalls:List O→Env→List AV
  | [],_=>[]
  | o::r,env=>strp (ov env o)::ocalls r env
theorem at_lt {σ:Sto} {f i:Nat} {o:Ob} (h:σ.at f i=some o):f < σ.length:=by
  unfold Sto.at at h
  split at h
  · rename_i F hF
    exact (List.getElem?_eq_some_iff.1 hF).1
  · cases h
theorem at_push_old (σ:Sto) (x:Option (List Ob)) {f i:Nat} (h:f < σ.length):Sto.at (σ++[x]) f i=σ.at f i:=by
  unfold Sto.at; rw [List.getElem?_append_left h]
theorem at_push_new (σ:Sto) (o:Ob) {i:Nat}:Sto.at (σ++[some [o]]) σ.length i=if i=0 then some o else none:=by
  unfold Sto.at
  rw [List.getElem?_append_right (Nat.le_refl _)]
  cases i <;> simp
theorem at_push_cases {σ:Sto} {o o':Ob} {f i:Nat} (h:Sto.at (σ++[some [o]]) f i=some o') :
    (f < σ.length∧σ.at f i=some o')∨(f=σ.length∧i=0∧o'=o):=by
  have hlt:=at_lt h
  simp at hlt
  by_cases hf:f < σ.length
  · rw [at_push_old σ _ hf] at h; exact .inl ⟨hf,h⟩
  · obtain rfl:f=σ.length:=by omega
    rw [at_push_new] at h
    split at h
    · rename_i hi; exact .inr ⟨rfl,hi,by injection h with h; exact h.symm⟩
    · cases h
theorem upd_length (σ:Sto) (f i:Nat) (o:Ob):(σ.upd f i o).length=σ.length:=by
  unfold Sto.upd; split <;> simp
theorem at_upd_same {σ:Sto} {f i:Nat} {o o':Ob} (h:σ.at f i=some o):(σ.upd f i o').at f i=some o':=by
  unfold Sto.at at h
  split at h
  · rename_i F hF
    have hlt:=(List.getElem?_eq_some_iff.1 hF).1
    have hi:=(List.getElem?_eq_some_iff.1 h).1
    unfold Sto.upd Sto.at
    simp only [hF,List.getElem?_set_self hlt,List.getElem?_set_self hi]
  · cases h
theorem at_upd_other {σ:Sto} {f i f' i':Nat} {o':Ob} (h:f≠f'∨i≠i'):(σ.upd f i o').at f' i'=σ.at f' i':=by
  unfold Sto.upd
  split
  · rename_i F hF
    have hlt:=(List.getElem?_eq_some_iff.1 hF).1
    by_cases hf:f=f'
    · subst hf
      have hi:i≠i':=h.resolve_left (by simp)
      unfold Sto.at
      simp only [List.getElem?_set_self hlt,hF,List.getElem?_set_ne hi]
    · unfold Sto.at
      simp only [List.getElem?_set_ne hf]
  · rfl
theorem at_upd_cases {σ:Sto} {f i f' i':Nat} {o o' o'':Ob} (h0:σ.at f i=some o) (h:(σ.upd f i o').at f' i'=some o'') :
    (f'=f∧i'=i∧o''=o')∨((f≠f'∨i≠i')∧σ.at f' i'=some o''):=by
  by_cases hh:f=f'∧i=i'
  · obtain ⟨rfl,rfl⟩:=hh
    rw [at_upd_same h0] at h
    exact .inl ⟨rfl,rfl,by injection h with h; exact h.symm⟩
  · have hne:f≠f'∨i≠i':=by
      by_cases hf:f=f'
      · exact .inr fun hi=>hh ⟨hf,hi⟩
      · exact .inl hf
    rw [at_upd_other hne] at h
    exact .inr ⟨hne,h⟩
def Still (w w':World):Prop:=w'.os=w.os∧w'.tape=w.tape∧w'.output=w.output∧w.drawn≤w'.drawn
theorem Still.refl (w:World):Still w w:=⟨rfl,rfl,rfl,Nat.le_refl _⟩
theorem Still.trans {w w' w'':World} (h:Still w w') (k:Still w' w''):Still w w'':=⟨k.1.trans h.1,k.2.1.trans h.2.1,k.2.2.1.trans h.2.2.1,Nat.le_trans h.2.2.2 k.2.2.2⟩
structure Ext (w:World) (β:Blk) (σ:Sto) (w':World) (β':Blk) (σ':Sto):Prop where
  size:w.heap.size≤w'.heap.size
  old:∀ b,b < w.heap.size→¬ owned β σ b→w'.heap[b]?=w.heap[b]?
  new:∀ b,owned β' σ' b→owned β σ b∨w.heap.size≤b
  io:Still w w'
theorem Ext.refl (w:World) (β:Blk) (σ:Sto):Ext w β σ w β σ:=⟨Nat.le_refl _,fun _ _ _=>rfl,fun _ h=>.inl h,Still.refl w⟩
theorem Ext.trans {w w' w'':World} {β β' β'':Blk} {σ σ' σ'':Sto} (h:Ext w β σ w' β' σ') (h':Ext w' β' σ' w'' β'' σ''):Ext w β σ w'' β'' σ'' where
  size:=Nat.le_trans h.size h'.size
  old b hb hn:=by
    rw [h'.old b (Nat.lt_of_lt_of_le hb h.size) (fun ho=>(h.new b ho).elim hn (fun hle=>absurd hb (Nat.not_lt.2 hle))),h.old b hb hn]
  new b hb:=by
    rcases h'.new b hb with h1 | h1
    · exact h.new b h1
    · exact .inr (Nat.le_trans h.size h1)
  io:=h.io.trans h'.io
theorem ObRel.lt {w:World} {X:Nat→Prop} {β:Blk} {σ:Sto} {b:Nat} {o:Ob} (h:ObRel w X β σ (some b) o):b < w.heap.size:=by
  cases hl:o.lp with
  | none=>obtain ⟨c,hc,_⟩:=h.2.1 hl; exact (Array.getElem?_eq_some_iff.1 hc).1
  | some r =>
    have h3:=(h.2.2 r hl).2
    cases r with
    | lp r=>obtain ⟨q,hq,_⟩:=h3; exact (Array.getElem?_eq_some_iff.1 hq).1
    | mp n m=>obtain ⟨es,cl,hq,_⟩:=h3; exact (Array.getElem?_eq_some_iff.1 hq).1
theorem SRel.owned_lt {w:World} {X:Nat→Prop} {β:Blk} {σ:Sto} (h:SRel w X β σ) {b:Nat} (ho:owned β σ b):b < w.heap.size:=by
  obtain ⟨f,i,o,ho,hb⟩:=ho
  have:=h.obj f i o ho
  rw [hb] at this
  exact this.lt
theorem Xt_lt {w:World} {X:Nat→Prop} {β:Blk} {σ:Sto} (h:SRel w X β σ) (hX:∀ b,X b→b < w.heap.size) {b:Nat} (hb:Xt X β σ b):b < w.heap.size :=
  hb.elim (hX b) h.owned_lt
theorem Zh {w:World} {b:Nat} {o:Obj} (h:w.heap[b]?=some o):b < w.heap.size:=(Array.getElem?_eq_some_iff.1 h).1
theorem Kp.same {w w':World} {X:Nat→Prop} {β:Blk} {σ:Sto} (hs:w.heap.size≤w'.heap.size) (hh:∀ b,b < w.heap.size→w'.heap[b]?=w.heap[b]?) (hsr:SRel w X β σ) :
    Kp w (Xt X β σ) β σ w' (Xt X β σ) β σ where
  size:=hs
  imm b o hc _ _:=hh b (Zh hc)
  frb _ _ h:=h
  len:=Nat.le_refl _
  obs f i o _ ho:=⟨o,ho,rfl,Nat.le_refl _,fun _=>⟨rfl,fun b hb c T hc=>⟨c,T,by
    rw [hh b (hsr.owned_lt ⟨f,i,o,ho,hb⟩)]; exact hc,rfl⟩⟩⟩
theorem SRel.same {w w':World} {X:Nat→Prop} {β:Blk} {σ:Sto} (h:SRel w X β σ) (hs:w.heap.size≤w'.heap.size) (hh:∀ b,b < w.heap.size→w'.heap[b]?=w.heap[b]?):SRel w' X β σ where
  inj:=h.inj
  dis:=h.dis
  obj f i o ho:=(h.obj f i o ho).tr (Kp.same hs hh h) fun b hb=>hh b (h.owned_lt ⟨f,i,o,ho,hb⟩)
theorem Ext.same {w w':World} {β:Blk} {σ:Sto} (hs:w.heap.size≤w'.heap.size) (hh:∀ b,b < w.heap.size→w'.heap[b]?=w.heap[b]?) (io:Still w w':=by exact ⟨rfl,rfl,rfl,(by first | exact Nat.le_refl _ | exact Nat.le_succ _)⟩):Ext w β σ w' β σ :=
  ⟨hs,fun b hb _=>hh b hb,fun _ h=>.inl h,io⟩
def addB (β:Blk) (n:Nat) (bo:Option Nat):Blk:=fun f i=>if f=n∧i=0 then bo else β f i
theorem addB_old {β:Blk} {n f i:Nat} {bo:Option Nat} (h:f < n):addB β n bo f i=β f i:=by
  unfold addB; rw [if_neg (by omega)]
theorem addB_new {β:Blk} {n:Nat} {bo:Option Nat}:addB β n bo n 0=bo:=by
  unfold addB; rw [if_pos ⟨rfl,rfl⟩]
section push
variable {w w':World} {X:Nat→Prop} {β:Blk} {σ:Sto} {o:Ob} {bo:Option Nat}
theorem owned_push (hbo:∀ b,bo=some b→b=w.heap.size) {b:Nat} (h:owned (addB β σ.length bo) (σ++[some [o]]) b):owned β σ b∨w.heap.size≤b:=by
  obtain ⟨f,i,o',ho,hb⟩:=h
  rcases at_push_cases ho with ⟨hf,ho⟩ | ⟨rfl,rfl,rfl⟩
  · rw [addB_old hf] at hb
    exact .inl ⟨f,i,o',ho,hb⟩
  · rw [addB_new] at hb
    exact .inr (by rw [hbo b hb]; exact Nat.le_refl _)
theorem Kp.push (hsr:SRel w X β σ) (hs:w.heap.size≤w'.heap.size) (hh:∀ b,b < w.heap.size→w'.heap[b]?=w.heap[b]?) (hbo:∀ b,bo=some b→b=w.heap.size) :
    Kp w (Xt X β σ) β σ w' (Xt X (addB β σ.length bo) (σ++[some [o]])) (addB β σ.length bo) (σ++[some [o]]) where
  size:=hs
  imm b o hc _ _:=hh b (Zh hc)
  frb b hb h:=h.elim .inl fun h=>(owned_push hbo h).elim .inr fun h=>absurd hb (Nat.not_lt.2 h)
  len:=by simp
  obs f i o' hf ho:=by
    rw [at_push_old σ _ hf] at ho
    exact ⟨o',ho,rfl,Nat.le_refl _,fun _=>⟨addB_old hf,fun b hb c T hc=>⟨c,T,by rw [hh b (hsr.owned_lt ⟨f,i,o',ho,hb⟩)]; exact hc,rfl⟩⟩⟩
theorem Ext.push (hs:w.heap.size≤w'.heap.size) (hh:∀ b,b < w.heap.size→w'.heap[b]?=w.heap[b]?) (hbo:∀ b,bo=some b→b=w.heap.size) (io:Still w w':=by exact ⟨rfl,rfl,rfl,(by first | exact Nat.le_refl _ | exact Nat.le_succ _)⟩) :
    Ext w β σ w' (addB β σ.length bo) (σ++[some [o]]) :=
  ⟨hs,fun b hb _=>hh b hb,fun _ h=>owned_push hbo h,io⟩
theorem SRel.push (hsr:SRel w X β σ) (hX:∀ b,X b→b < w.heap.size) (hs:w.heap.size≤w'.heap.size) (hh:∀ b,b < w.heap.size→w'.heap[b]?=w.heap[b]?) (hbo:∀ b,bo=some b→b=w.heap.size)
    (ho:ObRel w' (Xt X (addB β σ.length bo) (σ++[some [o]])) (addB β σ.length bo) (σ++[some [o]]) bo o):SRel w' X (addB β σ.length bo) (σ++[some [o]]) where
  inj f i f' i' o1 o2 b h1 h2 hb1 hb2:=by
    rcases at_push_cases h1 with ⟨hf,g1⟩ | ⟨rfl,rfl,e1⟩ <;> rcases at_push_cases h2 with ⟨hf',g2⟩ | ⟨rfl,rfl,e2⟩
    · rw [addB_old hf] at hb1; rw [addB_old hf'] at hb2
      exact hsr.inj f i f' i' o1 o2 b g1 g2 hb1 hb2
    · rw [addB_old hf] at hb1; rw [addB_new] at hb2
      have h3:=hsr.owned_lt ⟨f,i,o1,g1,hb1⟩
      have h4:=hbo b hb2
      omega
    · rw [addB_old hf'] at hb2; rw [addB_new] at hb1
      have h3:=hsr.owned_lt ⟨f',i',o2,g2,hb2⟩
      have h4:=hbo b hb1
      omega
    · exact ⟨rfl,rfl⟩
  dis f i o1 b h1 hb1 hx:=by
    rcases at_push_cases h1 with ⟨hf,h1⟩ | ⟨rfl,rfl,rfl⟩
    · rw [addB_old hf] at hb1
      exact hsr.dis f i o1 b h1 hb1 hx
    · rw [addB_new] at hb1
      have h3:=hX b hx
      have h4:=hbo b hb1
      omega
  obj f i o1 h1:=by
    rcases at_push_cases h1 with ⟨hf,h1⟩ | ⟨rfl,rfl,rfl⟩
    · rw [addB_old hf]
      exact (hsr.obj f i o1 h1).tr (Kp.push hsr hs hh hbo) fun b hb=>hh b (hsr.owned_lt ⟨f,i,o1,h1,hb⟩)
    · rw [addB_new]; exact ho
end push
def mvB (β:Blk) (f i:Nat) (bo:Option Nat):Blk:=fun f' i'=>if f'=f∧i'=i then bo else β f' i'
section turn
variable {w w':World} {X:Nat→Prop} {β:Blk} {σ:Sto} {o o':Ob} {f i:Nat} {bo:Option Nat}
theorem mvB_same:mvB β f i bo f i=bo:=by unfold mvB; rw [if_pos ⟨rfl,rfl⟩]
theorem mvB_other {f' i':Nat} (h:f≠f'∨i≠i'):mvB β f i bo f' i'=β f' i':=by
  unfold mvB; rw [if_neg]; rintro ⟨rfl,rfl⟩; simp at h
structure Turn (w:World) (β:Blk) (f i:Nat) (bo:Option Nat) (w':World):Prop where
  size:w.heap.size≤w'.heap.size
  old:∀ b,b < w.heap.size→β f i≠some b→w'.heap[b]?=w.heap[b]?
  at_:∀ b,bo=some b→β f i=some b∨w.heap.size≤b
  io:Still w w'
theorem owned_turn (ho:σ.at f i=some o) (ht:Turn w β f i bo w') {b:Nat} (h:owned (mvB β f i bo) (σ.upd f i o') b):owned β σ b∨w.heap.size≤b:=by
  obtain ⟨f',i',o'',h1,hb⟩:=h
  rcases at_upd_cases ho h1 with ⟨rfl,rfl,rfl⟩ | ⟨hne,h1⟩
  · rw [mvB_same] at hb
    rcases ht.at_ b hb with h | h
    · exact .inl ⟨_,_,o,ho,h⟩
    · exact .inr h
  · rw [mvB_other hne] at hb
    exact .inl ⟨f',i',o'',h1,hb⟩
theorem Kp.turn (hsr:SRel w X β σ) (ho:σ.at f i=some o) (ht:Turn w β f i bo w') (hk:o.k=o'.k) (hl:o.es.length≤o'.es.length)
    (hsame:o.es.length=o'.es.length→bo=β f i∧∀ b,β f i=some b→SameSize w w' b) :
    Kp w (Xt X β σ) β σ w' (Xt X (mvB β f i bo) (σ.upd f i o')) (mvB β f i bo) (σ.upd f i o') where
  size:=ht.size
  imm b o1 hc _ hn:=ht.old b (Zh hc) fun hβ=>hn (.inr ⟨f,i,o,ho,hβ⟩)
  frb b hb h:=h.elim .inl fun h=>(owned_turn ho ht h).elim .inr fun h=>absurd hb (Nat.not_lt.2 h)
  len:=by rw [upd_length]; exact Nat.le_refl _
  obs f' i' o'' hf h:=by
    rcases at_upd_cases ho h with ⟨rfl,rfl,rfl⟩ | ⟨hne,h⟩
    · refine ⟨o,ho,hk,hl,fun he=>?_⟩
      rw [mvB_same]
      exact hsame he
    · refine ⟨o'',h,rfl,Nat.le_refl _,fun _=>⟨mvB_other hne,fun b hb c T hc=>⟨c,T,?_,rfl⟩⟩⟩
      rw [ht.old b (hsr.owned_lt ⟨f',i',o'',h,hb⟩) fun hβ=>?_]
      · exact hc
      · have:=hsr.inj f i f' i' o o'' b ho h hβ hb
        rcases hne with h | h
        · exact h this.1
        · exact h this.2
theorem Ext.turn (ho:σ.at f i=some o) (ht:Turn w β f i bo w'):Ext w β σ w' (mvB β f i bo) (σ.upd f i o') :=
  ⟨ht.size,fun b hb hn=>ht.old b hb fun hβ=>hn ⟨f,i,o,ho,hβ⟩,fun _ h=>owned_turn ho ht h,ht.io⟩
theorem SRel.turn (hsr:SRel w X β σ) (hX:∀ b,X b→b < w.heap.size) (ho:σ.at f i=some o) (ht:Turn w β f i bo w') (hk:o.k=o'.k) (hl:o.es.length≤o'.es.length)
    (hsame:o.es.length=o'.es.length→bo=β f i∧∀ b,β f i=some b→SameSize w w' b)
    (hob:ObRel w' (Xt X (mvB β f i bo) (σ.upd f i o')) (mvB β f i bo) (σ.upd f i o') bo o'):SRel w' X (mvB β f i bo) (σ.upd f i o') where
  inj f1 i1 f2 i2 o1 o2 b h1 h2 hb1 hb2:=by
    rcases at_upd_cases ho h1 with ⟨rfl,rfl,e1⟩ | ⟨hne1,g1⟩ <;> rcases at_upd_cases ho h2 with ⟨rfl,rfl,e2⟩ | ⟨hne2,g2⟩
    · exact ⟨rfl,rfl⟩
    · rw [mvB_same] at hb1; rw [mvB_other hne2] at hb2
      rcases ht.at_ b hb1 with h | h
      · exact hsr.inj _ _ _ _ o o2 b ho g2 h hb2
      · have:=hsr.owned_lt ⟨_,_,o2,g2,hb2⟩; omega
    · rw [mvB_same] at hb2; rw [mvB_other hne1] at hb1
      rcases ht.at_ b hb2 with h | h
      · exact hsr.inj _ _ _ _ o1 o b g1 ho hb1 h
      · have:=hsr.owned_lt ⟨_,_,o1,g1,hb1⟩; omega
    · rw [mvB_other hne1] at hb1; rw [mvB_other hne2] at hb2
      exact hsr.inj _ _ _ _ o1 o2 b g1 g2 hb1 hb2
  dis f1 i1 o1 b h1 hb1 hx:=by
    rcases at_upd_cases ho h1 with ⟨rfl,rfl,rfl⟩ | ⟨hne1,h1⟩
    · rw [mvB_same] at hb1
      rcases ht.at_ b hb1 with h | h
      · exact hsr.dis _ _ o b ho h hx
      · have:=hX b hx; omega
    · rw [mvB_other hne1] at hb1
      exact hsr.dis _ _ o1 b h1 hb1 hx
  obj f1 i1 o1 h1:=by
    rcases at_upd_cases ho h1 with ⟨rfl,rfl,rfl⟩ | ⟨hne1,h1⟩
    · rw [mvB_same]; exact hob
    · rw [mvB_other hne1]
      refine (hsr.obj _ _ o1 h1).tr (Kp.turn hsr ho ht hk hl hsame) fun b hb=>?_
      refine ht.old b (hsr.owned_lt ⟨f1,i1,o1,h1,hb⟩) fun hβ=>?_
      have:=hsr.inj f i f1 i1 o o1 b ho h1 hβ hb
      rcases hne1 with h | h
      · exact h this.1
      · exact h this.2
end turn
def beqV:Value→Value→Bool
  | .bool a,.bool b=>a == b
  | .int k a,.int k' b=>k == k' && a == b
  | .float k a,.float k' b=>k == k' && a == b
  | .string a,.string b=>decide (a.data=b.data)
  | .pointer none,.pointer none=>true
  | .slice none 0 0,.slice none 0 0=>true
  | .map none,.map none=>true
  | .chan none,.chan none=>true
  | .nilFunc,.nilFunc=>true
  | .nilIface,.nilIface=>true
  | _,_=>false
theorem beqV_eq {a b:Value} (h:beqV a b=true):a=b∧scalar a=true:=by
  unfold beqV at h
  split at h
  case h_4 a b=>obtain ⟨a⟩:=a; obtain ⟨b⟩:=b; simp at h; subst h; exact ⟨rfl,rfl⟩
  all_goals first
    | (simp at h; done)
    | (simp at h; subst h; exact ⟨rfl,rfl⟩)
    | (simp at h; obtain ⟨rfl,rfl⟩:=h; exact ⟨rfl,rfl⟩)
    | exact ⟨rfl,rfl⟩
def beqVs:List Value→List Value→Bool
  | [],[]=>true
  | a::r,b::s=>beqV a b && beqVs r s
  | _,_=>false
theorem beqVs_eq:∀ {a b:List Value},beqVs a b=true→a=b∧∀ x∈a,scalar x=true
  | [],[],_=>⟨rfl,by simp⟩
  | a::r,b::s,h=>by
    simp only [beqVs,Bool.and_eq_true] at h
    obtain ⟨rfl,h1⟩:=beqV_eq h.1
    obtain ⟨rfl,h2⟩:=beqVs_eq h.2
    exact ⟨rfl,by simpa using ⟨h1,h2⟩⟩
  | [],_::_,h=>by simp [beqVs] at h
  | _::_,[],h=>by simp [beqVs] at h
theorem oneCell_of_scalar {x:Value} (h:scalar x=true):x.oneCell'=true:=by cases x <;> simp_all [scalar,Value.oneCell']
def chkO:Operand→O→Bool
  | .tmp a,.t b=>a == b
  | .const x,.c y=>beqV x y
  | .const (.agg xs),.ca l=>beqVs xs.toList l
  | .func f,.f g=>f == g
  | _,_=>false
def chkOs:List Operand→List O→Bool
  | [],[]=>true
  | a::r,b::s=>chkO a b && chkOs r s
  | _,_=>false
def szF (P:Program) (t:TypeId):Option Nat:=(P.info? t).map (·.size)
def agF (P:Program) (t:TypeId):Option Bool:=(P.underlying t).map fun d=>match d with | .struct _ | .array _ _=>true | _=>false
def zrF (P:Program) (t:TypeId):Option (List Value):=(P.info? t).bind fun i=>i.zero.map (·.cells.toList)
def elF (P:Program) (t:TypeId):Option TypeId:=match P.underlying t with | some (.slice e)=>some e | _=>none
def fdF (P:Program) (t:TypeId) (n:Nat):Option (Nat × TypeId) :=
  match P.underlying t with
  | some (.struct fs)=>(fs[n]?).map fun f=>(f.offset,f.type)
  | _=>none
def optO:Option Operand→Option O→Bool
  | none,none=>true
  | some a,some b=>chkO a b
  | _,_=>false
def chkPs (place:Nat→Option (Nat × Nat)):List (Nat × Operand)→List (Nat × Nat × O)→Bool
  | [],[]=>true
  | (i,x)::r,(off,size,y)::s=>place i == some (off,size) && chkO x y && chkPs place r s
  | _,_=>false
def flatN (P:Program):Nat→TypeId→Option (List (Option IntKind))
  | 0,_=>none
  | d+1,t =>
    match P.underlying t with
    | some (.int k)=>some [some k]
    | some .bool=>some [none]
    | some (.struct fs)=>if P.stoodInHeld t then none else
        (fs.toList.foldl (fun acc f=>acc.bind fun l=>if f.offset == l.length && f.name != "_" then (flatN P d f.type).map fun n=>l++n else none) (some [])).bind fun n =>
          if szF P t == some n.length then some n else none
    | _=>none
def chkM (P:Program) (t:TypeId) (n:Nat):Bool :=
  match P.underlying t with
  | some (.map k _)=>(match P.underlying k with
    | some (.int .i64)=>n == 1
    | some (.struct fs)=>n != 1 && flatN P 4 k == some (List.replicate n (some .i64)) && fs.toList.all fun f=>f.name != "_" && (match P.underlying f.type with | some (.int .i64)=>decide (f.offset < n) | _=>false)
    | _=>false)
  | _=>false
def chkZ (P:Program) (e:TypeId) (ag:Bool) (z:List Value):Bool :=
  match (P.info? e).bind (·.zero),z with
  | some (.agg xs),_=>ag && beqVs xs.toList z
  | some x,[y]=>!ag && beqV x y
  | _,_=>false
def ptF (P:Program) (t:TypeId):Bool:=match P.underlying t with | some (.pointer _)=>true | _=>false
def ifF (P:Program) (t:TypeId):Bool:=match P.underlying t with | some (.interface _)=>true | _=>false
def chkI (P:Program) (o:Op) (i:I):Bool :=
  match o,i with
  | .move x,.mv y | .assign x,.mv y=>chkO x y
  | .pick c a b,.pick c' a' b'=>chkO c c' && chkO a a' && chkO b b'
  | .alloc T,.alloc T' k z=>T == T' && szF P T == some k && (match zrF P T with | some l=>beqVs l z | none=>false)
  | .box T x,.box _ T' k y=>T == T' && szF P T == some k && chkO x y
  | .build t ps,.build z qs=>(match zrF P t with | some l=>beqVs l z | none=>false) &&
      (match P.underlying t with
        | some (.struct fs)=>chkPs (fun n=>(fs[n]?).bind fun f=>(szF P f.type).map fun s=>(f.offset,s)) ps.toList qs && fs.toList.all fun f=>(szF P f.type).isSome
        | some (.array _ e)=>(match szF P e with | some s=>chkPs (fun n=>some (n * s,s)) ps.toList qs | none=>false)
        | _=>false)
  | .buildSlice t n ps,.bsl _ T k m z qs=>n == m && elF P t == some T && szF P T == some k && decide (n * k≤16777216) &&
      (match zrF P T with | some l=>beqVs ((List.range (n * k)).map fun j=>l.toArray[j % l.toArray.size]!) z | none=>false) && chkPs (fun i=>some (i * k,k)) ps.toList qs
  | .buildSlice t n ps,.gbsl T k m z qs=>n == m && elF P t == some T && szF P T == some k && decide (n * k≤16777216) &&
      (match zrF P T with | some l=>beqVs ((List.range (n * k)).map fun j=>l.toArray[j % l.toArray.size]!) z | none=>false) && chkPs (fun i=>some (i * k,k)) ps.toList qs
  | .buildSlice t n ps,.bslt T k m z qs=>n == m && elF P t == some T && szF P T == some k && decide (n * k≤16777216) &&
      (match zrF P T with | some l=>beqVs ((List.range (n * k)).map fun j=>l.toArray[j % l.toArray.size]!) z | none=>false) && chkPs (fun i=>some (i * k,k)) ps.toList qs
  | .load t a,.load s b=>chkO a b && (match agF P t,s with
      | some false,none=>true
      | some true,some n=>szF P t == some n
      | _,_=>false)
  | .store t a x,.store s b y=>chkO a b && chkO x y && szF P t == some s
  | .binOp op _ x y _,.bin op' x' y'=>op == op' && chkO x x' && chkO y y'
  | .binOp op t x y _,.eqs neg ks x' y'=>op == (if neg then .neq else .eql) && chkO x x' && chkO y y' && (match P.underlying t with | some (.struct _)=>true | _=>false) && flatN P 4 t == some ks && !P.eqGuardType P.depth t
  | .binOp op t x y _,.eqb neg x' y'=>op == (if neg then .neq else .eql) && chkO x x' && chkO y y' && (match P.underlying t with | some .bool=>true | _=>false)
  | .panic _,.bad=>true
  | .binOp op t x y _,.nilq neg x' y'=>op == (if neg then .neq else .eql) && chkO x x' && chkO y y' && (elF P t).isSome
  | .unOp op _ x,.un op' y=>op == op' && chkO x y
  | .convert a b x,.cnv k y=>chkO x y && (P.underlying a).isSome && (match P.underlying b with | some (.int k')=>k' == k | _=>false)
  | .fieldAddr t x n,.faddr off y=>chkO x y && (match fdF P t n with
      | some (o,ft)=>o == off && (match szF P ft with | some s=>s != 0 | none=>false)
      | none=>false)
  | .field t x n,.field off s y=>chkO x y && (match fdF P t n with
      | some (o,ft)=>o == off && (match agF P ft,s with
        | some false,none=>true
        | some true,some n=>szF P ft == some n
        | _,_=>false)
      | none=>false)
  | .indexAddr t x j,.iaddr k y j'=>chkO x y && chkO j j' && (match elF P t with | some e=>szF P e == some k | none=>false)
  | .extract x n,.ext m y=>chkO x y && n == m
  | .call ⟨.builtin .len,args,ts⟩,.len y=>(match args.toList,ts.toList with
      | [x],[t]=>chkO x y && (elF P t).isSome
      | _,_=>false)
  | .call ⟨.builtin .min,args,_⟩,.mnx mx x y=>!mx && chkOs args.toList [x,y]
  | .call ⟨.builtin .max,args,_⟩,.mnx mx x y=>mx && chkOs args.toList [x,y]
  | .call ⟨.builtin .min,args,_⟩,.mn3 mx x y z=>!mx && chkOs args.toList [x,y,z]
  | .call ⟨.builtin .max,args,_⟩,.mn3 mx x y z=>mx && chkOs args.toList [x,y,z]
  | .call ⟨.builtin .append,args,ts⟩,.app T k bytes s x=>chkOs args.toList [s,x] && (match ts.toList with
      | [t,t']=>t == t' && elF P t == some T && szF P T == some k && (P.info? T).map (·.bytes) == some bytes && (match zrF P T with | some z=>z.length == k | none=>false) && k != 0 && bytes != 0
      | _=>false)
  | .call ⟨.builtin .append,args,ts⟩,.gapp T k bytes s x=>chkOs args.toList [s,x] && (match ts.toList with
      | [t,t']=>t == t' && elF P t == some T && szF P T == some k && (P.info? T).map (·.bytes) == some bytes && (match zrF P T with | some z=>z.length == k | none=>false) && k != 0 && bytes != 0
      | _=>false)
  | .call ⟨.builtin .append,args,ts⟩,.appi T k bytes s x=>chkOs args.toList [s,x] && (match ts.toList with
      | [t,t']=>t == t' && elF P t == some T && szF P T == some k && (P.info? T).map (·.bytes) == some bytes && (match zrF P T with | some z=>z.length == k | none=>false) && k != 0 && bytes != 0
      | _=>false)
  | .makeSlice t l c,.mksl T k bytes z l' c'=>chkO l l' && chkO c c' && elF P t == some T && szF P T == some k && (P.info? T).map (·.bytes) == some bytes && (match zrF P T with | some z'=>beqVs z' z && z'.length == k | none=>false) && k != 0 && bytes != 0
  | .slice t x lo hi none,.slice k y lo' hi'=>chkO x y && optO lo lo' && optO hi hi' && (match elF P t with | some e=>szF P e == some k | none=>false)
  | .slice t x (some lo) none none,.subs k y lo'=>chkO x y && chkO lo lo' && k != 0 && (match elF P t with | some e=>szF P e == some k | none=>false)
  | .call ⟨.builtin .clear,args,ts⟩,.clr T k z y=>chkOs args.toList [y] && (match ts.toList with
      | [t]=>elF P t == some T && (match zrF P T with | some l=>beqVs l z | none=>false) && z.length == k
      | _=>false)
  | .makeFunc f a b,.mkfn f' a' b'=>decide (f=f') && chkOs a.toList a' && chkOs b.toList b'
  | .nilCheck x,.nilc y=>chkO x y
  | .makeInterface t x,.ifc T y=>t == T && chkO x y && (match P.underlying t with | some (.interface _) | none=>false | _=>true)
  | .makeMap t none,.mkmp n=>chkM P t n
  | .lookup t m k ok,.look n ag z ok' m' k'=>ok == ok' && chkO m m' && chkO k k' && chkM P t n && (match P.underlying t with | some (.map _ e)=>chkZ P e ag z | _=>false)
  | .mapUpdate t m k x,.mput n m' k' x'=>chkO m m' && chkO k k' && chkO x x' && chkM P t n
  | .mapEntry t m k,.ment n ag z m' k'=>chkO m m' && chkO k k' && chkM P t n && (match P.underlying t with | some (.map _ e)=>chkZ P e ag z | _=>false)
  | .entryStore _ m s x,.est n m' s' x'=>chkO m m' && chkO s s' && chkO x x'
  | .binOp op t x (.const c) _,.nilf p neg x' y'=>op == (if neg then .neq else .eql) && chkO x x' && chkO (.const c) y' && (bif p then ptF P t else ifF P t)
  | .insert t m k x,.mput n m' k' x'=>chkO m m' && chkO k k' && chkO x x' && chkM P t n
  | .call ⟨.value f,args,_⟩,.call g args'=>chkO f g && chkOs args.toList args'
  | .call ⟨.invoke r nm,args,_⟩,.inv nm' x args'=>nm == nm' && chkO r x && chkOs args.toList args'
  | _,_=>false
theorem chkI_gapp {P:Program} {o:Op} {T k bytes:Nat} {s x:O} (h:chkI P o (.gapp T k bytes s x)=true):chkI P o (.app T k bytes s x)=true:=by
  cases o <;> try (simp [chkI] at h; done)
  rename_i c
  obtain ⟨cal,args,ts⟩:=c
  cases cal <;> try (simp [chkI] at h; done)
  rename_i b
  cases b <;> first | exact h | (simp [chkI] at h; done)
theorem chkI_gbsl {P:Program} {o:Op} {T k n:Nat} {z:List Value} {ps:List (Nat × Nat × O)} (h:chkI P o (.gbsl T k n z ps)=true):chkI P o (.bsl true T k n z ps)=true:=by
  cases o <;> first | exact h | (simp [chkI] at h; done)
def Done (P:Program) (o:Oper) (ρ:Operand→Value) (w:World) (X:Nat→Prop) (β:Blk) (σ:Sto) (r:AV) (σ':Sto):Prop :=
  ∃ n x w' β',(execOp ρ o).run P w=.ok n w'∧(n=.value x∨n=.skip∧x=undef)∧SRel w' X β' σ'∧Kp w (Xt X β σ) β σ w' (Xt X β' σ') β' σ' ∧
    Ext w β σ w' β' σ'∧RV w' (Xt X β' σ') β' σ' r x
section
variable {P:Program} {o:Oper} {ρ:Operand→Value} {w:World} {X:Nat→Prop} {β:Blk} {σ:Sto}
theorem Zx {r:AV} {x:Value} (hs:SRel w X β σ) (hr:(execOp ρ o).run P w=.ok (.value x) w) (hx:RV w (Xt X β σ) β σ r x):Done P o ρ w X β σ r σ :=
  ⟨_,x,w,β,hr,.inl rfl,hs,Kp.same (Nat.le_refl _) (fun _ _=>rfl) hs,Ext.refl _ _ _,hx⟩
theorem RV.inv_v {X:Nat→Prop} {x y:Value} (h:RV w X β σ (.v x) y):y=x:=by cases h; rfl
theorem RV.inv_agg {X:Nat→Prop} {cs:List AV} {y:Value} (h:RV w X β σ (.agg cs) y) :
    ∃ xs:Array Value,y=.agg xs∧xs.size=cs.length∧(∀ i,i < cs.length→(xs.getD i undef).oneCell'=true)∧∀ i,i < cs.length→RV w X β σ (cs.getD i .any) (xs.getD i undef):=by
  cases h with
  | agg _ xs hn h1 h=>exact ⟨xs,rfl,hn,h1,h⟩
theorem RV.inv_tup {X:Nat→Prop} {cs:List AV} {y:Value} (h:RV w X β σ (.tup cs) y) :
    ∃ xs:Array Value,y=.tuple xs∧xs.size=cs.length∧∀ i,i < cs.length→RV w X β σ (cs.getD i .any) (xs.getD i undef):=by
  cases h with
  | tup _ xs hn h=>exact ⟨xs,rfl,hn,h⟩
theorem agg_list {X:Nat→Prop} {cs:List AV} {xs:List Value} (hn:xs.length=cs.length) (h1:∀ i,i < cs.length→(xs.getD i undef).oneCell'=true)
    (h:∀ i,i < cs.length→RV w X β σ (cs.getD i .any) (xs.getD i undef)):RV w X β σ (.agg cs) (.agg xs.toArray):=by
  refine .agg cs _ (by simpa using hn) (fun i hi=>?_) fun i hi=>?_
  · simpa [Array.getD_eq_getD_getElem?,List.getD_eq_getElem?_getD] using h1 i hi
  · simpa [Array.getD_eq_getD_getElem?,List.getD_eq_getElem?_getD] using h i hi
theorem run_loadVar_one {t:TypeId} {a:Addr} {x:Value} (ht:agF P t=some false) (hc:w.cell? a=some x):(loadVar t a).run P w=.ok x w:=by
  unfold agF at ht
  obtain ⟨d,hd,he⟩:=Option.map_eq_some_iff.1 ht
  have ha:(isAgg t).run P w=.ok false w:=by
    simp only [isAgg,Sem.run_bind,run_underlying hd,Result.andThen_ok]
    cases d <;> first | rfl | simp at he
  simp [loadVar,ha,hc]
theorem run_loadVar_agg {t:TypeId} {a:Addr} {n:Nat} {f:Nat→Value} (ht:agF P t=some true) (hs:szF P t=some n) (hc:∀ j,j < n→w.cell? (a.add j)=some (f j)) :
    (loadVar t a).run P w=.ok (.agg ((List.range n).map f).toArray) w:=by
  unfold agF at ht
  obtain ⟨d,hd,he⟩:=Option.map_eq_some_iff.1 ht
  have ha:(isAgg t).run P w=.ok true w:=by
    simp only [isAgg,Sem.run_bind,run_underlying hd,Result.andThen_ok]
    cases d <;> first | rfl | simp at he
  unfold szF at hs
  obtain ⟨i,hi,rfl⟩:=Option.map_eq_some_iff.1 hs
  have hz:(sizeOf t).run P w=.ok i.size w:=by simp [sizeOf,typeInfo,hi]
  simp only [loadVar,Sem.run_bind,ha,Result.andThen_ok,if_true,hz,run_loadCells w a i.size f hc,Sem.run_pure]
end
section
variable {P:Program} {o:Oper} {ρ:Operand→Value} {w:World} {X:Nat→Prop} {β:Blk} {σ:Sto} {v:O→AV}
theorem Zv (s:Sem Value) (x:Value) (w':World) (h:s.run P w=.ok x w'):(do let a ← s; pure (Next.value a):Sem Next).run P w=.ok (.value x) w':=by
  simp [h]
theorem pick1_none {cs:List AV} {j:Nat} {r:AV} (h:pick1 none cs j=some r):j < cs.length∧r=cs.getD j .any:=by
  simp only [pick1] at h
  obtain ⟨hj,he⟩:=List.getElem?_eq_some_iff.1 h
  exact ⟨hj,by rw [List.getD_eq_getElem?_getD,h]; rfl⟩
theorem pick1_some {cs:List AV} {j n:Nat} {r:AV} (h:pick1 (some n) cs j=some r):j+n≤cs.length∧r=.agg ((cs.drop j).take n):=by
  simp only [pick1] at h
  split at h
  · rename_i hj; exact ⟨hj,by injection h with h; exact h.symm⟩
  · cases h
theorem getD_take_drop {α:Type} (l:List α) (j n i:Nat) (d:α) (h:i < n):((l.drop j).take n).getD i d=l.getD (j+i) d:=by
  rw [List.getD_eq_getElem?_getD,List.getD_eq_getElem?_getD,List.getElem?_take,if_pos h,List.getElem?_drop]
theorem length_take_drop {α:Type} (l:List α) (j n:Nat) (h:j+n≤l.length):((l.drop j).take n).length=n:=by
  rw [List.length_take,List.length_drop]; omega
theorem take_drop_map {α:Type} (l:List α) (j n:Nat) (d:α) (h:j+n≤l.length):(l.drop j).take n=(List.range n).map (fun i=>l.getD (j+i) d):=by
  apply List.ext_getElem?
  intro i
  by_cases hi:i < n
  · rw [List.getElem?_take,if_pos hi,List.getElem?_drop,List.getElem?_map,List.getElem?_range hi,List.getElem?_eq_getElem (show j+i < l.length by omega)]
    simp [List.getD_eq_getElem?_getD,List.getElem?_eq_getElem (show j+i < l.length by omega)]
  · rw [List.getElem?_eq_none (by rw [length_take_drop _ j n h]; omega),List.getElem?_eq_none (by simp; omega)]
theorem getD_extract (xs:Array Value) (a n t:Nat) (d:Value) (h:t < n) (h2:a+n≤xs.size):(xs.extract a (a+n)).getD t d=xs.getD (a+t) d:=by
  have e:t < min (a+n) xs.size - a:=by omega
  have e2:a+t < xs.size:=by omega
  simp [Array.getD_eq_getD_getElem?,e,e2]
theorem load_rows (hs:SRel w X β σ) {t:TypeId} {a:Operand} {s:Option Nat} {b off:Nat} {f:Nat→Value} {g:Nat→AV} {r:AV} {m:Nat}
    (ho:o.op=.load t a) (hρ:ρ a=.pointer (some ⟨b,off,none⟩))
    (ht:(match agF P t,s with | some false,none=>true | some true,some n=>szF P t == some n | _,_=>false)=true)
    (hc:∀ i,i < m→w.cell? ⟨b,off+i,none⟩=some (f i)) (h1:∀ i,i < m→(f i).oneCell'=true) (hr:∀ i,i < m→RV w (Xt X β σ) β σ (g i) (f i))
    (hm:m=s.getD 1) (hg:r=match s with | none=>g 0 | some n=>.agg ((List.range n).map g)):∃ x,(execOp ρ o).run P w=.ok (.value x) w∧RV w (Xt X β σ) β σ r x:=by
  have hx:execOp ρ o=(do let x ← Instr.loadAt t (ρ a); pure (.value x)):=by unfold execOp; rw [ho]
  cases hag:agF P t with
  | none=>rw [hag] at ht; simp at ht
  | some q =>
    rw [hag] at ht
    cases q with
    | false =>
      cases s with
      | some n=>simp at ht
      | none =>
        simp at hm hg; subst hm; subst hg
        refine ⟨f 0,?_,hr 0 (by omega)⟩
        rw [hx]
        refine Zv _ _ _ ?_
        simp only [Instr.loadAt,hρ,Instr.sureAddr,pure_bind]
        exact run_loadVar_one hag (by simpa using hc 0 (by omega))
    | true =>
      cases s with
      | none=>simp at ht
      | some n =>
        simp at hm ht hg; subst hm; subst hg
        refine ⟨.agg ((List.range m).map f).toArray,?_,?_⟩
        · rw [hx]
          refine Zv _ _ _ ?_
          simp only [Instr.loadAt,hρ,Instr.sureAddr,pure_bind]
          refine run_loadVar_agg hag ht (fun j hj=>?_)
          rw [Addr.add_lit]; exact hc j hj
        · refine agg_list (by simp) (fun i hi=>?_) (fun i hi=>?_)
          · simp at hi; simpa [List.getD_eq_getElem?_getD,hi] using h1 i hi
          · simp at hi; simpa [List.getD_eq_getElem?_getD,hi] using hr i hi
theorem ex_load0 {S:Prop} {r:AV} {σ':Sto} {s:Option Nat} {y:O} (hc:chkI P o.op (.load s y)=true) (hs:SRel w X β σ)
    (hv:∀ x z,chkO x z=true→z∈(I.load s y).os→RV w (Xt X β σ) β σ (v z) (ρ x)) (he:ex (.load s y) v σ=some (S,r,σ')) (hS:S) :
    σ'=σ∧∃ x,(execOp ρ o).run P w=.ok (.value x) w∧RV w (Xt X β σ) β σ r x:=by
  cases hop:o.op <;> rw [hop] at hc <;> try (simp [chkI] at hc; done)
  rename_i t a
  simp only [chkI,Bool.and_eq_true] at hc
  have ha:=hv a y hc.1 (by simp [I.os])
  have ht:=hc.2
  simp only [ex] at he
  generalize v y=vy at ha he
  generalize hq:ρ a=q at ha
  cases vy <;> try (simp at he; done)
  case iptr cs j =>
    simp only at he
    split at he
    · rename_i x hp
      simp only [Option.some.injEq,Prod.mk.injEq] at he
      obtain ⟨_,rfl,rfl⟩:=he
      cases ha with
      | iptr _ _ b off f hX h1 hcell hr =>
        cases s with
        | none =>
          obtain ⟨hj,rfl⟩:=pick1_none hp
          refine ⟨rfl,?_⟩
          exact load_rows (f:=fun i=>f (j+i)) (g:=fun i=>cs.getD (j+i) .any) (m:=1) hs hop hq ht
            (fun i hi=>by rw [Nat.add_assoc]; exact hcell _ (by omega)) (fun i hi=>h1 _ (by omega)) (fun i hi=>hr _ (by omega)) rfl rfl
        | some n =>
          obtain ⟨hj,rfl⟩:=pick1_some hp
          refine ⟨rfl,?_⟩
          refine load_rows (f:=fun i=>f (j+i)) (g:=fun i=>cs.getD (j+i) .any) (m:=n) hs hop hq ht
            (fun i hi=>by rw [Nat.add_assoc]; exact hcell _ (by omega)) (fun i hi=>h1 _ (by omega)) (fun i hi=>hr _ (by omega)) rfl ?_
          exact congrArg AV.agg (take_drop_map cs j n AV.any hj)
    · simp only [Option.some.injEq,Prod.mk.injEq] at he
      obtain ⟨rfl,_,_⟩:=he
      exact hS.elim
  case ptr f i n e j =>
    simp only [obj] at he
    cases hat:σ.at f i with
    | none=>rw [hat] at he; simp at he
    | some ob =>
      rw [hat] at he
      have hob:=hs.obj f i ob hat
      cases ha with
      | ptr _ _ _ _ _ _ h1c hf hle h =>
        cases s with
        | none =>
          simp only [Option.some.injEq,Prod.mk.injEq] at he
          obtain ⟨rfl,rfl,rfl⟩:=he
          obtain ⟨hn,hen,hj⟩:=hS
          obtain ⟨b,hb,rfl⟩:=h ob hat hn
          have h2:=hob.2
          rw [hb] at h2
          obtain ⟨c,hcell,hsz,h1,hr⟩:=h2.1 (hob.lp_none (by omega:e < ob.es.length))
          have hlt:e * ob.k+j < c.size:=by
            have:=Nat.mul_le_mul_right ob.k (show e+1≤ob.es.length by omega)
            rw [Nat.add_mul] at this; omega
          refine ⟨rfl,?_⟩
          refine load_rows (f:=fun i=>c.getD (e * ob.k+(j+i)) undef) (g:=fun i=>(ob.es.getD e []).getD (j+i) .any) (m:=1) hs hop hq ht
            (fun i hi=>?_) (fun i hi=>h1 e (j+i) (by omega) (by omega)) (fun i hi=>hr e (j+i) (by omega) (by omega)) rfl rfl
          obtain rfl:i=0:=by omega
          rw [cell_of_row w b _ c _ _ hcell]
          simp [Array.getD_eq_getD_getElem?,hlt]
        | some m =>
          simp only [Option.some.injEq,Prod.mk.injEq] at he
          obtain ⟨rfl,rfl,rfl⟩:=he
          obtain ⟨hn,hen,hj⟩:=hS
          obtain ⟨b,hb,rfl⟩:=h ob hat hn
          have h2:=hob.2
          rw [hb] at h2
          obtain ⟨c,hcell,hsz,h1,hr⟩:=h2.1 (hob.lp_none (by omega:e < ob.es.length))
          have hlt:e * ob.k+j+m≤c.size:=by
            have:=Nat.mul_le_mul_right ob.k (show e+1≤ob.es.length by omega)
            rw [Nat.add_mul] at this; omega
          have hk:=hob.1 e (by omega)
          refine ⟨rfl,?_⟩
          refine load_rows (f:=fun i=>c.getD (e * ob.k+(j+i)) undef) (g:=fun i=>(ob.es.getD e []).getD (j+i) .any) (m:=m) hs hop hq ht
            (fun i hi=>?_) (fun i hi=>h1 e (j+i) (by omega) (by omega)) (fun i hi=>hr e (j+i) (by omega) (by omega)) rfl ?_
          · rw [cell_of_row w b _ c _ _ hcell]
            simp [Array.getD_eq_getD_getElem?,Nat.add_assoc,show e * ob.k+(j+i) < c.size by omega]
          · exact congrArg AV.agg (take_drop_map (ob.es.getD e []) j m AV.any (by omega))
theorem ex_load {S:Prop} {r:AV} {σ':Sto} {s:Option Nat} {y:O} (hc:chkI P o.op (.load s y)=true) (hs:SRel w X β σ)
    (hv:∀ x z,chkO x z=true→z∈(I.load s y).os→RV w (Xt X β σ) β σ (v z) (ρ x)) (he:ex (.load s y) v σ=some (S,r,σ')) (hS:S):Done P o ρ w X β σ r σ':=by
  obtain ⟨rfl,x,hr,hx⟩:=ex_load0 hc hs hv he hS
  exact Zx hs hr hx
theorem ex_mv {S:Prop} {r:AV} {σ':Sto} {y:O} (hc:chkI P o.op (.mv y)=true) (hs:SRel w X β σ)
    (hv:∀ x z,chkO x z=true→z∈(I.mv y).os→RV w (Xt X β σ) β σ (v z) (ρ x)) (he:ex (.mv y) v σ=some (S,r,σ')) (_hS:S):Done P o ρ w X β σ r σ':=by
  simp only [ex,Option.some.injEq,Prod.mk.injEq] at he
  obtain ⟨_,rfl,rfl⟩:=he
  cases hop:o.op <;> rw [hop] at hc <;> try (simp [chkI] at hc; done)
  all_goals
    rename_i a
    refine Zx hs ?_ (hv a y (by simpa [chkI] using hc) (by simp [I.os]))
    unfold execOp; rw [hop]; rfl
theorem ex_bin {S:Prop} {r:AV} {σ':Sto} {op:BinOp} {y z:O} (hc:chkI P o.op (.bin op y z)=true) (hs:SRel w X β σ)
    (hv:∀ x u,chkO x u=true→u∈(I.bin op y z).os→RV w (Xt X β σ) β σ (v u) (ρ x)) (he:ex (.bin op y z) v σ=some (S,r,σ')) (hS:S):Done P o ρ w X β σ r σ':=by
  cases hop:o.op <;> rw [hop] at hc <;> try (simp [chkI] at hc; done)
  rename_i op' t a b t'
  simp only [chkI,Bool.and_eq_true,beq_iff_eq] at hc
  obtain ⟨⟨rfl,h1⟩,h2⟩:=hc
  have ha:=hv a y h1 (by simp [I.os])
  have hb:=hv b z h2 (by simp [I.os])
  simp only [ex] at he
  split at he
  case h_2=>cases he
  rename_i S' r' hbin
  simp only [Option.some.injEq,Prod.mk.injEq] at he
  obtain ⟨rfl,rfl,rfl⟩:=he
  generalize v y=vy at ha hbin
  generalize v z=vz at hb hbin
  generalize hqa:ρ a=qa at ha
  generalize hqb:ρ b=qb at hb
  have hx:execOp ρ o=(do let x ← (do eqGuard op' t a b (ρ a) (ρ b); binOp op' t (ρ a) (ρ b)); pure (.value x)):=by unfold execOp; rw [hop]
  have key:∃ q,(do eqGuard op' t a b qa qb; binOp op' t qa qb:Sem Value).run P w=.ok q w∧r'=.v q:=by
    unfold binA at hbin
    split at hbin
    · rename_i k m k' n
      split at hbin
      · rename_i hk; subst hk
        obtain rfl:=ha.inv_v
        obtain rfl:=hb.inv_v
        cases op' <;> simp only [Option.some.injEq,Prod.mk.injEq,reduceCtorEq] at hbin <;> obtain ⟨rfl,rfl⟩:=hbin <;>
          first
            | (refine ⟨_,?_,rfl⟩; simp [go_sem,Op.intArith,Op.intDiv,hS]; done)
            | (refine ⟨_,?_,rfl⟩; simp [go_sem,Op.intArith,Op.intDiv]; done)
            | (refine ⟨_,?_,rfl⟩; simp [go_sem,Op.shift,Int.not_lt.2 hS]; done)
            | (refine ⟨_,?_,rfl⟩; simp [go_sem]; rfl)
      · cases hbin
    · simp only [Option.some.injEq,Prod.mk.injEq] at hbin
      obtain ⟨rfl,rfl⟩:=hbin
      exact hS.elim
    · cases hbin
  obtain ⟨q,hq,rfl⟩:=key
  refine Zx hs ?_ (.v q)
  rw [hx,hqa,hqb]
  exact Zv _ _ _ hq
theorem ex_un {S:Prop} {r:AV} {σ':Sto} {op:UnOp} {y:O} (hc:chkI P o.op (.un op y)=true) (hs:SRel w X β σ)
    (hv:∀ x u,chkO x u=true→u∈(I.un op y).os→RV w (Xt X β σ) β σ (v u) (ρ x)) (he:ex (.un op y) v σ=some (S,r,σ')) (_hS:S):Done P o ρ w X β σ r σ':=by
  cases hop:o.op <;> rw [hop] at hc <;> try (simp [chkI] at hc; done)
  rename_i op' t a
  simp only [chkI,Bool.and_eq_true,beq_iff_eq] at hc
  obtain ⟨rfl,h1⟩:=hc
  have ha:=hv a y h1 (by simp [I.os])
  have hx:execOp ρ o=(do let x ← Op.unary op' (ρ a); pure (.value x)):=by unfold execOp; rw [hop]
  simp only [ex] at he
  generalize v y=vy at ha he
  generalize hqa:ρ a=qa at ha
  split at he
  · simp only [Option.some.injEq,Prod.mk.injEq] at he
    obtain ⟨_,rfl,rfl⟩:=he
    obtain rfl:=ha.inv_v
    refine Zx hs ?_ (.v _)
    rw [hx,hqa]; exact Zv _ _ _ (by simp [Op.unary])
  · simp only [Option.some.injEq,Prod.mk.injEq] at he
    obtain ⟨_,rfl,rfl⟩:=he
    obtain rfl:=ha.inv_v
    refine Zx hs ?_ (.v _)
    rw [hx,hqa]; exact Zv _ _ _ (by simp [Op.unary,Op.intArith])
  · cases he
theorem ex_cnv {S:Prop} {r:AV} {σ':Sto} {k:IntKind} {y:O} (hc:chkI P o.op (.cnv k y)=true) (hs:SRel w X β σ)
    (hv:∀ x u,chkO x u=true→u∈(I.cnv k y).os→RV w (Xt X β σ) β σ (v u) (ρ x)) (he:ex (.cnv k y) v σ=some (S,r,σ')) (_hS:S):Done P o ρ w X β σ r σ':=by
  cases hop:o.op <;> rw [hop] at hc <;> try (simp [chkI] at hc; done)
  rename_i t u a
  simp only [chkI,Bool.and_eq_true] at hc
  obtain ⟨⟨h1,h2⟩,h3⟩:=hc
  have ha:=hv a y h1 (by simp [I.os])
  obtain ⟨T,hT⟩:=Option.isSome_iff_exists.1 h2
  cases hU:P.underlying u with
  | none=>rw [hU] at h3; cases h3
  | some U =>
    rw [hU] at h3
    cases U <;> try (simp at h3; done)
    rename_i k'
    simp only [beq_iff_eq] at h3
    subst h3
    have hx:execOp ρ o=(do let x ← convert t u (ρ a); pure (.value x)):=by unfold execOp; rw [hop]
    simp only [ex] at he
    generalize v y=vy at ha he
    generalize hqa:ρ a=qa at ha
    split at he
    · simp only [Option.some.injEq,Prod.mk.injEq] at he
      obtain ⟨_,rfl,rfl⟩:=he
      obtain rfl:=ha.inv_v
      refine Zx hs ?_ (.v _)
      rw [hx,hqa]; exact Zv _ _ _ (by simp [convert,go_sem,underlying,hT,hU,Conv.intToInt])
    · cases he
theorem fd_parts {t:TypeId} {n off:Nat} {ft:TypeId} (h:fdF P t n=some (off,ft)):∃ fs f,P.underlying t=some (.struct fs)∧fs[n]?=some f∧f.offset=off∧f.type=ft:=by
  unfold fdF at h
  split at h
  · rename_i fs hu
    obtain ⟨f,hf,he⟩:=Option.map_eq_some_iff.1 h
    simp only [Prod.mk.injEq] at he
    exact ⟨fs,f,hu,hf,he.1,he.2⟩
  · cases h
theorem run_fieldAt {t:TypeId} {n off:Nat} {ft:TypeId} {a:Addr} {s:Nat} (h:fdF P t n=some (off,ft)) (hs:szF P ft=some s) (h0:s≠0) :
    (Instr.fieldAt t (.pointer (some a)) n).run P w=.ok (.pointer (some (a.add off))) w:=by
  obtain ⟨fs,f,hu,hf,rfl,rfl⟩:=fd_parts h
  unfold szF at hs
  obtain ⟨i,hi,rfl⟩:=Option.map_eq_some_iff.1 hs
  simp [Instr.fieldAt,run_underlying hu,hf,Instr.sureAddr,fieldPlace,sizeOf,typeInfo,hi,h0]
theorem ex_faddr {S:Prop} {r:AV} {σ':Sto} {off:Nat} {y:O} (hc:chkI P o.op (.faddr off y)=true) (hs:SRel w X β σ)
    (hv:∀ x u,chkO x u=true→u∈(I.faddr off y).os→RV w (Xt X β σ) β σ (v u) (ρ x)) (he:ex (.faddr off y) v σ=some (S,r,σ')) (hS:S):Done P o ρ w X β σ r σ':=by
  cases hop:o.op <;> rw [hop] at hc <;> try (simp [chkI] at hc; done)
  rename_i t a n
  simp only [chkI,Bool.and_eq_true] at hc
  obtain ⟨h1,h2⟩:=hc
  have ha:=hv a y h1 (by simp [I.os])
  have hx:execOp ρ o=(do let x ← Instr.fieldAt t (ρ a) n; pure (.value x)):=by unfold execOp; rw [hop]
  cases hfd:fdF P t n with
  | none=>rw [hfd] at h2; simp at h2
  | some p =>
    obtain ⟨off',ft⟩:=p
    rw [hfd] at h2
    simp only [Bool.and_eq_true,beq_iff_eq] at h2
    obtain ⟨rfl,h2⟩:=h2
    cases hsz:szF P ft with
    | none=>rw [hsz] at h2; simp at h2
    | some s =>
      rw [hsz] at h2
      simp only [bne_iff_ne] at h2
      simp only [ex] at he
      generalize v y=vy at ha he
      generalize hqa:ρ a=qa at ha
      cases vy <;> try (simp at he; done)
      case iptr cs j =>
        simp only [Option.some.injEq,Prod.mk.injEq] at he
        obtain ⟨_,rfl,rfl⟩:=he
        cases ha with
        | iptr _ _ b q f hX h1 hcell hr =>
          refine Zx (x:=.pointer (some ⟨b,q+(j+off'),none⟩)) hs ?_ (.iptr cs _ b q f hX h1 hcell hr)
          rw [hx,hqa]
          refine Zv _ _ _ ?_
          rw [run_fieldAt hfd hsz h2,Addr.add_lit,Nat.add_assoc]
      case ptr f i n e j =>
        simp only [obj] at he
        cases hat:σ.at f i with
        | none=>rw [hat] at he; simp at he
        | some ob =>
          rw [hat] at he
          simp only [Option.some.injEq,Prod.mk.injEq] at he
          obtain ⟨rfl,rfl,rfl⟩:=he
          cases ha with
          | ptr _ _ _ _ _ _ h1c hf hle h =>
            obtain ⟨b,hb,rfl⟩:=h ob hat hS
            refine Zx (x:=.pointer (some ⟨b,e * ob.k+(j+off'),none⟩)) hs ?_ (.ptr f i n e _ _ rfl hf hle fun o' ho' hn'=>?_)
            · rw [hx,hqa]
              refine Zv _ _ _ ?_
              rw [run_fieldAt hfd hsz h2,Addr.add_lit,Nat.add_assoc]
            · rw [hat] at ho'; injection ho' with ho'; subst ho'
              exact ⟨b,hb,rfl⟩
theorem ex_eqb {S:Prop} {r:AV} {σ':Sto} {neg:Bool} {y z:O} (hc:chkI P o.op (.eqb neg y z)=true) (hs:SRel w X β σ)
    (hv:∀ x u,chkO x u=true→u∈(I.eqb neg y z).os→RV w (Xt X β σ) β σ (v u) (ρ x)) (he:ex (.eqb neg y z) v σ=some (S,r,σ')) (_hS:S):Done P o ρ w X β σ r σ':=by
  cases hop:o.op <;> rw [hop] at hc <;> try (simp [chkI] at hc; done)
  rename_i op' t a b t'
  simp only [chkI,Bool.and_eq_true,beq_iff_eq] at hc
  obtain ⟨⟨⟨rfl,h1⟩,h2⟩,h3⟩:=hc
  have ha:=hv a y h1 (by simp [I.os])
  have hb:=hv b z h2 (by simp [I.os])
  have hu:P.underlying t=some .bool:=by
    revert h3; split <;> simp_all
  simp only [ex] at he
  generalize v y=vy at ha he
  generalize v z=vz at hb he
  generalize hqa:ρ a=qa at ha
  generalize hqb:ρ b=qb at hb
  split at he
  case h_2=>cases he
  simp only [Option.some.injEq,Prod.mk.injEq] at he
  obtain ⟨_,rfl,rfl⟩:=he
  obtain rfl:=ha.inv_v
  obtain rfl:=hb.inv_v
  refine Zx hs ?_ (.v _)
  unfold execOp; rw [hop]
  simp only [hqa,hqb]
  refine Zv _ _ _ ?_
  rename_i p q _
  cases neg <;> simp [go_sem,binOp,Op.equal,Op.maxDepth,run_equalIn_bool' (P:=P) w 9999 t p q hu] <;> (cases p <;> cases q <;> rfl)
theorem ex_field {S:Prop} {r:AV} {σ':Sto} {off:Nat} {s:Option Nat} {y:O} (hc:chkI P o.op (.field off s y)=true) (hs:SRel w X β σ)
    (hv:∀ x u,chkO x u=true→u∈(I.field off s y).os→RV w (Xt X β σ) β σ (v u) (ρ x)) (he:ex (.field off s y) v σ=some (S,r,σ')) (_hS:S):Done P o ρ w X β σ r σ':=by
  cases hop:o.op <;> rw [hop] at hc <;> try (simp [chkI] at hc; done)
  rename_i t a n
  simp only [chkI,Bool.and_eq_true] at hc
  obtain ⟨h1,h2⟩:=hc
  have ha:=hv a y h1 (by simp [I.os])
  have hx:execOp ρ o=(do let x ← Instr.field t (ρ a) n; pure (.value x)):=by unfold execOp; rw [hop]
  cases hfd:fdF P t n with
  | none=>rw [hfd] at h2; simp at h2
  | some p =>
    obtain ⟨off',ft⟩:=p
    rw [hfd] at h2
    simp only [Bool.and_eq_true,beq_iff_eq] at h2
    obtain ⟨rfl,h2⟩:=h2
    obtain ⟨fs,f,hu,hf,rfl,rfl⟩:=fd_parts hfd
    simp only [ex] at he
    generalize v y=vy at ha he
    generalize hqa:ρ a=qa at ha
    cases vy <;> try (simp at he; done)
    rename_i cs
    simp only at he
    split at he
    case h_2=>cases he
    rename_i u hp
    simp only [Option.some.injEq,Prod.mk.injEq] at he
    obtain ⟨_,rfl,rfl⟩:=he
    obtain ⟨xs,rfl,hn,hone,hr⟩:=ha.inv_agg
    have hd:∃ d,P.underlying f.type=some d:=by
      cases hag:agF P f.type with
      | none=>rw [hag] at h2; simp at h2
      | some q=>unfold agF at hag; obtain ⟨d,hd,_⟩:=Option.map_eq_some_iff.1 hag; exact ⟨d,hd⟩
    obtain ⟨d,hd⟩:=hd
    cases s with
    | none =>
      obtain ⟨hj,rfl⟩:=pick1_none hp
      have hag:agF P f.type=some false:=by
        cases hag:agF P f.type with
        | none=>rw [hag] at h2; simp at h2
        | some q=>rw [hag] at h2; cases q <;> simp_all
      have hisa:(isAgg f.type).run P w=.ok false w:=by
        unfold agF at hag
        rw [hd] at hag
        simp only [isAgg,Sem.run_bind,run_underlying hd,Result.andThen_ok]
        cases d <;> first | rfl | simp at hag
      refine Zx (x:=xs.getD f.offset undef) hs ?_ (hr _ hj)
      rw [hx,hqa]
      refine Zv _ _ _ ?_
      have hlt:f.offset < xs.size:=by omega
      simp [Instr.field,run_underlying hu,hf,asAgg,part,hisa,Array.getD_eq_getD_getElem?,hlt]
    | some m =>
      obtain ⟨hj,rfl⟩:=pick1_some hp
      have hag:agF P f.type=some true∧szF P f.type=some m:=by
        cases hag:agF P f.type with
        | none=>rw [hag] at h2; simp at h2
        | some q=>rw [hag] at h2; cases q <;> simp_all
      obtain ⟨hag,hsz⟩:=hag
      have hisa:(isAgg f.type).run P w=.ok true w:=by
        unfold agF at hag
        rw [hd] at hag
        simp only [isAgg,Sem.run_bind,run_underlying hd,Result.andThen_ok]
        cases d <;> first | rfl | simp at hag
      unfold szF at hsz
      obtain ⟨i,hi,rfl⟩:=Option.map_eq_some_iff.1 hsz
      have e1:((List.drop f.offset cs).take i.size).length=i.size:=length_take_drop _ _ _ hj
      refine Zx (x:=.agg (xs.extract f.offset (f.offset+i.size))) hs ?_ (.agg _ _ (by simp; omega) (fun t ht=>?_) fun t ht=>?_)
      · rw [hx,hqa]
        refine Zv _ _ _ ?_
        simp [Instr.field,run_underlying hu,hf,asAgg,part,hisa,sizeOf,typeInfo,hi]
      · rw [e1] at ht
        have:=hone (f.offset+t) (by omega)
        rw [getD_extract _ _ _ _ _ (by omega) (by omega)]; exact this
      · rw [e1] at ht
        rw [getD_take_drop _ _ _ _ _ ht]
        have:=hr (f.offset+t) (by omega)
        rw [getD_extract _ _ _ _ _ (by omega) (by omega)]; exact this
end
section
variable {P:Program} {o:Oper} {ρ:Operand→Value} {w:World} {X:Nat→Prop} {β:Blk} {σ:Sto} {v:O→AV}
theorem el_parts {t e:TypeId} (h:elF P t=some e):P.underlying t=some (.slice e):=by
  unfold elF at h; split at h
  · rename_i e' hu; injection h with h; subst h; exact hu
  · cases h
theorem sz_parts {t:TypeId} {k:Nat} (h:szF P t=some k):∃ i,P.info? t=some i∧i.size=k:=by
  unfold szF at h; exact Option.map_eq_some_iff.1 h
theorem run_iaddr {t e:TypeId} {s:Nat} {b off len cap:Nat} {k:IntKind} {z:Int} (he:elF P t=some e) (hs:szF P e=some s) (h0:0≤z) (h1:z < len) :
    (Instr.indexAt t (.slice (some ⟨b,off,none⟩) len cap) (.int k z)).run P w=.ok (.pointer (some ⟨b,off+z.toNat * s,none⟩)) w:=by
  have hu:=el_parts he
  obtain ⟨i,hi,rfl⟩:=sz_parts hs
  simp [Instr.indexAt,run_underlying hu,asIntOf,h0,h1,sizeOf,typeInfo,hi,Addr.add_lit]
theorem ex_iaddr {S:Prop} {r:AV} {σ':Sto} {k:Nat} {y z:O} (hc:chkI P o.op (.iaddr k y z)=true) (hs:SRel w X β σ)
    (hv:∀ x u,chkO x u=true→u∈(I.iaddr k y z).os→RV w (Xt X β σ) β σ (v u) (ρ x)) (he:ex (.iaddr k y z) v σ=some (S,r,σ')) (hS:S):Done P o ρ w X β σ r σ':=by
  cases hop:o.op <;> rw [hop] at hc <;> try (simp [chkI] at hc; done)
  rename_i t a b
  simp only [chkI,Bool.and_eq_true] at hc
  obtain ⟨⟨h1,h2⟩,h3⟩:=hc
  have ha:=hv a y h1 (by simp [I.os])
  have hb:=hv b z h2 (by simp [I.os])
  have hx:execOp ρ o=(do let x ← Instr.indexAt t (ρ a) (ρ b); pure (.value x)):=by unfold execOp; rw [hop]
  cases hel:elF P t with
  | none=>rw [hel] at h3; simp at h3
  | some e =>
  rw [hel] at h3
  simp only [beq_iff_eq] at h3
  simp only [ex] at he
  generalize v y=vy at ha he
  generalize v z=vz at hb he
  generalize hqa:ρ a=qa at ha
  generalize hqb:ρ b=qb at hb
  split at he
  · rename_i k' es q i
    split at he
    case isFalse=>cases he
    rename_i hk; subst hk
    simp only [Option.some.injEq,Prod.mk.injEq] at he
    obtain ⟨rfl,rfl,rfl⟩:=he
    obtain rfl:=hb.inv_v
    obtain ⟨g0,g1⟩:=hS
    cases ha with
    | slnil=>simp at g1; omega
    | slemp=>simp at g1; omega
    | sl _ _ b' off cap f hcap hk hc hX h1 hr =>
      have hlt:i.toNat < es.length:=by omega
      refine Zx (x:=.pointer (some ⟨b',off+i.toNat * k'+0,none⟩)) hs ?_ (.iptr _ 0 b' (off+i.toNat * k') (fun j=>f i.toNat j) (fun t ht=>?_) (fun t ht=>?_) (fun t ht=>?_) fun t ht=>?_)
      · rw [hx,hqa,hqb]
        exact Zv _ _ _ (run_iaddr hel h3 g0 g1)
      · rw [hk _ hlt] at ht; exact hX _ _ hlt ht
      · rw [hk _ hlt] at ht; exact h1 _ _ hlt ht
      · rw [hk _ hlt] at ht; exact hc _ hlt _ ht
      · rw [hk _ hlt] at ht; exact hr _ _ hlt ht
  · rename_i f i n q z'
    simp only [obj] at he
    cases hat:σ.at f i with
    | none=>rw [hat] at he; simp at he
    | some ob =>
      rw [hat] at he
      simp only [Option.some.injEq,Prod.mk.injEq] at he
      obtain ⟨rfl,rfl,rfl⟩:=he
      obtain ⟨rfl,rfl,g0,g1⟩:=hS
      obtain rfl:=hb.inv_v
      cases ha with
      | own _ _ _ _ h1c hf hle h =>
        have h':=h ob hat rfl
        unfold OwnSl at h'
        cases hbf:β f i with
        | none =>
          rw [hbf] at h'
          rw [h'.1] at g1; simp at g1; omega
        | some b' =>
          rw [hbf] at h'
          obtain ⟨cap,c,T,rfl,_,_⟩:=h'
          refine Zx (x:=.pointer (some ⟨b',0+z'.toNat * ob.k,none⟩)) hs ?_ (.ptr f i _ _ 0 _ rfl hf (fun o' ho'=>?_) fun o' ho' hn'=>?_)
          · rw [hx,hqa,hqb]
            exact Zv _ _ _ (run_iaddr hel h3 g0 g1)
          · rw [hat] at ho'; injection ho' with ho'; subst ho'; exact Nat.le_refl _
          · rw [hat] at ho'; injection ho' with ho'; subst ho'
            exact ⟨b',hbf,by simp⟩
  · rename_i f i n q z'
    simp only [obj] at he
    cases hat:σ.at f i with
    | none=>rw [hat] at he; simp at he
    | some ob =>
      rw [hat] at he
      simp only [Option.some.injEq,Prod.mk.injEq] at he
      obtain ⟨rfl,rfl,rfl⟩:=he
      obtain ⟨rfl,rfl,g0,g1⟩:=hS
      obtain rfl:=hb.inv_v
      cases ha with
      | tight _ _ _ _ ha _ =>
      cases ha with
      | own _ _ _ _ h1c hf hle h =>
        have h':=h ob hat rfl
        unfold OwnSl at h'
        cases hbf:β f i with
        | none =>
          rw [hbf] at h'
          rw [h'.1] at g1; simp at g1; omega
        | some b' =>
          rw [hbf] at h'
          obtain ⟨cap,c,T,rfl,_,_⟩:=h'
          refine Zx (x:=.pointer (some ⟨b',0+z'.toNat * ob.k,none⟩)) hs ?_ (.ptr f i _ _ 0 _ rfl hf (fun o' ho'=>?_) fun o' ho' hn'=>?_)
          · rw [hx,hqa,hqb]
            exact Zv _ _ _ (run_iaddr hel h3 g0 g1)
          · rw [hat] at ho'; injection ho' with ho'; subst ho'; exact Nat.le_refl _
          · rw [hat] at ho'; injection ho' with ho'; subst ho'
            exact ⟨b',hbf,by simp⟩
  · rename_i f i n lo q z'
    simp only [obj] at he
    cases hat:σ.at f i with
    | none=>rw [hat] at he; simp at he
    | some ob =>
      rw [hat] at he
      simp only [Option.some.injEq,Prod.mk.injEq] at he
      obtain ⟨rfl,rfl,rfl⟩:=he
      obtain ⟨rfl,rfl,g0,g1⟩:=hS
      obtain rfl:=hb.inv_v
      cases ha with
      | sub _ _ _ _ _ h1c hf hle h =>
        obtain ⟨h5,a',cap,rfl,h6⟩:=h ob hat rfl
        obtain ⟨b',hbf,rfl⟩:=h6 (by omega)
        refine Zx (x:=.pointer (some ⟨b',lo * ob.k+z'.toNat * ob.k,none⟩)) hs ?_ (.ptr f i _ _ 0 _ rfl hf (fun o' ho'=>?_) fun o' ho' hn'=>?_)
        · rw [hx,hqa,hqb]
          exact Zv _ _ _ (run_iaddr hel h3 g0 (by omega))
        · rw [hat] at ho'; injection ho' with ho'; subst ho'; exact Nat.le_refl _
        · rw [hat] at ho'; injection ho' with ho'; subst ho'
          exact ⟨b',hbf,by rw [Nat.add_mul]; simp⟩
  · cases he
theorem ex_ext {S:Prop} {r:AV} {σ':Sto} {n:Nat} {y:O} (hc:chkI P o.op (.ext n y)=true) (hs:SRel w X β σ)
    (hv:∀ x u,chkO x u=true→u∈(I.ext n y).os→RV w (Xt X β σ) β σ (v u) (ρ x)) (he:ex (.ext n y) v σ=some (S,r,σ')) (_hS:S):Done P o ρ w X β σ r σ':=by
  cases hop:o.op <;> rw [hop] at hc <;> try (simp [chkI] at hc; done)
  rename_i a m
  simp only [chkI,Bool.and_eq_true,beq_iff_eq] at hc
  obtain ⟨h1,rfl⟩:=hc
  have ha:=hv a y h1 (by simp [I.os])
  have hx:execOp ρ o=(do let x ← Instr.extract (ρ a) m; pure (.value x)):=by unfold execOp; rw [hop]
  simp only [ex] at he
  generalize v y=vy at ha he
  generalize hqa:ρ a=qa at ha
  cases vy <;> try (simp at he; done)
  rename_i cs
  simp only at he
  split at he
  case h_2=>cases he
  rename_i u hp
  simp only [Option.some.injEq,Prod.mk.injEq] at he
  obtain ⟨_,rfl,rfl⟩:=he
  obtain ⟨xs,rfl,hn,hr⟩:=ha.inv_tup
  obtain ⟨hlt,hu⟩:=List.getElem?_eq_some_iff.1 hp
  have:=hr m hlt
  rw [List.getD_eq_getElem?_getD,hp] at this
  refine Zx (x:=xs.getD m undef) hs ?_ this
  rw [hx,hqa]
  refine Zv _ _ _ ?_
  have hlt':m < xs.size:=by omega
  simp [Instr.extract,Array.getD_eq_getD_getElem?,hlt']
theorem ex_len {S:Prop} {r:AV} {σ':Sto} {y:O} (hc:chkI P o.op (.len y)=true) (hs:SRel w X β σ)
    (hv:∀ x u,chkO x u=true→u∈(I.len y).os→RV w (Xt X β σ) β σ (v u) (ρ x)) (he:ex (.len y) v σ=some (S,r,σ')) (hS:S):Done P o ρ w X β σ r σ':=by
  cases hop:o.op <;> rw [hop] at hc <;> try (simp [chkI] at hc; done)
  rename_i c
  obtain ⟨cal,args,ts⟩:=c
  cases cal <;> try (simp [chkI] at hc; done)
  rename_i bi
  cases bi <;> try (simp [chkI] at hc; done)
  simp only [chkI] at hc
  split at hc
  case h_2=>cases hc
  rename_i a t hargs hts
  obtain ⟨args⟩:=args
  obtain ⟨ts⟩:=ts
  simp only at hargs hts
  subst hargs; subst hts
  simp only [Bool.and_eq_true] at hc
  obtain ⟨h1,h2⟩:=hc
  obtain ⟨e,hel⟩:=Option.isSome_iff_exists.1 h2
  have hu:=el_parts hel
  have ha:=hv a y h1 (by simp [I.os])
  have hx:execOp ρ o=(do let d ← resolve ρ ⟨.builtin .len,#[a],#[t]⟩ o.type; invoke d.target d.args):=by unfold execOp; rw [hop]
  have key:∀ (q:Option Addr) (n cap:Nat),ρ a=.slice q n cap→(execOp ρ o).run P w=.ok (.value (.int .i64 n)) w:=by
    intro q n cap hq
    rw [hx]
    simp [resolve,invoke,builtin,Builtin.len_,run_underlying hu,hq,goInt]
  simp only [ex] at he
  generalize v y=vy at ha he
  generalize hqa:ρ a=qa at ha
  split at he
  · simp only [Option.some.injEq,Prod.mk.injEq] at he
    obtain ⟨_,rfl,rfl⟩:=he
    cases ha with
    | slnil=>exact Zx hs (key _ _ _ hqa) (.v _)
    | slemp=>exact Zx hs (key _ _ _ hqa) (.v _)
    | sl _ _ b' off cap f hcap hk hc hX h1 hr=>exact Zx hs (key _ _ _ hqa) (.v _)
  · rename_i f i n
    simp only [obj] at he
    cases hat:σ.at f i with
    | none=>rw [hat] at he; simp at he
    | some ob =>
      rw [hat] at he
      simp only [Option.some.injEq,Prod.mk.injEq] at he
      obtain ⟨rfl,rfl,rfl⟩:=he
      cases ha with
      | own _ _ _ _ h1c hf hle h =>
        have h':=h ob hat hS
        unfold OwnSl at h'
        cases hbf:β f i with
        | none =>
          rw [hbf] at h'
          obtain ⟨e0,rfl⟩:=h'
          have:n=0:=by rw [← hS,e0]; rfl
          subst this
          exact Zx hs (key _ _ _ hqa) (.v _)
        | some b' =>
          rw [hbf] at h'
          obtain ⟨cap,c,T,rfl,_,_⟩:=h'
          rw [hS] at hqa
          exact Zx hs (key _ _ _ hqa) (.v _)
  · simp only [Option.some.injEq,Prod.mk.injEq] at he
    obtain ⟨_,rfl,rfl⟩:=he
    obtain rfl:=ha.inv_v
    exact Zx hs (key _ _ _ hqa) (.v _)
  · rename_i f i n lo
    simp only [obj] at he
    cases hat:σ.at f i with
    | none=>rw [hat] at he; simp at he
    | some ob =>
      rw [hat] at he
      simp only [Option.some.injEq,Prod.mk.injEq] at he
      obtain ⟨rfl,rfl,rfl⟩:=he
      cases ha with
      | sub _ _ _ _ _ h1c hf hle h =>
        obtain ⟨h5,a',cap,rfl,h6⟩:=h ob hat hS
        refine Zx hs (key _ _ _ hqa) ?_
        rw [show ((n:Int) - (lo:Int))=((ob.es.length - lo:Nat):Int) by omega]
        exact .v _
  · cases he
theorem ex_mkfn {S:Prop} {r:AV} {σ':Sto} {f:Fn} {as bs:List O} (hc:chkI P o.op (.mkfn f as bs)=true) (hs:SRel w X β σ)
    (hv:∀ x u,chkO x u=true→u∈(I.mkfn f as bs).os→RV w (Xt X β σ) β σ (v u) (ρ x)) (he:ex (.mkfn f as bs) v σ=some (S,r,σ')) (_hS:S):Done P o ρ w X β σ r σ':=by
  cases hop:o.op <;> rw [hop] at hc <;> try (simp [chkI] at hc; done)
  rename_i f' xs ys
  simp only [chkI,Bool.and_eq_true,decide_eq_true_eq] at hc
  obtain ⟨⟨rfl,h1⟩,h2⟩:=hc
  obtain ⟨xs⟩:=xs
  obtain ⟨ys⟩:=ys
  simp only [ex,Option.some.injEq,Prod.mk.injEq] at he
  obtain ⟨_,rfl,rfl⟩:=he
  have hx:execOp ρ o=(do let x ← Instr.makeFunc f' (xs.toArray.map ρ) (ys.toArray.map ρ); pure (.value x)):=by unfold execOp; rw [hop]
  have key:∀ (l:List Operand) (m:List O),chkOs l m=true→l.length=m.length∧∀ i (hi:i < m.length) (hi':i < l.length),chkO l[i] m[i]=true:=by
    intro l
    induction l with
    | nil=>intro m h; cases m <;> simp_all [chkOs]
    | cons a l ih =>
      intro m h
      cases m with
      | nil=>simp [chkOs] at h
      | cons b m =>
        simp only [chkOs,Bool.and_eq_true] at h
        obtain ⟨e1,e2⟩:=ih m h.2
        refine ⟨by simp [e1],fun i hi hi'=>?_⟩
        cases i with
        | zero=>simpa using h.1
        | succ i=>simpa using e2 i (by simpa using hi) (by simpa using hi')
  obtain ⟨e1,g1⟩:=key _ _ h1
  obtain ⟨e2,g2⟩:=key _ _ h2
  refine Zx (x:=.func f' (xs.toArray.map ρ) (ys.toArray.map ρ)) hs ?_ (.fn _ _ _ _ _ (by simpa using e1) (by simpa using e2) (fun i hi=>?_) fun i hi=>?_)
  · rw [hx]; exact Zv _ _ _ (by simp [Instr.makeFunc])
  · simp only [List.length_map] at hi
    have hi':i < xs.length:=by rw [e1]; exact hi
    have:=hv xs[i] as[i] (g1 i hi hi') (by simp [I.os])
    simpa [List.getD_eq_getElem?_getD,Array.getD_eq_getD_getElem?,hi,hi'] using this
  · simp only [List.length_map] at hi
    have hi':i < ys.length:=by rw [e2]; exact hi
    have:=hv ys[i] bs[i] (g2 i hi hi') (by simp [I.os])
    simpa [List.getD_eq_getElem?_getD,Array.getD_eq_getD_getElem?,hi,hi'] using this
theorem ex_ifc {S:Prop} {r:AV} {σ':Sto} {T:Nat} {y:O} (hc:chkI P o.op (.ifc T y)=true) (hs:SRel w X β σ)
    (hv:∀ x u,chkO x u=true→u∈(I.ifc T y).os→RV w (Xt X β σ) β σ (v u) (ρ x)) (he:ex (.ifc T y) v σ=some (S,r,σ')) (_hS:S):Done P o ρ w X β σ r σ':=by
  cases hop:o.op <;> rw [hop] at hc <;> try (simp [chkI] at hc; done)
  rename_i t a
  simp only [chkI,Bool.and_eq_true,beq_iff_eq] at hc
  obtain ⟨⟨rfl,h1⟩,h2⟩:=hc
  have ha:=hv a y h1 (by simp [I.os])
  simp only [ex,Option.some.injEq,Prod.mk.injEq] at he
  obtain ⟨_,rfl,rfl⟩:=he
  refine Zx (x:=.iface t (ρ a)) hs ?_ (.ifc _ _ _ ha)
  unfold execOp; rw [hop]
  refine Zv _ _ _ ?_
  cases hu:P.underlying t with
  | none=>rw [hu] at h2; simp at h2
  | some d =>
    rw [hu] at h2
    simp only [Instr.makeInterface,Sem.run_bind,run_underlying hu,Result.andThen_ok]
    cases d <;> first | rfl | simp at h2
theorem ex_nilc {S:Prop} {r:AV} {σ':Sto} {y:O} (hc:chkI P o.op (.nilc y)=true) (hs:SRel w X β σ)
    (hv:∀ x u,chkO x u=true→u∈(I.nilc y).os→RV w (Xt X β σ) β σ (v u) (ρ x)) (he:ex (.nilc y) v σ=some (S,r,σ')) (hS:S):Done P o ρ w X β σ r σ':=by
  cases hop:o.op <;> rw [hop] at hc <;> try (simp [chkI] at hc; done)
  rename_i a
  simp only [chkI] at hc
  have ha:=hv a y hc (by simp [I.os])
  simp only [ex] at he
  generalize hvy:v y=vy at ha he
  generalize hqa:ρ a=qa at ha
  have hx:(∃ p,qa=.pointer (some p))∨(∃ n f c,qa=.func (.func n) f c)∨(∃ t x,qa=.iface t x)→(execOp ρ o).run P w=.ok (.value qa) w:=by
    rintro (⟨p,rfl⟩ | ⟨n,f,c,rfl⟩ | ⟨t,x,rfl⟩) <;> (unfold execOp; rw [hop]; simp only [hqa]; rfl)
  cases vy <;> try (simp at he; done)
  case ptr f i n e j =>
    simp only [obj] at he
    cases hat:σ.at f i with
    | none=>rw [hat] at he; simp at he
    | some ob =>
      rw [hat] at he
      simp only [Option.some.injEq,Prod.mk.injEq] at he
      obtain ⟨rfl,rfl,rfl⟩:=he
      have ha':=ha
      cases ha with
      | ptr _ _ _ _ _ _ h1c hf hle h =>
        obtain ⟨b,hb,rfl⟩:=h ob hat hS
        exact Zx hs (hx (.inl ⟨_,rfl⟩)) ha'
  case iptr cs j =>
    simp only [Option.some.injEq,Prod.mk.injEq] at he
    obtain ⟨_,rfl,rfl⟩:=he
    have ha':=ha
    cases ha with
    | iptr _ _ b q f hX h1 hcell hr=>exact Zx hs (hx (.inl ⟨_,rfl⟩)) ha'
  case fn f a b =>
    cases f <;> try (simp at he; done)
    simp only [Option.some.injEq,Prod.mk.injEq] at he
    obtain ⟨_,rfl,rfl⟩:=he
    have ha':=ha
    cases ha with
    | fn _ _ _ xs ys hn hm h h'=>exact Zx hs (hx (.inr (.inl ⟨_,_,_,rfl⟩))) ha'
  case ifc t x =>
    simp only [Option.some.injEq,Prod.mk.injEq] at he
    obtain ⟨_,rfl,rfl⟩:=he
    have ha':=ha
    cases ha with
    | ifc _ _ x h=>exact Zx hs (hx (.inr (.inr ⟨_,_,rfl⟩))) ha'
theorem ex_mnx {S:Prop} {r:AV} {σ':Sto} {mx:Bool} {y z:O} (hc:chkI P o.op (.mnx mx y z)=true) (hs:SRel w X β σ)
    (hv:∀ x u,chkO x u=true→u∈(I.mnx mx y z).os→RV w (Xt X β σ) β σ (v u) (ρ x)) (he:ex (.mnx mx y z) v σ=some (S,r,σ')) (_hS:S):Done P o ρ w X β σ r σ':=by
  cases hop:o.op <;> rw [hop] at hc <;> try (simp [chkI] at hc; done)
  rename_i c
  obtain ⟨cal,args,ts⟩:=c
  cases cal <;> try (simp [chkI] at hc; done)
  rename_i bi
  have key:∃ a b,args=#[a,b]∧chkO a y=true∧chkO b z=true∧bi=(if mx then .max else .min):=by
    cases bi <;> simp only [chkI,Bool.and_eq_true,Bool.false_eq_true] at hc
    all_goals
      obtain ⟨hm,hc⟩:=hc
      obtain ⟨args⟩:=args
      rcases args with _ | ⟨a,_ | ⟨b,_ | ⟨c,l⟩⟩⟩ <;> simp [chkOs] at hc
      exact ⟨a,b,rfl,hc.1,hc.2,by cases mx <;> simp_all⟩
  obtain ⟨a,b,rfl,h1,h2,rfl⟩:=key
  have ha:=hv a y h1 (by simp [I.os])
  have hb:=hv b z h2 (by simp [I.os])
  simp only [ex] at he
  generalize v y=vy at ha he
  generalize v z=vz at hb he
  generalize hqa:ρ a=qa at ha
  generalize hqb:ρ b=qb at hb
  split at he
  case h_2=>cases he
  rename_i k p k' q
  split at he
  case isFalse=>cases he
  rename_i hk; subst hk
  simp only [Option.some.injEq,Prod.mk.injEq] at he
  obtain ⟨_,rfl,rfl⟩:=he
  obtain rfl:=ha.inv_v
  obtain rfl:=hb.inv_v
  refine Zx hs ?_ (.v _)
  unfold execOp; rw [hop]
  cases mx
  · simp [resolve,invoke,builtin,Builtin.min_,Builtin.min2,hqa,hqb]
    rw [Int.min_def]; split <;> split <;> first | rfl | omega
  · simp [resolve,invoke,builtin,Builtin.max_,Builtin.max2,hqa,hqb]
    rw [Int.max_def]; split <;> split <;> first | rfl | omega
theorem ex_mn3 {S:Prop} {r:AV} {σ':Sto} {mx:Bool} {y z u:O} (hc:chkI P o.op (.mn3 mx y z u)=true) (hs:SRel w X β σ)
    (hv:∀ x q,chkO x q=true→q∈(I.mn3 mx y z u).os→RV w (Xt X β σ) β σ (v q) (ρ x)) (he:ex (.mn3 mx y z u) v σ=some (S,r,σ')) (_hS:S):Done P o ρ w X β σ r σ':=by
  cases hop:o.op <;> rw [hop] at hc <;> try (simp [chkI] at hc; done)
  rename_i c
  obtain ⟨cal,args,ts⟩:=c
  cases cal <;> try (simp [chkI] at hc; done)
  rename_i bi
  have key:∃ a b c,args=#[a,b,c]∧chkO a y=true∧chkO b z=true∧chkO c u=true∧bi=(if mx then .max else .min):=by
    cases bi <;> simp only [chkI,Bool.and_eq_true,Bool.false_eq_true] at hc
    all_goals
      obtain ⟨hm,hc⟩:=hc
      obtain ⟨args⟩:=args
      rcases args with _ | ⟨a,_ | ⟨b,_ | ⟨c,_ | ⟨d,l⟩⟩⟩⟩ <;> simp [chkOs] at hc
      exact ⟨a,b,c,rfl,hc.1,hc.2.1,hc.2.2,by cases mx <;> simp_all⟩
  obtain ⟨a,b,c,rfl,h1,h2,h3,rfl⟩:=key
  have ha:=hv a y h1 (by simp [I.os])
  have hb:=hv b z h2 (by simp [I.os])
  have hcc:=hv c u h3 (by simp [I.os])
  simp only [ex] at he
  generalize v y=vy at ha he
  generalize v z=vz at hb he
  generalize v u=vu at hcc he
  generalize hqa:ρ a=qa at ha
  generalize hqb:ρ b=qb at hb
  generalize hqc:ρ c=qc at hcc
  split at he
  case h_2=>cases he
  rename_i k p k' q k'' s
  split at he
  case isFalse=>cases he
  rename_i hk; obtain ⟨hk1,hk2⟩:=hk; subst hk1; subst hk2
  simp only [Option.some.injEq,Prod.mk.injEq] at he
  obtain ⟨_,rfl,rfl⟩:=he
  obtain rfl:=ha.inv_v
  obtain rfl:=hb.inv_v
  obtain rfl:=hcc.inv_v
  refine Zx hs ?_ (.v _)
  unfold execOp; rw [hop]
  cases mx
  · simp [resolve,invoke,builtin,Builtin.min_,Builtin.min2,hqa,hqb,hqc]
    repeat' split
    all_goals first
      | rfl
      | (simp [Builtin.min2]; (repeat' split); all_goals (first | (congr 1; omega) | omega | (simp; omega)))
      | (congr 1; omega)
      | omega
  · simp [resolve,invoke,builtin,Builtin.max_,Builtin.max2,hqa,hqb,hqc]
    repeat' split
    all_goals first
      | rfl
      | (simp [Builtin.max2]; (repeat' split); all_goals (first | (congr 1; omega) | omega | (simp; omega)))
      | (congr 1; omega)
      | omega
theorem run_equalIn_nil (d:Nat) {t e:TypeId} (hu:P.underlying t=some (.slice e)) (q:Option Addr) (n m n' m':Nat):(Op.equalIn (d+1) t (.slice q n m) (.slice none n' m')).run P w=.ok q.isNone w:=by
  unfold Op.equalIn
  rw [Sem.run_bind,run_underlying hu]
  cases q <;> rfl
theorem ex_nilq {S:Prop} {r:AV} {σ':Sto} {neg:Bool} {y z:O} (hc:chkI P o.op (.nilq neg y z)=true) (hs:SRel w X β σ)
    (hv:∀ x u,chkO x u=true→u∈(I.nilq neg y z).os→RV w (Xt X β σ) β σ (v u) (ρ x)) (he:ex (.nilq neg y z) v σ=some (S,r,σ')) (hS:S):Done P o ρ w X β σ r σ':=by
  cases hop:o.op <;> rw [hop] at hc <;> try (simp [chkI] at hc; done)
  rename_i op' t a b t'
  simp only [chkI,Bool.and_eq_true,beq_iff_eq] at hc
  obtain ⟨⟨⟨rfl,h1⟩,h2⟩,h3⟩:=hc
  have ha:=hv a y h1 (by simp [I.os])
  have hb:=hv b z h2 (by simp [I.os])
  obtain ⟨e,hel⟩:=Option.isSome_iff_exists.1 h3
  have hu:=el_parts hel
  have key:∀ (q:Option Addr) (n m n' m':Nat),ρ a=.slice q n m→ρ b=.slice none n' m'→(execOp ρ o).run P w=.ok (.value (.bool (bif neg then !q.isNone else q.isNone))) w:=by
    intro q n m n' m' e1 e2
    unfold execOp; rw [hop]
    simp only [e1,e2]
    refine Zv _ _ _ ?_
    cases neg <;> simp [go_sem,binOp,Op.equal,Op.maxDepth,run_equalIn_nil (P:=P) (w:=w) 9999 hu]
  simp only [ex] at he
  generalize v y=vy at ha he
  generalize v z=vz at hb he
  generalize hqa:ρ a=qa at ha
  generalize hqb:ρ b=qb at hb
  split at he
  · simp only [Option.some.injEq,Prod.mk.injEq] at he
    obtain ⟨_,rfl,rfl⟩:=he
    obtain rfl:=ha.inv_v
    obtain rfl:=hb.inv_v
    have:=key _ _ _ _ _ hqa hqb
    exact Zx hs this (by cases neg <;> exact .v _)
  · simp only [Option.some.injEq,Prod.mk.injEq] at he
    obtain ⟨_,rfl,rfl⟩:=he
    obtain rfl:=ha.inv_v
    obtain rfl:=hb.inv_v
    have:=key _ _ _ _ _ hqa hqb
    exact Zx hs this (by cases neg <;> exact .v _)
  · rename_i k es n' m'
    simp only [Option.some.injEq,Prod.mk.injEq] at he
    obtain ⟨rfl,rfl,rfl⟩:=he
    obtain rfl:=hb.inv_v
    cases ha with
    | slnil=>exact absurd rfl hS
    | slemp=>exact absurd rfl hS
    | sl _ _ b' off cap f hcap hk hc hX h1 hr =>
      have:=key _ _ _ _ _ hqa hqb
      exact Zx hs this (by cases neg <;> exact .v _)
  · cases he
end
def RL (w:World) (X:Nat→Prop) (β:Blk) (σ:Sto) (cs:List AV) (xs:List Value):Prop :=
  xs.length=cs.length∧∀ i,i < cs.length→(xs.getD i undef).oneCell'=true∧RV w X β σ (cs.getD i .any) (xs.getD i undef)
section
variable {P:Program} {o:Oper} {ρ:Operand→Value} {w:World} {X:Nat→Prop} {β:Blk} {σ:Sto} {v:O→AV}
theorem RL.tr {w':World} {X':Nat→Prop} {β':Blk} {σ':Sto} {cs:List AV} {xs:List Value} (h:RL w X β σ cs xs) (K:Kp w X β σ w' X' β' σ'):RL w' X' β' σ' cs xs :=
  ⟨h.1,fun i hi=>⟨(h.2 i hi).1,(h.2 i hi).2.tr K⟩⟩
theorem RL.one {a:AV} {x:Value} (h:RV w X β σ a x) (h1:x.oneCell'=true):RL w X β σ [a] [x] :=
  ⟨rfl, fun i hi => by obtain rfl : i = 0 := by simpa using hi
                       exact ⟨h1,h⟩⟩
theorem RL.append {cs ds:List AV} {xs ys:List Value} (h:RL w X β σ cs xs) (h':RL w X β σ ds ys):RL w X β σ (cs++ds) (xs++ys):=by
  refine ⟨by simp [h.1,h'.1],fun i hi=>?_⟩
  by_cases hc:i < cs.length
  · have:=h.2 i hc
    have hx:i < xs.length:=by rw [h.1]; exact hc
    simpa [List.getD_eq_getElem?_getD,List.getElem?_append_left hc,List.getElem?_append_left hx] using this
  · have hd:i - cs.length < ds.length:=by simp at hi; omega
    have:=h'.2 _ hd
    have e:=h.1
    rw [List.getD_eq_getElem?_getD,List.getElem?_append_right (by omega),List.getD_eq_getElem?_getD,List.getElem?_append_right (by omega),e]
    simpa [List.getD_eq_getElem?_getD] using this
theorem RL.take {cs:List AV} {xs:List Value} (h:RL w X β σ cs xs) (n:Nat):RL w X β σ (cs.take n) (xs.take n):=by
  refine ⟨by simp [h.1],fun i hi=>?_⟩
  simp only [List.length_take] at hi
  have:=h.2 i (by omega)
  simpa [List.getD_eq_getElem?_getD,List.getElem?_take,show i < n by omega] using this
theorem RL.drop {cs:List AV} {xs:List Value} (h:RL w X β σ cs xs) (n:Nat):RL w X β σ (cs.drop n) (xs.drop n):=by
  refine ⟨by simp [h.1],fun i hi=>?_⟩
  simp only [List.length_drop] at hi
  have:=h.2 (n+i) (by omega)
  simpa [List.getD_eq_getElem?_getD,List.getElem?_drop] using this
theorem RL.vs:∀ (xs:List Value),(∀ x∈xs,scalar x=true)→RL w X β σ (vs xs) xs
  | [],_=>⟨rfl,fun i hi=>absurd hi (Nat.not_lt_zero _)⟩
  | x::r,h=>RL.append (cs:=[.v x]) (xs:=[x]) (RL.one (.v x) (oneCell_of_scalar (h x (by simp)))) (RL.vs r fun y hy=>h y (by simp [hy]))
theorem length_vs:∀ (xs:List Value),(vs xs).length=xs.length
  | []=>rfl
  | _::r=>by simp [Abs.vs,length_vs r]
theorem RL.splice {cs ds:List AV} {xs ys:List Value} {off:Nat} (h:RL w X β σ cs xs) (h':RL w X β σ ds ys) :
    RL w X β σ (splice cs off ds) (xs.take off++ys++xs.drop (off+ys.length)):=by
  unfold Abs.splice
  rw [h'.1]
  exact RL.append (RL.append (h.take off) h') (h.drop _)
theorem RL.agg {cs:List AV} {xs:List Value} (h:RL w X β σ cs xs):RV w X β σ (.agg cs) (.agg xs.toArray) :=
  agg_list h.1 (fun i hi=>(h.2 i hi).1) fun i hi=>(h.2 i hi).2
theorem RL.of_agg {cs:List AV} {xs:Array Value} (h:RV w X β σ (.agg cs) (.agg xs)):RL w X β σ cs xs.toList:=by
  cases h with
  | agg _ _ hn h1 h =>
    refine ⟨by simpa using hn,fun i hi=>?_⟩
    have a:=h1 i hi
    have b:=h i hi
    simp only [Array.getD_eq_getD_getElem?,List.getD_eq_getElem?_getD,Array.getElem?_toList] at a b ⊢
    exact ⟨a,b⟩
theorem cells_one {x:Value} (h:x.oneCell'=true):x.cells.toList=[x]:=by cases x <;> simp_all [Value.oneCell',Value.cells]
theorem cells_rel {a:AV} {x:Value} {cs:List AV} (h:RV w X β σ a x) (hc:cells a=some cs):RL w X β σ cs x.cells.toList:=by
  have h0:=h
  cases h with
  | v x =>
    simp only [cells] at hc
    split at hc
    · rename_i hs
      injection hc with hc; subst hc
      cases x <;> first | exact RL.one h0 rfl | (simp [scalar] at hs; done)
    · cases hc
  | any x=>simp [cells] at hc
  | agg cs' xs hn h1 h=>simp only [cells,Option.some.injEq] at hc; subst hc; exact RL.of_agg h0
  | tup=>simp [cells] at hc
  | slnil k=>simp only [cells,Option.some.injEq] at hc; subst hc; exact RL.one h0 rfl
  | slemp k a cap=>simp only [cells,Option.some.injEq] at hc; subst hc; exact RL.one h0 rfl
  | sl=>simp only [cells,Option.some.injEq] at hc; subst hc; exact RL.one h0 rfl
  | own f i n x h1 hf hle h =>
    simp only [cells,Option.some.injEq] at hc; subst hc
    rw [cells_one h1]; exact RL.one h0 h1
  | ptr f i n e j x h1 hf hle h =>
    simp only [cells,Option.some.injEq] at hc; subst hc
    rw [cells_one h1]; exact RL.one h0 h1
  | tight f i n x h hcc =>
    obtain ⟨a,rfl⟩:=hcc
    simp only [cells,Option.some.injEq] at hc; subst hc; exact RL.one h0 rfl
  | fresh k es x h hcc =>
    obtain ⟨a,rfl⟩:=hcc
    simp only [cells,Option.some.injEq] at hc; subst hc; exact RL.one h0 rfl
  | sub f i n lo x h1 hf hle h =>
    simp only [cells,Option.some.injEq] at hc; subst hc
    rw [cells_one h1]; exact RL.one h0 h1
  | iptr=>simp only [cells,Option.some.injEq] at hc; subst hc; exact RL.one h0 rfl
  | fn=>simp only [cells,Option.some.injEq] at hc; subst hc; exact RL.one h0 rfl
  | yld f x h1 hf h =>
    simp only [cells,Option.some.injEq] at hc; subst hc
    rw [cells_one h1]; exact RL.one h0 h1
  | mp f x h1 hf h =>
    simp only [cells,Option.some.injEq] at hc; subst hc
    rw [cells_one h1]; exact RL.one h0 h1
  | imap=>simp only [cells,Option.some.injEq] at hc; subst hc; exact RL.one h0 rfl
  | ifc=>simp only [cells,Option.some.injEq] at hc; subst hc; exact RL.one h0 rfl
  | when=>simp [cells] at hc
theorem fold_set:∀ (l:List Value) (i off:Nat) (arr:Array Value),off+i+l.length≤arr.size →
    ((l.zipIdx i).foldl (fun cs p=>cs.setIfInBounds (off+p.2) p.1) arr).toList=arr.toList.take (off+i)++l++arr.toList.drop (off+i+l.length)
  | [],i,off,arr,_=>by simp
  | x::r,i,off,arr,h=>by
    simp only [List.zipIdx_cons,List.foldl_cons]
    rw [fold_set r (i+1) off _ (by simp at h ⊢; omega)]
    have e:=list_seg_step arr.toList (off+i) x r (by simp at h ⊢; omega)
    simp only [Array.toList_setIfInBounds,Nat.add_assoc,List.length_cons] at e ⊢
    simpa [Nat.add_comm,Nat.add_left_comm] using e
theorem fill_step (arr:Array Value) (y:Value) (off:Nat) (h:off+y.cells.size≤arr.size) :
    (y.cells.zipIdx.foldl (fun cs (c,j)=>cs.setIfInBounds (off+j) c) arr).toList=arr.toList.take off++y.cells.toList++arr.toList.drop (off+y.cells.toList.length):=by
  have:=fold_set y.cells.toList 0 off arr (by simpa using h)
  rw [← Array.foldl_toList,Array.toList_zipIdx]
  simpa using this
theorem fill_rel {place:Nat→Option (Nat × Nat)} (hv:∀ x z,chkO x z=true→RV w X β σ (v z) (ρ x)) :
    ∀ (ps:List (Nat × Operand)) (qs:List (Nat × Nat × O)) (cs cs':List AV) (arr:Array Value),chkPs place ps qs=true→RL w X β σ cs arr.toList →
      fillA cs (qs.map fun p=>(p.1,p.2.1,v p.2.2))=some cs'→∃ arr',Instr.fill place arr (ps.map fun (i,x)=>(i,ρ x))=some arr'∧RL w X β σ cs' arr'.toList
  | [],[],cs,cs',arr,_,hr,hf=>by
    simp only [List.map_nil,fillA,Option.some.injEq] at hf; subst hf
    exact ⟨arr,rfl,hr⟩
  | [],q::qs,_,_,_,hc,_,_=>by simp [chkPs] at hc
  | p::ps,[],_,_,_,hc,_,_=>by simp [chkPs] at hc
  | (i,x)::ps,(off,size,y)::qs,cs,cs',arr,hc,hr,hf=>by
    simp only [chkPs,Bool.and_eq_true,beq_iff_eq] at hc
    obtain ⟨⟨h1,h2⟩,h3⟩:=hc
    simp only [List.map_cons,fillA] at hf
    split at hf
    case h_2=>cases hf
    rename_i xs hxs
    split at hf
    case isFalse=>cases hf
    rename_i hsz
    have hy:=cells_rel (hv x y h2) hxs
    have e1:(ρ x).cells.size=size:=by have:=hy.1; simp at this; omega
    have e2:off+(ρ x).cells.size≤arr.size:=by have:=hr.1; simp at this; omega
    have hstep:=fill_step arr (ρ x) off e2
    obtain ⟨arr',ha,hb⟩:=fill_rel hv ps qs (splice cs off xs) cs' _ h3 (by rw [hstep]; exact hr.splice hy) hf
    refine ⟨arr',?_,hb⟩
    simp only [List.map_cons,Instr.fill,h1]
    rw [if_neg (by simp [e1]; omega)]
    exact ha
theorem mapM_places:∀ (l:List Field),(l.all fun f=>(szF P f.type).isSome)=true →
    l.mapM (fun f=>(P.info? f.type).map fun i=>(f.offset,i.size))=some (l.map fun f=>(f.offset,(szF P f.type).getD 0))
  | [],_=>rfl
  | f::l,h=>by
    simp only [List.all_cons,Bool.and_eq_true] at h
    obtain ⟨s,hs⟩:=Option.isSome_iff_exists.1 h.1
    obtain ⟨i,hi,rfl⟩:=sz_parts hs
    simp [List.mapM_cons,hi,mapM_places l h.2,szF]
theorem zr_parts {t:TypeId} {l:List Value} (h:zrF P t=some l):∃ i z,P.info? t=some i∧i.zero=some z∧z.cells.toList=l:=by
  unfold zrF at h
  obtain ⟨i,hi,h⟩:=Option.bind_eq_some_iff.1 h
  obtain ⟨z,hz,rfl⟩:=Option.map_eq_some_iff.1 h
  exact ⟨i,z,hi,hz,rfl⟩
theorem chkPs_congr {p q:Nat→Option (Nat × Nat)} (h:∀ n,p n=q n) (ps:List (Nat × Operand)) (qs:List (Nat × Nat × O)):chkPs p ps qs=chkPs q ps qs:=by
  rw [show p=q from funext h]
theorem ex_build {S:Prop} {r:AV} {σ':Sto} {z:List Value} {qs:List (Nat × Nat × O)} (hc:chkI P o.op (.build z qs)=true) (hs:SRel w X β σ)
    (hv:∀ x u,chkO x u=true→RV w (Xt X β σ) β σ (v u) (ρ x)) (he:ex (.build z qs) v σ=some (S,r,σ')) (_hS:S):Done P o ρ w X β σ r σ':=by
  cases hop:o.op <;> rw [hop] at hc <;> try (simp [chkI] at hc; done)
  rename_i t ps
  simp only [chkI,Bool.and_eq_true] at hc
  obtain ⟨h1,h2⟩:=hc
  have hx:execOp ρ o=(do let x ← Instr.build t (ps.map fun (i,x)=>(i,ρ x)); pure (.value x)):=by unfold execOp; rw [hop]
  cases hz:zrF P t with
  | none=>rw [hz] at h1; simp at h1
  | some l =>
  rw [hz] at h1
  simp only at h1
  obtain ⟨rfl,hsc⟩:=beqVs_eq h1
  obtain ⟨it,z0,hit,hz0,rfl⟩:=zr_parts hz
  simp only [ex] at he
  split at he
  case h_2=>cases he
  rename_i cs hfill
  simp only [Option.some.injEq,Prod.mk.injEq] at he
  obtain ⟨_,rfl,rfl⟩:=he
  have key:∃ arr',P.built t (ps.map fun (i,x)=>(i,ρ x)).toList=some arr'∧RL w (Xt X β σ) β σ cs arr'.toList:=by
    unfold Program.built
    cases hu:P.underlying t with
    | none=>rw [hu] at h2; simp at h2
    | some d =>
      rw [hu] at h2
      cases d <;> try (simp at h2; done)
      case array n e =>
        cases hse:szF P e with
        | none=>simp only [hse] at h2; simp at h2
        | some k =>
          simp only [hse] at h2
          obtain ⟨ie,hie,rfl⟩:=sz_parts hse
          obtain ⟨arr',ha,hb⟩:=fill_rel (w:=w) (X:=Xt X β σ) (β:=β) (σ:=σ) hv ps.toList qs _ _ z0.cells h2 (RL.vs _ hsc) hfill
          refine ⟨arr',?_,hb⟩
          simp only [hit,hz0,hie,Array.toList_map]
          exact ha
      case struct fs =>
        simp only [Bool.and_eq_true] at h2
        have hm:=mapM_places (P:=P) fs.toList h2.2
        have hpl:∀ n:Nat,((fs.toList.map fun f=>(f.offset,(szF P f.type).getD 0)).toArray[n]?:Option (Nat × Nat))=(fs[n]?).bind fun (f:Field)=>(szF P f.type).map fun s=>(f.offset,s):=by
          intro n
          simp only [List.getElem?_toArray,List.getElem?_map,Array.getElem?_toList]
          cases hfn:fs[n]? with
          | none=>rfl
          | some f =>
            have hmem:f∈fs.toList:=by
              obtain ⟨hlt,rfl⟩:=Array.getElem?_eq_some_iff.1 hfn
              simp
            have:=List.all_eq_true.1 h2.2 f hmem
            obtain ⟨s,hs⟩:=Option.isSome_iff_exists.1 this
            simp [hs]
        have hcp:=chkPs_congr hpl ps.toList qs
        obtain ⟨arr',ha,hb⟩:=fill_rel (w:=w) (X:=Xt X β σ) (β:=β) (σ:=σ) hv ps.toList qs _ _ z0.cells (hcp.trans h2.1) (RL.vs _ hsc) hfill
        refine ⟨arr',?_,hb⟩
        simp only [hit,hz0,hm,Array.toList_map]
        exact ha
  obtain ⟨arr',hb,hr⟩:=key
  refine Zx (x:=.agg arr') hs ?_ (by have:=hr.agg; simpa using this)
  rw [hx]
  exact Zv _ _ _ (run_build w t _ arr' hb)
end
section
variable {P:Program} {o:Oper} {ρ:Operand→Value} {w w':World} {X:Nat→Prop} {β:Blk} {σ:Sto} {v:O→AV}
theorem push_old {ob:Obj} (h:w'.heap=w.heap.push ob) {b:Nat} (hb:b < w.heap.size):w'.heap[b]?=w.heap[b]?:=by
  rw [h,Array.getElem?_push]; rw [if_neg (by omega)]
theorem push_new {ob:Obj} (h:w'.heap=w.heap.push ob):w'.heap[w.heap.size]?=some ob:=by
  rw [h,Array.getElem?_push]; simp
theorem push_size {ob:Obj} (h:w'.heap=w.heap.push ob):w.heap.size≤w'.heap.size:=by rw [h]; simp
theorem done_imm {ob:Obj} {x:Value} {r:AV} (hs:SRel w X β σ) (hr:(execOp ρ o).run P w=.ok (.value x) w') (hh:w'.heap=w.heap.push ob)
    (hx:RV w' (Xt X β σ) β σ r x) (io:Still w w':=by exact ⟨rfl,rfl,rfl,(by first | exact Nat.le_refl _ | exact Nat.le_succ _)⟩):Done P o ρ w X β σ r σ :=
  ⟨_,x,w',β,hr,.inl rfl,hs.same (push_size hh) (fun _=>push_old hh),Kp.same (push_size hh) (fun _=>push_old hh) hs,Ext.same (push_size hh) (fun _=>push_old hh) io,hx⟩
theorem cell_new {c:Array Value} {T:TypeId} (hh:w'.heap=w.heap.push (.cells c T (0,0))) {j:Nat} (hj:j < c.size):w'.cell? ⟨w.heap.size,j,none⟩=some (c.getD j undef):=by
  rw [cell_of_row w' w.heap.size j c T (0,0) (push_new hh)]
  simp [Array.getD_eq_getD_getElem?,hj]
theorem iptr_new {c:Array Value} {T:TypeId} {cs:List AV} (hs:SRel w X β σ) (hX:∀ b,X b→b < w.heap.size) (hh:w'.heap=w.heap.push (.cells c T (0,0)))
    (hr:RL w (Xt X β σ) β σ cs c.toList):RV w' (Xt X β σ) β σ (.iptr cs 0) (.pointer (some ⟨w.heap.size,0,none⟩)):=by
  have hn:c.size=cs.length:=by simpa using hr.1
  have hr':=hr.tr (Kp.same (push_size hh) (fun _=>push_old hh) hs)
  refine .iptr cs 0 w.heap.size 0 (fun t=>c.getD t undef) (fun t _ hx=>?_) (fun t ht=>?_) (fun t ht=>?_) fun t ht=>?_
  · exact Nat.lt_irrefl _ (Xt_lt hs hX hx)
  · have:=(hr.2 t ht).1; simpa [List.getD_eq_getElem?_getD,Array.getD_eq_getD_getElem?] using this
  · rw [Nat.zero_add]; exact cell_new hh (by omega)
  · have:=(hr'.2 t ht).2; simpa [List.getD_eq_getElem?_getD,Array.getD_eq_getD_getElem?] using this
theorem chop_length (k:Nat):∀ (n:Nat) (cs:List AV),(chop k n cs).length=n
  | 0,_=>rfl
  | n+1,cs=>by simp [chop,chop_length k n]
theorem chop_getD (k:Nat):∀ (n:Nat) (cs:List AV) (e:Nat),e < n→(chop k n cs).getD e []=(cs.drop (e * k)).take k
  | 0,_,e,h=>absurd h (Nat.not_lt_zero _)
  | n+1,cs,0,_=>by simp [chop]
  | n+1,cs,e+1,h=>by
    have:=chop_getD k n (cs.drop k) e (by omega)
    rw [List.drop_drop] at this
    rw [show (e+1) * k=k+e * k by rw [Nat.add_mul]; omega]
    simpa [chop,List.getD_cons_succ] using this
theorem mul_lt {e n k:Nat} (h:e < n):e * k+k≤n * k:=by
  have:=Nat.mul_le_mul_right k (show e+1≤n by omega)
  rw [Nat.add_mul] at this; omega
theorem sl_new {c:Array Value} {T:TypeId} {cs:List AV} {k n:Nat} (hs:SRel w X β σ) (hX:∀ b,X b→b < w.heap.size) (hh:w'.heap=w.heap.push (.cells c T (0,0)))
    (hr:RL w (Xt X β σ) β σ cs c.toList) (hl:cs.length=n * k) (cap:Nat) (hcap:n≤cap):RV w' (Xt X β σ) β σ (.sl k (chop k n cs)) (.slice (some ⟨w.heap.size,0,none⟩) n cap):=by
  have hn:c.size=cs.length:=by simpa using hr.1
  have hr':=hr.tr (Kp.same (push_size hh) (fun _=>push_old hh) hs)
  have hlen:=chop_length k n cs
  have h0:RV w' (Xt X β σ) β σ (.sl k (chop k n cs)) (.slice (some ⟨w.heap.size,0,none⟩) (chop k n cs).length cap):=by
    refine .sl k (chop k n cs) w.heap.size 0 cap (fun e j=>c.getD (e * k+j) undef) (by omega) (fun e he=>?_) (fun e he j hj=>?_) (fun e j _ _ hx=>?_) (fun e j he hj=>?_) fun e j he hj=>?_
    · rw [hlen] at he
      rw [chop_getD k n cs e he,length_take_drop _ _ _ (by have:=mul_lt (k:=k) he; omega)]
    · rw [hlen] at he
      have:=mul_lt (k:=k) he
      rw [Nat.zero_add]; exact cell_new hh (by omega)
    · exact Nat.lt_irrefl _ (Xt_lt hs hX hx)
    · rw [hlen] at he
      have:=mul_lt (k:=k) he
      have:=(hr.2 (e * k+j) (by omega)).1
      simpa [List.getD_eq_getElem?_getD,Array.getD_eq_getD_getElem?] using this
    · rw [hlen] at he
      have:=mul_lt (k:=k) he
      rw [chop_getD k n cs e he,getD_take_drop _ _ _ _ _ hj]
      have:=(hr'.2 (e * k+j) (by omega)).2
      simpa [List.getD_eq_getElem?_getD,Array.getD_eq_getD_getElem?] using this
  rw [hlen] at h0
  exact h0
theorem done_push {c:Array Value} {T:TypeId} {x:Value} {r:AV} {es:List (List AV)} {k:Nat} (hs:SRel w X β σ) (hX:∀ b,X b→b < w.heap.size)
    (hr:(execOp ρ o).run P w=.ok (.value x) w') (hh:w'.heap=w.heap.push (.cells c T (0,0)))
    (hk:∀ e,e < es.length→(es.getD e []).length=k) (hsz:es.length * k≤c.size)
    (hc:∀ e j,e < es.length→j < k→(c.getD (e * k+j) undef).oneCell'=true∧RV w (Xt X β σ) β σ ((es.getD e []).getD j .any) (c.getD (e * k+j) undef))
    (hx:RV w' (Xt X (addB β σ.length (some w.heap.size)) (σ++[some [⟨T,k,es,none⟩]])) (addB β σ.length (some w.heap.size)) (σ++[some [⟨T,k,es,none⟩]]) r x) (io:Still w w':=by exact ⟨rfl,rfl,rfl,(by first | exact Nat.le_refl _ | exact Nat.le_succ _)⟩):Done P o ρ w X β σ r (σ++[some [⟨T,k,es,none⟩]]):=by
  have hbo:∀ b,some w.heap.size=some b→b=w.heap.size:=fun b hb=>by injection hb with hb; exact hb.symm
  have K:=Kp.push (o:=⟨T,k,es,none⟩) (bo:=some w.heap.size) hs (push_size hh) (fun _=>push_old hh) hbo
  exact ⟨_,x,w',addB β σ.length (some w.heap.size),hr,.inl rfl,
    hs.push hX (push_size hh) (fun _=>push_old hh) hbo ⟨hk,fun _=>⟨c,push_new hh,hsz,fun e j he hj=>(hc e j he hj).1,fun e j he hj=>(hc e j he hj).2.tr K⟩,fun _ h=>(by cases h)⟩,
    K,Ext.push (push_size hh) (fun _=>push_old hh) hbo io,hx⟩
theorem ptr_push {T:TypeId} {k:Nat} {cs:List AV}:RV w' X (addB β σ.length (some w.heap.size)) (σ++[some [⟨T,k,[cs],none⟩]]) (.ptr σ.length 0 1 0 0) (.pointer (some ⟨w.heap.size,0,none⟩)):=by
  refine .ptr _ _ _ _ _ _ rfl (by simp) (fun o ho=>?_) fun o ho hn=>?_
  · rw [at_push_new] at ho; simp at ho; subst ho; simp
  · rw [at_push_new] at ho; simp at ho; subst ho
    exact ⟨w.heap.size,addB_new,by simp⟩
theorem own_push {c:Array Value} {T:TypeId} {k n cap:Nat} {es:List (List AV)} (hh:w'.heap=w.heap.push (.cells c T (0,0))) (hn:es.length=n) (hc:c.size=cap * k) :
    RV w' X (addB β σ.length (some w.heap.size)) (σ++[some [⟨T,k,es,none⟩]]) (.own σ.length 0 n) (.slice (some ⟨w.heap.size,0,none⟩) n cap):=by
  refine .own _ _ _ _ rfl (by simp) (fun o ho=>?_) fun o ho hn'=>?_
  · rw [at_push_new] at ho; simp at ho; subst ho; simp [hn]
  · rw [at_push_new] at ho; simp at ho; subst ho
    unfold OwnSl
    rw [addB_new]
    exact ⟨cap,c,T,by rw [hn],push_new hh,hc⟩
theorem ex_alloc {S:Prop} {r:AV} {σ':Sto} {T k:Nat} {z:List Value} (hc:chkI P o.op (.alloc T k z)=true) (hs:SRel w X β σ) (hX:∀ b,X b→b < w.heap.size)
    (he:ex (.alloc T k z) v σ=some (S,r,σ')):Done P o ρ w X β σ r σ':=by
  cases hop:o.op <;> rw [hop] at hc <;> try (simp [chkI] at hc; done)
  rename_i t
  simp only [chkI,Bool.and_eq_true,beq_iff_eq] at hc
  obtain ⟨⟨rfl,h1⟩,h2⟩:=hc
  have hx:execOp ρ o=(do let x ← Instr.alloc t true (.tuple #[]); pure (.value x)):=by unfold execOp; rw [hop]
  cases hz:zrF P t with
  | none=>rw [hz] at h2; simp at h2
  | some l =>
  rw [hz] at h2
  simp only at h2
  obtain ⟨rfl,hsc⟩:=beqVs_eq h2
  obtain ⟨it,z0,hit,hz0,rfl⟩:=zr_parts hz
  simp only [ex] at he
  split at he
  case isFalse=>cases he
  rename_i hk
  simp only [Option.some.injEq,Prod.mk.injEq] at he
  obtain ⟨_,rfl,rfl⟩:=he
  have hrl:=RL.vs (w:=w) (X:=Xt X β σ) (β:=β) (σ:=σ) _ hsc
  have hlen:=length_vs z0.cells.toList
  refine done_push (w':=w.alloc (.cells z0.cells t)) (c:=z0.cells) (x:=.pointer (some ⟨w.heap.size,0,none⟩)) hs hX ?_ rfl (fun e he=>?_) ?_ (fun e j he hj=>?_) ptr_push
  · rw [hx]
    exact Zv _ _ _ (by simp [Instr.alloc,zeroValue,typeInfo,hit,hz0,newVar,newRow])
  · obtain rfl:e=0:=by simpa using he
    simp [hlen,hk]
  · simp at hk ⊢; omega
  · obtain rfl:e=0:=by simpa using he
    have:=hrl.2 j (by rw [hlen,hk]; exact hj)
    simpa [List.getD_eq_getElem?_getD,Array.getD_eq_getD_getElem?] using this
theorem ex_box {S:Prop} {r:AV} {σ':Sto} {own:Bool} {T k:Nat} {y:O} (hc:chkI P o.op (.box own T k y)=true) (hs:SRel w X β σ) (hX:∀ b,X b→b < w.heap.size)
    (hv:∀ x u,chkO x u=true→RV w (Xt X β σ) β σ (v u) (ρ x)) (he:ex (.box own T k y) v σ=some (S,r,σ')):Done P o ρ w X β σ r σ':=by
  cases hop:o.op <;> rw [hop] at hc <;> try (simp [chkI] at hc; done)
  rename_i t a
  simp only [chkI,Bool.and_eq_true,beq_iff_eq] at hc
  obtain ⟨⟨rfl,h1⟩,h2⟩:=hc
  have ha:=hv a y h2
  have hx:execOp ρ o=(do let x ← Instr.box t (ρ a); pure (.value x)):=by unfold execOp; rw [hop]
  have hrun:(execOp ρ o).run P w=.ok (.value (.pointer (some ⟨w.heap.size,0,none⟩))) (w.alloc (.cells (ρ a).cells t)):=by
    rw [hx]; exact Zv _ _ _ (by simp [Instr.box,newVar,newRow])
  simp only [ex] at he
  split at he
  case h_2=>cases he
  rename_i cs hcs
  have hrl:=cells_rel ha hcs
  split at he
  case isFalse=>cases he
  rename_i hk
  have hsz:(ρ a).cells.size=k:=by have:=hrl.1; simp at this; omega
  cases own with
  | false =>
    simp only [Bool.false_eq_true,if_false,Option.some.injEq,Prod.mk.injEq] at he
    obtain ⟨_,rfl,rfl⟩:=he
    exact done_imm hs hrun rfl (iptr_new hs hX rfl hrl)
  | true =>
    simp only [if_true,Option.some.injEq,Prod.mk.injEq] at he
    obtain ⟨_,rfl,rfl⟩:=he
    refine done_push hs hX hrun rfl (fun e he=>?_) ?_ (fun e j he hj=>?_) ptr_push
    · obtain rfl:e=0:=by simpa using he
      simpa using hk
    · simp; omega
    · obtain rfl:e=0:=by simpa using he
      have:=hrl.2 j (by rw [hk]; exact hj)
      simpa [List.getD_eq_getElem?_getD,Array.getD_eq_getD_getElem?] using this
theorem ex_bsl {S:Prop} {r:AV} {σ':Sto} {own:Bool} {T k n:Nat} {z:List Value} {qs:List (Nat × Nat × O)} (hc:chkI P o.op (.bsl own T k n z qs)=true) (hs:SRel w X β σ)
    (hX:∀ b,X b→b < w.heap.size)
    (hv:∀ x u,chkO x u=true→RV w (Xt X β σ) β σ (v u) (ρ x)) (he:ex (.bsl own T k n z qs) v σ=some (S,r,σ')):Done P o ρ w X β σ r σ':=by
  cases hop:o.op <;> rw [hop] at hc <;> try (simp [chkI] at hc; done)
  rename_i t m ps
  simp only [chkI,Bool.and_eq_true,beq_iff_eq,decide_eq_true_eq] at hc
  obtain ⟨⟨⟨⟨⟨rfl,h2⟩,h3⟩,h4⟩,h5⟩,h6⟩:=hc
  have hu:=el_parts h2
  obtain ⟨ie,hie,rfl⟩:=sz_parts h3
  cases hz:zrF P T with
  | none=>rw [hz] at h5; simp at h5
  | some l =>
  rw [hz] at h5
  simp only at h5
  obtain ⟨rfl,hsc⟩:=beqVs_eq h5
  obtain ⟨it,z0,hit,hz0,rfl⟩:=zr_parts hz
  obtain rfl:it=ie:=by rw [hie] at hit; injection hit with hit; exact hit.symm
  have hx:execOp ρ o=(do let x ← Instr.buildSlice t m (ps.map fun (i,x)=>(i,ρ x)); pure (.value x)):=by unfold execOp; rw [hop]
  simp only [ex] at he
  split at he
  case h_2=>cases he
  rename_i cs hfill
  split at he
  case isFalse=>cases he
  rename_i hk
  obtain ⟨arr',ha,hb⟩:=fill_rel (w:=w) (X:=Xt X β σ) (β:=β) (σ:=σ) hv ps.toList qs _ _ ((List.range (m * it.size)).map fun j=>z0.cells.toList.toArray[j % z0.cells.toList.toArray.size]!).toArray h6
    (by simpa using RL.vs (w:=w) (X:=Xt X β σ) (β:=β) (σ:=σ) _ hsc) hfill
  have hrun:(execOp ρ o).run P w=.ok (.value (.slice (some ⟨w.heap.size,0,none⟩) m m)) (w.alloc (.cells arr' T)):=by
    rw [hx]
    refine Zv _ _ _ ?_
    have e1:(Array.map (fun x=>z0.cells[x % z0.cells.size]!) (Array.range (m * it.size)))=((List.range (m * it.size)).map fun j=>z0.cells.toList.toArray[j % z0.cells.toList.toArray.size]!).toArray:=by
      apply Array.ext'; simp
    rw [← e1] at ha
    by_cases hz0':m * it.size=0
    · rw [hz0'] at ha
      simp only [Array.range_zero',Array.map_empty] at ha
      simp [Instr.buildSlice,run_underlying hu,sizeOf,typeInfo,hie,hz0',Array.range_zero',ha,newRow]
    · have h4':¬ (m * it.size > 2 ^ 24):=by omega
      simp [Instr.buildSlice,run_underlying hu,sizeOf,typeInfo,zeroValue,hie,hz0,h4',hz0',ha,newRow]
  cases own with
  | false =>
    simp only [Bool.false_eq_true,if_false,Option.some.injEq,Prod.mk.injEq] at he
    obtain ⟨_,rfl,rfl⟩:=he
    exact done_imm hs hrun rfl (sl_new hs hX rfl hb hk _ (Nat.le_refl _))
  | true =>
    simp only [if_true,Option.some.injEq,Prod.mk.injEq] at he
    obtain ⟨_,rfl,rfl⟩:=he
    have hsz:arr'.size=m * it.size:=by have:=hb.1; simp at this; omega
    refine done_push hs hX hrun rfl (fun e he=>?_) ?_ (fun e j he hj=>?_) (own_push rfl (chop_length _ _ _) hsz)
    · rw [chop_length] at he
      rw [chop_getD _ _ _ _ he,length_take_drop _ _ _ (by have:=mul_lt (k:=it.size) he; omega)]
    · rw [chop_length]; omega
    · rw [chop_length] at he
      have:=mul_lt (k:=it.size) he
      rw [chop_getD _ _ _ _ he,getD_take_drop _ _ _ _ _ hj]
      have:=hb.2 (e * it.size+j) (by omega)
      simpa [List.getD_eq_getElem?_getD,Array.getD_eq_getD_getElem?] using this
theorem ex_bslt {S:Prop} {r:AV} {σ':Sto} {T k n:Nat} {z:List Value} {qs:List (Nat × Nat × O)} (hc:chkI P o.op (.bslt T k n z qs)=true) (hs:SRel w X β σ)
    (hX:∀ b,X b→b < w.heap.size)
    (hv:∀ x u,chkO x u=true→RV w (Xt X β σ) β σ (v u) (ρ x)) (he:ex (.bslt T k n z qs) v σ=some (S,r,σ')):Done P o ρ w X β σ r σ':=by
  cases hop:o.op <;> rw [hop] at hc <;> try (simp [chkI] at hc; done)
  rename_i t m ps
  simp only [chkI,Bool.and_eq_true,beq_iff_eq,decide_eq_true_eq] at hc
  obtain ⟨⟨⟨⟨⟨rfl,h2⟩,h3⟩,h4⟩,h5⟩,h6⟩:=hc
  have hu:=el_parts h2
  obtain ⟨ie,hie,rfl⟩:=sz_parts h3
  cases hz:zrF P T with
  | none=>rw [hz] at h5; simp at h5
  | some l =>
  rw [hz] at h5
  simp only at h5
  obtain ⟨rfl,hsc⟩:=beqVs_eq h5
  obtain ⟨it,z0,hit,hz0,rfl⟩:=zr_parts hz
  obtain rfl:it=ie:=by rw [hie] at hit; injection hit with hit; exact hit.symm
  have hx:execOp ρ o=(do let x ← Instr.buildSlice t m (ps.map fun (i,x)=>(i,ρ x)); pure (.value x)):=by unfold execOp; rw [hop]
  simp only [ex] at he
  split at he
  case h_2=>cases he
  rename_i cs hfill
  split at he
  case isFalse=>cases he
  rename_i hk
  obtain ⟨arr',ha,hb⟩:=fill_rel (w:=w) (X:=Xt X β σ) (β:=β) (σ:=σ) hv ps.toList qs _ _ ((List.range (m * it.size)).map fun j=>z0.cells.toList.toArray[j % z0.cells.toList.toArray.size]!).toArray h6
    (by simpa using RL.vs (w:=w) (X:=Xt X β σ) (β:=β) (σ:=σ) _ hsc) hfill
  have hrun:(execOp ρ o).run P w=.ok (.value (.slice (some ⟨w.heap.size,0,none⟩) m m)) (w.alloc (.cells arr' T)):=by
    rw [hx]
    refine Zv _ _ _ ?_
    have e1:(Array.map (fun x=>z0.cells[x % z0.cells.size]!) (Array.range (m * it.size)))=((List.range (m * it.size)).map fun j=>z0.cells.toList.toArray[j % z0.cells.toList.toArray.size]!).toArray:=by
      apply Array.ext'; simp
    rw [← e1] at ha
    by_cases hz0':m * it.size=0
    · rw [hz0'] at ha
      simp only [Array.range_zero',Array.map_empty] at ha
      simp [Instr.buildSlice,run_underlying hu,sizeOf,typeInfo,hie,hz0',Array.range_zero',ha,newRow]
    · have h4':¬ (m * it.size > 2 ^ 24):=by omega
      simp [Instr.buildSlice,run_underlying hu,sizeOf,typeInfo,zeroValue,hie,hz0,h4',hz0',ha,newRow]
  simp only [Option.some.injEq,Prod.mk.injEq] at he
  obtain ⟨_,rfl,rfl⟩:=he
  have hsz:arr'.size=m * it.size:=by have:=hb.1; simp at this; omega
  refine done_push hs hX hrun rfl (fun e he=>?_) ?_ (fun e j he hj=>?_) (.tight _ _ _ _ (own_push rfl (chop_length _ _ _) hsz) ⟨_,rfl⟩)
  · rw [chop_length] at he
    rw [chop_getD _ _ _ _ he,length_take_drop _ _ _ (by have:=mul_lt (k:=it.size) he; omega)]
  · rw [chop_length]; omega
  · rw [chop_length] at he
    have:=mul_lt (k:=it.size) he
    rw [chop_getD _ _ _ _ he,getD_take_drop _ _ _ _ _ hj]
    have:=hb.2 (e * it.size+j) (by omega)
    simpa [List.getD_eq_getElem?_getD,Array.getD_eq_getD_getElem?] using this
end
theorem getD_splice {α:Type} (l vs:List α) (p q:Nat) (d:α) (h:p+vs.length≤l.length) :
    (l.take p++vs++l.drop (p+vs.length)).getD q d=if p≤q∧q < p+vs.length then vs.getD (q - p) d else l.getD q d:=by
  simp only [List.getD_eq_getElem?_getD]
  by_cases h1:q < p
  · rw [if_neg (by omega),List.append_assoc,List.getElem?_append_left (by simp; omega),List.getElem?_take,if_pos h1]
  · by_cases h2:q < p+vs.length
    · rw [if_pos ⟨by omega,h2⟩,List.getElem?_append_left (by simp; omega),List.getElem?_append_right (by simp; omega)]
      simp [show min p l.length=p by omega]
    · rw [if_neg (by omega),List.getElem?_append_right (by simp; omega),List.getElem?_drop]
      congr 2
      simp; omega
theorem length_splice (cs:List AV) (j:Nat) (xs:List AV) (h:j+xs.length≤cs.length):(splice cs j xs).length=cs.length:=by
  unfold splice; simp; omega
theorem mul_le_of_lt {e e' k:Nat} (h:e < e'):e * k+k≤e' * k:=by
  have:=Nat.mul_le_mul_right k (show e+1≤e' by omega)
  rw [Nat.add_mul] at this; omega
section
variable {P:Program} {o:Oper} {ρ:Operand→Value} {w w':World} {X:Nat→Prop} {β:Blk} {σ:Sto} {v:O→AV}
theorem done_turn {ob ob':Ob} {f i:Nat} {n:Next} {x:Value} {r:AV} (hs:SRel w X β σ) (hX:∀ b,X b→b < w.heap.size) (ho:σ.at f i=some ob) (hk:ob.k=ob'.k)
    (hl:ob.es.length=ob'.es.length) (ht:Turn w β f i (β f i) w') (hsame:∀ b,β f i=some b→SameSize w w' b)
    (hr:(execOp ρ o).run P w=.ok n w') (hn:n=.value x∨n=.skip∧x=undef)
    (hob:ObRel w' (Xt X (mvB β f i (β f i)) (σ.upd f i ob')) (mvB β f i (β f i)) (σ.upd f i ob') (β f i) ob')
    (hx:RV w' (Xt X (mvB β f i (β f i)) (σ.upd f i ob')) (mvB β f i (β f i)) (σ.upd f i ob') r x):Done P o ρ w X β σ r (σ.upd f i ob') :=
  ⟨n,x,w',mvB β f i (β f i),hr,hn,hs.turn hX ho ht hk (Nat.le_of_eq hl) (fun _=>⟨rfl,hsame⟩) hob,
    Kp.turn hs ho ht hk (Nat.le_of_eq hl) (fun _=>⟨rfl,hsame⟩),Ext.turn ho ht,hx⟩
theorem setRow_turn {b:Nat} {c c':Array Value} {T:TypeId} {f i:Nat} (_hc:w.heap[b]?=some (.cells c T (0,0))) (hb:β f i=some b):Turn w β f i (β f i) (w.setRow b c') where
  size:=by rw [setRow_size]; exact Nat.le_refl _
  old b' _ hne:=setRow_other w b b' c' (fun e=>hne (by rw [hb,e]))
  at_ b' h:=.inl h
  io:=⟨rfl,rfl,rfl,(by first | exact Nat.le_refl _ | exact Nat.le_succ _)⟩
theorem ex_store {S:Prop} {r:AV} {σ':Sto} {s:Nat} {y z:O} (hc:chkI P o.op (.store s y z)=true) (hs:SRel w X β σ) (hX:∀ b,X b→b < w.heap.size)
    (hv:∀ x u,chkO x u=true→RV w (Xt X β σ) β σ (v u) (ρ x)) (he:ex (.store s y z) v σ=some (S,r,σ')) (hS:S):Done P o ρ w X β σ r σ':=by
  cases hop:o.op <;> rw [hop] at hc <;> try (simp [chkI] at hc; done)
  rename_i t a b
  simp only [chkI,Bool.and_eq_true,beq_iff_eq] at hc
  obtain ⟨⟨h1,h2⟩,h3⟩:=hc
  have ha:=hv a y h1
  have hb:=hv b z h2
  have hx:execOp ρ o=(do Instr.storeAt t (ρ a) (ρ b); pure .skip):=by unfold execOp; rw [hop]
  simp only [ex] at he
  generalize v y=vy at ha he
  generalize v z=vz at hb he
  generalize hqa:ρ a=qa at ha
  split at he
  case h_2=>cases he
  rename_i f i n e j xs hcs
  simp only [obj] at he
  cases hat:σ.at f i with
  | none=>rw [hat] at he; simp at he
  | some ob =>
  rw [hat] at he
  simp only at he
  split at he
  case isFalse=>cases he
  rename_i hlen
  simp only [Option.some.injEq,Prod.mk.injEq] at he
  obtain ⟨rfl,rfl,rfl⟩:=he
  obtain ⟨hn,hen,hj⟩:=hS
  have hrl:=cells_rel hb hcs
  cases ha with
  | ptr _ _ _ _ _ _ h1c hf hle h =>
  obtain ⟨bl,hbl,rfl⟩:=h ob hat hn
  have hob:=hs.obj f i ob hat
  have h2':=hob.2
  rw [hbl] at h2'
  have hlp:=hob.lp_none (e:=e) (by omega)
  obtain ⟨c,hcell,hsz,hone,hr⟩:=h2'.1 hlp
  have hrow:=hob.1 e (by omega)
  have hfit:e * ob.k+ob.k≤c.size:=Nat.le_trans (mul_lt (by omega)) hsz
  have hl1:(ρ b).cells.toList.length=xs.length:=hrl.1
  obtain ⟨ie,hie,hiesz⟩:=sz_parts h3
  have hv1:∀ u∈(ρ b).cells.toList,u.oneCell'=true:=by
    intro u hu
    obtain ⟨q,hq,rfl⟩:=List.getElem_of_mem hu
    have:=(hrl.2 q (by omega)).1
    rw [List.getD_eq_getElem?_getD,List.getElem?_eq_getElem hq] at this
    exact this
  have hst:=run_storeCells_at P bl (e * ob.k+j) ob.T (ρ b).cells.toList 0 c w hcell (by omega) hv1
  rw [Nat.add_zero] at hst
  generalize hnew:(c.toList.take (e * ob.k+j)++(ρ b).cells.toList++c.toList.drop (e * ob.k+j+(ρ b).cells.toList.length)).toArray=c' at hst
  have hrun:(execOp ρ o).run P w=.ok .skip (w.setRow bl c'):=by
    rw [hx,hqa]
    have hs2:(Instr.storeAt t (.pointer (some ⟨bl,e * ob.k+j,none⟩)) (ρ b)).run P w=.ok () (w.setRow bl c'):=by
      have e1:¬ ((ρ b).cells.size≠ie.size):=by simp at hl1 ⊢; omega
      simp only [Instr.storeAt,Instr.sureAddr,pure_bind,storeVar,Sem.run_bind,sizeOf,typeInfo,run_program,Result.andThen_ok,hie,Sem.run_pure,if_neg e1]
      exact hst
    simp only [Sem.run_bind,hs2,Result.andThen_ok,Sem.run_pure]
  have hc'sz:c'.size=c.size:=by rw [← hnew]; simp at hl1 ⊢; omega
  have hget:∀ q,c'.getD q undef=if e * ob.k+j≤q∧q < e * ob.k+j+xs.length then (ρ b).cells.toList.getD (q - (e * ob.k+j)) undef else c.getD q undef:=by
    intro q
    have:=getD_splice c.toList (ρ b).cells.toList (e * ob.k+j) q undef (by simp at hl1 ⊢; omega)
    rw [hl1] at this
    rw [← hnew,hl1]
    simpa [List.getD_eq_getElem?_getD,Array.getD_eq_getD_getElem?] using this
  have hsame:∀ b',β f i=some b'→SameSize w (w.setRow bl c') b':=by
    intro b' hb' c0 T0 h0
    rw [hbl] at hb'; injection hb' with hb'; subst hb'
    rw [hcell] at h0; injection h0 with h0; injection h0 with h0; subst h0
    exact ⟨c',ob.T,setRow_heap w bl c c' ob.T (0,0) hcell,hc'sz⟩
  let ob':Ob:={ ob with es:=ob.es.set e (splice (ob.es.getD e []) j xs) }
  have hturn:=setRow_turn (c':=c') hcell hbl
  have K:Kp w (Xt X β σ) β σ (w.setRow bl c') (Xt X (mvB β f i (β f i)) (σ.upd f i ob')) (mvB β f i (β f i)) (σ.upd f i ob') :=
    Kp.turn hs hat hturn rfl (by simp [ob']) (fun _=>⟨rfl,hsame⟩)
  have hgetE:∀ e',(ob.es.set e (splice (ob.es.getD e []) j xs)).getD e' []=if e'=e then splice (ob.es.getD e []) j xs else ob.es.getD e' []:=by
    intro e'
    rw [List.getD_eq_getElem?_getD,List.getElem?_set]
    by_cases hee:e=e'
    · subst hee; simp [show e < ob.es.length by omega]
    · rw [if_neg hee,if_neg (fun h=>hee h.symm),List.getD_eq_getElem?_getD]
  have hinv:∀ e' j',e' < ob.es.length→j' < ob.k→(e * ob.k+j≤e' * ob.k+j'∧e' * ob.k+j' < e * ob.k+j+xs.length↔e'=e∧j≤j'∧j' < j+xs.length):=by
    intro e' j' he' hj'
    constructor
    · rintro ⟨g1,g2⟩
      rcases Nat.lt_trichotomy e' e with h | h | h
      · have:=mul_le_of_lt (k:=ob.k) h; omega
      · subst h; omega
      · have:=mul_le_of_lt (k:=ob.k) h; omega
    · rintro ⟨rfl,g1,g2⟩; omega
  refine done_turn (ob':=ob') hs hX hat rfl (by simp [ob']) hturn hsame hrun (.inr ⟨rfl,rfl⟩) ⟨fun e' he'=>?_,?_⟩ (.any _)
  · simp only [ob',List.length_set] at he'
    simp only [ob',hgetE]
    split
    · rw [length_splice _ _ _ (by omega)]; exact hrow
    · exact hob.1 e' he'
  · rw [hbl]
    refine ⟨fun _=>⟨c',setRow_heap w bl c c' ob.T (0,0) hcell,by simp only [ob',List.length_set,hc'sz]; exact hsz,fun e' j' he' hj'=>?_,fun e' j' he' hj'=>?_⟩,fun r h=>(by simp only [ob'] at h; rw [hlp] at h; cases h)⟩
    · simp only [ob',List.length_set] at he' hj' ⊢
      rw [hget]
      split
      · rename_i hq
        exact (hrl.2 _ (by omega)).1
      · exact hone e' j' he' hj'
    · simp only [ob',List.length_set] at he' hj'
      rw [hbl] at K
      simp only [ob',hgetE]
      rw [hget]
      by_cases hq:e'=e∧j≤j'∧j' < j+xs.length
      · rw [if_pos ((hinv e' j' he' hj').2 hq),if_pos hq.1]
        have e2:=getD_splice (ob.es.getD e []) xs j j' AV.any (by omega)
        unfold splice
        rw [e2,if_pos hq.2]
        have:=((hrl.2 (j' - j) (by omega)).2).tr K
        obtain ⟨rfl,_,_⟩:=hq
        rw [show e' * ob.k+j' - (e' * ob.k+j)=j' - j by omega]
        exact this
      · rw [if_neg (fun h=>hq ((hinv e' j' he' hj').1 h))]
        have h3:=(hr e' j' he' hj').tr K
        by_cases hee:e'=e
        · rw [if_pos hee]
          subst hee
          have e2:=getD_splice (ob.es.getD e' []) xs j j' AV.any (by omega)
          unfold splice
          rw [e2,if_neg (fun h=>hq ⟨rfl,h⟩)]
          exact h3
        · rw [if_neg hee]; exact h3
theorem elems_rel {a:AV} {x:Value} {p:Prop} {xs:List (List AV)} {k:Nat} (hs:SRel w X β σ) (h:RV w (Xt X β σ) β σ a x) (he:elems σ a=some (p,xs)) (hp:p)
    (hk:∀ e,e < xs.length→(xs.getD e []).length=k) :
    (xs=[]∧∃ q c,x=.slice q 0 c) ∨
    ∃ b off cap,x=.slice (some ⟨b,off,none⟩) xs.length cap∧∃ f:Nat→Nat→Value,
      (∀ e j,e < xs.length→j < k→w.cell? ⟨b,off+e * k+j,none⟩=some (f e j)∧(f e j).oneCell'=true∧RV w (Xt X β σ) β σ ((xs.getD e []).getD j .any) (f e j)):=by
  unfold elems at he
  split at he
  · rename_i k0 es0
    simp only [Option.some.injEq,Prod.mk.injEq] at he
    obtain ⟨rfl,rfl⟩:=he
    cases h with
    | slnil=>exact .inl ⟨rfl,_,_,rfl⟩
    | slemp=>exact .inl ⟨rfl,_,_,rfl⟩
    | sl _ _ b off cap f hcap hk' hc hX h1 hr =>
      refine .inr ⟨b,off,cap,rfl,f,fun e j he hj=>?_⟩
      have hkk:k0=k:=by rw [← hk' e he,hk e he]
      subst hkk
      exact ⟨hc e he j hj,h1 e j he hj,hr e j he hj⟩
  · rename_i f i n
    split at he
    case h_2=>cases he
    rename_i ob hat
    simp only [Option.some.injEq,Prod.mk.injEq] at he
    obtain ⟨rfl,rfl⟩:=he
    have hob:=hs.obj f i ob hat
    cases h with
    | own _ _ _ _ h1c hf hle h =>
      have h':=h ob hat hp
      unfold OwnSl at h'
      have h2:=hob.2
      cases hb:β f i with
      | none =>
        rw [hb] at h'
        exact .inl ⟨h'.1,_,_,h'.2⟩
      | some b =>
        rw [hb] at h' h2
        obtain ⟨cap,c0,T0,rfl,hcc0,_⟩:=h'
        rw [hb] at hob
        obtain ⟨c,hcell,hsz,hone,hr⟩:=h2.1 (hob.lp_cells hcc0)
        refine .inr ⟨b,0,cap,rfl,fun e j=>c.getD (e * ob.k+j) undef,fun e j he hj=>?_⟩
        have hkk:ob.k=k:=by rw [← hob.1 e he,hk e he]
        subst hkk
        have:=mul_lt (k:=ob.k) he
        refine ⟨?_,hone e j he hj,hr e j he hj⟩
        rw [cell_of_row w b _ c _ _ hcell]
        simp [Array.getD_eq_getD_getElem?,show e * ob.k+j < c.size by omega]
  · simp only [Option.some.injEq,Prod.mk.injEq] at he
    obtain ⟨rfl,rfl⟩:=he
    obtain rfl:=h.inv_v
    exact .inl ⟨rfl,_,_,rfl⟩
  · cases he
def flat (f:Nat→Nat→Value) (n k:Nat):List Value:=(List.range (n * k)).map fun q=>f (q / k) (q % k)
theorem flat_getD (f:Nat→Nat→Value) (n k e j:Nat) (he:e < n) (hj:j < k):(flat f n k).getD (e * k+j) undef=f e j:=by
  have h:=mul_lt (k:=k) he
  have h1:(e * k+j) / k=e:=by
    rw [Nat.mul_comm,Nat.mul_add_div (by omega),Nat.div_eq_of_lt hj]; simp
  have h2:(e * k+j) % k=j:=by
    rw [Nat.mul_comm,Nat.mul_add_mod,Nat.mod_eq_of_lt hj]
  simp [flat,List.getD_eq_getElem?_getD,List.getElem?_range (show e * k+j < n * k by omega),h1,h2]
theorem flat_length (f:Nat→Nat→Value) (n k:Nat):(flat f n k).length=n * k:=by simp [flat]
theorem flat_cell {f:Nat→Nat→Value} {n k b off:Nat} (hk:k≠0) (h:∀ e j,e < n→j < k→w.cell? ⟨b,off+e * k+j,none⟩=some (f e j)) :
    ∀ q u,(flat f n k)[q]?=some u→w.cell? ((⟨b,off,none⟩:Addr).add q)=some u:=by
  intro q u hq
  obtain ⟨hlt,hu⟩:=List.getElem?_eq_some_iff.1 hq
  rw [flat_length] at hlt
  have h1:q / k < n:=Nat.div_lt_of_lt_mul (by rw [Nat.mul_comm]; exact hlt)
  have h2:q % k < k:=Nat.mod_lt _ (by omega)
  have h3:=h _ _ h1 h2
  have h4:q / k * k+q % k=q:=Nat.div_add_mod' q k
  rw [Addr.add_lit,show off+q=off+q / k * k+q % k by omega,h3]
  simp only [flat,List.getElem_map,List.getElem_range] at hu
  rw [hu]
theorem run_append_zero {t ty e:TypeId} {i:TypeInfo} (ht:P.underlying t=some (.slice e)) (hi:P.info? e=some i) {base q:Option Addr} {sLen sCap c:Nat} (hle:sLen≤sCap) :
    (Builtin.append_ #[t,t] ty #[.slice base sLen sCap,.slice q 0 c]).run P w=.ok (.slice base sLen sCap) w:=by
  cases q <;> cases base <;> simp [Builtin.append_,run_underlying ht,sizeOf,typeInfo,hi,Builtin.lenOf,hle,Builtin.firstCells,loadCells,loadCellsFrom,storeCells]
theorem zeroCells_size (z:Array Value) (n:Nat):(Builtin.zeroCells z n).size=n * z.size:=by simp [Builtin.zeroCells]
theorem done_move {ob ob':Ob} {f i:Nat} {c:Array Value} {x:Value} {r:AV} (hs:SRel w X β σ) (hX:∀ b,X b→b < w.heap.size) (ho:σ.at f i=some ob) (hk:ob.k=ob'.k)
    (hl:ob.es.length < ob'.es.length) (hlp:ob'.lp=none) (hh:w'.heap=w.heap.push (.cells c ob'.T (0,0))) (hr:(execOp ρ o).run P w=.ok (.value x) w')
    (hrow:∀ e,e < ob'.es.length→(ob'.es.getD e []).length=ob'.k) (hsz:ob'.es.length * ob'.k≤c.size)
    (hc:∀ e j,e < ob'.es.length→j < ob'.k→(c.getD (e * ob'.k+j) undef).oneCell'=true∧RV w (Xt X β σ) β σ ((ob'.es.getD e []).getD j .any) (c.getD (e * ob'.k+j) undef))
    (hx:RV w' (Xt X (mvB β f i (some w.heap.size)) (σ.upd f i ob')) (mvB β f i (some w.heap.size)) (σ.upd f i ob') r x) (io:Still w w':=by exact ⟨rfl,rfl,rfl,(by first | exact Nat.le_refl _ | exact Nat.le_succ _)⟩):Done P o ρ w X β σ r (σ.upd f i ob'):=by
  have ht:Turn w β f i (some w.heap.size) w':=⟨push_size hh,fun b hb _=>push_old hh hb,fun b hb=>.inr (by injection hb with hb; omega),io⟩
  have hne:ob.es.length=ob'.es.length→some w.heap.size=β f i∧∀ b,β f i=some b→SameSize w w' b:=fun h=>absurd h (by omega)
  have K:=Kp.turn (o':=ob') hs ho ht hk (Nat.le_of_lt hl) hne
  exact ⟨_,x,w',mvB β f i (some w.heap.size),hr,.inl rfl,
    hs.turn hX ho ht hk (Nat.le_of_lt hl) hne ⟨hrow,fun _=>⟨c,push_new hh,hsz,fun e j he hj=>(hc e j he hj).1,fun e j he hj=>(hc e j he hj).2.tr K⟩,fun r h=>(by rw [hlp] at h; cases h)⟩,K,Ext.turn ho ht,hx⟩
theorem getD_append {α:Type} (a b:List α) (i:Nat) (d:α):(a++b).getD i d=if i < a.length then a.getD i d else b.getD (i - a.length) d:=by
  simp only [List.getD_eq_getElem?_getD]
  split
  · rw [List.getElem?_append_left ‹_›]
  · rw [List.getElem?_append_right (by omega)]
theorem rows_append {a b:List (List AV)} {k:Nat} (ha:∀ e,e < a.length→(a.getD e []).length=k) (hb:∀ e,e < b.length→(b.getD e []).length=k) :
    ∀ e,e < (a++b).length→((a++b).getD e []).length=k:=by
  intro e he
  rw [getD_append]
  split
  · exact ha e ‹_›
  · exact hb _ (by simp at he; omega)
theorem upd_self {σ:Sto} {f i:Nat} {o:Ob} (h:σ.at f i=some o):σ.upd f i o=σ:=by
  unfold Sto.at at h
  split at h
  · rename_i F hF
    unfold Sto.upd
    rw [hF]
    obtain ⟨hlt,rfl⟩:=List.getElem?_eq_some_iff.1 h
    obtain ⟨hlt',hF'⟩:=List.getElem?_eq_some_iff.1 hF
    simp only [List.set_getElem_self]
    rw [← hF',List.set_getElem_self]
  · cases h
theorem ex_app {S:Prop} {r:AV} {σ':Sto} {T k bytes:Nat} {y z:O} (hc:chkI P o.op (.app T k bytes y z)=true) (hs:SRel w X β σ) (hX:∀ b,X b→b < w.heap.size)
    (hv:∀ x u,chkO x u=true→RV w (Xt X β σ) β σ (v u) (ρ x)) (he:ex (.app T k bytes y z) v σ=some (S,r,σ')) (hS:S):Done P o ρ w X β σ r σ':=by
  cases hop:o.op <;> rw [hop] at hc <;> try (simp [chkI] at hc; done)
  rename_i cc
  obtain ⟨cal,args,ts⟩:=cc
  cases cal <;> try (simp [chkI] at hc; done)
  rename_i bi
  cases bi <;> try (simp [chkI] at hc; done)
  simp only [chkI,Bool.and_eq_true] at hc
  obtain ⟨hargs,hts⟩:=hc
  obtain ⟨args⟩:=args
  obtain ⟨ts⟩:=ts
  rcases args with _ | ⟨a,_ | ⟨b,_ | ⟨_,_⟩⟩⟩ <;> simp [chkOs] at hargs
  obtain ⟨h1,h2⟩:=hargs
  split at hts
  case h_2=>cases hts
  rename_i t t' htl
  simp only at htl
  subst htl
  simp only [Bool.and_eq_true,beq_iff_eq,bne_iff_ne] at hts
  obtain ⟨⟨⟨⟨⟨⟨rfl,h3⟩,h4⟩,h5⟩,h6⟩,h7⟩,h8⟩:=hts
  have hu:=el_parts h3
  obtain ⟨ie,hie,rfl⟩:=sz_parts h4
  have hby:ie.bytes=bytes:=by rw [hie] at h5; simpa using h5
  cases hz:zrF P T with
  | none=>rw [hz] at h6; simp at h6
  | some l =>
  rw [hz] at h6
  simp only [beq_iff_eq] at h6
  obtain ⟨it,z0,hit,hz0,rfl⟩:=zr_parts hz
  obtain rfl:it=ie:=by rw [hie] at hit; injection hit with hit; exact hit.symm
  have hzs:z0.cells.size=it.size:=by simpa using h6
  have ha:=hv a y h1
  have hb:=hv b z h2
  have hx:execOp ρ o=(do let d ← resolve ρ ⟨.builtin .append,#[a,b],#[t,t]⟩ o.type; invoke d.target d.args):=by unfold execOp; rw [hop]
  have hrun:∀ x w',(Builtin.append_ #[t,t] o.type #[ρ a,ρ b]).run P w=.ok x w'→(execOp ρ o).run P w=.ok (.value x) w':=by
    intro x w' h
    rw [hx]
    simp [resolve,invoke,builtin,h]
  simp only [ex] at he
  generalize v y=vy at ha he
  generalize v z=vz at hb he
  generalize hqa:ρ a=qa at ha hrun
  generalize hqb:ρ b=qb at hb hrun
  split at he
  case h_2=>cases he
  rename_i p xs hel
  have empty:∀ (hrow:∀ e,e < xs.length→(xs.getD e []).length=it.size),p→xs.length * bytes≤140737488355328→qa=.slice none 0 0 →
      (xs=[]∧(execOp ρ o).run P w=.ok (.value (.slice none 0 0)) w) ∨
      ∃ cap c w',xs≠[]∧(execOp ρ o).run P w=.ok (.value (.slice (some ⟨w.heap.size,0,none⟩) xs.length cap)) w'∧w'.heap=w.heap.push (.cells c T (0,0))∧c.size=cap * it.size∧xs.length≤cap∧Still w w' ∧
        ∀ e j,e < xs.length→j < it.size→(c.getD (e * it.size+j) undef).oneCell'=true∧RV w (Xt X β σ) β σ ((xs.getD e []).getD j .any) (c.getD (e * it.size+j) undef):=by
    rintro hrow hp hbytes rfl
    rcases elems_rel hs hb hel hp hrow with ⟨rfl,q,c,rfl⟩ | ⟨b',off,cap,rfl,f,hf⟩
    · exact .inl ⟨rfl,hrun _ _ (run_append_zero hu hie (Nat.le_refl 0))⟩
    · by_cases hxs:xs=[]
      · subst hxs; exact .inl ⟨rfl,hrun _ _ (run_append_zero hu hie (Nat.le_refl 0))⟩
      · have hpos:0 < xs.length:=List.length_pos_iff.2 hxs
        have hl:=flat_length f xs.length it.size
        have hle1:xs.length≤xs.length * bytes:=Nat.le_mul_of_pos_right _ (Nat.pos_of_ne_zero h8)
        have hg:=grownCap_ge w xs.length 0 T
        have hcell:=flat_cell (w:=w) (f:=f) (n:=xs.length) (k:=it.size) h7 fun e j he hj=>(hf e j he hj).1
        have hap:=run_append_nil (P:=P) w t o.type T it z0 hu hie hz0 ⟨b',off,none⟩ xs.length cap (flat f xs.length it.size) hl hcell hpos (by omega) (by rw [hby]; omega)
        refine .inr ⟨_,_,_,hxs,hrun _ _ hap,rfl,?_,hg,⟨rfl,rfl,rfl,(by first | exact Nat.le_refl _ | exact Nat.le_succ _)⟩,fun e j he hj=>?_⟩
        · simp only [Array.size_append,List.size_toArray,hl,zeroCells_size,hzs]
          rw [← Nat.add_mul]; congr 1; omega
        · have hlt:=mul_lt (k:=it.size) he
          have e1:(((flat f xs.length it.size).toArray++Builtin.zeroCells z0.cells (grownCap w xs.length 0 T - xs.length))).getD (e * it.size+j) undef=f e j:=by
            rw [← flat_getD f xs.length it.size e j he hj]
            simp only [Array.getD_eq_getD_getElem?,List.getD_eq_getElem?_getD]
            rw [Array.getElem?_append_left (by simp [hl]; omega)]
            simp
          rw [e1]
          exact ⟨(hf e j he hj).2.1,(hf e j he hj).2.2⟩
  split at he
  · simp only [Option.some.injEq,Prod.mk.injEq] at he
    obtain ⟨rfl,rfl,rfl⟩:=he
    obtain ⟨hp,hrow,hbytes⟩:=hS
    rcases empty hrow hp hbytes ha.inv_v with ⟨rfl,hr⟩ | ⟨cap,c,w',hne,hr,hh,hcs,hcap,hio,hcc⟩
    · have hbo:∀ b,(none:Option Nat)=some b→b=w.heap.size:=fun b hb=>by cases hb
      exact ⟨_,_,w,addB β σ.length none,hr,.inl rfl,hs.push hX (Nat.le_refl _) (fun _ _=>rfl) hbo ⟨fun e he=>absurd he (Nat.not_lt_zero _),rfl,rfl⟩,
        Kp.push hs (Nat.le_refl _) (fun _ _=>rfl) hbo,Ext.push (Nat.le_refl _) (fun _ _=>rfl) hbo,
        .own _ _ _ _ rfl (by simp) (fun ob hob=>by rw [at_push_new] at hob; simp at hob; subst hob; simp) fun ob hob _=>by
          rw [at_push_new] at hob; simp at hob; subst hob
          unfold OwnSl; rw [addB_new]; exact ⟨rfl,rfl⟩⟩
    · refine done_push (io:=hio) hs hX hr hh hrow ?_ hcc (own_push hh rfl hcs)
      rw [hcs]; exact Nat.mul_le_mul_right _ hcap
  · rename_i f i n
    simp only [obj] at he
    cases hat:σ.at f i with
    | none=>rw [hat] at he; simp at he
    | some ob =>
    rw [hat] at he
    simp only [Option.some.injEq,Prod.mk.injEq] at he
    obtain ⟨rfl,rfl,rfl⟩:=he
    obtain ⟨hp,hrow,hT,hk,hlp,hn,hbytes⟩:=hS
    have hob:=hs.obj f i ob hat
    have hrow':∀ e,e < (ob.es++xs).length→((ob.es++xs).getD e []).length=ob.k:=rows_append hob.1 (by rw [hk]; exact hrow)
    cases ha with
    | own _ _ _ _ h1c hf hle h =>
    have h':=h ob hat hn
    unfold OwnSl at h'
    have h2':=hob.2
    have hle1:n+xs.length≤(n+xs.length) * bytes:=Nat.le_mul_of_pos_right _ (Nat.pos_of_ne_zero h8)
    by_cases hxs:xs=[]
    ·
      subst hxs
      have hq0:∃ q c,qb=.slice q 0 c:=by
        rcases elems_rel hs hb hel hp hrow with ⟨_,h⟩ | ⟨b',off,cap,rfl,_⟩
        · exact h
        · exact ⟨_,_,rfl⟩
      obtain ⟨q,c,rfl⟩:=hq0
      have hqs:∃ base cap,qa=.slice base n cap∧n≤cap:=by
        cases hbf:β f i with
        | none=>rw [hbf] at h'; exact ⟨none,0,by rw [h'.2,← hn,h'.1]; rfl,by rw [← hn,h'.1]; exact Nat.le_refl _⟩
        | some bl =>
          rw [hbf] at h' h2'
          obtain ⟨cap,c0,T0,rfl,hc0,hcs⟩:=h'
          obtain ⟨c1,hc1,hsz,_⟩:=h2'.1 hlp
          rw [hc1] at hc0; injection hc0 with hc0; injection hc0 with hc0 _; subst hc0
          refine ⟨_,cap,by rw [hn],?_⟩
          rw [hcs,hn] at hsz
          exact Nat.le_of_mul_le_mul_right hsz (by rw [hk]; omega)
      obtain ⟨base,cap,hqs,hcap⟩:=hqs
      have hr:=hrun _ _ (by rw [hqs]; exact run_append_zero (q:=q) (c:=c) hu hie hcap)
      have hβ:mvB β f i (β f i)=β:=by
        funext f' i'; unfold mvB; split
        · rename_i h; rw [h.1,h.2]
        · rfl
      have hσ:σ.upd f i { ob with es:=ob.es++[] }=σ:=by
        rw [List.append_nil]
        exact upd_self hat
      rw [hσ]
      refine Zx (x:=qa) hs (by rw [hr,hqs]) ?_
      exact .own f i _ qa h1c hf (by simpa using hle) (by simpa using h)
    have hpos:0 < xs.length:=List.length_pos_iff.2 hxs
    rcases elems_rel hs hb hel hp hrow with ⟨h0,_⟩ | ⟨b',off,cap,rfl,g,hg⟩
    · exact absurd h0 hxs
    have hl:=flat_length g xs.length it.size
    have hcell:=flat_cell (w:=w) (f:=g) (n:=xs.length) (k:=it.size) h7 fun e j he hj=>(hg e j he hj).1
    cases hbf:β f i with
    | none =>
      rw [hbf] at h'
      have hn0:n=0:=by rw [← hn,h'.1]; rfl
      subst hn0
      rcases empty hrow hp (by rw [Nat.zero_add] at hbytes; exact hbytes) h'.2 with ⟨h0,_⟩ | ⟨cap',c,w',_,hr,hh,hcs,hcap,hio,hcc⟩
      · exact absurd h0 hxs
      · refine done_move (io:=hio) (c:=c) hs hX hat rfl (by simp [h'.1]; omega) (by exact hlp) (by simpa [hT] using hh) hr hrow' ?_ ?_ ?_
        · simp only [h'.1,List.nil_append,hk,hcs]; exact Nat.mul_le_mul_right _ hcap
        · simpa [h'.1,hk] using hcc
        · refine .own _ _ _ _ rfl (by rw [upd_length]; exact hf) (fun o' ho'=>?_) fun o' ho' hn'=>?_
          · rw [at_upd_same hat] at ho'; injection ho' with ho'; subst ho'; simp [hn]
          · rw [at_upd_same hat] at ho'; injection ho' with ho'; subst ho'
            unfold OwnSl
            rw [mvB_same]
            exact ⟨cap',c,T,by simp [h'.1],push_new hh,by simp [hk,hcs]⟩
    | some bl =>
      rw [hbf] at h' h2'
      obtain ⟨cap0,c0,T0,rfl,hc0,hcs⟩:=h'
      obtain ⟨c1,hc1,hsz,hone,hr1⟩:=h2'.1 hlp
      rw [hc1] at hc0; injection hc0 with hc0; injection hc0 with hc0 hT0; subst hc0
      rw [hn] at hrun
      have hcap0:n≤cap0:=by
        rw [hcs,hn] at hsz
        exact Nat.le_of_mul_le_mul_right hsz (by rw [hk]; omega)
      have hget:∀ (C:Array Value),(∀ q,q < n * it.size→C.getD q undef=c1.getD q undef)→(∀ q,q < xs.length * it.size→C.getD (n * it.size+q) undef=(flat g xs.length it.size).getD q undef) →
          ∀ e j,e < (ob.es++xs).length→j < ob.k→(C.getD (e * ob.k+j) undef).oneCell'=true∧RV w (Xt X β σ) β σ (((ob.es++xs).getD e []).getD j .any) (C.getD (e * ob.k+j) undef):=by
        intro C hC1 hC2 e j he hj
        rw [getD_append]
        split
        · rename_i hlt
          have:=mul_lt (k:=it.size) (show e < n by omega)
          rw [hC1 _ (by rw [hk] at hj ⊢; omega)]
          exact ⟨hone e j hlt hj,hr1 e j hlt hj⟩
        · rename_i hge
          have he':e - ob.es.length < xs.length:=by simp at he; omega
          have:=mul_lt (k:=it.size) he'
          have e1:e * ob.k+j=n * it.size+((e - ob.es.length) * it.size+j):=by
            rw [hk,← Nat.add_assoc,← Nat.add_mul]; congr 2; omega
          rw [hk] at hj
          rw [e1,hC2 _ (by omega),flat_getD g xs.length it.size _ _ he' hj]
          exact ⟨(hg _ _ he' hj).2.1,(hg _ _ he' hj).2.2⟩
      by_cases hroom:n+xs.length≤cap0
      ·
        have hmul:(n+xs.length) * it.size≤cap0 * it.size:=Nat.mul_le_mul_right _ hroom
        rw [Nat.add_mul] at hmul
        have hcs':c1.size=cap0 * it.size:=by rw [hcs,hk]
        have hone2:∀ u∈flat g xs.length it.size,u.oneCell'=true:=by
          intro u hu
          obtain ⟨q,hq,rfl⟩:=List.getElem_of_mem hu
          rw [hl] at hq
          have a1:q / it.size < xs.length:=Nat.div_lt_of_lt_mul (by rw [Nat.mul_comm]; exact hq)
          have a2:q % it.size < it.size:=Nat.mod_lt _ (by omega)
          simp only [flat,List.getElem_map,List.getElem_range]
          exact (hg _ _ a1 a2).2.1
        have hap:=run_append_room (P:=P) w t o.type T it hu hie bl n cap0 c1 (by rw [← hT]; exact hc1) ⟨b',off,none⟩ xs.length cap (flat g xs.length it.size) hl hcell hone2 hroom (by rw [hl]; omega)
        have hr:=hrun _ _ hap
        generalize hnew:(c1.toList.take (n * it.size)++flat g xs.length it.size++c1.toList.drop (n * it.size+(flat g xs.length it.size).length)).toArray=c' at hr
        have hc'sz:c'.size=c1.size:=by rw [← hnew]; simp [hl]; omega
        have hgetc:∀ q,c'.getD q undef=if n * it.size≤q∧q < n * it.size+xs.length * it.size then (flat g xs.length it.size).getD (q - n * it.size) undef else c1.getD q undef:=by
          intro q
          have:=getD_splice c1.toList (flat g xs.length it.size) (n * it.size) q undef (by simp [hl]; omega)
          rw [hl] at this
          rw [← hnew,hl]
          simpa [List.getD_eq_getElem?_getD,Array.getD_eq_getD_getElem?] using this
        have hsame:∀ b,β f i=some b→SameSize w (w.setRow bl c') b:=by
          intro b2 hb2 cc TT h0
          rw [hbf] at hb2; injection hb2 with hb2; subst hb2
          rw [hc1] at h0; injection h0 with h0; injection h0 with h0; subst h0
          exact ⟨c',ob.T,setRow_heap w bl c1 c' ob.T (0,0) hc1,hc'sz⟩
        have ht:=setRow_turn (c':=c') hc1 hbf
        rw [hbf] at ht
        have hne:ob.es.length=(ob.es++xs).length→(some bl=β f i∧∀ b,β f i=some b→SameSize w (w.setRow bl c') b):=fun _=>⟨hbf.symm,hsame⟩
        have K:=Kp.turn (o':={ ob with es:=ob.es++xs }) hs hat ht rfl (by simp) hne
        have hall:=hget c' (fun q hq=>by rw [hgetc,if_neg (by omega)]) (fun q hq=>by rw [hgetc,if_pos ⟨by omega,by omega⟩]; congr 1; omega)
        refine ⟨_,_,w.setRow bl c',mvB β f i (some bl),hr,.inl rfl,
          hs.turn hX hat ht rfl (by simp) hne ⟨hrow',fun _=>⟨c',setRow_heap w bl c1 c' ob.T (0,0) hc1,?_,fun e j he hj=>(hall e j he hj).1,fun e j he hj=>(hall e j he hj).2.tr K⟩,fun r h=>(by simp only at h; rw [hlp] at h; cases h)⟩,K,Ext.turn hat ht,?_⟩
        · simp only [List.length_append,hn,hk]
          rw [Nat.add_mul,hc'sz,hcs']; exact hmul
        · refine .own _ _ _ _ rfl (by rw [upd_length]; exact hf) (fun o' ho'=>?_) fun o' ho' hn'=>?_
          · rw [at_upd_same hat] at ho'; injection ho' with ho'; subst ho'; simp [hn]
          · rw [at_upd_same hat] at ho'; injection ho' with ho'; subst ho'
            unfold OwnSl
            rw [mvB_same]
            exact ⟨cap0,c',ob.T,by simp [hn],setRow_heap w bl c1 c' ob.T (0,0) hc1,by simp [hc'sz,hcs]⟩
      ·
        have holds:∀ j u,(c1.toList.take (n * it.size))[j]?=some u→w.cell? ((⟨bl,0,none⟩:Addr).add j)=some u:=by
          intro j u hu
          rw [Addr.add_lit,Nat.zero_add,cell_of_row w bl j c1 _ _ hc1]
          rw [List.getElem?_take] at hu
          split at hu
          · simpa using hu
          · cases hu
        have hcs':c1.size=cap0 * it.size:=by rw [hcs,hk]
        have hlo:(c1.toList.take (n * it.size)).length=n * it.size:=by
          have:=Nat.mul_le_mul_right it.size hcap0
          simp; omega
        have hap:=run_append_grow (P:=P) w t o.type T it z0 hu hie hz0 ⟨bl,0,none⟩ n cap0 (c1.toList.take (n * it.size)) hlo holds ⟨b',off,none⟩ xs.length cap (flat g xs.length it.size) hl hcell
          (by omega) (by omega) (growslice_fits (by omega) (by rw [hby]; exact hbytes))
        have hr:=hrun _ _ hap
        have hge:=grownCap_ge w (n+xs.length) cap0 T
        generalize grownCap w (n+xs.length) cap0 T=nc at hr hge
        refine done_move (ob':={ ob with es:=ob.es++xs }) (w':=w.drew.alloc (.cells ((c1.toList.take (n * it.size)).toArray++(flat g xs.length it.size).toArray++Builtin.zeroCells z0.cells (nc - (n+xs.length))) T)) hs hX hat rfl (by simp; omega) (by exact hlp) (by simp only [hT]; rfl) hr hrow' ?_ (hget _ (fun q hq=>?_) fun q hq=>?_) ?_
        · simp only [List.length_append,hn,hk,Array.size_append,List.size_toArray,hlo,hl,zeroCells_size,hzs]
          rw [Nat.add_mul]; omega
        · simp only [Array.getD_eq_getD_getElem?]
          rw [Array.getElem?_append_left (by simp only [Array.size_append,List.size_toArray,hlo,hl]; omega),Array.getElem?_append_left (by simp only [List.size_toArray,hlo]; exact hq)]
          simp [hq]
        · simp only [Array.getD_eq_getD_getElem?,List.getD_eq_getElem?_getD]
          rw [Array.getElem?_append_left (by simp only [Array.size_append,List.size_toArray,hlo,hl]; omega),Array.getElem?_append_right (by simp only [List.size_toArray,hlo]; omega)]
          simp only [List.size_toArray,hlo,Nat.add_sub_cancel_left,List.getElem?_toArray]
        · refine .own _ _ _ _ rfl (by rw [upd_length]; exact hf) (fun o' ho'=>?_) fun o' ho' hn'=>?_
          · rw [at_upd_same hat] at ho'; injection ho' with ho'; subst ho'; simp [hn]
          · rw [at_upd_same hat] at ho'; injection ho' with ho'; subst ho'
            unfold OwnSl
            rw [mvB_same]
            refine ⟨nc,_,T,by simp [hn],push_new (w:=w) rfl,?_⟩
            simp only [Array.size_append,List.size_toArray,hlo,hl,zeroCells_size,hzs,hk]
            rw [← Nat.add_mul,← Nat.add_mul]; congr 1; omega
  · cases he
end
section
variable {P:Program} {o:Oper} {ρ:Operand→Value} {w w':World} {X:Nat→Prop} {β:Blk} {σ:Sto} {v:O→AV}
theorem ex_mksl {S:Prop} {r:AV} {σ':Sto} {T k bytes:Nat} {z:List Value} {y y':O} (hc:chkI P o.op (.mksl T k bytes z y y')=true) (hs:SRel w X β σ) (hX:∀ b,X b→b < w.heap.size)
    (hv:∀ x u,chkO x u=true→RV w (Xt X β σ) β σ (v u) (ρ x)) (he:ex (.mksl T k bytes z y y') v σ=some (S,r,σ')) (hS:S):Done P o ρ w X β σ r σ':=by
  cases hop:o.op <;> rw [hop] at hc <;> try (simp [chkI] at hc; done)
  rename_i t a b
  simp only [chkI,Bool.and_eq_true,beq_iff_eq,bne_iff_ne] at hc
  obtain ⟨⟨⟨⟨⟨⟨⟨h1,h2⟩,h3⟩,h4⟩,h5⟩,h6⟩,h7⟩,h8⟩:=hc
  have hu:=el_parts h3
  obtain ⟨ie,hie,rfl⟩:=sz_parts h4
  have hby:ie.bytes=bytes:=by rw [hie] at h5; simpa using h5
  cases hz:zrF P T with
  | none=>rw [hz] at h6; simp at h6
  | some l =>
  rw [hz] at h6
  simp only [Bool.and_eq_true,beq_iff_eq] at h6
  obtain ⟨h6,h6'⟩:=h6
  obtain ⟨rfl,hsc⟩:=beqVs_eq h6
  obtain ⟨it,z0,hit,hz0,rfl⟩:=zr_parts hz
  obtain rfl:it=ie:=by rw [hie] at hit; injection hit with hit; exact hit.symm
  have hzs:z0.cells.size=it.size:=by simpa using h6'
  have ha:=hv a y h1
  have hb:=hv b y' h2
  have hx:execOp ρ o=(do let x ← Instr.makeSlice t (ρ a) (ρ b); pure (.value x)):=by unfold execOp; rw [hop]
  simp only [ex] at he
  generalize v y=vy at ha he
  generalize v y'=vz at hb he
  generalize hqa:ρ a=qa at ha
  generalize hqb:ρ b=qb at hb
  split at he
  case h_2=>cases he
  rename_i k1 l k2 c
  rw [if_pos h6'] at he
  simp only [Option.some.injEq,Prod.mk.injEq] at he
  obtain ⟨rfl,rfl,rfl⟩:=he
  obtain ⟨rfl,h0,hb1⟩:=hS
  obtain rfl:=ha.inv_v
  obtain rfl:=hb.inv_v
  have hle:l * 1≤l * bytes:=Int.mul_le_mul_of_nonneg_left (by omega) h0
  have hrl:=RL.vs (w:=w) (X:=Xt X β σ) (β:=β) (σ:=σ) _ hsc
  have hlen:=length_vs z0.cells.toList
  refine done_push (w':=w.alloc (.cells (madeCells z0.cells (l.toNat * it.size)) T)) (c:=madeCells z0.cells (l.toNat * it.size)) (x:=.slice (some ⟨w.heap.size,0,none⟩) l.toNat l.toNat) hs hX ?_ rfl (fun e he=>?_) ?_ (fun e j he hj=>?_)
    (own_push rfl (by simp) (by simp [madeCells]))
  · rw [hx,hqa,hqb]
    refine Zv _ _ _ (run_make w t T it z0 hu hie hz0 k1 k2 l l h0 (Int.le_refl _) ?_ ?_)
    · rw [hby,Int.mul_comm]; omega
    · omega
  · simp only [List.length_replicate] at he
    simp [List.getD_eq_getElem?_getD,he,hlen,hzs]
  · simp [madeCells]
  · simp only [List.length_replicate] at he
    have hlt:=mul_lt (k:=it.size) he
    have e1:(madeCells z0.cells (l.toNat * it.size)).getD (e * it.size+j) undef=z0.cells.getD j undef:=by
      have e2:(e * it.size+j) % it.size=j:=by rw [Nat.mul_comm,Nat.mul_add_mod,Nat.mod_eq_of_lt hj]
      simp [madeCells,Array.getD_eq_getD_getElem?,show e * it.size+j < l.toNat * it.size by omega,hzs,e2,show j < it.size by omega]
    have:=hrl.2 j (by rw [hlen]; simp; omega)
    rw [e1]
    simpa [List.getD_eq_getElem?_getD,he,Array.getD_eq_getD_getElem?] using this
theorem run_sliceBound {k:IntKind} {i y:Nat} {code:BoundsCode} (h:i≤y):(Instr.sliceBound (.int k i) y code).run P w=.ok i w:=by
  have g:(0:Int)≤(i:Int)∧(i:Int)≤(y:Int):=by omega
  simp [Instr.sliceBound,asIntOf,g]
theorem run_sliceBounds {len cap:Nat} (lo hi:Option Value) (l h:Nat)
    (hlo:(lo=none∧l=0)∨∃ k,lo=some (.int k l)) (hhi:(hi=none∧h=len)∨∃ k,hi=some (.int k h)) (h1:l≤h) (h2:h≤cap) :
    (Instr.sliceBounds true len cap lo hi none).run P w=.ok (l,h,cap) w:=by
  rcases hlo with ⟨rfl,rfl⟩ | ⟨k,rfl⟩ <;> rcases hhi with ⟨rfl,rfl⟩ | ⟨k',rfl⟩ <;>
    simp [Instr.sliceBounds,run_sliceBound h1,run_sliceBound h2]
theorem run_slice_slice {t e:TypeId} {s:Nat} (he:elF P t=some e) (hs:szF P e=some s) {b off len cap:Nat} (lo hi:Option Value) (l h:Nat)
    (hlo:(lo=none∧l=0)∨∃ k,lo=some (.int k l)) (hhi:(hi=none∧h=len)∨∃ k,hi=some (.int k h)) (h1:l≤h) (h2:h≤cap) :
    (Instr.sliceAt t (.slice (some ⟨b,off,none⟩) len cap) lo hi none).run P w =
      .ok (.slice (some (if cap=l then ⟨b,off,none⟩ else ⟨b,off+l * s,none⟩)) (h - l) (cap - l)) w:=by
  have hu:=el_parts he
  obtain ⟨i,hi',rfl⟩:=sz_parts hs
  simp only [Instr.sliceAt,Instr.slice,Sem.run_bind,run_underlying hu,Result.andThen_ok,run_sliceBounds (P:=P) (w:=w) lo hi l h hlo hhi h1 h2,sizeOf,typeInfo,run_program,hi',Sem.run_pure,Option.map_some,Addr.add_lit]
  split <;> rfl
theorem getD_drop_take {α:Type} (l:List α) (a b i:Nat) (d:α) (h:i < b - a):((l.take b).drop a).getD i d=l.getD (a+i) d:=by
  simp only [List.getD_eq_getElem?_getD,List.getElem?_drop,List.getElem?_take]
  rw [if_pos (by omega)]
theorem ex_slice {S:Prop} {r:AV} {σ':Sto} {k:Nat} {y:O} {lo hi:Option O} (hc:chkI P o.op (.slice k y lo hi)=true) (hs:SRel w X β σ)
    (hv:∀ x u,chkO x u=true→RV w (Xt X β σ) β σ (v u) (ρ x)) (he:ex (.slice k y lo hi) v σ=some (S,r,σ')) (hS:S):Done P o ρ w X β σ r σ':=by
  cases hop:o.op <;> rw [hop] at hc <;> try (simp [chkI] at hc; done)
  rename_i t a plo phi pmx
  cases pmx <;> try (simp [chkI] at hc; done)
  simp only [chkI,Bool.and_eq_true] at hc
  obtain ⟨⟨⟨h1,h2⟩,h3⟩,h4⟩:=hc
  cases hel:elF P t with
  | none=>rw [hel] at h4; simp at h4
  | some e =>
  rw [hel] at h4
  simp only [beq_iff_eq] at h4
  have ha:=hv a y h1
  have hx:execOp ρ o=(do let x ← Instr.sliceAt t (ρ a) (plo.map ρ) (phi.map ρ) none; pure (.value x)):=by unfold execOp; rw [hop]; rfl
  simp only [ex] at he
  generalize v y=vy at ha he
  generalize hqa:ρ a=qa at ha
  split at he
  case h_2=>cases he
  rename_i k' es kk lo' hlo
  split at he
  case h_2=>cases he
  rename_i kk' hi' hhi
  split at he
  case isFalse=>cases he
  rename_i hk; subst hk
  simp only [Option.some.injEq,Prod.mk.injEq] at he
  obtain ⟨rfl,rfl,rfl⟩:=he
  obtain ⟨g0,g1,g2⟩:=hS
  have plo':(plo.map ρ=none∧lo'.toNat=0)∨∃ k,plo.map ρ=some (.int k lo'.toNat):=by
    cases plo with
    | none =>
      cases lo with
      | none=>simp at hlo; exact .inl ⟨rfl,by rw [← hlo.2]; rfl⟩
      | some l=>simp [optO] at h2
    | some p =>
      cases lo with
      | none=>simp [optO] at h2
      | some l =>
        have:=hv p l (by simpa [optO] using h2)
        simp at hlo
        rw [hlo] at this
        exact .inr ⟨kk,by simp [this.inv_v]; omega⟩
  cases ha with
  | slnil =>
    simp at g2
    have e1:hi'=0:=by omega
    have e2:lo'=0:=by omega
    subst e1; subst e2
    have phi':(phi.map ρ=none)∨∃ k,phi.map ρ=some (.int k 0):=by
      cases phi with
      | none=>exact .inl rfl
      | some p =>
        cases hi with
        | none=>simp [optO] at h3
        | some l =>
          have:=hv p l (by simpa [optO] using h3)
          simp at hhi
          rw [hhi] at this
          exact .inr ⟨kk',by simp [this.inv_v]⟩
    refine Zx (x:=.slice none 0 0) hs ?_ (by simpa using RV.slnil k')
    rw [hx,hqa]
    have hu:=el_parts hel
    obtain ⟨i,hi',rfl⟩:=sz_parts h4
    refine Zv _ _ _ ?_
    rcases plo' with ⟨e3,_⟩ | ⟨q,e3⟩ <;> rcases phi' with e4 | ⟨q',e4⟩ <;> rw [e3,e4] <;>
      simp [Instr.sliceAt,Instr.slice,run_underlying hu,Instr.sliceBounds,Instr.sliceBound,asIntOf,sizeOf,typeInfo,hi']
  | slemp _ qa qcap =>
    simp at g2
    have e1:hi'=0:=by omega
    have e2:lo'=0:=by omega
    subst e1; subst e2
    have phi':(phi.map ρ=none)∨∃ k,phi.map ρ=some (.int k 0):=by
      cases phi with
      | none=>exact .inl rfl
      | some p =>
        cases hi with
        | none=>simp [optO] at h3
        | some l =>
          have:=hv p l (by simpa [optO] using h3)
          simp at hhi
          rw [hhi] at this
          exact .inr ⟨kk',by simp [this.inv_v]⟩
    refine Zx (x:=.slice (some qa) 0 qcap) hs ?_ (by simpa using RV.slemp k' qa qcap)
    rw [hx,hqa]
    have hu:=el_parts hel
    obtain ⟨i,hi',rfl⟩:=sz_parts h4
    refine Zv _ _ _ ?_
    rcases plo' with ⟨e3,_⟩ | ⟨q,e3⟩ <;> rcases phi' with e4 | ⟨q',e4⟩ <;> rw [e3,e4] <;>
      simp [Instr.sliceAt,Instr.slice,run_underlying hu,Instr.sliceBounds,Instr.sliceBound,asIntOf,sizeOf,typeInfo,hi',Addr.add]
  | sl _ _ b off cap f hcap hk' hcell hX h1' hr =>
    have phi':(phi.map ρ=none∧hi'.toNat=es.length)∨∃ k,phi.map ρ=some (.int k hi'.toNat):=by
      cases phi with
      | none =>
        cases hi with
        | none=>simp at hhi; exact .inl ⟨rfl,by omega⟩
        | some l=>simp [optO] at h3
      | some p =>
        cases hi with
        | none=>simp [optO] at h3
        | some l =>
          have:=hv p l (by simpa [optO] using h3)
          simp at hhi
          rw [hhi] at this
          exact .inr ⟨kk',by simp [this.inv_v]; omega⟩
    have hrun:=run_slice_slice (P:=P) (w:=w) hel h4 (b:=b) (off:=off) (len:=es.length) (cap:=cap) _ _ _ _ plo' phi' (by omega) (by omega)
    have hlen:((es.take hi'.toNat).drop lo'.toNat).length=hi'.toNat - lo'.toNat:=by simp; omega
    by_cases hcl:cap=lo'.toNat
    · rw [if_pos hcl] at hrun
      refine Zx (x:=.slice (some ⟨b,off,none⟩) (hi'.toNat - lo'.toNat) (cap - lo'.toNat)) hs (by rw [hx,hqa]; exact Zv _ _ _ hrun) ?_
      have h0:hi'.toNat - lo'.toNat=0:=by omega
      have h00:(es.take hi'.toNat).drop lo'.toNat=[]:=List.length_eq_zero_iff.1 (by rw [hlen]; exact h0)
      rw [h00,h0]
      exact RV.sl k' [] b off (cap - lo'.toNat) (fun _ _=>undef) (Nat.zero_le _) (fun e he=>absurd he (Nat.not_lt_zero _)) (fun e he=>absurd he (Nat.not_lt_zero _)) (fun e _ he=>absurd he (Nat.not_lt_zero _))
        (fun e _ he=>absurd he (Nat.not_lt_zero _)) (fun e _ he=>absurd he (Nat.not_lt_zero _))
    · rw [if_neg hcl] at hrun
      refine Zx (x:=.slice (some ⟨b,off+lo'.toNat * k',none⟩) (hi'.toNat - lo'.toNat) (cap - lo'.toNat)) hs (by rw [hx,hqa]; exact Zv _ _ _ hrun) ?_
      rw [← hlen]
      refine .sl k' _ b _ _ (fun e j=>f (lo'.toNat+e) j) (by rw [hlen]; omega) (fun e he=>?_) (fun e he j hj=>?_) (fun e j he hj=>?_) (fun e j he hj=>?_) fun e j he hj=>?_
      all_goals rw [hlen] at he
      · rw [getD_drop_take _ _ _ _ _ he]; exact hk' _ (by omega)
      · have:=hcell (lo'.toNat+e) (by omega) j hj
        rw [Nat.add_mul] at this
        rw [show off+lo'.toNat * k'+e * k'+j=off+(lo'.toNat * k'+e * k')+j by omega]
        exact this
      · exact hX (lo'.toNat+e) j (by omega) hj
      · exact h1' (lo'.toNat+e) j (by omega) hj
      · rw [getD_drop_take _ _ _ _ _ he]; exact hr _ j (by omega) hj
def eqV:List (Option IntKind)→List Value→List Value→Option Bool
  | [],[],[]=>some true
  | some k::q,.int k1 a::r,.int k2 b::s=>if k1=k∧k2=k then (eqV q r s).map fun t=>(a == b) && t else none
  | none::q,.bool a::r,.bool b::s=>(eqV q r s).map fun t=>(a == b) && t
  | _,_,_=>none
theorem RL.tail {cs:List AV} {c:AV} {x:Value} {xs:List Value} {X:Nat→Prop} (h:RL w X β σ (c::cs) (x::xs)):RV w X β σ c x∧RL w X β σ cs xs:=by
  refine ⟨(h.2 0 (by simp)).2,by have:=h.1; simpa using this,fun i hi=>?_⟩
  have:=h.2 (i+1) (by simp; omega)
  simpa using this
theorem eqC_eqV {X:Nat→Prop}:∀ {ks:List (Option IntKind)} {cs ds:List AV} {xs ys:List Value} {r:Bool},eqC ks cs ds=some r→RL w X β σ cs xs→RL w X β σ ds ys→eqV ks xs ys=some r
  | ks,cs,ds,xs,ys,r,h,h1,h2=>by
    unfold eqC at h
    split at h
    · have e1:=h1.1; have e2:=h2.1
      simp at e1 e2; subst e1; subst e2
      simpa [eqV] using h
    · cases xs with
      | nil=>have:=h1.1; simp at this
      | cons x xs =>
      cases ys with
      | nil=>have:=h2.1; simp at this
      | cons y ys =>
      obtain ⟨g1,g2⟩:=h1.tail
      obtain ⟨g3,g4⟩:=h2.tail
      obtain rfl:=g1.inv_v
      obtain rfl:=g3.inv_v
      split at h
      case isFalse=>cases h
      rename_i hk
      obtain ⟨t,ht,rfl⟩:=Option.map_eq_some_iff.1 h
      simp only [eqV,if_pos hk,eqC_eqV ht g2 g4,Option.map_some]
    · cases xs with
      | nil=>have:=h1.1; simp at this
      | cons x xs =>
      cases ys with
      | nil=>have:=h2.1; simp at this
      | cons y ys =>
      obtain ⟨g1,g2⟩:=h1.tail
      obtain ⟨g3,g4⟩:=h2.tail
      obtain rfl:=g1.inv_v
      obtain rfl:=g3.inv_v
      obtain ⟨t,ht,rfl⟩:=Option.map_eq_some_iff.1 h
      simp only [eqV,eqC_eqV ht g2 g4,Option.map_some]
    · cases h
theorem eqV_len:∀ {ks:List (Option IntKind)} {xs ys:List Value} {r:Bool},eqV ks xs ys=some r→xs.length=ks.length∧ys.length=ks.length
  | ks,xs,ys,r,h=>by
    unfold eqV at h
    split at h
    · exact ⟨rfl,rfl⟩
    · split at h
      case isFalse=>cases h
      obtain ⟨t,ht,rfl⟩:=Option.map_eq_some_iff.1 h
      have:=eqV_len ht; simp [this.1,this.2]
    · obtain ⟨t,ht,rfl⟩:=Option.map_eq_some_iff.1 h
      have:=eqV_len ht; simp [this.1,this.2]
    · cases h
theorem eqV_split:∀ (k1:List (Option IntKind)) {k2:List (Option IntKind)} {xs ys:List Value} {r:Bool},eqV (k1++k2) xs ys=some r →
    ∃ a b,eqV k1 (xs.take k1.length) (ys.take k1.length)=some a∧eqV k2 (xs.drop k1.length) (ys.drop k1.length)=some b∧r=(a && b)
  | [],k2,xs,ys,r,h=>⟨true,r,rfl,by simpa using h,by simp⟩
  | q::k1,k2,xs,ys,r,h=>by
    rw [List.cons_append] at h
    unfold eqV at h
    split at h
    · rename_i hh; cases hh
    · rename_i hh; injection hh with h1 h2; subst h1; subst h2
      split at h
      case isFalse=>cases h
      rename_i hk
      obtain ⟨t,ht,rfl⟩:=Option.map_eq_some_iff.1 h
      obtain ⟨a,b,h1,h2,rfl⟩:=eqV_split k1 ht
      exact ⟨_,b,by simp [eqV,hk,h1]; rfl,by simpa using h2,by rw [Bool.and_assoc]⟩
    · rename_i hh; injection hh with h1 h2; subst h1; subst h2
      obtain ⟨t,ht,rfl⟩:=Option.map_eq_some_iff.1 h
      obtain ⟨a,b,h1,h2,rfl⟩:=eqV_split k1 ht
      exact ⟨_,b,by simp [eqV,h1]; rfl,by simpa using h2,by rw [Bool.and_assoc]⟩
    · cases h
theorem fold_none (P:Program) (d:Nat):∀ (fs:List Field),fs.foldl (fun (acc:Option (List (Option IntKind))) f=>acc.bind fun l=>if f.offset == l.length && f.name != "_" then (flatN P d f.type).map fun n=>l++n else none) none=none
  | []=>rfl
  | _::fs=>by
    simp only [List.foldl_cons,Option.bind_none]
    exact fold_none P d fs
theorem eqFields_run {d D : Nat} (ih : ∀ (t : Nat) (n : List (Option IntKind)) (xs ys : List Value) (r : Bool), flatN P d t = some n → eqV n xs ys = some r →
      (agF P t=some true→(Op.equalIn (D+d) t (.agg xs.toArray) (.agg ys.toArray)).run P w=.ok r w) ∧
      (agF P t=some false→∃ x y,xs=[x]∧ys=[y]∧(Op.equalIn (D+d) t x y).run P w=.ok r w)) :
    ∀ (fs:List Field) (l n:List (Option IntKind)) (xs ys:List Value) (r:Bool),
      fs.foldl (fun (acc:Option (List (Option IntKind))) f=>acc.bind fun l=>if f.offset == l.length && f.name != "_" then (flatN P d f.type).map fun n=>l++n else none) (some l)=some n →
      ∃ n',n=l++n'∧(eqV n' (xs.drop l.length) (ys.drop l.length)=some r→(Op.eqFields (D+d) xs.toArray ys.toArray fs).run P w=.ok r w)
  | [],l,n,xs,ys,r,h=>by
    simp at h; subst h
    refine ⟨[],by simp,fun h3=>?_⟩
    have:=eqV_len h3
    rw [List.length_eq_zero_iff.1 this.1,List.length_eq_zero_iff.1 this.2] at h3
    simp [eqV] at h3; subst h3
    simp [Op.eqFields]
  | f::fs,l,n,xs,ys,r,h=>by
    simp only [List.foldl_cons,Option.bind_some] at h
    split at h
    case isFalse=>rw [fold_none] at h; cases h
    rename_i hf
    simp only [Bool.and_eq_true,beq_iff_eq,bne_iff_ne] at hf
    obtain ⟨hoff,hname⟩:=hf
    cases hm:flatN P d f.type with
    | none=>rw [hm] at h; simp only [Option.map_none,fold_none] at h; cases h
    | some m =>
    rw [hm] at h
    simp only [Option.map_some] at h
    obtain ⟨n',hn',_⟩:=eqFields_run ih fs (l++m) n xs ys true h
    refine ⟨m++n',by rw [hn',List.append_assoc],fun h3=>?_⟩
    obtain ⟨a,b,e1,e2,rfl⟩:=eqV_split m h3
    rw [List.drop_drop,List.drop_drop] at e2
    obtain ⟨n'',hn'',h4⟩:=eqFields_run ih fs (l++m) n xs ys b h
    have:n''=n':=List.append_cancel_left (hn''.symm.trans hn')
    subst this
    rw [List.length_append] at h4
    have h4:=h4 e2
    obtain ⟨i1,i2⟩:=ih f.type m _ _ a hm e1
    have hag:agF P f.type=some true∨agF P f.type=some false:=by
      cases d with
      | zero=>simp [flatN] at hm
      | succ d =>
        unfold flatN at hm
        unfold agF
        split at hm <;> simp_all
    have hd:∃ dd,P.underlying f.type=some dd:=by
      rcases hag with h | h <;> (unfold agF at h; obtain ⟨dd,hd,_⟩:=Option.map_eq_some_iff.1 h; exact ⟨dd,hd⟩)
    obtain ⟨dd,hd⟩:=hd
    have hisa:∀ q,agF P f.type=some q→(isAgg f.type).run P w=.ok q w:=by
      intro q hq
      unfold agF at hq
      rw [hd] at hq
      simp only [isAgg,Sem.run_bind,run_underlying hd,Result.andThen_ok]
      cases dd <;> simp at hq <;> subst hq <;> rfl
    have hcont:∀ (u v:Value),(part f.type xs.toArray f.offset).run P w=.ok u w→(part f.type ys.toArray f.offset).run P w=.ok v w→(Op.equalIn (D+d) f.type u v).run P w=.ok a w →
        (Op.eqFields (D+d) xs.toArray ys.toArray (f::fs)).run P w=.ok (a && b) w:=by
      intro u v g1 g2 g3
      simp only [Op.eqFields,ne_eq,hname,not_false_eq_true,if_true,Sem.run_bind,g1,g2,g3,Result.andThen_ok]
      cases a
      · simp
      · simp [h4]
    rw [← hoff] at i1 i2
    rcases hag with h5 | h5
    · have hsz:szF P f.type=some m.length:=by
        cases d with
        | zero=>simp [flatN] at hm
        | succ d =>
          unfold flatN at hm
          unfold agF at h5
          rw [hd] at h5 hm
          cases dd <;> simp only [Option.map_some,Option.some.injEq,Bool.false_eq_true,reduceCtorEq] at h5 hm
          split at hm
          · cases hm
          · obtain ⟨q,_,hq⟩:=Option.bind_eq_some_iff.1 hm
            split at hq
            · rename_i hs; injection hq with hq; subst hq; exact eq_of_beq hs
            · cases hq
      obtain ⟨i,hi,hil⟩:=sz_parts hsz
      refine hcont (.agg (xs.drop f.offset |>.take m.length).toArray) (.agg (ys.drop f.offset |>.take m.length).toArray) ?_ ?_ (i1 h5)
      · simp only [part,Sem.run_bind,hisa _ h5,Result.andThen_ok,if_true,sizeOf,typeInfo,run_program,hi,Sem.run_pure,hil]
        congr 2; apply Array.ext'; simp [List.extract_eq_take_drop]
      · simp only [part,Sem.run_bind,hisa _ h5,Result.andThen_ok,if_true,sizeOf,typeInfo,run_program,hi,Sem.run_pure,hil]
        congr 2; apply Array.ext'; simp [List.extract_eq_take_drop]
    · obtain ⟨x,y,q1,q2,q3⟩:=i2 h5
      have hx:xs[f.offset]?=some x:=by
        have:((xs.drop f.offset).take m.length)[0]?=some x:=by rw [q1]; rfl
        rw [List.getElem?_take] at this
        split at this
        · simpa using this
        · cases this
      have hy:ys[f.offset]?=some y:=by
        have:((ys.drop f.offset).take m.length)[0]?=some y:=by rw [q2]; rfl
        rw [List.getElem?_take] at this
        split at this
        · simpa using this
        · cases this
      exact hcont x y (by simp [part,hisa _ h5,hx]) (by simp [part,hisa _ h5,hy]) q3
theorem flatN_run {D : Nat} : ∀ (d t : Nat) (n : List (Option IntKind)) (xs ys : List Value) (r : Bool), flatN P d t = some n → eqV n xs ys = some r →
      (agF P t=some true→(Op.equalIn (D+d) t (.agg xs.toArray) (.agg ys.toArray)).run P w=.ok r w) ∧
      (agF P t=some false→∃ x y,xs=[x]∧ys=[y]∧(Op.equalIn (D+d) t x y).run P w=.ok r w)
  | 0,t,n,xs,ys,r,h,_=>by simp [flatN] at h
  | d+1,t,n,xs,ys,r,h,h3=>by
    unfold flatN at h
    cases hu:P.underlying t with
    | none=>rw [hu] at h; simp at h
    | some dd =>
    rw [hu] at h
    obtain ⟨h1,h2⟩:=eqV_len h3
    cases dd <;> simp only [reduceCtorEq] at h <;> simp only [agF,hu,Option.map_some,Option.some.injEq,Bool.false_eq_true,reduceCtorEq,false_imp_iff,true_imp_iff,and_true,true_and]
    case bool =>
      injection h with h; subst h
      obtain ⟨x,rfl⟩:=List.length_eq_one_iff.1 h1
      obtain ⟨y,rfl⟩:=List.length_eq_one_iff.1 h2
      refine ⟨x,y,rfl,rfl,?_⟩
      unfold eqV at h3
      split at h3 <;> simp_all [eqV]
      subst h3; exact run_equalIn_bool' w _ t _ _ hu
    case int k =>
      injection h with h; subst h
      obtain ⟨x,rfl⟩:=List.length_eq_one_iff.1 h1
      obtain ⟨y,rfl⟩:=List.length_eq_one_iff.1 h2
      refine ⟨x,y,rfl,rfl,?_⟩
      unfold eqV at h3
      split at h3 <;> simp_all [eqV]
      obtain ⟨⟨rfl,rfl⟩,rfl⟩:=h3
      exact run_equalIn_int w _ t _ _ _ _ hu
    case struct fs =>
      split at h
      · cases h
      · rename_i hst
        obtain ⟨q,hq,hq'⟩:=Option.bind_eq_some_iff.1 h
        split at hq'
        case isFalse=>cases hq'
        injection hq' with hq'; subst hq'
        have hfs:P.fieldsOf t=fs:=by simp [Program.fieldsOf,hu]
        obtain ⟨n',hn',this⟩:=eqFields_run (w:=w) (d:=d) (D:=D) (fun t n xs ys r=>flatN_run d t n xs ys r) fs.toList [] q xs ys r hq
        simp at hn'; subst hn'
        rw [show D+(d+1)=(D+d)+1 by omega,run_equalIn_agg w _ t _ _ (by rw [hfs]; exact hu) (by simpa using hst),hfs]
        exact this (by simpa using h3)
theorem ex_eqs {S:Prop} {r:AV} {σ':Sto} {neg:Bool} {ks:List (Option IntKind)} {y z:O} (hc:chkI P o.op (.eqs neg ks y z)=true) (hs:SRel w X β σ)
    (hv:∀ x u,chkO x u=true→RV w (Xt X β σ) β σ (v u) (ρ x)) (he:ex (.eqs neg ks y z) v σ=some (S,r,σ')):Done P o ρ w X β σ r σ':=by
  cases hop:o.op <;> rw [hop] at hc <;> try (simp [chkI] at hc; done)
  rename_i op' t a b t'
  simp only [chkI,Bool.and_eq_true,beq_iff_eq,Bool.not_eq_true'] at hc
  obtain ⟨⟨⟨⟨⟨rfl,h1⟩,h2⟩,h3⟩,h4⟩,h5⟩:=hc
  have ha:=hv a y h1
  have hb:=hv b z h2
  simp only [ex] at he
  generalize v y=vy at ha he
  generalize v z=vz at hb he
  generalize hqa:ρ a=qa at ha
  generalize hqb:ρ b=qb at hb
  split at he
  case h_2=>cases he
  split at he
  case h_2=>cases he
  rename_i cs ds r' hr'
  simp only [Option.some.injEq,Prod.mk.injEq] at he
  obtain ⟨_,rfl,rfl⟩:=he
  obtain ⟨xs,rfl,_⟩:=ha.inv_agg
  obtain ⟨ys,rfl,_⟩:=hb.inv_agg
  have hag:agF P t=some true:=by unfold agF; revert h3; split <;> simp_all
  have hrun:=(flatN_run (w:=w) (D:=9996) 4 t ks xs.toList ys.toList r' h4 (eqC_eqV hr' (RL.of_agg ha) (RL.of_agg hb))).1 hag
  simp only [Array.toArray_toList] at hrun
  refine Zx hs ?_ (.v _)
  unfold execOp; rw [hop]
  simp only [hqa,hqb]
  refine Zv _ _ _ ?_
  cases neg
  · simp only [Bool.false_eq_true,if_false,Sem.run_bind,run_eqGuard_agg w _ t a b xs ys h5,Result.andThen_ok,run_eql_struct]
    rw [show (10000:Nat)=9996+4 from rfl,hrun]; rfl
  · simp only [if_true,Sem.run_bind,run_eqGuard_agg w _ t a b xs ys h5,Result.andThen_ok,run_neq_struct]
    rw [show (10000:Nat)=9996+4 from rfl,hrun]; rfl
end
section
variable {P:Program} {o:Oper} {ρ:Operand→Value} {w w':World} {X:Nat→Prop} {β:Blk} {σ:Sto} {v:O→AV}
theorem intsA_rel {X:Nat→Prop}:∀ {cs:List AV} {ks:List Int} {xs:List Value},intsA cs=some ks→RL w X β σ cs xs→xs=ks.map fun a=>Value.int .i64 a
  | [],ks,xs,h,r=>by
    simp only [intsA,Option.some.injEq] at h; subst h
    exact List.length_eq_zero_iff.1 r.1
  | c::cs,ks,[],h,r=>by cases r.1
  | c::cs,ks,x::xs,h,r=>by
    obtain ⟨h1,h2⟩:=r.tail
    unfold intsA at h
    split at h
    · rename_i h'; cases h'
    · rename_i a r' h'
      injection h' with e1 e2; subst e1; subst e2
      obtain ⟨l,hl,rfl⟩:=Option.map_eq_some_iff.1 h
      rw [intsA_rel hl h2,h1.inv_v]; rfl
    · cases h
theorem intsA_len:∀ {cs:List AV} {ks:List Int},intsA cs=some ks→ks.length=cs.length
  | [],ks,h=>by simp only [intsA,Option.some.injEq] at h; subst h; rfl
  | c::cs,ks,h=>by
    unfold intsA at h
    split at h
    · rename_i h'; cases h'
    · rename_i a r' h'
      injection h' with e1 e2; subst e1; subst e2
      obtain ⟨l,hl,rfl⟩:=Option.map_eq_some_iff.1 h
      simp [intsA_len hl]
    · cases h
theorem keyVal_agg {ks:List Int} (h:ks.length≠1):keyVal ks=.agg (ks.map fun a=>Value.int .i64 a).toArray:=by
  unfold keyVal
  split
  · exact absurd rfl h
  · rfl
theorem keyA_rel {X:Nat→Prop} {a:AV} {ks:List Int} {x:Value} (h:keyA a=some ks) (r:RV w X β σ a x):x=keyVal ks:=by
  unfold keyA at h
  split at h
  · injection h with h; subst h; exact r.inv_v
  · split at h
    · cases h
    · rename_i cs hl
      obtain ⟨xs,rfl,h1,h2,h3⟩:=r.inv_agg
      have hr:RL w X β σ cs xs.toList:=RL.of_agg (.agg cs xs h1 h2 h3)
      rw [keyVal_agg (by rw [intsA_len h]; exact hl),← intsA_rel h hr]
  · cases h
theorem chkM_parts {t n:Nat} (h:chkM P t n=true):∃ k e,P.underlying t=some (.map k e) ∧
    ((P.underlying k=some (.int .i64)∧n=1)∨∃ fs,P.underlying k=some (.struct fs)∧n≠1∧flatN P 4 k=some (List.replicate n (some .i64)) ∧
      ∀ f∈fs.toList,f.name ≠ "_" ∧ P.underlying f.type=some (.int .i64)∧f.offset < n):=by
  unfold chkM at h
  split at h
  case h_2=>cases h
  rename_i k e hu
  refine ⟨k,e,hu,?_⟩
  split at h
  · exact .inl ⟨by assumption,by simpa using h⟩
  · rename_i fs hk
    simp only [Bool.and_eq_true,bne_iff_ne,beq_iff_eq,List.all_eq_true] at h
    refine .inr ⟨fs,hk,h.1.1,h.1.2,fun f hf=>?_⟩
    have:=h.2 f hf
    obtain ⟨h1,h2⟩:=this
    split at h2
    · exact ⟨h1,by assumption,by simpa using h2⟩
    · cases h2
  · cases h
theorem eqV_ints:∀ (a b:List Int),a.length=b.length→eqV (List.replicate a.length (some .i64)) (a.map fun a=>Value.int .i64 a) (b.map fun a=>Value.int .i64 a)=some (decide (a=b))
  | [],[],_=>by simp [eqV]
  | [],_::_,h=>by cases h
  | _::_,[],h=>by cases h
  | a::r,b::s,h=>by
    simp only [List.length_cons,Nat.add_right_cancel_iff] at h
    simp only [List.length_cons,List.replicate_succ,List.map_cons,eqV,and_self,if_true,eqV_ints r s h,Option.map_some,Option.some.injEq,List.cons.injEq]
    by_cases e1:a=b <;> by_cases e2:r=s <;> simp [e1,e2]
theorem run_checkM {t n k e:Nat} {ks:List Int} {em:Bool} (hc:chkM P t n=true) (hu:P.underlying t=some (.map k e)) (hl:ks.length=n):(Instr.checkKey em 10000 k (keyVal ks)).run P w=.ok () w:=by
  obtain ⟨k',e',hu',hk⟩:=chkM_parts hc
  rw [hu] at hu'; injection hu' with hu'; injection hu' with h1 h2; subst h1; subst h2
  rcases hk with ⟨hk,rfl⟩ | ⟨fs,hk,hn,hf,hall⟩
  · obtain ⟨a,rfl⟩:=List.length_eq_one_iff.1 hl
    rw [show (10000:Nat)=9999+1 from rfl,Instr.checkKey]
    simp [keyVal,run_underlying hk]
  · rw [keyVal_agg (by omega),show (10000:Nat)=9999+1 from rfl,Instr.checkKey]
    simp only [Sem.run_bind,run_underlying hk,Result.andThen_ok]
    rw [← Array.forIn_toList]
    generalize fs.toList=L at hall
    induction L with
    | nil=>simp
    | cons f L ih =>
      obtain ⟨h1,h2,h3⟩:=hall f (by simp)
      have hag:(isAgg f.type).run P w=.ok false w:=by simp [isAgg,run_underlying h2]
      have hp:(part f.type (ks.map fun a=>Value.int .i64 a).toArray f.offset).run P w=.ok (.int .i64 (ks.getD f.offset 0)) w:=by
        have hlt:f.offset < ks.length:=by omega
        simp [part,hag,hlt,List.getD_eq_getElem?_getD]
      have hq:(Instr.checkKey em 9999 f.type (.int .i64 (ks.getD f.offset 0))).run P w=.ok () w:=by
        rw [show (9999:Nat)=9998+1 from rfl,Instr.checkKey]
        simp [run_underlying h2]
      simp only [List.forIn_cons,Sem.run_bind,h1,ne_eq,not_false_eq_true,if_true,Result.andThen_ok,hp,hq,Sem.run_pure]
      exact ih (fun y hy=>hall y (by simp [hy]))
theorem run_keyEq {t n k e:Nat} {a b:List Int} (hc:chkM P t n=true) (hu:P.underlying t=some (.map k e)) (ha:a.length=n) (hb:b.length=n) :
    (Op.equal k (keyVal a) (keyVal b)).run P w=.ok (decide (a=b)) w:=by
  obtain ⟨k',e',hu',hk⟩:=chkM_parts hc
  rw [hu] at hu'; injection hu' with hu'; injection hu' with h1 h2; subst h1; subst h2
  rcases hk with ⟨hk,rfl⟩ | ⟨fs,hk,hn,hf,hall⟩
  · obtain ⟨x,rfl⟩:=List.length_eq_one_iff.1 ha
    obtain ⟨y,rfl⟩:=List.length_eq_one_iff.1 hb
    have:=run_equalIn_int (P:=P) w 9999 k .i64 .i64 x y hk
    simp only [keyVal,Op.equal,Op.maxDepth,List.cons.injEq,and_true]
    rw [show (10000:Nat)=9999+1 from rfl,this]
    congr 1
  · rw [keyVal_agg (by omega),keyVal_agg (by omega)]
    have hag:agF P k=some true:=by simp [agF,hk]
    have h3:=eqV_ints a b (by omega)
    rw [ha] at h3
    exact (flatN_run (w:=w) (D:=9996) 4 k _ _ _ _ hf h3).1 hag
theorem mset_new {X:Nat→Prop} {n:Nat} {ks:List Int} {a:AV} {x:Value} {c:Nat} (hl:ks.length=n) (hx:RV w X β σ a x) :
    ∀ {m:List (List Int × AV)} {es:List MapEntry},MpRel w X β σ n m es→mget m ks=none→MpRel w X β σ n (mset m ks a) (es++[⟨keyVal ks,x,c⟩])
  | [],[],_,_=>⟨hl,rfl,hx,trivial⟩
  | [],_::_,h,_=>h.elim
  | _::_,[],h,_=>h.elim
  | y::m,e::es,h,hg=>by
    unfold mget at hg
    split at hg
    · cases hg
    · rename_i hk
      simp only [mset,hk,if_false]
      exact ⟨h.1,h.2.1,h.2.2.1,mset_new hl hx h.2.2.2 hg⟩
theorem run_findAskingM {t n k e:Nat} {ks:List Int} (hc:chkM P t n=true) (hu:P.underlying t=some (.map k e)) (hl:ks.length=n) {X:Nat→Prop} :
    ∀ (m:List (List Int × AV)) (es:List MapEntry) (i:Nat),MpRel w X β σ n m es →
      ((Instr.findAsking k (keyVal ks) es i).run P w=.ok none w∧mget m ks=none∧midx m ks=m.length) ∨
      ∃ j y a,(Instr.findAsking k (keyVal ks) es i).run P w=.ok (some (i+j,y.val)) w∧es[j]?=some y∧y.key=keyVal ks∧mget m ks=some a∧RV w X β σ a y.val ∧
        (∀ b x,RV w X β σ b x→MpRel w X β σ n (mset m ks b) (es.modify j fun e=>{ e with key:=keyVal ks,val:=x }))∧midx m ks=j
  | [],[],i,_=>.inl ⟨by simp [Instr.findAsking],rfl,rfl⟩
  | [],_::_,_,h=>h.elim
  | _::_,[],_,h=>h.elim
  | x::m,y::es,i,h=>by
    obtain ⟨h1,h2,h3,h4⟩:=h
    have he:=run_keyEq (w:=w) hc hu hl h1
    by_cases hk:x.1=ks
    · refine .inr ⟨0,y,x.2,?_,rfl,by rw [h2,hk],by simp [mget,hk],h3,fun b z hz=>?_,by simp [midx,hk]⟩
      rotate_left
      · simp only [mset,hk,if_true,List.modify_zero_cons]
        exact ⟨hl,rfl,hz,h4⟩
      simp only [Instr.findAsking,Sem.run_bind,h2,he,Result.andThen_ok]
      simp [hk]
    · have hd:decide (ks=x.1)=false:=by simpa using fun e=>hk e.symm
      rw [hd] at he
      have hm:mget (x::m) ks=mget m ks:=by simp [mget,hk]
      have hr:(Instr.findAsking k (keyVal ks) (y::es) i).run P w=(Instr.findAsking k (keyVal ks) es (i+1)).run P w:=by
        simp only [Instr.findAsking,Sem.run_bind,h2,he,Result.andThen_ok]
        simp
      rw [hr,hm]
      rcases run_findAskingM hc hu hl m es (i+1) h4 with ⟨g,g',g''⟩ | ⟨j,y',a,g1,g2,g3,g4,g5,g6,g7⟩
      · exact .inl ⟨g,g',by simp [midx,hk,g'']⟩
      · refine .inr ⟨j+1,y',a,by rw [g1,show i+1+j=i+(j+1) by omega],by simpa using g2,g3,g4,g5,fun b z hz=>?_,by simp [midx,hk,g7]⟩
        simp only [mset,hk,if_false,List.modify_succ_cons]
        exact ⟨h1,h2,h3,g6 b z hz⟩
theorem findNowM {ks:List Int} {X:Nat→Prop} {k:IntKind} (hl:ks.length=1):∀ (m:List (List Int × AV)) (es:List MapEntry) (i:Nat),MpRel w X β σ 1 m es →
    (Instr.findNow (.int k) (keyVal ks) es i=some none∧mget m ks=none∧midx m ks=m.length) ∨
      ∃ j y a,Instr.findNow (.int k) (keyVal ks) es i=some (some (i+j,y.val))∧es[j]?=some y∧y.key=keyVal ks∧mget m ks=some a∧RV w X β σ a y.val ∧
        (∀ b x,RV w X β σ b x→MpRel w X β σ 1 (mset m ks b) (es.modify j fun e=>{ e with key:=keyVal ks,val:=x }))∧midx m ks=j
  | [],[],i,_=>.inl ⟨rfl,rfl,rfl⟩
  | [],_::_,_,h=>h.elim
  | _::_,[],_,h=>h.elim
  | x::m,y::es,i,h=>by
    obtain ⟨h1,h2,h3,h4⟩:=h
    obtain ⟨xa,xv⟩:=x
    obtain ⟨a,rfl⟩:=List.length_eq_one_iff.1 hl
    obtain ⟨b0,rfl⟩:=List.length_eq_one_iff.1 h1
    have e2:y.key=.int .i64 b0:=h2
    by_cases hk:b0=a
    · subst hk
      refine .inr ⟨0,y,xv,?_,rfl,h2,by simp [mget],h3,fun b z hz=>?_,by simp [midx]⟩
      rotate_left
      · simp only [mset,if_true,List.modify_zero_cons]
        exact ⟨rfl,rfl,hz,h4⟩
      simp [Instr.findNow,Instr.sameNow,keyVal,e2]
    · have hk':¬ a=b0:=fun e=>hk e.symm
      have hm:mget (([b0],xv)::m) [a]=mget m [a]:=by simp [mget,hk]
      have hr:Instr.findNow (.int k) (keyVal [a]) (y::es) i=Instr.findNow (.int k) (keyVal [a]) es (i+1):=by
        have:(a == b0)=false:=by simpa using hk'
        simp [Instr.findNow,Instr.sameNow,keyVal,e2,this]
      rw [hr,hm]
      rcases findNowM hl m es (i+1) h4 with ⟨g,g',g''⟩ | ⟨j,y',c,g1,g2,g3,g4,g5,g6,g7⟩
      · exact .inl ⟨g,g',by simp [midx,hk,g'']⟩
      · refine .inr ⟨j+1,y',c,by rw [g1,show i+1+j=i+(j+1) by omega],by simpa using g2,g3,g4,g5,fun b z hz=>?_,by simp [midx,hk,g7]⟩
        have hk2:¬ [b0]=[a]:=by simpa using hk
        simp only [mset,hk2,if_false,List.modify_succ_cons]
        exact ⟨rfl,h2,h3,g6 b z hz⟩
theorem run_findM {t n k e : Nat} {ks : List Int} (hc : chkM P t n = true) (hu : P.underlying t = some (.map k e)) (hl : ks.length = n) {X : Nat → Prop} (m : List (List Int × AV)) (es : List MapEntry) (h : MpRel w X β σ n m es) :
      ((Instr.findKey k (keyVal ks) es).run P w=.ok none w∧mget m ks=none∧midx m ks=m.length) ∨
      ∃ j y a,(Instr.findKey k (keyVal ks) es).run P w=.ok (some (j,y.val)) w∧es[j]?=some y∧y.key=keyVal ks∧mget m ks=some a∧RV w X β σ a y.val ∧
        (∀ b x,RV w X β σ b x→MpRel w X β σ n (mset m ks b) (es.modify j fun e=>{ e with key:=keyVal ks,val:=x }))∧midx m ks=j:=by
  obtain ⟨k',e',hu',hk⟩:=chkM_parts hc
  rw [hu] at hu'; injection hu' with hu'; injection hu' with h1 h2; subst h1; subst h2
  rcases hk with ⟨hk,rfl⟩ | ⟨fs,hk,hn,hf,hall⟩
  · rcases findNowM (w:=w) (β:=β) (σ:=σ) (k:=.i64) hl m es 0 h with ⟨g1,g2⟩ | ⟨j,y,a,g1,g2⟩
    · exact .inl ⟨by simp [Instr.findKey,run_underlying hk,g1],g2⟩
    · exact .inr ⟨j,y,a,by simp [Instr.findKey,run_underlying hk,g1],g2⟩
  · have e1:(Instr.findKey k (keyVal ks) es).run P w=(Instr.findAsking k (keyVal ks) es 0).run P w:=by
      simp only [Instr.findKey,Sem.run_bind,run_underlying hk,Result.andThen_ok]
      cases es with
      | nil=>simp [Instr.findNow,Instr.findAsking]
      | cons y es =>
        have:Instr.sameNow (.struct fs) (keyVal ks) y.key=none:=by unfold Instr.sameNow; split <;> simp_all
        simp [Instr.findNow,this]
    rw [e1]
    rcases run_findAskingM hc hu hl m es 0 h with g | ⟨j,y,a,g1,g2⟩
    · exact .inl g
    · exact .inr ⟨j,y,a,by rw [g1,Nat.zero_add],g2⟩
theorem sameBits_key {ks:List Int}:Instr.sameBits 10000 (keyVal ks) (keyVal ks)=true:=by
  by_cases h1:ks.length=1
  · obtain ⟨x,rfl⟩:=List.length_eq_one_iff.1 h1
    simp [keyVal,Instr.sameBits]
  · rw [keyVal_agg h1,show (10000:Nat)=9999+1 from rfl]
    simp only [Instr.sameBits,beq_self_eq_true,Bool.true_and,List.all_eq_true,List.toList_toArray]
    intro p hp
    obtain ⟨q,hq⟩:=List.getElem?_of_mem hp
    rw [List.getElem?_zip_eq_some] at hq
    obtain ⟨a1,a2⟩:=hq
    obtain ⟨i,hi,hi'⟩:=List.mem_map.1 (List.mem_of_getElem? a1)
    rw [a1] at a2; injection a2 with a2
    obtain ⟨p1,p2⟩:=p
    simp only at a2 hi' ⊢
    subst a2; subst hi'
    simp [Instr.sameBits]
theorem ex_mkmp {S:Prop} {r:AV} {σ':Sto} {n:Nat} (hc:chkI P o.op (.mkmp n)=true) (hs:SRel w X β σ) (hX:∀ b,X b→b < w.heap.size)
    (he:ex (.mkmp n) v σ=some (S,r,σ')):Done P o ρ w X β σ r σ':=by
  cases hop:o.op <;> rw [hop] at hc <;> try (simp [chkI] at hc; done)
  rename_i t rs
  cases rs <;> try (simp [chkI] at hc; done)
  simp only [ex,Option.some.injEq,Prod.mk.injEq] at he
  obtain ⟨_,rfl,rfl⟩:=he
  have hx:execOp ρ o=(do let x ← Instr.makeMap t none; pure (.value x)):=by unfold execOp; rw [hop]; rfl
  have hbo:∀ b,some w.heap.size=some b→b=w.heap.size:=fun b hb=>by injection hb with hb; exact hb.symm
  have hh:(w.alloc (.map #[] 0)).heap=w.heap.push (.map #[] 0):=rfl
  have h1:w.heap.size≤(w.alloc (.map #[] 0)).heap.size:=by rw [hh]; simp
  have h2:∀ b,b < w.heap.size→(w.alloc (.map #[] 0)).heap[b]?=w.heap[b]?:=(MapKept.heap_alloc w (.map #[] 0)).2
  have K:=Kp.push (o:=⟨0,0,[],some (.mp n [])⟩) (bo:=some w.heap.size) hs h1 h2 hbo
  refine ⟨_,.map (some w.heap.size),w.alloc (.map #[] 0),addB β σ.length (some w.heap.size),?_,.inl rfl,
    hs.push hX h1 h2 hbo ⟨fun e he=>absurd he (Nat.not_lt_zero _),fun h=>(by cases h),fun r hr=>?_⟩,K,Ext.push h1 h2 hbo ⟨rfl,rfl,rfl,(by first | exact Nat.le_refl _ | exact Nat.le_succ _)⟩,?_⟩
  · rw [hx]
    refine Zv _ _ _ ?_
    simp [Instr.makeMap,run_newObj_alloc]
  · injection hr with hr; subst hr
    exact ⟨rfl,#[],0,(MapKept.heap_alloc w (.map #[] 0)).1,trivial,rfl,fun i e h=>by simp at h⟩
  · exact .mp _ _ rfl (by simp) fun ob _ _=>⟨_,addB_new,rfl⟩
theorem mpOf_some {ob:Ob} {n:Nat} {es:List (List Int × AV)} (h:mpOf ob n=some es):ob.lp=some (.mp n es):=by
  unfold mpOf at h
  split at h
  · rename_i n' es' hl
    split at h
    · rename_i hn; injection h with h; subst h; subst hn; exact hl
    · cases h
  · cases h
theorem mp_blockB (hs:SRel w X β σ) {f n:Nat} {ob:Ob} {m:List (List Int × AV)} {x:Value} (hat:σ.at f 0=some ob) (hm:mpOf ob n=some m) (hx:RV w (Xt X β σ) β σ (.mp f) x) :
    ∃ b es clock,β f 0=some b∧x=.map (some b)∧ob.es=[]∧w.heap[b]?=some (.map es clock)∧MpRel w (Xt X β σ) β σ n m es.toList∧Borns es clock:=by
  have hl:=mpOf_some hm
  have hob:=hs.obj f 0 ob hat
  cases hx with
  | mp _ _ h1 hf h =>
    cases hβ:β f 0 with
    | none =>
      have h2:=hob.2
      rw [hβ] at h2
      rw [h2.2] at hl; cases hl
    | some b =>
      have h2:=hob.2
      rw [hβ] at h2
      obtain ⟨he,es,cl,hb,hr,hbn⟩:=h2.2 _ hl
      obtain ⟨l,hl',rfl⟩:=h ob hat (by rw [he]; rfl)
      rw [hβ] at hl'; injection hl' with hl'; subst hl'
      exact ⟨b,es,cl,rfl,rfl,he,hb,hr,hbn⟩
theorem mp_block (hs:SRel w X β σ) {f n:Nat} {ob:Ob} {m:List (List Int × AV)} {x:Value} (hat:σ.at f 0=some ob) (hm:mpOf ob n=some m) (hx:RV w (Xt X β σ) β σ (.mp f) x) :
    ∃ b es clock,β f 0=some b∧x=.map (some b)∧ob.es=[]∧w.heap[b]?=some (.map es clock)∧MpRel w (Xt X β σ) β σ n m es.toList:=by
  obtain ⟨b,es,cl,h1,h2,h3,h4,h5,_⟩:=mp_blockB hs hat hm hx
  exact ⟨b,es,cl,h1,h2,h3,h4,h5⟩
theorem Borns.push {es:Array MapEntry} {cl:Nat} (h:Borns es cl) (k x:Value):Borns (es.push ⟨k,x,cl⟩) (cl+1):=by
  obtain ⟨h1,h2⟩:=h
  refine ⟨by simp [h1],fun i e he=>?_⟩
  rw [Array.getElem?_push] at he
  split at he
  · rename_i hi; injection he with he; subst he; rw [h1,hi]
  · exact h2 i e he
theorem Borns.modify {es:Array MapEntry} {cl:Nat} (h:Borns es cl) (j:Nat) (g:MapEntry→MapEntry) (hg:∀ e,(g e).born=e.born):Borns (es.modify j g) cl:=by
  obtain ⟨h1,h2⟩:=h
  refine ⟨by simp [h1],fun i e he=>?_⟩
  rw [Array.getElem?_modify] at he
  split at he
  · obtain ⟨e',he',rfl⟩:=Option.map_eq_some_iff.1 he
    rw [hg]; exact h2 i e' he'
  · exact h2 i e he
theorem mputAt_mset:∀ {m:List (List Int × AV)} {ks:List Int} {a b:AV},mputAt (mset m ks a) (midx m ks) b=mset m ks b
  | [],_,_,_=>rfl
  | x::r,ks,a,b=>by
    unfold mset midx
    by_cases hk:x.1=ks
    · simp [hk,mputAt]
    · simp only [hk,if_false,mputAt,mputAt_mset]
theorem mset_len {m:List (List Int × AV)} {ks:List Int} {a:AV}:midx m ks < (mset m ks a).length:=by
  induction m with
  | nil=>simp [mset,midx]
  | cons x r ih =>
    unfold mset midx
    by_cases hk:x.1=ks
    · simp [hk]
    · simp only [hk,if_false,List.length_cons]; omega
theorem mputAt_rel {X:Nat→Prop} {n:Nat} {a:AV} {x:Value} (hx:RV w X β σ a x):∀ {m:List (List Int × AV)} {es:List MapEntry} {i:Nat},MpRel w X β σ n m es→MpRel w X β σ n (mputAt m i a) (es.modify i fun e=>{ e with val:=x })
  | [],[],i,_=>by simp [mputAt,MpRel]
  | [],_::_,_,h=>h.elim
  | _::_,[],_,h=>h.elim
  | y::m,e::es,0,h=>by
    simp only [mputAt,List.modify_zero_cons]
    exact ⟨h.1,h.2.1,hx,h.2.2.2⟩
  | y::m,e::es,i+1,h=>by
    simp only [mputAt,List.modify_succ_cons]
    exact ⟨h.1,h.2.1,h.2.2.1,mputAt_rel hx h.2.2.2⟩
theorem MpRel.len {X:Nat→Prop} {n:Nat}:∀ {m:List (List Int × AV)} {es:List MapEntry},MpRel w X β σ n m es→es.length=m.length
  | [],[],_=>rfl
  | [],_::_,h=>h.elim
  | _::_,[],h=>h.elim
  | _::m,_::es,h=>by simp [MpRel.len h.2.2.2]
theorem map_turn {n:Nat} {m':List (List Int × AV)} {f:Nat} {ob:Ob} {bl:Nat} {mes es':Array MapEntry} {clock cl':Nat} {nx:Next} {r:AV} {x:Value} (hs:SRel w X β σ) (hX:∀ b,X b→b < w.heap.size) (hat:σ.at f 0=some ob) (hβ:β f 0=some bl)
    (hnil:ob.es=[]) (hbl:w.heap[bl]?=some (.map mes clock)) (hrel':MpRel w (Xt X β σ) β σ n m' es'.toList) (hbn:Borns es' cl')
    (hrun:(execOp ρ o).run P w=.ok nx (w.putObj bl (.map es' cl'))) (hnx:nx=.value x∨nx=.skip∧x=undef) (hr:RV w (Xt X β σ) β σ r x) :
    Done P o ρ w X β σ r (σ.upd f 0 { ob with lp:=some (.mp n m') }):=by
  have hp1:(w.putObj bl (.map es' cl')).heap[bl]?=some (.map es' cl'):=(MapKept.heap_set hbl).1
  have hp2:∀ b',b'≠bl→(w.putObj bl (.map es' cl')).heap[b']?=w.heap[b']?:=(MapKept.heap_set hbl).2
  have hp3:(w.putObj bl (.map es' cl')).heap.size=w.heap.size:=by simp [World.putObj]
  have ht:Turn w β f 0 (some bl) (w.putObj bl (.map es' cl')):=⟨by rw [hp3]; exact Nat.le_refl _,fun b' hb' hne=>hp2 _ fun e=>hne (by rw [hβ,e]),fun b' hb'=>.inl (by rw [hβ]; exact hb'),rfl,rfl,rfl,(by first | exact Nat.le_refl _ | exact Nat.le_succ _)⟩
  have hsame:ob.es.length=({ ob with lp:=some (.mp n m') }:Ob).es.length→some bl=β f 0∧∀ b',β f 0=some b'→SameSize w (w.putObj bl (.map es' cl')) b':=fun _ =>
    ⟨hβ.symm,fun b' hb' c T hc=>by rw [hβ] at hb'; injection hb' with hb'; subst hb'; rw [hbl] at hc; cases hc⟩
  have K:=Kp.turn (o':={ ob with lp:=some (.mp n m') }) hs hat ht rfl (Nat.le_refl _) hsame
  refine ⟨nx,x,w.putObj bl (.map es' cl'),_,hrun,hnx,hs.turn hX hat ht rfl (Nat.le_refl _) hsame ⟨fun e he=>?_,fun h=>(by cases h),fun r hr=>?_⟩,K,Ext.turn hat ht,hr.tr K⟩
  · simp only [hnil,List.length_nil] at he; exact absurd he (Nat.not_lt_zero _)
  · injection hr with hr; subst hr
    exact ⟨hnil,es',cl',hp1,hrel'.tr K,hbn⟩
theorem RV.of_vs {X:Nat→Prop} {xs:Array Value} (h:∀ x∈xs.toList,scalar x=true):RV w X β σ (ofVs true xs.toList) (.agg xs):=by
  have:=(RL.vs (w:=w) (X:=X) (β:=β) (σ:=σ) xs.toList h).agg
  simpa [ofVs] using this
theorem ofVs_rel {e:Nat} {ag:Bool} {z:List Value} {X:Nat→Prop} (h:chkZ P e ag z=true):∃ x,(zeroValue e).run P w=.ok x w∧RV w X β σ (ofVs ag z) x:=by
  unfold chkZ at h
  cases hi:P.info? e with
  | none=>rw [hi] at h; simp at h
  | some i =>
    rw [hi,Option.bind_some] at h
    cases hz:i.zero with
    | none=>rw [hz] at h; simp at h
    | some z0 =>
      rw [hz] at h
      refine ⟨z0,by simp [zeroValue,typeInfo,hi,hz],?_⟩
      split at h
      · rename_i xs _ hxs
        injection hxs with hxs; subst hxs
        simp only [Bool.and_eq_true] at h
        obtain ⟨rfl,h⟩:=h
        obtain ⟨rfl,hsc⟩:=beqVs_eq h
        exact RV.of_vs hsc
      · rename_i x y _ hxs
        injection hxs with hxs; subst hxs
        simp only [Bool.and_eq_true,Bool.not_eq_true'] at h
        obtain ⟨rfl,h⟩:=h
        obtain ⟨rfl,_⟩:=beqV_eq h
        exact .v _
      · cases h
theorem tup2 {X:Nat→Prop} {a b:AV} {x y:Value} (h1:RV w X β σ a x) (h2:RV w X β σ b y):RV w X β σ (.tup [a,b]) (.tuple #[x,y]):=by
  refine .tup [a,b] #[x,y] rfl fun i hi=>?_
  match i,hi with
  | 0,_=>exact h1
  | 1,_=>exact h2
theorem mprel_of {X:Nat→Prop} {n:Nat}:∀ {es:List (List Int × AV)} {m:List MapEntry},m.length=es.length →
    (∀ i,i < es.length→(es.getD i ([],.any)).1.length=n∧(m.getD i ⟨undef,undef,0⟩).key=keyVal (es.getD i ([],.any)).1) →
    (∀ i,i < es.length→RV w X β σ (es.getD i ([],.any)).2 (m.getD i ⟨undef,undef,0⟩).val)→MpRel w X β σ n es m
  | [],[],_,_,_=>trivial
  | [],_::_,h,_,_=>by cases h
  | _::_,[],h,_,_=>by cases h
  | e::es,y::m,h,hk,hr=>by
    have h0:=hk 0 (by simp)
    refine ⟨h0.1,h0.2,hr 0 (by simp),mprel_of (by simpa using h) (fun i hi=>?_) fun i hi=>?_⟩
    · simpa using hk (i+1) (by simpa using hi)
    · simpa using hr (i+1) (by simpa using hi)
theorem of_mprel {X:Nat→Prop} {n:Nat}:∀ {es:List (List Int × AV)} {m:List MapEntry},MpRel w X β σ n es m→m.length=es.length ∧
    (∀ i,i < es.length→(es.getD i ([],.any)).1.length=n∧(m.getD i ⟨undef,undef,0⟩).key=keyVal (es.getD i ([],.any)).1) ∧
    (∀ i,i < es.length→RV w X β σ (es.getD i ([],.any)).2 (m.getD i ⟨undef,undef,0⟩).val)
  | [],[],_=>⟨rfl,fun i hi=>absurd hi (Nat.not_lt_zero _),fun i hi=>absurd hi (Nat.not_lt_zero _)⟩
  | [],_::_,h=>h.elim
  | _::_,[],h=>h.elim
  | e::es,y::m,h=>by
    obtain ⟨h1,h2,h3,h4⟩:=h
    obtain ⟨g1,g2,g3⟩:=of_mprel h4
    refine ⟨by simp [g1],fun i hi=>?_,fun i hi=>?_⟩
    · cases i with
      | zero=>exact ⟨h1,h2⟩
      | succ i=>simpa using g2 i (by simpa using hi)
    · cases i with
      | zero=>exact h3
      | succ i=>simpa using g3 i (by simpa using hi)
theorem ex_look {S:Prop} {r:AV} {σ':Sto} {n:Nat} {ag ok:Bool} {z:List Value} {m k:O} (hc:chkI P o.op (.look n ag z ok m k)=true) (hs:SRel w X β σ)
    (hv:∀ x u,chkO x u=true→RV w (Xt X β σ) β σ (v u) (ρ x)) (he:ex (.look n ag z ok m k) v σ=some (S,r,σ')):Done P o ρ w X β σ r σ':=by
  cases hop:o.op <;> rw [hop] at hc <;> try (simp [chkI] at hc; done)
  rename_i t a b ok'
  simp only [chkI,Bool.and_eq_true,beq_iff_eq] at hc
  obtain ⟨⟨⟨⟨rfl,h1⟩,h2⟩,h3⟩,h4⟩:=hc
  obtain ⟨kt,e,hu,_⟩:=chkM_parts h3
  rw [hu] at h4
  have ha:=hv a m h1
  have hb:=hv b k h2
  simp only [ex] at he
  generalize v m=vm at ha he
  generalize v k=vk at hb he
  generalize hqa:ρ a=qa at ha
  generalize hqb:ρ b=qb at hb
  have hx:execOp ρ o=(do let x ← Instr.lookup t (ρ a) (ρ b) ok'; pure (.value x)):=by unfold execOp; rw [hop]
  obtain ⟨zx,hz,hzr⟩:=ofVs_rel (w:=w) (β:=β) (σ:=σ) (X:=Xt X β σ) h4
  have key:∀ (ks:List Int) (es:List (List Int × AV)) (bl:Nat) (mes:Array MapEntry) (clock:Nat),ks.length=n→qa=.map (some bl)→qb=keyVal ks→w.heap[bl]?=some (.map mes clock) →
      MpRel w (Xt X β σ) β σ n es mes.toList→Done P o ρ w X β σ (lookA ok' (ofVs ag z) (mget es ks)) σ:=by
    intro ks es bl mes clock hl e1 e2 hbl hrel
    subst e1; subst e2
    have hck:=run_checkM (w:=w) (em:=mes.isEmpty) h3 hu hl
    rcases run_findM (w:=w) h3 hu hl es mes.toList hrel with ⟨g1,g2,_⟩ | ⟨j,y,av,g1,g2,g3,g4,g5,_⟩
    · refine Zx (x:=if ok' then .tuple #[zx,.bool false] else zx) hs ?_ ?_
      · rw [hx,hqa,hqb]
        refine Zv _ _ _ ?_
        simp [Instr.lookup,run_underlying hu,MapKept.run_getObj_map hbl,hck,g1,hz,Result.andThen]
      · rw [g2]
        cases ok'
        · exact hzr
        · exact tup2 hzr (.v _)
    · refine Zx (x:=if ok' then .tuple #[y.val,.bool true] else y.val) hs ?_ ?_
      · rw [hx,hqa,hqb]
        refine Zv _ _ _ ?_
        simp [Instr.lookup,run_underlying hu,MapKept.run_getObj_map hbl,hck,g1,Result.andThen]
      · rw [g4]
        cases ok'
        · exact g5
        · exact tup2 g5 (.v _)
  split at he
  · rename_i f ks hks
    cases hat:σ.at f 0 with
    | none=>simp only [obj,hat] at he; cases he
    | some ob =>
    simp only [obj,hat] at he
    split at he
    case h_2=>cases he
    rename_i es hes
    split at he
    case isFalse=>cases he
    rename_i hl
    simp only [Option.some.injEq,Prod.mk.injEq] at he
    obtain ⟨_,rfl,rfl⟩:=he
    obtain ⟨bl,mes,clock,hβ,rfl,_,hbl,hrel⟩:=mp_block hs hat hes ha
    exact key ks es bl mes clock hl rfl (keyA_rel hks hb) hbl hrel
  · rename_i n' es ks hks
    split at he
    case isFalse=>cases he
    rename_i hl
    simp only [Option.some.injEq,Prod.mk.injEq] at he
    obtain ⟨_,rfl,rfl⟩:=he
    obtain ⟨rfl,hl⟩:=hl
    cases ha with
    | imap _ _ bl mes cl hbl hX hsz hk hr =>
      exact key ks es bl mes cl hl rfl (keyA_rel hks hb) hbl (mprel_of (by simpa using hsz) (fun i hi=>by simpa [Array.getD_eq_getD_getElem?,List.getD_eq_getElem?_getD] using hk i hi)
        fun i hi=>by simpa [Array.getD_eq_getD_getElem?,List.getD_eq_getElem?_getD] using hr i hi)
  · cases he
theorem ex_mput {S:Prop} {r:AV} {σ':Sto} {n:Nat} {m k y:O} (hc:chkI P o.op (.mput n m k y)=true) (hs:SRel w X β σ) (hX:∀ b,X b→b < w.heap.size)
    (hv:∀ x u,chkO x u=true→RV w (Xt X β σ) β σ (v u) (ρ x)) (he:ex (.mput n m k y) v σ=some (S,r,σ')):Done P o ρ w X β σ r σ':=by
  have hop':∃ t a b c,(o.op=.mapUpdate t a b c∨o.op=.insert t a b c)∧(((chkO a m=true∧chkO b k=true)∧chkO c y=true)∧chkM P t n=true):=by
    cases hop:o.op <;> rw [hop] at hc <;> try (simp [chkI] at hc; done)
    · rename_i t a b c
      exact ⟨t,a,b,c,by simp,by simpa only [chkI,Bool.and_eq_true] using hc⟩
    · rename_i t a b c
      exact ⟨t,a,b,c,by simp,by simpa only [chkI,Bool.and_eq_true] using hc⟩
  obtain ⟨t,a,b,c,hop,⟨⟨h1,h2⟩,h3⟩,h4⟩:=hop'
  obtain ⟨kt,e,hu,_⟩:=chkM_parts h4
  have ha:=hv a m h1
  have hb:=hv b k h2
  have hcy:=hv c y h3
  simp only [ex] at he
  generalize v m=vm at ha he
  generalize v k=vk at hb he
  generalize v y=vy at hcy he
  generalize hqa:ρ a=qa at ha
  generalize hqb:ρ b=qb at hb
  generalize hqc:ρ c=qc at hcy
  split at he
  case h_2=>cases he
  rename_i f ks hks
  cases hat:σ.at f 0 with
  | none=>simp only [obj,hat] at he; cases he
  | some ob =>
  simp only [obj,hat] at he
  split at he
  case h_2=>cases he
  rename_i es hes
  split at he
  case isFalse=>cases he
  rename_i hl
  simp only [Option.some.injEq,Prod.mk.injEq] at he
  obtain ⟨_,rfl,rfl⟩:=he
  obtain ⟨bl,mes,clock,hβ,rfl,hnil,hbl,hrel,hbn⟩:=mp_blockB hs hat hes ha
  obtain rfl:=keyA_rel hks hb
  have hx:execOp ρ o=(do Instr.mapUpdate t (ρ a) (ρ b) (ρ c); pure .skip):=by
    unfold execOp
    rcases hop with hop | hop <;> rw [hop]
  have hck:=run_checkM (w:=w) (em:=false) h4 hu hl
  have fin:∀ (es':Array MapEntry) (cl':Nat),MpRel w (Xt X β σ) β σ n (mset es ks vy) es'.toList→Borns es' cl' →
      (Instr.mapUpdate t (.map (some bl)) (keyVal ks) qc).run P w=.ok () (w.putObj bl (.map es' cl')) →
      Done P o ρ w X β σ .any (σ.upd f 0 { ob with lp:=some (.mp n (mset es ks vy)) }):=fun es' cl' hrel' hbn' hrun =>
    map_turn (x:=undef) hs hX hat hβ hnil hbl hrel' hbn' (by
      rw [hx,hqa,hqb,hqc]
      simp only [Sem.run_bind,hrun,Result.andThen_ok,Sem.run_pure]) (.inr ⟨rfl,rfl⟩) (.any _)
  rcases run_findM (w:=w) h4 hu hl es mes.toList hrel with ⟨g1,g2,_⟩ | ⟨j,z,av,g1,g2,g3,g4,g5,g6,_⟩
  · refine fin (mes.push ⟨keyVal ks,qc,clock⟩) (clock+1) (by rw [Array.toList_push]; exact mset_new hl hcy hrel g2) (hbn.push _ _) ?_
    simp [Instr.mapUpdate,run_underlying hu,MapKept.run_getObj_map hbl,hck,g1,MapKept.run_setObj_map _ hbl,Result.andThen,World.putObj]
  · have hj:mes[j]?=some z:=by simpa using g2
    refine fin (mes.modify j fun e=>{ e with key:=keyVal ks,val:=qc }) clock (by rw [Array.toList_modify]; exact g6 vy qc hcy) (hbn.modify _ _ fun _=>rfl) ?_
    simp [Instr.mapUpdate,run_underlying hu,MapKept.run_getObj_map hbl,hck,g1,hj,g3,Instr.keyThatStays,sameBits_key,MapKept.run_setObj_map _ hbl,Result.andThen,World.putObj]
theorem ex_ment {S:Prop} {r:AV} {σ':Sto} {n:Nat} {ag:Bool} {z:List Value} {m k:O} (hc:chkI P o.op (.ment n ag z m k)=true) (hs:SRel w X β σ) (hX:∀ b,X b→b < w.heap.size)
    (hv:∀ x u,chkO x u=true→RV w (Xt X β σ) β σ (v u) (ρ x)) (he:ex (.ment n ag z m k) v σ=some (S,r,σ')):Done P o ρ w X β σ r σ':=by
  cases hop:o.op <;> rw [hop] at hc <;> try (simp [chkI] at hc; done)
  rename_i t a b
  simp only [chkI,Bool.and_eq_true] at hc
  obtain ⟨⟨⟨h1,h2⟩,h4⟩,h5⟩:=hc
  obtain ⟨kt,e,hu,_⟩:=chkM_parts h4
  rw [hu] at h5
  have ha:=hv a m h1
  have hb:=hv b k h2
  simp only [ex] at he
  generalize v m=vm at ha he
  generalize v k=vk at hb he
  generalize hqa:ρ a=qa at ha
  generalize hqb:ρ b=qb at hb
  split at he
  case h_2=>cases he
  rename_i f ks hks
  cases hat:σ.at f 0 with
  | none=>simp only [obj,hat] at he; cases he
  | some ob =>
  simp only [obj,hat] at he
  split at he
  case h_2=>cases he
  rename_i es hes
  split at he
  case isFalse=>cases he
  rename_i hl
  simp only [Option.some.injEq,Prod.mk.injEq] at he
  obtain ⟨_,rfl,rfl⟩:=he
  obtain ⟨bl,mes,clock,hβ,rfl,hnil,hbl,hrel,hbn⟩:=mp_blockB hs hat hes ha
  obtain rfl:=keyA_rel hks hb
  obtain ⟨zx,hz,hzr⟩:=ofVs_rel (w:=w) (β:=β) (σ:=σ) (X:=Xt X β σ) h5
  have hx:execOp ρ o=(do let x ← Instr.mapEntry t (ρ a) (ρ b); pure (.value x)):=by unfold execOp; rw [hop]
  have hck:=run_checkM (w:=w) (em:=false) h4 hu hl
  have hml:=MpRel.len hrel
  rcases run_findM (w:=w) h4 hu hl es mes.toList hrel with ⟨g1,g2,g3⟩ | ⟨j,y,av,g1,g2,g3,g4,g5,g6,g7⟩
  · rw [g2,g3]
    refine map_turn (es':=mes.push ⟨keyVal ks,zx,clock⟩) (cl':=clock+1) (x:=.tuple #[zx,goInt clock]) hs hX hat hβ hnil hbl (by rw [Array.toList_push]; exact mset_new hl hzr hrel g2) (hbn.push _ _) ?_ (.inl rfl) ?_
    · rw [hx,hqa,hqb]
      refine Zv _ _ _ ?_
      simp [Instr.mapEntry,run_underlying hu,MapKept.run_getObj_map hbl,hck,g1,hz,MapKept.run_setObj_map _ hbl,Result.andThen,World.putObj]
    · refine tup2 hzr ?_
      have:clock=es.length:=by rw [hbn.1]; simpa using hml
      rw [this]; exact .v _
  · have hj:mes[j]?=some y:=by simpa using g2
    rw [g4,g7]
    refine map_turn (es':=mes.modify j fun e=>{ e with key:=keyVal ks }) (cl':=clock) (x:=.tuple #[y.val,goInt j]) hs hX hat hβ hnil hbl ?_ (hbn.modify _ _ fun _=>rfl) ?_ (.inl rfl) ?_
    · have h8:=g6 av y.val g5
      rw [Array.toList_modify]
      have e1:(mes.toList.modify j fun e=>{ e with key:=keyVal ks })=mes.toList.modify j fun e=>{ e with key:=keyVal ks,val:=y.val }:=by
        apply List.ext_getElem?
        intro i
        simp only [List.getElem?_modify]
        by_cases hij:j=i
        · subst hij; simp [hj]
        · simp [hij]
      rw [e1]; exact h8
    · rw [hx,hqa,hqb]
      refine Zv _ _ _ ?_
      have hb2:y.born=j:=hbn.2 j y hj
      simp [Instr.mapEntry,run_underlying hu,MapKept.run_getObj_map hbl,hck,g1,hj,g3,hb2,Instr.keyThatStays,sameBits_key,MapKept.run_setObj_map _ hbl,Result.andThen,World.putObj]
    · exact tup2 g5 (.v _)
theorem ex_est {S:Prop} {r:AV} {σ':Sto} {n:Nat} {m s y:O} (hc:chkI P o.op (.est n m s y)=true) (hs:SRel w X β σ) (hX:∀ b,X b→b < w.heap.size)
    (hv:∀ x u,chkO x u=true→RV w (Xt X β σ) β σ (v u) (ρ x)) (he:ex (.est n m s y) v σ=some (S,r,σ')) (hS:S):Done P o ρ w X β σ r σ':=by
  cases hop:o.op <;> rw [hop] at hc <;> try (simp [chkI] at hc; done)
  rename_i t a b c
  simp only [chkI,Bool.and_eq_true] at hc
  obtain ⟨⟨h1,h2⟩,h3⟩:=hc
  have ha:=hv a m h1
  have hb:=hv b s h2
  have hcy:=hv c y h3
  simp only [ex] at he
  generalize v m=vm at ha he
  generalize v s=vk at hb he
  generalize v y=vy at hcy he
  generalize hqa:ρ a=qa at ha
  generalize hqb:ρ b=qb at hb
  generalize hqc:ρ c=qc at hcy
  split at he
  case h_2=>cases he
  rename_i f i
  cases hat:σ.at f 0 with
  | none=>simp only [obj,hat] at he; cases he
  | some ob =>
  simp only [obj,hat] at he
  split at he
  case h_2=>cases he
  rename_i es hes
  simp only [Option.some.injEq,Prod.mk.injEq] at he
  obtain ⟨rfl,rfl,rfl⟩:=he
  obtain ⟨bl,mes,clock,hβ,rfl,hnil,hbl,hrel,hbn⟩:=mp_blockB hs hat hes ha
  obtain rfl:=hb.inv_v
  have hml:=MpRel.len hrel
  simp only [Array.length_toList] at hml
  obtain ⟨q,rfl⟩:=Int.eq_ofNat_of_zero_le hS.1
  have hq:q < mes.size:=by omega
  have hx:execOp ρ o=(do Instr.entryStore t (ρ a) (ρ b) (ρ c); pure .skip):=by unfold execOp; rw [hop]
  have hfi:mes.findIdx? (fun e=>(e.born:Int) == (q:Int))=some q:=by
    rw [Array.findIdx?_eq_some_iff_getElem]
    refine ⟨hq,?_,fun j hj=>?_⟩
    · have:=hbn.2 q _ (Array.getElem?_eq_getElem hq); simp [this]
    · have:=hbn.2 j _ (Array.getElem?_eq_getElem (show j < mes.size by omega)); simp [this]; omega
  refine map_turn (es':=mes.modify q fun e=>{ e with val:=qc }) (cl':=clock) (x:=undef) hs hX hat hβ hnil hbl ?_ (hbn.modify _ _ fun _=>rfl) ?_ (.inr ⟨rfl,rfl⟩) (.any _)
  · rw [Array.toList_modify]
    exact mputAt_rel hcy hrel
  · rw [hx,hqa,hqb,hqc]
    have hai:(asInt (.int .i64 (q:Int))).run P w=.ok (q:Int) w:=rfl
    simp [Instr.entryStore,MapKept.run_getObj_map hbl,hai,hfi,MapKept.run_setObj_map _ hbl,Result.andThen,World.putObj]
theorem ptF_parts {t:TypeId} (h:ptF P t=true):∃ e,P.underlying t=some (.pointer e):=by
  unfold ptF at h
  split at h
  · rename_i e hu; exact ⟨e,hu⟩
  · cases h
theorem ifF_parts {t:TypeId} (h:ifF P t=true):∃ e,P.underlying t=some (.interface e):=by
  unfold ifF at h
  split at h
  · rename_i e hu; exact ⟨e,hu⟩
  · cases h
theorem run_equalIn_ptr (d:Nat) {t:TypeId} (hu:ptF P t=true) (q:Option Addr):(Op.equalIn (d+1) t (.pointer q) (.pointer none)).run P w=.ok q.isNone w:=by
  obtain ⟨e,hu⟩:=ptF_parts hu
  unfold Op.equalIn
  rw [Sem.run_bind,run_underlying hu]
  cases q <;> rfl
theorem run_equalIn_nili (d:Nat) {t:TypeId} (hu:ifF P t=true):(Op.equalIn (d+1) t .nilIface .nilIface).run P w=.ok true w:=by
  obtain ⟨e,hu⟩:=ifF_parts hu
  unfold Op.equalIn
  rw [Sem.run_bind,run_underlying hu]
  rfl
theorem run_equalIn_ifc (d:Nat) {t:TypeId} (hu:ifF P t=true) (T:TypeId) (x:Value):(Op.equalIn (d+1) t (.iface T x) .nilIface).run P w=.ok false w:=by
  obtain ⟨e,hu⟩:=ifF_parts hu
  unfold Op.equalIn
  rw [Sem.run_bind,run_underlying hu]
  rfl
theorem ex_nilf {S:Prop} {r:AV} {σ':Sto} {p neg:Bool} {y z:O} (hc:chkI P o.op (.nilf p neg y z)=true) (hs:SRel w X β σ)
    (hv:∀ x u,chkO x u=true→RV w (Xt X β σ) β σ (v u) (ρ x)) (he:ex (.nilf p neg y z) v σ=some (S,r,σ')) (hS:S):Done P o ρ w X β σ r σ':=by
  cases hop:o.op <;> rw [hop] at hc <;> try (simp [chkI] at hc; done)
  rename_i op' t a b t'
  cases b <;> try (simp [chkI] at hc; done)
  rename_i c
  simp only [chkI,Bool.and_eq_true,beq_iff_eq] at hc
  obtain ⟨⟨⟨rfl,h1⟩,h2⟩,h3⟩:=hc
  have ha:=hv a y h1
  have hb:=hv _ z h2
  simp only [ex] at he
  generalize v y=vy at ha he
  generalize v z=vz at hb he
  generalize hqa:ρ a=qa at ha
  generalize hqb:ρ (.const c)=qb at hb
  have keyP:p=true→∀ q:Option Addr,qa=.pointer q→qb=.pointer none→(execOp ρ o).run P w=.ok (.value (.bool (bif neg then !q.isNone else q.isNone))) w:=by
    intro hp q e1 e2
    subst e1; subst e2; subst hp
    have h3:ptF P t=true:=h3
    unfold execOp; rw [hop]
    simp only [hqa,hqb]
    refine Zv _ _ _ ?_
    cases neg <;> simp [go_sem,binOp,Op.equal,Op.maxDepth,run_equalIn_ptr (P:=P) (w:=w) 9999 h3]
  have keyN:p=false→qa=.nilIface→qb=.nilIface→(execOp ρ o).run P w=.ok (.value (.bool (!neg))) w:=by
    intro hp e1 e2
    subst e1; subst e2; subst hp
    have h3:ifF P t=true:=h3
    unfold execOp; rw [hop]
    simp only [hqa,hqb]
    refine Zv _ _ _ ?_
    cases neg <;> simp [go_sem,eqGuard,binOp,Op.equal,Op.maxDepth,run_equalIn_nili (P:=P) (w:=w) 9999 h3]
  have keyI:p=false→∀ T x,qa=.iface T x→qb=.nilIface→(execOp ρ o).run P w=.ok (.value (.bool neg)) w:=by
    intro hp T x e1 e2
    subst e1; subst e2; subst hp
    have h3:ifF P t=true:=h3
    unfold execOp; rw [hop]
    simp only [hqa,hqb]
    refine Zv _ _ _ ?_
    cases neg <;> simp [go_sem,eqGuard,binOp,Op.equal,Op.maxDepth,run_equalIn_ifc (P:=P) (w:=w) 9999 h3]
  split at he
  · simp only [Option.some.injEq,Prod.mk.injEq] at he
    obtain ⟨_,rfl,rfl⟩:=he
    obtain rfl:=hb.inv_v
    cases ha with
    | iptr _ _ b' off f hX h1 hc hr=>exact Zx hs (keyP rfl _ rfl rfl) (by cases neg <;> exact .v _)
  · rename_i f i n _ _
    cases hat:σ.at f i with
    | none=>simp only [obj,hat] at he; cases he
    | some ob =>
      simp only [obj,hat,Option.some.injEq,Prod.mk.injEq] at he
      obtain ⟨rfl,rfl,rfl⟩:=he
      obtain rfl:=hb.inv_v
      cases ha with
      | ptr _ _ _ _ _ _ h1c hf hle hh =>
        obtain ⟨b',hb',rfl⟩:=hh ob hat hS
        exact Zx hs (keyP rfl _ rfl rfl) (by cases neg <;> exact .v _)
  · simp only [Option.some.injEq,Prod.mk.injEq] at he
    obtain ⟨_,rfl,rfl⟩:=he
    obtain rfl:=ha.inv_v
    obtain rfl:=hb.inv_v
    exact Zx hs (keyP rfl _ rfl rfl) (by cases neg <;> exact .v _)
  · simp only [Option.some.injEq,Prod.mk.injEq] at he
    obtain ⟨_,rfl,rfl⟩:=he
    obtain rfl:=hb.inv_v
    cases ha with
    | ifc T _ x h=>exact Zx hs (keyI rfl _ _ rfl rfl) (by cases neg <;> exact .v _)
  · simp only [Option.some.injEq,Prod.mk.injEq] at he
    obtain ⟨_,rfl,rfl⟩:=he
    obtain rfl:=ha.inv_v
    obtain rfl:=hb.inv_v
    exact Zx hs (keyN rfl rfl rfl) (by cases neg <;> exact .v _)
  · cases he
end
end Go.Abs
