/- Part 1 of the texts: abstract values over the walk; contracts. -/
import Derived.WalkKit
import Derived.CallsIn
import Derived.Laws.Tables
set_option linter.unusedVariables false
set_option linter.unusedSimpArgs false
namespace Go
theorem aa:type_of% @And.intro:= @And.intro
theorem ab:type_of% @List.getD_eq_getElem?_getD:= @List.getD_eq_getElem?_getD
theorem ae:type_of% @List.getElem?_eq_getElem:= @List.getElem?_eq_getElem
theorem ai:type_of% @List.getElem?_eq_some_iff:= @List.getElem?_eq_some_iff
theorem af:type_of% @Array.getD_eq_getD_getElem?:= @Array.getD_eq_getD_getElem?
theorem ao:type_of% @List.mem_of_getElem?:= @List.mem_of_getElem?
theorem ah:type_of% @Option.some.injEq:= @Option.some.injEq
theorem ak:type_of% @Bool.and_eq_true:= @Bool.and_eq_true
theorem ar:type_of% @Nat.le_refl:= @Nat.le_refl
theorem au:type_of% @List.not_mem_nil:= @List.not_mem_nil
theorem aC:type_of% @List.mem_cons:= @List.mem_cons
theorem aV:type_of% @List.getElem?_map:= @List.getElem?_map
theorem aw:type_of% @Prod.mk.injEq:= @Prod.mk.injEq
theorem aM:type_of% @List.length_append:= @List.length_append
theorem aI:type_of% @List.take_length:= @List.take_length
theorem aD:type_of% @List.cons_append:= @List.cons_append
theorem aF:type_of% @List.length_map:= @List.length_map
theorem aO:type_of% @List.mem_map:= @List.mem_map
theorem aQ:type_of% @Nat.zero_le:= @Nat.zero_le
theorem aN:type_of% @Nat.not_lt_zero:= @Nat.not_lt_zero
theorem aK:type_of% @List.nil_append:= @List.nil_append
theorem aL:type_of% @Option.map_eq_some_iff:= @Option.map_eq_some_iff
theorem bH:type_of% @List.length_take:= @List.length_take
theorem aZ:type_of% @Array.getElem?_eq_some_iff:= @Array.getElem?_eq_some_iff
theorem aY:type_of% @Option.map_some:= @Option.map_some
theorem a_:type_of% @List.length_range:= @List.length_range
theorem bb:type_of% @List.append_nil:= @List.append_nil
theorem bf:type_of% @List.length_cons:= @List.length_cons
theorem ba:type_of% @List.take_add_one:= @List.take_add_one
theorem cD:type_of% @List.take_of_length_le:= @List.take_of_length_le
theorem bE:type_of% @List.getElem?_append_right:= @List.getElem?_append_right
theorem bg:type_of% @Result.andThen_ok:= @Result.andThen_ok
theorem aW:type_of% @List.append_assoc:= @List.append_assoc
theorem bp:type_of% @List.mem_singleton:= @List.mem_singleton
theorem bq:type_of% @List.map_cons:= @List.map_cons
theorem bc:type_of% @List.mem_range:= @List.mem_range
theorem bm:type_of% @List.mem_append:= @List.mem_append
theorem bt:type_of% @List.all_eq_true:= @List.all_eq_true
theorem cy:type_of% @List.getElem?_append_left:= @List.getElem?_append_left
theorem br:type_of% @Nat.zero_add:= @Nat.zero_add
theorem cd:type_of% @List.length_eq_zero_iff:= @List.length_eq_zero_iff
theorem bx:type_of% @Sem.run_bind:= @Sem.run_bind
theorem aj:type_of% @Int.zero_sub:= @Int.zero_sub
theorem bw:type_of% @Bool.false_eq_true:= @Bool.false_eq_true
theorem bM:type_of% @List.length_nil:= @List.length_nil
theorem bV:type_of% @Option.getD_some:= @Option.getD_some
theorem bS:type_of% @Array.getElem?_eq_getElem:= @Array.getElem?_eq_getElem
theorem bK:type_of% @List.length_filter_le:= @List.length_filter_le
theorem bW:type_of% @List.getElem?_set_ne:= @List.getElem?_set_ne
theorem cH:type_of% @List.getElem?_range:= @List.getElem?_range
theorem bT:type_of% @Nat.le_trans:= @Nat.le_trans
theorem bX:type_of% @List.getElem?_set:= @List.getElem?_set
theorem cj:type_of% @Nat.mul_le_mul_right:= @Nat.mul_le_mul_right
theorem cq:type_of% @List.length_eq_one_iff:= @List.length_eq_one_iff
theorem cK:type_of% @List.length_set:= @List.length_set
theorem ir:type_of% @List.getElem?_zip_eq_some:= @List.getElem?_zip_eq_some
theorem cr:type_of% @Nat.lt_of_lt_of_le:= @Nat.lt_of_lt_of_le
theorem ct:type_of% @List.pairwise_cons:= @List.pairwise_cons
theorem cp:type_of% @List.getElem?_set_self:= @List.getElem?_set_self
theorem b_:type_of% @List.getElem?_eq_none:= @List.getElem?_eq_none
theorem cA:type_of% @Array.getElem?_append_left:= @Array.getElem?_append_left
theorem cC:type_of% @List.getElem_map:= @List.getElem_map
theorem cv:type_of% @List.getElem_mem:= @List.getElem_mem
theorem dx:type_of% @List.mem_of_mem_take:= @List.mem_of_mem_take
theorem cg:type_of% @List.getElem?_cons_zero:= @List.getElem?_cons_zero
theorem fc:type_of% @List.mem_flatMap:= @List.mem_flatMap
theorem cV:type_of% @Bool.eq_iff_iff:= @Bool.eq_iff_iff
theorem cN:type_of% @World.cell?_setCells_out:= @World.cell?_setCells_out
theorem cJ:type_of% @List.size_toArray:= @List.size_toArray
theorem cm:type_of% @Nat.lt_or_ge:= @Nat.lt_or_ge
theorem di:type_of% @List.map_append:= @List.map_append
theorem cW:type_of% @Decidable.byContradiction:= @Decidable.byContradiction
theorem c_:type_of% @List.drop_length:= @List.drop_length
theorem cT:type_of% @List.foldl_cons:= @List.foldl_cons
theorem cM:type_of% @List.mem_filter:= @List.mem_filter
theorem cO:type_of% @Nat.le_succ:= @Nat.le_succ
theorem cP:type_of% @Nat.add_mul:= @Nat.add_mul
theorem db:type_of% @Bool.not_eq_true':= @Bool.not_eq_true'
theorem fl:type_of% @List.getElem?_replicate:= @List.getElem?_replicate
theorem da:type_of% @Option.map_none:= @Option.map_none
theorem de:type_of% @List.pairwise_iff_getElem:= @List.pairwise_iff_getElem
theorem c9:type_of% @Addr.add_lit:= @Addr.add_lit
theorem dk:type_of% @List.getElem?_take:= @List.getElem?_take
theorem dp:type_of% @List.eq_nil_or_concat:= @List.eq_nil_or_concat
theorem dq:type_of% @List.concat_eq_append:= @List.concat_eq_append
theorem dF:type_of% @List.getD_cons_zero:= @List.getD_cons_zero
theorem dw:type_of% @Array.size_append:= @Array.size_append
theorem dy:type_of% @Option.isSome_iff_exists:= @Option.isSome_iff_exists
theorem dB:type_of% @Array.getElem?_setIfInBounds_ne:= @Array.getElem?_setIfInBounds_ne
theorem fb:type_of% @List.mem_iff_getElem?:= @List.mem_iff_getElem?
theorem dL:type_of% @List.map_nil:= @List.map_nil
theorem dE:type_of% @Array.length_toList:= @Array.length_toList
theorem dI:type_of% @World.cell?_setCells_in:= @World.cell?_setCells_in
theorem eZ:type_of% @Int.le_refl:= @Int.le_refl
theorem dJ:type_of% @List.getElem?_of_mem:= @List.getElem?_of_mem
theorem dD:type_of% @Sem.run_pure:= @Sem.run_pure
theorem ez:type_of% @List.getElem?_drop:= @List.getElem?_drop
theorem dK:type_of% @Bool.or_eq_true:= @Bool.or_eq_true
theorem fa:type_of% @List.set_append_right:= @List.set_append_right
theorem dW:type_of% @List.getElem?_cons_succ:= @List.getElem?_cons_succ
theorem d_:type_of% @Nat.le_of_mul_le_mul_right:= @Nat.le_of_mul_le_mul_right
theorem dS:type_of% @Nat.le_of_eq:= @Nat.le_of_eq
theorem ee:type_of% @MapKept.run_getObj_map:= @MapKept.run_getObj_map
theorem eo:type_of% @Classical.byContradiction:= @Classical.byContradiction
theorem eQ:type_of% @List.length_pos_iff:= @List.length_pos_iff
theorem dv:type_of% @List.ext_getElem?:= @List.ext_getElem?
theorem er:type_of% @List.mem_range'_1:= @List.mem_range'_1
theorem eE:type_of% @Nat.add_zero:= @Nat.add_zero
theorem eU:type_of% @List.nodup_cons:= @List.nodup_cons
theorem eF:type_of% @List.contains_eq_mem:= @List.contains_eq_mem
theorem eJ:type_of% @Nat.add_assoc:= @Nat.add_assoc
theorem eK:type_of% @Oper.semAt_eq:= @Oper.semAt_eq
theorem eO:type_of% @List.foldl_append:= @List.foldl_append
theorem k8:type_of% @Int.tdiv_eq_ediv_of_nonneg:= @Int.tdiv_eq_ediv_of_nonneg
theorem eP:type_of% @List.getD_cons_succ:= @List.getD_cons_succ
theorem e_:type_of% @List.take_append_drop:= @List.take_append_drop
theorem gM:type_of% @Nat.le_of_ble_eq_true:= @Nat.le_of_ble_eq_true
theorem eV:type_of% @Array.getElem?_setIfInBounds_self_of_lt:= @Array.getElem?_setIfInBounds_self_of_lt
theorem fU:type_of% @List.map_set:= @List.map_set
theorem lL:type_of% @List.eq_nil_of_length_eq_zero:= @List.eq_nil_of_length_eq_zero
theorem fk:type_of% @Option.bind_eq_some_iff:= @Option.bind_eq_some_iff
theorem fm:type_of% @Decidable.not_not:= @Decidable.not_not
theorem lM:type_of% @List.pairwise_map:= @List.pairwise_map
theorem oG:type_of% @List.length_zip:= @List.length_zip
theorem eS:type_of% @List.map_congr_left:= @List.map_congr_left
theorem fF:type_of% @MapKept.run_setObj_map:= @MapKept.run_setObj_map
theorem fG:type_of% @List.drop_eq_nil_of_le:= @List.drop_eq_nil_of_le
theorem pj:type_of% @List.idxOf_lt_length_of_mem:= @List.idxOf_lt_length_of_mem
theorem f_:type_of% @Nat.lt_irrefl:= @Nat.lt_irrefl
theorem eb:type_of% @List.any_eq_true:= @List.any_eq_true
theorem fJ:type_of% @List.getElem_range:= @List.getElem_range
theorem gA:type_of% @Nat.pos_of_ne_zero:= @Nat.pos_of_ne_zero
theorem fK:type_of% @List.filter_append:= @List.filter_append
theorem fN:type_of% @Option.isSome_none:= @Option.isSome_none
theorem fP:type_of% @List.getElem?_toArray:= @List.getElem?_toArray
theorem fQ:type_of% @List.length_replicate:= @List.length_replicate
theorem fR:type_of% @Array.getElem?_modify:= @Array.getElem?_modify
theorem fY:type_of% @Classical.not_not:= @Classical.not_not
theorem gP:type_of% @List.flatMap_cons:= @List.flatMap_cons
theorem il:type_of% @List.map_map:= @List.map_map
theorem iB:type_of% @List.getElem_of_mem:= @List.getElem_of_mem
theorem gh:type_of% @List.countP_eq_zero:= @List.countP_eq_zero
theorem iD:type_of% @List.flatMap_append:= @List.flatMap_append
theorem gm:type_of% @Int.toNat_of_nonneg:= @Int.toNat_of_nonneg
theorem wW:type_of% @List.length_drop:= @List.length_drop
theorem wP:type_of% @Nat.add_sub_cancel_left:= @Nat.add_sub_cancel_left
theorem gn:type_of% @Int.eq_ofNat_of_zero_le:= @Int.eq_ofNat_of_zero_le
theorem gu:type_of% @IntKind.wrap_i64:= @IntKind.wrap_i64
theorem gf:type_of% @Array.ext':= @Array.ext'
theorem jj:type_of% @Nat.mul_comm:= @Nat.mul_comm
theorem gB:type_of% @Nat.eq_zero_or_pos:= @Nat.eq_zero_or_pos
theorem xc:type_of% @Nat.succ_mul:= @Nat.succ_mul
theorem gx:type_of% @Array.getElem?_eq_none:= @Array.getElem?_eq_none
theorem gC:type_of% @Bool.false_ne_true:= @Bool.false_ne_true
theorem gE:type_of% @List.range_succ:= @List.range_succ
theorem v_:type_of% @Option.some.inj:= @Option.some.inj
theorem gK:type_of% @List.set_getElem_self:= @List.set_getElem_self
theorem gO:type_of% @Nat.lt_trichotomy:= @Nat.lt_trichotomy
theorem xd:type_of% @List.take_sublist:= @List.take_sublist
theorem gQ:type_of% @List.all_eq_false:= @List.all_eq_false
theorem gq:type_of% @Bool.false_and:= @Bool.false_and
theorem h_:type_of% @List.nodup_nil:= @List.nodup_nil
theorem fZ:type_of% @List.mem_iff_getElem:= @List.mem_iff_getElem
theorem ia:type_of% @World.cell?_alloc_at:= @World.cell?_alloc_at
theorem A3:type_of% @Nat.mod_eq_of_lt:= @Nat.mod_eq_of_lt
theorem jr:type_of% @Nat.sub_self:= @Nat.sub_self
theorem iA:type_of% @Array.getElem?_push:= @Array.getElem?_push
theorem iC:type_of% @List.drop_succ_cons:= @List.drop_succ_cons
theorem ga:type_of% @Bool.true_and:= @Bool.true_and
theorem iK:type_of% @DataW.trod_lt:= @DataW.trod_lt
theorem A9:type_of% @List.cons.injEq:= @List.cons.injEq
theorem Bj:type_of% @Nat.min_eq_left:= @Nat.min_eq_left
theorem iM:type_of% @Bool.decide_and:= @Bool.decide_and
theorem gD:type_of% @List.mem_replicate:= @List.mem_replicate
theorem CD:type_of% @Nat.mul_one:= @Nat.mul_one
theorem fo:type_of% @List.any_eq_false:= @List.any_eq_false
theorem jT:type_of% @Nat.one_mul:= @Nat.one_mul
end Go
namespace Go.Abs
inductive AV where
 |v(x:Value)
 |agg(cs:List AV)
 |iu(cs:List AV)
 |sl(k:Nat)(es:List (List AV))
 |fresh(k:Nat)(es:List (List AV))
 |own(f i n:Nat)
 |tight(f i n:Nat)
 |sub(f i n lo:Nat)
 |vw(f i n e j m:Nat)
 |ptr(f i n e j:Nat)
 |bZ(cs:List AV)(j:Nat)
 |fn(f:Fn)(first cap:List AV)
 |Ai(f:Nat)
 |mp(f:Nat)
 |j4(n:Nat)(es:List (List Int×AV))
 |l6(t:TypeId)(x:AV)
 |when(c:Bool)(x:AV)
 |any
instance :Inhabited AV:=⟨.any⟩
abbrev Env:=List (Nat×AV)
def gt:Env->Nat->AV
 | [],_=>.any
 |(m,v)::r,n=>bif m==n then v else gt r n
structure Lp where
 st:LoopState
 ta:Option Code
 ps:Array Tmp
 assign:Code
 body:Code
 N:Nat
 env:Env
inductive Lq where
 |lp(r:Lp)
 |mp(n:Nat)(es:List (List Int×AV))
structure Ob where
 T:TypeId
 k:Nat
 es:List (List AV)
 lp:Option Lq
abbrev aG:=List (Option (List Ob))
abbrev gr:=Nat->Nat->Option Nat
def aG.at(σ:aG)(f i:Nat):Option Ob:=
 match σ[f]? with
 |some (some F)=>F[i]?
 |_=>none
def aG.cZ(σ:aG)(f i:Nat)(o:Ob):aG:=
 match σ[f]? with
 |some (some F)=>σ.set f (some (F.set i o))
 |_=>σ
def owned(β:gr)(σ:aG)(b:Nat):Prop:=∃f i o,σ.at f i=some o/\β f i=some b
def kD(w:World)(bo:Option Nat)(o:Ob)(x:Value):Prop:=
 match bo with
 |none=>o.es=[]/\x=.slice none 0 0
 |some b=>∃cap c T,x=.slice (some ⟨b,0,none⟩) o.es.length cap/\w.heap[b]?=some (.cells c T (0,0))/\c.size=cap*o.k
def QK(bo:Option Nat)(o:Ob)(lo:Nat)(x:Value):Prop:=
 lo<=o.es.length/\∃a cap,x=.slice a (o.es.length-lo) cap/\(lo<o.es.length->∃b,bo=some b/\a=some ⟨b,lo*o.k,none⟩)
def UZ(bo:Option Nat)(o:Ob)(e j m:Nat)(x:Value):Prop:=
 ∃b a cap,bo=some b/\x=.slice (some a) m cap/\(0<m->a=⟨b,e*o.k+j,none⟩)
def eh:List Int->Value
 | [a]=>.int .i64 a
 |ks=>.agg (ks.map fun a=>Value.int .i64 a).toArray
def Fix:Obj->Prop
 | .cells ..| .map ..=>True
 |_=>False
inductive RV(w:World)(X:Nat->Prop)(β:gr)(σ:aG):AV->Value->Prop
 |v(x:Value):RV w X β σ (.v x) x
 |any(x:Value):RV w X β σ .any x
 |agg(cs:List AV)(xs:Array Value)(hn:xs.size=cs.length)(h1:∀i,i<cs.length->(xs.getD i undef).oneCell'=true)(h:∀i,i<cs.length->RV w X β σ (cs.getD i .any) (xs.getD i undef)):RV w X β σ (.agg cs) (.agg xs)
 |iu(cs:List AV)(xs:Array Value)(hn:xs.size=cs.length)(h:∀i,i<cs.length->RV w X β σ (cs.getD i .any) (xs.getD i undef)):RV w X β σ (.iu cs) (.tuple xs)
 |slnil(k:Nat):RV w X β σ (.sl k []) (.slice none 0 0)
 |k9(k:Nat)(a:Addr)(cap:Nat):RV w X β σ (.sl k []) (.slice (some a) 0 cap)
 |sl(k:Nat)(es:List (List AV))(b o cap:Nat)(x:Nat->Nat->Value)(ep:es.length<=cap)(hk:∀e,e<es.length->(es.getD e []).length=k)
  (hc:∀e,e<es.length->∀j,j<k->w.cell? ⟨b,o+e*k+j,none⟩=some (x e j)) (hX:∀e j,e<es.length->j<k->¬X b) (h1:∀e j,e<es.length->j<k->(x e j).oneCell'=true)
  (hr:∀e j,e<es.length->j<k->RV w X β σ ((es.getD e []).getD j .any) (x e j)):RV w X β σ (.sl k es) (.slice (some ⟨b,o,none⟩) es.length cap)
 |fresh(k:Nat)(es:List (List AV))(x:Value)(h:RV w X β σ (.sl k es) x)(hc:∃a,x=.slice a es.length es.length):RV w X β σ (.fresh k es) x
 |own(f i n:Nat)(x:Value)(h1:x.oneCell'=true)(hf:f<σ.length)(hle:∀o,σ.at f i=some o->n<=o.es.length)(h:∀o,σ.at f i=some o->o.es.length=n->kD w (β f i) o x):RV w X β σ (.own f i n) x
 |tight(f i n:Nat)(x:Value)(h:RV w X β σ (.own f i n) x)(hc:∃a,x=.slice a n n):RV w X β σ (.tight f i n) x
 |sub(f i n lo:Nat)(x:Value)(h1:x.oneCell'=true)(hf:f<σ.length)(hle:∀o,σ.at f i=some o->n<=o.es.length)(h:∀o,σ.at f i=some o->o.es.length=n->QK (β f i) o lo x):RV w X β σ (.sub f i n lo) x
 |vw(f i n e j m:Nat)(x:Value)(h1:x.oneCell'=true)(hf:f<σ.length)(hle:∀o,σ.at f i=some o->n<=o.es.length)(h:∀o,σ.at f i=some o->o.es.length=n->UZ (β f i) o e j m x):RV w X β σ (.vw f i n e j m) x
 |ptr(f i n e j:Nat)(x:Value)(h1:x.oneCell'=true)(hf:f<σ.length)(hle:∀o,σ.at f i=some o->n<=o.es.length)(h:∀o,σ.at f i=some o->o.es.length=n->∃b,β f i=some b/\x=.pointer (some ⟨b,e*o.k+j,none⟩)):RV w X β σ (.ptr f i n e j) x
 |bZ(cs:List AV)(j b o:Nat)(x:Nat->Value)(hX:∀t,t<cs.length->¬X b)(h1:∀t,t<cs.length->(x t).oneCell'=true)
  (hc:∀t,t<cs.length->w.cell? ⟨b,o+t,none⟩=some (x t)) (hr:∀t,t<cs.length->RV w X β σ (cs.getD t .any) (x t)):RV w X β σ (.bZ cs j) (.pointer (some ⟨b,o+j,none⟩))
 |fn(f:Fn)(first cap:List AV)(xs ys:Array Value)(hn:xs.size=first.length)(hm:ys.size=cap.length)
  (h:∀i,i<first.length->RV w X β σ (first.getD i .any) (xs.getD i undef)) (h':∀i,i<cap.length->RV w X β σ (cap.getD i .any) (ys.getD i undef)):RV w X β σ (.fn f first cap) (.func f xs ys)
 |Ai(f:Nat)(x:Value)(h1:x.oneCell'=true)(hf:f<σ.length)(h:∀o,σ.at f 0=some o->o.es.length=0->∃l,β f 0=some l/\x=.func (.yield l) #[] #[]):RV w X β σ (.Ai f) x
 |mp(f:Nat)(x:Value)(h1:x.oneCell'=true)(hf:f<σ.length)(h:∀o,σ.at f 0=some o->o.es.length=0->∃l,β f 0=some l/\x=.map (some l)):RV w X β σ (.mp f) x
 |j4(n:Nat)(es:List (List Int×AV))(b:Nat)(m:Array MapEntry)(cl:Nat)(hb:w.heap[b]?=some (.map m cl))(hX:¬X b)(hl:m.size=es.length)
  (hk:∀i,i<es.length->(es.getD i ([],.any)).1.length=n/\(m.getD i ⟨undef,undef,0⟩).key=eh (es.getD i ([],.any)).1)
  (hr:∀i,i<es.length->RV w X β σ (es.getD i ([],.any)).2 (m.getD i ⟨undef,undef,0⟩).val):RV w X β σ (.j4 n es) (.map (some b))
 |l6(t:TypeId)(a:AV)(x:Value)(h:RV w X β σ a x):RV w X β σ (.l6 t a) (.iface t x)
 |when(c:Bool)(a:AV)(x:Value)(h:c=true->RV w X β σ a x)(h':c=false->x=undef):RV w X β σ (.when c a) x
def D0(w:World)(X:Nat->Prop)(β:gr)(σ:aG)(r:Lp)(q:Loop):Prop:=
 q.state=r.st/\q.pending=r.ta/\q.params=r.ps/\q.assign=r.assign/\q.body=r.body/\q.tmps.size=r.N/\∀s,RV w X β σ (gt r.env s) (q.tmps.getD s undef)
def gw(w:World)(X:Nat->Prop)(β:gr)(σ:aG)(n:Nat):List (List Int×AV)->List MapEntry->Prop
 | [],[]=>True
 |x::r,e::s=>x.1.length=n/\e.key=eh x.1/\RV w X β σ x.2 e.val/\gw w X β σ n r s
 |_,_=>False
def sC(es:Array MapEntry)(cl:Nat):Prop:=cl=es.size/\∀(i:Nat) (e:MapEntry),es[i]?=some e->e.born=i
def HP(w:World)(X:Nat->Prop)(β:gr)(σ:aG)(r:Lq)(b:Nat):Prop:=
 match r with
 | .lp r=>∃q,w.heap[b]?=some (.loop q)/\D0 w X β σ r q
 | .mp n m=>∃es clock,w.heap[b]?=some (.map es clock)/\gw w X β σ n m es.toList/\sC es clock
def pk(w:World)(X:Nat->Prop)(β:gr)(σ:aG)(bo:Option Nat)(o:Ob):Prop:=
 (∀e,e<o.es.length->(o.es.getD e []).length=o.k)/\
 match bo with
 |none=>o.es=[]/\o.lp=none
 |some b=>(o.lp=none->∃c,w.heap[b]?=some (.cells c o.T (0,0))/\o.es.length*o.k<=c.size/\
  (∀e j,e<o.es.length->j<o.k->(c.getD (e*o.k+j) undef).oneCell'=true)/\
  ∀e j,e<o.es.length->j<o.k->RV w X β σ ((o.es.getD e []).getD j .any) (c.getD (e*o.k+j) undef))/\
  ∀r,o.lp=some r->o.es=[]/\HP w X β σ r b
theorem pk.nA{w:World}{X:Nat->Prop}{β:gr}{σ:aG}{bo:Option Nat}{o:Ob}{e:Nat}(h:pk w X β σ bo o)(he:e<o.es.length):o.lp=none:=by
 have h2:=h.2
 cases bo with
 |none=>exact h2.2
 |some b=>
  cases hl:o.lp with
  |none=>rfl
  |some r=>rw[(h2.2 r hl).1]at he;exact absurd he (aN _)
theorem pk.ya{w:World}{X:Nat->Prop}{β:gr}{σ:aG}{b:Nat}{o:Ob}{c:Array Value}{T:TypeId}{fr:Nat×Nat}(h:pk w X β σ (some b) o)(hc:w.heap[b]?=some (.cells c T fr)):o.lp=none:=by
 cases hl:o.lp with
 |none=>rfl
 |some r=>
  have h3:=(h.2.2 r hl).2
  cases r with
  |lp r=>obtain⟨q,hq,_⟩:=h3;rw[hc]at hq;cases hq
  |mp n m=>obtain⟨es,cl,hq,_⟩:=h3;rw[hc]at hq;cases hq
def Xt(X:Nat->Prop)(β:gr)(σ:aG)(b:Nat):Prop:=X b\/owned β σ b
structure dG(w:World)(X:Nat->Prop)(β:gr)(σ:aG):Prop where
 inj:∀f i f' i' o o' b,σ.at f i=some o->σ.at f' i'=some o'->β f i=some b->β f' i'=some b->f=f'/\i=i'
 xJ:∀f i o b,σ.at f i=some o->β f i=some b->¬X b
 obj:∀f i o,σ.at f i=some o->pk w (Xt X β σ) β σ (β f i) o
def dM(w w':World)(b:Nat):Prop:=
 ∀c T,w.heap[b]?=some (.cells c T (0,0))->∃c' T',w'.heap[b]?=some (.cells c' T' (0,0))/\c'.size=c.size
structure Kp(w:World)(X:Nat->Prop)(β:gr)(σ:aG)(w':World)(X':Nat->Prop)(β':gr)(σ':aG):Prop where
 size:w.heap.size<=w'.heap.size
 I1:∀b o,w.heap[b]?=some o->Fix o->¬X b->w'.heap[b]?=w.heap[b]?
 Aj:∀b,b<w.heap.size->X' b->X b
 len:σ.length<=σ'.length
 wI:∀f i o',f<σ.length->σ'.at f i=some o'->∃o,σ.at f i=some o/\o.k=o'.k/\o.es.length<=o'.es.length/\
  (o.es.length=o'.es.length->β' f i=β f i/\∀b,β f i=some b->dM w w' b)
theorem dM.refl(w:World)(b:Nat):dM w w b:=fun c T h=>⟨c,T,h,rfl⟩
theorem tX{w:World}{a:Addr}{v:Value}(h:w.cell? a=some v):a.block<w.heap.size:=by
 unfold World.cell? at h
 split at h
 ·rename_i hb
  exact(aZ.1 hb).1
 ·cases h
theorem cells_of_cell{w:World}{a:Addr}{v:Value}(h:w.cell? a=some v):∃c T fr,w.heap[a.block]?=some (.cells c T fr):=by
 unfold World.cell? at h
 split at h
 ·rename_i c T fr hb;exact⟨c,T,fr,hb⟩
 ·cases h
theorem tY{w w':World}{a:Addr}(h:w'.heap[a.block]?=w.heap[a.block]?):w'.cell? a=w.cell? a:=by
 unfold World.cell?;rw[h]
theorem RV.tr{w:World}{X:Nat->Prop}{β:gr}{σ:aG}{w':World}{X':Nat->Prop}{β':gr}{σ':aG}{a:AV}{x:Value}(h:RV w X β σ a x)(K:Kp w X β σ w' X' β' σ'):RV w' X' β' σ' a x:=by
 induction h with
 |v x=>exact .v x
 |any x=>exact .any x
 |agg cs xs hn h1 _ ih=>exact .agg cs xs hn h1 ih
 |iu cs xs hn _ ih=>exact .iu cs xs hn ih
 |slnil k=>exact .slnil k
 |k9 k a cap=>exact .k9 k a cap
 |sl k es b o cap x ep hk hc hX h1 _ ih=>
  refine .sl k es b o cap x ep hk (fun e he j hj=>?_) (fun e j he hj hx=>?_) h1 ih
  ·have h0:=hc e he j hj
   obtain⟨c,T,fr,hh⟩:=cells_of_cell h0
   rw[tY (K.I1 b _ hh trivial (hX e j he hj))]
   exact h0
  ·exact hX e j he hj (K.Aj b (tX (hc e he j hj)) hx)
 |fresh k es x _ hc ih=>exact .fresh k es x ih hc
 |tight f i n x _ hc ih=>exact .tight f i n x ih hc
 |own f i n x h1 hf hle h=>
  refine .own f i n x h1 (cr hf K.len) (fun o' dN=>?_) fun o' dN hn=>?_
  ·obtain⟨o,ho,_,hl,_⟩:=K.wI f i o' hf dN
   exact bT (hle o ho) hl
  ·obtain⟨o,ho,hk,hl,hs⟩:=K.wI f i o' hf dN
   have RQ:=hle o ho
   have he:o.es.length=o'.es.length:=by omega
   obtain⟨o7,eX⟩:=hs he
   have hx:=h o ho (by omega)
   rw[o7]
   unfold kD at hx|-
   cases hb:β f i with
   |none=>
    rw[hb]at hx
    refine⟨?_,hx.2⟩
    have:o'.es.length=0:=by rw[<-he,hx.1];rfl
    exact cd.1 this
   |some b=>
    rw[hb]at hx
    obtain⟨cap,c,T,rfl,hh,hc⟩:=hx
    obtain⟨c',T',hh',vf⟩:=eX b hb c T hh
    exact⟨cap,c',T',by rw[he],hh',by rw[vf,hc,hk]⟩
 |sub f i n lo x h1 hf hle h=>
  refine .sub f i n lo x h1 (cr hf K.len) (fun o' dN=>?_) fun o' dN hn=>?_
  ·obtain⟨o,ho,_,hl,_⟩:=K.wI f i o' hf dN
   exact bT (hle o ho) hl
  ·obtain⟨o,ho,hk,hl,hs⟩:=K.wI f i o' hf dN
   have RQ:=hle o ho
   have he:o.es.length=o'.es.length:=by omega
   obtain⟨o7,_⟩:=hs he
   have hx:=h o ho (by omega)
   unfold QK at hx|-
   rw[o7,<-he,<-hk]
   exact hx
 |vw f i n e j m x h1 hf hle h=>
  refine .vw f i n e j m x h1 (cr hf K.len) (fun o' dN=>?_) fun o' dN hn=>?_
  ·obtain⟨o,ho,_,hl,_⟩:=K.wI f i o' hf dN
   exact bT (hle o ho) hl
  ·obtain⟨o,ho,hk,hl,hs⟩:=K.wI f i o' hf dN
   have RQ:=hle o ho
   obtain⟨o7,_⟩:=hs (by omega)
   have hx:=h o ho (by omega)
   unfold UZ at hx|-
   rw[o7,<-hk]
   exact hx
 |ptr f i n e j x h1 hf hle h=>
  refine .ptr f i n e j x h1 (cr hf K.len) (fun o' dN=>?_) fun o' dN hn=>?_
  ·obtain⟨o,ho,_,hl,_⟩:=K.wI f i o' hf dN
   exact bT (hle o ho) hl
  ·obtain⟨o,ho,hk,hl,hs⟩:=K.wI f i o' hf dN
   have RQ:=hle o ho
   obtain⟨o7,eX⟩:=hs (by omega)
   obtain⟨b,hb,rfl⟩:=h o ho (by omega)
   exact⟨b,by rw[o7,hb],by rw[hk]⟩
 |bZ cs j b o x hX h1 hc _ ih=>
  refine .bZ cs j b o x (fun t ht hx=>hX t ht (K.Aj b (tX (hc t ht)) hx)) h1 (fun t ht=>?_) ih
  have h0:=hc t ht
  obtain⟨c,T,fr,hh⟩:=cells_of_cell h0
  rw[tY (K.I1 b _ hh trivial (hX t ht))]
  exact h0
 |fn f first cap xs ys hn hm _ _ ih U0=>exact .fn f first cap xs ys hn hm ih U0
 |Ai f x h1 hf h=>
  refine .Ai f x h1 (cr hf K.len) fun o' dN hn=>?_
  obtain⟨o,ho,_,hl,hs⟩:=K.wI f 0 o' hf dN
  rw[(hs (by omega)).1]
  exact h o ho (by omega)
 |mp f x h1 hf h=>
  refine .mp f x h1 (cr hf K.len) fun o' dN hn=>?_
  obtain⟨o,ho,_,hl,hs⟩:=K.wI f 0 o' hf dN
  rw[(hs (by omega)).1]
  exact h o ho (by omega)
 |j4 n es b m cl hb hX hl hk _ ih=>
  exact .j4 n es b m cl (by rw[K.I1 b _ hb trivial hX];exact hb) (fun hx=>hX (K.Aj b (aZ.1 hb).1 hx)) hl hk ih
 |l6 t a x _ ih=>exact .l6 t a x ih
 |when c a x _ h' ih=>exact .when c a x ih h'
theorem D0.tr{w:World}{X:Nat->Prop}{β:gr}{σ:aG}{w':World}{X':Nat->Prop}{β':gr}{σ':aG}{r:Lp}{q:Loop}(h:D0 w X β σ r q)(K:Kp w X β σ w' X' β' σ'):D0 w' X' β' σ' r q:=
 ⟨h.1,h.2.1,h.2.2.1,h.2.2.2.1,h.2.2.2.2.1,h.2.2.2.2.2.1,fun s=>(h.2.2.2.2.2.2 s).tr K⟩
theorem gw.tr{w:World}{X:Nat->Prop}{β:gr}{σ:aG}{w':World}{X':Nat->Prop}{β':gr}{σ':aG}{n:Nat}(K:Kp w X β σ w' X' β' σ'):∀{m:List (List Int×AV)} {es:List MapEntry},gw w X β σ n m es->gw w' X' β' σ' n m es
 | [],[],_=>trivial
 |_::_,_::_,h=>⟨h.1,h.2.1,h.2.2.1.tr K,gw.tr K h.2.2.2⟩
 | [],_::_,h=>h.elim
 |_::_,[],h=>h.elim
theorem HP.tr{w:World}{X:Nat->Prop}{β:gr}{σ:aG}{w':World}{X':Nat->Prop}{β':gr}{σ':aG}{r:Lq}{b:Nat}(h:HP w X β σ r b)(K:Kp w X β σ w' X' β' σ')(hb:w'.heap[b]?=w.heap[b]?):HP w' X' β' σ' r b:=by
 cases r with
 |lp r=>obtain⟨q,hq,hr⟩:=h;exact⟨q,by rw[hb];exact hq,hr.tr K⟩
 |mp n m=>obtain⟨es,cl,hq,hr,hn⟩:=h;exact⟨es,cl,by rw[hb];exact hq,hr.tr K,hn⟩
theorem pk.tr{w:World}{X:Nat->Prop}{β:gr}{σ:aG}{w':World}{X':Nat->Prop}{β':gr}{σ':aG}{bo:Option Nat}{o:Ob}(h:pk w X β σ bo o)(K:Kp w X β σ w' X' β' σ')(hb:∀b,bo=some b->w'.heap[b]?=w.heap[b]?):pk w' X' β' σ' bo o:=by
 refine⟨h.1,?_⟩
 have h2:=h.2
 cases bo with
 |none=>exact h2
 |some b=>
  refine⟨fun hl=>?_,fun r hl=>?_⟩
  ·obtain⟨c,hc,hle,h1,hr⟩:=h2.1 hl
   exact⟨c,by rw[hb b rfl];exact hc,hle,h1,fun e j he hj=>(hr e j he hj).tr K⟩
  ·obtain⟨he,hr⟩:=h2.2 r hl
   exact⟨he,hr.tr K (hb b rfl)⟩
inductive O where
 |t(n:Nat)
 |c(x:Value)
 |ca(xs:List Value)
 |f(n:Nat)
inductive I where
 |mv(x:O)
 |pick(c a b:O)
 |alloc(T k:Nat)(z:List Value)
 |box(own:Bool)(T k:Nat)(x:O)
 |build(z:List Value)(ps:List (Nat×Nat×O))
 |jR(own:Bool)(T k n:Nat)(z:List Value)(ps:List (Nat×Nat×O))
 |load(s:Option Nat)(a:O)
 |store(s:Nat)(a x:O)
 |bin(op:BinOp)(x y:O)
 |eqs(neg:Bool)(ks:List (Option IntKind))(x y:O)
 |Ox(neg:Bool)(x y:O)
 |un(op:UnOp)(x:O)
 |tZ(off:Nat)(x:O)
 |field(off:Nat)(s:Option Nat)(x:O)
 |qe(k:Nat)(x i:O)
 |ext(i:Nat)(x:O)
 |len(x:O)
 |tN(mx:Bool)(x y:O)
 |app(T k bytes:Nat)(s x:O)
 |vq(T k bytes:Nat)(z:List Value)(l c:O)
 |slice(k:Nat)(x:O)(lo hi:Option O)
 |j5(f:Fn)(first cap:List O)
 |dY(x:O)
 |l6(T:Nat)(x:O)
 |call(f:O)(args:List O)
 |bad
 |qH(neg:Bool)(x y:O)
 |inv(nm:String)(x:O)(as_:List O)
 |qn(n:Nat)
 |look(n:Nat)(ag:Bool)(z:List Value)(ok:Bool)(m k:O)
 |pR(n:Nat)(m k x:O)
 |Oy(mx:Bool)(x y z:O)
 |Ak(T k bytes:Nat)(s x:O)
 |Am(T k n:Nat)(z:List Value)(ps:List (Nat×Nat×O))
 |D1(T k n:Nat)(z:List Value)(ps:List (Nat×Nat×O))
 |An(ptr neg:Bool)(x y:O)
 |yb(n:Nat)(ag:Bool)(z:List Value)(m k:O)
 |La(n:Nat)(m s x:O)
 |F3(k:Nat)(x lo:O)
 |F4(T k bytes:Nat)(s x:O)
 |QL(T k:Nat)(z:List Value)(x:O)
 |N6(k:IntKind)(x:O)
 |Oz(k n:Nat)(x i:O)
 |OA(n:Nat)(x:O)(lo hi:Option O)
 |OB(x y:O)
 |QM(k:Nat)(x lo hi mx:O)
structure J where
 d:Option Nat
 i:I
 g:Option (Nat×Bool)
inductive C where
 |skip
 |ops(l:List J)(live:List Nat)
 |draw(p l:List J)(live:List Nat)
 |seq(a b:C)
 |cond(x:O)(a b:C)
 |block(id:Nat)(a:C)
 |loop(a:C)
 |exit(id:Nat)
 |ret
 |rL(f:O)(ps:List Nat)(assign body:C)
 |scope(a:C)
 |jC(pi ks:List Nat)(q:Nat)(p l:List J)(live:List Nat)
 |HQ(pi:List Nat)(p:List J)(j:J)(po ks:List Nat)(q:Nat)(tl l:List J)(live:List Nat)
def st(d:Option Nat)(v:AV)(env:Env):Env:=
 match d with
 |some d=>(d,v)::env
 |none=>env
def tb(live:List Nat)(env:Env):Env:=live.map fun s=>(s,gt env s)
def vs:List Value->List AV
 | []=>[]
 |x::r=>.v x::vs r
def ov(env:Env):O->AV
 | .t n=>gt env n
 | .c x=>.v x
 | .ca xs=>.agg (vs xs)
 | .f n=>.fn (.func n) [] []
def bu:AV->AV
 | .when _ x=>x
 |x=>x
def qD:AV->Bool
 | .when d _=>d
 |_=>true
def scalar:Value->Bool
 | .agg _| .tuple _=>false
 |_=>true
def cells:AV->Option (List AV)
 | .agg cs=>some cs
 | .v x=>if scalar x then some [.v x]else none
 | .sl k es=>some [.sl k es]
 | .own f i n=>some [.own f i n]
 | .tight f i n=>some [.tight f i n]
 | .fresh k es=>some [.fresh k es]
 | .sub f i n lo=>some [.sub f i n lo]
 | .vw f i n e j m=>some [.vw f i n e j m]
 | .ptr f i n e j=>some [.ptr f i n e j]
 | .bZ cs j=>some [.bZ cs j]
 | .fn f a b=>some [.fn f a b]
 | .Ai f=>some [.Ai f]
 | .mp f=>some [.mp f]
 | .j4 n es=>some [.j4 n es]
 | .l6 t x=>some [.l6 t x]
 |_=>none
def sD(s:Option Nat)(cs:List AV)(j:Nat):Option AV:=
 match s with
 |none=>cs[j]?
 |some n=>if j+n<=cs.length then some (.agg ((cs.drop j).take n))else none
def jL(cs:List AV)(j:Nat)(xs:List AV):List AV:=cs.take j++xs++cs.drop (j+xs.length)
def qI:List AV->List (Nat×Nat×AV)->Option (List AV)
 |cs,[]=>some cs
 |cs,(off,size,x)::r=>
  match cells x with
  |some xs=>if xs.length=size/\off+size<=cs.length then qI (jL cs off xs) r else none
  |none=>none
def qJ(k:Nat):Nat->List AV->List (List AV)
 |0,_=>[]
 |n+1,cs=>cs.take k::qJ k n (cs.drop k)
def bN(op:BinOp)(x y:AV):Option (Prop×AV):=
 match x,y with
 | .v (.int k a),.v (.int k' b)=>
  if k=k' then
   match op with
   | .add=>some (True,.v (.int k (k.wrap (a+b))))
   | .sub=>some (True,.v (.int k (k.wrap (a-b))))
   | .mul=>some (True,.v (.int k (k.wrap (a*b))))
   | .quo=>some (b≠0,.v (.int k (k.wrap (a.tdiv b))))
   | .rem=>some (b≠0,.v (.int k (a.tmod b)))
   | .eql=>some (True,.v (.bool (a==b)))
   | .neq=>some (True,.v (.bool (a !=b)))
   | .lss=>some (True,.v (.bool (decide (a<b))))
   | .leq=>some (True,.v (.bool (decide (a<=b))))
   | .gtr=>some (True,.v (.bool (decide (b<a))))
   | .geq=>some (True,.v (.bool (decide (b<=a))))
   | .shl=>some (0<=b,.v (.int k (k.wrap (a*2^(min b.toNat k.bits)))))
   | .shr=>some (0<=b,.v (.int k (a.fdiv (2^(min b.toNat k.bits)))))
   | .and=>some (True,.v (.int k (k.wrap (BitVec.ofInt k.bits a&&&BitVec.ofInt k.bits b).toNat)))
   | .or=>some (True,.v (.int k (k.wrap (BitVec.ofInt k.bits a|||BitVec.ofInt k.bits b).toNat)))
   | .xor=>some (True,.v (.int k (k.wrap (BitVec.ofInt k.bits a^^^BitVec.ofInt k.bits b).toNat)))
   |_=>none
  else none
 | .sl _ _,_=>some (False,.v (.bool false))
 |_,_=>none
def dH:List (Option IntKind)->List AV->List AV->Option Bool
 | [],[],[]=>some true
 |some k::q,.v (.int k1 a)::r,.v (.int k2 b)::s=>if k1=k/\k2=k then(dH q r s).map fun t=>(a==b)&&t else none
 |none::q,.v (.bool a)::r,.v (.bool b)::s=>(dH q r s).map fun t=>(a==b)&&t
 |_,_,_=>none
def obj(σ:aG)(f i:Nat)(K:Ob->Option (Prop×AV×aG)):Option (Prop×AV×aG):=
 match σ.at f i with
 |some o=>K o
 |none=>none
def elems(σ:aG):AV->Option (Prop×List (List AV))
 | .sl _ es=>some (True,es)
 | .own f i n=>match σ.at f i with
  |some o=>some (o.es.length=n,o.es)
  |none=>none
 | .v (.slice _ 0 _)=>some (True,[])
 |_=>none
def aX:List AV->Option (List Int)
 | []=>some []
 | .v (.int .i64 a)::r=>(aX r).map fun l=>a::l
 |_=>none
def bL:AV->Option (List Int)
 | .v (.int .i64 a)=>some [a]
 | .agg cs=>if cs.length=1 then none else aX cs
 |_=>none
def jD:List (List Int×AV)->List Int->Option AV
 | [],_=>none
 |x::r,ks=>if x.1=ks then some x.2 else jD r ks
def ku:List (List Int×AV)->List Int->AV->List (List Int×AV)
 | [],ks,v=>[(ks,v)]
 |x::r,ks,v=>if x.1=ks then(ks,v)::r else x::ku r ks v
def o8:List (List Int×AV)->List Int->Nat
 | [],_=>0
 |x::r,ks=>if x.1=ks then 0 else o8 r ks+1
def pS:List (List Int×AV)->Nat->AV->List (List Int×AV)
 | [],_,_=>[]
 |x::r,0,v=>(x.1,v)::r
 |x::r,i+1,v=>x::pS r i v
def bJ(ag:Bool)(z:List Value):AV:=bif ag then .agg (vs z)else(vs z).getD 0 .any
def aU(ok:Bool)(z:AV)(r:Option AV):AV:=
 match r with
 |some a=>bif ok then .iu [a,.v (.bool true)]else a
 |none=>bif ok then .iu [z,.v (.bool false)]else z
def bI(o:Ob)(n:Nat):Option (List (List Int×AV)):=
 match o.lp with
 |some (.mp n' es)=>if n'=n then some es else none
 |_=>none
def ex(i:I)(v:O->AV)(σ:aG):Option (Prop×AV×aG):=
 match i with
 | .mv x=>some (True,v x,σ)
 | .alloc T k z=>if z.length=k then some (True,.ptr σ.length 0 1 0 0,σ++[some [⟨T,k,[vs z],none⟩]])else none
 | .box own T k x=>match cells (v x)with
  |some cs=>if cs.length=k then(if own then some (True,.ptr σ.length 0 1 0 0,σ++[some [⟨T,k,[cs],none⟩]])else some (True,.bZ cs 0,σ))else none
  |none=>none
 | .build z ps=>match qI (vs z) (ps.map fun p=>(p.1,p.2.1,v p.2.2))with
  |some cs=>some (True,.agg cs,σ)
  |none=>none
 | .jR own T k n z ps=>match qI (vs z) (ps.map fun p=>(p.1,p.2.1,v p.2.2))with
  |some cs=>if cs.length=n*k then(if own then some (True,.own σ.length 0 n,σ++[some [⟨T,k,qJ k n cs,none⟩]])else some (True,.sl k (qJ k n cs),σ))else none
  |none=>none
 | .D1 T k n z ps=>match qI (vs z) (ps.map fun p=>(p.1,p.2.1,v p.2.2))with
  |some cs=>if cs.length=n*k then some (True,.tight σ.length 0 n,σ++[some [⟨T,k,qJ k n cs,none⟩]])else none
  |none=>none
 | .load s a=>match v a with
  | .bZ cs j=>match sD s cs j with
   |some x=>some (True,x,σ)
   |none=>some (False,.sl 1 [],σ)
  | .ptr f i n e j=>obj σ f i fun o=>match s with
   |none=>some (o.es.length=n/\e<n/\j<o.k,(o.es.getD e []).getD j .any,σ)
   |some m=>some (o.es.length=n/\e<n/\j+m<=o.k,.agg (((o.es.getD e []).drop j).take m),σ)
  |_=>none
 | .store s a x=>match v a,cells (v x)with
  | .ptr f i n e j,some xs=>obj σ f i fun o=>
   if xs.length=s then some (o.es.length=n/\e<n/\j+s<=o.k,.any,σ.cZ f i {o with es:=o.es.set e (jL (o.es.getD e []) j xs)})else none
  |_,_=>none
 | .bin op x y=>match bN op (v x) (v y)with
  |some (s,r)=>some (s,r,σ)
  |none=>none
 | .eqs neg ks x y=>match v x,v y with
  | .agg a,.agg b=>match dH ks a b with
   |some t=>some (True,.v (.bool (bif neg then !t else t)),σ)
   |none=>none
  |_,_=>none
 | .Ox neg x y=>match v x,v y with
  | .v (.bool a),.v (.bool b)=>some (True,.v (.bool (bif neg then a !=b else a==b)),σ)
  |_,_=>none
 | .un op x=>match op,v x with
  | .not,.v (.bool b)=>some (True,.v (.bool !b),σ)
  | .neg,.v (.int k n)=>some (True,.v (.int k (k.wrap (0-n))),σ)
  |_,_=>none
 | .tZ off x=>match v x with
  | .bZ cs j=>some (True,.bZ cs (j+off),σ)
  | .ptr f i n e j=>obj σ f i fun o=>some (o.es.length=n,.ptr f i n e (j+off),σ)
  |_=>none
 | .field off s x=>match v x with
  | .agg cs=>match sD s cs off with
   |some x=>some (True,x,σ)
   |none=>none
  |_=>none
 | .qe k x i=>match v x,v i with
  | .sl k' es,.v (.int _ z)=>if k'=k then some (0<=z/\z<es.length,.bZ (es.getD z.toNat []) 0,σ)else none
  | .own f i n,.v (.int _ z)=>obj σ f i fun o=>some (o.k=k/\o.es.length=n/\0<=z/\z<n,.ptr f i n z.toNat 0,σ)
  | .tight f i n,.v (.int _ z)=>obj σ f i fun o=>some (o.k=k/\o.es.length=n/\0<=z/\z<n,.ptr f i n z.toNat 0,σ)
  | .sub f i n lo,.v (.int _ z)=>obj σ f i fun o=>some (o.k=k/\o.es.length=n/\0<=z/\lo+z<n,.ptr f i n (lo+z.toNat) 0,σ)
  |_,_=>none
 | .ext i x=>match v x with
  | .iu cs=>match cs[i]? with
   |some x=>some (True,x,σ)
   |none=>none
  |_=>none
 | .len x=>match v x with
  | .sl _ es=>some (True,.v (.int .i64 es.length),σ)
  | .own f i n=>obj σ f i fun o=>some (o.es.length=n,.v (.int .i64 n),σ)
  | .v (.slice _ 0 _)=>some (True,.v (.int .i64 0),σ)
  | .sub f i n lo=>obj σ f i fun o=>some (o.es.length=n,.v (.int .i64 ((n:Int)-lo)),σ)
  |_=>none
 | .tN mx x y=>match v x,v y with
  | .v (.int k a),.v (.int k' b)=>if k=k' then some (True,.v (.int k (bif mx then max a b else min a b)),σ)else none
  |_,_=>none
 | .Oy mx x y z=>match v x,v y,v z with
  | .v (.int k a),.v (.int k' b),.v (.int Uz c)=>if k=k'/\k=Uz then some (True,.v (.int k (bif mx then max (max a b) c else min (min a b) c)),σ)else none
  |_,_,_=>none
 | .app T k bytes s x=>match elems σ (v x)with
  |some (p,xs)=>match v s with
   | .v (.slice none 0 0)=>some (p/\(∀e,e<xs.length->(xs.getD e []).length=k)/\xs.length*bytes<=140737488355328,.own σ.length 0 xs.length,σ++[some [⟨T,k,xs,none⟩]])
   | .own f i n=>obj σ f i fun o=>some (p/\(∀e,e<xs.length->(xs.getD e []).length=k)/\o.T=T/\o.k=k/\o.lp=none/\o.es.length=n/\(n+xs.length)*bytes<=140737488355328,.own f i (n+xs.length),σ.cZ f i {o with es:=o.es++xs})
   |_=>none
  |none=>none
 | .vq T k bytes z l c=>match v l,v c with
  | .v (.int _ a),.v (.int _ b)=>if z.length=k then some (a=b/\0<=a/\a*bytes<=140737488355328,.own σ.length 0 a.toNat,σ++[some [⟨T,k,List.replicate a.toNat (vs z),none⟩]])else none
  |_,_=>none
 | .slice k x lo hi=>match v x,(lo.map v).getD (.v (.int .i64 0))with
  | .sl k' es,.v (.int _ a)=>match(hi.map v).getD (.v (.int .i64 es.length))with
   | .v (.int _ b)=>if k'=k then some (0<=a/\a<=b/\b<=es.length,.sl k ((es.take b.toNat).drop a.toNat),σ)else none
   |_=>none
  |_,_=>none
 | .j5 f first cap=>some (True,.fn f (first.map v) (cap.map v),σ)
 | .dY x=>match v x with
  | .fn f a b=>match f with
   | .func _=>some (True,.fn f a b,σ)
   |_=>none
  | .ptr f i n e j=>obj σ f i fun o=>some (o.es.length=n,.ptr f i n e j,σ)
  | .bZ cs j=>some (True,.bZ cs j,σ)
  | .l6 t x=>some (True,.l6 t x,σ)
  |_=>none
 | .l6 T x=>some (True,.l6 T (v x),σ)
 | .qH neg x y=>match v x,v y with
  | .v (.slice none _ _),.v (.slice none _ _)=>some (True,.v (.bool !neg),σ)
  | .v (.slice (some _) _ _),.v (.slice none _ _)=>some (True,.v (.bool neg),σ)
  | .sl _ es,.v (.slice none _ _)=>some (es≠[],.v (.bool neg),σ)
  |_,_=>none
 | .qn n=>some (True,.mp σ.length,σ++[some [⟨0,0,[],some (.mp n [])⟩]])
 | .look n ag z ok m k=>match v m,bL (v k)with
  | .mp f,some ks=>obj σ f 0 fun o=>match bI o n with
   |some es=>if ks.length=n then some (True,aU ok (bJ ag z) (jD es ks),σ)else none
   |none=>none
  | .j4 n' es,some ks=>if n'=n/\ks.length=n then some (True,aU ok (bJ ag z) (jD es ks),σ)else none
  |_,_=>none
 | .pR n m k x=>match v m,bL (v k)with
  | .mp f,some ks=>obj σ f 0 fun o=>match bI o n with
   |some es=>if ks.length=n then some (True,.any,σ.cZ f 0 {o with lp:=some (.mp n (ku es ks (v x)))})else none
   |none=>none
  |_,_=>none
 | .An p neg x y=>match p,v x,v y with
  |true,.bZ _ _,.v (.pointer none)=>some (True,.v (.bool neg),σ)
  |true,.ptr f i n _ _,.v (.pointer none)=>obj σ f i fun o=>some (o.es.length=n,.v (.bool neg),σ)
  |true,.v (.pointer none),.v (.pointer none)=>some (True,.v (.bool !neg),σ)
  |false,.l6 _ _,.v .nilIface=>some (True,.v (.bool neg),σ)
  |false,.v .nilIface,.v .nilIface=>some (True,.v (.bool !neg),σ)
  |_,_,_=>none
 | .yb n ag z m k=>match v m,bL (v k)with
  | .mp f,some ks=>obj σ f 0 fun o=>match bI o n with
   |some es=>if ks.length=n then some (True,.iu [(jD es ks).getD (bJ ag z),.v (.int .i64 (o8 es ks))],σ.cZ f 0 {o with lp:=some (.mp n (ku es ks ((jD es ks).getD (bJ ag z))))})else none
   |none=>none
  |_,_=>none
 | .La n m s x=>match v m,v s with
  | .mp f,.v (.int .i64 i)=>obj σ f 0 fun o=>match bI o n with
   |some es=>some (0<=i/\i<es.length,.any,σ.cZ f 0 {o with lp:=some (.mp n (pS es i.toNat (v x)))})
   |none=>none
  |_,_=>none
 | .F3 k x lo=>match v x,v lo with
  | .own f i n,.v (.int _ a)=>obj σ f i fun o=>some (o.k=k/\o.es.length=n/\0<=a/\a<=n,.sub f i n a.toNat,σ)
  |_,_=>none
 | .QL T k z x=>match v x with
  | .sub f i n lo=>obj σ f i fun o=>some (o.k=k/\o.es.length=n,.any,σ.cZ f i {o with es:=o.es.take lo++List.replicate (n-lo) (vs z)})
  |_=>none
 | .F4 T k bytes s x=>match v s,elems σ (v x)with
  | .fresh k' es,some (p,xs)=>if k'=k then some (p/\xs≠[]/\es≠[]/\(∀e,e<xs.length->(xs.getD e []).length=k)/\(es.length+xs.length)*bytes<=140737488355328,.sl k (es++xs),σ)else none
  |_,_=>none
 | .N6 k x=>match v x with
  | .v (.int _ a)=>some (True,.v (.int k (k.wrap a)),σ)
  |_=>none
 | .Oz k n x i=>match v x,v i with
  | .ptr f i' m e j,.v (.int _ z)=>obj σ f i' fun o=>some (o.es.length=m/\0<=z/\z<n,.ptr f i' m e (j+z.toNat*k),σ)
  |_,_=>none
 | .OA n x lo hi=>match v x,(lo.map v).getD (.v (.int .i64 0)),(hi.map v).getD (.v (.int .i64 n))with
  | .ptr f i m e j,.v (.int _ a),.v (.int _ b)=>obj σ f i fun o=>some (o.es.length=m/\0<=a/\a<=b/\b<=n,.vw f i m e (j+a.toNat) (b-a).toNat,σ)
  |_,_,_=>none
 | .OB x y=>match v x,elems σ (v y)with
  | .vw f i m e j c,some (p,xs)=>obj σ f i fun o=>some (p/\(∀x∈xs,x.length=1)/\o.es.length=m/\e<m/\j+c<=o.k,.v (.int .i64 (min c xs.length:Nat)),σ.cZ f i {o with es:=o.es.set e (jL (o.es.getD e []) j ((xs.take c).flatten))})
  |_,_=>none
 | .QM k x lo hi mx=>match v x,v lo,v hi,v mx with
  | .sl k' es,.v (.int _ a),.v (.int _ b),.v (.int _ c)=>if k'=k then some (0<=a/\a<=b/\b<=c/\c<=es.length,.sl k ((es.take b.toNat).drop a.toNat),σ)else none
  |_,_,_,_=>none
 | .pick ..| .call ..| .bad| .inv ..| .Ak ..| .Am ..=>none
def I.os:I->List O
 | .alloc ..| .bad| .qn _=>[]
 | .mv x| .box _ _ _ x| .load _ x| .un _ x| .tZ _ x| .field _ _ x| .ext _ x| .len x| .dY x| .l6 _ x| .QL _ _ _ x=>[x]
 | .build _ ps| .jR _ _ _ _ _ ps| .Am _ _ _ _ ps| .D1 _ _ _ _ ps=>ps.map (·.2.2)
 | .qH _ a x| .An _ _ a x| .F3 _ a x| .F4 _ _ _ a x| .store _ a x| .bin _ a x| .eqs _ _ a x| .Ox _ a x| .qe _ a x| .tN _ a x| .app _ _ _ a x| .Ak _ _ _ a x| .vq _ _ _ _ a x=>[a,x]
 | .pick c a b=>[c,a,b]
 | .Oy _ a b c=>[a,b,c]
 | .look _ _ _ _ m k=>[m,k]
 | .yb _ _ _ m k=>[m,k]
 | .La _ m s x=>[m,s,x]
 | .pR _ m k x=>[m,k,x]
 | .slice _ x lo hi=>x::(lo.toList++hi.toList)
 | .j5 _ a b=>a++b
 | .call f args=>f::args
 | .inv _ x args=>x::args
 | .N6 _ x=>[x]
 | .Oz _ _ x i| .OB x i=>[x,i]
 | .OA _ x lo hi=>x::(lo.toList++hi.toList)
 | .QM _ x lo hi mx=>[x,lo,hi,mx]
def I.calm:I->Bool
 | .alloc ..| .store ..| .app ..| .vq ..| .qn _| .pR ..| .yb ..| .La ..| .QL ..| .D1 ..| .OB ..=>false
 | .box own ..| .jR own ..=>!own
 |_=>true
def j7(g:Bool)(env:Env):List O->Prop
 | []=>True
 |o::r=>(g=true->qD (ov env o)=true)/\j7 g env r
def fu:List O->Env->List AV
 | [],_=>[]
 |o::r,env=>bu (ov env o)::fu r env
theorem dU{σ:aG}{f i:Nat}{o:Ob}(h:σ.at f i=some o):f<σ.length:=by
 unfold aG.at at h
 split at h
 ·rename_i F hF
  exact(ai.1 hF).1
 ·cases h
theorem oH(σ:aG)(x:Option (List Ob)){f i:Nat}(h:f<σ.length):aG.at (σ++[x]) f i=σ.at f i:=by
 unfold aG.at;rw[cy h]
theorem gS(σ:aG)(o:Ob){i:Nat}:aG.at (σ++[some [o]]) σ.length i=if i=0 then some o else none:=by
 unfold aG.at
 rw[bE (ar _)]
 cases i<;>simp
theorem ly{σ:aG}{o o':Ob}{f i:Nat}(h:aG.at (σ++[some [o]]) f i=some o'):(f<σ.length/\σ.at f i=some o')\/(f=σ.length/\i=0/\o'=o):=by
 have bP:=dU h
 simp at bP
 by_cases hf:f<σ.length
 ·rw[oH σ _ hf]at h;exact .inl ⟨hf,h⟩
 ·obtain rfl:f=σ.length:=by omega
  rw[gS]at h
  split at h
  ·rename_i hi;exact .inr ⟨rfl,hi,by injection h with h;exact h.symm⟩
  ·cases h
theorem eW(σ:aG)(f i:Nat)(o:Ob):(σ.cZ f i o).length=σ.length:=by
 unfold aG.cZ;split<;>simp
theorem cu{σ:aG}{f i:Nat}{o o':Ob}(h:σ.at f i=some o):(σ.cZ f i o').at f i=some o':=by
 unfold aG.at at h
 split at h
 ·rename_i F hF
  have bP:=(ai.1 hF).1
  have hi:=(ai.1 h).1
  unfold aG.cZ aG.at
  simp only[hF,cp bP,cp hi]
 ·cases h
theorem cx{σ:aG}{f i f' i':Nat}{o':Ob}(h:f≠f'\/i≠i'):(σ.cZ f i o').at f' i'=σ.at f' i':=by
 unfold aG.cZ
 split
 ·rename_i F hF
  have bP:=(ai.1 hF).1
  by_cases hf:f=f'
  ·subst hf
   have hi:i≠i':=h.resolve_left (by simp)
   unfold aG.at
   simp only[cp bP,hF,bW hi]
  ·unfold aG.at
   simp only[bW hf]
 ·rfl
theorem jE{σ:aG}{f i f' i':Nat}{o o' Lb:Ob}(h0:σ.at f i=some o)(h:(σ.cZ f i o').at f' i'=some Lb):(f'=f/\i'=i/\Lb=o')\/((f≠f'\/i≠i')/\σ.at f' i'=some Lb):=by
 by_cases hh:f=f'/\i=i'
 ·obtain⟨rfl,rfl⟩:=hh
  rw[cu h0]at h
  exact .inl ⟨rfl,rfl,by injection h with h;exact h.symm⟩
 ·have iw:f≠f'\/i≠i':=by
   by_cases hf:f=f'
   ·exact .inr fun hi=>hh ⟨hf,hi⟩
   ·exact .inl hf
  rw[cx iw]at h
  exact .inr ⟨iw,h⟩
def Still(w w':World):Prop:=w'.os=w.os/\w'.tape=w.tape/\w'.output=w.output/\w.drawn<=w'.drawn
theorem Still.refl(w:World):Still w w:=⟨rfl,rfl,rfl,ar _⟩
theorem Still.trans{w w' N7:World}(h:Still w w')(k:Still w' N7):Still w N7:=⟨k.1.trans h.1,k.2.1.trans h.2.1,k.2.2.1.trans h.2.2.1,bT h.2.2.2 k.2.2.2⟩
structure Ext(w:World)(β:gr)(σ:aG)(w':World)(β':gr)(σ':aG):Prop where
 size:w.heap.size<=w'.heap.size
 wJ:∀b,b<w.heap.size->¬owned β σ b->w'.heap[b]?=w.heap[b]?
 new:∀b,owned β' σ' b->owned β σ b\/w.heap.size<=b
 io:Still w w'
theorem Ext.refl(w:World)(β:gr)(σ:aG):Ext w β σ w β σ:=⟨ar _,fun _ _ _=>rfl,fun _ h=>.inl h,Still.refl w⟩
theorem Ext.trans{w w' N7:World}{β β' Lc:gr}{σ σ' Ld:aG}(h:Ext w β σ w' β' σ')(h':Ext w' β' σ' N7 Lc Ld):Ext w β σ N7 Lc Ld where
 size:=bT h.size h'.size
 wJ b hb hn:=by
  rw[h'.wJ b (cr hb h.size) (fun ho=>(h.new b ho).elim hn (fun hle=>absurd hb (Nat.not_lt.2 hle))),h.wJ b hb hn]
 new b hb:=by
  rcases h'.new b hb with h1|h1
  ·exact h.new b h1
  ·exact .inr (bT h.size h1)
 io:=h.io.trans h'.io
theorem pk.lt{w:World}{X:Nat->Prop}{β:gr}{σ:aG}{b:Nat}{o:Ob}(h:pk w X β σ (some b) o):b<w.heap.size:=by
 cases hl:o.lp with
 |none=>obtain⟨c,hc,_⟩:=h.2.1 hl;exact(aZ.1 hc).1
 |some r=>
  have h3:=(h.2.2 r hl).2
  cases r with
  |lp r=>obtain⟨q,hq,_⟩:=h3;exact(aZ.1 hq).1
  |mp n m=>obtain⟨es,cl,hq,_⟩:=h3;exact(aZ.1 hq).1
theorem dG.gT{w:World}{X:Nat->Prop}{β:gr}{σ:aG}(h:dG w X β σ){b:Nat}(ho:owned β σ b):b<w.heap.size:=by
 obtain⟨f,i,o,ho,hb⟩:=ho
 have:=h.obj f i o ho
 rw[hb]at this
 exact this.lt
theorem Bk{w:World}{X:Nat->Prop}{β:gr}{σ:aG}(h:dG w X β σ)(hX:∀b,X b->b<w.heap.size){b:Nat}(hb:Xt X β σ b):b<w.heap.size:=
 hb.elim (hX b) h.gT
theorem ib{w:World}{b:Nat}{o:Obj}(h:w.heap[b]?=some o):b<w.heap.size:=(aZ.1 h).1
theorem Kp.same{w w':World}{X:Nat->Prop}{β:gr}{σ:aG}(hs:w.heap.size<=w'.heap.size)(hh:∀b,b<w.heap.size->w'.heap[b]?=w.heap[b]?)(nv:dG w X β σ):Kp w (Xt X β σ) β σ w' (Xt X β σ) β σ where
 size:=hs
 I1 b o hc _ _:=hh b (ib hc)
 Aj _ _ h:=h
 len:=ar _
 wI f i o _ ho:=⟨o,ho,rfl,ar _,fun _=>⟨rfl,fun b hb c T hc=>⟨c,T,by
  rw[hh b (nv.gT ⟨f,i,o,ho,hb⟩)];exact hc,rfl⟩⟩⟩
theorem dG.same{w w':World}{X:Nat->Prop}{β:gr}{σ:aG}(h:dG w X β σ)(hs:w.heap.size<=w'.heap.size)(hh:∀b,b<w.heap.size->w'.heap[b]?=w.heap[b]?):dG w' X β σ where
 inj:=h.inj
 xJ:=h.xJ
 obj f i o ho:=(h.obj f i o ho).tr (Kp.same hs hh h) fun b hb=>hh b (h.gT ⟨f,i,o,ho,hb⟩)
theorem Ext.same{w w':World}{β:gr}{σ:aG}(hs:w.heap.size<=w'.heap.size)(hh:∀b,b<w.heap.size->w'.heap[b]?=w.heap[b]?)(io:Still w w':=by exact⟨rfl,rfl,rfl,(by first|exact ar _|exact cO _)⟩):Ext w β σ w' β σ:=
 ⟨hs,fun b hb _=>hh b hb,fun _ h=>.inl h,io⟩
def kv(β:gr)(n:Nat)(bo:Option Nat):gr:=fun f i=>if f=n/\i=0 then bo else β f i
theorem mN{β:gr}{n f i:Nat}{bo:Option Nat}(h:f<n):kv β n bo f i=β f i:=by
 unfold kv;rw[if_neg (by omega)]
theorem iy{β:gr}{n:Nat}{bo:Option Nat}:kv β n bo n 0=bo:=by
 unfold kv;rw[if_pos ⟨rfl,rfl⟩]
section push
variable {w w':World} {X:Nat->Prop} {β:gr} {σ:aG} {o:Ob} {bo:Option Nat}
theorem pT(oI:∀b,bo=some b->b=w.heap.size){b:Nat}(h:owned (kv β σ.length bo) (σ++[some [o]]) b):owned β σ b\/w.heap.size<=b:=by
 obtain⟨f,i,o',ho,hb⟩:=h
 rcases ly ho with⟨hf,ho⟩|⟨rfl,rfl,rfl⟩
 ·rw[mN hf]at hb
  exact .inl ⟨f,i,o',ho,hb⟩
 ·rw[iy]at hb
  exact .inr (by rw[oI b hb];exact ar _)
theorem Kp.push(nv:dG w X β σ)(hs:w.heap.size<=w'.heap.size)(hh:∀b,b<w.heap.size->w'.heap[b]?=w.heap[b]?)(oI:∀b,bo=some b->b=w.heap.size):Kp w (Xt X β σ) β σ w' (Xt X (kv β σ.length bo) (σ++[some [o]])) (kv β σ.length bo) (σ++[some [o]])where
 size:=hs
 I1 b o hc _ _:=hh b (ib hc)
 Aj b hb h:=h.elim .inl fun h=>(pT oI h).elim .inr fun h=>absurd hb (Nat.not_lt.2 h)
 len:=by simp
 wI f i o' hf ho:=by
  rw[oH σ _ hf]at ho
  exact⟨o',ho,rfl,ar _,fun _=>⟨mN hf,fun b hb c T hc=>⟨c,T,by rw[hh b (nv.gT ⟨f,i,o',ho,hb⟩)];exact hc,rfl⟩⟩⟩
theorem Ext.push(hs:w.heap.size<=w'.heap.size)(hh:∀b,b<w.heap.size->w'.heap[b]?=w.heap[b]?)(oI:∀b,bo=some b->b=w.heap.size)(io:Still w w':=by exact⟨rfl,rfl,rfl,(by first|exact ar _|exact cO _)⟩):Ext w β σ w' (kv β σ.length bo) (σ++[some [o]]):=
 ⟨hs,fun b hb _=>hh b hb,fun _ h=>pT oI h,io⟩
theorem dG.push(nv:dG w X β σ)(hX:∀b,X b->b<w.heap.size)(hs:w.heap.size<=w'.heap.size)(hh:∀b,b<w.heap.size->w'.heap[b]?=w.heap[b]?)(oI:∀b,bo=some b->b=w.heap.size)(ho:pk w' (Xt X (kv β σ.length bo) (σ++[some [o]])) (kv β σ.length bo) (σ++[some [o]]) bo o):dG w' X (kv β σ.length bo) (σ++[some [o]])where
 inj f i f' i' o1 o2 b h1 h2 xe CG:=by
  rcases ly h1 with⟨hf,g1⟩|⟨rfl,rfl,e1⟩<;>rcases ly h2 with⟨I2,g2⟩|⟨rfl,rfl,e2⟩
  ·rw[mN hf]at xe;rw[mN I2]at CG
   exact nv.inj f i f' i' o1 o2 b g1 g2 xe CG
  ·rw[mN hf]at xe;rw[iy]at CG
   have h3:=nv.gT ⟨f,i,o1,g1,xe⟩
   have h4:=oI b CG
   omega
  ·rw[mN I2]at CG;rw[iy]at xe
   have h3:=nv.gT ⟨f',i',o2,g2,CG⟩
   have h4:=oI b xe
   omega
  ·exact⟨rfl,rfl⟩
 xJ f i o1 b h1 xe hx:=by
  rcases ly h1 with⟨hf,h1⟩|⟨rfl,rfl,rfl⟩
  ·rw[mN hf]at xe
   exact nv.xJ f i o1 b h1 xe hx
  ·rw[iy]at xe
   have h3:=hX b hx
   have h4:=oI b xe
   omega
 obj f i o1 h1:=by
  rcases ly h1 with⟨hf,h1⟩|⟨rfl,rfl,rfl⟩
  ·rw[mN hf]
   exact(nv.obj f i o1 h1).tr (Kp.push nv hs hh oI) fun b hb=>hh b (nv.gT ⟨f,i,o1,h1,hb⟩)
  ·rw[iy];exact ho
end push
def sE(β:gr)(f i:Nat)(bo:Option Nat):gr:=fun f' i'=>if f'=f/\i'=i then bo else β f' i'
section jM
variable {w w':World} {X:Nat->Prop} {β:gr} {σ:aG} {o o':Ob} {f i:Nat} {bo:Option Nat}
theorem kE:sE β f i bo f i=bo:=by unfold sE;rw[if_pos ⟨rfl,rfl⟩]
theorem lX{f' i':Nat}(h:f≠f'\/i≠i'):sE β f i bo f' i'=β f' i':=by
 unfold sE;rw[if_neg];rintro⟨rfl,rfl⟩;simp at h
structure ss(w:World)(β:gr)(f i:Nat)(bo:Option Nat)(w':World):Prop where
 size:w.heap.size<=w'.heap.size
 wJ:∀b,b<w.heap.size->β f i≠some b->w'.heap[b]?=w.heap[b]?
 at_:∀b,bo=some b->β f i=some b\/w.heap.size<=b
 io:Still w w'
theorem yc(ho:σ.at f i=some o)(ht:ss w β f i bo w'){b:Nat}(h:owned (sE β f i bo) (σ.cZ f i o') b):owned β σ b\/w.heap.size<=b:=by
 obtain⟨f',i',Lb,h1,hb⟩:=h
 rcases jE ho h1 with⟨rfl,rfl,rfl⟩|⟨iw,h1⟩
 ·rw[kE]at hb
  rcases ht.at_ b hb with h|h
  ·exact .inl ⟨_,_,o,ho,h⟩
  ·exact .inr h
 ·rw[lX iw]at hb
  exact .inl ⟨f',i',Lb,h1,hb⟩
theorem Kp.jM(nv:dG w X β σ)(ho:σ.at f i=some o)(ht:ss w β f i bo w')(hk:o.k=o'.k)(hl:o.es.length<=o'.es.length)(fe:o.es.length=o'.es.length->bo=β f i/\∀b,β f i=some b->dM w w' b):Kp w (Xt X β σ) β σ w' (Xt X (sE β f i bo) (σ.cZ f i o')) (sE β f i bo) (σ.cZ f i o')where
 size:=ht.size
 I1 b o1 hc _ hn:=ht.wJ b (ib hc) fun o7=>hn (.inr ⟨f,i,o,ho,o7⟩)
 Aj b hb h:=h.elim .inl fun h=>(yc ho ht h).elim .inr fun h=>absurd hb (Nat.not_lt.2 h)
 len:=by rw[eW];exact ar _
 wI f' i' Lb hf h:=by
  rcases jE ho h with⟨rfl,rfl,rfl⟩|⟨iw,h⟩
  ·refine⟨o,ho,hk,hl,fun he=>?_⟩
   rw[kE]
   exact fe he
  ·refine⟨Lb,h,rfl,ar _,fun _=>⟨lX iw,fun b hb c T hc=>⟨c,T,?_,rfl⟩⟩⟩
   rw[ht.wJ b (nv.gT ⟨f',i',Lb,h,hb⟩) fun o7=>?_]
   ·exact hc
   ·have:=nv.inj f i f' i' o Lb b ho h o7 hb
    rcases iw with h|h
    ·exact h this.1
    ·exact h this.2
theorem Ext.jM(ho:σ.at f i=some o)(ht:ss w β f i bo w'):Ext w β σ w' (sE β f i bo) (σ.cZ f i o'):=
 ⟨ht.size,fun b hb hn=>ht.wJ b hb fun o7=>hn ⟨f,i,o,ho,o7⟩,fun _ h=>yc ho ht h,ht.io⟩
theorem dG.jM(nv:dG w X β σ)(hX:∀b,X b->b<w.heap.size)(ho:σ.at f i=some o)(ht:ss w β f i bo w')(hk:o.k=o'.k)(hl:o.es.length<=o'.es.length)(fe:o.es.length=o'.es.length->bo=β f i/\∀b,β f i=some b->dM w w' b)(ic:pk w' (Xt X (sE β f i bo) (σ.cZ f i o')) (sE β f i bo) (σ.cZ f i o') bo o'):dG w' X (sE β f i bo) (σ.cZ f i o')where
 inj f1 i1 f2 i2 o1 o2 b h1 h2 xe CG:=by
  rcases jE ho h1 with⟨rfl,rfl,e1⟩|⟨B9,g1⟩<;>rcases jE ho h2 with⟨rfl,rfl,e2⟩|⟨U1,g2⟩
  ·exact⟨rfl,rfl⟩
  ·rw[kE]at xe;rw[lX U1]at CG
   rcases ht.at_ b xe with h|h
   ·exact nv.inj _ _ _ _ o o2 b ho g2 h CG
   ·have:=nv.gT ⟨_,_,o2,g2,CG⟩;omega
  ·rw[kE]at CG;rw[lX B9]at xe
   rcases ht.at_ b CG with h|h
   ·exact nv.inj _ _ _ _ o1 o b g1 ho xe h
   ·have:=nv.gT ⟨_,_,o1,g1,xe⟩;omega
  ·rw[lX B9]at xe;rw[lX U1]at CG
   exact nv.inj _ _ _ _ o1 o2 b g1 g2 xe CG
 xJ f1 i1 o1 b h1 xe hx:=by
  rcases jE ho h1 with⟨rfl,rfl,rfl⟩|⟨B9,h1⟩
  ·rw[kE]at xe
   rcases ht.at_ b xe with h|h
   ·exact nv.xJ _ _ o b ho h hx
   ·have:=hX b hx;omega
  ·rw[lX B9]at xe
   exact nv.xJ _ _ o1 b h1 xe hx
 obj f1 i1 o1 h1:=by
  rcases jE ho h1 with⟨rfl,rfl,rfl⟩|⟨B9,h1⟩
  ·rw[kE];exact ic
  ·rw[lX B9]
   refine(nv.obj _ _ o1 h1).tr (Kp.jM nv ho ht hk hl fe) fun b hb=>?_
   refine ht.wJ b (nv.gT ⟨f1,i1,o1,h1,hb⟩) fun o7=>?_
   have:=nv.inj f i f1 i1 o o1 b ho h1 o7 hb
   rcases B9 with h|h
   ·exact h this.1
   ·exact h this.2
end jM
def Le:Value->Value->Bool
 | .bool a,.bool b=>a==b
 | .int k a,.int k' b=>k==k'&&a==b
 | .float k a,.float k' b=>k==k'&&a==b
 | .string a,.string b=>decide (a.data=b.data)
 | .pointer none,.pointer none=>true
 | .slice none 0 0,.slice none 0 0=>true
 | .map none,.map none=>true
 | .chan none,.chan none=>true
 | .nilFunc,.nilFunc=>true
 | .nilIface,.nilIface=>true
 |_,_=>false
theorem B_{a b:Value}(h:Le a b=true):a=b/\scalar a=true:=by
 unfold Le at h
 split at h
 case h_4 a b=>obtain⟨a⟩:=a;obtain⟨b⟩:=b;simp at h;subst h;exact⟨rfl,rfl⟩
 all_goals first
  |(simp at h;done)
  |(simp at h;subst h;exact⟨rfl,rfl⟩)
  |(simp at h;obtain⟨rfl,rfl⟩:=h;exact⟨rfl,rfl⟩)
  |exact⟨rfl,rfl⟩
def oJ:List Value->List Value->Bool
 | [],[]=>true
 |a::r,b::s=>Le a b&&oJ r s
 |_,_=>false
theorem lz:∀{a b:List Value},oJ a b=true->a=b/\∀x∈a,scalar x=true
 | [],[],_=>⟨rfl,by simp⟩
 |a::r,b::s,h=>by
  simp only[oJ,ak]at h
  obtain⟨rfl,h1⟩:=B_ h.1
  obtain⟨rfl,h2⟩:=lz h.2
  exact⟨rfl,by simpa using⟨h1,h2⟩⟩
 | [],_::_,h=>by simp[oJ]at h
 |_::_,[],h=>by simp[oJ]at h
theorem oK{x:Value}(h:scalar x=true):x.oneCell'=true:=by cases x<;>simp_all[scalar,Value.oneCell']
def dt:Operand->O->Bool
 | .tmp a,.t b=>a==b
 | .const x,.c y=>Le x y
 | .const (.agg xs),.ca l=>oJ xs.toList l
 | .func f,.f g=>f==g
 |_,_=>false
def iz:List Operand->List O->Bool
 | [],[]=>true
 |a::r,b::s=>dt a b&&iz r s
 |_,_=>false
def nh(P:Program)(t:TypeId):Option Nat:=(P.info? t).map (·.size)
def su(P:Program)(t:TypeId):Option Bool:=(P.underlying t).map fun d=>match d with| .struct _| .array _ _=>true|_=>false
def yd(P:Program)(t:TypeId):Option (List Value):=(P.info? t).bind fun i=>i.zero.map (·.cells.toList)
def xK(P:Program)(t:TypeId):Option TypeId:=match P.underlying t with|some (.slice e)=>some e|_=>none
def RR(P:Program)(t:TypeId)(n:Nat):Option (Nat×TypeId):=
 match P.underlying t with
 |some (.struct fs)=>(fs[n]?).map fun f=>(f.offset,f.type)
 |_=>none
def qo:Option Operand->Option O->Bool
 |none,none=>true
 |some a,some b=>dt a b
 |_,_=>false
def qf(place:Nat->Option (Nat×Nat)):List (Nat×Operand)->List (Nat×Nat×O)->Bool
 | [],[]=>true
 |(i,x)::r,(off,size,y)::s=>place i==some (off,size)&&dt x y&&qf place r s
 |_,_=>false
def nS(P:Program):Nat->TypeId->Option (List (Option IntKind))
 |0,_=>none
 |d+1,t=>
  match P.underlying t with
  |some (.int k)=>some [some k]
  |some .bool=>some [none]
  |some (.struct fs)=>if P.stoodInHeld t then none else
   (fs.toList.foldl (fun acc f=>acc.bind fun l=>if f.offset==l.length&&f.name != "_" then(nS P d f.type).map fun n=>l++n else none) (some [])).bind fun n=>
    if nh P t==some n.length then some n else none
  |_=>none
def xm(P:Program)(t:TypeId)(n:Nat):Bool:=
 match P.underlying t with
 |some (.map k _)=>(match P.underlying k with
  |some (.int .i64)=>n==1
  |some (.struct fs)=>n !=1&&nS P 4 k==some (List.replicate n (some .i64))&&fs.toList.all fun f=>f.name != "_" &&(match P.underlying f.type with|some (.int .i64)=>decide (f.offset<n)|_=>false)
  |_=>false)
 |_=>false
def OC(P:Program)(e:TypeId)(ag:Bool)(z:List Value):Bool:=
 match(P.info? e).bind (·.zero),z with
 |some (.agg xs),_=>ag&&oJ xs.toList z
 |some x,[y]=>!ag&&Le x y
 |_,_=>false
def U2(P:Program)(t:TypeId):Bool:=match P.underlying t with|some (.pointer _)=>true|_=>false
def RS(P:Program)(t:TypeId):Bool:=match P.underlying t with|some (.interface _)=>true|_=>false
def ck(P:Program)(o:Op)(i:I):Bool:=
 match o,i with
 | .move x,.mv y| .assign x,.mv y=>dt x y
 | .pick c a b,.pick c' a' b'=>dt c c'&&dt a a'&&dt b b'
 | .alloc T,.alloc T' k z=>T==T'&&nh P T==some k&&(match yd P T with|some l=>oJ l z|none=>false)
 | .box T x,.box _ T' k y=>T==T'&&nh P T==some k&&dt x y
 | .build t ps,.build z qs=>(match yd P t with|some l=>oJ l z|none=>false)&&
  (match P.underlying t with
   |some (.struct fs)=>qf (fun n=>(fs[n]?).bind fun f=>(nh P f.type).map fun s=>(f.offset,s)) ps.toList qs&&fs.toList.all fun f=>(nh P f.type).isSome
   |some (.array _ e)=>(match nh P e with|some s=>qf (fun n=>some (n*s,s)) ps.toList qs|none=>false)
   |_=>false)
 | .buildSlice t n ps,.jR _ T k m z qs=>n==m&&xK P t==some T&&nh P T==some k&&decide (n*k<=16777216)&&
  (match yd P T with|some l=>oJ ((List.range (n*k)).map fun j=>l.toArray[j % l.toArray.size]!) z|none=>false)&&qf (fun i=>some (i*k,k)) ps.toList qs
 | .buildSlice t n ps,.Am T k m z qs=>n==m&&xK P t==some T&&nh P T==some k&&decide (n*k<=16777216)&&
  (match yd P T with|some l=>oJ ((List.range (n*k)).map fun j=>l.toArray[j % l.toArray.size]!) z|none=>false)&&qf (fun i=>some (i*k,k)) ps.toList qs
 | .buildSlice t n ps,.D1 T k m z qs=>n==m&&xK P t==some T&&nh P T==some k&&decide (n*k<=16777216)&&
  (match yd P T with|some l=>oJ ((List.range (n*k)).map fun j=>l.toArray[j % l.toArray.size]!) z|none=>false)&&qf (fun i=>some (i*k,k)) ps.toList qs
 | .load t a,.load s b=>dt a b&&(match su P t,s with
  |some false,none=>true
  |some true,some n=>nh P t==some n
  |_,_=>false)
 | .store t a x,.store s b y=>dt a b&&dt x y&&nh P t==some s
 | .binOp op _ x y _,.bin F5 x' y'=>op==F5&&dt x x'&&dt y y'
 | .binOp op t x y _,.eqs neg ks x' y'=>op==(if neg then .neq else .eql)&&dt x x'&&dt y y'&&(match P.underlying t with|some (.struct _)=>true|_=>false)&&nS P 4 t==some ks&& !P.eqGuardType P.depth t
 | .binOp op t x y _,.Ox neg x' y'=>op==(if neg then .neq else .eql)&&dt x x'&&dt y y'&&(match P.underlying t with|some .bool=>true|_=>false)
 | .panic _,.bad=>true
 | .indexAddr t x j,.Oz k n y j'=>dt x y&&dt j j'&&(match P.underlying t with|some (.array m e)=>m==n&&nh P e==some k|_=>false)
 | .slice t x lo hi none,.OA n y pP km=>dt x y&&qo lo pP&&qo hi km&&(match P.underlying t with|some (.array m e)=>m==n&&nh P e==some 1|_=>false)
 | .slice t x (some lo) (some hi) (some mx),.QM k y pP km YP=>dt x y&&dt lo pP&&dt hi km&&dt mx YP&&(match xK P t with|some e=>nh P e==some k|none=>false)
 | .call ⟨.builtin .copy,args,ts⟩,.OB y z=>iz args.toList [y,z]&&(match ts.toList with
  | [t,_]=>(match xK P t with|some e=>nh P e==some 1|none=>false)
  |_=>false)
 | .binOp op t x y _,.qH neg x' y'=>op==(if neg then .neq else .eql)&&dt x x'&&dt y y'&&(xK P t).isSome
 | .unOp op _ x,.un F5 y=>op==F5&&dt x y
 | .convert a b x,.N6 k y=>dt x y&&(P.underlying a).isSome&&(match P.underlying b with|some (.int k')=>k'==k|_=>false)
 | .fieldAddr t x n,.tZ off y=>dt x y&&(match RR P t n with
  |some (o,ft)=>o==off&&(match nh P ft with|some s=>s !=0|none=>false)
  |none=>false)
 | .field t x n,.field off s y=>dt x y&&(match RR P t n with
  |some (o,ft)=>o==off&&(match su P ft,s with
   |some false,none=>true
   |some true,some n=>nh P ft==some n
   |_,_=>false)
  |none=>false)
 | .indexAddr t x j,.qe k y j'=>dt x y&&dt j j'&&(match xK P t with|some e=>nh P e==some k|none=>false)
 | .extract x n,.ext m y=>dt x y&&n==m
 | .call ⟨.builtin .len,args,ts⟩,.len y=>(match args.toList,ts.toList with
  | [x],[t]=>dt x y&&(xK P t).isSome
  |_,_=>false)
 | .call ⟨.builtin .min,args,_⟩,.tN mx x y=>!mx&&iz args.toList [x,y]
 | .call ⟨.builtin .max,args,_⟩,.tN mx x y=>mx&&iz args.toList [x,y]
 | .call ⟨.builtin .min,args,_⟩,.Oy mx x y z=>!mx&&iz args.toList [x,y,z]
 | .call ⟨.builtin .max,args,_⟩,.Oy mx x y z=>mx&&iz args.toList [x,y,z]
 | .call ⟨.builtin .append,args,ts⟩,.app T k bytes s x=>iz args.toList [s,x]&&(match ts.toList with
  | [t,t']=>t==t'&&xK P t==some T&&nh P T==some k&&(P.info? T).map (·.bytes)==some bytes&&(match yd P T with|some z=>z.length==k|none=>false)&&k !=0&&bytes !=0
  |_=>false)
 | .call ⟨.builtin .append,args,ts⟩,.Ak T k bytes s x=>iz args.toList [s,x]&&(match ts.toList with
  | [t,t']=>t==t'&&xK P t==some T&&nh P T==some k&&(P.info? T).map (·.bytes)==some bytes&&(match yd P T with|some z=>z.length==k|none=>false)&&k !=0&&bytes !=0
  |_=>false)
 | .call ⟨.builtin .append,args,ts⟩,.F4 T k bytes s x=>iz args.toList [s,x]&&(match ts.toList with
  | [t,t']=>t==t'&&xK P t==some T&&nh P T==some k&&(P.info? T).map (·.bytes)==some bytes&&(match yd P T with|some z=>z.length==k|none=>false)&&k !=0&&bytes !=0
  |_=>false)
 | .makeSlice t l c,.vq T k bytes z l' c'=>dt l l'&&dt c c'&&xK P t==some T&&nh P T==some k&&(P.info? T).map (·.bytes)==some bytes&&(match yd P T with|some z'=>oJ z' z&&z'.length==k|none=>false)&&k !=0&&bytes !=0
 | .slice t x lo hi none,.slice k y pP km=>dt x y&&qo lo pP&&qo hi km&&(match xK P t with|some e=>nh P e==some k|none=>false)
 | .slice t x (some lo) none none,.F3 k y pP=>dt x y&&dt lo pP&&k !=0&&(match xK P t with|some e=>nh P e==some k|none=>false)
 | .call ⟨.builtin .clear,args,ts⟩,.QL T k z y=>iz args.toList [y]&&(match ts.toList with
  | [t]=>xK P t==some T&&(match yd P T with|some l=>oJ l z|none=>false)&&z.length==k
  |_=>false)
 | .makeFunc f a b,.j5 f' a' b'=>decide (f=f')&&iz a.toList a'&&iz b.toList b'
 | .nilCheck x,.dY y=>dt x y
 | .makeInterface t x,.l6 T y=>t==T&&dt x y&&(match P.underlying t with|some (.interface _)|none=>false|_=>true)
 | .makeMap t none,.qn n=>xm P t n
 | .lookup t m k ok,.look n ag z QN m' k'=>ok==QN&&dt m m'&&dt k k'&&xm P t n&&(match P.underlying t with|some (.map _ e)=>OC P e ag z|_=>false)
 | .mapUpdate t m k x,.pR n m' k' x'=>dt m m'&&dt k k'&&dt x x'&&xm P t n
 | .mapEntry t m k,.yb n ag z m' k'=>dt m m'&&dt k k'&&xm P t n&&(match P.underlying t with|some (.map _ e)=>OC P e ag z|_=>false)
 | .entryStore _ m s x,.La n m' s' x'=>dt m m'&&dt s s'&&dt x x'
 | .binOp op t x (.const c) _,.An p neg x' y'=>op==(if neg then .neq else .eql)&&dt x x'&&dt (.const c) y'&&(bif p then U2 P t else RS P t)
 | .insert t m k x,.pR n m' k' x'=>dt m m'&&dt k k'&&dt x x'&&xm P t n
 | .call ⟨.value f,args,_⟩,.call g qh=>dt f g&&iz args.toList qh
 | .call ⟨.invoke r nm,args,_⟩,.inv UK x qh=>nm==UK&&dt r x&&iz args.toList qh
 |_,_=>false
theorem rM{P:Program}{o:Op}{T k bytes:Nat}{s x:O}(h:ck P o (.Ak T k bytes s x)=true):ck P o (.app T k bytes s x)=true:=by
 cases o<;>try(simp[ck]at h;done)
 rename_i c
 obtain⟨Ao,args,ts⟩:=c
 cases Ao<;>try(simp[ck]at h;done)
 rename_i b
 cases b<;>first|exact h|(simp[ck]at h;done)
theorem rN{P:Program}{o:Op}{T k n:Nat}{z:List Value}{ps:List (Nat×Nat×O)}(h:ck P o (.Am T k n z ps)=true):ck P o (.jR true T k n z ps)=true:=by
 cases o<;>first|exact h|(simp[ck]at h;done)
def fi(P:Program)(o:Oper)(ρ:Operand->Value)(w:World)(X:Nat->Prop)(β:gr)(σ:aG)(r:AV)(σ':aG):Prop:=
 ∃n x w' β',(execOp ρ o).run P w=.ok n w'/\(n=.value x\/n=.skip/\x=undef)/\dG w' X β' σ'/\Kp w (Xt X β σ) β σ w' (Xt X β' σ') β' σ'/\
  Ext w β σ w' β' σ'/\RV w' (Xt X β' σ') β' σ' r x
section
variable {P:Program} {o:Oper} {ρ:Operand->Value} {w:World} {X:Nat->Prop} {β:gr} {σ:aG}
theorem bQ{r:AV}{x:Value}(hs:dG w X β σ)(hr:(execOp ρ o).run P w=.ok (.value x) w)(hx:RV w (Xt X β σ) β σ r x):fi P o ρ w X β σ r σ:=
 ⟨_,x,w,β,hr,.inl rfl,hs,Kp.same (ar _) (fun _ _=>rfl) hs,Ext.refl _ _ _,hx⟩
theorem RV.dz{X:Nat->Prop}{x y:Value}(h:RV w X β σ (.v x) y):y=x:=by cases h;rfl
theorem RV.xL{X:Nat->Prop}{cs:List AV}{y:Value}(h:RV w X β σ (.agg cs) y):∃xs:Array Value,y=.agg xs/\xs.size=cs.length/\(∀i,i<cs.length->(xs.getD i undef).oneCell'=true)/\∀i,i<cs.length->RV w X β σ (cs.getD i .any) (xs.getD i undef):=by
 cases h with
 |agg _ xs hn h1 h=>exact⟨xs,rfl,hn,h1,h⟩
theorem RV.OD{X:Nat->Prop}{cs:List AV}{y:Value}(h:RV w X β σ (.iu cs) y):∃xs:Array Value,y=.tuple xs/\xs.size=cs.length/\∀i,i<cs.length->RV w X β σ (cs.getD i .any) (xs.getD i undef):=by
 cases h with
 |iu _ xs hn h=>exact⟨xs,rfl,hn,h⟩
theorem t_{X:Nat->Prop}{cs:List AV}{xs:List Value}(hn:xs.length=cs.length)(h1:∀i,i<cs.length->(xs.getD i undef).oneCell'=true)(h:∀i,i<cs.length->RV w X β σ (cs.getD i .any) (xs.getD i undef)):RV w X β σ (.agg cs) (.agg xs.toArray):=by
 refine .agg cs _ (by simpa using hn) (fun i hi=>?_) fun i hi=>?_
 ·simpa[af,ab]using h1 i hi
 ·simpa[af,ab]using h i hi
theorem xn{t:TypeId}{a:Addr}{x:Value}(ht:su P t=some false)(hc:w.cell? a=some x):(loadVar t a).run P w=.ok x w:=by
 unfold su at ht
 obtain⟨d,hd,he⟩:=aL.1 ht
 have ha:(isAgg t).run P w=.ok false w:=by
  simp only[isAgg,bx,run_underlying hd,bg]
  cases d<;>first|rfl|simp at he
 simp[loadVar,ha,hc]
theorem xo{t:TypeId}{a:Addr}{n:Nat}{f:Nat->Value}(ht:su P t=some true)(hs:nh P t=some n)(hc:∀j,j<n->w.cell? (a.add j)=some (f j)):(loadVar t a).run P w=.ok (.agg ((List.range n).map f).toArray) w:=by
 unfold su at ht
 obtain⟨d,hd,he⟩:=aL.1 ht
 have ha:(isAgg t).run P w=.ok true w:=by
  simp only[isAgg,bx,run_underlying hd,bg]
  cases d<;>first|rfl|simp at he
 unfold nh at hs
 obtain⟨i,hi,rfl⟩:=aL.1 hs
 have hz:(sizeOf t).run P w=.ok i.size w:=by simp[sizeOf,typeInfo,hi]
 simp only[loadVar,bx,ha,bg,if_true,hz,run_loadCells w a i.size f hc,dD]
end
section
variable {P:Program} {o:Oper} {ρ:Operand->Value} {w:World} {X:Nat->Prop} {β:gr} {σ:aG} {v:O->AV}
theorem cE(s:Sem Value)(x:Value)(w':World)(h:s.run P w=.ok x w'):(do let a<-s;pure (Next.value a):Sem Next).run P w=.ok (.value x) w':=by
 simp[h]
theorem ye{cs:List AV}{j:Nat}{r:AV}(h:sD none cs j=some r):j<cs.length/\r=cs.getD j .any:=by
 simp only[sD]at h
 obtain⟨hj,he⟩:=ai.1 h
 exact⟨hj,by rw[ab,h];rfl⟩
theorem yf{cs:List AV}{j n:Nat}{r:AV}(h:sD (some n) cs j=some r):j+n<=cs.length/\r=.agg ((cs.drop j).take n):=by
 simp only[sD]at h
 split at h
 ·rename_i hj;exact⟨hj,by injection h with h;exact h.symm⟩
 ·cases h
theorem mc{α:Type}(l:List α)(j n i:Nat)(d:α)(h:i<n):((l.drop j).take n).getD i d=l.getD (j+i) d:=by
 rw[ab,ab,dk,if_pos h,ez]
theorem jU{α:Type}(l:List α)(j n:Nat)(h:j+n<=l.length):((l.drop j).take n).length=n:=by
 rw[bH,wW];omega
theorem sF{α:Type}(l:List α)(j n:Nat)(d:α)(h:j+n<=l.length):(l.drop j).take n=(List.range n).map (fun i=>l.getD (j+i) d):=by
 apply dv
 intro i
 by_cases hi:i<n
 ·rw[dk,if_pos hi,ez,aV,cH hi,ae (show j+i<l.length by omega)]
  simp[ab,ae (show j+i<l.length by omega)]
 ·rw[b_ (by rw[jU _ j n h];omega),b_ (by simp;omega)]
theorem ua(xs:Array Value)(a n t:Nat)(d:Value)(h:t<n)(h2:a+n<=xs.size):(xs.extract a (a+n)).getD t d=xs.getD (a+t) d:=by
 have e:t<min (a+n) xs.size-a:=by omega
 have e2:a+t<xs.size:=by omega
 simp[af,e,e2]
theorem rO(hs:dG w X β σ){t:TypeId}{a:Operand}{s:Option Nat}{b off:Nat}{f:Nat->Value}{g:Nat->AV}{r:AV}{m:Nat}(ho:o.op=.load t a)(Wh:ρ a=.pointer (some ⟨b,off,none⟩))(ht:(match su P t,s with|some false,none=>true|some true,some n=>nh P t==some n|_,_=>false)=true)(hc:∀i,i<m->w.cell? ⟨b,off+i,none⟩=some (f i))(h1:∀i,i<m->(f i).oneCell'=true)(hr:∀i,i<m->RV w (Xt X β σ) β σ (g i) (f i))(hm:m=s.getD 1)(hg:r=match s with|none=>g 0|some n=>.agg ((List.range n).map g)):∃x,(execOp ρ o).run P w=.ok (.value x) w/\RV w (Xt X β σ) β σ r x:=by
 have hx:execOp ρ o=(do let x<-Instr.loadAt t (ρ a);pure (.value x)):=by unfold execOp;rw[ho]
 cases sv:su P t with
 |none=>rw[sv]at ht;simp at ht
 |some q=>
  rw[sv]at ht
  cases q with
  |false=>
   cases s with
   |some n=>simp at ht
   |none=>
    simp at hm hg;subst hm;subst hg
    refine⟨f 0,?_,hr 0 (by omega)⟩
    rw[hx]
    refine cE _ _ _ ?_
    simp only[Instr.loadAt,Wh,Instr.sureAddr,pure_bind]
    exact xn sv (by simpa using hc 0 (by omega))
  |true=>
   cases s with
   |none=>simp at ht
   |some n=>
    simp at hm ht hg;subst hm;subst hg
    refine⟨.agg ((List.range m).map f).toArray,?_,?_⟩
    ·rw[hx]
     refine cE _ _ _ ?_
     simp only[Instr.loadAt,Wh,Instr.sureAddr,pure_bind]
     refine xo sv ht (fun j hj=>?_)
     rw[c9];exact hc j hj
    ·refine t_ (by simp) (fun i hi=>?_) (fun i hi=>?_)
     ·simp at hi;simpa[ab,hi]using h1 i hi
     ·simp at hi;simpa[ab,hi]using hr i hi
theorem D2{S:Prop}{r:AV}{σ':aG}{s:Option Nat}{y:O}(hc:ck P o.op (.load s y)=true)(hs:dG w X β σ)(hv:∀x z,dt x z=true->z∈(I.load s y).os->RV w (Xt X β σ) β σ (v z) (ρ x))(he:ex (.load s y) v σ=some (S,r,σ'))(hS:S):σ'=σ/\∃x,(execOp ρ o).run P w=.ok (.value x) w/\RV w (Xt X β σ) β σ r x:=by
 cases fv:o.op<;>rw[fv]at hc<;>try(simp[ck]at hc;done)
 rename_i t a
 simp only[ck,ak]at hc
 have ha:=hv a y hc.1 (by simp[I.os])
 have ht:=hc.2
 simp only[ex]at he
 generalize v y=vy at ha he
 generalize hq:ρ a=q at ha
 cases vy<;>try(simp at he;done)
 case bZ cs j=>
  simp only at he
  split at he
  ·rename_i x hp
   simp only[ah,aw]at he
   obtain⟨_,rfl,rfl⟩:=he
   cases ha with
   |bZ _ _ b off f hX h1 eN hr=>
    cases s with
    |none=>
     obtain⟨hj,rfl⟩:=ye hp
     refine⟨rfl,?_⟩
     exact rO (f:=fun i=>f (j+i)) (g:=fun i=>cs.getD (j+i) .any) (m:=1) hs fv hq ht
      (fun i hi=>by rw[eJ];exact eN _ (by omega)) (fun i hi=>h1 _ (by omega)) (fun i hi=>hr _ (by omega)) rfl rfl
    |some n=>
     obtain⟨hj,rfl⟩:=yf hp
     refine⟨rfl,?_⟩
     refine rO (f:=fun i=>f (j+i)) (g:=fun i=>cs.getD (j+i) .any) (m:=n) hs fv hq ht
      (fun i hi=>by rw[eJ];exact eN _ (by omega)) (fun i hi=>h1 _ (by omega)) (fun i hi=>hr _ (by omega)) rfl ?_
     exact congrArg AV.agg (sF cs j n AV.any hj)
  ·simp only[ah,aw]at he
   obtain⟨rfl,_,_⟩:=he
   exact hS.elim
 case ptr f i n e j=>
  simp only[obj]at he
  cases dQ:σ.at f i with
  |none=>rw[dQ]at he;simp at he
  |some ob=>
   rw[dQ]at he
   have ic:=hs.obj f i ob dQ
   cases ha with
   |ptr _ _ _ _ _ _ Mr hf hle h=>
    cases s with
    |none=>
     simp only[ah,aw]at he
     obtain⟨rfl,rfl,rfl⟩:=he
     obtain⟨hn,RT,hj⟩:=hS
     obtain⟨b,hb,rfl⟩:=h ob dQ hn
     have h2:=ic.2
     rw[hb]at h2
     obtain⟨c,eN,eX,h1,hr⟩:=h2.1 (ic.nA (by omega:e<ob.es.length))
     have bP:e*ob.k+j<c.size:=by
      have:=cj ob.k (show e+1<=ob.es.length by omega)
      rw[cP]at this;omega
     refine⟨rfl,?_⟩
     refine rO (f:=fun i=>c.getD (e*ob.k+(j+i)) undef) (g:=fun i=>(ob.es.getD e []).getD (j+i) .any) (m:=1) hs fv hq ht
      (fun i hi=>?_) (fun i hi=>h1 e (j+i) (by omega) (by omega)) (fun i hi=>hr e (j+i) (by omega) (by omega)) rfl rfl
     obtain rfl:i=0:=by omega
     rw[cell_of_row w b _ c _ _ eN]
     simp[af,bP]
    |some m=>
     simp only[ah,aw]at he
     obtain⟨rfl,rfl,rfl⟩:=he
     obtain⟨hn,RT,hj⟩:=hS
     obtain⟨b,hb,rfl⟩:=h ob dQ hn
     have h2:=ic.2
     rw[hb]at h2
     obtain⟨c,eN,eX,h1,hr⟩:=h2.1 (ic.nA (by omega:e<ob.es.length))
     have bP:e*ob.k+j+m<=c.size:=by
      have:=cj ob.k (show e+1<=ob.es.length by omega)
      rw[cP]at this;omega
     have hk:=ic.1 e (by omega)
     refine⟨rfl,?_⟩
     refine rO (f:=fun i=>c.getD (e*ob.k+(j+i)) undef) (g:=fun i=>(ob.es.getD e []).getD (j+i) .any) (m:=m) hs fv hq ht
      (fun i hi=>?_) (fun i hi=>h1 e (j+i) (by omega) (by omega)) (fun i hi=>hr e (j+i) (by omega) (by omega)) rfl ?_
     ·rw[cell_of_row w b _ c _ _ eN]
      simp[af,eJ,show e*ob.k+(j+i)<c.size by omega]
     ·exact congrArg AV.agg (sF (ob.es.getD e []) j m AV.any (by omega))
theorem OE{S:Prop}{r:AV}{σ':aG}{s:Option Nat}{y:O}(hc:ck P o.op (.load s y)=true)(hs:dG w X β σ)(hv:∀x z,dt x z=true->z∈(I.load s y).os->RV w (Xt X β σ) β σ (v z) (ρ x))(he:ex (.load s y) v σ=some (S,r,σ'))(hS:S):fi P o ρ w X β σ r σ':=by
 obtain⟨rfl,x,hr,hx⟩:=D2 hc hs hv he hS
 exact bQ hs hr hx
theorem U3{S:Prop}{r:AV}{σ':aG}{y:O}(hc:ck P o.op (.mv y)=true)(hs:dG w X β σ)(hv:∀x z,dt x z=true->z∈(I.mv y).os->RV w (Xt X β σ) β σ (v z) (ρ x))(he:ex (.mv y) v σ=some (S,r,σ'))(N8:S):fi P o ρ w X β σ r σ':=by
 simp only[ex,ah,aw]at he
 obtain⟨_,rfl,rfl⟩:=he
 cases fv:o.op<;>rw[fv]at hc<;>try(simp[ck]at hc;done)
 all_goals
  rename_i a
  refine bQ hs ?_ (hv a y (by simpa[ck]using hc) (by simp[I.os]))
  unfold execOp;rw[fv];rfl
theorem RU{S:Prop}{r:AV}{σ':aG}{op:BinOp}{y z:O}(hc:ck P o.op (.bin op y z)=true)(hs:dG w X β σ)(hv:∀x u,dt x u=true->u∈(I.bin op y z).os->RV w (Xt X β σ) β σ (v u) (ρ x))(he:ex (.bin op y z) v σ=some (S,r,σ'))(hS:S):fi P o ρ w X β σ r σ':=by
 cases fv:o.op<;>rw[fv]at hc<;>try(simp[ck]at hc;done)
 rename_i F5 t a b t'
 simp only[ck,ak,beq_iff_eq]at hc
 obtain⟨⟨rfl,h1⟩,h2⟩:=hc
 have ha:=hv a y h1 (by simp[I.os])
 have hb:=hv b z h2 (by simp[I.os])
 simp only[ex]at he
 split at he
 case h_2=>cases he
 rename_i S' r' yg
 simp only[ah,aw]at he
 obtain⟨rfl,rfl,rfl⟩:=he
 generalize v y=vy at ha yg
 generalize v z=vz at hb yg
 generalize jS:ρ a=qa at ha
 generalize ou:ρ b=qb at hb
 have hx:execOp ρ o=(do let x<-(do eqGuard F5 t a b (ρ a) (ρ b);binOp F5 t (ρ a) (ρ b));pure (.value x)):=by unfold execOp;rw[fv]
 have key:∃q,(do eqGuard F5 t a b qa qb;binOp F5 t qa qb:Sem Value).run P w=.ok q w/\r'=.v q:=by
  unfold bN at yg
  split at yg
  ·rename_i k m k' n
   split at yg
   ·rename_i hk;subst hk
    obtain rfl:=ha.dz
    obtain rfl:=hb.dz
    cases F5<;>simp only[ah,aw,reduceCtorEq]at yg<;>obtain⟨rfl,rfl⟩:=yg<;>
     first
      |(refine⟨_,?_,rfl⟩;simp[go_sem,Op.intArith,Op.intDiv,hS];done)
      |(refine⟨_,?_,rfl⟩;simp[go_sem,Op.intArith,Op.intDiv];done)
      |(refine⟨_,?_,rfl⟩;simp[go_sem,Op.shift,Int.not_lt.2 hS];done)
      |(refine⟨_,?_,rfl⟩;simp[go_sem];rfl)
   ·cases yg
  ·simp only[ah,aw]at yg
   obtain⟨rfl,rfl⟩:=yg
   exact hS.elim
  ·cases yg
 obtain⟨q,hq,rfl⟩:=key
 refine bQ hs ?_ (.v q)
 rw[hx,jS,ou]
 exact cE _ _ _ hq
theorem U4{S:Prop}{r:AV}{σ':aG}{op:UnOp}{y:O}(hc:ck P o.op (.un op y)=true)(hs:dG w X β σ)(hv:∀x u,dt x u=true->u∈(I.un op y).os->RV w (Xt X β σ) β σ (v u) (ρ x))(he:ex (.un op y) v σ=some (S,r,σ'))(N8:S):fi P o ρ w X β σ r σ':=by
 cases fv:o.op<;>rw[fv]at hc<;>try(simp[ck]at hc;done)
 rename_i F5 t a
 simp only[ck,ak,beq_iff_eq]at hc
 obtain⟨rfl,h1⟩:=hc
 have ha:=hv a y h1 (by simp[I.os])
 have hx:execOp ρ o=(do let x<-Op.unary F5 (ρ a);pure (.value x)):=by unfold execOp;rw[fv]
 simp only[ex]at he
 generalize v y=vy at ha he
 generalize jS:ρ a=qa at ha
 split at he
 ·simp only[ah,aw]at he
  obtain⟨_,rfl,rfl⟩:=he
  obtain rfl:=ha.dz
  refine bQ hs ?_ (.v _)
  rw[hx,jS];exact cE _ _ _ (by simp[Op.unary])
 ·simp only[ah,aw]at he
  obtain⟨_,rfl,rfl⟩:=he
  obtain rfl:=ha.dz
  refine bQ hs ?_ (.v _)
  rw[hx,jS];exact cE _ _ _ (by simp[Op.unary,Op.intArith])
 ·cases he
theorem RW{S:Prop}{r:AV}{σ':aG}{k:IntKind}{y:O}(hc:ck P o.op (.N6 k y)=true)(hs:dG w X β σ)(hv:∀x u,dt x u=true->u∈(I.N6 k y).os->RV w (Xt X β σ) β σ (v u) (ρ x))(he:ex (.N6 k y) v σ=some (S,r,σ'))(N8:S):fi P o ρ w X β σ r σ':=by
 cases fv:o.op<;>rw[fv]at hc<;>try(simp[ck]at hc;done)
 rename_i t u a
 simp only[ck,ak]at hc
 obtain⟨⟨h1,h2⟩,h3⟩:=hc
 have ha:=hv a y h1 (by simp[I.os])
 obtain⟨T,hT⟩:=dy.1 h2
 cases hU:P.underlying u with
 |none=>rw[hU]at h3;cases h3
 |some U=>
  rw[hU]at h3
  cases U<;>try(simp at h3;done)
  rename_i k'
  simp only[beq_iff_eq]at h3
  subst h3
  have hx:execOp ρ o=(do let x<-convert t u (ρ a);pure (.value x)):=by unfold execOp;rw[fv]
  simp only[ex]at he
  generalize v y=vy at ha he
  generalize jS:ρ a=qa at ha
  split at he
  ·simp only[ah,aw]at he
   obtain⟨_,rfl,rfl⟩:=he
   obtain rfl:=ha.dz
   refine bQ hs ?_ (.v _)
   rw[hx,jS];exact cE _ _ _ (by simp[convert,go_sem,underlying,hT,hU,Conv.intToInt])
  ·cases he
theorem D3{t:TypeId}{n off:Nat}{ft:TypeId}(h:RR P t n=some (off,ft)):∃fs f,P.underlying t=some (.struct fs)/\fs[n]?=some f/\f.offset=off/\f.type=ft:=by
 unfold RR at h
 split at h
 ·rename_i fs hu
  obtain⟨f,hf,he⟩:=aL.1 h
  simp only[aw]at he
  exact⟨fs,f,hu,hf,he.1,he.2⟩
 ·cases h
theorem wK{t:TypeId}{n off:Nat}{ft:TypeId}{a:Addr}{s:Nat}(h:RR P t n=some (off,ft))(hs:nh P ft=some s)(h0:s≠0):(Instr.fieldAt t (.pointer (some a)) n).run P w=.ok (.pointer (some (a.add off))) w:=by
 obtain⟨fs,f,hu,hf,rfl,rfl⟩:=D3 h
 unfold nh at hs
 obtain⟨i,hi,rfl⟩:=aL.1 hs
 simp[Instr.fieldAt,run_underlying hu,hf,Instr.sureAddr,fieldPlace,sizeOf,typeInfo,hi,h0]
theorem Lf{S:Prop}{r:AV}{σ':aG}{off:Nat}{y:O}(hc:ck P o.op (.tZ off y)=true)(hs:dG w X β σ)(hv:∀x u,dt x u=true->u∈(I.tZ off y).os->RV w (Xt X β σ) β σ (v u) (ρ x))(he:ex (.tZ off y) v σ=some (S,r,σ'))(hS:S):fi P o ρ w X β σ r σ':=by
 cases fv:o.op<;>rw[fv]at hc<;>try(simp[ck]at hc;done)
 rename_i t a n
 simp only[ck,ak]at hc
 obtain⟨h1,h2⟩:=hc
 have ha:=hv a y h1 (by simp[I.os])
 have hx:execOp ρ o=(do let x<-Instr.fieldAt t (ρ a) n;pure (.value x)):=by unfold execOp;rw[fv]
 cases QO:RR P t n with
 |none=>rw[QO]at h2;simp at h2
 |some p=>
  obtain⟨RX,ft⟩:=p
  rw[QO]at h2
  simp only[ak,beq_iff_eq]at h2
  obtain⟨rfl,h2⟩:=h2
  cases eX:nh P ft with
  |none=>rw[eX]at h2;simp at h2
  |some s=>
   rw[eX]at h2
   simp only[bne_iff_ne]at h2
   simp only[ex]at he
   generalize v y=vy at ha he
   generalize jS:ρ a=qa at ha
   cases vy<;>try(simp at he;done)
   case bZ cs j=>
    simp only[ah,aw]at he
    obtain⟨_,rfl,rfl⟩:=he
    cases ha with
    |bZ _ _ b q f hX h1 eN hr=>
     refine bQ (x:=.pointer (some ⟨b,q+(j+RX),none⟩)) hs ?_ (.bZ cs _ b q f hX h1 eN hr)
     rw[hx,jS]
     refine cE _ _ _ ?_
     rw[wK QO eX h2,c9,eJ]
   case ptr f i n e j=>
    simp only[obj]at he
    cases dQ:σ.at f i with
    |none=>rw[dQ]at he;simp at he
    |some ob=>
     rw[dQ]at he
     simp only[ah,aw]at he
     obtain⟨rfl,rfl,rfl⟩:=he
     cases ha with
     |ptr _ _ _ _ _ _ Mr hf hle h=>
      obtain⟨b,hb,rfl⟩:=h ob dQ hS
      refine bQ (x:=.pointer (some ⟨b,e*ob.k+(j+RX),none⟩)) hs ?_ (.ptr f i n e _ _ rfl hf hle fun o' dN yh=>?_)
      ·rw[hx,jS]
       refine cE _ _ _ ?_
       rw[wK QO eX h2,c9,eJ]
      ·rw[dQ]at dN;injection dN with dN;subst dN
       exact⟨b,hb,rfl⟩
theorem RY{S:Prop}{r:AV}{σ':aG}{neg:Bool}{y z:O}(hc:ck P o.op (.Ox neg y z)=true)(hs:dG w X β σ)(hv:∀x u,dt x u=true->u∈(I.Ox neg y z).os->RV w (Xt X β σ) β σ (v u) (ρ x))(he:ex (.Ox neg y z) v σ=some (S,r,σ'))(N8:S):fi P o ρ w X β σ r σ':=by
 cases fv:o.op<;>rw[fv]at hc<;>try(simp[ck]at hc;done)
 rename_i F5 t a b t'
 simp only[ck,ak,beq_iff_eq]at hc
 obtain⟨⟨⟨rfl,h1⟩,h2⟩,h3⟩:=hc
 have ha:=hv a y h1 (by simp[I.os])
 have hb:=hv b z h2 (by simp[I.os])
 have hu:P.underlying t=some .bool:=by
  revert h3;split<;>simp_all
 simp only[ex]at he
 generalize v y=vy at ha he
 generalize v z=vz at hb he
 generalize jS:ρ a=qa at ha
 generalize ou:ρ b=qb at hb
 split at he
 case h_2=>cases he
 simp only[ah,aw]at he
 obtain⟨_,rfl,rfl⟩:=he
 obtain rfl:=ha.dz
 obtain rfl:=hb.dz
 refine bQ hs ?_ (.v _)
 unfold execOp;rw[fv]
 simp only[jS,ou]
 refine cE _ _ _ ?_
 rename_i p q _
 cases neg<;>simp[go_sem,binOp,Op.equal,Op.maxDepth,run_equalIn_bool' (P:=P) w 9999 t p q hu]<;>(cases p<;>cases q<;>rfl)
theorem Lg{S:Prop}{r:AV}{σ':aG}{off:Nat}{s:Option Nat}{y:O}(hc:ck P o.op (.field off s y)=true)(hs:dG w X β σ)(hv:∀x u,dt x u=true->u∈(I.field off s y).os->RV w (Xt X β σ) β σ (v u) (ρ x))(he:ex (.field off s y) v σ=some (S,r,σ'))(N8:S):fi P o ρ w X β σ r σ':=by
 cases fv:o.op<;>rw[fv]at hc<;>try(simp[ck]at hc;done)
 rename_i t a n
 simp only[ck,ak]at hc
 obtain⟨h1,h2⟩:=hc
 have ha:=hv a y h1 (by simp[I.os])
 have hx:execOp ρ o=(do let x<-Instr.field t (ρ a) n;pure (.value x)):=by unfold execOp;rw[fv]
 cases QO:RR P t n with
 |none=>rw[QO]at h2;simp at h2
 |some p=>
  obtain⟨RX,ft⟩:=p
  rw[QO]at h2
  simp only[ak,beq_iff_eq]at h2
  obtain⟨rfl,h2⟩:=h2
  obtain⟨fs,f,hu,hf,rfl,rfl⟩:=D3 QO
  simp only[ex]at he
  generalize v y=vy at ha he
  generalize jS:ρ a=qa at ha
  cases vy<;>try(simp at he;done)
  rename_i cs
  simp only at he
  split at he
  case h_2=>cases he
  rename_i u hp
  simp only[ah,aw]at he
  obtain⟨_,rfl,rfl⟩:=he
  obtain⟨xs,rfl,hn,jN,hr⟩:=ha.xL
  have hd:∃d,P.underlying f.type=some d:=by
   cases sv:su P f.type with
   |none=>rw[sv]at h2;simp at h2
   |some q=>unfold su at sv;obtain⟨d,hd,_⟩:=aL.1 sv;exact⟨d,hd⟩
  obtain⟨d,hd⟩:=hd
  cases s with
  |none=>
   obtain⟨hj,rfl⟩:=ye hp
   have sv:su P f.type=some false:=by
    cases sv:su P f.type with
    |none=>rw[sv]at h2;simp at h2
    |some q=>rw[sv]at h2;cases q<;>simp_all
   have D4:(isAgg f.type).run P w=.ok false w:=by
    unfold su at sv
    rw[hd]at sv
    simp only[isAgg,bx,run_underlying hd,bg]
    cases d<;>first|rfl|simp at sv
   refine bQ (x:=xs.getD f.offset undef) hs ?_ (hr _ hj)
   rw[hx,jS]
   refine cE _ _ _ ?_
   have bP:f.offset<xs.size:=by omega
   simp[Instr.field,run_underlying hu,hf,asAgg,part,D4,af,bP]
  |some m=>
   obtain⟨hj,rfl⟩:=yf hp
   have sv:su P f.type=some true/\nh P f.type=some m:=by
    cases sv:su P f.type with
    |none=>rw[sv]at h2;simp at h2
    |some q=>rw[sv]at h2;cases q<;>simp_all
   obtain⟨sv,eX⟩:=sv
   have D4:(isAgg f.type).run P w=.ok true w:=by
    unfold su at sv
    rw[hd]at sv
    simp only[isAgg,bx,run_underlying hd,bg]
    cases d<;>first|rfl|simp at sv
   unfold nh at eX
   obtain⟨i,hi,rfl⟩:=aL.1 eX
   have e1:((List.drop f.offset cs).take i.size).length=i.size:=jU _ _ _ hj
   refine bQ (x:=.agg (xs.extract f.offset (f.offset+i.size))) hs ?_ (.agg _ _ (by simp;omega) (fun t ht=>?_) fun t ht=>?_)
   ·rw[hx,jS]
    refine cE _ _ _ ?_
    simp[Instr.field,run_underlying hu,hf,asAgg,part,D4,sizeOf,typeInfo,hi]
   ·rw[e1]at ht
    have:=jN (f.offset+t) (by omega)
    rw[ua _ _ _ _ _ (by omega) (by omega)];exact this
   ·rw[e1]at ht
    rw[mc _ _ _ _ _ ht]
    have:=hr (f.offset+t) (by omega)
    rw[ua _ _ _ _ _ (by omega) (by omega)];exact this
end
section
variable {P:Program} {o:Oper} {ρ:Operand->Value} {w:World} {X:Nat->Prop} {β:gr} {σ:aG} {v:O->AV}
theorem iO{t e:TypeId}(h:xK P t=some e):P.underlying t=some (.slice e):=by
 unfold xK at h;split at h
 ·rename_i e' hu;injection h with h;subst h;exact hu
 ·cases h
theorem fS{t:TypeId}{k:Nat}(h:nh P t=some k):∃i,P.info? t=some i/\i.size=k:=by
 unfold nh at h;exact aL.1 h
theorem rP{t e:TypeId}{s:Nat}{b off len cap:Nat}{k:IntKind}{z:Int}(he:xK P t=some e)(hs:nh P e=some s)(h0:0<=z)(h1:z<len):(Instr.indexAt t (.slice (some ⟨b,off,none⟩) len cap) (.int k z)).run P w=.ok (.pointer (some ⟨b,off+z.toNat*s,none⟩)) w:=by
 have hu:=iO he
 obtain⟨i,hi,rfl⟩:=fS hs
 simp[Instr.indexAt,run_underlying hu,asIntOf,h0,h1,sizeOf,typeInfo,hi,c9]
theorem Lh{S:Prop}{r:AV}{σ':aG}{k:Nat}{y z:O}(hc:ck P o.op (.qe k y z)=true)(hs:dG w X β σ)(hv:∀x u,dt x u=true->u∈(I.qe k y z).os->RV w (Xt X β σ) β σ (v u) (ρ x))(he:ex (.qe k y z) v σ=some (S,r,σ'))(hS:S):fi P o ρ w X β σ r σ':=by
 cases fv:o.op<;>rw[fv]at hc<;>try(simp[ck]at hc;done)
 rename_i t a b
 simp only[ck,ak]at hc
 obtain⟨⟨h1,h2⟩,h3⟩:=hc
 have ha:=hv a y h1 (by simp[I.os])
 have hb:=hv b z h2 (by simp[I.os])
 have hx:execOp ρ o=(do let x<-Instr.indexAt t (ρ a) (ρ b);pure (.value x)):=by unfold execOp;rw[fv]
 cases oy:xK P t with
 |none=>rw[oy]at h3;simp at h3
 |some e=>
 rw[oy]at h3
 simp only[beq_iff_eq]at h3
 simp only[ex]at he
 generalize v y=vy at ha he
 generalize v z=vz at hb he
 generalize jS:ρ a=qa at ha
 generalize ou:ρ b=qb at hb
 split at he
 ·rename_i k' es q i
  split at he
  case isFalse=>cases he
  rename_i hk;subst hk
  simp only[ah,aw]at he
  obtain⟨rfl,rfl,rfl⟩:=he
  obtain rfl:=hb.dz
  obtain⟨g0,g1⟩:=hS
  cases ha with
  |slnil=>simp at g1;omega
  |k9=>simp at g1;omega
  |sl _ _ b' off cap f ep hk hc hX h1 hr=>
   have bP:i.toNat<es.length:=by omega
   refine bQ (x:=.pointer (some ⟨b',off+i.toNat*k'+0,none⟩)) hs ?_ (.bZ _ 0 b' (off+i.toNat*k') (fun j=>f i.toNat j) (fun t ht=>?_) (fun t ht=>?_) (fun t ht=>?_) fun t ht=>?_)
   ·rw[hx,jS,ou]
    exact cE _ _ _ (rP oy h3 g0 g1)
   ·rw[hk _ bP]at ht;exact hX _ _ bP ht
   ·rw[hk _ bP]at ht;exact h1 _ _ bP ht
   ·rw[hk _ bP]at ht;exact hc _ bP _ ht
   ·rw[hk _ bP]at ht;exact hr _ _ bP ht
 ·rename_i f i n q z'
  simp only[obj]at he
  cases dQ:σ.at f i with
  |none=>rw[dQ]at he;simp at he
  |some ob=>
   rw[dQ]at he
   simp only[ah,aw]at he
   obtain⟨rfl,rfl,rfl⟩:=he
   obtain⟨rfl,rfl,g0,g1⟩:=hS
   obtain rfl:=hb.dz
   cases ha with
   |own _ _ _ _ Mr hf hle h=>
    have h':=h ob dQ rfl
    unfold kD at h'
    cases nf:β f i with
    |none=>
     rw[nf]at h'
     rw[h'.1]at g1;simp at g1;omega
    |some b'=>
     rw[nf]at h'
     obtain⟨cap,c,T,rfl,_,_⟩:=h'
     refine bQ (x:=.pointer (some ⟨b',0+z'.toNat*ob.k,none⟩)) hs ?_ (.ptr f i _ _ 0 _ rfl hf (fun o' dN=>?_) fun o' dN yh=>?_)
     ·rw[hx,jS,ou]
      exact cE _ _ _ (rP oy h3 g0 g1)
     ·rw[dQ]at dN;injection dN with dN;subst dN;exact ar _
     ·rw[dQ]at dN;injection dN with dN;subst dN
      exact⟨b',nf,by simp⟩
 ·rename_i f i n q z'
  simp only[obj]at he
  cases dQ:σ.at f i with
  |none=>rw[dQ]at he;simp at he
  |some ob=>
   rw[dQ]at he
   simp only[ah,aw]at he
   obtain⟨rfl,rfl,rfl⟩:=he
   obtain⟨rfl,rfl,g0,g1⟩:=hS
   obtain rfl:=hb.dz
   cases ha with
   |tight _ _ _ _ ha _=>
   cases ha with
   |own _ _ _ _ Mr hf hle h=>
    have h':=h ob dQ rfl
    unfold kD at h'
    cases nf:β f i with
    |none=>
     rw[nf]at h'
     rw[h'.1]at g1;simp at g1;omega
    |some b'=>
     rw[nf]at h'
     obtain⟨cap,c,T,rfl,_,_⟩:=h'
     refine bQ (x:=.pointer (some ⟨b',0+z'.toNat*ob.k,none⟩)) hs ?_ (.ptr f i _ _ 0 _ rfl hf (fun o' dN=>?_) fun o' dN yh=>?_)
     ·rw[hx,jS,ou]
      exact cE _ _ _ (rP oy h3 g0 g1)
     ·rw[dQ]at dN;injection dN with dN;subst dN;exact ar _
     ·rw[dQ]at dN;injection dN with dN;subst dN
      exact⟨b',nf,by simp⟩
 ·rename_i f i n lo q z'
  simp only[obj]at he
  cases dQ:σ.at f i with
  |none=>rw[dQ]at he;simp at he
  |some ob=>
   rw[dQ]at he
   simp only[ah,aw]at he
   obtain⟨rfl,rfl,rfl⟩:=he
   obtain⟨rfl,rfl,g0,g1⟩:=hS
   obtain rfl:=hb.dz
   cases ha with
   |sub _ _ _ _ _ Mr hf hle h=>
    obtain⟨h5,a',cap,rfl,h6⟩:=h ob dQ rfl
    obtain⟨b',nf,rfl⟩:=h6 (by omega)
    refine bQ (x:=.pointer (some ⟨b',lo*ob.k+z'.toNat*ob.k,none⟩)) hs ?_ (.ptr f i _ _ 0 _ rfl hf (fun o' dN=>?_) fun o' dN yh=>?_)
    ·rw[hx,jS,ou]
     exact cE _ _ _ (rP oy h3 g0 (by omega))
    ·rw[dQ]at dN;injection dN with dN;subst dN;exact ar _
    ·rw[dQ]at dN;injection dN with dN;subst dN
     exact⟨b',nf,by rw[cP];simp⟩
 ·cases he
theorem RZ{S:Prop}{r:AV}{σ':aG}{n:Nat}{y:O}(hc:ck P o.op (.ext n y)=true)(hs:dG w X β σ)(hv:∀x u,dt x u=true->u∈(I.ext n y).os->RV w (Xt X β σ) β σ (v u) (ρ x))(he:ex (.ext n y) v σ=some (S,r,σ'))(N8:S):fi P o ρ w X β σ r σ':=by
 cases fv:o.op<;>rw[fv]at hc<;>try(simp[ck]at hc;done)
 rename_i a m
 simp only[ck,ak,beq_iff_eq]at hc
 obtain⟨h1,rfl⟩:=hc
 have ha:=hv a y h1 (by simp[I.os])
 have hx:execOp ρ o=(do let x<-Instr.extract (ρ a) m;pure (.value x)):=by unfold execOp;rw[fv]
 simp only[ex]at he
 generalize v y=vy at ha he
 generalize jS:ρ a=qa at ha
 cases vy<;>try(simp at he;done)
 rename_i cs
 simp only at he
 split at he
 case h_2=>cases he
 rename_i u hp
 simp only[ah,aw]at he
 obtain⟨_,rfl,rfl⟩:=he
 obtain⟨xs,rfl,hn,hr⟩:=ha.OD
 obtain⟨bP,hu⟩:=ai.1 hp
 have:=hr m bP
 rw[ab,hp]at this
 refine bQ (x:=xs.getD m undef) hs ?_ this
 rw[hx,jS]
 refine cE _ _ _ ?_
 have Li:m<xs.size:=by omega
 simp[Instr.extract,af,Li]
theorem R0{S:Prop}{r:AV}{σ':aG}{y:O}(hc:ck P o.op (.len y)=true)(hs:dG w X β σ)(hv:∀x u,dt x u=true->u∈(I.len y).os->RV w (Xt X β σ) β σ (v u) (ρ x))(he:ex (.len y) v σ=some (S,r,σ'))(hS:S):fi P o ρ w X β σ r σ':=by
 cases fv:o.op<;>rw[fv]at hc<;>try(simp[ck]at hc;done)
 rename_i c
 obtain⟨Ao,args,ts⟩:=c
 cases Ao<;>try(simp[ck]at hc;done)
 rename_i bi
 cases bi<;>try(simp[ck]at hc;done)
 simp only[ck]at hc
 split at hc
 case h_2=>cases hc
 rename_i a t nT DR
 obtain⟨args⟩:=args
 obtain⟨ts⟩:=ts
 simp only at nT DR
 subst nT;subst DR
 simp only[ak]at hc
 obtain⟨h1,h2⟩:=hc
 obtain⟨e,oy⟩:=dy.1 h2
 have hu:=iO oy
 have ha:=hv a y h1 (by simp[I.os])
 have hx:execOp ρ o=(do let d<-resolve ρ ⟨.builtin .len,#[a],#[t]⟩ o.type;invoke d.target d.args):=by unfold execOp;rw[fv]
 have key:∀(q:Option Addr) (n cap:Nat),ρ a=.slice q n cap->(execOp ρ o).run P w=.ok (.value (.int .i64 n)) w:=by
  intro q n cap hq
  rw[hx]
  simp[resolve,invoke,builtin,Builtin.len_,run_underlying hu,hq,goInt]
 simp only[ex]at he
 generalize v y=vy at ha he
 generalize jS:ρ a=qa at ha
 split at he
 ·simp only[ah,aw]at he
  obtain⟨_,rfl,rfl⟩:=he
  cases ha with
  |slnil=>exact bQ hs (key _ _ _ jS) (.v _)
  |k9=>exact bQ hs (key _ _ _ jS) (.v _)
  |sl _ _ b' off cap f ep hk hc hX h1 hr=>exact bQ hs (key _ _ _ jS) (.v _)
 ·rename_i f i n
  simp only[obj]at he
  cases dQ:σ.at f i with
  |none=>rw[dQ]at he;simp at he
  |some ob=>
   rw[dQ]at he
   simp only[ah,aw]at he
   obtain⟨rfl,rfl,rfl⟩:=he
   cases ha with
   |own _ _ _ _ Mr hf hle h=>
    have h':=h ob dQ hS
    unfold kD at h'
    cases nf:β f i with
    |none=>
     rw[nf]at h'
     obtain⟨e0,rfl⟩:=h'
     have:n=0:=by rw[<-hS,e0];rfl
     subst this
     exact bQ hs (key _ _ _ jS) (.v _)
    |some b'=>
     rw[nf]at h'
     obtain⟨cap,c,T,rfl,_,_⟩:=h'
     rw[hS]at jS
     exact bQ hs (key _ _ _ jS) (.v _)
 ·simp only[ah,aw]at he
  obtain⟨_,rfl,rfl⟩:=he
  obtain rfl:=ha.dz
  exact bQ hs (key _ _ _ jS) (.v _)
 ·rename_i f i n lo
  simp only[obj]at he
  cases dQ:σ.at f i with
  |none=>rw[dQ]at he;simp at he
  |some ob=>
   rw[dQ]at he
   simp only[ah,aw]at he
   obtain⟨rfl,rfl,rfl⟩:=he
   cases ha with
   |sub _ _ _ _ _ Mr hf hle h=>
    obtain⟨h5,a',cap,rfl,h6⟩:=h ob dQ hS
    refine bQ hs (key _ _ _ jS) ?_
    rw[show((n:Int)-(lo:Int))=((ob.es.length-lo:Nat):Int) by omega]
    exact .v _
 ·cases he
theorem OG{S:Prop}{r:AV}{σ':aG}{f:Fn}{as_ bs:List O}(hc:ck P o.op (.j5 f as_ bs)=true)(hs:dG w X β σ)(hv:∀x u,dt x u=true->u∈(I.j5 f as_ bs).os->RV w (Xt X β σ) β σ (v u) (ρ x))(he:ex (.j5 f as_ bs) v σ=some (S,r,σ'))(N8:S):fi P o ρ w X β σ r σ':=by
 cases fv:o.op<;>rw[fv]at hc<;>try(simp[ck]at hc;done)
 rename_i f' xs ys
 simp only[ck,ak,decide_eq_true_eq]at hc
 obtain⟨⟨rfl,h1⟩,h2⟩:=hc
 obtain⟨xs⟩:=xs
 obtain⟨ys⟩:=ys
 simp only[ex,ah,aw]at he
 obtain⟨_,rfl,rfl⟩:=he
 have hx:execOp ρ o=(do let x<-Instr.makeFunc f' (xs.toArray.map ρ) (ys.toArray.map ρ);pure (.value x)):=by unfold execOp;rw[fv]
 have key:∀(l:List Operand) (m:List O),iz l m=true->l.length=m.length/\∀i (hi:i<m.length) (km:i<l.length),dt l[i] m[i]=true:=by
  intro l
  induction l with
  |nil=>intro m h;cases m<;>simp_all[iz]
  |cons a l ih=>
   intro m h
   cases m with
   |nil=>simp[iz]at h
   |cons b m=>
    simp only[iz,ak]at h
    obtain⟨e1,e2⟩:=ih m h.2
    refine⟨by simp[e1],fun i hi km=>?_⟩
    cases i with
    |zero=>simpa using h.1
    |succ i=>simpa using e2 i (by simpa using hi) (by simpa using km)
 obtain⟨e1,g1⟩:=key _ _ h1
 obtain⟨e2,g2⟩:=key _ _ h2
 refine bQ (x:=.func f' (xs.toArray.map ρ) (ys.toArray.map ρ)) hs ?_ (.fn _ _ _ _ _ (by simpa using e1) (by simpa using e2) (fun i hi=>?_) fun i hi=>?_)
 ·rw[hx];exact cE _ _ _ (by simp[Instr.makeFunc])
 ·simp only[aF]at hi
  have km:i<xs.length:=by rw[e1];exact hi
  have:=hv xs[i] as_[i] (g1 i hi km) (by simp[I.os])
  simpa[ab,af,hi,km]using this
 ·simp only[aF]at hi
  have km:i<ys.length:=by rw[e2];exact hi
  have:=hv ys[i] bs[i] (g2 i hi km) (by simp[I.os])
  simpa[ab,af,hi,km]using this
theorem R3{S:Prop}{r:AV}{σ':aG}{T:Nat}{y:O}(hc:ck P o.op (.l6 T y)=true)(hs:dG w X β σ)(hv:∀x u,dt x u=true->u∈(I.l6 T y).os->RV w (Xt X β σ) β σ (v u) (ρ x))(he:ex (.l6 T y) v σ=some (S,r,σ'))(N8:S):fi P o ρ w X β σ r σ':=by
 cases fv:o.op<;>rw[fv]at hc<;>try(simp[ck]at hc;done)
 rename_i t a
 simp only[ck,ak,beq_iff_eq]at hc
 obtain⟨⟨rfl,h1⟩,h2⟩:=hc
 have ha:=hv a y h1 (by simp[I.os])
 simp only[ex,ah,aw]at he
 obtain⟨_,rfl,rfl⟩:=he
 refine bQ (x:=.iface t (ρ a)) hs ?_ (.l6 _ _ _ ha)
 unfold execOp;rw[fv]
 refine cE _ _ _ ?_
 cases hu:P.underlying t with
 |none=>rw[hu]at h2;simp at h2
 |some d=>
  rw[hu]at h2
  simp only[Instr.makeInterface,bx,run_underlying hu,bg]
  cases d<;>first|rfl|simp at h2
theorem OH{S:Prop}{r:AV}{σ':aG}{y:O}(hc:ck P o.op (.dY y)=true)(hs:dG w X β σ)(hv:∀x u,dt x u=true->u∈(I.dY y).os->RV w (Xt X β σ) β σ (v u) (ρ x))(he:ex (.dY y) v σ=some (S,r,σ'))(hS:S):fi P o ρ w X β σ r σ':=by
 cases fv:o.op<;>rw[fv]at hc<;>try(simp[ck]at hc;done)
 rename_i a
 simp only[ck]at hc
 have ha:=hv a y hc (by simp[I.os])
 simp only[ex]at he
 generalize hvy:v y=vy at ha he
 generalize jS:ρ a=qa at ha
 have hx:(∃p,qa=.pointer (some p))\/(∃n f c,qa=.func (.func n) f c)\/(∃t x,qa=.iface t x)->(execOp ρ o).run P w=.ok (.value qa) w:=by
  rintro(⟨p,rfl⟩|⟨n,f,c,rfl⟩|⟨t,x,rfl⟩)<;>(unfold execOp;rw[fv];simp only[jS];rfl)
 cases vy<;>try(simp at he;done)
 case ptr f i n e j=>
  simp only[obj]at he
  cases dQ:σ.at f i with
  |none=>rw[dQ]at he;simp at he
  |some ob=>
   rw[dQ]at he
   simp only[ah,aw]at he
   obtain⟨rfl,rfl,rfl⟩:=he
   have OI:=ha
   cases ha with
   |ptr _ _ _ _ _ _ Mr hf hle h=>
    obtain⟨b,hb,rfl⟩:=h ob dQ hS
    exact bQ hs (hx (.inl ⟨_,rfl⟩)) OI
 case bZ cs j=>
  simp only[ah,aw]at he
  obtain⟨_,rfl,rfl⟩:=he
  have OI:=ha
  cases ha with
  |bZ _ _ b q f hX h1 eN hr=>exact bQ hs (hx (.inl ⟨_,rfl⟩)) OI
 case fn f a b=>
  cases f<;>try(simp at he;done)
  simp only[ah,aw]at he
  obtain⟨_,rfl,rfl⟩:=he
  have OI:=ha
  cases ha with
  |fn _ _ _ xs ys hn hm h h'=>exact bQ hs (hx (.inr (.inl ⟨_,_,_,rfl⟩))) OI
 case l6 t x=>
  simp only[ah,aw]at he
  obtain⟨_,rfl,rfl⟩:=he
  have OI:=ha
  cases ha with
  |l6 _ _ x h=>exact bQ hs (hx (.inr (.inr ⟨_,_,rfl⟩))) OI
theorem R4{S:Prop}{r:AV}{σ':aG}{mx:Bool}{y z:O}(hc:ck P o.op (.tN mx y z)=true)(hs:dG w X β σ)(hv:∀x u,dt x u=true->u∈(I.tN mx y z).os->RV w (Xt X β σ) β σ (v u) (ρ x))(he:ex (.tN mx y z) v σ=some (S,r,σ'))(N8:S):fi P o ρ w X β σ r σ':=by
 cases fv:o.op<;>rw[fv]at hc<;>try(simp[ck]at hc;done)
 rename_i c
 obtain⟨Ao,args,ts⟩:=c
 cases Ao<;>try(simp[ck]at hc;done)
 rename_i bi
 have key:∃a b,args=#[a,b]/\dt a y=true/\dt b z=true/\bi=(if mx then .max else .min):=by
  cases bi<;>simp only[ck,ak,bw]at hc
  all_goals
   obtain⟨hm,hc⟩:=hc
   obtain⟨args⟩:=args
   rcases args with _|⟨a,_|⟨b,_|⟨c,l⟩⟩⟩<;>simp[iz]at hc
   exact⟨a,b,rfl,hc.1,hc.2,by cases mx<;>simp_all⟩
 obtain⟨a,b,rfl,h1,h2,rfl⟩:=key
 have ha:=hv a y h1 (by simp[I.os])
 have hb:=hv b z h2 (by simp[I.os])
 simp only[ex]at he
 generalize v y=vy at ha he
 generalize v z=vz at hb he
 generalize jS:ρ a=qa at ha
 generalize ou:ρ b=qb at hb
 split at he
 case h_2=>cases he
 rename_i k p k' q
 split at he
 case isFalse=>cases he
 rename_i hk;subst hk
 simp only[ah,aw]at he
 obtain⟨_,rfl,rfl⟩:=he
 obtain rfl:=ha.dz
 obtain rfl:=hb.dz
 refine bQ hs ?_ (.v _)
 unfold execOp;rw[fv]
 cases mx
 ·simp[resolve,invoke,builtin,Builtin.min_,Builtin.min2,jS,ou]
  rw[Int.min_def];split<;>split<;>first|rfl|omega
 ·simp[resolve,invoke,builtin,Builtin.max_,Builtin.max2,jS,ou]
  rw[Int.max_def];split<;>split<;>first|rfl|omega
theorem R5{S:Prop}{r:AV}{σ':aG}{mx:Bool}{y z u:O}(hc:ck P o.op (.Oy mx y z u)=true)(hs:dG w X β σ)(hv:∀x q,dt x q=true->q∈(I.Oy mx y z u).os->RV w (Xt X β σ) β σ (v q) (ρ x))(he:ex (.Oy mx y z u) v σ=some (S,r,σ'))(N8:S):fi P o ρ w X β σ r σ':=by
 cases fv:o.op<;>rw[fv]at hc<;>try(simp[ck]at hc;done)
 rename_i c
 obtain⟨Ao,args,ts⟩:=c
 cases Ao<;>try(simp[ck]at hc;done)
 rename_i bi
 have key:∃a b c,args=#[a,b,c]/\dt a y=true/\dt b z=true/\dt c u=true/\bi=(if mx then .max else .min):=by
  cases bi<;>simp only[ck,ak,bw]at hc
  all_goals
   obtain⟨hm,hc⟩:=hc
   obtain⟨args⟩:=args
   rcases args with _|⟨a,_|⟨b,_|⟨c,_|⟨d,l⟩⟩⟩⟩<;>simp[iz]at hc
   exact⟨a,b,c,rfl,hc.1,hc.2.1,hc.2.2,by cases mx<;>simp_all⟩
 obtain⟨a,b,c,rfl,h1,h2,h3,rfl⟩:=key
 have ha:=hv a y h1 (by simp[I.os])
 have hb:=hv b z h2 (by simp[I.os])
 have lC:=hv c u h3 (by simp[I.os])
 simp only[ex]at he
 generalize v y=vy at ha he
 generalize v z=vz at hb he
 generalize v u=vu at lC he
 generalize jS:ρ a=qa at ha
 generalize ou:ρ b=qb at hb
 generalize Us:ρ c=qc at lC
 split at he
 case h_2=>cases he
 rename_i k p k' q Uz s
 split at he
 case isFalse=>cases he
 rename_i hk;obtain⟨rQ,me⟩:=hk;subst rQ;subst me
 simp only[ah,aw]at he
 obtain⟨_,rfl,rfl⟩:=he
 obtain rfl:=ha.dz
 obtain rfl:=hb.dz
 obtain rfl:=lC.dz
 refine bQ hs ?_ (.v _)
 unfold execOp;rw[fv]
 cases mx
 ·simp[resolve,invoke,builtin,Builtin.min_,Builtin.min2,jS,ou,Us]
  repeat' split
  all_goals first
   |rfl
   |(simp[Builtin.min2];(repeat' split);all_goals(first|(congr 1;omega)|omega|(simp;omega)))
   |(congr 1;omega)
   |omega
 ·simp[resolve,invoke,builtin,Builtin.max_,Builtin.max2,jS,ou,Us]
  repeat' split
  all_goals first
   |rfl
   |(simp[Builtin.max2];(repeat' split);all_goals(first|(congr 1;omega)|omega|(simp;omega)))
   |(congr 1;omega)
   |omega
theorem xq(d:Nat){t e:TypeId}(hu:P.underlying t=some (.slice e))(q:Option Addr)(n m n' m':Nat):(Op.equalIn (d+1) t (.slice q n m) (.slice none n' m')).run P w=.ok q.isNone w:=by
 unfold Op.equalIn
 rw[bx,run_underlying hu]
 cases q<;>rfl
theorem OJ{S:Prop}{r:AV}{σ':aG}{neg:Bool}{y z:O}(hc:ck P o.op (.qH neg y z)=true)(hs:dG w X β σ)(hv:∀x u,dt x u=true->u∈(I.qH neg y z).os->RV w (Xt X β σ) β σ (v u) (ρ x))(he:ex (.qH neg y z) v σ=some (S,r,σ'))(hS:S):fi P o ρ w X β σ r σ':=by
 cases fv:o.op<;>rw[fv]at hc<;>try(simp[ck]at hc;done)
 rename_i F5 t a b t'
 simp only[ck,ak,beq_iff_eq]at hc
 obtain⟨⟨⟨rfl,h1⟩,h2⟩,h3⟩:=hc
 have ha:=hv a y h1 (by simp[I.os])
 have hb:=hv b z h2 (by simp[I.os])
 obtain⟨e,oy⟩:=dy.1 h3
 have hu:=iO oy
 have key:∀(q:Option Addr) (n m n' m':Nat),ρ a=.slice q n m->ρ b=.slice none n' m'->(execOp ρ o).run P w=.ok (.value (.bool (bif neg then !q.isNone else q.isNone))) w:=by
  intro q n m n' m' e1 e2
  unfold execOp;rw[fv]
  simp only[e1,e2]
  refine cE _ _ _ ?_
  cases neg<;>simp[go_sem,binOp,Op.equal,Op.maxDepth,xq (P:=P) (w:=w) 9999 hu]
 simp only[ex]at he
 generalize v y=vy at ha he
 generalize v z=vz at hb he
 generalize jS:ρ a=qa at ha
 generalize ou:ρ b=qb at hb
 split at he
 ·simp only[ah,aw]at he
  obtain⟨_,rfl,rfl⟩:=he
  obtain rfl:=ha.dz
  obtain rfl:=hb.dz
  have:=key _ _ _ _ _ jS ou
  exact bQ hs this (by cases neg<;>exact .v _)
 ·simp only[ah,aw]at he
  obtain⟨_,rfl,rfl⟩:=he
  obtain rfl:=ha.dz
  obtain rfl:=hb.dz
  have:=key _ _ _ _ _ jS ou
  exact bQ hs this (by cases neg<;>exact .v _)
 ·rename_i k es n' m'
  simp only[ah,aw]at he
  obtain⟨rfl,rfl,rfl⟩:=he
  obtain rfl:=hb.dz
  cases ha with
  |slnil=>exact absurd rfl hS
  |k9=>exact absurd rfl hS
  |sl _ _ b' off cap f ep hk hc hX h1 hr=>
   have:=key _ _ _ _ _ jS ou
   exact bQ hs this (by cases neg<;>exact .v _)
 ·cases he
end
def RL(w:World)(X:Nat->Prop)(β:gr)(σ:aG)(cs:List AV)(xs:List Value):Prop:=
 xs.length=cs.length/\∀i,i<cs.length->(xs.getD i undef).oneCell'=true/\RV w X β σ (cs.getD i .any) (xs.getD i undef)
section
variable {P:Program} {o:Oper} {ρ:Operand->Value} {w:World} {X:Nat->Prop} {β:gr} {σ:aG} {v:O->AV}
theorem RL.tr{w':World}{X':Nat->Prop}{β':gr}{σ':aG}{cs:List AV}{xs:List Value}(h:RL w X β σ cs xs)(K:Kp w X β σ w' X' β' σ'):RL w' X' β' σ' cs xs:=
 ⟨h.1,fun i hi=>⟨(h.2 i hi).1,(h.2 i hi).2.tr K⟩⟩
theorem RL.one{a:AV}{x:Value}(h:RV w X β σ a x)(h1:x.oneCell'=true):RL w X β σ [a] [x]:=
 ⟨rfl,fun i hi=>by obtain rfl:i=0:=(by simpa using hi);exact⟨h1,h⟩⟩
theorem RL.append{cs ds:List AV}{xs ys:List Value}(h:RL w X β σ cs xs)(h':RL w X β σ ds ys):RL w X β σ (cs++ds) (xs++ys):=by
 refine⟨by simp[h.1,h'.1],fun i hi=>?_⟩
 by_cases hc:i<cs.length
 ·have:=h.2 i hc
  have hx:i<xs.length:=by rw[h.1];exact hc
  simpa[ab,cy hc,cy hx]using this
 ·have hd:i-cs.length<ds.length:=by simp at hi;omega
  have:=h'.2 _ hd
  have e:=h.1
  rw[ab,bE (by omega),ab,bE (by omega),e]
  simpa[ab]using this
theorem RL.take{cs:List AV}{xs:List Value}(h:RL w X β σ cs xs)(n:Nat):RL w X β σ (cs.take n) (xs.take n):=by
 refine⟨by simp[h.1],fun i hi=>?_⟩
 simp only[bH]at hi
 have:=h.2 i (by omega)
 simpa[ab,dk,show i<n by omega]using this
theorem RL.drop{cs:List AV}{xs:List Value}(h:RL w X β σ cs xs)(n:Nat):RL w X β σ (cs.drop n) (xs.drop n):=by
 refine⟨by simp[h.1],fun i hi=>?_⟩
 simp only[wW]at hi
 have:=h.2 (n+i) (by omega)
 simpa[ab,ez]using this
theorem RL.vs:∀(xs:List Value),(∀x∈xs,scalar x=true)->RL w X β σ (vs xs) xs
 | [],_=>⟨rfl,fun i hi=>absurd hi (aN _)⟩
 |x::r,h=>RL.append (cs:=[.v x]) (xs:=[x]) (RL.one (.v x) (oK (h x (by simp)))) (RL.vs r fun y hy=>h y (by simp[hy]))
theorem pq:∀(xs:List Value),(vs xs).length=xs.length
 | []=>rfl
 |_::r=>by simp[Abs.vs,pq r]
theorem RL.jL{cs ds:List AV}{xs ys:List Value}{off:Nat}(h:RL w X β σ cs xs)(h':RL w X β σ ds ys):RL w X β σ (jL cs off ds) (xs.take off++ys++xs.drop (off+ys.length)):=by
 unfold Abs.jL
 rw[h'.1]
 exact RL.append (RL.append (h.take off) h') (h.drop _)
theorem RL.agg{cs:List AV}{xs:List Value}(h:RL w X β σ cs xs):RV w X β σ (.agg cs) (.agg xs.toArray):=
 t_ h.1 (fun i hi=>(h.2 i hi).1) fun i hi=>(h.2 i hi).2
theorem RL.B'{cs:List AV}{xs:Array Value}(h:RV w X β σ (.agg cs) (.agg xs)):RL w X β σ cs xs.toList:=by
 cases h with
 |agg _ _ hn h1 h=>
  refine⟨by simpa using hn,fun i hi=>?_⟩
  have a:=h1 i hi
  have b:=h i hi
  simp only[af,ab,Array.getElem?_toList]at a b|-
  exact⟨a,b⟩
theorem cells_one{x:Value}(h:x.oneCell'=true):x.cells.toList=[x]:=by cases x<;>simp_all[Value.oneCell',Value.cells]
theorem vt{a:AV}{x:Value}{cs:List AV}(h:RV w X β σ a x)(hc:cells a=some cs):RL w X β σ cs x.cells.toList:=by
 have h0:=h
 cases h with
 |v x=>
  simp only[cells]at hc
  split at hc
  ·rename_i hs
   injection hc with hc;subst hc
   cases x<;>first|exact RL.one h0 rfl|(simp[scalar]at hs;done)
  ·cases hc
 |any x=>simp[cells]at hc
 |agg Ut xs hn h1 h=>simp only[cells,ah]at hc;subst hc;exact RL.B' h0
 |iu=>simp[cells]at hc
 |slnil k=>simp only[cells,ah]at hc;subst hc;exact RL.one h0 rfl
 |k9 k a cap=>simp only[cells,ah]at hc;subst hc;exact RL.one h0 rfl
 |sl=>simp only[cells,ah]at hc;subst hc;exact RL.one h0 rfl
 |own f i n x h1 hf hle h=>
  simp only[cells,ah]at hc;subst hc
  rw[cells_one h1];exact RL.one h0 h1
 |ptr f i n e j x h1 hf hle h=>
  simp only[cells,ah]at hc;subst hc
  rw[cells_one h1];exact RL.one h0 h1
 |vw f i n e j m x h1 hf hle h=>
  simp only[cells,ah]at hc;subst hc
  rw[cells_one h1];exact RL.one h0 h1
 |tight f i n x h lC=>
  obtain⟨a,rfl⟩:=lC
  simp only[cells,ah]at hc;subst hc;exact RL.one h0 rfl
 |fresh k es x h lC=>
  obtain⟨a,rfl⟩:=lC
  simp only[cells,ah]at hc;subst hc;exact RL.one h0 rfl
 |sub f i n lo x h1 hf hle h=>
  simp only[cells,ah]at hc;subst hc
  rw[cells_one h1];exact RL.one h0 h1
 |bZ=>simp only[cells,ah]at hc;subst hc;exact RL.one h0 rfl
 |fn=>simp only[cells,ah]at hc;subst hc;exact RL.one h0 rfl
 |Ai f x h1 hf h=>
  simp only[cells,ah]at hc;subst hc
  rw[cells_one h1];exact RL.one h0 h1
 |mp f x h1 hf h=>
  simp only[cells,ah]at hc;subst hc
  rw[cells_one h1];exact RL.one h0 h1
 |j4=>simp only[cells,ah]at hc;subst hc;exact RL.one h0 rfl
 |l6=>simp only[cells,ah]at hc;subst hc;exact RL.one h0 rfl
 |when=>simp[cells]at hc
theorem D5:∀(l:List Value) (i off:Nat) (arr:Array Value),off+i+l.length<=arr.size->((l.zipIdx i).foldl (fun cs p=>cs.setIfInBounds (off+p.2) p.1) arr).toList=arr.toList.take (off+i)++l++arr.toList.drop (off+i+l.length)
 | [],i,off,arr,_=>by simp
 |x::r,i,off,arr,h=>by
  simp only[List.zipIdx_cons,cT]
  rw[D5 r (i+1) off _ (by simp at h|-;omega)]
  have e:=list_seg_step arr.toList (off+i) x r (by simp at h|-;omega)
  simp only[Array.toList_setIfInBounds,eJ,bf]at e|-
  simpa[Nat.add_comm,Nat.add_left_comm]using e
theorem I3(arr:Array Value)(y:Value)(off:Nat)(h:off+y.cells.size<=arr.size):(y.cells.zipIdx.foldl (fun cs (c,j)=>cs.setIfInBounds (off+j) c) arr).toList=arr.toList.take off++y.cells.toList++arr.toList.drop (off+y.cells.toList.length):=by
 have:=D5 y.cells.toList 0 off arr (by simpa using h)
 rw[<-Array.foldl_toList,Array.toList_zipIdx]
 simpa using this
theorem qK{place:Nat->Option (Nat×Nat)}(hv:∀x z,dt x z=true->RV w X β σ (v z) (ρ x)):∀(ps:List (Nat×Operand)) (qs:List (Nat×Nat×O)) (cs Ut:List AV) (arr:Array Value),qf place ps qs=true->RL w X β σ cs arr.toList->qI cs (qs.map fun p=>(p.1,p.2.1,v p.2.2))=some Ut->∃pt,Instr.fill place arr (ps.map fun(i,x)=>(i,ρ x))=some pt/\RL w X β σ Ut pt.toList
 | [],[],cs,Ut,arr,_,hr,hf=>by
  simp only[dL,qI,ah]at hf;subst hf
  exact⟨arr,rfl,hr⟩
 | [],q::qs,_,_,_,hc,_,_=>by simp[qf]at hc
 |p::ps,[],_,_,_,hc,_,_=>by simp[qf]at hc
 |(i,x)::ps,(off,size,y)::qs,cs,Ut,arr,hc,hr,hf=>by
  simp only[qf,ak,beq_iff_eq]at hc
  obtain⟨⟨h1,h2⟩,h3⟩:=hc
  simp only[bq,qI]at hf
  split at hf
  case h_2=>cases hf
  rename_i xs wL
  split at hf
  case isFalse=>cases hf
  rename_i eX
  have hy:=vt (hv x y h2) wL
  have e1:(ρ x).cells.size=size:=by have:=hy.1;simp at this;omega
  have e2:off+(ρ x).cells.size<=arr.size:=by have:=hr.1;simp at this;omega
  have sG:=I3 arr (ρ x) off e2
  obtain⟨pt,ha,hb⟩:=qK hv ps qs (jL cs off xs) Ut _ h3 (by rw[sG];exact hr.jL hy) hf
  refine⟨pt,?_,hb⟩
  simp only[bq,Instr.fill,h1]
  rw[if_neg (by simp[e1];omega)]
  exact ha
theorem wM:∀(l:List Field),(l.all fun f=>(nh P f.type).isSome)=true->l.mapM (fun f=>(P.info? f.type).map fun i=>(f.offset,i.size))=some (l.map fun f=>(f.offset,(nh P f.type).getD 0))
 | [],_=>rfl
 |f::l,h=>by
  simp only[List.all_cons,ak]at h
  obtain⟨s,hs⟩:=dy.1 h.1
  obtain⟨i,hi,rfl⟩:=fS hs
  simp[List.mapM_cons,hi,wM l h.2,nh]
theorem mf{t:TypeId}{l:List Value}(h:yd P t=some l):∃i z,P.info? t=some i/\i.zero=some z/\z.cells.toList=l:=by
 unfold yd at h
 obtain⟨i,hi,h⟩:=fk.1 h
 obtain⟨z,hz,rfl⟩:=aL.1 h
 exact⟨i,z,hi,hz,rfl⟩
theorem D6{p q:Nat->Option (Nat×Nat)}(h:∀n,p n=q n)(ps:List (Nat×Operand))(qs:List (Nat×Nat×O)):qf p ps qs=qf q ps qs:=by
 rw[show p=q from funext h]
theorem Lj{S:Prop}{r:AV}{σ':aG}{z:List Value}{qs:List (Nat×Nat×O)}(hc:ck P o.op (.build z qs)=true)(hs:dG w X β σ)(hv:∀x u,dt x u=true->RV w (Xt X β σ) β σ (v u) (ρ x))(he:ex (.build z qs) v σ=some (S,r,σ'))(N8:S):fi P o ρ w X β σ r σ':=by
 cases fv:o.op<;>rw[fv]at hc<;>try(simp[ck]at hc;done)
 rename_i t ps
 simp only[ck,ak]at hc
 obtain⟨h1,h2⟩:=hc
 have hx:execOp ρ o=(do let x<-Instr.build t (ps.map fun(i,x)=>(i,ρ x));pure (.value x)):=by unfold execOp;rw[fv]
 cases hz:yd P t with
 |none=>rw[hz]at h1;simp at h1
 |some l=>
 rw[hz]at h1
 simp only at h1
 obtain⟨rfl,xt⟩:=lz h1
 obtain⟨it,z0,lR,JU,rfl⟩:=mf hz
 simp only[ex]at he
 split at he
 case h_2=>cases he
 rename_i cs Bl
 simp only[ah,aw]at he
 obtain⟨_,rfl,rfl⟩:=he
 have key:∃pt,P.built t (ps.map fun(i,x)=>(i,ρ x)).toList=some pt/\RL w (Xt X β σ) β σ cs pt.toList:=by
  unfold Program.built
  cases hu:P.underlying t with
  |none=>rw[hu]at h2;simp at h2
  |some d=>
   rw[hu]at h2
   cases d<;>try(simp at h2;done)
   case array n e=>
    cases YQ:nh P e with
    |none=>simp only[YQ]at h2;simp at h2
    |some k=>
     simp only[YQ]at h2
     obtain⟨ie,qE,rfl⟩:=fS YQ
     obtain⟨pt,ha,hb⟩:=qK (w:=w) (X:=Xt X β σ) (β:=β) (σ:=σ) hv ps.toList qs _ _ z0.cells h2 (RL.vs _ xt) Bl
     refine⟨pt,?_,hb⟩
     simp only[lR,JU,qE,Array.toList_map]
     exact ha
   case struct fs=>
    simp only[ak]at h2
    have hm:=wM (P:=P) fs.toList h2.2
    have Bm:∀n:Nat,((fs.toList.map fun f=>(f.offset,(nh P f.type).getD 0)).toArray[n]?:Option (Nat×Nat))=(fs[n]?).bind fun(f:Field)=>(nh P f.type).map fun s=>(f.offset,s):=by
     intro n
     simp only[fP,aV,Array.getElem?_toList]
     cases R6:fs[n]? with
     |none=>rfl
     |some f=>
      have yj:f∈fs.toList:=by
       obtain⟨bP,rfl⟩:=aZ.1 R6
       simp
      have:=bt.1 h2.2 f yj
      obtain⟨s,hs⟩:=dy.1 this
      simp[hs]
    have D7:=D6 Bm ps.toList qs
    obtain⟨pt,ha,hb⟩:=qK (w:=w) (X:=Xt X β σ) (β:=β) (σ:=σ) hv ps.toList qs _ _ z0.cells (D7.trans h2.1) (RL.vs _ xt) Bl
    refine⟨pt,?_,hb⟩
    simp only[lR,JU,hm,Array.toList_map]
    exact ha
 obtain⟨pt,hb,hr⟩:=key
 refine bQ (x:=.agg pt) hs ?_ (by have:=hr.agg;simpa using this)
 rw[hx]
 exact cE _ _ _ (run_build w t _ pt hb)
end
section
variable {P:Program} {o:Oper} {ρ:Operand->Value} {w w':World} {X:Nat->Prop} {β:gr} {σ:aG} {v:O->AV}
theorem jF{ob:Obj}(h:w'.heap=w.heap.push ob){b:Nat}(hb:b<w.heap.size):w'.heap[b]?=w.heap[b]?:=by
 rw[h,iA];rw[if_neg (by omega)]
theorem pw{ob:Obj}(h:w'.heap=w.heap.push ob):w'.heap[w.heap.size]?=some ob:=by
 rw[h,iA];simp
theorem iL{ob:Obj}(h:w'.heap=w.heap.push ob):w.heap.size<=w'.heap.size:=by rw[h];simp
theorem yl{ob:Obj}{x:Value}{r:AV}(hs:dG w X β σ)(hr:(execOp ρ o).run P w=.ok (.value x) w')(hh:w'.heap=w.heap.push ob)(hx:RV w' (Xt X β σ) β σ r x)(io:Still w w':=by exact⟨rfl,rfl,rfl,(by first|exact ar _|exact cO _)⟩):fi P o ρ w X β σ r σ:=
 ⟨_,x,w',β,hr,.inl rfl,hs.same (iL hh) (fun _=>jF hh),Kp.same (iL hh) (fun _=>jF hh) hs,Ext.same (iL hh) (fun _=>jF hh) io,hx⟩
theorem ym{c:Array Value}{T:TypeId}(hh:w'.heap=w.heap.push (.cells c T (0,0))){j:Nat}(hj:j<c.size):w'.cell? ⟨w.heap.size,j,none⟩=some (c.getD j undef):=by
 rw[cell_of_row w' w.heap.size j c T (0,0) (pw hh)]
 simp[af,hj]
theorem Lk{c:Array Value}{T:TypeId}{cs:List AV}(hs:dG w X β σ)(hX:∀b,X b->b<w.heap.size)(hh:w'.heap=w.heap.push (.cells c T (0,0)))(hr:RL w (Xt X β σ) β σ cs c.toList):RV w' (Xt X β σ) β σ (.bZ cs 0) (.pointer (some ⟨w.heap.size,0,none⟩)):=by
 have hn:c.size=cs.length:=by simpa using hr.1
 have wN:=hr.tr (Kp.same (iL hh) (fun _=>jF hh) hs)
 refine .bZ cs 0 w.heap.size 0 (fun t=>c.getD t undef) (fun t _ hx=>?_) (fun t ht=>?_) (fun t ht=>?_) fun t ht=>?_
 ·exact f_ _ (Bk hs hX hx)
 ·have:=(hr.2 t ht).1;simpa[ab,af]using this
 ·rw[br];exact ym hh (by omega)
 ·have:=(wN.2 t ht).2;simpa[ab,af]using this
theorem iJ(k:Nat):∀(n:Nat) (cs:List AV),(qJ k n cs).length=n
 |0,_=>rfl
 |n+1,cs=>by simp[qJ,iJ k n]
theorem mA(k:Nat):∀(n:Nat) (cs:List AV) (e:Nat),e<n->(qJ k n cs).getD e []=(cs.drop (e*k)).take k
 |0,_,e,h=>absurd h (aN _)
 |n+1,cs,0,_=>by simp[qJ]
 |n+1,cs,e+1,h=>by
  have:=mA k n (cs.drop k) e (by omega)
  rw[List.drop_drop]at this
  rw[show(e+1)*k=k+e*k by rw[cP];omega]
  simpa[qJ,eP]using this
theorem iE{e n k:Nat}(h:e<n):e*k+k<=n*k:=by
 have:=cj k (show e+1<=n by omega)
 rw[cP]at this;omega
theorem R7{c:Array Value}{T:TypeId}{cs:List AV}{k n:Nat}(hs:dG w X β σ)(hX:∀b,X b->b<w.heap.size)(hh:w'.heap=w.heap.push (.cells c T (0,0)))(hr:RL w (Xt X β σ) β σ cs c.toList)(hl:cs.length=n*k)(cap:Nat)(ep:n<=cap):RV w' (Xt X β σ) β σ (.sl k (qJ k n cs)) (.slice (some ⟨w.heap.size,0,none⟩) n cap):=by
 have hn:c.size=cs.length:=by simpa using hr.1
 have wN:=hr.tr (Kp.same (iL hh) (fun _=>jF hh) hs)
 have hlen:=iJ k n cs
 have h0:RV w' (Xt X β σ) β σ (.sl k (qJ k n cs)) (.slice (some ⟨w.heap.size,0,none⟩) (qJ k n cs).length cap):=by
  refine .sl k (qJ k n cs) w.heap.size 0 cap (fun e j=>c.getD (e*k+j) undef) (by omega) (fun e he=>?_) (fun e he j hj=>?_) (fun e j _ _ hx=>?_) (fun e j he hj=>?_) fun e j he hj=>?_
  ·rw[hlen]at he
   rw[mA k n cs e he,jU _ _ _ (by have:=iE (k:=k) he;omega)]
  ·rw[hlen]at he
   have:=iE (k:=k) he
   rw[br];exact ym hh (by omega)
  ·exact f_ _ (Bk hs hX hx)
  ·rw[hlen]at he
   have:=iE (k:=k) he
   have:=(hr.2 (e*k+j) (by omega)).1
   simpa[ab,af]using this
  ·rw[hlen]at he
   have:=iE (k:=k) he
   rw[mA k n cs e he,mc _ _ _ _ _ hj]
   have:=(wN.2 (e*k+j) (by omega)).2
   simpa[ab,af]using this
 rw[hlen]at h0
 exact h0
theorem nL{c:Array Value}{T:TypeId}{x:Value}{r:AV}{es:List (List AV)}{k:Nat}(hs:dG w X β σ)(hX:∀b,X b->b<w.heap.size)(hr:(execOp ρ o).run P w=.ok (.value x) w')(hh:w'.heap=w.heap.push (.cells c T (0,0)))(hk:∀e,e<es.length->(es.getD e []).length=k)(eX:es.length*k<=c.size)(hc:∀e j,e<es.length->j<k->(c.getD (e*k+j) undef).oneCell'=true/\RV w (Xt X β σ) β σ ((es.getD e []).getD j .any) (c.getD (e*k+j) undef))(hx:RV w' (Xt X (kv β σ.length (some w.heap.size)) (σ++[some [⟨T,k,es,none⟩]])) (kv β σ.length (some w.heap.size)) (σ++[some [⟨T,k,es,none⟩]]) r x)(io:Still w w':=by exact⟨rfl,rfl,rfl,(by first|exact ar _|exact cO _)⟩):fi P o ρ w X β σ r (σ++[some [⟨T,k,es,none⟩]]):=by
 have oI:∀b,some w.heap.size=some b->b=w.heap.size:=fun b hb=>by injection hb with hb;exact hb.symm
 have K:=Kp.push (o:=⟨T,k,es,none⟩) (bo:=some w.heap.size) hs (iL hh) (fun _=>jF hh) oI
 exact⟨_,x,w',kv β σ.length (some w.heap.size),hr,.inl rfl,
  hs.push hX (iL hh) (fun _=>jF hh) oI ⟨hk,fun _=>⟨c,pw hh,eX,fun e j he hj=>(hc e j he hj).1,fun e j he hj=>(hc e j he hj).2.tr K⟩,fun _ h=>(by cases h)⟩,
  K,Ext.push (iL hh) (fun _=>jF hh) oI io,hx⟩
theorem D8{T:TypeId}{k:Nat}{cs:List AV}:RV w' X (kv β σ.length (some w.heap.size)) (σ++[some [⟨T,k,[cs],none⟩]]) (.ptr σ.length 0 1 0 0) (.pointer (some ⟨w.heap.size,0,none⟩)):=by
 refine .ptr _ _ _ _ _ _ rfl (by simp) (fun o ho=>?_) fun o ho hn=>?_
 ·rw[gS]at ho;simp at ho;subst ho;simp
 ·rw[gS]at ho;simp at ho;subst ho
  exact⟨w.heap.size,iy,by simp⟩
theorem ub{c:Array Value}{T:TypeId}{k n cap:Nat}{es:List (List AV)}(hh:w'.heap=w.heap.push (.cells c T (0,0)))(hn:es.length=n)(hc:c.size=cap*k):RV w' X (kv β σ.length (some w.heap.size)) (σ++[some [⟨T,k,es,none⟩]]) (.own σ.length 0 n) (.slice (some ⟨w.heap.size,0,none⟩) n cap):=by
 refine .own _ _ _ _ rfl (by simp) (fun o ho=>?_) fun o ho yh=>?_
 ·rw[gS]at ho;simp at ho;subst ho;simp[hn]
 ·rw[gS]at ho;simp at ho;subst ho
  unfold kD
  rw[iy]
  exact⟨cap,c,T,by rw[hn],pw hh,hc⟩
theorem Ll{S:Prop}{r:AV}{σ':aG}{T k:Nat}{z:List Value}(hc:ck P o.op (.alloc T k z)=true)(hs:dG w X β σ)(hX:∀b,X b->b<w.heap.size)(he:ex (.alloc T k z) v σ=some (S,r,σ')):fi P o ρ w X β σ r σ':=by
 cases fv:o.op<;>rw[fv]at hc<;>try(simp[ck]at hc;done)
 rename_i t
 simp only[ck,ak,beq_iff_eq]at hc
 obtain⟨⟨rfl,h1⟩,h2⟩:=hc
 have hx:execOp ρ o=(do let x<-Instr.alloc t true (.tuple #[]);pure (.value x)):=by unfold execOp;rw[fv]
 cases hz:yd P t with
 |none=>rw[hz]at h2;simp at h2
 |some l=>
 rw[hz]at h2
 simp only at h2
 obtain⟨rfl,xt⟩:=lz h2
 obtain⟨it,z0,lR,JU,rfl⟩:=mf hz
 simp only[ex]at he
 split at he
 case isFalse=>cases he
 rename_i hk
 simp only[ah,aw]at he
 obtain⟨_,rfl,rfl⟩:=he
 have vv:=RL.vs (w:=w) (X:=Xt X β σ) (β:=β) (σ:=σ) _ xt
 have hlen:=pq z0.cells.toList
 refine nL (w':=w.alloc (.cells z0.cells t)) (c:=z0.cells) (x:=.pointer (some ⟨w.heap.size,0,none⟩)) hs hX ?_ rfl (fun e he=>?_) ?_ (fun e j he hj=>?_) D8
 ·rw[hx]
  exact cE _ _ _ (by simp[Instr.alloc,zeroValue,typeInfo,lR,JU,newVar,newRow])
 ·obtain rfl:e=0:=by simpa using he
  simp[hlen,hk]
 ·simp at hk|-;omega
 ·obtain rfl:e=0:=by simpa using he
  have:=vv.2 j (by rw[hlen,hk];exact hj)
  simpa[ab,af]using this
theorem R8{S:Prop}{r:AV}{σ':aG}{own:Bool}{T k:Nat}{y:O}(hc:ck P o.op (.box own T k y)=true)(hs:dG w X β σ)(hX:∀b,X b->b<w.heap.size)(hv:∀x u,dt x u=true->RV w (Xt X β σ) β σ (v u) (ρ x))(he:ex (.box own T k y) v σ=some (S,r,σ')):fi P o ρ w X β σ r σ':=by
 cases fv:o.op<;>rw[fv]at hc<;>try(simp[ck]at hc;done)
 rename_i t a
 simp only[ck,ak,beq_iff_eq]at hc
 obtain⟨⟨rfl,h1⟩,h2⟩:=hc
 have ha:=hv a y h2
 have hx:execOp ρ o=(do let x<-Instr.box t (ρ a);pure (.value x)):=by unfold execOp;rw[fv]
 have eA:(execOp ρ o).run P w=.ok (.value (.pointer (some ⟨w.heap.size,0,none⟩))) (w.alloc (.cells (ρ a).cells t)):=by
  rw[hx];exact cE _ _ _ (by simp[Instr.box,newVar,newRow])
 simp only[ex]at he
 split at he
 case h_2=>cases he
 rename_i cs vx
 have vv:=vt ha vx
 split at he
 case isFalse=>cases he
 rename_i hk
 have eX:(ρ a).cells.size=k:=by have:=vv.1;simp at this;omega
 cases own with
 |false=>
  simp only[bw,if_false,ah,aw]at he
  obtain⟨_,rfl,rfl⟩:=he
  exact yl hs eA rfl (Lk hs hX rfl vv)
 |true=>
  simp only[if_true,ah,aw]at he
  obtain⟨_,rfl,rfl⟩:=he
  refine nL hs hX eA rfl (fun e he=>?_) ?_ (fun e j he hj=>?_) D8
  ·obtain rfl:e=0:=by simpa using he
   simpa using hk
  ·simp;omega
  ·obtain rfl:e=0:=by simpa using he
   have:=vv.2 j (by rw[hk];exact hj)
   simpa[ab,af]using this
theorem R9{S:Prop}{r:AV}{σ':aG}{own:Bool}{T k n:Nat}{z:List Value}{qs:List (Nat×Nat×O)}(hc:ck P o.op (.jR own T k n z qs)=true)(hs:dG w X β σ)(hX:∀b,X b->b<w.heap.size)(hv:∀x u,dt x u=true->RV w (Xt X β σ) β σ (v u) (ρ x))(he:ex (.jR own T k n z qs) v σ=some (S,r,σ')):fi P o ρ w X β σ r σ':=by
 cases fv:o.op<;>rw[fv]at hc<;>try(simp[ck]at hc;done)
 rename_i t m ps
 simp only[ck,ak,beq_iff_eq,decide_eq_true_eq]at hc
 obtain⟨⟨⟨⟨⟨rfl,h2⟩,h3⟩,h4⟩,h5⟩,h6⟩:=hc
 have hu:=iO h2
 obtain⟨ie,qE,rfl⟩:=fS h3
 cases hz:yd P T with
 |none=>rw[hz]at h5;simp at h5
 |some l=>
 rw[hz]at h5
 simp only at h5
 obtain⟨rfl,xt⟩:=lz h5
 obtain⟨it,z0,lR,JU,rfl⟩:=mf hz
 obtain rfl:it=ie:=by rw[qE]at lR;injection lR with lR;exact lR.symm
 have hx:execOp ρ o=(do let x<-Instr.buildSlice t m (ps.map fun(i,x)=>(i,ρ x));pure (.value x)):=by unfold execOp;rw[fv]
 simp only[ex]at he
 split at he
 case h_2=>cases he
 rename_i cs Bl
 split at he
 case isFalse=>cases he
 rename_i hk
 obtain⟨pt,ha,hb⟩:=qK (w:=w) (X:=Xt X β σ) (β:=β) (σ:=σ) hv ps.toList qs _ _ ((List.range (m*it.size)).map fun j=>z0.cells.toList.toArray[j % z0.cells.toList.toArray.size]!).toArray h6
  (by simpa using RL.vs (w:=w) (X:=Xt X β σ) (β:=β) (σ:=σ) _ xt) Bl
 have eA:(execOp ρ o).run P w=.ok (.value (.slice (some ⟨w.heap.size,0,none⟩) m m)) (w.alloc (.cells pt T)):=by
  rw[hx]
  refine cE _ _ _ ?_
  have e1:(Array.map (fun x=>z0.cells[x % z0.cells.size]!) (Array.range (m*it.size)))=((List.range (m*it.size)).map fun j=>z0.cells.toList.toArray[j % z0.cells.toList.toArray.size]!).toArray:=by
   apply gf;simp
  rw[<-e1]at ha
  by_cases F6:m*it.size=0
  ·rw[F6]at ha
   simp only[Array.range_zero',Array.map_empty]at ha
   simp[Instr.buildSlice,run_underlying hu,sizeOf,typeInfo,qE,F6,Array.range_zero',ha,newRow]
  ·have YR:¬(m*it.size>2^24):=by omega
   simp[Instr.buildSlice,run_underlying hu,sizeOf,typeInfo,zeroValue,qE,JU,YR,F6,ha,newRow]
 cases own with
 |false=>
  simp only[bw,if_false,ah,aw]at he
  obtain⟨_,rfl,rfl⟩:=he
  exact yl hs eA rfl (R7 hs hX rfl hb hk _ (ar _))
 |true=>
  simp only[if_true,ah,aw]at he
  obtain⟨_,rfl,rfl⟩:=he
  have eX:pt.size=m*it.size:=by have:=hb.1;simp at this;omega
  refine nL hs hX eA rfl (fun e he=>?_) ?_ (fun e j he hj=>?_) (ub rfl (iJ _ _ _) eX)
  ·rw[iJ]at he
   rw[mA _ _ _ _ he,jU _ _ _ (by have:=iE (k:=it.size) he;omega)]
  ·rw[iJ];omega
  ·rw[iJ]at he
   have:=iE (k:=it.size) he
   rw[mA _ _ _ _ he,mc _ _ _ _ _ hj]
   have:=hb.2 (e*it.size+j) (by omega)
   simpa[ab,af]using this
theorem OK{S:Prop}{r:AV}{σ':aG}{T k n:Nat}{z:List Value}{qs:List (Nat×Nat×O)}(hc:ck P o.op (.D1 T k n z qs)=true)(hs:dG w X β σ)(hX:∀b,X b->b<w.heap.size)(hv:∀x u,dt x u=true->RV w (Xt X β σ) β σ (v u) (ρ x))(he:ex (.D1 T k n z qs) v σ=some (S,r,σ')):fi P o ρ w X β σ r σ':=by
 cases fv:o.op<;>rw[fv]at hc<;>try(simp[ck]at hc;done)
 rename_i t m ps
 simp only[ck,ak,beq_iff_eq,decide_eq_true_eq]at hc
 obtain⟨⟨⟨⟨⟨rfl,h2⟩,h3⟩,h4⟩,h5⟩,h6⟩:=hc
 have hu:=iO h2
 obtain⟨ie,qE,rfl⟩:=fS h3
 cases hz:yd P T with
 |none=>rw[hz]at h5;simp at h5
 |some l=>
 rw[hz]at h5
 simp only at h5
 obtain⟨rfl,xt⟩:=lz h5
 obtain⟨it,z0,lR,JU,rfl⟩:=mf hz
 obtain rfl:it=ie:=by rw[qE]at lR;injection lR with lR;exact lR.symm
 have hx:execOp ρ o=(do let x<-Instr.buildSlice t m (ps.map fun(i,x)=>(i,ρ x));pure (.value x)):=by unfold execOp;rw[fv]
 simp only[ex]at he
 split at he
 case h_2=>cases he
 rename_i cs Bl
 split at he
 case isFalse=>cases he
 rename_i hk
 obtain⟨pt,ha,hb⟩:=qK (w:=w) (X:=Xt X β σ) (β:=β) (σ:=σ) hv ps.toList qs _ _ ((List.range (m*it.size)).map fun j=>z0.cells.toList.toArray[j % z0.cells.toList.toArray.size]!).toArray h6
  (by simpa using RL.vs (w:=w) (X:=Xt X β σ) (β:=β) (σ:=σ) _ xt) Bl
 have eA:(execOp ρ o).run P w=.ok (.value (.slice (some ⟨w.heap.size,0,none⟩) m m)) (w.alloc (.cells pt T)):=by
  rw[hx]
  refine cE _ _ _ ?_
  have e1:(Array.map (fun x=>z0.cells[x % z0.cells.size]!) (Array.range (m*it.size)))=((List.range (m*it.size)).map fun j=>z0.cells.toList.toArray[j % z0.cells.toList.toArray.size]!).toArray:=by
   apply gf;simp
  rw[<-e1]at ha
  by_cases F6:m*it.size=0
  ·rw[F6]at ha
   simp only[Array.range_zero',Array.map_empty]at ha
   simp[Instr.buildSlice,run_underlying hu,sizeOf,typeInfo,qE,F6,Array.range_zero',ha,newRow]
  ·have YR:¬(m*it.size>2^24):=by omega
   simp[Instr.buildSlice,run_underlying hu,sizeOf,typeInfo,zeroValue,qE,JU,YR,F6,ha,newRow]
 simp only[ah,aw]at he
 obtain⟨_,rfl,rfl⟩:=he
 have eX:pt.size=m*it.size:=by have:=hb.1;simp at this;omega
 refine nL hs hX eA rfl (fun e he=>?_) ?_ (fun e j he hj=>?_) (.tight _ _ _ _ (ub rfl (iJ _ _ _) eX) ⟨_,rfl⟩)
 ·rw[iJ]at he
  rw[mA _ _ _ _ he,jU _ _ _ (by have:=iE (k:=it.size) he;omega)]
 ·rw[iJ];omega
 ·rw[iJ]at he
  have:=iE (k:=it.size) he
  rw[mA _ _ _ _ he,mc _ _ _ _ _ hj]
  have:=hb.2 (e*it.size+j) (by omega)
  simpa[ab,af]using this
end
end Go.Abs
