/-
  The state of a frame in abstract values; lists of instructions executed over it.
-/
import Derived.Test.YtgpdckmbojmlpaaA10
import Derived.OrdersIn
import Derived.RangeFuncLeaves
import Derived.RangeFuncCalls
import Derived.RangeFuncRecord
namespace Go.Abs
set_option linter.unusedVariables false
set_option linter.unusedSimpArgs false

/-- An instruction that is neither a pick nor a call. -/
def I.plain : I → Bool
  | .pick .. | .call .. => false
  | _ => true

theorem ex_sound {P : Program} {o : Oper} {ρ : Operand → Value} {w : World} {X : Nat → Prop} {β : Blk} {σ : Sto} {v : O → AV} {S : Prop} {r : AV} {σ' : Sto} {i : I}
    (hc : chkI P o.op i = true) (hs : SRel w X β σ) (hX : ∀ b, X b → b < w.heap.size) (hv : ∀ x z, chkO x z = true → RV w (Xt X β σ) β σ (v z) (ρ x))
    (he : ex i v σ = some (S, r, σ')) (hS : S) : Done P o ρ w X β σ r σ' := by
  cases i with
  | mv y => exact ex_mv hc hs (fun x z h _ => hv x z h) he hS
  | pick a b c => simp [ex] at he
  | alloc T k z => exact ex_alloc hc hs hX he
  | box own T k x => exact ex_box hc hs hX hv he
  | build z ps => exact ex_build hc hs hv he hS
  | bsl own T k n z ps => exact ex_bsl hc hs hX hv he
  | load s a => exact ex_load hc hs (fun x z h _ => hv x z h) he hS
  | store s a x => exact ex_store hc hs hX hv he hS
  | bin op x y => exact ex_bin hc hs (fun x z h _ => hv x z h) he hS
  | eqs neg ks x y => exact ex_eqs hc hs hv he
  | eqb neg x y => exact ex_eqb hc hs (fun x z h _ => hv x z h) he hS
  | un op x => exact ex_un hc hs (fun x z h _ => hv x z h) he hS
  | faddr off x => exact ex_faddr hc hs (fun x z h _ => hv x z h) he hS
  | field off s x => exact ex_field hc hs (fun x z h _ => hv x z h) he hS
  | iaddr k x i => exact ex_iaddr hc hs (fun x z h _ => hv x z h) he hS
  | ext i x => exact ex_ext hc hs (fun x z h _ => hv x z h) he hS
  | len x => exact ex_len hc hs (fun x z h _ => hv x z h) he hS
  | mnx mx x y => exact ex_mnx hc hs (fun x z h _ => hv x z h) he hS
  | app T k bytes s x => exact ex_app hc hs hX hv he hS
  | mksl T k bytes z l c => exact ex_mksl hc hs hX hv he hS
  | slice k x lo hi => exact ex_slice hc hs hv he hS
  | mkfn f a b => exact ex_mkfn hc hs (fun x z h _ => hv x z h) he hS
  | nilc x => exact ex_nilc hc hs (fun x z h _ => hv x z h) he hS
  | ifc T x => exact ex_ifc hc hs (fun x z h _ => hv x z h) he hS
  | call f as => simp [ex] at he

theorem Kp.trans {w w' w'' : World} {X X' X'' : Nat → Prop} {β β' β'' : Blk} {σ σ' σ'' : Sto} (h : Kp w X β σ w' X' β' σ') (h' : Kp w' X' β' σ' w'' X'' β'' σ'') : Kp w X β σ w'' X'' β'' σ'' where
  size := Nat.le_trans h.size h'.size
  imm b c T fr hc hn := by
    have h1 := h.imm b c T fr hc hn
    rw [h'.imm b c T fr (h1.trans hc) (fun hx => hn (h.frb b (heap_lt hc) hx)), h1]
  frb b hb hx := h.frb b hb (h'.frb b (Nat.lt_of_lt_of_le hb h.size) hx)
  len := Nat.le_trans h.len h'.len
  obs f i o'' hf ho := by
    obtain ⟨o', ho', hk', hl', hs'⟩ := h'.obs f i o'' (Nat.lt_of_lt_of_le hf h.len) ho
    obtain ⟨o, ho, hk, hl, hs⟩ := h.obs f i o' hf ho'
    refine ⟨o, ho, hk.trans hk', Nat.le_trans hl hl', fun he => ?_⟩
    obtain ⟨h1, h2⟩ := hs (by omega)
    obtain ⟨h3, h4⟩ := hs' (by omega)
    refine ⟨h3.trans h1, fun b hb c T hc => ?_⟩
    obtain ⟨c', T', hc', e1⟩ := h2 b hb c T hc
    obtain ⟨c'', T'', hc'', e2⟩ := h4 b (h1.trans hb) c' T' hc'
    exact ⟨c'', T'', hc'', e2.trans e1⟩

theorem Kp.refl {w : World} {X : Nat → Prop} {β : Blk} {σ : Sto} : Kp w X β σ w X β σ where
  size := Nat.le_refl _
  imm _ _ _ _ _ _ := rfl
  frb _ _ h := h
  len := Nat.le_refl _
  obs f i o _ ho := ⟨o, ho, rfl, Nat.le_refl _, fun _ => ⟨rfl, fun b _ => SameSize.refl w b⟩⟩

abbrev Kont := Exit → Env → Sto → Prop

def fnc : Option Nat → Fence
  | none => Fence.wide
  | some l => Fence.wide.inRound l

structure Stt (N n0 : Nat) (X : Nat → Prop) (env : Env) (σ : Sto) (β : Blk) (a : Act) (w : World) : Prop where
  sz : a.tmps.size = N
  df : ∃ rs : List Nat, rs.Nodup ∧ a.defers = rs.map (fun r => { target := .collected r, args := #[] }) ∧ ∀ r ∈ rs, w.heap[r]? = some (.deferred (some [])) ∧ ¬ Xt X β σ r ∧ n0 ≤ r
  bd : ∀ b, X b → b < w.heap.size
  nb : n0 ≤ w.heap.size
  sr : SRel w X β σ
  ev : ∀ s, RV w (Xt X β σ) β σ (gt env s) (a.tmps.getD s undef)

def Post (N n0 : Nat) (X : Nat → Prop) (w : World) (β : Blk) (σ : Sto) (K : Kont) : Exit → Act → World → Prop := fun e a' w' =>
  ∃ env' σ' β', K e env' σ' ∧ Stt N n0 X env' σ' β' a' w' ∧ Ext w β σ w' β' σ' ∧ Kp w (Xt X β σ) β σ w' (Xt X β' σ') β' σ'

theorem Post.trans {N n0 : Nat} {X : Nat → Prop} {w w1 : World} {β β1 : Blk} {σ σ1 : Sto} {K : Kont} (he : Ext w β σ w1 β1 σ1) (hk : Kp w (Xt X β σ) β σ w1 (Xt X β1 σ1) β1 σ1) {e : Exit} {a : Act} {w2 : World}
    (h : Post N n0 X w1 β1 σ1 K e a w2) : Post N n0 X w β σ K e a w2 := by
  obtain ⟨env', σ', β', h1, h2, h3, h4⟩ := h
  exact ⟨env', σ', β', h1, h2, he.trans h3, hk.trans h4⟩

/-- The code, walked over abstract values. -/
def AWP (P : Program) (N : Nat) (rd : Option Nat) (c : Code) (K : Kont) (env : Env) (σ : Sto) : Prop :=
  ∀ n0 X β a w, Stt N n0 X env σ β a w → c.wpIn (fnc rd) 0 P (Post N n0 X w β σ K) a w

def Kl (live : List Nat) (K : Kont) : Kont := fun e env σ =>
  match e with
  | .normal => K .normal (keep live env) σ
  | e => K e env σ

def chkJ (P : Program) (N : Nat) (ops : Array Oper) (o : Oper) (j : J) : Bool :=
  o.dst == j.d && (match j.d with | some d => decide (d < N) | none => true) && chkI P o.op j.i &&
  (match o.guard, j.g with
    | none, none => true
    | some (g, b), some (s, b') => b == b' && (ops[g]?).bind (·.dst) == some s && j.i.calm && j.d.isSome && decide (s < N)
    | _, _ => false)

def chkL (P : Program) (N : Nat) (ops : Array Oper) : List Nat → List J → Bool
  | [], [] => true
  | i :: is, j :: js => (match ops[i]? with | some o => chkJ P N ops o j | none => false) && chkL P N ops is js
  | _, _ => false

/-- Instructions, executed one behind the other. -/
def OWP (P : Program) (N : Nat) (rd : Option Nat) (l : List J) (live : List Nat) (K : Kont) (env : Env) (σ : Sto) : Prop :=
  ∀ ops is, chkL P N ops is l = true → ∀ n0 X β a w, Stt N n0 X env σ β a w → wpOpsIn (fnc rd) 0 P ops (Post N n0 X w β σ (Kl live K)) is a w

/-- A function's call, over abstract values: what it hands back, and what becomes of the objects. -/
structure Does (P : Program) (f : Nat) (args : List AV) (σ : Sto) (R : AV → Sto → Prop) : Prop where
  ent : ∀ as w, (callFunc f as).run P w = .ok (.enter f as) w
  go : ∀ (X : Nat → Prop) (β : Blk) (w : World) (xs : List Value), (∀ b, X b → b < w.heap.size) → SRel w X β σ → xs.length = args.length →
    (∀ i, i < args.length → RV w (Xt X β σ) β σ (args.getD i .any) (xs.getD i undef)) →
    CallsIn Fence.wide 0 P f xs.toArray w fun e w' => ∃ x r σ' β', e = .returned x ∧ R r σ' ∧ SRel w' X β' σ' ∧ RV w' (Xt X β' σ') β' σ' r x ∧ Ext w β σ w' β' σ' ∧
      Kp w (Xt X β σ) β σ w' (Xt X β' σ') β' σ'

def nob : Blk := fun _ _ => none

/-- A function's call that leaves all objects alone: its result, an abstract value that names none. -/
structure Pure (P : Program) (f : Nat) (args : List AV) (r : AV) : Prop where
  ent : ∀ as w, (callFunc f as).run P w = .ok (.enter f as) w
  go : ∀ (X : Nat → Prop) (w : World) (xs : List Value), (∀ b, X b → b < w.heap.size) → xs.length = args.length → (∀ i, i < args.length → RV w X nob [] (args.getD i .any) (xs.getD i undef)) →
    CallsIn Fence.wide 0 P f xs.toArray w fun e w' => ∃ x, e = .returned x ∧ RV w' X nob [] r x ∧ w.heap.size ≤ w'.heap.size ∧ (∀ b, b < w.heap.size → w'.heap[b]? = w.heap[b]?) ∧ Still w w'

/-- An abstract value that names no object. -/
def PureV (v : AV) : Prop := ∀ w X β σ x, RV w X β σ v x → RV w X nob [] v x

theorem RV.out {w : World} {X : Nat → Prop} {β : Blk} {σ : Sto} {v : AV} {x : Value} (h : RV w X nob [] v x) : RV w X β σ v x := by
  induction h with
  | v x => exact .v x
  | any x => exact .any x
  | agg cs xs hn h1 _ ih => exact .agg cs xs hn h1 ih
  | tup cs xs hn _ ih => exact .tup cs xs hn ih
  | slnil k => exact .slnil k
  | slemp k a cap => exact .slemp k a cap
  | sl k es b o cap x hcap hk hc hX h1 _ ih => exact .sl k es b o cap x hcap hk hc hX h1 ih
  | own f i n x h1 hf => exact absurd hf (Nat.not_lt_zero _)
  | ptr f i n e j x h1 hf => exact absurd hf (Nat.not_lt_zero _)
  | iptr cs j b o x hX h1 hc _ ih => exact .iptr cs j b o x hX h1 hc ih
  | fn f first cap xs ys hn hm _ _ ih ih' => exact .fn f first cap xs ys hn hm ih ih'
  | yld f x h1 hf h => exact absurd hf (Nat.not_lt_zero _)
  | ifc t a x _ ih => exact .ifc t a x ih
  | when c a x _ h' ih => exact .when c a x ih h'

@[simp] theorem PureV.v (x : Value) : PureV (.v x) := fun w X β σ y h => by cases h; exact .v _
@[simp] theorem PureV.any : PureV .any := fun w X β σ y h => .any _
theorem getD_mem {α : Type} {l : List α} {i : Nat} {d : α} (h : i < l.length) : l.getD i d ∈ l := by
  rw [List.getD_eq_getElem?_getD, List.getElem?_eq_getElem h]; exact List.getElem_mem h
@[simp] theorem PureV.agg {cs : List AV} (h : ∀ c ∈ cs, PureV c) : PureV (.agg cs) := fun w X β σ y hy => by
  cases hy with
  | agg _ xs hn h1 hr => exact .agg cs xs hn h1 fun i hi => h _ (getD_mem hi) _ _ _ _ _ (hr i hi)
@[simp] theorem PureV.tup {cs : List AV} (h : ∀ c ∈ cs, PureV c) : PureV (.tup cs) := fun w X β σ y hy => by
  cases hy with
  | tup _ xs hn hr => exact .tup cs xs hn fun i hi => h _ (getD_mem hi) _ _ _ _ _ (hr i hi)
@[simp] theorem PureV.sl {k : Nat} {es : List (List AV)} (h : ∀ e ∈ es, ∀ c ∈ e, PureV c) : PureV (.sl k es) := fun w X β σ y hy => by
  cases hy with
  | slnil => exact .slnil k
  | slemp _ a cap => exact .slemp k a cap
  | sl _ _ b o cap x hcap hk hc hX h1 hr => exact .sl k es b o cap x hcap hk hc hX h1 fun e j he hj => h _ (getD_mem he) _ (getD_mem (by rw [hk e he]; exact hj)) _ _ _ _ _ (hr e j he hj)
@[simp] theorem PureV.iptr {cs : List AV} {j : Nat} (h : ∀ c ∈ cs, PureV c) : PureV (.iptr cs j) := fun w X β σ y hy => by
  cases hy with
  | iptr _ _ b o x hX h1 hc hr => exact .iptr cs j b o x hX h1 hc fun t ht => h _ (getD_mem ht) _ _ _ _ _ (hr t ht)
@[simp] theorem PureV.fn {f : Fn} {as bs : List AV} (h : ∀ c ∈ as, PureV c) (h' : ∀ c ∈ bs, PureV c) : PureV (.fn f as bs) := fun w X β σ y hy => by
  cases hy with
  | fn _ _ _ xs ys hn hm hr hr' => exact .fn f as bs xs ys hn hm (fun i hi => h _ (getD_mem hi) _ _ _ _ _ (hr i hi)) fun i hi => h' _ (getD_mem hi) _ _ _ _ _ (hr' i hi)
@[simp] theorem PureV.ifc {t : TypeId} {a : AV} (h : PureV a) : PureV (.ifc t a) := fun w X β σ y hy => by
  cases hy with
  | ifc _ _ x hr => exact .ifc t a x (h _ _ _ _ _ hr)

/-- The values of operands in a frame. -/
theorem ov_rel {N n0 : Nat} {X : Nat → Prop} {env : Env} {σ : Sto} {β : Blk} {a : Act} {w : World} (hst : Stt N n0 X env σ β a w) {x : Operand} {o : O} (h : chkO x o = true) : RV w (Xt X β σ) β σ (ov env o) (a.eval x) := by
  unfold chkO at h
  split at h
  · simp at h; subst h; exact hst.ev _
  · obtain ⟨rfl, _⟩ := beqV_eq h; exact .v _
  · obtain ⟨rfl, hsc⟩ := beqVs_eq h
    have := (RL.vs (w := w) (X := Xt X β σ) (β := β) (σ := σ) _ hsc).agg
    simp only [Array.toArray_toList] at this
    exact this
  · simp at h; subst h
    exact .fn _ _ _ _ _ rfl rfl (fun i hi => absurd hi (Nat.not_lt_zero _)) (fun i hi => absurd hi (Nat.not_lt_zero _))
  · cases h

theorem strp_rel {w : World} {X : Nat → Prop} {β : Blk} {σ : Sto} {v : AV} {x : Value} (h : RV w X β σ v x) (hc : cnd v = true) : RV w X β σ (strp v) x := by
  cases h with
  | when c a x h h' => exact h hc
  | _ => constructor <;> assumption

theorem ex_congr {i : I} {v v' : O → AV} {σ : Sto} (h : ∀ o ∈ i.os, v o = v' o) : ex i v σ = ex i v' σ := by
  cases i with
  | build z ps =>
    have : (ps.map fun p => (p.1, p.2.1, v p.2.2)) = ps.map fun p => (p.1, p.2.1, v' p.2.2) :=
      List.map_congr_left fun p hp => by rw [h p.2.2 (by simp only [I.os, List.mem_map]; exact ⟨p, hp, rfl⟩)]
    simp only [ex, this]
  | bsl own T k n z ps =>
    have : (ps.map fun p => (p.1, p.2.1, v p.2.2)) = ps.map fun p => (p.1, p.2.1, v' p.2.2) :=
      List.map_congr_left fun p hp => by rw [h p.2.2 (by simp only [I.os, List.mem_map]; exact ⟨p, hp, rfl⟩)]
    simp only [ex, this]
  | mkfn f a b =>
    have h1 : a.map v = a.map v' := List.map_congr_left fun p hp => h p (by simp [I.os, hp])
    have h2 : b.map v = b.map v' := List.map_congr_left fun p hp => h p (by simp [I.os, hp])
    simp only [ex, h1, h2]
  | slice k x lo hi =>
    have h0 := h x (by simp [I.os])
    have h1 : lo.map v = lo.map v' := by cases lo with | none => rfl | some l => simp [h l (by simp [I.os])]
    have h2 : hi.map v = hi.map v' := by cases hi with | none => rfl | some l => simp [h l (by simp [I.os])]
    simp only [ex, h0, h1, h2]
  | alloc T k z => rfl
  | pick a b c => rfl
  | call f as => rfl
  | mv x => simp only [ex, h x (by simp [I.os])]
  | box own T k x => simp only [ex, h x (by simp [I.os])]
  | load s x => simp only [ex, h x (by simp [I.os])]
  | store s a x => simp only [ex, h a (by simp [I.os]), h x (by simp [I.os])]
  | bin op a x => simp only [ex, h a (by simp [I.os]), h x (by simp [I.os])]
  | eqs neg ks a x => simp only [ex, h a (by simp [I.os]), h x (by simp [I.os])]
  | eqb neg a x => simp only [ex, h a (by simp [I.os]), h x (by simp [I.os])]
  | un op x => simp only [ex, h x (by simp [I.os])]
  | faddr off x => simp only [ex, h x (by simp [I.os])]
  | field off s x => simp only [ex, h x (by simp [I.os])]
  | iaddr k a x => simp only [ex, h a (by simp [I.os]), h x (by simp [I.os])]
  | ext i x => simp only [ex, h x (by simp [I.os])]
  | len x => simp only [ex, h x (by simp [I.os])]
  | mnx mx a x => simp only [ex, h a (by simp [I.os]), h x (by simp [I.os])]
  | app T k bytes a x => simp only [ex, h a (by simp [I.os]), h x (by simp [I.os])]
  | mksl T k bytes z a x => simp only [ex, h a (by simp [I.os]), h x (by simp [I.os])]
  | nilc x => simp only [ex, h x (by simp [I.os])]
  | ifc T x => simp only [ex, h x (by simp [I.os])]

theorem ex_calm {i : I} {v : O → AV} {σ : Sto} {S : Prop} {r : AV} {σ' : Sto} (hc : i.calm = true) (h : ex i v σ = some (S, r, σ')) : σ' = σ := by
  cases i <;> simp only [ex, obj, I.calm, Bool.not_eq_true', Bool.false_eq_true, reduceCtorEq] at h hc
  all_goals
    (try subst hc)
    repeat' (split at h)
    all_goals first
      | contradiction
      | (simp only [Option.some.injEq, Prod.mk.injEq] at h; exact h.2.2.symm)

theorem sideL_mem {g : Bool} {env : Env} : ∀ {os : List O}, sideL g env os → g = true → ∀ o ∈ os, cnd (ov env o) = true
  | [], _, _, o, ho => absurd ho (List.not_mem_nil)
  | a :: os, h, hg, o, ho => by
    rcases List.mem_cons.1 ho with rfl | ho
    · exact h.1 hg
    · exact sideL_mem h.2 hg o ho

/-- One plain operation, in a frame: it is carried out, and its result comes to lie in its slot. -/
theorem step_plain {P : Program} {N n0 : Nat} {X : Nat → Prop} {env : Env} {σ : Sto} {β : Blk} {a : Act} {w : World} {o : Oper} {i : I} {S : Prop} {r : AV} {σ' : Sto}
    (hst : Stt N n0 X env σ β a w) (hc : chkI P o.op i = true) (hside : ∀ o ∈ i.os, cnd (ov env o) = true) (he : ex i (fun o => strp (ov env o)) σ = some (S, r, σ')) (hS : S) :
    Done P o a.eval w X β σ r σ' := by
  have hcg : ex i (fun o => if cnd (ov env o) then strp (ov env o) else .any) σ = some (S, r, σ') := by
    rw [← he]; exact ex_congr fun o ho => by simp [hside o ho]
  refine ex_sound hc hst.sr hst.bd (fun x z h => ?_) hcg hS
  have := ov_rel hst h
  split
  · exact strp_rel this ‹_›
  · exact .any _

end Go.Abs
