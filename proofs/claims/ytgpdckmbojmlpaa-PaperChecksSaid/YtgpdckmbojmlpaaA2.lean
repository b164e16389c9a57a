/-
  The form in which a function's code is executed over abstract values: instructions, their effect on abstract values (with what it asks), lists of them, code; and the Bool function that says that such a form is that of a given code.
-/
import Derived.Test.YtgpdckmbojmlpaaA1
namespace Go.Abs
set_option linter.unusedVariables false
set_option linter.unusedSimpArgs false

inductive O where
  | t (n : Nat)
  | c (x : Value)
  | ca (xs : List Value)
  | f (n : Nat)

inductive I where
  | mv (x : O)
  | pick (c a b : O)
  | alloc (T k : Nat) (z : List Value)
  | box (own : Bool) (T k : Nat) (x : O)
  | build (z : List Value) (ps : List (Nat × Nat × O))
  | bsl (own : Bool) (T k n : Nat) (z : List Value) (ps : List (Nat × Nat × O))
  | load (s : Option Nat) (a : O)
  | store (s : Nat) (a x : O)
  | bin (op : BinOp) (x y : O)
  | eqs (neg : Bool) (ks : List (Option IntKind)) (x y : O)
  | eqb (neg : Bool) (x y : O)
  | un (op : UnOp) (x : O)
  | faddr (off : Nat) (x : O)
  | field (off : Nat) (s : Option Nat) (x : O)
  | iaddr (k : Nat) (x i : O)
  | ext (i : Nat) (x : O)
  | len (x : O)
  | mnx (mx : Bool) (x y : O)
  | app (T k bytes : Nat) (s x : O)
  | mksl (T k bytes : Nat) (z : List Value) (l c : O)
  | slice (k : Nat) (x : O) (lo hi : Option O)
  | mkfn (f : Fn) (first cap : List O)
  | nilc (x : O)
  | ifc (T : Nat) (x : O)
  | call (f : O) (args : List O)

structure J where
  d : Option Nat
  i : I
  g : Option (Nat × Bool)

inductive C where
  | skip
  | ops (l : List J) (live : List Nat)
  | draw (p l : List J) (live : List Nat)
  | seq (a b : C)
  | cond (x : O) (a b : C)
  | block (id : Nat) (a : C)
  | loop (a : C)
  | exit (id : Nat)
  | ret
  | rng (f : O) (ps : List Nat) (assign body : C)

def st (d : Option Nat) (v : AV) (env : Env) : Env :=
  match d with
  | some d => (d, v) :: env
  | none => env

def keep (live : List Nat) (env : Env) : Env := live.map fun s => (s, gt env s)

def vs : List Value → List AV
  | [] => []
  | x :: r => .v x :: vs r

def ov (env : Env) : O → AV
  | .t n => gt env n
  | .c x => .v x
  | .ca xs => .agg (vs xs)
  | .f n => .fn (.func n) [] []

def strp : AV → AV
  | .when _ x => x
  | x => x

def cnd : AV → Bool
  | .when d _ => d
  | _ => true

def scalar : Value → Bool
  | .agg _ | .tuple _ => false
  | _ => true

/-- The cells of a value, where they are known one by one. -/
def cells : AV → Option (List AV)
  | .agg cs => some cs
  | .v x => if scalar x then some [.v x] else none
  | .sl k es => some [.sl k es]
  | .own f i n => some [.own f i n]
  | .ptr f i n e j => some [.ptr f i n e j]
  | .iptr cs j => some [.iptr cs j]
  | .fn f a b => some [.fn f a b]
  | .yld f => some [.yld f]
  | .ifc t x => some [.ifc t x]
  | _ => none

def pick1 (s : Option Nat) (cs : List AV) (j : Nat) : Option AV :=
  match s with
  | none => cs[j]?
  | some n => if j + n ≤ cs.length then some (.agg ((cs.drop j).take n)) else none

def splice (cs : List AV) (j : Nat) (xs : List AV) : List AV := cs.take j ++ xs ++ cs.drop (j + xs.length)

def fillA : List AV → List (Nat × Nat × AV) → Option (List AV)
  | cs, [] => some cs
  | cs, (off, size, x) :: r =>
    match cells x with
    | some xs => if xs.length = size ∧ off + size ≤ cs.length then fillA (splice cs off xs) r else none
    | none => none

def chop (k : Nat) : Nat → List AV → List (List AV)
  | 0, _ => []
  | n + 1, cs => cs.take k :: chop k n (cs.drop k)

def binA (op : BinOp) (x y : AV) : Option (Prop × AV) :=
  match x, y with
  | .v (.int k a), .v (.int k' b) =>
    if k = k' then
      match op with
      | .add => some (True, .v (.int k (k.wrap (a + b))))
      | .sub => some (True, .v (.int k (k.wrap (a - b))))
      | .mul => some (True, .v (.int k (k.wrap (a * b))))
      | .quo => some (b ≠ 0, .v (.int k (k.wrap (a.tdiv b))))
      | .rem => some (b ≠ 0, .v (.int k (a.tmod b)))
      | .eql => some (True, .v (.bool (a == b)))
      | .neq => some (True, .v (.bool (a != b)))
      | .lss => some (True, .v (.bool (decide (a < b))))
      | .leq => some (True, .v (.bool (decide (a ≤ b))))
      | .gtr => some (True, .v (.bool (decide (b < a))))
      | .geq => some (True, .v (.bool (decide (b ≤ a))))
      | _ => none
    else none
  | _, _ => none

def eqC : List (Option IntKind) → List AV → List AV → Option Bool
  | [], [], [] => some true
  | some k :: q, .v (.int k1 a) :: r, .v (.int k2 b) :: s => if k1 = k ∧ k2 = k then (eqC q r s).map fun t => (a == b) && t else none
  | none :: q, .v (.bool a) :: r, .v (.bool b) :: s => (eqC q r s).map fun t => (a == b) && t
  | _, _, _ => none

def obj (σ : Sto) (f i : Nat) (K : Ob → Option (Prop × AV × Sto)) : Option (Prop × AV × Sto) :=
  match σ.at f i with
  | some o => K o
  | none => none

/-- The elements of a slice that is read. -/
def elems (σ : Sto) : AV → Option (Prop × List (List AV))
  | .sl _ es => some (True, es)
  | .own f i n => match σ.at f i with
    | some o => some (o.es.length = n, o.es)
    | none => none
  | .v (.slice none 0 0) => some (True, [])
  | _ => none

def ex (i : I) (v : O → AV) (σ : Sto) : Option (Prop × AV × Sto) :=
  match i with
  | .mv x => some (True, v x, σ)
  | .alloc T k z => if z.length = k then some (True, .ptr σ.length 0 1 0 0, σ ++ [some [⟨T, k, [vs z], none⟩]]) else none
  | .box own T k x => match cells (v x) with
    | some cs => if cs.length = k then (if own then some (True, .ptr σ.length 0 1 0 0, σ ++ [some [⟨T, k, [cs], none⟩]]) else some (True, .iptr cs 0, σ)) else none
    | none => none
  | .build z ps => match fillA (vs z) (ps.map fun p => (p.1, p.2.1, v p.2.2)) with
    | some cs => some (True, .agg cs, σ)
    | none => none
  | .bsl own T k n z ps => match fillA (vs z) (ps.map fun p => (p.1, p.2.1, v p.2.2)) with
    | some cs => if cs.length = n * k then (if own then some (True, .own σ.length 0 n, σ ++ [some [⟨T, k, chop k n cs, none⟩]]) else some (True, .sl k (chop k n cs), σ)) else none
    | none => none
  | .load s a => match v a with
    | .iptr cs j => match pick1 s cs j with
      | some x => some (True, x, σ)
      | none => none
    | .ptr f i n e j => obj σ f i fun o => match s with
      | none => some (o.es.length = n ∧ e < n ∧ j < o.k, (o.es.getD e []).getD j .any, σ)
      | some m => some (o.es.length = n ∧ e < n ∧ j + m ≤ o.k, .agg (((o.es.getD e []).drop j).take m), σ)
    | _ => none
  | .store s a x => match v a, cells (v x) with
    | .ptr f i n e j, some xs => obj σ f i fun o =>
      if xs.length = s then some (o.es.length = n ∧ e < n ∧ j + s ≤ o.k, .any, σ.upd f i { o with es := o.es.set e (splice (o.es.getD e []) j xs) }) else none
    | _, _ => none
  | .bin op x y => match binA op (v x) (v y) with
    | some (s, r) => some (s, r, σ)
    | none => none
  | .eqs neg ks x y => match v x, v y with
    | .agg a, .agg b => match eqC ks a b with
      | some t => some (True, .v (.bool (bif neg then !t else t)), σ)
      | none => none
    | _, _ => none
  | .eqb neg x y => match v x, v y with
    | .v (.bool a), .v (.bool b) => some (True, .v (.bool (bif neg then a != b else a == b)), σ)
    | _, _ => none
  | .un op x => match op, v x with
    | .not, .v (.bool b) => some (True, .v (.bool !b), σ)
    | .neg, .v (.int k n) => some (True, .v (.int k (k.wrap (0 - n))), σ)
    | _, _ => none
  | .faddr off x => match v x with
    | .iptr cs j => some (True, .iptr cs (j + off), σ)
    | .ptr f i n e j => obj σ f i fun o => some (o.es.length = n, .ptr f i n e (j + off), σ)
    | _ => none
  | .field off s x => match v x with
    | .agg cs => match pick1 s cs off with
      | some x => some (True, x, σ)
      | none => none
    | _ => none
  | .iaddr k x i => match v x, v i with
    | .sl k' es, .v (.int _ z) => if k' = k then some (0 ≤ z ∧ z < es.length, .iptr (es.getD z.toNat []) 0, σ) else none
    | .own f i n, .v (.int _ z) => obj σ f i fun o => some (o.k = k ∧ o.es.length = n ∧ 0 ≤ z ∧ z < n, .ptr f i n z.toNat 0, σ)
    | _, _ => none
  | .ext i x => match v x with
    | .tup cs => match cs[i]? with
      | some x => some (True, x, σ)
      | none => none
    | _ => none
  | .len x => match v x with
    | .sl _ es => some (True, .v (.int .i64 es.length), σ)
    | .own f i n => obj σ f i fun o => some (o.es.length = n, .v (.int .i64 n), σ)
    | .v (.slice none 0 0) => some (True, .v (.int .i64 0), σ)
    | _ => none
  | .mnx mx x y => match v x, v y with
    | .v (.int k a), .v (.int k' b) => if k = k' then some (True, .v (.int k (bif mx then max a b else min a b)), σ) else none
    | _, _ => none
  | .app T k bytes s x => match elems σ (v x) with
    | some (p, xs) => match v s with
      | .v (.slice none 0 0) => some (p ∧ (∀ e, e < xs.length → (xs.getD e []).length = k) ∧ xs.length * bytes ≤ 140737488355328, .own σ.length 0 xs.length, σ ++ [some [⟨T, k, xs, none⟩]])
      | .own f i n => obj σ f i fun o => some (p ∧ (∀ e, e < xs.length → (xs.getD e []).length = k) ∧ o.T = T ∧ o.k = k ∧ o.lp = none ∧ o.es.length = n ∧ (n + xs.length) * bytes ≤ 140737488355328, .own f i (n + xs.length), σ.upd f i { o with es := o.es ++ xs })
      | _ => none
    | none => none
  | .mksl T k bytes z l c => match v l, v c with
    | .v (.int _ a), .v (.int _ b) => if z.length = k then some (a = b ∧ 0 ≤ a ∧ a * bytes ≤ 140737488355328, .own σ.length 0 a.toNat, σ ++ [some [⟨T, k, List.replicate a.toNat (vs z), none⟩]]) else none
    | _, _ => none
  | .slice k x lo hi => match v x, (lo.map v).getD (.v (.int .i64 0)) with
    | .sl k' es, .v (.int _ a) => match (hi.map v).getD (.v (.int .i64 es.length)) with
      | .v (.int _ b) => if k' = k then some (0 ≤ a ∧ a ≤ b ∧ b ≤ es.length, .sl k ((es.take b.toNat).drop a.toNat), σ) else none
      | _ => none
    | _, _ => none
  | .mkfn f first cap => some (True, .fn f (first.map v) (cap.map v), σ)
  | .nilc x => match v x with
    | .fn f a b => match f with
      | .func _ => some (True, .fn f a b, σ)
      | _ => none
    | .ptr f i n e j => obj σ f i fun o => some (o.es.length = n, .ptr f i n e j, σ)
    | .iptr cs j => some (True, .iptr cs j, σ)
    | .ifc t x => some (True, .ifc t x, σ)
    | _ => none
  | .ifc T x => some (True, .ifc T (v x), σ)
  | .pick .. | .call .. => none

def I.os : I → List O
  | .alloc .. => []
  | .mv x | .box _ _ _ x | .load _ x | .un _ x | .faddr _ x | .field _ _ x | .ext _ x | .len x | .nilc x | .ifc _ x => [x]
  | .build _ ps | .bsl _ _ _ _ _ ps => ps.map (·.2.2)
  | .store _ a x | .bin _ a x | .eqs _ _ a x | .eqb _ a x | .iaddr _ a x | .mnx _ a x | .app _ _ _ a x | .mksl _ _ _ _ a x => [a, x]
  | .pick c a b => [c, a, b]
  | .slice _ x lo hi => x :: (lo.toList ++ hi.toList)
  | .mkfn _ a b => a ++ b
  | .call f args => f :: args

/-- An instruction that may stand under a guard: it leaves the objects as they are. -/
def I.calm : I → Bool
  | .alloc .. | .store .. | .app .. | .mksl .. => false
  | .box own .. | .bsl own .. => !own
  | _ => true

def sideL (g : Bool) (env : Env) : List O → Prop
  | [] => True
  | o :: r => (g = true → cnd (ov env o) = true) ∧ sideL g env r

def ocalls : List O → Env → List AV
  | [], _ => []
  | o :: r, env => strp (ov env o) :: ocalls r env

end Go.Abs
