/-
  The Bool function that holds an instruction against an operation of the program; that an instruction's effect on abstract values is the operation's on values.
-/
import Derived.Test.YtgpdckmbojmlpaaA3
namespace Go.Abs
set_option linter.unusedVariables false
set_option linter.unusedSimpArgs false

def beqV : Value → Value → Bool
  | .bool a, .bool b => a == b
  | .int k a, .int k' b => k == k' && a == b
  | .float k a, .float k' b => k == k' && a == b
  | .string a, .string b => decide (a.data = b.data)
  | .pointer none, .pointer none => true
  | .slice none 0 0, .slice none 0 0 => true
  | .map none, .map none => true
  | .chan none, .chan none => true
  | .nilFunc, .nilFunc => true
  | .nilIface, .nilIface => true
  | _, _ => false

theorem beqV_eq {a b : Value} (h : beqV a b = true) : a = b ∧ scalar a = true := by
  unfold beqV at h
  split at h
  case h_4 a b => obtain ⟨a⟩ := a; obtain ⟨b⟩ := b; simp at h; subst h; exact ⟨rfl, rfl⟩
  all_goals first
    | (simp at h; done)
    | (simp at h; subst h; exact ⟨rfl, rfl⟩)
    | (simp at h; obtain ⟨rfl, rfl⟩ := h; exact ⟨rfl, rfl⟩)
    | exact ⟨rfl, rfl⟩

def beqVs : List Value → List Value → Bool
  | [], [] => true
  | a :: r, b :: s => beqV a b && beqVs r s
  | _, _ => false

theorem beqVs_eq : ∀ {a b : List Value}, beqVs a b = true → a = b ∧ ∀ x ∈ a, scalar x = true
  | [], [], _ => ⟨rfl, by simp⟩
  | a :: r, b :: s, h => by
    simp only [beqVs, Bool.and_eq_true] at h
    obtain ⟨rfl, h1⟩ := beqV_eq h.1
    obtain ⟨rfl, h2⟩ := beqVs_eq h.2
    exact ⟨rfl, by simpa using ⟨h1, h2⟩⟩
  | [], _ :: _, h => by simp [beqVs] at h
  | _ :: _, [], h => by simp [beqVs] at h

theorem oneCell_of_scalar {x : Value} (h : scalar x = true) : x.oneCell' = true := by cases x <;> simp_all [scalar, Value.oneCell']

def chkO : Operand → O → Bool
  | .tmp a, .t b => a == b
  | .const x, .c y => beqV x y
  | .const (.agg xs), .ca l => beqVs xs.toList l
  | .func f, .f g => f == g
  | _, _ => false

def chkOs : List Operand → List O → Bool
  | [], [] => true
  | a :: r, b :: s => chkO a b && chkOs r s
  | _, _ => false

def szF (P : Program) (t : TypeId) : Option Nat := (P.info? t).map (·.size)

def agF (P : Program) (t : TypeId) : Option Bool := (P.underlying t).map fun d => match d with | .struct _ | .array _ _ => true | _ => false

def zrF (P : Program) (t : TypeId) : Option (List Value) := (P.info? t).bind fun i => i.zero.map (·.cells.toList)

def elF (P : Program) (t : TypeId) : Option TypeId := match P.underlying t with | some (.slice e) => some e | _ => none

def fdF (P : Program) (t : TypeId) (n : Nat) : Option (Nat × TypeId) :=
  match P.underlying t with
  | some (.struct fs) => (fs[n]?).map fun f => (f.offset, f.type)
  | _ => none

def optO : Option Operand → Option O → Bool
  | none, none => true
  | some a, some b => chkO a b
  | _, _ => false

def chkPs (place : Nat → Option (Nat × Nat)) : List (Nat × Operand) → List (Nat × Nat × O) → Bool
  | [], [] => true
  | (i, x) :: r, (off, size, y) :: s => place i == some (off, size) && chkO x y && chkPs place r s
  | _, _ => false

/-- The cells of a type whose values are compared cell by cell: an integer, a bool, a struct of such. -/
def flatN (P : Program) : Nat → TypeId → Option (List (Option IntKind))
  | 0, _ => none
  | d + 1, t =>
    match P.underlying t with
    | some (.int k) => some [some k]
    | some .bool => some [none]
    | some (.struct fs) => if P.stoodInHeld t then none else
        (fs.toList.foldl (fun acc f => acc.bind fun l => if f.offset == l.length && f.name != "_" then (flatN P d f.type).map fun n => l ++ n else none) (some [])).bind fun n =>
          if szF P t == some n.length then some n else none
    | _ => none

def chkI (P : Program) (o : Op) (i : I) : Bool :=
  match o, i with
  | .move x, .mv y | .assign x, .mv y => chkO x y
  | .pick c a b, .pick c' a' b' => chkO c c' && chkO a a' && chkO b b'
  | .alloc T, .alloc T' k z => T == T' && szF P T == some k && (match zrF P T with | some l => beqVs l z | none => false)
  | .box T x, .box _ T' k y => T == T' && szF P T == some k && chkO x y
  | .build t ps, .build z qs => (match zrF P t with | some l => beqVs l z | none => false) &&
      (match P.underlying t with
        | some (.struct fs) => chkPs (fun n => (fs[n]?).bind fun f => (szF P f.type).map fun s => (f.offset, s)) ps.toList qs && fs.toList.all fun f => (szF P f.type).isSome
        | some (.array _ e) => (match szF P e with | some s => chkPs (fun n => some (n * s, s)) ps.toList qs | none => false)
        | _ => false)
  | .buildSlice t n ps, .bsl _ T k m z qs => n == m && elF P t == some T && szF P T == some k && decide (n * k ≤ 16777216) &&
      (match zrF P T with | some l => beqVs ((List.range (n * k)).map fun j => l.toArray[j % l.toArray.size]!) z | none => false) && chkPs (fun i => some (i * k, k)) ps.toList qs
  | .load t a, .load s b => chkO a b && (match agF P t, s with
      | some false, none => true
      | some true, some n => szF P t == some n
      | _, _ => false)
  | .store t a x, .store s b y => chkO a b && chkO x y && szF P t == some s
  | .binOp op _ x y _, .bin op' x' y' => op == op' && chkO x x' && chkO y y'
  | .binOp op t x y _, .eqs neg ks x' y' => op == (if neg then .neq else .eql) && chkO x x' && chkO y y' && (match P.underlying t with | some (.struct _) => true | _ => false) && flatN P 4 t == some ks && !P.eqGuardType P.depth t
  | .binOp op t x y _, .eqb neg x' y' => op == (if neg then .neq else .eql) && chkO x x' && chkO y y' && (match P.underlying t with | some .bool => true | _ => false)
  | .unOp op _ x, .un op' y => op == op' && chkO x y
  | .fieldAddr t x n, .faddr off y => chkO x y && (match fdF P t n with
      | some (o, ft) => o == off && (match szF P ft with | some s => s != 0 | none => false)
      | none => false)
  | .field t x n, .field off s y => chkO x y && (match fdF P t n with
      | some (o, ft) => o == off && (match agF P ft, s with
        | some false, none => true
        | some true, some n => szF P ft == some n
        | _, _ => false)
      | none => false)
  | .indexAddr t x j, .iaddr k y j' => chkO x y && chkO j j' && (match elF P t with | some e => szF P e == some k | none => false)
  | .extract x n, .ext m y => chkO x y && n == m
  | .call ⟨.builtin .len, args, ts⟩, .len y => (match args.toList, ts.toList with
      | [x], [t] => chkO x y && (elF P t).isSome
      | _, _ => false)
  | .call ⟨.builtin .min, args, _⟩, .mnx mx x y => !mx && chkOs args.toList [x, y]
  | .call ⟨.builtin .max, args, _⟩, .mnx mx x y => mx && chkOs args.toList [x, y]
  | .call ⟨.builtin .append, args, ts⟩, .app T k bytes s x => chkOs args.toList [s, x] && (match ts.toList with
      | [t, t'] => t == t' && elF P t == some T && szF P T == some k && (P.info? T).map (·.bytes) == some bytes && (match zrF P T with | some z => z.length == k | none => false) && k != 0 && bytes != 0
      | _ => false)
  | .makeSlice t l c, .mksl T k bytes z l' c' => chkO l l' && chkO c c' && elF P t == some T && szF P T == some k && (P.info? T).map (·.bytes) == some bytes && (match zrF P T with | some z' => beqVs z' z && z'.length == k | none => false) && k != 0 && bytes != 0
  | .slice t x lo hi none, .slice k y lo' hi' => chkO x y && optO lo lo' && optO hi hi' && (match elF P t with | some e => szF P e == some k | none => false)
  | .makeFunc f a b, .mkfn f' a' b' => decide (f = f') && chkOs a.toList a' && chkOs b.toList b'
  | .nilCheck x, .nilc y => chkO x y
  | .makeInterface t x, .ifc T y => t == T && chkO x y && (match P.underlying t with | some (.interface _) | none => false | _ => true)
  | .call ⟨.value f, args, _⟩, .call g args' => chkO f g && chkOs args.toList args'
  | _, _ => false

/-- What an operation that is no call comes to. -/
def Done (P : Program) (o : Oper) (ρ : Operand → Value) (w : World) (X : Nat → Prop) (β : Blk) (σ : Sto) (r : AV) (σ' : Sto) : Prop :=
  ∃ n x w' β', (execOp ρ o).run P w = .ok n w' ∧ (n = .value x ∨ n = .skip ∧ x = undef) ∧ SRel w' X β' σ' ∧ Kp w (Xt X β σ) β σ w' (Xt X β' σ') β' σ' ∧
    Ext w β σ w' β' σ' ∧ RV w' (Xt X β' σ') β' σ' r x

section
variable {P : Program} {o : Oper} {ρ : Operand → Value} {w : World} {X : Nat → Prop} {β : Blk} {σ : Sto}

theorem done_pure {r : AV} {x : Value} (hs : SRel w X β σ) (hr : (execOp ρ o).run P w = .ok (.value x) w) (hx : RV w (Xt X β σ) β σ r x) : Done P o ρ w X β σ r σ :=
  ⟨_, x, w, β, hr, .inl rfl, hs, Kp.same (Nat.le_refl _) (fun _ _ => rfl) hs, Ext.refl _ _ _, hx⟩

theorem RV.inv_v {X : Nat → Prop} {x y : Value} (h : RV w X β σ (.v x) y) : y = x := by cases h; rfl

theorem RV.inv_agg {X : Nat → Prop} {cs : List AV} {y : Value} (h : RV w X β σ (.agg cs) y) :
    ∃ xs : Array Value, y = .agg xs ∧ xs.size = cs.length ∧ (∀ i, i < cs.length → (xs.getD i undef).oneCell' = true) ∧ ∀ i, i < cs.length → RV w X β σ (cs.getD i .any) (xs.getD i undef) := by
  cases h with
  | agg _ xs hn h1 h => exact ⟨xs, rfl, hn, h1, h⟩

theorem RV.inv_tup {X : Nat → Prop} {cs : List AV} {y : Value} (h : RV w X β σ (.tup cs) y) :
    ∃ xs : Array Value, y = .tuple xs ∧ xs.size = cs.length ∧ ∀ i, i < cs.length → RV w X β σ (cs.getD i .any) (xs.getD i undef) := by
  cases h with
  | tup _ xs hn h => exact ⟨xs, rfl, hn, h⟩

theorem agg_list {X : Nat → Prop} {cs : List AV} {xs : List Value} (hn : xs.length = cs.length) (h1 : ∀ i, i < cs.length → (xs.getD i undef).oneCell' = true)
    (h : ∀ i, i < cs.length → RV w X β σ (cs.getD i .any) (xs.getD i undef)) : RV w X β σ (.agg cs) (.agg xs.toArray) := by
  refine .agg cs _ (by simpa using hn) (fun i hi => ?_) fun i hi => ?_
  · simpa [Array.getD_eq_getD_getElem?, List.getD_eq_getElem?_getD] using h1 i hi
  · simpa [Array.getD_eq_getD_getElem?, List.getD_eq_getElem?_getD] using h i hi

theorem run_loadVar_one {t : TypeId} {a : Addr} {x : Value} (ht : agF P t = some false) (hc : w.cell? a = some x) : (loadVar t a).run P w = .ok x w := by
  unfold agF at ht
  obtain ⟨d, hd, he⟩ := Option.map_eq_some_iff.1 ht
  have ha : (isAgg t).run P w = .ok false w := by
    simp only [isAgg, Sem.run_bind, run_underlying hd, Result.andThen_ok]
    cases d <;> first | rfl | simp at he
  simp [loadVar, ha, hc]

theorem run_loadVar_agg {t : TypeId} {a : Addr} {n : Nat} {f : Nat → Value} (ht : agF P t = some true) (hs : szF P t = some n) (hc : ∀ j, j < n → w.cell? (a.add j) = some (f j)) :
    (loadVar t a).run P w = .ok (.agg ((List.range n).map f).toArray) w := by
  unfold agF at ht
  obtain ⟨d, hd, he⟩ := Option.map_eq_some_iff.1 ht
  have ha : (isAgg t).run P w = .ok true w := by
    simp only [isAgg, Sem.run_bind, run_underlying hd, Result.andThen_ok]
    cases d <;> first | rfl | simp at he
  unfold szF at hs
  obtain ⟨i, hi, rfl⟩ := Option.map_eq_some_iff.1 hs
  have hz : (sizeOf t).run P w = .ok i.size w := by simp [sizeOf, typeInfo, hi]
  simp only [loadVar, Sem.run_bind, ha, Result.andThen_ok, if_true, hz, run_loadCells w a i.size f hc, Sem.run_pure]

end
end Go.Abs
