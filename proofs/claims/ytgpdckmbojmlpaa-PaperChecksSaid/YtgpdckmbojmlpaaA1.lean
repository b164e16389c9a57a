/-
  A layer of abstract values over the walk: what a value of the program reads as, whatever the world; the state of a frame in these terms; how readings go over from one world to a later one.
-/
import Derived.WalkKit
import Derived.CallsIn
namespace Go.Abs
set_option linter.unusedVariables false
set_option linter.unusedSimpArgs false

/-- What is known of a value: exactly; a struct; a tuple; an immutable slice by its elements (each of k cells); a slice over an object that is owned; a pointer into one; a pointer to immutable cells; a function with what it holds; an interface value; a value if a condition holds, else undefined; nothing. -/
inductive AV where
  | v (x : Value)
  | agg (cs : List AV)
  | tup (cs : List AV)
  | sl (k : Nat) (es : List (List AV))
  | own (f i n : Nat)
  | ptr (f i n e j : Nat)
  | iptr (cs : List AV) (j : Nat)
  | fn (f : Fn) (first cap : List AV)
  | yld (f : Nat)
  | ifc (t : TypeId) (x : AV)
  | when (c : Bool) (x : AV)
  | any

instance : Inhabited AV := ⟨.any⟩

abbrev Env := List (Nat × AV)

def gt : Env → Nat → AV
  | [], _ => .any
  | (m, v) :: r, n => bif m == n then v else gt r n

/-- The record of a range over a function: its state; the jump that waits; what it holds of the frame. -/
structure Lp where
  st : LoopState
  pend : Option Code
  ps : Array Tmp
  assign : Code
  body : Code
  N : Nat
  env : Env

/-- An object that is owned: its element type, cells an element, the elements; or the record of a range over a function. -/
structure Ob where
  T : TypeId
  k : Nat
  es : List (List AV)
  lp : Option Lp

theorem gt_nil (s : Nat) : gt [] s = .any := rfl

abbrev Sto := List (Option (List Ob))
abbrev Blk := Nat → Nat → Option Nat

def Sto.at (σ : Sto) (f i : Nat) : Option Ob :=
  match σ[f]? with
  | some (some F) => F[i]?
  | _ => none

def Sto.upd (σ : Sto) (f i : Nat) (o : Ob) : Sto :=
  match σ[f]? with
  | some (some F) => σ.set f (some (F.set i o))
  | _ => σ

def owned (β : Blk) (σ : Sto) (b : Nat) : Prop := ∃ f i o, σ.at f i = some o ∧ β f i = some b

def OwnSl (w : World) (bo : Option Nat) (o : Ob) (x : Value) : Prop :=
  match bo with
  | none => o.es = [] ∧ x = .slice none 0 0
  | some b => ∃ cap c T, x = .slice (some ⟨b, 0, none⟩) o.es.length cap ∧ w.heap[b]? = some (.cells c T (0, 0)) ∧ c.size = cap * o.k

inductive RV (w : World) (X : Nat → Prop) (β : Blk) (σ : Sto) : AV → Value → Prop
  | v (x : Value) : RV w X β σ (.v x) x
  | any (x : Value) : RV w X β σ .any x
  | agg (cs : List AV) (xs : Array Value) (hn : xs.size = cs.length) (h1 : ∀ i, i < cs.length → (xs.getD i undef).oneCell' = true) (h : ∀ i, i < cs.length → RV w X β σ (cs.getD i .any) (xs.getD i undef)) : RV w X β σ (.agg cs) (.agg xs)
  | tup (cs : List AV) (xs : Array Value) (hn : xs.size = cs.length) (h : ∀ i, i < cs.length → RV w X β σ (cs.getD i .any) (xs.getD i undef)) : RV w X β σ (.tup cs) (.tuple xs)
  | slnil (k : Nat) : RV w X β σ (.sl k []) (.slice none 0 0)
  | slemp (k : Nat) (a : Addr) (cap : Nat) : RV w X β σ (.sl k []) (.slice (some a) 0 cap)
  | sl (k : Nat) (es : List (List AV)) (b o cap : Nat) (x : Nat → Nat → Value) (hcap : es.length ≤ cap) (hk : ∀ e, e < es.length → (es.getD e []).length = k)
      (hc : ∀ e, e < es.length → ∀ j, j < k → w.cell? ⟨b, o + e * k + j, none⟩ = some (x e j)) (hX : ∀ e j, e < es.length → j < k → ¬ X b) (h1 : ∀ e j, e < es.length → j < k → (x e j).oneCell' = true)
      (hr : ∀ e j, e < es.length → j < k → RV w X β σ ((es.getD e []).getD j .any) (x e j)) : RV w X β σ (.sl k es) (.slice (some ⟨b, o, none⟩) es.length cap)
  | own (f i n : Nat) (x : Value) (h1 : x.oneCell' = true) (hf : f < σ.length) (hle : ∀ o, σ.at f i = some o → n ≤ o.es.length) (h : ∀ o, σ.at f i = some o → o.es.length = n → OwnSl w (β f i) o x) : RV w X β σ (.own f i n) x
  | ptr (f i n e j : Nat) (x : Value) (h1 : x.oneCell' = true) (hf : f < σ.length) (hle : ∀ o, σ.at f i = some o → n ≤ o.es.length) (h : ∀ o, σ.at f i = some o → o.es.length = n → ∃ b, β f i = some b ∧ x = .pointer (some ⟨b, e * o.k + j, none⟩)) : RV w X β σ (.ptr f i n e j) x
  | iptr (cs : List AV) (j b o : Nat) (x : Nat → Value) (hX : ∀ t, t < cs.length → ¬ X b) (h1 : ∀ t, t < cs.length → (x t).oneCell' = true)
      (hc : ∀ t, t < cs.length → w.cell? ⟨b, o + t, none⟩ = some (x t)) (hr : ∀ t, t < cs.length → RV w X β σ (cs.getD t .any) (x t)) : RV w X β σ (.iptr cs j) (.pointer (some ⟨b, o + j, none⟩))
  | fn (f : Fn) (first cap : List AV) (xs ys : Array Value) (hn : xs.size = first.length) (hm : ys.size = cap.length)
      (h : ∀ i, i < first.length → RV w X β σ (first.getD i .any) (xs.getD i undef)) (h' : ∀ i, i < cap.length → RV w X β σ (cap.getD i .any) (ys.getD i undef)) : RV w X β σ (.fn f first cap) (.func f xs ys)
  | yld (f : Nat) (x : Value) (h1 : x.oneCell' = true) (hf : f < σ.length) (h : ∀ o, σ.at f 0 = some o → o.es.length = 0 → ∃ l, β f 0 = some l ∧ x = .func (.yield l) #[] #[]) : RV w X β σ (.yld f) x
  | ifc (t : TypeId) (a : AV) (x : Value) (h : RV w X β σ a x) : RV w X β σ (.ifc t a) (.iface t x)
  | when (c : Bool) (a : AV) (x : Value) (h : c = true → RV w X β σ a x) (h' : c = false → x = undef) : RV w X β σ (.when c a) x

def LpRel (w : World) (X : Nat → Prop) (β : Blk) (σ : Sto) (r : Lp) (q : Loop) : Prop :=
  q.state = r.st ∧ q.pending = r.pend ∧ q.params = r.ps ∧ q.assign = r.assign ∧ q.body = r.body ∧ q.tmps.size = r.N ∧ ∀ s, RV w X β σ (gt r.env s) (q.tmps.getD s undef)

def ObRel (w : World) (X : Nat → Prop) (β : Blk) (σ : Sto) (bo : Option Nat) (o : Ob) : Prop :=
  (∀ e, e < o.es.length → (o.es.getD e []).length = o.k) ∧
  match bo with
  | none => o.es = [] ∧ o.lp = none
  | some b => (o.lp = none → ∃ c, w.heap[b]? = some (.cells c o.T (0, 0)) ∧ o.es.length * o.k ≤ c.size ∧
      (∀ e j, e < o.es.length → j < o.k → (c.getD (e * o.k + j) undef).oneCell' = true) ∧
      ∀ e j, e < o.es.length → j < o.k → RV w X β σ ((o.es.getD e []).getD j .any) (c.getD (e * o.k + j) undef)) ∧
      ∀ r, o.lp = some r → o.es = [] ∧ ∃ q, w.heap[b]? = some (.loop q) ∧ LpRel w X β σ r q

theorem ObRel.lp_none {w : World} {X : Nat → Prop} {β : Blk} {σ : Sto} {bo : Option Nat} {o : Ob} {e : Nat} (h : ObRel w X β σ bo o) (he : e < o.es.length) : o.lp = none := by
  have h2 := h.2
  cases bo with
  | none => exact h2.2
  | some b =>
    cases hl : o.lp with
    | none => rfl
    | some r => rw [(h2.2 r hl).1] at he; exact absurd he (Nat.not_lt_zero _)

theorem ObRel.lp_cells {w : World} {X : Nat → Prop} {β : Blk} {σ : Sto} {b : Nat} {o : Ob} {c : Array Value} {T : TypeId} {fr : Nat × Nat} (h : ObRel w X β σ (some b) o) (hc : w.heap[b]? = some (.cells c T fr)) : o.lp = none := by
  cases hl : o.lp with
  | none => rfl
  | some r => obtain ⟨_, q, hq, _⟩ := h.2.2 r hl; rw [hc] at hq; cases hq

/-- All that no immutable reading may lie in: what is barred from without, and what is owned. -/
def Xt (X : Nat → Prop) (β : Blk) (σ : Sto) (b : Nat) : Prop := X b ∨ owned β σ b

structure SRel (w : World) (X : Nat → Prop) (β : Blk) (σ : Sto) : Prop where
  inj : ∀ f i f' i' o o' b, σ.at f i = some o → σ.at f' i' = some o' → β f i = some b → β f' i' = some b → f = f' ∧ i = i'
  dis : ∀ f i o b, σ.at f i = some o → β f i = some b → ¬ X b
  obj : ∀ f i o, σ.at f i = some o → ObRel w (Xt X β σ) β σ (β f i) o

def SameSize (w w' : World) (b : Nat) : Prop :=
  ∀ c T, w.heap[b]? = some (.cells c T (0, 0)) → ∃ c' T', w'.heap[b]? = some (.cells c' T' (0, 0)) ∧ c'.size = c.size

/-- From one state to a later one: what is immutable is as it was; what was owned is owned still, or is no more. -/
structure Kp (w : World) (X : Nat → Prop) (β : Blk) (σ : Sto) (w' : World) (X' : Nat → Prop) (β' : Blk) (σ' : Sto) : Prop where
  size : w.heap.size ≤ w'.heap.size
  imm : ∀ b c T fr, w.heap[b]? = some (.cells c T fr) → ¬ X b → w'.heap[b]? = w.heap[b]?
  frb : ∀ b, b < w.heap.size → X' b → X b
  len : σ.length ≤ σ'.length
  obs : ∀ f i o', f < σ.length → σ'.at f i = some o' → ∃ o, σ.at f i = some o ∧ o.k = o'.k ∧ o.es.length ≤ o'.es.length ∧
    (o.es.length = o'.es.length → β' f i = β f i ∧ ∀ b, β f i = some b → SameSize w w' b)

theorem SameSize.refl (w : World) (b : Nat) : SameSize w w b := fun c T h => ⟨c, T, h, rfl⟩

theorem block_lt {w : World} {a : Addr} {v : Value} (h : w.cell? a = some v) : a.block < w.heap.size := by
  unfold World.cell? at h
  split at h
  · rename_i hb
    exact (Array.getElem?_eq_some_iff.1 hb).1
  · cases h

theorem cells_of_cell {w : World} {a : Addr} {v : Value} (h : w.cell? a = some v) : ∃ c T fr, w.heap[a.block]? = some (.cells c T fr) := by
  unfold World.cell? at h
  split at h
  · rename_i c T fr hb; exact ⟨c, T, fr, hb⟩
  · cases h

theorem cell_of_heap {w w' : World} {a : Addr} (h : w'.heap[a.block]? = w.heap[a.block]?) : w'.cell? a = w.cell? a := by
  unfold World.cell?; rw [h]

theorem RV.tr {w : World} {X : Nat → Prop} {β : Blk} {σ : Sto} {w' : World} {X' : Nat → Prop} {β' : Blk} {σ' : Sto} {a : AV} {x : Value}
    (h : RV w X β σ a x) (K : Kp w X β σ w' X' β' σ') : RV w' X' β' σ' a x := by
  induction h with
  | v x => exact .v x
  | any x => exact .any x
  | agg cs xs hn h1 _ ih => exact .agg cs xs hn h1 ih
  | tup cs xs hn _ ih => exact .tup cs xs hn ih
  | slnil k => exact .slnil k
  | slemp k a cap => exact .slemp k a cap
  | sl k es b o cap x hcap hk hc hX h1 _ ih =>
    refine .sl k es b o cap x hcap hk (fun e he j hj => ?_) (fun e j he hj hx => ?_) h1 ih
    · have h0 := hc e he j hj
      obtain ⟨c, T, fr, hh⟩ := cells_of_cell h0
      rw [cell_of_heap (K.imm b c T fr hh (hX e j he hj))]
      exact h0
    · exact hX e j he hj (K.frb b (block_lt (hc e he j hj)) hx)
  | own f i n x h1 hf hle h =>
    refine .own f i n x h1 (Nat.lt_of_lt_of_le hf K.len) (fun o' ho' => ?_) fun o' ho' hn => ?_
    · obtain ⟨o, ho, _, hl, _⟩ := K.obs f i o' hf ho'
      exact Nat.le_trans (hle o ho) hl
    · obtain ⟨o, ho, hk, hl, hs⟩ := K.obs f i o' hf ho'
      have hle' := hle o ho
      have he : o.es.length = o'.es.length := by omega
      obtain ⟨hβ, hsz⟩ := hs he
      have hx := h o ho (by omega)
      rw [hβ]
      unfold OwnSl at hx ⊢
      cases hb : β f i with
      | none =>
        rw [hb] at hx
        refine ⟨?_, hx.2⟩
        have : o'.es.length = 0 := by rw [← he, hx.1]; rfl
        exact List.length_eq_zero_iff.1 this
      | some b =>
        rw [hb] at hx
        obtain ⟨cap, c, T, rfl, hh, hc⟩ := hx
        obtain ⟨c', T', hh', hc'⟩ := hsz b hb c T hh
        exact ⟨cap, c', T', by rw [he], hh', by rw [hc', hc, hk]⟩
  | ptr f i n e j x h1 hf hle h =>
    refine .ptr f i n e j x h1 (Nat.lt_of_lt_of_le hf K.len) (fun o' ho' => ?_) fun o' ho' hn => ?_
    · obtain ⟨o, ho, _, hl, _⟩ := K.obs f i o' hf ho'
      exact Nat.le_trans (hle o ho) hl
    · obtain ⟨o, ho, hk, hl, hs⟩ := K.obs f i o' hf ho'
      have hle' := hle o ho
      obtain ⟨hβ, hsz⟩ := hs (by omega)
      obtain ⟨b, hb, rfl⟩ := h o ho (by omega)
      exact ⟨b, by rw [hβ, hb], by rw [hk]⟩
  | iptr cs j b o x hX h1 hc _ ih =>
    refine .iptr cs j b o x (fun t ht hx => hX t ht (K.frb b (block_lt (hc t ht)) hx)) h1 (fun t ht => ?_) ih
    have h0 := hc t ht
    obtain ⟨c, T, fr, hh⟩ := cells_of_cell h0
    rw [cell_of_heap (K.imm b c T fr hh (hX t ht))]
    exact h0
  | fn f first cap xs ys hn hm _ _ ih ih' => exact .fn f first cap xs ys hn hm ih ih'
  | yld f x h1 hf h =>
    refine .yld f x h1 (Nat.lt_of_lt_of_le hf K.len) fun o' ho' hn => ?_
    obtain ⟨o, ho, _, hl, hs⟩ := K.obs f 0 o' hf ho'
    rw [(hs (by omega)).1]
    exact h o ho (by omega)
  | ifc t a x _ ih => exact .ifc t a x ih
  | when c a x _ h' ih => exact .when c a x ih h'

theorem LpRel.tr {w : World} {X : Nat → Prop} {β : Blk} {σ : Sto} {w' : World} {X' : Nat → Prop} {β' : Blk} {σ' : Sto} {r : Lp} {q : Loop} (h : LpRel w X β σ r q) (K : Kp w X β σ w' X' β' σ') : LpRel w' X' β' σ' r q :=
  ⟨h.1, h.2.1, h.2.2.1, h.2.2.2.1, h.2.2.2.2.1, h.2.2.2.2.2.1, fun s => (h.2.2.2.2.2.2 s).tr K⟩

/-- An object goes over, where its block is as it was. -/
theorem ObRel.tr {w : World} {X : Nat → Prop} {β : Blk} {σ : Sto} {w' : World} {X' : Nat → Prop} {β' : Blk} {σ' : Sto} {bo : Option Nat} {o : Ob} (h : ObRel w X β σ bo o) (K : Kp w X β σ w' X' β' σ')
    (hb : ∀ b, bo = some b → w'.heap[b]? = w.heap[b]?) : ObRel w' X' β' σ' bo o := by
  refine ⟨h.1, ?_⟩
  have h2 := h.2
  cases bo with
  | none => exact h2
  | some b =>
    refine ⟨fun hl => ?_, fun r hl => ?_⟩
    · obtain ⟨c, hc, hle, h1, hr⟩ := h2.1 hl
      exact ⟨c, by rw [hb b rfl]; exact hc, hle, h1, fun e j he hj => (hr e j he hj).tr K⟩
    · obtain ⟨he, q, hq, hr⟩ := h2.2 r hl
      exact ⟨he, q, by rw [hb b rfl]; exact hq, hr.tr K⟩

end Go.Abs

