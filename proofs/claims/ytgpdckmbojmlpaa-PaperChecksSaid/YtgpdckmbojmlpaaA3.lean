/-
  How the state of a frame goes over: a new object that is owned; a new immutable block; an object written in place; an object that an append has moved.
-/
import Derived.Test.YtgpdckmbojmlpaaA2
import Derived.WalkKit
namespace Go.Abs
set_option linter.unusedVariables false
set_option linter.unusedSimpArgs false

theorem at_lt {σ : Sto} {f i : Nat} {o : Ob} (h : σ.at f i = some o) : f < σ.length := by
  unfold Sto.at at h
  split at h
  · rename_i F hF
    exact (List.getElem?_eq_some_iff.1 hF).1
  · cases h

theorem at_push_old (σ : Sto) (x : Option (List Ob)) {f i : Nat} (h : f < σ.length) : Sto.at (σ ++ [x]) f i = σ.at f i := by
  unfold Sto.at; rw [List.getElem?_append_left h]

theorem at_push_new (σ : Sto) (o : Ob) {i : Nat} : Sto.at (σ ++ [some [o]]) σ.length i = if i = 0 then some o else none := by
  unfold Sto.at
  rw [List.getElem?_append_right (Nat.le_refl _)]
  cases i <;> simp

theorem at_push_cases {σ : Sto} {o o' : Ob} {f i : Nat} (h : Sto.at (σ ++ [some [o]]) f i = some o') :
    (f < σ.length ∧ σ.at f i = some o') ∨ (f = σ.length ∧ i = 0 ∧ o' = o) := by
  have hlt := at_lt h
  simp at hlt
  by_cases hf : f < σ.length
  · rw [at_push_old σ _ hf] at h; exact .inl ⟨hf, h⟩
  · obtain rfl : f = σ.length := by omega
    rw [at_push_new] at h
    split at h
    · rename_i hi; exact .inr ⟨rfl, hi, by injection h with h; exact h.symm⟩
    · cases h

theorem upd_length (σ : Sto) (f i : Nat) (o : Ob) : (σ.upd f i o).length = σ.length := by
  unfold Sto.upd; split <;> simp

theorem at_upd_same {σ : Sto} {f i : Nat} {o o' : Ob} (h : σ.at f i = some o) : (σ.upd f i o').at f i = some o' := by
  unfold Sto.at at h
  split at h
  · rename_i F hF
    have hlt := (List.getElem?_eq_some_iff.1 hF).1
    have hi := (List.getElem?_eq_some_iff.1 h).1
    unfold Sto.upd Sto.at
    simp only [hF, List.getElem?_set_self hlt, List.getElem?_set_self hi]
  · cases h

theorem at_upd_other {σ : Sto} {f i f' i' : Nat} {o' : Ob} (h : f ≠ f' ∨ i ≠ i') : (σ.upd f i o').at f' i' = σ.at f' i' := by
  unfold Sto.upd
  split
  · rename_i F hF
    have hlt := (List.getElem?_eq_some_iff.1 hF).1
    by_cases hf : f = f'
    · subst hf
      have hi : i ≠ i' := h.resolve_left (by simp)
      unfold Sto.at
      simp only [List.getElem?_set_self hlt, hF, List.getElem?_set_ne hi]
    · unfold Sto.at
      simp only [List.getElem?_set_ne hf]
  · rfl

theorem at_upd_cases {σ : Sto} {f i f' i' : Nat} {o o' o'' : Ob} (h0 : σ.at f i = some o) (h : (σ.upd f i o').at f' i' = some o'') :
    (f' = f ∧ i' = i ∧ o'' = o') ∨ ((f ≠ f' ∨ i ≠ i') ∧ σ.at f' i' = some o'') := by
  by_cases hh : f = f' ∧ i = i'
  · obtain ⟨rfl, rfl⟩ := hh
    rw [at_upd_same h0] at h
    exact .inl ⟨rfl, rfl, by injection h with h; exact h.symm⟩
  · have hne : f ≠ f' ∨ i ≠ i' := by
      by_cases hf : f = f'
      · exact .inr fun hi => hh ⟨hf, hi⟩
      · exact .inl hf
    rw [at_upd_other hne] at h
    exact .inr ⟨hne, h⟩

/-- The streams are as they were. -/
def Still (w w' : World) : Prop := w'.os = w.os ∧ w'.tape = w.tape ∧ w'.output = w.output

theorem Still.refl (w : World) : Still w w := ⟨rfl, rfl, rfl⟩
theorem Still.trans {w w' w'' : World} (h : Still w w') (k : Still w' w'') : Still w w'' := ⟨k.1.trans h.1, k.2.1.trans h.2.1, k.2.2.trans h.2.2⟩

/-- What a caller is told: all blocks but the owned ones are as they were; what is owned is of old, or new. -/
structure Ext (w : World) (β : Blk) (σ : Sto) (w' : World) (β' : Blk) (σ' : Sto) : Prop where
  size : w.heap.size ≤ w'.heap.size
  old : ∀ b, b < w.heap.size → ¬ owned β σ b → w'.heap[b]? = w.heap[b]?
  new : ∀ b, owned β' σ' b → owned β σ b ∨ w.heap.size ≤ b
  io : Still w w'

theorem Ext.refl (w : World) (β : Blk) (σ : Sto) : Ext w β σ w β σ := ⟨Nat.le_refl _, fun _ _ _ => rfl, fun _ h => .inl h, Still.refl w⟩

theorem Ext.trans {w w' w'' : World} {β β' β'' : Blk} {σ σ' σ'' : Sto} (h : Ext w β σ w' β' σ') (h' : Ext w' β' σ' w'' β'' σ'') : Ext w β σ w'' β'' σ'' where
  size := Nat.le_trans h.size h'.size
  old b hb hn := by
    rw [h'.old b (Nat.lt_of_lt_of_le hb h.size) (fun ho => (h.new b ho).elim hn (fun hle => absurd hb (Nat.not_lt.2 hle))), h.old b hb hn]
  new b hb := by
    rcases h'.new b hb with h1 | h1
    · exact h.new b h1
    · exact .inr (Nat.le_trans h.size h1)
  io := h.io.trans h'.io

theorem ObRel.lt {w : World} {X : Nat → Prop} {β : Blk} {σ : Sto} {b : Nat} {o : Ob} (h : ObRel w X β σ (some b) o) : b < w.heap.size := by
  cases hl : o.lp with
  | none => obtain ⟨c, hc, _⟩ := h.2.1 hl; exact (Array.getElem?_eq_some_iff.1 hc).1
  | some r => obtain ⟨_, q, hc, _⟩ := h.2.2 r hl; exact (Array.getElem?_eq_some_iff.1 hc).1

theorem SRel.owned_lt {w : World} {X : Nat → Prop} {β : Blk} {σ : Sto} (h : SRel w X β σ) {b : Nat} (ho : owned β σ b) : b < w.heap.size := by
  obtain ⟨f, i, o, ho, hb⟩ := ho
  have := h.obj f i o ho
  rw [hb] at this
  exact this.lt

theorem Xt_lt {w : World} {X : Nat → Prop} {β : Blk} {σ : Sto} (h : SRel w X β σ) (hX : ∀ b, X b → b < w.heap.size) {b : Nat} (hb : Xt X β σ b) : b < w.heap.size :=
  hb.elim (hX b) h.owned_lt

theorem heap_lt {w : World} {b : Nat} {o : Obj} (h : w.heap[b]? = some o) : b < w.heap.size := (Array.getElem?_eq_some_iff.1 h).1

theorem Kp.same {w w' : World} {X : Nat → Prop} {β : Blk} {σ : Sto} (hs : w.heap.size ≤ w'.heap.size) (hh : ∀ b, b < w.heap.size → w'.heap[b]? = w.heap[b]?) (hsr : SRel w X β σ) :
    Kp w (Xt X β σ) β σ w' (Xt X β σ) β σ where
  size := hs
  imm b c T fr hc _ := hh b (heap_lt hc)
  frb _ _ h := h
  len := Nat.le_refl _
  obs f i o _ ho := ⟨o, ho, rfl, Nat.le_refl _, fun _ => ⟨rfl, fun b hb c T hc => ⟨c, T, by
    rw [hh b (hsr.owned_lt ⟨f, i, o, ho, hb⟩)]; exact hc, rfl⟩⟩⟩

theorem SRel.same {w w' : World} {X : Nat → Prop} {β : Blk} {σ : Sto} (h : SRel w X β σ) (hs : w.heap.size ≤ w'.heap.size) (hh : ∀ b, b < w.heap.size → w'.heap[b]? = w.heap[b]?) : SRel w' X β σ where
  inj := h.inj
  dis := h.dis
  obj f i o ho := (h.obj f i o ho).tr (Kp.same hs hh h) fun b hb => hh b (h.owned_lt ⟨f, i, o, ho, hb⟩)

theorem Ext.same {w w' : World} {β : Blk} {σ : Sto} (hs : w.heap.size ≤ w'.heap.size) (hh : ∀ b, b < w.heap.size → w'.heap[b]? = w.heap[b]?) (io : Still w w' := by exact ⟨rfl, rfl, rfl⟩) : Ext w β σ w' β σ :=
  ⟨hs, fun b hb _ => hh b hb, fun _ h => .inl h, io⟩

/-- The blocks with one more object. -/
def addB (β : Blk) (n : Nat) (bo : Option Nat) : Blk := fun f i => if f = n ∧ i = 0 then bo else β f i

theorem addB_old {β : Blk} {n f i : Nat} {bo : Option Nat} (h : f < n) : addB β n bo f i = β f i := by
  unfold addB; rw [if_neg (by omega)]
theorem addB_new {β : Blk} {n : Nat} {bo : Option Nat} : addB β n bo n 0 = bo := by
  unfold addB; rw [if_pos ⟨rfl, rfl⟩]

section push
variable {w w' : World} {X : Nat → Prop} {β : Blk} {σ : Sto} {o : Ob} {bo : Option Nat}

theorem owned_push (hbo : ∀ b, bo = some b → b = w.heap.size) {b : Nat} (h : owned (addB β σ.length bo) (σ ++ [some [o]]) b) : owned β σ b ∨ w.heap.size ≤ b := by
  obtain ⟨f, i, o', ho, hb⟩ := h
  rcases at_push_cases ho with ⟨hf, ho⟩ | ⟨rfl, rfl, rfl⟩
  · rw [addB_old hf] at hb
    exact .inl ⟨f, i, o', ho, hb⟩
  · rw [addB_new] at hb
    exact .inr (by rw [hbo b hb]; exact Nat.le_refl _)

theorem owned_push' {b : Nat} (hf : owned β σ b) : owned (addB β σ.length bo) (σ ++ [some [o]]) b := by
  obtain ⟨f, i, o', ho, hb⟩ := hf
  exact ⟨f, i, o', by rw [at_push_old σ _ (at_lt ho)]; exact ho, by rw [addB_old (at_lt ho)]; exact hb⟩

theorem Kp.push (hsr : SRel w X β σ) (hs : w.heap.size ≤ w'.heap.size) (hh : ∀ b, b < w.heap.size → w'.heap[b]? = w.heap[b]?) (hbo : ∀ b, bo = some b → b = w.heap.size) :
    Kp w (Xt X β σ) β σ w' (Xt X (addB β σ.length bo) (σ ++ [some [o]])) (addB β σ.length bo) (σ ++ [some [o]]) where
  size := hs
  imm b c T fr hc _ := hh b (heap_lt hc)
  frb b hb h := h.elim .inl fun h => (owned_push hbo h).elim .inr fun h => absurd hb (Nat.not_lt.2 h)
  len := by simp
  obs f i o' hf ho := by
    rw [at_push_old σ _ hf] at ho
    exact ⟨o', ho, rfl, Nat.le_refl _, fun _ => ⟨addB_old hf, fun b hb c T hc => ⟨c, T, by rw [hh b (hsr.owned_lt ⟨f, i, o', ho, hb⟩)]; exact hc, rfl⟩⟩⟩

theorem Ext.push (hs : w.heap.size ≤ w'.heap.size) (hh : ∀ b, b < w.heap.size → w'.heap[b]? = w.heap[b]?) (hbo : ∀ b, bo = some b → b = w.heap.size) (io : Still w w' := by exact ⟨rfl, rfl, rfl⟩) :
    Ext w β σ w' (addB β σ.length bo) (σ ++ [some [o]]) :=
  ⟨hs, fun b hb _ => hh b hb, fun _ h => owned_push hbo h, io⟩

theorem SRel.push (hsr : SRel w X β σ) (hX : ∀ b, X b → b < w.heap.size) (hs : w.heap.size ≤ w'.heap.size) (hh : ∀ b, b < w.heap.size → w'.heap[b]? = w.heap[b]?) (hbo : ∀ b, bo = some b → b = w.heap.size)
    (ho : ObRel w' (Xt X (addB β σ.length bo) (σ ++ [some [o]])) (addB β σ.length bo) (σ ++ [some [o]]) bo o) : SRel w' X (addB β σ.length bo) (σ ++ [some [o]]) where
  inj f i f' i' o1 o2 b h1 h2 hb1 hb2 := by
    rcases at_push_cases h1 with ⟨hf, g1⟩ | ⟨rfl, rfl, e1⟩ <;> rcases at_push_cases h2 with ⟨hf', g2⟩ | ⟨rfl, rfl, e2⟩
    · rw [addB_old hf] at hb1; rw [addB_old hf'] at hb2
      exact hsr.inj f i f' i' o1 o2 b g1 g2 hb1 hb2
    · rw [addB_old hf] at hb1; rw [addB_new] at hb2
      have h3 := hsr.owned_lt ⟨f, i, o1, g1, hb1⟩
      have h4 := hbo b hb2
      omega
    · rw [addB_old hf'] at hb2; rw [addB_new] at hb1
      have h3 := hsr.owned_lt ⟨f', i', o2, g2, hb2⟩
      have h4 := hbo b hb1
      omega
    · exact ⟨rfl, rfl⟩
  dis f i o1 b h1 hb1 hx := by
    rcases at_push_cases h1 with ⟨hf, h1⟩ | ⟨rfl, rfl, rfl⟩
    · rw [addB_old hf] at hb1
      exact hsr.dis f i o1 b h1 hb1 hx
    · rw [addB_new] at hb1
      have h3 := hX b hx
      have h4 := hbo b hb1
      omega
  obj f i o1 h1 := by
    rcases at_push_cases h1 with ⟨hf, h1⟩ | ⟨rfl, rfl, rfl⟩
    · rw [addB_old hf]
      exact (hsr.obj f i o1 h1).tr (Kp.push hsr hs hh hbo) fun b hb => hh b (hsr.owned_lt ⟨f, i, o1, h1, hb⟩)
    · rw [addB_new]; exact ho

end push

/-- The blocks with one object moved. -/
def mvB (β : Blk) (f i : Nat) (bo : Option Nat) : Blk := fun f' i' => if f' = f ∧ i' = i then bo else β f' i'

section turn
variable {w w' : World} {X : Nat → Prop} {β : Blk} {σ : Sto} {o o' : Ob} {f i : Nat} {bo : Option Nat}

theorem mvB_same : mvB β f i bo f i = bo := by unfold mvB; rw [if_pos ⟨rfl, rfl⟩]
theorem mvB_other {f' i' : Nat} (h : f ≠ f' ∨ i ≠ i') : mvB β f i bo f' i' = β f' i' := by
  unfold mvB; rw [if_neg]; rintro ⟨rfl, rfl⟩; simp at h

/-- What an object that is written, or moved, asks: it lies where it lay, or in a new block; no other block has changed. -/
structure Turn (w : World) (β : Blk) (f i : Nat) (bo : Option Nat) (w' : World) : Prop where
  size : w.heap.size ≤ w'.heap.size
  old : ∀ b, b < w.heap.size → β f i ≠ some b → w'.heap[b]? = w.heap[b]?
  at_ : ∀ b, bo = some b → β f i = some b ∨ w.heap.size ≤ b
  io : Still w w'

theorem owned_turn (ho : σ.at f i = some o) (ht : Turn w β f i bo w') {b : Nat} (h : owned (mvB β f i bo) (σ.upd f i o') b) : owned β σ b ∨ w.heap.size ≤ b := by
  obtain ⟨f', i', o'', h1, hb⟩ := h
  rcases at_upd_cases ho h1 with ⟨rfl, rfl, rfl⟩ | ⟨hne, h1⟩
  · rw [mvB_same] at hb
    rcases ht.at_ b hb with h | h
    · exact .inl ⟨_, _, o, ho, h⟩
    · exact .inr h
  · rw [mvB_other hne] at hb
    exact .inl ⟨f', i', o'', h1, hb⟩

theorem Kp.turn (hsr : SRel w X β σ) (ho : σ.at f i = some o) (ht : Turn w β f i bo w') (hk : o.k = o'.k) (hl : o.es.length ≤ o'.es.length)
    (hsame : o.es.length = o'.es.length → bo = β f i ∧ ∀ b, β f i = some b → SameSize w w' b) :
    Kp w (Xt X β σ) β σ w' (Xt X (mvB β f i bo) (σ.upd f i o')) (mvB β f i bo) (σ.upd f i o') where
  size := ht.size
  imm b c T fr hc hn := ht.old b (heap_lt hc) fun hβ => hn (.inr ⟨f, i, o, ho, hβ⟩)
  frb b hb h := h.elim .inl fun h => (owned_turn ho ht h).elim .inr fun h => absurd hb (Nat.not_lt.2 h)
  len := by rw [upd_length]; exact Nat.le_refl _
  obs f' i' o'' hf h := by
    rcases at_upd_cases ho h with ⟨rfl, rfl, rfl⟩ | ⟨hne, h⟩
    · refine ⟨o, ho, hk, hl, fun he => ?_⟩
      rw [mvB_same]
      exact hsame he
    · refine ⟨o'', h, rfl, Nat.le_refl _, fun _ => ⟨mvB_other hne, fun b hb c T hc => ⟨c, T, ?_, rfl⟩⟩⟩
      rw [ht.old b (hsr.owned_lt ⟨f', i', o'', h, hb⟩) fun hβ => ?_]
      · exact hc
      · have := hsr.inj f i f' i' o o'' b ho h hβ hb
        rcases hne with h | h
        · exact h this.1
        · exact h this.2

theorem Ext.turn (ho : σ.at f i = some o) (ht : Turn w β f i bo w') : Ext w β σ w' (mvB β f i bo) (σ.upd f i o') :=
  ⟨ht.size, fun b hb hn => ht.old b hb fun hβ => hn ⟨f, i, o, ho, hβ⟩, fun _ h => owned_turn ho ht h, ht.io⟩

theorem SRel.turn (hsr : SRel w X β σ) (hX : ∀ b, X b → b < w.heap.size) (ho : σ.at f i = some o) (ht : Turn w β f i bo w') (hk : o.k = o'.k) (hl : o.es.length ≤ o'.es.length)
    (hsame : o.es.length = o'.es.length → bo = β f i ∧ ∀ b, β f i = some b → SameSize w w' b)
    (hob : ObRel w' (Xt X (mvB β f i bo) (σ.upd f i o')) (mvB β f i bo) (σ.upd f i o') bo o') : SRel w' X (mvB β f i bo) (σ.upd f i o') where
  inj f1 i1 f2 i2 o1 o2 b h1 h2 hb1 hb2 := by
    rcases at_upd_cases ho h1 with ⟨rfl, rfl, e1⟩ | ⟨hne1, g1⟩ <;> rcases at_upd_cases ho h2 with ⟨rfl, rfl, e2⟩ | ⟨hne2, g2⟩
    · exact ⟨rfl, rfl⟩
    · rw [mvB_same] at hb1; rw [mvB_other hne2] at hb2
      rcases ht.at_ b hb1 with h | h
      · exact hsr.inj _ _ _ _ o o2 b ho g2 h hb2
      · have := hsr.owned_lt ⟨_, _, o2, g2, hb2⟩; omega
    · rw [mvB_same] at hb2; rw [mvB_other hne1] at hb1
      rcases ht.at_ b hb2 with h | h
      · exact hsr.inj _ _ _ _ o1 o b g1 ho hb1 h
      · have := hsr.owned_lt ⟨_, _, o1, g1, hb1⟩; omega
    · rw [mvB_other hne1] at hb1; rw [mvB_other hne2] at hb2
      exact hsr.inj _ _ _ _ o1 o2 b g1 g2 hb1 hb2
  dis f1 i1 o1 b h1 hb1 hx := by
    rcases at_upd_cases ho h1 with ⟨rfl, rfl, rfl⟩ | ⟨hne1, h1⟩
    · rw [mvB_same] at hb1
      rcases ht.at_ b hb1 with h | h
      · exact hsr.dis _ _ o b ho h hx
      · have := hX b hx; omega
    · rw [mvB_other hne1] at hb1
      exact hsr.dis _ _ o1 b h1 hb1 hx
  obj f1 i1 o1 h1 := by
    rcases at_upd_cases ho h1 with ⟨rfl, rfl, rfl⟩ | ⟨hne1, h1⟩
    · rw [mvB_same]; exact hob
    · rw [mvB_other hne1]
      refine (hsr.obj _ _ o1 h1).tr (Kp.turn hsr ho ht hk hl hsame) fun b hb => ?_
      refine ht.old b (hsr.owned_lt ⟨f1, i1, o1, h1, hb⟩) fun hβ => ?_
      have := hsr.inj f i f1 i1 o o1 b ho h1 hβ hb
      rcases hne1 with h | h
      · exact h this.1
      · exact h this.2

end turn
end Go.Abs
