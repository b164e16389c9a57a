/-
  Sets of whole numbers as spans in order: membership, the one form of a set, what is joined, merged and met.
-/
import Derived.Test.YtgpdckmbojmlpaaAF
namespace Go.Abs
set_option linter.unusedVariables false
set_option linter.unusedSimpArgs false

structure Sp where
  lo : Int
  hi : Int
  deriving DecidableEq

def Mem (v : Int) (l : List Sp) : Prop := ∃ s ∈ l, s.lo ≤ v ∧ v ≤ s.hi

def Norm : List Sp → Prop
  | [] => True
  | s :: r => s.lo ≤ s.hi ∧ (∀ t ∈ r, s.hi + 1 < t.lo) ∧ Norm r

theorem Mem.nil {v : Int} : ¬ Mem v [] := fun ⟨_, h, _⟩ => absurd h (List.not_mem_nil)
theorem mem_cons {v : Int} {s : Sp} {r : List Sp} : Mem v (s :: r) ↔ (s.lo ≤ v ∧ v ≤ s.hi) ∨ Mem v r := by
  constructor
  · rintro ⟨t, ht, h⟩
    rcases List.mem_cons.1 ht with rfl | ht
    · exact .inl h
    · exact .inr ⟨t, ht, h⟩
  · rintro (h | ⟨t, ht, h⟩)
    · exact ⟨s, by simp, h⟩
    · exact ⟨t, by simp [ht], h⟩
theorem mem_append {v : Int} {a b : List Sp} : Mem v (a ++ b) ↔ Mem v a ∨ Mem v b := by
  constructor
  · rintro ⟨t, ht, h⟩
    rcases List.mem_append.1 ht with ht | ht
    · exact .inl ⟨t, ht, h⟩
    · exact .inr ⟨t, ht, h⟩
  · rintro (⟨t, ht, h⟩ | ⟨t, ht, h⟩)
    · exact ⟨t, List.mem_append.2 (.inl ht), h⟩
    · exact ⟨t, List.mem_append.2 (.inr ht), h⟩

theorem Norm.ne {l : List Sp} (h : Norm l) : ∀ s ∈ l, s.lo ≤ s.hi := by
  induction l with
  | nil => intro s hs; exact absurd hs (List.not_mem_nil)
  | cons t r ih =>
    intro s hs
    rcases List.mem_cons.1 hs with rfl | hs
    · exact h.1
    · exact ih h.2.2 s hs

theorem norm_append {a b : List Sp} : Norm (a ++ b) ↔ Norm a ∧ Norm b ∧ ∀ s ∈ a, ∀ t ∈ b, s.hi + 1 < t.lo := by
  induction a with
  | nil => simp [Norm]
  | cons s a ih =>
    simp only [List.cons_append, Norm, ih, List.mem_append, List.mem_cons]
    constructor
    · rintro ⟨h1, h2, h3, h4, h5⟩
      refine ⟨⟨h1, fun t ht => h2 t (.inl ht), h3⟩, h4, ?_⟩
      rintro u (rfl | hu) t ht
      · exact h2 t (.inr ht)
      · exact h5 u hu t ht
    · rintro ⟨⟨h1, h2, h3⟩, h4, h5⟩
      refine ⟨h1, ?_, h3, h4, fun u hu t ht => h5 u (.inr hu) t ht⟩
      rintro t (ht | ht)
      · exact h2 t ht
      · exact h5 s (.inl rfl) t ht

/-- A set has one form. -/
theorem Norm.ext {a b : List Sp} (ha : Norm a) (hb : Norm b) (h : ∀ v, Mem v a ↔ Mem v b) : a = b := by
  induction a generalizing b with
  | nil =>
    cases b with
    | nil => rfl
    | cons t b => exact absurd ((h t.lo).2 (mem_cons.2 (.inl ⟨Int.le_refl _, hb.1⟩))) Mem.nil
  | cons s a ih =>
    cases b with
    | nil => exact absurd ((h s.lo).1 (mem_cons.2 (.inl ⟨Int.le_refl _, ha.1⟩))) Mem.nil
    | cons t b =>
      obtain ⟨a1, a2, a3⟩ := ha
      obtain ⟨b1, b2, b3⟩ := hb
      have low : ∀ {s : Sp} {r : List Sp} {v : Int}, s.lo ≤ s.hi → (∀ t ∈ r, s.hi + 1 < t.lo) → Mem v (s :: r) → s.lo ≤ v := by
        intro s r v h1 h2 hv
        rcases mem_cons.1 hv with hv | ⟨u, hu, hv⟩
        · exact hv.1
        · have := h2 u hu; omega
      have e1 : s.lo = t.lo := by
        have g1 := low b1 b2 ((h s.lo).1 (mem_cons.2 (.inl ⟨Int.le_refl _, a1⟩)))
        have g2 := low a1 a2 ((h t.lo).2 (mem_cons.2 (.inl ⟨Int.le_refl _, b1⟩)))
        omega
      have top : ∀ {s t : Sp} {a b : List Sp}, s.lo = t.lo → s.lo ≤ s.hi → (∀ u ∈ a, s.hi + 1 < u.lo) → (∀ v, Mem v (t :: b) → Mem v (s :: a)) → t.hi ≤ s.hi := by
        intro s t a b e h1 h2 h3
        refine Int.not_lt.1 fun hlt => ?_
        rcases mem_cons.1 (h3 (s.hi + 1) (mem_cons.2 (.inl ⟨by omega, by omega⟩))) with hv | ⟨u, hu, hv⟩
        · omega
        · have := h2 u hu; omega
      have e2 : s.hi = t.hi := by
        have g1 := top e1 a1 a2 fun v => (h v).2
        have g2 := top e1.symm b1 b2 fun v => (h v).1
        omega
      have e : s = t := by cases s; cases t; simp_all
      subst e
      rw [ih a3 b3 fun v => ?_]
      have far : ∀ {r : List Sp}, (∀ t ∈ r, s.hi + 1 < t.lo) → Mem v r → s.hi < v := by
        rintro r hr ⟨u, hu, hv⟩; have := hr u hu; omega
      have hv := h v
      rw [mem_cons, mem_cons] at hv
      constructor
      · intro hm
        have := far a2 hm
        rcases hv.1 (.inr hm) with g | g
        · omega
        · exact g
      · intro hm
        have := far b2 hm
        rcases hv.2 (.inr hm) with g | g
        · omega
        · exact g

/-- A set with a further span. -/
def join : List Sp → Sp → List Sp
  | [], x => [x]
  | s :: r, x => if s.hi + 1 < x.lo then s :: join r x else if x.hi + 1 < s.lo then x :: s :: r else join r ⟨min x.lo s.lo, max x.hi s.hi⟩

theorem join_low {l : List Sp} {x : Sp} {B : Int} (hl : ∀ t ∈ l, B < t.lo) (hx : B < x.lo) : ∀ t ∈ join l x, B < t.lo := by
  induction l generalizing x with
  | nil => simpa [join] using hx
  | cons s r ih =>
    have hr : ∀ t ∈ r, B < t.lo := fun t ht => hl t (by simp [ht])
    have hs := hl s (by simp)
    unfold join
    split
    · intro t ht
      rcases List.mem_cons.1 ht with rfl | ht
      · exact hs
      · exact ih hr hx t ht
    · split
      · intro t ht
        rcases List.mem_cons.1 ht with rfl | ht
        · exact hx
        · exact hl t ht
      · exact ih hr (by simp only; omega)

theorem join_mem {l : List Sp} {x : Sp} (hl : Norm l) (hx : x.lo ≤ x.hi) (v : Int) : Mem v (join l x) ↔ Mem v l ∨ (x.lo ≤ v ∧ v ≤ x.hi) := by
  induction l generalizing x with
  | nil => simp [join, mem_cons, Mem.nil]
  | cons s r ih =>
    obtain ⟨h1, h2, h3⟩ := hl
    unfold join
    split
    · rw [mem_cons, mem_cons, ih h3 hx, or_assoc]
    · split
      · rw [mem_cons, or_comm]
      · rw [ih h3 (by simp only; omega), mem_cons]
        simp only
        constructor
        · rintro (h | h)
          · exact .inl (.inr h)
          · by_cases g : s.lo ≤ v ∧ v ≤ s.hi
            · exact .inl (.inl g)
            · exact .inr (by omega)
        · rintro ((h | h) | h)
          · exact .inr (by omega)
          · exact .inl h
          · exact .inr (by omega)

theorem join_norm {l : List Sp} {x : Sp} (hl : Norm l) (hx : x.lo ≤ x.hi) : Norm (join l x) := by
  induction l generalizing x with
  | nil => exact ⟨hx, fun t h => absurd h (List.not_mem_nil), trivial⟩
  | cons s r ih =>
    have hl' := hl
    obtain ⟨h1, h2, h3⟩ := hl
    unfold join
    split
    · exact ⟨h1, join_low h2 (by omega), ih h3 hx⟩
    · split
      · refine ⟨hx, fun t ht => ?_, hl'⟩
        rcases List.mem_cons.1 ht with rfl | ht
        · omega
        · have := h2 t ht; omega
      · exact ih h3 (by simp only; omega)

/-- A list of spans in order, with a further one that begins no sooner than any of them. -/
def push (l : List Sp) (x : Sp) : List Sp :=
  match l.getLast? with
  | some s => if x.lo ≤ s.hi + 1 then l.dropLast ++ [⟨s.lo, max s.hi x.hi⟩] else l ++ [x]
  | none => [x]

theorem push_last (i : List Sp) (s x : Sp) : push (i ++ [s]) x = if x.lo ≤ s.hi + 1 then i ++ [⟨s.lo, max s.hi x.hi⟩] else i ++ [s, x] := by
  simp [push]
theorem push_nil (x : Sp) : push [] x = [x] := rfl

theorem push_spec {l : List Sp} {x : Sp} (hl : Norm l) (hx : x.lo ≤ x.hi) (h : ∀ s ∈ l, s.lo ≤ x.lo) :
    Norm (push l x) ∧ (∀ v, Mem v (push l x) ↔ Mem v l ∨ (x.lo ≤ v ∧ v ≤ x.hi)) ∧ ∀ s ∈ push l x, s.lo ≤ x.lo := by
  rcases List.eq_nil_or_concat l with rfl | ⟨i, s, rfl⟩
  · refine ⟨⟨hx, fun t h => absurd h (List.not_mem_nil), trivial⟩, fun v => ?_, ?_⟩
    · simp [push_nil, mem_cons, Mem.nil]
    · simp [push_nil]
  · rw [List.concat_eq_append] at hl h ⊢
    obtain ⟨hi, ⟨hs, _, _⟩, hd⟩ := norm_append.1 hl
    have hsx := h s (by simp)
    rw [push_last]
    split
    · refine ⟨norm_append.2 ⟨hi, ⟨by simp only; omega, fun t h => absurd h (List.not_mem_nil), trivial⟩, fun u hu t ht => ?_⟩, fun v => ?_, fun u hu => ?_⟩
      · have : t = ⟨s.lo, max s.hi x.hi⟩ := by simpa using ht
        subst this
        exact hd u hu s (by simp)
      · rw [mem_append, mem_append, mem_cons, mem_cons]
        simp only [Mem.nil, or_false]
        constructor
        · rintro (h | h)
          · exact .inl (.inl h)
          · by_cases g : v ≤ s.hi
            · exact .inl (.inr (by omega))
            · exact .inr (by omega)
        · rintro ((h | h) | h)
          · exact .inl h
          · exact .inr (by omega)
          · exact .inr (by omega)
      · rcases List.mem_append.1 hu with hu | hu
        · exact h u (by simp [hu])
        · have : u = ⟨s.lo, max s.hi x.hi⟩ := by simpa using hu
          subst this; exact hsx
    · refine ⟨?_, fun v => ?_, fun u hu => ?_⟩
      · rw [show i ++ [s, x] = (i ++ [s]) ++ [x] by simp]
        refine norm_append.2 ⟨hl, ⟨hx, fun t h => absurd h (List.not_mem_nil), trivial⟩, fun u hu t ht => ?_⟩
        obtain rfl : t = x := by simpa using ht
        rcases List.mem_append.1 hu with hu | hu
        · have := hd u hu s (by simp); omega
        · obtain rfl : u = s := by simpa using hu
          omega
      · rw [show i ++ [s, x] = (i ++ [s]) ++ [x] by simp, mem_append, mem_cons]
        simp only [Mem.nil, or_false]
      · rw [show i ++ [s, x] = (i ++ [s]) ++ [x] by simp] at hu
        rcases List.mem_append.1 hu with hu | hu
        · exact h u hu
        · obtain rfl : u = x := by simpa using hu
          omega

/-- Spans in the order of their beginnings, made a set. -/
def merged (l : List Sp) : List Sp := l.foldl push []

theorem merged_spec (l : List Sp) : ∀ (acc : List Sp), Norm acc → (∀ s ∈ l, s.lo ≤ s.hi) → (∀ s ∈ acc, ∀ t ∈ l, s.lo ≤ t.lo) → l.Pairwise (fun s t => s.lo ≤ t.lo) →
    Norm (l.foldl push acc) ∧ ∀ v, Mem v (l.foldl push acc) ↔ Mem v acc ∨ Mem v l := by
  induction l with
  | nil => intro acc ha _ _ _; exact ⟨ha, fun v => by simp [Mem.nil]⟩
  | cons x l ih =>
    intro acc ha hne hle hp
    obtain ⟨p1, p2, p3⟩ := push_spec ha (hne x (by simp)) fun s hs => hle s hs x (by simp)
    rw [List.pairwise_cons] at hp
    obtain ⟨q1, q2⟩ := ih (push acc x) p1 (fun s hs => hne s (by simp [hs])) (fun s hs t ht => Int.le_trans (p3 s hs) (hp.1 t ht)) hp.2
    refine ⟨q1, fun v => ?_⟩
    rw [List.foldl_cons, q2, p2, mem_cons, or_assoc]

/-- What two spans have in common. -/
abbrev Sp.cap (a b : Sp) : Sp := ⟨max a.lo b.lo, min a.hi b.hi⟩

theorem mem_cap {v : Int} {a b : Sp} : ((a.cap b).lo ≤ v ∧ v ≤ (a.cap b).hi) ↔ (a.lo ≤ v ∧ v ≤ a.hi) ∧ (b.lo ≤ v ∧ v ≤ b.hi) := by
  simp only [Sp.cap]; omega

/-- A set of one form is told by its members. -/
theorem Norm.nil_iff {l : List Sp} (h : Norm l) : l = [] ↔ ∀ v, ¬ Mem v l := by
  cases l with
  | nil => simp [Mem.nil]
  | cons s r => exact ⟨fun h => (by cases h), fun g => absurd (mem_cons.2 (.inl ⟨Int.le_refl _, h.1⟩)) (g s.lo)⟩

theorem norm_tail {s : Sp} {r : List Sp} (h : Norm (s :: r)) : Norm r := h.2.2

/-- What lies within a set without a gap lies within one of its spans. -/
theorem Norm.whole {l : List Sp} (h : Norm l) {a b : Int} (hab : a ≤ b) (hm : ∀ v, a ≤ v → v ≤ b → Mem v l) : ∃ s ∈ l, s.lo ≤ a ∧ b ≤ s.hi := by
  induction l with
  | nil => exact absurd (hm a (Int.le_refl _) hab) Mem.nil
  | cons s r ih =>
    obtain ⟨h1, h2, h3⟩ := h
    by_cases hs : s.hi < a
    · obtain ⟨t, ht, g⟩ := ih h3 fun v hv hv' => by
        rcases mem_cons.1 (hm v hv hv') with g | g
        · omega
        · exact g
      exact ⟨t, by simp [ht], g⟩
    · refine ⟨s, by simp, ?_, ?_⟩
      · rcases mem_cons.1 (hm a (Int.le_refl _) hab) with g | ⟨u, hu, g⟩
        · exact g.1
        · have := h2 u hu; omega
      · refine Int.not_lt.1 fun hlt => ?_
        rcases mem_cons.1 (hm (s.hi + 1) (by omega) (by omega)) with g | ⟨u, hu, g⟩
        · omega
        · have := h2 u hu; omega

end Go.Abs
