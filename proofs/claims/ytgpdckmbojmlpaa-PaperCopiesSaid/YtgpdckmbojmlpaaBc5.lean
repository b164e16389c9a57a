/- Part 5 of the texts that the claim rests on: abstract values over the walk, and contracts of functions. -/
import Derived.Test.YtgpdckmbojmlpaaBc4
import Derived.Test.YtgpdckmbojmlpaaRows
namespace Go.Proofs.Ytgpdckmbojmlpaa
open Go.Abs
set_option linter.unusedVariables false
set_option linter.unusedSimpArgs false
set_option maxHeartbeats 4000000
set_option maxRecDepth 100000
-- slices.Equal[[]aneroid/api.Span,aneroid/api.Span]
def c107 : CF := ⟨26,
 (.seq (.ops [
 ⟨(some 4), .mv (.c (.bool false)), none⟩] [0, 1])
 (.seq (.seq (.ops [
 ⟨(some 6), .mv (.t 0), none⟩,
 ⟨(some 7), .len (.t 6), none⟩,
 ⟨(some 8), .mv (.t 1), none⟩,
 ⟨(some 9), .len (.t 8), none⟩,
 ⟨(some 10), .bin .neq (.t 7) (.t 9), none⟩] [0, 1, 10])
 (.cond (.t 10) (.seq (.ops [
 ⟨(some 4), .mv (.c (.bool false)), none⟩] [4])
 .ret)
 .skip))
 (.seq (.seq (.ops [
 ⟨(some 11), .mv (.t 0), none⟩,
 ⟨(some 12), .len (.t 11), none⟩,
 ⟨(some 13), .mv (.c (.int .i64 0)), none⟩] [0, 1, 12, 13])
 (.block 0 (.loop (.seq (.ops [
 ⟨(some 14), .bin .lss (.t 13) (.t 12), none⟩] [0, 1, 12, 13, 14])
 (.seq (.cond (.t 14) .skip
 (.exit 0))
 (.seq (.block 1 (.seq (.ops [
 ⟨(some 15), .mv (.t 13), none⟩,
 ⟨(some 5), .mv (.t 15), none⟩] [0, 1, 5, 12, 13])
 (.seq (.draw [
 ⟨(some 16), .mv (.t 0), none⟩,
 ⟨(some 17), .mv (.t 5), none⟩,
 ⟨(some 18), .iaddr 2 (.t 16) (.t 17), none⟩,
 ⟨(some 19), .load (some 2) (.t 18), none⟩,
 ⟨(some 20), .mv (.t 1), none⟩,
 ⟨(some 21), .mv (.t 5), none⟩,
 ⟨(some 22), .iaddr 2 (.t 20) (.t 21), none⟩,
 ⟨(some 23), .load (some 2) (.t 22), none⟩,
 ⟨(some 24), .eqs true [some .i64, some .i64] (.t 19) (.t 23), none⟩] [
 ] [0, 1, 12, 13, 24])
 (.cond (.t 24) (.seq (.ops [
 ⟨(some 4), .mv (.c (.bool false)), none⟩] [4])
 .ret)
 .skip))))
 (.ops [
 ⟨(some 25), .bin .add (.t 13) (.c (.int .i64 1)), none⟩,
 ⟨(some 13), .mv (.t 25), none⟩] [0, 1, 12, 13])))))))
 (.seq (.ops [
 ⟨(some 4), .mv (.c (.bool true)), none⟩] [4])
 .ret)))),
 [.t 4]⟩
-- aneroid/paper.meet
def c108 : CF := ⟨46,
 (.seq (.ops [
 ⟨(some 4), .mv (.c (.slice none 0 0)), none⟩] [0, 1])
 (.seq (.ops [
 ⟨(some 5), .alloc 90 1 [.slice none 0 0], none⟩] [0, 1, 5])
 (.seq (.seq (.ops [
 ⟨(some 11), .mv (.t 0), none⟩,
 ⟨(some 12), .len (.t 11), none⟩,
 ⟨(some 13), .mv (.c (.int .i64 0)), none⟩] [1, 5, 11, 12, 13])
 (.block 0 (.loop (.seq (.ops [
 ⟨(some 14), .bin .lss (.t 13) (.t 12), none⟩] [1, 5, 11, 12, 13, 14])
 (.seq (.cond (.t 14) .skip
 (.exit 0))
 (.seq (.block 1 (.seq (.ops [
 ⟨(some 15), .iaddr 2 (.t 11) (.t 13), none⟩,
 ⟨(some 16), .load (some 2) (.t 15), none⟩,
 ⟨(some 7), .alloc 23 2 [.int .i64 0, .int .i64 0], none⟩,
 ⟨none, .store 2 (.t 7) (.t 16), none⟩] [1, 5, 7, 11, 12, 13])
 (.seq (.ops [
 ⟨(some 17), .mv (.t 1), none⟩,
 ⟨(some 18), .len (.t 17), none⟩,
 ⟨(some 19), .mv (.c (.int .i64 0)), none⟩] [1, 5, 7, 11, 12, 13, 17, 18, 19])
 (.block 2 (.loop (.seq (.ops [
 ⟨(some 20), .bin .lss (.t 19) (.t 18), none⟩] [1, 5, 7, 11, 12, 13, 17, 18, 19, 20])
 (.seq (.cond (.t 20) .skip
 (.exit 2))
 (.seq (.block 3 (.seq (.ops [
 ⟨(some 21), .iaddr 2 (.t 17) (.t 19), none⟩,
 ⟨(some 22), .load (some 2) (.t 21), none⟩,
 ⟨(some 9), .alloc 23 2 [.int .i64 0, .int .i64 0], none⟩,
 ⟨none, .store 2 (.t 9) (.t 22), none⟩] [1, 5, 7, 9, 11, 12, 13, 17, 18, 19])
 (.seq (.ops [
 ⟨(some 23), .faddr 0 (.t 7), none⟩,
 ⟨(some 24), .load none (.t 23), none⟩,
 ⟨(some 25), .faddr 0 (.t 9), none⟩,
 ⟨(some 26), .load none (.t 25), none⟩,
 ⟨(some 27), .mnx true (.t 24) (.t 26), none⟩,
 ⟨(some 28), .faddr 1 (.t 7), none⟩,
 ⟨(some 29), .load none (.t 28), none⟩,
 ⟨(some 30), .faddr 1 (.t 9), none⟩,
 ⟨(some 31), .load none (.t 30), none⟩,
 ⟨(some 32), .mnx false (.t 29) (.t 31), none⟩,
 ⟨(some 33), .build [.int .i64 0, .int .i64 0] [(0, 1, (.t 27)), (1, 1, (.t 32))], none⟩,
 ⟨(some 10), .alloc 23 2 [.int .i64 0, .int .i64 0], none⟩,
 ⟨none, .store 2 (.t 10) (.t 33), none⟩] [1, 5, 7, 10, 11, 12, 13, 17, 18, 19])
 (.seq (.ops [
 ⟨(some 34), .faddr 0 (.t 10), none⟩,
 ⟨(some 35), .load none (.t 34), none⟩,
 ⟨(some 36), .faddr 1 (.t 10), none⟩,
 ⟨(some 37), .load none (.t 36), none⟩,
 ⟨(some 38), .bin .leq (.t 35) (.t 37), none⟩] [1, 5, 7, 10, 11, 12, 13, 17, 18, 19, 38])
 (.cond (.t 38) (.ops [
 ⟨(some 39), .load (some 2) (.t 10), none⟩,
 ⟨(some 40), .bsl false 23 2 1 [.int .i64 0, .int .i64 0] [(0, 2, (.t 39))], none⟩,
 ⟨(some 41), .call (.f 104) [(.t 5), (.t 40)], none⟩] [1, 5, 7, 11, 12, 13, 17, 18, 19])
 .skip)))))
 (.ops [
 ⟨(some 42), .bin .add (.t 19) (.c (.int .i64 1)), none⟩,
 ⟨(some 19), .mv (.t 42), none⟩] [1, 5, 7, 11, 12, 13, 17, 18, 19])))))))))
 (.ops [
 ⟨(some 43), .bin .add (.t 13) (.c (.int .i64 1)), none⟩,
 ⟨(some 13), .mv (.t 43), none⟩] [1, 5, 11, 12, 13])))))))
 (.seq (.ops [
 ⟨(some 44), .faddr 0 (.t 5), none⟩,
 ⟨(some 45), .load none (.t 44), none⟩,
 ⟨(some 4), .mv (.t 45), none⟩] [4])
 .ret)))),
 [.t 4]⟩
-- aneroid/aneroidref01.meet
def c116 : CF := ⟨46,
 (.seq (.ops [
 ⟨(some 4), .mv (.c (.slice none 0 0)), none⟩] [0, 1])
 (.seq (.ops [
 ⟨(some 5), .mv (.c (.slice none 0 0)), none⟩] [0, 1, 5])
 (.seq (.seq (.ops [
 ⟨(some 6), .mv (.c (.int .i64 0)), none⟩] [0, 1, 5, 6])
 (.block 0 (.loop (.seq (.seq (.ops [
 ⟨(some 8), .mv (.t 6), none⟩,
 ⟨(some 9), .mv (.t 0), none⟩,
 ⟨(some 10), .len (.t 9), none⟩,
 ⟨(some 11), .bin .lss (.t 8) (.t 10), none⟩] [0, 1, 5, 6, 11])
 (.cond (.t 11) .skip
 (.exit 0)))
 (.seq (.block 1 (.seq (.ops [
 ⟨(some 7), .mv (.c (.int .i64 0)), none⟩] [0, 1, 5, 6, 7])
 (.block 2 (.loop (.seq (.seq (.ops [
 ⟨(some 14), .mv (.t 7), none⟩,
 ⟨(some 15), .mv (.t 1), none⟩,
 ⟨(some 16), .len (.t 15), none⟩,
 ⟨(some 17), .bin .lss (.t 14) (.t 16), none⟩] [0, 1, 5, 6, 7, 17])
 (.cond (.t 17) .skip
 (.exit 2)))
 (.seq (.block 3 (.draw [
 ⟨(some 20), .mv (.t 5), none⟩,
 ⟨(some 21), .mv (.t 0), none⟩,
 ⟨(some 22), .mv (.t 6), none⟩,
 ⟨(some 23), .iaddr 2 (.t 21) (.t 22), none⟩,
 ⟨(some 24), .faddr 0 (.t 23), none⟩,
 ⟨(some 25), .load none (.t 24), none⟩,
 ⟨(some 26), .mv (.t 1), none⟩,
 ⟨(some 27), .mv (.t 7), none⟩,
 ⟨(some 28), .iaddr 2 (.t 26) (.t 27), none⟩,
 ⟨(some 29), .faddr 0 (.t 28), none⟩,
 ⟨(some 30), .load none (.t 29), none⟩,
 ⟨(some 31), .mnx true (.t 25) (.t 30), none⟩,
 ⟨(some 32), .mv (.t 0), none⟩,
 ⟨(some 33), .mv (.t 6), none⟩,
 ⟨(some 34), .iaddr 2 (.t 32) (.t 33), none⟩,
 ⟨(some 35), .faddr 1 (.t 34), none⟩,
 ⟨(some 36), .load none (.t 35), none⟩,
 ⟨(some 37), .mv (.t 1), none⟩,
 ⟨(some 38), .mv (.t 7), none⟩,
 ⟨(some 39), .iaddr 2 (.t 37) (.t 38), none⟩,
 ⟨(some 40), .faddr 1 (.t 39), none⟩,
 ⟨(some 41), .load none (.t 40), none⟩,
 ⟨(some 42), .mnx false (.t 36) (.t 41), none⟩,
 ⟨(some 43), .build [.int .i64 0, .int .i64 0] [(0, 1, (.t 31)), (1, 1, (.t 42))], none⟩,
 ⟨(some 44), .call (.f 105) [(.t 20), (.t 43)], none⟩] [
 ⟨(some 5), .mv (.t 44), none⟩] [0, 1, 5, 6, 7]))
 (.ops [
 ⟨(some 18), .mv (.t 7), none⟩,
 ⟨(some 19), .bin .add (.t 18) (.c (.int .i64 1)), none⟩,
 ⟨(some 7), .mv (.t 19), none⟩] [0, 1, 5, 6, 7])))))))
 (.ops [
 ⟨(some 12), .mv (.t 6), none⟩,
 ⟨(some 13), .bin .add (.t 12) (.c (.int .i64 1)), none⟩,
 ⟨(some 6), .mv (.t 13), none⟩] [0, 1, 5, 6]))))))
 (.seq (.ops [
 ⟨(some 45), .mv (.t 5), none⟩,
 ⟨(some 4), .mv (.t 45), none⟩] [4])
 .ret)))),
 [.t 4]⟩
-- aneroid/aneroidref01.union
def c120 : CF := ⟨21,
 (.seq (.ops [
 ⟨(some 4), .mv (.c (.slice none 0 0)), none⟩] [0, 1])
 (.seq (.ops [
 ⟨(some 7), .mv (.t 0), none⟩,
 ⟨(some 5), .mv (.t 7), none⟩] [1, 5])
 (.seq (.seq (.ops [
 ⟨(some 6), .mv (.c (.int .i64 0)), none⟩] [1, 5, 6])
 (.block 0 (.loop (.seq (.seq (.ops [
 ⟨(some 8), .mv (.t 6), none⟩,
 ⟨(some 9), .mv (.t 1), none⟩,
 ⟨(some 10), .len (.t 9), none⟩,
 ⟨(some 11), .bin .lss (.t 8) (.t 10), none⟩] [1, 5, 6, 11])
 (.cond (.t 11) .skip
 (.exit 0)))
 (.seq (.block 1 (.ops [
 ⟨(some 14), .mv (.t 5), none⟩,
 ⟨(some 15), .mv (.t 1), none⟩,
 ⟨(some 16), .mv (.t 6), none⟩,
 ⟨(some 17), .iaddr 2 (.t 15) (.t 16), none⟩,
 ⟨(some 18), .load (some 2) (.t 17), none⟩,
 ⟨(some 19), .call (.f 105) [(.t 14), (.t 18)], none⟩,
 ⟨(some 5), .mv (.t 19), none⟩] [1, 5, 6]))
 (.ops [
 ⟨(some 12), .mv (.t 6), none⟩,
 ⟨(some 13), .bin .add (.t 12) (.c (.int .i64 1)), none⟩,
 ⟨(some 6), .mv (.t 13), none⟩] [1, 5, 6]))))))
 (.seq (.ops [
 ⟨(some 20), .mv (.t 5), none⟩,
 ⟨(some 4), .mv (.t 20), none⟩] [4])
 .ret)))),
 [.t 4]⟩
theorem k107 : chkF Try.prog Try.f107 c107 = true := by kernel_rfl
theorem k116 : chkF Try.prog Try.f116 c116 = true := by kernel_rfl
theorem k120 : chkF Try.prog Try.f120 c120 = true := by kernel_rfl
theorem k108 : chkF Try.prog Try.f108 c108 = true := by kernel_rfl

theorem AWPC.nil0 {P : Program} {N : Nat} {rd : Option Nat} {K : Kont} {env : Env} {σ : Sto} {c : C} (k t : Nat) (ht : gt env t = .v (.slice none 0 0)) (h : AWPC P N rd c K ((t, .sl k []) :: env) σ) : AWPC P N rd c K env σ := by
  intro code hc n0 X β a w hst
  refine h code hc n0 X β a w { hst with ev := fun s => ?_ }
  simp only [gt]
  by_cases hs : t = s
  · subst hs
    simp only [beq_self_eq_true, cond_true]
    have := hst.ev t
    rw [ht] at this
    exact this.nil
  · have : (t == s) = false := by simpa using hs
    simp only [this, cond_false]
    exact hst.ev s

/-- A set that is small and whose numbers are. -/
structure OKs (m : Nat) (l : List Sp) : Prop where
  nm : Norm l
  bd : ∀ s ∈ l, -1000000 ≤ s.lo ∧ s.hi ≤ 1000000
  len : l.length ≤ m

theorem in_of_mem {l : List Sp} {A B : Int} (hn : Norm l) (h : ∀ v, Mem v l → A ≤ v ∧ v ≤ B) : ∀ s ∈ l, A ≤ s.lo ∧ s.hi ≤ B := fun s hs =>
  have hne := hn.ne s hs
  ⟨(h s.lo ⟨s, hs, Int.le_refl _, hne⟩).1, (h s.hi ⟨s, hs, hne, Int.le_refl _⟩).2⟩

theorem joinE_mem {l : List Sp} {x : Sp} (hl : Norm l) (v : Int) : Mem v (joinE l x) ↔ Mem v l ∨ (x.lo ≤ v ∧ v ≤ x.hi) := by
  unfold joinE
  split
  · exact ⟨.inl, fun h => h.elim id fun h => by omega⟩
  · exact join_mem hl (by omega) v
theorem joinE_norm {l : List Sp} {x : Sp} (hl : Norm l) : Norm (joinE l x) := by
  unfold joinE
  split
  · exact hl
  · exact join_norm hl (by omega)
theorem joinE_len (l : List Sp) (x : Sp) : (joinE l x).length ≤ l.length + 1 := by
  unfold joinE
  split
  · omega
  · exact join_len l x
theorem joinE_ok {m : Nat} {l : List Sp} {x : Sp} (hl : OKs m l) (hx : -1000000 ≤ x.lo ∧ x.hi ≤ 1000000) : OKs (m + 1) (joinE l x) := by
  refine ⟨joinE_norm hl.nm, in_of_mem (joinE_norm hl.nm) fun v hv => ?_, Nat.le_trans (joinE_len l x) (Nat.succ_le_succ hl.len)⟩
  rcases (joinE_mem hl.nm v).1 hv with ⟨s, hs, h1, h2⟩ | h
  · have := hl.bd s hs; omega
  · omega

/-- A set with what a list of spans adds. -/
def joins (l b : List Sp) : List Sp := b.foldl joinE l
theorem joins_next {l b : List Sp} {i : Nat} {x : Sp} (h : b[i]? = some x) : joins l (b.take (i + 1)) = joinE (joins l (b.take i)) x := by
  have hlt := (List.getElem?_eq_some_iff.1 h).1
  have : b.take (i + 1) = b.take i ++ [x] := by rw [List.take_add_one, h]; rfl
  simp only [joins, this, List.foldl_append, List.foldl_cons, List.foldl_nil]
theorem joins_ok {b : List Sp} (hb : ∀ x ∈ b, -1000000 ≤ x.lo ∧ x.hi ≤ 1000000) : ∀ {m : Nat} {l : List Sp}, OKs m l → OKs (m + b.length) (joins l b) := by
  induction b with
  | nil => intro m l h; exact h
  | cons x b ih => intro m l h; have := ih (fun y hy => hb y (by simp [hy])) (joinE_ok h (hb x (by simp))); rw [List.length_cons, show m + (b.length + 1) = m + 1 + b.length by omega]; exact this
theorem joins_mem {b : List Sp} : ∀ {l : List Sp}, Norm l → ∀ v, Mem v (joins l b) ↔ Mem v l ∨ Mem v b := by
  induction b with
  | nil => intro l h v; simp [joins, Mem.nil]
  | cons x b ih => intro l h v; show Mem v (joins (joinE l x) b) ↔ _; rw [ih (joinE_norm h), joinE_mem h, mem_cons, or_assoc]
theorem joins_norm {b : List Sp} : ∀ {l : List Sp}, Norm l → Norm (joins l b) := by
  induction b with
  | nil => intro l h; exact h
  | cons x b ih => intro l h; exact ih (joinE_norm h)

/-- What a span and a set have in common. -/
def caps (s : Sp) (b : List Sp) : List Sp := b.map s.cap
theorem caps_mem {s : Sp} {b : List Sp} (v : Int) : Mem v (caps s b) ↔ (s.lo ≤ v ∧ v ≤ s.hi) ∧ Mem v b := by
  unfold caps
  constructor
  · rintro ⟨u, hu, h⟩
    obtain ⟨t, ht, rfl⟩ := List.mem_map.1 hu
    have := mem_cap.1 h
    exact ⟨this.1, t, ht, this.2⟩
  · rintro ⟨h, t, ht, h'⟩
    exact ⟨s.cap t, List.mem_map.2 ⟨t, ht, rfl⟩, mem_cap.2 ⟨h, h'⟩⟩
theorem caps_bd {s : Sp} {b : List Sp} (hs : -1000000 ≤ s.lo ∧ s.hi ≤ 1000000) : ∀ x ∈ caps s b, -1000000 ≤ x.lo ∧ x.hi ≤ 1000000 := by
  intro x hx
  obtain ⟨t, ht, rfl⟩ := List.mem_map.1 hx
  simp only [Sp.cap]; omega
/-- What two sets have in common. -/
def meet (a b : List Sp) : List Sp := a.foldl (fun l s => joins l (caps s b)) []
theorem meet_next {a b : List Sp} {i : Nat} {x : Sp} (h : a[i]? = some x) : meet (a.take (i + 1)) b = joins (meet (a.take i) b) (caps x b) := by
  have hlt := (List.getElem?_eq_some_iff.1 h).1
  have : a.take (i + 1) = a.take i ++ [x] := by rw [List.take_add_one, h]; rfl
  simp only [meet, this, List.foldl_append, List.foldl_cons, List.foldl_nil]
theorem meet_all (a b : List Sp) (ha : ∀ x ∈ a, -1000000 ≤ x.lo ∧ x.hi ≤ 1000000) : OKs (a.length * b.length) (meet a b) ∧ ∀ v, Mem v (meet a b) ↔ Mem v a ∧ Mem v b := by
  have h : ∀ (a l : List Sp) (m : Nat), (∀ x ∈ a, -1000000 ≤ x.lo ∧ x.hi ≤ 1000000) → OKs m l → OKs (m + a.length * b.length) (a.foldl (fun l s => joins l (caps s b)) l) ∧ ∀ v, Mem v (a.foldl (fun l s => joins l (caps s b)) l) ↔ Mem v l ∨ (Mem v a ∧ Mem v b) := by
    intro a
    induction a with
    | nil => intro l m _ h; exact ⟨by simpa using h, fun v => by simp [Mem.nil]⟩
    | cons x a ih =>
      intro l m hb hl
      have j := joins_ok (caps_bd (b := b) (hb x (by simp))) hl
      obtain ⟨i1, i2⟩ := ih _ _ (fun y hy => hb y (by simp [hy])) j
      simp only [caps, List.length_map] at i1
      refine ⟨by rw [List.length_cons, Nat.succ_mul, show m + (a.length * b.length + b.length) = m + b.length + a.length * b.length by omega]; exact i1, fun v => ?_⟩
      rw [List.foldl_cons, i2, joins_mem hl.nm, caps_mem, mem_cons, or_and_right, or_assoc]
  have := h a [] 0 ha ⟨trivial, (fun s hs => by cases hs), Nat.le_refl _⟩
  refine ⟨by have := this.1; rw [Nat.zero_add] at this; exact this, fun v => ?_⟩
  rw [meet, this.2]; simp [Mem.nil]
theorem meet_take_ok {a b : List Sp} (i : Nat) (ha : ∀ x ∈ a, -1000000 ≤ x.lo ∧ x.hi ≤ 1000000) : OKs (a.length * b.length) (meet (a.take i) b) := by
  have h := (meet_all (a.take i) b (fun x hx => ha x (List.mem_of_mem_take hx))).1
  refine ⟨h.nm, h.bd, Nat.le_trans h.len (Nat.mul_le_mul_right _ (List.length_take_le' i a))⟩

theorem rmeet_spec (a b : List Sp) (ha : ∀ x ∈ a, -1000000 ≤ x.lo ∧ x.hi ≤ 1000000) (hal : a.length ≤ 10000) (hbl : b.length ≤ 10000) : Pure Try.prog 116 [spS a, spS b] (spS (meet a b)) := by
  refine Pure.of_body Try.call116 Try.func116 k116 (Nat.le_of_ble_eq_true rfl) ?_
  have hmul : a.length * b.length ≤ 100000000 := Nat.le_trans (Nat.mul_le_mul hal hbl) (by decide)
  unfold c116
  (repeat' first
 | (refine AWPC.of_vcn rfl ?_; simp only [zT, zV, zS, zU, vcC, lateX, ex, strp, cnd, binA, kseq, kblk, kret, klp, Abs.one, elems, cells, scalar, eqC, Nat.reduceBEq, Nat.reduceAdd, Nat.reduceSub, Nat.reduceLT, Nat.reduceLeDiff, Nat.reduceMul, Nat.reduceEqDiff, cond_true, cond_false, if_true, if_false, reduceIte, implies_true, forall_const, ne_eq])
 | (simp (disch := omega) only [wr64, Int.zero_sub]; try simp only [zT, zV, zS, zU, vcC, lateX, ex, strp, cnd, binA, kseq, kblk, kret, klp, Abs.one, elems, cells, scalar, eqC, Nat.reduceBEq, Nat.reduceAdd, Nat.reduceSub, Nat.reduceLT, Nat.reduceLeDiff, Nat.reduceMul, Nat.reduceEqDiff, cond_true, cond_false, if_true, if_false, reduceIte, implies_true, forall_const, ne_eq])
 | (refine AWPC.both (fun _ => ?_) (fun _ => ?_))
 | (refine AWPC.imp (fun _ => ?_))
 | ((refine .inl ⟨_, _, _, .any, rfl, fun h => absurd h Bool.false_ne_true, ?_⟩); refine owp_of_exs ?_; simp only [zT, zV, zS, zU, vcC, lateX, ex, strp, cnd, binA, kseq, kblk, kret, klp, Abs.one, elems, cells, scalar, eqC, Nat.reduceBEq, Nat.reduceAdd, Nat.reduceSub, Nat.reduceLT, Nat.reduceLeDiff, Nat.reduceMul, Nat.reduceEqDiff, cond_true, cond_false, if_true, if_false, reduceIte, implies_true, forall_const, ne_eq])
 | (refine ⟨by omega, ?_⟩)
 | (refine And.intro (by (intros; first | (simp_all (config := { decide := false }); done) | fail)) ?_)
 | fail)
  refine AWPC.nil0 2 5 rfl ?_
  refine AWPC.loopS (α := { i : Nat // i ≤ a.length }) [5, 6] (fun i => [(5, spS (meet (a.take i.1) b)), (6, n i.1)]) (fun i => a.length - i.1) ⟨0, Nat.zero_le _⟩ ?_ ?_
  · (simp only [zT, zV, zS, zU, vcC, lateX, ex, strp, cnd, binA, kseq, kblk, kret, klp, Abs.one, elems, cells, scalar, eqC, Nat.reduceBEq, Nat.reduceAdd, Nat.reduceSub, Nat.reduceLT, Nat.reduceLeDiff, Nat.reduceMul, Nat.reduceEqDiff, cond_true, cond_false, if_true, if_false, reduceIte, implies_true, forall_const, ne_eq]; try simp)
    rfl
  rintro ⟨i, hi⟩
  have hok := meet_take_ok (b := b) i ha
  by_cases hlt : i < a.length
  · obtain ⟨s, hs⟩ : ∃ r, a[i]? = some r := ⟨_, List.getElem?_eq_getElem hlt⟩
    have hsb := ha s (List.mem_of_getElem? hs)
    have hnx := meet_next (b := b) hs
    have hsg : (a.map Sp.cs).getD i [] = s.cs := by simp [List.getD_eq_getElem?_getD, hs]
    (repeat' first
 | (refine AWPC.of_vcn rfl ?_; simp only [zT, zV, zS, zU, vcC, lateX, ex, strp, cnd, binA, kseq, kblk, kret, klp, Abs.one, elems, cells, scalar, eqC, Nat.reduceBEq, Nat.reduceAdd, Nat.reduceSub, Nat.reduceLT, Nat.reduceLeDiff, Nat.reduceMul, Nat.reduceEqDiff, cond_true, cond_false, if_true, if_false, reduceIte, implies_true, forall_const, ne_eq])
 | (simp (disch := omega) only [wr64, Int.zero_sub]; try simp only [zT, zV, zS, zU, vcC, lateX, ex, strp, cnd, binA, kseq, kblk, kret, klp, Abs.one, elems, cells, scalar, eqC, Nat.reduceBEq, Nat.reduceAdd, Nat.reduceSub, Nat.reduceLT, Nat.reduceLeDiff, Nat.reduceMul, Nat.reduceEqDiff, cond_true, cond_false, if_true, if_false, reduceIte, implies_true, forall_const, ne_eq])
 | (refine AWPC.both (fun _ => ?_) (fun _ => ?_))
 | (refine AWPC.imp (fun _ => ?_))
 | ((refine .inl ⟨_, _, _, .any, rfl, fun h => absurd h Bool.false_ne_true, ?_⟩); refine owp_of_exs ?_; simp only [zT, zV, zS, zU, vcC, lateX, ex, strp, cnd, binA, kseq, kblk, kret, klp, Abs.one, elems, cells, scalar, eqC, Nat.reduceBEq, Nat.reduceAdd, Nat.reduceSub, Nat.reduceLT, Nat.reduceLeDiff, Nat.reduceMul, Nat.reduceEqDiff, cond_true, cond_false, if_true, if_false, reduceIte, implies_true, forall_const, ne_eq])
 | (refine ⟨by omega, ?_⟩)
 | (refine And.intro (by (intros; first | (simp_all (config := { decide := false }); done) | fail)) ?_)
 | fail)
    all_goals try (exfalso; omega)
    refine AWPC.loopS (α := { j : Nat // j ≤ b.length }) [5, 7] (fun j => [(5, spS (joins (meet (a.take i) b) ((caps s b).take j.1))), (7, n j.1)]) (fun j => b.length - j.1) ⟨0, Nat.zero_le _⟩ ?_ ?_
    · (simp only [zT, zV, zS, zU, vcC, lateX, ex, strp, cnd, binA, kseq, kblk, kret, klp, Abs.one, elems, cells, scalar, eqC, Nat.reduceBEq, Nat.reduceAdd, Nat.reduceSub, Nat.reduceLT, Nat.reduceLeDiff, Nat.reduceMul, Nat.reduceEqDiff, cond_true, cond_false, if_true, if_false, reduceIte, implies_true, forall_const, ne_eq]; try simp)
      rfl
    rintro ⟨j, hj⟩
    have hok2 := joins_ok (b := (caps s b).take j) (fun x hx => caps_bd (b := b) hsb x (List.mem_of_mem_take hx)) hok
    have hl2 : ((caps s b).take j).length ≤ b.length := by have := List.length_take_le' j (caps s b); simpa [caps] using this
    have hl3 := hok2.len
    by_cases hlt2 : j < b.length
    · obtain ⟨t, ht⟩ : ∃ r, b[j]? = some r := ⟨_, List.getElem?_eq_getElem hlt2⟩
      have htg : (b.map Sp.cs).getD j [] = t.cs := by simp [List.getD_eq_getElem?_getD, ht]
      have hct : (caps s b)[j]? = some (s.cap t) := by simp [caps, ht]
      have hn2 := joins_next (l := meet (a.take i) b) hct
      generalize joins (meet (a.take i) b) ((caps s b).take j) = L at *
      have hj' := rJoin_spec L (s.cap t) hok2.nm hok2.bd (by simp only [Sp.cap]; omega) (by omega)
      (repeat' first
 | (refine AWPC.of_vcn rfl ?_; simp only [zT, zV, zS, zU, vcC, lateX, ex, strp, cnd, binA, kseq, kblk, kret, klp, Abs.one, elems, cells, scalar, eqC, Nat.reduceBEq, Nat.reduceAdd, Nat.reduceSub, Nat.reduceLT, Nat.reduceLeDiff, Nat.reduceMul, Nat.reduceEqDiff, cond_true, cond_false, if_true, if_false, reduceIte, implies_true, forall_const, ne_eq, hsg, htg])
 | (simp (disch := omega) only [wr64, Int.zero_sub]; try simp only [zT, zV, zS, zU, vcC, lateX, ex, strp, cnd, binA, kseq, kblk, kret, klp, Abs.one, elems, cells, scalar, eqC, Nat.reduceBEq, Nat.reduceAdd, Nat.reduceSub, Nat.reduceLT, Nat.reduceLeDiff, Nat.reduceMul, Nat.reduceEqDiff, cond_true, cond_false, if_true, if_false, reduceIte, implies_true, forall_const, ne_eq, hsg, htg])
 | (refine AWPC.both (fun _ => ?_) (fun _ => ?_))
 | (refine AWPC.imp (fun _ => ?_))
 | ((repeat (refine And.intro (by (intros; first | omega | (simp_all (config := { decide := false }); done) | fail)) ?_)); (first
 | (refine .inl ⟨_, _, _, _, rfl, fun _hc => ⟨by simp, hj'⟩, ?_⟩)
 | (refine ⟨_, _, _, _, rfl, fun _hc => ⟨by simp, hj'⟩, ?_⟩)
 | fail); (first | refine owp_of_exs ?_ | refine pre_of_exd ?_ | refine pre_of_exe ?_ | fail); simp only [zT, zV, zS, zU, vcC, lateX, ex, strp, cnd, binA, kseq, kblk, kret, klp, Abs.one, elems, cells, scalar, eqC, Nat.reduceBEq, Nat.reduceAdd, Nat.reduceSub, Nat.reduceLT, Nat.reduceLeDiff, Nat.reduceMul, Nat.reduceEqDiff, cond_true, cond_false, if_true, if_false, reduceIte, implies_true, forall_const, ne_eq, hsg, htg])
 | ((refine .inl ⟨_, _, _, .any, rfl, fun h => absurd h Bool.false_ne_true, ?_⟩); refine owp_of_exs ?_; simp only [zT, zV, zS, zU, vcC, lateX, ex, strp, cnd, binA, kseq, kblk, kret, klp, Abs.one, elems, cells, scalar, eqC, Nat.reduceBEq, Nat.reduceAdd, Nat.reduceSub, Nat.reduceLT, Nat.reduceLeDiff, Nat.reduceMul, Nat.reduceEqDiff, cond_true, cond_false, if_true, if_false, reduceIte, implies_true, forall_const, ne_eq, hsg, htg])
 | (refine ⟨by omega, ?_⟩)
 | (refine And.intro (by (intros; first | (simp_all (config := { decide := false }); done) | fail)) ?_)
 | fail)
      all_goals try (exfalso; omega)
      exact ⟨⟨j + 1, hlt2⟩, ⟨by rw [hn2], by simp⟩, by simp only; omega⟩
    · obtain rfl : j = b.length := by omega
      rw [show (caps s b).take b.length = caps s b by rw [List.take_of_length_le]; simp [caps], ← hnx] at *
      (repeat' first
 | (refine AWPC.of_vcn rfl ?_; simp only [zT, zV, zS, zU, vcC, lateX, ex, strp, cnd, binA, kseq, kblk, kret, klp, Abs.one, elems, cells, scalar, eqC, Nat.reduceBEq, Nat.reduceAdd, Nat.reduceSub, Nat.reduceLT, Nat.reduceLeDiff, Nat.reduceMul, Nat.reduceEqDiff, cond_true, cond_false, if_true, if_false, reduceIte, implies_true, forall_const, ne_eq])
 | (simp (disch := omega) only [wr64, Int.zero_sub]; try simp only [zT, zV, zS, zU, vcC, lateX, ex, strp, cnd, binA, kseq, kblk, kret, klp, Abs.one, elems, cells, scalar, eqC, Nat.reduceBEq, Nat.reduceAdd, Nat.reduceSub, Nat.reduceLT, Nat.reduceLeDiff, Nat.reduceMul, Nat.reduceEqDiff, cond_true, cond_false, if_true, if_false, reduceIte, implies_true, forall_const, ne_eq])
 | (refine AWPC.both (fun _ => ?_) (fun _ => ?_))
 | (refine AWPC.imp (fun _ => ?_))
 | ((refine .inl ⟨_, _, _, .any, rfl, fun h => absurd h Bool.false_ne_true, ?_⟩); refine owp_of_exs ?_; simp only [zT, zV, zS, zU, vcC, lateX, ex, strp, cnd, binA, kseq, kblk, kret, klp, Abs.one, elems, cells, scalar, eqC, Nat.reduceBEq, Nat.reduceAdd, Nat.reduceSub, Nat.reduceLT, Nat.reduceLeDiff, Nat.reduceMul, Nat.reduceEqDiff, cond_true, cond_false, if_true, if_false, reduceIte, implies_true, forall_const, ne_eq])
 | (refine ⟨by omega, ?_⟩)
 | (refine And.intro (by (intros; first | (simp_all (config := { decide := false }); done) | fail)) ?_)
 | fail)
      all_goals try (exfalso; omega)
      exact ⟨⟨i + 1, hlt⟩, ⟨rfl, by simp⟩, by simp only; omega⟩
  · obtain rfl : i = a.length := by omega
    rw [List.take_length] at *
    (repeat' first
 | (refine AWPC.of_vcn rfl ?_; simp only [zT, zV, zS, zU, vcC, lateX, ex, strp, cnd, binA, kseq, kblk, kret, klp, Abs.one, elems, cells, scalar, eqC, Nat.reduceBEq, Nat.reduceAdd, Nat.reduceSub, Nat.reduceLT, Nat.reduceLeDiff, Nat.reduceMul, Nat.reduceEqDiff, cond_true, cond_false, if_true, if_false, reduceIte, implies_true, forall_const, ne_eq])
 | (simp (disch := omega) only [wr64, Int.zero_sub]; try simp only [zT, zV, zS, zU, vcC, lateX, ex, strp, cnd, binA, kseq, kblk, kret, klp, Abs.one, elems, cells, scalar, eqC, Nat.reduceBEq, Nat.reduceAdd, Nat.reduceSub, Nat.reduceLT, Nat.reduceLeDiff, Nat.reduceMul, Nat.reduceEqDiff, cond_true, cond_false, if_true, if_false, reduceIte, implies_true, forall_const, ne_eq])
 | (refine AWPC.both (fun _ => ?_) (fun _ => ?_))
 | (refine AWPC.imp (fun _ => ?_))
 | ((refine .inl ⟨_, _, _, .any, rfl, fun h => absurd h Bool.false_ne_true, ?_⟩); refine owp_of_exs ?_; simp only [zT, zV, zS, zU, vcC, lateX, ex, strp, cnd, binA, kseq, kblk, kret, klp, Abs.one, elems, cells, scalar, eqC, Nat.reduceBEq, Nat.reduceAdd, Nat.reduceSub, Nat.reduceLT, Nat.reduceLeDiff, Nat.reduceMul, Nat.reduceEqDiff, cond_true, cond_false, if_true, if_false, reduceIte, implies_true, forall_const, ne_eq])
 | (refine ⟨by omega, ?_⟩)
 | (refine And.intro (by (intros; first | (simp_all (config := { decide := false }); done) | fail)) ?_)
 | fail)
    all_goals try (exfalso; omega)
    exact Frz.eq rfl (by simp)

theorem equal_spec (a b : List Sp) (ha : a.length < 9223372036854775808) (hb : b.length < 9223372036854775808) : Pure Try.prog 107 [spS a, spS b] (bl (decide (a = b))) := by
  refine Pure.of_body Try.call107 Try.func107 k107 (Nat.le_of_ble_eq_true rfl) ?_
  unfold c107
  (repeat' first
 | (refine AWPC.of_vcn rfl ?_; simp only [zT, zV, zS, zU, vcC, lateX, ex, strp, cnd, binA, kseq, kblk, kret, klp, Abs.one, elems, cells, scalar, eqC, Nat.reduceBEq, Nat.reduceAdd, Nat.reduceSub, Nat.reduceLT, Nat.reduceLeDiff, Nat.reduceMul, Nat.reduceEqDiff, cond_true, cond_false, if_true, if_false, reduceIte, implies_true, forall_const, ne_eq])
 | (simp (disch := omega) only [wr64, Int.zero_sub]; try simp only [zT, zV, zS, zU, vcC, lateX, ex, strp, cnd, binA, kseq, kblk, kret, klp, Abs.one, elems, cells, scalar, eqC, Nat.reduceBEq, Nat.reduceAdd, Nat.reduceSub, Nat.reduceLT, Nat.reduceLeDiff, Nat.reduceMul, Nat.reduceEqDiff, cond_true, cond_false, if_true, if_false, reduceIte, implies_true, forall_const, ne_eq])
 | (refine AWPC.both (fun _ => ?_) (fun _ => ?_))
 | (refine AWPC.imp (fun _ => ?_))
 | ((refine .inl ⟨_, _, _, .any, rfl, fun h => absurd h Bool.false_ne_true, ?_⟩); refine owp_of_exs ?_; simp only [zT, zV, zS, zU, vcC, lateX, ex, strp, cnd, binA, kseq, kblk, kret, klp, Abs.one, elems, cells, scalar, eqC, Nat.reduceBEq, Nat.reduceAdd, Nat.reduceSub, Nat.reduceLT, Nat.reduceLeDiff, Nat.reduceMul, Nat.reduceEqDiff, cond_true, cond_false, if_true, if_false, reduceIte, implies_true, forall_const, ne_eq])
 | (refine ⟨by omega, ?_⟩)
 | (refine And.intro (by (intros; first | (simp_all (config := { decide := false }); done) | fail)) ?_)
 | fail)
  · rename_i h
    exact Frz.eq (congrArg bl (by rw [decide_eq_false]; rintro rfl; exact h rfl)) (by simp)
  · rename_i h
    have hl : a.length = b.length := by omega
    refine AWPC.loopI 13 a.length (fun i => a.take i = b.take i) (by simp) ?_ ?_
    · (simp only [zT, zV, zS, zU, vcC, lateX, ex, strp, cnd, binA, kseq, kblk, kret, klp, Abs.one, elems, cells, scalar, eqC, Nat.reduceBEq, Nat.reduceAdd, Nat.reduceSub, Nat.reduceLT, Nat.reduceLeDiff, Nat.reduceMul, Nat.reduceEqDiff, cond_true, cond_false, if_true, if_false, reduceIte, implies_true, forall_const, ne_eq]; try simp)
    · intro i hi hI
      by_cases hlt : i < a.length
      · obtain ⟨x, hx⟩ : ∃ x, a[i]? = some x := ⟨_, List.getElem?_eq_getElem hlt⟩
        obtain ⟨y, hy⟩ : ∃ y, b[i]? = some y := ⟨_, List.getElem?_eq_getElem (by omega)⟩
        have htn := take_next hx hy
        (repeat' first
 | (refine AWPC.of_vcn rfl ?_; simp only [zT, zV, zS, zU, vcC, lateX, ex, strp, cnd, binA, kseq, kblk, kret, klp, Abs.one, elems, cells, scalar, eqC, Nat.reduceBEq, Nat.reduceAdd, Nat.reduceSub, Nat.reduceLT, Nat.reduceLeDiff, Nat.reduceMul, Nat.reduceEqDiff, cond_true, cond_false, if_true, if_false, reduceIte, implies_true, forall_const, ne_eq, getD_map hx, getD_map hy])
 | (simp (disch := omega) only [wr64, Int.zero_sub]; try simp only [zT, zV, zS, zU, vcC, lateX, ex, strp, cnd, binA, kseq, kblk, kret, klp, Abs.one, elems, cells, scalar, eqC, Nat.reduceBEq, Nat.reduceAdd, Nat.reduceSub, Nat.reduceLT, Nat.reduceLeDiff, Nat.reduceMul, Nat.reduceEqDiff, cond_true, cond_false, if_true, if_false, reduceIte, implies_true, forall_const, ne_eq, getD_map hx, getD_map hy])
 | (refine AWPC.both (fun _ => ?_) (fun _ => ?_))
 | (refine AWPC.imp (fun _ => ?_))
 | ((refine .inl ⟨_, _, _, .any, rfl, fun h => absurd h Bool.false_ne_true, ?_⟩); refine owp_of_exs ?_; simp only [zT, zV, zS, zU, vcC, lateX, ex, strp, cnd, binA, kseq, kblk, kret, klp, Abs.one, elems, cells, scalar, eqC, Nat.reduceBEq, Nat.reduceAdd, Nat.reduceSub, Nat.reduceLT, Nat.reduceLeDiff, Nat.reduceMul, Nat.reduceEqDiff, cond_true, cond_false, if_true, if_false, reduceIte, implies_true, forall_const, ne_eq, getD_map hx, getD_map hy])
 | (refine ⟨by omega, ?_⟩)
 | (refine And.intro (by (intros; first | (simp_all (config := { decide := false }); done) | fail)) ?_)
 | fail)
        all_goals try (exfalso; omega)
        · rename_i g
          refine Frz.eq (congrArg bl ?_) (by simp)
          rw [decide_eq_false]
          rintro rfl
          rw [hx] at hy; injection hy with hy; exact g (hy ▸ ⟨rfl, rfl⟩)
        · rename_i g
          refine ⟨⟨i + 1, hlt, htn.2 ⟨hI, ?_⟩⟩, by simp, by simp only; omega⟩
          cases x; cases y; simp only at g; rw [g.1, g.2]
      · obtain rfl : i = a.length := by omega
        rw [List.take_length, hl, List.take_length] at hI
        (repeat' first
 | (refine AWPC.of_vcn rfl ?_; simp only [zT, zV, zS, zU, vcC, lateX, ex, strp, cnd, binA, kseq, kblk, kret, klp, Abs.one, elems, cells, scalar, eqC, Nat.reduceBEq, Nat.reduceAdd, Nat.reduceSub, Nat.reduceLT, Nat.reduceLeDiff, Nat.reduceMul, Nat.reduceEqDiff, cond_true, cond_false, if_true, if_false, reduceIte, implies_true, forall_const, ne_eq])
 | (simp (disch := omega) only [wr64, Int.zero_sub]; try simp only [zT, zV, zS, zU, vcC, lateX, ex, strp, cnd, binA, kseq, kblk, kret, klp, Abs.one, elems, cells, scalar, eqC, Nat.reduceBEq, Nat.reduceAdd, Nat.reduceSub, Nat.reduceLT, Nat.reduceLeDiff, Nat.reduceMul, Nat.reduceEqDiff, cond_true, cond_false, if_true, if_false, reduceIte, implies_true, forall_const, ne_eq])
 | (refine AWPC.both (fun _ => ?_) (fun _ => ?_))
 | (refine AWPC.imp (fun _ => ?_))
 | ((refine .inl ⟨_, _, _, .any, rfl, fun h => absurd h Bool.false_ne_true, ?_⟩); refine owp_of_exs ?_; simp only [zT, zV, zS, zU, vcC, lateX, ex, strp, cnd, binA, kseq, kblk, kret, klp, Abs.one, elems, cells, scalar, eqC, Nat.reduceBEq, Nat.reduceAdd, Nat.reduceSub, Nat.reduceLT, Nat.reduceLeDiff, Nat.reduceMul, Nat.reduceEqDiff, cond_true, cond_false, if_true, if_false, reduceIte, implies_true, forall_const, ne_eq])
 | (refine ⟨by omega, ?_⟩)
 | (refine And.intro (by (intros; first | (simp_all (config := { decide := false }); done) | fail)) ?_)
 | fail)
        all_goals try (exfalso; omega)
        exact Frz.eq (by simp [hI]) (by simp)

theorem runion_spec (a b : List Sp) (ha : OKs 1000 a) (hb : ∀ x ∈ b, -1000000 ≤ x.lo ∧ x.hi ≤ 1000000) (hbl : b.length ≤ 10000) : Pure Try.prog 120 [spS a, spS b] (spS (joins a b)) := by
  refine Pure.of_body Try.call120 Try.func120 k120 (Nat.le_of_ble_eq_true rfl) ?_
  unfold c120
  (repeat' first
 | (refine AWPC.of_vcn rfl ?_; simp only [zT, zV, zS, zU, vcC, lateX, ex, strp, cnd, binA, kseq, kblk, kret, klp, Abs.one, elems, cells, scalar, eqC, Nat.reduceBEq, Nat.reduceAdd, Nat.reduceSub, Nat.reduceLT, Nat.reduceLeDiff, Nat.reduceMul, Nat.reduceEqDiff, cond_true, cond_false, if_true, if_false, reduceIte, implies_true, forall_const, ne_eq])
 | (simp (disch := omega) only [wr64, Int.zero_sub]; try simp only [zT, zV, zS, zU, vcC, lateX, ex, strp, cnd, binA, kseq, kblk, kret, klp, Abs.one, elems, cells, scalar, eqC, Nat.reduceBEq, Nat.reduceAdd, Nat.reduceSub, Nat.reduceLT, Nat.reduceLeDiff, Nat.reduceMul, Nat.reduceEqDiff, cond_true, cond_false, if_true, if_false, reduceIte, implies_true, forall_const, ne_eq])
 | (refine AWPC.both (fun _ => ?_) (fun _ => ?_))
 | (refine AWPC.imp (fun _ => ?_))
 | ((refine .inl ⟨_, _, _, .any, rfl, fun h => absurd h Bool.false_ne_true, ?_⟩); refine owp_of_exs ?_; simp only [zT, zV, zS, zU, vcC, lateX, ex, strp, cnd, binA, kseq, kblk, kret, klp, Abs.one, elems, cells, scalar, eqC, Nat.reduceBEq, Nat.reduceAdd, Nat.reduceSub, Nat.reduceLT, Nat.reduceLeDiff, Nat.reduceMul, Nat.reduceEqDiff, cond_true, cond_false, if_true, if_false, reduceIte, implies_true, forall_const, ne_eq])
 | (refine ⟨by omega, ?_⟩)
 | (refine And.intro (by (intros; first | (simp_all (config := { decide := false }); done) | fail)) ?_)
 | fail)
  refine AWPC.loopS (α := { j : Nat // j ≤ b.length }) [5, 6] (fun j => [(5, spS (joins a (b.take j.1))), (6, n j.1)]) (fun j => b.length - j.1) ⟨0, Nat.zero_le _⟩ ?_ ?_
  · (simp only [zT, zV, zS, zU, vcC, lateX, ex, strp, cnd, binA, kseq, kblk, kret, klp, Abs.one, elems, cells, scalar, eqC, Nat.reduceBEq, Nat.reduceAdd, Nat.reduceSub, Nat.reduceLT, Nat.reduceLeDiff, Nat.reduceMul, Nat.reduceEqDiff, cond_true, cond_false, if_true, if_false, reduceIte, implies_true, forall_const, ne_eq]; try simp)
    all_goals rfl
  rintro ⟨j, hj⟩
  have hok2 := joins_ok (b := b.take j) (fun x hx => hb x (List.mem_of_mem_take hx)) ha
  have hl2 : (b.take j).length ≤ b.length := List.length_take_le' j b
  have hl3 := hok2.len
  by_cases hlt2 : j < b.length
  · obtain ⟨t, ht⟩ : ∃ r, b[j]? = some r := ⟨_, List.getElem?_eq_getElem hlt2⟩
    have htg : (b.map Sp.cs).getD j [] = t.cs := by simp [List.getD_eq_getElem?_getD, ht]
    have hn2 := joins_next (l := a) ht
    generalize joins a (b.take j) = L at *
    have hj' := rJoin_spec L t hok2.nm hok2.bd (hb t (List.mem_of_getElem? ht)) (by omega)
    (repeat' first
 | (refine AWPC.of_vcn rfl ?_; simp only [zT, zV, zS, zU, vcC, lateX, ex, strp, cnd, binA, kseq, kblk, kret, klp, Abs.one, elems, cells, scalar, eqC, Nat.reduceBEq, Nat.reduceAdd, Nat.reduceSub, Nat.reduceLT, Nat.reduceLeDiff, Nat.reduceMul, Nat.reduceEqDiff, cond_true, cond_false, if_true, if_false, reduceIte, implies_true, forall_const, ne_eq, htg])
 | (simp (disch := omega) only [wr64, Int.zero_sub]; try simp only [zT, zV, zS, zU, vcC, lateX, ex, strp, cnd, binA, kseq, kblk, kret, klp, Abs.one, elems, cells, scalar, eqC, Nat.reduceBEq, Nat.reduceAdd, Nat.reduceSub, Nat.reduceLT, Nat.reduceLeDiff, Nat.reduceMul, Nat.reduceEqDiff, cond_true, cond_false, if_true, if_false, reduceIte, implies_true, forall_const, ne_eq, htg])
 | (refine AWPC.both (fun _ => ?_) (fun _ => ?_))
 | (refine AWPC.imp (fun _ => ?_))
 | ((repeat (refine And.intro (by (intros; first | omega | (simp_all (config := { decide := false }); done) | fail)) ?_)); (first
 | (refine .inl ⟨_, _, _, _, rfl, fun _hc => ⟨by simp, hj'⟩, ?_⟩)
 | (refine ⟨_, _, _, _, rfl, fun _hc => ⟨by simp, hj'⟩, ?_⟩)
 | fail); (first | refine owp_of_exs ?_ | refine pre_of_exd ?_ | refine pre_of_exe ?_ | fail); simp only [zT, zV, zS, zU, vcC, lateX, ex, strp, cnd, binA, kseq, kblk, kret, klp, Abs.one, elems, cells, scalar, eqC, Nat.reduceBEq, Nat.reduceAdd, Nat.reduceSub, Nat.reduceLT, Nat.reduceLeDiff, Nat.reduceMul, Nat.reduceEqDiff, cond_true, cond_false, if_true, if_false, reduceIte, implies_true, forall_const, ne_eq, htg])
 | ((refine .inl ⟨_, _, _, .any, rfl, fun h => absurd h Bool.false_ne_true, ?_⟩); refine owp_of_exs ?_; simp only [zT, zV, zS, zU, vcC, lateX, ex, strp, cnd, binA, kseq, kblk, kret, klp, Abs.one, elems, cells, scalar, eqC, Nat.reduceBEq, Nat.reduceAdd, Nat.reduceSub, Nat.reduceLT, Nat.reduceLeDiff, Nat.reduceMul, Nat.reduceEqDiff, cond_true, cond_false, if_true, if_false, reduceIte, implies_true, forall_const, ne_eq, htg])
 | (refine ⟨by omega, ?_⟩)
 | (refine And.intro (by (intros; first | (simp_all (config := { decide := false }); done) | fail)) ?_)
 | fail)
    all_goals try (exfalso; omega)
    exact ⟨⟨j + 1, hlt2⟩, ⟨by rw [hn2], by simp⟩, by simp only; omega⟩
  · obtain rfl : j = b.length := by omega
    rw [List.take_length] at *
    (repeat' first
 | (refine AWPC.of_vcn rfl ?_; simp only [zT, zV, zS, zU, vcC, lateX, ex, strp, cnd, binA, kseq, kblk, kret, klp, Abs.one, elems, cells, scalar, eqC, Nat.reduceBEq, Nat.reduceAdd, Nat.reduceSub, Nat.reduceLT, Nat.reduceLeDiff, Nat.reduceMul, Nat.reduceEqDiff, cond_true, cond_false, if_true, if_false, reduceIte, implies_true, forall_const, ne_eq])
 | (simp (disch := omega) only [wr64, Int.zero_sub]; try simp only [zT, zV, zS, zU, vcC, lateX, ex, strp, cnd, binA, kseq, kblk, kret, klp, Abs.one, elems, cells, scalar, eqC, Nat.reduceBEq, Nat.reduceAdd, Nat.reduceSub, Nat.reduceLT, Nat.reduceLeDiff, Nat.reduceMul, Nat.reduceEqDiff, cond_true, cond_false, if_true, if_false, reduceIte, implies_true, forall_const, ne_eq])
 | (refine AWPC.both (fun _ => ?_) (fun _ => ?_))
 | (refine AWPC.imp (fun _ => ?_))
 | ((refine .inl ⟨_, _, _, .any, rfl, fun h => absurd h Bool.false_ne_true, ?_⟩); refine owp_of_exs ?_; simp only [zT, zV, zS, zU, vcC, lateX, ex, strp, cnd, binA, kseq, kblk, kret, klp, Abs.one, elems, cells, scalar, eqC, Nat.reduceBEq, Nat.reduceAdd, Nat.reduceSub, Nat.reduceLT, Nat.reduceLeDiff, Nat.reduceMul, Nat.reduceEqDiff, cond_true, cond_false, if_true, if_false, reduceIte, implies_true, forall_const, ne_eq])
 | (refine ⟨by omega, ?_⟩)
 | (refine And.intro (by (intros; first | (simp_all (config := { decide := false }); done) | fail)) ?_)
 | fail)
    all_goals try (exfalso; omega)
    exact Frz.eq rfl (by simp)

theorem okR_app {σ τ : Sto} {q : List Sp × Option Nat} (h : okR σ q) : okR (σ ++ τ) q := by
  obtain ⟨l, g⟩ := q
  cases g with
  | none => trivial
  | some g => simp only [okR] at h ⊢; rw [at_appL (at_lt h)]; exact h
theorem kret_mono {rs : List RF} {R R' : AV → Sto → Prop} {e : Exit} {env : Env} {σ : Sto} (hR : ∀ v σ', R v σ' → R' v σ') (h : kret rs R e env σ) : kret rs R' e env σ := by
  unfold kret at h ⊢
  cases e with
  | normal =>
    simp only at h ⊢
    split at h
    · exact ⟨h.1, hR _ _ h.2⟩
    · exact h.elim
  | ret =>
    simp only at h ⊢
    split at h
    · exact ⟨h.1, hR _ _ h.2⟩
    · exact h.elim
  | _ => exact h

theorem Added.row {σ σ' : Sto} {f e : Nat} {o : Ob} {rest : List AV} {s r : List Sp} (h : Added σ f e o rest s r σ') (hf : σ.at f 0 = some o) (t : List Sp) (ht : Norm t) (hm : ∀ v, Mem v t ↔ Mem v s ∨ Mem v r) :
    σ'.at f 0 = some (setIn o e (σ.length + 1) t.length rest) ∧ okR σ' (t, some (σ.length + 1)) ∧ (∀ i j, i < σ.length → i ≠ f → σ'.at i j = σ.at i j) ∧ σ.length ≤ σ'.length := by
  obtain ⟨l', ν, rfl, h1, h2, h3, h4, h5⟩ := h
  have hfl := at_lt hf
  obtain rfl : l' = t := Norm.ext h2 ht fun v => by rw [h3, hm]
  refine ⟨?_, h1, fun i j hi hne => ?_, by rw [List.length_append, upd_len]; omega⟩
  · rw [at_appL (by rw [upd_len]; exact hfl)]; exact at_upd_same hf
  · rw [at_appL (by rw [upd_len]; exact hi)]; exact at_upd_other (.inl (fun h => hne h.symm))

/-- A cell of a set: nothing yet, or spans that can be read. -/
def RowR (σ : Sto) (c : AV) (s : List Sp) : Prop := (c = .v (.slice none 0 0) ∧ s = []) ∨ ∃ q, c = avR q ∧ q.1 = s ∧ okR σ q

theorem add_any (σ : Sto) (f N e : Nat) (o : Ob) (c : AV) (rest : List AV) (s : List Sp) (r : List Sp × Option Nat) (hf : σ.at f 0 = some o) (hN : o.es.length = N) (he : e < N) (hk : o.k = rest.length + 1) (hrow : o.es.getD e [] = c :: rest) (hlp : o.lp = none)
    (hc : RowR σ c s) (hr : okR σ r) (hne : ∀ u ∈ s ++ r.1, u.lo ≤ u.hi ∧ -1000000 ≤ u.lo ∧ u.hi ≤ 1000000) (hlen : s.length + r.1.length < 1000000000) (t : List Sp) (ht : Norm t) (hm : ∀ v, Mem v t ↔ Mem v s ∨ Mem v r.1) :
    Does Try.prog 104 [.ptr f 0 N e 0, avR r] σ (fun _ σ' => ∃ G, σ.length ≤ G ∧ σ'.at f 0 = some (setIn o e G t.length rest) ∧ okR σ' (t, some G) ∧ (∀ i j, i < σ.length → i ≠ f → σ'.at i j = σ.at i j) ∧ σ.length ≤ σ'.length) := by
  have hfl := at_lt hf
  refine Does.of_body Try.call104 Try.func104 k104 (Nat.le_of_ble_eq_true rfl) ?_
  rcases hc with ⟨rfl, rfl⟩ | ⟨q, rfl, rfl, hq⟩
  · have hgs : o.es.getD e [] = (o.es[e]'(by omega)) := by simp [List.getD_eq_getElem?_getD, show e < o.es.length by omega]
    refine AWPC.own0c 23 2 (f := f) (i := 0) (e := e) (j := 0) hf (by omega) (by rw [hrow]; rfl) ?_
    have hst : Sto.upd (σ ++ [some [⟨23, 2, [], none⟩]]) f 0 { o with es := o.es.set e ((o.es.getD e []).set 0 (.own σ.length 0 0)) } = Sto.upd σ f 0 (setIn o e σ.length 0 rest) ++ [some [spO []]] := by
      rw [upd_appL hfl, hrow]; rfl
    rw [hst]
    have hf2 : Sto.at (Sto.upd σ f 0 (setIn o e σ.length 0 rest) ++ [some [spO []]]) f 0 = some (setIn o e σ.length 0 rest) := by
      rw [at_appL (by rw [upd_len]; exact hfl)]; exact at_upd_same hf
    have hg2 : Sto.at (Sto.upd σ f 0 (setIn o e σ.length 0 rest) ++ [some [spO []]]) σ.length 0 = some (spO []) := by
      have := at_app0 (Sto.upd σ f 0 (setIn o e σ.length 0 rest)) [some [spO []]] 0
      rw [upd_len] at this; rw [this]; rfl
    have hl2 : List.length (Sto.upd σ f 0 (setIn o e σ.length 0 rest) ++ [some [spO []]]) = σ.length + 1 := by rw [List.length_append, upd_len]; rfl
    have hfar : ∀ i j, i < σ.length → i ≠ f → Sto.at (Sto.upd σ f 0 (setIn o e σ.length 0 rest) ++ [some [spO []]]) i j = σ.at i j := fun i j hi hne => by
      rw [at_appL (by rw [upd_len]; exact hi)]; exact at_upd_other (.inl (fun h => hne h.symm))
    have hr2 : okR (Sto.upd σ f 0 (setIn o e σ.length 0 rest) ++ [some [spO []]]) r := by
      obtain ⟨l, g⟩ := r
      cases g with
      | none => trivial
      | some g =>
        simp only [okR] at hr ⊢
        rw [hfar g 0 (at_lt hr) (by
          rintro rfl
          rw [hf] at hr; injection hr with hr
          subst hr
          have hel : e < (spO l).es.length := by omega
          have hex : e < l.length := by simpa [spO] using hel
          rw [show (spO l).es = l.map Sp.cs from rfl, getD_map (List.getElem?_eq_getElem hex)] at hrow
          cases hrow)]
        exact hr
    generalize Sto.upd σ f 0 (setIn o e σ.length 0 rest) ++ [some [spO []]] = σ2 at *
    refine AWPC.mono (fun ex env τ h => ?_) (add_awpc σ2 f N e (setIn o e σ.length 0 rest) rest ([], some σ.length) r hf2 (by simp [hN]) he hk (by simp [List.getD_eq_getElem?_getD, show e < o.es.length by omega, avR]) hlp hg2 hr2 hne hlen)
    refine kret_mono (fun v σ' h => ?_) h
    have hrw := Added.row h hf2 t ht hm
    refine ⟨σ2.length + 1, by omega, ?_, hrw.2.1, fun i j hi hne => by rw [hrw.2.2.1 i j (by omega) hne, hfar i j hi hne], by omega⟩
    rw [hrw.1]; simp [setIn]
  · refine AWPC.mono (fun ex env τ h => ?_) (add_awpc σ f N e o rest q r hf hN he hk hrow hlp hq hr hne hlen)
    refine kret_mono (fun v σ' h => ?_) h
    have hrw := Added.row h hf t ht hm
    exact ⟨σ.length + 1, by omega, hrw.1, hrw.2.1, hrw.2.2.1, hrw.2.2.2⟩

/-- The set that `meet` gathers. -/
def MS (L : List Sp) (σ : Sto) : Prop := ∃ q : List Sp × Option Nat, q.1 = L ∧ σ.at 0 0 = some ⟨90, 1, [[avR q]], none⟩ ∧ okR σ q

theorem meet_spec (a b : List Sp) (ha : ∀ x ∈ a, -1000000 ≤ x.lo ∧ x.hi ≤ 1000000) (hal : a.length ≤ 10000) (hbl : b.length ≤ 10000) : Pure Try.prog 108 [spS a, spS b] (spS (meet a b)) := by
  refine Pure.of_body Try.call108 Try.func108 k108 (Nat.le_of_ble_eq_true rfl) ?_
  have hmul : a.length * b.length ≤ 100000000 := Nat.le_trans (Nat.mul_le_mul hal hbl) (by decide)
  unfold c108
  (repeat' first
 | (refine AWPC.of_vcn rfl ?_; simp only [zT, zV, zS, zU, vcC, lateX, ex, strp, cnd, binA, kseq, kblk, kret, klp, Abs.one, elems, cells, scalar, eqC, Nat.reduceBEq, Nat.reduceAdd, Nat.reduceSub, Nat.reduceLT, Nat.reduceLeDiff, Nat.reduceMul, Nat.reduceEqDiff, cond_true, cond_false, if_true, if_false, reduceIte, implies_true, forall_const, ne_eq])
 | (simp (disch := omega) only [wr64, Int.zero_sub]; try simp only [zT, zV, zS, zU, vcC, lateX, ex, strp, cnd, binA, kseq, kblk, kret, klp, Abs.one, elems, cells, scalar, eqC, Nat.reduceBEq, Nat.reduceAdd, Nat.reduceSub, Nat.reduceLT, Nat.reduceLeDiff, Nat.reduceMul, Nat.reduceEqDiff, cond_true, cond_false, if_true, if_false, reduceIte, implies_true, forall_const, ne_eq])
 | (refine AWPC.both (fun _ => ?_) (fun _ => ?_))
 | (refine AWPC.imp (fun _ => ?_))
 | ((refine .inl ⟨_, _, _, .any, rfl, fun h => absurd h Bool.false_ne_true, ?_⟩); refine owp_of_exs ?_; simp only [zT, zV, zS, zU, vcC, lateX, ex, strp, cnd, binA, kseq, kblk, kret, klp, Abs.one, elems, cells, scalar, eqC, Nat.reduceBEq, Nat.reduceAdd, Nat.reduceSub, Nat.reduceLT, Nat.reduceLeDiff, Nat.reduceMul, Nat.reduceEqDiff, cond_true, cond_false, if_true, if_false, reduceIte, implies_true, forall_const, ne_eq])
 | (refine ⟨by omega, ?_⟩)
 | (refine And.intro (by (intros; first | (simp_all (config := { decide := false }); done) | fail)) ?_)
 | fail)
  refine AWPC.own0c 23 2 (f := 0) (i := 0) (e := 0) (j := 0) rfl (by simp) rfl ?_
  refine AWPC.loopE (α := { p : Nat × Sto // p.1 ≤ a.length ∧ MS (meet (a.take p.1) b) p.2 }) [13] (fun p => [(13, n p.1.1)]) (fun p => p.1.2) (fun p => a.length - p.1.1) ⟨(0, [some [⟨90, 1, [[.own 1 0 0]], none⟩], some [⟨23, 2, [], none⟩]]), Nat.zero_le _, ⟨([], some 1), rfl, rfl, rfl⟩⟩ ?_ rfl ?_
  · (simp only [zT, zV, zS, zU, vcC, lateX, ex, strp, cnd, binA, kseq, kblk, kret, klp, Abs.one, elems, cells, scalar, eqC, Nat.reduceBEq, Nat.reduceAdd, Nat.reduceSub, Nat.reduceLT, Nat.reduceLeDiff, Nat.reduceMul, Nat.reduceEqDiff, cond_true, cond_false, if_true, if_false, reduceIte, implies_true, forall_const, ne_eq]; try simp)
  rintro ⟨⟨i, σ⟩, hi, q, hqL, hq0, hq⟩
  simp only at hi hqL hq0 hq
  simp only
  have hok := meet_take_ok (b := b) i ha
  have h0S := at_lt hq0
  by_cases hlt : i < a.length
  · obtain ⟨s, hs⟩ : ∃ r, a[i]? = some r := ⟨_, List.getElem?_eq_getElem hlt⟩
    have hsb := ha s (List.mem_of_getElem? hs)
    have hnx := meet_next (b := b) hs
    have hsg : (a.map Sp.cs).getD i [] = s.cs := by simp [List.getD_eq_getElem?_getD, hs]
    (repeat' first
 | (refine AWPC.of_vcn rfl ?_; simp only [zT, zV, zS, zU, vcC, lateX, ex, strp, cnd, binA, kseq, kblk, kret, klp, Abs.one, elems, cells, scalar, eqC, Nat.reduceBEq, Nat.reduceAdd, Nat.reduceSub, Nat.reduceLT, Nat.reduceLeDiff, Nat.reduceMul, Nat.reduceEqDiff, cond_true, cond_false, if_true, if_false, reduceIte, implies_true, forall_const, ne_eq, hsg])
 | (simp (disch := omega) only [wr64, Int.zero_sub]; try simp only [zT, zV, zS, zU, vcC, lateX, ex, strp, cnd, binA, kseq, kblk, kret, klp, Abs.one, elems, cells, scalar, eqC, Nat.reduceBEq, Nat.reduceAdd, Nat.reduceSub, Nat.reduceLT, Nat.reduceLeDiff, Nat.reduceMul, Nat.reduceEqDiff, cond_true, cond_false, if_true, if_false, reduceIte, implies_true, forall_const, ne_eq, hsg])
 | (refine AWPC.both (fun _ => ?_) (fun _ => ?_))
 | (refine AWPC.imp (fun _ => ?_))
 | ((refine .inl ⟨_, _, _, .any, rfl, fun h => absurd h Bool.false_ne_true, ?_⟩); refine owp_of_exs ?_; simp only [zT, zV, zS, zU, vcC, lateX, ex, strp, cnd, binA, kseq, kblk, kret, klp, Abs.one, elems, cells, scalar, eqC, Nat.reduceBEq, Nat.reduceAdd, Nat.reduceSub, Nat.reduceLT, Nat.reduceLeDiff, Nat.reduceMul, Nat.reduceEqDiff, cond_true, cond_false, if_true, if_false, reduceIte, implies_true, forall_const, ne_eq, hsg])
 | (refine ⟨by omega, ?_⟩)
 | (refine And.intro (by (intros; first | (simp_all (config := { decide := false }); done) | fail)) ?_)
 | fail)
    all_goals try (exfalso; omega)
    refine AWPC.loopE (α := { p : Nat × Sto // p.1 ≤ b.length ∧ MS (joins (meet (a.take i) b) ((caps s b).take p.1)) p.2 ∧ p.2.at σ.length 0 = some ⟨23, 2, [s.cs], none⟩ }) [19] (fun p => [(19, n p.1.1)]) (fun p => p.1.2) (fun p => b.length - p.1.1)
      ⟨(0, σ ++ [some [⟨23, 2, [s.cs], none⟩]]), Nat.zero_le _, ⟨q, by rw [hqL]; rfl, by rw [at_appL h0S]; exact hq0, okR_app hq⟩, by simp [Sto.at]⟩ ?_ ?_ ?_
    · (simp only [zT, zV, zS, zU, vcC, lateX, ex, strp, cnd, binA, kseq, kblk, kret, klp, Abs.one, elems, cells, scalar, eqC, Nat.reduceBEq, Nat.reduceAdd, Nat.reduceSub, Nat.reduceLT, Nat.reduceLeDiff, Nat.reduceMul, Nat.reduceEqDiff, cond_true, cond_false, if_true, if_false, reduceIte, implies_true, forall_const, ne_eq]; try simp)
    · rfl
    rintro ⟨⟨j, τ⟩, hj, ⟨q2, hqL2, hq02, hq2⟩, hB⟩
    simp only at hj hqL2 hq02 hq2 hB
    simp only
    have hok2 := joins_ok (b := (caps s b).take j) (fun x hx => caps_bd (b := b) hsb x (List.mem_of_mem_take hx)) hok
    have hl2 : ((caps s b).take j).length ≤ b.length := by have := List.length_take_le' j (caps s b); simpa [caps] using this
    have hl3 := hok2.len
    have h0T := at_lt hq02
    have hBT := at_lt hB
    by_cases hlt2 : j < b.length
    · obtain ⟨t, ht⟩ : ∃ r, b[j]? = some r := ⟨_, List.getElem?_eq_getElem hlt2⟩
      have htg : (b.map Sp.cs).getD j [] = t.cs := by simp [List.getD_eq_getElem?_getD, ht]
      have hct : (caps s b)[j]? = some (s.cap t) := by simp [caps, ht]
      have hn2 := joins_next (l := meet (a.take i) b) hct
      rw [← hqL2] at hok2 hl3 hn2
      generalize hbox : ([some [⟨23, 2, [t.cs], none⟩], some [⟨23, 2, [(s.cap t).cs], none⟩]] : Sto) = bx
      have hadd : s.lo ≤ t.hi → t.lo ≤ s.hi → (s.cap t).lo ≤ (s.cap t).hi → Does Try.prog 104 [.ptr 0 0 1 0 0, avR ([s.cap t], none)] (τ ++ bx) (fun _ σ' => Added (τ ++ bx) 0 0 ⟨90, 1, [[avR q2]], none⟩ [] q2.1 [s.cap t] σ') := fun _ _ hc =>
        add_does (τ ++ bx) 0 1 0 ⟨90, 1, [[avR q2]], none⟩ [] q2 ([s.cap t], none) (by rw [at_appL h0T]; exact hq02) rfl (by omega) rfl rfl rfl (okR_app hq2) trivial (fun u hu => by
          rcases List.mem_append.1 hu with hu | hu
          · exact ⟨hok2.nm.ne u hu, hok2.bd u hu⟩
          · obtain rfl : u = s.cap t := by simpa using hu
            simp only [Sp.cap] at hc ⊢; omega) (by simp only [List.length_cons, List.length_nil]; omega)
      subst hbox
      (repeat' first
 | (refine AWPC.of_vcn rfl ?_; simp only [zT, zV, zS, zU, vcC, lateX, ex, strp, cnd, binA, kseq, kblk, kret, klp, Abs.one, elems, cells, scalar, eqC, Nat.reduceBEq, Nat.reduceAdd, Nat.reduceSub, Nat.reduceLT, Nat.reduceLeDiff, Nat.reduceMul, Nat.reduceEqDiff, cond_true, cond_false, if_true, if_false, reduceIte, implies_true, forall_const, ne_eq, htg, hB, at_appL hBT, at_appL h0T, hq02])
 | (simp (disch := omega) only [wr64, Int.zero_sub]; try simp only [zT, zV, zS, zU, vcC, lateX, ex, strp, cnd, binA, kseq, kblk, kret, klp, Abs.one, elems, cells, scalar, eqC, Nat.reduceBEq, Nat.reduceAdd, Nat.reduceSub, Nat.reduceLT, Nat.reduceLeDiff, Nat.reduceMul, Nat.reduceEqDiff, cond_true, cond_false, if_true, if_false, reduceIte, implies_true, forall_const, ne_eq, htg, hB, at_appL hBT, at_appL h0T, hq02])
 | (refine AWPC.both (fun _ => ?_) (fun _ => ?_))
 | (refine AWPC.imp (fun _ => ?_))
 | ((refine .inl ⟨_, _, _, .any, rfl, fun h => absurd h Bool.false_ne_true, ?_⟩); refine owp_of_exs ?_; simp only [zT, zV, zS, zU, vcC, lateX, ex, strp, cnd, binA, kseq, kblk, kret, klp, Abs.one, elems, cells, scalar, eqC, Nat.reduceBEq, Nat.reduceAdd, Nat.reduceSub, Nat.reduceLT, Nat.reduceLeDiff, Nat.reduceMul, Nat.reduceEqDiff, cond_true, cond_false, if_true, if_false, reduceIte, implies_true, forall_const, ne_eq, htg, hB, at_appL hBT, at_appL h0T, hq02])
 | (refine ⟨by omega, ?_⟩)
 | (refine And.intro (by (intros; first | (simp_all (config := { decide := false }); done) | fail)) ?_)
 | fail)
      all_goals try (exfalso; omega)
      · rename_i hc
        refine .inr (.inl ⟨_, _, _, _, rfl, fun _ => ⟨hadd (by omega) (by omega) hc, ?_⟩, fun h => by cases h⟩)
        rintro res σ' had
        have hrow := had.row (by rw [at_appL h0T]; exact hq02) (joinE q2.1 (s.cap t)) (joinE_norm hok2.nm) (fun v => by rw [joinE_mem hok2.nm, mem_cons]; simp [Mem.nil])
        refine owp_of_exs ?_
        simp only [zT, zV, zS, zU, vcC, lateX, ex, strp, cnd, binA, kseq, kblk, kret, klp, Abs.one, elems, cells, scalar, eqC, Nat.reduceBEq, Nat.reduceAdd, Nat.reduceSub, Nat.reduceLT, Nat.reduceLeDiff, Nat.reduceMul, Nat.reduceEqDiff, cond_true, cond_false, if_true, if_false, reduceIte, implies_true, forall_const, ne_eq]
        (repeat' first
 | (refine AWPC.of_vcn rfl ?_; simp only [zT, zV, zS, zU, vcC, lateX, ex, strp, cnd, binA, kseq, kblk, kret, klp, Abs.one, elems, cells, scalar, eqC, Nat.reduceBEq, Nat.reduceAdd, Nat.reduceSub, Nat.reduceLT, Nat.reduceLeDiff, Nat.reduceMul, Nat.reduceEqDiff, cond_true, cond_false, if_true, if_false, reduceIte, implies_true, forall_const, ne_eq])
 | (simp (disch := omega) only [wr64, Int.zero_sub]; try simp only [zT, zV, zS, zU, vcC, lateX, ex, strp, cnd, binA, kseq, kblk, kret, klp, Abs.one, elems, cells, scalar, eqC, Nat.reduceBEq, Nat.reduceAdd, Nat.reduceSub, Nat.reduceLT, Nat.reduceLeDiff, Nat.reduceMul, Nat.reduceEqDiff, cond_true, cond_false, if_true, if_false, reduceIte, implies_true, forall_const, ne_eq])
 | (refine AWPC.both (fun _ => ?_) (fun _ => ?_))
 | (refine AWPC.imp (fun _ => ?_))
 | ((refine .inl ⟨_, _, _, .any, rfl, fun h => absurd h Bool.false_ne_true, ?_⟩); refine owp_of_exs ?_; simp only [zT, zV, zS, zU, vcC, lateX, ex, strp, cnd, binA, kseq, kblk, kret, klp, Abs.one, elems, cells, scalar, eqC, Nat.reduceBEq, Nat.reduceAdd, Nat.reduceSub, Nat.reduceLT, Nat.reduceLeDiff, Nat.reduceMul, Nat.reduceEqDiff, cond_true, cond_false, if_true, if_false, reduceIte, implies_true, forall_const, ne_eq])
 | (refine ⟨by omega, ?_⟩)
 | (refine And.intro (by (intros; first | (simp_all (config := { decide := false }); done) | fail)) ?_)
 | fail)
        refine ⟨⟨(j + 1, σ'), hlt2, ⟨(_, some _), hn2.symm, hrow.1, hrow.2.1⟩, ?_⟩, by simp, rfl, by simp only; omega⟩
        rw [hrow.2.2.1 _ _ (by rw [List.length_append]; omega) (by omega), at_appL hBT]; exact hB
      · rename_i hc
        refine ⟨⟨(j + 1, _), hlt2, ⟨q2, ?_, by rw [at_appL h0T]; exact hq02, okR_app hq2⟩, by rw [at_appL hBT]; exact hB⟩, by simp, rfl, by simp only; omega⟩
        rw [hn2, joinE, if_pos (by simp only [Sp.cap]; omega)]
    · obtain rfl : j = b.length := by omega
      have e : (caps s b).take b.length = caps s b := List.take_of_length_le (by unfold caps; rw [List.length_map]; exact Nat.le_refl _)
      have hqn : q2.1 = meet (a.take (i + 1)) b := by rw [hqL2, e, hnx]
      (repeat' first
 | (refine AWPC.of_vcn rfl ?_; simp only [zT, zV, zS, zU, vcC, lateX, ex, strp, cnd, binA, kseq, kblk, kret, klp, Abs.one, elems, cells, scalar, eqC, Nat.reduceBEq, Nat.reduceAdd, Nat.reduceSub, Nat.reduceLT, Nat.reduceLeDiff, Nat.reduceMul, Nat.reduceEqDiff, cond_true, cond_false, if_true, if_false, reduceIte, implies_true, forall_const, ne_eq])
 | (simp (disch := omega) only [wr64, Int.zero_sub]; try simp only [zT, zV, zS, zU, vcC, lateX, ex, strp, cnd, binA, kseq, kblk, kret, klp, Abs.one, elems, cells, scalar, eqC, Nat.reduceBEq, Nat.reduceAdd, Nat.reduceSub, Nat.reduceLT, Nat.reduceLeDiff, Nat.reduceMul, Nat.reduceEqDiff, cond_true, cond_false, if_true, if_false, reduceIte, implies_true, forall_const, ne_eq])
 | (refine AWPC.both (fun _ => ?_) (fun _ => ?_))
 | (refine AWPC.imp (fun _ => ?_))
 | ((refine .inl ⟨_, _, _, .any, rfl, fun h => absurd h Bool.false_ne_true, ?_⟩); refine owp_of_exs ?_; simp only [zT, zV, zS, zU, vcC, lateX, ex, strp, cnd, binA, kseq, kblk, kret, klp, Abs.one, elems, cells, scalar, eqC, Nat.reduceBEq, Nat.reduceAdd, Nat.reduceSub, Nat.reduceLT, Nat.reduceLeDiff, Nat.reduceMul, Nat.reduceEqDiff, cond_true, cond_false, if_true, if_false, reduceIte, implies_true, forall_const, ne_eq])
 | (refine ⟨by omega, ?_⟩)
 | (refine And.intro (by (intros; first | (simp_all (config := { decide := false }); done) | fail)) ?_)
 | fail)
      all_goals try (exfalso; omega)
      exact ⟨⟨(i + 1, τ), hlt, q2, hqn, hq02, hq2⟩, by simp, rfl, by simp only; omega⟩
  · obtain rfl : i = a.length := by omega
    rw [List.take_length] at *
    obtain ⟨l, g⟩ := q
    simp only at hqL
    subst hqL
    cases g
    all_goals
      simp only [avR] at hq0 ⊢
      (repeat' first
 | (refine AWPC.of_vcn rfl ?_; simp only [zT, zV, zS, zU, vcC, lateX, ex, strp, cnd, binA, kseq, kblk, kret, klp, Abs.one, elems, cells, scalar, eqC, Nat.reduceBEq, Nat.reduceAdd, Nat.reduceSub, Nat.reduceLT, Nat.reduceLeDiff, Nat.reduceMul, Nat.reduceEqDiff, cond_true, cond_false, if_true, if_false, reduceIte, implies_true, forall_const, ne_eq, hq0])
 | (simp (disch := omega) only [wr64, Int.zero_sub]; try simp only [zT, zV, zS, zU, vcC, lateX, ex, strp, cnd, binA, kseq, kblk, kret, klp, Abs.one, elems, cells, scalar, eqC, Nat.reduceBEq, Nat.reduceAdd, Nat.reduceSub, Nat.reduceLT, Nat.reduceLeDiff, Nat.reduceMul, Nat.reduceEqDiff, cond_true, cond_false, if_true, if_false, reduceIte, implies_true, forall_const, ne_eq, hq0])
 | (refine AWPC.both (fun _ => ?_) (fun _ => ?_))
 | (refine AWPC.imp (fun _ => ?_))
 | ((refine .inl ⟨_, _, _, .any, rfl, fun h => absurd h Bool.false_ne_true, ?_⟩); refine owp_of_exs ?_; simp only [zT, zV, zS, zU, vcC, lateX, ex, strp, cnd, binA, kseq, kblk, kret, klp, Abs.one, elems, cells, scalar, eqC, Nat.reduceBEq, Nat.reduceAdd, Nat.reduceSub, Nat.reduceLT, Nat.reduceLeDiff, Nat.reduceMul, Nat.reduceEqDiff, cond_true, cond_false, if_true, if_false, reduceIte, implies_true, forall_const, ne_eq, hq0])
 | (refine ⟨by omega, ?_⟩)
 | (refine And.intro (by (intros; first | (simp_all (config := { decide := false }); done) | fail)) ?_)
 | fail)
      all_goals try (exfalso; omega)
    · exact Frz.eq rfl (by simp)
    · exact frz_sp' _ hq rfl
end Go.Proofs.Ytgpdckmbojmlpaa

namespace Go.Abs
set_option linter.unusedVariables false
set_option linter.unusedSimpArgs false

section
variable {w w0 : World} {X X0 X' : Nat → Prop} {β β0 : Blk} {σ σ0 σ1 ν : Sto}

/-- The objects before are blank. -/
def blank (m : Nat) (ν : Sto) : Sto := List.replicate m none ++ ν

theorem at_blank {m f i : Nat} {o : Ob} (h : Sto.at (blank m ν) f i = some o) : m ≤ f ∧ Sto.at ν (f - m) i = some o := by
  unfold blank Sto.at at h
  unfold Sto.at
  rcases Nat.lt_or_ge f m with hf | hf
  · rw [List.getElem?_append_left (by simpa using hf)] at h
    simp [List.getElem?_replicate, hf] at h
  · rw [List.getElem?_append_right (by simpa using hf)] at h
    simp only [List.length_replicate] at h
    exact ⟨hf, h⟩

theorem at_blank_app {f i : Nat} {o : Ob} (h : Sto.at (blank σ1.length ν) f i = some o) : Sto.at (σ1 ++ ν) f i = some o := by
  obtain ⟨hf, h⟩ := at_blank h
  unfold Sto.at at h ⊢
  rw [List.getElem?_append_right hf]; exact h

/-- A value, when objects are forgotten. -/
theorem RV.forget {v : AV} {x : Value} (h : RV w X β σ v x) (hX : ∀ b, X' b → X b) (hl : σ.length = σ1.length) (hs : ∀ f i o, σ1.at f i = some o → σ.at f i = some o) : RV w X' β σ1 v x := by
  induction h with
  | v x => exact .v x
  | any x => exact .any x
  | agg cs xs hn h1 _ ih => exact .agg cs xs hn h1 ih
  | tup cs xs hn _ ih => exact .tup cs xs hn ih
  | slnil k => exact .slnil k
  | slemp k a cap => exact .slemp k a cap
  | sl k es b o cap x hcap hk hc hXx h1 _ ih => exact .sl k es b o cap x hcap hk hc (fun e j he hj hb => hXx e j he hj (hX _ hb)) h1 ih
  | own f i n x h1 hf hle h => exact .own f i n x h1 (hl ▸ hf) (fun o ho => hle o (hs _ _ _ ho)) fun o ho => h o (hs _ _ _ ho)
  | ptr f i n e j x h1 hf hle h => exact .ptr f i n e j x h1 (hl ▸ hf) (fun o ho => hle o (hs _ _ _ ho)) fun o ho => h o (hs _ _ _ ho)
  | iptr cs j b o x hXx h1 hc _ ih => exact .iptr cs j b o x (fun t ht hb => hXx t ht (hX _ hb)) h1 hc ih
  | fn f first cap xs ys hn hm _ _ ih ih' => exact .fn f first cap xs ys hn hm ih ih'
  | yld f x h1 hf h => exact .yld f x h1 (hl ▸ hf) fun o ho => h o (hs _ _ _ ho)
  | ifc t a x _ ih => exact .ifc t a x ih
  | when c a x _ h' ih => exact .when c a x ih h'

/-- A value that was there before the new objects. -/
theorem RV.shrink {v : AV} {x : Value} (h : RV w X β (σ1 ++ ν) v x) (hX : ∀ b, X' b → X b) : ∀ {y : Value}, RV w0 X0 β0 σ0 v y → σ0.length = σ1.length → RV w X' β σ1 v x := by
  have at1 : ∀ f i, f < σ1.length → Sto.at (σ1 ++ ν) f i = Sto.at σ1 f i := fun f i hf => by unfold Sto.at; rw [List.getElem?_append_left hf]
  induction h with
  | v x => intro y hy hl; exact .v x
  | any x => intro y hy hl; exact .any x
  | agg cs xs hn h1 _ ih => intro y hy hl; cases hy with
    | agg _ ys hn' h1' hr => exact .agg cs xs hn h1 fun i hi => ih i hi (hr i hi) hl
  | tup cs xs hn _ ih => intro y hy hl; cases hy with
    | tup _ ys hn' hr => exact .tup cs xs hn fun i hi => ih i hi (hr i hi) hl
  | slnil k => intro y hy hl; exact .slnil k
  | slemp k a cap => intro y hy hl; exact .slemp k a cap
  | sl k es b o cap x hcap hk hc hXx h1 _ ih =>
    intro y hy hl
    refine .sl k es b o cap x hcap hk hc (fun e j he hj hb => hXx e j he hj (hX _ hb)) h1 fun e j he hj => ?_
    cases hy with
    | slnil => exact absurd he (Nat.not_lt_zero _)
    | slemp => exact absurd he (Nat.not_lt_zero _)
    | sl _ _ b' o' cap' x' hcap' hk' hc' hX' h1' hr => exact ih e j he hj (hr e j he hj) hl
  | own f i n x h1 hf hle h => intro y hy hl; cases hy with
    | own _ _ _ _ _ hf' => exact .own f i n x h1 (by omega) (fun o ho => hle o (by rw [at1 f i (by omega)]; exact ho)) fun o ho => h o (by rw [at1 f i (by omega)]; exact ho)
  | ptr f i n e j x h1 hf hle h => intro y hy hl; cases hy with
    | ptr _ _ _ _ _ _ _ hf' => exact .ptr f i n e j x h1 (by omega) (fun o ho => hle o (by rw [at1 f i (by omega)]; exact ho)) fun o ho => h o (by rw [at1 f i (by omega)]; exact ho)
  | iptr cs j b o x hXx h1 hc _ ih => intro y hy hl; cases hy with
    | iptr _ _ _ _ x' _ _ _ hr => exact .iptr cs j b o x (fun t ht hb => hXx t ht (hX _ hb)) h1 hc fun t ht => ih t ht (hr t ht) hl
  | fn f first cap xs ys hn hm _ _ ih ih' => intro y hy hl; cases hy with
    | fn _ _ _ xs' ys' hn' hm' hr hr' => exact .fn f first cap xs ys hn hm (fun i hi => ih i hi (hr i hi) hl) fun i hi => ih' i hi (hr' i hi) hl
  | yld f x h1 hf h => intro y hy hl; cases hy with
    | yld _ _ _ hf' => exact .yld f x h1 (by omega) fun o ho => h o (by rw [at1 f 0 (by omega)]; exact ho)
  | ifc t a x _ ih => intro y hy hl; cases hy with
    | ifc _ _ _ hr => exact .ifc t a x (ih hr hl)
  | when c a x _ h' ih => intro y hy hl; cases hy with
    | when _ _ _ hr _ => exact .when c a x (fun hc => ih hc (hr hc) hl) h'

theorem Xt_sub (b : Nat) (h : Xt X β σ1 b) : Xt X β (σ1 ++ ν) b := by
  rcases h with h | ⟨f, i, o, ho, hb⟩
  · exact .inl h
  · exact .inr ⟨f, i, o, by have := at_lt ho; unfold Sto.at at ho ⊢; rw [List.getElem?_append_left this]; exact ho, hb⟩

end

section
variable {P : Program}

/-- The callee's own objects are given away; those of the caller are as they were, or hold plain values. -/
theorem Does.frz {f : Nat} {args : List AV} {σ : Sto} {R : AV → Sto → Prop}
    (h : Does P f args σ (fun v σ' => ∃ (σ1 ν : Sto) (r : AV), σ' = σ1 ++ ν ∧ σ1.length = σ.length ∧ Frz (blank σ1.length ν) v r ∧ R r σ1 ∧
      ∀ g i o, σ1.at g i = some o → o.lp = none ∧ (σ.at g i = some o ∨ ∀ e j, e < o.es.length → j < o.k → PureV ((o.es.getD e []).getD j .any)))) : Does P f args σ R := by
  refine ⟨h.ent, fun X β w xs hX hs hxl hxr => (h.go X β w xs hX hs hxl hxr).mono ?_⟩
  rintro e w' ⟨x, v, σ', β', rfl, ⟨σ1, ν, r, rfl, hlen, hfr, hR, hob⟩, hs', hv, he, kp⟩
  have at1 : ∀ f i o, Sto.at σ1 f i = some o → Sto.at (σ1 ++ ν) f i = some o := fun f i o ho => by
    have := at_lt ho; unfold Sto.at at ho ⊢; rw [List.getElem?_append_left this]; exact ho
  have hsub : ∀ b, Xt X β' σ1 b → Xt X β' (σ1 ++ ν) b := fun b hb => Xt_sub b hb
  have hs1 : SRel w' X β' σ1 := by
    refine ⟨fun f i f' i' o o' b h1 h2 => hs'.inj f i f' i' o o' b (at1 _ _ _ h1) (at1 _ _ _ h2), fun f i o b h1 => hs'.dis f i o b (at1 _ _ _ h1), fun g i o h1 => ?_⟩
    have h2 := hs'.obj g i o (at1 _ _ _ h1)
    obtain ⟨hlp, hcase⟩ := hob g i o h1
    refine ⟨h2.1, ?_⟩
    have h3 := h2.2
    cases hb : β' g i with
    | none => rw [hb] at h3; exact h3
    | some b =>
      rw [hb] at h3
      refine ⟨fun hn => ?_, fun r hr => by rw [hlp] at hr; cases hr⟩
      obtain ⟨c, hc, hsz, hone, hr⟩ := h3.1 hn
      refine ⟨c, hc, hsz, hone, fun e j he hj => ?_⟩
      rcases hcase with hold | hpure
      · have h4 := hs.obj g i o hold
        have h5 := h4.2
        cases hb0 : β g i with
        | none => rw [hb0] at h5; rw [h5.1] at he; exact absurd he (Nat.not_lt_zero _)
        | some b0 =>
          rw [hb0] at h5
          obtain ⟨c0, _, _, _, hr0⟩ := h5.1 hn
          exact (hr e j he hj).shrink hsub (hr0 e j he hj) hlen.symm
      · have h6 := hpure e j he hj _ _ _ _ _ (hr e j he hj)
        exact (RV.forget (X' := Xt X β' σ1) h6 hsub rfl (fun _ _ _ h => h)).out
  have hs2 : SRel w' (Xt X β' σ1) β' (blank σ1.length ν) := by
    have hXX : ∀ b, Xt (Xt X β' σ1) β' (blank σ1.length ν) b → Xt X β' (σ1 ++ ν) b := by
      rintro b (hb | ⟨f, i, o, ho, hb⟩)
      · exact hsub b hb
      · exact .inr ⟨f, i, o, at_blank_app ho, hb⟩
    refine ⟨fun f i f' i' o o' b h1 h2 => hs'.inj f i f' i' o o' b (at_blank_app h1) (at_blank_app h2), fun f i o b h1 h2 hx => ?_, fun g i o h1 => ?_⟩
    · rcases hx with hx | ⟨f', i', o', ho', hb'⟩
      · exact hs'.dis f i o b (at_blank_app h1) h2 hx
      · have := hs'.inj f i f' i' o o' b (at_blank_app h1) (at1 _ _ _ ho') h2 hb'
        have h3 := (at_blank h1).1
        have := at_lt ho'
        omega
    · have h2 := hs'.obj g i o (at_blank_app h1)
      have hll : (σ1 ++ ν).length = (blank σ1.length ν).length := by unfold blank; simp
      refine ⟨h2.1, ?_⟩
      have h3 := h2.2
      cases hb : β' g i with
      | none => rw [hb] at h3; exact h3
      | some b =>
        rw [hb] at h3
        refine ⟨fun hn => ?_, fun r hr => ?_⟩
        · obtain ⟨c, hc, hsz, hone, hr⟩ := h3.1 hn
          exact ⟨c, hc, hsz, hone, fun e j he hj => (hr e j he hj).forget hXX hll fun _ _ _ => at_blank_app⟩
        · obtain ⟨e0, q, hq, a1, a2, a3, a4, a5, a6, a7⟩ := h3.2 r hr
          exact ⟨e0, q, hq, a1, a2, a3, a4, a5, a6, fun s => (a7 s).forget hXX hll fun _ _ _ => at_blank_app⟩
  have hv2 : RV w' (Xt (Xt X β' σ1) β' (blank σ1.length ν)) β' (blank σ1.length ν) v x := by
    refine hv.forget ?_ (by unfold blank; simp) fun _ _ _ => at_blank_app
    rintro b (hb | ⟨f, i, o, ho, hb⟩)
    · exact hsub b hb
    · exact .inr ⟨f, i, o, at_blank_app ho, hb⟩
  have hr := hfr w' (Xt X β' σ1) β' x hs2 hv2
  refine ⟨x, r, σ1, β', rfl, hR, hs1, hr.out, ⟨he.size, he.old, fun b ⟨f, i, o, ho, hb⟩ => he.new b ⟨f, i, o, at1 _ _ _ ho, hb⟩, he.io⟩, kp.size, kp.imm, fun b hb hx => kp.frb b hb (hsub b hx), by omega, fun g i o' hg ho => kp.obs g i o' hg (at1 _ _ _ ho)⟩

end
end Go.Abs

namespace Go.Proofs.Ytgpdckmbojmlpaa
open Go.Abs
set_option linter.unusedVariables false
set_option linter.unusedSimpArgs false
set_option maxHeartbeats 4000000
set_option maxRecDepth 100000
-- aneroid/aneroidref01.alike
def c115 : CF := ⟨20,
 (.seq (.ops [
 ⟨(some 2), .box false 56 1 (.t 0), none⟩,
 ⟨(some 3), .box false 56 1 (.t 1), none⟩,
 ⟨(some 4), .mv (.c (.int .i64 0)), none⟩] [2, 3])
 (.seq (.seq (.ops [
 ⟨(some 5), .load (some 1) (.t 2), none⟩,
 ⟨(some 6), .call (.f 55) [(.t 5)], none⟩,
 ⟨(some 7), .bin .neq (.t 6) (.c (.int .i64 0)), none⟩,
 ⟨(some 8), .mv (.t 7), none⟩,
 ⟨(some 9), .load (some 1) (.t 3), (some (8, false))⟩,
 ⟨(some 10), .call (.f 55) [(.t 9)], (some (8, false))⟩,
 ⟨(some 11), .bin .neq (.t 10) (.c (.int .i64 0)), (some (8, false))⟩,
 ⟨(some 12), .pick (.t 8) (.c (.bool true)) (.t 11), none⟩] [2, 3, 12])
 (.cond (.t 12) (.seq (.ops [
 ⟨(some 4), .mv (.c (.int .i64 12)), none⟩] [4])
 .ret)
 .skip))
 (.seq (.seq (.ops [
 ⟨(some 13), .faddr 0 (.t 2), none⟩,
 ⟨(some 14), .load none (.t 13), none⟩,
 ⟨(some 15), .len (.t 14), none⟩,
 ⟨(some 16), .faddr 0 (.t 3), none⟩,
 ⟨(some 17), .load none (.t 16), none⟩,
 ⟨(some 18), .len (.t 17), none⟩,
 ⟨(some 19), .bin .neq (.t 15) (.t 18), none⟩] [19])
 (.cond (.t 19) (.seq (.ops [
 ⟨(some 4), .mv (.c (.int .i64 1)), none⟩] [4])
 .ret)
 .skip))
 (.seq (.ops [
 ⟨(some 4), .mv (.c (.int .i64 0)), none⟩] [4])
 .ret)))),
 [.t 4]⟩
-- aneroid/aneroidref01.limited
def c117 : CF := ⟨20,
 (.seq (.ops [
 ⟨(some 2), .alloc 56 1 [.slice none 0 0], none⟩,
 ⟨(some 3), .mv (.c (.int .i64 0)), none⟩] [0, 2])
 (.seq (.seq (.ops [
 ⟨(some 4), .mv (.c (.int .i64 0)), none⟩] [0, 2, 4])
 (.block 0 (.loop (.seq (.seq (.ops [
 ⟨(some 5), .mv (.t 4), none⟩,
 ⟨(some 6), .mv (.t 0), none⟩,
 ⟨(some 7), .len (.t 6), none⟩,
 ⟨(some 8), .bin .lss (.t 5) (.t 7), none⟩] [0, 2, 4, 8])
 (.cond (.t 8) .skip
 (.exit 0)))
 (.seq (.block 1 (.seq (.ops [
 ⟨(some 11), .mv (.t 0), none⟩,
 ⟨(some 12), .mv (.t 4), none⟩,
 ⟨(some 13), .iaddr 1 (.t 11) (.t 12), none⟩,
 ⟨(some 14), .load none (.t 13), none⟩,
 ⟨(some 15), .len (.t 14), none⟩,
 ⟨(some 16), .bin .gtr (.t 15) (.c (.int .i64 8)), none⟩] [0, 2, 4, 16])
 (.cond (.t 16) (.seq (.ops [
 ⟨(some 17), .build [.slice none 0 0] [], none⟩,
 ⟨none, .store 1 (.t 2) (.t 17), none⟩,
 ⟨(some 3), .mv (.c (.int .i64 2)), none⟩] [2, 3])
 .ret)
 .skip)))
 (.ops [
 ⟨(some 9), .mv (.t 4), none⟩,
 ⟨(some 10), .bin .add (.t 9) (.c (.int .i64 1)), none⟩,
 ⟨(some 4), .mv (.t 10), none⟩] [0, 2, 4]))))))
 (.seq (.ops [
 ⟨(some 18), .mv (.t 0), none⟩,
 ⟨(some 19), .build [.slice none 0 0] [(0, 1, (.t 18))], none⟩,
 ⟨none, .store 1 (.t 2) (.t 19), none⟩,
 ⟨(some 3), .mv (.c (.int .i64 0)), none⟩] [2, 3])
 .ret))),
 [.c 2 (some 1), .t 3]⟩
-- aneroid/aneroidref01.SameSets
def c59 : CF := ⟨27,
 (.seq (.ops [
 ⟨(some 4), .mv (.c (.bool false)), none⟩] [0, 1])
 (.seq (.seq (.ops [
 ⟨(some 6), .mv (.t 0), none⟩,
 ⟨(some 7), .len (.t 6), none⟩,
 ⟨(some 8), .mv (.t 1), none⟩,
 ⟨(some 9), .len (.t 8), none⟩,
 ⟨(some 10), .bin .neq (.t 7) (.t 9), none⟩] [0, 1, 10])
 (.cond (.t 10) (.seq (.ops [
 ⟨(some 4), .mv (.c (.bool false)), none⟩] [4])
 .ret)
 .skip))
 (.seq (.seq (.ops [
 ⟨(some 5), .mv (.c (.int .i64 0)), none⟩] [0, 1, 5])
 (.block 0 (.loop (.seq (.seq (.ops [
 ⟨(some 11), .mv (.t 5), none⟩,
 ⟨(some 12), .mv (.t 0), none⟩,
 ⟨(some 13), .len (.t 12), none⟩,
 ⟨(some 14), .bin .lss (.t 11) (.t 13), none⟩] [0, 1, 5, 14])
 (.cond (.t 14) .skip
 (.exit 0)))
 (.seq (.block 1 (.seq (.draw [
 ⟨(some 17), .mv (.t 0), none⟩,
 ⟨(some 18), .mv (.t 5), none⟩,
 ⟨(some 19), .iaddr 1 (.t 17) (.t 18), none⟩,
 ⟨(some 20), .load none (.t 19), none⟩,
 ⟨(some 21), .mv (.t 1), none⟩,
 ⟨(some 22), .mv (.t 5), none⟩,
 ⟨(some 23), .iaddr 1 (.t 21) (.t 22), none⟩,
 ⟨(some 24), .load none (.t 23), none⟩,
 ⟨(some 25), .call (.f 33) [(.t 20), (.t 24)], none⟩,
 ⟨(some 26), .un .not (.t 25), none⟩] [
 ] [0, 1, 5, 26])
 (.cond (.t 26) (.seq (.ops [
 ⟨(some 4), .mv (.c (.bool false)), none⟩] [4])
 .ret)
 .skip)))
 (.ops [
 ⟨(some 15), .mv (.t 5), none⟩,
 ⟨(some 16), .bin .add (.t 15) (.c (.int .i64 1)), none⟩,
 ⟨(some 5), .mv (.t 16), none⟩] [0, 1, 5]))))))
 (.seq (.ops [
 ⟨(some 4), .mv (.c (.bool true)), none⟩] [4])
 .ret)))),
 [.t 4]⟩
-- slices.Index[[]bool,bool]
def c129 : CF := ⟨19,
 (.seq (.ops [
 ⟨(some 4), .mv (.c (.int .i64 0)), none⟩] [0, 1])
 (.seq (.seq (.ops [
 ⟨(some 6), .mv (.t 0), none⟩,
 ⟨(some 7), .len (.t 6), none⟩,
 ⟨(some 8), .mv (.c (.int .i64 0)), none⟩] [0, 1, 7, 8])
 (.block 0 (.loop (.seq (.ops [
 ⟨(some 9), .bin .lss (.t 8) (.t 7), none⟩] [0, 1, 7, 8, 9])
 (.seq (.cond (.t 9) .skip
 (.exit 0))
 (.seq (.block 1 (.seq (.ops [
 ⟨(some 10), .mv (.t 8), none⟩,
 ⟨(some 5), .mv (.t 10), none⟩] [0, 1, 5, 7, 8])
 (.seq (.ops [
 ⟨(some 11), .mv (.t 1), none⟩,
 ⟨(some 12), .mv (.t 0), none⟩,
 ⟨(some 13), .mv (.t 5), none⟩,
 ⟨(some 14), .iaddr 1 (.t 12) (.t 13), none⟩,
 ⟨(some 15), .load none (.t 14), none⟩,
 ⟨(some 16), .eqb false (.t 11) (.t 15), none⟩] [0, 1, 5, 7, 8, 16])
 (.cond (.t 16) (.seq (.ops [
 ⟨(some 17), .mv (.t 5), none⟩,
 ⟨(some 4), .mv (.t 17), none⟩] [4])
 .ret)
 .skip))))
 (.ops [
 ⟨(some 18), .bin .add (.t 8) (.c (.int .i64 1)), none⟩,
 ⟨(some 8), .mv (.t 18), none⟩] [0, 1, 7, 8])))))))
 (.seq (.ops [
 ⟨(some 4), .mv (.c (.int .i64 (-1))), none⟩] [4])
 .ret))),
 [.t 4]⟩
-- slices.Contains[[]bool,bool]
def c110 : CF := ⟨9,
 (.seq (.ops [
 ⟨(some 4), .mv (.c (.bool false)), none⟩] [0, 1])
 (.seq (.ops [
 ⟨(some 5), .mv (.t 0), none⟩,
 ⟨(some 6), .mv (.t 1), none⟩,
 ⟨(some 7), .call (.f 129) [(.t 5), (.t 6)], none⟩,
 ⟨(some 8), .bin .geq (.t 7) (.c (.int .i64 0)), none⟩,
 ⟨(some 4), .mv (.t 8), none⟩] [4])
 .ret)),
 [.t 4]⟩
-- aneroid/paper.limited$1
def c130 : CF := ⟨6,
 (.seq (.ops [
 ⟨(some 2), .mv (.c (.bool false)), none⟩] [0])
 (.seq (.ops [
 ⟨(some 3), .mv (.t 0), none⟩,
 ⟨(some 4), .len (.t 3), none⟩,
 ⟨(some 5), .bin .gtr (.t 4) (.c (.int .i64 8)), none⟩,
 ⟨(some 2), .mv (.t 5), none⟩] [2])
 .ret)),
 [.t 2]⟩
-- aneroid/paper.limited
def c111 : CF := ⟨16,
 (.seq (.ops [
 ⟨(some 4), .alloc 56 1 [.slice none 0 0], none⟩,
 ⟨(some 5), .mv (.c (.int .i64 0)), none⟩] [0, 1, 4])
 (.seq (.seq (.ops [
 ⟨(some 6), .mv (.t 1), none⟩,
 ⟨(some 7), .bin .eql (.t 6) (.c (.int .i64 0)), none⟩,
 ⟨(some 8), .mv (.t 7), none⟩,
 ⟨(some 9), .mv (.t 0), (some (8, true))⟩,
 ⟨(some 10), .call (.f 100) [(.t 9), (.f 130)], (some (8, true))⟩,
 ⟨(some 11), .pick (.t 8) (.t 10) (.c (.bool false)), none⟩] [0, 1, 4, 11])
 (.cond (.t 11) (.seq (.ops [
 ⟨(some 12), .build [.slice none 0 0] [], none⟩,
 ⟨none, .store 1 (.t 4) (.t 12), none⟩,
 ⟨(some 5), .mv (.c (.int .i64 2)), none⟩] [4, 5])
 .ret)
 .skip))
 (.seq (.ops [
 ⟨(some 13), .mv (.t 0), none⟩,
 ⟨(some 14), .build [.slice none 0 0] [(0, 1, (.t 13))], none⟩,
 ⟨(some 15), .mv (.t 1), none⟩,
 ⟨none, .store 1 (.t 4) (.t 14), none⟩,
 ⟨(some 5), .mv (.t 15), none⟩] [4, 5])
 .ret))),
 [.c 4 (some 1), .t 5]⟩
-- aneroid/paper.Within$1
def c106 : CF := ⟨20,
 (.seq (.ops [
 ⟨(some 4), .mv (.c (.bool false)), none⟩] [0, 1])
 (.seq (.ops [
 ⟨(some 5), .mv (.t 1), none⟩,
 ⟨(some 6), .len (.t 5), none⟩,
 ⟨(some 7), .bin .eql (.t 6) (.c (.int .i64 0)), none⟩,
 ⟨(some 8), .mv (.t 7), none⟩,
 ⟨(some 9), .mv (.t 0), (some (8, false))⟩,
 ⟨(some 10), .len (.t 9), (some (8, false))⟩,
 ⟨(some 11), .bin .gtr (.t 10) (.c (.int .i64 0)), (some (8, false))⟩,
 ⟨(some 12), .mv (.t 11), (some (8, false))⟩,
 ⟨(some 13), .mv (.t 0), (some (12, true))⟩,
 ⟨(some 14), .mv (.t 1), (some (12, true))⟩,
 ⟨(some 15), .call (.f 108) [(.t 13), (.t 14)], (some (12, true))⟩,
 ⟨(some 16), .mv (.t 0), (some (12, true))⟩,
 ⟨(some 17), .call (.f 107) [(.t 15), (.t 16)], (some (12, true))⟩,
 ⟨(some 18), .pick (.t 12) (.t 17) (.c (.bool false)), (some (8, false))⟩,
 ⟨(some 19), .pick (.t 8) (.c (.bool true)) (.t 18), none⟩,
 ⟨(some 4), .mv (.t 19), none⟩] [4])
 .ret)),
 [.t 4]⟩
theorem k115 : chkF Try.prog Try.f115 c115 = true := by kernel_rfl
theorem k117 : chkF Try.prog Try.f117 c117 = true := by kernel_rfl
theorem k59 : chkF Try.prog Try.f59 c59 = true := by kernel_rfl
theorem k129 : chkF Try.prog Try.f129 c129 = true := by kernel_rfl
theorem k110 : chkF Try.prog Try.f110 c110 = true := by kernel_rfl
theorem k130 : chkF Try.prog Try.f130 c130 = true := by kernel_rfl
theorem k111 : chkF Try.prog Try.f111 c111 = true := by kernel_rfl
theorem k106 : chkF Try.prog Try.f106 c106 = true := by kernel_rfl

/-- Why two inked sheets cannot be joined. -/
noncomputable def jerr (a b : List (List Sp)) : Int := if ierr a ≠ 0 ∨ ierr b ≠ 0 then 12 else if a.length ≠ b.length then 1 else 0

theorem jerr0 {a b : List (List Sp)} : jerr a b = 0 ↔ rightInk a ∧ rightInk b ∧ a.length = b.length := by
  unfold jerr
  by_cases h1 : ierr a = 0
  · by_cases h2 : ierr b = 0
    · by_cases h3 : a.length = b.length
      · simp [h1, h2, h3, ← ierr0]
      · simp [h1, h2, h3]
    · have : ¬ rightInk b := fun g => h2 (ierr0.2 g)
      simp [h2, this]
  · have : ¬ rightInk a := fun g => h1 (ierr0.2 g)
    simp [h1, this]

theorem alike_spec (a b : List (List Sp)) (ha : Lens a) (hb : Lens b) : Pure Try.prog 115 [ink a, ink b] (n (jerr a b)) := by
  refine Pure.of_body Try.call115 Try.func115 k115 (Nat.le_of_ble_eq_true rfl) ?_
  have h1 := rcheckInked_spec a ha
  have h2 := rcheckInked_spec b hb
  have ha1 := ha.1
  have hb1 := hb.1
  unfold c115 jerr
  (repeat' first
 | (refine AWPC.of_vcn rfl ?_; simp only [zT, zV, zS, zU, vcC, lateX, ex, strp, cnd, binA, kseq, kblk, kret, klp, Abs.one, elems, cells, scalar, eqC, Nat.reduceBEq, Nat.reduceAdd, Nat.reduceSub, Nat.reduceLT, Nat.reduceLeDiff, Nat.reduceMul, Nat.reduceEqDiff, cond_true, cond_false, if_true, if_false, reduceIte, implies_true, forall_const, ne_eq])
 | (simp (disch := omega) only [wr64, Int.zero_sub]; try simp only [zT, zV, zS, zU, vcC, lateX, ex, strp, cnd, binA, kseq, kblk, kret, klp, Abs.one, elems, cells, scalar, eqC, Nat.reduceBEq, Nat.reduceAdd, Nat.reduceSub, Nat.reduceLT, Nat.reduceLeDiff, Nat.reduceMul, Nat.reduceEqDiff, cond_true, cond_false, if_true, if_false, reduceIte, implies_true, forall_const, ne_eq])
 | (refine AWPC.both (fun _ => ?_) (fun _ => ?_))
 | (refine AWPC.imp (fun _ => ?_))
 | ((repeat (refine And.intro (by (intros; first | omega | (simp_all (config := { decide := false }); done) | fail)) ?_)); (first
 | (refine .inl ⟨_, _, _, _, rfl, fun _hc => ⟨by simp, h1⟩, ?_⟩)
 | (refine .inl ⟨_, _, _, _, rfl, fun _hc => ⟨by simp, h2⟩, ?_⟩)
 | (refine ⟨_, _, _, _, rfl, fun _hc => ⟨by simp, h1⟩, ?_⟩)
 | (refine ⟨_, _, _, _, rfl, fun _hc => ⟨by simp, h2⟩, ?_⟩)
 | fail); (first | refine owp_of_exs ?_ | refine pre_of_exd ?_ | refine pre_of_exe ?_ | fail); simp only [zT, zV, zS, zU, vcC, lateX, ex, strp, cnd, binA, kseq, kblk, kret, klp, Abs.one, elems, cells, scalar, eqC, Nat.reduceBEq, Nat.reduceAdd, Nat.reduceSub, Nat.reduceLT, Nat.reduceLeDiff, Nat.reduceMul, Nat.reduceEqDiff, cond_true, cond_false, if_true, if_false, reduceIte, implies_true, forall_const, ne_eq])
 | ((refine .inl ⟨_, _, _, .any, rfl, fun h => absurd h Bool.false_ne_true, ?_⟩); refine owp_of_exs ?_; simp only [zT, zV, zS, zU, vcC, lateX, ex, strp, cnd, binA, kseq, kblk, kret, klp, Abs.one, elems, cells, scalar, eqC, Nat.reduceBEq, Nat.reduceAdd, Nat.reduceSub, Nat.reduceLT, Nat.reduceLeDiff, Nat.reduceMul, Nat.reduceEqDiff, cond_true, cond_false, if_true, if_false, reduceIte, implies_true, forall_const, ne_eq])
 | (refine ⟨by omega, ?_⟩)
 | (refine And.intro (by (intros; first | (simp_all (config := { decide := false }); done) | fail)) ?_)
 | fail)
  · rename_i h
    exact Frz.eq (by rw [if_pos h]) (by simp)
  · rename_i h h'
    exact Frz.eq (by rw [if_neg h, if_pos (by omega)]) (by simp)
  · rename_i h h'
    exact Frz.eq (by rw [if_neg h, if_neg (by omega)]) (by simp)

/-- A sheet of sets whose columns are few enough. -/
abbrev many (x : List (List Sp)) : Bool := x.any fun l => decide (8 < l.length)
abbrev lim (x : List (List Sp)) : List (List Sp) × Int := bif many x then ([], 2) else (x, 0)

theorem over_spec (l : List Sp) (hl : l.length < 9223372036854775808) : Pure Try.prog 130 [spS l] (bl (decide (8 < l.length))) := by
  refine Pure.of_body Try.call130 Try.func130 k130 (Nat.le_of_ble_eq_true rfl) ?_
  unfold c130
  (repeat' first
 | (refine AWPC.of_vcn rfl ?_; simp only [zT, zV, zS, zU, vcC, lateX, ex, strp, cnd, binA, kseq, kblk, kret, klp, Abs.one, elems, cells, scalar, eqC, Nat.reduceBEq, Nat.reduceAdd, Nat.reduceSub, Nat.reduceLT, Nat.reduceLeDiff, Nat.reduceMul, Nat.reduceEqDiff, cond_true, cond_false, if_true, if_false, reduceIte, implies_true, forall_const, ne_eq])
 | (simp (disch := omega) only [wr64, Int.zero_sub]; try simp only [zT, zV, zS, zU, vcC, lateX, ex, strp, cnd, binA, kseq, kblk, kret, klp, Abs.one, elems, cells, scalar, eqC, Nat.reduceBEq, Nat.reduceAdd, Nat.reduceSub, Nat.reduceLT, Nat.reduceLeDiff, Nat.reduceMul, Nat.reduceEqDiff, cond_true, cond_false, if_true, if_false, reduceIte, implies_true, forall_const, ne_eq])
 | (refine AWPC.both (fun _ => ?_) (fun _ => ?_))
 | (refine AWPC.imp (fun _ => ?_))
 | ((refine .inl ⟨_, _, _, .any, rfl, fun h => absurd h Bool.false_ne_true, ?_⟩); refine owp_of_exs ?_; simp only [zT, zV, zS, zU, vcC, lateX, ex, strp, cnd, binA, kseq, kblk, kret, klp, Abs.one, elems, cells, scalar, eqC, Nat.reduceBEq, Nat.reduceAdd, Nat.reduceSub, Nat.reduceLT, Nat.reduceLeDiff, Nat.reduceMul, Nat.reduceEqDiff, cond_true, cond_false, if_true, if_false, reduceIte, implies_true, forall_const, ne_eq])
 | (refine ⟨by omega, ?_⟩)
 | (refine And.intro (by (intros; first | (simp_all (config := { decide := false }); done) | fail)) ?_)
 | fail)
  refine Frz.eq (congrArg bl ?_) (by simp)
  rw [decide_eq_decide]; omega

theorem frz_ink0 {σ : Sto} (e : Int) : Frz σ (.tup [.agg [.v (.slice none 0 0)], n e]) (.tup [ink [], n e]) := by
  refine Frz.tup rfl fun i hi => ?_
  match i, hi with
  | 0, _ => exact Frz.agg rfl fun i hi => (by match i, hi with | 0, _ => exact Frz.nil)
  | 1, _ => exact Frz.eq rfl (by simp)
theorem pureV_inkE (x : List (List Sp)) (e : Int) : PureV (.tup [ink x, n e]) := PureV.tup fun c hc => by
  simp only [List.mem_cons, List.not_mem_nil, or_false] at hc
  rcases hc with rfl | rfl
  · exact pureV_ink x
  · simp

theorem limited_spec (x : List (List Sp)) (e : Int) (hx : Lens x) : Pure Try.prog 111 [colS x, n e] (.tup [ink (if e = 0 then (lim x).1 else x), n (if e = 0 then (lim x).2 else e)]) := by
  refine Pure.of_body Try.call111 Try.func111 k111 (Nat.le_of_ble_eq_true rfl) ?_
  have hc := contains_spec 130 (fun l => decide (8 < l.length)) x hx.1 (fun l hl => over_spec l (hx.2 l hl))
  unfold c111
  (repeat' first
 | (refine AWPC.of_vcn rfl ?_; simp only [zT, zV, zS, zU, vcC, lateX, ex, strp, cnd, binA, kseq, kblk, kret, klp, Abs.one, elems, cells, scalar, eqC, Nat.reduceBEq, Nat.reduceAdd, Nat.reduceSub, Nat.reduceLT, Nat.reduceLeDiff, Nat.reduceMul, Nat.reduceEqDiff, cond_true, cond_false, if_true, if_false, reduceIte, implies_true, forall_const, ne_eq])
 | (simp (disch := omega) only [wr64, Int.zero_sub]; try simp only [zT, zV, zS, zU, vcC, lateX, ex, strp, cnd, binA, kseq, kblk, kret, klp, Abs.one, elems, cells, scalar, eqC, Nat.reduceBEq, Nat.reduceAdd, Nat.reduceSub, Nat.reduceLT, Nat.reduceLeDiff, Nat.reduceMul, Nat.reduceEqDiff, cond_true, cond_false, if_true, if_false, reduceIte, implies_true, forall_const, ne_eq])
 | (refine AWPC.both (fun _ => ?_) (fun _ => ?_))
 | (refine AWPC.imp (fun _ => ?_))
 | ((repeat (refine And.intro (by (intros; first | omega | (simp_all (config := { decide := false }); done) | fail)) ?_)); (first
 | (refine .inl ⟨_, _, _, _, rfl, fun _hc => ⟨by simp, hc⟩, ?_⟩)
 | (refine ⟨_, _, _, _, rfl, fun _hc => ⟨by simp, hc⟩, ?_⟩)
 | fail); (first | refine owp_of_exs ?_ | refine pre_of_exd ?_ | refine pre_of_exe ?_ | fail); simp only [zT, zV, zS, zU, vcC, lateX, ex, strp, cnd, binA, kseq, kblk, kret, klp, Abs.one, elems, cells, scalar, eqC, Nat.reduceBEq, Nat.reduceAdd, Nat.reduceSub, Nat.reduceLT, Nat.reduceLeDiff, Nat.reduceMul, Nat.reduceEqDiff, cond_true, cond_false, if_true, if_false, reduceIte, implies_true, forall_const, ne_eq])
 | ((refine .inl ⟨_, _, _, .any, rfl, fun h => absurd h Bool.false_ne_true, ?_⟩); refine owp_of_exs ?_; simp only [zT, zV, zS, zU, vcC, lateX, ex, strp, cnd, binA, kseq, kblk, kret, klp, Abs.one, elems, cells, scalar, eqC, Nat.reduceBEq, Nat.reduceAdd, Nat.reduceSub, Nat.reduceLT, Nat.reduceLeDiff, Nat.reduceMul, Nat.reduceEqDiff, cond_true, cond_false, if_true, if_false, reduceIte, implies_true, forall_const, ne_eq])
 | (refine ⟨by omega, ?_⟩)
 | (refine And.intro (by (intros; first | (simp_all (config := { decide := false }); done) | fail)) ?_)
 | fail)
  · rename_i h
    rw [Bool.and_eq_true, decide_eq_true_eq] at h
    have hm : many x = true := h.2
    simp only [h.1, lim, hm, cond_true, if_true]
    exact frz_ink0 2
  · rename_i h
    refine Frz.eq ?_ (pureV_inkE x e)
    by_cases he : e = 0
    · have hm : many x = false := by simpa [he] using h
      simp only [he, lim, hm, cond_false, if_true]
    · simp only [he, if_false]

theorem rlimited_spec (x : List (List Sp)) (hx : Lens x) : Pure Try.prog 117 [colS x] (.tup [ink (lim x).1, n (lim x).2]) := by
  refine Pure.of_body Try.call117 Try.func117 k117 (Nat.le_of_ble_eq_true rfl) ?_
  have hx1 := hx.1
  unfold c117
  (repeat' first
 | (refine AWPC.of_vcn rfl ?_; simp only [zT, zV, zS, zU, vcC, lateX, ex, strp, cnd, binA, kseq, kblk, kret, klp, Abs.one, elems, cells, scalar, eqC, Nat.reduceBEq, Nat.reduceAdd, Nat.reduceSub, Nat.reduceLT, Nat.reduceLeDiff, Nat.reduceMul, Nat.reduceEqDiff, cond_true, cond_false, if_true, if_false, reduceIte, implies_true, forall_const, ne_eq])
 | (simp (disch := omega) only [wr64, Int.zero_sub]; try simp only [zT, zV, zS, zU, vcC, lateX, ex, strp, cnd, binA, kseq, kblk, kret, klp, Abs.one, elems, cells, scalar, eqC, Nat.reduceBEq, Nat.reduceAdd, Nat.reduceSub, Nat.reduceLT, Nat.reduceLeDiff, Nat.reduceMul, Nat.reduceEqDiff, cond_true, cond_false, if_true, if_false, reduceIte, implies_true, forall_const, ne_eq])
 | (refine AWPC.both (fun _ => ?_) (fun _ => ?_))
 | (refine AWPC.imp (fun _ => ?_))
 | ((refine .inl ⟨_, _, _, .any, rfl, fun h => absurd h Bool.false_ne_true, ?_⟩); refine owp_of_exs ?_; simp only [zT, zV, zS, zU, vcC, lateX, ex, strp, cnd, binA, kseq, kblk, kret, klp, Abs.one, elems, cells, scalar, eqC, Nat.reduceBEq, Nat.reduceAdd, Nat.reduceSub, Nat.reduceLT, Nat.reduceLeDiff, Nat.reduceMul, Nat.reduceEqDiff, cond_true, cond_false, if_true, if_false, reduceIte, implies_true, forall_const, ne_eq])
 | (refine ⟨by omega, ?_⟩)
 | (refine And.intro (by (intros; first | (simp_all (config := { decide := false }); done) | fail)) ?_)
 | fail)
  refine AWPC.loopI 4 x.length (fun i => many (x.drop i) = many x) (by simp) ?_ ?_
  · (simp only [zT, zV, zS, zU, vcC, lateX, ex, strp, cnd, binA, kseq, kblk, kret, klp, Abs.one, elems, cells, scalar, eqC, Nat.reduceBEq, Nat.reduceAdd, Nat.reduceSub, Nat.reduceLT, Nat.reduceLeDiff, Nat.reduceMul, Nat.reduceEqDiff, cond_true, cond_false, if_true, if_false, reduceIte, implies_true, forall_const, ne_eq]; try simp)
  · intro i hi hI
    by_cases hlt : i < x.length
    · obtain ⟨l, hl⟩ : ∃ l, x[i]? = some l := ⟨_, List.getElem?_eq_getElem hlt⟩
      have hll := hx.2 l (List.mem_of_getElem? hl)
      rw [drop_cons hl] at hI
      (repeat' first
 | (refine AWPC.of_vcn rfl ?_; simp only [zT, zV, zS, zU, vcC, lateX, ex, strp, cnd, binA, kseq, kblk, kret, klp, Abs.one, elems, cells, scalar, eqC, Nat.reduceBEq, Nat.reduceAdd, Nat.reduceSub, Nat.reduceLT, Nat.reduceLeDiff, Nat.reduceMul, Nat.reduceEqDiff, cond_true, cond_false, if_true, if_false, reduceIte, implies_true, forall_const, ne_eq, getD_map hl])
 | (simp (disch := omega) only [wr64, Int.zero_sub]; try simp only [zT, zV, zS, zU, vcC, lateX, ex, strp, cnd, binA, kseq, kblk, kret, klp, Abs.one, elems, cells, scalar, eqC, Nat.reduceBEq, Nat.reduceAdd, Nat.reduceSub, Nat.reduceLT, Nat.reduceLeDiff, Nat.reduceMul, Nat.reduceEqDiff, cond_true, cond_false, if_true, if_false, reduceIte, implies_true, forall_const, ne_eq, getD_map hl])
 | (refine AWPC.both (fun _ => ?_) (fun _ => ?_))
 | (refine AWPC.imp (fun _ => ?_))
 | ((refine .inl ⟨_, _, _, .any, rfl, fun h => absurd h Bool.false_ne_true, ?_⟩); refine owp_of_exs ?_; simp only [zT, zV, zS, zU, vcC, lateX, ex, strp, cnd, binA, kseq, kblk, kret, klp, Abs.one, elems, cells, scalar, eqC, Nat.reduceBEq, Nat.reduceAdd, Nat.reduceSub, Nat.reduceLT, Nat.reduceLeDiff, Nat.reduceMul, Nat.reduceEqDiff, cond_true, cond_false, if_true, if_false, reduceIte, implies_true, forall_const, ne_eq, getD_map hl])
 | (refine ⟨by omega, ?_⟩)
 | (refine And.intro (by (intros; first | (simp_all (config := { decide := false }); done) | fail)) ?_)
 | fail)
      all_goals try (exfalso; omega)
      · rename_i g
        have hm : many x = true := by rw [← hI, many, List.any_cons]; simp; left; omega
        simp only [lim, hm, cond_true]
        exact frz_ink0 2
      · rename_i g
        refine ⟨⟨i + 1, hlt, ?_⟩, by simp, by simp only; omega⟩
        rw [← hI, many, many, List.any_cons, decide_eq_false (by omega), Bool.false_or]
    · obtain rfl : i = x.length := by omega
      rw [List.drop_length] at hI
      (repeat' first
 | (refine AWPC.of_vcn rfl ?_; simp only [zT, zV, zS, zU, vcC, lateX, ex, strp, cnd, binA, kseq, kblk, kret, klp, Abs.one, elems, cells, scalar, eqC, Nat.reduceBEq, Nat.reduceAdd, Nat.reduceSub, Nat.reduceLT, Nat.reduceLeDiff, Nat.reduceMul, Nat.reduceEqDiff, cond_true, cond_false, if_true, if_false, reduceIte, implies_true, forall_const, ne_eq])
 | (simp (disch := omega) only [wr64, Int.zero_sub]; try simp only [zT, zV, zS, zU, vcC, lateX, ex, strp, cnd, binA, kseq, kblk, kret, klp, Abs.one, elems, cells, scalar, eqC, Nat.reduceBEq, Nat.reduceAdd, Nat.reduceSub, Nat.reduceLT, Nat.reduceLeDiff, Nat.reduceMul, Nat.reduceEqDiff, cond_true, cond_false, if_true, if_false, reduceIte, implies_true, forall_const, ne_eq])
 | (refine AWPC.both (fun _ => ?_) (fun _ => ?_))
 | (refine AWPC.imp (fun _ => ?_))
 | ((refine .inl ⟨_, _, _, .any, rfl, fun h => absurd h Bool.false_ne_true, ?_⟩); refine owp_of_exs ?_; simp only [zT, zV, zS, zU, vcC, lateX, ex, strp, cnd, binA, kseq, kblk, kret, klp, Abs.one, elems, cells, scalar, eqC, Nat.reduceBEq, Nat.reduceAdd, Nat.reduceSub, Nat.reduceLT, Nat.reduceLeDiff, Nat.reduceMul, Nat.reduceEqDiff, cond_true, cond_false, if_true, if_false, reduceIte, implies_true, forall_const, ne_eq])
 | (refine ⟨by omega, ?_⟩)
 | (refine And.intro (by (intros; first | (simp_all (config := { decide := false }); done) | fail)) ?_)
 | fail)
      all_goals try (exfalso; omega)
      have hm : many x = false := hI.symm
      simp only [lim, hm, cond_false]
      exact Frz.eq rfl (pureV_inkE x 0)

theorem sameSets_spec (a b : List (List Sp)) (ha1 : a.length < 9223372036854775808) (hb1 : b.length < 9223372036854775808) (ha : ∀ l ∈ a, l.length < 1000000000) (hb : ∀ l ∈ b, l.length < 1000000000) : Pure Try.prog 59 [colS a, colS b] (bl (decide (a = b))) := by
  refine Pure.of_body Try.call59 Try.func59 k59 (Nat.le_of_ble_eq_true rfl) ?_
  unfold c59
  (repeat' first
 | (refine AWPC.of_vcn rfl ?_; simp only [zT, zV, zS, zU, vcC, lateX, ex, strp, cnd, binA, kseq, kblk, kret, klp, Abs.one, elems, cells, scalar, eqC, Nat.reduceBEq, Nat.reduceAdd, Nat.reduceSub, Nat.reduceLT, Nat.reduceLeDiff, Nat.reduceMul, Nat.reduceEqDiff, cond_true, cond_false, if_true, if_false, reduceIte, implies_true, forall_const, ne_eq])
 | (simp (disch := omega) only [wr64, Int.zero_sub]; try simp only [zT, zV, zS, zU, vcC, lateX, ex, strp, cnd, binA, kseq, kblk, kret, klp, Abs.one, elems, cells, scalar, eqC, Nat.reduceBEq, Nat.reduceAdd, Nat.reduceSub, Nat.reduceLT, Nat.reduceLeDiff, Nat.reduceMul, Nat.reduceEqDiff, cond_true, cond_false, if_true, if_false, reduceIte, implies_true, forall_const, ne_eq])
 | (refine AWPC.both (fun _ => ?_) (fun _ => ?_))
 | (refine AWPC.imp (fun _ => ?_))
 | ((refine .inl ⟨_, _, _, .any, rfl, fun h => absurd h Bool.false_ne_true, ?_⟩); refine owp_of_exs ?_; simp only [zT, zV, zS, zU, vcC, lateX, ex, strp, cnd, binA, kseq, kblk, kret, klp, Abs.one, elems, cells, scalar, eqC, Nat.reduceBEq, Nat.reduceAdd, Nat.reduceSub, Nat.reduceLT, Nat.reduceLeDiff, Nat.reduceMul, Nat.reduceEqDiff, cond_true, cond_false, if_true, if_false, reduceIte, implies_true, forall_const, ne_eq])
 | (refine ⟨by omega, ?_⟩)
 | (refine And.intro (by (intros; first | (simp_all (config := { decide := false }); done) | fail)) ?_)
 | fail)
  · rename_i h
    exact Frz.eq (congrArg bl (by rw [decide_eq_false]; rintro rfl; exact h rfl)) (by simp)
  · rename_i h
    have hl : a.length = b.length := by omega
    refine AWPC.loopI 5 a.length (fun i => a.take i = b.take i) (by simp) ?_ ?_
    · (simp only [zT, zV, zS, zU, vcC, lateX, ex, strp, cnd, binA, kseq, kblk, kret, klp, Abs.one, elems, cells, scalar, eqC, Nat.reduceBEq, Nat.reduceAdd, Nat.reduceSub, Nat.reduceLT, Nat.reduceLeDiff, Nat.reduceMul, Nat.reduceEqDiff, cond_true, cond_false, if_true, if_false, reduceIte, implies_true, forall_const, ne_eq]; try simp)
    · intro i hi hI
      by_cases hlt : i < a.length
      · obtain ⟨x, hx⟩ : ∃ x, a[i]? = some x := ⟨_, List.getElem?_eq_getElem hlt⟩
        obtain ⟨y, hy⟩ : ∃ y, b[i]? = some y := ⟨_, List.getElem?_eq_getElem (by omega)⟩
        have htn := take_next hx hy
        have hs := sameSpans_spec x y (ha x (List.mem_of_getElem? hx)) (hb y (List.mem_of_getElem? hy))
        (repeat' first
 | (refine AWPC.of_vcn rfl ?_; simp only [zT, zV, zS, zU, vcC, lateX, ex, strp, cnd, binA, kseq, kblk, kret, klp, Abs.one, elems, cells, scalar, eqC, Nat.reduceBEq, Nat.reduceAdd, Nat.reduceSub, Nat.reduceLT, Nat.reduceLeDiff, Nat.reduceMul, Nat.reduceEqDiff, cond_true, cond_false, if_true, if_false, reduceIte, implies_true, forall_const, ne_eq, getD_map hx, getD_map hy])
 | (simp (disch := omega) only [wr64, Int.zero_sub]; try simp only [zT, zV, zS, zU, vcC, lateX, ex, strp, cnd, binA, kseq, kblk, kret, klp, Abs.one, elems, cells, scalar, eqC, Nat.reduceBEq, Nat.reduceAdd, Nat.reduceSub, Nat.reduceLT, Nat.reduceLeDiff, Nat.reduceMul, Nat.reduceEqDiff, cond_true, cond_false, if_true, if_false, reduceIte, implies_true, forall_const, ne_eq, getD_map hx, getD_map hy])
 | (refine AWPC.both (fun _ => ?_) (fun _ => ?_))
 | (refine AWPC.imp (fun _ => ?_))
 | ((repeat (refine And.intro (by (intros; first | omega | (simp_all (config := { decide := false }); done) | fail)) ?_)); (first
 | (refine .inl ⟨_, _, _, _, rfl, fun _hc => ⟨by simp, hs⟩, ?_⟩)
 | (refine ⟨_, _, _, _, rfl, fun _hc => ⟨by simp, hs⟩, ?_⟩)
 | fail); (first | refine owp_of_exs ?_ | refine pre_of_exd ?_ | refine pre_of_exe ?_ | fail); simp only [zT, zV, zS, zU, vcC, lateX, ex, strp, cnd, binA, kseq, kblk, kret, klp, Abs.one, elems, cells, scalar, eqC, Nat.reduceBEq, Nat.reduceAdd, Nat.reduceSub, Nat.reduceLT, Nat.reduceLeDiff, Nat.reduceMul, Nat.reduceEqDiff, cond_true, cond_false, if_true, if_false, reduceIte, implies_true, forall_const, ne_eq, getD_map hx, getD_map hy])
 | ((refine .inl ⟨_, _, _, .any, rfl, fun h => absurd h Bool.false_ne_true, ?_⟩); refine owp_of_exs ?_; simp only [zT, zV, zS, zU, vcC, lateX, ex, strp, cnd, binA, kseq, kblk, kret, klp, Abs.one, elems, cells, scalar, eqC, Nat.reduceBEq, Nat.reduceAdd, Nat.reduceSub, Nat.reduceLT, Nat.reduceLeDiff, Nat.reduceMul, Nat.reduceEqDiff, cond_true, cond_false, if_true, if_false, reduceIte, implies_true, forall_const, ne_eq, getD_map hx, getD_map hy])
 | (refine ⟨by omega, ?_⟩)
 | (refine And.intro (by (intros; first | (simp_all (config := { decide := false }); done) | fail)) ?_)
 | fail)
        all_goals try (exfalso; omega)
        · rename_i g
          refine Frz.eq (congrArg bl ?_) (by simp)
          rw [decide_eq_false]
          rintro rfl
          rw [hx] at hy; injection hy with hy; simp [hy] at g
        · rename_i g
          exact ⟨⟨i + 1, hlt, htn.2 ⟨hI, by simpa using g⟩⟩, by simp, by simp only; omega⟩
      · obtain rfl : i = a.length := by omega
        rw [List.take_length, hl, List.take_length] at hI
        (repeat' first
 | (refine AWPC.of_vcn rfl ?_; simp only [zT, zV, zS, zU, vcC, lateX, ex, strp, cnd, binA, kseq, kblk, kret, klp, Abs.one, elems, cells, scalar, eqC, Nat.reduceBEq, Nat.reduceAdd, Nat.reduceSub, Nat.reduceLT, Nat.reduceLeDiff, Nat.reduceMul, Nat.reduceEqDiff, cond_true, cond_false, if_true, if_false, reduceIte, implies_true, forall_const, ne_eq])
 | (simp (disch := omega) only [wr64, Int.zero_sub]; try simp only [zT, zV, zS, zU, vcC, lateX, ex, strp, cnd, binA, kseq, kblk, kret, klp, Abs.one, elems, cells, scalar, eqC, Nat.reduceBEq, Nat.reduceAdd, Nat.reduceSub, Nat.reduceLT, Nat.reduceLeDiff, Nat.reduceMul, Nat.reduceEqDiff, cond_true, cond_false, if_true, if_false, reduceIte, implies_true, forall_const, ne_eq])
 | (refine AWPC.both (fun _ => ?_) (fun _ => ?_))
 | (refine AWPC.imp (fun _ => ?_))
 | ((refine .inl ⟨_, _, _, .any, rfl, fun h => absurd h Bool.false_ne_true, ?_⟩); refine owp_of_exs ?_; simp only [zT, zV, zS, zU, vcC, lateX, ex, strp, cnd, binA, kseq, kblk, kret, klp, Abs.one, elems, cells, scalar, eqC, Nat.reduceBEq, Nat.reduceAdd, Nat.reduceSub, Nat.reduceLT, Nat.reduceLeDiff, Nat.reduceMul, Nat.reduceEqDiff, cond_true, cond_false, if_true, if_false, reduceIte, implies_true, forall_const, ne_eq])
 | (refine ⟨by omega, ?_⟩)
 | (refine And.intro (by (intros; first | (simp_all (config := { decide := false }); done) | fail)) ?_)
 | fail)
        all_goals try (exfalso; omega)
        exact Frz.eq (by simp [hI]) (by simp)
end Go.Proofs.Ytgpdckmbojmlpaa

namespace Go.Proofs.Ytgpdckmbojmlpaa
open Go.Abs
set_option linter.unusedVariables false
set_option linter.unusedSimpArgs false
set_option maxHeartbeats 4000000
set_option maxRecDepth 100000
-- aneroid/paper.Either$1
def c118 : CF := ⟨21,
 (.seq (.ops [
 ⟨(some 4), .mv (.c (.slice none 0 0)), none⟩] [0, 1])
 (.seq (.seq (.ops [
 ⟨(some 6), .mv (.t 0), none⟩,
 ⟨(some 7), .len (.t 6), none⟩,
 ⟨(some 8), .bin .eql (.t 7) (.c (.int .i64 0)), none⟩,
 ⟨(some 9), .mv (.t 8), none⟩,
 ⟨(some 10), .mv (.t 1), (some (9, false))⟩,
 ⟨(some 11), .len (.t 10), (some (9, false))⟩,
 ⟨(some 12), .bin .eql (.t 11) (.c (.int .i64 0)), (some (9, false))⟩,
 ⟨(some 13), .pick (.t 9) (.c (.bool true)) (.t 12), none⟩] [0, 1, 13])
 (.cond (.t 13) (.seq (.ops [
 ⟨(some 4), .mv (.c (.slice none 0 0)), none⟩] [4])
 .ret)
 .skip))
 (.seq (.ops [
 ⟨(some 5), .alloc 90 1 [.slice none 0 0], none⟩] [0, 1, 5])
 (.seq (.ops [
 ⟨(some 14), .mv (.t 0), none⟩,
 ⟨(some 15), .mv (.t 1), none⟩,
 ⟨(some 16), .bsl false 34 1 2 [.slice none 0 0, .slice none 0 0] [(0, 1, (.t 14)), (1, 1, (.t 15))], none⟩,
 ⟨(some 17), .call (.f 119) [(.t 16)], none⟩,
 ⟨(some 18), .call (.f 104) [(.t 5), (.t 17)], none⟩] [5])
 (.seq (.ops [
 ⟨(some 19), .faddr 0 (.t 5), none⟩,
 ⟨(some 20), .load none (.t 19), none⟩,
 ⟨(some 4), .mv (.t 20), none⟩] [4])
 .ret))))),
 [.t 4]⟩
-- aneroid/paper.Both$1
def c112 : CF := ⟨29,
 (.seq (.ops [
 ⟨(some 5), .mv (.c (.slice none 0 0)), none⟩] [0, 1, 2])
 (.seq (.block 0 (.seq (.ops [
 ⟨(some 8), .mv (.t 0), none⟩,
 ⟨(some 9), .len (.t 8), none⟩,
 ⟨(some 10), .bin .eql (.t 9) (.c (.int .i64 0)), none⟩,
 ⟨(some 7), .mv (.t 10), none⟩] [0, 1, 2, 7])
 (.cond (.t 7) (.seq (.ops [
 ⟨(some 11), .mv (.t 1), none⟩,
 ⟨(some 12), .call (.f 113) [(.t 11)], none⟩,
 ⟨(some 5), .mv (.t 12), none⟩] [5])
 .ret)
 (.seq (.ops [
 ⟨(some 14), .mv (.t 1), none⟩,
 ⟨(some 15), .len (.t 14), none⟩,
 ⟨(some 16), .bin .eql (.t 15) (.c (.int .i64 0)), none⟩,
 ⟨(some 13), .mv (.t 16), none⟩] [0, 1, 2, 13])
 (.cond (.t 13) (.seq (.ops [
 ⟨(some 17), .mv (.t 0), none⟩,
 ⟨(some 18), .call (.f 113) [(.t 17)], none⟩,
 ⟨(some 5), .mv (.t 18), none⟩] [5])
 .ret)
 .skip)))))
 (.seq (.ops [
 ⟨(some 19), .mv (.t 0), none⟩,
 ⟨(some 20), .mv (.t 1), none⟩,
 ⟨(some 21), .call (.f 108) [(.t 19), (.t 20)], none⟩,
 ⟨(some 6), .mv (.t 21), none⟩] [2, 6])
 (.seq (.ops [
 ⟨(some 22), .load none (.t 2), none⟩,
 ⟨(some 23), .mv (.t 22), none⟩,
 ⟨(some 24), .mv (.t 6), (some (23, false))⟩,
 ⟨(some 25), .len (.t 24), (some (23, false))⟩,
 ⟨(some 26), .bin .eql (.t 25) (.c (.int .i64 0)), (some (23, false))⟩,
 ⟨(some 27), .pick (.t 23) (.c (.bool true)) (.t 26), none⟩,
 ⟨none, .store 1 (.t 2) (.t 27), none⟩] [6])
 (.seq (.ops [
 ⟨(some 28), .mv (.t 6), none⟩,
 ⟨(some 5), .mv (.t 28), none⟩] [5])
 .ret))))),
 [.t 5]⟩
theorem k118 : chkF Try.prog Try.f118 c118 = true := by kernel_rfl
theorem k112 : chkF Try.prog Try.f112 c112 = true := by kernel_rfl

theorem good.bd {l : List Sp} (h : good l) : ∀ s ∈ l, -1000000 ≤ s.lo ∧ s.hi ≤ 1000000 := fun s hs => by have := h.2.1 s hs; omega
theorem good.oks {l : List Sp} (h : good l) : OKs 1000 l := ⟨h.1, h.bd, by have := h.2.2; omega⟩
/-- A column of two sheets, joined. -/
abbrev withinC (p q : List Sp) : Bool := decide (q.length = 0) || (decide (0 < p.length) && decide (meet p q = p))
abbrev bothC (p q : List Sp) : List Sp := if p.length = 0 then q else if q.length = 0 then p else meet p q
abbrev lostC (p q : List Sp) : Bool := decide (p.length ≠ 0 ∧ q.length ≠ 0 ∧ (meet p q).length = 0)
abbrev eitherC (p q : List Sp) : List Sp := if p.length = 0 ∨ q.length = 0 then [] else joins p q

theorem meet_len {p q : List Sp} (hp : good p) (hq : good q) : (meet p q).length ≤ 64 := by
  have h1 := (meet_all p q hp.bd).1.len
  have h2 : p.length * q.length ≤ 8 * 8 := Nat.mul_le_mul hp.2.2 hq.2.2
  omega

theorem within1_spec (p q : List Sp) (hp : good p) (hq : good q) : Pure Try.prog 106 [spS p, spS q] (bl (withinC p q)) := by
  refine Pure.of_body Try.call106 Try.func106 k106 (Nat.le_of_ble_eq_true rfl) ?_
  have hp8 := hp.2.2
  have hq8 := hq.2.2
  have hm := meet_spec p q hp.bd (by omega) (by omega)
  have hml := meet_len hp hq
  have he := equal_spec (meet p q) p (by omega) (by omega)
  unfold c106
  (repeat' first
 | (refine AWPC.of_vcn rfl ?_; simp only [zT, zV, zS, zU, vcC, lateX, ex, strp, cnd, binA, kseq, kblk, kret, klp, Abs.one, elems, cells, scalar, eqC, Nat.reduceBEq, Nat.reduceAdd, Nat.reduceSub, Nat.reduceLT, Nat.reduceLeDiff, Nat.reduceMul, Nat.reduceEqDiff, cond_true, cond_false, if_true, if_false, reduceIte, implies_true, forall_const, ne_eq])
 | (simp (disch := omega) only [wr64, Int.zero_sub]; try simp only [zT, zV, zS, zU, vcC, lateX, ex, strp, cnd, binA, kseq, kblk, kret, klp, Abs.one, elems, cells, scalar, eqC, Nat.reduceBEq, Nat.reduceAdd, Nat.reduceSub, Nat.reduceLT, Nat.reduceLeDiff, Nat.reduceMul, Nat.reduceEqDiff, cond_true, cond_false, if_true, if_false, reduceIte, implies_true, forall_const, ne_eq])
 | (refine AWPC.both (fun _ => ?_) (fun _ => ?_))
 | (refine AWPC.imp (fun _ => ?_))
 | ((repeat (refine And.intro (by (intros; first | omega | (simp_all (config := { decide := false }); done) | fail)) ?_)); (first
 | (refine .inl ⟨_, _, _, _, rfl, fun _hc => ⟨by simp, hm⟩, ?_⟩)
 | (refine .inl ⟨_, _, _, _, rfl, fun _hc => ⟨by simp, he⟩, ?_⟩)
 | (refine ⟨_, _, _, _, rfl, fun _hc => ⟨by simp, hm⟩, ?_⟩)
 | (refine ⟨_, _, _, _, rfl, fun _hc => ⟨by simp, he⟩, ?_⟩)
 | fail); (first | refine owp_of_exs ?_ | refine pre_of_exd ?_ | refine pre_of_exe ?_ | fail); simp only [zT, zV, zS, zU, vcC, lateX, ex, strp, cnd, binA, kseq, kblk, kret, klp, Abs.one, elems, cells, scalar, eqC, Nat.reduceBEq, Nat.reduceAdd, Nat.reduceSub, Nat.reduceLT, Nat.reduceLeDiff, Nat.reduceMul, Nat.reduceEqDiff, cond_true, cond_false, if_true, if_false, reduceIte, implies_true, forall_const, ne_eq])
 | ((refine .inl ⟨_, _, _, .any, rfl, fun h => absurd h Bool.false_ne_true, ?_⟩); refine owp_of_exs ?_; simp only [zT, zV, zS, zU, vcC, lateX, ex, strp, cnd, binA, kseq, kblk, kret, klp, Abs.one, elems, cells, scalar, eqC, Nat.reduceBEq, Nat.reduceAdd, Nat.reduceSub, Nat.reduceLT, Nat.reduceLeDiff, Nat.reduceMul, Nat.reduceEqDiff, cond_true, cond_false, if_true, if_false, reduceIte, implies_true, forall_const, ne_eq])
 | (refine ⟨by omega, ?_⟩)
 | (refine And.intro (by (intros; first | (simp_all (config := { decide := false }); done) | fail)) ?_)
 | fail)
  refine Frz.eq (congrArg bl ?_) (by simp)
  rw [Bool.eq_iff_iff]
  simp only [decide_eq_true_eq, Bool.or_eq_true, Bool.and_eq_true]
  by_cases hmm : meet p q = p <;> simp only [hmm, and_true, and_false, or_false] <;> omega

theorem either1_spec (p q : List Sp) (hp : good p) (hq : good q) : Pure Try.prog 118 [spS p, spS q] (spS (eitherC p q)) := by
  refine Pure.of_body Try.call118 Try.func118 k118 (Nat.le_of_ble_eq_true rfl) ?_
  have hp8 := hp.2.2
  have hq8 := hq.2.2
  unfold c118
  (repeat' first
 | (refine AWPC.of_vcn rfl ?_; simp only [zT, zV, zS, zU, vcC, lateX, ex, strp, cnd, binA, kseq, kblk, kret, klp, Abs.one, elems, cells, scalar, eqC, Nat.reduceBEq, Nat.reduceAdd, Nat.reduceSub, Nat.reduceLT, Nat.reduceLeDiff, Nat.reduceMul, Nat.reduceEqDiff, cond_true, cond_false, if_true, if_false, reduceIte, implies_true, forall_const, ne_eq])
 | (simp (disch := omega) only [wr64, Int.zero_sub]; try simp only [zT, zV, zS, zU, vcC, lateX, ex, strp, cnd, binA, kseq, kblk, kret, klp, Abs.one, elems, cells, scalar, eqC, Nat.reduceBEq, Nat.reduceAdd, Nat.reduceSub, Nat.reduceLT, Nat.reduceLeDiff, Nat.reduceMul, Nat.reduceEqDiff, cond_true, cond_false, if_true, if_false, reduceIte, implies_true, forall_const, ne_eq])
 | (refine AWPC.both (fun _ => ?_) (fun _ => ?_))
 | (refine AWPC.imp (fun _ => ?_))
 | ((refine .inl ⟨_, _, _, .any, rfl, fun h => absurd h Bool.false_ne_true, ?_⟩); refine owp_of_exs ?_; simp only [zT, zV, zS, zU, vcC, lateX, ex, strp, cnd, binA, kseq, kblk, kret, klp, Abs.one, elems, cells, scalar, eqC, Nat.reduceBEq, Nat.reduceAdd, Nat.reduceSub, Nat.reduceLT, Nat.reduceLeDiff, Nat.reduceMul, Nat.reduceEqDiff, cond_true, cond_false, if_true, if_false, reduceIte, implies_true, forall_const, ne_eq])
 | (refine ⟨by omega, ?_⟩)
 | (refine And.intro (by (intros; first | (simp_all (config := { decide := false }); done) | fail)) ?_)
 | fail)
  · rename_i h
    have h' : eitherC p q = [] := if_pos (by omega)
    rw [h']
    exact Frz.nil
  · rename_i h
    have h' : eitherC p q = joins p q := if_neg (by omega)
    rw [h']
    have hj := joins_mem (b := q) hp.1
    have hcat := concat_does [some [⟨90, 1, [[.v (.slice none 0 0)]], none⟩]] [(p, none), (q, none)] (by intro z hz; simp only [List.mem_cons, List.not_mem_nil, or_false] at hz; rcases hz with rfl | rfl <;> trivial) (by simp) (by simp [flat]; omega)
    simp only [List.map_cons, List.map_nil, flat, List.flatMap_cons, List.flatMap_nil, List.append_nil, avR] at hcat
    refine .inr (.inl ⟨_, _, _, _, rfl, fun _ => ⟨hcat, ?_⟩, fun h => by cases h⟩)
    rintro res σ' ⟨rfl, rfl⟩
    refine owp_of_exs ?_
    simp only [zT, zV, zS, zU, vcC, lateX, ex, strp, cnd, binA, kseq, kblk, kret, klp, Abs.one, elems, cells, scalar, eqC, Nat.reduceBEq, Nat.reduceAdd, Nat.reduceSub, Nat.reduceLT, Nat.reduceLeDiff, Nat.reduceMul, Nat.reduceEqDiff, cond_true, cond_false, if_true, if_false, reduceIte, implies_true, forall_const, ne_eq]
    (repeat' first
 | (refine AWPC.of_vcn rfl ?_; simp only [zT, zV, zS, zU, vcC, lateX, ex, strp, cnd, binA, kseq, kblk, kret, klp, Abs.one, elems, cells, scalar, eqC, Nat.reduceBEq, Nat.reduceAdd, Nat.reduceSub, Nat.reduceLT, Nat.reduceLeDiff, Nat.reduceMul, Nat.reduceEqDiff, cond_true, cond_false, if_true, if_false, reduceIte, implies_true, forall_const, ne_eq])
 | (simp (disch := omega) only [wr64, Int.zero_sub]; try simp only [zT, zV, zS, zU, vcC, lateX, ex, strp, cnd, binA, kseq, kblk, kret, klp, Abs.one, elems, cells, scalar, eqC, Nat.reduceBEq, Nat.reduceAdd, Nat.reduceSub, Nat.reduceLT, Nat.reduceLeDiff, Nat.reduceMul, Nat.reduceEqDiff, cond_true, cond_false, if_true, if_false, reduceIte, implies_true, forall_const, ne_eq])
 | (refine AWPC.both (fun _ => ?_) (fun _ => ?_))
 | (refine AWPC.imp (fun _ => ?_))
 | ((refine .inl ⟨_, _, _, .any, rfl, fun h => absurd h Bool.false_ne_true, ?_⟩); refine owp_of_exs ?_; simp only [zT, zV, zS, zU, vcC, lateX, ex, strp, cnd, binA, kseq, kblk, kret, klp, Abs.one, elems, cells, scalar, eqC, Nat.reduceBEq, Nat.reduceAdd, Nat.reduceSub, Nat.reduceLT, Nat.reduceLeDiff, Nat.reduceMul, Nat.reduceEqDiff, cond_true, cond_false, if_true, if_false, reduceIte, implies_true, forall_const, ne_eq])
 | (refine ⟨by omega, ?_⟩)
 | (refine And.intro (by (intros; first | (simp_all (config := { decide := false }); done) | fail)) ?_)
 | fail)
    have hadd := add_any ([some [⟨90, 1, [[.v (.slice none 0 0)]], none⟩], some [spO (p ++ q)]]) 0 1 0 ⟨90, 1, [[.v (.slice none 0 0)]], none⟩ (.v (.slice none 0 0)) [] [] (p ++ q, some 1) rfl rfl (by omega) rfl rfl rfl (.inl ⟨rfl, rfl⟩) rfl
      (fun u hu => by
        simp only [List.nil_append, List.mem_append] at hu
        rcases hu with hu | hu
        · exact ⟨hp.1.ne u hu, hp.bd u hu⟩
        · exact ⟨hq.1.ne u hu, hq.bd u hu⟩) (by simp; omega) (joins p q) (joins_norm hp.1) (fun v => by rw [hj, mem_append]; simp [Mem.nil])
    simp only [avR, List.length_append] at hadd
    refine .inr (.inl ⟨_, _, _, _, rfl, fun _ => ⟨hadd, ?_⟩, fun h => by cases h⟩)
    rintro res σ' ⟨G, hG, hat, hok, _, _⟩
    refine owp_of_exs ?_
    simp only [zT, zV, zS, zU, vcC, lateX, ex, strp, cnd, binA, kseq, kblk, kret, klp, Abs.one, elems, cells, scalar, eqC, Nat.reduceBEq, Nat.reduceAdd, Nat.reduceSub, Nat.reduceLT, Nat.reduceLeDiff, Nat.reduceMul, Nat.reduceEqDiff, cond_true, cond_false, if_true, if_false, reduceIte, implies_true, forall_const, ne_eq]
    (repeat' first
 | (refine AWPC.of_vcn rfl ?_; simp only [zT, zV, zS, zU, vcC, lateX, ex, strp, cnd, binA, kseq, kblk, kret, klp, Abs.one, elems, cells, scalar, eqC, Nat.reduceBEq, Nat.reduceAdd, Nat.reduceSub, Nat.reduceLT, Nat.reduceLeDiff, Nat.reduceMul, Nat.reduceEqDiff, cond_true, cond_false, if_true, if_false, reduceIte, implies_true, forall_const, ne_eq, hat])
 | (simp (disch := omega) only [wr64, Int.zero_sub]; try simp only [zT, zV, zS, zU, vcC, lateX, ex, strp, cnd, binA, kseq, kblk, kret, klp, Abs.one, elems, cells, scalar, eqC, Nat.reduceBEq, Nat.reduceAdd, Nat.reduceSub, Nat.reduceLT, Nat.reduceLeDiff, Nat.reduceMul, Nat.reduceEqDiff, cond_true, cond_false, if_true, if_false, reduceIte, implies_true, forall_const, ne_eq, hat])
 | (refine AWPC.both (fun _ => ?_) (fun _ => ?_))
 | (refine AWPC.imp (fun _ => ?_))
 | ((refine .inl ⟨_, _, _, .any, rfl, fun h => absurd h Bool.false_ne_true, ?_⟩); refine owp_of_exs ?_; simp only [zT, zV, zS, zU, vcC, lateX, ex, strp, cnd, binA, kseq, kblk, kret, klp, Abs.one, elems, cells, scalar, eqC, Nat.reduceBEq, Nat.reduceAdd, Nat.reduceSub, Nat.reduceLT, Nat.reduceLeDiff, Nat.reduceMul, Nat.reduceEqDiff, cond_true, cond_false, if_true, if_false, reduceIte, implies_true, forall_const, ne_eq, hat])
 | (refine ⟨by omega, ?_⟩)
 | (refine And.intro (by (intros; first | (simp_all (config := { decide := false }); done) | fail)) ?_)
 | fail)
    exact frz_sp' _ hok rfl

theorem both1_does (σ : Sto) (f : Nat) (t : Bool) (p q : List Sp) (hf : σ.at f 0 = some ⟨4, 1, [[bl t]], none⟩) (hp : good p) (hq : good q) :
    Does Try.prog 112 [spS p, spS q, .ptr f 0 1 0 0] σ (fun r σ' => r = spS (bothC p q) ∧ σ' = σ.upd f 0 ⟨4, 1, [[bl (t || lostC p q)]], none⟩) := by
  refine Does.of_body Try.call112 Try.func112 k112 (Nat.le_of_ble_eq_true rfl) ?_
  have hp8 := hp.2.2
  have hq8 := hq.2.2
  have hm := meet_spec p q hp.bd (by omega) (by omega)
  have hml := meet_len hp hq
  have hcp := clone_spec p (by omega)
  have hcq := clone_spec q (by omega)
  unfold c112
  (repeat' first
 | (refine AWPC.of_vcn rfl ?_; simp only [zT, zV, zS, zU, vcC, lateX, ex, strp, cnd, binA, kseq, kblk, kret, klp, Abs.one, elems, cells, scalar, eqC, Nat.reduceBEq, Nat.reduceAdd, Nat.reduceSub, Nat.reduceLT, Nat.reduceLeDiff, Nat.reduceMul, Nat.reduceEqDiff, cond_true, cond_false, if_true, if_false, reduceIte, implies_true, forall_const, ne_eq, hf])
 | (simp (disch := omega) only [wr64, Int.zero_sub]; try simp only [zT, zV, zS, zU, vcC, lateX, ex, strp, cnd, binA, kseq, kblk, kret, klp, Abs.one, elems, cells, scalar, eqC, Nat.reduceBEq, Nat.reduceAdd, Nat.reduceSub, Nat.reduceLT, Nat.reduceLeDiff, Nat.reduceMul, Nat.reduceEqDiff, cond_true, cond_false, if_true, if_false, reduceIte, implies_true, forall_const, ne_eq, hf])
 | (refine AWPC.both (fun _ => ?_) (fun _ => ?_))
 | (refine AWPC.imp (fun _ => ?_))
 | ((repeat (refine And.intro (by (intros; first | omega | (simp_all (config := { decide := false }); done) | fail)) ?_)); (first
 | (refine .inl ⟨_, _, _, _, rfl, fun _hc => ⟨by simp, hm⟩, ?_⟩)
 | (refine .inl ⟨_, _, _, _, rfl, fun _hc => ⟨by simp, hcp⟩, ?_⟩)
 | (refine .inl ⟨_, _, _, _, rfl, fun _hc => ⟨by simp, hcq⟩, ?_⟩)
 | (refine ⟨_, _, _, _, rfl, fun _hc => ⟨by simp, hm⟩, ?_⟩)
 | (refine ⟨_, _, _, _, rfl, fun _hc => ⟨by simp, hcp⟩, ?_⟩)
 | (refine ⟨_, _, _, _, rfl, fun _hc => ⟨by simp, hcq⟩, ?_⟩)
 | fail); (first | refine owp_of_exs ?_ | refine pre_of_exd ?_ | refine pre_of_exe ?_ | fail); simp only [zT, zV, zS, zU, vcC, lateX, ex, strp, cnd, binA, kseq, kblk, kret, klp, Abs.one, elems, cells, scalar, eqC, Nat.reduceBEq, Nat.reduceAdd, Nat.reduceSub, Nat.reduceLT, Nat.reduceLeDiff, Nat.reduceMul, Nat.reduceEqDiff, cond_true, cond_false, if_true, if_false, reduceIte, implies_true, forall_const, ne_eq, hf])
 | ((refine .inl ⟨_, _, _, .any, rfl, fun h => absurd h Bool.false_ne_true, ?_⟩); refine owp_of_exs ?_; simp only [zT, zV, zS, zU, vcC, lateX, ex, strp, cnd, binA, kseq, kblk, kret, klp, Abs.one, elems, cells, scalar, eqC, Nat.reduceBEq, Nat.reduceAdd, Nat.reduceSub, Nat.reduceLT, Nat.reduceLeDiff, Nat.reduceMul, Nat.reduceEqDiff, cond_true, cond_false, if_true, if_false, reduceIte, implies_true, forall_const, ne_eq, hf])
 | (refine ⟨by omega, ?_⟩)
 | (refine And.intro (by (intros; first | (simp_all (config := { decide := false }); done) | fail)) ?_)
 | fail)
  · rename_i h
    have hh : p.length = 0 := by omega
    exact ⟨by rw [bothC, if_pos hh], by rw [show lostC p q = false by simp [lostC, hh], Bool.or_false]; exact (upd_self hf).symm⟩
  · rename_i h h'
    have hh : ¬ p.length = 0 := by omega
    have hh' : q.length = 0 := by omega
    exact ⟨by rw [bothC, if_neg hh, if_pos hh'], by rw [show lostC p q = false by simp [lostC, hh'], Bool.or_false]; exact (upd_self hf).symm⟩
  · rename_i h h'
    have hh : ¬ p.length = 0 := by omega
    have hh' : ¬ q.length = 0 := by omega
    refine ⟨by rw [bothC, if_neg hh, if_neg hh'], ?_⟩
    refine congrArg (fun z => σ.upd f 0 ⟨4, 1, [[bl (t || z)]], none⟩) ?_
    rw [lostC, decide_eq_decide]
    omega
end Go.Proofs.Ytgpdckmbojmlpaa

namespace Go.Proofs.Ytgpdckmbojmlpaa
open Go.Abs
set_option linter.unusedVariables false
set_option linter.unusedSimpArgs false
set_option maxHeartbeats 4000000
set_option maxRecDepth 100000
-- (aneroid/paper.joint[[]aneroid/api.Span]).each
def c114 : CF := ⟨58,
 (.seq (.ops [
 ⟨(some 3), .box false 125 1 (.t 0), none⟩,
 ⟨(some 4), .box false 56 1 (.t 1), none⟩,
 ⟨(some 5), .box false 56 1 (.t 2), none⟩,
 ⟨(some 6), .mv (.c (.slice none 0 0)), none⟩,
 ⟨(some 7), .mv (.c (.int .i64 0)), none⟩] [3, 4, 5])
 (.seq (.seq (.ops [
 ⟨(some 13), .load (some 1) (.t 4), none⟩,
 ⟨(some 14), .load (some 1) (.t 5), none⟩,
 ⟨(some 15), .bsl false 56 1 2 [.slice none 0 0, .slice none 0 0] [(0, 1, (.t 13)), (1, 1, (.t 14))], none⟩,
 ⟨(some 16), .len (.t 15), none⟩,
 ⟨(some 17), .mv (.c (.int .i64 0)), none⟩] [3, 4, 5, 15, 16, 17])
 (.block 0 (.loop (.seq (.ops [
 ⟨(some 18), .bin .lss (.t 17) (.t 16), none⟩] [3, 4, 5, 15, 16, 17, 18])
 (.seq (.cond (.t 18) .skip
 (.exit 0))
 (.seq (.block 1 (.seq (.ops [
 ⟨(some 19), .iaddr 1 (.t 15) (.t 17), none⟩,
 ⟨(some 20), .load (some 1) (.t 19), none⟩,
 ⟨(some 9), .alloc 56 1 [.slice none 0 0], none⟩,
 ⟨none, .store 1 (.t 9) (.t 20), none⟩] [3, 4, 5, 9, 15, 16, 17])
 (.seq (.ops [
 ⟨(some 21), .load (some 1) (.t 9), none⟩,
 ⟨(some 22), .call (.f 54) [(.t 21)], none⟩,
 ⟨(some 10), .mv (.t 22), none⟩] [3, 4, 5, 10, 15, 16, 17])
 (.seq (.ops [
 ⟨(some 23), .mv (.t 10), none⟩,
 ⟨(some 24), .bin .neq (.t 23) (.c (.int .i64 0)), none⟩] [3, 4, 5, 10, 15, 16, 17, 24])
 (.cond (.t 24) (.seq (.ops [
 ⟨(some 25), .mv (.t 10), none⟩,
 ⟨(some 6), .mv (.c (.slice none 0 0)), none⟩,
 ⟨(some 7), .mv (.t 25), none⟩] [6, 7])
 .ret)
 .skip)))))
 (.ops [
 ⟨(some 26), .bin .add (.t 17) (.c (.int .i64 1)), none⟩,
 ⟨(some 17), .mv (.t 26), none⟩] [3, 4, 5, 15, 16, 17])))))))
 (.seq (.seq (.ops [
 ⟨(some 27), .faddr 0 (.t 4), none⟩,
 ⟨(some 28), .load none (.t 27), none⟩,
 ⟨(some 29), .len (.t 28), none⟩,
 ⟨(some 30), .faddr 0 (.t 5), none⟩,
 ⟨(some 31), .load none (.t 30), none⟩,
 ⟨(some 32), .len (.t 31), none⟩,
 ⟨(some 33), .bin .neq (.t 29) (.t 32), none⟩] [3, 4, 5, 33])
 (.cond (.t 33) (.seq (.ops [
 ⟨(some 6), .mv (.c (.slice none 0 0)), none⟩,
 ⟨(some 7), .mv (.c (.int .i64 1)), none⟩] [6, 7])
 .ret)
 .skip))
 (.seq (.ops [
 ⟨(some 11), .mv (.c (.slice none 0 0)), none⟩] [3, 4, 5, 11])
 (.seq (.seq (.ops [
 ⟨(some 34), .faddr 0 (.t 4), none⟩,
 ⟨(some 35), .load none (.t 34), none⟩,
 ⟨(some 36), .len (.t 35), none⟩,
 ⟨(some 37), .mv (.c (.int .i64 0)), none⟩] [3, 4, 5, 11, 36, 37])
 (.block 2 (.loop (.seq (.ops [
 ⟨(some 38), .bin .lss (.t 37) (.t 36), none⟩] [3, 4, 5, 11, 36, 37, 38])
 (.seq (.cond (.t 38) .skip
 (.exit 2))
 (.seq (.block 3 (.seq (.ops [
 ⟨(some 39), .mv (.t 37), none⟩,
 ⟨(some 12), .mv (.t 39), none⟩] [3, 4, 5, 11, 12, 36, 37])
 (.drawl 0 [
 ⟨(some 40), .mv (.t 11), none⟩,
 ⟨(some 41), .faddr 0 (.t 3), none⟩,
 ⟨(some 42), .load none (.t 41), none⟩,
 ⟨(some 43), .faddr 0 (.t 4), none⟩,
 ⟨(some 44), .load none (.t 43), none⟩,
 ⟨(some 45), .mv (.t 12), none⟩,
 ⟨(some 46), .iaddr 1 (.t 44) (.t 45), none⟩,
 ⟨(some 47), .load none (.t 46), none⟩,
 ⟨(some 48), .faddr 0 (.t 5), none⟩,
 ⟨(some 49), .load none (.t 48), none⟩,
 ⟨(some 50), .mv (.t 12), none⟩,
 ⟨(some 51), .iaddr 1 (.t 49) (.t 50), none⟩,
 ⟨(some 52), .load none (.t 51), none⟩] [
 ⟨(some 53), .call (.t 42) [(.t 47), (.t 52)], none⟩,
 ⟨(some 54), .bsl false 34 1 1 [.slice none 0 0] [(0, 1, (.t 53))], none⟩,
 ⟨(some 55), .app 34 1 24 (.t 40) (.t 54), none⟩,
 ⟨(some 11), .mv (.t 55), none⟩] [3, 4, 5, 11, 36, 37])))
 (.ops [
 ⟨(some 56), .bin .add (.t 37) (.c (.int .i64 1)), none⟩,
 ⟨(some 37), .mv (.t 56), none⟩] [3, 4, 5, 11, 36, 37])))))))
 (.seq (.ops [
 ⟨(some 57), .mv (.t 11), none⟩,
 ⟨(some 6), .mv (.t 57), none⟩,
 ⟨(some 7), .mv (.c (.int .i64 0)), none⟩] [6, 7])
 .ret)))))),
 [.t 6, .t 7]⟩
-- (aneroid/paper.joint[bool]).each
def c109 : CF := ⟨58,
 (.seq (.ops [
 ⟨(some 3), .box false 118 1 (.t 0), none⟩,
 ⟨(some 4), .box false 56 1 (.t 1), none⟩,
 ⟨(some 5), .box false 56 1 (.t 2), none⟩,
 ⟨(some 6), .mv (.c (.slice none 0 0)), none⟩,
 ⟨(some 7), .mv (.c (.int .i64 0)), none⟩] [3, 4, 5])
 (.seq (.seq (.ops [
 ⟨(some 13), .load (some 1) (.t 4), none⟩,
 ⟨(some 14), .load (some 1) (.t 5), none⟩,
 ⟨(some 15), .bsl false 56 1 2 [.slice none 0 0, .slice none 0 0] [(0, 1, (.t 13)), (1, 1, (.t 14))], none⟩,
 ⟨(some 16), .len (.t 15), none⟩,
 ⟨(some 17), .mv (.c (.int .i64 0)), none⟩] [3, 4, 5, 15, 16, 17])
 (.block 0 (.loop (.seq (.ops [
 ⟨(some 18), .bin .lss (.t 17) (.t 16), none⟩] [3, 4, 5, 15, 16, 17, 18])
 (.seq (.cond (.t 18) .skip
 (.exit 0))
 (.seq (.block 1 (.seq (.ops [
 ⟨(some 19), .iaddr 1 (.t 15) (.t 17), none⟩,
 ⟨(some 20), .load (some 1) (.t 19), none⟩,
 ⟨(some 9), .alloc 56 1 [.slice none 0 0], none⟩,
 ⟨none, .store 1 (.t 9) (.t 20), none⟩] [3, 4, 5, 9, 15, 16, 17])
 (.seq (.ops [
 ⟨(some 21), .load (some 1) (.t 9), none⟩,
 ⟨(some 22), .call (.f 54) [(.t 21)], none⟩,
 ⟨(some 10), .mv (.t 22), none⟩] [3, 4, 5, 10, 15, 16, 17])
 (.seq (.ops [
 ⟨(some 23), .mv (.t 10), none⟩,
 ⟨(some 24), .bin .neq (.t 23) (.c (.int .i64 0)), none⟩] [3, 4, 5, 10, 15, 16, 17, 24])
 (.cond (.t 24) (.seq (.ops [
 ⟨(some 25), .mv (.t 10), none⟩,
 ⟨(some 6), .mv (.c (.slice none 0 0)), none⟩,
 ⟨(some 7), .mv (.t 25), none⟩] [6, 7])
 .ret)
 .skip)))))
 (.ops [
 ⟨(some 26), .bin .add (.t 17) (.c (.int .i64 1)), none⟩,
 ⟨(some 17), .mv (.t 26), none⟩] [3, 4, 5, 15, 16, 17])))))))
 (.seq (.seq (.ops [
 ⟨(some 27), .faddr 0 (.t 4), none⟩,
 ⟨(some 28), .load none (.t 27), none⟩,
 ⟨(some 29), .len (.t 28), none⟩,
 ⟨(some 30), .faddr 0 (.t 5), none⟩,
 ⟨(some 31), .load none (.t 30), none⟩,
 ⟨(some 32), .len (.t 31), none⟩,
 ⟨(some 33), .bin .neq (.t 29) (.t 32), none⟩] [3, 4, 5, 33])
 (.cond (.t 33) (.seq (.ops [
 ⟨(some 6), .mv (.c (.slice none 0 0)), none⟩,
 ⟨(some 7), .mv (.c (.int .i64 1)), none⟩] [6, 7])
 .ret)
 .skip))
 (.seq (.ops [
 ⟨(some 11), .mv (.c (.slice none 0 0)), none⟩] [3, 4, 5, 11])
 (.seq (.seq (.ops [
 ⟨(some 34), .faddr 0 (.t 4), none⟩,
 ⟨(some 35), .load none (.t 34), none⟩,
 ⟨(some 36), .len (.t 35), none⟩,
 ⟨(some 37), .mv (.c (.int .i64 0)), none⟩] [3, 4, 5, 11, 36, 37])
 (.block 2 (.loop (.seq (.ops [
 ⟨(some 38), .bin .lss (.t 37) (.t 36), none⟩] [3, 4, 5, 11, 36, 37, 38])
 (.seq (.cond (.t 38) .skip
 (.exit 2))
 (.seq (.block 3 (.seq (.ops [
 ⟨(some 39), .mv (.t 37), none⟩,
 ⟨(some 12), .mv (.t 39), none⟩] [3, 4, 5, 11, 12, 36, 37])
 (.drawl 0 [
 ⟨(some 40), .mv (.t 11), none⟩,
 ⟨(some 41), .faddr 0 (.t 3), none⟩,
 ⟨(some 42), .load none (.t 41), none⟩,
 ⟨(some 43), .faddr 0 (.t 4), none⟩,
 ⟨(some 44), .load none (.t 43), none⟩,
 ⟨(some 45), .mv (.t 12), none⟩,
 ⟨(some 46), .iaddr 1 (.t 44) (.t 45), none⟩,
 ⟨(some 47), .load none (.t 46), none⟩,
 ⟨(some 48), .faddr 0 (.t 5), none⟩,
 ⟨(some 49), .load none (.t 48), none⟩,
 ⟨(some 50), .mv (.t 12), none⟩,
 ⟨(some 51), .iaddr 1 (.t 49) (.t 50), none⟩,
 ⟨(some 52), .load none (.t 51), none⟩] [
 ⟨(some 53), .call (.t 42) [(.t 47), (.t 52)], none⟩,
 ⟨(some 54), .bsl false 4 1 1 [.bool false] [(0, 1, (.t 53))], none⟩,
 ⟨(some 55), .app 4 1 1 (.t 40) (.t 54), none⟩,
 ⟨(some 11), .mv (.t 55), none⟩] [3, 4, 5, 11, 36, 37])))
 (.ops [
 ⟨(some 56), .bin .add (.t 37) (.c (.int .i64 1)), none⟩,
 ⟨(some 37), .mv (.t 56), none⟩] [3, 4, 5, 11, 36, 37])))))))
 (.seq (.ops [
 ⟨(some 57), .mv (.t 11), none⟩,
 ⟨(some 6), .mv (.t 57), none⟩,
 ⟨(some 7), .mv (.c (.int .i64 0)), none⟩] [6, 7])
 .ret)))))),
 [.t 6, .t 7]⟩
theorem k114 : chkF Try.prog Try.f114 c114 = true := by kernel_rfl
theorem k109 : chkF Try.prog Try.f109 c109 = true := by kernel_rfl

theorem frz_col {σ : Sto} {f i : Nat} {x : List (List Sp)} (h : σ.at f i = some ⟨34, 1, x.map (fun l => [spS l]), none⟩) : Frz σ (.own f i x.length) (colS x) := by
  refine Frz.own (o := ⟨34, 1, x.map (fun l => [spS l]), none⟩) (es := x.map fun l => [spS l]) (show (1 : Nat) ≠ 0 by decide) h (by simp) (by simp) (fun e j he hj => ?_) fun e he => ?_
  · obtain ⟨l, hl⟩ : ∃ l, x[e]? = some l := ⟨_, List.getElem?_eq_getElem he⟩
    rw [getD_map hl]
    match j, hj with
    | 0, _ => exact Frz.eq rfl (by simp)
  · obtain ⟨l, hl⟩ : ∃ l, x[e]? = some l := ⟨_, List.getElem?_eq_getElem he⟩
    rw [getD_map hl]; rfl

/-- Columns of two sheets, joined by a function. -/
abbrev zipC (F : List Sp → List Sp → List Sp) (a b : List (List Sp)) : List (List Sp) := List.zipWith F a b

theorem frz_colE {σ : Sto} (e : Int) : Frz σ (.tup [.v (.slice none 0 0), n e]) (.tup [colS [], n e]) := by
  refine Frz.tup rfl fun i hi => ?_
  match i, hi with
  | 0, _ => exact Frz.nil
  | 1, _ => exact Frz.eq rfl (by simp)

theorem at_blank_end (m : Nat) (ν : Sto) (L : List Ob) : Sto.at (Abs.blank m (ν ++ [some L])) (m + List.length ν) 0 = L[0]? := by
  unfold Abs.blank
  rw [← List.append_assoc]
  have h : m + List.length ν = List.length (List.replicate m (none : Option (List Ob)) ++ ν) := by simp
  rw [h, at_app0]; exact at_cons0 _ _ _

def EachP (F : List Sp → List Sp → List Sp) (S : Nat → Sto) (a b : List (List Sp)) (v : AV) (σ' : Sto) : Prop :=
  ∃ (σ1 ν : Sto) (r : AV), σ' = σ1 ++ ν ∧ σ1.length = (S 0).length ∧ Frz (Abs.blank σ1.length ν) v r ∧ (r = .tup [colS (if jerr a b = 0 then zipC F a b else []), n (jerr a b)] ∧ σ1 = S (if jerr a b = 0 then a.length else 0)) ∧
    ∀ g i o, σ1.at g i = some o → o.lp = none ∧ (Sto.at (S 0) g i = some o ∨ ∀ e j, e < o.es.length → j < o.k → PureV ((o.es.getD e []).getD j .any))

/-- What `each` answers: a state S i when i columns have been joined. -/
theorem each_does (g : Nat) (caps : List AV) (F : List Sp → List Sp → List Sp) (S : Nat → Sto) (a b : List (List Sp)) (ha : Lens a) (hb : Lens b)
    (hS : ∀ i, (S i).length = (S 0).length)
    (hob : ∀ m g i o, Sto.at (S m) g i = some o → o.lp = none ∧ (Sto.at (S 0) g i = some o ∨ ∀ e j, e < o.es.length → j < o.k → PureV ((o.es.getD e []).getD j .any)))
    (hg : ∀ i p q (ν : Sto), a[i]? = some p → b[i]? = some q → good p → good q → Does Try.prog g ([spS p, spS q] ++ caps) (S i ++ ν) (fun r σ' => r = spS (F p q) ∧ σ' = S (i + 1) ++ ν)) :
    Does Try.prog 114 [.agg [.fn (.func g) [] caps], ink a, ink b] (S 0) (fun r σ' => r = .tup [colS (if jerr a b = 0 then zipC F a b else []), n (jerr a b)] ∧ σ' = S (if jerr a b = 0 then a.length else 0)) := by
  refine Does.frz (show Does Try.prog 114 [.agg [.fn (.func g) [] caps], ink a, ink b] (S 0) (EachP F S a b) from Does.of_body Try.call114 Try.func114 k114 (Nat.le_of_ble_eq_true rfl) ?_)
  have h1 := checkInked_spec a ha
  have h2 := checkInked_spec b hb
  have ha1 := ha.1
  have hb1 := hb.1
  have herr : ∀ ν : Sto, jerr a b ≠ 0 → EachP F S a b (.tup [.v (.slice none 0 0), n (jerr a b)]) (S 0 ++ ν) := fun ν hj =>
    ⟨S 0, ν, _, rfl, rfl, frz_colE _, ⟨by rw [if_neg hj], by rw [if_neg hj]⟩, hob 0⟩
  generalize hPost : EachP F S a b = Post at *
  unfold c114
  (repeat' first
 | (refine AWPC.of_vcn rfl ?_; simp only [zT, zV, zS, zU, vcC, lateX, ex, strp, cnd, binA, kseq, kblk, kret, klp, Abs.one, elems, cells, scalar, eqC, Nat.reduceBEq, Nat.reduceAdd, Nat.reduceSub, Nat.reduceLT, Nat.reduceLeDiff, Nat.reduceMul, Nat.reduceEqDiff, cond_true, cond_false, if_true, if_false, reduceIte, implies_true, forall_const, ne_eq])
 | (simp (disch := omega) only [wr64, Int.zero_sub]; try simp only [zT, zV, zS, zU, vcC, lateX, ex, strp, cnd, binA, kseq, kblk, kret, klp, Abs.one, elems, cells, scalar, eqC, Nat.reduceBEq, Nat.reduceAdd, Nat.reduceSub, Nat.reduceLT, Nat.reduceLeDiff, Nat.reduceMul, Nat.reduceEqDiff, cond_true, cond_false, if_true, if_false, reduceIte, implies_true, forall_const, ne_eq])
 | (refine AWPC.both (fun _ => ?_) (fun _ => ?_))
 | (refine AWPC.imp (fun _ => ?_))
 | ((refine .inl ⟨_, _, _, .any, rfl, fun h => absurd h Bool.false_ne_true, ?_⟩); refine owp_of_exs ?_; simp only [zT, zV, zS, zU, vcC, lateX, ex, strp, cnd, binA, kseq, kblk, kret, klp, Abs.one, elems, cells, scalar, eqC, Nat.reduceBEq, Nat.reduceAdd, Nat.reduceSub, Nat.reduceLT, Nat.reduceLeDiff, Nat.reduceMul, Nat.reduceEqDiff, cond_true, cond_false, if_true, if_false, reduceIte, implies_true, forall_const, ne_eq])
 | (refine ⟨by omega, ?_⟩)
 | (refine And.intro (by (intros; first | (simp_all (config := { decide := false }); done) | fail)) ?_)
 | fail)
  refine AWPC.loopE (α := { p : Nat × Sto // p.1 ≤ 2 ∧ (1 ≤ p.1 → ierr a = 0) ∧ (2 ≤ p.1 → ierr b = 0) }) [17] (fun p => [(17, n p.1.1)]) (fun p => S 0 ++ p.1.2) (fun p => 2 - p.1.1) ⟨(0, []), by simp⟩ ?_ (by simp) ?_
  · (simp only [zT, zV, zS, zU, vcC, lateX, ex, strp, cnd, binA, kseq, kblk, kret, klp, Abs.one, elems, cells, scalar, eqC, Nat.reduceBEq, Nat.reduceAdd, Nat.reduceSub, Nat.reduceLT, Nat.reduceLeDiff, Nat.reduceMul, Nat.reduceEqDiff, cond_true, cond_false, if_true, if_false, reduceIte, implies_true, forall_const, ne_eq]; try simp)
  rintro ⟨⟨i, ν⟩, hi, hi1, hi2⟩
  simp only at hi hi1 hi2
  simp only
  have hgd : ([[colS a], [colS b]] : List (List AV)).getD (Int.toNat 1) [] = [colS b] := rfl
  match i, hi with
  | 0, _ =>
    (repeat' first
 | (refine AWPC.of_vcn rfl ?_; simp only [zT, zV, zS, zU, vcC, lateX, ex, strp, cnd, binA, kseq, kblk, kret, klp, Abs.one, elems, cells, scalar, eqC, Nat.reduceBEq, Nat.reduceAdd, Nat.reduceSub, Nat.reduceLT, Nat.reduceLeDiff, Nat.reduceMul, Nat.reduceEqDiff, cond_true, cond_false, if_true, if_false, reduceIte, implies_true, forall_const, ne_eq])
 | (simp (disch := omega) only [wr64, Int.zero_sub]; try simp only [zT, zV, zS, zU, vcC, lateX, ex, strp, cnd, binA, kseq, kblk, kret, klp, Abs.one, elems, cells, scalar, eqC, Nat.reduceBEq, Nat.reduceAdd, Nat.reduceSub, Nat.reduceLT, Nat.reduceLeDiff, Nat.reduceMul, Nat.reduceEqDiff, cond_true, cond_false, if_true, if_false, reduceIte, implies_true, forall_const, ne_eq])
 | (refine AWPC.both (fun _ => ?_) (fun _ => ?_))
 | (refine AWPC.imp (fun _ => ?_))
 | ((repeat (refine And.intro (by (intros; first | omega | (simp_all (config := { decide := false }); done) | fail)) ?_)); (first
 | (refine .inl ⟨_, _, _, _, rfl, fun _hc => ⟨by simp, h1⟩, ?_⟩)
 | (refine ⟨_, _, _, _, rfl, fun _hc => ⟨by simp, h1⟩, ?_⟩)
 | fail); (first | refine owp_of_exs ?_ | refine pre_of_exd ?_ | refine pre_of_exe ?_ | fail); simp only [zT, zV, zS, zU, vcC, lateX, ex, strp, cnd, binA, kseq, kblk, kret, klp, Abs.one, elems, cells, scalar, eqC, Nat.reduceBEq, Nat.reduceAdd, Nat.reduceSub, Nat.reduceLT, Nat.reduceLeDiff, Nat.reduceMul, Nat.reduceEqDiff, cond_true, cond_false, if_true, if_false, reduceIte, implies_true, forall_const, ne_eq])
 | ((refine .inl ⟨_, _, _, .any, rfl, fun h => absurd h Bool.false_ne_true, ?_⟩); refine owp_of_exs ?_; simp only [zT, zV, zS, zU, vcC, lateX, ex, strp, cnd, binA, kseq, kblk, kret, klp, Abs.one, elems, cells, scalar, eqC, Nat.reduceBEq, Nat.reduceAdd, Nat.reduceSub, Nat.reduceLT, Nat.reduceLeDiff, Nat.reduceMul, Nat.reduceEqDiff, cond_true, cond_false, if_true, if_false, reduceIte, implies_true, forall_const, ne_eq])
 | (refine ⟨by omega, ?_⟩)
 | (refine And.intro (by (intros; first | (simp_all (config := { decide := false }); done) | fail)) ?_)
 | fail)
    all_goals try (exfalso; omega)
    · rename_i h
      have hj : jerr a b = ierr a := by unfold jerr; rw [if_pos (.inl h)]; exact (ierr1 fun g => h (ierr0.2 g)).symm
      rw [← hj]; exact herr _ (hj ▸ h)
    · rename_i h
      exact ⟨⟨(1, _), by omega, fun _ => h, fun h => by omega⟩, by simp, rfl, by simp⟩
  | 1, _ =>
    (repeat' first
 | (refine AWPC.of_vcn rfl ?_; simp only [zT, zV, zS, zU, vcC, lateX, ex, strp, cnd, binA, kseq, kblk, kret, klp, Abs.one, elems, cells, scalar, eqC, Nat.reduceBEq, Nat.reduceAdd, Nat.reduceSub, Nat.reduceLT, Nat.reduceLeDiff, Nat.reduceMul, Nat.reduceEqDiff, cond_true, cond_false, if_true, if_false, reduceIte, implies_true, forall_const, ne_eq, hgd])
 | (simp (disch := omega) only [wr64, Int.zero_sub]; try simp only [zT, zV, zS, zU, vcC, lateX, ex, strp, cnd, binA, kseq, kblk, kret, klp, Abs.one, elems, cells, scalar, eqC, Nat.reduceBEq, Nat.reduceAdd, Nat.reduceSub, Nat.reduceLT, Nat.reduceLeDiff, Nat.reduceMul, Nat.reduceEqDiff, cond_true, cond_false, if_true, if_false, reduceIte, implies_true, forall_const, ne_eq, hgd])
 | (refine AWPC.both (fun _ => ?_) (fun _ => ?_))
 | (refine AWPC.imp (fun _ => ?_))
 | ((repeat (refine And.intro (by (intros; first | omega | (simp_all (config := { decide := false }); done) | fail)) ?_)); (first
 | (refine .inl ⟨_, _, _, _, rfl, fun _hc => ⟨by simp, h2⟩, ?_⟩)
 | (refine ⟨_, _, _, _, rfl, fun _hc => ⟨by simp, h2⟩, ?_⟩)
 | fail); (first | refine owp_of_exs ?_ | refine pre_of_exd ?_ | refine pre_of_exe ?_ | fail); simp only [zT, zV, zS, zU, vcC, lateX, ex, strp, cnd, binA, kseq, kblk, kret, klp, Abs.one, elems, cells, scalar, eqC, Nat.reduceBEq, Nat.reduceAdd, Nat.reduceSub, Nat.reduceLT, Nat.reduceLeDiff, Nat.reduceMul, Nat.reduceEqDiff, cond_true, cond_false, if_true, if_false, reduceIte, implies_true, forall_const, ne_eq, hgd])
 | ((refine .inl ⟨_, _, _, .any, rfl, fun h => absurd h Bool.false_ne_true, ?_⟩); refine owp_of_exs ?_; simp only [zT, zV, zS, zU, vcC, lateX, ex, strp, cnd, binA, kseq, kblk, kret, klp, Abs.one, elems, cells, scalar, eqC, Nat.reduceBEq, Nat.reduceAdd, Nat.reduceSub, Nat.reduceLT, Nat.reduceLeDiff, Nat.reduceMul, Nat.reduceEqDiff, cond_true, cond_false, if_true, if_false, reduceIte, implies_true, forall_const, ne_eq, hgd])
 | (refine ⟨by omega, ?_⟩)
 | (refine And.intro (by (intros; first | (simp_all (config := { decide := false }); done) | fail)) ?_)
 | fail)
    all_goals try (exfalso; omega)
    · rename_i h
      have hj : jerr a b = ierr b := by unfold jerr; rw [if_pos (.inr h)]; exact (ierr1 fun g => h (ierr0.2 g)).symm
      rw [← hj]; exact herr _ (hj ▸ h)
    · rename_i h
      exact ⟨⟨(2, _), by omega, fun _ => hi1 (by omega), fun _ => h⟩, by simp, rfl, by simp⟩
  | 2, _ =>
    have e1 := hi1 (by omega)
    have e2 := hi2 (by omega)
    (repeat' first
 | (refine AWPC.of_vcn rfl ?_; simp only [zT, zV, zS, zU, vcC, lateX, ex, strp, cnd, binA, kseq, kblk, kret, klp, Abs.one, elems, cells, scalar, eqC, Nat.reduceBEq, Nat.reduceAdd, Nat.reduceSub, Nat.reduceLT, Nat.reduceLeDiff, Nat.reduceMul, Nat.reduceEqDiff, cond_true, cond_false, if_true, if_false, reduceIte, implies_true, forall_const, ne_eq])
 | (simp (disch := omega) only [wr64, Int.zero_sub]; try simp only [zT, zV, zS, zU, vcC, lateX, ex, strp, cnd, binA, kseq, kblk, kret, klp, Abs.one, elems, cells, scalar, eqC, Nat.reduceBEq, Nat.reduceAdd, Nat.reduceSub, Nat.reduceLT, Nat.reduceLeDiff, Nat.reduceMul, Nat.reduceEqDiff, cond_true, cond_false, if_true, if_false, reduceIte, implies_true, forall_const, ne_eq])
 | (refine AWPC.both (fun _ => ?_) (fun _ => ?_))
 | (refine AWPC.imp (fun _ => ?_))
 | ((refine .inl ⟨_, _, _, .any, rfl, fun h => absurd h Bool.false_ne_true, ?_⟩); refine owp_of_exs ?_; simp only [zT, zV, zS, zU, vcC, lateX, ex, strp, cnd, binA, kseq, kblk, kret, klp, Abs.one, elems, cells, scalar, eqC, Nat.reduceBEq, Nat.reduceAdd, Nat.reduceSub, Nat.reduceLT, Nat.reduceLeDiff, Nat.reduceMul, Nat.reduceEqDiff, cond_true, cond_false, if_true, if_false, reduceIte, implies_true, forall_const, ne_eq])
 | (refine ⟨by omega, ?_⟩)
 | (refine And.intro (by (intros; first | (simp_all (config := { decide := false }); done) | fail)) ?_)
 | fail)
    all_goals try (exfalso; omega)
    · rename_i h
      have hj : jerr a b = 1 := by unfold jerr; rw [if_neg (by omega), if_pos (by omega)]
      have := herr ν (by omega)
      rw [hj] at this; exact this
    · rename_i h
      have hl : a.length = b.length := by omega
      have hj : jerr a b = 0 := by unfold jerr; rw [if_neg (by omega), if_neg (by omega)]
      obtain ⟨g1, g2, _⟩ := jerr0.1 hj
      have hAl : ∀ i, List.length (S i ++ ν) = List.length (S 0 ++ ν) := fun i => by rw [List.length_append, List.length_append, hS]
      have hat : ∀ i L, Sto.at (S i ++ (ν ++ [some L])) (List.length (S 0 ++ ν)) 0 = L[0]? := fun i L => by
        rw [← List.append_assoc, ← hAl i, at_app0]; exact at_cons0 _ _ _
      have hup : ∀ i L q, Sto.upd (S i ++ (ν ++ [some L])) (List.length (S 0 ++ ν)) 0 q = S i ++ (ν ++ [some (L.set 0 q)]) := fun i L q => by
        rw [← List.append_assoc, ← hAl i, upd_app0, List.append_assoc]; rfl
      refine AWPC.own0 34 1 11 rfl ?_
      generalize hA : List.length (S 0 ++ ν) = A at *
      refine AWPC.loopE (α := { i : Nat // i ≤ a.length }) [11, 37] (fun i => [(11, .own A 0 i.1), (37, n i.1)]) (fun i => S i.1 ++ (ν ++ [some [⟨34, 1, ((zipC F a b).take i.1).map (fun l => [spS l]), none⟩]])) (fun i => a.length - i.1) ⟨0, Nat.zero_le _⟩ ?_ (by simp) ?_
      · (simp only [zT, zV, zS, zU, vcC, lateX, ex, strp, cnd, binA, kseq, kblk, kret, klp, Abs.one, elems, cells, scalar, eqC, Nat.reduceBEq, Nat.reduceAdd, Nat.reduceSub, Nat.reduceLT, Nat.reduceLeDiff, Nat.reduceMul, Nat.reduceEqDiff, cond_true, cond_false, if_true, if_false, reduceIte, implies_true, forall_const, ne_eq]; try simp)
      rintro ⟨i, hi⟩
      have hzl : (zipC F a b).length = a.length := by simp [zipC, hl]
      by_cases hlt : i < a.length
      · obtain ⟨p, hp⟩ : ∃ l, a[i]? = some l := ⟨_, List.getElem?_eq_getElem hlt⟩
        obtain ⟨q, hq⟩ : ∃ l, b[i]? = some l := ⟨_, List.getElem?_eq_getElem (by omega)⟩
        have hd := hg i p q (ν ++ [some [⟨34, 1, ((zipC F a b).take i).map (fun l => [spS l]), none⟩]]) hp hq (g1.2 p (List.mem_of_getElem? hp)) (g2.2 q (List.mem_of_getElem? hq))
        have hz : (zipC F a b)[i]? = some (F p q) := by simp [zipC, List.getElem?_zipWith, hp, hq]
        have hzt : (zipC F a b).take (i + 1) = (zipC F a b).take i ++ [F p q] := by rw [List.take_add_one, hz]; rfl
        have hat1 := hat (i + 1) [⟨34, 1, ((zipC F a b).take i).map (fun l => [spS l]), none⟩]
        have hup1 := hup (i + 1) [⟨34, 1, ((zipC F a b).take i).map (fun l => [spS l]), none⟩]
        simp only [List.getElem?_cons_zero, List.set_cons_zero] at hat1 hup1
        have htl : (((zipC F a b).take i).map (fun l => [spS l])).length = i := by simp [hzl]; omega
        (repeat' first
 | (refine AWPC.of_vcn rfl ?_; simp only [zT, zV, zS, zU, vcC, lateX, ex, strp, cnd, binA, kseq, kblk, kret, klp, Abs.one, elems, cells, scalar, eqC, Nat.reduceBEq, Nat.reduceAdd, Nat.reduceSub, Nat.reduceLT, Nat.reduceLeDiff, Nat.reduceMul, Nat.reduceEqDiff, cond_true, cond_false, if_true, if_false, reduceIte, implies_true, forall_const, ne_eq, getD_map hp, getD_map hq])
 | (simp (disch := omega) only [wr64, Int.zero_sub]; try simp only [zT, zV, zS, zU, vcC, lateX, ex, strp, cnd, binA, kseq, kblk, kret, klp, Abs.one, elems, cells, scalar, eqC, Nat.reduceBEq, Nat.reduceAdd, Nat.reduceSub, Nat.reduceLT, Nat.reduceLeDiff, Nat.reduceMul, Nat.reduceEqDiff, cond_true, cond_false, if_true, if_false, reduceIte, implies_true, forall_const, ne_eq, getD_map hp, getD_map hq])
 | (refine AWPC.both (fun _ => ?_) (fun _ => ?_))
 | (refine AWPC.imp (fun _ => ?_))
 | ((refine .inl ⟨_, _, _, .any, rfl, fun h => absurd h Bool.false_ne_true, ?_⟩); refine owp_of_exs ?_; simp only [zT, zV, zS, zU, vcC, lateX, ex, strp, cnd, binA, kseq, kblk, kret, klp, Abs.one, elems, cells, scalar, eqC, Nat.reduceBEq, Nat.reduceAdd, Nat.reduceSub, Nat.reduceLT, Nat.reduceLeDiff, Nat.reduceMul, Nat.reduceEqDiff, cond_true, cond_false, if_true, if_false, reduceIte, implies_true, forall_const, ne_eq, getD_map hp, getD_map hq])
 | (refine ⟨by omega, ?_⟩)
 | (refine And.intro (by (intros; first | (simp_all (config := { decide := false }); done) | fail)) ?_)
 | fail)
        all_goals try (exfalso; omega)
        refine ⟨.inr (.inl ⟨_, _, _, _, rfl, fun _ => ⟨hd, ?_⟩, fun h => by cases h⟩), .inr ⟨_, _, _, _, rfl, hd, ?_⟩⟩
        · rintro res σ' ⟨rfl, rfl⟩
          refine owp_of_exs ?_
          simp only [zT, zV, zS, zU, vcC, lateX, ex, strp, cnd, binA, kseq, kblk, kret, klp, Abs.one, elems, cells, scalar, eqC, Nat.reduceBEq, Nat.reduceAdd, Nat.reduceSub, Nat.reduceLT, Nat.reduceLeDiff, Nat.reduceMul, Nat.reduceEqDiff, cond_true, cond_false, if_true, if_false, reduceIte, implies_true, forall_const, ne_eq, hat1, hup1, htl]
          refine ⟨by have := g1.1; omega, ?_⟩
          (repeat' first
 | (refine AWPC.of_vcn rfl ?_; simp only [zT, zV, zS, zU, vcC, lateX, ex, strp, cnd, binA, kseq, kblk, kret, klp, Abs.one, elems, cells, scalar, eqC, Nat.reduceBEq, Nat.reduceAdd, Nat.reduceSub, Nat.reduceLT, Nat.reduceLeDiff, Nat.reduceMul, Nat.reduceEqDiff, cond_true, cond_false, if_true, if_false, reduceIte, implies_true, forall_const, ne_eq])
 | (simp (disch := omega) only [wr64, Int.zero_sub]; try simp only [zT, zV, zS, zU, vcC, lateX, ex, strp, cnd, binA, kseq, kblk, kret, klp, Abs.one, elems, cells, scalar, eqC, Nat.reduceBEq, Nat.reduceAdd, Nat.reduceSub, Nat.reduceLT, Nat.reduceLeDiff, Nat.reduceMul, Nat.reduceEqDiff, cond_true, cond_false, if_true, if_false, reduceIte, implies_true, forall_const, ne_eq])
 | (refine AWPC.both (fun _ => ?_) (fun _ => ?_))
 | (refine AWPC.imp (fun _ => ?_))
 | ((refine .inl ⟨_, _, _, .any, rfl, fun h => absurd h Bool.false_ne_true, ?_⟩); refine owp_of_exs ?_; simp only [zT, zV, zS, zU, vcC, lateX, ex, strp, cnd, binA, kseq, kblk, kret, klp, Abs.one, elems, cells, scalar, eqC, Nat.reduceBEq, Nat.reduceAdd, Nat.reduceSub, Nat.reduceLT, Nat.reduceLeDiff, Nat.reduceMul, Nat.reduceEqDiff, cond_true, cond_false, if_true, if_false, reduceIte, implies_true, forall_const, ne_eq])
 | (refine ⟨by omega, ?_⟩)
 | (refine And.intro (by (intros; first | (simp_all (config := { decide := false }); done) | fail)) ?_)
 | fail)
          exact ⟨⟨i + 1, hlt⟩, ⟨rfl, by simp⟩, by simp only; rw [hzt]; simp, by simp only; omega⟩
        · rintro res σ' ⟨rfl, rfl⟩
          refine ⟨owp_of_exs ?_, owp_of_exs ?_⟩
          all_goals
            simp only [zT, zV, zS, zU, vcC, lateX, ex, strp, cnd, binA, kseq, kblk, kret, klp, Abs.one, elems, cells, scalar, eqC, Nat.reduceBEq, Nat.reduceAdd, Nat.reduceSub, Nat.reduceLT, Nat.reduceLeDiff, Nat.reduceMul, Nat.reduceEqDiff, cond_true, cond_false, if_true, if_false, reduceIte, implies_true, forall_const, ne_eq, hat1, hup1, htl]
            refine ⟨by have := g1.1; omega, ?_⟩
            (repeat' first
 | (refine AWPC.of_vcn rfl ?_; simp only [zT, zV, zS, zU, vcC, lateX, ex, strp, cnd, binA, kseq, kblk, kret, klp, Abs.one, elems, cells, scalar, eqC, Nat.reduceBEq, Nat.reduceAdd, Nat.reduceSub, Nat.reduceLT, Nat.reduceLeDiff, Nat.reduceMul, Nat.reduceEqDiff, cond_true, cond_false, if_true, if_false, reduceIte, implies_true, forall_const, ne_eq])
 | (simp (disch := omega) only [wr64, Int.zero_sub]; try simp only [zT, zV, zS, zU, vcC, lateX, ex, strp, cnd, binA, kseq, kblk, kret, klp, Abs.one, elems, cells, scalar, eqC, Nat.reduceBEq, Nat.reduceAdd, Nat.reduceSub, Nat.reduceLT, Nat.reduceLeDiff, Nat.reduceMul, Nat.reduceEqDiff, cond_true, cond_false, if_true, if_false, reduceIte, implies_true, forall_const, ne_eq])
 | (refine AWPC.both (fun _ => ?_) (fun _ => ?_))
 | (refine AWPC.imp (fun _ => ?_))
 | ((refine .inl ⟨_, _, _, .any, rfl, fun h => absurd h Bool.false_ne_true, ?_⟩); refine owp_of_exs ?_; simp only [zT, zV, zS, zU, vcC, lateX, ex, strp, cnd, binA, kseq, kblk, kret, klp, Abs.one, elems, cells, scalar, eqC, Nat.reduceBEq, Nat.reduceAdd, Nat.reduceSub, Nat.reduceLT, Nat.reduceLeDiff, Nat.reduceMul, Nat.reduceEqDiff, cond_true, cond_false, if_true, if_false, reduceIte, implies_true, forall_const, ne_eq])
 | (refine ⟨by omega, ?_⟩)
 | (refine And.intro (by (intros; first | (simp_all (config := { decide := false }); done) | fail)) ?_)
 | fail)
            exact ⟨⟨i + 1, hlt⟩, ⟨rfl, by simp⟩, by simp only; rw [hzt]; simp, by simp only; omega⟩
      · obtain rfl : i = a.length := by omega
        (repeat' first
 | (refine AWPC.of_vcn rfl ?_; simp only [zT, zV, zS, zU, vcC, lateX, ex, strp, cnd, binA, kseq, kblk, kret, klp, Abs.one, elems, cells, scalar, eqC, Nat.reduceBEq, Nat.reduceAdd, Nat.reduceSub, Nat.reduceLT, Nat.reduceLeDiff, Nat.reduceMul, Nat.reduceEqDiff, cond_true, cond_false, if_true, if_false, reduceIte, implies_true, forall_const, ne_eq, hat])
 | (simp (disch := omega) only [wr64, Int.zero_sub]; try simp only [zT, zV, zS, zU, vcC, lateX, ex, strp, cnd, binA, kseq, kblk, kret, klp, Abs.one, elems, cells, scalar, eqC, Nat.reduceBEq, Nat.reduceAdd, Nat.reduceSub, Nat.reduceLT, Nat.reduceLeDiff, Nat.reduceMul, Nat.reduceEqDiff, cond_true, cond_false, if_true, if_false, reduceIte, implies_true, forall_const, ne_eq, hat])
 | (refine AWPC.both (fun _ => ?_) (fun _ => ?_))
 | (refine AWPC.imp (fun _ => ?_))
 | ((refine .inl ⟨_, _, _, .any, rfl, fun h => absurd h Bool.false_ne_true, ?_⟩); refine owp_of_exs ?_; simp only [zT, zV, zS, zU, vcC, lateX, ex, strp, cnd, binA, kseq, kblk, kret, klp, Abs.one, elems, cells, scalar, eqC, Nat.reduceBEq, Nat.reduceAdd, Nat.reduceSub, Nat.reduceLT, Nat.reduceLeDiff, Nat.reduceMul, Nat.reduceEqDiff, cond_true, cond_false, if_true, if_false, reduceIte, implies_true, forall_const, ne_eq, hat])
 | (refine ⟨by omega, ?_⟩)
 | (refine And.intro (by (intros; first | (simp_all (config := { decide := false }); done) | fail)) ?_)
 | fail)
        all_goals try (exfalso; omega)
        rw [← hPost]
        rw [List.take_of_length_le (by omega)]
        refine ⟨S a.length, _, .tup [colS (zipC F a b), n 0], rfl, hS _, ?_, ⟨by rw [if_pos hj, hj], by rw [if_pos hj]⟩, hob _⟩
        rw [← hzl]
        refine Frz.tup rfl fun i hi => ?_
        match i, hi with
        | 0, _ => exact frz_col (by
            rw [← hA, List.length_append, ← hS (zipC F a b).length]; exact at_blank_end _ ν _)
        | 1, _ => exact Frz.eq rfl (by simp)
end Go.Proofs.Ytgpdckmbojmlpaa

namespace Go.Proofs.Ytgpdckmbojmlpaa
open Go.Abs
set_option linter.unusedVariables false
set_option linter.unusedSimpArgs false
set_option maxHeartbeats 4000000
set_option maxRecDepth 100000
-- aneroid/paper.Either
def c64 : CF := ⟨15,
 (.seq (.ops [
 ⟨(some 2), .box false 56 1 (.t 0), none⟩,
 ⟨(some 3), .box false 56 1 (.t 1), none⟩,
 ⟨(some 4), .alloc 56 1 [.slice none 0 0], none⟩,
 ⟨(some 5), .mv (.c (.int .i64 0)), none⟩] [2, 3, 4])
 (.seq (.ops [
 ⟨(some 6), .build [.nilFunc] [(0, 1, (.f 118))], none⟩,
 ⟨(some 7), .load (some 1) (.t 2), none⟩,
 ⟨(some 8), .load (some 1) (.t 3), none⟩,
 ⟨(some 9), .call (.f 114) [(.t 6), (.t 7), (.t 8)], none⟩,
 ⟨(some 10), .ext 0 (.t 9), none⟩,
 ⟨(some 11), .ext 1 (.t 9), none⟩,
 ⟨(some 12), .call (.f 111) [(.t 10), (.t 11)], none⟩,
 ⟨(some 13), .ext 0 (.t 12), none⟩,
 ⟨(some 14), .ext 1 (.t 12), none⟩,
 ⟨none, .store 1 (.t 4) (.t 13), none⟩,
 ⟨(some 5), .mv (.t 14), none⟩] [4, 5])
 .ret)),
 [.c 4 (some 1), .t 5]⟩
theorem k64 : chkF Try.prog Try.f64 c64 = true := by kernel_rfl

theorem Pure.does {P : Program} {f : Nat} {args : List AV} {r : AV} {σ : Sto} (h : Pure P f args r) (hp : ∀ a ∈ args, PureV a) : Does P f args σ (fun v σ' => v = r ∧ σ' = σ) := by
  refine ⟨h.ent, fun X β w xs hX hs hl hr => (h.go (Xt X β σ) w xs (fun b hb => Xt_lt hs hX hb) hl (fun i hi => hp _ (getD_mem hi) _ _ _ _ _ (hr i hi))).mono ?_⟩
  rintro e w' ⟨x, rfl, hr, hsz, hold, hio⟩
  exact ⟨x, r, σ, β, rfl, ⟨rfl, rfl⟩, hs.same hsz hold, hr.out, Ext.same hsz hold hio, Kp.same hsz hold hs⟩

theorem zipC_len (F : List Sp → List Sp → List Sp) (a b : List (List Sp)) : (zipC F a b).length ≤ a.length := by simp [zipC]; omega

/-- Every column is of either sheet. -/
noncomputable def eitherE (a b : List (List Sp)) : List (List Sp) × Int := if jerr a b = 0 then lim (zipC eitherC a b) else ([], jerr a b)

theorem lens_zip {F : List Sp → List Sp → List Sp} {a b : List (List Sp)} (ha : rightInk a) (hb : rightInk b) (hF : ∀ p q, good p → good q → (F p q).length ≤ 1000) : Lens (zipC F a b) := by
  refine ⟨by have := zipC_len F a b; have := ha.1; omega, fun l hl => ?_⟩
  obtain ⟨i, hi⟩ := List.getElem?_of_mem hl
  simp only [zipC, List.getElem?_zipWith] at hi
  cases hp : a[i]? with
  | none => simp [hp] at hi
  | some p =>
    cases hq : b[i]? with
    | none => simp [hp, hq] at hi
    | some q =>
      simp only [hp, hq, Option.some.injEq] at hi
      subst hi
      have := hF p q (ha.2 p (List.mem_of_getElem? hp)) (hb.2 q (List.mem_of_getElem? hq)); omega

theorem Either_spec (a b : List (List Sp)) (ha : Lens a) (hb : Lens b) : Pure Try.prog 64 [ink a, ink b] (.tup [ink (eitherE a b).1, n (eitherE a b).2]) := by
  refine Pure.of_body Try.call64 Try.func64 k64 (Nat.le_of_ble_eq_true rfl) ?_
  have he := each_does 118 [] eitherC (fun _ => [some [⟨56, 1, [[.v (.slice none 0 0)]], none⟩]]) a b ha hb (fun _ => rfl)
    (fun m g i o h => ⟨by
      match g, i, h with
      | 0, 0, h => cases h; rfl
      | 0, i + 1, h => simp [Sto.at] at h
      | g + 1, i, h => simp [Sto.at] at h, .inl h⟩)
    (fun i p q ν _ _ hp hq => Pure.does (either1_spec p q hp hq) (fun c hc => by
      simp only [List.mem_append, List.mem_cons, List.not_mem_nil, or_false] at hc
      rcases hc with rfl | rfl <;> exact pureV_spS _))
  unfold c64
  (repeat' first
 | (refine AWPC.of_vcn rfl ?_; simp only [zT, zV, zS, zU, vcC, lateX, ex, strp, cnd, binA, kseq, kblk, kret, klp, Abs.one, elems, cells, scalar, eqC, Nat.reduceBEq, Nat.reduceAdd, Nat.reduceSub, Nat.reduceLT, Nat.reduceLeDiff, Nat.reduceMul, Nat.reduceEqDiff, cond_true, cond_false, if_true, if_false, reduceIte, implies_true, forall_const, ne_eq])
 | (simp (disch := omega) only [wr64, Int.zero_sub]; try simp only [zT, zV, zS, zU, vcC, lateX, ex, strp, cnd, binA, kseq, kblk, kret, klp, Abs.one, elems, cells, scalar, eqC, Nat.reduceBEq, Nat.reduceAdd, Nat.reduceSub, Nat.reduceLT, Nat.reduceLeDiff, Nat.reduceMul, Nat.reduceEqDiff, cond_true, cond_false, if_true, if_false, reduceIte, implies_true, forall_const, ne_eq])
 | (refine AWPC.both (fun _ => ?_) (fun _ => ?_))
 | (refine AWPC.imp (fun _ => ?_))
 | ((refine .inl ⟨_, _, _, .any, rfl, fun h => absurd h Bool.false_ne_true, ?_⟩); refine owp_of_exs ?_; simp only [zT, zV, zS, zU, vcC, lateX, ex, strp, cnd, binA, kseq, kblk, kret, klp, Abs.one, elems, cells, scalar, eqC, Nat.reduceBEq, Nat.reduceAdd, Nat.reduceSub, Nat.reduceLT, Nat.reduceLeDiff, Nat.reduceMul, Nat.reduceEqDiff, cond_true, cond_false, if_true, if_false, reduceIte, implies_true, forall_const, ne_eq])
 | (refine ⟨by omega, ?_⟩)
 | (refine And.intro (by (intros; first | (simp_all (config := { decide := false }); done) | fail)) ?_)
 | fail)
  refine .inr (.inl ⟨_, _, _, _, rfl, fun _ => ⟨he, ?_⟩, fun h => by cases h⟩)
  rintro res σ' ⟨rfl, rfl⟩
  refine owp_of_exs ?_
  simp only [zT, zV, zS, zU, vcC, lateX, ex, strp, cnd, binA, kseq, kblk, kret, klp, Abs.one, elems, cells, scalar, eqC, Nat.reduceBEq, Nat.reduceAdd, Nat.reduceSub, Nat.reduceLT, Nat.reduceLeDiff, Nat.reduceMul, Nat.reduceEqDiff, cond_true, cond_false, if_true, if_false, reduceIte, implies_true, forall_const, ne_eq]
  have hL : Lens (if jerr a b = 0 then zipC eitherC a b else []) := by
    by_cases hj : jerr a b = 0
    · rw [if_pos hj]
      obtain ⟨g1, g2, _⟩ := jerr0.1 hj
      refine lens_zip g1 g2 fun p q hp hq => ?_
      by_cases h : p.length = 0 ∨ q.length = 0
      · rw [show eitherC p q = [] from if_pos h]; simp
      · rw [show eitherC p q = joins p q from if_neg h]
        have h1 := (joins_ok hq.bd hp.oks).len
        have h2 : (joins p q).length ≤ p.length + q.length := (joins_ok hq.bd (m := p.length) ⟨hp.1, hp.bd, Nat.le_refl _⟩).len
        have := hp.2.2; have := hq.2.2; omega
    · rw [if_neg hj]; exact ⟨by simp, fun l h => by cases h⟩
  have hl := limited_spec _ (jerr a b) hL
  (repeat' first
 | (refine AWPC.of_vcn rfl ?_; simp only [zT, zV, zS, zU, vcC, lateX, ex, strp, cnd, binA, kseq, kblk, kret, klp, Abs.one, elems, cells, scalar, eqC, Nat.reduceBEq, Nat.reduceAdd, Nat.reduceSub, Nat.reduceLT, Nat.reduceLeDiff, Nat.reduceMul, Nat.reduceEqDiff, cond_true, cond_false, if_true, if_false, reduceIte, implies_true, forall_const, ne_eq])
 | (simp (disch := omega) only [wr64, Int.zero_sub]; try simp only [zT, zV, zS, zU, vcC, lateX, ex, strp, cnd, binA, kseq, kblk, kret, klp, Abs.one, elems, cells, scalar, eqC, Nat.reduceBEq, Nat.reduceAdd, Nat.reduceSub, Nat.reduceLT, Nat.reduceLeDiff, Nat.reduceMul, Nat.reduceEqDiff, cond_true, cond_false, if_true, if_false, reduceIte, implies_true, forall_const, ne_eq])
 | (refine AWPC.both (fun _ => ?_) (fun _ => ?_))
 | (refine AWPC.imp (fun _ => ?_))
 | ((repeat (refine And.intro (by (intros; first | omega | (simp_all (config := { decide := false }); done) | fail)) ?_)); (first
 | (refine .inl ⟨_, _, _, _, rfl, fun _hc => ⟨by simp, hl⟩, ?_⟩)
 | (refine ⟨_, _, _, _, rfl, fun _hc => ⟨by simp, hl⟩, ?_⟩)
 | fail); (first | refine owp_of_exs ?_ | refine pre_of_exd ?_ | refine pre_of_exe ?_ | fail); simp only [zT, zV, zS, zU, vcC, lateX, ex, strp, cnd, binA, kseq, kblk, kret, klp, Abs.one, elems, cells, scalar, eqC, Nat.reduceBEq, Nat.reduceAdd, Nat.reduceSub, Nat.reduceLT, Nat.reduceLeDiff, Nat.reduceMul, Nat.reduceEqDiff, cond_true, cond_false, if_true, if_false, reduceIte, implies_true, forall_const, ne_eq])
 | ((refine .inl ⟨_, _, _, .any, rfl, fun h => absurd h Bool.false_ne_true, ?_⟩); refine owp_of_exs ?_; simp only [zT, zV, zS, zU, vcC, lateX, ex, strp, cnd, binA, kseq, kblk, kret, klp, Abs.one, elems, cells, scalar, eqC, Nat.reduceBEq, Nat.reduceAdd, Nat.reduceSub, Nat.reduceLT, Nat.reduceLeDiff, Nat.reduceMul, Nat.reduceEqDiff, cond_true, cond_false, if_true, if_false, reduceIte, implies_true, forall_const, ne_eq])
 | (refine ⟨by omega, ?_⟩)
 | (refine And.intro (by (intros; first | (simp_all (config := { decide := false }); done) | fail)) ?_)
 | fail)
  refine Frz.eq ?_ (pureV_inkE _ _)
  unfold eitherE
  by_cases hj : jerr a b = 0
  · simp only [hj, if_true]
  · simp only [hj, if_false]
end Go.Proofs.Ytgpdckmbojmlpaa

namespace Go.Proofs.Ytgpdckmbojmlpaa
open Go.Abs
set_option linter.unusedVariables false
set_option linter.unusedSimpArgs false
set_option maxHeartbeats 4000000
set_option maxRecDepth 100000

/-- A set of levels, of any length. -/
def Nb (p : List Sp) : Prop := Norm p ∧ ∀ s ∈ p, 0 ≤ s.lo ∧ s.hi ≤ 12000

section
variable {p q r : List Sp}
theorem Nb.bd (h : Nb p) : ∀ s ∈ p, -1000000 ≤ s.lo ∧ s.hi ≤ 1000000 := fun s hs => by have := h.2 s hs; omega
theorem Nb.mem (h : Nb p) {v : Int} (hv : Mem v p) : 0 ≤ v ∧ v ≤ 12000 := by
  obtain ⟨s, hs, h1, h2⟩ := hv
  have := h.2 s hs; omega
theorem Nb.of (hn : Norm p) (h : ∀ v, Mem v p → 0 ≤ v ∧ v ≤ 12000) : Nb p := ⟨hn, in_of_mem hn h⟩
theorem good.nb (h : good p) : Nb p := ⟨h.1, h.2.1⟩
theorem Nb.good (h : Nb p) (hl : p.length ≤ 8) : good p := ⟨h.1, h.2, hl⟩
theorem mem_meet (hp : Nb p) (v : Int) : Mem v (meet p q) ↔ Mem v p ∧ Mem v q := (meet_all p q hp.bd).2 v
theorem nb_meet (hp : Nb p) : Nb (meet p q) := .of (meet_all p q hp.bd).1.nm fun v hv => hp.mem ((mem_meet hp v).1 hv).1
theorem mem_joins (hp : Nb p) (v : Int) : Mem v (joins p q) ↔ Mem v p ∨ Mem v q := joins_mem hp.1 v
theorem nb_joins (hp : Nb p) (hq : Nb q) : Nb (joins p q) := .of (joins_norm hp.1) fun v hv => ((mem_joins hp v).1 hv).elim hp.mem hq.mem
theorem nb_nil : Nb [] := ⟨trivial, fun s h => by cases h⟩
theorem Nb.nil_iff (hp : Nb p) : p = [] ↔ ∀ v, ¬ Mem v p := hp.1.nil_iff
theorem Nb.ext (hp : Nb p) (hq : Nb q) (h : ∀ v, Mem v p ↔ Mem v q) : p = q := Norm.ext hp.1 hq.1 h
theorem Nb.ext_iff (hp : Nb p) (hq : Nb q) : p = q ↔ ∀ v, Mem v p ↔ Mem v q := ⟨fun h v => by rw [h], hp.ext hq⟩
theorem Nb.ne (hp : Nb p) (h : p ≠ []) : ∃ v, Mem v p := Classical.byContradiction fun g => h (hp.nil_iff.2 fun v hv => g ⟨v, hv⟩)
theorem meet_eq (hp : Nb p) : meet p q = p ↔ ∀ v, Mem v p → Mem v q := by
  rw [(nb_meet hp).ext_iff hp]
  exact ⟨fun h v hv => ((mem_meet hp v).1 ((h v).2 hv)).2, fun h v => by rw [mem_meet hp]; exact ⟨fun g => g.1, fun g => ⟨g, h v g⟩⟩⟩
theorem joins_eq (hp : Nb p) (hq : Nb q) : joins p q = q ↔ ∀ v, Mem v p → Mem v q := by
  rw [(nb_joins hp hq).ext_iff hq]
  exact ⟨fun h v hv => (h v).1 ((mem_joins hp v).2 (.inl hv)), fun h v => by rw [mem_joins hp]; exact ⟨fun g => g.elim (h v) id, .inr⟩⟩

theorem len0 {α : Type} {l : List α} : l.length = 0 ↔ l = [] := List.length_eq_zero_iff
theorem withinC_iff (hp : Nb p) : withinC p q = true ↔ q = [] ∨ p ≠ [] ∧ ∀ v, Mem v p → Mem v q := by
  rw [withinC, Bool.or_eq_true, Bool.and_eq_true, decide_eq_true_eq, decide_eq_true_eq, decide_eq_true_eq, meet_eq hp, len0, List.length_pos_iff]
theorem bothC_l : bothC [] q = q := if_pos rfl
theorem bothC_r : bothC p [] = p := by
  unfold bothC
  by_cases h : p.length = 0
  · rw [if_pos h]; exact (len0.1 h).symm
  · rw [if_neg h]; exact if_pos rfl
theorem bothC_m (hp : p ≠ []) (hq : q ≠ []) : bothC p q = meet p q := by unfold bothC; rw [if_neg (by rwa [len0]), if_neg (by rwa [len0])]
theorem eitherC_l : eitherC [] q = [] := if_pos (.inl rfl)
theorem eitherC_r : eitherC p [] = [] := if_pos (.inr rfl)
theorem eitherC_m (hp : p ≠ []) (hq : q ≠ []) : eitherC p q = joins p q := by unfold eitherC; rw [if_neg]; exact fun h => h.elim (fun h => hp (len0.1 h)) fun h => hq (len0.1 h)
theorem lostC_iff : lostC p q = true ↔ p ≠ [] ∧ q ≠ [] ∧ meet p q = [] := by rw [lostC, decide_eq_true_eq, len0, Ne, len0, Ne, len0]
theorem lostC_m (hp : p ≠ []) (hq : q ≠ []) (h : lostC p q = false) : meet p q ≠ [] := fun g => by rw [lostC_iff.2 ⟨hp, hq, g⟩] at h; cases h
theorem nb_both (hp : Nb p) (hq : Nb q) : Nb (bothC p q) := by
  by_cases h : p = []
  · rw [h, bothC_l]; exact hq
  · by_cases h' : q = []
    · rw [h', bothC_r]; exact hp
    · rw [bothC_m h h']; exact nb_meet hp
theorem joins_ne (hp : Nb p) (h : p ≠ []) : joins p q ≠ [] := fun g => by
  obtain ⟨v, hv⟩ := hp.ne h
  have := (mem_joins (q := q) hp v).2 (.inl hv)
  rw [g] at this; exact Mem.nil this
theorem nb_either (hp : Nb p) (hq : Nb q) : Nb (eitherC p q) := by
  by_cases h : p = []
  · rw [h, eitherC_l]; exact nb_nil
  · by_cases h' : q = []
    · rw [h', eitherC_r]; exact nb_nil
    · rw [eitherC_m h h']; exact nb_joins hp hq
theorem both_comm (hp : Nb p) (hq : Nb q) : bothC p q = bothC q p := by
  by_cases h : p = []
  · rw [h, bothC_l, bothC_r]
  · by_cases h' : q = []
    · rw [h', bothC_r, bothC_l]
    · rw [bothC_m h h', bothC_m h' h]
      exact (nb_meet hp).ext (nb_meet hq) fun v => by rw [mem_meet hp, mem_meet hq, and_comm]
theorem lost_comm (hp : Nb p) (hq : Nb q) : lostC p q = lostC q p := by
  rw [Bool.eq_iff_iff, lostC_iff, lostC_iff, (nb_meet hp).nil_iff, (nb_meet hq).nil_iff]
  constructor
  · rintro ⟨h1, h2, h⟩; exact ⟨h2, h1, fun v hv => h v ((mem_meet hp v).2 ((mem_meet hq v).1 hv).symm)⟩
  · rintro ⟨h1, h2, h⟩; exact ⟨h2, h1, fun v hv => h v ((mem_meet hq v).2 ((mem_meet hp v).1 hv).symm)⟩
theorem either_comm (hp : Nb p) (hq : Nb q) : eitherC p q = eitherC q p := by
  by_cases h : p = []
  · rw [h, eitherC_l, eitherC_r]
  · by_cases h' : q = []
    · rw [h', eitherC_r, eitherC_l]
    · rw [eitherC_m h h', eitherC_m h' h]
      exact (nb_joins hp hq).ext (nb_joins hq hp) fun v => by rw [mem_joins hp, mem_joins hq, or_comm]
theorem both_self (hp : Nb p) : bothC p p = p := by
  by_cases h : p = []
  · rw [h, bothC_l]
  · rw [bothC_m h h]; exact (meet_eq hp).2 fun v hv => hv
theorem lost_self (hp : Nb p) : lostC p p = false := by
  rw [Bool.eq_false_iff, Ne, lostC_iff]
  rintro ⟨h, _, g⟩
  rw [(meet_eq hp).2 fun v hv => hv] at g
  exact h g
theorem either_self (hp : Nb p) : eitherC p p = p := by
  by_cases h : p = []
  · rw [h, eitherC_l]
  · rw [eitherC_m h h]; exact (joins_eq hp hp).2 fun v hv => hv
theorem either_both (hp : Nb p) (hq : Nb q) (hl : lostC p q = false) : eitherC p (bothC p q) = p := by
  by_cases h : p = []
  · rw [h, eitherC_l]
  · by_cases h' : q = []
    · rw [h', bothC_r, either_self hp]
    · rw [bothC_m h h', eitherC_m h (lostC_m h h' hl)]
      exact (nb_joins hp (nb_meet hp)).ext hp fun v => by rw [mem_joins hp, mem_meet hp]; exact ⟨fun g => g.elim id And.left, .inl⟩
theorem both_either (hp : Nb p) (hq : Nb q) : bothC p (eitherC p q) = p ∧ lostC p (eitherC p q) = false := by
  by_cases h : p = []
  · subst h; rw [eitherC_l, bothC_l]; exact ⟨rfl, rfl⟩
  · by_cases h' : q = []
    · subst h'; rw [eitherC_r, bothC_r]; exact ⟨rfl, by rw [Bool.eq_false_iff, Ne, lostC_iff]; exact fun g => g.2.1 rfl⟩
    · have hm : meet p (joins p q) = p := (meet_eq hp).2 fun v hv => (mem_joins hp v).2 (.inl hv)
      rw [eitherC_m h h', bothC_m h (joins_ne hp h)]
      refine ⟨hm, ?_⟩
      rw [Bool.eq_false_iff, Ne, lostC_iff, hm]
      exact fun g => h g.2.2
theorem within_both (hp : Nb p) : withinC p q = true ↔ bothC p q = p := by
  rw [withinC_iff hp]
  by_cases h' : q = []
  · subst h'; simp [bothC_r]
  · by_cases h : p = []
    · subst h; simp [bothC_l, h']
    · rw [bothC_m h h', meet_eq hp]; simp [h, h']
theorem within_either (hp : Nb p) (hq : Nb q) : withinC p q = true ↔ eitherC p q = q := by
  rw [withinC_iff hp]
  by_cases h' : q = []
  · subst h'; simp [eitherC_r]
  · by_cases h : p = []
    · subst h; simp [eitherC_l, h']
    · rw [eitherC_m h h', joins_eq hp hq]; simp [h, h']
theorem within_lost (hp : Nb p) (h : withinC p q = true) : lostC p q = false := by
  rw [Bool.eq_false_iff, Ne, lostC_iff]
  rintro ⟨h1, h2, h3⟩
  rw [within_both hp, bothC_m h1 h2, h3] at h
  exact h1 h.symm
theorem both_within (hp : Nb p) (hq : Nb q) (hl : lostC p q = false) : withinC (bothC p q) p = true ∧ withinC (bothC p q) q = true := by
  rw [withinC_iff (nb_both hp hq), withinC_iff (nb_both hp hq)]
  by_cases h : p = []
  · subst h; rw [bothC_l]; refine ⟨.inl rfl, ?_⟩
    by_cases h' : q = []
    · exact .inl h'
    · exact .inr ⟨h', fun v hv => hv⟩
  · by_cases h' : q = []
    · subst h'; rw [bothC_r]; exact ⟨.inr ⟨h, fun v hv => hv⟩, .inl rfl⟩
    · rw [bothC_m h h']
      exact ⟨.inr ⟨lostC_m h h' hl, fun v hv => ((mem_meet hp v).1 hv).1⟩, .inr ⟨lostC_m h h' hl, fun v hv => ((mem_meet hp v).1 hv).2⟩⟩
theorem within_two (hp : Nb p) (hq : Nb q) (hr : Nb r) (hl : lostC p q = false) : withinC r (bothC p q) = (withinC r p && withinC r q) := by
  rw [Bool.eq_iff_iff, Bool.and_eq_true, withinC_iff hr, withinC_iff hr, withinC_iff hr]
  by_cases h : p = []
  · subst h; simp [bothC_l]
  · by_cases h' : q = []
    · subst h'; simp [bothC_r]
    · rw [bothC_m h h']
      have := lostC_m h h' hl
      simp only [h, h', this, false_or, mem_meet hp]
      exact ⟨fun g => ⟨⟨g.1, fun v hv => (g.2 v hv).1⟩, g.1, fun v hv => (g.2 v hv).2⟩, fun g => ⟨g.1.1, fun v hv => ⟨g.1.2 v hv, g.2.2 v hv⟩⟩⟩
theorem lost_none (hp : Nb p) (hr : Nb r) (hl : lostC p q = true) (h1 : withinC r p = true) (h2 : withinC r q = true) : False := by
  obtain ⟨g1, g2, g3⟩ := lostC_iff.1 hl
  rw [withinC_iff hr] at h1 h2
  obtain ⟨e1, e2⟩ := h1.resolve_left g1
  obtain ⟨_, e3⟩ := h2.resolve_left g2
  obtain ⟨v, hv⟩ := hr.ne e1
  have := (mem_meet (q := q) hp v).2 ⟨e2 v hv, e3 v hv⟩
  rw [g3] at this; exact Mem.nil this
theorem within_one (hp : Nb p) (hq : Nb q) : withinC p (eitherC p q) = true := by
  rw [within_both hp]; exact (both_either hp hq).1
theorem one_within (hp : Nb p) (hq : Nb q) : withinC (eitherC p q) r = (withinC p r && withinC q r) := by
  rw [Bool.eq_iff_iff, Bool.and_eq_true, withinC_iff (nb_either hp hq), withinC_iff hp, withinC_iff hq]
  by_cases hr : r = []
  · simp [hr]
  · by_cases h : p = []
    · subst h; simp [eitherC_l, hr]
    · by_cases h' : q = []
      · subst h'; simp [eitherC_r, hr]
      · rw [eitherC_m h h']
        simp only [hr, false_or, joins_ne hp h, h, h', mem_joins hp, ne_eq, not_false_eq_true, true_and]
        exact ⟨fun g => ⟨fun v hv => g v (.inl hv), fun v hv => g v (.inr hv)⟩, fun g v hv => hv.elim (g.1 v) (g.2 v)⟩
theorem both_assoc (hp : Nb p) (hq : Nb q) (hr : Nb r) (h1 : lostC p q = false) (h2 : lostC q r = false) : bothC (bothC p q) r = bothC p (bothC q r) := by
  by_cases h : p = []
  · subst h; rw [bothC_l, bothC_l]
  · by_cases h' : q = []
    · subst h'; rw [bothC_l, bothC_r]
    · by_cases h'' : r = []
      · subst h''; rw [bothC_r, bothC_r]
      · rw [bothC_m h h', bothC_m h' h'', bothC_m (lostC_m h h' h1) h'', bothC_m h (lostC_m h' h'' h2)]
        exact (nb_meet (nb_meet hp)).ext (nb_meet hp) fun v => by rw [mem_meet (nb_meet hp), mem_meet hp, mem_meet hp, mem_meet hq, and_assoc]
theorem either_assoc (hp : Nb p) (hq : Nb q) (hr : Nb r) : eitherC (eitherC p q) r = eitherC p (eitherC q r) := by
  by_cases h : p = []
  · subst h; rw [eitherC_l, eitherC_l, eitherC_l]
  · by_cases h' : q = []
    · subst h'; rw [eitherC_r, eitherC_l, eitherC_r]
    · by_cases h'' : r = []
      · subst h''; rw [eitherC_r, eitherC_r, eitherC_r]
      · rw [eitherC_m h h', eitherC_m h' h'', eitherC_m (joins_ne hp h) h'', eitherC_m h (joins_ne hq h')]
        exact (nb_joins (nb_joins hp hq) hr).ext (nb_joins hp (nb_joins hq hr)) fun v => by rw [mem_joins (nb_joins hp hq), mem_joins hp, mem_joins hp, mem_joins hq, or_assoc]
end

section
variable {a b c : List (List Sp)} {F G : List Sp → List Sp → List Sp}
theorem zip_get (F : List Sp → List Sp → List Sp) (a b : List (List Sp)) (i : Nat) : (zipC F a b)[i]? = match a[i]?, b[i]? with | some p, some q => some (F p q) | _, _ => none := by
  simp only [zipC, List.getElem?_zipWith]
  cases a[i]? <;> cases b[i]? <;> rfl
theorem zip_len (hl : a.length = b.length) : (zipC F a b).length = a.length := by simp [zipC, hl]
theorem zip_eq (hl : a.length = b.length) (hc : c.length = a.length) : zipC F a b = c ↔ ∀ (i : Nat) (p q r : List Sp), a[i]? = some p → b[i]? = some q → c[i]? = some r → F p q = r := by
  constructor
  · rintro rfl i p q r h1 h2 h3
    rw [zip_get, h1, h2] at h3
    injection h3
  · intro h
    refine List.ext_getElem? fun i => ?_
    rw [zip_get]
    rcases Nat.lt_or_ge i a.length with hi | hi
    · have e1 : a[i]? = some a[i] := List.getElem?_eq_getElem hi
      have e2 : b[i]? = some (b[i]'(by omega)) := List.getElem?_eq_getElem (by omega)
      have e3 : c[i]? = some (c[i]'(by omega)) := List.getElem?_eq_getElem (by omega)
      rw [e1, e2, e3]; exact congrArg some (h i _ _ _ e1 e2 e3)
    · rw [List.getElem?_eq_none hi, List.getElem?_eq_none (l := c) (by omega)]
/-- A Boolean law of two sheets' columns. -/
abbrev zipB (B : List Sp → List Sp → Bool) (a b : List (List Sp)) : List Bool := List.zipWith B a b
theorem zipB_all {B : List Sp → List Sp → Bool} (hl : a.length = b.length) : (zipB B a b).all id = true ↔ ∀ (i : Nat) (p q : List Sp), a[i]? = some p → b[i]? = some q → B p q = true := by
  rw [List.all_eq_true]
  constructor
  · intro h i p q h1 h2
    refine h _ (List.mem_of_getElem? (i := i) ?_)
    simp [zipB, List.getElem?_zipWith, h1, h2]
  · intro h x hx
    obtain ⟨i, hi⟩ := List.getElem?_of_mem hx
    simp only [zipB, List.getElem?_zipWith] at hi
    cases h1 : a[i]? with
    | none => simp [h1] at hi
    | some p =>
      cases h2 : b[i]? with
      | none => simp [h1, h2] at hi
      | some q =>
        simp only [h1, h2, Option.some.injEq] at hi
        rw [← hi]; exact h i p q h1 h2
theorem zipB_any {B : List Sp → List Sp → Bool} (hl : a.length = b.length) : (zipB B a b).any id = false ↔ ∀ (i : Nat) (p q : List Sp), a[i]? = some p → b[i]? = some q → B p q = false := by
  rw [List.any_eq_false]
  constructor
  · intro h i p q h1 h2
    have := h (B p q) (List.mem_of_getElem? (i := i) (by simp [zipB, List.getElem?_zipWith, h1, h2]))
    simpa using this
  · intro h x hx
    obtain ⟨i, hi⟩ := List.getElem?_of_mem hx
    simp only [zipB, List.getElem?_zipWith] at hi
    cases h1 : a[i]? with
    | none => simp [h1] at hi
    | some p =>
      cases h2 : b[i]? with
      | none => simp [h1, h2] at hi
      | some q =>
        simp only [h1, h2, Option.some.injEq] at hi
        rw [← hi]; simp [h i p q h1 h2]

noncomputable def lost (a b : List (List Sp)) : Bool := (zipB lostC a b).any id
/-- What two sheets show together. -/
noncomputable def bothE (a b : List (List Sp)) : List (List Sp) × Int :=
  if jerr a b = 0 then (if many (zipC bothC a b) = true then ([], 2) else if lost a b = true then ([], 3) else (zipC bothC a b, 0)) else ([], jerr a b)
noncomputable def withinE (a b : List (List Sp)) : Bool × Int := (decide (jerr a b = 0) && (zipB withinC a b).all id, jerr a b)

/-- Sheets of one length, in order. -/
structure Al (x y : List (List Sp)) : Prop where
  a : rightInk x
  b : rightInk y
  l : x.length = y.length
theorem al_iff : jerr a b = 0 ↔ Al a b := jerr0.trans ⟨fun h => ⟨h.1, h.2.1, h.2.2⟩, fun h => ⟨h.a, h.b, h.l⟩⟩
theorem Al.comm (h : Al a b) : Al b a := ⟨h.b, h.a, h.l.symm⟩
theorem Al.nb1 (h : Al a b) {i : Nat} {p : List Sp} (hp : a[i]? = some p) : Nb p := (h.a.2 p (List.mem_of_getElem? hp)).nb
theorem Al.nb2 (h : Al a b) {i : Nat} {p : List Sp} (hp : b[i]? = some p) : Nb p := (h.b.2 p (List.mem_of_getElem? hp)).nb
theorem jerr_comm (a b : List (List Sp)) : jerr a b = jerr b a := by
  unfold jerr
  simp only [or_comm (a := ierr a ≠ 0), ne_comm (a := a.length)]
theorem many_false {x : List (List Sp)} : many x = false ↔ ∀ l ∈ x, l.length ≤ 8 := by
  rw [many, List.any_eq_false]
  exact ⟨fun h l hl => by have := h l hl; simp at this; exact this, fun h l hl => by have := h l hl; simp; exact this⟩
theorem many_right {x : List (List Sp)} (h : rightInk x) : many x = false := many_false.2 fun l hl => (h.2 l hl).2.2
theorem right_zip (h : Al a b) (hm : many (zipC F a b) = false) (hF : ∀ (i : Nat) (p q : List Sp), a[i]? = some p → b[i]? = some q → Nb (F p q)) : rightInk (zipC F a b) := by
  refine ⟨by rw [zip_len h.l]; exact h.a.1, fun l hl => ?_⟩
  have h8 := many_false.1 hm l hl
  obtain ⟨i, hi⟩ := List.getElem?_of_mem hl
  rw [zip_get] at hi
  cases h1 : a[i]? with
  | none => simp [h1] at hi
  | some p =>
    cases h2 : b[i]? with
    | none => simp [h1, h2] at hi
    | some q =>
      simp only [h1, h2, Option.some.injEq] at hi
      rw [← hi] at h8 ⊢
      exact (hF i p q h1 h2).good h8

theorem bothE_ok : (bothE a b).2 = 0 ↔ Al a b ∧ many (zipC bothC a b) = false ∧ lost a b = false := by
  unfold bothE
  rw [← al_iff]
  by_cases h : jerr a b = 0
  · simp only [h, if_true, true_and]
    by_cases h1 : many (zipC bothC a b) = true
    · simp only [h1, if_true]; simp
    · simp only [h1]
      by_cases h2 : lost a b = true
      · simp [h2]
      · simp [h2, h1]
  · simp [h]
theorem bothE_fst (h : (bothE a b).2 = 0) : (bothE a b).1 = zipC bothC a b := by
  obtain ⟨h1, h2, h3⟩ := bothE_ok.1 h
  unfold bothE; rw [if_pos (al_iff.2 h1), h2, h3]; rfl
theorem bothE_none (h : (bothE a b).2 = 3) : Al a b ∧ lost a b = true := by
  unfold bothE at h
  rw [← al_iff]
  by_cases h0 : jerr a b = 0
  · simp only [h0, if_true] at h
    refine ⟨h0, ?_⟩
    by_cases h1 : many (zipC bothC a b) = true
    · simp [h1] at h
    · by_cases h2 : lost a b = true
      · exact h2
      · simp [h1, h2] at h
  · rw [if_neg h0] at h
    simp only at h
    unfold jerr at h
    split at h
    · omega
    · split at h <;> omega
theorem eitherE_ok : (eitherE a b).2 = 0 ↔ Al a b ∧ many (zipC eitherC a b) = false := by
  unfold eitherE
  rw [← al_iff]
  by_cases h : jerr a b = 0
  · simp only [h, if_true, true_and, lim]
    cases many (zipC eitherC a b) <;> simp
  · simp [h]
theorem eitherE_fst (h : (eitherE a b).2 = 0) : (eitherE a b).1 = zipC eitherC a b := by
  obtain ⟨h1, h2⟩ := eitherE_ok.1 h
  unfold eitherE; rw [if_pos (al_iff.2 h1), lim, h2]; rfl
theorem withinE_ok : (withinE a b).2 = 0 ↔ Al a b := al_iff
theorem withinE_fst (h : Al a b) : (withinE a b).1 = true ↔ ∀ (i : Nat) (p q : List Sp), a[i]? = some p → b[i]? = some q → withinC p q = true := by
  unfold withinE; simp only [al_iff.2 h, decide_true, Bool.true_and]; exact zipB_all h.l

theorem lost_false (h : Al a b) : lost a b = false ↔ ∀ (i : Nat) (p q : List Sp), a[i]? = some p → b[i]? = some q → lostC p q = false := zipB_any h.l
theorem right_both (h : (bothE a b).2 = 0) : rightInk (bothE a b).1 := by
  obtain ⟨h1, h2, h3⟩ := bothE_ok.1 h
  rw [bothE_fst h]
  exact right_zip h1 h2 fun i p q hp hq => nb_both (h1.nb1 hp) (h1.nb2 hq)
theorem right_either (h : (eitherE a b).2 = 0) : rightInk (eitherE a b).1 := by
  obtain ⟨h1, h2⟩ := eitherE_ok.1 h
  rw [eitherE_fst h]
  exact right_zip h1 h2 fun i p q hp hq => nb_either (h1.nb1 hp) (h1.nb2 hq)

theorem bothE_comm (a b : List (List Sp)) : bothE a b = bothE b a := by
  unfold bothE
  rw [jerr_comm b a]
  by_cases h : jerr a b = 0
  · have al := al_iff.1 h
    have e1 : zipC bothC a b = zipC bothC b a := (zip_eq al.l (by rw [zip_len al.l.symm]; exact al.l.symm)).2 fun i p q r hp hq hr => by
      rw [zip_get, hq, hp] at hr; injection hr with hr
      rw [← hr]; exact both_comm (al.nb1 hp) (al.nb2 hq)
    have e2 : lost a b = lost b a := by
      cases hl : lost b a with
      | false => exact (lost_false al).2 fun i p q hp hq => by rw [lost_comm (al.nb1 hp) (al.nb2 hq)]; exact (lost_false al.comm).1 hl i q p hq hp
      | true =>
        cases hl' : lost a b with
        | true => rfl
        | false =>
          rw [(lost_false al.comm).2 fun i p q hp hq => by rw [lost_comm (al.nb2 hp) (al.nb1 hq)]; exact (lost_false al).1 hl' i q p hq hp] at hl
          exact hl
    rw [e1, e2]
  · rw [if_neg h, if_neg h]
theorem eitherE_comm (a b : List (List Sp)) : eitherE a b = eitherE b a := by
  unfold eitherE
  rw [jerr_comm b a]
  by_cases h : jerr a b = 0
  · have al := al_iff.1 h
    have e1 : zipC eitherC a b = zipC eitherC b a := (zip_eq al.l (by rw [zip_len al.l.symm]; exact al.l.symm)).2 fun i p q r hp hq hr => by
      rw [zip_get, hq, hp] at hr; injection hr with hr
      rw [← hr]; exact either_comm (al.nb1 hp) (al.nb2 hq)
    rw [e1]
  · rw [if_neg h, if_neg h]
theorem bothE_mk (al : Al a b) (h : ∀ (i : Nat) (p q : List Sp), a[i]? = some p → b[i]? = some q → bothC p q = p ∧ lostC p q = false) : bothE a b = (a, 0) := by
  have e1 : zipC bothC a b = a := (zip_eq al.l rfl).2 fun i p q r hp hq hr => by rw [hp] at hr; injection hr with hr; rw [← hr]; exact (h i p q hp hq).1
  unfold bothE
  rw [if_pos (al_iff.2 al), e1, many_right al.a, (lost_false al).2 fun i p q hp hq => (h i p q hp hq).2]; rfl
theorem eitherE_mk {c : List (List Sp)} (al : Al a b) (hc : rightInk c) (hl : c.length = a.length) (h : ∀ (i : Nat) (p q r : List Sp), a[i]? = some p → b[i]? = some q → c[i]? = some r → eitherC p q = r) : eitherE a b = (c, 0) := by
  have e1 : zipC eitherC a b = c := (zip_eq al.l hl).2 h
  unfold eitherE
  rw [if_pos (al_iff.2 al), e1, lim, many_right hc]; rfl
theorem bothE_self (h : rightInk a) : bothE a a = (a, 0) := by
  have al : Al a a := ⟨h, h, rfl⟩
  exact bothE_mk al fun i p q hp hq => by rw [hp] at hq; injection hq with hq; subst hq; exact ⟨both_self (al.nb1 hp), lost_self (al.nb1 hp)⟩
theorem eitherE_self (h : rightInk a) : eitherE a a = (a, 0) := by
  have al : Al a a := ⟨h, h, rfl⟩
  exact eitherE_mk al h rfl fun i p q r hp hq hr => by rw [hp] at hq hr; injection hq with hq; injection hr with hr; subst hq; subst hr; exact either_self (al.nb1 hp)
theorem either_bothE (h : (bothE a b).2 = 0) : eitherE a (bothE a b).1 = (a, 0) := by
  obtain ⟨al, h2, h3⟩ := bothE_ok.1 h
  have hr := right_both h
  rw [bothE_fst h] at hr ⊢
  refine eitherE_mk ⟨al.a, hr, (zip_len al.l).symm⟩ al.a rfl fun i p q r hp hq hr => ?_
  rw [hp] at hr; injection hr with hr; subst hr
  rw [zip_get, hp] at hq
  cases hb : b[i]? with
  | none => simp [hb] at hq
  | some x =>
    simp only [hb, Option.some.injEq] at hq
    rw [← hq]; exact either_both (al.nb1 hp) (al.nb2 hb) ((lost_false al).1 h3 i p x hp hb)
theorem both_eitherE (h : (eitherE a b).2 = 0) : bothE a (eitherE a b).1 = (a, 0) := by
  obtain ⟨al, h2⟩ := eitherE_ok.1 h
  have hr := right_either h
  rw [eitherE_fst h] at hr ⊢
  refine bothE_mk ⟨al.a, hr, (zip_len al.l).symm⟩ fun i p q hp hq => ?_
  rw [zip_get, hp] at hq
  cases hb : b[i]? with
  | none => simp [hb] at hq
  | some x =>
    simp only [hb, Option.some.injEq] at hq
    rw [← hq]; exact both_either (al.nb1 hp) (al.nb2 hb)
theorem within_bothE (h : (bothE a b).2 = 0) : (withinE a b).1 = decide ((bothE a b).1 = a) := by
  obtain ⟨al, h2, h3⟩ := bothE_ok.1 h
  rw [bothE_fst h, Bool.eq_iff_iff, decide_eq_true_eq, withinE_fst al, zip_eq al.l rfl]
  exact ⟨fun g i p q r hp hq hr => by rw [hp] at hr; injection hr with hr; subst hr; exact (within_both (al.nb1 hp)).1 (g i p q hp hq), fun g i p q hp hq => (within_both (al.nb1 hp)).2 (g i p q p hp hq hp)⟩
theorem within_eitherE (h : (eitherE a b).2 = 0) : (withinE a b).1 = decide ((eitherE a b).1 = b) := by
  obtain ⟨al, h2⟩ := eitherE_ok.1 h
  rw [eitherE_fst h, Bool.eq_iff_iff, decide_eq_true_eq, withinE_fst al, zip_eq al.l al.l.symm]
  exact ⟨fun g i p q r hp hq hr => by rw [hq] at hr; injection hr with hr; subst hr; exact (within_either (al.nb1 hp) (al.nb2 hq)).1 (g i p q hp hq), fun g i p q hp hq => (within_either (al.nb1 hp) (al.nb2 hq)).2 (g i p q q hp hq hq)⟩
theorem within_both_ok (al : Al a b) (h : (withinE a b).1 = true) : (bothE a b).2 = 0 := by
  have g := (withinE_fst al).1 h
  rw [bothE_mk al fun i p q hp hq => ⟨(within_both (al.nb1 hp)).1 (g i p q hp hq), within_lost (al.nb1 hp) (g i p q hp hq)⟩]
theorem within_either_ok (al : Al a b) (h : (withinE a b).1 = true) : (eitherE a b).2 = 0 := by
  have g := (withinE_fst al).1 h
  rw [eitherE_mk al al.b al.l.symm fun i p q r hp hq hr => by rw [hq] at hr; injection hr with hr; subst hr; exact (within_either (al.nb1 hp) (al.nb2 hq)).1 (g i p q hp hq)]
end

section
variable {a b c : List (List Sp)}
theorem zip_some {F : List Sp → List Sp → List Sp} {i : Nat} {r : List Sp} (h : (zipC F a b)[i]? = some r) : ∃ p q, a[i]? = some p ∧ b[i]? = some q ∧ F p q = r := by
  rw [zip_get] at h
  cases h1 : a[i]? with
  | none => simp [h1] at h
  | some p =>
    cases h2 : b[i]? with
    | none => simp [h1, h2] at h
    | some q => simp only [h1, h2, Option.some.injEq] at h; exact ⟨p, q, rfl, rfl, h⟩
theorem withinE_mk (al : Al a b) (h : ∀ (i : Nat) (p q : List Sp), a[i]? = some p → b[i]? = some q → withinC p q = true) : withinE a b = (true, 0) := by
  have := (withinE_fst al).2 h
  rw [show withinE a b = ((withinE a b).1, (withinE a b).2) from rfl, this, withinE_ok.2 al]
theorem some_inj {α : Type} {x : Option α} {p q : α} (h : x = some p) (g : x = some q) : p = q := by rw [h] at g; injection g
theorem three_both (ca : Al c a) (cb : Al c b) (h : (bothE a b).2 = 0) :
    withinE (bothE a b).1 a = (true, 0) ∧ withinE (bothE a b).1 b = (true, 0) ∧ withinE c (bothE a b).1 = ((withinE c a).1 && (withinE c b).1, 0) := by
  obtain ⟨al, h2, h3⟩ := bothE_ok.1 h
  have hr := right_both h
  rw [bothE_fst h] at hr ⊢
  have hz := zip_len (F := bothC) al.l
  have hl3 := (lost_false al).1 h3
  refine ⟨withinE_mk ⟨hr, al.a, hz⟩ fun i p q hp hq => ?_, withinE_mk ⟨hr, al.b, hz.trans al.l⟩ fun i p q hp hq => ?_, ?_⟩
  · obtain ⟨x, y, hx, hy, rfl⟩ := zip_some hp
    obtain rfl := some_inj hx hq
    exact (both_within (al.nb1 hx) (al.nb2 hy) (hl3 i _ _ hx hy)).1
  · obtain ⟨x, y, hx, hy, rfl⟩ := zip_some hp
    obtain rfl := some_inj hy hq
    exact (both_within (al.nb1 hx) (al.nb2 hy) (hl3 i _ _ hx hy)).2
  · have az : Al c (zipC bothC a b) := ⟨ca.a, hr, by rw [hz, ca.l]⟩
    refine Prod.ext ?_ (withinE_ok.2 az)
    rw [Bool.eq_iff_iff, Bool.and_eq_true, withinE_fst az, withinE_fst ca, withinE_fst cb]
    have step : ∀ (i : Nat) (r p q : List Sp), c[i]? = some r → a[i]? = some p → b[i]? = some q → (withinC r (bothC p q) = true ↔ withinC r p = true ∧ withinC r q = true) := fun i r p q hr hp hq => by
      rw [within_two (al.nb1 hp) (al.nb2 hq) (ca.nb1 hr) (hl3 i p q hp hq), Bool.and_eq_true]
    have hla := ca.l
    have hlb := cb.l
    constructor
    · intro g
      refine ⟨fun i r p hr hp => ?_, fun i r q hr hq => ?_⟩
      · obtain ⟨q, hq⟩ : ∃ q, b[i]? = some q := ⟨b[i]'(by have := (List.getElem?_eq_some_iff.1 hr).1; omega), List.getElem?_eq_getElem _⟩
        exact ((step i r p q hr hp hq).1 (g i r _ hr (by rw [zip_get, hp, hq]))).1
      · obtain ⟨p, hp⟩ : ∃ q, a[i]? = some q := ⟨a[i]'(by have := (List.getElem?_eq_some_iff.1 hr).1; omega), List.getElem?_eq_getElem _⟩
        exact ((step i r p q hr hp hq).1 (g i r _ hr (by rw [zip_get, hp, hq]))).2
    · rintro ⟨g1, g2⟩ i r z hr hz
      obtain ⟨p, q, hp, hq, rfl⟩ := zip_some hz
      exact (step i r p q hr hp hq).2 ⟨g1 i r p hr hp, g2 i r q hr hq⟩
theorem three_none (ca : Al c a) (cb : Al c b) (h : (bothE a b).2 = 3) : ((withinE c a).1 && (withinE c b).1) = false := by
  obtain ⟨al, hl⟩ := bothE_none h
  rw [Bool.eq_false_iff, Ne, Bool.and_eq_true, withinE_fst ca, withinE_fst cb]
  rintro ⟨g1, g2⟩
  have : lost a b = false := (lost_false al).2 fun i p q hp hq => by
    have hla := ca.l
    obtain ⟨r, hr⟩ : ∃ q, c[i]? = some q := ⟨c[i]'(by have := (List.getElem?_eq_some_iff.1 hp).1; omega), List.getElem?_eq_getElem _⟩
    cases hlc : lostC p q with
    | false => rfl
    | true => exact (lost_none (al.nb1 hp) (ca.nb1 hr) hlc (g1 i r p hr hp) (g2 i r q hr hq)).elim
  rw [this] at hl; cases hl
theorem three_either (ca : Al c a) (cb : Al c b) (h : (eitherE a b).2 = 0) :
    withinE a (eitherE a b).1 = (true, 0) ∧ withinE (eitherE a b).1 c = ((withinE a c).1 && (withinE b c).1, 0) := by
  obtain ⟨al, h2⟩ := eitherE_ok.1 h
  have hr := right_either h
  rw [eitherE_fst h] at hr ⊢
  have hz := zip_len (F := eitherC) al.l
  refine ⟨withinE_mk ⟨al.a, hr, hz.symm⟩ fun i p q hp hq => ?_, ?_⟩
  · obtain ⟨x, y, hx, hy, rfl⟩ := zip_some hq
    obtain rfl := some_inj hx hp
    exact within_one (al.nb1 hx) (al.nb2 hy)
  · have az : Al (zipC eitherC a b) c := ⟨hr, ca.a, by rw [hz, ca.l]⟩
    refine Prod.ext ?_ (withinE_ok.2 az)
    rw [Bool.eq_iff_iff, Bool.and_eq_true, withinE_fst az, withinE_fst ca.comm, withinE_fst cb.comm]
    have step : ∀ (i : Nat) (r p q : List Sp), c[i]? = some r → a[i]? = some p → b[i]? = some q → (withinC (eitherC p q) r = true ↔ withinC p r = true ∧ withinC q r = true) := fun i r p q hr hp hq => by
      rw [one_within (al.nb1 hp) (al.nb2 hq), Bool.and_eq_true]
    have hla := ca.l
    have hlb := cb.l
    constructor
    · intro g
      refine ⟨fun i p r hp hr => ?_, fun i q r hq hr => ?_⟩
      · obtain ⟨q, hq⟩ : ∃ q, b[i]? = some q := ⟨b[i]'(by have := (List.getElem?_eq_some_iff.1 hr).1; omega), List.getElem?_eq_getElem _⟩
        exact ((step i r p q hr hp hq).1 (g i _ r (by rw [zip_get, hp, hq]) hr)).1
      · obtain ⟨p, hp⟩ : ∃ q, a[i]? = some q := ⟨a[i]'(by have := (List.getElem?_eq_some_iff.1 hr).1; omega), List.getElem?_eq_getElem _⟩
        exact ((step i r p q hr hp hq).1 (g i _ r (by rw [zip_get, hp, hq]) hr)).2
    · rintro ⟨g1, g2⟩ i z r hz hr
      obtain ⟨p, q, hp, hq, rfl⟩ := zip_some hz
      exact (step i r p q hr hp hq).2 ⟨g1 i p r hp hr, g2 i q r hq hr⟩
theorem three_both_assoc (h1 : (bothE a b).2 = 0) (h2 : (bothE b c).2 = 0) (h3 : (bothE (bothE a b).1 c).2 = 0) (h4 : (bothE a (bothE b c).1).2 = 0) : (bothE (bothE a b).1 c).1 = (bothE a (bothE b c).1).1 := by
  obtain ⟨al1, _, g1⟩ := bothE_ok.1 h1
  obtain ⟨al2, _, g2⟩ := bothE_ok.1 h2
  obtain ⟨al3, _, _⟩ := bothE_ok.1 h3
  obtain ⟨al4, _, _⟩ := bothE_ok.1 h4
  rw [bothE_fst h3, bothE_fst h4]
  rw [bothE_fst h1] at al3 ⊢
  rw [bothE_fst h2] at al4 ⊢
  refine (zip_eq al3.l (by rw [zip_len al4.l, zip_len al1.l])).2 fun i p q r hp hq hr => ?_
  obtain ⟨x, y, hx, hy, rfl⟩ := zip_some hp
  obtain ⟨x', z, hx', hz, rfl⟩ := zip_some hr
  obtain rfl := some_inj hx hx'
  obtain ⟨y', w, hy', hw, rfl⟩ := zip_some hz
  obtain rfl := some_inj hy hy'
  obtain rfl := some_inj hq hw
  exact both_assoc (al1.nb1 hx) (al1.nb2 hy) (al2.nb2 hq) ((lost_false al1).1 g1 i _ _ hx hy) ((lost_false al2).1 g2 i _ _ hy hq)
theorem three_either_assoc (h1 : (eitherE a b).2 = 0) (h2 : (eitherE b c).2 = 0) : eitherE (eitherE a b).1 c = eitherE a (eitherE b c).1 := by
  obtain ⟨al1, _⟩ := eitherE_ok.1 h1
  obtain ⟨al2, _⟩ := eitherE_ok.1 h2
  have r1 := right_either h1
  have r2 := right_either h2
  rw [eitherE_fst h1] at r1 ⊢
  rw [eitherE_fst h2] at r2 ⊢
  have al3 : Al (zipC eitherC a b) c := ⟨r1, al2.b, by rw [zip_len al1.l, al1.l, al2.l]⟩
  have al4 : Al a (zipC eitherC b c) := ⟨al1.a, r2, by rw [zip_len al2.l, al1.l]⟩
  have e : zipC eitherC (zipC eitherC a b) c = zipC eitherC a (zipC eitherC b c) := by
    refine (zip_eq al3.l (by rw [zip_len al4.l, zip_len al1.l])).2 fun i p q r hp hq hr => ?_
    obtain ⟨x, y, hx, hy, rfl⟩ := zip_some hp
    obtain ⟨x', z, hx', hz, rfl⟩ := zip_some hr
    obtain rfl := some_inj hx hx'
    obtain ⟨y', w, hy', hw, rfl⟩ := zip_some hz
    obtain rfl := some_inj hy hy'
    obtain rfl := some_inj hq hw
    exact either_assoc (al1.nb1 hx) (al1.nb2 hy) (al2.nb2 hq)
  unfold eitherE
  rw [if_pos (al_iff.2 al3), if_pos (al_iff.2 al4), e]
end
end Go.Proofs.Ytgpdckmbojmlpaa

namespace Go.Abs
set_option linter.unusedVariables false
set_option linter.unusedSimpArgs false

section
variable {P : Program} {N : Nat} {rd : Option Nat} {K : Kont} {σ : Sto}

theorem AWPC.weakO {f i : Nat} {o o' : Ob} {c : C} {env : Env} (ho : σ.at f i = some o) (hT : o'.T = o.T) (hk : o'.k = o.k) (hlp : o.lp = none) (hlp' : o'.lp = none) (hl : o'.es.length = o.es.length)
    (hrow : ∀ e, e < o.es.length → (o'.es.getD e []).length = o.k)
    (hw : ∀ e j, e < o.es.length → j < o.k → ∀ w X β σ x, RV w X β σ ((o.es.getD e []).getD j .any) x → RV w X β σ ((o'.es.getD e []).getD j .any) x)
    (h : AWPC P N rd c K env (σ.upd f i o')) : AWPC P N rd c K env σ := by
  intro code hc n0 X β a w hst
  have S1 := hst.sr
  have hob := S1.obj f i o ho
  have ht : Turn w β f i (β f i) w := ⟨Nat.le_refl _, fun _ _ _ => rfl, fun b hb => .inl hb, Still.refl w⟩
  have hsame : o.es.length = o'.es.length → β f i = β f i ∧ ∀ b, β f i = some b → SameSize w w b := fun _ => ⟨rfl, fun b _ => SameSize.refl w b⟩
  have K2 := Kp.turn (o' := o') S1 ho ht hk.symm (Nat.le_of_eq hl.symm) hsame
  have E2 : Ext w β σ w (mvB β f i (β f i)) (σ.upd f i o') := Ext.turn ho ht
  have S2 := S1.turn (o' := o') hst.bd ho ht hk.symm (Nat.le_of_eq hl.symm) hsame (by
    refine ⟨fun e' he' => by rw [hk]; exact hrow e' (by omega), ?_⟩
    have h2 := hob.2
    cases hb : β f i with
    | none => rw [hb] at h2; exact ⟨List.length_eq_zero_iff.1 (by rw [hl, h2.1]; rfl), hlp'⟩
    | some b =>
      rw [hb] at h2
      refine ⟨fun _ => ?_, fun r hr => by rw [hlp'] at hr; cases hr⟩
      obtain ⟨c, hcc, hle, h1, hr⟩ := h2.1 hlp
      refine ⟨c, by rw [hT]; exact hcc, by rw [hl, hk]; exact hle, fun e' j' he' hj' => by rw [hk]; exact h1 e' j' (by omega) (by omega), fun e' j' he' hj' => ?_⟩
      have h3 := hr e' j' (by omega) (by omega)
      have h4 := h3.tr K2
      rw [hb] at h4
      rw [hk]
      exact hw e' j' (by omega) (by omega) _ _ _ _ _ h4)
  exact wpIn_mono (h code hc n0 X _ a w (hst.tr S2 E2 K2)) fun e a w hp => hp.trans E2 K2


/-- A frame's objects are given up. -/
abbrev gone (σ : Sto) (f : Nat) : Sto := σ.set f none
theorem at_gone {σ : Sto} {f g i : Nat} {o : Ob} (h : (gone σ f).at g i = some o) : g ≠ f ∧ σ.at g i = some o := by
  unfold gone Sto.at at h
  unfold Sto.at
  by_cases hg : f = g
  · subst hg
    rw [List.getElem?_set] at h
    by_cases hl : f < σ.length
    · simp [hl] at h
    · simp [hl] at h
  · rw [List.getElem?_set_ne hg] at h
    exact ⟨fun e => hg e.symm, h⟩

theorem Xt_gone {X : Nat → Prop} {β : Blk} {σ : Sto} {f : Nat} (b : Nat) (h : Xt X β (gone σ f) b) : Xt X β σ b := by
  rcases h with h | ⟨g, i, o, ho, hb⟩
  · exact .inl h
  · exact .inr ⟨g, i, o, (at_gone ho).2, hb⟩

theorem RV.toGone {w : World} {X : Nat → Prop} {β : Blk} {σ : Sto} {f : Nat} {v : AV} {x : Value} (h : RV w (Xt X β σ) β σ v x) : RV w (Xt X β (gone σ f)) β (Abs.gone σ f) v x :=
  h.forget Xt_gone (by simp) fun _ _ _ ho => (at_gone ho).2

theorem SRel.toGone {w : World} {X : Nat → Prop} {β : Blk} {σ : Sto} {f : Nat} (h : SRel w X β σ) : SRel w X β (gone σ f) := by
  refine ⟨fun f i f' i' o o' b h1 h2 => h.inj f i f' i' o o' b (at_gone h1).2 (at_gone h2).2, fun f i o b h1 => h.dis f i o b (at_gone h1).2, fun g i o h1 => ?_⟩
  have h2 := h.obj g i o (at_gone h1).2
  refine ⟨h2.1, ?_⟩
  have h3 := h2.2
  cases hb : β g i with
  | none => rw [hb] at h3; exact h3
  | some b =>
    rw [hb] at h3
    refine ⟨fun hn => ?_, fun r hr => ?_⟩
    · obtain ⟨c, hc, hsz, hone, hr⟩ := h3.1 hn
      exact ⟨c, hc, hsz, hone, fun e j he hj => (hr e j he hj).toGone⟩
    · obtain ⟨e0, q, hq, a1, a2, a3, a4, a5, a6, a7⟩ := h3.2 r hr
      exact ⟨e0, q, hq, a1, a2, a3, a4, a5, a6, fun s => (a7 s).toGone⟩

/-- A slice of an object that is given up. -/
theorem RV.froze {w : World} {X : Nat → Prop} {β : Blk} {σ : Sto} {f i n : Nat} {o : Ob} {x : Value} (hs : SRel w X β σ) (h : RV w (Xt X β σ) β σ (.own f i n) x) (ho : σ.at f i = some o) (hn : o.es.length = n) (hk0 : o.k ≠ 0) :
    RV w (Xt X β (gone σ f)) β (Abs.gone σ f) (.sl o.k o.es) x := by
  have hob := hs.obj f i o ho
  cases h with
  | own _ _ _ _ h1c hf hle hh =>
    have h' := hh o ho hn
    unfold OwnSl at h'
    have h2 := hob.2
    cases hb : β f i with
    | none =>
      rw [hb] at h'
      obtain ⟨e0, rfl⟩ := h'
      rw [e0]
      exact .slnil _
    | some b =>
      rw [hb] at h' h2
      obtain ⟨cap, c0, T0, rfl, hc0, hcs⟩ := h'
      rw [hb] at hob
      obtain ⟨c, hc, hsz, hone, hr⟩ := h2.1 (hob.lp_cells hc0)
      rw [hc] at hc0; injection hc0 with hc0; injection hc0 with hc0 _; subst hc0
      subst hn
      refine .sl o.k o.es b 0 cap (fun e j => c.getD (e * o.k + j) undef) ?_ (fun e he => hob.1 e he) (fun e he j hj => ?_) (fun e j he hj hx => ?_) (fun e j he hj => hone e j he hj) fun e j he hj => (hr e j he hj).toGone
      · rw [hcs] at hsz; exact Nat.le_of_mul_le_mul_right hsz (by omega)
      · have := mul_lt (k := o.k) he
        rw [Nat.zero_add, cell_of_row w b _ c _ _ hc]
        simp [Array.getD_eq_getD_getElem?, show e * o.k + j < c.size by omega]
      · rcases hx with hx | ⟨g, j', o', ho', hb'⟩
        · exact hs.dis f i o b ho hb hx
        · have h3 := at_gone ho'
          exact h3.1 (hs.inj f i g j' o o' b ho h3.2 hb hb').1.symm

/-- What is owned is given up: slots that hold it read it from now on. -/
theorem AWPC.freeze {f n : Nat} {o : Ob} {c : C} {env env' : Env} (ho : σ.at f 0 = some o) (hn : o.es.length = n) (hk0 : o.k ≠ 0)
    (henv : ∀ s, gt env' s = gt env s ∨ (gt env s = .own f 0 n ∧ gt env' s = .sl o.k o.es)) (h : AWPC P N rd c K env' (gone σ f)) : AWPC P N rd c K env σ := by
  intro code hc n0 X β a w hst
  have E2 : Ext w β σ w β (gone σ f) := ⟨Nat.le_refl _, fun _ _ _ => rfl, fun b ⟨g, i, o, ho, hb⟩ => .inl ⟨g, i, o, (at_gone ho).2, hb⟩, Still.refl w⟩
  have K2 : Kp w (Xt X β σ) β σ w (Xt X β (gone σ f)) β (gone σ f) :=
    ⟨Nat.le_refl _, fun _ _ _ _ _ _ => rfl, fun b _ hx => Xt_gone b hx, by simp, fun g i o' _ ho' => ⟨o', (at_gone ho').2, rfl, Nat.le_refl _, fun _ => ⟨rfl, fun b _ => SameSize.refl w b⟩⟩⟩
  have hst1 := hst.tr hst.sr.toGone E2 K2
  have hst2 : Stt N n0 X env' (gone σ f) β a w := { hst1 with
    ev := fun s => (henv s).elim (fun e => by rw [e]; exact hst1.ev s) (fun e => by
      rw [e.2]
      have := hst.ev s
      rw [e.1] at this
      exact this.froze hst.sr ho hn hk0) }
  exact wpIn_mono (h code hc n0 X _ a w hst2) fun e a w hp => hp.trans E2 K2

theorem AWPC.freeze1 {f n t : Nat} {o : Ob} {c : C} {env : Env} (ht : gt env t = .own f 0 n) (ho : σ.at f 0 = some o) (hn : o.es.length = n) (hk0 : o.k ≠ 0) (h : AWPC P N rd c K ((t, .sl o.k o.es) :: env) (gone σ f)) : AWPC P N rd c K env σ := by
  refine AWPC.freeze ho hn hk0 (fun s => ?_) h
  simp only [gt]
  by_cases hs : t = s
  · subst hs; simp only [beq_self_eq_true, cond_true]; exact .inr ⟨ht, trivial⟩
  · have : (t == s) = false := by simpa using hs
    simp only [this, cond_false]; exact .inl trivial

end

theorem Does.mono {P : Program} {f : Nat} {args : List AV} {σ : Sto} {R R' : AV → Sto → Prop} (h : Does P f args σ R) (hR : ∀ r σ', R r σ' → R' r σ') : Does P f args σ R' :=
  ⟨h.ent, fun X β w xs h1 h2 h3 h4 => (h.go X β w xs h1 h2 h3 h4).mono fun e w' ⟨x, r, σ', β', a, b, c⟩ => ⟨x, r, σ', β', a, hR _ _ b, c⟩⟩
end Go.Abs

