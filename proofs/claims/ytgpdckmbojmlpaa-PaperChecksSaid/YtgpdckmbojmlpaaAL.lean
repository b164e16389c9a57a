/-
  Small laws for what is reckoned; endings.
-/
import Derived.Test.YtgpdckmbojmlpaaA14
namespace Go.Abs
set_option linter.unusedVariables false
set_option linter.unusedSimpArgs false

theorem beqZ (a b : Int) : (a == b) = decide (a = b) := by
  by_cases h : a = b <;> simp [h]
theorem bneZ (a b : Int) : (a != b) = decide (¬ a = b) := by
  by_cases h : a = b <;> simp [h]
theorem bifF (a b : Bool) : (bif a then b else false) = (a && b) := by cases a <;> rfl
theorem bifT (a b : Bool) : (bif a then true else b) = (a || b) := by cases a <;> rfl
theorem decAnd (p q : Prop) [Decidable p] [Decidable q] : (decide p && decide q) = decide (p ∧ q) := by simp
theorem decOr (p q : Prop) [Decidable p] [Decidable q] : (decide p || decide q) = decide (p ∨ q) := by simp
theorem decNot (p : Prop) [Decidable p] : (!decide p) = decide (¬ p) := by simp

/-- What is known of arguments may be less. -/
theorem Pure.args {P : Program} {f : Nat} {args args' : List AV} {r : AV} (hl : args.length = args'.length) (h : ∀ i, i < args.length → ∀ w X x, RV w X nob [] (args.getD i .any) x → RV w X nob [] (args'.getD i .any) x)
    (hp : Pure P f args' r) : Pure P f args r :=
  ⟨hp.1, fun X w xs hX hxl hr => hp.go X w xs hX (hxl.trans hl) fun i hi => h i (by omega) w X _ (hr i (by omega))⟩

theorem RV.nil {w : World} {X : Nat → Prop} {β : Blk} {σ : Sto} {k : Nat} {x : Value} (h : RV w X β σ (.v (.slice none 0 0)) x) : RV w X β σ (.sl k []) x := by
  cases h; exact .slnil k

theorem mul_bd {a b A B : Int} (h1 : 0 ≤ a) (h2 : a ≤ A) (h3 : 0 ≤ b) (h4 : b ≤ B) : 0 ≤ a * b ∧ a * b ≤ A * B :=
  ⟨Int.mul_nonneg h1 h3, Int.mul_le_mul h2 h4 h3 (by omega)⟩

theorem Frz.eq {σ : Sto} {v r : AV} (h : v = r) (hp : PureV v) : Frz σ v r := h ▸ Frz.pure hp

theorem wr64 (n : Int) (h1 : -9223372036854775808 ≤ n) (h2 : n < 9223372036854775808) : IntKind.i64.wrap n = n := by rw [IntKind.wrap_i64]; omega

theorem Sub_nil (env : Env) : Sub [] env := fun p hp => absurd hp (List.not_mem_nil)
theorem Sub_cons {k : Nat} {v : AV} {l env : Env} : Sub ((k, v) :: l) env ↔ gt env k = v ∧ Sub l env :=
  ⟨fun h => ⟨h (k, v) (by simp), fun p hp => h p (by simp [hp])⟩, fun h p hp => by
    rcases List.mem_cons.1 hp with rfl | hp
    · exact h.1
    · exact h.2 p hp⟩
theorem SubT (env : Env) : Sub [] env ↔ True := ⟨fun _ => trivial, fun _ => Sub_nil env⟩
theorem getD_map {α β : Type} {f : α → β} {l : List α} {i : Nat} {x : α} {d : β} (h : l[i]? = some x) : (l.map f).getD i d = f x := by
  simp [List.getD_eq_getElem?_getD, h]

theorem drop_cons {α : Type} {l : List α} {i : Nat} {x : α} (h : l[i]? = some x) : l.drop i = x :: l.drop (i + 1) := by
  obtain ⟨hi, rfl⟩ := List.getElem?_eq_some_iff.1 h
  exact List.drop_eq_getElem_cons hi

theorem at_nil (f i : Nat) : Sto.at [] f i = none := by simp [Sto.at]
theorem at_cons0 (F : List Ob) (l : Sto) (i : Nat) : Sto.at (some F :: l) 0 i = F[i]? := by simp [Sto.at]
theorem at_consS (a : Option (List Ob)) (l : Sto) (f i : Nat) : Sto.at (a :: l) (f + 1) i = Sto.at l f i := by simp [Sto.at]
theorem at_app (τ l : Sto) (f i : Nat) : Sto.at (τ ++ l) (τ.length + f) i = Sto.at l f i := by
  unfold Sto.at; rw [List.getElem?_append_right (by omega), show τ.length + f - τ.length = f by omega]
theorem at_app0 (τ l : Sto) (i : Nat) : Sto.at (τ ++ l) τ.length i = Sto.at l 0 i := at_app τ l 0 i
theorem at_appL {τ l : Sto} {f i : Nat} (h : f < τ.length) : Sto.at (τ ++ l) f i = Sto.at τ f i := by
  unfold Sto.at; rw [List.getElem?_append_left h]
theorem upd_cons0 (F : List Ob) (l : Sto) (i : Nat) (o : Ob) : Sto.upd (some F :: l) 0 i o = some (F.set i o) :: l := by simp [Sto.upd]
theorem upd_consS (a : Option (List Ob)) (l : Sto) (f i : Nat) (o : Ob) : Sto.upd (a :: l) (f + 1) i o = a :: Sto.upd l f i o := by
  unfold Sto.upd
  rw [List.getElem?_cons_succ]
  cases h : l[f]? with
  | none => rfl
  | some F => cases F <;> rfl
theorem upd_app (τ l : Sto) (f i : Nat) (o : Ob) : Sto.upd (τ ++ l) (τ.length + f) i o = τ ++ Sto.upd l f i o := by
  unfold Sto.upd
  rw [List.getElem?_append_right (by omega), show τ.length + f - τ.length = f by omega]
  cases h : l[f]? with
  | none => rfl
  | some F =>
    cases F with
    | none => rfl
    | some F =>
      show List.set _ _ _ = _
      rw [List.set_append_right _ _ (by omega), show τ.length + f - τ.length = f by omega]
theorem upd_app0 (τ l : Sto) (i : Nat) (o : Ob) : Sto.upd (τ ++ l) τ.length i o = τ ++ Sto.upd l 0 i o := upd_app τ l 0 i o
theorem upd_appL {τ l : Sto} {f i : Nat} {o : Ob} (h : f < τ.length) : Sto.upd (τ ++ l) f i o = Sto.upd τ f i o ++ l := by
  unfold Sto.upd
  rw [List.getElem?_append_left h]
  cases hh : τ[f]? with
  | none => rfl
  | some F =>
    cases F with
    | none => rfl
    | some F =>
      show List.set _ _ _ = _
      rw [List.set_append_left _ _ h]

end Go.Abs
