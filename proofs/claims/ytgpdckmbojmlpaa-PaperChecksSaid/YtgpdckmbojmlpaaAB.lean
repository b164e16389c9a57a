/-
  Loops told by what they change: the slots that a round writes; all others stay.
-/
import Derived.Test.YtgpdckmbojmlpaaAA
namespace Go.Abs
set_option linter.unusedVariables false
set_option linter.unusedSimpArgs false

def hasN (k : Nat) : List Nat → Bool
  | [] => false
  | a :: r => bif a == k then true else hasN k r

/-- A state without some slots. -/
def drp (ks : List Nat) : Env → Env
  | [] => []
  | (k, v) :: r => bif hasN k ks then drp ks r else (k, v) :: drp ks r

/-- A loop that changes some slots, and the objects. -/
theorem AWPC.loopE {P : Program} {N : Nat} {rd : Option Nat} {K : Kont} {env : Env} {σ : Sto} {c : C} {α : Type} (ks : List Nat) (over : α → Env) (sto : α → Sto) (μ : α → Nat) (x0 : α)
    (h0 : Sub (over x0 ++ drp ks env) env) (h1 : σ = sto x0)
    (round : ∀ x, AWPC P N rd c (klp (fun x => (over x ++ drp ks env, sto x)) μ x K) (over x ++ drp ks env) (sto x)) : AWPC P N rd (.loop c) K env σ :=
  AWPC.loop (fun x => (over x ++ drp ks env, sto x)) μ x0 h0 h1 round

/-- A loop that changes some slots alone. -/
theorem AWPC.loopS {P : Program} {N : Nat} {rd : Option Nat} {K : Kont} {env : Env} {σ : Sto} {c : C} {α : Type} (ks : List Nat) (over : α → Env) (μ : α → Nat) (x0 : α)
    (h0 : Sub (over x0 ++ drp ks env) env)
    (round : ∀ x, AWPC P N rd c (klp (fun x => (over x ++ drp ks env, σ)) μ x K) (over x ++ drp ks env) σ) : AWPC P N rd (.loop c) K env σ :=
  AWPC.loop (fun x => (over x ++ drp ks env, σ)) μ x0 h0 rfl round

/-- A loop over the places of a list: up to place i something holds. -/
theorem AWPC.loopI {P : Program} {N : Nat} {rd : Option Nat} {K : Kont} {env : Env} {σ : Sto} {c : C} (k m : Nat) (I : Nat → Prop) (h00 : I 0)
    (h0 : Sub ((k, n ((0 : Nat) : Int)) :: drp [k] env) env)
    (round : ∀ i (hi : i ≤ m) (hI : I i), AWPC P N rd c (klp (fun x : { i : Nat // i ≤ m ∧ I i } => ((k, n ((x.1 : Nat) : Int)) :: drp [k] env, σ)) (fun x => m - x.1) ⟨i, hi, hI⟩ K) ((k, n ((i : Nat) : Int)) :: drp [k] env) σ) : AWPC P N rd (.loop c) K env σ :=
  AWPC.loop (α := { i : Nat // i ≤ m ∧ I i }) (fun x => ((k, n ((x.1 : Nat) : Int)) :: drp [k] env, σ)) (fun x => m - x.1) ⟨0, Nat.zero_le _, h00⟩ h0 rfl fun ⟨i, h1, h2⟩ => round i h1 h2

/-- The truth of a sentence. -/
noncomputable abbrev tr (P : Prop) : Bool := @decide P (Classical.propDecidable P)
theorem tr_iff {P : Prop} : tr P = true ↔ P := by simp
theorem tr_not {P : Prop} : tr P = false ↔ ¬ P := by simp
theorem decBne (p q : Prop) [Decidable p] [Decidable q] : (decide p != decide q) = decide (¬ (p ↔ q)) := by by_cases h : p <;> by_cases g : q <;> simp [h, g]
theorem decBeq (p q : Prop) [Decidable p] [Decidable q] : (decide p == decide q) = decide (p ↔ q) := by by_cases h : p <;> by_cases g : q <;> simp [h, g]
theorem tr_1 {P : Prop} (h : P) : tr P = true := tr_iff.2 h
theorem tr_0 {P : Prop} (h : ¬ P) : tr P = false := tr_not.2 h

end Go.Abs
