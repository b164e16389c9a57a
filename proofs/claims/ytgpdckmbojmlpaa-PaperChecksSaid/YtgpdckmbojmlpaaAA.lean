/-
  Small laws for walking without a hand: which code a step takes further.
-/
import Derived.Test.YtgpdckmbojmlpaaAS
namespace Go.Abs
set_option linter.unusedVariables false
set_option linter.unusedSimpArgs false

def C.plain : C → Bool
  | .loop _ | .rng .. => false
  | _ => true

theorem AWPC.of_vcn {P : Program} {N : Nat} {rd : Option Nat} {K : Kont} {env : Env} {σ : Sto} {c : C} (hp : c.plain = true) (h : vcC P N rd c K env σ) : AWPC P N rd c K env σ := AWPC.of_vc h

theorem one_row (a : List AV) (k : Nat) : (∀ e, e < 1 → (List.getD [a] e []).length = k) ↔ a.length = k :=
  ⟨fun h => h 0 (by omega), fun h e he => by obtain rfl : e = 0 := (by omega); exact h⟩

/-- The two ways on. -/
theorem AWPC.both {P : Program} {N : Nat} {rd : Option Nat} {K K' : Kont} {env env' : Env} {σ σ' : Sto} {c c' : C} {A B : Prop} (h : A → AWPC P N rd c K env σ) (h' : B → AWPC P N rd c' K' env' σ') :
    (A → AWPC P N rd c K env σ) ∧ (B → AWPC P N rd c' K' env' σ') := ⟨h, h'⟩

theorem AWPC.imp {P : Program} {N : Nat} {rd : Option Nat} {K : Kont} {env : Env} {σ : Sto} {c : C} {A : Prop} (h : A → AWPC P N rd c K env σ) : A → AWPC P N rd c K env σ := h

abbrev n (i : Int) : AV := .v (.int .i64 i)
abbrev bl (b : Bool) : AV := .v (.bool b)
abbrev Sp.cs (s : Sp) : List AV := [n s.lo, n s.hi]

abbrev Sp.ok (s : Sp) : Prop := 900 ≤ s.lo ∧ s.lo ≤ s.hi ∧ s.hi ≤ 1100
def Sp.places (s : Sp) (x h : Int) : Sp := ⟨max 0 (((x - h) * 1000) / s.hi), ((x + h) * 1000) / s.lo⟩
/-- A span of shrinkage, by a place that is known. -/
def Sp.known (s : Sp) (k x h : Int) : Sp :=
  if k < 0 then s else ⟨max s.lo (((x - h) * 1000) / (k + 1)), if 0 < k then min s.hi (-(-(x + h) * 1000 / k)) else s.hi⟩

/-- Division that rounds down, as it is reckoned from division that rounds to zero. -/
theorem fdiv_neg {a b : Int} (hb : 1 ≤ b) (ha : a < 0) : -((-a + b - 1).tdiv b) = a / b := by
  rw [Int.tdiv_eq_ediv_of_nonneg (by omega)]
  have h1 := Int.mul_ediv_add_emod a b
  have h2 := Int.emod_nonneg a (show b ≠ 0 by omega)
  have h3 := Int.emod_lt_of_pos a (show 0 < b by omega)
  have h4 := Int.mul_ediv_add_emod (-a + b - 1) b
  have h5 := Int.emod_nonneg (-a + b - 1) (show b ≠ 0 by omega)
  have h6 := Int.emod_lt_of_pos (-a + b - 1) (show 0 < b by omega)
  generalize (-a + b - 1) / b = q at *
  generalize a / b = e at *
  generalize (-a + b - 1) % b = r at *
  generalize a % b = s at *
  -- b * (q + e) = b - 1 - r - s
  have h7 : b * (q + e) = b - 1 - r - s := by rw [Int.mul_add]; omega
  have g1 : b * (-1) < b * (q + e) := by omega
  have g2 : b * (q + e) < b * 1 := by omega
  have g3 := Int.lt_of_mul_lt_mul_left g1 (by omega)
  have g4 := Int.lt_of_mul_lt_mul_left g2 (by omega)
  omega

end Go.Abs
