import Derived.Test.YtgpdckmbojmlpaaATR0
import Derived.Test.YtgpdckmbojmlpaaATQ9
import Derived.Test.YtgpdckmbojmlpaaAO
import Derived.Test.YtgpdckmbojmlpaaRows
import Derived.WalkKit
import Derived.ProofKit
import Derived.OpenShut
import Derived.ShutString
import Derived.ChangeOld
import Derived.Below
namespace Go.Proofs.Ytgpdckmbojmlpaa
open Go.Abs
set_option linter.unusedVariables false
set_option linter.unusedSimpArgs false
set_option maxHeartbeats 4000000
set_option maxRecDepth 100000
open Go.ChangeShapes Go.WideShapes Go.RowKit

theorem cells3 : Try.prog.cellsOf 3 = 1 := by kernel_rfl
theorem cells34 : Try.prog.cellsOf 34 = 1 := by kernel_rfl
theorem cells54 : Try.prog.cellsOf 54 = 1 := by kernel_rfl
theorem cells56 : Try.prog.cellsOf 56 = 1 := by kernel_rfl

theorem op3 : Opens Try.prog 3 Int (fun z => [n z]) (fun _ => True) := (opens_int Try.underlying3).to id (fun _ => rfl) (fun _ _ => trivial)
theorem op32 : Opens Try.prog 32 Pt Pt.cs (fun _ => True) :=
  (opens_struct Try.underlying32 cells32 (fun _ => rfl) (opensF_cons rfl cells3 op3 (fun _ => rfl) (opensF_cons rfl cells3 op3 (fun _ => rfl) (opensF_cons rfl cells3 op3 (fun _ => rfl) (opensF_nil _))))).to (fun a => ⟨a.1, a.2.1, a.2.2.1⟩) (fun _ => rfl) (fun _ _ => trivial)
theorem op23 : Opens Try.prog 23 Sp Sp.cs (fun _ => True) :=
  (opens_struct Try.underlying23 cells23 (fun _ => rfl) (opensF_cons rfl cells3 op3 (fun _ => rfl) (opensF_cons rfl cells3 op3 (fun _ => rfl) (opensF_nil _)))).to (fun a => ⟨a.1, a.2.1⟩) (fun _ => rfl) (fun _ _ => trivial)
theorem op53 : Opens Try.prog 53 (List Pt) (fun l => [ptS l]) (fun l => l.length < 9223372036854775808) :=
  (opens_slice Try.underlying53 cells32 (by decide) op32 (fun _ => rfl)).to id (fun _ => rfl) (fun _ h => h.1)
theorem op61 : Opens Try.prog 61 (List Int) (fun l => [inS l]) (fun l => l.length < 9223372036854775808) :=
  (opens_slice Try.underlying61 cells3 (by decide) op3 (fun _ => rfl)).to id (fun _ => rfl) (fun _ h => h.1)
theorem op34 : Opens Try.prog 34 (List Sp) (fun l => [spS l]) (fun l => l.length < 9223372036854775808) :=
  (opens_slice Try.underlying34 cells23 (by decide) op23 (fun _ => rfl)).to id (fun _ => rfl) (fun _ h => h.1)
theorem op54 : Opens Try.prog 54 (List (List Sp)) (fun l => [colS l]) Lens :=
  (opens_slice Try.underlying54 cells34 (by decide) op34 (fun _ => rfl)).to id (fun _ => rfl) (fun _ h => h)
theorem op56 : Opens Try.prog 56 (List (List Sp)) (fun l => [colS l]) Lens :=
  (opens_struct Try.underlying56 cells56 (fun _ => rfl) (opensF_cons rfl cells54 op54 (fun _ => rfl) (opensF_nil _))).to (fun a => a.1) (fun _ => rfl) (fun _ h => h.1)

section
variable {H : Type} {enc : TypeId × Value → H} {w : World} {r : Reach} {base b0 : Nat} {sp : Nat → Bool} {held : Bool} {v : Value} {d : DataW H} {ps : List MemPlace}

theorem open_pts (h : Value.okWide Try.prog w r base 53 v) (hx : DataW.Trod enc Try.prog w b0 sp held 53 v d ps) : ∃ l : List Pt, l.length < 9223372036854775808 ∧ RV w (fun _ => False) nob [] (ptS l) v := by
  obtain ⟨a, len, cap, rfl⟩ := okWide_slice Try.underlying53 h
  exact op53.one rfl hx
theorem open_is (h : Value.okWide Try.prog w r base 61 v) (hx : DataW.Trod enc Try.prog w b0 sp held 61 v d ps) : ∃ l : List Int, l.length < 9223372036854775808 ∧ RV w (fun _ => False) nob [] (inS l) v := by
  obtain ⟨a, len, cap, rfl⟩ := okWide_slice Try.underlying61 h
  exact op61.one rfl hx
theorem open_ink (h : Value.okWide Try.prog w r base 56 v) (hx : DataW.Trod enc Try.prog w b0 sp held 56 v d ps) : ∃ l : List (List Sp), Lens l ∧ RV w (fun _ => False) nob [] (ink l) v := by
  obtain ⟨cs, rfl, _⟩ := okWide_struct Try.underlying56 h
  exact op56.agg hx
end
end Go.Proofs.Ytgpdckmbojmlpaa
