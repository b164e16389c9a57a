import Derived.Test.YtgpdckmbojmlpaaATP1
import Derived.Test.YtgpdckmbojmlpaaRows
import Derived.WalkKit
import Derived.ProofKit
import Derived.OpenShut
import Derived.ShutString
import Derived.ChangeOld
import Derived.Below
namespace Go.Proofs.Ytgpdckmbojmlpaa
open Go.Abs
set_option linter.unusedVariables false
set_option linter.unusedSimpArgs false
set_option maxHeartbeats 4000000
set_option maxRecDepth 100000
open Go.ChangeShapes Go.WideShapes Go.ChangeAt Go.RowKit

theorem own : ownKnob Try.prog.godebug = none := by kernel_rfl
theorem laidOut : laidOutB Try.prog = true := by kernel_rfl

theorem flat25 : Try.prog.cellTypes Try.prog.depth 25 = some [3, 3, 3, 3, 3, 3, 3, 3, 3, 3] := by kernel_rfl
theorem cells25 : Try.prog.cellsOf 25 = 10 := by kernel_rfl
theorem flat32 : Try.prog.cellTypes Try.prog.depth 32 = some [3, 3, 3] := by kernel_rfl
theorem cells32 : Try.prog.cellsOf 32 = 3 := by kernel_rfl
theorem flat23 : Try.prog.cellTypes Try.prog.depth 23 = some [3, 3] := by kernel_rfl
theorem cells23 : Try.prog.cellsOf 23 = 2 := by kernel_rfl

theorem all10 : ∀ u ∈ [3, 3, 3, 3, 3, 3, 3, 3, 3, 3], u = 3 := by decide
theorem all3 : ∀ u ∈ [3, 3, 3], u = 3 := by decide
theorem all2 : ∀ u ∈ [3, 3], u = 3 := by decide

theorem open_paper {w : World} {r : Reach} {base : Nat} {v : Value} (h : Value.okWide Try.prog w r base 25 v) : ∃ p : Pp, ∀ (W : World), RV W (fun _ => False) nob [] (.agg p.cs) v := by
  obtain ⟨zs, hl, rfl⟩ := open_flat 10 Try.underlying25 flat25 rfl cells25 (fun u hu => by rw [all10 u hu]; exact Try.underlying3) h
  match zs, hl with
  | [a, b, c, d, e, f, g, i, j, k], _ => exact ⟨⟨a, b, c, d, e, f, ⟨g, i⟩, ⟨j, k⟩⟩, fun W => rv_vs [a, b, c, d, e, f, g, i, j, k]⟩

theorem open_point {w : World} {r : Reach} {base : Nat} {v : Value} (h : Value.okWide Try.prog w r base 32 v) : ∃ p : Pt, ∀ (W : World), RV W (fun _ => False) nob [] (.agg p.cs) v := by
  obtain ⟨zs, hl, rfl⟩ := open_flat 3 Try.underlying32 flat32 rfl cells32 (fun u hu => by rw [all3 u hu]; exact Try.underlying3) h
  match zs, hl with
  | [a, b, c], _ => exact ⟨⟨a, b, c⟩, fun W => rv_vs [a, b, c]⟩

theorem open_span {w : World} {r : Reach} {base : Nat} {v : Value} (h : Value.okWide Try.prog w r base 23 v) : ∃ p : Sp, ∀ (W : World), RV W (fun _ => False) nob [] (.agg p.cs) v := by
  obtain ⟨zs, hl, rfl⟩ := open_flat 2 Try.underlying23 flat23 rfl cells23 (fun u hu => by rw [all2 u hu]; exact Try.underlying3) h
  match zs, hl with
  | [a, b], _ => exact ⟨⟨a, b⟩, fun W => rv_vs [a, b]⟩
end Go.Proofs.Ytgpdckmbojmlpaa
