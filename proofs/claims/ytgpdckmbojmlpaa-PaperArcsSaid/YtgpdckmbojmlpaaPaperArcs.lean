import Derived.Test.YtgpdckmbojmlpaaATP9
import Derived.Test.YtgpdckmbojmlpaaAF
import Derived.Test.YtgpdckmbojmlpaaRows
import Derived.WalkKit
import Derived.ProofKit
import Derived.OpenShut
import Derived.ShutString
import Derived.ChangeOld
import Derived.Below
namespace Go.Proofs.Ytgpdckmbojmlpaa
open Go.Abs
set_option linter.unusedVariables false
set_option linter.unusedSimpArgs false

open Go.ChangeShapes Go.WideShapes Go.ChangeAt Go.RowKit

theorem own : ownKnob Try.prog.godebug = none := by kernel_rfl
theorem laidOut : laidOutB Try.prog = true := by kernel_rfl

theorem flat25 : Try.prog.cellTypes Try.prog.depth 25 = some [3, 3, 3, 3, 3, 3, 3, 3, 3, 3] := by kernel_rfl
theorem cells25 : Try.prog.cellsOf 25 = 10 := by kernel_rfl

theorem all3 : ∀ u ∈ [3, 3, 3, 3, 3, 3, 3, 3, 3, 3], u = 3 := by decide

set_option maxRecDepth 100000 in
theorem open_paper {w : World} {r : Reach} {base : Nat} {v : Value} (h : Value.okWide Try.prog w r base 25 v) : ∃ p : Pp, ∀ (W : World), v = .agg #[.int .i64 p.pi, .int .i64 p.he, .int .i64 p.ra, .int .i64 p.lo, .int .i64 p.hi, .int .i64 p.co, .int .i64 p.al.lo, .int .i64 p.al.hi, .int .i64 p.cl.lo, .int .i64 p.cl.hi] ∧ RV W (fun _ => False) nob [] (.agg p.cs) v := by
  obtain ⟨zs, hl, rfl⟩ := open_flat 10 Try.underlying25 flat25 rfl cells25 (fun u hu => by rw [all3 u hu]; exact Try.underlying3) h
  match zs, hl with
  | [a, b, c, d, e, f, g, i, j, k], _ => exact ⟨⟨a, b, c, d, e, f, ⟨g, i⟩, ⟨j, k⟩⟩, fun W => ⟨rfl, rv_vs [a, b, c, d, e, f, g, i, j, k]⟩⟩

set_option maxRecDepth 100000 in
theorem lifted (os : Os) (started : os.Started) (H : Type) (enc : TypeId × Value → H) :
    ReturnsInHanded {} Try.checked os 3 .any (Rows.paperArcsSpec.pre6 enc Try.prog Try.f3 Rows.paperArcsRow.domain false) (Rows.paperArcsSpec.post enc Try.prog Try.f3 false true false false) := by
  refine returnsInHanded_of_change (C := Try.checked) own started (by kernel_rfl) Try.func3
    (ChangeSpec.witness6 (enc := enc) (C := Try.checked) false ⟨#[], #[.agg #[.int .i64 0, .int .i64 0, .int .i64 0, .int .i64 0, .int .i64 0, .int .i64 0, .int .i64 0, .int .i64 0, .int .i64 0, .int .i64 0], .int .i64 0], []⟩ 8 (by kernel_rfl) (by kernel_rfl) (by kernel_rfl) (by kernel_rfl)) ?_
  intro W base args ds gs before hval0 hW hcnd _
  have hval : ∀ (j : Nat) t v, Try.f3.params[j]? = some t → args[j]? = some v → Value.okWide Try.prog W .any base t v := hval0
  have hW' := hW
  obtain ⟨p, q, hA0, hV, rfl, hfz, hnd⟩ := hW
  have hA : DataW.TrodAll enc Try.prog W 0 (fun _ => true) true Try.f3.params.toList args.toList ds p := hA0
  rw [Try.params3] at hA hval
  obtain ⟨v0, vs0, d0, ds0, p0, q0, hargs, rfl, rfl, h0, r0⟩ := trodAll_cons hA
  obtain ⟨v1, vs1, d1, ds1, p1, q1, rfl, rfl, rfl, h1, r1⟩ := trodAll_cons r0
  obtain ⟨rfl, rfl, rfl⟩ := trodAll_nil r1
  obtain rfl : args = #[v0, v1] := by cases args; simp_all
  obtain ⟨rfl, rfl⟩ := trodVars_none hV
  have lt0 : ∀ x ∈ p0, x.block < W.heap.size := by obtain ⟨m, hm⟩ := h0; exact DataW.trod_lt m _ _ _ hm
  have lt1 : ∀ x ∈ p1, x.block < W.heap.size := by obtain ⟨m, hm⟩ := h1; exact DataW.trod_lt m _ _ _ hm
  obtain ⟨pp, hpp⟩ := open_paper (hval 0 25 v0 rfl rfl)
  obtain ⟨y, hy⟩ := okWide_int Try.underlying3 (hval 1 3 v1 rfl rfl)
  clear hA0 hval0
  refine (below_of_pure (PaperArcs_spec pp y) W [v0, v1] rfl (fun i hi => ?_)).mono fun e W' ⟨x, he, hx, bel⟩ => ?_
  · match i, hi with
    | 0, _ => exact (hpp W).2
    | 1, _ => rw [hy]; exact .v _
  subst he
  have hx' := hx.inv_v
  subst hx'
  exact ⟨_, rfl, _, _, _, [], _, [], hW', trodAll_mk1 (shut_bool Try.underlying4 _), (trodAll_cons_mk (Below.trod laidOut (by kernel_rfl) (of_decide_eq_true (by kernel_rfl)) h0 bel lt0) (trodAll_cons_mk (Below.trod laidOut (by kernel_rfl) (of_decide_eq_true (by kernel_rfl)) h1 bel lt1) trodAll_mk0)), rfl, bel.frame _, fun h => by cases h⟩

theorem over : Rows.paperArcsRow.holds Try.pinned (OpenSpec.ofChange Rows.paperArcsSpec) :=
  OpenClaim.holds_of_wide 3 Try.f3 rfl rfl rfl rfl rfl rfl rfl ⟨rfl, rfl, rfl, rfl, rfl⟩ rfl rfl rfl rfl rfl (by kernel_rfl) Try.func3 (by kernel_rfl)
    (of_decide_eq_true (by kernel_rfl)) (by unfold Func.isWrapper; first | (rw [if_pos (by decide +kernel)]; kernel_rfl) | (rw [if_neg (by decide +kernel)]; exact ⟨rfl, rfl⟩))
    (fun os started H enc _ => lifted os started H enc)

theorem proved : Rows.PaperArcsSaid := over
end Go.Proofs.Ytgpdckmbojmlpaa
