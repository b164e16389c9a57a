/- Part 8 of the texts that the claim rests on: abstract values over the walk, and contracts of functions. -/
import Derived.Test.YtahkhnagpdlkiaaGreatBy7
import Derived.Test.YtahkhnagpdlkiaaGreatRows
namespace Go.Proofs.YtahkhnagpdlkiaaGreat
open Go.Abs
open Nat (reduceAdd reduceSub reduceLT reduceLeDiff reduceMul reduceEqDiff)
set_option linter.unusedVariables false
set_option linter.unusedSimpArgs false
set_option maxHeartbeats 4000000
set_option maxRecDepth 100000
abbrev bdd (l:List Sp):Prop:=∀ s∈l,-1000000≤s.lo∧s.hi≤1000000
structure OKs (l:List Sp):Prop where
  nm:Norm l
  bd:bdd l
theorem OKs.len {l:List Sp} (h:OKs l):l.length≤2000001:=by
  have:=h.nm.len_le h.bd; omega
theorem OKs.nil:OKs []:=⟨norm_nil,fun s hs=>absurd hs (List.not_mem_nil)⟩
end Go.Proofs.YtahkhnagpdlkiaaGreat
