/-
  From a row's reading of arguments to abstract values; from a contract to what a row asks.
-/
import Derived.Test.YtgpdckmbojmlpaaAG
import Derived.Below
import Derived.WideShapes
import Derived.OpenShut
namespace Go.Abs
open Go.RowKit Go.WideShapes
set_option linter.unusedVariables false
set_option linter.unusedSimpArgs false

theorem open_flat {P : Program} {w : World} {r : Reach} {base : Nat} {t : TypeId} {v : Value} {ts : List TypeId} {fs : Array Field} (n : Nat) (ht : P.underlying t = some (.struct fs))
    (hts : P.cellTypes P.depth t = some ts) (hn : ts.length = n) (hc : P.cellsOf t = n) (hall : ∀ u ∈ ts, P.underlying u = some (.int .i64)) (h : Value.okWide P w r base t v) :
    ∃ zs : List Int, zs.length = n ∧ v = .agg (zs.map (Value.int .i64)).toArray := by
  unfold Value.okWide at h
  rw [ht] at h
  obtain ⟨cs, rfl, hsz, ts', hts', _, hcell⟩ := h
  rw [hts] at hts'; injection hts' with hts'; subst hts'
  refine ⟨cs.toList.map (fun v => match v with | .int _ z => z | _ => 0), by simp [hsz, hc], ?_⟩
  congr 1
  apply Array.ext'
  simp only [List.map_map]
  have key : ∀ x ∈ cs.toList, x = (Value.int IntKind.i64 ∘ fun v => match v with | .int _ z => z | _ => 0) x := by
    intro x hx
    obtain ⟨i, hi⟩ := List.getElem?_of_mem hx
    obtain ⟨u, hu, hok⟩ := hcell i x (by simpa using hi)
    have hw : Value.okWide P w r base u x := by
      unfold Value.okWide
      rw [hall u (List.mem_of_getElem? hu)]
      exact hok
    obtain ⟨z, rfl⟩ := okWide_int (hall u (List.mem_of_getElem? hu)) hw
    rfl
  have := List.map_congr_left (f := id) (g := Value.int IntKind.i64 ∘ fun v => match v with | .int _ z => z | _ => 0) key
  rw [List.map_id] at this
  exact this

theorem rv_vs {w : World} {X : Nat → Prop} {β : Blk} {σ : Sto} (zs : List Int) : RV w X β σ (.agg (vs (zs.map (Value.int .i64)))) (.agg (zs.map (Value.int .i64)).toArray) :=
  (RL.vs (zs.map (Value.int .i64)) (fun x hx => by obtain ⟨z, _, rfl⟩ := List.mem_map.1 hx; rfl)).agg

theorem below_of_pure {P : Program} {f : Nat} {args : List AV} {r : AV} (h : Pure P f args r) (W : World) (xs : List Value) (hl : xs.length = args.length)
    (hr : ∀ i, i < args.length → RV W (fun _ => False) nob [] (args.getD i .any) (xs.getD i undef)) :
    Calls P f xs.toArray W fun e W' => ∃ x, e = .returned x ∧ RV W' (fun _ => False) nob [] r x ∧ Below W.heap.size W W' :=
  callsIn_wide.1 ((h.go _ W xs (fun b hb => hb.elim) hl hr).mono fun e w' ⟨x, he, hx, hs, ho, hio⟩ => ⟨x, he, hx, ⟨hio.1, hio.2.1, hio.2.2, hs, ho⟩⟩)

end Go.Abs
