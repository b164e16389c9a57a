/-
  Instructions that make values of several cells, in a struct or in a new block.
-/
import Derived.Test.YtgpdckmbojmlpaaA6
import Derived.Laws.Tables
namespace Go.Abs
set_option linter.unusedVariables false
set_option linter.unusedSimpArgs false

/-- Cells read as abstract values, one by one. -/
def RL (w : World) (X : Nat → Prop) (β : Blk) (σ : Sto) (cs : List AV) (xs : List Value) : Prop :=
  xs.length = cs.length ∧ ∀ i, i < cs.length → (xs.getD i undef).oneCell' = true ∧ RV w X β σ (cs.getD i .any) (xs.getD i undef)

section
variable {P : Program} {o : Oper} {ρ : Operand → Value} {w : World} {X : Nat → Prop} {β : Blk} {σ : Sto} {v : O → AV}

theorem RL.tr {w' : World} {X' : Nat → Prop} {β' : Blk} {σ' : Sto} {cs : List AV} {xs : List Value} (h : RL w X β σ cs xs) (K : Kp w X β σ w' X' β' σ') : RL w' X' β' σ' cs xs :=
  ⟨h.1, fun i hi => ⟨(h.2 i hi).1, (h.2 i hi).2.tr K⟩⟩

theorem RL.one {a : AV} {x : Value} (h : RV w X β σ a x) (h1 : x.oneCell' = true) : RL w X β σ [a] [x] :=
  ⟨rfl, fun i hi => by obtain rfl : i = 0 := by simpa using hi
                       exact ⟨h1, h⟩⟩

theorem RL.append {cs ds : List AV} {xs ys : List Value} (h : RL w X β σ cs xs) (h' : RL w X β σ ds ys) : RL w X β σ (cs ++ ds) (xs ++ ys) := by
  refine ⟨by simp [h.1, h'.1], fun i hi => ?_⟩
  by_cases hc : i < cs.length
  · have := h.2 i hc
    have hx : i < xs.length := by rw [h.1]; exact hc
    simpa [List.getD_eq_getElem?_getD, List.getElem?_append_left hc, List.getElem?_append_left hx] using this
  · have hd : i - cs.length < ds.length := by simp at hi; omega
    have := h'.2 _ hd
    have e := h.1
    rw [List.getD_eq_getElem?_getD, List.getElem?_append_right (by omega), List.getD_eq_getElem?_getD, List.getElem?_append_right (by omega), e]
    simpa [List.getD_eq_getElem?_getD] using this

theorem RL.take {cs : List AV} {xs : List Value} (h : RL w X β σ cs xs) (n : Nat) : RL w X β σ (cs.take n) (xs.take n) := by
  refine ⟨by simp [h.1], fun i hi => ?_⟩
  simp only [List.length_take] at hi
  have := h.2 i (by omega)
  simpa [List.getD_eq_getElem?_getD, List.getElem?_take, show i < n by omega] using this

theorem RL.drop {cs : List AV} {xs : List Value} (h : RL w X β σ cs xs) (n : Nat) : RL w X β σ (cs.drop n) (xs.drop n) := by
  refine ⟨by simp [h.1], fun i hi => ?_⟩
  simp only [List.length_drop] at hi
  have := h.2 (n + i) (by omega)
  simpa [List.getD_eq_getElem?_getD, List.getElem?_drop] using this

theorem RL.vs : ∀ (xs : List Value), (∀ x ∈ xs, scalar x = true) → RL w X β σ (vs xs) xs
  | [], _ => ⟨rfl, fun i hi => absurd hi (Nat.not_lt_zero _)⟩
  | x :: r, h => RL.append (cs := [.v x]) (xs := [x]) (RL.one (.v x) (oneCell_of_scalar (h x (by simp)))) (RL.vs r fun y hy => h y (by simp [hy]))

theorem length_vs : ∀ (xs : List Value), (vs xs).length = xs.length
  | [] => rfl
  | _ :: r => by simp [Abs.vs, length_vs r]

theorem RL.splice {cs ds : List AV} {xs ys : List Value} {off : Nat} (h : RL w X β σ cs xs) (h' : RL w X β σ ds ys) :
    RL w X β σ (splice cs off ds) (xs.take off ++ ys ++ xs.drop (off + ys.length)) := by
  unfold Abs.splice
  rw [h'.1]
  exact RL.append (RL.append (h.take off) h') (h.drop _)

theorem RL.agg {cs : List AV} {xs : List Value} (h : RL w X β σ cs xs) : RV w X β σ (.agg cs) (.agg xs.toArray) :=
  agg_list h.1 (fun i hi => (h.2 i hi).1) fun i hi => (h.2 i hi).2

theorem RL.of_agg {cs : List AV} {xs : Array Value} (h : RV w X β σ (.agg cs) (.agg xs)) : RL w X β σ cs xs.toList := by
  cases h with
  | agg _ _ hn h1 h =>
    refine ⟨by simpa using hn, fun i hi => ?_⟩
    have a := h1 i hi
    have b := h i hi
    simp only [Array.getD_eq_getD_getElem?, List.getD_eq_getElem?_getD, Array.getElem?_toList] at a b ⊢
    exact ⟨a, b⟩

theorem cells_one {x : Value} (h : x.oneCell' = true) : x.cells.toList = [x] := by cases x <;> simp_all [Value.oneCell', Value.cells]

theorem cells_rel {a : AV} {x : Value} {cs : List AV} (h : RV w X β σ a x) (hc : cells a = some cs) : RL w X β σ cs x.cells.toList := by
  have h0 := h
  cases h with
  | v x =>
    simp only [cells] at hc
    split at hc
    · rename_i hs
      injection hc with hc; subst hc
      cases x <;> first | exact RL.one h0 rfl | (simp [scalar] at hs; done)
    · cases hc
  | any x => simp [cells] at hc
  | agg cs' xs hn h1 h => simp only [cells, Option.some.injEq] at hc; subst hc; exact RL.of_agg h0
  | tup => simp [cells] at hc
  | slnil k => simp only [cells, Option.some.injEq] at hc; subst hc; exact RL.one h0 rfl
  | slemp k a cap => simp only [cells, Option.some.injEq] at hc; subst hc; exact RL.one h0 rfl
  | sl => simp only [cells, Option.some.injEq] at hc; subst hc; exact RL.one h0 rfl
  | own f i n x h1 hf hle h =>
    simp only [cells, Option.some.injEq] at hc; subst hc
    rw [cells_one h1]; exact RL.one h0 h1
  | ptr f i n e j x h1 hf hle h =>
    simp only [cells, Option.some.injEq] at hc; subst hc
    rw [cells_one h1]; exact RL.one h0 h1
  | iptr => simp only [cells, Option.some.injEq] at hc; subst hc; exact RL.one h0 rfl
  | fn => simp only [cells, Option.some.injEq] at hc; subst hc; exact RL.one h0 rfl
  | yld f x h1 hf h =>
    simp only [cells, Option.some.injEq] at hc; subst hc
    rw [cells_one h1]; exact RL.one h0 h1
  | ifc => simp only [cells, Option.some.injEq] at hc; subst hc; exact RL.one h0 rfl
  | when => simp [cells] at hc

theorem fold_set : ∀ (l : List Value) (i off : Nat) (arr : Array Value), off + i + l.length ≤ arr.size →
    ((l.zipIdx i).foldl (fun cs p => cs.setIfInBounds (off + p.2) p.1) arr).toList = arr.toList.take (off + i) ++ l ++ arr.toList.drop (off + i + l.length)
  | [], i, off, arr, _ => by simp
  | x :: r, i, off, arr, h => by
    simp only [List.zipIdx_cons, List.foldl_cons]
    rw [fold_set r (i + 1) off _ (by simp at h ⊢; omega)]
    have e := list_seg_step arr.toList (off + i) x r (by simp at h ⊢; omega)
    simp only [Array.toList_setIfInBounds, Nat.add_assoc, List.length_cons] at e ⊢
    simpa [Nat.add_comm, Nat.add_left_comm] using e

theorem fill_step (arr : Array Value) (y : Value) (off : Nat) (h : off + y.cells.size ≤ arr.size) :
    (y.cells.zipIdx.foldl (fun cs (c, j) => cs.setIfInBounds (off + j) c) arr).toList = arr.toList.take off ++ y.cells.toList ++ arr.toList.drop (off + y.cells.toList.length) := by
  have := fold_set y.cells.toList 0 off arr (by simpa using h)
  rw [← Array.foldl_toList, Array.toList_zipIdx]
  simpa using this

theorem fill_rel {place : Nat → Option (Nat × Nat)} (hv : ∀ x z, chkO x z = true → RV w X β σ (v z) (ρ x)) :
    ∀ (ps : List (Nat × Operand)) (qs : List (Nat × Nat × O)) (cs cs' : List AV) (arr : Array Value), chkPs place ps qs = true → RL w X β σ cs arr.toList →
      fillA cs (qs.map fun p => (p.1, p.2.1, v p.2.2)) = some cs' → ∃ arr', Instr.fill place arr (ps.map fun (i, x) => (i, ρ x)) = some arr' ∧ RL w X β σ cs' arr'.toList
  | [], [], cs, cs', arr, _, hr, hf => by
    simp only [List.map_nil, fillA, Option.some.injEq] at hf; subst hf
    exact ⟨arr, rfl, hr⟩
  | [], q :: qs, _, _, _, hc, _, _ => by simp [chkPs] at hc
  | p :: ps, [], _, _, _, hc, _, _ => by simp [chkPs] at hc
  | (i, x) :: ps, (off, size, y) :: qs, cs, cs', arr, hc, hr, hf => by
    simp only [chkPs, Bool.and_eq_true, beq_iff_eq] at hc
    obtain ⟨⟨h1, h2⟩, h3⟩ := hc
    simp only [List.map_cons, fillA] at hf
    split at hf
    case h_2 => cases hf
    rename_i xs hxs
    split at hf
    case isFalse => cases hf
    rename_i hsz
    have hy := cells_rel (hv x y h2) hxs
    have e1 : (ρ x).cells.size = size := by have := hy.1; simp at this; omega
    have e2 : off + (ρ x).cells.size ≤ arr.size := by have := hr.1; simp at this; omega
    have hstep := fill_step arr (ρ x) off e2
    obtain ⟨arr', ha, hb⟩ := fill_rel hv ps qs (splice cs off xs) cs' _ h3 (by rw [hstep]; exact hr.splice hy) hf
    refine ⟨arr', ?_, hb⟩
    simp only [List.map_cons, Instr.fill, h1]
    rw [if_neg (by simp [e1]; omega)]
    exact ha

theorem mapM_places : ∀ (l : List Field), (l.all fun f => (szF P f.type).isSome) = true →
    l.mapM (fun f => (P.info? f.type).map fun i => (f.offset, i.size)) = some (l.map fun f => (f.offset, (szF P f.type).getD 0))
  | [], _ => rfl
  | f :: l, h => by
    simp only [List.all_cons, Bool.and_eq_true] at h
    obtain ⟨s, hs⟩ := Option.isSome_iff_exists.1 h.1
    obtain ⟨i, hi, rfl⟩ := sz_parts hs
    simp [List.mapM_cons, hi, mapM_places l h.2, szF]

theorem zr_parts {t : TypeId} {l : List Value} (h : zrF P t = some l) : ∃ i z, P.info? t = some i ∧ i.zero = some z ∧ z.cells.toList = l := by
  unfold zrF at h
  obtain ⟨i, hi, h⟩ := Option.bind_eq_some_iff.1 h
  obtain ⟨z, hz, rfl⟩ := Option.map_eq_some_iff.1 h
  exact ⟨i, z, hi, hz, rfl⟩

theorem chkPs_congr {p q : Nat → Option (Nat × Nat)} (h : ∀ n, p n = q n) (ps : List (Nat × Operand)) (qs : List (Nat × Nat × O)) : chkPs p ps qs = chkPs q ps qs := by
  rw [show p = q from funext h]

theorem ex_build {S : Prop} {r : AV} {σ' : Sto} {z : List Value} {qs : List (Nat × Nat × O)} (hc : chkI P o.op (.build z qs) = true) (hs : SRel w X β σ)
    (hv : ∀ x u, chkO x u = true → RV w (Xt X β σ) β σ (v u) (ρ x)) (he : ex (.build z qs) v σ = some (S, r, σ')) (_hS : S) : Done P o ρ w X β σ r σ' := by
  cases hop : o.op <;> rw [hop] at hc <;> try (simp [chkI] at hc; done)
  rename_i t ps
  simp only [chkI, Bool.and_eq_true] at hc
  obtain ⟨h1, h2⟩ := hc
  have hx : execOp ρ o = (do let x ← Instr.build t (ps.map fun (i, x) => (i, ρ x)); pure (.value x)) := by unfold execOp; rw [hop]
  cases hz : zrF P t with
  | none => rw [hz] at h1; simp at h1
  | some l =>
  rw [hz] at h1
  simp only at h1
  obtain ⟨rfl, hsc⟩ := beqVs_eq h1
  obtain ⟨it, z0, hit, hz0, rfl⟩ := zr_parts hz
  simp only [ex] at he
  split at he
  case h_2 => cases he
  rename_i cs hfill
  simp only [Option.some.injEq, Prod.mk.injEq] at he
  obtain ⟨_, rfl, rfl⟩ := he
  have key : ∃ arr', P.built t (ps.map fun (i, x) => (i, ρ x)).toList = some arr' ∧ RL w (Xt X β σ) β σ cs arr'.toList := by
    unfold Program.built
    cases hu : P.underlying t with
    | none => rw [hu] at h2; simp at h2
    | some d =>
      rw [hu] at h2
      cases d <;> try (simp at h2; done)
      case array n e =>
        cases hse : szF P e with
        | none => simp only [hse] at h2; simp at h2
        | some k =>
          simp only [hse] at h2
          obtain ⟨ie, hie, rfl⟩ := sz_parts hse
          obtain ⟨arr', ha, hb⟩ := fill_rel (w := w) (X := Xt X β σ) (β := β) (σ := σ) hv ps.toList qs _ _ z0.cells h2 (RL.vs _ hsc) hfill
          refine ⟨arr', ?_, hb⟩
          simp only [hit, hz0, hie, Array.toList_map]
          exact ha
      case struct fs =>
        simp only [Bool.and_eq_true] at h2
        have hm := mapM_places (P := P) fs.toList h2.2
        have hpl : ∀ n : Nat, ((fs.toList.map fun f => (f.offset, (szF P f.type).getD 0)).toArray[n]? : Option (Nat × Nat)) = (fs[n]?).bind fun (f : Field) => (szF P f.type).map fun s => (f.offset, s) := by
          intro n
          simp only [List.getElem?_toArray, List.getElem?_map, Array.getElem?_toList]
          cases hfn : fs[n]? with
          | none => rfl
          | some f =>
            have hmem : f ∈ fs.toList := by
              obtain ⟨hlt, rfl⟩ := Array.getElem?_eq_some_iff.1 hfn
              simp
            have := List.all_eq_true.1 h2.2 f hmem
            obtain ⟨s, hs⟩ := Option.isSome_iff_exists.1 this
            simp [hs]
        have hcp := chkPs_congr hpl ps.toList qs
        obtain ⟨arr', ha, hb⟩ := fill_rel (w := w) (X := Xt X β σ) (β := β) (σ := σ) hv ps.toList qs _ _ z0.cells (hcp.trans h2.1) (RL.vs _ hsc) hfill
        refine ⟨arr', ?_, hb⟩
        simp only [hit, hz0, hm, Array.toList_map]
        exact ha
  obtain ⟨arr', hb, hr⟩ := key
  refine done_pure (x := .agg arr') hs ?_ (by have := hr.agg; simpa using this)
  rw [hx]
  exact run_value _ _ _ (run_build w t _ arr' hb)

end
end Go.Abs
