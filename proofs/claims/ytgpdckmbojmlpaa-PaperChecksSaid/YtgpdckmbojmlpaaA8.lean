/-
  Instructions that lay a new block: boxed values, slices of literals, variables, made slices.
-/
import Derived.Test.YtgpdckmbojmlpaaA7
namespace Go.Abs
set_option linter.unusedVariables false
set_option linter.unusedSimpArgs false

section
variable {P : Program} {o : Oper} {ρ : Operand → Value} {w w' : World} {X : Nat → Prop} {β : Blk} {σ : Sto} {v : O → AV}

theorem push_old {ob : Obj} (h : w'.heap = w.heap.push ob) {b : Nat} (hb : b < w.heap.size) : w'.heap[b]? = w.heap[b]? := by
  rw [h, Array.getElem?_push]; rw [if_neg (by omega)]

theorem push_new {ob : Obj} (h : w'.heap = w.heap.push ob) : w'.heap[w.heap.size]? = some ob := by
  rw [h, Array.getElem?_push]; simp

theorem push_size {ob : Obj} (h : w'.heap = w.heap.push ob) : w.heap.size ≤ w'.heap.size := by rw [h]; simp

/-- A new block that nothing writes. -/
theorem done_imm {ob : Obj} {x : Value} {r : AV} (hs : SRel w X β σ) (hr : (execOp ρ o).run P w = .ok (.value x) w') (hh : w'.heap = w.heap.push ob)
    (hx : RV w' (Xt X β σ) β σ r x) (io : Still w w' := by exact ⟨rfl, rfl, rfl⟩) : Done P o ρ w X β σ r σ :=
  ⟨_, x, w', β, hr, .inl rfl, hs.same (push_size hh) (fun _ => push_old hh), Kp.same (push_size hh) (fun _ => push_old hh) hs, Ext.same (push_size hh) (fun _ => push_old hh) io, hx⟩

theorem cell_new {c : Array Value} {T : TypeId} (hh : w'.heap = w.heap.push (.cells c T (0, 0))) {j : Nat} (hj : j < c.size) : w'.cell? ⟨w.heap.size, j, none⟩ = some (c.getD j undef) := by
  rw [cell_of_row w' w.heap.size j c T (0, 0) (push_new hh)]
  simp [Array.getD_eq_getD_getElem?, hj]

theorem iptr_new {c : Array Value} {T : TypeId} {cs : List AV} (hs : SRel w X β σ) (hX : ∀ b, X b → b < w.heap.size) (hh : w'.heap = w.heap.push (.cells c T (0, 0)))
    (hr : RL w (Xt X β σ) β σ cs c.toList) : RV w' (Xt X β σ) β σ (.iptr cs 0) (.pointer (some ⟨w.heap.size, 0, none⟩)) := by
  have hn : c.size = cs.length := by simpa using hr.1
  have hr' := hr.tr (Kp.same (push_size hh) (fun _ => push_old hh) hs)
  refine .iptr cs 0 w.heap.size 0 (fun t => c.getD t undef) (fun t _ hx => ?_) (fun t ht => ?_) (fun t ht => ?_) fun t ht => ?_
  · exact Nat.lt_irrefl _ (Xt_lt hs hX hx)
  · have := (hr.2 t ht).1; simpa [List.getD_eq_getElem?_getD, Array.getD_eq_getD_getElem?] using this
  · rw [Nat.zero_add]; exact cell_new hh (by omega)
  · have := (hr'.2 t ht).2; simpa [List.getD_eq_getElem?_getD, Array.getD_eq_getD_getElem?] using this

theorem chop_length (k : Nat) : ∀ (n : Nat) (cs : List AV), (chop k n cs).length = n
  | 0, _ => rfl
  | n + 1, cs => by simp [chop, chop_length k n]

theorem chop_getD (k : Nat) : ∀ (n : Nat) (cs : List AV) (e : Nat), e < n → (chop k n cs).getD e [] = (cs.drop (e * k)).take k
  | 0, _, e, h => absurd h (Nat.not_lt_zero _)
  | n + 1, cs, 0, _ => by simp [chop]
  | n + 1, cs, e + 1, h => by
    have := chop_getD k n (cs.drop k) e (by omega)
    rw [List.drop_drop] at this
    rw [show (e + 1) * k = k + e * k by rw [Nat.add_mul]; omega]
    simpa [chop, List.getD_cons_succ] using this

theorem mul_lt {e n k : Nat} (h : e < n) : e * k + k ≤ n * k := by
  have := Nat.mul_le_mul_right k (show e + 1 ≤ n by omega)
  rw [Nat.add_mul] at this; omega

theorem sl_new {c : Array Value} {T : TypeId} {cs : List AV} {k n : Nat} (hs : SRel w X β σ) (hX : ∀ b, X b → b < w.heap.size) (hh : w'.heap = w.heap.push (.cells c T (0, 0)))
    (hr : RL w (Xt X β σ) β σ cs c.toList) (hl : cs.length = n * k) (cap : Nat) (hcap : n ≤ cap) : RV w' (Xt X β σ) β σ (.sl k (chop k n cs)) (.slice (some ⟨w.heap.size, 0, none⟩) n cap) := by
  have hn : c.size = cs.length := by simpa using hr.1
  have hr' := hr.tr (Kp.same (push_size hh) (fun _ => push_old hh) hs)
  have hlen := chop_length k n cs
  have h0 : RV w' (Xt X β σ) β σ (.sl k (chop k n cs)) (.slice (some ⟨w.heap.size, 0, none⟩) (chop k n cs).length cap) := by
    refine .sl k (chop k n cs) w.heap.size 0 cap (fun e j => c.getD (e * k + j) undef) (by omega) (fun e he => ?_) (fun e he j hj => ?_) (fun e j _ _ hx => ?_) (fun e j he hj => ?_) fun e j he hj => ?_
    · rw [hlen] at he
      rw [chop_getD k n cs e he, length_take_drop _ _ _ (by have := mul_lt (k := k) he; omega)]
    · rw [hlen] at he
      have := mul_lt (k := k) he
      rw [Nat.zero_add]; exact cell_new hh (by omega)
    · exact Nat.lt_irrefl _ (Xt_lt hs hX hx)
    · rw [hlen] at he
      have := mul_lt (k := k) he
      have := (hr.2 (e * k + j) (by omega)).1
      simpa [List.getD_eq_getElem?_getD, Array.getD_eq_getD_getElem?] using this
    · rw [hlen] at he
      have := mul_lt (k := k) he
      rw [chop_getD k n cs e he, getD_take_drop _ _ _ _ _ hj]
      have := (hr'.2 (e * k + j) (by omega)).2
      simpa [List.getD_eq_getElem?_getD, Array.getD_eq_getD_getElem?] using this
  rw [hlen] at h0
  exact h0

/-- A new object that is owned, in a new block. -/
theorem done_push {c : Array Value} {T : TypeId} {x : Value} {r : AV} {es : List (List AV)} {k : Nat} (hs : SRel w X β σ) (hX : ∀ b, X b → b < w.heap.size)
    (hr : (execOp ρ o).run P w = .ok (.value x) w') (hh : w'.heap = w.heap.push (.cells c T (0, 0)))
    (hk : ∀ e, e < es.length → (es.getD e []).length = k) (hsz : es.length * k ≤ c.size)
    (hc : ∀ e j, e < es.length → j < k → (c.getD (e * k + j) undef).oneCell' = true ∧ RV w (Xt X β σ) β σ ((es.getD e []).getD j .any) (c.getD (e * k + j) undef))
    (hx : RV w' (Xt X (addB β σ.length (some w.heap.size)) (σ ++ [some [⟨T, k, es, none⟩]])) (addB β σ.length (some w.heap.size)) (σ ++ [some [⟨T, k, es, none⟩]]) r x) (io : Still w w' := by exact ⟨rfl, rfl, rfl⟩) : Done P o ρ w X β σ r (σ ++ [some [⟨T, k, es, none⟩]]) := by
  have hbo : ∀ b, some w.heap.size = some b → b = w.heap.size := fun b hb => by injection hb with hb; exact hb.symm
  have K := Kp.push (o := ⟨T, k, es, none⟩) (bo := some w.heap.size) hs (push_size hh) (fun _ => push_old hh) hbo
  exact ⟨_, x, w', addB β σ.length (some w.heap.size), hr, .inl rfl,
    hs.push hX (push_size hh) (fun _ => push_old hh) hbo ⟨hk, fun _ => ⟨c, push_new hh, hsz, fun e j he hj => (hc e j he hj).1, fun e j he hj => (hc e j he hj).2.tr K⟩, fun _ h => (by cases h)⟩,
    K, Ext.push (push_size hh) (fun _ => push_old hh) hbo io, hx⟩

theorem ptr_push {T : TypeId} {k : Nat} {cs : List AV} : RV w' X (addB β σ.length (some w.heap.size)) (σ ++ [some [⟨T, k, [cs], none⟩]]) (.ptr σ.length 0 1 0 0) (.pointer (some ⟨w.heap.size, 0, none⟩)) := by
  refine .ptr _ _ _ _ _ _ rfl (by simp) (fun o ho => ?_) fun o ho hn => ?_
  · rw [at_push_new] at ho; simp at ho; subst ho; simp
  · rw [at_push_new] at ho; simp at ho; subst ho
    exact ⟨w.heap.size, addB_new, by simp⟩

theorem own_push {c : Array Value} {T : TypeId} {k n cap : Nat} {es : List (List AV)} (hh : w'.heap = w.heap.push (.cells c T (0, 0))) (hn : es.length = n) (hc : c.size = cap * k) :
    RV w' X (addB β σ.length (some w.heap.size)) (σ ++ [some [⟨T, k, es, none⟩]]) (.own σ.length 0 n) (.slice (some ⟨w.heap.size, 0, none⟩) n cap) := by
  refine .own _ _ _ _ rfl (by simp) (fun o ho => ?_) fun o ho hn' => ?_
  · rw [at_push_new] at ho; simp at ho; subst ho; simp [hn]
  · rw [at_push_new] at ho; simp at ho; subst ho
    unfold OwnSl
    rw [addB_new]
    exact ⟨cap, c, T, by rw [hn], push_new hh, hc⟩

theorem ex_alloc {S : Prop} {r : AV} {σ' : Sto} {T k : Nat} {z : List Value} (hc : chkI P o.op (.alloc T k z) = true) (hs : SRel w X β σ) (hX : ∀ b, X b → b < w.heap.size)
    (he : ex (.alloc T k z) v σ = some (S, r, σ')) : Done P o ρ w X β σ r σ' := by
  cases hop : o.op <;> rw [hop] at hc <;> try (simp [chkI] at hc; done)
  rename_i t
  simp only [chkI, Bool.and_eq_true, beq_iff_eq] at hc
  obtain ⟨⟨rfl, h1⟩, h2⟩ := hc
  have hx : execOp ρ o = (do let x ← Instr.alloc t true (.tuple #[]); pure (.value x)) := by unfold execOp; rw [hop]
  cases hz : zrF P t with
  | none => rw [hz] at h2; simp at h2
  | some l =>
  rw [hz] at h2
  simp only at h2
  obtain ⟨rfl, hsc⟩ := beqVs_eq h2
  obtain ⟨it, z0, hit, hz0, rfl⟩ := zr_parts hz
  simp only [ex] at he
  split at he
  case isFalse => cases he
  rename_i hk
  simp only [Option.some.injEq, Prod.mk.injEq] at he
  obtain ⟨_, rfl, rfl⟩ := he
  have hrl := RL.vs (w := w) (X := Xt X β σ) (β := β) (σ := σ) _ hsc
  have hlen := length_vs z0.cells.toList
  refine done_push (w' := w.alloc (.cells z0.cells t)) (c := z0.cells) (x := .pointer (some ⟨w.heap.size, 0, none⟩)) hs hX ?_ rfl (fun e he => ?_) ?_ (fun e j he hj => ?_) ptr_push
  · rw [hx]
    exact run_value _ _ _ (by simp [Instr.alloc, zeroValue, typeInfo, hit, hz0, newVar, newRow])
  · obtain rfl : e = 0 := by simpa using he
    simp [hlen, hk]
  · simp at hk ⊢; omega
  · obtain rfl : e = 0 := by simpa using he
    have := hrl.2 j (by rw [hlen, hk]; exact hj)
    simpa [List.getD_eq_getElem?_getD, Array.getD_eq_getD_getElem?] using this

theorem ex_box {S : Prop} {r : AV} {σ' : Sto} {own : Bool} {T k : Nat} {y : O} (hc : chkI P o.op (.box own T k y) = true) (hs : SRel w X β σ) (hX : ∀ b, X b → b < w.heap.size)
    (hv : ∀ x u, chkO x u = true → RV w (Xt X β σ) β σ (v u) (ρ x)) (he : ex (.box own T k y) v σ = some (S, r, σ')) : Done P o ρ w X β σ r σ' := by
  cases hop : o.op <;> rw [hop] at hc <;> try (simp [chkI] at hc; done)
  rename_i t a
  simp only [chkI, Bool.and_eq_true, beq_iff_eq] at hc
  obtain ⟨⟨rfl, h1⟩, h2⟩ := hc
  have ha := hv a y h2
  have hx : execOp ρ o = (do let x ← Instr.box t (ρ a); pure (.value x)) := by unfold execOp; rw [hop]
  have hrun : (execOp ρ o).run P w = .ok (.value (.pointer (some ⟨w.heap.size, 0, none⟩))) (w.alloc (.cells (ρ a).cells t)) := by
    rw [hx]; exact run_value _ _ _ (by simp [Instr.box, newVar, newRow])
  simp only [ex] at he
  split at he
  case h_2 => cases he
  rename_i cs hcs
  have hrl := cells_rel ha hcs
  split at he
  case isFalse => cases he
  rename_i hk
  have hsz : (ρ a).cells.size = k := by have := hrl.1; simp at this; omega
  cases own with
  | false =>
    simp only [Bool.false_eq_true, if_false, Option.some.injEq, Prod.mk.injEq] at he
    obtain ⟨_, rfl, rfl⟩ := he
    exact done_imm hs hrun rfl (iptr_new hs hX rfl hrl)
  | true =>
    simp only [if_true, Option.some.injEq, Prod.mk.injEq] at he
    obtain ⟨_, rfl, rfl⟩ := he
    refine done_push hs hX hrun rfl (fun e he => ?_) ?_ (fun e j he hj => ?_) ptr_push
    · obtain rfl : e = 0 := by simpa using he
      simpa using hk
    · simp; omega
    · obtain rfl : e = 0 := by simpa using he
      have := hrl.2 j (by rw [hk]; exact hj)
      simpa [List.getD_eq_getElem?_getD, Array.getD_eq_getD_getElem?] using this

theorem ex_bsl {S : Prop} {r : AV} {σ' : Sto} {own : Bool} {T k n : Nat} {z : List Value} {qs : List (Nat × Nat × O)} (hc : chkI P o.op (.bsl own T k n z qs) = true) (hs : SRel w X β σ)
    (hX : ∀ b, X b → b < w.heap.size)
    (hv : ∀ x u, chkO x u = true → RV w (Xt X β σ) β σ (v u) (ρ x)) (he : ex (.bsl own T k n z qs) v σ = some (S, r, σ')) : Done P o ρ w X β σ r σ' := by
  cases hop : o.op <;> rw [hop] at hc <;> try (simp [chkI] at hc; done)
  rename_i t m ps
  simp only [chkI, Bool.and_eq_true, beq_iff_eq, decide_eq_true_eq] at hc
  obtain ⟨⟨⟨⟨⟨rfl, h2⟩, h3⟩, h4⟩, h5⟩, h6⟩ := hc
  have hu := el_parts h2
  obtain ⟨ie, hie, rfl⟩ := sz_parts h3
  cases hz : zrF P T with
  | none => rw [hz] at h5; simp at h5
  | some l =>
  rw [hz] at h5
  simp only at h5
  obtain ⟨rfl, hsc⟩ := beqVs_eq h5
  obtain ⟨it, z0, hit, hz0, rfl⟩ := zr_parts hz
  obtain rfl : it = ie := by rw [hie] at hit; injection hit with hit; exact hit.symm
  have hx : execOp ρ o = (do let x ← Instr.buildSlice t m (ps.map fun (i, x) => (i, ρ x)); pure (.value x)) := by unfold execOp; rw [hop]
  simp only [ex] at he
  split at he
  case h_2 => cases he
  rename_i cs hfill
  split at he
  case isFalse => cases he
  rename_i hk
  obtain ⟨arr', ha, hb⟩ := fill_rel (w := w) (X := Xt X β σ) (β := β) (σ := σ) hv ps.toList qs _ _ ((List.range (m * it.size)).map fun j => z0.cells.toList.toArray[j % z0.cells.toList.toArray.size]!).toArray h6
    (by simpa using RL.vs (w := w) (X := Xt X β σ) (β := β) (σ := σ) _ hsc) hfill
  have hrun : (execOp ρ o).run P w = .ok (.value (.slice (some ⟨w.heap.size, 0, none⟩) m m)) (w.alloc (.cells arr' T)) := by
    rw [hx]
    refine run_value _ _ _ ?_
    have e1 : (Array.map (fun x => z0.cells[x % z0.cells.size]!) (Array.range (m * it.size))) = ((List.range (m * it.size)).map fun j => z0.cells.toList.toArray[j % z0.cells.toList.toArray.size]!).toArray := by
      apply Array.ext'; simp
    rw [← e1] at ha
    by_cases hz0' : m * it.size = 0
    · rw [hz0'] at ha
      simp only [Array.range_zero', Array.map_empty] at ha
      simp [Instr.buildSlice, run_underlying hu, sizeOf, typeInfo, hie, hz0', Array.range_zero', ha, newRow]
    · have h4' : ¬ (m * it.size > 2 ^ 24) := by omega
      simp [Instr.buildSlice, run_underlying hu, sizeOf, typeInfo, zeroValue, hie, hz0, h4', hz0', ha, newRow]
  cases own with
  | false =>
    simp only [Bool.false_eq_true, if_false, Option.some.injEq, Prod.mk.injEq] at he
    obtain ⟨_, rfl, rfl⟩ := he
    exact done_imm hs hrun rfl (sl_new hs hX rfl hb hk _ (Nat.le_refl _))
  | true =>
    simp only [if_true, Option.some.injEq, Prod.mk.injEq] at he
    obtain ⟨_, rfl, rfl⟩ := he
    have hsz : arr'.size = m * it.size := by have := hb.1; simp at this; omega
    refine done_push hs hX hrun rfl (fun e he => ?_) ?_ (fun e j he hj => ?_) (own_push rfl (chop_length _ _ _) hsz)
    · rw [chop_length] at he
      rw [chop_getD _ _ _ _ he, length_take_drop _ _ _ (by have := mul_lt (k := it.size) he; omega)]
    · rw [chop_length]; omega
    · rw [chop_length] at he
      have := mul_lt (k := it.size) he
      rw [chop_getD _ _ _ _ he, getD_take_drop _ _ _ _ _ hj]
      have := hb.2 (e * it.size + j) (by omega)
      simpa [List.getD_eq_getElem?_getD, Array.getD_eq_getD_getElem?] using this

end
end Go.Abs
