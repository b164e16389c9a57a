/-
  That the effect of an instruction on abstract values is that of its operation: those that leave the world as it is.
-/
import Derived.Test.YtgpdckmbojmlpaaA4
namespace Go.Abs
set_option linter.unusedVariables false
set_option linter.unusedSimpArgs false

section
variable {P : Program} {o : Oper} {ρ : Operand → Value} {w : World} {X : Nat → Prop} {β : Blk} {σ : Sto} {v : O → AV}

theorem run_value (s : Sem Value) (x : Value) (w' : World) (h : s.run P w = .ok x w') : (do let a ← s; pure (Next.value a) : Sem Next).run P w = .ok (.value x) w' := by
  simp [h]

theorem pick1_none {cs : List AV} {j : Nat} {r : AV} (h : pick1 none cs j = some r) : j < cs.length ∧ r = cs.getD j .any := by
  simp only [pick1] at h
  obtain ⟨hj, he⟩ := List.getElem?_eq_some_iff.1 h
  exact ⟨hj, by rw [List.getD_eq_getElem?_getD, h]; rfl⟩

theorem pick1_some {cs : List AV} {j n : Nat} {r : AV} (h : pick1 (some n) cs j = some r) : j + n ≤ cs.length ∧ r = .agg ((cs.drop j).take n) := by
  simp only [pick1] at h
  split at h
  · rename_i hj; exact ⟨hj, by injection h with h; exact h.symm⟩
  · cases h

theorem getD_take_drop {α : Type} (l : List α) (j n i : Nat) (d : α) (h : i < n) : ((l.drop j).take n).getD i d = l.getD (j + i) d := by
  rw [List.getD_eq_getElem?_getD, List.getD_eq_getElem?_getD, List.getElem?_take, if_pos h, List.getElem?_drop]

theorem length_take_drop {α : Type} (l : List α) (j n : Nat) (h : j + n ≤ l.length) : ((l.drop j).take n).length = n := by
  rw [List.length_take, List.length_drop]; omega

theorem take_drop_map {α : Type} (l : List α) (j n : Nat) (d : α) (h : j + n ≤ l.length) : (l.drop j).take n = (List.range n).map (fun i => l.getD (j + i) d) := by
  apply List.ext_getElem?
  intro i
  by_cases hi : i < n
  · rw [List.getElem?_take, if_pos hi, List.getElem?_drop, List.getElem?_map, List.getElem?_range hi, List.getElem?_eq_getElem (show j + i < l.length by omega)]
    simp [List.getD_eq_getElem?_getD, List.getElem?_eq_getElem (show j + i < l.length by omega)]
  · rw [List.getElem?_eq_none (by rw [length_take_drop _ j n h]; omega), List.getElem?_eq_none (by simp; omega)]

theorem getD_extract (xs : Array Value) (a n t : Nat) (d : Value) (h : t < n) (h2 : a + n ≤ xs.size) : (xs.extract a (a + n)).getD t d = xs.getD (a + t) d := by
  have e : t < min (a + n) xs.size - a := by omega
  have e2 : a + t < xs.size := by omega
  simp [Array.getD_eq_getD_getElem?, e, e2]

theorem load_rows (hs : SRel w X β σ) {t : TypeId} {a : Operand} {s : Option Nat} {b off : Nat} {f : Nat → Value} {g : Nat → AV} {r : AV} {m : Nat}
    (ho : o.op = .load t a) (hρ : ρ a = .pointer (some ⟨b, off, none⟩))
    (ht : (match agF P t, s with | some false, none => true | some true, some n => szF P t == some n | _, _ => false) = true)
    (hc : ∀ i, i < m → w.cell? ⟨b, off + i, none⟩ = some (f i)) (h1 : ∀ i, i < m → (f i).oneCell' = true) (hr : ∀ i, i < m → RV w (Xt X β σ) β σ (g i) (f i))
    (hm : m = s.getD 1) (hg : r = match s with | none => g 0 | some n => .agg ((List.range n).map g)) : ∃ x, (execOp ρ o).run P w = .ok (.value x) w ∧ RV w (Xt X β σ) β σ r x := by
  have hx : execOp ρ o = (do let x ← Instr.loadAt t (ρ a); pure (.value x)) := by unfold execOp; rw [ho]
  cases hag : agF P t with
  | none => rw [hag] at ht; simp at ht
  | some q =>
    rw [hag] at ht
    cases q with
    | false =>
      cases s with
      | some n => simp at ht
      | none =>
        simp at hm hg; subst hm; subst hg
        refine ⟨f 0, ?_, hr 0 (by omega)⟩
        rw [hx]
        refine run_value _ _ _ ?_
        simp only [Instr.loadAt, hρ, Instr.sureAddr, pure_bind]
        exact run_loadVar_one hag (by simpa using hc 0 (by omega))
    | true =>
      cases s with
      | none => simp at ht
      | some n =>
        simp at hm ht hg; subst hm; subst hg
        refine ⟨.agg ((List.range m).map f).toArray, ?_, ?_⟩
        · rw [hx]
          refine run_value _ _ _ ?_
          simp only [Instr.loadAt, hρ, Instr.sureAddr, pure_bind]
          refine run_loadVar_agg hag ht (fun j hj => ?_)
          rw [Addr.add_lit]; exact hc j hj
        · refine agg_list (by simp) (fun i hi => ?_) (fun i hi => ?_)
          · simp at hi; simpa [List.getD_eq_getElem?_getD, hi] using h1 i hi
          · simp at hi; simpa [List.getD_eq_getElem?_getD, hi] using hr i hi

theorem ex_load0 {S : Prop} {r : AV} {σ' : Sto} {s : Option Nat} {y : O} (hc : chkI P o.op (.load s y) = true) (hs : SRel w X β σ)
    (hv : ∀ x z, chkO x z = true → z ∈ (I.load s y).os → RV w (Xt X β σ) β σ (v z) (ρ x)) (he : ex (.load s y) v σ = some (S, r, σ')) (hS : S) :
    σ' = σ ∧ ∃ x, (execOp ρ o).run P w = .ok (.value x) w ∧ RV w (Xt X β σ) β σ r x := by
  cases hop : o.op <;> rw [hop] at hc <;> try (simp [chkI] at hc; done)
  rename_i t a
  simp only [chkI, Bool.and_eq_true] at hc
  have ha := hv a y hc.1 (by simp [I.os])
  have ht := hc.2
  simp only [ex] at he
  generalize v y = vy at ha he
  generalize hq : ρ a = q at ha
  cases vy <;> try (simp at he; done)
  case iptr cs j =>
    simp only at he
    split at he
    · rename_i x hp
      simp only [Option.some.injEq, Prod.mk.injEq] at he
      obtain ⟨_, rfl, rfl⟩ := he
      cases ha with
      | iptr _ _ b off f hX h1 hcell hr =>
        cases s with
        | none =>
          obtain ⟨hj, rfl⟩ := pick1_none hp
          refine ⟨rfl, ?_⟩
          exact load_rows (f := fun i => f (j + i)) (g := fun i => cs.getD (j + i) .any) (m := 1) hs hop hq ht
            (fun i hi => by rw [Nat.add_assoc]; exact hcell _ (by omega)) (fun i hi => h1 _ (by omega)) (fun i hi => hr _ (by omega)) rfl rfl
        | some n =>
          obtain ⟨hj, rfl⟩ := pick1_some hp
          refine ⟨rfl, ?_⟩
          refine load_rows (f := fun i => f (j + i)) (g := fun i => cs.getD (j + i) .any) (m := n) hs hop hq ht
            (fun i hi => by rw [Nat.add_assoc]; exact hcell _ (by omega)) (fun i hi => h1 _ (by omega)) (fun i hi => hr _ (by omega)) rfl ?_
          exact congrArg AV.agg (take_drop_map cs j n AV.any hj)
    · cases he
  case ptr f i n e j =>
    simp only [obj] at he
    cases hat : σ.at f i with
    | none => rw [hat] at he; simp at he
    | some ob =>
      rw [hat] at he
      have hob := hs.obj f i ob hat
      cases ha with
      | ptr _ _ _ _ _ _ h1c hf hle h =>
        cases s with
        | none =>
          simp only [Option.some.injEq, Prod.mk.injEq] at he
          obtain ⟨rfl, rfl, rfl⟩ := he
          obtain ⟨hn, hen, hj⟩ := hS
          obtain ⟨b, hb, rfl⟩ := h ob hat hn
          have h2 := hob.2
          rw [hb] at h2
          obtain ⟨c, hcell, hsz, h1, hr⟩ := h2.1 (hob.lp_none (by omega : e < ob.es.length))
          have hlt : e * ob.k + j < c.size := by
            have := Nat.mul_le_mul_right ob.k (show e + 1 ≤ ob.es.length by omega)
            rw [Nat.add_mul] at this; omega
          refine ⟨rfl, ?_⟩
          refine load_rows (f := fun i => c.getD (e * ob.k + (j + i)) undef) (g := fun i => (ob.es.getD e []).getD (j + i) .any) (m := 1) hs hop hq ht
            (fun i hi => ?_) (fun i hi => h1 e (j + i) (by omega) (by omega)) (fun i hi => hr e (j + i) (by omega) (by omega)) rfl rfl
          obtain rfl : i = 0 := by omega
          rw [cell_of_row w b _ c _ _ hcell]
          simp [Array.getD_eq_getD_getElem?, hlt]
        | some m =>
          simp only [Option.some.injEq, Prod.mk.injEq] at he
          obtain ⟨rfl, rfl, rfl⟩ := he
          obtain ⟨hn, hen, hj⟩ := hS
          obtain ⟨b, hb, rfl⟩ := h ob hat hn
          have h2 := hob.2
          rw [hb] at h2
          obtain ⟨c, hcell, hsz, h1, hr⟩ := h2.1 (hob.lp_none (by omega : e < ob.es.length))
          have hlt : e * ob.k + j + m ≤ c.size := by
            have := Nat.mul_le_mul_right ob.k (show e + 1 ≤ ob.es.length by omega)
            rw [Nat.add_mul] at this; omega
          have hk := hob.1 e (by omega)
          refine ⟨rfl, ?_⟩
          refine load_rows (f := fun i => c.getD (e * ob.k + (j + i)) undef) (g := fun i => (ob.es.getD e []).getD (j + i) .any) (m := m) hs hop hq ht
            (fun i hi => ?_) (fun i hi => h1 e (j + i) (by omega) (by omega)) (fun i hi => hr e (j + i) (by omega) (by omega)) rfl ?_
          · rw [cell_of_row w b _ c _ _ hcell]
            simp [Array.getD_eq_getD_getElem?, Nat.add_assoc, show e * ob.k + (j + i) < c.size by omega]
          · exact congrArg AV.agg (take_drop_map (ob.es.getD e []) j m AV.any (by omega))

theorem ex_load {S : Prop} {r : AV} {σ' : Sto} {s : Option Nat} {y : O} (hc : chkI P o.op (.load s y) = true) (hs : SRel w X β σ)
    (hv : ∀ x z, chkO x z = true → z ∈ (I.load s y).os → RV w (Xt X β σ) β σ (v z) (ρ x)) (he : ex (.load s y) v σ = some (S, r, σ')) (hS : S) : Done P o ρ w X β σ r σ' := by
  obtain ⟨rfl, x, hr, hx⟩ := ex_load0 hc hs hv he hS
  exact done_pure hs hr hx

theorem ex_mv {S : Prop} {r : AV} {σ' : Sto} {y : O} (hc : chkI P o.op (.mv y) = true) (hs : SRel w X β σ)
    (hv : ∀ x z, chkO x z = true → z ∈ (I.mv y).os → RV w (Xt X β σ) β σ (v z) (ρ x)) (he : ex (.mv y) v σ = some (S, r, σ')) (_hS : S) : Done P o ρ w X β σ r σ' := by
  simp only [ex, Option.some.injEq, Prod.mk.injEq] at he
  obtain ⟨_, rfl, rfl⟩ := he
  cases hop : o.op <;> rw [hop] at hc <;> try (simp [chkI] at hc; done)
  all_goals
    rename_i a
    refine done_pure hs ?_ (hv a y (by simpa [chkI] using hc) (by simp [I.os]))
    unfold execOp; rw [hop]; rfl

theorem ex_bin {S : Prop} {r : AV} {σ' : Sto} {op : BinOp} {y z : O} (hc : chkI P o.op (.bin op y z) = true) (hs : SRel w X β σ)
    (hv : ∀ x u, chkO x u = true → u ∈ (I.bin op y z).os → RV w (Xt X β σ) β σ (v u) (ρ x)) (he : ex (.bin op y z) v σ = some (S, r, σ')) (hS : S) : Done P o ρ w X β σ r σ' := by
  cases hop : o.op <;> rw [hop] at hc <;> try (simp [chkI] at hc; done)
  rename_i op' t a b t'
  simp only [chkI, Bool.and_eq_true, beq_iff_eq] at hc
  obtain ⟨⟨rfl, h1⟩, h2⟩ := hc
  have ha := hv a y h1 (by simp [I.os])
  have hb := hv b z h2 (by simp [I.os])
  simp only [ex] at he
  split at he
  case h_2 => cases he
  rename_i S' r' hbin
  simp only [Option.some.injEq, Prod.mk.injEq] at he
  obtain ⟨rfl, rfl, rfl⟩ := he
  generalize v y = vy at ha hbin
  generalize v z = vz at hb hbin
  generalize hqa : ρ a = qa at ha
  generalize hqb : ρ b = qb at hb
  have hx : execOp ρ o = (do let x ← (do eqGuard op' t a b (ρ a) (ρ b); binOp op' t (ρ a) (ρ b)); pure (.value x)) := by unfold execOp; rw [hop]
  have key : ∃ q, (do eqGuard op' t a b qa qb; binOp op' t qa qb : Sem Value).run P w = .ok q w ∧ r' = .v q := by
    unfold binA at hbin
    split at hbin
    · rename_i k m k' n
      split at hbin
      · rename_i hk; subst hk
        obtain rfl := ha.inv_v
        obtain rfl := hb.inv_v
        cases op' <;> simp only [Option.some.injEq, Prod.mk.injEq, reduceCtorEq] at hbin <;> obtain ⟨rfl, rfl⟩ := hbin <;>
          first
            | exact ⟨_, by simp [go_sem, Op.intArith, Op.intDiv, hS], rfl⟩
            | exact ⟨_, by simp [go_sem, Op.intArith, Op.intDiv], rfl⟩
      · cases hbin
    · cases hbin
  obtain ⟨q, hq, rfl⟩ := key
  refine done_pure hs ?_ (.v q)
  rw [hx, hqa, hqb]
  exact run_value _ _ _ hq

theorem ex_un {S : Prop} {r : AV} {σ' : Sto} {op : UnOp} {y : O} (hc : chkI P o.op (.un op y) = true) (hs : SRel w X β σ)
    (hv : ∀ x u, chkO x u = true → u ∈ (I.un op y).os → RV w (Xt X β σ) β σ (v u) (ρ x)) (he : ex (.un op y) v σ = some (S, r, σ')) (_hS : S) : Done P o ρ w X β σ r σ' := by
  cases hop : o.op <;> rw [hop] at hc <;> try (simp [chkI] at hc; done)
  rename_i op' t a
  simp only [chkI, Bool.and_eq_true, beq_iff_eq] at hc
  obtain ⟨rfl, h1⟩ := hc
  have ha := hv a y h1 (by simp [I.os])
  have hx : execOp ρ o = (do let x ← Op.unary op' (ρ a); pure (.value x)) := by unfold execOp; rw [hop]
  simp only [ex] at he
  generalize v y = vy at ha he
  generalize hqa : ρ a = qa at ha
  split at he
  · simp only [Option.some.injEq, Prod.mk.injEq] at he
    obtain ⟨_, rfl, rfl⟩ := he
    obtain rfl := ha.inv_v
    refine done_pure hs ?_ (.v _)
    rw [hx, hqa]; exact run_value _ _ _ (by simp [Op.unary])
  · simp only [Option.some.injEq, Prod.mk.injEq] at he
    obtain ⟨_, rfl, rfl⟩ := he
    obtain rfl := ha.inv_v
    refine done_pure hs ?_ (.v _)
    rw [hx, hqa]; exact run_value _ _ _ (by simp [Op.unary, Op.intArith])
  · cases he

theorem fd_parts {t : TypeId} {n off : Nat} {ft : TypeId} (h : fdF P t n = some (off, ft)) : ∃ fs f, P.underlying t = some (.struct fs) ∧ fs[n]? = some f ∧ f.offset = off ∧ f.type = ft := by
  unfold fdF at h
  split at h
  · rename_i fs hu
    obtain ⟨f, hf, he⟩ := Option.map_eq_some_iff.1 h
    simp only [Prod.mk.injEq] at he
    exact ⟨fs, f, hu, hf, he.1, he.2⟩
  · cases h

theorem run_fieldAt {t : TypeId} {n off : Nat} {ft : TypeId} {a : Addr} {s : Nat} (h : fdF P t n = some (off, ft)) (hs : szF P ft = some s) (h0 : s ≠ 0) :
    (Instr.fieldAt t (.pointer (some a)) n).run P w = .ok (.pointer (some (a.add off))) w := by
  obtain ⟨fs, f, hu, hf, rfl, rfl⟩ := fd_parts h
  unfold szF at hs
  obtain ⟨i, hi, rfl⟩ := Option.map_eq_some_iff.1 hs
  simp [Instr.fieldAt, run_underlying hu, hf, Instr.sureAddr, fieldPlace, sizeOf, typeInfo, hi, h0]

theorem ex_faddr {S : Prop} {r : AV} {σ' : Sto} {off : Nat} {y : O} (hc : chkI P o.op (.faddr off y) = true) (hs : SRel w X β σ)
    (hv : ∀ x u, chkO x u = true → u ∈ (I.faddr off y).os → RV w (Xt X β σ) β σ (v u) (ρ x)) (he : ex (.faddr off y) v σ = some (S, r, σ')) (hS : S) : Done P o ρ w X β σ r σ' := by
  cases hop : o.op <;> rw [hop] at hc <;> try (simp [chkI] at hc; done)
  rename_i t a n
  simp only [chkI, Bool.and_eq_true] at hc
  obtain ⟨h1, h2⟩ := hc
  have ha := hv a y h1 (by simp [I.os])
  have hx : execOp ρ o = (do let x ← Instr.fieldAt t (ρ a) n; pure (.value x)) := by unfold execOp; rw [hop]
  cases hfd : fdF P t n with
  | none => rw [hfd] at h2; simp at h2
  | some p =>
    obtain ⟨off', ft⟩ := p
    rw [hfd] at h2
    simp only [Bool.and_eq_true, beq_iff_eq] at h2
    obtain ⟨rfl, h2⟩ := h2
    cases hsz : szF P ft with
    | none => rw [hsz] at h2; simp at h2
    | some s =>
      rw [hsz] at h2
      simp only [bne_iff_ne] at h2
      simp only [ex] at he
      generalize v y = vy at ha he
      generalize hqa : ρ a = qa at ha
      cases vy <;> try (simp at he; done)
      case iptr cs j =>
        simp only [Option.some.injEq, Prod.mk.injEq] at he
        obtain ⟨_, rfl, rfl⟩ := he
        cases ha with
        | iptr _ _ b q f hX h1 hcell hr =>
          refine done_pure (x := .pointer (some ⟨b, q + (j + off'), none⟩)) hs ?_ (.iptr cs _ b q f hX h1 hcell hr)
          rw [hx, hqa]
          refine run_value _ _ _ ?_
          rw [run_fieldAt hfd hsz h2, Addr.add_lit, Nat.add_assoc]
      case ptr f i n e j =>
        simp only [obj] at he
        cases hat : σ.at f i with
        | none => rw [hat] at he; simp at he
        | some ob =>
          rw [hat] at he
          simp only [Option.some.injEq, Prod.mk.injEq] at he
          obtain ⟨rfl, rfl, rfl⟩ := he
          cases ha with
          | ptr _ _ _ _ _ _ h1c hf hle h =>
            obtain ⟨b, hb, rfl⟩ := h ob hat hS
            refine done_pure (x := .pointer (some ⟨b, e * ob.k + (j + off'), none⟩)) hs ?_ (.ptr f i n e _ _ rfl hf hle fun o' ho' hn' => ?_)
            · rw [hx, hqa]
              refine run_value _ _ _ ?_
              rw [run_fieldAt hfd hsz h2, Addr.add_lit, Nat.add_assoc]
            · rw [hat] at ho'; injection ho' with ho'; subst ho'
              exact ⟨b, hb, rfl⟩

theorem ex_eqb {S : Prop} {r : AV} {σ' : Sto} {neg : Bool} {y z : O} (hc : chkI P o.op (.eqb neg y z) = true) (hs : SRel w X β σ)
    (hv : ∀ x u, chkO x u = true → u ∈ (I.eqb neg y z).os → RV w (Xt X β σ) β σ (v u) (ρ x)) (he : ex (.eqb neg y z) v σ = some (S, r, σ')) (_hS : S) : Done P o ρ w X β σ r σ' := by
  cases hop : o.op <;> rw [hop] at hc <;> try (simp [chkI] at hc; done)
  rename_i op' t a b t'
  simp only [chkI, Bool.and_eq_true, beq_iff_eq] at hc
  obtain ⟨⟨⟨rfl, h1⟩, h2⟩, h3⟩ := hc
  have ha := hv a y h1 (by simp [I.os])
  have hb := hv b z h2 (by simp [I.os])
  have hu : P.underlying t = some .bool := by
    revert h3; split <;> simp_all
  simp only [ex] at he
  generalize v y = vy at ha he
  generalize v z = vz at hb he
  generalize hqa : ρ a = qa at ha
  generalize hqb : ρ b = qb at hb
  split at he
  case h_2 => cases he
  simp only [Option.some.injEq, Prod.mk.injEq] at he
  obtain ⟨_, rfl, rfl⟩ := he
  obtain rfl := ha.inv_v
  obtain rfl := hb.inv_v
  refine done_pure hs ?_ (.v _)
  unfold execOp; rw [hop]
  simp only [hqa, hqb]
  refine run_value _ _ _ ?_
  rename_i p q _
  cases neg <;> simp [go_sem, binOp, Op.equal, Op.maxDepth, run_equalIn_bool' (P := P) w 9999 t p q hu] <;> (cases p <;> cases q <;> rfl)

theorem ex_field {S : Prop} {r : AV} {σ' : Sto} {off : Nat} {s : Option Nat} {y : O} (hc : chkI P o.op (.field off s y) = true) (hs : SRel w X β σ)
    (hv : ∀ x u, chkO x u = true → u ∈ (I.field off s y).os → RV w (Xt X β σ) β σ (v u) (ρ x)) (he : ex (.field off s y) v σ = some (S, r, σ')) (_hS : S) : Done P o ρ w X β σ r σ' := by
  cases hop : o.op <;> rw [hop] at hc <;> try (simp [chkI] at hc; done)
  rename_i t a n
  simp only [chkI, Bool.and_eq_true] at hc
  obtain ⟨h1, h2⟩ := hc
  have ha := hv a y h1 (by simp [I.os])
  have hx : execOp ρ o = (do let x ← Instr.field t (ρ a) n; pure (.value x)) := by unfold execOp; rw [hop]
  cases hfd : fdF P t n with
  | none => rw [hfd] at h2; simp at h2
  | some p =>
    obtain ⟨off', ft⟩ := p
    rw [hfd] at h2
    simp only [Bool.and_eq_true, beq_iff_eq] at h2
    obtain ⟨rfl, h2⟩ := h2
    obtain ⟨fs, f, hu, hf, rfl, rfl⟩ := fd_parts hfd
    simp only [ex] at he
    generalize v y = vy at ha he
    generalize hqa : ρ a = qa at ha
    cases vy <;> try (simp at he; done)
    rename_i cs
    simp only at he
    split at he
    case h_2 => cases he
    rename_i u hp
    simp only [Option.some.injEq, Prod.mk.injEq] at he
    obtain ⟨_, rfl, rfl⟩ := he
    obtain ⟨xs, rfl, hn, hone, hr⟩ := ha.inv_agg
    have hd : ∃ d, P.underlying f.type = some d := by
      cases hag : agF P f.type with
      | none => rw [hag] at h2; simp at h2
      | some q => unfold agF at hag; obtain ⟨d, hd, _⟩ := Option.map_eq_some_iff.1 hag; exact ⟨d, hd⟩
    obtain ⟨d, hd⟩ := hd
    cases s with
    | none =>
      obtain ⟨hj, rfl⟩ := pick1_none hp
      have hag : agF P f.type = some false := by
        cases hag : agF P f.type with
        | none => rw [hag] at h2; simp at h2
        | some q => rw [hag] at h2; cases q <;> simp_all
      have hisa : (isAgg f.type).run P w = .ok false w := by
        unfold agF at hag
        rw [hd] at hag
        simp only [isAgg, Sem.run_bind, run_underlying hd, Result.andThen_ok]
        cases d <;> first | rfl | simp at hag
      refine done_pure (x := xs.getD f.offset undef) hs ?_ (hr _ hj)
      rw [hx, hqa]
      refine run_value _ _ _ ?_
      have hlt : f.offset < xs.size := by omega
      simp [Instr.field, run_underlying hu, hf, asAgg, part, hisa, Array.getD_eq_getD_getElem?, hlt]
    | some m =>
      obtain ⟨hj, rfl⟩ := pick1_some hp
      have hag : agF P f.type = some true ∧ szF P f.type = some m := by
        cases hag : agF P f.type with
        | none => rw [hag] at h2; simp at h2
        | some q => rw [hag] at h2; cases q <;> simp_all
      obtain ⟨hag, hsz⟩ := hag
      have hisa : (isAgg f.type).run P w = .ok true w := by
        unfold agF at hag
        rw [hd] at hag
        simp only [isAgg, Sem.run_bind, run_underlying hd, Result.andThen_ok]
        cases d <;> first | rfl | simp at hag
      unfold szF at hsz
      obtain ⟨i, hi, rfl⟩ := Option.map_eq_some_iff.1 hsz
      have e1 : ((List.drop f.offset cs).take i.size).length = i.size := length_take_drop _ _ _ hj
      refine done_pure (x := .agg (xs.extract f.offset (f.offset + i.size))) hs ?_ (.agg _ _ (by simp; omega) (fun t ht => ?_) fun t ht => ?_)
      · rw [hx, hqa]
        refine run_value _ _ _ ?_
        simp [Instr.field, run_underlying hu, hf, asAgg, part, hisa, sizeOf, typeInfo, hi]
      · rw [e1] at ht
        have := hone (f.offset + t) (by omega)
        rw [getD_extract _ _ _ _ _ (by omega) (by omega)]; exact this
      · rw [e1] at ht
        rw [getD_take_drop _ _ _ _ _ ht]
        have := hr (f.offset + t) (by omega)
        rw [getD_extract _ _ _ _ _ (by omega) (by omega)]; exact this

end
end Go.Abs
