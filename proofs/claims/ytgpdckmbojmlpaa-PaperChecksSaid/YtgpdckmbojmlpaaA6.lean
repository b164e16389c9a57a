/-
  Further instructions that leave the world as it is: an element's address; a part of a tuple; lengths; min, max; a part of a slice; functions; structs; equality of structs.
-/
import Derived.Test.YtgpdckmbojmlpaaA5
namespace Go.Abs
set_option linter.unusedVariables false
set_option linter.unusedSimpArgs false

section
variable {P : Program} {o : Oper} {ρ : Operand → Value} {w : World} {X : Nat → Prop} {β : Blk} {σ : Sto} {v : O → AV}

theorem el_parts {t e : TypeId} (h : elF P t = some e) : P.underlying t = some (.slice e) := by
  unfold elF at h; split at h
  · rename_i e' hu; injection h with h; subst h; exact hu
  · cases h

theorem sz_parts {t : TypeId} {k : Nat} (h : szF P t = some k) : ∃ i, P.info? t = some i ∧ i.size = k := by
  unfold szF at h; exact Option.map_eq_some_iff.1 h

theorem run_iaddr {t e : TypeId} {s : Nat} {b off len cap : Nat} {k : IntKind} {z : Int} (he : elF P t = some e) (hs : szF P e = some s) (h0 : 0 ≤ z) (h1 : z < len) :
    (Instr.indexAt t (.slice (some ⟨b, off, none⟩) len cap) (.int k z)).run P w = .ok (.pointer (some ⟨b, off + z.toNat * s, none⟩)) w := by
  have hu := el_parts he
  obtain ⟨i, hi, rfl⟩ := sz_parts hs
  simp [Instr.indexAt, run_underlying hu, asIntOf, h0, h1, sizeOf, typeInfo, hi, Addr.add_lit]

theorem ex_iaddr {S : Prop} {r : AV} {σ' : Sto} {k : Nat} {y z : O} (hc : chkI P o.op (.iaddr k y z) = true) (hs : SRel w X β σ)
    (hv : ∀ x u, chkO x u = true → u ∈ (I.iaddr k y z).os → RV w (Xt X β σ) β σ (v u) (ρ x)) (he : ex (.iaddr k y z) v σ = some (S, r, σ')) (hS : S) : Done P o ρ w X β σ r σ' := by
  cases hop : o.op <;> rw [hop] at hc <;> try (simp [chkI] at hc; done)
  rename_i t a b
  simp only [chkI, Bool.and_eq_true] at hc
  obtain ⟨⟨h1, h2⟩, h3⟩ := hc
  have ha := hv a y h1 (by simp [I.os])
  have hb := hv b z h2 (by simp [I.os])
  have hx : execOp ρ o = (do let x ← Instr.indexAt t (ρ a) (ρ b); pure (.value x)) := by unfold execOp; rw [hop]
  cases hel : elF P t with
  | none => rw [hel] at h3; simp at h3
  | some e =>
  rw [hel] at h3
  simp only [beq_iff_eq] at h3
  simp only [ex] at he
  generalize v y = vy at ha he
  generalize v z = vz at hb he
  generalize hqa : ρ a = qa at ha
  generalize hqb : ρ b = qb at hb
  split at he
  · rename_i k' es q i
    split at he
    case isFalse => cases he
    rename_i hk; subst hk
    simp only [Option.some.injEq, Prod.mk.injEq] at he
    obtain ⟨rfl, rfl, rfl⟩ := he
    obtain rfl := hb.inv_v
    obtain ⟨g0, g1⟩ := hS
    cases ha with
    | slnil => simp at g1; omega
    | slemp => simp at g1; omega
    | sl _ _ b' off cap f hcap hk hc hX h1 hr =>
      have hlt : i.toNat < es.length := by omega
      refine done_pure (x := .pointer (some ⟨b', off + i.toNat * k' + 0, none⟩)) hs ?_ (.iptr _ 0 b' (off + i.toNat * k') (fun j => f i.toNat j) (fun t ht => ?_) (fun t ht => ?_) (fun t ht => ?_) fun t ht => ?_)
      · rw [hx, hqa, hqb]
        exact run_value _ _ _ (run_iaddr hel h3 g0 g1)
      · rw [hk _ hlt] at ht; exact hX _ _ hlt ht
      · rw [hk _ hlt] at ht; exact h1 _ _ hlt ht
      · rw [hk _ hlt] at ht; exact hc _ hlt _ ht
      · rw [hk _ hlt] at ht; exact hr _ _ hlt ht
  · rename_i f i n q z'
    simp only [obj] at he
    cases hat : σ.at f i with
    | none => rw [hat] at he; simp at he
    | some ob =>
      rw [hat] at he
      simp only [Option.some.injEq, Prod.mk.injEq] at he
      obtain ⟨rfl, rfl, rfl⟩ := he
      obtain ⟨rfl, rfl, g0, g1⟩ := hS
      obtain rfl := hb.inv_v
      cases ha with
      | own _ _ _ _ h1c hf hle h =>
        have h' := h ob hat rfl
        unfold OwnSl at h'
        cases hbf : β f i with
        | none =>
          rw [hbf] at h'
          rw [h'.1] at g1; simp at g1; omega
        | some b' =>
          rw [hbf] at h'
          obtain ⟨cap, c, T, rfl, _, _⟩ := h'
          refine done_pure (x := .pointer (some ⟨b', 0 + z'.toNat * ob.k, none⟩)) hs ?_ (.ptr f i _ _ 0 _ rfl hf (fun o' ho' => ?_) fun o' ho' hn' => ?_)
          · rw [hx, hqa, hqb]
            exact run_value _ _ _ (run_iaddr hel h3 g0 g1)
          · rw [hat] at ho'; injection ho' with ho'; subst ho'; exact Nat.le_refl _
          · rw [hat] at ho'; injection ho' with ho'; subst ho'
            exact ⟨b', hbf, by simp⟩
  · cases he

theorem ex_ext {S : Prop} {r : AV} {σ' : Sto} {n : Nat} {y : O} (hc : chkI P o.op (.ext n y) = true) (hs : SRel w X β σ)
    (hv : ∀ x u, chkO x u = true → u ∈ (I.ext n y).os → RV w (Xt X β σ) β σ (v u) (ρ x)) (he : ex (.ext n y) v σ = some (S, r, σ')) (_hS : S) : Done P o ρ w X β σ r σ' := by
  cases hop : o.op <;> rw [hop] at hc <;> try (simp [chkI] at hc; done)
  rename_i a m
  simp only [chkI, Bool.and_eq_true, beq_iff_eq] at hc
  obtain ⟨h1, rfl⟩ := hc
  have ha := hv a y h1 (by simp [I.os])
  have hx : execOp ρ o = (do let x ← Instr.extract (ρ a) m; pure (.value x)) := by unfold execOp; rw [hop]
  simp only [ex] at he
  generalize v y = vy at ha he
  generalize hqa : ρ a = qa at ha
  cases vy <;> try (simp at he; done)
  rename_i cs
  simp only at he
  split at he
  case h_2 => cases he
  rename_i u hp
  simp only [Option.some.injEq, Prod.mk.injEq] at he
  obtain ⟨_, rfl, rfl⟩ := he
  obtain ⟨xs, rfl, hn, hr⟩ := ha.inv_tup
  obtain ⟨hlt, hu⟩ := List.getElem?_eq_some_iff.1 hp
  have := hr m hlt
  rw [List.getD_eq_getElem?_getD, hp] at this
  refine done_pure (x := xs.getD m undef) hs ?_ this
  rw [hx, hqa]
  refine run_value _ _ _ ?_
  have hlt' : m < xs.size := by omega
  simp [Instr.extract, Array.getD_eq_getD_getElem?, hlt']

theorem ex_len {S : Prop} {r : AV} {σ' : Sto} {y : O} (hc : chkI P o.op (.len y) = true) (hs : SRel w X β σ)
    (hv : ∀ x u, chkO x u = true → u ∈ (I.len y).os → RV w (Xt X β σ) β σ (v u) (ρ x)) (he : ex (.len y) v σ = some (S, r, σ')) (hS : S) : Done P o ρ w X β σ r σ' := by
  cases hop : o.op <;> rw [hop] at hc <;> try (simp [chkI] at hc; done)
  rename_i c
  obtain ⟨cal, args, ts⟩ := c
  cases cal <;> try (simp [chkI] at hc; done)
  rename_i bi
  cases bi <;> try (simp [chkI] at hc; done)
  simp only [chkI] at hc
  split at hc
  case h_2 => cases hc
  rename_i a t hargs hts
  obtain ⟨args⟩ := args
  obtain ⟨ts⟩ := ts
  simp only at hargs hts
  subst hargs; subst hts
  simp only [Bool.and_eq_true] at hc
  obtain ⟨h1, h2⟩ := hc
  obtain ⟨e, hel⟩ := Option.isSome_iff_exists.1 h2
  have hu := el_parts hel
  have ha := hv a y h1 (by simp [I.os])
  have hx : execOp ρ o = (do let d ← resolve ρ ⟨.builtin .len, #[a], #[t]⟩ o.type; invoke d.target d.args) := by unfold execOp; rw [hop]
  have key : ∀ (q : Option Addr) (n cap : Nat), ρ a = .slice q n cap → (execOp ρ o).run P w = .ok (.value (.int .i64 n)) w := by
    intro q n cap hq
    rw [hx]
    simp [resolve, invoke, builtin, Builtin.len_, run_underlying hu, hq, goInt]
  simp only [ex] at he
  generalize v y = vy at ha he
  generalize hqa : ρ a = qa at ha
  split at he
  · simp only [Option.some.injEq, Prod.mk.injEq] at he
    obtain ⟨_, rfl, rfl⟩ := he
    cases ha with
    | slnil => exact done_pure hs (key _ _ _ hqa) (.v _)
    | slemp => exact done_pure hs (key _ _ _ hqa) (.v _)
    | sl _ _ b' off cap f hcap hk hc hX h1 hr => exact done_pure hs (key _ _ _ hqa) (.v _)
  · rename_i f i n
    simp only [obj] at he
    cases hat : σ.at f i with
    | none => rw [hat] at he; simp at he
    | some ob =>
      rw [hat] at he
      simp only [Option.some.injEq, Prod.mk.injEq] at he
      obtain ⟨rfl, rfl, rfl⟩ := he
      cases ha with
      | own _ _ _ _ h1c hf hle h =>
        have h' := h ob hat hS
        unfold OwnSl at h'
        cases hbf : β f i with
        | none =>
          rw [hbf] at h'
          obtain ⟨e0, rfl⟩ := h'
          have : n = 0 := by rw [← hS, e0]; rfl
          subst this
          exact done_pure hs (key _ _ _ hqa) (.v _)
        | some b' =>
          rw [hbf] at h'
          obtain ⟨cap, c, T, rfl, _, _⟩ := h'
          rw [hS] at hqa
          exact done_pure hs (key _ _ _ hqa) (.v _)
  · simp only [Option.some.injEq, Prod.mk.injEq] at he
    obtain ⟨_, rfl, rfl⟩ := he
    obtain rfl := ha.inv_v
    exact done_pure hs (key _ _ _ hqa) (.v _)
  · cases he

theorem ex_mkfn {S : Prop} {r : AV} {σ' : Sto} {f : Fn} {as bs : List O} (hc : chkI P o.op (.mkfn f as bs) = true) (hs : SRel w X β σ)
    (hv : ∀ x u, chkO x u = true → u ∈ (I.mkfn f as bs).os → RV w (Xt X β σ) β σ (v u) (ρ x)) (he : ex (.mkfn f as bs) v σ = some (S, r, σ')) (_hS : S) : Done P o ρ w X β σ r σ' := by
  cases hop : o.op <;> rw [hop] at hc <;> try (simp [chkI] at hc; done)
  rename_i f' xs ys
  simp only [chkI, Bool.and_eq_true, decide_eq_true_eq] at hc
  obtain ⟨⟨rfl, h1⟩, h2⟩ := hc
  obtain ⟨xs⟩ := xs
  obtain ⟨ys⟩ := ys
  simp only [ex, Option.some.injEq, Prod.mk.injEq] at he
  obtain ⟨_, rfl, rfl⟩ := he
  have hx : execOp ρ o = (do let x ← Instr.makeFunc f' (xs.toArray.map ρ) (ys.toArray.map ρ); pure (.value x)) := by unfold execOp; rw [hop]
  have key : ∀ (l : List Operand) (m : List O), chkOs l m = true → l.length = m.length ∧ ∀ i (hi : i < m.length) (hi' : i < l.length), chkO l[i] m[i] = true := by
    intro l
    induction l with
    | nil => intro m h; cases m <;> simp_all [chkOs]
    | cons a l ih =>
      intro m h
      cases m with
      | nil => simp [chkOs] at h
      | cons b m =>
        simp only [chkOs, Bool.and_eq_true] at h
        obtain ⟨e1, e2⟩ := ih m h.2
        refine ⟨by simp [e1], fun i hi hi' => ?_⟩
        cases i with
        | zero => simpa using h.1
        | succ i => simpa using e2 i (by simpa using hi) (by simpa using hi')
  obtain ⟨e1, g1⟩ := key _ _ h1
  obtain ⟨e2, g2⟩ := key _ _ h2
  refine done_pure (x := .func f' (xs.toArray.map ρ) (ys.toArray.map ρ)) hs ?_ (.fn _ _ _ _ _ (by simpa using e1) (by simpa using e2) (fun i hi => ?_) fun i hi => ?_)
  · rw [hx]; exact run_value _ _ _ (by simp [Instr.makeFunc])
  · simp only [List.length_map] at hi
    have hi' : i < xs.length := by rw [e1]; exact hi
    have := hv xs[i] as[i] (g1 i hi hi') (by simp [I.os])
    simpa [List.getD_eq_getElem?_getD, Array.getD_eq_getD_getElem?, hi, hi'] using this
  · simp only [List.length_map] at hi
    have hi' : i < ys.length := by rw [e2]; exact hi
    have := hv ys[i] bs[i] (g2 i hi hi') (by simp [I.os])
    simpa [List.getD_eq_getElem?_getD, Array.getD_eq_getD_getElem?, hi, hi'] using this

theorem ex_ifc {S : Prop} {r : AV} {σ' : Sto} {T : Nat} {y : O} (hc : chkI P o.op (.ifc T y) = true) (hs : SRel w X β σ)
    (hv : ∀ x u, chkO x u = true → u ∈ (I.ifc T y).os → RV w (Xt X β σ) β σ (v u) (ρ x)) (he : ex (.ifc T y) v σ = some (S, r, σ')) (_hS : S) : Done P o ρ w X β σ r σ' := by
  cases hop : o.op <;> rw [hop] at hc <;> try (simp [chkI] at hc; done)
  rename_i t a
  simp only [chkI, Bool.and_eq_true, beq_iff_eq] at hc
  obtain ⟨⟨rfl, h1⟩, h2⟩ := hc
  have ha := hv a y h1 (by simp [I.os])
  simp only [ex, Option.some.injEq, Prod.mk.injEq] at he
  obtain ⟨_, rfl, rfl⟩ := he
  refine done_pure (x := .iface t (ρ a)) hs ?_ (.ifc _ _ _ ha)
  unfold execOp; rw [hop]
  refine run_value _ _ _ ?_
  cases hu : P.underlying t with
  | none => rw [hu] at h2; simp at h2
  | some d =>
    rw [hu] at h2
    simp only [Instr.makeInterface, Sem.run_bind, run_underlying hu, Result.andThen_ok]
    cases d <;> first | rfl | simp at h2

theorem ex_nilc {S : Prop} {r : AV} {σ' : Sto} {y : O} (hc : chkI P o.op (.nilc y) = true) (hs : SRel w X β σ)
    (hv : ∀ x u, chkO x u = true → u ∈ (I.nilc y).os → RV w (Xt X β σ) β σ (v u) (ρ x)) (he : ex (.nilc y) v σ = some (S, r, σ')) (hS : S) : Done P o ρ w X β σ r σ' := by
  cases hop : o.op <;> rw [hop] at hc <;> try (simp [chkI] at hc; done)
  rename_i a
  simp only [chkI] at hc
  have ha := hv a y hc (by simp [I.os])
  simp only [ex] at he
  generalize hvy : v y = vy at ha he
  generalize hqa : ρ a = qa at ha
  have hx : (∃ p, qa = .pointer (some p)) ∨ (∃ n f c, qa = .func (.func n) f c) ∨ (∃ t x, qa = .iface t x) → (execOp ρ o).run P w = .ok (.value qa) w := by
    rintro (⟨p, rfl⟩ | ⟨n, f, c, rfl⟩ | ⟨t, x, rfl⟩) <;> (unfold execOp; rw [hop]; simp only [hqa]; rfl)
  cases vy <;> try (simp at he; done)
  case ptr f i n e j =>
    simp only [obj] at he
    cases hat : σ.at f i with
    | none => rw [hat] at he; simp at he
    | some ob =>
      rw [hat] at he
      simp only [Option.some.injEq, Prod.mk.injEq] at he
      obtain ⟨rfl, rfl, rfl⟩ := he
      have ha' := ha
      cases ha with
      | ptr _ _ _ _ _ _ h1c hf hle h =>
        obtain ⟨b, hb, rfl⟩ := h ob hat hS
        exact done_pure hs (hx (.inl ⟨_, rfl⟩)) ha'
  case iptr cs j =>
    simp only [Option.some.injEq, Prod.mk.injEq] at he
    obtain ⟨_, rfl, rfl⟩ := he
    have ha' := ha
    cases ha with
    | iptr _ _ b q f hX h1 hcell hr => exact done_pure hs (hx (.inl ⟨_, rfl⟩)) ha'
  case fn f a b =>
    cases f <;> try (simp at he; done)
    simp only [Option.some.injEq, Prod.mk.injEq] at he
    obtain ⟨_, rfl, rfl⟩ := he
    have ha' := ha
    cases ha with
    | fn _ _ _ xs ys hn hm h h' => exact done_pure hs (hx (.inr (.inl ⟨_, _, _, rfl⟩))) ha'
  case ifc t x =>
    simp only [Option.some.injEq, Prod.mk.injEq] at he
    obtain ⟨_, rfl, rfl⟩ := he
    have ha' := ha
    cases ha with
    | ifc _ _ x h => exact done_pure hs (hx (.inr (.inr ⟨_, _, rfl⟩))) ha'

theorem ex_mnx {S : Prop} {r : AV} {σ' : Sto} {mx : Bool} {y z : O} (hc : chkI P o.op (.mnx mx y z) = true) (hs : SRel w X β σ)
    (hv : ∀ x u, chkO x u = true → u ∈ (I.mnx mx y z).os → RV w (Xt X β σ) β σ (v u) (ρ x)) (he : ex (.mnx mx y z) v σ = some (S, r, σ')) (_hS : S) : Done P o ρ w X β σ r σ' := by
  cases hop : o.op <;> rw [hop] at hc <;> try (simp [chkI] at hc; done)
  rename_i c
  obtain ⟨cal, args, ts⟩ := c
  cases cal <;> try (simp [chkI] at hc; done)
  rename_i bi
  have key : ∃ a b, args = #[a, b] ∧ chkO a y = true ∧ chkO b z = true ∧ bi = (if mx then .max else .min) := by
    cases bi <;> simp only [chkI, Bool.and_eq_true, Bool.false_eq_true] at hc
    all_goals
      obtain ⟨hm, hc⟩ := hc
      obtain ⟨args⟩ := args
      rcases args with _ | ⟨a, _ | ⟨b, _ | ⟨c, l⟩⟩⟩ <;> simp [chkOs] at hc
      exact ⟨a, b, rfl, hc.1, hc.2, by cases mx <;> simp_all⟩
  obtain ⟨a, b, rfl, h1, h2, rfl⟩ := key
  have ha := hv a y h1 (by simp [I.os])
  have hb := hv b z h2 (by simp [I.os])
  simp only [ex] at he
  generalize v y = vy at ha he
  generalize v z = vz at hb he
  generalize hqa : ρ a = qa at ha
  generalize hqb : ρ b = qb at hb
  split at he
  case h_2 => cases he
  rename_i k p k' q
  split at he
  case isFalse => cases he
  rename_i hk; subst hk
  simp only [Option.some.injEq, Prod.mk.injEq] at he
  obtain ⟨_, rfl, rfl⟩ := he
  obtain rfl := ha.inv_v
  obtain rfl := hb.inv_v
  refine done_pure hs ?_ (.v _)
  unfold execOp; rw [hop]
  cases mx
  · simp [resolve, invoke, builtin, Builtin.min_, Builtin.min2, hqa, hqb]
    rw [Int.min_def]; split <;> split <;> first | rfl | omega
  · simp [resolve, invoke, builtin, Builtin.max_, Builtin.max2, hqa, hqb]
    rw [Int.max_def]; split <;> split <;> first | rfl | omega

end
end Go.Abs
