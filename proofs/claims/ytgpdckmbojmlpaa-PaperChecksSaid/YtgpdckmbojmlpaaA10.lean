/-
  A slice that is made; a part of a slice; structs that are compared.
-/
import Derived.Test.YtgpdckmbojmlpaaA9
import Derived.Laws.StructEq
namespace Go.Abs
set_option linter.unusedVariables false
set_option linter.unusedSimpArgs false

section
variable {P : Program} {o : Oper} {ρ : Operand → Value} {w w' : World} {X : Nat → Prop} {β : Blk} {σ : Sto} {v : O → AV}

theorem ex_mksl {S : Prop} {r : AV} {σ' : Sto} {T k bytes : Nat} {z : List Value} {y y' : O} (hc : chkI P o.op (.mksl T k bytes z y y') = true) (hs : SRel w X β σ) (hX : ∀ b, X b → b < w.heap.size)
    (hv : ∀ x u, chkO x u = true → RV w (Xt X β σ) β σ (v u) (ρ x)) (he : ex (.mksl T k bytes z y y') v σ = some (S, r, σ')) (hS : S) : Done P o ρ w X β σ r σ' := by
  cases hop : o.op <;> rw [hop] at hc <;> try (simp [chkI] at hc; done)
  rename_i t a b
  simp only [chkI, Bool.and_eq_true, beq_iff_eq, bne_iff_ne] at hc
  obtain ⟨⟨⟨⟨⟨⟨⟨h1, h2⟩, h3⟩, h4⟩, h5⟩, h6⟩, h7⟩, h8⟩ := hc
  have hu := el_parts h3
  obtain ⟨ie, hie, rfl⟩ := sz_parts h4
  have hby : ie.bytes = bytes := by rw [hie] at h5; simpa using h5
  cases hz : zrF P T with
  | none => rw [hz] at h6; simp at h6
  | some l =>
  rw [hz] at h6
  simp only [Bool.and_eq_true, beq_iff_eq] at h6
  obtain ⟨h6, h6'⟩ := h6
  obtain ⟨rfl, hsc⟩ := beqVs_eq h6
  obtain ⟨it, z0, hit, hz0, rfl⟩ := zr_parts hz
  obtain rfl : it = ie := by rw [hie] at hit; injection hit with hit; exact hit.symm
  have hzs : z0.cells.size = it.size := by simpa using h6'
  have ha := hv a y h1
  have hb := hv b y' h2
  have hx : execOp ρ o = (do let x ← Instr.makeSlice t (ρ a) (ρ b); pure (.value x)) := by unfold execOp; rw [hop]
  simp only [ex] at he
  generalize v y = vy at ha he
  generalize v y' = vz at hb he
  generalize hqa : ρ a = qa at ha
  generalize hqb : ρ b = qb at hb
  split at he
  case h_2 => cases he
  rename_i k1 l k2 c
  rw [if_pos h6'] at he
  simp only [Option.some.injEq, Prod.mk.injEq] at he
  obtain ⟨rfl, rfl, rfl⟩ := he
  obtain ⟨rfl, h0, hb1⟩ := hS
  obtain rfl := ha.inv_v
  obtain rfl := hb.inv_v
  have hle : l * 1 ≤ l * bytes := Int.mul_le_mul_of_nonneg_left (by omega) h0
  have hrl := RL.vs (w := w) (X := Xt X β σ) (β := β) (σ := σ) _ hsc
  have hlen := length_vs z0.cells.toList
  refine done_push (w' := w.alloc (.cells (madeCells z0.cells (l.toNat * it.size)) T)) (c := madeCells z0.cells (l.toNat * it.size)) (x := .slice (some ⟨w.heap.size, 0, none⟩) l.toNat l.toNat) hs hX ?_ rfl (fun e he => ?_) ?_ (fun e j he hj => ?_)
    (own_push rfl (by simp) (by simp [madeCells]))
  · rw [hx, hqa, hqb]
    refine run_value _ _ _ (run_make w t T it z0 hu hie hz0 k1 k2 l l h0 (Int.le_refl _) ?_ ?_)
    · rw [hby, Int.mul_comm]; omega
    · omega
  · simp only [List.length_replicate] at he
    simp [List.getD_eq_getElem?_getD, he, hlen, hzs]
  · simp [madeCells]
  · simp only [List.length_replicate] at he
    have hlt := mul_lt (k := it.size) he
    have e1 : (madeCells z0.cells (l.toNat * it.size)).getD (e * it.size + j) undef = z0.cells.getD j undef := by
      have e2 : (e * it.size + j) % it.size = j := by rw [Nat.mul_comm, Nat.mul_add_mod, Nat.mod_eq_of_lt hj]
      simp [madeCells, Array.getD_eq_getD_getElem?, show e * it.size + j < l.toNat * it.size by omega, hzs, e2, show j < it.size by omega]
    have := hrl.2 j (by rw [hlen]; simp; omega)
    rw [e1]
    simpa [List.getD_eq_getElem?_getD, he, Array.getD_eq_getD_getElem?] using this

theorem run_sliceBound {k : IntKind} {i y : Nat} {code : BoundsCode} (h : i ≤ y) : (Instr.sliceBound (.int k i) y code).run P w = .ok i w := by
  have g : (0 : Int) ≤ (i : Int) ∧ (i : Int) ≤ (y : Int) := by omega
  simp [Instr.sliceBound, asIntOf, g]

theorem run_sliceBounds {len cap : Nat} (lo hi : Option Value) (l h : Nat)
    (hlo : (lo = none ∧ l = 0) ∨ ∃ k, lo = some (.int k l)) (hhi : (hi = none ∧ h = len) ∨ ∃ k, hi = some (.int k h)) (h1 : l ≤ h) (h2 : h ≤ cap) :
    (Instr.sliceBounds true len cap lo hi none).run P w = .ok (l, h, cap) w := by
  rcases hlo with ⟨rfl, rfl⟩ | ⟨k, rfl⟩ <;> rcases hhi with ⟨rfl, rfl⟩ | ⟨k', rfl⟩ <;>
    simp [Instr.sliceBounds, run_sliceBound h1, run_sliceBound h2]

theorem run_slice_slice {t e : TypeId} {s : Nat} (he : elF P t = some e) (hs : szF P e = some s) {b off len cap : Nat} (lo hi : Option Value) (l h : Nat)
    (hlo : (lo = none ∧ l = 0) ∨ ∃ k, lo = some (.int k l)) (hhi : (hi = none ∧ h = len) ∨ ∃ k, hi = some (.int k h)) (h1 : l ≤ h) (h2 : h ≤ cap) :
    (Instr.sliceAt t (.slice (some ⟨b, off, none⟩) len cap) lo hi none).run P w =
      .ok (.slice (some (if cap = l then ⟨b, off, none⟩ else ⟨b, off + l * s, none⟩)) (h - l) (cap - l)) w := by
  have hu := el_parts he
  obtain ⟨i, hi', rfl⟩ := sz_parts hs
  simp only [Instr.sliceAt, Instr.slice, Sem.run_bind, run_underlying hu, Result.andThen_ok, run_sliceBounds (P := P) (w := w) lo hi l h hlo hhi h1 h2, sizeOf, typeInfo, run_program, hi', Sem.run_pure, Option.map_some, Addr.add_lit]
  split <;> rfl

theorem getD_drop_take {α : Type} (l : List α) (a b i : Nat) (d : α) (h : i < b - a) : ((l.take b).drop a).getD i d = l.getD (a + i) d := by
  simp only [List.getD_eq_getElem?_getD, List.getElem?_drop, List.getElem?_take]
  rw [if_pos (by omega)]

theorem ex_slice {S : Prop} {r : AV} {σ' : Sto} {k : Nat} {y : O} {lo hi : Option O} (hc : chkI P o.op (.slice k y lo hi) = true) (hs : SRel w X β σ)
    (hv : ∀ x u, chkO x u = true → RV w (Xt X β σ) β σ (v u) (ρ x)) (he : ex (.slice k y lo hi) v σ = some (S, r, σ')) (hS : S) : Done P o ρ w X β σ r σ' := by
  cases hop : o.op <;> rw [hop] at hc <;> try (simp [chkI] at hc; done)
  rename_i t a plo phi pmx
  cases pmx <;> try (simp [chkI] at hc; done)
  simp only [chkI, Bool.and_eq_true] at hc
  obtain ⟨⟨⟨h1, h2⟩, h3⟩, h4⟩ := hc
  cases hel : elF P t with
  | none => rw [hel] at h4; simp at h4
  | some e =>
  rw [hel] at h4
  simp only [beq_iff_eq] at h4
  have ha := hv a y h1
  have hx : execOp ρ o = (do let x ← Instr.sliceAt t (ρ a) (plo.map ρ) (phi.map ρ) none; pure (.value x)) := by unfold execOp; rw [hop]; rfl
  simp only [ex] at he
  generalize v y = vy at ha he
  generalize hqa : ρ a = qa at ha
  split at he
  case h_2 => cases he
  rename_i k' es kk lo' hlo
  split at he
  case h_2 => cases he
  rename_i kk' hi' hhi
  split at he
  case isFalse => cases he
  rename_i hk; subst hk
  simp only [Option.some.injEq, Prod.mk.injEq] at he
  obtain ⟨rfl, rfl, rfl⟩ := he
  obtain ⟨g0, g1, g2⟩ := hS
  have plo' : (plo.map ρ = none ∧ lo'.toNat = 0) ∨ ∃ k, plo.map ρ = some (.int k lo'.toNat) := by
    cases plo with
    | none =>
      cases lo with
      | none => simp at hlo; exact .inl ⟨rfl, by rw [← hlo.2]; rfl⟩
      | some l => simp [optO] at h2
    | some p =>
      cases lo with
      | none => simp [optO] at h2
      | some l =>
        have := hv p l (by simpa [optO] using h2)
        simp at hlo
        rw [hlo] at this
        exact .inr ⟨kk, by simp [this.inv_v]; omega⟩
  cases ha with
  | slnil =>
    simp at g2 
    have e1 : hi' = 0 := by omega
    have e2 : lo' = 0 := by omega
    subst e1; subst e2
    have phi' : (phi.map ρ = none) ∨ ∃ k, phi.map ρ = some (.int k 0) := by
      cases phi with
      | none => exact .inl rfl
      | some p =>
        cases hi with
        | none => simp [optO] at h3
        | some l =>
          have := hv p l (by simpa [optO] using h3)
          simp at hhi
          rw [hhi] at this
          exact .inr ⟨kk', by simp [this.inv_v]⟩
    refine done_pure (x := .slice none 0 0) hs ?_ (by simpa using RV.slnil k')
    rw [hx, hqa]
    have hu := el_parts hel
    obtain ⟨i, hi', rfl⟩ := sz_parts h4
    refine run_value _ _ _ ?_
    rcases plo' with ⟨e3, _⟩ | ⟨q, e3⟩ <;> rcases phi' with e4 | ⟨q', e4⟩ <;> rw [e3, e4] <;>
      simp [Instr.sliceAt, Instr.slice, run_underlying hu, Instr.sliceBounds, Instr.sliceBound, asIntOf, sizeOf, typeInfo, hi']
  | slemp _ qa qcap =>
    simp at g2 
    have e1 : hi' = 0 := by omega
    have e2 : lo' = 0 := by omega
    subst e1; subst e2
    have phi' : (phi.map ρ = none) ∨ ∃ k, phi.map ρ = some (.int k 0) := by
      cases phi with
      | none => exact .inl rfl
      | some p =>
        cases hi with
        | none => simp [optO] at h3
        | some l =>
          have := hv p l (by simpa [optO] using h3)
          simp at hhi
          rw [hhi] at this
          exact .inr ⟨kk', by simp [this.inv_v]⟩
    refine done_pure (x := .slice (some qa) 0 qcap) hs ?_ (by simpa using RV.slemp k' qa qcap)
    rw [hx, hqa]
    have hu := el_parts hel
    obtain ⟨i, hi', rfl⟩ := sz_parts h4
    refine run_value _ _ _ ?_
    rcases plo' with ⟨e3, _⟩ | ⟨q, e3⟩ <;> rcases phi' with e4 | ⟨q', e4⟩ <;> rw [e3, e4] <;>
      simp [Instr.sliceAt, Instr.slice, run_underlying hu, Instr.sliceBounds, Instr.sliceBound, asIntOf, sizeOf, typeInfo, hi', Addr.add]
  | sl _ _ b off cap f hcap hk' hcell hX h1' hr =>
    have phi' : (phi.map ρ = none ∧ hi'.toNat = es.length) ∨ ∃ k, phi.map ρ = some (.int k hi'.toNat) := by
      cases phi with
      | none =>
        cases hi with
        | none => simp at hhi; exact .inl ⟨rfl, by omega⟩
        | some l => simp [optO] at h3
      | some p =>
        cases hi with
        | none => simp [optO] at h3
        | some l =>
          have := hv p l (by simpa [optO] using h3)
          simp at hhi
          rw [hhi] at this
          exact .inr ⟨kk', by simp [this.inv_v]; omega⟩
    have hrun := run_slice_slice (P := P) (w := w) hel h4 (b := b) (off := off) (len := es.length) (cap := cap) _ _ _ _ plo' phi' (by omega) (by omega)
    have hlen : ((es.take hi'.toNat).drop lo'.toNat).length = hi'.toNat - lo'.toNat := by simp; omega
    by_cases hcl : cap = lo'.toNat
    · rw [if_pos hcl] at hrun
      refine done_pure (x := .slice (some ⟨b, off, none⟩) (hi'.toNat - lo'.toNat) (cap - lo'.toNat)) hs (by rw [hx, hqa]; exact run_value _ _ _ hrun) ?_
      have h0 : hi'.toNat - lo'.toNat = 0 := by omega
      have h00 : (es.take hi'.toNat).drop lo'.toNat = [] := List.length_eq_zero_iff.1 (by rw [hlen]; exact h0)
      rw [h00, h0]
      exact RV.sl k' [] b off (cap - lo'.toNat) (fun _ _ => undef) (Nat.zero_le _) (fun e he => absurd he (Nat.not_lt_zero _)) (fun e he => absurd he (Nat.not_lt_zero _)) (fun e _ he => absurd he (Nat.not_lt_zero _))
        (fun e _ he => absurd he (Nat.not_lt_zero _)) (fun e _ he => absurd he (Nat.not_lt_zero _))
    · rw [if_neg hcl] at hrun
      refine done_pure (x := .slice (some ⟨b, off + lo'.toNat * k', none⟩) (hi'.toNat - lo'.toNat) (cap - lo'.toNat)) hs (by rw [hx, hqa]; exact run_value _ _ _ hrun) ?_
      rw [← hlen]
      refine .sl k' _ b _ _ (fun e j => f (lo'.toNat + e) j) (by rw [hlen]; omega) (fun e he => ?_) (fun e he j hj => ?_) (fun e j he hj => ?_) (fun e j he hj => ?_) fun e j he hj => ?_
      all_goals rw [hlen] at he
      · rw [getD_drop_take _ _ _ _ _ he]; exact hk' _ (by omega)
      · have := hcell (lo'.toNat + e) (by omega) j hj
        rw [Nat.add_mul] at this
        rw [show off + lo'.toNat * k' + e * k' + j = off + (lo'.toNat * k' + e * k') + j by omega]
        exact this
      · exact hX (lo'.toNat + e) j (by omega) hj
      · exact h1' (lo'.toNat + e) j (by omega) hj
      · rw [getD_drop_take _ _ _ _ _ he]; exact hr _ j (by omega) hj

def eqV : List (Option IntKind) → List Value → List Value → Option Bool
  | [], [], [] => some true
  | some k :: q, .int k1 a :: r, .int k2 b :: s => if k1 = k ∧ k2 = k then (eqV q r s).map fun t => (a == b) && t else none
  | none :: q, .bool a :: r, .bool b :: s => (eqV q r s).map fun t => (a == b) && t
  | _, _, _ => none

theorem RL.tail {cs : List AV} {c : AV} {x : Value} {xs : List Value} {X : Nat → Prop} (h : RL w X β σ (c :: cs) (x :: xs)) : RV w X β σ c x ∧ RL w X β σ cs xs := by
  refine ⟨(h.2 0 (by simp)).2, by have := h.1; simpa using this, fun i hi => ?_⟩
  have := h.2 (i + 1) (by simp; omega)
  simpa using this

theorem eqC_eqV {X : Nat → Prop} : ∀ {ks : List (Option IntKind)} {cs ds : List AV} {xs ys : List Value} {r : Bool}, eqC ks cs ds = some r → RL w X β σ cs xs → RL w X β σ ds ys → eqV ks xs ys = some r
  | ks, cs, ds, xs, ys, r, h, h1, h2 => by
    unfold eqC at h
    split at h
    · have e1 := h1.1; have e2 := h2.1
      simp at e1 e2; subst e1; subst e2
      simpa [eqV] using h
    · cases xs with
      | nil => have := h1.1; simp at this
      | cons x xs =>
      cases ys with
      | nil => have := h2.1; simp at this
      | cons y ys =>
      obtain ⟨g1, g2⟩ := h1.tail
      obtain ⟨g3, g4⟩ := h2.tail
      obtain rfl := g1.inv_v
      obtain rfl := g3.inv_v
      split at h
      case isFalse => cases h
      rename_i hk
      obtain ⟨t, ht, rfl⟩ := Option.map_eq_some_iff.1 h
      simp only [eqV, if_pos hk, eqC_eqV ht g2 g4, Option.map_some]
    · cases xs with
      | nil => have := h1.1; simp at this
      | cons x xs =>
      cases ys with
      | nil => have := h2.1; simp at this
      | cons y ys =>
      obtain ⟨g1, g2⟩ := h1.tail
      obtain ⟨g3, g4⟩ := h2.tail
      obtain rfl := g1.inv_v
      obtain rfl := g3.inv_v
      obtain ⟨t, ht, rfl⟩ := Option.map_eq_some_iff.1 h
      simp only [eqV, eqC_eqV ht g2 g4, Option.map_some]
    · cases h

theorem eqV_len : ∀ {ks : List (Option IntKind)} {xs ys : List Value} {r : Bool}, eqV ks xs ys = some r → xs.length = ks.length ∧ ys.length = ks.length
  | ks, xs, ys, r, h => by
    unfold eqV at h
    split at h
    · exact ⟨rfl, rfl⟩
    · split at h
      case isFalse => cases h
      obtain ⟨t, ht, rfl⟩ := Option.map_eq_some_iff.1 h
      have := eqV_len ht; simp [this.1, this.2]
    · obtain ⟨t, ht, rfl⟩ := Option.map_eq_some_iff.1 h
      have := eqV_len ht; simp [this.1, this.2]
    · cases h

theorem eqV_split : ∀ (k1 : List (Option IntKind)) {k2 : List (Option IntKind)} {xs ys : List Value} {r : Bool}, eqV (k1 ++ k2) xs ys = some r →
    ∃ a b, eqV k1 (xs.take k1.length) (ys.take k1.length) = some a ∧ eqV k2 (xs.drop k1.length) (ys.drop k1.length) = some b ∧ r = (a && b)
  | [], k2, xs, ys, r, h => ⟨true, r, rfl, by simpa using h, by simp⟩
  | q :: k1, k2, xs, ys, r, h => by
    rw [List.cons_append] at h
    unfold eqV at h
    split at h
    · rename_i hh; cases hh
    · rename_i hh; injection hh with h1 h2; subst h1; subst h2
      split at h
      case isFalse => cases h
      rename_i hk
      obtain ⟨t, ht, rfl⟩ := Option.map_eq_some_iff.1 h
      obtain ⟨a, b, h1, h2, rfl⟩ := eqV_split k1 ht
      exact ⟨_, b, by simp [eqV, hk, h1]; rfl, by simpa using h2, by rw [Bool.and_assoc]⟩
    · rename_i hh; injection hh with h1 h2; subst h1; subst h2
      obtain ⟨t, ht, rfl⟩ := Option.map_eq_some_iff.1 h
      obtain ⟨a, b, h1, h2, rfl⟩ := eqV_split k1 ht
      exact ⟨_, b, by simp [eqV, h1]; rfl, by simpa using h2, by rw [Bool.and_assoc]⟩
    · cases h

theorem fold_none (P : Program) (d : Nat) : ∀ (fs : List Field), fs.foldl (fun (acc : Option (List (Option IntKind))) f => acc.bind fun l => if f.offset == l.length && f.name != "_" then (flatN P d f.type).map fun n => l ++ n else none) none = none
  | [] => rfl
  | _ :: fs => by
    simp only [List.foldl_cons, Option.bind_none]
    exact fold_none P d fs

theorem eqFields_run {d D : Nat} (ih : ∀ (t : Nat) (n : List (Option IntKind)) (xs ys : List Value) (r : Bool), flatN P d t = some n → eqV n xs ys = some r →
      (agF P t = some true → (Op.equalIn (D + d) t (.agg xs.toArray) (.agg ys.toArray)).run P w = .ok r w) ∧
      (agF P t = some false → ∃ x y, xs = [x] ∧ ys = [y] ∧ (Op.equalIn (D + d) t x y).run P w = .ok r w)) :
    ∀ (fs : List Field) (l n : List (Option IntKind)) (xs ys : List Value) (r : Bool),
      fs.foldl (fun (acc : Option (List (Option IntKind))) f => acc.bind fun l => if f.offset == l.length && f.name != "_" then (flatN P d f.type).map fun n => l ++ n else none) (some l) = some n →
      ∃ n', n = l ++ n' ∧ (eqV n' (xs.drop l.length) (ys.drop l.length) = some r → (Op.eqFields (D + d) xs.toArray ys.toArray fs).run P w = .ok r w)
  | [], l, n, xs, ys, r, h => by
    simp at h; subst h
    refine ⟨[], by simp, fun h3 => ?_⟩
    have := eqV_len h3
    rw [List.length_eq_zero_iff.1 this.1, List.length_eq_zero_iff.1 this.2] at h3
    simp [eqV] at h3; subst h3
    simp [Op.eqFields]
  | f :: fs, l, n, xs, ys, r, h => by
    simp only [List.foldl_cons, Option.bind_some] at h
    split at h
    case isFalse => rw [fold_none] at h; cases h
    rename_i hf
    simp only [Bool.and_eq_true, beq_iff_eq, bne_iff_ne] at hf
    obtain ⟨hoff, hname⟩ := hf
    cases hm : flatN P d f.type with
    | none => rw [hm] at h; simp only [Option.map_none, fold_none] at h; cases h
    | some m =>
    rw [hm] at h
    simp only [Option.map_some] at h
    obtain ⟨n', hn', _⟩ := eqFields_run ih fs (l ++ m) n xs ys true h
    refine ⟨m ++ n', by rw [hn', List.append_assoc], fun h3 => ?_⟩
    obtain ⟨a, b, e1, e2, rfl⟩ := eqV_split m h3
    rw [List.drop_drop, List.drop_drop] at e2
    obtain ⟨n'', hn'', h4⟩ := eqFields_run ih fs (l ++ m) n xs ys b h
    have : n'' = n' := List.append_cancel_left (hn''.symm.trans hn')
    subst this
    rw [List.length_append] at h4
    have h4 := h4 e2
    obtain ⟨i1, i2⟩ := ih f.type m _ _ a hm e1
    have hag : agF P f.type = some true ∨ agF P f.type = some false := by
      cases d with
      | zero => simp [flatN] at hm
      | succ d =>
        unfold flatN at hm
        unfold agF
        split at hm <;> simp_all
    have hd : ∃ dd, P.underlying f.type = some dd := by
      rcases hag with h | h <;> (unfold agF at h; obtain ⟨dd, hd, _⟩ := Option.map_eq_some_iff.1 h; exact ⟨dd, hd⟩)
    obtain ⟨dd, hd⟩ := hd
    have hisa : ∀ q, agF P f.type = some q → (isAgg f.type).run P w = .ok q w := by
      intro q hq
      unfold agF at hq
      rw [hd] at hq
      simp only [isAgg, Sem.run_bind, run_underlying hd, Result.andThen_ok]
      cases dd <;> simp at hq <;> subst hq <;> rfl
    have hcont : ∀ (u v : Value), (part f.type xs.toArray f.offset).run P w = .ok u w → (part f.type ys.toArray f.offset).run P w = .ok v w → (Op.equalIn (D + d) f.type u v).run P w = .ok a w →
        (Op.eqFields (D + d) xs.toArray ys.toArray (f :: fs)).run P w = .ok (a && b) w := by
      intro u v g1 g2 g3
      simp only [Op.eqFields, ne_eq, hname, not_false_eq_true, if_true, Sem.run_bind, g1, g2, g3, Result.andThen_ok]
      cases a
      · simp
      · simp [h4]
    rw [← hoff] at i1 i2
    rcases hag with h5 | h5
    · have hsz : szF P f.type = some m.length := by
        cases d with
        | zero => simp [flatN] at hm
        | succ d =>
          unfold flatN at hm
          unfold agF at h5
          rw [hd] at h5 hm
          cases dd <;> simp only [Option.map_some, Option.some.injEq, Bool.false_eq_true, reduceCtorEq] at h5 hm
          split at hm
          · cases hm
          · obtain ⟨q, _, hq⟩ := Option.bind_eq_some_iff.1 hm
            split at hq
            · rename_i hs; injection hq with hq; subst hq; exact eq_of_beq hs
            · cases hq
      obtain ⟨i, hi, hil⟩ := sz_parts hsz
      refine hcont (.agg (xs.drop f.offset |>.take m.length).toArray) (.agg (ys.drop f.offset |>.take m.length).toArray) ?_ ?_ (i1 h5)
      · simp only [part, Sem.run_bind, hisa _ h5, Result.andThen_ok, if_true, sizeOf, typeInfo, run_program, hi, Sem.run_pure, hil]
        congr 2; apply Array.ext'; simp [List.extract_eq_take_drop]
      · simp only [part, Sem.run_bind, hisa _ h5, Result.andThen_ok, if_true, sizeOf, typeInfo, run_program, hi, Sem.run_pure, hil]
        congr 2; apply Array.ext'; simp [List.extract_eq_take_drop]
    · obtain ⟨x, y, q1, q2, q3⟩ := i2 h5
      have hx : xs[f.offset]? = some x := by
        have : ((xs.drop f.offset).take m.length)[0]? = some x := by rw [q1]; rfl
        rw [List.getElem?_take] at this
        split at this
        · simpa using this
        · cases this
      have hy : ys[f.offset]? = some y := by
        have : ((ys.drop f.offset).take m.length)[0]? = some y := by rw [q2]; rfl
        rw [List.getElem?_take] at this
        split at this
        · simpa using this
        · cases this
      exact hcont x y (by simp [part, hisa _ h5, hx]) (by simp [part, hisa _ h5, hy]) q3

theorem flatN_run {D : Nat} : ∀ (d t : Nat) (n : List (Option IntKind)) (xs ys : List Value) (r : Bool), flatN P d t = some n → eqV n xs ys = some r →
      (agF P t = some true → (Op.equalIn (D + d) t (.agg xs.toArray) (.agg ys.toArray)).run P w = .ok r w) ∧
      (agF P t = some false → ∃ x y, xs = [x] ∧ ys = [y] ∧ (Op.equalIn (D + d) t x y).run P w = .ok r w)
  | 0, t, n, xs, ys, r, h, _ => by simp [flatN] at h
  | d + 1, t, n, xs, ys, r, h, h3 => by
    unfold flatN at h
    cases hu : P.underlying t with
    | none => rw [hu] at h; simp at h
    | some dd =>
    rw [hu] at h
    obtain ⟨h1, h2⟩ := eqV_len h3
    cases dd <;> simp only [reduceCtorEq] at h <;> simp only [agF, hu, Option.map_some, Option.some.injEq, Bool.false_eq_true, reduceCtorEq, false_imp_iff, true_imp_iff, and_true, true_and]
    case bool =>
      injection h with h; subst h
      obtain ⟨x, rfl⟩ := List.length_eq_one_iff.1 h1
      obtain ⟨y, rfl⟩ := List.length_eq_one_iff.1 h2
      refine ⟨x, y, rfl, rfl, ?_⟩
      unfold eqV at h3
      split at h3 <;> simp_all [eqV]
      subst h3; exact run_equalIn_bool' w _ t _ _ hu
    case int k =>
      injection h with h; subst h
      obtain ⟨x, rfl⟩ := List.length_eq_one_iff.1 h1
      obtain ⟨y, rfl⟩ := List.length_eq_one_iff.1 h2
      refine ⟨x, y, rfl, rfl, ?_⟩
      unfold eqV at h3
      split at h3 <;> simp_all [eqV]
      obtain ⟨⟨rfl, rfl⟩, rfl⟩ := h3
      exact run_equalIn_int w _ t _ _ _ _ hu
    case struct fs =>
      split at h
      · cases h
      · rename_i hst
        obtain ⟨q, hq, hq'⟩ := Option.bind_eq_some_iff.1 h
        split at hq'
        case isFalse => cases hq'
        injection hq' with hq'; subst hq'
        have hfs : P.fieldsOf t = fs := by simp [Program.fieldsOf, hu]
        obtain ⟨n', hn', this⟩ := eqFields_run (w := w) (d := d) (D := D) (fun t n xs ys r => flatN_run d t n xs ys r) fs.toList [] q xs ys r hq
        simp at hn'; subst hn'
        rw [show D + (d + 1) = (D + d) + 1 by omega, run_equalIn_agg w _ t _ _ (by rw [hfs]; exact hu) (by simpa using hst), hfs]
        exact this (by simpa using h3)

theorem ex_eqs {S : Prop} {r : AV} {σ' : Sto} {neg : Bool} {ks : List (Option IntKind)} {y z : O} (hc : chkI P o.op (.eqs neg ks y z) = true) (hs : SRel w X β σ)
    (hv : ∀ x u, chkO x u = true → RV w (Xt X β σ) β σ (v u) (ρ x)) (he : ex (.eqs neg ks y z) v σ = some (S, r, σ')) : Done P o ρ w X β σ r σ' := by
  cases hop : o.op <;> rw [hop] at hc <;> try (simp [chkI] at hc; done)
  rename_i op' t a b t'
  simp only [chkI, Bool.and_eq_true, beq_iff_eq, Bool.not_eq_true'] at hc
  obtain ⟨⟨⟨⟨⟨rfl, h1⟩, h2⟩, h3⟩, h4⟩, h5⟩ := hc
  have ha := hv a y h1
  have hb := hv b z h2
  simp only [ex] at he
  generalize v y = vy at ha he
  generalize v z = vz at hb he
  generalize hqa : ρ a = qa at ha
  generalize hqb : ρ b = qb at hb
  split at he
  case h_2 => cases he
  split at he
  case h_2 => cases he
  rename_i cs ds r' hr'
  simp only [Option.some.injEq, Prod.mk.injEq] at he
  obtain ⟨_, rfl, rfl⟩ := he
  obtain ⟨xs, rfl, _⟩ := ha.inv_agg
  obtain ⟨ys, rfl, _⟩ := hb.inv_agg
  have hag : agF P t = some true := by unfold agF; revert h3; split <;> simp_all
  have hrun := (flatN_run (w := w) (D := 9996) 4 t ks xs.toList ys.toList r' h4 (eqC_eqV hr' (RL.of_agg ha) (RL.of_agg hb))).1 hag
  simp only [Array.toArray_toList] at hrun
  refine done_pure hs ?_ (.v _)
  unfold execOp; rw [hop]
  simp only [hqa, hqb]
  refine run_value _ _ _ ?_
  cases neg
  · simp only [Bool.false_eq_true, if_false, Sem.run_bind, run_eqGuard_agg w _ t a b xs ys h5, Result.andThen_ok, run_eql_struct]
    rw [show (10000 : Nat) = 9996 + 4 from rfl, hrun]; rfl
  · simp only [if_true, Sem.run_bind, run_eqGuard_agg w _ t a b xs ys h5, Result.andThen_ok, run_neq_struct]
    rw [show (10000 : Nat) = 9996 + 4 from rfl, hrun]; rfl

end
end Go.Abs
