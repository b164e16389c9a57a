/-
  Instructions that write into an object that is owned.
-/
import Derived.Test.YtgpdckmbojmlpaaA8
namespace Go.Abs
set_option linter.unusedVariables false
set_option linter.unusedSimpArgs false

theorem getD_splice {α : Type} (l vs : List α) (p q : Nat) (d : α) (h : p + vs.length ≤ l.length) :
    (l.take p ++ vs ++ l.drop (p + vs.length)).getD q d = if p ≤ q ∧ q < p + vs.length then vs.getD (q - p) d else l.getD q d := by
  simp only [List.getD_eq_getElem?_getD]
  by_cases h1 : q < p
  · rw [if_neg (by omega), List.append_assoc, List.getElem?_append_left (by simp; omega), List.getElem?_take, if_pos h1]
  · by_cases h2 : q < p + vs.length
    · rw [if_pos ⟨by omega, h2⟩, List.getElem?_append_left (by simp; omega), List.getElem?_append_right (by simp; omega)]
      simp [show min p l.length = p by omega]
    · rw [if_neg (by omega), List.getElem?_append_right (by simp; omega), List.getElem?_drop]
      congr 2
      simp; omega

theorem length_splice (cs : List AV) (j : Nat) (xs : List AV) (h : j + xs.length ≤ cs.length) : (splice cs j xs).length = cs.length := by
  unfold splice; simp; omega

theorem mul_le_of_lt {e e' k : Nat} (h : e < e') : e * k + k ≤ e' * k := by
  have := Nat.mul_le_mul_right k (show e + 1 ≤ e' by omega)
  rw [Nat.add_mul] at this; omega

section
variable {P : Program} {o : Oper} {ρ : Operand → Value} {w w' : World} {X : Nat → Prop} {β : Blk} {σ : Sto} {v : O → AV}

/-- An object that is written where it lies. -/
theorem done_turn {ob ob' : Ob} {f i : Nat} {n : Next} {x : Value} {r : AV} (hs : SRel w X β σ) (hX : ∀ b, X b → b < w.heap.size) (ho : σ.at f i = some ob) (hk : ob.k = ob'.k)
    (hl : ob.es.length = ob'.es.length) (ht : Turn w β f i (β f i) w') (hsame : ∀ b, β f i = some b → SameSize w w' b)
    (hr : (execOp ρ o).run P w = .ok n w') (hn : n = .value x ∨ n = .skip ∧ x = undef)
    (hob : ObRel w' (Xt X (mvB β f i (β f i)) (σ.upd f i ob')) (mvB β f i (β f i)) (σ.upd f i ob') (β f i) ob')
    (hx : RV w' (Xt X (mvB β f i (β f i)) (σ.upd f i ob')) (mvB β f i (β f i)) (σ.upd f i ob') r x) : Done P o ρ w X β σ r (σ.upd f i ob') :=
  ⟨n, x, w', mvB β f i (β f i), hr, hn, hs.turn hX ho ht hk (Nat.le_of_eq hl) (fun _ => ⟨rfl, hsame⟩) hob,
    Kp.turn hs ho ht hk (Nat.le_of_eq hl) (fun _ => ⟨rfl, hsame⟩), Ext.turn ho ht, hx⟩

theorem setRow_turn {b : Nat} {c c' : Array Value} {T : TypeId} {f i : Nat} (_hc : w.heap[b]? = some (.cells c T (0, 0))) (hb : β f i = some b) : Turn w β f i (β f i) (w.setRow b c') where
  size := by rw [setRow_size]; exact Nat.le_refl _
  old b' _ hne := setRow_other w b b' c' (fun e => hne (by rw [hb, e]))
  at_ b' h := .inl h
  io := ⟨rfl, rfl, rfl⟩

theorem ex_store {S : Prop} {r : AV} {σ' : Sto} {s : Nat} {y z : O} (hc : chkI P o.op (.store s y z) = true) (hs : SRel w X β σ) (hX : ∀ b, X b → b < w.heap.size)
    (hv : ∀ x u, chkO x u = true → RV w (Xt X β σ) β σ (v u) (ρ x)) (he : ex (.store s y z) v σ = some (S, r, σ')) (hS : S) : Done P o ρ w X β σ r σ' := by
  cases hop : o.op <;> rw [hop] at hc <;> try (simp [chkI] at hc; done)
  rename_i t a b
  simp only [chkI, Bool.and_eq_true, beq_iff_eq] at hc
  obtain ⟨⟨h1, h2⟩, h3⟩ := hc
  have ha := hv a y h1
  have hb := hv b z h2
  have hx : execOp ρ o = (do Instr.storeAt t (ρ a) (ρ b); pure .skip) := by unfold execOp; rw [hop]
  simp only [ex] at he
  generalize v y = vy at ha he
  generalize v z = vz at hb he
  generalize hqa : ρ a = qa at ha
  split at he
  case h_2 => cases he
  rename_i f i n e j xs hcs
  simp only [obj] at he
  cases hat : σ.at f i with
  | none => rw [hat] at he; simp at he
  | some ob =>
  rw [hat] at he
  simp only at he
  split at he
  case isFalse => cases he
  rename_i hlen
  simp only [Option.some.injEq, Prod.mk.injEq] at he
  obtain ⟨rfl, rfl, rfl⟩ := he
  obtain ⟨hn, hen, hj⟩ := hS
  have hrl := cells_rel hb hcs
  cases ha with
  | ptr _ _ _ _ _ _ h1c hf hle h =>
  obtain ⟨bl, hbl, rfl⟩ := h ob hat hn
  have hob := hs.obj f i ob hat
  have h2' := hob.2
  rw [hbl] at h2'
  have hlp := hob.lp_none (e := e) (by omega)
  obtain ⟨c, hcell, hsz, hone, hr⟩ := h2'.1 hlp
  have hrow := hob.1 e (by omega)
  have hfit : e * ob.k + ob.k ≤ c.size := Nat.le_trans (mul_lt (by omega)) hsz
  have hl1 : (ρ b).cells.toList.length = xs.length := hrl.1
  obtain ⟨ie, hie, hiesz⟩ := sz_parts h3
  have hv1 : ∀ u ∈ (ρ b).cells.toList, u.oneCell' = true := by
    intro u hu
    obtain ⟨q, hq, rfl⟩ := List.getElem_of_mem hu
    have := (hrl.2 q (by omega)).1
    rw [List.getD_eq_getElem?_getD, List.getElem?_eq_getElem hq] at this
    exact this
  have hst := run_storeCells_at P bl (e * ob.k + j) ob.T (ρ b).cells.toList 0 c w hcell (by omega) hv1
  rw [Nat.add_zero] at hst
  generalize hnew : (c.toList.take (e * ob.k + j) ++ (ρ b).cells.toList ++ c.toList.drop (e * ob.k + j + (ρ b).cells.toList.length)).toArray = c' at hst
  have hrun : (execOp ρ o).run P w = .ok .skip (w.setRow bl c') := by
    rw [hx, hqa]
    have hs2 : (Instr.storeAt t (.pointer (some ⟨bl, e * ob.k + j, none⟩)) (ρ b)).run P w = .ok () (w.setRow bl c') := by
      have e1 : ¬ ((ρ b).cells.size ≠ ie.size) := by simp at hl1 ⊢; omega
      simp only [Instr.storeAt, Instr.sureAddr, pure_bind, storeVar, Sem.run_bind, sizeOf, typeInfo, run_program, Result.andThen_ok, hie, Sem.run_pure, if_neg e1]
      exact hst
    simp only [Sem.run_bind, hs2, Result.andThen_ok, Sem.run_pure]
  have hc'sz : c'.size = c.size := by rw [← hnew]; simp at hl1 ⊢; omega
  have hget : ∀ q, c'.getD q undef = if e * ob.k + j ≤ q ∧ q < e * ob.k + j + xs.length then (ρ b).cells.toList.getD (q - (e * ob.k + j)) undef else c.getD q undef := by
    intro q
    have := getD_splice c.toList (ρ b).cells.toList (e * ob.k + j) q undef (by simp at hl1 ⊢; omega)
    rw [hl1] at this
    rw [← hnew, hl1]
    simpa [List.getD_eq_getElem?_getD, Array.getD_eq_getD_getElem?] using this
  have hsame : ∀ b', β f i = some b' → SameSize w (w.setRow bl c') b' := by
    intro b' hb' c0 T0 h0
    rw [hbl] at hb'; injection hb' with hb'; subst hb'
    rw [hcell] at h0; injection h0 with h0; injection h0 with h0; subst h0
    exact ⟨c', ob.T, setRow_heap w bl c c' ob.T (0, 0) hcell, hc'sz⟩
  let ob' : Ob := { ob with es := ob.es.set e (splice (ob.es.getD e []) j xs) }
  have hturn := setRow_turn (c' := c') hcell hbl
  have K : Kp w (Xt X β σ) β σ (w.setRow bl c') (Xt X (mvB β f i (β f i)) (σ.upd f i ob')) (mvB β f i (β f i)) (σ.upd f i ob') :=
    Kp.turn hs hat hturn rfl (by simp [ob']) (fun _ => ⟨rfl, hsame⟩)
  have hgetE : ∀ e', (ob.es.set e (splice (ob.es.getD e []) j xs)).getD e' [] = if e' = e then splice (ob.es.getD e []) j xs else ob.es.getD e' [] := by
    intro e'
    rw [List.getD_eq_getElem?_getD, List.getElem?_set]
    by_cases hee : e = e'
    · subst hee; simp [show e < ob.es.length by omega]
    · rw [if_neg hee, if_neg (fun h => hee h.symm), List.getD_eq_getElem?_getD]
  have hinv : ∀ e' j', e' < ob.es.length → j' < ob.k → (e * ob.k + j ≤ e' * ob.k + j' ∧ e' * ob.k + j' < e * ob.k + j + xs.length ↔ e' = e ∧ j ≤ j' ∧ j' < j + xs.length) := by
    intro e' j' he' hj'
    constructor
    · rintro ⟨g1, g2⟩
      rcases Nat.lt_trichotomy e' e with h | h | h
      · have := mul_le_of_lt (k := ob.k) h; omega
      · subst h; omega
      · have := mul_le_of_lt (k := ob.k) h; omega
    · rintro ⟨rfl, g1, g2⟩; omega
  refine done_turn (ob' := ob') hs hX hat rfl (by simp [ob']) hturn hsame hrun (.inr ⟨rfl, rfl⟩) ⟨fun e' he' => ?_, ?_⟩ (.any _)
  · simp only [ob', List.length_set] at he'
    simp only [ob', hgetE]
    split
    · rw [length_splice _ _ _ (by omega)]; exact hrow
    · exact hob.1 e' he'
  · rw [hbl]
    refine ⟨fun _ => ⟨c', setRow_heap w bl c c' ob.T (0, 0) hcell, by simp only [ob', List.length_set, hc'sz]; exact hsz, fun e' j' he' hj' => ?_, fun e' j' he' hj' => ?_⟩, fun r h => (by simp only [ob'] at h; rw [hlp] at h; cases h)⟩
    · simp only [ob', List.length_set] at he' hj' ⊢
      rw [hget]
      split
      · rename_i hq
        exact (hrl.2 _ (by omega)).1
      · exact hone e' j' he' hj'
    · simp only [ob', List.length_set] at he' hj'
      rw [hbl] at K
      simp only [ob', hgetE]
      rw [hget]
      by_cases hq : e' = e ∧ j ≤ j' ∧ j' < j + xs.length
      · rw [if_pos ((hinv e' j' he' hj').2 hq), if_pos hq.1]
        have e2 := getD_splice (ob.es.getD e []) xs j j' AV.any (by omega)
        unfold splice
        rw [e2, if_pos hq.2]
        have := ((hrl.2 (j' - j) (by omega)).2).tr K
        obtain ⟨rfl, _, _⟩ := hq
        rw [show e' * ob.k + j' - (e' * ob.k + j) = j' - j by omega]
        exact this
      · rw [if_neg (fun h => hq ((hinv e' j' he' hj').1 h))]
        have h3 := (hr e' j' he' hj').tr K
        by_cases hee : e' = e
        · rw [if_pos hee]
          subst hee
          have e2 := getD_splice (ob.es.getD e' []) xs j j' AV.any (by omega)
          unfold splice
          rw [e2, if_neg (fun h => hq ⟨rfl, h⟩)]
          exact h3
        · rw [if_neg hee]; exact h3

/-- The elements of a slice that is read, as cells in the world. -/
theorem elems_rel {a : AV} {x : Value} {p : Prop} {xs : List (List AV)} {k : Nat} (hs : SRel w X β σ) (h : RV w (Xt X β σ) β σ a x) (he : elems σ a = some (p, xs)) (hp : p)
    (hk : ∀ e, e < xs.length → (xs.getD e []).length = k) :
    (xs = [] ∧ ∃ q c, x = .slice q 0 c) ∨
    ∃ b off cap, x = .slice (some ⟨b, off, none⟩) xs.length cap ∧ ∃ f : Nat → Nat → Value,
      (∀ e j, e < xs.length → j < k → w.cell? ⟨b, off + e * k + j, none⟩ = some (f e j) ∧ (f e j).oneCell' = true ∧ RV w (Xt X β σ) β σ ((xs.getD e []).getD j .any) (f e j)) := by
  unfold elems at he
  split at he
  · rename_i k0 es0
    simp only [Option.some.injEq, Prod.mk.injEq] at he
    obtain ⟨rfl, rfl⟩ := he
    cases h with
    | slnil => exact .inl ⟨rfl, _, _, rfl⟩
    | slemp => exact .inl ⟨rfl, _, _, rfl⟩
    | sl _ _ b off cap f hcap hk' hc hX h1 hr =>
      refine .inr ⟨b, off, cap, rfl, f, fun e j he hj => ?_⟩
      have hkk : k0 = k := by rw [← hk' e he, hk e he]
      subst hkk
      exact ⟨hc e he j hj, h1 e j he hj, hr e j he hj⟩
  · rename_i f i n
    split at he
    case h_2 => cases he
    rename_i ob hat
    simp only [Option.some.injEq, Prod.mk.injEq] at he
    obtain ⟨rfl, rfl⟩ := he
    have hob := hs.obj f i ob hat
    cases h with
    | own _ _ _ _ h1c hf hle h =>
      have h' := h ob hat hp
      unfold OwnSl at h'
      have h2 := hob.2
      cases hb : β f i with
      | none =>
        rw [hb] at h'
        exact .inl ⟨h'.1, _, _, h'.2⟩
      | some b =>
        rw [hb] at h' h2
        obtain ⟨cap, c0, T0, rfl, hcc0, _⟩ := h'
        rw [hb] at hob
        obtain ⟨c, hcell, hsz, hone, hr⟩ := h2.1 (hob.lp_cells hcc0)
        refine .inr ⟨b, 0, cap, rfl, fun e j => c.getD (e * ob.k + j) undef, fun e j he hj => ?_⟩
        have hkk : ob.k = k := by rw [← hob.1 e he, hk e he]
        subst hkk
        have := mul_lt (k := ob.k) he
        refine ⟨?_, hone e j he hj, hr e j he hj⟩
        rw [cell_of_row w b _ c _ _ hcell]
        simp [Array.getD_eq_getD_getElem?, show e * ob.k + j < c.size by omega]
  · simp only [Option.some.injEq, Prod.mk.injEq] at he
    obtain ⟨rfl, rfl⟩ := he
    obtain rfl := h.inv_v
    exact .inl ⟨rfl, _, _, rfl⟩
  · cases he

/-- Rows laid one behind the other. -/
def flat (f : Nat → Nat → Value) (n k : Nat) : List Value := (List.range (n * k)).map fun q => f (q / k) (q % k)

theorem flat_getD (f : Nat → Nat → Value) (n k e j : Nat) (he : e < n) (hj : j < k) : (flat f n k).getD (e * k + j) undef = f e j := by
  have h := mul_lt (k := k) he
  have h1 : (e * k + j) / k = e := by
    rw [Nat.mul_comm, Nat.mul_add_div (by omega), Nat.div_eq_of_lt hj]; simp
  have h2 : (e * k + j) % k = j := by
    rw [Nat.mul_comm, Nat.mul_add_mod, Nat.mod_eq_of_lt hj]
  simp [flat, List.getD_eq_getElem?_getD, List.getElem?_range (show e * k + j < n * k by omega), h1, h2]

theorem flat_length (f : Nat → Nat → Value) (n k : Nat) : (flat f n k).length = n * k := by simp [flat]

theorem flat_cell {f : Nat → Nat → Value} {n k b off : Nat} (hk : k ≠ 0) (h : ∀ e j, e < n → j < k → w.cell? ⟨b, off + e * k + j, none⟩ = some (f e j)) :
    ∀ q u, (flat f n k)[q]? = some u → w.cell? ((⟨b, off, none⟩ : Addr).add q) = some u := by
  intro q u hq
  obtain ⟨hlt, hu⟩ := List.getElem?_eq_some_iff.1 hq
  rw [flat_length] at hlt
  have h1 : q / k < n := Nat.div_lt_of_lt_mul (by rw [Nat.mul_comm]; exact hlt)
  have h2 : q % k < k := Nat.mod_lt _ (by omega)
  have h3 := h _ _ h1 h2
  have h4 : q / k * k + q % k = q := Nat.div_add_mod' q k
  rw [Addr.add_lit, show off + q = off + q / k * k + q % k by omega, h3]
  simp only [flat, List.getElem_map, List.getElem_range] at hu
  rw [hu]

theorem run_append_zero {t ty e : TypeId} {i : TypeInfo} (ht : P.underlying t = some (.slice e)) (hi : P.info? e = some i) {base q : Option Addr} {sLen sCap c : Nat} (hle : sLen ≤ sCap) :
    (Builtin.append_ #[t, t] ty #[.slice base sLen sCap, .slice q 0 c]).run P w = .ok (.slice base sLen sCap) w := by
  cases q <;> cases base <;> simp [Builtin.append_, run_underlying ht, sizeOf, typeInfo, hi, Builtin.lenOf, hle, Builtin.firstCells, loadCells, loadCellsFrom, storeCells]

theorem zeroCells_size (z : Array Value) (n : Nat) : (Builtin.zeroCells z n).size = n * z.size := by simp [Builtin.zeroCells]

/-- An object that has come to lie in a new block, longer than it was. -/
theorem done_move {ob ob' : Ob} {f i : Nat} {c : Array Value} {x : Value} {r : AV} (hs : SRel w X β σ) (hX : ∀ b, X b → b < w.heap.size) (ho : σ.at f i = some ob) (hk : ob.k = ob'.k)
    (hl : ob.es.length < ob'.es.length) (hlp : ob'.lp = none) (hh : w'.heap = w.heap.push (.cells c ob'.T (0, 0))) (hr : (execOp ρ o).run P w = .ok (.value x) w')
    (hrow : ∀ e, e < ob'.es.length → (ob'.es.getD e []).length = ob'.k) (hsz : ob'.es.length * ob'.k ≤ c.size)
    (hc : ∀ e j, e < ob'.es.length → j < ob'.k → (c.getD (e * ob'.k + j) undef).oneCell' = true ∧ RV w (Xt X β σ) β σ ((ob'.es.getD e []).getD j .any) (c.getD (e * ob'.k + j) undef))
    (hx : RV w' (Xt X (mvB β f i (some w.heap.size)) (σ.upd f i ob')) (mvB β f i (some w.heap.size)) (σ.upd f i ob') r x) (io : Still w w' := by exact ⟨rfl, rfl, rfl⟩) : Done P o ρ w X β σ r (σ.upd f i ob') := by
  have ht : Turn w β f i (some w.heap.size) w' := ⟨push_size hh, fun b hb _ => push_old hh hb, fun b hb => .inr (by injection hb with hb; omega), io⟩
  have hne : ob.es.length = ob'.es.length → some w.heap.size = β f i ∧ ∀ b, β f i = some b → SameSize w w' b := fun h => absurd h (by omega)
  have K := Kp.turn (o' := ob') hs ho ht hk (Nat.le_of_lt hl) hne
  exact ⟨_, x, w', mvB β f i (some w.heap.size), hr, .inl rfl,
    hs.turn hX ho ht hk (Nat.le_of_lt hl) hne ⟨hrow, fun _ => ⟨c, push_new hh, hsz, fun e j he hj => (hc e j he hj).1, fun e j he hj => (hc e j he hj).2.tr K⟩, fun r h => (by rw [hlp] at h; cases h)⟩, K, Ext.turn ho ht, hx⟩

theorem getD_append {α : Type} (a b : List α) (i : Nat) (d : α) : (a ++ b).getD i d = if i < a.length then a.getD i d else b.getD (i - a.length) d := by
  simp only [List.getD_eq_getElem?_getD]
  split
  · rw [List.getElem?_append_left ‹_›]
  · rw [List.getElem?_append_right (by omega)]

theorem rows_append {a b : List (List AV)} {k : Nat} (ha : ∀ e, e < a.length → (a.getD e []).length = k) (hb : ∀ e, e < b.length → (b.getD e []).length = k) :
    ∀ e, e < (a ++ b).length → ((a ++ b).getD e []).length = k := by
  intro e he
  rw [getD_append]
  split
  · exact ha e ‹_›
  · exact hb _ (by simp at he; omega)

theorem upd_self {σ : Sto} {f i : Nat} {o : Ob} (h : σ.at f i = some o) : σ.upd f i o = σ := by
  unfold Sto.at at h
  split at h
  · rename_i F hF
    unfold Sto.upd
    rw [hF]
    obtain ⟨hlt, rfl⟩ := List.getElem?_eq_some_iff.1 h
    obtain ⟨hlt', hF'⟩ := List.getElem?_eq_some_iff.1 hF
    simp only [List.set_getElem_self]
    rw [← hF', List.set_getElem_self]
  · cases h

theorem ex_app {S : Prop} {r : AV} {σ' : Sto} {T k bytes : Nat} {y z : O} (hc : chkI P o.op (.app T k bytes y z) = true) (hs : SRel w X β σ) (hX : ∀ b, X b → b < w.heap.size)
    (hv : ∀ x u, chkO x u = true → RV w (Xt X β σ) β σ (v u) (ρ x)) (he : ex (.app T k bytes y z) v σ = some (S, r, σ')) (hS : S) : Done P o ρ w X β σ r σ' := by
  cases hop : o.op <;> rw [hop] at hc <;> try (simp [chkI] at hc; done)
  rename_i cc
  obtain ⟨cal, args, ts⟩ := cc
  cases cal <;> try (simp [chkI] at hc; done)
  rename_i bi
  cases bi <;> try (simp [chkI] at hc; done)
  simp only [chkI, Bool.and_eq_true] at hc
  obtain ⟨hargs, hts⟩ := hc
  obtain ⟨args⟩ := args
  obtain ⟨ts⟩ := ts
  rcases args with _ | ⟨a, _ | ⟨b, _ | ⟨_, _⟩⟩⟩ <;> simp [chkOs] at hargs
  obtain ⟨h1, h2⟩ := hargs
  split at hts
  case h_2 => cases hts
  rename_i t t' htl
  simp only at htl
  subst htl
  simp only [Bool.and_eq_true, beq_iff_eq, bne_iff_ne] at hts
  obtain ⟨⟨⟨⟨⟨⟨rfl, h3⟩, h4⟩, h5⟩, h6⟩, h7⟩, h8⟩ := hts
  have hu := el_parts h3
  obtain ⟨ie, hie, rfl⟩ := sz_parts h4
  have hby : ie.bytes = bytes := by rw [hie] at h5; simpa using h5
  cases hz : zrF P T with
  | none => rw [hz] at h6; simp at h6
  | some l =>
  rw [hz] at h6
  simp only [beq_iff_eq] at h6
  obtain ⟨it, z0, hit, hz0, rfl⟩ := zr_parts hz
  obtain rfl : it = ie := by rw [hie] at hit; injection hit with hit; exact hit.symm
  have hzs : z0.cells.size = it.size := by simpa using h6
  have ha := hv a y h1
  have hb := hv b z h2
  have hx : execOp ρ o = (do let d ← resolve ρ ⟨.builtin .append, #[a, b], #[t, t]⟩ o.type; invoke d.target d.args) := by unfold execOp; rw [hop]
  have hrun : ∀ x w', (Builtin.append_ #[t, t] o.type #[ρ a, ρ b]).run P w = .ok x w' → (execOp ρ o).run P w = .ok (.value x) w' := by
    intro x w' h
    rw [hx]
    simp [resolve, invoke, builtin, h]
  simp only [ex] at he
  generalize v y = vy at ha he
  generalize v z = vz at hb he
  generalize hqa : ρ a = qa at ha hrun
  generalize hqb : ρ b = qb at hb hrun
  split at he
  case h_2 => cases he
  rename_i p xs hel
  -- the slice that is appended to is nil, or an object that has no block yet
  have empty : ∀ (hrow : ∀ e, e < xs.length → (xs.getD e []).length = it.size), p → xs.length * bytes ≤ 140737488355328 → qa = .slice none 0 0 →
      (xs = [] ∧ (execOp ρ o).run P w = .ok (.value (.slice none 0 0)) w) ∨
      ∃ cap c w', xs ≠ [] ∧ (execOp ρ o).run P w = .ok (.value (.slice (some ⟨w.heap.size, 0, none⟩) xs.length cap)) w' ∧ w'.heap = w.heap.push (.cells c T (0, 0)) ∧ c.size = cap * it.size ∧ xs.length ≤ cap ∧ Still w w' ∧
        ∀ e j, e < xs.length → j < it.size → (c.getD (e * it.size + j) undef).oneCell' = true ∧ RV w (Xt X β σ) β σ ((xs.getD e []).getD j .any) (c.getD (e * it.size + j) undef) := by
    rintro hrow hp hbytes rfl
    rcases elems_rel hs hb hel hp hrow with ⟨rfl, q, c, rfl⟩ | ⟨b', off, cap, rfl, f, hf⟩
    · exact .inl ⟨rfl, hrun _ _ (run_append_zero hu hie (Nat.le_refl 0))⟩
    · by_cases hxs : xs = []
      · subst hxs; exact .inl ⟨rfl, hrun _ _ (run_append_zero hu hie (Nat.le_refl 0))⟩
      · have hpos : 0 < xs.length := List.length_pos_iff.2 hxs
        have hl := flat_length f xs.length it.size
        have hle1 : xs.length ≤ xs.length * bytes := Nat.le_mul_of_pos_right _ (Nat.pos_of_ne_zero h8)
        have hg := grownCap_ge w xs.length 0 T
        have hcell := flat_cell (w := w) (f := f) (n := xs.length) (k := it.size) h7 fun e j he hj => (hf e j he hj).1
        have hap := run_append_nil (P := P) w t o.type T it z0 hu hie hz0 ⟨b', off, none⟩ xs.length cap (flat f xs.length it.size) hl hcell hpos (by omega) (by rw [hby]; omega)
        refine .inr ⟨_, _, _, hxs, hrun _ _ hap, rfl, ?_, hg, ⟨rfl, rfl, rfl⟩, fun e j he hj => ?_⟩
        · simp only [Array.size_append, List.size_toArray, hl, zeroCells_size, hzs]
          rw [← Nat.add_mul]; congr 1; omega
        · have hlt := mul_lt (k := it.size) he
          have e1 : (((flat f xs.length it.size).toArray ++ Builtin.zeroCells z0.cells (grownCap w xs.length 0 T - xs.length))).getD (e * it.size + j) undef = f e j := by
            rw [← flat_getD f xs.length it.size e j he hj]
            simp only [Array.getD_eq_getD_getElem?, List.getD_eq_getElem?_getD]
            rw [Array.getElem?_append_left (by simp [hl]; omega)]
            simp
          rw [e1]
          exact ⟨(hf e j he hj).2.1, (hf e j he hj).2.2⟩
  split at he
  · simp only [Option.some.injEq, Prod.mk.injEq] at he
    obtain ⟨rfl, rfl, rfl⟩ := he
    obtain ⟨hp, hrow, hbytes⟩ := hS
    rcases empty hrow hp hbytes ha.inv_v with ⟨rfl, hr⟩ | ⟨cap, c, w', hne, hr, hh, hcs, hcap, hio, hcc⟩
    · have hbo : ∀ b, (none : Option Nat) = some b → b = w.heap.size := fun b hb => by cases hb
      exact ⟨_, _, w, addB β σ.length none, hr, .inl rfl, hs.push hX (Nat.le_refl _) (fun _ _ => rfl) hbo ⟨fun e he => absurd he (Nat.not_lt_zero _), rfl, rfl⟩,
        Kp.push hs (Nat.le_refl _) (fun _ _ => rfl) hbo, Ext.push (Nat.le_refl _) (fun _ _ => rfl) hbo,
        .own _ _ _ _ rfl (by simp) (fun ob hob => by rw [at_push_new] at hob; simp at hob; subst hob; simp) fun ob hob _ => by
          rw [at_push_new] at hob; simp at hob; subst hob
          unfold OwnSl; rw [addB_new]; exact ⟨rfl, rfl⟩⟩
    · refine done_push (io := hio) hs hX hr hh hrow ?_ hcc (own_push hh rfl hcs)
      rw [hcs]; exact Nat.mul_le_mul_right _ hcap
  · rename_i f i n
    simp only [obj] at he
    cases hat : σ.at f i with
    | none => rw [hat] at he; simp at he
    | some ob =>
    rw [hat] at he
    simp only [Option.some.injEq, Prod.mk.injEq] at he
    obtain ⟨rfl, rfl, rfl⟩ := he
    obtain ⟨hp, hrow, hT, hk, hlp, hn, hbytes⟩ := hS
    have hob := hs.obj f i ob hat
    have hrow' : ∀ e, e < (ob.es ++ xs).length → ((ob.es ++ xs).getD e []).length = ob.k := rows_append hob.1 (by rw [hk]; exact hrow)
    cases ha with
    | own _ _ _ _ h1c hf hle h =>
    have h' := h ob hat hn
    unfold OwnSl at h'
    have h2' := hob.2
    have hle1 : n + xs.length ≤ (n + xs.length) * bytes := Nat.le_mul_of_pos_right _ (Nat.pos_of_ne_zero h8)
    by_cases hxs : xs = []
    · -- nothing is appended
      subst hxs
      have hq0 : ∃ q c, qb = .slice q 0 c := by
        rcases elems_rel hs hb hel hp hrow with ⟨_, h⟩ | ⟨b', off, cap, rfl, _⟩
        · exact h
        · exact ⟨_, _, rfl⟩
      obtain ⟨q, c, rfl⟩ := hq0
      have hqs : ∃ base cap, qa = .slice base n cap ∧ n ≤ cap := by
        cases hbf : β f i with
        | none => rw [hbf] at h'; exact ⟨none, 0, by rw [h'.2, ← hn, h'.1]; rfl, by rw [← hn, h'.1]; exact Nat.le_refl _⟩
        | some bl =>
          rw [hbf] at h' h2'
          obtain ⟨cap, c0, T0, rfl, hc0, hcs⟩ := h'
          obtain ⟨c1, hc1, hsz, _⟩ := h2'.1 hlp
          rw [hc1] at hc0; injection hc0 with hc0; injection hc0 with hc0 _; subst hc0
          refine ⟨_, cap, by rw [hn], ?_⟩
          rw [hcs, hn] at hsz
          exact Nat.le_of_mul_le_mul_right hsz (by rw [hk]; omega)
      obtain ⟨base, cap, hqs, hcap⟩ := hqs
      have hr := hrun _ _ (by rw [hqs]; exact run_append_zero (q := q) (c := c) hu hie hcap)
      have hβ : mvB β f i (β f i) = β := by
        funext f' i'; unfold mvB; split
        · rename_i h; rw [h.1, h.2]
        · rfl
      have hσ : σ.upd f i { ob with es := ob.es ++ [] } = σ := by
        rw [List.append_nil]
        exact upd_self hat
      rw [hσ]
      refine done_pure (x := qa) hs (by rw [hr, hqs]) ?_
      exact .own f i _ qa h1c hf (by simpa using hle) (by simpa using h)
    have hpos : 0 < xs.length := List.length_pos_iff.2 hxs
    rcases elems_rel hs hb hel hp hrow with ⟨h0, _⟩ | ⟨b', off, cap, rfl, g, hg⟩
    · exact absurd h0 hxs
    have hl := flat_length g xs.length it.size
    have hcell := flat_cell (w := w) (f := g) (n := xs.length) (k := it.size) h7 fun e j he hj => (hg e j he hj).1
    cases hbf : β f i with
    | none =>
      rw [hbf] at h'
      have hn0 : n = 0 := by rw [← hn, h'.1]; rfl
      subst hn0
      rcases empty hrow hp (by rw [Nat.zero_add] at hbytes; exact hbytes) h'.2 with ⟨h0, _⟩ | ⟨cap', c, w', _, hr, hh, hcs, hcap, hio, hcc⟩
      · exact absurd h0 hxs
      · refine done_move (io := hio) (c := c) hs hX hat rfl (by simp [h'.1]; omega) (by exact hlp) (by simpa [hT] using hh) hr hrow' ?_ ?_ ?_
        · simp only [h'.1, List.nil_append, hk, hcs]; exact Nat.mul_le_mul_right _ hcap
        · simpa [h'.1, hk] using hcc
        · refine .own _ _ _ _ rfl (by rw [upd_length]; exact hf) (fun o' ho' => ?_) fun o' ho' hn' => ?_
          · rw [at_upd_same hat] at ho'; injection ho' with ho'; subst ho'; simp [hn]
          · rw [at_upd_same hat] at ho'; injection ho' with ho'; subst ho'
            unfold OwnSl
            rw [mvB_same]
            exact ⟨cap', c, T, by simp [h'.1], push_new hh, by simp [hk, hcs]⟩
    | some bl =>
      rw [hbf] at h' h2'
      obtain ⟨cap0, c0, T0, rfl, hc0, hcs⟩ := h'
      obtain ⟨c1, hc1, hsz, hone, hr1⟩ := h2'.1 hlp
      rw [hc1] at hc0; injection hc0 with hc0; injection hc0 with hc0 hT0; subst hc0
      rw [hn] at hrun
      have hcap0 : n ≤ cap0 := by
        rw [hcs, hn] at hsz
        exact Nat.le_of_mul_le_mul_right hsz (by rw [hk]; omega)
      have hget : ∀ (C : Array Value), (∀ q, q < n * it.size → C.getD q undef = c1.getD q undef) → (∀ q, q < xs.length * it.size → C.getD (n * it.size + q) undef = (flat g xs.length it.size).getD q undef) →
          ∀ e j, e < (ob.es ++ xs).length → j < ob.k → (C.getD (e * ob.k + j) undef).oneCell' = true ∧ RV w (Xt X β σ) β σ (((ob.es ++ xs).getD e []).getD j .any) (C.getD (e * ob.k + j) undef) := by
        intro C hC1 hC2 e j he hj
        rw [getD_append]
        split
        · rename_i hlt
          have := mul_lt (k := it.size) (show e < n by omega)
          rw [hC1 _ (by rw [hk] at hj ⊢; omega)]
          exact ⟨hone e j hlt hj, hr1 e j hlt hj⟩
        · rename_i hge
          have he' : e - ob.es.length < xs.length := by simp at he; omega
          have := mul_lt (k := it.size) he'
          have e1 : e * ob.k + j = n * it.size + ((e - ob.es.length) * it.size + j) := by
            rw [hk, ← Nat.add_assoc, ← Nat.add_mul]; congr 2; omega
          rw [hk] at hj
          rw [e1, hC2 _ (by omega), flat_getD g xs.length it.size _ _ he' hj]
          exact ⟨(hg _ _ he' hj).2.1, (hg _ _ he' hj).2.2⟩
      by_cases hroom : n + xs.length ≤ cap0
      · -- there is room
        have hmul : (n + xs.length) * it.size ≤ cap0 * it.size := Nat.mul_le_mul_right _ hroom
        rw [Nat.add_mul] at hmul
        have hcs' : c1.size = cap0 * it.size := by rw [hcs, hk]
        have hone2 : ∀ u ∈ flat g xs.length it.size, u.oneCell' = true := by
          intro u hu
          obtain ⟨q, hq, rfl⟩ := List.getElem_of_mem hu
          rw [hl] at hq
          have a1 : q / it.size < xs.length := Nat.div_lt_of_lt_mul (by rw [Nat.mul_comm]; exact hq)
          have a2 : q % it.size < it.size := Nat.mod_lt _ (by omega)
          simp only [flat, List.getElem_map, List.getElem_range]
          exact (hg _ _ a1 a2).2.1
        have hap := run_append_room (P := P) w t o.type T it hu hie bl n cap0 c1 (by rw [← hT]; exact hc1) ⟨b', off, none⟩ xs.length cap (flat g xs.length it.size) hl hcell hone2 hroom (by rw [hl]; omega)
        have hr := hrun _ _ hap
        generalize hnew : (c1.toList.take (n * it.size) ++ flat g xs.length it.size ++ c1.toList.drop (n * it.size + (flat g xs.length it.size).length)).toArray = c' at hr
        have hc'sz : c'.size = c1.size := by rw [← hnew]; simp [hl]; omega
        have hgetc : ∀ q, c'.getD q undef = if n * it.size ≤ q ∧ q < n * it.size + xs.length * it.size then (flat g xs.length it.size).getD (q - n * it.size) undef else c1.getD q undef := by
          intro q
          have := getD_splice c1.toList (flat g xs.length it.size) (n * it.size) q undef (by simp [hl]; omega)
          rw [hl] at this
          rw [← hnew, hl]
          simpa [List.getD_eq_getElem?_getD, Array.getD_eq_getD_getElem?] using this
        have hsame : ∀ b, β f i = some b → SameSize w (w.setRow bl c') b := by
          intro b2 hb2 cc TT h0
          rw [hbf] at hb2; injection hb2 with hb2; subst hb2
          rw [hc1] at h0; injection h0 with h0; injection h0 with h0; subst h0
          exact ⟨c', ob.T, setRow_heap w bl c1 c' ob.T (0, 0) hc1, hc'sz⟩
        have ht := setRow_turn (c' := c') hc1 hbf
        rw [hbf] at ht
        have hne : ob.es.length = (ob.es ++ xs).length → (some bl = β f i ∧ ∀ b, β f i = some b → SameSize w (w.setRow bl c') b) := fun _ => ⟨hbf.symm, hsame⟩
        have K := Kp.turn (o' := { ob with es := ob.es ++ xs }) hs hat ht rfl (by simp) hne
        have hall := hget c' (fun q hq => by rw [hgetc, if_neg (by omega)]) (fun q hq => by rw [hgetc, if_pos ⟨by omega, by omega⟩]; congr 1; omega)
        refine ⟨_, _, w.setRow bl c', mvB β f i (some bl), hr, .inl rfl,
          hs.turn hX hat ht rfl (by simp) hne ⟨hrow', fun _ => ⟨c', setRow_heap w bl c1 c' ob.T (0, 0) hc1, ?_, fun e j he hj => (hall e j he hj).1, fun e j he hj => (hall e j he hj).2.tr K⟩, fun r h => (by simp only at h; rw [hlp] at h; cases h)⟩, K, Ext.turn hat ht, ?_⟩
        · simp only [List.length_append, hn, hk]
          rw [Nat.add_mul, hc'sz, hcs']; exact hmul
        · refine .own _ _ _ _ rfl (by rw [upd_length]; exact hf) (fun o' ho' => ?_) fun o' ho' hn' => ?_
          · rw [at_upd_same hat] at ho'; injection ho' with ho'; subst ho'; simp [hn]
          · rw [at_upd_same hat] at ho'; injection ho' with ho'; subst ho'
            unfold OwnSl
            rw [mvB_same]
            exact ⟨cap0, c', ob.T, by simp [hn], setRow_heap w bl c1 c' ob.T (0, 0) hc1, by simp [hc'sz, hcs]⟩
      · -- it grows
        have holds : ∀ j u, (c1.toList.take (n * it.size))[j]? = some u → w.cell? ((⟨bl, 0, none⟩ : Addr).add j) = some u := by
          intro j u hu
          rw [Addr.add_lit, Nat.zero_add, cell_of_row w bl j c1 _ _ hc1]
          rw [List.getElem?_take] at hu
          split at hu
          · simpa using hu
          · cases hu
        have hcs' : c1.size = cap0 * it.size := by rw [hcs, hk]
        have hlo : (c1.toList.take (n * it.size)).length = n * it.size := by
          have := Nat.mul_le_mul_right it.size hcap0
          simp; omega
        have hap := run_append_grow (P := P) w t o.type T it z0 hu hie hz0 ⟨bl, 0, none⟩ n cap0 (c1.toList.take (n * it.size)) hlo holds ⟨b', off, none⟩ xs.length cap (flat g xs.length it.size) hl hcell
          (by omega) (by omega) (growslice_fits (by omega) (by rw [hby]; exact hbytes))
        have hr := hrun _ _ hap
        have hge := grownCap_ge w (n + xs.length) cap0 T
        generalize grownCap w (n + xs.length) cap0 T = nc at hr hge
        refine done_move (ob' := { ob with es := ob.es ++ xs }) (w' := w.drew.alloc (.cells ((c1.toList.take (n * it.size)).toArray ++ (flat g xs.length it.size).toArray ++ Builtin.zeroCells z0.cells (nc - (n + xs.length))) T)) hs hX hat rfl (by simp; omega) (by exact hlp) (by simp only [hT]; rfl) hr hrow' ?_ (hget _ (fun q hq => ?_) fun q hq => ?_) ?_
        · simp only [List.length_append, hn, hk, Array.size_append, List.size_toArray, hlo, hl, zeroCells_size, hzs]
          rw [Nat.add_mul]; omega
        · simp only [Array.getD_eq_getD_getElem?]
          rw [Array.getElem?_append_left (by simp only [Array.size_append, List.size_toArray, hlo, hl]; omega), Array.getElem?_append_left (by simp only [List.size_toArray, hlo]; exact hq)]
          simp [hq]
        · simp only [Array.getD_eq_getD_getElem?, List.getD_eq_getElem?_getD]
          rw [Array.getElem?_append_left (by simp only [Array.size_append, List.size_toArray, hlo, hl]; omega), Array.getElem?_append_right (by simp only [List.size_toArray, hlo]; omega)]
          simp only [List.size_toArray, hlo, Nat.add_sub_cancel_left, List.getElem?_toArray]
        · refine .own _ _ _ _ rfl (by rw [upd_length]; exact hf) (fun o' ho' => ?_) fun o' ho' hn' => ?_
          · rw [at_upd_same hat] at ho'; injection ho' with ho'; subst ho'; simp [hn]
          · rw [at_upd_same hat] at ho'; injection ho' with ho'; subst ho'
            unfold OwnSl
            rw [mvB_same]
            refine ⟨nc, _, T, by simp [hn], push_new (w := w) rfl, ?_⟩
            simp only [Array.size_append, List.size_toArray, hlo, hl, zeroCells_size, hzs, hk]
            rw [← Nat.add_mul, ← Nat.add_mul]; congr 1; omega
  · cases he

end
end Go.Abs
