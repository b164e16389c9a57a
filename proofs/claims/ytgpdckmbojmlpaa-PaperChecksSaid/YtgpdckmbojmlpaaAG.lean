/-
  Steps that no operation makes: an empty slice is taken for an object that is owned.
-/
import Derived.Test.YtgpdckmbojmlpaaAL
namespace Go.Abs
set_option linter.unusedVariables false
set_option linter.unusedSimpArgs false

section
variable {P : Program} {N n0 : Nat} {rd : Option Nat} {K : Kont} {X : Nat → Prop} {β : Blk} {σ : Sto} {w : World}

theorem Kp.own0 {T k : Nat} (hs : SRel w X β σ) : Kp w (Xt X β σ) β σ w (Xt X (addB β σ.length none) (σ ++ [some [⟨T, k, [], none⟩]])) (addB β σ.length none) (σ ++ [some [⟨T, k, [], none⟩]]) :=
  Kp.push hs (Nat.le_refl _) (fun _ _ => rfl) (fun b hb => by cases hb)

theorem SRel.own0 {T k : Nat} (hs : SRel w X β σ) (hX : ∀ b, X b → b < w.heap.size) : SRel w X (addB β σ.length none) (σ ++ [some [⟨T, k, [], none⟩]]) :=
  hs.push hX (Nat.le_refl _) (fun _ _ => rfl) (fun b hb => by cases hb) ⟨fun e he => absurd he (Nat.not_lt_zero _), rfl, rfl⟩

theorem RV.own0 {T k : Nat} {x : Value} (hx : x = .slice none 0 0) : RV w X (addB β σ.length none) (σ ++ [some [⟨T, k, [], none⟩]]) (.own σ.length 0 0) x := by
  subst hx
  refine .own _ _ _ _ rfl (by simp) (fun o _ => Nat.zero_le _) fun o ho _ => ?_
  rw [at_push_new] at ho; simp at ho; subst ho
  unfold OwnSl; rw [addB_new]; exact ⟨rfl, rfl⟩

/-- A slot with an empty slice. -/
theorem AWPC.own0 (T k t : Nat) {c : C} {env : Env} (ht : gt env t = .v (.slice none 0 0)) (h : AWPC P N rd c K ((t, .own σ.length 0 0) :: env) (σ ++ [some [⟨T, k, [], none⟩]])) : AWPC P N rd c K env σ := by
  intro code hc n0 X β a w hst
  have K1 := Kp.own0 (T := T) (k := k) hst.sr
  have E1 : Ext w β σ w (addB β σ.length none) (σ ++ [some [⟨T, k, [], none⟩]]) := Ext.push (Nat.le_refl _) (fun _ _ => rfl) (fun b hb => by cases hb)
  have hst1 := hst.tr (hst.sr.own0 (T := T) (k := k) hst.bd) E1 K1
  have hev : ∀ s, RV w (Xt X (addB β σ.length none) (σ ++ [some [⟨T, k, [], none⟩]])) (addB β σ.length none) (σ ++ [some [⟨T, k, [], none⟩]]) (gt ((t, .own σ.length 0 0) :: env) s) (a.tmps.getD s undef) := by
    intro s
    simp only [gt]
    by_cases hs : t = s
    · subst hs
      simp only [beq_self_eq_true, cond_true]
      have := hst.ev t
      rw [ht] at this
      exact RV.own0 this.inv_v
    · rw [show (t == s) = false by simpa using hs]; exact hst1.ev s
  have hst2 : Stt N n0 X ((t, .own σ.length 0 0) :: env) (σ ++ [some [⟨T, k, [], none⟩]]) (addB β σ.length none) a w := { hst1 with ev := hev }
  exact wpIn_mono (h code hc n0 X _ a w hst2) fun e a w hp => hp.trans E1 K1

/-- A cell of an object with an empty slice. -/
theorem AWPC.own0c (T k : Nat) {f i e j : Nat} {o : Ob} {c : C} {env : Env} (ho : σ.at f i = some o) (he : e < o.es.length) (hj : (o.es.getD e [])[j]? = some (.v (.slice none 0 0)))
    (h : AWPC P N rd c K env (Sto.upd (σ ++ [some [⟨T, k, [], none⟩]]) f i { o with es := o.es.set e ((o.es.getD e []).set j (.own σ.length 0 0)) })) : AWPC P N rd c K env σ := by
  intro code hc n0 X β a w hst
  have K1 := Kp.own0 (T := T) (k := k) hst.sr
  have E1 : Ext w β σ w (addB β σ.length none) (σ ++ [some [⟨T, k, [], none⟩]]) := Ext.push (Nat.le_refl _) (fun _ _ => rfl) (fun b hb => by cases hb)
  have S1 := hst.sr.own0 (T := T) (k := k) hst.bd
  have hst1 := hst.tr S1 E1 K1
  have hf := at_lt ho
  have ho1 : Sto.at (σ ++ [some [⟨T, k, [], none⟩]]) f i = some o := by rw [at_push_old σ _ hf]; exact ho
  generalize hβ1 : addB β σ.length none = β1 at K1 E1 S1 hst1
  generalize hσ1 : (σ ++ [some [⟨T, k, [], none⟩]] : Sto) = σ1 at K1 E1 S1 hst1 ho1 h
  have hob := S1.obj f i o ho1
  have hlp := hob.lp_none he
  have ht : Turn w β1 f i (β1 f i) w := ⟨Nat.le_refl _, fun _ _ _ => rfl, fun b hb => .inl hb, Still.refl w⟩
  let o' : Ob := { o with es := o.es.set e ((o.es.getD e []).set j (.own σ.length 0 0)) }
  have hlen : o.es.length = o'.es.length := by simp [o']
  have hsame : o.es.length = o'.es.length → β1 f i = β1 f i ∧ ∀ b, β1 f i = some b → SameSize w w b := fun _ => ⟨rfl, fun b _ => SameSize.refl w b⟩
  have K2 := Kp.turn (o' := o') S1 ho1 ht rfl (Nat.le_of_eq hlen) hsame
  have E2 : Ext w β1 σ1 w (mvB β1 f i (β1 f i)) (σ1.upd f i o') := Ext.turn ho1 ht
  have hrow : ∀ e', (o'.es.getD e' []).length = (o.es.getD e' []).length := by
    intro e'
    simp only [o', List.getD_eq_getElem?_getD, List.getElem?_set]
    split
    · rename_i h; subst h; simp [he]
    · rfl
  have S2 := S1.turn (o' := o') hst1.bd ho1 ht rfl (Nat.le_of_eq hlen) hsame (by
    refine ⟨fun e' he' => by rw [hrow]; exact hob.1 e' (by omega), ?_⟩
    have h2 := hob.2
    cases hb : β1 f i with
    | none => rw [hb] at h2; rw [h2.1] at he; exact absurd he (Nat.not_lt_zero _)
    | some b =>
      rw [hb] at h2 hob
      refine ⟨fun _ => ?_, fun r hr => (by simp only [o'] at hr; rw [hlp] at hr; cases hr)⟩
      obtain ⟨c, hcc, hle, h1, hr⟩ := h2.1 hlp
      refine ⟨c, hcc, by rw [← hlen]; exact hle, fun e' j' he' hj' => h1 e' j' (by omega) hj', fun e' j' he' hj' => ?_⟩
      have h3 := hr e' j' (by omega) hj'
      have h4 := h3.tr K2
      rw [hb] at h4
      by_cases hq : e' = e ∧ j' = j
      · obtain ⟨rfl, rfl⟩ := hq
        have hv : (o'.es.getD e' []).getD j' .any = .own σ.length 0 0 := by
          have hjl := (List.getElem?_eq_some_iff.1 hj).1
          have h5 : o'.es.getD e' [] = (o.es.getD e' []).set j' (.own σ.length 0 0) := by
            simp only [o', List.getD_eq_getElem?_getD, List.getElem?_set_self he, Option.getD_some]
          rw [h5, List.getD_eq_getElem?_getD, List.getElem?_set_self hjl]; rfl
        rw [hv]
        have hnil : c.getD (e' * o.k + j') undef = .slice none 0 0 := by
          have : (o.es.getD e' []).getD j' .any = .v (.slice none 0 0) := by rw [List.getD_eq_getElem?_getD, hj]; rfl
          rw [this] at h3; exact h3.inv_v
        have h6 : RV w (Xt X β1 σ1) β1 σ1 (.own σ.length 0 0) (c.getD (e' * o.k + j') undef) := by
          rw [← hβ1, ← hσ1]; exact RV.own0 hnil
        have := h6.tr K2
        rw [hb] at this
        exact this
      · have : (o'.es.getD e' []).getD j' .any = (o.es.getD e' []).getD j' .any := by
          simp only [o', List.getD_eq_getElem?_getD, List.getElem?_set]
          split
          · rename_i hee
            subst hee
            simp only [he, if_true, Option.getD_some, List.getElem?_set]
            rw [if_neg fun hjj => hq ⟨rfl, hjj.symm⟩]
          · rfl
        rw [this]; exact h4)
  exact wpIn_mono (h code hc n0 X _ a w (hst1.tr S2 E2 K2)) fun e a w hp => hp.trans (E1.trans E2) (K1.trans K2)

end
end Go.Abs
