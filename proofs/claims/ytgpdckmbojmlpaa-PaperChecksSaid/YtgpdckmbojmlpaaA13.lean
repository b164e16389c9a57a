/-
  Code over abstract values: one behind the other, branches, blocks, loops; functions by what they do.
-/
import Derived.Test.YtgpdckmbojmlpaaAD
namespace Go.Abs
set_option linter.unusedVariables false
set_option linter.unusedSimpArgs false

def chkC (P : Program) (N : Nat) : Code → C → Bool
  | .skip, .skip => true
  | .region _ ops false, .ops l _ => chkL P N ops (List.range ops.size) l
  | .region _ ops true, .draw p l _ => P.follows .mixedOrders && chkD P N ops p l
  | .seq a b, .seq c d => chkC P N a c && chkC P N b d
  | .cond x a b, .cond y c d => chkO x y && chkC P N a c && chkC P N b d
  | .block i a, .block j c => i == j && chkC P N a c
  | .loop a, .loop c => chkC P N a c
  | .exit i, .exit j => i == j
  | .ret, .ret => true
  | .rangeFunc g ps a b, .rng f qs c d => chkO g f && ps.toList == qs && qs.all (fun q => decide (q < N)) && chkC P N a c && chkC P N b d
  | _, _ => false

def AWPC (P : Program) (N : Nat) (rd : Option Nat) (c : C) (K : Kont) (env : Env) (σ : Sto) : Prop :=
  ∀ code, chkC P N code c = true → AWP P N rd code K env σ

def kseq (P : Program) (N : Nat) (rd : Option Nat) (b : C) (K : Kont) : Kont := fun e env σ =>
  match e with
  | .normal => AWPC P N rd b K env σ
  | e => K e env σ

def kblk (id : Nat) (K : Kont) : Kont := fun e env σ =>
  match e with
  | .exit i => if i = id then K .normal env σ else K (.exit i) env σ
  | e => K e env σ

def vcC (P : Program) (N : Nat) (rd : Option Nat) : C → Kont → Env → Sto → Prop
  | .skip, K, env, σ => K .normal env σ
  | .ops l live, K, env, σ => exs P N rd l live K env σ
  | .draw p l live, K, env, σ => exd P N rd p l live K env σ []
  | .seq a b, K, env, σ => vcC P N rd a (kseq P N rd b K) env σ
  | .cond x a b, K, env, σ => match ov env x with
    | .v (.bool t) => (t = true → AWPC P N rd a K env σ) ∧ (t = false → AWPC P N rd b K env σ)
    | _ => False
  | .block i a, K, env, σ => vcC P N rd a (kblk i K) env σ
  | .exit i, K, env, σ => K (.exit i) env σ
  | .ret, K, env, σ => K .ret env σ
  | c, K, env, σ => AWPC P N rd c K env σ

section
variable {P : Program} {N : Nat} {rd : Option Nat} {K : Kont} {env : Env} {σ : Sto}

theorem post_self {n0 : Nat} {X : Nat → Prop} {β : Blk} {a : Act} {w : World} {e : Exit} (hst : Stt N n0 X env σ β a w) (h : K e env σ) : Post N n0 X w β σ K e a w :=
  ⟨env, σ, β, h, hst, Ext.refl _ _ _, Kp.refl⟩

theorem awp_seq {x y : Code} {c : C} (hy : chkC P N y c = true) (h : AWP P N rd x (kseq P N rd c K) env σ) : AWP P N rd (.seq x y) K env σ := by
  intro n0 X β a w hst
  refine wpIn_seq (wpIn_mono (h n0 X β a w hst) fun e a' w' hp => ?_)
  obtain ⟨env', σ', β', hk, hst', he, kp⟩ := hp
  cases e with
  | normal => exact wpIn_mono (hk y hy n0 X β' a' w' hst') fun e a w h => h.trans he kp
  | _ => exact ⟨env', σ', β', hk, hst', he, kp⟩

theorem awp_block {x : Code} {id : Nat} (h : AWP P N rd x (kblk id K) env σ) : AWP P N rd (.block id x) K env σ := by
  intro n0 X β a w hst
  refine wpIn_block (wpIn_mono (h n0 X β a w hst) fun e a' w' hp => ?_)
  obtain ⟨env', σ', β', hk, hst', he, kp⟩ := hp
  cases e with
  | exit i =>
    simp only [Exit.inBlock]
    simp only [kblk] at hk
    split
    · rw [if_pos ‹_›] at hk; exact ⟨env', σ', β', hk, hst', he, kp⟩
    · rw [if_neg ‹_›] at hk; exact ⟨env', σ', β', hk, hst', he, kp⟩
  | _ => exact ⟨env', σ', β', hk, hst', he, kp⟩

theorem AWPC.of_vc : ∀ {c : C} {K : Kont} {env : Env} {σ : Sto}, vcC P N rd c K env σ → AWPC P N rd c K env σ
  | .skip, K, env, σ, h => fun code hc n0 X β a w hst => by
    cases code <;> simp [chkC] at hc
    exact wpIn_skip (post_self hst h)
  | .ops l live, K, env, σ, h => fun code hc n0 X β a w hst => by
    cases code <;> try (simp [chkC] at hc; done)
    rename_i id ops dr
    cases dr <;> simp [chkC] at hc
    refine wpIn_mono (wpIn_region (owp_of_exs h ops _ hc n0 X β a w hst)) fun e a' w' hp => ?_
    obtain ⟨env', σ', β', hk, hst', he, kp⟩ := hp
    cases e with
    | normal => exact ⟨keep live env', σ', β', hk, { hst' with ev := fun s => keep_rel live hst' s }, he, kp⟩
    | _ => exact ⟨env', σ', β', hk, hst', he, kp⟩
  | .seq c d, K, env, σ, h => fun code hc => by
    cases code <;> simp [chkC] at hc
    exact awp_seq hc.2 (AWPC.of_vc (c := c) (K := kseq P N rd d K) h _ hc.1)
  | .cond x c d, K, env, σ, h => fun code hc n0 X β a w hst => by
    cases code <;> simp [chkC] at hc
    simp only [vcC] at h
    split at h
    case h_2 => exact h.elim
    rename_i t ht
    have hx := ov_rel hst hc.1.1
    rw [ht] at hx
    exact wpIn_cond_split hx.inv_v (fun e => h.1 e _ hc.1.2 n0 X β a w hst) (fun e => h.2 e _ hc.2 n0 X β a w hst)
  | .block i c, K, env, σ, h => fun code hc => by
    cases code <;> simp [chkC] at hc
    obtain ⟨rfl, hc⟩ := hc
    exact awp_block (AWPC.of_vc (c := c) (K := kblk _ K) h _ hc)
  | .exit i, K, env, σ, h => fun code hc n0 X β a w hst => by
    cases code <;> simp [chkC] at hc
    subst hc
    exact wpIn_exit (post_self hst h)
  | .ret, K, env, σ, h => fun code hc n0 X β a w hst => by
    cases code <;> simp [chkC] at hc
    exact wpIn_ret (post_self hst h)
  | .loop c, K, env, σ, h => h
  | .draw p l live, K, env, σ, h => fun code hc n0 X β a w hst => by
    cases code <;> try (simp [chkC] at hc; done)
    rename_i id ops dr
    cases dr <;> simp [chkC] at hc
    obtain ⟨hm, hc⟩ := hc
    have hs : w.heap.size ≤ ({ w with drawn := w.drawn + 1 } : World).heap.size := Nat.le_refl _
    have hh : ∀ b, b < w.heap.size → ({ w with drawn := w.drawn + 1 } : World).heap[b]? = w.heap[b]? := fun _ _ => rfl
    have hst' := hst.tr (hst.sr.same hs hh) (Ext.same hs hh) (Kp.same hs hh hst.sr)
    refine wpIn_mono (wpIn_region_any hm (any_of_pre hc (pre_of_exd h) hst')) fun e a' w' hp => ?_
    obtain ⟨env', σ', β', hk, hst', he, kp⟩ := hp.trans (Ext.same hs hh) (Kp.same hs hh hst.sr)
    cases e with
    | normal => exact ⟨keep live env', σ', β', hk, { hst' with ev := fun s => keep_rel live hst' s }, he, kp⟩
    | _ => exact ⟨env', σ', β', hk, hst', he, kp⟩
  | .rng f ps a b, K, env, σ, h => h
  where
    keep_rel {N n0 : Nat} {X : Nat → Prop} {env : Env} {σ : Sto} {β : Blk} {a : Act} {w : World} (live : List Nat) (hst : Stt N n0 X env σ β a w) (s : Nat) :
        RV w (Xt X β σ) β σ (gt (keep live env) s) (a.tmps.getD s undef) := by
      induction live with
      | nil => exact .any _
      | cons m live ih =>
        simp only [keep, List.map_cons, gt] at ih ⊢
        by_cases hm : m = s
        · subst hm; simpa using hst.ev m
        · rw [show (m == s) = false by simpa using hm]; exact ih

/-- What a state is weakened to: each slot that is named has its value. -/
def Sub (env' env : Env) : Prop := ∀ p ∈ env', gt env p.1 = p.2

theorem Sub.stt {n0 : Nat} {X : Nat → Prop} {env' : Env} {β : Blk} {a : Act} {w : World} (h : Sub env' env) (hst : Stt N n0 X env σ β a w) : Stt N n0 X env' σ β a w := by
  refine { hst with ev := fun s => ?_ }
  have : gt env' s = .any ∨ ∃ p ∈ env', p.1 = s ∧ p.2 = gt env' s := by
    clear h
    induction env' with
    | nil => exact .inl rfl
    | cons p r ih =>
      obtain ⟨m, v⟩ := p
      simp only [gt]
      by_cases hm : m = s
      · subst hm; exact .inr ⟨(m, v), by simp, rfl, by simp⟩
      · rw [show (m == s) = false by simpa using hm]
        rcases ih with h | ⟨p, hp, h1, h2⟩
        · exact .inl h
        · exact .inr ⟨p, by simp [hp], h1, h2⟩
  rcases this with h0 | ⟨p, hp, h1, h2⟩
  · rw [h0]; exact .any _
  · rw [← h2, ← h p hp, h1]; exact hst.ev s

theorem AWPC.weaken {c : C} {env' : Env} (h : Sub env' env) (h' : AWPC P N rd c K env' σ) : AWPC P N rd c K env σ :=
  fun code hc n0 X β a w hst => h' code hc n0 X β a w (h.stt hst)

theorem AWPC.mono {c : C} {K' : Kont} (hK : ∀ e env σ, K e env σ → K' e env σ) (h : AWPC P N rd c K env σ) : AWPC P N rd c K' env σ :=
  fun code hc n0 X β a w hst => wpIn_mono (h code hc n0 X β a w hst) fun e a w hp =>
    let ⟨env', σ', β', hk, r⟩ := hp; ⟨env', σ', β', hK _ _ _ hk, r⟩

/-- What a round of a loop comes to: it goes on, nearer to the end; or it leaves. -/
def klp {α : Type} (s : α → Env × Sto) (μ : α → Nat) (x : α) (K : Kont) : Kont := fun e env σ =>
  match e with
  | .normal => ∃ y, Sub (s y).1 env ∧ σ = (s y).2 ∧ μ y < μ x
  | e => K e env σ

/-- A loop: the states that it goes through, by some x; a number that falls. -/
theorem AWPC.loop {α : Type} (s : α → Env × Sto) (μ : α → Nat) (x0 : α) {c : C} (h0 : Sub (s x0).1 env) (h1 : σ = (s x0).2)
    (round : ∀ x, AWPC P N rd c (klp s μ x K) (s x).1 (s x).2) : AWPC P N rd (.loop c) K env σ := by
  intro code hc n0 X β a w hst
  cases code <;> simp [chkC] at hc
  rename_i body
  subst h1
  have key : ∀ k x β1 a1 w1, μ x = k → Stt N n0 X (s x).1 (s x).2 β1 a1 w1 → Ext w β (s x0).2 w1 β1 (s x).2 → Kp w (Xt X β (s x0).2) β (s x0).2 w1 (Xt X β1 (s x).2) β1 (s x).2 →
      ∀ (b : Frame) (kk : List Item) (cs : List Frame), b.roundOf = (fnc rd).round → (fnc rd).fn b.fn → (fnc rd).room (cs.length + 1 + 0) →
      ∃ e a' w', Post N n0 X w β (s x0).2 K e a' w' ∧ ArrivesIn (Machine.fenced P (fnc rd)) P (lone (b.atR a1 (.code body :: .inLoop body :: kk)) cs w1) b kk cs e a' w' := by
    intro k
    induction k using Nat.strongRecOn with
    | _ k ih =>
      intro x β1 a1 w1 hk hst1 he1 hk1 b kk cs hro hb hr
      obtain ⟨e, a2, w2, hq, harr⟩ := round x body hc n0 X β1 a1 w1 hst1 b (.inLoop body :: kk) cs hro hb hr
      obtain ⟨env', σ', β', hkk, hst2, he2, kp2⟩ := hq
      have he3 := he1.trans he2
      have kp3 := hk1.trans kp2
      cases e with
      | normal =>
        obtain ⟨y, hsub, rfl, hlt⟩ := hkk
        obtain ⟨e3, a3, w3, hp3, harr3⟩ := ih (μ y) (hk ▸ hlt) y β' a2 w2 rfl (hsub.stt hst2) he3 kp3 b kk cs hro hb hr
        exact ⟨e3, a3, w3, hp3, .of_steps (StepsIn.trans harr (.one (fenced_calm hb hr rfl) stepR_inLoop)) harr3⟩
      | exit id => exact ⟨_, a2, w2, ⟨env', σ', β', hkk, hst2, he3, kp3⟩, .pass (x := .inLoop body) rfl (fun _ _ => .inl (by simp)) harr⟩
      | goto l => exact ⟨_, a2, w2, ⟨env', σ', β', hkk, hst2, he3, kp3⟩, .pass (x := .inLoop body) rfl (fun _ _ => .inl (by simp)) harr⟩
      | ret => exact ⟨_, a2, w2, ⟨env', σ', β', hkk, hst2, he3, kp3⟩, .pass (x := .inLoop body) rfl (fun _ _ => .inl (by simp)) harr⟩
      | panic ch => exact ⟨_, a2, w2, ⟨env', σ', β', hkk, hst2, he3, kp3⟩, .pass (x := .inLoop body) rfl (fun _ _ => .inl (by simp)) harr⟩
      | outgrown => exact ⟨_, a2, w2, ⟨env', σ', β', hkk, hst2, he3, kp3⟩, .pass (x := .inLoop body) rfl (fun _ _ => .inl (by simp)) harr⟩
  intro b kk cs hro hb hr
  obtain ⟨e, a', w', hp, harr⟩ := key _ x0 β a w rfl (h0.stt hst) (Ext.refl _ _ _) Kp.refl b kk cs hro hb hr
  exact ⟨e, a', w', hp, .of_steps (.one (fenced_calm hb hr rfl) stepR_loop) harr⟩

/-- Two pieces of code with a state between them. -/
theorem AWPC.cut (I : Env → Sto → Prop) {b c : C} (hb : AWPC P N rd b (fun e env σ => match e with | .normal => I env σ | e => K e env σ) env σ)
    (hc : ∀ env σ, I env σ → AWPC P N rd c K env σ) : AWPC P N rd (.seq b c) K env σ := by
  intro code hcode
  cases code <;> simp [chkC] at hcode
  refine awp_seq hcode.2 (AWPC.mono (fun e env σ h => ?_) hb _ hcode.1)
  cases e with
  | normal => exact hc env σ h
  | _ => exact h

end
end Go.Abs
