/-
  Ranges over functions: the record of the loop is an object that is owned; what a function that is ranged over does, told by the rounds that it asks for.
-/
import Derived.Test.YtgpdckmbojmlpaaA13
import Derived.RangeFuncRecord
namespace Go.Abs
set_option linter.unusedVariables false
set_option linter.unusedSimpArgs false

theorem putObj_size (w : World) (b : Nat) (o : Obj) : (w.putObj b o).heap.size = w.heap.size := by simp [World.putObj]

theorem putObj_other (w : World) {b b' : Nat} (o : Obj) (h : b' ≠ b) : (w.putObj b o).heap[b']? = w.heap[b']? := by
  simp only [World.putObj]
  rw [Array.getElem?_setIfInBounds_ne (fun e => h e.symm)]

theorem putObj_same (w : World) {b : Nat} (o : Obj) (h : b < w.heap.size) : (w.putObj b o).heap[b]? = some o := by
  simp [World.putObj, h]

theorem alc_size (w : World) (o : Obj) : (w.alloc o).heap.size = w.heap.size + 1 := by
  show (w.heap.push o).size = _; simp

theorem alc_old (w : World) (o : Obj) {b : Nat} (h : b < w.heap.size) : (w.alloc o).heap[b]? = w.heap[b]? := by
  show (w.heap.push o)[b]? = _
  rw [Array.getElem?_push]; simp [Nat.ne_of_lt h]

theorem alc_new (w : World) (o : Obj) : (w.alloc o).heap[w.heap.size]? = some o := by
  show (w.heap.push o)[w.heap.size]? = _; simp

/-- A family with nothing in it but a loop's record. -/
def lpF (r : Lp) : Option (List Ob) := some [⟨0, 0, [], some r⟩]

/-- A function that is ranged over: it asks for the rounds of tr, one after the other, until it is told to stop. -/
def Iter (P : Program) (it : Nat) (first cap : List AV) (tr : List (List AV)) : Prop :=
  (∀ as w, (callFunc it as).run P w = .ok (.enter it as) w) ∧
  ∀ (C y : Nat) (J : Nat → Sto → Prop) (D : Sto → Prop) (σ : Sto), y < C → σ.length = C → J 0 σ →
    (∀ k as τ μ, tr[k]? = some as → τ.length = C → J k τ → YieldC P y as (τ ++ μ) (fun b σ2 => ∃ τ' ν, σ2 = τ' ++ (μ ++ ν) ∧ τ'.length = C ∧ (b = true → J (k + 1) τ') ∧ (b = false → D τ'))) →
    Does P it (first ++ [.yld y] ++ cap) σ (fun _ σ2 => ∃ τ ν, σ2 = τ ++ ν ∧ τ.length = C ∧ (J tr.length τ ∨ D τ))

def par : List Nat → List AV → Env → Env
  | q :: qs, a :: as, env => par qs as ((q, a) :: env)
  | _, _, env => env

inductive Jmp where
  | ret
  | exit (id : Nat)

def Jmp.code : Jmp → Code
  | .ret => .ret
  | .exit i => .exit i

def Jmp.e : Jmp → Exit
  | .ret => .ret
  | .exit i => .exit i

/-- How a round is left. -/
def krnd {α : Type} (s : α → Sto) (J : α → Prop) (D : Jmp → α → Prop) (ρ : Option (List Ob)) (τ : Sto) : Kont := fun e env σ =>
  match e with
  | .normal => ∃ y τ', σ = s y ++ ρ :: (τ ++ τ') ∧ J y
  | .ret => ∃ y τ', σ = s y ++ ρ :: (τ ++ τ') ∧ D .ret y
  | .exit i => ∃ y τ', σ = s y ++ ρ :: (τ ++ τ') ∧ D (.exit i) y
  | _ => False

/-- The round's assignments, and the body behind them. -/
def kasg {α : Type} (P : Program) (N l : Nat) (bd : C) (s : α → Sto) (J : α → Prop) (D : Jmp → α → Prop) (ρ : Option (List Ob)) (τ : Sto) : Kont := fun e env σ =>
  match e with
  | .normal => ∃ x τ', σ = s x ++ ρ :: (τ ++ τ') ∧ ∀ ρ', AWPC P N (some l) bd (krnd s J D ρ' (τ ++ τ')) env (s x ++ ρ' :: (τ ++ τ'))
  | _ => False

section
variable {P : Program} {N n0 : Nat} {K : Kont}

theorem par_rel {w : World} {X : Nat → Prop} {β : Blk} {σ : Sto} {N : Nat} : ∀ (qs : List Nat) (as : List AV) (xs : List Value) (env : Env) (tmps : Array Value), tmps.size = N → (∀ q ∈ qs, q < N) → qs.length = as.length → xs.length = as.length →
    (∀ s, RV w X β σ (gt env s) (tmps.getD s undef)) → (∀ i, i < as.length → RV w X β σ (as.getD i .any) (xs.getD i undef)) →
    ((qs.zip xs).foldl (fun tmps p => tmps.setIfInBounds p.1 p.2) tmps).size = N ∧ ∀ s, RV w X β σ (gt (par qs as env) s) (((qs.zip xs).foldl (fun tmps p => tmps.setIfInBounds p.1 p.2) tmps).getD s undef)
  | [], [], [], env, tmps, hN, _, _, _, h, _ => ⟨hN, h⟩
  | q :: qs, a :: as, x :: xs, env, tmps, hN, hq, h1, h2, h, hx => by
    refine par_rel qs as xs _ _ (by simpa using hN) (fun q hq' => hq q (by simp [hq'])) (by simpa using h1) (by simpa using h2) (fun s => ?_) fun i hi => by simpa using hx (i + 1) (by simpa using hi)
    have hlt := hq q (by simp)
    simp only [gt]
    by_cases hs : q = s
    · subst hs
      simp only [beq_self_eq_true, cond_true]
      have := hx 0 (by simp)
      simpa [Array.getD_eq_getD_getElem?, Array.getElem?_setIfInBounds_self_of_lt, hN, hlt] using this
    · rw [show (q == s) = false by simpa using hs]
      simpa [Array.getD_eq_getD_getElem?, Array.getElem?_setIfInBounds_ne hs] using h s
  | [], [], _ :: _, _, _, _, _, _, h, _, _ => by simp at h
  | [], _ :: _, _, _, _, _, _, h, _, _, _ => by simp at h
  | _ :: _, [], _, _, _, _, _, h, _, _, _ => by simp at h
  | _ :: _, _ :: _, [], _, _, _, _, _, h, _, _ => by simp at h

theorem at_mid (s τ : Sto) (r : Lp) (C : Nat) (hC : s.length = C) : Sto.at (s ++ lpF r :: τ) C 0 = some ⟨0, 0, [], some r⟩ := by
  unfold Sto.at; subst hC; simp [lpF]

theorem upd_mid (s τ : Sto) (r : Lp) (o : Ob) (C : Nat) (hC : s.length = C) : Sto.upd (s ++ lpF r :: τ) C 0 o = s ++ some [o] :: τ := by
  unfold Sto.upd; subst hC; simp [lpF]

/-- The record of a loop is written. -/
theorem lp_turn {X : Nat → Prop} {σ : Sto} {β : Blk} {w : World} {C l : Nat} {r r' : Lp} {q q' : Loop} (hs : SRel w X β σ) (hX : ∀ b, X b → b < w.heap.size) (hat : σ.at C 0 = some ⟨0, 0, [], some r⟩) (hβ : β C 0 = some l)
    (hq : w.heap[l]? = some (.loop q)) (hq' : LpRel w (Xt X β σ) β σ r' q') :
    ∃ β', SRel (w.putObj l (.loop q')) X β' (σ.upd C 0 ⟨0, 0, [], some r'⟩) ∧ Ext w β σ (w.putObj l (.loop q')) β' (σ.upd C 0 ⟨0, 0, [], some r'⟩) ∧
      Kp w (Xt X β σ) β σ (w.putObj l (.loop q')) (Xt X β' (σ.upd C 0 ⟨0, 0, [], some r'⟩)) β' (σ.upd C 0 ⟨0, 0, [], some r'⟩) ∧ β' C 0 = some l := by
  have ht : Turn w β C 0 (some l) (w.putObj l (.loop q')) := ⟨by rw [putObj_size]; exact Nat.le_refl _, fun b hb hne => putObj_other w _ fun e => hne (by rw [hβ, e]), fun b hb => .inl (by rw [hβ]; exact hb), rfl, rfl, rfl⟩
  have hsame : (⟨0, 0, [], some r⟩ : Ob).es.length = (⟨0, 0, [], some r'⟩ : Ob).es.length → some l = β C 0 ∧ ∀ b, β C 0 = some b → SameSize w (w.putObj l (.loop q')) b := fun _ =>
    ⟨hβ.symm, fun b hb c T hc => by rw [hβ] at hb; injection hb with hb; subst hb; rw [hq] at hc; cases hc⟩
  have K := Kp.turn (o' := ⟨0, 0, [], some r'⟩) hs hat ht rfl (Nat.le_refl _) hsame
  exact ⟨_, hs.turn hX hat ht rfl (Nat.le_refl _) hsame ⟨fun e he => absurd he (Nat.not_lt_zero _), fun h => (by cases h), fun r hr => by
    injection hr with hr; subst hr
    exact ⟨rfl, q', putObj_same w _ (heap_lt hq), hq'.tr K⟩⟩, Ext.turn hat ht, K, mvB_same⟩

theorem AWPC.rng {env : Env} {σ : Sto} {α : Type} (s : α → Sto) (m : Nat) (hC : ∀ x, (s x).length = m) (I : Nat → α → Prop) (D : Jmp → α → Prop) (tr : List (List AV)) (x0 : α) {g : O} {qs : List Nat} {as bd : C} {it : Nat} {first cap : List AV}
    (hf : ov env g = .fn (.func it) first cap) (h0 : σ = s x0) (hI : I 0 x0) (hit : Iter P it first cap tr) (hqs : ∀ (k : Nat) (args : List AV), tr[k]? = some args → qs.length = args.length)
    (round : ∀ k x args l ρ τ, tr[k]? = some args → I k x → AWPC P N (some l) as (kasg P N l bd s (I (k + 1)) D ρ τ) (par qs args env) (s x ++ ρ :: τ))
    (hend : ∀ x τ, I tr.length x → K .normal env (s x ++ τ)) (hjump : ∀ e x τ, D e x → K e.e env (s x ++ τ)) : AWPC P N none (.rng g qs as bd) K env σ := by
  intro code hcode n0 X β a w hst
  cases code <;> try (simp [chkC] at hcode; done)
  rename_i gg ps acode bcode
  simp only [chkC, Bool.and_eq_true, beq_iff_eq, List.all_eq_true, decide_eq_true_eq] at hcode
  obtain ⟨⟨⟨⟨hg, hps⟩, hqN⟩, hca⟩, hcb⟩ := hcode
  have hgr := ov_rel hst hg
  rw [hf] at hgr
  generalize hgv : a.eval gg = gv at hgr
  cases hgr with
  | fn _ _ _ fx fy hfn hfm hfx hfy =>
  refine wpIn_rangeFunc fun fn _ => ?_
  -- the two blocks
  generalize hrec : (Loop.mk .ready none fn a.tmps ps acode bcode w.heap.size) = rec
  have hw1 := run_enterLoop_outer (P := P) (w := w) fn a.tmps ps acode bcode
  rw [hrec] at hw1
  have e0 : w.heap.size ≤ (w.alloc (.deferred (some []))).heap.size := by rw [alc_size]; omega
  have e0' : ∀ b, b < w.heap.size → (w.alloc (.deferred (some []))).heap[b]? = w.heap[b]? := fun b hb => alc_old _ _ hb
  have hmk0 : (w.alloc (.deferred (some []))).heap[w.heap.size]? = some (.deferred (some [])) := alc_new _ _
  have hst0 := hst.tr (hst.sr.same e0 e0') (Ext.same e0 e0') (Kp.same e0 e0' hst.sr)
  have hE0 : Ext w β σ (w.alloc (.deferred (some []))) β σ := Ext.same e0 e0'
  have hK0 := Kp.same e0 e0' hst.sr
  generalize hwd : w.alloc (.deferred (some [])) = wd at hw1 e0 e0' hmk0 hst0 hE0 hK0
  have hsz0 : wd.heap.size = w.heap.size + 1 := by rw [← hwd, alc_size]
  let r0 : Lp := ⟨.ready, none, ps, acode, bcode, N, env⟩
  have hbo : ∀ b, some wd.heap.size = some b → b = wd.heap.size := fun b hb => by injection hb with hb; exact hb.symm
  have f0 : wd.heap.size ≤ (wd.alloc (.loop rec)).heap.size := by rw [alc_size]; omega
  have f0' : ∀ b, b < wd.heap.size → (wd.alloc (.loop rec)).heap[b]? = wd.heap[b]? := fun b hb => alc_old _ _ hb
  have hrec1 : (wd.alloc (.loop rec)).heap[wd.heap.size]? = some (.loop rec) := alc_new _ _
  generalize hwl : wd.alloc (.loop rec) = wl at hw1 f0 f0' hrec1
  have hsz1 : wl.heap.size = w.heap.size + 2 := by rw [← hwl, alc_size, hsz0]
  have K1 := Kp.push (o := ⟨0, 0, [], some r0⟩) (bo := some wd.heap.size) hst0.sr f0 f0' hbo
  have hE1 : Ext wd β σ wl (addB β σ.length (some wd.heap.size)) (σ ++ [some [⟨0, 0, [], some r0⟩]]) := Ext.push f0 f0' hbo (by rw [← hwl]; exact ⟨rfl, rfl, rfl⟩)
  have hs1 := hst0.sr.push (o := ⟨0, 0, [], some r0⟩) hst0.bd f0 f0' hbo ⟨fun e he => absurd he (Nat.not_lt_zero _), fun h => (by cases h), fun r hr => by
    injection hr with hr; subst hr
    refine ⟨rfl, rec, hrec1, by rw [← hrec], by rw [← hrec], by rw [← hrec], by rw [← hrec], by rw [← hrec], by rw [← hrec]; exact hst.sz, fun s => ?_⟩
    have := (hst0.ev s).tr K1
    rw [← hrec]; exact this⟩
  have hyl : RV wl (Xt X (addB β σ.length (some wd.heap.size)) (σ ++ [some [⟨0, 0, [], some r0⟩]])) (addB β σ.length (some wd.heap.size)) (σ ++ [some [⟨0, 0, [], some r0⟩]]) (.yld σ.length) (.func (.yield wd.heap.size) #[] #[]) := by
    refine .yld _ _ rfl (by simp) fun o ho _ => ⟨_, addB_new, rfl⟩
  have hCs : σ.length = m := by rw [h0]; exact hC x0
  generalize hβ1 : addB β σ.length (some wd.heap.size) = β1 at K1 hE1 hs1 hyl
  refine ⟨wd.heap.size, [{ target := .collected w.heap.size, args := #[] }], wl, { target := .fn (.func it) fy, args := fx ++ #[.func (.yield wd.heap.size) #[] #[]] }, wl, it,
    (fx.toList ++ [Value.func (.yield wd.heap.size) #[] #[]] ++ fy.toList).toArray, wl, ?_, ?_, fun f' _ => trivial, ?_, ?_, ?_⟩
  · rw [hsz0]; exact hw1
  · show (Deferred.ofValue (a.eval gg) _).run P wl = _
    rw [hgv, show Array.map a.eval (rangeCall gg wd.heap.size).args = #[Value.func (.yield wd.heap.size) #[] #[]] from by simp [Act.eval]]; rfl
  · have e1 : (fx ++ #[Value.func (.yield wd.heap.size) #[] #[]] ++ fy) = (fx.toList ++ [Value.func (.yield wd.heap.size) #[] #[]] ++ fy.toList).toArray := by apply Array.ext'; simp
    simp only [invoke]
    rw [e1]; exact hit.1 _ _
  · intro h; cases h
  -- the contract of the function
  let J : Nat → Sto → Prop := fun k τ => ∃ x, τ = s x ++ [lpF r0] ∧ I k x
  let DD : Sto → Prop := fun τ => ∃ x e, τ = s x ++ [lpF { r0 with st := .done, pend := some (Jmp.code e) }] ∧ D e x
  have hyield : ∀ k args τ μ, tr[k]? = some args → τ.length = m + 1 → J k τ → YieldC P m args (τ ++ μ) (fun b σ2 => ∃ τ' ν, σ2 = τ' ++ (μ ++ ν) ∧ τ'.length = m + 1 ∧ (b = true → J (k + 1) τ') ∧ (b = false → DD τ')) := by
    rintro k args τ μ hk _ ⟨x, rfl, hIx⟩ X' β' w' xs hX' hs' hxl hxr
    have eσ : s x ++ [lpF r0] ++ μ = s x ++ lpF r0 :: μ := by simp
    rw [eσ] at hs' hxr ⊢
    have hat := at_mid (s x) μ r0 m (hC x)
    have hob := hs'.obj m 0 _ hat
    cases hbl : β' m 0 with
    | none => rw [hbl] at hob; exact absurd hob.2.2 (by simp)
    | some l =>
    rw [hbl] at hob
    obtain ⟨_, q, hq, hqr⟩ := hob.2.2 r0 rfl
    obtain ⟨q1, q2, q3, q4, q5, q6, q7⟩ := hqr
    have hlen := hqs k args hk
    refine ⟨_, l, q, hat, rfl, rfl, hq, by rw [q3]; show ps.size = _; rw [← Array.length_toList, hps, hlen], ?_⟩
    have hfold : (q.params.zip xs.toArray).foldl (fun tmps (t, a) => tmps.setIfInBounds t a) q.tmps = (qs.zip xs).foldl (fun tmps p => tmps.setIfInBounds p.1 p.2) q.tmps := by
      rw [← Array.foldl_toList, Array.toList_zip, q3]
      show List.foldl _ _ (ps.toList.zip _) = _
      rw [hps]
    rw [hfold]
    obtain ⟨hps1, hps2⟩ := par_rel (N := N) qs args xs env q.tmps q6 (fun q hq => hqN q hq) hlen hxl q7 hxr
    generalize (qs.zip xs).foldl (fun tmps p => tmps.setIfInBounds p.1 p.2) q.tmps = tmps at hps1 hps2
    have hstr : Stt N 0 X' (par qs args env) (s x ++ lpF r0 :: μ) β' { tmps := tmps, defers := [] } w' := ⟨hps1, ⟨[], List.nodup_nil, rfl, fun _ h => absurd h (List.not_mem_nil)⟩, hX', Nat.zero_le _, hs', hps2⟩
    refine roundIn_of_wpIn trivial ?_
    rw [q4, q5]
    refine wpIn_mono (round k x args l (lpF r0) μ hk hIx acode hca 0 X' β' _ w' hstr) fun e a1 w1 hp => ?_
    obtain ⟨env1, σ1, β1', hk1, hst1, he1, kp1⟩ := hp
    cases e with
    | normal =>
      obtain ⟨x1, τ1, rfl, hbody⟩ := hk1
      have hat1 := at_mid (s x1) (μ ++ τ1) r0 m (hC x1)
      have hob1 := hst1.sr.obj m 0 _ hat1
      -- the record lies where it lay
      have hbl1 : β1' m 0 = some l := by
        obtain ⟨o, ho, _, _, hh⟩ := kp1.obs m 0 _ (by simp [hC]) hat1
        rw [hat] at ho; injection ho with ho; subst ho
        rw [(hh rfl).1, hbl]
      rw [hbl1] at hob1
      obtain ⟨_, qq, hqq, hqr1⟩ := hob1.2.2 r0 rfl
      obtain ⟨β2, hs2, hE2, hK2, hbl2⟩ := lp_turn (r' := { r0 with st := .busy }) (q' := { qq with state := .busy }) hst1.sr hst1.bd hat1 hbl1 hqq ⟨rfl, hqr1.2.1, hqr1.2.2.1, hqr1.2.2.2.1, hqr1.2.2.2.2.1, hqr1.2.2.2.2.2.1, hqr1.2.2.2.2.2.2⟩
      rw [upd_mid _ _ _ _ _ (hC x1)] at hs2 hE2 hK2
      refine ⟨_, run_beginRound hqq hqr1.1, ?_⟩
      have hst2 := hst1.tr hs2 hE2 hK2
      refine wpIn_mono (hbody _ bcode hcb 0 X' β2 a1 _ hst2) fun e a2 w2 hp2 => ?_
      obtain ⟨env2, σ2, β3, hk2, hst3, he3, kp3⟩ := hp2
      have fin : ∀ (y : α) (τ2 : Sto) (jp : Option Code) (Kq : Sto → Prop), σ2 = s y ++ lpF { r0 with st := .busy } :: (μ ++ τ1 ++ τ2) → 
          (∃ τ' ν, s y ++ lpF { r0 with st := if jp.isNone then .ready else .done, pend := jp } :: (μ ++ τ1 ++ τ2) = τ' ++ (μ ++ ν) ∧ τ'.length = m + 1 ∧ (jp.isNone = true → J (k + 1) τ') ∧ (jp.isNone = false → DD τ')) →
          ∃ v w3, (Instr.endRound l jp).run P w2 = .ok v w3 ∧ ∃ b σ' β4, Ending.returned v = .returned (.bool b) ∧
            (∃ τ' ν, σ' = τ' ++ (μ ++ ν) ∧ τ'.length = m + 1 ∧ (b = true → J (k + 1) τ') ∧ (b = false → DD τ')) ∧ SRel w3 X' β4 σ' ∧ Ext w' β' (s x ++ lpF r0 :: μ) w3 β4 σ' ∧
            Kp w' (Xt X' β' (s x ++ lpF r0 :: μ)) β' (s x ++ lpF r0 :: μ) w3 (Xt X' β4 σ') β4 σ' := by
        intro y τ2 jp Kq e2 hfin
        subst e2
        have hat3 := at_mid (s y) (μ ++ τ1 ++ τ2) { r0 with st := .busy } m (hC y)
        have hob3 := hst3.sr.obj m 0 _ hat3
        have hbl3 : β3 m 0 = some l := by
          obtain ⟨o, ho, _, _, hh⟩ := kp3.obs m 0 _ (by simp [hC]) hat3
          have := at_mid (s x1) (μ ++ τ1) { r0 with st := .busy } m (hC x1)
          unfold lpF at this
          rw [this] at ho; injection ho with ho; subst ho
          rw [(hh rfl).1, hbl2]
        rw [hbl3] at hob3
        obtain ⟨_, q3', hq3, hqr3⟩ := hob3.2.2 _ rfl
        obtain ⟨β4, hs4, hE4, hK4, hbl4⟩ := lp_turn (r' := { r0 with st := if jp.isNone then .ready else .done, pend := jp }) (q' := { q3' with state := if jp.isNone then .ready else .done, pending := jp }) hst3.sr hst3.bd hat3 hbl3 hq3
          ⟨rfl, rfl, hqr3.2.2.1, hqr3.2.2.2.1, hqr3.2.2.2.2.1, hqr3.2.2.2.2.2.1, hqr3.2.2.2.2.2.2⟩
        rw [upd_mid _ _ _ _ _ (hC y)] at hs4 hE4 hK4
        exact ⟨_, _, run_endRound jp hq3, jp.isNone, _, β4, rfl, hfin, hs4, ((he1.trans hE2).trans he3).trans hE4, ((kp1.trans hK2).trans kp3).trans hK4⟩
      cases e with
      | normal =>
        obtain ⟨y, τ2, e2, hy⟩ := hk2
        refine fin y τ2 none (fun _ => True) e2 ⟨s y ++ [lpF r0], τ1 ++ τ2, by simp [r0], by simp [hC], fun _ => ⟨y, rfl, hy⟩, fun h => by simp at h⟩
      | ret =>
        obtain ⟨y, τ2, e2, hy⟩ := hk2
        refine fin y τ2 (some .ret) (fun _ => True) e2 ⟨s y ++ [lpF { r0 with st := .done, pend := some (Jmp.code .ret) }], τ1 ++ τ2, by simp [Jmp.code], by simp [hC], fun h => by simp at h, fun _ => ⟨y, .ret, rfl, hy⟩⟩
      | exit i =>
        obtain ⟨y, τ2, e2, hy⟩ := hk2
        refine fin y τ2 (some (.exit i)) (fun _ => True) e2 ⟨s y ++ [lpF { r0 with st := .done, pend := some (Jmp.code (.exit i)) }], τ1 ++ τ2, by simp [Jmp.code], by simp [hC], fun h => by simp at h, fun _ => ⟨y, .exit i, rfl, hy⟩⟩
      | goto t => exact hk2.elim
      | panic c => exact hk2.elim
      | outgrown => exact hk2.elim
    | exit i => exact hk1.elim
    | goto t => exact hk1.elim
    | ret => exact hk1.elim
    | panic c => exact hk1.elim
    | outgrown => exact hk1.elim
  subst h0
  have hdoes := hit.2 (m + 1) m J DD (s x0 ++ [lpF r0]) (Nat.lt_succ_self _) (by simp [hC]) ⟨x0, rfl, hI⟩ hyield
  rw [hC x0] at hyl
  have hcall := hdoes.go X β1 wl (fx.toList ++ [Value.func (.yield wd.heap.size) #[] #[]] ++ fy.toList) (fun b hb => Nat.lt_of_lt_of_le (hst0.bd b hb) f0) hs1 (by simp [← hfn, ← hfm]) (by
    have K01 := hK0.trans K1
    have g0 : fx.toList.length = first.length := by simpa using hfn
    have g1 := pw_append (w := wl) (X := Xt X β1 (s x0 ++ [lpF r0])) (β := β1) (σ := s x0 ++ [lpF r0]) (cs := first) (ds := [.yld m]) (xs := fx.toList) (ys := [.func (.yield wd.heap.size) #[] #[]]) g0 rfl
      (fun i hi => by have := (hfx i hi).tr K01; simpa [lpF, Array.getD_eq_getD_getElem?, List.getD_eq_getElem?_getD] using this) (fun i hi => by
        have : i = 0 := by simpa using hi
        subst this; exact hyl)
    exact (pw_append g1.1 (by simpa using hfm) g1.2 (fun i hi => by have := (hfy i hi).tr K01; simpa [lpF, Array.getD_eq_getD_getElem?, List.getD_eq_getElem?_getD] using this)).2)
  refine CallsIn.mono hcall ?_
  rintro e w3 ⟨xr, rr, σ3, β3, rfl, ⟨τ, ν, rfl, hτ, hJD⟩, hs3, hr3, hE3, hK3⟩
  -- the record at the end
  have fin : ∀ (x : α) (r : Lp), τ = s x ++ [lpF r] → r.st ≠ .busy → r.N = N → r.env = env → ∃ w4 σ4 β4, (Instr.endLoop wd.heap.size).run P w3 = .ok r.pend w4 ∧ (∃ ν', σ4 = s x ++ ν') ∧
      Stt N n0 X env σ4 β4 { a with defers := [{ target := .collected w.heap.size, args := #[] }] ++ a.defers } w4 ∧ Ext w β (s x0) w4 β4 σ4 ∧ Kp w (Xt X β (s x0)) β (s x0) w4 (Xt X β4 σ4) β4 σ4 := by
    rintro x r rfl hnb hrN hrE
    have hat3 : Sto.at (s x ++ [lpF r] ++ ν) m 0 = some ⟨0, 0, [], some r⟩ := by
      have := at_mid (s x) ν r m (hC x)
      simpa using this
    have hbl3 : β3 m 0 = some wd.heap.size := by
      obtain ⟨o, ho, _, _, hh⟩ := hK3.obs m 0 _ (by simp [hC]) hat3
      have := at_mid (s x0) [] r0 m (hC x0)
      unfold lpF at this
      have ho' : some (⟨0, 0, [], some r0⟩ : Ob) = some o := by rw [← this]; exact ho
      injection ho' with ho'; subst ho'
      rw [(hh rfl).1, ← hβ1, ← hC x0]; exact addB_new
    have hob3 := hs3.obj m 0 _ hat3
    rw [hbl3] at hob3
    obtain ⟨_, q3, hq3, hqr3⟩ := hob3.2.2 _ rfl
    have hX3 : ∀ b, X b → b < w3.heap.size := fun b hb => Nat.lt_of_lt_of_le (hst0.bd b hb) (Nat.le_trans f0 hE3.size)
    obtain ⟨β4, hs4, hE4, hK4, _⟩ := lp_turn (r' := { r with st := .exhausted }) (q' := { q3 with state := .exhausted }) hs3 hX3 hat3 hbl3 hq3
      ⟨rfl, hqr3.2.1, hqr3.2.2.1, hqr3.2.2.2.1, hqr3.2.2.2.2.1, hqr3.2.2.2.2.2.1, hqr3.2.2.2.2.2.2⟩
    have hupd : Sto.upd (s x ++ [lpF r] ++ ν) m 0 ⟨0, 0, [], some { r with st := .exhausted }⟩ = s x ++ (some [⟨0, 0, [], some { r with st := .exhausted }⟩] :: ν) := by
      have := upd_mid (s x) ν r ⟨0, 0, [], some { r with st := .exhausted }⟩ m (hC x)
      simpa using this
    rw [hupd] at hs4 hE4 hK4
    have hrun := run_endLoop (P := P) hq3 (by rw [hqr3.1]; exact hnb)
    have hrun : (Instr.endLoop wd.heap.size).run P w3 = .ok r.pend (w3.putObj wd.heap.size (.loop { q3 with state := .exhausted })) := by rw [hrun]; exact congrArg (fun p => Result.ok p _) hqr3.2.1
    have hEa := ((hE0.trans hE1).trans hE3).trans hE4
    have hKa := ((hK0.trans K1).trans hK3).trans hK4
    refine ⟨_, _, β4, hrun, ⟨_, rfl⟩, ?_, hEa, hKa⟩
    have hst4 := hst.tr hs4 hEa hKa
    refine { hst4 with df := ?_ }
    obtain ⟨rs, hnd, hdf, hr⟩ := hst4.df
    obtain ⟨rs', hnd', hdf', hr'⟩ := hst.df
    -- the mark
    have hm1 : wl.heap[w.heap.size]? = some (.deferred (some [])) := by rw [f0' _ (by omega)]; exact hmk0
    have hn1 : ¬ owned β1 (s x0 ++ [lpF r0]) w.heap.size := fun ho => by
      have := hs1.owned_lt ho
      rcases owned_push (w := wd) (bo := some wd.heap.size) hbo (β := β) (σ := s x0) (o := ⟨0, 0, [], some r0⟩) (b := w.heap.size) (by rw [hβ1]; exact ho) with h | h
      · have := hst.sr.owned_lt h; omega
      · omega
    have hn1x : ¬ Xt X β1 (s x0 ++ [lpF r0]) w.heap.size := fun h => h.elim (fun h => by have := hst.bd _ h; omega) hn1
    have hm3 : w3.heap[w.heap.size]? = some (.deferred (some [])) := by rw [hE3.old _ (by omega) hn1]; exact hm1
    have hn3x : ¬ Xt X β3 (s x ++ [lpF r] ++ ν) w.heap.size := fun h => hn1x (hK3.frb _ (by omega) h)
    have hne4 : w.heap.size ≠ wd.heap.size := by omega
    refine ⟨w.heap.size :: rs, List.nodup_cons.2 ⟨fun hm => ?_, hnd⟩, by rw [List.map_cons]; show _ :: a.defers = _; rw [show a.defers = rs.map _ from hdf], fun mk hm => ?_⟩
    · have hmm : rs = rs' := by
        have e1 : rs.map (fun r => ({ target := .collected r, args := #[] } : Deferred)) = rs'.map (fun r => { target := .collected r, args := #[] }) := by rw [← hdf, ← hdf']
        clear hr hr' hdf hdf' hnd hnd' hm
        induction rs generalizing rs' with
        | nil => cases rs' with | nil => rfl | cons _ _ => simp at e1
        | cons c cs ih => cases rs' with
          | nil => simp at e1
          | cons d ds =>
            simp only [List.map_cons, List.cons.injEq, Deferred.mk.injEq, Target.collected.injEq, and_true] at e1
            rw [e1.1, ih ds e1.2]
      rw [hmm] at hm
      have := heap_lt (hr' _ hm).1; omega
    · rcases List.mem_cons.1 hm with rfl | hm
      · refine ⟨by rw [putObj_other _ _ hne4]; exact hm3, fun h => hn3x (hK4.frb _ (heap_lt hm3) h), hst.nb⟩
      · exact hr mk hm
  rcases hJD with ⟨x, ex, hx⟩ | ⟨x, e, ex, hx⟩
  · obtain ⟨w4, σ4, β4, hrun, ⟨ν', rfl⟩, hst4, hE4, hK4⟩ := fin x r0 ex (by simp [r0]) rfl rfl
    exact ⟨_, w4, hrun, ⟨env, _, β4, hend x ν' hx, hst4, hE4, hK4⟩⟩
  · obtain ⟨w4, σ4, β4, hrun, ⟨ν', rfl⟩, hst4, hE4, hK4⟩ := fin x _ ex (by simp) rfl rfl
    refine ⟨_, w4, hrun, ?_⟩
    cases e with
    | ret => exact wpIn_ret ⟨env, _, β4, hjump .ret x ν' hx, hst4, hE4, hK4⟩
    | exit i => exact wpIn_exit ⟨env, _, β4, hjump (.exit i) x ν' hx, hst4, hE4, hK4⟩

end
end Go.Abs
