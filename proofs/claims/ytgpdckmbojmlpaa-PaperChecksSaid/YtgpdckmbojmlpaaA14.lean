/-
  Functions by what they do: the body's walk; results; a function that leaves all objects alone.
-/
import Derived.Test.YtgpdckmbojmlpaaAR
import Derived.RangeFuncRecord
namespace Go.Abs
set_option linter.unusedVariables false
set_option linter.unusedSimpArgs false

inductive RF where
  | t (n : Nat)
  | c (n : Nat) (s : Option Nat)

def res1 (env : Env) (σ : Sto) : RF → Option (Prop × AV)
  | .t n => some (cnd (gt env n) = true, strp (gt env n))
  | .c n s => match ex (.load s (.t n)) (fun o => strp (ov env o)) σ with
    | some (S, v, _) => some (cnd (gt env n) = true ∧ S, v)
    | none => none

def resL (env : Env) (σ : Sto) : List RF → Option (Prop × List AV)
  | [] => some (True, [])
  | r :: rs => match res1 env σ r, resL env σ rs with
    | some (S, v), some (S', vs) => some (S ∧ S', v :: vs)
    | _, _ => none

def one (vs : List AV) : AV :=
  match vs with
  | [v] => v
  | vs => .tup vs

/-- The end of a function: its results. -/
def kret (rs : List RF) (R : AV → Sto → Prop) : Kont := fun e env σ =>
  match e with
  | .ret | .normal => match resL env σ rs with
    | some (S, vs) => S ∧ R (one vs) σ
    | none => False
  | _ => False

def chkR (P : Program) : ResultVar → RF → Bool
  | .tmp t, .t n => t == n
  | .cell a t, .c n s => a == n && (match agF P t, s with
      | some false, none => true
      | some true, some n => szF P t == some n
      | _, _ => false)
  | _, _ => false

def chkRs (P : Program) : List ResultVar → List RF → Bool
  | [], [] => true
  | a :: r, b :: s => chkR P a b && chkRs P r s
  | _, _ => false

structure CF where
  N : Nat
  c : C
  rs : List RF

def chkF (P : Program) (fn : Func) (cf : CF) : Bool :=
  fn.ntmps == cf.N && chkRs P fn.results.toList cf.rs && (match fn.body with | some code => chkC P cf.N code cf.c | none => false)

def argE : Nat → List AV → Env
  | _, [] => []
  | n, a :: r => (n, a) :: argE (n + 1) r

def rvSem (tmps : Array Value) : ResultVar → Sem Value
  | .tmp t => pure (tmps.getD t undef)
  | .cell p t => do loadVar t (← asAddr (tmps.getD p undef))

theorem results_eq (fn : Func) (tmps : Array Value) : results fn tmps = (do let vs ← fn.results.mapM (rvSem tmps); pure (if h : vs.size = 1 then vs[0] else .tuple vs)) := by
  unfold results
  have : (fun x => match x with | ResultVar.tmp t => pure (tmps.getD t undef) | ResultVar.cell a t => do loadVar t (← asAddr (tmps.getD a undef)) : ResultVar → Sem Value) = rvSem tmps := by
    funext rv; cases rv <;> rfl
  congr 1

section
variable {P : Program} {N n0 : Nat} {X : Nat → Prop} {env : Env} {σ : Sto} {β : Blk} {a : Act} {w : World}

theorem res1_run (hst : Stt N n0 X env σ β a w) {rv : ResultVar} {rf : RF} {S : Prop} {v : AV} (hc : chkR P rv rf = true) (h : res1 env σ rf = some (S, v)) (hS : S) :
    ∃ x, (rvSem a.tmps rv).run P w = .ok x w ∧ RV w (Xt X β σ) β σ v x := by
  cases rv <;> cases rf <;> simp only [chkR, Bool.false_eq_true, Bool.and_eq_true, beq_iff_eq] at hc
  · subst hc
    simp only [res1, Option.some.injEq, Prod.mk.injEq] at h
    obtain ⟨rfl, rfl⟩ := h
    exact ⟨_, rfl, strp_rel (hst.ev _) hS⟩
  · rename_i p t n s
    obtain ⟨rfl, hc⟩ := hc
    simp only [res1] at h
    split at h
    case h_2 => cases h
    rename_i S' v' σ' hex
    simp only [Option.some.injEq, Prod.mk.injEq] at h
    obtain ⟨rfl, rfl⟩ := h
    obtain ⟨rfl, x, hr, hx⟩ := ex_load0 (P := P) (o := { dst := none, op := .load t (.tmp p), type := 0, pos := "", after := #[], guard := none }) (ρ := a.eval) (v := fun o => strp (ov env o))
      (by simp only [chkI, Bool.and_eq_true, chkO, beq_self_eq_true, true_and]; exact hc) hst.sr
      (fun x z h hz => by
        simp only [I.os, List.mem_singleton] at hz; subst hz
        exact strp_rel (ov_rel hst h) hS.1) hex hS.2
    refine ⟨x, ?_, hx⟩
    have hv := strp_rel (hst.ev p) hS.1
    have hptr : ∃ ad, a.tmps.getD p undef = .pointer (some ad) := by
      simp only [ex, ov] at hex
      generalize strp (gt env p) = q at hex hv
      generalize a.tmps.getD p undef = tv at hv
      cases q <;> try (simp at hex; done)
      case iptr cs j => cases hv; exact ⟨_, rfl⟩
      case ptr f i n e j =>
        simp only [obj] at hex
        cases hat : σ'.at f i with
        | none => rw [hat] at hex; simp at hex
        | some ob =>
          rw [hat] at hex
          cases hv with
          | ptr _ _ _ _ _ _ h1 hf hle h =>
            have hn : ob.es.length = n := by
              cases s <;> simp only [Option.some.injEq, Prod.mk.injEq] at hex <;> (obtain ⟨h0, _⟩ := hex; have := hS.2; rw [← h0] at this; exact this.1)
            obtain ⟨b, _, hb⟩ := h ob hat hn
            exact ⟨_, hb⟩
    obtain ⟨ad, had⟩ := hptr
    have : (execOp a.eval { dst := none, op := .load t (.tmp p), type := 0, pos := "", after := #[], guard := none }).run P w = ((loadVar t ad).run P w).andThen fun x w' => .ok (.value x) w' := by
      simp only [execOp, Act.eval, had, Instr.loadAt, Instr.sureAddr, pure_bind, Sem.run_bind, Sem.run_pure]
    rw [this] at hr
    simp only [rvSem, had, asAddr, pure_bind]
    cases hl : (loadVar t ad).run P w with
    | ok y w' => rw [hl] at hr; simp only [Result.andThen_ok, Result.ok.injEq, Next.value.injEq] at hr; rw [hr.1, hr.2]
    | halt q w' => rw [hl] at hr; simp at hr

theorem resL_run (hst : Stt N n0 X env σ β a w) : ∀ {rvs : List ResultVar} {rs : List RF} {S : Prop} {vs : List AV}, chkRs P rvs rs = true → resL env σ rs = some (S, vs) → S →
    ∃ xs : List Value, (rvs.mapM (rvSem a.tmps)).run P w = .ok xs w ∧
      xs.length = vs.length ∧ ∀ i, i < vs.length → RV w (Xt X β σ) β σ (vs.getD i .any) (xs.getD i undef)
  | [], [], S, vs, _, h, hS => by
    simp only [resL, Option.some.injEq, Prod.mk.injEq] at h
    obtain ⟨rfl, rfl⟩ := h
    exact ⟨[], by simp, rfl, fun i hi => absurd hi (Nat.not_lt_zero _)⟩
  | rv :: rvs, r :: rs, S, vs, hc, h, hS => by
    simp only [chkRs, Bool.and_eq_true] at hc
    simp only [resL] at h
    split at h
    case h_2 => cases h
    rename_i S1 v S2 vs' h1 h2
    simp only [Option.some.injEq, Prod.mk.injEq] at h
    obtain ⟨rfl, rfl⟩ := h
    obtain ⟨x, hx, hxr⟩ := res1_run hst hc.1 h1 hS.1
    obtain ⟨xs, hxs, hl, hr⟩ := resL_run hst hc.2 h2 hS.2
    refine ⟨x :: xs, ?_, by simp [hl], fun i hi => ?_⟩
    · rw [List.mapM_cons, Sem.run_bind, hx, Result.andThen_ok, Sem.run_bind, hxs, Result.andThen_ok]; rfl
    · cases i with
      | zero => simpa using hxr
      | succ i => simpa using hr i (by simpa using hi)
  | [], _ :: _, _, _, hc, _, _ => by simp [chkRs] at hc
  | _ :: _, [], _, _, hc, _, _ => by simp [chkRs] at hc

theorem results_run {fn : Func} (hst : Stt N n0 X env σ β a w) {rs : List RF} {S : Prop} {vs : List AV} (hc : chkRs P fn.results.toList rs = true) (h : resL env σ rs = some (S, vs)) (hS : S) :
    ∃ x, (results fn a.tmps).run P w = .ok x w ∧ RV w (Xt X β σ) β σ (one vs) x := by
  obtain ⟨xs, hx, hl, hr⟩ := resL_run hst hc h hS
  have h0 : (results fn a.tmps).run P w = .ok (if h : xs.toArray.size = 1 then xs.toArray[0] else .tuple xs.toArray) w := by
    rw [results_eq, Array.mapM_eq_mapM_toList]
    simp only [Sem.run_bind, Sem.run_map]
    rw [hx]
    rfl
  refine ⟨_, h0, ?_⟩
  unfold one
  split
  · rename_i v
    obtain ⟨x, rfl⟩ := List.length_eq_one_iff.1 hl
    have := hr 0 (by simp)
    simpa using this
  · rename_i hne
    have hne1 : ¬ xs.toArray.size = 1 := by
      intro h1
      obtain ⟨v, rfl⟩ := List.length_eq_one_iff.1 (show vs.length = 1 by rw [← hl]; simpa using h1)
      exact hne v rfl
    rw [dif_neg hne1]
    refine .tup _ _ (by simpa using hl) fun i hi => ?_
    simpa [Array.getD_eq_getD_getElem?, List.getD_eq_getElem?_getD] using hr i hi

/-- The marks of ranges over functions are taken up as a function leaves: nothing that is read lies there. -/
theorem leave_marks {fn : Func} {R : Ending → World → Prop} {rs : List RF} {S : Prop} {vs : List AV} (hc : chkRs P fn.results.toList rs = true) (h : resL env σ rs = some (S, vs)) (hS : S)
    {tmps : Array Value} : ∀ (l : List Nat) (w : World), l.Nodup → (∀ r ∈ l, w.heap[r]? = some (.deferred (some [])) ∧ ¬ Xt X β σ r ∧ n0 ≤ r) → Stt N n0 X env σ β { tmps := tmps, defers := [] } w →
      (∀ w', w.heap.size = w'.heap.size → (∀ b, b < n0 → w'.heap[b]? = w.heap[b]?) → Still w w' → Kp w (Xt X β σ) β σ w' (Xt X β σ) β σ → SRel w' X β σ → ∀ x, RV w' (Xt X β σ) β σ (one vs) x → R (.returned x) w') →
      LeavesInM Fence.wide 0 P fn tmps R (l.map fun r => { target := .collected r, args := #[] }) .returning w
  | [], w, _, _, hst, hR => by
    obtain ⟨x, hx, hr⟩ := results_run hst hc h hS
    exact ⟨x, hx, hR w rfl (fun _ _ => rfl) (Still.refl w) Kp.refl hst.sr x hr⟩
  | r :: l, w, hnd, hl, hst, hR => by
    obtain ⟨h1, h2, h3⟩ := hl r (by simp)
    have hlt := heap_lt h1
    have hother : ∀ b, b ≠ r → (w.putObj r (.deferred none)).heap[b]? = w.heap[b]? := fun b hb => putObj_other w _ hb
    have hne : ∀ b c T fr, w.heap[b]? = some (.cells c T fr) → b ≠ r := fun b c T fr hb e => by rw [e, h1] at hb; cases hb
    have K : Kp w (Xt X β σ) β σ (w.putObj r (.deferred none)) (Xt X β σ) β σ :=
      { size := by rw [putObj_size]; exact Nat.le_refl _
        imm := fun b c T fr hb _ => hother b (hne b c T fr hb)
        frb := fun _ _ h => h
        len := Nat.le_refl _
        obs := fun f i o _ ho => ⟨o, ho, rfl, Nat.le_refl _, fun _ => ⟨rfl, fun b _ c T hcc => ⟨c, T, by rw [hother b (hne b c T _ hcc)]; exact hcc, rfl⟩⟩⟩ }
    have hsr : SRel (w.putObj r (.deferred none)) X β σ :=
      { inj := hst.sr.inj, dis := hst.sr.dis
        obj := fun f i o ho => (hst.sr.obj f i o ho).tr K fun b hb => hother b fun e => h2 (e ▸ .inr ⟨f, i, o, ho, hb⟩) }
    refine ⟨by simp, .inl ⟨r, _, rfl, run_takeDeferred h1, ?_⟩⟩
    refine leave_marks hc h hS l _ (List.nodup_cons.1 hnd).2 (fun r' hr' => ?_) ⟨hst.sz, ⟨[], List.nodup_nil, rfl, fun _ h => absurd h (List.not_mem_nil)⟩, fun b hb => by rw [putObj_size]; exact hst.bd b hb, by rw [putObj_size]; exact hst.nb, hsr, fun s => (hst.ev s).tr K⟩ fun w' e1 e2 ei e3 e4 x hx => ?_
    · have hrr : r' ≠ r := fun e => (List.nodup_cons.1 hnd).1 (e ▸ hr')
      rw [hother r' hrr]
      exact hl r' (by simp [hr'])
    · refine hR w' (by rw [← e1, putObj_size]) (fun b hb => ?_) (Still.trans ⟨rfl, rfl, rfl⟩ ei) (K.trans e3) e4 x hx
      rw [e2 b hb, hother b (by omega)]

theorem argE_rel : ∀ (args : List AV) (xs : List Value) (n k : Nat) (tmps : Array Value), xs.length = args.length → (∀ i, i < args.length → RV w (Xt X β σ) β σ (args.getD i .any) (xs.getD i undef)) →
    (∀ i, i < xs.length → tmps.getD (n + i) undef = xs.getD i undef) → ∀ s, RV w (Xt X β σ) β σ (gt (argE n args) s) (tmps.getD s undef)
  | [], xs, n, k, tmps, _, _, _, s => .any _
  | a :: args, [], n, k, tmps, hl, _, _, s => by simp at hl
  | a :: args, x :: xs, n, k, tmps, hl, hr, ht, s => by
    simp only [argE, gt]
    by_cases hs : n = s
    · subst hs
      simp only [beq_self_eq_true, cond_true]
      have h1 := ht 0 (by simp)
      have h2 := hr 0 (by simp)
      simp only [Nat.add_zero, List.getD_cons_zero] at h1 h2
      rw [h1]; exact h2
    · rw [show (n == s) = false by simpa using hs]
      refine argE_rel args xs (n + 1) k tmps (by simpa using hl) (fun i hi => by simpa using hr (i + 1) (by simpa using hi)) (fun i hi => ?_) s
      have := ht (i + 1) (by simpa using hi)
      rw [show n + 1 + i = n + (i + 1) by omega, this]; simp

/-- A function by what it does, from its body. -/
theorem Does.of_body {f : Nat} {fn : Func} {cf : CF} {args : List AV} {R : AV → Sto → Prop} (hent : ∀ as w, (callFunc f as).run P w = .ok (.enter f as) w) (hf : P.funcs[f]? = some fn) (hck : chkF P fn cf = true)
    (hlen : args.length ≤ cf.N) (h : AWPC P cf.N none cf.c (kret cf.rs R) (argE 0 args) σ) : Does P f args σ R := by
  refine ⟨hent, fun X β w xs hX hs hxl hxr => ?_⟩
  simp only [chkF, Bool.and_eq_true, beq_iff_eq] at hck
  obtain ⟨⟨hN, hrs⟩, hcode⟩ := hck
  cases hb : fn.body with
  | none => rw [hb] at hcode; simp at hcode
  | some code =>
  rw [hb] at hcode
  simp only at hcode
  refine callsIn_of_wp_marks hf hb trivial ?_
  have hsz : (xs.toArray ++ Array.replicate (fn.ntmps - xs.toArray.size) undef).size = cf.N := by simp; omega
  have hst : Stt cf.N w.heap.size X (argE 0 args) σ β { tmps := xs.toArray ++ Array.replicate (fn.ntmps - xs.toArray.size) undef, defers := [] } w := by
    refine ⟨hsz, ⟨[], List.nodup_nil, rfl, fun _ h => absurd h (List.not_mem_nil)⟩, hX, Nat.le_refl _, hs, argE_rel args xs 0 0 _ hxl hxr fun i hi => ?_⟩
    simp only [Nat.zero_add, Array.getD_eq_getD_getElem?, List.getD_eq_getElem?_getD]
    rw [Array.getElem?_append_left (by simpa using hi)]
    simp
  refine wpIn_mono (h code hcode w.heap.size X β _ w hst) fun e a' w' hp => ?_
  obtain ⟨env', σ', β', hk, hst', he, kp⟩ := hp
  have hfin : ∀ (S : Prop) (vs : List AV), resL env' σ' cf.rs = some (S, vs) → S → R (one vs) σ' → LeavesInM Fence.wide 0 P fn a'.tmps (fun e w' => ∃ x r σ' β', e = .returned x ∧ R r σ' ∧ SRel w' X β' σ' ∧ RV w' (Xt X β' σ') β' σ' r x ∧ Ext w β σ w' β' σ' ∧
      Kp w (Xt X β σ) β σ w' (Xt X β' σ') β' σ') a'.defers .returning w' := by
    intro S vs hr hS hR
    obtain ⟨l, hnd, hdf, hl⟩ := hst'.df
    rw [hdf]
    refine leave_marks (n0 := w.heap.size) (N := cf.N) (X := X) (β := β') hrs hr hS l w' hnd hl { hst' with df := ⟨[], List.nodup_nil, rfl, fun _ h => absurd h (List.not_mem_nil)⟩ } fun w2 e1 e2 ei e3 e4 x hx => ?_
    refine ⟨x, _, σ', β', rfl, hR, e4, hx, ⟨by rw [← e1]; exact he.size, fun b hb hn => by rw [e2 b hb, he.old b hb hn], he.new, he.io.trans ei⟩, kp.trans e3⟩
  cases e with
  | normal =>
    simp only [kret] at hk
    split at hk
    · exact hfin _ _ ‹_› hk.1 hk.2
    · exact hk.elim
  | ret =>
    simp only [kret] at hk
    split at hk
    · exact hfin _ _ ‹_› hk.1 hk.2
    · exact hk.elim
  | _ => exact hk.elim

/-- A result read once for all: what was owned is owned no more. -/
def Frz (σ : Sto) (v r : AV) : Prop := ∀ w X β x, SRel w X β σ → RV w (Xt X β σ) β σ v x → RV w X nob [] r x

theorem Frz.pure {v : AV} (h : PureV v) : Frz σ v v := fun w X β x hs hx => by
  have h1 := h _ _ _ _ _ hx
  exact h1.tr ⟨Nat.le_refl _, fun _ _ _ _ _ _ => rfl, fun b _ hb => .inl hb, Nat.le_refl _, fun f i o' hf => absurd hf (Nat.not_lt_zero _)⟩

theorem Frz.agg {cs ds : List AV} (hl : cs.length = ds.length) (h : ∀ i, i < cs.length → Frz σ (cs.getD i .any) (ds.getD i .any)) : Frz σ (.agg cs) (.agg ds) := fun w X β x hs hx => by
  cases hx with
  | agg _ xs hn h1 hr => exact .agg ds xs (hn.trans hl) (fun i hi => h1 i (by omega)) fun i hi => h i (by omega) w X β _ hs (hr i (by omega))

theorem Frz.tup {cs ds : List AV} (hl : cs.length = ds.length) (h : ∀ i, i < cs.length → Frz σ (cs.getD i .any) (ds.getD i .any)) : Frz σ (.tup cs) (.tup ds) := fun w X β x hs hx => by
  cases hx with
  | tup _ xs hn hr => exact .tup ds xs (hn.trans hl) fun i hi => h i (by omega) w X β _ hs (hr i (by omega))

/-- A slice that is owned. -/
theorem Frz.own {f i n : Nat} {o : Ob} {es : List (List AV)} (hk0 : o.k ≠ 0) (ho : σ.at f i = some o) (hn : o.es.length = n) (hl : es.length = n)
    (h : ∀ e j, e < n → j < o.k → Frz σ ((o.es.getD e []).getD j .any) ((es.getD e []).getD j .any)) (hk : ∀ e, e < n → (es.getD e []).length = o.k) : Frz σ (.own f i n) (.sl o.k es) := fun w X β x hs hx => by
  have hob := hs.obj f i o ho
  cases hx with
  | own _ _ _ _ h1c hf hle hh =>
    have h' := hh o ho hn
    unfold OwnSl at h'
    have h2 := hob.2
    cases hb : β f i with
    | none =>
      rw [hb] at h'
      obtain ⟨e0, rfl⟩ := h'
      have : n = 0 := by rw [← hn, e0]; rfl
      subst this
      rw [List.length_eq_zero_iff.1 hl]
      exact .slnil _
    | some b =>
      rw [hb] at h' h2
      obtain ⟨cap, c0, T0, rfl, hc0, hcs⟩ := h'
      rw [hb] at hob
      obtain ⟨c, hc, hsz, hone, hr⟩ := h2.1 (hob.lp_cells hc0)
      rw [hc] at hc0; injection hc0 with hc0; injection hc0 with hc0 _; subst hc0
      subst hn
      rw [← hl]
      · refine .sl o.k es b 0 cap (fun e j => c.getD (e * o.k + j) undef) ?_ (fun e he => hk e (by omega)) (fun e he j hj => ?_) (fun e j he hj hx => ?_) (fun e j he hj => hone e j (by omega) hj) fun e j he hj => h e j (by omega) hj w X β _ hs (hr e j (by omega) hj)
        · rw [hl]; rw [hcs] at hsz; exact Nat.le_of_mul_le_mul_right hsz (by omega)
        · have := mul_lt (k := o.k) (show e < o.es.length by omega)
          rw [Nat.zero_add, cell_of_row w b _ c _ _ hc]
          simp [Array.getD_eq_getD_getElem?, show e * o.k + j < c.size by omega]
        · exact hs.dis f i o b ho hb hx

/-- A function that leaves all objects alone, from its body. -/
theorem Pure.of_body {f : Nat} {fn : Func} {cf : CF} {args : List AV} {r : AV} (hent : ∀ as w, (callFunc f as).run P w = .ok (.enter f as) w) (hf : P.funcs[f]? = some fn) (hck : chkF P fn cf = true)
    (hlen : args.length ≤ cf.N) (h : AWPC P cf.N none cf.c (kret cf.rs fun v σ' => Frz σ' v r) (argE 0 args) []) : Pure P f args r := by
  obtain ⟨_, hd⟩ := Does.of_body hent hf hck hlen h
  refine ⟨hent, fun X w xs hX hxl hxr => ?_⟩
  have hno : ∀ f i o, ¬ Sto.at ([] : Sto) f i = some o := fun f i o h => by have := at_lt h; simp at this
  have hs : SRel w X nob [] := ⟨fun f i _ _ o _ _ h => absurd h (hno f i o), fun f i o _ h => absurd h (hno f i o), fun f i o h => absurd h (hno f i o)⟩
  have hXt : Xt X nob [] = X := by
    funext b; apply propext
    exact ⟨fun h => h.elim id fun ⟨f, i, o, h, _⟩ => absurd h (hno f i o), .inl⟩
  refine (hd X nob w xs hX hs hxl (fun i hi => by rw [hXt]; exact hxr i hi)).mono ?_
  rintro e w' ⟨x, v, σ', β', rfl, hR, hs', hv, he, kp⟩
  exact ⟨x, rfl, hR w' X β' x hs' hv, he.size, fun b hb => he.old b hb fun ⟨f, i, o, h, _⟩ => hno f i o h, he.io⟩

end
end Go.Abs
