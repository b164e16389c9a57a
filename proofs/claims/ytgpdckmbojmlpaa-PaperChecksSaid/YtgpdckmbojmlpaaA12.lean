/-
  Lists of instructions as a condition that is reckoned; calls by what they do.
-/
import Derived.Test.YtgpdckmbojmlpaaA11
namespace Go.Abs
set_option linter.unusedVariables false
set_option linter.unusedSimpArgs false

def grd (env : Env) : Option (Nat × Bool) → Option (Bool × Bool)
  | none => some (true, false)
  | some (s, w) => match gt env s with
    | .v (.bool c) => some (c == w, true)
    | .when d (.v (.bool c)) => some (d && (c == w), true)
    | _ => none

def wrap (wr c : Bool) (v : AV) : AV := bif wr then .when c v else v

/-- A call of yield, in a function that is ranged over: one round of the loop whose record is the object y. -/
def YieldC (P : Program) (y : Nat) (args : List AV) (σ : Sto) (R : Bool → Sto → Prop) : Prop :=
  ∀ (X : Nat → Prop) (β : Blk) (w : World) (xs : List Value), (∀ b, X b → b < w.heap.size) → SRel w X β σ → xs.length = args.length →
    (∀ i, i < args.length → RV w (Xt X β σ) β σ (args.getD i .any) (xs.getD i undef)) →
    ∃ o l q, σ.at y 0 = some o ∧ o.es.length = 0 ∧ β y 0 = some l ∧ w.heap[l]? = some (.loop q) ∧ q.params.size = args.length ∧
      RoundIn Fence.wide 0 P l q.fn ((q.params.zip xs.toArray).foldl (fun tmps (t, a) => tmps.setIfInBounds t a) q.tmps) q.assign q.body w fun e w' =>
        ∃ b σ' β', e = .returned (.bool b) ∧ R b σ' ∧ SRel w' X β' σ' ∧ Ext w β σ w' β' σ' ∧ Kp w (Xt X β σ) β σ w' (Xt X β' σ') β' σ'

/-- What a call asks: the callee leaves all objects alone; or what it does to them is known; or it is a yield. -/
def CallP (P : Program) (N : Nat) (rd : Option Nat) (f : AV) (args : List AV) (c wr : Bool) (d : Option Nat) (r : List J) (live : List Nat) (K : Kont) (env : Env) (σ : Sto) : Prop :=
  (∃ n first cap res, f = .fn (.func n) first cap ∧ (c = true → (∀ a ∈ first ++ args ++ cap, PureV a) ∧ Pure P n (first ++ args ++ cap) res) ∧ OWP P N rd r live K (st d (wrap wr c res) env) σ) ∨
  (∃ n first cap R, f = .fn (.func n) first cap ∧ (c = true → Does P n (first ++ args ++ cap) σ R ∧ ∀ res σ', R res σ' → OWP P N rd r live K (st d (wrap wr true res) env) σ') ∧
    (c = false → OWP P N rd r live K (st d (wrap wr false .any) env) σ)) ∨
  (∃ y R, f = .yld y ∧ (c = true → YieldC P y args σ R ∧ ∀ b σ', R b σ' → OWP P N rd r live K (st d (wrap wr true (.v (.bool b))) env) σ') ∧
    (c = false → OWP P N rd r live K (st d (wrap wr false .any) env) σ))

def pickV (c : Bool) (env : Env) (x y z : O) : Option (Prop × Bool) :=
  match strp (ov env x) with
  | .v (.bool p) =>
    match strp (ov env y), strp (ov env z) with
    | .v (.bool q), .v (.bool s) => some ((c = true → cnd (ov env x) = true) ∧ (c = true → p = true → cnd (ov env y) = true) ∧ (c = true → p = false → cnd (ov env z) = true), bif p then q else s)
    | .v (.bool q), _ => some ((c = true → cnd (ov env x) = true) ∧ (c = true → p = true) ∧ (c = true → cnd (ov env y) = true), q)
    | _, .v (.bool s) => some ((c = true → cnd (ov env x) = true) ∧ (c = true → p = false) ∧ (c = true → cnd (ov env z) = true), s)
    | _, _ => none
  | _ => none

def exs (P : Program) (N : Nat) (rd : Option Nat) : List J → List Nat → Kont → Env → Sto → Prop
  | [], live, K, env, σ => K .normal (keep live env) σ
  | ⟨d, i, g⟩ :: r, live, K, env, σ =>
    match grd env g with
    | none => False
    | some (c, wr) =>
      match i with
      | .pick x y z =>
        match pickV c env x y z with
        | some (S, b) => S ∧ exs P N rd r live K (st d (wrap wr c (.v (.bool b))) env) σ
        | none => False
      | .call f as => sideL c env (f :: as) ∧ CallP P N rd (strp (ov env f)) (ocalls as env) c wr d r live K env σ
      | i =>
        match ex i (fun o => strp (ov env o)) σ with
        | some (S, v, σ') => sideL c env i.os ∧ (c = true → S) ∧ exs P N rd r live K (st d (wrap wr c v) env) σ'
        | none => c = false ∧ wr = true ∧ exs P N rd r live K (st d (wrap wr c .any) env) σ

section
variable {P : Program} {N n0 : Nat} {rd : Option Nat} {K : Kont}

theorem fnc_fn (f : Nat) : (fnc rd).fn f := by cases rd <;> trivial
theorem fnc_depth : (fnc rd).depth = none := by cases rd <;> rfl
theorem fnc_round : (fnc rd).round = rd := by cases rd <;> rfl

theorem callsIn_fnc {f : Nat} {xs : Array Value} {w : World} {R : Ending → World → Prop} (h : CallsIn Fence.wide 0 P f xs w R) : CallsIn (fnc rd) (0 - 1) P f xs w R := by
  cases rd with
  | none => exact h
  | some l => exact CallsIn.inRound l h

theorem no_defer {o : Op} {i : I} (h : chkI P o i = true) (c : Call) : o ≠ .defer c := by
  rintro rfl; cases i <;> simp [chkI] at h

theorem Stt.tr {X : Nat → Prop} {env : Env} {σ σ' : Sto} {β β' : Blk} {a : Act} {w w' : World} (h : Stt N n0 X env σ β a w) (hs : SRel w' X β' σ') (he : Ext w β σ w' β' σ')
    (K : Kp w (Xt X β σ) β σ w' (Xt X β' σ') β' σ') : Stt N n0 X env σ' β' a w' where
  sz := h.sz
  df := by
    obtain ⟨rs, hnd, hdf, hr⟩ := h.df
    refine ⟨rs, hnd, hdf, fun r hm => ?_⟩
    obtain ⟨h1, h2, h3⟩ := hr r hm
    exact ⟨by rw [he.old r (heap_lt h1) (fun ho => h2 (.inr ho))]; exact h1, fun hx => h2 (K.frb r (heap_lt h1) hx), h3⟩
  bd b hb := Nat.lt_of_lt_of_le (h.bd b hb) he.size
  nb := Nat.le_trans h.nb he.size
  sr := hs
  ev s := (h.ev s).tr K

theorem Stt.put {X : Nat → Prop} {env : Env} {σ : Sto} {β : Blk} {a : Act} {w : World} {d : Option Nat} {v : AV} {x : Value} (h : Stt N n0 X env σ β a w) (hd : ∀ s, d = some s → s < N)
    (hx : RV w (Xt X β σ) β σ v x) : Stt N n0 X (st d v env) σ β (a.put d x) w := by
  cases d with
  | none => exact h
  | some d =>
    refine ⟨by simp [Act.put, h.sz], h.df, h.bd, h.nb, h.sr, fun s => ?_⟩
    have hlt := hd d rfl
    simp only [st, gt, Act.put]
    by_cases hs : d = s
    · subst hs
      simp only [beq_self_eq_true, cond_true]
      simpa [Array.getD_eq_getD_getElem?, Array.getElem?_setIfInBounds_self_of_lt, h.sz, hlt] using hx
    · rw [show (d == s) = false by simpa using hs]
      simpa [Array.getD_eq_getD_getElem?, Array.getElem?_setIfInBounds_ne hs] using h.ev s

theorem wanted_eq {X : Nat → Prop} {env : Env} {σ : Sto} {β : Blk} {a : Act} {w : World} {ops : Array Oper} {o : Oper} {j : J} {c wr : Bool} (h : Stt N n0 X env σ β a w) (hc : chkJ P N ops o j = true)
    (hg : grd env j.g = some (c, wr)) : Region.wanted o (yielded ops a.tmps) = c ∧ (wr = false → c = true) ∧ (wr = true → j.i.calm = true ∧ j.d.isSome = true) := by
  simp only [chkJ, Bool.and_eq_true] at hc
  obtain ⟨_, hc⟩ := hc
  obtain ⟨d, i, g⟩ := j
  cases g with
  | none =>
    cases hog : o.guard with
    | some p => rw [hog] at hc; simp at hc
    | none =>
      simp only [grd, Option.some.injEq, Prod.mk.injEq] at hg
      obtain ⟨rfl, rfl⟩ := hg
      exact ⟨by simp [Region.wanted, hog], fun _ => rfl, (fun h => (by cases h))⟩
  | some p =>
    obtain ⟨s, b⟩ := p
    cases hog : o.guard with
    | none => rw [hog] at hc; simp at hc
    | some q =>
      obtain ⟨gi, b'⟩ := q
      rw [hog] at hc
      simp only [Bool.and_eq_true, beq_iff_eq, decide_eq_true_eq] at hc
      obtain ⟨⟨⟨⟨rfl, hdst⟩, hcalm⟩, hdd⟩, hlt⟩ := hc
      have hev := h.ev s
      have hslot : a.tmps[s]? = some (a.tmps.getD s undef) := by
        simp [Array.getD_eq_getD_getElem?, show s < a.tmps.size by rw [h.sz]; exact hlt]
      have hy : yielded ops a.tmps gi = match a.tmps.getD s undef with | .bool b => some b | _ => none := by
        unfold yielded
        rw [hdst, Option.bind_some, hslot]
        generalize a.tmps.getD s undef = q
        cases q <;> rfl
      simp only [grd] at hg
      split at hg
      · rename_i cc hgt
        simp only [Option.some.injEq, Prod.mk.injEq] at hg
        obtain ⟨rfl, rfl⟩ := hg
        rw [hgt] at hev
        rw [hev.inv_v] at hy
        refine ⟨?_, (fun h => (by cases h)), fun _ => ⟨hcalm, hdd⟩⟩
        simp only [Region.wanted, hog, hy]
        cases cc <;> cases b' <;> rfl
      · rename_i dd cc hgt
        simp only [Option.some.injEq, Prod.mk.injEq] at hg
        obtain ⟨rfl, rfl⟩ := hg
        rw [hgt] at hev
        refine ⟨?_, (fun h => (by cases h)), fun _ => ⟨hcalm, hdd⟩⟩
        cases hev with
        | when _ _ _ h1 h2 =>
          cases dd with
          | false =>
            rw [h2 rfl] at hy
            simp only [Region.wanted, hog, hy, undef, Bool.false_and]
            rfl
          | true =>
            have := (h1 rfl).inv_v
            rw [this] at hy
            simp only [Region.wanted, hog, hy, Bool.true_and]
            cases cc <;> cases b' <;> rfl
      · cases hg

theorem chkJ_parts {ops : Array Oper} {o : Oper} {j : J} (hc : chkJ P N ops o j = true) : o.dst = j.d ∧ (∀ s, j.d = some s → s < N) ∧ chkI P o.op j.i = true := by
  simp only [chkJ, Bool.and_eq_true, beq_iff_eq] at hc
  obtain ⟨⟨⟨h1, h2⟩, h3⟩, _⟩ := hc
  refine ⟨h1, fun s hs => ?_, h3⟩
  rw [hs] at h2; simpa using h2

/-- One operation in front of a list. -/
theorem ops_cons {X : Nat → Prop} {env : Env} {σ : Sto} {β : Blk} {a : Act} {w : World} {ops : Array Oper} {o : Oper} {j : J} {c wr : Bool} {i : Nat} {is : List Nat} {r : List J} {live : List Nat}
    (hst : Stt N n0 X env σ β a w) (ho : ops[i]? = some o) (hc : chkJ P N ops o j = true) (hg : grd env j.g = some (c, wr)) (hcl : chkL P N ops is r = true)
    (hyes : c = true → ∃ Kn : AV → Sto → Prop, (∀ v σ', Kn v σ' → OWP P N rd r live K (st j.d (wrap wr c v) env) σ') ∧
      o.wpIn (fnc rd) 0 P a w (fun a' w' => ∃ x v σ' β', a' = a.put j.d x ∧ Kn v σ' ∧ SRel w' X β' σ' ∧ RV w' (Xt X β' σ') β' σ' v x ∧ Ext w β σ w' β' σ' ∧ Kp w (Xt X β σ) β σ w' (Xt X β' σ') β' σ') (Post N n0 X w β σ (Kl live K)))
    (hno : c = false → wr = true → ∃ v, OWP P N rd r live K (st j.d (wrap wr c v) env) σ) :
    wpOpsIn (fnc rd) 0 P ops (Post N n0 X w β σ (Kl live K)) (i :: is) a w := by
  obtain ⟨hw, hwr, hcalm⟩ := wanted_eq hst hc hg
  obtain ⟨hd, hlt, _⟩ := chkJ_parts hc
  simp only [wpOpsIn, ho, hw]
  cases c with
  | true =>
    simp only [if_true]
    obtain ⟨Kn, hK, h⟩ := hyes rfl
    refine Oper.wpIn_mono (fun a' w' ⟨x, v, σ', β', ha, hk, hs, hr, he, kp⟩ => ?_) h
    subst ha
    have hst' := (hst.tr hs he kp).put (d := j.d) (v := wrap wr true v) hlt (by
      cases wr with
      | false => exact hr
      | true => exact .when _ _ _ (fun _ => hr) (fun h => by cases h))
    have := hK v σ' hk ops is hcl n0 X β' _ w' hst'
    refine wpOpsIn_mono' (fun e a w h => h.trans he kp) is _ _ this
  | false =>
    simp only [Bool.false_eq_true, if_false]
    have hwt : wr = true := by cases wr with | false => exact absurd (hwr rfl) (by simp) | true => rfl
    subst hwt
    obtain ⟨v, h⟩ := hno rfl rfl
    refine ⟨fun f _ => fnc_fn f, ?_⟩
    rw [hd]
    exact h ops is hcl n0 X β _ w (hst.put (v := wrap true false v) hlt (.when _ _ _ (fun h => by cases h) (fun _ => rfl)))
  where
    wpOpsIn_mono' {F : Fence} {ops : Array Oper} {Q Q' : Exit → Act → World → Prop} (hq : ∀ e a w, Q e a w → Q' e a w) : ∀ (is : List Nat) (a : Act) (w : World), wpOpsIn F 0 P ops Q is a w → wpOpsIn F 0 P ops Q' is a w
      | [], a, w, h => hq _ _ _ h
      | i :: is, a, w, h => by
        simp only [wpOpsIn] at h ⊢
        cases ho : ops[i]? with
        | none => simp only [ho] at h ⊢; exact wpOpsIn_mono' hq is a w h
        | some o =>
          simp only [ho] at h ⊢
          cases hw : Region.wanted o (yielded ops a.tmps) with
          | false =>
            simp only [hw, Bool.false_eq_true, if_false] at h ⊢
            exact ⟨h.1, wpOpsIn_mono' hq is _ _ h.2⟩
          | true =>
            simp only [hw, if_true] at h ⊢
            obtain ⟨h1, h2⟩ := h
            refine ⟨h1, ?_⟩
            generalize (o.semAt F.round a.eval).run P w = r at *
            cases r with
            | ok x w' =>
              cases x <;> simp only [Oper.uponIn] at h2 ⊢ <;>
                first
                  | exact wpOpsIn_mono' hq is _ _ h2
                  | exact ⟨h2.1, CallsIn.mono h2.2 (fun e w'' he => by cases e <;> first | exact wpOpsIn_mono' hq is _ _ he | exact hq _ _ _ he | (obtain ⟨a0, w0, h0⟩ := he; exact ⟨a0, w0, hq _ _ _ h0⟩))⟩
                  | exact ⟨h2.1, RowsIn.mono h2.2 (fun _ _ he => wpOpsIn_mono' hq is _ _ he)⟩
                  | exact ⟨h2.1, RoundIn.mono h2.2 (fun e w'' he => by cases e <;> first | exact wpOpsIn_mono' hq is _ _ he | exact hq _ _ _ he | (obtain ⟨a0, w0, h0⟩ := he; exact ⟨a0, w0, hq _ _ _ h0⟩))⟩
            | halt x w' => cases x <;> simp only [Oper.uponIn] at h2 ⊢ <;> first | exact h2 | exact hq _ _ _ h2

/-- What is to follow an operation. -/
def Aft (N : Nat) (X : Nat → Prop) (w : World) (β : Blk) (σ : Sto) (a : Act) (d : Option Nat) (Kn : AV → Sto → Prop) : Act → World → Prop := fun a' w' =>
  ∃ x v σ' β', a' = a.put d x ∧ Kn v σ' ∧ SRel w' X β' σ' ∧ RV w' (Xt X β' σ') β' σ' v x ∧ Ext w β σ w' β' σ' ∧ Kp w (Xt X β σ) β σ w' (Xt X β' σ') β' σ'

theorem wp_done {X : Nat → Prop} {σ : Sto} {β : Blk} {a : Act} {w : World} {o : Oper} {i : I} {d : Option Nat} {r : AV} {σ' : Sto} {Q : Exit → Act → World → Prop} (hc : chkI P o.op i = true) (hd : o.dst = d)
    (h : Done P o a.eval w X β σ r σ') : o.wpIn (fnc rd) 0 P a w (Aft N X w β σ a d (fun v s => v = r ∧ s = σ')) Q := by
  obtain ⟨n, x, w', β', hrun, hn, hs, hk, he, hr⟩ := h
  refine ⟨fun f _ => fnc_fn f, ?_⟩
  rw [Oper.semAt_eq _ _ _ (no_defer hc), hrun]
  rcases hn with rfl | ⟨rfl, rfl⟩
  · exact ⟨x, r, σ', β', by rw [hd], ⟨rfl, rfl⟩, hs, hr, he, hk⟩
  · exact ⟨_, r, σ', β', by rw [hd], ⟨rfl, rfl⟩, hs, hr, he, hk⟩

theorem ocalls_rel {X : Nat → Prop} {env : Env} {σ : Sto} {β : Blk} {a : Act} {w : World} (hst : Stt N n0 X env σ β a w) : ∀ (xs : List Operand) (os : List O), chkOs xs os = true → (∀ o ∈ os, cnd (ov env o) = true) →
    (xs.map a.eval).length = (ocalls os env).length ∧ ∀ i, i < (ocalls os env).length → RV w (Xt X β σ) β σ ((ocalls os env).getD i .any) ((xs.map a.eval).getD i undef)
  | [], [], _, _ => ⟨rfl, fun i hi => absurd hi (Nat.not_lt_zero _)⟩
  | x :: xs, o :: os, h, hc => by
    simp only [chkOs, Bool.and_eq_true] at h
    obtain ⟨h1, h2⟩ := ocalls_rel hst xs os h.2 fun o ho => hc o (by simp [ho])
    refine ⟨by simpa [ocalls] using h1, fun i hi => ?_⟩
    cases i with
    | zero => simpa [ocalls] using strp_rel (ov_rel hst h.1) (hc o (by simp))
    | succ i => simpa [ocalls] using h2 i (by simpa [ocalls] using hi)
  | [], _ :: _, h, _ => by simp [chkOs] at h
  | _ :: _, [], h, _ => by simp [chkOs] at h

theorem pw_append {w : World} {X : Nat → Prop} {β : Blk} {σ : Sto} {cs ds : List AV} {xs ys : List Value} (h1 : xs.length = cs.length) (h2 : ys.length = ds.length)
    (hx : ∀ i, i < cs.length → RV w X β σ (cs.getD i .any) (xs.getD i undef)) (hy : ∀ i, i < ds.length → RV w X β σ (ds.getD i .any) (ys.getD i undef)) :
    (xs ++ ys).length = (cs ++ ds).length ∧ ∀ i, i < (cs ++ ds).length → RV w X β σ ((cs ++ ds).getD i .any) ((xs ++ ys).getD i undef) := by
  refine ⟨by simp [h1, h2], fun i hi => ?_⟩
  rw [getD_append cs ds, getD_append xs ys, h1]
  split
  · exact hx i ‹_›
  · exact hy _ (by simp at hi; omega)

/-- A call of a function value that is known: the arguments as values. -/
theorem call_run {X : Nat → Prop} {env : Env} {σ : Sto} {β : Blk} {a : Act} {w : World} {o : Oper} {f : O} {as : List O} {n : Nat} {first cap : List AV} (hst : Stt N n0 X env σ β a w) (hc : chkI P o.op (.call f as) = true)
    (hcnd : ∀ x ∈ f :: as, cnd (ov env x) = true) (hf : strp (ov env f) = .fn (.func n) first cap) (hent : ∀ as w, (callFunc n as).run P w = .ok (.enter n as) w) :
    ∃ xs : List Value, xs.length = (first ++ ocalls as env ++ cap).length ∧
      (∀ i, i < (first ++ ocalls as env ++ cap).length → RV w (Xt X β σ) β σ ((first ++ ocalls as env ++ cap).getD i .any) (xs.getD i undef)) ∧
      (execOp a.eval o).run P w = .ok (.enter n xs.toArray) w := by
  cases hop : o.op <;> rw [hop] at hc <;> try (simp [chkI] at hc; done)
  rename_i cc
  obtain ⟨cal, args, ts⟩ := cc
  cases cal <;> try (simp [chkI] at hc; done)
  · rename_i g
    simp only [chkI, Bool.and_eq_true] at hc
    have hg := strp_rel (ov_rel hst hc.1) (hcnd f (by simp))
    rw [hf] at hg
    obtain ⟨h1, h2⟩ := ocalls_rel hst args.toList as hc.2 fun o ho => hcnd o (by simp [ho])
    generalize hqg : a.eval g = qg at hg
    cases hg with
    | fn _ _ _ xs ys hn hm hx hy =>
      have hxl : xs.toList.length = first.length := by simpa using hn
      have hyl : ys.toList.length = cap.length := by simpa using hm
      obtain ⟨g1, g2⟩ := pw_append hxl h1 (fun i hi => by simpa [Array.getD_eq_getD_getElem?, List.getD_eq_getElem?_getD] using hx i hi) h2
      obtain ⟨g3, g4⟩ := pw_append g1 hyl g2 (fun i hi => by simpa [Array.getD_eq_getD_getElem?, List.getD_eq_getElem?_getD] using hy i hi)
      refine ⟨xs.toList ++ args.toList.map a.eval ++ ys.toList, g3, g4, ?_⟩
      · unfold execOp; rw [hop]
        have e1 : xs ++ args.map a.eval ++ ys = (xs.toList ++ args.toList.map a.eval ++ ys.toList).toArray := by apply Array.ext'; simp
        simp only [resolve, Deferred.ofValue, hqg, invoke, Sem.run_bind, Sem.run_pure, Result.andThen_ok]
        rw [e1]
        exact hent _ _

theorem pick_run {X : Nat → Prop} {env : Env} {σ : Sto} {β : Blk} {a : Act} {w : World} {o : Oper} {x y z : O} {c b : Bool} {S : Prop} (hst : Stt N n0 X env σ β a w) (hci : chkI P o.op (.pick x y z) = true)
    (hp : pickV c env x y z = some (S, b)) (hS : S) (hc : c = true) : (execOp a.eval o).run P w = .ok (.value (.bool b)) w := by
  cases hop : o.op <;> rw [hop] at hci <;> try (simp [chkI] at hci; done)
  rename_i ax ay az
  simp only [chkI, Bool.and_eq_true] at hci
  unfold pickV at hp
  have hcnd : ∀ {q : O} {aq : Operand} {b : Bool}, chkO aq q = true → strp (ov env q) = .v (.bool b) → cnd (ov env q) = true → a.eval aq = .bool b := by
    intro q aq b h1 h2 h3
    have h := strp_rel (ov_rel hst h1) h3
    rw [h2] at h; exact h.inv_v
  have hgo : ∀ p, a.eval ax = .bool p → (p = true → a.eval ay = .bool b) → (p = false → a.eval az = .bool b) → (execOp a.eval o).run P w = .ok (.value (.bool b)) w := by
    intro p h1 h2 h3
    unfold execOp; rw [hop]
    simp only [h1, asBool, pure_bind]
    cases p with
    | true => simp [h2 rfl]
    | false => simp [h3 rfl]
  split at hp
  case h_2 => cases hp
  rename_i p hx
  split at hp
  · rename_i q s hy hz
    simp only [Option.some.injEq, Prod.mk.injEq] at hp
    obtain ⟨rfl, rfl⟩ := hp
    refine hgo p (hcnd hci.1.1 hx (hS.1 hc)) (fun hp => ?_) fun hp => ?_
    · subst hp; exact hcnd hci.1.2 hy (hS.2.1 hc rfl)
    · subst hp; exact hcnd hci.2 hz (hS.2.2 hc rfl)
  · rename_i q hy _
    simp only [Option.some.injEq, Prod.mk.injEq] at hp
    obtain ⟨rfl, rfl⟩ := hp
    exact hgo p (hcnd hci.1.1 hx (hS.1 hc)) (fun hp => hcnd hci.1.2 hy (hS.2.2 hc)) fun hp => by rw [hS.2.1 hc] at hp; cases hp
  · rename_i s hz _
    simp only [Option.some.injEq, Prod.mk.injEq] at hp
    obtain ⟨rfl, rfl⟩ := hp
    exact hgo p (hcnd hci.1.1 hx (hS.1 hc)) (fun hp => by rw [hS.2.1 hc] at hp; cases hp) fun hp => hcnd hci.2 hz (hS.2.2 hc)
  · cases hp

theorem roundIn_fnc {l : Nat} {f : FuncId} {tmps : Array Value} {as body : Code} {w : World} {R : Ending → World → Prop} (h : RoundIn Fence.wide 0 P l f tmps as body w R) : RoundIn (fnc rd) (0 - 1) P l f tmps as body w R := by
  cases rd with
  | none => exact h
  | some l => exact h

/-- A call of yield. -/
theorem yield_run {X : Nat → Prop} {env : Env} {σ : Sto} {β : Blk} {a : Act} {w : World} {o : Oper} {f : O} {as : List O} {y : Nat} (hst : Stt N n0 X env σ β a w) (hc : chkI P o.op (.call f as) = true)
    (hcnd : ∀ x ∈ f :: as, cnd (ov env x) = true) (hf : strp (ov env f) = .yld y) :
    ∃ xs : List Value, xs.length = (ocalls as env).length ∧
      (∀ i, i < (ocalls as env).length → RV w (Xt X β σ) β σ ((ocalls as env).getD i .any) (xs.getD i undef)) ∧ True ∧
      ∀ ob l, σ.at y 0 = some ob → ob.es.length = 0 → β y 0 = some l → (execOp a.eval o).run P w = (Instr.yield l xs.toArray).run P w := by
  cases hop : o.op <;> rw [hop] at hc <;> try (simp [chkI] at hc; done)
  rename_i cc
  obtain ⟨cal, args, ts⟩ := cc
  cases cal <;> try (simp [chkI] at hc; done)
  · rename_i g
    simp only [chkI, Bool.and_eq_true] at hc
    have hg := strp_rel (ov_rel hst hc.1) (hcnd f (by simp))
    rw [hf] at hg
    obtain ⟨h1, h2⟩ := ocalls_rel hst args.toList as hc.2 fun o ho => hcnd o (by simp [ho])
    refine ⟨args.toList.map a.eval, h1, h2, trivial, fun ob l hat hes hb => ?_⟩
    generalize hqg : a.eval g = qg at hg
    cases hg with
    | yld _ _ _ _ h =>
      obtain ⟨l', hl', rfl⟩ := h ob hat hes
      rw [hb] at hl'; injection hl' with hl'; subst hl'
      unfold execOp; rw [hop]
      have e1 : #[] ++ args.map a.eval = (args.toList.map a.eval).toArray := by apply Array.ext'; simp
      simp only [resolve, Deferred.ofValue, hqg, invoke, Sem.run_bind, Sem.run_pure, Result.andThen_ok]
      rw [e1]

theorem owp_of_exs : ∀ {l : List J} {live : List Nat} {env : Env} {σ : Sto}, exs P N rd l live K env σ → OWP P N rd l live K env σ
  | [], live, env, σ, h => by
    intro ops is hchk n0 X β a w hst
    cases is with
    | cons i is => simp [chkL] at hchk
    | nil => exact ⟨env, σ, β, h, hst, Ext.refl _ _ _, Kp.refl⟩
  | ⟨d, i, g⟩ :: r, live, env, σ, h => by
    intro ops is hchk n0 X β a w hst
    cases is with
    | nil => simp [chkL] at hchk
    | cons ix is =>
    simp only [chkL, Bool.and_eq_true] at hchk
    obtain ⟨hj, hcl⟩ := hchk
    cases ho : ops[ix]? with
    | none => rw [ho] at hj; simp at hj
    | some o =>
    rw [ho] at hj
    simp only at hj
    obtain ⟨hd, hlt, hci⟩ := chkJ_parts hj
    simp only [exs] at h
    cases hg : grd env g with
    | none => rw [hg] at h; exact h.elim
    | some p =>
    obtain ⟨c, wr⟩ := p
    rw [hg] at h
    simp only at h hd hci
    have hwr := (wanted_eq hst hj hg).2.1
    by_cases hpl : i.plain = true
    · -- a plain operation
      have h' : match ex i (fun o => strp (ov env o)) σ with
          | some (S, v, σ') => sideL c env i.os ∧ (c = true → S) ∧ exs P N rd r live K (st d (wrap wr c v) env) σ'
          | none => c = false ∧ wr = true ∧ exs P N rd r live K (st d (wrap wr c .any) env) σ := by
        cases i <;> first | exact h | simp [I.plain] at hpl
      cases hex : ex i (fun o => strp (ov env o)) σ with
      | none =>
        rw [hex] at h'
        obtain ⟨h1, h2, h3⟩ := h'
        exact ops_cons hst ho hj hg hcl (fun hc => by rw [h1] at hc; cases hc) fun hc hw => ⟨.any, owp_of_exs h3⟩
      | some q =>
      obtain ⟨S, v, σ'⟩ := q
      rw [hex] at h'
      obtain ⟨hside, hS, hrest⟩ := h'
      have hrec := owp_of_exs hrest
      refine ops_cons hst ho hj hg hcl (fun hc => ?_) fun hc hw => ?_
      · refine ⟨fun v' s => v' = v ∧ s = σ', fun v' s ⟨e1, e2⟩ => ?_, ?_⟩
        · rw [e1, e2]; exact hrec
        · exact wp_done (N := N) hci hd (step_plain hst hci (sideL_mem hside hc) hex (hS hc))
      · have hcalm := (wanted_eq hst hj hg).2.2 hw
        have := ex_calm hcalm.1 hex
        subst this
        exact ⟨v, hrec⟩
    · cases i <;> try (simp [I.plain] at hpl; done)
      · -- a pick
        rename_i x y z
        simp only at h
        cases hpk : pickV c env x y z with
        | none => rw [hpk] at h; exact h.elim
        | some q =>
        obtain ⟨S, b⟩ := q
        rw [hpk] at h
        obtain ⟨hS, hrest⟩ := h
        have hrec := owp_of_exs hrest
        refine ops_cons hst ho hj hg hcl (fun hc => ?_) fun hc hw => ⟨_, hrec⟩
        refine ⟨fun v' s' => v' = .v (.bool b) ∧ s' = σ, fun v' s' ⟨e1, e2⟩ => by rw [e1, e2]; exact hrec, ?_⟩
        exact wp_done (N := N) hci hd (done_pure hst.sr (pick_run hst hci hpk hS hc) (.v _))
      · -- a call
        rename_i f as
        simp only at h
        obtain ⟨hside, h⟩ := h
        rcases h with ⟨n, first, cap, res, hf, hp, hrest⟩ | ⟨n, first, cap, R, hf, hdo, hskip⟩ | ⟨y, R, hf, hdo, hskip⟩
        · refine ops_cons hst ho hj hg hcl (fun hc => ?_) fun hc hw => ⟨res, hrest⟩
          obtain ⟨hpure, hent, hcall⟩ := hp hc
          obtain ⟨xs, hxl, hxr, hrun⟩ := call_run hst hci (sideL_mem hside hc) hf hent
          refine ⟨fun v' s' => v' = res ∧ s' = σ, fun v' s' ⟨e1, e2⟩ => ?_, ?_⟩
          · rw [e1, e2]; exact hrest
          · refine ⟨fun f _ => fnc_fn f, ?_⟩
            rw [Oper.semAt_eq _ _ _ (no_defer hci), hrun]
            refine ⟨(fun hds => (by rw [fnc_depth] at hds; cases hds)), ?_⟩
            have hcc := hcall (Xt X β σ) w xs (fun b hb => Xt_lt hst.sr hst.bd hb) hxl fun i hi => hpure _ (getD_mem hi) _ _ _ _ _ (hxr i hi)
            refine (callsIn_fnc hcc).mono ?_
            rintro e w' ⟨x, rfl, hr, hsz, hold, hio⟩
            exact ⟨x, res, σ, β, by rw [hd], ⟨rfl, rfl⟩, hst.sr.same hsz hold, hr.out, Ext.same hsz hold hio, Kp.same hsz hold hst.sr⟩
        · refine ops_cons hst ho hj hg hcl (fun hc => ?_) fun hc hw => ⟨.any, by subst hc; subst hw; exact hskip rfl⟩
          subst hc
          obtain ⟨⟨hent, hcall⟩, hrest⟩ := hdo rfl
          obtain ⟨xs, hxl, hxr, hrun⟩ := call_run hst hci (sideL_mem hside rfl) hf hent
          refine ⟨R, fun v' s' hR => hrest v' s' hR, ?_⟩
          refine ⟨fun f _ => fnc_fn f, ?_⟩
          rw [Oper.semAt_eq _ _ _ (no_defer hci), hrun]
          refine ⟨(fun hds => (by rw [fnc_depth] at hds; cases hds)), ?_⟩
          have hcc := hcall X β w xs hst.bd hst.sr hxl hxr
          refine (callsIn_fnc hcc).mono ?_
          rintro e w' ⟨x, r', σ', β', rfl, hR, hs', hr, he, hk⟩
          exact ⟨x, r', σ', β', by rw [hd], hR, hs', hr, he, hk⟩
        · refine ops_cons hst ho hj hg hcl (fun hc => ?_) fun hc hw => ⟨.any, by subst hc; subst hw; exact hskip rfl⟩
          subst hc
          obtain ⟨hcall, hrest⟩ := hdo rfl
          obtain ⟨xs, hxl, hxr, hv, hrun⟩ := yield_run hst hci (sideL_mem hside rfl) hf
          obtain ⟨ob, l, q, hat, hes, hbl, hq, hps, hround⟩ := hcall X β w xs hst.bd hst.sr hxl hxr
          refine ⟨fun v' s' => ∃ b, v' = .v (.bool b) ∧ R b s', fun v' s' ⟨b, e1, hR⟩ => by rw [e1]; exact hrest b s' hR, ?_⟩
          refine ⟨fun f _ => fnc_fn f, ?_⟩
          rw [Oper.semAt_eq _ _ _ (no_defer hci), hrun ob l hat hes hbl, run_yield hq (by simpa [hps] using hxl)]
          refine ⟨(fun hds => (by rw [fnc_depth] at hds; cases hds)), ?_⟩
          refine (roundIn_fnc hround).mono ?_
          rintro e w' ⟨b, σ', β', rfl, hR, hs', he, hk⟩
          exact ⟨.bool b, .v (.bool b), σ', β', by rw [hd], ⟨b, rfl, hR⟩, hs', .v _, he, hk⟩

end
end Go.Abs
