/- Part 9 of the texts that the claim rests on: abstract values over the walk, and contracts of functions. -/
import Derived.Test.YtahkhnagpdlkiaaGreatBe8
import Derived.Test.YtahkhnagpdlkiaaGreatRows
namespace Go.Proofs.YtahkhnagpdlkiaaGreat
open Go.Abs
open Nat (reduceAdd reduceSub reduceLT reduceLeDiff reduceMul reduceEqDiff)
set_option linter.unusedVariables false
set_option linter.unusedSimpArgs false
set_option maxHeartbeats 4000000
set_option maxRecDepth 100000
def c123 : CF := ⟨41,
 (.seq (.ops [
 ⟨some 2,.mv (.c (.map none)),none⟩] [0])
 (.seq (.ops [
 ⟨some 8,.mkmp 2,none⟩,
 ⟨some 3,.mv (.t 8),none⟩] [0,3])
 (.seq (.seq (.ops [
 ⟨some 9,.mv (.t 0),none⟩,
 ⟨some 10,.len (.t 9),none⟩,
 ⟨some 11,.mv (.c (.int .i64 0)),none⟩] [3,9,10,11])
 (.block 0 (.loop (.seq (.ops [
 ⟨some 12,.bin .lss (.t 11) (.t 10),none⟩] [3,9,10,11,12])
 (.seq (.cond (.t 12) .skip
 (.exit 0))
 (.seq (.block 1 (.seq (.ops [
 ⟨some 13,.mv (.t 11),none⟩,
 ⟨some 14,.iaddr 2 (.t 9) (.t 11),none⟩,
 ⟨some 15,.load (some 2) (.t 14),none⟩,
 ⟨some 5,.alloc 80 2 [.slice none 0 0,.slice none 0 0],none⟩,
 ⟨some 4,.mv (.t 13),none⟩,
 ⟨none,.store 2 (.t 5) (.t 15),none⟩] [3,4,5,9,10,11])
 (.seq (.ops [
 ⟨some 16,.faddr 1 (.t 5),none⟩,
 ⟨some 17,.load none (.t 16),none⟩,
 ⟨some 18,.len (.t 17),none⟩,
 ⟨some 19,.mv (.c (.int .i64 0)),none⟩] [3,4,9,10,11,17,18,19])
 (.block 2 (.loop (.seq (.ops [
 ⟨some 20,.bin .lss (.t 19) (.t 18),none⟩] [3,4,9,10,11,17,18,19,20])
 (.seq (.cond (.t 20) .skip
 (.exit 2))
 (.seq (.block 3 (.seq (.ops [
 ⟨some 21,.iaddr 3 (.t 17) (.t 19),none⟩,
 ⟨some 22,.load (some 3) (.t 21),none⟩,
 ⟨some 7,.alloc 124 3 [.int .i64 0,.int .i64 0,.int .i64 0],none⟩,
 ⟨none,.store 3 (.t 7) (.t 22),none⟩] [3,4,7,9,10,11,17,18,19])
 (.draww [0,1,2,3,4,5,6,7,8,9,10,11,12,13,14,15] [0,1,2,3,4] 1 [
 ⟨some 23,.mv (.t 3),none⟩,
 ⟨some 24,.mv (.t 4),none⟩,
 ⟨some 25,.faddr 0 (.t 7),none⟩,
 ⟨some 26,.load none (.t 25),none⟩,
 ⟨some 27,.build [.int .i64 0,.int .i64 0] [(0,1,(.t 24)),(1,1,(.t 26))],none⟩,
 ⟨some 28,.mv (.t 3),none⟩,
 ⟨some 29,.mv (.t 4),none⟩,
 ⟨some 30,.faddr 0 (.t 7),none⟩,
 ⟨some 31,.load none (.t 30),none⟩,
 ⟨some 32,.build [.int .i64 0,.int .i64 0] [(0,1,(.t 29)),(1,1,(.t 31))],none⟩,
 ⟨some 33,.look 2 false [.slice none 0 0] false (.t 28) (.t 32),none⟩,
 ⟨some 34,.faddr 1 (.t 7),none⟩,
 ⟨some 35,.load (some 2) (.t 34),none⟩,
 ⟨some 36,.bsl false 30 2 1 [.int .i64 0,.int .i64 0] [(0,2,(.t 35))],none⟩] [
 ⟨some 37,.app 30 2 16 (.t 33) (.t 36),none⟩,
 ⟨none,.mput 2 (.t 23) (.t 27) (.t 37),none⟩] [3,4,9,10,11,17,18,19])))
 (.ops [
 ⟨some 38,.bin .add (.t 19) (.c (.int .i64 1)),none⟩,
 ⟨some 19,.mv (.t 38),none⟩] [3,4,9,10,11,17,18,19])))))))))
 (.ops [
 ⟨some 39,.bin .add (.t 11) (.c (.int .i64 1)),none⟩,
 ⟨some 11,.mv (.t 39),none⟩] [3,9,10,11])))))))
 (.seq (.ops [
 ⟨some 40,.mv (.t 3),none⟩,
 ⟨some 2,.mv (.t 40),none⟩] [2])
 .ret)))),
 [.t 2]⟩
def c121 : CF := ⟨26,
 (.seq (.ops [
 ⟨some 3,.box false 26 2 (.t 1),none⟩,
 ⟨some 4,.mv (.c (.bool false)),none⟩] [0,3])
 (.seq (.draw [
 ⟨some 5,.faddr 0 (.t 3),none⟩,
 ⟨some 6,.load none (.t 5),none⟩,
 ⟨some 7,.bin .geq (.t 6) (.c (.int .i64 0)),none⟩,
 ⟨some 8,.mv (.t 7),none⟩,
 ⟨some 9,.faddr 0 (.t 3),some (8,true)⟩,
 ⟨some 10,.load none (.t 9),some (8,true)⟩,
 ⟨some 11,.mv (.t 0),some (8,true)⟩,
 ⟨some 12,.len (.t 11),some (8,true)⟩,
 ⟨some 13,.bin .lss (.t 10) (.t 12),some (8,true)⟩,
 ⟨some 14,.pick (.t 8) (.t 13) (.c (.bool false)),none⟩,
 ⟨some 15,.mv (.t 14),none⟩,
 ⟨some 16,.mv (.t 0),some (15,true)⟩,
 ⟨some 17,.faddr 0 (.t 3),some (15,true)⟩,
 ⟨some 18,.load none (.t 17),some (15,true)⟩,
 ⟨some 19,.iaddr 2 (.t 16) (.t 18),some (15,true)⟩,
 ⟨some 20,.faddr 0 (.t 19),some (15,true)⟩,
 ⟨some 21,.load none (.t 20),some (15,true)⟩,
 ⟨some 22,.faddr 1 (.t 3),some (15,true)⟩,
 ⟨some 23,.load none (.t 22),some (15,true)⟩,
 ⟨some 24,.call (.f 122) [(.t 21),(.t 23)],some (15,true)⟩,
 ⟨some 25,.pick (.t 15) (.t 24) (.c (.bool false)),none⟩,
 ⟨some 4,.mv (.t 25),none⟩] [
 ] [4])
 .ret)),
 [.t 4]⟩
def c61 : CF := ⟨67,
 (.seq (.ops [
 ⟨some 2,.box false 24 1 (.t 0),none⟩,
 ⟨some 4,.mv (.c (.int .i64 0)),none⟩] [1,2])
 (.seq (.seq (.ops [
 ⟨some 8,.load (some 1) (.t 2),none⟩,
 ⟨some 9,.call (.f 53) [(.t 8)],none⟩,
 ⟨some 5,.mv (.t 9),none⟩] [1,2,5])
 (.seq (.ops [
 ⟨some 10,.mv (.t 5),none⟩,
 ⟨some 11,.bin .neq (.t 10) (.c (.int .i64 0)),none⟩] [1,2,5,11])
 (.cond (.t 11) (.seq (.ops [
 ⟨some 12,.mv (.t 5),none⟩,
 ⟨some 4,.mv (.t 12),none⟩] [4])
 .ret)
 .skip)))
 (.seq (.seq (.ops [
 ⟨some 13,.mv (.t 1),none⟩,
 ⟨some 14,.len (.t 13),none⟩,
 ⟨some 15,.faddr 0 (.t 2),none⟩,
 ⟨some 16,.load none (.t 15),none⟩,
 ⟨some 17,.len (.t 16),none⟩,
 ⟨some 18,.bin .neq (.t 14) (.t 17),none⟩] [1,2,18])
 (.cond (.t 18) (.seq (.ops [
 ⟨some 4,.mv (.c (.int .i64 41)),none⟩] [4])
 .ret)
 .skip))
 (.seq (.seq (.ops [
 ⟨some 19,.mv (.t 1),none⟩,
 ⟨some 20,.len (.t 19),none⟩,
 ⟨some 21,.mv (.c (.int .i64 0)),none⟩] [1,2,19,20,21])
 (.block 0 (.loop (.seq (.ops [
 ⟨some 22,.bin .lss (.t 21) (.t 20),none⟩] [1,2,19,20,21,22])
 (.seq (.cond (.t 22) .skip
 (.exit 0))
 (.seq (.block 1 (.seq (.ops [
 ⟨some 23,.mv (.t 21),none⟩,
 ⟨some 24,.iaddr 2 (.t 19) (.t 21),none⟩,
 ⟨some 25,.load (some 2) (.t 24),none⟩,
 ⟨some 7,.alloc 26 2 [.int .i64 0,.int .i64 0],none⟩,
 ⟨some 6,.mv (.t 23),none⟩,
 ⟨none,.store 2 (.t 7) (.t 25),none⟩] [1,2,6,7,19,20,21])
 (.seq (.seq (.draw [
 ⟨some 26,.faddr 0 (.t 2),none⟩,
 ⟨some 27,.load none (.t 26),none⟩,
 ⟨some 28,.mv (.t 6),none⟩,
 ⟨some 29,.iaddr 1 (.t 27) (.t 28),none⟩,
 ⟨some 30,.load none (.t 29),none⟩,
 ⟨some 31,.load (some 2) (.t 7),none⟩,
 ⟨some 32,.call (.f 121) [(.t 30),(.t 31)],none⟩,
 ⟨some 33,.un .not (.t 32),none⟩] [
 ] [1,2,6,7,19,20,21,33])
 (.cond (.t 33) (.seq (.ops [
 ⟨some 4,.mv (.c (.int .i64 41)),none⟩] [4])
 .ret)
 .skip))
 (.seq (.draw [
 ⟨some 34,.mv (.t 6),none⟩,
 ⟨some 35,.bin .gtr (.t 34) (.c (.int .i64 0)),none⟩,
 ⟨some 36,.mv (.t 35),none⟩,
 ⟨some 37,.faddr 0 (.t 2),some (36,true)⟩,
 ⟨some 38,.load none (.t 37),some (36,true)⟩,
 ⟨some 39,.mv (.t 6),some (36,true)⟩,
 ⟨some 40,.bin .sub (.t 39) (.c (.int .i64 1)),some (36,true)⟩,
 ⟨some 41,.iaddr 1 (.t 38) (.t 40),some (36,true)⟩,
 ⟨some 42,.load none (.t 41),some (36,true)⟩,
 ⟨some 43,.call (.f 123) [(.t 42)],some (36,true)⟩,
 ⟨some 44,.mv (.t 1),some (36,true)⟩,
 ⟨some 45,.mv (.t 6),some (36,true)⟩,
 ⟨some 46,.bin .sub (.t 45) (.c (.int .i64 1)),some (36,true)⟩,
 ⟨some 47,.iaddr 2 (.t 44) (.t 46),some (36,true)⟩,
 ⟨some 48,.faddr 0 (.t 47),some (36,true)⟩,
 ⟨some 49,.load none (.t 48),some (36,true)⟩,
 ⟨some 50,.faddr 0 (.t 7),some (36,true)⟩,
 ⟨some 51,.load none (.t 50),some (36,true)⟩,
 ⟨some 52,.build [.int .i64 0,.int .i64 0] [(0,1,(.t 49)),(1,1,(.t 51))],some (36,true)⟩,
 ⟨some 53,.look 2 false [.slice none 0 0] false (.t 43) (.t 52),some (36,true)⟩,
 ⟨some 54,.faddr 1 (.t 7),some (36,true)⟩,
 ⟨some 55,.load none (.t 54),some (36,true)⟩,
 ⟨some 56,.mv (.t 1),some (36,true)⟩,
 ⟨some 57,.mv (.t 6),some (36,true)⟩,
 ⟨some 58,.bin .sub (.t 57) (.c (.int .i64 1)),some (36,true)⟩,
 ⟨some 59,.iaddr 2 (.t 56) (.t 58),some (36,true)⟩,
 ⟨some 60,.faddr 1 (.t 59),some (36,true)⟩,
 ⟨some 61,.load none (.t 60),some (36,true)⟩,
 ⟨some 62,.bin .sub (.t 55) (.t 61),some (36,true)⟩,
 ⟨some 63,.call (.f 122) [(.t 53),(.t 62)],some (36,true)⟩,
 ⟨some 64,.un .not (.t 63),some (36,true)⟩,
 ⟨some 65,.pick (.t 36) (.t 64) (.c (.bool false)),none⟩] [
 ] [1,2,19,20,21,65])
 (.cond (.t 65) (.seq (.ops [
 ⟨some 4,.mv (.c (.int .i64 41)),none⟩] [4])
 .ret)
 .skip)))))
 (.ops [
 ⟨some 66,.bin .add (.t 21) (.c (.int .i64 1)),none⟩,
 ⟨some 21,.mv (.t 66),none⟩] [1,2,19,20,21])))))))
 (.seq (.ops [
 ⟨some 4,.mv (.c (.int .i64 0)),none⟩] [4])
 .ret))))),
 [.t 4]⟩
theorem k123 : chkF Tryz.prog Tryz.f123 c123 = true := by kernel_rfl
theorem k121 : chkF Tryz.prog Tryz.f121 c121 = true := by kernel_rfl
theorem k61 : chkF Tryz.prog Tryz.f61 c61 = true := by kernel_rfl
theorem Pure.arg {P : Program} {f : Nat} {args args' : List AV} {r : AV} (h : Pure P f args r) (hl : args'.length = args.length)
    (hw : ∀ i, i < args.length → ∀ w X β σ x, RV w X β σ (args'.getD i .any) x → RV w X β σ (args.getD i .any) x) : Pure P f args' r :=
  ⟨h.ent, fun X w xs hX hxl hr => h.go X w xs hX (by omega) fun i hi => hw i hi _ _ _ _ _ (hr i (by omega))⟩
structure Ent where
  k : List Int
  l : List Sp
  g : Nat
abbrev entA (T : List Ent) : List (List Int × AV) := T.map fun t => (t.k, AV.own t.g 0 t.l.length)
def addE : List Ent → List Int → Sp → Nat → List Ent
  | [], k, s, g => [⟨k, [s], g⟩]
  | t :: r, k, s, g => if t.k = k then ⟨t.k, t.l ++ [s], t.g⟩ :: r else t :: addE r k s g
def addK : List (List Int × List Sp) → List Int → Sp → List (List Int × List Sp)
  | [], k, s => [(k, [s])]
  | t :: r, k, s => if t.1 = k then (t.1, t.2 ++ [s]) :: r else t :: addK r k s
abbrev hkey (h : Hop) : List Int := [(h.fr : Int), (h.to : Int)]
def hopK (hs : List Hop) : List (List Int × List Sp) := hs.foldl (fun a h => addK a (hkey h) h.ch) []
abbrev strE (T : List Ent) : List (List Int × List Sp) := T.map fun t => (t.k, t.l)
theorem strE_add : ∀ (T : List Ent) (k : List Int) (s : Sp) (g : Nat), strE (addE T k s g) = addK (strE T) k s
  | [], _, _, _ => rfl
  | t :: r, k, s, g => by
    unfold addE
    simp only [strE, List.map_cons, addK]
    split
    · rfl
    · simp only [List.map_cons]; rw [← strE_add r k s g]
theorem hopK_next {hs : List Hop} {i : Nat} {h : Hop} (e : hs[i]? = some h) : hopK (hs.take (i + 1)) = addK (hopK (hs.take i)) (hkey h) h.ch := by
  rw [take_snoc e]; simp [hopK]
theorem addK_len {N : Nat} {k : List Int} {s : Sp} : ∀ {E : List (List Int × List Sp)}, (∀ e ∈ E, e.2.length ≤ N) → ∀ e ∈ addK E k s, e.2.length ≤ N + 1
  | [], _, e, he => by simp only [addK, List.mem_singleton] at he; subst he; simp
  | t :: r, h, e, he => by
    unfold addK at he
    split at he
    · rcases List.mem_cons.1 he with rfl | he
      · have := h t (by simp); simp; omega
      · have := h e (by simp [he]); omega
    · rcases List.mem_cons.1 he with rfl | he
      · have := h e (by simp); omega
      · exact addK_len (fun x hx => h x (by simp [hx])) e he
theorem hopK_len {hs : List Hop} (i : Nat) (hi : i ≤ hs.length) : ∀ e ∈ hopK (hs.take i), e.2.length ≤ i := by
  induction i with
  | zero => simp [hopK]
  | succ i ih =>
    rw [hopK_next (List.getElem?_eq_getElem (by omega))]
    exact addK_len (ih (by omega))
theorem hops_len {m : Nat} : ∀ {l : List Nod} {i : Nat}, (∀ x ∈ l, nodOk m x) → (hopsF i l).length ≤ 64 * l.length
  | [], _, _ => by simp [hopsF]
  | x :: r, i, h => by
    have h1 := (h x (by simp)).2.1
    have h2 := hops_len (i := i + 1) (fun y hy => h y (by simp [hy]) : ∀ y ∈ r, nodOk m y)
    simp only [hopsF, List.length_append, hopsOf, List.length_map, List.length_cons]; omega
structure HopS (σ : Sto) (T : List Ent) : Prop where
  a : σ.at 0 0 = some ⟨0, 0, [], some (.mp 2 (entA T))⟩
  o : ∀ t ∈ T, σ.at t.g 0 = some (spO t.l)
  inj : T.Pairwise fun a b => a.g ≠ b.g
theorem ent_none {T : List Ent} {k : List Int} {s : Sp} {g : Nat} (h : ∀ t ∈ T, t.k ≠ k) : mget (entA T) k = none ∧ mset (entA T) k (.own g 0 1) = entA (addE T k s g) ∧ addE T k s g = T ++ [⟨k, [s], g⟩] := by
  induction T with
  | nil => exact ⟨rfl, rfl, rfl⟩
  | cons t r ih =>
    obtain ⟨h1, h2, h3⟩ := ih fun t ht => h t (by simp [ht])
    have hk : ¬ t.k = k := h t (by simp)
    simp only [entA, List.map_cons, mget, hk, if_false, mset, addE, List.cons_append, h3] at h1 h2 ⊢
    exact ⟨h1, by rw [h2], trivial⟩
theorem ent_some {T : List Ent} {k : List Int} {s : Sp} {g : Nat} (h : ¬ ∀ t ∈ T, t.k ≠ k) : ∃ A t B, T = A ++ t :: B ∧ t.k = k ∧ mget (entA T) k = some (.own t.g 0 t.l.length) ∧ mset (entA T) k (.own t.g 0 (t.l.length + 1)) = entA (addE T k s g) ∧
    addE T k s g = A ++ ⟨t.k, t.l ++ [s], t.g⟩ :: B := by
  induction T with
  | nil => exact absurd (by simp) h
  | cons t r ih =>
    by_cases hk : t.k = k
    · subst hk
      exact ⟨[], t, r, rfl, rfl, by simp [mget], by simp [mset, addE], by simp [addE]⟩
    · obtain ⟨A, u, B, rfl, h1, h2, h3, h4⟩ := ih fun h' => h fun t' ht => by
        rcases List.mem_cons.1 ht with rfl | ht
        · exact hk
        · exact h' t' ht
      refine ⟨t :: A, u, B, rfl, h1, ?_, ?_, ?_⟩
      · simp only [entA, List.map_cons, mget, hk, if_false]; exact h2
      · simp only [entA, List.map_cons, mset, hk, if_false, addE]; rw [h3]
      · simp only [addE, hk, if_false, h4, List.cons_append]
theorem HopS.app {σ : Sto} {T : List Ent} (h : HopS σ T) (ν : Sto) : HopS (σ ++ ν) T :=
  ⟨by rw [at_appL (at_lt h.a)]; exact h.a, fun t ht => by rw [at_appL (at_lt (h.o t ht))]; exact h.o t ht, h.inj⟩
theorem HopS.lt {σ : Sto} {T : List Ent} (h : HopS σ T) {t : Ent} (ht : t ∈ T) : t.g < σ.length ∧ t.g ≠ 0 := by
  refine ⟨at_lt (h.o t ht), fun e => ?_⟩
  have h1 := h.o t ht
  rw [e, h.a] at h1
  injection h1 with h1
  have := congrArg Ob.T h1
  cases this
theorem HopS.new {σ : Sto} {T : List Ent} {k : List Int} {s : Sp} (h : HopS σ T) (hk : ∀ t ∈ T, t.k ≠ k) :
    HopS (Sto.upd (σ ++ [some [spO [s]]]) 0 0 ⟨0, 0, [], some (.mp 2 (entA (addE T k s σ.length)))⟩) (addE T k s σ.length) := by
  have h0 := at_lt h.a
  obtain ⟨_, _, h3⟩ := ent_none (s := s) (g := σ.length) hk
  refine ⟨at_upd_same (h.app _).a, fun t ht => ?_, ?_⟩
  · rw [h3, List.mem_append, List.mem_singleton] at ht
    rcases ht with ht | rfl
    · rw [at_upd_other (.inl (h.lt ht).2.symm), at_appL (h.lt ht).1]; exact h.o t ht
    · rw [at_upd_other (.inl (by simp only; omega))]; simp only; rw [at_app0]; simp [Sto.at]
  · rw [h3, List.pairwise_append]
    refine ⟨h.inj, by simp, fun a ha b hb => ?_⟩
    rw [List.mem_singleton] at hb; subst hb
    have := (h.lt ha).1
    simp only; omega
theorem HopS.old {σ : Sto} {A B : List Ent} {t : Ent} {s : Sp} {M : List (List Int × AV)} (h : HopS σ (A ++ t :: B)) (hM : M = entA (A ++ ⟨t.k, t.l ++ [s], t.g⟩ :: B)) :
    HopS (Sto.upd (σ.upd t.g 0 (spO (t.l ++ [s]))) 0 0 ⟨0, 0, [], some (.mp 2 M)⟩) (A ++ ⟨t.k, t.l ++ [s], t.g⟩ :: B) := by
  subst hM
  have ht := h.lt (t := t) (by simp)
  have hp := h.inj
  rw [List.pairwise_append, List.pairwise_cons] at hp
  obtain ⟨p1, ⟨p2, p3⟩, p4⟩ := hp
  have key : ∀ u, (u ∈ A ∨ u ∈ B) → Sto.at (Sto.upd (σ.upd t.g 0 (spO (t.l ++ [s]))) 0 0 ⟨0, 0, [], some (.mp 2 (entA (A ++ ⟨t.k, t.l ++ [s], t.g⟩ :: B)))⟩) u.g 0 = some (spO u.l) := by
    intro u hu
    have hm : u ∈ A ++ t :: B := by rcases hu with hu | hu <;> simp [hu]
    have hne : t.g ≠ u.g := by
      rcases hu with hu | hu
      · exact (p4 u hu t (by simp)).symm
      · exact p2 u hu
    rw [at_upd_other (.inl (h.lt hm).2.symm), at_upd_other (.inl hne)]
    exact h.o u hm
  refine ⟨at_upd_same (o := ⟨0, 0, [], some (.mp 2 (entA (A ++ t :: B)))⟩) (by rw [at_upd_other (.inl ht.2)]; exact h.a), fun u hu => ?_, ?_⟩
  · rw [List.mem_append, List.mem_cons] at hu
    rcases hu with hu | rfl | hu
    · exact key u (.inl hu)
    · simp only
      rw [at_upd_other (.inl ht.2.symm)]
      exact at_upd_same (h.o t (by simp))
    · exact key u (.inr hu)
  · rw [List.pairwise_append, List.pairwise_cons]
    refine ⟨p1, ⟨p2, p3⟩, fun a ha b hb => ?_⟩
    rcases List.mem_cons.1 hb with rfl | hb
    · exact p4 a ha t (by simp)
    · exact p4 a ha b (by simp [hb])
abbrev mapS (E : List (List Int × List Sp)) : AV := .imap 2 (E.map fun e => (e.1, spS e.2))
theorem hops_spec (m : Nat) (l : List Nod) (hl : stgOk m l) : Pure Tryz.prog 123 [stS l] (mapS (hopK (hops l))) := by
  refine Pure.of_body Tryz.call123 Tryz.func123 k123 (Nat.le_of_ble_eq_true rfl) ?_
  unfold c123
  obtain ⟨v1, v2, v3⟩ := hl
  (repeat' ((first
 | refine vn rfl ?_
 | simp (disch := omega) only [wr64, Int.zero_sub]
 | refine AWPC.both (fun _ => ?_) (fun _ => ?_)
 | refine AWPC.imp (fun _ => ?_)
 | refine cF ?_
 | refine om ?_
 | refine an ?_
 | fail) <;> try simp only [zT, zV, zS, zU, vcC, kscp, lateX, ex, strp, cnd, binA, kseq, kblk, kret, klp, Abs.one, elems, cells, scalar, eqC, keyA, intsA, lookA, ofVs, mpOf, Nat.reduceBEq, reduceAdd, reduceSub, reduceLT, reduceLeDiff, reduceMul, reduceEqDiff, reduceIte]))
  have h00 : HopS [some [⟨0, 0, [], some (.mp 2 [])⟩]] [] := ⟨rfl, by simp, List.Pairwise.nil⟩
  refine AWPC.loopE (α := { x : Nat × Nat × List Ent × Sto // x.1 ≤ l.length ∧ (hops l).drop x.2.1 = hopsF x.1 (l.drop x.1) ∧ x.2.1 ≤ (hops l).length ∧ HopS x.2.2.2 x.2.2.1 ∧ strE x.2.2.1 = hopK ((hops l).take x.2.1) }) [11] (fun x => [(11, n x.1.1)]) (fun x => x.1.2.2.2) (fun x => l.length - x.1.1)
    ⟨(0, 0, [], _), by simp, by simp, by simp, h00, rfl⟩ ?_ ?_ ?_
  · (simp only [zT, zV, zS, zU, vcC, kscp, lateX, ex, strp, cnd, binA, kseq, kblk, kret, klp, Abs.one, elems, cells, scalar, eqC, keyA, intsA, lookA, ofVs, mpOf, Nat.reduceBEq, reduceAdd, reduceSub, reduceLT, reduceLeDiff, reduceMul, reduceEqDiff, reduceIte]; try simp)
  · rfl
  rintro ⟨⟨i, m', T, τ⟩, hi, hd, hm, hS, hT⟩
  simp only at hi hd hm hS hT
  by_cases hlt : i < l.length
  · obtain ⟨x, hx⟩ : ∃ x, l[i]? = some x := ⟨_, List.getElem?_eq_getElem hlt⟩
    obtain ⟨w1, w2, w3⟩ := v3 x (List.mem_of_getElem? hx)
    have hdi : (hops l).drop m' = hopsOf i x ++ hopsF (i + 1) (l.drop (i + 1)) := by rw [hd, drop_cons hx]; rfl
    (repeat' ((first
 | refine vn rfl ?_
 | simp (disch := omega) only [wr64, Int.zero_sub]
 | refine AWPC.both (fun _ => ?_) (fun _ => ?_)
 | refine AWPC.imp (fun _ => ?_)
 | refine cF ?_
 | refine om ?_
 | refine an ?_
 | fail) <;> try simp only [zT, zV, zS, zU, vcC, kscp, lateX, ex, strp, cnd, binA, kseq, kblk, kret, klp, Abs.one, elems, cells, scalar, eqC, keyA, intsA, lookA, ofVs, mpOf, Nat.reduceBEq, reduceAdd, reduceSub, reduceLT, reduceLeDiff, reduceMul, reduceEqDiff, reduceIte, getD_map hx]))
    all_goals try (exfalso; omega)
    refine AWPC.loopE (α := { x' : Nat × Nat × List Ent × Sto // x'.1 ≤ x.nx.length ∧ (hops l).drop x'.2.1 = (hopsOf i x).drop x'.1 ++ hopsF (i + 1) (l.drop (i + 1)) ∧ x'.2.1 ≤ (hops l).length ∧ HopS x'.2.2.2 x'.2.2.1 ∧ strE x'.2.2.1 = hopK ((hops l).take x'.2.1) }) [19]
      (fun x => [(19, n x.1.1)]) (fun x => x.1.2.2.2) (fun x' => x.nx.length - x'.1.1) ⟨(0, m', T, τ ++ [some [⟨80, 2, [Nod.cs x], none⟩]]), by simp, by simpa using hdi, hm, hS.app _, hT⟩ ?_ ?_ ?_
    · (simp only [zT, zV, zS, zU, vcC, kscp, lateX, ex, strp, cnd, binA, kseq, kblk, kret, klp, Abs.one, elems, cells, scalar, eqC, keyA, intsA, lookA, ofVs, mpOf, Nat.reduceBEq, reduceAdd, reduceSub, reduceLT, reduceLeDiff, reduceMul, reduceEqDiff, reduceIte]; try simp)
    · rfl
    rintro ⟨⟨j, m', T, τ⟩, hj, hd, hm, hS, hT⟩
    simp only at hj hd hm hS hT
    have aM : ∀ ν, Sto.at (τ ++ ν) 0 0 = some ⟨0, 0, [], some (.mp 2 (entA T))⟩ := fun ν => by rw [at_appL (at_lt hS.a)]; exact hS.a
    by_cases hlt2 : j < x.nx.length
    · obtain ⟨e, he⟩ : ∃ e, x.nx[j]? = some e := ⟨_, List.getElem?_eq_getElem hlt2⟩
      obtain ⟨u1, u2, u3⟩ := w3 e (List.mem_of_getElem? he)
      have hho : (hopsOf i x)[j]? = some ⟨i, e.to.toNat, e.ch⟩ := by simp [hopsOf, he]
      rw [drop_cons hho, List.cons_append] at hd
      obtain ⟨hxm, hd'⟩ := drop_next hd
      have hm1 := (List.getElem?_eq_some_iff.1 hxm).1
      have hnx := hopK_next hxm
      have ht0 : ((e.to.toNat : Nat) : Int) = e.to := by omega
      simp only [hkey, ht0] at hnx
      by_cases hk : ∀ t ∈ T, t.k ≠ [(i : Int), e.to]
      · obtain ⟨g1, g2, g3⟩ := ent_none (s := e.ch) (g := List.length τ + 1) hk
        have hN := (hS.app [some [⟨124, 3, [Edg.cs e], none⟩]]).new (s := e.ch) hk
        rw [List.length_append, List.length_singleton, List.append_assoc] at hN
        have hT' := strE_add T [(i : Int), e.to] e.ch (List.length τ + 1)
        (repeat' ((first
 | refine vn rfl ?_
 | simp (disch := omega) only [wr64, Int.zero_sub]
 | refine AWPC.both (fun _ => ?_) (fun _ => ?_)
 | refine AWPC.imp (fun _ => ?_)
 | refine cF ?_
 | refine om ?_
 | refine an ?_
 | fail) <;> try simp only [zT, zV, zS, zU, vcC, kscp, lateX, ex, strp, cnd, binA, kseq, kblk, kret, klp, Abs.one, elems, cells, scalar, eqC, keyA, intsA, lookA, ofVs, mpOf, Nat.reduceBEq, reduceAdd, reduceSub, reduceLT, reduceLeDiff, reduceMul, reduceEqDiff, reduceIte, getD_map he, aM, g1, g2]))
        all_goals try (exfalso; omega)
        exact ⟨⟨(j + 1, m' + 1, _, _), hlt2, hd', hm1, hN, by simp only; rw [hT', hT, hnx]⟩, by simp, rfl, by simp only; omega⟩
      · obtain ⟨A, t, B, rfl, ek, g1, g2, g3⟩ := ent_some (s := e.ch) (g := 0) hk
        have htm : t ∈ A ++ t :: B := by simp
        obtain ⟨tl, t0⟩ := hS.lt htm
        have hN := (hS.app [some [⟨124, 3, [Edg.cs e], none⟩]]).old (s := e.ch) (M := entA (addE (A ++ t :: B) [(i : Int), e.to] e.ch 0)) (by rw [g3])
        have hT' := strE_add (A ++ t :: B) [(i : Int), e.to] e.ch 0
        rw [show spO (t.l ++ [e.ch]) = ⟨30, 2, t.l.map Sp.cs ++ [Sp.cs e.ch], none⟩ from by simp [spO]] at hN
        have aG : ∀ ν, Sto.at (τ ++ ν) t.g 0 = some (spO t.l) := fun ν => by rw [at_appL tl]; exact hS.o t htm
        have aU : ∀ ν o, Sto.at (Sto.upd (τ ++ ν) t.g 0 o) 0 0 = some ⟨0, 0, [], some (.mp 2 (entA (A ++ t :: B)))⟩ := fun ν o => by rw [at_upd_other (.inl t0)]; exact aM ν
        have aV : ∀ x ν o, Sto.at (Sto.upd (τ ++ some [x] :: ν) t.g 0 o) (List.length τ) 0 = some x := fun x ν o => by rw [at_upd_other (.inl (by omega)), at_app0]; rfl
        have hsz : t.l.length ≤ m' := hopK_len m' hm (t.k, t.l) (by rw [← hT]; exact List.mem_map.2 ⟨t, htm, rfl⟩)
        have hsz2 : t.l.length + 1 ≤ 1000000 := by
          have hhl : (hops l).length ≤ 64 * l.length := hops_len v3
          omega
        (repeat' ((first
 | refine vn rfl ?_
 | simp (disch := omega) only [wr64, Int.zero_sub]
 | refine AWPC.both (fun _ => ?_) (fun _ => ?_)
 | refine AWPC.imp (fun _ => ?_)
 | refine cF ?_
 | refine om ?_
 | refine an ?_
 | fail) <;> try simp only [zT, zV, zS, zU, vcC, kscp, lateX, ex, strp, cnd, binA, kseq, kblk, kret, klp, Abs.one, elems, cells, scalar, eqC, keyA, intsA, lookA, ofVs, mpOf, Nat.reduceBEq, reduceAdd, reduceSub, reduceLT, reduceLeDiff, reduceMul, reduceEqDiff, reduceIte, getD_map he, aM, aG, aU, aV, g1, g2]))
        all_goals try (exfalso; omega)
        exact ⟨⟨(j + 1, m' + 1, A ++ ⟨t.k, t.l ++ [e.ch], t.g⟩ :: B, _), hlt2, hd', hm1, hN, by simp only; rw [← g3, hT', hT, hnx]⟩, by simp, rfl, by simp only; omega⟩
    · obtain rfl : j = x.nx.length := by omega
      have hdn : (hopsOf i x).drop x.nx.length = [] := List.drop_eq_nil_of_le (by simp [hopsOf])
      rw [hdn, List.nil_append] at hd
      (repeat' ((first
 | refine vn rfl ?_
 | simp (disch := omega) only [wr64, Int.zero_sub]
 | refine AWPC.both (fun _ => ?_) (fun _ => ?_)
 | refine AWPC.imp (fun _ => ?_)
 | refine cF ?_
 | refine om ?_
 | refine an ?_
 | fail) <;> try simp only [zT, zV, zS, zU, vcC, kscp, lateX, ex, strp, cnd, binA, kseq, kblk, kret, klp, Abs.one, elems, cells, scalar, eqC, keyA, intsA, lookA, ofVs, mpOf, Nat.reduceBEq, reduceAdd, reduceSub, reduceLT, reduceLeDiff, reduceMul, reduceEqDiff, reduceIte]))
      all_goals try (exfalso; omega)
      exact ⟨⟨(i + 1, m', T, τ), hlt, hd, hm, hS, hT⟩, by simp, rfl, by simp only; omega⟩
  · obtain rfl : i = l.length := by omega
    rw [List.drop_length] at hd
    have : m' = (hops l).length := by have := List.drop_eq_nil_iff.1 hd; omega
    subst this
    rw [List.take_length] at hT
    (repeat' ((first
 | refine vn rfl ?_
 | simp (disch := omega) only [wr64, Int.zero_sub]
 | refine AWPC.both (fun _ => ?_) (fun _ => ?_)
 | refine AWPC.imp (fun _ => ?_)
 | refine cF ?_
 | refine om ?_
 | refine an ?_
 | fail) <;> try simp only [zT, zV, zS, zU, vcC, kscp, lateX, ex, strp, cnd, binA, kseq, kblk, kret, klp, Abs.one, elems, cells, scalar, eqC, keyA, intsA, lookA, ofVs, mpOf, Nat.reduceBEq, reduceAdd, reduceSub, reduceLT, reduceLeDiff, reduceMul, reduceEqDiff, reduceIte]))
    all_goals try (exfalso; omega)
    have hlen : (hopK (hops l)).length = T.length := by rw [← hT]; simp
    refine Frz.mp (n := 2) (m := entA T) hS.a (by simp [mpOf]) (by simp [hlen]) (fun q hq => ?_) fun q hq => ?_
    · simp only [List.length_map] at hq
      rw [← hT, List.map_map, getD_map' (List.getElem?_eq_getElem hq), getD_map' (List.getElem?_eq_getElem hq)]
      rfl
    · simp only [List.length_map] at hq
      rw [← hT, List.map_map, getD_map' (List.getElem?_eq_getElem hq), getD_map' (List.getElem?_eq_getElem hq)]
      exact frz_sp (hS.o _ (List.getElem_mem hq))
def chs (hs : List Hop) (k : List Int) : List Sp := (hs.filter fun h => decide (hkey h = k)).map (·.ch)
theorem addK_get {E : List (List Int × List Sp)} {k k' : List Int} {s : Sp} :
    ((addK E k s).find? fun e => decide (e.1 = k')).map (·.2) = if k = k' then some ((((E.find? fun e => decide (e.1 = k')).map (·.2)).getD []) ++ [s]) else (E.find? fun e => decide (e.1 = k')).map (·.2) := by
  induction E with
  | nil =>
    by_cases h : k = k' <;> simp [addK, h]
  | cons e r ih =>
    unfold addK
    by_cases h1 : e.1 = k
    · subst h1
      by_cases h2 : e.1 = k' <;> simp [h2]
    · simp only [h1, if_false, List.find?_cons]
      by_cases h2 : e.1 = k'
      · have h3 : ¬ k = k' := fun h => h1 (h2.trans h.symm)
        simp [h2, h3]
      · simp only [h2, decide_false, ih]
theorem hopK_get (hs : List Hop) (k : List Int) : ((hopK hs).find? fun e => decide (e.1 = k)).map (·.2) = if chs hs k = [] then none else some (chs hs k) := by
  have key : ∀ i, i ≤ hs.length → ((hopK (hs.take i)).find? fun e => decide (e.1 = k)).map (·.2) = if chs (hs.take i) k = [] then none else some (chs (hs.take i) k) := by
    intro i
    induction i with
    | zero => intro _; rfl
    | succ i ih =>
      intro hi
      have e := List.getElem?_eq_getElem (l := hs) (i := i) (by omega)
      have hc : chs (hs.take (i + 1)) k = if hkey hs[i] = k then chs (hs.take i) k ++ [hs[i].ch] else chs (hs.take i) k := by
        rw [take_snoc e]
        unfold chs
        rw [List.filter_append]
        by_cases h : hkey hs[i] = k <;> simp [h]
      rw [hopK_next e, addK_get, ih (by omega), hc]
      by_cases h : hkey hs[i] = k
      · simp only [h, if_true]
        by_cases h2 : chs (hs.take i) k = [] <;> simp [h2]
      · simp only [h, if_false]
  have := key hs.length (Nat.le_refl _)
  rwa [List.take_length] at this
theorem mapS_get (hs : List Hop) (k : List Int) : mget ((hopK hs).map fun e => (e.1, spS e.2)) k = if chs hs k = [] then none else some (spS (chs hs k)) := by
  rw [mget_map (fun e : List Int × List Sp => e.1) (fun e => spS e.2)]
  have h := hopK_get hs k
  generalize (hopK hs).find? (fun e => decide (e.1 = k)) = q at *
  cases q with
  | none =>
    by_cases h2 : chs hs k = []
    · simp [h2]
    · rw [if_neg h2] at h; cases h
  | some e =>
    by_cases h2 : chs hs k = []
    · rw [if_pos h2] at h; cases h
    · rw [if_neg h2] at h ⊢
      simp only [Option.map_some, Option.some.injEq] at h ⊢
      rw [h]
theorem isPlace_spec (l : List Nod) (a : At) (hl : stgSz l) : Pure Tryz.prog 121 [stS l, .agg (At.cs a)] (bl (tr (0 ≤ a.node ∧ a.node < (l.length : Int) ∧ Mem a.val ((l.map (·.al)).getD a.node.toNat [])))) := by
  refine Pure.of_body Tryz.call121 Tryz.func121 k121 (Nat.le_of_ble_eq_true rfl) ?_
  unfold c121
  by_cases h : 0 ≤ a.node ∧ a.node < (l.length : Int)
  · obtain ⟨x, hx⟩ : ∃ x, l[a.node.toNat]? = some x := ⟨_, List.getElem?_eq_getElem (by omega)⟩
    have hs := hl.2 x (List.mem_of_getElem? hx)
    rw [getD_map' hx]
    obtain ⟨h1, h2⟩ := h
    (repeat' ((first
 | refine vn rfl ?_
 | simp (disch := omega) only [wr64, Int.zero_sub]
 | refine AWPC.both (fun _ => ?_) (fun _ => ?_)
 | refine AWPC.imp (fun _ => ?_)
 | ((repeat refine si ?_); (first | ((first | refine .inl ⟨_, _, _, _, rfl, fun _ => pu (has_spec x.al a.val hs.1), ?_⟩ | refine ⟨_, _, _, _, rfl, fun _ => pu (has_spec x.al a.val hs.1), ?_⟩); (first | refine owp_of_exs ?_ | refine pre_of_exd ?_ | refine pre_of_exe ?_ | refine pre_of_exv ?_)) | refine .inl ⟨_, _, _, _, rfl, pu (has_spec x.al a.val hs.1), ?_⟩))
 | refine cF ?_
 | refine om ?_
 | refine an ?_
 | fail) <;> try simp only [zT, zV, zS, zU, vcC, kscp, lateX, ex, strp, cnd, binA, kseq, kblk, kret, klp, Abs.one, elems, cells, scalar, eqC, keyA, intsA, lookA, ofVs, mpOf, Nat.reduceBEq, reduceAdd, reduceSub, reduceLT, reduceLeDiff, reduceMul, reduceEqDiff, reduceIte, getD_map hx]))
    all_goals try (exfalso; omega)
    refine Frz.eq (congrArg bl ?_) (by simp)
    simp [h1, h2]
  · have fin : ∀ q : Prop, tr (0 ≤ a.node ∧ a.node < (l.length : Int) ∧ q) = false := fun q => tr_0 fun h' => h ⟨h'.1, h'.2.1⟩
    rw [fin]
    cases hq : l[a.node.toNat]? with
    | none =>
      have h0 : (l.map Nod.cs).getD a.node.toNat [] = [] := by simp [List.getD_eq_getElem?_getD, hq]
      (repeat' ((first
 | refine vn rfl ?_
 | simp (disch := omega) only [wr64, Int.zero_sub]
 | refine AWPC.both (fun _ => ?_) (fun _ => ?_)
 | refine AWPC.imp (fun _ => ?_)
 | refine cF ?_
 | refine cG ?_
 | refine om ?_
 | refine an ?_
 | fail) <;> try simp only [zT, zV, zS, zU, vcC, kscp, lateX, ex, strp, cnd, binA, kseq, kblk, kret, klp, Abs.one, elems, cells, scalar, eqC, keyA, intsA, lookA, ofVs, mpOf, Nat.reduceBEq, reduceAdd, reduceSub, reduceLT, reduceLeDiff, reduceMul, reduceEqDiff, reduceIte, h0, h]))
      all_goals exact Frz.eq rfl (by simp)
    | some x =>
      (repeat' ((first
 | refine vn rfl ?_
 | simp (disch := omega) only [wr64, Int.zero_sub]
 | refine AWPC.both (fun _ => ?_) (fun _ => ?_)
 | refine AWPC.imp (fun _ => ?_)
 | ((repeat refine si ?_); (first | ((first | refine .inl ⟨_, _, _, _, rfl, fun _ => pu (has_spec x.al a.val (hl.2 x (List.mem_of_getElem? hq)).1), ?_⟩ | refine ⟨_, _, _, _, rfl, fun _ => pu (has_spec x.al a.val (hl.2 x (List.mem_of_getElem? hq)).1), ?_⟩); (first | refine owp_of_exs ?_ | refine pre_of_exd ?_ | refine pre_of_exe ?_ | refine pre_of_exv ?_)) | refine .inl ⟨_, _, _, _, rfl, pu (has_spec x.al a.val (hl.2 x (List.mem_of_getElem? hq)).1), ?_⟩))
 | refine cF ?_
 | refine om ?_
 | refine an ?_
 | fail) <;> try simp only [zT, zV, zS, zU, vcC, kscp, lateX, ex, strp, cnd, binA, kseq, kblk, kret, klp, Abs.one, elems, cells, scalar, eqC, keyA, intsA, lookA, ofVs, mpOf, Nat.reduceBEq, reduceAdd, reduceSub, reduceLT, reduceLeDiff, reduceMul, reduceEqDiff, reduceIte, getD_map hq]))
      refine Frz.eq (congrArg bl ?_) (by simp)
      simp only [decide_eq_false_iff_not]
      exact fun h' => h h'.1
theorem has_nil (v : Int) : Pure Tryz.prog 122 [.v (.slice none 0 0), n v] (bl (tr (Mem v []))) :=
  Pure.arg (has_spec [] v (by decide)) rfl fun i hi w X β σ x hx => by
    match i, hi with
    | 0, _ => cases hx; exact .slnil _
    | 1, _ => exact hx
theorem way_snoc {t : Trk} {c : List At} {k : Nat} {a : At} (ha : c[k]? = some a) : way t 0 (c.take (k + 1)) ↔ way t 0 (c.take k) ∧ placeOk t k a ∧ (∀ p, 0 < k → c[k - 1]? = some p → stepOk t (k - 1) p a) := by
  have hk := (List.getElem?_eq_some_iff.1 ha).1
  have hlen : (c.take k).length = k := by rw [List.length_take]; omega
  rw [take_snoc ha, way_append, hlen]
  refine and_congr_right fun _ => ?_
  simp only [way, Nat.zero_add, List.getElem?_cons_zero, Option.some.injEq]
  refine and_congr_right fun _ => ?_
  constructor
  · intro h p h0 hp
    refine h p a ?_ rfl
    rw [List.getLast?_eq_getElem?, hlen, List.getElem?_take, if_pos (by omega)]; exact hp
  · rintro h p b hp rfl
    rw [List.getLast?_eq_getElem?, hlen] at hp
    by_cases h0 : 0 < k
    · rw [List.getElem?_take, if_pos (by omega)] at hp
      exact h p h0 hp
    · obtain rfl : k = 0 := by omega
      simp at hp
theorem way_take {t : Trk} {c : List At} (h : way t 0 c) (k : Nat) : way t 0 (c.take k) := by
  rw [← List.take_append_drop k c, way_append] at h
  exact h.1
theorem stepOk_chs {t : Trk} {k : Nat} {p a : At} (hp : 0 ≤ p.node) (ha : 0 ≤ a.node) : stepOk t k p a ↔ Mem (a.val - p.val) (chs (stp t k) [p.node, a.node]) := by
  unfold stepOk chs Mem
  constructor
  · rintro ⟨h, hm, e1, e2, h1, h2⟩
    refine ⟨h.ch, List.mem_map.2 ⟨h, List.mem_filter.2 ⟨hm, ?_⟩, rfl⟩, h1, h2⟩
    simp only [hkey, List.cons.injEq, and_true, decide_eq_true_eq]; omega
  · rintro ⟨s, hs, h1, h2⟩
    obtain ⟨h, hm, rfl⟩ := List.mem_map.1 hs
    obtain ⟨hm, e⟩ := List.mem_filter.1 hm
    simp only [hkey, List.cons.injEq, and_true, decide_eq_true_eq] at e
    exact ⟨h, hm, by omega, by omega, h1, h2⟩
theorem mem_val {t : Trk} (hv : valid t) {k : Nat} {a : At} (h : placeOk t k a) : -100000 ≤ a.val ∧ a.val ≤ 100000 := mem_of_in (goods_get (als_goods hv k) _).2 h.2.2
theorem Keeps_spec (t : Trk) (c : List At) (hs : trkSz t) (hc : c.length < 9223372036854775808) : Pure Tryz.prog 61 [trS t, atS c] (n (if tr (valid t) then (if tr (course t c) then 0 else 41) else 40)) := by
  refine Pure.of_body Tryz.call61 Tryz.func61 k61 (Nat.le_of_ble_eq_true rfl) ?_
  unfold c61
  by_cases hv : valid t
  · rw [tr_1 hv, if_pos rfl]
    have hck := Check_spec t hs
    rw [tr_1 hv, if_pos rfl] at hck
    by_cases hl : c.length = t.length
    · have hln := hs.1
      (repeat' ((first
 | refine vn rfl ?_
 | simp (disch := omega) only [wr64, Int.zero_sub]
 | refine AWPC.both (fun _ => ?_) (fun _ => ?_)
 | refine AWPC.imp (fun _ => ?_)
 | ((repeat refine si ?_); (first | ((first | refine .inl ⟨_, _, _, _, rfl, fun _ => pu hck, ?_⟩ | refine ⟨_, _, _, _, rfl, fun _ => pu hck, ?_⟩); (first | refine owp_of_exs ?_ | refine pre_of_exd ?_ | refine pre_of_exe ?_ | refine pre_of_exv ?_)) | refine .inl ⟨_, _, _, _, rfl, pu hck, ?_⟩))
 | refine cF ?_
 | refine om ?_
 | refine an ?_
 | fail) <;> try simp only [zT, zV, zS, zU, vcC, kscp, lateX, ex, strp, cnd, binA, kseq, kblk, kret, klp, Abs.one, elems, cells, scalar, eqC, keyA, intsA, lookA, ofVs, mpOf, Nat.reduceBEq, reduceAdd, reduceSub, reduceLT, reduceLeDiff, reduceMul, reduceEqDiff, reduceIte]))
      all_goals try (exfalso; omega)
      refine AWPC.loopE (α := { x : Nat × Sto // x.1 ≤ c.length ∧ way t 0 (c.take x.1) }) [21] (fun x => [(21, n x.1.1)]) (fun x => x.1.2) (fun x => c.length - x.1.1) ⟨(0, []), by simp, trivial⟩ ?_ ?_ ?_
      · (simp only [zT, zV, zS, zU, vcC, kscp, lateX, ex, strp, cnd, binA, kseq, kblk, kret, klp, Abs.one, elems, cells, scalar, eqC, keyA, intsA, lookA, ofVs, mpOf, Nat.reduceBEq, reduceAdd, reduceSub, reduceLT, reduceLeDiff, reduceMul, reduceEqDiff, reduceIte]; try simp)
      · rfl
      rintro ⟨⟨k, τ⟩, hk, hw⟩
      simp only at hk hw
      simp only
      by_cases hlt : k < c.length
      · obtain ⟨a, ha⟩ : ∃ a, c[k]? = some a := ⟨_, List.getElem?_eq_getElem hlt⟩
        obtain ⟨L, hL⟩ : ∃ L, t[k]? = some L := ⟨_, List.getElem?_eq_getElem (by omega)⟩
        have hp := isPlace_spec L a (hs.2 L (List.mem_of_getElem? hL))
        have hL' : t.getD k [] = L := by rw [List.getD_eq_getElem?_getD, hL]; rfl
        have hpl : (0 ≤ a.node ∧ a.node < (L.length : Int) ∧ Mem a.val ((L.map (·.al)).getD a.node.toNat [])) ↔ placeOk t k a := by unfold placeOk wd als; rw [hL']
        have hsn := way_snoc (t := t) ha
        have hno : ¬ way t 0 (c.take (k + 1)) → ¬ course t c := fun h h' => h (way_take h'.2 _)
        by_cases hpa : placeOk t k a
        · rw [tr_1 (hpl.2 hpa)] at hp
          obtain ⟨b1, b2⟩ := mem_val hv hpa
          by_cases h0 : k = 0
          · subst h0
            have hm1 : (-1 : Int).toNat = 0 := rfl
            (repeat' ((first
 | refine vn rfl ?_
 | simp (disch := omega) only [wr64, Int.zero_sub]
 | refine AWPC.both (fun _ => ?_) (fun _ => ?_)
 | refine AWPC.imp (fun _ => ?_)
 | ((repeat refine si ?_); (first | ((first | refine .inl ⟨_, _, _, _, rfl, fun _ => pu hp, ?_⟩ | refine ⟨_, _, _, _, rfl, fun _ => pu hp, ?_⟩); (first | refine owp_of_exs ?_ | refine pre_of_exd ?_ | refine pre_of_exe ?_ | refine pre_of_exv ?_)) | refine .inl ⟨_, _, _, _, rfl, pu hp, ?_⟩))
 | refine cF ?_
 | refine cG ?_
 | refine om ?_
 | refine an ?_
 | fail) <;> try simp only [zT, zV, zS, zU, vcC, kscp, lateX, ex, strp, cnd, binA, kseq, kblk, kret, klp, Abs.one, elems, cells, scalar, eqC, keyA, intsA, lookA, ofVs, mpOf, Nat.reduceBEq, reduceAdd, reduceSub, reduceLT, reduceLeDiff, reduceMul, reduceEqDiff, reduceIte, getD_map ha, getD_map hL, hm1]))
            all_goals try (exfalso; omega)
            exact ⟨⟨(1, _), hlt, hsn.2 ⟨hw, hpa, fun p h => absurd h (by omega)⟩⟩, by simp, rfl, by simp only; omega⟩
          · obtain ⟨p, hpp⟩ : ∃ p, c[k - 1]? = some p := ⟨_, List.getElem?_eq_getElem (by omega)⟩
            obtain ⟨L', hL2⟩ : ∃ L, t[k - 1]? = some L := ⟨_, List.getElem?_eq_getElem (by omega)⟩
            have hL3 : t.getD (k - 1) [] = L' := by rw [List.getD_eq_getElem?_getD, hL2]; rfl
            have hpp2 : placeOk t (k - 1) p := by
              have h1 := way_take hw k
              have h2 := way_snoc (t := t) hpp
              rw [show k - 1 + 1 = k by omega] at h2
              exact (h2.1 hw).2.1
            obtain ⟨b3, b4⟩ := mem_val hv hpp2
            have hh := hops_spec (wd t (k - 1 + 1)) L' (hL3 ▸ valid_stg hv (by omega))
            have hi : ((k : Int) - 1).toNat = k - 1 := by omega
            have hst := stepOk_chs (t := t) (k := k - 1) hpp2.1 hpa.1
            rw [show stp t (k - 1) = hops L' by unfold stp; rw [hL3]] at hst
            have hmg := mapS_get (hops L') [p.node, a.node]
            have hcl : (chs (hops L') [p.node, a.node]).length < 9223372036854775808 := by
              have h1 := valid_stg hv (show k - 1 < t.length by omega)
              rw [hL3] at h1
              have h2 : (hops L').length ≤ 64 * L'.length := hops_len h1.2.2
              have h3 : (chs (hops L') [p.node, a.node]).length ≤ (hops L').length := by unfold chs; rw [List.length_map]; exact List.length_filter_le _ _
              have := h1.2.1
              omega
            have hsn2 : way t 0 (c.take (k + 1)) ↔ stepOk t (k - 1) p a := by
              rw [hsn]
              exact ⟨fun h => h.2.2 p (by omega) hpp, fun h => ⟨hw, hpa, fun q _ hq => by rw [hpp] at hq; injection hq with hq; subst hq; exact h⟩⟩
            have fin : ∀ b : Bool, b = tr (Mem (a.val - p.val) (chs (hops L') [p.node, a.node])) → (b = true → way t 0 (c.take (k + 1))) ∧ (b = false → tr (course t c) = false) := by
              rintro b rfl
              exact ⟨fun h => hsn2.2 (hst.2 (tr_iff.1 h)), fun h => tr_0 (hno fun h' => tr_not.1 h (hst.1 (hsn2.1 h')))⟩
            by_cases hnil : chs (hops L') [p.node, a.node] = []
            · rw [if_pos hnil] at hmg
              rw [hnil] at fin
              obtain ⟨f1, f2⟩ := fin _ rfl
              have hz : tr (Mem (a.val - p.val) []) = false := tr_0 Mem.nil
              have hhn := has_nil (a.val - p.val)
              rw [hz] at hhn f2
              rw [f2 rfl]
              (repeat' ((first
 | refine vn rfl ?_
 | simp (disch := omega) only [wr64, Int.zero_sub]
 | refine AWPC.both (fun _ => ?_) (fun _ => ?_)
 | refine AWPC.imp (fun _ => ?_)
 | ((repeat refine si ?_); (first | ((first | refine .inl ⟨_, _, _, _, rfl, fun _ => pu (by first | exact hp | exact hh | exact hhn), ?_⟩ | refine ⟨_, _, _, _, rfl, fun _ => pu (by first | exact hp | exact hh | exact hhn), ?_⟩); (first | refine owp_of_exs ?_ | refine pre_of_exd ?_ | refine pre_of_exe ?_ | refine pre_of_exv ?_)) | refine .inl ⟨_, _, _, _, rfl, pu (by first | exact hp | exact hh | exact hhn), ?_⟩))
 | refine cF ?_
 | refine om ?_
 | refine an ?_
 | fail) <;> try simp only [zT, zV, zS, zU, vcC, kscp, lateX, ex, strp, cnd, binA, kseq, kblk, kret, klp, Abs.one, elems, cells, scalar, eqC, keyA, intsA, lookA, ofVs, mpOf, Nat.reduceBEq, reduceAdd, reduceSub, reduceLT, reduceLeDiff, reduceMul, reduceEqDiff, reduceIte, getD_map ha, getD_map hL, getD_map hpp, getD_map hL2, hi, hmg]))
              all_goals try (exfalso; omega)
              all_goals exact Frz.eq rfl (by simp)
            · rw [if_neg hnil] at hmg
              have hha := has_spec (chs (hops L') [p.node, a.node]) (a.val - p.val) hcl
              obtain ⟨f1, f2⟩ := fin _ rfl
              generalize tr (Mem (a.val - p.val) (chs (hops L') [p.node, a.node])) = b at *
              cases b with
              | false =>
                rw [f2 rfl]
                (repeat' ((first
 | refine vn rfl ?_
 | simp (disch := omega) only [wr64, Int.zero_sub]
 | refine AWPC.both (fun _ => ?_) (fun _ => ?_)
 | refine AWPC.imp (fun _ => ?_)
 | ((repeat refine si ?_); (first | ((first | refine .inl ⟨_, _, _, _, rfl, fun _ => pu (by first | exact hp | exact hh | exact hha), ?_⟩ | refine ⟨_, _, _, _, rfl, fun _ => pu (by first | exact hp | exact hh | exact hha), ?_⟩); (first | refine owp_of_exs ?_ | refine pre_of_exd ?_ | refine pre_of_exe ?_ | refine pre_of_exv ?_)) | refine .inl ⟨_, _, _, _, rfl, pu (by first | exact hp | exact hh | exact hha), ?_⟩))
 | refine cF ?_
 | refine om ?_
 | refine an ?_
 | fail) <;> try simp only [zT, zV, zS, zU, vcC, kscp, lateX, ex, strp, cnd, binA, kseq, kblk, kret, klp, Abs.one, elems, cells, scalar, eqC, keyA, intsA, lookA, ofVs, mpOf, Nat.reduceBEq, reduceAdd, reduceSub, reduceLT, reduceLeDiff, reduceMul, reduceEqDiff, reduceIte, getD_map ha, getD_map hL, getD_map hpp, getD_map hL2, hi, hmg]))
                all_goals try (exfalso; omega)
                all_goals exact Frz.eq rfl (by simp)
              | true =>
                (repeat' ((first
 | refine vn rfl ?_
 | simp (disch := omega) only [wr64, Int.zero_sub]
 | refine AWPC.both (fun _ => ?_) (fun _ => ?_)
 | refine AWPC.imp (fun _ => ?_)
 | ((repeat refine si ?_); (first | ((first | refine .inl ⟨_, _, _, _, rfl, fun _ => pu (by first | exact hp | exact hh | exact hha), ?_⟩ | refine ⟨_, _, _, _, rfl, fun _ => pu (by first | exact hp | exact hh | exact hha), ?_⟩); (first | refine owp_of_exs ?_ | refine pre_of_exd ?_ | refine pre_of_exe ?_ | refine pre_of_exv ?_)) | refine .inl ⟨_, _, _, _, rfl, pu (by first | exact hp | exact hh | exact hha), ?_⟩))
 | refine cF ?_
 | refine om ?_
 | refine an ?_
 | fail) <;> try simp only [zT, zV, zS, zU, vcC, kscp, lateX, ex, strp, cnd, binA, kseq, kblk, kret, klp, Abs.one, elems, cells, scalar, eqC, keyA, intsA, lookA, ofVs, mpOf, Nat.reduceBEq, reduceAdd, reduceSub, reduceLT, reduceLeDiff, reduceMul, reduceEqDiff, reduceIte, getD_map ha, getD_map hL, getD_map hpp, getD_map hL2, hi, hmg]))
                all_goals try (exfalso; omega)
                exact ⟨⟨(k + 1, _), hlt, f1 rfl⟩, by simp, rfl, by simp only; omega⟩
        · rw [tr_0 (fun h => hpa (hpl.1 h))] at hp
          rw [tr_0 (hno fun h => hpa (hsn.1 h).2.1)]
          (repeat' ((first
 | refine vn rfl ?_
 | simp (disch := omega) only [wr64, Int.zero_sub]
 | refine AWPC.both (fun _ => ?_) (fun _ => ?_)
 | refine AWPC.imp (fun _ => ?_)
 | ((repeat refine si ?_); (first | ((first | refine .inl ⟨_, _, _, _, rfl, fun _ => pu hp, ?_⟩ | refine ⟨_, _, _, _, rfl, fun _ => pu hp, ?_⟩); (first | refine owp_of_exs ?_ | refine pre_of_exd ?_ | refine pre_of_exe ?_ | refine pre_of_exv ?_)) | refine .inl ⟨_, _, _, _, rfl, pu hp, ?_⟩))
 | refine cF ?_
 | refine om ?_
 | refine an ?_
 | fail) <;> try simp only [zT, zV, zS, zU, vcC, kscp, lateX, ex, strp, cnd, binA, kseq, kblk, kret, klp, Abs.one, elems, cells, scalar, eqC, keyA, intsA, lookA, ofVs, mpOf, Nat.reduceBEq, reduceAdd, reduceSub, reduceLT, reduceLeDiff, reduceMul, reduceEqDiff, reduceIte, getD_map ha, getD_map hL]))
          all_goals try (exfalso; omega)
          all_goals exact Frz.eq rfl (by simp)
      · obtain rfl : k = c.length := by omega
        rw [List.take_length] at hw
        rw [tr_1 (show course t c from ⟨hl, hw⟩)]
        (repeat' ((first
 | refine vn rfl ?_
 | simp (disch := omega) only [wr64, Int.zero_sub]
 | refine AWPC.both (fun _ => ?_) (fun _ => ?_)
 | refine AWPC.imp (fun _ => ?_)
 | refine cF ?_
 | refine om ?_
 | refine an ?_
 | fail) <;> try simp only [zT, zV, zS, zU, vcC, kscp, lateX, ex, strp, cnd, binA, kseq, kblk, kret, klp, Abs.one, elems, cells, scalar, eqC, keyA, intsA, lookA, ofVs, mpOf, Nat.reduceBEq, reduceAdd, reduceSub, reduceLT, reduceLeDiff, reduceMul, reduceEqDiff, reduceIte]))
        all_goals try (exfalso; omega)
        all_goals exact Frz.eq rfl (by simp)
    · have hnc : ¬ course t c := fun h => hl h.1
      rw [tr_0 hnc]
      (repeat' ((first
 | refine vn rfl ?_
 | simp (disch := omega) only [wr64, Int.zero_sub]
 | refine AWPC.both (fun _ => ?_) (fun _ => ?_)
 | refine AWPC.imp (fun _ => ?_)
 | ((repeat refine si ?_); (first | ((first | refine .inl ⟨_, _, _, _, rfl, fun _ => pu hck, ?_⟩ | refine ⟨_, _, _, _, rfl, fun _ => pu hck, ?_⟩); (first | refine owp_of_exs ?_ | refine pre_of_exd ?_ | refine pre_of_exe ?_ | refine pre_of_exv ?_)) | refine .inl ⟨_, _, _, _, rfl, pu hck, ?_⟩))
 | refine cF ?_
 | refine om ?_
 | refine an ?_
 | fail) <;> try simp only [zT, zV, zS, zU, vcC, kscp, lateX, ex, strp, cnd, binA, kseq, kblk, kret, klp, Abs.one, elems, cells, scalar, eqC, keyA, intsA, lookA, ofVs, mpOf, Nat.reduceBEq, reduceAdd, reduceSub, reduceLT, reduceLeDiff, reduceMul, reduceEqDiff, reduceIte]))
      all_goals try (exfalso; omega)
      all_goals exact Frz.eq rfl (by simp)
  · rw [tr_0 hv]
    have hck := Check_spec t hs
    rw [tr_0 hv, if_neg (by decide)] at hck
    (repeat' ((first
 | refine vn rfl ?_
 | simp (disch := omega) only [wr64, Int.zero_sub]
 | refine AWPC.both (fun _ => ?_) (fun _ => ?_)
 | refine AWPC.imp (fun _ => ?_)
 | ((repeat refine si ?_); (first | ((first | refine .inl ⟨_, _, _, _, rfl, fun _ => pu hck, ?_⟩ | refine ⟨_, _, _, _, rfl, fun _ => pu hck, ?_⟩); (first | refine owp_of_exs ?_ | refine pre_of_exd ?_ | refine pre_of_exe ?_ | refine pre_of_exv ?_)) | refine .inl ⟨_, _, _, _, rfl, pu hck, ?_⟩))
 | refine cF ?_
 | refine om ?_
 | refine an ?_
 | fail) <;> try simp only [zT, zV, zS, zU, vcC, kscp, lateX, ex, strp, cnd, binA, kseq, kblk, kret, klp, Abs.one, elems, cells, scalar, eqC, keyA, intsA, lookA, ofVs, mpOf, Nat.reduceBEq, reduceAdd, reduceSub, reduceLT, reduceLeDiff, reduceMul, reduceEqDiff, reduceIte]))
    all_goals try (exfalso; omega)
    all_goals exact Frz.eq rfl (by simp)
end Go.Proofs.YtahkhnagpdlkiaaGreat
namespace Go.Abs
set_option linter.unusedVariables false
set_option linter.unusedSimpArgs false
theorem way_iff {t : Trk} : ∀ {p : List At} {k : Nat}, way t k p ↔ ∀ i a, p[i]? = some a → placeOk t (k + i) a ∧ ∀ b, p[i + 1]? = some b → stepOk t (k + i) a b
  | [], k => by simp [way]
  | a :: r, k => by
    rw [way_cons, way_iff (p := r)]
    constructor
    · rintro ⟨h1, h2, h3⟩ i b hb
      cases i with
      | zero =>
        simp only [List.getElem?_cons_zero, Option.some.injEq] at hb; subst hb
        exact ⟨h1, fun b hb => h2 b (by simpa using hb)⟩
      | succ i =>
        have := h3 i b (by simpa using hb)
        rw [show k + (i + 1) = k + 1 + i by omega]
        exact ⟨this.1, fun c hc => this.2 c (by simpa using hc)⟩
    · intro h
      have h0 := h 0 a rfl
      refine ⟨h0.1, fun b hb => h0.2 b (by simpa using hb), fun i b hb => ?_⟩
      have := h (i + 1) b (by simpa using hb)
      rw [show k + (i + 1) = k + 1 + i by omega] at this
      exact ⟨this.1, fun c hc => this.2 c (by simpa using hc)⟩
theorem course_iff {t : Trk} {c : List At} : course t c ↔ c.length = t.length ∧ ∀ i a, c[i]? = some a → placeOk t i a ∧ ∀ b, c[i + 1]? = some b → stepOk t i a b := by
  unfold course
  rw [way_iff]
  simp only [Nat.zero_add]
def lessC : List At → List At → Bool
  | a :: r, b :: s => if a.node ≠ b.node then decide (a.node < b.node) else if a.val ≠ b.val then decide (a.val < b.val) else lessC r s
  | _, _ => false
theorem firstGo_min {t t' : Trk} (hv : valid t') (hl : t'.length = t.length) (hnx : ∀ j i, i < wd t' j → (nodAt t' j i).nx = (nodAt t j i).nx) :
    ∀ (m k : Nat) (may : List (List Sp)) (p : List At), m + k + 1 = t.length → goods may → (∀ (j : Nat) v, Mem v (may.getD j []) → j < wd t' k ∧ Mem v ((bwd t' k).getD j [])) → p.length = m + 1 → way t' k p →
      (∀ a, p[0]? = some a → Mem a.val (may.getD a.node.toNat [])) → lessC p (firstGo t (bwds t') (m + 1) k may) = false := by
  intro m
  induction m with
  | zero =>
    intro k may p hk hg hsub hp hw h0
    cases hq : pickF 0 may with
    | none => rw [show firstGo t (bwds t') 1 k may = [] by simp [firstGo, hq]]; cases p <;> rfl
    | some a =>
      have e : firstGo t (bwds t') 1 k may = [a] := by simp [firstGo, hq]
      obtain ⟨b, rfl⟩ := List.length_eq_one_iff.1 hp
      rw [e]
      obtain ⟨j, s, r, h1, ha, h2⟩ := pickF_some hq
      have hb := h0 b rfl
      have hpl : placeOk t' k b := hw
      have hpn0 := hpl.1
      have hge : (j : Int) ≤ b.node := by
        by_cases hlt : b.node.toNat < j
        · have h3 := h2 _ hlt
          rw [List.getD_eq_getElem?_getD] at hb
          rcases hx : may[b.node.toNat]? with _ | x
          · rw [hx] at hb; exact absurd hb Mem.nil
          · rw [hx] at hb h3
            simp at h3; subst h3
            exact absurd hb Mem.nil
        · omega
      have hpn := hpl.1
      simp only [lessC]
      subst ha
      simp only [Nat.zero_add]
      by_cases hn : b.node = (j : Int)
      · rw [if_neg (by simp [hn])]
        have hgd : may.getD j [] = s :: r := by rw [List.getD_eq_getElem?_getD, h1]; rfl
        rw [hn, Int.toNat_natCast, hgd] at hb
        have hnorm : Norm (s :: r) := by rw [← hgd]; exact (goods_get hg j).1
        have hmin : s.lo ≤ b.val := by
          obtain ⟨x, hx, hx1, hx2⟩ := hb
          rcases List.mem_cons.1 hx with rfl | hx
          · exact hx1
          · have h3 := norm_append (a := [s]) (b := r)
            simp only [List.singleton_append] at h3
            have h4 := (h3.1 hnorm).2.2 s (by simp) x hx
            have h5 := hnorm.ne s (by simp)
            omega
        by_cases hvv : b.val = s.lo
        · simp [hvv]
        · rw [if_pos hvv]; simp; omega
      · rw [if_pos hn]; simp; omega
  | succ m ih =>
    intro k may p hk hg hsub hp hw h0
    cases hq : pickF 0 may with
    | none =>
      exfalso
      cases p with
      | nil => cases hp
      | cons b p =>
        have hb := h0 b rfl
        rw [pickF_none] at hq
        by_cases hi : b.node.toNat < may.length
        · rw [hq _ (List.mem_of_getElem? (getD_some hi))] at hb; exact Mem.nil hb
        · rw [getD_none (by omega)] at hb; exact Mem.nil hb
    | some a =>
      have e : firstGo t (bwds t') (m + 1 + 1) k may = a :: firstGo t (bwds t') (m + 1) (k + 1) (nextM t (bwds t') k may a) := by rw [firstGo, hq]
      cases p with
      | nil => cases hp
      | cons b p =>
      rw [e]
      obtain ⟨j, s, r, h1, ha, h2⟩ := pickF_some hq
      have hb := h0 b rfl
      rw [way_cons] at hw
      obtain ⟨hpl, hst, hw⟩ := hw
      have hge : (j : Int) ≤ b.node := by
        by_cases hlt : b.node.toNat < j
        · have h3 := h2 _ hlt
          rw [List.getD_eq_getElem?_getD] at hb
          rcases hx : may[b.node.toNat]? with _ | x
          · rw [hx] at hb; exact absurd hb Mem.nil
          · rw [hx] at hb h3
            simp at h3; subst h3
            exact absurd hb Mem.nil
        · have := hpl.1; omega
      have hpn := hpl.1
      simp only [lessC]
      have ha1 : a.node = (j : Int) := by rw [ha]; simp
      have ha2 : a.val = s.lo := by rw [ha]
      by_cases hn : b.node = (j : Int)
      · rw [if_neg (by simp [hn, ha1])]
        have hgd : may.getD j [] = s :: r := by rw [List.getD_eq_getElem?_getD, h1]; rfl
        rw [hn, Int.toNat_natCast, hgd] at hb
        have hnorm : Norm (s :: r) := by rw [← hgd]; exact (goods_get hg j).1
        have hmin : s.lo ≤ b.val := by
          obtain ⟨x, hx, hx1, hx2⟩ := hb
          rcases List.mem_cons.1 hx with rfl | hx
          · exact hx1
          · have h3 := norm_append (a := [s]) (b := r)
            simp only [List.singleton_append] at h3
            have h4 := (h3.1 hnorm).2.2 s (by simp) x hx
            have h5 := hnorm.ne s (by simp)
            omega
        by_cases hvv : b.val = s.lo
        · rw [if_neg (by simp [hvv, ha2])]
          have hN : nextM t (bwds t') k may a = stepS (nodAt t k j) a.val (bwd t' (k + 1)) := by
            unfold nextM
            rw [if_pos (by omega), bwds_getD (by omega), ha1]; simp
          have hms : Mem s.lo (may.getD j []) := by rw [hgd]; exact ⟨s, by simp, Int.le_refl _, hnorm.ne s (by simp)⟩
          obtain ⟨hj, _⟩ := hsub j s.lo hms
          have hgb := bwd_goods hv (k + 1)
          have hlb := bwd_len (t := t') (k := k + 1) (by omega)
          have hg' : goods (stepS (nodAt t k j) a.val (bwd t' (k + 1))) := fun l hl => by
            obtain ⟨q, _, rfl⟩ := List.mem_map.1 hl
            refine ⟨joins0_norm _, in_of_mem (joins0_norm _) fun u hu => ?_⟩
            exact mem_of_in (goods_get hgb q).2 ((step1_mem q u).1 hu).2
          have hlen : ∀ q u, Mem u ((stepS (nodAt t k j) a.val (bwd t' (k + 1))).getD q []) → q < wd t' (k + 1) ∧ Mem u (step1 (nodAt t k j) a.val (bwd t' (k + 1)) q) := fun q u hu => by
            by_cases hq : q < (bwd t' (k + 1)).length
            · rw [stepS_get hq] at hu
              exact ⟨by omega, hu⟩
            · rw [getD_none (by simp [stepS]; omega)] at hu
              exact absurd hu Mem.nil
          rw [hN]
          refine ih (k + 1) _ p (by omega) hg' (fun q u hu => ⟨(hlen q u hu).1, ((step1_mem q u).1 (hlen q u hu).2).2⟩) (by simpa using hp) hw fun c hc => ?_
          cases p with
          | nil => cases hc
          | cons c' p =>
            simp only [List.getElem?_cons_zero, Option.some.injEq] at hc; subst hc
            have hbw := (bwd_way hv (k + 1) c' (by omega)).2 ⟨p, by simp at hp; omega, hw⟩
            obtain ⟨b1, b2, b3⟩ := hbw
            rw [stepS_get (by omega), step1_mem]
            refine ⟨?_, b3⟩
            obtain ⟨e', he', q1, q2, q3⟩ := (stepOk_iff hv hpl.1 b1 hpl.2.1).1 (hst c' rfl)
            rw [hn, Int.toNat_natCast, hnx k j hj] at he'
            exact ⟨e', he', by omega, by omega, by omega⟩
        · rw [if_pos (by rw [ha2]; exact hvv)]; simp; omega
      · rw [if_pos (by rw [ha1]; exact hn)]; simp; omega
theorem firstT_min {t t' : Trk} (hv : valid t') (hl : t'.length = t.length) (hnx : ∀ j i, i < wd t' j → (nodAt t' j i).nx = (nodAt t j i).nx) {c : List At} (hc : course t' c) : lessC c (firstT t (bwds t')) = false := by
  have h1 := hv.1
  obtain ⟨m, hm⟩ : ∃ m, t.length = m + 1 := ⟨t.length - 1, by omega⟩
  unfold firstT
  rw [hm, bwds_getD (by omega)]
  refine firstGo_min hv hl hnx m 0 (bwd t' 0) c (by omega) (bwd_goods hv 0) (fun j v h => by
    by_cases hj : j < (bwd t' 0).length
    · exact ⟨by rw [bwd_len (by omega)] at hj; exact hj, h⟩
    · rw [getD_none (by omega)] at h; exact absurd h Mem.nil) (by rw [hc.1]; omega) hc.2 fun a ha => ?_
  cases c with
  | nil => cases ha
  | cons b p =>
    simp only [List.getElem?_cons_zero, Option.some.injEq] at ha; subst ha
    have := hc.1
    simp only [List.length_cons] at this
    exact ((bwd_way hv 0 b (by omega)).2 ⟨p, by omega, hc.2⟩).2.2
theorem hopsF_only (a : At) : ∀ (l : List Nod) (i j : Nat), hopsF j (onlyF a i l) = hopsF j l
  | [], _, _ => rfl
  | x :: l, i, j => by simp only [onlyF, hopsF, hopsOf, onlyN, hopsF_only a l (i + 1) (j + 1)]
theorem onlyT_stp (t : Trk) (k : Nat) (a : At) (j : Nat) : stp (onlyT t k a) j = stp t j := by
  unfold stp
  rw [onlyT_get]
  split
  · rename_i h; subst h; exact hopsF_only a _ 0 0
  · rfl
theorem onlyT_place {t : Trk} {k : Nat} {a b : At} {j : Nat} : placeOk (onlyT t k a) j b ↔ placeOk t j b ∧ (j = k → b = a) := by
  unfold placeOk
  rw [onlyT_wd]
  by_cases hj : j = k
  · subst hj
    constructor
    · rintro ⟨h1, h2, h3⟩
      unfold als at h3 ⊢
      rw [onlyT_get, if_pos rfl] at h3
      obtain ⟨x, hx⟩ : ∃ x, (t.getD j [])[b.node.toNat]? = some x := ⟨_, List.getElem?_eq_getElem (by unfold wd at h2; omega)⟩
      have h4 := onlyF_get a _ 0 _ x hx
      rw [getD_map' h4] at h3
      rw [getD_map' hx]
      simp only [onlyN, Nat.zero_add] at h3
      split at h3
      · rename_i hn
        rw [meet_mem] at h3
        obtain ⟨h5, s, hs, h6, h7⟩ := h3
        rw [List.mem_singleton] at hs; subst hs
        simp only at h6 h7
        exact ⟨⟨h1, h2, h5⟩, fun _ => at_ext (by omega) (by omega)⟩
      · exact absurd h3 Mem.nil
    · rintro ⟨⟨h1, h2, h3⟩, h4⟩
      obtain rfl := h4 rfl
      refine ⟨h1, h2, ?_⟩
      unfold als at h3 ⊢
      rw [onlyT_get, if_pos rfl]
      obtain ⟨x, hx⟩ : ∃ x, (t.getD j [])[b.node.toNat]? = some x := ⟨_, List.getElem?_eq_getElem (by unfold wd at h2; omega)⟩
      have h4 := onlyF_get b _ 0 _ x hx
      rw [getD_map' h4]
      rw [getD_map' hx] at h3
      simp only [onlyN, Nat.zero_add]
      rw [if_pos (by omega), meet_mem]
      exact ⟨h3, _, List.mem_singleton.2 rfl, Int.le_refl _, Int.le_refl _⟩
  · have : als (onlyT t k a) j = als t j := by unfold als; rw [onlyT_get, if_neg hj]
    rw [this]
    simp [hj]
theorem onlyT_course {t : Trk} {k : Nat} {a : At} {c : List At} (hk : k < t.length) : course (onlyT t k a) c ↔ course t c ∧ c[k]? = some a := by
  rw [course_iff, course_iff, onlyT_len]
  constructor
  · rintro ⟨h1, h2⟩
    refine ⟨⟨h1, fun i b hb => ?_⟩, ?_⟩
    · obtain ⟨h3, h4⟩ := h2 i b hb
      refine ⟨(onlyT_place.1 h3).1, fun d hd => ?_⟩
      have := h4 d hd
      unfold stepOk at this ⊢
      rwa [onlyT_stp] at this
    · obtain ⟨b, hb⟩ : ∃ b, c[k]? = some b := ⟨_, List.getElem?_eq_getElem (by omega)⟩
      rw [hb, (onlyT_place.1 (h2 k b hb).1).2 rfl]
  · rintro ⟨⟨h1, h2⟩, h3⟩
    refine ⟨h1, fun i b hb => ?_⟩
    obtain ⟨h4, h5⟩ := h2 i b hb
    refine ⟨onlyT_place.2 ⟨h4, fun e => by subst e; rw [hb] at h3; injection h3⟩, fun d hd => ?_⟩
    have := h5 d hd
    unfold stepOk at this ⊢
    rwa [onlyT_stp]
end Go.Abs
namespace Go.Proofs.YtahkhnagpdlkiaaGreat
open Go.Abs
open Nat (reduceAdd reduceSub reduceLT reduceLeDiff reduceMul reduceEqDiff)
set_option linter.unusedVariables false
set_option linter.unusedSimpArgs false
set_option maxHeartbeats 4000000
set_option maxRecDepth 100000
def c49 : CF := ⟨9,
 (.seq (.ops [
 ⟨some 2,.box false 24 1 (.t 0),none⟩,
 ⟨some 4,.mv (.c (.bool false)),none⟩] [1,2])
 (.seq (.ops [
 ⟨some 5,.load (some 1) (.t 2),none⟩,
 ⟨some 6,.mv (.t 1),none⟩,
 ⟨some 7,.call (.f 61) [(.t 5),(.t 6)],none⟩,
 ⟨some 8,.bin .eql (.t 7) (.c (.int .i64 0)),none⟩,
 ⟨some 4,.mv (.t 8),none⟩] [4])
 .ret)),
 [.t 4]⟩
def c30 : CF := ⟨8,
 (.seq (.ops [
 ⟨some 1,.box false 24 1 (.t 0),none⟩,
 ⟨some 2,.mv (.c (.slice none 0 0)),none⟩,
 ⟨some 3,.mv (.c (.int .i64 0)),none⟩] [1])
 (.seq (.ops [
 ⟨some 4,.load (some 1) (.t 1),none⟩,
 ⟨some 5,.call (.f 83) [(.t 4),(.f 71)],none⟩,
 ⟨some 6,.ext 0 (.t 5),none⟩,
 ⟨some 7,.ext 1 (.t 5),none⟩,
 ⟨some 2,.mv (.t 6),none⟩,
 ⟨some 3,.mv (.t 7),none⟩] [2,3])
 .ret)),
 [.t 2,.t 3]⟩
def c32 : CF := ⟨8,
 (.seq (.ops [
 ⟨some 1,.box false 24 1 (.t 0),none⟩,
 ⟨some 2,.mv (.c (.slice none 0 0)),none⟩,
 ⟨some 3,.mv (.c (.int .i64 0)),none⟩] [1])
 (.seq (.ops [
 ⟨some 4,.load (some 1) (.t 1),none⟩,
 ⟨some 5,.call (.f 83) [(.t 4),(.f 86)],none⟩,
 ⟨some 6,.ext 0 (.t 5),none⟩,
 ⟨some 7,.ext 1 (.t 5),none⟩,
 ⟨some 2,.mv (.t 6),none⟩,
 ⟨some 3,.mv (.t 7),none⟩] [2,3])
 .ret)),
 [.t 2,.t 3]⟩
theorem k49 : chkF Tryz.prog Tryz.f49 c49 = true := by kernel_rfl
theorem k30 : chkF Tryz.prog Tryz.f30 c30 = true := by kernel_rfl
theorem k32 : chkF Tryz.prog Tryz.f32 c32 = true := by kernel_rfl
theorem is_spec (t : Trk) (c : List At) (hs : trkSz t) (hc : c.length < 9223372036854775808) : Pure Tryz.prog 49 [trS t, atS c] (bl (tr (valid t ∧ course t c))) := by
  refine Pure.of_body Tryz.call49 Tryz.func49 k49 (Nat.le_of_ble_eq_true rfl) ?_
  unfold c49
  have hk := Keeps_spec t c hs hc
  by_cases hv : valid t
  · rw [tr_1 hv, if_pos rfl] at hk
    by_cases h : course t c
    · rw [tr_1 h, if_pos rfl] at hk
      rw [tr_1 ⟨hv, h⟩]
      (repeat' ((first
 | refine vn rfl ?_
 | simp (disch := omega) only [wr64, Int.zero_sub]
 | refine AWPC.both (fun _ => ?_) (fun _ => ?_)
 | refine AWPC.imp (fun _ => ?_)
 | ((repeat refine si ?_); (first | ((first | refine .inl ⟨_, _, _, _, rfl, fun _ => pu hk, ?_⟩ | refine ⟨_, _, _, _, rfl, fun _ => pu hk, ?_⟩); (first | refine owp_of_exs ?_ | refine pre_of_exd ?_ | refine pre_of_exe ?_ | refine pre_of_exv ?_)) | refine .inl ⟨_, _, _, _, rfl, pu hk, ?_⟩))
 | refine cF ?_
 | refine om ?_
 | refine an ?_
 | fail) <;> try simp only [zT, zV, zS, zU, vcC, kscp, lateX, ex, strp, cnd, binA, kseq, kblk, kret, klp, Abs.one, elems, cells, scalar, eqC, keyA, intsA, lookA, ofVs, mpOf, Nat.reduceBEq, reduceAdd, reduceSub, reduceLT, reduceLeDiff, reduceMul, reduceEqDiff, reduceIte]))
      all_goals exact Frz.eq rfl (by simp)
    · rw [tr_0 h, if_neg (by decide)] at hk
      rw [tr_0 (fun h' => h h'.2)]
      (repeat' ((first
 | refine vn rfl ?_
 | simp (disch := omega) only [wr64, Int.zero_sub]
 | refine AWPC.both (fun _ => ?_) (fun _ => ?_)
 | refine AWPC.imp (fun _ => ?_)
 | ((repeat refine si ?_); (first | ((first | refine .inl ⟨_, _, _, _, rfl, fun _ => pu hk, ?_⟩ | refine ⟨_, _, _, _, rfl, fun _ => pu hk, ?_⟩); (first | refine owp_of_exs ?_ | refine pre_of_exd ?_ | refine pre_of_exe ?_ | refine pre_of_exv ?_)) | refine .inl ⟨_, _, _, _, rfl, pu hk, ?_⟩))
 | refine cF ?_
 | refine om ?_
 | refine an ?_
 | fail) <;> try simp only [zT, zV, zS, zU, vcC, kscp, lateX, ex, strp, cnd, binA, kseq, kblk, kret, klp, Abs.one, elems, cells, scalar, eqC, keyA, intsA, lookA, ofVs, mpOf, Nat.reduceBEq, reduceAdd, reduceSub, reduceLT, reduceLeDiff, reduceMul, reduceEqDiff, reduceIte]))
      all_goals exact Frz.eq rfl (by simp)
  · rw [tr_0 hv, if_neg (by decide)] at hk
    rw [tr_0 (fun h' => hv h'.1)]
    (repeat' ((first
 | refine vn rfl ?_
 | simp (disch := omega) only [wr64, Int.zero_sub]
 | refine AWPC.both (fun _ => ?_) (fun _ => ?_)
 | refine AWPC.imp (fun _ => ?_)
 | ((repeat refine si ?_); (first | ((first | refine .inl ⟨_, _, _, _, rfl, fun _ => pu hk, ?_⟩ | refine ⟨_, _, _, _, rfl, fun _ => pu hk, ?_⟩); (first | refine owp_of_exs ?_ | refine pre_of_exd ?_ | refine pre_of_exe ?_ | refine pre_of_exv ?_)) | refine .inl ⟨_, _, _, _, rfl, pu hk, ?_⟩))
 | refine cF ?_
 | refine om ?_
 | refine an ?_
 | fail) <;> try simp only [zT, zV, zS, zU, vcC, kscp, lateX, ex, strp, cnd, binA, kseq, kblk, kret, klp, Abs.one, elems, cells, scalar, eqC, keyA, intsA, lookA, ofVs, mpOf, Nat.reduceBEq, reduceAdd, reduceSub, reduceLT, reduceLeDiff, reduceMul, reduceEqDiff, reduceIte]))
    all_goals exact Frz.eq rfl (by simp)
theorem Forward_spec (t : Trk) (hs : trkSz t) : Pure Tryz.prog 30 [trS t] (.tup [stgS (if tr (valid t) = true then fwds t else []), n (if tr (valid t) = true then 0 else 40)]) := by
  refine Pure.of_body Tryz.call30 Tryz.func30 k30 (Nat.le_of_ble_eq_true rfl) ?_
  unfold c30
  have ht := told_spec t hs 71 (fwds t) (forward_spec t)
  generalize (if tr (valid t) = true then (0 : Int) else 40) = E at *
  generalize (if tr (valid t) = true then fwds t else []) = X at *
  (repeat' ((first
 | refine vn rfl ?_
 | simp (disch := omega) only [wr64, Int.zero_sub]
 | refine AWPC.both (fun _ => ?_) (fun _ => ?_)
 | refine AWPC.imp (fun _ => ?_)
 | ((repeat refine si ?_); (first | ((first | refine .inl ⟨_, _, _, _, rfl, fun _ => pu ht, ?_⟩ | refine ⟨_, _, _, _, rfl, fun _ => pu ht, ?_⟩); (first | refine owp_of_exs ?_ | refine pre_of_exd ?_ | refine pre_of_exe ?_ | refine pre_of_exv ?_)) | refine .inl ⟨_, _, _, _, rfl, pu ht, ?_⟩))
 | refine cF ?_
 | refine om ?_
 | refine an ?_
 | fail) <;> try simp only [zT, zV, zS, zU, vcC, kscp, lateX, ex, strp, cnd, binA, kseq, kblk, kret, klp, Abs.one, elems, cells, scalar, eqC, keyA, intsA, lookA, ofVs, mpOf, Nat.reduceBEq, reduceAdd, reduceSub, reduceLT, reduceLeDiff, reduceMul, reduceEqDiff, reduceIte]))
  all_goals exact Frz.eq rfl (by simp)
theorem Backward_spec (t : Trk) (hs : trkSz t) : Pure Tryz.prog 32 [trS t] (.tup [stgS (if tr (valid t) = true then bwds t else []), n (if tr (valid t) = true then 0 else 40)]) := by
  refine Pure.of_body Tryz.call32 Tryz.func32 k32 (Nat.le_of_ble_eq_true rfl) ?_
  unfold c32
  have ht := told_spec t hs 86 (bwds t) (backward_spec t)
  generalize (if tr (valid t) = true then (0 : Int) else 40) = E at *
  generalize (if tr (valid t) = true then bwds t else []) = X at *
  (repeat' ((first
 | refine vn rfl ?_
 | simp (disch := omega) only [wr64, Int.zero_sub]
 | refine AWPC.both (fun _ => ?_) (fun _ => ?_)
 | refine AWPC.imp (fun _ => ?_)
 | ((repeat refine si ?_); (first | ((first | refine .inl ⟨_, _, _, _, rfl, fun _ => pu ht, ?_⟩ | refine ⟨_, _, _, _, rfl, fun _ => pu ht, ?_⟩); (first | refine owp_of_exs ?_ | refine pre_of_exd ?_ | refine pre_of_exe ?_ | refine pre_of_exv ?_)) | refine .inl ⟨_, _, _, _, rfl, pu ht, ?_⟩))
 | refine cF ?_
 | refine om ?_
 | refine an ?_
 | fail) <;> try simp only [zT, zV, zS, zU, vcC, kscp, lateX, ex, strp, cnd, binA, kseq, kblk, kret, klp, Abs.one, elems, cells, scalar, eqC, keyA, intsA, lookA, ofVs, mpOf, Nat.reduceBEq, reduceAdd, reduceSub, reduceLT, reduceLeDiff, reduceMul, reduceEqDiff, reduceIte]))
  all_goals exact Frz.eq rfl (by simp)
theorem some_bwd {t : Trk} (hv : valid t) {c : List At} (hc : course t c) : some' (bwd t 0) = true := by
  have hl := hv.1
  rw [some_iff (bwd_goods hv 0)]
  cases c with
  | nil => have := hc.1; simp at this; omega
  | cons b p =>
    have h1 := hc.1
    simp only [List.length_cons] at h1
    have hb := (bwd_way hv 0 b (by omega)).2 ⟨p, by omega, hc.2⟩
    exact ⟨b.node.toNat, b.val, by rw [bwd_len (by omega)]; omega, hb.2.2⟩
theorem with_E {t : Trk} {k : Int} {a : At} (h : (withR t k a).2 = 0) : valid t ∧ okW t k a ∧ course t (withR t k a).1 ∧ (withR t k a).1[k.toNat]? = some a ∧ ∀ c, course t c → c[k.toNat]? = some a → lessC c (withR t k a).1 = false := by
  unfold withR at h ⊢
  split at h
  · rename_i h0; exact absurd h h0
  rename_i h0
  rw [if_neg h0]
  have h0' : askE t (decide (okW t k a)) = 0 := by simpa using h0
  obtain ⟨hv, hok, hf⟩ := askE0.1 h0'
  simp only [decide_eq_true_eq] at hok
  have hkl : k.toNat < t.length := by omega
  have hv' := onlyT_valid hv k.toNat a
  split at h
  · cases h
  rename_i h1
  rw [if_neg h1]
  split at h
  · rename_i h2
    rw [if_pos h2]
    have hnx : ∀ j i, i < wd (onlyT t k.toNat a) j → (nodAt (onlyT t k.toNat a) j i).nx = (nodAt t j i).nx := fun j i hi => onlyT_nx t k.toNat a j i (by rwa [onlyT_wd] at hi)
    have hco := firstT_course hv' (onlyT_len t k.toNat a) hnx (by simpa using h1)
    have hco2 := (onlyT_course hkl).1 hco
    refine ⟨hv, hok, hco2.1, hco2.2, fun c hc hca => ?_⟩
    exact firstT_min hv' (onlyT_len t k.toNat a) hnx ((onlyT_course hkl).2 ⟨hc, hca⟩)
  · cases h
theorem with_C {t : Trk} {k : Int} {a : At} {c : List At} (hv : valid t) (hc : course t c) (hk0 : 0 ≤ k) (hk1 : k < (t.length : Int)) (hca : c[k.toNat]? = some a) : (withR t k a).2 = 0 := by
  have hkl : k.toNat < t.length := by omega
  have hpl := ((course_iff.1 hc).2 _ _ hca).1
  have hok : okW t k a := ⟨⟨hk0, hk1⟩, hpl.1, hpl.2.1⟩
  have h0 : askE t (decide (okW t k a)) = 0 := askE0.2 ⟨hv, by simpa using hok, (feas_course hv).2 ⟨c, hc⟩⟩
  have hv' := onlyT_valid hv k.toNat a
  have hc' := (onlyT_course hkl).2 ⟨hc, hca⟩
  have hs := some_bwd hv' hc'
  have hnx : ∀ j i, i < wd (onlyT t k.toNat a) j → (nodAt (onlyT t k.toNat a) j i).nx = (nodAt t j i).nx := fun j i hi => onlyT_nx t k.toNat a j i (by rwa [onlyT_wd] at hi)
  have hco := (onlyT_course hkl).1 (firstT_course hv' (onlyT_len t k.toNat a) hnx hs)
  unfold withR
  rw [if_neg (by rw [h0]; simp), if_neg (by rw [hs]; simp), if_pos hco.2]
def c17 : CF := ⟨112,
 (.seq (.ops [
 ⟨some 1,.box false 24 1 (.t 0),none⟩,
 ⟨some 2,.mv (.c (.bool false)),none⟩] [1])
 (.seq (.seq (.ops [
 ⟨some 6,.faddr 0 (.t 1),none⟩,
 ⟨some 7,.load none (.t 6),none⟩,
 ⟨some 8,.len (.t 7),none⟩,
 ⟨some 9,.bin .gtr (.t 8) (.c (.int .i64 8)),none⟩,
 ⟨some 10,.mv (.t 9),none⟩,
 ⟨some 11,.faddr 0 (.t 1),some (10,true)⟩,
 ⟨some 12,.load none (.t 11),some (10,true)⟩,
 ⟨some 13,.len (.t 12),some (10,true)⟩,
 ⟨some 14,.bin .leq (.t 13) (.c (.int .i64 401)),some (10,true)⟩,
 ⟨some 15,.pick (.t 10) (.t 14) (.c (.bool false)),none⟩,
 ⟨some 16,.mv (.t 15),none⟩,
 ⟨some 17,.faddr 0 (.t 1),some (16,false)⟩,
 ⟨some 18,.load none (.t 17),some (16,false)⟩,
 ⟨some 19,.len (.t 18),some (16,false)⟩,
 ⟨some 20,.bin .gtr (.t 19) (.c (.int .i64 802)),some (16,false)⟩,
 ⟨some 21,.pick (.t 16) (.c (.bool true)) (.t 20),none⟩] [1,21])
 (.cond (.t 21) (.seq (.ops [
 ⟨some 2,.mv (.c (.bool false)),none⟩] [2])
 .ret)
 .skip))
 (.seq (.seq (.ops [
 ⟨some 3,.mv (.c (.int .i64 0)),none⟩] [1,3])
 (.block 0 (.loop (.seq (.seq (.ops [
 ⟨some 22,.mv (.t 3),none⟩,
 ⟨some 23,.faddr 0 (.t 1),none⟩,
 ⟨some 24,.load none (.t 23),none⟩,
 ⟨some 25,.len (.t 24),none⟩,
 ⟨some 26,.bin .lss (.t 22) (.t 25),none⟩] [1,3,26])
 (.cond (.t 26) .skip
 (.exit 0)))
 (.seq (.block 1 (.seq (.seq (.ops [
 ⟨some 29,.faddr 0 (.t 1),none⟩,
 ⟨some 30,.load none (.t 29),none⟩,
 ⟨some 31,.mv (.t 3),none⟩,
 ⟨some 32,.iaddr 1 (.t 30) (.t 31),none⟩,
 ⟨some 33,.load none (.t 32),none⟩,
 ⟨some 34,.len (.t 33),none⟩,
 ⟨some 35,.bin .gtr (.t 34) (.c (.int .i64 6)),none⟩,
 ⟨some 36,.mv (.t 35),none⟩,
 ⟨some 37,.faddr 0 (.t 1),some (36,true)⟩,
 ⟨some 38,.load none (.t 37),some (36,true)⟩,
 ⟨some 39,.mv (.t 3),some (36,true)⟩,
 ⟨some 40,.iaddr 1 (.t 38) (.t 39),some (36,true)⟩,
 ⟨some 41,.load none (.t 40),some (36,true)⟩,
 ⟨some 42,.len (.t 41),some (36,true)⟩,
 ⟨some 43,.bin .leq (.t 42) (.c (.int .i64 4000)),some (36,true)⟩,
 ⟨some 44,.mv (.t 43),some (36,true)⟩,
 ⟨some 45,.faddr 0 (.t 1),some (44,false)⟩,
 ⟨some 46,.load none (.t 45),some (44,false)⟩,
 ⟨some 47,.len (.t 46),some (44,false)⟩,
 ⟨some 48,.bin .gtr (.t 47) (.c (.int .i64 8)),some (44,false)⟩,
 ⟨some 49,.pick (.t 44) (.c (.bool true)) (.t 48),some (36,true)⟩,
 ⟨some 50,.pick (.t 36) (.t 49) (.c (.bool false)),none⟩,
 ⟨some 51,.mv (.t 50),none⟩,
 ⟨some 52,.faddr 0 (.t 1),some (51,false)⟩,
 ⟨some 53,.load none (.t 52),some (51,false)⟩,
 ⟨some 54,.mv (.t 3),some (51,false)⟩,
 ⟨some 55,.iaddr 1 (.t 53) (.t 54),some (51,false)⟩,
 ⟨some 56,.load none (.t 55),some (51,false)⟩,
 ⟨some 57,.len (.t 56),some (51,false)⟩,
 ⟨some 58,.bin .gtr (.t 57) (.c (.int .i64 8000)),some (51,false)⟩,
 ⟨some 59,.pick (.t 51) (.c (.bool true)) (.t 58),none⟩] [1,3,59])
 (.cond (.t 59) (.seq (.ops [
 ⟨some 2,.mv (.c (.bool false)),none⟩] [2])
 .ret)
 .skip))
 (.seq (.ops [
 ⟨some 4,.mv (.c (.int .i64 0)),none⟩] [1,3,4])
 (.block 2 (.loop (.seq (.seq (.ops [
 ⟨some 60,.mv (.t 4),none⟩,
 ⟨some 61,.faddr 0 (.t 1),none⟩,
 ⟨some 62,.load none (.t 61),none⟩,
 ⟨some 63,.mv (.t 3),none⟩,
 ⟨some 64,.iaddr 1 (.t 62) (.t 63),none⟩,
 ⟨some 65,.load none (.t 64),none⟩,
 ⟨some 66,.len (.t 65),none⟩,
 ⟨some 67,.bin .lss (.t 60) (.t 66),none⟩] [1,3,4,67])
 (.cond (.t 67) .skip
 (.exit 2)))
 (.seq (.block 3 (.seq (.ops [
 ⟨some 70,.faddr 0 (.t 1),none⟩,
 ⟨some 71,.load none (.t 70),none⟩,
 ⟨some 72,.mv (.t 3),none⟩,
 ⟨some 73,.iaddr 1 (.t 71) (.t 72),none⟩,
 ⟨some 74,.load none (.t 73),none⟩,
 ⟨some 75,.mv (.t 4),none⟩,
 ⟨some 76,.iaddr 2 (.t 74) (.t 75),none⟩,
 ⟨some 77,.load (some 2) (.t 76),none⟩,
 ⟨some 5,.alloc 80 2 [.slice none 0 0,.slice none 0 0],none⟩,
 ⟨none,.store 2 (.t 5) (.t 77),none⟩] [1,3,4,5])
 (.seq (.ops [
 ⟨some 78,.faddr 0 (.t 5),none⟩,
 ⟨some 79,.load none (.t 78),none⟩,
 ⟨some 80,.len (.t 79),none⟩,
 ⟨some 81,.bin .gtr (.t 80) (.c (.int .i64 8)),none⟩,
 ⟨some 82,.mv (.t 81),none⟩,
 ⟨some 83,.faddr 0 (.t 5),some (82,true)⟩,
 ⟨some 84,.load none (.t 83),some (82,true)⟩,
 ⟨some 85,.len (.t 84),some (82,true)⟩,
 ⟨some 86,.bin .leq (.t 85) (.c (.int .i64 64)),some (82,true)⟩,
 ⟨some 87,.pick (.t 82) (.t 86) (.c (.bool false)),none⟩,
 ⟨some 88,.mv (.t 87),none⟩,
 ⟨some 89,.faddr 0 (.t 5),some (88,false)⟩,
 ⟨some 90,.load none (.t 89),some (88,false)⟩,
 ⟨some 91,.len (.t 90),some (88,false)⟩,
 ⟨some 92,.bin .gtr (.t 91) (.c (.int .i64 128)),some (88,false)⟩,
 ⟨some 93,.pick (.t 88) (.c (.bool true)) (.t 92),none⟩,
 ⟨some 94,.mv (.t 93),none⟩,
 ⟨some 95,.faddr 1 (.t 5),some (94,false)⟩,
 ⟨some 96,.load none (.t 95),some (94,false)⟩,
 ⟨some 97,.len (.t 96),some (94,false)⟩,
 ⟨some 98,.bin .gtr (.t 97) (.c (.int .i64 8)),some (94,false)⟩,
 ⟨some 99,.mv (.t 98),some (94,false)⟩,
 ⟨some 100,.faddr 1 (.t 5),some (99,true)⟩,
 ⟨some 101,.load none (.t 100),some (99,true)⟩,
 ⟨some 102,.len (.t 101),some (99,true)⟩,
 ⟨some 103,.bin .leq (.t 102) (.c (.int .i64 64)),some (99,true)⟩,
 ⟨some 104,.pick (.t 99) (.t 103) (.c (.bool false)),some (94,false)⟩,
 ⟨some 105,.pick (.t 94) (.c (.bool true)) (.t 104),none⟩,
 ⟨some 106,.mv (.t 105),none⟩,
 ⟨some 107,.faddr 1 (.t 5),some (106,false)⟩,
 ⟨some 108,.load none (.t 107),some (106,false)⟩,
 ⟨some 109,.len (.t 108),some (106,false)⟩,
 ⟨some 110,.bin .gtr (.t 109) (.c (.int .i64 128)),some (106,false)⟩,
 ⟨some 111,.pick (.t 106) (.c (.bool true)) (.t 110),none⟩] [1,3,4,111])
 (.cond (.t 111) (.seq (.ops [
 ⟨some 2,.mv (.c (.bool false)),none⟩] [2])
 .ret)
 .skip))))
 (.ops [
 ⟨some 68,.mv (.t 4),none⟩,
 ⟨some 69,.bin .add (.t 68) (.c (.int .i64 1)),none⟩,
 ⟨some 4,.mv (.t 69),none⟩] [1,3,4]))))))))
 (.ops [
 ⟨some 27,.mv (.t 3),none⟩,
 ⟨some 28,.bin .add (.t 27) (.c (.int .i64 1)),none⟩,
 ⟨some 3,.mv (.t 28),none⟩] [1,3]))))))
 (.seq (.ops [
 ⟨some 2,.mv (.c (.bool true)),none⟩] [2])
 .ret)))),
 [.t 2]⟩
theorem k17 : chkF Tryz.prog Tryz.f17 c17 = true := by kernel_rfl
abbrev manyN (x : Nod) : Prop := ((8 < x.al.length ∧ x.al.length ≤ 64) ∨ 128 < x.al.length) ∨ (8 < x.nx.length ∧ x.nx.length ≤ 64) ∨ 128 < x.nx.length
abbrev manyL (m : Nat) (l : List Nod) : Prop := (6 < l.length ∧ (l.length ≤ 4000 ∨ 8 < m)) ∨ 8000 < l.length
abbrev manyT (m : Nat) : Prop := (8 < m ∧ m ≤ 401) ∨ 802 < m
def fewB (t : Trk) : Bool := !decide (manyT t.length) && t.all fun l => !decide (manyL t.length l) && l.all fun x => !decide (manyN x)
theorem fewB_f1 {t : Trk} (h : manyT t.length) : fewB t = false := by unfold fewB; rw [decide_eq_true h]; rfl
theorem fewB_f {t : Trk} {l : List Nod} (hl : l ∈ t) (h : (!decide (manyL t.length l) && l.all fun x => !decide (manyN x)) = false) : fewB t = false := by
  unfold fewB
  have : (t.all fun l => !decide (manyL t.length l) && l.all fun x => !decide (manyN x)) = false := by
    cases ha : t.all fun l => !decide (manyL t.length l) && l.all fun x => !decide (manyN x) with
    | false => rfl
    | true => rw [List.all_eq_true.1 ha l hl] at h; cases h
  rw [this]; simp
theorem fewB_t {t : Trk} (h1 : ¬ manyT t.length) (h : ∀ l ∈ t, ¬ manyL t.length l ∧ ∀ x ∈ l, ¬ manyN x) : fewB t = true := by
  unfold fewB
  rw [decide_eq_false h1]
  have : (t.all fun l => !decide (manyL t.length l) && l.all fun x => !decide (manyN x)) = true := List.all_eq_true.2 fun l hl => by
    obtain ⟨h2, h3⟩ := h l hl
    rw [decide_eq_false h2]
    have : (l.all fun x => !decide (manyN x)) = true := List.all_eq_true.2 fun x hx => by rw [decide_eq_false (h3 x hx)]; rfl
    rw [this]; rfl
  rw [this]; rfl
theorem few_spec (t : Trk) (hs : trkSz t) : Pure Tryz.prog 17 [trS t] (bl (fewB t)) := by
  refine Pure.of_body Tryz.call17 Tryz.func17 k17 (Nat.le_of_ble_eq_true rfl) ?_
  unfold c17
  have h1 := hs.1
  (repeat' ((first
 | refine vn rfl ?_
 | simp (disch := omega) only [wr64, Int.zero_sub]
 | refine AWPC.both (fun _ => ?_) (fun _ => ?_)
 | refine AWPC.imp (fun _ => ?_)
 | refine cF ?_
 | refine om ?_
 | refine an ?_
 | fail) <;> try simp only [zT, zV, zS, zU, vcC, kscp, lateX, ex, strp, cnd, binA, kseq, kblk, kret, klp, Abs.one, elems, cells, scalar, eqC, keyA, intsA, lookA, ofVs, mpOf, Nat.reduceBEq, reduceAdd, reduceSub, reduceLT, reduceLeDiff, reduceMul, reduceEqDiff, reduceIte]))
  · rename_i h
    rw [fewB_f1 (by unfold manyT; omega)]
    exact Frz.eq rfl (by simp)
  rename_i hT
  refine AWPC.loopE (α := { x : Nat × Sto // x.1 ≤ t.length ∧ ∀ l ∈ t.take x.1, ¬ manyL t.length l ∧ ∀ y ∈ l, ¬ manyN y }) [3] (fun x => [(3, n x.1.1)]) (fun x => x.1.2) (fun x => t.length - x.1.1) ⟨(0, []), Nat.zero_le _, by simp⟩ ?_ rfl ?_
  · (simp only [zT, zV, zS, zU, vcC, kscp, lateX, ex, strp, cnd, binA, kseq, kblk, kret, klp, Abs.one, elems, cells, scalar, eqC, keyA, intsA, lookA, ofVs, mpOf, Nat.reduceBEq, reduceAdd, reduceSub, reduceLT, reduceLeDiff, reduceMul, reduceEqDiff, reduceIte]; try simp)
  rintro ⟨⟨k, μ⟩, hk, hk2⟩
  try simp only at hk hk2
  try simp only
  by_cases hlt : k < t.length
  · have htk : t[k]? = some (t.getD k []) := getD_some hlt
    have gtk : (t.map fun l => [stS l]).getD k [] = [stS (t.getD k [])] := getD_map htk
    have hm := List.mem_of_getElem? htk
    have hs2 := hs.2 _ hm
    have hsn := take_snoc htk
    generalize t.getD k [] = L at *
    obtain ⟨hL, hL2⟩ := hs2
    (repeat' ((first
 | refine vn rfl ?_
 | simp (disch := omega) only [wr64, Int.zero_sub]
 | refine AWPC.both (fun _ => ?_) (fun _ => ?_)
 | refine AWPC.imp (fun _ => ?_)
 | refine cF ?_
 | refine om ?_
 | refine an ?_
 | fail) <;> try simp only [zT, zV, zS, zU, vcC, kscp, lateX, ex, strp, cnd, binA, kseq, kblk, kret, klp, Abs.one, elems, cells, scalar, eqC, keyA, intsA, lookA, ofVs, mpOf, Nat.reduceBEq, reduceAdd, reduceSub, reduceLT, reduceLeDiff, reduceMul, reduceEqDiff, reduceIte, gtk]))
    all_goals try (exfalso; omega)
    · rename_i h
      rw [fewB_f hm (by rw [decide_eq_true (by unfold manyL; omega)]; rfl)]
      exact Frz.eq rfl (by simp)
    rename_i hM
    have hM' : ¬ manyL t.length L := by unfold manyL; omega
    refine AWPC.loopE (α := { x : Nat × Sto // x.1 ≤ L.length ∧ ∀ y ∈ L.take x.1, ¬ manyN y }) [4] (fun x => [(4, n x.1.1)]) (fun x => x.1.2) (fun x => L.length - x.1.1) ⟨(0, μ), Nat.zero_le _, by simp⟩ ?_ rfl ?_
    · (simp only [zT, zV, zS, zU, vcC, kscp, lateX, ex, strp, cnd, binA, kseq, kblk, kret, klp, Abs.one, elems, cells, scalar, eqC, keyA, intsA, lookA, ofVs, mpOf, Nat.reduceBEq, reduceAdd, reduceSub, reduceLT, reduceLeDiff, reduceMul, reduceEqDiff, reduceIte]; try simp)
    rintro ⟨⟨i, ν⟩, hi, hi2⟩
    try simp only at hi hi2
    try simp only
    by_cases hlt2 : i < L.length
    · obtain ⟨x, hx⟩ : ∃ x, L[i]? = some x := ⟨_, List.getElem?_eq_getElem hlt2⟩
      have hxm := List.mem_of_getElem? hx
      obtain ⟨x1, x2⟩ := hL2 x hxm
      have hsx := take_snoc hx
      (repeat' ((first
 | refine vn rfl ?_
 | simp (disch := omega) only [wr64, Int.zero_sub]
 | refine AWPC.both (fun _ => ?_) (fun _ => ?_)
 | refine AWPC.imp (fun _ => ?_)
 | refine cF ?_
 | refine om ?_
 | refine an ?_
 | fail) <;> try simp only [zT, zV, zS, zU, vcC, kscp, lateX, ex, strp, cnd, binA, kseq, kblk, kret, klp, Abs.one, elems, cells, scalar, eqC, keyA, intsA, lookA, ofVs, mpOf, Nat.reduceBEq, reduceAdd, reduceSub, reduceLT, reduceLeDiff, reduceMul, reduceEqDiff, reduceIte, gtk, getD_map hx, List.cons_append]))
      all_goals try (exfalso; omega)
      · rename_i h
        have hN : manyN x := by unfold manyN; omega
        have hf : (!decide (manyL t.length L) && L.all fun x => !decide (manyN x)) = false := by
          rw [Bool.and_eq_false_iff]
          refine .inr ?_
          cases ha : L.all fun x => !decide (manyN x) with
          | false => rfl
          | true => have := List.all_eq_true.1 ha x hxm; rw [decide_eq_true hN] at this; cases this
        rw [fewB_f hm hf]
        exact Frz.eq rfl (by simp)
      · rename_i h
        have hN : ¬ manyN x := by unfold manyN; omega
        exact ⟨⟨(i + 1, ν ++ [some [⟨80, 2, [Nod.cs x], none⟩]]), hlt2, fun y hy => by
          rw [hsx] at hy
          rcases List.mem_append.1 hy with h | h
          · exact hi2 y h
          · rw [List.mem_singleton.1 h]; exact hN⟩, rfl, rfl, by simp only; omega⟩
    · obtain rfl : i = L.length := by omega
      rw [List.take_length] at hi2
      (repeat' ((first
 | refine vn rfl ?_
 | simp (disch := omega) only [wr64, Int.zero_sub]
 | refine AWPC.both (fun _ => ?_) (fun _ => ?_)
 | refine AWPC.imp (fun _ => ?_)
 | refine cF ?_
 | refine om ?_
 | refine an ?_
 | fail) <;> try simp only [zT, zV, zS, zU, vcC, kscp, lateX, ex, strp, cnd, binA, kseq, kblk, kret, klp, Abs.one, elems, cells, scalar, eqC, keyA, intsA, lookA, ofVs, mpOf, Nat.reduceBEq, reduceAdd, reduceSub, reduceLT, reduceLeDiff, reduceMul, reduceEqDiff, reduceIte, gtk]))
      all_goals try (exfalso; omega)
      exact ⟨⟨(k + 1, ν), hlt, fun l hl => by
        rw [hsn] at hl
        rcases List.mem_append.1 hl with h | h
        · exact hk2 l h
        · rw [List.mem_singleton.1 h]
          exact ⟨hM', hi2⟩⟩, rfl, rfl, by simp only; omega⟩
  · obtain rfl : k = t.length := by omega
    rw [List.take_length] at hk2
    rw [fewB_t (by unfold manyT; omega) hk2]
    (repeat' ((first
 | refine vn rfl ?_
 | simp (disch := omega) only [wr64, Int.zero_sub]
 | refine AWPC.both (fun _ => ?_) (fun _ => ?_)
 | refine AWPC.imp (fun _ => ?_)
 | refine cF ?_
 | refine om ?_
 | refine an ?_
 | fail) <;> try simp only [zT, zV, zS, zU, vcC, kscp, lateX, ex, strp, cnd, binA, kseq, kblk, kret, klp, Abs.one, elems, cells, scalar, eqC, keyA, intsA, lookA, ofVs, mpOf, Nat.reduceBEq, reduceAdd, reduceSub, reduceLT, reduceLeDiff, reduceMul, reduceEqDiff, reduceIte]))
    all_goals try (exfalso; omega)
    exact Frz.eq rfl (by simp)
theorem with_len {t : Trk} (k : Int) (a : At) (hs : trkSz t) : (withR t k a).1.length < 9223372036854775808 := by
  by_cases h : (withR t k a).2 = 0
  · rw [(with_E h).2.2.1.1]; exact hs.1
  · unfold withR at h ⊢
    split
    · simp
    rename_i h0
    rw [if_neg h0] at h
    split
    · simp
    rename_i h1
    rw [if_neg h1] at h
    split
    · rename_i h2; rw [if_pos h2] at h; exact absurd rfl h
    · simp
end Go.Proofs.YtahkhnagpdlkiaaGreat
