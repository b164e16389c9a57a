/- Part 9 of the texts that the claim rests on: abstract values over the walk, and contracts of functions. -/
import Derived.Test.YtahkhnagpdlkiaaGreatBn8
import Derived.Test.YtahkhnagpdlkiaaGreatRows
namespace Go.Proofs.YtahkhnagpdlkiaaGreat
open Go.Abs
open Nat (reduceAdd reduceSub reduceLT reduceLeDiff reduceMul reduceEqDiff)
set_option linter.unusedVariables false
set_option linter.unusedSimpArgs false
set_option maxHeartbeats 4000000
set_option maxRecDepth 100000
def c123 : CF := ⟨41,
 (.seq (.ops [
 ⟨some 2,.mv (.c (.map none)),none⟩] [0])
 (.seq (.ops [
 ⟨some 8,.mkmp 2,none⟩,
 ⟨some 3,.mv (.t 8),none⟩] [0,3])
 (.seq (.seq (.ops [
 ⟨some 9,.mv (.t 0),none⟩,
 ⟨some 10,.len (.t 9),none⟩,
 ⟨some 11,.mv (.c (.int .i64 0)),none⟩] [3,9,10,11])
 (.block 0 (.loop (.seq (.ops [
 ⟨some 12,.bin .lss (.t 11) (.t 10),none⟩] [3,9,10,11,12])
 (.seq (.cond (.t 12) .skip
 (.exit 0))
 (.seq (.block 1 (.seq (.ops [
 ⟨some 13,.mv (.t 11),none⟩,
 ⟨some 14,.iaddr 2 (.t 9) (.t 11),none⟩,
 ⟨some 15,.load (some 2) (.t 14),none⟩,
 ⟨some 5,.alloc 80 2 [.slice none 0 0,.slice none 0 0],none⟩,
 ⟨some 4,.mv (.t 13),none⟩,
 ⟨none,.store 2 (.t 5) (.t 15),none⟩] [3,4,5,9,10,11])
 (.seq (.ops [
 ⟨some 16,.faddr 1 (.t 5),none⟩,
 ⟨some 17,.load none (.t 16),none⟩,
 ⟨some 18,.len (.t 17),none⟩,
 ⟨some 19,.mv (.c (.int .i64 0)),none⟩] [3,4,9,10,11,17,18,19])
 (.block 2 (.loop (.seq (.ops [
 ⟨some 20,.bin .lss (.t 19) (.t 18),none⟩] [3,4,9,10,11,17,18,19,20])
 (.seq (.cond (.t 20) .skip
 (.exit 2))
 (.seq (.block 3 (.seq (.ops [
 ⟨some 21,.iaddr 3 (.t 17) (.t 19),none⟩,
 ⟨some 22,.load (some 3) (.t 21),none⟩,
 ⟨some 7,.alloc 124 3 [.int .i64 0,.int .i64 0,.int .i64 0],none⟩,
 ⟨none,.store 3 (.t 7) (.t 22),none⟩] [3,4,7,9,10,11,17,18,19])
 (.draww [0,1,2,3,4,5,6,7,8,9,10,11,12,13,14,15] [0,1,2,3,4] 1 [
 ⟨some 23,.mv (.t 3),none⟩,
 ⟨some 24,.mv (.t 4),none⟩,
 ⟨some 25,.faddr 0 (.t 7),none⟩,
 ⟨some 26,.load none (.t 25),none⟩,
 ⟨some 27,.build [.int .i64 0,.int .i64 0] [(0,1,(.t 24)),(1,1,(.t 26))],none⟩,
 ⟨some 28,.mv (.t 3),none⟩,
 ⟨some 29,.mv (.t 4),none⟩,
 ⟨some 30,.faddr 0 (.t 7),none⟩,
 ⟨some 31,.load none (.t 30),none⟩,
 ⟨some 32,.build [.int .i64 0,.int .i64 0] [(0,1,(.t 29)),(1,1,(.t 31))],none⟩,
 ⟨some 33,.look 2 false [.slice none 0 0] false (.t 28) (.t 32),none⟩,
 ⟨some 34,.faddr 1 (.t 7),none⟩,
 ⟨some 35,.load (some 2) (.t 34),none⟩,
 ⟨some 36,.bsl false 30 2 1 [.int .i64 0,.int .i64 0] [(0,2,(.t 35))],none⟩] [
 ⟨some 37,.app 30 2 16 (.t 33) (.t 36),none⟩,
 ⟨none,.mput 2 (.t 23) (.t 27) (.t 37),none⟩] [3,4,9,10,11,17,18,19])))
 (.ops [
 ⟨some 38,.bin .add (.t 19) (.c (.int .i64 1)),none⟩,
 ⟨some 19,.mv (.t 38),none⟩] [3,4,9,10,11,17,18,19])))))))))
 (.ops [
 ⟨some 39,.bin .add (.t 11) (.c (.int .i64 1)),none⟩,
 ⟨some 11,.mv (.t 39),none⟩] [3,9,10,11])))))))
 (.seq (.ops [
 ⟨some 40,.mv (.t 3),none⟩,
 ⟨some 2,.mv (.t 40),none⟩] [2])
 .ret)))),
 [.t 2]⟩
def c121 : CF := ⟨26,
 (.seq (.ops [
 ⟨some 3,.box false 26 2 (.t 1),none⟩,
 ⟨some 4,.mv (.c (.bool false)),none⟩] [0,3])
 (.seq (.draw [
 ⟨some 5,.faddr 0 (.t 3),none⟩,
 ⟨some 6,.load none (.t 5),none⟩,
 ⟨some 7,.bin .geq (.t 6) (.c (.int .i64 0)),none⟩,
 ⟨some 8,.mv (.t 7),none⟩,
 ⟨some 9,.faddr 0 (.t 3),some (8,true)⟩,
 ⟨some 10,.load none (.t 9),some (8,true)⟩,
 ⟨some 11,.mv (.t 0),some (8,true)⟩,
 ⟨some 12,.len (.t 11),some (8,true)⟩,
 ⟨some 13,.bin .lss (.t 10) (.t 12),some (8,true)⟩,
 ⟨some 14,.pick (.t 8) (.t 13) (.c (.bool false)),none⟩,
 ⟨some 15,.mv (.t 14),none⟩,
 ⟨some 16,.mv (.t 0),some (15,true)⟩,
 ⟨some 17,.faddr 0 (.t 3),some (15,true)⟩,
 ⟨some 18,.load none (.t 17),some (15,true)⟩,
 ⟨some 19,.iaddr 2 (.t 16) (.t 18),some (15,true)⟩,
 ⟨some 20,.faddr 0 (.t 19),some (15,true)⟩,
 ⟨some 21,.load none (.t 20),some (15,true)⟩,
 ⟨some 22,.faddr 1 (.t 3),some (15,true)⟩,
 ⟨some 23,.load none (.t 22),some (15,true)⟩,
 ⟨some 24,.call (.f 122) [(.t 21),(.t 23)],some (15,true)⟩,
 ⟨some 25,.pick (.t 15) (.t 24) (.c (.bool false)),none⟩,
 ⟨some 4,.mv (.t 25),none⟩] [
 ] [4])
 .ret)),
 [.t 4]⟩
def c61 : CF := ⟨67,
 (.seq (.ops [
 ⟨some 2,.box false 24 1 (.t 0),none⟩,
 ⟨some 4,.mv (.c (.int .i64 0)),none⟩] [1,2])
 (.seq (.seq (.ops [
 ⟨some 8,.load (some 1) (.t 2),none⟩,
 ⟨some 9,.call (.f 53) [(.t 8)],none⟩,
 ⟨some 5,.mv (.t 9),none⟩] [1,2,5])
 (.seq (.ops [
 ⟨some 10,.mv (.t 5),none⟩,
 ⟨some 11,.bin .neq (.t 10) (.c (.int .i64 0)),none⟩] [1,2,5,11])
 (.cond (.t 11) (.seq (.ops [
 ⟨some 12,.mv (.t 5),none⟩,
 ⟨some 4,.mv (.t 12),none⟩] [4])
 .ret)
 .skip)))
 (.seq (.seq (.ops [
 ⟨some 13,.mv (.t 1),none⟩,
 ⟨some 14,.len (.t 13),none⟩,
 ⟨some 15,.faddr 0 (.t 2),none⟩,
 ⟨some 16,.load none (.t 15),none⟩,
 ⟨some 17,.len (.t 16),none⟩,
 ⟨some 18,.bin .neq (.t 14) (.t 17),none⟩] [1,2,18])
 (.cond (.t 18) (.seq (.ops [
 ⟨some 4,.mv (.c (.int .i64 41)),none⟩] [4])
 .ret)
 .skip))
 (.seq (.seq (.ops [
 ⟨some 19,.mv (.t 1),none⟩,
 ⟨some 20,.len (.t 19),none⟩,
 ⟨some 21,.mv (.c (.int .i64 0)),none⟩] [1,2,19,20,21])
 (.block 0 (.loop (.seq (.ops [
 ⟨some 22,.bin .lss (.t 21) (.t 20),none⟩] [1,2,19,20,21,22])
 (.seq (.cond (.t 22) .skip
 (.exit 0))
 (.seq (.block 1 (.seq (.ops [
 ⟨some 23,.mv (.t 21),none⟩,
 ⟨some 24,.iaddr 2 (.t 19) (.t 21),none⟩,
 ⟨some 25,.load (some 2) (.t 24),none⟩,
 ⟨some 7,.alloc 26 2 [.int .i64 0,.int .i64 0],none⟩,
 ⟨some 6,.mv (.t 23),none⟩,
 ⟨none,.store 2 (.t 7) (.t 25),none⟩] [1,2,6,7,19,20,21])
 (.seq (.seq (.draw [
 ⟨some 26,.faddr 0 (.t 2),none⟩,
 ⟨some 27,.load none (.t 26),none⟩,
 ⟨some 28,.mv (.t 6),none⟩,
 ⟨some 29,.iaddr 1 (.t 27) (.t 28),none⟩,
 ⟨some 30,.load none (.t 29),none⟩,
 ⟨some 31,.load (some 2) (.t 7),none⟩,
 ⟨some 32,.call (.f 121) [(.t 30),(.t 31)],none⟩,
 ⟨some 33,.un .not (.t 32),none⟩] [
 ] [1,2,6,7,19,20,21,33])
 (.cond (.t 33) (.seq (.ops [
 ⟨some 4,.mv (.c (.int .i64 41)),none⟩] [4])
 .ret)
 .skip))
 (.seq (.draw [
 ⟨some 34,.mv (.t 6),none⟩,
 ⟨some 35,.bin .gtr (.t 34) (.c (.int .i64 0)),none⟩,
 ⟨some 36,.mv (.t 35),none⟩,
 ⟨some 37,.faddr 0 (.t 2),some (36,true)⟩,
 ⟨some 38,.load none (.t 37),some (36,true)⟩,
 ⟨some 39,.mv (.t 6),some (36,true)⟩,
 ⟨some 40,.bin .sub (.t 39) (.c (.int .i64 1)),some (36,true)⟩,
 ⟨some 41,.iaddr 1 (.t 38) (.t 40),some (36,true)⟩,
 ⟨some 42,.load none (.t 41),some (36,true)⟩,
 ⟨some 43,.call (.f 123) [(.t 42)],some (36,true)⟩,
 ⟨some 44,.mv (.t 1),some (36,true)⟩,
 ⟨some 45,.mv (.t 6),some (36,true)⟩,
 ⟨some 46,.bin .sub (.t 45) (.c (.int .i64 1)),some (36,true)⟩,
 ⟨some 47,.iaddr 2 (.t 44) (.t 46),some (36,true)⟩,
 ⟨some 48,.faddr 0 (.t 47),some (36,true)⟩,
 ⟨some 49,.load none (.t 48),some (36,true)⟩,
 ⟨some 50,.faddr 0 (.t 7),some (36,true)⟩,
 ⟨some 51,.load none (.t 50),some (36,true)⟩,
 ⟨some 52,.build [.int .i64 0,.int .i64 0] [(0,1,(.t 49)),(1,1,(.t 51))],some (36,true)⟩,
 ⟨some 53,.look 2 false [.slice none 0 0] false (.t 43) (.t 52),some (36,true)⟩,
 ⟨some 54,.faddr 1 (.t 7),some (36,true)⟩,
 ⟨some 55,.load none (.t 54),some (36,true)⟩,
 ⟨some 56,.mv (.t 1),some (36,true)⟩,
 ⟨some 57,.mv (.t 6),some (36,true)⟩,
 ⟨some 58,.bin .sub (.t 57) (.c (.int .i64 1)),some (36,true)⟩,
 ⟨some 59,.iaddr 2 (.t 56) (.t 58),some (36,true)⟩,
 ⟨some 60,.faddr 1 (.t 59),some (36,true)⟩,
 ⟨some 61,.load none (.t 60),some (36,true)⟩,
 ⟨some 62,.bin .sub (.t 55) (.t 61),some (36,true)⟩,
 ⟨some 63,.call (.f 122) [(.t 53),(.t 62)],some (36,true)⟩,
 ⟨some 64,.un .not (.t 63),some (36,true)⟩,
 ⟨some 65,.pick (.t 36) (.t 64) (.c (.bool false)),none⟩] [
 ] [1,2,19,20,21,65])
 (.cond (.t 65) (.seq (.ops [
 ⟨some 4,.mv (.c (.int .i64 41)),none⟩] [4])
 .ret)
 .skip)))))
 (.ops [
 ⟨some 66,.bin .add (.t 21) (.c (.int .i64 1)),none⟩,
 ⟨some 21,.mv (.t 66),none⟩] [1,2,19,20,21])))))))
 (.seq (.ops [
 ⟨some 4,.mv (.c (.int .i64 0)),none⟩] [4])
 .ret))))),
 [.t 4]⟩
theorem k123 : chkF Tryz.prog Tryz.f123 c123 = true := by kernel_rfl
theorem k121 : chkF Tryz.prog Tryz.f121 c121 = true := by kernel_rfl
theorem k61 : chkF Tryz.prog Tryz.f61 c61 = true := by kernel_rfl
theorem Pure.arg {P : Program} {f : Nat} {args args' : List AV} {r : AV} (h : Pure P f args r) (hl : args'.length = args.length)
    (hw : ∀ i, i < args.length → ∀ w X β σ x, RV w X β σ (args'.getD i .any) x → RV w X β σ (args.getD i .any) x) : Pure P f args' r :=
  ⟨h.ent, fun X w xs hX hxl hr => h.go X w xs hX (by omega) fun i hi => hw i hi _ _ _ _ _ (hr i (by omega))⟩
structure Ent where
  k : List Int
  l : List Sp
  g : Nat
abbrev entA (T : List Ent) : List (List Int × AV) := T.map fun t => (t.k, AV.own t.g 0 t.l.length)
def addE : List Ent → List Int → Sp → Nat → List Ent
  | [], k, s, g => [⟨k, [s], g⟩]
  | t :: r, k, s, g => if t.k = k then ⟨t.k, t.l ++ [s], t.g⟩ :: r else t :: addE r k s g
def addK : List (List Int × List Sp) → List Int → Sp → List (List Int × List Sp)
  | [], k, s => [(k, [s])]
  | t :: r, k, s => if t.1 = k then (t.1, t.2 ++ [s]) :: r else t :: addK r k s
abbrev hkey (h : Hop) : List Int := [(h.fr : Int), (h.to : Int)]
def hopK (hs : List Hop) : List (List Int × List Sp) := hs.foldl (fun a h => addK a (hkey h) h.ch) []
abbrev strE (T : List Ent) : List (List Int × List Sp) := T.map fun t => (t.k, t.l)
theorem strE_add : ∀ (T : List Ent) (k : List Int) (s : Sp) (g : Nat), strE (addE T k s g) = addK (strE T) k s
  | [], _, _, _ => rfl
  | t :: r, k, s, g => by
    unfold addE
    simp only [strE, List.map_cons, addK]
    split
    · rfl
    · simp only [List.map_cons]; rw [← strE_add r k s g]
theorem hopK_next {hs : List Hop} {i : Nat} {h : Hop} (e : hs[i]? = some h) : hopK (hs.take (i + 1)) = addK (hopK (hs.take i)) (hkey h) h.ch := by
  rw [take_snoc e]; simp [hopK]
theorem addK_len {N : Nat} {k : List Int} {s : Sp} : ∀ {E : List (List Int × List Sp)}, (∀ e ∈ E, e.2.length ≤ N) → ∀ e ∈ addK E k s, e.2.length ≤ N + 1
  | [], _, e, he => by simp only [addK, List.mem_singleton] at he; subst he; simp
  | t :: r, h, e, he => by
    unfold addK at he
    split at he
    · rcases List.mem_cons.1 he with rfl | he
      · have := h t (by simp); simp; omega
      · have := h e (by simp [he]); omega
    · rcases List.mem_cons.1 he with rfl | he
      · have := h e (by simp); omega
      · exact addK_len (fun x hx => h x (by simp [hx])) e he
theorem hopK_len {hs : List Hop} (i : Nat) (hi : i ≤ hs.length) : ∀ e ∈ hopK (hs.take i), e.2.length ≤ i := by
  induction i with
  | zero => simp [hopK]
  | succ i ih =>
    rw [hopK_next (List.getElem?_eq_getElem (by omega))]
    exact addK_len (ih (by omega))
theorem hops_len {m : Nat} : ∀ {l : List Nod} {i : Nat}, (∀ x ∈ l, nodOk m x) → (hopsF i l).length ≤ 64 * l.length
  | [], _, _ => by simp [hopsF]
  | x :: r, i, h => by
    have h1 := (h x (by simp)).2.1
    have h2 := hops_len (i := i + 1) (fun y hy => h y (by simp [hy]) : ∀ y ∈ r, nodOk m y)
    simp only [hopsF, List.length_append, hopsOf, List.length_map, List.length_cons]; omega
structure HopS (σ : Sto) (T : List Ent) : Prop where
  a : σ.at 0 0 = some ⟨0, 0, [], some (.mp 2 (entA T))⟩
  o : ∀ t ∈ T, σ.at t.g 0 = some (spO t.l)
  inj : T.Pairwise fun a b => a.g ≠ b.g
theorem ent_none {T : List Ent} {k : List Int} {s : Sp} {g : Nat} (h : ∀ t ∈ T, t.k ≠ k) : mget (entA T) k = none ∧ mset (entA T) k (.own g 0 1) = entA (addE T k s g) ∧ addE T k s g = T ++ [⟨k, [s], g⟩] := by
  induction T with
  | nil => exact ⟨rfl, rfl, rfl⟩
  | cons t r ih =>
    obtain ⟨h1, h2, h3⟩ := ih fun t ht => h t (by simp [ht])
    have hk : ¬ t.k = k := h t (by simp)
    simp only [entA, List.map_cons, mget, hk, if_false, mset, addE, List.cons_append, h3] at h1 h2 ⊢
    exact ⟨h1, by rw [h2], trivial⟩
theorem ent_some {T : List Ent} {k : List Int} {s : Sp} {g : Nat} (h : ¬ ∀ t ∈ T, t.k ≠ k) : ∃ A t B, T = A ++ t :: B ∧ t.k = k ∧ mget (entA T) k = some (.own t.g 0 t.l.length) ∧ mset (entA T) k (.own t.g 0 (t.l.length + 1)) = entA (addE T k s g) ∧
    addE T k s g = A ++ ⟨t.k, t.l ++ [s], t.g⟩ :: B := by
  induction T with
  | nil => exact absurd (by simp) h
  | cons t r ih =>
    by_cases hk : t.k = k
    · subst hk
      exact ⟨[], t, r, rfl, rfl, by simp [mget], by simp [mset, addE], by simp [addE]⟩
    · obtain ⟨A, u, B, rfl, h1, h2, h3, h4⟩ := ih fun h' => h fun t' ht => by
        rcases List.mem_cons.1 ht with rfl | ht
        · exact hk
        · exact h' t' ht
      refine ⟨t :: A, u, B, rfl, h1, ?_, ?_, ?_⟩
      · simp only [entA, List.map_cons, mget, hk, if_false]; exact h2
      · simp only [entA, List.map_cons, mset, hk, if_false, addE]; rw [h3]
      · simp only [addE, hk, if_false, h4, List.cons_append]
theorem HopS.app {σ : Sto} {T : List Ent} (h : HopS σ T) (ν : Sto) : HopS (σ ++ ν) T :=
  ⟨by rw [at_appL (at_lt h.a)]; exact h.a, fun t ht => by rw [at_appL (at_lt (h.o t ht))]; exact h.o t ht, h.inj⟩
theorem HopS.lt {σ : Sto} {T : List Ent} (h : HopS σ T) {t : Ent} (ht : t ∈ T) : t.g < σ.length ∧ t.g ≠ 0 := by
  refine ⟨at_lt (h.o t ht), fun e => ?_⟩
  have h1 := h.o t ht
  rw [e, h.a] at h1
  injection h1 with h1
  have := congrArg Ob.T h1
  cases this
theorem HopS.new {σ : Sto} {T : List Ent} {k : List Int} {s : Sp} (h : HopS σ T) (hk : ∀ t ∈ T, t.k ≠ k) :
    HopS (Sto.upd (σ ++ [some [spO [s]]]) 0 0 ⟨0, 0, [], some (.mp 2 (entA (addE T k s σ.length)))⟩) (addE T k s σ.length) := by
  have h0 := at_lt h.a
  obtain ⟨_, _, h3⟩ := ent_none (s := s) (g := σ.length) hk
  refine ⟨at_upd_same (h.app _).a, fun t ht => ?_, ?_⟩
  · rw [h3, List.mem_append, List.mem_singleton] at ht
    rcases ht with ht | rfl
    · rw [at_upd_other (.inl (h.lt ht).2.symm), at_appL (h.lt ht).1]; exact h.o t ht
    · rw [at_upd_other (.inl (by simp only; omega))]; simp only; rw [at_app0]; simp [Sto.at]
  · rw [h3, List.pairwise_append]
    refine ⟨h.inj, by simp, fun a ha b hb => ?_⟩
    rw [List.mem_singleton] at hb; subst hb
    have := (h.lt ha).1
    simp only; omega
theorem HopS.old {σ : Sto} {A B : List Ent} {t : Ent} {s : Sp} {M : List (List Int × AV)} (h : HopS σ (A ++ t :: B)) (hM : M = entA (A ++ ⟨t.k, t.l ++ [s], t.g⟩ :: B)) :
    HopS (Sto.upd (σ.upd t.g 0 (spO (t.l ++ [s]))) 0 0 ⟨0, 0, [], some (.mp 2 M)⟩) (A ++ ⟨t.k, t.l ++ [s], t.g⟩ :: B) := by
  subst hM
  have ht := h.lt (t := t) (by simp)
  have hp := h.inj
  rw [List.pairwise_append, List.pairwise_cons] at hp
  obtain ⟨p1, ⟨p2, p3⟩, p4⟩ := hp
  have key : ∀ u, (u ∈ A ∨ u ∈ B) → Sto.at (Sto.upd (σ.upd t.g 0 (spO (t.l ++ [s]))) 0 0 ⟨0, 0, [], some (.mp 2 (entA (A ++ ⟨t.k, t.l ++ [s], t.g⟩ :: B)))⟩) u.g 0 = some (spO u.l) := by
    intro u hu
    have hm : u ∈ A ++ t :: B := by rcases hu with hu | hu <;> simp [hu]
    have hne : t.g ≠ u.g := by
      rcases hu with hu | hu
      · exact (p4 u hu t (by simp)).symm
      · exact p2 u hu
    rw [at_upd_other (.inl (h.lt hm).2.symm), at_upd_other (.inl hne)]
    exact h.o u hm
  refine ⟨at_upd_same (o := ⟨0, 0, [], some (.mp 2 (entA (A ++ t :: B)))⟩) (by rw [at_upd_other (.inl ht.2)]; exact h.a), fun u hu => ?_, ?_⟩
  · rw [List.mem_append, List.mem_cons] at hu
    rcases hu with hu | rfl | hu
    · exact key u (.inl hu)
    · simp only
      rw [at_upd_other (.inl ht.2.symm)]
      exact at_upd_same (h.o t (by simp))
    · exact key u (.inr hu)
  · rw [List.pairwise_append, List.pairwise_cons]
    refine ⟨p1, ⟨p2, p3⟩, fun a ha b hb => ?_⟩
    rcases List.mem_cons.1 hb with rfl | hb
    · exact p4 a ha t (by simp)
    · exact p4 a ha b (by simp [hb])
abbrev mapS (E : List (List Int × List Sp)) : AV := .imap 2 (E.map fun e => (e.1, spS e.2))
theorem hops_spec (m : Nat) (l : List Nod) (hl : stgOk m l) : Pure Tryz.prog 123 [stS l] (mapS (hopK (hops l))) := by
  refine Pure.of_body Tryz.call123 Tryz.func123 k123 (Nat.le_of_ble_eq_true rfl) ?_
  unfold c123
  obtain ⟨v1, v2, v3⟩ := hl
  (repeat' ((first
 | refine vn rfl ?_
 | simp (disch := omega) only [wr64, Int.zero_sub]
 | refine AWPC.both (fun _ => ?_) (fun _ => ?_)
 | refine AWPC.imp (fun _ => ?_)
 | refine cF ?_
 | refine om ?_
 | refine an ?_
 | fail) <;> try simp only [zT, zV, zS, zU, vcC, kscp, lateX, ex, strp, cnd, binA, kseq, kblk, kret, klp, Abs.one, elems, cells, scalar, eqC, keyA, intsA, lookA, ofVs, mpOf, Nat.reduceBEq, reduceAdd, reduceSub, reduceLT, reduceLeDiff, reduceMul, reduceEqDiff, reduceIte]))
  have h00 : HopS [some [⟨0, 0, [], some (.mp 2 [])⟩]] [] := ⟨rfl, by simp, List.Pairwise.nil⟩
  refine AWPC.loopE (α := { x : Nat × Nat × List Ent × Sto // x.1 ≤ l.length ∧ (hops l).drop x.2.1 = hopsF x.1 (l.drop x.1) ∧ x.2.1 ≤ (hops l).length ∧ HopS x.2.2.2 x.2.2.1 ∧ strE x.2.2.1 = hopK ((hops l).take x.2.1) }) [11] (fun x => [(11, n x.1.1)]) (fun x => x.1.2.2.2) (fun x => l.length - x.1.1)
    ⟨(0, 0, [], _), by simp, by simp, by simp, h00, rfl⟩ ?_ ?_ ?_
  · (simp only [zT, zV, zS, zU, vcC, kscp, lateX, ex, strp, cnd, binA, kseq, kblk, kret, klp, Abs.one, elems, cells, scalar, eqC, keyA, intsA, lookA, ofVs, mpOf, Nat.reduceBEq, reduceAdd, reduceSub, reduceLT, reduceLeDiff, reduceMul, reduceEqDiff, reduceIte]; try simp)
  · rfl
  rintro ⟨⟨i, m', T, τ⟩, hi, hd, hm, hS, hT⟩
  simp only at hi hd hm hS hT
  by_cases hlt : i < l.length
  · obtain ⟨x, hx⟩ : ∃ x, l[i]? = some x := ⟨_, List.getElem?_eq_getElem hlt⟩
    obtain ⟨w1, w2, w3⟩ := v3 x (List.mem_of_getElem? hx)
    have hdi : (hops l).drop m' = hopsOf i x ++ hopsF (i + 1) (l.drop (i + 1)) := by rw [hd, drop_cons hx]; rfl
    (repeat' ((first
 | refine vn rfl ?_
 | simp (disch := omega) only [wr64, Int.zero_sub]
 | refine AWPC.both (fun _ => ?_) (fun _ => ?_)
 | refine AWPC.imp (fun _ => ?_)
 | refine cF ?_
 | refine om ?_
 | refine an ?_
 | fail) <;> try simp only [zT, zV, zS, zU, vcC, kscp, lateX, ex, strp, cnd, binA, kseq, kblk, kret, klp, Abs.one, elems, cells, scalar, eqC, keyA, intsA, lookA, ofVs, mpOf, Nat.reduceBEq, reduceAdd, reduceSub, reduceLT, reduceLeDiff, reduceMul, reduceEqDiff, reduceIte, getD_map hx]))
    all_goals try (exfalso; omega)
    refine AWPC.loopE (α := { x' : Nat × Nat × List Ent × Sto // x'.1 ≤ x.nx.length ∧ (hops l).drop x'.2.1 = (hopsOf i x).drop x'.1 ++ hopsF (i + 1) (l.drop (i + 1)) ∧ x'.2.1 ≤ (hops l).length ∧ HopS x'.2.2.2 x'.2.2.1 ∧ strE x'.2.2.1 = hopK ((hops l).take x'.2.1) }) [19]
      (fun x => [(19, n x.1.1)]) (fun x => x.1.2.2.2) (fun x' => x.nx.length - x'.1.1) ⟨(0, m', T, τ ++ [some [⟨80, 2, [Nod.cs x], none⟩]]), by simp, by simpa using hdi, hm, hS.app _, hT⟩ ?_ ?_ ?_
    · (simp only [zT, zV, zS, zU, vcC, kscp, lateX, ex, strp, cnd, binA, kseq, kblk, kret, klp, Abs.one, elems, cells, scalar, eqC, keyA, intsA, lookA, ofVs, mpOf, Nat.reduceBEq, reduceAdd, reduceSub, reduceLT, reduceLeDiff, reduceMul, reduceEqDiff, reduceIte]; try simp)
    · rfl
    rintro ⟨⟨j, m', T, τ⟩, hj, hd, hm, hS, hT⟩
    simp only at hj hd hm hS hT
    have aM : ∀ ν, Sto.at (τ ++ ν) 0 0 = some ⟨0, 0, [], some (.mp 2 (entA T))⟩ := fun ν => by rw [at_appL (at_lt hS.a)]; exact hS.a
    by_cases hlt2 : j < x.nx.length
    · obtain ⟨e, he⟩ : ∃ e, x.nx[j]? = some e := ⟨_, List.getElem?_eq_getElem hlt2⟩
      obtain ⟨u1, u2, u3⟩ := w3 e (List.mem_of_getElem? he)
      have hho : (hopsOf i x)[j]? = some ⟨i, e.to.toNat, e.ch⟩ := by simp [hopsOf, he]
      rw [drop_cons hho, List.cons_append] at hd
      obtain ⟨hxm, hd'⟩ := drop_next hd
      have hm1 := (List.getElem?_eq_some_iff.1 hxm).1
      have hnx := hopK_next hxm
      have ht0 : ((e.to.toNat : Nat) : Int) = e.to := by omega
      simp only [hkey, ht0] at hnx
      by_cases hk : ∀ t ∈ T, t.k ≠ [(i : Int), e.to]
      · obtain ⟨g1, g2, g3⟩ := ent_none (s := e.ch) (g := List.length τ + 1) hk
        have hN := (hS.app [some [⟨124, 3, [Edg.cs e], none⟩]]).new (s := e.ch) hk
        rw [List.length_append, List.length_singleton, List.append_assoc] at hN
        have hT' := strE_add T [(i : Int), e.to] e.ch (List.length τ + 1)
        (repeat' ((first
 | refine vn rfl ?_
 | simp (disch := omega) only [wr64, Int.zero_sub]
 | refine AWPC.both (fun _ => ?_) (fun _ => ?_)
 | refine AWPC.imp (fun _ => ?_)
 | refine cF ?_
 | refine om ?_
 | refine an ?_
 | fail) <;> try simp only [zT, zV, zS, zU, vcC, kscp, lateX, ex, strp, cnd, binA, kseq, kblk, kret, klp, Abs.one, elems, cells, scalar, eqC, keyA, intsA, lookA, ofVs, mpOf, Nat.reduceBEq, reduceAdd, reduceSub, reduceLT, reduceLeDiff, reduceMul, reduceEqDiff, reduceIte, getD_map he, aM, g1, g2]))
        all_goals try (exfalso; omega)
        exact ⟨⟨(j + 1, m' + 1, _, _), hlt2, hd', hm1, hN, by simp only; rw [hT', hT, hnx]⟩, by simp, rfl, by simp only; omega⟩
      · obtain ⟨A, t, B, rfl, ek, g1, g2, g3⟩ := ent_some (s := e.ch) (g := 0) hk
        have htm : t ∈ A ++ t :: B := by simp
        obtain ⟨tl, t0⟩ := hS.lt htm
        have hN := (hS.app [some [⟨124, 3, [Edg.cs e], none⟩]]).old (s := e.ch) (M := entA (addE (A ++ t :: B) [(i : Int), e.to] e.ch 0)) (by rw [g3])
        have hT' := strE_add (A ++ t :: B) [(i : Int), e.to] e.ch 0
        rw [show spO (t.l ++ [e.ch]) = ⟨30, 2, t.l.map Sp.cs ++ [Sp.cs e.ch], none⟩ from by simp [spO]] at hN
        have aG : ∀ ν, Sto.at (τ ++ ν) t.g 0 = some (spO t.l) := fun ν => by rw [at_appL tl]; exact hS.o t htm
        have aU : ∀ ν o, Sto.at (Sto.upd (τ ++ ν) t.g 0 o) 0 0 = some ⟨0, 0, [], some (.mp 2 (entA (A ++ t :: B)))⟩ := fun ν o => by rw [at_upd_other (.inl t0)]; exact aM ν
        have aV : ∀ x ν o, Sto.at (Sto.upd (τ ++ some [x] :: ν) t.g 0 o) (List.length τ) 0 = some x := fun x ν o => by rw [at_upd_other (.inl (by omega)), at_app0]; rfl
        have hsz : t.l.length ≤ m' := hopK_len m' hm (t.k, t.l) (by rw [← hT]; exact List.mem_map.2 ⟨t, htm, rfl⟩)
        have hsz2 : t.l.length + 1 ≤ 1000000 := by
          have hhl : (hops l).length ≤ 64 * l.length := hops_len v3
          omega
        (repeat' ((first
 | refine vn rfl ?_
 | simp (disch := omega) only [wr64, Int.zero_sub]
 | refine AWPC.both (fun _ => ?_) (fun _ => ?_)
 | refine AWPC.imp (fun _ => ?_)
 | refine cF ?_
 | refine om ?_
 | refine an ?_
 | fail) <;> try simp only [zT, zV, zS, zU, vcC, kscp, lateX, ex, strp, cnd, binA, kseq, kblk, kret, klp, Abs.one, elems, cells, scalar, eqC, keyA, intsA, lookA, ofVs, mpOf, Nat.reduceBEq, reduceAdd, reduceSub, reduceLT, reduceLeDiff, reduceMul, reduceEqDiff, reduceIte, getD_map he, aM, aG, aU, aV, g1, g2]))
        all_goals try (exfalso; omega)
        exact ⟨⟨(j + 1, m' + 1, A ++ ⟨t.k, t.l ++ [e.ch], t.g⟩ :: B, _), hlt2, hd', hm1, hN, by simp only; rw [← g3, hT', hT, hnx]⟩, by simp, rfl, by simp only; omega⟩
    · obtain rfl : j = x.nx.length := by omega
      have hdn : (hopsOf i x).drop x.nx.length = [] := List.drop_eq_nil_of_le (by simp [hopsOf])
      rw [hdn, List.nil_append] at hd
      (repeat' ((first
 | refine vn rfl ?_
 | simp (disch := omega) only [wr64, Int.zero_sub]
 | refine AWPC.both (fun _ => ?_) (fun _ => ?_)
 | refine AWPC.imp (fun _ => ?_)
 | refine cF ?_
 | refine om ?_
 | refine an ?_
 | fail) <;> try simp only [zT, zV, zS, zU, vcC, kscp, lateX, ex, strp, cnd, binA, kseq, kblk, kret, klp, Abs.one, elems, cells, scalar, eqC, keyA, intsA, lookA, ofVs, mpOf, Nat.reduceBEq, reduceAdd, reduceSub, reduceLT, reduceLeDiff, reduceMul, reduceEqDiff, reduceIte]))
      all_goals try (exfalso; omega)
      exact ⟨⟨(i + 1, m', T, τ), hlt, hd, hm, hS, hT⟩, by simp, rfl, by simp only; omega⟩
  · obtain rfl : i = l.length := by omega
    rw [List.drop_length] at hd
    have : m' = (hops l).length := by have := List.drop_eq_nil_iff.1 hd; omega
    subst this
    rw [List.take_length] at hT
    (repeat' ((first
 | refine vn rfl ?_
 | simp (disch := omega) only [wr64, Int.zero_sub]
 | refine AWPC.both (fun _ => ?_) (fun _ => ?_)
 | refine AWPC.imp (fun _ => ?_)
 | refine cF ?_
 | refine om ?_
 | refine an ?_
 | fail) <;> try simp only [zT, zV, zS, zU, vcC, kscp, lateX, ex, strp, cnd, binA, kseq, kblk, kret, klp, Abs.one, elems, cells, scalar, eqC, keyA, intsA, lookA, ofVs, mpOf, Nat.reduceBEq, reduceAdd, reduceSub, reduceLT, reduceLeDiff, reduceMul, reduceEqDiff, reduceIte]))
    all_goals try (exfalso; omega)
    have hlen : (hopK (hops l)).length = T.length := by rw [← hT]; simp
    refine Frz.mp (n := 2) (m := entA T) hS.a (by simp [mpOf]) (by simp [hlen]) (fun q hq => ?_) fun q hq => ?_
    · simp only [List.length_map] at hq
      rw [← hT, List.map_map, getD_map' (List.getElem?_eq_getElem hq), getD_map' (List.getElem?_eq_getElem hq)]
      rfl
    · simp only [List.length_map] at hq
      rw [← hT, List.map_map, getD_map' (List.getElem?_eq_getElem hq), getD_map' (List.getElem?_eq_getElem hq)]
      exact frz_sp (hS.o _ (List.getElem_mem hq))
def chs (hs : List Hop) (k : List Int) : List Sp := (hs.filter fun h => decide (hkey h = k)).map (·.ch)
theorem addK_get {E : List (List Int × List Sp)} {k k' : List Int} {s : Sp} :
    ((addK E k s).find? fun e => decide (e.1 = k')).map (·.2) = if k = k' then some ((((E.find? fun e => decide (e.1 = k')).map (·.2)).getD []) ++ [s]) else (E.find? fun e => decide (e.1 = k')).map (·.2) := by
  induction E with
  | nil =>
    by_cases h : k = k' <;> simp [addK, h]
  | cons e r ih =>
    unfold addK
    by_cases h1 : e.1 = k
    · subst h1
      by_cases h2 : e.1 = k' <;> simp [h2]
    · simp only [h1, if_false, List.find?_cons]
      by_cases h2 : e.1 = k'
      · have h3 : ¬ k = k' := fun h => h1 (h2.trans h.symm)
        simp [h2, h3]
      · simp only [h2, decide_false, ih]
theorem hopK_get (hs : List Hop) (k : List Int) : ((hopK hs).find? fun e => decide (e.1 = k)).map (·.2) = if chs hs k = [] then none else some (chs hs k) := by
  have key : ∀ i, i ≤ hs.length → ((hopK (hs.take i)).find? fun e => decide (e.1 = k)).map (·.2) = if chs (hs.take i) k = [] then none else some (chs (hs.take i) k) := by
    intro i
    induction i with
    | zero => intro _; rfl
    | succ i ih =>
      intro hi
      have e := List.getElem?_eq_getElem (l := hs) (i := i) (by omega)
      have hc : chs (hs.take (i + 1)) k = if hkey hs[i] = k then chs (hs.take i) k ++ [hs[i].ch] else chs (hs.take i) k := by
        rw [take_snoc e]
        unfold chs
        rw [List.filter_append]
        by_cases h : hkey hs[i] = k <;> simp [h]
      rw [hopK_next e, addK_get, ih (by omega), hc]
      by_cases h : hkey hs[i] = k
      · simp only [h, if_true]
        by_cases h2 : chs (hs.take i) k = [] <;> simp [h2]
      · simp only [h, if_false]
  have := key hs.length (Nat.le_refl _)
  rwa [List.take_length] at this
theorem mapS_get (hs : List Hop) (k : List Int) : mget ((hopK hs).map fun e => (e.1, spS e.2)) k = if chs hs k = [] then none else some (spS (chs hs k)) := by
  rw [mget_map (fun e : List Int × List Sp => e.1) (fun e => spS e.2)]
  have h := hopK_get hs k
  generalize (hopK hs).find? (fun e => decide (e.1 = k)) = q at *
  cases q with
  | none =>
    by_cases h2 : chs hs k = []
    · simp [h2]
    · rw [if_neg h2] at h; cases h
  | some e =>
    by_cases h2 : chs hs k = []
    · rw [if_pos h2] at h; cases h
    · rw [if_neg h2] at h ⊢
      simp only [Option.map_some, Option.some.injEq] at h ⊢
      rw [h]
theorem isPlace_spec (l : List Nod) (a : At) (hl : stgSz l) : Pure Tryz.prog 121 [stS l, .agg (At.cs a)] (bl (tr (0 ≤ a.node ∧ a.node < (l.length : Int) ∧ Mem a.val ((l.map (·.al)).getD a.node.toNat [])))) := by
  refine Pure.of_body Tryz.call121 Tryz.func121 k121 (Nat.le_of_ble_eq_true rfl) ?_
  unfold c121
  by_cases h : 0 ≤ a.node ∧ a.node < (l.length : Int)
  · obtain ⟨x, hx⟩ : ∃ x, l[a.node.toNat]? = some x := ⟨_, List.getElem?_eq_getElem (by omega)⟩
    have hs := hl.2 x (List.mem_of_getElem? hx)
    rw [getD_map' hx]
    obtain ⟨h1, h2⟩ := h
    (repeat' ((first
 | refine vn rfl ?_
 | simp (disch := omega) only [wr64, Int.zero_sub]
 | refine AWPC.both (fun _ => ?_) (fun _ => ?_)
 | refine AWPC.imp (fun _ => ?_)
 | ((repeat refine si ?_); (first | ((first | refine .inl ⟨_, _, _, _, rfl, fun _ => pu (has_spec x.al a.val hs.1), ?_⟩ | refine ⟨_, _, _, _, rfl, fun _ => pu (has_spec x.al a.val hs.1), ?_⟩); (first | refine owp_of_exs ?_ | refine pre_of_exd ?_ | refine pre_of_exe ?_ | refine pre_of_exv ?_)) | refine .inl ⟨_, _, _, _, rfl, pu (has_spec x.al a.val hs.1), ?_⟩))
 | refine cF ?_
 | refine om ?_
 | refine an ?_
 | fail) <;> try simp only [zT, zV, zS, zU, vcC, kscp, lateX, ex, strp, cnd, binA, kseq, kblk, kret, klp, Abs.one, elems, cells, scalar, eqC, keyA, intsA, lookA, ofVs, mpOf, Nat.reduceBEq, reduceAdd, reduceSub, reduceLT, reduceLeDiff, reduceMul, reduceEqDiff, reduceIte, getD_map hx]))
    all_goals try (exfalso; omega)
    refine Frz.eq (congrArg bl ?_) (by simp)
    simp [h1, h2]
  · have fin : ∀ q : Prop, tr (0 ≤ a.node ∧ a.node < (l.length : Int) ∧ q) = false := fun q => tr_0 fun h' => h ⟨h'.1, h'.2.1⟩
    rw [fin]
    cases hq : l[a.node.toNat]? with
    | none =>
      have h0 : (l.map Nod.cs).getD a.node.toNat [] = [] := by simp [List.getD_eq_getElem?_getD, hq]
      (repeat' ((first
 | refine vn rfl ?_
 | simp (disch := omega) only [wr64, Int.zero_sub]
 | refine AWPC.both (fun _ => ?_) (fun _ => ?_)
 | refine AWPC.imp (fun _ => ?_)
 | refine cF ?_
 | refine cG ?_
 | refine om ?_
 | refine an ?_
 | fail) <;> try simp only [zT, zV, zS, zU, vcC, kscp, lateX, ex, strp, cnd, binA, kseq, kblk, kret, klp, Abs.one, elems, cells, scalar, eqC, keyA, intsA, lookA, ofVs, mpOf, Nat.reduceBEq, reduceAdd, reduceSub, reduceLT, reduceLeDiff, reduceMul, reduceEqDiff, reduceIte, h0, h]))
      all_goals exact Frz.eq rfl (by simp)
    | some x =>
      (repeat' ((first
 | refine vn rfl ?_
 | simp (disch := omega) only [wr64, Int.zero_sub]
 | refine AWPC.both (fun _ => ?_) (fun _ => ?_)
 | refine AWPC.imp (fun _ => ?_)
 | ((repeat refine si ?_); (first | ((first | refine .inl ⟨_, _, _, _, rfl, fun _ => pu (has_spec x.al a.val (hl.2 x (List.mem_of_getElem? hq)).1), ?_⟩ | refine ⟨_, _, _, _, rfl, fun _ => pu (has_spec x.al a.val (hl.2 x (List.mem_of_getElem? hq)).1), ?_⟩); (first | refine owp_of_exs ?_ | refine pre_of_exd ?_ | refine pre_of_exe ?_ | refine pre_of_exv ?_)) | refine .inl ⟨_, _, _, _, rfl, pu (has_spec x.al a.val (hl.2 x (List.mem_of_getElem? hq)).1), ?_⟩))
 | refine cF ?_
 | refine om ?_
 | refine an ?_
 | fail) <;> try simp only [zT, zV, zS, zU, vcC, kscp, lateX, ex, strp, cnd, binA, kseq, kblk, kret, klp, Abs.one, elems, cells, scalar, eqC, keyA, intsA, lookA, ofVs, mpOf, Nat.reduceBEq, reduceAdd, reduceSub, reduceLT, reduceLeDiff, reduceMul, reduceEqDiff, reduceIte, getD_map hq]))
      refine Frz.eq (congrArg bl ?_) (by simp)
      simp only [decide_eq_false_iff_not]
      exact fun h' => h h'.1
theorem has_nil (v : Int) : Pure Tryz.prog 122 [.v (.slice none 0 0), n v] (bl (tr (Mem v []))) :=
  Pure.arg (has_spec [] v (by decide)) rfl fun i hi w X β σ x hx => by
    match i, hi with
    | 0, _ => cases hx; exact .slnil _
    | 1, _ => exact hx
theorem way_snoc {t : Trk} {c : List At} {k : Nat} {a : At} (ha : c[k]? = some a) : way t 0 (c.take (k + 1)) ↔ way t 0 (c.take k) ∧ placeOk t k a ∧ (∀ p, 0 < k → c[k - 1]? = some p → stepOk t (k - 1) p a) := by
  have hk := (List.getElem?_eq_some_iff.1 ha).1
  have hlen : (c.take k).length = k := by rw [List.length_take]; omega
  rw [take_snoc ha, way_append, hlen]
  refine and_congr_right fun _ => ?_
  simp only [way, Nat.zero_add, List.getElem?_cons_zero, Option.some.injEq]
  refine and_congr_right fun _ => ?_
  constructor
  · intro h p h0 hp
    refine h p a ?_ rfl
    rw [List.getLast?_eq_getElem?, hlen, List.getElem?_take, if_pos (by omega)]; exact hp
  · rintro h p b hp rfl
    rw [List.getLast?_eq_getElem?, hlen] at hp
    by_cases h0 : 0 < k
    · rw [List.getElem?_take, if_pos (by omega)] at hp
      exact h p h0 hp
    · obtain rfl : k = 0 := by omega
      simp at hp
theorem way_take {t : Trk} {c : List At} (h : way t 0 c) (k : Nat) : way t 0 (c.take k) := by
  rw [← List.take_append_drop k c, way_append] at h
  exact h.1
theorem stepOk_chs {t : Trk} {k : Nat} {p a : At} (hp : 0 ≤ p.node) (ha : 0 ≤ a.node) : stepOk t k p a ↔ Mem (a.val - p.val) (chs (stp t k) [p.node, a.node]) := by
  unfold stepOk chs Mem
  constructor
  · rintro ⟨h, hm, e1, e2, h1, h2⟩
    refine ⟨h.ch, List.mem_map.2 ⟨h, List.mem_filter.2 ⟨hm, ?_⟩, rfl⟩, h1, h2⟩
    simp only [hkey, List.cons.injEq, and_true, decide_eq_true_eq]; omega
  · rintro ⟨s, hs, h1, h2⟩
    obtain ⟨h, hm, rfl⟩ := List.mem_map.1 hs
    obtain ⟨hm, e⟩ := List.mem_filter.1 hm
    simp only [hkey, List.cons.injEq, and_true, decide_eq_true_eq] at e
    exact ⟨h, hm, by omega, by omega, h1, h2⟩
theorem mem_val {t : Trk} (hv : valid t) {k : Nat} {a : At} (h : placeOk t k a) : -100000 ≤ a.val ∧ a.val ≤ 100000 := mem_of_in (goods_get (als_goods hv k) _).2 h.2.2
theorem Keeps_spec (t : Trk) (c : List At) (hs : trkSz t) (hc : c.length < 9223372036854775808) : Pure Tryz.prog 61 [trS t, atS c] (n (if tr (valid t) then (if tr (course t c) then 0 else 41) else 40)) := by
  refine Pure.of_body Tryz.call61 Tryz.func61 k61 (Nat.le_of_ble_eq_true rfl) ?_
  unfold c61
  by_cases hv : valid t
  · rw [tr_1 hv, if_pos rfl]
    have hck := Check_spec t hs
    rw [tr_1 hv, if_pos rfl] at hck
    by_cases hl : c.length = t.length
    · have hln := hs.1
      (repeat' ((first
 | refine vn rfl ?_
 | simp (disch := omega) only [wr64, Int.zero_sub]
 | refine AWPC.both (fun _ => ?_) (fun _ => ?_)
 | refine AWPC.imp (fun _ => ?_)
 | ((repeat refine si ?_); (first | ((first | refine .inl ⟨_, _, _, _, rfl, fun _ => pu hck, ?_⟩ | refine ⟨_, _, _, _, rfl, fun _ => pu hck, ?_⟩); (first | refine owp_of_exs ?_ | refine pre_of_exd ?_ | refine pre_of_exe ?_ | refine pre_of_exv ?_)) | refine .inl ⟨_, _, _, _, rfl, pu hck, ?_⟩))
 | refine cF ?_
 | refine om ?_
 | refine an ?_
 | fail) <;> try simp only [zT, zV, zS, zU, vcC, kscp, lateX, ex, strp, cnd, binA, kseq, kblk, kret, klp, Abs.one, elems, cells, scalar, eqC, keyA, intsA, lookA, ofVs, mpOf, Nat.reduceBEq, reduceAdd, reduceSub, reduceLT, reduceLeDiff, reduceMul, reduceEqDiff, reduceIte]))
      all_goals try (exfalso; omega)
      refine AWPC.loopE (α := { x : Nat × Sto // x.1 ≤ c.length ∧ way t 0 (c.take x.1) }) [21] (fun x => [(21, n x.1.1)]) (fun x => x.1.2) (fun x => c.length - x.1.1) ⟨(0, []), by simp, trivial⟩ ?_ ?_ ?_
      · (simp only [zT, zV, zS, zU, vcC, kscp, lateX, ex, strp, cnd, binA, kseq, kblk, kret, klp, Abs.one, elems, cells, scalar, eqC, keyA, intsA, lookA, ofVs, mpOf, Nat.reduceBEq, reduceAdd, reduceSub, reduceLT, reduceLeDiff, reduceMul, reduceEqDiff, reduceIte]; try simp)
      · rfl
      rintro ⟨⟨k, τ⟩, hk, hw⟩
      simp only at hk hw
      simp only
      by_cases hlt : k < c.length
      · obtain ⟨a, ha⟩ : ∃ a, c[k]? = some a := ⟨_, List.getElem?_eq_getElem hlt⟩
        obtain ⟨L, hL⟩ : ∃ L, t[k]? = some L := ⟨_, List.getElem?_eq_getElem (by omega)⟩
        have hp := isPlace_spec L a (hs.2 L (List.mem_of_getElem? hL))
        have hL' : t.getD k [] = L := by rw [List.getD_eq_getElem?_getD, hL]; rfl
        have hpl : (0 ≤ a.node ∧ a.node < (L.length : Int) ∧ Mem a.val ((L.map (·.al)).getD a.node.toNat [])) ↔ placeOk t k a := by unfold placeOk wd als; rw [hL']
        have hsn := way_snoc (t := t) ha
        have hno : ¬ way t 0 (c.take (k + 1)) → ¬ course t c := fun h h' => h (way_take h'.2 _)
        by_cases hpa : placeOk t k a
        · rw [tr_1 (hpl.2 hpa)] at hp
          obtain ⟨b1, b2⟩ := mem_val hv hpa
          by_cases h0 : k = 0
          · subst h0
            have hm1 : (-1 : Int).toNat = 0 := rfl
            (repeat' ((first
 | refine vn rfl ?_
 | simp (disch := omega) only [wr64, Int.zero_sub]
 | refine AWPC.both (fun _ => ?_) (fun _ => ?_)
 | refine AWPC.imp (fun _ => ?_)
 | ((repeat refine si ?_); (first | ((first | refine .inl ⟨_, _, _, _, rfl, fun _ => pu hp, ?_⟩ | refine ⟨_, _, _, _, rfl, fun _ => pu hp, ?_⟩); (first | refine owp_of_exs ?_ | refine pre_of_exd ?_ | refine pre_of_exe ?_ | refine pre_of_exv ?_)) | refine .inl ⟨_, _, _, _, rfl, pu hp, ?_⟩))
 | refine cF ?_
 | refine cG ?_
 | refine om ?_
 | refine an ?_
 | fail) <;> try simp only [zT, zV, zS, zU, vcC, kscp, lateX, ex, strp, cnd, binA, kseq, kblk, kret, klp, Abs.one, elems, cells, scalar, eqC, keyA, intsA, lookA, ofVs, mpOf, Nat.reduceBEq, reduceAdd, reduceSub, reduceLT, reduceLeDiff, reduceMul, reduceEqDiff, reduceIte, getD_map ha, getD_map hL, hm1]))
            all_goals try (exfalso; omega)
            exact ⟨⟨(1, _), hlt, hsn.2 ⟨hw, hpa, fun p h => absurd h (by omega)⟩⟩, by simp, rfl, by simp only; omega⟩
          · obtain ⟨p, hpp⟩ : ∃ p, c[k - 1]? = some p := ⟨_, List.getElem?_eq_getElem (by omega)⟩
            obtain ⟨L', hL2⟩ : ∃ L, t[k - 1]? = some L := ⟨_, List.getElem?_eq_getElem (by omega)⟩
            have hL3 : t.getD (k - 1) [] = L' := by rw [List.getD_eq_getElem?_getD, hL2]; rfl
            have hpp2 : placeOk t (k - 1) p := by
              have h1 := way_take hw k
              have h2 := way_snoc (t := t) hpp
              rw [show k - 1 + 1 = k by omega] at h2
              exact (h2.1 hw).2.1
            obtain ⟨b3, b4⟩ := mem_val hv hpp2
            have hh := hops_spec (wd t (k - 1 + 1)) L' (hL3 ▸ valid_stg hv (by omega))
            have hi : ((k : Int) - 1).toNat = k - 1 := by omega
            have hst := stepOk_chs (t := t) (k := k - 1) hpp2.1 hpa.1
            rw [show stp t (k - 1) = hops L' by unfold stp; rw [hL3]] at hst
            have hmg := mapS_get (hops L') [p.node, a.node]
            have hcl : (chs (hops L') [p.node, a.node]).length < 9223372036854775808 := by
              have h1 := valid_stg hv (show k - 1 < t.length by omega)
              rw [hL3] at h1
              have h2 : (hops L').length ≤ 64 * L'.length := hops_len h1.2.2
              have h3 : (chs (hops L') [p.node, a.node]).length ≤ (hops L').length := by unfold chs; rw [List.length_map]; exact List.length_filter_le _ _
              have := h1.2.1
              omega
            have hsn2 : way t 0 (c.take (k + 1)) ↔ stepOk t (k - 1) p a := by
              rw [hsn]
              exact ⟨fun h => h.2.2 p (by omega) hpp, fun h => ⟨hw, hpa, fun q _ hq => by rw [hpp] at hq; injection hq with hq; subst hq; exact h⟩⟩
            have fin : ∀ b : Bool, b = tr (Mem (a.val - p.val) (chs (hops L') [p.node, a.node])) → (b = true → way t 0 (c.take (k + 1))) ∧ (b = false → tr (course t c) = false) := by
              rintro b rfl
              exact ⟨fun h => hsn2.2 (hst.2 (tr_iff.1 h)), fun h => tr_0 (hno fun h' => tr_not.1 h (hst.1 (hsn2.1 h')))⟩
            by_cases hnil : chs (hops L') [p.node, a.node] = []
            · rw [if_pos hnil] at hmg
              rw [hnil] at fin
              obtain ⟨f1, f2⟩ := fin _ rfl
              have hz : tr (Mem (a.val - p.val) []) = false := tr_0 Mem.nil
              have hhn := has_nil (a.val - p.val)
              rw [hz] at hhn f2
              rw [f2 rfl]
              (repeat' ((first
 | refine vn rfl ?_
 | simp (disch := omega) only [wr64, Int.zero_sub]
 | refine AWPC.both (fun _ => ?_) (fun _ => ?_)
 | refine AWPC.imp (fun _ => ?_)
 | ((repeat refine si ?_); (first | ((first | refine .inl ⟨_, _, _, _, rfl, fun _ => pu (by first | exact hp | exact hh | exact hhn), ?_⟩ | refine ⟨_, _, _, _, rfl, fun _ => pu (by first | exact hp | exact hh | exact hhn), ?_⟩); (first | refine owp_of_exs ?_ | refine pre_of_exd ?_ | refine pre_of_exe ?_ | refine pre_of_exv ?_)) | refine .inl ⟨_, _, _, _, rfl, pu (by first | exact hp | exact hh | exact hhn), ?_⟩))
 | refine cF ?_
 | refine om ?_
 | refine an ?_
 | fail) <;> try simp only [zT, zV, zS, zU, vcC, kscp, lateX, ex, strp, cnd, binA, kseq, kblk, kret, klp, Abs.one, elems, cells, scalar, eqC, keyA, intsA, lookA, ofVs, mpOf, Nat.reduceBEq, reduceAdd, reduceSub, reduceLT, reduceLeDiff, reduceMul, reduceEqDiff, reduceIte, getD_map ha, getD_map hL, getD_map hpp, getD_map hL2, hi, hmg]))
              all_goals try (exfalso; omega)
              all_goals exact Frz.eq rfl (by simp)
            · rw [if_neg hnil] at hmg
              have hha := has_spec (chs (hops L') [p.node, a.node]) (a.val - p.val) hcl
              obtain ⟨f1, f2⟩ := fin _ rfl
              generalize tr (Mem (a.val - p.val) (chs (hops L') [p.node, a.node])) = b at *
              cases b with
              | false =>
                rw [f2 rfl]
                (repeat' ((first
 | refine vn rfl ?_
 | simp (disch := omega) only [wr64, Int.zero_sub]
 | refine AWPC.both (fun _ => ?_) (fun _ => ?_)
 | refine AWPC.imp (fun _ => ?_)
 | ((repeat refine si ?_); (first | ((first | refine .inl ⟨_, _, _, _, rfl, fun _ => pu (by first | exact hp | exact hh | exact hha), ?_⟩ | refine ⟨_, _, _, _, rfl, fun _ => pu (by first | exact hp | exact hh | exact hha), ?_⟩); (first | refine owp_of_exs ?_ | refine pre_of_exd ?_ | refine pre_of_exe ?_ | refine pre_of_exv ?_)) | refine .inl ⟨_, _, _, _, rfl, pu (by first | exact hp | exact hh | exact hha), ?_⟩))
 | refine cF ?_
 | refine om ?_
 | refine an ?_
 | fail) <;> try simp only [zT, zV, zS, zU, vcC, kscp, lateX, ex, strp, cnd, binA, kseq, kblk, kret, klp, Abs.one, elems, cells, scalar, eqC, keyA, intsA, lookA, ofVs, mpOf, Nat.reduceBEq, reduceAdd, reduceSub, reduceLT, reduceLeDiff, reduceMul, reduceEqDiff, reduceIte, getD_map ha, getD_map hL, getD_map hpp, getD_map hL2, hi, hmg]))
                all_goals try (exfalso; omega)
                all_goals exact Frz.eq rfl (by simp)
              | true =>
                (repeat' ((first
 | refine vn rfl ?_
 | simp (disch := omega) only [wr64, Int.zero_sub]
 | refine AWPC.both (fun _ => ?_) (fun _ => ?_)
 | refine AWPC.imp (fun _ => ?_)
 | ((repeat refine si ?_); (first | ((first | refine .inl ⟨_, _, _, _, rfl, fun _ => pu (by first | exact hp | exact hh | exact hha), ?_⟩ | refine ⟨_, _, _, _, rfl, fun _ => pu (by first | exact hp | exact hh | exact hha), ?_⟩); (first | refine owp_of_exs ?_ | refine pre_of_exd ?_ | refine pre_of_exe ?_ | refine pre_of_exv ?_)) | refine .inl ⟨_, _, _, _, rfl, pu (by first | exact hp | exact hh | exact hha), ?_⟩))
 | refine cF ?_
 | refine om ?_
 | refine an ?_
 | fail) <;> try simp only [zT, zV, zS, zU, vcC, kscp, lateX, ex, strp, cnd, binA, kseq, kblk, kret, klp, Abs.one, elems, cells, scalar, eqC, keyA, intsA, lookA, ofVs, mpOf, Nat.reduceBEq, reduceAdd, reduceSub, reduceLT, reduceLeDiff, reduceMul, reduceEqDiff, reduceIte, getD_map ha, getD_map hL, getD_map hpp, getD_map hL2, hi, hmg]))
                all_goals try (exfalso; omega)
                exact ⟨⟨(k + 1, _), hlt, f1 rfl⟩, by simp, rfl, by simp only; omega⟩
        · rw [tr_0 (fun h => hpa (hpl.1 h))] at hp
          rw [tr_0 (hno fun h => hpa (hsn.1 h).2.1)]
          (repeat' ((first
 | refine vn rfl ?_
 | simp (disch := omega) only [wr64, Int.zero_sub]
 | refine AWPC.both (fun _ => ?_) (fun _ => ?_)
 | refine AWPC.imp (fun _ => ?_)
 | ((repeat refine si ?_); (first | ((first | refine .inl ⟨_, _, _, _, rfl, fun _ => pu hp, ?_⟩ | refine ⟨_, _, _, _, rfl, fun _ => pu hp, ?_⟩); (first | refine owp_of_exs ?_ | refine pre_of_exd ?_ | refine pre_of_exe ?_ | refine pre_of_exv ?_)) | refine .inl ⟨_, _, _, _, rfl, pu hp, ?_⟩))
 | refine cF ?_
 | refine om ?_
 | refine an ?_
 | fail) <;> try simp only [zT, zV, zS, zU, vcC, kscp, lateX, ex, strp, cnd, binA, kseq, kblk, kret, klp, Abs.one, elems, cells, scalar, eqC, keyA, intsA, lookA, ofVs, mpOf, Nat.reduceBEq, reduceAdd, reduceSub, reduceLT, reduceLeDiff, reduceMul, reduceEqDiff, reduceIte, getD_map ha, getD_map hL]))
          all_goals try (exfalso; omega)
          all_goals exact Frz.eq rfl (by simp)
      · obtain rfl : k = c.length := by omega
        rw [List.take_length] at hw
        rw [tr_1 (show course t c from ⟨hl, hw⟩)]
        (repeat' ((first
 | refine vn rfl ?_
 | simp (disch := omega) only [wr64, Int.zero_sub]
 | refine AWPC.both (fun _ => ?_) (fun _ => ?_)
 | refine AWPC.imp (fun _ => ?_)
 | refine cF ?_
 | refine om ?_
 | refine an ?_
 | fail) <;> try simp only [zT, zV, zS, zU, vcC, kscp, lateX, ex, strp, cnd, binA, kseq, kblk, kret, klp, Abs.one, elems, cells, scalar, eqC, keyA, intsA, lookA, ofVs, mpOf, Nat.reduceBEq, reduceAdd, reduceSub, reduceLT, reduceLeDiff, reduceMul, reduceEqDiff, reduceIte]))
        all_goals try (exfalso; omega)
        all_goals exact Frz.eq rfl (by simp)
    · have hnc : ¬ course t c := fun h => hl h.1
      rw [tr_0 hnc]
      (repeat' ((first
 | refine vn rfl ?_
 | simp (disch := omega) only [wr64, Int.zero_sub]
 | refine AWPC.both (fun _ => ?_) (fun _ => ?_)
 | refine AWPC.imp (fun _ => ?_)
 | ((repeat refine si ?_); (first | ((first | refine .inl ⟨_, _, _, _, rfl, fun _ => pu hck, ?_⟩ | refine ⟨_, _, _, _, rfl, fun _ => pu hck, ?_⟩); (first | refine owp_of_exs ?_ | refine pre_of_exd ?_ | refine pre_of_exe ?_ | refine pre_of_exv ?_)) | refine .inl ⟨_, _, _, _, rfl, pu hck, ?_⟩))
 | refine cF ?_
 | refine om ?_
 | refine an ?_
 | fail) <;> try simp only [zT, zV, zS, zU, vcC, kscp, lateX, ex, strp, cnd, binA, kseq, kblk, kret, klp, Abs.one, elems, cells, scalar, eqC, keyA, intsA, lookA, ofVs, mpOf, Nat.reduceBEq, reduceAdd, reduceSub, reduceLT, reduceLeDiff, reduceMul, reduceEqDiff, reduceIte]))
      all_goals try (exfalso; omega)
      all_goals exact Frz.eq rfl (by simp)
  · rw [tr_0 hv]
    have hck := Check_spec t hs
    rw [tr_0 hv, if_neg (by decide)] at hck
    (repeat' ((first
 | refine vn rfl ?_
 | simp (disch := omega) only [wr64, Int.zero_sub]
 | refine AWPC.both (fun _ => ?_) (fun _ => ?_)
 | refine AWPC.imp (fun _ => ?_)
 | ((repeat refine si ?_); (first | ((first | refine .inl ⟨_, _, _, _, rfl, fun _ => pu hck, ?_⟩ | refine ⟨_, _, _, _, rfl, fun _ => pu hck, ?_⟩); (first | refine owp_of_exs ?_ | refine pre_of_exd ?_ | refine pre_of_exe ?_ | refine pre_of_exv ?_)) | refine .inl ⟨_, _, _, _, rfl, pu hck, ?_⟩))
 | refine cF ?_
 | refine om ?_
 | refine an ?_
 | fail) <;> try simp only [zT, zV, zS, zU, vcC, kscp, lateX, ex, strp, cnd, binA, kseq, kblk, kret, klp, Abs.one, elems, cells, scalar, eqC, keyA, intsA, lookA, ofVs, mpOf, Nat.reduceBEq, reduceAdd, reduceSub, reduceLT, reduceLeDiff, reduceMul, reduceEqDiff, reduceIte]))
    all_goals try (exfalso; omega)
    all_goals exact Frz.eq rfl (by simp)
end Go.Proofs.YtahkhnagpdlkiaaGreat
namespace Go.Abs
set_option linter.unusedVariables false
set_option linter.unusedSimpArgs false
theorem way_iff {t : Trk} : ∀ {p : List At} {k : Nat}, way t k p ↔ ∀ i a, p[i]? = some a → placeOk t (k + i) a ∧ ∀ b, p[i + 1]? = some b → stepOk t (k + i) a b
  | [], k => by simp [way]
  | a :: r, k => by
    rw [way_cons, way_iff (p := r)]
    constructor
    · rintro ⟨h1, h2, h3⟩ i b hb
      cases i with
      | zero =>
        simp only [List.getElem?_cons_zero, Option.some.injEq] at hb; subst hb
        exact ⟨h1, fun b hb => h2 b (by simpa using hb)⟩
      | succ i =>
        have := h3 i b (by simpa using hb)
        rw [show k + (i + 1) = k + 1 + i by omega]
        exact ⟨this.1, fun c hc => this.2 c (by simpa using hc)⟩
    · intro h
      have h0 := h 0 a rfl
      refine ⟨h0.1, fun b hb => h0.2 b (by simpa using hb), fun i b hb => ?_⟩
      have := h (i + 1) b (by simpa using hb)
      rw [show k + (i + 1) = k + 1 + i by omega] at this
      exact ⟨this.1, fun c hc => this.2 c (by simpa using hc)⟩
theorem course_iff {t : Trk} {c : List At} : course t c ↔ c.length = t.length ∧ ∀ i a, c[i]? = some a → placeOk t i a ∧ ∀ b, c[i + 1]? = some b → stepOk t i a b := by
  unfold course
  rw [way_iff]
  simp only [Nat.zero_add]
end Go.Abs
namespace Go.Proofs.YtahkhnagpdlkiaaGreat
open Go.Abs
open Nat (reduceAdd reduceSub reduceLT reduceLeDiff reduceMul reduceEqDiff)
set_option linter.unusedVariables false
set_option linter.unusedSimpArgs false
set_option maxHeartbeats 4000000
set_option maxRecDepth 100000
def c49 : CF := ⟨9,
 (.seq (.ops [
 ⟨some 2,.box false 24 1 (.t 0),none⟩,
 ⟨some 4,.mv (.c (.bool false)),none⟩] [1,2])
 (.seq (.ops [
 ⟨some 5,.load (some 1) (.t 2),none⟩,
 ⟨some 6,.mv (.t 1),none⟩,
 ⟨some 7,.call (.f 61) [(.t 5),(.t 6)],none⟩,
 ⟨some 8,.bin .eql (.t 7) (.c (.int .i64 0)),none⟩,
 ⟨some 4,.mv (.t 8),none⟩] [4])
 .ret)),
 [.t 4]⟩
theorem k49 : chkF Tryz.prog Tryz.f49 c49 = true := by kernel_rfl
theorem is_spec (t : Trk) (c : List At) (hs : trkSz t) (hc : c.length < 9223372036854775808) : Pure Tryz.prog 49 [trS t, atS c] (bl (tr (valid t ∧ course t c))) := by
  refine Pure.of_body Tryz.call49 Tryz.func49 k49 (Nat.le_of_ble_eq_true rfl) ?_
  unfold c49
  have hk := Keeps_spec t c hs hc
  by_cases hv : valid t
  · rw [tr_1 hv, if_pos rfl] at hk
    by_cases h : course t c
    · rw [tr_1 h, if_pos rfl] at hk
      rw [tr_1 ⟨hv, h⟩]
      (repeat' ((first
 | refine vn rfl ?_
 | simp (disch := omega) only [wr64, Int.zero_sub]
 | refine AWPC.both (fun _ => ?_) (fun _ => ?_)
 | refine AWPC.imp (fun _ => ?_)
 | ((repeat refine si ?_); (first | ((first | refine .inl ⟨_, _, _, _, rfl, fun _ => pu hk, ?_⟩ | refine ⟨_, _, _, _, rfl, fun _ => pu hk, ?_⟩); (first | refine owp_of_exs ?_ | refine pre_of_exd ?_ | refine pre_of_exe ?_ | refine pre_of_exv ?_)) | refine .inl ⟨_, _, _, _, rfl, pu hk, ?_⟩))
 | refine cF ?_
 | refine om ?_
 | refine an ?_
 | fail) <;> try simp only [zT, zV, zS, zU, vcC, kscp, lateX, ex, strp, cnd, binA, kseq, kblk, kret, klp, Abs.one, elems, cells, scalar, eqC, keyA, intsA, lookA, ofVs, mpOf, Nat.reduceBEq, reduceAdd, reduceSub, reduceLT, reduceLeDiff, reduceMul, reduceEqDiff, reduceIte]))
      all_goals exact Frz.eq rfl (by simp)
    · rw [tr_0 h, if_neg (by decide)] at hk
      rw [tr_0 (fun h' => h h'.2)]
      (repeat' ((first
 | refine vn rfl ?_
 | simp (disch := omega) only [wr64, Int.zero_sub]
 | refine AWPC.both (fun _ => ?_) (fun _ => ?_)
 | refine AWPC.imp (fun _ => ?_)
 | ((repeat refine si ?_); (first | ((first | refine .inl ⟨_, _, _, _, rfl, fun _ => pu hk, ?_⟩ | refine ⟨_, _, _, _, rfl, fun _ => pu hk, ?_⟩); (first | refine owp_of_exs ?_ | refine pre_of_exd ?_ | refine pre_of_exe ?_ | refine pre_of_exv ?_)) | refine .inl ⟨_, _, _, _, rfl, pu hk, ?_⟩))
 | refine cF ?_
 | refine om ?_
 | refine an ?_
 | fail) <;> try simp only [zT, zV, zS, zU, vcC, kscp, lateX, ex, strp, cnd, binA, kseq, kblk, kret, klp, Abs.one, elems, cells, scalar, eqC, keyA, intsA, lookA, ofVs, mpOf, Nat.reduceBEq, reduceAdd, reduceSub, reduceLT, reduceLeDiff, reduceMul, reduceEqDiff, reduceIte]))
      all_goals exact Frz.eq rfl (by simp)
  · rw [tr_0 hv, if_neg (by decide)] at hk
    rw [tr_0 (fun h' => hv h'.1)]
    (repeat' ((first
 | refine vn rfl ?_
 | simp (disch := omega) only [wr64, Int.zero_sub]
 | refine AWPC.both (fun _ => ?_) (fun _ => ?_)
 | refine AWPC.imp (fun _ => ?_)
 | ((repeat refine si ?_); (first | ((first | refine .inl ⟨_, _, _, _, rfl, fun _ => pu hk, ?_⟩ | refine ⟨_, _, _, _, rfl, fun _ => pu hk, ?_⟩); (first | refine owp_of_exs ?_ | refine pre_of_exd ?_ | refine pre_of_exe ?_ | refine pre_of_exv ?_)) | refine .inl ⟨_, _, _, _, rfl, pu hk, ?_⟩))
 | refine cF ?_
 | refine om ?_
 | refine an ?_
 | fail) <;> try simp only [zT, zV, zS, zU, vcC, kscp, lateX, ex, strp, cnd, binA, kseq, kblk, kret, klp, Abs.one, elems, cells, scalar, eqC, keyA, intsA, lookA, ofVs, mpOf, Nat.reduceBEq, reduceAdd, reduceSub, reduceLT, reduceLeDiff, reduceMul, reduceEqDiff, reduceIte]))
    all_goals exact Frz.eq rfl (by simp)
def fnd (s : Sp) (l : List Sp) : Bool := l.any fun r => decide (r.lo ≤ s.lo) && decide (s.hi ≤ r.hi)
def insB (a b : List Sp) : Prop := ∀ s ∈ a, fnd s b = true
theorem copyF_getD (al : Nat → Nat → List Sp) (chg : Nat → Sp → Sp) : ∀ (t : Trk) (j k : Nat), (copyF al chg j t).getD k [] = copyL (al (j + k)) (chg (j + k)) 0 (t.getD k [])
  | [], _, _ => by simp [copyF, copyL]
  | l :: r, j, 0 => by simp [copyF]
  | l :: r, j, k + 1 => by
    have := copyF_getD al chg r (j + 1) k
    rw [show j + 1 + k = j + (k + 1) by omega] at this
    simpa [copyF, List.getD_eq_getElem?_getD] using this
theorem copyL_get (al : Nat → List Sp) (chg : Sp → Sp) : ∀ (l : List Nod) (j i : Nat), (copyL al chg j l)[i]? = (l[i]?).map (copyN (al (j + i)) chg)
  | [], _, _ => by simp [copyL]
  | x :: r, j, 0 => by simp [copyL]
  | x :: r, j, i + 1 => by
    have := copyL_get al chg r (j + 1) i
    rw [show j + 1 + i = j + (i + 1) by omega] at this
    simpa [copyL] using this
section
variable {t : Trk} {al : Nat → Nat → List Sp} {chg : Nat → Sp → Sp}
theorem copyT_stg (k : Nat) : (copyT t al chg).getD k [] = copyL (al k) (chg k) 0 (t.getD k []) := by
  have := copyF_getD al chg t 0 k
  rwa [Nat.zero_add] at this
theorem copyT_wd (k : Nat) : wd (copyT t al chg) k = wd t k := by unfold wd; rw [copyT_stg, copyL_len]
theorem copyT_nod {k i : Nat} {y : Nod} (h : ((copyT t al chg).getD k [])[i]? = some y) : ∃ x, (t.getD k [])[i]? = some x ∧ y = copyN (al k i) (chg k) x := by
  rw [copyT_stg, copyL_get, Nat.zero_add] at h
  cases hx : (t.getD k [])[i]? with
  | none => rw [hx] at h; cases h
  | some x => rw [hx] at h; injection h with h; exact ⟨x, rfl, h.symm⟩
theorem copyT_als {k i : Nat} (hi : i < wd t k) : (als (copyT t al chg) k).getD i [] = al k i := by
  have hx : (t.getD k [])[i]? = some ((t.getD k []).getD i ⟨[], []⟩) := getD_some hi
  have : (als (copyT t al chg) k)[i]? = some (al k i) := by
    unfold als
    rw [List.getElem?_map, copyT_stg, copyL_get, Nat.zero_add, hx]; rfl
  rw [List.getD_eq_getElem?_getD, this]; rfl
theorem chgE_mem {c : Sp → Sp} {l : List Edg} {e : Edg} : e ∈ l.flatMap (chgE c) ↔ ∃ x ∈ l, (c x.ch).lo ≤ (c x.ch).hi ∧ e = ⟨x.to, c x.ch⟩ := by
  rw [List.mem_flatMap]
  refine exists_congr fun x => and_congr_right fun _ => ?_
  unfold chgE
  split
  · rename_i h; rw [List.mem_singleton]; exact ⟨fun e => ⟨h, e⟩, fun e => e.2⟩
  · rename_i h; exact ⟨fun e => (by cases e), fun e => absurd e.1 h⟩
theorem copyT_valid (hv : valid t) (ha : ∀ k i, k < t.length → i < wd t k → small (al k i)) (hc : ∀ k s, chOk s → (chg k s).lo ≤ (chg k s).hi → chOk (chg k s)) : valid (copyT t al chg) := by
  refine ⟨by rw [copyF_len]; exact hv.1, by rw [copyF_len]; exact hv.2.1, fun k hk => ?_⟩
  rw [copyF_len] at hk
  obtain ⟨v1, v2, v3⟩ := valid_stg hv hk
  rw [copyT_wd, copyT_stg]
  refine ⟨by rw [copyL_len]; exact v1, by rw [copyL_len]; exact v2, fun y hy => ?_⟩
  obtain ⟨i, hi⟩ := List.mem_iff_getElem?.1 hy
  rw [← copyT_stg (al := al) (chg := chg)] at hi
  obtain ⟨x, hx, rfl⟩ := copyT_nod hi
  obtain ⟨x1, x2, x3⟩ := v3 x (List.mem_of_getElem? hx)
  refine ⟨ha k i hk (List.getElem?_eq_some_iff.1 hx).1, Nat.le_trans (chgE_len _ _) x2, fun e he => ?_⟩
  obtain ⟨e', he', hle, rfl⟩ := chgE_mem.1 he
  obtain ⟨e1, e2, e3⟩ := x3 e' he'
  exact ⟨e1, e2, hc k _ e3 hle⟩
end
def c118 : CF := ⟨1,
 (.seq (.ops [
 ⟨some 0,.mv (.c (.bool false)),none⟩] [])
 (.seq (.ops [
 ⟨some 0,.mv (.c (.bool true)),none⟩] [0])
 .ret)),
 [.t 0]⟩
def c119 : CF := ⟨13,
 (.seq (.ops [
 ⟨some 5,.mv (.c (.slice none 0 0)),none⟩] [0,1,2])
 (.seq (.ops [
 ⟨some 6,.load none (.t 2),none⟩,
 ⟨some 7,.mv (.t 0),none⟩,
 ⟨some 8,.iaddr 1 (.t 6) (.t 7),none⟩,
 ⟨some 9,.load none (.t 8),none⟩,
 ⟨some 10,.mv (.t 1),none⟩,
 ⟨some 11,.iaddr 1 (.t 9) (.t 10),none⟩,
 ⟨some 12,.load none (.t 11),none⟩,
 ⟨some 5,.mv (.t 12),none⟩] [5])
 .ret)),
 [.t 5]⟩
def c55 : CF := ⟨20,
 (.seq (.ops [
 ⟨some 1,.box false 24 1 (.t 0),none⟩,
 ⟨some 2,.alloc 24 1 [.slice none 0 0],none⟩,
 ⟨some 3,.mv (.c (.int .i64 0)),none⟩] [1,2])
 (.seq (.seq (.ops [
 ⟨some 6,.load (some 1) (.t 1),none⟩,
 ⟨some 7,.call (.f 90) [(.t 6),(.f 118)],none⟩,
 ⟨some 4,.mv (.t 7),none⟩] [1,2,4])
 (.seq (.ops [
 ⟨some 8,.mv (.t 4),none⟩,
 ⟨some 9,.bin .neq (.t 8) (.c (.int .i64 0)),none⟩] [1,2,4,9])
 (.cond (.t 9) (.seq (.ops [
 ⟨some 10,.build [.slice none 0 0] [],none⟩,
 ⟨some 11,.mv (.t 4),none⟩,
 ⟨none,.store 1 (.t 2) (.t 10),none⟩,
 ⟨some 3,.mv (.t 11),none⟩] [2,3])
 .ret)
 .skip)))
 (.seq (.ops [
 ⟨some 12,.load (some 1) (.t 1),none⟩,
 ⟨some 13,.call (.f 88) [(.t 12)],none⟩,
 ⟨some 5,.alloc 31 1 [.slice none 0 0],none⟩,
 ⟨none,.store 1 (.t 5) (.t 13),none⟩] [1,2,5])
 (.seq (.ops [
 ⟨some 14,.load (some 1) (.t 1),none⟩,
 ⟨some 15,.mkfn (.func 119) [] [(.t 5)],none⟩,
 ⟨some 16,.call (.f 101) [(.t 14),(.t 15),(.f 103)],none⟩,
 ⟨some 17,.call (.f 100) [(.t 16)],none⟩,
 ⟨some 18,.ext 0 (.t 17),none⟩,
 ⟨some 19,.ext 1 (.t 17),none⟩,
 ⟨none,.store 1 (.t 2) (.t 18),none⟩,
 ⟨some 3,.mv (.t 19),none⟩] [2,3])
 .ret)))),
 [.c 2 (some 1),.t 3]⟩
def c56 : CF := ⟨96,
 (.seq (.ops [
 ⟨some 2,.box false 24 1 (.t 0),none⟩,
 ⟨some 3,.box false 24 1 (.t 1),none⟩,
 ⟨some 4,.mv (.c (.bool false)),none⟩] [2,3])
 (.seq (.seq (.ops [
 ⟨some 10,.faddr 0 (.t 2),none⟩,
 ⟨some 11,.load none (.t 10),none⟩,
 ⟨some 12,.len (.t 11),none⟩,
 ⟨some 13,.faddr 0 (.t 3),none⟩,
 ⟨some 14,.load none (.t 13),none⟩,
 ⟨some 15,.len (.t 14),none⟩,
 ⟨some 16,.bin .neq (.t 12) (.t 15),none⟩] [2,3,16])
 (.cond (.t 16) (.seq (.ops [
 ⟨some 4,.mv (.c (.bool false)),none⟩] [4])
 .ret)
 .skip))
 (.seq (.seq (.ops [
 ⟨some 5,.mv (.c (.int .i64 0)),none⟩] [2,3,5])
 (.block 0 (.loop (.seq (.seq (.ops [
 ⟨some 17,.mv (.t 5),none⟩,
 ⟨some 18,.faddr 0 (.t 2),none⟩,
 ⟨some 19,.load none (.t 18),none⟩,
 ⟨some 20,.len (.t 19),none⟩,
 ⟨some 21,.bin .lss (.t 17) (.t 20),none⟩] [2,3,5,21])
 (.cond (.t 21) .skip
 (.exit 0)))
 (.seq (.block 1 (.seq (.seq (.draw [
 ⟨some 24,.faddr 0 (.t 2),none⟩,
 ⟨some 25,.load none (.t 24),none⟩,
 ⟨some 26,.mv (.t 5),none⟩,
 ⟨some 27,.iaddr 1 (.t 25) (.t 26),none⟩,
 ⟨some 28,.load none (.t 27),none⟩,
 ⟨some 29,.len (.t 28),none⟩,
 ⟨some 30,.faddr 0 (.t 3),none⟩,
 ⟨some 31,.load none (.t 30),none⟩,
 ⟨some 32,.mv (.t 5),none⟩,
 ⟨some 33,.iaddr 1 (.t 31) (.t 32),none⟩,
 ⟨some 34,.load none (.t 33),none⟩,
 ⟨some 35,.len (.t 34),none⟩,
 ⟨some 36,.bin .neq (.t 29) (.t 35),none⟩] [
 ] [2,3,5,36])
 (.cond (.t 36) (.seq (.ops [
 ⟨some 4,.mv (.c (.bool false)),none⟩] [4])
 .ret)
 .skip))
 (.seq (.ops [
 ⟨some 6,.mv (.c (.int .i64 0)),none⟩] [2,3,5,6])
 (.block 2 (.loop (.seq (.seq (.ops [
 ⟨some 37,.mv (.t 6),none⟩,
 ⟨some 38,.faddr 0 (.t 2),none⟩,
 ⟨some 39,.load none (.t 38),none⟩,
 ⟨some 40,.mv (.t 5),none⟩,
 ⟨some 41,.iaddr 1 (.t 39) (.t 40),none⟩,
 ⟨some 42,.load none (.t 41),none⟩,
 ⟨some 43,.len (.t 42),none⟩,
 ⟨some 44,.bin .lss (.t 37) (.t 43),none⟩] [2,3,5,6,44])
 (.cond (.t 44) .skip
 (.exit 2)))
 (.seq (.block 3 (.seq (.ops [
 ⟨some 47,.faddr 0 (.t 2),none⟩,
 ⟨some 48,.load none (.t 47),none⟩,
 ⟨some 49,.mv (.t 5),none⟩,
 ⟨some 50,.iaddr 1 (.t 48) (.t 49),none⟩,
 ⟨some 51,.load none (.t 50),none⟩,
 ⟨some 52,.mv (.t 6),none⟩,
 ⟨some 53,.iaddr 2 (.t 51) (.t 52),none⟩,
 ⟨some 54,.load (some 2) (.t 53),none⟩,
 ⟨some 7,.alloc 80 2 [.slice none 0 0,.slice none 0 0],none⟩,
 ⟨none,.store 2 (.t 7) (.t 54),none⟩] [2,3,5,6,7])
 (.seq (.ops [
 ⟨some 55,.faddr 0 (.t 3),none⟩,
 ⟨some 56,.load none (.t 55),none⟩,
 ⟨some 57,.mv (.t 5),none⟩,
 ⟨some 58,.iaddr 1 (.t 56) (.t 57),none⟩,
 ⟨some 59,.load none (.t 58),none⟩,
 ⟨some 60,.mv (.t 6),none⟩,
 ⟨some 61,.iaddr 2 (.t 59) (.t 60),none⟩,
 ⟨some 62,.load (some 2) (.t 61),none⟩,
 ⟨some 8,.alloc 80 2 [.slice none 0 0,.slice none 0 0],none⟩,
 ⟨none,.store 2 (.t 8) (.t 62),none⟩] [2,3,5,6,7,8])
 (.seq (.seq (.ops [
 ⟨some 63,.faddr 0 (.t 7),none⟩,
 ⟨some 64,.load none (.t 63),none⟩,
 ⟨some 65,.faddr 0 (.t 8),none⟩,
 ⟨some 66,.load none (.t 65),none⟩,
 ⟨some 67,.call (.f 28) [(.t 64),(.t 66)],none⟩,
 ⟨some 68,.un .not (.t 67),none⟩,
 ⟨some 69,.mv (.t 68),none⟩,
 ⟨some 70,.faddr 1 (.t 7),some (69,false)⟩,
 ⟨some 71,.load none (.t 70),some (69,false)⟩,
 ⟨some 72,.len (.t 71),some (69,false)⟩,
 ⟨some 73,.faddr 1 (.t 8),some (69,false)⟩,
 ⟨some 74,.load none (.t 73),some (69,false)⟩,
 ⟨some 75,.len (.t 74),some (69,false)⟩,
 ⟨some 76,.bin .neq (.t 72) (.t 75),some (69,false)⟩,
 ⟨some 77,.pick (.t 69) (.c (.bool true)) (.t 76),none⟩] [2,3,5,6,7,8,77])
 (.cond (.t 77) (.seq (.ops [
 ⟨some 4,.mv (.c (.bool false)),none⟩] [4])
 .ret)
 .skip))
 (.seq (.ops [
 ⟨some 9,.mv (.c (.int .i64 0)),none⟩] [2,3,5,6,7,8,9])
 (.block 4 (.loop (.seq (.seq (.ops [
 ⟨some 78,.mv (.t 9),none⟩,
 ⟨some 79,.faddr 1 (.t 7),none⟩,
 ⟨some 80,.load none (.t 79),none⟩,
 ⟨some 81,.len (.t 80),none⟩,
 ⟨some 82,.bin .lss (.t 78) (.t 81),none⟩] [2,3,5,6,7,8,9,82])
 (.cond (.t 82) .skip
 (.exit 4)))
 (.seq (.block 5 (.seq (.draw [
 ⟨some 85,.faddr 1 (.t 7),none⟩,
 ⟨some 86,.load none (.t 85),none⟩,
 ⟨some 87,.mv (.t 9),none⟩,
 ⟨some 88,.iaddr 3 (.t 86) (.t 87),none⟩,
 ⟨some 89,.load (some 3) (.t 88),none⟩,
 ⟨some 90,.faddr 1 (.t 8),none⟩,
 ⟨some 91,.load none (.t 90),none⟩,
 ⟨some 92,.mv (.t 9),none⟩,
 ⟨some 93,.iaddr 3 (.t 91) (.t 92),none⟩,
 ⟨some 94,.load (some 3) (.t 93),none⟩,
 ⟨some 95,.eqs true [some .i64,some .i64,some .i64] (.t 89) (.t 94),none⟩] [
 ] [2,3,5,6,7,8,9,95])
 (.cond (.t 95) (.seq (.ops [
 ⟨some 4,.mv (.c (.bool false)),none⟩] [4])
 .ret)
 .skip)))
 (.ops [
 ⟨some 83,.mv (.t 9),none⟩,
 ⟨some 84,.bin .add (.t 83) (.c (.int .i64 1)),none⟩,
 ⟨some 9,.mv (.t 84),none⟩] [2,3,5,6,7,8,9]))))))))))
 (.ops [
 ⟨some 45,.mv (.t 6),none⟩,
 ⟨some 46,.bin .add (.t 45) (.c (.int .i64 1)),none⟩,
 ⟨some 6,.mv (.t 46),none⟩] [2,3,5,6]))))))))
 (.ops [
 ⟨some 22,.mv (.t 5),none⟩,
 ⟨some 23,.bin .add (.t 22) (.c (.int .i64 1)),none⟩,
 ⟨some 5,.mv (.t 23),none⟩] [2,3,5]))))))
 (.seq (.ops [
 ⟨some 4,.mv (.c (.bool true)),none⟩] [4])
 .ret)))),
 [.t 4]⟩
theorem k118 : chkF Tryz.prog Tryz.f118 c118 = true := by kernel_rfl
theorem k119 : chkF Tryz.prog Tryz.f119 c119 = true := by kernel_rfl
theorem k55 : chkF Tryz.prog Tryz.f55 c55 = true := by kernel_rfl
theorem k56 : chkF Tryz.prog Tryz.f56 c56 = true := by kernel_rfl
theorem true118 : Pure Tryz.prog 118 [] (bl true) := by
  refine Pure.of_body Tryz.call118 Tryz.func118 k118 (Nat.le_of_ble_eq_true rfl) ?_
  unfold c118
  (repeat' ((first
 | refine vn rfl ?_
 | simp (disch := omega) only [wr64, Int.zero_sub]
 | refine AWPC.both (fun _ => ?_) (fun _ => ?_)
 | refine AWPC.imp (fun _ => ?_)
 | refine cF ?_
 | refine om ?_
 | refine an ?_
 | fail) <;> try simp only [zT, zV, zS, zU, vcC, kscp, lateX, ex, strp, cnd, binA, kseq, kblk, kret, klp, Abs.one, elems, cells, scalar, eqC, keyA, intsA, lookA, ofVs, mpOf, Nat.reduceBEq, reduceAdd, reduceSub, reduceLT, reduceLeDiff, reduceMul, reduceEqDiff, reduceIte]))
  all_goals exact Frz.eq rfl (by simp)
theorem nar2_spec (t : Trk) (hv : valid t) (k i : Nat) (hk : k < t.length) (hi : i < wd t k) : Pure Tryz.prog 119 [n k, n i, .iptr [stgS (allvs t)] 0] (spS ((allv t k).getD i [])) := by
  refine Pure.of_body Tryz.call119 Tryz.func119 k119 (Nat.le_of_ble_eq_true rfl) ?_
  unfold c119
  have g1 := allvs_get (t := t) hk
  have w1 := allv_len (t := t) hk
  have r1 : ((allv t k).map fun l => [spS l]).getD i [] = [spS ((allv t k).getD i [])] := getD_map (getD_some (by omega))
  (repeat' ((first
 | refine vn rfl ?_
 | simp (disch := omega) only [wr64, Int.zero_sub]
 | refine AWPC.both (fun _ => ?_) (fun _ => ?_)
 | refine AWPC.imp (fun _ => ?_)
 | refine cF ?_
 | refine om ?_
 | refine an ?_
 | fail) <;> try simp only [zT, zV, zS, zU, vcC, kscp, lateX, ex, strp, cnd, binA, kseq, kblk, kret, klp, Abs.one, elems, cells, scalar, eqC, keyA, intsA, lookA, ofVs, mpOf, Nat.reduceBEq, reduceAdd, reduceSub, reduceLT, reduceLeDiff, reduceMul, reduceEqDiff, reduceIte, g1, w1, r1, allvs_len]))
  all_goals try (exfalso; omega)
  all_goals exact Frz.eq rfl (by simp)
abbrev narT (t : Trk) : Trk := copyT t (fun k i => (allv t k).getD i []) (fun _ s => s)
noncomputable def narE (t : Trk) : Int := if askE t true = 0 then (if big (narT t) = true then 2 else 0) else askE t true
noncomputable def narR (t : Trk) : Trk := if narE t = 0 then narT t else []
theorem allv_lenB {t : Trk} (hv : valid t) (k i : Nat) : ((allv t k).getD i []).length ≤ 200001 := by
  by_cases hk : k < t.length
  · exact good_len (goods_get (allv_goods hv hk) i)
  · have : (fwd t k).length = 0 := by rw [fwd_len]; unfold wd; rw [List.getD_eq_getElem?_getD, List.getElem?_eq_none (by omega)]; rfl
    have h0 : allv t k = [] := by unfold allv both; rw [List.length_eq_zero_iff.1 this]; rfl
    rw [h0]; simp
theorem Narrow_spec (t : Trk) (hs : trkSz t) : Pure Tryz.prog 55 [trS t] (.tup [trS (narR t), n (narE t)]) := by
  refine Pure.of_body Tryz.call55 Tryz.func55 k55 (Nat.le_of_ble_eq_true rfl) ?_
  unfold c55
  have ha := asked_spec t hs 118 [] (by simp) true (fun _ => true118)
  by_cases h0 : askE t true = 0
  · obtain ⟨hv, _, hf⟩ := askE0.1 h0
    rw [h0] at ha
    have hal := all_spec t hv
    have hcp := copied_spec t hv 119 103 [.iptr [stgS (allvs t)] 0] [] (by simp (maxDischargeDepth := 9)) (by simp) (fun k i => (allv t k).getD i []) (fun _ s => s)
      (fun k i hk hi => ⟨nar2_spec t hv k i hk hi, by have := allv_lenB hv k i; omega⟩) (fun k s => same_spec k s)
    have hsz := sized_spec (narT t) (copyT_sz (fun k i => by have := allv_lenB hv k i; omega) hs)
    have hee : narE t = if big (narT t) = true then 2 else 0 := by unfold narE; rw [h0, if_pos rfl]
    have hre : narR t = if big (narT t) = true then [] else narT t := by
      unfold narR
      rw [hee]
      cases big (narT t) <;> rfl
    rw [hre, hee]
    (repeat' ((first
 | refine vn rfl ?_
 | simp (disch := omega) only [wr64, Int.zero_sub]
 | refine AWPC.both (fun _ => ?_) (fun _ => ?_)
 | refine AWPC.imp (fun _ => ?_)
 | ((repeat refine si ?_); (first | ((first | refine .inl ⟨_, _, _, _, rfl, fun _ => pu ha, ?_⟩ | refine ⟨_, _, _, _, rfl, fun _ => pu ha, ?_⟩); (first | refine owp_of_exs ?_ | refine pre_of_exd ?_ | refine pre_of_exe ?_ | refine pre_of_exv ?_)) | refine .inl ⟨_, _, _, _, rfl, pu ha, ?_⟩))
 | refine cF ?_
 | refine om ?_
 | refine an ?_
 | fail) <;> try simp only [zT, zV, zS, zU, vcC, kscp, lateX, ex, strp, cnd, binA, kseq, kblk, kret, klp, Abs.one, elems, cells, scalar, eqC, keyA, intsA, lookA, ofVs, mpOf, Nat.reduceBEq, reduceAdd, reduceSub, reduceLT, reduceLeDiff, reduceMul, reduceEqDiff, reduceIte]))
    all_goals try (exfalso; omega)
    ((first
 | refine vn rfl ?_
 | simp (disch := omega) only [wr64, Int.zero_sub]
 | refine AWPC.both (fun _ => ?_) (fun _ => ?_)
 | refine AWPC.imp (fun _ => ?_)
 | ((repeat refine si ?_); (first | ((first | refine .inl ⟨_, _, _, _, rfl, fun _ => pu hal, ?_⟩ | refine ⟨_, _, _, _, rfl, fun _ => pu hal, ?_⟩); (first | refine owp_of_exs ?_ | refine pre_of_exd ?_ | refine pre_of_exe ?_ | refine pre_of_exv ?_)) | refine .inl ⟨_, _, _, _, rfl, pu hal, ?_⟩))
 | refine cF ?_
 | refine om ?_
 | refine an ?_
 | fail) <;> try simp only [zT, zV, zS, zU, vcC, kscp, lateX, ex, strp, cnd, binA, kseq, kblk, kret, klp, Abs.one, elems, cells, scalar, eqC, keyA, intsA, lookA, ofVs, mpOf, Nat.reduceBEq, reduceAdd, reduceSub, reduceLT, reduceLeDiff, reduceMul, reduceEqDiff, reduceIte])
    refine AWPC.freezeP (t := 5) (e := 0) rfl rfl rfl (by decide) ?_
    (repeat' ((first
 | refine vn rfl ?_
 | simp (disch := omega) only [wr64, Int.zero_sub]
 | refine AWPC.both (fun _ => ?_) (fun _ => ?_)
 | refine AWPC.imp (fun _ => ?_)
 | ((repeat refine si ?_); (first | ((first | refine .inl ⟨_, _, _, _, rfl, fun _ => pu (by first | exact hcp | exact hsz), ?_⟩ | refine ⟨_, _, _, _, rfl, fun _ => pu (by first | exact hcp | exact hsz), ?_⟩); (first | refine owp_of_exs ?_ | refine pre_of_exd ?_ | refine pre_of_exe ?_ | refine pre_of_exv ?_)) | refine .inl ⟨_, _, _, _, rfl, pu (by first | exact hcp | exact hsz), ?_⟩))
 | refine cF ?_
 | refine om ?_
 | refine an ?_
 | fail) <;> try simp only [zT, zV, zS, zU, vcC, kscp, lateX, ex, strp, cnd, binA, kseq, kblk, kret, klp, Abs.one, elems, cells, scalar, eqC, keyA, intsA, lookA, ofVs, mpOf, Nat.reduceBEq, reduceAdd, reduceSub, reduceLT, reduceLeDiff, reduceMul, reduceEqDiff, reduceIte]))
    all_goals try (exfalso; omega)
    all_goals exact Frz.eq rfl (by simp (maxDischargeDepth := 9))
  · have hee : narE t = askE t true := by unfold narE; rw [if_neg h0]
    have hre : narR t = [] := by unfold narR; rw [hee, if_neg h0]
    rw [hre, hee]
    generalize askE t true = e at *
    (repeat' ((first
 | refine vn rfl ?_
 | simp (disch := omega) only [wr64, Int.zero_sub]
 | refine AWPC.both (fun _ => ?_) (fun _ => ?_)
 | refine AWPC.imp (fun _ => ?_)
 | ((repeat refine si ?_); (first | ((first | refine .inl ⟨_, _, _, _, rfl, fun _ => pu ha, ?_⟩ | refine ⟨_, _, _, _, rfl, fun _ => pu ha, ?_⟩); (first | refine owp_of_exs ?_ | refine pre_of_exd ?_ | refine pre_of_exe ?_ | refine pre_of_exv ?_)) | refine .inl ⟨_, _, _, _, rfl, pu ha, ?_⟩))
 | refine cF ?_
 | refine om ?_
 | refine an ?_
 | fail) <;> try simp only [zT, zV, zS, zU, vcC, kscp, lateX, ex, strp, cnd, binA, kseq, kblk, kret, klp, Abs.one, elems, cells, scalar, eqC, keyA, intsA, lookA, ofVs, mpOf, Nat.reduceBEq, reduceAdd, reduceSub, reduceLT, reduceLeDiff, reduceMul, reduceEqDiff, reduceIte]))
    all_goals try (exfalso; omega)
    exact frz2 frz_aggnil (by simp)
section
variable {t : Trk}
theorem copyT_stp_id {al : Nat → Nat → List Sp} (hv : valid t) (k : Nat) : stp (copyT t al fun _ s => s) k = stp t k := by
  have key : ∀ (l : List Nod) (i j : Nat), (∀ x ∈ l, ∀ e ∈ x.nx, chOk e.ch) → hopsF j (copyL (al k) (fun s => s) i l) = hopsF j l := by
    intro l
    induction l with
    | nil => intro i j _; rfl
    | cons x r ih =>
      intro i j h
      have hx : x.nx.flatMap (chgE fun s => s) = x.nx := by
        have h1 : ∀ e ∈ x.nx, chgE (fun s => s) e = [e] := fun e he => by
          have := (h x (by simp) e he).2.1
          unfold chgE; rw [if_pos this]
        have : ∀ l : List Edg, (∀ e ∈ l, chgE (fun s => s) e = [e]) → l.flatMap (chgE fun s => s) = l := by
          intro l
          induction l with
          | nil => intro _; rfl
          | cons e l ih => intro hl; rw [List.flatMap_cons, hl e (by simp), ih fun e' he' => hl e' (by simp [he'])]; rfl
        exact this _ h1
      simp only [copyL, hopsF, hopsOf, copyN, hx, ih (i + 1) (j + 1) fun y hy => h y (by simp [hy])]
  unfold stp
  rw [copyT_stg]
  refine key _ _ _ fun x hx e he => ?_
  by_cases hk : k < t.length
  · exact ((valid_stg hv hk).2.2 x hx).2.2 e he |>.2.2
  · rw [List.getD_eq_getElem?_getD, List.getElem?_eq_none (by omega)] at hx; cases hx
theorem nar_small (hv : valid t) (hb : big (narT t) = false) : ∀ k i, k < t.length → i < wd t k → small ((allv t k).getD i []) := fun k i hk hi => by
  refine ⟨?_, goods_get (allv_goods hv hk) i⟩
  have hx : (t.getD k [])[i]? = some ((t.getD k []).getD i ⟨[], []⟩) := getD_some hi
  have hy : ((narT t).getD k [])[i]? = some (copyN ((allv t k).getD i []) (fun s => s) ((t.getD k []).getD i ⟨[], []⟩)) := by
    rw [copyT_stg, copyL_get, Nat.zero_add, hx]; rfl
  have hk' : (narT t)[k]? = some ((narT t).getD k []) := getD_some (by rw [copyF_len]; exact hk)
  have hn := List.any_eq_false.1 (big_f hb (List.mem_of_getElem? hk')) _ (List.mem_of_getElem? hy)
  have h64 : ¬ 64 < ((allv t k).getD i []).length := fun h => hn (by unfold bigN copyN; simp only; rw [decide_eq_true h]; rfl)
  omega
theorem nar_valid (hv : valid t) (hb : big (narT t) = false) : valid (narT t) := copyT_valid hv (nar_small hv hb) fun k s hs _ => hs
theorem nar_course (hv : valid t) {c : List At} : course (narT t) c ↔ course t c := by
  have hlen : (narT t).length = t.length := copyF_len _ _ _ _
  constructor
  · intro h
    rw [course_iff] at h ⊢
    rw [hlen] at h
    refine ⟨h.1, fun i a ha => ?_⟩
    obtain ⟨⟨p1, p2, p3⟩, h2⟩ := h.2 i a ha
    have hi : i < t.length := by have := (List.getElem?_eq_some_iff.1 ha).1; omega
    rw [copyT_wd] at p2
    rw [copyT_als (by omega)] at p3
    refine ⟨⟨p1, p2, ?_⟩, fun b hb => ?_⟩
    · have := (allv_course hv i a hi).1 ⟨p1, p2, p3⟩
      obtain ⟨c', hc', hca⟩ := this
      exact ((course_iff.1 hc').2 i a hca).1.2.2
    · have := h2 b hb
      unfold stepOk at this ⊢
      rwa [copyT_stp_id hv] at this
  · intro hc
    have h := hc
    rw [course_iff] at h ⊢
    rw [hlen]
    refine ⟨h.1, fun i a ha => ?_⟩
    have hi : i < t.length := by have := (List.getElem?_eq_some_iff.1 ha).1; omega
    obtain ⟨p1, p2, p3⟩ := (allv_course hv i a hi).2 ⟨c, hc, ha⟩
    refine ⟨⟨p1, by rw [copyT_wd]; exact p2, by rw [copyT_als (by omega)]; exact p3⟩, fun b hb => ?_⟩
    have := (h.2 i a ha).2 b hb
    unfold stepOk at this ⊢
    rwa [copyT_stp_id hv]
theorem nar_allv (hv : valid t) (hb : big (narT t) = false) {k : Nat} (hk : k < t.length) : allv (narT t) k = allv t k := by
  have hvN := nar_valid hv hb
  have hlen : (narT t).length = t.length := copyF_len _ _ _ _
  have hkN : k < (narT t).length := by omega
  have l1 := allv_len (t := t) hk
  have l2 := allv_len (t := narT t) hkN
  rw [copyT_wd] at l2
  refine List.ext_getElem? fun i => ?_
  by_cases hi : i < wd t k
  · rw [getD_some (d := []) (show i < (allv (narT t) k).length by omega), getD_some (d := []) (show i < (allv t k).length by omega)]
    refine congrArg some (Norm.ext (goods_get (allv_goods hvN hkN) i).1 (goods_get (allv_goods hv hk) i).1 fun v => ?_)
    have e1 := allv_course hvN k ⟨i, v⟩ hkN
    have e2 := allv_course hv k ⟨i, v⟩ hk
    simp only [Int.toNat_natCast, copyT_wd] at e1 e2
    have h0 : (0 : Int) ≤ (i : Int) := by omega
    have h1 : (i : Int) < (wd t k : Int) := by omega
    simp only [h0, h1, true_and] at e1 e2
    rw [e1, e2]
    exact exists_congr fun c => and_congr_left fun _ => nar_course hv
  · rw [List.getElem?_eq_none (by omega), List.getElem?_eq_none (by omega)]
theorem copyL_id {al : Nat → List Sp} : ∀ (l : List Nod) (i : Nat), (∀ j x, l[j]? = some x → al (i + j) = x.al) → (∀ x ∈ l, ∀ e ∈ x.nx, chOk e.ch) → copyL al (fun s => s) i l = l
  | [], _, _, _ => rfl
  | x :: r, i, h, hc => by
    have hx : x.nx.flatMap (chgE fun s => s) = x.nx := by
      have : ∀ l : List Edg, (∀ e ∈ l, chOk e.ch) → l.flatMap (chgE fun s => s) = l := by
        intro l
        induction l with
        | nil => intro _; rfl
        | cons e l ih =>
          intro hl
          have := (hl e (by simp)).2.1
          rw [List.flatMap_cons, ih fun e' he' => hl e' (by simp [he'])]
          unfold chgE; rw [if_pos this]; rfl
      exact this _ (hc x (by simp))
    have ha := h 0 x rfl
    have ih := copyL_id r (i + 1) (fun j y hy => by rw [← h (j + 1) y (by simpa using hy)]; congr 1; omega) fun y hy => hc y (by simp [hy])
    simp only [copyL, copyN, hx, ih]
    rw [show al i = x.al from ha]
theorem nar_idem (hv : valid t) (hb : big (narT t) = false) : narT (narT t) = narT t := by
  have hvN := nar_valid hv hb
  have hlen : (narT t).length = t.length := copyF_len _ _ _ _
  refine List.ext_getElem? fun k => ?_
  by_cases hk : k < t.length
  · have hkN : k < (narT t).length := by omega
    rw [getD_some (d := []) (show k < (narT (narT t)).length by rw [copyF_len]; exact hkN), getD_some (d := []) hkN, copyT_stg]
    refine congrArg some (copyL_id _ 0 (fun j x hx => ?_) fun x hx e he => (((valid_stg hvN hkN).2.2 x hx).2.2 e he).2.2)
    have hj : j < wd t k := by rw [← copyT_wd (t := t) (al := fun k i => (allv t k).getD i []) (chg := fun _ s => s)]; exact (List.getElem?_eq_some_iff.1 hx).1
    rw [Nat.zero_add, nar_allv hv hb hk]
    obtain ⟨y, _, rfl⟩ := copyT_nod hx
    rfl
  · rw [List.getElem?_eq_none (by rw [copyF_len, hlen]; omega), List.getElem?_eq_none (by omega)]
end
theorem SameTrack_refl (t : Trk) (hs : trkSz t) : Pure Tryz.prog 56 [trS t, trS t] (bl true) := by
  refine Pure.of_body Tryz.call56 Tryz.func56 k56 (Nat.le_of_ble_eq_true rfl) ?_
  unfold c56
  have hl := hs.1
  (repeat' ((first
 | refine vn rfl ?_
 | simp (disch := omega) only [wr64, Int.zero_sub]
 | refine AWPC.both (fun _ => ?_) (fun _ => ?_)
 | refine AWPC.imp (fun _ => ?_)
 | refine cF ?_
 | refine om ?_
 | refine an ?_
 | fail) <;> try simp only [zT, zV, zS, zU, vcC, kscp, lateX, ex, strp, cnd, binA, kseq, kblk, kret, klp, Abs.one, elems, cells, scalar, eqC, keyA, intsA, lookA, ofVs, mpOf, Nat.reduceBEq, reduceAdd, reduceSub, reduceLT, reduceLeDiff, reduceMul, reduceEqDiff, reduceIte]))
  all_goals try (exfalso; omega)
  refine AWPC.loopE (α := { x : Nat × Sto // x.1 ≤ t.length }) [5] (fun x => [(5, n x.1.1)]) (fun x => x.1.2) (fun x => t.length - x.1.1) ⟨(0, []), by simp⟩ ?_ rfl ?_
  · (simp only [zT, zV, zS, zU, vcC, kscp, lateX, ex, strp, cnd, binA, kseq, kblk, kret, klp, Abs.one, elems, cells, scalar, eqC, keyA, intsA, lookA, ofVs, mpOf, Nat.reduceBEq, reduceAdd, reduceSub, reduceLT, reduceLeDiff, reduceMul, reduceEqDiff, reduceIte]; try simp)
  rintro ⟨⟨k, τ⟩, hk⟩
  simp only at hk
  simp only
  by_cases hlt : k < t.length
  · obtain ⟨L, hL⟩ : ∃ L, t[k]? = some L := ⟨_, List.getElem?_eq_getElem hlt⟩
    have gL : (t.map fun l => [stS l]).getD k [] = [stS L] := getD_map hL
    obtain ⟨s1, s2⟩ := hs.2 L (List.mem_of_getElem? hL)
    (repeat' ((first
 | refine vn rfl ?_
 | simp (disch := omega) only [wr64, Int.zero_sub]
 | refine AWPC.both (fun _ => ?_) (fun _ => ?_)
 | refine AWPC.imp (fun _ => ?_)
 | refine cF ?_
 | refine om ?_
 | refine an ?_
 | fail) <;> try simp only [zT, zV, zS, zU, vcC, kscp, lateX, ex, strp, cnd, binA, kseq, kblk, kret, klp, Abs.one, elems, cells, scalar, eqC, keyA, intsA, lookA, ofVs, mpOf, Nat.reduceBEq, reduceAdd, reduceSub, reduceLT, reduceLeDiff, reduceMul, reduceEqDiff, reduceIte, gL]))
    all_goals try (exfalso; omega)
    refine AWPC.loopE (α := { x : Nat × Sto // x.1 ≤ L.length }) [6] (fun x => [(6, n x.1.1)]) (fun x => x.1.2) (fun x => L.length - x.1.1) ⟨(0, τ), by simp⟩ ?_ rfl ?_
    · (simp only [zT, zV, zS, zU, vcC, kscp, lateX, ex, strp, cnd, binA, kseq, kblk, kret, klp, Abs.one, elems, cells, scalar, eqC, keyA, intsA, lookA, ofVs, mpOf, Nat.reduceBEq, reduceAdd, reduceSub, reduceLT, reduceLeDiff, reduceMul, reduceEqDiff, reduceIte]; try simp)
    rintro ⟨⟨i, τ⟩, hi⟩
    simp only at hi
    simp only
    by_cases hlt2 : i < L.length
    · obtain ⟨x, hx⟩ : ∃ x, L[i]? = some x := ⟨_, List.getElem?_eq_getElem hlt2⟩
      obtain ⟨x1, x2⟩ := s2 x (List.mem_of_getElem? hx)
      have hss := SameSpans_spec x.al x.al x1 x1
      rw [decide_eq_true rfl] at hss
      (repeat' ((first
 | refine vn rfl ?_
 | simp (disch := omega) only [wr64, Int.zero_sub]
 | refine AWPC.both (fun _ => ?_) (fun _ => ?_)
 | refine AWPC.imp (fun _ => ?_)
 | ((repeat refine si ?_); (first | ((first | refine .inl ⟨_, _, _, _, rfl, fun _ => pu hss, ?_⟩ | refine ⟨_, _, _, _, rfl, fun _ => pu hss, ?_⟩); (first | refine owp_of_exs ?_ | refine pre_of_exd ?_ | refine pre_of_exe ?_ | refine pre_of_exv ?_)) | refine .inl ⟨_, _, _, _, rfl, pu hss, ?_⟩))
 | refine cF ?_
 | refine om ?_
 | refine an ?_
 | fail) <;> try simp only [zT, zV, zS, zU, vcC, kscp, lateX, ex, strp, cnd, binA, kseq, kblk, kret, klp, Abs.one, elems, cells, scalar, eqC, keyA, intsA, lookA, ofVs, mpOf, Nat.reduceBEq, reduceAdd, reduceSub, reduceLT, reduceLeDiff, reduceMul, reduceEqDiff, reduceIte, gL, getD_map hx]))
      all_goals try (exfalso; omega)
      refine AWPC.loopE (α := { j : Nat // j ≤ x.nx.length }) [9] (fun j => [(9, n j.1)]) (fun j => τ ++ [some [⟨80, 2, [Nod.cs x], none⟩], some [⟨80, 2, [Nod.cs x], none⟩]]) (fun j => x.nx.length - j.1) ⟨0, by simp⟩ ?_ (by simp) ?_
      · (simp only [zT, zV, zS, zU, vcC, kscp, lateX, ex, strp, cnd, binA, kseq, kblk, kret, klp, Abs.one, elems, cells, scalar, eqC, keyA, intsA, lookA, ofVs, mpOf, Nat.reduceBEq, reduceAdd, reduceSub, reduceLT, reduceLeDiff, reduceMul, reduceEqDiff, reduceIte]; try simp)
      rintro ⟨j, hj⟩
      try simp only at hj
      by_cases hlt3 : j < x.nx.length
      · obtain ⟨e, he⟩ : ∃ e, x.nx[j]? = some e := ⟨_, List.getElem?_eq_getElem hlt3⟩
        (repeat' ((first
 | refine vn rfl ?_
 | simp (disch := omega) only [wr64, Int.zero_sub]
 | refine AWPC.both (fun _ => ?_) (fun _ => ?_)
 | refine AWPC.imp (fun _ => ?_)
 | refine cF ?_
 | refine om ?_
 | refine an ?_
 | fail) <;> try simp only [zT, zV, zS, zU, vcC, kscp, lateX, ex, strp, cnd, binA, kseq, kblk, kret, klp, Abs.one, elems, cells, scalar, eqC, keyA, intsA, lookA, ofVs, mpOf, Nat.reduceBEq, reduceAdd, reduceSub, reduceLT, reduceLeDiff, reduceMul, reduceEqDiff, reduceIte, getD_map he]))
        all_goals try (exfalso; omega)
        all_goals first | exact ⟨⟨j + 1, hlt3⟩, by simp, by simp only; omega⟩ | (exfalso; simp_all; done)
      · obtain rfl : j = x.nx.length := by omega
        (repeat' ((first
 | refine vn rfl ?_
 | simp (disch := omega) only [wr64, Int.zero_sub]
 | refine AWPC.both (fun _ => ?_) (fun _ => ?_)
 | refine AWPC.imp (fun _ => ?_)
 | refine cF ?_
 | refine om ?_
 | refine an ?_
 | fail) <;> try simp only [zT, zV, zS, zU, vcC, kscp, lateX, ex, strp, cnd, binA, kseq, kblk, kret, klp, Abs.one, elems, cells, scalar, eqC, keyA, intsA, lookA, ofVs, mpOf, Nat.reduceBEq, reduceAdd, reduceSub, reduceLT, reduceLeDiff, reduceMul, reduceEqDiff, reduceIte]))
        all_goals try (exfalso; omega)
        exact ⟨⟨(i + 1, _), hlt2⟩, by simp, rfl, by simp only; omega⟩
    · obtain rfl : i = L.length := by omega
      (repeat' ((first
 | refine vn rfl ?_
 | simp (disch := omega) only [wr64, Int.zero_sub]
 | refine AWPC.both (fun _ => ?_) (fun _ => ?_)
 | refine AWPC.imp (fun _ => ?_)
 | refine cF ?_
 | refine om ?_
 | refine an ?_
 | fail) <;> try simp only [zT, zV, zS, zU, vcC, kscp, lateX, ex, strp, cnd, binA, kseq, kblk, kret, klp, Abs.one, elems, cells, scalar, eqC, keyA, intsA, lookA, ofVs, mpOf, Nat.reduceBEq, reduceAdd, reduceSub, reduceLT, reduceLeDiff, reduceMul, reduceEqDiff, reduceIte, gL]))
      all_goals try (exfalso; omega)
      exact ⟨⟨(k + 1, τ), hlt⟩, by simp, rfl, by simp only; omega⟩
  · obtain rfl : k = t.length := by omega
    (repeat' ((first
 | refine vn rfl ?_
 | simp (disch := omega) only [wr64, Int.zero_sub]
 | refine AWPC.both (fun _ => ?_) (fun _ => ?_)
 | refine AWPC.imp (fun _ => ?_)
 | refine cF ?_
 | refine om ?_
 | refine an ?_
 | fail) <;> try simp only [zT, zV, zS, zU, vcC, kscp, lateX, ex, strp, cnd, binA, kseq, kblk, kret, klp, Abs.one, elems, cells, scalar, eqC, keyA, intsA, lookA, ofVs, mpOf, Nat.reduceBEq, reduceAdd, reduceSub, reduceLT, reduceLeDiff, reduceMul, reduceEqDiff, reduceIte]))
    all_goals try (exfalso; omega)
    all_goals exact Frz.eq rfl (by simp)
def c17 : CF := ⟨112,
 (.seq (.ops [
 ⟨some 1,.box false 24 1 (.t 0),none⟩,
 ⟨some 2,.mv (.c (.bool false)),none⟩] [1])
 (.seq (.seq (.ops [
 ⟨some 6,.faddr 0 (.t 1),none⟩,
 ⟨some 7,.load none (.t 6),none⟩,
 ⟨some 8,.len (.t 7),none⟩,
 ⟨some 9,.bin .gtr (.t 8) (.c (.int .i64 8)),none⟩,
 ⟨some 10,.mv (.t 9),none⟩,
 ⟨some 11,.faddr 0 (.t 1),some (10,true)⟩,
 ⟨some 12,.load none (.t 11),some (10,true)⟩,
 ⟨some 13,.len (.t 12),some (10,true)⟩,
 ⟨some 14,.bin .leq (.t 13) (.c (.int .i64 401)),some (10,true)⟩,
 ⟨some 15,.pick (.t 10) (.t 14) (.c (.bool false)),none⟩,
 ⟨some 16,.mv (.t 15),none⟩,
 ⟨some 17,.faddr 0 (.t 1),some (16,false)⟩,
 ⟨some 18,.load none (.t 17),some (16,false)⟩,
 ⟨some 19,.len (.t 18),some (16,false)⟩,
 ⟨some 20,.bin .gtr (.t 19) (.c (.int .i64 802)),some (16,false)⟩,
 ⟨some 21,.pick (.t 16) (.c (.bool true)) (.t 20),none⟩] [1,21])
 (.cond (.t 21) (.seq (.ops [
 ⟨some 2,.mv (.c (.bool false)),none⟩] [2])
 .ret)
 .skip))
 (.seq (.seq (.ops [
 ⟨some 3,.mv (.c (.int .i64 0)),none⟩] [1,3])
 (.block 0 (.loop (.seq (.seq (.ops [
 ⟨some 22,.mv (.t 3),none⟩,
 ⟨some 23,.faddr 0 (.t 1),none⟩,
 ⟨some 24,.load none (.t 23),none⟩,
 ⟨some 25,.len (.t 24),none⟩,
 ⟨some 26,.bin .lss (.t 22) (.t 25),none⟩] [1,3,26])
 (.cond (.t 26) .skip
 (.exit 0)))
 (.seq (.block 1 (.seq (.seq (.ops [
 ⟨some 29,.faddr 0 (.t 1),none⟩,
 ⟨some 30,.load none (.t 29),none⟩,
 ⟨some 31,.mv (.t 3),none⟩,
 ⟨some 32,.iaddr 1 (.t 30) (.t 31),none⟩,
 ⟨some 33,.load none (.t 32),none⟩,
 ⟨some 34,.len (.t 33),none⟩,
 ⟨some 35,.bin .gtr (.t 34) (.c (.int .i64 6)),none⟩,
 ⟨some 36,.mv (.t 35),none⟩,
 ⟨some 37,.faddr 0 (.t 1),some (36,true)⟩,
 ⟨some 38,.load none (.t 37),some (36,true)⟩,
 ⟨some 39,.mv (.t 3),some (36,true)⟩,
 ⟨some 40,.iaddr 1 (.t 38) (.t 39),some (36,true)⟩,
 ⟨some 41,.load none (.t 40),some (36,true)⟩,
 ⟨some 42,.len (.t 41),some (36,true)⟩,
 ⟨some 43,.bin .leq (.t 42) (.c (.int .i64 4000)),some (36,true)⟩,
 ⟨some 44,.mv (.t 43),some (36,true)⟩,
 ⟨some 45,.faddr 0 (.t 1),some (44,false)⟩,
 ⟨some 46,.load none (.t 45),some (44,false)⟩,
 ⟨some 47,.len (.t 46),some (44,false)⟩,
 ⟨some 48,.bin .gtr (.t 47) (.c (.int .i64 8)),some (44,false)⟩,
 ⟨some 49,.pick (.t 44) (.c (.bool true)) (.t 48),some (36,true)⟩,
 ⟨some 50,.pick (.t 36) (.t 49) (.c (.bool false)),none⟩,
 ⟨some 51,.mv (.t 50),none⟩,
 ⟨some 52,.faddr 0 (.t 1),some (51,false)⟩,
 ⟨some 53,.load none (.t 52),some (51,false)⟩,
 ⟨some 54,.mv (.t 3),some (51,false)⟩,
 ⟨some 55,.iaddr 1 (.t 53) (.t 54),some (51,false)⟩,
 ⟨some 56,.load none (.t 55),some (51,false)⟩,
 ⟨some 57,.len (.t 56),some (51,false)⟩,
 ⟨some 58,.bin .gtr (.t 57) (.c (.int .i64 8000)),some (51,false)⟩,
 ⟨some 59,.pick (.t 51) (.c (.bool true)) (.t 58),none⟩] [1,3,59])
 (.cond (.t 59) (.seq (.ops [
 ⟨some 2,.mv (.c (.bool false)),none⟩] [2])
 .ret)
 .skip))
 (.seq (.ops [
 ⟨some 4,.mv (.c (.int .i64 0)),none⟩] [1,3,4])
 (.block 2 (.loop (.seq (.seq (.ops [
 ⟨some 60,.mv (.t 4),none⟩,
 ⟨some 61,.faddr 0 (.t 1),none⟩,
 ⟨some 62,.load none (.t 61),none⟩,
 ⟨some 63,.mv (.t 3),none⟩,
 ⟨some 64,.iaddr 1 (.t 62) (.t 63),none⟩,
 ⟨some 65,.load none (.t 64),none⟩,
 ⟨some 66,.len (.t 65),none⟩,
 ⟨some 67,.bin .lss (.t 60) (.t 66),none⟩] [1,3,4,67])
 (.cond (.t 67) .skip
 (.exit 2)))
 (.seq (.block 3 (.seq (.ops [
 ⟨some 70,.faddr 0 (.t 1),none⟩,
 ⟨some 71,.load none (.t 70),none⟩,
 ⟨some 72,.mv (.t 3),none⟩,
 ⟨some 73,.iaddr 1 (.t 71) (.t 72),none⟩,
 ⟨some 74,.load none (.t 73),none⟩,
 ⟨some 75,.mv (.t 4),none⟩,
 ⟨some 76,.iaddr 2 (.t 74) (.t 75),none⟩,
 ⟨some 77,.load (some 2) (.t 76),none⟩,
 ⟨some 5,.alloc 80 2 [.slice none 0 0,.slice none 0 0],none⟩,
 ⟨none,.store 2 (.t 5) (.t 77),none⟩] [1,3,4,5])
 (.seq (.ops [
 ⟨some 78,.faddr 0 (.t 5),none⟩,
 ⟨some 79,.load none (.t 78),none⟩,
 ⟨some 80,.len (.t 79),none⟩,
 ⟨some 81,.bin .gtr (.t 80) (.c (.int .i64 8)),none⟩,
 ⟨some 82,.mv (.t 81),none⟩,
 ⟨some 83,.faddr 0 (.t 5),some (82,true)⟩,
 ⟨some 84,.load none (.t 83),some (82,true)⟩,
 ⟨some 85,.len (.t 84),some (82,true)⟩,
 ⟨some 86,.bin .leq (.t 85) (.c (.int .i64 64)),some (82,true)⟩,
 ⟨some 87,.pick (.t 82) (.t 86) (.c (.bool false)),none⟩,
 ⟨some 88,.mv (.t 87),none⟩,
 ⟨some 89,.faddr 0 (.t 5),some (88,false)⟩,
 ⟨some 90,.load none (.t 89),some (88,false)⟩,
 ⟨some 91,.len (.t 90),some (88,false)⟩,
 ⟨some 92,.bin .gtr (.t 91) (.c (.int .i64 128)),some (88,false)⟩,
 ⟨some 93,.pick (.t 88) (.c (.bool true)) (.t 92),none⟩,
 ⟨some 94,.mv (.t 93),none⟩,
 ⟨some 95,.faddr 1 (.t 5),some (94,false)⟩,
 ⟨some 96,.load none (.t 95),some (94,false)⟩,
 ⟨some 97,.len (.t 96),some (94,false)⟩,
 ⟨some 98,.bin .gtr (.t 97) (.c (.int .i64 8)),some (94,false)⟩,
 ⟨some 99,.mv (.t 98),some (94,false)⟩,
 ⟨some 100,.faddr 1 (.t 5),some (99,true)⟩,
 ⟨some 101,.load none (.t 100),some (99,true)⟩,
 ⟨some 102,.len (.t 101),some (99,true)⟩,
 ⟨some 103,.bin .leq (.t 102) (.c (.int .i64 64)),some (99,true)⟩,
 ⟨some 104,.pick (.t 99) (.t 103) (.c (.bool false)),some (94,false)⟩,
 ⟨some 105,.pick (.t 94) (.c (.bool true)) (.t 104),none⟩,
 ⟨some 106,.mv (.t 105),none⟩,
 ⟨some 107,.faddr 1 (.t 5),some (106,false)⟩,
 ⟨some 108,.load none (.t 107),some (106,false)⟩,
 ⟨some 109,.len (.t 108),some (106,false)⟩,
 ⟨some 110,.bin .gtr (.t 109) (.c (.int .i64 128)),some (106,false)⟩,
 ⟨some 111,.pick (.t 106) (.c (.bool true)) (.t 110),none⟩] [1,3,4,111])
 (.cond (.t 111) (.seq (.ops [
 ⟨some 2,.mv (.c (.bool false)),none⟩] [2])
 .ret)
 .skip))))
 (.ops [
 ⟨some 68,.mv (.t 4),none⟩,
 ⟨some 69,.bin .add (.t 68) (.c (.int .i64 1)),none⟩,
 ⟨some 4,.mv (.t 69),none⟩] [1,3,4]))))))))
 (.ops [
 ⟨some 27,.mv (.t 3),none⟩,
 ⟨some 28,.bin .add (.t 27) (.c (.int .i64 1)),none⟩,
 ⟨some 3,.mv (.t 28),none⟩] [1,3]))))))
 (.seq (.ops [
 ⟨some 2,.mv (.c (.bool true)),none⟩] [2])
 .ret)))),
 [.t 2]⟩
theorem k17 : chkF Tryz.prog Tryz.f17 c17 = true := by kernel_rfl
abbrev manyN (x : Nod) : Prop := ((8 < x.al.length ∧ x.al.length ≤ 64) ∨ 128 < x.al.length) ∨ (8 < x.nx.length ∧ x.nx.length ≤ 64) ∨ 128 < x.nx.length
abbrev manyL (m : Nat) (l : List Nod) : Prop := (6 < l.length ∧ (l.length ≤ 4000 ∨ 8 < m)) ∨ 8000 < l.length
abbrev manyT (m : Nat) : Prop := (8 < m ∧ m ≤ 401) ∨ 802 < m
def fewB (t : Trk) : Bool := !decide (manyT t.length) && t.all fun l => !decide (manyL t.length l) && l.all fun x => !decide (manyN x)
theorem fewB_f1 {t : Trk} (h : manyT t.length) : fewB t = false := by unfold fewB; rw [decide_eq_true h]; rfl
theorem fewB_f {t : Trk} {l : List Nod} (hl : l ∈ t) (h : (!decide (manyL t.length l) && l.all fun x => !decide (manyN x)) = false) : fewB t = false := by
  unfold fewB
  have : (t.all fun l => !decide (manyL t.length l) && l.all fun x => !decide (manyN x)) = false := by
    cases ha : t.all fun l => !decide (manyL t.length l) && l.all fun x => !decide (manyN x) with
    | false => rfl
    | true => rw [List.all_eq_true.1 ha l hl] at h; cases h
  rw [this]; simp
theorem fewB_t {t : Trk} (h1 : ¬ manyT t.length) (h : ∀ l ∈ t, ¬ manyL t.length l ∧ ∀ x ∈ l, ¬ manyN x) : fewB t = true := by
  unfold fewB
  rw [decide_eq_false h1]
  have : (t.all fun l => !decide (manyL t.length l) && l.all fun x => !decide (manyN x)) = true := List.all_eq_true.2 fun l hl => by
    obtain ⟨h2, h3⟩ := h l hl
    rw [decide_eq_false h2]
    have : (l.all fun x => !decide (manyN x)) = true := List.all_eq_true.2 fun x hx => by rw [decide_eq_false (h3 x hx)]; rfl
    rw [this]; rfl
  rw [this]; rfl
theorem few_spec (t : Trk) (hs : trkSz t) : Pure Tryz.prog 17 [trS t] (bl (fewB t)) := by
  refine Pure.of_body Tryz.call17 Tryz.func17 k17 (Nat.le_of_ble_eq_true rfl) ?_
  unfold c17
  have h1 := hs.1
  (repeat' ((first
 | refine vn rfl ?_
 | simp (disch := omega) only [wr64, Int.zero_sub]
 | refine AWPC.both (fun _ => ?_) (fun _ => ?_)
 | refine AWPC.imp (fun _ => ?_)
 | refine cF ?_
 | refine om ?_
 | refine an ?_
 | fail) <;> try simp only [zT, zV, zS, zU, vcC, kscp, lateX, ex, strp, cnd, binA, kseq, kblk, kret, klp, Abs.one, elems, cells, scalar, eqC, keyA, intsA, lookA, ofVs, mpOf, Nat.reduceBEq, reduceAdd, reduceSub, reduceLT, reduceLeDiff, reduceMul, reduceEqDiff, reduceIte]))
  · rename_i h
    rw [fewB_f1 (by unfold manyT; omega)]
    exact Frz.eq rfl (by simp)
  rename_i hT
  refine AWPC.loopE (α := { x : Nat × Sto // x.1 ≤ t.length ∧ ∀ l ∈ t.take x.1, ¬ manyL t.length l ∧ ∀ y ∈ l, ¬ manyN y }) [3] (fun x => [(3, n x.1.1)]) (fun x => x.1.2) (fun x => t.length - x.1.1) ⟨(0, []), Nat.zero_le _, by simp⟩ ?_ rfl ?_
  · (simp only [zT, zV, zS, zU, vcC, kscp, lateX, ex, strp, cnd, binA, kseq, kblk, kret, klp, Abs.one, elems, cells, scalar, eqC, keyA, intsA, lookA, ofVs, mpOf, Nat.reduceBEq, reduceAdd, reduceSub, reduceLT, reduceLeDiff, reduceMul, reduceEqDiff, reduceIte]; try simp)
  rintro ⟨⟨k, μ⟩, hk, hk2⟩
  try simp only at hk hk2
  try simp only
  by_cases hlt : k < t.length
  · have htk : t[k]? = some (t.getD k []) := getD_some hlt
    have gtk : (t.map fun l => [stS l]).getD k [] = [stS (t.getD k [])] := getD_map htk
    have hm := List.mem_of_getElem? htk
    have hs2 := hs.2 _ hm
    have hsn := take_snoc htk
    generalize t.getD k [] = L at *
    obtain ⟨hL, hL2⟩ := hs2
    (repeat' ((first
 | refine vn rfl ?_
 | simp (disch := omega) only [wr64, Int.zero_sub]
 | refine AWPC.both (fun _ => ?_) (fun _ => ?_)
 | refine AWPC.imp (fun _ => ?_)
 | refine cF ?_
 | refine om ?_
 | refine an ?_
 | fail) <;> try simp only [zT, zV, zS, zU, vcC, kscp, lateX, ex, strp, cnd, binA, kseq, kblk, kret, klp, Abs.one, elems, cells, scalar, eqC, keyA, intsA, lookA, ofVs, mpOf, Nat.reduceBEq, reduceAdd, reduceSub, reduceLT, reduceLeDiff, reduceMul, reduceEqDiff, reduceIte, gtk]))
    all_goals try (exfalso; omega)
    · rename_i h
      rw [fewB_f hm (by rw [decide_eq_true (by unfold manyL; omega)]; rfl)]
      exact Frz.eq rfl (by simp)
    rename_i hM
    have hM' : ¬ manyL t.length L := by unfold manyL; omega
    refine AWPC.loopE (α := { x : Nat × Sto // x.1 ≤ L.length ∧ ∀ y ∈ L.take x.1, ¬ manyN y }) [4] (fun x => [(4, n x.1.1)]) (fun x => x.1.2) (fun x => L.length - x.1.1) ⟨(0, μ), Nat.zero_le _, by simp⟩ ?_ rfl ?_
    · (simp only [zT, zV, zS, zU, vcC, kscp, lateX, ex, strp, cnd, binA, kseq, kblk, kret, klp, Abs.one, elems, cells, scalar, eqC, keyA, intsA, lookA, ofVs, mpOf, Nat.reduceBEq, reduceAdd, reduceSub, reduceLT, reduceLeDiff, reduceMul, reduceEqDiff, reduceIte]; try simp)
    rintro ⟨⟨i, ν⟩, hi, hi2⟩
    try simp only at hi hi2
    try simp only
    by_cases hlt2 : i < L.length
    · obtain ⟨x, hx⟩ : ∃ x, L[i]? = some x := ⟨_, List.getElem?_eq_getElem hlt2⟩
      have hxm := List.mem_of_getElem? hx
      obtain ⟨x1, x2⟩ := hL2 x hxm
      have hsx := take_snoc hx
      (repeat' ((first
 | refine vn rfl ?_
 | simp (disch := omega) only [wr64, Int.zero_sub]
 | refine AWPC.both (fun _ => ?_) (fun _ => ?_)
 | refine AWPC.imp (fun _ => ?_)
 | refine cF ?_
 | refine om ?_
 | refine an ?_
 | fail) <;> try simp only [zT, zV, zS, zU, vcC, kscp, lateX, ex, strp, cnd, binA, kseq, kblk, kret, klp, Abs.one, elems, cells, scalar, eqC, keyA, intsA, lookA, ofVs, mpOf, Nat.reduceBEq, reduceAdd, reduceSub, reduceLT, reduceLeDiff, reduceMul, reduceEqDiff, reduceIte, gtk, getD_map hx, List.cons_append]))
      all_goals try (exfalso; omega)
      · rename_i h
        have hN : manyN x := by unfold manyN; omega
        have hf : (!decide (manyL t.length L) && L.all fun x => !decide (manyN x)) = false := by
          rw [Bool.and_eq_false_iff]
          refine .inr ?_
          cases ha : L.all fun x => !decide (manyN x) with
          | false => rfl
          | true => have := List.all_eq_true.1 ha x hxm; rw [decide_eq_true hN] at this; cases this
        rw [fewB_f hm hf]
        exact Frz.eq rfl (by simp)
      · rename_i h
        have hN : ¬ manyN x := by unfold manyN; omega
        exact ⟨⟨(i + 1, ν ++ [some [⟨80, 2, [Nod.cs x], none⟩]]), hlt2, fun y hy => by
          rw [hsx] at hy
          rcases List.mem_append.1 hy with h | h
          · exact hi2 y h
          · rw [List.mem_singleton.1 h]; exact hN⟩, rfl, rfl, by simp only; omega⟩
    · obtain rfl : i = L.length := by omega
      rw [List.take_length] at hi2
      (repeat' ((first
 | refine vn rfl ?_
 | simp (disch := omega) only [wr64, Int.zero_sub]
 | refine AWPC.both (fun _ => ?_) (fun _ => ?_)
 | refine AWPC.imp (fun _ => ?_)
 | refine cF ?_
 | refine om ?_
 | refine an ?_
 | fail) <;> try simp only [zT, zV, zS, zU, vcC, kscp, lateX, ex, strp, cnd, binA, kseq, kblk, kret, klp, Abs.one, elems, cells, scalar, eqC, keyA, intsA, lookA, ofVs, mpOf, Nat.reduceBEq, reduceAdd, reduceSub, reduceLT, reduceLeDiff, reduceMul, reduceEqDiff, reduceIte, gtk]))
      all_goals try (exfalso; omega)
      exact ⟨⟨(k + 1, ν), hlt, fun l hl => by
        rw [hsn] at hl
        rcases List.mem_append.1 hl with h | h
        · exact hk2 l h
        · rw [List.mem_singleton.1 h]
          exact ⟨hM', hi2⟩⟩, rfl, rfl, by simp only; omega⟩
  · obtain rfl : k = t.length := by omega
    rw [List.take_length] at hk2
    rw [fewB_t (by unfold manyT; omega) hk2]
    (repeat' ((first
 | refine vn rfl ?_
 | simp (disch := omega) only [wr64, Int.zero_sub]
 | refine AWPC.both (fun _ => ?_) (fun _ => ?_)
 | refine AWPC.imp (fun _ => ?_)
 | refine cF ?_
 | refine om ?_
 | refine an ?_
 | fail) <;> try simp only [zT, zV, zS, zU, vcC, kscp, lateX, ex, strp, cnd, binA, kseq, kblk, kret, klp, Abs.one, elems, cells, scalar, eqC, keyA, intsA, lookA, ofVs, mpOf, Nat.reduceBEq, reduceAdd, reduceSub, reduceLT, reduceLeDiff, reduceMul, reduceEqDiff, reduceIte]))
    all_goals try (exfalso; omega)
    exact Frz.eq rfl (by simp)
theorem allvs_sz {t : Trk} (hv : valid t) : setsSz (allvs t) := by
  have h2 := hv.2.1
  refine ⟨by rw [allvs_len]; omega, fun x hx => ?_⟩
  obtain ⟨k, hk, rfl⟩ := List.mem_map.1 hx
  have hk := List.mem_range.1 hk
  have hw := wd_le hv k
  exact ⟨by rw [allv_len hk]; omega, fun l hl => by have := good_len (allv_goods hv hk l hl); omega⟩
inductive Made (t : Trk) (E : Int) (F : Trk) (A : List (List (List Sp))) (e : Int) : Prop
  | yes (hE : E = 0) (hA : A = allvs F) (he : e = 0) (hv : valid t) (hvF : valid F) (hl : F.length = t.length) (hw : ∀ k, wd F k = wd t k) (hi : ∀ k i, k < t.length → i < wd t k → insB ((allv F k).getD i []) ((allv t k).getD i []))
  | no (hE : E ≠ 0) (hA : A = []) (he : e = 40) (hx : True)
def c12 : CF := ⟨114,
 (.seq (.ops [
 ⟨some 2,.box false 24 1 (.t 0),none⟩,
 ⟨some 3,.box false 33 11 (.t 1),none⟩,
 ⟨some 4,.mv (.c (.bool false)),none⟩] [2,3])
 (.seq (.ops [
 ⟨some 14,.call (.f 16) [],none⟩,
 ⟨some 5,.mv (.t 14),none⟩] [2,3,5])
 (.seq (.seq (.ops [
 ⟨some 15,.load (some 1) (.t 2),none⟩,
 ⟨some 16,.call (.f 17) [(.t 15)],none⟩,
 ⟨some 17,.un .not (.t 16),none⟩,
 ⟨some 18,.mv (.t 17),none⟩,
 ⟨some 19,.load (some 11) (.t 3),some (18,false)⟩,
 ⟨some 20,.call (.f 18) [(.t 19)],some (18,false)⟩,
 ⟨some 21,.un .not (.t 20),some (18,false)⟩,
 ⟨some 22,.pick (.t 18) (.c (.bool true)) (.t 21),none⟩] [2,3,5,22])
 (.cond (.t 22) (.seq (.ops [
 ⟨some 23,.mv (.t 5),none⟩,
 ⟨some 4,.mv (.t 23),none⟩] [4])
 .ret)
 .skip))
 (.seq (.ops [
 ⟨some 25,.load (some 1) (.t 2),none⟩,
 ⟨some 26,.call (.f 55) [(.t 25)],none⟩,
 ⟨some 24,.mv (.t 26),none⟩,
 ⟨some 27,.ext 0 (.t 24),none⟩,
 ⟨some 28,.ext 1 (.t 24),none⟩,
 ⟨some 6,.alloc 24 1 [.slice none 0 0],none⟩,
 ⟨none,.store 1 (.t 6) (.t 27),none⟩,
 ⟨some 7,.mv (.t 28),none⟩] [2,3,5,6,7])
 (.seq (.seq (.ops [
 ⟨some 29,.mv (.t 7),none⟩,
 ⟨some 30,.bin .neq (.t 29) (.c (.int .i64 0)),none⟩] [2,3,5,6,7,30])
 (.cond (.t 30) (.seq (.ops [
 ⟨some 31,.mv (.t 5),none⟩,
 ⟨some 32,.mv (.t 31),none⟩,
 ⟨some 33,.mv (.t 7),some (32,true)⟩,
 ⟨some 34,.bin .neq (.t 33) (.c (.int .i64 42)),some (32,true)⟩,
 ⟨some 35,.mv (.t 34),some (32,true)⟩,
 ⟨some 36,.load (some 1) (.t 2),some (35,false)⟩,
 ⟨some 37,.faddr 5 (.t 3),some (35,false)⟩,
 ⟨some 38,.load none (.t 37),some (35,false)⟩,
 ⟨some 39,.call (.f 49) [(.t 36),(.t 38)],some (35,false)⟩,
 ⟨some 40,.un .not (.t 39),some (35,false)⟩,
 ⟨some 41,.pick (.t 35) (.c (.bool true)) (.t 40),some (32,true)⟩,
 ⟨some 42,.pick (.t 32) (.t 41) (.c (.bool false)),none⟩,
 ⟨some 4,.mv (.t 42),none⟩] [4])
 .ret)
 .skip))
 (.seq (.ops [
 ⟨some 44,.load (some 1) (.t 6),none⟩,
 ⟨some 45,.call (.f 55) [(.t 44)],none⟩,
 ⟨some 43,.mv (.t 45),none⟩,
 ⟨some 46,.ext 0 (.t 43),none⟩,
 ⟨some 47,.ext 1 (.t 43),none⟩,
 ⟨some 8,.alloc 24 1 [.slice none 0 0],none⟩,
 ⟨none,.store 1 (.t 8) (.t 46),none⟩,
 ⟨some 9,.mv (.t 47),none⟩] [2,3,5,6,8,9])
 (.seq (.seq (.draw [
 ⟨some 48,.mv (.t 9),none⟩,
 ⟨some 49,.bin .neq (.t 48) (.c (.int .i64 0)),none⟩,
 ⟨some 50,.mv (.t 49),none⟩,
 ⟨some 51,.load (some 1) (.t 6),some (50,false)⟩,
 ⟨some 52,.load (some 1) (.t 8),some (50,false)⟩,
 ⟨some 53,.call (.f 56) [(.t 51),(.t 52)],some (50,false)⟩,
 ⟨some 54,.un .not (.t 53),some (50,false)⟩,
 ⟨some 55,.pick (.t 50) (.c (.bool true)) (.t 54),none⟩,
 ⟨some 56,.mv (.t 55),none⟩,
 ⟨some 57,.load (some 1) (.t 6),some (56,false)⟩,
 ⟨some 58,.faddr 5 (.t 3),some (56,false)⟩,
 ⟨some 59,.load none (.t 58),some (56,false)⟩,
 ⟨some 60,.call (.f 49) [(.t 57),(.t 59)],some (56,false)⟩,
 ⟨some 61,.load (some 1) (.t 2),some (56,false)⟩,
 ⟨some 62,.faddr 5 (.t 3),some (56,false)⟩,
 ⟨some 63,.load none (.t 62),some (56,false)⟩,
 ⟨some 64,.call (.f 49) [(.t 61),(.t 63)],some (56,false)⟩,
 ⟨some 65,.eqb true (.t 60) (.t 64),some (56,false)⟩,
 ⟨some 66,.pick (.t 56) (.c (.bool true)) (.t 65),none⟩] [
 ] [5,6,66])
 (.cond (.t 66) (.seq (.ops [
 ⟨some 4,.mv (.c (.bool false)),none⟩] [4])
 .ret)
 .skip))
 (.seq (.ops [
 ⟨some 68,.load (some 1) (.t 6),none⟩,
 ⟨some 69,.call (.f 34) [(.t 68)],none⟩,
 ⟨some 67,.mv (.t 69),none⟩,
 ⟨some 70,.ext 0 (.t 67),none⟩,
 ⟨some 71,.ext 1 (.t 67),none⟩,
 ⟨some 10,.mv (.t 70),none⟩,
 ⟨some 11,.mv (.t 71),none⟩] [5,6,10,11])
 (.seq (.seq (.ops [
 ⟨some 72,.mv (.t 11),none⟩,
 ⟨some 73,.bin .neq (.t 72) (.c (.int .i64 0)),none⟩,
 ⟨some 74,.mv (.t 73),none⟩,
 ⟨some 75,.load (some 1) (.t 6),some (74,false)⟩,
 ⟨some 76,.mv (.t 10),some (74,false)⟩,
 ⟨some 77,.call (.f 44) [(.t 75),(.t 76)],some (74,false)⟩,
 ⟨some 78,.un .not (.t 77),some (74,false)⟩,
 ⟨some 79,.pick (.t 74) (.c (.bool true)) (.t 78),none⟩] [5,6,10,79])
 (.cond (.t 79) (.seq (.ops [
 ⟨some 4,.mv (.c (.bool false)),none⟩] [4])
 .ret)
 .skip))
 (.seq (.seq (.ops [
 ⟨some 12,.mv (.c (.int .i64 0)),none⟩] [5,6,10,12])
 (.block 0 (.loop (.seq (.seq (.ops [
 ⟨some 80,.mv (.t 12),none⟩,
 ⟨some 81,.mv (.t 10),none⟩,
 ⟨some 82,.len (.t 81),none⟩,
 ⟨some 83,.bin .lss (.t 80) (.t 82),none⟩] [5,6,10,12,83])
 (.cond (.t 83) .skip
 (.exit 0)))
 (.seq (.block 1 (.seq (.ops [
 ⟨some 13,.mv (.c (.int .i64 0)),none⟩] [5,6,10,12,13])
 (.block 2 (.loop (.seq (.seq (.ops [
 ⟨some 86,.mv (.t 13),none⟩,
 ⟨some 87,.mv (.t 10),none⟩,
 ⟨some 88,.mv (.t 12),none⟩,
 ⟨some 89,.iaddr 1 (.t 87) (.t 88),none⟩,
 ⟨some 90,.load none (.t 89),none⟩,
 ⟨some 91,.len (.t 90),none⟩,
 ⟨some 92,.bin .lss (.t 86) (.t 91),none⟩] [5,6,10,12,13,92])
 (.cond (.t 92) .skip
 (.exit 2)))
 (.seq (.block 3 (.seq (.draw [
 ⟨some 95,.mv (.t 10),none⟩,
 ⟨some 96,.mv (.t 12),none⟩,
 ⟨some 97,.iaddr 1 (.t 95) (.t 96),none⟩,
 ⟨some 98,.load none (.t 97),none⟩,
 ⟨some 99,.mv (.t 13),none⟩,
 ⟨some 100,.iaddr 1 (.t 98) (.t 99),none⟩,
 ⟨some 101,.load none (.t 100),none⟩,
 ⟨some 102,.faddr 0 (.t 6),none⟩,
 ⟨some 103,.load none (.t 102),none⟩,
 ⟨some 104,.mv (.t 12),none⟩,
 ⟨some 105,.iaddr 1 (.t 103) (.t 104),none⟩,
 ⟨some 106,.load none (.t 105),none⟩,
 ⟨some 107,.mv (.t 13),none⟩,
 ⟨some 108,.iaddr 2 (.t 106) (.t 107),none⟩,
 ⟨some 109,.faddr 0 (.t 108),none⟩,
 ⟨some 110,.load none (.t 109),none⟩,
 ⟨some 111,.call (.f 28) [(.t 101),(.t 110)],none⟩,
 ⟨some 112,.un .not (.t 111),none⟩] [
 ] [5,6,10,12,13,112])
 (.cond (.t 112) (.seq (.ops [
 ⟨some 4,.mv (.c (.bool false)),none⟩] [4])
 .ret)
 .skip)))
 (.ops [
 ⟨some 93,.mv (.t 13),none⟩,
 ⟨some 94,.bin .add (.t 93) (.c (.int .i64 1)),none⟩,
 ⟨some 13,.mv (.t 94),none⟩] [5,6,10,12,13])))))))
 (.ops [
 ⟨some 84,.mv (.t 12),none⟩,
 ⟨some 85,.bin .add (.t 84) (.c (.int .i64 1)),none⟩,
 ⟨some 12,.mv (.t 85),none⟩] [5,6,10,12]))))))
 (.seq (.ops [
 ⟨some 113,.mv (.t 5),none⟩,
 ⟨some 4,.mv (.t 113),none⟩] [4])
 .ret))))))))))),
 [.t 4]⟩
theorem k12 : chkF Tryz.prog Tryz.f12 c12 = true := by kernel_rfl
theorem nar_E {t : Trk} (h : narE t = 0) : valid t ∧ feas t = true ∧ big (narT t) = false := by
  unfold narE at h
  by_cases h0 : askE t true = 0
  · rw [if_pos h0] at h
    obtain ⟨hv, _, hf⟩ := askE0.1 h0
    refine ⟨hv, hf, ?_⟩
    cases hb : big (narT t) with
    | false => rfl
    | true => rw [hb] at h; simp at h
  · rw [if_neg h0] at h; exact absurd h h0
theorem nar_N {t : Trk} (h : narE t = 42) : ¬ (valid t ∧ ∃ c, course t c) := by
  rintro ⟨hv, hc⟩
  have hf := (feas_course hv).2 hc
  have h0 : askE t true = 0 := askE0.2 ⟨hv, rfl, hf⟩
  unfold narE at h
  rw [if_pos h0] at h
  split at h <;> simp at h
theorem NarrowLaw_spec (t : Trk) (x : Ask) (hs : trkSz t) (hx : Ask.sz x) : Pure Tryz.prog 12 [trS t, .agg x.cs] (bl true) := by
  refine Pure.of_body Tryz.call12 Tryz.func12 k12 (Nat.le_of_ble_eq_true rfl) ?_
  unfold c12
  have hw := awake_spec
  have hf := few_spec t hs
  have hl := light_spec x hx
  have h1 := Narrow_spec t hs
  have i1 := is_spec t x.one hs hx.1
  have hE := @nar_E t
  have hN := @nar_N t
  have hx1 := hx.1
  generalize fewB t = B1 at *
  generalize tr (Light x) = B2 at *
  obtain ⟨x1, x2, x3, ⟨x4, x5⟩, one, two, lims, ⟨x9, x10⟩, sets⟩ := x
  simp only at *
  cases B1 with
  | false =>
    (repeat' ((first
 | refine vn rfl ?_
 | simp (disch := omega) only [wr64, Int.zero_sub]
 | refine AWPC.both (fun _ => ?_) (fun _ => ?_)
 | refine AWPC.imp (fun _ => ?_)
 | ((repeat refine si ?_); (first | ((first | refine .inl ⟨_, _, _, _, rfl, fun _ => pu (by first | exact hw | exact hf), ?_⟩ | refine ⟨_, _, _, _, rfl, fun _ => pu (by first | exact hw | exact hf), ?_⟩); (first | refine owp_of_exs ?_ | refine pre_of_exd ?_ | refine pre_of_exe ?_ | refine pre_of_exv ?_)) | refine .inl ⟨_, _, _, _, rfl, pu (by first | exact hw | exact hf), ?_⟩))
 | refine cF ?_
 | refine om ?_
 | refine an ?_
 | fail) <;> try simp only [zT, zV, zS, zU, vcC, kscp, lateX, ex, strp, cnd, binA, kseq, kblk, kret, klp, Abs.one, elems, cells, scalar, eqC, keyA, intsA, lookA, ofVs, mpOf, Nat.reduceBEq, reduceAdd, reduceSub, reduceLT, reduceLeDiff, reduceMul, reduceEqDiff, reduceIte]))
    all_goals exact Frz.eq rfl (by simp)
  | true =>
  cases B2 with
  | false =>
    (repeat' ((first
 | refine vn rfl ?_
 | simp (disch := omega) only [wr64, Int.zero_sub]
 | refine AWPC.both (fun _ => ?_) (fun _ => ?_)
 | refine AWPC.imp (fun _ => ?_)
 | ((repeat refine si ?_); (first | ((first | refine .inl ⟨_, _, _, _, rfl, fun _ => pu (by first | exact hw | exact hf | exact hl), ?_⟩ | refine ⟨_, _, _, _, rfl, fun _ => pu (by first | exact hw | exact hf | exact hl), ?_⟩); (first | refine owp_of_exs ?_ | refine pre_of_exd ?_ | refine pre_of_exe ?_ | refine pre_of_exv ?_)) | refine .inl ⟨_, _, _, _, rfl, pu (by first | exact hw | exact hf | exact hl), ?_⟩))
 | refine cF ?_
 | refine om ?_
 | refine an ?_
 | fail) <;> try simp only [zT, zV, zS, zU, vcC, kscp, lateX, ex, strp, cnd, binA, kseq, kblk, kret, klp, Abs.one, elems, cells, scalar, eqC, keyA, intsA, lookA, ofVs, mpOf, Nat.reduceBEq, reduceAdd, reduceSub, reduceLT, reduceLeDiff, reduceMul, reduceEqDiff, reduceIte]))
    all_goals exact Frz.eq rfl (by simp)
  | true =>
  by_cases he : narE t = 0
  · obtain ⟨hv, hfe, hb⟩ := hE he
    have hr : narR t = narT t := by unfold narR; rw [if_pos he]
    rw [hr, he] at h1
    have hvN := nar_valid hv hb
    have hsN : trkSz (narT t) := copyT_sz (fun k i => by have := allv_lenB hv k i; omega) hs
    have hfN : feas (narT t) = true := by
      obtain ⟨c, hc⟩ := (feas_course hv).1 hfe
      exact (feas_course hvN).2 ⟨c, (nar_course hv).2 hc⟩
    have h2 := Narrow_spec (narT t) hsN
    have hid := nar_idem hv hb
    have heN : narE (narT t) = 0 := by
      unfold narE
      rw [if_pos (askE0.2 ⟨hvN, rfl, hfN⟩), hid, hb]; rfl
    have hrN : narR (narT t) = narT t := by unfold narR; rw [if_pos heN]; exact hid
    rw [hrN, heN] at h2
    have i2 := is_spec (narT t) one hsN hx1
    have hicc : tr (valid (narT t) ∧ course (narT t) one) = tr (valid t ∧ course t one) := by
      rw [decide_eq_decide]
      exact ⟨fun h => ⟨hv, (nar_course hv).1 h.2⟩, fun h => ⟨hvN, (nar_course hv).2 h.2⟩⟩
    rw [hicc] at i2
    have sT := SameTrack_refl (narT t) hsN
    have hA := All_spec (narT t) hsN
    rw [tr_1 hvN] at hA
    simp only [if_true] at hA
    have hlen : (narT t).length = t.length := copyF_len _ _ _ _
    have s1 := shaped_spec (narT t) (allvs (narT t)) hsN (allvs_sz hvN)
    rw [tr_1 (show shaped (narT t) (allvs (narT t)) from ⟨allvs_len _, fun k hk => by rw [show (allvs (narT t)).getD k [] = allv (narT t) k by simp [allvs, List.getD_eq_getElem?_getD, hk], allv_len hk]⟩)] at s1
    have hwd : ∀ k, wd (narT t) k = wd t k := fun k => copyT_wd k
    have hall : ∀ k i, k < t.length → i < wd t k → (als (narT t) k).getD i [] = (allv (narT t) k).getD i [] := fun k i hk hi => by rw [copyT_als hi, nar_allv hv hb hk]
    have h1l := hs.1
    generalize tr (valid t ∧ course t one) = B at *
    have bnB : (true != true) = false ∧ (false != false) = false := by decide
    generalize hNN : narT t = N at *
    have fin : ∀ (B : Bool), B = B := fun _ => rfl
    cases B <;> (
      (repeat' ((first
 | refine vn rfl ?_
 | simp (disch := omega) only [wr64, Int.zero_sub]
 | refine AWPC.both (fun _ => ?_) (fun _ => ?_)
 | refine AWPC.imp (fun _ => ?_)
 | ((repeat refine si ?_); (first | ((first | refine .inl ⟨_, _, _, _, rfl, fun _ => pu (by first | exact hw | exact hf | exact hl | exact h1 | exact h2 | exact i1 | exact i2 | exact sT | exact hA | exact s1), ?_⟩ | refine ⟨_, _, _, _, rfl, fun _ => pu (by first | exact hw | exact hf | exact hl | exact h1 | exact h2 | exact i1 | exact i2 | exact sT | exact hA | exact s1), ?_⟩); (first | refine owp_of_exs ?_ | refine pre_of_exd ?_ | refine pre_of_exe ?_ | refine pre_of_exv ?_)) | refine .inl ⟨_, _, _, _, rfl, pu (by first | exact hw | exact hf | exact hl | exact h1 | exact h2 | exact i1 | exact i2 | exact sT | exact hA | exact s1), ?_⟩))
 | refine cF ?_
 | refine om ?_
 | refine an ?_
 | fail) <;> try simp only [zT, zV, zS, zU, vcC, kscp, lateX, ex, strp, cnd, binA, kseq, kblk, kret, klp, Abs.one, elems, cells, scalar, eqC, keyA, intsA, lookA, ofVs, mpOf, Nat.reduceBEq, reduceAdd, reduceSub, reduceLT, reduceLeDiff, reduceMul, reduceEqDiff, reduceIte, bnB]))
      all_goals try (exfalso; omega))
    all_goals refine AWPC.loopE (α := { y : Nat // y ≤ N.length }) [12, 13] (fun y => [(12, n y.1)]) (fun y => [some [⟨24, 1, [[tkS N]], none⟩], some [⟨24, 1, [[tkS N]], none⟩]]) (fun y => N.length - y.1) ⟨0, Nat.zero_le _⟩ ?_ rfl ?_
    all_goals first | ((simp only [zT, zV, zS, zU, vcC, kscp, lateX, ex, strp, cnd, binA, kseq, kblk, kret, klp, Abs.one, elems, cells, scalar, eqC, keyA, intsA, lookA, ofVs, mpOf, Nat.reduceBEq, reduceAdd, reduceSub, reduceLT, reduceLeDiff, reduceMul, reduceEqDiff, reduceIte]; try simp); done) | skip
    all_goals
      rintro ⟨k, hk⟩
      try simp only at hk
      by_cases hlt : k < N.length
      · have g1 := allvs_get (t := N) hlt
        have w1 := allv_len (t := N) hlt
        have hwl := wd_le hvN k
        have gt1 : (N.map fun l => [stS l]).getD k [] = [stS (N.getD k [])] := getD_map (getD_some hlt)
        (repeat' ((first
 | refine vn rfl ?_
 | simp (disch := omega) only [wr64, Int.zero_sub]
 | refine AWPC.both (fun _ => ?_) (fun _ => ?_)
 | refine AWPC.imp (fun _ => ?_)
 | refine cF ?_
 | refine om ?_
 | refine an ?_
 | fail) <;> try simp only [zT, zV, zS, zU, vcC, kscp, lateX, ex, strp, cnd, binA, kseq, kblk, kret, klp, Abs.one, elems, cells, scalar, eqC, keyA, intsA, lookA, ofVs, mpOf, Nat.reduceBEq, reduceAdd, reduceSub, reduceLT, reduceLeDiff, reduceMul, reduceEqDiff, reduceIte, g1, allvs_len, w1]))
        all_goals try (exfalso; omega)
        refine AWPC.loopE (α := { y : Nat // y ≤ wd N k }) [13] (fun y => [(13, n y.1)]) (fun y => [some [⟨24, 1, [[tkS N]], none⟩], some [⟨24, 1, [[tkS N]], none⟩]]) (fun y => wd N k - y.1) ⟨0, Nat.zero_le _⟩ ?_ rfl ?_
        · (simp only [zT, zV, zS, zU, vcC, kscp, lateX, ex, strp, cnd, binA, kseq, kblk, kret, klp, Abs.one, elems, cells, scalar, eqC, keyA, intsA, lookA, ofVs, mpOf, Nat.reduceBEq, reduceAdd, reduceSub, reduceLT, reduceLeDiff, reduceMul, reduceEqDiff, reduceIte]; try simp)
        rintro ⟨i, hi⟩
        try simp only at hi
        by_cases hlt2 : i < wd N k
        · obtain ⟨x, hx0⟩ : ∃ x, (N.getD k [])[i]? = some x := ⟨_, List.getElem?_eq_getElem hlt2⟩
          have r1 : ((allv N k).map fun l => [spS l]).getD i [] = [spS ((allv N k).getD i [])] := getD_map (getD_some (by omega))
          have hax : (als N k).getD i [] = x.al := getD_map' hx0
          have hxe := hall k i (by omega) (by rw [← hwd]; exact hlt2)
          rw [hax] at hxe
          have q1 := good_len (goods_get (allv_goods hvN hlt) i)
          have lenN : (N.getD k []).length = wd N k := rfl
          have hss := SameSpans_spec ((allv N k).getD i []) x.al (by omega) (by rw [hxe]; omega)
          rw [decide_eq_true hxe.symm] at hss
          (repeat' ((first
 | refine vn rfl ?_
 | simp (disch := omega) only [wr64, Int.zero_sub]
 | refine AWPC.both (fun _ => ?_) (fun _ => ?_)
 | refine AWPC.imp (fun _ => ?_)
 | ((repeat refine si ?_); (first | ((first | refine .inl ⟨_, _, _, _, rfl, fun _ => pu hss, ?_⟩ | refine ⟨_, _, _, _, rfl, fun _ => pu hss, ?_⟩); (first | refine owp_of_exs ?_ | refine pre_of_exd ?_ | refine pre_of_exe ?_ | refine pre_of_exv ?_)) | refine .inl ⟨_, _, _, _, rfl, pu hss, ?_⟩))
 | refine cF ?_
 | refine om ?_
 | refine an ?_
 | fail) <;> try simp only [zT, zV, zS, zU, vcC, kscp, lateX, ex, strp, cnd, binA, kseq, kblk, kret, klp, Abs.one, elems, cells, scalar, eqC, keyA, intsA, lookA, ofVs, mpOf, Nat.reduceBEq, reduceAdd, reduceSub, reduceLT, reduceLeDiff, reduceMul, reduceEqDiff, reduceIte, g1, allvs_len, w1, gt1, lenN, r1, getD_map hx0]))
          all_goals try (exfalso; omega)
          all_goals exact ⟨⟨i + 1, hlt2⟩, by simp, by first | omega | (simp only; omega)⟩
        · obtain rfl : i = wd N k := by omega
          (repeat' ((first
 | refine vn rfl ?_
 | simp (disch := omega) only [wr64, Int.zero_sub]
 | refine AWPC.both (fun _ => ?_) (fun _ => ?_)
 | refine AWPC.imp (fun _ => ?_)
 | refine cF ?_
 | refine om ?_
 | refine an ?_
 | fail) <;> try simp only [zT, zV, zS, zU, vcC, kscp, lateX, ex, strp, cnd, binA, kseq, kblk, kret, klp, Abs.one, elems, cells, scalar, eqC, keyA, intsA, lookA, ofVs, mpOf, Nat.reduceBEq, reduceAdd, reduceSub, reduceLT, reduceLeDiff, reduceMul, reduceEqDiff, reduceIte, g1, allvs_len, w1]))
          all_goals try (exfalso; omega)
          all_goals exact ⟨⟨k + 1, hlt⟩, by simp, by first | omega | (simp only; omega)⟩
      · obtain rfl : k = N.length := by omega
        (repeat' ((first
 | refine vn rfl ?_
 | simp (disch := omega) only [wr64, Int.zero_sub]
 | refine AWPC.both (fun _ => ?_) (fun _ => ?_)
 | refine AWPC.imp (fun _ => ?_)
 | refine cF ?_
 | refine om ?_
 | refine an ?_
 | fail) <;> try simp only [zT, zV, zS, zU, vcC, kscp, lateX, ex, strp, cnd, binA, kseq, kblk, kret, klp, Abs.one, elems, cells, scalar, eqC, keyA, intsA, lookA, ofVs, mpOf, Nat.reduceBEq, reduceAdd, reduceSub, reduceLT, reduceLeDiff, reduceMul, reduceEqDiff, reduceIte, allvs_len]))
        all_goals try (exfalso; omega)
        all_goals exact Frz.eq rfl (by simp)
  · by_cases h42 : narE t = 42
    · rw [tr_0 (fun h => hN h42 ⟨h.1, _, h.2⟩)] at i1
      rw [h42] at h1
      (repeat' ((first
 | refine vn rfl ?_
 | simp (disch := omega) only [wr64, Int.zero_sub]
 | refine AWPC.both (fun _ => ?_) (fun _ => ?_)
 | refine AWPC.imp (fun _ => ?_)
 | ((repeat refine si ?_); (first | ((first | refine .inl ⟨_, _, _, _, rfl, fun _ => pu (by first | exact hw | exact hf | exact hl | exact h1 | exact i1), ?_⟩ | refine ⟨_, _, _, _, rfl, fun _ => pu (by first | exact hw | exact hf | exact hl | exact h1 | exact i1), ?_⟩); (first | refine owp_of_exs ?_ | refine pre_of_exd ?_ | refine pre_of_exe ?_ | refine pre_of_exv ?_)) | refine .inl ⟨_, _, _, _, rfl, pu (by first | exact hw | exact hf | exact hl | exact h1 | exact i1), ?_⟩))
 | refine cF ?_
 | refine om ?_
 | refine an ?_
 | fail) <;> try simp only [zT, zV, zS, zU, vcC, kscp, lateX, ex, strp, cnd, binA, kseq, kblk, kret, klp, Abs.one, elems, cells, scalar, eqC, keyA, intsA, lookA, ofVs, mpOf, Nat.reduceBEq, reduceAdd, reduceSub, reduceLT, reduceLeDiff, reduceMul, reduceEqDiff, reduceIte]))
      all_goals try (exfalso; omega)
      all_goals exact Frz.eq rfl (by simp)
    · generalize narE t = e at *
      (repeat' ((first
 | refine vn rfl ?_
 | simp (disch := omega) only [wr64, Int.zero_sub]
 | refine AWPC.both (fun _ => ?_) (fun _ => ?_)
 | refine AWPC.imp (fun _ => ?_)
 | ((repeat refine si ?_); (first | ((first | refine .inl ⟨_, _, _, _, rfl, fun _ => pu (by first | exact hw | exact hf | exact hl | exact h1 | exact i1), ?_⟩ | refine ⟨_, _, _, _, rfl, fun _ => pu (by first | exact hw | exact hf | exact hl | exact h1 | exact i1), ?_⟩); (first | refine owp_of_exs ?_ | refine pre_of_exd ?_ | refine pre_of_exe ?_ | refine pre_of_exv ?_)) | refine .inl ⟨_, _, _, _, rfl, pu (by first | exact hw | exact hf | exact hl | exact h1 | exact i1), ?_⟩))
 | refine cF ?_
 | refine om ?_
 | refine an ?_
 | fail) <;> try simp only [zT, zV, zS, zU, vcC, kscp, lateX, ex, strp, cnd, binA, kseq, kblk, kret, klp, Abs.one, elems, cells, scalar, eqC, keyA, intsA, lookA, ofVs, mpOf, Nat.reduceBEq, reduceAdd, reduceSub, reduceLT, reduceLeDiff, reduceMul, reduceEqDiff, reduceIte, h42]))
      all_goals try (exfalso; omega)
      all_goals exact Frz.eq rfl (by simp)
end Go.Proofs.YtahkhnagpdlkiaaGreat
