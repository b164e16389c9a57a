/- Part 11 of the texts that the claim rests on: abstract values over the walk, and contracts of functions. -/
import Derived.Test.YtolgelipcgcbhaaGreatBe10
import Derived.Test.YtolgelipcgcbhaaGreatRows
import Derived.Shelf.Spec.SlicesGrow
import Derived.Shelf.SlGeneric
import Derived.Test.YtolgelipcgcbhaaGreatProg
import Derived.ChangeArms
import Derived.DataReads
import Derived.WalkKit
import Derived.ProofKit
import Derived.OpenShut
import Derived.ShutString
import Derived.ChangeOld
import Derived.Below
namespace Go.Abs
set_option linter.unusedVariables false
set_option linter.unusedSimpArgs false
def OneN (l:List Nt):Prop:=∀ a∈l,∀ b∈l,a.nm=b.nm→a=b
theorem cmpN_as {a b:Nm} (h:cmpN a b < 0):¬ cmpN b a < 0:=by
  have h1:=@cmpN_lt a b
  have h2:=@cmpN_lt b a
  omega
theorem compN1_spec:∀ (r:List Nt) (a:Nt),(a::r).Pairwise (fun x y=>0≤cmpN y.nm x.nm)→OneN (a::r) →
    (compN1 a r).Pairwise (fun x y=>cmpN x.nm y.nm < 0)∧(∀ x,x∈compN1 a r↔x∈a::r)
  | [],a,_,_=>⟨by simp [compN1],fun x=>Iff.rfl⟩
  | b::r,a,hp,ho=>by
    rw [List.pairwise_cons] at hp
    unfold compN1
    by_cases e:a.nm=b.nm
    · rw [if_pos e]
      have hab:a=b:=ho a (by simp) b (by simp) e
      subst hab
      obtain ⟨h1,h2⟩:=compN1_spec r a hp.2 (fun x hx y hy=>ho x (List.mem_cons_of_mem _ hx) y (List.mem_cons_of_mem _ hy))
      exact ⟨h1,fun x=>by rw [h2]; simp⟩
    · rw [if_neg e]
      obtain ⟨h1,h2⟩:=compN1_spec r b hp.2 (fun x hx y hy=>ho x (List.mem_cons_of_mem _ hx) y (List.mem_cons_of_mem _ hy))
      refine ⟨List.pairwise_cons.2 ⟨fun y hy=>?_,h1⟩,fun x=>by rw [List.mem_cons,h2]; simp⟩
      have hy':=(h2 y).1 hy
      have g1:0≤cmpN b.nm a.nm:=hp.1 b (by simp)
      have g2:cmpN a.nm b.nm < 0:=by
        have h3:=@cmpN_gt a.nm b.nm
        have h4:=@cmpN_eq a.nm b.nm
        have:¬ cmpN a.nm b.nm=0:=fun h=>e (h4.1 h)
        omega
      rcases List.mem_cons.1 hy' with rfl | hy'
      · exact g2
      · have g3:0≤cmpN y.nm b.nm:=(List.pairwise_cons.1 hp.2).1 y hy'
        rw [cmpN_lt] at g2 ⊢
        have:=@cmpN_lt y.nm b.nm
        omega
abbrev uni (l:List Nt):List Nt:=compN (srtN l)
theorem uni_spec {l:List Nt} (ho:OneN l):(uni l).Pairwise (fun x y=>cmpN x.nm y.nm < 0)∧∀ x,x∈uni l↔x∈l:=by
  have hp:=srtN_le l
  have hm:∀ x,x∈srtN l↔x∈l:=fun x=>(srtN_perm l).mem_iff
  have ho':OneN (srtN l):=fun a ha b hb=>ho a ((hm a).1 ha) b ((hm b).1 hb)
  unfold uni
  generalize srtN l=s at hp hm ho'
  cases s with
  | nil=>exact ⟨by simp [compN],hm⟩
  | cons a r =>
    obtain ⟨h1,h2⟩:=compN1_spec r a hp ho'
    exact ⟨h1,fun x=>(h2 x).trans (hm x)⟩
theorem uni_ext {l m:List Nt} (hl:l.Pairwise (fun x y=>cmpN x.nm y.nm < 0)) (hm:m.Pairwise (fun x y=>cmpN x.nm y.nm < 0)) (h:∀ x,x∈l↔x∈m):l=m :=
  sorted_ext (lt:=fun x y=>cmpN x.nm y.nm < 0) (fun a b=>cmpN_as) hl hm h
theorem set_srt {b:Bse} {l:List Nt} (h:(setE b l).1=0):l.Pairwise (fun x y=>cmpN x.nm y.nm < 0):=by
  have:=(setE_ok h).2.2.2
  rwa [List.pairwise_map] at this
theorem fork_none {x y:List Nt} (hx:(x.map Nt.nm).Nodup) (hy:(y.map Nt.nm).Nodup):forkT x y=none↔OneN (x++y):=by
  refine ⟨fun h=>nofork hx hy h,fun h=>?_⟩
  unfold forkT
  rw [Option.map_eq_none_iff,List.find?_eq_none]
  intro a ha
  rw [byName_get hy]
  cases hf:fq y (fun _=>true) a.nm with
  | none=>simp
  | some m =>
    obtain ⟨h1,h2,_⟩:=(fq_some hy).1 hf
    have:=h m (by simp [h1]) a (by simp [ha]) h2
    simp [this]
theorem merge_ok {b:Bse} {x y:List Nt} (h:(mergeE b x y).2=0):(setE b x).1=0∧(setE b y).1=0∧OneN (x++y)∧(mergeE b x y).1=uni (x++y)∧(uni (x++y)).length≤400:=by
  unfold mergeE at h ⊢
  by_cases ha:askedE b [x,y]≠0
  · rw [if_pos ha] at h; exact absurd h ha
  rw [if_neg ha] at h ⊢
  have ha0:askedE b [x,y]=0:=by omega
  have okx:=(askedE_ok ha0).2 x (by simp)
  have oky:=(askedE_ok ha0).2 y (by simp)
  by_cases hs:(forkT x y).isSome=true
  · rw [if_pos hs] at h; simp at h
  rw [if_neg hs] at h ⊢
  by_cases h4:400 < (compN (srtN (x++y))).length
  · rw [if_pos h4] at h; simp at h
  rw [if_neg h4]
  exact ⟨okx,oky,(fork_none (setE_nodup okx) (setE_nodup oky)).1 (by simpa using hs),rfl,Nat.le_of_not_lt h4⟩
theorem cmpN_tri (a b:Nm):cmpN a b < 0∨a=b∨cmpN b a < 0:=by
  have h1:=@cmpN_lt a b
  have h2:=@cmpN_lt b a
  by_cases e:a=b
  · exact .inr (.inl e)
  · have:¬ (a.clerk=b.clerk∧a.num=b.num):=fun h=>e (by cases a; cases b; simp_all)
    omega
theorem cmpN_trans {a b c:Nm} (h1:cmpN a b < 0) (h2:cmpN b c < 0):cmpN a c < 0:=by
  rw [cmpN_lt] at *
  omega
theorem cmpN_irr {a:Nm}:¬ cmpN a a < 0:=fun h=>cmpN_as h h
abbrev srtd (l:List Nt):Prop:=l.Pairwise (fun x y=>cmpN x.nm y.nm < 0)
theorem srtd_drop {l:List Nt} (h:srtd l) {i:Nat} {a:Nt} (ha:l[i]?=some a):∀ b∈l.drop (i+1),cmpN a.nm b.nm < 0:=by
  have:l=l.take i++a::l.drop (i+1):=by
    obtain ⟨hi,rfl⟩:=List.getElem?_eq_some_iff.1 ha
    rw [List.getElem_cons_drop,List.take_append_drop]
  unfold srtd at h
  rw [this,List.pairwise_append] at h
  exact (List.pairwise_cons.1 h.2.1).1
theorem mem_drop {l:List Nt} {i:Nat} {a:Nt} (ha:l[i]?=some a) (b:Nt):b∈l.drop i↔b=a∨b∈l.drop (i+1):=by
  obtain ⟨hi,rfl⟩:=List.getElem?_eq_some_iff.1 ha
  rw [← List.getElem_cons_drop (h:=hi),List.mem_cons]
theorem mem_take {l:List Nt} {i:Nat} {a:Nt} (ha:l[i]?=some a) (b:Nt):b∈l.take (i+1)↔b∈l.take i∨b=a:=by
  rw [List.take_add_one,ha]; simp
structure UniS (x y:List Nt) (i k:Nat) (o:List Nt) (f:Nm):Prop where
  ix:i≤x.length
  ky:k≤y.length
  len:o.length≤i+k
  srt:srtd o
  ahd:∀ a∈o,(∀ b∈x.drop i,cmpN a.nm b.nm < 0)∧∀ b∈y.drop k,cmpN a.nm b.nm < 0
  inl:∀ a∈o,a∈x∨a∈y
  hx:∀ a∈x.take i,a∈o
  hy:∀ b∈y.take k,b∈o∨∃ a∈x,a∈o∧a.nm=b.nm
  fk:f=(forkT (x.take i) y).getD nm0
theorem UniS.init (x y:List Nt):UniS x y 0 0 [] nm0 :=
  ⟨Nat.zero_le _,Nat.zero_le _,Nat.le_refl _,.nil,(fun a h=>by cases h),(fun a h=>by cases h),(fun a h=>by simp at h),(fun a h=>by simp at h),by simp [forkT]⟩
theorem fork_step {x y:List Nt} {i:Nat} {a:Nt} (ha:x[i]?=some a):forkT (x.take (i+1)) y=(forkT (x.take i) y).or (match kget (byName y) a.nm with
    | some m=>if m=a then none else some a.nm
    | none=>none):=by
  unfold forkT
  rw [List.take_add_one,ha,Option.toList_some,List.find?_append,Option.map_or]
  congr 1
  simp only [List.find?_cons,List.find?_nil]
  cases kget (byName y) a.nm with
  | none=>rfl
  | some m=>by_cases e:m=a <;> simp [e]
section
variable {x y:List Nt} {i k:Nat} {o:List Nt} {f:Nm} (U:UniS x y i k o f)
include U
theorem UniS.push {a:Nt} (h:∀ b∈o,cmpN b.nm a.nm < 0):srtd (o++[a]):=by
  unfold srtd
  rw [List.pairwise_append]
  exact ⟨U.srt,List.pairwise_singleton _ _,fun b hb c hc=>by simp at hc; subst hc; exact h b hb⟩
theorem UniS.snd {b:Nt} (sx:srtd x) (sy:srtd y) (hb:y[k]?=some b) (hlt:∀ a∈x.drop i,cmpN b.nm a.nm < 0):UniS x y i (k+1) (o++[b]) f:=by
  have hbd:b∈y.drop k:=(mem_drop hb b).2 (.inl rfl)
  refine ⟨U.ix,(List.getElem?_eq_some_iff.1 hb).1,by rw [List.length_append,List.length_singleton]; have:=U.len; omega,U.push fun c hc=>(U.ahd c hc).2 b hbd,?_,?_,?_,?_,U.fk⟩
  · intro a ha
    rcases List.mem_append.1 ha with ha | ha
    · exact ⟨(U.ahd a ha).1,fun c hc=>(U.ahd a ha).2 c ((mem_drop hb c).2 (.inr hc))⟩
    · simp at ha; subst ha
      exact ⟨hlt,srtd_drop sy hb⟩
  · intro a ha
    rcases List.mem_append.1 ha with ha | ha
    · exact U.inl a ha
    · simp at ha; subst ha; exact .inr (List.mem_of_getElem? hb)
  · intro a ha; exact List.mem_append_left _ (U.hx a ha)
  · intro c hc
    rcases (mem_take hb c).1 hc with hc | rfl
    · rcases U.hy c hc with h | ⟨a,h1,h2,h3⟩
      · exact .inl (List.mem_append_left _ h)
      · exact .inr ⟨a,h1,List.mem_append_left _ h2,h3⟩
    · exact .inl (by simp)
theorem UniS.fst {a:Nt} (sx:srtd x) (sy:srtd y) (hyn:(y.map Nt.nm).Nodup) (ha:x[i]?=some a) (hlt:∀ b∈y.drop k,cmpN a.nm b.nm < 0):UniS x y (i+1) k (o++[a]) f:=by
  have had:a∈x.drop i:=(mem_drop ha a).2 (.inl rfl)
  refine ⟨(List.getElem?_eq_some_iff.1 ha).1,U.ky,by rw [List.length_append,List.length_singleton]; have:=U.len; omega,U.push fun c hc=>(U.ahd c hc).1 a had,?_,?_,?_,?_,?_⟩
  · intro c hc
    rcases List.mem_append.1 hc with hc | hc
    · exact ⟨fun d hd=>(U.ahd c hc).1 d ((mem_drop ha d).2 (.inr hd)),(U.ahd c hc).2⟩
    · simp at hc; subst hc
      exact ⟨srtd_drop sx ha,hlt⟩
  · intro c hc
    rcases List.mem_append.1 hc with hc | hc
    · exact U.inl c hc
    · simp at hc; subst hc; exact .inl (List.mem_of_getElem? ha)
  · intro c hc
    rcases (mem_take ha c).1 hc with hc | rfl
    · exact List.mem_append_left _ (U.hx c hc)
    · simp
  · intro c hc
    rcases U.hy c hc with h | ⟨d,h1,h2,h3⟩
    · exact .inl (List.mem_append_left _ h)
    · exact .inr ⟨d,h1,List.mem_append_left _ h2,h3⟩
  · rw [fork_step ha,U.fk]
    have hno:kget (byName y) a.nm=none:=by
      rw [byName_get hyn,fq_none]
      intro c hc hcm
      exfalso
      rw [← List.take_append_drop k y] at hc
      rcases List.mem_append.1 hc with hc | hc
      · rcases U.hy c hc with h | ⟨d,_,h2,h3⟩
        · have:=(U.ahd c h).1 a had
          rw [hcm] at this; exact cmpN_irr this
        · have:=(U.ahd d h2).1 a had
          rw [h3,hcm] at this; exact cmpN_irr this
      · have:=hlt c hc
        rw [hcm] at this; exact cmpN_irr this
    rw [hno]
    simp
theorem UniS.both {a b:Nt} (sx:srtd x) (sy:srtd y) (hyn:(y.map Nt.nm).Nodup) (ha:x[i]?=some a) (hb:y[k]?=some b) (hab:b.nm=a.nm) (hf0:f=nm0↔forkT (x.take i) y=none) :
    UniS x y (i+1) (k+1) (o++[a]) (if b≠a∧f=nm0 then a.nm else f):=by
  have had:a∈x.drop i:=(mem_drop ha a).2 (.inl rfl)
  refine ⟨(List.getElem?_eq_some_iff.1 ha).1,(List.getElem?_eq_some_iff.1 hb).1,by rw [List.length_append,List.length_singleton]; have:=U.len; omega,U.push fun c hc=>(U.ahd c hc).1 a had,?_,?_,?_,?_,?_⟩
  · intro c hc
    rcases List.mem_append.1 hc with hc | hc
    · exact ⟨fun d hd=>(U.ahd c hc).1 d ((mem_drop ha d).2 (.inr hd)),fun d hd=>(U.ahd c hc).2 d ((mem_drop hb d).2 (.inr hd))⟩
    · simp at hc; subst hc
      exact ⟨srtd_drop sx ha,fun d hd=>hab ▸ srtd_drop sy hb d hd⟩
  · intro c hc
    rcases List.mem_append.1 hc with hc | hc
    · exact U.inl c hc
    · simp at hc; subst hc; exact .inl (List.mem_of_getElem? ha)
  · intro c hc
    rcases (mem_take ha c).1 hc with hc | rfl
    · exact List.mem_append_left _ (U.hx c hc)
    · simp
  · intro c hc
    rcases (mem_take hb c).1 hc with hc | rfl
    · rcases U.hy c hc with h | ⟨d,h1,h2,h3⟩
      · exact .inl (List.mem_append_left _ h)
      · exact .inr ⟨d,h1,List.mem_append_left _ h2,h3⟩
    · exact .inr ⟨a,List.mem_of_getElem? ha,by simp,hab.symm⟩
  · have hg:kget (byName y) a.nm=some b:=by
      rw [byName_get hyn]
      exact (fq_some hyn).2 ⟨List.mem_of_getElem? hb,hab,rfl⟩
    rw [fork_step ha,hg]
    have hf:=U.fk
    cases hF:forkT (x.take i) y with
    | none =>
      have h0:=hf0.2 hF
      by_cases e:b=a
      · rw [if_neg (fun h=>h.1 e)]; simp [e,h0]
      · rw [if_pos ⟨e,h0⟩]; simp [e]
    | some m =>
      have h0:¬ f=nm0:=fun h=>by rw [hf0.1 h] at hF; cases hF
      rw [if_neg (fun h=>h0 h.2),hf,hF]; simp
end
abbrev newT (x y:List Nt):List Nt:=y.filter fun b=>!(x.any fun a=>a.nm == b.nm)
def uniT (x y:List Nt):List Nt:=compN (srtN (x++newT x y))
theorem newT_iff {x y:List Nt} {b:Nt}:b∈newT x y↔b∈y∧∀ a∈x,a.nm≠b.nm:=by
  rw [List.mem_filter]
  simp
theorem newT_one {x y:List Nt} (hx:(x.map Nt.nm).Nodup) (hy:(y.map Nt.nm).Nodup):OneN (x++newT x y):=by
  intro a ha b hb e
  rcases List.mem_append.1 ha with ha | ha <;> rcases List.mem_append.1 hb with hb | hb
  · exact nm_inj hx ha hb e
  · exact absurd e ((newT_iff.1 hb).2 a ha)
  · exact absurd e.symm ((newT_iff.1 ha).2 b hb)
  · exact nm_inj hy (newT_iff.1 ha).1 (newT_iff.1 hb).1 e
theorem UniS.fin {x y o:List Nt} {f:Nm} (U:UniS x y x.length y.length o f) (hx:(x.map Nt.nm).Nodup) (hy:(y.map Nt.nm).Nodup):f=(forkT x y).getD nm0∧o=uniT x y:=by
  refine ⟨by have:=U.fk; rwa [List.take_length] at this,?_⟩
  obtain ⟨p1,p2⟩:=uni_spec (newT_one hx hy)
  refine uni_ext U.srt p1 fun a=>?_
  show a∈o↔a∈uni (x++newT x y)
  rw [p2,List.mem_append,newT_iff]
  have hxo:∀ a∈x,a∈o:=fun a ha=>U.hx a (by rwa [List.take_length])
  have hone:∀ a∈o,∀ b∈o,a.nm=b.nm→a=b:=by
    have:(o.map Nt.nm).Nodup:=by
      rw [List.nodup_iff_pairwise_ne,List.pairwise_map]
      refine U.srt.imp ?_
      intro a b h e
      rw [e] at h
      exact cmpN_irr h
    exact fun a ha b hb e=>nm_inj this ha hb e
  constructor
  · intro ha
    by_cases hax:a∈x
    · exact .inl hax
    · refine .inr ⟨(U.inl a ha).resolve_left hax,fun c hc e=>hax ?_⟩
      exact hone c (hxo c hc) a ha e ▸ hc
  · rintro (ha | ⟨ha,hno⟩)
    · exact hxo a ha
    · rcases U.hy a (by rwa [List.take_length]) with h | ⟨c,h1,h2,h3⟩
      · exact h
      · exact absurd h3 (hno c h1)
theorem uniT_eq {x y:List Nt} (hx:(x.map Nt.nm).Nodup) (hy:(y.map Nt.nm).Nodup) (h:forkT x y=none):uniT x y=compN (srtN (x++y)):=by
  have ho:=(fork_none hx hy).1 h
  obtain ⟨p1,p2⟩:=uni_spec (newT_one hx hy)
  obtain ⟨q1,q2⟩:=uni_spec ho
  refine uni_ext p1 q1 fun a=>?_
  show a∈uni (x++newT x y)↔a∈uni (x++y)
  rw [p2,q2,List.mem_append,List.mem_append,newT_iff]
  constructor
  · rintro (h | ⟨h,_⟩)
    · exact .inl h
    · exact .inr h
  · rintro (h | h)
    · exact .inl h
    · by_cases hc:∃ c∈x,c.nm=a.nm
      · obtain ⟨c,h1,h2⟩:=hc
        exact .inl (ho c (by simp [h1]) a (by simp [h]) h2 ▸ h1)
      · exact .inr ⟨h,fun c h1 h2=>hc ⟨c,h1,h2⟩⟩
theorem fork_name {x y:List Nt} {m:Nm} (h:forkT x y=some m):∃ a∈x,a.nm=m:=by
  unfold forkT at h
  obtain ⟨a,h1,h2⟩:=Option.map_eq_some_iff.1 h
  exact ⟨a,List.mem_of_find?_eq_some h1,h2⟩
theorem fork_zero {b:Bse} {x y:List Nt} (h:(setE b x).1=0) (i:Nat):((forkT (x.take i) y).getD nm0).num=0↔forkT (x.take i) y=none:=by
  cases hF:forkT (x.take i) y with
  | none=>simp [nm0]
  | some m =>
    obtain ⟨a,h1,rfl⟩:=fork_name hF
    have h2:1≤a.num:=((setE_ok h).2.2.1 a (List.mem_of_mem_take h1)).2.1.2.1
    simp only [Option.getD_some,reduceCtorEq,iff_false]
    intro h0
    have h3:a.num=0:=h0
    omega
theorem fork_zero' {b:Bse} {x y:List Nt} (h:(setE b x).1=0) (i:Nat):((forkT (x.take i) y).getD nm0)=nm0↔forkT (x.take i) y=none:=by
  rw [← fork_zero h i]
  constructor
  · intro h; rw [h]; rfl
  · intro h0
    rw [(fork_zero h i).1 h0]; rfl
theorem stand_filter {l:List Nt} (hn:(l.map Nt.nm).Nodup):srtT (l.filter fun a=>a.kind != 7 && !goneT l a.nm)=standT l:=by
  have hs:((l.filter fun a=>a.kind != 7 && !goneT l a.nm).map Nt.nm).Nodup:=hn.sublist (List.filter_sublist.map _)
  refine (srtT_one hs ?_ ?_).symm
  · unfold standT
    have h:=(srtT_perm (l.filter fun a=>a.kind != 7)).filter (fun a=>!goneT l a.nm)
    refine h.trans ?_
    rw [List.filter_filter]
    refine List.Perm.of_eq (List.filter_congr fun a _=>?_)
    rw [Bool.and_comm]
  · unfold standT
    exact (srtT_le _).sublist List.filter_sublist
end Go.Abs
namespace Go.Proofs.YtolgelipcgcbhaaGreat
open Go.Abs
open Nat (reduceAdd reduceSub reduceLT reduceLeDiff reduceMul reduceEqDiff)
set_option linter.unusedVariables false
set_option linter.unusedSimpArgs false
set_option maxHeartbeats 4000000
set_option maxRecDepth 100000
def c82:CF:=⟨20,(jo [jx 2 26 6 0,jc 4 0] [1,2]
 (jo [jk 8 6 2,jm 9 1,jy 10 42 [8,9],jm 7 10,jz 11 0 7,jz 12 1 7,jm 5 11,jm 6 12] [5]
 (.seq (jo [jm 13 5,ju .eql 14 13 0,jm 15 14,jd 15 (jm 16 5),jd 15 (ju .eql 17 16 100),jq 18 15 17] [5,18]
 (.cond (.t 18) (jo [jm 19 5,jm 4 19] [4]
 .ret)
 .skip))
 (jo [jc 4 1] [4]
 .ret)))),[.t 4]⟩
theorem k82:chkF Tryz.prog Tryz.f82 c82=true:=by kernel_rfl
def c137:CF:=⟨17,(jo [jx 3 26 6 0,jc 6 0] [1,2,3]
 (jo [jk 8 6 3,jm 9 1,jy 10 82 [8,9],jm 7 10] [2,3,7]
 (.seq (jo [jm 11 7,ju .eql 12 11 0] [2,3,7,12]
 (.cond (.t 12) (.ops [jk 13 6 3,jm 14 2,jy 15 82 [13,14],jm 7 15] [7])
 .skip))
 (jo [jm 16 7,jm 6 16] [6]
 .ret)))),[.t 6]⟩
theorem k137:chkF Tryz.prog Tryz.f137 c137=true:=by kernel_rfl
def c138:CF:=⟨103,(jo [jn 4,jw 5 (.alloc 29 2 [.int .i64 0,.int .i64 0])] [0,1,5]
 (jo [jn 6] [0,1,5,6]
 (jo [jw 7 (.alloc 29 2 [.int .i64 0,.int .i64 0])] [0,1,5,6,7]
 (jo [jc 8 0] [0,1,5,6,7,8]
 (jo [jc 9 0] [0,1,5,6,7,8,9]
 (.seq (.block 0 (.loop (.seq (jo [jm 10 8,jm 11 0,je 12 11,jt .lss 13 10 12,jm 14 13,jd 14 (jm 15 9),jd 14 (jm 16 1),jd 14 (je 17 16),jd 14 (jt .lss 18 15 17),jq 19 14 18] [0,1,5,6,7,8,9,19]
 (.cond (.t 19) .skip
 (.exit 0)))
 (.block 1 (.seq (.seq (.draw [jm 20 9,jm 21 1,je 22 21,jt .eql 23 20 22,jm 24 23,jd 24 (jm 25 8),jd 24 (jm 26 0),jd 24 (je 27 26),jd 24 (jt .lss 28 25 27),jd 24 (jm 29 28),ja 29 (jm 30 1),ja 29 (jm 31 9),ja 29 (ji 32 38 30 31),ja 29 (jk 33 38 32),ja 29 (jy 34 92 [33]),ja 29 (jm 35 0),ja 29 (jm 36 8),ja 29 (ji 37 38 35 36),ja 29 (jk 38 38 37),ja 29 (jy 39 92 [38]),ja 29 (jy 40 109 [34,39]),ja 29 (jv 41 40),jd 24 (jp 42 29 41),jq 43 24 42] [] [0,1,5,6,7,8,9,43])
 (.cond (.t 43) (.seq (.seq (.draw [jm 44 9,jm 45 1,je 46 45,jt .lss 47 44 46,jm 48 47,ja 48 (jm 49 1),ja 48 (jm 50 9),ja 48 (ji 51 38 49 50),ja 48 (jk 52 38 51),ja 48 (jy 53 92 [52]),ja 48 (jm 54 0),ja 48 (jm 55 8),ja 48 (ji 56 38 54 55),ja 48 (jk 57 38 56),ja 48 (jy 58 92 [57]),⟨some 59,.eqs false [some .i64,some .i64] (.t 53) (.t 58),some (48,true)⟩,jp 60 48 59] [] [0,1,5,6,7,8,9,60])
 (.cond (.t 60) (.seq (.seq (.draw [jm 61 1,jm 62 9,ji 63 38 61 62,jk 64 38 63,jm 65 0,jm 66 8,ji 67 38 65 66,jk 68 38 67,jy 69 50 [64,68],jv 70 69,jm 71 70,ja 71 (jf 72 1 7),ja 71 (jl 73 72),ja 71 (ju .eql 74 73 0),jp 75 71 74] [] [0,1,5,6,7,8,9,75])
 (.cond (.t 75) (.ops [jm 76 0,jm 77 8,ji 78 38 76 77,jk 79 38 78,jy 80 92 [79],js 2 7 80] [0,1,5,6,7,8,9])
 .skip))
 (.ops [jm 81 9,ju .add 82 81 1,jm 9 82] [0,1,5,6,7,8,9]))
 .skip))
 (jo [jm 83 6,jm 84 0,jm 85 8,ji 86 38 84 85,jk 87 38 86,jw 88 (.bsl false 68 38 1 z38 [(0,38,(.t 87))]),jw 89 (.app 68 38 368 (.t 83) (.t 88)),jm 6 89] [0,1,5,6,7,8,9]
 (jo [jm 90 8,ju .add 91 90 1,jm 8 91] [0,1,5,6,7,8,9]
 (.exit 1))))
 .skip))
 (jo [jm 92 6,jm 93 1,jm 94 9,ji 95 38 93 94,jk 96 38 95,jw 97 (.bsl false 68 38 1 z38 [(0,38,(.t 96))]),jw 98 (.app 68 38 368 (.t 92) (.t 97)),jm 6 98] [0,1,5,6,7,8,9]
 (.ops [jm 99 9,ju .add 100 99 1,jm 9 100] [0,1,5,6,7,8,9])))))))
 (.seq (.draw [jm 101 6,jk 102 2 7,jm 4 101] [js 2 5 102] [4,5])
 .ret))))))),[.t 4,.c 5 (some 2)]⟩
theorem k138:chkF Tryz.prog Tryz.f138 c138=true:=by kernel_rfl
def c74:CF:=⟨31,(jo [jx 3 26 6 0,jn 6,jc 7 0] [1,2,3]
 (jo [jk 11 6 3,jm 12 1,jm 13 2,jy 14 137 [11,12,13],jm 8 14] [1,2,8]
 (.seq (jo [jm 15 8,ju .neq 16 15 0] [1,2,8,16]
 (.cond (.t 16) (jo [jm 17 8,jn 6,jm 7 17] [6,7]
 .ret)
 .skip))
 (jo [jm 19 1,jm 20 2,jy 21 138 [19,20],jm 18 21,jz 22 0 18,jz 23 1 18,jw 10 (.alloc 29 2 [.int .i64 0,.int .i64 0]),jm 9 22,js 2 10 23] [9,10]
 (.seq (jo [jf 24 1 10,jl 25 24,ju .gtr 26 25 0] [9,26]
 (.cond (.t 26) (jo [jn 6,jc 7 61] [6,7]
 .ret)
 .skip))
 (.seq (jo [jm 27 9,je 28 27,ju .gtr 29 28 400] [9,29]
 (.cond (.t 29) (jo [jn 6,jc 7 2] [6,7]
 .ret)
 .skip))
 (jo [jm 30 9,jm 6 30,jc 7 0] [6,7]
 .ret))))))),[.t 6,.t 7]⟩
theorem k74:chkF Tryz.prog Tryz.f74 c74=true:=by kernel_rfl
def c75:CF:=⟨30,(jo [jx 3 26 6 0,jw 6 (.alloc 29 2 [.int .i64 0,.int .i64 0]),jc 7 0] [1,2,3,6]
 (jo [jk 11 6 3,jm 12 1,jm 13 2,jy 14 137 [11,12,13],jm 8 14] [1,2,6,8]
 (.seq (jo [jm 15 8,ju .neq 16 15 0] [1,2,6,8,16]
 (.cond (.t 16) (jo [jw 17 (.build [.int .i64 0,.int .i64 0] []),jm 18 8,js 2 6 17,jm 7 18] [6,7]
 .ret)
 .skip))
 (jo [jm 20 1,jm 21 2,jy 22 138 [20,21],jm 19 22,jz 23 0 19,jz 24 1 19,jw 10 (.alloc 29 2 [.int .i64 0,.int .i64 0]),jm 9 23,js 2 10 24] [6,10]
 (.seq (jo [jf 25 1 10,jl 26 25,ju .eql 27 26 0] [6,10,27]
 (.cond (.t 27) (jo [jw 28 (.build [.int .i64 0,.int .i64 0] []),js 2 6 28,jc 7 3] [6,7]
 .ret)
 .skip))
 (jo [jk 29 2 10,js 2 6 29,jc 7 0] [6,7]
 .ret)))))),[.c 6 (some 2),.t 7]⟩
theorem k75:chkF Tryz.prog Tryz.f75 c75=true:=by kernel_rfl
theorem least {P:Nat→Prop} (h:∃ k,P k):∃ k,P k∧∀ j,j < k→¬ P j:=by
  obtain ⟨k,hk⟩:=h
  induction k using Nat.strongRecOn with
  | ind k ih =>
    by_cases hx:∃ j,j < k∧P j
    · obtain ⟨j,hj,hp⟩:=hx
      exact ih j hj hp
    · exact ⟨k,hk,fun j hj hp=>hx ⟨j,hj,hp⟩⟩
theorem firstE_in {p:Nat→Int} {m:Nat} (q:Int→Prop) (h0:q 0) (h:∀ j,q (p j)):q (firstE p m).1:=by
  by_cases hz:∀ j,j < m→p j=0
  · rw [firstE_none hz]; exact h0
  · have:∃ j,j < m∧p j≠0:=by
      refine Classical.byContradiction fun hn=>hz fun j hj=>Classical.byContradiction fun hp=>hn ⟨j,hj,hp⟩
    obtain ⟨k,⟨hk,hp⟩,hmin⟩:=least this
    rw [firstE_at hk (fun j hj=>Classical.byContradiction fun hn=>hmin j hj ⟨by omega,hn⟩) hp]
    exact h k
theorem set_base (b:Bse) (l:List Nt):(setE b l).1=100↔¬ b.ok:=by
  unfold setE
  by_cases h:b.ok
  · rw [if_neg (fun hn=>hn h)]
    refine ⟨fun e=>?_,fun hn=>absurd h hn⟩
    by_cases h4:400 < l.length
    · rw [if_pos h4] at e; exact absurd e (by decide)
    · rw [if_neg h4] at e
      refine absurd e (firstE_in (fun z=>z≠100) (by decide) fun j=>?_)
      unfold ntE
      simp only
      repeat' split
      all_goals decide
  · rw [if_pos h]; exact ⟨fun _=>h,fun _=>rfl⟩
theorem set_asked (b:Bse) (l:List Nt):askedE b [l]=if (setE b l).1=0∨(setE b l).1=100 then (setE b l).1 else 1:=by
  have h:=set_base b l
  unfold askedE
  by_cases hb:b.ok
  · have h1:¬ (setE b l).1=100:=fun e=>h.1 e hb
    rw [if_neg (fun hn=>hn hb)]
    by_cases h0:(setE b l).1=0
    · simp [h0]
    · have:((setE b l).1 == 0)=false:=by simpa using h0
      simp [h0,h1,this]
  · rw [if_pos hb,h.2 hb]; simp
theorem asked_pair (b:Bse) (x y:List Nt):askedE b [x,y]=if askedE b [x]=0 then askedE b [y] else askedE b [x]:=by
  unfold askedE
  by_cases hb:b.ok
  · simp only [hb,not_true_eq_false,if_false,List.all_cons,List.all_nil,Bool.and_true]
    cases (setE b x).1 == 0 <;> cases (setE b y).1 == 0 <;> rfl
  · simp [hb]
theorem rSet_spec (b:Bse) (hb:bseSz b) (l:List Nt) (hl:setSz l):Pure Tryz.prog 82 [.agg b.cs,ntS l] (n (askedE b [l])):=by
  refine Pure.of_body Tryz.call82 Tryz.func82 k82 (Nat.le_of_ble_eq_true rfl) ?_
  unfold c82
  have h1:=rCheckSet_spec b hb l hl
  have h2:=set_asked b l
  generalize (setE b l).1=e at h1 h2
  generalize (setE b l).2=v at h1
  rw [h2]
  ((refine Ay @h1 ?_;repeat' first|exact True.intro|refine Cj.mk ?_ ?_)<;>intros<;>refine hD_ ?_)
  all_goals try (exfalso; omega)
  · rw [if_pos (by omega)]; exact Frz.eq rfl (by simp)
  · rw [if_neg (by omega)]; exact Frz.eq rfl (by simp)
theorem rSets_spec (b:Bse) (hb:bseSz b) (x y:List Nt) (hx:setSz x) (hy:setSz y):Pure Tryz.prog 137 [.agg b.cs,ntS x,ntS y] (n (askedE b [x,y])):=by
  refine Pure.of_body Tryz.call137 Tryz.func137 k137 (Nat.le_of_ble_eq_true rfl) ?_
  unfold c137
  have h1:=rSet_spec b hb x hx
  have h2:=rSet_spec b hb y hy
  rw [asked_pair]
  generalize askedE b [x]=e at h1
  generalize askedE b [y]=v at h2
  ((refine Ay (And.intro @h1 @h2) ?_;repeat' first|exact True.intro|refine Cj.mk ?_ ?_)<;>intros<;>refine hD_ ?_)
  · rw [if_pos (by omega)]; exact Frz.eq rfl (by simp)
  · rw [if_neg (by omega)]; exact Frz.eq rfl (by simp)
theorem rUnited_spec (b:Bse) (x y:List Nt) (hx:setSz x) (hy:setSz y) (okx:(setE b x).1=0) (oky:(setE b y).1=0) :
    Pure Tryz.prog 138 [ntS x,ntS y] (.tup [ntS (uniT x y),.agg ((forkT x y).getD nm0).cs]):=by
  refine Pure.of_body Tryz.call138 Tryz.func138 k138 (Nat.le_of_ble_eq_true rfl) ?_
  unfold c138
  have hx0:=hx.1
  have hy0:=hy.1
  have hxl:=(setE_ok okx).2.1
  have hyl:=(setE_ok oky).2.1
  have sx:=set_srt okx
  have sy:=set_srt oky
  have nx:=setE_nodup okx
  have ny:=setE_nodup oky
  ((refine Au ?_;repeat' first|exact True.intro|refine Cj.mk ?_ ?_)<;>intros<;>refine hD_ ?_)
  refine AWPC.own0 68 38 6 rfl ?_
  refine AWPC.loopE (α:={ s:Nat × Nat × List Nt × Nm × Sto // UniS x y s.1 s.2.1 s.2.2.1 s.2.2.2.1 }) [6,8,9] (fun s=>[(6,.own 2 0 s.1.2.2.1.length),(8,n s.1.1),(9,n s.1.2.1)])
    (fun s=>some [⟨29,2,[nm0.cs],none⟩]::some [⟨29,2,[s.1.2.2.2.1.cs],none⟩]::some [⟨68,38,s.1.2.2.1.map Nt.cs,none⟩]::s.1.2.2.2.2) (fun s=>(x.length - s.1.1)+(y.length - s.1.2.1)) ⟨(0,0,[],nm0,[]),UniS.init x y⟩ ?_ rfl ?_
  · (simp only [zN,zT,zV,zS,zU,vcC,lateX,ex,strp,binA,elems,cells,scalar,eqC,keyA,intsA,lookA,ofVs,mpOf,Nat.reduceBEq,reduceAdd,reduceSub,reduceLT,reduceLeDiff,reduceMul,reduceEqDiff,reduceIte]; try simp)
  · rintro ⟨⟨i,k,o,f,μ⟩,hU⟩
    simp only at hU
    have hi:=hU.ix
    have hk:=hU.ky
    have hol:=hU.len
    by_cases h1:i < x.length
    · have ha:=getD_lt nt0 h1
      have hra:(x.map Nt.cs).getD i []=Nt.cs (x.getD i nt0):=row nt0 h1
      have sza:=hx.2 _ (List.mem_of_getElem? ha)
      generalize x.getD i nt0=a at ha hra sza
      have na:=rName_spec a
      by_cases h2:k < y.length
      · have hb:=getD_lt nt0 h2
        have hrb:(y.map Nt.cs).getD k []=Nt.cs (y.getD k nt0):=row nt0 h2
        have szb:=hy.2 _ (List.mem_of_getElem? hb)
        generalize y.getD k nt0=c at hb hrb szb
        have nb:=rName_spec c
        have hah:=rAhead_spec c.nm a.nm
        have hy1:¬ ((k:Int)=(y.length:Int)):=by omega
        rcases cmpN_tri c.nm a.nm with h3 | h3 | h3
        · have hN:=hU.snd sx sy hb fun d hd=>by
            rcases (mem_drop ha d).1 hd with rfl | hd
            · exact h3
            · exact cmpN_trans h3 (srtd_drop sx ha d hd)
          rw [decide_eq_true h3] at hah
          ((refine Az (And.intro @hra (And.intro @hrb @hy1)) (And.intro @na (And.intro @nb @hah)) ?_;repeat' first|exact True.intro|refine Cj.mk ?_ ?_)<;>intros<;>refine hD_ ?_)
          all_goals try (exfalso; omega)
          exact ⟨⟨(i,k+1,o++[c],f,μ),hN⟩,by simp,by simp,by simp only; omega⟩
        · have hN:=hU.both sx sy ny ha hb h3 (by rw [hU.fk]; exact fork_zero' okx i)
          have hfz:f.num=0↔f=nm0:=by rw [hU.fk,fork_zero okx i,← fork_zero' okx i]
          have hsm:=rSame_spec c a szb sza
          rw [decide_eq_false (fun h=>cmpN_irr (h3 ▸ h))] at hah
          obtain ⟨e1,e2⟩:((c.clerk=a.clerk)=True)∧((c.num=a.num)=True):=⟨eq_true (congrArg Nm.clerk h3),eq_true (congrArg Nm.num h3)⟩
          by_cases h4:c=a
          · rw [decide_eq_true h4] at hsm
            rw [if_neg (fun h=>h.1 h4)] at hN
            ((refine Az (And.intro @hra (And.intro @hrb (And.intro @hy1 (And.intro @e1 @e2)))) (And.intro @na (And.intro @nb (And.intro @hah @hsm))) ?_;repeat' first|exact True.intro|refine Cj.mk ?_ ?_)<;>intros<;>refine hD_ ?_)
            all_goals try (exfalso; omega)
            exact ⟨⟨(i+1,k+1,o++[a],f,μ),hN⟩,by simp,by simp,by simp only; omega⟩
          · rw [decide_eq_false h4] at hsm
            by_cases h5:f.num=0
            · rw [if_pos ⟨h4,hfz.1 h5⟩] at hN
              ((refine Az (And.intro @hra (And.intro @hrb (And.intro @hy1 (And.intro @e1 (And.intro @e2 @h5))))) (And.intro @na (And.intro @nb (And.intro @hah @hsm))) ?_;repeat' first|exact True.intro|refine Cj.mk ?_ ?_)<;>intros<;>refine hD_ ?_)
              all_goals try (exfalso; omega)
              exact ⟨⟨(i+1,k+1,o++[a],a.nm,μ),hN⟩,by simp,by simp,by simp only; omega⟩
            · rw [if_neg (fun h=>h5 (hfz.2 h.2))] at hN
              ((refine Az (And.intro @hra (And.intro @hrb (And.intro @hy1 (And.intro @e1 (And.intro @e2 @h5))))) (And.intro @na (And.intro @nb (And.intro @hah @hsm))) ?_;repeat' first|exact True.intro|refine Cj.mk ?_ ?_)<;>intros<;>refine hD_ ?_)
              all_goals try (exfalso; omega)
              exact ⟨⟨(i+1,k+1,o++[a],f,μ),hN⟩,by simp,by simp,by simp only; omega⟩
        · have hN:=hU.fst sx sy ny ha fun d hd=>by
            rcases (mem_drop hb d).1 hd with rfl | hd
            · exact h3
            · exact cmpN_trans h3 (srtd_drop sy hb d hd)
          rw [decide_eq_false (cmpN_as h3)] at hah
          have e1:¬ (c.clerk=a.clerk∧c.num=a.num):=fun h=>by
            have h':c.nm=a.nm:=by simp [Nt.nm,h]
            rw [h'] at h3; exact cmpN_irr h3
          ((refine Az (And.intro @hra (And.intro @hrb @hy1)) (And.intro @na (And.intro @nb @hah)) ?_;repeat' first|exact True.intro|refine Cj.mk ?_ ?_)<;>intros<;>refine hD_ ?_)
          all_goals try (exfalso; omega)
          exact ⟨⟨(i+1,k,o++[a],f,μ),hN⟩,by simp,by simp,by simp only; omega⟩
      · obtain rfl:k=y.length:=by omega
        have hrb:(y.map Nt.cs).getD y.length []=[]:=by simp [List.getD_eq_getElem?_getD]
        have hN:=hU.fst sx sy ny ha fun d hd=>by simp at hd
        ((refine Az (And.intro @hra @hrb) @na ?_;repeat' first|exact True.intro|refine Cj.mk ?_ ?_)<;>intros<;>refine hD_ ?_)
        all_goals try (exfalso; omega)
        exact ⟨⟨(i+1,y.length,o++[a],f,μ),hN⟩,by simp,by simp,by simp only; omega⟩
    · obtain rfl:i=x.length:=by omega
      have hra:(x.map Nt.cs).getD x.length []=[]:=by simp [List.getD_eq_getElem?_getD]
      by_cases h2:k < y.length
      · have hb:=getD_lt nt0 h2
        have hrb:(y.map Nt.cs).getD k []=Nt.cs (y.getD k nt0):=row nt0 h2
        generalize y.getD k nt0=c at hb hrb
        have nb:=rName_spec c
        have hy1:¬ ((k:Int)=(y.length:Int)):=by omega
        have hN:=hU.snd sx sy hb fun d hd=>by simp at hd
        ((refine Az (And.intro @hra (And.intro @hrb @hy1)) @nb ?_;repeat' first|exact True.intro|refine Cj.mk ?_ ?_)<;>intros<;>refine hD_ ?_)
        all_goals try (exfalso; omega)
        exact ⟨⟨(x.length,k+1,o++[c],f,μ),hN⟩,by simp,by simp,by simp only; omega⟩
      · obtain rfl:k=y.length:=by omega
        obtain ⟨e1,e2⟩:=hU.fin nx ny
        rw [← e1,← e2]
        ((refine Au ?_;repeat' first|exact True.intro|refine Cj.mk ?_ ?_)<;>intros<;>refine hD_ ?_)
        all_goals try (exfalso; omega)
        exact Frz.tupL ⟨Frz.ownL (cs:=Nt.cs) rfl rfl (by decide) (fun a=>Nt.pc a) (fun a=>rfl),Frz.pure (by simp),trivial⟩
theorem rMerge_spec (b:Bse) (hb:bseSz b) (x y:List Nt) (hx:setSz x) (hy:setSz y):Pure Tryz.prog 74 [.agg b.cs,ntS x,ntS y] (.tup [ntS (mergeE b x y).1,n (mergeE b x y).2]):=by
  refine Pure.of_body Tryz.call74 Tryz.func74 k74 (Nat.le_of_ble_eq_true rfl) ?_
  unfold c74
  have h1:=rSets_spec b hb x y hx hy
  by_cases ha:askedE b [x,y]=0
  · have okx:=(askedE_ok ha).2 x (by simp)
    have oky:=(askedE_ok ha).2 y (by simp)
    have h2:=rUnited_spec b x y hx hy okx oky
    have hz:=fork_zero (y:=y) okx x.length
    rw [List.take_length] at hz
    have hp:forkT x y≠none→0 < ((forkT x y).getD nm0).num:=fun h=>by
      cases hf:forkT x y with
      | none=>exact absurd hf h
      | some m =>
        obtain ⟨a,h3,rfl⟩:=fork_name hf
        exact ((setE_ok okx).2.2.1 a h3).2.1.2.1
    rw [ha] at h1
    by_cases hf:forkT x y=none
    · have hE:mergeE b x y=if 400 < (uniT x y).length then ([],2) else (uniT x y,0):=by
        rw [uniT_eq (setE_nodup okx) (setE_nodup oky) hf]
        unfold mergeE; rw [if_neg (by omega),hf]; rfl
      rw [hE]
      have h0:=hz.2 hf
      generalize uniT x y=o at h2
      generalize ((forkT x y).getD nm0)=f at h2 h0
      by_cases h4:400 < o.length
      · rw [if_pos h4]
        ((refine Az @h0 (And.intro @h1 @h2) ?_;repeat' first|exact True.intro|refine Cj.mk ?_ ?_)<;>intros<;>refine hD_ ?_)
        all_goals try (exfalso; omega)
        all_goals exact Frz.tupL ⟨Frz.nil0,Frz.pure (by simp),trivial⟩
      · rw [if_neg h4]
        ((refine Az @h0 (And.intro @h1 @h2) ?_;repeat' first|exact True.intro|refine Cj.mk ?_ ?_)<;>intros<;>refine hD_ ?_)
        all_goals try (exfalso; omega)
        all_goals exact Frz.eq rfl (by simp)
    · have hE:mergeE b x y=([],61):=by
        unfold mergeE; rw [if_neg (by omega),if_pos (by cases h:forkT x y <;> simp_all)]
      rw [hE]
      have h0:=hp hf
      generalize uniT x y=o at h2
      generalize ((forkT x y).getD nm0)=f at h2 h0
      ((refine Ay (And.intro @h1 @h2) ?_;repeat' first|exact True.intro|refine Cj.mk ?_ ?_)<;>intros<;>refine hD_ ?_)
      all_goals try (exfalso; omega)
      all_goals exact Frz.tupL ⟨Frz.nil0,Frz.pure (by simp),trivial⟩
  · have hE:mergeE b x y=([],askedE b [x,y]):=by unfold mergeE; rw [if_pos ha]
    rw [hE]
    generalize askedE b [x,y]=e at h1 ha
    ((refine Ay @h1 ?_;repeat' first|exact True.intro|refine Cj.mk ?_ ?_)<;>intros<;>refine hD_ ?_)
    all_goals try (exfalso; omega)
    all_goals exact Frz.tupL ⟨Frz.nil0,Frz.pure (by simp),trivial⟩
theorem rFork_spec (b:Bse) (hb:bseSz b) (x y:List Nt) (hx:setSz x) (hy:setSz y):Pure Tryz.prog 75 [.agg b.cs,ntS x,ntS y] (.tup [.agg (forkE b x y).1.cs,n (forkE b x y).2]):=by
  refine Pure.of_body Tryz.call75 Tryz.func75 k75 (Nat.le_of_ble_eq_true rfl) ?_
  unfold c75
  have h1:=rSets_spec b hb x y hx hy
  by_cases ha:askedE b [x,y]=0
  · have okx:=(askedE_ok ha).2 x (by simp)
    have oky:=(askedE_ok ha).2 y (by simp)
    have h2:=rUnited_spec b x y hx hy okx oky
    have hz:=fork_zero (y:=y) okx x.length
    rw [List.take_length] at hz
    rw [ha] at h1
    by_cases hf:forkT x y=none
    · have hE:forkE b x y=(nm0,3):=by unfold forkE; rw [if_neg (by omega),hf]
      rw [hE]
      have h0:=hz.2 hf
      generalize uniT x y=o at h2
      generalize ((forkT x y).getD nm0)=f at h2 h0
      ((refine Az @h0 (And.intro @h1 @h2) ?_;repeat' first|exact True.intro|refine Cj.mk ?_ ?_)<;>intros<;>refine hD_ ?_)
      all_goals try (exfalso; omega)
      all_goals exact Frz.eq rfl (by simp)
    · have hE:forkE b x y=((forkT x y).getD nm0,0):=by
        unfold forkE; rw [if_neg (by omega)]
        cases h:forkT x y with
        | none=>exact absurd h hf
        | some m=>rfl
      rw [hE]
      have h0:¬ ((forkT x y).getD nm0).num=0:=fun h=>hf (hz.1 h)
      generalize uniT x y=o at h2
      generalize ((forkT x y).getD nm0)=f at h2 h0
      ((refine Ay (And.intro @h1 @h2) ?_;repeat' first|exact True.intro|refine Cj.mk ?_ ?_)<;>intros<;>refine hD_ ?_)
      all_goals try (exfalso; omega)
      all_goals exact Frz.eq rfl (by simp)
  · have hE:forkE b x y=(nm0,askedE b [x,y]):=by unfold forkE; rw [if_pos ha]
    rw [hE]
    generalize askedE b [x,y]=e at h1 ha
    ((refine Ay @h1 ?_;repeat' first|exact True.intro|refine Cj.mk ?_ ?_)<;>intros<;>refine hD_ ?_)
    all_goals try (exfalso; omega)
    all_goals exact Frz.eq rfl (by simp)
def c139:CF:=⟨20,(jo [jn 2] [0]
 (jo [jn 3] [0,3]
 (.seq (jo [jc 4 0] [0,3,4]
 (.block 0 (.loop (.seq (jo [jm 5 4,jm 6 0,je 7 6,jt .lss 8 5 7] [0,3,4,8]
 (.cond (.t 8) .skip
 (.exit 0)))
 (.seq (.block 1 (.ops [jm 11 3,jm 12 0,jm 13 4,ji 14 38 12 13,jk 15 38 14,jy 16 92 [15],jw 17 (.bsl false 29 2 1 [.int .i64 0,.int .i64 0] [(0,2,(.t 16))]),jw 18 (.app 29 2 16 (.t 11) (.t 17)),jm 3 18] [0,3,4]))
 (.ops [jm 9 4,ju .add 10 9 1,jm 4 10] [0,3,4]))))))
 (jo [jm 19 3,jm 2 19] [2]
 .ret)))),[.t 2]⟩
theorem k139:chkF Tryz.prog Tryz.f139 c139=true:=by kernel_rfl
def c160:CF:=⟨49,(jo [jn 2] [0]
 (jo [jn 3] [0,3]
 (.seq (jo [jc 4 0] [0,3,4]
 (.block 0 (.loop (.seq (jo [jm 7 4,jm 8 0,je 9 8,jt .lss 10 7 9] [0,3,4,10]
 (.cond (.t 10) .skip
 (.exit 0)))
 (.seq (.block 1 (jo [jm 13 3,je 14 13,jm 5 14] [0,3,4,5]
 (.seq (.block 2 (.loop (.seq (.seq (.draw [jm 15 5,ju .gtr 16 15 0,jm 17 16,ja 17 (jm 18 0),ja 17 (jm 19 4),ja 17 (ji 20 38 18 19),ja 17 (jk 21 38 20),ja 17 (jm 22 3),ja 17 (jm 23 5),ja 17 (ju .sub 24 23 1),ja 17 (ji 25 38 22 24),ja 17 (jk 26 38 25),ja 17 (jy 27 48 [21,26]),jp 28 17 27] [] [0,3,4,5,28])
 (.cond (.t 28) .skip
 (.exit 2)))
 (.block 3 (.ops [jm 29 5,ju .sub 30 29 1,jm 5 30] [0,3,4,5])))))
 (jo [jw 31 (.bsl true 68 38 0 [] []),jm 32 3,jm 33 5,jw 34 (.slice 38 (.t 32) none (some (.t 33))),jw 35 (.app 68 38 368 (.t 31) (.t 34)),jm 6 35] [0,3,4,5,6]
 (jo [jm 36 6,jm 37 0,jm 38 4,ji 39 38 37 38,jk 40 38 39,jw 41 (.bsl false 68 38 1 z38 [(0,38,(.t 40))]),jw 42 (.app 68 38 368 (.t 36) (.t 41)),jm 6 42] [0,3,4,5,6]
 (.ops [jm 43 6,jm 44 3,jm 45 5,jw 46 (.slice 38 (.t 44) (some (.t 45)) none),jw 47 (.app 68 38 368 (.t 43) (.t 46)),jm 3 47] [0,3,4]))))))
 (.ops [jm 11 4,ju .add 12 11 1,jm 4 12] [0,3,4]))))))
 (jo [jm 48 3,jm 2 48] [2]
 .ret)))),[.t 2]⟩
theorem k160:chkF Tryz.prog Tryz.f160 c160=true:=by kernel_rfl
def c91:CF:=⟨58,(jo [jn 2] [0]
 (jo [jn 3] [0,3]
 (.seq (jo [jc 4 0] [0,3,4]
 (.block 0 (.loop (.seq (jo [jm 7 4,jm 8 0,je 9 8,jt .lss 10 7 9] [0,3,4,10]
 (.cond (.t 10) .skip
 (.exit 0)))
 (.seq (.block 1 (jo [jm 13 0,jm 14 4,ji 15 38 13 14,jf 16 4 15,jl 17 16,ju .eql 18 17 7,jm 5 18] [0,3,4,5]
 (.seq (jo [jc 6 0] [0,3,4,5,6]
 (.block 2 (.loop (.seq (jo [jm 19 6,jm 20 0,je 21 20,jt .lss 22 19 21] [0,3,4,5,6,22]
 (.cond (.t 22) .skip
 (.exit 2)))
 (.seq (.block 3 (.draw [jm 25 5,jm 26 25,jd 26 (jm 27 0),jd 26 (jm 28 6),jd 26 (ji 29 38 27 28),jd 26 (jf 30 4 29),jd 26 (jl 31 30),jd 26 (ju .eql 32 31 7),jd 26 (jm 33 32),ja 33 (jm 34 0),ja 33 (jm 35 6),ja 33 (ji 36 38 34 35),ja 33 (jf 37 36 36),ja 33 (jk 38 2 37),ja 33 (jm 39 0),ja 33 (jm 40 4),ja 33 (ji 41 38 39 40),ja 33 (jk 42 38 41),ja 33 (jy 43 92 [42]),⟨some 44,.eqs false [some .i64,some .i64] (.t 38) (.t 43),some (33,true)⟩,jd 26 (jp 45 33 44),jq 46 26 45] [jm 5 46] [0,3,4,5,6]))
 (.ops [jm 23 6,ju .add 24 23 1,jm 6 24] [0,3,4,5,6]))))))
 (jo [jm 47 5,jv 48 47] [0,3,4,48]
 (.cond (.t 48) (.ops [jm 49 3,jm 50 0,jm 51 4,ji 52 38 50 51,jk 53 38 52,jw 54 (.bsl false 68 38 1 z38 [(0,38,(.t 53))]),jw 55 (.app 68 38 368 (.t 49) (.t 54)),jm 3 55] [0,3,4])
 .skip)))))
 (.ops [jm 11 4,ju .add 12 11 1,jm 4 12] [0,3,4]))))))
 (jo [jm 56 3,jy 57 160 [56],jm 2 57] [2]
 .ret)))),[.t 2]⟩
theorem k91:chkF Tryz.prog Tryz.f91 c91=true:=by kernel_rfl
def c76:CF:=⟨16,(jo [jx 2 26 6 0,jn 4,jc 5 0] [1,2]
 (jo [jk 7 6 2,jm 8 1,jy 9 82 [7,8],jm 6 9] [1,6]
 (.seq (jo [jm 10 6,ju .neq 11 10 0] [1,6,11]
 (.cond (.t 11) (jo [jm 12 6,jn 4,jm 5 12] [4,5]
 .ret)
 .skip))
 (jo [jm 13 1,jy 14 91 [13],jy 15 139 [14],jm 4 15,jc 5 0] [4,5]
 .ret)))),[.t 4,.t 5]⟩
theorem k76:chkF Tryz.prog Tryz.f76 c76=true:=by kernel_rfl
theorem AWPC.nil0 {P:Program} {N:Nat} {rd:Option Nat} {K:Kont} {env:Env} {σ:Sto} {c:C} (k t:Nat) (ht:gt env t=.v (.slice none 0 0)) (h:AWPC P N rd c K ((t,.sl k [])::env) σ):AWPC P N rd c K env σ:=by
  intro code hc n0 X β a w hst
  refine h code hc n0 X β a w { hst with ev:=fun s=>?_ }
  simp only [gt]
  by_cases hs:t=s
  · subst hs
    simp only [beq_self_eq_true,cond_true]
    have:=hst.ev t
    rw [ht] at this
    exact this.nil
  · have:(t == s)=false:=by simpa using hs
    simp only [this,cond_false]
    exact hst.ev s
theorem rNames_spec (l:List Nt) (hl:l.length < 4294967296):Pure Tryz.prog 139 [ntS l] (nmS (l.map Nt.nm)):=by
  refine Pure.of_body Tryz.call139 Tryz.func139 k139 (Nat.le_of_ble_eq_true rfl) ?_
  unfold c139
  ((refine Au ?_;repeat' first|exact True.intro|refine Cj.mk ?_ ?_)<;>intros<;>refine hD_ ?_)
  refine AWPC.own0 29 2 3 rfl ?_
  refine AWPC.loopE (α:={ x:Nat × Sto // x.1≤l.length }) [3,4] (fun x=>[(3,.own 0 0 x.1.1),(4,n x.1.1)]) (fun x=>some [⟨29,2,((l.take x.1.1).map Nt.nm).map Nm.cs,none⟩]::x.1.2) (fun x=>l.length - x.1.1) ⟨(0,[]),Nat.zero_le _⟩ ?_ rfl ?_
  · (simp only [zN,zT,zV,zS,zU,vcC,lateX,ex,strp,binA,elems,cells,scalar,eqC,keyA,intsA,lookA,ofVs,mpOf,Nat.reduceBEq,reduceAdd,reduceSub,reduceLT,reduceLeDiff,reduceMul,reduceEqDiff,reduceIte]; try simp)
  · rintro ⟨⟨i,μ⟩,hi⟩
    simp only at hi
    generalize hM:((l.take i).map Nt.nm).map Nm.cs=M
    have hMl:M.length=i:=by rw [← hM]; simp; omega
    by_cases hlt:i < l.length
    · have hx:(l.map Nt.cs).getD i []=Nt.cs (l.getD i nt0):=row nt0 hlt
      have hN:((l.take (i+1)).map Nt.nm).map Nm.cs=M++[(l.getD i nt0).nm.cs]:=by rw [List.take_add_one,getD_lt nt0 hlt,← hM]; simp
      have hc:=rName_spec (l.getD i nt0)
      generalize l.getD i nt0=x at hx hN hc
      ((refine Az (And.intro @hx @hMl) @hc ?_;repeat' first|exact True.intro|refine Cj.mk ?_ ?_)<;>intros<;>refine hD_ ?_)
      all_goals try (exfalso; omega)
      exact ⟨⟨(i+1,μ),hlt⟩,by simp,by simpa using hN.symm,by simp only; omega⟩
    · obtain rfl:i=l.length:=by omega
      rw [List.take_length] at hM
      ((refine Au ?_;repeat' first|exact True.intro|refine Cj.mk ?_ ?_)<;>intros<;>refine hD_ ?_)
      all_goals try (exfalso; omega)
      all_goals exact Frz.ownL (cs:=Nm.cs) (by rw [hM]; rfl) (by simp) (by decide) (fun a=>by simp) (fun a=>rfl)
theorem ins_at {x:Nt}:∀ {o:List Nt} {k:Nat},o.Pairwise (fun a b=>0≤cmpT b a)→k≤o.length→(∀ j,k≤j→j < o.length→cmpT x (o.getD j nt0) < 0)→(0 < k→¬ cmpT x (o.getD (k - 1) nt0) < 0)→insT x o=o.take k++x::o.drop k
  | [],k,_,hk,_,_=>by
    obtain rfl:k=0:=by simpa using hk
    rfl
  | y::r,0,_,_,h1,_=>by
    have:cmpT x y < 0:=h1 0 (Nat.le_refl _) (by simp)
    unfold insT
    rw [if_pos this]; rfl
  | y::r,k+1,hs,hk,h1,h2=>by
    rw [List.pairwise_cons] at hs
    have hy:¬ cmpT x y < 0:=fun h=>by
      have h3:=h2 (Nat.succ_pos _)
      cases k with
      | zero=>exact h3 h
      | succ k =>
        have hkr:k < r.length:=by simp only [List.length_cons] at hk; omega
        have h4:0≤cmpT (r.getD k nt0) y:=hs.1 _ (List.mem_of_getElem? (getD_lt nt0 hkr))
        have h5:¬ cmpT x (r.getD k nt0) < 0:=by simpa using h3
        rw [cmpT_lt] at h h5
        have h6:¬ cmpT (r.getD k nt0) y < 0:=by omega
        rw [cmpT_lt] at h6
        omega
    unfold insT
    rw [if_neg hy,List.take_succ_cons,List.drop_succ_cons,List.cons_append]
    congr 1
    refine ins_at hs.2 (by simpa using hk) (fun j hj hjl=>?_) (fun h0=>?_)
    · have:=h1 (j+1) (by omega) (by simpa using hjl)
      simpa using this
    · have:=h2 (Nat.succ_pos _)
      obtain ⟨m,rfl⟩:∃ m,k=m+1:=⟨k - 1,by omega⟩
      simpa using this
theorem srtT_next {l:List Nt} {i:Nat} {a:Nt} (h:l[i]?=some a):srtT (l.take (i+1))=insT a (srtT (l.take i)):=by
  unfold srtT
  rw [List.take_add_one,h,Option.toList_some,List.foldl_append]; rfl
theorem rOrdered_spec (l:List Nt) (hl:l.length < 4294967296):Pure Tryz.prog 160 [ntS l] (ntS (srtT l)):=by
  refine Pure.of_body Tryz.call160 Tryz.func160 k160 (Nat.le_of_ble_eq_true rfl) ?_
  unfold c160
  ((refine Au ?_;repeat' first|exact True.intro|refine Cj.mk ?_ ?_)<;>intros<;>refine hD_ ?_)
  refine AWPC.nil0 38 3 rfl ?_
  refine AWPC.loopE (α:={ x:Nat × Sto // x.1≤l.length }) [3,4] (fun x=>[(3,ntS (srtT (l.take x.1.1))),(4,n x.1.1)]) (fun x=>x.1.2) (fun x=>l.length - x.1.1) ⟨(0,[]),Nat.zero_le _⟩ ?_ rfl ?_
  · (simp only [zN,zT,zV,zS,zU,vcC,lateX,ex,strp,binA,elems,cells,scalar,eqC,keyA,intsA,lookA,ofVs,mpOf,Nat.reduceBEq,reduceAdd,reduceSub,reduceLT,reduceLeDiff,reduceMul,reduceEqDiff,reduceIte]; try simp)
    rfl
  · rintro ⟨⟨i,μ⟩,hi⟩
    simp only at hi
    by_cases hlt:i < l.length
    · have ha:=getD_lt nt0 hlt
      have hx:(l.map Nt.cs).getD i []=Nt.cs (l.getD i nt0):=row nt0 hlt
      have hN:=srtT_next ha
      have hsr:=srtT_le (l.take i)
      have hol:(srtT (l.take i)).length=i:=by rw [(srtT_perm _).length_eq,List.length_take]; omega
      have hins:=@ins_at (l.getD i nt0) (srtT (l.take i))
      generalize l.getD i nt0=x at hx hN hins ha
      generalize srtT (l.take i)=o at hsr hN hol hins
      ((refine Au ?_;repeat' first|exact True.intro|refine Cj.mk ?_ ?_)<;>intros<;>refine hD_ ?_)
      all_goals try (exfalso; omega)
      refine AWPC.loopS (α:={ k:Nat // k≤i∧∀ j,k≤j→j < i→cmpT x (o.getD j nt0) < 0 }) [5] (fun k=>[(5,n k.1)]) (fun k=>k.1) ⟨i,Nat.le_refl _,fun j h1 h2=>by omega⟩ ?_ ?_
      · (simp only [zN,zT,zV,zS,zU,vcC,lateX,ex,strp,binA,elems,cells,scalar,eqC,keyA,intsA,lookA,ofVs,mpOf,Nat.reduceBEq,reduceAdd,reduceSub,reduceLT,reduceLeDiff,reduceMul,reduceEqDiff,reduceIte]; try simp)
        omega
      · rintro ⟨k,hk,hI⟩
        try simp only at hk hI
        have fin:(0 < k→¬ cmpT x (o.getD (k - 1) nt0) < 0)→insT x o=o.take k++x::o.drop k:=fun h=>hins hsr (by omega) (fun j h1 h2=>hI j h1 (by omega)) h
        by_cases h0:0 < k
        · have hrow:(o.map Nt.cs).getD ((k:Int) - 1).toNat []=Nt.cs (o.getD (k - 1) nt0):=by
            rw [show ((k:Int) - 1).toNat=k - 1 by omega]; exact row nt0 (by omega)
          have hb:=rBefore_spec x (o.getD (k - 1) nt0)
          by_cases hc:cmpT x (o.getD (k - 1) nt0) < 0
          · rw [decide_eq_true hc] at hb
            generalize hy:o.getD (k - 1) nt0=y at hrow hb hc
            ((refine Az (And.intro @hx @hrow) @hb ?_;repeat' first|exact True.intro|refine Cj.mk ?_ ?_)<;>intros<;>refine hD_ ?_)
            all_goals try (exfalso; omega)
            refine ⟨⟨k - 1,by omega,fun j h1 h2=>?_⟩,?_,by simp only; omega⟩
            · rcases (show j=k - 1∨k≤j by omega) with rfl | h3
              · rw [hy]; exact hc
              · exact hI j h3 h2
            · simp; omega
          · have hF:=fin fun _=>hc
            rw [decide_eq_false hc] at hb
            generalize o.getD (k - 1) nt0=y at hrow hb
            clear hins fin hsr
            ((first
 | refine vn rfl ?_
 | simp (disch:=omega) only [wr64,Int.zero_sub]
 | refine bo (fun _=>?_) fun _=>?_
 | refine im fun _=>?_
 | ((repeat refine si ?_); (first | ((first | refine .inl ⟨_,_,_,_,rfl,fun _=>pu hb,?_⟩ | refine ⟨_,_,_,_,rfl,fun _=>pu hb,?_⟩); (first | refine o1 ?_ | refine o2 ?_ | refine o3 ?_ | refine o4 ?_)) | refine .inl ⟨_,_,_,_,rfl,pu hb,?_⟩))
 | refine cF ?_
 | refine om ?_
 | refine an ?_
 | fail) <;> try simp only [zN, zT, zV, zS, zU, vcC, lateX, ex, strp, binA, elems, cells, scalar, eqC, keyA, intsA, lookA, ofVs, mpOf, Nat.reduceBEq, reduceAdd, reduceSub, reduceLT, reduceLeDiff, reduceMul, reduceEqDiff, reduceIte, hx, hrow, hol, List.length_map])
            ((first
 | refine vn rfl ?_
 | simp (disch:=omega) only [wr64,Int.zero_sub]
 | refine bo (fun _=>?_) fun _=>?_
 | refine im fun _=>?_
 | ((repeat refine si ?_); (first | ((first | refine .inl ⟨_,_,_,_,rfl,fun _=>pu hb,?_⟩ | refine ⟨_,_,_,_,rfl,fun _=>pu hb,?_⟩); (first | refine o1 ?_ | refine o2 ?_ | refine o3 ?_ | refine o4 ?_)) | refine .inl ⟨_,_,_,_,rfl,pu hb,?_⟩))
 | refine cF ?_
 | refine om ?_
 | refine an ?_
 | fail) <;> try simp only [zN, zT, zV, zS, zU, vcC, lateX, ex, strp, binA, elems, cells, scalar, eqC, keyA, intsA, lookA, ofVs, mpOf, Nat.reduceBEq, reduceAdd, reduceSub, reduceLT, reduceLeDiff, reduceMul, reduceEqDiff, reduceIte, hx, hrow, hol, List.length_map])
            ((first
 | refine vn rfl ?_
 | simp (disch:=omega) only [wr64,Int.zero_sub]
 | refine bo (fun _=>?_) fun _=>?_
 | refine im fun _=>?_
 | ((repeat refine si ?_); (first | ((first | refine .inl ⟨_,_,_,_,rfl,fun _=>pu hb,?_⟩ | refine ⟨_,_,_,_,rfl,fun _=>pu hb,?_⟩); (first | refine o1 ?_ | refine o2 ?_ | refine o3 ?_ | refine o4 ?_)) | refine .inl ⟨_,_,_,_,rfl,pu hb,?_⟩))
 | refine cF ?_
 | refine om ?_
 | refine an ?_
 | fail) <;> try simp only [zN, zT, zV, zS, zU, vcC, lateX, ex, strp, binA, elems, cells, scalar, eqC, keyA, intsA, lookA, ofVs, mpOf, Nat.reduceBEq, reduceAdd, reduceSub, reduceLT, reduceLeDiff, reduceMul, reduceEqDiff, reduceIte, hx, hrow, hol, List.length_map])
            ((first
 | refine vn rfl ?_
 | simp (disch:=omega) only [wr64,Int.zero_sub]
 | refine bo (fun _=>?_) fun _=>?_
 | refine im fun _=>?_
 | ((repeat refine si ?_); (first | ((first | refine .inl ⟨_,_,_,_,rfl,fun _=>pu hb,?_⟩ | refine ⟨_,_,_,_,rfl,fun _=>pu hb,?_⟩); (first | refine o1 ?_ | refine o2 ?_ | refine o3 ?_ | refine o4 ?_)) | refine .inl ⟨_,_,_,_,rfl,pu hb,?_⟩))
 | refine cF ?_
 | refine om ?_
 | refine an ?_
 | fail) <;> try simp only [zN, zT, zV, zS, zU, vcC, lateX, ex, strp, binA, elems, cells, scalar, eqC, keyA, intsA, lookA, ofVs, mpOf, Nat.reduceBEq, reduceAdd, reduceSub, reduceLT, reduceLeDiff, reduceMul, reduceEqDiff, reduceIte, hx, hrow, hol, List.length_map])
            ((first
 | refine vn rfl ?_
 | simp (disch:=omega) only [wr64,Int.zero_sub]
 | refine bo (fun _=>?_) fun _=>?_
 | refine im fun _=>?_
 | ((repeat refine si ?_); (first | ((first | refine .inl ⟨_,_,_,_,rfl,fun _=>pu hb,?_⟩ | refine ⟨_,_,_,_,rfl,fun _=>pu hb,?_⟩); (first | refine o1 ?_ | refine o2 ?_ | refine o3 ?_ | refine o4 ?_)) | refine .inl ⟨_,_,_,_,rfl,pu hb,?_⟩))
 | refine cF ?_
 | refine om ?_
 | refine an ?_
 | fail) <;> try simp only [zN, zT, zV, zS, zU, vcC, lateX, ex, strp, binA, elems, cells, scalar, eqC, keyA, intsA, lookA, ofVs, mpOf, Nat.reduceBEq, reduceAdd, reduceSub, reduceLT, reduceLeDiff, reduceMul, reduceEqDiff, reduceIte, hx, hrow, hol, List.length_map])
            clear hI hc hb hrow h0
            obtain ⟨P,hP⟩:∃ P,P=o.take k:=⟨_,rfl⟩
            obtain ⟨Q,hQ⟩:∃ Q,Q=o.drop k:=⟨_,rfl⟩
            have hPm:List.take k (o.map Nt.cs)=P.map Nt.cs:=by rw [hP,List.map_take]
            have hQm:List.drop k (List.take i (o.map Nt.cs))=Q.map Nt.cs:=by rw [hQ,List.map_drop,List.take_of_length_le (by rw [List.length_map]; omega)]
            have hPl:P.length=k:=by rw [hP,List.length_take]; omega
            have hQl:Q.length=i - k:=by rw [hQ,List.length_drop]; omega
            have hPr:∀ e,e < k→((P.map Nt.cs).getD e []).length=38:=fun e he=>by rw [row nt0 (by omega)]; rfl
            have hQr:∀ e,e < i - k→((Q.map Nt.cs).getD e []).length=38:=fun e he=>by rw [row nt0 (by omega)]; rfl
            rw [← hP,← hQ] at hF
            clear hP hQ
            ((first
 | refine vn rfl ?_
 | simp (disch:=omega) only [wr64,Int.zero_sub]
 | refine bo (fun _=>?_) fun _=>?_
 | refine im fun _=>?_
 | refine cF ?_
 | refine om ?_
 | refine an ?_
 | fail) <;> try simp only [zN, zT, zV, zS, zU, vcC, lateX, ex, strp, binA, elems, cells, scalar, eqC, keyA, intsA, lookA, ofVs, mpOf, Nat.reduceBEq, reduceAdd, reduceSub, reduceLT, reduceLeDiff, reduceMul, reduceEqDiff, reduceIte, hx, hPm, hQm, hPl, hQl, hol, List.length_map, Option.toList, List.append_nil, List.nil_append, List.cons_append])
            ((first
 | refine vn rfl ?_
 | simp (disch:=omega) only [wr64,Int.zero_sub]
 | refine bo (fun _=>?_) fun _=>?_
 | refine im fun _=>?_
 | refine cF ?_
 | refine om ?_
 | refine an ?_
 | fail) <;> try simp only [zN, zT, zV, zS, zU, vcC, lateX, ex, strp, binA, elems, cells, scalar, eqC, keyA, intsA, lookA, ofVs, mpOf, Nat.reduceBEq, reduceAdd, reduceSub, reduceLT, reduceLeDiff, reduceMul, reduceEqDiff, reduceIte, hx, hPm, hQm, hPl, hQl, hol, List.length_map, Option.toList, List.append_nil, List.nil_append, List.cons_append])
            refine ⟨⟨hPr,by omega⟩,?_⟩
            ((first
 | refine vn rfl ?_
 | simp (disch:=omega) only [wr64,Int.zero_sub]
 | refine bo (fun _=>?_) fun _=>?_
 | refine im fun _=>?_
 | refine cF ?_
 | refine om ?_
 | refine an ?_
 | fail) <;> try simp only [zN, zT, zV, zS, zU, vcC, lateX, ex, strp, binA, elems, cells, scalar, eqC, keyA, intsA, lookA, ofVs, mpOf, Nat.reduceBEq, reduceAdd, reduceSub, reduceLT, reduceLeDiff, reduceMul, reduceEqDiff, reduceIte, hx, hPm, hQm, hPl, hQl, hol, List.length_map, Option.toList, List.append_nil, List.nil_append, List.cons_append])
            ((first
 | refine vn rfl ?_
 | simp (disch:=omega) only [wr64,Int.zero_sub]
 | refine bo (fun _=>?_) fun _=>?_
 | refine im fun _=>?_
 | refine cF ?_
 | refine om ?_
 | refine an ?_
 | fail) <;> try simp only [zN, zT, zV, zS, zU, vcC, lateX, ex, strp, binA, elems, cells, scalar, eqC, keyA, intsA, lookA, ofVs, mpOf, Nat.reduceBEq, reduceAdd, reduceSub, reduceLT, reduceLeDiff, reduceMul, reduceEqDiff, reduceIte, hx, hPm, hQm, hPl, hQl, hol, List.length_map, Option.toList, List.append_nil, List.nil_append, List.cons_append])
            ((first
 | refine vn rfl ?_
 | simp (disch:=omega) only [wr64,Int.zero_sub]
 | refine bo (fun _=>?_) fun _=>?_
 | refine im fun _=>?_
 | refine cF ?_
 | refine om ?_
 | refine an ?_
 | fail) <;> try simp only [zN, zT, zV, zS, zU, vcC, lateX, ex, strp, binA, elems, cells, scalar, eqC, keyA, intsA, lookA, ofVs, mpOf, Nat.reduceBEq, reduceAdd, reduceSub, reduceLT, reduceLeDiff, reduceMul, reduceEqDiff, reduceIte, hx, hPm, hQm, hPl, hQl, hol, List.length_map, Option.toList, List.append_nil, List.nil_append, List.cons_append])
            ((first
 | refine vn rfl ?_
 | simp (disch:=omega) only [wr64,Int.zero_sub]
 | refine bo (fun _=>?_) fun _=>?_
 | refine im fun _=>?_
 | refine cF ?_
 | refine om ?_
 | refine an ?_
 | fail) <;> try simp only [zN, zT, zV, zS, zU, vcC, lateX, ex, strp, binA, elems, cells, scalar, eqC, keyA, intsA, lookA, ofVs, mpOf, Nat.reduceBEq, reduceAdd, reduceSub, reduceLT, reduceLeDiff, reduceMul, reduceEqDiff, reduceIte, hx, hPm, hQm, hPl, hQl, hol, List.length_map, Option.toList, List.append_nil, List.nil_append, List.cons_append])
            ((first
 | refine vn rfl ?_
 | simp (disch:=omega) only [wr64,Int.zero_sub]
 | refine bo (fun _=>?_) fun _=>?_
 | refine im fun _=>?_
 | refine cF ?_
 | refine om ?_
 | refine an ?_
 | fail) <;> try simp only [zN, zT, zV, zS, zU, vcC, lateX, ex, strp, binA, elems, cells, scalar, eqC, keyA, intsA, lookA, ofVs, mpOf, Nat.reduceBEq, reduceAdd, reduceSub, reduceLT, reduceLeDiff, reduceMul, reduceEqDiff, reduceIte, hx, hPm, hQm, hPl, hQl, hol, List.length_map, Option.toList, List.append_nil, List.nil_append, List.cons_append])
            refine ⟨⟨hQr,by omega⟩,?_⟩
            refine AWPC.freeze1 (f:=μ.length) (t:=3) (o:=⟨68,38,(P++x::Q).map Nt.cs,none⟩) rfl (by rw [at_app0]; simp [at_cons0]) (by simp; omega) (show (38:Nat)≠0 by decide) ?_
            rw [← hF,← hN]
            generalize gone _ _=ν
            ((refine Au ?_;repeat' first|exact True.intro|refine Cj.mk ?_ ?_)<;>intros<;>refine hD_ ?_)
            all_goals try (exfalso; omega)
            all_goals exact ⟨⟨(i+1,ν),hlt⟩,by simp,rfl,by simp only; omega⟩
        · have hF:=fin fun h=>absurd h h0
          have hg0:¬ (0:Int) < (k:Int):=by omega
          have hrw:((o.map Nt.cs).getD ((k:Int) - 1).toNat []=[])∨∃ y:Nt,(o.map Nt.cs).getD ((k:Int) - 1).toNat []=y.cs:=by
            by_cases h:((k:Int) - 1).toNat < o.length
            · exact .inr ⟨_,row nt0 h⟩
            · exact .inl (by rw [List.getD_eq_getElem?_getD,List.getElem?_eq_none (by rw [List.length_map]; omega)]; rfl)
          rcases hrw with hrow | ⟨y,hrow⟩
          all_goals
            ((first
 | refine vn rfl ?_
 | simp (disch:=omega) only [wr64,Int.zero_sub]
 | refine bo (fun _=>?_) fun _=>?_
 | refine im fun _=>?_
 | refine cF ?_
 | refine cG ?_
 | refine om ?_
 | refine an ?_
 | fail) <;> try simp only [zN, zT, zV, zS, zU, vcC, lateX, ex, strp, binA, elems, cells, scalar, eqC, keyA, intsA, lookA, ofVs, mpOf, Nat.reduceBEq, reduceAdd, reduceSub, reduceLT, reduceLeDiff, reduceMul, reduceEqDiff, reduceIte, hx, hg0, hol, hrow, List.length_map])
            ((first
 | refine vn rfl ?_
 | simp (disch:=omega) only [wr64,Int.zero_sub]
 | refine bo (fun _=>?_) fun _=>?_
 | refine im fun _=>?_
 | refine cF ?_
 | refine cG ?_
 | refine om ?_
 | refine an ?_
 | fail) <;> try simp only [zN, zT, zV, zS, zU, vcC, lateX, ex, strp, binA, elems, cells, scalar, eqC, keyA, intsA, lookA, ofVs, mpOf, Nat.reduceBEq, reduceAdd, reduceSub, reduceLT, reduceLeDiff, reduceMul, reduceEqDiff, reduceIte, hx, hg0, hol, hrow, List.length_map])
            ((first
 | refine vn rfl ?_
 | simp (disch:=omega) only [wr64,Int.zero_sub]
 | refine bo (fun _=>?_) fun _=>?_
 | refine im fun _=>?_
 | refine cF ?_
 | refine cG ?_
 | refine om ?_
 | refine an ?_
 | fail) <;> try simp only [zN, zT, zV, zS, zU, vcC, lateX, ex, strp, binA, elems, cells, scalar, eqC, keyA, intsA, lookA, ofVs, mpOf, Nat.reduceBEq, reduceAdd, reduceSub, reduceLT, reduceLeDiff, reduceMul, reduceEqDiff, reduceIte, hx, hg0, hol, hrow, List.length_map])
            ((first
 | refine vn rfl ?_
 | simp (disch:=omega) only [wr64,Int.zero_sub]
 | refine bo (fun _=>?_) fun _=>?_
 | refine im fun _=>?_
 | refine cF ?_
 | refine cG ?_
 | refine om ?_
 | refine an ?_
 | fail) <;> try simp only [zN, zT, zV, zS, zU, vcC, lateX, ex, strp, binA, elems, cells, scalar, eqC, keyA, intsA, lookA, ofVs, mpOf, Nat.reduceBEq, reduceAdd, reduceSub, reduceLT, reduceLeDiff, reduceMul, reduceEqDiff, reduceIte, hx, hg0, hol, hrow, List.length_map])
            ((first
 | refine vn rfl ?_
 | simp (disch:=omega) only [wr64,Int.zero_sub]
 | refine bo (fun _=>?_) fun _=>?_
 | refine im fun _=>?_
 | refine cF ?_
 | refine cG ?_
 | refine om ?_
 | refine an ?_
 | fail) <;> try simp only [zN, zT, zV, zS, zU, vcC, lateX, ex, strp, binA, elems, cells, scalar, eqC, keyA, intsA, lookA, ofVs, mpOf, Nat.reduceBEq, reduceAdd, reduceSub, reduceLT, reduceLeDiff, reduceMul, reduceEqDiff, reduceIte, hx, hg0, hol, hrow, List.length_map])
            clear hI h0 hg0 hins fin hsr hrow
            obtain ⟨P,hP⟩:∃ P,P=o.take k:=⟨_,rfl⟩
            obtain ⟨Q,hQ⟩:∃ Q,Q=o.drop k:=⟨_,rfl⟩
            have hPm:List.take k (o.map Nt.cs)=P.map Nt.cs:=by rw [hP,List.map_take]
            have hQm:List.drop k (List.take i (o.map Nt.cs))=Q.map Nt.cs:=by rw [hQ,List.map_drop,List.take_of_length_le (by rw [List.length_map]; omega)]
            have hPl:P.length=k:=by rw [hP,List.length_take]; omega
            have hQl:Q.length=i - k:=by rw [hQ,List.length_drop]; omega
            have hPr:∀ e,e < k→((P.map Nt.cs).getD e []).length=38:=fun e he=>by rw [row nt0 (by omega)]; rfl
            have hQr:∀ e,e < i - k→((Q.map Nt.cs).getD e []).length=38:=fun e he=>by rw [row nt0 (by omega)]; rfl
            rw [← hP,← hQ] at hF
            clear hP hQ
            ((first
 | refine vn rfl ?_
 | simp (disch:=omega) only [wr64,Int.zero_sub]
 | refine bo (fun _=>?_) fun _=>?_
 | refine im fun _=>?_
 | refine cF ?_
 | refine om ?_
 | refine an ?_
 | fail) <;> try simp only [zN, zT, zV, zS, zU, vcC, lateX, ex, strp, binA, elems, cells, scalar, eqC, keyA, intsA, lookA, ofVs, mpOf, Nat.reduceBEq, reduceAdd, reduceSub, reduceLT, reduceLeDiff, reduceMul, reduceEqDiff, reduceIte, hx, hPm, hQm, hPl, hQl, hol, List.length_map, Option.toList, List.append_nil, List.nil_append, List.cons_append])
            ((first
 | refine vn rfl ?_
 | simp (disch:=omega) only [wr64,Int.zero_sub]
 | refine bo (fun _=>?_) fun _=>?_
 | refine im fun _=>?_
 | refine cF ?_
 | refine om ?_
 | refine an ?_
 | fail) <;> try simp only [zN, zT, zV, zS, zU, vcC, lateX, ex, strp, binA, elems, cells, scalar, eqC, keyA, intsA, lookA, ofVs, mpOf, Nat.reduceBEq, reduceAdd, reduceSub, reduceLT, reduceLeDiff, reduceMul, reduceEqDiff, reduceIte, hx, hPm, hQm, hPl, hQl, hol, List.length_map, Option.toList, List.append_nil, List.nil_append, List.cons_append])
            refine ⟨⟨hPr,by omega⟩,?_⟩
            ((first
 | refine vn rfl ?_
 | simp (disch:=omega) only [wr64,Int.zero_sub]
 | refine bo (fun _=>?_) fun _=>?_
 | refine im fun _=>?_
 | refine cF ?_
 | refine om ?_
 | refine an ?_
 | fail) <;> try simp only [zN, zT, zV, zS, zU, vcC, lateX, ex, strp, binA, elems, cells, scalar, eqC, keyA, intsA, lookA, ofVs, mpOf, Nat.reduceBEq, reduceAdd, reduceSub, reduceLT, reduceLeDiff, reduceMul, reduceEqDiff, reduceIte, hx, hPm, hQm, hPl, hQl, hol, List.length_map, Option.toList, List.append_nil, List.nil_append, List.cons_append])
            ((first
 | refine vn rfl ?_
 | simp (disch:=omega) only [wr64,Int.zero_sub]
 | refine bo (fun _=>?_) fun _=>?_
 | refine im fun _=>?_
 | refine cF ?_
 | refine om ?_
 | refine an ?_
 | fail) <;> try simp only [zN, zT, zV, zS, zU, vcC, lateX, ex, strp, binA, elems, cells, scalar, eqC, keyA, intsA, lookA, ofVs, mpOf, Nat.reduceBEq, reduceAdd, reduceSub, reduceLT, reduceLeDiff, reduceMul, reduceEqDiff, reduceIte, hx, hPm, hQm, hPl, hQl, hol, List.length_map, Option.toList, List.append_nil, List.nil_append, List.cons_append])
            ((first
 | refine vn rfl ?_
 | simp (disch:=omega) only [wr64,Int.zero_sub]
 | refine bo (fun _=>?_) fun _=>?_
 | refine im fun _=>?_
 | refine cF ?_
 | refine om ?_
 | refine an ?_
 | fail) <;> try simp only [zN, zT, zV, zS, zU, vcC, lateX, ex, strp, binA, elems, cells, scalar, eqC, keyA, intsA, lookA, ofVs, mpOf, Nat.reduceBEq, reduceAdd, reduceSub, reduceLT, reduceLeDiff, reduceMul, reduceEqDiff, reduceIte, hx, hPm, hQm, hPl, hQl, hol, List.length_map, Option.toList, List.append_nil, List.nil_append, List.cons_append])
            ((first
 | refine vn rfl ?_
 | simp (disch:=omega) only [wr64,Int.zero_sub]
 | refine bo (fun _=>?_) fun _=>?_
 | refine im fun _=>?_
 | refine cF ?_
 | refine om ?_
 | refine an ?_
 | fail) <;> try simp only [zN, zT, zV, zS, zU, vcC, lateX, ex, strp, binA, elems, cells, scalar, eqC, keyA, intsA, lookA, ofVs, mpOf, Nat.reduceBEq, reduceAdd, reduceSub, reduceLT, reduceLeDiff, reduceMul, reduceEqDiff, reduceIte, hx, hPm, hQm, hPl, hQl, hol, List.length_map, Option.toList, List.append_nil, List.nil_append, List.cons_append])
            ((first
 | refine vn rfl ?_
 | simp (disch:=omega) only [wr64,Int.zero_sub]
 | refine bo (fun _=>?_) fun _=>?_
 | refine im fun _=>?_
 | refine cF ?_
 | refine om ?_
 | refine an ?_
 | fail) <;> try simp only [zN, zT, zV, zS, zU, vcC, lateX, ex, strp, binA, elems, cells, scalar, eqC, keyA, intsA, lookA, ofVs, mpOf, Nat.reduceBEq, reduceAdd, reduceSub, reduceLT, reduceLeDiff, reduceMul, reduceEqDiff, reduceIte, hx, hPm, hQm, hPl, hQl, hol, List.length_map, Option.toList, List.append_nil, List.nil_append, List.cons_append])
            refine ⟨⟨hQr,by omega⟩,?_⟩
            refine AWPC.freeze1 (f:=μ.length) (t:=3) (o:=⟨68,38,(P++x::Q).map Nt.cs,none⟩) rfl (by rw [at_app0]; simp [at_cons0]) (by simp; omega) (show (38:Nat)≠0 by decide) ?_
            rw [← hF,← hN]
            generalize gone _ _=ν
            ((refine Au ?_;repeat' first|exact True.intro|refine Cj.mk ?_ ?_)<;>intros<;>refine hD_ ?_)
            all_goals try (exfalso; omega)
            all_goals exact ⟨⟨(i+1,ν),hlt⟩,by simp,rfl,by simp only; omega⟩
    · obtain rfl:i=l.length:=by omega
      rw [List.take_length]
      ((refine Au ?_;repeat' first|exact True.intro|refine Cj.mk ?_ ?_)<;>intros<;>refine hD_ ?_)
      all_goals try (exfalso; omega)
      all_goals exact Frz.eq rfl (by simp)
theorem rStanding_spec (l:List Nt) (hl:l.length < 4294967296) (hn:(l.map Nt.nm).Nodup):Pure Tryz.prog 91 [ntS l] (ntS (standT l)):=by
  refine Pure.of_body Tryz.call91 Tryz.func91 k91 (Nat.le_of_ble_eq_true rfl) ?_
  unfold c91
  rw [← stand_filter hn]
  obtain ⟨q,hq⟩:∃ q:Nt→Bool,q=fun a=>a.kind != 7 && !goneT l a.nm:=⟨_,rfl⟩
  rw [← hq]
  have ho:=rOrdered_spec (l.filter q) (Nat.lt_of_le_of_lt (List.length_filter_le _ _) hl)
  ((refine Au ?_;repeat' first|exact True.intro|refine Cj.mk ?_ ?_)<;>intros<;>refine hD_ ?_)
  refine AWPC.own0 68 38 3 rfl ?_
  refine AWPC.loopE (α:={ x:Nat × List Nt × Sto // x.1≤l.length∧x.2.1=(l.take x.1).filter q }) [3,4] (fun x=>[(3,.own 0 0 x.1.2.1.length),(4,n x.1.1)]) (fun x=>some [⟨68,38,x.1.2.1.map Nt.cs,none⟩]::x.1.2.2) (fun x=>l.length - x.1.1) ⟨(0,[],[]),Nat.zero_le _,by simp⟩ ?_ rfl ?_
  · (simp only [zN,zT,zV,zS,zU,vcC,lateX,ex,strp,binA,elems,cells,scalar,eqC,keyA,intsA,lookA,ofVs,mpOf,Nat.reduceBEq,reduceAdd,reduceSub,reduceLT,reduceLeDiff,reduceMul,reduceEqDiff,reduceIte]; try simp)
  · rintro ⟨⟨i,W,μ⟩,hi,hW⟩
    simp only at hi hW
    have hWl:W.length≤i:=by rw [hW]; exact Nat.le_trans (List.length_filter_le _ _) (by rw [List.length_take]; omega)
    by_cases hlt:i < l.length
    · have ha:=getD_lt nt0 hlt
      have hx:(l.map Nt.cs).getD i []=Nt.cs (l.getD i nt0):=row nt0 hlt
      have hN:(l.take (i+1)).filter q=if q (l.getD i nt0) then W++[l.getD i nt0] else W:=by rw [hW]; exact filter_next ha
      have hc:=rName_spec (l.getD i nt0)
      generalize l.getD i nt0=x at hx hN hc
      have hqx:q x=(!(decide (x.kind=7) || l.any fun y=>decide (y.kind=7) && decide (y.ref=x.nm))):=by
        rw [hq]; simp only [goneT,Bool.not_or,bne,BEq.beq]
      obtain ⟨G,hG0⟩:∃ G:Nat→Bool,G=fun k=>decide (x.kind=7) || (l.take k).any fun y=>decide (y.kind=7) && decide (y.ref=x.nm):=⟨_,rfl⟩
      have hGz:G 0=decide (x.kind=7):=by rw [hG0]; simp
      have hGl:q x=!G l.length:=by rw [hqx,hG0]; simp only [List.take_length]
      ((refine Ax @hx ?_;repeat' first|exact True.intro|refine Cj.mk ?_ ?_)<;>intros<;>refine hD_ ?_)
      all_goals try (exfalso; omega)
      refine AWPC.loopS (α:={ k:Nat // k≤l.length }) [5,6] (fun k=>[(5,bl (G k.1)),(6,n k.1)]) (fun k=>l.length - k.1) ⟨0,Nat.zero_le _⟩ ?_ ?_
      · (simp only [zN,zT,zV,zS,zU,vcC,lateX,ex,strp,binA,elems,cells,scalar,eqC,keyA,intsA,lookA,ofVs,mpOf,Nat.reduceBEq,reduceAdd,reduceSub,reduceLT,reduceLeDiff,reduceMul,reduceEqDiff,reduceIte]; try simp)
        rw [hGz]
      · rintro ⟨k,hk⟩
        try simp only at hk
        by_cases hkl:k < l.length
        · have hy:(l.map Nt.cs).getD k []=Nt.cs (l.getD k nt0):=row nt0 hkl
          have hG:G (k+1)=(G k || (decide ((l.getD k nt0).kind=7) && decide ((l.getD k nt0).ref=x.nm))):=by
            rw [hG0]
            simp only [List.take_add_one,getD_lt nt0 hkl,Option.toList_some,List.any_append,List.any_cons,List.any_nil,Bool.or_false,Bool.or_assoc]
          clear hG0 hGz hGl hqx
          generalize l.getD k nt0=y at hy hG
          have hr:decide (y.ref=x.nm)=(decide (y.ref.clerk=x.clerk) && decide (y.ref.num=x.num)):=by
            obtain ⟨_,_,_,_,_,_,_,_,_,_,_,⟨_,_⟩⟩:=y
            rw [Bool.eq_iff_iff]; simp
          rw [hr] at hG
          clear hr
          generalize hg:G k=g at hG
          cases g with
          | true =>
            rw [Bool.true_or] at hG
            ((refine Az (And.intro @hx (And.intro @hy @hg)) @hc ?_;repeat' first|exact True.intro|refine Cj.mk ?_ ?_)<;>intros<;>refine hD_ ?_)
            all_goals try (exfalso; omega)
            all_goals exact ⟨⟨k+1,hkl⟩,⟨by simp [hG],by simp⟩,by simp only; omega⟩
          | false =>
            by_cases h7:y.kind=7
            · rw [Bool.false_or,decide_eq_true h7,Bool.true_and] at hG
              ((refine Az (And.intro @hx (And.intro @hy (And.intro @h7 @hg))) @hc ?_;repeat' first|exact True.intro|refine Cj.mk ?_ ?_)<;>intros<;>refine hD_ ?_)
              all_goals try (exfalso; omega)
              all_goals exact ⟨⟨k+1,hkl⟩,⟨by simp [hG],by simp⟩,by simp only; omega⟩
            · rw [Bool.false_or,decide_eq_false h7,Bool.false_and] at hG
              ((refine Az (And.intro @hx (And.intro @hy (And.intro @h7 @hg))) @hc ?_;repeat' first|exact True.intro|refine Cj.mk ?_ ?_)<;>intros<;>refine hD_ ?_)
              all_goals try (exfalso; omega)
              all_goals exact ⟨⟨k+1,hkl⟩,⟨by simp [hG],by simp⟩,by simp only; omega⟩
        · obtain rfl:k=l.length:=by omega
          rw [hGl] at hN
          clear hG0 hGz hqx hGl
          generalize hg:G l.length=g at hN
          cases g with
          | true =>
            ((refine Ax (And.intro @hx @hg) ?_;repeat' first|exact True.intro|refine Cj.mk ?_ ?_)<;>intros<;>refine hD_ ?_)
            all_goals try (exfalso; omega)
            exact ⟨⟨(i+1,W,μ),hlt,by rw [hN]; rfl⟩,by simp,by simp,by simp only; omega⟩
          | false =>
            ((refine Ax (And.intro @hx @hg) ?_;repeat' first|exact True.intro|refine Cj.mk ?_ ?_)<;>intros<;>refine hD_ ?_)
            all_goals try (exfalso; omega)
            exact ⟨⟨(i+1,W++[x],μ),hlt,by rw [hN]; rfl⟩,by simp,by simp,by simp only; omega⟩
    · obtain rfl:i=l.length:=by omega
      rw [List.take_length] at hW
      subst hW
      ((first
 | refine vn rfl ?_
 | simp (disch:=omega) only [wr64,Int.zero_sub]
 | refine bo (fun _=>?_) fun _=>?_
 | refine im fun _=>?_
 | refine cF ?_
 | refine om ?_
 | refine an ?_
 | fail) <;> try simp only [zN,zT,zV,zS,zU,vcC,lateX,ex,strp,binA,elems,cells,scalar,eqC,keyA,intsA,lookA,ofVs,mpOf,Nat.reduceBEq,reduceAdd,reduceSub,reduceLT,reduceLeDiff,reduceMul,reduceEqDiff,reduceIte])
      ((first
 | refine vn rfl ?_
 | simp (disch:=omega) only [wr64,Int.zero_sub]
 | refine bo (fun _=>?_) fun _=>?_
 | refine im fun _=>?_
 | refine cF ?_
 | refine om ?_
 | refine an ?_
 | fail) <;> try simp only [zN,zT,zV,zS,zU,vcC,lateX,ex,strp,binA,elems,cells,scalar,eqC,keyA,intsA,lookA,ofVs,mpOf,Nat.reduceBEq,reduceAdd,reduceSub,reduceLT,reduceLeDiff,reduceMul,reduceEqDiff,reduceIte])
      refine AWPC.freeze1 (t:=3) (f:=0) rfl rfl (by simp) (by simp) ?_
      ((refine Ay @ho ?_;repeat' first|exact True.intro|refine Cj.mk ?_ ?_)<;>intros<;>refine hD_ ?_)
      all_goals exact Frz.eq rfl (by simp)
theorem rStands_spec (b:Bse) (hb:bseSz b) (l:List Nt) (hl:setSz l):Pure Tryz.prog 76 [.agg b.cs,ntS l] (.tup [nmS (standsE b l).1,n (standsE b l).2]):=by
  refine Pure.of_body Tryz.call76 Tryz.func76 k76 (Nat.le_of_ble_eq_true rfl) ?_
  unfold c76
  have h1:=rSet_spec b hb l hl
  by_cases ha:askedE b [l]=0
  · have okl:=askedE_one.1 ha
    have hll:=(setE_ok okl).2.1
    have h2:=rStanding_spec l (by omega) (setE_nodup okl)
    have h3:=rNames_spec (standT l) (by have:=standT_len l; omega)
    have hE:standsE b l=((standT l).map Nt.nm,0):=by unfold standsE; rw [if_neg (by omega)]
    rw [hE]
    rw [ha] at h1
    ((refine Ay (And.intro @h1 (And.intro @h2 @h3)) ?_;repeat' first|exact True.intro|refine Cj.mk ?_ ?_)<;>intros<;>refine hD_ ?_)
    all_goals try (exfalso; omega)
    all_goals exact Frz.eq rfl (by simp)
  · have hE:standsE b l=([],askedE b [l]):=by unfold standsE; rw [if_pos ha]
    rw [hE]
    generalize askedE b [l]=e at h1 ha
    ((refine Ay @h1 ?_;repeat' first|exact True.intro|refine Cj.mk ?_ ?_)<;>intros<;>refine hD_ ?_)
    all_goals try (exfalso; omega)
    all_goals exact Frz.tupL ⟨Frz.nil0,Frz.pure (by simp),trivial⟩
def c135:CF:=⟨10,(jo [jx 2 68 38 0,jx 3 68 38 1,jb 4 false] [2,3]
 (.seq (.draw [jk 5 38 2,jy 6 89 [5],jk 7 38 3,jy 8 89 [7],jw 9 (.eqs false [some .i64,some .i64] (.t 6) (.t 8)),jm 4 9] [] [4])
 .ret)),[.t 4]⟩
theorem k135:chkF Tryz.prog Tryz.f135 c135=true:=by kernel_rfl
def c134:CF:=⟨66,(jo [jn 4] [0,1]
 (.seq (jo [jm 8 0,je 9 8,ju .lss 10 9 2] [0,1,10]
 (.cond (.t 10) (jo [jm 11 0,jm 4 11] [4]
 .ret)
 .skip))
 (.seq (jo [jc 5 1] [0,1,5]
 (.block 0 (.loop (.seq (jo [jm 12 5,jm 13 0,je 14 13,jt .lss 15 12 14] [0,1,5,15]
 (.cond (.t 15) .skip
 (.exit 0)))
 (.seq (.block 1 (.seq (.draw [jm 18 1,jm 19 0,jm 20 5,ji 21 38 19 20,jk 22 38 21,jm 23 0,jm 24 5,ju .sub 25 24 1,ji 26 38 23 25,jk 27 38 26] [jw 28 (.call (.t 18) [(.t 22),(.t 27)])] [0,1,5,28])
 (.cond (.t 28) (jo [jm 29 0,jm 30 5,jw 31 (.subs 38 (.t 29) (.t 30)),jm 6 31] [0,1,5,6]
 (.seq (jo [jc 7 1] [0,1,5,6,7]
 (.block 2 (.loop (.seq (jo [jm 32 7,jm 33 6,je 34 33,jt .lss 35 32 34] [0,1,5,6,7,35]
 (.cond (.t 35) .skip
 (.exit 2)))
 (.seq (.block 3 (.seq (.draw [jm 38 1,jm 39 6,jm 40 7,ji 41 38 39 40,jk 42 38 41,jm 43 6,jm 44 7,ju .sub 45 44 1,ji 46 38 43 45,jk 47 38 46] [jw 48 (.call (.t 38) [(.t 42),(.t 47)]),jv 49 48] [0,1,5,6,7,49])
 (.cond (.t 49) (jo [jm 50 0,jm 51 5,jm 52 6,jm 53 7,ji 54 38 52 53,jk 55 38 54,ji 56 38 50 51,js 38 56 55] [0,1,5,6,7]
 (.ops [jm 57 5,ju .add 58 57 1,jm 5 58] [0,1,5,6,7]))
 .skip)))
 (.ops [jm 36 7,ju .add 37 36 1,jm 7 37] [0,1,5,6,7]))))))
 (jo [jm 59 0,jm 60 5,jw 61 (.subs 38 (.t 59) (.t 60)),⟨none,.clr 68 38 z38 (.t 61),none⟩] [0,5]
 (jo [jm 62 0,jm 63 5,jw 64 (.slice 38 (.t 62) none (some (.t 63))),jm 4 64] [4]
 .ret))))
 .skip)))
 (.ops [jm 16 5,ju .add 17 16 1,jm 5 17] [0,1,5]))))))
 (jo [jm 65 0,jm 4 65] [4]
 .ret)))),[.t 4]⟩
theorem k134:chkF Tryz.prog Tryz.f134 c134=true:=by kernel_rfl
theorem merge2_spec (a b:Nt):Pure Tryz.prog 135 [.agg a.cs,.agg b.cs] (bl (decide (a.nm=b.nm))):=by
  refine Pure.of_body Tryz.call135 Tryz.func135 k135 (Nat.le_of_ble_eq_true rfl) ?_
  unfold c135
  ((refine Ay (And.intro (name_spec a) (name_spec b)) ?_;repeat' first|exact True.intro|refine Cj.mk ?_ ?_)<;>intros<;>refine hD_ ?_)
  refine Frz.eq (congrArg bl ?_) (by simp)
  rw [Bool.eq_iff_iff]
  simp [Nt.nm]
theorem compN1_snoc (x:Nt):∀ (r:List Nt) (a:Nt),compN1 a (r++[x])=if ((r.getLast?).getD a).nm=x.nm then compN1 a r else compN1 a r++[x]
  | [],a=>by
    show compN1 a [x]=if a.nm=x.nm then compN1 a [] else compN1 a []++[x]
    simp only [compN1]
    by_cases h:a.nm=x.nm
    · rw [if_pos h,if_pos h]
    · rw [if_neg h,if_neg h]; rfl
  | b::r,a=>by
    have h:=compN1_snoc x r
    have e:((b::r).getLast?).getD a=(r.getLast?).getD b:=by
      cases r with
      | nil=>rfl
      | cons c s=>simp [List.getLast?_cons]
    rw [e]
    simp only [List.cons_append,compN1]
    by_cases hab:a.nm=b.nm
    · have e2:((r.getLast?).getD a).nm=((r.getLast?).getD b).nm:=by cases r.getLast? <;> simp [hab]
      rw [if_pos hab,if_pos hab,h,e2]
    · rw [if_neg hab,if_neg hab,h]
      split <;> rfl
theorem compN_next {l:List Nt} {j:Nat} (h0:0 < j) (hj:j < l.length):compN (l.take (j+1))=if (l.getD (j - 1) nt0).nm=(l.getD j nt0).nm then compN (l.take j) else compN (l.take j)++[l.getD j nt0]:=by
  cases l with
  | nil=>simp at hj
  | cons a r =>
    obtain ⟨i,rfl⟩:∃ i,j=i+1:=⟨j - 1,by omega⟩
    have hir:i < r.length:=by simpa using hj
    have e1:r.take (i+1)=r.take i++[r.getD i nt0]:=by rw [List.take_add_one,getD_lt nt0 hir]; rfl
    have e2:((r.take i).getLast?).getD a=(a::r).getD i nt0:=by
      cases i with
      | zero=>rfl
      | succ i =>
        rw [List.take_add_one,getD_lt nt0 (show i < r.length by omega)]
        simp
    rw [List.take_succ_cons,List.take_succ_cons]
    simp only [compN]
    rw [e1,compN1_snoc,e2]
    rfl
structure CmpN (l R:List Nt) (k j:Nat):Prop where
  len:R.length=l.length
  pos:0 < k
  lt:k < j
  le:j≤l.length
  tk:R.take k=compN (l.take j)
  dr:R.drop (j - 1)=l.drop (j - 1)
theorem CmpN.get {l R:List Nt} {k j:Nat} (h:CmpN l R k j) (i:Nat) (hi:j - 1≤i):R.getD i nt0=l.getD i nt0:=by
  have h1:(R.drop (j - 1))[i - (j - 1)]?=(l.drop (j - 1))[i - (j - 1)]?:=by rw [h.dr]
  rw [List.getElem?_drop,List.getElem?_drop,show j - 1+(i - (j - 1))=i by omega] at h1
  rw [List.getD_eq_getElem?_getD,List.getD_eq_getElem?_getD,h1]
theorem CmpN.drop1 {l R:List Nt} {k j:Nat} (h:CmpN l R k j):R.drop j=l.drop j:=by
  have h1:(R.drop (j - 1)).drop 1=(l.drop (j - 1)).drop 1:=by rw [h.dr]
  have:=h.lt
  rw [List.drop_drop,List.drop_drop,show j - 1+1=j by omega] at h1
  exact h1
theorem CmpN.skip {l R:List Nt} {k j:Nat} (h:CmpN l R k j) (hj:j < l.length) (e:(l.getD (j - 1) nt0).nm=(l.getD j nt0).nm):CmpN l R k (j+1) :=
  ⟨h.len,h.pos,by have:=h.lt; omega,hj,by rw [h.tk,compN_next (by have:=h.lt; omega) hj,if_pos e],by simpa using h.drop1⟩
theorem CmpN.keep {l R:List Nt} {k j:Nat} (h:CmpN l R k j) (hj:j < l.length) (e:¬ (l.getD (j - 1) nt0).nm=(l.getD j nt0).nm):CmpN l (R.set k (l.getD j nt0)) (k+1) (j+1):=by
  have hlt:=h.lt
  have hlen:=h.len
  refine ⟨by rw [List.length_set]; exact h.len,by omega,by omega,hj,?_,?_⟩
  · rw [List.take_add_one,List.getElem?_set_self (by omega),List.take_set_of_le (Nat.le_refl _),h.tk,compN_next (by omega) hj,if_neg e]; rfl
  · rw [Nat.add_sub_cancel,List.drop_set_of_lt (by omega)]; exact h.drop1
theorem CmpN.init {l:List Nt} {k:Nat} (hk:0 < k) (hl:k < l.length) (h:compN (l.take k)=l.take k) (e:(l.getD (k - 1) nt0).nm=(l.getD k nt0).nm):CmpN l l k (k+1) :=
  ⟨rfl,hk,by omega,hl,by rw [compN_next hk hl,if_pos e,h],rfl⟩
theorem compN_does (σ:Sto) (f:Nat) (l:List Nt) (hl:l.length < 9223372036854775808) (hf:σ.at f 0=some ⟨68,38,l.map Nt.cs,none⟩) :
    Does Tryz.prog 134 [.own f 0 l.length,.fn (.func 135) [] []] σ (Left σ f (ntS (compN l))):=by
  refine Does.of_body Tryz.call134 Tryz.func134 k134 (Nat.le_of_ble_eq_true rfl) ?_
  unfold c134
  by_cases h2:l.length < 2
  · have he:compN l=l:=by
      cases l with
      | nil=>rfl
      | cons a r=>cases r with
        | nil=>rfl
        | cons x r=>simp only [List.length_cons] at h2; omega
    rw [he]
    refine AWPC.freeze1 (t:=0) (f:=f) (n:=l.length) (o:=⟨68,38,l.map Nt.cs,none⟩) rfl hf (by simp) (by simp) ?_
    ((refine Au ?_;repeat' first|exact True.intro|refine Cj.mk ?_ ?_)<;>intros<;>refine hD_ ?_)
    all_goals try (exfalso; omega)
    exact .mk [] rfl (by simp)
  · ((refine Ax @hf ?_;repeat' first|exact True.intro|refine Cj.mk ?_ ?_)<;>intros<;>refine hD_ ?_)
    all_goals try (exfalso; omega)
    refine AWPC.loopS (α:={ k:Nat // 0 < k∧k≤l.length∧compN (l.take k)=l.take k }) [5] (fun k=>[(5,n k.1)]) (fun k=>l.length - k.1) ⟨1,by omega,by omega,by cases l with | nil=>rfl | cons a r=>rfl⟩ ?_ ?_
    · (simp only [zN,zT,zV,zS,zU,vcC,lateX,ex,strp,binA,elems,cells,scalar,eqC,keyA,intsA,lookA,ofVs,mpOf,Nat.reduceBEq,reduceAdd,reduceSub,reduceLT,reduceLeDiff,reduceMul,reduceEqDiff,reduceIte]; try simp)
    · rintro ⟨k,hk0,hkl,hc⟩
      simp only at hk0 hkl hc ⊢
      by_cases hlt:k < l.length
      · have hs1:(l.map Nt.cs).getD k []=Nt.cs (l.getD k nt0):=row nt0 hlt
        have hs0:(l.map Nt.cs).getD ((k:Int) - 1).toNat []=Nt.cs (l.getD (k - 1) nt0):=rowPrev nt0 hlt
        have hq:=merge2_spec (l.getD k nt0) (l.getD (k - 1) nt0)
        by_cases e:(l.getD (k - 1) nt0).nm=(l.getD k nt0).nm
        · have hI:=CmpN.init hk0 hlt hc e
          rw [decide_eq_true e.symm] at hq
          generalize hga:l.getD k nt0=a at hs1 hq
          generalize hgb:l.getD (k - 1) nt0=a0 at hs0 hq
          ((refine Az (And.intro @hf (And.intro @hs1 @hs0)) @hq ?_;repeat' first|exact True.intro|refine Cj.mk ?_ ?_)<;>intros<;>refine hD_ ?_)
          all_goals try (exfalso; omega)
          refine AWPC.loopE (α:={ x:Nat × Nat × List Nt × Sto // 0 < x.2.1∧CmpN l x.2.2.1 x.1 (k+x.2.1) }) [5,7] (fun x=>[(5,n x.1.1),(7,n x.1.2.1)])
            (fun x=>σ.upd f 0 ⟨68,38,x.1.2.2.1.map Nt.cs,none⟩++x.1.2.2.2) (fun x=>l.length - k - x.1.2.1) ⟨(k,1,l,[]),Nat.one_pos,hI⟩ ?_ (by rw [upd_self hf,List.append_nil]) ?_
          · (simp only [zN,zT,zV,zS,zU,vcC,lateX,ex,strp,binA,elems,cells,scalar,eqC,keyA,intsA,lookA,ofVs,mpOf,Nat.reduceBEq,reduceAdd,reduceSub,reduceLT,reduceLeDiff,reduceMul,reduceEqDiff,reduceIte]; try simp)
          · rintro ⟨⟨i,j,R,μ⟩,hj0,hD⟩
            simp only at hj0 hD
            obtain ⟨U,hU⟩:∃ U,U=σ.upd f 0 ⟨68,38,R.map Nt.cs,none⟩:=⟨_,rfl⟩
            have hflt:=at_lt hf
            have hUl:List.length U=List.length σ:=by rw [hU,upd_length]
            have hA:∀ μ,Sto.at (U++μ) f 0=some ⟨68,38,R.map Nt.cs,none⟩:=fun μ=>by rw [at_appL (by omega),hU,at_upd_same hf]
            have hB:∀ o μ,Sto.upd (U++μ) f 0 o=σ.upd f 0 o++μ:=fun o μ=>by rw [upd_appL (by omega),hU,upd_upd hf]
            simp only [← hU]
            have hRl:=hD.len
            have hi1:=hD.lt
            by_cases hlt:k+j < l.length
            · have hr1:(R.map Nt.cs).getD (k+j) []=Nt.cs (R.getD (k+j) nt0):=row nt0 (by omega)
              have hr0:(R.map Nt.cs).getD (k+((j:Int) - 1).toNat) []=Nt.cs (R.getD (k+j - 1) nt0):=by
                rw [show k+((j:Int) - 1).toNat=k+j - 1 by omega]
                exact row nt0 (by omega)
              rw [hD.get _ (by omega)] at hr1 hr0
              have hw:IntKind.i64.wrap ((j:Int) - 1)=(j:Int) - 1:=by simp (disch:=omega) only [wr64,Int.zero_sub]
              have hsi:(R.map Nt.cs).getD i []=Nt.cs (R.getD i nt0):=row nt0 (by omega)
              have hset:(R.map Nt.cs).set i (Nt.cs (l.getD (k+j) nt0))=(R.set i (l.getD (k+j) nt0)).map Nt.cs:=by rw [List.map_set]
              have hq2:=merge2_spec (l.getD (k+j) nt0) (l.getD (k+j - 1) nt0)
              by_cases e:(l.getD (k+j - 1) nt0).nm=(l.getD (k+j) nt0).nm
              · have hN:=hD.skip hlt e
                rw [decide_eq_true e.symm] at hq2
                generalize l.getD (k+j) nt0=x at hr1 hq2
                generalize l.getD (k+j - 1) nt0=y at hr0 hq2
                ((refine Az (And.intro @hA (And.intro @hB (And.intro @hw (And.intro @hr1 (And.intro @hr0 @hRl))))) @hq2 ?_;repeat' first|exact True.intro|refine Cj.mk ?_ ?_)<;>intros<;>refine hD_ ?_)
                all_goals try (exfalso; omega)
                exact ⟨⟨(i,j+1,R,μ),by simp,hN⟩,by simp,by simp [hU],by simp only; omega⟩
              · have hN:=hD.keep hlt e
                rw [decide_eq_false (fun h=>e h.symm)] at hq2
                generalize l.getD (k+j) nt0=x at hr1 hq2 hset hN
                generalize l.getD (k+j - 1) nt0=y at hr0 hq2
                ((refine Az (And.intro @hA (And.intro @hB (And.intro @hw (And.intro @hr1 (And.intro @hr0 (And.intro @hRl (And.intro @hsi @hset))))))) @hq2 ?_;repeat' first|exact True.intro|refine Cj.mk ?_ ?_)<;>intros<;>refine hD_ ?_)
                all_goals try (exfalso; omega)
                exact ⟨⟨(i+1,j+1,R.set i x,μ),by simp,hN⟩,by simp,by simp,by simp only; omega⟩
            · have hjl:k+j=l.length:=by have:=hD.le; omega
              have hnl:¬ ((j:Int) < (l.length:Int) - (k:Int)):=by omega
              ((first
 | refine vn rfl ?_
 | simp (disch:=omega) only [wr64,Int.zero_sub]
 | refine bo (fun _=>?_) fun _=>?_
 | refine im fun _=>?_
 | refine cF ?_
 | refine om ?_
 | refine an ?_
 | fail) <;> try simp only [zN, zT, zV, zS, zU, vcC, lateX, ex, strp, binA, elems, cells, scalar, eqC, keyA, intsA, lookA, ofVs, mpOf, Nat.reduceBEq, reduceAdd, reduceSub, reduceLT, reduceLeDiff, reduceMul, reduceEqDiff, reduceIte, hA, hRl, hnl, List.length_map])
              ((first
 | refine vn rfl ?_
 | simp (disch:=omega) only [wr64,Int.zero_sub]
 | refine bo (fun _=>?_) fun _=>?_
 | refine im fun _=>?_
 | refine cF ?_
 | refine om ?_
 | refine an ?_
 | fail) <;> try simp only [zN, zT, zV, zS, zU, vcC, lateX, ex, strp, binA, elems, cells, scalar, eqC, keyA, intsA, lookA, ofVs, mpOf, Nat.reduceBEq, reduceAdd, reduceSub, reduceLT, reduceLeDiff, reduceMul, reduceEqDiff, reduceIte, hA, hRl, hnl, List.length_map])
              ((first
 | refine vn rfl ?_
 | simp (disch:=omega) only [wr64,Int.zero_sub]
 | refine bo (fun _=>?_) fun _=>?_
 | refine im fun _=>?_
 | refine cF ?_
 | refine om ?_
 | refine an ?_
 | fail) <;> try simp only [zN, zT, zV, zS, zU, vcC, lateX, ex, strp, binA, elems, cells, scalar, eqC, keyA, intsA, lookA, ofVs, mpOf, Nat.reduceBEq, reduceAdd, reduceSub, reduceLT, reduceLeDiff, reduceMul, reduceEqDiff, reduceIte, hA, hRl, hnl, List.length_map])
              ((first
 | refine vn rfl ?_
 | simp (disch:=omega) only [wr64,Int.zero_sub]
 | refine bo (fun _=>?_) fun _=>?_
 | refine im fun _=>?_
 | refine cF ?_
 | refine om ?_
 | refine an ?_
 | fail) <;> try simp only [zN, zT, zV, zS, zU, vcC, lateX, ex, strp, binA, elems, cells, scalar, eqC, keyA, intsA, lookA, ofVs, mpOf, Nat.reduceBEq, reduceAdd, reduceSub, reduceLT, reduceLeDiff, reduceMul, reduceEqDiff, reduceIte, hA, hRl, hnl, List.length_map])
              ((first
 | refine vn rfl ?_
 | simp (disch:=omega) only [wr64,Int.zero_sub]
 | refine bo (fun _=>?_) fun _=>?_
 | refine im fun _=>?_
 | refine cF ?_
 | refine om ?_
 | refine an ?_
 | fail) <;> try simp only [zN, zT, zV, zS, zU, vcC, lateX, ex, strp, binA, elems, cells, scalar, eqC, keyA, intsA, lookA, ofVs, mpOf, Nat.reduceBEq, reduceAdd, reduceSub, reduceLT, reduceLeDiff, reduceMul, reduceEqDiff, reduceIte, hA, hB, hRl, List.length_map])
              have hm1:(List.take i (R.map Nt.cs)).length=i:=by rw [List.length_take,List.length_map]; omega
              have hfin:R.take i=compN l:=by rw [hD.tk,hjl,List.take_length]
              refine AWPC.freeze1 (t:=0) (f:=f) (n:=l.length) (o:=⟨68,38,List.take i (R.map Nt.cs)++List.replicate (l.length - i) (vs z38),none⟩) rfl (by rw [at_appL (by rw [upd_length]; omega),at_upd_same hf])
                (by simp only [List.length_append,hm1,List.length_replicate]; omega) (by simp) ?_
              have hlen2:((List.take i (R.map Nt.cs)++List.replicate (l.length - i) (vs z38)).length:Int)=l.length:=by simp only [List.length_append,hm1,List.length_replicate]; omega
              have htk2:List.take i (List.take i (R.map Nt.cs)++List.replicate (l.length - i) (vs z38))=(compN l).map Nt.cs:=by
                rw [List.take_append_of_le_length (by omega),List.take_take,Nat.min_self,← List.map_take,hfin]
              generalize List.take i (R.map Nt.cs)++List.replicate (l.length - i) (vs z38)=es at hlen2 htk2
              ((refine Ax (And.intro @hlen2 @htk2) ?_;repeat' first|exact True.intro|refine Cj.mk ?_ ?_)<;>intros<;>refine hD_ ?_)
              refine ⟨by simp [sideL,ov,gt,cnd],⟨by omega,by omega,by omega⟩,?_⟩
              ((refine Au ?_;repeat' first|exact True.intro|refine Cj.mk ?_ ?_)<;>intros<;>refine hD_ ?_)
              exact .mk μ rfl (gone_upd hf)
        · have hN:compN (l.take (k+1))=l.take (k+1):=by rw [compN_next hk0 hlt,if_neg e,hc,List.take_add_one,getD_lt nt0 hlt]; rfl
          rw [decide_eq_false (fun h=>e h.symm)] at hq
          generalize hga:l.getD k nt0=a at hs1 hq
          generalize hgb:l.getD (k - 1) nt0=a0 at hs0 hq
          ((refine Az (And.intro @hf (And.intro @hs1 @hs0)) @hq ?_;repeat' first|exact True.intro|refine Cj.mk ?_ ?_)<;>intros<;>refine hD_ ?_)
          all_goals try (exfalso; omega)
          exact ⟨⟨k+1,by omega,hlt,hN⟩,by simp,by simp only; omega⟩
      · obtain rfl:k=l.length:=by omega
        rw [List.take_length] at hc
        rw [hc]
        refine AWPC.freeze1 (t:=0) (f:=f) (n:=l.length) (o:=⟨68,38,l.map Nt.cs,none⟩) rfl hf (by simp) (by simp) ?_
        ((refine Au ?_;repeat' first|exact True.intro|refine Cj.mk ?_ ?_)<;>intros<;>refine hD_ ?_)
        all_goals try (exfalso; omega)
        exact .mk [] rfl (by simp)
end Go.Proofs.YtolgelipcgcbhaaGreat
namespace Go.Abs
open Go.Shelf Go.RowKit Go.Lib Go.Proofs
set_option linter.unusedVariables false
set_option linter.unusedSimpArgs false
theorem grow_any {P:Program} {ρ:Ren} (L:Lays8.n4 P ρ) {T k B:Nat} (hT:ρ.t 25=T) (hsz:szF P T=some k) {zs:List Value} (hzr:zrF P T=some zs) (hzl:zs.length=k) (hk:0 < k) (hby:(P.info? T).map (·.bytes)=some B)
    (ef:∀ args w,(callFunc (ρ.f 4) args).run P w=.ok (.enter (ρ.f 4) args) w) (σ:Sto) (z:Int) (h0:0≤z) (h1:z * B≤140737488355328) (hB:0 < B) :
    Does P (ρ.f 4) [.v (.slice none 0 0),n z] σ (fun r σ'=>r=.own σ.length 0 0∧σ'=σ++[some [⟨T,k,[],none⟩]]):=by
  subst hT
  have hzB:z≤z * B:=by
    have:z * 1≤z * B:=Int.mul_le_mul_of_nonneg_left (by omega) h0
    omega
  refine ⟨ef,fun X β w xs hX hsr hlen hr=>?_⟩
  match xs,hlen with
  | [x,y],_ =>
    have hx:=(hr 0 (by simp)).inv_v
    have hy:=(hr 1 (by simp)).inv_v
    simp only [List.getD_cons_zero,List.getD_cons_succ] at hx hy
    subst hx; subst hy
    by_cases hz:z=0
    · subst hz
      refine callsIn_wide.2 ((Any8.slices_Grow_room L none 0 0 0 w (Nat.le_refl _) (by decide) (by decide) (Nat.le_refl _)).mono ?_)
      rintro e w' ⟨rfl,rfl⟩
      exact ⟨_,_,_,_,rfl,⟨rfl,rfl⟩,hsr.own0 hX,RV.own0 rfl,Ext.push (Nat.le_refl _) (fun _ _=>rfl) (fun b hb=>by cases hb),Kp.own0 hsr⟩
    · obtain ⟨i0,hi0,hs2⟩:=sz_parts hsz
      rw [hi0] at hby
      simp only [Option.map_some,Option.some.injEq] at hby
      unfold zrF at hzr
      rw [hi0] at hzr
      simp only [Option.bind_some,Option.map_eq_some_iff] at hzr
      obtain ⟨z0,hz0,hzc⟩:=hzr
      have hzn:(z.toNat:Int)=z:=by omega
      have hbig:(0+z.toNat) * i0.bytes≤140737488355328:=by
        rw [hby,Nat.zero_add]
        have:((z.toNat * B:Nat):Int)≤140737488355328:=by rw [Int.natCast_mul,hzn]; exact h1
        omega
      have hg:=Any8.slices_Grow_grow L i0 z0 hi0 hz0 (by omega) none 0 0 z.toNat [] w (Nat.le_refl _) (by omega) hbig (by omega) (by simp) (fun _=>rfl) (fun a h=>by cases h)
      have hge:=grownCap_ge w (0+z.toNat) 0 (ρ.t 25)
      refine callsIn_wide.2 ?_
      change Calls P (ρ.f 4) #[.slice none 0 0,.int .i64 z] w _
      rw [hzn] at hg
      refine Calls.mono hg ?_
      rintro e w' ⟨rfl,rfl⟩
      change grownCap w (0+z.toNat) 0 (ρ.t 25)≥_ at hge
      have hzs:z0.cells.size=k:=by rw [← Array.length_toList,hzc]; exact hzl
      have hsz:w.heap.size≤(w.drew.alloc (.cells ((#[]:Array Value)++Builtin.zeroCells z0.cells (0+z.toNat - 0)++Builtin.zeroCells z0.cells (grownCap w (0+z.toNat) 0 (ρ.t 25) - (0+z.toNat))) (ρ.t 25))).heap.size:=by rw [alc_size]; exact Nat.le_succ _
      have hold:∀ b,b < w.heap.size→(w.drew.alloc (.cells ((#[]:Array Value)++Builtin.zeroCells z0.cells (0+z.toNat - 0)++Builtin.zeroCells z0.cells (grownCap w (0+z.toNat) 0 (ρ.t 25) - (0+z.toNat))) (ρ.t 25))).heap[b]?=w.heap[b]?:=fun b hb=>alc_old w.drew _ hb
      have hnew:(w.drew.alloc (.cells ((#[]:Array Value)++Builtin.zeroCells z0.cells (0+z.toNat - 0)++Builtin.zeroCells z0.cells (grownCap w (0+z.toNat) 0 (ρ.t 25) - (0+z.toNat))) (ρ.t 25))).heap[w.heap.size]?=some (.cells ((#[]:Array Value)++Builtin.zeroCells z0.cells (0+z.toNat - 0)++Builtin.zeroCells z0.cells (grownCap w (0+z.toNat) 0 (ρ.t 25) - (0+z.toNat))) (ρ.t 25)):=alc_new w.drew _
      have hcsz:((#[]:Array Value)++Builtin.zeroCells z0.cells (0+z.toNat - 0)++Builtin.zeroCells z0.cells (grownCap w (0+z.toNat) 0 (ρ.t 25) - (0+z.toNat))).size=grownCap w (0+z.toNat) 0 (ρ.t 25) * k:=by
        simp only [Array.size_append,zeroCells_size,hzs]
        simp only [List.size_toArray,List.length_nil]
        rw [Nat.zero_add,← Nat.add_mul]
        congr 1; omega
      have hbo:∀ b,some w.heap.size=some b→b=w.heap.size:=fun b hb=>by injection hb with hb; exact hb.symm
      have K:=Kp.push (o:=⟨ρ.t 25,k,[],none⟩) (bo:=some w.heap.size) hsr hsz hold hbo
      have S:=hsr.push (o:=⟨ρ.t 25,k,[],none⟩) (bo:=some w.heap.size) hX hsz hold hbo ⟨fun e he=>absurd he (Nat.not_lt_zero _),fun _=>⟨_,hnew,by simp,fun e j he=>absurd he (Nat.not_lt_zero _),fun e j he=>absurd he (Nat.not_lt_zero _)⟩,fun r hr=>by cases hr⟩
      refine ⟨_,_,_,_,rfl,⟨rfl,rfl⟩,S,?_,Ext.push hsz hold hbo ⟨rfl,rfl,rfl,Nat.le_succ _⟩,K⟩
      refine .own _ _ _ _ rfl (by simp) (fun o _=>Nat.zero_le _) fun o ho _=>?_
      rw [at_push_new] at ho; simp at ho; subst ho
      unfold OwnSl; rw [addB_new]
      exact ⟨_,_,_,rfl,hnew,hcsz⟩
end Go.Abs
namespace Go.Proofs.YtolgelipcgcbhaaGreat
open Go.Shelf
def Tryz.growN_ren:Go.Shelf.Ren:=⟨fun | 4=>189 | n=>n,fun | 22=>27 | 25=>68 | 3=>3 | 4=>4 | 9=>9 | 20=>20 | 0=>0 | n=>n,fun | n=>n⟩
theorem Tryz.growN:Go.Proofs.Lays8.n4 Tryz.prog Tryz.growN_ren:={
  mixed:=by kernel_rfl
  f4:=⟨Tryz.f189.name,by decide,Tryz.func189.trans (congrArg some (by kernel_rfl))⟩
  t0:=Tryz.underlying0
  a0:=Tryz.isAgg0
  z0:=Tryz.sizeOf0
  v0:=Tryz.zeroValue0
  t3:=Tryz.underlying3
  a3:=Tryz.isAgg3
  z3:=Tryz.sizeOf3
  v3:=Tryz.zeroValue3
  t4:=Tryz.underlying4
  a4:=Tryz.isAgg4
  z4:=Tryz.sizeOf4
  v4:=Tryz.zeroValue4
  t9:=Tryz.underlying9
  a9:=Tryz.isAgg9
  z9:=Tryz.sizeOf9
  v9:=Tryz.zeroValue9
  t20:=Tryz.underlying20
  a20:=Tryz.isAgg20
  z20:=Tryz.sizeOf20
  v20:=Tryz.zeroValue20
  t22:=Tryz.underlying27
  a22:=Tryz.isAgg27
  z22:=Tryz.sizeOf27
  v22:=Tryz.zeroValue27 }
end Go.Proofs.YtolgelipcgcbhaaGreat
namespace Go.Proofs.YtolgelipcgcbhaaGreat
open Go.Abs
open Nat (reduceAdd reduceSub reduceLT reduceLeDiff reduceMul reduceEqDiff)
set_option linter.unusedVariables false
set_option linter.unusedSimpArgs false
set_option maxHeartbeats 4000000
set_option maxRecDepth 100000
def c131:CF:=⟨36,(jo [jn 2] [0]
 (jo [jc 3 0] [0,3]
 (.seq (jo [jm 9 0,je 10 9,jc 11 0] [0,3,9,10,11]
 (.block 0 (.loop (jo [jt .lss 12 11 10] [0,3,9,10,11,12]
 (.seq (.cond (.t 12) .skip
 (.exit 0))
 (.seq (.block 1 (jo [ji 13 1 9 11,jl 14 13,jm 5 14] [0,3,5,9,10,11]
 (jo [jm 15 3,jm 16 5,je 17 16,jt .add 18 15 17,jm 3 18] [0,3,9,10,11]
 (jo [jm 19 3,ju .lss 20 19 0] [0,3,9,10,11,20]
 (.cond (.t 20) (.ops [jw 21 (.ifc 9 (.c (.string ⟨#[108,101,110,32,111,117,116,32,111,102,32,114,97,110,103,101]⟩))),⟨none,.bad,none⟩] [0,3,9,10,11])
 .skip)))))
 (.ops [ju .add 22 11 1,jm 11 22] [0,3,9,10,11])))))))
 (jo [jm 23 3,jw 24 (.call (.f 189) [(.c (.slice none 0 0)),(.t 23)]),jm 6 24] [0,6]
 (.seq (jo [jm 25 0,je 26 25,jc 27 0] [6,25,26,27]
 (.block 2 (.loop (jo [jt .lss 28 27 26] [6,25,26,27,28]
 (.seq (.cond (.t 28) .skip
 (.exit 2))
 (.seq (.block 3 (jo [ji 29 1 25 27,jl 30 29,jm 8 30] [6,8,25,26,27]
 (.ops [jm 31 6,jm 32 8,jw 33 (.app 68 38 368 (.t 31) (.t 32)),jm 6 33] [6,25,26,27])))
 (.ops [ju .add 34 27 1,jm 27 34] [6,25,26,27])))))))
 (jo [jm 35 6,jm 2 35] [2]
 .ret)))))),[.t 2]⟩
theorem k131:chkF Tryz.prog Tryz.f131 c131=true:=by kernel_rfl
theorem growN_does (σ:Sto) (z:Int) (h0:0≤z) (h1:z * 368≤140737488355328):Does Tryz.prog 189 [.v (.slice none 0 0),n z] σ (fun r σ'=>r=.own σ.length 0 0∧σ'=σ++[some [⟨68,38,[],none⟩]]) :=
  grow_any Tryz.growN (T:=68) (k:=38) (B:=368) rfl (by kernel_rfl) (zs:=z38) (by kernel_rfl) rfl (by decide) (by kernel_rfl) Tryz.call189 σ z h0 h1 (by decide)
theorem ntRows (l:List Nt):∀ e,e < l.length→((l.map Nt.cs).getD e []).length=38:=rowsL (cs:=Nt.cs) (k:=38) (fun a=>rfl) l
theorem flat_next {α:Type} {rows:List (List α)} {i:Nat} {r:List α} (h:rows[i]?=some r):(rows.take (i+1)).flatten=(rows.take i).flatten++r:=by
  rw [List.take_add_one,h]; simp
theorem flat_le {α:Type} (rows:List (List α)) (i:Nat):(rows.take i).flatten.length≤rows.flatten.length:=by
  have:rows.flatten=(rows.take i).flatten++(rows.drop i).flatten:=by rw [← List.flatten_append,List.take_append_drop]
  rw [this,List.length_append]; omega
theorem concatN_does (σ:Sto) (rows:List (List Nt)) (hlen:rows.length < 9223372036854775808) (htot:(rows.flatten.length:Int) * 368≤140737488355328) :
    Does Tryz.prog 131 [.sl 1 (rows.map fun r=>[ntS r])] σ (fun r σ'=>r=.own σ.length 0 rows.flatten.length∧σ'=σ++[some [⟨68,38,rows.flatten.map Nt.cs,none⟩]]):=by
  refine Does.of_body Tryz.call131 Tryz.func131 k131 (Nat.le_of_ble_eq_true rfl) ?_
  unfold c131
  ((refine Au ?_;repeat' first|exact True.intro|refine Cj.mk ?_ ?_)<;>intros<;>refine hD_ ?_)
  refine AWPC.loopS (α:={ i:Nat // i≤rows.length }) [3,11] (fun i=>[(3,n ((rows.take i.1).flatten.length)),(11,n i.1)]) (fun i=>rows.length - i.1) ⟨0,Nat.zero_le _⟩ ?_ ?_
  · (simp only [zN,zT,zV,zS,zU,vcC,lateX,ex,strp,binA,elems,cells,scalar,eqC,keyA,intsA,lookA,ofVs,mpOf,Nat.reduceBEq,reduceAdd,reduceSub,reduceLT,reduceLeDiff,reduceMul,reduceEqDiff,reduceIte]; try simp)
  · rintro ⟨i,hi⟩
    have hfl:=flat_le rows i
    by_cases hlt:i < rows.length
    · obtain ⟨r,hr⟩:∃ r,rows[i]?=some r:=⟨_,List.getElem?_eq_getElem hlt⟩
      have ft:=flat_next hr
      have hfl1:=flat_le rows (i+1)
      have hl2:(rows.take (i+1)).flatten.length=(rows.take i).flatten.length+r.length:=by rw [ft,List.length_append]
      (repeat' ((first
 | refine vn rfl ?_
 | simp (disch:=omega) only [wr64,Int.zero_sub]
 | refine bo (fun _=>?_) fun _=>?_
 | refine im fun _=>?_
 | refine cF ?_
 | refine om ?_
 | refine an ?_
 | fail) <;> try simp only [zN,zT,zV,zS,zU,vcC,lateX,ex,strp,binA,elems,cells,scalar,eqC,keyA,intsA,lookA,ofVs,mpOf,Nat.reduceBEq,reduceAdd,reduceSub,reduceLT,reduceLeDiff,reduceMul,reduceEqDiff,reduceIte,getD_map hr]))
      all_goals try (exfalso; omega)
      exact ⟨⟨i+1,hlt⟩,⟨by rw [hl2]; simp,by simp⟩,by simp only; omega⟩
    · obtain rfl:i=rows.length:=by omega
      rw [List.take_length]
      ((refine Au ?_;repeat' first|exact True.intro|refine Cj.mk ?_ ?_)<;>intros<;>refine hD_ ?_)
      all_goals try (exfalso; omega)
      refine .inr (.inl ⟨_,_,_,_,rfl,fun _=>⟨growN_does σ _ (by omega) htot,?_⟩,fun h=>by cases h⟩)
      rintro res σ' ⟨rfl,rfl⟩
      refine owp_of_exs ?_
      simp only [zN,zT,zV,zS,zU,vcC,lateX,ex,strp,binA,elems,cells,scalar,eqC,keyA,intsA,lookA,ofVs,mpOf,Nat.reduceBEq,reduceAdd,reduceSub,reduceLT,reduceLeDiff,reduceMul,reduceEqDiff,reduceIte]
      ((refine Au ?_;repeat' first|exact True.intro|refine Cj.mk ?_ ?_)<;>intros<;>refine hD_ ?_)
      refine AWPC.loopE (α:={ i:Nat // i≤rows.length }) [6,27] (fun i=>[(6,.own σ.length 0 (rows.take i.1).flatten.length),(27,n i.1)]) (fun i=>σ++[some [⟨68,38,(rows.take i.1).flatten.map Nt.cs,none⟩]]) (fun i=>rows.length - i.1) ⟨0,Nat.zero_le _⟩ ?_ rfl ?_
      · (simp only [zN,zT,zV,zS,zU,vcC,lateX,ex,strp,binA,elems,cells,scalar,eqC,keyA,intsA,lookA,ofVs,mpOf,Nat.reduceBEq,reduceAdd,reduceSub,reduceLT,reduceLeDiff,reduceMul,reduceEqDiff,reduceIte]; try simp)
      · rintro ⟨i,hi⟩
        simp only
        have hfl:=flat_le rows i
        by_cases hlt:i < rows.length
        · obtain ⟨r,hr⟩:∃ r,rows[i]?=some r:=⟨_,List.getElem?_eq_getElem hlt⟩
          have ft:=flat_next hr
          have hfl1:=flat_le rows (i+1)
          have hl2:(rows.take (i+1)).flatten.length=(rows.take i).flatten.length+r.length:=by rw [ft,List.length_append]
          have hA:∀ (o:Ob) (μ:Sto),Sto.at (σ++some [o]::μ) (List.length σ) 0=some o:=fun o μ=>by rw [at_app0]; rfl
          have hB:∀ (o o':Ob) (μ:Sto),Sto.upd (σ++some [o]::μ) (List.length σ) 0 o'=σ++some [o']::μ:=fun o o' μ=>by simp [Sto.upd]
          generalize hF:(rows.take i).flatten=F at ft hl2 hfl
          (repeat' ((first
 | refine vn rfl ?_
 | simp (disch:=omega) only [wr64,Int.zero_sub]
 | refine bo (fun _=>?_) fun _=>?_
 | refine im fun _=>?_
 | refine cF ?_
 | refine om ?_
 | refine an ?_
 | fail) <;> try simp only [zN, zT, zV, zS, zU, vcC, lateX, ex, strp, binA, elems, cells, scalar, eqC, keyA, intsA, lookA, ofVs, mpOf, Nat.reduceBEq, reduceAdd, reduceSub, reduceLT, reduceLeDiff, reduceMul, reduceEqDiff, reduceIte, getD_map hr, hA, hB, List.length_map]))
          all_goals try (exfalso; omega)
          refine ⟨⟨ntRows r,by omega⟩,?_⟩
          ((refine Au ?_;repeat' first|exact True.intro|refine Cj.mk ?_ ?_)<;>intros<;>refine hD_ ?_)
          refine ⟨⟨i+1,hlt⟩,⟨by rw [hl2],by simp⟩,?_,by simp only; omega⟩
          simp [ft]
        · obtain rfl:i=rows.length:=by omega
          rw [List.take_length]
          ((refine Au ?_;repeat' first|exact True.intro|refine Cj.mk ?_ ?_)<;>intros<;>refine hD_ ?_)
          all_goals try (exfalso; omega)
          all_goals exact ⟨rfl,rfl⟩
def c130:CF:=⟨37,(jo [jw 4 (.alloc 29 2 [.int .i64 0,.int .i64 0]),jb 5 false] [0,1,4]
 (jo [jm 11 1,jy 12 87 [11],jm 6 12] [0,4,6]
 (.seq (jo [jm 13 0,je 14 13,jc 15 0] [4,6,13,14,15]
 (.block 0 (.loop (jo [jt .lss 16 15 14] [4,6,13,14,15,16]
 (.seq (.cond (.t 16) .skip
 (.exit 0))
 (.seq (.block 1 (jo [ji 17 38 13 15,jk 18 38 17,jw 8 (.alloc 68 38 z38),js 38 8 18] [4,6,8,13,14,15]
 (jo [jm 20 6,jk 21 38 8,jy 22 89 [21],jw 23 (.look 2 true z38 true (.t 20) (.t 22)),jm 19 23,jz 24 0 19,jz 25 1 19,jw 9 (.alloc 68 38 z38),js 38 9 24,jm 10 25] [4,6,8,9,10,13,14,15]
 (jo [jm 26 10,jm 27 26,ja 27 (jk 28 38 9),ja 27 (jk 29 38 8),ja 27 (jy 30 49 [28,29]),ja 27 (jv 31 30),jp 32 27 31] [4,6,8,13,14,15,32]
 (.cond (.t 32) (jo [jk 33 38 8,jy 34 89 [33],js 2 4 34,jb 5 true] [4,5]
 .ret)
 .skip)))))
 (.ops [ju .add 35 15 1,jm 15 35] [4,6,13,14,15])))))))
 (jo [jw 36 (.build [.int .i64 0,.int .i64 0] []),js 2 4 36,jb 5 false] [4,5]
 .ret)))),[.c 4 (some 2),.t 5]⟩
theorem k130:chkF Tryz.prog Tryz.f130 c130=true:=by kernel_rfl
def c71:CF:=⟨30,(jo [jx 3 26 6 0,jw 6 (.alloc 29 2 [.int .i64 0,.int .i64 0]),jc 7 0] [1,2,3,6]
 (.seq (jo [jk 11 6 3,jm 12 1,jm 13 2,jw 14 (.bsl false 27 1 2 [.slice none 0 0,.slice none 0 0] [(0,1,(.t 12)),(1,1,(.t 13))]),jy 15 80 [11,14],jm 8 15] [1,2,6,8]
 (jo [jm 16 8,ju .neq 17 16 0] [1,2,6,8,17]
 (.cond (.t 17) (jo [jw 18 (.build [.int .i64 0,.int .i64 0] []),jm 19 8,js 2 6 18,jm 7 19] [6,7]
 .ret)
 .skip)))
 (jo [jm 21 1,jm 22 2,jy 23 130 [21,22],jm 20 23,jz 24 0 20,jz 25 1 20,jw 9 (.alloc 29 2 [.int .i64 0,.int .i64 0]),js 2 9 24,jm 10 25] [6,9,10]
 (.seq (jo [jm 26 10,jv 27 26] [6,9,27]
 (.cond (.t 27) (jo [jw 28 (.build [.int .i64 0,.int .i64 0] []),js 2 6 28,jc 7 3] [6,7]
 .ret)
 .skip))
 (jo [jk 29 2 9,js 2 6 29,jc 7 0] [6,7]
 .ret))))),[.c 6 (some 2),.t 7]⟩
theorem k71:chkF Tryz.prog Tryz.f71 c71=true:=by kernel_rfl
theorem fork_spec (x y:List Nt) (hx:setSz x) (hy:setSz y) (hyn:(y.map Nt.nm).Nodup):Pure Tryz.prog 130 [ntS x,ntS y] (.tup [.agg ((forkT x y).getD nm0).cs,bl (forkT x y).isSome]):=by
  refine Pure.of_body Tryz.call130 Tryz.func130 k130 (Nat.le_of_ble_eq_true rfl) ?_
  unfold c130
  have h1:=byName_spec y hy
  have hx0:=hx.1
  obtain ⟨o,ho⟩:∃ o,o=forkT x y:=⟨_,rfl⟩
  rw [← ho]
  ((refine Ay @h1 ?_;repeat' first|exact True.intro|refine Cj.mk ?_ ?_)<;>intros<;>refine hD_ ?_)
  refine AWPC.loopE (α:={ z:Nat × Sto // z.1≤x.length∧forkT (x.drop z.1) y=o }) [15] (fun z=>[(15,n z.1.1)]) (fun z=>some [⟨29,2,[[n 0,n 0]],none⟩]::z.1.2) (fun z=>x.length - z.1.1) ⟨(0,[]),Nat.zero_le _,by simp [ho]⟩ ?_ rfl ?_
  · (simp only [zN,zT,zV,zS,zU,vcC,lateX,ex,strp,binA,elems,cells,scalar,eqC,keyA,intsA,lookA,ofVs,mpOf,Nat.reduceBEq,reduceAdd,reduceSub,reduceLT,reduceLeDiff,reduceMul,reduceEqDiff,reduceIte]; try simp)
  · rintro ⟨⟨i,μ⟩,hi,hI⟩
    simp only at hi hI
    clear ho
    by_cases hlt:i < x.length
    · obtain ⟨a,ha⟩:∃ a,x[i]?=some a:=⟨_,List.getElem?_eq_getElem hlt⟩
      have ham:=hx.2 a (List.mem_of_getElem? ha)
      have hA:=mget_kenc ntA a.nm (byName y)
      simp only [Nm.ky] at hA
      rw [drop_cons ha] at hI
      cases hg:kget (byName y) a.nm with
      | none =>
        rw [hg] at hA
        simp only [Option.map_none] at hA
        have hI2:forkT (x.drop (i+1)) y=o:=by
          rw [← hI]; unfold forkT; rw [List.find?_cons,hg]
        (repeat' ((first
 | refine vn rfl ?_
 | simp (disch:=omega) only [wr64,Int.zero_sub]
 | refine bo (fun _=>?_) fun _=>?_
 | refine im fun _=>?_
 | ((repeat refine si ?_); (first | ((first | refine .inl ⟨_,_,_,_,rfl,fun _=>pu (name_spec a),?_⟩ | refine ⟨_,_,_,_,rfl,fun _=>pu (name_spec a),?_⟩); (first | refine o1 ?_ | refine o2 ?_ | refine o3 ?_ | refine o4 ?_)) | refine .inl ⟨_,_,_,_,rfl,pu (name_spec a),?_⟩))
 | refine cF ?_
 | refine om ?_
 | refine an ?_
 | fail) <;> try simp only [zN, zT, zV, zS, zU, vcC, lateX, ex, strp, binA, elems, cells, scalar, eqC, keyA, intsA, lookA, ofVs, mpOf, Nat.reduceBEq, reduceAdd, reduceSub, reduceLT, reduceLeDiff, reduceMul, reduceEqDiff, reduceIte, getD_map ha, hA, List.append_assoc, List.cons_append, List.nil_append, at_app, at_app0, upd_app, upd_app0]))
        all_goals try (exfalso; omega)
        refine ⟨⟨(i+1,_),hlt,hI2⟩,by simp,rfl,by simp only; omega⟩
      | some m =>
        rw [hg] at hA
        simp only [Option.map_some] at hA
        have hmy:m∈y:=by
          rw [byName_get hyn] at hg
          exact ((fq_some hyn).1 hg).1
        have hc:=Same_spec m a (hy.2 m hmy) ham
        by_cases e:m=a
        · have hI2:forkT (x.drop (i+1)) y=o:=by
            rw [← hI]; unfold forkT; rw [List.find?_cons,hg]; simp [e]
          rw [decide_eq_true e] at hc
          (repeat' ((first
 | refine vn rfl ?_
 | simp (disch:=omega) only [wr64,Int.zero_sub]
 | refine bo (fun _=>?_) fun _=>?_
 | refine im fun _=>?_
 | ((repeat refine si ?_); (first | ((first | refine .inl ⟨_,_,_,_,rfl,fun _=>pu (by first | exact name_spec a | exact hc),?_⟩ | refine ⟨_,_,_,_,rfl,fun _=>pu (by first | exact name_spec a | exact hc),?_⟩); (first | refine o1 ?_ | refine o2 ?_ | refine o3 ?_ | refine o4 ?_)) | refine .inl ⟨_,_,_,_,rfl,pu (by first | exact name_spec a | exact hc),?_⟩))
 | refine cF ?_
 | refine om ?_
 | refine an ?_
 | fail) <;> try simp only [zN, zT, zV, zS, zU, vcC, lateX, ex, strp, binA, elems, cells, scalar, eqC, keyA, intsA, lookA, ofVs, mpOf, Nat.reduceBEq, reduceAdd, reduceSub, reduceLT, reduceLeDiff, reduceMul, reduceEqDiff, reduceIte, getD_map ha, hA, List.append_assoc, List.cons_append, List.nil_append, at_app, at_app0, upd_app, upd_app0]))
          all_goals try (exfalso; omega)
          refine ⟨⟨(i+1,_),hlt,hI2⟩,by simp,rfl,by simp only; omega⟩
        · have hI2:o=some a.nm:=by
            rw [← hI]; unfold forkT; rw [List.find?_cons,hg]; simp [e]
          subst hI2
          rw [decide_eq_false e] at hc
          (repeat' ((first
 | refine vn rfl ?_
 | simp (disch:=omega) only [wr64,Int.zero_sub]
 | refine bo (fun _=>?_) fun _=>?_
 | refine im fun _=>?_
 | ((repeat refine si ?_); (first | ((first | refine .inl ⟨_,_,_,_,rfl,fun _=>pu (by first | exact name_spec a | exact hc),?_⟩ | refine ⟨_,_,_,_,rfl,fun _=>pu (by first | exact name_spec a | exact hc),?_⟩); (first | refine o1 ?_ | refine o2 ?_ | refine o3 ?_ | refine o4 ?_)) | refine .inl ⟨_,_,_,_,rfl,pu (by first | exact name_spec a | exact hc),?_⟩))
 | refine cF ?_
 | refine om ?_
 | refine an ?_
 | fail) <;> try simp only [zN, zT, zV, zS, zU, vcC, lateX, ex, strp, binA, elems, cells, scalar, eqC, keyA, intsA, lookA, ofVs, mpOf, Nat.reduceBEq, reduceAdd, reduceSub, reduceLT, reduceLeDiff, reduceMul, reduceEqDiff, reduceIte, getD_map ha, hA, List.append_assoc, List.cons_append, List.nil_append, at_app, at_app0, upd_app, upd_app0]))
          all_goals try (exfalso; omega)
          exact Frz.eq rfl (by simp)
    · obtain rfl:i=x.length:=by omega
      have hI2:o=none:=by rw [← hI]; unfold forkT; simp
      subst hI2
      ((refine Au ?_;repeat' first|exact True.intro|refine Cj.mk ?_ ?_)<;>intros<;>refine hD_ ?_)
      all_goals try (exfalso; omega)
      exact Frz.eq rfl (by simp)
theorem Fork_spec (b:Bse) (hb:bseSz b) (x y:List Nt) (hx:setSz x) (hy:setSz y):Pure Tryz.prog 71 [.agg b.cs,ntS x,ntS y] (.tup [.agg (forkE b x y).1.cs,n (forkE b x y).2]):=by
  refine Pure.of_body Tryz.call71 Tryz.func71 k71 (Nat.le_of_ble_eq_true rfl) ?_
  unfold c71
  have h1:=asked_spec b hb [x,y] (by simp) (by rintro l hl; simp at hl; rcases hl with rfl | rfl <;> assumption)
  by_cases ha:askedE b [x,y]=0
  · rw [ha] at h1
    have hyn:=setE_nodup ((askedE_ok ha).2 y (by simp))
    have h2:=fork_spec x y hx hy hyn
    cases hf:forkT x y with
    | none =>
      have hE:forkE b x y=(nm0,3):=by unfold forkE; rw [if_neg (by omega),hf]
      rw [hE]
      rw [hf] at h2
      simp only [Option.getD_none,Option.isSome_none] at h2
      ((refine Ay (And.intro @h1 @h2) ?_;repeat' first|exact True.intro|refine Cj.mk ?_ ?_)<;>intros<;>refine hD_ ?_)
      all_goals try (exfalso; omega)
      all_goals exact Frz.eq rfl (by simp)
    | some m =>
      have hE:forkE b x y=(m,0):=by unfold forkE; rw [if_neg (by omega),hf]
      rw [hE]
      rw [hf] at h2
      simp only [Option.getD_some,Option.isSome_some] at h2
      ((refine Ay (And.intro @h1 @h2) ?_;repeat' first|exact True.intro|refine Cj.mk ?_ ?_)<;>intros<;>refine hD_ ?_)
      all_goals try (exfalso; omega)
      all_goals exact Frz.eq rfl (by simp)
  · have hE:forkE b x y=(nm0,askedE b [x,y]):=by unfold forkE; rw [if_pos ha]
    rw [hE]
    generalize askedE b [x,y]=e at h1 ha
    ((refine Ay @h1 ?_;repeat' first|exact True.intro|refine Cj.mk ?_ ?_)<;>intros<;>refine hD_ ?_)
    all_goals try (exfalso; omega)
    all_goals exact Frz.eq rfl (by simp)
def c70:CF:=⟨54,(jo [jx 3 26 6 0,jn 6,jc 7 0] [1,2,3]
 (.seq (jo [jk 15 6 3,jm 16 1,jm 17 2,jw 18 (.bsl false 27 1 2 [.slice none 0 0,.slice none 0 0] [(0,1,(.t 16)),(1,1,(.t 17))]),jy 19 80 [15,18],jm 8 19] [1,2,8]
 (jo [jm 20 8,ju .neq 21 20 0] [1,2,8,21]
 (.cond (.t 21) (jo [jm 22 8,jn 6,jm 7 22] [6,7]
 .ret)
 .skip)))
 (.seq (jo [jm 24 1,jm 25 2,jy 26 130 [24,25],jm 23 26,jz 27 0 23,jz 28 1 23,jw 9 (.alloc 29 2 [.int .i64 0,.int .i64 0]),js 2 9 27,jm 10 28] [1,2,10]
 (jo [jm 29 10] [1,2,29]
 (.cond (.t 29) (jo [jn 6,jc 7 61] [6,7]
 .ret)
 .skip)))
 (jo [jm 30 1,jm 31 2,jw 32 (.bsl false 27 1 2 [.slice none 0 0,.slice none 0 0] [(0,1,(.t 30)),(1,1,(.t 31))]),jy 33 131 [32],jm 11 33] [11]
 (jo [jm 34 11,jw 35 (.call (.f 132) [(.t 34),(.f 133)])] [11]
 (jo [jm 36 11,jw 37 (.call (.f 134) [(.t 36),(.f 135)]),jm 11 37] [11]
 (.seq (jo [jm 38 11,je 39 38,ju .gtr 40 39 400] [11,40]
 (.cond (.t 40) (jo [jn 6,jc 7 2] [6,7]
 .ret)
 .skip))
 (jo [jn 12] [11,12]
 (.seq (jo [jm 41 11,je 42 41,jc 43 0] [12,41,42,43]
 (.block 0 (.loop (jo [jt .lss 44 43 42] [12,41,42,43,44]
 (.seq (.cond (.t 44) .skip
 (.exit 0))
 (.seq (.block 1 (jo [ji 45 38 41 43,jk 46 38 45,jw 14 (.alloc 68 38 z38),js 38 14 46] [12,14,41,42,43]
 (.ops [jm 47 12,jk 48 38 14,jy 49 136 [48],jw 50 (.bsl false 68 38 1 z38 [(0,38,(.t 49))]),jw 51 (.app 68 38 368 (.t 47) (.t 50)),jm 12 51] [12,41,42,43])))
 (.ops [ju .add 52 43 1,jm 43 52] [12,41,42,43])))))))
 (jo [jm 53 12,jm 6 53,jc 7 0] [6,7]
 .ret)))))))))),[.t 6,.t 7]⟩
theorem k70:chkF Tryz.prog Tryz.f70 c70=true:=by kernel_rfl
theorem sortN_does (σ:Sto) (f:Nat) (l:List Nt) (hf:σ.at f 0=some ⟨68,38,l.map Nt.cs,none⟩) (hl:l.length < 4611686018427387904) (hn:∀ a∈l,∀ b∈l,a.nm=b.nm→a=b) :
    Does Tryz.prog 132 [.own f 0 l.length,.fn (.func 133) [] []] σ (fun _ σ'=>σ'=σ.upd f 0 ⟨68,38,(srtN l).map Nt.cs,none⟩) :=
  (sort_notes 133 (fun a b=>cmpN a.nm b.nm) swoN Tryz.call133 mergeK σ f l hf hl).mono fun r σ' ⟨l',h1,h2,h3⟩=>by rw [h3,srtN_one hn h1 h2]
theorem nt_shtC {b:Bse} {a:Nt} (h:a.ok b):shtC a.sheet:=by
  by_cases hk:a.kind=1
  · obtain ⟨h1,h2,h3,h4⟩:=nt_small h hk
    exact ⟨by omega,by omega,by omega,by omega⟩
  · have h1:=h.1
    have h2:a.sheet=sht0:=by
      rw [h1]
      unfold Nt.bare
      rw [if_neg hk]
      repeat' split
      all_goals rfl
    rw [h2]
    exact ⟨by decide,by decide,by decide,by decide⟩
theorem Merge_spec (b:Bse) (hb:bseSz b) (x y:List Nt) (hx:setSz x) (hy:setSz y):Pure Tryz.prog 70 [.agg b.cs,ntS x,ntS y] (.tup [ntS (mergeE b x y).1,n (mergeE b x y).2]):=by
  refine Pure.of_body Tryz.call70 Tryz.func70 k70 (Nat.le_of_ble_eq_true rfl) ?_
  unfold c70
  have h1:=asked_spec b hb [x,y] (by simp) (by rintro l hl; simp at hl; rcases hl with rfl | rfl <;> assumption)
  by_cases ha:askedE b [x,y]=0
  · rw [ha] at h1
    have okx:=(askedE_ok ha).2 x (by simp)
    have oky:=(askedE_ok ha).2 y (by simp)
    have hyn:=setE_nodup oky
    have h2:=fork_spec x y hx hy hyn
    cases hf:forkT x y with
    | some m =>
      have hE:mergeE b x y=([],61):=by unfold mergeE; rw [if_neg (by omega),hf]; rfl
      rw [hE]
      rw [hf] at h2
      simp only [Option.getD_some,Option.isSome_some] at h2
      ((refine Ay (And.intro @h1 @h2) ?_;repeat' first|exact True.intro|refine Cj.mk ?_ ?_)<;>intros<;>refine hD_ ?_)
      all_goals try (exfalso; omega)
      all_goals exact Frz.tupL ⟨Frz.nil0,Frz.pure (by simp),trivial⟩
    | none =>
      rw [hf] at h2
      simp only [Option.getD_none,Option.isSome_none] at h2
      have hxl:=(setE_ok okx).2.1
      have hyl:=(setE_ok oky).2.1
      have hone:=nofork (setE_nodup okx) hyn hf
      obtain ⟨l,hl⟩:∃ l,l=x++y:=⟨_,rfl⟩
      have hll:l.length=x.length+y.length:=by rw [hl,List.length_append]
      have hfl:[x,y].flatten=l:=by rw [hl]; simp
      rw [← hl] at hone
      have hcc:=fun σ=>concatN_does σ [x,y] (by simp) (by rw [hfl]; omega)
      rw [hfl] at hcc
      have hsl:(srtN l).length=l.length:=(srtN_perm l).length_eq
      have hcl:(compN (srtN l)).length≤l.length:=by rw [← hsl]; exact compN_len _
      have hok:∀ a∈compN (srtN l),shtC a.sheet:=by
        intro a h
        have h3:=(srtN_perm l).mem_iff.1 (compN_sub _ a h)
        rw [hl] at h3
        rcases List.mem_append.1 h3 with h4 | h4
        · exact nt_shtC ((setE_ok okx).2.2.1 a h4)
        · exact nt_shtC ((setE_ok oky).2.2.1 a h4)
      ((refine Ay (And.intro @h1 @h2) ?_;repeat' first|exact True.intro|refine Cj.mk ?_ ?_)<;>intros<;>refine hD_ ?_)
      all_goals try (exfalso; omega)
      refine .inr (.inl ⟨_,_,_,_,rfl,fun _=>⟨hcc _,?_⟩,fun h=>by cases h⟩)
      rintro r1 σ1 ⟨rfl,rfl⟩
      refine owp_of_exs ?_
      simp only [zN,zT,zV,zS,zU,vcC,lateX,ex,strp,binA,elems,cells,scalar,eqC,keyA,intsA,lookA,ofVs,mpOf,Nat.reduceBEq,reduceAdd,reduceSub,reduceLT,reduceLeDiff,reduceMul,reduceEqDiff,reduceIte,List.cons_append,List.nil_append]
      ((refine Au ?_;repeat' first|exact True.intro|refine Cj.mk ?_ ?_)<;>intros<;>refine hD_ ?_)
      refine .inr (.inl ⟨_,_,_,_,rfl,fun _=>⟨sortN_does _ 1 l rfl (by omega) hone,?_⟩,fun h=>by cases h⟩)
      rintro r1 σ1 rfl
      refine owp_of_exs ?_
      simp only [zN,zT,zV,zS,zU,vcC,lateX,ex,strp,binA,elems,cells,scalar,eqC,keyA,intsA,lookA,ofVs,mpOf,Nat.reduceBEq,reduceAdd,reduceSub,reduceLT,reduceLeDiff,reduceMul,reduceEqDiff,reduceIte]
      ((refine Au ?_;repeat' first|exact True.intro|refine Cj.mk ?_ ?_)<;>intros<;>refine hD_ ?_)
      refine .inr (.inl ⟨_,_,_,_,rfl,fun _=>⟨by rw [← hsl]; exact compN_does _ 1 (srtN l) (by omega) rfl,?_⟩,fun h=>by cases h⟩)
      rintro r1 σ1 ⟨ν1,rfl,rfl⟩
      refine owp_of_exs ?_
      simp only [zN,zT,zV,zS,zU,vcC,lateX,ex,strp,binA,elems,cells,scalar,eqC,keyA,intsA,lookA,ofVs,mpOf,Nat.reduceBEq,reduceAdd,reduceSub,reduceLT,reduceLeDiff,reduceMul,reduceEqDiff,reduceIte]
      have hE:mergeE b x y=if 400 < (compN (srtN l)).length then ([],2) else (compN (srtN l),0):=by unfold mergeE; rw [if_neg (by omega),hf,← hl]; rfl
      rw [hE]
      generalize compN (srtN l)=m at hcl hok
      by_cases h400:400 < m.length
      · rw [if_pos h400]
        ((refine Au ?_;repeat' first|exact True.intro|refine Cj.mk ?_ ?_)<;>intros<;>refine hD_ ?_)
        all_goals try (exfalso; omega)
        all_goals exact Frz.tupL ⟨Frz.nil0,Frz.pure (by simp),trivial⟩
      · rw [if_neg h400]
        ((refine Au ?_;repeat' first|exact True.intro|refine Cj.mk ?_ ?_)<;>intros<;>refine hD_ ?_)
        all_goals try (exfalso; omega)
        generalize (some [⟨29,2,[[n nm0.clerk,n nm0.num]],none⟩]::none::ν1:Sto)=S
        refine AWPC.own0 68 38 12 rfl ?_
        obtain ⟨G,hG⟩:∃ G,G=List.length S:=⟨_,rfl⟩
        rw [← hG]
        have hA:∀ (o:Ob) (μ:Sto),Sto.at (S++some [o]::μ) G 0=some o:=fun o μ=>by rw [hG,at_app0]; rfl
        have hB:∀ (o o':Ob) (μ:Sto),Sto.upd (S++some [o]::μ) G 0 o'=S++some [o']::μ:=fun o o' μ=>by rw [hG]; simp [Sto.upd]
        have hG':List.length S=G:=hG.symm
        have hC:∀ (f:Nat) (o:Ob) (μ:Sto),Sto.at (S++some [o]::μ) (G+(f+1)) 0=Sto.at μ f 0:=fun f o μ=>by rw [hG,at_app]; rfl
        have hD:∀ (f:Nat) (o o':Ob) (μ:Sto),Sto.upd (S++some [o]::μ) (G+(f+1)) 0 o'=S++some [o]::Sto.upd μ f 0 o':=fun f o o' μ=>by rw [hG,upd_app]; simp [Sto.upd]; cases μ[f]? with
          | none=>rfl
          | some x=>cases x <;> rfl
        refine AWPC.loopE (α:={ x:Nat × List Nt × Sto // x.1≤m.length∧x.2.1=m.take x.1 }) [12,43] (fun x=>[(12,.own G 0 x.1.2.1.length),(43,n x.1.1)]) (fun x=>S++some [⟨68,38,x.1.2.1.map Nt.cs,none⟩]::x.1.2.2) (fun x=>m.length - x.1.1) ⟨(0,[],[]),Nat.zero_le _,rfl⟩ ?_ rfl ?_
        · (simp only [zN,zT,zV,zS,zU,vcC,lateX,ex,strp,binA,elems,cells,scalar,eqC,keyA,intsA,lookA,ofVs,mpOf,Nat.reduceBEq,reduceAdd,reduceSub,reduceLT,reduceLeDiff,reduceMul,reduceEqDiff,reduceIte]; try simp)
        · rintro ⟨⟨i,W,μ⟩,hi,hW⟩
          simp only at hi hW
          have hWl:W.length=i:=by rw [hW,List.length_take]; omega
          generalize hM:W.map Nt.cs=M
          have hMl:M.length=i:=by rw [← hM,List.length_map]; exact hWl
          simp only [hM]
          by_cases hlt:i < m.length
          · have hx:(m.map Nt.cs).getD i []=Nt.cs (m.getD i nt0):=row nt0 hlt
            have hN:m.take (i+1)=W++[m.getD i nt0]:=by rw [hW,List.take_add_one,getD_lt nt0 hlt]; simp
            have hc:=copied_spec (m.getD i nt0) (hok _ (List.mem_of_getElem? (getD_lt nt0 hlt)))
            generalize m.getD i nt0=x at hx hN hc
            ((refine Az (And.intro @hA (And.intro @hB (And.intro @hC (And.intro @hD (And.intro @hG' (And.intro @hx (And.intro @hMl @hWl))))))) @hc ?_;repeat' first|exact True.intro|refine Cj.mk ?_ ?_)<;>intros<;>refine hD_ ?_)
            all_goals try (exfalso; omega)
            refine ⟨⟨(i+1,W++[x],μ++[some [⟨68,38,[x.cs],none⟩]]),hlt,hN.symm⟩,?_,?_,by simp only; omega⟩
            · simp [hWl]
            · simp [← hM]
          · obtain rfl:i=m.length:=by omega
            rw [List.take_length] at hW
            subst hW
            clear hG hWl hE hok hcl hcc hone hsl hfl hll hl
            iterate 5 (refine vn rfl ?_; simp only [zN,zT,zV,zS,zU,vcC,lateX,ex,strp,binA,elems,cells,scalar,eqC,keyA,intsA,lookA,ofVs,mpOf,Nat.reduceBEq,reduceAdd,reduceSub,reduceLT,reduceLeDiff,reduceMul,reduceEqDiff,reduceIte,hA,hB,hC,hD,hG',hMl])
            exact Frz.tupL ⟨Frz.ownL (cs:=Nt.cs) (by rw [hM]; exact hA _ _) rfl (by decide) (fun a=>Nt.pc a) (fun a=>rfl),Frz.pure (by simp),trivial⟩
  · have hE:mergeE b x y=([],askedE b [x,y]):=by unfold mergeE; rw [if_pos ha]
    rw [hE]
    generalize askedE b [x,y]=e at h1 ha
    ((refine Ay @h1 ?_;repeat' first|exact True.intro|refine Cj.mk ?_ ?_)<;>intros<;>refine hD_ ?_)
    all_goals try (exfalso; omega)
    all_goals exact Frz.tupL ⟨Frz.nil0,Frz.pure (by simp),trivial⟩
theorem mergeSz (b:Bse) {x y:List Nt} (hx:setSz x) (hy:setSz y):setSz (mergeE b x y).1:=by
  by_cases h:(mergeE b x y).2=0
  · obtain ⟨_,_,h3,h4,h5⟩:=merge_ok h
    rw [h4]
    refine ⟨by omega,fun a ha=>?_⟩
    rcases List.mem_append.1 (((uni_spec h3).2 a).1 ha) with h6 | h6
    · exact hx.2 a h6
    · exact hy.2 a h6
  · have:(mergeE b x y).1=[]:=by
      unfold mergeE at h ⊢
      repeat' split
      all_goals first | rfl | (exfalso; apply h; repeat' split; all_goals first | rfl | contradiction)
    rw [this]
    exact ⟨by decide,fun a ha=>by cases ha⟩
def c17:CF:=⟨106,(jo [jx 3 26 6 0,jb 6 false] [1,2,3]
 (jo [jy 20 18 [],jm 7 20] [1,2,3,7]
 (.seq (jo [jk 21 6 3,jy 22 19 [21],jv 23 22,jm 24 23,jd 24 (jm 25 1),jd 24 (jy 26 20 [25]),jd 24 (jv 27 26),jq 28 24 27,jm 29 28,jd 29 (jm 30 2),jd 29 (jy 31 20 [30]),jd 29 (jv 32 31),jq 33 29 32] [1,2,3,7,33]
 (.cond (.t 33) (jo [jm 34 7,jm 6 34] [6]
 .ret)
 .skip))
 (jo [jk 36 6 3,jm 37 1,jm 38 2,jy 39 70 [36,37,38],jm 35 39,jz 40 0 35,jz 41 1 35,jm 8 40,jm 9 41] [1,2,3,7,8,9]
 (jo [jk 43 6 3,jm 44 1,jm 45 2,jy 46 74 [43,44,45],jm 42 46,jz 47 0 42,jz 48 1 42,jm 10 47,jm 11 48] [1,2,3,7,8,9,10,11]
 (jo [jk 50 6 3,jm 51 1,jm 52 2,jy 53 71 [50,51,52],jm 49 53,jz 54 0 49,jz 55 1 49,jw 12 (.alloc 29 2 [.int .i64 0,.int .i64 0]),js 2 12 54,jm 13 55] [1,2,3,7,8,9,10,11,12,13]
 (jo [jk 57 6 3,jm 58 1,jm 59 2,jy 60 75 [57,58,59],jm 56 60,jz 61 0 56,jz 62 1 56,jw 14 (.alloc 29 2 [.int .i64 0,.int .i64 0]),js 2 14 61,jm 15 62] [1,3,7,8,9,10,11,12,13,14,15]
 (jo [jk 64 6 3,jm 65 1,jy 66 51 [64,65],jm 63 66,jz 67 0 63,jz 68 1 63,jm 16 67,jm 17 68] [1,3,7,8,9,10,11,12,13,14,15,16,17]
 (jo [jk 70 6 3,jm 71 1,jy 72 76 [70,71],jm 69 72,jz 73 0 69,jz 74 1 69,jm 18 73,jm 19 74] [7,8,9,10,11,12,13,14,15,16,17,18,19]
 (jo [jm 75 7,jm 76 75,ja 76 (jm 77 8),ja 76 (jm 78 10),ja 76 (jy 79 72 [77,78]),jp 80 76 79,jm 81 80,ja 81 (jm 82 9),ja 81 (jm 83 11),ja 81 (jt .eql 84 82 83),jp 85 81 84,jm 86 85,ja 86 (jk 87 2 12),ja 86 (jk 88 2 14),⟨some 89,.eqs false [some .i64,some .i64] (.t 87) (.t 88),some (86,true)⟩,jp 90 86 89,jm 91 90,ja 91 (jm 92 13),ja 91 (jm 93 15),ja 91 (jt .eql 94 92 93),jp 95 91 94,jm 96 95,ja 96 (jm 97 16),ja 96 (jm 98 18),ja 96 (jy 99 28 [97,98]),jp 100 96 99,jm 101 100,ja 101 (jm 102 17),ja 101 (jm 103 19),ja 101 (jt .eql 104 102 103),jp 105 101 104,jm 6 105] [6]
 .ret)))))))))),[.t 6]⟩
theorem k17:chkF Tryz.prog Tryz.f17 c17=true:=by kernel_rfl
theorem Sets_spec (b:Bse) (x y:List Nt) (hb:bseSz b) (hx:setSz x) (hy:setSz y):Pure Tryz.prog 17 [.agg b.cs,ntS x,ntS y] (bl true):=by
  refine Pure.of_body Tryz.call17 Tryz.func17 k17 (Nat.le_of_ble_eq_true rfl) ?_
  unfold c17
  have s1:=small_spec b hb
  have s2:=few_spec x hx.1
  have s3:=few_spec y hy.1
  have m1:=Merge_spec b hb x y hx hy
  have m2:=rMerge_spec b hb x y hx hy
  have zm:=mergeSz b hx hy
  have q1:=sameNotes_spec (mergeE b x y).1 (mergeE b x y).1 zm zm
  rw [decide_eq_true rfl] at q1
  generalize (mergeE b x y).1=P at m1 m2 q1
  generalize (mergeE b x y).2=e at m1 m2
  have f1:=Fork_spec b hb x y hx hy
  have f2:=rFork_spec b hb x y hx hy
  generalize (forkE b x y).1=w at f1 f2
  generalize (forkE b x y).2=f at f1 f2
  have t1:=Stands_spec b hb x hx
  have t2:=rStands_spec b hb x hx
  have hz:(standsE b x).1.length < 9223372036854775808:=by
    unfold standsE; split
    · show (0:Nat) < 9223372036854775808; decide
    · rw [List.length_map]; exact Nat.lt_of_le_of_lt (standT_len x) hx.1
  have q2:=sameNm (standsE b x).1 (standsE b x).1 hz hz
  rw [decide_eq_true rfl] at q2
  generalize (standsE b x).1=S at t1 t2 q2
  generalize (standsE b x).2=s at t1 t2
  generalize smallB b=c1 at s1
  generalize fewB x=c2 at s2
  generalize fewB y=c3 at s3
  clear hb hx hy zm hz
  cases c1 with
  | false =>
    ((refine Ay (And.intro @awake_spec (And.intro @s1 (And.intro @s2 @s3))) ?_;repeat' first|exact True.intro|refine Cj.mk ?_ ?_)<;>intros<;>refine hD_ ?_)
    all_goals try (exfalso; omega)
    all_goals exact Frz.eq rfl (by simp)
  | true =>
    cases c2 with
    | false =>
      ((refine Ay (And.intro @awake_spec (And.intro @s1 (And.intro @s2 @s3))) ?_;repeat' first|exact True.intro|refine Cj.mk ?_ ?_)<;>intros<;>refine hD_ ?_)
      all_goals try (exfalso; omega)
      all_goals exact Frz.eq rfl (by simp)
    | true =>
      cases c3 with
      | false =>
        ((refine Ay (And.intro @awake_spec (And.intro @s1 (And.intro @s2 @s3))) ?_;repeat' first|exact True.intro|refine Cj.mk ?_ ?_)<;>intros<;>refine hD_ ?_)
        all_goals try (exfalso; omega)
        all_goals exact Frz.eq rfl (by simp)
      | true =>
        ((refine Ay (And.intro @awake_spec (And.intro @s1 (And.intro @s2 (And.intro @s3 (And.intro @m1 (And.intro @m2 (And.intro @f1 (And.intro @f2 (And.intro @t1 (And.intro @t2 (And.intro @q1 @q2))))))))))) ?_;repeat' first|exact True.intro|refine Cj.mk ?_ ?_)<;>intros<;>refine hD_ ?_)
        all_goals try (exfalso; omega)
        all_goals exact Frz.eq rfl (by simp)
end Go.Proofs.YtolgelipcgcbhaaGreat
namespace Go.Abs
open Go
set_option linter.unusedVariables false
set_option linter.unusedSimpArgs false
structure Opens (P:Program) (t:TypeId) (α:Type) (row:α→List AV) (Pr:α→Prop):Prop where
  go:∀ {H:Type} (enc:TypeId × Value→H) (w:World) (base:Nat) (sp:Nat→Bool) (held:Bool) (fuel:Nat) (cs:List Value) (x:DataW H × List MemPlace),
    DataW.trod enc P w base sp held fuel t cs=some x →
    ∃ a:α,Pr a∧cs.length=(row a).length∧∀ i,i < cs.length→(cs.getD i undef).oneCell'=true∧RV w (fun _=>False) nob [] ((row a).getD i .any) (cs.getD i undef)
variable {P:Program}
theorem Opens.to {t:TypeId} {α β:Type} {row:α→List AV} {row':β→List AV} {Pr:α→Prop} {Pr':β→Prop} (h:Opens P t α row Pr) (f:α→β) (hr:∀ a,row' (f a)=row a) (hp:∀ a,Pr a→Pr' (f a)):Opens P t β row' Pr' :=
  ⟨fun enc w base sp held fuel cs x hx =>
    let ⟨a,h1,h2,h3⟩:=h.go enc w base sp held fuel cs x hx
    ⟨f a,hp a h1,by rw [hr]; exact h2,fun i hi=>by rw [hr]; exact h3 i hi⟩⟩
theorem opens_int {t:TypeId} {k:IntKind} (ht:P.underlying t=some (.int k)):Opens P t Int (fun z=>[.v (.int k z)]) (fun z=>(Lit.int k z).wf=true):=by
  constructor
  intro H enc w base sp held fuel cs x hx
  cases fuel with
  | zero=>simp [DataW.trod] at hx
  | succ m =>
    unfold DataW.trod at hx
    rw [ht] at hx
    split at hx <;> try (simp_all; done)
    rename_i k0 k' z heq
    simp only [Option.some.injEq,TypeDesc.int.injEq] at heq
    split at hx
    · rename_i hk
      obtain ⟨rfl,hw⟩:=hk
      subst heq
      refine ⟨z,hw,rfl,fun i hi=>?_⟩
      obtain rfl:i=0:=by simpa using hi
      exact ⟨rfl,.v _⟩
    · cases hx
theorem opens_slice {t e:TypeId} {k:Nat} {α:Type} {row:α→List AV} {Pr:α→Prop} (ht:P.underlying t=some (.slice e)) (hk:P.cellsOf e=k) (hk0:k≠0) (h:Opens P e α row Pr) (hl:∀ a,(row a).length=k) :
    Opens P t (List α) (fun l=>[.sl k (l.map row)]) (fun l=>l.length < 9223372036854775808∧∀ a∈l,Pr a):=by
  constructor
  intro H enc w base sp held fuel cs x hx
  rcases DataW.trod_slice ht hx with ⟨rfl,_⟩ | ⟨a,len,cap,elems,rest,m,rfl,rfl,rfl,hb,hlc,hcap,hlen,hel,hsp,hns⟩
  · refine ⟨[],⟨by simp,fun a ha=>absurd ha (List.not_mem_nil)⟩,rfl,fun i hi=>?_⟩
    obtain rfl:i=0:=by simpa using hi
    exact ⟨rfl,.slnil k⟩
  · have hlen2:len < 9223372036854775808:=by unfold maxLen at hcap; omega
    have each:∀ i,i < len→∃ (b:α) (c1:List Value),Pr b∧c1.length=k∧w.cells? base (a.add (i * k)) k=some c1∧∀ j,j < k→(c1.getD j undef).oneCell'=true∧RV w (fun _=>False) nob [] ((row b).getD j .any) (c1.getD j undef):=by
      intro i hi
      have h1:=hel i hi
      rw [hk,List.getElem?_eq_getElem (by omega)] at h1
      simp only [Option.bind_eq_some_iff] at h1
      obtain ⟨c1,hc1,hy⟩:=h1
      obtain ⟨b,hp,hlb,hr⟩:=h.go enc w base sp held m c1 _ hy
      have hl1:=(World.cells?_some hc1).2.1
      exact ⟨b,c1,hp,hl1,hc1,fun j hj=>hr j (by omega)⟩
    by_cases h0:len=0
    · subst h0
      refine ⟨[],⟨by simp,fun a ha=>absurd ha (List.not_mem_nil)⟩,rfl,fun i hi=>?_⟩
      obtain rfl:i=0:=by simpa using hi
      exact ⟨rfl,.slemp k a cap⟩
    ·
      have hspot:a.spot=none:=by
        obtain ⟨b,c1,_,hl1,hc1,_⟩:=each 0 (by omega)
        have h2:=(World.cells?_some hc1).2.2 0 (by omega)
        rw [List.getElem?_eq_getElem (by omega)] at h2
        have e:(a.add (0 * k)).add 0=a:=by simp [Addr.add]
        rw [e] at h2
        unfold World.cell? at h2
        split at h2
        · split at h2
          · cases h2
          · rename_i hs; simpa using hs
        · cases h2
      obtain ⟨bl,off,spot⟩:=a
      simp only at hspot
      subst hspot
      have hadd:∀ i j,((⟨bl,off,none⟩:Addr).add (i * k)).add j=⟨bl,off+i * k+j,none⟩:=by
        intro i j
        simp only [Addr.add]
        split <;> split <;> simp_all <;> omega
      let B:Nat→α:=fun i=>if hi:i < len then Classical.choose (each i hi) else Classical.choose (each 0 (by omega))
      have hB:∀ i,i < len→∃ c1:List Value,Pr (B i)∧c1.length=k∧w.cells? base ((⟨bl,off,none⟩:Addr).add (i * k)) k=some c1∧∀ j,j < k→(c1.getD j undef).oneCell'=true∧RV w (fun _=>False) nob [] ((row (B i)).getD j .any) (c1.getD j undef):=by
        intro i hi
        have:=Classical.choose_spec (each i hi)
        simp only [B,hi,dif_pos]
        exact this
      have hcell:∀ i j,i < len→j < k→w.cell? ⟨bl,off+i * k+j,none⟩=some ((w.cell? ⟨bl,off+i * k+j,none⟩).getD undef)∧((w.cell? ⟨bl,off+i * k+j,none⟩).getD undef).oneCell'=true ∧
          RV w (fun _=>False) nob [] ((row (B i)).getD j .any) ((w.cell? ⟨bl,off+i * k+j,none⟩).getD undef):=by
        intro i j hi hj
        obtain ⟨c1,_,hl1,hc1,hr⟩:=hB i hi
        have h2:=(World.cells?_some hc1).2.2 j hj
        rw [hadd,List.getElem?_eq_getElem (by omega)] at h2
        rw [h2]
        have h3:=hr j hj
        rw [List.getD_eq_getElem?_getD,List.getElem?_eq_getElem (show j < c1.length by omega)] at h3
        exact ⟨rfl,h3⟩
      refine ⟨(List.range len).map B,⟨by simpa using hlen2,fun b hb=>?_⟩,rfl,fun i hi=>?_⟩
      · obtain ⟨i,hi,rfl⟩:=List.mem_map.1 hb
        obtain ⟨c1,hp,_⟩:=hB i (List.mem_range.1 hi)
        exact hp
      · obtain rfl:i=0:=by simpa using hi
        refine ⟨rfl,?_⟩
        have hget:∀ e,e < len→(((List.range len).map B).map row).getD e []=row (B e):=fun e he=>by simp [List.getD_eq_getElem?_getD,he]
        have hlm:(((List.range len).map B).map row).length=len:=by simp
        have:=RV.sl (w:=w) (X:=fun _=>False) (β:=nob) (σ:=[]) k (((List.range len).map B).map row) bl off cap (fun i j=>(w.cell? ⟨bl,off+i * k+j,none⟩).getD undef) (by rw [hlm]; exact hlc)
          (fun e he=>by rw [hlm] at he; rw [hget e he]; exact hl _) (fun e he j hj=>by rw [hlm] at he; exact (hcell e j he hj).1) (fun e j he hj hx=>hx)
          (fun e j he hj=>by rw [hlm] at he; exact (hcell e j he hj).2.1) (fun e j he hj=>by rw [hlm] at he; rw [hget e he]; exact (hcell e j he hj).2.2)
        rw [hlm] at this
        exact this
structure OpensF (P:Program) (fs:List Field) (off:Nat) (α:Type) (row:α→List AV) (Pr:α→Prop):Prop where
  go:∀ {H:Type} (enc:TypeId × Value→H) (w:World) (base:Nat) (sp:Nat→Bool) (held:Bool) (fuel:Nat) (cs:List Value) (xs:List (DataW H × List MemPlace)),
    (fs.mapM fun f=>DataW.trod enc P w base sp held fuel f.type ((cs.drop f.offset).take (P.cellsOf f.type)))=some xs →
    ∃ a:α,Pr a∧∀ i,i < (row a).length→off+i < cs.length∧(cs.getD (off+i) undef).oneCell'=true∧RV w (fun _=>False) nob [] ((row a).getD i .any) (cs.getD (off+i) undef)
theorem opensF_nil (off:Nat):OpensF P [] off Unit (fun _=>[]) (fun _=>True) :=
  ⟨fun enc w base sp held fuel cs xs _=>⟨(),trivial,fun i hi=>absurd hi (Nat.not_lt_zero _)⟩⟩
theorem opensF_cons {f:Field} {fs:List Field} {off k:Nat} {α β:Type} {row:α→List AV} {rows:β→List AV} {Pr:α→Prop} {Prs:β→Prop} (ho:f.offset=off) (hk:P.cellsOf f.type=k) (h:Opens P f.type α row Pr)
    (hl:∀ a,(row a).length=k) (hs:OpensF P fs (off+k) β rows Prs):OpensF P (f::fs) off (α × β) (fun p=>row p.1++rows p.2) (fun p=>Pr p.1∧Prs p.2):=by
  constructor
  intro H enc w base sp held fuel cs xs hx
  rw [List.mapM_cons] at hx
  simp only [Option.bind_eq_bind,Option.bind_eq_some_iff] at hx
  obtain ⟨y,hy,ys,hys,_⟩:=hx
  rw [ho,hk] at hy
  obtain ⟨a,hp,hla,hr⟩:=h.go enc w base sp held fuel _ _ hy
  obtain ⟨b,hq,hr'⟩:=hs.go enc w base sp held fuel cs ys hys
  rw [hl] at hla
  have hlen:off+k≤cs.length∨k=0:=by simp at hla; omega
  refine ⟨(a,b),⟨hp,hq⟩,fun i hi=>?_⟩
  by_cases h1:i < k
  · have hi':i < ((cs.drop off).take k).length:=by omega
    obtain ⟨g1,g2⟩:=hr i hi'
    have e:((cs.drop off).take k).getD i undef=cs.getD (off+i) undef:=by
      simp only [List.getD_eq_getElem?_getD,List.getElem?_take,h1,if_true,List.getElem?_drop]
    rw [e] at g1 g2
    refine ⟨by omega,g1,?_⟩
    rw [getD_append,if_pos (by rw [hl]; exact h1)]
    exact g2
  · have:=hr' (i - k) (by simp [hl] at hi; omega)
    rw [show off+k+(i - k)=off+i by omega] at this
    refine ⟨this.1,this.2.1,?_⟩
    rw [getD_append,if_neg (by rw [hl]; omega),hl]
    exact this.2.2
theorem opens_struct {t:TypeId} {fs:Array Field} {k:Nat} {α:Type} {row:α→List AV} {Pr:α→Prop} (ht:P.underlying t=some (.struct fs)) (hk:P.cellsOf t=k) (hl:∀ a,(row a).length=k) (h:OpensF P fs.toList 0 α row Pr) :
    Opens P t α row Pr:=by
  constructor
  intro H enc w base sp held fuel cs x hx
  cases fuel with
  | zero=>simp [DataW.trod] at hx
  | succ m =>
    unfold DataW.trod at hx
    rw [ht] at hx
    have hx':(if cs.length=P.cellsOf t then (fs.toList.mapM fun f=>DataW.trod enc P w base sp held m f.type ((cs.drop f.offset).take (P.cellsOf f.type))).map (fun xs=>((DataW.agg (xs.map (·.1)),xs.flatMap (·.2)):DataW H × List MemPlace)) else none)=some x:=by
      split at hx <;> first | (simp at *; done) | skip
      all_goals (try (rename_i heq; cases heq))
      exact hx
    split at hx'
    case isFalse=>cases hx'
    rename_i hlen
    rw [Option.map_eq_some_iff] at hx'
    obtain ⟨xs,hxs,_⟩:=hx'
    obtain ⟨a,hp,hr⟩:=h.go enc w base sp held m cs xs hxs
    refine ⟨a,hp,by rw [hl,hlen,hk],fun i hi=>?_⟩
    have:=hr i (by rw [hl,← hk,← hlen]; exact hi)
    rw [Nat.zero_add] at this
    exact this.2
theorem Opens.one {t:TypeId} {α:Type} {av:α→AV} {Pr:α→Prop} (h:Opens P t α (fun a=>[av a]) Pr) {H:Type} {enc:TypeId × Value→H} {w:World} {base:Nat} {sp:Nat→Bool} {held:Bool} {v:Value} {d:DataW H} {ps:List MemPlace}
    (hv:v.oneCell'=true) (hx:DataW.Trod enc P w base sp held t v d ps):∃ a,Pr a∧RV w (fun _=>False) nob [] (av a) v:=by
  obtain ⟨fuel,hx⟩:=hx
  obtain ⟨a,hp,hl,hr⟩:=h.go enc w base sp held fuel _ _ hx
  have e:v.cells.toList=[v]:=by cases v <;> first | rfl | simp [Value.oneCell'] at hv
  rw [e] at hr
  exact ⟨a,hp,(hr 0 (by simp)).2⟩
theorem Opens.agg {t:TypeId} {α:Type} {row:α→List AV} {Pr:α→Prop} (h:Opens P t α row Pr) {H:Type} {enc:TypeId × Value→H} {w:World} {base:Nat} {sp:Nat→Bool} {held:Bool} {cs:Array Value} {d:DataW H} {ps:List MemPlace}
    (hx:DataW.Trod enc P w base sp held t (.agg cs) d ps):∃ a,Pr a∧RV w (fun _=>False) nob [] (.agg (row a)) (.agg cs):=by
  obtain ⟨fuel,hx⟩:=hx
  obtain ⟨a,hp,hl,hr⟩:=h.go enc w base sp held fuel _ _ hx
  have e:(Value.agg cs).cells.toList=cs.toList:=rfl
  rw [e] at hl hr
  refine ⟨a,hp,.agg _ _ (by simpa using hl) (fun i hi=>?_) fun i hi=>?_⟩
  · have:=(hr i (by rw [hl]; exact hi)).1
    simpa [List.getD_eq_getElem?_getD,Array.getD_eq_getD_getElem?] using this
  · have:=(hr i (by rw [hl]; exact hi)).2
    simpa [List.getD_eq_getElem?_getD,Array.getD_eq_getD_getElem?] using this
end Go.Abs
namespace Go.Proofs.YtolgelipcgcbhaaGreat
open Go.Abs
open Nat (reduceAdd reduceSub reduceLT reduceLeDiff reduceMul reduceEqDiff)
set_option linter.unusedVariables false
set_option linter.unusedSimpArgs false
set_option maxHeartbeats 4000000
set_option maxRecDepth 100000
open Go.ChangeShapes Go.WideShapes Go.ChangeAt Go.RowKit
theorem own:ownKnob Tryz.prog.godebug=none:=by kernel_rfl
theorem laidOut:laidOutB Tryz.prog=true:=by kernel_rfl
theorem mapsR:mapsRowed Tryz.prog=true:=by kernel_rfl
theorem stopsN:(Tryz.prog.stops == [])=true:=by kernel_rfl
theorem knobsN:(Tryz.prog.stopKnobs == [])=true:=by kernel_rfl
theorem plainK:(Rows.archiveOrderRow.plainKeys == Tryz.prog.plainKeys)=true:=by kernel_rfl
theorem heardS:Tryz.prog.stopsHeard=true:=by kernel_rfl
theorem entersM:Tryz.prog.mayEnter=true:=by kernel_rfl
theorem liftsF:(Rows.archiveOrderRow.lifted == Tryz.prog.liftsFinal)=true:=by kernel_rfl
theorem makeP:(Tryz.prog.make == some Rows.archiveOrderRow.make)=true:=by kernel_rfl
theorem bband {a b:Bool} (h:a=true) (h':b=true):(a && b)=true:=by rw [h,h']; rfl
theorem cells3:Tryz.prog.cellsOf 3=1:=by kernel_rfl
theorem cells48:Tryz.prog.cellsOf 48=2:=by kernel_rfl
theorem cells226:Tryz.prog.cellsOf 226=3:=by kernel_rfl
theorem cells164:Tryz.prog.cellsOf 164=3:=by kernel_rfl
theorem cells50:Tryz.prog.cellsOf 50=10:=by kernel_rfl
theorem cells51:Tryz.prog.cellsOf 51=1:=by kernel_rfl
theorem cells52:Tryz.prog.cellsOf 52=1:=by kernel_rfl
theorem cells53:Tryz.prog.cellsOf 53=1:=by kernel_rfl
theorem cells54:Tryz.prog.cellsOf 54=1:=by kernel_rfl
theorem cells56:Tryz.prog.cellsOf 56=2:=by kernel_rfl
theorem cells58:Tryz.prog.cellsOf 58=4:=by kernel_rfl
theorem cells60:Tryz.prog.cellsOf 60=18:=by kernel_rfl
theorem cells62:Tryz.prog.cellsOf 62=3:=by kernel_rfl
theorem cells64:Tryz.prog.cellsOf 64=5:=by kernel_rfl
theorem cells66:Tryz.prog.cellsOf 66=3:=by kernel_rfl
theorem cells29:Tryz.prog.cellsOf 29=2:=by kernel_rfl
theorem cells68:Tryz.prog.cellsOf 68=38:=by kernel_rfl
theorem cells107:Tryz.prog.cellsOf 107=1:=by kernel_rfl
theorem cells109:Tryz.prog.cellsOf 109=4:=by kernel_rfl
theorem cells22:Tryz.prog.cellsOf 22=1:=by kernel_rfl
theorem cells24:Tryz.prog.cellsOf 24=2:=by kernel_rfl
theorem cells26:Tryz.prog.cellsOf 26=6:=by kernel_rfl
theorem op3:Opens Tryz.prog 3 Int (fun z=>[n z]) (fun _=>True):=(opens_int Tryz.underlying3).to id (fun _=>rfl) (fun _ _=>trivial)
theorem op48:Opens Tryz.prog 48 Sp Sp.cs (fun _=>True) :=
  (opens_struct Tryz.underlying48 cells48 (fun _=>rfl) (opensF_cons rfl cells3 op3 (fun _=>rfl) (opensF_cons rfl cells3 op3 (fun _=>rfl) (opensF_nil _)))).to (fun a=>⟨a.1,a.2.1⟩) (fun _=>rfl) (fun _ _=>trivial)
theorem op226:Opens Tryz.prog 226 Mk Mk.cs (fun _=>True) :=
  (opens_struct Tryz.underlying226 cells226 (fun _=>rfl) (opensF_cons rfl cells3 op3 (fun _=>rfl) (opensF_cons rfl cells48 op48 (fun _=>rfl) (opensF_nil _)))).to (fun a=>⟨a.1,a.2.1⟩) (fun _=>rfl) (fun _ _=>trivial)
theorem op62:Opens Tryz.prog 62 Mk Mk.cs (fun _=>True) :=
  (opens_struct Tryz.underlying62 cells62 (fun _=>rfl) (opensF_cons rfl cells3 op3 (fun _=>rfl) (opensF_cons rfl cells48 op48 (fun _=>rfl) (opensF_nil _)))).to (fun a=>⟨a.1,a.2.1⟩) (fun _=>rfl) (fun _ _=>trivial)
theorem op164:Opens Tryz.prog 164 Pt Pt.cs (fun _=>True) :=
  (opens_struct Tryz.underlying164 cells164 (fun _=>rfl) (opensF_cons rfl cells3 op3 (fun _=>rfl) (opensF_cons rfl cells3 op3 (fun _=>rfl) (opensF_cons rfl cells3 op3 (fun _=>rfl) (opensF_nil _))))).to (fun a=>⟨a.1,a.2.1,a.2.2.1⟩) (fun _=>rfl) (fun _ _=>trivial)
theorem op50:Opens Tryz.prog 50 Ppr Ppr.cs (fun _=>True) :=
  (opens_struct Tryz.underlying50 cells50 (fun _=>rfl) (opensF_cons rfl cells3 op3 (fun _=>rfl) (opensF_cons rfl cells3 op3 (fun _=>rfl) (opensF_cons rfl cells3 op3 (fun _=>rfl) (opensF_cons rfl cells3 op3 (fun _=>rfl) (opensF_cons rfl cells3 op3 (fun _=>rfl) (opensF_cons rfl cells3 op3 (fun _=>rfl) (opensF_cons rfl cells48 op48 (fun _=>rfl) (opensF_cons rfl cells48 op48 (fun _=>rfl) (opensF_nil _)))))))))).to (fun a=>⟨a.1,a.2.1,a.2.2.1,a.2.2.2.1,a.2.2.2.2.1,a.2.2.2.2.2.1,a.2.2.2.2.2.2.1,a.2.2.2.2.2.2.2.1⟩) (fun _=>rfl) (fun _ _=>trivial)
theorem op51:Opens Tryz.prog 51 (List Pt) (fun l=>[ptS l]) (fun l=>l.length < 9223372036854775808) :=
  (opens_slice Tryz.underlying51 cells164 (by decide) op164 (fun _=>rfl)).to id (fun _=>rfl) (fun _ h=>h.1)
theorem op52:Opens Tryz.prog 52 (List Int) (fun l=>[inS l]) (fun l=>l.length < 9223372036854775808) :=
  (opens_slice Tryz.underlying52 cells3 (by decide) op3 (fun _=>rfl)).to id (fun _=>rfl) (fun _ h=>h.1)
theorem op53:Opens Tryz.prog 53 (List Sp) (fun l=>[spnS l]) (fun l=>l.length < 9223372036854775808) :=
  (opens_slice Tryz.underlying53 cells48 (by decide) op48 (fun _=>rfl)).to id (fun _=>rfl) (fun _ h=>h.1)
theorem op54:Opens Tryz.prog 54 (List Mk) (fun l=>[mkS l]) (fun l=>l.length < 9223372036854775808) :=
  (opens_slice Tryz.underlying54 cells226 (by decide) op226 (fun _=>rfl)).to id (fun _=>rfl) (fun _ h=>h.1)
theorem op56:Opens Tryz.prog 56 (List Sp × List Mk) (fun d=>[spnS d.1,mkS d.2]) (fun d=>d.1.length < 9223372036854775808∧d.2.length < 9223372036854775808) :=
  (opens_struct Tryz.underlying56 cells56 (fun _=>rfl) (opensF_cons rfl cells53 op53 (fun _=>rfl) (opensF_cons rfl cells54 op54 (fun _=>rfl) (opensF_nil _)))).to (fun a=>⟨a.1,a.2.1⟩) (fun _=>rfl) (fun _ h=>⟨h.1,h.2.1⟩)
theorem op58:Opens Tryz.prog 58 Pn Pn.cs (fun _=>True) :=
  (opens_struct Tryz.underlying58 cells58 (fun _=>rfl) (opensF_cons rfl cells3 op3 (fun _=>rfl) (opensF_cons rfl cells48 op48 (fun _=>rfl) (opensF_cons rfl cells3 op3 (fun _=>rfl) (opensF_nil _))))).to (fun a=>⟨a.1,a.2.1,a.2.2.1⟩) (fun _=>rfl) (fun _ _=>trivial)
theorem op60:Opens Tryz.prog 60 Sht Sht.cs shtSz :=
  (opens_struct Tryz.underlying60 cells60 (fun _=>rfl) (opensF_cons rfl cells50 op50 (fun _=>rfl) (opensF_cons rfl cells51 op51 (fun _=>rfl) (opensF_cons rfl cells52 op52 (fun _=>rfl) (opensF_cons rfl cells56 op56 (fun _=>rfl) (opensF_cons rfl cells58 op58 (fun _=>rfl) (opensF_nil _))))))).to (fun a=>⟨a.1,a.2.1,a.2.2.1,a.2.2.2.1.1,a.2.2.2.1.2,a.2.2.2.2.1⟩) (fun _=>rfl) (fun _ h=>⟨h.2.1,h.2.2.1,h.2.2.2.1.1,h.2.2.2.1.2⟩)
theorem op64:Opens Tryz.prog 64 Rd Rd.cs (fun _=>True) :=
  (opens_struct Tryz.underlying64 cells64 (fun _=>rfl) (opensF_cons rfl cells3 op3 (fun _=>rfl) (opensF_cons rfl cells3 op3 (fun _=>rfl) (opensF_cons rfl cells3 op3 (fun _=>rfl) (opensF_cons rfl cells48 op48 (fun _=>rfl) (opensF_nil _)))))).to (fun a=>⟨a.1,a.2.1,a.2.2.1,a.2.2.2.1⟩) (fun _=>rfl) (fun _ _=>trivial)
theorem op66:Opens Tryz.prog 66 Hgt Hgt.cs (fun _=>True) :=
  (opens_struct Tryz.underlying66 cells66 (fun _=>rfl) (opensF_cons rfl cells3 op3 (fun _=>rfl) (opensF_cons rfl cells48 op48 (fun _=>rfl) (opensF_nil _)))).to (fun a=>⟨a.1,a.2.1⟩) (fun _=>rfl) (fun _ _=>trivial)
theorem op29:Opens Tryz.prog 29 Nm Nm.cs (fun _=>True) :=
  (opens_struct Tryz.underlying29 cells29 (fun _=>rfl) (opensF_cons rfl cells3 op3 (fun _=>rfl) (opensF_cons rfl cells3 op3 (fun _=>rfl) (opensF_nil _)))).to (fun a=>⟨a.1,a.2.1⟩) (fun _=>rfl) (fun _ _=>trivial)
theorem op68:Opens Tryz.prog 68 Nt Nt.cs ntSz :=
  (opens_struct Tryz.underlying68 cells68 (fun _=>rfl) (opensF_cons rfl cells3 op3 (fun _=>rfl) (opensF_cons rfl cells3 op3 (fun _=>rfl) (opensF_cons rfl cells3 op3 (fun _=>rfl) (opensF_cons rfl cells3 op3 (fun _=>rfl) (opensF_cons rfl cells3 op3 (fun _=>rfl) (opensF_cons rfl cells3 op3 (fun _=>rfl) (opensF_cons rfl cells3 op3 (fun _=>rfl) (opensF_cons rfl cells60 op60 (fun _=>rfl) (opensF_cons rfl cells62 op62 (fun _=>rfl) (opensF_cons rfl cells64 op64 (fun _=>rfl) (opensF_cons rfl cells66 op66 (fun _=>rfl) (opensF_cons rfl cells29 op29 (fun _=>rfl) (opensF_nil _)))))))))))))).to (fun a=>⟨a.1,a.2.1,a.2.2.1,a.2.2.2.1,a.2.2.2.2.1,a.2.2.2.2.2.1,a.2.2.2.2.2.2.1,a.2.2.2.2.2.2.2.1,a.2.2.2.2.2.2.2.2.1,a.2.2.2.2.2.2.2.2.2.1,a.2.2.2.2.2.2.2.2.2.2.1,a.2.2.2.2.2.2.2.2.2.2.2.1⟩) (fun _=>rfl) (fun _ h=>h.2.2.2.2.2.2.2.1)
theorem op27:Opens Tryz.prog 27 (List Nt) (fun l=>[ntS l]) setSz :=
  (opens_slice Tryz.underlying27 cells68 (by decide) op68 (fun _=>rfl)).to id (fun _=>rfl) (fun _ h=>h)
theorem op107:Opens Tryz.prog 107 (List Hgt) (fun l=>[hgS l]) (fun l=>l.length < 9223372036854775808) :=
  (opens_slice Tryz.underlying107 cells66 (by decide) op66 (fun _=>rfl)).to id (fun _=>rfl) (fun _ h=>h.1)
theorem op109:Opens Tryz.prog 109 Stn Stn.cs (fun s=>s.heights.length < 9223372036854775808) :=
  (opens_struct Tryz.underlying109 cells109 (fun _=>rfl) (opensF_cons rfl cells3 op3 (fun _=>rfl) (opensF_cons rfl cells3 op3 (fun _=>rfl) (opensF_cons rfl cells3 op3 (fun _=>rfl) (opensF_cons rfl cells107 op107 (fun _=>rfl) (opensF_nil _)))))).to (fun a=>⟨a.1,a.2.1,a.2.2.1,a.2.2.2.1⟩) (fun _=>rfl) (fun _ h=>h.2.2.2.1)
theorem op22:Opens Tryz.prog 22 (List Stn) (fun l=>[snS l]) stnSz :=
  (opens_slice Tryz.underlying22 cells109 (by decide) op109 (fun _=>rfl)).to id (fun _=>rfl) (fun _ h=>h)
theorem op24:Opens Tryz.prog 24 (Int × Int) (fun d=>[n d.1,n d.2]) (fun _=>True) :=
  (opens_struct Tryz.underlying24 cells24 (fun _=>rfl) (opensF_cons rfl cells3 op3 (fun _=>rfl) (opensF_cons rfl cells3 op3 (fun _=>rfl) (opensF_nil _)))).to (fun a=>⟨a.1,a.2.1⟩) (fun _=>rfl) (fun _ _=>trivial)
theorem op26:Opens Tryz.prog 26 Bse Bse.cs bseSz :=
  (opens_struct Tryz.underlying26 cells26 (fun _=>rfl) (opensF_cons rfl cells22 op22 (fun _=>rfl) (opensF_cons rfl cells24 op24 (fun _=>rfl) (opensF_cons rfl cells3 op3 (fun _=>rfl) (opensF_cons rfl cells3 op3 (fun _=>rfl) (opensF_cons rfl cells3 op3 (fun _=>rfl) (opensF_nil _))))))).to (fun a=>⟨a.1,a.2.1.1,a.2.1.2,a.2.2.1,a.2.2.2.1,a.2.2.2.2.1⟩) (fun _=>rfl) (fun _ h=>h.1)
section
variable {H:Type} {enc:TypeId × Value→H} {w:World} {r:Reach} {base b0:Nat} {sp:Nat→Bool} {held:Bool} {v:Value} {d:DataW H} {ps:List MemPlace}
theorem open_bse (h:Value.okWide Tryz.prog w r base 26 v) (hx:DataW.Trod enc Tryz.prog w b0 sp held 26 v d ps):∃ x:Bse,bseSz x∧RV w (fun _=>False) nob [] (.agg x.cs) v:=by
  obtain ⟨cs,rfl,_⟩:=okWide_struct Tryz.underlying26 h
  exact op26.agg hx
theorem open_set (h:Value.okWide Tryz.prog w r base 27 v) (hx:DataW.Trod enc Tryz.prog w b0 sp held 27 v d ps):∃ l:List Nt,setSz l∧RV w (fun _=>False) nob [] (ntS l) v:=by
  obtain ⟨a,len,cap,rfl⟩:=okWide_slice Tryz.underlying27 h
  exact op27.one rfl hx
end
end Go.Proofs.YtolgelipcgcbhaaGreat
