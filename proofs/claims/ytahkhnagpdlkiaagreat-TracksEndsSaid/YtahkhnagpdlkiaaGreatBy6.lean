/- Part 6 of the texts that the claim rests on: abstract values over the walk, and contracts of functions. -/
import Derived.Test.YtahkhnagpdlkiaaGreatBy5
import Derived.Test.YtahkhnagpdlkiaaGreatRows
namespace Go.Proofs.YtahkhnagpdlkiaaGreat
open Go.Abs
open Nat (reduceAdd reduceSub reduceLT reduceLeDiff reduceMul reduceEqDiff)
set_option linter.unusedVariables false
set_option linter.unusedSimpArgs false
set_option maxHeartbeats 4000000
set_option maxRecDepth 100000
def c110:CF:=⟨12,
 (.seq (.ops [
 ⟨some 1,.box false 24 1 (.t 0),none⟩,
 ⟨some 2,.mv (.c (.bool false)),none⟩] [1])
 (.seq (.draw [
 ⟨some 3,.load (some 1) (.t 1),none⟩,
 ⟨some 4,.call (.f 71) [(.t 3)],none⟩,
 ⟨some 5,.faddr 0 (.t 1),none⟩,
 ⟨some 6,.load none (.t 5),none⟩,
 ⟨some 7,.len (.t 6),none⟩,
 ⟨some 8,.bin .sub (.t 7) (.c (.int .i64 1)),none⟩,
 ⟨some 9,.iaddr 1 (.t 4) (.t 8),none⟩,
 ⟨some 10,.load none (.t 9),none⟩,
 ⟨some 11,.call (.f 72) [(.t 10)],none⟩,
 ⟨some 2,.mv (.t 11),none⟩] [
 ] [2])
 .ret)),
 [.t 2]⟩
def c90:CF:=⟨19,
 (.seq (.ops [
 ⟨some 2,.box false 24 1 (.t 0),none⟩,
 ⟨some 4,.mv (.c (.int .i64 0)),none⟩] [1,2])
 (.seq (.seq (.ops [
 ⟨some 6,.load (some 1) (.t 2),none⟩,
 ⟨some 7,.call (.f 53) [(.t 6)],none⟩,
 ⟨some 5,.mv (.t 7),none⟩] [1,2,5])
 (.seq (.ops [
 ⟨some 8,.mv (.t 5),none⟩,
 ⟨some 9,.bin .neq (.t 8) (.c (.int .i64 0)),none⟩] [1,2,5,9])
 (.cond (.t 9) (.seq (.ops [
 ⟨some 10,.mv (.t 5),none⟩,
 ⟨some 4,.mv (.t 10),none⟩] [4])
 .ret)
 .skip)))
 (.seq (.block 0 (.seq (.ops [
 ⟨some 12,.mv (.t 1),none⟩,
 ⟨some 13,.call (.t 12) [],none⟩,
 ⟨some 14,.un .not (.t 13),none⟩,
 ⟨some 11,.mv (.t 14),none⟩] [2,11])
 (.cond (.t 11) (.seq (.ops [
 ⟨some 4,.mv (.c (.int .i64 1)),none⟩] [4])
 .ret)
 (.seq (.ops [
 ⟨some 16,.load (some 1) (.t 2),none⟩,
 ⟨some 17,.call (.f 110) [(.t 16)],none⟩,
 ⟨some 18,.un .not (.t 17),none⟩,
 ⟨some 15,.mv (.t 18),none⟩] [15])
 (.cond (.t 15) (.seq (.ops [
 ⟨some 4,.mv (.c (.int .i64 42)),none⟩] [4])
 .ret)
 .skip)))))
 (.seq (.ops [
 ⟨some 4,.mv (.c (.int .i64 0)),none⟩] [4])
 .ret)))),
 [.t 4]⟩
def c92:CF:=⟨14,
 (.seq (.ops [
 ⟨some 2,.box false 24 1 (.t 0),none⟩,
 ⟨some 4,.mv (.c (.bool false)),none⟩] [1,2])
 (.seq (.ops [
 ⟨some 5,.mv (.t 1),none⟩,
 ⟨some 6,.bin .geq (.t 5) (.c (.int .i64 0)),none⟩,
 ⟨some 7,.mv (.t 6),none⟩,
 ⟨some 8,.mv (.t 1),some (7,true)⟩,
 ⟨some 9,.faddr 0 (.t 2),some (7,true)⟩,
 ⟨some 10,.load none (.t 9),some (7,true)⟩,
 ⟨some 11,.len (.t 10),some (7,true)⟩,
 ⟨some 12,.bin .lss (.t 8) (.t 11),some (7,true)⟩,
 ⟨some 13,.pick (.t 7) (.t 12) (.c (.bool false)),none⟩,
 ⟨some 4,.mv (.t 13),none⟩] [4])
 .ret)),
 [.t 4]⟩
def c91:CF:=⟨6,
 (.seq (.ops [
 ⟨some 2,.mv (.c (.bool false)),none⟩] [0,1])
 (.seq (.ops [
 ⟨some 3,.load (some 1) (.t 0),none⟩,
 ⟨some 4,.load none (.t 1),none⟩,
 ⟨some 5,.call (.f 92) [(.t 3),(.t 4)],none⟩,
 ⟨some 2,.mv (.t 5),none⟩] [2])
 .ret)),
 [.t 2]⟩
def c36:CF:=⟨21,
 (.seq (.ops [
 ⟨some 2,.box false 24 1 (.t 0),none⟩,
 ⟨some 3,.box false 3 1 (.t 1),none⟩,
 ⟨some 4,.mv (.c (.slice none 0 0)),none⟩,
 ⟨some 5,.mv (.c (.int .i64 0)),none⟩] [2,3])
 (.seq (.seq (.ops [
 ⟨some 7,.load (some 1) (.t 2),none⟩,
 ⟨some 8,.mkfn (.func 91) [] [(.t 2),(.t 3)],none⟩,
 ⟨some 9,.call (.f 90) [(.t 7),(.t 8)],none⟩,
 ⟨some 6,.mv (.t 9),none⟩] [2,3,6])
 (.seq (.ops [
 ⟨some 10,.mv (.t 6),none⟩,
 ⟨some 11,.bin .neq (.t 10) (.c (.int .i64 0)),none⟩] [2,3,6,11])
 (.cond (.t 11) (.seq (.ops [
 ⟨some 12,.mv (.t 6),none⟩,
 ⟨some 4,.mv (.c (.slice none 0 0)),none⟩,
 ⟨some 5,.mv (.t 12),none⟩] [4,5])
 .ret)
 .skip)))
 (.seq (.draw [
 ⟨some 13,.load (some 1) (.t 2),none⟩,
 ⟨some 14,.call (.f 88) [(.t 13)],none⟩,
 ⟨some 15,.load none (.t 3),none⟩,
 ⟨some 16,.iaddr 1 (.t 14) (.t 15),none⟩,
 ⟨some 17,.load none (.t 16),none⟩,
 ⟨some 18,.call (.f 94) [(.t 17)],none⟩,
 ⟨some 19,.call (.f 93) [(.t 18)],none⟩,
 ⟨some 20,.call (.f 79) [(.t 19)],none⟩,
 ⟨some 4,.mv (.t 20),none⟩,
 ⟨some 5,.mv (.c (.int .i64 0)),none⟩] [
 ] [4,5])
 .ret))),
 [.t 4,.t 5]⟩
def c47:CF:=⟨12,
 (.seq (.ops [
 ⟨some 1,.box false 24 1 (.t 0),none⟩,
 ⟨some 2,.mv (.c (.bool false)),none⟩,
 ⟨some 3,.mv (.c (.int .i64 0)),none⟩] [1])
 (.seq (.seq (.ops [
 ⟨some 5,.load (some 1) (.t 1),none⟩,
 ⟨some 6,.call (.f 53) [(.t 5)],none⟩,
 ⟨some 4,.mv (.t 6),none⟩] [1,4])
 (.seq (.ops [
 ⟨some 7,.mv (.t 4),none⟩,
 ⟨some 8,.bin .neq (.t 7) (.c (.int .i64 0)),none⟩] [1,4,8])
 (.cond (.t 8) (.seq (.ops [
 ⟨some 9,.mv (.t 4),none⟩,
 ⟨some 2,.mv (.c (.bool false)),none⟩,
 ⟨some 3,.mv (.t 9),none⟩] [2,3])
 .ret)
 .skip)))
 (.seq (.ops [
 ⟨some 10,.load (some 1) (.t 1),none⟩,
 ⟨some 11,.call (.f 110) [(.t 10)],none⟩,
 ⟨some 2,.mv (.t 11),none⟩,
 ⟨some 3,.mv (.c (.int .i64 0)),none⟩] [2,3])
 .ret))),
 [.t 2,.t 3]⟩
theorem k110:chkF Tryz.prog Tryz.f110 c110=true:=by kernel_rfl
theorem k90:chkF Tryz.prog Tryz.f90 c90=true:=by kernel_rfl
theorem k92:chkF Tryz.prog Tryz.f92 c92=true:=by kernel_rfl
theorem k91:chkF Tryz.prog Tryz.f91 c91=true:=by kernel_rfl
theorem k36:chkF Tryz.prog Tryz.f36 c36=true:=by kernel_rfl
theorem k47:chkF Tryz.prog Tryz.f47 c47=true:=by kernel_rfl
theorem fwds_get {t:Trk} {k:Nat} (h:k < t.length):((fwds t).map fun l=>[nodS l]).getD k []=[nodS (fwd t k)]:=getD_map (by simp [fwds,h])
theorem allvs_get {t:Trk} {k:Nat} (h:k < t.length):((allvs t).map fun l=>[nodS l]).getD k []=[nodS (allv t k)]:=getD_map (by simp [allvs,h])
theorem fwds_len (t:Trk):(fwds t).length=t.length:=by simp [fwds]
theorem bwds_len (t:Trk):(bwds t).length=t.length:=by simp [bwds]
theorem allvs_len (t:Trk):(allvs t).length=t.length:=by simp [allvs]
theorem feasible_spec (t:Trk) (h:valid t):Pure Tryz.prog 110 [trS t] (bl (feas t)):=by
  refine Pure.of_body Tryz.call110 Tryz.func110 k110 (Nat.le_of_ble_eq_true rfl) ?_
  unfold c110
  have h1:=h.1
  have h2:=h.2.1
  have hg:=fwds_get (t:=t) (k:=t.length - 1) (by omega)
  have hi:((t.length:Int) - 1).toNat=t.length - 1:=by omega
  have hl:=fwds_len t
  have hw:=wd_le h (t.length - 1)
  have hs:=some_spec (fwd t (t.length - 1)) (by rw [fwd_len]; omega) (fun x hx=>by have:=good_len (fwd_goods h _ x hx); omega)
  (repeat' ((first
 | refine vn rfl ?_
 | simp (disch:=omega) only [wr64,Int.zero_sub]
 | refine bo (fun _=>?_) fun _=>?_
 | refine im fun _=>?_
 | ((repeat refine si ?_); (first | ((first | refine .inl ⟨_,_,_,_,rfl,fun _=>pu (by first | exact forward_spec t h | exact hs),?_⟩ | refine ⟨_,_,_,_,rfl,fun _=>pu (by first | exact forward_spec t h | exact hs),?_⟩); (first | refine o1 ?_ | refine o2 ?_ | refine o3 ?_ | refine o4 ?_)) | refine .inl ⟨_,_,_,_,rfl,pu (by first | exact forward_spec t h | exact hs),?_⟩))
 | refine cF ?_
 | refine om ?_
 | refine an ?_
 | fail) <;> try simp only [zT,zV,zS,zU,vcC,lateX,ex,strp,binA,elems,cells,scalar,eqC,keyA,intsA,lookA,ofVs,mpOf,Nat.reduceBEq,reduceAdd,reduceSub,reduceLT,reduceLeDiff,reduceMul,reduceEqDiff,reduceIte,hg,hi,hl]))
  all_goals try (exfalso; omega)
  all_goals exact Frz.eq rfl (by simp)
noncomputable def askE (t:Trk) (b:Bool):Int:=if tr (valid t)=true then (if b=true then (if feas t=true then 0 else 42) else 1) else 40
theorem askE0 {t:Trk} {b:Bool}:askE t b=0↔valid t∧b=true∧feas t=true:=by
  unfold askE
  by_cases h:valid t
  · rw [tr_1 h]
    cases b <;> cases feas t <;> simp [h]
  · rw [tr_0 h]; simp [h]
theorem asked_spec (t:Trk) (hs:trkSz t) (f:Nat) (caps:List AV) (hcap:∀ c∈caps,PureV c) (b:Bool) (hq:valid t→Pure Tryz.prog f caps (bl b)) :
    Pure Tryz.prog 90 [trS t,.fn (.func f) [] caps] (n (askE t b)):=by
  refine Pure.of_body Tryz.call90 Tryz.func90 k90 (Nat.le_of_ble_eq_true rfl) ?_
  unfold c90
  have hc:=Check_spec t hs
  unfold askE
  by_cases hv:valid t
  · rw [tr_1 hv] at hc ⊢
    simp only [if_true] at hc ⊢
    have hq:=hq hv
    have hf:=feasible_spec t hv
    (repeat' ((first
 | refine vn rfl ?_
 | simp (disch:=omega) only [wr64,Int.zero_sub]
 | refine bo (fun _=>?_) fun _=>?_
 | refine im fun _=>?_
 | ((repeat refine si ?_); (first | ((first | refine .inl ⟨_,_,_,_,rfl,fun _=>pu hc,?_⟩ | refine ⟨_,_,_,_,rfl,fun _=>pu hc,?_⟩); (first | refine o1 ?_ | refine o2 ?_ | refine o3 ?_ | refine o4 ?_)) | refine .inl ⟨_,_,_,_,rfl,pu hc,?_⟩))
 | refine cF ?_
 | refine om ?_
 | refine an ?_
 | fail) <;> try simp only [zT,zV,zS,zU,vcC,lateX,ex,strp,binA,elems,cells,scalar,eqC,keyA,intsA,lookA,ofVs,mpOf,Nat.reduceBEq,reduceAdd,reduceSub,reduceLT,reduceLeDiff,reduceMul,reduceEqDiff,reduceIte]))
    refine .inl ⟨_,_,_,_,rfl,fun _=>⟨?_,hq⟩,?_⟩
    · simpa using hcap
    refine owp_of_exs ?_
    simp only [zT,zV,zS,zU,vcC,lateX,ex,strp,binA,elems,cells,scalar,eqC,keyA,intsA,lookA,ofVs,mpOf,Nat.reduceBEq,reduceAdd,reduceSub,reduceLT,reduceLeDiff,reduceMul,reduceEqDiff,reduceIte]
    cases b with
    | false =>
      (repeat' ((first
 | refine vn rfl ?_
 | simp (disch:=omega) only [wr64,Int.zero_sub]
 | refine bo (fun _=>?_) fun _=>?_
 | refine im fun _=>?_
 | refine cF ?_
 | refine om ?_
 | refine an ?_
 | fail) <;> try simp only [zT,zV,zS,zU,vcC,lateX,ex,strp,binA,elems,cells,scalar,eqC,keyA,intsA,lookA,ofVs,mpOf,Nat.reduceBEq,reduceAdd,reduceSub,reduceLT,reduceLeDiff,reduceMul,reduceEqDiff,reduceIte]))
      exact Frz.eq rfl (by simp)
    | true =>
      (repeat' ((first
 | refine vn rfl ?_
 | simp (disch:=omega) only [wr64,Int.zero_sub]
 | refine bo (fun _=>?_) fun _=>?_
 | refine im fun _=>?_
 | ((repeat refine si ?_); (first | ((first | refine .inl ⟨_,_,_,_,rfl,fun _=>pu hf,?_⟩ | refine ⟨_,_,_,_,rfl,fun _=>pu hf,?_⟩); (first | refine o1 ?_ | refine o2 ?_ | refine o3 ?_ | refine o4 ?_)) | refine .inl ⟨_,_,_,_,rfl,pu hf,?_⟩))
 | refine cF ?_
 | refine om ?_
 | refine an ?_
 | fail) <;> try simp only [zT,zV,zS,zU,vcC,lateX,ex,strp,binA,elems,cells,scalar,eqC,keyA,intsA,lookA,ofVs,mpOf,Nat.reduceBEq,reduceAdd,reduceSub,reduceLT,reduceLeDiff,reduceMul,reduceEqDiff,reduceIte]))
      · rename_i h
        rw [h]; exact Frz.eq rfl (by simp)
      · rename_i h
        rw [if_pos (by simpa using h)]; exact Frz.eq rfl (by simp)
  · rw [tr_0 hv] at hc ⊢
    simp only [Bool.false_eq_true,if_false] at hc ⊢
    (repeat' ((first
 | refine vn rfl ?_
 | simp (disch:=omega) only [wr64,Int.zero_sub]
 | refine bo (fun _=>?_) fun _=>?_
 | refine im fun _=>?_
 | ((repeat refine si ?_); (first | ((first | refine .inl ⟨_,_,_,_,rfl,fun _=>pu hc,?_⟩ | refine ⟨_,_,_,_,rfl,fun _=>pu hc,?_⟩); (first | refine o1 ?_ | refine o2 ?_ | refine o3 ?_ | refine o4 ?_)) | refine .inl ⟨_,_,_,_,rfl,pu hc,?_⟩))
 | refine cF ?_
 | refine om ?_
 | refine an ?_
 | fail) <;> try simp only [zT,zV,zS,zU,vcC,lateX,ex,strp,binA,elems,cells,scalar,eqC,keyA,intsA,lookA,ofVs,mpOf,Nat.reduceBEq,reduceAdd,reduceSub,reduceLT,reduceLeDiff,reduceMul,reduceEqDiff,reduceIte]))
    all_goals try (exfalso; omega)
    exact Frz.eq rfl (by simp)
theorem isStageOf_spec (t:Trk) (k:Int):Pure Tryz.prog 92 [trS t,n k] (bl (decide (0≤k∧k < (t.length:Int)))):=by
  refine Pure.of_body Tryz.call92 Tryz.func92 k92 (Nat.le_of_ble_eq_true rfl) ?_
  unfold c92
  (repeat' ((first
 | refine vn rfl ?_
 | simp (disch:=omega) only [wr64,Int.zero_sub]
 | refine bo (fun _=>?_) fun _=>?_
 | refine im fun _=>?_
 | refine cF ?_
 | refine om ?_
 | refine an ?_
 | fail) <;> try simp only [zT,zV,zS,zU,vcC,lateX,ex,strp,binA,elems,cells,scalar,eqC,keyA,intsA,lookA,ofVs,mpOf,Nat.reduceBEq,reduceAdd,reduceSub,reduceLT,reduceLeDiff,reduceMul,reduceEqDiff,reduceIte]))
  all_goals refine Frz.eq (congrArg bl ?_) (by simp)
  all_goals simp
theorem values1_spec (t:Trk) (k:Int):Pure Tryz.prog 91 [.iptr [tkS t] 0,.iptr [n k] 0] (bl (decide (0≤k∧k < (t.length:Int)))):=by
  refine Pure.of_body Tryz.call91 Tryz.func91 k91 (Nat.le_of_ble_eq_true rfl) ?_
  unfold c91
  (repeat' ((first
 | refine vn rfl ?_
 | simp (disch:=omega) only [wr64,Int.zero_sub]
 | refine bo (fun _=>?_) fun _=>?_
 | refine im fun _=>?_
 | ((repeat refine si ?_); (first | ((first | refine .inl ⟨_,_,_,_,rfl,fun _=>pu (isStageOf_spec t k),?_⟩ | refine ⟨_,_,_,_,rfl,fun _=>pu (isStageOf_spec t k),?_⟩); (first | refine o1 ?_ | refine o2 ?_ | refine o3 ?_ | refine o4 ?_)) | refine .inl ⟨_,_,_,_,rfl,pu (isStageOf_spec t k),?_⟩))
 | refine cF ?_
 | refine om ?_
 | refine an ?_
 | fail) <;> try simp only [zT,zV,zS,zU,vcC,lateX,ex,strp,binA,elems,cells,scalar,eqC,keyA,intsA,lookA,ofVs,mpOf,Nat.reduceBEq,reduceAdd,reduceSub,reduceLT,reduceLeDiff,reduceMul,reduceEqDiff,reduceIte]))
  all_goals exact Frz.eq rfl (by simp)
theorem goods_bd {l:List (List Sp)} (h:goods l):(∀ s∈l.flatten,s.lo≤s.hi)∧(∀ s∈l.flatten,-1000000≤s.lo∧s.hi≤1000000)∧l.flatten.length≤l.length * 200001:=by
  refine ⟨fun s hs=>?_,fun s hs=>?_,?_⟩
  · obtain ⟨x,hx,hs⟩:=List.mem_flatten.1 hs
    exact (h x hx).1.ne s hs
  · obtain ⟨x,hx,hs⟩:=List.mem_flatten.1 hs
    exact good_in (h x hx) s hs
  · induction l with
    | nil=>simp
    | cons x r ih =>
      have h1:=good_len (h x (by simp))
      have h2:=ih fun y hy=>h y (by simp [hy])
      simp only [List.flatten_cons,List.length_append,List.length_cons]
      omega
theorem Values_spec (t:Trk) (hs:trkSz t) (k:Int) (hk0:0≤k→k < 9223372036854775808):Pure Tryz.prog 36 [trS t,n k] (.tup [spS (if askE t (decide (0≤k∧k < (t.length:Int)))=0 then unis (allv t k.toNat) else []),n (askE t (decide (0≤k∧k < (t.length:Int))))]):=by
  refine Pure.of_body Tryz.call36 Tryz.func36 k36 (Nat.le_of_ble_eq_true rfl) ?_
  unfold c36
  have ha:=asked_spec t hs 91 [.iptr [tkS t] 0,.iptr [n k] 0] (by simp) _ (fun _=>values1_spec t k)
  by_cases h0:askE t (decide (0≤k∧k < (t.length:Int)))=0
  · rw [if_pos h0]
    rw [h0] at ha ⊢
    obtain ⟨hv,hk,hf⟩:=askE0.1 h0
    simp only [decide_eq_true_eq] at hk
    obtain ⟨k,rfl⟩:∃ m:Nat,k=(m:Int):=⟨k.toNat,by omega⟩
    simp only [Int.toNat_natCast] at *
    have hkl:k < t.length:=by omega
    have hg:=allvs_get (t:=t) hkl
    have hl:=allvs_len t
    have hgs:=allv_goods hv hkl
    have hal:=allv_len hkl
    have hwd:=wd_le hv k
    obtain ⟨b1,b2,b3⟩:=goods_bd hgs
    have hco:=concat_spec (allv t k) (by omega) (by omega)
    have hga:=gatherV_spec (allv t k).flatten (by omega) b1 b2
    have hun:joins [] (allv t k).flatten=unis (allv t k):=rfl
    rw [hun] at hga
    (repeat' ((first
 | refine vn rfl ?_
 | simp (disch:=omega) only [wr64,Int.zero_sub]
 | refine bo (fun _=>?_) fun _=>?_
 | refine im fun _=>?_
 | ((repeat refine si ?_); (first | ((first | refine .inl ⟨_,_,_,_,rfl,fun _=>pu (by first | exact ha | exact all_spec t hv | exact hco | exact values_spec _ | exact hga),?_⟩ | refine ⟨_,_,_,_,rfl,fun _=>pu (by first | exact ha | exact all_spec t hv | exact hco | exact values_spec _ | exact hga),?_⟩); (first | refine o1 ?_ | refine o2 ?_ | refine o3 ?_ | refine o4 ?_)) | refine .inl ⟨_,_,_,_,rfl,pu (by first | exact ha | exact all_spec t hv | exact hco | exact values_spec _ | exact hga),?_⟩))
 | refine cF ?_
 | refine om ?_
 | refine an ?_
 | fail) <;> try simp only [zT,zV,zS,zU,vcC,lateX,ex,strp,binA,elems,cells,scalar,eqC,keyA,intsA,lookA,ofVs,mpOf,Nat.reduceBEq,reduceAdd,reduceSub,reduceLT,reduceLeDiff,reduceMul,reduceEqDiff,reduceIte,hg,hl]))
    all_goals try (exfalso; omega)
    all_goals exact Frz.eq rfl (by simp)
  · rw [if_neg h0]
    generalize askE t (decide (0≤k∧k < (t.length:Int)))=e at *
    (repeat' ((first
 | refine vn rfl ?_
 | simp (disch:=omega) only [wr64,Int.zero_sub]
 | refine bo (fun _=>?_) fun _=>?_
 | refine im fun _=>?_
 | ((repeat refine si ?_); (first | ((first | refine .inl ⟨_,_,_,_,rfl,fun _=>pu ha,?_⟩ | refine ⟨_,_,_,_,rfl,fun _=>pu ha,?_⟩); (first | refine o1 ?_ | refine o2 ?_ | refine o3 ?_ | refine o4 ?_)) | refine .inl ⟨_,_,_,_,rfl,pu ha,?_⟩))
 | refine cF ?_
 | refine om ?_
 | refine an ?_
 | fail) <;> try simp only [zT,zV,zS,zU,vcC,lateX,ex,strp,binA,elems,cells,scalar,eqC,keyA,intsA,lookA,ofVs,mpOf,Nat.reduceBEq,reduceAdd,reduceSub,reduceLT,reduceLeDiff,reduceMul,reduceEqDiff,reduceIte]))
    all_goals try (exfalso; omega)
    exact frz2 frz_nil (by simp)
theorem Feasible_spec (t:Trk) (hs:trkSz t):Pure Tryz.prog 47 [trS t] (.tup [bl (tr (valid t) && feas t),n (if tr (valid t)=true then 0 else 40)]):=by
  refine Pure.of_body Tryz.call47 Tryz.func47 k47 (Nat.le_of_ble_eq_true rfl) ?_
  unfold c47
  have hc:=Check_spec t hs
  by_cases hv:valid t
  · rw [tr_1 hv] at hc ⊢
    simp only [if_true,Bool.true_and] at hc ⊢
    (repeat' ((first
 | refine vn rfl ?_
 | simp (disch:=omega) only [wr64,Int.zero_sub]
 | refine bo (fun _=>?_) fun _=>?_
 | refine im fun _=>?_
 | ((repeat refine si ?_); (first | ((first | refine .inl ⟨_,_,_,_,rfl,fun _=>pu (by first | exact hc | exact feasible_spec t hv),?_⟩ | refine ⟨_,_,_,_,rfl,fun _=>pu (by first | exact hc | exact feasible_spec t hv),?_⟩); (first | refine o1 ?_ | refine o2 ?_ | refine o3 ?_ | refine o4 ?_)) | refine .inl ⟨_,_,_,_,rfl,pu (by first | exact hc | exact feasible_spec t hv),?_⟩))
 | refine cF ?_
 | refine om ?_
 | refine an ?_
 | fail) <;> try simp only [zT,zV,zS,zU,vcC,lateX,ex,strp,binA,elems,cells,scalar,eqC,keyA,intsA,lookA,ofVs,mpOf,Nat.reduceBEq,reduceAdd,reduceSub,reduceLT,reduceLeDiff,reduceMul,reduceEqDiff,reduceIte]))
    exact Frz.eq rfl (by simp)
  · rw [tr_0 hv] at hc ⊢
    simp only [Bool.false_eq_true,if_false,Bool.false_and] at hc ⊢
    (repeat' ((first
 | refine vn rfl ?_
 | simp (disch:=omega) only [wr64,Int.zero_sub]
 | refine bo (fun _=>?_) fun _=>?_
 | refine im fun _=>?_
 | ((repeat refine si ?_); (first | ((first | refine .inl ⟨_,_,_,_,rfl,fun _=>pu hc,?_⟩ | refine ⟨_,_,_,_,rfl,fun _=>pu hc,?_⟩); (first | refine o1 ?_ | refine o2 ?_ | refine o3 ?_ | refine o4 ?_)) | refine .inl ⟨_,_,_,_,rfl,pu hc,?_⟩))
 | refine cF ?_
 | refine om ?_
 | refine an ?_
 | fail) <;> try simp only [zT,zV,zS,zU,vcC,lateX,ex,strp,binA,elems,cells,scalar,eqC,keyA,intsA,lookA,ofVs,mpOf,Nat.reduceBEq,reduceAdd,reduceSub,reduceLT,reduceLeDiff,reduceMul,reduceEqDiff,reduceIte]))
    all_goals try (exfalso; omega)
    exact Frz.eq rfl (by simp)
end Go.Proofs.YtahkhnagpdlkiaaGreat
namespace Go.Abs
set_option linter.unusedVariables false
set_option linter.unusedSimpArgs false
def onlyN (a:At) (i:Nat) (x:Nod):Nod:=⟨if (i:Int)=a.node then meet x.al [⟨a.val,a.val⟩] else [],x.nx⟩
def onlyF (a:At):Nat→List Nod→List Nod
  | _,[]=>[]
  | i,x::r=>onlyN a i x::onlyF a (i+1) r
def onlyT (t:Trk) (k:Nat) (a:At):Trk:=t.set k (onlyF a 0 (t.getD k []))
def edge1 (v:Int) (bk:List (List Sp)) (j:Nat) (e:Edg):List Sp:=if e.to=(j:Int) then meet [⟨v+e.ch.lo,v+e.ch.hi⟩] (bk.getD j []) else []
def step1 (x:Nod) (v:Int) (bk:List (List Sp)) (j:Nat):List Sp:=joins [] (x.nx.flatMap (edge1 v bk j))
def stepS (x:Nod) (v:Int) (bk:List (List Sp)):List (List Sp):=(List.range bk.length).map (step1 x v bk)
def pickF:Nat→List (List Sp)→Option At
  | _,[]=>none
  | i,[]::r=>pickF (i+1) r
  | i,(s::_)::_=>some ⟨i,s.lo⟩
def nodAt (t:Trk) (k:Nat) (i:Nat):Nod:=(t.getD k []).getD i ⟨[],[]⟩
def nextM (t:Trk) (bk:List (List (List Sp))) (k:Nat) (may:List (List Sp)) (a:At):List (List Sp) :=
  if k+1 < t.length then stepS (nodAt t k a.node.toNat) a.val (bk.getD (k+1) []) else may
def firstGo (t:Trk) (bk:List (List (List Sp))):Nat→Nat→List (List Sp)→List At
  | 0,_,_=>[]
  | m+1,k,may=>match pickF 0 may with
    | none=>firstGo t bk m (k+1) may
    | some a=>a::firstGo t bk m (k+1) (nextM t bk k may a)
def firstT (t:Trk) (bk:List (List (List Sp))):List At:=firstGo t bk t.length 0 (bk.getD 0 [])
theorem onlyF_len (a:At):∀ (l:List Nod) (i:Nat),(onlyF a i l).length=l.length
  | [],_=>rfl
  | x::r,i=>by simp [onlyF,onlyF_len a r]
theorem onlyF_get (a:At):∀ (l:List Nod) (i k:Nat) (x:Nod),l[k]?=some x→(onlyF a i l)[k]?=some (onlyN a (i+k) x)
  | [],_,_,_,h=>by simp at h
  | y::r,i,0,x,h=>by simp at h; subst h; rfl
  | y::r,i,k+1,x,h=>by
    have:=onlyF_get a r (i+1) k x (by simpa using h)
    rw [show i+1+k=i+(k+1) by omega] at this
    simpa [onlyF] using this
theorem onlyT_len (t:Trk) (k:Nat) (a:At):(onlyT t k a).length=t.length:=by simp [onlyT]
theorem onlyT_get (t:Trk) (k:Nat) (a:At) (j:Nat):(onlyT t k a).getD j []=if j=k then onlyF a 0 (t.getD k []) else t.getD j []:=by
  unfold onlyT
  simp only [List.getD_eq_getElem?_getD,List.getElem?_set]
  by_cases hj:k=j
  · subst hj
    by_cases hk:k < t.length
    · simp [hk]
    · simp [hk,List.getElem?_eq_none (show t.length≤k by omega),onlyF]
  · have:¬ j=k:=fun e=>hj e.symm
    simp [hj,this]
theorem onlyT_wd (t:Trk) (k:Nat) (a:At) (j:Nat):wd (onlyT t k a) j=wd t j:=by
  unfold wd
  rw [onlyT_get]
  split
  · rename_i h; subst h; rw [onlyF_len]
  · rfl
theorem meet_len (a b:List Sp):(meet a b).length≤a.length * b.length:=(meet_laws a b).2.2
theorem meet_goodL {a b:List Sp} (ha:good a):good (meet a b) :=
  ⟨meet_norm a b,in_of_mem (meet_norm a b) fun v hv=>mem_of_in ha.2 ((meet_mem a b v).1 hv).1⟩
theorem onlyF_mem {a:At} {l:List Nod} {i:Nat} {y:Nod} (h:y∈onlyF a i l):∃ j x,x∈l∧y=onlyN a j x:=by
  induction l generalizing i with
  | nil=>simp [onlyF] at h
  | cons z r ih =>
    simp only [onlyF,List.mem_cons] at h
    rcases h with h | h
    · exact ⟨i,z,by simp,h⟩
    · obtain ⟨j,x,hx,e⟩:=ih h
      exact ⟨j,x,by simp [hx],e⟩
theorem onlyT_valid {t:Trk} (h:valid t) (k:Nat) (a:At):valid (onlyT t k a):=by
  refine ⟨by rw [onlyT_len]; exact h.1,by rw [onlyT_len]; exact h.2.1,fun j hj=>?_⟩
  rw [onlyT_len] at hj
  have hs:=valid_stg h hj
  rw [onlyT_wd,onlyT_get]
  split
  · rename_i e; subst e
    obtain ⟨h1,h2,h3⟩:=hs
    refine ⟨by rw [onlyF_len]; exact h1,by rw [onlyF_len]; exact h2,fun y hy=>?_⟩
    obtain ⟨i,x,hx,rfl⟩:=onlyF_mem hy
    obtain ⟨⟨g1,g2⟩,g3,g4⟩:=h3 x hx
    refine ⟨?_,g3,g4⟩
    unfold onlyN
    simp only
    split
    · exact ⟨by have:=meet_len x.al [⟨a.val,a.val⟩]; simp at this; omega,meet_goodL g2⟩
    · exact ⟨by simp,good_nil⟩
  · exact hs
theorem pickF_some {l:List (List Sp)}:∀ {i:Nat} {a:At},pickF i l=some a→∃ (j:Nat) (s:Sp) (r:List Sp),l[j]?=some (s::r)∧a=⟨((i+j:Nat):Int),s.lo⟩∧∀ j',j' < j→l[j']?=some []:=by
  induction l with
  | nil=>intro i a h; simp [pickF] at h
  | cons x l ih =>
    intro i a h
    cases x with
    | nil =>
      obtain ⟨j,s,r,h1,h2,h3⟩:=ih h
      refine ⟨j+1,s,r,by simpa using h1,by rw [h2]; congr 2; omega,fun j' hj=>?_⟩
      cases j' with
      | zero=>rfl
      | succ j'=>simpa using h3 j' (by omega)
    | cons s r =>
      simp only [pickF,Option.some.injEq] at h
      exact ⟨0,s,r,rfl,by rw [← h]; rfl,fun j' hj=>absurd hj (Nat.not_lt_zero _)⟩
theorem pickF_none {l:List (List Sp)}:∀ {i:Nat},pickF i l=none↔∀ x∈l,x=[]:=by
  induction l with
  | nil=>intro i; simp [pickF]
  | cons x l ih =>
    intro i
    cases x with
    | nil=>simp [pickF,ih]
    | cons s r=>simp [pickF]
theorem step1_mem {x:Nod} {v:Int} {bk:List (List Sp)} (j:Nat) (u:Int):Mem u (step1 x v bk j)↔(∃ e∈x.nx,e.to=(j:Int)∧v+e.ch.lo≤u∧u≤v+e.ch.hi)∧Mem u (bk.getD j []):=by
  unfold step1
  rw [joins0_mem,mem_flatMap]
  unfold edge1
  constructor
  · rintro ⟨e,he,hu⟩
    split at hu
    · rename_i hto
      rw [meet_mem,mem_cons] at hu
      obtain ⟨h1,h2⟩:=hu
      rcases h1 with h1 | h1
      · exact ⟨⟨e,he,hto,h1⟩,h2⟩
      · exact absurd h1 Mem.nil
    · exact absurd hu Mem.nil
  · rintro ⟨⟨e,he,hto,h1⟩,h2⟩
    refine ⟨e,he,?_⟩
    rw [if_pos hto,meet_mem,mem_cons]
    exact ⟨.inl h1,h2⟩
theorem stepS_get {x:Nod} {v:Int} {bk:List (List Sp)} {j:Nat} (h:j < bk.length):(stepS x v bk).getD j []=step1 x v bk j:=by
  rw [stepS,List.getD_eq_getElem?_getD]; simp [h]
theorem stp_iff {t:Trk} {k i j:Nat} {c:Sp} (hv:valid t) (hi:i < wd t k):(⟨i,j,c⟩:Hop)∈stp t k↔∃ e∈(nodAt t k i).nx,e.to=(j:Int)∧e.ch=c:=by
  have hx:(t.getD k [])[i]?=some (nodAt t k i):=getD_some hi
  rw [stp,hops_mem]
  constructor
  · rintro ⟨m,x,e,h1,h2,h3⟩
    simp only [Hop.mk.injEq] at h3
    obtain ⟨rfl,h4,h5⟩:=h3
    rw [hx] at h1; injection h1 with h1; subst h1
    have:=(valid_nod hv hx).2.2 e h2
    exact ⟨e,h2,by have:=this.1; omega,h5.symm⟩
  · rintro ⟨e,he,h1,h2⟩
    exact ⟨i,_,e,hx,he,by simp [h1,h2]⟩
theorem stepOk_iff {t:Trk} {k:Nat} {a b:At} (hv:valid t) (ha0:0≤a.node) (hb0:0≤b.node) (ha:a.node < (wd t k:Int)):stepOk t k a b↔∃ e∈(nodAt t k a.node.toNat).nx,e.to=b.node∧a.val+e.ch.lo≤b.val∧b.val≤a.val+e.ch.hi:=by
  unfold stepOk
  constructor
  · rintro ⟨⟨i,j,c⟩,hm,h1,h2,h3,h4⟩
    simp only at h1 h2 h3 h4
    subst h1
    obtain ⟨e,he,h5,h6⟩:=(stp_iff hv (by omega)).1 hm
    subst h6
    exact ⟨e,he,by omega,by omega,by omega⟩
  · rintro ⟨e,he,h1,h2,h3⟩
    exact ⟨⟨a.node.toNat,b.node.toNat,e.ch⟩,(stp_iff hv (by omega)).2 ⟨e,he,by omega,rfl⟩,rfl,rfl,by simp only; omega,by simp only; omega⟩
theorem bwds_getD {t:Trk} {k:Nat} (h:k < t.length):(bwds t).getD k []=bwd t k:=by
  rw [bwds,List.getD_eq_getElem?_getD]; simp [h]
theorem onlyT_nx (t:Trk) (k:Nat) (a:At) (j i:Nat) (h:i < wd t j):(nodAt (onlyT t k a) j i).nx=(nodAt t j i).nx:=by
  unfold nodAt
  rw [onlyT_get]
  split
  · rename_i e; subst e
    have:=onlyF_get a (t.getD j []) 0 i _ (getD_some (d:=⟨[],[]⟩) h)
    rw [List.getD_eq_getElem?_getD,this]; rfl
  · rfl
theorem firstGo_way {t t':Trk} (hv:valid t') (hl:t'.length=t.length) (hnx:∀ j i,i < wd t' j→(nodAt t' j i).nx=(nodAt t j i).nx) :
    ∀ (m k:Nat) (may:List (List Sp)),m+k+1=t.length→goods may→(∀ (j:Nat) v,Mem v (may.getD j [])→j < wd t' k∧Mem v ((bwd t' k).getD j []))→some' may=true →
      (firstGo t (bwds t') (m+1) k may).length=m+1∧way t' k (firstGo t (bwds t') (m+1) k may)∧(firstGo t (bwds t') (m+1) k may)[0]?=pickF 0 may:=by
  intro m
  induction m with
  | zero =>
    intro k may hk hg hsub hs
    cases hp:pickF 0 may with
    | none =>
      exfalso
      obtain ⟨i,v,hi,hm⟩:=(some_iff hg).1 hs
      rw [pickF_none] at hp
      rw [hp _ (List.mem_of_getElem? (getD_some hi))] at hm
      exact Mem.nil hm
    | some a =>
      have e:firstGo t (bwds t') 1 k may=[a]:=by simp [firstGo,hp]
      rw [e]
      obtain ⟨j,s,r,h1,rfl,_⟩:=pickF_some hp
      have hgd:may.getD j []=s::r:=by rw [List.getD_eq_getElem?_getD,h1]; rfl
      have hms:Mem s.lo (may.getD j []):=by
        have:=(goods_get hg j).1.ne s (by rw [hgd]; simp)
        rw [hgd]; exact ⟨s,by simp,Int.le_refl _,this⟩
      obtain ⟨h2,h3⟩:=hsub j s.lo hms
      obtain ⟨p,hp1,hp2⟩:=(bwd_way hv k ⟨((0+j:Nat):Int),s.lo⟩ (by omega)).1 ⟨by simp only; omega,by simp only; omega,by simpa using h3⟩
      refine ⟨rfl,?_,rfl⟩
      exact (way_cons.1 hp2).1
  | succ m ih =>
    intro k may hk hg hsub hs
    cases hp:pickF 0 may with
    | none =>
      exfalso
      obtain ⟨i,v,hi,hm⟩:=(some_iff hg).1 hs
      rw [pickF_none] at hp
      rw [hp _ (List.mem_of_getElem? (getD_some hi))] at hm
      exact Mem.nil hm
    | some a =>
      have e:firstGo t (bwds t') (m+1+1) k may=a::firstGo t (bwds t') (m+1) (k+1) (nextM t (bwds t') k may a):=by rw [firstGo,hp]
      obtain ⟨j,s,r,h1,ha,_⟩:=pickF_some hp
      have hgd:may.getD j []=s::r:=by rw [List.getD_eq_getElem?_getD,h1]; rfl
      have hms:Mem s.lo (may.getD j []):=by
        have:=(goods_get hg j).1.ne s (by rw [hgd]; simp)
        rw [hgd]; exact ⟨s,by simp,Int.le_refl _,this⟩
      obtain ⟨h2,h3⟩:=hsub j s.lo hms
      have ha1:a.node=(j:Int):=by rw [ha]; simp
      have ha2:a.val=s.lo:=by rw [ha]
      obtain ⟨p,hp1,hp2⟩:=(bwd_way hv k a (by omega)).1 ⟨by omega,by omega,by rw [ha1,ha2]; simpa using h3⟩
      rw [way_cons] at hp2
      obtain ⟨w1,w2,w3⟩:=hp2
      have hN:nextM t (bwds t') k may a=stepS (nodAt t k j) a.val (bwd t' (k+1)):=by
        unfold nextM
        rw [if_pos (by omega),bwds_getD (by omega),ha1]; simp
      rw [hN] at e
      have hgb:=bwd_goods hv (k+1)
      have hlb:=bwd_len (t:=t') (k:=k+1) (by omega)
      have hg':goods (stepS (nodAt t k j) a.val (bwd t' (k+1))):=fun l hl=>by
        obtain ⟨q,_,rfl⟩:=List.mem_map.1 hl
        refine ⟨joins0_norm _,in_of_mem (joins0_norm _) fun u hu=>?_⟩
        exact mem_of_in (goods_get hgb q).2 ((step1_mem q u).1 hu).2
      have hlen:∀ q u,Mem u ((stepS (nodAt t k j) a.val (bwd t' (k+1))).getD q [])→q < wd t' (k+1)∧Mem u (step1 (nodAt t k j) a.val (bwd t' (k+1)) q):=fun q u hu=>by
        by_cases hq:q < (bwd t' (k+1)).length
        · rw [stepS_get hq] at hu
          exact ⟨by omega,hu⟩
        · rw [getD_none (by simp [stepS]; omega)] at hu
          exact absurd hu Mem.nil
      have hs':some' (stepS (nodAt t k j) a.val (bwd t' (k+1)))=true:=by
        rw [some_iff hg']
        cases p with
        | nil=>simp at hp1; omega
        | cons b q =>
          have hb:=w2 b (by simp)
          have hbw:=(bwd_way hv (k+1) b (by omega)).2 ⟨q,by simp at hp1; omega,w3⟩
          obtain ⟨b1,b2,b3⟩:=hbw
          refine ⟨b.node.toNat,b.val,by simp [stepS]; omega,?_⟩
          rw [stepS_get (by omega),step1_mem]
          refine ⟨?_,b3⟩
          obtain ⟨e',he',q1,q2,q3⟩:=(stepOk_iff hv (by omega) b1 (by omega)).1 hb
          rw [ha1,Int.toNat_natCast,hnx k j h2] at he'
          exact ⟨e',he',by omega,q2,q3⟩
      obtain ⟨i1,i2,i3⟩:=ih (k+1) _ (by omega) hg' (fun q u hu=>⟨(hlen q u hu).1,((step1_mem q u).1 (hlen q u hu).2).2⟩) hs'
      rw [e]
      refine ⟨by simp [i1],?_,by simp⟩
      rw [way_cons]
      refine ⟨w1,fun b hb=>?_,i2⟩
      rw [i3] at hb
      obtain ⟨j2,s2,r2,g1,rfl,_⟩:=pickF_some hb
      have hgd2:(stepS (nodAt t k j) a.val (bwd t' (k+1))).getD j2 []=s2::r2:=by rw [List.getD_eq_getElem?_getD,g1]; rfl
      have hms2:Mem s2.lo ((stepS (nodAt t k j) a.val (bwd t' (k+1))).getD j2 []):=by
        have:=(goods_get hg' j2).1.ne s2 (by rw [hgd2]; simp)
        rw [hgd2]; exact ⟨s2,by simp,Int.le_refl _,this⟩
      obtain ⟨l1,l2⟩:=hlen j2 s2.lo hms2
      obtain ⟨⟨e',he',q1,q2,q3⟩,_⟩:=(step1_mem j2 s2.lo).1 l2
      rw [stepOk_iff hv (by omega) (by simp only; omega) (by omega)]
      refine ⟨e',?_,by simp only; omega,q2,q3⟩
      rw [ha1,Int.toNat_natCast,hnx k j h2]; exact he'
theorem firstT_course {t t':Trk} (hv:valid t') (hl:t'.length=t.length) (hnx:∀ j i,i < wd t' j→(nodAt t' j i).nx=(nodAt t j i).nx) (hs:some' (bwd t' 0)=true):course t' (firstT t (bwds t')):=by
  have h1:=hv.1
  obtain ⟨m,hm⟩:∃ m,t.length=m+1:=⟨t.length - 1,by omega⟩
  have:=firstGo_way hv hl hnx m 0 (bwd t' 0) (by omega) (bwd_goods hv 0) (fun j v h=>by
    by_cases hj:j < (bwd t' 0).length
    · exact ⟨by rw [bwd_len (by omega)] at hj; exact hj,h⟩
    · rw [getD_none (by omega)] at h; exact absurd h Mem.nil) hs
  unfold firstT
  rw [hm,bwds_getD (by omega)]
  exact ⟨by rw [this.1]; omega,this.2.1⟩
end Go.Abs
namespace Go.Proofs.YtahkhnagpdlkiaaGreat
open Go.Abs
open Nat (reduceAdd reduceSub reduceLT reduceLeDiff reduceMul reduceEqDiff)
set_option linter.unusedVariables false
set_option linter.unusedSimpArgs false
set_option maxHeartbeats 4000000
set_option maxRecDepth 100000
def c148:CF:=⟨8,
 (.seq (.ops [
 ⟨some 2,.mv (.c (.slice none 0 0)),none⟩] [0])
 (.seq (.seq (.ops [
 ⟨some 3,.mv (.t 0),none⟩,
 ⟨some 4,.nilq false (.t 3) (.c (.slice none 0 0)),none⟩] [0,4])
 (.cond (.t 4) (.seq (.ops [
 ⟨some 2,.mv (.c (.slice none 0 0)),none⟩] [2])
 .ret)
 .skip))
 (.seq (.ops [
 ⟨some 5,.bsl true 68 1 0 [] [],none⟩,
 ⟨some 6,.mv (.t 0),none⟩,
 ⟨some 7,.app 68 1 24 (.t 5) (.t 6),none⟩,
 ⟨some 2,.mv (.t 7),none⟩] [2])
 .ret))),
 [.t 2]⟩
def c149:CF:=⟨8,
 (.seq (.ops [
 ⟨some 2,.mv (.c (.slice none 0 0)),none⟩] [0])
 (.seq (.seq (.ops [
 ⟨some 3,.mv (.t 0),none⟩,
 ⟨some 4,.nilq false (.t 3) (.c (.slice none 0 0)),none⟩] [0,4])
 (.cond (.t 4) (.seq (.ops [
 ⟨some 2,.mv (.c (.slice none 0 0)),none⟩] [2])
 .ret)
 .skip))
 (.seq (.ops [
 ⟨some 5,.bsl true 80 2 0 [] [],none⟩,
 ⟨some 6,.mv (.t 0),none⟩,
 ⟨some 7,.app 80 2 48 (.t 5) (.t 6),none⟩,
 ⟨some 2,.mv (.t 7),none⟩] [2])
 .ret))),
 [.t 2]⟩
def c113:CF:=⟨58,
 (.seq (.ops [
 ⟨some 3,.box false 24 1 (.t 0),none⟩,
 ⟨some 5,.box false 26 2 (.t 2),none⟩,
 ⟨some 6,.alloc 24 1 [.slice none 0 0],none⟩] [1,3,5,6])
 (.seq (.ops [
 ⟨some 11,.faddr 0 (.t 3),none⟩,
 ⟨some 12,.load none (.t 11),none⟩,
 ⟨some 13,.call (.f 148) [(.t 12)],none⟩,
 ⟨some 14,.build [.slice none 0 0] [(0,1,(.t 13))],none⟩,
 ⟨some 7,.alloc 24 1 [.slice none 0 0],none⟩,
 ⟨none,.store 1 (.t 7) (.t 14),none⟩] [1,3,5,6,7])
 (.seq (.ops [
 ⟨some 15,.faddr 0 (.t 3),none⟩,
 ⟨some 16,.load none (.t 15),none⟩,
 ⟨some 17,.mv (.t 1),none⟩,
 ⟨some 18,.iaddr 1 (.t 16) (.t 17),none⟩,
 ⟨some 19,.load none (.t 18),none⟩,
 ⟨some 20,.call (.f 149) [(.t 19)],none⟩,
 ⟨some 8,.mv (.t 20),none⟩] [1,5,6,7,8])
 (.seq (.seq (.ops [
 ⟨some 21,.mv (.t 8),none⟩,
 ⟨some 22,.len (.t 21),none⟩,
 ⟨some 23,.mv (.c (.int .i64 0)),none⟩] [1,5,6,7,8,22,23])
 (.block 0 (.loop (.seq (.ops [
 ⟨some 24,.bin .lss (.t 23) (.t 22),none⟩] [1,5,6,7,8,22,23,24])
 (.seq (.cond (.t 24) .skip
 (.exit 0))
 (.seq (.block 1 (.seq (.ops [
 ⟨some 25,.mv (.t 23),none⟩,
 ⟨some 9,.mv (.t 25),none⟩] [1,5,6,7,8,9,22,23])
 (.seq (.ops [
 ⟨some 26,.mv (.t 8),none⟩,
 ⟨some 27,.mv (.t 9),none⟩,
 ⟨some 28,.iaddr 2 (.t 26) (.t 27),none⟩,
 ⟨some 29,.faddr 0 (.t 28),none⟩,
 ⟨some 30,.load none (.t 29),none⟩,
 ⟨some 10,.mv (.t 30),none⟩] [1,5,6,7,8,9,10,22,23])
 (.seq (.ops [
 ⟨some 31,.mv (.t 8),none⟩,
 ⟨some 32,.mv (.t 9),none⟩,
 ⟨some 33,.iaddr 2 (.t 31) (.t 32),none⟩,
 ⟨some 34,.faddr 0 (.t 33),none⟩,
 ⟨none,.store 1 (.t 34) (.c (.slice none 0 0)),none⟩] [1,5,6,7,8,9,10,22,23])
 (.seq (.ops [
 ⟨some 35,.mv (.t 9),none⟩,
 ⟨some 36,.faddr 0 (.t 5),none⟩,
 ⟨some 37,.load none (.t 36),none⟩,
 ⟨some 38,.bin .eql (.t 35) (.t 37),none⟩] [1,5,6,7,8,9,10,22,23,38])
 (.cond (.t 38) (.ops [
 ⟨some 39,.mv (.t 8),none⟩,
 ⟨some 40,.mv (.t 9),none⟩,
 ⟨some 41,.mv (.t 10),none⟩,
 ⟨some 42,.faddr 1 (.t 5),none⟩,
 ⟨some 43,.load none (.t 42),none⟩,
 ⟨some 44,.faddr 1 (.t 5),none⟩,
 ⟨some 45,.load none (.t 44),none⟩,
 ⟨some 46,.build [.int .i64 0,.int .i64 0] [(0,1,(.t 43)),(1,1,(.t 45))],none⟩,
 ⟨some 47,.bsl false 30 2 1 [.int .i64 0,.int .i64 0] [(0,2,(.t 46))],none⟩,
 ⟨some 48,.call (.f 81) [(.t 41),(.t 47)],none⟩,
 ⟨some 49,.iaddr 2 (.t 39) (.t 40),none⟩,
 ⟨some 50,.faddr 0 (.t 49),none⟩,
 ⟨none,.store 1 (.t 50) (.t 48),none⟩] [1,5,6,7,8,22,23])
 .skip))))))
 (.ops [
 ⟨some 51,.bin .add (.t 23) (.c (.int .i64 1)),none⟩,
 ⟨some 23,.mv (.t 51),none⟩] [1,5,6,7,8,22,23])))))))
 (.seq (.ops [
 ⟨some 52,.faddr 0 (.t 7),none⟩,
 ⟨some 53,.load none (.t 52),none⟩,
 ⟨some 54,.mv (.t 1),none⟩,
 ⟨some 55,.mv (.t 8),none⟩,
 ⟨some 56,.iaddr 1 (.t 53) (.t 54),none⟩,
 ⟨none,.store 1 (.t 56) (.t 55),none⟩] [6,7])
 (.seq (.ops [
 ⟨some 57,.load (some 1) (.t 7),none⟩,
 ⟨none,.store 1 (.t 6) (.t 57),none⟩] [6])
 .ret)))))),
 [.c 6 (some 1)]⟩
theorem k148:chkF Tryz.prog Tryz.f148 c148=true:=by kernel_rfl
theorem k149:chkF Tryz.prog Tryz.f149 c149=true:=by kernel_rfl
theorem k113:chkF Tryz.prog Tryz.f113 c113=true:=by kernel_rfl
theorem clone148_does (σ:Sto) (t:Trk) (h0:t≠[]) (hl:t.length≤401) :
    Does Tryz.prog 148 [tkS t] σ (fun r σ'=>r=.own σ.length 0 t.length∧σ'=σ++[some [⟨68,1,t.map (fun l=>[stS l]),none⟩]]):=by
  refine Does.of_body Tryz.call148 Tryz.func148 k148 (Nat.le_of_ble_eq_true rfl) ?_
  unfold c148
  have hne:t.map (fun l=>[stS l])≠[]:=by simpa using h0
  have hrow:∀ e,e < t.length→((t.map fun l=>[stS l]).getD e []).length=1:=fun e he=>by rw [getD_map (getD_some (d:=[]) he)]; rfl
  (repeat' ((first
 | refine vn rfl ?_
 | simp (disch:=omega) only [wr64,Int.zero_sub]
 | refine bo (fun _=>?_) fun _=>?_
 | refine im fun _=>?_
 | refine cF ?_
 | refine om ?_
 | refine an ?_
 | fail) <;> try simp only [zT,zV,zS,zU,vcC,lateX,ex,strp,binA,elems,cells,scalar,eqC,keyA,intsA,lookA,ofVs,mpOf,Nat.reduceBEq,reduceAdd,reduceSub,reduceLT,reduceLeDiff,reduceMul,reduceEqDiff,reduceIte]))
  refine ⟨⟨hrow,by omega⟩,?_⟩
  (repeat' ((first
 | refine vn rfl ?_
 | simp (disch:=omega) only [wr64,Int.zero_sub]
 | refine bo (fun _=>?_) fun _=>?_
 | refine im fun _=>?_
 | refine cF ?_
 | refine om ?_
 | refine an ?_
 | fail) <;> try simp only [zT,zV,zS,zU,vcC,lateX,ex,strp,binA,elems,cells,scalar,eqC,keyA,intsA,lookA,ofVs,mpOf,Nat.reduceBEq,reduceAdd,reduceSub,reduceLT,reduceLeDiff,reduceMul,reduceEqDiff,reduceIte]))
  all_goals exact ⟨rfl,rfl⟩
theorem clone149_does (σ:Sto) (l:List Nod) (h0:l≠[]) (hl:l.length≤4000) :
    Does Tryz.prog 149 [stS l] σ (fun r σ'=>r=.own σ.length 0 l.length∧σ'=σ++[some [⟨80,2,l.map Nod.cs,none⟩]]):=by
  refine Does.of_body Tryz.call149 Tryz.func149 k149 (Nat.le_of_ble_eq_true rfl) ?_
  unfold c149
  have hne:l.map Nod.cs≠[]:=by simpa using h0
  have hrow:∀ e,e < l.length→((l.map Nod.cs).getD e []).length=2:=fun e he=>by rw [getD_map (getD_some (d:=⟨[],[]⟩) he)]; rfl
  (repeat' ((first
 | refine vn rfl ?_
 | simp (disch:=omega) only [wr64,Int.zero_sub]
 | refine bo (fun _=>?_) fun _=>?_
 | refine im fun _=>?_
 | refine cF ?_
 | refine om ?_
 | refine an ?_
 | fail) <;> try simp only [zT,zV,zS,zU,vcC,lateX,ex,strp,binA,elems,cells,scalar,eqC,keyA,intsA,lookA,ofVs,mpOf,Nat.reduceBEq,reduceAdd,reduceSub,reduceLT,reduceLeDiff,reduceMul,reduceEqDiff,reduceIte]))
  refine ⟨⟨hrow,by omega⟩,?_⟩
  (repeat' ((first
 | refine vn rfl ?_
 | simp (disch:=omega) only [wr64,Int.zero_sub]
 | refine bo (fun _=>?_) fun _=>?_
 | refine im fun _=>?_
 | refine cF ?_
 | refine om ?_
 | refine an ?_
 | fail) <;> try simp only [zT,zV,zS,zU,vcC,lateX,ex,strp,binA,elems,cells,scalar,eqC,keyA,intsA,lookA,ofVs,mpOf,Nat.reduceBEq,reduceAdd,reduceSub,reduceLT,reduceLeDiff,reduceMul,reduceEqDiff,reduceIte]))
  all_goals exact ⟨rfl,rfl⟩
theorem meet_specM (a b:List Sp) (ha:Norm a) (hb:Norm b) (hal:a.length≤200001) (hbl:b.length≤200001) (hm2:a.length * b.length≤12800064):Pure Tryz.prog 81 [spS a,spS b] (spS (meet a b)):=by
  have hm:=meet_len a b
  rw [← comm_meet ha hb] at hm ⊢
  exact meet_spec0 a b (by omega) (by omega) (by omega)
theorem norm1 (v w:Int) (h:v≤w):Norm [⟨v,w⟩]:=⟨h,fun t ht=>absurd ht (List.not_mem_nil),trivial⟩
def onlyR (a:At) (i:Nat) (m:Nat) (x:Nod):List AV :=
  if m < i then (if (m:Int)=a.node then [spS (meet x.al [⟨a.val,a.val⟩]),edS x.nx] else [.v (.slice none 0 0),edS x.nx]) else Nod.cs x
theorem only_spec (t:Trk) (k:Nat) (a:At) (hv:valid t) (hk:k < t.length):Pure Tryz.prog 113 [trS t,n (k:Int),.agg (At.cs a)] (trS (onlyT t k a)):=by
  refine Pure.of_body Tryz.call113 Tryz.func113 k113 (Nat.le_of_ble_eq_true rfl) ?_
  unfold c113
  have ht0:t≠[]:=fun e=>by rw [e] at hk; simp at hk
  have hst:=valid_stg hv hk
  have hgk:(t.map fun l=>[stS l]).getD k []=[stS (t.getD k [])]:=getD_map (getD_some hk)
  have hwd:wd t k=(t.getD k []).length:=rfl
  have hget:∀ j,(onlyT t k a).getD j []=if j=k then onlyF a 0 (t.getD k []) else t.getD j []:=onlyT_get t k a
  generalize hL:t.getD k []=L at *
  obtain ⟨l1,l2,l3⟩:=hst
  have hL0:L≠[]:=fun e=>by rw [e] at l1; simp at l1
  (repeat' ((first
 | refine vn rfl ?_
 | simp (disch:=omega) only [wr64,Int.zero_sub]
 | refine bo (fun _=>?_) fun _=>?_
 | refine im fun _=>?_
 | refine cF ?_
 | refine om ?_
 | refine an ?_
 | fail) <;> try simp only [zT,zV,zS,zU,vcC,lateX,ex,strp,binA,elems,cells,scalar,eqC,keyA,intsA,lookA,ofVs,mpOf,Nat.reduceBEq,reduceAdd,reduceSub,reduceLT,reduceLeDiff,reduceMul,reduceEqDiff,reduceIte]))
  refine .inr (.inl ⟨_,_,_,_,rfl,fun _=>⟨clone148_does _ t ht0 hv.2.1,?_⟩,fun h=>by cases h⟩)
  rintro res σ' ⟨rfl,rfl⟩
  refine owp_of_exs ?_
  simp only [zT,zV,zS,zU,vcC,lateX,ex,strp,binA,elems,cells,scalar,eqC,keyA,intsA,lookA,ofVs,mpOf,Nat.reduceBEq,reduceAdd,reduceSub,reduceLT,reduceLeDiff,reduceMul,reduceEqDiff,reduceIte]
  (repeat' ((first
 | refine vn rfl ?_
 | simp (disch:=omega) only [wr64,Int.zero_sub]
 | refine bo (fun _=>?_) fun _=>?_
 | refine im fun _=>?_
 | refine cF ?_
 | refine om ?_
 | refine an ?_
 | fail) <;> try simp only [zT,zV,zS,zU,vcC,lateX,ex,strp,binA,elems,cells,scalar,eqC,keyA,intsA,lookA,ofVs,mpOf,Nat.reduceBEq,reduceAdd,reduceSub,reduceLT,reduceLeDiff,reduceMul,reduceEqDiff,reduceIte,hgk]))
  all_goals try (exfalso; omega)
  refine .inr (.inl ⟨_,_,_,_,rfl,fun _=>⟨clone149_does _ L hL0 l2,?_⟩,fun h=>by cases h⟩)
  rintro res σ' ⟨rfl,rfl⟩
  refine owp_of_exs ?_
  simp only [zT,zV,zS,zU,vcC,lateX,ex,strp,binA,elems,cells,scalar,eqC,keyA,intsA,lookA,ofVs,mpOf,Nat.reduceBEq,reduceAdd,reduceSub,reduceLT,reduceLeDiff,reduceMul,reduceEqDiff,reduceIte]
  (repeat' ((first
 | refine vn rfl ?_
 | simp (disch:=omega) only [wr64,Int.zero_sub]
 | refine bo (fun _=>?_) fun _=>?_
 | refine im fun _=>?_
 | refine cF ?_
 | refine om ?_
 | refine an ?_
 | fail) <;> try simp only [zT,zV,zS,zU,vcC,lateX,ex,strp,binA,elems,cells,scalar,eqC,keyA,intsA,lookA,ofVs,mpOf,Nat.reduceBEq,reduceAdd,reduceSub,reduceLT,reduceLeDiff,reduceMul,reduceEqDiff,reduceIte]))
  have hLl:∀ m,m < L.length→L[m]?=some (L.getD m ⟨[],[]⟩):=fun m hm=>getD_some hm
  have hr0:L.map Nod.cs=(List.range L.length).map fun m=>onlyR a 0 m (L.getD m ⟨[],[]⟩):=by
    rw [map_range _ _ ⟨[],[]⟩]
    exact range_congr fun m _=>by unfold onlyR; rw [if_neg (by omega)]
  rw [hr0]
  refine AWPC.loopE (α:={ i:Nat // i≤L.length }) [23] (fun i=>[(23,n i.1)]) (fun i=>[some [⟨24,1,[[.v (.slice none 0 0)]],none⟩],some [⟨68,1,t.map (fun l=>[stS l]),none⟩],some [⟨24,1,[[.own 1 0 t.length]],none⟩],some [⟨80,2,(List.range L.length).map fun m=>onlyR a i.1 m (L.getD m ⟨[],[]⟩),none⟩]]) (fun i=>L.length - i.1) ⟨0,Nat.zero_le _⟩ ?_ rfl ?_
  · (simp only [zT,zV,zS,zU,vcC,lateX,ex,strp,binA,elems,cells,scalar,eqC,keyA,intsA,lookA,ofVs,mpOf,Nat.reduceBEq,reduceAdd,reduceSub,reduceLT,reduceLeDiff,reduceMul,reduceEqDiff,reduceIte]; try simp)
  rintro ⟨i,hi⟩
  simp only
  by_cases hlt:i < L.length
  · have gx:((List.range L.length).map fun m=>onlyR a i m (L.getD m ⟨[],[]⟩)).getD i []=[spS (L.getD i ⟨[],[]⟩).al,edS (L.getD i ⟨[],[]⟩).nx]:=by
      rw [range_get _ hlt]; unfold onlyR; rw [if_neg (Nat.lt_irrefl i)]
    have hx:=l3 _ (List.mem_of_getElem? (hLl i hlt))
    have gs:∀ X,(((List.range L.length).map fun m=>onlyR a i m (L.getD m ⟨[],[]⟩)).set i X).getD i []=X:=fun X=>by
      rw [List.getD_eq_getElem?_getD,List.getElem?_set_self (by simpa using hlt)]; rfl
    have hfin:∀ X,X=onlyR a (i+1) i (L.getD i ⟨[],[]⟩)→((List.range L.length).map fun m=>onlyR a i m (L.getD m ⟨[],[]⟩)).set i X=(List.range L.length).map fun m=>onlyR a (i+1) m (L.getD m ⟨[],[]⟩):=fun X hX=>by
      rw [range_set]
      refine range_congr fun m hm=>?_
      by_cases hmi:m=i
      · subst hmi; rw [if_pos rfl,hX]
      · rw [if_neg hmi]
        unfold onlyR
        by_cases hml:m < i
        · rw [if_pos hml,if_pos (show m < i+1 by omega)]
        · rw [if_neg hml,if_neg (show ¬ m < i+1 by omega)]
    have hxg:=hx.1.2
    have hxs:=hx.1.1
    have hme:=meet_specM (L.getD i ⟨[],[]⟩).al [⟨a.val,a.val⟩] hxg.1 (norm1 _ _ (Int.le_refl _)) (by omega) (by simp) (by rw [List.length_singleton,Nat.mul_one]; omega)
    have hR:onlyR a (i+1) i (L.getD i ⟨[],[]⟩)=if (i:Int)=a.node then [spS (meet (L.getD i ⟨[],[]⟩).al [⟨a.val,a.val⟩]),edS (L.getD i ⟨[],[]⟩).nx] else [.v (.slice none 0 0),edS (L.getD i ⟨[],[]⟩).nx]:=by unfold onlyR; rw [if_pos (by omega)]
    generalize L.getD i ⟨[],[]⟩=x at *
    (repeat' ((first
 | refine vn rfl ?_
 | simp (disch:=omega) only [wr64,Int.zero_sub]
 | refine bo (fun _=>?_) fun _=>?_
 | refine im fun _=>?_
 | ((repeat refine si ?_); (first | ((first | refine .inl ⟨_,_,_,_,rfl,fun _=>pu hme,?_⟩ | refine ⟨_,_,_,_,rfl,fun _=>pu hme,?_⟩); (first | refine o1 ?_ | refine o2 ?_ | refine o3 ?_ | refine o4 ?_)) | refine .inl ⟨_,_,_,_,rfl,pu hme,?_⟩))
 | refine cF ?_
 | refine om ?_
 | refine an ?_
 | fail) <;> try simp only [zT,zV,zS,zU,vcC,lateX,ex,strp,binA,elems,cells,scalar,eqC,keyA,intsA,lookA,ofVs,mpOf,Nat.reduceBEq,reduceAdd,reduceSub,reduceLT,reduceLeDiff,reduceMul,reduceEqDiff,reduceIte,gx,gs,List.length_range,List.length_set,List.set_set]))
    all_goals try (exfalso; omega)
    · rename_i hc
      rw [if_pos hc] at hR
      exact ⟨⟨i+1,hlt⟩,by simp,by rw [hfin _ hR.symm],by simp only; omega⟩
    · rename_i hc
      rw [if_neg hc] at hR
      exact ⟨⟨i+1,hlt⟩,by simp,by rw [hfin _ hR.symm],by simp only; omega⟩
  · obtain rfl:i=L.length:=by omega
    (repeat' ((first
 | refine vn rfl ?_
 | simp (disch:=omega) only [wr64,Int.zero_sub]
 | refine bo (fun _=>?_) fun _=>?_
 | refine im fun _=>?_
 | refine cF ?_
 | refine om ?_
 | refine an ?_
 | fail) <;> try simp only [zT,zV,zS,zU,vcC,lateX,ex,strp,binA,elems,cells,scalar,eqC,keyA,intsA,lookA,ofVs,mpOf,Nat.reduceBEq,reduceAdd,reduceSub,reduceLT,reduceLeDiff,reduceMul,reduceEqDiff,reduceIte,hgk]))
    all_goals try (exfalso; omega)
    have hot:=onlyT_len t k a
    refine Frz.agg rfl fun q hq=>?_
    obtain rfl:q=0:=by simpa using hq
    refine Frz.own (o:=⟨68,1,(t.map fun l=>[stS l]).set k [.own 3 0 L.length],none⟩) (es:=(onlyT t k a).map fun l=>[stS l]) (show (1:Nat)≠0 by decide) rfl (by simp) (by simp [hot]) (fun e j he hj=>?_) fun e he=>?_
    · obtain rfl:j=0:=by simp only at hj; omega
      have hge:=hget e
      rw [getD_map (getD_some (d:=[]) (by rw [hot]; exact he)),hge]
      have hE:((t.map fun l=>[stS l]).set k [.own 3 0 L.length]).getD e []=if k=e then [.own 3 0 L.length] else [stS (t.getD e [])]:=by
        rw [List.getD_eq_getElem?_getD,List.getElem?_set]
        by_cases hek:k=e
        · subst hek; simp [hk]
        · rw [if_neg hek,if_neg hek,← List.getD_eq_getElem?_getD,getD_map (getD_some (d:=[]) he)]
      show Frz _ ((((t.map fun l=>[stS l]).set k [.own 3 0 L.length]).getD e []).getD 0 .any) _
      rw [hE]
      by_cases hek:k=e
      · subst hek
        rw [if_pos rfl,if_pos rfl]
        refine Frz.own (o:=⟨80,2,(List.range L.length).map fun m=>onlyR a L.length m (L.getD m ⟨[],[]⟩),none⟩) (es:=(onlyF a 0 L).map Nod.cs) (show (2:Nat)≠0 by decide) rfl (by simp) (by simp [onlyF_len]) (fun m j hm hj=>?_) fun m hm=>?_
        · have hom:=onlyF_get a L 0 m _ (hLl m hm)
          rw [getD_map hom,range_get _ hm]
          unfold onlyR onlyN
          rw [if_pos hm,Nat.zero_add]
          by_cases hc:(m:Int)=a.node
          · rw [if_pos hc,if_pos hc]
            match j,hj with
            | 0,_=>exact Frz.eq rfl (by simp)
            | 1,_=>exact Frz.eq rfl (by simp)
          · rw [if_neg hc,if_neg hc]
            match j,hj with
            | 0,_=>exact frz_nil
            | 1,_=>exact Frz.eq rfl (by simp)
        · have hom:=onlyF_get a L 0 m _ (hLl m hm)
          rw [getD_map hom]; rfl
      · rw [if_neg hek,if_neg (fun h=>hek h.symm)]
        exact Frz.eq rfl (by simp)
    · rw [getD_map (getD_some (d:=[]) (by rw [hot]; exact he))]; rfl
def c147:CF:=⟨80,
 (.seq (.ops [
 ⟨some 4,.box false 24 1 (.t 0),none⟩,
 ⟨some 6,.box false 26 2 (.t 2),none⟩,
 ⟨some 8,.mv (.c (.slice none 0 0)),none⟩] [1,3,4,6])
 (.seq (.ops [
 ⟨some 15,.mv (.t 3),none⟩,
 ⟨some 16,.len (.t 15),none⟩,
 ⟨some 17,.mksl 45 1 24 [.slice none 0 0] (.t 16) (.t 16),none⟩,
 ⟨some 9,.mv (.t 17),none⟩] [1,3,4,6,9])
 (.seq (.seq (.draw [
 ⟨some 18,.faddr 0 (.t 4),none⟩,
 ⟨some 19,.load none (.t 18),none⟩,
 ⟨some 20,.mv (.t 1),none⟩,
 ⟨some 21,.iaddr 1 (.t 19) (.t 20),none⟩,
 ⟨some 22,.load none (.t 21),none⟩,
 ⟨some 23,.faddr 0 (.t 6),none⟩,
 ⟨some 24,.load none (.t 23),none⟩,
 ⟨some 25,.iaddr 2 (.t 22) (.t 24),none⟩,
 ⟨some 26,.faddr 1 (.t 25),none⟩,
 ⟨some 27,.load none (.t 26),none⟩,
 ⟨some 28,.len (.t 27),none⟩,
 ⟨some 29,.mv (.c (.int .i64 0)),none⟩] [
 ] [3,6,9,27,28,29])
 (.block 0 (.loop (.seq (.ops [
 ⟨some 30,.bin .lss (.t 29) (.t 28),none⟩] [3,6,9,27,28,29,30])
 (.seq (.cond (.t 30) .skip
 (.exit 0))
 (.seq (.block 1 (.seq (.ops [
 ⟨some 31,.iaddr 3 (.t 27) (.t 29),none⟩,
 ⟨some 32,.load (some 3) (.t 31),none⟩,
 ⟨some 11,.alloc 124 3 [.int .i64 0,.int .i64 0,.int .i64 0],none⟩,
 ⟨none,.store 3 (.t 11) (.t 32),none⟩] [3,6,9,11,27,28,29])
 (.seq (.ops [
 ⟨some 33,.faddr 1 (.t 6),none⟩,
 ⟨some 34,.load none (.t 33),none⟩,
 ⟨some 35,.faddr 1 (.t 11),none⟩,
 ⟨some 36,.faddr 0 (.t 35),none⟩,
 ⟨some 37,.load none (.t 36),none⟩,
 ⟨some 38,.bin .add (.t 34) (.t 37),none⟩,
 ⟨some 39,.faddr 1 (.t 6),none⟩,
 ⟨some 40,.load none (.t 39),none⟩,
 ⟨some 41,.faddr 1 (.t 11),none⟩,
 ⟨some 42,.faddr 1 (.t 41),none⟩,
 ⟨some 43,.load none (.t 42),none⟩,
 ⟨some 44,.bin .add (.t 40) (.t 43),none⟩,
 ⟨some 45,.build [.int .i64 0,.int .i64 0] [(0,1,(.t 38)),(1,1,(.t 44))],none⟩,
 ⟨some 46,.bsl false 30 2 1 [.int .i64 0,.int .i64 0] [(0,2,(.t 45))],none⟩,
 ⟨some 12,.mv (.t 46),none⟩] [3,6,9,11,12,27,28,29])
 (.draww [0,1,2,3,4,5,6,7,8,9,10,11,12,13,14,15,16,17] [0,1,2] 1 [
 ⟨some 47,.mv (.t 9),none⟩,
 ⟨some 48,.faddr 0 (.t 11),none⟩,
 ⟨some 49,.load none (.t 48),none⟩,
 ⟨some 50,.mv (.t 9),none⟩,
 ⟨some 51,.faddr 0 (.t 11),none⟩,
 ⟨some 52,.load none (.t 51),none⟩,
 ⟨some 53,.iaddr 1 (.t 50) (.t 52),none⟩,
 ⟨some 54,.load none (.t 53),none⟩,
 ⟨some 55,.mv (.t 12),none⟩,
 ⟨some 56,.mv (.t 3),none⟩,
 ⟨some 57,.faddr 0 (.t 11),none⟩,
 ⟨some 58,.load none (.t 57),none⟩,
 ⟨some 59,.iaddr 1 (.t 56) (.t 58),none⟩,
 ⟨some 60,.load none (.t 59),none⟩,
 ⟨some 61,.call (.f 81) [(.t 55),(.t 60)],none⟩] [
 ⟨some 62,.app 30 2 16 (.t 54) (.t 61),none⟩,
 ⟨some 63,.iaddr 1 (.t 47) (.t 49),none⟩,
 ⟨none,.store 1 (.t 63) (.t 62),none⟩] [3,6,9,27,28,29]))))
 (.ops [
 ⟨some 64,.bin .add (.t 29) (.c (.int .i64 1)),none⟩,
 ⟨some 29,.mv (.t 64),none⟩] [3,6,9,27,28,29])))))))
 (.seq (.seq (.ops [
 ⟨some 65,.mv (.t 9),none⟩,
 ⟨some 66,.len (.t 65),none⟩,
 ⟨some 67,.mv (.c (.int .i64 0)),none⟩] [9,65,66,67])
 (.block 2 (.loop (.seq (.ops [
 ⟨some 68,.bin .lss (.t 67) (.t 66),none⟩] [9,65,66,67,68])
 (.seq (.cond (.t 68) .skip
 (.exit 2))
 (.seq (.block 3 (.seq (.ops [
 ⟨some 69,.mv (.t 67),none⟩,
 ⟨some 70,.iaddr 1 (.t 65) (.t 67),none⟩,
 ⟨some 71,.load none (.t 70),none⟩,
 ⟨some 13,.mv (.t 69),none⟩,
 ⟨some 14,.mv (.t 71),none⟩] [9,13,14,65,66,67])
 (.ops [
 ⟨some 72,.mv (.t 9),none⟩,
 ⟨some 73,.mv (.t 13),none⟩,
 ⟨some 74,.mv (.t 14),none⟩,
 ⟨some 75,.call (.f 93) [(.t 74)],none⟩,
 ⟨some 76,.call (.f 79) [(.t 75)],none⟩,
 ⟨some 77,.iaddr 1 (.t 72) (.t 73),none⟩,
 ⟨none,.store 1 (.t 77) (.t 76),none⟩] [9,65,66,67])))
 (.ops [
 ⟨some 78,.bin .add (.t 67) (.c (.int .i64 1)),none⟩,
 ⟨some 67,.mv (.t 78),none⟩] [9,65,66,67])))))))
 (.seq (.ops [
 ⟨some 79,.mv (.t 9),none⟩,
 ⟨some 8,.mv (.t 79),none⟩] [8])
 .ret))))),
 [.t 8]⟩
def c109:CF:=⟨58,
 (.seq (.ops [
 ⟨some 2,.box false 24 1 (.t 0),none⟩,
 ⟨some 4,.mv (.c (.slice none 0 0)),none⟩] [1,2])
 (.scope (.seq (.ops [
 ⟨some 5,.mv (.c (.slice none 0 0)),none⟩] [1,2,5])
 (.seq (.ops [
 ⟨some 11,.mv (.t 1),none⟩,
 ⟨some 12,.iaddr 1 (.t 11) (.c (.int .i64 0)),none⟩,
 ⟨some 13,.load none (.t 12),none⟩,
 ⟨some 6,.mv (.t 13),none⟩] [1,2,5,6])
 (.seq .skip
 (.seq (.seq (.ops [
 ⟨some 14,.faddr 0 (.t 2),none⟩,
 ⟨some 15,.load none (.t 14),none⟩,
 ⟨some 16,.len (.t 15),none⟩,
 ⟨some 17,.mv (.c (.int .i64 0)),none⟩] [1,2,5,6,16,17])
 (.block 0 (.loop (.seq (.ops [
 ⟨some 18,.bin .lss (.t 17) (.t 16),none⟩] [1,2,5,6,16,17,18])
 (.seq (.cond (.t 18) .skip
 (.exit 0))
 (.seq (.block 1 (.seq (.ops [
 ⟨some 19,.mv (.t 17),none⟩,
 ⟨some 7,.mv (.t 19),none⟩] [1,2,5,6,7,16,17])
 (.seq (.ops [
 ⟨some 20,.mv (.t 6),none⟩,
 ⟨some 21,.len (.t 20),none⟩,
 ⟨some 22,.mv (.c (.int .i64 0)),none⟩] [1,2,5,6,7,16,17,20,21,22])
 (.block 2 (.loop (.seq (.ops [
 ⟨some 23,.bin .lss (.t 22) (.t 21),none⟩] [1,2,5,6,7,16,17,20,21,22,23])
 (.seq (.cond (.t 23) .skip
 (.exit 2))
 (.seq (.block 3 (.seq (.ops [
 ⟨some 24,.mv (.t 22),none⟩,
 ⟨some 25,.iaddr 1 (.t 20) (.t 22),none⟩,
 ⟨some 26,.load none (.t 25),none⟩,
 ⟨some 8,.mv (.t 24),none⟩,
 ⟨some 9,.mv (.t 26),none⟩] [1,2,5,6,7,8,9,16,17,20,21,22])
 (.seq (.seq (.ops [
 ⟨some 27,.mv (.t 9),none⟩,
 ⟨some 28,.len (.t 27),none⟩,
 ⟨some 29,.bin .eql (.t 28) (.c (.int .i64 0)),none⟩] [1,2,5,6,7,8,9,16,17,20,21,22,29])
 (.cond (.t 29) (.exit 3)
 .skip))
 (.seq (.ops [
 ⟨some 30,.mv (.t 8),none⟩,
 ⟨some 31,.mv (.t 9),none⟩,
 ⟨some 32,.iaddr 2 (.t 31) (.c (.int .i64 0)),none⟩,
 ⟨some 33,.faddr 0 (.t 32),none⟩,
 ⟨some 34,.load none (.t 33),none⟩,
 ⟨some 35,.build [.int .i64 0,.int .i64 0] [(0,1,(.t 30)),(1,1,(.t 34))],none⟩,
 ⟨some 10,.alloc 26 2 [.int .i64 0,.int .i64 0],none⟩,
 ⟨none,.store 2 (.t 10) (.t 35),none⟩] [1,2,5,6,7,10,16,17])
 (.seq (.ops [
 ⟨some 36,.mv (.t 5),none⟩,
 ⟨some 37,.load (some 2) (.t 10),none⟩,
 ⟨some 38,.bsl false 26 2 1 [.int .i64 0,.int .i64 0] [(0,2,(.t 37))],none⟩,
 ⟨some 39,.app 26 2 16 (.t 36) (.t 38),none⟩,
 ⟨some 5,.mv (.t 39),none⟩] [1,2,5,6,7,10,16,17])
 (.seq (.seq (.ops [
 ⟨some 40,.mv (.t 7),none⟩,
 ⟨some 41,.bin .add (.t 40) (.c (.int .i64 1)),none⟩,
 ⟨some 42,.faddr 0 (.t 2),none⟩,
 ⟨some 43,.load none (.t 42),none⟩,
 ⟨some 44,.len (.t 43),none⟩,
 ⟨some 45,.bin .lss (.t 41) (.t 44),none⟩] [1,2,5,6,7,10,16,17,45])
 (.cond (.t 45) (.draw [
 ⟨some 46,.load (some 1) (.t 2),none⟩,
 ⟨some 47,.mv (.t 7),none⟩,
 ⟨some 48,.load (some 2) (.t 10),none⟩,
 ⟨some 49,.mv (.t 1),none⟩,
 ⟨some 50,.mv (.t 7),none⟩,
 ⟨some 51,.bin .add (.t 50) (.c (.int .i64 1)),none⟩,
 ⟨some 52,.iaddr 1 (.t 49) (.t 51),none⟩,
 ⟨some 53,.load none (.t 52),none⟩,
 ⟨some 54,.call (.f 147) [(.t 46),(.t 47),(.t 48),(.t 53)],none⟩,
 ⟨some 6,.mv (.t 54),none⟩] [
 ] [1,2,5,6,16,17])
 .skip))
 (.exit 1)))))))
 (.ops [
 ⟨some 55,.bin .add (.t 22) (.c (.int .i64 1)),none⟩,
 ⟨some 22,.mv (.t 55),none⟩] [1,2,5,6,7,16,17,20,21,22])))))))))
 (.ops [
 ⟨some 56,.bin .add (.t 17) (.c (.int .i64 1)),none⟩,
 ⟨some 17,.mv (.t 56),none⟩] [1,2,5,6,16,17])))))))
 (.seq (.ops [
 ⟨some 57,.mv (.t 5),none⟩,
 ⟨some 4,.mv (.t 57),none⟩] [4])
 .ret))))))),
 [.t 4]⟩
theorem k147:chkF Tryz.prog Tryz.f147 c147=true:=by kernel_rfl
theorem edge_take {l:List Edg} {v:Int} {bk:List (List Sp)} {i:Nat} {e:Edg} (h:l[i]?=some e) (h0:0≤e.to) (j:Nat) :
    (l.take (i+1)).flatMap (edge1 v bk j)=if j=e.to.toNat then (l.take i).flatMap (edge1 v bk j)++meet [⟨v+e.ch.lo,v+e.ch.hi⟩] (bk.getD j []) else (l.take i).flatMap (edge1 v bk j):=by
  rw [take_snoc h,List.flatMap_append]
  simp only [List.flatMap_cons,List.flatMap_nil,List.append_nil,edge1]
  by_cases hj:j=e.to.toNat
  · subst hj
    rw [if_pos (show e.to=((e.to.toNat:Nat):Int) by omega),if_pos rfl]
  · rw [if_neg hj,if_neg (by omega),List.append_nil]
theorem edge_len {bk:List (List Sp)} (hg:goods bk) (v:Int) (j:Nat):∀ l:List Edg,(l.flatMap (edge1 v bk j)).length≤l.length * 200001
  | []=>by simp
  | e::l=>by
    have h1:=edge_len hg v j l
    have h2:(edge1 v bk j e).length≤200001:=by
      unfold edge1
      split
      · exact good_len (meet_good (goods_get hg j))
      · simp
    simp only [List.flatMap_cons,List.length_append,List.length_cons]; omega
theorem edge_bd {bk:List (List Sp)} (hg:goods bk) (v:Int) (j:Nat) (l:List Edg):∀ s∈l.flatMap (edge1 v bk j),s.lo≤s.hi∧-1000000≤s.lo∧s.hi≤1000000:=fun s hs=>by
  obtain ⟨e,_,hx⟩:=List.mem_flatMap.1 hs
  unfold edge1 at hx
  split at hx
  · have hm:=meet_good (a:=[⟨v+e.ch.lo,v+e.ch.hi⟩]) (goods_get hg j)
    exact ⟨hm.1.ne s hx,good_in hm s hx⟩
  · simp at hx
theorem from_spec (t:Trk) (k i:Nat) (v:Int) (bk:List (List Sp)) (hv:valid t) (hk:k+1 < t.length) (hi:i < wd t k) (hb:bk.length=wd t (k+1)) (hg:goods bk) (hvb:-1000000≤v∧v≤1000000) :
    Pure Tryz.prog 147 [trS t,n (k:Int),.agg (At.cs ⟨(i:Int),v⟩),nodS bk] (nodS (stepS (nodAt t k i) v bk)):=by
  refine Pure.of_body Tryz.call147 Tryz.func147 k147 (Nat.le_of_ble_eq_true rfl) ?_
  unfold c147
  have hgk:(t.map fun l=>[stS l]).getD k []=[stS (t.getD k [])]:=getD_map (getD_some (by omega))
  have hx:(t.getD k [])[i]?=some (nodAt t k i):=getD_some hi
  have hgx:((t.getD k []).map Nod.cs).getD i []=Nod.cs (nodAt t k i):=getD_map hx
  have hno:=valid_nod hv hx
  have hw:=wd_le hv (k+1)
  have hil:i < (t.getD k []).length:=hi
  generalize hX:nodAt t k i=x at *
  generalize hL:t.getD k []=L at *
  obtain ⟨⟨x1,x2⟩,x3,x4⟩:=hno
  (repeat' ((first
 | refine vn rfl ?_
 | simp (disch:=omega) only [wr64,Int.zero_sub]
 | refine bo (fun _=>?_) fun _=>?_
 | refine im fun _=>?_
 | refine cF ?_
 | refine om ?_
 | refine an ?_
 | fail) <;> try simp only [zT,zV,zS,zU,vcC,lateX,ex,strp,binA,elems,cells,scalar,eqC,keyA,intsA,lookA,ofVs,mpOf,Nat.reduceBEq,reduceAdd,reduceSub,reduceLT,reduceLeDiff,reduceMul,reduceEqDiff,reduceIte,hgk,hgx]))
  all_goals try (exfalso; omega)
  refine AWPC.ownRows (A:=0) (T:=45) (N:=bk.length) (T':=30) (k':=2) rfl ?_
  have h0:Cols (Sto.upd [some [⟨45,1,List.replicate bk.length [.v (.slice none 0 0)],none⟩]] 0 0 ⟨45,1,rowsO (List.length ([some [⟨45,1,List.replicate bk.length [.v (.slice none 0 0)],none⟩]]:Sto)) bk.length bk.length,none⟩++List.replicate bk.length (some [⟨30,2,[],none⟩])) 0 1 bk.length (fun _=>[]):=by
    refine ⟨?_,fun j hj=>?_⟩
    · rw [upd_cons0]
      simp only [List.cons_append,List.set_cons_zero,at_cons0,List.getElem?_cons_zero,rowsO]
      exact congrArg (fun z=>some (⟨45,1,z,none⟩:Ob)) (range_congr fun j hj=>by rw [if_pos hj]; rfl)
    · rw [upd_cons0,Nat.add_comm,List.cons_append,at_consS]
      unfold Sto.at
      simp [hj]
  generalize hσ1:Sto.upd _ 0 0 _++List.replicate bk.length (some [⟨30,2,[],none⟩])=σ1 at h0 ⊢
  clear hσ1
  obtain ⟨G,hG⟩:∃ G,G=1:=⟨_,rfl⟩
  rw [← hG] at h0
  (repeat' ((first
 | refine vn rfl ?_
 | simp (disch:=omega) only [wr64,Int.zero_sub]
 | refine bo (fun _=>?_) fun _=>?_
 | refine im fun _=>?_
 | refine cF ?_
 | refine om ?_
 | refine an ?_
 | fail) <;> try simp only [zT,zV,zS,zU,vcC,lateX,ex,strp,binA,elems,cells,scalar,eqC,keyA,intsA,lookA,ofVs,mpOf,Nat.reduceBEq,reduceAdd,reduceSub,reduceLT,reduceLeDiff,reduceMul,reduceEqDiff,reduceIte]))
  refine AWPC.loopE (α:={ y:Nat × Sto // y.1≤x.nx.length∧Cols y.2 0 G bk.length (fun j=>(x.nx.take y.1).flatMap (edge1 v bk j)) }) [29] (fun y=>[(29,n y.1.1)]) (fun y=>y.1.2) (fun y=>x.nx.length - y.1.1) ⟨(0,σ1),Nat.zero_le _,by simpa using h0⟩ ?_ rfl ?_
  · (simp only [zT,zV,zS,zU,vcC,lateX,ex,strp,binA,elems,cells,scalar,eqC,keyA,intsA,lookA,ofVs,mpOf,Nat.reduceBEq,reduceAdd,reduceSub,reduceLT,reduceLeDiff,reduceMul,reduceEqDiff,reduceIte]; try simp)
  rintro ⟨⟨m,τ⟩,hm,hC⟩
  simp only at hm hC
  simp only
  by_cases hlt:m < x.nx.length
  · obtain ⟨e,he⟩:∃ e,x.nx[m]?=some e:=⟨_,List.getElem?_eq_getElem hlt⟩
    obtain ⟨e1,e2,e3⟩:=x4 e (List.mem_of_getElem? he)
    obtain ⟨c1,c2,c3⟩:=e3
    have hq:e.to.toNat < bk.length:=by omega
    have hqi:((e.to.toNat:Nat):Int)=e.to:=by omega
    have gb:(bk.map fun l=>[spS l]).getD e.to.toNat []=[spS (bk.getD e.to.toNat [])]:=getD_map (getD_some hq)
    have hgb:=goods_get hg e.to.toNat
    have hgl:=good_len hgb
    have hme:=meet_specM [⟨v+e.ch.lo,v+e.ch.hi⟩] (bk.getD e.to.toNat []) (norm1 _ _ (by omega)) hgb.1 (by simp) hgl (by rw [List.length_singleton,Nat.one_mul]; omega)
    have hnx:=edge_take (v:=v) (bk:=bk) he e1
    have hln:=edge_len hg v e.to.toNat (x.nx.take (m+1))
    rw [hnx,if_pos rfl,List.length_append,List.length_take] at hln
    generalize hQ:e.to.toNat=Q at *
    have lA:=at_lt hC.1
    have lG:=at_lt (hC.2 Q hq)
    have bR:∀ ν,Sto.at (τ++ν) 0 0=some ⟨45,1,(List.range bk.length).map fun (j:Nat)=>[.own (G+j) 0 ((x.nx.take m).flatMap (edge1 v bk j)).length],none⟩:=fun ν=>by rw [at_appL lA]; exact hC.1
    have bgt:((List.range bk.length).map fun (j:Nat)=>[AV.own (G+j) 0 ((x.nx.take m).flatMap (edge1 v bk j)).length]).getD Q []=[.own (G+Q) 0 ((x.nx.take m).flatMap (edge1 v bk Q)).length]:=range_get _ hq
    have bG:∀ ν,Sto.at (τ++ν) (G+Q) 0=some (spO ((x.nx.take m).flatMap (edge1 v bk Q))):=fun ν=>by rw [at_appL lG]; exact hC.2 Q hq
    have bU:∀ o ν,Sto.upd (τ++ν) (G+Q) 0 o=Sto.upd τ (G+Q) 0 o++ν:=fun o ν=>upd_appL lG
    have cL:∀ o,List.length (Sto.upd τ (G+Q) 0 o)=List.length τ:=fun o=>upd_length _ _ _ _
    have cR:∀ o ν,Sto.at (Sto.upd τ (G+Q) 0 o++ν) 0 0=some ⟨45,1,(List.range bk.length).map fun (j:Nat)=>[.own (G+j) 0 ((x.nx.take m).flatMap (edge1 v bk j)).length],none⟩:=fun o ν=>by rw [at_appL (by rw [cL]; exact lA),at_upd_other (.inl (by omega))]; exact hC.1
    have c11:∀ o (ν:Sto),Sto.at (Sto.upd τ (G+Q) 0 o++(some [⟨124,3,[Edg.cs e],none⟩]::ν)) (List.length τ) 0=some ⟨124,3,[Edg.cs e],none⟩:=fun o ν=>by rw [← cL o,at_app0]; rfl
    have cU:∀ o o' ν,Sto.upd (Sto.upd τ (G+Q) 0 o++ν) 0 0 o'=Sto.upd (Sto.upd τ (G+Q) 0 o) 0 0 o'++ν:=fun o o' ν=>upd_appL (by rw [cL]; exact lA)
    have hput:=putO_one (c:=Q) (v:=(x.nx.take m).flatMap (edge1 v bk Q)++meet [⟨v+e.ch.lo,v+e.ch.hi⟩] (bk.getD Q [])) hC (by omega) hq
    (repeat' ((first
 | refine vn rfl ?_
 | simp (disch:=omega) only [wr64,Int.zero_sub]
 | refine bo (fun _=>?_) fun _=>?_
 | refine im fun _=>?_
 | ((repeat refine si ?_); (first | ((first | refine .inl ⟨_,_,_,_,rfl,fun _=>pu hme,?_⟩ | refine ⟨_,_,_,_,rfl,fun _=>pu hme,?_⟩); (first | refine o1 ?_ | refine o2 ?_ | refine o3 ?_ | refine o4 ?_)) | refine .inl ⟨_,_,_,_,rfl,pu hme,?_⟩))
 | refine cF ?_
 | refine om ?_
 | refine an ?_
 | fail) <;> try simp only [zT,zV,zS,zU,vcC,lateX,ex,strp,binA,elems,cells,scalar,eqC,keyA,intsA,lookA,ofVs,mpOf,Nat.reduceBEq,reduceAdd,reduceSub,reduceLT,reduceLeDiff,reduceMul,reduceEqDiff,reduceIte,getD_map he,hQ,gb,bR,bgt,bG,bU,List.length_range]))
    all_goals try (exfalso; omega)
    refine ⟨⟨rows_ok _,by omega⟩,?_⟩
    simp only [zT,zV,zS,zU,vcC,lateX,ex,strp,binA,elems,cells,scalar,eqC,keyA,intsA,lookA,ofVs,mpOf,Nat.reduceBEq,reduceAdd,reduceSub,reduceLT,reduceLeDiff,reduceMul,reduceEqDiff,reduceIte,cR,c11,cU,bgt,hQ,List.length_range]
    (repeat' ((first
 | refine vn rfl ?_
 | simp (disch:=omega) only [wr64,Int.zero_sub]
 | refine bo (fun _=>?_) fun _=>?_
 | refine im fun _=>?_
 | refine cF ?_
 | refine om ?_
 | refine an ?_
 | fail) <;> try simp only [zT,zV,zS,zU,vcC,lateX,ex,strp,binA,elems,cells,scalar,eqC,keyA,intsA,lookA,ofVs,mpOf,Nat.reduceBEq,reduceAdd,reduceSub,reduceLT,reduceLeDiff,reduceMul,reduceEqDiff,reduceIte,cR,c11,cU,bgt,hQ,List.length_range]))
    all_goals try (exfalso; omega)
    refine ⟨⟨(m+1,putO τ 0 G bk.length Q (fun j=>(x.nx.take m).flatMap (edge1 v bk j)) ((x.nx.take m).flatMap (edge1 v bk Q)++meet [⟨v+e.ch.lo,v+e.ch.hi⟩] (bk.getD Q []))++[some [⟨124,3,[Edg.cs e],none⟩]]),hlt,(hput.congr fun j hj=>?_).app _⟩,by simp,?_,by simp only; omega⟩
    · rw [hnx]
      by_cases hj2:j=Q
      · subst hj2; simp
      · simp [hj2]
    · simp [putO,spO]
  · obtain rfl:m=x.nx.length:=by omega
    rw [List.take_length] at hC
    (repeat' ((first
 | refine vn rfl ?_
 | simp (disch:=omega) only [wr64,Int.zero_sub]
 | refine bo (fun _=>?_) fun _=>?_
 | refine im fun _=>?_
 | refine cF ?_
 | refine om ?_
 | refine an ?_
 | fail) <;> try simp only [zT,zV,zS,zU,vcC,lateX,ex,strp,binA,elems,cells,scalar,eqC,keyA,intsA,lookA,ofVs,mpOf,Nat.reduceBEq,reduceAdd,reduceSub,reduceLT,reduceLeDiff,reduceMul,reduceEqDiff,reduceIte,hC.1,List.length_range]))
    all_goals try (exfalso; omega)
    refine AWPC.loopE (α:={ q:Nat × Sto // q.1≤bk.length∧q.2.at 0 0=some ⟨45,1,(List.range bk.length).map fun (j:Nat)=>[if j < q.1 then spS (step1 x v bk j) else .own (G+j) 0 (x.nx.flatMap (edge1 v bk j)).length],none⟩ ∧
        (∀ j,q.1≤j→j < bk.length→q.2.at (G+j) 0=some (spO (x.nx.flatMap (edge1 v bk j)))) })
      [67] (fun q=>[(67,n q.1.1)]) (fun q=>q.1.2) (fun q=>bk.length - q.1.1) ⟨(0,τ),Nat.zero_le _,by simpa using hC.1,fun j _ hj=>hC.2 j hj⟩ ?_ rfl ?_
    · (simp only [zT,zV,zS,zU,vcC,lateX,ex,strp,binA,elems,cells,scalar,eqC,keyA,intsA,lookA,ofVs,mpOf,Nat.reduceBEq,reduceAdd,reduceSub,reduceLT,reduceLeDiff,reduceMul,reduceEqDiff,reduceIte]; try simp)
    rintro ⟨⟨j,σ2⟩,hj,y1,y2⟩
    simp only at hj y1 y2
    simp only
    by_cases hlt3:j < bk.length
    · have dgi:((List.range bk.length).map fun (q:Nat)=>[if q < j then spS (step1 x v bk q) else .own (G+q) 0 (x.nx.flatMap (edge1 v bk q)).length]).getD j []=[.own (G+j) 0 (x.nx.flatMap (edge1 v bk j)).length]:=by rw [range_get _ hlt3,if_neg (Nat.lt_irrefl j)]
      have yi:=y2 j (Nat.le_refl _) hlt3
      ((first
 | refine vn rfl ?_
 | simp (disch:=omega) only [wr64,Int.zero_sub]
 | refine bo (fun _=>?_) fun _=>?_
 | refine im fun _=>?_
 | refine cF ?_
 | refine om ?_
 | refine an ?_
 | fail) <;> try simp only [zT,zV,zS,zU,vcC,lateX,ex,strp,binA,elems,cells,scalar,eqC,keyA,intsA,lookA,ofVs,mpOf,Nat.reduceBEq,reduceAdd,reduceSub,reduceLT,reduceLeDiff,reduceMul,reduceEqDiff,reduceIte,y1,dgi,List.length_range])
      ((first
 | refine vn rfl ?_
 | simp (disch:=omega) only [wr64,Int.zero_sub]
 | refine bo (fun _=>?_) fun _=>?_
 | refine im fun _=>?_
 | refine cF ?_
 | refine om ?_
 | refine an ?_
 | fail) <;> try simp only [zT,zV,zS,zU,vcC,lateX,ex,strp,binA,elems,cells,scalar,eqC,keyA,intsA,lookA,ofVs,mpOf,Nat.reduceBEq,reduceAdd,reduceSub,reduceLT,reduceLeDiff,reduceMul,reduceEqDiff,reduceIte,y1,dgi,List.length_range])
      refine AWPC.both (fun _=>?_) (fun h=>?_)
      case refine_2=>exfalso; omega
      ((first
 | refine vn rfl ?_
 | simp (disch:=omega) only [wr64,Int.zero_sub]
 | refine bo (fun _=>?_) fun _=>?_
 | refine im fun _=>?_
 | refine cF ?_
 | refine om ?_
 | refine an ?_
 | fail) <;> try simp only [zT,zV,zS,zU,vcC,lateX,ex,strp,binA,elems,cells,scalar,eqC,keyA,intsA,lookA,ofVs,mpOf,Nat.reduceBEq,reduceAdd,reduceSub,reduceLT,reduceLeDiff,reduceMul,reduceEqDiff,reduceIte])
      ((first
 | refine vn rfl ?_
 | simp (disch:=omega) only [wr64,Int.zero_sub]
 | refine bo (fun _=>?_) fun _=>?_
 | refine im fun _=>?_
 | refine cF ?_
 | refine om ?_
 | refine an ?_
 | fail) <;> try simp only [zT,zV,zS,zU,vcC,lateX,ex,strp,binA,elems,cells,scalar,eqC,keyA,intsA,lookA,ofVs,mpOf,Nat.reduceBEq,reduceAdd,reduceSub,reduceLT,reduceLeDiff,reduceMul,reduceEqDiff,reduceIte,y1,dgi,List.length_range])
      (repeat refine si ?_)
      refine AWPC.freeze1 (t:=14) (n:=(x.nx.flatMap (edge1 v bk j)).length) rfl yi (by simp) (show (2:Nat)≠0 by decide) ?_
      have z1:Sto.at (gone σ2 (G+j)) 0 0=some ⟨45,1,(List.range bk.length).map fun (q:Nat)=>[if q < j then spS (step1 x v bk q) else .own (G+q) 0 (x.nx.flatMap (edge1 v bk q)).length],none⟩:=by rw [at_gone' (by omega)]; exact y1
      have hln:=edge_len hg v j x.nx
      have hbd:=edge_bd hg v j x.nx
      have hga:=gatherV_spec (x.nx.flatMap (edge1 v bk j)) (by omega) (fun s hs=>(hbd s hs).1) (fun s hs=>(hbd s hs).2)
      have hs1:joins [] (x.nx.flatMap (edge1 v bk j))=step1 x v bk j:=rfl
      rw [hs1] at hga
      have z4:∀ q,q≠G+j→(gone σ2 (G+j)).at q 0=σ2.at q 0:=fun q hq=>at_gone' hq
      generalize hGS:gone σ2 (G+j)=σ3 at *
      (repeat' ((first
 | refine vn rfl ?_
 | simp (disch:=omega) only [wr64,Int.zero_sub]
 | refine bo (fun _=>?_) fun _=>?_
 | refine im fun _=>?_
 | ((repeat refine si ?_); (first | ((first | refine .inl ⟨_,_,_,_,rfl,fun _=>pu (by first | exact values_spec _ | exact hga),?_⟩ | refine ⟨_,_,_,_,rfl,fun _=>pu (by first | exact values_spec _ | exact hga),?_⟩); (first | refine o1 ?_ | refine o2 ?_ | refine o3 ?_ | refine o4 ?_)) | refine .inl ⟨_,_,_,_,rfl,pu (by first | exact values_spec _ | exact hga),?_⟩))
 | refine cF ?_
 | refine om ?_
 | refine an ?_
 | fail) <;> try simp only [zT,zV,zS,zU,vcC,lateX,ex,strp,binA,elems,cells,scalar,eqC,keyA,intsA,lookA,ofVs,mpOf,Nat.reduceBEq,reduceAdd,reduceSub,reduceLT,reduceLeDiff,reduceMul,reduceEqDiff,reduceIte,z1,dgi,List.length_range]))
      all_goals try (exfalso; omega)
      generalize hσ4:Sto.upd σ3 0 0 _=σ4
      have f2:∀ q,q≠0→σ4.at q 0=σ3.at q 0:=fun q hq=>by rw [← hσ4,at_upd_other (.inl fun e=>hq e.symm)]
      have f1:σ4.at 0 0=some ⟨45,1,((List.range bk.length).map fun (q:Nat)=>[if q < j then spS (step1 x v bk q) else .own (G+q) 0 (x.nx.flatMap (edge1 v bk q)).length]).set j [spS (step1 x v bk j)],none⟩:=by rw [← hσ4,at_upd_same z1]
      refine ⟨⟨(j+1,σ4),hlt3,?_,fun q hq1 hq2=>?_⟩,by simp,rfl,by simp only; omega⟩
      · simp only
        rw [f1,range_set]
        refine congrArg (fun z=>some (⟨45,1,z,none⟩:Ob)) (range_congr fun q hq=>?_)
        by_cases hji:q=j
        · subst hji; simp
        · rw [if_neg hji]
          by_cases hjl:q < j
          · rw [if_pos hjl,if_pos (show q < j+1 by omega)]
          · rw [if_neg hjl,if_neg (show ¬ q < j+1 by omega)]
      · simp only at hq1 ⊢
        rw [f2 _ (by omega),z4 _ (by omega)]
        exact y2 q (by omega) hq2
    · obtain rfl:j=bk.length:=by omega
      (repeat' ((first
 | refine vn rfl ?_
 | simp (disch:=omega) only [wr64,Int.zero_sub]
 | refine bo (fun _=>?_) fun _=>?_
 | refine im fun _=>?_
 | refine cF ?_
 | refine om ?_
 | refine an ?_
 | fail) <;> try simp only [zT,zV,zS,zU,vcC,lateX,ex,strp,binA,elems,cells,scalar,eqC,keyA,intsA,lookA,ofVs,mpOf,Nat.reduceBEq,reduceAdd,reduceSub,reduceLT,reduceLeDiff,reduceMul,reduceEqDiff,reduceIte]))
      all_goals try (exfalso; omega)
      have hl:(stepS x v bk).length=bk.length:=by simp [stepS]
      have y3:σ2.at 0 0=some ⟨45,1,(stepS x v bk).map (fun l=>[spS l]),none⟩:=by
        rw [y1,stepS,List.map_map]
        exact congrArg (fun z=>some (⟨45,1,z,none⟩:Ob)) (range_congr fun q hq=>by rw [if_pos hq]; rfl)
      have:=frz_nodO y3
      rwa [hl] at this
theorem k109:chkF Tryz.prog Tryz.f109 c109=true:=by kernel_rfl
theorem stepS_goods {x:Nod} {v:Int} {bk:List (List Sp)} (hg:goods bk):goods (stepS x v bk):=fun l hl=>by
  obtain ⟨j,_,rfl⟩:=List.mem_map.1 hl
  refine ⟨joins0_norm _,in_of_mem (joins0_norm _) fun u hu=>?_⟩
  rw [step1,joins0_mem] at hu
  obtain ⟨e,_,hu⟩:=mem_flatMap.1 hu
  unfold edge1 at hu
  split at hu
  · exact mem_of_in (meet_good (goods_get hg j)).2 hu
  · exact absurd hu Mem.nil
theorem stepS_len (x:Nod) (v:Int) (bk:List (List Sp)):(stepS x v bk).length=bk.length:=by simp [stepS]
theorem pickF_n {l:List (List Sp)} {i:Nat} (h:l[i]?=some []):pickF i (l.drop i)=pickF (i+1) (l.drop (i+1)):=by rw [drop_cons h]; rfl
theorem pickF_c {l:List (List Sp)} {i:Nat} {s:Sp} {r:List Sp} (h:l[i]?=some (s::r)):pickF i (l.drop i)=some ⟨(i:Int),s.lo⟩:=by rw [drop_cons h]; rfl
theorem frz_at {σ:Sto} {f i:Nat} {l:List At} (h:σ.at f i=some ⟨26,2,l.map At.cs,none⟩):Frz σ (.own f i l.length) (atS l):=by
  refine Frz.own (o:=⟨26,2,l.map At.cs,none⟩) (es:=l.map At.cs) (show (2:Nat)≠0 by decide) h (by simp) (by simp) (fun e j he hj=>?_) fun e he=>?_
  · obtain ⟨x,hx⟩:∃ x,l[e]?=some x:=⟨_,List.getElem?_eq_getElem he⟩
    rw [getD_map hx]
    match j,hj with
    | 0,_=>exact Frz.eq rfl (by simp)
    | 1,_=>exact Frz.eq rfl (by simp)
  · obtain ⟨x,hx⟩:∃ x,l[e]?=some x:=⟨_,List.getElem?_eq_getElem he⟩
    rw [getD_map hx]; rfl
theorem first_spec (t:Trk) (bk:List (List (List Sp))) (hv:valid t) (hl:bk.length=t.length) (hw:∀ k,k < t.length→(bk.getD k []).length=wd t k) (hg:∀ k,k < t.length→goods (bk.getD k [])) :
    Pure Tryz.prog 109 [trS t,stgS bk] (atS (firstT t bk)):=by
  refine Pure.of_body Tryz.call109 Tryz.func109 k109 (Nat.le_of_ble_eq_true rfl) ?_
  unfold c109
  have h1:=hv.1
  have h2:=hv.2.1
  have gbk:∀ k,k < t.length→(bk.map fun l=>[nodS l]).getD k []=[nodS (bk.getD k [])]:=fun k hk=>getD_map (getD_some (by omega))
  have g0:=gbk 0 (by omega)
  (repeat' ((first
 | refine vn rfl ?_
 | simp (disch:=omega) only [wr64,Int.zero_sub]
 | refine bo (fun _=>?_) fun _=>?_
 | refine im fun _=>?_
 | refine cF ?_
 | refine om ?_
 | refine an ?_
 | fail) <;> try simp only [zT,zV,zS,zU,vcC,lateX,ex,strp,binA,elems,cells,scalar,eqC,keyA,intsA,lookA,ofVs,mpOf,Nat.reduceBEq,reduceAdd,reduceSub,reduceLT,reduceLeDiff,reduceMul,reduceEqDiff,reduceIte,g0]))
  refine AWPC.own0 26 2 5 rfl ?_
  refine AWPC.loopE (α:={ y:Nat × List (List Sp) × List At × Sto // y.1≤t.length∧y.2.2.1.length≤y.1∧y.2.2.1++firstGo t bk (t.length - y.1) y.1 y.2.1=firstT t bk∧goods y.2.1∧y.2.1.length≤4000∧(y.2.1.length=wd t y.1∨pickF 0 y.2.1=none∨t.length≤y.1) })
    [5,6,17] (fun y=>[(5,.own 0 0 y.1.2.2.1.length),(6,nodS y.1.2.1),(17,n y.1.1)]) (fun y=>some [⟨26,2,y.1.2.2.1.map At.cs,none⟩]::y.1.2.2.2) (fun y=>t.length - y.1.1)
    ⟨(0,bk.getD 0 [],[],[]),Nat.zero_le _,by simp,by simp [firstT],hg 0 (by omega),by rw [hw 0 (by omega)]; exact wd_le hv 0,.inl (hw 0 (by omega))⟩ ?_ rfl ?_
  · (simp only [zT,zV,zS,zU,vcC,lateX,ex,strp,binA,elems,cells,scalar,eqC,keyA,intsA,lookA,ofVs,mpOf,Nat.reduceBEq,reduceAdd,reduceSub,reduceLT,reduceLeDiff,reduceMul,reduceEqDiff,reduceIte]; try simp)
  rintro ⟨⟨k,may,acc,μ⟩,hk,hacc,heq,hgm,hml,hmw⟩
  simp only at hk hacc heq hgm hml hmw
  simp only
  by_cases hlt:k < t.length
  · have hgo:t.length - k=(t.length - (k+1))+1:=by omega
    rw [hgo,firstGo] at heq
    (repeat' ((first
 | refine vn rfl ?_
 | simp (disch:=omega) only [wr64,Int.zero_sub]
 | refine bo (fun _=>?_) fun _=>?_
 | refine im fun _=>?_
 | refine cF ?_
 | refine om ?_
 | refine an ?_
 | fail) <;> try simp only [zT,zV,zS,zU,vcC,lateX,ex,strp,binA,elems,cells,scalar,eqC,keyA,intsA,lookA,ofVs,mpOf,Nat.reduceBEq,reduceAdd,reduceSub,reduceLT,reduceLeDiff,reduceMul,reduceEqDiff,reduceIte]))
    all_goals try (exfalso; omega)
    refine AWPC.loopE (α:={ j:Nat // j≤may.length∧pickF j (may.drop j)=pickF 0 may }) [22] (fun j=>[(22,n j.1)]) (fun j=>some [⟨26,2,acc.map At.cs,none⟩]::μ) (fun j=>may.length - j.1) ⟨0,Nat.zero_le _,by simp⟩ ?_ rfl ?_
    · (simp only [zT,zV,zS,zU,vcC,lateX,ex,strp,binA,elems,cells,scalar,eqC,keyA,intsA,lookA,ofVs,mpOf,Nat.reduceBEq,reduceAdd,reduceSub,reduceLT,reduceLeDiff,reduceMul,reduceEqDiff,reduceIte]; try simp)
    rintro ⟨j,hj,hp⟩
    simp only
    by_cases hlt2:j < may.length
    · have gm:(may.map fun l=>[spS l]).getD j []=[spS (may.getD j [])]:=getD_map (getD_some hlt2)
      have hj':may[j]?=some (may.getD j []):=getD_some hlt2
      have hgj:=goods_get hgm j
      cases hx:may.getD j [] with
      | nil =>
        rw [hx] at gm hj'
        rw [pickF_n hj'] at hp
        (repeat' ((first
 | refine vn rfl ?_
 | simp (disch:=omega) only [wr64,Int.zero_sub]
 | refine bo (fun _=>?_) fun _=>?_
 | refine im fun _=>?_
 | refine cF ?_
 | refine om ?_
 | refine an ?_
 | fail) <;> try simp only [zT, zV, zS, zU, vcC, lateX, ex, strp, binA, elems, cells, scalar, eqC, keyA, intsA, lookA, ofVs, mpOf, Nat.reduceBEq, reduceAdd, reduceSub, reduceLT, reduceLeDiff, reduceMul, reduceEqDiff, reduceIte, gm]))
        all_goals try (exfalso; omega)
        exact ⟨⟨j+1,hlt2,hp⟩,by simp,by simp only; omega⟩
      | cons s r =>
        rw [hx] at gm hj' hgj
        rw [pickF_c hj'] at hp
        rw [← hp] at heq hmw
        simp only at heq
        have hjw:j < wd t k:=by
          rcases hmw with h | h | h
          · omega
          · cases h
          · omega
        have hsb:=hgj.2 s (by simp)
        have hsn:=hgj.1.ne s (by simp)
        have gs:((s::r).map Sp.cs).getD (Int.toNat 0) []=s.cs:=rfl
        by_cases hnx:k+1 < t.length
        · have hfr:=from_spec t k j s.lo (bk.getD (k+1) []) hv hnx hjw (hw (k+1) hnx) (hg (k+1) hnx) (by omega)
          have gb:=gbk (k+1) hnx
          have hN:nextM t bk k may ⟨(j:Int),s.lo⟩=stepS (nodAt t k j) s.lo (bk.getD (k+1) []):=by unfold nextM; rw [if_pos hnx]; simp
          rw [hN] at heq
          have ek:((k:Int)+1).toNat=k+1:=by omega
          (repeat' ((first
 | refine vn rfl ?_
 | simp (disch:=omega) only [wr64,Int.zero_sub]
 | refine bo (fun _=>?_) fun _=>?_
 | refine im fun _=>?_
 | ((repeat refine si ?_); (first | ((first | refine .inl ⟨_,_,_,_,rfl,fun _=>pu hfr,?_⟩ | refine ⟨_,_,_,_,rfl,fun _=>pu hfr,?_⟩); (first | refine o1 ?_ | refine o2 ?_ | refine o3 ?_ | refine o4 ?_)) | refine .inl ⟨_,_,_,_,rfl,pu hfr,?_⟩))
 | refine cF ?_
 | refine om ?_
 | refine an ?_
 | fail) <;> try simp only [zT, zV, zS, zU, vcC, lateX, ex, strp, binA, elems, cells, scalar, eqC, keyA, intsA, lookA, ofVs, mpOf, Nat.reduceBEq, reduceAdd, reduceSub, reduceLT, reduceLeDiff, reduceMul, reduceEqDiff, reduceIte, gm, gs, gb, ek]))
          all_goals try (exfalso; omega)
          refine ⟨⟨(k+1,stepS (nodAt t k j) s.lo (bk.getD (k+1) []),acc++[⟨(j:Int),s.lo⟩],μ++[some [⟨26,2,[At.cs ⟨(j:Int),s.lo⟩],none⟩]]),hlt,by simp; omega,by simpa using heq,stepS_goods (hg (k+1) hnx),by rw [stepS_len,hw _ hnx]; exact wd_le hv _,.inl (by rw [stepS_len,hw _ hnx])⟩,by simp,by simp,by simp only; omega⟩
        · have hN:nextM t bk k may ⟨(j:Int),s.lo⟩=may:=by unfold nextM; rw [if_neg hnx]
          rw [hN] at heq
          (repeat' ((first
 | refine vn rfl ?_
 | simp (disch:=omega) only [wr64,Int.zero_sub]
 | refine bo (fun _=>?_) fun _=>?_
 | refine im fun _=>?_
 | refine cF ?_
 | refine om ?_
 | refine an ?_
 | fail) <;> try simp only [zT, zV, zS, zU, vcC, lateX, ex, strp, binA, elems, cells, scalar, eqC, keyA, intsA, lookA, ofVs, mpOf, Nat.reduceBEq, reduceAdd, reduceSub, reduceLT, reduceLeDiff, reduceMul, reduceEqDiff, reduceIte, gm, gs]))
          all_goals try (exfalso; omega)
          exact ⟨⟨(k+1,may,acc++[⟨(j:Int),s.lo⟩],μ++[some [⟨26,2,[At.cs ⟨(j:Int),s.lo⟩],none⟩]]),hlt,by simp; omega,by simpa using heq,hgm,hml,.inr (.inr (by simp only; omega))⟩,by simp,by simp,by simp only; omega⟩
    · obtain rfl:j=may.length:=by omega
      rw [List.drop_length] at hp
      have hpn:pickF 0 may=none:=by rw [← hp]; rfl
      rw [hpn] at heq
      simp only at heq
      (repeat' ((first
 | refine vn rfl ?_
 | simp (disch:=omega) only [wr64,Int.zero_sub]
 | refine bo (fun _=>?_) fun _=>?_
 | refine im fun _=>?_
 | refine cF ?_
 | refine om ?_
 | refine an ?_
 | fail) <;> try simp only [zT,zV,zS,zU,vcC,lateX,ex,strp,binA,elems,cells,scalar,eqC,keyA,intsA,lookA,ofVs,mpOf,Nat.reduceBEq,reduceAdd,reduceSub,reduceLT,reduceLeDiff,reduceMul,reduceEqDiff,reduceIte]))
      all_goals try (exfalso; omega)
      exact ⟨⟨(k+1,may,acc,μ),hlt,by simp only; omega,heq,hgm,hml,.inr (.inl hpn)⟩,by simp,rfl,by simp only; omega⟩
  · obtain rfl:k=t.length:=by omega
    rw [Nat.sub_self,firstGo,List.append_nil] at heq
    subst heq
    (repeat' ((first
 | refine vn rfl ?_
 | simp (disch:=omega) only [wr64,Int.zero_sub]
 | refine bo (fun _=>?_) fun _=>?_
 | refine im fun _=>?_
 | refine cF ?_
 | refine om ?_
 | refine an ?_
 | fail) <;> try simp only [zT,zV,zS,zU,vcC,lateX,ex,strp,binA,elems,cells,scalar,eqC,keyA,intsA,lookA,ofVs,mpOf,Nat.reduceBEq,reduceAdd,reduceSub,reduceLT,reduceLeDiff,reduceMul,reduceEqDiff,reduceIte]))
    all_goals try (exfalso; omega)
    exact frz_at rfl
def c112:CF:=⟨23,
 (.seq (.ops [
 ⟨some 3,.mv (.c (.bool false)),none⟩] [0,1,2])
 (.seq (.draw [
 ⟨some 4,.load (some 1) (.t 0),none⟩,
 ⟨some 5,.load none (.t 1),none⟩,
 ⟨some 6,.call (.f 92) [(.t 4),(.t 5)],none⟩,
 ⟨some 7,.mv (.t 6),none⟩,
 ⟨some 8,.faddr 0 (.t 2),some (7,true)⟩,
 ⟨some 9,.load none (.t 8),some (7,true)⟩,
 ⟨some 10,.bin .geq (.t 9) (.c (.int .i64 0)),some (7,true)⟩,
 ⟨some 11,.pick (.t 7) (.t 10) (.c (.bool false)),none⟩,
 ⟨some 12,.mv (.t 11),none⟩,
 ⟨some 13,.faddr 0 (.t 2),some (12,true)⟩,
 ⟨some 14,.load none (.t 13),some (12,true)⟩,
 ⟨some 15,.faddr 0 (.t 0),some (12,true)⟩,
 ⟨some 16,.load none (.t 15),some (12,true)⟩,
 ⟨some 17,.load none (.t 1),some (12,true)⟩,
 ⟨some 18,.iaddr 1 (.t 16) (.t 17),some (12,true)⟩,
 ⟨some 19,.load none (.t 18),some (12,true)⟩,
 ⟨some 20,.len (.t 19),some (12,true)⟩,
 ⟨some 21,.bin .lss (.t 14) (.t 20),some (12,true)⟩,
 ⟨some 22,.pick (.t 12) (.t 21) (.c (.bool false)),none⟩,
 ⟨some 3,.mv (.t 22),none⟩] [
 ] [3])
 .ret)),
 [.t 3]⟩
def c50:CF:=⟨39,
 (.seq (.ops [
 ⟨some 3,.box false 24 1 (.t 0),none⟩,
 ⟨some 4,.box false 3 1 (.t 1),none⟩,
 ⟨some 5,.box false 26 2 (.t 2),none⟩,
 ⟨some 6,.mv (.c (.slice none 0 0)),none⟩,
 ⟨some 7,.mv (.c (.int .i64 0)),none⟩] [3,4,5])
 (.seq (.ops [
 ⟨some 12,.mkfn (.func 112) [] [(.t 3),(.t 4),(.t 5)],none⟩,
 ⟨some 8,.mv (.t 12),none⟩] [3,4,5,8])
 (.seq (.seq (.ops [
 ⟨some 13,.load (some 1) (.t 3),none⟩,
 ⟨some 14,.mv (.t 8),none⟩,
 ⟨some 15,.call (.f 90) [(.t 13),(.t 14)],none⟩,
 ⟨some 9,.mv (.t 15),none⟩] [3,4,5,9])
 (.seq (.ops [
 ⟨some 16,.mv (.t 9),none⟩,
 ⟨some 17,.bin .neq (.t 16) (.c (.int .i64 0)),none⟩] [3,4,5,9,17])
 (.cond (.t 17) (.seq (.ops [
 ⟨some 18,.mv (.t 9),none⟩,
 ⟨some 6,.mv (.c (.slice none 0 0)),none⟩,
 ⟨some 7,.mv (.t 18),none⟩] [6,7])
 .ret)
 .skip)))
 (.seq (.ops [
 ⟨some 19,.load (some 1) (.t 3),none⟩,
 ⟨some 20,.load none (.t 4),none⟩,
 ⟨some 21,.load (some 2) (.t 5),none⟩,
 ⟨some 22,.call (.f 113) [(.t 19),(.t 20),(.t 21)],none⟩,
 ⟨some 23,.call (.f 86) [(.t 22)],none⟩,
 ⟨some 10,.mv (.t 23),none⟩] [3,4,5,10])
 (.seq (.seq (.ops [
 ⟨some 24,.mv (.t 10),none⟩,
 ⟨some 25,.iaddr 1 (.t 24) (.c (.int .i64 0)),none⟩,
 ⟨some 26,.load none (.t 25),none⟩,
 ⟨some 27,.call (.f 72) [(.t 26)],none⟩,
 ⟨some 28,.un .not (.t 27),none⟩] [3,4,5,10,28])
 (.cond (.t 28) (.seq (.ops [
 ⟨some 6,.mv (.c (.slice none 0 0)),none⟩,
 ⟨some 7,.mv (.c (.int .i64 3)),none⟩] [6,7])
 .ret)
 .skip))
 (.seq (.ops [
 ⟨some 29,.load (some 1) (.t 3),none⟩,
 ⟨some 30,.mv (.t 10),none⟩,
 ⟨some 31,.call (.f 109) [(.t 29),(.t 30)],none⟩,
 ⟨some 11,.mv (.t 31),none⟩] [4,5,11])
 (.seq (.seq (.draw [
 ⟨some 32,.mv (.t 11),none⟩,
 ⟨some 33,.load none (.t 4),none⟩,
 ⟨some 34,.iaddr 2 (.t 32) (.t 33),none⟩,
 ⟨some 35,.load (some 2) (.t 34),none⟩,
 ⟨some 36,.load (some 2) (.t 5),none⟩,
 ⟨some 37,.eqs true [some .i64,some .i64] (.t 35) (.t 36),none⟩] [
 ] [11,37])
 (.cond (.t 37) (.seq (.ops [
 ⟨some 6,.mv (.c (.slice none 0 0)),none⟩,
 ⟨some 7,.mv (.c (.int .i64 3)),none⟩] [6,7])
 .ret)
 .skip))
 (.seq (.ops [
 ⟨some 38,.mv (.t 11),none⟩,
 ⟨some 6,.mv (.t 38),none⟩,
 ⟨some 7,.mv (.c (.int .i64 0)),none⟩] [6,7])
 .ret)))))))),
 [.t 6,.t 7]⟩
theorem k112:chkF Tryz.prog Tryz.f112 c112=true:=by kernel_rfl
theorem k50:chkF Tryz.prog Tryz.f50 c50=true:=by kernel_rfl
abbrev okW (t:Trk) (k:Int) (a:At):Prop:=(0≤k∧k < (t.length:Int))∧0≤a.node∧a.node < (wd t k.toNat:Int)
theorem with1_spec (t:Trk) (k:Int) (a:At) (hs:trkSz t):Pure Tryz.prog 112 [.iptr [tkS t] 0,.iptr [n k] 0,.iptr (At.cs a) 0] (bl (decide (okW t k a))):=by
  refine Pure.of_body Tryz.call112 Tryz.func112 k112 (Nat.le_of_ble_eq_true rfl) ?_
  unfold c112
  have hst:=isStageOf_spec t k
  by_cases hk:0≤k∧k < (t.length:Int)
  · rw [decide_eq_true hk] at hst
    have hg:(t.map fun l=>[stS l]).getD k.toNat []=[stS (t.getD k.toNat [])]:=getD_map (getD_some (by omega))
    have hw:wd t k.toNat=(t.getD k.toNat []).length:=rfl
    generalize hL:t.getD k.toNat []=L at *
    (repeat' ((first
 | refine vn rfl ?_
 | simp (disch:=omega) only [wr64,Int.zero_sub]
 | refine bo (fun _=>?_) fun _=>?_
 | refine im fun _=>?_
 | ((repeat refine si ?_); (first | ((first | refine .inl ⟨_,_,_,_,rfl,fun _=>pu hst,?_⟩ | refine ⟨_,_,_,_,rfl,fun _=>pu hst,?_⟩); (first | refine o1 ?_ | refine o2 ?_ | refine o3 ?_ | refine o4 ?_)) | refine .inl ⟨_,_,_,_,rfl,pu hst,?_⟩))
 | refine cF ?_
 | refine om ?_
 | refine an ?_
 | fail) <;> try simp only [zT,zV,zS,zU,vcC,lateX,ex,strp,binA,elems,cells,scalar,eqC,keyA,intsA,lookA,ofVs,mpOf,Nat.reduceBEq,reduceAdd,reduceSub,reduceLT,reduceLeDiff,reduceMul,reduceEqDiff,reduceIte,hg]))
    all_goals try (exfalso; omega)
    all_goals refine Frz.eq (congrArg bl (decide_eq_decide.2 ?_)) (by simp)
    constructor
    · intro h; exact ⟨hk,h.1,by rw [hw]; exact h.2⟩
    · intro h; exact ⟨h.2.1,by have:=h.2.2; rwa [hw] at this⟩
  · rw [decide_eq_false hk] at hst
    have hno:¬ okW t k a:=fun h=>hk h.1
    rw [decide_eq_false hno]
    have hcase:(t.map fun l=>[stS l]).getD k.toNat []=[]∨∃ L,(t.map fun l=>[stS l]).getD k.toNat []=[stS L]:=by
      by_cases h:k.toNat < t.length
      · exact .inr ⟨_,getD_map (getD_some (d:=[]) h)⟩
      · exact .inl (getD_none (by simpa using h))
    rcases hcase with hg | ⟨L,hg⟩
    · (repeat' ((first
 | refine vn rfl ?_
 | simp (disch:=omega) only [wr64,Int.zero_sub]
 | refine bo (fun _=>?_) fun _=>?_
 | refine im fun _=>?_
 | ((repeat refine si ?_); (first | ((first | refine .inl ⟨_,_,_,_,rfl,fun _=>pu hst,?_⟩ | refine ⟨_,_,_,_,rfl,fun _=>pu hst,?_⟩); (first | refine o1 ?_ | refine o2 ?_ | refine o3 ?_ | refine o4 ?_)) | refine .inl ⟨_,_,_,_,rfl,pu hst,?_⟩))
 | refine cF ?_
 | refine om ?_
 | refine an ?_
 | fail) <;> try simp only [zT,zV,zS,zU,vcC,lateX,ex,strp,binA,elems,cells,scalar,eqC,keyA,intsA,lookA,ofVs,mpOf,Nat.reduceBEq,reduceAdd,reduceSub,reduceLT,reduceLeDiff,reduceMul,reduceEqDiff,reduceIte,hg]))
      all_goals try (exfalso; omega)
      all_goals exact Frz.eq rfl (by simp)
    · (repeat' ((first
 | refine vn rfl ?_
 | simp (disch:=omega) only [wr64,Int.zero_sub]
 | refine bo (fun _=>?_) fun _=>?_
 | refine im fun _=>?_
 | ((repeat refine si ?_); (first | ((first | refine .inl ⟨_,_,_,_,rfl,fun _=>pu hst,?_⟩ | refine ⟨_,_,_,_,rfl,fun _=>pu hst,?_⟩); (first | refine o1 ?_ | refine o2 ?_ | refine o3 ?_ | refine o4 ?_)) | refine .inl ⟨_,_,_,_,rfl,pu hst,?_⟩))
 | refine cF ?_
 | refine om ?_
 | refine an ?_
 | fail) <;> try simp only [zT,zV,zS,zU,vcC,lateX,ex,strp,binA,elems,cells,scalar,eqC,keyA,intsA,lookA,ofVs,mpOf,Nat.reduceBEq,reduceAdd,reduceSub,reduceLT,reduceLeDiff,reduceMul,reduceEqDiff,reduceIte,hg]))
      all_goals try (exfalso; omega)
      all_goals exact Frz.eq rfl (by simp)
noncomputable def withR (t:Trk) (k:Int) (a:At):List At × Int :=
  if askE t (decide (okW t k a))≠0 then ([],askE t (decide (okW t k a))) else
  if some' (bwd (onlyT t k.toNat a) 0)=false then ([],3) else
  if (firstT t (bwds (onlyT t k.toNat a)))[k.toNat]?=some a then (firstT t (bwds (onlyT t k.toNat a)),0) else ([],3)
theorem With_spec (t:Trk) (k:Int) (a:At) (hs:trkSz t):Pure Tryz.prog 50 [trS t,n k,.agg (At.cs a)] (.tup [atS (withR t k a).1,n (withR t k a).2]):=by
  refine Pure.of_body Tryz.call50 Tryz.func50 k50 (Nat.le_of_ble_eq_true rfl) ?_
  unfold c50
  have ha:=asked_spec t hs 112 [.iptr [tkS t] 0,.iptr [n k] 0,.iptr (At.cs a) 0] (by simp (maxDischargeDepth:=9)) _ (fun _=>with1_spec t k a hs)
  unfold withR
  by_cases h0:askE t (decide (okW t k a))=0
  · rw [if_neg (by simpa using h0)]
    obtain ⟨hv,hok,hf⟩:=askE0.1 h0
    rw [h0] at ha
    simp only [decide_eq_true_eq] at hok
    obtain ⟨⟨hk0,hk1⟩,hk2,hk3⟩:=hok
    obtain ⟨k,rfl⟩:∃ m:Nat,k=(m:Int):=⟨k.toNat,by omega⟩
    simp only [Int.toNat_natCast] at *
    have hkl:k < t.length:=by omega
    have hv':=onlyT_valid hv k a
    have hl':=onlyT_len t k a
    have hon:=only_spec t k a hv hkl
    have hbw:=backward_spec (onlyT t k a) hv'
    have hb1:=hv.1
    have hg0:=bwds_get (t:=onlyT t k a) (k:=0) (by omega)
    have hbl:(bwds (onlyT t k a)).length=t.length:=by simp [bwds,hl']
    have hw0:=wd_le hv' 0
    have hbg:=bwd_goods hv' 0
    have hso:=some_spec (bwd (onlyT t k a) 0) (by rw [bwd_len (by omega)]; omega) (fun x hx=>by have:=good_len (hbg x hx); omega)
    cases hsm:some' (bwd (onlyT t k a) 0) with
    | false =>
      rw [hsm] at hso
      rw [if_pos rfl]
      (repeat' ((first
 | refine vn rfl ?_
 | simp (disch:=omega) only [wr64,Int.zero_sub]
 | refine bo (fun _=>?_) fun _=>?_
 | refine im fun _=>?_
 | ((repeat refine si ?_); (first | ((first | refine .inl ⟨_,_,_,_,rfl,fun _=>pu (by first | exact ha | exact hon | exact hbw | exact hso),?_⟩ | refine ⟨_,_,_,_,rfl,fun _=>pu (by first | exact ha | exact hon | exact hbw | exact hso),?_⟩); (first | refine o1 ?_ | refine o2 ?_ | refine o3 ?_ | refine o4 ?_)) | refine .inl ⟨_,_,_,_,rfl,pu (by first | exact ha | exact hon | exact hbw | exact hso),?_⟩))
 | refine cF ?_
 | refine om ?_
 | refine an ?_
 | fail) <;> try simp only [zT,zV,zS,zU,vcC,lateX,ex,strp,binA,elems,cells,scalar,eqC,keyA,intsA,lookA,ofVs,mpOf,Nat.reduceBEq,reduceAdd,reduceSub,reduceLT,reduceLeDiff,reduceMul,reduceEqDiff,reduceIte,hg0,hbl]))
      all_goals try (exfalso; omega)
      all_goals exact frz2 frz_nil (by simp)
    | true =>
      rw [hsm] at hso
      rw [if_neg (by simp)]
      have hfi:=first_spec t (bwds (onlyT t k a)) hv hbl (fun j hj=>by rw [bwds_getD (by omega),bwd_len (by omega),onlyT_wd]) (fun j hj=>by rw [bwds_getD (by omega)]; exact bwd_goods hv' j)
      have hco:=firstT_course hv' hl' (fun j i hi=>onlyT_nx t k a j i (by rwa [onlyT_wd] at hi)) hsm
      have hcl:=hco.1
      rw [hl'] at hcl
      generalize firstT t (bwds (onlyT t k a))=c at *
      obtain ⟨b,hb⟩:∃ b,c[k]?=some b:=⟨_,List.getElem?_eq_getElem (by omega)⟩
      rw [hb]
      (repeat' ((first
 | refine vn rfl ?_
 | simp (disch:=omega) only [wr64,Int.zero_sub]
 | refine bo (fun _=>?_) fun _=>?_
 | refine im fun _=>?_
 | ((repeat refine si ?_); (first | ((first | refine .inl ⟨_,_,_,_,rfl,fun _=>pu (by first | exact ha | exact hon | exact hbw | exact hso | exact hfi),?_⟩ | refine ⟨_,_,_,_,rfl,fun _=>pu (by first | exact ha | exact hon | exact hbw | exact hso | exact hfi),?_⟩); (first | refine o1 ?_ | refine o2 ?_ | refine o3 ?_ | refine o4 ?_)) | refine .inl ⟨_,_,_,_,rfl,pu (by first | exact ha | exact hon | exact hbw | exact hso | exact hfi),?_⟩))
 | refine cF ?_
 | refine om ?_
 | refine an ?_
 | fail) <;> try simp only [zT,zV,zS,zU,vcC,lateX,ex,strp,binA,elems,cells,scalar,eqC,keyA,intsA,lookA,ofVs,mpOf,Nat.reduceBEq,reduceAdd,reduceSub,reduceLT,reduceLeDiff,reduceMul,reduceEqDiff,reduceIte,hg0,hbl,getD_map hb]))
      all_goals try (exfalso; omega)
      · rename_i hne
        rw [if_neg (fun e=>hne (by injection e with e; exact ⟨by rw [e],by rw [e]⟩))]
        exact frz2 frz_nil (by simp)
      · rename_i he
        rw [if_pos (by rw [at_ext he.1 he.2])]
        exact Frz.eq rfl (by simp)
  · rw [if_pos (by simpa using h0)]
    generalize askE t (decide (okW t k a))=e at *
    (repeat' ((first
 | refine vn rfl ?_
 | simp (disch:=omega) only [wr64,Int.zero_sub]
 | refine bo (fun _=>?_) fun _=>?_
 | refine im fun _=>?_
 | ((repeat refine si ?_); (first | ((first | refine .inl ⟨_,_,_,_,rfl,fun _=>pu ha,?_⟩ | refine ⟨_,_,_,_,rfl,fun _=>pu ha,?_⟩); (first | refine o1 ?_ | refine o2 ?_ | refine o3 ?_ | refine o4 ?_)) | refine .inl ⟨_,_,_,_,rfl,pu ha,?_⟩))
 | refine cF ?_
 | refine om ?_
 | refine an ?_
 | fail) <;> try simp only [zT,zV,zS,zU,vcC,lateX,ex,strp,binA,elems,cells,scalar,eqC,keyA,intsA,lookA,ofVs,mpOf,Nat.reduceBEq,reduceAdd,reduceSub,reduceLT,reduceLeDiff,reduceMul,reduceEqDiff,reduceIte]))
    all_goals try (exfalso; omega)
    all_goals exact frz2 frz_nil (by simp)
def c161:CF:=⟨28,
 (.seq (.ops [
 ⟨some 3,.box false 30 2 (.t 1),none⟩] [0,3])
 (.draww [0,1,2,3,4,5,6,7,8,9,10,11,12,13,14,15,16,17,18,19,20,21,22,23,24,25] [1,15,16,17] 1 [
 ⟨some 4,.mv (.t 0),none⟩,
 ⟨some 5,.mv (.t 0),none⟩,
 ⟨some 6,.mv (.t 0),none⟩,
 ⟨some 7,.nilc (.t 6),none⟩,
 ⟨some 8,.faddr 0 (.t 7),none⟩,
 ⟨some 9,.faddr 0 (.t 8),none⟩,
 ⟨some 10,.load none (.t 9),none⟩,
 ⟨some 11,.faddr 0 (.t 3),none⟩,
 ⟨some 12,.load none (.t 11),none⟩,
 ⟨some 13,.mnx false (.t 10) (.t 12),none⟩,
 ⟨some 14,.mv (.t 0),none⟩,
 ⟨some 15,.nilc (.t 14),none⟩,
 ⟨some 16,.faddr 0 (.t 15),none⟩,
 ⟨some 17,.faddr 1 (.t 16),none⟩,
 ⟨some 18,.load none (.t 17),none⟩,
 ⟨some 19,.faddr 1 (.t 3),none⟩,
 ⟨some 20,.load none (.t 19),none⟩,
 ⟨some 21,.mnx true (.t 18) (.t 20),none⟩,
 ⟨some 22,.nilc (.t 4),none⟩,
 ⟨some 23,.faddr 0 (.t 22),none⟩,
 ⟨some 24,.faddr 0 (.t 23),none⟩] [
 ⟨none,.store 1 (.t 24) (.t 13),none⟩,
 ⟨some 25,.nilc (.t 5),none⟩,
 ⟨some 26,.faddr 0 (.t 25),none⟩,
 ⟨some 27,.faddr 1 (.t 26),none⟩,
 ⟨none,.store 1 (.t 27) (.t 21),none⟩] [])),
 []⟩
def c162:CF:=⟨79,
 (.seq (.ops [
 ⟨some 3,.box false 24 1 (.t 0),none⟩,
 ⟨some 5,.box false 163 1 (.t 2),none⟩] [1,3,5])
 (.seq (.draww [0,1,2,3,4,5,6,7,8,9,10,11,12,13,14] [7,8,9,10] 1 [
 ⟨some 15,.load (some 1) (.t 3),none⟩,
 ⟨some 16,.call (.f 71) [(.t 15)],none⟩,
 ⟨some 17,.mv (.t 1),none⟩,
 ⟨some 18,.iaddr 1 (.t 16) (.t 17),none⟩,
 ⟨some 19,.load none (.t 18),none⟩,
 ⟨some 20,.load (some 1) (.t 3),none⟩,
 ⟨some 21,.call (.f 86) [(.t 20)],none⟩,
 ⟨some 22,.mv (.t 1),none⟩,
 ⟨some 23,.bin .add (.t 22) (.c (.int .i64 1)),none⟩,
 ⟨some 24,.iaddr 1 (.t 21) (.t 23),none⟩,
 ⟨some 25,.load none (.t 24),none⟩,
 ⟨some 6,.alloc 61 1 [.slice none 0 0],none⟩,
 ⟨some 7,.alloc 61 1 [.slice none 0 0],none⟩] [
 ⟨none,.store 1 (.t 6) (.t 19),none⟩,
 ⟨none,.store 1 (.t 7) (.t 25),none⟩] [1,3,5,6,7])
 (.seq (.ops [
 ⟨some 26,.load (some 1) (.t 3),none⟩,
 ⟨some 27,.build [.slice none 0 0] [(0,1,(.t 26))],none⟩,
 ⟨some 28,.mv (.t 1),none⟩,
 ⟨some 29,.call (.f 135) [(.t 27),(.t 28)],none⟩] [5,6,7,29])
 (.block 0 (.rng (.t 29) [30,31] (.seq (.ops [
 ⟨some 8,.alloc 130 2 [.int .i64 0,.int .i64 0],none⟩,
 ⟨none,.store 2 (.t 8) (.t 30),none⟩] [5,6,7,8,31])
 (.ops [
 ⟨some 9,.alloc 30 2 [.int .i64 0,.int .i64 0],none⟩,
 ⟨none,.store 2 (.t 9) (.t 31),none⟩] [5,6,7,8,9]))
 (.block 1 (.seq (.ops [
 ⟨some 32,.load none (.t 6),none⟩,
 ⟨some 33,.faddr 0 (.t 8),none⟩,
 ⟨some 34,.load none (.t 33),none⟩,
 ⟨some 35,.iaddr 1 (.t 32) (.t 34),none⟩,
 ⟨some 36,.load none (.t 35),none⟩,
 ⟨some 37,.len (.t 36),none⟩,
 ⟨some 38,.mv (.c (.int .i64 0)),none⟩] [5,6,7,8,9,36,37,38])
 (.block 2 (.loop (.seq (.ops [
 ⟨some 39,.bin .lss (.t 38) (.t 37),none⟩] [5,6,7,8,9,36,37,38,39])
 (.seq (.cond (.t 39) .skip
 (.exit 2))
 (.seq (.block 3 (.seq (.ops [
 ⟨some 40,.iaddr 2 (.t 36) (.t 38),none⟩,
 ⟨some 41,.load (some 2) (.t 40),none⟩,
 ⟨some 11,.alloc 30 2 [.int .i64 0,.int .i64 0],none⟩,
 ⟨none,.store 2 (.t 11) (.t 41),none⟩] [5,6,7,8,9,11,36,37,38])
 (.seq (.ops [
 ⟨some 42,.load none (.t 7),none⟩,
 ⟨some 43,.faddr 1 (.t 8),none⟩,
 ⟨some 44,.load none (.t 43),none⟩,
 ⟨some 45,.iaddr 1 (.t 42) (.t 44),none⟩,
 ⟨some 46,.load none (.t 45),none⟩,
 ⟨some 47,.len (.t 46),none⟩,
 ⟨some 48,.mv (.c (.int .i64 0)),none⟩] [5,6,7,8,9,11,36,37,38,46,47,48])
 (.block 4 (.loop (.seq (.ops [
 ⟨some 49,.bin .lss (.t 48) (.t 47),none⟩] [5,6,7,8,9,11,36,37,38,46,47,48,49])
 (.seq (.cond (.t 49) .skip
 (.exit 4))
 (.seq (.block 5 (.seq (.ops [
 ⟨some 50,.iaddr 2 (.t 46) (.t 48),none⟩,
 ⟨some 51,.load (some 2) (.t 50),none⟩,
 ⟨some 13,.alloc 30 2 [.int .i64 0,.int .i64 0],none⟩,
 ⟨none,.store 2 (.t 13) (.t 51),none⟩] [5,6,7,8,9,11,13,36,37,38,46,47,48])
 (.seq (.ops [
 ⟨some 52,.faddr 0 (.t 9),none⟩,
 ⟨some 53,.load none (.t 52),none⟩,
 ⟨some 54,.faddr 0 (.t 13),none⟩,
 ⟨some 55,.load none (.t 54),none⟩,
 ⟨some 56,.faddr 1 (.t 11),none⟩,
 ⟨some 57,.load none (.t 56),none⟩,
 ⟨some 58,.bin .sub (.t 55) (.t 57),none⟩,
 ⟨some 59,.mnx true (.t 53) (.t 58),none⟩,
 ⟨some 60,.faddr 1 (.t 9),none⟩,
 ⟨some 61,.load none (.t 60),none⟩,
 ⟨some 62,.faddr 1 (.t 13),none⟩,
 ⟨some 63,.load none (.t 62),none⟩,
 ⟨some 64,.faddr 0 (.t 11),none⟩,
 ⟨some 65,.load none (.t 64),none⟩,
 ⟨some 66,.bin .sub (.t 63) (.t 65),none⟩,
 ⟨some 67,.mnx false (.t 61) (.t 66),none⟩,
 ⟨some 68,.build [.int .i64 0,.int .i64 0] [(0,1,(.t 59)),(1,1,(.t 67))],none⟩,
 ⟨some 14,.alloc 30 2 [.int .i64 0,.int .i64 0],none⟩,
 ⟨none,.store 2 (.t 14) (.t 68),none⟩] [5,6,7,8,9,11,14,36,37,38,46,47,48])
 (.seq (.ops [
 ⟨some 69,.faddr 0 (.t 14),none⟩,
 ⟨some 70,.load none (.t 69),none⟩,
 ⟨some 71,.faddr 1 (.t 14),none⟩,
 ⟨some 72,.load none (.t 71),none⟩,
 ⟨some 73,.bin .leq (.t 70) (.t 72),none⟩] [5,6,7,8,9,11,14,36,37,38,46,47,48,73])
 (.cond (.t 73) (.ops [
 ⟨some 74,.load none (.t 5),none⟩,
 ⟨some 75,.load (some 2) (.t 14),none⟩,
 ⟨some 76,.call (.t 74) [(.t 75)],none⟩] [5,6,7,8,9,11,36,37,38,46,47,48])
 .skip)))))
 (.ops [
 ⟨some 77,.bin .add (.t 48) (.c (.int .i64 1)),none⟩,
 ⟨some 48,.mv (.t 77),none⟩] [5,6,7,8,9,11,36,37,38,46,47,48])))))))))
 (.ops [
 ⟨some 78,.bin .add (.t 38) (.c (.int .i64 1)),none⟩,
 ⟨some 38,.mv (.t 78),none⟩] [5,6,7,8,9,36,37,38]))))))))))))),
 []⟩
def c131:CF:=⟨29,
 (.seq (.ops [
 ⟨some 2,.box false 24 1 (.t 0),none⟩,
 ⟨some 3,.box false 3 1 (.t 1),none⟩,
 ⟨some 4,.alloc 30 2 [.int .i64 0,.int .i64 0],none⟩,
 ⟨some 5,.mv (.c (.int .i64 0)),none⟩] [2,3,4])
 (.seq (.seq (.ops [
 ⟨some 9,.load (some 1) (.t 2),none⟩,
 ⟨some 10,.mkfn (.func 160) [] [(.t 2),(.t 3)],none⟩,
 ⟨some 11,.call (.f 90) [(.t 9),(.t 10)],none⟩,
 ⟨some 6,.mv (.t 11),none⟩] [2,3,4,6])
 (.seq (.ops [
 ⟨some 12,.mv (.t 6),none⟩,
 ⟨some 13,.bin .neq (.t 12) (.c (.int .i64 0)),none⟩] [2,3,4,6,13])
 (.cond (.t 13) (.seq (.ops [
 ⟨some 14,.build [.int .i64 0,.int .i64 0] [],none⟩,
 ⟨some 15,.mv (.t 6),none⟩,
 ⟨none,.store 2 (.t 4) (.t 14),none⟩,
 ⟨some 5,.mv (.t 15),none⟩] [4,5])
 .ret)
 .skip)))
 (.seq (.ops [
 ⟨some 16,.build [.int .i64 0,.int .i64 0] [(0,1,(.c (.int .i64 100000))),(1,1,(.c (.int .i64 (-100000))))],none⟩,
 ⟨some 17,.build [.int .i64 0,.int .i64 0] [(0,2,(.t 16))],none⟩,
 ⟨some 18,.box true 162 2 (.t 17),none⟩,
 ⟨some 7,.mv (.t 18),none⟩] [2,3,4,7])
 (.seq (.ops [
 ⟨some 19,.mv (.t 7),none⟩,
 ⟨some 20,.mkfn (.func 161) [(.t 19)] [],none⟩,
 ⟨some 8,.mv (.t 20),none⟩] [2,3,4,7,8])
 (.seq (.ops [
 ⟨some 21,.load (some 1) (.t 2),none⟩,
 ⟨some 22,.load none (.t 3),none⟩,
 ⟨some 23,.mv (.t 8),none⟩,
 ⟨some 24,.call (.f 162) [(.t 21),(.t 22),(.t 23)],none⟩] [4,7])
 (.seq (.ops [
 ⟨some 25,.mv (.t 7),none⟩,
 ⟨some 26,.nilc (.t 25),none⟩,
 ⟨some 27,.faddr 0 (.t 26),none⟩,
 ⟨some 28,.load (some 2) (.t 27),none⟩,
 ⟨none,.store 2 (.t 4) (.t 28),none⟩,
 ⟨some 5,.mv (.c (.int .i64 0)),none⟩] [4,5])
 .ret)))))),
 [.c 4 (some 2),.t 5]⟩
def c160:CF:=⟨6,
 (.seq (.ops [
 ⟨some 2,.mv (.c (.bool false)),none⟩] [0,1])
 (.seq (.ops [
 ⟨some 3,.load (some 1) (.t 0),none⟩,
 ⟨some 4,.load none (.t 1),none⟩,
 ⟨some 5,.call (.f 104) [(.t 3),(.t 4)],none⟩,
 ⟨some 2,.mv (.t 5),none⟩] [2])
 .ret)),
 [.t 2]⟩
def c104:CF:=⟨15,
 (.seq (.ops [
 ⟨some 2,.box false 24 1 (.t 0),none⟩,
 ⟨some 4,.mv (.c (.bool false)),none⟩] [1,2])
 (.seq (.ops [
 ⟨some 5,.mv (.t 1),none⟩,
 ⟨some 6,.bin .geq (.t 5) (.c (.int .i64 0)),none⟩,
 ⟨some 7,.mv (.t 6),none⟩,
 ⟨some 8,.mv (.t 1),some (7,true)⟩,
 ⟨some 9,.bin .add (.t 8) (.c (.int .i64 1)),some (7,true)⟩,
 ⟨some 10,.faddr 0 (.t 2),some (7,true)⟩,
 ⟨some 11,.load none (.t 10),some (7,true)⟩,
 ⟨some 12,.len (.t 11),some (7,true)⟩,
 ⟨some 13,.bin .lss (.t 9) (.t 12),some (7,true)⟩,
 ⟨some 14,.pick (.t 7) (.t 13) (.c (.bool false)),none⟩,
 ⟨some 4,.mv (.t 14),none⟩] [4])
 .ret)),
 [.t 4]⟩
def c68:CF:=⟨17,
 (.seq (.ops [
 ⟨some 2,.box false 24 1 (.t 0),none⟩,
 ⟨some 4,.mv (.c (.int .i64 0)),none⟩,
 ⟨some 5,.mv (.c (.int .i64 0)),none⟩] [1,2])
 (.seq (.ops [
 ⟨some 9,.load (some 1) (.t 2),none⟩,
 ⟨some 10,.mv (.t 1),none⟩,
 ⟨some 11,.call (.f 131) [(.t 9),(.t 10)],none⟩,
 ⟨some 8,.mv (.t 11),none⟩,
 ⟨some 12,.ext 0 (.t 8),none⟩,
 ⟨some 13,.ext 1 (.t 8),none⟩,
 ⟨some 6,.alloc 30 2 [.int .i64 0,.int .i64 0],none⟩,
 ⟨none,.store 2 (.t 6) (.t 12),none⟩,
 ⟨some 7,.mv (.t 13),none⟩] [6,7])
 (.seq (.ops [
 ⟨some 14,.faddr 1 (.t 6),none⟩,
 ⟨some 15,.load none (.t 14),none⟩,
 ⟨some 16,.mv (.t 7),none⟩,
 ⟨some 4,.mv (.t 15),none⟩,
 ⟨some 5,.mv (.t 16),none⟩] [4,5])
 .ret))),
 [.t 4,.t 5]⟩
def c69:CF:=⟨17,
 (.seq (.ops [
 ⟨some 2,.box false 24 1 (.t 0),none⟩,
 ⟨some 4,.mv (.c (.int .i64 0)),none⟩,
 ⟨some 5,.mv (.c (.int .i64 0)),none⟩] [1,2])
 (.seq (.ops [
 ⟨some 9,.load (some 1) (.t 2),none⟩,
 ⟨some 10,.mv (.t 1),none⟩,
 ⟨some 11,.call (.f 131) [(.t 9),(.t 10)],none⟩,
 ⟨some 8,.mv (.t 11),none⟩,
 ⟨some 12,.ext 0 (.t 8),none⟩,
 ⟨some 13,.ext 1 (.t 8),none⟩,
 ⟨some 6,.alloc 30 2 [.int .i64 0,.int .i64 0],none⟩,
 ⟨none,.store 2 (.t 6) (.t 12),none⟩,
 ⟨some 7,.mv (.t 13),none⟩] [6,7])
 (.seq (.ops [
 ⟨some 14,.faddr 0 (.t 6),none⟩,
 ⟨some 15,.load none (.t 14),none⟩,
 ⟨some 16,.mv (.t 7),none⟩,
 ⟨some 4,.mv (.t 15),none⟩,
 ⟨some 5,.mv (.t 16),none⟩] [4,5])
 .ret))),
 [.t 4,.t 5]⟩
theorem k161:chkF Tryz.prog Tryz.f161 c161=true:=by kernel_rfl
theorem k162:chkF Tryz.prog Tryz.f162 c162=true:=by kernel_rfl
theorem k131:chkF Tryz.prog Tryz.f131 c131=true:=by kernel_rfl
theorem k160:chkF Tryz.prog Tryz.f160 c160=true:=by kernel_rfl
theorem k104:chkF Tryz.prog Tryz.f104 c104=true:=by kernel_rfl
theorem k68:chkF Tryz.prog Tryz.f68 c68=true:=by kernel_rfl
theorem k69:chkF Tryz.prog Tryz.f69 c69=true:=by kernel_rfl
def tellL (m s:Sp):Sp:=⟨min m.lo s.lo,max m.hi s.hi⟩
def chgS (c a b:Sp):Sp:=⟨max c.lo (b.lo - a.hi),min c.hi (b.hi - a.lo)⟩
def chg1 (c a b:Sp):List Sp:=if (chgS c a b).lo≤(chgS c a b).hi then [chgS c a b] else []
def chgA (c:Sp) (B:List Sp) (a:Sp):List Sp:=B.flatMap (chg1 c a)
def chgH (be bh:List (List Sp)) (h:Hop):List Sp:=(be.getD h.fr []).flatMap (chgA h.ch (bh.getD h.to []))
def chgs (t:Trk) (k:Nat):List Sp:=(stp t k).flatMap (chgH (fwd t k) (bwd t (k+1)))
def chgR (t:Trk) (k:Nat):Sp:=(chgs t k).foldl tellL ⟨100000,-100000⟩
abbrev moO (m:Sp):Ob:=⟨162,2,[m.cs],none⟩
theorem tell_does (σ:Sto) (F:Nat) (m s:Sp) (hF:σ.at F 0=some (moO m)) :
    Does Tryz.prog 161 [.ptr F 0 1 0 0,.agg s.cs] σ (fun _ σ'=>σ'=σ.upd F 0 (moO (tellL m s))):=by
  refine Does.of_body Tryz.call161 Tryz.func161 k161 (Nat.le_of_ble_eq_true rfl) ?_
  unfold c161
  have hu:∀ o,(σ.upd F 0 o).at F 0=some o:=fun o=>at_upd_same hF
  have huu:∀ o o',(σ.upd F 0 o).upd F 0 o'=σ.upd F 0 o':=fun o o'=>updUpd
  (repeat' ((first
 | refine vn rfl ?_
 | simp (disch:=omega) only [wr64,Int.zero_sub]
 | refine bo (fun _=>?_) fun _=>?_
 | refine im fun _=>?_
 | refine cF ?_
 | refine om ?_
 | refine an ?_
 | fail) <;> try simp only [zT,zV,zS,zU,vcC,lateX,ex,strp,binA,elems,cells,scalar,eqC,keyA,intsA,lookA,ofVs,mpOf,Nat.reduceBEq,reduceAdd,reduceSub,reduceLT,reduceLeDiff,reduceMul,reduceEqDiff,reduceIte,hF,hu,huu]))
  all_goals rfl
theorem isStep_spec (t:Trk) (k:Int) (hk:-9223372036854775808≤k∧k+1 < 9223372036854775808):Pure Tryz.prog 104 [trS t,n k] (bl (decide (0≤k∧k+1 < (t.length:Int)))):=by
  refine Pure.of_body Tryz.call104 Tryz.func104 k104 (Nat.le_of_ble_eq_true rfl) ?_
  unfold c104
  (repeat' ((first
 | refine vn rfl ?_
 | simp (disch:=omega) only [wr64,Int.zero_sub]
 | refine bo (fun _=>?_) fun _=>?_
 | refine im fun _=>?_
 | refine cF ?_
 | refine om ?_
 | refine an ?_
 | fail) <;> try simp only [zT,zV,zS,zU,vcC,lateX,ex,strp,binA,elems,cells,scalar,eqC,keyA,intsA,lookA,ofVs,mpOf,Nat.reduceBEq,reduceAdd,reduceSub,reduceLT,reduceLeDiff,reduceMul,reduceEqDiff,reduceIte]))
  all_goals exact Frz.eq (congrArg bl (decide_eq_decide.2 Iff.rfl)) (by simp)
theorem ends1_spec (t:Trk) (k:Int) (hk:-9223372036854775808≤k∧k+1 < 9223372036854775808):Pure Tryz.prog 160 [.iptr [tkS t] 0,.iptr [n k] 0] (bl (decide (0≤k∧k+1 < (t.length:Int)))):=by
  refine Pure.of_body Tryz.call160 Tryz.func160 k160 (Nat.le_of_ble_eq_true rfl) ?_
  unfold c160
  (repeat' ((first
 | refine vn rfl ?_
 | simp (disch:=omega) only [wr64,Int.zero_sub]
 | refine bo (fun _=>?_) fun _=>?_
 | refine im fun _=>?_
 | ((repeat refine si ?_); (first | ((first | refine .inl ⟨_,_,_,_,rfl,fun _=>pu (isStep_spec t k hk),?_⟩ | refine ⟨_,_,_,_,rfl,fun _=>pu (isStep_spec t k hk),?_⟩); (first | refine o1 ?_ | refine o2 ?_ | refine o3 ?_ | refine o4 ?_)) | refine .inl ⟨_,_,_,_,rfl,pu (isStep_spec t k hk),?_⟩))
 | refine cF ?_
 | refine om ?_
 | refine an ?_
 | fail) <;> try simp only [zT,zV,zS,zU,vcC,lateX,ex,strp,binA,elems,cells,scalar,eqC,keyA,intsA,lookA,ofVs,mpOf,Nat.reduceBEq,reduceAdd,reduceSub,reduceLT,reduceLeDiff,reduceMul,reduceEqDiff,reduceIte]))
  all_goals exact Frz.eq rfl (by simp)
theorem flatMap_take {α:Type} {l:List α} {f:α→List Sp} {i:Nat} {x:α} {m0:Sp} (h:l[i]?=some x):((l.take (i+1)).flatMap f).foldl tellL m0=(f x).foldl tellL (((l.take i).flatMap f).foldl tellL m0):=by
  rw [take_snoc h,List.flatMap_append,List.foldl_append]; simp
def chS (σ:Sto) (F:Nat) (be bh:List (List Sp)) (m:Sp):Sto:=σ.upd F 0 (moO m)++[some [⟨61,1,[[nodS be]],none⟩],some [⟨61,1,[[nodS bh]],none⟩]]
section
variable {σ:Sto} {F:Nat} {be bh:List (List Sp)} {m:Sp}
theorem chS_len:List.length (chS σ F be bh m)=σ.length+2:=by unfold chS; simp [upd_length]
theorem chS_6 (ν:Sto):Sto.at (chS σ F be bh m++ν) σ.length 0=some ⟨61,1,[[nodS be]],none⟩:=by
  unfold chS
  have:=at_app0 (σ.upd F 0 (moO m)) ([some [⟨61,1,[[nodS be]],none⟩],some [⟨61,1,[[nodS bh]],none⟩]]++ν) 0
  rw [upd_length] at this
  rw [List.append_assoc,this]; rfl
theorem chS_7 (ν:Sto):Sto.at (chS σ F be bh m++ν) (σ.length+1) 0=some ⟨61,1,[[nodS bh]],none⟩:=by
  unfold chS
  have:=at_app (σ.upd F 0 (moO m)) ([some [⟨61,1,[[nodS be]],none⟩],some [⟨61,1,[[nodS bh]],none⟩]]++ν) 1 0
  rw [upd_length] at this
  rw [List.append_assoc,this]; rfl
theorem chS_F {m0:Sp} (hF:σ.at F 0=some (moO m0)) (ν:Sto):Sto.at (chS σ F be bh m++ν) F 0=some (moO m):=by
  unfold chS
  rw [List.append_assoc,at_appL (by rw [upd_length]; exact at_lt hF)]; exact at_upd_same hF
theorem chS_U {m0 m':Sp} (hF:σ.at F 0=some (moO m0)) (ν:Sto):Sto.upd (chS σ F be bh m++ν) F 0 (moO m')=chS σ F be bh m'++ν:=by
  unfold chS
  rw [List.append_assoc,upd_appL (by rw [upd_length]; exact at_lt hF),updUpd,List.append_assoc]
theorem chS_11 (ρ:Option (List Ob)) (μ ν:Sto) (a:Ob):Sto.at (chS σ F be bh m++ρ::(μ++(some [a]::ν))) (σ.length+2+(List.length μ+1)) 0=some a:=by
  rw [← chS_len (σ:=σ) (F:=F) (be:=be) (bh:=bh) (m:=m),at_app,at_consS,at_app0]; rfl
end
inductive ChR (σ:Sto) (F:Nat) (m:Sp) (σ':Sto):Prop
  | mk (d:True) (ν:Sto) (h:σ'=σ.upd F 0 (moO m)++ν)
theorem changes_does (σ:Sto) (t:Trk) (k F:Nat) (m0:Sp) (hv:valid t) (hk:k+1 < t.length) (hF:σ.at F 0=some (moO m0)) :
    Does Tryz.prog 162 [trS t,n (k:Int),.fn (.func 161) [.ptr F 0 1 0 0] []] σ (fun _ σ'=>ChR σ F ((chgs t k).foldl tellL m0) σ'):=by
  refine Does.of_body Tryz.call162 Tryz.func162 k162 (Nat.le_of_ble_eq_true rfl) ?_
  unfold c162
  have h2:=hv.2.1
  have gf:=fwds_get (t:=t) (k:=k) (by omega)
  have gb:=bwds_get (t:=t) (k:=k+1) hk
  have lf:=fwds_len t
  have lb:=bwds_len t
  have ek:((k:Int)+1).toNat=k+1:=by omega
  have hit:=ahead_iter t k hv (by omega)
  have hbe:=fwd_goods hv k
  have hbh:=bwd_goods hv (k+1)
  have hle:=fwd_len t k
  have hlh:=bwd_len hk
  have hok:=fun h (hh:h∈stp t k)=>stp_ok hv hh
  have hch:chgs t k=(stp t k).flatMap (chgH (fwd t k) (bwd t (k+1))):=rfl
  (repeat' ((first
 | refine vn rfl ?_
 | simp (disch:=omega) only [wr64,Int.zero_sub]
 | refine bo (fun _=>?_) fun _=>?_
 | refine im fun _=>?_
 | ((repeat refine si ?_); (first | ((first | refine .inl ⟨_,_,_,_,rfl,fun _=>pu (by first | exact forward_spec t hv | exact backward_spec t hv | exact ahead_steps t _),?_⟩ | refine ⟨_,_,_,_,rfl,fun _=>pu (by first | exact forward_spec t hv | exact backward_spec t hv | exact ahead_steps t _),?_⟩); (first | refine o1 ?_ | refine o2 ?_ | refine o3 ?_ | refine o4 ?_)) | refine .inl ⟨_,_,_,_,rfl,pu (by first | exact forward_spec t hv | exact backward_spec t hv | exact ahead_steps t _),?_⟩))
 | refine cF ?_
 | refine om ?_
 | refine an ?_
 | fail) <;> try simp only [zT,zV,zS,zU,vcC,lateX,ex,strp,binA,elems,cells,scalar,eqC,keyA,intsA,lookA,ofVs,mpOf,Nat.reduceBEq,reduceAdd,reduceSub,reduceLT,reduceLeDiff,reduceMul,reduceEqDiff,reduceIte,gf,gb,lf,lb,ek]))
  all_goals try (exfalso; omega)
  generalize fwd t k=be at *
  generalize bwd t (k+1)=bh at *
  generalize stp t k=H at *
  rw [hch]
  obtain ⟨M,hM⟩:∃ M,M=σ.length+2:=⟨_,rfl⟩
  have hSL:∀ m,List.length (chS σ F be bh m)=M:=fun m=>by rw [hM]; exact chS_len
  have b8:∀ (m:Sp) ρ (μ:Sto) (a:Ob) (ν:Sto),Sto.at (chS σ F be bh m++ρ::(μ++(some [a]::ν))) (M+(List.length μ+1)) 0=some a:=fun m ρ μ a ν=>by rw [hM]; exact chS_11 ρ μ ν a
  have hS0:σ++[some [⟨61,1,[[nodS be]],none⟩],some [⟨61,1,[[nodS bh]],none⟩]]=chS σ F be bh m0:=by unfold chS; rw [upd_self hF]
  refine AWPC.rng (fun x:{ m:Sp // True }=>chS σ F be bh x.1) M (fun x=>hSL _) (fun i x=>x.1=((H.take i).flatMap (chgH be bh)).foldl tellL m0) (fun _ _=>False) (rdsH H) ⟨m0,trivial⟩
    rfl hS0 rfl hit (fun i args h=>?_) (fun i x args ll ρ μ hi hx=>?_) (fun x μ hx=>?_) (fun _ _ _ h=>h.elim)
  · obtain ⟨h,hh,rfl⟩:=rdsH_inv h; rfl
  · obtain ⟨m,hm0⟩:=x
    simp only at hx ⊢
    obtain ⟨h,hh,rfl⟩:=rdsH_inv hi
    obtain ⟨h1,h3,h4⟩:=hok h (List.mem_of_getElem? hh)
    obtain ⟨c1,c2,c3⟩:=h4
    have hnx:=flatMap_take (f:=chgH be bh) (m0:=m0) hh
    rw [← hx] at hnx
    have ge:(be.map fun l=>[spS l]).getD h.fr []=[spS (be.getD h.fr [])]:=getD_map (getD_some (by omega))
    have gh:(bh.map fun l=>[spS l]).getD h.to []=[spS (bh.getD h.to [])]:=getD_map (getD_some (by omega))
    have hga:=goods_get hbe h.fr
    have hgb:=goods_get hbh h.to
    have hla:=good_len hga
    have hlb:=good_len hgb
    have hH:chgH be bh h=(be.getD h.fr []).flatMap (chgA h.ch (bh.getD h.to [])):=rfl
    generalize be.getD h.fr []=A at *
    generalize bh.getD h.to []=B at *
    simp only [Hop.cs,par]
    (repeat' ((first
 | refine vn rfl ?_
 | simp (disch:=omega) only [wr64,Int.zero_sub]
 | refine bo (fun _=>?_) fun _=>?_
 | refine im fun _=>?_
 | refine cF ?_
 | refine om ?_
 | refine an ?_
 | fail) <;> try simp only [zT,zV,zS,zU,vcC,lateX,ex,strp,binA,elems,cells,scalar,eqC,keyA,intsA,lookA,ofVs,mpOf,Nat.reduceBEq,reduceAdd,reduceSub,reduceLT,reduceLeDiff,reduceMul,reduceEqDiff,reduceIte]))
    refine ⟨⟨m,trivial⟩,_,by simp only [List.append_assoc]; rfl,fun ρ'=>?_⟩
    simp only [hSL]
    have b9:∀ (m:Sp) (a:Option (List Ob)) (b:Ob) (ν:Sto),Sto.at (chS σ F be bh m++ρ'::(μ++(a::some [b]::ν))) (M+(List.length μ+1+1)) 0=some b:=fun m a b ν=>by
      rw [← hSL m,at_app,at_consS,at_app]; rfl
    (repeat' ((first
 | refine vn rfl ?_
 | simp (disch:=omega) only [wr64,Int.zero_sub]
 | refine bo (fun _=>?_) fun _=>?_
 | refine im fun _=>?_
 | refine cF ?_
 | refine om ?_
 | refine an ?_
 | fail) <;> try simp only [zT,zV,zS,zU,vcC,lateX,ex,strp,binA,elems,cells,scalar,eqC,keyA,intsA,lookA,ofVs,mpOf,Nat.reduceBEq,reduceAdd,reduceSub,reduceLT,reduceLeDiff,reduceMul,reduceEqDiff,reduceIte,hSL,chS_6,chS_7,b8,b9,ge,gh]))
    all_goals try (exfalso; omega)
    have w8:∀ (m:Sp) (X:Sto),Sto.at ((chS σ F be bh m++ρ'::(μ++[some [⟨130,2,[[n (h.fr:Int),n (h.to:Int)]],none⟩],some [⟨30,2,[h.ch.cs],none⟩]]))++X) (M+(List.length μ+1)) 0=some ⟨130,2,[[n (h.fr:Int),n (h.to:Int)]],none⟩:=fun m X=>by
      simp only [List.append_assoc,List.cons_append,List.nil_append]; exact b8 m ρ' μ _ _
    have w9:∀ (m:Sp) (X:Sto),Sto.at ((chS σ F be bh m++ρ'::(μ++[some [⟨130,2,[[n (h.fr:Int),n (h.to:Int)]],none⟩],some [⟨30,2,[h.ch.cs],none⟩]]))++X) (M+(List.length μ+2)) 0=some ⟨30,2,[h.ch.cs],none⟩:=fun m X=>by
      simp only [List.append_assoc,List.cons_append,List.nil_append]; exact b9 m _ _ _
    have w7:∀ (m:Sp) (X:Sto),Sto.at ((chS σ F be bh m++ρ'::(μ++[some [⟨130,2,[[n (h.fr:Int),n (h.to:Int)]],none⟩],some [⟨30,2,[h.ch.cs],none⟩]]))++X) (σ.length+1) 0=some ⟨61,1,[[nodS bh]],none⟩:=fun m X=>by
      simp only [List.append_assoc]; exact chS_7 _
    have wF:∀ (m:Sp) (X:Sto),Sto.at ((chS σ F be bh m++ρ'::(μ++[some [⟨130,2,[[n (h.fr:Int),n (h.to:Int)]],none⟩],some [⟨30,2,[h.ch.cs],none⟩]]))++X) F 0=some (moO m):=fun m X=>by
      simp only [List.append_assoc]; exact chS_F hF _
    have wU:∀ (m m':Sp) (X:Sto),Sto.upd ((chS σ F be bh m++ρ'::(μ++[some [⟨130,2,[[n (h.fr:Int),n (h.to:Int)]],none⟩],some [⟨30,2,[h.ch.cs],none⟩]]))++X) F 0 (moO m')=(chS σ F be bh m'++ρ'::(μ++[some [⟨130,2,[[n (h.fr:Int),n (h.to:Int)]],none⟩],some [⟨30,2,[h.ch.cs],none⟩]]))++X:=fun m m' X=>by
      simp only [List.append_assoc]; exact chS_U hF _
    obtain ⟨W,hW⟩:∃ W:Sp→Sto,W=fun m=>chS σ F be bh m++ρ'::(μ++[some [⟨130,2,[[n (h.fr:Int),n (h.to:Int)]],none⟩],some [⟨30,2,[h.ch.cs],none⟩]]):=⟨_,rfl⟩
    have hWm:∀ m,chS σ F be bh m++ρ'::(μ++[some [⟨130,2,[[n (h.fr:Int),n (h.to:Int)]],none⟩],some [⟨30,2,[h.ch.cs],none⟩]])=W m:=fun m=>by rw [hW]
    simp only [hWm] at w8 w9 w7 wF wU
    obtain ⟨L0,hL0⟩:∃ L0,L0=M+List.length μ+3:=⟨_,rfl⟩
    have hWL:∀ m,List.length (W m)=L0:=fun m=>by rw [← hWm,hL0]; simp [hSL]; omega
    have n1:∀ m (ν X:Sto),Sto.at (W m++(ν++X)) (L0+List.length ν) 0=Sto.at X 0 0:=fun m ν X=>by rw [← hWL m,at_app,at_app0]
    have u1:∀ m (ν X:Sto) o,Sto.upd (W m++(ν++X)) (L0+List.length ν) 0 o=W m++(ν++Sto.upd X 0 0 o):=fun m ν X o=>by rw [← hWL m,upd_app,upd_app0]
    have n2:∀ m (ν ν1 X:Sto) a,Sto.at (W m++(ν++(a::(ν1++X)))) (L0+(List.length ν+(List.length ν1+1))) 0=Sto.at X 0 0:=fun m ν ν1 X a=>by rw [← hWL m,at_app,at_app,at_consS,at_app0]
    have u2:∀ m (ν ν1 X:Sto) a o,Sto.upd (W m++(ν++(a::(ν1++X)))) (L0+(List.length ν+(List.length ν1+1))) 0 o=W m++(ν++(a::(ν1++Sto.upd X 0 0 o))):=fun m ν ν1 X a o=>by rw [← hWL m,upd_app,upd_app,upd_consS,upd_app0]
    have n3:∀ m (ν ν1 X:Sto) a b,Sto.at (W m++(ν++(a::(ν1++(b::X))))) (L0+(List.length ν+(List.length ν1+2))) 0=Sto.at X 0 0:=fun m ν ν1 X a b=>by rw [← hWL m,at_app,at_app,show List.length ν1+2=List.length ν1+1+1 by omega,at_consS,at_app,at_consS]
    have u3:∀ m (ν ν1 X:Sto) a b o,Sto.upd (W m++(ν++(a::(ν1++(b::X))))) (L0+(List.length ν+(List.length ν1+2))) 0 o=W m++(ν++(a::(ν1++(b::Sto.upd X 0 0 o)))):=fun m ν ν1 X a b o=>by rw [← hWL m,upd_app,upd_app,show List.length ν1+2=List.length ν1+1+1 by omega,upd_consS,upd_app,upd_consS]
    refine AWPC.loopE (α:={ y:Nat × Sp × Sto // y.1≤A.length∧y.2.1=((A.take y.1).flatMap (chgA h.ch B)).foldl tellL m }) [38] (fun y=>[(38,n y.1.1)]) (fun y=>W y.1.2.1++y.1.2.2) (fun y=>A.length - y.1.1) ⟨(0,m,[]),Nat.zero_le _,rfl⟩ ?_ (by simp [hW]) ?_
    · (simp only [zT,zV,zS,zU,vcC,lateX,ex,strp,binA,elems,cells,scalar,eqC,keyA,intsA,lookA,ofVs,mpOf,Nat.reduceBEq,reduceAdd,reduceSub,reduceLT,reduceLeDiff,reduceMul,reduceEqDiff,reduceIte]; try simp)
    rintro ⟨⟨j,mj,ν⟩,hj,hmj⟩
    simp only at hj hmj
    simp only
    by_cases hlt:j < A.length
    · obtain ⟨a,haj⟩:∃ a,A[j]?=some a:=⟨_,List.getElem?_eq_getElem hlt⟩
      have haa:=hga.2 a (List.mem_of_getElem? haj)
      have han:=hga.1.ne a (List.mem_of_getElem? haj)
      have hnj:=flatMap_take (f:=chgA h.ch B) (m0:=m) haj
      rw [← hmj] at hnj
      (repeat' ((first
 | refine vn rfl ?_
 | simp (disch:=omega) only [wr64,Int.zero_sub]
 | refine bo (fun _=>?_) fun _=>?_
 | refine im fun _=>?_
 | refine cF ?_
 | refine om ?_
 | refine an ?_
 | fail) <;> try simp only [zT,zV,zS,zU,vcC,lateX,ex,strp,binA,elems,cells,scalar,eqC,keyA,intsA,lookA,ofVs,mpOf,Nat.reduceBEq,reduceAdd,reduceSub,reduceLT,reduceLeDiff,reduceMul,reduceEqDiff,reduceIte,hWL,w7,w8,n1,u1,gh,getD_map haj,List.append_assoc]))
      all_goals try (exfalso; omega)
      refine AWPC.loopE (α:={ y:Nat × Sp × Sto // y.1≤B.length∧y.2.1=((B.take y.1).flatMap (chg1 h.ch a)).foldl tellL mj }) [48] (fun y=>[(48,n y.1.1)]) (fun y=>W y.1.2.1++(ν++(some [⟨30,2,[a.cs],none⟩]::y.1.2.2))) (fun y=>B.length - y.1.1) ⟨(0,mj,[]),Nat.zero_le _,rfl⟩ ?_ rfl ?_
      · (simp only [zT,zV,zS,zU,vcC,lateX,ex,strp,binA,elems,cells,scalar,eqC,keyA,intsA,lookA,ofVs,mpOf,Nat.reduceBEq,reduceAdd,reduceSub,reduceLT,reduceLeDiff,reduceMul,reduceEqDiff,reduceIte]; try simp)
      rintro ⟨⟨l,ml,ν1⟩,hl,hml⟩
      simp only at hl hml
      simp only
      by_cases hlt2:l < B.length
      · obtain ⟨b,hbl⟩:∃ b,B[l]?=some b:=⟨_,List.getElem?_eq_getElem hlt2⟩
        have hbb:=hgb.2 b (List.mem_of_getElem? hbl)
        have hbn:=hgb.1.ne b (List.mem_of_getElem? hbl)
        have hnl:=flatMap_take (f:=chg1 h.ch a) (m0:=mj) hbl
        rw [← hml] at hnl
        (repeat' ((first
 | refine vn rfl ?_
 | simp (disch:=omega) only [wr64,Int.zero_sub]
 | refine bo (fun _=>?_) fun _=>?_
 | refine im fun _=>?_
 | refine cF ?_
 | refine om ?_
 | refine an ?_
 | fail) <;> try simp only [zT, zV, zS, zU, vcC, lateX, ex, strp, binA, elems, cells, scalar, eqC, keyA, intsA, lookA, ofVs, mpOf, Nat.reduceBEq, reduceAdd, reduceSub, reduceLT, reduceLeDiff, reduceMul, reduceEqDiff, reduceIte, hWL, w9, n1, n2, u2, n3, u3, getD_map hbl, List.append_assoc, List.cons_append]))
        all_goals try (exfalso; omega)
        · rename_i hc
          refine .inr (.inl ⟨_,_,_,_,rfl,fun _=>⟨tell_does _ F ml (chgS h.ch a b) (wF ml _),?_⟩,fun h=>by cases h⟩)
          rintro res σ' rfl
          rw [wU]
          refine owp_of_exs ?_
          simp only [zT,zV,zS,zU,vcC,lateX,ex,strp,binA,elems,cells,scalar,eqC,keyA,intsA,lookA,ofVs,mpOf,Nat.reduceBEq,reduceAdd,reduceSub,reduceLT,reduceLeDiff,reduceMul,reduceEqDiff,reduceIte]
          (repeat' ((first
 | refine vn rfl ?_
 | simp (disch:=omega) only [wr64,Int.zero_sub]
 | refine bo (fun _=>?_) fun _=>?_
 | refine im fun _=>?_
 | refine cF ?_
 | refine om ?_
 | refine an ?_
 | fail) <;> try simp only [zT, zV, zS, zU, vcC, lateX, ex, strp, binA, elems, cells, scalar, eqC, keyA, intsA, lookA, ofVs, mpOf, Nat.reduceBEq, reduceAdd, reduceSub, reduceLT, reduceLeDiff, reduceMul, reduceEqDiff, reduceIte]))
          have hc1:chg1 h.ch a b=[chgS h.ch a b]:=if_pos hc
          exact ⟨⟨(l+1,tellL ml (chgS h.ch a b),ν1++[some [⟨30,2,[b.cs],none⟩],some [⟨30,2,[(chgS h.ch a b).cs],none⟩]]),hlt2,by rw [hnl,hc1]; rfl⟩,by simp,by simp [chgS],by simp only; omega⟩
        · rename_i hc
          have hc1:chg1 h.ch a b=[]:=if_neg hc
          exact ⟨⟨(l+1,ml,ν1++[some [⟨30,2,[b.cs],none⟩],some [⟨30,2,[(chgS h.ch a b).cs],none⟩]]),hlt2,by rw [hnl,hc1]; rfl⟩,by simp,by simp [chgS],by simp only; omega⟩
      · obtain rfl:l=B.length:=by omega
        rw [List.take_length] at hml
        (repeat' ((first
 | refine vn rfl ?_
 | simp (disch:=omega) only [wr64,Int.zero_sub]
 | refine bo (fun _=>?_) fun _=>?_
 | refine im fun _=>?_
 | refine cF ?_
 | refine om ?_
 | refine an ?_
 | fail) <;> try simp only [zT, zV, zS, zU, vcC, lateX, ex, strp, binA, elems, cells, scalar, eqC, keyA, intsA, lookA, ofVs, mpOf, Nat.reduceBEq, reduceAdd, reduceSub, reduceLT, reduceLeDiff, reduceMul, reduceEqDiff, reduceIte]))
        all_goals try (exfalso; omega)
        exact ⟨⟨(j+1,ml,ν++(some [⟨30,2,[a.cs],none⟩]::ν1)),hlt,by rw [hnj,hml]; rfl⟩,by simp,by simp,by simp only; omega⟩
    · obtain rfl:j=A.length:=by omega
      rw [List.take_length,← hH] at hmj
      (repeat' ((first
 | refine vn rfl ?_
 | simp (disch:=omega) only [wr64,Int.zero_sub]
 | refine bo (fun _=>?_) fun _=>?_
 | refine im fun _=>?_
 | refine cF ?_
 | refine om ?_
 | refine an ?_
 | fail) <;> try simp only [zT,zV,zS,zU,vcC,lateX,ex,strp,binA,elems,cells,scalar,eqC,keyA,intsA,lookA,ofVs,mpOf,Nat.reduceBEq,reduceAdd,reduceSub,reduceLT,reduceLeDiff,reduceMul,reduceEqDiff,reduceIte]))
      all_goals try (exfalso; omega)
      exact ⟨⟨mj,trivial⟩,ν,by rw [← hWm]; simp,by simp only; rw [hnx,hmj]⟩
  · obtain ⟨m,hm0⟩:=x
    simp only at hx ⊢
    have hHl:(rdsH H).length=H.length:=by simp [rdsH]
    rw [hHl,List.take_length] at hx
    simp only [zT,zV,zS,zU,vcC,lateX,ex,strp,binA,elems,cells,scalar,eqC,keyA,intsA,lookA,ofVs,mpOf,Nat.reduceBEq,reduceAdd,reduceSub,reduceLT,reduceLeDiff,reduceMul,reduceEqDiff,reduceIte]
    (repeat' ((first
 | refine vn rfl ?_
 | simp (disch:=omega) only [wr64,Int.zero_sub]
 | refine bo (fun _=>?_) fun _=>?_
 | refine im fun _=>?_
 | refine cF ?_
 | refine om ?_
 | refine an ?_
 | fail) <;> try simp only [zT,zV,zS,zU,vcC,lateX,ex,strp,binA,elems,cells,scalar,eqC,keyA,intsA,lookA,ofVs,mpOf,Nat.reduceBEq,reduceAdd,reduceSub,reduceLT,reduceLeDiff,reduceMul,reduceEqDiff,reduceIte]))
    subst hx
    exact .mk trivial _ (by unfold chS; simp only [List.append_assoc]; rfl)
theorem ends_spec (t:Trk) (k:Int) (hs:trkSz t) (hk:-9223372036854775808≤k∧k+1 < 9223372036854775808) :
    Pure Tryz.prog 131 [trS t,n k] (.tup [.agg (if askE t (decide (0≤k∧k+1 < (t.length:Int)))=0 then chgR t k.toNat else ⟨0,0⟩:Sp).cs,n (askE t (decide (0≤k∧k+1 < (t.length:Int))))]):=by
  refine Pure.of_body Tryz.call131 Tryz.func131 k131 (Nat.le_of_ble_eq_true rfl) ?_
  unfold c131
  have ha:=asked_spec t hs 160 [.iptr [tkS t] 0,.iptr [n k] 0] (by simp (maxDischargeDepth:=9)) _ (fun _=>ends1_spec t k hk)
  by_cases h0:askE t (decide (0≤k∧k+1 < (t.length:Int)))=0
  · rw [if_pos h0]
    obtain ⟨hv,hok,hf⟩:=askE0.1 h0
    rw [h0] at ha ⊢
    simp only [decide_eq_true_eq] at hok
    obtain ⟨k,rfl⟩:∃ m:Nat,k=(m:Int):=⟨k.toNat,by omega⟩
    simp only [Int.toNat_natCast] at *
    (repeat' ((first
 | refine vn rfl ?_
 | simp (disch:=omega) only [wr64,Int.zero_sub]
 | refine bo (fun _=>?_) fun _=>?_
 | refine im fun _=>?_
 | ((repeat refine si ?_); (first | ((first | refine .inl ⟨_,_,_,_,rfl,fun _=>pu ha,?_⟩ | refine ⟨_,_,_,_,rfl,fun _=>pu ha,?_⟩); (first | refine o1 ?_ | refine o2 ?_ | refine o3 ?_ | refine o4 ?_)) | refine .inl ⟨_,_,_,_,rfl,pu ha,?_⟩))
 | refine cF ?_
 | refine om ?_
 | refine an ?_
 | fail) <;> try simp only [zT,zV,zS,zU,vcC,lateX,ex,strp,binA,elems,cells,scalar,eqC,keyA,intsA,lookA,ofVs,mpOf,Nat.reduceBEq,reduceAdd,reduceSub,reduceLT,reduceLeDiff,reduceMul,reduceEqDiff,reduceIte]))
    all_goals try (exfalso; omega)
    refine .inr (.inl ⟨_,_,_,_,rfl,fun _=>⟨changes_does _ t k 1 ⟨100000,-100000⟩ hv (by omega) rfl,?_⟩,fun h=>by cases h⟩)
    rintro res σ' ⟨_,ν,rfl⟩
    refine owp_of_exs ?_
    have hR:(chgs t k).foldl tellL ⟨100000,-100000⟩=chgR t k:=rfl
    rw [hR]
    generalize chgR t k=r
    simp only [zT,zV,zS,zU,vcC,lateX,ex,strp,binA,elems,cells,scalar,eqC,keyA,intsA,lookA,ofVs,mpOf,Nat.reduceBEq,reduceAdd,reduceSub,reduceLT,reduceLeDiff,reduceMul,reduceEqDiff,reduceIte]
    (repeat' ((first
 | refine vn rfl ?_
 | simp (disch:=omega) only [wr64,Int.zero_sub]
 | refine bo (fun _=>?_) fun _=>?_
 | refine im fun _=>?_
 | refine cF ?_
 | refine om ?_
 | refine an ?_
 | fail) <;> try simp only [zT,zV,zS,zU,vcC,lateX,ex,strp,binA,elems,cells,scalar,eqC,keyA,intsA,lookA,ofVs,mpOf,Nat.reduceBEq,reduceAdd,reduceSub,reduceLT,reduceLeDiff,reduceMul,reduceEqDiff,reduceIte]))
    all_goals exact Frz.eq rfl (by simp)
  · rw [if_neg h0]
    generalize askE t (decide (0≤k∧k+1 < (t.length:Int)))=e at *
    (repeat' ((first
 | refine vn rfl ?_
 | simp (disch:=omega) only [wr64,Int.zero_sub]
 | refine bo (fun _=>?_) fun _=>?_
 | refine im fun _=>?_
 | ((repeat refine si ?_); (first | ((first | refine .inl ⟨_,_,_,_,rfl,fun _=>pu ha,?_⟩ | refine ⟨_,_,_,_,rfl,fun _=>pu ha,?_⟩); (first | refine o1 ?_ | refine o2 ?_ | refine o3 ?_ | refine o4 ?_)) | refine .inl ⟨_,_,_,_,rfl,pu ha,?_⟩))
 | refine cF ?_
 | refine om ?_
 | refine an ?_
 | fail) <;> try simp only [zT,zV,zS,zU,vcC,lateX,ex,strp,binA,elems,cells,scalar,eqC,keyA,intsA,lookA,ofVs,mpOf,Nat.reduceBEq,reduceAdd,reduceSub,reduceLT,reduceLeDiff,reduceMul,reduceEqDiff,reduceIte]))
    all_goals try (exfalso; omega)
    all_goals exact Frz.eq rfl (by simp)
theorem Greatest_spec (t:Trk) (k:Int) (hs:trkSz t) (hk:-9223372036854775808≤k∧k+1 < 9223372036854775808) :
    Pure Tryz.prog 68 [trS t,n k] (.tup [n (if askE t (decide (0≤k∧k+1 < (t.length:Int)))=0 then chgR t k.toNat else ⟨0,0⟩:Sp).hi,n (askE t (decide (0≤k∧k+1 < (t.length:Int))))]):=by
  refine Pure.of_body Tryz.call68 Tryz.func68 k68 (Nat.le_of_ble_eq_true rfl) ?_
  unfold c68
  (repeat' ((first
 | refine vn rfl ?_
 | simp (disch:=omega) only [wr64,Int.zero_sub]
 | refine bo (fun _=>?_) fun _=>?_
 | refine im fun _=>?_
 | ((repeat refine si ?_); (first | ((first | refine .inl ⟨_,_,_,_,rfl,fun _=>pu (ends_spec t k hs hk),?_⟩ | refine ⟨_,_,_,_,rfl,fun _=>pu (ends_spec t k hs hk),?_⟩); (first | refine o1 ?_ | refine o2 ?_ | refine o3 ?_ | refine o4 ?_)) | refine .inl ⟨_,_,_,_,rfl,pu (ends_spec t k hs hk),?_⟩))
 | refine cF ?_
 | refine om ?_
 | refine an ?_
 | fail) <;> try simp only [zT,zV,zS,zU,vcC,lateX,ex,strp,binA,elems,cells,scalar,eqC,keyA,intsA,lookA,ofVs,mpOf,Nat.reduceBEq,reduceAdd,reduceSub,reduceLT,reduceLeDiff,reduceMul,reduceEqDiff,reduceIte]))
  all_goals exact Frz.eq rfl (by simp)
theorem Least_spec (t:Trk) (k:Int) (hs:trkSz t) (hk:-9223372036854775808≤k∧k+1 < 9223372036854775808) :
    Pure Tryz.prog 69 [trS t,n k] (.tup [n (if askE t (decide (0≤k∧k+1 < (t.length:Int)))=0 then chgR t k.toNat else ⟨0,0⟩:Sp).lo,n (askE t (decide (0≤k∧k+1 < (t.length:Int))))]):=by
  refine Pure.of_body Tryz.call69 Tryz.func69 k69 (Nat.le_of_ble_eq_true rfl) ?_
  unfold c69
  (repeat' ((first
 | refine vn rfl ?_
 | simp (disch:=omega) only [wr64,Int.zero_sub]
 | refine bo (fun _=>?_) fun _=>?_
 | refine im fun _=>?_
 | ((repeat refine si ?_); (first | ((first | refine .inl ⟨_,_,_,_,rfl,fun _=>pu (ends_spec t k hs hk),?_⟩ | refine ⟨_,_,_,_,rfl,fun _=>pu (ends_spec t k hs hk),?_⟩); (first | refine o1 ?_ | refine o2 ?_ | refine o3 ?_ | refine o4 ?_)) | refine .inl ⟨_,_,_,_,rfl,pu (ends_spec t k hs hk),?_⟩))
 | refine cF ?_
 | refine om ?_
 | refine an ?_
 | fail) <;> try simp only [zT,zV,zS,zU,vcC,lateX,ex,strp,binA,elems,cells,scalar,eqC,keyA,intsA,lookA,ofVs,mpOf,Nat.reduceBEq,reduceAdd,reduceSub,reduceLT,reduceLeDiff,reduceMul,reduceEqDiff,reduceIte]))
  all_goals exact Frz.eq rfl (by simp)
def c19:CF:=⟨24,
 (.seq (.ops [
 ⟨some 1,.box false 24 1 (.t 0),none⟩,
 ⟨some 2,.alloc 38 1 [.slice none 0 0],none⟩,
 ⟨some 3,.mv (.c (.int .i64 0)),none⟩] [1,2])
 (.seq (.seq (.ops [
 ⟨some 6,.load (some 1) (.t 1),none⟩,
 ⟨some 7,.call (.f 53) [(.t 6)],none⟩,
 ⟨some 4,.mv (.t 7),none⟩] [1,2,4])
 (.seq (.ops [
 ⟨some 8,.mv (.t 4),none⟩,
 ⟨some 9,.bin .neq (.t 8) (.c (.int .i64 0)),none⟩] [1,2,4,9])
 (.cond (.t 9) (.seq (.ops [
 ⟨some 10,.build [.slice none 0 0] [],none⟩,
 ⟨some 11,.mv (.t 4),none⟩,
 ⟨none,.store 1 (.t 2) (.t 10),none⟩,
 ⟨some 3,.mv (.t 11),none⟩] [2,3])
 .ret)
 .skip)))
 (.seq (.ops [
 ⟨some 12,.load (some 1) (.t 1),none⟩,
 ⟨some 13,.call (.f 71) [(.t 12)],none⟩,
 ⟨some 5,.mv (.t 13),none⟩] [2,5])
 (.seq (.seq (.ops [
 ⟨some 14,.mv (.t 5),none⟩,
 ⟨some 15,.mv (.t 5),none⟩,
 ⟨some 16,.len (.t 15),none⟩,
 ⟨some 17,.bin .sub (.t 16) (.c (.int .i64 1)),none⟩,
 ⟨some 18,.iaddr 1 (.t 14) (.t 17),none⟩,
 ⟨some 19,.load none (.t 18),none⟩,
 ⟨some 20,.call (.f 72) [(.t 19)],none⟩] [2,5,20])
 (.cond (.t 20) (.seq (.ops [
 ⟨some 21,.build [.slice none 0 0] [],none⟩,
 ⟨none,.store 1 (.t 2) (.t 21),none⟩,
 ⟨some 3,.mv (.c (.int .i64 3)),none⟩] [2,3])
 .ret)
 .skip))
 (.seq (.ops [
 ⟨some 22,.mv (.t 5),none⟩,
 ⟨some 23,.build [.slice none 0 0] [(0,1,(.t 22))],none⟩,
 ⟨none,.store 1 (.t 2) (.t 23),none⟩,
 ⟨some 3,.mv (.c (.int .i64 0)),none⟩] [2,3])
 .ret))))),
 [.c 2 (some 1),.t 3]⟩
def c77:CF:=⟨95,
 (.seq (.ops [
 ⟨some 2,.box false 24 1 (.t 0),none⟩,
 ⟨some 3,.box false 38 1 (.t 1),none⟩,
 ⟨some 4,.alloc 4 1 [.bool false],none⟩] [2,3,4])
 (.seq (.seq (.ops [
 ⟨some 11,.faddr 0 (.t 2),none⟩,
 ⟨some 12,.load none (.t 11),none⟩,
 ⟨some 13,.iaddr 1 (.t 12) (.c (.int .i64 0)),none⟩,
 ⟨some 14,.load none (.t 13),none⟩,
 ⟨some 15,.len (.t 14),none⟩,
 ⟨some 16,.mv (.c (.int .i64 0)),none⟩] [2,3,4,14,15,16])
 (.block 0 (.loop (.seq (.ops [
 ⟨some 17,.bin .lss (.t 16) (.t 15),none⟩] [2,3,4,14,15,16,17])
 (.seq (.cond (.t 17) .skip
 (.exit 0))
 (.seq (.block 1 (.seq (.ops [
 ⟨some 18,.mv (.t 16),none⟩,
 ⟨some 19,.iaddr 2 (.t 14) (.t 16),none⟩,
 ⟨some 20,.load (some 2) (.t 19),none⟩,
 ⟨some 6,.alloc 80 2 [.slice none 0 0,.slice none 0 0],none⟩,
 ⟨some 5,.mv (.t 18),none⟩,
 ⟨none,.store 2 (.t 6) (.t 20),none⟩] [2,3,4,5,6,14,15,16])
 (.seq (.draw [
 ⟨some 21,.faddr 0 (.t 6),none⟩,
 ⟨some 22,.load none (.t 21),none⟩,
 ⟨some 23,.faddr 0 (.t 3),none⟩,
 ⟨some 24,.load none (.t 23),none⟩,
 ⟨some 25,.iaddr 1 (.t 24) (.c (.int .i64 0)),none⟩,
 ⟨some 26,.load none (.t 25),none⟩,
 ⟨some 27,.mv (.t 5),none⟩,
 ⟨some 28,.iaddr 1 (.t 26) (.t 27),none⟩,
 ⟨some 29,.load none (.t 28),none⟩,
 ⟨some 30,.call (.f 134) [(.t 22),(.t 29)],none⟩,
 ⟨some 31,.un .not (.t 30),none⟩] [
 ] [2,3,4,14,15,16,31])
 (.cond (.t 31) (.seq (.ops [
 ⟨none,.store 1 (.t 4) (.c (.bool false)),none⟩] [4])
 .ret)
 .skip))))
 (.ops [
 ⟨some 32,.bin .add (.t 16) (.c (.int .i64 1)),none⟩,
 ⟨some 16,.mv (.t 32),none⟩] [2,3,4,14,15,16])))))))
 (.seq (.seq (.ops [
 ⟨some 33,.faddr 0 (.t 2),none⟩,
 ⟨some 34,.load none (.t 33),none⟩,
 ⟨some 35,.len (.t 34),none⟩,
 ⟨some 36,.bin .sub (.t 35) (.c (.int .i64 1)),none⟩,
 ⟨some 37,.mv (.c (.int .i64 0)),none⟩] [2,3,4,36,37])
 (.block 2 (.loop (.seq (.ops [
 ⟨some 38,.bin .lss (.t 37) (.t 36),none⟩] [2,3,4,36,37,38])
 (.seq (.cond (.t 38) .skip
 (.exit 2))
 (.seq (.block 3 (.seq (.ops [
 ⟨some 39,.mv (.t 37),none⟩,
 ⟨some 7,.alloc 3 1 [.int .i64 0],none⟩,
 ⟨none,.store 1 (.t 7) (.t 39),none⟩] [2,3,4,7,36,37])
 (.seq (.ops [
 ⟨some 40,.load (some 1) (.t 2),none⟩,
 ⟨some 41,.build [.slice none 0 0] [(0,1,(.t 40))],none⟩,
 ⟨some 42,.load none (.t 7),none⟩,
 ⟨some 43,.call (.f 135) [(.t 41),(.t 42)],none⟩] [2,3,4,7,36,37,43])
 (.block 4 (.rng (.t 43) [44,45] (.seq (.ops [
 ⟨some 8,.alloc 130 2 [.int .i64 0,.int .i64 0],none⟩,
 ⟨none,.store 2 (.t 8) (.t 44),none⟩] [2,3,4,7,8,36,37,45])
 (.ops [
 ⟨some 9,.alloc 30 2 [.int .i64 0,.int .i64 0],none⟩,
 ⟨none,.store 2 (.t 9) (.t 45),none⟩] [2,3,4,7,8,9,36,37]))
 (.block 5 (.seq (.draw [
 ⟨some 46,.faddr 0 (.t 3),none⟩,
 ⟨some 47,.load none (.t 46),none⟩,
 ⟨some 48,.load none (.t 7),none⟩,
 ⟨some 49,.iaddr 1 (.t 47) (.t 48),none⟩,
 ⟨some 50,.load none (.t 49),none⟩,
 ⟨some 51,.faddr 0 (.t 8),none⟩,
 ⟨some 52,.load none (.t 51),none⟩,
 ⟨some 53,.iaddr 1 (.t 50) (.t 52),none⟩,
 ⟨some 54,.load none (.t 53),none⟩,
 ⟨some 55,.load (some 2) (.t 9),none⟩,
 ⟨some 56,.call (.f 136) [(.t 54),(.t 55)],none⟩,
 ⟨some 57,.call (.f 93) [(.t 56)],none⟩,
 ⟨some 58,.call (.f 79) [(.t 57)],none⟩,
 ⟨some 10,.mv (.t 58),none⟩] [
 ] [2,3,4,7,8,10,36,37])
 (.seq (.draw [
 ⟨some 59,.mv (.t 10),none⟩,
 ⟨some 60,.faddr 0 (.t 2),none⟩,
 ⟨some 61,.load none (.t 60),none⟩,
 ⟨some 62,.load none (.t 7),none⟩,
 ⟨some 63,.bin .add (.t 62) (.c (.int .i64 1)),none⟩,
 ⟨some 64,.iaddr 1 (.t 61) (.t 63),none⟩,
 ⟨some 65,.load none (.t 64),none⟩,
 ⟨some 66,.faddr 1 (.t 8),none⟩,
 ⟨some 67,.load none (.t 66),none⟩,
 ⟨some 68,.iaddr 2 (.t 65) (.t 67),none⟩,
 ⟨some 69,.faddr 0 (.t 68),none⟩,
 ⟨some 70,.load none (.t 69),none⟩,
 ⟨some 71,.call (.f 81) [(.t 59),(.t 70)],none⟩,
 ⟨some 72,.faddr 0 (.t 3),none⟩,
 ⟨some 73,.load none (.t 72),none⟩,
 ⟨some 74,.load none (.t 7),none⟩,
 ⟨some 75,.bin .add (.t 74) (.c (.int .i64 1)),none⟩,
 ⟨some 76,.iaddr 1 (.t 73) (.t 75),none⟩,
 ⟨some 77,.load none (.t 76),none⟩,
 ⟨some 78,.faddr 1 (.t 8),none⟩,
 ⟨some 79,.load none (.t 78),none⟩,
 ⟨some 80,.iaddr 1 (.t 77) (.t 79),none⟩,
 ⟨some 81,.load none (.t 80),none⟩,
 ⟨some 82,.call (.f 134) [(.t 71),(.t 81)],none⟩,
 ⟨some 83,.un .not (.t 82),none⟩] [
 ] [2,3,4,7,36,37,83])
 (.cond (.t 83) (.seq (.ops [
 ⟨none,.store 1 (.t 4) (.c (.bool false)),none⟩] [4])
 .ret)
 .skip)))))))))
 (.ops [
 ⟨some 84,.bin .add (.t 37) (.c (.int .i64 1)),none⟩,
 ⟨some 37,.mv (.t 84),none⟩] [2,3,4,36,37])))))))
 (.seq (.ops [
 ⟨some 85,.faddr 0 (.t 3),none⟩,
 ⟨some 86,.load none (.t 85),none⟩,
 ⟨some 87,.faddr 0 (.t 3),none⟩,
 ⟨some 88,.load none (.t 87),none⟩,
 ⟨some 89,.len (.t 88),none⟩,
 ⟨some 90,.bin .sub (.t 89) (.c (.int .i64 1)),none⟩,
 ⟨some 91,.iaddr 1 (.t 86) (.t 90),none⟩,
 ⟨some 92,.load none (.t 91),none⟩,
 ⟨some 93,.call (.f 72) [(.t 92)],none⟩,
 ⟨some 94,.un .not (.t 93),none⟩,
 ⟨none,.store 1 (.t 4) (.t 94),none⟩] [4])
 .ret)))),
 [.c 4 none]⟩
def c75:CF:=⟨6,
 (.seq (.ops [
 ⟨some 2,.mv (.c (.bool false)),none⟩] [0])
 (.seq (.ops [
 ⟨some 3,.mv (.t 0),none⟩,
 ⟨some 4,.call (.f 76) [(.t 3)],none⟩,
 ⟨some 5,.un .not (.t 4),none⟩,
 ⟨some 2,.mv (.t 5),none⟩] [2])
 .ret)),
 [.t 2]⟩
def c22:CF:=⟨46,
 (.seq (.ops [
 ⟨some 2,.box false 24 1 (.t 0),none⟩,
 ⟨some 3,.box false 38 1 (.t 1),none⟩,
 ⟨some 4,.mv (.c (.int .i64 0)),none⟩] [2,3])
 (.seq (.seq (.ops [
 ⟨some 8,.load (some 1) (.t 2),none⟩,
 ⟨some 9,.call (.f 53) [(.t 8)],none⟩,
 ⟨some 5,.mv (.t 9),none⟩] [2,3,5])
 (.seq (.ops [
 ⟨some 10,.mv (.t 5),none⟩,
 ⟨some 11,.bin .neq (.t 10) (.c (.int .i64 0)),none⟩] [2,3,5,11])
 (.cond (.t 11) (.seq (.ops [
 ⟨some 12,.mv (.t 5),none⟩,
 ⟨some 4,.mv (.t 12),none⟩] [4])
 .ret)
 .skip)))
 (.seq (.seq (.ops [
 ⟨some 13,.faddr 0 (.t 3),none⟩,
 ⟨some 14,.load none (.t 13),none⟩,
 ⟨some 15,.len (.t 14),none⟩,
 ⟨some 16,.faddr 0 (.t 2),none⟩,
 ⟨some 17,.load none (.t 16),none⟩,
 ⟨some 18,.len (.t 17),none⟩,
 ⟨some 19,.bin .neq (.t 15) (.t 18),none⟩] [2,3,19])
 (.cond (.t 19) (.seq (.ops [
 ⟨some 4,.mv (.c (.int .i64 43)),none⟩] [4])
 .ret)
 .skip))
 (.seq (.seq (.ops [
 ⟨some 20,.faddr 0 (.t 3),none⟩,
 ⟨some 21,.load none (.t 20),none⟩,
 ⟨some 22,.len (.t 21),none⟩,
 ⟨some 23,.mv (.c (.int .i64 0)),none⟩] [2,3,21,22,23])
 (.block 0 (.loop (.seq (.ops [
 ⟨some 24,.bin .lss (.t 23) (.t 22),none⟩] [2,3,21,22,23,24])
 (.seq (.cond (.t 24) .skip
 (.exit 0))
 (.seq (.block 1 (.seq (.ops [
 ⟨some 25,.mv (.t 23),none⟩,
 ⟨some 26,.iaddr 1 (.t 21) (.t 23),none⟩,
 ⟨some 27,.load none (.t 26),none⟩,
 ⟨some 6,.mv (.t 25),none⟩,
 ⟨some 7,.mv (.t 27),none⟩] [2,3,6,7,21,22,23])
 (.seq (.ops [
 ⟨some 28,.mv (.t 7),none⟩,
 ⟨some 29,.len (.t 28),none⟩,
 ⟨some 30,.faddr 0 (.t 2),none⟩,
 ⟨some 31,.load none (.t 30),none⟩,
 ⟨some 32,.mv (.t 6),none⟩,
 ⟨some 33,.iaddr 1 (.t 31) (.t 32),none⟩,
 ⟨some 34,.load none (.t 33),none⟩,
 ⟨some 35,.len (.t 34),none⟩,
 ⟨some 36,.bin .neq (.t 29) (.t 35),none⟩,
 ⟨some 37,.mv (.t 36),none⟩,
 ⟨some 38,.mv (.t 7),some (37,false)⟩,
 ⟨some 39,.call (.f 74) [(.t 38),(.f 75)],some (37,false)⟩,
 ⟨some 40,.pick (.t 37) (.c (.bool true)) (.t 39),none⟩] [2,3,21,22,23,40])
 (.cond (.t 40) (.seq (.ops [
 ⟨some 4,.mv (.c (.int .i64 43)),none⟩] [4])
 .ret)
 .skip))))
 (.ops [
 ⟨some 41,.bin .add (.t 23) (.c (.int .i64 1)),none⟩,
 ⟨some 23,.mv (.t 41),none⟩] [2,3,21,22,23])))))))
 (.seq (.seq (.ops [
 ⟨some 42,.load (some 1) (.t 2),none⟩,
 ⟨some 43,.load (some 1) (.t 3),none⟩,
 ⟨some 44,.call (.f 77) [(.t 42),(.t 43)],none⟩,
 ⟨some 45,.un .not (.t 44),none⟩] [45])
 (.cond (.t 45) (.seq (.ops [
 ⟨some 4,.mv (.c (.int .i64 43)),none⟩] [4])
 .ret)
 .skip))
 (.seq (.ops [
 ⟨some 4,.mv (.c (.int .i64 0)),none⟩] [4])
 .ret)))))),
 [.t 4]⟩
theorem k19:chkF Tryz.prog Tryz.f19 c19=true:=by kernel_rfl
theorem k77:chkF Tryz.prog Tryz.f77 c77=true:=by kernel_rfl
theorem k75:chkF Tryz.prog Tryz.f75 c75=true:=by kernel_rfl
theorem k22:chkF Tryz.prog Tryz.f22 c22=true:=by kernel_rfl
noncomputable def proveE (t:Trk):Int:=if tr (valid t)=true then (if feas t=true then 3 else 0) else 40
theorem frz_aggnil {σ:Sto}:Frz σ (.agg [.v (.slice none 0 0)]) (.agg [stgS []]):=Frz.agg rfl fun i hi=>by
  obtain rfl:i=0:=by simpa using hi
  exact frz_nil
theorem Prove_spec (t:Trk) (hs:trkSz t):Pure Tryz.prog 19 [trS t] (.tup [.agg [stgS (if proveE t=0 then fwds t else [])],n (proveE t)]):=by
  refine Pure.of_body Tryz.call19 Tryz.func19 k19 (Nat.le_of_ble_eq_true rfl) ?_
  unfold c19
  have hc:=Check_spec t hs
  unfold proveE
  by_cases hv:valid t
  · rw [tr_1 hv] at hc ⊢
    simp only [if_true] at hc ⊢
    have h1:=hv.1
    have h2:=hv.2.1
    have hg:=fwds_get (t:=t) (k:=t.length - 1) (by omega)
    have hi:((t.length:Int) - 1).toNat=t.length - 1:=by omega
    have hl:=fwds_len t
    have hw:=wd_le hv (t.length - 1)
    have hso:=some_spec (fwd t (t.length - 1)) (by rw [fwd_len]; omega) (fun x hx=>by have:=good_len (fwd_goods hv _ x hx); omega)
    have hf:some' (fwd t (t.length - 1))=feas t:=rfl
    rw [hf] at hso
    (repeat' ((first
 | refine vn rfl ?_
 | simp (disch:=omega) only [wr64,Int.zero_sub]
 | refine bo (fun _=>?_) fun _=>?_
 | refine im fun _=>?_
 | ((repeat refine si ?_); (first | ((first | refine .inl ⟨_,_,_,_,rfl,fun _=>pu (by first | exact hc | exact forward_spec t hv | exact hso),?_⟩ | refine ⟨_,_,_,_,rfl,fun _=>pu (by first | exact hc | exact forward_spec t hv | exact hso),?_⟩); (first | refine o1 ?_ | refine o2 ?_ | refine o3 ?_ | refine o4 ?_)) | refine .inl ⟨_,_,_,_,rfl,pu (by first | exact hc | exact forward_spec t hv | exact hso),?_⟩))
 | refine cF ?_
 | refine om ?_
 | refine an ?_
 | fail) <;> try simp only [zT,zV,zS,zU,vcC,lateX,ex,strp,binA,elems,cells,scalar,eqC,keyA,intsA,lookA,ofVs,mpOf,Nat.reduceBEq,reduceAdd,reduceSub,reduceLT,reduceLeDiff,reduceMul,reduceEqDiff,reduceIte,hg,hi,hl]))
    all_goals try (exfalso; omega)
    · rename_i h
      rw [h]
      exact frz2 frz_aggnil (by simp)
    · rename_i h
      simp only [h]
      exact Frz.eq rfl (by simp (maxDischargeDepth:=9))
  · rw [tr_0 hv] at hc ⊢
    simp only [Bool.false_eq_true,if_false] at hc ⊢
    (repeat' ((first
 | refine vn rfl ?_
 | simp (disch:=omega) only [wr64,Int.zero_sub]
 | refine bo (fun _=>?_) fun _=>?_
 | refine im fun _=>?_
 | ((repeat refine si ?_); (first | ((first | refine .inl ⟨_,_,_,_,rfl,fun _=>pu hc,?_⟩ | refine ⟨_,_,_,_,rfl,fun _=>pu hc,?_⟩); (first | refine o1 ?_ | refine o2 ?_ | refine o3 ?_ | refine o4 ?_)) | refine .inl ⟨_,_,_,_,rfl,pu hc,?_⟩))
 | refine cF ?_
 | refine om ?_
 | refine an ?_
 | fail) <;> try simp only [zT,zV,zS,zU,vcC,lateX,ex,strp,binA,elems,cells,scalar,eqC,keyA,intsA,lookA,ofVs,mpOf,Nat.reduceBEq,reduceAdd,reduceSub,reduceLT,reduceLeDiff,reduceMul,reduceEqDiff,reduceIte]))
    all_goals try (exfalso; omega)
    exact frz2 frz_aggnil (by simp)
def hopHolds (t:Trk) (ps:List (List (List Sp))) (k:Nat) (h:Hop):Prop :=
  meet (meet (joins [] (wide ((ps.getD k []).getD h.fr []) h.ch)) ((als t (k+1)).getD h.to [])) ((ps.getD (k+1) []).getD h.to [])=meet (joins [] (wide ((ps.getD k []).getD h.fr []) h.ch)) ((als t (k+1)).getD h.to [])
def startHolds (t:Trk) (ps:List (List (List Sp))) (i:Nat):Prop:=meet ((als t 0).getD i []) ((ps.getD 0 []).getD i [])=(als t 0).getD i []
def hold (t:Trk) (ps:List (List (List Sp))):Prop :=
  (∀ i,i < wd t 0→startHolds t ps i)∧(∀ k,k+1 < t.length→∀ h∈stp t k,hopHolds t ps k h)∧some' (ps.getD (t.length - 1) [])=false
theorem holds_spec (t:Trk) (ps:List (List (List Sp))) (hv:valid t) (hl:ps.length=t.length) (hw:∀ k,k < t.length→(ps.getD k []).length=wd t k) (hg:∀ k,k < t.length→goods (ps.getD k [])) :
    Pure Tryz.prog 77 [trS t,.agg [stgS ps]] (bl (tr (hold t ps))):=by
  refine Pure.of_body Tryz.call77 Tryz.func77 k77 (Nat.le_of_ble_eq_true rfl) ?_
  unfold c77
  have h1:=hv.1
  have h2:=hv.2.1
  have gp:∀ k,k < t.length→(ps.map fun l=>[nodS l]).getD k []=[nodS (ps.getD k [])]:=fun k hk=>getD_map (getD_some (by omega))
  have gt':∀ k,k < t.length→(t.map fun l=>[stS l]).getD k []=[stS (t.getD k [])]:=fun k hk=>getD_map (getD_some hk)
  have gp0:=gp 0 (by omega)
  have gt0:=gt' 0 (by omega)
  have hz:Int.toNat 0=0:=rfl
  have hw0:=wd_le hv 0
  have hL0:wd t 0=(t.getD 0 []).length:=rfl
  have hno:¬ hold t ps→tr (hold t ps)=false:=tr_0
  (repeat' ((first
 | refine vn rfl ?_
 | simp (disch:=omega) only [wr64,Int.zero_sub]
 | refine bo (fun _=>?_) fun _=>?_
 | refine im fun _=>?_
 | refine cF ?_
 | refine om ?_
 | refine an ?_
 | fail) <;> try simp only [zT,zV,zS,zU,vcC,lateX,ex,strp,binA,elems,cells,scalar,eqC,keyA,intsA,lookA,ofVs,mpOf,Nat.reduceBEq,reduceAdd,reduceSub,reduceLT,reduceLeDiff,reduceMul,reduceEqDiff,reduceIte,gt0,hz]))
  all_goals try (exfalso; omega)
  refine AWPC.loopE (α:={ x:Nat × Sto // x.1≤wd t 0∧∀ i,i < x.1→startHolds t ps i }) [16] (fun x=>[(16,n x.1.1)]) (fun x=>some [⟨4,1,[[bl false]],none⟩]::x.1.2) (fun x=>wd t 0 - x.1.1) ⟨(0,[]),Nat.zero_le _,fun i hi=>absurd hi (Nat.not_lt_zero _)⟩ ?_ rfl ?_
  · (simp only [zT,zV,zS,zU,vcC,lateX,ex,strp,binA,elems,cells,scalar,eqC,keyA,intsA,lookA,ofVs,mpOf,Nat.reduceBEq,reduceAdd,reduceSub,reduceLT,reduceLeDiff,reduceMul,reduceEqDiff,reduceIte]; try simp)
  rintro ⟨⟨i,μ⟩,hi,hI⟩
  simp only at hi hI
  simp only
  by_cases hlt:i < wd t 0
  · have hx:(t.getD 0 [])[i]?=some ((t.getD 0 []).getD i ⟨[],[]⟩):=getD_some hlt
    have gx:((t.getD 0 []).map Nod.cs).getD i []=Nod.cs ((t.getD 0 []).getD i ⟨[],[]⟩):=getD_map hx
    have gpi:((ps.getD 0 []).map fun l=>[spS l]).getD i []=[spS ((ps.getD 0 []).getD i [])]:=getD_map (getD_some (by rw [hw 0 (by omega)]; exact hlt))
    have hal:(als t 0).getD i []=((t.getD 0 []).getD i ⟨[],[]⟩).al:=getD_map hx
    have hga:=goods_get (als_goods hv 0) i
    have hgp:=goods_get (hg 0 (by omega)) i
    have htw:=twithin_spec _ _ hga hgp
    have hpl:=hw 0 (by omega)
    have hst:startHolds t ps i↔meet ((als t 0).getD i []) ((ps.getD 0 []).getD i [])=(als t 0).getD i []:=Iff.rfl
    rw [hal] at htw hst
    generalize ((t.getD 0 []).getD i ⟨[],[]⟩)=x at *
    (repeat' ((first
 | refine vn rfl ?_
 | simp (disch:=omega) only [wr64,Int.zero_sub]
 | refine bo (fun _=>?_) fun _=>?_
 | refine im fun _=>?_
 | ((repeat refine si ?_); (first | ((first | refine .inl ⟨_,_,_,_,rfl,fun _=>pu htw,?_⟩ | refine ⟨_,_,_,_,rfl,fun _=>pu htw,?_⟩); (first | refine o1 ?_ | refine o2 ?_ | refine o3 ?_ | refine o4 ?_)) | refine .inl ⟨_,_,_,_,rfl,pu htw,?_⟩))
 | refine cF ?_
 | refine om ?_
 | refine an ?_
 | fail) <;> try simp only [zT,zV,zS,zU,vcC,lateX,ex,strp,binA,elems,cells,scalar,eqC,keyA,intsA,lookA,ofVs,mpOf,Nat.reduceBEq,reduceAdd,reduceSub,reduceLT,reduceLeDiff,reduceMul,reduceEqDiff,reduceIte,gt0,hz,gx,gp0,gpi]))
    all_goals try (exfalso; omega)
    · rename_i hc
      rw [hno fun h=>hc (hst.1 (h.1 i hlt))]
      exact Frz.eq rfl (by simp)
    · rename_i hc
      refine ⟨⟨(i+1,μ++[some [⟨80,2,[Nod.cs x],none⟩]]),hlt,fun j hj=>?_⟩,by simp,by simp,by simp only; omega⟩
      simp only at hj
      by_cases hji:j=i
      · subst hji; exact hst.2 hc
      · exact hI j (by omega)
  · obtain rfl:i=wd t 0:=by omega
    (repeat' ((first
 | refine vn rfl ?_
 | simp (disch:=omega) only [wr64,Int.zero_sub]
 | refine bo (fun _=>?_) fun _=>?_
 | refine im fun _=>?_
 | refine cF ?_
 | refine om ?_
 | refine an ?_
 | fail) <;> try simp only [zT,zV,zS,zU,vcC,lateX,ex,strp,binA,elems,cells,scalar,eqC,keyA,intsA,lookA,ofVs,mpOf,Nat.reduceBEq,reduceAdd,reduceSub,reduceLT,reduceLeDiff,reduceMul,reduceEqDiff,reduceIte]))
    all_goals try (exfalso; omega)
    refine AWPC.loopE (α:={ x:Nat × Sto // x.1≤t.length - 1∧∀ k,k < x.1→∀ h∈stp t k,hopHolds t ps k h }) [37] (fun x=>[(37,n x.1.1)]) (fun x=>some [⟨4,1,[[bl false]],none⟩]::x.1.2) (fun x=>t.length - 1 - x.1.1) ⟨(0,μ),Nat.zero_le _,fun i hi=>absurd hi (Nat.not_lt_zero _)⟩ ?_ rfl ?_
    · (simp only [zT,zV,zS,zU,vcC,lateX,ex,strp,binA,elems,cells,scalar,eqC,keyA,intsA,lookA,ofVs,mpOf,Nat.reduceBEq,reduceAdd,reduceSub,reduceLT,reduceLeDiff,reduceMul,reduceEqDiff,reduceIte]; try simp)
    rintro ⟨⟨k,μ⟩,hk,hK⟩
    simp only at hk hK
    simp only
    by_cases hlt:k < t.length - 1
    · have hit:=ahead_iter t k hv (by omega)
      have hok:=fun h (hh:h∈stp t k)=>stp_ok hv hh
      have gpk:=gp k (by omega)
      have gpk1:=gp (k+1) (by omega)
      have gtk1:=gt' (k+1) (by omega)
      have ek:((k:Int)+1).toNat=k+1:=by omega
      have hwk:=hw k (by omega)
      have hwk1:=hw (k+1) (by omega)
      have hgk:=hg k (by omega)
      have hgk1:=hg (k+1) (by omega)
      have hH:=fun (h:hold t ps)=>h.2.1 k (by omega)
      have hal:=als_goods hv (k+1)
      have hall:als t (k+1)=(t.getD (k+1) []).map (·.al):=rfl
      have hww:wd t (k+1)=(t.getD (k+1) []).length:=rfl
      have hopd:∀ h,hopHolds t ps k h↔meet (meet (joins [] (wide ((ps.getD k []).getD h.fr []) h.ch)) ((als t (k+1)).getD h.to [])) ((ps.getD (k+1) []).getD h.to [])=meet (joins [] (wide ((ps.getD k []).getD h.fr []) h.ch)) ((als t (k+1)).getD h.to []):=fun h=>Iff.rfl
      (repeat' ((first
 | refine vn rfl ?_
 | simp (disch:=omega) only [wr64,Int.zero_sub]
 | refine bo (fun _=>?_) fun _=>?_
 | refine im fun _=>?_
 | ((repeat refine si ?_); (first | ((first | refine .inl ⟨_,_,_,_,rfl,fun _=>pu (ahead_steps t _),?_⟩ | refine ⟨_,_,_,_,rfl,fun _=>pu (ahead_steps t _),?_⟩); (first | refine o1 ?_ | refine o2 ?_ | refine o3 ?_ | refine o4 ?_)) | refine .inl ⟨_,_,_,_,rfl,pu (ahead_steps t _),?_⟩))
 | refine cF ?_
 | refine om ?_
 | refine an ?_
 | fail) <;> try simp only [zT,zV,zS,zU,vcC,lateX,ex,strp,binA,elems,cells,scalar,eqC,keyA,intsA,lookA,ofVs,mpOf,Nat.reduceBEq,reduceAdd,reduceSub,reduceLT,reduceLeDiff,reduceMul,reduceEqDiff,reduceIte]))
      all_goals try (exfalso; omega)
      obtain ⟨W,hW⟩:∃ W:Sto,W=some [⟨4,1,[[bl false]],none⟩]::(μ++[some [⟨3,1,[[n (k:Int)]],none⟩]]):=⟨_,rfl⟩
      have hWL:List.length W=List.length μ+2:=by rw [hW]; simp
      have w0:∀ X,Sto.at (W++X) 0 0=some ⟨4,1,[[bl false]],none⟩:=fun X=>by rw [hW]; rfl
      have w7:∀ X,Sto.at (W++X) (List.length μ+1) 0=some ⟨3,1,[[n (k:Int)]],none⟩:=fun X=>by
        rw [hW,List.cons_append,at_consS,List.append_assoc,at_app0]; rfl
      have wU:∀ X,Sto.upd (W++X) 0 0 ⟨4,1,[[bl false]],none⟩=W++X:=fun X=>by rw [hW]; simp [Sto.upd]
      have hWd:=hW
      rw [← hW]
      clear hW
      obtain ⟨M,hM⟩:∃ M,M=List.length W:=⟨_,rfl⟩
      refine AWPC.rng (fun x:{ V:Sto // V=W }=>x.1) M (fun x=>by rw [x.2]; exact hM.symm) (fun i x=>∀ j,j < i→∀ h,(stp t k)[j]?=some h→hopHolds t ps k h) (fun e x=>match e with | .ret=>¬ hold t ps | _=>False) (rdsH (stp t k)) ⟨W,rfl⟩
        rfl rfl (fun j hj=>absurd hj (Nat.not_lt_zero _)) hit (fun i args h=>?_) (fun i x0 args ll ρ τ hi hx=>?_) (fun x τ hx=>?_) (fun e x τ hx=>?_)
      · obtain ⟨h,hh,rfl⟩:=rdsH_inv h; rfl
      · obtain ⟨h,hh,rfl⟩:=rdsH_inv hi
        have hm:=List.mem_of_getElem? hh
        obtain ⟨q1,q2,q3⟩:=hok h hm
        have g1:((ps.getD k []).map fun l=>[spS l]).getD h.fr []=[spS ((ps.getD k []).getD h.fr [])]:=getD_map (getD_some (by omega))
        have g2:((ps.getD (k+1) []).map fun l=>[spS l]).getD h.to []=[spS ((ps.getD (k+1) []).getD h.to [])]:=getD_map (getD_some (by omega))
        have hx':(t.getD (k+1) [])[h.to]?=some ((t.getD (k+1) []).getD h.to ⟨[],[]⟩):=getD_some (by rw [← hww]; exact q2)
        have g3:((t.getD (k+1) []).map Nod.cs).getD h.to []=Nod.cs ((t.getD (k+1) []).getD h.to ⟨[],[]⟩):=getD_map hx'
        have hga:(als t (k+1)).getD h.to []=((t.getD (k+1) []).getD h.to ⟨[],[]⟩).al:=by rw [hall]; exact getD_map hx'
        have hgal:=goods_get hal h.to
        have hcur:=goods_get hgk h.fr
        have hcurl:=good_len hcur
        have hnxt:=goods_get hgk1 h.to
        have hod:=hopd h
        have hHh:=fun hd=>hH hd h hm
        have hmv:=moved_spec _ h.ch hcurl (fun s hs=>⟨(hcur.2 s hs).1,hcur.1.ne s hs,(hcur.2 s hs).2⟩) q3
        obtain ⟨c1,c2,c3⟩:=q3
        rw [hga] at hgal hod
        generalize ((t.getD (k+1) []).getD h.to ⟨[],[]⟩)=x at *
        generalize ((ps.getD k []).getD h.fr [])=cu at *
        generalize ((ps.getD (k+1) []).getD h.to [])=nx at *
        have hwl:=wide_len cu h.ch
        have hgv:=gatherV_spec (wide cu h.ch) (by omega) (fun s hs=>by
            obtain ⟨y,hy,rfl⟩:=List.mem_map.1 hs
            have:=hcur.1.ne y hy
            simp only; omega) (fun s hs=>by
            obtain ⟨y,hy,rfl⟩:=List.mem_map.1 hs
            have:=hcur.2 y hy
            simp only; omega)
        have hjl:(joins [] (wide cu h.ch)).length≤200001:=by have:=joins_len (l:=[]) (b:=wide cu h.ch); simp only [List.length_nil] at this; omega
        have hme:=meet_specN (joins [] (wide cu h.ch)) x.al (joins0_norm _) (by omega) hgal
        have htw:=twithin_spec (meet (joins [] (wide cu h.ch)) x.al) nx (meet_good hgal) hnxt
        obtain ⟨V,hV⟩:=x0
        subst hV
        simp only at hx ⊢
        simp only [Hop.cs,par]
        (repeat' ((first
 | refine vn rfl ?_
 | simp (disch:=omega) only [wr64,Int.zero_sub]
 | refine bo (fun _=>?_) fun _=>?_
 | refine im fun _=>?_
 | refine cF ?_
 | refine om ?_
 | refine an ?_
 | fail) <;> try simp only [zT, zV, zS, zU, vcC, lateX, ex, strp, binA, elems, cells, scalar, eqC, keyA, intsA, lookA, ofVs, mpOf, Nat.reduceBEq, reduceAdd, reduceSub, reduceLT, reduceLeDiff, reduceMul, reduceEqDiff, reduceIte]))
        refine ⟨⟨V,rfl⟩,_,by simp only [List.append_assoc]; rfl,fun ρ'=>?_⟩
        simp only [← hM]
        have b8:∀ (a:Ob) (ν:Sto),Sto.at (V++ρ'::(τ++(some [a]::ν))) (M+(List.length τ+1)) 0=some a:=fun a ν=>by rw [hM,at_app,at_consS,at_app0]; rfl
        have b9:∀ (a:Option (List Ob)) (b:Ob) (ν:Sto),Sto.at (V++ρ'::(τ++(a::some [b]::ν))) (M+(List.length τ+1+1)) 0=some b:=fun a b ν=>by rw [hM,at_app,at_consS,at_app]; rfl
        have b9':∀ (a:Option (List Ob)) (b:Ob) (ν:Sto),Sto.at (V++ρ'::(τ++(a::some [b]::ν))) (M+(List.length τ+2)) 0=some b:=fun a b ν=>b9 a b ν
        (repeat' ((first
 | refine vn rfl ?_
 | simp (disch:=omega) only [wr64,Int.zero_sub]
 | refine bo (fun _=>?_) fun _=>?_
 | refine im fun _=>?_
 | ((repeat refine si ?_); (first | ((first | refine .inl ⟨_,_,_,_,rfl,fun _=>pu (by first | exact hmv | exact values_spec _ | exact hgv | exact hme | exact htw),?_⟩ | refine ⟨_,_,_,_,rfl,fun _=>pu (by first | exact hmv | exact values_spec _ | exact hgv | exact hme | exact htw),?_⟩); (first | refine o1 ?_ | refine o2 ?_ | refine o3 ?_ | refine o4 ?_)) | refine .inl ⟨_,_,_,_,rfl,pu (by first | exact hmv | exact values_spec _ | exact hgv | exact hme | exact htw),?_⟩))
 | refine cF ?_
 | refine om ?_
 | refine an ?_
 | fail) <;> try simp only [zT, zV, zS, zU, vcC, lateX, ex, strp, binA, elems, cells, scalar, eqC, keyA, intsA, lookA, ofVs, mpOf, Nat.reduceBEq, reduceAdd, reduceSub, reduceLT, reduceLeDiff, reduceMul, reduceEqDiff, reduceIte, w0, wU, w7, b8, b9, b9', gpk, gpk1, gtk1, ek, g1, g2, g3]))
        all_goals try (exfalso; omega)
        · rename_i hc
          exact ⟨⟨V,rfl⟩,[],by simp,fun hd=>hc (hod.1 (hHh hd))⟩
        · rename_i hc
          refine ⟨⟨V,rfl⟩,[],by simp,fun j hj h' hh'=>?_⟩
          by_cases hji:j=i
          · subst hji
            rw [hh] at hh'; injection hh' with hh'; subst hh'
            exact hod.2 hc
          · exact hx j (by omega) h' hh'
      · obtain ⟨V,hV⟩:=x
        subst hV
        have hHl:(rdsH (stp t k)).length=(stp t k).length:=by simp [rdsH]
        simp only [hHl] at hx ⊢
        rw [hWd]
        simp only [zT,zV,zS,zU,vcC,lateX,ex,strp,binA,elems,cells,scalar,eqC,keyA,intsA,lookA,ofVs,mpOf,Nat.reduceBEq,reduceAdd,reduceSub,reduceLT,reduceLeDiff,reduceMul,reduceEqDiff,reduceIte]
        (repeat' ((first
 | refine vn rfl ?_
 | simp (disch:=omega) only [wr64,Int.zero_sub]
 | refine bo (fun _=>?_) fun _=>?_
 | refine im fun _=>?_
 | refine cF ?_
 | refine om ?_
 | refine an ?_
 | fail) <;> try simp only [zT, zV, zS, zU, vcC, lateX, ex, strp, binA, elems, cells, scalar, eqC, keyA, intsA, lookA, ofVs, mpOf, Nat.reduceBEq, reduceAdd, reduceSub, reduceLT, reduceLeDiff, reduceMul, reduceEqDiff, reduceIte]))
        refine ⟨⟨(k+1,μ++(some [⟨3,1,[[n (k:Int)]],none⟩]::τ)),by simp only; omega,fun k' hk' h hh=>?_⟩,by simp,by simp,by simp only; omega⟩
        simp only at hk'
        by_cases hkk:k'=k
        · subst hkk
          obtain ⟨j,hj⟩:=List.mem_iff_getElem?.1 hh
          exact hx j (List.getElem?_eq_some_iff.1 hj).1 h hj
        · exact hK k' (by omega) h hh
      · obtain ⟨V,hV⟩:=x
        subst hV
        cases e with
        | ret =>
          simp only at hx
          simp only [Jmp.e]
          rw [hWd]
          simp only [zT,zV,zS,zU,vcC,lateX,ex,strp,binA,elems,cells,scalar,eqC,keyA,intsA,lookA,ofVs,mpOf,Nat.reduceBEq,reduceAdd,reduceSub,reduceLT,reduceLeDiff,reduceMul,reduceEqDiff,reduceIte]
          (repeat' ((first
 | refine vn rfl ?_
 | simp (disch:=omega) only [wr64,Int.zero_sub]
 | refine bo (fun _=>?_) fun _=>?_
 | refine im fun _=>?_
 | refine cF ?_
 | refine om ?_
 | refine an ?_
 | fail) <;> try simp only [zT, zV, zS, zU, vcC, lateX, ex, strp, binA, elems, cells, scalar, eqC, keyA, intsA, lookA, ofVs, mpOf, Nat.reduceBEq, reduceAdd, reduceSub, reduceLT, reduceLeDiff, reduceMul, reduceEqDiff, reduceIte]))
          rw [hno hx]
          exact Frz.eq rfl (by simp)
        | exit i=>exact hx.elim
    · obtain rfl:k=t.length - 1:=by omega
      have gpl:=gp (t.length - 1) (by omega)
      have ei:((t.length:Int) - 1).toNat=t.length - 1:=by omega
      have hso:=some_spec (ps.getD (t.length - 1) []) (by rw [hw _ (by omega)]; have:=wd_le hv (t.length - 1); omega) (fun x hx=>by have:=good_len (hg _ (by omega) x hx); omega)
      (repeat' ((first
 | refine vn rfl ?_
 | simp (disch:=omega) only [wr64,Int.zero_sub]
 | refine bo (fun _=>?_) fun _=>?_
 | refine im fun _=>?_
 | ((repeat refine si ?_); (first | ((first | refine .inl ⟨_,_,_,_,rfl,fun _=>pu hso,?_⟩ | refine ⟨_,_,_,_,rfl,fun _=>pu hso,?_⟩); (first | refine o1 ?_ | refine o2 ?_ | refine o3 ?_ | refine o4 ?_)) | refine .inl ⟨_,_,_,_,rfl,pu hso,?_⟩))
 | refine cF ?_
 | refine om ?_
 | refine an ?_
 | fail) <;> try simp only [zT,zV,zS,zU,vcC,lateX,ex,strp,binA,elems,cells,scalar,eqC,keyA,intsA,lookA,ofVs,mpOf,Nat.reduceBEq,reduceAdd,reduceSub,reduceLT,reduceLeDiff,reduceMul,reduceEqDiff,reduceIte,gpl,ei,hl]))
      all_goals try (exfalso; omega)
      refine Frz.eq (congrArg bl ?_) (by simp)
      rw [Bool.eq_iff_iff,tr_iff]
      constructor
      · intro h; exact ⟨hI,fun k hk h' hh=>hK k (by omega) h' hh,by simpa using h⟩
      · intro h; simpa using h.2.2
theorem notSet_spec (l:List Sp) (hl:l.length < 9223372036854775808):Pure Tryz.prog 75 [spS l] (bl (tr (¬ good l))):=by
  refine Pure.of_body Tryz.call75 Tryz.func75 k75 (Nat.le_of_ble_eq_true rfl) ?_
  unfold c75
  (repeat' ((first
 | refine vn rfl ?_
 | simp (disch:=omega) only [wr64,Int.zero_sub]
 | refine bo (fun _=>?_) fun _=>?_
 | refine im fun _=>?_
 | ((repeat refine si ?_); (first | ((first | refine .inl ⟨_,_,_,_,rfl,fun _=>pu (isSet_spec l hl),?_⟩ | refine ⟨_,_,_,_,rfl,fun _=>pu (isSet_spec l hl),?_⟩); (first | refine o1 ?_ | refine o2 ?_ | refine o3 ?_ | refine o4 ?_)) | refine .inl ⟨_,_,_,_,rfl,pu (isSet_spec l hl),?_⟩))
 | refine cF ?_
 | refine om ?_
 | refine an ?_
 | fail) <;> try simp only [zT,zV,zS,zU,vcC,lateX,ex,strp,binA,elems,cells,scalar,eqC,keyA,intsA,lookA,ofVs,mpOf,Nat.reduceBEq,reduceAdd,reduceSub,reduceLT,reduceLeDiff,reduceMul,reduceEqDiff,reduceIte]))
  all_goals refine Frz.eq (congrArg bl ?_) (by simp)
  all_goals simp
def setsOk (t:Trk) (ps:List (List (List Sp))):Prop:=ps.length=t.length∧∀ k,k < t.length→(ps.getD k []).length=wd t k∧goods (ps.getD k [])
def proofOk (t:Trk) (ps:List (List (List Sp))):Prop:=setsOk t ps∧hold t ps
def setsSz (ps:List (List (List Sp))):Prop:=ps.length < 9223372036854775808∧∀ x∈ps,x.length < 9223372036854775808∧∀ l∈x,l.length < 9223372036854775808
theorem CheckProof_spec (t:Trk) (ps:List (List (List Sp))) (hs:trkSz t) (hp:setsSz ps):Pure Tryz.prog 22 [trS t,.agg [stgS ps]] (n (if tr (valid t)=true then (if tr (proofOk t ps)=true then 0 else 43) else 40)):=by
  refine Pure.of_body Tryz.call22 Tryz.func22 k22 (Nat.le_of_ble_eq_true rfl) ?_
  unfold c22
  have hc:=Check_spec t hs
  have hpl:=hp.1
  by_cases hv:valid t
  · rw [tr_1 hv] at hc ⊢
    simp only [if_true] at hc ⊢
    have h2:=hv.2.1
    have hno:¬ proofOk t ps→tr (proofOk t ps)=false:=tr_0
    by_cases hlen:ps.length=t.length
    · (repeat' ((first
 | refine vn rfl ?_
 | simp (disch:=omega) only [wr64,Int.zero_sub]
 | refine bo (fun _=>?_) fun _=>?_
 | refine im fun _=>?_
 | ((repeat refine si ?_); (first | ((first | refine .inl ⟨_,_,_,_,rfl,fun _=>pu hc,?_⟩ | refine ⟨_,_,_,_,rfl,fun _=>pu hc,?_⟩); (first | refine o1 ?_ | refine o2 ?_ | refine o3 ?_ | refine o4 ?_)) | refine .inl ⟨_,_,_,_,rfl,pu hc,?_⟩))
 | refine cF ?_
 | refine om ?_
 | refine an ?_
 | fail) <;> try simp only [zT,zV,zS,zU,vcC,lateX,ex,strp,binA,elems,cells,scalar,eqC,keyA,intsA,lookA,ofVs,mpOf,Nat.reduceBEq,reduceAdd,reduceSub,reduceLT,reduceLeDiff,reduceMul,reduceEqDiff,reduceIte]))
      all_goals try (exfalso; omega)
      refine AWPC.loopS (α:={ k:Nat // k≤ps.length∧∀ j,j < k→(ps.getD j []).length=wd t j∧goods (ps.getD j []) }) [23] (fun k=>[(23,n k.1)]) (fun k=>ps.length - k.1) ⟨0,Nat.zero_le _,fun j hj=>absurd hj (Nat.not_lt_zero _)⟩ ?_ ?_
      · (simp only [zT,zV,zS,zU,vcC,lateX,ex,strp,binA,elems,cells,scalar,eqC,keyA,intsA,lookA,ofVs,mpOf,Nat.reduceBEq,reduceAdd,reduceSub,reduceLT,reduceLeDiff,reduceMul,reduceEqDiff,reduceIte]; try simp)
      rintro ⟨k,hk,hI⟩
      by_cases hlt:k < ps.length
      · have gk:(ps.map fun l=>[nodS l]).getD k []=[nodS (ps.getD k [])]:=getD_map (getD_some hlt)
        have gtk:(t.map fun l=>[stS l]).getD k []=[stS (t.getD k [])]:=getD_map (getD_some (by omega))
        have hsz:=hp.2 _ (List.mem_of_getElem? (getD_some (d:=[]) hlt))
        have hco:=containsSet_spec 75 [] (by simp) (fun l=>tr (¬ good l)) (ps.getD k []) hsz.1 (fun x hx=>notSet_spec x (hsz.2 x hx))
        rw [any_not] at hco
        have hww:wd t k=(t.getD k []).length:=rfl
        have hszl:=hsz.1
        have hwk:=wd_le hv k
        have hfin:proofOk t ps→(ps.getD k []).length=wd t k∧goods (ps.getD k []):=fun h=>h.1.2 k (by omega)
        have hgd:goods (ps.getD k [])↔∀ x∈ps.getD k [],good x:=Iff.rfl
        have hdo:=fun j (h:j < k)=>hI j h
        generalize hPS:ps.getD k []=q at *
        by_cases hwl:q.length=wd t k
        · (repeat' ((first
 | refine vn rfl ?_
 | simp (disch:=omega) only [wr64,Int.zero_sub]
 | refine bo (fun _=>?_) fun _=>?_
 | refine im fun _=>?_
 | ((repeat refine si ?_); (first | ((first | refine .inl ⟨_,_,_,_,rfl,fun _=>pu hco,?_⟩ | refine ⟨_,_,_,_,rfl,fun _=>pu hco,?_⟩); (first | refine o1 ?_ | refine o2 ?_ | refine o3 ?_ | refine o4 ?_)) | refine .inl ⟨_,_,_,_,rfl,pu hco,?_⟩))
 | refine cF ?_
 | refine om ?_
 | refine an ?_
 | fail) <;> try simp only [zT, zV, zS, zU, vcC, lateX, ex, strp, binA, elems, cells, scalar, eqC, keyA, intsA, lookA, ofVs, mpOf, Nat.reduceBEq, reduceAdd, reduceSub, reduceLT, reduceLeDiff, reduceMul, reduceEqDiff, reduceIte, gk, gtk]))
          all_goals try (exfalso; omega)
          · rename_i hcc
            rw [hno fun h=>hcc.elim (fun e=>by have:=(hfin h).1; omega) (fun e=>e (hfin h).2)]
            exact Frz.eq rfl (by simp)
          · rename_i hcc
            refine ⟨⟨k+1,hlt,fun j hj=>?_⟩,by simp,by simp only; omega⟩
            by_cases hjk:j=k
            · subst hjk; rw [hPS]
              refine ⟨hwl,?_⟩
              simp only [not_or,Classical.not_not] at hcc
              exact hcc.2
            · exact hI j (by omega)
        · (repeat' ((first
 | refine vn rfl ?_
 | simp (disch:=omega) only [wr64,Int.zero_sub]
 | refine bo (fun _=>?_) fun _=>?_
 | refine im fun _=>?_
 | ((repeat refine si ?_); (first | ((first | refine .inl ⟨_,_,_,_,rfl,fun _=>pu hco,?_⟩ | refine ⟨_,_,_,_,rfl,fun _=>pu hco,?_⟩); (first | refine o1 ?_ | refine o2 ?_ | refine o3 ?_ | refine o4 ?_)) | refine .inl ⟨_,_,_,_,rfl,pu hco,?_⟩))
 | refine cF ?_
 | refine om ?_
 | refine an ?_
 | fail) <;> try simp only [zT, zV, zS, zU, vcC, lateX, ex, strp, binA, elems, cells, scalar, eqC, keyA, intsA, lookA, ofVs, mpOf, Nat.reduceBEq, reduceAdd, reduceSub, reduceLT, reduceLeDiff, reduceMul, reduceEqDiff, reduceIte, gk, gtk]))
          all_goals try (exfalso; omega)
          all_goals (rw [hno fun h=>hwl (hfin h).1]; exact Frz.eq rfl (by simp))
      · obtain rfl:k=ps.length:=by omega
        have hho:=holds_spec t ps hv hlen (fun j hj=>(hI j (by omega)).1) (fun j hj=>(hI j (by omega)).2)
        have hpo:proofOk t ps↔hold t ps:=⟨fun h=>h.2,fun h=>⟨⟨hlen,fun j hj=>hI j (by omega)⟩,h⟩⟩
        (repeat' ((first
 | refine vn rfl ?_
 | simp (disch:=omega) only [wr64,Int.zero_sub]
 | refine bo (fun _=>?_) fun _=>?_
 | refine im fun _=>?_
 | ((repeat refine si ?_); (first | ((first | refine .inl ⟨_,_,_,_,rfl,fun _=>pu hho,?_⟩ | refine ⟨_,_,_,_,rfl,fun _=>pu hho,?_⟩); (first | refine o1 ?_ | refine o2 ?_ | refine o3 ?_ | refine o4 ?_)) | refine .inl ⟨_,_,_,_,rfl,pu hho,?_⟩))
 | refine cF ?_
 | refine om ?_
 | refine an ?_
 | fail) <;> try simp only [zT, zV, zS, zU, vcC, lateX, ex, strp, binA, elems, cells, scalar, eqC, keyA, intsA, lookA, ofVs, mpOf, Nat.reduceBEq, reduceAdd, reduceSub, reduceLT, reduceLeDiff, reduceMul, reduceEqDiff, reduceIte]))
        all_goals try (exfalso; omega)
        · rename_i hcc
          rw [hno fun h=>hcc (hpo.1 h)]
          exact Frz.eq rfl (by simp)
        · rename_i hcc
          rw [tr_1 (hpo.2 (by simpa using hcc))]
          exact Frz.eq rfl (by simp)
    · rw [hno fun h=>hlen h.1.1]
      (repeat' ((first
 | refine vn rfl ?_
 | simp (disch:=omega) only [wr64,Int.zero_sub]
 | refine bo (fun _=>?_) fun _=>?_
 | refine im fun _=>?_
 | ((repeat refine si ?_); (first | ((first | refine .inl ⟨_,_,_,_,rfl,fun _=>pu hc,?_⟩ | refine ⟨_,_,_,_,rfl,fun _=>pu hc,?_⟩); (first | refine o1 ?_ | refine o2 ?_ | refine o3 ?_ | refine o4 ?_)) | refine .inl ⟨_,_,_,_,rfl,pu hc,?_⟩))
 | refine cF ?_
 | refine om ?_
 | refine an ?_
 | fail) <;> try simp only [zT,zV,zS,zU,vcC,lateX,ex,strp,binA,elems,cells,scalar,eqC,keyA,intsA,lookA,ofVs,mpOf,Nat.reduceBEq,reduceAdd,reduceSub,reduceLT,reduceLeDiff,reduceMul,reduceEqDiff,reduceIte]))
      all_goals try (exfalso; omega)
      all_goals exact Frz.eq rfl (by simp)
  · rw [tr_0 hv] at hc ⊢
    simp only [Bool.false_eq_true,if_false] at hc ⊢
    (repeat' ((first
 | refine vn rfl ?_
 | simp (disch:=omega) only [wr64,Int.zero_sub]
 | refine bo (fun _=>?_) fun _=>?_
 | refine im fun _=>?_
 | ((repeat refine si ?_); (first | ((first | refine .inl ⟨_,_,_,_,rfl,fun _=>pu hc,?_⟩ | refine ⟨_,_,_,_,rfl,fun _=>pu hc,?_⟩); (first | refine o1 ?_ | refine o2 ?_ | refine o3 ?_ | refine o4 ?_)) | refine .inl ⟨_,_,_,_,rfl,pu hc,?_⟩))
 | refine cF ?_
 | refine om ?_
 | refine an ?_
 | fail) <;> try simp only [zT,zV,zS,zU,vcC,lateX,ex,strp,binA,elems,cells,scalar,eqC,keyA,intsA,lookA,ofVs,mpOf,Nat.reduceBEq,reduceAdd,reduceSub,reduceLT,reduceLeDiff,reduceMul,reduceEqDiff,reduceIte]))
    all_goals try (exfalso; omega)
    all_goals exact Frz.eq rfl (by simp)
def c96:CF:=⟨1,
 (.seq (.ops [
 ⟨some 0,.mv (.c (.bool false)),none⟩] [])
 (.seq (.ops [
 ⟨some 0,.mv (.c (.bool true)),none⟩] [0])
 .ret)),
 [.t 0]⟩
def c40:CF:=⟨56,
 (.seq (.ops [
 ⟨some 2,.box false 24 1 (.t 0),none⟩,
 ⟨some 4,.mv (.c (.slice none 0 0)),none⟩,
 ⟨some 5,.mv (.c (.int .i64 0)),none⟩] [1,2])
 (.seq (.seq (.ops [
 ⟨some 12,.load (some 1) (.t 2),none⟩,
 ⟨some 13,.call (.f 90) [(.t 12),(.f 96)],none⟩,
 ⟨some 6,.mv (.t 13),none⟩] [1,2,6])
 (.seq (.ops [
 ⟨some 14,.mv (.t 6),none⟩,
 ⟨some 15,.bin .neq (.t 14) (.c (.int .i64 0)),none⟩] [1,2,6,15])
 (.cond (.t 15) (.seq (.ops [
 ⟨some 16,.mv (.t 6),none⟩,
 ⟨some 4,.mv (.c (.slice none 0 0)),none⟩,
 ⟨some 5,.mv (.t 16),none⟩] [4,5])
 .ret)
 .skip)))
 (.seq (.ops [
 ⟨some 7,.mv (.c (.slice none 0 0)),none⟩] [1,2,7])
 (.seq (.seq (.ops [
 ⟨some 17,.faddr 0 (.t 2),none⟩,
 ⟨some 18,.load none (.t 17),none⟩,
 ⟨some 19,.iaddr 1 (.t 18) (.c (.int .i64 0)),none⟩,
 ⟨some 20,.load none (.t 19),none⟩,
 ⟨some 21,.len (.t 20),none⟩,
 ⟨some 22,.mv (.c (.int .i64 0)),none⟩] [1,2,7,20,21,22])
 (.block 0 (.loop (.seq (.ops [
 ⟨some 23,.bin .lss (.t 22) (.t 21),none⟩] [1,2,7,20,21,22,23])
 (.seq (.cond (.t 23) .skip
 (.exit 0))
 (.seq (.block 1 (.seq (.ops [
 ⟨some 24,.iaddr 2 (.t 20) (.t 22),none⟩,
 ⟨some 25,.load (some 2) (.t 24),none⟩,
 ⟨some 9,.alloc 80 2 [.slice none 0 0,.slice none 0 0],none⟩,
 ⟨none,.store 2 (.t 9) (.t 25),none⟩] [1,2,7,9,20,21,22])
 (.ops [
 ⟨some 26,.mv (.t 7),none⟩,
 ⟨some 27,.faddr 0 (.t 9),none⟩,
 ⟨some 28,.load none (.t 27),none⟩,
 ⟨some 29,.mv (.t 1),none⟩,
 ⟨some 30,.mv (.t 1),none⟩,
 ⟨some 31,.build [.int .i64 0,.int .i64 0] [(0,1,(.t 29)),(1,1,(.t 30))],none⟩,
 ⟨some 32,.bsl false 30 2 1 [.int .i64 0,.int .i64 0] [(0,2,(.t 31))],none⟩,
 ⟨some 33,.call (.f 81) [(.t 28),(.t 32)],none⟩,
 ⟨some 34,.bsl false 45 1 1 [.slice none 0 0] [(0,1,(.t 33))],none⟩,
 ⟨some 35,.app 45 1 24 (.t 26) (.t 34),none⟩,
 ⟨some 7,.mv (.t 35),none⟩] [1,2,7,20,21,22])))
 (.ops [
 ⟨some 36,.bin .add (.t 22) (.c (.int .i64 1)),none⟩,
 ⟨some 22,.mv (.t 36),none⟩] [1,2,7,20,21,22])))))))
 (.seq (.draww [0,1,2,3,5,6,7,8,4,9,10,11] [4,5,6,7] 1 [
 ⟨some 37,.load (some 1) (.t 2),none⟩,
 ⟨some 38,.build [.slice none 0 0] [(0,1,(.t 37))],none⟩,
 ⟨some 39,.ifc 109 (.t 38),none⟩,
 ⟨some 40,.mv (.t 7),none⟩,
 ⟨some 42,.faddr 0 (.t 2),none⟩,
 ⟨some 43,.load none (.t 42),none⟩,
 ⟨some 44,.len (.t 43),none⟩,
 ⟨some 45,.bin .sub (.t 44) (.c (.int .i64 1)),none⟩] [
 ⟨some 41,.call (.f 97) [(.t 39),(.t 40)],none⟩,
 ⟨some 46,.iaddr 1 (.t 41) (.t 45),none⟩,
 ⟨some 47,.load none (.t 46),none⟩,
 ⟨some 10,.mv (.t 47),none⟩] [10])
 (.seq (.ops [
 ⟨some 48,.mv (.t 10),none⟩,
 ⟨some 49,.call (.f 94) [(.t 48)],none⟩,
 ⟨some 50,.call (.f 93) [(.t 49)],none⟩,
 ⟨some 51,.call (.f 79) [(.t 50)],none⟩,
 ⟨some 11,.mv (.t 51),none⟩] [11])
 (.seq (.seq (.ops [
 ⟨some 52,.mv (.t 11),none⟩,
 ⟨some 53,.len (.t 52),none⟩,
 ⟨some 54,.bin .eql (.t 53) (.c (.int .i64 0)),none⟩] [11,54])
 (.cond (.t 54) (.seq (.ops [
 ⟨some 4,.mv (.c (.slice none 0 0)),none⟩,
 ⟨some 5,.mv (.c (.int .i64 3)),none⟩] [4,5])
 .ret)
 .skip))
 (.seq (.ops [
 ⟨some 55,.mv (.t 11),none⟩,
 ⟨some 4,.mv (.t 55),none⟩,
 ⟨some 5,.mv (.c (.int .i64 0)),none⟩] [4,5])
 .ret)))))))),
 [.t 4,.t 5]⟩
theorem k96:chkF Tryz.prog Tryz.f96 c96=true:=by kernel_rfl
theorem k40:chkF Tryz.prog Tryz.f40 c40=true:=by kernel_rfl
theorem true96:Pure Tryz.prog 96 [] (bl true):=by
  refine Pure.of_body Tryz.call96 Tryz.func96 k96 (Nat.le_of_ble_eq_true rfl) ?_
  unfold c96
  (repeat' ((first
 | refine vn rfl ?_
 | simp (disch:=omega) only [wr64,Int.zero_sub]
 | refine bo (fun _=>?_) fun _=>?_
 | refine im fun _=>?_
 | refine cF ?_
 | refine om ?_
 | refine an ?_
 | fail) <;> try simp only [zT,zV,zS,zU,vcC,lateX,ex,strp,binA,elems,cells,scalar,eqC,keyA,intsA,lookA,ofVs,mpOf,Nat.reduceBEq,reduceAdd,reduceSub,reduceLT,reduceLeDiff,reduceMul,reduceEqDiff,reduceIte]))
  all_goals exact Frz.eq rfl (by simp)
def begF (t:Trk) (v:Int):List (List Sp):=(als t 0).map fun l=>meet l [⟨v,v⟩]
def endsL (t:Trk) (v:Int):List Sp:=unis (lev (als t) (stp t) (begF t v) (t.length - 1))
noncomputable def endsE (t:Trk) (v:Int):Int:=if askE t true=0 then (if endsL t v=[] then 3 else 0) else askE t true
theorem begF_goods {t:Trk} (hv:valid t) (v:Int):goods (begF t v):=fun x hx=>by
  obtain ⟨l,hl,rfl⟩:=List.mem_map.1 hx
  exact meet_goodL (als_goods hv 0 l hl)
theorem Ends_spec (t:Trk) (v:Int) (hs:trkSz t):Pure Tryz.prog 40 [trS t,n v] (.tup [spS (if askE t true=0 then endsL t v else []),n (endsE t v)]):=by
  refine Pure.of_body Tryz.call40 Tryz.func40 k40 (Nat.le_of_ble_eq_true rfl) ?_
  unfold c40 endsE
  have ha:=asked_spec t hs 96 [] (by simp) true (fun _=>true96)
  by_cases h0:askE t true=0
  · rw [if_pos h0,if_pos h0]
    obtain ⟨hv,_,hf⟩:=askE0.1 h0
    rw [h0] at ha
    have h1:=hv.1
    have h2:=hv.2.1
    have g0:(t.map fun l=>[stS l]).getD 0 []=[stS (t.getD 0 [])]:=getD_map (getD_some (by omega))
    have hz:Int.toNat 0=0:=rfl
    have hst:=valid_stg hv (k:=0) (by omega)
    have hbg:=begF_goods hv v
    have hbe:begF t v=(t.getD 0 []).map fun x=>meet x.al [⟨v,v⟩]:=by unfold begF als; rw [List.map_map]; rfl
    have hbl:(begF t v).length=(t.getD 0 []).length:=by rw [hbe]; simp
    have hne:begF t v≠[]:=fun e=>by have h3:=hst.1; have h4:=hbl; rw [e] at h4; simp only [List.length_nil] at h4; omega
    have hd:=fun σ=>reached_does σ (aheadP t hv) false (begF t v) (nodS (begF t v)) ⟨rfl,hne⟩ hbg hbl
    have hen:endsL t v=unis (lev (als t) (stp t) (begF t v) (t.length - 1)):=rfl
    obtain ⟨l1,l2,l3⟩:=hst
    generalize begF t v=F0 at *
    generalize hL:t.getD 0 []=L at *
    (repeat' ((first
 | refine vn rfl ?_
 | simp (disch:=omega) only [wr64,Int.zero_sub]
 | refine bo (fun _=>?_) fun _=>?_
 | refine im fun _=>?_
 | ((repeat refine si ?_); (first | ((first | refine .inl ⟨_,_,_,_,rfl,fun _=>pu ha,?_⟩ | refine ⟨_,_,_,_,rfl,fun _=>pu ha,?_⟩); (first | refine o1 ?_ | refine o2 ?_ | refine o3 ?_ | refine o4 ?_)) | refine .inl ⟨_,_,_,_,rfl,pu ha,?_⟩))
 | refine cF ?_
 | refine om ?_
 | refine an ?_
 | fail) <;> try simp only [zT,zV,zS,zU,vcC,lateX,ex,strp,binA,elems,cells,scalar,eqC,keyA,intsA,lookA,ofVs,mpOf,Nat.reduceBEq,reduceAdd,reduceSub,reduceLT,reduceLeDiff,reduceMul,reduceEqDiff,reduceIte,g0,hz]))
    all_goals try (exfalso; omega)
    refine AWPC.own0 45 1 7 rfl ?_
    refine AWPC.loopE (α:={ x:Nat × Sto // x.1≤L.length }) [7,22] (fun x=>[(7,.own 0 0 x.1.1),(22,n x.1.1)]) (fun x=>some [⟨45,1,((L.take x.1.1).map fun x=>[spS (meet x.al [⟨v,v⟩])]),none⟩]::x.1.2) (fun x=>L.length - x.1.1) ⟨(0,[]),Nat.zero_le _⟩ ?_ rfl ?_
    · (simp only [zT,zV,zS,zU,vcC,lateX,ex,strp,binA,elems,cells,scalar,eqC,keyA,intsA,lookA,ofVs,mpOf,Nat.reduceBEq,reduceAdd,reduceSub,reduceLT,reduceLeDiff,reduceMul,reduceEqDiff,reduceIte]; try simp)
    rintro ⟨⟨k,μ⟩,hk⟩
    simp only at hk
    simp only
    have htl:(L.take k).length=k:=by rw [List.length_take]; omega
    by_cases hlt:k < L.length
    · obtain ⟨x,hx⟩:∃ x,L[k]?=some x:=⟨_,List.getElem?_eq_getElem hlt⟩
      have hxg:=(l3 x (List.mem_of_getElem? hx)).1
      have hme:=meet_specM x.al [⟨v,v⟩] hxg.2.1 (norm1 _ _ (Int.le_refl _)) (by have:=hxg.1; omega) (by simp) (by rw [List.length_singleton,Nat.mul_one]; have:=hxg.1; omega)
      (repeat' ((first
 | refine vn rfl ?_
 | simp (disch:=omega) only [wr64,Int.zero_sub]
 | refine bo (fun _=>?_) fun _=>?_
 | refine im fun _=>?_
 | ((repeat refine si ?_); (first | ((first | refine .inl ⟨_,_,_,_,rfl,fun _=>pu hme,?_⟩ | refine ⟨_,_,_,_,rfl,fun _=>pu hme,?_⟩); (first | refine o1 ?_ | refine o2 ?_ | refine o3 ?_ | refine o4 ?_)) | refine .inl ⟨_,_,_,_,rfl,pu hme,?_⟩))
 | refine cF ?_
 | refine om ?_
 | refine an ?_
 | fail) <;> try simp only [zT,zV,zS,zU,vcC,lateX,ex,strp,binA,elems,cells,scalar,eqC,keyA,intsA,lookA,ofVs,mpOf,Nat.reduceBEq,reduceAdd,reduceSub,reduceLT,reduceLeDiff,reduceMul,reduceEqDiff,reduceIte,getD_map hx,htl,List.cons_append]))
      all_goals try (exfalso; omega)
      exact ⟨⟨(k+1,μ++[some [⟨80,2,[Nod.cs x],none⟩]]),hlt⟩,by simp,by rw [take_snoc hx]; simp,by simp only; omega⟩
    · obtain rfl:k=L.length:=by omega
      rw [List.take_length]
      ((first
 | refine vn rfl ?_
 | simp (disch:=omega) only [wr64,Int.zero_sub]
 | refine bo (fun _=>?_) fun _=>?_
 | refine im fun _=>?_
 | refine cF ?_
 | refine om ?_
 | refine an ?_
 | fail) <;> try simp only [zT,zV,zS,zU,vcC,lateX,ex,strp,binA,elems,cells,scalar,eqC,keyA,intsA,lookA,ofVs,mpOf,Nat.reduceBEq,reduceAdd,reduceSub,reduceLT,reduceLeDiff,reduceMul,reduceEqDiff,reduceIte])
      ((first
 | refine vn rfl ?_
 | simp (disch:=omega) only [wr64,Int.zero_sub]
 | refine bo (fun _=>?_) fun _=>?_
 | refine im fun _=>?_
 | refine cF ?_
 | refine om ?_
 | refine an ?_
 | fail) <;> try simp only [zT,zV,zS,zU,vcC,lateX,ex,strp,binA,elems,cells,scalar,eqC,keyA,intsA,lookA,ofVs,mpOf,Nat.reduceBEq,reduceAdd,reduceSub,reduceLT,reduceLeDiff,reduceMul,reduceEqDiff,reduceIte])
      ((first
 | refine vn rfl ?_
 | simp (disch:=omega) only [wr64,Int.zero_sub]
 | refine bo (fun _=>?_) fun _=>?_
 | refine im fun _=>?_
 | refine cF ?_
 | refine om ?_
 | refine an ?_
 | fail) <;> try simp only [zT,zV,zS,zU,vcC,lateX,ex,strp,binA,elems,cells,scalar,eqC,keyA,intsA,lookA,ofVs,mpOf,Nat.reduceBEq,reduceAdd,reduceSub,reduceLT,reduceLeDiff,reduceMul,reduceEqDiff,reduceIte])
      refine AWPC.freeze1 (t:=7) (n:=L.length) rfl rfl (by simp) (show (1:Nat)≠0 by decide) ?_
      have hF:(L.map fun x=>[spS (meet x.al [⟨v,v⟩])])=F0.map fun l=>[spS l]:=by rw [hbe,List.map_map]; rfl
      generalize hGS:gone _ 0=σ3
      simp only [hF]
      (repeat' ((first
 | refine vn rfl ?_
 | simp (disch:=omega) only [wr64,Int.zero_sub]
 | refine bo (fun _=>?_) fun _=>?_
 | refine im fun _=>?_
 | refine cF ?_
 | refine om ?_
 | refine an ?_
 | fail) <;> try simp only [zT,zV,zS,zU,vcC,lateX,ex,strp,binA,elems,cells,scalar,eqC,keyA,intsA,lookA,ofVs,mpOf,Nat.reduceBEq,reduceAdd,reduceSub,reduceLT,reduceLeDiff,reduceMul,reduceEqDiff,reduceIte]))
      refine .inr ⟨_,_,_,_,rfl,hd σ3,?_⟩
      rintro res σ4 ⟨ν,A,B,cl,g,hν,rfl,hA,hL4⟩
      have e1:t.length - 1+1=t.length:=by omega
      have hat:=hL4.a
      rw [e1] at hat
      have gcl:((List.range t.length).map fun i=>[cl i]).getD (t.length - 1) []=[cl (t.length - 1)]:=range_get _ (by omega)
      have ei:((t.length:Int) - 1).toNat=t.length - 1:=by omega
      have hgl:goods (lev (als t) (stp t) F0 (t.length - 1)):=lev_goods hbg (als_goods hv) _
      have hll:(lev (als t) (stp t) F0 (t.length - 1)).length=wd t (t.length - 1):=by rw [lev_len (by rw [hbl,als_len,wd,hL]),als_len]
      have hww:=wd_le hv (t.length - 1)
      have hrow:RowAt σ4 (cl (t.length - 1)) (lev (als t) (stp t) F0 (t.length - 1)):=hL4.row (t.length - 1) (Nat.le_refl _)
      obtain ⟨q1,q2,q3⟩:=goods_bd hgl
      generalize hX:lev (als t) (stp t) F0 (t.length - 1)=X at *
      have hco:=concat_spec X (by omega) (by omega)
      have hga:=gatherV_spec X.flatten (by omega) q1 q2
      have hun:joins [] X.flatten=endsL t v:=by rw [hen]; rfl
      rw [hun] at hga
      rcases hrow with hcl | ⟨f,hcl,hfo⟩
      · rw [hcl] at gcl
        simp only [zT,zV,zS,zU,vcC,lateX,ex,strp,binA,elems,cells,scalar,eqC,keyA,intsA,lookA,ofVs,mpOf,Nat.reduceBEq,reduceAdd,reduceSub,reduceLT,reduceLeDiff,reduceMul,reduceEqDiff,reduceIte,hat,gcl,ei,List.length_range]
        (repeat' ((first
 | refine vn rfl ?_
 | simp (disch:=omega) only [wr64,Int.zero_sub]
 | refine bo (fun _=>?_) fun _=>?_
 | refine im fun _=>?_
 | ((repeat refine si ?_); (first | ((first | refine .inl ⟨_,_,_,_,rfl,fun _=>pu (by first | exact hco | exact values_spec _ | exact hga),?_⟩ | refine ⟨_,_,_,_,rfl,fun _=>pu (by first | exact hco | exact values_spec _ | exact hga),?_⟩); (first | refine o1 ?_ | refine o2 ?_ | refine o3 ?_ | refine o4 ?_)) | refine .inl ⟨_,_,_,_,rfl,pu (by first | exact hco | exact values_spec _ | exact hga),?_⟩))
 | refine cF ?_
 | refine om ?_
 | refine an ?_
 | fail) <;> try simp only [zT, zV, zS, zU, vcC, lateX, ex, strp, binA, elems, cells, scalar, eqC, keyA, intsA, lookA, ofVs, mpOf, Nat.reduceBEq, reduceAdd, reduceSub, reduceLT, reduceLeDiff, reduceMul, reduceEqDiff, reduceIte]))
        · rename_i hc
          have he:endsL t v=[]:=List.length_eq_zero_iff.1 (by omega)
          rw [he]
          exact frz2 frz_nil (by simp)
        · rename_i hc
          rw [if_neg fun e=>hc (by rw [e]; rfl)]
          exact Frz.eq rfl (by simp)
      · rw [hcl] at gcl
        simp only [zT,zV,zS,zU,vcC,lateX,ex,strp,binA,elems,cells,scalar,eqC,keyA,intsA,lookA,ofVs,mpOf,Nat.reduceBEq,reduceAdd,reduceSub,reduceLT,reduceLeDiff,reduceMul,reduceEqDiff,reduceIte,hat,gcl,ei,List.length_range]
        (repeat refine si ?_)
        refine AWPC.freeze1 (t:=10) (n:=X.length) rfl hfo (by simp) (show (1:Nat)≠0 by decide) ?_
        generalize gone σ4 f=σ5
        (repeat' ((first
 | refine vn rfl ?_
 | simp (disch:=omega) only [wr64,Int.zero_sub]
 | refine bo (fun _=>?_) fun _=>?_
 | refine im fun _=>?_
 | ((repeat refine si ?_); (first | ((first | refine .inl ⟨_,_,_,_,rfl,fun _=>pu (by first | exact hco | exact values_spec _ | exact hga),?_⟩ | refine ⟨_,_,_,_,rfl,fun _=>pu (by first | exact hco | exact values_spec _ | exact hga),?_⟩); (first | refine o1 ?_ | refine o2 ?_ | refine o3 ?_ | refine o4 ?_)) | refine .inl ⟨_,_,_,_,rfl,pu (by first | exact hco | exact values_spec _ | exact hga),?_⟩))
 | refine cF ?_
 | refine om ?_
 | refine an ?_
 | fail) <;> try simp only [zT, zV, zS, zU, vcC, lateX, ex, strp, binA, elems, cells, scalar, eqC, keyA, intsA, lookA, ofVs, mpOf, Nat.reduceBEq, reduceAdd, reduceSub, reduceLT, reduceLeDiff, reduceMul, reduceEqDiff, reduceIte]))
        · rename_i hc
          have he:endsL t v=[]:=List.length_eq_zero_iff.1 (by omega)
          rw [he]
          exact frz2 frz_nil (by simp)
        · rename_i hc
          rw [if_neg fun e=>hc (by rw [e]; rfl)]
          exact Frz.eq rfl (by simp)
  · rw [if_neg h0,if_neg h0]
    generalize askE t true=e at *
    (repeat' ((first
 | refine vn rfl ?_
 | simp (disch:=omega) only [wr64,Int.zero_sub]
 | refine bo (fun _=>?_) fun _=>?_
 | refine im fun _=>?_
 | ((repeat refine si ?_); (first | ((first | refine .inl ⟨_,_,_,_,rfl,fun _=>pu ha,?_⟩ | refine ⟨_,_,_,_,rfl,fun _=>pu ha,?_⟩); (first | refine o1 ?_ | refine o2 ?_ | refine o3 ?_ | refine o4 ?_)) | refine .inl ⟨_,_,_,_,rfl,pu ha,?_⟩))
 | refine cF ?_
 | refine om ?_
 | refine an ?_
 | fail) <;> try simp only [zT,zV,zS,zU,vcC,lateX,ex,strp,binA,elems,cells,scalar,eqC,keyA,intsA,lookA,ofVs,mpOf,Nat.reduceBEq,reduceAdd,reduceSub,reduceLT,reduceLeDiff,reduceMul,reduceEqDiff,reduceIte]))
    all_goals try (exfalso; omega)
    all_goals exact frz2 frz_nil (by simp)
end Go.Proofs.YtahkhnagpdlkiaaGreat
namespace Go.Abs
set_option linter.unusedVariables false
set_option linter.unusedSimpArgs false
section
variable {P:Program} {N:Nat} {rd:Option Nat} {K:Kont} {σ:Sto}
theorem at_gone_ne {σ:Sto} {f g i:Nat} (h:g≠f):(gone σ f).at g i=σ.at g i:=by
  unfold gone Sto.at
  rw [List.getElem?_set_ne (fun e=>h e.symm)]
theorem AWPC.freezeC {f n h e j:Nat} {o oh:Ob} {c:C} {env:Env} (ho:σ.at f 0=some o) (hn:o.es.length=n) (hk0:o.k≠0) (hh:σ.at h 0=some oh) (hne:h≠f) (hlp:oh.lp=none)
    (he:e < oh.es.length) (hj:(oh.es.getD e [])[j]?=some (.own f 0 n))
    (hc:AWPC P N rd c K env ((gone σ f).upd h 0 { oh with es:=oh.es.set e ((oh.es.getD e []).set j (.sl o.k o.es)) })):AWPC P N rd c K env σ:=by
  intro code hcode n0 X β a w hst
  have E1:Ext w β σ w β (gone σ f):=⟨Nat.le_refl _,fun _ _ _=>rfl,fun b ⟨g,i,o,ho,hb⟩=>.inl ⟨g,i,o,(at_gone ho).2,hb⟩,Still.refl w⟩
  have K1:Kp w (Xt X β σ) β σ w (Xt X β (gone σ f)) β (gone σ f) :=
    ⟨Nat.le_refl _,fun _ _ _ _ _=>rfl,fun b _ hx=>Xt_gone b hx,by simp,fun g i o' _ ho'=>⟨o',(at_gone ho').2,rfl,Nat.le_refl _,fun _=>⟨rfl,fun b _=>SameSize.refl w b⟩⟩⟩
  have hob0:=hst.sr.obj h 0 oh hh
  have S1:=hst.sr.toGone (f:=f)
  have hst1:=hst.tr S1 E1 K1
  have hh1:(gone σ f).at h 0=some oh:=by rw [at_gone_ne hne]; exact hh
  have hob:=S1.obj h 0 oh hh1
  generalize ho':({ oh with es:=oh.es.set e ((oh.es.getD e []).set j (.sl o.k o.es)) }:Ob)=o' at hc
  have ek:o'.k=oh.k:=by rw [← ho']
  have eT:o'.T=oh.T:=by rw [← ho']
  have elp:o'.lp=oh.lp:=by rw [← ho']
  have ees:o'.es=oh.es.set e ((oh.es.getD e []).set j (.sl o.k o.es)):=by rw [← ho']
  have hlen:oh.es.length=o'.es.length:=by rw [ees]; simp
  have ht:Turn w β h 0 (β h 0) w:=⟨Nat.le_refl _,fun _ _ _=>rfl,fun b hb=>.inl hb,Still.refl w⟩
  have hsame:oh.es.length=o'.es.length→β h 0=β h 0∧∀ b,β h 0=some b→SameSize w w b:=fun _=>⟨rfl,fun b _=>SameSize.refl w b⟩
  have K2:=Kp.turn (o':=o') S1 hh1 ht ek.symm (Nat.le_of_eq hlen) hsame
  have E2:Ext w β (gone σ f) w (mvB β h 0 (β h 0)) ((gone σ f).upd h 0 o'):=Ext.turn hh1 ht
  have hrow:∀ e',(o'.es.getD e' []).length=(oh.es.getD e' []).length:=by
    intro e'
    simp only [ees,List.getD_eq_getElem?_getD,List.getElem?_set]
    split
    · rename_i h; subst h; simp [he]
    · rfl
  have S2:=S1.turn (o':=o') hst1.bd hh1 ht ek.symm (Nat.le_of_eq hlen) hsame (by
    refine ⟨fun e' he'=>by rw [hrow,ek]; exact hob.1 e' (by omega),?_⟩
    have h2:=hob.2
    have h20:=hob0.2
    cases hb:β h 0 with
    | none=>rw [hb] at h2; rw [h2.1] at he; exact absurd he (Nat.not_lt_zero _)
    | some b =>
      rw [hb] at h2 h20
      refine ⟨fun _=>?_,fun r hr=>by rw [elp,hlp] at hr; cases hr⟩
      obtain ⟨c,hcc,hle,h1,hr⟩:=h2.1 hlp
      obtain ⟨c',hcc',_,_,hr0⟩:=h20.1 hlp
      rw [hcc] at hcc'; injection hcc' with hcc'; injection hcc' with hcc'; subst hcc'
      refine ⟨c,by rw [eT]; exact hcc,by rw [← hlen,ek]; exact hle,fun e' j' he' hj'=>by rw [ek]; exact h1 e' j' (by omega) (by omega),fun e' j' he' hj'=>?_⟩
      rw [ek]
      have h3:=hr e' j' (by omega) (by omega)
      have h4:=h3.tr K2
      rw [hb] at h4
      by_cases hq:e'=e∧j'=j
      · obtain ⟨rfl,rfl⟩:=hq
        have hjl:=(List.getElem?_eq_some_iff.1 hj).1
        have hv:(o'.es.getD e' []).getD j' .any=.sl o.k o.es:=by
          have h5:o'.es.getD e' []=(oh.es.getD e' []).set j' (.sl o.k o.es):=by
            simp only [ees,List.getD_eq_getElem?_getD,List.getElem?_set_self he,Option.getD_some]
          rw [h5,List.getD_eq_getElem?_getD,List.getElem?_set_self hjl]; rfl
        rw [hv]
        have h6:=hr0 e' j' he (by omega)
        have h7:(oh.es.getD e' []).getD j' .any=.own f 0 n:=by rw [List.getD_eq_getElem?_getD,hj]; rfl
        rw [h7] at h6
        have h8:=(h6.froze hst.sr ho hn hk0).tr K2
        rw [hb] at h8
        exact h8
      · have:(o'.es.getD e' []).getD j' .any=(oh.es.getD e' []).getD j' .any:=by
          simp only [ees,List.getD_eq_getElem?_getD,List.getElem?_set]
          split
          · rename_i hee
            subst hee
            simp only [he,if_true,Option.getD_some,List.getElem?_set]
            rw [if_neg fun hjj=>hq ⟨rfl,hjj.symm⟩]
          · rfl
        rw [this]; exact h4)
  exact wpIn_mono (hc code hcode n0 X _ a w (hst1.tr S2 E2 K2)) fun e a w hp=>hp.trans (E1.trans E2) (K1.trans K2)
end
end Go.Abs
