/- Part 9 of the texts that the claim rests on: abstract values over the walk, and contracts of functions. -/
import Derived.Test.YtolgelipcgcbhaaGreatBc8
import Derived.Test.YtolgelipcgcbhaaGreatRows
namespace Go.Abs
set_option linter.unusedVariables false
set_option linter.unusedSimpArgs false
theorem blots_len {c:Int} {l:List Int} (h:blotsOk c l) (hc:0≤c):(l.length:Int)≤c:=by
  have key:∀ i:Nat,i < l.length→(i:Int)≤l.getD i 0:=by
    intro i
    induction i with
    | zero=>intro hi; exact (h 0 hi).1.1
    | succ i ih =>
      intro hi
      have h1:=ih (by omega)
      have h2:=(h (i+1) hi).2 (by omega)
      rw [Nat.add_sub_cancel] at h2
      omega
  rcases Nat.eq_zero_or_pos l.length with h0 | h0
  · omega
  · have h1:=key (l.length - 1) (by omega)
    have h2:=(h (l.length - 1) (by omega)).1.2
    omega
theorem sht_small {s:Sht} (h:s.ok):s.trace.length≤2000∧s.blots.length≤200∧s.rates.length≤199∧s.stops.length≤16:=by
  obtain ⟨h1,h2,h3,h4,h5,h6⟩:=h
  have ht:s.trace.length≤2000:=by
    unfold traceE at h1
    split at h1
    · simp at h1
    · omega
  have hr:=h3.1.2
  have hb:=blots_len h5 (by omega)
  exact ⟨ht,by omega,by omega,h3.2.1⟩
theorem stns_small {l:List Stn} (h:(stnsE l).1=0):l.length≤32∧∀ s∈l,s.heights.length≤16:=by
  unfold stnsE at h
  split at h
  · simp at h
  rename_i h32
  rw [firstE_zero] at h
  refine ⟨by omega,fun s hs=>?_⟩
  obtain ⟨i,hi,rfl⟩:=List.mem_iff_getElem.1 hs
  have h1:=h i hi
  unfold stnE at h1
  simp only at h1
  split at h1
  · split at h1
    · rename_i h2
      rw [List.getD_eq_getElem?_getD,List.getElem?_eq_getElem hi] at h2
      have:=h2.1.2
      simp only [Option.getD_some] at this
      omega
    · omega
  · omega
theorem nt_small {b:Bse} {a:Nt} (h:a.ok b) (hk:a.kind=1):a.sheet.trace.length≤2000∧a.sheet.blots.length≤200∧a.sheet.rates.length≤199∧a.sheet.stops.length≤16:=by
  have h1:=h.2.2.2.2
  unfold Nt.says at h1
  rw [if_pos hk] at h1
  exact sht_small h1.2
end Go.Abs
namespace Go.Proofs.YtolgelipcgcbhaaGreat
open Go.Abs
open Nat renaming reduceBEq→W0,reduceAdd→W1,reduceSub→W2,reduceLT→W3,reduceLeDiff→W4,reduceMul→W5,reduceEqDiff→W6
open Int renaming zero_sub→W7
open Go.Abs renaming vcC→Q0,lateX→Q1,strp→Q2,binA→Q3,elems→Q4,cells→Q5,scalar→Q6,eqC→Q7,keyA→Q8,intsA→Q9,lookA→QA,ofVs→QB,mpOf→QC
set_option linter.unusedVariables false
set_option linter.unusedSimpArgs false
set_option maxHeartbeats 4000000
set_option maxRecDepth 100000
def c21:CF:=⟨18,
 (.seq (.ops [
 ⟨some 2,.box false 26 6 (.t 0),none⟩,
 ⟨some 4,.alloc 37 4 [.slice none 0 0,.slice none 0 0,.slice none 0 0,.slice none 0 0],none⟩,
 ⟨some 5,.mv (.c (.int .i64 0)),none⟩] [1,2,4])
 (.seq (.seq (.ops [
 ⟨some 7,.load (some 6) (.t 2),none⟩,
 ⟨some 8,.mv (.t 1),none⟩,
 ⟨some 9,.bsl false 27 1 1 [.slice none 0 0] [(0,1,(.t 8))],none⟩,
 ⟨some 10,.call (.f 80) [(.t 7),(.t 9)],none⟩,
 ⟨some 6,.mv (.t 10),none⟩] [1,2,4,6])
 (.seq (.ops [
 ⟨some 11,.mv (.t 6),none⟩,
 ⟨some 12,.bin .neq (.t 11) (.c (.int .i64 0)),none⟩] [1,2,4,6,12])
 (.cond (.t 12) (.seq (.ops [
 ⟨some 13,.build [.slice none 0 0,.slice none 0 0,.slice none 0 0,.slice none 0 0] [],none⟩,
 ⟨some 14,.mv (.t 6),none⟩,
 ⟨none,.store 4 (.t 4) (.t 13),none⟩,
 ⟨some 5,.mv (.t 14),none⟩] [4,5])
 .ret)
 .skip)))
 (.seq (.ops [
 ⟨some 15,.load (some 6) (.t 2),none⟩,
 ⟨some 16,.mv (.t 1),none⟩,
 ⟨some 17,.call (.f 81) [(.t 15),(.t 16)],none⟩,
 ⟨none,.store 4 (.t 4) (.t 17),none⟩,
 ⟨some 5,.mv (.c (.int .i64 0)),none⟩] [4,5])
 .ret))),
 [.c 4 (some 4),.t 5]⟩
theorem k21:chkF Tryz.prog Tryz.f21 c21=true:=by kernel_rfl
def noH (l:List Nt):Prop:=∀ a∈l,a.kind≠4
theorem fold_ok (b:Bse) (l m:List Nt) (hl:setSz l) (he:(setE b l).1=0) (hm:m.Sublist l) (h4:noH m):Pure Tryz.prog 81 [.agg b.cs,ntS m] (.agg (foldT b m).cs):=by
  obtain ⟨h1,h2,h3,_⟩:=setE_ok he
  obtain ⟨g1,g2⟩:=stns_small h1.1
  refine fold_spec b m ⟨Nat.lt_of_le_of_lt hm.length_le hl.1,fun a ha=>hl.2 a (hm.subset ha)⟩ (Nat.le_trans hm.length_le h2) ((setE_nodup he).sublist (hm.map _)) (by omega) (fun s hs=>by have:=g2 s hs; omega) (fun a ha hk=>?_) h4
  obtain ⟨k1,k2,k3,k4⟩:=nt_small (h3 a (hm.subset ha)) hk
  exact ⟨by omega,by omega,by omega,by omega⟩
theorem rd_pc (a:Rd):∀ c∈a.cs,PureV c:=fun c hc=>by simp at hc; rcases hc with rfl | rfl | rfl | rfl | rfl <;> simp
theorem sn_pc (a:Stn):∀ c∈a.cs,PureV c:=fun c hc=>by simp at hc; rcases hc with rfl | rfl | rfl | rfl <;> simp
theorem nm_pc (a:Nm):∀ c∈a.cs,PureV c:=fun c hc=>by simp at hc; rcases hc with rfl | rfl <;> simp
theorem rgr_pc (r:Rgr):∀ c∈r.cs,PureV c:=fun c hc=>by
  simp only [List.mem_cons,List.not_mem_nil,or_false] at hc
  rcases hc with rfl | rfl | rfl | rfl
  · exact fdS_pure _
  · exact pv_rows 5 _ rd_pc
  · exact pv_rows 4 _ sn_pc
  · exact pv_rows 2 _ nm_pc
@[simp] theorem rgr_pa (r:Rgr):PureV (.agg r.cs):=.agg (rgr_pc r)
@[simp] theorem rgr_pi (r:Rgr) (j:Nat):PureV (.iptr r.cs j):=.iptr (rgr_pc r)
@[simp] theorem rdS_pure (l:List Rd):PureV (rdS l):=pv_rows 5 _ rd_pc
@[simp] theorem snS_pure (l:List Stn):PureV (snS l):=pv_rows 4 _ sn_pc
@[simp] theorem nmS_pure (l:List Nm):PureV (nmS l):=pv_rows 2 _ nm_pc
theorem Fold_spec (b:Bse) (hb:bseSz b) (l:List Nt) (hl:setSz l) (h4:noH l):Pure Tryz.prog 21 [.agg b.cs,ntS l] (.tup [.agg (foldE b l).1.cs,n (foldE b l).2]):=by
  refine Pure.of_body Tryz.call21 Tryz.func21 k21 (Nat.le_of_ble_eq_true rfl) ?_
  unfold c21
  have h1:=asked_spec b hb [l] (by simp) (by simpa using hl)
  by_cases ha:askedE b [l]=0
  · have hE:foldE b l=(foldT b l,0):=by unfold foldE; rw [if_neg (by omega)]
    rw [hE]
    rw [ha] at h1
    have h2:=fold_ok b l l hl ((askedE_ok ha).2 l (by simp)) (List.Sublist.refl _) h4
    generalize foldT b l=r at h2
    (repeat' ((first|refine vn rfl ?_|simp (disch:=omega) only [wr64,W7]|refine bo (fun _=>?_) fun _=>?_|refine im fun _=>?_|((repeat refine si ?_); (first|((first|refine .inl ⟨_,_,_,_,rfl,fun _=>pu (by first|exact h1|exact h2),?_⟩|refine ⟨_,_,_,_,rfl,fun _=>pu (by first|exact h1|exact h2),?_⟩); (first|refine o1 ?_|refine o2 ?_|refine o3 ?_|refine o4 ?_)) | refine .inl ⟨_,_,_,_,rfl,pu (by first|exact h1|exact h2),?_⟩))|refine cF ?_|refine om ?_|refine an ?_|fail) <;> try simp only [zN,zT,zV,zS,zU,Q0,Q1,ex,Q2,Q3,Q4,Q5,Q6,Q7,Q8,Q9,QA,QB,QC,W0,W1,W2,W3,W4,W5,W6,reduceIte]))
    all_goals try (exfalso; omega)
    exact Frz.tupL ⟨Frz.pure (rgr_pa r),Frz.pure (by simp),trivial⟩
  · have hE:foldE b l=(rgr0,askedE b [l]):=by unfold foldE; rw [if_pos ha]
    rw [hE]
    generalize askedE b [l]=e at h1 ha
    (repeat' ((first|refine vn rfl ?_|simp (disch:=omega) only [wr64,W7]|refine bo (fun _=>?_) fun _=>?_|refine im fun _=>?_|((repeat refine si ?_); (first|((first|refine .inl ⟨_,_,_,_,rfl,fun _=>pu h1,?_⟩|refine ⟨_,_,_,_,rfl,fun _=>pu h1,?_⟩); (first|refine o1 ?_|refine o2 ?_|refine o3 ?_|refine o4 ?_)) | refine .inl ⟨_,_,_,_,rfl,pu h1,?_⟩))|refine cF ?_|refine om ?_|refine an ?_|fail) <;> try simp only [zN,zT,zV,zS,zU,Q0,Q1,ex,Q2,Q3,Q4,Q5,Q6,Q7,Q8,Q9,QA,QB,QC,W0,W1,W2,W3,W4,W5,W6,reduceIte]))
    all_goals try (exfalso; omega)
    exact Frz.tupL ⟨Frz.aggL ⟨Frz.nil0,Frz.nil0,Frz.nil0,Frz.nil0,trivial⟩,Frz.pure (by simp),trivial⟩
def c157:CF:=⟨19,
 (.seq (.ops [
 ⟨some 4,.mv (.c (.int .i64 0)),none⟩] [0,1])
 (.seq (.seq (.ops [
 ⟨some 6,.mv (.t 0),none⟩,
 ⟨some 7,.len (.t 6),none⟩,
 ⟨some 8,.mv (.c (.int .i64 0)),none⟩] [0,1,7,8])
 (.block 0 (.loop (.seq (.ops [
 ⟨some 9,.bin .lss (.t 8) (.t 7),none⟩] [0,1,7,8,9])
 (.seq (.cond (.t 9) .skip
 (.exit 0))
 (.seq (.block 1 (.seq (.ops [
 ⟨some 10,.mv (.t 8),none⟩,
 ⟨some 5,.mv (.t 10),none⟩] [0,1,5,7,8])
 (.seq (.ops [
 ⟨some 11,.mv (.t 1),none⟩,
 ⟨some 12,.mv (.t 0),none⟩,
 ⟨some 13,.mv (.t 5),none⟩,
 ⟨some 14,.iaddr 38 (.t 12) (.t 13),none⟩,
 ⟨some 15,.load (some 38) (.t 14),none⟩,
 ⟨some 16,.call (.t 11) [(.t 15)],none⟩] [0,1,5,7,8,16])
 (.cond (.t 16) (.seq (.ops [
 ⟨some 17,.mv (.t 5),none⟩,
 ⟨some 4,.mv (.t 17),none⟩] [4])
 .ret)
 .skip))))
 (.ops [
 ⟨some 18,.bin .add (.t 8) (.c (.int .i64 1)),none⟩,
 ⟨some 8,.mv (.t 18),none⟩] [0,1,7,8])))))))
 (.seq (.ops [
 ⟨some 4,.mv (.c (.int .i64 (-1))),none⟩] [4])
 .ret))),
 [.t 4]⟩
theorem k157:chkF Tryz.prog Tryz.f157 c157=true:=by kernel_rfl
def c84:CF:=⟨15,
 (.seq (.ops [
 ⟨some 3,.box false 68 38 (.t 0),none⟩,
 ⟨some 4,.mv (.c (.bool false)),none⟩] [1,2,3])
 (.seq (.ops [
 ⟨some 5,.faddr 3 (.t 3),none⟩,
 ⟨some 6,.load none (.t 5),none⟩,
 ⟨some 7,.load none (.t 1),none⟩,
 ⟨some 8,.bin .gtr (.t 6) (.t 7),none⟩,
 ⟨some 9,.mv (.t 8),none⟩,
 ⟨some 10,.faddr 2 (.t 3),some (9,false)⟩,
 ⟨some 11,.load none (.t 10),some (9,false)⟩,
 ⟨some 12,.load none (.t 2),some (9,false)⟩,
 ⟨some 13,.bin .gtr (.t 11) (.t 12),some (9,false)⟩,
 ⟨some 14,.pick (.t 9) (.c (.bool true)) (.t 13),none⟩,
 ⟨some 4,.mv (.t 14),none⟩] [4])
 .ret)),
 [.t 4]⟩
theorem k84:chkF Tryz.prog Tryz.f84 c84=true:=by kernel_rfl
def c85:CF:=⟨42,
 (.seq (.ops [
 ⟨some 4,.mv (.c (.slice none 0 0)),none⟩] [0,1])
 (.seq (.ops [
 ⟨some 8,.mv (.t 0),none⟩,
 ⟨some 9,.mv (.t 1),none⟩,
 ⟨some 10,.call (.f 157) [(.t 8),(.t 9)],none⟩,
 ⟨some 5,.mv (.t 10),none⟩] [0,1,5])
 (.seq (.seq (.ops [
 ⟨some 11,.mv (.t 5),none⟩,
 ⟨some 12,.bin .eql (.t 11) (.c (.int .i64 (-1))),none⟩] [0,1,5,12])
 (.cond (.t 12) (.seq (.ops [
 ⟨some 13,.mv (.t 0),none⟩,
 ⟨some 4,.mv (.t 13),none⟩] [4])
 .ret)
 .skip))
 (.seq (.seq (.ops [
 ⟨some 14,.mv (.t 5),none⟩,
 ⟨some 15,.bin .add (.t 14) (.c (.int .i64 1)),none⟩,
 ⟨some 6,.mv (.t 15),none⟩] [0,1,5,6])
 (.block 0 (.loop (.seq (.seq (.ops [
 ⟨some 16,.mv (.t 6),none⟩,
 ⟨some 17,.mv (.t 0),none⟩,
 ⟨some 18,.len (.t 17),none⟩,
 ⟨some 19,.bin .lss (.t 16) (.t 18),none⟩] [0,1,5,6,19])
 (.cond (.t 19) .skip
 (.exit 0)))
 (.seq (.block 1 (.seq (.ops [
 ⟨some 22,.mv (.t 0),none⟩,
 ⟨some 23,.mv (.t 6),none⟩,
 ⟨some 24,.iaddr 38 (.t 22) (.t 23),none⟩,
 ⟨some 25,.load (some 38) (.t 24),none⟩,
 ⟨some 7,.alloc 68 38 z38,none⟩,
 ⟨none,.store 38 (.t 7) (.t 25),none⟩] [0,1,5,6,7])
 (.seq (.ops [
 ⟨some 26,.mv (.t 1),none⟩,
 ⟨some 27,.load (some 38) (.t 7),none⟩,
 ⟨some 28,.call (.t 26) [(.t 27)],none⟩,
 ⟨some 29,.un .not (.t 28),none⟩] [0,1,5,6,7,29])
 (.cond (.t 29) (.seq (.ops [
 ⟨some 30,.mv (.t 0),none⟩,
 ⟨some 31,.mv (.t 5),none⟩,
 ⟨some 32,.load (some 38) (.t 7),none⟩,
 ⟨some 33,.iaddr 38 (.t 30) (.t 31),none⟩,
 ⟨none,.store 38 (.t 33) (.t 32),none⟩] [0,1,5,6])
 (.ops [
 ⟨some 34,.mv (.t 5),none⟩,
 ⟨some 35,.bin .add (.t 34) (.c (.int .i64 1)),none⟩,
 ⟨some 5,.mv (.t 35),none⟩] [0,1,5,6]))
 .skip))))
 (.ops [
 ⟨some 20,.mv (.t 6),none⟩,
 ⟨some 21,.bin .add (.t 20) (.c (.int .i64 1)),none⟩,
 ⟨some 6,.mv (.t 21),none⟩] [0,1,5,6]))))))
 (.seq (.ops [
 ⟨some 36,.mv (.t 0),none⟩,
 ⟨some 37,.mv (.t 5),none⟩,
 ⟨some 38,.subs 38 (.t 36) (.t 37),none⟩,
 ⟨none,.clr 68 38 z38 (.t 38),none⟩] [0,5])
 (.seq (.ops [
 ⟨some 39,.mv (.t 0),none⟩,
 ⟨some 40,.mv (.t 5),none⟩,
 ⟨some 41,.slice 38 (.t 39) none (some (.t 40)),none⟩,
 ⟨some 4,.mv (.t 41),none⟩] [4])
 .ret)))))),
 [.t 4]⟩
theorem k85:chkF Tryz.prog Tryz.f85 c85=true:=by kernel_rfl
def c23:CF:=⟨27,
 (.seq (.ops [
 ⟨some 4,.box false 26 6 (.t 0),none⟩,
 ⟨some 6,.box false 3 1 (.t 2),none⟩,
 ⟨some 7,.box false 3 1 (.t 3),none⟩,
 ⟨some 8,.alloc 37 4 [.slice none 0 0,.slice none 0 0,.slice none 0 0,.slice none 0 0],none⟩,
 ⟨some 9,.mv (.c (.int .i64 0)),none⟩] [1,4,6,7,8])
 (.seq (.seq (.ops [
 ⟨some 12,.load (some 6) (.t 4),none⟩,
 ⟨some 13,.mv (.t 1),none⟩,
 ⟨some 14,.bsl false 27 1 1 [.slice none 0 0] [(0,1,(.t 13))],none⟩,
 ⟨some 15,.call (.f 80) [(.t 12),(.t 14)],none⟩,
 ⟨some 10,.mv (.t 15),none⟩] [1,4,6,7,8,10])
 (.seq (.ops [
 ⟨some 16,.mv (.t 10),none⟩,
 ⟨some 17,.bin .neq (.t 16) (.c (.int .i64 0)),none⟩] [1,4,6,7,8,10,17])
 (.cond (.t 17) (.seq (.ops [
 ⟨some 18,.build [.slice none 0 0,.slice none 0 0,.slice none 0 0,.slice none 0 0] [],none⟩,
 ⟨some 19,.mv (.t 10),none⟩,
 ⟨none,.store 4 (.t 8) (.t 18),none⟩,
 ⟨some 9,.mv (.t 19),none⟩] [8,9])
 .ret)
 .skip)))
 (.seq (.ops [
 ⟨some 20,.mkfn (.func 84) [] [(.t 6),(.t 7)],none⟩,
 ⟨some 11,.mv (.t 20),none⟩] [1,4,8,11])
 (.seq (.draww [0,1,3,2,4,5,6,7] [0,2] 2 [
 ⟨some 21,.load (some 6) (.t 4),none⟩,
 ⟨some 22,.mv (.t 1),none⟩,
 ⟨some 24,.mv (.t 11),none⟩] [
 ⟨some 23,.call (.f 86) [(.t 22)],none⟩,
 ⟨some 25,.call (.f 85) [(.t 23),(.t 24)],none⟩,
 ⟨some 26,.call (.f 81) [(.t 21),(.t 25)],none⟩,
 ⟨none,.store 4 (.t 8) (.t 26),none⟩,
 ⟨some 9,.mv (.c (.int .i64 0)),none⟩] [8,9])
 .ret)))),
 [.c 8 (some 4),.t 9]⟩
theorem k23:chkF Tryz.prog Tryz.f23 c23=true:=by kernel_rfl
theorem indexNt (f:Nat) (caps:List AV) (hcap:∀ c∈caps,PureV c) (q:Nt→Bool) (l:List Nt) (hl:l.length < 9223372036854775808) (hq:∀ x∈l,Pure Tryz.prog f ([.agg (Nt.cs x)]++caps) (bl (q x))):Pure Tryz.prog 157 [ntS l,.fn (.func f) [] caps] (n (fidx q 0 l)):=by
  refine Pure.of_body Tryz.call157 Tryz.func157 k157 (Nat.le_of_ble_eq_true rfl) ?_
  unfold c157
  (repeat' ((first|refine vn rfl ?_|simp (disch:=omega) only [wr64,W7]|refine bo (fun _=>?_) fun _=>?_|refine im fun _=>?_|refine cF ?_|refine om ?_|refine an ?_|fail) <;> try simp only [zN,zT,zV,zS,zU,Q0,Q1,ex,Q2,Q3,Q4,Q5,Q6,Q7,Q8,Q9,QA,QB,QC,W0,W1,W2,W3,W4,W5,W6,reduceIte]))
  refine AWPC.loopI 8 l.length (fun i=>fidx q i (l.drop i)=fidx q 0 l) (by simp) ?_ ?_
  · (simp only [zN,zT,zV,zS,zU,Q0,Q1,ex,Q2,Q3,Q4,Q5,Q6,Q7,Q8,Q9,QA,QB,QC,W0,W1,W2,W3,W4,W5,W6,reduceIte]; try simp)
  · intro i hi hI
    by_cases hlt:i < l.length
    · obtain ⟨x,hx⟩:∃ x,l[i]?=some x:=⟨_,List.getElem?_eq_getElem hlt⟩
      have hc:=hq x (List.mem_of_getElem? hx)
      rw [drop_cons hx,fidx] at hI
      (repeat' ((first|refine vn rfl ?_|simp (disch:=omega) only [wr64,W7]|refine bo (fun _=>?_) fun _=>?_|refine im fun _=>?_|refine cF ?_|refine om ?_|refine an ?_|fail) <;> try simp only [zN,zT,zV,zS,zU,Q0,Q1,ex,Q2,Q3,Q4,Q5,Q6,Q7,Q8,Q9,QA,QB,QC,W0,W1,W2,W3,W4,W5,W6,reduceIte,getD_map hx]))
      all_goals try (exfalso; omega)
      refine .inl ⟨_,_,_,_,rfl,fun _=>.of ?_ (hc),?_⟩
      · intro a ha
        simp only [List.nil_append,List.cons_append,List.mem_cons] at ha
        rcases ha with rfl | ha
        · simp
        · exact hcap a ha
      refine owp_of_exs ?_
      simp only [zN,zT,zV,zS,zU,Q0,Q1,ex,Q2,Q3,Q4,Q5,Q6,Q7,Q8,Q9,QA,QB,QC,W0,W1,W2,W3,W4,W5,W6,reduceIte]
      (repeat' ((first|refine vn rfl ?_|simp (disch:=omega) only [wr64,W7]|refine bo (fun _=>?_) fun _=>?_|refine im fun _=>?_|refine cF ?_|refine om ?_|refine an ?_|fail) <;> try simp only [zN,zT,zV,zS,zU,Q0,Q1,ex,Q2,Q3,Q4,Q5,Q6,Q7,Q8,Q9,QA,QB,QC,W0,W1,W2,W3,W4,W5,W6,reduceIte]))
      · rename_i h
        rw [h] at hI
        simp only [if_true] at hI
        rw [← hI]
        exact Frz.eq rfl (by simp)
      · rename_i h
        rw [h] at hI
        exact ⟨⟨i+1,hlt,by simpa using hI⟩,by simp,by simp only; omega⟩
    · obtain rfl:i=l.length:=by omega
      rw [List.drop_length,fidx] at hI
      (repeat' ((first|refine vn rfl ?_|simp (disch:=omega) only [wr64,W7]|refine bo (fun _=>?_) fun _=>?_|refine im fun _=>?_|refine cF ?_|refine om ?_|refine an ?_|fail) <;> try simp only [zN,zT,zV,zS,zU,Q0,Q1,ex,Q2,Q3,Q4,Q5,Q6,Q7,Q8,Q9,QA,QB,QC,W0,W1,W2,W3,W4,W5,W6,reduceIte]))
      all_goals try (exfalso; omega)
      rw [← hI]
      exact Frz.eq rfl (by simp)
theorem cloneNtD (l:List Nt) (hl:l.length * 368≤140737488355328) (σ:Sto):Does Tryz.prog 86 [ntS l] σ (OwnAt σ 68 38 (l.map Nt.cs)):=by
  have nil:Does Tryz.prog 86 [.v (.slice none 0 0)] σ (OwnAt σ 68 38 []):=by
    refine Does.of_body Tryz.call86 Tryz.func86 k86 (Nat.le_of_ble_eq_true rfl) ?_
    unfold c86
    refine AWPC.of_vc ?_; simp only [zN,zS,zU,Q0,Q1,ex,Q2,Q3,Q4,Q5,Q6,Q7,Q8,Q9,QA,QB,QC,W0,W1,W2,W3,W4,W5,W6,reduceIte]
    refine AWPC.of_vc ?_; simp only [zN,zS,zU,Q0,Q1,ex,Q2,Q3,Q4,Q5,Q6,Q7,Q8,Q9,QA,QB,QC,W0,W1,W2,W3,W4,W5,W6,reduceIte]
    refine AWPC.of_vc ?_
    simp only [Q0]
    refine ⟨fun _=>?_,fun h=>by cases h⟩
    refine AWPC.of_vc ?_; simp only [zN,zS,zU,Q0,Q1,ex,Q2,Q3,Q4,Q5,Q6,Q7,Q8,Q9,QA,QB,QC,W0,W1,W2,W3,W4,W5,W6,reduceIte]
    refine AWPC.own0 68 38 2 rfl ?_
    refine AWPC.of_vc ?_; simp only [zN,zS,zU,Q0,Q1,ex,Q2,Q3,Q4,Q5,Q6,Q7,Q8,Q9,QA,QB,QC,W0,W1,W2,W3,W4,W5,W6,reduceIte]
    exact .mk [] rfl rfl
  have emp:∀ a cap,Does Tryz.prog 86 [.v (.slice (some a) 0 cap)] σ (OwnAt σ 68 38 []):=by
    intro a cap
    refine Does.of_body Tryz.call86 Tryz.func86 k86 (Nat.le_of_ble_eq_true rfl) ?_
    unfold c86
    (repeat' ((first|refine vn rfl ?_|simp (disch:=omega) only [wr64,W7]|refine bo (fun _=>?_) fun _=>?_|refine im fun _=>?_|refine cF ?_|refine om ?_|refine an ?_|fail) <;> try simp only [zN,zT,zV,zS,zU,Q0,Q1,ex,Q2,Q3,Q4,Q5,Q6,Q7,Q8,Q9,QA,QB,QC,W0,W1,W2,W3,W4,W5,W6,reduceIte]))
    all_goals exact .mk [] rfl rfl
  by_cases h0:l=[]
  · subst h0
    exact byNilD nil emp
  · refine Does.of_body Tryz.call86 Tryz.func86 k86 (Nat.le_of_ble_eq_true rfl) ?_
    unfold c86
    have hne:l.map Nt.cs≠[]:=by simpa using h0
    (repeat' ((first|refine vn rfl ?_|simp (disch:=omega) only [wr64,W7]|refine bo (fun _=>?_) fun _=>?_|refine im fun _=>?_|refine cF ?_|refine om ?_|refine an ?_|fail) <;> try simp only [zN,zT,zV,zS,zU,Q0,Q1,ex,Q2,Q3,Q4,Q5,Q6,Q7,Q8,Q9,QA,QB,QC,W0,W1,W2,W3,W4,W5,W6,reduceIte]))
    refine ⟨⟨rowsL (cs:=Nt.cs) (fun a=>rfl) l,by omega⟩,?_⟩
    (repeat' ((first|refine vn rfl ?_|simp (disch:=omega) only [wr64,W7]|refine bo (fun _=>?_) fun _=>?_|refine im fun _=>?_|refine cF ?_|refine om ?_|refine an ?_|fail) <;> try simp only [zN,zT,zV,zS,zU,Q0,Q1,ex,Q2,Q3,Q4,Q5,Q6,Q7,Q8,Q9,QA,QB,QC,W0,W1,W2,W3,W4,W5,W6,reduceIte]))
    exact .mk [] (by simp) rfl
theorem asOf1_spec (day clock:Int) (a:Nt):Pure Tryz.prog 84 [.agg a.cs,.iptr [n day] 0,.iptr [n clock] 0] (bl (!decide (a.day≤day∧a.clock≤clock))):=by
  refine Pure.of_body Tryz.call84 Tryz.func84 k84 (Nat.le_of_ble_eq_true rfl) ?_
  unfold c84
  (repeat' ((first|refine vn rfl ?_|simp (disch:=omega) only [wr64,W7]|refine bo (fun _=>?_) fun _=>?_|refine im fun _=>?_|refine cF ?_|refine om ?_|refine an ?_|fail) <;> try simp only [zN,zT,zV,zS,zU,Q0,Q1,ex,Q2,Q3,Q4,Q5,Q6,Q7,Q8,Q9,QA,QB,QC,W0,W1,W2,W3,W4,W5,W6,reduceIte]))
  exact Frz.eq (congrArg bl (by rw [decide_eq_decide]; omega)) (by simp)
theorem gone_upd {σ μ:Sto} {f:Nat} {o o':Ob} (h:σ.at f 0=some o):gone (σ.upd f 0 o'++μ) f=gone σ f++μ:=by
  have hlt:=at_lt h
  rw [gone,List.set_append_left _ _ (by rw [upd_length]; exact hlt)]
  congr 1
  unfold Sto.at at h
  unfold Sto.upd
  split at h
  · rename_i F hF
    simp only [hF,gone,List.set_set]
  · cases h
inductive Left (σ:Sto) (f:Nat) (r0:AV):AV→Sto→Prop
  | mk (ν:Sto) {r:AV} {σ':Sto} (h:r=r0) (h':σ'=gone σ f++ν):Left σ f r0 r σ'
structure DelS (q:Nt→Bool) (l R:List Nt) (i j:Nat):Prop where
  len:R.length=l.length
  lt:i < j
  le:j≤l.length
  tk:R.take i=(l.take j).filter (fun a=>!q a)
  dr:R.drop j=l.drop j
theorem DelS.init {q:Nt→Bool} {l:List Nt} {i:Nat} (hi:i < l.length) (h1:q l[i]=true) (h2:∀ j (hj:j < i),q (l[j]'(by omega))=false):DelS q l l i (i+1):=by
  refine ⟨rfl,by omega,hi,?_,rfl⟩
  rw [List.take_add_one,List.getElem?_eq_getElem hi,List.filter_append]
  have e:(l.take i).filter (fun a=>!q a)=l.take i:=by
    rw [List.filter_eq_self]
    intro a ha
    obtain ⟨j,hj,rfl⟩:=List.mem_iff_getElem.1 ha
    rw [List.length_take] at hj
    rw [List.getElem_take,h2 j (by omega)]; rfl
  rw [e]; simp [h1]
theorem DelS.get {q:Nt→Bool} {l R:List Nt} {i j:Nat} (h:DelS q l R i j) (hj:j < l.length):R[j]?=l[j]?:=by
  have h1:(R.drop j)[0]?=(l.drop j)[0]?:=by rw [h.dr]
  simpa using h1
theorem DelS.drop1 {q:Nt→Bool} {l R:List Nt} {i j:Nat} (h:DelS q l R i j):R.drop (j+1)=l.drop (j+1):=by
  have h1:(R.drop j).drop 1=(l.drop j).drop 1:=by rw [h.dr]
  simpa [List.drop_drop,Nat.add_comm] using h1
theorem DelS.skip {q:Nt→Bool} {l R:List Nt} {i j:Nat} {a:Nt} (h:DelS q l R i j) (ha:l[j]?=some a) (hq:q a=true):DelS q l R i (j+1):=by
  have hj:=(List.getElem?_eq_some_iff.1 ha).1
  refine ⟨h.len,by have:=h.lt; omega,hj,?_,h.drop1⟩
  rw [h.tk,List.take_add_one,ha,List.filter_append]; simp [hq]
theorem DelS.keep {q:Nt→Bool} {l R:List Nt} {i j:Nat} {a:Nt} (h:DelS q l R i j) (ha:l[j]?=some a) (hq:q a=false):DelS q l (R.set i a) (i+1) (j+1):=by
  have hj:=(List.getElem?_eq_some_iff.1 ha).1
  have hlt:=h.lt
  have hlen:=h.len
  refine ⟨by rw [List.length_set]; exact h.len,by omega,hj,?_,?_⟩
  · rw [List.take_add_one,List.getElem?_set_self (by omega),List.take_set_of_le (Nat.le_refl _),h.tk,List.take_add_one,ha,List.filter_append]; simp [hq]
  · rw [List.drop_set_of_lt (by omega)]; exact h.drop1
theorem upd_upd {σ:Sto} {f i:Nat} {a b o:Ob} (h:σ.at f i=some o):(σ.upd f i a).upd f i b=σ.upd f i b:=by
  unfold Sto.at at h
  unfold Sto.upd
  split at h
  · rename_i F hF
    have hlt:=(List.getElem?_eq_some_iff.1 hF).1
    simp only [hF,List.getElem?_set_self hlt,List.set_set]
  · cases h
theorem delete_does (q:Nt→Bool) (fd:Nat) (cap:List AV) (hcap:∀ c∈cap,PureV c) (hq:∀ a,Pure Tryz.prog fd ([.agg (Nt.cs a)]++cap) (bl (q a))) (σ:Sto) (f:Nat) (l:List Nt) (hl:l.length < 9223372036854775808) (hf:σ.at f 0=some ⟨68,38,l.map Nt.cs,none⟩) :
    Does Tryz.prog 85 [.own f 0 l.length,.fn (.func fd) [] cap] σ (Left σ f (ntS (l.filter fun a=>!q a))):=by
  refine Does.of_body Tryz.call85 Tryz.func85 k85 (Nat.le_of_ble_eq_true rfl) ?_
  unfold c85
  have hcp:PureV (.fn (.func fd) [] cap):=PureV.fn (fun _ h=>absurd h (List.not_mem_nil)) hcap
  have hix:=indexNt fd cap hcap q l hl fun x _=>hq x
  have hz:=fidx_opt q l
  cases hi:l.findIdx? q with
  | none =>
    rw [hi] at hz
    simp only at hz
    rw [hz] at hix
    have hall:l.filter (fun a=>!q a)=l:=by
      rw [List.filter_eq_self]
      intro a ha
      have:=List.findIdx?_eq_none_iff.1 hi a ha
      simp [this]
    rw [hall]
    refine AWPC.freeze1 (t:=0) (f:=f) (n:=l.length) (o:=⟨68,38,l.map Nt.cs,none⟩) rfl hf (by simp) (by simp) ?_
    (repeat' ((first|refine vn rfl ?_|simp (disch:=omega) only [wr64,W7]|refine bo (fun _=>?_) fun _=>?_|refine im fun _=>?_|((repeat refine si ?_); (first|((first|refine .inl ⟨_,_,_,_,rfl,fun _=>pu hix,?_⟩|refine ⟨_,_,_,_,rfl,fun _=>pu hix,?_⟩); (first|refine o1 ?_|refine o2 ?_|refine o3 ?_|refine o4 ?_)) | refine .inl ⟨_,_,_,_,rfl,pu hix,?_⟩))|refine cF ?_|refine om ?_|refine an ?_|fail) <;> try simp only [zN,zT,zV,zS,zU,Q0,Q1,ex,Q2,Q3,Q4,Q5,Q6,Q7,Q8,Q9,QA,QB,QC,W0,W1,W2,W3,W4,W5,W6,reduceIte]))
    all_goals try (exfalso; omega)
    exact .mk [] rfl (by simp)
  | some i =>
    rw [hi] at hz
    simp only at hz
    rw [hz] at hix
    have hp:Peek Tryz.prog 157 [.own f 0 l.length,.fn (.func fd) [] cap] σ (n (i:Int)) :=
      Peek.plain hix (by simp) ⟨Frz.ownL hf rfl (by decide) (fun a=>Nt.pc a) (fun a=>rfl),Frz.pure hcp,trivial⟩
    obtain ⟨hil,hqi,hqj⟩:=List.findIdx?_eq_some_iff_getElem.1 hi
    have hf1:Sto.at σ f 0=some ⟨68,38,l.map Nt.cs,none⟩:=hf
    (repeat' ((first|refine vn rfl ?_|simp (disch:=omega) only [wr64,W7]|refine bo (fun _=>?_) fun _=>?_|refine im fun _=>?_|((repeat refine si ?_); ((first | refine .inl ⟨_,_,_,_,rfl,fun _=>(by first|exact hp),?_⟩|refine ⟨_,_,_,_,rfl,fun _=>(by first|exact hp),?_⟩); (first|refine o1 ?_|refine o2 ?_|refine o3 ?_|refine o4 ?_)))|refine cF ?_|refine om ?_|refine an ?_|fail) <;> try simp only [zN,zT,zV,zS,zU,Q0,Q1,ex,Q2,Q3,Q4,Q5,Q6,Q7,Q8,Q9,QA,QB,QC,W0,W1,W2,W3,W4,W5,W6,reduceIte,hf1]))
    all_goals try (exfalso; omega)
    have hflt:=at_lt hf
    refine AWPC.loopE (α:={ x:Nat × Nat × List Nt × Sto // DelS q l x.2.2.1 x.1 x.2.1 }) [5,6] (fun x=>[(5,n x.1.1),(6,n x.1.2.1)])
      (fun x=>σ.upd f 0 ⟨68,38,x.1.2.2.1.map Nt.cs,none⟩++x.1.2.2.2) (fun x=>l.length - x.1.2.1) ⟨(i,i+1,l,[]),DelS.init hil hqi (fun j hj=>by simpa using hqj j hj)⟩ ?_ (by rw [upd_self hf,List.append_nil]) ?_
    · (simp only [zN,zT,zV,zS,zU,Q0,Q1,ex,Q2,Q3,Q4,Q5,Q6,Q7,Q8,Q9,QA,QB,QC,W0,W1,W2,W3,W4,W5,W6,reduceIte]; try simp)
    · rintro ⟨⟨i,j,R,μ⟩,hD⟩
      simp only at hD
      obtain ⟨U,hU⟩:∃ U,U=σ.upd f 0 ⟨68,38,R.map Nt.cs,none⟩:=⟨_,rfl⟩
      have hUl:List.length U=List.length σ:=by rw [hU,upd_length]
      have hA:∀ μ,Sto.at (U++μ) f 0=some ⟨68,38,R.map Nt.cs,none⟩:=fun μ=>by rw [at_appL (by omega),hU,at_upd_same hf]
      have hB:∀ o μ,Sto.upd (U++μ) f 0 o=σ.upd f 0 o++μ:=fun o μ=>by rw [upd_appL (by omega),hU,upd_upd hf]
      simp only [← hU]
      have hRl:=hD.len
      have hi1:=hD.lt
      by_cases hlt:j < l.length
      · obtain ⟨a,ha⟩:∃ a,l[j]?=some a:=⟨_,List.getElem?_eq_getElem hlt⟩
        have hs:(R.map Nt.cs).getD j []=Nt.cs a:=getD_map ((hD.get hlt).trans ha)
        have hca:=hq a
        have hset:(R.map Nt.cs).set i (Nt.cs a)=(R.set i a).map Nt.cs:=by rw [List.map_set]
        cases hqa:q a with
        | true =>
          rw [hqa] at hca
          have hN:=hD.skip ha hqa
          (repeat' ((first|refine vn rfl ?_|simp (disch:=omega) only [wr64,W7]|refine bo (fun _=>?_) fun _=>?_|refine im fun _=>?_|((repeat refine si ?_); (first|((first|refine .inl ⟨_,_,_,_,rfl,fun _=>pu hca,?_⟩|refine ⟨_,_,_,_,rfl,fun _=>pu hca,?_⟩); (first|refine o1 ?_|refine o2 ?_|refine o3 ?_|refine o4 ?_)) | refine .inl ⟨_,_,_,_,rfl,pu hca,?_⟩))|refine cF ?_|refine om ?_|refine an ?_|fail) <;> try simp only [zN, zT, zV, zS, zU, Q0, Q1, ex, Q2, Q3, Q4, Q5, Q6, Q7, Q8, Q9, QA, QB, QC, W0, W1, W2, W3, W4, W5, W6, reduceIte, hA, hB, hs, hRl, at_app, at_app0, upd_app, upd_app0, List.length_map, List.append_assoc, List.cons_append, List.nil_append]))
          all_goals try (exfalso; omega)
          exact ⟨⟨(i,j+1,R,μ++[some [⟨68,38,[a.cs],none⟩]]),hN⟩,by simp,by rw [hU],by simp only; omega⟩
        | false =>
          rw [hqa] at hca
          have hN:=hD.keep ha hqa
          have hsi:(R.map Nt.cs).getD i []=Nt.cs (R.getD i nt0):=row nt0 (by omega)
          (repeat' ((first|refine vn rfl ?_|simp (disch:=omega) only [wr64,W7]|refine bo (fun _=>?_) fun _=>?_|refine im fun _=>?_|((repeat refine si ?_); (first|((first|refine .inl ⟨_,_,_,_,rfl,fun _=>pu hca,?_⟩|refine ⟨_,_,_,_,rfl,fun _=>pu hca,?_⟩); (first|refine o1 ?_|refine o2 ?_|refine o3 ?_|refine o4 ?_)) | refine .inl ⟨_,_,_,_,rfl,pu hca,?_⟩))|refine cF ?_|refine om ?_|refine an ?_|fail) <;> try simp only [zN, zT, zV, zS, zU, Q0, Q1, ex, Q2, Q3, Q4, Q5, Q6, Q7, Q8, Q9, QA, QB, QC, W0, W1, W2, W3, W4, W5, W6, reduceIte, hA, hB, hs, hsi, hRl, hset, at_app, at_app0, upd_app, upd_app0, List.length_map, List.append_assoc, List.cons_append, List.nil_append]))
          all_goals try (exfalso; omega)
          exact ⟨⟨(i+1,j+1,R.set i a,μ++[some [⟨68,38,[a.cs],none⟩]]),hN⟩,by simp,rfl,by simp only; omega⟩
      · obtain rfl:j=l.length:=by have:=hD.le; omega
        ((first|refine vn rfl ?_|simp (disch:=omega) only [wr64,W7]|refine bo (fun _=>?_) fun _=>?_|refine im fun _=>?_|refine cF ?_|refine om ?_|refine an ?_|fail) <;> try simp only [zN, zT, zV, zS, zU, Q0, Q1, ex, Q2, Q3, Q4, Q5, Q6, Q7, Q8, Q9, QA, QB, QC, W0, W1, W2, W3, W4, W5, W6, reduceIte, hA, hRl, List.length_map])
        ((first|refine vn rfl ?_|simp (disch:=omega) only [wr64,W7]|refine bo (fun _=>?_) fun _=>?_|refine im fun _=>?_|refine cF ?_|refine om ?_|refine an ?_|fail) <;> try simp only [zN, zT, zV, zS, zU, Q0, Q1, ex, Q2, Q3, Q4, Q5, Q6, Q7, Q8, Q9, QA, QB, QC, W0, W1, W2, W3, W4, W5, W6, reduceIte, hA, hRl, List.length_map])
        ((first|refine vn rfl ?_|simp (disch:=omega) only [wr64,W7]|refine bo (fun _=>?_) fun _=>?_|refine im fun _=>?_|refine cF ?_|refine om ?_|refine an ?_|fail) <;> try simp only [zN, zT, zV, zS, zU, Q0, Q1, ex, Q2, Q3, Q4, Q5, Q6, Q7, Q8, Q9, QA, QB, QC, W0, W1, W2, W3, W4, W5, W6, reduceIte, hA, hRl, List.length_map])
        ((first|refine vn rfl ?_|simp (disch:=omega) only [wr64,W7]|refine bo (fun _=>?_) fun _=>?_|refine im fun _=>?_|refine cF ?_|refine om ?_|refine an ?_|fail) <;> try simp only [zN, zT, zV, zS, zU, Q0, Q1, ex, Q2, Q3, Q4, Q5, Q6, Q7, Q8, Q9, QA, QB, QC, W0, W1, W2, W3, W4, W5, W6, reduceIte, hA, hRl, List.length_map])
        ((first|refine vn rfl ?_|simp (disch:=omega) only [wr64,W7]|refine bo (fun _=>?_) fun _=>?_|refine im fun _=>?_|refine cF ?_|refine om ?_|refine an ?_|fail) <;> try simp only [zN, zT, zV, zS, zU, Q0, Q1, ex, Q2, Q3, Q4, Q5, Q6, Q7, Q8, Q9, QA, QB, QC, W0, W1, W2, W3, W4, W5, W6, reduceIte, hA, hB, hRl, List.length_map])
        have hm1:(List.take i (R.map Nt.cs)).length=i:=by rw [List.length_take,List.length_map]; omega
        have hfin:R.take i=l.filter fun a=>!q a:=by rw [hD.tk,List.take_length]
        refine AWPC.freeze1 (t:=0) (f:=f) (n:=l.length) (o:=⟨68,38,List.take i (R.map Nt.cs)++List.replicate (l.length - i) (vs z38),none⟩) rfl (by rw [at_appL (by rw [upd_length]; omega),at_upd_same hf])
          (by simp only [List.length_append,hm1,List.length_replicate]; omega) (by simp) ?_
        have hlen2:((List.take i (R.map Nt.cs)++List.replicate (l.length - i) (vs z38)).length:Int)=l.length:=by simp only [List.length_append,hm1,List.length_replicate]; omega
        have htk2:List.take i (List.take i (R.map Nt.cs)++List.replicate (l.length - i) (vs z38))=(l.filter fun a=>!q a).map Nt.cs:=by
          rw [List.take_append_of_le_length (by omega),List.take_take,Nat.min_self,← List.map_take,hfin]
        generalize List.take i (R.map Nt.cs)++List.replicate (l.length - i) (vs z38)=es at hlen2 htk2
        (repeat' ((first|refine vn rfl ?_|simp (disch:=omega) only [wr64,W7]|refine bo (fun _=>?_) fun _=>?_|refine im fun _=>?_|refine cF ?_|refine om ?_|refine an ?_|fail) <;> try simp only [zN, zT, zV, zS, zU, Q0, Q1, ex, Q2, Q3, Q4, Q5, Q6, Q7, Q8, Q9, QA, QB, QC, W0, W1, W2, W3, W4, W5, W6, reduceIte, hlen2, htk2]))
        refine ⟨by simp [sideL,ov,gt,cnd],⟨by omega,by omega,by omega⟩,?_⟩
        (repeat' ((first|refine vn rfl ?_|simp (disch:=omega) only [wr64,W7]|refine bo (fun _=>?_) fun _=>?_|refine im fun _=>?_|refine cF ?_|refine om ?_|refine an ?_|fail) <;> try simp only [zN, zT, zV, zS, zU, Q0, Q1, ex, Q2, Q3, Q4, Q5, Q6, Q7, Q8, Q9, QA, QB, QC, W0, W1, W2, W3, W4, W5, W6, reduceIte]))
        exact .mk μ rfl (gone_upd hf)
theorem AsOf_spec (b:Bse) (hb:bseSz b) (l:List Nt) (hl:setSz l) (h4:noH l) (day clock:Int):Pure Tryz.prog 23 [.agg b.cs,ntS l,n day,n clock] (.tup [.agg (asofE b l day clock).1.cs,n (asofE b l day clock).2]):=by
  refine Pure.of_body Tryz.call23 Tryz.func23 k23 (Nat.le_of_ble_eq_true rfl) ?_
  unfold c23
  have h1:=asked_spec b hb [l] (by simp) (by simpa using hl)
  by_cases ha:askedE b [l]=0
  · have hE:asofE b l day clock=(foldT b (l.filter fun a=>decide (a.day≤day∧a.clock≤clock)),0):=by unfold asofE; rw [if_neg (by omega)]
    rw [hE]
    rw [ha] at h1
    have hok:=(askedE_ok ha).2 l (by simp)
    have h400:=(setE_ok hok).2.1
    have h2:=fold_ok b l (l.filter fun a=>decide (a.day≤day∧a.clock≤clock)) hl hok List.filter_sublist (fun a ha=>h4 a (List.mem_filter.1 ha).1)
    generalize foldT b (l.filter fun a=>decide (a.day≤day∧a.clock≤clock))=r at h2
    have hd:=fun σ f=>delete_does (fun a=>!decide (a.day≤day∧a.clock≤clock)) 84 [.iptr [n day] 0,.iptr [n clock] 0] (by simp) (fun a=>asOf1_spec day clock a) σ f l hl.1
    have hnn:(l.filter fun a=>!!decide (a.day≤day∧a.clock≤clock))=l.filter fun a=>decide (a.day≤day∧a.clock≤clock):=by simp
    (repeat' ((first|refine vn rfl ?_|simp (disch:=omega) only [wr64,W7]|refine bo (fun _=>?_) fun _=>?_|refine im fun _=>?_|((repeat refine si ?_); (first|((first|refine .inl ⟨_,_,_,_,rfl,fun _=>pu h1,?_⟩|refine ⟨_,_,_,_,rfl,fun _=>pu h1,?_⟩); (first|refine o1 ?_|refine o2 ?_|refine o3 ?_|refine o4 ?_)) | refine .inl ⟨_,_,_,_,rfl,pu h1,?_⟩))|refine cF ?_|refine om ?_|refine an ?_|fail) <;> try simp only [zN,zT,zV,zS,zU,Q0,Q1,ex,Q2,Q3,Q4,Q5,Q6,Q7,Q8,Q9,QA,QB,QC,W0,W1,W2,W3,W4,W5,W6,reduceIte]))
    all_goals try (exfalso; omega)
    refine .inr ⟨_,_,_,_,rfl,cloneNtD l (by omega) _,?_⟩
    rintro r1 σ1 ⟨ν1,rfl,rfl⟩
    simp only [zN,zT,zV,zS,zU,Q0,Q1,ex,Q2,Q3,Q4,Q5,Q6,Q7,Q8,Q9,QA,QB,QC,W0,W1,W2,W3,W4,W5,W6,reduceIte,List.length_map]
    refine .inr ⟨_,_,_,_,rfl,hd _ 1 rfl,?_⟩
    rintro r1 σ1 ⟨ν2,rfl,rfl⟩
    simp only [hnn]
    simp only [zN,zT,zV,zS,zU,Q0,Q1,ex,Q2,Q3,Q4,Q5,Q6,Q7,Q8,Q9,QA,QB,QC,W0,W1,W2,W3,W4,W5,W6,reduceIte]
    (repeat' ((first|refine vn rfl ?_|simp (disch:=omega) only [wr64,W7]|refine bo (fun _=>?_) fun _=>?_|refine im fun _=>?_|((repeat refine si ?_); (first|((first|refine .inl ⟨_,_,_,_,rfl,fun _=>pu h2,?_⟩|refine ⟨_,_,_,_,rfl,fun _=>pu h2,?_⟩); (first|refine o1 ?_|refine o2 ?_|refine o3 ?_|refine o4 ?_)) | refine .inl ⟨_,_,_,_,rfl,pu h2,?_⟩))|refine cF ?_|refine om ?_|refine an ?_|fail) <;> try simp only [zN,zT,zV,zS,zU,Q0,Q1,ex,Q2,Q3,Q4,Q5,Q6,Q7,Q8,Q9,QA,QB,QC,W0,W1,W2,W3,W4,W5,W6,reduceIte]))
    exact Frz.tupL ⟨Frz.pure (rgr_pa r),Frz.pure (by simp),trivial⟩
  · have hE:asofE b l day clock=(rgr0,askedE b [l]):=by unfold asofE; rw [if_pos ha]
    rw [hE]
    generalize askedE b [l]=e at h1 ha
    (repeat' ((first|refine vn rfl ?_|simp (disch:=omega) only [wr64,W7]|refine bo (fun _=>?_) fun _=>?_|refine im fun _=>?_|((repeat refine si ?_); (first|((first|refine .inl ⟨_,_,_,_,rfl,fun _=>pu h1,?_⟩|refine ⟨_,_,_,_,rfl,fun _=>pu h1,?_⟩); (first|refine o1 ?_|refine o2 ?_|refine o3 ?_|refine o4 ?_)) | refine .inl ⟨_,_,_,_,rfl,pu h1,?_⟩))|refine cF ?_|refine om ?_|refine an ?_|fail) <;> try simp only [zN,zT,zV,zS,zU,Q0,Q1,ex,Q2,Q3,Q4,Q5,Q6,Q7,Q8,Q9,QA,QB,QC,W0,W1,W2,W3,W4,W5,W6,reduceIte]))
    all_goals try (exfalso; omega)
    exact Frz.tupL ⟨Frz.aggL ⟨Frz.nil0,Frz.nil0,Frz.nil0,Frz.nil0,trivial⟩,Frz.pure (by simp),trivial⟩
end Go.Proofs.YtolgelipcgcbhaaGreat
