/- no two sheets of a register have one station and week, or one name, and each is that of a note that stands, with right marks -/
import Derived.Test.YtolgelipcgcbhaaGreatBj11
import Derived.Test.YtolgelipcgcbhaaGreatRows
import Derived.WalkKit
import Derived.ProofKit
import Derived.OpenShut
import Derived.ShutString
import Derived.ChangeOld
import Derived.Below
namespace Go.Proofs.YtolgelipcgcbhaaGreat
open Go.Abs
open Nat (reduceAdd reduceSub reduceLT reduceLeDiff reduceMul reduceEqDiff)
set_option linter.unusedVariables false
set_option linter.unusedSimpArgs false
set_option maxHeartbeats 4000000
set_option maxRecDepth 100000
open Go.ChangeShapes Go.WideShapes Go.ChangeAt Go.RowKit
set_option maxRecDepth 100000 in
theorem lifted13 (os:Os) (started:os.Started) (H:Type) (enc:TypeId × Value→H) :
    ReturnsInHanded {} Tryz.checked os 13 .any (Rows.archiveOneSpec.pre6 enc Tryz.prog Tryz.f13 Rows.archiveOneRow.domain false) (Rows.archiveOneSpec.post enc Tryz.prog Tryz.f13 false true false false):=by
  refine returnsInHanded_of_change (C:=Tryz.checked) own started (by kernel_rfl) Tryz.func13
    (ChangeSpec.witness6 (enc:=enc) (C:=Tryz.checked) false ⟨#[],#[.agg #[.slice none 0 0,.int .i64 0,.int .i64 0,.int .i64 0,.int .i64 0,.int .i64 0],.slice none 0 0],[]⟩ 8 (by kernel_rfl) (by kernel_rfl) (by kernel_rfl) (by kernel_rfl)) ?_
  intro W base args ds gs before hval0 hW hcnd _
  have hval:∀ (j:Nat) t v,Tryz.f13.params[j]?=some t→args[j]?=some v→Value.okWide Tryz.prog W .any base t v:=hval0
  have hW':=hW
  obtain ⟨p,q,hA0,hV,rfl,hfz,hnd⟩:=hW
  have hA:DataW.TrodAll enc Tryz.prog W 0 (fun _=>true) true Tryz.f13.params.toList args.toList ds p:=hA0
  rw [Tryz.params13] at hA hval
  obtain ⟨v0,vs0,d0,ds0,p0,q0,hargs,rfl,rfl,h0,r0⟩:=trodAll_cons hA
  obtain ⟨v1,vs1,d1,ds1,p1,q1,rfl,rfl,rfl,h1,r1⟩:=trodAll_cons r0
  obtain ⟨rfl,rfl,rfl⟩:=trodAll_nil r1
  obtain rfl:args=#[v0,v1]:=by cases args; simp_all
  obtain ⟨rfl,rfl⟩:=trodVars_none hV
  have lt0:∀ x∈p0,x.block < W.heap.size:=by obtain ⟨m,hm⟩:=h0; exact DataW.trod_lt m _ _ _ hm
  have lt1:∀ x∈p1,x.block < W.heap.size:=by obtain ⟨m,hm⟩:=h1; exact DataW.trod_lt m _ _ _ hm
  obtain ⟨a0,hb0,ha0⟩:=open_bse (hval 0 26 v0 rfl rfl) h0
  obtain ⟨a1,hb1,ha1⟩:=open_set (hval 1 27 v1 rfl rfl) h1
  clear hA0 hval0
  refine (below_of_pure (One_spec a0 a1 hb0 hb1) W [v0,v1] rfl (fun i hi=>?_)).mono fun e W' ⟨x,he,hx,bel⟩=>?_
  · match i,hi with
    | 0,_=>exact ha0
    | 1,_=>exact ha1
  subst he
  have hx':=hx.inv_v
  subst hx'
  exact ⟨_,rfl,_,_,_,[],_,[],hW',trodAll_mk1 (shut_bool Tryz.underlying4 _),(trodAll_cons_mk (Below.trod laidOut (by kernel_rfl) (of_decide_eq_true (by kernel_rfl)) h0 bel lt0) (trodAll_cons_mk (Below.trod laidOut (by kernel_rfl) (of_decide_eq_true (by kernel_rfl)) h1 bel lt1) trodAll_mk0)),rfl,bel.frame _,fun h=>by cases h⟩
theorem j_wf13:(Rows.archiveOneRow.wf (OpenSpec.ofChange Rows.archiveOneSpec))=true:=by kernel_rfl
theorem j_pa13:(Tryz.f13.params.all (Tryz.prog.readableRec ·))=true:=by kernel_rfl
theorem j_nt13:(namedTie Tryz.prog Rows.archiveOneRow.named Rows.archiveOneSpec.vars)=true:=by kernel_rfl
theorem j_ip13:((Rows.archiveOneRow.inPlace == Tryz.prog.inPlace 13))=true:=by kernel_rfl
theorem j_uf13:((Rows.archiveOneRow.unfollowed == Tryz.prog.unfollowed 13))=true:=by kernel_rfl
theorem j_rc13:((Rows.archiveOneRow.recurses == Tryz.prog.recurses 13))=true:=by kernel_rfl
theorem j_nm13:((Rows.archiveOneRow.named == Tryz.prog.varsNamed 13))=true:=by kernel_rfl
theorem j_mp13:((Rows.archiveOneRow.maps == (Tryz.f13.params.toList++Rows.archiveOneSpec.plain.varTypes Tryz.prog).any (Tryz.prog.mapsRec ·)))=true:=by kernel_rfl
theorem j_if13:((Rows.archiveOneRow.ifaces == (Tryz.f13.params.toList++Rows.archiveOneSpec.plain.varTypes Tryz.prog).any (Tryz.prog.ifacesRec ·)))=true:=by kernel_rfl
theorem j_mo13:((Rows.archiveOneRow.mapsOut == Tryz.prog.mapsAmong Tryz.f13.resultTypes.toList))=true:=by kernel_rfl
theorem j_lo13:((Rows.archiveOneRow.loops == (Tryz.f13.params.toList++Rows.archiveOneSpec.plain.varTypes Tryz.prog).any (Tryz.prog.loopsFrom ·)))=true:=by kernel_rfl
theorem j_wk13:((Rows.archiveOneRow.wideKeys == (Tryz.f13.params.toList++Rows.archiveOneSpec.plain.varTypes Tryz.prog++Tryz.f13.resultTypes.toList).any (Tryz.prog.wideKeysFrom ·)))=true:=by kernel_rfl
theorem j_va13:(Rows.archiveOneSpec.vars.all (Tryz.prog.varReadable ·))=true:=by kernel_rfl
theorem j_rt13:(Tryz.f13.resultTypes.all (fun t=>Tryz.prog.readableRec t && decide (t < Tryz.prog.types.size)))=true:=by kernel_rfl
theorem j_io13:((Rows.archiveOneRow.ifacesOut == Tryz.f13.resultTypes.toList.any (Tryz.prog.ifacesRec ·)))=true:=by kernel_rfl
theorem j_lu13:((Rows.archiveOneRow.loopsOut == Tryz.f13.resultTypes.toList.any (Tryz.prog.loopsFrom ·)))=true:=by kernel_rfl
theorem j_ve13:((Rows.archiveOneRow.veiled == (Tryz.f13.params.toList++Rows.archiveOneSpec.plain.varTypes Tryz.prog++Tryz.f13.resultTypes.toList).any (Tryz.prog.veiledRec ·)))=true:=by kernel_rfl
theorem j_vf13:(Rows.archiveOneRow.veiledFits Tryz.prog Tryz.f13.params.toList (Tryz.f13.params.toList++Rows.archiveOneSpec.plain.varTypes Tryz.prog++Tryz.f13.resultTypes.toList))=true:=by kernel_rfl
theorem joined13:joinedFacts Tryz.prog 13 Tryz.f13 Rows.archiveOneSpec Rows.archiveOneRow=true:=by
  unfold joinedFacts
  exact (bband (bband (bband (bband (bband (bband (bband (bband (bband (bband (bband (bband (bband (bband (bband (bband (bband (bband (bband (bband (bband (bband (bband (bband (bband (bband (bband (bband (bband (bband (bband j_wf13 laidOut) mapsR) j_pa13) j_nt13) (by kernel_rfl)) stopsN) (by kernel_rfl)) knobsN) j_ip13) j_uf13) j_rc13) j_nm13) j_mp13) j_if13) j_mo13) j_lo13) j_wk13) j_va13) j_rt13) j_io13) j_lu13) plainK) (by kernel_rfl)) heardS) entersM) liftsF) makeP) (by kernel_rfl)) (by kernel_rfl)) j_ve13) j_vf13)
theorem over13:Rows.archiveOneRow.holds Tryz.pinned (OpenSpec.ofChange Rows.archiveOneSpec) :=
  OpenClaim.holds_of_wide 13 Tryz.f13 rfl rfl rfl rfl rfl rfl rfl ⟨rfl,rfl,rfl,rfl,rfl⟩ rfl rfl rfl rfl rfl (by kernel_rfl) Tryz.func13 joined13
    (of_decide_eq_true (by kernel_rfl)) (by unfold Func.isWrapper; first | (rw [if_pos (by decide +kernel)]; kernel_rfl) | (rw [if_neg (by decide +kernel)]; exact ⟨rfl,rfl⟩))
    (fun os started H enc _=>lifted13 os started H enc)
theorem proved:Rows.ArchiveOneSaid:=over13
end Go.Proofs.YtolgelipcgcbhaaGreat

