/- joined, forked and standing sets are as the reference has them -/
import Derived.Test.YtolgelipcgcbhaaGreatBe11
import Derived.Test.YtolgelipcgcbhaaGreatRows
import Derived.WalkKit
import Derived.ProofKit
import Derived.OpenShut
import Derived.ShutString
import Derived.ChangeOld
import Derived.Below
namespace Go.Proofs.YtolgelipcgcbhaaGreat
open Go.Abs
open Nat (reduceAdd reduceSub reduceLT reduceLeDiff reduceMul reduceEqDiff)
set_option linter.unusedVariables false
set_option linter.unusedSimpArgs false
set_option maxHeartbeats 4000000
set_option maxRecDepth 100000
open Go.ChangeShapes Go.WideShapes Go.ChangeAt Go.RowKit
set_option maxRecDepth 100000 in
theorem lifted17 (os:Os) (started:os.Started) (H:Type) (enc:TypeId × Value→H) :
    ReturnsInHanded {} Tryz.checked os 17 .any (Rows.archiveSetsSpec.pre6 enc Tryz.prog Tryz.f17 Rows.archiveSetsRow.domain false) (Rows.archiveSetsSpec.post enc Tryz.prog Tryz.f17 false true false false):=by
  refine returnsInHanded_of_change (C:=Tryz.checked) own started (by kernel_rfl) Tryz.func17
    (ChangeSpec.witness6 (enc:=enc) (C:=Tryz.checked) false ⟨#[],#[.agg #[.slice none 0 0,.int .i64 0,.int .i64 0,.int .i64 0,.int .i64 0,.int .i64 0],.slice none 0 0,.slice none 0 0],[]⟩ 8 (by kernel_rfl) (by kernel_rfl) (by kernel_rfl) (by kernel_rfl)) ?_
  intro W base args ds gs before hval0 hW hcnd _
  have hval:∀ (j:Nat) t v,Tryz.f17.params[j]?=some t→args[j]?=some v→Value.okWide Tryz.prog W .any base t v:=hval0
  have hW':=hW
  obtain ⟨p,q,hA0,hV,rfl,hfz,hnd⟩:=hW
  have hA:DataW.TrodAll enc Tryz.prog W 0 (fun _=>true) true Tryz.f17.params.toList args.toList ds p:=hA0
  rw [Tryz.params17] at hA hval
  obtain ⟨v0,vs0,d0,ds0,p0,q0,hargs,rfl,rfl,h0,r0⟩:=trodAll_cons hA
  obtain ⟨v1,vs1,d1,ds1,p1,q1,rfl,rfl,rfl,h1,r1⟩:=trodAll_cons r0
  obtain ⟨v2,vs2,d2,ds2,p2,q2,rfl,rfl,rfl,h2,r2⟩:=trodAll_cons r1
  obtain ⟨rfl,rfl,rfl⟩:=trodAll_nil r2
  obtain rfl:args=#[v0,v1,v2]:=by cases args; simp_all
  obtain ⟨rfl,rfl⟩:=trodVars_none hV
  have lt0:∀ x∈p0,x.block < W.heap.size:=by obtain ⟨m,hm⟩:=h0; exact DataW.trod_lt m _ _ _ hm
  have lt1:∀ x∈p1,x.block < W.heap.size:=by obtain ⟨m,hm⟩:=h1; exact DataW.trod_lt m _ _ _ hm
  have lt2:∀ x∈p2,x.block < W.heap.size:=by obtain ⟨m,hm⟩:=h2; exact DataW.trod_lt m _ _ _ hm
  obtain ⟨a0,hb0,ha0⟩:=open_bse (hval 0 26 v0 rfl rfl) h0
  obtain ⟨a1,hb1,ha1⟩:=open_set (hval 1 27 v1 rfl rfl) h1
  obtain ⟨a2,hb2,ha2⟩:=open_set (hval 2 27 v2 rfl rfl) h2
  clear hA0 hval0
  refine (below_of_pure (Sets_spec a0 a1 a2 hb0 hb1 hb2) W [v0,v1,v2] rfl (fun i hi=>?_)).mono fun e W' ⟨x,he,hx,bel⟩=>?_
  · match i,hi with
    | 0,_=>exact ha0
    | 1,_=>exact ha1
    | 2,_=>exact ha2
  subst he
  have hx':=hx.inv_v
  subst hx'
  exact ⟨_,rfl,_,_,_,[],_,[],hW',trodAll_mk1 (shut_bool Tryz.underlying4 _),(trodAll_cons_mk (Below.trod laidOut (by kernel_rfl) (of_decide_eq_true (by kernel_rfl)) h0 bel lt0) (trodAll_cons_mk (Below.trod laidOut (by kernel_rfl) (of_decide_eq_true (by kernel_rfl)) h1 bel lt1) (trodAll_cons_mk (Below.trod laidOut (by kernel_rfl) (of_decide_eq_true (by kernel_rfl)) h2 bel lt2) trodAll_mk0))),rfl,bel.frame _,fun h=>by cases h⟩
theorem j_wf17:(Rows.archiveSetsRow.wf (OpenSpec.ofChange Rows.archiveSetsSpec))=true:=by kernel_rfl
theorem j_pa17:(Tryz.f17.params.all (Tryz.prog.readableRec ·))=true:=by kernel_rfl
theorem j_nt17:(namedTie Tryz.prog Rows.archiveSetsRow.named Rows.archiveSetsSpec.vars)=true:=by kernel_rfl
theorem j_ip17:((Rows.archiveSetsRow.inPlace == Tryz.prog.inPlace 17))=true:=by kernel_rfl
theorem j_uf17:((Rows.archiveSetsRow.unfollowed == Tryz.prog.unfollowed 17))=true:=by kernel_rfl
theorem j_rc17:((Rows.archiveSetsRow.recurses == Tryz.prog.recurses 17))=true:=by kernel_rfl
theorem j_nm17:((Rows.archiveSetsRow.named == Tryz.prog.varsNamed 17))=true:=by kernel_rfl
theorem j_mp17:((Rows.archiveSetsRow.maps == (Tryz.f17.params.toList++Rows.archiveSetsSpec.plain.varTypes Tryz.prog).any (Tryz.prog.mapsRec ·)))=true:=by kernel_rfl
theorem j_if17:((Rows.archiveSetsRow.ifaces == (Tryz.f17.params.toList++Rows.archiveSetsSpec.plain.varTypes Tryz.prog).any (Tryz.prog.ifacesRec ·)))=true:=by kernel_rfl
theorem j_mo17:((Rows.archiveSetsRow.mapsOut == Tryz.prog.mapsAmong Tryz.f17.resultTypes.toList))=true:=by kernel_rfl
theorem j_lo17:((Rows.archiveSetsRow.loops == (Tryz.f17.params.toList++Rows.archiveSetsSpec.plain.varTypes Tryz.prog).any (Tryz.prog.loopsFrom ·)))=true:=by kernel_rfl
theorem j_wk17:((Rows.archiveSetsRow.wideKeys == (Tryz.f17.params.toList++Rows.archiveSetsSpec.plain.varTypes Tryz.prog++Tryz.f17.resultTypes.toList).any (Tryz.prog.wideKeysFrom ·)))=true:=by kernel_rfl
theorem j_va17:(Rows.archiveSetsSpec.vars.all (Tryz.prog.varReadable ·))=true:=by kernel_rfl
theorem j_rt17:(Tryz.f17.resultTypes.all (fun t=>Tryz.prog.readableRec t && decide (t < Tryz.prog.types.size)))=true:=by kernel_rfl
theorem j_io17:((Rows.archiveSetsRow.ifacesOut == Tryz.f17.resultTypes.toList.any (Tryz.prog.ifacesRec ·)))=true:=by kernel_rfl
theorem j_lu17:((Rows.archiveSetsRow.loopsOut == Tryz.f17.resultTypes.toList.any (Tryz.prog.loopsFrom ·)))=true:=by kernel_rfl
theorem j_ve17:((Rows.archiveSetsRow.veiled == (Tryz.f17.params.toList++Rows.archiveSetsSpec.plain.varTypes Tryz.prog++Tryz.f17.resultTypes.toList).any (Tryz.prog.veiledRec ·)))=true:=by kernel_rfl
theorem j_vf17:(Rows.archiveSetsRow.veiledFits Tryz.prog Tryz.f17.params.toList (Tryz.f17.params.toList++Rows.archiveSetsSpec.plain.varTypes Tryz.prog++Tryz.f17.resultTypes.toList))=true:=by kernel_rfl
theorem joined17:joinedFacts Tryz.prog 17 Tryz.f17 Rows.archiveSetsSpec Rows.archiveSetsRow=true:=by
  unfold joinedFacts
  exact (bband (bband (bband (bband (bband (bband (bband (bband (bband (bband (bband (bband (bband (bband (bband (bband (bband (bband (bband (bband (bband (bband (bband (bband (bband (bband (bband (bband (bband (bband (bband j_wf17 laidOut) mapsR) j_pa17) j_nt17) (by kernel_rfl)) stopsN) (by kernel_rfl)) knobsN) j_ip17) j_uf17) j_rc17) j_nm17) j_mp17) j_if17) j_mo17) j_lo17) j_wk17) j_va17) j_rt17) j_io17) j_lu17) plainK) (by kernel_rfl)) heardS) entersM) liftsF) makeP) (by kernel_rfl)) (by kernel_rfl)) j_ve17) j_vf17)
theorem over17:Rows.archiveSetsRow.holds Tryz.pinned (OpenSpec.ofChange Rows.archiveSetsSpec) :=
  OpenClaim.holds_of_wide 17 Tryz.f17 rfl rfl rfl rfl rfl rfl rfl ⟨rfl,rfl,rfl,rfl,rfl⟩ rfl rfl rfl rfl rfl (by kernel_rfl) Tryz.func17 joined17
    (of_decide_eq_true (by kernel_rfl)) (by unfold Func.isWrapper; first | (rw [if_pos (by decide +kernel)]; kernel_rfl) | (rw [if_neg (by decide +kernel)]; exact ⟨rfl,rfl⟩))
    (fun os started H enc _=>lifted17 os started H enc)
theorem proved:Rows.ArchiveSetsSaid:=over17
end Go.Proofs.YtolgelipcgcbhaaGreat

